/- Contracts of functions over the abstract machine. No conditions. -/
import Derived.Test.YtacmbogmbfmjeaaGreatStC
import Derived.Test.YtacmbogmbfmjeaaGreatStA
import Derived.Test.YtacmbogmbfmjeaaGreatStB
import Derived.Test.YtacmbogmbfmjeaaGreatAM5
set_option linter.unusedVariables false
set_option linter.unusedSimpArgs false
set_option maxRecDepth 100000
namespace Go.AM
attribute [local irreducible] W
open X
def BG (x:Dk):Prop:=x.1.length<1000000∧x.2.1.length<1000000∧(∀ b ∈ x.1,b.length<1000000)∧∀ w ∈ x.2.1,w.2.length<1000000
variable {x:Dk}
theorem Zl4 (h:¬Fv x):BG x:=by
 obtain ⟨⟨h1,h2⟩,-,h3,h4⟩:=Wv h
 exact ⟨by omega,by omega,fun b hb=>by have:=h3 b hb;omega,fun w hw=>by have:=h4 w hw;omega⟩
variable {y:DK}
theorem KI (h:DKof x y) (hs:BG x):y.ok:=by
 obtain ⟨h1,h2,h3,h4⟩:=hs
 refine ⟨h.a,?_,?_,?_,?_⟩
 ·rw [h.a.bs.length,h.b];exact h1
 ·rw [show y.ws.length=x.2.1.length by rw [← h.w,Zpq]];exact h2
 ·rw [h.b];exact h3
 ·intro w hw
  exact h4 (w.at_,w.b) (by rw [← h.w];exact Zqj.2 ⟨w,hw,rfl⟩)
def Cy:Dk->Prop
 | (bs,ws,dd)=>(1≤bs.length∧bs.length≤256∧ws.length≤1024)∧(∀ b ∈ bs,BM b)∧(∀ w ∈ ws,0≤w.1∧w.1<bs.length∧BM w.2)∧(dd=true->ws.length=0∧∀ b ∈ bs,b.length=0)
theorem odd_sized {b:List Nat}:Ba b.length=false↔BM b:=by
 unfold Ba BM
 simp only [Bool.and_eq_false_iff,Zqp,Decidable.not_not]
theorem KO (h:DKof x y):(AX y=true)=Cy x:=by
 obtain ⟨ha,hb,hw,hd⟩:=h
 have h1:y.us.length=x.1.length:=by rw [ha.bs.length,hb]
 have h2:y.ws.length=x.2.1.length:=by rw [← hw,Zpq]
 obtain ⟨bs,ws,dd⟩:=x
 dsimp only at h1 h2 hb hw hd
 refine propext (dskB_iff.trans ?_)
 unfold Cy
 rw [h1,h2,hb,hd,← hw]
 have e1:(∀ b ∈ bs,Ba b.length=false)↔∀ b ∈ bs,BM b:=forall_congr' fun b=>forall_congr' fun _=>odd_sized
 have e2:(∀ w ∈ y.ws,Bt (bs.length:Int) w=false)↔∀ w ∈ y.ws.map (fun w:WR=>(w.at_,w.b)),0≤(w:Int×List Nat).1∧w.1<bs.length∧BM w.2:=by
  have key:∀ w:WR,Bt (bs.length:Int) w=false↔0≤w.at_∧w.at_<bs.length∧BM w.b:=fun w=>by
   unfold Bt
   simp only [Zq4,Zqp,odd_sized]
   constructor
   ·rintro ⟨⟨a,b⟩,c⟩;exact ⟨by omega,by omega,c⟩
   ·rintro ⟨a,b,c⟩;exact ⟨⟨by omega,by omega⟩,c⟩
  refine ⟨fun h w hw=>?_,fun h w hw=>(key w).2 (h _ (Zqj.2 ⟨w,hw,rfl⟩))⟩
  obtain ⟨u,hu,rfl⟩:=Zqj.1 hw
  exact (key u).1 (h u hu)
 have e3:(∀ b ∈ bs,ER b.length=false)↔∀ b ∈ bs,b.length=0:=by
  refine forall_congr' fun b=>forall_congr' fun _=>?_
  unfold ER;simp only [Zqp];omega
 dsimp only
 rw [e1,e2,e3,Zpq]
def C3 (c:Cfg) (D:List Dk):Prop:=(D.length:Int)=c.members+1∧∀ i<D.length,∀ d,D[i]?=some d->(d.1.length:Int)=(if (i:Int)=c.members then c.log+1 else 1+At c)∧Cy d
noncomputable def m20F:Fn (Cfg×List Dk×Unit):=bF (.g cfgC (.v dkC.sl .nil)) (fun x=>x.1.may∧∀ d ∈ x.2.1,BG d) fun x=>C3 x.1 x.2.1
def Znk:AC:=match a75 with|.mk c _=>c
def Znj:AC:=match a76 with|.mk c _=>c
theorem Zip {e:Env}(hE:EM P e) (h32:Inl e 32 KS [.tmp 2]) (h75:Inl e 75 Znk [.tmp 2]) (h76:Inl e 76 Znj [.tmp 2]) (h77:Con e 77 dmayF.O):OvOk P 31 m20F.O:=by
 refine Bv hE g31 ?_
 rintro ⟨c,D,_⟩ _ ⟨_,_,rfl,⟨rfl,hc⟩,v,_,rfl,⟨_,e0,hD⟩,rfl⟩ ⟨hM,hG⟩ K t f
 cases e0
 obtain ⟨cs,hs',hl,hn⟩:=hD.nth
 have hvf:=hD.hf
 have hcf:hfs c.c=true:=rfl
 have hmm:=BC hM
 have hlog:=Hb hM
 unfold C3 at t f
 dsimp only at t f hl hn hs' hM hG hlog hmm
 unfold Cfg.may at hM
 unfold At at *
 have hms:=DW (a:=c.chunk) (b:=c.rows) (by omega) (by omega)
 show VW P e 0 _ (An [.agg c.c,v] 0 .lf) St0 none [] _
 conv=>whnf
 repeat' (first|((first|refine AD rfl hs' ?_|refine Ac ?_);conv=>whnf)|refine Al ?_ ?_|(intro _;first|omega|conv=>whnf))
 ·exact f (fun q=>by omega) _
 refine Aw hE D.length (fun i=>[(1,v),(2,.ptr 0 0),(5,.int .i64 (i:Int))]) (fun _=>[.row 24 c.c]) (fun i=>∀ j<i,∀ d,D[j]?=some d->(d.1.length:Int)=(if (j:Int)=c.members then c.log+1 else 1+c.chunk*c.rows)∧Cy d) (fun k h=>by omega) (Abs.tells (rs:=[0]) .a) ?_
 intro i hi hI
 conv=>whnf
 refine AD rfl hs' ?_;conv=>whnf
 by_cases hlt:i<D.length
 ·obtain ⟨x,cl,r,hx,hxr,hd⟩:=hn i hlt
  obtain ⟨y,hy,rfl⟩:=IK hxr
  have hng:=hG x (Zp5 hx)
  have hok:=KI hy hng
  have hdk:=KO hy
  have hcl:=fun (Q:AV->St->Prop) s (k:Q (.bool (AX y)) s)=>ESc.fam (e:=e) (k:=Q) (s:=s) dmayF h77 y hok rfl k
  have hf:¬((x.1.length:Int)=(if (i:Int)=c.members then c.log+1 else 1+c.chunk*c.rows)∧Cy x)->∀ s,K (.bool false) s:=fun h=>f fun q=>h (q.2 i hlt x hx)
  have ht:((x.1.length:Int)=(if (i:Int)=c.members then c.log+1 else 1+c.chunk*c.rows)∧Cy x)->∀ j<i+1,∀ d,D[j]?=some d->(d.1.length:Int)=(if (j:Int)=c.members then c.log+1 else 1+c.chunk*c.rows)∧Cy d:=fun h=>AZ hI fun g hg=>by rw [hx] at hg;cases hg;exact h
  rw [← hdk] at hf ht
  obtain ⟨bs,ws,dd⟩:=x
  obtain ⟨bv,wv,hcc,h1,h2⟩:=GI hxr
  rw [hcc] at hd
  have hyv:y.v=.agg [bv,wv,.bool dd]:=by unfold DK.v;rw [hcc]
  replace hcl:∀ (Q:AV->St->Prop) s,Q (.bool (AX y)) s->ESc e 77 [.agg [bv,wv,.bool dd]] s Q:=fun Q s k=>by have:=hcl Q s k;rw [← hyv];exact this
  obtain ⟨xs,k1,l1,-⟩:=h1.nth
  dsimp only at hf ht
  cases hb:AX y <;> rw [hb] at hf ht hcl
  all_goals by_cases him:(i:Int)=c.members
  all_goals (first|rw [Zpn him] at hf ht|rw [Zpr him] at hf ht)
  all_goals repeat' (first|((first|refine Ar hs' hlt hd ?_|refine A8 (cs:=[bv,wv,.bool dd]) rfl ?_|refine As ?_|refine hcl _ _ ?_|refine Am k1 ?_|refine ESc.inl h32 ?_|refine ESc.inl h75 ?_|refine ESc.inl h76 ?_|refine Cs rfl rfl hms ?_|refine Ac ?_|refine Au ?_|refine Av ?_|refine ⟨rfl,?_⟩);conv=>whnf)|refine Aa ?_ ?_|refine Ap ?_ ?_|refine Al ?_ ?_|(intro _;first|omega|conv=>whnf))
  all_goals first
   | exact hf (fun q=>by omega) _
   | exact hf (fun q=>Bool.false_ne_true q.2) _
   | exact ⟨hlt,ht ⟨by omega,rfl⟩,Abs.tells (rs:=[0]) .a⟩
 ·repeat' (first|refine Aa ?_ ?_|(intro _;first|omega|conv=>whnf))
  exact t ⟨by omega,fun j hj=>hI j (by omega)⟩ _
end Go.AM
namespace Go.AM
attribute [local irreducible] W
open X
section
variable {t:AT}{s:St}{k:AV->St->Prop}{x y:AO}
end
structure SX where
 s:Nat
 x:Nat
structure SX.ok (p:SX):Prop where
 s:p.s<4294967296
 x:p.x<256
structure UB.any (x:UB):Prop where
 b:BAt x.u x.b
 l:x.b.length<1000000
theorem UB.inja {x y:UB}(hx:BAt x.u x.b) (hy:BAt y.u y.b) (h:x.u=y.u):x=y:=by
 obtain ⟨u,b⟩:=x
 obtain ⟨u',b'⟩:=y
 dsimp only at hx hy h
 subst h
 rw [hx.inj hy]
structure SB where
 s:Nat
 x:UB
structure SB.ok (p:SB):Prop where
 s:p.s<4294967296
 x:p.x.any
end Go.AM
namespace Go.AM
attribute [local irreducible] W
open X
variable {u:AV}{b:List Nat}
theorem BAt.fz (h:BAt u b) (hb:b≠[]):∃ c x l,u=.fz b.length c (Ad b)∧Ad b=x::l:=by
 have h0:b.length≠0:=fun e=>hb (Zqh.1 e)
 obtain ⟨c,hc⟩:∃ c,u=.fz b.length c (Ad b):=by
  rcases h.1 with ⟨_,h,_⟩|⟨_,h,_⟩|⟨c,h,_⟩
  ·omega
  ·omega
  ·exact ⟨c,h⟩
 cases b with
 | nil=>exact absurd rfl hb
 | cons y l=>exact ⟨c,_,_,hc,rfl⟩
variable {es n:Nat}{l:List AV}
theorem I6 {c:Option Nat}(h:l.length=n*es) (s:St):Dd es (.fz n c l) s=some l:=by
 show Bo (n*es) l=_
 rw [Fz (by omega),Zps (by omega)]
def MX (b:List Nat):AV:=.fz (Ah b).length none (Ad (Ah b))
theorem Zf3 (h:b.length=0∨b.length=128):MX b=Az (Ah b):=by unfold MX;rw [LT h];rfl
def fullF:Fam UB:=⟨UB.any,fun x=>[x.u],fun x=>MX x.b,fun x y hx hy h=>by rw [UB.inja hx.b hy.b (Zpv h).1]⟩
variable {e:Env}
theorem Zf4 (hE:EM P e):OvOk P 202 fullF.O:=by
 refine C7 g202.b fun x hx=>?_
 obtain ⟨u,b⟩:=x
 obtain ⟨hbt,hl⟩:=hx
 have huf:=hbt.1.hf
 dsimp only at huf hbt hl
 refine ⟨by show (AM.hf u && true)=true;rw [huf];rfl,rfl,C.of_G hE g202 ?_⟩
 show VW P e 0 (match Z0 with|.mk c _=>c) (An [u] 0 .lf) St0 none [] (Cq [.tmp 2] (fun w s'=>Frz s' w (MX b)))
 by_cases h0:b=[]
 ·subst h0
  conv=>whnf
  refine AD rfl hbt.1 ?_;conv=>whnf
  refine Il (a:=((0:Nat):Int)) (b:=0) rfl rfl (fun _=>?_) (fun h=>absurd rfl h);conv=>whnf
  refine LV (n:=127) rfl rfl (by decide) ?_;conv=>whnf
  exact .sl 0 0 128 _ _ 5 _ _ _ rfl (fun i x h=>by rw [Zpy];exact h) (Li (BH (Ah []))) (.inl rfl)
 ·have hbl:b.length≠0:=fun e=>h0 (Zqh.1 e)
  obtain ⟨c,x,l,rfl,hxl⟩:=hbt.fz h0
  have hp:Ah b=b:=by unfold Ah;rw [Zpr h0]
  unfold MX
  rw [hp]
  conv=>whnf
  refine AD rfl hbt.1 ?_;conv=>whnf
  refine Il (a:=(b.length:Int)) (b:=0) rfl rfl (fun h=>by omega) (fun _=>?_);conv=>whnf
  have hlen:=B2 b
  refine U7 (m:=b.length) (c:=x) (cs:=l) rfl rfl (by rw [I6 (by rw [hlen,Zqm]),hxl]) (by rw [← hxl,hlen,Zqm]) (by decide) (by omega) ?_
  rw [← hxl]
  conv=>whnf
  exact .sl 0 0 b.length _ _ 5 _ _ _ rfl (fun i x h=>by rw [Zpy];exact h) (Li (BH _)) (.inl rfl)
def Zko:AC:=match Qc with|.mk c _=>c
structure DKA.in (x:DKA):Prop where
 d:x.d.ok
 k:AX x.d=true
 a:0≤x.a∧x.a<x.d.us.length
def seenF:Fam DKA:=⟨DKA.in,DKA.args,fun x=>Az (Ah (DJ x.d x.a)),fun x y hx hy h=>by
 have h1:x.ok:=⟨hx.d,by have:=hx.a;have:=hx.d.n;unfold Ab;omega⟩
 have h2:y.ok:=⟨hy.d,by have:=hy.a;have:=hy.d.n;unfold Ab;omega⟩
 rw [DKA.inja h1 h2 h]⟩
theorem Zbk {a:Int}{L:List WR}{w:WR}:Cl a (L++[w]).reverse=if w.at_=a then some w.b else Cl a L.reverse:=by
 rw [List.reverse_append];rfl
theorem Ze2 (hE:EM P e) (h72:Con e 202 fullF.O) (h158:Inl e 201 Zko [.tmp 4]):OvOk P 175 seenF.O:=by
 refine C7 g175.b fun x hx=>?_
 obtain ⟨d,a⟩:=x
 obtain ⟨hd,hk,ha⟩:=hx
 dsimp only at hd hk ha
 obtain ⟨hk1,hkb,hkw,_,_⟩:=Mz hd.a hk
 refine ⟨by show (AM.hf d.v && (true && true))=true;rw [DK.hf hd.a];rfl,rfl,C.of_G hE g175 ?_⟩
 obtain ⟨n,rfl⟩:∃ n:Nat,a=(n:Int):=⟨a.toNat,by omega⟩
 have hlt:n<d.us.length:=by omega
 obtain ⟨b,hb1,hb2⟩:=hd.a.bs.get (Zpj hlt)
 have hbm:=Zp5 hb1
 have hbl:=hkb b hbm
 have hO:DJ d (n:Int)=(Cl (n:Int) d.ws.reverse).getD b:=by
  unfold DJ FK
  rw [show (n:Int).toNat=n by omega,Zqc,hb1];rfl
 show VW P e 0 (match TM with|.mk c _=>c) (An [d.v,.int .i64 (n:Int)] 0 .lf) St0 none [] (Cq [.tmp 4] (fun w s'=>Frz s' w (Az (Ah (DJ d (n:Int))))))
 rw [hO]
 clear hO hk
 obtain ⟨⟨hbl',hbs,hwl,hws⟩,hn,hm',hb',hw'⟩:=hd
 obtain ⟨bv,us,bs,wv,ws,dd⟩:=d
 dsimp only at hbl' hbs hwl hws hn hm' hb' hw' hkw hlt hb1 hb2 hbm ha
 have hdf:hfs [bv,wv,.bool dd]=true:=N4 hwl hbl'
 have q1:((us.drop (n*1)))[0]?=some us[n]:=by rw [Zqm,Zpu,Zqs,Zpj hlt]
 have hall:=And.intro q1 hb2
 clear q1 hb2
 revert hall
 generalize us[n]=u
 rintro ⟨q1,hb2⟩
 have hF:∀ {u:AV}{b:List Nat},BAt u b->(b.length=0∨b.length=128)->∀ (K:AV->St->Prop) (s:St),K (Az (Ah b)) s->ESc e 202 [u] s K:=fun {u b} h1 h2 K s hk=>ESc.fam fullF h72 ⟨u,b⟩ ⟨h1,by dsimp only;omega⟩ (u:=Az (Ah b)) (Zf3 h2) hk
 show VW P e 0 (match TM with|.mk c _=>c) (An [.agg [bv,wv,.bool dd],.int .i64 (n:Int)] 0 .lf) St0 none [] _
 conv=>whnf
 refine ESc.inl h158 ?_;conv=>whnf
 refine Cz rfl hbl' rfl hlt ?_;conv=>whnf
 refine EHead.mk (v:=u) q1 ?_;conv=>whnf
 refine hF hb2 hbl _ _ ?_;conv=>whnf
 refine DZ (α:=Nat) (fun j=>[(1,.int .i64 (n:Int)),(2,.ptr 0 0),(5,Az (Ah ((Cl (n:Int) (ws.take j).reverse).getD b))),(6,.int .i64 (j:Int))]) (fun _=>[.row 60 [bv,wv,.bool dd]]) (fun j=>ws.length-j) (fun j=>j≤ws.length) 0 (Zp2 _)
  (Abs.tells (rs:=[0]) .a) ?_
 intro j hj
 refine Ca hE ?_
 by_cases hjl:j<ws.length
 ·have hdr:=GY hjl
  have hwa:=hws _ (Zqk hjl)
  have hwl2:=hkw _ (Zqk hjl)
  have hs:Cl (n:Int) (ws.take (j+1)).reverse=if ws[j].at_=(n:Int) then some ws[j].b else Cl (n:Int) (ws.take j).reverse:=by
   rw [Zpw hjl,Zbk]
  have hall:=And.intro hdr (And.intro hwa (And.intro hwl2 hs))
  clear hdr hwa hwl2 hs
  revert hall
  generalize ws[j]=w
  obtain ⟨wa,wu,wb⟩:=w
  rintro ⟨hdr,⟨hwa,hwb⟩,hwl2,hs⟩
  have hdr:(Ag ws).drop (j*2)=[.int .i64 wa,wu]++Ag (ws.drop (j+1)):=hdr
  dsimp only at hwa hwb hwl2 hs
  obtain ⟨A,hA⟩:∃ A,A=Cl (n:Int) (ws.take j).reverse:=⟨_,rfl⟩
  rw [← hA] at hs ⊢
  conv=>whnf
  refine Am hwl ?_;conv=>whnf
  refine Bl (a:=(j:Int)) (b:=(ws.length:Int)) rfl rfl (fun _=>?_) (fun h=>by omega);conv=>whnf
  refine Cz rfl hwl rfl hjl ?_
  rw [hdr]
  conv=>whnf
  refine EHead.mk (v:=.int .i64 wa) rfl ?_;conv=>whnf
  refine Il (a:=wa) (b:=(n:Int)) rfl rfl (fun h1=>?_) (fun h1=>?_)
  ·rw [Zpn h1] at hs
   conv=>whnf
   refine Cz rfl hwl rfl hjl ?_
   rw [hdr]
   conv=>whnf
   refine EHead.mk (v:=wu) rfl ?_;conv=>whnf
   refine hF hwb hwl2 _ _ ?_;conv=>whnf
   repeat' (first|((first|refine Ac ?_|refine AL ?_|refine CW ?_|refine CS ?_|refine CQ ?_|refine Au ?_|refine Av ?_|refine Cp ?_|refine CJ ?_|refine De ?_|refine Cx ?_|refine CP ?_|refine Dg ?_|refine Cw ?_|refine ⟨rfl,?_⟩);conv=>whnf)|refine Aa ?_ ?_|refine B8 ?_ ?_|refine Ax ?_ ?_|refine AR ?_ ?_|refine Ap ?_ ?_|refine Al ?_ ?_|(refine w19 rfl ?_ ?_ <;> intro hc <;> (try subst hc) <;> conv=>whnf)|(intro _;first|omega|conv=>whnf))
   exact ⟨j+1,hjl,by omega,Abs.tells (rs:=[0]) ⟨by decide,⟨r9,r9,⟨rfl,by rw [hs];rfl⟩,r9,trivial⟩,⟨o9,trivial⟩⟩⟩
  ·rw [Zpr h1] at hs
   conv=>whnf
   repeat' (first|((first|refine Ac ?_|refine AL ?_|refine CW ?_|refine CS ?_|refine CQ ?_|refine Au ?_|refine Av ?_|refine Cp ?_|refine CJ ?_|refine De ?_|refine Cx ?_|refine CP ?_|refine Dg ?_|refine Cw ?_|refine ⟨rfl,?_⟩);conv=>whnf)|refine Aa ?_ ?_|refine B8 ?_ ?_|refine Ax ?_ ?_|refine AR ?_ ?_|refine Ap ?_ ?_|refine Al ?_ ?_|(refine w19 rfl ?_ ?_ <;> intro hc <;> (try subst hc) <;> conv=>whnf)|(intro _;first|omega|conv=>whnf))
   exact ⟨j+1,hjl,by omega,Abs.tells (rs:=[0]) ⟨by decide,⟨r9,r9,⟨rfl,by rw [hs];rfl⟩,r9,trivial⟩,⟨o9,trivial⟩⟩⟩
 ·rw [show ws.take j=ws from Zps (by omega)]
  conv=>whnf
  refine Am hwl ?_;conv=>whnf
  refine Bl (a:=(j:Int)) (b:=(ws.length:Int)) rfl rfl (fun _=>by omega) (fun h=>?_);conv=>whnf
  exact .plain _ rfl
structure CDI where
 x:CDA
 i:Nat
structure CDI.ok (p:CDI):Prop where
 x:p.x.ok
 k:askE p.x=0
 i:p.i<1000
def B9 (cs:List AV) (L:List WR):List AV:=L.foldl (fun cs w=>cs.set w.at_.toNat w.u) cs
def G0 (bs:List (List Nat)) (L:List WR):List (List Nat):=L.foldl (fun bs w=>bs.set w.at_.toNat w.b) bs
theorem KD:∀ (L:List WR) (cs:List AV),(B9 cs L).length=cs.length
 | [],_=>rfl
 | w::L,cs=>by show (B9 (cs.set _ _) L).length=_;rw [KD L,List.length_set]
theorem Zjq (cs:List AV) (L M:List WR):B9 cs (L++M)=B9 (B9 cs L) M:=by unfold B9;rw [List.foldl_append]
theorem SC:∀ (L:List WR) {cs:List AV}{bs:List (List Nat)},All2 BAt cs bs->(∀ w ∈ L,BAt w.u w.b)->All2 BAt (B9 cs L) (G0 bs L)
 | [],_,_,h,_=>h
 | w::L,cs,bs,h,hw=>SC L (O4 (hw w (by simp)) h _) (fun v hv=>hw v (by simp [hv]))
theorem Xk {us:List AV}{bs:List (List Nat)}(h:All2 BAt us bs):hfs us=true:=by
 induction h with
 | nil=>rfl
 | cons a b ih=>show (AM.hf _ && hfs _)=true;rw [a.1.hf,ih];rfl
theorem Xp:∀ (L:List WR) (bs:List (List Nat)) {p:Int},0≤p->(∀ w ∈ L,0≤w.at_∧w.at_<bs.length)->(G0 bs L).getD p.toNat []=(Cl p L.reverse).getD (bs.getD p.toNat [])
 | [],bs,p,_,_=>rfl
 | w::L,bs,p,hp,h=>by
  show (G0 (bs.set w.at_.toNat w.b) L).getD p.toNat []=_
  obtain ⟨h1,h2⟩:=h w (by simp)
  rw [Xp L _ hp (fun v hv=>by rw [List.length_set];exact h v (by simp [hv])),List.reverse_cons]
  have hl:∀ M:List WR,Cl p (M++[w])=match Cl p M with|some b=>some b|none=>if w.at_=p then some w.b else none:=fun M=>by
   induction M with
   | nil=>show (if w.at_=p then some w.b else none)=_;rfl
   | cons v M ih=>
    show (if v.at_=p then some v.b else Cl p (M++[w]))=_
    rw [ih]
    show _=match (if v.at_=p then some v.b else Cl p M:Option (List Nat)) with|some b=>some b|none=>_
    split <;> rfl
  rw [hl]
  cases Cl p L.reverse with
  | some b=>rfl
  | none=>
   show (bs.set w.at_.toNat w.b).getD p.toNat []=(if w.at_=p then some w.b else none:Option (List Nat)).getD _
   by_cases e:w.at_=p
   ·rw [Zpn e,e,Zqc,List.getElem?_set_self (by omega)];rfl
   ·rw [Zpr e,Zqc,List.getElem?_set_ne (by omega)];rfl
def GV (x:DK):DK:=⟨.fz x.us.length none (B9 (x.us.map Af) (x.ws.map A5)),B9 (x.us.map Af) (x.ws.map A5),G0 x.bs x.ws,.nils,[],false⟩
def D7 (x:DK):DK:=⟨.fz x.us.length none ((B9 (x.us.map Af) (x.ws.map A5)).map Af),(B9 (x.us.map Af) (x.ws.map A5)).map Af,G0 x.bs x.ws,.nils,[],false⟩
theorem Zjr (bs:List (List Nat)):∀ (L:List WR),G0 bs (L.map A5)=G0 bs L:=fun L=>by
 unfold G0
 rw [List.foldl_map];rfl
theorem RQ:∀ (L:List WR) (bs:List (List Nat)) {b:List Nat},b ∈ G0 bs L->b ∈ bs∨∃ w ∈ L,w.b=b
 | [],_,_,h=>.inl h
 | w::L,bs,b,h=>by
  rcases RQ L (bs.set w.at_.toNat w.b) h with h|⟨v,hv,e⟩
  ·rcases List.mem_or_eq_of_mem_set h with h|rfl
   ·exact .inl h
   ·exact .inr ⟨w,by simp,rfl⟩
  ·exact .inr ⟨v,by simp [hv],e⟩
variable {x:DK}
theorem flAt (hx:x.ok):All2 BAt (B9 (x.us.map Af) (x.ws.map A5)) (G0 x.bs x.ws):=by
 have:=SC (x.ws.map A5) (K2 hx.a.bs) (fun w hw=>by
  obtain ⟨v,hv,rfl⟩:=Zqj.1 hw
  exact (Iv (hx.a.ws v hv)).b)
 rwa [Zjr] at this
theorem XS (hx:x.ok):(GV x).ok:=by
 have hl:(B9 (x.us.map Af) (x.ws.map A5)).length=x.us.length:=by rw [KD,Zpq]
 refine ⟨⟨.inr (.inr ⟨none,by show AV.fz x.us.length none _=.fz (B9 _ _).length none _;rw [hl];rfl,by rw [Zqm]⟩),flAt hx,.inl ⟨rfl,rfl,rfl⟩,fun w hw=>by cases hw⟩,by show (B9 _ _).length<_;rw [hl];exact hx.n,by show 0<_;decide,fun b hb=>?_,fun w hw=>by cases hw⟩
 rcases RQ _ _ hb with h|⟨w,hw,rfl⟩
 ·exact hx.b b h
 ·exact hx.w w hw
theorem SA (hx:x.ok):(D7 x).ok:=by
 have hl:((B9 (x.us.map Af) (x.ws.map A5)).map Af).length=x.us.length:=by rw [Zpq,KD,Zpq]
 have hm:=XS hx
 exact ⟨⟨.inr (.inr ⟨none,by show AV.fz x.us.length none _=.fz (List.map Af _).length none _;rw [hl];rfl,by rw [Zqm]⟩),K2 hm.a.bs,.inl ⟨rfl,rfl,rfl⟩,fun w hw=>by cases hw⟩,by show (List.map Af _).length<_;rw [hl];exact hx.n,hm.m,hm.b,fun w hw=>by cases hw⟩
theorem Xo (x:DK):(D7 x).us.length=x.us.length:=by show ((B9 _ _).map Af).length=_;rw [Zpq,KD,Zpq]
theorem Zjp (hx:x.ok) (h:AX x=true):AX (D7 x)=true:=by
 obtain ⟨d1,d2,d3,d4⟩:=dskB_iff.1 h
 refine dskB_iff.2 ⟨?_,fun b hb=>?_,(fun w hw=>by cases hw),(fun hd=>by cases hd)⟩
 ·rw [Xo];exact ⟨d1.1,d1.2.1,by show 0≤_;omega⟩
 ·rcases RQ _ _ hb with h|⟨w,hw,rfl⟩
  ·exact d2 b h
  ·have:=d3 w hw
   unfold Bt at this
   simp only [Zq4] at this
   exact this.2
theorem Zka (hx:x.ok) (h:AX x=true) {p:Int}(hp:0≤p):DJ (D7 x) p=DJ x p:=by
 obtain ⟨d1,d2,d3,d4⟩:=dskB_iff.1 h
 have hl:=hx.a.bs.length
 show (none:Option (List Nat)).getD ((G0 x.bs x.ws).getD p.toNat [])=_
 unfold DJ FK
 rw [Xp _ _ hp (fun w hw=>by
  have:=d3 w hw
  unfold Bt at this
  simp only [Zq4,Zqp] at this
  omega)]
 rfl
def GW (x:DK):Int:=if AX x=true then (if x.dead then 40 else 0) else 8
def GH (x:DK):AV:=if GW x=0 then .tup [(D7 x).v,.int .i64 0] else .tup [.agg Di,.int .i64 (GW x)]
def fluF:Fam DK:=⟨DK.ok,fun x=>[x.v],GH,fun x y hx hy h=>by rw [DK.inj hx.a hy.a (Zpv h).1]⟩
theorem Zfy (x:DK):AM.hf (GH x)=true:=by unfold GH;split <;> rfl
def Pi:AC:=match Z1 with|.mk c _=>c
def XD:AC:=match Pi with
 | .seq _ (.seq _ (.seq _ (.seq _ (.seq _ r))))=>r
 | _=>.skip
def GS:List (Nat×AV):=[(1,.ptr 0 0),(2,.ptr 1 0)]
theorem Wz (hE:EM P e) (h103:Con e 66 D6) (hx:x.ok) (h1:1≤x.us.length) (wv:AV) (hwv:AM.hf wv=true) (K:AV->St->Prop)
 (hk:∀ s,s.get 2=some (.row 76 (D7 x).us)->K (.tup [.agg [.sl 2 0 x.us.length none,.nils,.bool false],.int .i64 0]) s):
 W P 0 none XD (A6 GS) (Aj St0 [.row 60 [(GV x).bv,wv,.bool false],.row 60 Di]) [] (BS [.cells 2 3,.tmp 3] K):=by
 have hmo:=XS hx
 have hlen:(GV x).us.length=x.us.length:=by show (B9 _ _).length=_;rw [KD,Zpq]
 have htw:=K5 (x:=GV x) ⟨hmo,by rw [hlen];exact h1⟩
 have hv:(GV x).v=.agg [(GV x).bv,.nils,.bool false]:=rfl
 have htw:∀ s,D6 [.agg [(GV x).bv,.nils,.bool false]] s=.ok (.agg [.sl (0+s.next) 0 x.us.length none,.nils,.bool false]) (Aj s [.row 76 (D7 x).us]):=fun s=>by
  have:=htw s
  rw [hv] at this
  rw [this,← hlen];rfl
 refine Hz hE ?_
 generalize (GV x).bv=B at *
 conv=>whnf
 repeat' (first|(refine ESc.ov h103 (htw _) ?_;conv=>whnf)|fail)
 exact hk _ rfl
def Zms:AC:=match Pi with
 | .seq _ (.seq _ (.seq _ (.seq _ (.seq l _))))=>l
 | _=>.skip
theorem Zf8 (hE:EM P e) (h103:Con e 66 D6) (hx:x.ok) (hD:AX x=true) (K:AV->St->Prop)
 (hk:∀ s,s.get 2=some (.row 76 (D7 x).us)->K (.tup [.agg [.sl 2 0 x.us.length none,.nils,.bool false],.int .i64 0]) s) (h0:1≤x.ws.length):
 VW P e 0 Zms (A6 GS) (Aj St0 [.row 60 [.sl 2 0 x.us.length none,.sl 3 0 x.ws.length none,.bool false],.row 60 Di,.row 76 (x.us.map Af),.row 146 (Ag (x.ws.map A5))]) none [] (Jg (fun t s ds=>W P 0 none XD t s ds (BS [.cells 2 3,.tmp 3] K)) (BS [.cells 2 3,.tmp 3] K)):=by
 obtain ⟨d1,d2,d3,d4⟩:=dskB_iff.1 hD
 have hr:=fun wv hwv=>Wz hE h103 hx d1.1 wv hwv K hk
 have hUf:=Mh hx.a
 obtain ⟨W1,hW1⟩:∃ W1,W1=x.ws.map A5:=⟨_,rfl⟩
 have hW1l:W1.length=x.ws.length:=by rw [hW1,Zpq]
 have hWa:∀ w ∈ W1,w.any∧0≤w.at_∧w.at_<x.us.length:=fun w hw=>by
  rw [hW1] at hw
  obtain ⟨v,hv,rfl⟩:=Zqj.1 hw
  have:=d3 v hv
  unfold Bt at this
  simp only [Zq4,Zqp] at this
  exact ⟨Iv (hx.a.ws v hv),by show 0≤v.at_;omega,by show v.at_<_;omega⟩
 have hwf:hfs (Ag W1)=true:=F1 fun w hw=>(hWa w hw).1.b.1.hf
 have hm1:(GV x).bv=.fz x.us.length none (B9 (x.us.map Af) W1):=by rw [hW1];rfl
 rw [hm1] at hr
 have hcf:∀ i,hfs (B9 (x.us.map Af) (W1.take i))=true:=fun i=>Xk (SC (W1.take i) (K2 hx.a.bs) (fun w hw=>(hWa w (Zqq hw)).1.b))
 have hcl:∀ i,(B9 (x.us.map Af) (W1.take i)).length=x.us.length:=fun i=>by rw [KD,Zpq]
 have hwn:=hx.m
 rw [← hW1]
 rw [← hW1l] at h0 hwn ⊢
 generalize x.us.length=n at *
 generalize hU0:x.us.map Af=U at *
 clear hk hx hD d1 d2 d3 d4 hU0
 obtain ⟨m,hmm⟩:∃ m,m=W1.length:=⟨_,rfl⟩
 rw [← hmm] at h0 hwn ⊢
 conv=>whnf
 refine LQ rfl ?_;conv=>whnf
 refine DZ (α:=Nat) (fun i=>[(1,.ptr 0 0),(2,.ptr 1 0),(19,.sl 2 0 m none),(20,.int .i64 (m:Int)),(21,.int .i64 (i:Int))]) (fun i=>[.row 60 [.sl 3 0 n none,.sl 2 0 m none,.bool false],.row 60 Di,.row 146 (Ag W1),.row 76 (B9 U (W1.take i))]) (fun i=>m-i) (fun i=>i≤m) 0 (Zp2 _)
  (Abs.tells (rs:=[0,1,3,2]) ⟨by decide,⟨r9,r9,r9,r9,r9,trivial⟩,⟨r9,r9,o9,o9 (hcf 0),trivial⟩⟩) ?_
 intro i hi
 refine Ca hE ?_
 by_cases hlt:i<m
 ·have hWi:=Zpj (l:=W1) (i:=i) (by omega)
  have hwi:=hWa _ (Zqk (l:=W1) (n:=i) (by omega))
  have htk:B9 U (W1.take (i+1))=(B9 U (W1.take i)).set (W1[i]'(by omega)).at_.toNat (W1[i]'(by omega)).u:=by
   rw [Zpw (by omega),Zjq];rfl
  have hall:=And.intro hWi (And.intro hwi htk)
  clear hWi hwi htk
  revert hall
  generalize W1[i]'(by omega)=w
  rintro ⟨hWi,⟨hwa,hw0,hwn'⟩,htk⟩
  obtain ⟨wa,wu,wb⟩:=w
  have hwu:AM.hf wu=true:=hwa.b.1.hf
  dsimp only at hw0 hwn' htk
  obtain ⟨a,rfl⟩:∃ a:Nat,wa=(a:Int):=⟨wa.toNat,by omega⟩
  have ha:a<n:=by omega
  have htk:B9 U (W1.take (i+1))=(B9 U (W1.take i)).set a wu:=htk
  have hld:∀ s:St,s.get 2=some (.row 146 (Ag W1))->load 2 (0+i*2) 2 s=some [.int .i64 (a:Int),wu]:=fun s h=>Xg h hWi
  have hst:∀ s:St,s.get 3=some (.row 76 (B9 U (W1.take i)))->storeAt 3 (0+a*1) [wu] s=some (s.put 3 (.row 76 ((B9 U (W1.take i)).set a wu))):=fun s h=>Vp h (by rw [hcl];exact ha)
  have hc1:=hcf (i+1)
  rw [htk] at hc1
  have hc1:hfs ((B9 U (W1.take i)).set a wu)=true:=hc1
  have hcw:∀ (K:Prop),K->wB (Nat.beq (A7 (cellsOf wu)) 1) K False:=fun K hK=>by
   have:cellsOf wu=[wu]:=by
    rcases hwa.b.1 with ⟨h,_⟩|⟨h,_⟩|⟨c,h,_⟩ <;> (dsimp only at h;rw [h];rfl)
   rw [this];exact hK
  conv=>whnf
  refine Bl (a:=(i:Int)) (b:=(m:Int)) rfl rfl (fun _=>?_) (fun h=>by omega);conv=>whnf
  refine He (i:=i) rfl rfl hlt ?_;conv=>whnf
  refine BE _ (hld _ rfl) ?_;conv=>whnf
  refine He (i:=a) rfl rfl ha ?_;conv=>whnf
  refine hcw _ ?_
  have hcu:cellsOf wu=[wu]:=by
   rcases hwa.b.1 with ⟨h,_⟩|⟨h,_⟩|⟨c,h,_⟩ <;> (dsimp only at h;rw [h];rfl)
  rw [hcu]
  refine BE _ (hst _ rfl) ?_;conv=>whnf
  repeat' (first|((first|refine Ac ?_|refine ⟨rfl,?_⟩);conv=>whnf)|fail)
  refine ⟨i+1,hlt,by omega,?_⟩
  rw [htk]
  exact Abs.tells (rs:=[0,1,2,3]) .a
 ·have hie:i=m:=by omega
  subst hie
  have hte:W1.take i=W1:=Zps (by omega)
  have hcf':=hcf i
  rw [hte] at hcf' ⊢
  conv=>whnf
  refine Bl (a:=(i:Int)) (b:=(i:Int)) rfl rfl (fun h=>by omega) (fun _=>?_);conv=>whnf
  have q1:=AbsK.frz (P:=P) (k:=0) (n:=3) (e:=76) (cs:=B9 U W1) (t:=BQ 23 (AV.bool false) (A6 [(1,.ptr 0 0),(2,.ptr 1 0),(19,.sl 2 0 i none),(20,.int .i64 (i:Int)),(21,.int .i64 (i:Int))])) (s:=Aj St0 [.row 60 [.sl 3 0 n none,.sl 2 0 i none,.bool false],.row 60 Di,.row 146 (Ag W1),.row 76 (B9 U W1)]) (tl:=GS) (tl2:=GS) (os:=[.row 60 [.sl 3 0 n none,.sl 2 0 i none,.bool false],.row 60 Di,.row 146 (Ag W1)]) (os2:=[.row 60 [.fz n none (B9 U W1),.sl 2 0 i none,.bool false],.row 60 Di,.row 146 (Ag W1)]) (rs:=[0,1,2,3])
   .a rfl hcf' rfl rfl rfl rfl rfl (by
    show [_,_,E3 3 _ (.row 146 (Ag W1))]=_
    rw [Hq hwf];rfl)
  have q2:=AbsK.frz (P:=P) (k:=0) (n:=2) (e:=146) (cs:=Ag W1) (t:=A6 GS) (s:=Aj St0 [.row 60 [.fz n none (B9 U W1),.sl 2 0 i none,.bool false],.row 60 Di,.row 146 (Ag W1)]) (tl:=GS) (tl2:=GS) (os:=[.row 60 [.fz n none (B9 U W1),.sl 2 0 i none,.bool false],.row 60 Di]) (os2:=[.row 60 [.fz n none (B9 U W1),.fz i none (Ag W1),.bool false],.row 60 Di]) (rs:=[0,1,2])
   .a rfl hwf rfl rfl rfl rfl rfl rfl
  exact W.tells (q1.trans q2) (hr _ rfl)
theorem Zjl (hE:EM P e) (h101:Con e 44 dskF.O) (h103:Con e 66 D6):OvOk P 141 fluF.O:=by
 refine C7 g141.b fun x hx=>?_
 refine ⟨by show (AM.hf x.v && true)=true;rw [DK.hf hx.a];rfl,Zfy x,C.of_W g141.f g141.c ?_⟩
 have hout:fluF.out x=GH x:=rfl
 rw [hout]
 have hO0:AX x=true->x.dead=false->GH x=.tup [(D7 x).v,.int .i64 0]:=fun h1 h2=>by unfold GH GW;rw [Zpn h1,h2];rfl
 have hO1:AX x=true->x.dead=true->GH x=.tup [.agg Di,.int .i64 40]:=fun h1 h2=>by unfold GH GW;rw [Zpn h1,h2];rfl
 have hO2:AX x≠true->GH x=.tup [.agg Di,.int .i64 8]:=fun h1=>by unfold GH GW;rw [Zpr h1];rfl
 by_cases hD:AX x=true
 ·have hD1:=(dskB_iff.1 hD).1
  have hDo:dskF.out x=.int .i64 0:=by show AV.int .i64 (if _ then _ else _)=_;rw [Zpn hD]
  have htw:=K5 (x:=x) ⟨hx,hD1.1⟩
  have hfin:∀ s:St,s.get 2=some (.row 76 (D7 x).us)->Frz s (.tup [.agg [.sl 2 0 x.us.length none,.nils,.bool false],.int .i64 0]) (.tup [(D7 x).v,.int .i64 0]):=fun s h=>
   .tup _ _ (.cons (.agg _ _ (.cons (.sl 2 0 _ none none 76 _ (D7 x).us _ h (fun i x h=>by rw [Zpy];exact h) (Ck (Xk (SA hx).a.bs)) (.inl rfl)) (.cons (.plain _ rfl) (.cons (.plain _ rfl) .nil)))) (.cons (.plain _ rfl) .nil))
  have hloop:=fun h0=>Zf8 hE h103 hx hD (fun v s=>Frz s v (.tup [(D7 x).v,.int .i64 0])) hfin h0
  have hrest:=Wz hE h103 hx hD1.1 .nils rfl (fun v s=>Frz s v (.tup [(D7 x).v,.int .i64 0])) hfin
  have hUf:=Mh hx.a
  have hO0:=hO0 hD
  have hO1:=hO1 hD
  obtain ⟨bv,us,bs,wv,ws,dd⟩:=x
  show W P 0 none Pi (An [.agg [bv,wv,.bool dd]] 0 .lf) St0 [] _
  cases dd
  ·rw [hO0 rfl]
   refine Bz hE ?_;conv=>whnf
   refine Bz hE ?_;conv=>whnf
   refine ESc.fam dskF h101 _ hx (u:=.int .i64 0) hDo ?_;conv=>whnf
   repeat' (first|refine Al ?_ ?_|(intro _;first|omega|conv=>whnf))
   refine Bz hE ?_;conv=>whnf
   skip
   rcases ws with _|⟨w0,ws⟩
   ·have htw:∀ s,D6 [.agg [bv,wv,.bool false]] s=.ok (.agg [.sl (0+s.next) 0 us.length none,.nils,.bool false]) (Aj s [.row 76 (us.map Af)]):=htw
    refine Bz hE ?_;conv=>whnf
    refine ESc.ov h103 (htw _) ?_;conv=>whnf
    refine Bz hE ?_;conv=>whnf
    repeat' (first|(refine CP ?_;conv=>whnf)|fail)
    refine Zlk hE ?_;conv=>whnf
    repeat' (first|refine Aa ?_ ?_|(intro _;first|omega|conv=>whnf))
    have hm1:(GV ⟨bv,us,bs,wv,[],false⟩).bv=.fz us.length none (us.map Af):=rfl
    rw [hm1] at hrest
    exact W.tells (AbsK.frz (P:=P) (k:=0) (n:=2) (e:=76) (cs:=us.map Af) (tl:=GS) (tl2:=GS) (os:=[.row 60 [.sl 2 0 us.length none,.nils,.bool false],.row 60 Di]) (os2:=[.row 60 [.fz us.length none (us.map Af),.nils,.bool false],.row 60 Di]) (rs:=[0,1,2])
     .a rfl hUf rfl rfl rfl rfl rfl rfl) hrest
   ·have htw:∀ s,D6 [.agg [bv,wv,.bool false]] s=.ok (.agg [.sl (0+s.next) 0 us.length none,.sl (1+s.next) 0 (ws.length+1) none,.bool false]) (Aj s [.row 76 (us.map Af),.row 146 (Ag ((w0::ws).map A5))]):=htw
    have hWf:hfs (Ag ((w0::ws).map A5))=true:=F1 fun w hw=>by
     obtain ⟨v,hv,rfl⟩:=Zqj.1 hw
     exact (Iv (hx.a.ws v hv)).b.1.hf
    refine Bz hE ?_;conv=>whnf
    refine ESc.ov h103 (htw _) ?_;conv=>whnf
    refine W.tells (Abs.tells (tl:=GS) (os:=[.row 60 [.sl 2 0 us.length none,.sl 3 0 (ws.length+1) none,.bool false],.row 60 Di,.row 76 (us.map Af),.row 146 (Ag ((w0::ws).map A5))]) (rs:=[0,1,2,3])
     .a) ?_
    exact Bz hE (hloop (by simp))
  ·rw [hO1 rfl]
   refine Hz hE ?_;conv=>whnf
   refine ESc.fam dskF h101 _ hx (u:=.int .i64 0) hDo ?_;conv=>whnf
   repeat' (first|refine Al ?_ ?_|(intro _;first|omega|conv=>whnf))
   exact .plain _ rfl
 ·have hDo:dskF.out x=.int .i64 8:=by show AV.int .i64 (if _ then _ else _)=_;rw [Zpr hD]
  rw [hO2 hD]
  refine Hz hE ?_
  obtain ⟨bv,us,bs,wv,ws,dd⟩:=x
  show VW P e 0 Pi (An [.agg [bv,wv,.bool dd]] 0 .lf) St0 none [] _
  conv=>whnf
  refine ESc.fam dskF h101 _ hx (u:=.int .i64 8) hDo ?_;conv=>whnf
  repeat' (first|refine Al ?_ ?_|(intro _;first|omega|conv=>whnf))
  exact .plain _ rfl
def EA (x:DKW):Int:=if BP x.d x.a x.b=0 then (if x.d.ws.length=1024 then 9 else 0) else BP x.d x.a x.b
def E9 (x:DKW):List WR:=x.d.ws.map A5++[⟨x.a,Az (Ah x.b),Ah x.b⟩]
def FP (x:DKW):DK:=⟨.fz x.d.us.length none (x.d.us.map Af),x.d.us.map Af,x.d.bs,.fz (x.d.ws.length+1) none (Ag (E9 x)),E9 x,x.d.dead⟩
def JD (x:DKW):AV:=if EA x=0 then .tup [(FP x).v,.int .i64 0] else .tup [.agg Di,.int .i64 (EA x)]
theorem Zfz (x:DKW):AM.hf (JD x)=true:=by unfold JD;split <;> rfl
def dwF:Fam DKW:=⟨DKW.ok,DKW.args,JD,fun x y hx hy h=>by rw [DKW.inja hx hy h]⟩
theorem Zg7 (L M:List WR):Ag (L++M)=Ag L++Ag M:=by unfold Ag;rw [List.flatMap_append]
theorem Znd (hE:EM P e) (h102:Con e 113 wrtF.O) (h103:Con e 66 D6) (h98:Inl e 102 KR [.tmp 2]) (h141:Inl e 119 Hr [.tmp 2]):OvOk P 140 dwF.O:=by
 refine C7 g140.b fun x hx=>?_
 refine ⟨DKW.hfa hx,Zfz x,C.of_G hE g140 ?_⟩
 have hfam:=fun (s:St) (K:AV->St->Prop) (hk:K (.int .i64 (BP x.d x.a x.b)) s)=>ESc.fam wrtF h102 x hx (u:=.int .i64 (BP x.d x.a x.b)) rfl hk
 by_cases h0:BP x.d x.a x.b=0
 ·obtain ⟨q1,q2,q3,q4⟩:=JJ h0
  have hbl:x.b.length=0∨x.b.length=128:=Iy q3
  have hdk1:DK1 x.d:=⟨hx.d,by omega⟩
  have htw:=K5 hdk1
  have hUf:=Mh hx.d.a
  have hw1024:x.d.ws.length≤1024:=(Mz hx.d.a q1).1
  have hWf:hfs (Ag (x.d.ws.map A5))=true:=F1 fun w hw=>by
   obtain ⟨v,hv,rfl⟩:=Zqj.1 hw
   exact (Iv (hx.d.a.ws v hv)).b.1.hf
  have hout:dwF.out x=if x.d.ws.length=1024 then .tup [.agg Di,.int .i64 9] else .tup [(FP x).v,.int .i64 0]:=by
   show JD x=_
   unfold JD EA
   rw [Zpn h0]
   split <;> rfl
  rw [h0] at hfam
  rw [hout]
  have hwsl:=hx.d.a.wl
  obtain ⟨⟨bv,us,bs,wv,ws,dd⟩,a,u,b⟩:=x
  obtain ⟨hd,ha,hbt,hbn⟩:=hx
  dsimp only at q2 q4 hbl htw hUf hWf ha hbt hbn hw1024 hwsl ⊢
  subst q4
  have hfB:∀ (s:St) r cp,s.get r=some (.row 5 (Ad (Ah b)))->Frz s (.sl r 0 128 cp) (Az (Ah b)):=fun s r cp h=>.sl r 0 128 cp none 5 _ (Ad (Ah b)) _ h (fun i x h=>by rw [Zpy];exact h) (Mw _) (.inl rfl)
  have hbk:∀ (s:St),s.get 2=some (.row 76 (us.map Af))->Frz s (.sl 2 0 us.length none) (.fz us.length none (us.map Af)):=fun s h1=>
   .sl 2 0 us.length none none 76 _ (us.map Af) _ h1 (fun i x h=>by rw [Zpy];exact h) (Ck hUf) (.inl rfl)
  have hwk:∀ (s:St) r q cp,s.get r=some (.row 146 (Ag (ws.map A5)++[.int .i64 a,.sl q 0 128 cp]))->s.get q=some (.row 5 (Ad (Ah b)))->Frz s (.sl r 0 (ws.length+1) none) (.fz (ws.length+1) none (Ag (E9 ⟨⟨bv,us,bs,wv,ws,false⟩,a,u,b⟩))):=fun s r q cp h1 h2=>by
   refine .sl r 0 _ none none 146 _ (Ag (ws.map A5)++[.int .i64 a,.sl q 0 128 cp]) _ h1 (fun i x h=>by rw [Zpy];exact h) ?_ (.inl rfl)
   unfold E9
   rw [Zg7]
   exact (Ck hWf).append (.cons (.plain _ rfl) (.cons (hfB s q cp h2) .nil))
  clear q1 q3 hout
  show VW P e 0 (match Uc with|.mk c _=>c) (An [.agg [bv,wv,.bool false],.int .i64 a,u] 0 .lf) St0 none [] _
  have hfam:∀ (s:St) (K:AV->St->Prop),K (.int .i64 0) s->ESc e 113 [.agg [bv,wv,.bool false],.int .i64 a,u] s K:=hfam
  have hdd:(FP ⟨⟨bv,us,bs,wv,ws,false⟩,a,u,b⟩).v=.agg [.fz us.length none (us.map Af),.fz (ws.length+1) none (Ag (E9 ⟨⟨bv,us,bs,wv,ws,false⟩,a,u,b⟩)),.bool false]:=rfl
  by_cases h1024:ws.length=1024
  ·rw [Zpn h1024]
   conv=>whnf
   refine hfam _ _ ?_;conv=>whnf
   repeat' (first|(refine Am hwsl ?_;conv=>whnf)|refine Ap ?_ ?_|refine Al ?_ ?_|(intro _;first|omega|conv=>whnf))
   exact .plain _ rfl
  ·rw [Zpr h1024,hdd]
   rcases ws with _|⟨w0,ws⟩
   ·have htw:∀ s,D6 [.agg [bv,wv,.bool false]] s=.ok (.agg [.sl (0+s.next) 0 us.length none,.nils,.bool false]) (Aj s [.row 76 (us.map Af)]):=htw
    have fin:∀ (s:St) r q cp,s.get 2=some (.row 76 (us.map Af))->s.get r=some (.row 146 [.int .i64 a,.sl q 0 128 cp])->s.get q=some (.row 5 (Ad (Ah b)))->Frz s (.tup [.agg [.sl 2 0 us.length none,.sl r 0 1 none,.bool false],.int .i64 0]) (.tup [.agg [.fz us.length none (us.map Af),.fz (0+1) none (Ag (E9 ⟨⟨bv,us,bs,wv,[],false⟩,a,u,b⟩)),.bool false],.int .i64 0]):=fun s r q cp h1 h2 h3=>
     .tup _ _ (.cons (.agg _ _ (.cons (hbk s h1) (.cons (hwk s r q cp h2 h3) (.cons (.plain _ rfl) .nil)))) (.cons (.plain _ rfl) .nil))
    conv=>whnf
    refine hfam _ _ ?_;conv=>whnf
    repeat' (first|(refine Am hwsl ?_;conv=>whnf)|refine Ap ?_ ?_|refine Al ?_ ?_|(intro _;first|omega|conv=>whnf))
    refine ESc.ov h103 (htw _) ?_;conv=>whnf
    refine K1 h98 h141 hbt hbl (by show 3<1000000;decide) (fun h0=>?_) (fun h1=>?_)
    ·conv=>whnf
     repeat' (first|((first|refine CO (m:=1) ?_|refine ⟨rfl,?_⟩);conv=>whnf)|fail)
     exact fin _ _ _ _ rfl rfl rfl
    ·conv=>whnf
     repeat' (first|((first|refine CO (m:=1) ?_|refine ⟨rfl,?_⟩);conv=>whnf)|fail)
     exact fin _ _ _ _ rfl rfl rfl
   ·have htw:∀ s,D6 [.agg [bv,wv,.bool false]] s=.ok (.agg [.sl (0+s.next) 0 us.length none,.sl (1+s.next) 0 (ws.length+1) none,.bool false]) (Aj s [.row 76 (us.map Af),.row 146 (Ag ((w0::ws).map A5))]):=htw
    have fin:∀ (s:St) r q cp,s.get 2=some (.row 76 (us.map Af))->s.get r=some (.row 146 (Ag ((w0::ws).map A5)++[.int .i64 a,.sl q 0 128 cp]))->s.get q=some (.row 5 (Ad (Ah b)))->Frz s (.tup [.agg [.sl 2 0 us.length none,.sl r 0 (ws.length+1+1) none,.bool false],.int .i64 0]) (.tup [.agg [.fz us.length none (us.map Af),.fz ((w0::ws).length+1) none (Ag (E9 ⟨⟨bv,us,bs,wv,w0::ws,false⟩,a,u,b⟩)),.bool false],.int .i64 0]):=fun s r q cp h1 h2 h3=>
     .tup _ _ (.cons (.agg _ _ (.cons (hbk s h1) (.cons (hwk s r q cp h2 h3) (.cons (.plain _ rfl) .nil)))) (.cons (.plain _ rfl) .nil))
    have hw1025:ws.length+1≤1024:=hw1024
    conv=>whnf
    refine hfam _ _ ?_;conv=>whnf
    repeat' (first|(refine Am hwsl ?_;conv=>whnf)|refine Ap ?_ ?_|refine Al ?_ ?_|(intro _;first|omega|conv=>whnf))
    refine ESc.ov h103 (htw _) ?_;conv=>whnf
    refine K1 h98 h141 hbt hbl (by show 4<1000000;decide) (fun h0=>?_) (fun h1=>?_)
    ·conv=>whnf
     repeat' (first|((first|refine C6 (m:=1) rfl rfl rfl rfl (by rw [DU,Zpq];rfl) rfl (by decide) (by omega) ?_|refine ⟨rfl,?_⟩);conv=>whnf)|fail)
     exact fin _ _ _ _ rfl rfl rfl
    ·conv=>whnf
     repeat' (first|((first|refine C6 (m:=1) rfl rfl rfl rfl (by rw [DU,Zpq];rfl) rfl (by decide) (by omega) ?_|refine ⟨rfl,?_⟩);conv=>whnf)|fail)
     exact fin _ _ _ _ rfl rfl rfl
 ·have hout:dwF.out x=.tup [.agg Di,.int .i64 (BP x.d x.a x.b)]:=by
   show JD x=_
   unfold JD EA
   rw [Zpr h0,Zpr h0]
  rw [hout]
  obtain ⟨E,hE'⟩:∃ E,E=BP x.d x.a x.b:=⟨_,rfl⟩
  rw [← hE'] at h0 hfam ⊢
  obtain ⟨⟨bv,us,bs,wv,ws,dd⟩,a,u,b⟩:=x
  have hfam:∀ (s:St) (K:AV->St->Prop),K (.int .i64 E) s->ESc e 113 [.agg [bv,wv,.bool dd],.int .i64 a,u] s K:=hfam
  show VW P e 0 (match Uc with|.mk c _=>c) (An [.agg [bv,wv,.bool dd],.int .i64 a,u] 0 .lf) St0 none [] _
  conv=>whnf
  refine hfam _ _ ?_;conv=>whnf
  refine Kq (a:=E) (b:=0) rfl rfl (fun _=>?_) (fun h=>absurd h h0);conv=>whnf
  skip
  exact .plain _ rfl
noncomputable def relS (R:List AV->St->AV->St->Prop):Ov:=fun args s=>open Classical in if h:∃ p:AV×St,R args s p.1 p.2 then .ok h.choose.1 h.choose.2 else .fail
variable {f:Nat}
theorem Jv {R:List AV->St->AV->St->Prop}(hb:Ga P f) (h:∀ args s u s',R args s u s'->C P f args s (fun v s''=>v=u∧s''=s')):OvOk P f (relS R):=by
 refine ⟨hb,fun args s v s' hh=>?_⟩
 unfold relS at hh
 split at hh
 ·rename_i hx
  cases hh
  exact h args s _ _ hx.choose_spec
 ·cases hh
theorem ESc.relS {R:List AV->St->AV->St->Prop}{vs:List AV}{s:St}{k:AV->St->Prop}{s':St}(hi:Con e f (relS R)) (hx:R vs s u s') (hk:∀ u s',R vs s u s'->k u s'):ESc e f vs s k:=by
 have hx:∃ p:AV×St,R vs s p.1 p.2:=⟨(u,s'),hx⟩
 refine ESc.ov hi (v:=hx.choose.1) (s':=hx.choose.2) ?_ (hk _ _ hx.choose_spec)
 unfold AM.relS
 rw [dif_pos hx]
variable {t:AT}
theorem Vf {s:St}{k:AV->St->Prop}{x y:AO}{a b:Nat}(hx:ev x t=.some (.int .u8 (a:Int))) (hy:ev y t=.some (.int .u8 (b:Int))) (ha:a<256) (hb:b<256) (hk:k (.int .u8 ((a ^^^ b:Nat):Int)) s):EPrim (.bin .xor x y) t s k:=by
 refine Ea hx hy (v:=.int .u8 (Int.ofNat (a ^^^ b))) ?_ hk
 show OV.some (.int .u8 (Int.ofNat (Nat.xor (a % 256) (b % 256))))=_
 rw [Zrf ha,Zrf hb];rfl
def HU (b:List Nat) (i:Nat):List Nat:=b.take i++List.replicate (128-i) 0
variable {i w:Nat}
theorem Zgw (h:b[i]?=some w) (hb:b.length=128):(HU b i).set i w=HU b (i+1):=by
 have hl:=(Zpk.1 h).1
 unfold HU
 rw [List.take_add_one,h,show 128-i=(128-(i+1))+1 by omega,List.replicate_succ,List.set_append,Zpr (by rw [Zp9];omega)]
 rw [show i-(List.take i b).length=0 by rw [Zp9];omega,List.set_cons_zero,List.append_assoc]
 rfl
variable {r:Nat}{bs:List Nat}
theorem Zcu {s:St}{e:Nat}(h:s.get r=some (.row e (Ad bs))) (hi:i<bs.length):storeAt r i [.int .u8 (Int.ofNat n)] s=some (s.put r (.row e (Ad (bs.set i n)))):=by
 rw [FU h (by rw [B2];simp;omega)]
 congr 4
 show (Ad bs).take i++[AV.int .u8 (Int.ofNat n)]++(Ad bs).drop (i+1)=(bs.set i n).map _
 rw [List.set_eq_take_append_cons_drop,Zpn hi]
 unfold Ad
 rw [Zp8,Zqz,List.map_take,List.map_drop,List.append_assoc];rfl
variable {o:Nat}
theorem R1 {e:Nat}{s:St}{K:St->Prop}(h:s.get r=some (.row e (Ad bs))) (ho:o=i) (hi:i<bs.length) (hk:K (s.put r (.row e (Ad (bs.set i n))))):(Option.rec (motive:=fun _=>Prop) False (fun s'=>K s') (storeAt r o [.int .u8 (n:Int)] s)):=by
 subst ho
 rw [show storeAt r o [.int .u8 (n:Int)] s=_ from Zcu h hi];exact hk
def Py (args:List AV) (s:St) (u:AV) (s':St):Prop:=∃ b v,b.length=128∧args=[v]∧Ls Ce.u8 b v∧u=.sl (0+s.next) 0 128 (some 128)∧s'=s.alloc (.row 5 (Ad b))
variable {v:AV}{K:AV->St->Prop}
theorem Zg9 (h:Con e 176 (relS Py)) (hb:b.length=128) (hv:Ls Ce.u8 b v) {s:St}(hk:K (.sl (0+s.next) 0 128 (some 128)) (s.alloc (.row 5 (Ad b)))):ESc e 176 [v] s K:=by
 refine ESc.relS h (s':=s.alloc (.row 5 (Ad b))) ⟨b,v,hb,rfl,hv,rfl,rfl⟩ ?_
 rintro u s' ⟨b',v',_,e1,hv',rfl,rfl⟩
 cases e1
 rw [hv'.inj hv];exact hk
theorem Zlo (hE:EM P e):OvOk P 176 (relS Py):=by
 refine Jv g176.b ?_
 rintro args s u s' ⟨b,v,hb,rfl,hv,rfl,rfl⟩
 have hvf:=hv.hf
 have hfa:hfs [v]=true:=by show (AM.hf v && true)=true;rw [hvf];rfl
 obtain ⟨cs,hs,hl,hn⟩:=hv.nth
 have key:C P 176 [v] St0 (fun u s'=>u=.sl 0 0 128 (some 128)∧s'=Aj St0 [.row 5 (Ad b)]):=by
  refine C.abs (C.of_G hE g176 ?_)
  have fin:∀ s r,s.get r=some (.row 5 (Ad b))->∃ rs,Abs (T.set .lf (.sl r 0 128 (some 128)) 0) s [(0,.sl 0 0 128 (some 128))] [.row 5 (Ad b)] rs:=fun s r h=>⟨[r],⟨by simp,⟨⟨rfl,rfl⟩,trivial⟩,⟨⟨Bj (BH _),by rw [AU (BH _)];exact h⟩,trivial⟩⟩⟩
  conv=>whnf
  refine LV (n:=127) rfl rfl (by decide) ?_;conv=>whnf
  refine Aw hE 128 (fun i=>[(0,v),(3,.sl 0 0 128 (some 128)),(4,.int .i64 (i:Int))]) (fun i=>[.row 5 (Ad (HU b i))]) (fun _=>True) trivial (Abs.tells (rs:=[0]) .a) ?_
  intro i hi _
  conv=>whnf
  by_cases hlt:i<b.length
  ·obtain ⟨w,_,r,hw,⟨rfl,hw'⟩,hd⟩:=hn i hlt
   have hsc:=Zgw hw hb
   repeat' (first|((first|refine Ar hs hlt hd ?_|refine As ?_|refine Am hs ?_|refine G4 rfl rfl (by omega) (by omega) ?_);conv=>whnf)|refine Aa ?_ ?_|(intro _;first|omega|conv=>whnf))
   have hcl:i<(HU b i).length:=by unfold HU;rw [Zpx,Zp9,List.length_replicate];omega
   refine R1 (i:=i) (bs:=HU b i) rfl (by omega) hcl ?_
   rw [hsc]
   conv=>whnf
   repeat' (first|((first|refine Ac ?_|refine ⟨rfl,?_⟩);conv=>whnf)|fail)
   exact ⟨by omega,trivial,Abs.tells (rs:=[0]) ⟨by decide,⟨t9,r9,r9,trivial⟩,⟨o9 (BH _),trivial⟩⟩⟩
  ·have hcb:HU b i=b:=by unfold HU;rw [Zps (by omega),show 128-i=0 by omega];exact Zqu b
   rw [hcb]
   repeat' (first|(refine Am hs ?_;conv=>whnf)|refine Aa ?_ ?_|(intro _;first|omega|conv=>whnf))
   exact fin _ _ rfl
 refine (C.frame (l:=[.row 5 (Ad b)]) (u:=.sl 0 0 128 (some 128)) hfa ?_ ?_ key ?_ s).mono ?_
 ·intro o ho;simp at ho;subst ho;rfl
 ·exact .inl (by simp)
 ·intro i o h
  rcases i with _|i
  ·simp at h;subst h;rfl
  ·simp at h
 ·rintro v s' ⟨rfl,rfl⟩
  refine ⟨rfl,?_⟩
  show Aj s [Bw _ (.row 5 (Ad b))]=_
  rw [AU (BH _)];rfl
def Cf (a b:List Nat):List Nat:=List.zipWith (fun x y=>x ^^^ y) a b
variable {a:List Nat}
theorem Om (h:a.length=128) (h':b.length=128):(Cf a b).length=128:=by unfold Cf;rw [List.length_zipWith];omega
theorem Zg6 (h:∀ x ∈ a,x<256) (h':∀ x ∈ b,x<256):∀ x ∈ Cf a b,x<256:=by
 intro x hx
 obtain ⟨i,hi⟩:=Zra hx
 unfold Cf at hi
 rw [List.getElem?_zipWith] at hi
 cases ha:a[i]? with
 | none=>rw [ha] at hi;cases hi
 | some y=>cases hb:b[i]? with
  | none=>rw [ha,hb] at hi;cases hi
  | some z=>
   rw [ha,hb] at hi
   cases hi
   exact Zq9 (n:=8) (h y (Zp5 ha)) (h' z (Zp5 hb))
theorem Pg (h:b.length=128) (h':∀ x ∈ b,x<256):Ls Ce.u8 b (Az b):=by
 have e:(b.map fun (x:Nat)=>[AV.int .u8 (x:Int)]).flatten=Ad b:=by
  clear h h'
  induction b with
  | nil=>rfl
  | cons x b ih=>rw [Zqz,List.flatten_cons,ih];rfl
 refine ⟨b.map fun (x:Nat)=>[.int .u8 (x:Int)],?_,.inr (.inr ⟨none,by rw [e,h];rfl,by rw [e,B2];exact (Zqm _).symm⟩),by omega⟩
 refine EB (by simp) fun i x l h1 h2=>?_
 rw [Zqi,h1] at h2
 cases h2
 exact ⟨rfl,h' x (Zp5 h1)⟩
variable {cs:List AV}
theorem QY {e:Nat}{s:St}(h:s.get r=some (.row e cs)) (hv:cs[o]?=some v):load1 r o s=some v:=by
 unfold load1
 rw [Ot h,← Jw] at *
 exact hv
theorem Xh {e:Nat}{s:St}{K:AV->Prop}(h:s.get r=some (.row e (Ad bs))) (ho:o=i) (hw:bs[i]?=some w) (hk:K (.int .u8 (w:Int))):(Option.rec (motive:=fun _=>Prop) False (fun s'=>K s') (load1 r o s)):=by
 subst ho
 rw [QY h (by unfold Ad;rw [Zqi,hw];rfl)];exact hk
def DN (a b:List Nat) (i:Nat):List Nat:=(Cf a b).take i++a.drop i
theorem Vm {x y:Nat}(ha:a.length=128) (hb:b.length=128) (hx:a[i]?=some x) (hy:b[i]?=some y):(DN a b i)[i]?=some x∧(DN a b i).set i (x ^^^ y)=DN a b (i+1):=by
 have hl:=(Zpk.1 hx).1
 have hxl:=Om ha hb
 have ht:((Cf a b).take i).length=i:=by rw [Zp9];omega
 have hg:(Cf a b)[i]?=some (x ^^^ y):=by unfold Cf;rw [List.getElem?_zipWith,hx,hy]
 have hd:a.drop i=x::a.drop (i+1):=by
  rw [Zp6 hl];congr 1;exact (Zpk.1 hx).2
 unfold DN
 refine ⟨?_,?_⟩
 ·rw [Zqe (by omega),ht,Nat.sub_self,hd];rfl
 ·rw [List.set_append,Zpr (by omega),ht,Nat.sub_self,hd,List.set_cons_zero,List.take_add_one,hg,List.append_assoc];rfl
def twoF:Fn (List Nat×List Nat×Unit):=⟨.v bytC (.v bytC .nil),fun x=>x.1.length=128∧x.2.1.length=128,fun x=>Az (Cf x.1 x.2.1)⟩
theorem Zhe (hE:EM P e) (h176:Con e 176 (relS Py)):OvOk P 131 twoF.O:=by
 refine B3 g131.b ?_
 rintro ⟨a,b,_⟩ _ ⟨v,_,rfl,⟨_,e0,hA⟩,w,_,rfl,⟨_,e1,hB⟩,rfl⟩ ⟨ha,hb⟩
 cases e0
 cases e1
 dsimp only at ha hb hA hB
 obtain ⟨cs,hs,hl,hn⟩:=hA.nth
 obtain ⟨ds,hs',hl',hn'⟩:=hB.nth
 have hvf:=hB.hf
 refine ⟨rfl,C.of_G hE g131 ?_⟩
 have fin:∀ s,s.get 0=some (.row 5 (Ad (Cf a b)))->Frz s (.sl 0 0 128 (some 128)) (twoF.out (a,b,())):=fun s h=>.sl 0 0 128 _ _ 5 _ _ _ h (fun i x h=>by rw [Zpy];exact h) (Li (BH _)) (.inl rfl)
 generalize twoF.out _=O at fin ⊢
 conv=>whnf
 refine Zg9 h176 ha hA ?_;conv=>whnf
 have h0:DN a b 0=a:=by unfold DN;simp
 refine Aw hE 128 (fun i=>[(1,w),(5,.sl 0 0 128 (some 128)),(6,.int .i64 (i:Int))]) (fun i=>[.row 5 (Ad (DN a b i))]) (fun _=>True) trivial (Abs.tells (rs:=[0]) ⟨by decide,⟨t9,r9,r9,trivial⟩,⟨⟨Bj (BH _),by rw [AU (BH _),h0];rfl⟩,trivial⟩⟩) ?_
 intro i hi _
 conv=>whnf
 refine AD rfl hs' ?_;conv=>whnf
 by_cases hlt:i<b.length
 ·obtain ⟨x,_,r,hx,⟨rfl,hx'⟩,-⟩:=hn i (by omega)
  obtain ⟨y,_,r',hy,⟨rfl,hy'⟩,hd⟩:=hn' i hlt
  obtain ⟨hg,hst⟩:=Vm ha hb hx hy
  have hil:=(Zpk.1 hg).1
  repeat' (first|(refine R1 (i:=i) (bs:=DN a b i) rfl (by omega) hil ?_;rw [hst];conv=>whnf)|((first|refine G4 rfl rfl (by omega) (by omega) ?_|refine Ar hs' hlt hd ?_|refine As ?_|refine AD rfl hs' ?_|refine Xh (i:=i) (bs:=DN a b i) rfl (by omega) hg ?_|refine Vf rfl rfl hx' hy' ?_|refine Ac ?_|refine ⟨rfl,?_⟩);conv=>whnf)|refine Aa ?_ ?_|(intro _;first|omega|conv=>whnf))
  exact ⟨by omega,trivial,Abs.tells (rs:=[0]) ⟨by decide,⟨t9,r9,r9,trivial⟩,⟨o9 (BH _),trivial⟩⟩⟩
 ·have he:DN a b i=Cf a b:=by
   have:=Om ha hb
   unfold DN;rw [Zps (by omega),Zqf (by omega),Zqu]
  rw [he]
  repeat' (first|refine Aa ?_ ?_|(intro _;first|omega|conv=>whnf))
  exact fin _ rfl
def Fg:List Nat:=List.replicate 128 0
def AY (l:List (List Nat)):List Nat:=l.foldl Cf Fg
def Ey (l:List (List Nat)):Prop:=∀ b ∈ l,b.length=128∧∀ x ∈ b,x<256
theorem VO {l:List (List Nat)}(h:l[i]?=some b):AY (l.take (i+1))=Cf (AY (l.take i)) b:=by
 unfold AY
 rw [List.take_add_one,h,List.foldl_append];rfl
theorem Jy {l:List (List Nat)}(h:Ey l):(AY l).length=128∧∀ x ∈ AY l,x<256:=by
 have key:∀ (l:List (List Nat)) (a:List Nat),Ey l->(a.length=128∧∀ x ∈ a,x<256)->(l.foldl Cf a).length=128∧∀ x ∈ l.foldl Cf a,x<256:=by
  intro l
  induction l with
  | nil=>intro a _ h;exact h
  | cons b l ih=>
   intro a hl h
   have hb:=hl b (by simp)
   exact ih _ (fun c hc=>hl c (by simp [hc])) ⟨Om h.1 hb.1,Zg6 h.2 hb.2⟩
 exact key l Fg h ⟨by unfold Fg;simp,fun x hx=>by unfold Fg at hx;rw [(List.mem_replicate.1 hx).2];decide⟩
noncomputable def allF3:Fn (List (List Nat)×Unit):=⟨.v blkC .nil,fun x=>Ey x.1,fun x=>Az (AY x.1)⟩
theorem Zg3 (hE:EM P e) (h131:Con e 131 twoF.O):OvOk P 79 allF3.O:=by
 refine B3 g79.b ?_
 rintro ⟨l,_⟩ _ ⟨v,_,rfl,⟨_,e0,hL⟩,rfl⟩ hB
 cases e0
 have hB:Ey l:=hB
 obtain ⟨cs,hs,hl,hn⟩:=hL.nth
 have hvf:=hL.hf
 dsimp only at hs hl hn
 refine ⟨rfl,C.of_G hE g79 ?_⟩
 have fin:∀ s,Frz s (Az (AY l)) (allF3.out (l,())):=fun s=>.plain _ rfl
 generalize allF3.out _=O at fin ⊢
 conv=>whnf
 refine LV (n:=127) rfl rfl (by decide) ?_;conv=>whnf
 refine Aw hE l.length (fun i=>[(0,v),(3,Az (AY (l.take i))),(4,.int .i64 (i:Int))]) (fun _=>[]) (fun _=>True) trivial (AbsK.frz (n:=0) (e:=5) (cs:=Ad Fg) (tl:=[(0,v),(3,.sl 0 0 128 (some 128)),(4,.int .i64 0)]) (os:=[]) (rs:=[0]) .a rfl rfl rfl rfl rfl rfl ?_ rfl) ?_
 ·show [(0,CT 0 _ v),_,_]=_
  rw [FZ v hvf];rfl
 intro i hi _
 conv=>whnf
 refine Am hs ?_;conv=>whnf
 by_cases hlt:i<l.length
 ·obtain ⟨b,_,r,hb,⟨u,rfl,hu⟩,hd⟩:=hn i hlt
  have hbb:=hB b (Zp5 hb)
  have hX:=Jy (l:=l.take i) fun c hc=>hB c (Zqq hc)
  have hst:=VO hb
  have hc:∀ (Q:AV->St->Prop) s,Q (Az (AY (l.take (i+1)))) s->ESc e 131 [Az (AY (l.take i)),u] s Q:=fun Q s k=>Fn.u (F:=twoF) h131 (AY (l.take i),b,()) ⟨_,_,rfl,⟨_,rfl,Pg hX.1 hX.2⟩,_,_,rfl,⟨_,rfl,hu⟩,rfl⟩ ⟨hX.1,hbb.1⟩ (by rw [hst] at k;exact k)
  repeat' (first|((first|refine Ar hs hlt hd ?_|refine As ?_|refine Am hs ?_|refine hc _ _ ?_|refine Ac ?_|refine ⟨rfl,?_⟩);conv=>whnf)|refine Aa ?_ ?_|(intro _;first|omega|conv=>whnf))
  exact ⟨hlt,trivial,Abs.tells (rs:=[]) .a⟩
 ·rw [Zps (by omega)]
  repeat' (first|refine Aa ?_ ?_|(intro _;first|omega|conv=>whnf))
  exact fin _
def Bi (c:Cfg) (s k:Int):Int:=(s / c.chunk*(c.members-1)+k) % c.members
def Nl (m r:Nat):Nat->Nat
 | 0=>0
 | i+1=>Nl m r i+(r+i) % m
theorem Zfh:∀ m<17,∀ r<m,Nl m r m*2=m*(m-1):=by decide
def Gl (c:Cfg) (s:Int):Nat->Int
 | 0=>0
 | i+1=>Gl c s i+Bi c s i
theorem WK {c:Cfg}{s:Int}(hm:0<c.members):∀ i,Gl c s i=(Nl c.members.toNat ((s / c.chunk*(c.members-1)) % c.members).toNat i:Nat)
 | 0=>rfl
 | i+1=>by
  unfold Gl Nl Bi
  rw [WK hm i]
  have h0:=Zq3 (s / c.chunk*(c.members-1)) (show c.members≠0 by omega)
  rw [← Int.emod_add_emod]
  generalize (s / c.chunk*(c.members-1)) % c.members=r at *
  obtain ⟨n,hn⟩:∃ n:Nat,r=n:=⟨r.toNat,by omega⟩
  obtain ⟨m,hmm⟩:∃ m:Nat,c.members=m:=⟨c.members.toNat,by omega⟩
  rw [hmm,hn]
  simp only [Int.toNat_natCast]
  push_cast
  rfl
variable {c:Cfg}{s k:Int}
theorem M6 (hm:0<c.members):0≤Bi c s k∧Bi c s k<c.members:=⟨Zq3 _ (by omega),Zq5 _ hm⟩
theorem Zct (hM:c.may):Gl c s (c.members-1).toNat+Bi c s (c.members-1)=c.members*(c.members-1) / 2:=by
 unfold Cfg.may at hM
 have h1:=WK (c:=c) (s:=s) (by omega) c.members.toNat
 have h0:=Zq3 (s / c.chunk*(c.members-1)) (show c.members≠0 by omega)
 have h0':=Zq5 (s / c.chunk*(c.members-1)) (show 0<c.members by omega)
 have h2:=Zfh c.members.toNat (by omega) ((s / c.chunk*(c.members-1)) % c.members).toNat (by omega)
 obtain ⟨z,hz⟩:∃ z,z=Nl c.members.toNat ((s / c.chunk*(c.members-1)) % c.members).toNat c.members.toNat:=⟨_,rfl⟩
 rw [← hz] at h1 h2
 have h3:Gl c s c.members.toNat=Gl c s (c.members-1).toNat+Bi c s (c.members-1):=by
  rw [show c.members.toNat=(c.members-1).toNat+1 by omega]
  show _+Bi c s (((c.members-1).toNat:Nat):Int)=_
  rw [show (((c.members-1).toNat:Nat):Int)=c.members-1 by omega]
 rw [← h3,h1]
 obtain ⟨m,hm⟩:∃ m:Nat,c.members=((m+1:Nat):Int):=⟨c.members.toNat-1,by omega⟩
 rw [hm] at h2 ⊢
 rw [Int.toNat_natCast] at h2
 rw [Nat.add_sub_cancel] at h2
 have h4:((m+1:Nat):Int)*(((m+1:Nat):Int)-1)=(z:Int)*2:=by
  rw [show ((m+1:Nat):Int)-1=(m:Int) by omega];exact_mod_cast h2.symm
 rw [h4];omega
def onA (args:List AV) (c:Cfg) (s k:Int):Prop:=args=[.agg c.c,.int .i64 s,.int .i64 k]∧c.ok∧c.may∧(0≤s∧s<At c)
def P7 (args:List AV) (u:AV):Prop:=∃ c s k,onA args c s k∧(0≤k∧k<c.members-1)∧u=.int .i64 (Bi c s k)
def P6 (args:List AV) (u:AV):Prop:=∃ c s k,onA args c s k∧(0≤k∧k<c.members)∧u=.int .i64 (Bi c s k)
theorem Xa {args:List AV}{c':Cfg}{s' k':Int}(h:onA args c s k) (h':onA args c' s' k'):c=c'∧s=s'∧k=k':=by
 obtain ⟨rfl,-⟩:=h
 obtain ⟨h1,-⟩:=h'
 injection h1 with h1 h2
 injection h2 with h2 h3
 injection h3 with h3
 injection h1 with h1
 injection h2 with _ h2
 injection h3 with _ h3
 exact ⟨Cfg.inj h1,h2,h3⟩
theorem Zic {e:Env}(h:Con e 173 (Ao P7)) {c:Cfg}{s k:Int}(hc:c.ok) (hM:c.may) (hs:0≤s∧s<At c) (hk:0≤k∧k<c.members-1) {st:St}{K:AV->St->Prop}(hq:K (.int .i64 (Bi c s k)) st):ESc e 173 [.agg c.c,.int .i64 s,.int .i64 k] st K:=by
 refine ESc.rel h ⟨_,c,s,k,⟨rfl,hc,hM,hs⟩,hk,rfl⟩ ?_
 rintro u ⟨c',s',k',h1,_,rfl⟩
 obtain ⟨rfl,rfl,rfl⟩:=Xa h1 ⟨rfl,hc,hM,hs⟩
 exact hq
theorem Zib {e:Env}(h:Con e 173 (Ao P6)) {c:Cfg}{s k:Int}(hc:c.ok) (hM:c.may) (hs:0≤s∧s<At c) (hk:0≤k∧k<c.members) {st:St}{K:AV->St->Prop}(hq:K (.int .i64 (Bi c s k)) st):ESc e 173 [.agg c.c,.int .i64 s,.int .i64 k] st K:=by
 refine ESc.rel h ⟨_,c,s,k,⟨rfl,hc,hM,hs⟩,hk,rfl⟩ ?_
 rintro u ⟨c',s',k',h1,_,rfl⟩
 obtain ⟨rfl,rfl,rfl⟩:=Xa h1 ⟨rfl,hc,hM,hs⟩
 exact hq
theorem Vr (hM:c.may) (hs:0≤s∧s<At c):(0≤s / c.chunk∧s / c.chunk≤64)∧0≤s / c.chunk*(c.members-1)∧s / c.chunk*(c.members-1)≤1000:=by
 have hm:=BC hM
 unfold Cfg.may at hM
 have h1:=Int.ediv_nonneg hs.1 (show 0≤c.chunk by omega)
 have h2:=Int.ediv_le_self c.chunk hs.1
 exact ⟨⟨h1,by omega⟩,Int.mul_nonneg h1 (by omega),Int.le_trans (Int.mul_le_mul (by omega:s / c.chunk≤64) (by omega:c.members-1≤15) (by omega) (by omega)) (by decide)⟩
theorem Zmj (hE:EM P e):OvOk P 173 (Ao P7):=by
 refine CX g173.b ?_
 rintro args u ⟨c,s,k,⟨rfl,hc,hM,hs⟩,hk,rfl⟩
 refine ⟨rfl,rfl,C.of_G hE g173 ?_⟩
 have hr:=Vr hM hs
 have hmm:=BC hM
 have fin:∀ st,Frz st (.int .i64 ((s / c.chunk*(c.members-1)+k) % c.members)) (.int .i64 (Bi c s k)):=fun st=>.plain _ rfl
 generalize AV.int .i64 (Bi c s k)=O at fin ⊢
 unfold Cfg.may at hM
 have hp:=DW (a:=s / c.chunk) (b:=c.members-1) (by omega) (by omega)
 conv=>whnf
 repeat' (first|((first|refine Ij rfl rfl (by omega) ?_|refine Kp rfl rfl (by omega) ?_|refine Cs rfl rfl hp ?_|refine Ac ?_|refine AL ?_);conv=>whnf)|refine Ap ?_ ?_|(intro _;first|omega|conv=>whnf))
 exact fin _
theorem Zmi (hE:EM P e) (h173:Con e 173 (Ao P7)):OvOk P 173 (Ao P6):=by
 refine CX g173.b ?_
 rintro args u ⟨c,s,k,⟨rfl,hc,hM,hs⟩,hk,rfl⟩
 refine ⟨rfl,rfl,C.of_G hE g173 ?_⟩
 have hr:=Vr hM hs
 have hmm:=BC hM
 have hla:=Zct (s:=s) hM
 have fin:∀ st v,v=Bi c s k->Frz st (.int .i64 v) (.int .i64 (Bi c s k)):=fun st v h=>by subst h;exact .plain _ rfl
 generalize AV.int .i64 (Bi c s k)=O at fin ⊢
 have hM':=hM
 unfold Cfg.may at hM'
 have hsum:∀ i:Nat,i≤16->0≤Gl c s i∧Gl c s i≤16*i:=by
  intro i
  induction i with
  | zero=>intro _;unfold Gl;omega
  | succ i ih=>intro h;have:=ih (by omega);have:=M6 (c:=c) (s:=s) (k:=i) (by omega);unfold Gl;omega
 have hp:=DW (a:=s / c.chunk) (b:=c.members-1) (by omega) (by omega)
 have hp2:=DW (a:=c.members) (b:=c.members-1) (by omega) (by omega)
 have hp3:0≤c.members*(c.members-1):=Int.mul_nonneg (by omega) (by omega)
 by_cases hke:k=c.members-1
 ·have hon:=M6 (c:=c) (s:=s) (k:=c.members-1) (by omega)
  subst hke
  conv=>whnf
  repeat' (first|((first|refine Ij rfl rfl (by omega) ?_|refine AL ?_);conv=>whnf)|refine Ap ?_ ?_|(intro _;first|omega|conv=>whnf))
  refine Aw hE (c.members-1).toNat (fun i=>[(1,.int .i64 s),(3,.ptr 0 0),(8,.int .i64 (Gl c s i)),(9,.int .i64 (i:Int))]) (fun _=>[.row 24 c.c]) (fun _=>True) trivial (Abs.tells (rs:=[0]) .a) ?_
  intro i hi _
  have hsm:=hsum i (by omega)
  conv=>whnf
  by_cases hlt:i<(c.members-1).toNat
  ·have hc1:=fun (Q:AV->St->Prop) st q=>@Zic e h173 c s i hc hM hs (by omega) st Q q
   have hoi:=M6 (c:=c) (s:=s) (k:=i) (by omega)
   repeat' (first|((first|refine hc1 _ _ ?_|refine Ac ?_|refine AL ?_|refine ⟨rfl,?_⟩);conv=>whnf)|refine Aa ?_ ?_|(intro _;first|omega|conv=>whnf))
   exact ⟨hlt,trivial,Abs.tells (rs:=[0]) .a⟩
  ·have hie:i=(c.members-1).toNat:=by omega
   rw [hie]
   rw [hie] at hsm
   repeat' (first|((first|refine Cs rfl rfl hp2 ?_|refine Ij rfl rfl (by omega) ?_|refine AL ?_);conv=>whnf)|refine Aa ?_ ?_|(intro _;first|omega|conv=>whnf))
   exact fin _ _ (by omega)
 ·conv=>whnf
  repeat' (first|((first|refine Ij rfl rfl (by omega) ?_|refine Kp rfl rfl (by omega) ?_|refine Cs rfl rfl hp ?_|refine Ac ?_|refine AL ?_);conv=>whnf)|refine Ap ?_ ?_|(intro _;first|omega|conv=>whnf))
  exact fin _ _ rfl
def IH (a:Int):List (Int×List Nat)->Option (List Nat)
 | []=>none
 | w::l=>if w.1=a then some w.2 else IH a l
theorem Xi (a:Int):∀ W:List WR,Cl a W=IH a (W.map fun w=>(w.at_,w.b))
 | []=>rfl
 | w::W=>by
  show (if w.at_=a then some w.b else Cl a W)=if w.at_=a then some w.b else IH a (W.map fun w=>(w.at_,w.b))
  rw [Xi a W]
def Cb (x:Dk) (a:Int):List Nat:=Ah ((IH a x.2.1.reverse).getD (x.1.getD a.toNat []))
theorem K7 {x:Dk}{y:DK}(h:DKof x y) (a:Int):Ah (DJ y a)=Cb x a:=by
 unfold DJ FK Cb
 rw [Xi,List.map_reverse,h.w,h.b]
theorem V2 {a:Int}{b:List Nat}:∀ {L:List (Int×List Nat)},IH a L=some b->(a,b) ∈ L
 | [],h=>by cases h
 | w::L,h=>by
  unfold IH at h
  split at h
  ·cases h;subst_vars;exact List.mem_cons_self
  ·exact List.mem_cons_of_mem _ (V2 h)
theorem All2.memR {α β:Type}{R:α->β->Prop}:∀ {l:List α}{m:List β},All2 R l m->∀ b ∈ m,∃ a,R a b
 | _,_,.nil,b,h=>by cases h
 | _,_,.cons h1 h2,b,h=>by
  rcases Zqt.1 h with rfl|h
  ·exact ⟨_,h1⟩
  ·exact All2.memR h2 b h
theorem Oq {x:Dk}(h:dkC.r x l) (hk:Cy x) (a:Int):(Cb x a).length=128∧∀ y ∈ Cb x a,y<256:=by
 obtain ⟨y,hy,-⟩:=IK h
 obtain ⟨bs,ws,dd⟩:=x
 obtain ⟨-,h1,h2,-⟩:=hk
 have e1:y.bs=bs:=hy.b
 have e2:y.ws.map (fun w=>(w.at_,w.b))=ws:=hy.w
 have key:∀ b:List Nat,(BM b∧∀ y ∈ b,y<256)->(Ah b).length=128∧∀ y ∈ Ah b,y<256:=fun b hb=>by
  unfold Ah
  split
  ·exact ⟨by simp,fun y hy=>by rw [(List.mem_replicate.1 hy).2];decide⟩
  ·rename_i hne
   refine ⟨?_,hb.2⟩
   rcases hb.1 with h|h
   ·exact absurd (Zqh.1 h) hne
   ·exact h
 refine key _ ?_
 dsimp only
 cases hl:IH a ws.reverse with
 | some b=>
  have hm:=List.mem_reverse.1 (V2 hl)
  refine ⟨(h2 _ hm).2.2,?_⟩
  show ∀ y ∈ b,y<256
  rw [← e2] at hm
  obtain ⟨w,hw,e⟩:=Zqj.1 hm
  cases e
  exact (hy.a.ws w hw).b.2
 | none=>
  show BM (bs.getD a.toNat [])∧_
  rw [Zqc]
  cases hg:bs[a.toNat]? with
  | none=>exact ⟨.inl rfl,fun y hy=>by cases hy⟩
  | some b=>
   refine ⟨h1 b (Zp5 hg),?_⟩
   show ∀ y ∈ b,y<256
   rw [← e1] at hg
   obtain ⟨u,hb⟩:=All2.memR hy.a.bs b (Zp5 hg)
   exact hb.2
def Bd (D:List Dk) (i:Nat):Bool:=(D[i]?.map fun d=>d.2.2).getD false
def Bk (D:List Dk) (a:Int) (mm:Nat):Nat->List (List Nat)
 | 0=>[]
 | i+1=>Bk D a mm i++(if i=mm then [] else [(D[i]?.map fun d=>Cb d a).getD []])
def Do (D:List Dk) (ms:Int) (i:Nat):Prop:=(i:Int)=ms∨Bd D i=true
open Classical in
noncomputable def CN (c:Cfg) (D:List Dk) (ms s k:Int):Option (List Nat):=
 if ¬Do D ms (Bi c s k).toNat then some ((D[(Bi c s k).toNat]?.map fun d=>Cb d (s+1)).getD [])
 else if ∀ i<c.members.toNat,i≠(Bi c s k).toNat->¬Do D ms i then some (AY (Bk D (s+1) (Bi c s k).toNat c.members.toNat)) else none
noncomputable def Er:Option (List Nat)->AV
 | some b=>.tup [Az b,.bool true]
 | none=>.tup [.nils,.bool false]
def HA (c:Cfg) (D:List Dk) (s:Int):Prop:=c.may∧C3 c D∧(∀ d ∈ D,BG d)∧0≤s∧s<At c
noncomputable def offF:Fn (Cfg×List Dk×Int×Int×Int×Unit):=⟨.g cfgC (.v dkC.sl (.v i64C (.v i64C (.v i64C .nil)))),fun x=>HA x.1 x.2.1 x.2.2.2.1∧0≤x.2.2.2.2.1∧x.2.2.2.2.1<x.1.members,fun x=>Er (CN x.1 x.2.1 x.2.2.1 x.2.2.2.1 x.2.2.2.2.1)⟩
variable {D:List Dk}
theorem Tb (hM:c.may) (hD:C3 c D) (hG:∀ d ∈ D,BG d) (hs:0≤s∧s<At c) (h175:Con e 175 seenF.O)
 (hn:∀ i,i<D.length->∃ x c l,D[i]?=some x∧dkC.r x c∧cs.drop (i*3)=c++l) (hi:(i:Int)<c.members):
 ∃ x bv wv r,D[i]?=some x∧Cy x∧dkC.r x [bv,wv,.bool (Bd D i)]∧cs.drop (i*3)=[bv,wv,.bool (Bd D i)]++r∧∀ (Q:AV->St->Prop) st,Q (Az (Cb x (s+1))) st->ESc e 175 [.agg [bv,wv,.bool (Bd D i)],.int .i64 (s+1)] st Q:=by
 have hl:=hD.1
 have hil:i<D.length:=by omega
 obtain ⟨x,cl,r,hx,hxr,hd⟩:=hn i hil
 obtain ⟨hlen,hk⟩:=hD.2 i hil x hx
 obtain ⟨y,hy,e0⟩:=IK hxr
 have hok:=KI hy (hG x (Zp5 hx))
 have hdk:AX y=true:=by rw [KO hy];exact hk
 have hdead:Bd D i=x.2.2:=by unfold Bd;rw [hx];rfl
 have hus:y.us.length=x.1.length:=by rw [hy.a.bs.length,hy.b]
 have hse:=K7 hy (s+1)
 obtain ⟨bs,ws,dd⟩:=x
 obtain ⟨bv,wv,rfl,-,-⟩:=GI hxr
 rw [Zpr (by omega)] at hlen
 dsimp only at hlen hus hdead
 rw [hdead]
 refine ⟨_,bv,wv,r,hx,hk,hxr,hd,fun Q st k=>?_⟩
 have hyv:y.v=.agg [bv,wv,.bool dd]:=by unfold DK.v;rw [e0]
 rw [← hse] at k
 have:=ESc.fam (e:=e) (k:=Q) (s:=st) seenF h175 ⟨y,s+1⟩ ⟨hok,hdk,by dsimp only;omega⟩ rfl k
 rw [← hyv]
 exact this
def Zkm:AC:=match Ql with|.mk c _=>c
def Sa:AC:=match Z2 with|.mk c _=>c
def R6:AC:=match Sa with
 | .seq _ (.seq _ (.seq _ (.seq _ (.seq _ r))))=>r
 | _=>.skip
def Tr (v:AV) (ms s:Int) (mm:Nat) (l:List (List Nat)) (i:Nat):List (Nat×AV):=[(1,v),(2,.int .i64 ms),(3,.int .i64 s),(5,.ptr 0 0),(12,.int .i64 (mm:Int)),(13,match l with|[]=>.nils|b::l=>.sl 1 0 (l.length+1) none),(14,.int .i64 (i:Int))]
def Tt (c:Cfg) (l:List (List Nat)):List AObj:=match l with
 | []=>[.row 24 c.c]
 | b::l=>[.row 24 c.c,.row 76 ((b::l).map Az)]
theorem F2 (l:List (List Nat)):hfs (l.map Az)=true:=hfs_iff.2 fun v hv=>by
 obtain ⟨b,_,rfl⟩:=Zqj.1 hv;rfl
theorem Pf {l:List (List Nat)}(h:Ey l) (hl:0<l.length∧l.length≤1000):Ls bytC l (.fz l.length none (l.map Az)):=by
 have e:(l.map fun b=>[Az b]).flatten=l.map Az:=by
  clear h hl
  induction l with
  | nil=>rfl
  | cons x b ih=>rw [Zqz,List.flatten_cons,ih];rfl
 refine ⟨l.map fun b=>[Az b],?_,.inr (.inr ⟨none,by rw [e],by rw [e,Zpq];exact (Zqm _).symm⟩),by omega⟩
 refine EB (by simp) fun i x l' h1 h2=>?_
 rw [Zqi,h1] at h2
 cases h2
 have:=h x (Zp5 h1)
 exact ⟨_,rfl,Pg this.1 this.2⟩
theorem Rk (D:List Dk) (a:Int) (mm:Nat):∀ i,(Bk D a mm i).length≤i∧i≤(Bk D a mm i).length+1∧(i≤mm->(Bk D a mm i).length=i)
 | 0=>⟨Zp4 _,by omega,fun _=>rfl⟩
 | i+1=>by
  have:=Rk D a mm i
  unfold Bk
  rw [Zpx]
  split <;> simp <;> omega
variable {ms:Int}
theorem Zfd (hE:EM P e) (h79:Con e 79 allF3.O) {mm:Nat}{l:List (List Nat)}(hl:Ey l) (hn:0<l.length∧l.length≤1000) (hk:∀ st,K (.tup [Az (AY l),.bool true]) st):W P 0 none R6 (A6 (Tr v ms s mm l i)) (Aj St0 (Tt c l)) [] (BS [.tmp 10,.tmp 11] K):=by
 have hLs:=Pf hl hn
 have hc:∀ (Q:AV->St->Prop) st,Q (Az (AY l)) st->ESc e 79 [.fz l.length none (l.map Az)] st Q:=fun Q st k=>Fn.u (F:=allF3) h79 (l,()) ⟨_,_,rfl,⟨_,rfl,hLs⟩,rfl⟩ hl k
 rcases l with _|⟨b,l⟩
 ·exact absurd hn.1 (by simp)
 refine W.tells (AbsK.frz (n:=1) (e:=76) (cs:=(b::l).map Az) (tl:=[(13,.sl 1 0 (l.length+1) none)]) (os:=[.row 24 c.c]) (rs:=[0,1]) ⟨rfl,by decide,⟨r9,trivial⟩,⟨r9,o9 (F2 _),trivial⟩⟩ rfl (F2 _) rfl rfl rfl rfl rfl (by show [E3 1 _ (.row 24 c.c)]=_;rw [Hq rfl])) ?_
 refine Hz hE ?_
 show VW P e 0 R6 (A6 [(13,.fz (l.length+1) none ((b::l).map Az))]) (Aj St0 [.row 24 c.c]) none [] _
 conv=>whnf
 repeat' (first|(refine hc _ _ ?_;conv=>whnf)|fail)
 exact hk _
theorem Zid (hE:EM P e) (h79:Con e 79 allF3.O) (h173:Con e 173 (Ao P6)) (h174:Inl e 174 Zkm [.tmp 6]) (h175:Con e 175 seenF.O):OvOk P 129 offF.O:=by
 refine B3 g129.b ?_
 rintro ⟨c,D,ms,s,k,_⟩ _ ⟨_,_,rfl,⟨rfl,hc⟩,v,_,rfl,⟨_,e0,hD⟩,_,_,rfl,⟨e1,-⟩,_,_,rfl,⟨e2,-⟩,_,_,rfl,⟨e3,-⟩,rfl⟩ ⟨⟨hM,hDk,hG,hs⟩,hk⟩
 cases e0
 cases e1
 cases e2
 cases e3
 dsimp only at hM hDk hG hs hk hc hD
 obtain ⟨cs,hs',hl,hn⟩:=hD.nth
 have hvf:=hD.hf
 have hmm:=BC hM
 have hon:=M6 (c:=c) (s:=s) (k:=k) (by unfold Cfg.may at hM;omega)
 have hDl:=hDk.1
 have hM':=hM
 unfold Cfg.may at hM'
 refine ⟨?_,C.of_W g129.f g129.c ?_⟩
 ·show AM.hf (Er _)=true
  unfold Er;split <;> rfl
 have fin:∀ st o,o=CN c D ms s k->Frz st (Er o) (offF.out (c,D,ms,s,k,())):=fun st o h=>by
  subst h;refine .plain _ ?_;unfold Er;split <;> rfl
 generalize offF.out _=O at fin ⊢
 have hco:=fun (Q:AV->St->Prop) st q=>@Zib e h173 c s k hc hM hs hk st Q q
 unfold CN at fin
 obtain ⟨mm,hme⟩:∃ mm:Nat,Bi c s k=mm:=⟨(Bi c s k).toNat,by omega⟩
 rw [hme] at fin hco hon
 rw [Int.toNat_natCast] at fin
 obtain ⟨x,bv,wv,r,hx,hxk,hxr,hd,hse⟩:=Tb hM hDk hG hs h175 hn (i:=mm) hon.2
 have hml:mm<D.length:=by omega
 show W P 0 none Sa (An [.agg c.c,v,.int .i64 ms,.int .i64 s,.int .i64 k] 0 .lf) St0 [] (BS [.tmp 10,.tmp 11] _)
 refine Bz hE ?_;conv=>whnf
 refine Bz hE ?_;conv=>whnf
 refine hco _ _ ?_;conv=>whnf
 refine Bz hE ?_
 have hoth:∀ i:Nat,(i:Int)≤c.members->Ey (Bk D (s+1) mm i):=by
  intro i
  induction i with
  | zero=>intro _ b hb;cases hb
  | succ i ih=>
   intro hi b hb
   unfold Bk at hb
   rcases Zqb.1 hb with hb|hb
   ·exact ih (by omega) b hb
   ·split at hb
    ·cases hb
    ·obtain ⟨y,_,_,_,hy,hyk,hyr,-⟩:=Tb hM hDk hG hs h175 hn (i:=i) (by omega)
     rw [hy] at hb
     rw [List.mem_singleton.1 hb]
     exact Oq hyr hyk _
 by_cases hlo:Do D ms mm
 ·rw [Zpr (not_not_intro hlo)] at fin
  have hnext:W P 0 none (.seq (.reg [.mk 14 (.mv (.c .nils)) none]) (.seq (match Sa with|.seq _ (.seq _ (.seq _ (.seq _ (.seq r _))))=>r|_=>.skip) R6)) (A6 [(1,v),(2,.int .i64 ms),(3,.int .i64 s),(5,.ptr 0 0),(12,.int .i64 (mm:Int))]) (Aj St0 [.row 24 c.c]) [] (BS [.tmp 10,.tmp 11] fun u st=>Frz st u O):=by
   refine Bz hE ?_;conv=>whnf
   refine Bz hE ?_;conv=>whnf
   refine Aw hE c.members.toNat (fun i=>Tr v ms s mm (Bk D (s+1) mm i) i) (fun i=>Tt c (Bk D (s+1) mm i)) (fun i=>∀ j<i,j≠mm->¬Do D ms j) (fun k h=>by omega) (Abs.tells (rs:=[0]) .a) ?_
   intro i hi hI
   have hol:=Rk D (s+1) mm i
   have hbl:=hoth i (by omega)
   have hn0:c.members.toNat=i->0<(Bk D (s+1) mm i).length∧(Bk D (s+1) mm i).length≤1000:=fun h=>by omega
   have hst:=fun (y:Dk) (hy:D[i]?=some y)=>show Bk D (s+1) mm (i+1)=Bk D (s+1) mm i++(if i=mm then [] else [Cb y (s+1)]) by
    show Bk D (s+1) mm i++_=_
    rw [hy];rfl
   have hfin:c.members.toNat=i->∀ st,Frz st (.tup [Az (AY (Bk D (s+1) mm i)),.bool true]) O:=fun h st=>fin st (some _) (by
    rw [h,Zpn hI])
   have hrest:=fun (h:c.members.toNat=i)=>Zfd (v:=v) (ms:=ms) (s:=s) (mm:=mm) (i:=i) (c:=c) hE h79 hbl (hn0 h) (K:=fun u st=>Frz st u O) (hfin h)
   clear hfin
   generalize Bk D (s+1) mm i=l at *
   by_cases hlt:i<c.members.toNat
   ·obtain ⟨y,bv',wv',r',hy,hyk,hyr,hd',hse'⟩:=Tb hM hDk hG hs h175 hn (i:=i) (by omega)
    have hil:i<D.length:=by omega
    have hst:=hst y hy
    by_cases him:i=mm
    ·rw [Zpn him,Zqu] at hst
     have hI':∀ j<i+1,j≠mm->¬Do D ms j:=AZ hI fun h=>absurd him h
     rcases l with _|⟨b0,l⟩
     ·conv=>whnf
      repeat' (first|((first|refine Ac ?_|refine ⟨rfl,?_⟩);conv=>whnf)|refine Aa ?_ ?_|refine Ap ?_ ?_|(intro _;first|omega|conv=>whnf))
      exact ⟨hlt,hI',by rw [hst];exact Abs.tells (rs:=[0]) .a⟩
     ·conv=>whnf
      repeat' (first|((first|refine Ac ?_|refine ⟨rfl,?_⟩);conv=>whnf)|refine Aa ?_ ?_|refine Ap ?_ ?_|(intro _;first|omega|conv=>whnf))
      exact ⟨hlt,hI',by rw [hst];exact Abs.tells (rs:=[0,1]) ⟨by decide,⟨t9,r9,r9,r9,r9,r9,r9,trivial⟩,⟨r9,o9 (F2 _),trivial⟩⟩⟩
    ·rw [Zpr him] at hst
     have him':(i:Int)≠mm:=by omega
     by_cases hli:Do D ms i
     ·have hno:∀ st,Frz st (.tup [.nils,.bool false]) O:=fun st=>fin st none (by rw [Zpr fun q=>q i hlt him hli])
      rcases l with _|⟨b0,l⟩
      all_goals
       conv=>whnf
       rcases hli with hli|hli
       ·repeat' (first|((first|refine ESc.inl h174 ?_|refine Ar hs' hil hd' ?_|refine As ?_);conv=>whnf)|refine Aa ?_ ?_|refine Ap ?_ ?_|(intro _;first|omega|conv=>whnf))
        exact ⟨.inr rfl,_,_,rfl,rfl,hno _⟩
       ·rw [hli] at hd'
        repeat' (first|((first|refine ESc.inl h174 ?_|refine Ar hs' hil hd' ?_|refine As ?_);conv=>whnf)|refine Aa ?_ ?_|refine Ap ?_ ?_|(intro _;first|omega|conv=>whnf))
        all_goals exact ⟨.inr rfl,_,_,rfl,rfl,hno _⟩
     ·have hI':∀ j<i+1,j≠mm->¬Do D ms j:=AZ hI fun _=>hli
      have hne:(i:Int)≠ms:=fun h=>hli (.inl h)
      have hdd:Bd D i=false:=Bool.eq_false_iff.2 fun h=>hli (.inr h)
      rw [hdd] at hd' hse'
      rcases l with _|⟨b0,l⟩
      ·conv=>whnf
       repeat' (first|((first|refine ESc.inl h174 ?_|refine Ar hs' hil hd' ?_|refine As ?_|refine A8 (cs:=[bv',wv',.bool false]) rfl ?_|refine hse' _ _ ?_|refine CO (m:=1) ?_|refine Ac ?_|refine ⟨rfl,?_⟩);conv=>whnf)|refine Aa ?_ ?_|refine Ap ?_ ?_|(intro _;first|omega|conv=>whnf))
       exact ⟨hlt,hI',by rw [hst];exact Abs.tells (rs:=[0,2]) ⟨by decide,⟨t9,r9,r9,r9,r9,r9,r9,trivial⟩,⟨r9,⟨Bj rfl,rfl⟩,trivial⟩⟩⟩
      ·have hll:l.length≤100:=by simp only [Zqd] at hol;omega
       conv=>whnf
       repeat' (first|((first|refine ESc.inl h174 ?_|refine Ar hs' hil hd' ?_|refine As ?_|refine A8 (cs:=[bv',wv',.bool false]) rfl ?_|refine hse' _ _ ?_|refine C6 (m:=1) (n:=l.length+1) (old:=(b0::l).map Az) rfl rfl rfl rfl (by rw [Zpq];exact (Zqm _).symm) rfl (by decide) (by omega) ?_|refine Ac ?_|refine ⟨rfl,?_⟩);conv=>whnf)|refine Aa ?_ ?_|refine Ap ?_ ?_|(intro _;first|omega|conv=>whnf))
       refine ⟨hlt,hI',?_⟩
       rw [hst]
       refine Abs.tells (rs:=[0,3]) ⟨by decide,⟨t9,r9,r9,r9,r9,⟨rfl,?_⟩,r9,trivial⟩,⟨r9,⟨Bj (F2 _),?_⟩,trivial⟩⟩
       ·show _=some (AV.sl 3 0 ((l++[Cb y (s+1)]).length+1) none)
        rw [Zpx];rfl
       ·show _=some (Bw _ (AObj.row 76 (((b0::l)++[Cb y (s+1)]).map Az)))
        rw [AU (F2 _),Zp8];rfl
   ·have hie:c.members.toNat=i:=by omega
    have hrest:=hrest hie
    rcases l with _|⟨b0,l⟩
    ·exact absurd (hn0 hie).1 (by simp)
    ·conv=>whnf
     repeat' (first|refine Aa ?_ ?_|(intro _;first|omega|conv=>whnf))
     refine W.tells (Abs.tells (tl:=Tr v ms s mm (b0::l) i) (os:=Tt c (b0::l)) (rs:=[0,1]) ⟨by decide,⟨t9,r9,r9,r9,r9,r9,r9,trivial⟩,⟨r9,o9 (F2 _),trivial⟩⟩) hrest
  conv=>whnf
  rcases hlo with hlo|hlo
  ·repeat' (first|((first|refine ESc.inl h174 ?_|refine Ar hs' hml hd ?_|refine As ?_|refine Au ?_);conv=>whnf)|refine Ap ?_ ?_|(intro _;first|omega|conv=>whnf))
   refine W.tells (Abs.tells (tl:=[(1,v),(2,.int .i64 ms),(3,.int .i64 s),(5,.ptr 0 0),(12,.int .i64 (mm:Int))]) (os:=[.row 24 c.c]) (rs:=[0]) .a) hnext
  ·rw [hlo] at hd
   repeat' (first|((first|refine ESc.inl h174 ?_|refine Ar hs' hml hd ?_|refine As ?_|refine Au ?_);conv=>whnf)|refine Ap ?_ ?_|(intro _;first|omega|conv=>whnf))
   all_goals refine W.tells (Abs.tells (tl:=[(1,v),(2,.int .i64 ms),(3,.int .i64 s),(5,.ptr 0 0),(12,.int .i64 (mm:Int))]) (os:=[.row 24 c.c]) (rs:=[0]) .a) hnext
 ·rw [Zpn hlo,hx] at fin
  have hne:(mm:Int)≠ms:=fun h=>hlo (.inl h)
  have hdd:Bd D mm=false:=Bool.eq_false_iff.2 fun h=>hlo (.inr h)
  rw [hdd] at hd hse
  conv=>whnf
  repeat' (first|((first|refine ESc.inl h174 ?_|refine Ar hs' hml hd ?_|refine As ?_|refine A8 (cs:=[bv,wv,.bool false]) rfl ?_|refine hse _ _ ?_|refine Ac ?_|refine Av ?_);conv=>whnf)|refine Ap ?_ ?_|(intro _;first|omega|conv=>whnf))
  exact ⟨.inr rfl,_,_,rfl,rfl,fin _ (some _) rfl⟩
def Zke:AC:=match Qw with|.mk c _=>c
def CU:Lo->Int->Int
 | (_,lo,sp,po,_,_,_),s=>if sp=true∧s<po then -1 else lo
noncomputable def BW (d:Dv) (D:List Dk) (s k:Int):Option (List Nat):=CN d.1 D (CU d.2.2.1 s) s k
noncomputable def fetF:Fn (Dv×List Dk×Int×Int×Unit):=⟨.g dvC (.v dkC.sl (.v i64C (.v i64C .nil))),fun x=>HA x.1.1 x.2.1 x.2.2.1∧0≤x.2.2.2.1∧x.2.2.2.1<x.1.1.members,fun x=>Er (BW x.1 x.2.1 x.2.2.1 x.2.2.2.1)⟩
theorem Zju (hE:EM P e) (h129:Con e 129 offF.O) (h130:Inl e 130 Zke [.tmp 4]):OvOk P 78 fetF.O:=by
 refine B3 g78.b ?_
 rintro ⟨⟨c,bk,⟨ev,lo,sp,po,dn,nl,br⟩,hs,⟨ag,sq,tl,us,L⟩,fs,nx,so⟩,D,s,k,_⟩ _ ⟨_,_,rfl,hd,v,_,rfl,⟨_,e0,hD⟩,_,_,rfl,⟨e1,z1⟩,_,_,rfl,⟨e2,z2⟩,rfl⟩ ⟨hok,hk⟩
 cases e0
 cases e1
 cases e2
 obtain ⟨hv,lv,fv,rfl,⟨ho,o1,o2,o3,o4,o5,o6,o7,o8,oN⟩,hH,hL,hF⟩:=B1 hd
 have hvh:∀ o,AM.hf (Er o)=true:=fun o=>by unfold Er;cases o <;> rfl
 refine ⟨hvh _,C.of_G hE g78 ?_⟩
 have hf:Ab (CU (ev,lo,sp,po,dn,nl,br) s):=by
  show Ab (if sp=true∧s<po then -1 else lo)
  split
  ·unfold Ab;omega
  ·exact o2
 have hc:=fun (Q:AV->St->Prop) st q=>@Fn.u _ e 129 st Q offF [.agg c.c,v,.int .i64 (CU (ev,lo,sp,po,dn,nl,br) s),.int .i64 s,.int .i64 k] h129 (c,D,CU (ev,lo,sp,po,dn,nl,br) s,s,k,()) ⟨_,_,rfl,⟨rfl,ho⟩,_,_,rfl,⟨_,rfl,hD⟩,_,_,rfl,⟨rfl,Bf hf⟩,_,_,rfl,⟨rfl,z1⟩,_,_,rfl,⟨rfl,z2⟩,rfl⟩ ⟨hok,hk⟩ q
 have hout:offF.out (c,D,CU (ev,lo,sp,po,dn,nl,br) s,s,k,())=fetF.out ((c,bk,(ev,lo,sp,po,dn,nl,br),hs,(ag,sq,tl,us,L),fs,nx,so),D,s,k,()):=rfl
 have fin:∀ st,Frz st (fetF.out ((c,bk,(ev,lo,sp,po,dn,nl,br),hs,(ag,sq,tl,us,L),fs,nx,so),D,s,k,())) (fetF.out ((c,bk,(ev,lo,sp,po,dn,nl,br),hs,(ag,sq,tl,us,L),fs,nx,so),D,s,k,())):=fun st=>.plain _ (hvh _)
 rw [hout] at hc
 have hval:∃ a b,fetF.out ((c,bk,(ev,lo,sp,po,dn,nl,br),hs,(ag,sq,tl,us,L),fs,nx,so),D,s,k,())=.tup [a,b]:=by
  show ∃ a b,Er _=_
  generalize BW _ _ _ _=o
  cases o <;> exact ⟨_,_,rfl⟩
 obtain ⟨ra,rb,hval⟩:=hval
 rw [hval] at hc fin ⊢
 unfold CU at hc
 dsimp only at hc
 change VW P e 0 _ (An [_,v,.int .i64 s,.int .i64 k] 0 .lf) St0 none [] _
 cases sp
 ·rw [Zpr (fun h=>Bool.false_ne_true h.1)] at hc
  conv=>whnf
  repeat' (first|((first|refine ESc.inl h130 ?_|refine hc _ _ ?_|refine ⟨rfl,?_⟩);conv=>whnf)|fail)
  exact fin _
 ·by_cases hp:s<po
  ·rw [Zpn ⟨rfl,hp⟩] at hc
   conv=>whnf
   repeat' (first|((first|refine ESc.inl h130 ?_|refine hc _ _ ?_|refine ⟨rfl,?_⟩);conv=>whnf)|refine Aa ?_ ?_|(intro _;first|omega|conv=>whnf))
   exact fin _
  ·rw [Zpr (fun h=>hp h.2)] at hc
   conv=>whnf
   repeat' (first|((first|refine ESc.inl h130 ?_|refine hc _ _ ?_|refine ⟨rfl,?_⟩);conv=>whnf)|refine Aa ?_ ?_|(intro _;first|omega|conv=>whnf))
   exact fin _
def slC:AV->List AV
 | .fz _ _ l=>l
 | _=>[]
theorem Sl.slC (h:Sl es n l v):Go.AM.slC v=l:=by
 rcases h with ⟨rfl,_,rfl⟩|⟨rfl,_,rfl⟩|⟨c,rfl,_⟩ <;> rfl
def DI (d:Dv) (s k:Int):List Nat:=((d.2.2.2.1[(A9 d.2.2.2.1 s).toNat]?.map fun h=>h.2.1[k.toNat]?.getD []).getD [])
def Ns (d:Dv) (s k:Int):Prop:=0≤A9 d.2.2.2.1 s∧(DI d s k).length≠0
open Classical in
noncomputable def B0 (d:Dv) (D:List Dk) (s k:Int):Option (List Nat):=if Ns d s k then some (DI d s k) else BW d D s k
open Classical in
noncomputable def J7 (d:Dv) (l:List AV) (D:List Dk) (s k:Int):AV:=if Ns d s k then .tup [(slC ((slC (l.getD 14 .nils)).getD ((A9 d.2.2.2.1 s).toNat*6+1) .nils)).getD k.toNat .nils,.bool true] else Er (BW d D s k)
def Lp (d:Dv) (D:List Dk) (s k:Int):Prop:=HA d.1 D s∧Cg d.1 d.2.2.2.1∧0≤k∧k<d.1.members
def Lx (args:List AV) (u:AV):Prop:=∃ d l D v s k,args=[.agg l,v,.int .i64 s,.int .i64 k]∧dvC.r d l∧Ls dkC D v∧Ab s∧Ab k∧Lp d D s k∧u=J7 d l D s k
theorem Rg {d:Dv}{l:List AV}(hd:dvC.r d l) {s k:Int}(hs:Cg d.1 d.2.2.2.1) (hk:0≤k∧k<d.1.members) (hp:0≤A9 d.2.2.2.1 s):∃ (hv:AV) (cs:List AV) (h:Hd) (bv dv:AV) (r xs:List AV) (u:AV) (r':List AV),d.2.2.2.1[(A9 d.2.2.2.1 s).toNat]?=some h∧l.getD 14 .nils=hv∧Sl 6 d.2.2.2.1.length cs hv∧cs.drop ((A9 d.2.2.2.1 s).toNat*6)=[.int .i64 h.1,bv,dv,.int .u8 (h.2.2.2.1:Int),.bool h.2.2.2.2.1,.int .u32 h.2.2.2.2.2]++r∧Sl 1 h.2.1.length xs bv∧xs.drop (k.toNat*1)=u::r'∧k.toNat<h.2.1.length∧Ls Ce.u8 (DI d s k) u:=by
 obtain ⟨c,bk,⟨ev,lo,sp,po,dn,nl,br⟩,hs',⟨ag,sq,tl,us,L⟩,fs,nx,so⟩:=d
 obtain ⟨hv,lv,fv,rfl,-,hH,-,-⟩:=B1 hd
 obtain ⟨cs,h1,hl,hn⟩:=hH.nth
 have hlt:=Ht hs' s
 dsimp only at hs hk hp
 obtain ⟨⟨st,bl,di,ph,de,hq⟩,_,r,hx,hxr,hdr⟩:=hn (A9 hs' s).toNat (by omega)
 obtain ⟨bv,dv,rfl,g1,g2,-⟩:=Cm hxr
 obtain ⟨xs,x1,x2,hn2⟩:=g2.nth
 have hhd:=(hs.1 _ (by omega) _ hx).1
 unfold DT at hhd
 have hbl:=hhd.2.1
 obtain ⟨b,_,r',hb,⟨u,rfl,hu⟩,hd2⟩:=hn2 k.toNat (by omega)
 refine ⟨hv,cs,_,bv,dv,r,xs,u,r',hx,rfl,h1,hdr,x1,hd2,by dsimp only;omega,?_⟩
 unfold DI
 dsimp only
 rw [hx]
 show Ls Ce.u8 (bl[k.toNat]?.getD []) u
 rw [hb]
 exact hu
theorem Z5 (hD:C3 c D) (hL:Ls dkC D v) (hi:(i:Int)≤c.members):∃ x l,D[i]?=some x∧dkC.r x l∧Cy x:=by
 obtain ⟨cs,-,-,hn⟩:=hL.nth
 have hl:=hD.1
 obtain ⟨x,l,_,hx,hr,-⟩:=hn i (by omega)
 exact ⟨x,l,hx,hr,(hD.2 i (by omega) x hx).2⟩
theorem R9 (hD:C3 c D) (hL:Ls dkC D v) (a:Int) (mm:Nat):∀ i:Nat,(i:Int)≤c.members->Ey (Bk D a mm i)
 | 0,_=>fun b hb=>by cases hb
 | i+1,hi=>fun b hb=>by
  unfold Bk at hb
  rcases Zqb.1 hb with hb|hb
  ·exact R9 hD hL a mm i (by omega) b hb
  ·split at hb
   ·cases hb
   ·obtain ⟨y,l,hy,hr,hk⟩:=Z5 hD hL (i:=i) (by omega)
    rw [hy] at hb
    rw [List.mem_singleton.1 hb]
    exact Oq hr hk _
theorem Xb (hok:HA c D s) (hL:Ls dkC D v) (h:CN c D ms s k=some b):b.length=128∧∀ x ∈ b,x<256:=by
 obtain ⟨hM,hD,-,-⟩:=hok
 have hM':=hM
 unfold Cfg.may at hM'
 have hon:=M6 (c:=c) (s:=s) (k:=k) (by omega)
 unfold CN at h
 split at h
 ·obtain ⟨x,l,hx,hr,hk⟩:=Z5 hD hL (i:=(Bi c s k).toNat) (by omega)
  rw [hx] at h
  cases h
  exact Oq hr hk _
 ·split at h
  ·cases h
   exact Jy (R9 hD hL _ _ _ (by omega))
  ·cases h
variable {d:Dv}
theorem Si (h:Con e 43 (Ao Lx)) (hd:dvC.r d l) (hD:Ls dkC D v) (hs:Ab s) (hk:Ab k) (hok:Lp d D s k) (hb:B0 d D s k=some b):∃ u,Ls Ce.u8 b u∧∀ (Q:AV->St->Prop) st,Q (.tup [u,.bool true]) st->ESc e 43 [.agg l,v,.int .i64 s,.int .i64 k] st Q:=by
 have key:∀ u,J7 d l D s k=u->∀ (Q:AV->St->Prop) st,Q u st->ESc e 43 [.agg l,v,.int .i64 s,.int .i64 k] st Q:=by
  rintro u rfl Q st hq
  refine ESc.rel h ⟨_,d,l,D,v,s,k,rfl,hd,hD,hs,hk,hok,rfl⟩ ?_
  rintro u ⟨d',l',D',v',s',k',e1,g1,g2,_,_,_,rfl⟩
  injection e1 with e1 e2
  injection e2 with e2 e3
  injection e3 with e3 e4
  injection e4 with e4
  injection e1 with e1
  injection e3 with _ e3
  injection e4 with _ e4
  subst e1 e2 e3 e4
  rw [dvC.inj g1 hd,g2.inj hD]
  exact hq
 unfold J7 at key
 unfold B0 at hb
 by_cases hi:Ns d s k
 ·rw [Zpn hi] at hb key
  cases hb
  obtain ⟨hv,cs,x,bv,dv,r,xs,u,r',h1,h2,h3,h4,h5,h6,h7,h8⟩:=Rg hd hok.2.1 hok.2.2 hi.1
  refine ⟨u,h8,key _ ?_⟩
  have e1:cs.getD ((A9 d.2.2.2.1 s).toNat*6+1) .nils=bv:=by
   have:(cs.drop ((A9 d.2.2.2.1 s).toNat*6))[1]?=some bv:=by rw [h4];rfl
   rw [Zpu] at this
   rw [Zqc,this];rfl
  have e2:xs.getD k.toNat .nils=u:=by
   have:(xs.drop (k.toNat*1))[0]?=some u:=by rw [h6];rfl
   rw [Zpu,Zqm,Zqs] at this
   rw [Zqc,this];rfl
  rw [h2,h3.slC,e1,h5.slC,e2]
 ·rw [Zpr hi] at hb key
  rw [hb] at key
  obtain ⟨h1,h2⟩:=Xb hok.1 hD hb
  exact ⟨Az b,Pg h1 h2,key _ rfl⟩
theorem Zn7 (hE:EM P e) (h78:Con e 78 fetF.O) (h80:Inl e 80 MB [.cells 4 6,.tmp 5]) (h132:Con e 132 hplF.O):OvOk P 43 (Ao Lx):=by
 refine CX g43.b ?_
 rintro args u ⟨d,l,D,v,s,k,rfl,hd,hD,hs,hk,hok,rfl⟩
 have hvf:=hD.hf
 have hvh:∀ o,AM.hf (Er o)=true:=fun o=>by unfold Er;cases o <;> rfl
 have hla:hfs [AV.agg l,v,.int .i64 s,.int .i64 k]=true:=by
  show (hfs l && (AM.hf v && (true && (true && true))))=true
  rw [dvC.hf hd,hvf];rfl
 have hc:=fun (Q:AV->St->Prop) st q=>@Fn.u _ e 78 st Q fetF [.agg l,v,.int .i64 s,.int .i64 k] h78 (d,D,s,k,()) ⟨_,_,rfl,hd,_,_,rfl,⟨_,rfl,hD⟩,_,_,rfl,⟨rfl,Bf hs⟩,_,_,rfl,⟨rfl,Bf hk⟩,rfl⟩ ⟨hok.1,hok.2.2⟩ q
 replace hc:∀ (Q:AV->St->Prop) st,Q (Er (BW d D s k)) st->ESc e 78 [.agg l,v,.int .i64 s,.int .i64 k] st Q:=hc
 have hlt:=Ht d.2.2.2.1 s
 have hcell:=fun hp=>@Rg d l hd s k hok.2.1 hok.2.2 hp
 have hch:∀ hv,Ls hdC d.2.2.2.1 hv->∀ (Q:AV->St->Prop) st,Q (.int .i64 (A9 d.2.2.2.1 s)) st->ESc e 132 [hv,.int .i64 s] st Q:=fun hv hH Q st q=>Fn.u (F:=hplF) h132 (d.2.2.2.1,s,()) ⟨_,_,rfl,⟨_,rfl,hH⟩,_,_,rfl,⟨rfl,Bf hs⟩,rfl⟩ trivial q
 have hval:∃ a b,Er (BW d D s k)=.tup [a,b]:=by
  generalize BW _ _ _ _=o
  cases o <;> exact ⟨_,_,rfl⟩
 have hvh1:=hvh (BW d D s k)
 obtain ⟨ra,rb,hval⟩:=hval
 by_cases hp:0≤A9 d.2.2.2.1 s
 ·obtain ⟨hv,cs,x,bv,dv,r,xs,u,r',h1,h2,h3,h4,h5,h6,h7,h8⟩:=hcell hp
  have e1:cs.getD ((A9 d.2.2.2.1 s).toNat*6+1) .nils=bv:=by
   have:(cs.drop ((A9 d.2.2.2.1 s).toNat*6))[1]?=some bv:=by rw [h4];rfl
   rw [Zpu] at this
   rw [Zqc,this];rfl
  have e2:xs.getD k.toNat .nils=u:=by
   have:(xs.drop (k.toNat*1))[0]?=some u:=by rw [h6];rfl
   rw [Zpu,Zqm,Zqs] at this
   rw [Zqc,this];rfl
  have hout:J7 d l D s k=if (DI d s k).length≠0 then .tup [u,.bool true] else .tup [ra,rb]:=by
   unfold J7 Ns
   rw [h2,h3.slC,e1,h5.slC,e2,hval]
   by_cases hb:(DI d s k).length≠0
   ·rw [Zpn ⟨hp,hb⟩,Zpn hb]
   ·rw [Zpr (fun q=>hb q.2),Zpr hb]
  have huf:AM.hf u=true:=h8.hf
  obtain ⟨us,hus,hul,-⟩:=h8.nth
  rw [hval] at hc hvh1
  rw [hout]
  generalize DI d s k=b at *
  refine ⟨hla,?_,C.of_G hE g43 ?_⟩
  ·split
   ·show (AM.hf u && (true && true))=true;rw [huf];rfl
   ·exact hvh1
  have hch:=hch hv
  generalize A9 d.2.2.2.1 s=j at *
  obtain ⟨c,bk,⟨ev,lo,sp,po,dn,nl,br⟩,hs',⟨ag,sq,tl,us',L⟩,fs,nx,so⟩:=d
  obtain ⟨hv',lv,fv,rfl,ho,hH,hL,hF⟩:=B1 hd
  have h2:hv'=hv:=h2
  subst h2
  have hch:=hch hH
  obtain ⟨st,bl,di,ph,de,hq⟩:=x
  dsimp only at h3 h4 h5 h7 hlt
  by_cases hb:b.length≠0
  ·rw [Zpn hb]
   conv=>whnf
   repeat' (first|((first|refine ESc.inl h80 ?_|refine hch _ _ ?_|refine Cj rfl h3 rfl (show j=_ by omega) (by omega) h4 ?_|refine A8 (cs:=[.int .i64 st,bv,dv,.int .u8 (ph:Int),.bool de,.int .u32 hq]) rfl ?_|refine Cj rfl h5 rfl (show k=_ by have:=hok.2.2.1;omega) h7 h6 ?_|refine As ?_|refine Am hus ?_);conv=>whnf)|refine Aa ?_ ?_|refine Ax ?_ ?_|(intro _;first|omega|conv=>whnf))
   exact .plain _ (by show (AM.hf u && (true && true))=true;rw [huf];rfl)
  ·rw [Zpr hb]
   conv=>whnf
   repeat' (first|((first|refine ESc.inl h80 ?_|refine hch _ _ ?_|refine hc _ _ ?_|refine Cj rfl h3 rfl (show j=_ by omega) (by omega) h4 ?_|refine A8 (cs:=[.int .i64 st,bv,dv,.int .u8 (ph:Int),.bool de,.int .u32 hq]) rfl ?_|refine Cj rfl h5 rfl (show k=_ by have:=hok.2.2.1;omega) h7 h6 ?_|refine As ?_|refine Am hus ?_);conv=>whnf)|refine Aa ?_ ?_|refine Ax ?_ ?_|(intro _;first|omega|conv=>whnf))
   exact .plain _ hvh1
 ·have hout:J7 d l D s k=.tup [ra,rb]:=by
   unfold J7 Ns
   rw [Zpr (fun q=>hp q.1),hval]
  rw [hval] at hc hvh1
  rw [hout]
  refine ⟨hla,hvh1,C.of_G hE g43 ?_⟩
  obtain ⟨c,bk,⟨ev,lo,sp,po,dn,nl,br⟩,hs',⟨ag,sq,tl,us',L⟩,fs,nx,so⟩:=d
  obtain ⟨hv',lv,fv,rfl,ho,hH,hL,hF⟩:=B1 hd
  have hch:=hch hv' hH
  dsimp only at hch hlt hp
  generalize A9 hs' s=j at *
  conv=>whnf
  repeat' (first|((first|refine ESc.inl h80 ?_|refine hch _ _ ?_|refine hc _ _ ?_);conv=>whnf)|refine Aa ?_ ?_|(intro _;first|omega|conv=>whnf))
  exact .plain _ hvh1
theorem Znt {γ:Type}{S:Sg γ}{ok p:γ->Prop}{fn:Func}{code:AC}{res:List ARes}(g:GK f fn (.mk code res)) (h:∀ x args,S.r x args->ok x->∀ K:AV->St->Prop,(p x->∀ s,K (.bool true) s)->(¬p x->∀ s,K (.bool false) s)->W P 0 none code (An args 0 .lf) St0 [] (BS res K)):OvOk P f (bF S ok p).O:=
 B3 g.b fun x args h1 h2=>⟨rfl,C.of_W g.f g.c (h x args h1 h2 _ (fun q _=>pT q) fun q _=>pF q)⟩
noncomputable def DO (d:Dv) (D:List Dk) (s:Int) (k:Nat):List Nat:=(BW d D s k).getD []
noncomputable def Gt (d:Dv) (D:List Dk) (s:Int) (k:Nat):List Nat:=(B0 d D s k).getD []
noncomputable def EZ (d:Dv) (D:List Dk) (s:Int) (i:Nat):List (List Nat):=(List.range i).map (DO d D s)
noncomputable def HS (d:Dv) (D:List Dk) (s:Int) (i:Nat):List (List Nat):=(List.range i).map (Gt d D s)
def J8 (d:Dv) (D:List Dk) (s:Int):Prop:=(∀ k<d.1.members.toNat,BW d D s (k:Nat)≠none)∧AY (EZ d D s d.1.members.toNat)=Fg∧(0≤A9 d.2.2.2.1 s->∀ h,d.2.2.2.1[(A9 d.2.2.2.1 s).toNat]?=some h->(∀ k<d.1.members.toNat,(h.2.2.2.1=4∨k+1<d.1.members.toNat∧h.2.2.1[k]?=some false)->(DI d s k).length≠0->DI d s k=DO d D s k)∧(h.2.2.2.1≠0->DI d s ((d.1.members.toNat-1:Nat):Int)=AY (HS d D s (d.1.members.toNat-1))))
def XY:AC:=match a33 with|.mk c _=>c
def OR:AC:=match XY with
 | .seq _ (.seq _ (.seq _ (.seq _ r)))=>r
 | _=>.skip
theorem OK {x:AO}{p:List AV->Prop}(hx:ev x t=.some v) (hc:cellsOf v=[v]) (hk:p [v]):wO (fill t [(0,1,x)] [.nils]) p:=by
 have h:fill t [(0,1,x)] [.nils]=some [v]:=by
  show (OV.rec none (fun v=>Bool.rec none (Option.rec none (fun z'=>some z') (E5 (cellsOf v) 0 [.nils])) (Nat.beq (A7 (cellsOf v)) 1)) (ev x t):Option (List AV))=_
  rw [hx];dsimp only;rw [hc];rfl
 rw [h];exact hk
theorem Ls.cell {α:Type}{C:Ce α}{l:List α}(h:Ls C l v):cellsOf v=[v]:=by
 obtain ⟨cs,_,h,_⟩:=h
 rcases h with ⟨rfl,_⟩|⟨rfl,_⟩|⟨_,rfl,_⟩
 all_goals rfl
def Lz (v:AV) (s m:Int) (n i:Nat):List (Nat×AV):=[(1,v),(2,.int .i64 s),(3,.ptr 0 0),(7,.int .i64 m),(8,match i with|0=>.nils|i+1=>.sl 2 0 (min (i+1) (n-1)) none),(9,match i with|0=>.nils|i+1=>.sl 1 0 (i+1) none),(10,.int .i64 (i:Int))]
def LA (o:AObj) (T V:Nat->AV) (n i:Nat):List AObj:=match i with
 | 0=>[o]
 | i+1=>[o,.row 76 ((List.range (i+1)).map T),.row 76 ((List.range (min (i+1) (n-1))).map V)]
theorem Ho {T:Nat->AV}{m:Nat}(h:∀ k<m,AM.hf (T k)=true):hfs ((List.range m).map T)=true:=hfs_iff.2 fun v hv=>by
 obtain ⟨k,hk,rfl⟩:=Zqj.1 hv
 exact h k (List.mem_range.1 hk)
theorem Me {T:Nat->AV}{m:Nat}:(List.range (m+1)).map T=(List.range m).map T++[T m]:=by rw [List.range_succ,Zp8];rfl
theorem Zcq (hE:EM P e) (h78:Con e 78 fetF.O) (h43:Con e 43 (Ao Lx)) (hd:dvC.r d l) (hD:Ls dkC D v) (hs:Ab s) (hok:HA d.1 D s) (hsh:Cg d.1 d.2.2.2.1) (f:¬J8 d D s->∀ st,K (.bool false) st)
 (hrest:∀ V:Nat->AV,(∀ k<d.1.members.toNat-1,Ls Ce.u8 (Gt d D s k) (V k))->(∀ k<d.1.members.toNat,BW d D s (k:Nat)≠none)->W P 0 none OR (A6 (Lz v s d.1.members d.1.members.toNat d.1.members.toNat)) (Aj St0 (LA (.row 33 l) (fun k=>Az (DO d D s k)) V d.1.members.toNat d.1.members.toNat)) [] (BS [.tmp 6] K)):
 W P 0 none XY (An [.agg l,v,.int .i64 s] 0 .lf) St0 [] (BS [.tmp 6] K):=by
 have hvf:=hD.hf
 have hrow:=dvC.hf hd
 have hM:=hok.1
 have hM':=hM
 unfold Cfg.may at hM'
 have hfe:∀ k:Nat,k<d.1.members.toNat->∀ (Q:AV->St->Prop) st,Q (Er (BW d D s k)) st->ESc e 78 [.agg l,v,.int .i64 s,.int .i64 (k:Int)] st Q:=fun k hk Q st q=>Fn.u (F:=fetF) h78 (d,D,s,(k:Int),()) ⟨_,_,rfl,hd,_,_,rfl,⟨_,rfl,hD⟩,_,_,rfl,⟨rfl,Bf hs⟩,_,_,rfl,⟨rfl,Bf (show Ab (k:Int) by unfold Ab;omega)⟩,rfl⟩ ⟨hok,Zq2 _,by dsimp only;omega⟩ q
 have hvw:∀ k:Nat,∃ u,k<d.1.members.toNat->BW d D s (k:Nat)≠none->Ls Ce.u8 (Gt d D s k) u∧∀ (Q:AV->St->Prop) st,Q (.tup [u,.bool true]) st->ESc e 43 [.agg l,v,.int .i64 s,.int .i64 (k:Int)] st Q:=fun k=>by
  by_cases h:k<d.1.members.toNat∧BW d D s (k:Nat)≠none
  ·obtain ⟨b,hb⟩:∃ b,B0 d D s k=some b:=by
    unfold B0
    split
    ·exact ⟨_,rfl⟩
    ·exact Option.ne_none_iff_exists'.1 h.2
   obtain ⟨u,h1,h2⟩:=Si h43 hd hD hs (show Ab (k:Int) by unfold Ab;omega) ⟨hok,hsh,Zq2 _,by omega⟩ hb
   exact ⟨u,fun _ _=>⟨by unfold Gt;rw [hb];exact h1,h2⟩⟩
  ·exact ⟨.nils,fun h1 h2=>absurd ⟨h1,h2⟩ h⟩
 obtain ⟨V,hV⟩:=Classical.axiomOfChoice hvw
 have hN:∀ k:Nat,k<d.1.members.toNat->BW d D s (k:Nat)=none->∀ st,K (.bool false) st:=fun k hk h=>f fun q=>q.1 k hk h
 have hthg:∀ k:Nat,BW d D s (k:Nat)≠none->Er (BW d D s (k:Nat))=.tup [Az (DO d D s k),.bool true]:=fun k h=>by
  obtain ⟨b,hb⟩:=Option.ne_none_iff_exists'.1 h
  unfold DO;rw [hb];rfl
 have hrs:=fun h=>hrest V (fun k hk=>(hV k (by omega) (h k (by omega))).1) h
 have hVce:∀ k,k<d.1.members.toNat->BW d D s (k:Nat)≠none->cellsOf (V k)=[V k]:=fun k h1 h2=>((hV k h1 h2).1).cell
 have hVf:∀ k,k<d.1.members.toNat->BW d D s (k:Nat)≠none->AM.hf (V k)=true:=fun k h1 h2=>((hV k h1 h2).1).hf
 clear hvw f hrest
 generalize DO d D s=T at *
 generalize BW d D s=F at *
 generalize Gt d D s=VG at *
 obtain ⟨c,bk,⟨ev,lo,sp,po,dn,nl,br⟩,hs',⟨ag,sq,tl,us,L⟩,fs,nx,so⟩:=d
 obtain ⟨hv,lv,fv,rfl,-⟩:=B1 hd
 dsimp only at *
 refine Bz hE ?_;conv=>whnf
 refine Bz hE ?_;conv=>whnf
 refine Bz hE ?_;conv=>whnf
 refine Bz hE ?_;conv=>whnf
 refine Aw hE c.members.toNat (fun i=>Lz v s c.members c.members.toNat i) (fun i=>LA (.row 33 (c.c++[.bool bk,.int .u32 ev,.int .i64 lo,.bool sp,.int .i64 po,.int .i64 dn,.bool nl,.bool br,hv,.int .u32 ag,.int .u32 sq,.int .i64 tl,.int .i64 us,lv,fv,.int .i64 nx,.bool so])) (fun k=>Az (T k)) V c.members.toNat i) (fun i=>∀ k<i,F (k:Nat)≠none) (fun k h=>by omega) (Abs.tells (rs:=[0]) .a) ?_
 intro i hi hI
 by_cases hlt:i<c.members.toNat
 ·have hfe:=hfe i hlt
  cases hF:F (i:Nat) with
  | none=>
   rw [hF] at hfe
   have hfe:∀ (Q:AV->St->Prop) st,Q (.tup [.nils,.bool false]) st->ESc e 78 _ st Q:=hfe
   rcases i with _|i
   all_goals
    conv=>whnf
    repeat' (first|((first|refine hfe _ _ ?_|refine Av ?_);conv=>whnf)|refine Aa ?_ ?_|(intro _;first|omega|conv=>whnf))
    exact ⟨.inr rfl,_,_,rfl,rfl,hN _ hlt hF _⟩
  | some b=>
   have hne:F (i:Nat)≠none:=by rw [hF];exact fun h=>nomatch h
   rw [hthg i hne] at hfe
   have hcv:=(hV i hlt hne).2
   have hvh:=hVf i hlt hne
   have hI':=AZ hI hne
   have hVfa:∀ k<i+1,AM.hf (V k)=true:=fun k h=>hVf k (by omega) (hI' k h)
   have hVc:=hVce i hlt hne
   have hTf:hfs ((List.range (i+1)).map fun k=>Az (T k))=true:=Ho fun k _=>rfl
   rcases i with _|j
   ·have hmn:min (0+1) (c.members.toNat-1)=1:=by omega
    conv=>whnf
    repeat' (first|((first|refine hfe _ _ ?_|refine hcv _ _ ?_|refine OK rfl hVc ?_|refine CO (m:=1) ?_|refine Ac ?_|refine AL ?_|refine Au ?_|refine ⟨rfl,?_⟩);conv=>whnf)|refine Aa ?_ ?_|(intro _;first|omega|conv=>whnf))
    ·refine ⟨hlt,hI',Abs.tells (rs:=[0,2,4]) ?_⟩
     have hv0:hfs ((List.range (min (0+1) (c.members.toNat-1))).map V)=true:=by rw [hmn];exact Ho hVfa
     unfold Lz LA
     dsimp only
     rw [hmn] at hv0 ⊢
     exact ⟨by decide,⟨t9,r9,r9,r9,r9,r9,r9,trivial⟩,⟨o9 hrow,⟨Bj rfl,rfl⟩,o9 hv0,trivial⟩⟩
    all_goals (exfalso;omega)
   ·have ht1:∀ a,Lz v s c.members c.members.toNat (a+1)=[(1,v),(2,.int .i64 s),(3,.ptr 0 0),(7,.int .i64 c.members),(8,.sl 2 0 (min (a+1) (c.members.toNat-1)) none),(9,.sl 1 0 (a+1) none),(10,.int .i64 ((a+1:Nat):Int))]:=fun a=>rfl
    have ht2:∀ o T V a,LA o T V c.members.toNat (a+1)=[o,.row 76 ((List.range (a+1)).map T),.row 76 ((List.range (min (a+1) (c.members.toNat-1))).map V)]:=fun o T V a=>rfl
    have hTf':hfs (((List.range (j+1)).map fun k=>Az (T k))++[Az (T (j+1))])=true:=by rw [Me] at hTf;exact hTf
    rw [ht1,ht1,ht2,ht2]
    rw [Me (m:=j+1) (T:=fun k=>Az (T k))]
    by_cases hjl:j+1<c.members.toNat-1
    ·have hm1:min (j+1) (c.members.toNat-1)=j+1:=by omega
     have hm2:min (j+1+1) (c.members.toNat-1)=j+1+1:=by omega
     have hjl':((j+1:Nat):Int)<c.members-1:=by omega
     have hVf':hfs (((List.range (j+1)).map V)++[V (j+1)])=true:=by rw [← Me];exact Ho hVfa
     rw [hm1,hm2,Me (m:=j+1) (T:=V)]
     conv=>whnf
     repeat' (first|((first|refine hfe _ _ ?_|refine hcv _ _ ?_|refine OK rfl hVc ?_|refine C6 (m:=1) (n:=j+1) (old:=(List.range (j+1)).map fun k=>Az (T k)) rfl rfl rfl rfl (by rw [Zpq,List.length_range];exact (Zqm _).symm) rfl (by decide) (by omega) ?_|refine C6 (m:=1) (n:=j+1) (old:=(List.range (j+1)).map V) rfl rfl rfl rfl (by rw [Zpq,List.length_range];exact (Zqm _).symm) rfl (by decide) (by omega) ?_|refine Ac ?_|refine AL ?_|refine Au ?_|refine ⟨rfl,?_⟩);conv=>whnf)|refine Aa ?_ ?_|(intro _;first|omega|conv=>whnf))
     exact ⟨hlt,hI',Abs.tells (rs:=[0,4,6]) .a⟩
    ·have hm1:min (j+1) (c.members.toNat-1)=j+1:=by omega
     have hm2:min (j+1+1) (c.members.toNat-1)=j+1:=by omega
     have hjl':¬((j+1:Nat):Int)<c.members-1:=by omega
     have hVf':hfs ((List.range (j+1)).map V)=true:=Ho fun k h=>hVfa k (by omega)
     rw [hm1,hm2]
     conv=>whnf
     repeat' (first|((first|refine hfe _ _ ?_|refine C6 (m:=1) (n:=j+1) (old:=(List.range (j+1)).map fun k=>Az (T k)) rfl rfl rfl rfl (by rw [Zpq,List.length_range];exact (Zqm _).symm) rfl (by decide) (by omega) ?_|refine Ac ?_|refine AL ?_|refine Au ?_|refine ⟨rfl,?_⟩);conv=>whnf)|refine Aa ?_ ?_|(intro _;first|omega|conv=>whnf))
     exact ⟨hlt,hI',Abs.tells (rs:=[0,4,2]) .a⟩
 ·have hn3:3≤c.members.toNat:=by omega
  obtain rfl:i=c.members.toNat:=by omega
  have hrest:=hrs hI
  have hTf:hfs ((List.range c.members.toNat).map fun k=>Az (T k))=true:=Ho fun k _=>rfl
  have hVf':hfs ((List.range (min c.members.toNat (c.members.toNat-1))).map V)=true:=Ho fun k h=>hVf k (by omega) (hI k (by omega))
  clear hrs
  have hNN:c.members≤(c.members.toNat:Int):=by omega
  generalize c.members.toNat=N at *
  rcases N with _|N
  ·omega
  ·conv=>whnf
   repeat' (first|refine Aa ?_ ?_|(intro _;first|omega|conv=>whnf))
   refine W.tells (Abs.tells (tl:=Lz v s c.members (N+1) (N+1)) (os:=LA (.row 33 (c.c++[.bool bk,.int .u32 ev,.int .i64 lo,.bool sp,.int .i64 po,.int .i64 dn,.bool nl,.bool br,hv,.int .u32 ag,.int .u32 sq,.int .i64 tl,.int .i64 us,lv,fv,.int .i64 nx,.bool so])) (fun k=>Az (T k)) V (N+1) (N+1)) (rs:=[0,1,2]) .a) hrest
theorem VL:∀ {bs:List Nat},(∀ b ∈ bs,b<256)->C0 (Ad bs)=some bs
 | [],_=>rfl
 | b::bs,h=>by
  show (Bool.rec none (Option.rec none (fun r=>some (b::r)) (C0 (Ad bs))) (Nat.blt b 256):Option (List Nat))=_
  rw [VL (fun x hx=>h x (by simp [hx])),show Nat.blt b 256=true by simpa using h b (by simp)]
theorem Zcc {s:St}{k:AV->St->Prop}{x:AO}{c:Option Nat}(hx:ev x t=.some (.sl r 0 n c)) (hl:load r 0 n s=some (Ad bs)) (hb:∀ b ∈ bs,b<256) (hk:k (.str bs) s):EPrim (.b2s x) t s k:=by
 refine EPrim.mk (v:=.str bs) (s':=s) (fun e rec=>?_) hk
 show wth x t _=_;unfold wth;rw [hx]
 show (Option.rec .fail (fun cs=>Option.rec .fail (fun l=>.ok (.str l) s) (C0 cs)) (load r 0 n s):RV)=_
 rw [hl]
 show (Option.rec .fail (fun l=>.ok (.str l) s) (C0 (Ad bs)):RV)=_
 rw [VL hb]
variable {B:List AV}{m:Int}
theorem Zet {A:List AV}{i:Int}{a b:Nat}(hl:hfs l=true) (hA:hfs A=true) (hB:hfs B=true) (hv:AM.hf v=true):Tells P 0 (A6 [(1,v),(2,.int .i64 s),(3,.ptr 0 0),(7,.int .i64 m),(8,.sl 2 0 b none),(9,.sl 1 0 a none),(10,.int .i64 i)]) (Aj St0 [.row 33 l,.row 76 A,.row 76 B]) [] (A6 [(1,v),(2,.int .i64 s),(3,.ptr 0 0),(7,.int .i64 m),(8,.fz b none B),(9,.fz a none A)]) (Aj St0 [.row 33 l]) []:=by
 refine Tells.trans (AbsK.frz (n:=2) (e:=76) (cs:=B) (tl:=[(1,v),(2,.int .i64 s),(3,.ptr 0 0),(7,.int .i64 m),(8,.sl 2 0 b none),(9,.sl 1 0 a none)]) (tl2:=[(1,v),(2,.int .i64 s),(3,.ptr 0 0),(7,.int .i64 m),(8,.fz b none B),(9,.sl 1 0 a none)]) (os:=[.row 33 l,.row 76 A]) (os2:=[.row 33 l,.row 76 A]) (rs:=[0,1,2]) .a rfl hB rfl rfl rfl rfl ?_ ?_) ?_
 ·show [(1,CT 2 _ v),_,_,_,_,_]=_
  rw [FZ v hv];rfl
 ·show [E3 2 _ (.row 33 l),E3 2 _ (.row 76 A)]=_
  rw [Hq hl,Hq hA]
 ·refine AbsK.frz (n:=1) (e:=76) (cs:=A) (tl:=[(1,v),(2,.int .i64 s),(3,.ptr 0 0),(7,.int .i64 m),(8,.fz b none B),(9,.sl 1 0 a none)]) (os:=[.row 33 l]) (rs:=[0,1]) .a rfl hA rfl rfl rfl rfl ?_ ?_
  ·show [(1,CT 1 _ v),_,_,_,_,_]=_
   rw [FZ v hv];rfl
  ·show [E3 1 _ (.row 33 l)]=_
   rw [Hq hl]
def R5:AC:=match OR with
 | .seq _ r=>r
 | _=>.skip
def LB (v:AV) (s m:Int) (B:List AV) (L:List (List Nat)):List (Nat×AV):=[(1,v),(2,.int .i64 s),(3,.ptr 0 0),(7,.int .i64 m),(8,.fz B.length none B),(9,.fz L.length none (L.map Az))]
variable {L:List (List Nat)}
theorem Zcm (hE:EM P e) (h79:Con e 79 allF3.O) (hl:hfs l=true) (hv:AM.hf v=true) (hL:Ey L) (hn:0<L.length∧L.length≤1000) (f:AY L≠Fg->∀ st,K (.bool false) st) (hrest:AY L=Fg->W P 0 none R5 (A6 (LB v s m B L)) (Aj St0 [.row 33 l]) [] (BS [.tmp 6] K)):W P 0 none OR (A6 (LB v s m B L)) (Aj St0 [.row 33 l]) [] (BS [.tmp 6] K):=by
 have hLs:=Pf hL hn
 have hc:∀ (Q:AV->St->Prop) st,Q (Az (AY L)) st->ESc e 79 [.fz L.length none (L.map Az)] st Q:=fun Q st k=>Fn.u (F:=allF3) h79 (L,()) ⟨_,_,rfl,⟨_,rfl,hLs⟩,rfl⟩ hL k
 have hax:=Jy hL
 have hzb:∀ b ∈ Fg,b<256:=fun b hb=>by rw [(List.mem_replicate.1 hb).2];decide
 have hsl:Sl 1 128 (Ad (AY L)) (Az (AY L)):=.inr (.inr ⟨_,rfl,by rw [show (Ad (AY L)).length=(AY L).length from Zpq ..];exact hax.1⟩)
 refine Bz hE ?_;conv=>whnf
 refine LV (n:=127) rfl rfl (by decide) ?_;conv=>whnf
 repeat' (first|(refine NK rfl rfl (fun hne=>?_) (fun heq=>?_) <;> conv=>whnf)|((first|refine Zcc (bs:=Fg) rfl rfl hzb ?_|refine hc _ _ ?_|refine Hf rfl hsl hax.2 ?_|refine ⟨rfl,?_⟩);conv=>whnf)|fail)
 ·exact ⟨.inr rfl,_,_,rfl,rfl,f hne _⟩
 ·exact W.tells (Abs.tells (tl:=LB v s m B L) (os:=[.row 33 l]) (rs:=[0]) .a) (hrest heq)
def Mq:AC:=match R5 with
 | .seq _ r=>r
 | _=>.skip
def R4:AC:=match Mq with
 | .seq _ r=>r
 | _=>.skip
def Fa (m:Int) (B:List AV) (L:List (List Nat)) (k:Bool):List (Nat×AV):=[(7,.int .i64 m),(8,.fz B.length none B),(9,.fz L.length none (L.map Az)),(15,.ptr 1 0),(16,.bool k)]
def tdI (m:Int) (B:List AV) (L:List (List Nat)) (k:Bool) (i:Nat):List (Nat×AV):=[(7,.int .i64 m),(8,.fz B.length none B),(9,.fz L.length none (L.map Az)),(15,.ptr 1 0),(16,.bool k),(17,.int .i64 (i:Int))]
theorem Zcn (hE:EM P e) {hc:List AV}(hl:hfs l=true) (hh:hfs hc=true) (t:∀ st,K (.bool true) st):W P 0 none Mq (A6 (Fa m B L false)) (Aj St0 [.row 33 l,.row 55 hc]) [] (BS [.tmp 6] K):=by
 refine Bz hE ?_;conv=>whnf
 refine Aw hE 0 (fun i=>tdI m B L false i) (fun i=>[.row 33 l,.row 55 hc]) (fun _=>True) trivial (Abs.tells (rs:=[0,1]) .a) ?_
 intro i hi _
 obtain rfl:i=0:=by omega
 conv=>whnf
 skip
 refine Hz hE ?_;conv=>whnf
 repeat' (first|(refine Av ?_;conv=>whnf)|fail)
 exact t _
theorem Ls.by (h:Ls Ce.u8 b v):Sl 1 b.length (Ad b) v∧∀ x ∈ b,x<256:=by
 obtain ⟨ls,h1,h2,_⟩:=h
 have:=RP h1
 rw [this.1] at h2
 exact ⟨h2,this.2⟩
def J4 (bl:List (List Nat)) (di:List Bool) (ph n:Nat) (L:List (List Nat)) (k:Nat):Prop:=(ph=4∨k+1<n∧di[k]?=some false)->(bl[k]?.getD []).length≠0->bl[k]?.getD []=L[k]?.getD []
theorem Zay (hE:EM P e) {bl:List (List Nat)}{di:List Bool}{st sq:Int}{ph:Nat}{de:Bool}{bv dv:AV}(hl:hfs l=true) (hm:m=(n:Int)) (hn:3≤n∧n≤16) (hL:Ey L) (hLn:L.length=n) (hbv:Ls bytC bl bv) (hdv:Ls Ce.bool di dv) (hbl:bl.length=n) (hdi:di.length+1=n) (f:∀ k<n,¬J4 bl di ph n L k->∀ st,K (.bool false) st) (hrest:(∀ k<n,J4 bl di ph n L k)->W P 0 none R4 (A6 (Fa m B L true)) (Aj St0 [.row 33 l,.row 55 [.int .i64 st,bv,dv,.int .u8 (ph:Int),.bool de,.int .u32 sq]]) [] (BS [.tmp 6] K)):W P 0 none Mq (A6 (Fa m B L true)) (Aj St0 [.row 33 l,.row 55 [.int .i64 st,bv,dv,.int .u8 (ph:Int),.bool de,.int .u32 sq]]) [] (BS [.tmp 6] K):=by
 have hbf:=hbv.hf
 have hdf:=hdv.hf
 have hh:hfs [.int .i64 st,bv,dv,.int .u8 (ph:Int),.bool de,.int .u32 sq]=true:=by
  show (true && (AM.hf bv && (AM.hf dv && (true && (true && (true && true))))))=true
  rw [hbf,hdf];rfl
 obtain ⟨bs,b1,b2,bn⟩:=hbv.nth
 obtain ⟨ds,d1,d2,dn⟩:=hdv.nth
 obtain ⟨xs,x1,x2,xn⟩:=(Pf hL (by omega)).nth
 refine Bz hE ?_;conv=>whnf
 refine Aw hE n (fun i=>tdI m B L true i) (fun i=>[.row 33 l,.row 55 [.int .i64 st,bv,dv,.int .u8 (ph:Int),.bool de,.int .u32 sq]]) (fun i=>∀ k<i,J4 bl di ph n L k) (fun k h=>by omega) (Abs.tells (rs:=[0,1]) .a) ?_
 intro i hi hI
 by_cases hlt:i<n
 ·obtain ⟨b,_,br,hb,⟨bu,rfl,hbu⟩,hbd⟩:=bn i (by omega)
  obtain ⟨x,_,xr,hx,⟨xu,rfl,hxu⟩,hxd⟩:=xn i (by omega)
  obtain ⟨hbs,hb256⟩:=hbu.by
  obtain ⟨hxs,hx256⟩:=hxu.by
  have hbuf:=hbu.hf
  have hcl:J4 bl di ph n L i↔((ph=4∨i+1<n∧di[i]?=some false)->b.length≠0->b=x):=by
   unfold J4;rw [hb,hx];rfl
  have hf:=fun h=>f i hlt (mt hcl.1 h)
  have hst:=fun h=>AZ hI (hcl.2 h)
  have hmi:(i:Int)<m:=by omega
  by_cases hil:i+1<n
  ·obtain ⟨dd,_,dr,hd,rfl,hdd⟩:=dn i (by omega)
   rw [hd] at hf hst
   simp only [hil,true_and,Option.some.injEq] at hf hst
   have hil':(i:Int)<m-1:=by omega
   rcases dd with _|_
   all_goals
    conv=>whnf
    repeat' (first|(refine NK rfl rfl (fun hne=>?_) (fun heq=>?_) <;> conv=>whnf)|((first|refine Ar b1 (by omega) hbd ?_|refine Ar d1 (by omega) hdd ?_|refine Ar x1 (by omega) hxd ?_|refine As ?_|refine Am hbs ?_|refine Hf rfl hbs hb256 ?_|refine Hf rfl hxs hx256 ?_|refine Ac ?_|refine AL ?_|refine Au ?_|refine Av ?_|refine ⟨rfl,?_⟩);conv=>whnf)|refine Aa ?_ ?_|refine Ax ?_ ?_|refine Ap ?_ ?_|(intro _;first|omega|conv=>whnf))
    all_goals first
     | exact ⟨.inr rfl,_,_,rfl,rfl,hf (fun q=>hne (q (by first|exact .inl (by omega)|exact .inr rfl) (by omega))) _⟩
     | exact ⟨hlt,hst (fun h1 h2=>by first|assumption|(exfalso;rcases h1 with h1|h1 <;> first|omega|cases h1|exact hil h1.1)),Abs.tells (rs:=[0,1]) .a⟩
  ·have hil':¬(i:Int)<m-1:=by omega
   conv=>whnf
   repeat' (first|(refine NK rfl rfl (fun hne=>?_) (fun heq=>?_) <;> conv=>whnf)|((first|refine Ar b1 (by omega) hbd ?_|refine Ar x1 (by omega) hxd ?_|refine As ?_|refine Am hbs ?_|refine Hf rfl hbs hb256 ?_|refine Hf rfl hxs hx256 ?_|refine Ac ?_|refine AL ?_|refine ⟨rfl,?_⟩);conv=>whnf)|refine Aa ?_ ?_|refine Ax ?_ ?_|refine Ap ?_ ?_|(intro _;first|omega|conv=>whnf))
   all_goals first
    | exact ⟨.inr rfl,_,_,rfl,rfl,hf (fun q=>hne (q (by first|exact .inl (by omega)|exact .inr rfl) (by omega))) _⟩
    | exact ⟨hlt,hst (fun h1 h2=>by first|assumption|(exfalso;rcases h1 with h1|h1 <;> first|omega|cases h1|exact hil h1.1)),Abs.tells (rs:=[0,1]) .a⟩
 ·obtain rfl:i=n:=by omega
  have hrest:=hrest hI
  conv=>whnf
  repeat' (first|refine Aa ?_ ?_|(intro _;first|omega|conv=>whnf))
  exact W.tells (Abs.tells (tl:=Fa m B L true) (os:=[.row 33 l,.row 55 [.int .i64 st,bv,dv,.int .u8 (ph:Int),.bool de,.int .u32 sq]]) (rs:=[0,1]) .a) hrest
end Go.AM
