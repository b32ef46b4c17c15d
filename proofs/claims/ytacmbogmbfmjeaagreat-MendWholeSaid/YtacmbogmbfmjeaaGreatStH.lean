/- Contracts of functions over the abstract machine. No conditions. -/
import Derived.Test.YtacmbogmbfmjeaaGreatStG
import Derived.Test.YtacmbogmbfmjeaaGreatStF
import Derived.Test.YtacmbogmbfmjeaaGreatStE
import Derived.Test.YtacmbogmbfmjeaaGreatStD
import Derived.Test.YtacmbogmbfmjeaaGreatStA
import Derived.Test.YtacmbogmbfmjeaaGreatStB
set_option linter.unusedVariables false
set_option linter.unusedSimpArgs false
set_option maxRecDepth 100000
namespace Go.AM
attribute [local irreducible] W
open X
def P2 (d:Dv) (A B:Prop) [Decidable A] [Decidable B]:List (List AV):=(if A then [[.int .u8 8,.int .i64 0,.int .i64 0,.int .i64 d.2.2.1.2.2.2.1]] else [])++(if B then [[.int .u8 9,.int .i64 0,.int .i64 0,.int .i64 0]] else [])
open Classical in
noncomputable def D3 (d:Dv):List (List AV):=if d.2.2.1.2.2.1=true then P2 d (d.2.2.1.2.2.2.1<At d.1∧DQ d d.2.2.1.2.2.2.1=0) (d.2.2.1.2.2.2.2.1<d.2.2.1.2.2.2.1) else []
def Kb:List (List AV)->AV
 | []=>.nils
 | x::l=>.fz (l.length+1) none (x::l).flatten
theorem Zaz (d:Dv) (l:List AV) (v:AV) (hl:hfs (l++[v])=true):∃ F:List (List AV×AV),(∀ x ∈ F,x.1.length=4∧hfs x.1=true∧AM.hf x.2=true)∧F.length≤2∧Cn d l v=Kb (F.map fun x=>x.1++[x.2])∧D3 d=F.map Prod.fst:=by
 unfold Cn D3 P2
 by_cases h1:d.2.2.1.2.2.1=true
 ·rw [Zpn h1,Zpn h1]
  by_cases h2:d.2.2.1.2.2.2.1<At d.1∧DQ d d.2.2.1.2.2.2.1=0
  ·rw [Zpn h2,Zpn h2]
   by_cases h3:d.2.2.1.2.2.2.2.1<d.2.2.1.2.2.2.1
   ·rw [Zpn h3,Zpn h3]
    exact ⟨[(_,.fn 81 [.agg (l++[v])] []),(_,.fn 82 [.agg (l++[v])] [])],by simp [hfs,hf,hl],by simp,rfl,rfl⟩
   ·rw [Zpr h3,Zpr h3]
    exact ⟨[(_,.fn 81 [.agg (l++[v])] [])],by simp [hfs,hf,hl],by simp,rfl,rfl⟩
  ·rw [Zpr h2,Zpr h2]
   by_cases h3:d.2.2.1.2.2.2.2.1<d.2.2.1.2.2.2.1
   ·rw [Zpn h3,Zpn h3]
    exact ⟨[(_,.fn 82 [.agg (l++[v])] [])],by simp [hfs,hf,hl],by simp,rfl,rfl⟩
   ·rw [Zpr h3,Zpr h3]
    exact ⟨[],by simp,by simp,rfl,rfl⟩
 ·rw [Zpr h1,Zpr h1]
  exact ⟨[],by simp,by simp,rfl,rfl⟩
def stpC:Ce (List AV×AV):=⟨5,fun x l=>l=x.1++[x.2]∧x.1.length=4∧hfs l=true,by rintro _ _ ⟨rfl,h,_⟩;rw [Zpx,h];rfl,by rintro _ _ ⟨_,_,h⟩;exact h,by
 rintro ⟨a,b⟩ ⟨a',b'⟩ _ ⟨rfl,h1,_⟩ ⟨e,h2,_⟩
 obtain ⟨e1,e2⟩:=List.append_inj e (by rw [h1,h2])
 dsimp only at e1 e2
 cases e2
 rw [e1]⟩
theorem Zmr {F:List (List AV×AV)}(h:∀ x ∈ F,x.1.length=4∧hfs (x.1++[x.2])=true) (hn:F.length≤1000):Ls stpC F (Kb (F.map fun x=>x.1++[x.2])):=by
 cases F with
 | nil=>exact Ee (.inl rfl)
 | cons x F=>
  have ha:All2 stpC.r (x::F) ((x::F).map fun x=>x.1++[x.2]):=by
   refine EB (by simp) fun i y l h1 h2=>?_
   rw [Zqi,h1] at h2
   cases h2
   exact ⟨rfl,h y (Zp5 h1)⟩
  refine ⟨_,ha,.inr (.inr ⟨none,?_,FW ha⟩),by omega⟩
  show AV.fz ((F.map _).length+1) none _=_
  rw [Zpq];rfl
variable {l:List AV}
theorem four (h:l.length=4):∃ a b c d,l=[a,b,c,d]:=by
 rcases l with _|⟨a,_|⟨b,_|⟨c,_|⟨d,_|⟨e,l⟩⟩⟩⟩⟩ <;> simp at h
 exact ⟨a,b,c,d,rfl⟩
def Nf (args:List AV) (u:AV):Prop:=∃ d l,args=[.agg l]∧dvC.r d l∧IU d∧d.1.may∧d.2.2.2.2.1.2.2.2.2.length≤1000∧d.2.2.1.2.2.2.2.2.2=false∧u=.tup [Kb (D3 d),.int .i64 0]
variable {e:Env}
theorem Zlx (hE:EM P e) (h18:Con e 18 mckF.O) (h34:Con e 34 (Ao Ng)):OvOk P 9 (Ao Nf):=by
 refine CX g9.b ?_
 rintro args u ⟨d,l,rfl,hd,hmc,hM,hn,hbr,hu⟩
 have hrow:=dvC.hf hd
 obtain ⟨F,k1,k2,k3,k4⟩:=Zaz d l .nils (EG hrow rfl)
 have hstp:∀ (Q:AV->St->Prop) s,Q (Cn d l .nils) s->ESc e 34 [.agg (l++[.nils])] s Q:=fun Q s q=>by
  refine ESc.rel h34 ⟨_,d,l,.nils,rfl,hd,rfl,rfl,hM,hbr,rfl⟩ ?_
  rintro u ⟨d',l',v',e1,hd',-,-,-,-,hu⟩
  have e1:=(Zpv e1).1
  injection e1 with e1
  obtain ⟨rfl,e2⟩:=List.append_inj e1 (by rw [dvC.len hd,dvC.len hd'])
  cases e2
  rw [dvC.inj hd' hd] at hu
  rw [hu];exact q
 have hfu:AM.hf (Cn d l .nils)=true:=WM
 have hls:Ls stpC F (Cn d l .nils):=by
  rw [k3]
  exact Zmr (fun x hx=>⟨(k1 x hx).1,EG (k1 x hx).2.1 (by show (AM.hf x.2 && true)=true;rw [(k1 x hx).2.2];rfl)⟩) (by omega)
 have hck:=fun (Q:AV->St->Prop) s a=>@cF.u _ _ _ _ e 18 s Q _ h18 (d,()) ⟨_,_,rfl,hd,rfl⟩ hn (fun _=>a) (fun q=>absurd hmc q)
 refine ⟨by show (hfs l && true)=true;rw [hrow];rfl,by rw [hu];unfold Kb;split <;> rfl,C.of_G hE g9 ?_⟩
 obtain ⟨cs,hs',hl',hnth⟩:=hls.nth
 have fin:∀ st r,F.length≠0->st.get r=some (.row 42 (F.map Prod.fst).flatten)->Frz st (.tup [.sl r 0 F.length none,.int .i64 0]) u:=fun st r h0 hg=>by
  rw [hu,k4]
  cases F with
  | nil=>exact absurd rfl h0
  | cons x F=>
   have hf4:hfs ((x::F).map Prod.fst).flatten=true:=hfs_iff.2 fun v hv=>by
    obtain ⟨m,hm,hv⟩:=List.mem_flatten.1 hv
    obtain ⟨y,hy,rfl⟩:=Zqj.1 hm
    exact hfs_iff.1 (k1 y hy).2.1 v hv
   show Frz st _ (.tup [.fz ((F.map Prod.fst).length+1) none ((x::F).map Prod.fst).flatten,.int .i64 0])
   rw [Zpq]
   exact .tup _ _ (.cons (.sl r 0 _ _ _ 42 _ _ _ hg (fun i x hx=>by rw [Zpy];exact hx) (Ck hf4) (.inl rfl)) (.cons (.plain _ rfl) .nil))
 have fin0:∀ st,F.length=0->Frz st (.tup [.nils,.int .i64 0]) u:=fun st h0=>by
  rw [hu,k4,Zqh.1 h0]
  exact .plain _ rfl
 have hft:∀ i,hfs ((F.take i).map Prod.fst).flatten=true:=fun i=>hfs_iff.2 fun v hv=>by
  obtain ⟨m,hm,hv⟩:=List.mem_flatten.1 hv
  obtain ⟨y,hy,rfl⟩:=Zqj.1 hm
  exact hfs_iff.1 (k1 y (Zqq hy)).2.1 v hv
 generalize Cn d l .nils=w at *
 obtain ⟨c,bk,⟨ev,lo,sp,po,dn,nl,br⟩,hs,⟨ag,sq,tl,us,L⟩,fs,nx,so⟩:=d
 obtain ⟨hv,lv,fv,rfl,-⟩:=B1 hd
 conv=>whnf
 repeat' (first|((first|refine hck _ _ ?_|refine hstp _ _ ?_|refine AD rfl hs' ?_);conv=>whnf)|refine Al ?_ ?_|(intro _;first|omega|conv=>whnf))
 have hwf:=hls.hf
 have hfl:∀ i,i≤F.length->((F.take i).map Prod.fst).flatten.length=i*4:=fun i=>by
  induction i with
  | zero=>intro _;rfl
  | succ i ih=>
   intro hi
   obtain ⟨x,hx⟩:∃ x,F[i]?=some x:=⟨_,Zpj hi⟩
   rw [List.take_add_one,hx,Zp8,List.flatten_append,Zpx,ih (by omega)]
   simp [(k1 x (Zp5 hx)).1];omega
 refine Aw hE F.length (fun i=>[(5,N6 i 0),(15,w),(16,.int .i64 (F.length:Int)),(17,.int .i64 (i:Int))]) (fun i=>match i with|0=>[]|i+1=>[.row 42 ((F.take (i+1)).map Prod.fst).flatten]) (fun _=>True) trivial (Abs.tells (rs:=[]) .a) ?_
 intro i hi _
 by_cases hlt:i<F.length
 ·obtain ⟨⟨a4,fv2⟩,_,r,hx,⟨rfl,h4,h4f⟩,hd2⟩:=hnth i hlt
  obtain ⟨a,b,c',d',rfl⟩:=four h4
  have hst:((F.take (i+1)).map Prod.fst).flatten=((F.take i).map Prod.fst).flatten++[a,b,c',d']:=by
   rw [List.take_add_one,hx,Zp8,List.flatten_append];simp
  have hfi:=hft (i+1)
  have hli:=hfl i (by omega)
  rcases i with _|i
  ·conv=>whnf
   repeat' (first|((first|refine Ar hs' hlt hd2 ?_|refine A8 (cs:=[a,b,c',d',fv2]) rfl ?_|refine CO (m:=1) ?_|refine Ac ?_|refine ⟨rfl,?_⟩);conv=>whnf)|refine Aa ?_ ?_|(intro _;first|omega|conv=>whnf))
   exact ⟨hlt,trivial,Abs.tells (rs:=[2]) ⟨by decide,⟨r9,t9,r9,r9,trivial⟩,⟨⟨Bj hfi,by rw [AU hfi,hst];rfl⟩,trivial⟩⟩⟩
  ·conv=>whnf
   repeat' (first|((first|refine Ar hs' hlt hd2 ?_|refine A8 (cs:=[a,b,c',d',fv2]) rfl ?_|refine C6 (m:=1) (n:=i+1) (old:=((F.take (i+1)).map Prod.fst).flatten) rfl rfl rfl rfl hli rfl (by decide) (by omega) ?_|refine Ac ?_|refine ⟨rfl,?_⟩);conv=>whnf)|refine Aa ?_ ?_|(intro _;first|omega|conv=>whnf))
   exact ⟨hlt,trivial,Abs.tells (rs:=[3]) ⟨by decide,⟨r9,t9,r9,r9,trivial⟩,⟨⟨Bj hfi,by rw [AU hfi,hst];rfl⟩,trivial⟩⟩⟩
 ·have htk:F.take F.length=F:=List.take_length
  obtain rfl:i=F.length:=by omega
  cases hz:F.length with
  | zero=>
   conv=>whnf
   repeat' (first|refine Aa ?_ ?_|(intro _;first|omega|conv=>whnf))
   exact fin0 _ hz
  | succ m=>
   rw [hz] at htk fin
   dsimp only
   rw [htk]
   conv=>whnf
   repeat' (first|refine Aa ?_ ?_|(intro _;first|omega|conv=>whnf))
   exact fin _ 0 (by omega) rfl
theorem Zds (a b k q:Int):Gq [0,0,0,0] [.int .u8 a,.int .i64 k,.int .i64 q,.int .i64 b] [.int .u8 a,.int .i64 k,.int .i64 q,.int .i64 b]=some true:=by
 have h:∀ x:Int,D9 x x=true:=fun x=>by rw [Gc];exact Zpo rfl
 simp [Gq,LF,h,Ch]
theorem Zjx (l m:List AV):Gq [0,0,0,0] (.int .u8 8::l) (.int .u8 9::m)=some false:=rfl
def Lq (kd s:Int):List AV:=[.int .u8 kd,.int .i64 0,.int .i64 0,.int .i64 s]
def Zhm (d:Dv):List AV:=[.int .u8 8,.int .i64 0,.int .i64 0,.int .i64 d.2.2.1.2.2.2.1]
def Zhn:List AV:=[.int .u8 9,.int .i64 0,.int .i64 0,.int .i64 0]
def EN (d:Dv):Prop:=d.2.2.1.2.2.2.1<At d.1∧DQ d d.2.2.1.2.2.2.1=0
def HF (d:Dv):Prop:=d.2.2.1.2.2.2.2.1<d.2.2.1.2.2.2.1
def Np (d:Dv) (l:List AV) (D:List Dk):AV:=.tup [.agg (EU (E7 d.2.2.1) (Ej l)),.fz 1 none (Nq d D),.int .i64 0]
def HJ (d:Dv) (l:List AV):AV:=if d.2.2.1.1=2147483648 then .tup [.agg Gr,.nils,.int .i64 9] else .tup [.agg (EU (D8 (Bx d.1 d.2.2.1)) (Ej l)),.fz (1+d.1.members.toNat) none (Nn d),.int .i64 0]
def T4 (d:Dv) (D:List Dk):Prop:=JV d D=0∧(∀ x ∈ D,BG x)∧d.2.2.2.2.1.2.2.2.2.length≤1000∧d.1.may∧d.2.2.1.2.2.2.2.2.2=false
def Kg (args:List AV) (u:AV):Prop:=∃ d l D v,dvC.r d l∧Ls dkC D v∧T4 d D∧((EN d∧args=[.agg l,v,.agg (Zhm d)]∧MP d D∧u=Np d l D)∨(HF d∧args=[.agg l,v,.agg Zhn]∧MO d∧u=HJ d l))
variable {d:Dv}{v:AV}
theorem WN (hsp:d.2.2.1.2.2.1=true) (hA:EN d) (hB:HF d):Cn d l v=.fz 2 none (IZ l v d.2.2.1.2.2.2.1++Ja l v):=by
 unfold EN at hA;unfold HF at hB;unfold Cn;rw [Zpn hsp,Zpn hA,Zpn hB]
theorem Zl1 (hsp:d.2.2.1.2.2.1=true) (hA:EN d) (hB:¬HF d):Cn d l v=.fz 1 none (IZ l v d.2.2.1.2.2.2.1):=by
 unfold EN at hA;unfold HF at hB;unfold Cn;rw [Zpn hsp,Zpn hA,Zpr hB]
theorem Zl0 (hsp:d.2.2.1.2.2.1=true) (hA:¬EN d) (hB:HF d):Cn d l v=.fz 1 none (Ja l v):=by
 unfold EN at hA;unfold HF at hB;unfold Cn;rw [Zpn hsp,Zpr hA,Zpn hB]
theorem Sy {d':Dv}{l':List AV}{v':AV}(h:dvC.r d l) (h':dvC.r d' l') (e:l++[v]=l'++[v']):l=l'∧v=v'∧d=d':=by
 obtain ⟨rfl,e2⟩:=List.append_inj e (by rw [dvC.len h,dvC.len h'])
 cases e2
 exact ⟨rfl,rfl,dvC.inj h h'⟩
variable {D:List Dk}
theorem Zih (h81:Con e 81 (Ao PA)) (hd:dvC.r d l) (hD:Ls dkC D v) (hk:MP d D) (Q:AV->St->Prop) (s:St) (q:Q (Np d l D) s):ECall e 81 [.agg (l++[v]),.int .i64 d.2.2.1.2.2.2.1] s Q:=by
 refine ECall.rel h81 ⟨_,d,l,D,v,rfl,hd,hD,hk,rfl⟩ ?_
 rintro u ⟨d',l',D',v',e1,g1,g2,-,rfl⟩
 have e1:=(Zpv e1).1
 injection e1 with e1
 obtain ⟨rfl,rfl,rfl⟩:=Sy hd g1 e1
 rw [g2.inj hD]
 exact q
theorem Zif (h82:Con e 82 (Ao P9)) (hd:dvC.r d l) (hvf:AM.hf v=true) (hvc:cellsOf v=[v]) (hk:MO d) (Q:AV->St->Prop) (s:St) (q:Q (HJ d l) s):ECall e 82 [.agg (l++[v]),.int .i64 0] s Q:=by
 refine ECall.rel h82 ⟨_,d,l,v,rfl,hd,hvf,hvc,hk,rfl⟩ ?_
 rintro u ⟨d',l',v',e1,g1,-,-,-,rfl⟩
 have e1:=(Zpv e1).1
 injection e1 with e1
 obtain ⟨rfl,rfl,rfl⟩:=Sy hd g1 e1
 exact q
variable {n:Nat}
theorem Pc {a:List AV}{c:List AV}{z:Int}(h:hfs a=true):AM.hf (.tup [.agg a,.fz n none c,.int .i64 z])=true:=Bool.and_eq_true_iff.2 ⟨h,rfl⟩
theorem XJ (hd:dvC.r d l) (h:MP d D):∃ a,Np d l D=.tup [.agg a,.fz 1 none (Nq d D),.int .i64 0]∧hfs a=true∧dvC.r (Bu d (E7 d.2.2.1)) a:=by
 obtain ⟨⟨hM,h20,hsm,hal⟩,hL,hsp,hpo,hS⟩:=h
 have hT:=MY hd
 obtain ⟨c,bk,⟨ev,lo,sp,po,dn,nl,br⟩,hs,⟨ag,sq,tl,us,L⟩,fs,nx,so⟩:=d
 obtain ⟨hv,lv,fv,rfl,⟨ho,o1,o2,o3,o4,-⟩,-⟩:=B1 hd
 dsimp only at hM hsp hpo
 have hmm:=BC hM
 have hL':=hL
 unfold Br at hL'
 have hL2:=hL'.2.2.2.1 hsp
 have hpo1:Ab (po+1):=by unfold At at hpo;unfold Ab;unfold Cfg.may at hM;unfold At at hmm;omega
 have:=M8 hT (o:=E7 (ev,lo,sp,po,dn,nl,br)) (HB o1 o2 hpo1 o4)
 exact ⟨_,rfl,dvC.hf this,this⟩
theorem XI (hd:dvC.r d l) (h:MO d):(HJ d l=.tup [.agg Gr,.nils,.int .i64 9])∨d.2.2.1.1≠2147483648∧∃ a,HJ d l=.tup [.agg a,.fz (1+d.1.members.toNat) none (Nn d),.int .i64 0]∧hfs a=true∧dvC.r (Bu d (D8 (Bx d.1 d.2.2.1))) a:=by
 obtain ⟨hM,hL,hsp,hdp,hbr,hS⟩:=h
 have hT:=MY hd
 obtain ⟨k1,k2,k3,k4,k5⟩:=OZ hM hL hsp hdp
 unfold HJ
 by_cases hq:d.2.2.1.1=2147483648
 ·rw [Zpn hq];exact .inl rfl
 ·rw [Zpr hq]
  obtain ⟨c,bk,⟨ev,lo,sp,po,dn,nl,br⟩,hs,⟨ag,sq,tl,us,L⟩,fs,nx,so⟩:=d
  obtain ⟨hv,lv,fv,rfl,⟨ho,o1,o2,o3,o4,-⟩,-⟩:=B1 hd
  obtain ⟨b1,b2,b3⟩:=k5 o2 o3
  have hL1:=hL.1
  dsimp only at hq k3 hL1
  generalize hm:Bx c (ev,lo,sp,po,dn,nl,br)=m at *
  have hGr:loC.r (D8 m) (Es (D8 m)):=Sz (by obtain ⟨_,_⟩:=m;unfold Bn at o1 ⊢;show 0≤_+1∧_+1<_;simp only at k3;omega) (by obtain ⟨_,_⟩:=m;exact b1) (by obtain ⟨_,_⟩:=m;exact b2) (by obtain ⟨_,_⟩:=m;exact b3)
  have:=M8 hT hGr
  exact .inr ⟨hq,_,by subst hm;rfl,dvC.hf this,by subst hm;exact this⟩
theorem Gy:∀ {a:List AV},a.length=23->∃ a0 a1 a2 a3 a4 a5 a6 a7 a8 a9 a10 a11 a12 Ic Kj Ib Ki a17 Ia HZ HY HX HW:AV,a=[a0,a1,a2,a3,a4,a5,a6,a7,a8,a9,a10,a11,a12,Ic,Kj,Ib,Ki,a17,Ia,HZ,HY,HX,HW]
 | [a0,a1,a2,a3,a4,a5,a6,a7,a8,a9,a10,a11,a12,Ic,Kj,Ib,Ki,a17,Ia,HZ,HY,HX,HW],_=>⟨a0,a1,a2,a3,a4,a5,a6,a7,a8,a9,a10,a11,a12,Ic,Kj,Ib,Ki,a17,Ia,HZ,HY,HX,HW,rfl⟩
theorem Zle {x y:AO}{t:AT}{p:List AV->Prop}{A:List AV}(hx:ev x t=.some (.agg A)) (hA:A.length=23) (hy:ev y t=.some v) (hc:cellsOf v=[v]) (hk:p (A++[v])):wO (fill t [(0,23,x),(23,1,y)] [.int .u32 0,.int .i64 0,.int .i64 0,.int .i64 0,.int .i64 0,.int .i64 0,.bool false,.int .u32 0,.int .i64 0,.bool false,.int .i64 0,.int .i64 0,.bool false,.bool false,.nils,.int .u32 0,.int .u32 0,.int .i64 0,.int .i64 0,.nils,.nils,.int .i64 0,.bool false,.nils]) p:=by
 obtain ⟨a0,a1,a2,a3,a4,a5,a6,a7,a8,a9,a10,a11,a12,Ic,Kj,Ib,Ki,a17,Ia,HZ,HY,HX,HW,rfl⟩:=Gy hA
 have h:fill t [(0,23,x),(23,1,y)] [.int .u32 0,.int .i64 0,.int .i64 0,.int .i64 0,.int .i64 0,.int .i64 0,.bool false,.int .u32 0,.int .i64 0,.bool false,.int .i64 0,.int .i64 0,.bool false,.bool false,.nils,.int .u32 0,.int .u32 0,.int .i64 0,.int .i64 0,.nils,.nils,.int .i64 0,.bool false,.nils]=some ([a0,a1,a2,a3,a4,a5,a6,a7,a8,a9,a10,a11,a12,Ic,Kj,Ib,Ki,a17,Ia,HZ,HY,HX,HW]++[v]):=by
  show (OV.rec none (fun v=>Bool.rec none (Option.rec none (fun z'=>(OV.rec none (fun v=>Bool.rec none (Option.rec none (fun z'=>some z') (E5 (cellsOf v) 23 z')) (Nat.beq (A7 (cellsOf v)) 1)) (ev y t):Option (List AV))) (E5 (cellsOf v) 0 [.int .u32 0,.int .i64 0,.int .i64 0,.int .i64 0,.int .i64 0,.int .i64 0,.bool false,.int .u32 0,.int .i64 0,.bool false,.int .i64 0,.int .i64 0,.bool false,.bool false,.nils,.int .u32 0,.int .u32 0,.int .i64 0,.int .i64 0,.nils,.nils,.int .i64 0,.bool false,.nils])) (Nat.beq (A7 (cellsOf v)) 23)) (ev x t):Option (List AV))=_
  rw [hx,hy]
  dsimp only
  rw [hc];rfl
 rw [h];exact hk
theorem Znh {e:Env}(hE:EM P e) (h34:Con e 34 (Ao Ng)) (h35:Con e 35 askF.O) {d:Dv}{l:List AV}{D:List Dk}{v:AV}(hd:dvC.r d l) (hD:Ls dkC D v) (hdo:T4 d D) {n j f:Nat}{cl r:List AV}{kd s z:Int}{W:List AV}{cc:AV}(hV:Cn d l v=.fz n none cl) (hC:cl.length=n*5) (hj:j<n∧n≤1000) (hr:cl.drop (j*5)=[.int .u8 kd,.int .i64 0,.int .i64 0,.int .i64 s,.fn f [.agg (l++[v])] []]++r) (h0:∀ i<j,kd=9∧∃ r0,cl.drop (i*5)=IZ l v d.2.2.1.2.2.2.1++r0) (hc:∀ (Q:AV->St->Prop) st,Q (.tup [.agg W,cc,.int .i64 z]) st->ECall e f [.agg (l++[v]),.int .i64 s] st Q) (hW:W.length=23) (hf:AM.hf (.tup [.agg W,cc,.int .i64 z])=true):C P 10 [.agg l,v,.agg [.int .u8 kd,.int .i64 0,.int .i64 0,.int .i64 s]] St0 (fun u st=>Frz st u (.tup [.agg W,cc,.int .i64 z])):=by
 obtain ⟨hask,hsm,hln,hM,hbr⟩:=hdo
 have hvf:=hD.hf
 have hvc:=hD.cell
 have hak:∀ (Q:AV->St->Prop) s,Q (.int .i64 0) s->ESc e 35 [.agg l,v] s Q:=fun Q s q=>Fn.u (F:=askF) h35 (d,D,()) ⟨_,_,rfl,hd,_,_,rfl,⟨_,rfl,hD⟩,rfl⟩ ⟨hln,hsm⟩ (by show Q (.int .i64 (JV d D)) s;rw [hask];exact q)
 have hstp:∀ (Q:AV->St->Prop) s,Q (.fz n none cl) s->ESc e 34 [.agg (l++[v])] s Q:=fun Q s q=>by
  refine ESc.rel h34 ⟨_,d,l,v,rfl,hd,hvf,hvc,hM,hbr,rfl⟩ ?_
  rintro u ⟨d',l',v',e1,hd',-,-,-,-,rfl⟩
  have e1:=(Zpv e1).1
  injection e1 with e1
  obtain ⟨rfl,rfl,rfl⟩:=Sy hd hd' e1
  rw [hV];exact q
 have hsl:Sl 5 n cl (.fz n none cl):=.inr (.inr ⟨none,rfl,hC⟩)
 have hlen:=dvC.len hd
 clear hV hd
 generalize d.2.2.1.2.2.2.1=po at h0
 obtain ⟨x0,x1,x2,x3,x4,x5,x6,x7,x8,x9,x10,x11,x12,x13,x14,x15,x16,x17,x18,x19,x20,x21,x22,rfl⟩:=Gy hlen
 obtain ⟨y0,y1,y2,y3,y4,y5,y6,y7,y8,y9,y10,y11,y12,y13,y14,y15,y16,y17,y18,y19,y20,y21,y22,rfl⟩:=Gy hW
 refine C.of_G hE g10 ?_;conv=>whnf
 repeat' (first|(refine DA (by show Nat.beq (A7 (cellsOf v)) 1=true;rw [hvc];rfl) ?_;rw [hvc];conv=>whnf)|((first|refine hak _ _ ?_|refine Zle rfl rfl rfl hvc ?_|refine hstp _ _ ?_|refine Kr rfl ?_);conv=>whnf)|refine Al ?_ ?_|(intro _;first|omega|conv=>whnf))
 refine Aw hE n (fun i=>[(5,.ptr 0 0),(6,.ptr 1 0),(22,.fz n none cl),(23,.int .i64 (n:Int)),(24,.int .i64 (i:Int))]) (fun _=>[.row 42 [.int .u8 kd,.int .i64 0,.int .i64 0,.int .i64 s],.row 33 Gr]) (fun i=>i≤j) (Zp2 _) (Abs.tells (rs:=[1,2]) .a) ?_
 intro i hi hI
 by_cases hij:i=j
 ·subst hij
  conv=>whnf
  repeat' (first|((first|refine Ew rfl hsl rfl hj.1 hr ?_|refine A8 (cs:=[_,_,_,_,_]) rfl ?_|refine Vk rfl rfl (Zds _ _ _ _) ?_|refine hc _ _ ?_);conv=>whnf)|refine Aa ?_ ?_|(intro _;first|omega|conv=>whnf))
  exact .plain _ hf
 ·obtain ⟨rfl,r0,hr0⟩:=h0 i (by omega)
  conv=>whnf
  repeat' (first|((first|refine Ar hsl (by omega) hr0 ?_|refine A8 (cs:=[_,_,_,_,_]) rfl ?_|refine Vk rfl rfl (Zjx _ _) ?_|refine Ac ?_|refine ⟨rfl,?_⟩);conv=>whnf)|refine Aa ?_ ?_|(intro _;first|omega|conv=>whnf))
  exact ⟨by omega,by omega,Abs.tells (rs:=[0,1]) .a⟩
theorem Zov (hE:EM P e) (h34:Con e 34 (Ao Ng)) (h35:Con e 35 askF.O) (h81:Con e 81 (Ao PA)) (h82:Con e 82 (Ao P9)):OvOk P 10 (Ao Kg):=by
 refine CX g10.b ?_
 rintro args u ⟨d,l,D,v,hd,hD,hdo,hor⟩
 have hrow:=dvC.hf hd
 have hvf:=hD.hf
 have har:∀ kd s,hfs [.agg l,v,.agg (Lq kd s)]=true:=fun kd s=>by
  show (hfs l && (AM.hf v && (hfs _ && true)))=true
  rw [hrow,hvf];rfl
 have rem:=fun {n j f:Nat}{cl r:List AV}{kd s z:Int}{W:List AV}{cc:AV}=>@Znh e hE h34 h35 d l D v hd hD hdo n j f cl r kd s z W cc
 rcases hor with ⟨hA,rfl,hok,rfl⟩|⟨hB,rfl,hok,rfl⟩
 ·obtain ⟨a,e1,ha,hr⟩:=XJ (D:=D) hd hok
  have hc:=Zih h81 hd hD hok
  rw [e1] at hc ⊢
  refine ⟨har 8 _,Pc ha,?_⟩
  by_cases hB:HF d
  ·exact rem (j:=0) (WN hok.2.2.1 hA hB) rfl ⟨by decide,by decide⟩ rfl (fun i h=>absurd h (Nat.not_lt_zero i)) hc (dvC.len hr) (Pc ha)
  ·exact rem (j:=0) (Zl1 hok.2.2.1 hA hB) rfl ⟨by decide,by decide⟩ rfl (fun i h=>absurd h (Nat.not_lt_zero i)) hc (dvC.len hr) (Pc ha)
 ·have hc:=Zif h82 hd hvf hD.cell hok
  have key:∃ W:List AV,∃ cc z,HJ d l=.tup [.agg W,cc,.int .i64 z]∧AM.hf (.tup [.agg W,cc,.int .i64 z])=true∧W.length=23:=by
   rcases XI hd hok with e1|⟨-,a,e1,ha,har⟩
   ·exact ⟨_,_,_,e1,rfl,rfl⟩
   ·exact ⟨_,_,_,e1,Pc ha,dvC.len har⟩
  obtain ⟨W,cc,z,e1,hAf,hlen⟩:=key
  rw [e1] at hc ⊢
  refine ⟨har 9 0,hAf,?_⟩
  by_cases hA:EN d
  ·exact rem (j:=1) (WN hok.2.2.1 hA hB) rfl ⟨by decide,by decide⟩ rfl (fun i h=>⟨rfl,Ja l v,by rw [Nat.lt_one_iff.1 h];rfl⟩) hc hlen hAf
  ·exact rem (j:=0) (Zl0 hok.2.2.1 hA hB) rfl ⟨by decide,by decide⟩ rfl (fun i h=>absurd h (Nat.not_lt_zero i)) hc hlen hAf
def Ni (d:Dv) (D:List Dk):Prop:=C3 d.1 D∧(∀ x ∈ D,BG x)∧Cg d.1 d.2.2.2.1
def Tp (args:List AV) (u:AV):Prop:=∃ d l D v d' l' D' v',args=[.agg l,v,.agg l',v']∧(dvC.r d l∧Ls dkC D v∧Ni d D)∧(dvC.r d' l'∧Ls dkC D' v'∧Ni d' D')∧d.1.may∧d'.1=d.1∧(∀ s k:Int,0≤s->s<At d.1->0≤k->k<d.1.members->∃ b,B0 d D s k=some b∧B0 d' D' s k=some b)∧u=.bool true
theorem Zma (hE:EM P e) (h41:Con e 41 blsF.O) (h42:Con e 42 sptF.O) (h43:Con e 43 (Ao Lx)):OvOk P 13 (Ao Tp):=by
 refine CX g13.b ?_
 rintro args u ⟨d,l,D,v,d',l',D',v',rfl,⟨hd,hD,q1,q2,q3⟩,⟨hd',hD',q1',q2',q3'⟩,hM,hcc,hvw,rfl⟩
 have hrow:=dvC.hf hd
 have hrow':=dvC.hf hd'
 have hvf:=hD.hf
 have hvf':=hD'.hf
 refine ⟨?_,rfl,C.of_G hE g13 ?_⟩
 ·show (hfs l && (AM.hf v && (hfs l' && (AM.hf v' && true))))=true
  rw [hrow,hvf,hrow',hvf'];rfl
 have hu1:=fun {s k:Int}(hs:Ab s) (hk:Ab k) (h0:Lp d D s k) {b:List Nat}(hb:B0 d D s k=some b)=>Si (e:=e) h43 hd hD hs hk h0 hb
 have hu2:=fun {s k:Int}(hs:Ab s) (hk:Ab k) (h0:Lp d' D' s k) {b:List Nat}(hb:B0 d' D' s k=some b)=>Si (e:=e) h43 hd' hD' hs hk h0 hb
 have hok1:∀ s k:Int,0≤s->s<At d.1->0≤k->k<d.1.members->Lp d D s k:=fun s k a b c' d0=>⟨⟨hM,q1,q2,a,b⟩,q3,c',d0⟩
 have hok2:∀ s k:Int,0≤s->s<At d.1->0≤k->k<d.1.members->Lp d' D' s k:=fun s k a b c' d0=>⟨⟨by rw [hcc];exact hM,q1',q2',a,by rw [hcc];exact b⟩,q3',c',by rw [hcc];exact d0⟩
 obtain ⟨c,bk,⟨ev,lo,sp,po,dn,nl,br⟩,hs,⟨ag,sq,tl,us,L⟩,fs,nx,so⟩:=d
 obtain ⟨c',bk',⟨ev',lo',sp',po',dn',nl',br'⟩,hs',⟨ag',sq',tl',us',L'⟩,fs',nx',so'⟩:=d'
 dsimp only at hM hcc hvw hok1 hok2
 subst hcc
 obtain ⟨hv,lv,fv,rfl,⟨ho,-⟩,-⟩:=B1 hd
 obtain ⟨hv',lv',fv',rfl,-,-⟩:=B1 hd'
 have hbl:∀ (Q:AV->St->Prop) s,Q (.tup [.int .i64 (BJ c'),.int .i64 0]) s->ESc e 41 [.agg c'.c] s Q:=fun Q s q=>Fn.u (F:=blsF) h41 (c',()) ⟨_,_,rfl,⟨rfl,ho⟩,rfl⟩ hM q
 have hsp:∀ (b:Int),0≤b->b<BJ c'->∀ (Q:AV->St->Prop) s,Q (.tup [.agg [.int .i64 (B7 c' b),.int .i64 (BY c' b),.int .i64 (EP c' b)],.int .i64 0]) s->ESc e 42 [.agg c'.c,.int .i64 b] s Q:=fun b h0 h1 Q s q=>Fn.u (F:=sptF) h42 (c',b,()) ⟨_,_,rfl,⟨rfl,ho⟩,_,_,rfl,⟨rfl,Bf (by have:=BC hM;unfold Ab;dsimp only;omega)⟩,rfl⟩ ⟨hM,h0,h1⟩ q
 have hmm:=BC hM
 have hvc:=hD.cell
 have hvc':=hD'.cell
 have hM':=hM
 unfold Cfg.may at hM'
 change VW P e 0 _ (An [.agg _,v,.agg _,v'] 0 .lf) St0 none [] _
 conv=>whnf
 repeat' (first|(refine hbl _ _ ?_;conv=>whnf)|fail)
 refine Aw hE (BJ c').toNat (fun i=>[(1,v),(3,v'),(4,.ptr 0 0),(6,.ptr 1 0),(9,.int .i64 (BJ c')),(10,.int .i64 0),(11,.int .i64 (i:Int))]) (fun _=>[.row 33 (c'.c++[.bool bk,.int .u32 ev,.int .i64 lo,.bool sp,.int .i64 po,.int .i64 dn,.bool nl,.bool br,hv,.int .u32 ag,.int .u32 sq,.int .i64 tl,.int .i64 us,lv,fv,.int .i64 nx,.bool so]),.row 33 (c'.c++[.bool bk',.int .u32 ev',.int .i64 lo',.bool sp',.int .i64 po',.int .i64 dn',.bool nl',.bool br',hv',.int .u32 ag',.int .u32 sq',.int .i64 tl',.int .i64 us',lv',fv',.int .i64 nx',.bool so'])]) (fun _=>True) trivial (Abs.tells (rs:=[0,1]) .a) ?_
 intro i hi _
 by_cases hlt:i<(BJ c').toNat
 ·obtain ⟨⟨p0,p1⟩,p2,p3⟩:=MM hM (b:=(i:Int)) ⟨Zq2 _,by omega⟩
  have hsp:=hsp (i:Int) (Zq2 _) (by omega)
  obtain ⟨b,e1,e2⟩:=hvw (B7 c' i) (BY c' i) p0 p1 p2 (by omega)
  obtain ⟨u1,a1,a2⟩:=hu1 (by unfold Ab;omega) (by unfold Ab;omega) (hok1 (B7 c' i) (BY c' i) p0 p1 p2 (by omega)) e1
  obtain ⟨u2,b1,b2⟩:=hu2 (by unfold Ab;omega) (by unfold Ab;omega) (hok2 (B7 c' i) (BY c' i) p0 p1 p2 (by omega)) e2
  have a3:=a1.b
  have b3:=b1.b
  clear hu1 hu2 hvw hok1 hok2
  generalize B7 c' i=S at *
  generalize BY c' i=K at *
  generalize EP c' i=N at *
  conv=>whnf
  repeat' (first|(refine NK rfl rfl (fun h=>absurd rfl h) (fun _=>?_);conv=>whnf)|((first|refine hsp _ _ ?_|refine a2 _ _ ?_|refine b2 _ _ ?_|refine Hf rfl a3.1 a3.2 ?_|refine Hf rfl b3.1 b3.2 ?_|refine Ac ?_|refine Au ?_|refine ⟨rfl,?_⟩);conv=>whnf)|refine Aa ?_ ?_|refine Al ?_ ?_|(intro _;first|omega|conv=>whnf))
  exact ⟨hlt,trivial,Abs.tells (rs:=[0,1]) .a⟩
 ·conv=>whnf
  repeat' (first|refine Aa ?_ ?_|refine Ap ?_ ?_|(intro _;first|omega|conv=>whnf))
  exact .plain _ rfl
variable {y:DK}{a p:Int}{b:List Nat}
theorem Zf5 (hx:(CV y a b).ok) (h:BP y a b=0) (hp:0≤p):Cb (Ae (EW (CV y a b))) p=if p=a then Ah (Ah b) else Cb (Ae y) p:=by
 rw [← K7 (KP (Xn hx h).a) p,show Cb (Ae y) p=Ah (DJ y p) from (K7 (KP (show y.any from hx.d.a)) p).symm,Zgn hx h hp]
 show Ah (if p=a then Ah b else DJ y p)=_
 by_cases hq:p=a
 ·rw [Zpn hq,Zpn hq]
 ·rw [Zpr hq,Zpr hq]
def HN (D:List Dk) (l:List Act) (j:Nat) (p:Int):Nat->List Nat
 | 0=>Bm D p j
 | i+1=>match l[i]? with
  | none=>HN D l j p i
  | some (k,d,a,b)=>if d≠3∧k.toNat=j∧p=a then Ah (Ah b) else HN D l j p i
theorem VZ {ys:List DK}{l:List Act}(hY:E8 (ys.map Aq)) (hl:∀ x ∈ l,Ab x.2.2.1∧(∀ z ∈ x.2.2.2,z<256)∧DG (ys.map Ae) x) (hk:∀ x ∈ l,(x.2.1=1∨x.2.1=2∨x.2.1=3)∧Bd (ys.map Ae) x.1.toNat=false):∀ i,i≤l.length->AW (ys.map Aq) l i=0->(∀ j,Bd ((AB (ys.map Aq) l i).map Ae) j=Bd (ys.map Ae) j)∧∀ j p,0≤p->Bm ((AB (ys.map Aq) l i).map Ae) p j=HN (ys.map Ae) l j p i
 | 0,_,_=>by
  show (∀ j,Bd ((ys.map Aq).map Ae) j=_)∧∀ j p,0≤p->Bm ((ys.map Aq).map Ae) p j=Bm (ys.map Ae) p j
  rw [Zlt]
  exact ⟨fun _=>rfl,fun _ _ _=>rfl⟩
 | i+1,hi,he=>by
  have h0:AW (ys.map Aq) l i=0:=Classical.byContradiction fun h=>by
   have:=LW h (i+1) (by omega)
   rw [this] at he;exact h he
  obtain ⟨s1,s2⟩:=VZ hY hl hk i (by omega) h0
  obtain ⟨g1,g2,g3⟩:=Md hY hl i h0
  obtain ⟨x,hx⟩:∃ x,l[i]?=some x:=⟨_,Zpj hi⟩
  rw [Vq hx h0] at he
  rw [Zcz hx]
  obtain ⟨e1,e2⟩:=hk x (Zp5 hx)
  have hm:=(hl x (Zp5 hx)).2.2
  have hxa:=(hl x (Zp5 hx)).1
  have hxb:=(hl x (Zp5 hx)).2.1
  have heff:∀ j p,HN (ys.map Ae) l j p (i+1)=if x.2.1≠3∧x.1.toNat=j∧p=x.2.2.1 then Ah (Ah x.2.2.2) else HN (ys.map Ae) l j p i:=fun j p=>by
   show (match l[i]? with|none=>_|some (k,d,a,b)=>if d≠3∧k.toNat=j∧p=a then Ah (Ah b) else HN (ys.map Ae) l j p i)=_
   rw [hx]
  generalize AB (ys.map Aq) l i=Y at *
  obtain ⟨k,d,a,b⟩:=x
  dsimp only at e1 e2 heff
  unfold DG at hm
  obtain ⟨⟨m1,m2⟩,-,-,hms⟩:=hm
  rw [Zpq] at m2 g2
  have hkl:k.toNat<Y.length:=by omega
  obtain ⟨y,hy⟩:∃ y,Y[k.toNat]?=some y:=⟨_,Zpj hkl⟩
  have hd:y.dead=false:=by
   have:=s1 k.toNat
   rw [e2] at this
   unfold Bd at this
   rw [Zqi,hy] at this
   exact this
  have hgy:=g1 y (Zp5 hy)
  have hst:DP Y (k,d,a,b)=((C5 y (k,d,a,b)).1,Y.set k.toNat (C5 y (k,d,a,b)).2):=by
   unfold DP;dsimp only;rw [hy]
  rw [hst]
  dsimp only
  have hse:Bm (Y.map Ae)=fun p j=>Bm (Y.map Ae) p j:=rfl
  have hyk:∀ p,Bm (Y.map Ae) p k.toNat=Cb (Ae y) p:=fun p=>by unfold Bm;rw [Zqi,hy];rfl
  have hdk:Bd (Y.map Ae) k.toNat=y.dead:=by unfold Bd;rw [Zqi,hy];rfl
  rcases e1 with rfl|rfl|rfl
  ·have hz:(C5 y (k,1,a,b)).2=FP (CV y a b):=by unfold C5;dsimp only;rw [Zpr (by rw [hd];decide)];rfl
   rw [hz]
   refine ⟨fun j=>?_,fun j p hp=>?_⟩
   ·rw [Rt hkl,← s1]
    split
    ·rename_i h;subst h;rw [hdk];rfl
    ·rfl
   ·rw [R2 hkl,heff,Zj3,← s2 j p hp]
    by_cases h1:k.toNat=j
    ·subst h1
     rw [Zpn rfl,hyk]
     by_cases h2:p=a
     ·rw [Zpn h2,Zpn ⟨by decide,rfl,h2⟩]
     ·rw [Zpr h2,Zpr fun h=>h2 h.2.2]
    ·rw [Zpr h1,Zpr fun h=>h1 h.2.1]
  ·have hwe:BP y a b=0:=by
    rw [hst] at he
    have he:(C5 y (k,2,a,b)).1=0:=he
    unfold C5 at he;dsimp only at he;rw [Zpr (by rw [hd];decide)] at he;exact he
   have hxo:(CV y a b).ok:=So hgy.1 hxa hxb (hms (by decide)).2
   have hz:(C5 y (k,2,a,b)).2=EW (CV y a b):=by unfold C5;dsimp only;rw [Zpr (by rw [hd];decide)];rfl
   rw [hz]
   refine ⟨fun j=>?_,fun j p hp=>?_⟩
   ·rw [Rt hkl,← s1]
    split
    ·rename_i h;subst h;rw [hdk];rfl
    ·rfl
   ·rw [R2 hkl,heff,Zf5 hxo hwe hp,← s2 j p hp]
    by_cases h1:k.toNat=j
    ·subst h1
     rw [Zpn rfl,hyk]
     by_cases h2:p=a
     ·rw [Zpn h2,Zpn ⟨by decide,rfl,h2⟩]
     ·rw [Zpr h2,Zpr fun h=>h2 h.2.2]
    ·rw [Zpr h1,Zpr fun h=>h1 h.2.1]
  ·have hz:(C5 y (k,3,a,b)).2=D7 y:=by unfold C5;dsimp only;rw [Zpr (by rw [hd];decide)];rfl
   rw [hz]
   refine ⟨fun j=>?_,fun j p hp=>?_⟩
   ·rw [Rt hkl,← s1]
    split
    ·rename_i h;subst h;rw [hdk,hd];rfl
    ·rfl
   ·rw [heff,Zpr (fun h=>h.1 rfl),R2 hkl,Zjo hgy.1 hgy.2 hp,← s2 j p hp]
    split
    ·rename_i h;subst h;exact (hyk p).symm
    ·rfl
theorem Ym (hD:Ls dkC D v) (h:C3 d.1 D):Pp d D:=by
 intro s i hi
 have hl:=h.1
 have hil:i<D.length:=by omega
 obtain ⟨x,hx⟩:∃ x,D[i]?=some x:=⟨_,Zpj hil⟩
 obtain ⟨l,hr⟩:=hD.mem (Zp5 hx)
 have:=Oq hr (h.2 i hil x hx).2 s
 unfold Bm
 rw [hx]
 exact this
theorem SE {Y:List DK}(h:∀ y ∈ Y,y.ok) (hn:Y.length≤1000):Ls dkV Y (.fz Y.length none (Bb Y)):=by
 refine ⟨Y.map DK.c,?_,.inr (.inr ⟨none,?_,?_⟩),by omega⟩
 ·refine EB (by simp) fun i y l h1 h2=>?_
  rw [Zqi,h1] at h2
  cases h2
  exact ⟨rfl,h y (Zp5 h1)⟩
 ·rw [← List.flatMap_def];rfl
 ·rw [← List.flatMap_def];exact OG Y
theorem M3 (h:y.ok):BG (Ae y):=by
 refine ⟨?_,?_,h.b,fun w hw=>?_⟩
 ·show y.bs.length<_;rw [← h.a.bs.length];exact h.n
 ·show (List.map _ y.ws).length<_;rw [Zpq];exact h.m
 ·obtain ⟨x,hx,rfl⟩:=Zqj.1 hw
  exact h.w x hx
variable {c:Cfg}{ys:List DK}{A:List Act}
theorem R3 (hM:c.may) (h20:C3 c (ys.map Ae)) (hok:∀ y ∈ ys,y.ok) (hn:A.length≤1024) (hmy:∀ x ∈ A,DG (ys.map Ae) x) (hb:∀ x ∈ A,Ab x.2.2.1∧∀ z ∈ x.2.2.2,z<256) (hk:∀ x ∈ A,(x.2.1=1∨x.2.1=2∨x.2.1=3)∧Bd (ys.map Ae) x.1.toNat=false):
 CG A (ys.map Ae)=0∧∀ n,n=A.length->(AW (ys.map Aq) A n=0∨AW (ys.map Aq) A n=9)∧(AW (ys.map Aq) A n=0->E8 (AB (ys.map Aq) A n)∧(AB (ys.map Aq) A n).length=ys.length∧C3 c ((AB (ys.map Aq) A n).map Ae)∧(∀ j,Bd ((AB (ys.map Aq) A n).map Ae) j=Bd (ys.map Ae) j)∧∀ j p,0≤p->Bm ((AB (ys.map Aq) A n).map Ae) p j=HN (ys.map Ae) A j p n):=by
 have hM':=hM
 unfold Cfg.may at hM'
 have h20l:=h20.1
 have hch:CG A (ys.map Ae)=0:=by
  unfold CG
  rw [Zpn ⟨by omega,fun x hx=>by
   obtain ⟨i,hi⟩:=Zra hx
   exact (h20.2 i (Zpk.1 hi).1 x hi).2⟩,Zpr (by omega),Zpn hmy]
 refine ⟨hch,?_⟩
 rintro n rfl
 obtain ⟨-,hgd,-⟩:=YC hok hch
 have hg0:E8 (ys.map Aq):=fun y hy=>by
  obtain ⟨x,hx,rfl⟩:=Zqj.1 hy
  exact ⟨Sk (hgd x hx).1,WH (hgd x hx).2⟩
 have hl:∀ x ∈ A,Ab x.2.2.1∧(∀ z ∈ x.2.2.2,z<256)∧DG (ys.map Ae) x:=fun x hx=>⟨(hb x hx).1,(hb x hx).2,hmy x hx⟩
 refine ⟨WP hg0 hl _ (Zp4 _),fun he=>?_⟩
 obtain ⟨g1,g2,g3⟩:=Md hg0 hl _ he
 obtain ⟨s1,s2⟩:=VZ hg0 hl hk _ (Zp4 _) he
 generalize AB (ys.map Aq) A A.length=Y at *
 rw [Zpq] at g2 h20l
 refine ⟨g1,g2,⟨by rw [Zpq,g2];exact h20l,fun i hi x hx=>?_⟩,s1,s2⟩
 rw [Zpq] at hi
 rw [Zqi] at hx
 obtain ⟨y,hy⟩:∃ y,Y[i]?=some y:=⟨_,Zpj hi⟩
 rw [hy] at hx
 cases hx
 have hgy:=g1 y (Zp5 hy)
 obtain ⟨z,hz,hz2⟩:=g3 i y hy
 have hil:i<ys.length:=by omega
 rw [Zqi,Zpj hil] at hz
 cases hz
 have h1:=(h20.2 i (by rw [Zpq];exact hil) (Ae ys[i]) (by rw [Zqi,Zpj hil];rfl)).1
 have e1:(Ae y).1.length=y.us.length:=hgy.1.a.bs.length.symm
 have e2:(Ae ys[i]).1.length=ys[i].us.length:=(hok _ (Zqk hil)).a.bs.length.symm
 have e3:(Aq ys[i]).us.length=ys[i].us.length:=Zpq ..
 refine ⟨?_,by rw [← KO (KP hgy.1.a)];exact hgy.2⟩
 rw [e1,hz2,e3,← e2]
 exact h1
theorem Wa (h:CG A (ys.map Ae)=0):Fk ys A (A.length:Nat)=if AW (ys.map Aq) A A.length=0 then .tup [.fz ys.length none (Bb (AB (ys.map Aq) A A.length)),.int .i64 0] else .tup [.nils,.int .i64 (AW (ys.map Aq) A A.length)]:=by
 unfold Fk
 rw [Zpn h,Zpn ⟨by omega,by omega⟩,Int.toNat_natCast,List.take_length]
theorem QG (hT:Cv d D) (hsp:d.2.2.1.2.2.1=true):∀ i<d.1.members.toNat,Bd D i=false:=fun i hi=>by
 obtain ⟨hm,hm20,hbr,hal,htd⟩:=hT
 cases hx:D[i]? with
 | none=>unfold Bd;rw [hx];rfl
 | some x=>
  unfold Bd
  rw [hx]
  show x.2.2=false
  cases hxd:x.2.2 with
  | false=>rfl
  | true=>have:=(hal i (by omega) x hx hxd).2;rw [hsp] at this;cases this
theorem Hg (h:ET d):d.1.may∧Br d.1 d.2.2.1∧Cg d.1 d.2.2.2.1:=by
 obtain ⟨c,bk,⟨ev,lo,sp,po,dn,nl,br⟩,hs,⟨ag,sq,tl,us,L⟩,fs,nx,so⟩:=d
 unfold ET GM at h
 exact ⟨h.1.1,h.1.2.1,h.1.2.2.1⟩
def ES (d:Dv) (D:List Dk):List Act:=[(d.2.2.1.2.1,1,d.2.2.1.2.2.2.1+1,GN d D)]
theorem Zc9 (hok:∀ y ∈ ys,y.ok) (hT:Cv d (ys.map Ae)) (h8:Pp d (ys.map Ae)) (hsp:d.2.2.1.2.2.1=true) (hpo:d.2.2.1.2.2.2.1<At d.1) (hb:Ab d.2.2.1.2.1):
 Ls actC (ES d (ys.map Ae)) (.fz 1 none (Nq d (ys.map Ae)))∧CG (ES d (ys.map Ae)) (ys.map Ae)=0∧∀ n,n=(ES d (ys.map Ae)).length->(AW (ys.map Aq) (ES d (ys.map Ae)) n=0∨AW (ys.map Aq) (ES d (ys.map Ae)) n=9)∧(AW (ys.map Aq) (ES d (ys.map Ae)) n=0->E8 (AB (ys.map Aq) (ES d (ys.map Ae)) n)∧(AB (ys.map Aq) (ES d (ys.map Ae)) n).length=ys.length∧Cv (Bu d (E7 d.2.2.1)) ((AB (ys.map Aq) (ES d (ys.map Ae)) n).map Ae)∧∀ s:Int,0≤s->s<At d.1->∀ k:Nat,B0 (Bu d (E7 d.2.2.1)) ((AB (ys.map Aq) (ES d (ys.map Ae)) n).map Ae) s k=B0 d (ys.map Ae) s k):=by
 obtain ⟨hM,hL,hsh⟩:=Hg hT.1
 have hal:=QG hT hsp
 have h20:=hT.2.1
 have hM':=hM
 unfold Cfg.may at hM'
 have hmm:=BC hM
 have hL':0≤d.2.2.1.2.1∧d.2.2.1.2.1<d.1.members∧0≤d.2.2.1.2.2.2.1:=by
  obtain ⟨c,bk,⟨ev,lo,sp,po,dn,nl,br⟩,R⟩:=d
  dsimp only at hsp hL ⊢
  unfold Br at hL
  have:=hL.2.2.2.1 hsp
  exact ⟨this.1,hL.2.2.1,by omega⟩
 have hX:(GN d (ys.map Ae)).length=128∧∀ z ∈ GN d (ys.map Ae),z<256:=by
  unfold GN
  refine Jy fun b hb=>?_
  obtain ⟨j,hj,-,rfl⟩:=R8 hb
  exact h8 _ j hj
 unfold At at hmm
 have h20l:=h20.1
 obtain ⟨k1,k2⟩:=R3 (A:=ES d (ys.map Ae)) hM h20 hok (by simp [ES]) (fun x hx=>by
  rw [List.mem_singleton.1 hx]
  refine ⟨⟨hL'.1,by omega⟩,by decide,fun h=>absurd h (by decide),fun _=>⟨⟨by omega,fun x hx=>?_⟩,.inr hX.1⟩⟩
  have hi:=(Zpk.1 hx).1
  have:=(h20.2 _ hi x hx).1
  rw [Zpr (by omega)] at this
  omega) (fun x hx=>by
  rw [List.mem_singleton.1 hx]
  refine ⟨?_,hX.2⟩
  unfold Ab;dsimp only;unfold At at hpo;omega) (fun x hx=>by
  rw [List.mem_singleton.1 hx]
  exact ⟨.inl rfl,hal _ (by dsimp only;omega)⟩)
 refine ⟨?_,k1,fun n hn=>⟨(k2 n hn).1,fun he=>?_⟩⟩
 ·refine ⟨[Nq d (ys.map Ae)],.cons (SK hb (by decide) (by unfold Ab;unfold At at hpo;omega) (Pg hX.1 hX.2)) .nil,.inr (.inr ⟨none,?_,rfl⟩),by simp [ES]⟩
  rw [List.flatten_singleton];rfl
 ·obtain ⟨g1,g2,g3,g4,g5⟩:=(k2 n hn).2 he
  refine ⟨g1,g2,Zco hM hT hsp hpo g3 (fun i hi=>by rw [g4];exact hal i hi) fun s hs i hi=>?_⟩
  rw [g5 i (s+1) (by omega),hn]
  show (if (1:Nat)≠3∧d.2.2.1.2.1.toNat=i∧s+1=d.2.2.1.2.2.2.1+1 then Ah (Ah (GN d (ys.map Ae))) else Bm (ys.map Ae) (s+1) i)=_
  by_cases h:s=d.2.2.1.2.2.2.1∧i=d.2.2.1.2.1.toNat
  ·rw [Zpn ⟨by decide,h.2.symm,by omega⟩,Zpn h,WY hX.1,WY hX.1]
   unfold GN
   rw [h.1,h.2]
  ·rw [Zpr fun q=>h ⟨by omega,q.2.1.symm⟩,Zpr h]
def D4 (d:Dv):List Act:=(d.2.2.1.2.1,3,0,[])::(List.range d.1.members.toNat).map fun (i:Nat)=>((i:Int),2,0,GU d.1 (Bx d.1 d.2.2.1) true i)
theorem RR {D:List Dk}{A:List Act}{j:Nat}{p:Int}(h:∀ x ∈ A,x.2.1=3∨x.2.2.1≠p):∀ n,HN D A j p n=Bm D p j
 | 0=>rfl
 | n+1=>by
  unfold HN
  cases hx:A[n]? with
  | none=>exact RR h n
  | some x=>
   obtain ⟨k,d,a,b⟩:=x
   dsimp only
   rw [Zpr,RR h n]
   rintro ⟨h1,-,h3⟩
   rcases h _ (Zp5 hx) with h'|h'
   ·exact h1 h'
   ·exact h' h3.symm
theorem Zoo (h:b.length=128∧∀ x ∈ b,x<256):Ls Ce.u8 b (.fz 128 (some 128) (Ad b)):=by
 refine BAt.ls ⟨.inr (.inr ⟨some 128,by rw [h.1],?_⟩),h.2⟩ (by omega)
 unfold Ad;rw [Zpq];omega
theorem Zc8 (hok:∀ y ∈ ys,y.ok) (hT:Cv d (ys.map Ae)) (hsp:d.2.2.1.2.2.1=true) (hdp:d.2.2.1.2.2.2.2.1<d.2.2.1.2.2.2.1) (hev:d.2.2.1.1≠2147483648) (hb:Ab d.2.2.1.2.1):
 Ls actC (D4 d) (.fz (1+d.1.members.toNat) none (Nn d))∧CG (D4 d) (ys.map Ae)=0∧∀ n,n=(D4 d).length->(AW (ys.map Aq) (D4 d) n=0∨AW (ys.map Aq) (D4 d) n=9)∧(AW (ys.map Aq) (D4 d) n=0->E8 (AB (ys.map Aq) (D4 d) n)∧(AB (ys.map Aq) (D4 d) n).length=ys.length∧Cv (Bu d (D8 (Bx d.1 d.2.2.1))) ((AB (ys.map Aq) (D4 d) n).map Ae)∧∀ s:Int,0≤s->s<At d.1->∀ k:Nat,B0 (Bu d (D8 (Bx d.1 d.2.2.1))) ((AB (ys.map Aq) (D4 d) n).map Ae) s k=B0 d (ys.map Ae) s k):=by
 obtain ⟨hM,hL,hsh⟩:=Hg hT.1
 have hal:=QG hT hsp
 have h20:=hT.2.1
 have hM':=hM
 unfold Cfg.may at hM'
 have hL':0≤d.2.2.1.2.1∧d.2.2.1.2.1<d.1.members:=by
  obtain ⟨c,bk,⟨ev,lo,sp,po,dn,nl,br⟩,R⟩:=d
  dsimp only at hsp hL ⊢
  unfold Br at hL
  have:=hL.2.2.2.1 hsp
  exact ⟨this.1,hL.2.2.1⟩
 obtain ⟨k1,k2,k3,k4,k5⟩:=OZ hM hL hsp hdp
 obtain ⟨m1,m2,m3,-⟩:=Xe hM hL hsp hdp (by rw [k3];exact hev)
 have h20l:=h20.1
 have hX:∀ i,(GU d.1 (Bx d.1 d.2.2.1) true i).length=128∧∀ z ∈ GU d.1 (Bx d.1 d.2.2.1) true i,z<256:=fun i=>XM _
 have hmem:∀ x ∈ D4 d,x=(d.2.2.1.2.1,3,0,[])∨∃ (i:Nat) (b:List Nat),i<d.1.members.toNat∧(b.length=128∧∀ z ∈ b,z<256)∧x=((i:Int),2,0,b):=fun x hx=>by
  rcases Zqt.1 hx with h|hx
  ·exact .inl h
  ·obtain ⟨i,hi,h⟩:=Zqj.1 hx
   exact .inr ⟨i,_,List.mem_range.1 hi,hX i,h.symm⟩
 obtain ⟨r1,r2⟩:=R3 (A:=D4 d) hM h20 hok (by simp [D4];omega) (fun x hx=>by
  rcases hmem x hx with rfl|⟨i,b,hi,hX,rfl⟩
  ·exact ⟨⟨hL'.1,by omega⟩,by decide,fun _=>⟨rfl,rfl⟩,fun h=>absurd rfl h⟩
  ·refine ⟨⟨Zq2 _,by omega⟩,by show 1≤2∧2≤3;decide,fun h=>absurd h (by show (2:Nat)≠3;decide),fun _=>⟨⟨Int.le_refl 0,fun x hx=>?_⟩,.inr hX.1⟩⟩
   have hi2:=(Zpk.1 hx).1
   have:=(h20.2 _ hi2 x hx).2
   obtain ⟨bs,ws,dd⟩:=x
   have:=this.1.1
   show (0:Int)<bs.length
   omega) (fun x hx=>by
  rcases hmem x hx with rfl|⟨i,b,hi,hX,rfl⟩
  ·exact ⟨by show Ab 0;unfold Ab;omega,fun z hz=>by cases hz⟩
  ·exact ⟨by show Ab 0;unfold Ab;omega,hX.2⟩) (fun x hx=>by
  rcases hmem x hx with rfl|⟨i,b,hi,hX,rfl⟩
  ·exact ⟨.inr (.inr rfl),hal _ (by dsimp only;omega)⟩
  ·exact ⟨.inr (.inl rfl),hal _ (by dsimp only;omega)⟩)
 refine ⟨?_,r1,fun n hn=>⟨(r2 n hn).1,fun he=>?_⟩⟩
 ·have ha:All2 actC.r (D4 d) ([.int .i64 d.2.2.1.2.1,.int .u8 3,.int .i64 0,.nils]::(List.range d.1.members.toNat).map fun (i:Nat)=>[AV.int .i64 (i:Int),.int .u8 2,.int .i64 0,.fz 128 (some 128) (Ad (GU d.1 (Bx d.1 d.2.2.1) true i))]):=by
   refine .cons (SK hb (by decide) (by unfold Ab;omega) (Ee (.inl rfl))) (All2.maps fun i hi=>?_)
   have:=List.mem_range.1 hi
   exact SK (by unfold Ab;omega) (by decide) (by unfold Ab;omega) (Zoo (hX i))
  refine ⟨_,ha,.inr (.inr ⟨none,?_,FW ha⟩),by simp [D4];omega⟩
  rw [show (D4 d).length=1+d.1.members.toNat by simp [D4];omega,List.flatten_cons]
  unfold Nn EV
  rw [List.flatMap_def]
 ·obtain ⟨g1,g2,g3,g4,g5⟩:=(r2 n hn).2 he
  refine ⟨g1,g2,Zcp hM hT hsp g3 (fun i hi=>by rw [g4];exact hal i hi) (fun s hs i hi=>?_) m1 m2 m3⟩
  rw [g5 i (s+1) (by omega)]
  refine RR (fun x hx=>?_) n
  rcases hmem x hx with rfl|⟨i,b,hi,hX,rfl⟩
  ·exact .inl rfl
  ·exact .inr (by dsimp only;omega)
variable {k:Int}
theorem mem_dAdd {l:List Int}:a ∈ Dt k l↔a ∈ l∨a=k:=by
 unfold Dt
 split
 ·rename_i h
  constructor
  ·exact .inl
  ·rintro (h'|rfl)
   ·exact h'
   ·exact h
 ·simp
theorem Zbx {l:List Int}(h:l.Nodup):(Dt k l).Nodup:=by
 unfold Dt
 split
 ·exact h
 ·rename_i hk
  rw [List.nodup_append]
  exact ⟨h,by simp,by rintro a ha b hb rfl;simp at hb;subst hb;exact hk ha⟩
theorem Zhr {p:List Lv->Prop}(h0:p []) (h1:∀ L x,p L->p (L++[x])):∀ L,p L:=by
 intro L
 have:∀ (n:Nat) (L:List Lv),L.length=n->p L:=by
  intro n
  induction n with
  | zero=>intro L hL;rw [Zqh.1 hL];exact h0
  | succ n ih=>
   intro L hL
   rcases List.eq_nil_or_concat L with rfl|⟨M,x,rfl⟩
   ·exact h0
   ·rw [List.concat_eq_append];exact h1 M x (ih M (by simpa using hL))
 exact this L.length L rfl
theorem Vz {L:List Lv}{x:Lv}{s:Int}:∀ n,n≤L.length->AK (L++[x]) s n=AK L s n
 | 0,_=>rfl
 | n+1,h=>by
  unfold AK
  rw [Vz n (by omega),Zp3 (by omega)]
variable {L:List Lv}{s:Int}
theorem QP {x:Lv}:AK (L++[x]) s (L++[x]).length=if x.stripe=s then (L.length:Int) else AK L s L.length:=by
 rw [Zpx]
 show AK (L++[x]) s (L.length+1)=_
 rw [show AK (L++[x]) s (L.length+1)=if (L++[x])[L.length]?.map Lv.stripe=some s then (L.length:Int) else AK (L++[x]) s L.length from rfl,Zqe (Zp4 _),Nat.sub_self,Vz _ (Zp4 _)]
 show (if some x.stripe=some s then _ else _)=_
 by_cases h:x.stripe=s
 ·rw [Zpn h,Zpn (by rw [h])]
 ·rw [Zpr h,Zpr fun g=>h (Zqr g)]
def JE (L:List Lv) (s:Int):Prop:=∃ i x,L[i]?=some x∧AK L x.stripe L.length=(i:Nat)∧x.par=false∧x.stripe=s
theorem Vb {x:Lv}:JE (L++[x]) s↔if x.stripe=s then x.par=false else JE L s:=by
 unfold JE
 constructor
 ·rintro ⟨i,y,h1,h2,h3,h4⟩
  rw [QP] at h2
  split
  ·rename_i hs
   rw [h4,Zpn hs] at h2
   have:L.length=i:=by omega
   subst this
   rw [Zqe (Zp4 _),Nat.sub_self] at h1
   cases h1
   exact h3
  ·rename_i hs
   rw [h4,Zpr hs] at h2
   have hlt:=(Is L s L.length).2
   rw [Zp3 (by omega)] at h1
   exact ⟨i,y,h1,by rw [h4];exact h2,h3,h4⟩
 ·intro h
  split at h
  ·rename_i hs
   exact ⟨L.length,x,by rw [Zqe (Zp4 _),Nat.sub_self];rfl,by rw [QP,Zpn rfl],h,hs⟩
  ·rename_i hs
   obtain ⟨i,y,h1,h2,h3,h4⟩:=h
   exact ⟨i,y,by rw [Zp3 (Zpk.1 h1).1];exact h1,by rw [QP,h4,Zpr hs,← h4];exact h2,h3,h4⟩
theorem Zam (L:List Lv) (x:Lv):CI (L++[x])=IL (CI L) x:=by unfold CI;rw [List.foldl_append];rfl
theorem Zal (L:List Lv):(CI L).Nodup∧∀ s,s ∈ CI L↔JE L s:=by
 refine Zhr (p:=fun L=>(CI L).Nodup∧∀ s,s ∈ CI L↔JE L s) ?_ ?_ L
 ·exact ⟨by simp [CI],fun s=>by simp [CI,JE]⟩
 ·rintro L x ⟨hn,hm⟩
  rw [Zam]
  unfold IL
  have hn':=Zbx (k:=x.stripe) hn
  by_cases hp:x.par=true
  ·rw [Zpn hp]
   refine ⟨hn'.erase _,fun s=>?_⟩
   rw [Vb,hn'.mem_erase_iff,mem_dAdd,hm,hp]
   by_cases hs:x.stripe=s
   ·rw [Zpn hs];simp [hs]
   ·rw [Zpr hs]
    constructor
    ·rintro ⟨h1,h2|h2⟩
     ·exact h2
     ·exact absurd h2.symm hs
    ·intro h;exact ⟨fun h'=>hs h'.symm,.inl h⟩
  ·rw [Zpr hp]
   refine ⟨hn',fun s=>?_⟩
   rw [Vb,mem_dAdd,hm]
   by_cases hs:x.stripe=s
   ·rw [Zpn hs]
    simp at hp
    exact ⟨fun _=>hp,fun _=>.inr hs.symm⟩
   ·rw [Zpr hs]
    exact ⟨fun h=>h.resolve_right fun g=>hs g.symm,.inl⟩
def IG (L:List Lv):Nat->List Int
 | 0=>[]
 | i+1=>IG L i++(match L[i]? with
  | some x=>if AK L x.stripe L.length=i∧x.par=false then [x.stripe] else []
  | none=>[])
theorem Vw (L:List Lv):∀ n,((IG L n).length:Int)=Dz L n
 | 0=>rfl
 | n+1=>by
  unfold IG Dz
  rw [Zpx,← Vw L n]
  cases L[n]? with
  | none=>simp
  | some x=>
   show (((IG L n).length+(if AK L x.stripe L.length=n∧x.par=false then [x.stripe] else ([]:List Int)).length:Nat):Int)=_+JA L n x
   unfold JA
   split <;> simp
theorem manyL_mem {L:List Lv}{s:Int}:∀ {n},s ∈ IG L n↔∃ i x,i<n∧L[i]?=some x∧AK L x.stripe L.length=(i:Nat)∧x.par=false∧x.stripe=s
 | 0=>⟨fun h=>(by cases h),fun ⟨i,x,h,_⟩=>absurd h (Nat.not_lt_zero _)⟩
 | n+1=>by
  unfold IG
  rw [Zqb,manyL_mem]
  constructor
  ·rintro (⟨i,x,h,h'⟩|h)
   ·exact ⟨i,x,by omega,h'⟩
   ·cases hx:L[n]? with
    | none=>rw [hx] at h;cases h
    | some x=>
     rw [hx] at h
     dsimp only at h
     split at h
     ·rename_i hq
      rw [List.mem_singleton] at h
      exact ⟨n,x,by omega,hx,hq.1,hq.2,h.symm⟩
     ·cases h
  ·rintro ⟨i,x,h1,h2,h3,h4,h5⟩
   by_cases hi:i<n
   ·exact .inl ⟨i,x,hi,h2,h3,h4,h5⟩
   ·obtain rfl:i=n:=by omega
    right
    rw [h2]
    dsimp only
    rw [Zpn ⟨h3,h4⟩,h5]
    exact List.mem_singleton.2 rfl
theorem UH (L:List Lv):∀ n,(IG L n).Nodup
 | 0=>List.nodup_nil
 | n+1=>by
  unfold IG
  rw [List.nodup_append]
  refine ⟨UH L n,?_,?_⟩
  ·cases L[n]? with
   | none=>exact List.nodup_nil
   | some x=>dsimp only;split <;> simp
  ·rintro a ha b hb rfl
   obtain ⟨i,y,h1,h2,h3,h4,h5⟩:=manyL_mem.1 ha
   cases hx:L[n]? with
   | none=>rw [hx] at hb;cases hb
   | some x=>
    rw [hx] at hb
    dsimp only at hb
    split at hb
    ·rename_i hq
     rw [List.mem_singleton] at hb
     rw [h5,hb] at h3
     have:=hq.1
     omega
    ·cases hb
theorem Zbw (L:List Lv):((CI L).length:Int)=Dz L L.length:=by
 rw [← Vw]
 obtain ⟨h1,h2⟩:=Zal L
 have:=((List.perm_ext_iff_of_nodup h1 (UH L L.length)).2 fun s=>by
  rw [h2,manyL_mem]
  unfold JE
  constructor
  ·rintro ⟨i,x,h,h'⟩;exact ⟨i,x,(Zpk.1 h).1,h,h'⟩
  ·rintro ⟨i,x,_,h⟩;exact ⟨i,x,h⟩).length_eq
 rw [this]
theorem UW {L:List Lv}(hh:∀ (k:Nat) (x:Lv),L[k]?=some x->x.home=true->Pr L k):∀ i,i≤L.length->∀ tk:List Int,(∀ j y,i≤j->L[j]?=some y->y.home=true->y.par=true->y.stripe ∈ tk)->IA (L.take i).reverse tk=true
 | 0,_,_,_=>rfl
 | i+1,hi,tk,ht=>by
  obtain ⟨x,hx⟩:∃ x,L[i]?=some x:=⟨_,Zpj hi⟩
  have e:(L.take (i+1)).reverse=x::(L.take i).reverse:=by rw [List.take_add_one,hx];simp
  rw [e]
  have hm:∀ s,s ∈ tk->s ∈ E2 tk x:=fun s hs=>by unfold E2;split;exact mem_dAdd.2 (.inl hs);exact hs
  have hs:x.home=true->x.par=true->x.stripe ∈ E2 tk x:=fun h1 h2=>by unfold E2;rw [h1,h2];exact mem_dAdd.2 (.inr rfl)
  have hb:GR tk x=false:=by
   unfold GR
   cases hxh:x.home with
   | false=>rfl
   | true=>
    obtain ⟨h1,j,y,h2,h3,h4,h5,h6⟩:=hh i x hx hxh x hx
    have:x.stripe ∈ E2 tk x:=by
     by_cases hj:i=j
     ·subst hj
      rw [hx] at h3
      cases h3
      exact hs h5 h6
     ·rw [← h4]
      exact hm _ (ht j y (by omega) h3 h5 h6)
    rw [h1,Zpo this];rfl
  show (!GR tk x && IA (L.take i).reverse (E2 tk x))=true
  rw [hb,UW hh i (by omega) (E2 tk x) fun j y h1 h2 h3 h4=>by
   by_cases hj:i=j
   ·subst hj
    rw [hx] at h2
    cases h2
    exact hs h3 h4
   ·exact hm _ (ht j y (by omega) h2 h3 h4)]
  rfl
def Po (L:List Lv):Nat->Bool
 | 0=>true
 | i+1=>(L[i]?.map Lv.sure).getD true
theorem UE {c:Cfg}{ag sq tl us:Int}{L:List Lv}(hn:sq≤2147483648) (he:∀ i y,L[i]?=some y->eP c L sq i y):∀ k i,i+k=L.length->∀ u:Int,EI ⟨⟨ag,sq,tl,us,L⟩,c⟩ i u (Po L i) (L.drop i)=some (u+Cd L L.length-Cd L i)
 | 0,i,hi,u=>by
  obtain rfl:i=L.length:=by omega
  rw [List.drop_length]
  show some u=_
  congr 1;omega
 | k+1,i,hi,u=>by
  have hlt:i<L.length:=by omega
  obtain ⟨x,hx⟩:∃ x,L[i]?=some x:=⟨_,Zpj hlt⟩
  have hd:L.drop i=x::L.drop (i+1):=by
   rw [Zp6 hlt,(Zpk.1 hx).2]
  rw [hd]
  obtain ⟨h1,h2,h3,h4,h5,h6,h7⟩:=he i x hx
  have hb:¬Gf ⟨⟨ag,sq,tl,us,L⟩,c⟩ i (Po L i) x:=by
   unfold Gf
   dsimp only
   unfold At at h1
   rintro (h|h|h|h|h|h|⟨h,h'⟩)
   ·omega
   ·omega
   ·omega
   ·omega
   ·omega
   ·omega
   ·cases i with
    | zero=>cases h'
    | succ i=>
     obtain ⟨y,hy⟩:∃ y,L[i]?=some y:=⟨_,Zpj (by omega)⟩
     have:=h6 (by omega) h y hy
     have h':(L[i]?.map Lv.sure).getD true=false:=h'
     rw [hy] at h'
     have h':y.sure=false:=h'
     rw [this] at h';cases h'
  show (if Gf _ i _ x then none else EI _ (i+1) (u+x.blocks) x.sure (L.drop (i+1)))=_
  rw [Zpr hb]
  have ih:=UE (ag:=ag) (tl:=tl) (us:=us) hn he k (i+1) (by omega) (u+x.blocks)
  rw [show x.sure=Po L (i+1) by show _=(L[i]?.map Lv.sure).getD true;rw [hx];rfl,ih]
  congr 1
  have:Cd L (i+1)=Cd L i+x.blocks:=by
   show Cd L i+((L[i]?.map Lv.blocks).getD 0)=_
   rw [hx];rfl
  omega
theorem Zir {lg:Lg}(hM:c.may) (h:LD c lg):N7 c lg:=by
 obtain ⟨ag,sq,tl,us,L⟩:=lg
 unfold LD at h
 obtain ⟨⟨a1,a2,a3,a4,a5,a6,a7⟩,he,rfl,hr⟩:=h
 unfold ML at hr
 have hm:=Ox L L.length
 have hM':=hM
 unfold Cfg.may at hM'
 have hu:=Oo (Wq hM a7 he) L.length
 have hmm:0≤(c.members+1)*Dz L L.length:=Int.mul_nonneg (by omega) hm.1
 refine ⟨hM,?_⟩
 unfold EJ
 have h1:Gk ⟨⟨ag,sq,tl,Cd L L.length,L⟩,c⟩:=by
  unfold Gk Gp
  simp only [Zqg]
  omega
 have h2:EI ⟨⟨ag,sq,tl,Cd L L.length,L⟩,c⟩ 0 0 true L=some (Cd L L.length):=by
  have:=UE (ag:=ag) (tl:=tl) (us:=Cd L L.length) a4 he L.length 0 (by omega) 0
  rw [List.drop_zero] at this
  rw [show (true:Bool)=Po L 0 from rfl,this]
  congr 1
  show 0+Cd L L.length-0=_
  omega
 have h3:(L.length:Int)<sq:=by
  cases L with
  | nil=>exact a3
  | cons x L=>
   have:=(he 0 x rfl)
   unfold eP at this
   omega
 have h4:Ez L=true:=by
  have:=UW (L:=L) (fun k x hx hh=>(he k x hx).2.2.2.2.2.2 hh) L.length (Zp4 _) [] fun j y h1 h2=>by
   have:=(Zpk.1 h2).1;omega
  rw [List.take_length] at this
  exact this
 have h5:F7 ⟨⟨ag,sq,tl,Cd L L.length,L⟩,c⟩=true:=by
  unfold F7
  dsimp only
  rw [Zbw,i64_in (by omega)]
  simp only [Zpl,Zqg]
  omega
 dsimp only
 rw [h2,Zpo h1,h4,h5]
 simp only [Zqg,Bool.true_and,Bool.and_true,Zpl]
 exact ⟨trivial,h3⟩
theorem XQ {fs:List Fl}{nx:Int}(h:EX c fs) (hn:∀ f,fs[fs.length-1]?=some f->f.1<nx):∀ k i,i+k+1=fs.length->∀ f,fs[i]?=some f->f.1<nx
 | 0,i,hi,f,hf=>hn f (by rw [show fs.length-1=i by omega];exact hf)
 | k+1,i,hi,f,hf=>by
  obtain ⟨g,hg⟩:∃ g,fs[i+1]?=some g:=⟨_,Zpj (by omega)⟩
  have h1:=XQ h hn k (i+1) (by omega) g hg
  have h2:=((h.2 (i+1) (by omega) g hg).2.1 (by omega) f hf)
  omega
theorem Xd (h:ET d):IU d:=by
 obtain ⟨c,bk,⟨ev,lo,sp,po,dn,nl,br⟩,hs,⟨ag,sq,tl,us,L⟩,fs,nx,so⟩:=d
 unfold ET GM at h
 obtain ⟨⟨h1,h2,h3,h4,h5,h6,h7⟩,h8,h9,h10,h11,h12⟩:=h
 unfold IU JN
 refine ⟨⟨h1,h2,h3,Zir h1 h4,h5,⟨h6,h7⟩,?_⟩,h9,h10,h11,h12⟩
 rintro ⟨f,hf,hx⟩
 obtain ⟨i,hi⟩:=Zra hf
 have hl:=(Zpk.1 hi).1
 have:=XQ h5 h8 (fs.length-1-i) i (by omega) f hi
 omega
theorem Znf (hg:Pd d D) (hsh:Cg d.1 d.2.2.2.1) (hM:d.1.may):Kf d:=by
 have hM':=hM
 unfold Cfg.may at hM'
 refine ⟨⟨by have:=hsh.2;omega,fun x hx=>?_⟩,by have:=hg.2.1;omega,by have:=hg.2.2.1.1;omega,fun x hx=>?_⟩
 ·obtain ⟨i,hi⟩:=Zra hx
  obtain ⟨st,bl,di,ph,de,sq⟩:=x
  obtain ⟨h1,h2,h3,h4,h5,-⟩:=(hsh.1 i (Zpk.1 hi).1 _ hi).1
  refine ⟨by dsimp only;omega,fun b hb=>?_,by dsimp only;omega⟩
  obtain ⟨k,hk⟩:=Zra hb
  have:=(h5 k (Zpk.1 hk).1 b hk).1
  unfold BM at this;omega
 ·obtain ⟨i,hi⟩:=Zra hx
  have:=hg.2.2.1.2 i (Zpk.1 hi).1 x hi
  obtain ⟨n,⟨k,a,m,d⟩,st,sq,da⟩:=x
  unfold IJ at this
  refine ⟨by dsimp only;omega,by dsimp only;omega,by dsimp only;omega,by dsimp only;omega,fun b hb=>?_⟩
  obtain ⟨k,hk⟩:=Zra hb
  have:=this.2.2.2.2 k (Zpk.1 hk).1 b hk
  omega
def S3 (d:Dv) (kd s:Int):Prop:=(kd=8∧s=d.2.2.1.2.2.2.1∧EN d)∨(kd=9∧s=0∧HF d)
def Zop (d:Dv) (ys:List DK) (kd s:Int) (o:Lo) (A:List Act):Prop:=
 CG A (ys.map Ae)=0∧(∃ m,misF.out (d.1,o,s,())=.tup [.int .i64 m,.int .i64 0]∧(kd=8∧m=-1∨kd=9))∧(AW (ys.map Aq) A A.length=0∨AW (ys.map Aq) A A.length=9)∧(AW (ys.map Aq) A A.length=0->E8 (AB (ys.map Aq) A A.length)∧(AB (ys.map Aq) A A.length).length=ys.length∧Cv (Bu d o) ((AB (ys.map Aq) A A.length).map Ae)∧∀ s:Int,0≤s->s<At d.1->∀ k:Nat,B0 (Bu d o) ((AB (ys.map Aq) A A.length).map Ae) s k=B0 d (ys.map Ae) s k)
def GT (d:Dv) (kd:Int):Lo:=if kd=8 then E7 d.2.2.1 else D8 (Bx d.1 d.2.2.1)
def Ft (d:Dv) (D:List Dk) (kd:Int):List Act:=if kd=8 then ES d D else D4 d
variable {kd:Int}
theorem Xv (h10:Con e 10 (Ao Kg)) (hd:dvC.r d l) (hY:Ls dkV ys v) (hg:Kf d) (hsm:∀ x ∈ ys.map Ae,BG x) (hT:Cv d (ys.map Ae)) (hsp:d.2.2.1.2.2.1=true) (hln:d.2.2.2.2.1.2.2.2.2.length≤1000) (hst:S3 d kd s):
 ∃ u,(∀ (Q:AV->St->Prop) st,Q u st->ESc e 10 [.agg l,v,.agg (Lq kd s)] st Q)∧((u=.tup [.agg Gr,.nils,.int .i64 9]∧kd=9∧d.2.2.1.1=2147483648)∨∃ a o n cc A,u=.tup [.agg a,.fz n none cc,.int .i64 0]∧dvC.r (Bu d o) a∧Ls actC A (.fz n none cc)∧n=A.length∧n≤1024∧Zop d ys kd s o A∧a=EU o (Ej l)∧o=GT d kd∧A=Ft d (ys.map Ae) kd∧¬(kd=9∧d.2.2.1.1=2147483648)):=by
 have hD:=MQ hY
 have hoks:∀ y ∈ ys,y.ok:=fun y hy=>by obtain ⟨l,-,h⟩:=hY.mem hy;exact h
 obtain ⟨hM,hL,hsh⟩:=Hg hT.1
 have h20:=hT.2.1
 have h8s:=Ym hD h20
 have hbr:=hT.2.2.1
 have hmck:=Xd hT.1
 have hal:=QG hT hsp
 have hb:Ab d.2.2.1.2.1:=by
  obtain ⟨c,bk,⟨ev,lo,sp,po,dn,nl,br⟩,hs,⟨ag,sq,tl,us,L⟩,fs,nx,so⟩:=d
  obtain ⟨hv,lv,fv,rfl,⟨ho,o1,o2,-⟩,-⟩:=B1 hd
  exact o2
 have hask:JV d (ys.map Ae)=0:=by
  unfold JV
  rw [Zpn ⟨hmck,hM,h20⟩,Zpr (by rw [hbr];decide)]
 have hdo:T4 d (ys.map Ae):=⟨hask,hsm,hln,hM,hbr⟩
 have hmm:=BC hM
 have hp0:EN d->0≤d.2.2.1.2.2.2.1:=fun _=>by
  obtain ⟨c,bk,⟨ev,lo,sp,po,dn,nl,br⟩,R⟩:=d
  unfold Br at hL
  have:=hL.2.2.2.1 hsp
  dsimp only;omega
 rcases hst with ⟨rfl,rfl,hA⟩|⟨rfl,rfl,hB⟩
 ·have hok:MP d (ys.map Ae):=⟨⟨hM,h20,hsm,hal⟩,hL,hsp,hA.1,hg⟩
  refine ⟨Np d l (ys.map Ae),fun Q st q=>?_,?_⟩
  ·refine ESc.rel h10 ⟨_,d,l,_,v,hd,hD,hdo,.inl ⟨hA,rfl,hok,rfl⟩⟩ ?_
   rintro u ⟨d',l',D',v',g1,g2,-,hor⟩
   rcases hor with ⟨-,e1,-,rfl⟩|⟨-,e1,-,-⟩
   ·injection e1 with e1 e2
    injection e1 with e1
    injection e2 with e2 _
    subst e1 e2
    rw [dvC.inj g1 hd,g2.inj hD];exact q
   ·cases e1
  ·obtain ⟨a,e1,-,har⟩:=XJ hd hok
   obtain ⟨k1,k2,k3⟩:=Zc9 hoks hT h8s hsp hA.1 hb
   refine .inr ⟨a,_,_,_,_,e1,har,k1,rfl,by decide,⟨k2,⟨-1,?_,.inl ⟨rfl,rfl⟩⟩,k3 _ rfl⟩,?_,rfl,rfl,fun h=>absurd h.1 (by decide)⟩
   rotate_left
   ·unfold Np at e1
    injection e1 with e1
    injection e1 with e1 _
    injection e1 with e1
    exact e1.symm
   have hL2:Br d.1 (E7 d.2.2.1):=by
    obtain ⟨c,bk,⟨ev,lo,sp,po,dn,nl,br⟩,R⟩:=d
    unfold Br at hL
    dsimp only at hsp
    have:=hL.2.2.2.1 hsp
    have h2:po<At c:=hA.1
    show Br c (ev,lo,sp,po+1,dn,nl,br)
    exact ⟨hL.1,hL.2.1,hL.2.2.1,fun _=>⟨this.1,this.2.1,by omega,by omega⟩,fun h=>by rw [hsp] at h;cases h⟩
   unfold misF
   dsimp only
   rw [Zpn ⟨hM,hL2⟩,Zpn ⟨hp0 hA,hA.1⟩]
   obtain ⟨c,bk,⟨ev,lo,sp,po,dn,nl,br⟩,R⟩:=d
   dsimp only at hsp
   show AV.tup [.int .i64 (if sp=true∧po<po+1 then -1 else lo),.int .i64 0]=_
   rw [Zpn ⟨hsp,by omega⟩]
 ·have hok:MO d:=⟨hM,hL,hsp,hB,hbr,hg⟩
  refine ⟨HJ d l,fun Q st q=>?_,?_⟩
  ·refine ESc.rel h10 ⟨_,d,l,_,v,hd,hD,hdo,.inr ⟨hB,rfl,hok,rfl⟩⟩ ?_
   rintro u ⟨d',l',D',v',g1,g2,-,hor⟩
   rcases hor with ⟨-,e1,-,-⟩|⟨-,e1,-,rfl⟩
   ·cases e1
   ·injection e1 with e1 e2
    injection e1 with e1
    subst e1
    rw [dvC.inj g1 hd];exact q
  ·rcases XI hd hok with e1|⟨hev,a,e1,-,har⟩
   ·refine .inl ⟨e1,rfl,Classical.byContradiction fun h=>?_⟩
    unfold HJ at e1
    rw [Zpr h] at e1
    injection e1 with e1
    injection e1 with _ e1
    injection e1 with e1 _
    cases e1
   ·obtain ⟨k1,k2,k3⟩:=Zc8 hoks hT hsp hB hev hb
    have hM':=hM
    unfold Cfg.may at hM'
    have hs1:0<At d.1:=Int.mul_pos (by omega) (by omega)
    have hml:=Xe hM hL hsp hB (by rw [(OZ hM hL hsp hB).2.2.1];exact hev)
    refine .inr ⟨a,_,_,_,_,e1,har,k1,by simp [D4];omega,by omega,⟨k2,⟨CU (D8 (Bx d.1 d.2.2.1)) 0,?_,.inr rfl⟩,k3 _ rfl⟩,?_,rfl,rfl,fun h=>hev h.2⟩
    rotate_left
    ·unfold HJ at e1
     rw [Zpr hev] at e1
     injection e1 with e1
     injection e1 with e1 _
     injection e1 with e1
     exact e1.symm
    unfold misF
    dsimp only
    rw [Zpn ⟨hM,hml.1⟩,Zpn ⟨Int.le_refl 0,hs1⟩]
theorem Zhl (h9:Con e 9 (Ao Nf)) (hd:dvC.r d l) (hmc:IU d) (hM:d.1.may) (hn:d.2.2.2.2.1.2.2.2.2.length≤1000) (hbr:d.2.2.1.2.2.2.2.2.2=false) (Q:AV->St->Prop) (s:St) (q:Q (.tup [Kb (D3 d),.int .i64 0]) s):ESc e 9 [.agg l] s Q:=by
 refine ESc.rel h9 ⟨_,d,l,rfl,hd,hmc,hM,hn,hbr,rfl⟩ ?_
 rintro u ⟨d',l',e1,hd',-,-,-,-,rfl⟩
 cases e1
 rw [dvC.inj hd' hd];exact q
theorem Zhb (hT:Cv d D) (h0:0≤s) (h1:s<At d.1) {k:Nat}(hk:k<d.1.members.toNat):∃ b,B0 d D s k=some b:=by
 have:=(hT.2.2.2.2 s.toNat (by omega)).1 k hk
 rw [Int.toNat_of_nonneg h0] at this
 unfold B0
 split
 ·exact ⟨_,rfl⟩
 ·exact Option.ne_none_iff_exists'.1 this
abbrev WS:=Dv×List AV×List DK
open Classical in
noncomputable def CE (d:Dv):Int:=if EN d then 8 else 9
open Classical in
noncomputable def wSp (d:Dv):Int:=if EN d then d.2.2.1.2.2.2.1 else 0
open Classical in
noncomputable def Gs (x:WS):Option WS:=if CE x.1=9∧x.1.2.2.1.1=2147483648 then none else if AW (x.2.2.map Aq) (Ft x.1 (x.2.2.map Ae) (CE x.1)) (Ft x.1 (x.2.2.map Ae) (CE x.1)).length=0 then some (Bu x.1 (GT x.1 (CE x.1)),EU (GT x.1 (CE x.1)) (Ej x.2.1),AB (x.2.2.map Aq) (Ft x.1 (x.2.2.map Ae) (CE x.1)) (Ft x.1 (x.2.2.map Ae) (CE x.1)).length) else none
open Classical in
noncomputable def E4:Nat->Nat->WS->WS×Nat×Bool
 | 0,i,x=>(x,i,false)
 | n+1,i,x=>if D3 x.1=[] then (x,i,true) else match Gs x with
  | none=>(x,i,false)
  | some y=>E4 n (i+1) y
structure WOk (x:WS):Prop where
 r:dvC.r x.1 x.2.1
 o:∀ y ∈ x.2.2,y.ok
 n:x.2.2.length≤1000
 t:Cv x.1 (x.2.2.map Ae)
 s:Kf x.1
 l:x.1.2.2.2.2.1.2.2.2.2.length≤1000
noncomputable def Fw (ys:List DK):AV:=.fz ys.length none (Bb ys)
variable {x:WS}
theorem WOk.sm (h:WOk x):∀ d ∈ x.2.2.map Ae,BG d:=fun d hd=>by
 obtain ⟨y,hy,rfl⟩:=Zqj.1 hd
 exact M3 (h.o y hy)
theorem WOk.ls (h:WOk x):Ls dkV x.2.2 (Fw x.2.2):=SE h.o h.n
theorem WF (h:D3 d≠[]):d.2.2.1.2.2.1=true∧S3 d (CE d) (wSp d)∧∃ n cells r,Kb (D3 d)=.fz n none cells∧cells.length=n*4∧0<n∧cells.drop (0*4)=Lq (CE d) (wSp d)++r:=by
 by_cases hsp:d.2.2.1.2.2.1=true
 ·refine ⟨hsp,?_⟩
  unfold D3 P2 at h ⊢
  rw [Zpn hsp] at h ⊢
  unfold CE wSp
  by_cases hA:d.2.2.1.2.2.2.1<At d.1∧DQ d d.2.2.1.2.2.2.1=0
  ·have hA':EN d:=hA
   rw [Zpn hA',Zpn hA',Zpn hA] at *
   refine ⟨.inl ⟨rfl,rfl,hA⟩,?_⟩
   by_cases hB:d.2.2.1.2.2.2.2.1<d.2.2.1.2.2.2.1
   ·rw [Zpn hB];exact ⟨_,_,_,rfl,rfl,by decide,rfl⟩
   ·rw [Zpr hB];exact ⟨_,_,[],rfl,rfl,by decide,rfl⟩
  ·have hA':¬EN d:=hA
   rw [Zpr hA] at h ⊢
   rw [Zpr hA',Zpr hA']
   by_cases hB:d.2.2.1.2.2.2.2.1<d.2.2.1.2.2.2.1
   ·rw [Zpn hB];exact ⟨.inr ⟨rfl,rfl,hB⟩,_,_,[],rfl,rfl,by decide,rfl⟩
   ·rw [Zpr hB] at h;exact absurd rfl h
 ·unfold D3 at h
  rw [Zpr hsp] at h
  exact absurd rfl h
def AP (d:Dv):Prop:=(d.2.2.1.2.2.1=true->d.2.2.1.2.2.2.1<At d.1∨d.2.2.1.2.2.2.2.1<d.2.2.1.2.2.2.1)∧(d.2.2.1.2.2.1=false->d.2.2.1.2.1=-1)
theorem Zlh (hL:Br d.1 d.2.2.1) (hsp:d.2.2.1.2.2.1=true) (h:S3 d kd s):AP (Bu d (GT d kd)):=by
 obtain ⟨c,bk,⟨ev,lo,sp,po,dn,nl,br⟩,R⟩:=d
 unfold Br at hL
 dsimp only at hsp hL
 subst hsp
 have h4:=hL.2.2.2.1 rfl
 rcases h with ⟨rfl,-,hA⟩|⟨rfl,-,hB⟩
 ·exact ⟨fun _=>.inr (show dn<po+1 by omega),fun h=>(by cases h)⟩
 ·have e:GT (c,bk,(ev,lo,true,po,dn,nl,br),R) 9=D8 (Bx c (ev,lo,true,po,dn,nl,br)):=rfl
  rw [e]
  unfold Bx
  dsimp only
  by_cases hq:po=At c
  ·rw [Zpn hq];exact ⟨fun h=>(by cases h),fun _=>rfl⟩
  ·rw [Zpr hq];exact ⟨fun _=>.inl (show po<At c by omega),fun h=>(by cases h)⟩
theorem Znw (h:AP d) (hs:D3 d=[]) (hi:∀ s,DQ d s=0):d.2.2.1.2.2.1=false∧d.2.2.1.2.1=-1:=by
 cases hsp:d.2.2.1.2.2.1 with
 | false=>exact ⟨rfl,h.2 hsp⟩
 | true=>
  unfold D3 P2 at hs
  rw [Zpn hsp] at hs
  have h1:¬(d.2.2.1.2.2.2.1<At d.1∧DQ d d.2.2.1.2.2.2.1=0):=fun q=>by rw [Zpn q] at hs;cases hs
  have h2:¬d.2.2.1.2.2.2.2.1<d.2.2.1.2.2.2.1:=fun q=>by rw [Zpr h1,Zpn q] at hs;cases hs
  rcases h.1 hsp with q|q
  ·exact absurd ⟨q,hi _⟩ h1
  ·exact absurd q h2
noncomputable def eD:Env:=⟨.lf,Jd [(10,Ao Kg)],.lf⟩
theorem eD10:Con eD 10 (Ao Kg):=.k
def JW (x0 x:WS) (i:Nat):Prop:=WOk x∧x.1.1=x0.1.1∧x.1.2.2.2=x0.1.2.2.2∧x.2.2.length=x0.2.2.length∧(∀ s:Int,0≤s->s<At x0.1.1->∀ k:Nat,B0 x.1 (x.2.2.map Ae) s k=B0 x0.1 (x0.2.2.map Ae) s k)∧(0<i->AP x.1)
theorem XA {y:WS}(h:WOk x) (hs:D3 x.1≠[]) (hn:Gs x=some y):JW x y 1:=by
 obtain ⟨hsp,hst,-⟩:=WF hs
 obtain ⟨u,-,hout⟩:=Xv eD10 h.r h.ls h.s h.sm h.t hsp h.l hst
 obtain ⟨hM,hL,hsh⟩:=Hg h.t.1
 have hap:=Zlh hL hsp hst
 obtain ⟨d,l,ys⟩:=x
 unfold Gs at hn
 dsimp only at hn hsp hst hout hap hL
 rcases hout with ⟨-,h1,h2⟩|⟨a,o,n,cc,A,-,hr,-,-,-,⟨-,-,-,hg⟩,rfl,rfl,rfl,hne⟩
 ·rw [Zpn ⟨h1,h2⟩] at hn;cases hn
 ·rw [Zpr hne] at hn
  by_cases he:AW (ys.map Aq) (Ft d (ys.map Ae) (CE d)) (Ft d (ys.map Ae) (CE d)).length=0
  ·rw [Zpn he] at hn
   cases hn
   obtain ⟨g1,g2,g3,g4⟩:=hg he
   exact ⟨⟨hr,fun y hy=>(g1 y hy).1,by show (AB _ _ _).length≤1000;rw [g2];exact h.n,g3,h.s,h.l⟩,rfl,rfl,g2,g4,fun _=>hap⟩
  ·rw [Zpr he] at hn;cases hn
variable {x0:WS}
theorem Ry:∀ n i x,JW x0 x i->∀ y j f,E4 n i x=(y,j,f)->JW x0 y j
 | 0,i,x,h,y,j,f,e=>by cases e;exact h
 | n+1,i,x,h,y,j,f,e=>by
  unfold E4 at e
  by_cases hs:D3 x.1=[]
  ·rw [Zpn hs] at e;cases e;exact h
  ·rw [Zpr hs] at e
   cases hn:Gs x with
   | none=>rw [hn] at e;cases e;exact h
   | some z=>
    rw [hn] at e
    obtain ⟨k1,k2,k3,k4,k5,k6⟩:=XA h.1 hs hn
    obtain ⟨-,j2,j3,j4,j5,-⟩:=h
    exact Ry n (i+1) z ⟨k1,k2.trans j2,k3.trans j3,k4.trans j4,fun s h0 h1 k=>(k5 s h0 (by rw [j2];exact h1) k).trans (j5 s h0 h1 k),fun _=>k6 (by decide)⟩ y j f e
variable {j:Nat}
theorem Zha {i:Nat}{y:WS}(h:E4 n i x=(y,j,true)):D3 y.1=[]:=by
 induction n generalizing i x with
 | zero=>cases h
 | succ n ih=>
  unfold E4 at h
  by_cases hs:D3 x.1=[]
  ·rw [Zpn hs] at h;cases h;exact hs
  ·rw [Zpr hs] at h
   cases hn:Gs x with
   | none=>rw [hn] at h;cases h
   | some z=>rw [hn] at h;exact ih h
variable {w:AV}
theorem Wb (h11:Con e 11 (relS Ld)) (hY:Ls dkV ys v) (hA:Ls actC A w) (h1:CG A (ys.map Ae)=0) (h2:AW (ys.map Aq) A A.length=0) (hg:E8 (AB (ys.map Aq) A A.length)) (Q:AV->St->Prop) (s:St) (q:Q (.tup [.sl (0+s.next) 0 ys.length none,.int .i64 0]) (s.alloc (.row 60 (Bb (AB (ys.map Aq) A A.length))))):ESc e 11 [v,w,.int .i64 (A.length:Nat)] s Q:=by
 have hv:=Wa (ys:=ys) (A:=A) h1
 rw [Zpn h2] at hv
 have ht:A.take ((A.length:Nat):Int).toNat=A:=by rw [Int.toNat_natCast,List.take_length]
 refine ESc.relS h11 (u:=.tup [.sl (0+s.next) 0 ys.length none,.int .i64 0]) (s':=s.alloc (.row 60 (Bb (AB (ys.map Aq) A A.length)))) ⟨ys,A,_,v,w,rfl,hY,hA,.inr ⟨⟨h1,⟨by omega,by omega⟩,?_,?_⟩,rfl,?_⟩⟩ ?_
 ·rw [ht];exact h2
 ·rw [ht];exact hg
 ·rw [ht];rfl
 ·rintro u s' ⟨ys',A',n',v',w',e1,hY',hA',hor⟩
  injection e1 with e1 e2
  injection e2 with e2 e3
  injection e3 with e3 _
  injection e3 with _ e3
  subst e1 e2 e3
  obtain rfl:=hY'.inj hY
  obtain rfl:=hA'.inj hA
  rcases hor with ⟨z,hz,-⟩|⟨-,rfl,rfl⟩
  ·rw [hv] at hz;cases hz
  ·rw [ht];exact q
theorem Ze3 (h11:Con e 11 (relS Ld)) (hY:Ls dkV ys v) (hA:Ls actC A w) (h1:CG A (ys.map Ae)=0) (h2:AW (ys.map Aq) A A.length=9) (Q:AV->St->Prop) (s:St) (q:Q (.tup [.nils,.int .i64 9]) s):ESc e 11 [v,w,.int .i64 (A.length:Nat)] s Q:=by
 have hv:=Wa (ys:=ys) (A:=A) h1
 rw [Zpr (by rw [h2];decide),h2] at hv
 refine ESc.relS h11 (u:=.tup [.nils,.int .i64 9]) (s':=s) ⟨ys,A,_,v,w,rfl,hY,hA,.inl ⟨9,hv,rfl,rfl⟩⟩ ?_
 rintro u s' ⟨ys',A',n',v',w',e1,hY',hA',hor⟩
 injection e1 with e1 e2
 injection e2 with e2 e3
 injection e3 with e3 _
 injection e3 with _ e3
 subst e1 e2 e3
 obtain rfl:=hY'.inj hY
 obtain rfl:=hA'.inj hA
 rcases hor with ⟨z,hz,rfl,rfl⟩|⟨⟨-,-,h3,-⟩,-,-⟩
 ·rw [hv] at hz;cases hz;exact q
 ·rw [Int.toNat_natCast,List.take_length,h2] at h3;cases h3
def wTl (v0:AV) (n:Nat):Nat->List (Nat×AV)
 | 0=>[(1,v0),(2,.ptr 0 0),(4,.ptr 1 0),(7,.int .i64 ((0:Nat):Int))]
 | i+1=>[(1,.sl 2 0 n none),(2,.ptr 0 0),(4,.ptr 1 0),(7,.int .i64 ((i+1:Nat):Int))]
def wOs (l:List AV) (ys:List DK):Nat->List AObj
 | 0=>[.row 33 l,.row 33 Gr]
 | i+1=>[.row 33 l,.row 33 Gr,.row 60 (Bb ys)]
def Tk (v0:AV) (ys:List DK) (j:Nat) (f:Bool) (st:St) (w:AV):Prop:=(j=0∧w=v0)∨(0<j∧((f=false∧w=Fw ys)∨∃ r,w=.sl r 0 ys.length none∧st.get r=some (.row 60 (Bb ys))))
set_option maxHeartbeats 4000000 in
theorem Zax {e:Env}(hE:EM P e) (h9:Con e 9 (Ao Nf)) (h10:Con e 10 (Ao Kg)) (h11:Con e 11 (relS Ld)) {x0:WS}{v0:AV}(h0:WOk x0) (hv0:Ls dkV x0.2.2 v0) {K:AV->St->Prop}(hK:∀ x j f,E4 130 0 x0=(x,j,f)->∀ st w,Tk v0 x.2.2 j f st w->K (.tup [.agg x.2.1,w,.bool (f && decide (0<j))]) st):C P 14 [.agg x0.2.1,v0] St0 K:=by
 have hvf:=hv0.hf
 have hrow0:=dvC.hf h0.r
 obtain ⟨q0,q1,q2,q3,q4,q5,q6,q7,q8,q9,q10,q11,q12,q13,q14,q15,q16,q17,q18,q19,q20,q21,q22,hXl⟩:=Gy (dvC.len h0.r)
 rw [hXl] at hrow0 ⊢
 refine C.of_G hE g14 ?_;conv=>whnf
 skip
 refine DZ (fun y:Nat×WS=>wTl v0 y.2.2.2.length y.1) (fun y=>wOs y.2.2.1 y.2.2.2 y.1) (fun y=>130-y.1) (fun y=>y.1≤130∧WOk y.2∧E4 (130-y.1) y.1 y.2=E4 130 0 x0∧(y.1=0->y.2=x0)) (0,x0) ⟨Zp2 _,h0,rfl,fun _=>rfl⟩ (Abs.tells (rs:=[0,1]) ⟨by decide,⟨t9,r9,r9,r9,trivial⟩,⟨?_,r9,trivial⟩⟩) ?_
 ·show Dw 0 2 (.row 33 x0.2.1)=true∧_=some (Bw _ (.row 33 x0.2.1))
  rw [hXl]
  exact o9
 rintro ⟨i,d,l,ys⟩ ⟨hi,hw,hwl,hz⟩
 dsimp only at hi hwl hz ⊢
 have hrow:=dvC.hf hw.r
 have hlen:=dvC.len hw.r
 have hyf:=Hx hw.o
 have hsm:=hw.sm
 obtain ⟨hM,hL,hsh⟩:=Hg hw.t.1
 have hsw:=fun Q st q=>Zhl h9 hw.r (Xd hw.t.1) hM hw.l hw.t.2.2.1 Q st q
 by_cases hlt:i<130
 ·rw [show 130-i=(129-i)+1 by omega] at hwl
  unfold E4 at hwl
  by_cases hs:D3 d=[]
  ·rw [Zpn hs] at hwl
   have hf:=hK _ _ _ hwl.symm
   have hsn:∀ (Q:AV->St->Prop) st,Q (.tup [.nils,.int .i64 0]) st->ESc e 9 [.agg l] st Q:=fun Q st q=>hsw Q st (by rw [show D3 (d,l,ys).1=[] from hs];exact q)
   clear hsh hsm hw hwl hsw
   obtain ⟨x0,x1,x2,x3,x4,x5,x6,x7,x8,x9,x10,x11,x12,x13,x14,x15,x16,x17,x18,x19,x20,x21,x22,rfl⟩:=Gy hlen
   refine Ca hE ?_
   rcases i with _|i
   ·conv=>whnf
    repeat' (first|((first|refine hsn _ _ ?_|refine AD rfl (show Sl 1 0 [] .nils from .inl ⟨rfl,rfl,rfl⟩) ?_);conv=>whnf)|refine Aa ?_ ?_|refine Ax ?_ ?_|refine Ap ?_ ?_|refine Al ?_ ?_|(intro _;first|omega|conv=>whnf))
    exact hf _ _ (.inl ⟨rfl,rfl⟩)
   ·conv=>whnf
    repeat' (first|((first|refine hsn _ _ ?_|refine AD rfl (show Sl 1 0 [] .nils from .inl ⟨rfl,rfl,rfl⟩) ?_);conv=>whnf)|refine Aa ?_ ?_|refine Ax ?_ ?_|refine Ap ?_ ?_|refine Al ?_ ?_|(intro _;first|omega|conv=>whnf))
    exact hf _ _ (.inr ⟨Nat.succ_pos _,.inr ⟨2,rfl,rfl⟩⟩)
  ·rw [Zpr hs] at hwl
   obtain ⟨hsp,hst,n,cells,r,e1,e2,hn,e3⟩:=WF hs
   rw [show Kb (D3 (d,l,ys).1)=_ from e1] at hsw
   have hsl:Sl 4 n cells (.fz n none cells):=.inr (.inr ⟨none,rfl,e2⟩)
   have hnone:Gs (d,l,ys)=none->∀ st w,Tk v0 ys i false st w->K (.tup [.agg l,w,.bool false]) st:=fun h=>by
    rw [h] at hwl
    exact hK _ _ _ hwl.symm
   have hsome:∀ y,Gs (d,l,ys)=some y->E4 (129-i) (i+1) y=E4 130 0 x0:=fun y h=>by
    rw [h] at hwl
    exact hwl
   have key:∃ v,Ls dkV ys v∧(∀ st,Tk v0 ys i false st v)∧Tells P 0 (A6 (wTl v0 ys.length i)) (Aj St0 (wOs l ys i)) [] (A6 [(1,v),(2,.ptr 0 0),(4,.ptr 1 0),(7,.int .i64 (i:Int))]) (Aj St0 [.row 33 l,.row 33 Gr]) []:=by
    rcases i with _|i
    ·refine ⟨v0,?_,fun st=>.inl ⟨rfl,rfl⟩,Tells.refl⟩
     have:=hz rfl
     rw [← this] at hv0
     exact hv0
    ·refine ⟨Fw ys,hw.ls,fun st=>.inr ⟨Nat.succ_pos _,.inl ⟨rfl,rfl⟩⟩,AbsK.frz (n:=2) (e:=60) (cs:=Bb ys) (tl:=wTl v0 ys.length (i+1)) (os:=[.row 33 l,.row 33 Gr]) (rs:=[0,1,2]) ⟨rfl,by decide,⟨r9,r9,r9,r9,trivial⟩,⟨o9 hrow,r9,o9 hyf,trivial⟩⟩ rfl hyf rfl rfl rfl rfl rfl ?_⟩
     show [E3 2 _ (.row 33 l),_]=_
     rw [Hq hrow];rfl
   obtain ⟨v,hv,hval,htl⟩:=key
   refine W.tells htl ?_
   clear htl hwl hz
   obtain ⟨u,hdo,hout⟩:=Xv (e:=e) h10 hw.r hv hw.s hsm hw.t hsp hw.l hst
   dsimp only at hdo hout hst hs hsp e3
   have hvf2:=hv.hf
   rcases hout with ⟨rfl,hk9,hev⟩|⟨a,o,m,cc,A,rfl,har,hA,rfl,hm,⟨hch,-,hre,hrg⟩,ea,eo,eA,hne⟩
   ·have hno:=hnone (by unfold Gs;rw [Zpn ⟨hk9,hev⟩])
    obtain ⟨r1,r2⟩:=R3 (A:=[]) hM hw.t.2.1 hw.o (by simp) (fun x hx=>by cases hx) (fun x hx=>by cases hx) (fun x hx=>by cases hx)
    have hrn:=fun Q s q=>Wb h11 hv (A:=[]) (w:=.nils) (Ee (.inl rfl)) r1 rfl ((r2 0 rfl).2 rfl).1 Q s q
    clear hnone hsome hw hsh r1 r2
    generalize Bb _=yc at hrn
    obtain ⟨x0,x1,x2,x3,x4,x5,x6,x7,x8,x9,x10,x11,x12,x13,x14,x15,x16,x17,x18,x19,x20,x21,x22,rfl⟩:=Gy hlen
    refine Ca hE ?_;conv=>whnf
    repeat' (first|((first|refine hsw _ _ ?_|refine Kr rfl ?_|refine Cj (i:=0) rfl hsl rfl rfl hn e3 ?_|refine A8 (cs:=Lq _ _) rfl ?_|refine hdo _ _ ?_|refine AD rfl (show Sl 1 0 [] .nils from .inl ⟨rfl,rfl,rfl⟩) ?_|refine hrn _ _ ?_);conv=>whnf)|refine Aa ?_ ?_|refine Ap ?_ ?_|refine Al ?_ ?_|(intro _;first|omega|conv=>whnf))
    exact hno _ _ (hval _)
   ·subst ea eo eA
    rcases hre with he|he
    ·obtain ⟨g1,g2,g3,g4⟩:=hrg he
     have hrn:=fun Q s q=>Wb h11 hv hA hch he g1 Q s q
     have hnx:Gs (d,l,ys)=some (Bu d (GT d (CE d)),EU (GT d (CE d)) (Ej l),AB (ys.map Aq) (Ft d (ys.map Ae) (CE d)) (Ft d (ys.map Ae) (CE d)).length):=by unfold Gs;rw [Zpr hne,Zpn he]
     have hy:=hsome _ hnx
     have hok:=(XA hw hs hnx).1
     have hyl:=g2
     have hcf:=Hx hok.o
     have hla:=dvC.len har
     have hra:=dvC.hf har
     clear hnone hsome hsh hrg hnx hw g1 g3 g4 har hs
     generalize AB (ys.map Aq) (Ft d (ys.map Ae) (CE d)) (Ft d (ys.map Ae) (CE d)).length=Y at *
     generalize EU (GT d (CE d)) (Ej l)=a at *
     generalize Bu d (GT d (CE d))=D2 at *
     generalize (Ft d (ys.map Ae) (CE d)).length=m at *
     obtain ⟨x0,x1,x2,x3,x4,x5,x6,x7,x8,x9,x10,x11,x12,x13,x14,x15,x16,x17,x18,x19,x20,x21,x22,rfl⟩:=Gy hlen
     obtain ⟨y0,y1,y2,y3,y4,y5,y6,y7,y8,y9,y10,y11,y12,y13,y14,y15,y16,y17,y18,y19,y20,y21,y22,rfl⟩:=Gy hla
     refine Ca hE ?_;conv=>whnf
     repeat' (first|((first|refine hsw _ _ ?_|refine Kr rfl ?_|refine Cj (i:=0) rfl hsl rfl rfl hn e3 ?_|refine A8 (cs:=Lq _ _) rfl ?_|refine hdo _ _ ?_|refine hrn _ _ ?_|refine Ac ?_|refine ⟨rfl,?_⟩);conv=>whnf)|refine Aa ?_ ?_|refine Ap ?_ ?_|refine Al ?_ ?_|(intro _;first|omega|conv=>whnf))
     refine ⟨(i+1,D2,_,Y),⟨by show i+1≤130;omega,hok,by rw [← hy];show E4 (130-(i+1)) _ _=_;rw [show 130-(i+1)=129-i by omega],fun h=>by cases h⟩,by show 130-(i+1)<130-i;omega,Abs.tells (rs:=[0,1,3]) ⟨by decide,⟨⟨rfl,?_⟩,r9,r9,r9,trivial⟩,⟨o9 hra,r9,o9 hcf,trivial⟩⟩⟩
     show _=some (AV.sl 3 0 Y.length none)
     rw [g2];rfl
    ·have hno:=hnone (by unfold Gs;rw [Zpr hne,Zpr (by rw [show AW _ _ _=9 from he];decide)])
     have hrn:=fun Q s q=>Ze3 h11 hv hA hch he Q s q
     have hla:=dvC.len har
     clear hnone hsome hsh hrg hw har hs
     generalize EU (GT d (CE d)) (Ej l)=a at *
     generalize (Ft d (ys.map Ae) (CE d)).length=m at *
     obtain ⟨x0,x1,x2,x3,x4,x5,x6,x7,x8,x9,x10,x11,x12,x13,x14,x15,x16,x17,x18,x19,x20,x21,x22,rfl⟩:=Gy hlen
     obtain ⟨y0,y1,y2,y3,y4,y5,y6,y7,y8,y9,y10,y11,y12,y13,y14,y15,y16,y17,y18,y19,y20,y21,y22,rfl⟩:=Gy hla
     refine Ca hE ?_;conv=>whnf
     repeat' (first|((first|refine hsw _ _ ?_|refine Kr rfl ?_|refine Cj (i:=0) rfl hsl rfl rfl hn e3 ?_|refine A8 (cs:=Lq _ _) rfl ?_|refine hdo _ _ ?_|refine hrn _ _ ?_);conv=>whnf)|refine Aa ?_ ?_|refine Ap ?_ ?_|refine Al ?_ ?_|(intro _;first|omega|conv=>whnf))
     exact hno _ _ (hval _)
 ·rcases i with _|i
  ·omega
  have h1:i+1=130:=by omega
  rw [show 130-(i+1)=0 by omega] at hwl
  have hf:=hK _ _ _ hwl.symm
  clear hsh hsm hw hwl hsw
  obtain ⟨x0,x1,x2,x3,x4,x5,x6,x7,x8,x9,x10,x11,x12,x13,x14,x15,x16,x17,x18,x19,x20,x21,x22,rfl⟩:=Gy hlen
  refine Ca hE ?_;conv=>whnf
  repeat' (first|refine Aa ?_ ?_|(intro _;first|omega|conv=>whnf))
  refine hf _ _ ?_
  exact .inr ⟨Nat.succ_pos _,.inr ⟨2,rfl,rfl⟩⟩
def N5 (args:List AV) (s:St) (u:AV) (s':St):Prop:=∃ (x0:WS) (v0:AV),args=[.agg x0.2.1,v0]∧WOk x0∧Ls dkV x0.2.2 v0∧∃ x j f,E4 130 0 x0=(x,j,f)∧(((f=true∧0<j)∧u=.tup [.agg x.2.1,.sl (0+s.next) 0 x.2.2.length none,.bool true]∧s'=s.alloc (.row 60 (Bb x.2.2)))∨(¬(f=true∧0<j)∧u=.tup [.agg x.2.1,(if j=0 then v0 else Fw x.2.2),.bool false]∧s'=s))
theorem jw0 (h:WOk x):JW x x 0:=⟨h,rfl,rfl,rfl,fun _ _ _ _=>rfl,fun h=>absurd h (Nat.lt_irrefl 0)⟩
theorem Zn5 (hE:EM P e) (h9:Con e 9 (Ao Nf)) (h10:Con e 10 (Ao Kg)) (h11:Con e 11 (relS Ld)):OvOk P 14 (relS N5):=by
 refine Jv g14.b ?_
 rintro args s u s' ⟨x0,v0,rfl,h0,hv0,x,j,f,hR,hor⟩
 have hw:=(Ry 130 0 x0 (jw0 h0) x j f hR).1
 have hxf:=dvC.hf hw.r
 have hcf:=Hx hw.o
 have hfa:hfs [.agg x0.2.1,v0]=true:=by
  have h1:=dvC.hf h0.r
  have h2:=hv0.hf
  show (hfs x0.2.1 && (AM.hf v0 && true))=true
  rw [h1,h2];rfl
 have walk:=fun {K:AV->St->Prop}=>@Zax e hE h9 h10 h11 x0 v0 h0 hv0 K
 rcases hor with ⟨⟨rfl,hj⟩,rfl,rfl⟩|⟨hn,rfl,rfl⟩
 ·have key:C P 14 [.agg x0.2.1,v0] St0 (fun u s'=>u=.tup [.agg x.2.1,.sl 0 0 x.2.2.length none,.bool true]∧s'=Aj St0 [.row 60 (Bb x.2.2)]):=by
   refine C.abs (walk fun x' j' f' hR' st w hw=>?_)
   rw [hR] at hR'
   cases hR'
   rcases hw with ⟨hj0,-⟩|⟨-,⟨h,-⟩|⟨r,rfl,hg⟩⟩
   ·omega
   ·cases h
   ·refine ⟨[r],⟨by simp,⟨⟨?_,?_⟩,trivial⟩,⟨⟨Bj hcf,by rw [AU hcf];exact hg⟩,trivial⟩⟩⟩
    ·show (Bq 1 x.2.1 && (true && (true && true)))=true
     rw [Hp _ hxf];rfl
    ·show some _=some (AV.tup [.agg (AF _ x.2.1),_,_])
     rw [G6 _ hxf,show (true && decide (0<j))=true by rw [Zpo hj];rfl];rfl
  refine (C.frame (l:=[.row 60 (Bb x.2.2)]) (u:=.tup [.agg x.2.1,.sl 0 0 x.2.2.length none,.bool true]) hfa ?_ ?_ key ?_ s).mono ?_
  ·intro o ho;simp at ho;subst ho;rfl
  ·exact .inl (by simp)
  ·intro i o h
   rcases i with _|i
   ·simp at h;subst h;rfl
   ·simp at h
  ·rintro v s' ⟨rfl,rfl⟩
   refine ⟨?_,?_⟩
   ·show AV.tup [.agg (AF _ x.2.1),_,_]=_
    rw [G6 _ hxf];rfl
   ·show Aj s [Bw _ (.row 60 (Bb x.2.2))]=_
    rw [AU hcf];rfl
 ·have hvf:AM.hf (if j=0 then v0 else Fw x.2.2)=true:=by
   split
   ·exact hv0.hf
   ·rfl
  have hb:(f && decide (0<j))=false:=by
   cases f with
   | false=>rfl
   | true=>rw [Zp0 fun h=>hn ⟨rfl,h⟩];rfl
  refine MI hfa (u:=.tup [.agg x.2.1,(if j=0 then v0 else Fw x.2.2),.bool false]) (Bool.and_eq_true_iff.2 ⟨hxf,Bool.and_eq_true_iff.2 ⟨hvf,rfl⟩⟩) (walk fun x' j' f' hR' st w hw=>?_) s'
  rw [hR] at hR'
  cases hR'
  rw [hb]
  refine .tup _ _ (.cons (.plain _ hxf) (.cons ?_ (.cons (.plain _ rfl) .nil)))
  rcases hw with ⟨rfl,rfl⟩|⟨hj,⟨-,rfl⟩|⟨r,rfl,hg⟩⟩
  ·exact .plain _ hv0.hf
  ·rw [Zpr (by omega)];exact .plain _ rfl
  ·rw [Zpr (by omega)]
   exact .sl r 0 _ _ _ 60 _ _ _ hg (fun i x hx=>by rw [Zpy];exact hx) (Ck hcf) (.inl rfl)
theorem Zlp (h14:Con e 14 (relS N5)) {v0:AV}(h0:WOk x0) (hv0:Ls dkV x0.2.2 v0) {f:Bool}(hR:E4 130 0 x0=(x,j,f)) (Q:AV->St->Prop) (s:St) (q1:f=true->0<j->Q (.tup [.agg x.2.1,.sl (0+s.next) 0 x.2.2.length none,.bool true]) (s.alloc (.row 60 (Bb x.2.2)))) (q2:∀ w,Q (.tup [.agg x.2.1,w,.bool false]) s):ESc e 14 [.agg x0.2.1,v0] s Q:=by
 have det:∀ u s',N5 [.agg x0.2.1,v0] s u s'->Q u s':=by
  rintro u s' ⟨x1,v1,e1,h1,hv1,x',j',f',hR',hor⟩
  injection e1 with e1 e2
  injection e1 with e1
  injection e2 with e2 _
  subst e2
  have ex:x1=x0:=by
   obtain ⟨d1,l1,y1⟩:=x1
   obtain ⟨d0,l0,y0⟩:=x0
   dsimp only at e1
   subst e1
   have a:=dvC.inj h1.r h0.r
   have b:=hv1.inj hv0
   dsimp only at a b
   subst a b;rfl
  subst ex
  rw [hR] at hR'
  cases hR'
  rcases hor with ⟨⟨h,h'⟩,rfl,rfl⟩|⟨-,rfl,rfl⟩
  ·exact q1 h h'
  ·exact q2 _
 by_cases h:f=true∧0<j
 ·exact ESc.relS h14 ⟨x0,v0,rfl,h0,hv0,x,j,f,hR,.inl ⟨h,rfl,rfl⟩⟩ det
 ·exact ESc.relS h14 ⟨x0,v0,rfl,h0,hv0,x,j,f,hR,.inr ⟨h,rfl,rfl⟩⟩ det
def cd45:AC:=match a45 with|.mk c _=>c
def JU (m:Int):Lo->Lo
 | (ev,lo,sp,po,dn,nl,br)=>(ev,m,false,0,0,nl,br)
noncomputable def dieF:Fn (Cfg×Lo×Int×Unit):=⟨.g cfgC (.g loC (.v i64C ⟨fun _ l=>l=[.bool false],by rintro _ _ rfl;rfl,fun _ _=>rfl⟩)),fun x=>x.1.may∧Br x.1 x.2.1∧x.2.1.2.1=-1∧0≤x.2.2.1∧x.2.2.1<x.1.members,fun x=>.tup [.agg (Es (JU x.2.2.1 x.2.1)),.int .i64 0]⟩
theorem Zkc (hE:EM P e) (h39:Con e 39 lossF.O) (h45:Inl e 45 cd45 []) (h96:Inl e 96 Zp []):OvOk P 16 dieF.O:=by
 refine B3 g16.b ?_
 rintro ⟨c,⟨ev,lo,sp,po,dn,nl,br⟩,m,_⟩ _ ⟨_,_,rfl,⟨rfl,hc⟩,_,_,rfl,hlo,_,_,rfl,⟨e2,z2⟩,rfl⟩ ⟨hM,hL,hl1,hm0,hm1⟩
 cases e2
 refine ⟨rfl,C.of_G hE g16 ?_⟩
 have hck:=fun (Q:AV->St->Prop) s a=>@cF.u _ _ _ _ e 39 s Q _ h39 (c,(ev,lo,sp,po,dn,nl,br),()) ⟨_,_,rfl,⟨rfl,hc⟩,_,_,rfl,hlo,rfl⟩ trivial (fun _=>a) (fun q=>absurd (And.intro hM hL) q)
 obtain ⟨rfl,h1,h2,h3,h4⟩:=GE hlo
 dsimp only at hM hL hc hl1 hm0 hm1 hck
 subst hl1
 have hM':=hM
 unfold Cfg.may at hM'
 have fin:∀ st,Frz st (.tup [.agg [.int .u32 ev,.int .i64 m,.bool false,.int .i64 0,.int .i64 0,.bool nl,.bool br],.int .i64 0]) (dieF.out (c,(ev,-1,sp,po,dn,nl,br),m,())):=fun st=>.plain _ rfl
 generalize dieF.out _=O at fin ⊢
 change VW P e 0 _ (An [.agg c.c,.agg _,.int .i64 m,.bool false] 0 .lf) St0 none [] _
 conv=>whnf
 repeat' (first|((first|refine hck _ _ ?_|refine ESc.inl h45 ?_|refine ESc.inl h96 ?_);conv=>whnf)|refine Aa ?_ ?_|refine Ax ?_ ?_|refine Ap ?_ ?_|refine Al ?_ ?_|(intro _;first|omega|conv=>whnf))
 exact fin _
def Fm (x:Dk):Dk:=(List.replicate x.1.length [],[],true)
noncomputable def IW (x:Dk):List AV:=[.fz x.1.length none (Bp [.nils] x.1.length),.nils,.bool true]
def PD (args:List AV) (u:AV):Prop:=∃ x l,args=[.agg l]∧dkC.r x l∧BG x∧Cy x∧u=.tup [.agg (IW x),.int .i64 0]
theorem XE:∀ n:Nat,All2 bytC.r (List.replicate n []) (List.replicate n [.nils])∧(List.replicate n [AV.nils]).flatten=Bp [.nils] n
 | 0=>⟨.nil,rfl⟩
 | n+1=>by
  obtain ⟨h1,h2⟩:=XE n
  refine ⟨.cons ⟨_,rfl,Ee (.inl rfl)⟩ h1,?_⟩
  rw [List.replicate_succ,List.flatten_cons,h2]
  show _=Be [.nils] (Bp [.nils] n)
  rw [Da]
theorem Zm2 {x:Dk}(h:BG x):dkC.r (Fm x) (IW x):=by
 obtain ⟨h1,h2⟩:=XE x.1.length
 refine ⟨[_],_,rfl,⟨_,rfl,_,h1,.inr (.inr ⟨none,?_,FW h1⟩),by show (List.replicate x.1.length ([]:List Nat)).length≤_;rw [List.length_replicate];have:=h.1;omega⟩,[_],_,rfl,⟨_,rfl,Ee (.inl rfl)⟩,rfl⟩
 rw [show (Fm x).1.length=x.1.length from List.length_replicate ..,h2]
theorem Ziw (h15:Con e 15 (Ao PD)) {x:Dk}(h:dkC.r x l) (h1:BG x) (h2:Cy x) (Q:AV->St->Prop) (s:St) (q:Q (.tup [.agg (IW x),.int .i64 0]) s):ESc e 15 [.agg l] s Q:=by
 refine ESc.rel h15 ⟨_,x,l,rfl,h,h1,h2,rfl⟩ ?_
 rintro u ⟨x',l',e1,h',-,-,rfl⟩
 cases e1
 rw [dkC.inj h' h];exact q
theorem Zm0 (hE:EM P e) (h44:Con e 44 dskF.O):OvOk P 15 (Ao PD):=by
 refine CX g15.b ?_
 rintro args u ⟨x,l,rfl,hx,hsm,hk,rfl⟩
 have hrow:=dkC.hf hx
 have hck:=fun (Q:AV->St->Prop) s a=>RU (e:=e) h44 hx hsm Q s (fun _=>a) (fun q=>absurd hk q)
 have hr:=RL (z:=[.nils]) rfl x.1.length
 have hn:=hsm.1
 refine ⟨by show (hfs l && true)=true;rw [hrow];rfl,rfl,C.of_G hE g15 ?_⟩
 have fin:∀ st r,st.get r=some (.row 76 (Bp [.nils] x.1.length))->Frz st (.tup [.agg [.sl r 0 x.1.length (some x.1.length),.nils,.bool true],.int .i64 0]) (.tup [.agg (IW x),.int .i64 0]):=fun st r hg=>.tup _ _ (.cons (.agg _ _ (.cons (.sl r 0 _ _ _ 76 _ _ _ hg (fun i x hx=>by rw [Zpy];exact hx) (Ck hr) (.inl rfl)) (.cons (.plain _ rfl) (.cons (.plain _ rfl) .nil)))) (.cons (.plain _ rfl) .nil))
 obtain ⟨bs,ws,dd⟩:=x
 obtain ⟨bv,wv,rfl,hb,hw⟩:=GI hx
 obtain ⟨cs,h1,-,-⟩:=hb.nth
 dsimp only at hn fin hr
 generalize AV.tup [.agg (IW _),.int .i64 0]=O at fin ⊢
 generalize bs.length=n at *
 conv=>whnf
 repeat' (first|((first|refine hck _ _ ?_|refine Am h1 ?_|refine VQ rfl rfl (Zp4 n) (by omega) ?_);conv=>whnf)|refine Al ?_ ?_|(intro _;first|omega|conv=>whnf))
 exact fin _ _ rfl
theorem Zev (hM:d.1.may) (hs:0≤s) (h8:Pp d D) (h1:CU d.2.2.1 s=-1) (h3:∀ i<d.1.members.toNat,Bd D i=false) (h:J8 d D s) {p:Nat}(hp:p<d.1.members.toNat):AY (Bk D (s+1) p d.1.members.toNat)=Bm D (s+1) p:=by
 have h5:=h.2.1
 have hth:∀ k,DO d D s k=Bm D (s+1) (Bi d.1 s (k:Int)).toNat:=fun k=>by
  obtain ⟨-,q2,q3⟩:=KJ hM hs k
  unfold DO BW CN
  rw [h1,Zpn]
  ·rfl
  ·rintro (h|h)
   ·omega
   ·rw [h3 _ q2] at h;cases h
 have hm:0<d.1.members.toNat:=by omega
 have h6:AY ((List.range d.1.members.toNat).map (Bm D (s+1)))=Fg:=by
  rw [← h5]
  refine Eq.symm ?_
  unfold EZ
  rw [List.map_congr_left (g:=(Bm D (s+1)) ∘ fun k=>((s / d.1.chunk*(d.1.members-1)).toNat+k) % d.1.members.toNat) (fun k _=>by rw [hth,(KJ hM hs k).1];rfl),← List.map_map]
  exact Zeb ((Ze5 hm _).map _)
 rw [WZ (p:=p),Zpn hp] at h6
 have h7:(AY (Bk D (s+1) p d.1.members.toNat)).length=128:=(Jy fun b hb=>by
  obtain ⟨j,hj,-,rfl⟩:=R8 hb
  exact h8 _ j hj).1
 have h9:=h8 (s+1) _ hp
 refine Vn _ _ (by rw [h7];exact h9.1.symm) ?_
 rw [h7]
 exact h6
variable {m:Nat}{z:Dk}
theorem WO (hm:m<D.length):Bm (D.set m z) p j=if m=j then Cb z p else Bm D p j:=by
 unfold Bm
 rw [List.getElem?_set]
 by_cases h:m=j
 ·subst h;rw [Zpn rfl,Zpn rfl,Zpn hm];rfl
 ·rw [Zpr h,Zpr h]
theorem Zgu (hm:m<D.length):Bd (D.set m z) j=if m=j then z.2.2 else Bd D j:=by
 unfold Bd
 rw [List.getElem?_set]
 by_cases h:m=j
 ·subst h;rw [Zpn rfl,Zpn rfl,Zpn hm];rfl
 ·rw [Zpr h,Zpr h]
theorem Zix {x:Dk}(h:BG x):BG (Fm x):=⟨by show (List.replicate x.1.length ([]:List Nat)).length<_;rw [List.length_replicate];exact h.1,by show ([]:List (Int×List Nat)).length<_;simp,fun b hb=>by rw [Zrh hb];simp,fun w hw=>by cases hw⟩
theorem Ziz {x:Dk}(h:Cy x):Cy (Fm x):=by
 obtain ⟨bs,ws,dd⟩:=x
 obtain ⟨h1,-⟩:=h
 refine ⟨?_,fun b hb=>.inl ?_,fun w hw=>(by cases hw),fun _=>⟨rfl,fun b hb=>?_⟩⟩
 ·show 1≤(List.replicate bs.length ([]:List Nat)).length∧(List.replicate bs.length ([]:List Nat)).length≤256∧_
  rw [List.length_replicate]
  exact ⟨h1.1,h1.2.1,by simp⟩
 ·rw [Zrh hb];rfl
 ·rw [Zrh hb];rfl
theorem Ziy {x:Dk}(h:C3 c D) (hx:D[m]?=some x):C3 c (D.set m (Fm x)):=by
 have hm:=(Zpk.1 hx).1
 refine ⟨by rw [List.length_set];exact h.1,fun i hi y hy=>?_⟩
 rw [List.length_set] at hi
 rw [List.getElem?_set] at hy
 by_cases q:m=i
 ·subst q
  rw [Zpn rfl,Zpn hm] at hy
  cases hy
  obtain ⟨h1,h2⟩:=h.2 m hi x hx
  exact ⟨by show ((List.replicate x.1.length ([]:List Nat)).length:Int)=_;rw [List.length_replicate];exact h1,Ziz h2⟩
 ·rw [Zpr q] at hy
  exact h.2 i hi y hy
theorem Zmz {x:Dk}(hT:Cv d D) (h8:Pp d D) (hsp:d.2.2.1.2.2.1=false) (hlo:d.2.2.1.2.1=-1) (hm:m<d.1.members.toNat) (hx:D[m]?=some x) (h0:0≤s) (h1:s<At d.1) {k:Nat}(hk:k<d.1.members.toNat):B0 (Bu d (JU m d.2.2.1)) (D.set m (Fm x)) s k=B0 d D s k:=by
 have hM:=(Hg hT.1).1
 have hM':=hM
 unfold Cfg.may at hM'
 have hml:=(Zpk.1 hx).1
 have hal:∀ i<d.1.members.toNat,Bd D i=false:=fun i hi=>by
  cases hq:D[i]? with
  | none=>unfold Bd;rw [hq];rfl
  | some y=>
   unfold Bd
   rw [hq]
   show y.2.2=false
   cases hyd:y.2.2 with
   | false=>rfl
   | true=>have:=(hT.2.2.2.1 i (by omega) y hq hyd).1;omega
 have hfo:CU d.2.2.1 s=-1:=by
  obtain ⟨c,bk,⟨ev,lo,sp,po,dn,nl,br⟩,R⟩:=d
  dsimp only at hsp hlo
  show (if sp=true∧s<po then (-1:Int) else lo)=-1
  rw [hsp,hlo];split <;> rfl
 have hfo2:CU (JU m d.2.2.1) s=m:=by
  obtain ⟨c,bk,⟨ev,lo,sp,po,dn,nl,br⟩,R⟩:=d
  show (if false=true∧s<0 then (-1:Int) else m)=m
  rw [Zpr (by simp)]
 have hti:=hT.2.2.2.2 s.toNat (by omega)
 rw [Int.toNat_of_nonneg h0] at hti
 obtain ⟨-,q2,q3⟩:=KJ hM h0 k
 have hf:BW (Bu d (JU m d.2.2.1)) (D.set m (Fm x)) s k=BW d D s k:=by
  show CN d.1 (D.set m (Fm x)) (CU (JU m d.2.2.1) s) s k=CN d.1 D (CU d.2.2.1 s) s k
  rw [hfo,hfo2]
  have e1:Bk (D.set m (Fm x)) (s+1) m d.1.members.toNat=Bk D (s+1) m d.1.members.toNat:=Sw _ fun j hj hp=>by rw [WO hml,Zpr fun h=>hp h.symm]
  have e2:=WO (D:=D) (m:=m) (j:=(Bi d.1 s k).toNat) (z:=Fm x) (p:=s+1) hml
  unfold Bm at e2
  have hL:∀ i<d.1.members.toNat,Do (D.set m (Fm x)) (m:Int) i↔i=m:=fun i hi=>by
   unfold Do
   rw [Zgu hml]
   by_cases q:m=i
   ·rw [Zpn q];exact ⟨fun _=>q.symm,fun _=>.inl (by omega)⟩
   ·rw [Zpr q,hal i hi]
    exact ⟨fun h=>h.elim (fun h=>by omega) (fun h=>by cases h),fun h=>absurd h.symm q⟩
  have hL0:¬Do D (-1) (Bi d.1 s k).toNat:=fun h=>by
   rcases h with h|h
   ·omega
   ·rw [hal _ q2] at h;cases h
  have hR:CN d.1 D (-1) s k=some (Bm D (s+1) (Bi d.1 s k).toNat):=by unfold CN;rw [Zpn hL0];rfl
  rw [hR]
  unfold CN
  by_cases hq:(Bi d.1 s k).toNat=m
  ·rw [Zpr fun h=>h ((hL _ q2).2 hq),Zpn fun i hi hne h=>hne (((hL i hi).1 h).trans hq.symm),hq,e1,Zev hM h0 h8 hfo hal hti hm]
  ·rw [Zpn fun h=>hq ((hL _ q2).1 h),e2,Zpr fun h=>hq h.symm];rfl
 unfold B0
 rw [hf];rfl
def rowA (ys:List DK) (s:St) (w:AV):Prop:=∃ r,w=.sl r 0 ys.length none∧s.get r=some (.row 60 (Bb ys))
theorem Wd {s:St}(h:rowA ys s w) (ho:∀ y ∈ ys,y.ok):Frz s w (Fw ys):=by
 obtain ⟨r,rfl,hg⟩:=h
 exact .sl r 0 _ _ _ 60 _ _ _ hg (fun i x hx=>by rw [Zpy];exact hx) (Ck (Hx ho)) (.inl rfl)
theorem Yo {P:Program}{f:Nat}{R:List AV->AV->Prop}(h:OvOk P f (Ao R)) {args:List AV}{u:AV}(hx:R args u) (hu:∀ u',R args u'->u'=u):C P f args St0 (fun v s'=>v=u∧s'=Aj St0 []):=by
 classical
 have e:Ao R args St0=.ok (Classical.choose (⟨u,hx⟩:∃ u,R args u)) St0:=by
  unfold Ao
  rw [dif_pos ⟨u,hx⟩]
 refine (h.2 args St0 _ _ e).mono ?_
 rintro v s' ⟨rfl,rfl⟩
 exact ⟨hu _ (Zqy (⟨u,hx⟩:∃ u,R args u)),rfl⟩
def Nd (args:List AV) (s:St) (u:AV) (s':St):Prop:=s'=s∧(TidF.R args u∨∃ d l w ys,args=[.agg l,w]∧dvC.r d l∧(∀ y ∈ ys,y.ok)∧ys.length≤1000∧rowA ys s w∧Cv d (ys.map Ae)∧u=.bool true)
theorem Zlw (h:OvOk P 8 TidF.O):OvOk P 8 (relS Nd):=by
 refine Jv h.1 ?_
 rintro args s u s' ⟨rfl,hor⟩
 rcases hor with hr|⟨d,l,w,ys,rfl,hd,ho,hn,hw,hT,rfl⟩
 ·classical
  have e:Ao TidF.R args s'=.ok (Classical.choose (⟨u,hr⟩:∃ u,TidF.R args u)) s':=by
   unfold Ao
   rw [dif_pos ⟨u,hr⟩]
  have hc:Classical.choose (⟨u,hr⟩:∃ u,TidF.R args u)=u:=by
   obtain ⟨x,h1,-,h2⟩:=Zqy (⟨u,hr⟩:∃ u,TidF.R args u)
   have hr2:=hr
   obtain ⟨y,g1,-,g2⟩:=hr2
   rw [h2,g2,TidF.S.inj h1 g1]
  rw [hc] at e
  exact h.2 args s' _ _ e
 ·have hsm:∀ d ∈ ys.map Ae,BG d:=fun d hd=>by
   obtain ⟨y,hy,rfl⟩:=Zqj.1 hd
   exact M3 (ho y hy)
  have hx:TidF.R [.agg l,Fw ys] (.bool true):=⟨(d,ys.map Ae,()),⟨_,_,rfl,hd,_,_,rfl,⟨_,rfl,MQ (SE ho hn)⟩,rfl⟩,hsm,by
   classical
   show AV.bool true=pB (Cv d (ys.map Ae))
   unfold pB;rw [Zpo hT]⟩
  have hu:∀ u',TidF.R [.agg l,Fw ys] u'->u'=.bool true:=fun u' ⟨y,g1,_,g2⟩=>by
   obtain ⟨x,h1,-,h2⟩:=hx
   rw [g2,h2,TidF.S.inj g1 h1]
  exact IE (args2:=[.agg l,Fw ys]) (.cons (.plain _ (dvC.hf hd)) (.cons (Wd hw ho) .nil)) rfl (Yo h hx hu)
theorem Zhi (h8:Con e 8 (relS Nd)) (hd:dvC.r d l) (hD:Ls dkC D v) (hsm:∀ x ∈ D,BG x) (Q:AV->St->Prop) (s:St) (a:Cv d D->Q (.bool true) s) (b:¬Cv d D->Q (.bool false) s):ESc e 8 [.agg l,v] s Q:=by
 classical
 refine ESc.relS h8 (u:=pB (Cv d D)) (s':=s) ⟨rfl,.inl ⟨(d,D,()),⟨_,_,rfl,hd,_,_,rfl,⟨_,rfl,hD⟩,rfl⟩,hsm,rfl⟩⟩ ?_
 rintro u s' ⟨rfl,hor⟩
 rcases hor with ⟨⟨d',D',_⟩,⟨_,_,e1,g1,_,_,e2,⟨_,e3,g2⟩,rfl⟩,-,rfl⟩|⟨d',l',w,ys,e1,-,-,-,⟨r,rfl,-⟩,-⟩
 ·cases e2
  cases e3
  cases e1
  have e1:=dvC.inj g1 hd
  have e2:=g2.inj hD
  dsimp only at e1 e2
  subst e1 e2
  show Q (pB (Cv d' D')) s'
  unfold pB
  by_cases h:Cv d' D'
  ·rw [Zpo h];exact a h
  ·rw [Zp0 h];exact b h
 ·injection e1 with _ e1
  injection e1 with e1 _
  subst e1
  have:=hD.hf
  cases this
theorem Zhj (h8:Con e 8 (relS Nd)) (hd:dvC.r d l) (ho:∀ y ∈ ys,y.ok) (hn:ys.length≤1000) (hT:Cv d (ys.map Ae)) (Q:AV->St->Prop) (s:St) (hw:rowA ys s w) (a:Q (.bool true) s):ESc e 8 [.agg l,w] s Q:=by
 refine ESc.relS h8 (u:=.bool true) (s':=s) ⟨rfl,.inr ⟨d,l,w,ys,rfl,hd,ho,hn,hw,hT,rfl⟩⟩ ?_
 rintro u s' ⟨rfl,hor⟩
 rcases hor with ⟨⟨d',D',_⟩,⟨_,_,e1,g1,_,_,e2,⟨_,e3,g2⟩,rfl⟩,-,rfl⟩|⟨d',l',w,ys,-,-,-,-,-,-,rfl⟩
 ·cases e2
  cases e3
  injection e1 with _ e1
  injection e1 with e1 _
  obtain ⟨r,rfl,-⟩:=hw
  subst e1
  have:=g2.hf
  cases this
 ·exact a
def P5 (args:List AV) (s:St) (u:AV) (s':St):Prop:=s'=s∧u=.bool true∧∃ x y z w ys,args=[x,y,z,w]∧AM.hf x=true∧AM.hf y=true∧AM.hf z=true∧(∀ y ∈ ys,y.ok)∧rowA ys s w∧Tp [x,y,z,Fw ys] (.bool true)
theorem Zmb (h:OvOk P 13 (Ao Tp)):OvOk P 13 (relS P5):=by
 refine Jv h.1 ?_
 rintro args s u s' ⟨rfl,rfl,x,y,z,w,ys,rfl,h1,h2,h3,ho,hw,hr⟩
 refine IE (args2:=[x,y,z,Fw ys]) (.cons (.plain _ h1) (.cons (.plain _ h2) (.cons (.plain _ h3) (.cons (Wd hw ho) .nil)))) rfl (Yo h hr ?_)
 rintro u ⟨_,_,_,_,_,_,_,_,_,_,_,_,_,_,rfl⟩
 rfl
theorem Zh3 {e:Env}(h13:Con e 13 (relS P5)) {d d':Dv}{l l':List AV}{D:List Dk}{ys:List DK}{v w:AV}(hd:dvC.r d l) (hD:Ls dkC D v) (hr:Ni d D) (hd':dvC.r d' l') (ho:∀ y ∈ ys,y.ok) (hn:ys.length≤1000) (hr':Ni d' (ys.map Ae)) (hM:d.1.may) (hc:d'.1=d.1) (hv:∀ s k:Int,0≤s->s<At d.1->0≤k->k<d.1.members->∃ b,B0 d D s k=some b∧B0 d' (ys.map Ae) s k=some b) (Q:AV->St->Prop) (s:St) (hw:rowA ys s w) (q:Q (.bool true) s):ESc e 13 [.agg l,v,.agg l',w] s Q:=by
 refine ESc.relS h13 (u:=.bool true) (s':=s) ⟨rfl,rfl,_,_,_,_,ys,rfl,dvC.hf hd,hD.hf,dvC.hf hd',ho,hw,d,l,D,v,d',l',ys.map Ae,Fw ys,rfl,⟨hd,hD,hr⟩,⟨hd',MQ (SE ho hn),hr'⟩,hM,hc,hv,rfl⟩ ?_
 rintro u s' ⟨rfl,rfl,-⟩
 exact q
theorem Zm1 (h:y.ok):∃ z:DK,z.ok∧Ae z=Fm (Ae y)∧z.c=IW (Ae y):=by
 have hs:=M3 h
 obtain ⟨z,hz,e⟩:=IK (Zm2 hs)
 exact ⟨z,KI hz (Zix hs),by show (z.bs,z.ws.map _,z.dead)=_;rw [hz.b,hz.w,hz.d],e.symm⟩
theorem Zi1 (h:∀ i<d.2.2.2.1.length,∀ x,d.2.2.2.1[i]?=some x->x.2.2.2.1=0) (s:Int):DQ d s=0:=by
 unfold DQ
 split
 ·cases hx:d.2.2.2.1[(A9 d.2.2.2.1 s).toNat]? with
  | none=>rfl
  | some x=>exact h _ (Zpk.1 hx).1 x hx
 ·rfl
theorem Zck (hT:Cv d (ys.map Ae)) (hJ:JW (d,l,ys) x j) (hj:0<j) (hst:D3 x.1=[]) (hid:∀ i<d.2.2.2.1.length,∀ x,d.2.2.2.1[i]?=some x->x.2.2.2.1=0) {m:Int}(hm:0≤m∧m<d.1.members):
 (x.1.2.2.1.2.2.1=false∧x.1.2.2.1.2.1=-1)∧∃ y z:DK,x.2.2[m.toNat]?=some y∧dkC.r (Ae y) y.c∧(BG (Ae y)∧Cy (Ae y))∧z.c=IW (Ae y)∧((∀ w ∈ x.2.2.set m.toNat z,w.ok)∧(x.2.2.set m.toNat z).length≤1000)∧Ni (Bu x.1 (JU m x.1.2.2.1)) ((x.2.2.set m.toNat z).map Ae)∧∀ s k:Int,0≤s->s<At d.1->0≤k->k<d.1.members->∃ b,B0 d (ys.map Ae) s k=some b∧B0 (Bu x.1 (JU m x.1.2.2.1)) ((x.2.2.set m.toNat z).map Ae) s k=some b:=by
 obtain ⟨hw,j2,j3,j4,j5,j6⟩:=hJ
 obtain ⟨⟨c',bk',o',R'⟩,l',ys'⟩:=x
 obtain ⟨c,bk,o,R⟩:=d
 dsimp only at j2 j3 j4 j5 j6 hst hm hid
 subst j2 j3
 obtain ⟨e1,e2⟩:=Znw (j6 hj) hst (Zi1 hid)
 have hT':=hw.t
 have h20:=hT'.2.1
 obtain ⟨hM,hL,hsh⟩:=Hg hT'.1
 dsimp only at hT' h20 hsh hM e1 e2
 have h8:=Ym (d:=(c',bk',o',R')) (MQ hw.ls) h20
 have hl:=h20.1
 rw [Zpq] at hl
 have hml:m.toNat<ys'.length:=by omega
 obtain ⟨y,hy⟩:∃ y,ys'[m.toNat]?=some y:=⟨_,Zpj hml⟩
 have hyo:=hw.o y (Zp5 hy)
 obtain ⟨z,z1,z2,z3⟩:=Zm1 hyo
 have hDy:(ys'.map Ae)[m.toNat]?=some (Ae y):=by rw [Zqi,hy];rfl
 have hset:(ys'.set m.toNat z).map Ae=(ys'.map Ae).set m.toNat (Fm (Ae y)):=by rw [List.map_set,z2]
 have ho2:∀ w ∈ ys'.set m.toNat z,w.ok:=fun w hw'=>by
  rcases List.mem_or_eq_of_mem_set hw' with h|rfl
  ·exact hw.o w h
  ·exact z1
 refine ⟨⟨e1,e2⟩,y,z,hy,Y7 ⟨rfl,hyo⟩,⟨M3 hyo,(h20.2 _ (by rw [Zpq];exact hml) _ hDy).2⟩,z3,⟨ho2,by rw [List.length_set];exact hw.n⟩,⟨?_,fun w hw'=>?_,hsh⟩,fun s k h0 h1 h2 h3=>?_⟩
 ·show C3 c' ((ys'.set m.toNat z).map Ae)
  rw [hset];exact Ziy h20 hDy
 ·obtain ⟨q,hq,rfl⟩:=Zqj.1 hw'
  exact M3 (ho2 q hq)
 ·have h3:k<c'.members:=h3
  have hm2:m<c'.members:=hm.2
  obtain ⟨K,rfl⟩:∃ K:Nat,k=K:=⟨k.toNat,by omega⟩
  obtain ⟨b,hb⟩:=Zhb hT h0 h1 (k:=K) (by show K<c'.members.toNat;omega)
  refine ⟨b,hb,?_⟩
  rw [hset]
  have:=Zmz hT' h8 e1 e2 (m:=m.toNat) (by show m.toNat<c'.members.toNat;omega) hDy h0 h1 (k:=K) (by show K<c'.members.toNat;omega)
  rw [Int.toNat_of_nonneg hm.1] at this
  exact (this.trans (j5 s h0 h1 K)).trans hb
set_option maxHeartbeats 4000000 in
theorem Zcj (hE:EM P e) (h6:Con e 6 MJ) (h7:Con e 7 g25F.O) (h8:Con e 8 (relS Nd)) (h13:Con e 13 (relS P5)) (h14:Con e 14 (relS N5)) (h15:Con e 15 (Ao PD)) (h16:Con e 16 dieF.O) (hd:dvC.r d l) (hD:Ls dkC D v) {m:Int}(hm:Ab m):C P 4 [.agg l,v,.int .i64 m] St0 (fun u _=>u=.bool true):=by
 refine C.of_G hE g4 ?_
 have hrow:=dvC.hf hd
 have hvf:=hD.hf
 have hgr:=fun (Q:AV->St->Prop) s a b=>@bF.u _ _ _ _ e 7 s Q [.agg l,v] h7 (d,D,()) ⟨_,_,rfl,hd,v,_,rfl,⟨_,rfl,hD⟩,rfl⟩ trivial a b
 have hal:=fun (Q:AV->St->Prop) s (q:Q (.bool true) s)=>@ESc.ov e 6 [] s Q MJ (.bool true) s h6 rfl q
 dsimp only at hgr
 by_cases hg:Pd d D
 ·have hg4:∀ x ∈ D,¬Fv x:=fun x hx=>by
   obtain ⟨i,hi⟩:=Zra hx
   exact (hg.2.2.2.2 i (Zpk.1 hi).1 x hi).1
  have hsm:∀ x ∈ D,BG x:=fun x hx=>Zl4 (hg4 x hx)
  have htd:=fun Q s a b=>Zhi h8 hd hD hsm Q s a b
  by_cases hT:Cv d D
  ·by_cases hmr:0≤m∧m<d.1.members
   ·obtain ⟨ys,hY,rfl⟩:=Zol hD hsm
    obtain ⟨hM,hL,hsh⟩:=Hg hT.1
    have h20:=hT.2.1
    have hoks:∀ y ∈ ys,y.ok:=fun y hy=>by obtain ⟨l,-,h⟩:=hY.mem hy;exact h
    have hyl:ys.length≤1000:=by
     have:=h20.1
     unfold Cfg.may at hM
     rw [Zpq] at this
     omega
    have hw:WOk (d,l,ys):=⟨hd,hoks,hyl,hT,Znf hg hsh hM,by have:=hg.2.1;show d.2.2.2.2.1.2.2.2.2.length≤1000;omega⟩
    obtain ⟨x,j,f,hR⟩:∃ x j f,E4 130 0 (d,l,ys)=(x,j,f):=⟨_,_,_,rfl⟩
    have hJ:=Ry 130 0 _ (jw0 hw) x j f hR
    have hwh:=Zlp h14 hw hY hR
    have hend:=fun (hf:f=true) hj hid=>Zck hT hJ hj (Zha (by rw [hR,hf])) hid hmr
    have hrd:=fun {l2:List AV}{zs:List DK}{D2:Dv}{w:AV}=>@Zh3 e h13 d D2 l l2 (ys.map Ae) zs v w hd hD ⟨h20,hsm,hsh⟩
    have hxr:=hJ.1.r
    have hxo:=hJ.1.o
    have hxn:=hJ.1.n
    have hxt:=hJ.1.t
    have hj2:=hJ.2.1
    have hj3:=hJ.2.2.1
    clear hJ hR hw hsm hg4
    obtain ⟨⟨c',bk',⟨ev',lo',sp',po',dn',nl',br'⟩,R'⟩,l',ys'⟩:=x
    obtain ⟨c,bk,⟨ev,lo,sp,po,dn,nl,br⟩,hs,⟨ag,sq,tl,us,L⟩,fs,nx,so⟩:=d
    dsimp only at hmr hM hwh hend hrd hxr hxo hxn hxt hj2 hj3
    subst hj2 hj3
    have hx2:dvC.r (c',bk',(ev',lo',sp',po',dn',nl',br'),hs,(ag,sq,tl,us,L),fs,nx,so) l':=hxr
    obtain ⟨hv,lv,fv,rfl,⟨ho,-⟩,hH,-⟩:=B1 hd
    obtain ⟨hv',lv',fv',rfl,⟨-,o1,o2,o3,o4,-⟩,-⟩:=B1 hx2
    obtain ⟨cs,hcs,hcl,hn⟩:=hH.nth
    have hlt:=hxt.2.2.1
    have hbr:br'=false:=hlt
    subst hbr
    have hlB:Br c' (ev',lo',sp',po',dn',nl',false):=(Hg hxt.1).2.1
    conv=>whnf
    repeat' (first|(refine hgr _ _ (fun q=>?_) (fun q=>?_) <;> conv=>whnf)|(refine htd _ _ (fun q=>?_) (fun q=>?_) <;> conv=>whnf)|((first|refine hal _ _ ?_|refine Au ?_|refine Av ?_);conv=>whnf)|refine Aa ?_ ?_|refine AR ?_ ?_|(intro _;first|omega|conv=>whnf))
    ·exact absurd hg (by assumption)
    ·refine Aw hE hs.length (fun i=>[(1,v),(2,.int .i64 m),(3,.ptr 0 0),(7,.bool true),(8,.int .i64 (i:Int))]) (fun _=>[.row 33 (c'.c++[.bool bk,.int .u32 ev,.int .i64 lo,.bool sp,.int .i64 po,.int .i64 dn,.bool nl,.bool br,hv,.int .u32 ag,.int .u32 sq,.int .i64 tl,.int .i64 us,lv,fv,.int .i64 nx,.bool so])]) (fun i=>∀ j<i,∀ x,hs[j]?=some x->x.2.2.2.1=0) (fun k h=>by omega) (Abs.tells (rs:=[0]) .a) ?_
     intro i hi hI
     conv=>whnf
     refine Am hcs ?_;conv=>whnf
     by_cases hlt:i<hs.length
     ·obtain ⟨⟨st,bl,di,ph,de,sq2⟩,_,r,hx,hxr,hdp⟩:=hn i hlt
      obtain ⟨bv,dv,rfl,-⟩:=Cm hxr
      repeat' (first|((first|refine Ar hcs hlt hdp ?_|refine As ?_|refine Ac ?_|refine ⟨rfl,?_⟩);conv=>whnf)|refine Aa ?_ ?_|refine Al ?_ ?_|(intro _;first|omega|conv=>whnf))
      ·rfl
      ·exact ⟨hlt,AZ hI fun g hg=>by rw [hx] at hg;cases hg;show ph=0;omega,Abs.tells (rs:=[0]) .a⟩
     ·have hid:=fun j (hj:j<hs.length)=>hI j (by omega)
      by_cases hfj:f=true∧0<j
      ·obtain ⟨rfl,hj0⟩:=hfj
       obtain ⟨⟨e1,e2⟩,y,z,hy,hyr,⟨hys,hyp⟩,hzc,⟨hzo,hzn⟩,hrd2,hvw⟩:=hend rfl hj0 hid
       subst e1 e2
       have hml:m.toNat<ys'.length:=(Zpk.1 hy).1
       have hlk:m.toNat*3+3≤(Bb ys').length:=by rw [OG];omega
       have hld:((Bb ys').drop (m.toNat*3)).take 3=y.c:=by
        rw [Rs hy];rfl
       have hml2:m<ys'.length:=by omega
       have hrd2':=fun w=>hrd (w:=w) (M8 hx2 (HB o1 hm (by unfold Ab;omega) (by unfold Ab;omega))) hzo hzn hrd2 hM rfl hvw
       have hrow2:some (AObj.row 60 ((Bb ys').take (m.toNat*3)++z.c++(Bb ys').drop (m.toNat*3+z.c.length)))=some (.row 60 (Bb (ys'.set m.toNat z))):=by
        rw [← RS hml];rfl
       have hki:=Ziw h15 hyr hys hyp
       have hdi:=fun (Q:AV->St->Prop) s q=>@Fn.u _ e 16 s Q dieF [.agg c'.c,.agg [.int .u32 ev',.int .i64 (-1),.bool false,.int .i64 po',.int .i64 dn',.bool nl',.bool false],.int .i64 m,.bool false] h16 (c',(ev',-1,false,po',dn',nl',false),m,()) ⟨_,_,rfl,⟨rfl,ho⟩,_,_,rfl,HB o1 o2 o3 o4,_,_,rfl,⟨rfl,Bf hm⟩,rfl⟩ ⟨hM,hlB,rfl,hmr.1,hmr.2⟩ q
       repeat' (first|(refine hwh _ _ (fun _ _=>?_) (fun w=>?_) <;> conv=>whnf)|((first|refine Zhj h8 hx2 hxo hxn hxt _ _ ⟨1,rfl,rfl⟩ ?_|refine G4 rfl rfl hmr.1 hml2 ?_|refine Au ?_|refine Av ?_);conv=>whnf)|refine Aa ?_ ?_|refine Al ?_ ?_|(intro _;first|omega|conv=>whnf))
       refine BE [y.bv,y.wv,.bool y.dead] (by show load 1 (0+m.toNat*3) 3 _=_;rw [Zpy,G8 (e:=60) (cs:=Bb ys') rfl hlk,hld];rfl) ?_;conv=>whnf
       repeat' (first|((first|refine hki _ _ ?_|refine hdi _ _ ?_|refine G4 rfl rfl hmr.1 hml2 ?_);conv=>whnf)|refine Al ?_ ?_|(intro _;first|omega|conv=>whnf))
       refine BE _ (by show storeAt 1 (0+m.toNat*3) (IW (Ae y)) _=_;rw [Zpy,← hzc];exact FU (e:=60) (cs:=Bb ys') rfl hlk) ?_;conv=>whnf
       repeat' (first|(refine hrd2' _ _ _ ⟨1,by rw [List.length_set];rfl,hrow2⟩ ?_;conv=>whnf)|fail)
       all_goals rfl
      ·repeat' (first|(refine hwh _ _ (fun a b=>absurd ⟨a,b⟩ hfj) (fun w=>?_) <;> conv=>whnf)|(refine Av ?_;conv=>whnf)|refine Aa ?_ ?_|(intro _;first|omega|conv=>whnf))
       rfl
    ·exact absurd hT (by assumption)
   ·clear hsm hg4
    obtain ⟨c,bk,⟨ev,lo,sp,po,dn,nl,br⟩,hs,⟨ag,sq,tl,us,L⟩,fs,nx,so⟩:=d
    obtain ⟨hv,lv,fv,rfl,-⟩:=B1 hd
    dsimp only at hmr
    conv=>whnf
    repeat' (first|(refine hgr _ _ (fun q=>?_) (fun q=>?_) <;> conv=>whnf)|(refine htd _ _ (fun q=>?_) (fun q=>?_) <;> conv=>whnf)|((first|refine hal _ _ ?_|refine Au ?_|refine Av ?_);conv=>whnf)|refine Aa ?_ ?_|refine AR ?_ ?_|(intro _;first|omega|conv=>whnf))
    all_goals first
     | rfl
     | exact absurd hg (by assumption)
     | exact absurd hT (by assumption)
     | exact absurd (by omega) hmr
  ·clear hsm hg4
   obtain ⟨c,bk,⟨ev,lo,sp,po,dn,nl,br⟩,hs,⟨ag,sq,tl,us,L⟩,fs,nx,so⟩:=d
   obtain ⟨hv,lv,fv,rfl,-⟩:=B1 hd
   conv=>whnf
   repeat' (first|(refine hgr _ _ (fun q=>?_) (fun q=>?_) <;> conv=>whnf)|(refine htd _ _ (fun q=>?_) (fun q=>?_) <;> conv=>whnf)|((first|refine hal _ _ ?_|refine Au ?_|refine Av ?_);conv=>whnf)|refine Aa ?_ ?_|refine AR ?_ ?_|(intro _;first|omega|conv=>whnf))
   all_goals first
    | rfl
    | exact absurd hg (by assumption)
    | exact absurd (by assumption) hT
 ·obtain ⟨c,bk,⟨ev,lo,sp,po,dn,nl,br⟩,hs,⟨ag,sq,tl,us,L⟩,fs,nx,so⟩:=d
  obtain ⟨hv,lv,fv,rfl,-⟩:=B1 hd
  conv=>whnf
  repeat' (first|(refine hgr _ _ (fun q=>?_) (fun q=>?_) <;> conv=>whnf)|(refine hal _ _ ?_;conv=>whnf)|fail)
  all_goals first
   | rfl
   | exact absurd hg (by assumption)
end Go.AM
namespace Go.AM
open X
def Ce.Ofs {α:Type}(A:Ce α) (Ts:List Ty):Prop:=∀ l,Shapes Ts l->∃ x,A.r x l
theorem Im {α:Type}{A:Ce α}{T:Ty}(h:A.Of T):A.Ofs [T]:=fun l hl=>by
 obtain ⟨a,b,rfl,h1,h2⟩:=NL hl
 rw [QH h2,Zqu]
 exact h a h1
variable {Ts:List Ty}
theorem BI {α β:Type}{A:Ce α}{B:Ce β}{T:Ty}(h:A.Of T) (h':B.Ofs Ts):(A.pr B).Ofs (T::Ts):=fun l hl=>by
 obtain ⟨a,b,rfl,h1,h2⟩:=NL hl
 obtain ⟨x,hx⟩:=h a h1
 obtain ⟨y,hy⟩:=h' b h2
 exact ⟨(x,y),a,b,rfl,hx,hy⟩
theorem Hl {α:Type}{A:Ce α}(h:A.Ofs Ts):A.Of (.st Ts):=fun l hl=>by
 cases hl with|st _ _ hs=>exact h l hs
def tBs:Ty:=.sl tByt
def tLo:List Ty:=[.int .u32,.int .i64,.bool,.int .i64,.int .i64,.bool,.bool]
def tHd:List Ty:=[.int .i64,tBs,.sl .bool,.int .u8,.bool,.int .u32]
def tAk:List Ty:=[.int .u8,.int .i64,.int .i64,tByt]
def tFl:List Ty:=[.int .i64,.st tAk,tByt,.sl (.int .u32),tBs]
def tDv:List Ty:=[.st tCfg,.bool,.st tLo,.sl (.st tHd),.st tLog,.sl (.st tFl),.int .i64,.bool]
def tDk:List Ty:=[tBs,.sl (.st [.int .i64,tByt]),.bool]
theorem OY:bytC.Of tByt:=Hm Rv
theorem SU:blkC.Of tBs:=Hm OY
theorem Zmk:cfgC.Of (.st tCfg):=Hl fun l h=>by
 obtain ⟨c,hc,rfl⟩:=Zno h
 exact ⟨c,rfl,hc⟩
theorem Zoc:lvC.Of (.st tLv):=Hl fun l h=>by
 obtain ⟨x,hx,rfl⟩:=Zok h
 exact ⟨x,rfl,hx⟩
theorem Zod:loC.Of (.st tLo):=Hl (BI (Em _) (BI (Em _) (BI In (BI (Em _) (BI (Em _) (BI In (Im In)))))))
theorem Zof:hdC.Of (.st tHd):=Hl (BI (Em _) (BI SU (BI (Hm In) (BI Rv (BI In (Im (Em _)))))))
theorem Zoe:lgC.Of (.st tLog):=Hl (BI (Em _) (BI (Em _) (BI (Em _) (BI (Em _) (Im (Hm Zoc))))))
theorem Zoi:akC.Of (.st tAk):=Hl (BI Rv (BI (Em _) (BI (Em _) (Im OY))))
theorem Zog:ftC.Of (.st tFl):=Hl (BI (Em _) (BI Zoi (BI OY (BI (Hm (Em _)) (Im SU)))))
theorem of_dv:dvC.Ofs tDv:=BI Zmk (BI In (BI Zod (BI (Hm Zof) (BI Zoe (BI (Hm Zog) (BI (Em _) (Im In)))))))
theorem Zoh:dkC.Of (.st tDk):=Hl (BI SU (BI (Hm (Hl (BI (Em _) (Im OY)))) (Im In)))
variable {P:Program}{t e:TypeId}{v:Value}{ps:List MemPlace}{r:Reach}{base:Nat}
theorem Zd6 {H:Type}{enc:TypeId×Value->H}{W:World}{T:Ty}{d:DataW H}(hu:P.underlying t=some (.slice e)) (hT:TyOf P t (.sl T) 1) (hval:Value.okWide P W r base t v) (h:DataW.Trod enc P W 0 (fun _=>true) true t v d ps):
 ∃ u,Shape (.sl T) [u]∧VR (FJ W) u v:=by
 obtain ⟨a,len,cap,rfl⟩:=WideShapes.okWide_slice hu hval
 obtain ⟨fuel,hf⟩:=h
 obtain ⟨l,h1,h2,h3,h4⟩:=UR fuel hT hf
 cases l with
 | nil=>simp at h2
 | cons u l=>
  have:l=[]:=by simp at h2;exact h2
  subst this
  cases h3 with
  | cons p q=>exact ⟨u,h1,p⟩
theorem disks_arg {H:Type}{enc:TypeId×Value->H}{W:World}{d:DataW H}(hu:P.underlying t=some (.slice e)) (hT:TyOf P t (.sl (.st tDk)) 1) (hval:Value.okWide P W r base t v) (h:DataW.Trod enc P W 0 (fun _=>true) true t v d ps):
 ∃ u D,VR (FJ W) u v∧Ls dkC D u:=by
 obtain ⟨u,h1,h2⟩:=Zd6 hu hT hval h
 obtain ⟨D,v',e,hL⟩:=Hm Zoh _ h1
 cases e
 exact ⟨u,D,h2,hL⟩
end Go.AM
