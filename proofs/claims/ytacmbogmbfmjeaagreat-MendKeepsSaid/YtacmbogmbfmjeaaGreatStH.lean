/-
 Functions of the program as the abstract machine reads them, and what is stated of them, checked by the kernel. No conditions.
-/
import Derived.Test.YtacmbogmbfmjeaaGreatStG
import Derived.Test.YtacmbogmbfmjeaaGreatStF
import Derived.Test.YtacmbogmbfmjeaaGreatStE
import Derived.Test.YtacmbogmbfmjeaaGreatStD
import Derived.Test.YtacmbogmbfmjeaaGreatStA
set_option linter.unusedVariables false
set_option linter.unusedSimpArgs false
set_option linter.unnecessarySimpa false
set_option maxRecDepth 100000
namespace Go.AM
attribute [local irreducible] W
open X
def G8 (c:Cfg) (o:Lo) (op:Bool) (i:Nat):List Nat:=J8 (Ei c (o.1+1) (i:Int) o.2.1 o.2.2.2.2.1 op)
def EB (c:Cfg) (o:Lo) (op:Bool) (n:Nat):List AV:=(List.range n).flatMap fun (i:Nat)=>[AV.int .i64 (i:Int),.int .u8 2,.int .i64 0,.fz 128 (some 128) (Ab (G8 c o op i))]
theorem UC (c:Cfg) (o:Lo) (op:Bool) (m:Nat):EB c o op (m+1)=EB c o op m++[.int .i64 (m:Int),.int .u8 2,.int .i64 0,.fz 128 (some 128) (Ab (G8 c o op m))]:=by unfold EB;rw [List.range_succ,List.flatMap_append];rfl
theorem Re (c:Cfg) (o:Lo) (op:Bool) (m:Nat):hfs (EB c o op m)=true:=hfs_iff.2 fun v hv=>by
 obtain ⟨s,_,hv⟩:=List.mem_flatMap.1 hv
 simp only [Zrj,List.not_mem_nil,or_false] at hv
 rcases hv with rfl|rfl|rfl|rfl <;> rfl
theorem Vv (c:Cfg) (o:Lo) (op:Bool) (m:Nat):(EB c o op m).length=m*4:=by
 induction m with
 | zero=>rfl
 | succ m ih=>rw [UC,Zqn,ih];simp;omega
def DW:Lo→Lo
 | (ev,r)=>(ev+1,r)
def G5 (c:Cfg) (o:Lo) (op:Bool):AV:=if o.1=2147483648 then .tup [.agg [.int .u32 0,.int .i64 0,.bool false,.int .i64 0,.int .i64 0,.bool false,.bool false],.nils,.int .i64 9] else .tup [.agg (DT (DW o)),.fz c.members.toNat none (EB c o op c.members.toNat),.int .i64 0]
noncomputable def lbsF:Fn (Cfg×Lo×Bool×Unit):=⟨.g cfgC (.g loC (.v Ce.bool .nil)),fun x=>x.1.may∧Bq x.1 x.2.1∧x.2.1.2.2.2.2.2.2=false∧(x.2.1.2.2.1=true∨x.2.1.2.1=-1),fun x=>G5 x.1 x.2.1 x.2.2.1⟩
variable {e:Env}
theorem Zhn (hE:EM P e) (h39:Con e 39 lossF.O) (h181:Con e 181 (Ag Pa)):OvOk P 137 lbsF.O:=by
 refine Bs g137.b ?_
 rintro ⟨c,⟨ev,lo,sp,po,dn,nl,br⟩,op,_⟩ _ ⟨_,_,rfl,⟨rfl,hc⟩,_,_,rfl,hlo,_,_,rfl,e1,rfl⟩ ⟨hM,hL,hbr,hsp⟩
 cases e1
 have hhf:AM.hf (lbsF.out (c,(ev,lo,sp,po,dn,nl,br),op,()))=true:=by
  show AM.hf (G5 c (ev,lo,sp,po,dn,nl,br) op)=true
  unfold G5;split <;> rfl
 refine ⟨hhf,C.of_G hE g137 ?_⟩
 have hck:=fun (Q:AV→St→Prop) s a=>@cF.u _ _ _ _ e 39 s Q _ h39 (c,(ev,lo,sp,po,dn,nl,br),()) ⟨_,_,rfl,⟨rfl,hc⟩,_,_,rfl,hlo,rfl⟩ trivial (fun _=>a) (fun q=>absurd (And.intro hM hL) q)
 obtain ⟨rfl,h1,h2,h3,h4⟩:=Gu hlo
 dsimp only at hM hL hc hsp hbr hck
 subst hbr
 have hM':=hM
 unfold Cfg.may at hM'
 have hL':=hL
 unfold Bq at hL'
 have hx:lo=-1→dn=0:=fun h=>by
  rcases hsp with h'|h'
  ·have:=(hL'.2.2.2.1 h').1;omega
  ·cases sp with
   | true=>have:=(hL'.2.2.2.1 rfl).1;omega
   | false=>exact (hL'.2.2.2.2 rfl).2
 have hdn:0≤dn∧dn≤Ar c:=by
  have:=(B4 hM).1
  cases sp with
  | true=>have:=hL'.2.2.2.1 rfl;omega
  | false=>have:=(hL'.2.2.2.2 rfl).2;omega
 unfold Be at h1
 have fin9:ev=2147483648→∀ st,Frz st (.tup [.agg [.int .u32 0,.int .i64 0,.bool false,.int .i64 0,.int .i64 0,.bool false,.bool false],.nils,.int .i64 9]) (lbsF.out (c,(ev,lo,sp,po,dn,nl,false),op,())):=fun h st=>by
  show Frz st _ (G5 c (ev,lo,sp,po,dn,nl,false) op)
  unfold G5;rw [Zqd h];exact .plain _ rfl
 have fin0:ev≠2147483648→∀ st r,st.get r=some (.row 79 (EB c (ev,lo,sp,po,dn,nl,false) op c.members.toNat))→Frz st (.tup [.agg [.int .u32 (ev+1),.int .i64 lo,.bool sp,.int .i64 po,.int .i64 dn,.bool nl,.bool false],.sl r 0 c.members.toNat none,.int .i64 0]) (lbsF.out (c,(ev,lo,sp,po,dn,nl,false),op,())):=fun h st r hg=>by
  show Frz st _ (G5 c (ev,lo,sp,po,dn,nl,false) op)
  unfold G5;rw [Zqh h]
  exact .tup _ _ (.cons (.plain _ rfl) (.cons (.sl r 0 _ _ _ 79 _ _ _ hg (fun i x hx=>by rw [Zqo];exact hx) (Cz (Re _ _ _ _)) (.inl rfl)) (.cons (.plain _ rfl) .nil)))
 have hlw:ev≠2147483648→∀ i:Nat,(i:Int)<c.members→∀ (Q:AV→St→Prop) s,Q (.tup [.fz 128 (some 128) (Ab (G8 c (ev,lo,sp,po,dn,nl,false) op i)),.int .i64 0]) s→ESc e 181 [.agg [.int .u32 c.id,.int .u32 (ev+1),.int .i64 c.members,.int .i64 c.chunk,.int .i64 c.rows,.int .i64 c.log,.int .i64 (i:Int),.int .i64 lo,.int .i64 dn,.bool op]] s Q:=fun hev i hi Q s q=>by
  have hP:MV c (ev+1) (i:Int) lo dn:=⟨by omega,by omega,⟨hL'.2.1,hL'.2.2.1⟩,hdn,hx⟩
  refine ESc.rel h181 ⟨_,c,ev+1,(i:Int),lo,dn,op,rfl,hc,hM,hP,rfl⟩ ?_
  rintro u ⟨c',ev',me',lo',dn',op',e1,-,-,-,hu⟩
  have e3:Ei c' ev' me' lo' dn' op'=Ei c (ev+1) (i:Int) lo dn op:=by
   have e1:=(Zql e1).1
   injection e1 with e1
   unfold Fb at e1
   simp only [List.cons.injEq,AV.int.injEq,AV.bool.injEq,true_and,and_true] at e1
   obtain ⟨q1,q2,q3,q4,q5,q6,q7,q8,q9,q10⟩:=e1
   unfold Ei
   rw [q1,q2,q3,q4,q5,q6,q7,q8,q9,q10]
  have e2:J8 (Ei c (ev+1) (i:Int) lo dn op)=G8 c (ev,lo,sp,po,dn,nl,false) op i:=by unfold G8;rfl
  rw [hu,e3,e2];exact q
 generalize lbsF.out _=O at *
 change VW P e 0 _ (Ah [.agg c.c,.agg _,.bool op] 0 .lf) St0 none [] _
 by_cases hev:ev=2147483648
 ·subst hev
  conv=>whnf
  repeat' (first|(refine hck _ _ ?_;conv=>whnf)|refine v5 ?_ ?_|refine v6 ?_ ?_|(intro _;first|omega|conv=>whnf))
  exact fin9 rfl _
 ·have hw:=hlw hev
  have f0:=fin0 hev
  have hm0:∃ M:Nat,c.members=M∧c.members.toNat=M∧M≤16∧3≤M:=⟨c.members.toNat,by omega,rfl,by omega,by omega⟩
  obtain ⟨M,m1,m2,m3,m4⟩:=hm0
  conv=>whnf
  repeat' (first|((first|refine hck _ _ ?_|refine C6 ?_);conv=>whnf)|refine v5 ?_ ?_|refine v6 ?_ ?_|(intro _;first|omega|conv=>whnf))
  clear fin9 fin0 hlw
  rw [show (ev+1) % 4294967296=ev+1 by omega]
  refine Ax hE M (fun i=>[(2,.bool op),(3,.ptr 0 0),(4,.ptr 1 0),(6,.ptr 2 0),(10,MT i 3),(36,.int .i64 c.members),(37,.int .i64 (i:Int))]) (fun i=>match i with
   | 0=>[.row 24 c.c,.row 26 [.int .u32 (ev+1),.int .i64 lo,.bool sp,.int .i64 po,.int .i64 dn,.bool nl,.bool false],.row 26 [.int .u32 0,.int .i64 0,.bool false,.int .i64 0,.int .i64 0,.bool false,.bool false]]
   | i+1=>[.row 24 c.c,.row 26 [.int .u32 (ev+1),.int .i64 lo,.bool sp,.int .i64 po,.int .i64 dn,.bool nl,.bool false],.row 26 [.int .u32 0,.int .i64 0,.bool false,.int .i64 0,.int .i64 0,.bool false,.bool false],.row 79 (EB c (ev,lo,sp,po,dn,nl,false) op (i+1))]) (fun _=>True) trivial (Abs.tells (rs:=[0,1,2]) .a) ?_
  intro i hi _
  by_cases hlt:i<M
  ·have hwi:=hw i (by omega)
   have hfi:=Re c (ev,lo,sp,po,dn,nl,false) op (i+1)
   have hst:=UC c (ev,lo,sp,po,dn,nl,false) op i
   have hli:=Vv c (ev,lo,sp,po,dn,nl,false) op i
   have hsl:lo=(i:Int)→sp=true:=fun h=>hsp.elim id fun h'=>by omega
   generalize Ab (G8 c (ev,lo,sp,po,dn,nl,false) op i)=B at *
   rcases i with _|i
   ·cases sp
    all_goals
     conv=>whnf
     repeat' (first|((first|refine hwi _ _ ?_|refine CJ (m:=1) ?_|refine v7 ?_|refine An ?_|refine As ?_|refine ⟨rfl,?_⟩);conv=>whnf)|refine v1 ?_ ?_|refine v5 ?_ ?_|refine v6 ?_ ?_|(intro _;first|omega|conv=>whnf))
     all_goals first
      | exact ⟨hlt,trivial,Abs.tells (rs:=[0,1,2,4]) ⟨by decide,⟨r9,r9,r9,r9,r9,r9,r9,trivial⟩,⟨r9,r9,r9,⟨Bd hfi,by rw [AX hfi,hst];rfl⟩,trivial⟩⟩⟩
      | exact absurd (hsl (by omega)) Bool.false_ne_true
   ·cases sp
    all_goals
     conv=>whnf
     repeat' (first|((first|refine hwi _ _ ?_|refine Cw (m:=1) (n:=i+1) (old:=EB c (ev,lo,_,po,dn,nl,false) op (i+1)) rfl rfl rfl rfl hli rfl (by decide) (by omega) ?_|refine v7 ?_|refine An ?_|refine As ?_|refine ⟨rfl,?_⟩);conv=>whnf)|refine v1 ?_ ?_|refine v5 ?_ ?_|refine v6 ?_ ?_|(intro _;first|omega|conv=>whnf))
     all_goals first
      | exact ⟨hlt,trivial,Abs.tells (rs:=[0,1,2,5]) ⟨by decide,⟨r9,r9,r9,r9,r9,r9,r9,trivial⟩,⟨r9,r9,r9,⟨Bd hfi,by rw [AX hfi,hst];rfl⟩,trivial⟩⟩⟩
      | exact absurd (hsl (by omega)) Bool.false_ne_true
  ·obtain rfl:i=M:=by omega
   obtain ⟨N,rfl⟩:∃ N,i=N+1:=⟨i-1,by omega⟩
   rw [m2] at f0
   conv=>whnf
   repeat' (first|refine v1 ?_ ?_|(intro _;first|omega|conv=>whnf))
   exact f0 _ 3 rfl
variable {c:Cfg}{o:Lo}
theorem Wh (hM:c.may) (h:Bq c o) (hsp:o.2.2.1=true) (hd:o.2.2.2.2.1<o.2.2.2.1) (hev:(B0 c o).1≠2147483648):Bq c (DW (B0 c o))∧(DW (B0 c o)).2.2.2.2.2=o.2.2.2.2.2∧(∀ s:Int,0≤s→s<Ar c→D6 (DW (B0 c o)) s=D6 o s)∧((B0 c o).2.2.1=true∨(B0 c o).2.1=-1):=by
 obtain ⟨ev,lo,sp,po,dn,nl,br⟩:=o
 dsimp only at hsp hd
 subst hsp
 have hL2:=h.2.2.2.1 rfl
 unfold B0 at hev ⊢
 dsimp only at hev ⊢
 by_cases hq:po=Ar c
 ·rw [Zqd hq] at hev ⊢
  have hev:ev≠2147483648:=hev
  refine ⟨⟨?_,by decide,by unfold Cfg.may at hM;omega,fun h=>(by cases h),fun _=>⟨rfl,rfl⟩⟩,rfl,fun s h0 h1=>?_,.inr rfl⟩
  ·have:=h.1
   omega
  ·show (if false=true∧s<0 then (-1:Int) else -1)=if true=true∧s<po then -1 else lo
   rw [Zqh (by simp),Zqd ⟨rfl,by omega⟩]
 ·rw [Zqh hq] at hev ⊢
  have hev:ev≠2147483648:=hev
  refine ⟨⟨?_,h.2.1,h.2.2.1,fun _=>⟨hL2.1,by omega,by omega,hL2.2.2.2⟩,fun h=>(by cases h)⟩,rfl,fun s h0 h1=>rfl,.inl rfl⟩
  have:=h.1
  omega
variable {x y:AO}{t:AT}{n:Nat}{v:AV}
theorem Za0 {s:St}{k:AV→St→Prop}{el es r m c:Nat}{c0:AV}{cs old:List AV}(hx:ev x t=.some (.sl r 0 n (some c))) (hy:ev y t=.some v) (hv:CS es v s=some (c0::cs)) (hr:s.get r=some (.row el old)) (ho:old.length=n*es) (hm':(c0::cs).length=m*es) (he:0<es) (hc:c<n+m) (h1:n+m≤1000000)
 (hk:k (.sl s.next 0 (n+m) none) (s.alloc (.row el (old++(c0::cs))))):EPrim (.app el es x y) t s k:=by
 have hm:(c0::cs).length / es=m:=by rw [hm'];exact Nat.mul_div_cancel m he
 refine EPrim.mk (fun e rec=>?_) hk
 show wth x t _=_;unfold wth;rw [hx]
 show wth y t _=_;unfold wth;rw [hy]
 show (Option.rec .fail _ (CS es v s):RV)=_
 rw [hv]
 show AM.app1 el es (c0::cs) (Nat.div (A6 (c0::cs)) es) r 0 n (some c) s=_
 unfold AM.app1
 rw [CN,show Nat.div (c0::cs).length es=m from hm,GR hr (by show 0+n*es≤_;omega)]
 have e1:List.take (Nat.mul n es) (List.drop 0 old)=old:=by rw [List.drop_zero];exact Zqi (by show _≤n*es;omega)
 rw [e1]
 show (Bool.rec (Ct el (n+m) (Ba old (c0::cs)) s) _ (Nat.ble (n+m) c):RV)=_
 rw [show Nat.ble (n+m) c=false by rw [← Zr8];intro e;have:=Zqx e;omega]
 show gd (Nat.ble (n+m) 1000000) _=_
 rw [Zq0 h1,Db];rfl
def Ho (o:Lo) (l:List AV):List AV:=l.take 7++(DT o++l.drop 14)
variable {d:Dv}{l:List AV}
theorem Oy (h:dvC.r d l) (ho:loC.r o (DT o)):dvC.r (BK d o) (Ho o l):=by
 obtain ⟨c,bk,⟨ev,lo,sp,po,dn,nl,br⟩,R⟩:=d
 obtain ⟨_,_,rfl,⟨rfl,h1⟩,_,_,rfl,rfl,ol,r,rfl,h3,h4⟩:=h
 obtain ⟨rfl,-⟩:=Gu h3
 exact ⟨c.c,_,rfl,⟨rfl,h1⟩,[_],_,rfl,rfl,DT o,r,rfl,ho,h4⟩
theorem RB (h1:Be o.1) (h2:Aa o.2.1) (h3:Aa o.2.2.2.1) (h4:Aa o.2.2.2.2.1):loC.r o (DT o):=by
 obtain ⟨ev,lo,sp,po,dn,nl,br⟩:=o
 exact Ip h1 h2 h3 h4
def J5:List AV:=[.int .u32 0,.int .i64 0,.int .i64 0,.int .i64 0,.int .i64 0,.int .i64 0,.bool false,.int .u32 0,.int .i64 0,.bool false,.int .i64 0,.int .i64 0,.bool false,.bool false,.nils,.int .u32 0,.int .u32 0,.int .i64 0,.int .i64 0,.nils,.nils,.int .i64 0,.bool false]
def Mr (d:Dv) (D:List Dk):Prop:=(d.1.may∧CH d.1 D∧(∀ x ∈ D,Cq x)∧∀ i<d.1.members.toNat,Bh D i=false)∧Bq d.1 d.2.2.1∧d.2.2.1.2.2.1=true∧d.2.2.1.2.2.2.1<Ar d.1∧KZ d
def G1 (d:Dv) (D:List Dk):List Nat:=Bi (Bn D (d.2.2.1.2.2.2.1+1) d.2.2.1.2.1.toNat d.1.members.toNat)
def MC (d:Dv) (D:List Dk):List AV:=[.int .i64 d.2.2.1.2.1,.int .u8 1,.int .i64 (d.2.2.1.2.2.2.1+1),Ay (G1 d D)]
def MB (args:List AV) (u:AV):Prop:=∃ d l D v,args=[.agg (l++[v]),.int .i64 d.2.2.1.2.2.2.1]∧dvC.r d l∧Ls dkC D v∧Mr d D∧u=.tup [.agg (Ho (EK d.2.2.1) (F8 l)),.fz 1 none (MC d D),.int .i64 0]
theorem Zlf (hE:EM P e) (h65:Con e 65 (Ag Jv)) (h133:Con e 133 sltF.O) (h134:Con e 134 ftbF.O) (h135:Con e 135 goF.O):OvOk P 81 (Ag MB):=by
 refine Da g81.b ?_
 rintro args u ⟨d,l,D,v,rfl,hd,hD,⟨⟨hM,h20,hsm,hal⟩,hL,hsp,hpo,hS⟩,hu⟩
 have hvf:=hD.hf
 have hrow:=dvC.hf hd
 have hT:=Mx hd
 have hmt:=Wg h65 hd hS
 obtain ⟨c,bk,⟨ev,lo,sp,po,dn,nl,br⟩,hs,⟨ag,sq,tl,us,L⟩,fs,nx,so⟩:=d
 dsimp only at hM h20 hal hL hsp hpo
 subst hsp
 have hL':=hL
 unfold Bq at hL'
 have hL2:=hL'.2.2.2.1 rfl
 obtain ⟨hv,lv,fv,rfl,⟨ho,o1,o2,o3,o4,o5,o6,o7,o8,oN⟩,hH,hLL,hF⟩:=Bl hd
 have hlr:loC.r (ev,lo,true,po,dn,nl,br) [.int .u32 ev,.int .i64 lo,.bool true,.int .i64 po,.int .i64 dn,.bool nl,.bool br]:=Ip o1 o2 o3 o4
 have hmm:=B4 hM
 have hM':=hM
 unfold Cfg.may at hM'
 have hpo1:Aa (po+1):=by unfold Ar at hpo;unfold Aa;omega
 have hGr:loC.r (ev,lo,true,po+1,dn,nl,br) (DT (EK (ev,lo,true,po,dn,nl,br))):=Ip o1 o2 hpo1 o4
 have hlr2:=Oy hT hGr
 have hrow2:=dvC.hf hlr2
 have hlos:0≤lo∧lo<c.members:=⟨hL2.1,hL'.2.2.1⟩
 have hp0:0≤po∧po<Ar c:=⟨by omega,hpo⟩
 obtain ⟨son,s0,s1⟩:=Zk8 (c:=c) (s:=po) hlos
 have hsl:Aa (Gd c po lo):=by unfold Aa;omega
 have hslt:∀ (Q:AV→St→Prop) s,Q (.tup [.int .i64 (Gd c po lo),.int .i64 0]) s→ESc e 133 [.agg c.c,.int .i64 po,.int .i64 lo] s Q:=fun Q s q=>Fn.u (F:=sltF) h133 (c,po,lo,()) ⟨_,_,rfl,⟨rfl,ho⟩,_,_,rfl,⟨rfl,AW o3⟩,_,_,rfl,⟨rfl,AW o2⟩,rfl⟩ ⟨hM,hp0,hlos⟩ q
 have hblk:∀ (Q:AV→St→Prop) s,Q (.tup [Ay (G1 (c,bk,(ev,lo,true,po,dn,nl,br),hs,(ag,sq,tl,us,L),fs,nx,so) D),.int .i64 0]) s→ESc e 134 [.agg c.c,v,.int .i64 lo,.int .i64 po,.int .i64 (Gd c po lo)] s Q:=fun Q s q=>Fn.u (F:=ftbF) h134 (c,D,lo,po,Gd c po lo,()) ⟨_,_,rfl,⟨rfl,ho⟩,_,_,rfl,⟨_,rfl,hD⟩,_,_,rfl,⟨rfl,AW o2⟩,_,_,rfl,⟨rfl,AW o3⟩,_,_,rfl,⟨rfl,AW hsl⟩,rfl⟩ ⟨⟨hM,h20,hsm,hal⟩,hp0,⟨s0,s1⟩,son.symm⟩ q
 have hgo:∀ (Q:AV→St→Prop) s,Q (.tup [.agg [.int .u32 ev,.int .i64 lo,.bool true,.int .i64 (po+1),.int .i64 dn,.bool nl,.bool br],.int .i64 0]) s→ESc e 135 [.agg c.c,.agg [.int .u32 ev,.int .i64 lo,.bool true,.int .i64 po,.int .i64 dn,.bool nl,.bool br]] s Q:=fun Q s q=>Fn.u (F:=goF) h135 (c,(ev,lo,true,po,dn,nl,br),()) ⟨_,_,rfl,⟨rfl,ho⟩,_,_,rfl,hlr,rfl⟩ ⟨hM,hL,rfl,hpo⟩ q
 have huf:AM.hf u=true:=by
  rw [hu]
  exact Bool.and_eq_true_iff.2 ⟨hrow2,rfl⟩
 refine ⟨?_,huf,C.of_G hE g81 ?_⟩
 ·have:hfs (c.c++[.bool bk,.int .u32 ev,.int .i64 lo,.bool true,.int .i64 po,.int .i64 dn,.bool nl,.bool br,hv,.int .u32 ag,.int .u32 sq,.int .i64 tl,.int .i64 us,lv,fv,.int .i64 nx,.bool so]++[v])=true:=E2 hrow (by show (AM.hf v && true)=true;rw [hvf];rfl)
  show (hfs _ && (true && true))=true
  rw [this];rfl
 have fin:∀ st r cp,st.get r=some (.row 79 [.int .i64 lo,.int .u8 1,.int .i64 (po+1),Ay (G1 (c,bk,(ev,lo,true,po,dn,nl,br),hs,(ag,sq,tl,us,L),fs,nx,so) D)])→Frz st (.tup [.agg (Ho (EK (ev,lo,true,po,dn,nl,br)) (F8 (c.c++[.bool bk,.int .u32 ev,.int .i64 lo,.bool true,.int .i64 po,.int .i64 dn,.bool nl,.bool br,hv,.int .u32 ag,.int .u32 sq,.int .i64 tl,.int .i64 us,lv,fv,.int .i64 nx,.bool so]))),.sl r 0 1 cp,.int .i64 0]) u:=fun st r cp hg=>by
  rw [hu]
  exact .tup _ _ (.cons (.plain _ hrow2) (.cons (.sl r 0 _ _ _ 79 _ _ _ hg (fun i x hx=>by rw [Zqo];exact hx) (Cz rfl) (.inl rfl)) (.cons (.plain _ rfl) .nil)))
 generalize G1 _ D=X at *
 clear hu hlr2 hGr
 change VW P e 0 _ (Ah [.agg (c.c++[.bool bk,.int .u32 ev,.int .i64 lo,.bool true,.int .i64 po,.int .i64 dn,.bool nl,.bool br,hv,.int .u32 ag,.int .u32 sq,.int .i64 tl,.int .i64 us,lv,fv,.int .i64 nx,.bool so,v]),.int .i64 po] 0 .lf) St0 none [] _
 conv=>whnf
 repeat' (first|((first|refine hmt _ _ ?_|refine hslt _ _ ?_|refine hblk _ _ ?_|refine hgo _ _ ?_|refine v7 ?_);conv=>whnf)|refine v6 ?_ ?_|(intro _;first|omega|conv=>whnf))
 exact fin _ _ _ rfl
theorem Ox (hM:c.may) (h:Bq c o) (hsp:o.2.2.1=true) (hd:o.2.2.2.2.1<o.2.2.2.1):Bq c (B0 c o)∧((B0 c o).2.2.1=true∨(B0 c o).2.1=-1)∧(B0 c o).1=o.1∧(B0 c o).2.2.2.2.2=o.2.2.2.2.2∧(Aa o.2.1→Aa o.2.2.2.1→Aa (B0 c o).2.1∧Aa (B0 c o).2.2.2.1∧Aa (B0 c o).2.2.2.2.1):=by
 obtain ⟨ev,lo,sp,po,dn,nl,br⟩:=o
 dsimp only at hsp hd
 subst hsp
 have hL2:=h.2.2.2.1 rfl
 unfold B0
 dsimp only
 by_cases hq:po=Ar c
 ·rw [Zqd hq]
  exact ⟨⟨h.1,by decide,by unfold Cfg.may at hM;omega,fun h=>(by cases h),fun _=>⟨rfl,rfl⟩⟩,.inr rfl,rfl,rfl,fun _ _=>⟨by unfold Aa;dsimp only;omega,by unfold Aa;dsimp only;omega,by unfold Aa;dsimp only;omega⟩⟩
 ·rw [Zqh hq]
  exact ⟨⟨h.1,h.2.1,h.2.2.1,fun _=>⟨hL2.1,by omega,by omega,hL2.2.2.2⟩,fun h=>(by cases h)⟩,.inl rfl,rfl,rfl,fun a b=>⟨a,b,b⟩⟩
def Mq (d:Dv):Prop:=d.1.may∧Bq d.1 d.2.2.1∧d.2.2.1.2.2.1=true∧d.2.2.1.2.2.2.2.1<d.2.2.1.2.2.2.1∧d.2.2.1.2.2.2.2.2.2=false∧KZ d
def MA (d:Dv):List AV:=[.int .i64 d.2.2.1.2.1,.int .u8 3,.int .i64 0,.nils]++EB d.1 (B0 d.1 d.2.2.1) true d.1.members.toNat
def M9 (args:List AV) (u:AV):Prop:=∃ d l v,args=[.agg (l++[v]),.int .i64 0]∧dvC.r d l∧AM.hf v=true∧cellsOf v=[v]∧Mq d∧u=if d.2.2.1.1=2147483648 then .tup [.agg J5,.nils,.int .i64 9] else .tup [.agg (Ho (DW (B0 d.1 d.2.2.1)) (F8 l)),.fz (1+d.1.members.toNat) none (MA d),.int .i64 0]
theorem Zle (hE:EM P e) (h65:Con e 65 (Ag Jv)) (h136:Con e 136 mkF.O) (h137:Con e 137 lbsF.O):OvOk P 82 (Ag M9):=by
 refine Da g82.b ?_
 rintro args u ⟨d,l,v,rfl,hd,hvf,hvc,⟨hM,hL,hsp,hdp,hbr,hS⟩,hu⟩
 have hrow:=dvC.hf hd
 have hT:=Mx hd
 have hmt:=Wg h65 hd hS
 obtain ⟨k1,k2,k3,k4,k5⟩:=Ox hM hL hsp hdp
 obtain ⟨c,bk,⟨ev,lo,sp,po,dn,nl,br⟩,hs,⟨ag,sq,tl,us,L⟩,fs,nx,so⟩:=d
 dsimp only at hM hL hsp hdp hbr k1 k2 k3 k4 k5 hu
 subst hsp hbr
 have hL':=hL
 unfold Bq at hL'
 have hL2:=hL'.2.2.2.1 rfl
 obtain ⟨hv,lv,fv,rfl,⟨ho,o1,o2,o3,o4,o5,o6,o7,o8,oN⟩,hH,hLL,hF⟩:=Bl hd
 have hlr:loC.r (ev,lo,true,po,dn,nl,false) [.int .u32 ev,.int .i64 lo,.bool true,.int .i64 po,.int .i64 dn,.bool nl,.bool false]:=Ip o1 o2 o3 o4
 obtain ⟨b1,b2,b3⟩:=k5 o2 o3
 have hmk:∀ (Q:AV→St→Prop) s,Q (.tup [.agg (DT (B0 c (ev,lo,true,po,dn,nl,false))),.int .i64 0]) s→ESc e 136 [.agg c.c,.agg [.int .u32 ev,.int .i64 lo,.bool true,.int .i64 po,.int .i64 dn,.bool nl,.bool false]] s Q:=fun Q s q=>Fn.u (F:=mkF) h136 (c,(ev,lo,true,po,dn,nl,false),()) ⟨_,_,rfl,⟨rfl,ho⟩,_,_,rfl,hlr,rfl⟩ ⟨hM,hL,rfl,hdp⟩ q
 generalize hm:B0 c (ev,lo,true,po,dn,nl,false)=m at *
 have hmr:loC.r m (DT m):=RB (by rw [k3];exact o1) b1 b2 b3
 have hbr2:m.2.2.2.2.2.2=false:=by rw [k4]
 have hev:m.1=ev:=k3
 have hlb0:∀ (Q:AV→St→Prop) s,Q (G5 c m true) s→ESc e 137 [.agg c.c,.agg (DT m),.bool true] s Q:=fun Q s q=>Fn.u (F:=lbsF) h137 (c,m,true,()) ⟨_,_,rfl,⟨rfl,ho⟩,_,_,rfl,hmr,_,_,rfl,rfl,rfl⟩ ⟨hM,k1,hbr2,k2⟩ q
 have hu0:u=if ev=2147483648 then .tup [.agg J5,.nils,.int .i64 9] else .tup [.agg (Ho (DW m) (F8 (c.c++[.bool bk,.int .u32 ev,.int .i64 lo,.bool true,.int .i64 po,.int .i64 dn,.bool nl,.bool false,hv,.int .u32 ag,.int .u32 sq,.int .i64 tl,.int .i64 us,lv,fv,.int .i64 nx,.bool so]))),.fz (1+c.members.toNat) none ([.int .i64 lo,.int .u8 3,.int .i64 0,.nils]++EB c m true c.members.toNat),.int .i64 0]:=by rw [hu,← hm];rfl
 clear hu
 have hM':=hM
 unfold Cfg.may at hM'
 have hlen:=Vv c m true c.members.toNat
 have hlf:=Re c m true c.members.toNat
 obtain ⟨z,zs,hzs⟩:∃ z zs,EB c m true c.members.toNat=z::zs:=by
  cases hq:EB c m true c.members.toNat with
  | nil=>rw [hq] at hlen;have hlen:0=c.members.toNat*4:=hlen;omega
  | cons z zs=>exact ⟨z,zs,rfl⟩
 have huf:AM.hf u=true:=by
  rw [hu0]
  split
  ·rfl
  ·rename_i hne
   have hGr:loC.r (DW m) (DT (DW m)):=RB (by obtain ⟨_,_⟩:=m;unfold Be at o1 ⊢;show 0≤_+1∧_+1<_;have:=hL'.1;simp only at hev;omega) (by obtain ⟨_,_⟩:=m;exact b1) (by obtain ⟨_,_⟩:=m;exact b2) (by obtain ⟨_,_⟩:=m;exact b3)
   exact Bool.and_eq_true_iff.2 ⟨dvC.hf (Oy hT hGr),rfl⟩
 refine ⟨?_,huf,C.of_G hE g82 ?_⟩
 ·have:hfs (c.c++[.bool bk,.int .u32 ev,.int .i64 lo,.bool true,.int .i64 po,.int .i64 dn,.bool nl,.bool false,hv,.int .u32 ag,.int .u32 sq,.int .i64 tl,.int .i64 us,lv,fv,.int .i64 nx,.bool so]++[v])=true:=E2 hrow (by show (AM.hf v && true)=true;rw [hvf];rfl)
  show (hfs _ && (true && true))=true
  rw [this];rfl
 rw [hzs] at hu0 hlen
 have hsrc:∀ s,CS 4 (.fz c.members.toNat none (z::zs)) s=some (z::zs):=fun s=>If hlen s
 obtain ⟨ev',lo',sp',po',dn',nl',br'⟩:=m
 dsimp only at hev
 subst hev
 have hmm:0<c.members.toNat∧c.members.toNat≤16:=by omega
 by_cases hq:ev'=2147483648
 ·rw [Zqd hq] at hu0
  have hlb:∀ (Q:AV→St→Prop) s,Q (.tup [.agg [.int .u32 0,.int .i64 0,.bool false,.int .i64 0,.int .i64 0,.bool false,.bool false],.nils,.int .i64 9]) s→ESc e 137 [.agg c.c,.agg [.int .u32 ev',.int .i64 lo',.bool sp',.int .i64 po',.int .i64 dn',.bool nl',.bool br'],.bool true] s Q:=fun Q s q=>hlb0 Q s (by unfold G5;rw [Zqd hq];exact q)
  have hfin:∀ st,Frz st (.tup [.agg J5,.nils,.int .i64 9]) u:=fun st=>by rw [hu0];exact .plain _ rfl
  conv=>whnf
  repeat' (first|((first|refine hmt _ _ ?_|refine hmk _ _ ?_|refine hlb _ _ ?_);conv=>whnf)|refine v6 ?_ ?_|(intro _;first|omega|conv=>whnf))
  exact hfin _
 ·rw [Zqh hq] at hu0
  have hlb:∀ (Q:AV→St→Prop) s,Q (.tup [.agg [.int .u32 (ev'+1),.int .i64 lo',.bool sp',.int .i64 po',.int .i64 dn',.bool nl',.bool br'],.fz c.members.toNat none (z::zs),.int .i64 0]) s→ESc e 137 [.agg c.c,.agg [.int .u32 ev',.int .i64 lo',.bool sp',.int .i64 po',.int .i64 dn',.bool nl',.bool br'],.bool true] s Q:=fun Q s q=>hlb0 Q s (by unfold G5;rw [Zqh hq,hzs];exact q)
  have hrz:hfs ([.int .i64 lo,.int .u8 3,.int .i64 0,.nils]++z::zs)=true:=E2 rfl (by rw [← hzs];exact hlf)
  have hfin:∀ st r,st.get r=some (.row 79 ([.int .i64 lo,.int .u8 3,.int .i64 0,.nils]++z::zs))→Frz st (.tup [.agg (Ho (DW (ev',lo',sp',po',dn',nl',br')) (F8 (c.c++[.bool bk,.int .u32 ev',.int .i64 lo,.bool true,.int .i64 po,.int .i64 dn,.bool nl,.bool false,hv,.int .u32 ag,.int .u32 sq,.int .i64 tl,.int .i64 us,lv,fv,.int .i64 nx,.bool so]))),.sl r 0 (1+c.members.toNat) none,.int .i64 0]) u:=fun st r hg=>by
   rw [hu0]
   rw [hu0] at huf
   have hrow2:hfs (Ho (DW (ev',lo',sp',po',dn',nl',br')) (F8 (c.c++[.bool bk,.int .u32 ev',.int .i64 lo,.bool true,.int .i64 po,.int .i64 dn,.bool nl,.bool false,hv,.int .u32 ag,.int .u32 sq,.int .i64 tl,.int .i64 us,lv,fv,.int .i64 nx,.bool so])))=true:=(Bool.and_eq_true_iff.1 huf).1
   exact .tup _ _ (.cons (.plain _ hrow2) (.cons (.sl r 0 _ _ _ 79 _ _ _ hg (fun i x hx=>by rw [Zqo];exact hx) (Cz hrz) (.inl rfl)) (.cons (.plain _ rfl) .nil)))
  conv=>whnf
  repeat' (first|((first|refine hmt _ _ ?_|refine hmk _ _ ?_|refine hlb _ _ ?_|refine Za0 (n:=1) (m:=c.members.toNat) rfl rfl (hsrc _) rfl rfl hlen (by decide) (by omega) (by omega) ?_|refine ⟨rfl,?_⟩);conv=>whnf)|refine v6 ?_ ?_|(intro _;first|omega|conv=>whnf))
  exact hfin _ _ rfl
def I6 (l:List AV) (v:AV) (po:Int):List AV:=[.int .u8 8,.int .i64 0,.int .i64 0,.int .i64 po,.fn 81 [.agg (l++[v])] []]
def I7 (l:List AV) (v:AV):List AV:=[.int .u8 9,.int .i64 0,.int .i64 0,.int .i64 0,.fn 82 [.agg (l++[v])] []]
open Classical in
noncomputable def Ch (d:Dv) (l:List AV) (v:AV):AV:=if d.2.2.1.2.2.1=true then
 (if d.2.2.1.2.2.2.1<Ar d.1∧EI d d.2.2.1.2.2.2.1=0 then
   (if d.2.2.1.2.2.2.2.1<d.2.2.1.2.2.2.1 then .fz 2 none (I6 l v d.2.2.1.2.2.2.1++I7 l v) else .fz 1 none (I6 l v d.2.2.1.2.2.2.1))
 else if d.2.2.1.2.2.2.2.1<d.2.2.1.2.2.2.1 then .fz 1 none (I7 l v) else .nils)
 else .nils
def Ju (args:List AV) (u:AV):Prop:=∃ d l v,args=[.agg (l++[v])]∧dvC.r d l∧AM.hf v=true∧cellsOf v=[v]∧d.1.may∧d.2.2.1.2.2.2.2.2.2=false∧u=Ch d l v
theorem VQ:AM.hf (Ch d l v)=true:=by
 unfold Ch
 split
 ·split
  ·split <;> rfl
  ·split <;> rfl
 ·rfl
theorem Zkq (hE:EM P e) (h40:Con e 40 stripesF.O) (h47:Con e 47 phF.O):OvOk P 34 (Ag Ju):=by
 refine Da g34.b ?_
 rintro args u ⟨d,l,v,rfl,hd,hvf,hvc,hM,hbr,rfl⟩
 have hrow:=dvC.hf hd
 have hrv:hfs (l++[v])=true:=E2 hrow (by show (AM.hf v && true)=true;rw [hvf];rfl)
 refine ⟨by show (hfs (l++[v]) && true)=true;rw [hrv];rfl,VQ,C.of_G hE g34 ?_⟩
 have hph:Aa d.2.2.1.2.2.2.1→∀ (Q:AV→St→Prop) s,Q (.int .u8 (EI d d.2.2.1.2.2.2.1:Int)) s→ESc e 47 [.agg l,.int .i64 d.2.2.1.2.2.2.1] s Q:=fun hb Q s q=>Fn.u (F:=phF) h47 (d,d.2.2.1.2.2.2.1,()) ⟨_,_,rfl,hd,_,_,rfl,⟨rfl,AW hb⟩,rfl⟩ trivial q
 have hm1:hfs (I6 l v d.2.2.1.2.2.2.1)=true:=by show (true && (true && (true && (true && (((hfs (l++[v]) && true) && true) && true)))))=true;rw [hrv];rfl
 have hm2:hfs (I7 l v)=true:=by show (true && (true && (true && (true && (((hfs (l++[v]) && true) && true) && true)))))=true;rw [hrv];rfl
 have f2:d.2.2.1.2.2.1=true→d.2.2.1.2.2.2.1<Ar d.1→EI d d.2.2.1.2.2.2.1=0→d.2.2.1.2.2.2.2.1<d.2.2.1.2.2.2.1→∀ st r,st.get r=some (.row 95 (I6 l v d.2.2.1.2.2.2.1++I7 l v))→Frz st (.sl r 0 2 none) (Ch d l v):=fun a b c e' st r hg=>by
  unfold Ch;rw [Zqd a,Zqd ⟨b,c⟩,Zqd e']
  exact .sl r 0 _ _ _ 95 _ _ _ hg (fun i x hx=>by rw [Zqo];exact hx) (Cz (E2 hm1 hm2)) (.inl rfl)
 have f1:d.2.2.1.2.2.1=true→d.2.2.1.2.2.2.1<Ar d.1→EI d d.2.2.1.2.2.2.1=0→¬d.2.2.1.2.2.2.2.1<d.2.2.1.2.2.2.1→∀ st r,st.get r=some (.row 95 (I6 l v d.2.2.1.2.2.2.1))→Frz st (.sl r 0 1 none) (Ch d l v):=fun a b c e' st r hg=>by
  unfold Ch;rw [Zqd a,Zqd ⟨b,c⟩,Zqh e']
  exact .sl r 0 _ _ _ 95 _ _ _ hg (fun i x hx=>by rw [Zqo];exact hx) (Cz hm1) (.inl rfl)
 have fk:d.2.2.1.2.2.1=true→¬(d.2.2.1.2.2.2.1<Ar d.1∧EI d d.2.2.1.2.2.2.1=0)→d.2.2.1.2.2.2.2.1<d.2.2.1.2.2.2.1→∀ st r,st.get r=some (.row 95 (I7 l v))→Frz st (.sl r 0 1 none) (Ch d l v):=fun a b e' st r hg=>by
  unfold Ch;rw [Zqd a,Zqh b,Zqd e']
  exact .sl r 0 _ _ _ 95 _ _ _ hg (fun i x hx=>by rw [Zqo];exact hx) (Cz hm2) (.inl rfl)
 have f0:d.2.2.1.2.2.1=true→¬(d.2.2.1.2.2.2.1<Ar d.1∧EI d d.2.2.1.2.2.2.1=0)→¬d.2.2.1.2.2.2.2.1<d.2.2.1.2.2.2.1→∀ st,Frz st .nils (Ch d l v):=fun a b e' st=>by
  unfold Ch;rw [Zqd a,Zqh b,Zqh e'];exact .plain _ rfl
 have fn:d.2.2.1.2.2.1=false→∀ st,Frz st .nils (Ch d l v):=fun a st=>by
  unfold Ch;rw [Zqh (by rw [a];decide)];exact .plain _ rfl
 generalize Ch d l v=O at *
 obtain ⟨c,bk,⟨ev,lo,sp,po,dn,nl,br⟩,hs,⟨ag,sq,tl,us,L⟩,fs,nx,so⟩:=d
 obtain ⟨hv,lv,fv,rfl,ho,hH,hL,hF⟩:=Bl hd
 dsimp only at hM hbr hph f2 f1 fk f0 fn
 subst hbr
 have hst:=Hc h40 ho.1 hM
 have hph:=hph ho.2.2.2.1
 generalize hpn:EI _ _=p at *
 unfold Ar at f2 f1 fk f0
 cases sp
 ·conv=>whnf
  repeat' (first|(refine As ?_;conv=>whnf)|fail)
  exact fn rfl _
 ·conv=>whnf
  repeat' (first|((first|refine hst _ _ ?_|refine hph _ _ ?_|refine CJ (m:=1) ?_|refine Cw (m:=1) (n:=1) rfl rfl rfl rfl rfl rfl (by decide) (by decide) ?_|refine An ?_);conv=>whnf)|refine v1 ?_ ?_|refine v5 ?_ ?_|(intro _;first|omega|conv=>whnf))
  all_goals first
   | exact f2 rfl (by omega) (by omega) (by omega) _ _ rfl
   | exact f1 rfl (by omega) (by omega) (by omega) _ _ rfl
   | exact fk rfl (by omega) (by omega) _ _ rfl
   | exact f0 rfl (by omega) (by omega) _
def Sz (d:Dv) (A B:Prop) [Decidable A] [Decidable B]:List (List AV):=(if A then [[.int .u8 8,.int .i64 0,.int .i64 0,.int .i64 d.2.2.1.2.2.2.1]] else [])++(if B then [[.int .u8 9,.int .i64 0,.int .i64 0,.int .i64 0]] else [])
open Classical in
noncomputable def FV (d:Dv):List (List AV):=if d.2.2.1.2.2.1=true then Sz d (d.2.2.1.2.2.2.1<Ar d.1∧EI d d.2.2.1.2.2.2.1=0) (d.2.2.1.2.2.2.2.1<d.2.2.1.2.2.2.1) else []
def KV:List (List AV)→AV
 | []=>.nils
 | x::l=>.fz (l.length+1) none (x::l).flatten
theorem ZC (d:Dv) (l:List AV) (v:AV) (hl:hfs (l++[v])=true):∃ F:List (List AV×AV),(∀ x ∈ F,x.1.length=4∧hfs x.1=true∧AM.hf x.2=true)∧F.length≤2∧Ch d l v=KV (F.map fun x=>x.1++[x.2])∧FV d=F.map Prod.fst:=by
 unfold Ch FV Sz
 by_cases h1:d.2.2.1.2.2.1=true
 ·rw [Zqd h1,Zqd h1]
  by_cases h2:d.2.2.1.2.2.2.1<Ar d.1∧EI d d.2.2.1.2.2.2.1=0
  ·rw [Zqd h2,Zqd h2]
   by_cases h3:d.2.2.1.2.2.2.2.1<d.2.2.1.2.2.2.1
   ·rw [Zqd h3,Zqd h3]
    exact ⟨[(_,.fn 81 [.agg (l++[v])] []),(_,.fn 82 [.agg (l++[v])] [])],by simp [hfs,hf,hl],by simp,rfl,rfl⟩
   ·rw [Zqh h3,Zqh h3]
    exact ⟨[(_,.fn 81 [.agg (l++[v])] [])],by simp [hfs,hf,hl],by simp,rfl,rfl⟩
  ·rw [Zqh h2,Zqh h2]
   by_cases h3:d.2.2.1.2.2.2.2.1<d.2.2.1.2.2.2.1
   ·rw [Zqd h3,Zqd h3]
    exact ⟨[(_,.fn 82 [.agg (l++[v])] [])],by simp [hfs,hf,hl],by simp,rfl,rfl⟩
   ·rw [Zqh h3,Zqh h3]
    exact ⟨[],by simp,by simp,rfl,rfl⟩
 ·rw [Zqh h1,Zqh h1]
  exact ⟨[],by simp,by simp,rfl,rfl⟩
def stpC:Ce (List AV×AV):=⟨5,fun x l=>l=x.1++[x.2]∧x.1.length=4∧hfs l=true,by rintro _ _ ⟨rfl,h,_⟩;rw [Zqn,h];rfl,by rintro _ _ ⟨_,_,h⟩;exact h,by
 rintro ⟨a,b⟩ ⟨a',b'⟩ _ ⟨rfl,h1,_⟩ ⟨e,h2,_⟩
 obtain ⟨e1,e2⟩:=List.append_inj e (by rw [h1,h2])
 dsimp only at e1 e2
 cases e2
 rw [e1]⟩
theorem Zli {F:List (List AV×AV)}(h:∀ x ∈ F,x.1.length=4∧hfs (x.1++[x.2])=true) (hn:F.length≤1000):Ls stpC F (KV (F.map fun x=>x.1++[x.2])):=by
 cases F with
 | nil=>exact E6 (.inl rfl)
 | cons x F=>
  have ha:All2 stpC.r (x::F) ((x::F).map fun x=>x.1++[x.2]):=by
   refine Ey (by simp) fun i y l h1 h2=>?_
   rw [Zq8,h1] at h2
   cases h2
   exact ⟨rfl,h y (Zqv h1)⟩
  refine ⟨_,ha,.inr (.inr ⟨none,?_,Gn ha⟩),by omega⟩
  show AV.fz ((F.map _).length+1) none _=_
  rw [Zqg];rfl
theorem four (h:l.length=4):∃ a b c d,l=[a,b,c,d]:=by
 rcases l with _|⟨a,_|⟨b,_|⟨c,_|⟨d,_|⟨e,l⟩⟩⟩⟩⟩ <;> simp at h
 exact ⟨a,b,c,d,rfl⟩
def KG (args:List AV) (u:AV):Prop:=∃ d l,args=[.agg l]∧dvC.r d l∧I0 d∧d.1.may∧d.2.2.2.2.1.2.2.2.2.length≤1000∧d.2.2.1.2.2.2.2.2.2=false∧u=.tup [KV (FV d),.int .i64 0]
theorem Zko (hE:EM P e) (h18:Con e 18 mckF.O) (h34:Con e 34 (Ag Ju)):OvOk P 9 (Ag KG):=by
 refine Da g9.b ?_
 rintro args u ⟨d,l,rfl,hd,hmc,hM,hn,hbr,hu⟩
 have hrow:=dvC.hf hd
 obtain ⟨F,k1,k2,k3,k4⟩:=ZC d l .nils (E2 hrow rfl)
 have hstp:∀ (Q:AV→St→Prop) s,Q (Ch d l .nils) s→ESc e 34 [.agg (l++[.nils])] s Q:=fun Q s q=>by
  refine ESc.rel h34 ⟨_,d,l,.nils,rfl,hd,rfl,rfl,hM,hbr,rfl⟩ ?_
  rintro u ⟨d',l',v',e1,hd',-,-,-,-,hu⟩
  have e1:=(Zql e1).1
  injection e1 with e1
  obtain ⟨rfl,e2⟩:=List.append_inj e1 (by rw [dvC.len hd,dvC.len hd'])
  cases e2
  rw [dvC.inj hd' hd] at hu
  rw [hu];exact q
 have hfu:AM.hf (Ch d l .nils)=true:=VQ
 have hls:Ls stpC F (Ch d l .nils):=by
  rw [k3]
  exact Zli (fun x hx=>⟨(k1 x hx).1,E2 (k1 x hx).2.1 (by show (AM.hf x.2 && true)=true;rw [(k1 x hx).2.2];rfl)⟩) (by omega)
 have hck:=fun (Q:AV→St→Prop) s a=>@cF.u _ _ _ _ e 18 s Q _ h18 (d,()) ⟨_,_,rfl,hd,rfl⟩ hn (fun _=>a) (fun q=>absurd hmc q)
 refine ⟨by show (hfs l && true)=true;rw [hrow];rfl,by rw [hu];unfold KV;split <;> rfl,C.of_G hE g9 ?_⟩
 obtain ⟨cs,hs',hl',hnth⟩:=hls.nth
 have fin:∀ st r,F.length≠0→st.get r=some (.row 42 (F.map Prod.fst).flatten)→Frz st (.tup [.sl r 0 F.length none,.int .i64 0]) u:=fun st r h0 hg=>by
  rw [hu,k4]
  cases F with
  | nil=>exact absurd rfl h0
  | cons x F=>
   have hf4:hfs ((x::F).map Prod.fst).flatten=true:=hfs_iff.2 fun v hv=>by
    obtain ⟨m,hm,hv⟩:=List.mem_flatten.1 hv
    obtain ⟨y,hy,rfl⟩:=Zq9.1 hm
    exact hfs_iff.1 (k1 y hy).2.1 v hv
   show Frz st _ (.tup [.fz ((F.map Prod.fst).length+1) none ((x::F).map Prod.fst).flatten,.int .i64 0])
   rw [Zqg]
   exact .tup _ _ (.cons (.sl r 0 _ _ _ 42 _ _ _ hg (fun i x hx=>by rw [Zqo];exact hx) (Cz hf4) (.inl rfl)) (.cons (.plain _ rfl) .nil))
 have fin0:∀ st,F.length=0→Frz st (.tup [.nils,.int .i64 0]) u:=fun st h0=>by
  rw [hu,k4,Zq7.1 h0]
  exact .plain _ rfl
 have hft:∀ i,hfs ((F.take i).map Prod.fst).flatten=true:=fun i=>hfs_iff.2 fun v hv=>by
  obtain ⟨m,hm,hv⟩:=List.mem_flatten.1 hv
  obtain ⟨y,hy,rfl⟩:=Zq9.1 hm
  exact hfs_iff.1 (k1 y (Zrg hy)).2.1 v hv
 generalize Ch d l .nils=w at *
 obtain ⟨c,bk,⟨ev,lo,sp,po,dn,nl,br⟩,hs,⟨ag,sq,tl,us,L⟩,fs,nx,so⟩:=d
 obtain ⟨hv,lv,fv,rfl,-⟩:=Bl hd
 conv=>whnf
 repeat' (first|((first|refine hck _ _ ?_|refine hstp _ _ ?_|refine AA rfl hs' ?_);conv=>whnf)|refine v6 ?_ ?_|(intro _;first|omega|conv=>whnf))
 have hwf:=hls.hf
 have hfl:∀ i,i≤F.length→((F.take i).map Prod.fst).flatten.length=i*4:=fun i=>by
  induction i with
  | zero=>intro _;rfl
  | succ i ih=>
   intro hi
   obtain ⟨x,hx⟩:∃ x,F[i]?=some x:=⟨_,Zp9 hi⟩
   rw [List.take_add_one,hx,Zqy,List.flatten_append,Zqn,ih (by omega)]
   simp [(k1 x (Zqv hx)).1];omega
 refine Ax hE F.length (fun i=>[(5,MT i 0),(15,w),(16,.int .i64 (F.length:Int)),(17,.int .i64 (i:Int))]) (fun i=>match i with|0=>[]|i+1=>[.row 42 ((F.take (i+1)).map Prod.fst).flatten]) (fun _=>True) trivial (Abs.tells (rs:=[]) .a) ?_
 intro i hi _
 by_cases hlt:i<F.length
 ·obtain ⟨⟨a4,fv2⟩,_,r,hx,⟨rfl,h4,h4f⟩,hd2⟩:=hnth i hlt
  obtain ⟨a,b,c',d',rfl⟩:=four h4
  have hst:((F.take (i+1)).map Prod.fst).flatten=((F.take i).map Prod.fst).flatten++[a,b,c',d']:=by
   rw [List.take_add_one,hx,Zqy,List.flatten_append];simp
  have hfi:=hft (i+1)
  have hli:=hfl i (by omega)
  rcases i with _|i
  ·conv=>whnf
   repeat' (first|((first|refine Am hs' hlt hd2 ?_|refine A7 (cs:=[a,b,c',d',fv2]) rfl ?_|refine CJ (m:=1) ?_|refine v7 ?_|refine ⟨rfl,?_⟩);conv=>whnf)|refine v1 ?_ ?_|(intro _;first|omega|conv=>whnf))
   exact ⟨hlt,trivial,Abs.tells (rs:=[2]) ⟨by decide,⟨r9,t9,r9,r9,trivial⟩,⟨⟨Bd hfi,by rw [AX hfi,hst];rfl⟩,trivial⟩⟩⟩
  ·conv=>whnf
   repeat' (first|((first|refine Am hs' hlt hd2 ?_|refine A7 (cs:=[a,b,c',d',fv2]) rfl ?_|refine Cw (m:=1) (n:=i+1) (old:=((F.take (i+1)).map Prod.fst).flatten) rfl rfl rfl rfl hli rfl (by decide) (by omega) ?_|refine v7 ?_|refine ⟨rfl,?_⟩);conv=>whnf)|refine v1 ?_ ?_|(intro _;first|omega|conv=>whnf))
   exact ⟨hlt,trivial,Abs.tells (rs:=[3]) ⟨by decide,⟨r9,t9,r9,r9,trivial⟩,⟨⟨Bd hfi,by rw [AX hfi,hst];rfl⟩,trivial⟩⟩⟩
 ·have htk:F.take F.length=F:=List.take_length
  obtain rfl:i=F.length:=by omega
  cases hz:F.length with
  | zero=>
   conv=>whnf
   repeat' (first|refine v1 ?_ ?_|(intro _;first|omega|conv=>whnf))
   exact fin0 _ hz
  | succ m=>
   rw [hz] at htk fin
   dsimp only
   rw [htk]
   conv=>whnf
   repeat' (first|refine v1 ?_ ?_|(intro _;first|omega|conv=>whnf))
   exact fin _ 0 (by omega) rfl
theorem Zcg (a b k q:Int):FZ [0,0,0,0] [.int .u8 a,.int .i64 k,.int .i64 q,.int .i64 b] [.int .u8 a,.int .i64 k,.int .i64 q,.int .i64 b]=some true:=by
 have h:∀ x:Int,Dw x x=true:=fun x=>by rw [FI];exact Zqe rfl
 simp [FZ,KY,h,Cd]
theorem Zim (l m:List AV):FZ [0,0,0,0] (.int .u8 8::l) (.int .u8 9::m)=some false:=rfl
def DQ (kd s:Int):List AV:=[.int .u8 kd,.int .i64 0,.int .i64 0,.int .i64 s]
def Zgf (d:Dv):List AV:=[.int .u8 8,.int .i64 0,.int .i64 0,.int .i64 d.2.2.1.2.2.2.1]
def Zgg:List AV:=[.int .u8 9,.int .i64 0,.int .i64 0,.int .i64 0]
def Gz (d:Dv):Prop:=d.2.2.1.2.2.2.1<Ar d.1∧EI d d.2.2.1.2.2.2.1=0
def Hj (d:Dv):Prop:=d.2.2.1.2.2.2.2.1<d.2.2.1.2.2.2.1
def OY (d:Dv) (l:List AV) (D:List Dk):AV:=.tup [.agg (Ho (EK d.2.2.1) (F8 l)),.fz 1 none (MC d D),.int .i64 0]
def Jw (d:Dv) (l:List AV):AV:=if d.2.2.1.1=2147483648 then .tup [.agg J5,.nils,.int .i64 9] else .tup [.agg (Ho (DW (B0 d.1 d.2.2.1)) (F8 l)),.fz (1+d.1.members.toNat) none (MA d),.int .i64 0]
def SE (d:Dv) (D:List Dk):Prop:=J3 d D=0∧(∀ x ∈ D,Cq x)∧d.2.2.2.2.1.2.2.2.2.length≤1000∧d.1.may∧d.2.2.1.2.2.2.2.2.2=false
def La (args:List AV) (u:AV):Prop:=∃ d l D v,dvC.r d l∧Ls dkC D v∧SE d D∧((Gz d∧args=[.agg l,v,.agg (Zgf d)]∧Mr d D∧u=OY d l D)∨(Hj d∧args=[.agg l,v,.agg Zgg]∧Mq d∧u=Jw d l))
theorem VS (hsp:d.2.2.1.2.2.1=true) (hA:Gz d) (hB:Hj d):Ch d l v=.fz 2 none (I6 l v d.2.2.1.2.2.2.1++I7 l v):=by
 unfold Gz at hA;unfold Hj at hB;unfold Ch;rw [Zqd hsp,Zqd hA,Zqd hB]
theorem Zks (hsp:d.2.2.1.2.2.1=true) (hA:Gz d) (hB:¬Hj d):Ch d l v=.fz 1 none (I6 l v d.2.2.1.2.2.2.1):=by
 unfold Gz at hA;unfold Hj at hB;unfold Ch;rw [Zqd hsp,Zqd hA,Zqh hB]
theorem Zkr (hsp:d.2.2.1.2.2.1=true) (hA:¬Gz d) (hB:Hj d):Ch d l v=.fz 1 none (I7 l v):=by
 unfold Gz at hA;unfold Hj at hB;unfold Ch;rw [Zqd hsp,Zqh hA,Zqd hB]
variable {d':Dv}{l':List AV}{v':AV}
theorem RA (h:dvC.r d l) (h':dvC.r d' l') (e:l++[v]=l'++[v']):l=l'∧v=v'∧d=d':=by
 obtain ⟨rfl,e2⟩:=List.append_inj e (by rw [dvC.len h,dvC.len h'])
 cases e2
 exact ⟨rfl,rfl,dvC.inj h h'⟩
variable {D:List Dk}
theorem Zha (h81:Con e 81 (Ag MB)) (hd:dvC.r d l) (hD:Ls dkC D v) (hk:Mr d D) (Q:AV→St→Prop) (s:St) (q:Q (OY d l D) s):ECall e 81 [.agg (l++[v]),.int .i64 d.2.2.1.2.2.2.1] s Q:=by
 refine ECall.rel h81 ⟨_,d,l,D,v,rfl,hd,hD,hk,rfl⟩ ?_
 rintro u ⟨d',l',D',v',e1,g1,g2,-,rfl⟩
 have e1:=(Zql e1).1
 injection e1 with e1
 obtain ⟨rfl,rfl,rfl⟩:=RA hd g1 e1
 rw [g2.inj hD]
 exact q
theorem Zg8 (h82:Con e 82 (Ag M9)) (hd:dvC.r d l) (hvf:AM.hf v=true) (hvc:cellsOf v=[v]) (hk:Mq d) (Q:AV→St→Prop) (s:St) (q:Q (Jw d l) s):ECall e 82 [.agg (l++[v]),.int .i64 0] s Q:=by
 refine ECall.rel h82 ⟨_,d,l,v,rfl,hd,hvf,hvc,hk,rfl⟩ ?_
 rintro u ⟨d',l',v',e1,g1,-,-,-,rfl⟩
 have e1:=(Zql e1).1
 injection e1 with e1
 obtain ⟨rfl,rfl,rfl⟩:=RA hd g1 e1
 exact q
theorem O1 {a:List AV}{c:List AV}{z:Int}(h:hfs a=true):AM.hf (.tup [.agg a,.fz n none c,.int .i64 z])=true:=Bool.and_eq_true_iff.2 ⟨h,rfl⟩
theorem WO (hd:dvC.r d l) (h:Mr d D):∃ a,OY d l D=.tup [.agg a,.fz 1 none (MC d D),.int .i64 0]∧hfs a=true∧dvC.r (BK d (EK d.2.2.1)) a:=by
 obtain ⟨⟨hM,h20,hsm,hal⟩,hL,hsp,hpo,hS⟩:=h
 have hT:=Mx hd
 obtain ⟨c,bk,⟨ev,lo,sp,po,dn,nl,br⟩,hs,⟨ag,sq,tl,us,L⟩,fs,nx,so⟩:=d
 obtain ⟨hv,lv,fv,rfl,⟨ho,o1,o2,o3,o4,-⟩,-⟩:=Bl hd
 dsimp only at hM hsp hpo
 have hmm:=B4 hM
 have hL':=hL
 unfold Bq at hL'
 have hL2:=hL'.2.2.2.1 hsp
 have hpo1:Aa (po+1):=by unfold Ar at hpo;unfold Aa;unfold Cfg.may at hM;unfold Ar at hmm;omega
 have:=Oy hT (o:=EK (ev,lo,sp,po,dn,nl,br)) (Ip o1 o2 hpo1 o4)
 exact ⟨_,rfl,dvC.hf this,this⟩
theorem WN (hd:dvC.r d l) (h:Mq d):(Jw d l=.tup [.agg J5,.nils,.int .i64 9])∨d.2.2.1.1≠2147483648∧∃ a,Jw d l=.tup [.agg a,.fz (1+d.1.members.toNat) none (MA d),.int .i64 0]∧hfs a=true∧dvC.r (BK d (DW (B0 d.1 d.2.2.1))) a:=by
 obtain ⟨hM,hL,hsp,hdp,hbr,hS⟩:=h
 have hT:=Mx hd
 obtain ⟨k1,k2,k3,k4,k5⟩:=Ox hM hL hsp hdp
 unfold Jw
 by_cases hq:d.2.2.1.1=2147483648
 ·rw [Zqd hq];exact .inl rfl
 ·rw [Zqh hq]
  obtain ⟨c,bk,⟨ev,lo,sp,po,dn,nl,br⟩,hs,⟨ag,sq,tl,us,L⟩,fs,nx,so⟩:=d
  obtain ⟨hv,lv,fv,rfl,⟨ho,o1,o2,o3,o4,-⟩,-⟩:=Bl hd
  obtain ⟨b1,b2,b3⟩:=k5 o2 o3
  have hL1:=hL.1
  dsimp only at hq k3 hL1
  generalize hm:B0 c (ev,lo,sp,po,dn,nl,br)=m at *
  have hGr:loC.r (DW m) (DT (DW m)):=RB (by obtain ⟨_,_⟩:=m;unfold Be at o1 ⊢;show 0≤_+1∧_+1<_;simp only at k3;omega) (by obtain ⟨_,_⟩:=m;exact b1) (by obtain ⟨_,_⟩:=m;exact b2) (by obtain ⟨_,_⟩:=m;exact b3)
  have:=Oy hT hGr
  exact .inr ⟨hq,_,by subst hm;rfl,dvC.hf this,by subst hm;exact this⟩
theorem l23:∀ {a:List AV},a.length=23→∃ a0 a1 a2 a3 a4 a5 a6 a7 a8 a9 a10 a11 H9 H8 a14 H7 a16 a17 H6 H5 H4 H3 H1:AV,a=[a0,a1,a2,a3,a4,a5,a6,a7,a8,a9,a10,a11,H9,H8,a14,H7,a16,a17,H6,H5,H4,H3,H1]
 | [a0,a1,a2,a3,a4,a5,a6,a7,a8,a9,a10,a11,H9,H8,a14,H7,a16,a17,H6,H5,H4,H3,H1],_=>⟨a0,a1,a2,a3,a4,a5,a6,a7,a8,a9,a10,a11,H9,H8,a14,H7,a16,a17,H6,H5,H4,H3,H1,rfl⟩
theorem Zj8 {p:List AV→Prop}{A:List AV}(hx:ev x t=.some (.agg A)) (hA:A.length=23) (hy:ev y t=.some v) (hc:cellsOf v=[v]) (hk:p (A++[v])):wO (fill t [(0,23,x),(23,1,y)] [.int .u32 0,.int .i64 0,.int .i64 0,.int .i64 0,.int .i64 0,.int .i64 0,.bool false,.int .u32 0,.int .i64 0,.bool false,.int .i64 0,.int .i64 0,.bool false,.bool false,.nils,.int .u32 0,.int .u32 0,.int .i64 0,.int .i64 0,.nils,.nils,.int .i64 0,.bool false,.nils]) p:=by
 obtain ⟨a0,a1,a2,a3,a4,a5,a6,a7,a8,a9,a10,a11,H9,H8,a14,H7,a16,a17,H6,H5,H4,H3,H1,rfl⟩:=l23 hA
 have h:fill t [(0,23,x),(23,1,y)] [.int .u32 0,.int .i64 0,.int .i64 0,.int .i64 0,.int .i64 0,.int .i64 0,.bool false,.int .u32 0,.int .i64 0,.bool false,.int .i64 0,.int .i64 0,.bool false,.bool false,.nils,.int .u32 0,.int .u32 0,.int .i64 0,.int .i64 0,.nils,.nils,.int .i64 0,.bool false,.nils]=some ([a0,a1,a2,a3,a4,a5,a6,a7,a8,a9,a10,a11,H9,H8,a14,H7,a16,a17,H6,H5,H4,H3,H1]++[v]):=by
  show (OV.rec none (fun v=>Bool.rec none (Option.rec none (fun z'=>(OV.rec none (fun v=>Bool.rec none (Option.rec none (fun z'=>some z') (Et (cellsOf v) 23 z')) (Nat.beq (A6 (cellsOf v)) 1)) (ev y t):Option (List AV))) (Et (cellsOf v) 0 [.int .u32 0,.int .i64 0,.int .i64 0,.int .i64 0,.int .i64 0,.int .i64 0,.bool false,.int .u32 0,.int .i64 0,.bool false,.int .i64 0,.int .i64 0,.bool false,.bool false,.nils,.int .u32 0,.int .u32 0,.int .i64 0,.int .i64 0,.nils,.nils,.int .i64 0,.bool false,.nils])) (Nat.beq (A6 (cellsOf v)) 23)) (ev x t):Option (List AV))=_
  rw [hx,hy]
  dsimp only
  rw [hc];rfl
 rw [h];exact hk
theorem Znz {e:Env}(hE:EM P e) (h34:Con e 34 (Ag Ju)) (h35:Con e 35 askF.O) {d:Dv}{l:List AV}{D:List Dk}{v:AV}(hd:dvC.r d l) (hD:Ls dkC D v) (hdo:SE d D) {n j f:Nat}{cl r:List AV}{kd s z:Int}{W:List AV}{cc:AV}(hV:Ch d l v=.fz n none cl) (hC:cl.length=n*5) (hj:j<n∧n≤1000) (hr:cl.drop (j*5)=[.int .u8 kd,.int .i64 0,.int .i64 0,.int .i64 s,.fn f [.agg (l++[v])] []]++r) (h0:∀ i<j,kd=9∧∃ r0,cl.drop (i*5)=I6 l v d.2.2.1.2.2.2.1++r0) (hc:∀ (Q:AV→St→Prop) st,Q (.tup [.agg W,cc,.int .i64 z]) st→ECall e f [.agg (l++[v]),.int .i64 s] st Q) (hW:W.length=23) (hf:AM.hf (.tup [.agg W,cc,.int .i64 z])=true):C P 10 [.agg l,v,.agg [.int .u8 kd,.int .i64 0,.int .i64 0,.int .i64 s]] St0 (fun u st=>Frz st u (.tup [.agg W,cc,.int .i64 z])):=by
 obtain ⟨hask,hsm,hln,hM,hbr⟩:=hdo
 have hvf:=hD.hf
 have hvc:=hD.cell
 have hak:∀ (Q:AV→St→Prop) s,Q (.int .i64 0) s→ESc e 35 [.agg l,v] s Q:=fun Q s q=>Fn.u (F:=askF) h35 (d,D,()) ⟨_,_,rfl,hd,_,_,rfl,⟨_,rfl,hD⟩,rfl⟩ ⟨hln,hsm⟩ (by show Q (.int .i64 (J3 d D)) s;rw [hask];exact q)
 have hstp:∀ (Q:AV→St→Prop) s,Q (.fz n none cl) s→ESc e 34 [.agg (l++[v])] s Q:=fun Q s q=>by
  refine ESc.rel h34 ⟨_,d,l,v,rfl,hd,hvf,hvc,hM,hbr,rfl⟩ ?_
  rintro u ⟨d',l',v',e1,hd',-,-,-,-,rfl⟩
  have e1:=(Zql e1).1
  injection e1 with e1
  obtain ⟨rfl,rfl,rfl⟩:=RA hd hd' e1
  rw [hV];exact q
 have hsl:Sl 5 n cl (.fz n none cl):=.inr (.inr ⟨none,rfl,hC⟩)
 have hlen:=dvC.len hd
 clear hV hd
 generalize d.2.2.1.2.2.2.1=po at h0
 obtain ⟨x0,x1,x2,x3,x4,x5,x6,x7,x8,x9,x10,x11,x12,x13,x14,x15,x16,x17,x18,x19,x20,x21,x22,rfl⟩:=l23 hlen
 obtain ⟨y0,y1,y2,y3,y4,y5,y6,y7,y8,y9,y10,y11,y12,y13,y14,y15,y16,y17,y18,y19,y20,y21,y22,rfl⟩:=l23 hW
 refine C.of_G hE g10 ?_;conv=>whnf
 repeat' (first|(refine Dy (by show Nat.beq (A6 (cellsOf v)) 1=true;rw [hvc];rfl) ?_;rw [hvc];conv=>whnf)|((first|refine hak _ _ ?_|refine Zj8 rfl rfl rfl hvc ?_|refine hstp _ _ ?_|refine JJ rfl ?_);conv=>whnf)|refine v6 ?_ ?_|(intro _;first|omega|conv=>whnf))
 refine Ax hE n (fun i=>[(5,.ptr 0 0),(6,.ptr 1 0),(22,.fz n none cl),(23,.int .i64 (n:Int)),(24,.int .i64 (i:Int))]) (fun _=>[.row 42 [.int .u8 kd,.int .i64 0,.int .i64 0,.int .i64 s],.row 33 J5]) (fun i=>i≤j) (Zqs _) (Abs.tells (rs:=[1,2]) .a) ?_
 intro i hi hI
 by_cases hij:i=j
 ·subst hij
  conv=>whnf
  repeat' (first|((first|refine El rfl hsl rfl hj.1 hr ?_|refine A7 (cs:=[_,_,_,_,_]) rfl ?_|refine Uy rfl rfl (Zcg _ _ _ _) ?_|refine hc _ _ ?_);conv=>whnf)|refine v1 ?_ ?_|(intro _;first|omega|conv=>whnf))
  exact .plain _ hf
 ·obtain ⟨rfl,r0,hr0⟩:=h0 i (by omega)
  conv=>whnf
  repeat' (first|((first|refine Am hsl (by omega) hr0 ?_|refine A7 (cs:=[_,_,_,_,_]) rfl ?_|refine Uy rfl rfl (Zim _ _) ?_|refine v7 ?_|refine ⟨rfl,?_⟩);conv=>whnf)|refine v1 ?_ ?_|(intro _;first|omega|conv=>whnf))
  exact ⟨by omega,by omega,Abs.tells (rs:=[0,1]) .a⟩
theorem Zpk (hE:EM P e) (h34:Con e 34 (Ag Ju)) (h35:Con e 35 askF.O) (h81:Con e 81 (Ag MB)) (h82:Con e 82 (Ag M9)):OvOk P 10 (Ag La):=by
 refine Da g10.b ?_
 rintro args u ⟨d,l,D,v,hd,hD,hdo,hor⟩
 have hrow:=dvC.hf hd
 have hvf:=hD.hf
 have har:∀ kd s,hfs [.agg l,v,.agg (DQ kd s)]=true:=fun kd s=>by
  show (hfs l && (AM.hf v && (hfs _ && true)))=true
  rw [hrow,hvf];rfl
 have rem:=fun {n j f:Nat}{cl r:List AV}{kd s z:Int}{W:List AV}{cc:AV}=>@Znz e hE h34 h35 d l D v hd hD hdo n j f cl r kd s z W cc
 rcases hor with ⟨hA,rfl,hok,rfl⟩|⟨hB,rfl,hok,rfl⟩
 ·obtain ⟨a,e1,ha,hr⟩:=WO (D:=D) hd hok
  have hc:=Zha h81 hd hD hok
  rw [e1] at hc ⊢
  refine ⟨har 8 _,O1 ha,?_⟩
  by_cases hB:Hj d
  ·exact rem (j:=0) (VS hok.2.2.1 hA hB) rfl ⟨by decide,by decide⟩ rfl (fun i h=>absurd h (Nat.not_lt_zero i)) hc (dvC.len hr) (O1 ha)
  ·exact rem (j:=0) (Zks hok.2.2.1 hA hB) rfl ⟨by decide,by decide⟩ rfl (fun i h=>absurd h (Nat.not_lt_zero i)) hc (dvC.len hr) (O1 ha)
 ·have hc:=Zg8 h82 hd hvf hD.cell hok
  have key:∃ W:List AV,∃ cc z,Jw d l=.tup [.agg W,cc,.int .i64 z]∧AM.hf (.tup [.agg W,cc,.int .i64 z])=true∧W.length=23:=by
   rcases WN hd hok with e1|⟨-,a,e1,ha,har⟩
   ·exact ⟨_,_,_,e1,rfl,rfl⟩
   ·exact ⟨_,_,_,e1,O1 ha,dvC.len har⟩
  obtain ⟨W,cc,z,e1,hAf,hlen⟩:=key
  rw [e1] at hc ⊢
  refine ⟨har 9 0,hAf,?_⟩
  by_cases hA:Gz d
  ·exact rem (j:=1) (VS hok.2.2.1 hA hB) rfl ⟨by decide,by decide⟩ rfl (fun i h=>⟨rfl,I7 l v,by rw [Nat.lt_one_iff.1 h];rfl⟩) hc hlen hAf
  ·exact rem (j:=0) (Zkr hok.2.2.1 hA hB) rfl ⟨by decide,by decide⟩ rfl (fun i h=>absurd h (Nat.not_lt_zero i)) hc hlen hAf
def OW (d:Dv) (D:List Dk):Prop:=CH d.1 D∧(∀ x ∈ D,Cq x)∧Cc d.1 d.2.2.2.1
def KI (args:List AV) (u:AV):Prop:=∃ d l D v d' l' D' v',args=[.agg l,v,.agg l',v']∧(dvC.r d l∧Ls dkC D v∧OW d D)∧(dvC.r d' l'∧Ls dkC D' v'∧OW d' D')∧d.1.may∧d'.1=d.1∧(∀ s k:Int,0≤s→s<Ar d.1→0≤k→k<d.1.members→∃ b,BX d D s k=some b∧BX d' D' s k=some b)∧u=.bool true
theorem Zk2 (hE:EM P e) (h41:Con e 41 blsF.O) (h42:Con e 42 sptF.O) (h43:Con e 43 (Ag I5)):OvOk P 13 (Ag KI):=by
 refine Da g13.b ?_
 rintro args u ⟨d,l,D,v,d',l',D',v',rfl,⟨hd,hD,q1,q2,q3⟩,⟨hd',hD',q1',q2',q3'⟩,hM,hcc,hvw,rfl⟩
 have hrow:=dvC.hf hd
 have hrow':=dvC.hf hd'
 have hvf:=hD.hf
 have hvf':=hD'.hf
 refine ⟨?_,rfl,C.of_G hE g13 ?_⟩
 ·show (hfs l && (AM.hf v && (hfs l' && (AM.hf v' && true))))=true
  rw [hrow,hvf,hrow',hvf'];rfl
 have hu1:=fun {s k:Int}(hs:Aa s) (hk:Aa k) (h0:KE d D s k) {b:List Nat}(hb:BX d D s k=some b)=>Rw (e:=e) h43 hd hD hs hk h0 hb
 have hu2:=fun {s k:Int}(hs:Aa s) (hk:Aa k) (h0:KE d' D' s k) {b:List Nat}(hb:BX d' D' s k=some b)=>Rw (e:=e) h43 hd' hD' hs hk h0 hb
 have hok1:∀ s k:Int,0≤s→s<Ar d.1→0≤k→k<d.1.members→KE d D s k:=fun s k a b c' d0=>⟨⟨hM,q1,q2,a,b⟩,q3,c',d0⟩
 have hok2:∀ s k:Int,0≤s→s<Ar d.1→0≤k→k<d.1.members→KE d' D' s k:=fun s k a b c' d0=>⟨⟨by rw [hcc];exact hM,q1',q2',a,by rw [hcc];exact b⟩,q3',c',by rw [hcc];exact d0⟩
 obtain ⟨c,bk,⟨ev,lo,sp,po,dn,nl,br⟩,hs,⟨ag,sq,tl,us,L⟩,fs,nx,so⟩:=d
 obtain ⟨c',bk',⟨ev',lo',sp',po',dn',nl',br'⟩,hs',⟨ag',sq',tl',us',L'⟩,fs',nx',so'⟩:=d'
 dsimp only at hM hcc hvw hok1 hok2
 subst hcc
 obtain ⟨hv,lv,fv,rfl,⟨ho,-⟩,-⟩:=Bl hd
 obtain ⟨hv',lv',fv',rfl,-,-⟩:=Bl hd'
 have hbl:∀ (Q:AV→St→Prop) s,Q (.tup [.int .i64 (B8 c'),.int .i64 0]) s→ESc e 41 [.agg c'.c] s Q:=fun Q s q=>Fn.u (F:=blsF) h41 (c',()) ⟨_,_,rfl,⟨rfl,ho⟩,rfl⟩ hM q
 have hsp:∀ (b:Int),0≤b→b<B8 c'→∀ (Q:AV→St→Prop) s,Q (.tup [.agg [.int .i64 (Bz c' b),.int .i64 (BT c' b),.int .i64 (E7 c' b)],.int .i64 0]) s→ESc e 42 [.agg c'.c,.int .i64 b] s Q:=fun b h0 h1 Q s q=>Fn.u (F:=sptF) h42 (c',b,()) ⟨_,_,rfl,⟨rfl,ho⟩,_,_,rfl,⟨rfl,AW (by have:=B4 hM;unfold Aa;dsimp only;omega)⟩,rfl⟩ ⟨hM,h0,h1⟩ q
 have hmm:=B4 hM
 have hvc:=hD.cell
 have hvc':=hD'.cell
 have hM':=hM
 unfold Cfg.may at hM'
 change VW P e 0 _ (Ah [.agg _,v,.agg _,v'] 0 .lf) St0 none [] _
 conv=>whnf
 repeat' (first|(refine hbl _ _ ?_;conv=>whnf)|fail)
 refine Ax hE (B8 c').toNat (fun i=>[(1,v),(3,v'),(4,.ptr 0 0),(6,.ptr 1 0),(9,.int .i64 (B8 c')),(10,.int .i64 0),(11,.int .i64 (i:Int))]) (fun _=>[.row 33 (c'.c++[.bool bk,.int .u32 ev,.int .i64 lo,.bool sp,.int .i64 po,.int .i64 dn,.bool nl,.bool br,hv,.int .u32 ag,.int .u32 sq,.int .i64 tl,.int .i64 us,lv,fv,.int .i64 nx,.bool so]),.row 33 (c'.c++[.bool bk',.int .u32 ev',.int .i64 lo',.bool sp',.int .i64 po',.int .i64 dn',.bool nl',.bool br',hv',.int .u32 ag',.int .u32 sq',.int .i64 tl',.int .i64 us',lv',fv',.int .i64 nx',.bool so'])]) (fun _=>True) trivial (Abs.tells (rs:=[0,1]) .a) ?_
 intro i hi _
 by_cases hlt:i<(B8 c').toNat
 ·obtain ⟨⟨p0,p1⟩,p2,p3⟩:=Mp hM (b:=(i:Int)) ⟨Zrs _,by omega⟩
  have hsp:=hsp (i:Int) (Zrs _) (by omega)
  obtain ⟨b,e1,e2⟩:=hvw (Bz c' i) (BT c' i) p0 p1 p2 (by omega)
  obtain ⟨u1,a1,a2⟩:=hu1 (by unfold Aa;omega) (by unfold Aa;omega) (hok1 (Bz c' i) (BT c' i) p0 p1 p2 (by omega)) e1
  obtain ⟨u2,b1,b2⟩:=hu2 (by unfold Aa;omega) (by unfold Aa;omega) (hok2 (Bz c' i) (BT c' i) p0 p1 p2 (by omega)) e2
  have a3:=a1.b
  have b3:=b1.b
  clear hu1 hu2 hvw hok1 hok2
  generalize Bz c' i=S at *
  generalize BT c' i=K at *
  generalize E7 c' i=N at *
  conv=>whnf
  repeat' (first|(refine Nj rfl rfl (fun h=>absurd rfl h) (fun _=>?_);conv=>whnf)|((first|refine hsp _ _ ?_|refine a2 _ _ ?_|refine b2 _ _ ?_|refine GI rfl a3.1 a3.2 ?_|refine GI rfl b3.1 b3.2 ?_|refine v7 ?_|refine An ?_|refine ⟨rfl,?_⟩);conv=>whnf)|refine v1 ?_ ?_|refine v6 ?_ ?_|(intro _;first|omega|conv=>whnf))
  exact ⟨hlt,trivial,Abs.tells (rs:=[0,1]) .a⟩
 ·conv=>whnf
  repeat' (first|refine v1 ?_ ?_|refine v5 ?_ ?_|(intro _;first|omega|conv=>whnf))
  exact .plain _ rfl
variable {a:Int}{b:List Nat}
theorem Zez {y:DK}(hx:(CM y a b).ok) (h:BE y a b=0) {p:Int}(hp:0≤p):Ca (Aj (ED (CM y a b))) p=if p=a then Ae (Ae b) else Ca (Aj y) p:=by
 rw [← JX (Ko (Wr hx h).a) p,show Ca (Aj y) p=Ae (D7 y p) from (JX (Ko (show y.any from hx.d.a)) p).symm,Zfh hx h hp]
 show Ae (if p=a then Ae b else D7 y p)=_
 by_cases hq:p=a
 ·rw [Zqd hq,Zqd hq]
 ·rw [Zqh hq,Zqh hq]
def Hr (D:List Dk) (l:List Act) (j:Nat) (p:Int):Nat→List Nat
 | 0=>BH D p j
 | i+1=>match l[i]? with
  | none=>Hr D l j p i
  | some (k,d,a,b)=>if d≠3∧k.toNat=j∧p=a then Ae (Ae b) else Hr D l j p i
theorem Vg {ys:List DK}{l:List Act}(hY:Fc (ys.map Ao)) (hl:∀ x ∈ l,Aa x.2.2.1∧(∀ z ∈ x.2.2.2,z<256)∧D3 (ys.map Aj) x) (hk:∀ x ∈ l,(x.2.1=1∨x.2.1=2∨x.2.1=3)∧Bh (ys.map Aj) x.1.toNat=false):∀ i,i≤l.length→Bc (ys.map Ao) l i=0→(∀ j,Bh ((AB (ys.map Ao) l i).map Aj) j=Bh (ys.map Aj) j)∧∀ j p,0≤p→BH ((AB (ys.map Ao) l i).map Aj) p j=Hr (ys.map Aj) l j p i
 | 0,_,_=>by
  show (∀ j,Bh ((ys.map Ao).map Aj) j=_)∧∀ j p,0≤p→BH ((ys.map Ao).map Aj) p j=BH (ys.map Aj) p j
  rw [Zkl]
  exact ⟨fun _=>rfl,fun _ _ _=>rfl⟩
 | i+1,hi,he=>by
  have h0:Bc (ys.map Ao) l i=0:=Classical.byContradiction fun h=>by
   have:=Lu h (i+1) (by omega)
   rw [this] at he;exact h he
  obtain ⟨s1,s2⟩:=Vg hY hl hk i (by omega) h0
  obtain ⟨g1,g2,g3⟩:=L5 hY hl i h0
  obtain ⟨x,hx⟩:∃ x,l[i]?=some x:=⟨_,Zp9 hi⟩
  rw [U3 hx h0] at he
  rw [Zbl hx]
  obtain ⟨e1,e2⟩:=hk x (Zqv hx)
  have hm:=(hl x (Zqv hx)).2.2
  have hxa:=(hl x (Zqv hx)).1
  have hxb:=(hl x (Zqv hx)).2.1
  have heff:∀ j p,Hr (ys.map Aj) l j p (i+1)=if x.2.1≠3∧x.1.toNat=j∧p=x.2.2.1 then Ae (Ae x.2.2.2) else Hr (ys.map Aj) l j p i:=fun j p=>by
   show (match l[i]? with|none=>_|some (k,d,a,b)=>if d≠3∧k.toNat=j∧p=a then Ae (Ae b) else Hr (ys.map Aj) l j p i)=_
   rw [hx]
  generalize AB (ys.map Ao) l i=Y at *
  obtain ⟨k,d,a,b⟩:=x
  dsimp only at e1 e2 heff
  unfold D3 at hm
  obtain ⟨⟨m1,m2⟩,-,-,hms⟩:=hm
  rw [Zqg] at m2 g2
  have hkl:k.toNat<Y.length:=by omega
  obtain ⟨y,hy⟩:∃ y,Y[k.toNat]?=some y:=⟨_,Zp9 hkl⟩
  have hd:y.dead=false:=by
   have:=s1 k.toNat
   rw [e2] at this
   unfold Bh at this
   rw [Zq8,hy] at this
   exact this
  have hgy:=g1 y (Zqv hy)
  have hst:DA Y (k,d,a,b)=((Cv y (k,d,a,b)).1,Y.set k.toNat (Cv y (k,d,a,b)).2):=by
   unfold DA;dsimp only;rw [hy]
  rw [hst]
  dsimp only
  have hse:BH (Y.map Aj)=fun p j=>BH (Y.map Aj) p j:=rfl
  have hyk:∀ p,BH (Y.map Aj) p k.toNat=Ca (Aj y) p:=fun p=>by unfold BH;rw [Zq8,hy];rfl
  have hdk:Bh (Y.map Aj) k.toNat=y.dead:=by unfold Bh;rw [Zq8,hy];rfl
  rcases e1 with rfl|rfl|rfl
  ·have hz:(Cv y (k,1,a,b)).2=F7 (CM y a b):=by unfold Cv;dsimp only;rw [Zqh (by rw [hd];decide)];rfl
   rw [hz]
   refine ⟨fun j=>?_,fun j p hp=>?_⟩
   ·rw [QG hkl,← s1]
    split
    ·rename_i h;subst h;rw [hdk];rfl
    ·rfl
   ·rw [QM hkl,heff,Zis,← s2 j p hp]
    by_cases h1:k.toNat=j
    ·subst h1
     rw [Zqd rfl,hyk]
     by_cases h2:p=a
     ·rw [Zqd h2,Zqd ⟨by decide,rfl,h2⟩]
     ·rw [Zqh h2,Zqh fun h=>h2 h.2.2]
    ·rw [Zqh h1,Zqh fun h=>h1 h.2.1]
  ·have hwe:BE y a b=0:=by
    rw [hst] at he
    have he:(Cv y (k,2,a,b)).1=0:=he
    unfold Cv at he;dsimp only at he;rw [Zqh (by rw [hd];decide)] at he;exact he
   have hxo:(CM y a b).ok:=R1 hgy.1 hxa hxb (hms (by decide)).2
   have hz:(Cv y (k,2,a,b)).2=ED (CM y a b):=by unfold Cv;dsimp only;rw [Zqh (by rw [hd];decide)];rfl
   rw [hz]
   refine ⟨fun j=>?_,fun j p hp=>?_⟩
   ·rw [QG hkl,← s1]
    split
    ·rename_i h;subst h;rw [hdk];rfl
    ·rfl
   ·rw [QM hkl,heff,Zez hxo hwe hp,← s2 j p hp]
    by_cases h1:k.toNat=j
    ·subst h1
     rw [Zqd rfl,hyk]
     by_cases h2:p=a
     ·rw [Zqd h2,Zqd ⟨by decide,rfl,h2⟩]
     ·rw [Zqh h2,Zqh fun h=>h2 h.2.2]
    ·rw [Zqh h1,Zqh fun h=>h1 h.2.1]
  ·have hz:(Cv y (k,3,a,b)).2=Du y:=by unfold Cv;dsimp only;rw [Zqh (by rw [hd];decide)];rfl
   rw [hz]
   refine ⟨fun j=>?_,fun j p hp=>?_⟩
   ·rw [QG hkl,← s1]
    split
    ·rename_i h;subst h;rw [hdk,hd];rfl
    ·rfl
   ·rw [heff,Zqh (fun h=>h.1 rfl),QM hkl,Zid hgy.1 hgy.2 hp,← s2 j p hp]
    split
    ·rename_i h;subst h;exact (hyk p).symm
    ·rfl
theorem Zot (hD:Ls dkC D v) (h:CH d.1 D):Xt d D:=by
 intro s i hi
 have hl:=h.1
 have hil:i<D.length:=by omega
 obtain ⟨x,hx⟩:∃ x,D[i]?=some x:=⟨_,Zp9 hil⟩
 obtain ⟨l,hr⟩:=hD.mem (Zqv hx)
 have:=NE hr (h.2 i hil x hx).2 s
 unfold BH
 rw [hx]
 exact this
theorem Zn0 {Y:List DK}(h:∀ y ∈ Y,y.ok) (hn:Y.length≤1000):Ls dkV Y (.fz Y.length none (BQ Y)):=by
 refine ⟨Y.map DK.c,?_,.inr (.inr ⟨none,?_,?_⟩),by omega⟩
 ·refine Ey (by simp) fun i y l h1 h2=>?_
  rw [Zq8,h1] at h2
  cases h2
  exact ⟨rfl,h y (Zqv h1)⟩
 ·rw [← List.flatMap_def];rfl
 ·rw [← List.flatMap_def];exact Rl Y
theorem Zkv {y:DK}(h:y.ok):Cq (Aj y):=by
 refine ⟨?_,?_,h.b,fun w hw=>?_⟩
 ·show y.bs.length<_;rw [← h.a.bs.length];exact h.n
 ·show (List.map _ y.ws).length<_;rw [Zqg];exact h.m
 ·obtain ⟨x,hx,rfl⟩:=Zq9.1 hw
  exact h.w x hx
variable {ys:List DK}{A:List Act}
theorem VU (hM:c.may) (h20:CH c (ys.map Aj)) (hok:∀ y ∈ ys,y.ok) (hn:A.length≤1024) (hmy:∀ x ∈ A,D3 (ys.map Aj) x) (hb:∀ x ∈ A,Aa x.2.2.1∧∀ z ∈ x.2.2.2,z<256) (hk:∀ x ∈ A,(x.2.1=1∨x.2.1=2∨x.2.1=3)∧Bh (ys.map Aj) x.1.toNat=false):
 Dm A (ys.map Aj)=0∧∀ n,n=A.length→(Bc (ys.map Ao) A n=0∨Bc (ys.map Ao) A n=9)∧(Bc (ys.map Ao) A n=0→Fc (AB (ys.map Ao) A n)∧(AB (ys.map Ao) A n).length=ys.length∧CH c ((AB (ys.map Ao) A n).map Aj)∧(∀ j,Bh ((AB (ys.map Ao) A n).map Aj) j=Bh (ys.map Aj) j)∧∀ j p,0≤p→BH ((AB (ys.map Ao) A n).map Aj) p j=Hr (ys.map Aj) A j p n):=by
 have hM':=hM
 unfold Cfg.may at hM'
 have h20l:=h20.1
 have hch:Dm A (ys.map Aj)=0:=by
  unfold Dm
  rw [Zqd ⟨by omega,fun x hx=>by
   obtain ⟨i,hi⟩:=Zr0 hx
   exact (h20.2 i (Zqa.1 hi).1 x hi).2⟩,Zqh (by omega),Zqd hmy]
 refine ⟨hch,?_⟩
 rintro n rfl
 obtain ⟨-,hgd,-⟩:=XH hok hch
 have hg0:Fc (ys.map Ao):=fun y hy=>by
  obtain ⟨x,hx,rfl⟩:=Zq9.1 hy
  exact ⟨Ry (hgd x hx).1,VM (hgd x hx).2⟩
 have hl:∀ x ∈ A,Aa x.2.2.1∧(∀ z ∈ x.2.2.2,z<256)∧D3 (ys.map Aj) x:=fun x hx=>⟨(hb x hx).1,(hb x hx).2,hmy x hx⟩
 refine ⟨VT hg0 hl _ (Zqu _),fun he=>?_⟩
 obtain ⟨g1,g2,g3⟩:=L5 hg0 hl _ he
 obtain ⟨s1,s2⟩:=Vg hg0 hl hk _ (Zqu _) he
 generalize AB (ys.map Ao) A A.length=Y at *
 rw [Zqg] at g2 h20l
 refine ⟨g1,g2,⟨by rw [Zqg,g2];exact h20l,fun i hi x hx=>?_⟩,s1,s2⟩
 rw [Zqg] at hi
 rw [Zq8] at hx
 obtain ⟨y,hy⟩:∃ y,Y[i]?=some y:=⟨_,Zp9 hi⟩
 rw [hy] at hx
 cases hx
 have hgy:=g1 y (Zqv hy)
 obtain ⟨z,hz,hz2⟩:=g3 i y hy
 have hil:i<ys.length:=by omega
 rw [Zq8,Zp9 hil] at hz
 cases hz
 have h1:=(h20.2 i (by rw [Zqg];exact hil) (Aj ys[i]) (by rw [Zq8,Zp9 hil];rfl)).1
 have e1:(Aj y).1.length=y.us.length:=hgy.1.a.bs.length.symm
 have e2:(Aj ys[i]).1.length=ys[i].us.length:=(hok _ (Zra hil)).a.bs.length.symm
 have e3:(Ao ys[i]).us.length=ys[i].us.length:=Zqg ..
 refine ⟨?_,by rw [← Kn (Ko hgy.1.a)];exact hgy.2⟩
 rw [e1,hz2,e3,← e2]
 exact h1
theorem Zdy (h:Dm A (ys.map Aj)=0):E8 ys A (A.length:Nat)=if Bc (ys.map Ao) A A.length=0 then .tup [.fz ys.length none (BQ (AB (ys.map Ao) A A.length)),.int .i64 0] else .tup [.nils,.int .i64 (Bc (ys.map Ao) A A.length)]:=by
 unfold E8
 rw [Zqd h,Zqd ⟨by omega,by omega⟩,Int.toNat_natCast,List.take_length]
theorem Qe (hT:Ed d D) (hsp:d.2.2.1.2.2.1=true):∀ i<d.1.members.toNat,Bh D i=false:=fun i hi=>by
 obtain ⟨hm,hm20,hbr,hal,htd⟩:=hT
 cases hx:D[i]? with
 | none=>unfold Bh;rw [hx];rfl
 | some x=>
  unfold Bh
  rw [hx]
  show x.2.2=false
  cases hxd:x.2.2 with
  | false=>rfl
  | true=>have:=(hal i (by omega) x hx hxd).2;rw [hsp] at this;cases this
theorem Lw (h:EA d):d.1.may∧Bq d.1 d.2.2.1∧Cc d.1 d.2.2.2.1:=by
 obtain ⟨c,bk,⟨ev,lo,sp,po,dn,nl,br⟩,hs,⟨ag,sq,tl,us,L⟩,fs,nx,so⟩:=d
 unfold EA G0 at h
 exact ⟨h.1.1,h.1.2.1,h.1.2.2.1⟩
def EV (d:Dv) (D:List Dk):List Act:=[(d.2.2.1.2.1,1,d.2.2.1.2.2.2.1+1,G1 d D)]
theorem Zbv (hok:∀ y ∈ ys,y.ok) (hT:Ed d (ys.map Aj)) (h8:Xt d (ys.map Aj)) (hsp:d.2.2.1.2.2.1=true) (hpo:d.2.2.1.2.2.2.1<Ar d.1) (hb:Aa d.2.2.1.2.1):
 Ls actC (EV d (ys.map Aj)) (.fz 1 none (MC d (ys.map Aj)))∧Dm (EV d (ys.map Aj)) (ys.map Aj)=0∧∀ n,n=(EV d (ys.map Aj)).length→(Bc (ys.map Ao) (EV d (ys.map Aj)) n=0∨Bc (ys.map Ao) (EV d (ys.map Aj)) n=9)∧(Bc (ys.map Ao) (EV d (ys.map Aj)) n=0→Fc (AB (ys.map Ao) (EV d (ys.map Aj)) n)∧(AB (ys.map Ao) (EV d (ys.map Aj)) n).length=ys.length∧Ed (BK d (EK d.2.2.1)) ((AB (ys.map Ao) (EV d (ys.map Aj)) n).map Aj)∧∀ s:Int,0≤s→s<Ar d.1→∀ k:Nat,BX (BK d (EK d.2.2.1)) ((AB (ys.map Ao) (EV d (ys.map Aj)) n).map Aj) s k=BX d (ys.map Aj) s k):=by
 obtain ⟨hM,hL,hsh⟩:=Lw hT.1
 have hal:=Qe hT hsp
 have h20:=hT.2.1
 have hM':=hM
 unfold Cfg.may at hM'
 have hmm:=B4 hM
 have hL':0≤d.2.2.1.2.1∧d.2.2.1.2.1<d.1.members∧0≤d.2.2.1.2.2.2.1:=by
  obtain ⟨c,bk,⟨ev,lo,sp,po,dn,nl,br⟩,R⟩:=d
  dsimp only at hsp hL ⊢
  unfold Bq at hL
  have:=hL.2.2.2.1 hsp
  exact ⟨this.1,hL.2.2.1,by omega⟩
 have hX:(G1 d (ys.map Aj)).length=128∧∀ z ∈ G1 d (ys.map Aj),z<256:=by
  unfold G1
  refine Ki fun b hb=>?_
  obtain ⟨j,hj,-,rfl⟩:=Wd hb
  exact h8 _ j hj
 unfold Ar at hmm
 have h20l:=h20.1
 obtain ⟨k1,k2⟩:=VU (A:=EV d (ys.map Aj)) hM h20 hok (by simp [EV]) (fun x hx=>by
  rw [List.mem_singleton.1 hx]
  refine ⟨⟨hL'.1,by omega⟩,by decide,fun h=>absurd h (by decide),fun _=>⟨⟨by omega,fun x hx=>?_⟩,.inr hX.1⟩⟩
  have hi:=(Zqa.1 hx).1
  have:=(h20.2 _ hi x hx).1
  rw [Zqh (by omega)] at this
  omega) (fun x hx=>by
  rw [List.mem_singleton.1 hx]
  refine ⟨?_,hX.2⟩
  unfold Aa;dsimp only;unfold Ar at hpo;omega) (fun x hx=>by
  rw [List.mem_singleton.1 hx]
  exact ⟨.inl rfl,hal _ (by dsimp only;omega)⟩)
 refine ⟨?_,k1,fun n hn=>⟨(k2 n hn).1,fun he=>?_⟩⟩
 ·refine ⟨[MC d (ys.map Aj)],.cons (RU hb (by decide) (by unfold Aa;unfold Ar at hpo;omega) (O4 hX.1 hX.2)) .nil,.inr (.inr ⟨none,?_,rfl⟩),by simp [EV]⟩
  rw [List.flatten_singleton];rfl
 ·obtain ⟨g1,g2,g3,g4,g5⟩:=(k2 n hn).2 he
  refine ⟨g1,g2,Za9 hM hT hsp hpo g3 (fun i hi=>by rw [g4];exact hal i hi) fun s hs i hi=>?_⟩
  rw [g5 i (s+1) (by omega),hn]
  show (if (1:Nat)≠3∧d.2.2.1.2.1.toNat=i∧s+1=d.2.2.1.2.2.2.1+1 then Ae (Ae (G1 d (ys.map Aj))) else BH (ys.map Aj) (s+1) i)=_
  by_cases h:s=d.2.2.1.2.2.2.1∧i=d.2.2.1.2.1.toNat
  ·rw [Zqd ⟨by decide,h.2.symm,by omega⟩,Zqd h,Wc hX.1,Wc hX.1]
   unfold G1
   rw [h.1,h.2]
  ·rw [Zqh fun q=>h ⟨by omega,q.2.1.symm⟩,Zqh h]
def D2 (d:Dv):List Act:=(d.2.2.1.2.1,3,0,[])::(List.range d.1.members.toNat).map fun (i:Nat)=>((i:Int),2,0,G8 d.1 (B0 d.1 d.2.2.1) true i)
theorem Rk {D:List Dk}{A:List Act}{j:Nat}{p:Int}(h:∀ x ∈ A,x.2.1=3∨x.2.2.1≠p):∀ n,Hr D A j p n=BH D p j
 | 0=>rfl
 | n+1=>by
  unfold Hr
  cases hx:A[n]? with
  | none=>exact Rk h n
  | some x=>
   obtain ⟨k,d,a,b⟩:=x
   dsimp only
   rw [Zqh,Rk h n]
   rintro ⟨h1,-,h3⟩
   rcases h _ (Zqv hx) with h'|h'
   ·exact h1 h'
   ·exact h' h3.symm
theorem Zo6 (h:b.length=128∧∀ x ∈ b,x<256):Ls Ce.u8 b (.fz 128 (some 128) (Ab b)):=by
 refine BAt.ls ⟨.inr (.inr ⟨some 128,by rw [h.1],?_⟩),h.2⟩ (by omega)
 unfold Ab;rw [Zqg];omega
theorem Zbu (hok:∀ y ∈ ys,y.ok) (hT:Ed d (ys.map Aj)) (hsp:d.2.2.1.2.2.1=true) (hdp:d.2.2.1.2.2.2.2.1<d.2.2.1.2.2.2.1) (hev:d.2.2.1.1≠2147483648) (hb:Aa d.2.2.1.2.1):
 Ls actC (D2 d) (.fz (1+d.1.members.toNat) none (MA d))∧Dm (D2 d) (ys.map Aj)=0∧∀ n,n=(D2 d).length→(Bc (ys.map Ao) (D2 d) n=0∨Bc (ys.map Ao) (D2 d) n=9)∧(Bc (ys.map Ao) (D2 d) n=0→Fc (AB (ys.map Ao) (D2 d) n)∧(AB (ys.map Ao) (D2 d) n).length=ys.length∧Ed (BK d (DW (B0 d.1 d.2.2.1))) ((AB (ys.map Ao) (D2 d) n).map Aj)∧∀ s:Int,0≤s→s<Ar d.1→∀ k:Nat,BX (BK d (DW (B0 d.1 d.2.2.1))) ((AB (ys.map Ao) (D2 d) n).map Aj) s k=BX d (ys.map Aj) s k):=by
 obtain ⟨hM,hL,hsh⟩:=Lw hT.1
 have hal:=Qe hT hsp
 have h20:=hT.2.1
 have hM':=hM
 unfold Cfg.may at hM'
 have hL':0≤d.2.2.1.2.1∧d.2.2.1.2.1<d.1.members:=by
  obtain ⟨c,bk,⟨ev,lo,sp,po,dn,nl,br⟩,R⟩:=d
  dsimp only at hsp hL ⊢
  unfold Bq at hL
  have:=hL.2.2.2.1 hsp
  exact ⟨this.1,hL.2.2.1⟩
 obtain ⟨k1,k2,k3,k4,k5⟩:=Ox hM hL hsp hdp
 obtain ⟨m1,m2,m3,-⟩:=Wh hM hL hsp hdp (by rw [k3];exact hev)
 have h20l:=h20.1
 have hX:∀ i,(G8 d.1 (B0 d.1 d.2.2.1) true i).length=128∧∀ z ∈ G8 d.1 (B0 d.1 d.2.2.1) true i,z<256:=fun i=>WS _
 have hmem:∀ x ∈ D2 d,x=(d.2.2.1.2.1,3,0,[])∨∃ (i:Nat) (b:List Nat),i<d.1.members.toNat∧(b.length=128∧∀ z ∈ b,z<256)∧x=((i:Int),2,0,b):=fun x hx=>by
  rcases Zrj.1 hx with h|hx
  ·exact .inl h
  ·obtain ⟨i,hi,h⟩:=Zq9.1 hx
   exact .inr ⟨i,_,List.mem_range.1 hi,hX i,h.symm⟩
 obtain ⟨r1,r2⟩:=VU (A:=D2 d) hM h20 hok (by simp [D2];omega) (fun x hx=>by
  rcases hmem x hx with rfl|⟨i,b,hi,hX,rfl⟩
  ·exact ⟨⟨hL'.1,by omega⟩,by decide,fun _=>⟨rfl,rfl⟩,fun h=>absurd rfl h⟩
  ·refine ⟨⟨Zrs _,by omega⟩,by show 1≤2∧2≤3;decide,fun h=>absurd h (by show (2:Nat)≠3;decide),fun _=>⟨⟨Int.le_refl 0,fun x hx=>?_⟩,.inr hX.1⟩⟩
   have hi2:=(Zqa.1 hx).1
   have:=(h20.2 _ hi2 x hx).2
   obtain ⟨bs,ws,dd⟩:=x
   have:=this.1.1
   show (0:Int)<bs.length
   omega) (fun x hx=>by
  rcases hmem x hx with rfl|⟨i,b,hi,hX,rfl⟩
  ·exact ⟨by show Aa 0;unfold Aa;omega,fun z hz=>by cases hz⟩
  ·exact ⟨by show Aa 0;unfold Aa;omega,hX.2⟩) (fun x hx=>by
  rcases hmem x hx with rfl|⟨i,b,hi,hX,rfl⟩
  ·exact ⟨.inr (.inr rfl),hal _ (by dsimp only;omega)⟩
  ·exact ⟨.inr (.inl rfl),hal _ (by dsimp only;omega)⟩)
 refine ⟨?_,r1,fun n hn=>⟨(r2 n hn).1,fun he=>?_⟩⟩
 ·have ha:All2 actC.r (D2 d) ([.int .i64 d.2.2.1.2.1,.int .u8 3,.int .i64 0,.nils]::(List.range d.1.members.toNat).map fun (i:Nat)=>[AV.int .i64 (i:Int),.int .u8 2,.int .i64 0,.fz 128 (some 128) (Ab (G8 d.1 (B0 d.1 d.2.2.1) true i))]):=by
   refine .cons (RU hb (by decide) (by unfold Aa;omega) (E6 (.inl rfl))) (All2.maps fun i hi=>?_)
   have:=List.mem_range.1 hi
   exact RU (by unfold Aa;omega) (by decide) (by unfold Aa;omega) (Zo6 (hX i))
  refine ⟨_,ha,.inr (.inr ⟨none,?_,Gn ha⟩),by simp [D2];omega⟩
  rw [show (D2 d).length=1+d.1.members.toNat by simp [D2];omega,List.flatten_cons]
  unfold MA EB
  rw [List.flatMap_def]
 ·obtain ⟨g1,g2,g3,g4,g5⟩:=(r2 n hn).2 he
  refine ⟨g1,g2,Zba hM hT hsp g3 (fun i hi=>by rw [g4];exact hal i hi) (fun s hs i hi=>?_) m1 m2 m3⟩
  rw [g5 i (s+1) (by omega)]
  refine Rk (fun x hx=>?_) n
  rcases hmem x hx with rfl|⟨i,b,hi,hX,rfl⟩
  ·exact .inl rfl
  ·exact .inr (by dsimp only;omega)
variable {k:Int}
theorem mem_dAdd {l:List Int}:a ∈ Dh k l↔a ∈ l∨a=k:=by
 unfold Dh
 split
 ·rename_i h
  constructor
  ·exact .inl
  ·rintro (h'|rfl)
   ·exact h'
   ·exact h
 ·simp
theorem Zak {l:List Int}(h:l.Nodup):(Dh k l).Nodup:=by
 unfold Dh
 split
 ·exact h
 ·rename_i hk
  rw [List.nodup_append]
  exact ⟨h,by simp,by rintro a ha b hb rfl;simp at hb;subst hb;exact hk ha⟩
theorem Zgk {p:List Lv→Prop}(h0:p []) (h1:∀ L x,p L→p (L++[x])):∀ L,p L:=by
 intro L
 have:∀ (n:Nat) (L:List Lv),L.length=n→p L:=by
  intro n
  induction n with
  | zero=>intro L hL;rw [Zq7.1 hL];exact h0
  | succ n ih=>
   intro L hL
   rcases List.eq_nil_or_concat L with rfl|⟨M,x,rfl⟩
   ·exact h0
   ·rw [List.concat_eq_append];exact h1 M x (ih M (by simpa using hL))
 exact this L.length L rfl
theorem UD {L:List Lv}{x:Lv}{s:Int}:∀ n,n≤L.length→AJ (L++[x]) s n=AJ L s n
 | 0,_=>rfl
 | n+1,h=>by
  unfold AJ
  rw [UD n (by omega),Zqt (by omega)]
variable {L:List Lv}{s:Int}
theorem Qn {x:Lv}:AJ (L++[x]) s (L++[x]).length=if x.stripe=s then (L.length:Int) else AJ L s L.length:=by
 rw [Zqn]
 show AJ (L++[x]) s (L.length+1)=_
 rw [show AJ (L++[x]) s (L.length+1)=if (L++[x])[L.length]?.map Lv.stripe=some s then (L.length:Int) else AJ (L++[x]) s L.length from rfl,Zq4 (Zqu _),Nat.sub_self,UD _ (Zqu _)]
 show (if some x.stripe=some s then _ else _)=_
 by_cases h:x.stripe=s
 ·rw [Zqd h,Zqd (by rw [h])]
 ·rw [Zqh h,Zqh fun g=>h (Zrh g)]
def Jm (L:List Lv) (s:Int):Prop:=∃ i x,L[i]?=some x∧AJ L x.stripe L.length=(i:Nat)∧x.par=false∧x.stripe=s
theorem Up {x:Lv}:Jm (L++[x]) s↔if x.stripe=s then x.par=false else Jm L s:=by
 unfold Jm
 constructor
 ·rintro ⟨i,y,h1,h2,h3,h4⟩
  rw [Qn] at h2
  split
  ·rename_i hs
   rw [h4,Zqd hs] at h2
   have:L.length=i:=by omega
   subst this
   rw [Zq4 (Zqu _),Nat.sub_self] at h1
   cases h1
   exact h3
  ·rename_i hs
   rw [h4,Zqh hs] at h2
   have hlt:=(HQ L s L.length).2
   rw [Zqt (by omega)] at h1
   exact ⟨i,y,h1,by rw [h4];exact h2,h3,h4⟩
 ·intro h
  split at h
  ·rename_i hs
   exact ⟨L.length,x,by rw [Zq4 (Zqu _),Nat.sub_self];rfl,by rw [Qn,Zqd rfl],h,hs⟩
  ·rename_i hs
   obtain ⟨i,y,h1,h2,h3,h4⟩:=h
   exact ⟨i,y,by rw [Zqt (Zqa.1 h1).1];exact h1,by rw [Qn,h4,Zqh hs,← h4];exact h2,h3,h4⟩
theorem Z0 (L:List Lv) (x:Lv):CB (L++[x])=Iu (CB L) x:=by unfold CB;rw [List.foldl_append];rfl
theorem Zz (L:List Lv):(CB L).Nodup∧∀ s,s ∈ CB L↔Jm L s:=by
 refine Zgk (p:=fun L=>(CB L).Nodup∧∀ s,s ∈ CB L↔Jm L s) ?_ ?_ L
 ·exact ⟨by simp [CB],fun s=>by simp [CB,Jm]⟩
 ·rintro L x ⟨hn,hm⟩
  rw [Z0]
  unfold Iu
  have hn':=Zak (k:=x.stripe) hn
  by_cases hp:x.par=true
  ·rw [Zqd hp]
   refine ⟨hn'.erase _,fun s=>?_⟩
   rw [Up,hn'.mem_erase_iff,mem_dAdd,hm,hp]
   by_cases hs:x.stripe=s
   ·rw [Zqd hs];simp [hs]
   ·rw [Zqh hs]
    constructor
    ·rintro ⟨h1,h2|h2⟩
     ·exact h2
     ·exact absurd h2.symm hs
    ·intro h;exact ⟨fun h'=>hs h'.symm,.inl h⟩
  ·rw [Zqh hp]
   refine ⟨hn',fun s=>?_⟩
   rw [Up,mem_dAdd,hm]
   by_cases hs:x.stripe=s
   ·rw [Zqd hs]
    simp at hp
    exact ⟨fun _=>hp,fun _=>.inr hs.symm⟩
   ·rw [Zqh hs]
    exact ⟨fun h=>h.resolve_right fun g=>hs g.symm,.inl⟩
def Io (L:List Lv):Nat→List Int
 | 0=>[]
 | i+1=>Io L i++(match L[i]? with
  | some x=>if AJ L x.stripe L.length=i∧x.par=false then [x.stripe] else []
  | none=>[])
theorem U9 (L:List Lv):∀ n,((Io L n).length:Int)=Dq L n
 | 0=>rfl
 | n+1=>by
  unfold Io Dq
  rw [Zqn,← U9 L n]
  cases L[n]? with
  | none=>simp
  | some x=>
   show (((Io L n).length+(if AJ L x.stripe L.length=n∧x.par=false then [x.stripe] else ([]:List Int)).length:Nat):Int)=_+Jh L n x
   unfold Jh
   split <;> simp
theorem manyL_mem {L:List Lv}{s:Int}:∀ {n},s ∈ Io L n↔∃ i x,i<n∧L[i]?=some x∧AJ L x.stripe L.length=(i:Nat)∧x.par=false∧x.stripe=s
 | 0=>⟨fun h=>(by cases h),fun ⟨i,x,h,_⟩=>absurd h (Nat.not_lt_zero _)⟩
 | n+1=>by
  unfold Io
  rw [Zq1,manyL_mem]
  constructor
  ·rintro (⟨i,x,h,h'⟩|h)
   ·exact ⟨i,x,by omega,h'⟩
   ·cases hx:L[n]? with
    | none=>rw [hx] at h;cases h
    | some x=>
     rw [hx] at h
     dsimp only at h
     split at h
     ·rename_i hq
      rw [List.mem_singleton] at h
      exact ⟨n,x,by omega,hx,hq.1,hq.2,h.symm⟩
     ·cases h
  ·rintro ⟨i,x,h1,h2,h3,h4,h5⟩
   by_cases hi:i<n
   ·exact .inl ⟨i,x,hi,h2,h3,h4,h5⟩
   ·obtain rfl:i=n:=by omega
    right
    rw [h2]
    dsimp only
    rw [Zqd ⟨h3,h4⟩,h5]
    exact List.mem_singleton.2 rfl
theorem TV (L:List Lv):∀ n,(Io L n).Nodup
 | 0=>List.nodup_nil
 | n+1=>by
  unfold Io
  rw [List.nodup_append]
  refine ⟨TV L n,?_,?_⟩
  ·cases L[n]? with
   | none=>exact List.nodup_nil
   | some x=>dsimp only;split <;> simp
  ·rintro a ha b hb rfl
   obtain ⟨i,y,h1,h2,h3,h4,h5⟩:=manyL_mem.1 ha
   cases hx:L[n]? with
   | none=>rw [hx] at hb;cases hb
   | some x=>
    rw [hx] at hb
    dsimp only at hb
    split at hb
    ·rename_i hq
     rw [List.mem_singleton] at hb
     rw [h5,hb] at h3
     have:=hq.1
     omega
    ·cases hb
theorem Zaj (L:List Lv):((CB L).length:Int)=Dq L L.length:=by
 rw [← U9]
 obtain ⟨h1,h2⟩:=Zz L
 have:=((List.perm_ext_iff_of_nodup h1 (TV L L.length)).2 fun s=>by
  rw [h2,manyL_mem]
  unfold Jm
  constructor
  ·rintro ⟨i,x,h,h'⟩;exact ⟨i,x,(Zqa.1 h).1,h,h'⟩
  ·rintro ⟨i,x,_,h⟩;exact ⟨i,x,h⟩).length_eq
 rw [this]
theorem Uk {L:List Lv}(hh:∀ (k:Nat) (x:Lv),L[k]?=some x→x.home=true→OI L k):∀ i,i≤L.length→∀ tk:List Int,(∀ j y,i≤j→L[j]?=some y→y.home=true→y.par=true→y.stripe ∈ tk)→Ij (L.take i).reverse tk=true
 | 0,_,_,_=>rfl
 | i+1,hi,tk,ht=>by
  obtain ⟨x,hx⟩:∃ x,L[i]?=some x:=⟨_,Zp9 hi⟩
  have e:(L.take (i+1)).reverse=x::(L.take i).reverse:=by rw [List.take_add_one,hx];simp
  rw [e]
  have hm:∀ s,s ∈ tk→s ∈ Es tk x:=fun s hs=>by unfold Es;split;exact mem_dAdd.2 (.inl hs);exact hs
  have hs:x.home=true→x.par=true→x.stripe ∈ Es tk x:=fun h1 h2=>by unfold Es;rw [h1,h2];exact mem_dAdd.2 (.inr rfl)
  have hb:G6 tk x=false:=by
   unfold G6
   cases hxh:x.home with
   | false=>rfl
   | true=>
    obtain ⟨h1,j,y,h2,h3,h4,h5,h6⟩:=hh i x hx hxh x hx
    have:x.stripe ∈ Es tk x:=by
     by_cases hj:i=j
     ·subst hj
      rw [hx] at h3
      cases h3
      exact hs h5 h6
     ·rw [← h4]
      exact hm _ (ht j y (by omega) h3 h5 h6)
    rw [h1,Zqe this];rfl
  show (!G6 tk x && Ij (L.take i).reverse (Es tk x))=true
  rw [hb,Uk hh i (by omega) (Es tk x) fun j y h1 h2 h3 h4=>by
   by_cases hj:i=j
   ·subst hj
    rw [hx] at h2
    cases h2
    exact hs h3 h4
   ·exact hm _ (ht j y (by omega) h2 h3 h4)]
  rfl
def OF (L:List Lv):Nat→Bool
 | 0=>true
 | i+1=>(L[i]?.map Lv.sure).getD true
theorem TS {c:Cfg}{ag sq tl us:Int}{L:List Lv}(hn:sq≤2147483648) (he:∀ i y,L[i]?=some y→eP c L sq i y):∀ k i,i+k=L.length→∀ u:Int,E4 ⟨⟨ag,sq,tl,us,L⟩,c⟩ i u (OF L i) (L.drop i)=some (u+BZ L L.length-BZ L i)
 | 0,i,hi,u=>by
  obtain rfl:i=L.length:=by omega
  rw [List.drop_length]
  show some u=_
  congr 1;omega
 | k+1,i,hi,u=>by
  have hlt:i<L.length:=by omega
  obtain ⟨x,hx⟩:∃ x,L[i]?=some x:=⟨_,Zp9 hlt⟩
  have hd:L.drop i=x::L.drop (i+1):=by
   rw [Zqw hlt,(Zqa.1 hx).2]
  rw [hd]
  obtain ⟨h1,h2,h3,h4,h5,h6,h7⟩:=he i x hx
  have hb:¬FM ⟨⟨ag,sq,tl,us,L⟩,c⟩ i (OF L i) x:=by
   unfold FM
   dsimp only
   unfold Ar at h1
   rintro (h|h|h|h|h|h|⟨h,h'⟩)
   ·omega
   ·omega
   ·omega
   ·omega
   ·omega
   ·omega
   ·cases i with
    | zero=>cases h'
    | succ i=>
     obtain ⟨y,hy⟩:∃ y,L[i]?=some y:=⟨_,Zp9 (by omega)⟩
     have:=h6 (by omega) h y hy
     have h':(L[i]?.map Lv.sure).getD true=false:=h'
     rw [hy] at h'
     have h':y.sure=false:=h'
     rw [this] at h';cases h'
  show (if FM _ i _ x then none else E4 _ (i+1) (u+x.blocks) x.sure (L.drop (i+1)))=_
  rw [Zqh hb]
  have ih:=TS (ag:=ag) (tl:=tl) (us:=us) hn he k (i+1) (by omega) (u+x.blocks)
  rw [show x.sure=OF L (i+1) by show _=(L[i]?.map Lv.sure).getD true;rw [hx];rfl,ih]
  congr 1
  have:BZ L (i+1)=BZ L i+x.blocks:=by
   show BZ L i+((L[i]?.map Lv.blocks).getD 0)=_
   rw [hx];rfl
  omega
theorem Zhl {lg:Lg}(hM:c.may) (h:KW c lg):MU c lg:=by
 obtain ⟨ag,sq,tl,us,L⟩:=lg
 unfold KW at h
 obtain ⟨⟨a1,a2,a3,a4,a5,a6,a7⟩,he,rfl,hr⟩:=h
 unfold Mo at hr
 have hm:=NI L L.length
 have hM':=hM
 unfold Cfg.may at hM'
 have hu:=ND (Vu hM a7 he) L.length
 have hmm:0≤(c.members+1)*Dq L L.length:=Int.mul_nonneg (by omega) hm.1
 refine ⟨hM,?_⟩
 unfold En
 have h1:FT ⟨⟨ag,sq,tl,BZ L L.length,L⟩,c⟩:=by
  unfold FT FY
  simp only [Zq6]
  omega
 have h2:E4 ⟨⟨ag,sq,tl,BZ L L.length,L⟩,c⟩ 0 0 true L=some (BZ L L.length):=by
  have:=TS (ag:=ag) (tl:=tl) (us:=BZ L L.length) a4 he L.length 0 (by omega) 0
  rw [List.drop_zero] at this
  rw [show (true:Bool)=OF L 0 from rfl,this]
  congr 1
  show 0+BZ L L.length-0=_
  omega
 have h3:(L.length:Int)<sq:=by
  cases L with
  | nil=>exact a3
  | cons x L=>
   have:=(he 0 x rfl)
   unfold eP at this
   omega
 have h4:Eo L=true:=by
  have:=Uk (L:=L) (fun k x hx hh=>(he k x hx).2.2.2.2.2.2 hh) L.length (Zqu _) [] fun j y h1 h2=>by
   have:=(Zqa.1 h2).1;omega
  rw [List.take_length] at this
  exact this
 have h5:ER ⟨⟨ag,sq,tl,BZ L L.length,L⟩,c⟩=true:=by
  unfold ER
  dsimp only
  rw [Zaj,i64_in (by omega)]
  simp only [Zqb,Zq6]
  omega
 dsimp only
 rw [h2,Zqe h1,h4,h5]
 simp only [Zq6,Bool.true_and,Bool.and_true,Zqb]
 exact ⟨trivial,h3⟩
theorem WW {fs:List Fl}{nx:Int}(h:EF c fs) (hn:∀ f,fs[fs.length-1]?=some f→f.1<nx):∀ k i,i+k+1=fs.length→∀ f,fs[i]?=some f→f.1<nx
 | 0,i,hi,f,hf=>hn f (by rw [show fs.length-1=i by omega];exact hf)
 | k+1,i,hi,f,hf=>by
  obtain ⟨g,hg⟩:∃ g,fs[i+1]?=some g:=⟨_,Zp9 (by omega)⟩
  have h1:=WW h hn k (i+1) (by omega) g hg
  have h2:=((h.2 (i+1) (by omega) g hg).2.1 (by omega) f hf)
  omega
theorem QY (h:EA d):I0 d:=by
 obtain ⟨c,bk,⟨ev,lo,sp,po,dn,nl,br⟩,hs,⟨ag,sq,tl,us,L⟩,fs,nx,so⟩:=d
 unfold EA G0 at h
 obtain ⟨⟨h1,h2,h3,h4,h5,h6,h7⟩,h8,h9,h10,h11,h12⟩:=h
 unfold I0 Jx
 refine ⟨⟨h1,h2,h3,Zhl h1 h4,h5,⟨h6,h7⟩,?_⟩,h9,h10,h11,h12⟩
 rintro ⟨f,hf,hx⟩
 obtain ⟨i,hi⟩:=Zr0 hf
 have hl:=(Zqa.1 hi).1
 have:=WW h5 h8 (fs.length-1-i) i (by omega) f hi
 omega
theorem Znx (hg:Md d D) (hsh:Cc d.1 d.2.2.2.1) (hM:d.1.may):KZ d:=by
 have hM':=hM
 unfold Cfg.may at hM'
 refine ⟨⟨by have:=hsh.2;omega,fun x hx=>?_⟩,by have:=hg.2.1;omega,by have:=hg.2.2.1.1;omega,fun x hx=>?_⟩
 ·obtain ⟨i,hi⟩:=Zr0 hx
  obtain ⟨st,bl,di,ph,de,sq⟩:=x
  obtain ⟨h1,h2,h3,h4,h5,-⟩:=(hsh.1 i (Zqa.1 hi).1 _ hi).1
  refine ⟨by dsimp only;omega,fun b hb=>?_,by dsimp only;omega⟩
  obtain ⟨k,hk⟩:=Zr0 hb
  have:=(h5 k (Zqa.1 hk).1 b hk).1
  unfold BB at this;omega
 ·obtain ⟨i,hi⟩:=Zr0 hx
  have:=hg.2.2.1.2 i (Zqa.1 hi).1 x hi
  obtain ⟨n,⟨k,a,m,d⟩,st,sq,da⟩:=x
  unfold Is at this
  refine ⟨by dsimp only;omega,by dsimp only;omega,by dsimp only;omega,by dsimp only;omega,fun b hb=>?_⟩
  obtain ⟨k,hk⟩:=Zr0 hb
  have:=this.2.2.2.2 k (Zqa.1 hk).1 b hk
  omega
def Mb (d:Dv) (kd s:Int):Prop:=(kd=8∧s=d.2.2.1.2.2.2.1∧Gz d)∨(kd=9∧s=0∧Hj d)
theorem Zbg (d:Dv) (hsp:d.2.2.1.2.2.1=true):FV d=[]∨(∃ kd s,FV d=[DQ kd s]∧Mb d kd s)∨∃ kd s kd' s',FV d=[DQ kd s,DQ kd' s']∧Mb d kd s∧Mb d kd' s':=by
 unfold FV Sz
 rw [Zqd hsp]
 by_cases hA:d.2.2.1.2.2.2.1<Ar d.1∧EI d d.2.2.1.2.2.2.1=0
 ·rw [Zqd hA]
  by_cases hB:d.2.2.1.2.2.2.2.1<d.2.2.1.2.2.2.1
  ·rw [Zqd hB]
   exact .inr (.inr ⟨8,_,9,0,rfl,.inl ⟨rfl,rfl,hA⟩,.inr ⟨rfl,rfl,hB⟩⟩)
  ·rw [Zqh hB]
   exact .inr (.inl ⟨8,_,rfl,.inl ⟨rfl,rfl,hA⟩⟩)
 ·rw [Zqh hA]
  by_cases hB:d.2.2.1.2.2.2.2.1<d.2.2.1.2.2.2.1
  ·rw [Zqd hB]
   exact .inr (.inl ⟨9,0,rfl,.inr ⟨rfl,rfl,hB⟩⟩)
  ·rw [Zqh hB]
   exact .inl rfl
def Zo7 (d:Dv) (ys:List DK) (kd s:Int) (o:Lo) (A:List Act):Prop:=
 Dm A (ys.map Aj)=0∧(∃ m,misF.out (d.1,o,s,())=.tup [.int .i64 m,.int .i64 0]∧(kd=8∧m=-1∨kd=9))∧(Bc (ys.map Ao) A A.length=0∨Bc (ys.map Ao) A A.length=9)∧(Bc (ys.map Ao) A A.length=0→Fc (AB (ys.map Ao) A A.length)∧(AB (ys.map Ao) A A.length).length=ys.length∧Ed (BK d o) ((AB (ys.map Ao) A A.length).map Aj)∧∀ s:Int,0≤s→s<Ar d.1→∀ k:Nat,BX (BK d o) ((AB (ys.map Ao) A A.length).map Aj) s k=BX d (ys.map Aj) s k)
theorem Zi1 (h10:Con e 10 (Ag La)) (hd:dvC.r d l) (hY:Ls dkV ys v) (hg:KZ d) (hsm:∀ x ∈ ys.map Aj,Cq x) (hT:Ed d (ys.map Aj)) (hsp:d.2.2.1.2.2.1=true) (hln:d.2.2.2.2.1.2.2.2.2.length≤1000) {kd:Int}(hst:Mb d kd s):
 ∃ u,(∀ (Q:AV→St→Prop) st,Q u st→ESc e 10 [.agg l,v,.agg (DQ kd s)] st Q)∧(u=.tup [.agg J5,.nils,.int .i64 9]∨∃ a o n cc A,u=.tup [.agg a,.fz n none cc,.int .i64 0]∧dvC.r (BK d o) a∧Ls actC A (.fz n none cc)∧n=A.length∧n≤1024∧Zo7 d ys kd s o A):=by
 have hD:=OH hY
 have hoks:∀ y ∈ ys,y.ok:=fun y hy=>by obtain ⟨l,-,h⟩:=hY.mem hy;exact h
 obtain ⟨hM,hL,hsh⟩:=Lw hT.1
 have h20:=hT.2.1
 have h8s:=Zot hD h20
 have hbr:=hT.2.2.1
 have hmck:=QY hT.1
 have hal:=Qe hT hsp
 have hb:Aa d.2.2.1.2.1:=by
  obtain ⟨c,bk,⟨ev,lo,sp,po,dn,nl,br⟩,hs,⟨ag,sq,tl,us,L⟩,fs,nx,so⟩:=d
  obtain ⟨hv,lv,fv,rfl,⟨ho,o1,o2,-⟩,-⟩:=Bl hd
  exact o2
 have hask:J3 d (ys.map Aj)=0:=by
  unfold J3
  rw [Zqd ⟨hmck,hM,h20⟩,Zqh (by rw [hbr];decide)]
 have hdo:SE d (ys.map Aj):=⟨hask,hsm,hln,hM,hbr⟩
 have hmm:=B4 hM
 have hp0:Gz d→0≤d.2.2.1.2.2.2.1:=fun _=>by
  obtain ⟨c,bk,⟨ev,lo,sp,po,dn,nl,br⟩,R⟩:=d
  unfold Bq at hL
  have:=hL.2.2.2.1 hsp
  dsimp only;omega
 rcases hst with ⟨rfl,rfl,hA⟩|⟨rfl,rfl,hB⟩
 ·have hok:Mr d (ys.map Aj):=⟨⟨hM,h20,hsm,hal⟩,hL,hsp,hA.1,hg⟩
  refine ⟨OY d l (ys.map Aj),fun Q st q=>?_,?_⟩
  ·refine ESc.rel h10 ⟨_,d,l,_,v,hd,hD,hdo,.inl ⟨hA,rfl,hok,rfl⟩⟩ ?_
   rintro u ⟨d',l',D',v',g1,g2,-,hor⟩
   rcases hor with ⟨-,e1,-,rfl⟩|⟨-,e1,-,-⟩
   ·injection e1 with e1 e2
    injection e1 with e1
    injection e2 with e2 _
    subst e1 e2
    rw [dvC.inj g1 hd,g2.inj hD];exact q
   ·cases e1
  ·obtain ⟨a,e1,-,har⟩:=WO hd hok
   obtain ⟨k1,k2,k3⟩:=Zbv hoks hT h8s hsp hA.1 hb
   refine .inr ⟨a,_,_,_,_,e1,har,k1,rfl,by decide,k2,⟨-1,?_,.inl ⟨rfl,rfl⟩⟩,k3 _ rfl⟩
   have hL2:Bq d.1 (EK d.2.2.1):=by
    obtain ⟨c,bk,⟨ev,lo,sp,po,dn,nl,br⟩,R⟩:=d
    unfold Bq at hL
    dsimp only at hsp
    have:=hL.2.2.2.1 hsp
    have h2:po<Ar c:=hA.1
    show Bq c (ev,lo,sp,po+1,dn,nl,br)
    exact ⟨hL.1,hL.2.1,hL.2.2.1,fun _=>⟨this.1,this.2.1,by omega,by omega⟩,fun h=>by rw [hsp] at h;cases h⟩
   unfold misF
   dsimp only
   rw [Zqd ⟨hM,hL2⟩,Zqd ⟨hp0 hA,hA.1⟩]
   obtain ⟨c,bk,⟨ev,lo,sp,po,dn,nl,br⟩,R⟩:=d
   dsimp only at hsp
   show AV.tup [.int .i64 (if sp=true∧po<po+1 then -1 else lo),.int .i64 0]=_
   rw [Zqd ⟨hsp,by omega⟩]
 ·have hok:Mq d:=⟨hM,hL,hsp,hB,hbr,hg⟩
  refine ⟨Jw d l,fun Q st q=>?_,?_⟩
  ·refine ESc.rel h10 ⟨_,d,l,_,v,hd,hD,hdo,.inr ⟨hB,rfl,hok,rfl⟩⟩ ?_
   rintro u ⟨d',l',D',v',g1,g2,-,hor⟩
   rcases hor with ⟨-,e1,-,-⟩|⟨-,e1,-,rfl⟩
   ·cases e1
   ·injection e1 with e1 e2
    injection e1 with e1
    subst e1
    rw [dvC.inj g1 hd];exact q
  ·rcases WN hd hok with e1|⟨hev,a,e1,-,har⟩
   ·exact .inl e1
   ·obtain ⟨k1,k2,k3⟩:=Zbu hoks hT hsp hB hev hb
    have hM':=hM
    unfold Cfg.may at hM'
    have hs1:0<Ar d.1:=Int.mul_pos (by omega) (by omega)
    have hml:=Wh hM hL hsp hB (by rw [(Ox hM hL hsp hB).2.2.1];exact hev)
    refine .inr ⟨a,_,_,_,_,e1,har,k1,by simp [D2];omega,by omega,k2,⟨D6 (DW (B0 d.1 d.2.2.1)) 0,?_,.inr rfl⟩,k3 _ rfl⟩
    unfold misF
    dsimp only
    rw [Zqd ⟨hM,hml.1⟩,Zqd ⟨Int.le_refl 0,hs1⟩]
theorem VP (h9:Con e 9 (Ag KG)) (hd:dvC.r d l) (hmc:I0 d) (hM:d.1.may) (hn:d.2.2.2.2.1.2.2.2.2.length≤1000) (hbr:d.2.2.1.2.2.2.2.2.2=false) (Q:AV→St→Prop) (s:St) (q:Q (.tup [KV (FV d),.int .i64 0]) s):ESc e 9 [.agg l] s Q:=by
 refine ESc.rel h9 ⟨_,d,l,rfl,hd,hmc,hM,hn,hbr,rfl⟩ ?_
 rintro u ⟨d',l',e1,hd',-,-,-,-,rfl⟩
 cases e1
 rw [dvC.inj hd' hd];exact q
theorem Zgw (h13:Con e 13 (Ag KI)) {D':List Dk}(hd:dvC.r d l) (hD:Ls dkC D v) (hr:OW d D) (hd':dvC.r d' l') (hD':Ls dkC D' v') (hr':OW d' D') (hM:d.1.may) (hc:d'.1=d.1) (hv:∀ s k:Int,0≤s→s<Ar d.1→0≤k→k<d.1.members→∃ b,BX d D s k=some b∧BX d' D' s k=some b) (Q:AV→St→Prop) (s:St) (q:Q (.bool true) s):ESc e 13 [.agg l,v,.agg l',v'] s Q:=by
 refine ESc.rel h13 ⟨_,d,l,D,v,d',l',D',v',rfl,⟨hd,hD,hr⟩,⟨hd',hD',hr'⟩,hM,hc,hv,rfl⟩ ?_
 rintro u ⟨_,_,_,_,_,_,_,_,_,_,_,_,_,_,rfl⟩
 exact q
theorem Zf4 (hT:Ed d D) (h0:0≤s) (h1:s<Ar d.1) {k:Nat}(hk:k<d.1.members.toNat):∃ b,BX d D s k=some b:=by
 have:=(hT.2.2.2.2 s.toNat (by omega)).1 k hk
 rw [Int.toNat_of_nonneg h0] at this
 unfold BX
 split
 ·exact ⟨_,rfl⟩
 ·exact Option.ne_none_iff_exists'.1 this
set_option maxHeartbeats 4000000 in
theorem Zb3 {e:Env}(hE:EM P e) (h6:Con e 6 In) (h7:Con e 7 g25F.O) (h8:Con e 8 TidF.O) (h9:Con e 9 (Ag KG)) (h10:Con e 10 (Ag La)) (h11:Con e 11 runF.O) (h12:Con e 12 misF.O) (h13:Con e 13 (Ag KI)) {d:Dv}{l:List AV}{ys:List DK}{v:AV}(hd:dvC.r d l) (hY:Ls dkV ys v) (hsm:∀ x ∈ ys.map Aj,Cq x) (hg:Md d (ys.map Aj)) (hT:Ed d (ys.map Aj)) (hsp:d.2.2.1.2.2.1=true) {b:Bool}{n:Nat}{cells r0 r:List AV}(hLV:KV (FV d)=.fz n none cells) (hlen:cells.length=n*4) (hn:0<n∧n≤2) {kd0 s0 kd s:Int}(e0:cells.drop (0*4)=DQ kd0 s0++r0) (e1:b=true→cells.drop ((n-1)*4)=DQ kd s++r) (hb:b=true∨b=false∧kd0=kd∧s0=s) (hst:Mb d kd s):
 VW P e 0 (match a3 with|.mk c _=>c) (Ah [.agg l,v,.bool b] 0 .lf) St0 none [] (BW (match a3 with|.mk _ r=>r) (fun u _=>u=.bool true)):=by
 have hD:=OH hY
 obtain ⟨hM,hL,hsh⟩:=Lw hT.1
 have hln:d.2.2.2.2.1.2.2.2.2.length≤1000:=by have:=hg.2.1;omega
 have hgr:=fun (Q:AV→St→Prop) st a=>@bF.f _ _ _ _ e 7 st Q [.agg l,v] h7 (d,ys.map Aj,()) ⟨_,_,rfl,hd,v,_,rfl,⟨_,rfl,hD⟩,rfl⟩ trivial (fun q=>q hg) a
 have htd:=fun (Q:AV→St→Prop) st a=>@Y9 _ _ _ _ e 8 st Q [.agg l,v] h8 (d,ys.map Aj,()) ⟨_,_,rfl,hd,v,_,rfl,⟨_,rfl,hD⟩,rfl⟩ hsm hT a
 have hal:=fun (Q:AV→St→Prop) st (q:Q (.bool true) st)=>@ESc.ov e 6 [] st Q In (.bool true) st h6 rfl q
 have hsw:=fun Q st q=>VP h9 hd (QY hT.1) hM hln hT.2.2.1 Q st q
 rw [hLV] at hsw
 have hsl:Sl 4 n cells (.fz n none cells):=.inr (.inr ⟨none,rfl,hlen⟩)
 obtain ⟨u,hdo,hout⟩:=Zi1 (e:=e) h10 hd hY (Znx hg hsh hM) hsm hT hsp hln hst
 have hz:Aa s:=by
  obtain ⟨c,bk,⟨ev,lo,sp,po,dn,nl,br⟩,hs,⟨ag,sq,tl,us,L⟩,fs,nx,so⟩:=d
  obtain ⟨hv,lv,fv,rfl,⟨ho,o1,o2,o3,-⟩,-⟩:=Bl hd
  rcases hst with ⟨-,rfl,-⟩|⟨-,rfl,-⟩
  ·exact o3
  ·unfold Aa;omega
 clear hLV
 rcases hout with rfl|⟨a,o,m,cc,A,rfl,har,hA,rfl,hm,hch,⟨mi,hmi,hkd⟩,hre,hrg⟩
 ·obtain ⟨c,bk,⟨ev,lo,sp,po,dn,nl,br⟩,hs,⟨ag,sq,tl,us,L⟩,fs,nx,so⟩:=d
  obtain ⟨hv,lv,fv,rfl,-⟩:=Bl hd
  rcases hb with rfl|⟨rfl,rfl,rfl⟩
  all_goals
   conv=>whnf
   repeat' (first|((first|refine hal _ _ ?_|refine hgr _ _ ?_|refine htd _ _ ?_|refine hsw _ _ ?_|refine JJ rfl ?_|refine BS (i:=0) rfl hsl rfl rfl hn.1 e0 ?_|refine BS (i:=n-1) rfl hsl rfl (by omega) (by omega) (e1 rfl) ?_|refine A7 (cs:=DQ _ _) rfl ?_|refine hdo _ _ ?_|refine AA rfl (show Sl 1 0 [] .nils from .inl ⟨rfl,rfl,rfl⟩) ?_|refine v8 ?_|refine An ?_);conv=>whnf)|refine v5 ?_ ?_|refine v6 ?_ ?_|(intro _;first|omega|conv=>whnf))
   rfl
 ·have h20:=hT.2.1
  have hAi:Aa ((A.length:Nat):Int):=by unfold Aa;omega
  have hrn:∀ (Q:AV→St→Prop) st,Q (E8 ys A (A.length:Nat)) st→ESc e 11 [v,.fz A.length none cc,.int .i64 (A.length:Nat)] st Q:=fun Q st q=>Fn.u (F:=runF) h11 (ys,A,(A.length:Nat),()) ⟨_,_,rfl,⟨_,rfl,hY⟩,_,_,rfl,⟨_,rfl,hA⟩,_,_,rfl,⟨rfl,AW hAi⟩,rfl⟩ trivial q
  rw [Zdy hch] at hrn
  have MW:=hd
  rcases hre with h|h
  ·rw [Zqd h] at hrn
   obtain ⟨g1,g2,g3,g4⟩:=hrg h
   have hyl:ys.length≤1000:=by
    have:=h20.1
    unfold Cfg.may at hM
    rw [Zqg] at this
    omega
   have hDE:Ls dkC ((AB (ys.map Ao) A A.length).map Aj) (.fz ys.length none (BQ (AB (ys.map Ao) A A.length))):=OH (by rw [← g2];exact Zn0 (fun y hy=>(g1 y hy).1) (by omega))
   have hsmE:∀ x ∈ (AB (ys.map Ao) A A.length).map Aj,Cq x:=fun x hx=>by
    obtain ⟨y,hy,rfl⟩:=Zq9.1 hx
    exact Zkv (g1 y hy).1
   have htd2:=fun (Q:AV→St→Prop) st q=>@Y9 _ _ _ _ e 8 st Q [.agg a,.fz ys.length none (BQ (AB (ys.map Ao) A A.length))] h8 (BK d o,(AB (ys.map Ao) A A.length).map Aj,()) ⟨_,_,rfl,har,_,_,rfl,⟨_,rfl,hDE⟩,rfl⟩ hsmE g3 q
   have hrd:=fun Q st q=>Zgw h13 hd hD ⟨h20,hsm,hsh⟩ har hDE ⟨g3.2.1,hsmE,hsh⟩ hM rfl (fun s k h0 h1 h2 h3=>by
    obtain ⟨K,rfl⟩:∃ K:Nat,k=K:=⟨k.toNat,by omega⟩
    obtain ⟨b,hb⟩:=Zf4 hT h0 h1 (k:=K) (by omega)
    exact ⟨b,hb,by rw [g4 s h0 h1 K];exact hb⟩) Q st q
   have hmiu:∀ ho:d.1.ok,loC.r o (DT o)→∀ (Q:AV→St→Prop) st,Q (.tup [.int .i64 mi,.int .i64 0]) st→ESc e 12 [.agg d.1.c,.agg (DT o),.int .i64 s] st Q:=fun ho hor Q st q=>Fn.u (F:=misF) h12 (d.1,o,s,()) ⟨_,_,rfl,⟨rfl,ho⟩,_,_,rfl,hor,_,_,rfl,⟨rfl,AW hz⟩,rfl⟩ ho (by rw [hmi];exact q)
   clear hrg hmi g1 g2 g3 g4 hDE hsmE hch
   generalize BQ (AB (ys.map Ao) A A.length)=yc at *
   obtain ⟨c,bk,⟨ev,lo,sp,po,dn,nl,br⟩,hs,⟨ag,sq,tl,us,L⟩,fs,nx,so⟩:=d
   obtain ⟨ev',lo',sp',po',dn',nl',br'⟩:=o
   have har':dvC.r (c,bk,(ev',lo',sp',po',dn',nl',br'),hs,(ag,sq,tl,us,L),fs,nx,so) a:=har
   obtain ⟨hv,lv,fv,rfl,⟨ho,-⟩,-⟩:=Bl hd
   obtain ⟨hv',lv',fv',rfl,⟨-,p1,p2,p3,p4,-⟩,-⟩:=Bl har'
   have hmiu:=hmiu ho (Ip p1 p2 p3 p4)
   rcases hb with rfl|⟨rfl,rfl,rfl⟩
   all_goals
    rcases hkd with ⟨rfl,rfl⟩|rfl
    all_goals
     conv=>whnf
     repeat' (first|((first|refine hal _ _ ?_|refine hgr _ _ ?_|refine htd _ _ ?_|refine hsw _ _ ?_|refine JJ rfl ?_|refine BS (i:=0) rfl hsl rfl rfl hn.1 e0 ?_|refine BS (i:=n-1) rfl hsl rfl (by omega) (by omega) (e1 rfl) ?_|refine A7 (cs:=DQ _ _) rfl ?_|refine hdo _ _ ?_|refine hrn _ _ ?_|refine hmiu _ _ ?_|refine htd2 _ _ ?_|refine hrd _ _ ?_|refine v8 ?_|refine An ?_);conv=>whnf)|refine v5 ?_ ?_|refine v6 ?_ ?_|(intro _;first|omega|conv=>whnf))
     rfl
  ·rw [Zqh (by rw [h];decide),h] at hrn
   clear hrg hmi hch
   obtain ⟨c,bk,⟨ev,lo,sp,po,dn,nl,br⟩,hs,⟨ag,sq,tl,us,L⟩,fs,nx,so⟩:=d
   obtain ⟨ev',lo',sp',po',dn',nl',br'⟩:=o
   have har':dvC.r (c,bk,(ev',lo',sp',po',dn',nl',br'),hs,(ag,sq,tl,us,L),fs,nx,so) a:=har
   obtain ⟨hv,lv,fv,rfl,⟨ho,-⟩,-⟩:=Bl hd
   obtain ⟨hv',lv',fv',rfl,⟨-,p1,p2,p3,p4,-⟩,-⟩:=Bl har'
   rcases hb with rfl|⟨rfl,rfl,rfl⟩
   all_goals
    conv=>whnf
    repeat' (first|((first|refine hal _ _ ?_|refine hgr _ _ ?_|refine htd _ _ ?_|refine hsw _ _ ?_|refine JJ rfl ?_|refine BS (i:=0) rfl hsl rfl rfl hn.1 e0 ?_|refine BS (i:=n-1) rfl hsl rfl (by omega) (by omega) (e1 rfl) ?_|refine A7 (cs:=DQ _ _) rfl ?_|refine hdo _ _ ?_|refine hrn _ _ ?_|refine v8 ?_|refine An ?_);conv=>whnf)|refine v5 ?_ ?_|refine v6 ?_ ?_|(intro _;first|omega|conv=>whnf))
    rfl
set_option maxHeartbeats 2000000 in
theorem Zb4 (hE:EM P e) (h6:Con e 6 In) (h7:Con e 7 g25F.O) (h8:Con e 8 TidF.O) (h9:Con e 9 (Ag KG)) (h10:Con e 10 (Ag La)) (h11:Con e 11 runF.O) (h12:Con e 12 misF.O) (h13:Con e 13 (Ag KI)) (hd:dvC.r d l) (hD:Ls dkC D v) (b:Bool):C P 3 [.agg l,v,.bool b] St0 (fun u _=>u=.bool true):=by
 refine C.of_G hE g3 ?_
 have hgr:=fun (Q:AV→St→Prop) s a b=>@bF.u _ _ _ _ e 7 s Q [.agg l,v] h7 (d,D,()) ⟨_,_,rfl,hd,v,_,rfl,⟨_,rfl,hD⟩,rfl⟩ trivial a b
 have hal:=fun (Q:AV→St→Prop) s (q:Q (.bool true) s)=>@ESc.ov e 6 [] s Q In (.bool true) s h6 rfl q
 dsimp only at hgr
 by_cases hg:Md d D
 ·have hg4:∀ x ∈ D,¬Fd x:=fun x hx=>by
   obtain ⟨i,hi⟩:=Zr0 hx
   exact (hg.2.2.2.2 i (Zqa.1 hi).1 x hi).1
  have hsm:∀ x ∈ D,Cq x:=fun x hx=>Zkw (hg4 x hx)
  have htd:=fun (Q:AV→St→Prop) s a b=>@bF.u _ _ _ _ e 8 s Q [.agg l,v] h8 (d,D,()) ⟨_,_,rfl,hd,v,_,rfl,⟨_,rfl,hD⟩,rfl⟩ hsm a b
  dsimp only at htd
  by_cases hT:Ed d D
  ·have hln:d.2.2.2.2.1.2.2.2.2.length≤1000:=by have:=hg.2.1;omega
   have hM:=(Lw hT.1).1
   have hsw:=fun Q st q=>VP h9 hd (QY hT.1) hM hln hT.2.2.1 Q st q
   have hnil:FV d=[]→VW P e 0 (match a3 with|.mk c _=>c) (Ah [.agg l,v,.bool b] 0 .lf) St0 none [] (BW (match a3 with|.mk _ r=>r) (fun u _=>u=.bool true)):=fun h=>by
    rw [h] at hsw
    have hsw:∀ (Q:AV→St→Prop) st,Q (.tup [.nils,.int .i64 0]) st→ESc e 9 [.agg l] st Q:=hsw
    clear hln hM
    obtain ⟨c,bk,⟨ev,lo,sp,po,dn,nl,br⟩,hs,⟨ag,sq,tl,us,L⟩,fs,nx,so⟩:=d
    obtain ⟨hv,lv,fv,rfl,-⟩:=Bl hd
    conv=>whnf
    repeat' (first|(refine hgr _ _ (fun q=>?_) (fun q=>?_) <;> conv=>whnf)|(refine htd _ _ (fun q=>?_) (fun q=>?_) <;> conv=>whnf)|((first|refine hal _ _ ?_|refine hsw _ _ ?_|refine AA rfl (show Sl 1 0 [] .nils from .inl ⟨rfl,rfl,rfl⟩) ?_|refine An ?_|refine As ?_);conv=>whnf)|refine v5 ?_ ?_|refine v6 ?_ ?_|(intro _;first|omega|conv=>whnf))
    all_goals first
     | rfl
     | exact absurd hg (by assumption)
     | exact absurd hT (by assumption)
   by_cases hsp:d.2.2.1.2.2.1=true
   ·obtain ⟨ys,hY,rfl⟩:=Zo3 hD hsm
    have hrem:=fun {n:Nat}{cells r0 r:List AV}=>@Zb3 e hE h6 h7 h8 h9 h10 h11 h12 h13 d l ys v hd hY hsm hg hT hsp b n cells r0 r
    have hbb:∀ {a c:Int},b=true∨b=false∧a=a∧c=c:=fun {a c}=>by
     cases b
     ·exact .inr ⟨rfl,rfl,rfl⟩
     ·exact .inl rfl
    rcases Zbg d hsp with h|⟨kd,s,h,h1⟩|⟨kd,s,kd',s',h,h1,h2⟩
    ·exact hnil h
    ·refine hrem (n:=1) (cells:=DQ kd s) (r0:=[]) (r:=[]) (by rw [h];rfl) rfl ⟨by decide,by decide⟩ (kd0:=kd) (s0:=s) (kd:=kd) (s:=s) ?_ ?_ hbb h1
     ·rfl
     ·exact fun _=>rfl
    ·cases b
     ·refine hrem (n:=2) (cells:=DQ kd s++DQ kd' s') (r0:=DQ kd' s') (r:=[]) (by rw [h];rfl) rfl ⟨by decide,by decide⟩ (kd0:=kd) (s0:=s) (kd:=kd) (s:=s) ?_ ?_ (.inr ⟨rfl,rfl,rfl⟩) h1
      ·rfl
      ·intro h;cases h
     ·refine hrem (n:=2) (cells:=DQ kd s++DQ kd' s') (r0:=DQ kd' s') (r:=[]) (by rw [h];rfl) rfl ⟨by decide,by decide⟩ (kd0:=kd) (s0:=s) (kd:=kd') (s:=s') ?_ ?_ (.inl rfl) h2
      ·rfl
      ·exact fun _=>rfl
   ·exact hnil (by unfold FV;rw [Zqh hsp])
  ·clear hsm hg4
   obtain ⟨c,bk,⟨ev,lo,sp,po,dn,nl,br⟩,hs,⟨ag,sq,tl,us,L⟩,fs,nx,so⟩:=d
   obtain ⟨hv,lv,fv,rfl,-⟩:=Bl hd
   conv=>whnf
   repeat' (first|(refine hgr _ _ (fun q=>?_) (fun q=>?_) <;> conv=>whnf)|(refine htd _ _ (fun q=>?_) (fun q=>?_) <;> conv=>whnf)|((first|refine hal _ _ ?_|refine An ?_|refine As ?_);conv=>whnf)|fail)
   all_goals first
    | rfl
    | exact absurd hg (by assumption)
    | exact absurd (by assumption) hT
 ·obtain ⟨c,bk,⟨ev,lo,sp,po,dn,nl,br⟩,hs,⟨ag,sq,tl,us,L⟩,fs,nx,so⟩:=d
  obtain ⟨hv,lv,fv,rfl,-⟩:=Bl hd
  conv=>whnf
  repeat' (first|(refine hgr _ _ (fun q=>?_) (fun q=>?_) <;> conv=>whnf)|(refine hal _ _ ?_;conv=>whnf)|fail)
  all_goals first
   | rfl
   | exact absurd hg (by assumption)
end Go.AM
namespace Go.AM
open X
def Ce.Ofs {α:Type}(A:Ce α) (Ts:List Ty):Prop:=∀ l,Shapes Ts l→∃ x,A.r x l
theorem HJ {α:Type}{A:Ce α}{T:Ty}(h:A.Of T):A.Ofs [T]:=fun l hl=>by
 obtain ⟨a,b,rfl,h1,h2⟩:=Nk hl
 rw [Qf h2,Zrk]
 exact h a h1
variable {Ts:List Ty}
theorem B7 {α β:Type}{A:Ce α}{B:Ce β}{T:Ty}(h:A.Of T) (h':B.Ofs Ts):(A.pr B).Ofs (T::Ts):=fun l hl=>by
 obtain ⟨a,b,rfl,h1,h2⟩:=Nk hl
 obtain ⟨x,hx⟩:=h a h1
 obtain ⟨y,hy⟩:=h' b h2
 exact ⟨(x,y),a,b,rfl,hx,hy⟩
theorem GP {α:Type}{A:Ce α}(h:A.Ofs Ts):A.Of (.st Ts):=fun l hl=>by
 cases hl with|st _ _ hs=>exact h l hs
def tBs:Ty:=.sl tByt
def tLo:List Ty:=[.int .u32,.int .i64,.bool,.int .i64,.int .i64,.bool,.bool]
def tHd:List Ty:=[.int .i64,tBs,.sl .bool,.int .u8,.bool,.int .u32]
def tAk:List Ty:=[.int .u8,.int .i64,.int .i64,tByt]
def tFl:List Ty:=[.int .i64,.st tAk,tByt,.sl (.int .u32),tBs]
def tDv:List Ty:=[.st tCfg,.bool,.st tLo,.sl (.st tHd),.st tLog,.sl (.st tFl),.int .i64,.bool]
def tDk:List Ty:=[tBs,.sl (.st [.int .i64,tByt]),.bool]
theorem Ow:bytC.Of tByt:=GQ QH
theorem Sf:blkC.Of tBs:=GQ Ow
theorem Zlb:cfgC.Of (.st tCfg):=GP fun l h=>by
 obtain ⟨c,hc,rfl⟩:=Zn7 h
 exact ⟨c,rfl,hc⟩
theorem Zov:lvC.Of (.st tLv):=GP fun l h=>by
 obtain ⟨x,hx,rfl⟩:=Zo2 h
 exact ⟨x,rfl,hx⟩
theorem Zow:loC.Of (.st tLo):=GP (B7 (DY _) (B7 (DY _) (B7 HK (B7 (DY _) (B7 (DY _) (B7 HK (HJ HK)))))))
theorem Zoy:hdC.Of (.st tHd):=GP (B7 (DY _) (B7 Sf (B7 (GQ HK) (B7 QH (B7 HK (HJ (DY _)))))))
theorem Zox:lgC.Of (.st tLog):=GP (B7 (DY _) (B7 (DY _) (B7 (DY _) (B7 (DY _) (HJ (GQ Zov))))))
theorem Zo1:akC.Of (.st tAk):=GP (B7 QH (B7 (DY _) (B7 (DY _) (HJ Ow))))
theorem Zoz:ftC.Of (.st tFl):=GP (B7 (DY _) (B7 Zo1 (B7 Ow (B7 (GQ (DY _)) (HJ Sf)))))
theorem of_dv:dvC.Ofs tDv:=B7 Zlb (B7 HK (B7 Zow (B7 (GQ Zoy) (B7 Zox (B7 (GQ Zoz) (B7 (DY _) (HJ HK)))))))
theorem Zo0:dkC.Of (.st tDk):=GP (B7 Sf (B7 (GQ (GP (B7 (DY _) (HJ Ow)))) (HJ HK)))
variable {P:Program}{t e:TypeId}{v:Value}{ps:List MemPlace}{r:Reach}{base:Nat}
theorem Zcu {H:Type}{enc:TypeId×Value→H}{W:World}{T:Ty}{d:DataW H}(hu:P.underlying t=some (.slice e)) (hT:TyOf P t (.sl T) 1) (hval:Value.okWide P W r base t v) (h:DataW.Trod enc P W 0 (fun _=>true) true t v d ps):
 ∃ u,Shape (.sl T) [u]∧VR (F1 W) u v:=by
 obtain ⟨a,len,cap,rfl⟩:=WideShapes.okWide_slice hu hval
 obtain ⟨fuel,hf⟩:=h
 obtain ⟨l,h1,h2,h3,h4⟩:=Uf fuel hT hf
 cases l with
 | nil=>simp at h2
 | cons u l=>
  have:l=[]:=by simp at h2;exact h2
  subst this
  cases h3 with
  | cons p q=>exact ⟨u,h1,p⟩
theorem disks_arg {H:Type}{enc:TypeId×Value→H}{W:World}{d:DataW H}(hu:P.underlying t=some (.slice e)) (hT:TyOf P t (.sl (.st tDk)) 1) (hval:Value.okWide P W r base t v) (h:DataW.Trod enc P W 0 (fun _=>true) true t v d ps):
 ∃ u D,VR (F1 W) u v∧Ls dkC D u:=by
 obtain ⟨u,h1,h2⟩:=Zcu hu hT hval h
 obtain ⟨D,v',e,hL⟩:=GQ Zo0 _ h1
 cases e
 exact ⟨u,D,h2,hL⟩
end Go.AM
