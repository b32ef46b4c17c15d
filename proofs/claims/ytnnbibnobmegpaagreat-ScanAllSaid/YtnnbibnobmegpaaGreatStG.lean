/-
 Functions of the program as the abstract machine reads them, and what is stated of them, checked by the kernel. No conditions.
-/
import Derived.Test.YtnnbibnobmegpaaGreatStF
import Derived.Test.YtnnbibnobmegpaaGreatStD
import Derived.Test.YtnnbibnobmegpaaGreatStE
import Derived.Test.YtnnbibnobmegpaaGreatStA
import Derived.Test.YtnnbibnobmegpaaGreatStC
import Derived.Test.YtnnbibnobmegpaaGreatAM5
set_option linter.unusedVariables false
set_option linter.unusedSimpArgs false
set_option linter.unnecessarySimpa false
set_option maxRecDepth 100000
namespace Go.AM
variable {m:Log}
theorem Zl6 {x:CL}(hg:GoodR ⟨x.l,x.c⟩) (hs:m.seq=x.l.seq) (hl:m.live=x.l.live.drop (Ay x.l.live)) (ht:m.tail=BP x.c.log x.l.tail x.l.live (Ay x.l.live)):x.mvB=Bg x.c.id.toNat x.l.age.toNat (m.seq-(m.live.length:Int)).toNat m.tail.toNat:=by
 have key:x.mvSup.seq=m.seq-(m.live.length:Int):=by
  show ((x.l.live.drop (Ay x.l.live)).head?.map Lv.seq).getD x.l.seq=_
  rw [hl,hs]
  cases hq:x.l.live.drop (Ay x.l.live) with
  | nil=>show x.l.seq=x.l.seq-0;omega
  | cons y L=>
   have h0:(x.l.live.drop (Ay x.l.live))[0]?=some y:=by rw [hq];rfl
   rw [Zoq,Zpo] at h0
   have h1:=(hg.lv _ y h0).2.2.1
   have h2:=congrArg List.length hq
   rw [Zp3,Zo9] at h2
   have h3:=Mw x.l.live
   dsimp only at h1
   show y.seq=_
   rw [h1,Zo9]
   omega
 unfold CL.mvB
 rw [key,ht];rfl
variable {c:Cfg}{ag sq0:Int}{ds:List DB}
theorem Zhy {a:DI}{j:DK}{A A':List Nat→Prop}(ha:a.ok) (hc:a.x.c=c) (h:PI c ag sq0 a.x.l j ds A) (hw:j.ws.length+17≤1024) (hA:∀ b,A' b↔A b∨b ∈ (BO a).map Prod.snd) {mv b:AV}(hq:CJ a=some (m,mv,b)):
 (BO a=[]∧m.seq=a.x.l.seq∧PI c ag sq0 m (Cv a j) ds A')∨(0<(BO a).length∧m.seq=a.x.l.seq+1∧PI c ag sq0 m (Cv a j) (ds++[a.o.d]) A'):=by
 obtain ⟨hgm,hxm,g,hS⟩:=Rn ha hq
 subst hc
 have hk:=ha.o.k
 have hgd:=h.g
 have hag:=h.age
 have hM:=ha.g.1
 have hlen:∀ {n:Log},n.seq=a.x.l.seq→StepR a.x.c a.x.l n g→n.live.length+g=a.x.l.live.length:=fun e h=>by rcases h.seq with ⟨_,h⟩|⟨h,_⟩ <;> omega
 by_cases h0:a.o.k % 4=0
 ·right
  have hC:Ja ⟨a.x,a.o.d⟩:=by
   unfold CJ at hq
   rw [Zoj h0] at hq
   split at hq
   ·assumption
   ·cases hq
  have hG:GD (AI.bd ⟨a.x,a.o.d⟩):=⟨⟨ha.x.c,ha.x.l.age,ha.x.l.seq,QB ha.o.d ha.s⟩,⟨hM,hC.1⟩,hC.2.1.1⟩
  have hn2:2≤a.o.d.n∧(a.o.d.n:Int)≤a.x.c.members+1:=M1 hM hC.1
  have hM':=hM
  unfold Cfg.may at hM'
  have e1:Cv a j=C6 a.x.c.log (a.x.l.tail+a.x.l.used) j (Dk (AI.bd ⟨a.x,a.o.d⟩)) 0:=by unfold Cv;rw [Zoj h0]
  have e2:BO a=Dk (AI.bd ⟨a.x,a.o.d⟩):=by unfold BO;rw [Zoj h0]
  have hbd:AI.bd ⟨a.x,a.o.d⟩=⟨a.x.c,ag,a.x.l.seq,a.o.d⟩:=by unfold AI.bd;rw [hag]
  rw [hbd] at hG e1 e2
  unfold CJ at hq
  rw [Zoj h0,Zoj hC] at hq
  cases hq
  refine ⟨by rw [e2,OF];exact Nat.succ_pos _,rfl,?_⟩
  rw [e1]
  exact (PI.add h hG hgm rfl rfl rfl (z:=BV a.x.l.seq a.o.d.st (a.o.d.n:Int) (decide (0<a.o.d.pb.length))) rfl rfl rfl (by omega) (fun b=>by rw [hA,e2,Rw])).1
 ·left
  have e2:BO a=[]:=by unfold BO;rw [Zon h0]
  have hAA:A'=A:=funext fun b=>propext ((hA b).trans ⟨fun h=>h.elim id (fun h=>by rw [e2] at h;cases h),.inl⟩)
  subst hAA
  unfold CJ at hq
  rw [Zon h0] at hq
  by_cases h1:a.o.k % 4=1
  ·rw [Zoj h1] at hq
   have e1:Cv a j=CE j:=by unfold Cv;rw [Zon h0,Zoj h1]
   cases hq
   refine ⟨e2,rfl,?_⟩
   rw [e1]
   have hl:=hlen (n:=a.x.l.with (a.x.l.live.map Lv.flush)) rfl hS
   have hll:(a.x.l.with (a.x.l.live.map Lv.flush)).live.length=a.x.l.live.length:=Zom ..
   have hg0:g=0:=by omega
   subst hg0
   exact PI.flush h hS rfl hgm hll rfl
  ·rw [Zon h1] at hq
   by_cases h2:a.o.k % 4=2
   ·rw [Zoj h2] at hq
    have e1:Cv a j=j:=by unfold Cv;rw [Zon h0,Zon h1,Zoj h2]
    split at hq
    ·split at hq
     ·cases hq
      refine ⟨e2,rfl,?_⟩
      rw [e1]
      have hl:=hlen (n:=a.x.l.with (CI a.o.st a.x.l.live)) rfl hS
      have hll:(a.x.l.with (CI a.o.st a.x.l.live)).live.length=a.x.l.live.length:=Iv _ _ _
      have hg0:g=0:=by omega
      subst hg0
      refine PI.same h hS rfl hgm h.rdk (fun _ _ _=>rfl) (fun w hw=>⟨w,hw,rfl,rfl⟩) h.ring (fun k x y hx hy hs=>.inl ?_) ?_
      ·have hy:(CI a.o.st a.x.l.live)[k]?=some y:=hy
       rw [Zpo] at hx
       rw [HD,hx] at hy
       cases hy
       rw [← (GV a.o.st a.x.l.live k x).2.2.2.2];exact hs
      ·rw [hll];exact h.sup
     ·cases hq
    ·cases hq
   ·rw [Zon h2] at hq
    have e1:Cv a j=Ct ⟨j,0,.fz 128 (some 128) (Ab a.x.mvB),a.x.mvB⟩:=by unfold Cv;rw [Zon h0,Zon h1,Zon h2]
    split at hq
    ·cases hq
    ·cases hq
     refine ⟨e2,rfl,?_⟩
     rw [e1]
     have hl:=hlen (n:=⟨a.x.l.age,a.x.l.seq,BP a.x.c.log a.x.l.tail a.x.l.live (Ay a.x.l.live),C7 a.x.l.used a.x.l.live (Ay a.x.l.live),a.x.l.live.drop (Ay a.x.l.live)⟩) rfl hS
     have hkl:=Mw a.x.l.live
     dsimp only at hl
     rw [Zp3] at hl
     have hg0:g=Ay a.x.l.live:=by omega
     refine PI.move h hS rfl hgm (fun k x y hx hy=>?_) (R9 a.x) ?_
     ·have hy:(a.x.l.live.drop (Ay a.x.l.live))[k]?=some y:=hy
      rw [Zoq,← hg0,Nat.add_comm g k,hx] at hy
      cases hy;rfl
     ·rw [← hag]
      exact Zl6 hgd rfl rfl rfl
theorem Zlx {y:PLI}{bs:List (List Nat)}(hy:y.ok) (hc:y.a.x.c=c) (h:PI c ag sq0 y.a.x.l y.j ds (fun b=>b ∈ bs.map Aa)) (hU:LB.ok ⟨y.U,bs⟩):
 CL.ok ⟨c,(Cj y.a).1,(Cj y.a).2⟩∧((Bh y.a=[]∧(Cj y.a).1.seq=y.a.x.l.seq∧PI c ag sq0 (Cj y.a).1 (Dh y.a y.j) ds (fun b=>b ∈ bs.map Aa))∨
  (0<(Bh y.a).length∧(Cj y.a).1.seq=y.a.x.l.seq+1∧PI c ag sq0 (Cj y.a).1 (Dh y.a y.j) (ds++[y.a.o.d]) (fun b=>b ∈ (bs++(Bh y.a).map Prod.snd).map Aa)∧LB.ok ⟨y.U++(Bh y.a).map Prod.fst,bs++(Bh y.a).map Prod.snd⟩)):=by
 have hO:=R4 hy
 obtain ⟨ob,on⟩:=And.intro hO.b hO.n
 cases hq:CJ y.a with
 | none=>
  have e1:Cj y.a=(y.a.x.l,y.a.x.v):=by unfold Cj;rw [hq]
  have e2:Dh y.a y.j=y.j:=by unfold Dh;rw [hq]
  have e3:Bh y.a=[]:=by unfold Bh;rw [hq]
  rw [e1,e2]
  exact ⟨by subst hc;exact hy.a.x,.inl ⟨e3,rfl,h⟩⟩
 | some res=>
  obtain ⟨m,mv,b⟩:=res
  have e1:Cj y.a=(m,mv):=by unfold Cj;rw [hq]
  have e2:Dh y.a y.j=Cv y.a y.j:=by unfold Dh;rw [hq]
  have e3:Bh y.a=BO y.a:=by unfold Bh;rw [hq]
  rw [e3] at ob on
  have hcl:=(Rn hy.a hq).2.1
  rw [hc] at hcl
  have hpd:((BO y.a).map Prod.snd).map Aa=(BO y.a).map Prod.snd:=by
   rw [List.map_map]
   refine List.map_congr_left fun p hp=>?_
   exact CH (ob p hp).2
  have:=Zhy hy.a hc h hy.w (A':=fun b=>b ∈ (bs++(BO y.a).map Prod.snd).map Aa) (fun b=>by rw [Zo4,hpd,Zo7]) hq
  rw [e1,e2,e3]
  refine ⟨hcl,?_⟩
  rcases this with ⟨h1,h2,h3⟩|⟨h1,h2,h3⟩
  ·rw [h1,Zqj,Zpq] at h3
   exact .inl ⟨h1,h2,h3⟩
  ·refine .inr ⟨h1,h2,h3,?_,?_,?_⟩
   ·show All2 BAt (y.U++_) (bs++_)
    have:∀ {P:List (AV×List Nat)},(∀ p ∈ P,BAt p.1 p.2∧p.2.length=128)→All2 BAt (P.map Prod.fst) (P.map Prod.snd):=fun {P}=>by
     induction P with
     | nil=>intro _;exact .nil
     | cons p P ih=>intro hp;exact .cons (hp p (by simp)).1 (ih fun q hq=>hp q (by simp [hq]))
    exact hU.a.append (this ob)
   ·show (y.U++_).length<1000000
    rw [Zot,Zom]
    have:=hy.n;omega
   ·intro b hb
    rcases Zo7.1 (show b ∈ bs++(BO y.a).map Prod.snd from hb) with hb|hb
    ·exact hU.l b hb
    ·obtain ⟨p,hp,rfl⟩:=Zpf.1 hb
     exact .inr (ob p hp).2
attribute [local irreducible] W
open X
theorem Zbu {e:Env}(h25:Con e 16 sameF.O) {d:DB}(hd:d.any) (hdk:d.ok) (hDG:DGood c d) (K:AV→St→Prop) (s:St) (hk:K (.bool true) s):ESc e 16 [.agg [.int .i64 d.st,F1 (B6 d).S,Dx (B6 d).S,Be (B6 d).p],d.d.v] s K:=by
 have hyo:(B6 d).ok:=hDG.yok (fun b hb=>by
  obtain ⟨u,hu⟩:=hdk.bs.memR b hb
  exact hu.2) hdk.pb.2
 have hda:=VC hyo (st:=d.st) hd.st
 have ha':(Dw d.st (B6 d)).any:=by
  obtain ⟨⟨a,b,c,n,⟨bl,_,bn⟩,_⟩,bs,pb⟩:=hda
  exact ⟨a,b,c,bl,bs,pb⟩
 have hn1:=hyo.n
 refine ESc.fam sameF h25 ⟨Dw d.st (B6 d),d⟩ ⟨ha',hd,fun b hb=>?_,hDG.odd,?_⟩ (u:=.bool true) ?_ hk
 ·obtain ⟨q,hq,rfl⟩:=Zpf.1 (show b ∈ (B6 d).S.map Prod.snd from hb)
  exact .inr (hyo.s q hq).2.1
 ·show ((B6 d).S.map Prod.fst).length<_∧((B6 d).S.map _).length<_
  rw [Zom,Zom];omega
 ·show AV.bool (HR _ _)=_
  rw [hDG.same hdk.bs.length]
end Go.AM
namespace Go.AM
attribute [local irreducible] W
open X
def Bj:List WR→List Bool→List WR
 | w::ws,b::ks=>if b then w::Bj ws ks else Bj ws ks
 | _,_=>[]
theorem IB:∀ {ws:List WR}{ks:List Bool}{w:WR},w ∈ Bj ws ks→w ∈ ws
 | [],_,_,h=>by cases h
 | _::_,[],_,h=>by cases h
 | v::ws,b::ks,w,h=>by
  have h:w ∈ (if b then v::Bj ws ks else Bj ws ks):=h
  cases b
  ·exact List.mem_cons_of_mem _ (IB (show w ∈ Bj ws ks from h))
  ·rcases Zpp.1 (show w ∈ v::Bj ws ks from h) with rfl|h
   ·exact List.mem_cons_self
   ·exact List.mem_cons_of_mem _ (IB h)
theorem Rp:∀ (ws:List WR) (ks:List Bool),(Bj ws ks).length≤ws.length
 | [],_=>Zo0 _
 | _::_,[]=>Zoy _
 | v::ws,b::ks=>by
  have:=Rp ws ks
  show (if b then v::Bj ws ks else Bj ws ks).length≤_
  split <;> simp <;> omega
theorem Vi:∀ (ws:List WR) (ks:List Bool) (i:Nat) (w:WR) (b:Bool),ws[i]?=some w→ks[i]?=some b→Bj (ws.take (i+1)) (ks.take (i+1))=Bj (ws.take i) (ks.take i)++(if b then [w] else [])
 | [],_,_,_,_,h,_=>by simp at h
 | _::_,[],_,_,_,_,h=>by simp at h
 | v::ws,c::ks,0,w,b,h,h'=>by
  simp at h h';subst h h'
  show (if c then v::Bj [] [] else Bj [] [])=_
  cases c <;> rfl
 | v::ws,c::ks,i+1,w,b,h,h'=>by
  have:=Vi ws ks i w b (by simpa using h) (by simpa using h')
  show (if c then v::Bj (ws.take (i+1)) (ks.take (i+1)) else Bj (ws.take (i+1)) (ks.take (i+1)))=(if c then v::Bj (ws.take i) (ks.take i) else Bj (ws.take i) (ks.take i))++_
  rw [this];cases c <;> rfl
theorem Wl:∀ (ws:List WR) (ks:List Bool),Bj (ws.map An) ks=(Bj ws ks).map An
 | [],_=>rfl
 | _::_,[]=>rfl
 | v::ws,b::ks=>by
  show (if b then An v::Bj (ws.map An) ks else Bj (ws.map An) ks)=(if b then v::Bj ws ks else Bj ws ks).map An
  rw [Wl ws ks];cases b <;> rfl
def EN (x:DK) (ks:List Bool):DK:=⟨x.bv,x.us,x.bs,.fz (Bj x.ws ks).length none (Ad (Bj x.ws ks)),Bj x.ws ks,x.dead⟩
variable {x:DK}
theorem RK (hx:x.ok) (ks:List Bool):(EN x ks).ok:=by
 have:=Rp x.ws ks
 refine ⟨⟨hx.a.bl,hx.a.bs,.inr (.inr ⟨none,rfl,Dt _⟩),fun w hw=>hx.a.ws w (IB hw)⟩,hx.n,?_,hx.b,fun w hw=>hx.w w (IB hw)⟩
 show (Bj x.ws ks).length<_
 have:=hx.m;omega
theorem Zkh (h:Bi x=true) (hd:x.dead=false) (ks:List Bool):Bi (EN x ks)=true:=by
 obtain ⟨d1,d2,d3,d4⟩:=dskB_iff.1 h
 have:=Rp x.ws ks
 refine dskB_iff.2 ⟨⟨d1.1,d1.2.1,?_⟩,d2,fun w hw=>d3 w (IB hw),fun e=>?_⟩
 ·exact Nat.le_trans this d1.2.2
 ·rw [show (EN x ks).dead=x.dead from rfl,hd] at e;cases e
def BK (l:List Bool):List AV:=l.map .bool
theorem T6 (l:List Bool):(BK l).length=l.length:=Zom ..
theorem Zim (l:List Bool):hfs (BK l)=true:=hfs_iff.2 fun v hv=>by
 obtain ⟨b,_,rfl⟩:=Zpf.1 hv;rfl
def Wp:AC:=match a13 with|.mk c _=>c
def Rq:AC:=match a42 with|.mk c _=>c
def V5:AC:=match Wp with
 | .seq _ (.seq _ (.seq _ (.seq _ (.seq _ r))))=>r
 | _=>.skip
variable {t:AT}{s:St}
theorem Zg2 {k:Nat}{rd:Option Nat}{a:AC}{ds:List Nat}{Q:EQ}(h:W P k rd a t s ds (Hy (fun t s ds=>W P k rd a t s ds (Hy (fun _ _ _=>False) Q)) Q)):W P k rd (.loop a) t s ds Q:=by
 refine W.loop (fun n t' s' ds'=>(n=1∧t'=t∧s'=s∧ds'=ds)∨(n=0∧W P k rd a t' s' ds' (Hy (fun _ _ _=>False) Q))) 1 (.inl ⟨rfl,rfl,rfl,rfl⟩) ?_
 rintro n t' s' ds' (⟨rfl,rfl,rfl,rfl⟩|⟨rfl,h'⟩)
 ·refine h.mono ?_
  intro x t s ds hq
  cases x with
  | normal=>exact ⟨0,Nat.zero_lt_one,.inr ⟨rfl,hq⟩⟩
  | exit id=>exact hq
  | ret=>exact hq
 ·refine h'.mono ?_
  intro x t s ds hq
  cases x with
  | normal=>exact (show False from hq).elim
  | exit id=>exact hq
  | ret=>exact hq
def U7:AC:=match V5 with
 | .seq _ r=>r
 | _=>.skip
variable {e:Env}{mv:AV}
theorem Zau (hE:EM P e) (h942:Inl e 42 Rq [.tmp 2]) (h103:Con e 31 Cu) (hx:WD x) (hd:x.dead=false) (hmf:AM.hf mv=true) (K:AV→St→Prop)
 (hk:∀ wv',Sl 2 x.ws.length (Ad (x.ws.map An)) wv'→W P 1 none U7 (Am [(8,mv),(9,.sl 1 0 1 none)]) (Ac St0 [.row 28 x.c,.row 28 [.sl 2 0 x.us.length none,wv',.bool false],.row 41 (x.us.map Ao)]) [] (Bx [.tmp 4,.tmp 5] K)):
 W P 1 none V5 (Am [(0,.sl 0 0 1 (some 1)),(8,mv)]) (Ac St0 [.row 28 x.c]) [] (Bx [.tmp 4,.tmp 5] K):=by
 have hxo:=hx.ok
 have htw:=Jx (x:=x) ⟨hxo,(dskB_iff.1 hx.dsk).1.1⟩
 have hcf:hfs x.c=true:=CZ hxo.a.wl hxo.a.bl
 have hUf:=Kw hxo.a
 have hWf:hfs (Ad (x.ws.map An))=true:=FP fun w hw=>by
  obtain ⟨v,hv,rfl⟩:=Zpf.1 hw
  exact (HF (hxo.a.ws v hv)).b.1.hf
 obtain ⟨bv,us,bs,wv,ws,dd⟩:=x
 dsimp only at hd
 subst hd
 have hcg:hfs [bv,wv,.bool false]=true:=hcf
 refine Av hE ?_
 show VW P e 1 _ (Am [(0,.sl 0 0 1 (some 1)),(8,mv)]) (Ac St0 [.row 28 [bv,wv,.bool false]]) none [] _
 rcases ws with _|⟨w0,ws⟩
 ·have htw:∀ s,Cu [.agg [bv,wv,.bool false]] s=.ok (.agg [.sl (0+s.next) 0 us.length none,.nils,.bool false]) (Ac s [.row 41 (us.map Ao)]):=htw
  have hk:=hk .nils (.inl ⟨rfl,rfl,rfl⟩)
  conv=>whnf
  repeat' (first|(refine ESc.inl h942 ?_;conv=>whnf)|(refine DL rfl ?_;conv=>whnf)|(refine EExec.loop ?_;conv=>whnf)|(refine D7 (i:=0) rfl rfl (by omega) ?_;conv=>whnf)|(refine ESc.ov h103 (htw _) ?_;conv=>whnf)|(refine Cl (m:=1) rfl rfl rfl rfl (by decide) (by decide) ?_;conv=>whnf)|((refine w1 rfl rfl ?_ ?_) <;> intro _ <;> first|(exfalso;omega)|(conv=>whnf))|(refine w7 rfl rfl (by omega) ?_;conv=>whnf)|fail)
  refine W.tells (AbsK.tells (tl:=[(8,mv),(9,.sl 1 0 1 none)]) (os:=[.row 28 [bv,wv,.bool false],.row 28 [.sl 2 0 us.length none,.nils,.bool false],.row 41 (us.map Ao)]) (rs:=[0,4,2]) .a) hk
 ·have htw:∀ s,Cu [.agg [bv,wv,.bool false]] s=.ok (.agg [.sl (0+s.next) 0 us.length none,.sl (1+s.next) 0 (ws.length+1) none,.bool false]) (Ac s [.row 41 (us.map Ao),.row 77 (Ad ((w0::ws).map An))]):=htw
  have hk:=hk (.fz (ws.length+1) none (Ad ((w0::ws).map An))) (.inr (.inr ⟨none,rfl,by rw [Dt,Zom]⟩))
  conv=>whnf
  repeat' (first|(refine ESc.inl h942 ?_;conv=>whnf)|(refine DL rfl ?_;conv=>whnf)|(refine EExec.loop ?_;conv=>whnf)|(refine D7 (i:=0) rfl rfl (by omega) ?_;conv=>whnf)|(refine ESc.ov h103 (htw _) ?_;conv=>whnf)|(refine Cl (m:=1) rfl rfl rfl rfl (by decide) (by decide) ?_;conv=>whnf)|((refine w1 rfl rfl ?_ ?_) <;> intro _ <;> first|(exfalso;omega)|(conv=>whnf))|(refine w7 rfl rfl (by omega) ?_;conv=>whnf)|fail)
  refine W.tells (AbsK.frz (n:=3) (e:=77) (cs:=Ad ((w0::ws).map An)) (tl:=[(8,mv),(9,.sl 1 0 1 none)]) (os:=[.row 28 [bv,wv,.bool false],.row 28 [.sl 2 0 us.length none,.sl 3 0 (ws.length+1) none,.bool false],.row 41 (us.map Ao)]) (rs:=[0,5,2,3]) .a rfl hWf rfl rfl rfl rfl ?_ ?_) hk
  ·show [(8,C4 3 _ mv),_]=_
   rw [EW mv hmf];rfl
  ·show [Bw 3 _ (.row 28 [bv,wv,.bool false]),_,Bw 3 _ (.row 41 (us.map Ao))]=_
   rw [BM hcg,BM hUf];rfl
def tlCr (mv:AV):List (Nat×AV):=[(8,mv),(9,.sl 1 0 1 none),(39,.sl 1 0 1 none),(40,.int .i64 1),(41,.int .i64 0)]
theorem Zi {es n:Nat}{l:List AV}{v:AV}{lo:Option AO}{x:AO}{k:AV→St→Prop}(hx:ev x t=.some v) (hs:Sl es n l v) (hlo:B3 t lo 0=.n n) (hk:∀ v',AM.hf v'=true→k v' s):EPrim (.slc es x lo none none) t s k:=by
 rcases hs with ⟨rfl,rfl,rfl⟩|⟨rfl,rfl,rfl⟩|⟨c,rfl,hl⟩
 ·refine EPrim.mk (v:=.nils) (s':=s) (fun e rec=>?_) (hk _ rfl)
  show wth x t _=_;unfold wth;rw [hx]
  show (NR.rec .fail (fun l=>gd (Nat.beq (l+0+0) 0) (.ok .nils s)) (B3 t lo 0):RV)=_
  rw [hlo];rfl
 ·refine EPrim.mk (v:=.es) (s':=s) (fun e rec=>?_) (hk _ rfl)
  show wth x t _=_;unfold wth;rw [hx]
  show (NR.rec .fail (fun l=>gd (Nat.beq (l+0+0) 0) (.ok .es s)) (B3 t lo 0):RV)=_
  rw [hlo];rfl
 ·refine EPrim.mk (v:=.es) (s':=s) (fun e rec=>?_) (hk _ rfl)
  show wth x t _=_;unfold wth;rw [hx]
  show (NR.rec .fail (fun lo=>MM es n c l lo n s) (B3 t lo 0):RV)=_
  rw [hlo]
  show gd (Nat.ble n n && Nat.ble n n) (Bool.rec (.ok .es s) _ (Nat.blt n n))=_
  rw [Zo6 (Zo0 n),show Nat.blt n n=false by rw [← Zqg,Zpx];omega];rfl
def Lh (mv wv:AV) (m i:Nat):List (Nat×AV):=[(8,mv),(9,.sl 1 0 1 none),(39,.sl 1 0 1 none),(40,.int .i64 1),(41,.int .i64 0),(10,.int .i64 0),(11,.ptr 1 0),(50,wv),(51,.int .i64 (m:Int)),(52,.int .i64 (i:Int))]
theorem Zav (hE:EM P e) (h103:Con e 31 Cu) (hx:WD x) (hd:x.dead=false) {M:List Bool}(hM:M.length=x.ws.length) (hmv:Sl 1 M.length (BK M) mv) (K:AV→St→Prop)
 (hk:∀ s,s.get 0=some (.row 28 x.c)→s.get 1=some (.row 28 [.sl 2 0 x.us.length none,.nils,.bool false])→s.get 2=some (.row 41 (CE (EN x M)).us)→K (.tup [.sl 1 0 1 none,.int .i64 0]) s)
 {wv':AV}(hwv:Sl 2 x.ws.length (Ad (x.ws.map An)) wv'):
 W P 1 none U7 (Am [(8,mv),(9,.sl 1 0 1 none)]) (Ac St0 [.row 28 x.c,.row 28 [.sl 2 0 x.us.length none,wv',.bool false],.row 41 (x.us.map Ao)]) [] (Bx [.tmp 4,.tmp 5] K):=by
 have hxo:=hx.ok
 have hcf:hfs x.c=true:=CZ hxo.a.wl hxo.a.bl
 have hUf:=Kw hxo.a
 have hmf:=hmv.hf
 have hwf:=hwv.hf
 have hro:AM.hfs [wv',.bool false]=true:=by show (AM.hf wv' && (true && true))=true;rw [hwf];rfl
 generalize hC:x.c=C at *
 refine Av hE ?_;conv=>whnf
 refine DL rfl ?_;conv=>whnf
 refine Zg2 ?_
 refine W.tells (AbsK.tells (tl:=tlCr mv) (os:=[.row 28 C,.row 28 [.sl 2 0 x.us.length none,wv',.bool false],.row 41 (x.us.map Ao)]) (rs:=[0,1,2]) ⟨rfl,by decide,⟨t9,r9,r9,r9,r9,trivial⟩,⟨o9,⟨by show (true && (bd _ wv' && (true && true)))=true;rw [Bz _ hwf];rfl,by show _=some (AObj.row 28 [_,A2 _ wv',_]);rw [Bv _ hwf];rfl⟩,o9,trivial⟩⟩) ?_
 refine Av hE ?_;conv=>whnf
 repeat' (first|((refine w1 rfl rfl ?_ ?_) <;> intro _ <;> first|(exfalso;omega)|(conv=>whnf))|fail)
 refine Av hE ?_;conv=>whnf
 refine W.seq ?_
 refine W.block ?_
 refine Av hE ?_;conv=>whnf
 refine Av hE ?_;conv=>whnf
 refine D7 (i:=0) rfl rfl (by omega) ?_;conv=>whnf
 refine W.seq ?_
 refine Av hE ?_;conv=>whnf
 refine Af rfl hwv ?_;conv=>whnf
 refine W.block ?_
 obtain ⟨W1,hW1⟩:∃ W1,W1=x.ws.map An:=⟨_,rfl⟩
 have hW1l:W1.length=x.ws.length:=by rw [hW1,Zom]
 obtain ⟨d1,d2,d3,d4⟩:=dskB_iff.1 hx.dsk
 have hWa:∀ w ∈ W1,w.any∧0≤w.at_∧w.at_<x.us.length:=fun w hw=>by
  rw [hW1] at hw
  obtain ⟨v,hv,rfl⟩:=Zpf.1 hw
  have:=d3 v hv
  unfold Ch at this
  simp only [Zp0,Zpl] at this
  exact ⟨HF (hxo.a.ws v hv),by show 0≤v.at_;omega,by show v.at_<_;omega⟩
 have hcfS:∀ i,hfs (AU (x.us.map Ao) (Bj (W1.take i) (M.take i)))=true:=fun i=>Hc (OZ _ (K2 hxo.a.bs) (fun w hw=>(hWa w (Zpm (IB hw))).1.b))
 have hclS:∀ i,(AU (x.us.map Ao) (Bj (W1.take i) (M.take i))).length=x.us.length:=fun i=>by rw [IA,Zom]
 have hwn:=hxo.m
 have hend:AU (x.us.map Ao) (Bj (W1.take x.ws.length) (M.take x.ws.length))=AU (x.us.map Ao) ((Bj x.ws M).map An):=by
  rw [← hW1l,Zoo (Zo0 _),Zoo (by omega),hW1,Wl]
 rw [← hW1] at hwv
 generalize hU0:x.us.map Ao=U at *
 refine W.tells (AbsK.tells (tl:=Lh mv wv' x.ws.length 0) (os:=[.row 28 C,.row 28 [.sl 2 0 x.us.length none,wv',.bool false],.row 41 (AU U (Bj (W1.take 0) (M.take 0)))]) (rs:=[0,1,2]) ⟨rfl,by decide,⟨t9,r9,r9,r9,r9,r9,r9,t9,r9,r9,trivial⟩,⟨o9,⟨by show (true && (bd _ wv' && (true && true)))=true;rw [Bz _ hwf];rfl,by show _=some (AObj.row 28 [_,A2 _ wv',_]);rw [Bv _ hwf];rfl⟩,⟨AD (hcfS 0),by rw [Az (hcfS 0),← hU0];rfl⟩,trivial⟩⟩) ?_
 refine Ce (α:=Nat) (fun i=>Lh mv wv' x.ws.length i) (fun i=>[.row 28 C,.row 28 [.sl 2 0 x.us.length none,wv',.bool false],.row 41 (AU U (Bj (W1.take i) (M.take i)))]) (fun i=>x.ws.length-i) (fun i=>i≤x.ws.length) 0 (Zoy _) Tells.refl ?_
 intro i hi
 have hci:=hcfS i
 have hcl:=hclS i
 by_cases hlt:i<x.ws.length
 ·have hWi:=Zof (l:=W1) (i:=i) (by omega)
  have hMi:=Zof (l:=M) (i:=i) (by omega)
  have hwi:=hWa _ (Zpg (l:=W1) (n:=i) (by omega))
  have hdr:=Io (L:=W1) (i:=i) (by omega)
  have hstp:=Vi W1 M i _ _ hWi hMi
  have hmd:(BK M)[i]?=some (.bool (M[i]'(by omega))):=by unfold BK;rw [Zpe,hMi];rfl
  have hall:=And.intro hwi (And.intro hdr (And.intro hstp hmd))
  clear hwi hdr hstp hmd hWi hMi
  revert hall
  generalize W1[i]'(by omega)=w
  generalize M[i]'(by omega)=b
  rintro ⟨⟨hwa,hw0,hwn'⟩,hdr,hstp,hmd⟩
  obtain ⟨wa,wu,wb⟩:=w
  have hwu:AM.hf wu=true:=hwa.b.1.hf
  dsimp only at hw0 hwn'
  obtain ⟨a,rfl⟩:∃ a:Nat,wa=(a:Int):=⟨wa.toNat,by omega⟩
  have ha:a<x.us.length:=by omega
  have hdr:(Ad W1).drop (i*2)=[.int .i64 (a:Int),wu]++Ad (W1.drop (i+1)):=hdr
  have hci1:=hcfS (i+1)
  rw [hstp,Rk] at hci1
  refine A9 hE ?_;conv=>whnf
  refine Ag (a:=(i:Int)) (b:=(x.ws.length:Int)) rfl rfl (fun _=>?_) (fun h=>by omega);conv=>whnf
  refine A8 rfl hwv rfl hlt ?_
  rw [hdr]
  conv=>whnf
  refine CS (cs:=[.int .i64 (a:Int),wu]) rfl ?_;conv=>whnf
  refine A8 rfl hmv rfl (by omega) ?_;conv=>whnf
  refine EHead.mk (v:=.bool b) (by rw [Zpi,Zoq,Zpo];exact hmd) ?_
  have hcu:cellsOf wu=[wu]:=by
   rcases hwa.b.1 with ⟨h,_⟩|⟨h,_⟩|⟨c,h,_⟩ <;> (dsimp only at h;rw [h];rfl)
  cases b
  ·have htk:AU U (Bj (W1.take (i+1)) (M.take (i+1)))=AU U (Bj (W1.take i) (M.take i)):=by rw [hstp];exact congrArg _ (Zpq _)
   conv=>whnf
   repeat' (first|((first|refine w7 rfl rfl (by omega) ?_|refine ⟨rfl,?_⟩);conv=>whnf)|fail)
   refine ⟨i+1,hlt,by omega,AbsK.tells (tl:=Lh mv wv' x.ws.length (i+1)) (os:=[.row 28 C,.row 28 [.sl 2 0 x.us.length none,wv',.bool false],.row 41 (AU U (Bj (W1.take (i+1)) (M.take (i+1))))]) (rs:=[0,1,2]) ⟨rfl,by decide,⟨t9,r9,r9,r9,r9,r9,r9,t9,r9,r9,trivial⟩,⟨o9,⟨by show (true && (bd _ wv' && (true && true)))=true;rw [Bz _ hwf];rfl,by show _=some (AObj.row 28 [_,A2 _ wv',_]);rw [Bv _ hwf];rfl⟩,⟨AD (hcfS (i+1)),by rw [Az (hcfS (i+1)),htk];rfl⟩,trivial⟩⟩⟩
  ·have hst:∀ s:St,s.get 2=some (.row 41 (AU U (Bj (W1.take i) (M.take i))))→storeAt 2 (0+a*1) [wu] s=some (s.put 2 (.row 41 ((AU U (Bj (W1.take i) (M.take i))).set a wu))):=fun s h=>Qu h (by rw [hcl];exact ha)
   have hcw:∀ (K:Prop),K→wB (Nat.beq (A3 (cellsOf wu)) 1) K False:=fun K hK=>by rw [hcu];exact hK
   have htk:AU U (Bj (W1.take (i+1)) (M.take (i+1)))=(AU U (Bj (W1.take i) (M.take i))).set a wu:=by rw [hstp,Rk];rfl
   conv=>whnf
   refine D7 (i:=a) rfl rfl ha ?_;conv=>whnf
   refine hcw _ ?_
   rw [hcu]
   refine AP _ (hst _ rfl) ?_;conv=>whnf
   repeat' (first|((first|refine w7 rfl rfl (by omega) ?_|refine ⟨rfl,?_⟩);conv=>whnf)|fail)
   refine ⟨i+1,hlt,by omega,AbsK.tells (tl:=Lh mv wv' x.ws.length (i+1)) (os:=[.row 28 C,.row 28 [.sl 2 0 x.us.length none,wv',.bool false],.row 41 (AU U (Bj (W1.take (i+1)) (M.take (i+1))))]) (rs:=[0,1,2]) ⟨rfl,by decide,⟨t9,r9,r9,r9,r9,r9,r9,t9,r9,r9,trivial⟩,⟨o9,⟨by show (true && (bd _ wv' && (true && true)))=true;rw [Bz _ hwf];rfl,by show _=some (AObj.row 28 [_,A2 _ wv',_]);rw [Bv _ hwf];rfl⟩,⟨AD (hcfS (i+1)),by rw [Az (hcfS (i+1)),htk];rfl⟩,trivial⟩⟩⟩
 ·have hie:i=x.ws.length:=by omega
  subst hie
  rw [hend] at hci hcl ⊢
  refine A9 hE ?_;conv=>whnf
  refine Ag (a:=(x.ws.length:Int)) (b:=(x.ws.length:Int)) rfl rfl (fun h=>by omega) (fun _=>?_);conv=>whnf
  have hmo:(DW (EN x M)).bv=.fz x.us.length none (AU U ((Bj x.ws M).map An)):=by rw [← hU0];rfl
  refine W.tells (AbsK.frz (n:=2) (e:=41) (cs:=AU U ((Bj x.ws M).map An)) (tl:=Lh mv wv' x.ws.length x.ws.length) (tl2:=Lh mv wv' x.ws.length x.ws.length) (os:=[.row 28 C,.row 28 [.sl 2 0 x.us.length none,wv',.bool false]]) (os2:=[.row 28 C,.row 28 [(DW (EN x M)).bv,wv',.bool false]]) (rs:=[0,1,2]) ⟨rfl,by decide,⟨t9,r9,r9,r9,r9,r9,r9,t9,r9,r9,trivial⟩,⟨o9,⟨by show (true && (bd _ wv' && (true && true)))=true;rw [Bz _ hwf];rfl,by show _=some (AObj.row 28 [_,A2 _ wv',_]);rw [Bv _ hwf];rfl⟩,o9,trivial⟩⟩ rfl hci rfl rfl rfl rfl ?_ ?_) ?_
  ·show [(8,C4 2 _ mv),_,_,_,_,_,_,(50,C4 2 _ wv'),_,_]=_
   rw [EW mv hmf,EW wv' hwf];rfl
  ·show [Bw 2 _ (.row 28 C),.row 28 [_,C4 2 _ wv',_]]=_
   rw [BM hcf,EW wv' hwf,hmo];rfl
  have hmo':=RG (RK hxo M)
  have hlen:(DW (EN x M)).us.length=x.us.length:=by show (AU _ _).length=_;rw [IA,Zom];rfl
  have htw:=Jx (x:=DW (EN x M)) ⟨hmo',by rw [hlen];exact d1.1⟩
  have hv:(DW (EN x M)).v=.agg [(DW (EN x M)).bv,.nils,.bool false]:=rfl
  have htw:∀ s,Cu [.agg [(DW (EN x M)).bv,.nils,.bool false]] s=.ok (.agg [.sl (0+s.next) 0 x.us.length none,.nils,.bool false]) (Ac s [.row 41 (CE (EN x M)).us]):=fun s=>by
   have:=htw s
   rw [hv] at this
   rw [this,← hlen];rfl
  clear hmo
  generalize (DW (EN x M)).bv=B at *
  refine A9 hE ?_;conv=>whnf
  repeat' (first|(refine Af rfl hwv ?_;conv=>whnf)|(refine Zi rfl hmv (by rw [hM];rfl) (fun mv' hmf'=>?_);conv=>whnf)|(refine ESc.ov h103 (htw _) ?_;conv=>whnf)|(refine D7 (i:=0) rfl rfl (by omega) ?_;conv=>whnf)|fail)
  refine A9 hE ?_;conv=>whnf
  repeat' (first|(refine w7 rfl rfl (by omega) ?_;conv=>whnf)|fail)
  refine A9 hE ?_;conv=>whnf
  repeat' (first|((refine w1 rfl rfl ?_ ?_) <;> intro _ <;> first|(exfalso;omega)|(conv=>whnf))|fail)
  refine Fv hE ?_;conv=>whnf
  exact hk _ rfl rfl rfl
def Sz (es n:Nat) (l:List AV) (v:AV):Prop:=(v=.nils∧n=0∧l=[])∨(v=.ez∧n=0∧l=[])∨(v=.fz n (some n) l∧l.length=n*es∧0<n)
section
variable {t:AT}{s:St}{k:AV→St→Prop}{x y:AO}
variable {es n:Nat}{l:List AV}{v:AV}
theorem YR {hi:Option AO}{mx:AO}(hx:ev x t=.some v) (hs:Sl es n l v) (hhi:∀ d,B3 t hi d=.n n) (hmx:E5 (ev mx t)=.n n) (hk:∀ v',Sz es n l v'→k v' s):EPrim (.slc es x none hi (some mx)) t s k:=by
 rcases hs with ⟨rfl,rfl,rfl⟩|⟨rfl,rfl,rfl⟩|⟨c,rfl,hl⟩
 ·refine EPrim.mk (v:=.nils) (s':=s) (fun e rec=>?_) (hk _ (.inl ⟨rfl,rfl,rfl⟩))
  show wth x t _=_;unfold wth;rw [hx]
  show (NR.rec .fail (fun h=>NR.rec .fail (fun m=>gd (Nat.beq (0+h+m) 0) (.ok .nils s)) (E5 (ev mx t))) (B3 t hi 0):RV)=_
  rw [hhi,hmx];rfl
 ·refine EPrim.mk (v:=.ez) (s':=s) (fun e rec=>?_) (hk _ (.inr (.inl ⟨rfl,rfl,rfl⟩)))
  show wth x t _=_;unfold wth;rw [hx]
  show (NR.rec .fail (fun h=>NR.rec .fail (fun m=>gd (Nat.beq (0+h+m) 0) (.ok .ez s)) (E5 (ev mx t))) (B3 t hi 0):RV)=_
  rw [hhi,hmx];rfl
 ·have key:∀ e rec,AH (.slc es x none hi (some mx)) e rec t s=gd (Nat.ble 0 n && Nat.ble n n && Nat.ble n n) (Bool.rec (.ok .ez s) (Option.rec .fail (fun cs'=>.ok (.fz (n-0) (some (n-0)) cs') s) (Bf (Nat.mul (n-0) es) (Dr (Nat.mul 0 es) l))) (Nat.blt 0 n)):=fun e rec=>by
   show wth x t _=_;unfold wth;rw [hx]
   show (NR.rec .fail (fun h=>NR.rec .fail (fun m=>RZ es n l 0 h m s) (E5 (ev mx t))) (B3 t hi n):RV)=_
   rw [hhi,hmx];rfl
  rw [Zo6 (Zoy n),Zo6 (Zo0 n)] at key
  rcases Nat.eq_zero_or_pos n with rfl|hn
  ·refine EPrim.mk (v:=.ez) (s':=s) (fun e rec=>by rw [key];rfl) (hk _ (.inr (.inl ⟨rfl,rfl,Zpd.1 (by omega)⟩)))
  ·refine EPrim.mk (v:=.fz n (some n) l) (s':=s) (fun e rec=>?_) (hk _ (.inr (.inr ⟨rfl,hl,hn⟩)))
   rw [key,show Nat.blt 0 n=true by rw [Zpx];exact hn,show Nat.mul 0 es=0 from Nat.zero_mul es]
   show (Option.rec .fail _ (Bf (n*es) l):RV)=_
   rw [EU (by omega),Zoo (by omega)];rfl
theorem ZI {el m:Nat}{z:List AV}{q:IntKind}(hx:ev x t=.some v) (hs:Sz es n l v) (hy:ev y t=.some (.int q (Int.ofNat m))) (h3:n+m≤1000000)
 (h0:m=0→∀ v',Sl es n l v'→k v' s) (h1:0<m→k (.sl s.next 0 (n+m) none) (s.alloc (.row el (l++Bc z m)))):EPrim (.app0 el es z x y) t s k:=by
 cases m with
 | zero=>
  rcases hs with ⟨rfl,rfl,rfl⟩|⟨rfl,rfl,rfl⟩|⟨rfl,hl,hn⟩
  ·refine EPrim.mk (v:=.nils) (s':=s) (fun e rec=>?_) (h0 rfl _ (.inl ⟨rfl,rfl,rfl⟩))
   show wth x t _=_;unfold wth;rw [hx]
   show wth y t _=_;unfold wth;rw [hy];rfl
  ·refine EPrim.mk (v:=.es) (s':=s) (fun e rec=>?_) (h0 rfl _ (.inr (.inl ⟨rfl,rfl,rfl⟩)))
   show wth x t _=_;unfold wth;rw [hx]
   show wth y t _=_;unfold wth;rw [hy];rfl
  ·refine EPrim.mk (v:=.fz n (some n) l) (s':=s) (fun e rec=>?_) (h0 rfl _ (.inr (.inr ⟨_,rfl,hl⟩)))
   show wth x t _=_;unfold wth;rw [hx]
   show wth y t _=_;unfold wth;rw [hy];rfl
 | succ m=>
  have h1:=h1 (Nat.succ_pos m)
  rcases hs with ⟨rfl,rfl,rfl⟩|⟨rfl,rfl,rfl⟩|⟨rfl,hl,hn⟩
  ·refine EPrim.mk (v:=.sl s.next 0 (m+1) none) (s':=s.alloc (.row el (Bc z (m+1)))) (fun e rec=>?_) (by rwa [Zou] at h1)
   show wth x t _=_;unfold wth;rw [hx]
   show wth y t _=_;unfold wth;rw [hy]
   show gd (Nat.ble (m+1) 1000000) _=_
   rw [Zo6 (by omega)];rfl
  ·refine EPrim.mk (v:=.sl s.next 0 (m+1) none) (s':=s.alloc (.row el (Bc z (m+1)))) (fun e rec=>?_) (by rwa [Zou] at h1)
   show wth x t _=_;unfold wth;rw [hx]
   show wth y t _=_;unfold wth;rw [hy]
   show gd (Nat.ble (m+1) 1000000) _=_
   rw [Zo6 (by omega)];rfl
  ·refine EPrim.mk (v:=.sl s.next 0 (n+(m+1)) none) (s':=s.alloc (.row el (l++Bc z (m+1)))) (fun e rec=>?_) h1
   show wth x t _=_;unfold wth;rw [hx]
   show wth y t _=_;unfold wth;rw [hy]
   show (Bool.rec (Option.rec .fail (fun old=>Cs el (n+(m+1)) (AZ old (Bc z (m+1))) s) (Bf (n*es) l)) .fail (Nat.ble (n+(m+1)) n):RV)=_
   rw [show Nat.ble (n+(m+1)) n=false by rw [← Zqg];intro e;have:=Zo3 e;omega,EU (by omega),Zoo (by omega)]
   show gd (Nat.ble (n+(m+1)) 1000000) _=_
   rw [Zo6 h3,Do];rfl
end
theorem V7:∀ (n:Nat),Bc [.bool false] n=BK (List.replicate n false)
 | 0=>rfl
 | n+1=>by
  show AV.bool false::Bc [.bool false] n=_
  rw [V7 n,List.replicate_succ];rfl
theorem Zk3 (a b:List Bool):BK (a++b)=BK a++BK b:=Zo4
def mksB (ks:List Bool) (n:Nat):List Bool:=ks++List.replicate (n-ks.length) false
variable {e:Env}{x:DK}{ks:List Bool}{kv:AV}
theorem Zdc (hE:EM P e) (h942:Inl e 42 Rq [.tmp 2]) (h912:Con e 12 (relS IP)) (h103:Con e 31 Cu) (hx:WD x) (hd:x.dead=false) (hkl:ks.length≤x.ws.length) (hkv:Sl 1 ks.length (BK ks) kv) (K:AV→St→Prop)
 (hk:∀ s,s.get 0=some (.row 28 x.c)→s.get 1=some (.row 28 [.sl 2 0 x.us.length none,.nils,.bool false])→s.get 2=some (.row 41 (CE (EN x (mksB ks x.ws.length))).us)→K (.tup [.sl 1 0 1 none,.int .i64 0]) s):
 W P 1 none Wp (Ah [.sl 0 0 1 (some 1),kv] 0 .lf) (Ac St0 [.row 28 x.c]) [] (Bx [.tmp 4,.tmp 5] K):=by
 have hr:=fun (mv:AV) hmv=>Zau hE h942 h103 hx hd (mv:=mv) (Sl.hf hmv) K (fun wv' hwv=>Zav hE h103 hx hd (M:=mksB ks x.ws.length) (by unfold mksB;rw [Zot,List.length_replicate];omega) hmv K hk hwv)
 have hcf:hfs x.c=true:=CZ hx.ok.a.wl hx.ok.a.bl
 have hwn:=hx.ok.m
 refine Av hE ?_;conv=>whnf
 refine Av hE ?_;conv=>whnf
 refine Vu h912 hx rfl ?_;conv=>whnf
 refine Av hE ?_;conv=>whnf
 repeat' (first|((refine w6 rfl rfl ?_ ?_) <;> intro _ <;> first|(exfalso;omega)|(conv=>whnf))|fail)
 refine Av hE ?_;conv=>whnf
 refine Af rfl hkv ?_;conv=>whnf
 refine Dm rfl rfl (fun h=>by omega) (fun _=>?_);conv=>whnf
 refine Av hE ?_;conv=>whnf
 refine Af rfl hkv ?_;conv=>whnf
 refine Af rfl hkv ?_;conv=>whnf
 refine YR rfl hkv (fun _=>rfl) rfl (fun zv hz=>?_);conv=>whnf
 refine Af rfl hkv ?_;conv=>whnf
 obtain ⟨d,hd'⟩:∃ d:Nat,x.ws.length=ks.length+d:=⟨x.ws.length-ks.length,by omega⟩
 refine Iw (a:=(x.ws.length:Int)) (b:=(ks.length:Int)) rfl rfl (by omega) ?_
 rw [show (x.ws.length:Int)-(ks.length:Int)=Int.ofNat d by show _=(d:Int);omega]
 conv=>whnf
 have hmk:mksB ks x.ws.length=ks++List.replicate d false:=by unfold mksB;rw [hd',Nat.add_sub_cancel_left]
 have hml:(mksB ks x.ws.length).length=ks.length+d:=by rw [hmk,Zot,List.length_replicate]
 have hmb:BK (mksB ks x.ws.length)=BK ks++Bc [.bool false] d:=by rw [hmk,Zk3,V7]
 refine ZI rfl hz rfl (by omega) (fun h0 mv hmv=>?_) (fun h0=>?_)
 ·conv=>whnf
  subst h0
  have hmv:Sl 1 (mksB ks x.ws.length).length (BK (mksB ks x.ws.length)) mv:=by rw [hml,hmb];show Sl 1 _ (BK ks++[]) mv;rw [Zpq];exact hmv
  refine W.tells (AbsK.tells (tl:=[(0,.sl 0 0 1 (some 1)),(8,mv)]) (os:=[.row 28 x.c]) (rs:=[0]) ⟨rfl,by decide,⟨r9,t9 hmv.hf,trivial⟩,⟨o9,trivial⟩⟩) (hr mv hmv)
 ·conv=>whnf
  have hf:=Zim (mksB ks x.ws.length)
  rw [hmb] at hf
  have hmv:Sl 1 (mksB ks x.ws.length).length (BK (mksB ks x.ws.length)) (.fz (ks.length+d) none (BK ks++Bc [.bool false] d)):=.inr (.inr ⟨none,by rw [hml,hmb],by rw [T6,Zpi]⟩)
  refine W.tells (AbsK.frz (n:=1) (e:=4) (cs:=BK ks++Bc [.bool false] d) (tl:=[(0,.sl 0 0 1 (some 1)),(8,.sl 1 0 (ks.length+d) none)]) (os:=[.row 28 x.c]) (rs:=[0,1]) .a rfl hf rfl rfl rfl rfl rfl (by
   show [Bw 1 _ (.row 28 x.c)]=_;rw [BM hcf])) (hr _ hmv)
def EO (x:DK) (ks:List Bool):DK:=CE (EN x (mksB ks x.ws.length))
def M2 (args:List AV) (s:St) (u:AV) (s':St):Prop:=∃ (x:DK) (r:Nat) (ks:List Bool) (kv:AV),WD x∧x.dead=false∧ks.length≤x.ws.length∧Sl 1 ks.length (BK ks) kv∧args=[.sl r 0 1 (some 1),kv]∧s.get r=some (.row 28 x.c)∧
 u=.tup [.sl s.next 0 1 none,.int .i64 0]∧s'=(s.put r (.row 28 x.c)).alloc (.row 28 (EO x ks).c)
theorem W5:∀ {a b:List Bool},BK a=BK b→a=b
 | [],[],_=>rfl
 | [],_::_,h=>by cases h
 | _::_,[],h=>by cases h
 | x::a,y::b,h=>by
  injection h with h1 h2
  injection h1 with h1
  rw [h1,W5 h2]
theorem Zdb (h:Con e 13 (relS M2)) (hx:WD x) (hd:x.dead=false) (hl:ks.length≤x.ws.length) (hkv:Sl 1 ks.length (BK ks) kv) {s:St}{r:Nat}(hr:s.get r=some (.row 28 x.c)) {K:AV→St→Prop}
 (hk:K (.tup [.sl s.next 0 1 none,.int .i64 0]) ((s.put r (.row 28 x.c)).alloc (.row 28 (EO x ks).c))):ESc e 13 [.sl r 0 1 (some 1),kv] s K:=by
 refine ESc.relS h ⟨x,r,ks,kv,hx,hd,hl,hkv,rfl,hr,rfl,rfl⟩ ?_
 rintro u s' ⟨y,r',ks',kv',hy,hd',hl',hkv',e1,e2,rfl,rfl⟩
 cases e1
 have e3:=Vt hy.ok.a hx.ok.a (Ou e2 hr)
 subst e3
 have e4:BK ks'=BK ks:=hkv'.l_inj hkv
 have e4:=W5 e4
 subst e4
 exact hk
theorem Zm1 (x:DK) (ks:List Bool):(EO x ks).c=[.fz x.us.length none (EO x ks).us,.nils,.bool false]:=rfl
theorem Zgl (hE:EM P e) (h942:Inl e 42 Rq [.tmp 2]) (h912:Con e 12 (relS IP)) (h103:Con e 31 Cu):OvOk P 13 (relS M2):=by
 refine Me g13.b ?_
 rintro args s u s' ⟨x,r,ks,kv,hx,hd,hl,hkv,rfl,hr,rfl,rfl⟩
 have hcf:hfs x.c=true:=CZ hx.ok.a.wl hx.ok.a.bl
 have hkf:=hkv.hf
 have hDo:(EO x ks).ok:=J6 (RK hx.ok _)
 have hDf:hfs (EO x ks).us=true:=Hc hDo.a.bs
 have key:C1 P 13 [.sl 0 0 1 (some 1),kv] (Ac St0 [.row 28 x.c]) (fun v s'=>Tells P 1 (Am [(0,v)]) s' [] (Am [(0,.tup [.sl 1 0 1 none,.int .i64 0])]) (Ac St0 [.row 28 x.c,.row 28 (EO x ks).c]) []):=by
  refine C1.of_W g13.f g13.c (Zdc hE h942 h912 h103 hx hd hl hkv _ fun s h0 h1 h2=>?_)
  exact AbsK.frz (n:=2) (e:=41) (cs:=(EO x ks).us) (tl:=[(0,.tup [.sl 1 0 1 none,.int .i64 0])]) (os:=[.row 28 x.c,.row 28 [.sl 2 0 x.us.length none,.nils,.bool false]]) (rs:=[0,1,2]) ⟨rfl,by decide,⟨r9,trivial⟩,⟨⟨AD hcf,by rw [Az hcf];exact h0⟩,⟨rfl,h1⟩,⟨AD hDf,by rw [Az hDf];exact h2⟩,trivial⟩⟩ rfl hDf rfl rfl rfl rfl rfl (by
   show [Bw 2 _ (.row 28 x.c),_]=_;rw [BM hcf,Zm1];rfl)
 have hDc:hfs (EO x ks).c=true:=CZ hDo.a.wl hDo.a.bl
 have:=NU (rs:=[r]) (s:=s) (os:=[.row 28 x.c]) (os2:=[.row 28 x.c,.row 28 (EO x ks).c]) (args0:=[.sl 0 0 1 (some 1),kv]) (by simp) rfl (fun i o q h1 h2=>?_) (fun i hi=>?_) ?_ (by simp) (by simp) (fun o ho=>?_) key
 ·have e1:At (nm [r]) [.sl 0 0 1 (some 1),kv]=[.sl r 0 1 (some 1),kv]:=by
   show [AV.sl r 0 1 (some 1),A2 _ kv]=_
   rw [Bv _ hkf]
  rw [e1] at this
  refine this.mono ?_
  rintro v s' ⟨rfl,rfl⟩
  refine ⟨rfl,?_⟩
  show Ac (D1 s [r] [B5 _ (.row 28 x.c)]) [B5 _ (.row 28 (EO x ks).c)]=_
  rw [Az hcf,Az hDc];rfl
 ·rcases i with _|i
  ·simp at h1 h2;subst h1 h2
   exact ⟨by rw [Az hcf];exact hr,AD hcf,rfl⟩
  ·simp at h1
 ·have:i=0:=by simpa using hi
  subst this;rfl
 ·show (true && (bd 1 kv && true))=true
  rw [Bz _ hkf];rfl
 ·simp at ho;rcases ho with rfl|rfl <;> rfl
end Go.AM
namespace Go.AM
attribute [local irreducible] W
open X
theorem Va {α:Type}(f:α→List AV) (w:Nat) (hw:∀ x,(f x).length=w):∀ (L:List α),(L.flatMap f).length=L.length*w
 | []=>by simp
 | x::L=>by rw [List.flatMap_cons,Zot,hw,Va f w hw L,Zo9,Nat.add_mul,Nat.one_mul,Nat.add_comm]
theorem Qz {α:Type}(f:α→List AV) (w:Nat) (hw:∀ x,(f x).length=w):∀ {L:List α}{i:Nat}(h:i<L.length),(L.flatMap f).drop (i*w)=f L[i]++(L.drop (i+1)).flatMap f
 | x::L,0,h=>by rw [Nat.zero_mul];rfl
 | x::L,i+1,h=>by
  have:=Qz f w hw (L:=L) (i:=i) (by simpa using h)
  rw [List.flatMap_cons,show (i+1)*w=(f x).length+i*w by rw [hw,Nat.add_mul,Nat.one_mul,Nat.add_comm],List.drop_append,Zpb (by omega),Nat.add_sub_cancel_left,this];rfl
def Db (L:List DB):List AV:=L.flatMap (fun d=>d.d.c)
theorem Wj (L:List DB):(Db L).length=L.length*4:=Va _ 4 (fun _=>rfl) L
variable {i:Nat}
theorem Zgj {L:List DB}(h:i<L.length):(Db L).drop (i*4)=L[i].d.c++Db (L.drop (i+1)):=Qz _ 4 (fun _=>rfl) h
theorem Zc5 {L:List Fd}(h:i<L.length):(Di L).drop (i*6)=L[i].c++Di (L.drop (i+1)):=Qz _ 6 (fun _=>rfl) h
theorem Zl9 (L:List Fd):Sl 6 L.length (Di L) (Gl L):=by
 cases L with
 | nil=>exact .inl ⟨rfl,rfl,rfl⟩
 | cons f L=>exact .inr (.inr ⟨none,rfl,PV _⟩)
def D8 (L:List Lv):Nat:=(L.filter Lv.sure).length
def Pre (L:List Lv):Prop:=∀ (k:Nat) (x y:Lv),L[k]?=some x→L[k+1]?=some y→y.sure=true→x.sure=true
variable {L:List Lv}
theorem Pre.tl {x:Lv}(h:Pre (x::L)):Pre L:=fun k a b ha hb=>h (k+1) a b (by simpa using ha) (by simpa using hb)
theorem Xx:∀ {L:List Lv}{x:Lv},Pre (x::L)→x.sure=false→D8 L=0
 | [],_,_,_=>rfl
 | y::L,x,h,hx=>by
  have hy:y.sure=false:=by
   cases hq:y.sure with
   | false=>rfl
   | true=>have:=h 0 x y rfl rfl hq;rw [hx] at this;cases this
  unfold D8
  rw [List.filter_cons_of_neg (by rw [hy];decide)]
  exact Xx h.tl hy
theorem U2:∀ {L:List Lv},Pre L→∀ (k:Nat) x,k<D8 L→L[k]?=some x→x.sure=true
 | [],_,k,x,hk,_=>by cases hk
 | y::L,h,k,x,hk,hx=>by
  cases hq:y.sure with
  | false=>
   unfold D8 at hk
   rw [List.filter_cons_of_neg (by rw [hq];decide)] at hk
   have:=Xx h hq
   unfold D8 at this
   omega
  | true=>
   cases k with
   | zero=>simp at hx;subst hx;exact hq
   | succ k=>
    unfold D8 at hk
    rw [List.filter_cons_of_pos (by rw [hq])] at hk
    exact U2 h.tl k x (by unfold D8;simpa using hk) (by simpa using hx)
theorem Zfs {r:Ring}(h:GoodR r):Pre r.l.live:=fun k x y hx hy hs=>by
 rcases (h.lv (k+1) y hy).2.2.2 hs with h0|⟨z,hz,hzs⟩
 ·omega
 ·rw [Nat.add_sub_cancel,hx] at hz
  cases hz;exact hzs
theorem ZK (h:i<L.length):D8 (L.take (i+1))=D8 (L.take i)+(if L[i].sure then 1 else 0):=by
 unfold D8
 rw [Zos h,List.filter_append,Zot]
 congr 1
 cases hq:L[i].sure with
 | false=>rw [List.filter_cons_of_neg (by rw [hq];decide)];rfl
 | true=>rw [List.filter_cons_of_pos (by rw [hq])];rfl
theorem Q9 (L:List Lv):D8 L≤L.length:=List.length_filter_le ..
theorem Zmk (L:List WR) (bs:List (List Nat)) (hL:∀ w ∈ L,0≤w.at_∧w.at_<bs.length) {p:Int}(hp:0≤p):(Fg bs L).getD p.toNat []=bs.getD p.toNat []∨∃ w ∈ L,w.at_=p∧(Fg bs L).getD p.toNat []=w.b:=by
 rw [Rm L bs hp hL]
 cases hq:BW p L.reverse with
 | none=>exact .inl rfl
 | some b=>
  have hmem:∀ {L:List WR}{b:List Nat},BW p L=some b→∃ w ∈ L,w.at_=p∧w.b=b:=fun {L}=>by
   induction L with
   | nil=>intro b hb;cases hb
   | cons w L ih=>
    intro b hb
    have hb:(if w.at_=p then some w.b else BW p L)=some b:=hb
    split at hb
    ·rename_i h;cases hb;exact ⟨w,by simp,h,rfl⟩
    ·obtain ⟨v,hv,e⟩:=ih hb
     exact ⟨v,by simp [hv],e⟩
  obtain ⟨w,hw,e1,e2⟩:=hmem hq
  exact .inr ⟨w,List.mem_reverse.1 hw,e1,e2.symm⟩
theorem Wm {lg:Int}{j:DK}(hR:RDK lg j) (ks:List Bool):Cut j (EO j ks):=by
 have hok:=RK hR.ok (mksB ks j.ws.length)
 have hdk:=Zkh hR.dsk hR.dead (mksB ks j.ws.length)
 have hl:=hR.ok.a.bs.length
 obtain ⟨d1,d2,d3,d4⟩:=dskB_iff.1 hR.dsk
 refine ⟨J6 hok,Rj hok hdk,O7 _,rfl,rfl,fun p hp=>?_⟩
 show (Fg j.bs (Bj j.ws _)).getD p.toNat []=_∨_
 rcases Zmk (Bj j.ws (mksB ks j.ws.length)) j.bs (fun w hw=>by
  have:=d3 w (IB hw)
  unfold Ch at this
  simp only [Zp0,Zpl] at this
  omega) hp with h|⟨w,hw,h1,h2⟩
 ·exact .inl h
 ·exact .inr ⟨w,IB hw,h1,h2⟩
end Go.AM
namespace Go.AM
attribute [local irreducible] W
open X
structure CLX where
 c:Cfg
 ag:Int
 sq:Int
 tl:Int
 us:Int
 v:AV
 n:Nat
 cs:List AV
structure CLX.ok (x:CLX):Prop where
 c:x.c.ok
 v:Sl 6 x.n x.cs x.v
 n:1000<x.n
def CLX.args (x:CLX):List AV:=[x.c.v,.agg [.int .u32 x.ag,.int .u32 x.sq,.int .i64 x.tl,.int .i64 x.us,x.v]]
def lchkX:Fam CLX:=⟨CLX.ok,CLX.args,fun _=>.int .i64 8,fun _ _ _ _ _=>rfl⟩
variable {e:Env}
theorem Zfg (hE:EM P e) (h78:Con e 22 cfgF.O) (h79:Inl e 23 Xj [.tmp 2]) (h38:Con e 51 stripesF.O) (h53:Con e 52 needF.O) (h122:Inl e 53 OC [.tmp 2]):OvOk P 7 lchkX.O:=by
 refine Bk g7.b ?_
 intro x hx
 have hvf:=hx.v.hf
 refine ⟨by show (true && ((true && (true && (true && (true && (AM.hf x.v && true))))) && true))=true;rw [hvf];rfl,rfl,C.of_G hE g7 ?_⟩
 have hout:lchkX.out x=.int .i64 8:=rfl
 rw [hout]
 by_cases hM:x.c.may
 ·have hlog:=Eo hM
  have hM':=hM
  unfold Cfg.may at hM'
  have hcfg:∀ (K:AV→St→Prop) (s:St),K (.int .i64 0) s→ESc e 22 [x.c.v] s K:=fun K s hk=>ESc.fam cfgF h78 x.c hx.c (by simp [cfgF,hM]) hk
  have hst:∀ (K:AV→St→Prop) (s:St),K (.tup [.int .i64 (x.c.chunk*x.c.rows),.int .i64 0]) s→ESc e 51 [x.c.v] s K:=fun K s hk=>ESc.fam stripesF h38 x.c hx.c (by simp [stripesF,hM]) hk
  have hnd:∀ (K:AV→St→Prop) (s:St),K (.tup [.int .i64 (x.c.members+1),.int .i64 0]) s→ESc e 52 [x.c.v] s K:=fun K s hk=>ESc.fam needF h53 x.c hx.c (by simp [needF,hM]) hk
  obtain ⟨⟨c1,c2,c3,c4,c5,c6⟩,ag,sq,tl,us,v,n,cs⟩:=x
  obtain ⟨hx1,hv,hn⟩:=hx
  dsimp only at hlog hM' hv hn
  conv=>whnf
  refine hcfg _ _ ?_;conv=>whnf
  repeat' (first|((refine w6 rfl rfl ?_ ?_) <;> intro _ <;> first|(exfalso;omega)|(conv=>whnf))|fail)
  refine ESc.inl h79 ?_;conv=>whnf
  refine hst _ _ ?_;conv=>whnf
  refine hnd _ _ ?_;conv=>whnf
  refine ESc.inl h122 (N7 e _ ag _ ?_)
  cases hA:CO ag <;> conv=>whnf
  ·repeat' (first|(refine w13 rfl ?_;conv=>whnf)|fail)
   exact .plain _ rfl
  repeat' (first|(refine w12 rfl ?_;conv=>whnf)|fail)
  refine ESc.inl h122 (N7 e _ sq _ ?_)
  cases hS:CO sq <;> conv=>whnf
  ·repeat' (first|(refine w13 rfl ?_;conv=>whnf)|fail)
   exact .plain _ rfl
  repeat' (first|(refine Af rfl hv ?_;conv=>whnf)|((first|refine w1 rfl rfl ?_ ?_|refine w3 rfl rfl ?_ ?_|refine w4 rfl rfl ?_ ?_) <;> intro _ <;> first|(exfalso;omega)|(conv=>whnf))|((first|refine w12 rfl ?_|refine w13 rfl ?_);conv=>whnf)|fail)
  all_goals first|exact .plain _ rfl|(exfalso;dsimp only at *;omega)
 ·conv=>whnf
  refine ESc.fam cfgF h78 x.c hx.c (u:=.int .i64 8) (by simp [cfgF,hM]) ?_;conv=>whnf
  repeat' (first|((refine w6 rfl rfl ?_ ?_) <;> intro _ <;> first|(exfalso;omega)|(conv=>whnf))|fail)
  exact .plain _ rfl
def Lc (args:List AV) (u:AV):Prop:=(∃ x:CL,lchkF.ok x∧args=lchkF.enc x∧u=lchkF.out x)∨(∃ x:CLX,lchkX.ok x∧args=lchkX.enc x∧u=lchkX.out x)
theorem Zfh (h1:OvOk P 7 lchkF.O) (h2:OvOk P 7 lchkX.O):OvOk P 7 (Ej Lc):=by
 have key:∀ {α:Type}(F:Fam α) (x:α),F.ok x→∀ s,F.O (F.enc x) s=.ok (F.out x) s:=fun F x hx s=>by
  have h:∃ u,∃ y,F.ok y∧F.enc x=F.enc y∧u=F.out y:=⟨_,x,hx,rfl,rfl⟩
  unfold Fam.O Ej
  rw [dif_pos h]
  obtain ⟨y,hy,e1,e2⟩:=Zpu h
  rw [e2,← F.inj x y hx hy e1]
 refine V8 h1.1 fun args u hR s=>?_
 rcases hR with ⟨x,hx,rfl,rfl⟩|⟨x,hx,rfl,rfl⟩
 ·exact h1.2 _ s _ _ (key lchkF x hx s)
 ·exact h2.2 _ s _ _ (key lchkX x hx s)
variable {x:CL}
theorem UN {y:CLX}(hx:x.ok) (hy:y.ok) (h:x.args=y.args):False:=by
 have h1:=(Zor (Zor h).2).1
 have h2:x.v=y.v:=by
  have:=AV.agg.inj h1
  injection this with _ this
  injection this with _ this
  injection this with _ this
  injection this with _ this
  injection this
 have hn:=hy.n
 have hl:=hx.l.len
 have hv:Sl 6 x.l.live.length (Ai x.l.live) x.v:=hx.v
 rcases hv with ⟨e,e1,_⟩|⟨e,e1,_⟩|⟨c,e,_⟩ <;> rcases hy.v with ⟨f,f1,_⟩|⟨f,f1,_⟩|⟨d,f,_⟩ <;> rw [h2,f] at e <;> first|omega|(cases e;done)|skip
 injection e with e _ _
 omega
variable {K:AV→St→Prop}{s:St}
theorem Zaf (h:Con e 7 (Ej Lc)) (hx:x.ok) (hk:K (.int .i64 (if x.good then 0 else 8)) s):ESc e 7 x.args s K:=by
 refine ESc.rel h ⟨_,.inl ⟨x,hx,rfl,rfl⟩⟩ ?_
 rintro u (⟨y,hy,e1,rfl⟩|⟨y,hy,e1,rfl⟩)
 ·rw [← CL.inja hx hy e1];exact hk
 ·exact (UN hx hy e1).elim
theorem Zcj (h:Con e 7 (Ej Lc)) {x:CLX}(hx:x.ok) (hk:K (.int .i64 8) s):ESc e 7 x.args s K:=by
 refine ESc.rel h ⟨_,.inr ⟨x,hx,rfl,rfl⟩⟩ ?_
 rintro u (⟨y,hy,e1,rfl⟩|⟨y,hy,e1,rfl⟩)
 ·exact (UN hy hx e1.symm).elim
 ·exact hk
end Go.AM
namespace Go.AM
attribute [local irreducible] W
open X
def Ci (l:List Nat):Nat:=(l.map fun n=>8+min n 100000).sum
theorem Qy (l:List Nat) (n:Nat):Ci (l++[n])=Ci l+(8+min n 100000):=by unfold Ci;simp
theorem O5:∀ (l:List Nat),Ci l≤100008*l.length
 | []=>Zo0 _
 | n::l=>by
  have:=O5 l
  show 8+min n 100000+Ci l≤100008*(l.length+1)
  omega
theorem QK:∀ {l:List Nat}{n:Nat},n ∈ l→min n 100000≤Ci l
 | [],_,h=>by cases h
 | m::l,n,h=>by
  show min n 100000≤8+min m 100000+Ci l
  rcases Zpp.1 h with rfl|h
  ·omega
  ·have:=QK h;omega
def DK.bl (x:DK):List Nat:=x.bs.map List.length
def DK.wl (x:DK):List Nat:=x.ws.map fun w=>w.b.length
def IM (x:DK):Bool:=decide (300<x.us.length) || (decide (1100<x.ws.length) || decide (60000<Ci (x.bl.take 400)+Ci (x.wl.take 1200)))
theorem Zir {x:DK}(h:x.any) (hg:IM x=false):x.ok:=by
 unfold IM at hg
 simp only [Zp0,Zpl] at hg
 obtain ⟨h1,h2,h3⟩:=hg
 have hb:=h.bs.length
 have hbl:x.bl.take 400=x.bl:=Zoo (by unfold DK.bl;rw [Zom];omega)
 have hwl:x.wl.take 1200=x.wl:=Zoo (by unfold DK.wl;rw [Zom];omega)
 rw [hbl,hwl] at h3
 refine ⟨h,by omega,by omega,fun b hb=>?_,fun w hw=>?_⟩
 ·have:=QK (l:=x.bl) (n:=b.length) (List.mem_map_of_mem hb);omega
 ·have:=QK (l:=x.wl) (n:=w.b.length) (Zpf.2 ⟨w,hw,rfl⟩);omega
def grt4F:Fam DK:=⟨DK.any,fun x=>[x.v],fun x=>.bool (IM x),fun x y hx hy h=>by rw [DK.inj hx hy (Zor h).1]⟩
theorem Zfr {e:Env}(hE:EM P e):OvOk P 5 grt4F.O:=by
 refine Bk g5.b fun x hx=>?_
 refine ⟨by show (AM.hf x.v && true)=true;rw [DK.hf hx];rfl,rfl,C.of_G hE g5 ?_⟩
 have fin:∀ s (b:Bool),b=IM x→Frz s (.bool b) (grt4F.out x):=by rintro s b rfl;exact .plain _ rfl
 have hbl:=hx.bl
 have hwl:=hx.wl
 have hbs:=hx.bs
 have hws:=hx.ws
 have hbn:=hx.bs.length
 obtain ⟨O,hO⟩:∃ O,O=grt4F.out x:=⟨_,rfl⟩
 rw [← hO] at fin ⊢
 clear hO
 obtain ⟨BL,hBL⟩:∃ L,L=x.bl:=⟨_,rfl⟩
 obtain ⟨WL,hWL⟩:∃ L,L=x.wl:=⟨_,rfl⟩
 have hBn:BL.length=x.bs.length:=by rw [hBL];unfold DK.bl;rw [Zom]
 have hWn:WL.length=x.ws.length:=by rw [hWL];unfold DK.wl;rw [Zom]
 have hBg:∀ i (h:i<x.bs.length) (h':i<BL.length),BL[i]=x.bs[i].length:=fun i h h'=>by
  have hq:x.bl[i]?=some x.bs[i].length:=by unfold DK.bl;rw [Zpe,Zof h];rfl
  rw [← hBL,Zof h'] at hq;exact Zpn hq
 have hWg:∀ i (h:i<x.ws.length) (h':i<WL.length),WL[i]=x.ws[i].b.length:=fun i h h'=>by
  have hq:x.wl[i]?=some x.ws[i].b.length:=by unfold DK.wl;rw [Zpe,Zof h];rfl
  rw [← hWL,Zof h'] at hq;exact Zpn hq
 unfold IM at fin
 rw [← hBL,← hWL] at fin
 clear hBL hWL hx
 obtain ⟨bv,us,bs,wv,ws,dd⟩:=x
 dsimp only at hbl hwl hbs hws hbn hBn hWn hBg hWg fin
 have hdf:hfs [bv,wv,.bool dd]=true:=by
  show (AM.hf bv && (AM.hf wv && (true && true)))=true
  rw [hbl.hf,hwl.hf];rfl
 show VW P e 0 (match a5 with|.mk c _=>c) (Ah [.agg [bv,wv,.bool dd]] 0 .lf) St0 none [] _
 conv=>whnf
 refine Ce (α:=Nat) (fun i=>[(1,.ptr 0 0),(3,.int .i64 (Ci (BL.take i):Nat)),(4,.int .i64 (i:Int))]) (fun _=>[.row 28 [bv,wv,.bool dd]]) (fun i=>us.length-i) (fun i=>i≤us.length∧i≤400) 0 ⟨Zoy _,Zoy _⟩
  (Abs.tells (rs:=[0]) .a) ?_
 rintro i ⟨hi,hi4⟩
 refine A9 hE ?_
 have hg1:=O5 (BL.take i)
 rw [Zo5] at hg1
 by_cases hlt:i<us.length∧i<400
 ·obtain ⟨hl1,hl2⟩:=hlt
  conv=>whnf
  refine Af rfl hbl ?_;conv=>whnf
  refine Ag (a:=(i:Int)) (b:=(us.length:Int)) rfl rfl (fun _=>?_) (fun h=>by omega);conv=>whnf
  refine Ag (a:=(i:Int)) (b:=400) rfl rfl (fun _=>?_) (fun h=>by omega);conv=>whnf
  refine A8 rfl hbl rfl hl1 ?_;conv=>whnf
  obtain ⟨b,hb1,hb2⟩:=hbs.get (Zof hl1)
  have hlb:i<bs.length:=by omega
  have hLB:i<BL.length:=by omega
  have hbe:bs[i]=b:=by rw [Zof hlb] at hb1;exact Zpn hb1
  have hsucc:((Ci (BL.take (i+1)):Nat):Int)=(Ci (BL.take i):Int)+(8+((min b.length 100000:Nat):Int)):=by
   rw [Zos hLB,Qy,hBg i hlb hLB,hbe];omega
  have hug:us[i]?=some us[i]:=Zof hl1
  revert hb2 hug
  generalize us[i]=u
  intro hb2 hug
  refine EHead.mk (v:=u) (by rw [Zpi,Zoq,Zpo];exact hug) ?_;conv=>whnf
  refine Af rfl hb2.1 ?_;conv=>whnf
  refine EPrim.min2 (a:=(b.length:Int)) (b:=100000) rfl ?_
  rw [show min (b.length:Int) 100000=((min b.length 100000:Nat):Int) by omega]
  conv=>whnf
  repeat' (first|((first|refine w7 rfl rfl (by omega) ?_|refine ⟨rfl,?_⟩);conv=>whnf)|fail)
  exact ⟨i+1,⟨hl1,hl2⟩,by omega,Abs.tells (rs:=[0]) ⟨by decide,⟨r9,⟨rfl,by rw [hsucc];rfl⟩,r9,trivial⟩,⟨o9,trivial⟩⟩⟩
 ·by_cases hl1:i<us.length
  ·conv=>whnf
   refine Af rfl hbl ?_;conv=>whnf
   (refine Ag (a:=(i:Int)) (b:=(us.length:Int)) rfl rfl (fun _=>?_) (fun h=>by omega);(conv=>whnf);refine Ag (a:=(i:Int)) (b:=400) rfl rfl (fun _=>by omega) (fun _=>?_))
   have hBt:BL.take i=BL.take 400:=by
    rcases (show i=us.length∨i=400 by omega) with h|h
    ·rw [h,Zoo (by omega),Zoo (by omega)]
    ·rw [h]
   rw [hBt] at hg1 ⊢
   conv=>whnf
   refine Ce (α:=Nat) (fun j=>[(1,.ptr 0 0),(3,.int .i64 ((Ci (BL.take 400):Nat)+(Ci (WL.take j):Nat))),(5,.int .i64 (j:Int))]) (fun _=>[.row 28 [bv,wv,.bool dd]]) (fun j=>ws.length-j) (fun j=>j≤ws.length∧j≤1200) 0 ⟨Zoy _,Zoy _⟩
    (Abs.tells (rs:=[0]) ⟨by decide,⟨r9,⟨rfl,by show _=some (AV.int .i64 ((Ci (BL.take 400):Int)+0));rw [Int.add_zero];rfl⟩,r9,trivial⟩,⟨o9,trivial⟩⟩) ?_
   rintro j ⟨hj,hj4⟩
   refine A9 hE ?_
   have hg2:=O5 (WL.take j)
   rw [Zo5] at hg2
   by_cases hjlt:j<ws.length∧j<1200
   ·obtain ⟨hj1,hj2⟩:=hjlt
    have hd:=Io hj1
    have hwa:=hws _ (Zpg hj1)
    have hLW:j<WL.length:=by omega
    have hsucc:((Ci (WL.take (j+1)):Nat):Int)=(Ci (WL.take j):Int)+(8+((min ws[j].b.length 100000:Nat):Int)):=by
     rw [Zos hLW,Qy,hWg j hj1 hLW];omega
    have hall:=And.intro hd (And.intro hwa hsucc)
    clear hd hwa hsucc
    revert hall
    generalize ws[j]=w
    obtain ⟨wa,wu,wb⟩:=w
    rintro ⟨hd,⟨hwa,hwb⟩,hsucc⟩
    have hd:(Ad ws).drop (j*2)=[.int .i64 wa,wu]++Ad (ws.drop (j+1)):=hd
    dsimp only at hwa hwb hsucc
    have hsucc':((Ci (BL.take 400):Nat):Int)+(Ci (WL.take (j+1)):Int)=((Ci (BL.take 400):Nat):Int)+(Ci (WL.take j):Int)+(8+((min wb.length 100000:Nat):Int)):=by rw [hsucc];omega
    conv=>whnf
    refine Af rfl hwl ?_;conv=>whnf
    refine Ag (a:=(j:Int)) (b:=(ws.length:Int)) rfl rfl (fun _=>?_) (fun h=>by omega);conv=>whnf
    refine Ag (a:=(j:Int)) (b:=1200) rfl rfl (fun _=>?_) (fun h=>by omega);conv=>whnf
    refine A8 rfl hwl rfl hj1 ?_
    rw [hd]
    conv=>whnf
    repeat' (first|(refine EHead.mk (v:=wu) rfl ?_;conv=>whnf)|(refine Af rfl hwb.1 ?_;conv=>whnf)|fail)
    refine EPrim.min2 (a:=(wb.length:Int)) (b:=100000) rfl ?_
    rw [show min (wb.length:Int) 100000=((min wb.length 100000:Nat):Int) by omega]
    conv=>whnf
    repeat' (first|((first|refine w7 rfl rfl (by omega) ?_|refine ⟨rfl,?_⟩);conv=>whnf)|fail)
    exact ⟨j+1,⟨hj1,hj2⟩,by omega,Abs.tells (rs:=[0]) ⟨by decide,⟨r9,⟨rfl,by rw [hsucc'];rfl⟩,r9,trivial⟩,⟨o9,trivial⟩⟩⟩
   ·have hWt:WL.take j=WL.take 1200:=by
     rcases (show j=ws.length∨j=1200 by omega) with h|h
     ·rw [h,Zoo (by omega),Zoo (by omega)]
     ·rw [h]
    rw [hWt] at hg2 ⊢
    by_cases hj1:j<ws.length
    ·conv=>whnf
     refine Af rfl hwl ?_;conv=>whnf
     (refine Ag (a:=(j:Int)) (b:=(ws.length:Int)) rfl rfl (fun _=>?_) (fun h=>by omega);(conv=>whnf);refine Ag (a:=(j:Int)) (b:=1200) rfl rfl (fun _=>by omega) (fun _=>?_))
     conv=>whnf
     repeat' (first|(refine Af rfl hbl ?_;conv=>whnf)|(refine Af rfl hwl ?_;conv=>whnf)|((refine w3 rfl rfl ?_ ?_) <;> intro _ <;> first|(exfalso;omega)|(conv=>whnf))|fail)
     all_goals exact fin _ _ (by symm;simp only [Zp5,Zp0,Zpc,Zpl];omega)
    ·conv=>whnf
     refine Af rfl hwl ?_;conv=>whnf
     (refine Ag (a:=(j:Int)) (b:=(ws.length:Int)) rfl rfl (fun _=>by omega) (fun _=>?_))
     conv=>whnf
     repeat' (first|(refine Af rfl hbl ?_;conv=>whnf)|(refine Af rfl hwl ?_;conv=>whnf)|((refine w3 rfl rfl ?_ ?_) <;> intro _ <;> first|(exfalso;omega)|(conv=>whnf))|fail)
     all_goals exact fin _ _ (by symm;simp only [Zp5,Zp0,Zpc,Zpl];omega)
  ·conv=>whnf
   refine Af rfl hbl ?_;conv=>whnf
   (refine Ag (a:=(i:Int)) (b:=(us.length:Int)) rfl rfl (fun _=>by omega) (fun _=>?_))
   have hBt:BL.take i=BL.take 400:=by
    rcases (show i=us.length∨i=400 by omega) with h|h
    ·rw [h,Zoo (by omega),Zoo (by omega)]
    ·rw [h]
   rw [hBt] at hg1 ⊢
   conv=>whnf
   refine Ce (α:=Nat) (fun j=>[(1,.ptr 0 0),(3,.int .i64 ((Ci (BL.take 400):Nat)+(Ci (WL.take j):Nat))),(5,.int .i64 (j:Int))]) (fun _=>[.row 28 [bv,wv,.bool dd]]) (fun j=>ws.length-j) (fun j=>j≤ws.length∧j≤1200) 0 ⟨Zoy _,Zoy _⟩
    (Abs.tells (rs:=[0]) ⟨by decide,⟨r9,⟨rfl,by show _=some (AV.int .i64 ((Ci (BL.take 400):Int)+0));rw [Int.add_zero];rfl⟩,r9,trivial⟩,⟨o9,trivial⟩⟩) ?_
   rintro j ⟨hj,hj4⟩
   refine A9 hE ?_
   have hg2:=O5 (WL.take j)
   rw [Zo5] at hg2
   by_cases hjlt:j<ws.length∧j<1200
   ·obtain ⟨hj1,hj2⟩:=hjlt
    have hd:=Io hj1
    have hwa:=hws _ (Zpg hj1)
    have hLW:j<WL.length:=by omega
    have hsucc:((Ci (WL.take (j+1)):Nat):Int)=(Ci (WL.take j):Int)+(8+((min ws[j].b.length 100000:Nat):Int)):=by
     rw [Zos hLW,Qy,hWg j hj1 hLW];omega
    have hall:=And.intro hd (And.intro hwa hsucc)
    clear hd hwa hsucc
    revert hall
    generalize ws[j]=w
    obtain ⟨wa,wu,wb⟩:=w
    rintro ⟨hd,⟨hwa,hwb⟩,hsucc⟩
    have hd:(Ad ws).drop (j*2)=[.int .i64 wa,wu]++Ad (ws.drop (j+1)):=hd
    dsimp only at hwa hwb hsucc
    have hsucc':((Ci (BL.take 400):Nat):Int)+(Ci (WL.take (j+1)):Int)=((Ci (BL.take 400):Nat):Int)+(Ci (WL.take j):Int)+(8+((min wb.length 100000:Nat):Int)):=by rw [hsucc];omega
    conv=>whnf
    refine Af rfl hwl ?_;conv=>whnf
    refine Ag (a:=(j:Int)) (b:=(ws.length:Int)) rfl rfl (fun _=>?_) (fun h=>by omega);conv=>whnf
    refine Ag (a:=(j:Int)) (b:=1200) rfl rfl (fun _=>?_) (fun h=>by omega);conv=>whnf
    refine A8 rfl hwl rfl hj1 ?_
    rw [hd]
    conv=>whnf
    repeat' (first|(refine EHead.mk (v:=wu) rfl ?_;conv=>whnf)|(refine Af rfl hwb.1 ?_;conv=>whnf)|fail)
    refine EPrim.min2 (a:=(wb.length:Int)) (b:=100000) rfl ?_
    rw [show min (wb.length:Int) 100000=((min wb.length 100000:Nat):Int) by omega]
    conv=>whnf
    repeat' (first|((first|refine w7 rfl rfl (by omega) ?_|refine ⟨rfl,?_⟩);conv=>whnf)|fail)
    exact ⟨j+1,⟨hj1,hj2⟩,by omega,Abs.tells (rs:=[0]) ⟨by decide,⟨r9,⟨rfl,by rw [hsucc'];rfl⟩,r9,trivial⟩,⟨o9,trivial⟩⟩⟩
   ·have hWt:WL.take j=WL.take 1200:=by
     rcases (show j=ws.length∨j=1200 by omega) with h|h
     ·rw [h,Zoo (by omega),Zoo (by omega)]
     ·rw [h]
    rw [hWt] at hg2 ⊢
    by_cases hj1:j<ws.length
    ·conv=>whnf
     refine Af rfl hwl ?_;conv=>whnf
     (refine Ag (a:=(j:Int)) (b:=(ws.length:Int)) rfl rfl (fun _=>?_) (fun h=>by omega);(conv=>whnf);refine Ag (a:=(j:Int)) (b:=1200) rfl rfl (fun _=>by omega) (fun _=>?_))
     conv=>whnf
     repeat' (first|(refine Af rfl hbl ?_;conv=>whnf)|(refine Af rfl hwl ?_;conv=>whnf)|((refine w3 rfl rfl ?_ ?_) <;> intro _ <;> first|(exfalso;omega)|(conv=>whnf))|fail)
     all_goals exact fin _ _ (by symm;simp only [Zp5,Zp0,Zpc,Zpl];omega)
    ·conv=>whnf
     refine Af rfl hwl ?_;conv=>whnf
     (refine Ag (a:=(j:Int)) (b:=(ws.length:Int)) rfl rfl (fun _=>by omega) (fun _=>?_))
     conv=>whnf
     repeat' (first|(refine Af rfl hbl ?_;conv=>whnf)|(refine Af rfl hwl ?_;conv=>whnf)|((refine w3 rfl rfl ?_ ?_) <;> intro _ <;> first|(exfalso;omega)|(conv=>whnf))|fail)
     all_goals exact fin _ _ (by symm;simp only [Zp5,Zp0,Zpc,Zpl];omega)
end Go.AM
namespace Go.AM
attribute [local irreducible] W
open X
def Rr:AC:=match a3 with|.mk c _=>c
def La:AC:=IS 10 Rr
variable {n:Nat}{v:AV}
theorem ZE {es h:Nat}{l:List AV}{hi:AO}{x:AO}{t:AT}{s:St}{k:AV→St→Prop}(hx:ev x t=.some v) (hs:Sl es n l v) (hhi:E5 (ev hi t)=.n h) (hn:h≤n) (hk:∀ v',Sl es h (l.take (h*es)) v'→k v' s):EPrim (.slc es x none (some hi) none) t s k:=by
 rcases hs with ⟨rfl,rfl,rfl⟩|⟨rfl,rfl,rfl⟩|⟨c,rfl,hl⟩
 ·have:h=0:=by omega
  subst this
  refine EPrim.mk (v:=.nils) (s':=s) (fun e rec=>?_) (hk _ (.inl ⟨rfl,rfl,by simp⟩))
  show wth x t _=_;unfold wth;rw [hx]
  show (NR.rec .fail (fun h=>gd (Nat.beq (0+h+0) 0) (.ok .nils s)) (E5 (ev hi t)):RV)=_
  rw [hhi];rfl
 ·have:h=0:=by omega
  subst this
  refine EPrim.mk (v:=.es) (s':=s) (fun e rec=>?_) (hk _ (.inr (.inl ⟨rfl,rfl,by simp⟩)))
  show wth x t _=_;unfold wth;rw [hx]
  show (NR.rec .fail (fun h=>gd (Nat.beq (0+h+0) 0) (.ok .es s)) (E5 (ev hi t)):RV)=_
  rw [hhi];rfl
 ·have key:∀ e rec,AH (.slc es x none (some hi) none) e rec t s=gd (Nat.ble 0 h && Nat.ble h n) (Bool.rec (.ok .es s) (Option.rec .fail (fun cs'=>.ok (.fz (h-0) (Option.rec none (fun c=>some (c-0)) c) cs') s) (Bf (Nat.mul (h-0) es) (Dr (Nat.mul 0 es) l))) (Nat.blt 0 n)):=fun e rec=>by
   show wth x t _=_;unfold wth;rw [hx]
   show (NR.rec .fail (fun h=>MM es n c l 0 h s) (E5 (ev hi t)):RV)=_
   rw [hhi];rfl
  rw [Zo6 (Zoy h),Zo6 hn] at key
  have hle:h*es≤l.length:=by rw [hl];exact Nat.mul_le_mul_right _ hn
  rcases Nat.eq_zero_or_pos n with rfl|hp
  ·have:h=0:=by omega
   subst this
   exact EPrim.mk (v:=.es) (s':=s) (fun e rec=>by rw [key];rfl) (hk _ (.inr (.inl ⟨rfl,rfl,by simp⟩)))
  ·refine EPrim.mk (v:=.fz h (Option.rec none (fun c=>some (c-0)) c) (l.take (h*es))) (s':=s) (fun e rec=>?_) (hk _ (.inr (.inr ⟨_,rfl,by rw [Zo5];omega⟩)))
   rw [key,show Nat.blt 0 n=true by rw [Zpx];exact hp,show Nat.mul 0 es=0 from Nat.zero_mul es]
   show (Option.rec .fail _ (Bf (h*es) l):RV)=_
   rw [EU hle];rfl
structure SAIn (e:Env):Prop where
 h59:Con e 4 M9
 h21:Con e 5 grt4F.O
 h45:Con e 6 longF.O
 h33:Con e 7 (Ej Lc)
 h908:Con e 8 (relS Lj)
 h84:Con e 9 wrF.O
 h92:Con e 10 fuaF.O
 h911:Con e 11 (relS Lb)
 h912:Con e 12 (relS IP)
 h913:Con e 13 (relS M2)
 h27:Con e 14 allF.O
 h915:Con e 15 (relS M4)
 h25:Con e 16 sameF.O
def JC (kv dv:AV) (n:Nat):List (Nat×AV):=[(4,kv),(5,.ptr 0 0),(6,.ptr 1 0),(7,.ptr 2 0),(11,.bool true),(12,.sl 3 0 n none),(17,dv)]
def MB (c:Cfg) (j:DK) (l:Log) (v:AV) (U:List AV):List AObj:=[.row 24 c.c,.row 28 j.c,.row 31 (l.c v),.row 41 U]
def Sd (c:Cfg) (j:DK) (l:Log) (v:AV) (U:List AV) (X:DK):List AObj:=[.row 24 c.c,.row 28 j.c,.row 31 (l.c v),.row 41 U,.row 28 X.c]
theorem Zlc {e:Env}(hE:EM P e) (hI:SAIn e) {c:Cfg}{j:DK}{l:Log}{kv dv:AV}{U:List AV}{ks:List Bool}(hR:RDK c.log j) (hv:AM.hf v=true) (hU:hfs U=true) (hkv:Sl 1 ks.length (BK ks) kv) (hdv:AM.hf dv=true) {Q:EQ}
 (hk:∀ ks':List Bool,W P 0 none (IS 3 La) (Am ((25,.sl 4 0 1 none)::JC kv dv n)) (Ac St0 (Sd c j l v U (EO j ks'))) [] Q):
 W P 0 none La (Am (JC kv dv n)) (Ac St0 (MB c j l v U)) [] Q:=by
 have hWD:WD j:=⟨hR.ok,hR.dsk⟩
 have hjf:hfs j.c=true:=CZ hR.ok.a.wl hR.ok.a.bl
 have hlf:hfs (l.c v)=true:=FQ hv
 have hwn:=hR.ok.m
 have hwt:=fun (s:St) (K:AV→St→Prop) (r:Nat) (hr:s.get r=some (.row 28 j.c))=>Vu (K:=K) hI.h912 hWD hr
 obtain ⟨h,hh⟩:∃ h,h=min ks.length j.ws.length:=⟨_,rfl⟩
 have hcr:=fun (kv':AV) (hkv':Sl 1 (ks.take h).length (BK (ks.take h)) kv') (s:St) (K:AV→St→Prop) (r:Nat) (hr:s.get r=some (.row 28 j.c))=>Zdb (K:=K) hI.h913 hWD hR.dead (ks:=ks.take h) (by rw [Zo5];omega) hkv' hr
 have hXf:hfs (EO j (ks.take h)).c=true:=by
  have:=(Wm hR (ks.take h)).ok
  exact CZ this.a.wl this.a.bl
 have hk:=hk (ks.take h)
 generalize EO j (ks.take h)=X at *
 refine Av hE ?_
 obtain ⟨jb,ju,js,jw,jl,jd⟩:=j
 conv=>whnf
 refine hwt _ _ 4 rfl ?_;conv=>whnf
 skip
 refine Av hE ?_;conv=>whnf
 refine Af rfl hkv ?_;conv=>whnf
 refine EPrim.max2 (q:=.i64) (a:=(jl.length:Int)) (b:=0) rfl ?_;conv=>whnf
 refine EPrim.min2 (q:=.i64) (a:=(ks.length:Int)) (b:=max (jl.length:Int) 0) rfl ?_
 rw [show min (ks.length:Int) (max (jl.length:Int) 0)=(h:Int) by rw [hh];dsimp only;omega]
 conv=>whnf
 refine ZE rfl hkv rfl (by rw [hh];exact Nat.min_le_left _ _) (fun kv' hkv'=>?_)
 have hkv2:Sl 1 (ks.take h).length (BK (ks.take h)) kv':=by
  have e1:(ks.take h).length=h:=by rw [Zo5,hh];dsimp only;omega
  have e2:BK (ks.take h)=(BK ks).take (h*1):=by rw [Zpi];unfold BK;rw [List.map_take]
  rw [e1,e2];exact hkv'
 conv=>whnf
 refine hcr kv' hkv2 _ _ 5 rfl ?_;conv=>whnf
 skip
 refine Av hE ?_;conv=>whnf
 repeat' (first|(refine DL rfl ?_;conv=>whnf)|((refine w6 rfl rfl ?_ ?_) <;> intro _ <;> first|(exfalso;omega)|(conv=>whnf))|fail)
 refine W.tells (Abs.tells (tl:=(25,.sl 4 0 1 none)::JC kv dv n) (os:=Sd c ⟨jb,ju,js,jw,jl,jd⟩ l v U X) (rs:=[0,1,2,3,6]) ⟨by decide,⟨r9,t9 hkv.hf,r9,r9,r9,r9,r9,t9,trivial⟩,⟨r9,o9,o9,o9,o9,trivial⟩⟩) hk
end Go.AM
namespace Go.AM
attribute [local irreducible] W
open X
def tlT1 (dv fv:AV) (q i:Nat):List (Nat×AV):=[(7,.ptr 0 0),(11,.bool true),(17,dv),(28,fv),(30,.int .i64 (q:Int)),(31,.int .i64 (i:Int))]
def tlT2 (dv fv:AV) (a i:Nat):List (Nat×AV):=[(7,.ptr 0 0),(11,.bool true),(17,dv),(28,fv),(32,.int .i64 (a:Int)),(33,.int .i64 (i:Int))]
theorem Zgy {e:Env}(hE:EM P e) {ag sq tl us:Int}{L:List Lv}{v dv:AV}{F:List Fd}{ds:List DB}(hv:LSl L v) (hl1:L.length≤1000) (hdv:Sl 4 ds.length (Db ds) dv) (hdl:ds.length≤100000) (hle:L.length≤ds.length) (hS:D8 L≤F.length) (hF:F.length≤L.length)
 (hf:∀ (j:Nat) f,F[j]?=some f→∃ (y:DB) (x:Lv),L[j]?=some x∧ds[ds.length-L.length+j]?=some y∧f.n.seq=x.seq∧f.n.age=ag∧(∀ (K:AV→St→Prop) (s:St),K (.bool true) s→ESc e 16 [.agg [.int .i64 f.n.stripe,F1 f.y.S,Dx f.y.S,Be f.y.p],y.d.v] s K)):
 W P 0 none (IS 6 La) (Am [(7,.ptr 0 0),(11,.bool true),(17,dv),(28,Gl F)]) (Ac St0 [.row 31 [.int .u32 ag,.int .u32 sq,.int .i64 tl,.int .i64 us,v]]) [] (Bx [.tmp 10] (fun u s=>u=.bool true)):=by
 have hls:=Zl9 F
 obtain ⟨fv,hfv⟩:∃ fv,fv=Gl F:=⟨_,rfl⟩
 rw [← hfv] at hls ⊢
 have hff:=hls.hf
 have hdf:=hdv.hf
 have hlf:hfs [.int .u32 ag,.int .u32 sq,.int .i64 tl,.int .i64 us,v]=true:=FQ (l:=⟨ag,sq,tl,us,L⟩) (Sl.hf hv)
 refine Av hE ?_;conv=>whnf
 refine Av hE ?_;conv=>whnf
 refine Ce (α:=Nat) (fun i=>tlT1 dv fv (D8 (L.take i)) i) (fun _=>[.row 31 [.int .u32 ag,.int .u32 sq,.int .i64 tl,.int .i64 us,v]]) (fun i=>L.length-i) (fun i=>i≤L.length) 0 (Zoy _)
  (Abs.tells (rs:=[0]) .a) ?_
 intro i hi
 refine A9 hE ?_
 by_cases hlt:i<L.length
 ·have hst:=ZK hlt
  have hd6:(Ai L).drop (i*6)=L[i].c++Ai (L.drop (i+1)):=by rw [Kv,Zo2 hlt,FJ]
  have hsl:=Q9 (L.take i)
  have htl:(L.take i).length=i:=by rw [Zo5];omega
  revert hst hd6
  generalize L[i]=x
  obtain ⟨x1,x2,x3,x4,x5,x6⟩:=x
  intro hst hd6
  have hd6:(Ai L).drop (i*6)=[.int .u32 x1,.int .i64 x2,.int .i64 x3,.bool x4,.bool x5,.bool x6]++Ai (L.drop (i+1)):=hd6
  cases x5
  ·have hst:D8 (L.take (i+1))=D8 (L.take i):=hst
   conv=>whnf
   repeat' (first|(refine Af rfl hv ?_;conv=>whnf)|(refine Ag (a:=(i:Int)) (b:=(L.length:Int)) rfl rfl (fun _=>?_) (fun h=>by omega);conv=>whnf)|(refine A8 (i:=i) rfl hv rfl hlt ?_;rw [hd6];conv=>whnf)|(refine EHead.mk rfl ?_;conv=>whnf)|((first|refine w7 rfl rfl (by omega) ?_|refine ⟨rfl,?_⟩);conv=>whnf)|fail)
   refine ⟨i+1,hlt,by omega,?_⟩
   rw [hst]
   exact Abs.tells (rs:=[0]) .a
  ·have hst:D8 (L.take (i+1))=D8 (L.take i)+1:=hst
   conv=>whnf
   repeat' (first|(refine Af rfl hv ?_;conv=>whnf)|(refine Ag (a:=(i:Int)) (b:=(L.length:Int)) rfl rfl (fun _=>?_) (fun h=>by omega);conv=>whnf)|(refine A8 (i:=i) rfl hv rfl hlt ?_;rw [hd6];conv=>whnf)|(refine EHead.mk rfl ?_;conv=>whnf)|((first|refine w7 rfl rfl (by omega) ?_|refine ⟨rfl,?_⟩);conv=>whnf)|fail)
   refine ⟨i+1,hlt,by omega,?_⟩
   rw [hst]
   exact Abs.tells (rs:=[0]) .a
 ·have hie:i=L.length:=by omega
  subst hie
  rw [Zoo (Zo0 _)]
  have hsl:=Q9 L
  generalize D8 L=S at *
  conv=>whnf
  refine Af rfl hv ?_;conv=>whnf
  refine Ag (a:=(L.length:Int)) (b:=(L.length:Int)) rfl rfl (fun h=>by omega) (fun _=>?_);conv=>whnf
  refine Av hE ?_;conv=>whnf
  repeat' (first|(refine Af rfl hls ?_;conv=>whnf)|(refine Af rfl hv ?_;conv=>whnf)|(refine Af rfl hdv ?_;conv=>whnf)|((first|refine w1 rfl rfl ?_ ?_|refine w3 rfl rfl ?_ ?_) <;> intro _ <;> first|(exfalso;omega)|(conv=>whnf))|fail)
  obtain ⟨a,ha⟩:∃ a:Nat,a=ds.length-L.length:=⟨_,rfl⟩
  rw [← ha] at hf
  refine Av hE ?_;conv=>whnf
  refine Af rfl hdv ?_;conv=>whnf
  refine Af rfl hv ?_;conv=>whnf
  refine Iw (a:=(ds.length:Int)) (b:=(L.length:Int)) rfl rfl (by omega) ?_
  rw [show (ds.length:Int)-(L.length:Int)=(a:Int) by omega]
  conv=>whnf
  refine Av hE ?_;conv=>whnf
  refine Ce (α:=Nat) (fun i=>tlT2 dv fv a i) (fun _=>[.row 31 [.int .u32 ag,.int .u32 sq,.int .i64 tl,.int .i64 us,v]]) (fun i=>F.length-i) (fun i=>i≤F.length) 0 (Zoy _)
   (Abs.tells (rs:=[0]) .a) ?_
  intro i hi
  refine A9 hE ?_
  by_cases hlt:i<F.length
  ·obtain ⟨y,x,hx,hy,e1,e2,hsame⟩:=hf i _ (Zof hlt)
   obtain ⟨hil,hxe⟩:=Zog.1 hx
   obtain ⟨hid,hye⟩:=Zog.1 hy
   have hd6:(Ai L).drop (i*6)=x.c++Ai (L.drop (i+1)):=by rw [Kv,Zo2 hil,FJ,hxe]
   have hdf6:(Di F).drop (i*6)=F[i].c++Di (F.drop (i+1)):=Zc5 hlt
   have hdd4:(Db ds).drop ((a+i)*4)=y.d.c++Db (ds.drop (a+i+1)):=by rw [Zgj hid,hye]
   revert hdf6 hsame e1 e2
   generalize F[i]=f
   intro e1 e2 hsame hdf6
   clear hx hy hxe hye
   obtain ⟨⟨n1,n2,n3,n4,n5,n6⟩,fy⟩:=f
   obtain ⟨x1,x2,x3,x4,x5,x6⟩:=x
   obtain ⟨st,sv',sl,bv,us',bs,pv,pb⟩:=y
   dsimp only at e1 e2 hsame
   subst e1 e2
   have hd6:(Ai L).drop (i*6)=[.int .u32 n3,.int .i64 x2,.int .i64 x3,.bool x4,.bool x5,.bool x6]++Ai (L.drop (i+1)):=hd6
   have hdf6:(Di F).drop (i*6)=[.int .u32 n2,.int .u32 n3,.int .i64 n4,F1 fy.S,Dx fy.S,Be fy.p]++Di (F.drop (i+1)):=hdf6
   have hdd4:(Db ds).drop ((a+i)*4)=[.int .i64 st,sv',bv,pv]++Db (ds.drop (a+i+1)):=hdd4
   have hsame:∀ (K:AV→St→Prop) (s:St),K (.bool true) s→ESc e 16 [.agg [.int .i64 n4,F1 fy.S,Dx fy.S,Be fy.p],.agg [.int .i64 st,sv',bv,pv]] s K:=hsame
   conv=>whnf
   repeat' (first|(refine Af rfl hls ?_;conv=>whnf)|(refine Ag (a:=(i:Int)) (b:=(F.length:Int)) rfl rfl (fun _=>?_) (fun h=>by omega);conv=>whnf)|(refine A8 (i:=i) rfl hls rfl hlt ?_;rw [hdf6];conv=>whnf)|(refine A8 (i:=i) rfl hv rfl hil ?_;rw [hd6];conv=>whnf)|(refine Bu (a:=(a:Int)) (b:=(i:Int)) rfl rfl (by omega) ?_;rw [show (a:Int)+(i:Int)=((a+i:Nat):Int) by omega];conv=>whnf)|(refine A8 (i:=a+i) rfl hdv rfl hid ?_;rw [hdd4];conv=>whnf)|(refine EHead.mk rfl ?_;conv=>whnf)|(refine CS rfl ?_;conv=>whnf)|(refine hsame _ _ ?_;conv=>whnf)|((refine w6 rfl rfl ?_ ?_) <;> intro _ <;> first|(exfalso;omega)|(conv=>whnf))|((first|refine w7 rfl rfl (by omega) ?_|refine w12 rfl ?_|refine ⟨rfl,?_⟩);conv=>whnf)|fail)
   refine ⟨i+1,hlt,by omega,?_⟩
   exact Abs.tells (rs:=[0]) .a
  ·have hie:i=F.length:=by omega
   subst hie
   conv=>whnf
   refine Af rfl hls ?_;conv=>whnf
   refine Ag (a:=(F.length:Int)) (b:=(F.length:Int)) rfl rfl (fun h=>by omega) (fun _=>?_);conv=>whnf
   refine Fv hE ?_;conv=>whnf
   rfl
end Go.AM
namespace Go.AM
attribute [local irreducible] W
open X
theorem Zlb {e:Env}(hE:EM P e) (hI:SAIn e) {c:Cfg}{ag sq0:Int}{j:DK}{l:Log}{v kv dv:AV}{ds:List DB}{U:List AV}{bs:List (List Nat)}(hc:c.ok) (hM:c.may) (hPI:PI c ag sq0 l j ds (fun b=>b ∈ bs.map Aa)) (hlv:CL.ok ⟨c,l,v⟩) (hU:LB.ok ⟨U,bs⟩) (hda:∀ d ∈ ds,d.any) (hdl:ds.length≤100000) (hdv:Sl 4 ds.length (Db ds) dv) (hkf:AM.hf kv=true) {X:DK}(hX:Cut j X):
 W P 0 none (IS 3 La) (Am ((25,.sl 4 0 1 none)::JC kv dv U.length)) (Ac St0 (Sd c j l v U X)) [] (Bx [.tmp 10] (fun u s=>u=.bool true)):=by
 obtain ⟨f1,f2,f3,f4⟩:=hPI.fst hM hc hX
 have hall:∀ (K:AV→St→Prop) (s:St),K (.tup [.agg [.int .u32 ((Bd (AX X)).1:Int),.int .u32 l.age,.int .u32 ((Bd (AX X)).2.2.1:Int),.int .i64 l.tail],Gl (BI ⟨c,X⟩),.int .i64 0]) s→ESc e 14 [c.v,X.v] s K:=fun K s hk=>by
  refine ESc.fam allF hI.h27 ⟨c,X⟩ ⟨hc,hX.ok⟩ (u:=.tup [.agg [.int .u32 ((Bd (AX X)).1:Int),.int .u32 l.age,.int .u32 ((Bd (AX X)).2.2.1:Int),.int .i64 l.tail],Gl (BI ⟨c,X⟩),.int .i64 0]) ?_ hk
  show HP _=_
  unfold HP
  rw [Zoj f1]
  have e1:((Bd (AX X)).2.1:Int)=l.age:=by rw [hPI.age];exact f2
  have e2:((Bd (AX X)).2.2.2:Int)=l.tail:=f4
  show AV.tup [.agg [_,.int .u32 ((Bd (AX X)).2.1:Int),_,.int .i64 ((Bd (AX X)).2.2.2:Int)],_,_]=_
  rw [e1,e2]
 have htail:H5 bs=false→W P 0 none (IS 6 La) (Am [(7,.ptr 0 0),(11,.bool true),(17,dv),(28,Gl (BI ⟨c,X⟩))]) (Ac St0 [.row 31 (l.c v)]) [] (Bx [.tmp 10] (fun u s=>u=.bool true)):=fun hcl=>by
  obtain ⟨t1,t2,t3⟩:=hPI.told hM hc hX (fun a b ha hb=>Zna hcl a ha b hb) (S:=D8 l.live) (Q9 _) (fun k x hk hx=>U2 (Zfs hPI.g) k x hk hx)
  refine Zgy hE (ag:=l.age) (sq:=l.seq) (tl:=l.tail) (us:=l.used) hlv.v hlv.l.len hdv hdl hPI.le t1 t2 fun q f hq=>?_
  obtain ⟨y,x,hx,hy,rfl⟩:=t3 q f hq
  have hgd:=hPI.gd _ y hy
  refine ⟨y,x,hx,hy,rfl,hPI.age.symm,fun K s hk=>?_⟩
  exact Zbu hI.h25 (hda y (Zo1 hy)) hgd.ok.d (Kz hgd.good) K s hk
 have hcla:=fun (s:St) (K:AV→St→Prop) (hr:s.get 3=some (.row 41 U))=>Zde (K:=K) hI.h915 hU (r:=3) hr
 dsimp only at hcla
 have hXf:hfs X.c=true:=CZ hX.ok.a.wl hX.ok.a.bl
 have hlf:hfs (l.c v)=true:=FQ (Sl.hf hlv.v)
 have hdf:=hdv.hf
 have hlsf:AM.hf (Gl (BI ⟨c,X⟩))=true:=Xe _
 generalize Gl (BI ⟨c,X⟩)=fv at *
 generalize (Bd (AX X)).1=g1 at *
 generalize (Bd (AX X)).2.2.1=g2 at *
 obtain ⟨xb,xu,xs,xw,xl,xd⟩:=X
 obtain ⟨c1,c2,c3,c4,c5,c6⟩:=c
 clear hPI hX f1 f2 f3 f4
 refine Av hE ?_;conv=>whnf
 refine D7 (i:=0) rfl rfl (by omega) ?_;conv=>whnf
 refine hall _ _ ?_;conv=>whnf
 refine Av hE ?_;conv=>whnf
 refine B7 (a:=0) (b:=0) rfl rfl (fun h=>absurd rfl h) (fun _=>?_);conv=>whnf
 refine B7 (a:=l.age) (b:=l.age) rfl rfl (fun h=>absurd rfl h) (fun _=>?_);conv=>whnf
 refine B7 (a:=l.tail) (b:=l.tail) rfl rfl (fun h=>absurd rfl h) (fun _=>?_);conv=>whnf
 refine Av hE ?_;conv=>whnf
 refine hcla _ _ rfl ?_
 cases hcl:H5 bs
 ·conv=>whnf
  exact W.tells (Abs.tells (tl:=[(7,.ptr 0 0),(11,.bool true),(17,dv),(28,fv)]) (os:=[.row 31 (l.c v)]) (rs:=[2]) .a) (htail hcl)
 ·conv=>whnf
  exact ⟨.inr rfl,_,_,rfl,rfl,rfl⟩
end Go.AM
namespace Go.AM
attribute [local irreducible] W
open X
def X7:AC:=IS 9 Rr
structure SLp where
 i:Nat
 l:Log
 v:AV
 j:DK
 U:List AV
 bs:List (List Nat)
 ds:List DB
def Sq (ov kv:AV) (n i:Nat):List DB→List (Nat×AV)
 | []=>[(3,ov),(4,kv),(5,.ptr 0 0),(6,.ptr 1 0),(7,.ptr 2 0),(11,.bool true),(12,.sl 3 0 n none),(17,.nils),(18,.int .i64 (i:Int))]
 | _::ds=>[(3,ov),(4,kv),(5,.ptr 0 0),(6,.ptr 1 0),(7,.ptr 2 0),(11,.bool true),(12,.sl 3 0 n none),(17,.sl 4 0 (ds.length+1) none),(18,.int .i64 (i:Int))]
def Su (c:Cfg) (j:DK) (l:Log) (v:AV) (U:List AV):List DB→List AObj
 | []=>[.row 24 c.c,.row 28 j.c,.row 31 (l.c v),.row 41 U]
 | d::ds=>[.row 24 c.c,.row 28 j.c,.row 31 (l.c v),.row 41 U,.row 53 (Db (d::ds))]
structure SLI (c:Cfg) (ag sq0:Int) (N:Nat) (x:SLp):Prop where
 i:x.i≤N
 pi:PI c ag sq0 x.l x.j x.ds (fun b=>b ∈ x.bs.map Aa)
 cl:CL.ok ⟨c,x.l,x.v⟩
 u:LB.ok ⟨x.U,x.bs⟩
 da:∀ d ∈ x.ds,d.any
 dl:x.ds.length≤x.i
 w:x.j.ws.length≤17*x.i
 n:x.U.length≤256+17*x.i
theorem Zil {ds:List DB}(h:∀ d ∈ ds,d.any):hfs (Db ds)=true:=by
 induction ds with
 | nil=>rfl
 | cons d ds ih=>
  have h1:AM.hf d.d.v=true:=K4 (h d (by simp))
  exact N8 h1 (ih fun x hx=>h x (by simp [hx]))
theorem Wk (L:List DB) (d:DB):Db (L++[d])=Db L++d.d.c:=by unfold Db;rw [List.flatMap_append];simp
theorem Zg0 {e:Env}(hE:EM P e) (hI:SAIn e) {c:Cfg}{ag sq0:Int}{ov kv:AV}{ops:List Op}(hc:c.ok) (hM:c.may) (ho:OL.ok ⟨ov,ops⟩) (hol:ops.length≤60) (hog:∀ o ∈ ops,Dy o.d=false) (hkf:AM.hf kv=true) (x0:SLp) (h0:SLI c ag sq0 ops.length x0) (hi0:x0.i=0) (hd0:x0.ds=[])
 (hk:∀ (x:SLp) dv,SLI c ag sq0 ops.length x→Sl 4 x.ds.length (Db x.ds) dv→W P 0 none La (Am (JC kv dv x.U.length)) (Ac St0 (MB c x.j x.l x.v x.U)) [] (Bx [.tmp 10] (fun u s=>u=.bool true))):
 W P 0 none X7 (Am [(3,ov),(4,kv),(5,.ptr 0 0),(6,.ptr 1 0),(7,.ptr 2 0),(11,.bool true),(12,.sl 3 0 x0.U.length none),(17,.nils)]) (Ac St0 (MB c x0.j x0.l x0.v x0.U)) [] (Bx [.tmp 10] (fun u s=>u=.bool true)):=by
 have hov:AM.hf ov=true:=ho.sl.hf
 have hos:=ho.sl
 dsimp only at hos
 have hcf:hfs c.c=true:=rfl
 have hjf:∀ {x:SLp},SLI c ag sq0 ops.length x→hfs x.j.c=true:=fun h=>CZ h.pi.rdk.ok.a.wl h.pi.rdk.ok.a.bl
 have hlf:∀ {x:SLp},SLI c ag sq0 ops.length x→hfs (x.l.c x.v)=true:=fun h=>FQ (Sl.hf h.cl.v)
 have hUf:∀ {x:SLp},SLI c ag sq0 ops.length x→hfs x.U=true:=fun h=>Hc h.u.a
 have hdf:∀ {x:SLp},SLI c ag sq0 ops.length x→hfs (Db x.ds)=true:=fun h=>Zil h.da
 refine Av hE ?_;conv=>whnf
 refine Ce (α:=SLp) (fun x=>Sq ov kv x.U.length x.i x.ds) (fun x=>Su c x.j x.l x.v x.U x.ds) (fun x=>ops.length-x.i) (SLI c ag sq0 ops.length) x0 h0 ?_ ?_
 ·rw [hd0,hi0]
  exact Abs.tells (rs:=[0,1,2,3]) ⟨by decide,⟨t9,t9,r9,r9,r9,r9,r9,r9,r9,trivial⟩,⟨o9,o9 (hjf h0),o9 (hlf h0),o9 (hUf h0),trivial⟩⟩
 clear h0 hi0 hd0
 intro x hx
 by_cases hlt:x.i<ops.length
 ·have hoi:=ho.o _ (Zpg hlt)
  have hgi:=hog _ (Zpg hlt)
  have hdrop:=SA hlt
  revert hoi hgi hdrop
  generalize ops[x.i]=o
  intro hoi hgi hdrop
  have hy:PLI.ok ⟨⟨⟨c,x.l,x.v⟩,o⟩,x.j,x.U⟩:=⟨⟨hx.cl,⟨hM,Zh2 hx.pi.g⟩,hoi,hgi⟩,hx.pi.rdk,by have:=hx.w;dsimp only;omega,hUf hx,by have:=hx.n;dsimp only;omega⟩
  obtain ⟨q1,q2⟩:=Zlx hy rfl hx.pi hx.u
  have hout:=R4 hy
  have huse:∀ (K:AV→St→Prop) (s:St),s.get 3=some (.row 41 x.U)→(Bh ⟨⟨c,x.l,x.v⟩,o⟩=[]→K (.tup [.agg ((Cj ⟨⟨c,x.l,x.v⟩,o⟩).1.c (Cj ⟨⟨c,x.l,x.v⟩,o⟩).2),(Dh ⟨⟨c,x.l,x.v⟩,o⟩ x.j).v,.sl 3 0 x.U.length none,.bool true]) (s.put 3 (.row 41 x.U)))→
   (0<(Bh ⟨⟨c,x.l,x.v⟩,o⟩).length→K (.tup [.agg ((Cj ⟨⟨c,x.l,x.v⟩,o⟩).1.c (Cj ⟨⟨c,x.l,x.v⟩,o⟩).2),(Dh ⟨⟨c,x.l,x.v⟩,o⟩ x.j).v,.sl s.next 0 (x.U.length+(Bh ⟨⟨c,x.l,x.v⟩,o⟩).length) none,.bool true]) ((s.put 3 .dead).alloc (.row 41 (x.U++(Bh ⟨⟨c,x.l,x.v⟩,o⟩).map Prod.fst))))→
   ESc e 11 [c.v,.agg (x.l.c x.v),x.j.v,.agg o.c,.sl 3 0 x.U.length none] s K:=fun K s hr k1 k2=>Zex (K:=K) hI.h911 hy hr k1 k2
  have hw':=hout.w
  have hn':=hout.n
  have hw0:=hx.w
  have hn0:=hx.n
  have hd0:=hx.dl
  have hJr:=hout.r
  have hV:=hout.hv
  clear hy hout
  dsimp only at q1 q2 hw' hn' hJr hV
  generalize Cj ⟨⟨c,x.l,x.v⟩,o⟩=L at *
  generalize Dh ⟨⟨c,x.l,x.v⟩,o⟩ x.j=J at *
  generalize Bh ⟨⟨c,x.l,x.v⟩,o⟩=B at *
  obtain ⟨l',v'⟩:=L
  dsimp only at q1 q2 hV huse
  have h1:=hjf hx
  have h2:=hlf hx
  have h3:=hUf hx
  have h4:=hdf hx
  have hJf:hfs J.c=true:=CZ hJr.ok.a.wl hJr.ok.a.bl
  have hLf:hfs (l'.c v')=true:=FQ hV
  rcases q2 with ⟨hB,e1,q2⟩|⟨hB,e1,q2,q3⟩
  ·have hnx:SLI c ag sq0 ops.length ⟨x.i+1,l',v',J,x.U,x.bs,x.ds⟩:=⟨hlt,q2,q1,hx.u,hx.da,by dsimp only;omega,by rw [hB] at hw';simp at hw';dsimp only;omega,by dsimp only;omega⟩
   have hus:=fun (K:AV→St→Prop) (s:St) (hr:s.get 3=some (.row 41 x.U)) (k1:K (.tup [.agg (l'.c v'),J.v,.sl 3 0 x.U.length none,.bool true]) (s.put 3 (.row 41 x.U)))=>huse K s hr (fun _=>k1) (fun h=>by rw [hB] at h;cases h)
   clear hx q1 q2 huse
   obtain ⟨i,l,v,j,U,bs,ds⟩:=x
   dsimp only at hlt hdrop e1 hus hnx h1 h2 h3 h4 ⊢
   obtain ⟨ok,ost,⟨st,sv',sl,bv,uz,bb,pv,pb⟩⟩:=o
   obtain ⟨Jb,Ju,Js,Jw,Jl,Jd⟩:=J
   refine A9 hE ?_
   rcases ds with _|⟨d,ds⟩
   ·conv=>whnf
    repeat' (first|(refine Af rfl hos ?_;conv=>whnf)|(refine Ag (a:=(i:Int)) (b:=(ops.length:Int)) rfl rfl (fun _=>?_) (fun h=>by omega);conv=>whnf)|(refine A8 (i:=i) rfl hos rfl hlt ?_;rw [hdrop];conv=>whnf)|(refine CS rfl ?_;conv=>whnf)|(refine hus _ _ rfl ?_;conv=>whnf)|(refine Dm (a:=l'.seq) (b:=l.seq) rfl rfl (fun h=>by omega) (fun _=>?_);conv=>whnf)|((first|refine w7 rfl rfl (by omega) ?_|refine w12 rfl ?_|refine ⟨rfl,?_⟩);conv=>whnf)|fail)
    exact ⟨_,hnx,by dsimp only;omega,Abs.tells (rs:=[0,1,2,3]) .a⟩
   ·conv=>whnf
    repeat' (first|(refine Af rfl hos ?_;conv=>whnf)|(refine Ag (a:=(i:Int)) (b:=(ops.length:Int)) rfl rfl (fun _=>?_) (fun h=>by omega);conv=>whnf)|(refine A8 (i:=i) rfl hos rfl hlt ?_;rw [hdrop];conv=>whnf)|(refine CS rfl ?_;conv=>whnf)|(refine hus _ _ rfl ?_;conv=>whnf)|(refine Dm (a:=l'.seq) (b:=l.seq) rfl rfl (fun h=>by omega) (fun _=>?_);conv=>whnf)|((first|refine w7 rfl rfl (by omega) ?_|refine w12 rfl ?_|refine ⟨rfl,?_⟩);conv=>whnf)|fail)
    exact ⟨_,hnx,by dsimp only;omega,Abs.tells (rs:=[0,1,2,3,4]) .a⟩
  ·have hlen:(x.U++B.map Prod.fst).length=x.U.length+B.length:=by rw [Zot,Zom]
   have hnx:SLI c ag sq0 ops.length ⟨x.i+1,l',v',J,x.U++B.map Prod.fst,x.bs++B.map Prod.snd,x.ds++[o.d]⟩:=⟨hlt,q2,q1,q3,(fun d hd=>by
    rcases Zo7.1 hd with hd|hd
    ·exact hx.da d hd
    ·rw [List.mem_singleton] at hd;rw [hd];exact hoi.d),by dsimp only;rw [Zot];show x.ds.length+1≤_;omega,by dsimp only;omega,by dsimp only;rw [hlen];omega⟩
   have hus:=fun (K:AV→St→Prop) (s:St) (hr:s.get 3=some (.row 41 x.U)) (k2:K (.tup [.agg (l'.c v'),J.v,.sl s.next 0 (x.U.length+B.length) none,.bool true]) ((s.put 3 .dead).alloc (.row 41 (x.U++B.map Prod.fst))))=>huse K s hr (fun h=>by rw [h] at hB;exact absurd hB (by decide)) (fun _=>k2)
   have h5:hfs (x.U++B.map Prod.fst)=true:=hUf hnx
   have h6:=hdf hnx
   clear hx q1 q2 q3 huse
   obtain ⟨i,l,v,j,U,bs,ds⟩:=x
   dsimp only at hlt hdrop e1 hus hnx h1 h2 h3 h4 h5 h6 hlen hd0 ⊢
   obtain ⟨ok,ost,⟨st,sv',sl,bv,uz,bb,pv,pb⟩⟩:=o
   obtain ⟨Jb,Ju,Js,Jw,Jl,Jd⟩:=J
   generalize U++B.map Prod.fst=U' at *
   refine A9 hE ?_
   rcases ds with _|⟨d,ds⟩
   ·have h6:hfs [.int .i64 st,sv',bv,pv]=true:=h6
    conv=>whnf
    repeat' (first|(refine Af rfl hos ?_;conv=>whnf)|(refine Ag (a:=(i:Int)) (b:=(ops.length:Int)) rfl rfl (fun _=>?_) (fun h=>by omega);conv=>whnf)|(refine A8 (i:=i) rfl hos rfl hlt ?_;rw [hdrop];conv=>whnf)|(refine CS rfl ?_;conv=>whnf)|(refine hus _ _ rfl ?_;conv=>whnf)|(refine Dm (a:=l'.seq) (b:=l.seq) rfl rfl (fun _=>?_) (fun h=>by omega);conv=>whnf)|(refine Cl (m:=1) rfl rfl rfl rfl (by decide) (by decide) ?_;conv=>whnf)|((first|refine w7 rfl rfl (by omega) ?_|refine w12 rfl ?_|refine ⟨rfl,?_⟩);conv=>whnf)|fail)
    refine ⟨_,hnx,by dsimp only;omega,Abs.tells (tl:=[(3,ov),(4,kv),(5,.ptr 0 0),(6,.ptr 1 0),(7,.ptr 2 0),(11,.bool true),(12,.sl 3 0 U'.length none),(17,.sl 4 0 (0+1) none),(18,.int .i64 ((i+1:Nat):Int))]) (os:=[.row 24 c.c,.row 28 (DK.c ⟨Jb,Ju,Js,Jw,Jl,Jd⟩),.row 31 (l'.c v'),.row 41 U',.row 53 [.int .i64 st,sv',bv,pv]]) (rs:=[0,1,2,6,8]) ⟨by decide,⟨t9,t9,r9,r9,r9,r9,⟨rfl,by rw [hlen];rfl⟩,r9,r9,trivial⟩,⟨o9,o9,o9,o9,o9,trivial⟩⟩⟩
   ·have h6:hfs (Db (d::ds)++[.int .i64 st,sv',bv,pv])=true:=by rw [Wk] at h6;exact h6
    have h7:Db (d::(ds++[(⟨st,sv',sl,bv,uz,bb,pv,pb⟩:DB)]))=Db (d::ds)++[.int .i64 st,sv',bv,pv]:=Wk (d::ds) _
    have hdl:(Db (d::ds)).length=(ds.length+1)*4:=Wj _
    have hds':ds.length+1≤100:=by simp at hd0;omega
    have htg:Sq ov kv U'.length (i+1) (d::(ds++[(⟨st,sv',sl,bv,uz,bb,pv,pb⟩:DB)]))=[(3,ov),(4,kv),(5,.ptr 0 0),(6,.ptr 1 0),(7,.ptr 2 0),(11,.bool true),(12,.sl 3 0 U'.length none),(17,.sl 4 0 (ds.length+1+1) none),(18,.int .i64 ((i+1:Nat):Int))]:=by
     show [_,_,_,_,_,_,_,(17,AV.sl 4 0 ((ds++[_]).length+1) none),_]=_
     rw [Zot];rfl
    have hog':∀ (c:Cfg) (j:DK) (l:Log) (v:AV),Su c j l v U' (d::(ds++[(⟨st,sv',sl,bv,uz,bb,pv,pb⟩:DB)]))=[.row 24 c.c,.row 28 j.c,.row 31 (l.c v),.row 41 U',.row 53 (Db (d::ds)++[.int .i64 st,sv',bv,pv])]:=fun c j l v=>by
     show [_,_,_,_,AObj.row 53 (Db (d::(ds++[_])))]=_
     rw [h7]
    conv=>whnf
    repeat' (first|(refine Af rfl hos ?_;conv=>whnf)|(refine Ag (a:=(i:Int)) (b:=(ops.length:Int)) rfl rfl (fun _=>?_) (fun h=>by omega);conv=>whnf)|(refine A8 (i:=i) rfl hos rfl hlt ?_;rw [hdrop];conv=>whnf)|(refine CS rfl ?_;conv=>whnf)|(refine hus _ _ rfl ?_;conv=>whnf)|(refine Dm (a:=l'.seq) (b:=l.seq) rfl rfl (fun _=>?_) (fun h=>by omega);conv=>whnf)|(refine BX (n:=ds.length+1) (m:=1) rfl rfl rfl rfl hdl rfl (by decide) (by omega) ?_;conv=>whnf)|((first|refine w7 rfl rfl (by omega) ?_|refine w12 rfl ?_|refine ⟨rfl,?_⟩);conv=>whnf)|fail)
    refine ⟨_,hnx,by dsimp only;omega,?_⟩
    show Tells P 0 _ _ [] (Am (Sq ov kv U'.length (i+1) (d::(ds++[_])))) (Ac St0 (Su c _ l' v' U' (d::(ds++[_])))) []
    rw [htg,hog']
    exact Abs.tells (rs:=[0,1,2,7,9]) ⟨by decide,⟨t9,t9,r9,r9,r9,r9,⟨rfl,by rw [hlen];rfl⟩,r9,r9,trivial⟩,⟨o9,o9,o9,o9,o9,trivial⟩⟩
 ·have hie:x.i=ops.length:=by have:=hx.i;omega
  have hkx:=hk x
  have h1:=hjf hx
  have h2:=hlf hx
  have h3:=hUf hx
  have h4:=hdf hx
  obtain ⟨i,l,v,j,U,bs,ds⟩:=x
  dsimp only at hie hkx h1 h2 h3 h4
  subst hie
  refine A9 hE ?_
  rcases ds with _|⟨d,ds⟩
  ·have hkx:=hkx .nils hx (.inl ⟨rfl,rfl,rfl⟩)
   conv=>whnf
   refine Af rfl hos ?_;conv=>whnf
   refine Ag (a:=(ops.length:Int)) (b:=(ops.length:Int)) rfl rfl (fun h=>by omega) (fun _=>?_);conv=>whnf
   exact W.tells (Abs.tells (tl:=JC kv .nils U.length) (os:=MB c j l v U) (rs:=[0,1,2,3]) .a) hkx
  ·have hkx:=hkx (.fz (ds.length+1) none (Db (d::ds))) hx (.inr (.inr ⟨none,rfl,Wj _⟩))
   conv=>whnf
   refine Af rfl hos ?_;conv=>whnf
   refine Ag (a:=(ops.length:Int)) (b:=(ops.length:Int)) rfl rfl (fun h=>by omega) (fun _=>?_);conv=>whnf
   refine W.tells (AbsK.frz (n:=4) (e:=53) (cs:=Db (d::ds)) (tl:=JC kv (.sl 4 0 (ds.length+1) none) U.length) (os:=MB c j l v U) (rs:=[0,1,2,3,4]) .a rfl h4 rfl rfl rfl rfl ?_ ?_) hkx
   ·show [(4,C4 4 _ kv),_,_,_,_,_,_]=_
    rw [EW kv hkf];rfl
   ·show [Bw 4 _ (.row 24 c.c),Bw 4 _ (.row 28 j.c),Bw 4 _ (.row 31 (l.c v)),Bw 4 _ (.row 41 U)]=_
    rw [BM hcf,BM h1,BM h2,BM h3];rfl
end Go.AM
namespace Go.AM
attribute [local irreducible] W
open X
theorem SZ:Cz (Aa [])=false:=by decide
def GN (c:Cfg) (j:DK) (ag sq tl us:Int) (v:AV):SLp:=
 ⟨0,⟨ag,sq,tl,us,[]⟩,v,Ct ⟨j,0,.fz 128 (some 128) (Ab (Bg c.id.toNat ag.toNat sq.toNat tl.toNat)),Bg c.id.toNat ag.toNat sq.toNat tl.toNat⟩,.nils::j.us.drop 1,[]::j.bs.drop 1,[]⟩
theorem sli0 {c:Cfg}{j:DK}{ag sq tl us:Int}{v:AV}{N:Nat}(hj:j.ok) (hO:OJ.good ⟨c,j,ag⟩) (hcl:CL.ok ⟨c,⟨ag,sq,tl,us,[]⟩,v⟩) (hg:GoodR ⟨⟨ag,sq,tl,us,[]⟩,c⟩):SLI c ag sq N (GN c j ag sq tl us v):=by
 have hM:c.may:=hO.m.m
 have hdk:Bi j=true:=hO.m.d
 have hln:(j.us.length:Int)=c.log+1:=hO.m.len
 have hws:j.ws.length=0:=hO.m.ws
 have hlo:=Eo hM
 have hlo2:c.log≤255:=by unfold Cfg.may at hM;omega
 have hR:RDK c.log j:=⟨hj,hdk,hln,hO.m.dead,by omega⟩
 have hb:(Bg c.id.toNat ag.toNat sq.toNat tl.toNat).length=128:=GS _ _ _ _
 have hu:BAt (.fz 128 (some 128) (Ab (Bg c.id.toNat ag.toNat sq.toNat tl.toNat))) (Bg c.id.toNat ag.toNat sq.toNat tl.toNat):=⟨.inr (.inr ⟨some 128,by rw [hb],by rw [Ba,hb]⟩),LJ _ _ _ _⟩
 have hbl:=hj.a.bs.length
 have hd2:=(dskB_iff.1 hdk).2.1
 have hodd:∀ b ∈ j.bs,b.length=0∨b.length=128:=fun b hb=>by
  have:=hd2 b hb
  unfold AE at this
  simp only [Bool.and_eq_false_iff,Zpl] at this
  omega
 obtain ⟨p1,p2⟩:=Zg3 (c:=c) (ag:=ag) (sq:=sq) (tl:=tl) (us:=us) (d:=j) (A:=fun b=>b ∈ ([]::j.bs.drop 1).map Aa) hR hg (Zpd.1 hws) (fun p h1 h2=>by
  refine Zpf.2 ⟨j.bs.getD p.toNat [],?_,rfl⟩
  rw [Zo8,Zof (by omega)]
  refine List.mem_cons_of_mem _ (Zo1 (i:=p.toNat-1) ?_)
  rw [Zoq,show 1+(p.toNat-1)=p.toNat by omega]
  exact Zof (by omega)) (fun b hb hg' ha=>by
  obtain ⟨x,hx,rfl⟩:=Zpf.1 hb
  rcases Zpp.1 hx with rfl|hx
  ·rw [SZ] at hg';cases hg'
  ·obtain ⟨i,hi⟩:=Zqa.1 hx
   rw [Zoq] at hi
   have hno:=hO.n (1+i) x (by omega) hi
   rcases hodd x (Zpr hx) with h0|h0
   ·rw [Zpd.1 h0,SZ] at hg';cases hg'
   ·rw [CH h0] at hg' ha
    exact hno ⟨hg',by rw [CH h0];exact ha⟩) hu rfl
 refine ⟨Zoy _,p1,hcl,⟨.cons ⟨.inl ⟨rfl,rfl,rfl⟩,(fun y hy=>by cases hy)⟩ (hj.a.bs.drop 1),?_,?_⟩,(fun d hd=>by cases hd),Zoy _,?_,?_⟩
 ·show (AV.nils::j.us.drop 1).length<_
  rw [Zo9,Zp3]
  have:=hj.n;omega
 ·intro b hb
  rcases Zpp.1 (show b ∈ []::j.bs.drop 1 from hb) with rfl|hb
  ·exact .inl rfl
  ·exact hodd b (Zpr hb)
 ·show (Ct _).ws.length≤_
  rw [p2];exact Zoy _
 ·show (AV.nils::j.us.drop 1).length≤_
  rw [Zo9,Zp3]
  show _≤256+17*0
  omega
theorem YS (e:Env) (hE:EM P e) (hI:SAIn e) (c:Cfg) (hc:c.ok) (j:DK) (hj:j.any) (ag sq tl us:Int) (L:List Lv) (v:AV) (hv:LSl L v) (h1:AK ag) (h2:AK sq) (h3:Aj tl) (h4:Aj us) (hLx:∀ x ∈ L,x.ok) (ov:AV) (ops:List Op) (ho:OL.ok ⟨ov,ops⟩) (kv:AV) (ks:List Bool) (hkv:Sl 1 ks.length (BK ks) kv):
 W P 0 none Rr (Ah [c.v,j.v,.agg [.int .u32 ag,.int .u32 sq,.int .i64 tl,.int .i64 us,v],ov,kv] 0 .lf) St0 [] (Bx [.tmp 10] (fun u s=>u=.bool true)):=by
 have hgr:∀ (K:AV→St→Prop) (s:St),(IM j=true→K (.bool true) s)→(IM j=false→K (.bool false) s)→ESc e 5 [j.v] s K:=fun K s k1 k2=>by
  cases hG:IM j
  ·exact ESc.fam grt4F hI.h21 j hj (by show AV.bool _=_;rw [hG]) (k2 hG)
  ·exact ESc.fam grt4F hI.h21 j hj (by show AV.bool _=_;rw [hG]) (k1 hG)
 have hlg:∀ (K:AV→St→Prop) (s:St),(Fx ops=true→K (.bool true) s)→(Fx ops=false→K (.bool false) s)→ESc e 6 [ov] s K:=fun K s k1 k2=>by
  cases hq:Fx ops
  ·exact ESc.fam longF hI.h45 ⟨ov,ops⟩ ho (by show AV.bool _=_;rw [hq]) (k2 hq)
  ·exact ESc.fam longF hI.h45 ⟨ov,ops⟩ ho (by show AV.bool _=_;rw [hq]) (k1 hq)
 have hck:∀ (K:AV→St→Prop) (s:St),(L=[]→CL.ok ⟨c,⟨ag,sq,tl,us,[]⟩,v⟩→CL.good ⟨c,⟨ag,sq,tl,us,[]⟩,v⟩→K (.int .i64 0) s)→(0<L.length→K (.int .i64 0) s)→K (.int .i64 8) s→ESc e 7 [c.v,.agg [.int .u32 ag,.int .u32 sq,.int .i64 tl,.int .i64 us,v]] s K:=fun K s k1 k2 k3=>by
  by_cases hl:L.length≤1000
  ·have hx:CL.ok ⟨c,⟨ag,sq,tl,us,L⟩,v⟩:=⟨hc,⟨h1,h2,h3,h4,hLx,hl⟩,hv⟩
   refine Zaf hI.h33 hx ?_
   by_cases hG:CL.good ⟨c,⟨ag,sq,tl,us,L⟩,v⟩
   ·rw [Zoj hG]
    rcases Nat.eq_zero_or_pos L.length with h0|h0
    ·have h0:=Zpd.1 h0
     subst h0
     exact k1 rfl hx hG
    ·exact k2 h0
   ·rw [Zon hG];exact k3
  ·exact Zcj hI.h33 (x:=⟨c,ag,sq,tl,us,v,L.length,Ai L⟩) ⟨hc,hv,by dsimp only;omega⟩ k3
 have hjf:hfs j.c=true:=CZ hj.wl hj.bl
 have hkf:=hkv.hf
 have hof:=ho.sl.hf
 have hvf:AM.hf v=true:=Sl.hf hv
 dsimp only at hof
 obtain ⟨jb,ju,js,jw,jl,jd⟩:=j
 refine Av hE ?_;conv=>whnf
 refine Av hE ?_;conv=>whnf
 refine ESc.ov hI.h59 rfl ?_;conv=>whnf
 refine Av hE ?_;conv=>whnf
 refine hgr _ _ (fun hG=>?_) (fun hG=>?_)
 ·conv=>whnf
  skip
  exact ⟨.inr rfl,_,_,rfl,rfl,rfl⟩
 conv=>whnf
 refine hlg _ _ (fun hG'=>?_) (fun hG'=>?_)
 ·conv=>whnf
  skip
  exact ⟨.inr rfl,_,_,rfl,rfl,rfl⟩
 obtain ⟨hol,hog⟩:=Zac hG'
 conv=>whnf
 refine Af rfl hkv ?_;conv=>whnf
 refine Dm rfl rfl (fun hk2=>?_) (fun hk2=>?_)
 ·conv=>whnf
  skip
  exact ⟨.inr rfl,_,_,rfl,rfl,rfl⟩
 conv=>whnf
 refine hck _ _ (fun hL hcl hgd=>?_) (fun hL=>?_) ?_
 ·subst hL
  conv=>whnf
  refine B7 (a:=0) (b:=0) rfl rfl (fun h=>absurd rfl h) (fun _=>?_);conv=>whnf
  refine Af rfl hv ?_;conv=>whnf
  refine Dm (a:=(([]:List Lv).length:Int)) (b:=0) rfl rfl (fun h=>absurd h (by decide)) (fun _=>?_);conv=>whnf
  repeat' (first|(refine w12 rfl ?_;conv=>whnf)|fail)
  have hgR:GoodR ⟨⟨ag,sq,tl,us,[]⟩,c⟩:=Of hgd.2
  have hjk:=Zir hj hG
  have hOJ:OJ.ok ⟨c,⟨jb,ju,js,jw,jl,jd⟩,ag⟩:=⟨hc,hjk,h1⟩
  have hold:∀ (K:AV→St→Prop) (s:St),(OJ.good ⟨c,⟨jb,ju,js,jw,jl,jd⟩,ag⟩→K (.tup [.sl s.next 0 ju.length none,.bool true]) (s.alloc (.row 41 (.nils::ju.drop 1))))→(¬ OJ.good ⟨c,⟨jb,ju,js,jw,jl,jd⟩,ag⟩→K (.tup [.nils,.bool false]) s)→ESc e 8 [c.v,.agg [jb,jw,.bool jd],.int .u32 ag] s K:=fun K s k1 k2=>Zh1 hI.h908 hOJ k1 k2
  refine Av hE ?_;conv=>whnf
  refine hold _ _ (fun hgO=>?_) (fun hgO=>?_)
  ·have hln:(ju.length:Int)=c.log+1:=hgO.m.len
   have hR:RDK c.log ⟨jb,ju,js,jw,jl,jd⟩:=by
    have hM:c.may:=hgO.m.m
    have:=Eo hM
    exact ⟨hjk,hgO.m.d,hln,hgO.m.dead,by unfold Cfg.may at hM;omega⟩
   have hlo:=hR.lo
   have hs0:=sli0 (N:=ops.length) hjk hgO hcl hgR
   have hU0:(GN c ⟨jb,ju,js,jw,jl,jd⟩ ag sq tl us v).U.length=ju.length:=by
    show (AV.nils::ju.drop 1).length=_
    rw [Zo9,Zp3];omega
   have hsb:DE ag sq tl=true:=by
    have q1:1≤ag∧ag≤2147483648:=hgR.age
    have q2:1≤sq∧sq≤2147483648:=hgR.seq
    have q3:0≤tl∧tl<c.log:=hgR.tail
    unfold DE CO
    simp only [Zoh,Zpc]
    omega
   have hwr:∀ (K:AV→St→Prop) (s:St),K (.tup [.fz 128 (some 128) (Ab (Bg c.id.toNat ag.toNat sq.toNat tl.toNat)),.int .i64 0]) s→ESc e 9 [.agg [.int .u32 c.id,.int .u32 ag,.int .u32 sq,.int .i64 tl]] s K:=fun K s hk=>
    ESc.fam wrF hI.h84 ⟨c.id,ag,sq,tl⟩ ⟨hc.id,h1,h2⟩ (u:=.tup [.fz 128 (some 128) (Ab (Bg c.id.toNat ag.toNat sq.toNat tl.toNat)),.int .i64 0]) (by show (if DE ag sq tl then _ else _)=_;rw [Zoj hsb]) hk
   have hbl:(Bg c.id.toNat ag.toNat sq.toNat tl.toNat).length=128:=GS _ _ _ _
   have hbu:BAt (.fz 128 (some 128) (Ab (Bg c.id.toNat ag.toNat sq.toNat tl.toNat))) (Bg c.id.toNat ag.toNat sq.toNat tl.toNat):=⟨.inr (.inr ⟨some 128,by rw [hbl],by rw [Ba,hbl]⟩),LJ _ _ _ _⟩
   obtain ⟨f1,f2,_⟩:=Ll hR hbu hbl
   have hfu:∀ (K:AV→St→Prop) (s:St),K (.tup [(GN c ⟨jb,ju,js,jw,jl,jd⟩ ag sq tl us v).j.v,.int .i64 0]) s→ESc e 10 [.agg [jb,jw,.bool jd],.int .i64 0,.fz 128 (some 128) (Ab (Bg c.id.toNat ag.toNat sq.toNat tl.toNat))] s K:=fun K s hk=>
    ESc.fam fuaF hI.h92 ⟨⟨jb,ju,js,jw,jl,jd⟩,0,.fz 128 (some 128) (Ab (Bg c.id.toNat ag.toNat sq.toNat tl.toNat)),Bg c.id.toNat ag.toNat sq.toNat tl.toNat⟩ f1 (u:=.tup [(GN c ⟨jb,ju,js,jw,jl,jd⟩ ag sq tl us v).j.v,.int .i64 0]) (by show G7 _=_;unfold G7;rw [Zoj f2];rfl) hk
   have hfin:=Zg0 hE hI hc hgd.1 ho hol hog hkf (GN c ⟨jb,ju,js,jw,jl,jd⟩ ag sq tl us v) hs0 rfl rfl (fun x dv hx hdv=>by
    have hxd:=hx.dl
    have hxi:=hx.i
    exact Zlc hE hI hx.pi.rdk (Sl.hf hx.cl.v) (Hc hx.u.a) hkv (Sl.hf hdv) (fun ks'=>Zlb hE hI hc hgd.1 hx.pi hx.cl hx.u hx.da (by omega) hdv hkf (Wm hx.pi.rdk ks')))
   have hJf:hfs (GN c ⟨jb,ju,js,jw,jl,jd⟩ ag sq tl us v).j.c=true:=CZ hs0.pi.rdk.ok.a.wl hs0.pi.rdk.ok.a.bl
   have hUf:hfs (GN c ⟨jb,ju,js,jw,jl,jd⟩ ag sq tl us v).U=true:=Hc hs0.u.a
   have hlf:hfs [.int .u32 ag,.int .u32 sq,.int .i64 tl,.int .i64 us,v]=true:=FQ (l:=⟨ag,sq,tl,us,[]⟩) hvf
   rw [hU0] at hfin
   have hfin:W P 0 none X7 (Am [(3,ov),(4,kv),(5,.ptr 0 0),(6,.ptr 1 0),(7,.ptr 2 0),(11,.bool true),(12,.sl 3 0 ju.length none),(17,.nils)]) (Ac St0 [.row 24 c.c,.row 28 (GN c ⟨jb,ju,js,jw,jl,jd⟩ ag sq tl us v).j.c,.row 31 [.int .u32 ag,.int .u32 sq,.int .i64 tl,.int .i64 us,v],.row 41 (GN c ⟨jb,ju,js,jw,jl,jd⟩ ag sq tl us v).U]) [] (Bx [.tmp 10] (fun u s=>u=.bool true)):=hfin
   have hUe:(GN c ⟨jb,ju,js,jw,jl,jd⟩ ag sq tl us v).U=.nils::ju.drop 1:=rfl
   rw [hUe] at hfin hUf
   generalize (GN c ⟨jb,ju,js,jw,jl,jd⟩ ag sq tl us v).j=J at *
   obtain ⟨Jb,Ju,Js,Jw,Jl,Jd⟩:=J
   conv=>whnf
   refine Av hE ?_;conv=>whnf
   repeat' (first|(refine w12 rfl ?_;conv=>whnf)|fail)
   refine Av hE ?_;conv=>whnf
   refine hwr _ _ ?_;conv=>whnf
   refine Av hE ?_;conv=>whnf
   refine hfu _ _ ?_;conv=>whnf
   refine Av hE ?_;conv=>whnf
   repeat' (first|((refine w6 rfl rfl ?_ ?_) <;> intro _ <;> first|(exfalso;omega)|(conv=>whnf))|fail)
   refine Av hE ?_;conv=>whnf
   exact W.tells (Abs.tells (tl:=[(3,ov),(4,kv),(5,.ptr 0 0),(6,.ptr 1 0),(7,.ptr 2 0),(11,.bool true),(12,.sl 3 0 ju.length none),(17,.nils)]) (os:=[.row 24 c.c,.row 28 (DK.c ⟨Jb,Ju,Js,Jw,Jl,Jd⟩),.row 31 [.int .u32 ag,.int .u32 sq,.int .i64 tl,.int .i64 us,v],.row 41 (.nils::ju.drop 1)]) (rs:=[0,1,2,3]) ⟨by decide,⟨⟨Bz _ hof,by rw [Bv _ hof];rfl⟩,⟨Bz _ hkf,by rw [Bv _ hkf];rfl⟩,⟨rfl,rfl⟩,⟨rfl,rfl⟩,⟨rfl,rfl⟩,⟨rfl,rfl⟩,⟨rfl,rfl⟩,⟨rfl,rfl⟩,trivial⟩,⟨⟨rfl,rfl⟩,⟨AD hJf,by rw [Az hJf];rfl⟩,⟨AD hlf,by rw [Az hlf];rfl⟩,⟨AD hUf,by rw [Az hUf];rfl⟩,trivial⟩⟩) hfin
  ·conv=>whnf
   refine Av hE ?_;conv=>whnf
   repeat' (first|(refine w13 rfl ?_;conv=>whnf)|fail)
   exact ⟨.inr rfl,_,_,rfl,rfl,rfl⟩
 ·conv=>whnf
  repeat' (first|(refine Af rfl hv ?_;conv=>whnf)|((first|refine w3 rfl rfl ?_ ?_|refine w6 rfl rfl ?_ ?_) <;> intro _ <;> first|(exfalso;omega)|(conv=>whnf))|fail)
  all_goals exact ⟨.inr rfl,_,_,rfl,rfl,rfl⟩
 ·conv=>whnf
  repeat' (first|((refine w6 rfl rfl ?_ ?_) <;> intro _ <;> first|(exfalso;omega)|(conv=>whnf))|fail)
  all_goals exact ⟨.inr rfl,_,_,rfl,rfl,rfl⟩
end Go.AM
namespace Go.AM
open Go.RowKit
variable {n:Int}
theorem Fo (h:(Lit.int .i64 n).wf=true):Aj n:=by
 unfold Aj
 simp [Lit.wf,IntKind.min,IntKind.max,IntKind.bits,IntKind.signed] at h
 omega
theorem OI (h:(Lit.int .u32 n).wf=true):AK n:=by
 unfold AK
 simp [Lit.wf,IntKind.min,IntKind.max,IntKind.bits,IntKind.signed] at h
 omega
def tCfg:List Ty:=[.int .u32,.int .i64,.int .i64,.int .i64,.int .i64,.int .i64]
def tLv:List Ty:=[.int .u32,.int .i64,.int .i64,.bool,.bool,.bool]
def tLog:List Ty:=[.int .u32,.int .u32,.int .i64,.int .i64,.sl (.st tLv)]
variable {k:IntKind}{l:List AV}
theorem Qv (h:Shape (.int k) l):∃ n,l=[.int k n]∧(Lit.int k n).wf=true:=by
 cases h with|int _ n h=>exact ⟨n,rfl,h⟩
theorem ZL (h:Shape .bool l):∃ b,l=[.bool b]:=by
 cases h with|bool b=>exact ⟨b,rfl⟩
variable {Ts:List Ty}
theorem GT {T:Ty}(h:Shapes (T::Ts) l):∃ a b,l=a++b∧Shape T a∧Shapes Ts b:=by
 cases h with|cons _ _ a b h1 h2=>exact ⟨a,b,rfl,h1,h2⟩
theorem Jm (h:Shapes [] l):l=[]:=by cases h;rfl
theorem Ea (h:Shapes (.int k::Ts) l):∃ n b,l=.int k n::b∧(Lit.int k n).wf=true∧Shapes Ts b:=by
 obtain ⟨a,b,rfl,h1,h2⟩:=GT h
 obtain ⟨n,rfl,hw⟩:=Qv h1
 exact ⟨n,b,rfl,hw,h2⟩
theorem N0 (h:Shapes (.bool::Ts) l):∃ x b,l=.bool x::b∧Shapes Ts b:=by
 obtain ⟨a,b,rfl,h1,h2⟩:=GT h
 obtain ⟨n,rfl⟩:=ZL h1
 exact ⟨n,b,rfl,h2⟩
theorem cfg_of (h:Shapes tCfg l):∃ c:Cfg,c.ok∧l=c.c:=by
 obtain ⟨a1,b1,rfl,w1,g1⟩:=Ea h
 obtain ⟨a2,b2,rfl,w2,g2⟩:=Ea g1
 obtain ⟨a3,b3,rfl,w3,g3⟩:=Ea g2
 obtain ⟨a4,b4,rfl,w4,g4⟩:=Ea g3
 obtain ⟨a5,b5,rfl,w5,g5⟩:=Ea g4
 obtain ⟨a6,b6,rfl,w6,g6⟩:=Ea g5
 rw [Jm g6]
 exact ⟨⟨a1,a2,a3,a4,a5,a6⟩,⟨OI w1,Fo w2,Fo w3,Fo w4,Fo w5,Fo w6⟩,rfl⟩
theorem Znu (h:Shapes tLv l):∃ x:Lv,x.ok∧l=x.c:=by
 obtain ⟨a1,b1,rfl,w1,g1⟩:=Ea h
 obtain ⟨a2,b2,rfl,w2,g2⟩:=Ea g1
 obtain ⟨a3,b3,rfl,w3,g3⟩:=Ea g2
 obtain ⟨a4,b4,rfl,g4⟩:=N0 g3
 obtain ⟨a5,b5,rfl,g5⟩:=N0 g4
 obtain ⟨a6,b6,rfl,g6⟩:=N0 g5
 rw [Jm g6]
 exact ⟨⟨a1,a2,a3,a4,a5,a6⟩,⟨OI w1,Fo w2,Fo w3⟩,rfl⟩
theorem Zl8 {ls:List (List AV)}(h:∀ l ∈ ls,Shape (.st tLv) l):∃ L:List Lv,(∀ x ∈ L,x.ok)∧ls.flatten=Ai L∧L.length=ls.length:=by
 induction ls with
 | nil=>exact ⟨[],by simp,rfl,rfl⟩
 | cons l ls ih=>
  obtain ⟨L,h1,h2,h3⟩:=ih (fun m hm=>h m (by simp [hm]))
  obtain ⟨x,hx,rfl⟩:=Znu (by have:=h l (by simp);cases this with|st _ _ hs=>exact hs)
  refine ⟨x::L,?_,?_,by simp [h3]⟩
  ·intro y hy
   rcases Zpp.1 hy with rfl|hy
   ·exact hx
   ·exact h1 y hy
  ·rw [List.flatten_cons,h2];rfl
theorem Zia (h:Shape (.sl (.st tLv)) l):∃ (v:AV) (L:List Lv),l=[v]∧LSl L v∧∀ x ∈ L,x.ok:=by
 cases h with
 | nil _=>exact ⟨.nils,[],rfl,.inl ⟨rfl,rfl,rfl⟩,by simp⟩
 | es _=>exact ⟨.es,[],rfl,.inr (.inl ⟨rfl,rfl,rfl⟩),by simp⟩
 | fz _ n m c ls h1 h2 h3 h4 h5=>
  obtain ⟨L,g1,g2,g3⟩:=Zl8 h4
  refine ⟨_,L,rfl,.inr (.inr ⟨c,by rw [g2,g3,h1],ES L⟩),g1⟩
theorem log_of (h:Shapes tLog l):∃ (ag sq tl us:Int) (v:AV) (L:List Lv),l=[.int .u32 ag,.int .u32 sq,.int .i64 tl,.int .i64 us,v]∧AK ag∧AK sq∧Aj tl∧Aj us∧LSl L v∧∀ x ∈ L,x.ok:=by
 obtain ⟨a1,b1,rfl,w1,g1⟩:=Ea h
 obtain ⟨a2,b2,rfl,w2,g2⟩:=Ea g1
 obtain ⟨a3,b3,rfl,w3,g3⟩:=Ea g2
 obtain ⟨a4,b4,rfl,w4,g4⟩:=Ea g3
 obtain ⟨a,b,rfl,h1,h2⟩:=GT g4
 obtain ⟨v,L,rfl,h3,h4⟩:=Zia h1
 rw [Jm h2]
 exact ⟨a1,a2,a3,a4,v,L,rfl,OI w1,OI w2,Fo w3,Fo w4,h3,h4⟩
theorem arg_struct {H:Type}{enc:TypeId×Value→H}{W:World}{t:TypeId}{Fs:List Ty}{n:Nat}{v:Value}{d:DataW H}{ps:List MemPlace}{fs:Array Field}{r:Reach}{base:Nat}(hu:P.underlying t=some (.struct fs)) (hT:TyOf P t (.st Fs) n) (hval:Value.okWide P W r base t v) (h:DataW.Trod enc P W 0 (fun _=>true) true t v d ps):
 ∃ l,Shapes Fs l∧VR (F6 W) (.agg l) v:=by
 obtain ⟨cs,rfl,_⟩:=WideShapes.okWide_struct hu hval
 obtain ⟨fuel,hf⟩:=h
 obtain ⟨l,h1,h2,h3,h4⟩:=Tp fuel hT hf
 cases h1 with
 | st _ _ hs=>exact ⟨l,hs,.agg l cs h3 h4⟩
theorem law_args {f:Nat}{args:List AV}{vals:List Value}{w:World}(hA:All2 (VR (F6 w)) args vals) (hC:C P f args St0 (fun v _=>v=.bool true)):
 Calls P f vals.toArray w fun x w'=>x=.returned (.bool true)∧Below w.heap.size w w':=by
 have hc:=hC (F6 w) vals w 0 hA (Zfv w)
 refine callsIn_wide.1 (CallsIn.mono hc ?_)
 rintro x w' ⟨v,s',rfl,v',γ',rfl,hst,_,hv⟩
 cases hv
 exact ⟨rfl,hst.os,hst.tape,hst.output,hst.size,fun b hb=>hst.blk b hb (fun r L hL=>by cases hL)⟩
end Go.AM
namespace Go.AM
open Go.RowKit
def X4:Ty:=.sl (.int .i64)
def JM:Ty:=.sl (.int .u8)
def tDeal:List Ty:=[.int .i64,X4,.sl JM,JM]
theorem X3 {n:Int}(h:(Lit.int .u8 n).wf=true):0≤n∧n<256:=by
 simp [Lit.wf,IntKind.min,IntKind.max,IntKind.bits,IntKind.signed] at h
 omega
variable {l:List AV}
theorem Zic (h:Shape X4 l):∃ (v:AV) (L:List Int),l=[v]∧Sl 1 L.length (Bs L) v∧∀ s ∈ L,Aj s:=by
 cases h with
 | nil _=>exact ⟨.nils,[],rfl,.inl ⟨rfl,rfl,rfl⟩,by simp⟩
 | es _=>exact ⟨.es,[],rfl,.inr (.inl ⟨rfl,rfl,rfl⟩),by simp⟩
 | fz _ n m c ls h1 h2 h3 h4 h5=>
  have:∀ ls:List (List AV),(∀ l ∈ ls,Shape (.int .i64) l)→∃ L:List Int,ls.flatten=Bs L∧L.length=ls.length∧∀ s ∈ L,Aj s:=by
   intro ls
   induction ls with
   | nil=>intro _;exact ⟨[],rfl,rfl,by simp⟩
   | cons l ls ih=>
    intro h
    obtain ⟨L,a,b,c⟩:=ih (fun m hm=>h m (by simp [hm]))
    obtain ⟨n,rfl,hw⟩:=Qv (h l (by simp))
    exact ⟨n::L,by rw [List.flatten_cons,a];rfl,by simp [b],fun s hs=>by
     rcases Zpp.1 hs with rfl|hs
     ·exact Fo hw
     ·exact c s hs⟩
  obtain ⟨L,a,b,d⟩:=this ls h4
  exact ⟨_,L,rfl,.inr (.inr ⟨c,by rw [a,b,h1],by rw [Zpi];unfold Bs;rw [Zom]⟩),d⟩
theorem QP (h:Shape JM l):∃ (v:AV) (b:List Nat),l=[v]∧BAt v b:=by
 cases h with
 | nil _=>exact ⟨.nils,[],rfl,.inl ⟨rfl,rfl,rfl⟩,by simp⟩
 | es _=>exact ⟨.es,[],rfl,.inr (.inl ⟨rfl,rfl,rfl⟩),by simp⟩
 | fz _ n m c ls h1 h2 h3 h4 h5=>
  have:∀ ls:List (List AV),(∀ l ∈ ls,Shape (.int .u8) l)→∃ L:List Nat,ls.flatten=Ab L∧L.length=ls.length∧∀ s ∈ L,s<256:=by
   intro ls
   induction ls with
   | nil=>intro _;exact ⟨[],rfl,rfl,by simp⟩
   | cons l ls ih=>
    intro h
    obtain ⟨L,a,b,c⟩:=ih (fun m hm=>h m (by simp [hm]))
    obtain ⟨n,rfl,hw⟩:=Qv (h l (by simp))
    have hw:=X3 hw
    refine ⟨n.toNat::L,?_,by simp [b],fun s hs=>?_⟩
    ·rw [List.flatten_cons,a]
     show AV.int .u8 n::Ab L=.int .u8 (Int.ofNat n.toNat)::Ab L
     rw [show Int.ofNat n.toNat=n from Int.toNat_of_nonneg hw.1]
    ·rcases Zpp.1 hs with rfl|hs
     ·omega
     ·exact c s hs
  obtain ⟨L,a,b,d⟩:=this ls h4
  exact ⟨_,L,rfl,.inr (.inr ⟨c,by rw [a,b,h1],by rw [Zpi,Ba]⟩),d⟩
theorem Ur (h:Shape (.sl JM) l):∃ (v:AV) (us:List AV) (bs:List (List Nat)),l=[v]∧Sl 1 us.length us v∧All2 BAt us bs:=by
 cases h with
 | nil _=>exact ⟨.nils,[],[],rfl,.inl ⟨rfl,rfl,rfl⟩,.nil⟩
 | es _=>exact ⟨.es,[],[],rfl,.inr (.inl ⟨rfl,rfl,rfl⟩),.nil⟩
 | fz _ n m c ls h1 h2 h3 h4 h5=>
  have:∀ ls:List (List AV),(∀ l ∈ ls,Shape JM l)→∃ (us:List AV) (bs:List (List Nat)),ls.flatten=us∧us.length=ls.length∧All2 BAt us bs:=by
   intro ls
   induction ls with
   | nil=>intro _;exact ⟨[],[],rfl,rfl,.nil⟩
   | cons l ls ih=>
    intro h
    obtain ⟨us,bs,a,b,c⟩:=ih (fun m hm=>h m (by simp [hm]))
    obtain ⟨v,by_,rfl,hv⟩:=QP (h l (by simp))
    exact ⟨v::us,by_::bs,by rw [List.flatten_cons,a];rfl,by simp [b],.cons hv c⟩
  obtain ⟨us,bs,a,b,d⟩:=this ls h4
  exact ⟨_,us,bs,rfl,.inr (.inr ⟨c,by rw [a,b,h1],by rw [Zpi]⟩),d⟩
theorem Zkg (h:Shapes tDeal l):∃ d:DB,d.any∧l=d.d.c:=by
 obtain ⟨st,b1,rfl,w1,g1⟩:=Ea h
 obtain ⟨a2,b2,rfl,s2,g2⟩:=GT g1
 obtain ⟨a3,b3,rfl,s3,g3⟩:=GT g2
 obtain ⟨a4,b4,rfl,s4,g4⟩:=GT g3
 rw [Jm g4]
 obtain ⟨sv,sl,rfl,q1,q2⟩:=Zic s2
 obtain ⟨bv,us,bs,rfl,q3,q4⟩:=Ur s3
 obtain ⟨pv,pb,rfl,q5⟩:=QP s4
 exact ⟨⟨st,sv,sl,bv,us,bs,pv,pb⟩,⟨Fo w1,q1,q2,q3,q4,q5⟩,rfl⟩
end Go.AM
namespace Go.AM
open Go.RowKit
def tWr:List Ty:=[.int .i64,JM]
def tDisk:List Ty:=[.sl JM,.sl (.st tWr),.bool]
variable {l:List AV}
theorem Znp (h:Shapes tWr l):∃ w:WR,w.any∧l=w.c:=by
 obtain ⟨at_,b1,rfl,w1,g1⟩:=Ea h
 obtain ⟨a2,b2,rfl,s2,g2⟩:=GT g1
 rw [Jm g2]
 obtain ⟨u,b,rfl,q⟩:=QP s2
 exact ⟨⟨at_,u,b⟩,⟨Fo w1,q⟩,rfl⟩
theorem Zlj (h:Shape (.sl (.st tWr)) l):∃ (v:AV) (L:List WR),l=[v]∧Sl 2 L.length (Ad L) v∧∀ w ∈ L,w.any:=by
 cases h with
 | nil _=>exact ⟨.nils,[],rfl,.inl ⟨rfl,rfl,rfl⟩,by simp⟩
 | es _=>exact ⟨.es,[],rfl,.inr (.inl ⟨rfl,rfl,rfl⟩),by simp⟩
 | fz _ n m c ls h1 h2 h3 h4 h5=>
  have:∀ ls:List (List AV),(∀ l ∈ ls,Shape (.st tWr) l)→∃ L:List WR,ls.flatten=Ad L∧L.length=ls.length∧∀ o ∈ L,o.any:=by
   intro ls
   induction ls with
   | nil=>intro _;exact ⟨[],rfl,rfl,by simp⟩
   | cons l ls ih=>
    intro h
    obtain ⟨L,a,b,c⟩:=ih (fun m hm=>h m (by simp [hm]))
    obtain ⟨o,ho,rfl⟩:=Znp (by have:=h l (by simp);cases this with|st _ _ hs=>exact hs)
    exact ⟨o::L,by rw [List.flatten_cons,a];rfl,by simp [b],fun q hq=>by
     rcases Zpp.1 hq with rfl|hq
     ·exact ho
     ·exact c q hq⟩
  obtain ⟨L,a,b,d⟩:=this ls h4
  exact ⟨_,L,rfl,.inr (.inr ⟨c,by rw [a,b,h1],Dt L⟩),d⟩
theorem disk_of (h:Shapes tDisk l):∃ d:DK,d.any∧l=d.c:=by
 obtain ⟨a1,b1,rfl,s1,g1⟩:=GT h
 obtain ⟨a2,b2,rfl,s2,g2⟩:=GT g1
 obtain ⟨x,b3,rfl,g3⟩:=N0 g2
 rw [Jm g3]
 obtain ⟨bv,us,bs,rfl,q1,q2⟩:=Ur s1
 obtain ⟨wv,L,rfl,q3,q4⟩:=Zlj s2
 exact ⟨⟨bv,us,bs,wv,L,x⟩,⟨q1,q2,q3,q4⟩,rfl⟩
end Go.AM
namespace Go.AM
open Go.RowKit
def tOp:List Ty:=[.int .u8,.int .i64,.st tDeal]
variable {l:List AV}
theorem Zns (h:Shapes tOp l):∃ o:Op,o.any∧l=o.c:=by
 obtain ⟨k,b1,rfl,w1,g1⟩:=Ea h
 obtain ⟨st,b2,rfl,w2,g2⟩:=Ea g1
 obtain ⟨a3,b3,rfl,s3,g3⟩:=GT g2
 rw [Jm g3]
 cases s3 with
 | st _ _ s3=>
  obtain ⟨d,hd,rfl⟩:=Zkg s3
  exact ⟨⟨k,st,d⟩,⟨X3 w1,Fo w2,hd⟩,by rw [Zpq];rfl⟩
theorem Zly (h:Shape (.sl (.st tOp)) l):∃ (v:AV) (L:List Op),l=[v]∧OL.ok ⟨v,L⟩:=by
 cases h with
 | nil _=>exact ⟨.nils,[],rfl,⟨.inl ⟨rfl,rfl,rfl⟩,by simp⟩⟩
 | es _=>exact ⟨.es,[],rfl,⟨.inr (.inl ⟨rfl,rfl,rfl⟩),by simp⟩⟩
 | fz _ n m c ls h1 h2 h3 h4 h5=>
  have:∀ ls:List (List AV),(∀ l ∈ ls,Shape (.st tOp) l)→∃ L:List Op,ls.flatten=Gh L∧L.length=ls.length∧∀ o ∈ L,o.any:=by
   intro ls
   induction ls with
   | nil=>intro _;exact ⟨[],rfl,rfl,by simp⟩
   | cons l ls ih=>
    intro h
    obtain ⟨L,a,b,c⟩:=ih (fun m hm=>h m (by simp [hm]))
    obtain ⟨o,ho,rfl⟩:=Zns (by have:=h l (by simp);cases this with|st _ _ hs=>exact hs)
    exact ⟨o::L,by rw [List.flatten_cons,a];rfl,by simp [b],fun q hq=>by
     rcases Zpp.1 hq with rfl|hq
     ·exact ho
     ·exact c q hq⟩
  obtain ⟨L,a,b,d⟩:=this ls h4
  exact ⟨_,L,rfl,⟨.inr (.inr ⟨c,by rw [a,b,h1],Kh L⟩),d⟩⟩
variable {t e:TypeId}{v:Value}{ps:List MemPlace}{r:Reach}{base:Nat}
theorem Ut {H:Type}{enc:TypeId×Value→H}{W:World}{T:Ty}{d:DataW H}(hu:P.underlying t=some (.slice e)) (hT:TyOf P t (.sl T) 1) (hval:Value.okWide P W r base t v) (h:DataW.Trod enc P W 0 (fun _=>true) true t v d ps):
 ∃ u,Shape (.sl T) [u]∧VR (F6 W) u v:=by
 obtain ⟨a,len,cap,rfl⟩:=WideShapes.okWide_slice hu hval
 obtain ⟨fuel,hf⟩:=h
 obtain ⟨l,h1,h2,h3,h4⟩:=Tp fuel hT hf
 cases l with
 | nil=>simp at h2
 | cons u l=>
  have:l=[]:=by simp at h2;exact h2
  subst this
  cases h3 with
  | cons p q=>exact ⟨u,h1,p⟩
theorem ops_arg {H:Type}{enc:TypeId×Value→H}{W:World}{d:DataW H}(hu:P.underlying t=some (.slice e)) (hT:TyOf P t (.sl (.st tOp)) 1) (hval:Value.okWide P W r base t v) (h:DataW.Trod enc P W 0 (fun _=>true) true t v d ps):
 ∃ u L,VR (F6 W) u v∧OL.ok ⟨u,L⟩:=by
 obtain ⟨u,h1,h2⟩:=Ut hu hT hval h
 obtain ⟨v',L,e,hL⟩:=Zly h1
 cases e
 exact ⟨_,L,h2,hL⟩
end Go.AM
namespace Go.AM
def WK:Ty:=.sl .bool
theorem Zgt {l:List AV}(h:Shape WK l):∃ (v:AV) (ks:List Bool),l=[v]∧Sl 1 ks.length (BK ks) v:=by
 cases h with
 | nil _=>exact ⟨.nils,[],rfl,.inl ⟨rfl,rfl,rfl⟩⟩
 | es _=>exact ⟨.es,[],rfl,.inr (.inl ⟨rfl,rfl,rfl⟩)⟩
 | fz _ n m c ls h1 h2 h3 h4 h5=>
  have:∀ ls:List (List AV),(∀ l ∈ ls,Shape .bool l)→∃ ks:List Bool,ls.flatten=BK ks∧ks.length=ls.length:=by
   intro ls
   induction ls with
   | nil=>intro _;exact ⟨[],rfl,rfl⟩
   | cons l ls ih=>
    intro h
    obtain ⟨ks,a,b⟩:=ih (fun m hm=>h m (by simp [hm]))
    have hl:=h l (by simp)
    cases hl with
    | bool k=>exact ⟨k::ks,by rw [List.flatten_cons,a];rfl,by simp [b]⟩
  obtain ⟨ks,a,b⟩:=this ls h4
  exact ⟨_,ks,rfl,.inr (.inr ⟨c,by rw [a,b,h1],by rw [T6,Zpi]⟩)⟩
theorem bools_arg {H:Type}{enc:TypeId×Value→H}{W:World}{t e:TypeId}{v:Value}{d:DataW H}{ps:List MemPlace}{r:Reach}{base:Nat}(hu:P.underlying t=some (.slice e)) (hT:TyOf P t WK 1) (hval:Value.okWide P W r base t v) (h:DataW.Trod enc P W 0 (fun _=>true) true t v d ps):
 ∃ u ks,VR (F6 W) u v∧Sl 1 ks.length (BK ks) u:=by
 obtain ⟨u,h1,h2⟩:=Ut hu hT hval h
 obtain ⟨v',ks,e,hL⟩:=Zgt h1
 cases e
 exact ⟨_,ks,h2,hL⟩
attribute [local irreducible] W
open X
end Go.AM
