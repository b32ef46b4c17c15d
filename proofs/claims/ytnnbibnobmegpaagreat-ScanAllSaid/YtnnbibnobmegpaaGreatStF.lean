/-
 Functions of the program as the abstract machine reads them, and what is stated of them, checked by the kernel. No conditions.
-/
import Derived.Test.YtnnbibnobmegpaaGreatStB
import Derived.Test.YtnnbibnobmegpaaGreatStE
import Derived.Test.YtnnbibnobmegpaaGreatStC
import Derived.Test.YtnnbibnobmegpaaGreatStD
set_option linter.unusedVariables false
set_option linter.unusedSimpArgs false
set_option linter.unnecessarySimpa false
set_option maxRecDepth 100000
namespace Go.AM
attribute [local irreducible] W
open X
structure AI where
 x:CL
 d:DB
def AI.ok (a:AI):Prop:=a.x.ok∧a.d.ok
def AI.args (a:AI):List AV:=[a.x.c.v,a.x.lv,a.d.d.v]
variable {a:AI}
theorem AI.inja {b:AI}(ha:a.ok) (hb:b.ok) (h:a.args=b.args):a=b:=by
 obtain ⟨x,d⟩:=a
 obtain ⟨x',d'⟩:=b
 have h1:=CL.inj ha.1 hb.1 (Zor h).1 (Zor (Zor h).2).1
 have h2:=DB.inj ha.2 hb.2 (Zor (Zor (Zor h).2).2).1
 dsimp only at h1 h2
 subst h1 h2;rfl
theorem AI.hfa (h:a.ok):hfs a.args=true:=by
 show (true && ((true && (true && (true && (true && (AM.hf a.x.v && true))))) && (AM.hf a.d.d.v && true)))=true
 rw [h.1.v.hf,Dl.hf h.2.d];rfl
def AI.bd (a:AI):BD:=⟨a.x.c,a.x.l.age,a.x.l.seq,a.d⟩
def AI.blks (a:AI):List AV:=C5 (AN a.bd.note)::a.d.prs.map Bp
def AI.live (a:AI):List Lv:=a.x.l.live++[BV a.x.l.seq a.d.st (a.d.n:Int) (decide (0<a.d.pb.length))]
def AI.ring (a:AI):Ring:=⟨⟨a.x.l.age,a.x.l.seq+1,a.x.l.tail,a.x.l.used+(a.d.n:Int),a.live⟩,a.x.c⟩
def EJ (c:Cfg) (tl us:Int) (i:Nat) (b:AV):List AV:=[.int .i64 c.members,.int .u8 1,.int .i64 (1+((tl+us) % c.log+(i:Int)) % c.log),b]
def CX (c:Cfg) (tl us:Int):Nat→List AV→List AV
 | _,[]=>[]
 | i,b::l=>EJ c tl us i b++CX c tl us (i+1) l
theorem TA (c:Cfg) (tl us:Int):∀ (i:Nat) (l:List AV) (b:AV),CX c tl us i (l++[b])=CX c tl us i l++EJ c tl us (i+l.length) b
 | i,[],b=>by show EJ c tl us i b++[]=[]++_;rw [Zpq];rfl
 | i,x::l,b=>by
  show EJ c tl us i x++CX c tl us (i+1) (l++[b])=(EJ c tl us i x++CX c tl us (i+1) l)++_
  rw [TA c tl us (i+1) l b,List.append_assoc,Zo9,show i+1+l.length=i+(l.length+1) by omega]
theorem PM (c:Cfg) (tl us:Int):∀ (i:Nat) (l:List AV),(CX c tl us i l).length=l.length*4
 | i,[]=>rfl
 | i,x::l=>by
  show (EJ c tl us i x++CX c tl us (i+1) l).length=_
  rw [Zot,PM c tl us (i+1) l,Zo9]
  show 4+_=_
  omega
theorem Tx (L M:List Lv):Ai (L++M)=Ai L++Ai M:=by unfold Ai;rw [List.flatMap_append]
theorem N8 {l m:List AV}(h:hfs l=true) (h':hfs m=true):hfs (l++m)=true:=hfs_iff.2 fun v hv=>by
 rcases Zo7.1 hv with hv|hv
 ·exact hfs_iff.1 h v hv
 ·exact hfs_iff.1 h' v hv
theorem Kn (c:Cfg) (tl us:Int):∀ (i:Nat) (l:List AV),hfs l=true→hfs (CX c tl us i l)=true
 | i,[],_=>rfl
 | i,x::l,h=>by
  simp only [hfs,Zoh] at h
  refine N8 ?_ (Kn c tl us (i+1) l h.2)
  show (true && (true && (true && (AM.hf x && true))))=true
  rw [h.1];rfl
def GB (a:AI):AV:=
 if a.x.good∧DC a.x.c a.d.d=true then
  (if (Bq a.bd.note=true∧a.x.l.seq≠2147483648)∧BZ a.ring=true then .tup [.agg [.int .u32 a.x.l.age,.int .u32 (a.x.l.seq+1),.int .i64 a.x.l.tail,.int .i64 (a.x.l.used+(a.d.n:Int)),.fz (a.x.l.live.length+1) none (Ai a.live)],.fz a.d.n none (CX a.x.c a.x.l.tail a.x.l.used 0 a.blks),.int .i64 0]
  else .tup [.agg BH,.nils,.int .i64 9])
 else .tup [.agg BH,.nils,.int .i64 8]
def addF:Fam AI:=⟨AI.ok,AI.args,GB,fun x y hx hy h=>by rw [AI.inja hx hy h]⟩
theorem Zcz (a:AI):AM.hf (GB a)=true:=by
 unfold GB
 split
 ·split <;> rfl
 ·rfl
def Xn:AC:=match a35 with|.mk c _=>c
def JX (bv:AV) (n i:Nat) (q:AV):List (Nat×AV):=[(3,.ptr 0 0),(4,.ptr 1 0),(6,.ptr 2 0),(9,.ptr 3 0),(12,q),(98,bv),(99,.int .i64 (n:Int)),(100,.int .i64 (i:Int))]
def JZ (c:Cfg) (ag sq sq' tl us us':Int) (v:AV) (m:Nat) (L:List Lv) (A:List AV):Nat→List AObj
 | 0=>[.row 24 [.int .u32 c.id,.int .i64 c.members,.int .i64 c.chunk,.int .i64 c.rows,.int .i64 c.log,.int .i64 c.heads],.row 31 [.int .u32 ag,.int .u32 sq,.int .i64 tl,.int .i64 us,v],.row 31 BH,.row 82 [.int .u32 ag,.int .u32 sq',.int .i64 tl,.int .i64 us',.sl 4 0 m none,.int .u32 c.id,.int .i64 c.members,.int .i64 c.chunk,.int .i64 c.rows,.int .i64 c.log,.int .i64 c.heads],.row 66 (Ai L)]
 | _+1=>[.row 24 [.int .u32 c.id,.int .i64 c.members,.int .i64 c.chunk,.int .i64 c.rows,.int .i64 c.log,.int .i64 c.heads],.row 31 [.int .u32 ag,.int .u32 sq,.int .i64 tl,.int .i64 us,v],.row 31 BH,.row 82 [.int .u32 ag,.int .u32 sq',.int .i64 tl,.int .i64 us',.sl 4 0 m none,.int .u32 c.id,.int .i64 c.members,.int .i64 c.chunk,.int .i64 c.rows,.int .i64 c.log,.int .i64 c.heads],.row 66 (Ai L),.row 109 A]
def YC:Nat→AV
 | 0=>.nils
 | i+1=>.sl 5 0 (i+1) none
def OW:AC→Option AC
 | .loop b=>some b
 | .seq a b=>match OW a with|some x=>some x|none=>OW b
 | .block _ b=>OW b
 | _=>none
def Zmb:AC:=match OW Xn with|some b=>b|none=>.skip
variable {e:Env}{n:Nat}
theorem NS (hE:EM P e) (h35:Con e 74 onF.O) {c:Cfg}{ag sq sq' tl us us':Int}{v:AV}{m:Nat}{L:List Lv}{B:List AV}(hl:1≤c.log∧c.log≤255) (hmb:Aj c.members) (ht:0≤tl∧tl<c.log) (hu:0≤us∧us+(n:Int)≤c.log) (hv:AM.hf v=true) (hB:B.length=n) (hBf:hfs B=true) (hBz:∀ b ∈ B,∃ n c l,b=AV.fz n c l) {Q:EQ}
 (hQ:Q (.exit 0) (B9 102 (.bool false) (Am (JX (.fz n none B) n n (YC n)))) (Ac St0 (JZ c ag sq sq' tl us us' v m L (CX c tl us 0 B) n)) []):
 W P 0 none (.loop Zmb) (Am (JX (.fz n none B) n 0 .nils)) (Ac St0 (JZ c ag sq sq' tl us us' v m L [] 0)) [] Q:=by
 have hgf:hfs [.int .u32 ag,.int .u32 sq,.int .i64 tl,.int .i64 us,v]=true:=by show (true && (true && (true && (true && (AM.hf v && true)))))=true;rw [hv];rfl
 have hlf:=Cq L
 have hSl:Sl 1 n B (.fz n none B):=.inr (.inr ⟨none,rfl,by rw [hB,Zpi]⟩)
 have hP:0≤(tl+us) % c.log∧(tl+us) % c.log<c.log:=⟨Zpz _ (by omega),Zp1 _ (by omega)⟩
 have hOn1:0<n→∀ (K:AV→St→Prop) (s:St),K (.tup [.int .i64 ((tl+us) % c.log),.int .i64 0]) s→ESc e 74 [.int .i64 c.log,.int .i64 tl,.int .i64 us] s K:=fun hn K s hk=>
  ESc.fam onF h35 ⟨c.log,tl,us⟩ ⟨by unfold Aj;dsimp only;omega,by unfold Aj;dsimp only;omega,by unfold Aj;dsimp only;omega⟩ (by
   have:DT ⟨c.log,tl,us⟩=true:=by unfold DT GM;dsimp only;rw [Zok (by omega),Zok (by omega),Zok (by omega)];rfl
   show (if DT _ then _ else _)=_;rw [Zoj this]) hk
 have hOn2:∀ (i:Nat),i<n→∀ (K:AV→St→Prop) (s:St),(∀ q:Int,q=((tl+us) % c.log+(i:Int)) % c.log→0≤q→q<c.log→K (.tup [.int .i64 q,.int .i64 0]) s)→ESc e 74 [.int .i64 c.log,.int .i64 ((tl+us) % c.log),.int .i64 (i:Int)] s K:=fun i hi K s hk=>
  ESc.fam onF h35 ⟨c.log,(tl+us) % c.log,(i:Int)⟩ ⟨by unfold Aj;dsimp only;omega,by unfold Aj;dsimp only;omega,by unfold Aj;dsimp only;omega⟩ (by
   have:DT ⟨c.log,(tl+us) % c.log,(i:Int)⟩=true:=by unfold DT GM;dsimp only;rw [Zok (by omega),Zok (by omega),Zok (by omega)];rfl
   show (if DT _ then _ else _)=_;rw [Zoj this]) (hk _ rfl (Zpz _ (by omega)) (Zp1 _ (by omega)))
 refine Ce (α:=Nat) (fun i=>JX (.fz n none B) n i (YC i)) (fun i=>JZ c ag sq sq' tl us us' v m L (CX c tl us 0 (B.take i)) i) (fun i=>n-i) (fun i=>i≤n) 0 (Zoy _) Tells.refl ?_
 intro i hi
 refine A9 hE ?_
 by_cases hlt:i<n
 ·have hlb:i<B.length:=by omega
  have hbf:AM.hf B[i]=true:=hfs_iff.1 hBf _ (Zpg hlb)
  have hbg:B[i]?=some B[i]:=Zof hlb
  have hbz:=hBz _ (Zpg hlb)
  have htk:CX c tl us 0 (B.take (i+1))=CX c tl us 0 (B.take i)++[.int .i64 c.members,.int .u8 1,.int .i64 (1+((tl+us) % c.log+(i:Int)) % c.log),B[i]]:=by
   rw [Zos hlb,TA,Zo5,Nat.min_eq_left (by omega),Zou];rfl
  have haf:hfs (CX c tl us 0 (B.take (i+1)))=true:=Kn _ _ _ _ _ (UQ hBf _)
  revert htk hbf hbg hbz
  generalize B[i]=b
  intro hbf hbg hbz htk
  obtain ⟨b1,b2,b3,rfl⟩:=hbz
  rcases i with _|i
  ·conv=>whnf
   refine Ag rfl rfl (fun h=>?_) (fun h=>by omega);conv=>whnf
   refine A8 rfl hSl rfl hlt ?_;conv=>whnf
   refine EHead.mk (v:=.fz b1 b2 b3) (by rw [Zpi,Zoq,Zpo];exact hbg) ?_;conv=>whnf
   refine hOn1 (by omega) _ _ ?_;conv=>whnf
   refine hOn2 (0) hlt _ _ (fun q hq hq0 hq1=>?_)
   rw [← hq] at htk
   conv=>whnf
   refine Bu (a:=1) (b:=q) rfl rfl (by omega) ?_;conv=>whnf
   refine Cl (m:=1) rfl rfl rfl rfl (by decide) (by decide) ?_;conv=>whnf
   repeat' (first|((first|refine w7 rfl rfl (by omega) ?_|refine ⟨rfl,?_⟩);conv=>whnf)|fail)
   refine ⟨0+1,by omega,by omega,Abs.tells (rs:=[0,1,2,3,4,6]) ⟨by decide,⟨r9,r9,r9,r9,r9,r9,r9,r9,trivial⟩,⟨r9,o9,r9,r9,o9,⟨AD haf,by rw [Az haf,htk];rfl⟩,trivial⟩⟩⟩
  ·conv=>whnf
   refine Ag rfl rfl (fun h=>?_) (fun h=>by omega);conv=>whnf
   refine A8 rfl hSl rfl hlt ?_;conv=>whnf
   refine EHead.mk (v:=.fz b1 b2 b3) (by rw [Zpi,Zoq,Zpo];exact hbg) ?_;conv=>whnf
   refine hOn1 (by omega) _ _ ?_;conv=>whnf
   refine hOn2 (i+1) hlt _ _ (fun q hq hq0 hq1=>?_)
   rw [← hq] at htk
   conv=>whnf
   refine Bu (a:=1) (b:=q) rfl rfl (by omega) ?_;conv=>whnf
   refine BX (m:=1) rfl rfl rfl rfl (by rw [PM,Zo5];omega) rfl (by decide) (by omega) ?_;conv=>whnf
   repeat' (first|((first|refine w7 rfl rfl (by omega) ?_|refine ⟨rfl,?_⟩);conv=>whnf)|fail)
   refine ⟨i+1+1,by omega,by omega,Abs.tells (rs:=[0,1,2,3,4,7]) ⟨by decide,⟨r9,r9,r9,r9,r9,r9,r9,r9,trivial⟩,⟨r9,o9,r9,r9,o9,⟨AD haf,by rw [Az haf,htk];rfl⟩,trivial⟩⟩⟩
 ·have hin:i=n:=by omega
  subst hin
  have hBt:B.take i=B:=Zoo (by omega)
  rw [hBt]
  conv=>whnf
  refine Ag rfl rfl (fun h=>by omega) (fun h=>?_);conv=>whnf
  exact hQ
variable {r:Ring}
theorem Ow {s:St}{q p:Nat}(h1:s.get q=some (.row 82 [.int .u32 r.l.age,.int .u32 r.l.seq,.int .i64 r.l.tail,.int .i64 r.l.used,.sl p 0 n none,.int .u32 r.c.id,.int .i64 r.c.members,.int .i64 r.c.chunk,.int .i64 r.c.rows,.int .i64 r.c.log,.int .i64 r.c.heads]))
 (h2:s.get p=some (.row 66 (Ai r.l.live))) (hn:r.l.live.length=n) (hr:r.ok):RAt s (.ptr q 0) r (.fz n none (Ai r.l.live)):=by
 refine ⟨.ptr q 0 82 _ _ _ h1 (fun i y hy=>by rw [Zou];exact hy) (.cons (.plain _ rfl) (.cons (.plain _ rfl) (.cons (.plain _ rfl) (.cons (.plain _ rfl) (.cons (.sl p 0 n none none 66 _ _ _ h2 (fun i y hy=>by rw [Zou];exact hy) (Es (Cq _)) (.inl rfl)) (Es (l:=r.c.c) rfl)))))),?_,hr⟩
 exact .inr (.inr ⟨none,by rw [hn],ES _⟩)
theorem LK (h:BZ r=true):r.l.used≤r.c.log:=by
 unfold BZ at h
 simp only [Zoh,Zpc] at h
 exact h.1
theorem Zle (hE:EM P e) (h80:Con e 72 FD) (h50:Con e 73 dchkF.O) (h48:Con e 49 blkF.O) (h81:Con e 55 (CV Gi (fun r=>.bool (BZ r)))) (h35:Con e 74 onF.O):OvOk P 35 addF.O:=by
 refine Bk g35.b fun a ha=>?_
 refine ⟨AI.hfa ha,Zcz a,C.of_G hE g35 ?_⟩
 obtain ⟨O,hO⟩:∃ O,O=GB a:=⟨_,rfl⟩
 show VW P e 0 Xn (Ah a.args 0 .lf) St0 none [] (AR [.cells 6 5,.tmp 7,.tmp 8] (fun v s'=>Frz s' v (GB a)))
 rw [← hO]
 obtain ⟨x,d⟩:=a
 obtain ⟨hx,hd⟩:=ha
 dsimp only at hx hd
 have hon:=fun s=>Ha hx s
 by_cases hG:x.good
 ·have hon:=fun s=>(Ha hx s).trans (Zoj hG)
  have hon':=hon
  have hv:=hx.v
  have hlen:=hx.l.len
  have hM:=hG.1
  have hgd:=Of hG.2
  obtain ⟨n,hn⟩:∃ n,n=d.n:=⟨_,rfl⟩
  obtain ⟨B,hB⟩:∃ B,B=AI.blks ⟨x,d⟩:=⟨_,rfl⟩
  obtain ⟨p,hp⟩:∃ p,p=decide (0<d.pb.length):=⟨_,rfl⟩
  obtain ⟨bN,hbN⟩:∃ b,b=Bq (AI.bd ⟨x,d⟩).note:=⟨_,rfl⟩
  obtain ⟨bD,hbD⟩:∃ b,b=DC x.c d.d:=⟨_,rfl⟩
  have hdk:∀ (K:AV→St→Prop) (s:St),(bD=true→K (.int .i64 0) s)→(bD=false→K (.int .i64 8) s)→ESc e 73 [x.c.v,d.d.v] s K:=fun K s k1 k2=>by
   cases hq:bD
   ·exact ESc.fam dchkF h50 ⟨x.c,d.d⟩ ⟨hx.c,hd.d⟩ (by show AV.int _ (if CD.good _ then _ else _)=_;rw [Zon (fun h:CD.good _=>by have h2:DC x.c d.d=true:=h.2;rw [← hbD,hq] at h2;cases h2)]) (k2 hq)
   ·exact ESc.fam dchkF h50 ⟨x.c,d.d⟩ ⟨hx.c,hd.d⟩ (by show AV.int _ (if CD.good _ then _ else _)=_;rw [Zoj (show CD.good _ from ⟨hM,by show DC x.c d.d=true;rw [← hbD];exact hq⟩)]) (k1 hq)
  have hBl:B.length=n:=by rw [hB,hn];show (_::d.prs.map Bp).length=_;rw [Zo9,Zom];rfl
  have hBf:hfs B=true:=by rw [hB];show (true && hfs (d.prs.map Bp))=true;rw [BY];rfl
  have hBz:∀ b ∈ B,∃ n c l,b=AV.fz n c l:=by
   rw [hB]
   intro b hb
   rcases Zpp.1 (show b ∈ C5 _::d.prs.map Bp from hb) with rfl|hb
   ·exact ⟨_,_,_,rfl⟩
   ·obtain ⟨q,_,rfl⟩:=Zpf.1 hb
    exact ⟨_,_,_,rfl⟩
  have hn2:bD=true→2≤n∧(n:Int)≤x.c.members+1:=fun h=>by rw [hn];exact M1 hM (by rw [← hbD];exact h)
  have hblk:bD=true→∀ (K:AV→St→Prop) (s:St),(bN=true→K (.tup [.fz n none B,.int .i64 0]) s)→(bN=false→K (.tup [.nils,.int .i64 2]) s)→ESc e 49 [x.c.v,.int .u32 x.l.age,.int .u32 x.l.seq,d.d.v] s K:=fun hD K s k1 k2=>by
   cases hq:bN
   ·exact ESc.fam blkF h48 (AI.bd ⟨x,d⟩) ⟨hx.c,hx.l.age,hx.l.seq,hd⟩ (by show Hl _=_;unfold Hl;rw [Zoj ⟨hM,by rw [← hD,hbD];rfl⟩,← hbN,hq];rfl) (k2 hq)
   ·exact ESc.fam blkF h48 (AI.bd ⟨x,d⟩) ⟨hx.c,hx.l.age,hx.l.seq,hd⟩ (by show Hl _=_;unfold Hl;rw [Zoj ⟨hM,by rw [← hD,hbD];rfl⟩,← hbN,hq,hn,hB];rfl) (k1 hq)
  have hO8:bD=false→O=.tup [.agg BH,.nils,.int .i64 8]:=fun h=>by
   rw [hO];unfold GB;rw [Zon];rintro ⟨_,h2⟩;rw [← hbD,h] at h2;cases h2
  have hO9:bD=true→¬ ((bN=true∧x.l.seq≠2147483648)∧BZ ⟨⟨x.l.age,x.l.seq+1,x.l.tail,x.l.used+(n:Int),x.l.live++[BV x.l.seq d.st (n:Int) p]⟩,x.c⟩=true)→O=.tup [.agg BH,.nils,.int .i64 9]:=fun h h2=>by
   rw [hO];unfold GB
   rw [Zoj ⟨hG,by rw [← hbD];exact h⟩,Zon]
   rw [← hbN]
   show ¬ (_∧BZ ⟨⟨x.l.age,x.l.seq+1,x.l.tail,x.l.used+(d.n:Int),x.l.live++[BV x.l.seq d.st (d.n:Int) (decide (0<d.pb.length))]⟩,x.c⟩=true)
   rw [← hn,← hp];exact h2
  have hO0:bD=true→((bN=true∧x.l.seq≠2147483648)∧BZ ⟨⟨x.l.age,x.l.seq+1,x.l.tail,x.l.used+(n:Int),x.l.live++[BV x.l.seq d.st (n:Int) p]⟩,x.c⟩=true)→O=.tup [.agg [.int .u32 x.l.age,.int .u32 (x.l.seq+1),.int .i64 x.l.tail,.int .i64 (x.l.used+(n:Int)),.fz (x.l.live.length+1) none (Ai (x.l.live++[BV x.l.seq d.st (n:Int) p]))],.fz n none (CX x.c x.l.tail x.l.used 0 B),.int .i64 0]:=fun h h2=>by
   rw [hO];unfold GB
   rw [Zoj ⟨hG,by rw [← hbD];exact h⟩,Zoj]
   ·show AV.tup [.agg [_,_,_,.int .i64 (_+(d.n:Int)),.fz _ _ (Ai (x.l.live++[BV x.l.seq d.st (d.n:Int) (decide (0<d.pb.length))]))],.fz d.n none (CX _ _ _ _ (AI.blks ⟨x,d⟩)),_]=_
    rw [← hn,← hp,← hB]
   ·rw [← hbN]
    show (_∧BZ ⟨⟨x.l.age,x.l.seq+1,x.l.tail,x.l.used+(d.n:Int),x.l.live++[BV x.l.seq d.st (d.n:Int) (decide (0<d.pb.length))]⟩,x.c⟩=true)
    rw [← hn,← hp];exact h2
  have hdp:=hd.pb.1
  have hst:=hd.d.stripe
  clear hO hbN hB hbD
  have hxl:=hx.l
  have hxc:=hx.c
  have hxl1:=hx.l.len
  clear hx hon
  have hon:=hon'
  obtain ⟨c,⟨ag,sq,tl,us,L⟩,v⟩:=x
  have hsum:us=A1 L:=hgd.sum
  have hbb:=I6 (A:=L) (Mk hM hgd)
  have hmay:=hM
  unfold Cfg.may at hmay
  have hus:us≤c.log:=hgd.used
  have hsq:1≤sq∧sq≤2147483648:=hgd.seq
  have htl:0≤tl∧tl<c.log:=hgd.tail
  dsimp only at hv hlen hdk hblk hn2 hO8 hO9 hO0 hmay hst
  obtain ⟨st,sv,sl,bv,uz,bs,pv,pb⟩:=d
  dsimp only at hp hdp hst
  have hlog:(L.length:Int)≤c.log:=hgd.len
  have hrok:n≤17→Ring.ok ⟨⟨ag,sq+1,tl,us+(n:Int),L++[BV sq st (n:Int) p]⟩,c⟩:=fun h17=>by
   refine ⟨⟨hxl.age,by unfold AK;dsimp only;omega,by unfold Aj;dsimp only;omega,by unfold Aj;dsimp only;omega,?_,by dsimp only;rw [Zot];show L.length+1≤1000;omega⟩,hxc⟩
   intro z hz
   rcases Zo7.1 hz with hz|hz
   ·exact hxl.live z hz
   ·simp at hz;subst hz
    exact ⟨by unfold AK;show 0≤sq∧sq<_;omega,hst,by unfold Aj;show _≤(n:Int)∧(n:Int)≤_;omega⟩
  conv=>whnf
  refine ESc.ov h80 (hon _) ?_
  rcases hv.cases with ⟨rfl,rfl⟩|⟨rfl,rfl⟩|⟨rfl,cp,rfl⟩|⟨y,M,cp,hLM,rfl⟩
  ·conv=>whnf
   repeat' (first|((refine w5 rfl rfl ?_ ?_) <;> intro _ <;> first|(exfalso;omega)|(conv=>whnf))|fail)
   refine hdk _ _ (fun hbD=>?_) (fun hbD=>?_)
   rotate_left
   ·conv=>whnf
    repeat' (first|((refine w6 rfl rfl ?_ ?_) <;> intro _ <;> first|(exfalso;omega)|(conv=>whnf))|fail)
    rw [hO8 hbD];exact .plain _ rfl
   conv=>whnf
   repeat' (first|((refine w6 rfl rfl ?_ ?_) <;> intro _ <;> first|(exfalso;omega)|(conv=>whnf))|fail)
   have hn2:=hn2 hbD
   have hrok:=hrok (by omega)
   have hO9:=hO9 hbD
   have hO0:=hO0 hbD
   refine hblk hbD _ _ (fun hbN=>?_) (fun hbN=>?_)
   rotate_left
   ·conv=>whnf
    repeat' (first|((refine w6 rfl rfl ?_ ?_) <;> intro _ <;> first|(exfalso;omega)|(conv=>whnf))|fail)
    rw [hO9 (fun h=>by rw [hbN] at h;cases h.1.1)];exact .plain _ rfl
   conv=>whnf
   refine B7 rfl rfl (fun h=>absurd rfl h) (fun _=>?_);conv=>whnf
   refine B2 rfl rfl (fun hq=>?_) (fun hq=>?_)
   ·conv=>whnf
    skip
    rw [hO9 (fun h=>h.1.2 hq)];exact .plain _ rfl
   conv=>whnf
   repeat' (first|(refine Af rfl hdp ?_;conv=>whnf)|(refine LV (b:=0) rfl rfl (fun q hq2=>?_);obtain rfl:p=q:=P3 (a:=0) (b:=0) hp hq2;conv=>whnf)|(refine Cl (m:=1) rfl rfl rfl rfl (by decide) (by decide) ?_;conv=>whnf)|(refine Nu (a:=sq) (b:=1) rfl rfl (by omega) ?_;conv=>whnf)|(refine Bu (a:=us) (b:=(n:Int)) rfl rfl (by omega) ?_;conv=>whnf)|(refine w17 rfl ?_;conv=>whnf)|fail)
   refine ESc.ov h81 (I0 (r:=⟨⟨ag,sq+1,tl,us+(n:Int),([]:List Lv)++[BV sq st (n:Int) p]⟩,c⟩) (v:=.fz (([]:List Lv).length+1) none (Ai (([]:List Lv)++[BV sq st (n:Int) p]))) ?_ hM) ?_
   ·exact Ow rfl rfl (by simp) hrok
   cases hR:BZ ⟨⟨ag,sq+1,tl,us+(n:Int),([]:List Lv)++[BV sq st (n:Int) p]⟩,c⟩
   ·conv=>whnf
    repeat' (first|(refine w13 rfl ?_;conv=>whnf)|fail)
    rw [hO9 (fun h=>by rw [h.2] at hR;cases hR)];exact .plain _ rfl
   have hun:=LK hR
   dsimp only at hun
   conv=>whnf
   repeat' (first|((first|refine w12 rfl ?_|refine w17 rfl ?_);conv=>whnf)|fail)
   refine W.tells (Abs.tells (tl:=JX (.fz n none B) n 0 .nils) (os:=JZ c ag sq (sq+1) tl us (us+(n:Int)) (.nils) (([]:List Lv).length+1) (([]:List Lv)++[BV sq st (n:Int) p]) [] 0) (rs:=[0,1,3,4,6]) ⟨by decide,⟨r9,r9,r9,r9,r9,r9,r9,r9,trivial⟩,⟨r9,r9,r9,r9,o9 (Cq _),trivial⟩⟩) (NS (c:=c) (ag:=ag) (sq:=sq) (sq':=sq+1) (tl:=tl) (us:=us) (us':=us+(n:Int)) (n:=n) (B:=B) hE h35 (by omega) hxc.members htl (by omega) rfl hBl hBf hBz ?_)
   obtain ⟨k,hk⟩:∃ k,n=k+1:=⟨n-1,by omega⟩
   subst hk
   conv=>whnf
   rw [hO0 ⟨⟨hbN,hq⟩,hR⟩]
   exact .tup _ _ (.cons (.agg _ _ (.cons (.plain _ rfl) (.cons (.plain _ rfl) (.cons (.plain _ rfl) (.cons (.plain _ rfl) (.cons (.sl 4 0 _ none none 66 _ _ _ rfl (fun i y hy=>by rw [Zou];exact hy) (Es (Cq _)) (.inl rfl)) .nil)))))) (.cons (.sl 5 0 _ none none 109 _ _ _ rfl (fun i y hy=>by rw [Zou];exact hy) (Es (Kn _ _ _ _ _ hBf)) (.inl rfl)) (.cons (.plain _ rfl) .nil)))
  ·conv=>whnf
   repeat' (first|((refine w5 rfl rfl ?_ ?_) <;> intro _ <;> first|(exfalso;omega)|(conv=>whnf))|fail)
   refine hdk _ _ (fun hbD=>?_) (fun hbD=>?_)
   rotate_left
   ·conv=>whnf
    repeat' (first|((refine w6 rfl rfl ?_ ?_) <;> intro _ <;> first|(exfalso;omega)|(conv=>whnf))|fail)
    rw [hO8 hbD];exact .plain _ rfl
   conv=>whnf
   repeat' (first|((refine w6 rfl rfl ?_ ?_) <;> intro _ <;> first|(exfalso;omega)|(conv=>whnf))|fail)
   have hn2:=hn2 hbD
   have hrok:=hrok (by omega)
   have hO9:=hO9 hbD
   have hO0:=hO0 hbD
   refine hblk hbD _ _ (fun hbN=>?_) (fun hbN=>?_)
   rotate_left
   ·conv=>whnf
    repeat' (first|((refine w6 rfl rfl ?_ ?_) <;> intro _ <;> first|(exfalso;omega)|(conv=>whnf))|fail)
    rw [hO9 (fun h=>by rw [hbN] at h;cases h.1.1)];exact .plain _ rfl
   conv=>whnf
   refine B7 rfl rfl (fun h=>absurd rfl h) (fun _=>?_);conv=>whnf
   refine B2 rfl rfl (fun hq=>?_) (fun hq=>?_)
   ·conv=>whnf
    skip
    rw [hO9 (fun h=>h.1.2 hq)];exact .plain _ rfl
   conv=>whnf
   repeat' (first|(refine Af rfl hdp ?_;conv=>whnf)|(refine LV (b:=0) rfl rfl (fun q hq2=>?_);obtain rfl:p=q:=P3 (a:=0) (b:=0) hp hq2;conv=>whnf)|(refine TE (m:=1) rfl rfl rfl rfl rfl (by decide) (by decide) (by decide) ?_;conv=>whnf)|(refine Nu (a:=sq) (b:=1) rfl rfl (by omega) ?_;conv=>whnf)|(refine Bu (a:=us) (b:=(n:Int)) rfl rfl (by omega) ?_;conv=>whnf)|(refine w17 rfl ?_;conv=>whnf)|fail)
   refine ESc.ov h81 (I0 (r:=⟨⟨ag,sq+1,tl,us+(n:Int),([]:List Lv)++[BV sq st (n:Int) p]⟩,c⟩) (v:=.fz (([]:List Lv).length+1) none (Ai (([]:List Lv)++[BV sq st (n:Int) p]))) ?_ hM) ?_
   ·exact Ow rfl rfl (by simp) hrok
   cases hR:BZ ⟨⟨ag,sq+1,tl,us+(n:Int),([]:List Lv)++[BV sq st (n:Int) p]⟩,c⟩
   ·conv=>whnf
    repeat' (first|(refine w13 rfl ?_;conv=>whnf)|fail)
    rw [hO9 (fun h=>by rw [h.2] at hR;cases hR)];exact .plain _ rfl
   have hun:=LK hR
   dsimp only at hun
   conv=>whnf
   repeat' (first|((first|refine w12 rfl ?_|refine w17 rfl ?_);conv=>whnf)|fail)
   refine W.tells (Abs.tells (tl:=JX (.fz n none B) n 0 .nils) (os:=JZ c ag sq (sq+1) tl us (us+(n:Int)) (.es) (([]:List Lv).length+1) (([]:List Lv)++[BV sq st (n:Int) p]) [] 0) (rs:=[0,1,3,4,7]) ⟨by decide,⟨r9,r9,r9,r9,r9,r9,r9,r9,trivial⟩,⟨r9,r9,r9,r9,o9 (Cq _),trivial⟩⟩) (NS (c:=c) (ag:=ag) (sq:=sq) (sq':=sq+1) (tl:=tl) (us:=us) (us':=us+(n:Int)) (n:=n) (B:=B) hE h35 (by omega) hxc.members htl (by omega) rfl hBl hBf hBz ?_)
   obtain ⟨k,hk⟩:∃ k,n=k+1:=⟨n-1,by omega⟩
   subst hk
   conv=>whnf
   rw [hO0 ⟨⟨hbN,hq⟩,hR⟩]
   exact .tup _ _ (.cons (.agg _ _ (.cons (.plain _ rfl) (.cons (.plain _ rfl) (.cons (.plain _ rfl) (.cons (.plain _ rfl) (.cons (.sl 4 0 _ none none 66 _ _ _ rfl (fun i y hy=>by rw [Zou];exact hy) (Es (Cq _)) (.inl rfl)) .nil)))))) (.cons (.sl 5 0 _ none none 109 _ _ _ rfl (fun i y hy=>by rw [Zou];exact hy) (Es (Kn _ _ _ _ _ hBf)) (.inl rfl)) (.cons (.plain _ rfl) .nil)))
  ·conv=>whnf
   repeat' (first|((refine w5 rfl rfl ?_ ?_) <;> intro _ <;> first|(exfalso;omega)|(conv=>whnf))|fail)
   refine hdk _ _ (fun hbD=>?_) (fun hbD=>?_)
   rotate_left
   ·conv=>whnf
    repeat' (first|((refine w6 rfl rfl ?_ ?_) <;> intro _ <;> first|(exfalso;omega)|(conv=>whnf))|fail)
    rw [hO8 hbD];exact .plain _ rfl
   conv=>whnf
   repeat' (first|((refine w6 rfl rfl ?_ ?_) <;> intro _ <;> first|(exfalso;omega)|(conv=>whnf))|fail)
   have hn2:=hn2 hbD
   have hrok:=hrok (by omega)
   have hO9:=hO9 hbD
   have hO0:=hO0 hbD
   refine hblk hbD _ _ (fun hbN=>?_) (fun hbN=>?_)
   rotate_left
   ·conv=>whnf
    repeat' (first|((refine w6 rfl rfl ?_ ?_) <;> intro _ <;> first|(exfalso;omega)|(conv=>whnf))|fail)
    rw [hO9 (fun h=>by rw [hbN] at h;cases h.1.1)];exact .plain _ rfl
   conv=>whnf
   refine B7 rfl rfl (fun h=>absurd rfl h) (fun _=>?_);conv=>whnf
   refine B2 rfl rfl (fun hq=>?_) (fun hq=>?_)
   ·conv=>whnf
    skip
    rw [hO9 (fun h=>h.1.2 hq)];exact .plain _ rfl
   conv=>whnf
   repeat' (first|(refine Af rfl hdp ?_;conv=>whnf)|(refine LV (b:=0) rfl rfl (fun q hq2=>?_);obtain rfl:p=q:=P3 (a:=0) (b:=0) hp hq2;conv=>whnf)|(refine TE (m:=1) rfl rfl rfl rfl rfl (by decide) (by decide) (by decide) ?_;conv=>whnf)|(refine Nu (a:=sq) (b:=1) rfl rfl (by omega) ?_;conv=>whnf)|(refine Bu (a:=us) (b:=(n:Int)) rfl rfl (by omega) ?_;conv=>whnf)|(refine w17 rfl ?_;conv=>whnf)|fail)
   refine ESc.ov h81 (I0 (r:=⟨⟨ag,sq+1,tl,us+(n:Int),([]:List Lv)++[BV sq st (n:Int) p]⟩,c⟩) (v:=.fz (([]:List Lv).length+1) none (Ai (([]:List Lv)++[BV sq st (n:Int) p]))) ?_ hM) ?_
   ·exact Ow rfl rfl (by simp) hrok
   cases hR:BZ ⟨⟨ag,sq+1,tl,us+(n:Int),([]:List Lv)++[BV sq st (n:Int) p]⟩,c⟩
   ·conv=>whnf
    repeat' (first|(refine w13 rfl ?_;conv=>whnf)|fail)
    rw [hO9 (fun h=>by rw [h.2] at hR;cases hR)];exact .plain _ rfl
   have hun:=LK hR
   dsimp only at hun
   conv=>whnf
   repeat' (first|((first|refine w12 rfl ?_|refine w17 rfl ?_);conv=>whnf)|fail)
   refine W.tells (Abs.tells (tl:=JX (.fz n none B) n 0 .nils) (os:=JZ c ag sq (sq+1) tl us (us+(n:Int)) (.fz 0 cp []) (([]:List Lv).length+1) (([]:List Lv)++[BV sq st (n:Int) p]) [] 0) (rs:=[0,1,3,4,7]) ⟨by decide,⟨r9,r9,r9,r9,r9,r9,r9,r9,trivial⟩,⟨r9,r9,r9,r9,o9 (Cq _),trivial⟩⟩) (NS (c:=c) (ag:=ag) (sq:=sq) (sq':=sq+1) (tl:=tl) (us:=us) (us':=us+(n:Int)) (n:=n) (B:=B) hE h35 (by omega) hxc.members htl (by omega) rfl hBl hBf hBz ?_)
   obtain ⟨k,hk⟩:∃ k,n=k+1:=⟨n-1,by omega⟩
   subst hk
   conv=>whnf
   rw [hO0 ⟨⟨hbN,hq⟩,hR⟩]
   exact .tup _ _ (.cons (.agg _ _ (.cons (.plain _ rfl) (.cons (.plain _ rfl) (.cons (.plain _ rfl) (.cons (.plain _ rfl) (.cons (.sl 4 0 _ none none 66 _ _ _ rfl (fun i y hy=>by rw [Zou];exact hy) (Es (Cq _)) (.inl rfl)) .nil)))))) (.cons (.sl 5 0 _ none none 109 _ _ _ rfl (fun i y hy=>by rw [Zou];exact hy) (Es (Kn _ _ _ _ _ hBf)) (.inl rfl)) (.cons (.plain _ rfl) .nil)))
  ·subst hLM
   have hml:M.length+1≤1000:=hlen
   conv=>whnf
   repeat' (first|((refine w5 rfl rfl ?_ ?_) <;> intro _ <;> first|(exfalso;omega)|(conv=>whnf))|fail)
   refine hdk _ _ (fun hbD=>?_) (fun hbD=>?_)
   rotate_left
   ·conv=>whnf
    repeat' (first|((refine w6 rfl rfl ?_ ?_) <;> intro _ <;> first|(exfalso;omega)|(conv=>whnf))|fail)
    rw [hO8 hbD];exact .plain _ rfl
   conv=>whnf
   repeat' (first|((refine w6 rfl rfl ?_ ?_) <;> intro _ <;> first|(exfalso;omega)|(conv=>whnf))|fail)
   have hn2:=hn2 hbD
   have hrok:=hrok (by omega)
   have hO9:=hO9 hbD
   have hO0:=hO0 hbD
   refine hblk hbD _ _ (fun hbN=>?_) (fun hbN=>?_)
   rotate_left
   ·conv=>whnf
    repeat' (first|((refine w6 rfl rfl ?_ ?_) <;> intro _ <;> first|(exfalso;omega)|(conv=>whnf))|fail)
    rw [hO9 (fun h=>by rw [hbN] at h;cases h.1.1)];exact .plain _ rfl
   conv=>whnf
   refine B7 rfl rfl (fun h=>absurd rfl h) (fun _=>?_);conv=>whnf
   refine B2 rfl rfl (fun hq=>?_) (fun hq=>?_)
   ·conv=>whnf
    skip
    rw [hO9 (fun h=>h.1.2 hq)];exact .plain _ rfl
   conv=>whnf
   repeat' (first|(refine Af rfl hdp ?_;conv=>whnf)|(refine LV (b:=0) rfl rfl (fun q hq2=>?_);obtain rfl:p=q:=P3 (a:=0) (b:=0) hp hq2;conv=>whnf)|(refine BX (m:=1) rfl rfl rfl rfl (ES _) rfl (by decide) (by omega) ?_;conv=>whnf)|(refine Nu (a:=sq) (b:=1) rfl rfl (by omega) ?_;conv=>whnf)|(refine Bu (a:=us) (b:=(n:Int)) rfl rfl (by omega) ?_;conv=>whnf)|(refine w17 rfl ?_;conv=>whnf)|fail)
   refine ESc.ov h81 (I0 (r:=⟨⟨ag,sq+1,tl,us+(n:Int),(y::M)++[BV sq st (n:Int) p]⟩,c⟩) (v:=.fz ((y::M).length+1) none (Ai ((y::M)++[BV sq st (n:Int) p]))) ?_ hM) ?_
   ·exact Ow rfl (by rw [Tx];rfl) (by simp) hrok
   cases hR:BZ ⟨⟨ag,sq+1,tl,us+(n:Int),(y::M)++[BV sq st (n:Int) p]⟩,c⟩
   ·conv=>whnf
    repeat' (first|(refine w13 rfl ?_;conv=>whnf)|fail)
    rw [hO9 (fun h=>by rw [h.2] at hR;cases hR)];exact .plain _ rfl
   have hun:=LK hR
   dsimp only at hun
   conv=>whnf
   repeat' (first|((first|refine w12 rfl ?_|refine w17 rfl ?_);conv=>whnf)|fail)
   refine W.tells (Abs.tells (tl:=JX (.fz n none B) n 0 .nils) (os:=JZ c ag sq (sq+1) tl us (us+(n:Int)) (.fz (M.length+1) cp (Ai (y::M))) ((y::M).length+1) ((y::M)++[BV sq st (n:Int) p]) [] 0) (rs:=[0,1,3,4,7]) ⟨by decide,⟨r9,r9,r9,r9,r9,r9,r9,r9,trivial⟩,⟨r9,r9,r9,r9,⟨AD (Cq _),by rw [Az (Cq _)];exact (by rw [Tx];rfl)⟩,trivial⟩⟩) (NS (c:=c) (ag:=ag) (sq:=sq) (sq':=sq+1) (tl:=tl) (us:=us) (us':=us+(n:Int)) (n:=n) (B:=B) hE h35 (by omega) hxc.members htl (by omega) rfl hBl hBf hBz ?_)
   obtain ⟨k,hk⟩:∃ k,n=k+1:=⟨n-1,by omega⟩
   subst hk
   conv=>whnf
   rw [hO0 ⟨⟨hbN,hq⟩,hR⟩]
   exact .tup _ _ (.cons (.agg _ _ (.cons (.plain _ rfl) (.cons (.plain _ rfl) (.cons (.plain _ rfl) (.cons (.plain _ rfl) (.cons (.sl 4 0 _ none none 66 _ _ _ rfl (fun i y hy=>by rw [Zou];exact hy) (Es (Cq _)) (.inl rfl)) .nil)))))) (.cons (.sl 5 0 _ none none 109 _ _ _ rfl (fun i y hy=>by rw [Zou];exact hy) (Es (Kn _ _ _ _ _ hBf)) (.inl rfl)) (.cons (.plain _ rfl) .nil)))
 ·have hon:=fun s=>(Ha hx s).trans (Zon hG)
  have hout:O=.tup [.agg BH,.nils,.int .i64 8]:=by rw [hO];unfold GB;rw [Zon (fun h=>hG h.1)]
  rw [hout]
  obtain ⟨c,⟨ag,sq,tl,us,L⟩,v⟩:=x
  conv=>whnf
  refine ESc.ov h80 (hon _) ?_;conv=>whnf
  repeat' (first|((first|refine w5 rfl rfl ?_ ?_|refine w6 rfl rfl ?_ ?_) <;> intro _ <;> first|(exfalso;omega)|(conv=>whnf))|fail)
  exact .plain _ rfl
end Go.AM
namespace Go.AM
attribute [local irreducible] W
open X
def D6 (p:Nat) (n j:Nat):AV:=if j<n then .sl p (j*6) (n-j) none else .es
def CL.mvSup (x:CL):Sup:=⟨x.c.id,x.l.age,((x.l.live.drop (Ay x.l.live)).head?.map Lv.seq).getD x.l.seq,BP x.c.log x.l.tail x.l.live (Ay x.l.live)⟩
def HU (x:CL):AV:=
 if x.good then
  (if Ay x.l.live=0 then .tup [.agg BH,.nils,.int .i64 6]
   else .tup [.agg [.int .u32 x.l.age,.int .u32 x.l.seq,.int .i64 (BP x.c.log x.l.tail x.l.live (Ay x.l.live)),.int .i64 (C7 x.l.used x.l.live (Ay x.l.live)),CC .es (x.l.live.drop (Ay x.l.live))],
    .fz 1 (some 1) [.int .i64 x.c.members,.int .u8 2,.int .i64 0,.fz 128 (some 128) (Ab (Bg x.mvSup.id.toNat x.mvSup.age.toNat x.mvSup.seq.toNat x.mvSup.tail.toNat))],.int .i64 0])
 else .tup [.agg BH,.nils,.int .i64 8]
def moveF:Fam CL:=⟨CL.ok,CL.args,HU,fun x y hx hy h=>by rw [CL.inja hx hy h]⟩
variable {n p j:Nat}
theorem WX {m:Nat}(h:p<m):bd m (D6 p n j)=true:=by
 unfold D6;split
 ·simpa [bd] using h
 ·rfl
theorem VM {ρ:Nat→Nat}(h:ρ p=p):A2 ρ (D6 p n j)=D6 p n j:=by
 unfold D6;split
 ·show AV.sl (ρ p) _ _ _=_;rw [h]
 ·rfl
variable {t:AT}{s:St}{k:AV→St→Prop}{x:AO}{r o:Nat}
theorem Zi3 {y:AO}{c:Option Nat}(hx:ev x t=.some (.sl r o n c)) (hy:ev y t=.some .nils) (hk:k (.bool false) s):EPrim (.eqb 2 false x y) t s k:=by
 refine EPrim.mk (v:=.bool false) (s':=s) (fun e rec=>?_) hk
 show wth x t _=_;unfold wth;rw [hx]
 show wth y t _=_;unfold wth;rw [hy];rfl
theorem ZD {es l h:Nat}{lo hi:Option AO}(hx:ev x t=.some (.sl r o n none)) (hlo:B3 t lo 0=.n l) (hhi:B3 t hi n=.n h) (h1:l≤h) (h2:h≤n) (h3:¬ l<n) (hk:k .es s):EPrim (.slc es x lo hi none) t s k:=by
 refine EPrim.mk (fun e rec=>?_) hk
 show wth x t _=_;unfold wth;rw [hx]
 show (NR.rec .fail _ (B3 t lo 0):RV)=_;rw [hlo]
 show (NR.rec .fail _ (B3 t hi n):RV)=_;rw [hhi]
 show gd (Nat.ble l h && Nat.ble h n) (Bool.rec (.ok .es s) (.ok (.sl r (o+l*es) (h-l) none) s) (Nat.blt l n))=_
 rw [Zo6 h1,Zo6 h2,show Nat.blt l n=false by rw [← Zqg,Zpx];exact h3];rfl
theorem Zfb {e:Env}(hE:EM P e) (h80:Con e 72 FD) (h35:Con e 74 onF.O) (h84:Con e 9 wrF.O) (h85:Inl e 75 Xi [.tmp 2]):OvOk P 39 moveF.O:=by
 refine Bk g39.b ?_
 intro x hx
 refine ⟨CL.hfa hx,?_,C.of_G hE g39 ?_⟩
 ·show AM.hf (HU x)=true
  unfold HU
  split
  ·split
   ·rfl
   ·show ((true && (true && (true && (true && (AM.hf (CC _ _) && true))))) && _)=true
    rw [Mx];rfl
  ·rfl
 show VW P e 0 (match a39 with|.mk c _=>c) (Ah x.args 0 .lf) St0 none [] (AR [.cells 4 5,.tmp 5,.tmp 6] (fun v s'=>Frz s' v (HU x)))
 by_cases hG:x.good
 ·have hon:=fun s=>(Ha hx s).trans (Zoj hG)
  have hlen:=hx.l.len
  have hM:=hG.1
  have hgd:=Of hG.2
  unfold HU
  rw [Zoj hG]
  obtain ⟨c,⟨ag,sq,tl,us,L⟩,v⟩:=x
  have hv:=hx.v
  dsimp only at hv hlen ⊢
  conv=>whnf
  refine ESc.ov h80 (hon _) ?_
  rcases hv.cases with ⟨rfl,rfl⟩|⟨rfl,rfl⟩|⟨rfl,cp,rfl⟩|⟨y,M,cp,hLM,rfl⟩
  iterate 3
   ·conv=>whnf
    repeat' (first|((refine w6 rfl rfl ?_ ?_) <;> intro _ <;> first|(exfalso;omega)|(conv=>whnf))|fail)
    refine Hg hE ?_;conv=>whnf
    repeat' (first|(refine N2 rfl ?_;conv=>whnf)|((first|refine w3 rfl rfl ?_ ?_|refine w5 rfl rfl ?_ ?_) <;> intro _ <;> first|(exfalso;omega)|(conv=>whnf))|((first|refine w16 rfl ?_|refine w17 rfl ?_|refine w18 rfl ?_);conv=>whnf)|fail)
    exact .plain _ rfl
  ·subst hLM
   have hn0:M.length+1≤1000:=hlen
   have hpM:=hM
   unfold Cfg.may at hpM
   dsimp only at hpM
   have hlog:=Eo hM
   dsimp only at hlog
   have hlg:(c.members+1)*3≤c.log:=by
    have:(c.members+1)*3≤(c.members+1)*(c.heads+1):=Int.mul_le_mul_of_nonneg_left (by omega) (by omega)
    omega
   conv=>whnf
   repeat' (first|((refine w6 rfl rfl ?_ ?_) <;> intro _ <;> first|(exfalso;omega)|(conv=>whnf))|fail)
   obtain ⟨L,hL⟩:∃ L,L=y::M:=⟨_,rfl⟩
   have hn:L.length=M.length+1:=by rw [hL];rfl
   rw [← hL] at hlen
   have hgd':GoodR ⟨⟨ag,sq,tl,us,L⟩,c⟩:=by rw [hL];exact hgd
   have hlv:∀ (k:Nat) (h:k<L.length),2≤L[k].blocks∧L[k].blocks≤c.members+1:=fun k h=>(hgd'.lv k _ (Zof h)).2.1
   have hT:∀ j,0≤BP c.log tl L j∧BP c.log tl L j<c.log:=by
    intro j
    cases j with
    | zero=>exact hgd'.tail
    | succ j=>exact ⟨Zpz _ (by omega),Zp1 _ (by omega)⟩
   have hV0:D6 4 L.length 0=.sl 4 0 L.length none:=by unfold D6;rw [Zoj (by omega)];rfl
   refine EX (α:=Nat) (fun j=>[(2,.ptr 0 0),(3,.ptr 1 0),(4,.ptr 2 0),(7,.ptr 3 0),(9,.ptr 5 0)]) (fun j=>[.row 24 c.c,.row 31 [.int .u32 ag,.int .u32 sq,.int .i64 tl,.int .i64 us,.fz (M.length+1) cp (Ai (y::M))],.row 31 BH,.row 82 [.int .u32 ag,.int .u32 sq,.int .i64 (BP c.log tl L j),.int .i64 (C7 us L j),D6 4 L.length j,.int .u32 c.id,.int .i64 c.members,.int .i64 c.chunk,.int .i64 c.rows,.int .i64 c.log,.int .i64 c.heads],.row 66 (Ai L),.row 45 [.int .u32 c.id,.int .u32 ag,.int .u32 sq,.int .i64 0]]) (fun j=>L.length-j)
    (fun j=>j≤Ay L) 0 [0,1,2,3,4,5] (Zoy _) ⟨by decide,⟨r9,r9,r9,r9,r9,trivial⟩,⟨r9,r9,r9,⟨?_,?_⟩,⟨Dd _ (Cq _),?_⟩,r9,trivial⟩⟩ ?_
   ·show (true && (true && (true && (true && (bd 6 (D6 4 L.length 0) && _)))))=true
    rw [WX (by decide:4<6)];rfl
   ·show _=some (AObj.row 82 [_,_,_,_,A2 _ (D6 4 L.length 0),_,_,_,_,_,_])
    rw [VM rfl,hV0,hL]
    show _=some (AObj.row 82 [_,_,AV.int .i64 tl,AV.int .i64 (us-0),_,_,_,_,_,_,_])
    rw [Int.sub_zero];rfl
   ·show _=some (AObj.row 66 (At _ (Ai L)));rw [Dc _ (Cq _),hL];rfl
   intro j hj
   have hKL:=Mw L
   by_cases hjn:j<L.length
   ·have hVj:D6 4 L.length j=.sl 4 (j*6) (L.length-j) none:=by unfold D6;rw [Zoj hjn]
    have hst:=QG hjn hj
    have hx6:=hlv j hjn
    rw [hVj]
    refine A9 hE ?_
    obtain ⟨S,hS⟩:∃ S,S=Ac St0 [.row 24 c.c,.row 31 [.int .u32 ag,.int .u32 sq,.int .i64 tl,.int .i64 us,.fz (M.length+1) cp (Ai (y::M))],.row 31 BH,.row 82 [.int .u32 ag,.int .u32 sq,.int .i64 (BP c.log tl L j),.int .i64 (C7 us L j),.sl 4 (j*6) (L.length-j) none,.int .u32 c.id,.int .i64 c.members,.int .i64 c.chunk,.int .i64 c.rows,.int .i64 c.log,.int .i64 c.heads],.row 66 (Ai L),.row 45 [.int .u32 c.id,.int .u32 ag,.int .u32 sq,.int .i64 0]]:=⟨_,rfl⟩
    have hld:∀ k,k<6→load1 4 (j*6+0*6+k) S=L[j].c[k]?:=fun k hk=>by rw [Nat.zero_mul,Zpo];exact Ob (e:=66) (by rw [hS];rfl) hjn hk
    conv=>whnf
    refine DL rfl ?_;conv=>whnf
    refine Dm rfl rfl (fun h=>?_) (fun h=>by omega);conv=>whnf
    refine Cy rfl rfl (by omega) (by omega) ?_;conv=>whnf
    rw [← hS]
    have l5:load1 4 (j*6+Int.toNat 0*6+5) S=some (.bool L[j].home):=hld 5 (by decide)
    have l2:load1 4 (j*6+Int.toNat 0*6+2) S=some (.int .i64 L[j].blocks):=hld 2 (by decide)
    refine AP _ l5 ?_
    have hus:us=A1 L:=hgd'.sum
    cases hho:L[j].home
    ·have hjk:j=Ay L:=by
      have:=hst
      rw [hho] at this
      simp at this;omega
     rw [hS]
     conv=>whnf
     refine DL rfl ?_;conv=>whnf
     refine Kl rfl ?_;conv=>whnf
     refine B2 rfl rfl (fun h=>?_) (fun h=>?_) <;> conv=>whnf
     ·rw [Zoj (by rw [← hL];omega)]
      exact .plain _ rfl
     ·rw [Zon (by rw [← hL];omega)]
      have hsq:AK sq:=hx.l.seq
      have hag:AK ag:=hx.l.age
      have hid:AK c.id:=hx.c.id
      unfold AK at hsq hag hid
      have l0:∀ (s:St),s.get 4=some (.row 66 (Ai L))→load1 4 (j*6+Int.toNat 0*6+0) s=some (.int .u32 L[j].seq):=fun s hs=>Ob (e:=66) hs hjn (by decide)
      refine DL rfl ?_;conv=>whnf
      refine Dm rfl rfl (fun h2=>?_) (fun h2=>by omega);conv=>whnf
      refine Cy rfl rfl (by omega) (by omega) ?_;conv=>whnf
      refine AP _ (l0 _ rfl) ?_;conv=>whnf
      obtain ⟨hl1,hl2,hl3,hl4⟩:=hgd'.lv j _ (Zof hjn)
      have hl3':L[j].seq=sq-((L.length:Int)-(j:Int)):=hl3
      have hmore:(L.length:Int)<sq:=hgd'.more
      have hsq2:1≤sq∧sq≤2147483648:=hgd'.seq
      have hag2:=hgd'.age
      have hTj:=hT j
      have hsup:DE ag L[j].seq (BP c.log tl L j)=true:=by
       have ha:CO ag=true:=by unfold CO;exact Zok hag2
       unfold DE
       rw [ha,Zok (by omega)]
       unfold CO
       rw [Zok (by omega)];rfl
      refine ESc.fam wrF h84 ⟨c.id,ag,L[j].seq,BP c.log tl L j⟩ ⟨hid,hag,by dsimp only;omega⟩ (u:=.tup [.fz 128 (some 128) (Ab (Bg c.id.toNat ag.toNat L[j].seq.toNat (BP c.log tl L j).toNat)),.int .i64 0]) (by show (if DE ag _ _ then _ else _)=_;rw [Zoj hsup]) ?_;conv=>whnf
      repeat' (first|((refine w6 rfl rfl ?_ ?_) <;> intro _ <;> first|(exfalso;omega)|(conv=>whnf))|fail)
      refine ESc.inl h85 ?_;conv=>whnf
      refine Zi3 rfl rfl ?_;conv=>whnf
      have hdl:(Ai (L.drop j)).length=(L.length-j)*6:=by rw [ES];simp
      have hdc:Ai (L.drop j)=.int .u32 L[j].seq::(Ai (L.drop j)).tail:=by rw [Zo2 hjn];rfl
      have hld2:∀ S:St,S.get 4=some (.row 66 (Ai L))→E0 6 (.sl 4 (j*6) (L.length-j) none) S=some (.int .u32 L[j].seq::(Ai (L.drop j)).tail):=by
       intro S hS
       show load 4 (j*6) ((L.length-j)*6) S=_
       rw [Hb hS (by rw [ES];omega),Kv,Zoo (by omega),← hdc]
      refine EPrim.app1 (c:=.int .u32 L[j].seq) (cs:=(Ai (L.drop j)).tail) (m:=L.length-j) rfl rfl (hld2 _ rfl) rfl (by rw [← hdc,hdl];omega) (by omega) (by omega) ?_
      rw [← hdc]
      conv=>whnf
      refine ⟨rfl,?_⟩;conv=>whnf
      have hlv:CC .es (L.drop j)=.fz (L.length-j) none (Ai (L.drop j)):=by
       rw [Zo2 hjn]
       show AV.fz (L[j]::L.drop (j+1)).length none _=_
       rw [← Zo2 hjn,Zp3]
      have hsq':((L.drop j).head?.map Lv.seq).getD sq=L[j].seq:=by rw [List.head?_drop,Zof hjn];rfl
      show Frz _ _ (.tup [.agg [.int .u32 ag,.int .u32 sq,.int .i64 (BP c.log tl (y::M) (Ay (y::M))),.int .i64 (C7 us (y::M) (Ay (y::M))),CC .es ((y::M).drop (Ay (y::M)))],
       .fz 1 (some 1) [.int .i64 c.members,.int .u8 2,.int .i64 0,.fz 128 (some 128) (Ab (Bg c.id.toNat ag.toNat ((((y::M).drop (Ay (y::M))).head?.map Lv.seq).getD sq).toNat (BP c.log tl (y::M) (Ay (y::M))).toNat))],.int .i64 0])
      rw [← hL,← hjk,hlv,hsq']
      refine .tup _ _ (.cons (.agg _ _ (.cons (.plain _ rfl) (.cons (.plain _ rfl) (.cons (.plain _ rfl) (.cons (.plain _ rfl) (.cons (KD rfl) .nil)))))) (.cons (.sl _ 0 1 (some 1) (some 1) 109 _ _ _ rfl (fun i x hx=>by rw [Zou];exact hx) (.cons (.plain _ rfl) (.cons (.plain _ rfl) (.cons (.plain _ rfl) (.cons (.plain _ rfl) .nil)))) (.inr rfl)) (.cons (.plain _ rfl) .nil)))
    ·have hjk:j<Ay L:=hst.1 hho
     rw [hS] at l2 ⊢
     have hTj:=hT j
     have hbl:=hx6
     have hmod:(BP c.log tl L j+L[j].blocks) % c.log=BP c.log tl L (j+1):=by
      show _=(BP c.log tl L j+((L[j]?.map Lv.blocks).getD 0)) % c.log
      rw [Zof hjn];rfl
     conv=>whnf
     refine Cy rfl rfl (by omega) (by omega) ?_;conv=>whnf
     refine AP _ l2 ?_;conv=>whnf
     refine ESc.fam onF h35 ⟨c.log,BP c.log tl L j,L[j].blocks⟩ ⟨by unfold Aj;dsimp only;omega,by unfold Aj;dsimp only;omega,by unfold Aj;dsimp only;omega⟩ (u:=.tup [.int .i64 (BP c.log tl L (j+1)),.int .i64 0]) (by
      show (if DT _ then _ else _)=_
      rw [Zoj (by unfold DT GM;simp;omega)]
      dsimp only;rw [hmod]) ?_
     conv=>whnf
     refine Cy rfl rfl (by omega) (by omega) ?_;conv=>whnf
     refine AP _ (show load1 4 (j*6+Int.toNat 0*6+2) _=some (.int .i64 L[j].blocks) from Ob (e:=66) rfl hjn (by decide)) ?_;conv=>whnf
     have hsb:=I6 (A:=L.take j) (fun x hx=>by
      obtain ⟨k,hk⟩:=Zp7 hx
      rw [Zps] at hk
      split at hk
      ·obtain ⟨hk1,rfl⟩:=Zog.1 hk
       have:=hlv k hk1;omega
      ·cases hk)
     have hus2:us≤c.log:=hgd'.used
     have hsb2:=I6 (A:=L) (fun x hx=>by
      obtain ⟨k,hk⟩:=Zp7 hx
      obtain ⟨hk1,rfl⟩:=Zog.1 hk
      have:=hlv k hk1;omega)
     have htl:((L.take j).length:Int)≤1000:=by simp;omega
     refine Iw rfl rfl (by unfold C7;omega) ?_
     rw [← Ze9 hjn]
     conv=>whnf
     have fin:∀ (t:AT) (s:St) (V:AV),V=D6 4 L.length (j+1)→t.get 2=some (.ptr 0 0)→t.get 3=some (.ptr 1 0)→t.get 4=some (.ptr 2 0)→t.get 7=some (.ptr 3 0)→t.get 9=some (.ptr 5 0)→s.get 0=some (.row 24 c.c)→s.get 1=some (.row 31 [.int .u32 ag,.int .u32 sq,.int .i64 tl,.int .i64 us,.fz (M.length+1) cp (Ai (y::M))])→s.get 2=some (.row 31 BH)→s.get 3=some (.row 82 [.int .u32 ag,.int .u32 sq,.int .i64 (BP c.log tl L (j+1)),.int .i64 (C7 us L (j+1)),V,.int .u32 c.id,.int .i64 c.members,.int .i64 c.chunk,.int .i64 c.rows,.int .i64 c.log,.int .i64 c.heads])→s.get 4=some (.row 66 (Ai L))→s.get 5=some (.row 45 [.int .u32 c.id,.int .u32 ag,.int .u32 sq,.int .i64 0])→
      ([]:List Nat)=[]∧∃ j',j'≤Ay L∧L.length-j'<L.length-j∧∃ rs,Abs t s [(2,.ptr 0 0),(3,.ptr 1 0),(4,.ptr 2 0),(7,.ptr 3 0),(9,.ptr 5 0)] [.row 24 c.c,.row 31 [.int .u32 ag,.int .u32 sq,.int .i64 tl,.int .i64 us,.fz (M.length+1) cp (Ai (y::M))],.row 31 BH,.row 82 [.int .u32 ag,.int .u32 sq,.int .i64 (BP c.log tl L j'),.int .i64 (C7 us L j'),D6 4 L.length j',.int .u32 c.id,.int .i64 c.members,.int .i64 c.chunk,.int .i64 c.rows,.int .i64 c.log,.int .i64 c.heads],.row 66 (Ai L),.row 45 [.int .u32 c.id,.int .u32 ag,.int .u32 sq,.int .i64 0]] rs:=by
      rintro t s _ rfl h2 h3 h4 h7 h9 g0 g1 g2 g3 g4 g5
      refine ⟨rfl,j+1,hjk,by omega,[0,1,2,3,4,5],⟨by decide,⟨⟨rfl,h2⟩,⟨rfl,h3⟩,⟨rfl,h4⟩,⟨rfl,h7⟩,⟨rfl,h9⟩,trivial⟩,⟨⟨rfl,g0⟩,⟨rfl,g1⟩,⟨rfl,g2⟩,⟨?_,?_⟩,⟨Dd _ (Cq _),?_⟩,⟨rfl,g5⟩,trivial⟩⟩⟩
      ·show (true && (true && (true && (true && (bd 6 (D6 4 L.length (j+1)) && _)))))=true
       rw [WX (by decide:4<6)];rfl
      ·show _=some (AObj.row 82 [_,_,_,_,A2 _ (D6 4 L.length (j+1)),_,_,_,_,_,_])
       rw [VM rfl];exact g3
      ·show _=some (AObj.row 66 (At _ (Ai L)));rw [Dc _ (Cq _)];exact g4
     by_cases h1n:1<L.length-j
     ·refine LD (l:=1) (h:=L.length-j) rfl rfl rfl (by omega) (by omega) h1n ?_;conv=>whnf
      refine fin _ _ (.sl 4 (j*6+1*6) (L.length-j-1) none) ?_ ?_ ?_ ?_ ?_ ?_ ?_ ?_ ?_ ?_ ?_ ?_
      ·unfold D6;rw [Zoj (by omega),show (j+1)*6=j*6+1*6 by omega,show L.length-(j+1)=L.length-j-1 by omega]
      all_goals rfl
     ·refine ZD (l:=1) (h:=L.length-j) rfl rfl rfl (by omega) (by omega) h1n ?_;conv=>whnf
      refine fin _ _ .es ?_ ?_ ?_ ?_ ?_ ?_ ?_ ?_ ?_ ?_ ?_ ?_
      ·unfold D6;rw [Zon (by omega)]
      all_goals rfl
   ·have hjn':j=L.length:=by omega
    have hjk:Ay L=L.length:=by omega
    have hVj:D6 4 L.length j=.es:=by unfold D6;rw [Zon (by omega)]
    rw [hVj]
    have hsq:AK sq:=hx.l.seq
    have hag:AK ag:=hx.l.age
    have hid:AK c.id:=hx.c.id
    unfold AK at hsq hag hid
    have hsq2:1≤sq∧sq≤2147483648:=hgd'.seq
    have hag2:=hgd'.age
    have hTj:=hT j
    have hsup:DE ag sq (BP c.log tl L j)=true:=by
     have ha:CO ag=true:=by unfold CO;exact Zok hag2
     unfold DE
     rw [ha,Zok (by omega)]
     unfold CO
     rw [Zok (by omega)];rfl
    refine A9 hE ?_;conv=>whnf
    refine N2 rfl ?_;conv=>whnf
    refine Dm rfl rfl (fun h=>by omega) (fun h=>?_);conv=>whnf
    refine N2 rfl ?_;conv=>whnf
    refine Kl rfl ?_;conv=>whnf
    refine B2 rfl rfl (fun h=>by omega) (fun h=>?_);conv=>whnf
    refine N2 rfl ?_;conv=>whnf
    refine Dm rfl rfl (fun h=>by omega) (fun h=>?_);conv=>whnf
    refine ESc.fam wrF h84 ⟨c.id,ag,sq,BP c.log tl L j⟩ ⟨hid,hag,hsq⟩ (u:=.tup [.fz 128 (some 128) (Ab (Bg c.id.toNat ag.toNat sq.toNat (BP c.log tl L j).toNat)),.int .i64 0]) (by show (if DE ag _ _ then _ else _)=_;rw [Zoj hsup]) ?_;conv=>whnf
    repeat' (first|((refine w6 rfl rfl ?_ ?_) <;> intro _ <;> first|(exfalso;omega)|(conv=>whnf))|fail)
    refine ESc.inl h85 ?_;conv=>whnf
    refine Ft rfl rfl (.inl rfl) ?_;conv=>whnf
    refine Gu rfl rfl rfl ?_;conv=>whnf
    refine ⟨rfl,?_⟩;conv=>whnf
    have hd:L.drop j=[]:=Zpb (by omega)
    rw [Zon (by rw [← hL];omega)]
    show Frz _ _ (.tup [.agg [.int .u32 ag,.int .u32 sq,.int .i64 (BP c.log tl (y::M) (Ay (y::M))),.int .i64 (C7 us (y::M) (Ay (y::M))),CC .es ((y::M).drop (Ay (y::M)))],
     .fz 1 (some 1) [.int .i64 c.members,.int .u8 2,.int .i64 0,.fz 128 (some 128) (Ab (Bg c.id.toNat ag.toNat ((((y::M).drop (Ay (y::M))).head?.map Lv.seq).getD sq).toNat (BP c.log tl (y::M) (Ay (y::M))).toNat))],.int .i64 0])
    rw [← hL,hjk,← hjn',hd]
    exact .tup _ _ (.cons (.agg _ _ (.cons (.plain _ rfl) (.cons (.plain _ rfl) (.cons (.plain _ rfl) (.cons (.plain _ rfl) (.cons (KD (L:=[]) rfl) .nil)))))) (.cons (.sl _ 0 1 (some 1) (some 1) 109 _ _ _ rfl (fun i x hx=>by rw [Zou];exact hx) (.cons (.plain _ rfl) (.cons (.plain _ rfl) (.cons (.plain _ rfl) (.cons (.plain _ rfl) .nil)))) (.inr rfl)) (.cons (.plain _ rfl) .nil)))
 ·rw [show HU x=.tup [.agg BH,.nils,.int .i64 8] by unfold HU;rw [Zon hG]]
  conv=>whnf
  refine ESc.ov h80 ((Ha hx _).trans (Zon hG)) ?_;conv=>whnf
  repeat' (first|((refine w6 rfl rfl ?_ ?_) <;> intro _ <;> first|(exfalso;omega)|(conv=>whnf))|fail)
  exact .plain _ rfl
end Go.AM
namespace Go.AM
attribute [local irreducible] W
open X
structure Op where
 k:Int
 st:Int
 d:DB
def Op.c (o:Op):List AV:=.int .u8 o.k::.int .i64 o.st::o.d.d.c
structure Op.any (o:Op):Prop where
 k:0≤o.k∧o.k<256
 st:Aj o.st
 d:o.d.any
def Gh (l:List Op):List AV:=l.flatMap Op.c
theorem LL (o:Op) (l:List Op):Gh (o::l)=o.c++Gh l:=rfl
theorem Kh:∀ (L:List Op),(Gh L).length=L.length*6
 | []=>rfl
 | x::L=>by rw [LL,Zot,Kh L,Zo9];show 6+_=_;omega
theorem TQ:∀ (L:List Op) (i:Nat),(Gh L).drop (i*6)=Gh (L.drop i)
 | L,0=>by simp
 | [],i+1=>by simp [Gh]
 | x::L,i+1=>by
  rw [List.drop_succ_cons,← TQ L i,LL,show (i+1)*6=x.c.length+i*6 by show (i+1)*6=6+i*6;omega,List.drop_append,Zpb (by omega),List.nil_append]
  congr 1;omega
theorem SA {L:List Op}{i:Nat}(h:i<L.length):(Gh L).drop (i*6)=L[i].c++Gh (L.drop (i+1)):=by
 rw [TQ,Zo2 h,LL]
theorem Op.inj {x y:Op}(hx:x.any) (hy:y.any) (h:x.c=y.c):x=y:=by
 obtain ⟨a,b,d⟩:=x
 obtain ⟨a',b',d'⟩:=y
 unfold Op.c at h
 injection h with e1 h
 injection h with e2 h
 injection e1 with _ e1
 injection e2 with _ e2
 have e3:=DB.inja hx.d hy.d (congrArg AV.agg h)
 dsimp only at e1 e2 e3
 subst e1 e2 e3;rfl
theorem UE:∀ {L M:List Op},(∀ o ∈ L,o.any)→(∀ o ∈ M,o.any)→Gh L=Gh M→L=M
 | [],[],_,_,_=>rfl
 | [],y::M,_,_,h=>by have:=congrArg List.length h;rw [Kh,Kh] at this;simp at this
 | x::L,[],_,_,h=>by have:=congrArg List.length h;rw [Kh,Kh] at this;simp at this
 | x::L,y::M,hx,hy,h=>by
  rw [LL,LL] at h
  obtain ⟨h1,h2⟩:=List.append_inj h rfl
  rw [Op.inj (hx x (by simp)) (hy y (by simp)) h1,UE (fun o ho=>hx o (by simp [ho])) (fun o ho=>hy o (by simp [ho])) h2]
structure OL where
 v:AV
 l:List Op
structure OL.ok (x:OL):Prop where
 sl:Sl 6 x.l.length (Gh x.l) x.v
 o:∀ o ∈ x.l,o.any
def Fx (l:List Op):Bool:=(l.take 100).any (fun o=>Dy o.d) || decide (60<l.length)
def longF:Fam OL:=⟨OL.ok,fun x=>[x.v],fun x=>.bool (Fx x.l),fun x y hx hy h=>by
 obtain ⟨v,l⟩:=x
 obtain ⟨v',l'⟩:=y
 have e:v=v':=(Zor h).1
 subst e
 have:=UE hx.o hy.o (hx.sl.l_inj hy.sl)
 dsimp only at this
 rw [this]⟩
theorem Zac {l:List Op}(h:Fx l=false):l.length≤60∧∀ o ∈ l,Dy o.d=false:=by
 unfold Fx at h
 simp only [Zp0,Zpl] at h
 obtain ⟨h1,h2⟩:=h
 rw [Zoo (by omega),List.any_eq_false] at h1
 exact ⟨by omega,fun o ho=>by simpa using h1 o ho⟩
theorem Zfc {e:Env}(hE:EM P e) (h32:Con e 21 grtF.O):OvOk P 6 longF.O:=by
 refine Bk g6.b fun x hx=>?_
 obtain ⟨v,l⟩:=x
 obtain ⟨hv,ho⟩:=hx
 dsimp only at hv ho
 refine ⟨by show (AM.hf v && true)=true;rw [hv.hf];rfl,rfl,C.of_G hE g6 ?_⟩
 have fin:∀ s (b:Bool),b=Fx l→Frz s (.bool b) (.bool (Fx l)):=by rintro s b rfl;exact .plain _ rfl
 show VW P e 0 (match a6 with|.mk c _=>c) (Ah [v] 0 .lf) St0 none [] (AR [.tmp 2] (fun w s'=>Frz s' w (.bool (Fx l))))
 conv=>whnf
 refine Ce (α:=Nat) (fun i=>[(0,v),(3,.int .i64 (i:Int))]) (fun _=>[]) (fun i=>l.length-i) (fun i=>i≤l.length∧i≤100∧(l.take i).any (fun o=>Dy o.d)=false) 0 ⟨Zoy _,Zoy _,rfl⟩
  (Abs.tells (rs:=[]) ⟨by decide,⟨t9 hv.hf,r9,trivial⟩,trivial⟩) ?_
 rintro i ⟨hi,hi2,hI⟩
 refine A9 hE ?_
 have ending:¬ (i<l.length∧i<100)→Fx l=decide (60<l.length):=by
  intro h
  unfold Fx
  have:l.take 100=l.take i:=by
   by_cases h1:i<l.length
   ·have:i=100:=by omega
    rw [this]
   ·rw [Zoo (by omega),Zoo (l:=l) (i:=i) (by omega)]
  rw [this,hI,Bool.false_or]
 conv=>whnf
 refine Af rfl hv ?_;conv=>whnf
 refine Ag rfl rfl (fun h=>?_) (fun h=>?_)
 ·conv=>whnf
  refine Ag rfl rfl (fun h'=>?_) (fun h'=>?_)
  ·have hlt:i<l.length:=by omega
   have hoi:=ho _ (Zpg hlt)
   have hdrop:=SA hlt
   have hgr:∀ (K:AV→St→Prop) (s:St),(Dy l[i].d=true→K (.bool true) s)→(Dy l[i].d=false→K (.bool false) s)→ESc e 21 [l[i].d.d.v] s K:=fun K s k1 k2=>by
    cases hq:Dy l[i].d
    ·exact ESc.fam grtF h32 l[i].d hoi.d (by show AV.bool _=_;rw [hq]) (k2 hq)
    ·exact ESc.fam grtF h32 l[i].d hoi.d (by show AV.bool _=_;rw [hq]) (k1 hq)
   have htk:(l.take (i+1)).any (fun o=>Dy o.d)=Dy l[i].d:=by rw [Zos hlt,List.any_append,hI];simp
   have hall:Dy l[i].d=true→Fx l=true:=fun h=>by
    unfold Fx
    rw [Zp5]
    left
    refine List.any_eq_true.2 ⟨l[i],?_,h⟩
    exact Zqa.2 ⟨i,by rw [Zps,Zoj (by omega)];exact Zof hlt⟩
   revert hdrop hgr htk hall hoi
   generalize l[i]=o
   intro hoi hdrop hgr htk hall
   obtain ⟨ok,ost,⟨st,sv,sl,bv,us,bs,pv,pb⟩⟩:=o
   conv=>whnf
   refine A8 rfl hv rfl hlt ?_
   rw [hdrop]
   conv=>whnf
   refine CS (cs:=[.int .i64 st,sv,bv,pv]) rfl ?_;conv=>whnf
   refine hgr _ _ (fun hg=>?_) (fun hg=>?_)
   ·conv=>whnf
    exact fin _ _ (hall hg).symm
   ·conv=>whnf
    repeat' (first|((first|refine w7 rfl rfl (by omega) ?_|refine ⟨rfl,?_⟩);conv=>whnf)|fail)
    refine ⟨i+1,⟨hlt,by omega,by rw [htk];exact hg⟩,by omega,Abs.tells (rs:=[]) ⟨by decide,⟨t9 hv.hf,r9,trivial⟩,trivial⟩⟩
  ·have he:=ending (by omega)
   conv=>whnf
   refine Af rfl hv ?_;conv=>whnf
   refine Dm rfl rfl (fun h=>?_) (fun h=>?_)
   ·conv=>whnf
    exact fin _ _ (by rw [he];exact (Zok (by omega)).symm)
   ·conv=>whnf
    exact fin _ _ (by rw [he];exact (Zow (by omega)).symm)
 ·have he:=ending (by omega)
  conv=>whnf
  refine Af rfl hv ?_;conv=>whnf
  refine Dm rfl rfl (fun h=>?_) (fun h=>?_)
  ·conv=>whnf
   exact fin _ _ (by rw [he];exact (Zok (by omega)).symm)
  ·conv=>whnf
   exact fin _ _ (by rw [he];exact (Zow (by omega)).symm)
structure DI where
 x:CL
 o:Op
structure DI.ok (a:DI):Prop where
 x:a.x.ok
 g:a.x.good
 o:a.o.any
 s:Dy a.o.d=false
def DI.args (a:DI):List AV:=[a.x.c.v,a.x.lv,.agg a.o.c]
def Ja (a:AI):Prop:=DC a.x.c a.d.d=true∧(Bq a.bd.note=true∧a.x.l.seq≠2147483648)∧BZ a.ring=true
instance (a:AI):Decidable (Ja a):=by unfold Ja;infer_instance
def CJ (a:DI):Option (Log×AV×AV):=
 if a.o.k % 4=0 then (if Ja ⟨a.x,a.o.d⟩ then some (⟨a.x.l.age,a.x.l.seq+1,a.x.l.tail,a.x.l.used+(a.o.d.n:Int),AI.live ⟨a.x,a.o.d⟩⟩,.fz (a.x.l.live.length+1) none (Ai (AI.live ⟨a.x,a.o.d⟩)),.fz a.o.d.n none (CX a.x.c a.x.l.tail a.x.l.used 0 (AI.blks ⟨a.x,a.o.d⟩))) else none)
 else if a.o.k % 4=1 then some (a.x.l.with (a.x.l.live.map Lv.flush),CC a.x.v (a.x.l.live.map Lv.flush),.nils)
 else if a.o.k % 4=2 then (if CLS.in ⟨a.x,a.o.st⟩ then (if hF a.o.st a.x.l.live 0 then some (a.x.l.with (CI a.o.st a.x.l.live),CC a.x.v (CI a.o.st a.x.l.live),.nils) else none) else none)
 else (if Ay a.x.l.live=0 then none else some (⟨a.x.l.age,a.x.l.seq,BP a.x.c.log a.x.l.tail a.x.l.live (Ay a.x.l.live),C7 a.x.l.used a.x.l.live (Ay a.x.l.live),a.x.l.live.drop (Ay a.x.l.live)⟩,CC .es (a.x.l.live.drop (Ay a.x.l.live)),
  .fz 1 (some 1) [.int .i64 a.x.c.members,.int .u8 2,.int .i64 0,.fz 128 (some 128) (Ab (Bg a.x.mvSup.id.toNat a.x.mvSup.age.toNat a.x.mvSup.seq.toNat a.x.mvSup.tail.toNat))]))
end Go.AM
namespace Go.AM
structure StepR (c:Cfg) (l m:Log) (g:Nat):Prop where
 age:m.age=l.age
 seq:(m.seq=l.seq∧m.live.length+g=l.live.length)∨(m.seq=l.seq+1∧m.live.length+g=l.live.length+1)
 le:g≤l.live.length
 home:∀ (k:Nat) (x:Lv),k<g→l.live[k]?=some x→x.home=true
 tail:m.tail=(l.tail+A1 (l.live.take g)) % c.log
 at_:∀ (k:Nat) (x:Lv),g≤k→l.live[k]?=some x→∃ y,m.live[k-g]?=some y∧y.seq=x.seq∧y.stripe=x.stripe∧y.blocks=x.blocks∧y.par=x.par∧(x.sure=true→y.sure=true)∧(x.home=true→y.home=true)
variable {tl:Int}{L:List Lv}
theorem R8 {log:Int}(ht:0≤tl∧tl<log):∀ (j:Nat),j≤L.length→BP log tl L j=(tl+A1 (L.take j)) % log
 | 0,_=>by show tl=(tl+0) % log;rw [Int.add_zero,Int.emod_eq_of_lt ht.1 ht.2]
 | j+1,h=>by
  have hj:j<L.length:=by omega
  show (BP log tl L j+((L[j]?.map Lv.blocks).getD 0)) % log=_
  rw [R8 ht j (by omega),Zof hj,Zos hj,H7]
  show ((tl+A1 (L.take j)) % log+L[j].blocks) % log=(tl+(A1 (L.take j)+(L[j].blocks+0))) % log
  rw [Int.emod_add_emod,Int.add_zero,Int.add_assoc]
theorem Zak (st:Int) (L:List Lv) (k:Nat) (x:Lv):(x.home=true→(Dq st L k x).home=true):=by
 intro h
 unfold Dq
 split
 ·show (x.home || _)=true;rw [h];rfl
 ·exact h
theorem Zfa:∀ (k:Nat) (x:Lv),k<Ay L→L[k]?=some x→x.home=true:=by
 intro k x hk hx
 obtain ⟨hlt,he⟩:=Zog.1 hx
 rw [← he]
 exact (QG hlt (by omega)).2 hk
variable {c:Cfg}{ag sq us:Int}
theorem Tr {M:List Lv}(ht:0≤tl∧tl<c.log) (hA:Alike L M) (hs:∀ (k:Nat) (x y:Lv),L[k]?=some x→M[k]?=some y→(x.sure=true→y.sure=true)∧(x.home=true→y.home=true)):StepR c ⟨ag,sq,tl,us,L⟩ ⟨ag,sq,tl,us,M⟩ 0:=by
 refine ⟨rfl,.inl ⟨rfl,hA.len⟩,Zoy _,fun k x h=>absurd h (Nat.not_lt_zero k),?_,?_⟩
 ·show tl=(tl+A1 (L.take 0)) % c.log
  rw [List.take_zero]
  show tl=(tl+0) % c.log
  rw [Int.add_zero,Int.emod_eq_of_lt ht.1 ht.2]
 ·intro k x _ hx
  have hx:L[k]?=some x:=hx
  have hk:=(Zog.1 hx).1
  have hy:=Zof (l:=M) (i:=k) (by rw [hA.len];exact hk)
  obtain ⟨h1,h2,h3,h4⟩:=hA.at_ k x _ hx hy
  obtain ⟨h5,h6⟩:=hs k x _ hx hy
  exact ⟨_,hy,h1,h2,h3,h4,h5,h6⟩
variable {m:Log}{v:AV}
theorem Rn {a:DI}(ha:a.ok) {b:AV}(h:CJ a=some (m,v,b)):GoodR ⟨m,a.x.c⟩∧CL.ok ⟨a.x.c,m,v⟩∧∃ g,StepR a.x.c a.x.l m g:=by
 obtain ⟨x,o⟩:=a
 obtain ⟨hx,hg,ho,hs⟩:=ha
 dsimp only at hx hg ho hs
 have hM:=hg.1
 have hgd:=Of hg.2
 have hxl:=hx.l
 have hxc:=hx.c
 have hxv:=hx.v
 obtain ⟨c,⟨ag,sq,tl,us,L⟩,v0⟩:=x
 dsimp only at hM hxc hxv hxl
 have hgd:GoodR ⟨⟨ag,sq,tl,us,L⟩,c⟩:=hgd
 have htl:0≤tl∧tl<c.log:=hgd.tail
 have hsq:1≤sq∧sq≤2147483648:=hgd.seq
 have hlog:(L.length:Int)≤c.log:=hgd.len
 have hll:L.length≤1000:=hxl.len
 have hus:us≤c.log:=hgd.used
 have hsum:us=A1 L:=hgd.sum
 have hbb:=I6 (A:=L) (Mk hM hgd)
 have hmay:=hM
 unfold Cfg.may at hmay
 dsimp only
 unfold CJ at h
 dsimp only at h
 split at h
 ·split at h
  ·rename_i hC
   cases h
   obtain ⟨hD,⟨hN,hq⟩,hR⟩:=hC
   dsimp only at hD hq
   have hn:=M1 hM hD
   have hD':=hD
   unfold DC at hD'
   simp only [Zoh,Zpc,Bool.not_eq_true'] at hD'
   have hst:0≤o.d.st∧o.d.st<c.chunk*c.rows:=hD'.1.1.1.2
   have hun:=LK hR
   have hun:us+(o.d.n:Int)≤c.log:=hun
   refine ⟨Zft hM hgd _ _ _ hst ⟨by omega,hn.2⟩ (by omega) hR,⟨hxc,⟨hxl.age,by unfold AK;dsimp only;omega,hxl.tail,by unfold Aj;dsimp only;omega,?_,?_⟩,?_⟩,0,?_⟩
   ·intro z hz
    rcases Zo7.1 hz with hz|hz
    ·exact hxl.live z hz
    ·simp at hz;subst hz
     exact ⟨by unfold AK;show 0≤sq∧sq<_;omega,ho.d.st,by unfold Aj;show _≤(o.d.n:Int)∧(o.d.n:Int)≤_;omega⟩
   ·show (L++[_]).length≤1000
    rw [Zot];show L.length+1≤1000;omega
   ·refine .inr (.inr ⟨none,?_,ES _⟩)
    show AV.fz (L.length+1) none _=.fz (L++[_]).length none _
    rw [Zot];rfl
   ·refine ⟨rfl,.inr ⟨rfl,?_⟩,Zoy _,fun k x h=>absurd h (Nat.not_lt_zero k),?_,?_⟩
    ·show (L++[_]).length+0=L.length+1
     rw [Zot];rfl
    ·show tl=(tl+A1 (L.take 0)) % c.log
     rw [List.take_zero]
     show tl=(tl+0) % c.log
     rw [Int.add_zero,Int.emod_eq_of_lt htl.1 htl.2]
    ·intro k x _ hx
     have hx:L[k]?=some x:=hx
     exact ⟨x,by show (L++[_])[k-0]?=_;rw [Nat.sub_zero,Zoz (Zog.1 hx).1];exact hx,rfl,rfl,rfl,rfl,id,id⟩
  ·cases h
 ·split at h
  ·cases h
   refine ⟨Zal hgd,⟨hxc,⟨hxl.age,hxl.seq,hxl.tail,hxl.used,?_,by show (L.map _).length≤1000;rw [Zom];exact hll⟩,Xa hxv (Zom ..)⟩,0,Tr htl (Th L) ?_⟩
   ·intro z hz
    obtain ⟨y,hy,rfl⟩:=Zpf.1 hz
    have:=hxl.live y hy
    exact ⟨this.seq,this.stripe,this.blocks⟩
   ·intro k x y hx hy
    rw [Zpe,hx] at hy
    cases hy
    exact ⟨fun _=>rfl,id⟩
  ·split at h
   ·split at h
    ·split at h
     ·cases h
      have hlen:(CI o.st L).length=L.length:=Iv _ _ _
      refine ⟨Zc1 o.st hgd,⟨hxc,⟨hxl.age,hxl.seq,hxl.tail,hxl.used,?_,by show (CI o.st L).length≤1000;rw [hlen];exact hll⟩,Xa hxv hlen⟩,0,Tr htl (T9 o.st L) ?_⟩
      ·intro z hz
       obtain ⟨k,hk⟩:=Zp7 (show z ∈ CI o.st L from hz)
       rw [HD] at hk
       cases hq:L[k]? with
       | none=>rw [hq] at hk;cases hk
       | some y=>
        rw [hq] at hk;cases hk
        have:=hxl.live y (Zo1 hq)
        have hs:=GV o.st L k y
        exact ⟨by rw [hs.1];exact this.seq,by rw [hs.2.1];exact this.stripe,by rw [hs.2.2.1];exact this.blocks⟩
      ·intro k x y hx hy
       rw [HD,hx] at hy
       cases hy
       exact ⟨fun h=>by rw [(GV o.st L k x).2.2.2.2];exact h,Zak _ _ _ _⟩
     ·cases h
    ·cases h
   ·split at h
    ·cases h
    ·cases h
     have hkl:=Mw L
     have hT:0≤BP c.log tl L (Ay L)∧BP c.log tl L (Ay L)<c.log:=by
      rw [R8 htl _ hkl]
      exact ⟨Zpz _ (by omega),Zp1 _ (by omega)⟩
     have hg2:=Zc2 hM hgd (Ay L) hkl _ hT
     have hu2:C7 us L (Ay L)≤c.log:=hg2.used
     have hu3:C7 us L (Ay L)=A1 (L.drop (Ay L)):=hg2.sum
     have hu4:=I6 (A:=L.drop (Ay L)) (Mk hM hg2)
     refine ⟨hg2,⟨hxc,⟨hxl.age,hxl.seq,by unfold Aj;dsimp only;omega,by unfold Aj;dsimp only;omega,fun z hz=>hxl.live z (Zpr hz),by show (L.drop _).length≤1000;rw [Zp3];omega⟩,?_⟩,Ay L,rfl,.inl ⟨rfl,?_⟩,hkl,Zfa,R8 htl _ hkl,?_⟩
     ·generalize L.drop (Ay L)=N
      cases N with
      | nil=>exact .inr (.inr ⟨_,rfl,rfl⟩)
      | cons z N=>exact .inr (.inr ⟨_,rfl,ES _⟩)
     ·show (L.drop (Ay L)).length+Ay L=L.length
      rw [Zp3];omega
     ·intro k x hk hx
      have hx:L[k]?=some x:=hx
      exact ⟨x,by show (L.drop (Ay L))[k-Ay L]?=_;rw [Zoq,show Ay L+(k-Ay L)=k by omega];exact hx,rfl,rfl,rfl,rfl,id,id⟩
theorem Zb5 {I A Q T:Nat}(hI:I<4294967296) (hA:A<4294967296) (hQ:Q<4294967296) (hT:T<256):Bd (Bg I A Q T)=(I,A,Q,T):=by
 have hp:Aa (Bg I A Q T)=Bg I A Q T:=CH (GS I A Q T)
 unfold Bd
 rw [hp]
 have l0:(List.replicate 128 0:List Nat).length=128:=by simp
 have e1:Ak (Bg I A Q T) 1 4=I:=by
  unfold Bg IK
  rw [Cd (by omega),Cd (by omega),Cd (by omega),Cd (by omega),FN (by simp only [Bt];omega) hI]
 have e2:Ak (Bg I A Q T) 5 4=A:=by
  unfold Bg IK
  rw [Cd (by omega),Cd (by omega),Cd (by omega),FN (by simp only [Bt];omega) hA]
 have e3:Ak (Bg I A Q T) 9 4=Q:=by
  unfold Bg IK
  rw [Cd (by omega),Cd (by omega),FN (by simp only [Bt];omega) hQ]
 have e4:Ak (Bg I A Q T) 13 1=T:=by
  unfold Bg IK
  rw [Cd (by omega),FN (by simp only [Bt];omega) hT]
 rw [e1,e2,e3,e4]
structure GD (x:BD):Prop where
 ok:x.ok
 good:CD.good ⟨x.c,x.d.d⟩
 note:Bq x.note=true
variable {x:BD}
theorem GD.recs (h:GD x):∀ r ∈ x.note.recs,r.ok:=fun r hr=>by
 obtain ⟨p,hp',rfl⟩:=Zpf.1 (show r ∈ x.d.prs.map Br from hr)
 exact QS (Oh h.good.1 h.ok.d h.good.2 p hp').1
theorem GD.rd (h:GD x):As (AN x.note)=x.note∧Cz (AN x.note)=true:=
 ⟨(QT h.note h.ok.c.id h.recs).trans rfl,SE h.note h.ok.c.id h.recs⟩
theorem GD.seq (h:GD x):1≤x.seq∧x.seq≤2147483648:=by
 have hh:=h.note
 unfold Bq Hs at hh
 rw [Zoh] at hh
 obtain ⟨⟨c1,c2⟩,⟨a1,a2⟩,⟨s1,s2⟩,⟨t1,t2⟩⟩:=Zpw hh.1
 exact ⟨s1,s2⟩
def E1 (L:List DB):Nat:=(L.map DB.n).sum
theorem TL (L M:List DB):E1 (L++M)=E1 L+E1 M:=by unfold E1;rw [Zo4,List.sum_append]
theorem PZ {L:List DB}{k:Nat}{d:DB}(h:L[k]?=some d):E1 (L.take (k+1))=E1 (L.take k)+d.n:=by
 obtain ⟨hk,he⟩:=Zog.1 h
 rw [Zos hk,TL,he]
 show _+(d.n+0)=_;omega
theorem Zej (L:List DB) (k:Nat):E1 (L.take k)≤E1 L:=by
 have:=TL (L.take k) (L.drop k)
 rw [List.take_append_drop] at this;omega
theorem U9 {B:Nat→List Nat}:∀ (R:List Rc) (n i:Nat) (st y:RdS),R.length≤n→CM B R n i st=some y→∀ (t:Nat) r,R[t]?=some r→D9 r (B (i+t))=false
 | [],_,_,_,_,_,_,t,r,h=>by simp at h
 | q::R,0,_,_,_,h,_,_,_,_=>by simp at h
 | q::R,n+1,i,st,y,hl,h,t,r,ht=>by
  have h:(if D9 q (B i)=true then none else CM B R n (i+1) (Eh q (B i) st))=some y:=h
  split at h
  ·cases h
  ·rename_i hb
   cases t with
   | zero=>
    simp at ht;subst ht
    rw [Zpo];simpa using hb
   | succ t=>
    have:=U9 R n (i+1) _ y (by simpa using hl) h t r (by simpa using ht)
    rwa [show i+1+t=i+(t+1) by omega] at this
theorem Zk6 (x:BD):x.bb[0]?=some (AN x.note):=rfl
theorem Zk7 (x:BD) (t:Nat):x.bb[t+1]?=(x.d.prs[t]?).map (fun p=>AQ p.2):=by
 show (x.d.prs.map _)[t]?=_;rw [Zpe]
theorem Zne (x:BD):x.bb.length=x.d.n:=by unfold BD.bb DB.n;rw [Zo9,Zom]
variable {X:DK}{a:Int}
theorem Zc4 (hG:GD x) (hA:Cb ⟨x.c,X,a⟩=0) {f:Fd}(hf:DV ⟨x.c,X,a⟩=some f) (h0:Bo ⟨x.c,X,a⟩ 0=AN x.note)
 (hS:∀ (t:Nat) b,x.bb[t+1]?=some b→Au (Bo ⟨x.c,X,a⟩ (t+1))=Au b→Bo ⟨x.c,X,a⟩ (t+1)=b):f=⟨x.note,B6 x.d⟩:=by
 have hg:=NY hf
 obtain ⟨r1,r2⟩:=hG.rd
 have hn:f.n=x.note:=by rw [hg.n,h0,r1]
 have hgo:=hg.go
 rw [hn] at hgo
 have hl:=Mf (Kz hG.good)
 have hrl:x.note.recs.length=x.d.prs.length:=by show (x.d.prs.map Br).length=_;rw [Zom]
 have hbad:=U9 x.note.recs _ 1 _ _ (by rw [hrl];show _≤x.c.log.toNat-1;omega) hgo
 have hB:∀ (i:Nat) b,x.bb[i]?=some b→Bo ⟨x.c,X,a⟩ i=b:=fun i b hb=>by
  cases i with
  | zero=>rw [Zk6] at hb;cases hb;exact h0
  | succ t=>
   refine hS t b hb ?_
   rw [Zk7] at hb
   cases hq:x.d.prs[t]? with
   | none=>rw [hq] at hb;cases hb
   | some q=>
    rw [hq] at hb
    have hb:AQ q.2=b:=Zpn hb
    have:=hbad t (Br q) (by show (x.d.prs.map Br)[t]?=_;rw [Zpe,hq];rfl)
    unfold D9 at this
    simp only [Zp0,Zpl,Decidable.not_not] at this
    have h1:((Au (Bo ⟨x.c,X,a⟩ (1+t)):Nat):Int)=((Au (AQ q.2):Nat):Int):=this.1
    rw [hb,Nat.add_comm 1 t] at h1
    omega
 have:=W7 hG.ok hG.good hG.note rfl hA hB
 rw [Zoj rfl,hf] at this
 exact Zpn this
theorem Zi0 (hG:GD x) (hA:Cb ⟨x.c,X,a⟩=0) (hB:∀ (i:Nat) b,x.bb[i]?=some b→Bo ⟨x.c,X,a⟩ i=b):DV ⟨x.c,X,a⟩=some ⟨x.note,B6 x.d⟩:=by
 have:=W7 hG.ok hG.good hG.note rfl hA hB
 rwa [Zoj rfl] at this
theorem WV (x:BD) (y:RdS):Fd.m ⟨x.note,y⟩=x.d.n:=by
 show x.note.recs.length+1=_
 show (x.d.prs.map Br).length+1=_
 rw [Zom];rfl
structure ScP (c:Cfg) (X:DK) (ag sq tl:Int) (L:List DB) (A:List Nat→Prop):Prop where
 ok:CK.ok ⟨c,X⟩
 fst:D4 ⟨c,X⟩=0
 hag:Hp (AX X)=ag
 hsq:Ho (AX X)=sq
 htl:Ez (AX X)=tl
 gd:∀ (k:Nat) d,L[k]?=some d→GD ⟨c,ag,sq+(k:Int),d⟩
 rg:∀ p:Int,1≤p→p≤c.log→A (Aa (AY X p))
 nt:∀ b,A b→Cz b=true→(As b).age=ag→∀ j:Nat,(As b).seq=sq+(j:Int)→∃ d,L[j]?=some d∧b=AN (BD.note ⟨c,ag,sq+(j:Int),d⟩)
 cl:∀ a b,A a→A b→Au a=Au b→a=b
 bb:∀ (k:Nat) d,L[k]?=some d→∀ b ∈ BD.bb ⟨c,ag,sq+(k:Int),d⟩,A b
variable {A:List Nat→Prop}
theorem ScP.finds {L:List DB}(h:ScP c X ag sq tl L A):∀ (j:Nat),j≤(BI ⟨c,X⟩).length→B8 ((BI ⟨c,X⟩).take j)=E1 (L.take j)∧
 ∀ f,(BI ⟨c,X⟩)[j]?=some f→∃ d,L[j]?=some d∧f=⟨BD.note ⟨c,ag,sq+(j:Int),d⟩,B6 d⟩:=by
 have hG:=Xu ⟨c,X⟩
 have hsq:=(Wc (MS h.fst).2.2.2.2).2.2.2.1
 have hM:=(MS h.fst).1
 have hM:c.may:=hM
 have hlg:=Eo hM
 have hlg2:c.log≤255:=by unfold Cfg.may at hM;omega
 rw [h.hsq] at hsq
 have hlen:(BI ⟨c,X⟩).length≤255:=by
  have h1:=Ux (BI ⟨c,X⟩)
  have h2:=hG.le
  have h2:B8 (BI ⟨c,X⟩)≤c.log.toNat:=h2
  omega
 have step:∀ (j:Nat),B8 ((BI ⟨c,X⟩).take j)=E1 (L.take j)→∀ f,(BI ⟨c,X⟩)[j]?=some f→∃ d,L[j]?=some d∧f=⟨BD.note ⟨c,ag,sq+(j:Int),d⟩,B6 d⟩:=fun j hu f hf=>by
  obtain ⟨g1,g2,g3,g4,g5⟩:=hG.get j f hf
  rw [h.hag] at g5
  rw [h.hsq] at g4
  have hj:=(Zog.1 hf).1
  rw [Int.emod_eq_of_lt (by omega) (by omega)] at g4
  have hok:=Zmc h.ok h.fst (B8 ((BI ⟨c,X⟩).take j))
  have hask:=VQ h.ok h.fst (B8 ((BI ⟨c,X⟩).take j))
  generalize B8 ((BI ⟨c,X⟩).take j)=u at *
  have hjr:Gm ⟨c,X⟩ u=⟨c,X,(tl+(u:Int)) % c.log⟩:=by unfold Gm;rw [h.htl]
  rw [hjr] at g1 hok hask
  have hrg:∀ i:Nat,A (Bo ⟨c,X,(tl+(u:Int)) % c.log⟩ i):=fun i=>by
   have h1:=Zpz ((tl+(u:Int)) % c.log+(i:Int)) (b:=c.log) (by omega)
   have h2:=Zp1 ((tl+(u:Int)) % c.log+(i:Int)) (b:=c.log) (by omega)
   exact h.rg (1+((tl+(u:Int)) % c.log+(i:Int)) % c.log) (by omega) (by omega)
  have hF:=NY g1
  have hn:=hF.n
  rw [hn] at g4 g5
  obtain ⟨d,hd,hb⟩:=h.nt _ (hrg 0) hF.good g5 j g4
  refine ⟨d,hd,Zc4 (x:=⟨c,ag,sq+(j:Int),d⟩) (h.gd j d hd) hask g1 hb fun t b ht hs=>?_⟩
  exact h.cl _ _ (hrg (t+1)) (h.bb j d hd b (Zo1 ht)) hs
 intro j
 induction j with
 | zero=>exact fun _=>⟨rfl,step 0 rfl⟩
 | succ j ih=>
  intro hj
  obtain ⟨i1,i2⟩:=ih (by omega)
  obtain ⟨d,hd,hf⟩:=i2 _ (Zof (by omega))
  have hu:B8 ((BI ⟨c,X⟩).take (j+1))=E1 (L.take (j+1)):=by
   rw [Zos (by omega),Zbk,i1,PZ hd,hf,WV]
  exact ⟨hu,step _ hu⟩
variable {S:Nat}
theorem ScP.sure {L:List DB}(h:ScP c X ag sq tl L A) (hS:S≤L.length) (hsz:(E1 L:Int)≤c.log)
 (hR:∀ (k:Nat) d,k<S→L[k]?=some d→∀ (i:Nat) b,(BD.bb ⟨c,ag,sq+(k:Int),d⟩)[i]?=some b→Bo ⟨c,X,(tl+(E1 (L.take k):Int)) % c.log⟩ i=b):S≤(BI ⟨c,X⟩).length:=by
 refine Nat.le_of_not_lt fun hlt=>?_
 have hG:=Xu ⟨c,X⟩
 obtain ⟨hu,_⟩:=h.finds _ (Zo0 _)
 rw [List.take_length] at hu
 have hd:=Zof (l:=L) (i:=(BI ⟨c,X⟩).length) (by omega)
 generalize hdd:L[(BI ⟨c,X⟩).length]'(by omega)=d at hd
 have hgd:=h.gd _ _ hd
 have hask:=VQ h.ok h.fst (B8 (BI ⟨c,X⟩))
 have hjr:Gm ⟨c,X⟩ (B8 (BI ⟨c,X⟩))=⟨c,X,(tl+(B8 (BI ⟨c,X⟩):Int)) % c.log⟩:=by unfold Gm;rw [h.htl]
 have hfin:=hG.fin
 rw [hjr] at hask hfin
 rw [h.hag,h.hsq] at hfin
 have hr:=hR _ d hlt hd
 rw [← hu] at hr
 have hF:=Zi0 (x:=⟨c,ag,sq+((BI ⟨c,X⟩).length:Int),d⟩) hgd hask hr
 have hst:=PZ hd
 have hle:=Zej L ((BI ⟨c,X⟩).length+1)
 have hdn:0<d.n:=Nat.succ_pos _
 have hs1:=hgd.seq
 dsimp only at hs1
 rcases hfin with e|e|⟨f,e,hn⟩
 ·have e:B8 (BI ⟨c,X⟩)=c.log.toNat:=e
  omega
 ·rw [hF] at e;cases e
 ·rw [hF] at e
  cases e
  refine hn ⟨?_,?_,rfl⟩
  ·rw [WV];show _≤c.log.toNat
   show _+d.n≤_
   omega
  ·show sq+_=_
   rw [Int.emod_eq_of_lt (by omega) (by omega)]
def DQ (c:Cfg) (l:Log) (k i:Nat):Int:=1+(l.tail+A1 (l.live.take k)+(i:Int)) % c.log
structure PI (c:Cfg) (ag sq0:Int) (l:Log) (d:DK) (ds:List DB) (A:List Nat→Prop):Prop where
 g:GoodR ⟨l,c⟩
 age:l.age=ag
 rdk:RDK c.log d
 seq:l.seq=sq0+(ds.length:Int)
 le:l.live.length≤ds.length
 gd:∀ (t:Nat) x,ds[t]?=some x→GD ⟨c,ag,sq0+(t:Int),x⟩
 blk:∀ (t:Nat) x,ds[t]?=some x→∀ b ∈ BD.bb ⟨c,ag,sq0+(t:Int),x⟩,A b
 live:∀ (k t:Nat) x y,l.live[k]?=some x→t+l.live.length=ds.length+k→ds[t]?=some y→x.blocks=(y.n:Int)∧
  ∀ (i:Nat) b,(BD.bb ⟨c,ag,sq0+(t:Int),y⟩)[i]?=some b→Aa (AY d (DQ c l k i))=b∧(x.sure=true→∀ w ∈ d.ws,w.at_≠DQ c l k i)
 sup:Aa (AY d 0)=Bg c.id.toNat ag.toNat (l.seq-(l.live.length:Int)).toNat l.tail.toNat
 w0:∀ w ∈ d.ws,w.at_≠0
 ring:∀ p:Int,1≤p→p≤c.log→A (Aa (d.bs.getD p.toNat []))
 wal:∀ w ∈ d.ws,A (Aa w.b)
 nt:∀ b,A b→Cz b=true→(As b).age=ag→∃ (t:Nat) (y:DB),ds[t]?=some y∧b=AN (BD.note ⟨c,ag,sq0+(t:Int),y⟩)
theorem YL (L:List Lv) (g k:Nat):A1 (L.take g)+A1 ((L.drop g).take k)=A1 (L.take (g+k)):=by
 rw [← H7]
 congr 1
 rw [← List.take_append_drop g (L.take (g+k)),List.take_take,List.drop_take]
 rw [Nat.min_eq_left (by omega),show g+k-g=k by omega]
theorem Tq:∀ {L M:List Lv},L.length=M.length→(∀ (k:Nat) x y,L[k]?=some x→M[k]?=some y→y.blocks=x.blocks)→A1 M=A1 L
 | [],[],_,_=>rfl
 | [],_::_,h,_=>by cases h
 | _::_,[],h,_=>by cases h
 | x::L,y::M,h,hb=>by
  rw [Gv,Gv,hb 0 x y rfl rfl,Tq (L:=L) (M:=M) (by simpa using h) (fun k a b ha hb'=>hb (k+1) a b (by simpa using ha) (by simpa using hb'))]
variable {l:Log}{g:Nat}
theorem Zef (hlg:0<c.log) (hS:StepR c l m g) (hsq:m.seq=l.seq) (k i:Nat) (hk:k≤m.live.length):DQ c m k i=DQ c l (k+g) i:=by
 have hlen:m.live.length+g=l.live.length:=by rcases hS.seq with ⟨_,h⟩|⟨h,_⟩ <;> omega
 have h1:A1 (m.live.take k)=A1 ((l.live.drop g).take k):=by
  refine Tq (by rw [Zo5,Zo5,Zp3];omega) fun j x y hx hy=>?_
  rw [Zps] at hx hy
  split at hx
  ·rw [Zoj (by assumption)] at hy
   rw [Zoq] at hx
   obtain ⟨z,hz,_,_,z3,_⟩:=hS.at_ (g+j) x (by omega) hx
   rw [show g+j-g=j by omega,hy] at hz
   cases hz;exact z3
  ·cases hx
 unfold DQ
 rw [h1,hS.tail]
 have h2:=YL l.live g k
 rw [show k+g=g+k by omega,← h2]
 congr 1
 rw [Int.add_assoc,Int.emod_add_emod]
 congr 1
 omega
variable {sq0:Int}{d d':DK}{ds:List DB}
theorem PI.same (h:PI c ag sq0 l d ds A) (hS:StepR c l m g) (hsq:m.seq=l.seq) (hm:GoodR ⟨m,c⟩) (hR:RDK c.log d')
 (hd:∀ p:Int,1≤p→p≤c.log→AY d' p=AY d p) (hw:∀ w ∈ d'.ws,∃ v ∈ d.ws,w.at_=v.at_∧w.b=v.b) (hr:∀ p:Int,1≤p→p≤c.log→A (Aa (d'.bs.getD p.toNat [])))
 (hs:∀ (k:Nat) x y,l.live[k+g]?=some x→m.live[k]?=some y→y.sure=true→x.sure=true∨d'.ws=[])
 (hsup:Aa (AY d' 0)=Bg c.id.toNat ag.toNat (m.seq-(m.live.length:Int)).toNat m.tail.toNat):PI c ag sq0 m d' ds A:=by
 have hlo:=h.rdk.lo
 have hlen:m.live.length+g=l.live.length:=by rcases hS.seq with ⟨_,h⟩|⟨h,_⟩ <;> omega
 refine ⟨hm,by rw [hS.age,h.age],hR,by rw [hsq,h.seq],by have:=h.le;omega,h.gd,h.blk,?_,hsup,fun w hw'=>?_,hr,fun w hw'=>?_,h.nt⟩
 ·intro k t y q hy ht hq
  have hk:=(Zog.1 hy).1
  obtain ⟨x,hx⟩:∃ x,l.live[k+g]?=some x:=⟨_,Zof (by omega)⟩
  obtain ⟨y',hy',y1,y2,y3,y4,y5,y6⟩:=hS.at_ (k+g) x (by omega) hx
  rw [show k+g-g=k by omega,hy] at hy'
  cases hy'
  obtain ⟨e1,e2⟩:=h.live (k+g) t x q hx (by omega) hq
  refine ⟨by rw [y3,e1],fun i b hb=>?_⟩
  obtain ⟨f1,f2⟩:=e2 i b hb
  rw [Zef (by omega) hS hsq k i (by omega)]
  have q1:=Zpz (l.tail+A1 (l.live.take (k+g))+(i:Int)) (b:=c.log) (by omega)
  have q2:=Zp1 (l.tail+A1 (l.live.take (k+g))+(i:Int)) (b:=c.log) (by omega)
  refine ⟨by rw [hd _ (by unfold DQ;omega) (by unfold DQ;omega)];exact f1,fun hsu w hw'=>?_⟩
  rcases hs k x y hx hy hsu with hxs|he
  ·obtain ⟨v,hv,v1,_⟩:=hw w hw'
   rw [v1];exact f2 hxs v hv
  ·rw [he] at hw';cases hw'
 ·obtain ⟨v,hv,v1,_⟩:=hw w hw'
  rw [v1];exact h.w0 v hv
 ·obtain ⟨v,hv,_,v2⟩:=hw w hw'
  rw [v2];exact h.wal v hv
variable {A':List Nat→Prop}{q:DB}{z:Lv}
theorem PI.more (h:PI c ag sq0 l d ds A) (hq:GD ⟨c,ag,l.seq,q⟩) (hm:GoodR ⟨m,c⟩) (h1:m.age=l.age) (h2:m.seq=l.seq+1) (h3:m.tail=l.tail)
 (h4:m.live=l.live++[z]) (hz:z.sure=false) (hzb:z.blocks=(q.n:Int)) (hR:RDK c.log d')
 (hd0:AY d' 0=AY d 0)
 (hd:∀ p:Int,1≤p→p≤c.log→(∀ i:Nat,i<q.n→p≠1+(l.tail+l.used+(i:Int)) % c.log)→AY d' p=AY d p)
 (hn:∀ (i:Nat) b,(BD.bb ⟨c,ag,l.seq,q⟩)[i]?=some b→Aa (AY d' (1+(l.tail+l.used+(i:Int)) % c.log))=b)
 (hw:∀ w ∈ d'.ws,(∃ v ∈ d.ws,w.at_=v.at_∧w.b=v.b)∨∃ i:Nat,i<q.n∧w.at_=1+(l.tail+l.used+(i:Int)) % c.log∧A' (Aa w.b))
 (hb:d'.bs=d.bs) (hA:∀ b,A b→A' b) (hA':∀ b,A' b→A b∨b ∈ BD.bb ⟨c,ag,l.seq,q⟩) (hAq:∀ b ∈ BD.bb ⟨c,ag,l.seq,q⟩,A' b)
 (hno:∀ b ∈ BD.bb ⟨c,ag,l.seq,q⟩,Cz b=true→b=AN (BD.note ⟨c,ag,l.seq,q⟩)):PI c ag sq0 m d' (ds++[q]) A':=by
 have hlo:=h.rdk.lo
 have hsq:=h.seq
 have hus:l.used=A1 l.live:=h.g.sum
 have hmu:m.used=A1 m.live:=hm.sum
 have hmul:m.used≤c.log:=hm.used
 have hme:A1 m.live=l.used+(q.n:Int):=by rw [h4,H7,← hus];show _+(z.blocks+0)=_;rw [hzb,Int.add_zero]
 have hml:m.live.length=l.live.length+1:=by rw [h4,Zot];rfl
 have hgt:∀ (t:Nat) x,(ds++[q])[t]?=some x→(t<ds.length∧ds[t]?=some x)∨(t=ds.length∧x=q):=fun t x hx=>by
  rcases Nat.lt_or_ge t ds.length with ht|ht
  ·rw [Zoz ht] at hx;exact .inl ⟨ht,hx⟩
  ·rw [Zpa ht] at hx
   have:t-ds.length=0:=by
    have:=(Zog.1 hx).1
    simp at this;omega
   rw [this] at hx
   simp at hx
   exact .inr ⟨by omega,hx.symm⟩
 have hsn:∀ k,k≤l.live.length→0≤A1 (l.live.take k)∧A1 (l.live.take k)≤l.used:=fun k hk=>by
  have hM:∀ x ∈ l.live,2≤x.blocks:=fun x hx=>by
   obtain ⟨k,hk⟩:=Zp7 hx
   exact (h.g.lv k x hk).2.1.1
  have hp:∀ L:List Lv,(∀ x ∈ L,2≤x.blocks)→0≤A1 L:=fun L=>by
   induction L with
   | nil=>intro _;exact Int.le_refl _
   | cons x L ih=>intro hx;rw [Gv];have:=hx x (by simp);have:=ih fun y hy=>hx y (by simp [hy]);omega
  have e1:=hp (l.live.take k) fun x hx=>hM x (Zpm hx)
  have e2:=hp (l.live.drop k) fun x hx=>hM x (Zpr hx)
  have e3:A1 (l.live.take k)+A1 (l.live.drop k)=A1 l.live:=by rw [← H7,List.take_append_drop]
  omega
 refine ⟨hm,by rw [h1,h.age],hR,by rw [h2,Zot,hsq];show _=_+((ds.length+1:Nat):Int);omega,by rw [hml,Zot];show _≤ds.length+1;have:=h.le;omega,?_,?_,?_,?_,?_,?_,?_,?_⟩
 ·intro t x hx
  rcases hgt t x hx with ⟨_,hx⟩|⟨rfl,rfl⟩
  ·exact h.gd t x hx
  ·rw [← hsq];exact hq
 ·intro t x hx
  rcases hgt t x hx with ⟨_,hx⟩|⟨rfl,rfl⟩
  ·exact fun b hb=>hA b (h.blk t x hx b hb)
  ·rw [← hsq];exact hAq
 ·intro k t x y hx ht hy
  rw [hml,Zot] at ht
  have ht:t+(l.live.length+1)=ds.length+1+k:=ht
  rcases Nat.lt_or_ge k l.live.length with hk|hk
  ·have hx':l.live[k]?=some x:=by rw [h4,Zoz hk] at hx;exact hx
   have hy':ds[t]?=some y:=by
    rcases hgt t y hy with ⟨_,hy⟩|⟨rfl,_⟩
    ·exact hy
    ·omega
   obtain ⟨e1,e2⟩:=h.live k t x y hx' (by omega) hy'
   refine ⟨e1,fun i b hb'=>?_⟩
   obtain ⟨f1,f2⟩:=e2 i b hb'
   have hpe:DQ c m k i=DQ c l k i:=by unfold DQ;rw [h3,h4,List.take_append_of_le_length (by omega)]
   rw [hpe]
   have hi:(i:Int)<(y.n:Int):=by
    have:=(Zog.1 hb').1
    rw [Zne] at this
    exact Int.ofNat_lt.2 this
   have hst:A1 (l.live.take (k+1))=A1 (l.live.take k)+x.blocks:=by
    obtain ⟨hk',he⟩:=Zog.1 hx'
    rw [Zos hk',H7,he]
    show _+(x.blocks+0)=_;rw [Int.add_zero]
   have s1:=hsn k (by omega)
   have s2:=hsn (k+1) (by omega)
   have hne:∀ j:Nat,j<q.n→DQ c l k i≠1+(l.tail+l.used+(j:Int)) % c.log:=fun j hj e=>by
    unfold DQ at e
    obtain ⟨a,ha⟩:∃ a:Nat,(a:Int)=A1 (l.live.take k)+(i:Int):=⟨(A1 (l.live.take k)+(i:Int)).toNat,by omega⟩
    obtain ⟨b',hb''⟩:∃ b:Nat,(b:Int)=l.used+(j:Int):=⟨(l.used+(j:Int)).toNat,by omega⟩
    refine UC (lg:=c.log) (a:=l.tail) (i:=a) (j:=b') ?_ ?_ (by omega) ?_
    ·omega
    ·omega
    ·rw [ha,hb'',← Int.add_assoc,← Int.add_assoc];omega
   have q1:=Zpz (l.tail+A1 (l.live.take k)+(i:Int)) (b:=c.log) (by omega)
   have q2:=Zp1 (l.tail+A1 (l.live.take k)+(i:Int)) (b:=c.log) (by omega)
   refine ⟨by rw [hd _ (by unfold DQ;omega) (by unfold DQ;omega) hne];exact f1,fun hsu w hw'=>?_⟩
   rcases hw w hw' with ⟨v,hv,v1,_⟩|⟨j,hj,v1,_⟩
   ·rw [v1];exact f2 hsu v hv
   ·rw [v1];exact fun e=>hne j hj e.symm
  ·have hk':k=l.live.length:=by
    have:=(Zog.1 hx).1
    omega
   subst hk'
   rw [h4,Zpa (Zo0 _),Nat.sub_self] at hx
   have hx:z=x:=Zpn hx
   subst hx
   have hy':y=q∧t=ds.length:=by
    rcases hgt t y hy with ⟨hlt,_⟩|⟨h1,h2⟩
    ·omega
    ·exact ⟨h2,h1⟩
   obtain ⟨rfl,rfl⟩:=hy'
   refine ⟨hzb,fun i b hb'=>⟨?_,fun hsu=>by rw [hz] at hsu;cases hsu⟩⟩
   rw [← hsq] at hb'
   have hpe:DQ c m l.live.length i=1+(l.tail+l.used+(i:Int)) % c.log:=by
    unfold DQ
    rw [h3,h4,List.take_append_of_le_length (by omega),List.take_length,hus]
   rw [hpe]
   exact hn i b hb'
 ·rw [hd0,h.sup,h2,hml,h3]
  congr 1
  omega
 ·intro w hw'
  rcases hw w hw' with ⟨v,hv,v1,_⟩|⟨j,_,v1,_⟩
  ·rw [v1];exact h.w0 v hv
  ·have q1:=Zpz (l.tail+l.used+(j:Int)) (b:=c.log) (by omega)
   omega
 ·rw [hb]
  exact fun p h1 h2=>hA _ (h.ring p h1 h2)
 ·intro w hw'
  rcases hw w hw' with ⟨v,hv,_,v2⟩|⟨j,_,_,v2⟩
  ·rw [v2];exact hA _ (h.wal v hv)
  ·exact v2
 ·intro b hb' hg ha
  rcases hA' b hb' with hb'|hb'
  ·obtain ⟨t,y,ht,e⟩:=h.nt b hb' hg ha
   exact ⟨t,y,by rw [Zoz (Zog.1 ht).1];exact ht,e⟩
  ·refine ⟨ds.length,q,by simp,?_⟩
   rw [← hsq]
   exact hno b hb' hg
structure Cut (d X:DK):Prop where
 ok:X.ok
 dsk:Bi X=true
 len:X.us.length=d.us.length
 dead:X.dead=false
 nw:X.ws=[]
 bs:∀ p:Int,0≤p→X.bs.getD p.toNat []=d.bs.getD p.toNat []∨∃ w ∈ d.ws,w.at_=p∧X.bs.getD p.toNat []=w.b
theorem UO {p:Int}:∀ {L:List WR},(∀ w ∈ L,w.at_≠p)→BW p L=none
 | [],_=>rfl
 | w::L,h=>by
  show (if w.at_=p then _ else _)=_
  rw [Zon (h w (by simp)),UO fun v hv=>h v (by simp [hv])]
theorem Cut.drd (h:Cut d X) (p:Int):AY X p=X.bs.getD p.toNat []:=by unfold AY EI;rw [h.nw];rfl
theorem Cut.keep (h:Cut d X) {p:Int}(hp:0≤p) (hw:∀ w ∈ d.ws,w.at_≠p):AY X p=AY d p:=by
 rw [h.drd]
 unfold AY EI
 rw [UO fun w hw'=>hw w (List.mem_reverse.1 hw')]
 rcases h.bs p hp with e|⟨w,hw',e,_⟩
 ·exact e
 ·exact absurd e (hw w hw')
theorem PI.fst (h:PI c ag sq0 l d ds A) (hM:c.may) (hc:c.ok) (hX:Cut d X):
 D4 ⟨c,X⟩=0∧Hp (AX X)=ag∧Ho (AX X)=l.seq-(l.live.length:Int)∧Ez (AX X)=l.tail:=by
 have g1:1≤l.age∧l.age≤2147483648:=h.g.age
 have g2:1≤l.seq∧l.seq≤2147483648:=h.g.seq
 have g3:0≤l.tail∧l.tail<c.log:=h.g.tail
 have g4:(l.live.length:Int)<l.seq:=h.g.more
 rw [h.age] at g1
 have hid:=hc.id
 unfold AK at hid
 have hlo:=h.rdk.lo
 have hb:AX X=Bg c.id.toNat ag.toNat (l.seq-(l.live.length:Int)).toNat l.tail.toNat:=by
  rw [← h.sup]
  show Aa (AY X 0)=_
  rw [hX.keep (Int.le_refl _) h.w0]
 have hr:=Zb5 (I:=c.id.toNat) (A:=ag.toNat) (Q:=(l.seq-(l.live.length:Int)).toNat) (T:=l.tail.toNat) (by omega) (by omega) (by omega) (by omega)
 rw [← hb] at hr
 have hs:DE (ag.toNat:Int) ((l.seq-(l.live.length:Int)).toNat:Int) (l.tail.toNat:Int)=true:=by
  unfold DE CO
  simp only [Zoh,Zpc]
  omega
 have hok:Ia (AX X)=true:=by
  unfold Ia
  rw [hr]
  dsimp only
  rw [hs,← hb,Zok rfl];rfl
 refine ⟨?_,?_,?_,?_⟩
 ·unfold D4
  dsimp only
  rw [Zoj hM,Zoj ⟨hX.dsk,by rw [hX.len];exact h.rdk.len⟩,hX.dead]
  show (if JR c (AX X)=true then (0:Int) else 90)=0
  rw [Zoj]
  unfold JR
  rw [hok,hr]
  simp only [Zoh,Zpc]
  exact ⟨trivial,by omega,by omega⟩
 ·unfold Hp;rw [hr];dsimp only;omega
 ·unfold Ho;rw [hr];dsimp only;omega
 ·unfold Ez;rw [hr];dsimp only;omega
theorem PI.sums (h:PI c ag sq0 l d ds A):∀ k,k≤l.live.length→A1 (l.live.take k)=(E1 ((ds.drop (ds.length-l.live.length)).take k):Int)
 | 0,_=>rfl
 | k+1,hk=>by
  have ih:=h.sums k (by omega)
  have hle:=h.le
  have hx:=Zof (l:=l.live) (i:=k) (by omega)
  have hy:=Zof (l:=ds) (i:=ds.length-l.live.length+k) (by omega)
  obtain ⟨e1,_⟩:=h.live k _ _ _ hx (by omega) hy
  rw [Zos (by omega),H7,ih,PZ (d:=ds[ds.length-l.live.length+k]'(by omega)) (by rw [Zoq];exact hy)]
  show _+(Lv.blocks _+0)=_
  rw [e1];omega
theorem PI.scp (h:PI c ag sq0 l d ds A) (hM:c.may) (hc:c.ok) (hX:Cut d X) (hcl:∀ a b,A a→A b→Au a=Au b→a=b):
 ScP c X ag (l.seq-(l.live.length:Int)) l.tail (ds.drop (ds.length-l.live.length)) A:=by
 obtain ⟨f1,f2,f3,f4⟩:=h.fst hM hc hX
 have hle:=h.le
 have hsq:=h.seq
 have hlo:=h.rdk.lo
 have hsk:∀ k:Nat,l.seq-(l.live.length:Int)+(k:Int)=sq0+((ds.length-l.live.length+k:Nat):Int):=fun k=>by omega
 refine ⟨⟨hc,hX.ok⟩,f1,f2,f3,f4,fun k x hx=>?_,fun p h1 h2=>?_,fun b hb hg ha j hj=>?_,hcl,fun k x hx=>?_⟩
 ·rw [Zoq] at hx
  rw [hsk];exact h.gd _ x hx
 ·rw [hX.drd]
  rcases hX.bs p (by omega) with e|⟨w,hw,_,e⟩
  ·rw [e];exact h.ring p h1 h2
  ·rw [e];exact h.wal w hw
 ·obtain ⟨t,y,ht,e⟩:=h.nt b hb hg ha
  have hr:=(h.gd t y ht).rd.1
  rw [e,hr,hsk] at hj
  have hj:sq0+(t:Int)=sq0+((ds.length-l.live.length+j:Nat):Int):=hj
  have hj:t=ds.length-l.live.length+j:=by omega
  subst hj
  exact ⟨y,by rw [Zoq];exact ht,by rw [hsk];exact e⟩
 ·rw [Zoq] at hx
  rw [hsk];exact h.blk _ x hx
theorem PI.told (h:PI c ag sq0 l d ds A) (hM:c.may) (hc:c.ok) (hX:Cut d X) (hcl:∀ a b,A a→A b→Au a=Au b→a=b) (hS:S≤l.live.length) (hsu:∀ (k:Nat) x,k<S→l.live[k]?=some x→x.sure=true):
 S≤(BI ⟨c,X⟩).length∧(BI ⟨c,X⟩).length≤l.live.length∧∀ (j:Nat) f,(BI ⟨c,X⟩)[j]?=some f→∃ (y:DB) (x:Lv),l.live[j]?=some x∧ds[ds.length-l.live.length+j]?=some y∧f=⟨BD.note ⟨c,ag,x.seq,y⟩,B6 y⟩:=by
 have hP:=h.scp hM hc hX hcl
 have hle:=h.le
 have hlo:=h.rdk.lo
 have hdl:(ds.drop (ds.length-l.live.length)).length=l.live.length:=by rw [Zp3];omega
 have hf:=fun (j:Nat) f (hj:(BI ⟨c,X⟩)[j]?=some f)=>(hP.finds j (Nat.le_of_lt (Zog.1 hj).1)).2 f hj
 refine ⟨hP.sure (by rw [hdl];exact hS) ?_ fun k y hk hy i b hb=>?_,?_,fun j f hj=>?_⟩
 ·have h1:=h.sums l.live.length (Zo0 _)
  rw [List.take_length,Zoo (by omega)] at h1
  have h2:l.used=A1 l.live:=h.g.sum
  have h3:l.used≤c.log:=h.g.used
  omega
 ·rw [Zoq] at hy
  have hx:=Zof (l:=l.live) (i:=k) (by omega)
  obtain ⟨_,e2⟩:=h.live k _ _ y hx (by omega) hy
  have hsk:l.seq-(l.live.length:Int)+(k:Int)=sq0+((ds.length-l.live.length+k:Nat):Int):=by have:=h.seq;omega
  rw [hsk] at hb
  obtain ⟨e3,e4⟩:=e2 i b hb
  have e4:=e4 (hsu k _ hk hx)
  have hp:1+((l.tail+(E1 ((ds.drop (ds.length-l.live.length)).take k):Int)) % c.log+(i:Int)) % c.log=DQ c l k i:=by
   rw [← h.sums k (by omega),Int.emod_add_emod];rfl
  show Aa (AY X (1+((l.tail+(E1 ((ds.drop (ds.length-l.live.length)).take k):Int)) % c.log+(i:Int)) % c.log))=b
  rw [hp]
  have q1:=Zpz (l.tail+A1 (l.live.take k)+(i:Int)) (b:=c.log) (by omega)
  rw [hX.keep (by unfold DQ;omega) e4]
  exact e3
 ·refine Nat.le_of_not_lt fun hlt=>?_
  obtain ⟨y,hy,_⟩:=hf l.live.length _ (Zof hlt)
  have:=(Zog.1 hy).1
  omega
 ·obtain ⟨y,hy,e⟩:=hf j f hj
  have hjl:=(Zog.1 hy).1
  rw [Zoq] at hy
  have hx:=Zof (l:=l.live) (i:=j) (by omega)
  have hlv:(l.live[j]'(by omega)).seq=l.seq-((l.live.length:Int)-(j:Int)):=(h.g.lv j _ hx).2.2.1
  refine ⟨y,_,hx,hy,?_⟩
  rw [e,hlv,show l.seq-(l.live.length:Int)+(j:Int)=l.seq-((l.live.length:Int)-(j:Int)) by omega]
def C6 (lg a:Int):DK→List (AV×List Nat)→Nat→DK
 | d,[],_=>d
 | d,p::l,i=>C6 lg a (Fi ⟨d,1+(a+(i:Int)) % lg,p.1,p.2⟩) l (i+1)
theorem Uw {lg a:Int}:∀ (l:List (AV×List Nat)) (d:DK) (i j:Nat) (p:AV×List Nat),l[j]?=some p→C6 lg a d (l.take (j+1)) i=Fi ⟨C6 lg a d (l.take j) i,1+(a+((i+j:Nat):Int)) % lg,p.1,p.2⟩
 | [],d,i,j,p,h=>by simp at h
 | q::l,d,i,0,p,h=>by simp at h;subst h;rfl
 | q::l,d,i,j+1,p,h=>by
  have:=Uw (lg:=lg) (a:=a) l (Fi ⟨d,1+(a+(i:Int)) % lg,q.1,q.2⟩) (i+1) j p (by simpa using h)
  rw [show i+1+j=i+(j+1) by omega] at this
  exact this
variable {u:AV}{b:List Nat}
theorem RDK.dw0 {lg:Int}(h:RDK lg d) (hw:d.ws.length<1024) (i:Nat) (hb:b.length=0∨b.length=128):GP ⟨d,1+(a+(i:Int)) % lg,u,b⟩=0:=by
 unfold GP
 dsimp only
 rw [h.wrt (a:=a) i hb,Zoj rfl,Zon (by omega)]
theorem Zmu (x:DKW) {w:WR}(h:w ∈ (Fi x).ws):(∃ v ∈ x.d.ws,w.at_=v.at_∧w.b=v.b)∨(w.at_=x.a∧w.b=Aa x.b):=by
 have h:w ∈ x.d.ws.map An++[⟨x.a,AA (Aa x.b),Aa x.b⟩]:=h
 rcases Zo7.1 h with h|h
 ·obtain ⟨v,hv,rfl⟩:=Zpf.1 h
  exact .inl ⟨v,hv,rfl,rfl⟩
 ·simp at h;subst h;exact .inr ⟨rfl,rfl⟩
theorem Wg (x:DKW):(Fi x).ws.length=x.d.ws.length+1:=O9 x
theorem NV {lg a:Int}:∀ (l:List (AV×List Nat)) (d:DK) (i:Nat),RDK lg d→(∀ p ∈ l,BAt p.1 p.2∧(p.2.length=0∨p.2.length=128))→(l.length:Int)≤lg→d.ws.length+l.length≤1024→
 RDK lg (C6 lg a d l i)∧(∀ p:Int,(∀ j,j<l.length→p≠1+(a+((i+j:Nat):Int)) % lg)→AY (C6 lg a d l i) p=AY d p)∧
 (∀ (j:Nat) q,l[j]?=some q→AY (C6 lg a d l i) (1+(a+((i+j:Nat):Int)) % lg)=Aa q.2)∧
 (C6 lg a d l i).bs=d.bs∧(C6 lg a d l i).ws.length=d.ws.length+l.length∧
 (∀ w ∈ (C6 lg a d l i).ws,(∃ v ∈ d.ws,w.at_=v.at_∧w.b=v.b)∨∃ (j:Nat) (q:AV×List Nat),l[j]?=some q∧w.at_=1+(a+((i+j:Nat):Int)) % lg∧w.b=Aa q.2)
 | [],d,i,h,_,_,_=>⟨h,fun _ _=>rfl,fun j q h=>by simp at h,rfl,rfl,fun w hw=>.inl ⟨w,hw,rfl,rfl⟩⟩
 | p::l,d,i,h,hl,hn,hm=>by
  obtain ⟨hu,hb⟩:=hl p (by simp)
  rw [Zo9] at hn hm
  have hnx:=h.dw (h.wok (a:=a) i hu hb) rfl (h.dw0 (a:=a) (u:=p.1) (by omega) i hb)
  have hlo:=h.lo
  obtain ⟨s1,s2,s3,s4,s5,s6⟩:=NV (a:=a) l _ (i+1) hnx (fun q hq=>hl q (by simp [hq])) (by omega) (by rw [Wg];dsimp only;omega)
  have hrd:=Zka ⟨d,1+(a+(i:Int)) % lg,p.1,p.2⟩
  refine ⟨s1,fun q hq=>?_,fun j q hj=>?_,s4,by rw [show (C6 lg a d (p::l) i).ws.length=_ from s5,Wg,Zo9];dsimp only;omega,fun w hw=>?_⟩
  ·show AY (C6 lg a _ l (i+1)) q=_
   rw [s2 q (fun j hj=>by
    have:=hq (j+1) (by rw [Zo9];omega)
    rwa [show i+(j+1)=i+1+j by omega] at this),hrd,Zon]
   have:=hq 0 (by rw [Zo9];omega)
   rw [Zpo] at this
   exact fun e=>this e.symm
  ·show AY (C6 lg a _ l (i+1)) _=_
   cases j with
   | zero=>
    simp at hj;subst hj
    rw [show ((i+0:Nat):Int)=(i:Int) by omega]
    rw [s2 _ (fun j hj e=>?_),hrd,Zoj rfl]
    exact UC (lg:=lg) (a:=a) (i:=i) (j:=i+1+j) (by omega) (by omega) (by omega) (by omega)
   | succ j=>
    have:=s3 j q (by simpa using hj)
    rwa [show i+1+j=i+(j+1) by omega] at this
  ·rcases s6 w hw with ⟨v,hv,v1,v2⟩|⟨j,q,hj,v1,v2⟩
   ·rcases Zmu _ hv with ⟨u,hu',u1,u2⟩|⟨u1,u2⟩
    ·exact .inl ⟨u,hu',by rw [v1,u1],by rw [v2,u2]⟩
    ·refine .inr ⟨0,p,rfl,by rw [v1,u1];rfl,by rw [v2,u2]⟩
   ·exact .inr ⟨j+1,q,by simpa using hj,by rw [v1,show i+1+j=i+(j+1) by omega],v2⟩
def Dk (x:BD):List (AV×List Nat):=(C5 (AN x.note),AN x.note)::x.d.prs.map (fun p=>(Bp p,AQ p.2))
theorem Zk5 (x:BD):(Dk x).map Prod.fst=C5 (AN x.note)::x.d.prs.map Bp:=by unfold Dk;rw [Zpv,List.map_map];rfl
theorem Rw (x:BD):(Dk x).map Prod.snd=x.bb:=by unfold Dk;rw [Zpv,List.map_map];rfl
theorem OF (x:BD):(Dk x).length=x.d.n:=by unfold Dk DB.n;rw [Zo9,Zom]
theorem M6 (h:GD x):∀ p ∈ Dk x,BAt p.1 p.2∧p.2.length=128:=fun p hpm=>by
 have hp:=Oh h.good.1 h.ok.d h.good.2
 rcases Zpp.1 hpm with rfl|hpm
 ·exact ⟨⟨.inr (.inr ⟨some 128,by show C5 _=.fz (AN _).length _ _;rw [PF];rfl,by rw [Ba];omega⟩),Zca _⟩,PF _⟩
 ·obtain ⟨q,hq,rfl⟩:=Zpf.1 hpm
  have h1:=hp q hq
  exact ⟨Hi ⟨Gq h1.2,Gw h1.1.2⟩,Gq h1.2⟩
theorem Zk8 (h:GD x):∀ b ∈ x.bb,Cz b=true→b=AN x.note:=fun b hb hg=>by
 have hp:=Oh h.good.1 h.ok.d h.good.2
 rcases Zpp.1 hb with rfl|hb
 ·rfl
 ·obtain ⟨q,hq,rfl⟩:=Zpf.1 hb
  exact absurd hg (by rw [YX (hp q hq).2];decide)
theorem PI.add (h:PI c ag sq0 l d ds A) (hq:GD ⟨c,ag,l.seq,q⟩) (hm:GoodR ⟨m,c⟩) (h1:m.age=l.age) (h2:m.seq=l.seq+1) (h3:m.tail=l.tail)
 (h4:m.live=l.live++[z]) (hz:z.sure=false) (hzb:z.blocks=(q.n:Int)) (hw:d.ws.length+q.n≤1024) (hA:∀ b,A' b↔A b∨b ∈ BD.bb ⟨c,ag,l.seq,q⟩):
 PI c ag sq0 m (C6 c.log (l.tail+l.used) d (Dk ⟨c,ag,l.seq,q⟩) 0) (ds++[q]) A'∧(C6 c.log (l.tail+l.used) d (Dk ⟨c,ag,l.seq,q⟩) 0).ws.length=d.ws.length+q.n:=by
 have hlo:=h.rdk.lo
 have hl:=Mf (Kz hq.good)
 have hok:=M6 hq
 have hll:=OF ⟨c,ag,l.seq,q⟩
 have hl2:(q.n:Int)≤c.log:=by
  have h1:((q.prs.length:Nat):Int)+1≤c.log:=hl.2.2
  unfold DB.n;omega
 obtain ⟨s1,s2,s3,s4,s5,s6⟩:=NV (a:=l.tail+l.used) (Dk ⟨c,ag,l.seq,q⟩) d 0 h.rdk (fun p hp=>⟨(hok p hp).1,.inr (hok p hp).2⟩) (by rw [hll];exact hl2) (by rw [hll];exact hw)
 have hbb:∀ (j:Nat) p,(Dk ⟨c,ag,l.seq,q⟩)[j]?=some p→(BD.bb ⟨c,ag,l.seq,q⟩)[j]?=some p.2:=fun j p hp=>by rw [← Rw,Zpe,hp];rfl
 have hpos:∀ j:Nat,0≤(l.tail+l.used+(j:Int)) % c.log:=fun j=>Zpz _ (by omega)
 refine ⟨PI.more h hq hm h1 h2 h3 h4 hz hzb s1 (s2 0 fun j _ e=>by have:=hpos (0+j);omega) (fun p _ _ hp=>s2 p fun j hj=>by rw [Zou];exact hp j (by rw [hll] at hj;exact hj)) (fun i b hb=>?_) (fun w hw'=>?_) s4 (fun b hb=>(hA b).2 (.inl hb)) (fun b hb=>(hA b).1 hb) (fun b hb=>(hA b).2 (.inr hb)) (Zk8 hq),by rw [s5,hll]⟩
 ·rw [← Rw,Zpe] at hb
  cases hp:(Dk ⟨c,ag,l.seq,q⟩)[i]? with
  | none=>rw [hp] at hb;cases hb
  | some p=>
   rw [hp] at hb
   have hb:p.2=b:=Zpn hb
   have:=s3 i p hp
   rw [Zou] at this
   have ho:=(hok p (Zo1 hp)).2
   rw [this,CH ho,CH ho,hb]
 ·rcases s6 w hw' with hv|⟨j,p,hp,w1,w2⟩
  ·exact .inl hv
  ·refine .inr ⟨j,?_,by rw [w1,Zou],?_⟩
   ·have:=(Zog.1 hp).1
    rw [hll] at this;exact this
   ·have ho:=(hok p (Zo1 hp)).2
    rw [w2,CH ho,CH ho]
    exact (hA _).2 (.inr (Zo1 (hbb j p hp)))
theorem PI.flush (h:PI c ag sq0 l d ds A) (hS:StepR c l m 0) (hsq:m.seq=l.seq) (hm:GoodR ⟨m,c⟩) (hlen:m.live.length=l.live.length) (htl:m.tail=l.tail):PI c ag sq0 m (CE d) ds A:=by
 have hR:=h.rdk
 have hlo:=hR.lo
 have hl:=hR.ok.a.bs.length
 have hlen':=hR.len
 obtain ⟨d1,d2,d3,d4⟩:=dskB_iff.1 hR.dsk
 have hrd:∀ p:Int,0≤p→AY (CE d) p=AY d p:=fun p hp=>Zj9 hR.ok hR.dsk hp
 refine h.same (g:=0) hS hsq hm ⟨J6 hR.ok,Rj hR.ok hR.dsk,by rw [O7];exact hR.len,rfl,hlo⟩ (fun p hp _=>hrd p (by omega)) (fun w hw=>by cases hw) (fun p h1 h2=>?_) (fun k x y _ _ _=>.inr rfl) ?_
 ·have e:(CE d).bs.getD p.toNat []=AY d p:=by
   rw [← hrd p (by omega)];rfl
  rw [e]
  unfold AY EI
  cases hq:BW p d.ws.reverse with
  | none=>exact h.ring p h1 h2
  | some b=>
   have hmem:∀ {L:List WR}{b:List Nat},BW p L=some b→∃ w ∈ L,w.b=b:=fun {L}=>by
    induction L with
    | nil=>intro b hb;cases hb
    | cons w L ih=>
     intro b hb
     have hb:(if w.at_=p then some w.b else BW p L)=some b:=hb
     split at hb
     ·cases hb;exact ⟨w,by simp,rfl⟩
     ·obtain ⟨v,hv,e⟩:=ih hb
      exact ⟨v,by simp [hv],e⟩
   obtain ⟨w,hw,e⟩:=hmem hq
   show A (Aa b)
   rw [← e];exact h.wal w (List.mem_reverse.1 hw)
 ·rw [hrd 0 (Int.le_refl _),h.sup,hsq,hlen,htl]
theorem Ll (hR:RDK c.log d) (hu:BAt u b) (hb:b.length=128):DKW.ok ⟨d,0,u,b⟩∧Cg d 0 b=0∧RDK c.log (Ct ⟨d,0,u,b⟩)∧Aa (AY (Ct ⟨d,0,u,b⟩) 0)=b∧(∀ p:Int,1≤p→AY (Ct ⟨d,0,u,b⟩) p=AY d p)∧(∀ w ∈ (Ct ⟨d,0,u,b⟩).ws,∃ v ∈ d.ws,w.at_=v.at_∧w.b=v.b∧v.at_≠0)∧(∀ p:Int,1≤p→(Ct ⟨d,0,u,b⟩).bs.getD p.toNat []=d.bs.getD p.toNat [])∧(Ct ⟨d,0,u,b⟩).ws.length≤d.ws.length:=by
 have hlo:=hR.lo
 have hlen:=hR.len
 have hok:DKW.ok ⟨d,0,u,b⟩:=⟨hR.ok,by unfold Aj;dsimp only;omega,hu,by dsimp only;omega⟩
 have hz:Cg d 0 b=0:=by
  unfold Cg Ic
  rw [Zoj hR.dsk,Zoj (show (0:Int)≤0∧(0:Int)<d.us.length by omega)]
  have ho:AE b.length=false:=by rw [hb];rfl
  simp [ho,hR.dead]
 refine ⟨hok,hz,⟨Zit hok hz,Zfw hok hz,by rw [QL];exact hlen,hR.dead,hlo⟩,?_,fun p hp=>?_,fun w hw=>?_,fun p hp=>?_,?_⟩
 ·rw [Vf hok hz (Int.le_refl _),Zoj rfl]
  show Aa (Aa b)=b
  rw [CH hb,CH hb]
 ·rw [Vf hok hz (by omega),Zon (by show ¬ p=0;omega)]
 ·obtain ⟨v,hv,rfl,hne⟩:=LM (show w ∈ A5 0 (d.ws.map An) from hw)
  exact ⟨v,hv,rfl,rfl,hne⟩
 ·show (d.bs.set (0:Int).toNat _).getD p.toNat []=_
  rw [Zo8,Zo8,List.getElem?_set_ne (by show (0:Nat)≠_;omega)]
 ·have:=Oc 0 (d.ws.map An)
  rw [Zom] at this;exact this
theorem PI.move (h:PI c ag sq0 l d ds A) (hS:StepR c l m g) (hsq:m.seq=l.seq) (hm:GoodR ⟨m,c⟩) (hsu:∀ (k:Nat) x y,l.live[k+g]?=some x→m.live[k]?=some y→y.sure=x.sure)
 (hu:BAt u b) (hb:b=Bg c.id.toNat ag.toNat (m.seq-(m.live.length:Int)).toNat m.tail.toNat):PI c ag sq0 m (Ct ⟨d,0,u,b⟩) ds A:=by
 obtain ⟨_,_,f1,f2,f3,f4,f5,_⟩:=Ll h.rdk hu (by rw [hb];exact GS _ _ _ _)
 refine h.same hS hsq hm f1 (fun p h1 _=>f3 p h1) (fun w hw=>by obtain ⟨v,hv,v1,v2,_⟩:=f4 w hw;exact ⟨v,hv,v1,v2⟩) (fun p h1 h2=>by rw [f5 p h1];exact h.ring p h1 h2) (fun k x y hx hy hs=>.inl (by rw [← hsu k x y hx hy];exact hs)) (by rw [f2,hb])
theorem Zg3 (hR:RDK c.log d) (hg:GoodR ⟨⟨ag,sq,tl,us,[]⟩,c⟩) (hw:d.ws=[]) (hA:∀ p:Int,1≤p→p≤c.log→A (Aa (d.bs.getD p.toNat []))) (hn:∀ b,A b→Cz b=true→(As b).age≠ag)
 (hu:BAt u b) (hb:b=Bg c.id.toNat ag.toNat sq.toNat tl.toNat):PI c ag sq ⟨ag,sq,tl,us,[]⟩ (Ct ⟨d,0,u,b⟩) [] A∧(Ct ⟨d,0,u,b⟩).ws=[]:=by
 obtain ⟨_,_,f1,f2,f3,f4,f5,f6⟩:=Ll hR hu (by rw [hb];exact GS _ _ _ _)
 have hws:(Ct ⟨d,0,u,b⟩).ws=[]:=Zpd.1 (by rw [hw] at f6;simpa using f6)
 refine ⟨⟨hg,rfl,f1,(by show sq=sq+0;omega),Zo0 _,(fun t x hx=>by simp at hx),(fun t x hx=>by simp at hx),(fun k t x y hx=>by simp at hx),?_,(fun w hw'=>by rw [hws] at hw';cases hw'),(fun p h1 h2=>by rw [f5 p h1];exact hA p h1 h2),(fun w hw'=>by rw [hws] at hw';cases hw'),fun b hb hg' ha=>absurd ha (hn b hb hg')⟩,hws⟩
 rw [f2,hb]
 show _=Bg _ _ (sq-0).toNat _
 rw [Int.sub_zero]
attribute [local irreducible] W
open X
def Wr:AC:=match a11 with|.mk c _=>c
def I7:AC:=IS 4 Wr
def IW (U:List AV) (l:Log) (v:AV) (j:DK) (m:Log) (mv:AV):List AObj:=[.row 41 U,.row 31 (l.c v),.row 28 j.c,.row 31 BH,.row 28 Da,.row 31 (m.c mv)]
def IQ (n:Nat) (e:Int) (done:AV):List (Nat×AV):=[(4,.sl 0 0 n none),(6,.ptr 1 0),(7,.ptr 2 0),(10,.ptr 3 0),(11,.ptr 4 0),(14,.ptr 5 0),(15,.int .i64 e),(16,done)]
abbrev resPl:List ARes:=[.cells 10 5,.cells 11 3,.tmp 12,.tmp 13]
variable {e:Env}{U:List AV}{n:Nat}{mv:AV}{j:DK}{K:AV→St→Prop}
theorem R5 (hE:EM P e) {er:Int}{done:AV}(her:er≠0)
 (hk:∀ s,s.get 0=some (.row 41 U)→K (.tup [.agg (l.c v),j.v,.sl 0 0 n none,.bool true]) s):
 W P 1 none I7 (Am (IQ n er done)) (Ac St0 (IW U l v j m mv)) [] (Bx resPl K):=by
 refine Fv hE ?_;conv=>whnf
 refine B7 (a:=er) (b:=0) rfl rfl (fun _=>?_) (fun h=>absurd h her);conv=>whnf
 refine ⟨rfl,?_⟩;conv=>whnf
 refine hk _ ?_
 rfl
theorem VH (hE:EM P e)
 (hk:∀ s,s.get 0=some (.row 41 U)→K (.tup [.agg (m.c mv),j.v,.sl 0 0 n none,.bool true]) s):
 W P 1 none I7 (Am (IQ n 0 .nils)) (Ac St0 (IW U l v j m mv)) [] (Bx resPl K):=by
 refine Fv hE ?_;conv=>whnf
 refine B7 (a:=0) (b:=0) rfl rfl (fun h=>absurd rfl h) (fun _=>?_);conv=>whnf
 refine Hg hE ?_;conv=>whnf
 refine Nx rfl ?_;conv=>whnf
 refine Ag (a:=0) (b:=0) rfl rfl (fun h=>by omega) (fun _=>?_);conv=>whnf
 refine ⟨rfl,?_⟩;conv=>whnf
 refine hk _ ?_
 rfl
structure PlIn (e:Env):Prop where
 h34:Con e 35 addF.O
 h37:Con e 36 flushF.O
 h64:Con e 37 fluF.O
 h39:Con e 38 homeFm.O
 h40:Con e 39 moveF.O
 h58:Con e 40 dwF.O
 h92:Con e 10 fuaF.O
theorem Zhx (hE:EM P e) (hIn:PlIn e) {mb:Int}(hj:j.ok) (hu:BAt u b) (hb:b.length=128) (hw:Cg j 0 b=0)
 (hk:∀ s,s.get 0=some (.row 41 U)→K (.tup [.agg (m.c mv),(Ct ⟨j,0,u,b⟩).v,.sl 0 0 n none,.bool true]) s):
 W P 1 none I7 (Am (IQ n 0 (.fz 1 (some 1) [.int .i64 mb,.int .u8 2,.int .i64 0,u]))) (Ac St0 (IW U l v j m mv)) [] (Bx resPl K):=by
 have hko:DKW.ok ⟨j,0,u,b⟩:=⟨hj,by unfold Aj;dsimp only;omega,hu,by dsimp only;omega⟩
 have hdw:∀ (K:AV→St→Prop) (s:St),(∀ x y (d:Bool) (er:Int),K (.tup [.agg [x,y,.bool d],.int .i64 er]) s)→ESc e 40 [j.v,.int .i64 0,u] s K:=fun K s k1=>by
  refine ESc.fam dwF hIn.h58 ⟨j,0,u,b⟩ hko (u:=GH ⟨j,0,u,b⟩) rfl ?_
  unfold GH
  split
  ·exact k1 _ _ _ _
  ·exact k1 _ _ _ _
 have hfu:∀ (K:AV→St→Prop) (s:St),K (.tup [(Ct ⟨j,0,u,b⟩).v,.int .i64 0]) s→ESc e 10 [j.v,.int .i64 0,u] s K:=fun K s hk=>
  ESc.fam fuaF hIn.h92 ⟨j,0,u,b⟩ hko (u:=.tup [(Ct ⟨j,0,u,b⟩).v,.int .i64 0]) (by show G7 _=_;unfold G7;rw [Zoj hw]) hk
 generalize Ct ⟨j,0,u,b⟩=J at *
 refine Fv hE ?_
 obtain ⟨jb,ju,js,jw,jl,jd⟩:=j
 obtain ⟨Jb,Ju,Js,Jw,Jl,Jd⟩:=J
 conv=>whnf
 refine B7 (a:=0) (b:=0) rfl rfl (fun h=>absurd rfl h) (fun _=>?_);conv=>whnf
 refine WF hE ?_;conv=>whnf
 repeat' (first|(refine Kl rfl ?_;conv=>whnf)|(refine LG (i:=0) rfl rfl (by omega) ?_;conv=>whnf)|(refine EHead.mk rfl ?_;conv=>whnf)|((refine w1 rfl rfl ?_ ?_) <;> intro _ <;> first|(exfalso;omega)|(conv=>whnf))|fail)
 refine hdw _ _ (fun x y d er=>?_);conv=>whnf
 repeat' (first|(refine Kl rfl ?_;conv=>whnf)|(refine LG (i:=0) rfl rfl (by omega) ?_;conv=>whnf)|(refine EHead.mk rfl ?_;conv=>whnf)|(refine hfu _ _ ?_;conv=>whnf)|((first|refine w1 rfl rfl ?_ ?_|refine w3 rfl rfl ?_ ?_|refine w5 rfl rfl ?_ ?_|refine w6 rfl rfl ?_ ?_) <;> intro _ <;> first|(exfalso;omega)|(conv=>whnf))|((first|refine w7 rfl rfl (by omega) ?_|refine ⟨rfl,?_⟩);conv=>whnf)|fail)
 refine hk _ ?_
 rfl
theorem TB {c:Cfg}{tl us:Int}:∀ {L:List AV}{i k:Nat}(h:i<L.length),(CX c tl us k L).drop (i*4)=EJ c tl us (k+i) L[i]++(CX c tl us k L).drop ((i+1)*4)
 | x::L,0,k,h=>rfl
 | x::L,i+1,k,h=>by
  have:=TB (c:=c) (tl:=tl) (us:=us) (L:=L) (i:=i) (k:=k+1) (by simpa using h)
  show (EJ c tl us k x++CX c tl us (k+1) L).drop ((i+1)*4)=EJ c tl us (k+(i+1)) (L[i]'(by simpa using h))++(EJ c tl us k x++CX c tl us (k+1) L).drop ((i+1+1)*4)
  rw [show (i+1)*4=(EJ c tl us k x).length+i*4 by show (i+1)*4=4+i*4;omega,show (i+1+1)*4=(EJ c tl us k x).length+(i+1)*4 by show (i+1+1)*4=4+(i+1)*4;omega,List.drop_append,List.drop_append,
   Zpb (by omega),(Zpb (by omega):(EJ c tl us k x).drop ((EJ c tl us k x).length+(i+1)*4)=[]),Nat.add_sub_cancel_left,Nat.add_sub_cancel_left,this,show k+1+i=k+(i+1) by omega];rfl
theorem FQ (h:AM.hf v=true):hfs (l.c v)=true:=by
 show (true && (true && (true && (true && (AM.hf v && true)))))=true
 rw [h];rfl
def osAd (U:List AV) (l:Log) (v:AV) (J:DK) (m:Log) (mv:AV) (B:List AV):Nat→List AObj
 | 0=>[.row 41 U,.row 31 (l.c v),.row 28 J.c,.row 31 BH,.row 28 Da,.row 31 (m.c mv)]
 | _+1=>[.dead,.row 31 (l.c v),.row 28 J.c,.row 31 BH,.row 28 Da,.row 31 (m.c mv),.row 41 (U++B)]
def tlAd (n:Nat) (done:AV) (i:Nat):List (Nat×AV):=[(4,if i=0 then .sl 0 0 n none else .sl 6 0 (n+i) none),(6,.ptr 1 0),(7,.ptr 2 0),(10,.ptr 3 0),(11,.ptr 4 0),(14,.ptr 5 0),(16,done),(19,.int .i64 (i:Int))]
theorem Zlw (hE:EM P e) (hIn:PlIn e) {B:List (AV×List Nat)}(hR:RDK c.log j) (hB:∀ p ∈ B,BAt p.1 p.2∧p.2.length=128) (hq:(B.length:Int)≤c.log) (hw:j.ws.length+B.length≤1024) (h0:0<B.length)
 (hU:hfs U=true) (hUl:U.length=n) (hn:n≤100000) (hv:AM.hf v=true) (hmv:AM.hf mv=true)
 (hk:∀ s,s.get 0=some .dead→s.get 6=some (.row 41 (U++B.map Prod.fst))→K (.tup [.agg (m.c mv),(C6 c.log (tl+us) j B 0).v,.sl 6 0 (n+B.length) none,.bool true]) s):
 W P 1 none I7 (Am (IQ n 0 (.fz B.length none (CX c tl us 0 (B.map Prod.fst))))) (Ac St0 (IW U l v j m mv)) [] (Bx resPl K):=by
 obtain ⟨A,hA⟩:∃ A,A=CX c tl us 0 (B.map Prod.fst):=⟨_,rfl⟩
 have hAl:A.length=B.length*4:=by rw [hA,PM,Zom]
 obtain ⟨done,hdn⟩:∃ d,d=AV.fz B.length none A:=⟨_,rfl⟩
 have hds:Sl 4 B.length A done:=.inr (.inr ⟨none,hdn,hAl⟩)
 have hdf:AM.hf done=true:=by rw [hdn];rfl
 have hlo:=hR.lo
 have hBf:∀ i,hfs (U++(B.take i).map Prod.fst)=true:=fun i=>N8 hU (hfs_iff.2 fun x hx=>by
  obtain ⟨p,hp,rfl⟩:=Zpf.1 hx
  exact (hB p (Zpm hp)).1.1.hf)
 have hRi:∀ i,i≤B.length→RDK c.log (C6 c.log (tl+us) j (B.take i) 0)∧(C6 c.log (tl+us) j (B.take i) 0).ws.length=j.ws.length+i:=fun i hi=>by
  have hl:(B.take i).length=i:=by rw [Zo5];omega
  obtain ⟨s1,_,_,_,s5,_⟩:=NV (a:=tl+us) (B.take i) j 0 hR (fun p hp=>⟨(hB p (Zpm hp)).1,.inr (hB p (Zpm hp)).2⟩) (by rw [hl];omega) (by rw [hl];omega)
  exact ⟨s1,by rw [s5,hl]⟩
 have hlf:hfs (l.c v)=true:=FQ hv
 have hmf:hfs (m.c mv)=true:=FQ hmv
 have hJf:∀ {J:DK},RDK c.log J→hfs J.c=true:=fun h=>CZ h.ok.a.wl h.ok.a.bl
 rw [← hA,← hdn]
 refine Av hE ?_;conv=>whnf
 refine B7 (a:=0) (b:=0) rfl rfl (fun h=>absurd rfl h) (fun _=>?_);conv=>whnf
 refine Av hE ?_;conv=>whnf
 refine Ce (α:=Nat) (fun i=>tlAd n done i) (fun i=>osAd U l v (C6 c.log (tl+us) j (B.take i) 0) m mv ((B.take i).map Prod.fst) i) (fun i=>B.length-i) (fun i=>i≤B.length) 0 (Zoy _)
  (AbsK.tells (rs:=[0,1,2,3,4,5]) ⟨rfl,by decide,⟨r9,r9,r9,r9,r9,r9,t9,r9,trivial⟩,⟨o9,o9,⟨AD (hJf (hRi 0 (Zoy _)).1),by rw [Az (hJf (hRi 0 (Zoy _)).1)];rfl⟩,r9,r9,o9,trivial⟩⟩) ?_
 intro i hi
 refine A9 hE ?_
 by_cases hlt:i<B.length
 ·obtain ⟨hR0,hW0⟩:=hRi i hi
  have hR1:=(hRi (i+1) hlt).1
  have hbi:=Zof hlt
  have hdr:=TB (c:=c) (tl:=tl) (us:=us) (L:=B.map Prod.fst) (i:=i) (k:=0) (by rw [Zom];exact hlt)
  rw [← hA,List.getElem_map] at hdr
  have hst:=Uw (lg:=c.log) (a:=tl+us) B j 0 i _ hbi
  have hp:=hB _ (Zpg hlt)
  have htk:(B.take (i+1)).map Prod.fst=(B.take i).map Prod.fst++[B[i].1]:=by rw [Zos hlt,Zo4];rfl
  have hB1:=hBf (i+1)
  have hml:((B.take i).map Prod.fst).length=i:=by rw [Zom,Zo5];omega
  generalize B[i]=p at hdr hst hp htk
  obtain ⟨u,b⟩:=p
  obtain ⟨hu,hb⟩:=hp
  dsimp only at hdr hst hu hb htk
  have hq0:(1:Int)+((tl+us) % c.log+((0+i:Nat):Int)) % c.log=1+(tl+us+(i:Int)) % c.log:=by rw [Int.emod_add_emod,Zou]
  have hq1:=Zpz (tl+us+(i:Int)) (b:=c.log) (by omega)
  have hdr:A.drop (i*4)=[.int .i64 c.members,.int .u8 1,.int .i64 (1+(tl+us+(i:Int)) % c.log),u]++A.drop ((i+1)*4):=by rw [hdr];unfold EJ;rw [hq0]
  rw [Zou] at hst
  have hdw:∀ (K:AV→St→Prop) (s:St),K (.tup [(C6 c.log (tl+us) j (B.take (i+1)) 0).v,.int .i64 0]) s→ESc e 40 [(C6 c.log (tl+us) j (B.take i) 0).v,.int .i64 (1+(tl+us+(i:Int)) % c.log),u] s K:=fun K s hk=>
   ESc.fam dwF hIn.h58 ⟨C6 c.log (tl+us) j (B.take i) 0,1+(tl+us+(i:Int)) % c.log,u,b⟩ (hR0.wok i hu (.inr hb)) (by show GH _=_;unfold GH;rw [Zoj (hR0.dw0 (by omega) i (.inr hb)),hst]) hk
  have hq2:0<1+(tl+us+(i:Int)) % c.log:=by omega
  rw [htk] at hB1
  have hJ0:=hJf hR0
  have hJ1:=hJf hR1
  generalize C6 c.log (tl+us) j (B.take i) 0=J0 at *
  clear hst hR0 hR1
  generalize hJe:C6 c.log (tl+us) j (B.take (i+1)) 0=J1 at *
  generalize (1:Int)+(tl+us+(i:Int)) % c.log=q at *
  obtain ⟨jb,ju,js,jw,jl,jd⟩:=J0
  rcases i with _|i
  ·conv=>whnf
   repeat' (first|(refine Af rfl hds ?_;conv=>whnf)|(refine Ag (a:=((0:Nat):Int)) (b:=(B.length:Int)) rfl rfl (fun _=>?_) (fun h=>by omega);conv=>whnf)|(refine A8 (i:=0) rfl hds rfl hlt ?_;rw [hdr];conv=>whnf)|(refine EHead.mk rfl ?_;conv=>whnf)|(refine hdw _ _ ?_;conv=>whnf)|(refine AP [u] (by rcases hu.1 with ⟨rfl,_⟩|⟨rfl,_⟩|⟨c,rfl,_⟩ <;> rfl) ?_;conv=>whnf)|(refine BX (n:=n) (m:=1) rfl rfl rfl rfl (by rw [hUl,Zpi]) rfl (by decide) (by omega) ?_;conv=>whnf)|((first|refine w3 rfl rfl ?_ ?_|refine w5 rfl rfl ?_ ?_|refine w6 rfl rfl ?_ ?_) <;> intro _ <;> first|(exfalso;omega)|(conv=>whnf))|((first|refine w7 rfl rfl (by omega) ?_|refine ⟨rfl,?_⟩);conv=>whnf)|fail)
   refine ⟨0+1,hlt,by omega,?_⟩
   rw [hJe,htk]
   exact AbsK.tells (rs:=[0,1,2,3,4,5,8]) .a
  ·conv=>whnf
   repeat' (first|(refine Af rfl hds ?_;conv=>whnf)|(refine Ag (a:=((i+1:Nat):Int)) (b:=(B.length:Int)) rfl rfl (fun _=>?_) (fun h=>by omega);conv=>whnf)|(refine A8 (i:=i+1) rfl hds rfl hlt ?_;rw [hdr];conv=>whnf)|(refine EHead.mk rfl ?_;conv=>whnf)|(refine hdw _ _ ?_;conv=>whnf)|(refine AP [u] (by rcases hu.1 with ⟨rfl,_⟩|⟨rfl,_⟩|⟨c,rfl,_⟩ <;> rfl) ?_;conv=>whnf)|(refine BX (n:=n+(i+1)) (m:=1) rfl rfl rfl rfl (by rw [Zot,hml,hUl,Zpi]) rfl (by decide) (by omega) ?_;conv=>whnf)|((first|refine w3 rfl rfl ?_ ?_|refine w5 rfl rfl ?_ ?_|refine w6 rfl rfl ?_ ?_) <;> intro _ <;> first|(exfalso;omega)|(conv=>whnf))|((first|refine w7 rfl rfl (by omega) ?_|refine ⟨rfl,?_⟩);conv=>whnf)|fail)
   refine ⟨i+1+1,hlt,by omega,?_⟩
   rw [hJe,htk]
   exact AbsK.tells (rs:=[0,1,2,3,4,5,9]) ⟨rfl,by decide,⟨r9,r9,r9,r9,r9,r9,t9,r9,trivial⟩,⟨r9,o9,o9,r9,r9,o9,⟨AD hB1,by rw [Az hB1,← List.append_assoc];rfl⟩,trivial⟩⟩
 ·have hie:i=B.length:=by omega
  subst hie
  rw [Zoo (Zo0 _)]
  obtain ⟨q,hq⟩:∃ q,B.length=q+1:=⟨B.length-1,by omega⟩
  rw [hq] at hk hds ⊢
  generalize C6 c.log (tl+us) j B 0=J at *
  conv=>whnf
  refine Af rfl hds ?_;conv=>whnf
  refine Ag (a:=((q+1:Nat):Int)) (b:=((q+1:Nat):Int)) rfl rfl (fun h=>by omega) (fun _=>?_);conv=>whnf
  refine Fv hE ?_;conv=>whnf
  refine ⟨rfl,?_⟩;conv=>whnf
  refine hk _ ?_ ?_
  ·rfl
  ·rfl
end Go.AM
namespace Go.AM
attribute [local irreducible] W
open X
def CL.mvB (x:CL):List Nat:=Bg x.mvSup.id.toNat x.mvSup.age.toNat x.mvSup.seq.toNat x.mvSup.tail.toNat
def Cv (a:DI) (j:DK):DK:=
 if a.o.k % 4=0 then C6 a.x.c.log (a.x.l.tail+a.x.l.used) j (Dk (AI.bd ⟨a.x,a.o.d⟩)) 0
 else if a.o.k % 4=1 then CE j
 else if a.o.k % 4=2 then j
 else Ct ⟨j,0,.fz 128 (some 128) (Ab a.x.mvB),a.x.mvB⟩
def BO (a:DI):List (AV×List Nat):=if a.o.k % 4=0 then Dk (AI.bd ⟨a.x,a.o.d⟩) else []
structure PLI where
 a:DI
 j:DK
 U:List AV
structure PLI.ok (y:PLI):Prop where
 a:y.a.ok
 r:RDK y.a.x.c.log y.j
 w:y.j.ws.length+17≤1024
 U:hfs y.U=true
 n:y.U.length≤100000
def PLI.argsAt (y:PLI) (r:Nat):List AV:=[y.a.x.c.v,y.a.x.lv,y.j.v,.agg y.a.o.c,.sl r 0 y.U.length none]
variable {e:Env}{y:PLI}
theorem UA (hE:EM P e) (hIn:PlIn e) (hy:y.ok) (K:AV→St→Prop)
 (kno:CJ y.a=none→∀ s,s.get 0=some (.row 41 y.U)→K (.tup [y.a.x.lv,y.j.v,.sl 0 0 y.U.length none,.bool true]) s)
 (ksame:∀ m mv b,CJ y.a=some (m,mv,b)→BO y.a=[]→∀ s,s.get 0=some (.row 41 y.U)→K (.tup [.agg (m.c mv),(Cv y.a y.j).v,.sl 0 0 y.U.length none,.bool true]) s)
 (kadd:∀ m mv b,CJ y.a=some (m,mv,b)→0<(BO y.a).length→∀ s,s.get 0=some .dead→s.get 6=some (.row 41 (y.U++(BO y.a).map Prod.fst))→K (.tup [.agg (m.c mv),(Cv y.a y.j).v,.sl 6 0 (y.U.length+(BO y.a).length) none,.bool true]) s):
 W P 1 none Wr (Ah (y.argsAt 0) 0 .lf) (Ac St0 [.row 41 y.U]) [] (Bx resPl K):=by
 obtain ⟨⟨x,o⟩,j,U⟩:=y
 obtain ⟨⟨hx,hg,ho,hs⟩,hR,hw,hU,hn⟩:=hy
 dsimp only at hx hg ho hs hR hw hU hn
 have hds:=QB ho.d hs
 have hk:=ho.k
 have hv:AM.hf x.v=true:=hx.v.hf
 have hof:hfs o.c=true:=by
  show (true && (true && AM.hf o.d.d.v))=true;rw [K4 ho.d];rfl
 have hJf:hfs j.c=true:=CZ hR.ok.a.wl hR.ok.a.bl
 have hadd:∀ (K:AV→St→Prop) (s:St),K (GB ⟨x,o.d⟩) s→ESc e 35 [x.c.v,x.lv,o.d.d.v] s K:=fun K s hk=>ESc.fam addF hIn.h34 ⟨x,o.d⟩ ⟨hx,hds⟩ rfl hk
 have hfl:∀ (K:AV→St→Prop) (s:St),K (.tup [.agg (x.l.c (CC x.v (x.l.live.map Lv.flush))),.int .i64 0]) s→ESc e 36 [x.c.v,x.lv] s K:=fun K s hk=>ESc.fam flushF hIn.h37 x hx (by simp [flushF,hg]) hk
 have hhm:∀ (K:AV→St→Prop) (s:St),K (FO ⟨x,o.st⟩) s→ESc e 38 [x.c.v,x.lv,.int .i64 o.st] s K:=fun K s hk=>ESc.fam homeFm hIn.h39 ⟨x,o.st⟩ ⟨hx,ho.st⟩ rfl hk
 have hmv:∀ (K:AV→St→Prop) (s:St),K (HU x) s→ESc e 39 [x.c.v,x.lv] s K:=fun K s hk=>ESc.fam moveF hIn.h40 x hx rfl hk
 have hjf:∀ (K:AV→St→Prop) (s:St),K (.tup [(CE j).v,.int .i64 0]) s→ESc e 37 [j.v] s K:=fun K s hk=>ESc.fam fluF hIn.h64 j hR.ok (by show FZ j=_;unfold FZ Lw;rw [Zoj hR.dsk,hR.dead];rfl) hk
 have hr0:o.k % 4=0→CJ ⟨x,o⟩=if Ja ⟨x,o.d⟩ then some (⟨x.l.age,x.l.seq+1,x.l.tail,x.l.used+(o.d.n:Int),AI.live ⟨x,o.d⟩⟩,.fz (x.l.live.length+1) none (Ai (AI.live ⟨x,o.d⟩)),.fz o.d.n none (CX x.c x.l.tail x.l.used 0 (AI.blks ⟨x,o.d⟩))) else none:=fun h=>by unfold CJ;rw [Zoj h]
 have hr1:o.k % 4=1→CJ ⟨x,o⟩=some (x.l.with (x.l.live.map Lv.flush),CC x.v (x.l.live.map Lv.flush),.nils):=fun h=>by unfold CJ;rw [Zon (by dsimp only;omega),Zoj h]
 have hr2:o.k % 4=2→CJ ⟨x,o⟩=if CLS.in ⟨x,o.st⟩ then (if hF o.st x.l.live 0 then some (x.l.with (CI o.st x.l.live),CC x.v (CI o.st x.l.live),.nils) else none) else none:=fun h=>by unfold CJ;rw [Zon (by dsimp only;omega),Zon (by dsimp only;omega),Zoj h]
 have hr3:o.k % 4=3→CJ ⟨x,o⟩=if Ay x.l.live=0 then none else some (⟨x.l.age,x.l.seq,BP x.c.log x.l.tail x.l.live (Ay x.l.live),C7 x.l.used x.l.live (Ay x.l.live),x.l.live.drop (Ay x.l.live)⟩,CC .es (x.l.live.drop (Ay x.l.live)),
  .fz 1 (some 1) [.int .i64 x.c.members,.int .u8 2,.int .i64 0,.fz 128 (some 128) (Ab x.mvB)]):=fun h=>by unfold CJ;rw [Zon (by dsimp only;omega),Zon (by dsimp only;omega),Zon (by dsimp only;omega)];rfl
 have hb0:o.k % 4=0→BO ⟨x,o⟩=Dk (AI.bd ⟨x,o.d⟩)∧Cv ⟨x,o⟩ j=C6 x.c.log (x.l.tail+x.l.used) j (Dk (AI.bd ⟨x,o.d⟩)) 0:=fun h=>by unfold BO Cv;rw [Zoj h,Zoj h];exact ⟨rfl,rfl⟩
 have hb1:o.k % 4=1→BO ⟨x,o⟩=[]∧Cv ⟨x,o⟩ j=CE j:=fun h=>by unfold BO Cv;rw [Zon (by dsimp only;omega),Zon (by dsimp only;omega),Zoj h];exact ⟨rfl,rfl⟩
 have hb2:o.k % 4=2→BO ⟨x,o⟩=[]∧Cv ⟨x,o⟩ j=j:=fun h=>by unfold BO Cv;rw [Zon (by dsimp only;omega),Zon (by dsimp only;omega),Zon (by dsimp only;omega),Zoj h];exact ⟨rfl,rfl⟩
 have hb3:o.k % 4=3→BO ⟨x,o⟩=[]∧Cv ⟨x,o⟩ j=Ct ⟨j,0,.fz 128 (some 128) (Ab x.mvB),x.mvB⟩:=fun h=>by unfold BO Cv;rw [Zon (by dsimp only;omega),Zon (by dsimp only;omega),Zon (by dsimp only;omega),Zon (by dsimp only;omega)];exact ⟨rfl,rfl⟩
 have hm4:0≤o.k % 4∧o.k % 4<4:=by omega
 dsimp only at kno ksame kadd
 have hzf:hfs BH=true:=rfl
 have fin:∀ (t:AT) (s:St) (j1:DK) (m:Log) (mv:AV) (er:Int) (done:AV),hfs j1.c=true→AM.hf mv=true→AM.hf done=true→t.get 4=some (.sl 0 0 U.length none)→t.get 6=some (.ptr 2 0)→t.get 7=some (.ptr 3 0)→t.get 10=some (.ptr 5 0)→t.get 11=some (.ptr 6 0)→t.get 14=some (.ptr 7 0)→t.get 15=some (.int .i64 er)→t.get 16=some done→
  s.get 0=some (.row 41 U)→s.get 2=some (.row 31 (x.l.c x.v))→s.get 3=some (.row 28 j1.c)→s.get 5=some (.row 31 BH)→s.get 6=some (.row 28 Da)→s.get 7=some (.row 31 (m.c mv))→
  W P 1 none I7 (Am (IQ U.length er done)) (Ac St0 (IW U x.l x.v j1 m mv)) [] (Bx resPl K)→W P 1 none I7 t s [] (Bx resPl K):=by
  intro t s j1 m mv er done h1 h2 h3 g4 g6 g7 g10 g11 g14 g15 g16 q0 q2 q3 q5 q6 q7 hw
  have hlf:hfs (x.l.c x.v)=true:=FQ hv
  have hmf:hfs (m.c mv)=true:=FQ h2
  exact W.tells (AbsK.tells (tl:=IQ U.length er done) (os:=IW U x.l x.v j1 m mv) (rs:=[0,2,3,5,6,7]) ⟨rfl,by decide,⟨⟨rfl,g4⟩,⟨rfl,g6⟩,⟨rfl,g7⟩,⟨rfl,g10⟩,⟨rfl,g11⟩,⟨rfl,g14⟩,⟨rfl,g15⟩,⟨Bz _ h3,by rw [Bv _ h3];exact g16⟩,trivial⟩,⟨⟨AD hU,by rw [Az hU];exact q0⟩,⟨AD hlf,by rw [Az hlf];exact q2⟩,⟨AD h1,by rw [Az h1];exact q3⟩,⟨rfl,q5⟩,⟨rfl,q6⟩,⟨AD hmf,by rw [Az hmf];exact q7⟩,trivial⟩⟩) hw
 refine Av hE ?_;conv=>whnf
 refine Av hE ?_;conv=>whnf
 refine Av hE ?_;conv=>whnf
 refine Av hE ?_;conv=>whnf
 refine Qm (a:=o.k) (b:=4) rfl rfl (by omega) ?_;conv=>whnf
 refine B2 (a:=o.k % 4) (b:=0) rfl rfl (fun h=>?_) (fun h0=>?_)
 ·have hr:=hr0 h
  obtain ⟨e1,e2⟩:=hb0 h
  conv=>whnf
  refine hadd _ _ ?_
  unfold GB
  have herr:∀ er:Int,er≠0→CJ ⟨x,o⟩=none→W P 1 none I7 (Am (IQ U.length er .nils)) (Ac St0 (IW U x.l x.v j ⟨0,0,0,0,[]⟩ .nils)) [] (Bx resPl K):=fun er her hno=>R5 hE her fun s h0=>kno hno s h0
  by_cases hD:DC x.c o.d.d=true
  ·rw [Zoj ⟨hg,hD⟩]
   by_cases hC:Ja ⟨x,o.d⟩
   ·rw [Zoj hC] at hr
    rw [Zoj hC.2]
    have hG:GD (AI.bd ⟨x,o.d⟩):=⟨⟨hx.c,hx.l.age,hx.l.seq,hds⟩,⟨hg.1,hD⟩,hC.2.1.1⟩
    have hBl:(Dk (AI.bd ⟨x,o.d⟩)).length=o.d.n:=OF _
    have hBf:(Dk (AI.bd ⟨x,o.d⟩)).map Prod.fst=AI.blks ⟨x,o.d⟩:=Zk5 _
    have hl:=Mf (Kz hG.good)
    have hn2:=M1 hg.1 hD
    have hM:=hg.1
    unfold Cfg.may at hM
    have hadd':=Zlw hE hIn (c:=x.c) (tl:=x.l.tail) (us:=x.l.used) (U:=U) (n:=U.length) (l:=x.l) (m:=⟨x.l.age,x.l.seq+1,x.l.tail,x.l.used+(o.d.n:Int),AI.live ⟨x,o.d⟩⟩) (v:=x.v) (mv:=.fz (x.l.live.length+1) none (Ai (AI.live ⟨x,o.d⟩))) (j:=j) (B:=Dk (AI.bd ⟨x,o.d⟩)) hR (M6 hG) (by
     rw [hBl]
     have h1:((o.d.prs.length:Nat):Int)+1≤x.c.log:=hl.2.2
     unfold DB.n;omega) (by rw [hBl];omega) (by rw [hBl];omega) hU rfl hn hv rfl (K:=K) (fun s q0 q6=>by
     have:=kadd _ _ _ hr (by rw [e1,hBl];omega) s q0 (by rw [e1];exact q6)
     rw [e1,e2] at this;exact this)
    rw [hBl,hBf] at hadd'
    conv=>whnf
    skip
    exact fin _ _ j ⟨x.l.age,x.l.seq+1,x.l.tail,x.l.used+(o.d.n:Int),AI.live ⟨x,o.d⟩⟩ _ 0 _ hJf rfl rfl rfl rfl rfl rfl rfl rfl rfl rfl rfl rfl rfl rfl rfl rfl hadd'
   ·rw [Zon hC] at hr
    rw [Zon (fun h=>hC ⟨hD,h⟩)]
    conv=>whnf
    skip
    exact fin _ _ j ⟨0,0,0,0,[]⟩ .nils 9 _ hJf rfl rfl rfl rfl rfl rfl rfl rfl rfl rfl rfl rfl rfl rfl rfl rfl (herr 9 (by decide) hr)
  ·rw [Zon (fun h:Ja _=>hD h.1)] at hr
   rw [Zon (fun h=>hD h.2)]
   conv=>whnf
   skip
   exact fin _ _ j ⟨0,0,0,0,[]⟩ .nils 8 _ hJf rfl rfl rfl rfl rfl rfl rfl rfl rfl rfl rfl rfl rfl rfl rfl rfl (herr 8 (by decide) hr)
 conv=>whnf
 refine B2 (a:=o.k % 4) (b:=1) rfl rfl (fun h=>?_) (fun h1=>?_)
 ·have hr:=hr1 h
  obtain ⟨e1,e2⟩:=hb1 h
  rw [e2] at ksame
  conv=>whnf
  refine hfl _ _ ?_;conv=>whnf
  repeat' (first|(refine hjf _ _ ?_;conv=>whnf)|((refine w6 rfl rfl ?_ ?_) <;> intro _ <;> first|(exfalso;omega)|(conv=>whnf))|fail)
  refine fin _ _ (CE j) (x.l.with (x.l.live.map Lv.flush)) _ 0 .nils (CZ (J6 hR.ok).a.wl (J6 hR.ok).a.bl) Mx rfl rfl rfl rfl rfl rfl rfl rfl rfl rfl rfl rfl rfl rfl rfl (VH hE fun s h0=>ksame _ _ _ hr e1 s h0)
 conv=>whnf
 refine B2 (a:=o.k % 4) (b:=2) rfl rfl (fun h=>?_) (fun h2=>?_)
 ·have hr:=hr2 h
  obtain ⟨e1,e2⟩:=hb2 h
  rw [e2] at ksame
  conv=>whnf
  refine hhm _ _ ?_
  unfold FO
  rw [Zoj hg]
  have herr:∀ er:Int,er≠0→CJ ⟨x,o⟩=none→W P 1 none I7 (Am (IQ U.length er .nils)) (Ac St0 (IW U x.l x.v j ⟨0,0,0,0,[]⟩ .nils)) [] (Bx resPl K):=fun er her hno=>R5 hE her fun s h0=>kno hno s h0
  by_cases hIn':CLS.in ⟨x,o.st⟩
  ·rw [Zoj hIn'] at hr ⊢
   by_cases hH:hF o.st x.l.live 0=true
   ·rw [Zoj hH] at hr ⊢
    conv=>whnf
    skip
    exact fin _ _ j (x.l.with (CI o.st x.l.live)) _ 0 .nils hJf Mx rfl rfl rfl rfl rfl rfl rfl rfl rfl rfl rfl rfl rfl rfl rfl (VH hE fun s h0=>ksame _ _ _ hr e1 s h0)
   ·rw [Zon hH] at hr ⊢
    conv=>whnf
    skip
    exact fin _ _ j ⟨0,0,0,0,[]⟩ .nils 6 .nils hJf rfl rfl rfl rfl rfl rfl rfl rfl rfl rfl rfl rfl rfl rfl rfl rfl (herr 6 (by decide) hr)
  ·rw [Zon hIn'] at hr ⊢
   conv=>whnf
   skip
   exact fin _ _ j ⟨0,0,0,0,[]⟩ .nils 2 .nils hJf rfl rfl rfl rfl rfl rfl rfl rfl rfl rfl rfl rfl rfl rfl rfl rfl (herr 2 (by decide) hr)
 ·have h3:o.k % 4=3:=by omega
  have hr:=hr3 h3
  obtain ⟨e1,e2⟩:=hb3 h3
  rw [e2] at ksame
  conv=>whnf
  refine hmv _ _ ?_
  unfold HU
  rw [Zoj hg]
  by_cases hK:Ay x.l.live=0
  ·rw [Zoj hK] at hr ⊢
   conv=>whnf
   skip
   exact fin _ _ j ⟨0,0,0,0,[]⟩ .nils 6 .nils hJf rfl rfl rfl rfl rfl rfl rfl rfl rfl rfl rfl rfl rfl rfl rfl rfl (R5 hE (by decide) fun s h0=>kno hr s h0)
  ·rw [Zon hK] at hr ⊢
   have hbl:x.mvB.length=128:=GS _ _ _ _
   have hu:BAt (.fz 128 (some 128) (Ab x.mvB)) x.mvB:=⟨.inr (.inr ⟨some 128,by rw [hbl],by rw [Ba,hbl]⟩),LJ _ _ _ _⟩
   have hw0:=(Ll hR hu hbl).2.1
   conv=>whnf
   skip
   exact fin _ _ j ⟨x.l.age,x.l.seq,BP x.c.log x.l.tail x.l.live (Ay x.l.live),C7 x.l.used x.l.live (Ay x.l.live),x.l.live.drop (Ay x.l.live)⟩ _ 0 _ hJf Mx rfl rfl rfl rfl rfl rfl rfl rfl rfl rfl rfl rfl rfl rfl rfl (Zhx hE hIn hR.ok hu hbl hw0 fun s h0=>ksame _ _ _ hr e1 s h0)
def Cj (a:DI):Log×AV:=match CJ a with
 | some (m,mv,_)=>(m,mv)
 | none=>(a.x.l,a.x.v)
def Dh (a:DI) (j:DK):DK:=match CJ a with
 | some _=>Cv a j
 | none=>j
def Bh (a:DI):List (AV×List Nat):=match CJ a with
 | some _=>BO a
 | none=>[]
def PLI.outAt (y:PLI) (av:AV):AV:=.tup [.agg ((Cj y.a).1.c (Cj y.a).2),(Dh y.a y.j).v,av,.bool true]
def Lb (args:List AV) (s:St) (u:AV) (s':St):Prop:=∃ (y:PLI) (r:Nat),y.ok∧args=y.argsAt r∧s.get r=some (.row 41 y.U)∧
 ((Bh y.a=[]∧u=y.outAt (.sl r 0 y.U.length none)∧s'=s.put r (.row 41 y.U))∨
  (0<(Bh y.a).length∧u=y.outAt (.sl s.next 0 (y.U.length+(Bh y.a).length) none)∧s'=(s.put r .dead).alloc (.row 41 (y.U++(Bh y.a).map Prod.fst))))
variable {r:Nat}
theorem PLI.inj {z:PLI}{r':Nat}(hy:y.ok) (hz:z.ok) (h:y.argsAt r=z.argsAt r') (hU:y.U=z.U):y=z∧r=r':=by
 obtain ⟨⟨x,o⟩,j,U⟩:=y
 obtain ⟨⟨x',o'⟩,j',U'⟩:=z
 unfold PLI.argsAt at h
 injection h with h1 h
 injection h with h2 h
 injection h with h3 h
 injection h with h4 h
 injection h with h5 h
 have e1:=CL.inj hy.a.x hz.a.x h1 h2
 have e2:=DK.inj hy.r.ok.a hz.r.ok.a h3
 have e3:=Op.inj hy.a.o hz.a.o (AV.agg.inj h4)
 have e4:r=r':=by injection h5
 dsimp only at e1 e2 e3 hU
 subst e1 e2 e3 hU
 exact ⟨rfl,e4⟩
theorem Zex (h:Con e 11 (relS Lb)) (hy:y.ok) {s:St}(hr:s.get r=some (.row 41 y.U)) {K:AV→St→Prop}
 (k1:Bh y.a=[]→K (y.outAt (.sl r 0 y.U.length none)) (s.put r (.row 41 y.U)))
 (k2:0<(Bh y.a).length→K (y.outAt (.sl s.next 0 (y.U.length+(Bh y.a).length) none)) ((s.put r .dead).alloc (.row 41 (y.U++(Bh y.a).map Prod.fst)))):ESc e 11 (y.argsAt r) s K:=by
 have key:∀ u s',Lb (y.argsAt r) s u s'→K u s':=by
  rintro u s' ⟨z,r',hz,e1,e2,h⟩
  have e5:r=r':=by
   unfold PLI.argsAt at e1
   injection e1 with _ e1
   injection e1 with _ e1
   injection e1 with _ e1
   injection e1 with _ e1
   injection e1 with e1 _
   injection e1
  subst e5
  have hU:=Ou hr e2
  obtain ⟨e6,_⟩:=PLI.inj hy hz e1 hU
  subst e6
  rcases h with ⟨hg,rfl,rfl⟩|⟨hg,rfl,rfl⟩
  ·exact k1 hg
  ·exact k2 hg
 by_cases hg:Bh y.a=[]
 ·exact ESc.relS h ⟨y,r,hy,rfl,hr,.inl ⟨hg,rfl,rfl⟩⟩ key
 ·exact ESc.relS h ⟨y,r,hy,rfl,hr,.inr ⟨List.length_pos_iff.2 hg,rfl,rfl⟩⟩ key
structure PlOut (y:PLI):Prop where
 hv:AM.hf (Cj y.a).2=true
 r:RDK y.a.x.c.log (Dh y.a y.j)
 b:∀ p ∈ Bh y.a,BAt p.1 p.2∧p.2.length=128
 n:(Bh y.a).length≤17
 w:(Dh y.a y.j).ws.length≤y.j.ws.length+(Bh y.a).length
theorem R9 (x:CL):BAt (.fz 128 (some 128) (Ab x.mvB)) x.mvB:=by
 have hbl:x.mvB.length=128:=GS _ _ _ _
 exact ⟨.inr (.inr ⟨some 128,by rw [hbl],by rw [Ba,hbl]⟩),LJ _ _ _ _⟩
theorem R4 (hy:y.ok):PlOut y:=by
 obtain ⟨a,j,U⟩:=y
 obtain ⟨ha,hR,hw,hU,hn⟩:=hy
 dsimp only at ha hR hw hU hn
 cases hq:CJ a with
 | none=>
  have e1:Cj a=(a.x.l,a.x.v):=by unfold Cj;rw [hq]
  have e2:Dh a j=j:=by unfold Dh;rw [hq]
  have e3:Bh a=[]:=by unfold Bh;rw [hq]
  exact ⟨by dsimp only;rw [e1];exact ha.x.v.hf,by dsimp only;rw [e2];exact hR,(fun p hp=>by rw [show Bh _=[] from e3] at hp;cases hp),by dsimp only;rw [e3];exact Zoy _,by dsimp only;rw [e2];exact Nat.le_add_right _ _⟩
 | some res=>
  obtain ⟨m,mv,b⟩:=res
  have e1:Cj a=(m,mv):=by unfold Cj;rw [hq]
  have e2:Dh a j=Cv a j:=by unfold Dh;rw [hq]
  have e3:Bh a=BO a:=by unfold Bh;rw [hq]
  obtain ⟨_,q2,_⟩:=Rn ha hq
  have key:RDK a.x.c.log (Cv a j)∧(∀ p ∈ BO a,BAt p.1 p.2∧p.2.length=128)∧(BO a).length≤17∧(Cv a j).ws.length≤j.ws.length+(BO a).length:=by
   have hk:=ha.o.k
   unfold Cv BO
   by_cases h0:a.o.k % 4=0
   ·rw [Zoj h0,Zoj h0]
    have hC:Ja ⟨a.x,a.o.d⟩:=by
     unfold CJ at hq
     rw [Zoj h0] at hq
     split at hq
     ·assumption
     ·cases hq
    have hM:=ha.g.1
    have hG:GD (AI.bd ⟨a.x,a.o.d⟩):=⟨⟨ha.x.c,ha.x.l.age,ha.x.l.seq,QB ha.o.d ha.s⟩,⟨hM,hC.1⟩,hC.2.1.1⟩
    have hBl:(Dk (AI.bd ⟨a.x,a.o.d⟩)).length=a.o.d.n:=OF _
    have hn2:2≤a.o.d.n∧(a.o.d.n:Int)≤a.x.c.members+1:=M1 hM hC.1
    have hM':=hM
    unfold Cfg.may at hM'
    have hl:=Mf (Kz hG.good)
    have h1:((a.o.d.prs.length:Nat):Int)+1≤a.x.c.log:=hl.2.2
    obtain ⟨s1,_,_,_,s5,_⟩:=NV (a:=a.x.l.tail+a.x.l.used) (Dk (AI.bd ⟨a.x,a.o.d⟩)) j 0 hR (fun p hp=>⟨(M6 hG p hp).1,.inr (M6 hG p hp).2⟩) (by rw [hBl];unfold DB.n;omega) (by rw [hBl];omega)
    exact ⟨s1,M6 hG,by rw [hBl];omega,by rw [s5];exact Zo0 _⟩
   ·rw [Zon h0,Zon h0]
    refine ⟨?_,(fun p hp=>by cases hp),Zoy _,?_⟩
    ·split
     ·exact ⟨J6 hR.ok,Rj hR.ok hR.dsk,by rw [O7];exact hR.len,rfl,hR.lo⟩
     ·split
      ·exact hR
      ·have hbl:a.x.mvB.length=128:=GS _ _ _ _
       exact (Ll hR (R9 a.x) hbl).2.2.1
    ·split
     ·exact Zoy _
     ·split
      ·exact Nat.le_add_right _ _
      ·have hbl:a.x.mvB.length=128:=GS _ _ _ _
       exact (Ll hR (R9 a.x) hbl).2.2.2.2.2.2.2
  obtain ⟨k1,k2,k3,k4⟩:=key
  exact ⟨by dsimp only;rw [e1];exact q2.v.hf,by dsimp only;rw [e2];exact k1,by dsimp only;rw [e3];exact k2,by dsimp only;rw [e3];exact k3,by dsimp only;rw [e2,e3];exact k4⟩
theorem Zhv (hE:EM P e) (hIn:PlIn e):OvOk P 11 (relS Lb):=by
 refine Me g11.b ?_
 rintro args s0 u s1 ⟨y,r,hy,rfl,hr,h⟩
 have hO:=R4 hy
 have hLf:hfs ((Cj y.a).1.c (Cj y.a).2)=true:=FQ hO.hv
 have hJf:hfs (Dh y.a y.j).c=true:=CZ hO.r.ok.a.wl hO.r.ok.a.bl
 have hof:hfs y.a.o.c=true:=by
  show (true && (true && AM.hf y.a.o.d.d.v))=true;rw [K4 hy.a.o.d];rfl
 have hlf:hfs (y.a.x.l.c y.a.x.v)=true:=FQ hy.a.x.v.hf
 have hjf:hfs y.j.c=true:=CZ hy.r.ok.a.wl hy.r.ok.a.bl
 have hbd:∀ (k:Nat) (q m:Nat),q<k→bd k (y.outAt (.sl q 0 m none))=true:=fun k q m hq=>by
  show (AB k _ && (AB k _ && (Nat.blt q k && true)))=true
  rw [Dd _ hLf,Dd _ hJf,show Nat.blt q k=true by rw [Zpx];exact hq];rfl
 have hmp:∀ (ρ:Nat→Nat) (q m:Nat),A2 ρ (y.outAt (.sl q 0 m none))=y.outAt (.sl (ρ q) 0 m none):=fun ρ q m=>by
  show AV.tup [.agg (At ρ _),.agg (At ρ _),.sl (ρ q) 0 m none,.bool true]=_
  rw [Dc _ hLf,Dc _ hJf];rfl
 have hargs:At (nm [r]) (y.argsAt 0)=y.argsAt r:=by
  show [A2 _ y.a.x.c.v,AV.agg (At _ _),AV.agg (At _ _),AV.agg (At _ _),AV.sl r 0 _ none]=_
  rw [Dc _ hlf,Dc _ hjf,Dc _ hof];rfl
 have hba:AB 1 (y.argsAt 0)=true:=by
  show (true && (AB _ _ && (AB _ _ && (AB _ _ && (true && true)))))=true
  rw [Dd _ hlf,Dd _ hjf,Dd _ hof];rfl
 have hnm:∀ i,i<1→Hw i (y.argsAt 0)=true:=fun i hi=>by
  have:i=0:=by omega
  subst this
  show (H3 0 _ || (H3 0 _ || (H3 0 _ || (H3 0 _ || (true || false)))))=true
  simp
 have hrow:∀ (i:Nat) o q,[AObj.row 41 y.U][i]?=some o→[r][i]?=some q→s0.get q=some (B5 (nm [r]) o)∧Ds 0 1 o=true∧BG o=true:=fun i o q h1 h2=>by
  rcases i with _|i
  ·simp at h1 h2;subst h1 h2
   exact ⟨by rw [Az hy.U];exact hr,AD hy.U,rfl⟩
  ·simp at h1
 rcases h with ⟨hg,rfl,rfl⟩|⟨hg,rfl,rfl⟩
 ·have key:C1 P 11 (y.argsAt 0) (Ac St0 [.row 41 y.U]) (fun v s'=>Tells P 1 (Am [(0,v)]) s' [] (Am [(0,y.outAt (.sl 0 0 y.U.length none))]) (Ac St0 [.row 41 y.U]) []):=by
   refine C1.of_W g11.f g11.c (UA hE hIn hy _ (fun hn s h0=>?_) (fun m mv b hs hB s h0=>?_) (fun m mv b hs hB=>?_))
   ·have e1:Cj y.a=(y.a.x.l,y.a.x.v):=by unfold Cj;rw [hn]
    have e2:Dh y.a y.j=y.j:=by unfold Dh;rw [hn]
    refine AbsK.tells (tl:=[(0,y.outAt (.sl 0 0 y.U.length none))]) (os:=[.row 41 y.U]) (rs:=[0]) ⟨rfl,by decide,⟨⟨hbd _ _ _ (by show 0<1;decide),?_⟩,trivial⟩,⟨⟨AD hy.U,by rw [Az hy.U];exact h0⟩,trivial⟩⟩
    rw [hmp]
    unfold PLI.outAt
    rw [e1,e2];rfl
   ·have e1:Cj y.a=(m,mv):=by unfold Cj;rw [hs]
    have e2:Dh y.a y.j=Cv y.a y.j:=by unfold Dh;rw [hs]
    refine AbsK.tells (tl:=[(0,y.outAt (.sl 0 0 y.U.length none))]) (os:=[.row 41 y.U]) (rs:=[0]) ⟨rfl,by decide,⟨⟨hbd _ _ _ (by show 0<1;decide),?_⟩,trivial⟩,⟨⟨AD hy.U,by rw [Az hy.U];exact h0⟩,trivial⟩⟩
    rw [hmp]
    unfold PLI.outAt
    rw [e1,e2];rfl
   ·have e3:Bh y.a=BO y.a:=by unfold Bh;rw [hs]
    rw [← e3,hg] at hB
    exact absurd hB (by decide)
  have:=NU (rs:=[r]) (s:=s0) (os:=[.row 41 y.U]) (os2:=[.row 41 y.U]) (args0:=y.argsAt 0) (by simp) rfl hrow hnm hba (by simp) (by simp) (fun o ho=>by simp at ho;subst ho;rfl) key
  rw [hargs] at this
  refine this.mono ?_
  rintro v s' ⟨rfl,rfl⟩
  refine ⟨by rw [hmp];rfl,?_⟩
  show Ac (D1 s0 [r] [B5 _ (.row 41 y.U)]) []=_
  rw [Az hy.U];rfl
 ·have hUf:hfs (y.U++(Bh y.a).map Prod.fst)=true:=N8 hy.U (hfs_iff.2 fun x hx=>by
   obtain ⟨p,hp,rfl⟩:=Zpf.1 hx
   exact (hO.b p hp).1.1.hf)
  have key:C1 P 11 (y.argsAt 0) (Ac St0 [.row 41 y.U]) (fun v s'=>Tells P 1 (Am [(0,v)]) s' [] (Am [(0,y.outAt (.sl 1 0 (y.U.length+(Bh y.a).length) none))]) (Ac St0 [.dead,.row 41 (y.U++(Bh y.a).map Prod.fst)]) []):=by
   refine C1.of_W g11.f g11.c (UA hE hIn hy _ (fun hn=>?_) (fun m mv b hs hB=>?_) (fun m mv b hs hB s h0 h6=>?_))
   ·have e3:Bh y.a=[]:=by unfold Bh;rw [hn]
    rw [e3] at hg;exact absurd hg (by decide)
   ·have e3:Bh y.a=BO y.a:=by unfold Bh;rw [hs]
    rw [e3,hB] at hg;exact absurd hg (by decide)
   ·have e1:Cj y.a=(m,mv):=by unfold Cj;rw [hs]
    have e2:Dh y.a y.j=Cv y.a y.j:=by unfold Dh;rw [hs]
    have e3:Bh y.a=BO y.a:=by unfold Bh;rw [hs]
    refine AbsK.tells (tl:=[(0,y.outAt (.sl 1 0 (y.U.length+(Bh y.a).length) none))]) (os:=[.dead,.row 41 (y.U++(Bh y.a).map Prod.fst)]) (rs:=[0,6]) ⟨rfl,by decide,⟨⟨hbd _ _ _ (by show 1<2;decide),?_⟩,trivial⟩,⟨⟨rfl,h0⟩,⟨AD hUf,by rw [Az hUf,e3];exact h6⟩,trivial⟩⟩
    rw [hmp]
    unfold PLI.outAt
    rw [e1,e2,e3];rfl
  have:=NU (rs:=[r]) (s:=s0) (os:=[.row 41 y.U]) (os2:=[.dead,.row 41 (y.U++(Bh y.a).map Prod.fst)]) (args0:=y.argsAt 0) (by simp) rfl hrow hnm hba (by simp) (by simp) (fun o ho=>by simp at ho;rcases ho with rfl|rfl <;> rfl) key
  rw [hargs] at this
  refine this.mono ?_
  rintro v s' ⟨rfl,rfl⟩
  refine ⟨by rw [hmp];rfl,?_⟩
  show Ac (D1 s0 [r] [.dead]) [B5 _ (.row 41 (y.U++(Bh y.a).map Prod.fst))]=_
  rw [Az hUf];rfl
end Go.AM
