/-
 Functions of the program as the abstract machine reads them, and what is stated of them, checked by the kernel. No conditions.
-/
import Derived.Test.YtnnbibnobmegpaaSeatR
import Derived.Test.YtnnbibnobmegpaaSeatP
set_option linter.unusedVariables false
set_option linter.unusedSimpArgs false
set_option maxRecDepth 100000
namespace Go.AM
attribute [local irreducible] W
open X
structure RdS where
 S:List (Int×List Nat)
 p:Option (List Nat)
def r78 (b:List Nat):List Nat:=b.set 0 78
def Zdp (r:Rc) (b:List Nat):List Nat:=if r.bare then r78 b else b
def Zet (r:Rc) (b:List Nat):Bool:=decide ((Zen b:Int)≠r.sum) || (decide (b.headD 0=78) || (r.bare && decide (b.headD 0≠0)))
def Zec (r:Rc) (b:List Nat) (st:RdS):RdS:=if r.slot=255 then ⟨st.S,some (Zdp r b)⟩ else ⟨st.S++[(r.slot,Zdp r b)],st.p⟩
def Zf5 (B:Nat→List Nat):List Rc→Nat→Nat→RdS→Option RdS
 | [],_,_,st=>some st
 | _::_,0,_,st=>some st
 | r::R,n+1,i,st=>if Zet r (B i) then none else Zf5 B R n (i+1) (Zec r (B i) st)
def Zvw (S:List (Int×List Nat)):AV:=match S with
 | []=>.nils
 | p::S=>.fz (S.length+1) none (Zd8 ((p::S).map Prod.fst))
def fzN (b:List Nat):AV:=.fz 128 (some 0) (bys b)
def Zj2 (S:List (Int×List Nat)):AV:=match S with
 | []=>.nils
 | p::S=>.fz (S.length+1) (some 0) ((p::S).map fun p=>fzN p.2)
def Zcu:Option (List Nat)→AV
 | none=>.nils
 | some b=>fzB b
def Zhr (st:Int) (x:RdS):DB:=⟨st,Zvw x.S,x.S.map Prod.fst,Zj2 x.S,x.S.map (fun p=>fzN p.2),x.S.map Prod.snd,Zcu x.p,x.p.getD []⟩
structure RdS.ok (x:RdS):Prop where
 n:x.S.length≤17
 s:∀ p ∈ x.S,(0≤p.1∧p.1<256)∧p.2.length=128∧∀ y ∈ p.2,y<256
 p:∀ b,x.p=some b→b.length=128∧∀ y ∈ b,y<256
theorem Zqp (S:List (Int×List Nat)):AM.hf (Zvw S)=true:=by unfold Zvw;split <;> rfl
theorem Zft (S:List (Int×List Nat)):AM.hf (Zj2 S)=true:=by unfold Zj2;split <;> rfl
theorem Za4 (S:Option (List Nat)):AM.hf (Zcu S)=true:=by unfold Zcu;split <;> rfl
theorem Zep {b:List Nat}(h:b.length=128∧∀ y ∈ b,y<256):BAt (fzB b) b:=⟨.inr (.inr ⟨none,by rw [h.1];rfl,by rw [Zan];omega⟩),h.2⟩
theorem Yis {b:List Nat}(h:b.length=128∧∀ y ∈ b,y<256):BAt (fzN b) b:=⟨.inr (.inr ⟨some 0,by rw [h.1];rfl,by rw [Zan];omega⟩),h.2⟩
theorem Zxg:∀ {S:List (Int×List Nat)},(∀ p ∈ S,p.2.length=128∧∀ y ∈ p.2,y<256)→All2 BAt (S.map fun p=>fzN p.2) (S.map Prod.snd)
 | [],_=>.nil
 | p::S,h=>.cons (Yis (h p (by simp))) (Zxg fun q hq=>h q (by simp [hq]))
theorem Zxf:∀ {S:List (Int×List Nat)},(∀ p ∈ S,p.2.length=128∧∀ y ∈ p.2,y<256)→All2 (fun u n=>BN.ok ⟨u,n⟩) (S.map fun p=>fzN p.2) ((S.map Prod.snd).map List.length)
 | [],_=>.nil
 | p::S,h=>.cons ⟨⟨_,(Yis (h p (by simp))).1⟩,by have:=(h p (by simp)).1;dsimp only;omega⟩ (Zxf fun q hq=>h q (by simp [hq]))
theorem Zt3 {x:RdS}(hx:x.ok) {st:Int}(h:Zc4 st):(Zhr st x).ok:=by
 obtain ⟨S,p⟩:=x
 obtain ⟨hn,hs,hp⟩:=hx
 dsimp only at hn hs hp
 have hp':BAt (Zcu p) (p.getD [])∧(p.getD []).length<1000000:=by
  cases p with
  | none=>exact ⟨⟨.inl ⟨rfl,rfl,rfl⟩,by intro x hx;cases hx⟩,by show 0<1000000;decide⟩
  | some b=>exact ⟨Zep (hp b rfl),by have:=(hp b rfl).1;show b.length<_;omega⟩
 refine ⟨⟨h,?_,?_,?_,⟨?_,Zxf fun p hp=>(hs p hp).2,?_⟩,⟨⟨_,hp'.1.1⟩,?_⟩⟩,Zxg fun p hp=>(hs p hp).2,hp'.1⟩
 ·cases S with
  | nil=>exact .inl ⟨rfl,rfl,rfl⟩
  | cons p S=>exact .inr (.inr ⟨none,by show AV.fz _ _ _=.fz ((p::S).map Prod.fst).length _ _;rw [List.length_map];rfl,by show (Zd8 ((p::S).map Prod.fst)).length=((p::S).map Prod.fst).length*1;unfold Zd8;simp⟩)
 ·intro s hs'
  obtain ⟨q,hq,rfl⟩:=List.mem_map.1 (show s ∈ S.map Prod.fst from hs')
  have:=(hs q hq).1
  unfold Zc4;omega
 ·show (S.map Prod.fst).length<_;rw [List.length_map];omega
 ·cases S with
  | nil=>exact .inl ⟨rfl,rfl,rfl⟩
  | cons p S=>exact .inr (.inr ⟨some 0,by show AV.fz _ _ _=.fz ((p::S).map fun p=>fzN p.2).length _ _;rw [List.length_map];rfl,by show ((p::S).map fun p=>fzN p.2).length=((p::S).map fun p=>fzN p.2).length*1;omega⟩)
 ·show (S.map fun p=>fzN p.2).length<_;rw [List.length_map];omega
 ·show (p.getD []).length<_;omega
def rbk (x:CDA) (i:Nat):List Nat:=pad (Zrc x.d (1+(x.a+i) % x.c.log))
def zF:AV:=.agg [.int .u32 0,.int .u32 0,.int .i64 0,.nils,.nils,.nils]
def Zkk (n:Int):AV:=.tup [zF,.int .i64 0,.int .i64 n]
def Zqx (c:Cfg) (n:Nt) (st:RdS):AV:=if CD.good ⟨c,(Zhr n.stripe st).d⟩ then .tup [.agg [.int .u32 n.age,.int .u32 n.seq,.int .i64 n.stripe,Zvw st.S,Zj2 st.S,Zcu st.p],.int .i64 (1+(n.recs.length:Int)),.int .i64 0] else Zkk 130
def Zlf (x:CDA):AV:=
 if Zib x=0 then
  (if Zdm (rbk x 0)=true∧(Zak (rbk x 0)).id=x.c.id then
    (match Zf5 (rbk x) (Zak (rbk x 0)).recs (x.c.log.toNat-1) 1 ⟨[],none⟩ with
      | none=>Zkk 130
      | some st=>Zqx x.c (Zak (rbk x 0)) st)
  else Zkk 130)
 else Zkk (Zib x)
def Zpr:AC:=match a23 with|.mk c _=>c
def Yas:AC:=match Zpr with
 | .seq _ (.seq _ (.seq _ (.seq _ r)))=>r
 | _=>.skip
def fC (ag sq st:Int) (x:RdS):List AV:=[.int .u32 ag,.int .u32 sq,.int .i64 st,Zvw x.S,Zj2 x.S,Zcu x.p]
theorem Yin (ag sq st:Int) (x:RdS):hfs (fC ag sq st x)=true:=by
 show (true && (true && (true && (AM.hf (Zvw x.S) && (AM.hf (Zj2 x.S) && (AM.hf (Zcu x.p) && true))))))=true
 rw [Zqp,Zft,Za4];rfl
theorem dr_rest {P:Program}{e:Env}(hE:EnvOk P e) (hm:P.follows .mixedOrders=true) (h50:Con e 50 dchkF.O) (c:Cfg) (hc:c.ok) (n:Nt) (hn:n.ok) (hs:n.v=.fz n.recs.length none (rcs n.recs)) (x:RdS) (hx:x.ok) (K:AV→St→Prop) (hk:∀ s,K (Zqx c n x) s):
 W P 0 none Yas (ofL [(3,.ptr 0 0),(6,.ptr 1 0),(7,.ptr 2 0),(8,.ptr 3 0),(10,.ptr 4 0)]) (Zai St0 [.row 24 c.c,.row 36 (fC n.age n.seq n.stripe x),.row 3 [.int .i64 0],.row 37 [.int .i64 0],.row 101 (ntC n n.v),.defd]) [5] (Zhv [.cells 6 6,.cell 7,.cell 8] K):=by
 have hok:CD.ok ⟨c,(Zhr n.stripe x).d⟩:=⟨hc,(Zt3 hx hn.stripe).d⟩
 have hl:=hn.len
 have hf1:=Zqp x.S
 have hf2:=Zft x.S
 have hf3:=Za4 x.p
 have hO:∀ u,(if CD.good ⟨c,(Zhr n.stripe x).d⟩ then AV.int .i64 0 else .int .i64 8)=u→dchkF.out ⟨c,(Zhr n.stripe x).d⟩=u:=fun u h=>by
  rw [← h];show AV.int .i64 (if _ then 0 else 8)=_;split <;> rfl
 have henc:dchkF.enc ⟨c,(Zhr n.stripe x).d⟩=[c.v,.agg [.int .i64 n.stripe,Zvw x.S,Zj2 x.S,Zcu x.p]]:=rfl
 have hfam:=fun u (h:dchkF.out ⟨c,(Zhr n.stripe x).d⟩=u) K (s:St) (hk:K u s)=>(henc ▸ ESc.fam (s:=s) (k:=K) dchkF h50 ⟨c,(Zhr n.stripe x).d⟩ hok h hk:ESc e 50 [c.v,.agg [.int .i64 n.stripe,Zvw x.S,Zj2 x.S,Zcu x.p]] s K)
 unfold Zqx at hk
 refine Zkt hE hm ?_
 by_cases hG:CD.good ⟨c,(Zhr n.stripe x).d⟩
 ·rw [if_pos hG] at hk
  have hf:=hfam (.int .i64 0) (hO _ (if_pos hG))
  clear hfam hO henc hok
  conv=>whnf
  refine hf _ _ ?_;conv=>whnf
  repeat' (first|(refine Zaa (n:=n.recs.length) rfl hn.sl ?_;conv=>whnf)|((refine w6 rfl rfl ?_ ?_) <;> intro _ <;> first|(exfalso;omega)|(conv=>whnf))|((first|refine w7 rfl rfl (by omega) ?_|refine ⟨rfl,?_⟩);conv=>whnf)|fail)
  exact hk _
 ·rw [if_neg hG] at hk
  have hf:=hfam (.int .i64 8) (hO _ (if_neg hG))
  clear hfam hO henc hok
  conv=>whnf
  refine hf _ _ ?_;conv=>whnf
  repeat' (first|((refine w6 rfl rfl ?_ ?_) <;> intro _ <;> first|(exfalso;omega)|(conv=>whnf))|fail)
  exact hk _
end Go.AM
set_option maxRecDepth 100000
namespace Go.AM
attribute [local irreducible] W
open X
def tlF:List (Nat×AV):=[(3,.ptr 0 0),(6,.ptr 1 0),(7,.ptr 2 0),(8,.ptr 3 0),(10,.ptr 4 0)]
def fG (n:Nt) (r:Nat) (x:RdS):List AV:=match x.S with
 | []=>[.int .u32 n.age,.int .u32 n.seq,.int .i64 n.stripe,.nils,.nils,Zcu x.p]
 | _::S=>[.int .u32 n.age,.int .u32 n.seq,.int .i64 n.stripe,.sl r 0 (S.length+1) none,.sl (r+1) 0 (S.length+1) none,Zcu x.p]
def rwG (x:RdS):List AObj:=match x.S with
 | []=>[]
 | p::S=>[.row 3 (Zd8 ((p::S).map Prod.fst)),.row 32 ((p::S).map fun p=>fzN p.2)]
def osF (c:Cfg) (n:Nt) (x:RdS):List AObj:=[.row 24 c.c,.row 36 (fG n 6 x),.row 3 [.int .i64 0],.row 37 [.int .i64 0],.row 101 (ntC n n.v),.defd]++rwG x
theorem Zaw (l:List Int):hfs (Zd8 l)=true:=hfs_iff.2 fun v hv=>by
 obtain ⟨p,_,rfl⟩:=List.mem_map.1 (show v ∈ l.map (AV.int .i64) from hv);rfl
theorem Za1 (l:List (Int×List Nat)):hfs (l.map fun p=>fzN p.2)=true:=hfs_iff.2 fun v hv=>by
 obtain ⟨p,_,rfl⟩:=List.mem_map.1 hv;rfl
theorem dr_fin {P:Program}{e:Env}(hE:EnvOk P e) (hm:P.follows .mixedOrders=true) (h50:Con e 50 dchkF.O) {c:Cfg}(hc:c.ok) {n:Nt}(hn:n.ok) (hs:n.v=.fz n.recs.length none (rcs n.recs)) {x:RdS}(hx:x.ok) {K:AV→St→Prop}(hk:∀ s,K (Zqx c n x) s)
 {t:AT}{s:St}{ds rs:List Nat}(h:AbsD 0 t s ds tlF (osF c n x) rs [5]):W P 0 none Yas t s ds (Zhv [.cells 6 6,.cell 7,.cell 8] K):=by
 have hr:=dr_rest hE hm h50 c hc n hn hs x hx K hk
 obtain ⟨S,p⟩:=x
 have hnv:AM.hf n.v=true:=by rw [hs];rfl
 have hpv:∀ m cs,frzV m cs (Zcu p)=Zcu p:=fun m cs=>Zjk _ (Za4 p)
 have hnc:hfs (ntC n n.v)=true:=by
  show (true && (true && (true && (true && (AM.hf n.v && true)))))=true
  rw [hnv];rfl
 cases S with
 | nil=>exact W.tells h.tells hr
 | cons q S=>
  have h1:=AbsD.frn (P:=P) (k:=0) (n:=7) (e:=32) (cs:=(q::S).map fun p=>fzN p.2) (tl:=tlF) (tl2:=tlF) (ds2:=[5]) (os:=[.row 24 c.c,.row 36 [.int .u32 n.age,.int .u32 n.seq,.int .i64 n.stripe,.sl 6 0 (S.length+1) none,.sl 7 0 (S.length+1) none,Zcu p],.row 3 [.int .i64 0],.row 37 [.int .i64 0],.row 101 (ntC n n.v),.defd,.row 3 (Zd8 ((q::S).map Prod.fst))])
   (os2:=[.row 24 c.c,.row 36 [.int .u32 n.age,.int .u32 n.seq,.int .i64 n.stripe,.sl 6 0 (S.length+1) none,Zj2 (q::S),Zcu p],.row 3 [.int .i64 0],.row 37 [.int .i64 0],.row 101 (ntC n n.v),.defd,.row 3 (Zd8 ((q::S).map Prod.fst))]) h rfl (by intro d hd;simp at hd;subst hd;decide) (Za1 _) rfl rfl rfl rfl rfl (by
     show [_,AObj.row 36 [_,_,_,_,_,frnV 7 _ (Zcu p)],_,_,frnO 7 _ (.row 101 (ntC n n.v)),_,frnO 7 _ (.row 3 (Zd8 ((q::S).map Prod.fst)))]=_
     rw [Zqq _ (Za4 p),Zfb hnc,Zfb (Zaw _)];rfl)
  have hc1:hfs [.int .u32 n.age,.int .u32 n.seq,.int .i64 n.stripe,Zj2 (q::S),Zcu p]=true:=by
   show (true && (true && (true && (AM.hf (Zj2 (q::S)) && (AM.hf (Zcu p) && true)))))=true
   rw [Zft,Za4];rfl
  have h2:=AbsD.frz (P:=P) (k:=0) (n:=6) (e:=3) (cs:=Zd8 ((q::S).map Prod.fst)) (t:=ofL tlF) (s:=Zai St0 [.row 24 c.c,.row 36 [.int .u32 n.age,.int .u32 n.seq,.int .i64 n.stripe,.sl 6 0 (S.length+1) none,Zj2 (q::S),Zcu p],.row 3 [.int .i64 0],.row 37 [.int .i64 0],.row 101 (ntC n n.v),.defd,.row 3 (Zd8 ((q::S).map Prod.fst))]) (ds:=[5]) (rs:=[0,1,2,3,4,5,6]) (tl:=tlF) (tl2:=tlF) (ds2:=[5]) (os:=[.row 24 c.c,.row 36 [.int .u32 n.age,.int .u32 n.seq,.int .i64 n.stripe,.sl 6 0 (S.length+1) none,Zj2 (q::S),Zcu p],.row 3 [.int .i64 0],.row 37 [.int .i64 0],.row 101 (ntC n n.v),.defd])
   (os2:=[.row 24 c.c,.row 36 (fC n.age n.seq n.stripe ⟨q::S,p⟩),.row 3 [.int .i64 0],.row 37 [.int .i64 0],.row 101 (ntC n n.v),.defd])
   ⟨⟨rfl,by decide,⟨⟨rfl,rfl⟩,⟨rfl,rfl⟩,⟨rfl,rfl⟩,⟨rfl,rfl⟩,⟨rfl,rfl⟩,trivial⟩,⟨⟨rfl,rfl⟩,⟨by show (true && (true && (true && (true && (bd 7 (Zj2 (q::S)) && (bd 7 (Zcu p) && true))))))=true;rw [Zbe _ (Zft _),Zbe _ (Za4 p)];rfl,by show _=some (AObj.row 36 [_,_,_,_,Zed _ (Zj2 (q::S)),Zed _ (Zcu p)]);rw [Zao _ (Zft _),Zao _ (Za4 p)];rfl⟩,⟨rfl,rfl⟩,⟨rfl,rfl⟩,⟨Za6 hnc,by rw [Zac hnc];rfl⟩,⟨rfl,rfl⟩,⟨Za6 (Zaw _),by rw [Zac (Zaw _)];rfl⟩,trivial⟩⟩,rfl,by intro d hd;simp at hd;subst hd;show 5<7;decide⟩ rfl (by intro d hd;simp at hd;subst hd;decide) (Zaw _) rfl rfl rfl rfl rfl (by
     show [_,AObj.row 36 [_,_,_,_,frzV 6 _ (Zj2 (q::S)),frzV 6 _ (Zcu p)],_,_,frzO 6 _ (.row 101 (ntC n n.v)),_]=_
     rw [hpv,Zjk _ (Zft _),Zby hnc];rfl)
  exact W.tells (h1.trans h2) hr
end Go.AM
set_option maxRecDepth 100000
namespace Go.AM
attribute [local irreducible] W
open X
def asg23:AC:=match Zj0 Zpr with|some (a,_)=>a|none=>.skip
def Yi6:AC:=match Zj0 Zpr with|some (_,b)=>b|none=>.skip
def ring23:AC:=match Zpr with
 | .seq _ (.seq _ (.seq _ (.seq r _)))=>r
 | _=>.skip
def Yi0:AC:=match a66 with|.mk c _=>c
def zFc:List AV:=[.int .u32 0,.int .u32 0,.int .i64 0,.nils,.nils,.nils]
def tlG:List (Nat×AV):=[(3,.ptr 0 0),(6,.ptr 1 0),(7,.ptr 2 0),(8,.ptr 3 0),(10,.ptr 4 0),(27,.fn 106 [] [.ptr 5 0,.ptr 7 0,.ptr 6 0])]
def osH (C D:List AV) (a:Int):List AObj:=[.row 24 C,.row 36 zFc,.row 3 [.int .i64 0],.row 37 [.int .i64 0],.row 101 Ze3,.row 24 C,.row 28 D,.row 3 [.int .i64 a]]
noncomputable def osG (C D:List AV) (a:Int) (F N:List AV):List AObj:=[.row 24 C,.row 36 F,.row 3 [.int .i64 0],.row 37 [.int .i64 0],.row 101 N,.row 24 C,.row 28 D,.row 3 [.int .i64 a],.defd,.loop .ready none 0 (ofL tlG) [28,29] asg23 Yi6 8]
noncomputable def osL (C D:List AV) (a:Int) (n:Nt):Nat→RdS→List AObj
 | 0,_=>osG C D a zFc Ze3
 | _+1,x=>osG C D a (fG n 10 x) (ntC n n.v)++rwG x
def tlL (lg:Int) (i:Nat):List (Nat×AV):=[(0,.yld 9),(1,.ptr 5 0),(2,.ptr 7 0),(3,.ptr 6 0),(11,.int .i64 lg),(12,.int .i64 (i:Int))]
theorem Znh:RdS.ok ⟨[],none⟩:=⟨Nat.zero_le _,(fun p hp=>nomatch hp),(fun b hb=>nomatch hb)⟩
structure RB (d:DK) (a lg:Int) (m:Nat) (B:Nat→List Nat):Prop where
 mm:lg=(m:Int)
 ll:12≤m∧m≤255
 aa:0≤a∧a<lg
 bb:∀ i,i<m→(B i).length=128∧∀ y ∈ B i,y<256
 zz:∀ s,zB (s.get 4)=true→Zrb [d.v,.int .i64 (1+(a+0) % lg)] s=.ok (.tup [fzB (B 0),.int .i64 0]) s
 rr:∀ i,i<m→∃ cp,∀ s,zB (s.get 4)=false→Zrb [d.v,.int .i64 (1+(a+(i:Int)) % lg)] s=.ok (.tup [.sl (0+s.next) 0 128 cp,.int .i64 0]) (s.alloc (.row 5 (bys (B i))))
theorem Zrw (B:Nat→List Nat):∀ (R:List Rc) (i:Nat) (x:RdS),Zf5 B R 0 i x=some x
 | [],_,_=>rfl
 | _::_,_,_=>rfl
theorem Zw3 {P:Program}{t:AT}{s:St}{C D:List AV}(hC:hfs C=true) (hD:hfs D=true) {a lg sl:Int}{n:Nt}(hn:AM.hf n.v=true) {S:List (Int×List Nat)}{p:Option (List Nat)}{see:List Nat}{cp:Option Nat}{i k:Nat}{rs:List Nat}
 (h:AbsK 10 t s (tlL lg i) (osG C D a [.int .u32 n.age,.int .u32 n.seq,.int .i64 n.stripe,.sl 10 0 (S.length+1) none,.sl 11 0 (S.length+1) none,Zcu p] (ntC n n.v)++[.row 3 (Zd8 (S.map Prod.fst)++[.int .i64 sl]),.row 32 ((S.map fun p=>fzN p.2)++[.sl 12 0 128 cp])]++[.row 5 (bys see)]) rs) (hal:True):
 Tells P 10 t s [] (ofL (tlL lg i)) (Zai St0 (osL C D a n (k+1) ⟨S++[(sl,see)],p⟩)) []:=by
 have hnc:hfs (ntC n n.v)=true:=by
  show (true && (true && (true && (true && (AM.hf n.v && true)))))=true
  rw [hn];rfl
 refine AbsK.frn (n:=12) (e:=5) (cs:=bys see) h rfl (Zad _) rfl rfl rfl rfl rfl ?_
 have e1:osL C D a n (k+1) ⟨S++[(sl,see)],p⟩=osG C D a [.int .u32 n.age,.int .u32 n.seq,.int .i64 n.stripe,.sl 10 0 (S.length+1) none,.sl 11 0 (S.length+1) none,Zcu p] (ntC n n.v)++[.row 3 (Zd8 (S.map Prod.fst)++[.int .i64 sl]),.row 32 ((S.map fun p=>fzN p.2)++[fzN see])]:=by
  cases S with
  | nil=>rfl
  | cons q S=>
   show osG C D a [_,_,_,.sl 10 0 ((S++[(sl,see)]).length+1) none,.sl 11 0 ((S++[(sl,see)]).length+1) none,Zcu p] (ntC n n.v)++[.row 3 (Zd8 ((q::(S++[(sl,see)])).map Prod.fst)),.row 32 ((q::(S++[(sl,see)])).map fun p=>fzN p.2)]=_
   rw [List.length_append]
   unfold Zd8
   simp
 rw [e1]
 show [frnO 12 _ (.row 24 C),AObj.row 36 [_,_,_,_,_,frnV 12 _ (Zcu p)],_,_,frnO 12 _ (.row 101 (ntC n n.v)),frnO 12 _ (.row 24 C),frnO 12 _ (.row 28 D),_,_,_,AObj.row 3 (frnVs 12 _ (Zd8 (S.map Prod.fst)++[.int .i64 sl])),AObj.row 32 (frnVs 12 _ ((S.map fun p=>fzN p.2)++[.sl 12 0 128 cp]))]=_
 rw [Zfb hC,Zfb hD,Zfb hnc,Zqq _ (Za4 p),Zgb,Zgb,Zgo _ (Zaw _),Zgo _ (Za1 _)]
 rfl
def fH (n:Nt) (r r5:Nat) (S:List (Int×List Nat)) (cp:Option Nat):List AV:=match S with
 | []=>[.int .u32 n.age,.int .u32 n.seq,.int .i64 n.stripe,.nils,.nils,.sl r5 0 128 cp]
 | _::S=>[.int .u32 n.age,.int .u32 n.seq,.int .i64 n.stripe,.sl r 0 (S.length+1) none,.sl (r+1) 0 (S.length+1) none,.sl r5 0 128 cp]
theorem Zw2 {P:Program}{t:AT}{s:St}{C D:List AV}(hC:hfs C=true) (hD:hfs D=true) {a lg:Int}{n:Nt}(hn:AM.hf n.v=true) {S:List (Int×List Nat)}{p':Option (List Nat)}{see:List Nat}{cp:Option Nat}{i k:Nat}{rs:List Nat}
 (h:AbsK 10 t s (tlL lg i) ((osG C D a (fH n 10 (match S with|[]=>10|_=>12) S cp) (ntC n n.v)++rwG ⟨S,p'⟩)++[.row 5 (bys see)]) rs):
 Tells P 10 t s [] (ofL (tlL lg i)) (Zai St0 (osL C D a n (k+1) ⟨S,some see⟩)) []:=by
 have hnc:hfs (ntC n n.v)=true:=by
  show (true && (true && (true && (true && (AM.hf n.v && true)))))=true
  rw [hn];rfl
 cases S with
 | nil=>
  refine AbsK.frz (n:=10) (e:=5) (cs:=bys see) h rfl (Zad _) rfl rfl rfl rfl rfl ?_
  show [frzO 10 _ (.row 24 C),_,_,_,frzO 10 _ (.row 101 (ntC n n.v)),frzO 10 _ (.row 24 C),frzO 10 _ (.row 28 D),_,_,_]=_
  rw [Zby hC,Zby hD,Zby hnc]
  rfl
 | cons q S=>
  refine AbsK.frz (n:=12) (e:=5) (cs:=bys see) h rfl (Zad _) rfl rfl rfl rfl rfl ?_
  show [frzO 12 _ (.row 24 C),_,_,_,frzO 12 _ (.row 101 (ntC n n.v)),frzO 12 _ (.row 24 C),frzO 12 _ (.row 28 D),_,_,_,frzO 12 _ (.row 3 (Zd8 ((q::S).map Prod.fst))),frzO 12 _ (.row 32 ((q::S).map fun p=>fzN p.2))]=_
  rw [Zby hC,Zby hD,Zby hnc,Zby (Zaw _),Zby (Za1 _)]
  rfl
theorem Zdj {S:List (Int×List Nat)}{p:Option (List Nat)}(hx:RdS.ok ⟨S,p⟩) {sl:Int}{see:List Nat}(hl:S.length<17) (hs:0≤sl∧sl<256) (hb:see.length=128∧∀ y ∈ see,y<256):RdS.ok ⟨S++[(sl,see)],p⟩:=by
 refine ⟨by show (S++[(sl,see)]).length≤17;rw [List.length_append];show S.length+1≤17;omega,fun q hq=>?_,hx.p⟩
 rcases List.mem_append.1 hq with hq|hq
 ·exact hx.s q hq
 ·simp at hq;subst hq;exact ⟨hs,hb⟩
theorem Zdi {S:List (Int×List Nat)}{p:Option (List Nat)}(hx:RdS.ok ⟨S,p⟩) {see:List Nat}(hb:see.length=128∧∀ y ∈ see,y<256):RdS.ok ⟨S,some see⟩:=by
 refine ⟨hx.n,hx.s,fun b h=>?_⟩
 have:see=b:=Option.some.inj h
 subst this;exact hb
theorem dr_ring {P:Program}{e:Env}{fn:Func}(hE:EnvOk P e) (hm:P.follows .mixedOrders=true) (h50:Con e 50 dchkF.O) (h35:Con e 35 onF.O) (h51:Con e 51 Zrb) (h52:Con e 52 ndF.O) (h66:Inl e 66 Yi0 [.tmp 6]) (h67:Inl e 67 Zsw [.tmp 2]) (h107:Con e 107 Zjh)
 (hf:P.funcs[106]?=some fn) (hcf:Zaj P fn=some a106) (hb:Zaf P 106) {c:Cfg}(hc:c.ok) {d:DK}(hd:d.ok) {a:Int}{m:Nat}{B:Nat→List Nat}(hB:RB d a c.log m B)
 {n:Nt}(hn:n.ok) (hs:n.v=.fz n.recs.length none (rcs n.recs)) (hn17:n.recs.length≤17) (gd:Bool) (hnd:Zht ⟨fzB (B 0),B 0⟩=if gd then .tup [.agg (ntC n n.v),.int .i64 0] else .tup [.agg Ze3,.int .i64 90]) {K:AV→St→Prop}
 (k0:gd=false→∀ s,K (Zkk 130) s) (k1:gd=true→n.id≠c.id→∀ s,K (Zkk 130) s) (k2:gd=true→n.id=c.id→Zf5 B n.recs (m-1) 1 ⟨[],none⟩=none→∀ s,K (Zkk 130) s)
 (k3:gd=true→n.id=c.id→∀ x,Zf5 B n.recs (m-1) 1 ⟨[],none⟩=some x→∀ s,K (Zqx c n x) s):
 VW P e 0 ring23 (ofL [(3,.ptr 0 0),(4,.ptr 1 0),(2,.int .i64 a),(6,.ptr 2 0),(7,.ptr 3 0),(8,.ptr 4 0),(10,.ptr 5 0)]) (Zai St0 [.row 24 c.c,.row 28 d.c,.row 36 zFc,.row 3 [.int .i64 0],.row 37 [.int .i64 0],.row 101 Ze3]) none []
  (Bhd (fun t s ds=>W P 0 none Yas t s ds (Zhv [.cells 6 6,.cell 7,.cell 8] K)) (Zhv [.cells 6 6,.cell 7,.cell 8] K)):=by
 have fin:=fun {x:RdS}(hx:x.ok) (hk:∀ s,K (Zqx c n x) s) {t s ds rs}=>dr_fin (t:=t) (s:=s) (ds:=ds) (rs:=rs) hE hm h50 hc hn hs hx hk
 obtain ⟨hlg,hm1,ha,hBb,hBz,hBr⟩:=hB
 have hnv:AM.hf n.v=true:=by rw [hs];rfl
 have hnsl:Sl 3 n.recs.length (rcs n.recs) n.v:=hn.sl
 obtain ⟨nid,nag,nsq,nst,nv,R⟩:=n
 dsimp only at hs hn17 hnsl k1 k2 k3
 subst hs
 obtain ⟨bv,us,bs,wv,ws,dd⟩:=d
 have hbl:=hd.a.bl
 have hwl:=hd.a.wl
 obtain ⟨id,mb,ch,rw',lg,hdd⟩:=c
 dsimp only at hlg hm1 ha hBz hBr hbl hwl k1 k2 k3
 have hcf':hfs [.int .u32 id,.int .i64 mb,.int .i64 ch,.int .i64 rw',.int .i64 lg,.int .i64 hdd]=true:=rfl
 have hdf:hfs [bv,wv,.bool dd]=true:=Zp0 hwl hbl
 conv=>whnf
 refine ESc.inl h66 ?_;conv=>whnf
 refine W.tells (Abs.tells (tl:=tlG) (os:=osH [.int .u32 id,.int .i64 mb,.int .i64 ch,.int .i64 rw',.int .i64 lg,.int .i64 hdd] [bv,wv,.bool dd] a) (rs:=[0,2,3,4,5,6,7,8])
  ⟨by decide,⟨⟨rfl,rfl⟩,⟨rfl,rfl⟩,⟨rfl,rfl⟩,⟨rfl,rfl⟩,⟨rfl,rfl⟩,⟨rfl,rfl⟩,trivial⟩,⟨⟨rfl,rfl⟩,⟨rfl,rfl⟩,⟨rfl,rfl⟩,⟨rfl,rfl⟩,⟨rfl,rfl⟩,⟨rfl,rfl⟩,⟨Za6 hdf,by rw [Zac hdf];rfl⟩,⟨rfl,rfl⟩,trivial⟩⟩) ?_
 refine Zta (f:=106) (first:=[]) (cap:=[.ptr 5 0,.ptr 7 0,.ptr 6 0]) hb rfl ?_ ?_
 ·intro q hq
  have hq:q<8:=hq
  rcases q with _|_|_|_|_|_|_|_|q
  ·exact .tmp 3 (.ptr 0 0) rfl rfl
  ·exact .tmp 6 (.ptr 1 0) rfl rfl
  ·exact .tmp 7 (.ptr 2 0) rfl rfl
  ·exact .tmp 8 (.ptr 3 0) rfl rfl
  ·exact .tmp 10 (.ptr 4 0) rfl rfl
  ·exact .tmp 27 (.fn 106 [] [.ptr 5 0,.ptr 7 0,.ptr 6 0]) rfl rfl
  ·exact .tmp 27 (.fn 106 [] [.ptr 5 0,.ptr 7 0,.ptr 6 0]) rfl rfl
  ·exact .tmp 27 (.fn 106 [] [.ptr 5 0,.ptr 7 0,.ptr 6 0]) rfl rfl
  ·omega
 obtain ⟨C,hC⟩:∃ C:List AV,C=[.int .u32 id,.int .i64 mb,.int .i64 ch,.int .i64 rw',.int .i64 lg,.int .i64 hdd]:=⟨_,rfl⟩
 show C1 P 106 [.yld 9,.ptr 5 0,.ptr 7 0,.ptr 6 0] (Zai St0 (osL [.int .u32 id,.int .i64 mb,.int .i64 ch,.int .i64 rw',.int .i64 lg,.int .i64 hdd] [bv,wv,.bool dd] a ⟨nid,nag,nsq,nst,.fz R.length none (rcs R),R⟩ 0 ⟨[],none⟩)) (fun _ s'=>Zom 9 [8] (ofL tlG) s' _)
 refine C1.of_V hE hm hf hcf ?_;conv=>whnf
 have hnf:∀ a b c d:Int,hfs [.int .u32 a,.int .u32 b,.int .u32 c,.int .i64 d,.fz R.length none (rcs R)]=true:=fun _ _ _ _=>rfl
 have hlb:∀ n,bdO 10 n (.loop .ready none 0 (ofL tlG) [28,29] asg23 Yi6 8)=true:=fun _=>rfl
 refine Zbo (k:=10) (α:=Nat×RdS) (fun y=>tlL lg y.1) (fun y=>osL [.int .u32 id,.int .i64 mb,.int .i64 ch,.int .i64 rw',.int .i64 lg,.int .i64 hdd] [bv,wv,.bool dd] a ⟨nid,nag,nsq,nst,.fz R.length none (rcs R),R⟩ y.1 y.2) (fun y=>m-y.1)
  (fun y=>y.1≤m∧y.2.ok∧y.2.S.length≤y.1-1∧(0<y.1→gd=true∧nid=id∧Zf5 B R (m-1) 1 ⟨[],none⟩=Zf5 B (R.drop (y.1-1)) (m-y.1) y.1 y.2)) (0,⟨[],none⟩) ⟨Nat.zero_le _,Znh,by show 0≤0;omega,fun h=>absurd h (Nat.lt_irrefl 0)⟩
    (AbsK.tells (rs:=[0,1,2,3,4,5,6,7,8,9]) ⟨rfl,by decide,⟨⟨rfl,rfl⟩,⟨rfl,rfl⟩,⟨rfl,rfl⟩,⟨rfl,rfl⟩,⟨rfl,rfl⟩,⟨rfl,rfl⟩,trivial⟩,⟨⟨rfl,rfl⟩,⟨rfl,rfl⟩,⟨rfl,rfl⟩,⟨rfl,rfl⟩,⟨rfl,rfl⟩,⟨rfl,rfl⟩,⟨Za6 hdf,by rw [Zac hdf];rfl⟩,⟨rfl,rfl⟩,⟨rfl,rfl⟩,⟨hlb _,rfl⟩,trivial⟩⟩) ?_
 rintro ⟨i,x⟩ ⟨hi,hx,hxl,hI⟩
 dsimp only at hi hx hxl hI ⊢
 refine Zap hE hm ?_
 have hon:∀ i:Nat,i<m→onF.out ⟨lg,a,(i:Int)⟩=.tup [.int .i64 ((a+(i:Int)) % lg),.int .i64 0]:=fun i hi=>by
  have:Yen ⟨lg,a,(i:Int)⟩=true:=by unfold Yen Yip;dsimp only;rw [decide_eq_true (by omega),decide_eq_true (by omega),decide_eq_true (by omega)];rfl
  show (if Yen _ then _ else _)=_;rw [if_pos this]
 have honk:∀ i:Nat,i<m→onF.ok ⟨lg,a,(i:Int)⟩:=fun i hi=>⟨by unfold Zc4;dsimp only;omega,by unfold Zc4;dsimp only;omega,by unfold Zc4;dsimp only;omega⟩
 have hm0:∀ i:Nat,0≤(a+(i:Int)) % lg:=fun i=>Int.emod_nonneg _ (by omega)
 have hm1':∀ i:Nat,(a+(i:Int)) % lg<lg:=fun i=>Int.emod_lt_of_pos _ (by omega)
 rcases i with _|j
 ·have h00:=hm0 0
  have h01:=hm1' 0
  conv=>whnf
  refine Zab (a:=((0:Nat):Int)) (b:=lg) rfl rfl (fun _=>?_) (fun h=>by omega);conv=>whnf
  refine ESc.fam onF h35 ⟨lg,a,((0:Nat):Int)⟩ (honk 0 (by omega)) (hon 0 (by omega)) ?_;conv=>whnf
  repeat' (first|(refine ESc.ov h51 (hBz _ rfl) ?_;conv=>whnf)|(refine w7 rfl rfl (by omega) ?_;conv=>whnf)|fail)
  refine ERound.mk ?_;conv=>whnf
  refine Za7 (a:=((0:Nat):Int)) (b:=0) rfl rfl (fun _=>?_) (fun h=>absurd rfl h);conv=>whnf
  have hb0:=hBb 0 (by omega)
  have hndok:UB.ok ⟨fzB (B 0),B 0⟩:=⟨Zep hb0,.inr hb0.1⟩
  cases gd
  ·refine ESc.fam ndF h52 ⟨fzB (B 0),B 0⟩ hndok (u:=.tup [.agg Ze3,.int .i64 90]) hnd ?_;conv=>whnf
   repeat' (first|((refine w6 rfl rfl ?_ ?_) <;> intro _ <;> first|(exfalso;omega)|(conv=>whnf))|(refine w13 rfl ?_;conv=>whnf)|fail)
   refine Zbz ?_;conv=>whnf
   exact k0 rfl _
  ·refine ESc.fam ndF h52 ⟨fzB (B 0),B 0⟩ hndok (u:=.tup [.agg (ntC ⟨nid,nag,nsq,nst,.fz R.length none (rcs R),R⟩ (.fz R.length none (rcs R))),.int .i64 0]) hnd ?_;conv=>whnf
   repeat' (first|((refine w6 rfl rfl ?_ ?_) <;> intro _ <;> first|(exfalso;omega)|(conv=>whnf))|((first|refine w7 rfl rfl (by omega) ?_|refine w12 rfl ?_|refine w13 rfl ?_|refine ⟨rfl,?_⟩);conv=>whnf)|fail)
   ·rename_i h
    refine Zbz ?_;conv=>whnf
    exact k1 rfl h _
   ·rename_i h
    exact ⟨(1,⟨[],none⟩),⟨by show 1≤m;omega,Znh,Nat.le_refl _,fun _=>⟨rfl,h,rfl⟩⟩,by show m-1<m-0;omega,
     AbsK.tells (rs:=[0,1,2,3,4,5,6,7,8,9]) ⟨rfl,by decide,⟨⟨rfl,rfl⟩,⟨rfl,rfl⟩,⟨rfl,rfl⟩,⟨rfl,rfl⟩,⟨rfl,rfl⟩,⟨rfl,rfl⟩,trivial⟩,⟨⟨rfl,rfl⟩,⟨rfl,rfl⟩,⟨rfl,rfl⟩,⟨rfl,rfl⟩,⟨rfl,rfl⟩,⟨rfl,rfl⟩,⟨Za6 hdf,by rw [Zac hdf];rfl⟩,⟨rfl,rfl⟩,⟨rfl,rfl⟩,⟨hlb _,rfl⟩,trivial⟩⟩⟩
 ·obtain ⟨hgd,hid,hG⟩:=hI (Nat.succ_pos j)
  subst hgd
  rw [show j+1-1=j from rfl] at hG hxl
  have h00:=hm0 (j+1)
  have h01:=hm1' (j+1)
  have hsub:((j+1:Nat):Int)-1=(j:Int):=by omega
  obtain ⟨S,p⟩:=x
  rcases S with _|⟨q,S⟩
  ·conv=>whnf
   refine Zab (a:=((j+1:Nat):Int)) (b:=lg) rfl rfl (fun hlt=>?_) (fun hge=>?_)
   ·have hjm:j+1<m:=by omega
    obtain ⟨cp,hrd⟩:=hBr (j+1) hjm
    have hb1:=hBb (j+1) hjm
    obtain ⟨b0,bt,hBe⟩:∃ b0 bt,B (j+1)=b0::bt:=by
     cases hq:B (j+1) with
     | nil=>rw [hq] at hb1;exact absurd hb1.1 (by decide)
     | cons x y=>exact ⟨x,y,rfl⟩
    rw [hBe] at hrd hb1
    conv=>whnf
    refine ESc.fam onF h35 ⟨lg,a,((j+1:Nat):Int)⟩ (honk (j+1) hjm) (hon (j+1) hjm) ?_;conv=>whnf
    repeat' (first|(refine ESc.ov h51 (hrd _ rfl) ?_;conv=>whnf)|(refine w7 rfl rfl (by omega) ?_;conv=>whnf)|fail)
    refine ERound.mk ?_;conv=>whnf
    refine Za7 (a:=((j+1:Nat):Int)) (b:=0) rfl rfl (fun h=>by omega) (fun _=>?_);conv=>whnf
    refine Zaa rfl hnsl ?_;conv=>whnf
    refine Zb5 (a:=((j+1:Nat):Int)) (b:=(R.length:Int)) rfl rfl (fun hgt=>?_) (fun hle=>?_)
    ·conv=>whnf
     repeat' (first|(refine w13 rfl ?_;conv=>whnf)|fail)
     refine fin hx (k3 rfl hid _ (by rw [hG,List.drop_eq_nil_of_le (by omega)];rfl)) (rs:=[0,1,2,3,4,8]) ?_
     exact ⟨⟨rfl,by decide,⟨⟨rfl,rfl⟩,⟨rfl,rfl⟩,⟨rfl,rfl⟩,⟨rfl,rfl⟩,⟨rfl,rfl⟩,trivial⟩,⟨⟨rfl,rfl⟩,⟨by show (true && (true && (true && (_ && (_ && (bd _ (Zcu p) && true))))))=true;rw [Zbe _ (Za4 p)];rfl,by show _=some (AObj.row 36 [_,_,_,_,_,Zed _ (Zcu p)]);rw [Zao _ (Za4 p)];rfl⟩,⟨rfl,rfl⟩,⟨rfl,rfl⟩,⟨rfl,rfl⟩,⟨rfl,rfl⟩,trivial⟩⟩,rfl,by intro d hd;simp at hd;subst hd;first|(show 5<6;decide)|(show 5<8;decide)⟩
    ·have hxl:(([]:List (Int×List Nat))).length≤j:=hxl
     have hj:j<R.length:=by omega
     have hdR:=(Zf6 R j).trans (congrArg rcs (List.drop_eq_getElem_cons hj))
     have hro:=hn.rc _ (List.getElem_mem hj)
     rw [List.drop_eq_getElem_cons hj,show m-(j+1)=(m-(j+2))+1 by omega] at hG
     have hall:=And.intro hdR (And.intro hro hG)
     clear hdR hro hG
     revert hall
     generalize R[j]=r
     obtain ⟨sl,ba,su⟩:=r
     rintro ⟨hdR,⟨hsl,hsu⟩,hG⟩
     dsimp only at hsl hsu
     have hdR:(rcs R).drop (j*3)=[.int .u8 sl,.bool ba,.int .u32 su]++rcs (R.drop (j+1)):=hdR
     have hG:Zf5 B R (m-1) 1 ⟨[],none⟩=if Zet ⟨sl,ba,su⟩ (B (j+1))=true then none else Zf5 B (R.drop (j+1)) (m-(j+2)) (j+2) (Zec ⟨sl,ba,su⟩ (B (j+1)) ⟨([]:List (Int×List Nat)),p⟩):=hG
     rw [hBe] at hG
     have hcell:∀ (K:List AV→Prop),K [.int .u8 sl,.bool ba,.int .u32 su]→ETake 3 ([.int .u8 sl,.bool ba,.int .u32 su]++rcs (R.drop (j+1))) K:=fun K hk=>Zgc rfl hk
     have hbad:Zet ⟨sl,ba,su⟩ (b0::bt)=true→∀ s,K (Zkk 130) s:=fun h=>k2 rfl hid (by rw [hG,if_pos h])
     have hrb:Zet ⟨sl,ba,su⟩ (b0::bt)=(decide ((Zen (b0::bt):Int)≠su) || (decide (b0=78) || (ba && decide (b0≠0)))):=rfl
     have hb78:(78::bt).length=128∧∀ y ∈ 78::bt,y<256:=⟨hb1.1,fun y hy=>by
      rcases List.mem_cons.1 hy with rfl|hy
      ·decide
      ·exact hb1.2 y (by simp [hy])⟩
     have hgo:∀ x',Zet ⟨sl,ba,su⟩ (b0::bt)=false→Zec ⟨sl,ba,su⟩ (b0::bt) ⟨([]:List (Int×List Nat)),p⟩=x'→Zf5 B R (m-1) 1 ⟨[],none⟩=Zf5 B (R.drop (j+1)) (m-(j+2)) (j+2) x':=fun x' h1 h2=>by
      rw [hG,if_neg (by rw [h1];decide),h2]
     conv=>whnf
     refine Zcc (a:=((j+1:Nat):Int)) (b:=1) rfl rfl (by omega) ?_
     rw [hsub]
     conv=>whnf
     refine Zae rfl hnsl rfl hj ?_
     rw [hdR]
     conv=>whnf
     refine hcell _ ?_;conv=>whnf
     refine ESc.inl h67 ?_;conv=>whnf
     refine ESc.ov h107 (Zv6 (e:=5) (bs:=b0::bt) rfl hb1.1 hb1.2) ?_;conv=>whnf
     refine ⟨rfl,?_⟩;conv=>whnf
     refine Zas (a:=((Zen (b0::bt):Nat):Int)) (b:=su) rfl rfl (fun h1=>?_) (fun h1=>?_)
     ·conv=>whnf
      repeat' (first|(refine w13 rfl ?_;conv=>whnf)|fail)
      refine Zbz ?_;conv=>whnf
      exact hbad (by rw [hrb,decide_eq_true h1];rfl) _
     ·conv=>whnf
      refine Za0 rfl rfl (by omega) (by omega) ?_;conv=>whnf
      refine Za7 (a:=((b0:Nat):Int)) (b:=78) rfl rfl (fun h2=>?_) (fun h2=>?_)
      ·conv=>whnf
       repeat' (first|(refine w13 rfl ?_;conv=>whnf)|fail)
       refine Zbz ?_;conv=>whnf
       exact hbad (by rw [hrb,decide_eq_true (show b0=78 by omega)];simp) _
      ·cases ba
       ·have hnb:Zet ⟨sl,false,su⟩ (b0::bt)=false:=by rw [hrb,decide_eq_false (by simpa using h1),decide_eq_false (show ¬ b0=78 by omega)];rfl
        conv=>whnf
        refine Za7 (a:=sl) (b:=255) rfl rfl (fun h255=>?_) (fun h255=>?_)
        ·conv=>whnf
         repeat' (first|((first|refine w7 rfl rfl (by omega) ?_|refine w12 rfl ?_|refine ⟨rfl,?_⟩);conv=>whnf)|fail)
         refine ⟨(j+2,⟨([]:List (Int×List Nat)),some (b0::bt)⟩),⟨by show j+2≤m;omega,Zdi hx (by first|exact hb78|exact hb1),by show (([]:List (Int×List Nat))).length≤j+1;omega,fun _=>⟨rfl,hid,hgo _ hnb (by unfold Zec Zdp;rw [if_pos h255];rfl)⟩⟩,by show m-(j+2)<m-(j+1);omega,Zw2 (S:=([]:List (Int×List Nat))) (lg:=lg) (i:=j+2) (k:=j+1) (a:=a) (see:=b0::bt) (cp:=cp) (p':=p) (rs:=[0,1,2,3,4,5,6,7,8,9,10]) (n:=⟨nid,nag,nsq,nst,.fz R.length none (rcs R),R⟩) hcf' hdf rfl ?_⟩
         exact ⟨rfl,by decide,⟨⟨rfl,rfl⟩,⟨rfl,rfl⟩,⟨rfl,rfl⟩,⟨rfl,rfl⟩,⟨rfl,rfl⟩,⟨rfl,rfl⟩,trivial⟩,⟨⟨rfl,rfl⟩,⟨rfl,rfl⟩,⟨rfl,rfl⟩,⟨rfl,rfl⟩,⟨rfl,rfl⟩,⟨rfl,rfl⟩,⟨Za6 hdf,by rw [Zac hdf];rfl⟩,⟨rfl,rfl⟩,⟨rfl,rfl⟩,⟨hlb _,rfl⟩,⟨Za6 (Zad _),by rw [Zac (Zad _)];rfl⟩,trivial⟩⟩
        ·conv=>whnf
         repeat' (first|(refine Zam (q':=.i64) rfl (i64_in (by omega)) ?_;conv=>whnf)|(refine Zbb (m:=1) rfl rfl rfl rfl (by decide) (by decide) ?_;conv=>whnf)|((first|refine w7 rfl rfl (by omega) ?_|refine w12 rfl ?_|refine ⟨rfl,?_⟩);conv=>whnf)|fail)
         refine ⟨(j+2,⟨([]:List (Int×List Nat))++[(sl,b0::bt)],p⟩),⟨by show j+2≤m;omega,Zdj hx (by omega) hsl (by first|exact hb78|exact hb1),by show (([]:List (Int×List Nat))++[(sl,b0::bt)]).length≤j+1;rw [List.length_append];show _+1≤j+1;omega,fun _=>⟨rfl,hid,hgo _ hnb (by unfold Zec Zdp;rw [if_neg h255];rfl)⟩⟩,by show m-(j+2)<m-(j+1);omega,Zw3 (S:=([]:List (Int×List Nat))) (lg:=lg) (i:=j+2) (k:=j+1) (a:=a) (sl:=sl) (see:=b0::bt) (cp:=cp) (p:=p) (rs:=[0,1,2,3,4,5,6,7,8,9,14,15,10]) (n:=⟨nid,nag,nsq,nst,.fz R.length none (rcs R),R⟩) hcf' hdf rfl ?_ trivial⟩
         exact ⟨rfl,by decide,⟨⟨rfl,rfl⟩,⟨rfl,rfl⟩,⟨rfl,rfl⟩,⟨rfl,rfl⟩,⟨rfl,rfl⟩,⟨rfl,rfl⟩,trivial⟩,⟨⟨rfl,rfl⟩,⟨by show (true && (true && (true && (_ && (_ && (bd _ (Zcu p) && true))))))=true;rw [Zbe _ (Za4 p)];rfl,by show _=some (AObj.row 36 [_,_,_,_,_,Zed _ (Zcu p)]);rw [Zao _ (Za4 p)];rfl⟩,⟨rfl,rfl⟩,⟨rfl,rfl⟩,⟨rfl,rfl⟩,⟨rfl,rfl⟩,⟨Za6 hdf,by rw [Zac hdf];rfl⟩,⟨rfl,rfl⟩,⟨rfl,rfl⟩,⟨hlb _,rfl⟩,⟨by show bds _ (Zd8 _++[_])=true;rw [Zcz (Zaw _)];rfl,by show _=some (AObj.row 3 (Zbx _ (Zd8 _++[_])));rw [Zbr (Zaw _)];rfl⟩,⟨by show bds _ (List.map _ _++[_])=true;rw [Zcz (Za1 _)];rfl,by show _=some (AObj.row 32 (Zbx _ (List.map _ _++[_])));rw [Zbr (Za1 _)];rfl⟩,⟨Za6 (Zad _),by rw [Zac (Zad _)];rfl⟩,trivial⟩⟩
       ·conv=>whnf
        refine Za0 rfl rfl (by omega) (by omega) ?_;conv=>whnf
        refine Zas (a:=((b0:Nat):Int)) (b:=0) rfl rfl (fun h3=>?_) (fun h3=>?_)
        ·conv=>whnf
         repeat' (first|(refine w13 rfl ?_;conv=>whnf)|fail)
         refine Zbz ?_;conv=>whnf
         exact hbad (by rw [hrb,decide_eq_true (show b0≠0 by omega)];simp) _
        ·have hnb:Zet ⟨sl,true,su⟩ (b0::bt)=false:=by rw [hrb,decide_eq_false (by simpa using h1),decide_eq_false (show ¬ b0=78 by omega),decide_eq_false (show ¬ b0≠0 by omega)];rfl
         conv=>whnf
         refine Za0 rfl rfl (by omega) (by omega) ?_;conv=>whnf
         refine Za7 (a:=sl) (b:=255) rfl rfl (fun h255=>?_) (fun h255=>?_)
         ·conv=>whnf
          repeat' (first|((first|refine w7 rfl rfl (by omega) ?_|refine w12 rfl ?_|refine ⟨rfl,?_⟩);conv=>whnf)|fail)
          refine ⟨(j+2,⟨([]:List (Int×List Nat)),some (78::bt)⟩),⟨by show j+2≤m;omega,Zdi hx (by first|exact hb78|exact hb1),by show (([]:List (Int×List Nat))).length≤j+1;omega,fun _=>⟨rfl,hid,hgo _ hnb (by unfold Zec Zdp;rw [if_pos h255];rfl)⟩⟩,by show m-(j+2)<m-(j+1);omega,Zw2 (S:=([]:List (Int×List Nat))) (lg:=lg) (i:=j+2) (k:=j+1) (a:=a) (see:=78::bt) (cp:=cp) (p':=p) (rs:=[0,1,2,3,4,5,6,7,8,9,10]) (n:=⟨nid,nag,nsq,nst,.fz R.length none (rcs R),R⟩) hcf' hdf rfl ?_⟩
          exact ⟨rfl,by decide,⟨⟨rfl,rfl⟩,⟨rfl,rfl⟩,⟨rfl,rfl⟩,⟨rfl,rfl⟩,⟨rfl,rfl⟩,⟨rfl,rfl⟩,trivial⟩,⟨⟨rfl,rfl⟩,⟨rfl,rfl⟩,⟨rfl,rfl⟩,⟨rfl,rfl⟩,⟨rfl,rfl⟩,⟨rfl,rfl⟩,⟨Za6 hdf,by rw [Zac hdf];rfl⟩,⟨rfl,rfl⟩,⟨rfl,rfl⟩,⟨hlb _,rfl⟩,⟨Za6 (Zad _),by rw [Zac (Zad _)];rfl⟩,trivial⟩⟩
         ·conv=>whnf
          repeat' (first|(refine Zam (q':=.i64) rfl (i64_in (by omega)) ?_;conv=>whnf)|(refine Zbb (m:=1) rfl rfl rfl rfl (by decide) (by decide) ?_;conv=>whnf)|((first|refine w7 rfl rfl (by omega) ?_|refine w12 rfl ?_|refine ⟨rfl,?_⟩);conv=>whnf)|fail)
          refine ⟨(j+2,⟨([]:List (Int×List Nat))++[(sl,78::bt)],p⟩),⟨by show j+2≤m;omega,Zdj hx (by omega) hsl (by first|exact hb78|exact hb1),by show (([]:List (Int×List Nat))++[(sl,78::bt)]).length≤j+1;rw [List.length_append];show _+1≤j+1;omega,fun _=>⟨rfl,hid,hgo _ hnb (by unfold Zec Zdp;rw [if_neg h255];rfl)⟩⟩,by show m-(j+2)<m-(j+1);omega,Zw3 (S:=([]:List (Int×List Nat))) (lg:=lg) (i:=j+2) (k:=j+1) (a:=a) (sl:=sl) (see:=78::bt) (cp:=cp) (p:=p) (rs:=[0,1,2,3,4,5,6,7,8,9,14,15,10]) (n:=⟨nid,nag,nsq,nst,.fz R.length none (rcs R),R⟩) hcf' hdf rfl ?_ trivial⟩
          exact ⟨rfl,by decide,⟨⟨rfl,rfl⟩,⟨rfl,rfl⟩,⟨rfl,rfl⟩,⟨rfl,rfl⟩,⟨rfl,rfl⟩,⟨rfl,rfl⟩,trivial⟩,⟨⟨rfl,rfl⟩,⟨by show (true && (true && (true && (_ && (_ && (bd _ (Zcu p) && true))))))=true;rw [Zbe _ (Za4 p)];rfl,by show _=some (AObj.row 36 [_,_,_,_,_,Zed _ (Zcu p)]);rw [Zao _ (Za4 p)];rfl⟩,⟨rfl,rfl⟩,⟨rfl,rfl⟩,⟨rfl,rfl⟩,⟨rfl,rfl⟩,⟨Za6 hdf,by rw [Zac hdf];rfl⟩,⟨rfl,rfl⟩,⟨rfl,rfl⟩,⟨hlb _,rfl⟩,⟨by show bds _ (Zd8 _++[_])=true;rw [Zcz (Zaw _)];rfl,by show _=some (AObj.row 3 (Zbx _ (Zd8 _++[_])));rw [Zbr (Zaw _)];rfl⟩,⟨by show bds _ (List.map _ _++[_])=true;rw [Zcz (Za1 _)];rfl,by show _=some (AObj.row 32 (Zbx _ (List.map _ _++[_])));rw [Zbr (Za1 _)];rfl⟩,⟨Za6 (Zad _),by rw [Zac (Zad _)];rfl⟩,trivial⟩⟩
   ·conv=>whnf
    refine fin hx (k3 rfl hid _ (by rw [hG,show m-(j+1)=0 by omega];exact Zrw _ _ _ _)) (rs:=[0,1,2,3,4,8]) ?_
    exact ⟨⟨rfl,by decide,⟨⟨rfl,rfl⟩,⟨rfl,rfl⟩,⟨rfl,rfl⟩,⟨rfl,rfl⟩,⟨rfl,rfl⟩,trivial⟩,⟨⟨rfl,rfl⟩,⟨by show (true && (true && (true && (_ && (_ && (bd _ (Zcu p) && true))))))=true;rw [Zbe _ (Za4 p)];rfl,by show _=some (AObj.row 36 [_,_,_,_,_,Zed _ (Zcu p)]);rw [Zao _ (Za4 p)];rfl⟩,⟨rfl,rfl⟩,⟨rfl,rfl⟩,⟨rfl,rfl⟩,⟨rfl,rfl⟩,trivial⟩⟩,rfl,by intro d hd;simp at hd;subst hd;first|(show 5<6;decide)|(show 5<8;decide)⟩
  ·conv=>whnf
   refine Zab (a:=((j+1:Nat):Int)) (b:=lg) rfl rfl (fun hlt=>?_) (fun hge=>?_)
   ·have hjm:j+1<m:=by omega
    obtain ⟨cp,hrd⟩:=hBr (j+1) hjm
    have hb1:=hBb (j+1) hjm
    obtain ⟨b0,bt,hBe⟩:∃ b0 bt,B (j+1)=b0::bt:=by
     cases hq:B (j+1) with
     | nil=>rw [hq] at hb1;exact absurd hb1.1 (by decide)
     | cons x y=>exact ⟨x,y,rfl⟩
    rw [hBe] at hrd hb1
    conv=>whnf
    refine ESc.fam onF h35 ⟨lg,a,((j+1:Nat):Int)⟩ (honk (j+1) hjm) (hon (j+1) hjm) ?_;conv=>whnf
    repeat' (first|(refine ESc.ov h51 (hrd _ rfl) ?_;conv=>whnf)|(refine w7 rfl rfl (by omega) ?_;conv=>whnf)|fail)
    refine ERound.mk ?_;conv=>whnf
    refine Za7 (a:=((j+1:Nat):Int)) (b:=0) rfl rfl (fun h=>by omega) (fun _=>?_);conv=>whnf
    refine Zaa rfl hnsl ?_;conv=>whnf
    refine Zb5 (a:=((j+1:Nat):Int)) (b:=(R.length:Int)) rfl rfl (fun hgt=>?_) (fun hle=>?_)
    ·conv=>whnf
     repeat' (first|(refine w13 rfl ?_;conv=>whnf)|fail)
     refine fin hx (k3 rfl hid _ (by rw [hG,List.drop_eq_nil_of_le (by omega)];rfl)) (rs:=[0,1,2,3,4,8,10,11]) ?_
     exact ⟨⟨rfl,by decide,⟨⟨rfl,rfl⟩,⟨rfl,rfl⟩,⟨rfl,rfl⟩,⟨rfl,rfl⟩,⟨rfl,rfl⟩,trivial⟩,⟨⟨rfl,rfl⟩,⟨by show (true && (true && (true && (_ && (_ && (bd _ (Zcu p) && true))))))=true;rw [Zbe _ (Za4 p)];rfl,by show _=some (AObj.row 36 [_,_,_,_,_,Zed _ (Zcu p)]);rw [Zao _ (Za4 p)];rfl⟩,⟨rfl,rfl⟩,⟨rfl,rfl⟩,⟨rfl,rfl⟩,⟨rfl,rfl⟩,⟨Za6 (Zaw _),by rw [Zac (Zaw _)];rfl⟩,⟨Za6 (Za1 _),by rw [Zac (Za1 _)];rfl⟩,trivial⟩⟩,rfl,by intro d hd;simp at hd;subst hd;first|(show 5<6;decide)|(show 5<8;decide)⟩
    ·have hxl:((q::S)).length≤j:=hxl
     have hj:j<R.length:=by omega
     have hdR:=(Zf6 R j).trans (congrArg rcs (List.drop_eq_getElem_cons hj))
     have hro:=hn.rc _ (List.getElem_mem hj)
     rw [List.drop_eq_getElem_cons hj,show m-(j+1)=(m-(j+2))+1 by omega] at hG
     have hall:=And.intro hdR (And.intro hro hG)
     clear hdR hro hG
     revert hall
     generalize R[j]=r
     obtain ⟨sl,ba,su⟩:=r
     rintro ⟨hdR,⟨hsl,hsu⟩,hG⟩
     dsimp only at hsl hsu
     have hdR:(rcs R).drop (j*3)=[.int .u8 sl,.bool ba,.int .u32 su]++rcs (R.drop (j+1)):=hdR
     have hG:Zf5 B R (m-1) 1 ⟨[],none⟩=if Zet ⟨sl,ba,su⟩ (B (j+1))=true then none else Zf5 B (R.drop (j+1)) (m-(j+2)) (j+2) (Zec ⟨sl,ba,su⟩ (B (j+1)) ⟨(q::S),p⟩):=hG
     rw [hBe] at hG
     have hcell:∀ (K:List AV→Prop),K [.int .u8 sl,.bool ba,.int .u32 su]→ETake 3 ([.int .u8 sl,.bool ba,.int .u32 su]++rcs (R.drop (j+1))) K:=fun K hk=>Zgc rfl hk
     have hbad:Zet ⟨sl,ba,su⟩ (b0::bt)=true→∀ s,K (Zkk 130) s:=fun h=>k2 rfl hid (by rw [hG,if_pos h])
     have hrb:Zet ⟨sl,ba,su⟩ (b0::bt)=(decide ((Zen (b0::bt):Int)≠su) || (decide (b0=78) || (ba && decide (b0≠0)))):=rfl
     have hb78:(78::bt).length=128∧∀ y ∈ 78::bt,y<256:=⟨hb1.1,fun y hy=>by
      rcases List.mem_cons.1 hy with rfl|hy
      ·decide
      ·exact hb1.2 y (by simp [hy])⟩
     have hgo:∀ x',Zet ⟨sl,ba,su⟩ (b0::bt)=false→Zec ⟨sl,ba,su⟩ (b0::bt) ⟨(q::S),p⟩=x'→Zf5 B R (m-1) 1 ⟨[],none⟩=Zf5 B (R.drop (j+1)) (m-(j+2)) (j+2) x':=fun x' h1 h2=>by
      rw [hG,if_neg (by rw [h1];decide),h2]
     conv=>whnf
     refine Zcc (a:=((j+1:Nat):Int)) (b:=1) rfl rfl (by omega) ?_
     rw [hsub]
     conv=>whnf
     refine Zae rfl hnsl rfl hj ?_
     rw [hdR]
     conv=>whnf
     refine hcell _ ?_;conv=>whnf
     refine ESc.inl h67 ?_;conv=>whnf
     refine ESc.ov h107 (Zv6 (e:=5) (bs:=b0::bt) rfl hb1.1 hb1.2) ?_;conv=>whnf
     refine ⟨rfl,?_⟩;conv=>whnf
     refine Zas (a:=((Zen (b0::bt):Nat):Int)) (b:=su) rfl rfl (fun h1=>?_) (fun h1=>?_)
     ·conv=>whnf
      repeat' (first|(refine w13 rfl ?_;conv=>whnf)|fail)
      refine Zbz ?_;conv=>whnf
      exact hbad (by rw [hrb,decide_eq_true h1];rfl) _
     ·conv=>whnf
      refine Za0 rfl rfl (by omega) (by omega) ?_;conv=>whnf
      refine Za7 (a:=((b0:Nat):Int)) (b:=78) rfl rfl (fun h2=>?_) (fun h2=>?_)
      ·conv=>whnf
       repeat' (first|(refine w13 rfl ?_;conv=>whnf)|fail)
       refine Zbz ?_;conv=>whnf
       exact hbad (by rw [hrb,decide_eq_true (show b0=78 by omega)];simp) _
      ·cases ba
       ·have hnb:Zet ⟨sl,false,su⟩ (b0::bt)=false:=by rw [hrb,decide_eq_false (by simpa using h1),decide_eq_false (show ¬ b0=78 by omega)];rfl
        conv=>whnf
        refine Za7 (a:=sl) (b:=255) rfl rfl (fun h255=>?_) (fun h255=>?_)
        ·conv=>whnf
         repeat' (first|((first|refine w7 rfl rfl (by omega) ?_|refine w12 rfl ?_|refine ⟨rfl,?_⟩);conv=>whnf)|fail)
         refine ⟨(j+2,⟨(q::S),some (b0::bt)⟩),⟨by show j+2≤m;omega,Zdi hx (by first|exact hb78|exact hb1),by show ((q::S)).length≤j+1;omega,fun _=>⟨rfl,hid,hgo _ hnb (by unfold Zec Zdp;rw [if_pos h255];rfl)⟩⟩,by show m-(j+2)<m-(j+1);omega,Zw2 (S:=(q::S)) (lg:=lg) (i:=j+2) (k:=j+1) (a:=a) (see:=b0::bt) (cp:=cp) (p':=p) (rs:=[0,1,2,3,4,5,6,7,8,9,10,11,12]) (n:=⟨nid,nag,nsq,nst,.fz R.length none (rcs R),R⟩) hcf' hdf rfl ?_⟩
         exact ⟨rfl,by decide,⟨⟨rfl,rfl⟩,⟨rfl,rfl⟩,⟨rfl,rfl⟩,⟨rfl,rfl⟩,⟨rfl,rfl⟩,⟨rfl,rfl⟩,trivial⟩,⟨⟨rfl,rfl⟩,⟨rfl,rfl⟩,⟨rfl,rfl⟩,⟨rfl,rfl⟩,⟨rfl,rfl⟩,⟨rfl,rfl⟩,⟨Za6 hdf,by rw [Zac hdf];rfl⟩,⟨rfl,rfl⟩,⟨rfl,rfl⟩,⟨hlb _,rfl⟩,⟨Za6 (Zaw _),by rw [Zac (Zaw _)];rfl⟩,⟨Za6 (Za1 _),by rw [Zac (Za1 _)];rfl⟩,⟨Za6 (Zad _),by rw [Zac (Zad _)];rfl⟩,trivial⟩⟩
        ·conv=>whnf
         repeat' (first|(refine Zam (q':=.i64) rfl (i64_in (by omega)) ?_;conv=>whnf)|(refine Zb6 (m:=1) rfl rfl rfl rfl (by simp [Zd8]) rfl (by decide) (by simp at hxl;omega) ?_;conv=>whnf)|((first|refine w7 rfl rfl (by omega) ?_|refine w12 rfl ?_|refine ⟨rfl,?_⟩);conv=>whnf)|fail)
         refine ⟨(j+2,⟨(q::S)++[(sl,b0::bt)],p⟩),⟨by show j+2≤m;omega,Zdj hx (by omega) hsl (by first|exact hb78|exact hb1),by show ((q::S)++[(sl,b0::bt)]).length≤j+1;rw [List.length_append];show _+1≤j+1;omega,fun _=>⟨rfl,hid,hgo _ hnb (by unfold Zec Zdp;rw [if_neg h255];rfl)⟩⟩,by show m-(j+2)<m-(j+1);omega,Zw3 (S:=(q::S)) (lg:=lg) (i:=j+2) (k:=j+1) (a:=a) (sl:=sl) (see:=b0::bt) (cp:=cp) (p:=p) (rs:=[0,1,2,3,4,5,6,7,8,9,16,17,12]) (n:=⟨nid,nag,nsq,nst,.fz R.length none (rcs R),R⟩) hcf' hdf rfl ?_ trivial⟩
         exact ⟨rfl,by decide,⟨⟨rfl,rfl⟩,⟨rfl,rfl⟩,⟨rfl,rfl⟩,⟨rfl,rfl⟩,⟨rfl,rfl⟩,⟨rfl,rfl⟩,trivial⟩,⟨⟨rfl,rfl⟩,⟨by show (true && (true && (true && (_ && (_ && (bd _ (Zcu p) && true))))))=true;rw [Zbe _ (Za4 p)];rfl,by show _=some (AObj.row 36 [_,_,_,_,_,Zed _ (Zcu p)]);rw [Zao _ (Za4 p)];rfl⟩,⟨rfl,rfl⟩,⟨rfl,rfl⟩,⟨rfl,rfl⟩,⟨rfl,rfl⟩,⟨Za6 hdf,by rw [Zac hdf];rfl⟩,⟨rfl,rfl⟩,⟨rfl,rfl⟩,⟨hlb _,rfl⟩,⟨by show bds _ (Zd8 _++[_])=true;rw [Zcz (Zaw _)];rfl,by show _=some (AObj.row 3 (Zbx _ (Zd8 _++[_])));rw [Zbr (Zaw _)];rfl⟩,⟨by show bds _ (List.map _ _++[_])=true;rw [Zcz (Za1 _)];rfl,by show _=some (AObj.row 32 (Zbx _ (List.map _ _++[_])));rw [Zbr (Za1 _)];rfl⟩,⟨Za6 (Zad _),by rw [Zac (Zad _)];rfl⟩,trivial⟩⟩
       ·conv=>whnf
        refine Za0 rfl rfl (by omega) (by omega) ?_;conv=>whnf
        refine Zas (a:=((b0:Nat):Int)) (b:=0) rfl rfl (fun h3=>?_) (fun h3=>?_)
        ·conv=>whnf
         repeat' (first|(refine w13 rfl ?_;conv=>whnf)|fail)
         refine Zbz ?_;conv=>whnf
         exact hbad (by rw [hrb,decide_eq_true (show b0≠0 by omega)];simp) _
        ·have hnb:Zet ⟨sl,true,su⟩ (b0::bt)=false:=by rw [hrb,decide_eq_false (by simpa using h1),decide_eq_false (show ¬ b0=78 by omega),decide_eq_false (show ¬ b0≠0 by omega)];rfl
         conv=>whnf
         refine Za0 rfl rfl (by omega) (by omega) ?_;conv=>whnf
         refine Za7 (a:=sl) (b:=255) rfl rfl (fun h255=>?_) (fun h255=>?_)
         ·conv=>whnf
          repeat' (first|((first|refine w7 rfl rfl (by omega) ?_|refine w12 rfl ?_|refine ⟨rfl,?_⟩);conv=>whnf)|fail)
          refine ⟨(j+2,⟨(q::S),some (78::bt)⟩),⟨by show j+2≤m;omega,Zdi hx (by first|exact hb78|exact hb1),by show ((q::S)).length≤j+1;omega,fun _=>⟨rfl,hid,hgo _ hnb (by unfold Zec Zdp;rw [if_pos h255];rfl)⟩⟩,by show m-(j+2)<m-(j+1);omega,Zw2 (S:=(q::S)) (lg:=lg) (i:=j+2) (k:=j+1) (a:=a) (see:=78::bt) (cp:=cp) (p':=p) (rs:=[0,1,2,3,4,5,6,7,8,9,10,11,12]) (n:=⟨nid,nag,nsq,nst,.fz R.length none (rcs R),R⟩) hcf' hdf rfl ?_⟩
          exact ⟨rfl,by decide,⟨⟨rfl,rfl⟩,⟨rfl,rfl⟩,⟨rfl,rfl⟩,⟨rfl,rfl⟩,⟨rfl,rfl⟩,⟨rfl,rfl⟩,trivial⟩,⟨⟨rfl,rfl⟩,⟨rfl,rfl⟩,⟨rfl,rfl⟩,⟨rfl,rfl⟩,⟨rfl,rfl⟩,⟨rfl,rfl⟩,⟨Za6 hdf,by rw [Zac hdf];rfl⟩,⟨rfl,rfl⟩,⟨rfl,rfl⟩,⟨hlb _,rfl⟩,⟨Za6 (Zaw _),by rw [Zac (Zaw _)];rfl⟩,⟨Za6 (Za1 _),by rw [Zac (Za1 _)];rfl⟩,⟨Za6 (Zad _),by rw [Zac (Zad _)];rfl⟩,trivial⟩⟩
         ·conv=>whnf
          repeat' (first|(refine Zam (q':=.i64) rfl (i64_in (by omega)) ?_;conv=>whnf)|(refine Zb6 (m:=1) rfl rfl rfl rfl (by simp [Zd8]) rfl (by decide) (by simp at hxl;omega) ?_;conv=>whnf)|((first|refine w7 rfl rfl (by omega) ?_|refine w12 rfl ?_|refine ⟨rfl,?_⟩);conv=>whnf)|fail)
          refine ⟨(j+2,⟨(q::S)++[(sl,78::bt)],p⟩),⟨by show j+2≤m;omega,Zdj hx (by omega) hsl (by first|exact hb78|exact hb1),by show ((q::S)++[(sl,78::bt)]).length≤j+1;rw [List.length_append];show _+1≤j+1;omega,fun _=>⟨rfl,hid,hgo _ hnb (by unfold Zec Zdp;rw [if_neg h255];rfl)⟩⟩,by show m-(j+2)<m-(j+1);omega,Zw3 (S:=(q::S)) (lg:=lg) (i:=j+2) (k:=j+1) (a:=a) (sl:=sl) (see:=78::bt) (cp:=cp) (p:=p) (rs:=[0,1,2,3,4,5,6,7,8,9,16,17,12]) (n:=⟨nid,nag,nsq,nst,.fz R.length none (rcs R),R⟩) hcf' hdf rfl ?_ trivial⟩
          exact ⟨rfl,by decide,⟨⟨rfl,rfl⟩,⟨rfl,rfl⟩,⟨rfl,rfl⟩,⟨rfl,rfl⟩,⟨rfl,rfl⟩,⟨rfl,rfl⟩,trivial⟩,⟨⟨rfl,rfl⟩,⟨by show (true && (true && (true && (_ && (_ && (bd _ (Zcu p) && true))))))=true;rw [Zbe _ (Za4 p)];rfl,by show _=some (AObj.row 36 [_,_,_,_,_,Zed _ (Zcu p)]);rw [Zao _ (Za4 p)];rfl⟩,⟨rfl,rfl⟩,⟨rfl,rfl⟩,⟨rfl,rfl⟩,⟨rfl,rfl⟩,⟨Za6 hdf,by rw [Zac hdf];rfl⟩,⟨rfl,rfl⟩,⟨rfl,rfl⟩,⟨hlb _,rfl⟩,⟨by show bds _ (Zd8 _++[_])=true;rw [Zcz (Zaw _)];rfl,by show _=some (AObj.row 3 (Zbx _ (Zd8 _++[_])));rw [Zbr (Zaw _)];rfl⟩,⟨by show bds _ (List.map _ _++[_])=true;rw [Zcz (Za1 _)];rfl,by show _=some (AObj.row 32 (Zbx _ (List.map _ _++[_])));rw [Zbr (Za1 _)];rfl⟩,⟨Za6 (Zad _),by rw [Zac (Zad _)];rfl⟩,trivial⟩⟩
   ·conv=>whnf
    refine fin hx (k3 rfl hid _ (by rw [hG,show m-(j+1)=0 by omega];exact Zrw _ _ _ _)) (rs:=[0,1,2,3,4,8,10,11]) ?_
    exact ⟨⟨rfl,by decide,⟨⟨rfl,rfl⟩,⟨rfl,rfl⟩,⟨rfl,rfl⟩,⟨rfl,rfl⟩,⟨rfl,rfl⟩,trivial⟩,⟨⟨rfl,rfl⟩,⟨by show (true && (true && (true && (_ && (_ && (bd _ (Zcu p) && true))))))=true;rw [Zbe _ (Za4 p)];rfl,by show _=some (AObj.row 36 [_,_,_,_,_,Zed _ (Zcu p)]);rw [Zao _ (Za4 p)];rfl⟩,⟨rfl,rfl⟩,⟨rfl,rfl⟩,⟨rfl,rfl⟩,⟨rfl,rfl⟩,⟨Za6 (Zaw _),by rw [Zac (Zaw _)];rfl⟩,⟨Za6 (Za1 _),by rw [Zac (Za1 _)];rfl⟩,trivial⟩⟩,rfl,by intro d hd;simp at hd;subst hd;first|(show 5<6;decide)|(show 5<8;decide)⟩
end Go.AM
set_option maxRecDepth 100000
namespace Go.AM
attribute [local irreducible] W
open X
section
variable {t:AT}{s:St}{k:AV→St→Prop}{x y:AO}
theorem Ztd (hx:ev x t=.some .nilp) (hy:ev y t=.some .nilp) (hk:k (.bool false) s):EPrim (.eqb 1 true x y) t s k:=by
 refine EPrim.mk (v:=.bool false) (s':=s) (fun e rec=>?_) hk
 show wth x t _=_;unfold wth;rw [hx]
 show wth y t _=_;unfold wth;rw [hy];rfl
theorem Ztc {l:List AV}(hx:ev x t=.some (.fp l)) (hy:ev y t=.some .nilp) (hk:k (.bool true) s):EPrim (.eqb 1 true x y) t s k:=by
 refine EPrim.mk (v:=.bool true) (s':=s) (fun e rec=>?_) hk
 show wth x t _=_;unfold wth;rw [hx]
 show wth y t _=_;unfold wth;rw [hy];rfl
end
theorem ask0 {x:CDA}(h:Zib x=0):x.c.may∧Zhp x.d=true∧(x.d.us.length:Int)=x.c.log+1∧(0≤x.a∧x.a<x.c.log)∧x.d.dead=false:=by
 unfold Zib at h
 split at h
 ·split at h
  ·split at h
   ·split at h
    ·cases h
    ·rename_i h1 h2 h3 h4
     exact ⟨h1,h2.1,h2.2,h3,by simpa using h4⟩
   ·cases h
  ·cases h
 ·cases h
theorem Zsb {a:Int}:∀ {L:List WR}{b:List Nat},Ze8 a L=some b→∃ w ∈ L,w.b=b
 | [],_,h=>by cases h
 | w::L,b,h=>by
  unfold Ze8 at h
  split at h
  ·exact ⟨w,by simp,Option.some.inj h⟩
  ·obtain ⟨v,hv,e⟩:=Zsb h;exact ⟨v,by simp [hv],e⟩
theorem Zu0 {d:DK}(hd:d.ok) (hk:Zhp d=true) {p:Int}(hp:0≤p∧p<d.us.length):((Zrc d p).length=0∨(Zrc d p).length=128)∧∀ y ∈ Zrc d p,y<256:=by
 obtain ⟨h1,h2,h3,h4,h5⟩:=Zoa hd.a hk
 unfold Zrc Zzm
 cases hq:Ze8 p d.ws.reverse with
 | some b=>
  obtain ⟨w,hw,rfl⟩:=Zsb hq
  have hw:=List.mem_reverse.1 hw
  exact ⟨h3 w hw,(hd.a.ws w hw).b.2⟩
 | none=>
  have hl:p.toNat<d.us.length:=by omega
  obtain ⟨b,hb,hbu⟩:=hd.a.bs.get (List.getElem?_eq_getElem hl)
  show ((d.bs.getD p.toNat []).length=0∨(d.bs.getD p.toNat []).length=128)∧∀ y ∈ d.bs.getD p.toNat [],y<256
  rw [List.getD_eq_getElem?_getD,hb]
  exact ⟨h2 b (List.mem_of_getElem? hb),hbu.2⟩
theorem drdE_0 {d:DK}(hk:Zhp d=true) (hdd:d.dead=false) {p:Int}(hp:0≤p∧p<d.us.length):Yhe d p=0:=by
 unfold Yhe
 rw [if_pos hk,if_pos hp,hdd];rfl
theorem Zgm {x:CDA}(hx:x.ok) (h:Zib x=0) (i:Nat):(rbk x i).length=128∧∀ y ∈ rbk x i,y<256:=by
 obtain ⟨h1,h2,h3,h4,h5⟩:=ask0 h
 have g0:0≤(x.a+(i:Int)) % x.c.log:=Int.emod_nonneg _ (by omega)
 have g1:(x.a+(i:Int)) % x.c.log<x.c.log:=Int.emod_lt_of_pos _ (by omega)
 obtain ⟨b1,b2⟩:=Zu0 hx.d h2 (p:=1+(x.a+(i:Int)) % x.c.log) (by omega)
 exact ⟨Zcn b1,Zf9 b2⟩
theorem rb_of {x:CDA}(hx:x.ok) (h:Zib x=0):RB x.d x.a x.c.log x.c.log.toNat (rbk x):=by
 obtain ⟨h1,h2,h3,h4,h5⟩:=ask0 h
 have hm:=h1
 unfold Cfg.may at hm
 have hl:=Zdc h1
 have g0:∀ i:Nat,0≤(x.a+(i:Int)) % x.c.log:=fun i=>Int.emod_nonneg _ (by omega)
 have g1:∀ i:Nat,(x.a+(i:Int)) % x.c.log<x.c.log:=fun i=>Int.emod_lt_of_pos _ (by omega)
 have hok:∀ i:Nat,DKA.ok ⟨x.d,1+(x.a+(i:Int)) % x.c.log⟩:=fun i=>⟨hx.d,by have:=g0 i;have:=g1 i;show Zc4 (1+(x.a+(i:Int)) % x.c.log);unfold Zc4;omega⟩
 have he:∀ i:Nat,DKA.e ⟨x.d,1+(x.a+(i:Int)) % x.c.log⟩=0:=fun i=>drdE_0 (p:=1+(x.a+(i:Int)) % x.c.log) h2 h5 (by have:=g0 i;have:=g1 i;omega)
 refine ⟨by omega,by omega,h4,fun i _=>Zgm hx h i,fun s hz=>?_,fun i hi=>⟨cpD (DKA.b ⟨x.d,1+(x.a+(i:Int)) % x.c.log⟩),fun s hz=>Yhd (hok i) hz (he i)⟩⟩
 have:=drdV_fz (hok 0) hz
 unfold Zkj at this
 rw [if_pos (he 0)] at this
 exact this
def ntB (b:List Nat):Nt:=⟨(Zak b).id,(Zak b).age,(Zak b).seq,(Zak b).stripe,.fz (Zak b).recs.length none (rcs (Zak b).recs),(Zak b).recs⟩
theorem Znm (b:List Nat):(Zak b).recs.length=Zc3 b:=by show ((List.range _).map _).length=_;simp
theorem Zph {b:List Nat}(hb:∀ y ∈ b,y<256):(ntB b).ok:=by
 have n4:∀ a,num b a 4<4294967296:=fun a=>Zfs hb 4
 have n1:∀ a,num b a 1<256:=fun a=>Zfs hb 1
 have hcnt:Zc3 b≤17:=Nat.min_le_right _ _
 refine ⟨⟨Int.natCast_nonneg _,Int.ofNat_lt.2 (n4 1)⟩,⟨Int.natCast_nonneg _,Int.ofNat_lt.2 (n4 5)⟩,⟨Int.natCast_nonneg _,Int.ofNat_lt.2 (n4 9)⟩,?_,.inr (.inr ⟨none,rfl,Zfo _⟩),?_,by show (Zak b).recs.length<_;rw [Znm];omega⟩
 ·have:=n1 13
  show Zc4 ((num b 13 1:Nat):Int)
  unfold Zc4;omega
 ·intro r hr
  obtain ⟨i,_,rfl⟩:=List.mem_map.1 (show r ∈ (List.range (Zc3 b)).map (Zt1 b) from hr)
  exact ⟨⟨Int.natCast_nonneg _,Int.ofNat_lt.2 (n1 _)⟩,⟨Int.natCast_nonneg _,Int.ofNat_lt.2 (n4 _)⟩⟩
theorem Ybo {b:List Nat}(hb:b.length=128):Zht ⟨fzB b,b⟩=if Zdm b=true then .tup [.agg (ntC (ntB b) (ntB b).v),.int .i64 0] else .tup [.agg Ze3,.int .i64 90]:=by
 have hp:pad b=b:=Zc0 hb
 unfold Zht
 dsimp only
 rw [hp,← Znm]
 rfl
theorem Zwl (x:CDA):AM.hf (Zlf x)=true:=by
 unfold Zlf
 split
 ·split
  ·split
   ·rfl
   ·unfold Zqx
    split
    ·show (((true && (true && (true && (AM.hf (Zvw _) && (AM.hf (Zj2 _) && (AM.hf (Zcu _) && true)))))):Bool) && (true && (true && true)))=true
     rw [Zqp,Zft,Za4];rfl
    ·rfl
  ·rfl
 ·rfl
def drF:Fam CDA:=⟨CDA.ok,CDA.args,Zlf,fun x y hx hy h=>by rw [CDA.inja hx hy h]⟩
theorem drF_ok {P:Program}{e:Env}{fn fn':Func}(hE:EnvOk P e) (hm:P.follows .mixedOrders=true) (h65:Con e 65 askF.O) (h50:Con e 50 dchkF.O) (h35:Con e 35 onF.O) (h51:Con e 51 Zrb) (h52:Con e 52 ndF.O) (h66:Inl e 66 Yi0 [.tmp 6]) (h67:Inl e 67 Zsw [.tmp 2]) (h107:Con e 107 Zjh)
 (hf':P.funcs[106]?=some fn') (hc':Zaj P fn'=some a106) (hb':Zaf P 106) (hf:P.funcs[23]?=some fn) (hc:Zaj P fn=some a23) (hb:Zaf P 23):OvOk P 23 drF.O:=by
 refine Zal hb fun x hx=>?_
 refine ⟨CDA.hfa hx,Zwl x,C.of_W hf hc ?_⟩
 have hfin:∀ u s,u=Zlf x→Frz s u (drF.out x):=fun u s h=>by rw [h];exact .plain _ (Zwl x)
 obtain ⟨O,hO⟩:∃ O,O=drF.out x:=⟨_,rfl⟩
 rw [← hO] at hfin ⊢
 by_cases he:Zib x=0
 ·have hres:=dr_ring (K:=fun v s'=>Frz s' v O) (fn:=fn') hE hm h50 h35 h51 h52 h66 h67 h107 hf' hc' hb' hx.c hx.d (rb_of hx he) (Zph (Zgm hx he 0).2) rfl (by rw [show (ntB (rbk x 0)).recs.length=Zc3 (rbk x 0) from Znm _];exact Nat.min_le_right _ _) (Zdm (rbk x 0)) (Ybo (Zgm hx he 0).1)
   (fun h s=>hfin _ s (by unfold Zlf;rw [if_pos he,if_neg (by rw [h];simp)]))
   (fun h h1 s=>hfin _ s (by unfold Zlf;rw [if_pos he,if_neg (fun h2=>h1 h2.2)]))
   (fun h h1 h2 s=>hfin _ s (by unfold Zlf;rw [if_pos he,if_pos ⟨h,h1⟩];exact (by rw [show Zf5 (rbk x) (Zak (rbk x 0)).recs (x.c.log.toNat-1) 1 ⟨[],none⟩=none from h2])))
   (fun h h1 y h2 s=>hfin _ s (by unfold Zlf;rw [if_pos he,if_pos ⟨h,h1⟩];exact (by rw [show Zf5 (rbk x) (Zak (rbk x 0)).recs (x.c.log.toNat-1) 1 ⟨[],none⟩=some y from h2];rfl)))
  have hA:askF.out x=.nilp:=by show (if Zib x=0 then _ else _)=_;rw [if_pos he]
  have hdf:=Zp0 hx.d.a.wl hx.d.a.bl (d:=x.d.dead)
  obtain ⟨c,d,a⟩:=x
  obtain ⟨id,mb,ch,rw',lg,hdd⟩:=c
  obtain ⟨bv,us,bs,wv,ws,dd⟩:=d
  dsimp only at hdf
  show W P 0 none Zpr (Zax [.agg [.int .u32 id,.int .i64 mb,.int .i64 ch,.int .i64 rw',.int .i64 lg,.int .i64 hdd],.agg [bv,wv,.bool dd],.int .i64 a] 0 .lf) St0 [] _
  refine W.seqV hE hm ?_;conv=>whnf
  refine W.seqV hE hm ?_;conv=>whnf
  refine ESc.fam askF h65 ⟨⟨id,mb,ch,rw',lg,hdd⟩,⟨bv,us,bs,wv,ws,dd⟩,a⟩ hx (u:=.nilp) hA ?_;conv=>whnf
  repeat' (first|(refine Ztd rfl rfl ?_;conv=>whnf)|fail)
  refine W.seqV hE hm ?_;conv=>whnf
  refine W.tells (Abs.tells (tl:=[(3,.ptr 0 0),(4,.ptr 1 0),(2,.int .i64 a),(6,.ptr 2 0),(7,.ptr 3 0),(8,.ptr 4 0),(10,.ptr 5 0)]) (os:=[.row 24 [.int .u32 id,.int .i64 mb,.int .i64 ch,.int .i64 rw',.int .i64 lg,.int .i64 hdd],.row 28 [bv,wv,.bool dd],.row 36 zFc,.row 3 [.int .i64 0],.row 37 [.int .i64 0],.row 101 Ze3]) (rs:=[0,1,2,3,4,5]) ⟨by decide,⟨⟨rfl,rfl⟩,⟨rfl,rfl⟩,⟨rfl,rfl⟩,⟨rfl,rfl⟩,⟨rfl,rfl⟩,⟨rfl,rfl⟩,⟨rfl,rfl⟩,trivial⟩,⟨⟨rfl,rfl⟩,⟨Za6 hdf,by rw [Zac hdf];rfl⟩,⟨rfl,rfl⟩,⟨rfl,rfl⟩,⟨rfl,rfl⟩,⟨rfl,rfl⟩,trivial⟩⟩) (W.seqV hE hm hres)
 ·have hO2:=hfin (Zkk (Zib x))
  have hA:askF.out x=.fp [.int .i64 (Zib x)]:=by show (if Zib x=0 then _ else _)=_;rw [if_neg he]
  have hD:Zkk (Zib x)=Zlf x:=by unfold Zlf;rw [if_neg he]
  obtain ⟨E,hE'⟩:∃ E,E=Zib x:=⟨_,rfl⟩
  rw [← hE'] at hA hD hO2 he
  obtain ⟨c,d,a⟩:=x
  obtain ⟨id,mb,ch,rw',lg,hdd⟩:=c
  obtain ⟨bv,us,bs,wv,ws,dd⟩:=d
  show W P 0 none Zpr (Zax [.agg [.int .u32 id,.int .i64 mb,.int .i64 ch,.int .i64 rw',.int .i64 lg,.int .i64 hdd],.agg [bv,wv,.bool dd],.int .i64 a] 0 .lf) St0 [] _
  refine W.seqV hE hm ?_;conv=>whnf
  refine W.seqV hE hm ?_;conv=>whnf
  refine ESc.fam askF h65 ⟨⟨id,mb,ch,rw',lg,hdd⟩,⟨bv,us,bs,wv,ws,dd⟩,a⟩ hx (u:=.fp [.int .i64 E]) hA ?_;conv=>whnf
  repeat' (first|(refine Ztc rfl rfl ?_;conv=>whnf)|(refine EHead.mk rfl ?_;conv=>whnf)|(refine ⟨rfl,?_⟩;conv=>whnf)|fail)
  refine ⟨.inr rfl,_,_,rfl,rfl,?_⟩
  exact hO2 _ hD
end Go.AM
set_option maxRecDepth 100000
namespace Go.AM
attribute [local irreducible] W
open X
def Yh9 (x:RdS):List (Int×List Nat):=x.S++(match x.p with|none=>[]|some b=>[(255,b)])
theorem Zo8 {b:List Nat}(h:b.length=128):Zrf b=b:=by
 unfold Zrf;rw [h];exact List.append_nil b
theorem see_of {r:Rc}{b:List Nat}(hb:b.length=128∧∀ y ∈ b,y<256) (h:Zet r b=false):recN (r.slot,Zdp r b)=r∧Zgk (Zdp r b)=b∧(Zdp r b).length=128∧∀ y ∈ Zdp r b,y<256:=by
 obtain ⟨sl,ba,su⟩:=r
 unfold Zet at h
 simp only [Bool.or_eq_false_iff,decide_eq_false_iff_not,ne_eq,Decidable.not_not] at h
 obtain ⟨h1,h2,h3⟩:=h
 obtain ⟨hb1,hb2⟩:=hb
 cases b with
 | nil=>cases hb1
 | cons b0 bt=>
  have h2:b0≠78:=h2
  cases ba
  ·have hw:=Zo8 hb1
   have hq:Zs6 (b0::bt)=false:=by unfold Zs6;rw [hw];simp [h2]
   have hs:Zgk (b0::bt)=b0::bt:=by unfold Zgk;rw [hq,hw];rfl
   refine ⟨?_,hs,hb1,hb2⟩
   show (⟨sl,Zs6 (b0::bt),(Zen (Zgk (b0::bt)):Int)⟩:Rc)=_
   rw [hq,hs,h1]
  ·have h3:b0=0:=by
    have h3:(true && decide (b0≠0))=false:=h3
    simpa using h3
   subst h3
   have hl:(78::bt).length=128:=hb1
   have hw:=Zo8 hl
   have hq:Zs6 (78::bt)=true:=by unfold Zs6;rw [hw];rfl
   have hs:Zgk (78::bt)=0::bt:=by unfold Zgk;rw [hq,hw];rfl
   refine ⟨?_,hs,hl,fun y hy=>?_⟩
   ·show (⟨sl,Zs6 (78::bt),(Zen (Zgk (78::bt)):Int)⟩:Rc)=_
    rw [hq,hs,h1]
   ·rcases List.mem_cons.1 (show y ∈ 78::bt from hy) with rfl|hy
    ·decide
    ·exact hb2 y (by simp [hy])
theorem Zqc {B:Nat→List Nat}(N:Nat):∀ (R:List Rc) (n i j:Nat) (la:Int) (x y:RdS),(∀ k,k<i+n→(B k).length=128∧∀ z ∈ B k,z<256)→Zf5 B R n i x=some y→x.p=none→Yek N j la R=true→N=j+R.length→x.ok→x.S.length+R.length≤17→(∀ r ∈ R,0≤r.slot∧r.slot<256)→
 (∃ L:List (Int×List Nat),Yh9 y=x.S++L∧L.map recN=R.take n∧L.map (fun p=>Zgk p.2)=(List.range (min n R.length)).map (fun t=>B (i+t)))∧y.ok∧(n<R.length→y.S.length=x.S.length+n)
 | [],n,i,j,la,x,y,hB,h,hp,_,_,hx,_,_=>by
  have h:some x=some y:=by cases n <;> exact h
  cases h
  refine ⟨⟨[],by unfold Yh9;rw [hp],by simp,by simp⟩,hx,fun h=>absurd h (Nat.not_lt_zero _)⟩
 | r::R,0,i,j,la,x,y,hB,h,hp,_,_,hx,_,_=>by
  have h:some x=some y:=h
  cases h
  exact ⟨⟨[],by unfold Yh9;rw [hp],rfl,rfl⟩,hx,fun _=>rfl⟩
 | r::R,n+1,i,j,la,x,y,hB,h,hp,hr,hN,hx,hl,hs=>by
  have h:(if Zet r (B i)=true then none else Zf5 B R n (i+1) (Zec r (B i) x))=some y:=h
  have hr:(decide (la<r.slot∧((r.slot=255∧0<j∧j+1=N)∨r.slot≤14)) && Yek N (j+1) r.slot R)=true:=hr
  rw [Bool.and_eq_true,decide_eq_true_eq] at hr
  obtain ⟨⟨hla,hsl⟩,hr⟩:=hr
  by_cases hb:Zet r (B i)=true
  ·rw [if_pos hb] at h;cases h
  rw [if_neg hb] at h
  have hBi:=hB i (by omega)
  obtain ⟨e1,e2,e3,e4⟩:=see_of hBi (by simpa using hb)
  have hr0:=hs r (by simp)
  obtain ⟨S,p⟩:=x
  have hp:p=none:=hp
  subst hp
  rw [List.length_cons] at hN hl
  by_cases h255:r.slot=255
  ·have hR:R=[]:=List.length_eq_zero_iff.1 (by omega)
   subst hR
   have hput:Zec r (B i) ⟨S,none⟩=⟨S,some (Zdp r (B i))⟩:=by unfold Zec;rw [if_pos h255]
   rw [hput] at h
   have h:some (⟨S,some (Zdp r (B i))⟩:RdS)=some y:=by cases n <;> exact h
   cases h
   refine ⟨⟨[(r.slot,Zdp r (B i))],by rw [h255];rfl,?_,?_⟩,Zdi hx ⟨e3,e4⟩,fun h=>?_⟩
   ·show [recN (r.slot,Zdp r (B i))]=_
    rw [e1,List.take_succ_cons,List.take_nil]
   ·show [Zgk (Zdp r (B i))]=_
    rw [e2,show min (n+1) [r].length=1 by simp]
    rfl
   ·simp at h
  ·have hput:Zec r (B i) ⟨S,none⟩=⟨S++[(r.slot,Zdp r (B i))],none⟩:=by unfold Zec;rw [if_neg h255]
   rw [hput] at h
   have hx':RdS.ok ⟨S++[(r.slot,Zdp r (B i))],none⟩:=Zdj hx (by have:S.length+(R.length+1)≤17:=hl;omega) hr0 ⟨e3,e4⟩
   have hl:S.length+(R.length+1)≤17:=hl
   obtain ⟨⟨L,g1,g2,g3⟩,g4,g5⟩:=Zqc N R n (i+1) (j+1) r.slot ⟨S++[(r.slot,Zdp r (B i))],none⟩ y (fun k hk=>hB k (by omega)) h rfl hr (by omega) hx' (by show (S++[_]).length+_≤17;rw [List.length_append];show S.length+1+R.length≤17;omega) (fun q hq=>hs q (by simp [hq]))
   refine ⟨⟨(r.slot,Zdp r (B i))::L,?_,?_,?_⟩,g4,fun h=>?_⟩
   ·rw [g1];show (S++[_])++L=S++_;rw [List.append_assoc];rfl
   ·rw [List.map_cons,g2,e1,List.take_succ_cons]
   ·rw [List.map_cons,g3]
    show Zgk (Zdp r (B i))::_=_
    rw [e2,List.length_cons,show min (n+1) (R.length+1)=min n R.length+1 by omega,List.range_succ_eq_map,List.map_cons,List.map_map]
    congr 1
    apply List.map_congr_left
    intro t _
    show B (i+1+t)=B (i+(t+1))
    congr 1;omega
   ·rw [List.length_cons] at h
    rw [g5 (by omega)]
    show (S++[_]).length+n=S.length+(n+1)
    rw [List.length_append]
    show S.length+1+n=_
    omega
theorem Zve:∀ (S:List (Int×List Nat)),(S.map Prod.fst).zip (S.map Prod.snd)=S
 | []=>rfl
 | p::S=>by rw [List.map_cons,List.map_cons,List.zip_cons_cons,Zve S]
theorem Zv4 {x:RdS}(hx:x.ok) (st:Int):(Zhr st x).prs=Yh9 x:=by
 obtain ⟨S,p⟩:=x
 show (S.map Prod.fst).zip (S.map Prod.snd)++(if (p.getD []).length=0 then [] else [(255,p.getD [])])=_
 rw [Zve]
 cases p with
 | none=>rfl
 | some b=>
  have:=(hx.p b rfl).1
  rw [if_neg (by show ¬ b.length=0;omega)];rfl
structure DRG (x:CDA) (y:RdS):Prop where
 ok:y.ok
 n:(Zak (rbk x 0)).recs.length+1≤x.c.log.toNat
 note:BD.note ⟨x.c,(Zak (rbk x 0)).age,(Zak (rbk x 0)).seq,Zhr (Zak (rbk x 0)).stripe y⟩=Zak (rbk x 0)
 nb:Zcd (Zak (rbk x 0))=true
 l:∀ (i:Nat),i<(Zak (rbk x 0)).recs.length+1→∃ c,(Zrd (Zbt (Zak (rbk x 0)))::((Zhr (Zak (rbk x 0)).stripe y).prs).map Zz4)[i]?=some (.fz 128 c (bys (rbk x i)))
theorem Yix {x:CDA}(hx:x.ok) (he:Zib x=0) (hg:Zdm (rbk x 0)=true) (hid:(Zak (rbk x 0)).id=x.c.id) {y:RdS}(hy:Zf5 (rbk x) (Zak (rbk x 0)).recs (x.c.log.toNat-1) 1 ⟨[],none⟩=some y) (hG:CD.good ⟨x.c,(Zhr (Zak (rbk x 0)).stripe y).d⟩):DRG x y:=by
 obtain ⟨hM,_,_,ha,_⟩:=ask0 he
 have hp:pad (rbk x 0)=rbk x 0:=Zc0 (Zgm hx he 0).1
 unfold Zdm at hg
 rw [Bool.and_eq_true,decide_eq_true_eq,hp] at hg
 obtain ⟨hnb,hbk⟩:=hg
 have hnb':=hnb
 unfold Zcd at hnb'
 rw [Bool.and_eq_true] at hnb'
 obtain ⟨hh,hrb⟩:=hnb'
 unfold Zjl at hh
 have hh:=of_decide_eq_true hh
 have hso:∀ r ∈ (Zak (rbk x 0)).recs,0≤r.slot∧r.slot<256:=fun r hr=>((Zph (Zgm hx he 0).2).rc r hr).1
 obtain ⟨⟨L,g1,g2,g3⟩,g4,g5⟩:=Zqc (Zak (rbk x 0)).recs.length (Zak (rbk x 0)).recs _ 1 0 (-1) ⟨[],none⟩ y (fun k _=>Zgm hx he k) hy rfl hrb (by omega) Znh (by show 0+_≤17;omega) hso
 have g1:Yh9 y=L:=g1
 have hM':=hM
 unfold Cfg.may at hM'
 have hlen:(Zak (rbk x 0)).recs.length≤x.c.log.toNat-1:=by
  rcases Nat.lt_or_ge (x.c.log.toNat-1) (Zak (rbk x 0)).recs.length with hq|hq
  ·have h5:=g5 hq
   have h5:y.S.length=0+(x.c.log.toNat-1):=h5
   have hD:=hG.2
   unfold Zfk at hD
   simp only [Bool.and_eq_true,decide_eq_true_eq,Bool.not_eq_true'] at hD
   have hsl:Zcb (x.c.members-2) (y.S.map Prod.fst)=true:=hD.1.1.2
   have h6:=Zm3 hsl
   rw [List.length_map] at h6
   have h7:(x.c.members+1)*(x.c.heads+1)≥(x.c.members+1)*3:=Int.mul_le_mul_of_nonneg_left (by omega) (by omega)
   omega
  ·exact hq
 rw [List.take_of_length_le hlen] at g2
 rw [Nat.min_eq_right hlen] at g3
 have hprs:(Zhr (Zak (rbk x 0)).stripe y).prs=L:=(Zv4 g4 _).trans g1
 refine ⟨g4,by omega,?_,hnb,fun i hi=>?_⟩
 ·show (⟨x.c.id,(Zak (rbk x 0)).age,(Zak (rbk x 0)).seq,(Zak (rbk x 0)).stripe,.nils,((Zhr (Zak (rbk x 0)).stripe y).prs).map recN⟩:Nt)=_
  rw [hprs,g2,← hid];rfl
 ·rw [hprs]
  cases i with
  | zero=>exact ⟨some 128,by rw [hbk];rfl⟩
  | succ i=>
   refine ⟨none,?_⟩
   show (L.map Zz4)[i]?=_
   have h1:(L.map Zz4)[i]?=((L.map fun p=>Zgk p.2).map fzB)[i]?:=by rw [List.map_map];rfl
   rw [h1,g3,List.getElem?_map,List.getElem?_map,List.getElem?_range (by omega)]
   show some (fzB (rbk x (1+i)))=some (fzB (rbk x (i+1)))
   rw [Nat.add_comm]
end Go.AM
set_option maxRecDepth 100000
namespace Go.AM
attribute [local irreducible] W
open X
structure Fd where
 n:Nt
 y:RdS
def Fd.c (f:Fd):List AV:=fC f.n.age f.n.seq f.n.stripe f.y
def Fd.m (f:Fd):Nat:=f.n.recs.length+1
def Zf0 (L:List Fd):List AV:=L.flatMap Fd.c
theorem Zgq (f:Fd) (L:List Fd):Zf0 (f::L)=f.c++Zf0 L:=rfl
theorem Zit (L:List Fd) (f:Fd):Zf0 (L++[f])=Zf0 L++f.c:=by
 unfold Zf0;rw [List.flatMap_append];simp
theorem Zfv:∀ (L:List Fd),(Zf0 L).length=L.length*6
 | []=>rfl
 | f::L=>by rw [Zgq,List.length_append,Zfv L,List.length_cons];show 6+_=_;omega
theorem Zjj:∀ (L:List Fd),hfs (Zf0 L)=true
 | []=>rfl
 | f::L=>by
  rw [Zgq]
  have h1:hfs f.c=true:=Yin _ _ _ _
  have h2:=Zjj L
  revert h1 h2
  generalize f.c=a
  generalize Zf0 L=b
  induction a with
  | nil=>intro _ h;exact h
  | cons x a ih=>
   intro h1 h2
   simp only [hfs,Bool.and_eq_true] at h1
   show (AM.hf x && hfs (a++b))=true
   rw [h1.1,ih h1.2 h2];rfl
def rdF (x:CDA):Option Fd:=
 if Zib x=0 then
  (if Zdm (rbk x 0)=true∧(Zak (rbk x 0)).id=x.c.id then
    (match Zf5 (rbk x) (Zak (rbk x 0)).recs (x.c.log.toNat-1) 1 ⟨[],none⟩ with
      | none=>none
      | some y=>if CD.good ⟨x.c,(Zhr (Zak (rbk x 0)).stripe y).d⟩ then some ⟨Zak (rbk x 0),y⟩ else none)
  else none)
 else none
def errF (x:CDA):Int:=if Zib x=0 then 130 else Zib x
theorem errF_ne (x:CDA):errF x≠0:=by unfold errF;split <;> simp [*]
theorem drOut_F (x:CDA):Zlf x=match rdF x with
 | some f=>.tup [.agg f.c,.int .i64 (1+(f.n.recs.length:Int)),.int .i64 0]
 | none=>Zkk (errF x):=by
 unfold Zlf rdF errF
 by_cases h1:Zib x=0
 ·rw [if_pos h1,if_pos h1,if_pos h1]
  by_cases h2:Zdm (rbk x 0)=true∧(Zak (rbk x 0)).id=x.c.id
  ·rw [if_pos h2,if_pos h2]
   cases h3:Zf5 (rbk x) (Zak (rbk x 0)).recs (x.c.log.toNat-1) 1 ⟨[],none⟩ with
   | none=>rfl
   | some y=>
    show Zqx _ _ _=match (if _ then some _ else none:Option Fd) with|some f=>_|none=>_
    unfold Zqx
    by_cases h4:CD.good ⟨x.c,(Zhr (Zak (rbk x 0)).stripe y).d⟩
    ·rw [if_pos h4,if_pos h4];rfl
    ·rw [if_neg h4,if_neg h4]
  ·rw [if_neg h2,if_neg h2]
 ·rw [if_neg h1,if_neg h1,if_neg h1]
theorem rd_call {e:Env}(h23:Con e 23 drF.O) {x:CDA}(hx:x.ok) (K:AV→St→Prop) (s:St) (k1:rdF x=none→K (Zkk (errF x)) s)
 (k2:∀ f,rdF x=some f→K (.tup [.agg f.c,.int .i64 (1+(f.n.recs.length:Int)),.int .i64 0]) s):ESc e 23 x.args s K:=by
 refine ESc.fam drF h23 x hx rfl ?_
 show K (Zlf x) s
 rw [drOut_F]
 cases h:rdF x with
 | none=>exact k1 h
 | some f=>exact k2 f h
structure FdG (x:CDA) (f:Fd):Prop where
 ask:Zib x=0
 good:Zdm (rbk x 0)=true
 id:(Zak (rbk x 0)).id=x.c.id
 n:f.n=Zak (rbk x 0)
 go:Zf5 (rbk x) f.n.recs (x.c.log.toNat-1) 1 ⟨[],none⟩=some f.y
 cd:CD.good ⟨x.c,(Zhr f.n.stripe f.y).d⟩
theorem Zik {x:CDA}{f:Fd}(h:rdF x=some f):FdG x f:=by
 unfold rdF at h
 split at h
 ·rename_i h1
  split at h
  ·rename_i h2
   split at h
   ·cases h
   ·rename_i y h3
    split at h
    ·rename_i h4
     cases h
     exact ⟨h1,h2.1,h2.2,rfl,h3,h4⟩
    ·cases h
  ·cases h
 ·cases h
theorem FdG.recs {x:CDA}{f:Fd}(h:FdG x f):f.n.recs.length≤17:=by
 rw [h.n]
 have:(Zak (rbk x 0)).recs.length=Zc3 (rbk x 0):=Znm (rbk x 0)
 rw [this];exact Nat.min_le_right _ _
end Go.AM
