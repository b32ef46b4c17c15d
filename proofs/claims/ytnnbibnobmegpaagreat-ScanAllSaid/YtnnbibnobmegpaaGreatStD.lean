/-
 Functions of the program as the abstract machine reads them, and what is stated of them, checked by the kernel. No conditions.
-/
import Derived.Test.YtnnbibnobmegpaaGreatStC
import Derived.Test.YtnnbibnobmegpaaGreatAM5
import Derived.Test.YtnnbibnobmegpaaGreatXN
import Derived.Test.YtnnbibnobmegpaaGreatStB
set_option linter.unusedVariables false
set_option linter.unusedSimpArgs false
set_option linter.unnecessarySimpa false
set_option maxRecDepth 100000
namespace Go.AM
attribute [local irreducible] W
open X
def Ls:List (Nat×AV):=[(3,.ptr 0 0),(6,.ptr 1 0),(7,.ptr 2 0),(8,.ptr 3 0),(10,.ptr 4 0)]
def fG (n:Nt) (r:Nat) (x:RdS):List AV:=match x.S with
 | []=>[.int .u32 n.age,.int .u32 n.seq,.int .i64 n.stripe,.nils,.nils,Be x.p]
 | _::S=>[.int .u32 n.age,.int .u32 n.seq,.int .i64 n.stripe,.sl r 0 (S.length+1) none,.sl (r+1) 0 (S.length+1) none,Be x.p]
def rwG (x:RdS):List AObj:=match x.S with
 | []=>[]
 | p::S=>[.row 3 (Bs ((p::S).map Prod.fst)),.row 41 ((p::S).map fun p=>AA p.2)]
def osF (c:Cfg) (n:Nt) (x:RdS):List AObj:=[.row 24 c.c,.row 68 (fG n 6 x),.row 3 [.int .i64 0],.row 37 [.int .i64 0],.row 87 (Cw n n.v),.defd]++rwG x
theorem Eb (l:List Int):hfs (Bs l)=true:=hfs_iff.2 fun v hv=>by
 obtain ⟨p,_,rfl⟩:=Zpf.1 (show v ∈ l.map (AV.int .i64) from hv);rfl
theorem EE (l:List (Int×List Nat)):hfs (l.map fun p=>AA p.2)=true:=hfs_iff.2 fun v hv=>by
 obtain ⟨p,_,rfl⟩:=Zpf.1 hv;rfl
theorem Zmx {e:Env}(hE:EM P e) (h50:Con e 73 dchkF.O) {c:Cfg}(hc:c.ok) {n:Nt}(hn:n.ok) (hs:n.v=.fz n.recs.length none (Ax n.recs)) {x:RdS}(hx:x.ok) {K:AV→St→Prop}(hk:∀ s,K (HV c n x) s)
 {t:AT}{s:St}{ds rs:List Nat}(h:AbsD 0 t s ds Ls (osF c n x) rs [5]):W P 0 none R3 t s ds (Bx [.cells 6 6,.cell 7,.cell 8] K):=by
 have hr:=Zkc hE h50 c hc n hn hs x hx K hk
 obtain ⟨S,p⟩:=x
 have hnv:AM.hf n.v=true:=by rw [hs];rfl
 have hpv:∀ m cs,C4 m cs (Be p)=Be p:=fun m cs=>EW _ (CT p)
 have hnc:hfs (Cw n n.v)=true:=by
  show (true && (true && (true && (true && (AM.hf n.v && true)))))=true
  rw [hnv];rfl
 cases S with
 | nil=>exact W.tells h.tells hr
 | cons q S=>
  have h1:=AbsD.frz (P:=P) (k:=0) (n:=7) (e:=41) (cs:=(q::S).map fun p=>AA p.2) (tl:=Ls) (tl2:=Ls) (ds2:=[5]) (os:=[.row 24 c.c,.row 68 [.int .u32 n.age,.int .u32 n.seq,.int .i64 n.stripe,.sl 6 0 (S.length+1) none,.sl 7 0 (S.length+1) none,Be p],.row 3 [.int .i64 0],.row 37 [.int .i64 0],.row 87 (Cw n n.v),.defd,.row 3 (Bs ((q::S).map Prod.fst))])
   (os2:=[.row 24 c.c,.row 68 [.int .u32 n.age,.int .u32 n.seq,.int .i64 n.stripe,.sl 6 0 (S.length+1) none,Dx (q::S),Be p],.row 3 [.int .i64 0],.row 37 [.int .i64 0],.row 87 (Cw n n.v),.defd,.row 3 (Bs ((q::S).map Prod.fst))]) h rfl (by intro d hd;simp at hd;subst hd;decide) (EE _) rfl rfl rfl rfl rfl (by
     show [_,AObj.row 68 [_,_,_,_,_,C4 7 _ (Be p)],_,_,Bw 7 _ (.row 87 (Cw n n.v)),_,Bw 7 _ (.row 3 (Bs ((q::S).map Prod.fst)))]=_
     rw [hpv,BM hnc,BM (Eb _)];rfl)
  have hc1:hfs [.int .u32 n.age,.int .u32 n.seq,.int .i64 n.stripe,Dx (q::S),Be p]=true:=by
   show (true && (true && (true && (AM.hf (Dx (q::S)) && (AM.hf (Be p) && true)))))=true
   rw [Jy,CT];rfl
  have h2:=AbsD.frz (P:=P) (k:=0) (n:=6) (e:=3) (cs:=Bs ((q::S).map Prod.fst)) (t:=Am Ls) (s:=Ac St0 [.row 24 c.c,.row 68 [.int .u32 n.age,.int .u32 n.seq,.int .i64 n.stripe,.sl 6 0 (S.length+1) none,Dx (q::S),Be p],.row 3 [.int .i64 0],.row 37 [.int .i64 0],.row 87 (Cw n n.v),.defd,.row 3 (Bs ((q::S).map Prod.fst))]) (ds:=[5]) (rs:=[0,1,2,3,4,5,6]) (tl:=Ls) (tl2:=Ls) (ds2:=[5]) (os:=[.row 24 c.c,.row 68 [.int .u32 n.age,.int .u32 n.seq,.int .i64 n.stripe,.sl 6 0 (S.length+1) none,Dx (q::S),Be p],.row 3 [.int .i64 0],.row 37 [.int .i64 0],.row 87 (Cw n n.v),.defd])
   (os2:=[.row 24 c.c,.row 68 (fC n.age n.seq n.stripe ⟨q::S,p⟩),.row 3 [.int .i64 0],.row 37 [.int .i64 0],.row 87 (Cw n n.v),.defd])
   ⟨⟨rfl,by decide,⟨r9,r9,r9,r9,r9,trivial⟩,⟨r9,⟨by show (true && (true && (true && (true && (bd 7 (Dx (q::S)) && (bd 7 (Be p) && true))))))=true;rw [Bz _ (Jy _),Bz _ (CT p)];rfl,by show _=some (AObj.row 68 [_,_,_,_,A2 _ (Dx (q::S)),A2 _ (Be p)]);rw [Bv _ (Jy _),Bv _ (CT p)];rfl⟩,r9,r9,o9,r9,o9 (Eb _),trivial⟩⟩,rfl,by intro d hd;simp at hd;subst hd;show 5<7;decide⟩ rfl (by intro d hd;simp at hd;subst hd;decide) (Eb _) rfl rfl rfl rfl rfl (by
     show [_,AObj.row 68 [_,_,_,_,C4 6 _ (Dx (q::S)),C4 6 _ (Be p)],_,_,Bw 6 _ (.row 87 (Cw n n.v)),_]=_
     rw [hpv,EW _ (Jy _),BM hnc];rfl)
  exact W.tells (h1.trans h2) hr
end Go.AM
namespace Go.AM
attribute [local irreducible] W
open X
def XW:AC:=match E2 KR with|some (a,_)=>a|none=>.skip
def Xt:AC:=match E2 KR with|some (_,b)=>b|none=>.skip
def Zlr:AC:=match KR with
 | .seq _ (.seq _ (.seq _ (.seq r _)))=>r
 | _=>.skip
def Xl:AC:=match P8 with|.mk c _=>c
def zFc:List AV:=[.int .u32 0,.int .u32 0,.int .i64 0,.nils,.nils,.nils]
def tlG:List (Nat×AV):=[(3,.ptr 0 0),(6,.ptr 1 0),(7,.ptr 2 0),(8,.ptr 3 0),(10,.ptr 4 0),(27,.fn 113 [] [.ptr 5 0,.ptr 7 0,.ptr 6 0])]
def osH (C D:List AV) (a:Int):List AObj:=[.row 24 C,.row 68 zFc,.row 3 [.int .i64 0],.row 37 [.int .i64 0],.row 87 Ew,.row 24 C,.row 28 D,.row 3 [.int .i64 a]]
noncomputable def Lt (C D:List AV) (a:Int) (F N:List AV):List AObj:=[.row 24 C,.row 68 F,.row 3 [.int .i64 0],.row 37 [.int .i64 0],.row 87 N,.row 24 C,.row 28 D,.row 3 [.int .i64 a],.defd,.loop .ready none 0 (Am tlG) [28,29] XW Xt 8]
noncomputable def Na (C D:List AV) (a:Int) (n:Nt):Nat→RdS→List AObj
 | 0,_=>Lt C D a zFc Ew
 | _+1,x=>Lt C D a (fG n 10 x) (Cw n n.v)++rwG x
def MZ (lg:Int) (i:Nat):List (Nat×AV):=[(0,.yld 9),(1,.ptr 5 0),(2,.ptr 7 0),(3,.ptr 6 0),(11,.int .i64 lg),(12,.int .i64 (i:Int))]
theorem VB:RdS.ok ⟨[],none⟩:=⟨Zoy _,(fun p hp=>nomatch hp),(fun b hb=>nomatch hb)⟩
structure RB (d:DK) (a lg:Int) (m:Nat) (B:Nat→List Nat):Prop where
 mm:lg=(m:Int)
 ll:12≤m∧m≤255
 aa:0≤a∧a<lg
 bb:∀ i,i<m→(B i).length=128∧∀ y ∈ B i,y<256
 zz:∀ s,zB (s.get 4)=true→DU [d.v,.int .i64 (1+(a+0) % lg)] s=.ok (.tup [AA (B 0),.int .i64 0]) s
 rr:∀ i,i<m→∃ cp,∀ s,zB (s.get 4)=false→DU [d.v,.int .i64 (1+(a+(i:Int)) % lg)] s=.ok (.tup [.sl (0+s.next) 0 128 cp,.int .i64 0]) (s.alloc (.row 5 (Ab (B i))))
theorem TO (B:Nat→List Nat):∀ (R:List Rc) (i:Nat) (x:RdS),CM B R 0 i x=some x
 | [],_,_=>rfl
 | _::_,_,_=>rfl
variable {t:AT}{s:St}{D:List AV}{a lg sl:Int}{n:Nt}{S:List (Int×List Nat)}{p:Option (List Nat)}{see rs:List Nat}{cp:Option Nat}{i k:Nat}
theorem Pc {C:List AV}(hC:hfs C=true) (hD:hfs D=true) (hn:AM.hf n.v=true)
 (h:AbsK 10 t s (MZ lg i) (Lt C D a [.int .u32 n.age,.int .u32 n.seq,.int .i64 n.stripe,.sl 10 0 (S.length+1) none,.sl 11 0 (S.length+1) none,Be p] (Cw n n.v)++[.row 3 (Bs (S.map Prod.fst)++[.int .i64 sl]),.row 41 ((S.map fun p=>AA p.2)++[.sl 12 0 128 cp])]++[.row 5 (Ab see)]) rs) (hal:True):
 Tells P 10 t s [] (Am (MZ lg i)) (Ac St0 (Na C D a n (k+1) ⟨S++[(sl,see)],p⟩)) []:=by
 have hnc:hfs (Cw n n.v)=true:=by
  show (true && (true && (true && (true && (AM.hf n.v && true)))))=true
  rw [hn];rfl
 refine AbsK.frz (n:=12) (e:=5) (cs:=Ab see) h rfl (AJ _) rfl rfl rfl rfl rfl ?_
 have e1:Na C D a n (k+1) ⟨S++[(sl,see)],p⟩=Lt C D a [.int .u32 n.age,.int .u32 n.seq,.int .i64 n.stripe,.sl 10 0 (S.length+1) none,.sl 11 0 (S.length+1) none,Be p] (Cw n n.v)++[.row 3 (Bs (S.map Prod.fst)++[.int .i64 sl]),.row 41 ((S.map fun p=>AA p.2)++[AA see])]:=by
  cases S with
  | nil=>rfl
  | cons q S=>
   show Lt C D a [_,_,_,.sl 10 0 ((S++[(sl,see)]).length+1) none,.sl 11 0 ((S++[(sl,see)]).length+1) none,Be p] (Cw n n.v)++[.row 3 (Bs ((q::(S++[(sl,see)])).map Prod.fst)),.row 41 ((q::(S++[(sl,see)])).map fun p=>AA p.2)]=_
   rw [Zot]
   unfold Bs
   simp
 rw [e1]
 show [Bw 12 _ (.row 24 C),AObj.row 68 [_,_,_,_,_,C4 12 _ (Be p)],_,_,Bw 12 _ (.row 87 (Cw n n.v)),Bw 12 _ (.row 24 C),Bw 12 _ (.row 28 D),_,_,_,AObj.row 3 (CW 12 _ (Bs (S.map Prod.fst)++[.int .i64 sl])),AObj.row 41 (CW 12 _ ((S.map fun p=>AA p.2)++[.sl 12 0 128 cp]))]=_
 rw [BM hC,BM hD,BM hnc,EW _ (CT p),Kf,Kf,Gx _ (Eb _),Gx _ (EE _)]
 rfl
def fH (n:Nt) (r r5:Nat) (S:List (Int×List Nat)) (cp:Option Nat):List AV:=match S with
 | []=>[.int .u32 n.age,.int .u32 n.seq,.int .i64 n.stripe,.nils,.nils,.sl r5 0 128 cp]
 | _::S=>[.int .u32 n.age,.int .u32 n.seq,.int .i64 n.stripe,.sl r 0 (S.length+1) none,.sl (r+1) 0 (S.length+1) none,.sl r5 0 128 cp]
theorem Pb {C:List AV}(hC:hfs C=true) (hD:hfs D=true) (hn:AM.hf n.v=true) {p':Option (List Nat)}
 (h:AbsK 10 t s (MZ lg i) ((Lt C D a (fH n 10 (match S with|[]=>10|_=>12) S cp) (Cw n n.v)++rwG ⟨S,p'⟩)++[.row 5 (Ab see)]) rs):
 Tells P 10 t s [] (Am (MZ lg i)) (Ac St0 (Na C D a n (k+1) ⟨S,some see⟩)) []:=by
 have hnc:hfs (Cw n n.v)=true:=by
  show (true && (true && (true && (true && (AM.hf n.v && true)))))=true
  rw [hn];rfl
 cases S with
 | nil=>
  refine AbsK.frz (n:=10) (e:=5) (cs:=Ab see) h rfl (AJ _) rfl rfl rfl rfl rfl ?_
  show [Bw 10 _ (.row 24 C),_,_,_,Bw 10 _ (.row 87 (Cw n n.v)),Bw 10 _ (.row 24 C),Bw 10 _ (.row 28 D),_,_,_]=_
  rw [BM hC,BM hD,BM hnc]
  rfl
 | cons q S=>
  refine AbsK.frz (n:=12) (e:=5) (cs:=Ab see) h rfl (AJ _) rfl rfl rfl rfl rfl ?_
  show [Bw 12 _ (.row 24 C),_,_,_,Bw 12 _ (.row 87 (Cw n n.v)),Bw 12 _ (.row 24 C),Bw 12 _ (.row 28 D),_,_,_,Bw 12 _ (.row 3 (Bs ((q::S).map Prod.fst))),Bw 12 _ (.row 41 ((q::S).map fun p=>AA p.2))]=_
  rw [BM hC,BM hD,BM hnc,BM (Eb _),BM (EE _)]
  rfl
theorem ND (hx:RdS.ok ⟨S,p⟩) (hl:S.length<17) (hs:0≤sl∧sl<256) (hb:see.length=128∧∀ y ∈ see,y<256):RdS.ok ⟨S++[(sl,see)],p⟩:=by
 refine ⟨by show (S++[(sl,see)]).length≤17;rw [Zot];show S.length+1≤17;omega,fun q hq=>?_,hx.p⟩
 rcases Zo7.1 hq with hq|hq
 ·exact hx.s q hq
 ·simp at hq;subst hq;exact ⟨hs,hb⟩
theorem NC (hx:RdS.ok ⟨S,p⟩) (hb:see.length=128∧∀ y ∈ see,y<256):RdS.ok ⟨S,some see⟩:=by
 refine ⟨hx.n,hx.s,fun b h=>?_⟩
 have:see=b:=Zpn h
 subst this;exact hb
theorem Zkb {e:Env}(hE:EM P e) (h50:Con e 73 dchkF.O) (h35:Con e 74 onF.O) (h51:Con e 78 DU) (h52:Con e 26 ndF.O) (h66:Inl e 104 Xl [.tmp 6]) (h67:Inl e 68 KQ [.tmp 2]) (h107:Con e 95 DO)
 {c:Cfg}(hc:c.ok) {d:DK}(hd:d.ok) {m:Nat}{B:Nat→List Nat}(hB:RB d a c.log m B)
 (hn:n.ok) (hs:n.v=.fz n.recs.length none (Ax n.recs)) (hn17:n.recs.length≤17) (gd:Bool) (hnd:DP ⟨AA (B 0),B 0⟩=if gd then .tup [.agg (Cw n n.v),.int .i64 0] else .tup [.agg Ew,.int .i64 90]) {K:AV→St→Prop}
 (k0:gd=false→∀ s,K (Fa 130) s) (k1:gd=true→n.id≠c.id→∀ s,K (Fa 130) s) (k2:gd=true→n.id=c.id→CM B n.recs (m-1) 1 ⟨[],none⟩=none→∀ s,K (Fa 130) s)
 (k3:gd=true→n.id=c.id→∀ x,CM B n.recs (m-1) 1 ⟨[],none⟩=some x→∀ s,K (HV c n x) s):
 VW P e 0 Zlr (Am [(3,.ptr 0 0),(4,.ptr 1 0),(2,.int .i64 a),(6,.ptr 2 0),(7,.ptr 3 0),(8,.ptr 4 0),(10,.ptr 5 0)]) (Ac St0 [.row 24 c.c,.row 28 d.c,.row 68 zFc,.row 3 [.int .i64 0],.row 37 [.int .i64 0],.row 87 Ew]) none []
  (Gp (fun t s ds=>W P 0 none R3 t s ds (Bx [.cells 6 6,.cell 7,.cell 8] K)) (Bx [.cells 6 6,.cell 7,.cell 8] K)):=by
 have fin:=fun {x:RdS}(hx:x.ok) (hk:∀ s,K (HV c n x) s) {t s ds rs}=>Zmx (t:=t) (s:=s) (ds:=ds) (rs:=rs) hE h50 hc hn hs hx hk
 obtain ⟨hlg,hm1,ha,hBb,hBz,hBr⟩:=hB
 have hnv:AM.hf n.v=true:=by rw [hs];rfl
 have hnsl:Sl 3 n.recs.length (Ax n.recs) n.v:=hn.sl
 obtain ⟨nid,nag,nsq,nst,nv,R⟩:=n
 dsimp only at hs hn17 hnsl k1 k2 k3
 subst hs
 obtain ⟨bv,us,bs,wv,ws,dd⟩:=d
 have hbl:=hd.a.bl
 have hwl:=hd.a.wl
 obtain ⟨id,mb,ch,rw',lg,hdd⟩:=c
 dsimp only at hlg hm1 ha hBz hBr hbl hwl k1 k2 k3
 have hcf':hfs [.int .u32 id,.int .i64 mb,.int .i64 ch,.int .i64 rw',.int .i64 lg,.int .i64 hdd]=true:=rfl
 have hdf:hfs [bv,wv,.bool dd]=true:=CZ hwl hbl
 conv=>whnf
 refine ESc.inl h66 ?_;conv=>whnf
 refine W.tells (Abs.tells (tl:=tlG) (os:=osH [.int .u32 id,.int .i64 mb,.int .i64 ch,.int .i64 rw',.int .i64 lg,.int .i64 hdd] [bv,wv,.bool dd] a) (rs:=[0,2,3,4,5,6,7,8])
  .a) ?_
 refine KU (f:=113) (first:=[]) (cap:=[.ptr 5 0,.ptr 7 0,.ptr 6 0]) g113.b rfl ?_ ?_
 ·intro q hq
  have hq:q<8:=hq
  rcases q with _|_|_|_|_|_|_|_|q
  ·exact .tmp 3 (.ptr 0 0) rfl rfl
  ·exact .tmp 6 (.ptr 1 0) rfl rfl
  ·exact .tmp 7 (.ptr 2 0) rfl rfl
  ·exact .tmp 8 (.ptr 3 0) rfl rfl
  ·exact .tmp 10 (.ptr 4 0) rfl rfl
  ·exact .tmp 27 (.fn 113 [] [.ptr 5 0,.ptr 7 0,.ptr 6 0]) rfl rfl
  ·exact .tmp 27 (.fn 113 [] [.ptr 5 0,.ptr 7 0,.ptr 6 0]) rfl rfl
  ·exact .tmp 27 (.fn 113 [] [.ptr 5 0,.ptr 7 0,.ptr 6 0]) rfl rfl
  ·omega
 obtain ⟨C,hC⟩:∃ C:List AV,C=[.int .u32 id,.int .i64 mb,.int .i64 ch,.int .i64 rw',.int .i64 lg,.int .i64 hdd]:=⟨_,rfl⟩
 show C1 P 113 [.yld 9,.ptr 5 0,.ptr 7 0,.ptr 6 0] (Ac St0 (Na [.int .u32 id,.int .i64 mb,.int .i64 ch,.int .i64 rw',.int .i64 lg,.int .i64 hdd] [bv,wv,.bool dd] a ⟨nid,nag,nsq,nst,.fz R.length none (Ax R),R⟩ 0 ⟨[],none⟩)) (fun _ s'=>II 9 [8] (Am tlG) s' _)
 refine C1.of_G hE g113 ?_;conv=>whnf
 have hnf:∀ a b c d:Int,hfs [.int .u32 a,.int .u32 b,.int .u32 c,.int .i64 d,.fz R.length none (Ax R)]=true:=fun _ _ _ _=>rfl
 have hlb:∀ n,Ds 10 n (.loop .ready none 0 (Am tlG) [28,29] XW Xt 8)=true:=fun _=>rfl
 refine Ce (k:=10) (α:=Nat×RdS) (fun y=>MZ lg y.1) (fun y=>Na [.int .u32 id,.int .i64 mb,.int .i64 ch,.int .i64 rw',.int .i64 lg,.int .i64 hdd] [bv,wv,.bool dd] a ⟨nid,nag,nsq,nst,.fz R.length none (Ax R),R⟩ y.1 y.2) (fun y=>m-y.1)
  (fun y=>y.1≤m∧y.2.ok∧y.2.S.length≤y.1-1∧(0<y.1→gd=true∧nid=id∧CM B R (m-1) 1 ⟨[],none⟩=CM B (R.drop (y.1-1)) (m-y.1) y.1 y.2)) (0,⟨[],none⟩) ⟨Zoy _,VB,by show 0≤0;omega,fun h=>absurd h (Nat.lt_irrefl 0)⟩
    (AbsK.tells (rs:=[0,1,2,3,4,5,6,7,8,9]) ⟨rfl,by decide,⟨r9,r9,r9,r9,r9,r9,trivial⟩,⟨r9,r9,r9,r9,r9,r9,o9,r9,r9,⟨hlb _,rfl⟩,trivial⟩⟩) ?_
 rintro ⟨i,x⟩ ⟨hi,hx,hxl,hI⟩
 dsimp only at hi hx hxl hI ⊢
 refine A9 hE ?_
 have hon:∀ i:Nat,i<m→onF.out ⟨lg,a,(i:Int)⟩=.tup [.int .i64 ((a+(i:Int)) % lg),.int .i64 0]:=fun i hi=>by
  have:DT ⟨lg,a,(i:Int)⟩=true:=by unfold DT GM;dsimp only;rw [Zok (by omega),Zok (by omega),Zok (by omega)];rfl
  show (if DT _ then _ else _)=_;rw [Zoj this]
 have honk:∀ i:Nat,i<m→onF.ok ⟨lg,a,(i:Int)⟩:=fun i hi=>⟨by unfold Aj;dsimp only;omega,by unfold Aj;dsimp only;omega,by unfold Aj;dsimp only;omega⟩
 have hm0:∀ i:Nat,0≤(a+(i:Int)) % lg:=fun i=>Zpz _ (by omega)
 have hm1':∀ i:Nat,(a+(i:Int)) % lg<lg:=fun i=>Zp1 _ (by omega)
 rcases i with _|j
 ·have h00:=hm0 0
  have h01:=hm1' 0
  conv=>whnf
  refine Ag (a:=((0:Nat):Int)) (b:=lg) rfl rfl (fun _=>?_) (fun h=>by omega);conv=>whnf
  refine ESc.fam onF h35 ⟨lg,a,((0:Nat):Int)⟩ (honk 0 (by omega)) (hon 0 (by omega)) ?_;conv=>whnf
  repeat' (first|(refine ESc.ov h51 (hBz _ rfl) ?_;conv=>whnf)|(refine w7 rfl rfl (by omega) ?_;conv=>whnf)|fail)
  refine ERound.mk ?_;conv=>whnf
  refine B2 (a:=((0:Nat):Int)) (b:=0) rfl rfl (fun _=>?_) (fun h=>absurd rfl h);conv=>whnf
  have hb0:=hBb 0 (by omega)
  have hndok:UB.ok ⟨AA (B 0),B 0⟩:=⟨Hi hb0,.inr hb0.1⟩
  cases gd
  ·refine ESc.fam ndF h52 ⟨AA (B 0),B 0⟩ hndok (u:=.tup [.agg Ew,.int .i64 90]) hnd ?_;conv=>whnf
   repeat' (first|((refine w6 rfl rfl ?_ ?_) <;> intro _ <;> first|(exfalso;omega)|(conv=>whnf))|(refine w13 rfl ?_;conv=>whnf)|fail)
   refine Ep ?_;conv=>whnf
   exact k0 rfl _
  ·refine ESc.fam ndF h52 ⟨AA (B 0),B 0⟩ hndok (u:=.tup [.agg (Cw ⟨nid,nag,nsq,nst,.fz R.length none (Ax R),R⟩ (.fz R.length none (Ax R))),.int .i64 0]) hnd ?_;conv=>whnf
   repeat' (first|((refine w6 rfl rfl ?_ ?_) <;> intro _ <;> first|(exfalso;omega)|(conv=>whnf))|((first|refine w7 rfl rfl (by omega) ?_|refine w12 rfl ?_|refine w13 rfl ?_|refine ⟨rfl,?_⟩);conv=>whnf)|fail)
   ·rename_i h
    refine Ep ?_;conv=>whnf
    exact k1 rfl h _
   ·rename_i h
    exact ⟨(1,⟨[],none⟩),⟨by show 1≤m;omega,VB,Zo0 _,fun _=>⟨rfl,h,rfl⟩⟩,by show m-1<m-0;omega,
     AbsK.tells (rs:=[0,1,2,3,4,5,6,7,8,9]) ⟨rfl,by decide,⟨r9,r9,r9,r9,r9,r9,trivial⟩,⟨r9,r9,r9,r9,r9,r9,o9,r9,r9,⟨hlb _,rfl⟩,trivial⟩⟩⟩
 ·obtain ⟨hgd,hid,hG⟩:=hI (Nat.succ_pos j)
  subst hgd
  rw [show j+1-1=j from rfl] at hG hxl
  have h00:=hm0 (j+1)
  have h01:=hm1' (j+1)
  have hsub:((j+1:Nat):Int)-1=(j:Int):=by omega
  obtain ⟨S,p⟩:=x
  rcases S with _|⟨q,S⟩
  ·conv=>whnf
   refine Ag (a:=((j+1:Nat):Int)) (b:=lg) rfl rfl (fun hlt=>?_) (fun hge=>?_)
   ·have hjm:j+1<m:=by omega
    obtain ⟨cp,hrd⟩:=hBr (j+1) hjm
    have hb1:=hBb (j+1) hjm
    obtain ⟨b0,bt,hBe⟩:∃ b0 bt,B (j+1)=b0::bt:=by
     cases hq:B (j+1) with
     | nil=>rw [hq] at hb1;exact absurd hb1.1 (by decide)
     | cons x y=>exact ⟨x,y,rfl⟩
    rw [hBe] at hrd hb1
    conv=>whnf
    refine ESc.fam onF h35 ⟨lg,a,((j+1:Nat):Int)⟩ (honk (j+1) hjm) (hon (j+1) hjm) ?_;conv=>whnf
    repeat' (first|(refine ESc.ov h51 (hrd _ rfl) ?_;conv=>whnf)|(refine w7 rfl rfl (by omega) ?_;conv=>whnf)|fail)
    refine ERound.mk ?_;conv=>whnf
    refine B2 (a:=((j+1:Nat):Int)) (b:=0) rfl rfl (fun h=>by omega) (fun _=>?_);conv=>whnf
    refine Af rfl hnsl ?_;conv=>whnf
    refine Dm (a:=((j+1:Nat):Int)) (b:=(R.length:Int)) rfl rfl (fun hgt=>?_) (fun hle=>?_)
    ·conv=>whnf
     repeat' (first|(refine w13 rfl ?_;conv=>whnf)|fail)
     refine fin hx (k3 rfl hid _ (by rw [hG,Zpb (by omega)];rfl)) (rs:=[0,1,2,3,4,8]) ?_
     exact ⟨⟨rfl,by decide,⟨r9,r9,r9,r9,r9,trivial⟩,⟨r9,⟨by show (true && (true && (true && (_ && (_ && (bd _ (Be p) && true))))))=true;rw [Bz _ (CT p)];rfl,by show _=some (AObj.row 68 [_,_,_,_,_,A2 _ (Be p)]);rw [Bv _ (CT p)];rfl⟩,r9,r9,r9,r9,trivial⟩⟩,rfl,by intro d hd;simp at hd;subst hd;first|(show 5<6;decide)|(show 5<8;decide)⟩
    ·have hxl:(([]:List (Int×List Nat))).length≤j:=hxl
     have hj:j<R.length:=by omega
     have hdR:=(NZ R j).trans (congrArg Ax (Zo2 hj))
     have hro:=hn.rc _ (Zpg hj)
     rw [Zo2 hj,show m-(j+1)=(m-(j+2))+1 by omega] at hG
     have hall:=And.intro hdR (And.intro hro hG)
     clear hdR hro hG
     revert hall
     generalize R[j]=r
     obtain ⟨sl,ba,su⟩:=r
     rintro ⟨hdR,⟨hsl,hsu⟩,hG⟩
     dsimp only at hsl hsu
     have hdR:(Ax R).drop (j*3)=[.int .u8 sl,.bool ba,.int .u32 su]++Ax (R.drop (j+1)):=hdR
     have hG:CM B R (m-1) 1 ⟨[],none⟩=if D9 ⟨sl,ba,su⟩ (B (j+1))=true then none else CM B (R.drop (j+1)) (m-(j+2)) (j+2) (Eh ⟨sl,ba,su⟩ (B (j+1)) ⟨([]:List (Int×List Nat)),p⟩):=hG
     rw [hBe] at hG
     have hcell:∀ (K:List AV→Prop),K [.int .u8 sl,.bool ba,.int .u32 su]→ETake 3 ([.int .u8 sl,.bool ba,.int .u32 su]++Ax (R.drop (j+1))) K:=fun K hk=>CS rfl hk
     have hbad:D9 ⟨sl,ba,su⟩ (b0::bt)=true→∀ s,K (Fa 130) s:=fun h=>k2 rfl hid (by rw [hG,Zoj h])
     have hrb:D9 ⟨sl,ba,su⟩ (b0::bt)=(decide ((Au (b0::bt):Int)≠su) || (decide (b0=78) || (ba && decide (b0≠0)))):=rfl
     have hb78:(78::bt).length=128∧∀ y ∈ 78::bt,y<256:=⟨hb1.1,fun y hy=>by
      rcases Zpp.1 hy with rfl|hy
      ·decide
      ·exact hb1.2 y (by simp [hy])⟩
     have hgo:∀ x',D9 ⟨sl,ba,su⟩ (b0::bt)=false→Eh ⟨sl,ba,su⟩ (b0::bt) ⟨([]:List (Int×List Nat)),p⟩=x'→CM B R (m-1) 1 ⟨[],none⟩=CM B (R.drop (j+1)) (m-(j+2)) (j+2) x':=fun x' h1 h2=>by
      rw [hG,Zon (by rw [h1];decide),h2]
     conv=>whnf
     refine Iw (a:=((j+1:Nat):Int)) (b:=1) rfl rfl (by omega) ?_
     rw [hsub]
     conv=>whnf
     refine A8 rfl hnsl rfl hj ?_
     rw [hdR]
     conv=>whnf
     refine hcell _ ?_;conv=>whnf
     refine ESc.inl h67 ?_;conv=>whnf
     refine ESc.ov h107 (G0 (e:=5) (bs:=b0::bt) rfl hb1.1 hb1.2) ?_;conv=>whnf
     refine ⟨rfl,?_⟩;conv=>whnf
     refine B7 (a:=((Au (b0::bt):Nat):Int)) (b:=su) rfl rfl (fun h1=>?_) (fun h1=>?_)
     ·conv=>whnf
      repeat' (first|(refine w13 rfl ?_;conv=>whnf)|fail)
      refine Ep ?_;conv=>whnf
      exact hbad (by rw [hrb,Zok h1];rfl) _
     ·conv=>whnf
      refine Cy rfl rfl (by omega) (by omega) ?_;conv=>whnf
      refine B2 (a:=((b0:Nat):Int)) (b:=78) rfl rfl (fun h2=>?_) (fun h2=>?_)
      ·conv=>whnf
       repeat' (first|(refine w13 rfl ?_;conv=>whnf)|fail)
       refine Ep ?_;conv=>whnf
       exact hbad (by rw [hrb,Zok (show b0=78 by omega)];simp) _
      ·cases ba
       ·have hnb:D9 ⟨sl,false,su⟩ (b0::bt)=false:=by rw [hrb,Zow (by simpa using h1),Zow (show ¬ b0=78 by omega)];rfl
        conv=>whnf
        refine B2 (a:=sl) (b:=255) rfl rfl (fun h255=>?_) (fun h255=>?_)
        ·conv=>whnf
         repeat' (first|((first|refine w7 rfl rfl (by omega) ?_|refine w12 rfl ?_|refine ⟨rfl,?_⟩);conv=>whnf)|fail)
         refine ⟨(j+2,⟨([]:List (Int×List Nat)),some (b0::bt)⟩),⟨by show j+2≤m;omega,NC hx (by first|exact hb78|exact hb1),by show (([]:List (Int×List Nat))).length≤j+1;omega,fun _=>⟨rfl,hid,hgo _ hnb (by unfold Eh FX;rw [Zoj h255];rfl)⟩⟩,by show m-(j+2)<m-(j+1);omega,Pb (S:=([]:List (Int×List Nat))) (lg:=lg) (i:=j+2) (k:=j+1) (a:=a) (see:=b0::bt) (cp:=cp) (p':=p) (rs:=[0,1,2,3,4,5,6,7,8,9,10]) (n:=⟨nid,nag,nsq,nst,.fz R.length none (Ax R),R⟩) hcf' hdf rfl ?_⟩
         exact ⟨rfl,by decide,⟨r9,r9,r9,r9,r9,r9,trivial⟩,⟨r9,r9,r9,r9,r9,r9,o9,r9,r9,⟨hlb _,rfl⟩,o9 (AJ _),trivial⟩⟩
        ·conv=>whnf
         repeat' (first|(refine EB (q':=.i64) rfl (i64_in (by omega)) ?_;conv=>whnf)|(refine Cl (m:=1) rfl rfl rfl rfl (by decide) (by decide) ?_;conv=>whnf)|((first|refine w7 rfl rfl (by omega) ?_|refine w12 rfl ?_|refine ⟨rfl,?_⟩);conv=>whnf)|fail)
         refine ⟨(j+2,⟨([]:List (Int×List Nat))++[(sl,b0::bt)],p⟩),⟨by show j+2≤m;omega,ND hx (by omega) hsl (by first|exact hb78|exact hb1),by show (([]:List (Int×List Nat))++[(sl,b0::bt)]).length≤j+1;rw [Zot];show _+1≤j+1;omega,fun _=>⟨rfl,hid,hgo _ hnb (by unfold Eh FX;rw [Zon h255];rfl)⟩⟩,by show m-(j+2)<m-(j+1);omega,Pc (S:=([]:List (Int×List Nat))) (lg:=lg) (i:=j+2) (k:=j+1) (a:=a) (sl:=sl) (see:=b0::bt) (cp:=cp) (p:=p) (rs:=[0,1,2,3,4,5,6,7,8,9,14,15,10]) (n:=⟨nid,nag,nsq,nst,.fz R.length none (Ax R),R⟩) hcf' hdf rfl ?_ trivial⟩
         exact ⟨rfl,by decide,⟨r9,r9,r9,r9,r9,r9,trivial⟩,⟨r9,⟨by show (true && (true && (true && (_ && (_ && (bd _ (Be p) && true))))))=true;rw [Bz _ (CT p)];rfl,by show _=some (AObj.row 68 [_,_,_,_,_,A2 _ (Be p)]);rw [Bv _ (CT p)];rfl⟩,r9,r9,r9,r9,o9,r9,r9,⟨hlb _,rfl⟩,⟨by show AB _ (Bs _++[_])=true;rw [CG (Eb _)];rfl,by show _=some (AObj.row 3 (At _ (Bs _++[_])));rw [CF (Eb _)];rfl⟩,⟨by show AB _ (List.map _ _++[_])=true;rw [CG (EE _)];rfl,by show _=some (AObj.row 41 (At _ (List.map _ _++[_])));rw [CF (EE _)];rfl⟩,o9 (AJ _),trivial⟩⟩
       ·conv=>whnf
        refine Cy rfl rfl (by omega) (by omega) ?_;conv=>whnf
        refine B7 (a:=((b0:Nat):Int)) (b:=0) rfl rfl (fun h3=>?_) (fun h3=>?_)
        ·conv=>whnf
         repeat' (first|(refine w13 rfl ?_;conv=>whnf)|fail)
         refine Ep ?_;conv=>whnf
         exact hbad (by rw [hrb,Zok (show b0≠0 by omega)];simp) _
        ·have hnb:D9 ⟨sl,true,su⟩ (b0::bt)=false:=by rw [hrb,Zow (by simpa using h1),Zow (show ¬ b0=78 by omega),Zow (show ¬ b0≠0 by omega)];rfl
         conv=>whnf
         refine Cy rfl rfl (by omega) (by omega) ?_;conv=>whnf
         refine B2 (a:=sl) (b:=255) rfl rfl (fun h255=>?_) (fun h255=>?_)
         ·conv=>whnf
          repeat' (first|((first|refine w7 rfl rfl (by omega) ?_|refine w12 rfl ?_|refine ⟨rfl,?_⟩);conv=>whnf)|fail)
          refine ⟨(j+2,⟨([]:List (Int×List Nat)),some (78::bt)⟩),⟨by show j+2≤m;omega,NC hx (by first|exact hb78|exact hb1),by show (([]:List (Int×List Nat))).length≤j+1;omega,fun _=>⟨rfl,hid,hgo _ hnb (by unfold Eh FX;rw [Zoj h255];rfl)⟩⟩,by show m-(j+2)<m-(j+1);omega,Pb (S:=([]:List (Int×List Nat))) (lg:=lg) (i:=j+2) (k:=j+1) (a:=a) (see:=78::bt) (cp:=cp) (p':=p) (rs:=[0,1,2,3,4,5,6,7,8,9,10]) (n:=⟨nid,nag,nsq,nst,.fz R.length none (Ax R),R⟩) hcf' hdf rfl ?_⟩
          exact ⟨rfl,by decide,⟨r9,r9,r9,r9,r9,r9,trivial⟩,⟨r9,r9,r9,r9,r9,r9,o9,r9,r9,⟨hlb _,rfl⟩,o9 (AJ _),trivial⟩⟩
         ·conv=>whnf
          repeat' (first|(refine EB (q':=.i64) rfl (i64_in (by omega)) ?_;conv=>whnf)|(refine Cl (m:=1) rfl rfl rfl rfl (by decide) (by decide) ?_;conv=>whnf)|((first|refine w7 rfl rfl (by omega) ?_|refine w12 rfl ?_|refine ⟨rfl,?_⟩);conv=>whnf)|fail)
          refine ⟨(j+2,⟨([]:List (Int×List Nat))++[(sl,78::bt)],p⟩),⟨by show j+2≤m;omega,ND hx (by omega) hsl (by first|exact hb78|exact hb1),by show (([]:List (Int×List Nat))++[(sl,78::bt)]).length≤j+1;rw [Zot];show _+1≤j+1;omega,fun _=>⟨rfl,hid,hgo _ hnb (by unfold Eh FX;rw [Zon h255];rfl)⟩⟩,by show m-(j+2)<m-(j+1);omega,Pc (S:=([]:List (Int×List Nat))) (lg:=lg) (i:=j+2) (k:=j+1) (a:=a) (sl:=sl) (see:=78::bt) (cp:=cp) (p:=p) (rs:=[0,1,2,3,4,5,6,7,8,9,14,15,10]) (n:=⟨nid,nag,nsq,nst,.fz R.length none (Ax R),R⟩) hcf' hdf rfl ?_ trivial⟩
          exact ⟨rfl,by decide,⟨r9,r9,r9,r9,r9,r9,trivial⟩,⟨r9,⟨by show (true && (true && (true && (_ && (_ && (bd _ (Be p) && true))))))=true;rw [Bz _ (CT p)];rfl,by show _=some (AObj.row 68 [_,_,_,_,_,A2 _ (Be p)]);rw [Bv _ (CT p)];rfl⟩,r9,r9,r9,r9,o9,r9,r9,⟨hlb _,rfl⟩,⟨by show AB _ (Bs _++[_])=true;rw [CG (Eb _)];rfl,by show _=some (AObj.row 3 (At _ (Bs _++[_])));rw [CF (Eb _)];rfl⟩,⟨by show AB _ (List.map _ _++[_])=true;rw [CG (EE _)];rfl,by show _=some (AObj.row 41 (At _ (List.map _ _++[_])));rw [CF (EE _)];rfl⟩,o9 (AJ _),trivial⟩⟩
   ·conv=>whnf
    refine fin hx (k3 rfl hid _ (by rw [hG,show m-(j+1)=0 by omega];exact TO _ _ _ _)) (rs:=[0,1,2,3,4,8]) ?_
    exact ⟨⟨rfl,by decide,⟨r9,r9,r9,r9,r9,trivial⟩,⟨r9,⟨by show (true && (true && (true && (_ && (_ && (bd _ (Be p) && true))))))=true;rw [Bz _ (CT p)];rfl,by show _=some (AObj.row 68 [_,_,_,_,_,A2 _ (Be p)]);rw [Bv _ (CT p)];rfl⟩,r9,r9,r9,r9,trivial⟩⟩,rfl,by intro d hd;simp at hd;subst hd;first|(show 5<6;decide)|(show 5<8;decide)⟩
  ·conv=>whnf
   refine Ag (a:=((j+1:Nat):Int)) (b:=lg) rfl rfl (fun hlt=>?_) (fun hge=>?_)
   ·have hjm:j+1<m:=by omega
    obtain ⟨cp,hrd⟩:=hBr (j+1) hjm
    have hb1:=hBb (j+1) hjm
    obtain ⟨b0,bt,hBe⟩:∃ b0 bt,B (j+1)=b0::bt:=by
     cases hq:B (j+1) with
     | nil=>rw [hq] at hb1;exact absurd hb1.1 (by decide)
     | cons x y=>exact ⟨x,y,rfl⟩
    rw [hBe] at hrd hb1
    conv=>whnf
    refine ESc.fam onF h35 ⟨lg,a,((j+1:Nat):Int)⟩ (honk (j+1) hjm) (hon (j+1) hjm) ?_;conv=>whnf
    repeat' (first|(refine ESc.ov h51 (hrd _ rfl) ?_;conv=>whnf)|(refine w7 rfl rfl (by omega) ?_;conv=>whnf)|fail)
    refine ERound.mk ?_;conv=>whnf
    refine B2 (a:=((j+1:Nat):Int)) (b:=0) rfl rfl (fun h=>by omega) (fun _=>?_);conv=>whnf
    refine Af rfl hnsl ?_;conv=>whnf
    refine Dm (a:=((j+1:Nat):Int)) (b:=(R.length:Int)) rfl rfl (fun hgt=>?_) (fun hle=>?_)
    ·conv=>whnf
     repeat' (first|(refine w13 rfl ?_;conv=>whnf)|fail)
     refine fin hx (k3 rfl hid _ (by rw [hG,Zpb (by omega)];rfl)) (rs:=[0,1,2,3,4,8,10,11]) ?_
     exact ⟨⟨rfl,by decide,⟨r9,r9,r9,r9,r9,trivial⟩,⟨r9,⟨by show (true && (true && (true && (_ && (_ && (bd _ (Be p) && true))))))=true;rw [Bz _ (CT p)];rfl,by show _=some (AObj.row 68 [_,_,_,_,_,A2 _ (Be p)]);rw [Bv _ (CT p)];rfl⟩,r9,r9,r9,r9,o9 (Eb _),o9 (EE _),trivial⟩⟩,rfl,by intro d hd;simp at hd;subst hd;first|(show 5<6;decide)|(show 5<8;decide)⟩
    ·have hxl:((q::S)).length≤j:=hxl
     have hj:j<R.length:=by omega
     have hdR:=(NZ R j).trans (congrArg Ax (Zo2 hj))
     have hro:=hn.rc _ (Zpg hj)
     rw [Zo2 hj,show m-(j+1)=(m-(j+2))+1 by omega] at hG
     have hall:=And.intro hdR (And.intro hro hG)
     clear hdR hro hG
     revert hall
     generalize R[j]=r
     obtain ⟨sl,ba,su⟩:=r
     rintro ⟨hdR,⟨hsl,hsu⟩,hG⟩
     dsimp only at hsl hsu
     have hdR:(Ax R).drop (j*3)=[.int .u8 sl,.bool ba,.int .u32 su]++Ax (R.drop (j+1)):=hdR
     have hG:CM B R (m-1) 1 ⟨[],none⟩=if D9 ⟨sl,ba,su⟩ (B (j+1))=true then none else CM B (R.drop (j+1)) (m-(j+2)) (j+2) (Eh ⟨sl,ba,su⟩ (B (j+1)) ⟨(q::S),p⟩):=hG
     rw [hBe] at hG
     have hcell:∀ (K:List AV→Prop),K [.int .u8 sl,.bool ba,.int .u32 su]→ETake 3 ([.int .u8 sl,.bool ba,.int .u32 su]++Ax (R.drop (j+1))) K:=fun K hk=>CS rfl hk
     have hbad:D9 ⟨sl,ba,su⟩ (b0::bt)=true→∀ s,K (Fa 130) s:=fun h=>k2 rfl hid (by rw [hG,Zoj h])
     have hrb:D9 ⟨sl,ba,su⟩ (b0::bt)=(decide ((Au (b0::bt):Int)≠su) || (decide (b0=78) || (ba && decide (b0≠0)))):=rfl
     have hb78:(78::bt).length=128∧∀ y ∈ 78::bt,y<256:=⟨hb1.1,fun y hy=>by
      rcases Zpp.1 hy with rfl|hy
      ·decide
      ·exact hb1.2 y (by simp [hy])⟩
     have hgo:∀ x',D9 ⟨sl,ba,su⟩ (b0::bt)=false→Eh ⟨sl,ba,su⟩ (b0::bt) ⟨(q::S),p⟩=x'→CM B R (m-1) 1 ⟨[],none⟩=CM B (R.drop (j+1)) (m-(j+2)) (j+2) x':=fun x' h1 h2=>by
      rw [hG,Zon (by rw [h1];decide),h2]
     conv=>whnf
     refine Iw (a:=((j+1:Nat):Int)) (b:=1) rfl rfl (by omega) ?_
     rw [hsub]
     conv=>whnf
     refine A8 rfl hnsl rfl hj ?_
     rw [hdR]
     conv=>whnf
     refine hcell _ ?_;conv=>whnf
     refine ESc.inl h67 ?_;conv=>whnf
     refine ESc.ov h107 (G0 (e:=5) (bs:=b0::bt) rfl hb1.1 hb1.2) ?_;conv=>whnf
     refine ⟨rfl,?_⟩;conv=>whnf
     refine B7 (a:=((Au (b0::bt):Nat):Int)) (b:=su) rfl rfl (fun h1=>?_) (fun h1=>?_)
     ·conv=>whnf
      repeat' (first|(refine w13 rfl ?_;conv=>whnf)|fail)
      refine Ep ?_;conv=>whnf
      exact hbad (by rw [hrb,Zok h1];rfl) _
     ·conv=>whnf
      refine Cy rfl rfl (by omega) (by omega) ?_;conv=>whnf
      refine B2 (a:=((b0:Nat):Int)) (b:=78) rfl rfl (fun h2=>?_) (fun h2=>?_)
      ·conv=>whnf
       repeat' (first|(refine w13 rfl ?_;conv=>whnf)|fail)
       refine Ep ?_;conv=>whnf
       exact hbad (by rw [hrb,Zok (show b0=78 by omega)];simp) _
      ·cases ba
       ·have hnb:D9 ⟨sl,false,su⟩ (b0::bt)=false:=by rw [hrb,Zow (by simpa using h1),Zow (show ¬ b0=78 by omega)];rfl
        conv=>whnf
        refine B2 (a:=sl) (b:=255) rfl rfl (fun h255=>?_) (fun h255=>?_)
        ·conv=>whnf
         repeat' (first|((first|refine w7 rfl rfl (by omega) ?_|refine w12 rfl ?_|refine ⟨rfl,?_⟩);conv=>whnf)|fail)
         refine ⟨(j+2,⟨(q::S),some (b0::bt)⟩),⟨by show j+2≤m;omega,NC hx (by first|exact hb78|exact hb1),by show ((q::S)).length≤j+1;omega,fun _=>⟨rfl,hid,hgo _ hnb (by unfold Eh FX;rw [Zoj h255];rfl)⟩⟩,by show m-(j+2)<m-(j+1);omega,Pb (S:=(q::S)) (lg:=lg) (i:=j+2) (k:=j+1) (a:=a) (see:=b0::bt) (cp:=cp) (p':=p) (rs:=[0,1,2,3,4,5,6,7,8,9,10,11,12]) (n:=⟨nid,nag,nsq,nst,.fz R.length none (Ax R),R⟩) hcf' hdf rfl ?_⟩
         exact ⟨rfl,by decide,⟨r9,r9,r9,r9,r9,r9,trivial⟩,⟨r9,r9,r9,r9,r9,r9,o9,r9,r9,⟨hlb _,rfl⟩,o9 (Eb _),o9 (EE _),o9 (AJ _),trivial⟩⟩
        ·conv=>whnf
         repeat' (first|(refine EB (q':=.i64) rfl (i64_in (by omega)) ?_;conv=>whnf)|(refine BX (m:=1) rfl rfl rfl rfl (by simp [Bs]) rfl (by decide) (by simp at hxl;omega) ?_;conv=>whnf)|((first|refine w7 rfl rfl (by omega) ?_|refine w12 rfl ?_|refine ⟨rfl,?_⟩);conv=>whnf)|fail)
         refine ⟨(j+2,⟨(q::S)++[(sl,b0::bt)],p⟩),⟨by show j+2≤m;omega,ND hx (by omega) hsl (by first|exact hb78|exact hb1),by show ((q::S)++[(sl,b0::bt)]).length≤j+1;rw [Zot];show _+1≤j+1;omega,fun _=>⟨rfl,hid,hgo _ hnb (by unfold Eh FX;rw [Zon h255];rfl)⟩⟩,by show m-(j+2)<m-(j+1);omega,Pc (S:=(q::S)) (lg:=lg) (i:=j+2) (k:=j+1) (a:=a) (sl:=sl) (see:=b0::bt) (cp:=cp) (p:=p) (rs:=[0,1,2,3,4,5,6,7,8,9,16,17,12]) (n:=⟨nid,nag,nsq,nst,.fz R.length none (Ax R),R⟩) hcf' hdf rfl ?_ trivial⟩
         exact ⟨rfl,by decide,⟨r9,r9,r9,r9,r9,r9,trivial⟩,⟨r9,⟨by show (true && (true && (true && (_ && (_ && (bd _ (Be p) && true))))))=true;rw [Bz _ (CT p)];rfl,by show _=some (AObj.row 68 [_,_,_,_,_,A2 _ (Be p)]);rw [Bv _ (CT p)];rfl⟩,r9,r9,r9,r9,o9,r9,r9,⟨hlb _,rfl⟩,⟨by show AB _ (Bs _++[_])=true;rw [CG (Eb _)];rfl,by show _=some (AObj.row 3 (At _ (Bs _++[_])));rw [CF (Eb _)];rfl⟩,⟨by show AB _ (List.map _ _++[_])=true;rw [CG (EE _)];rfl,by show _=some (AObj.row 41 (At _ (List.map _ _++[_])));rw [CF (EE _)];rfl⟩,o9 (AJ _),trivial⟩⟩
       ·conv=>whnf
        refine Cy rfl rfl (by omega) (by omega) ?_;conv=>whnf
        refine B7 (a:=((b0:Nat):Int)) (b:=0) rfl rfl (fun h3=>?_) (fun h3=>?_)
        ·conv=>whnf
         repeat' (first|(refine w13 rfl ?_;conv=>whnf)|fail)
         refine Ep ?_;conv=>whnf
         exact hbad (by rw [hrb,Zok (show b0≠0 by omega)];simp) _
        ·have hnb:D9 ⟨sl,true,su⟩ (b0::bt)=false:=by rw [hrb,Zow (by simpa using h1),Zow (show ¬ b0=78 by omega),Zow (show ¬ b0≠0 by omega)];rfl
         conv=>whnf
         refine Cy rfl rfl (by omega) (by omega) ?_;conv=>whnf
         refine B2 (a:=sl) (b:=255) rfl rfl (fun h255=>?_) (fun h255=>?_)
         ·conv=>whnf
          repeat' (first|((first|refine w7 rfl rfl (by omega) ?_|refine w12 rfl ?_|refine ⟨rfl,?_⟩);conv=>whnf)|fail)
          refine ⟨(j+2,⟨(q::S),some (78::bt)⟩),⟨by show j+2≤m;omega,NC hx (by first|exact hb78|exact hb1),by show ((q::S)).length≤j+1;omega,fun _=>⟨rfl,hid,hgo _ hnb (by unfold Eh FX;rw [Zoj h255];rfl)⟩⟩,by show m-(j+2)<m-(j+1);omega,Pb (S:=(q::S)) (lg:=lg) (i:=j+2) (k:=j+1) (a:=a) (see:=78::bt) (cp:=cp) (p':=p) (rs:=[0,1,2,3,4,5,6,7,8,9,10,11,12]) (n:=⟨nid,nag,nsq,nst,.fz R.length none (Ax R),R⟩) hcf' hdf rfl ?_⟩
          exact ⟨rfl,by decide,⟨r9,r9,r9,r9,r9,r9,trivial⟩,⟨r9,r9,r9,r9,r9,r9,o9,r9,r9,⟨hlb _,rfl⟩,o9 (Eb _),o9 (EE _),o9 (AJ _),trivial⟩⟩
         ·conv=>whnf
          repeat' (first|(refine EB (q':=.i64) rfl (i64_in (by omega)) ?_;conv=>whnf)|(refine BX (m:=1) rfl rfl rfl rfl (by simp [Bs]) rfl (by decide) (by simp at hxl;omega) ?_;conv=>whnf)|((first|refine w7 rfl rfl (by omega) ?_|refine w12 rfl ?_|refine ⟨rfl,?_⟩);conv=>whnf)|fail)
          refine ⟨(j+2,⟨(q::S)++[(sl,78::bt)],p⟩),⟨by show j+2≤m;omega,ND hx (by omega) hsl (by first|exact hb78|exact hb1),by show ((q::S)++[(sl,78::bt)]).length≤j+1;rw [Zot];show _+1≤j+1;omega,fun _=>⟨rfl,hid,hgo _ hnb (by unfold Eh FX;rw [Zon h255];rfl)⟩⟩,by show m-(j+2)<m-(j+1);omega,Pc (S:=(q::S)) (lg:=lg) (i:=j+2) (k:=j+1) (a:=a) (sl:=sl) (see:=78::bt) (cp:=cp) (p:=p) (rs:=[0,1,2,3,4,5,6,7,8,9,16,17,12]) (n:=⟨nid,nag,nsq,nst,.fz R.length none (Ax R),R⟩) hcf' hdf rfl ?_ trivial⟩
          exact ⟨rfl,by decide,⟨r9,r9,r9,r9,r9,r9,trivial⟩,⟨r9,⟨by show (true && (true && (true && (_ && (_ && (bd _ (Be p) && true))))))=true;rw [Bz _ (CT p)];rfl,by show _=some (AObj.row 68 [_,_,_,_,_,A2 _ (Be p)]);rw [Bv _ (CT p)];rfl⟩,r9,r9,r9,r9,o9,r9,r9,⟨hlb _,rfl⟩,⟨by show AB _ (Bs _++[_])=true;rw [CG (Eb _)];rfl,by show _=some (AObj.row 3 (At _ (Bs _++[_])));rw [CF (Eb _)];rfl⟩,⟨by show AB _ (List.map _ _++[_])=true;rw [CG (EE _)];rfl,by show _=some (AObj.row 41 (At _ (List.map _ _++[_])));rw [CF (EE _)];rfl⟩,o9 (AJ _),trivial⟩⟩
   ·conv=>whnf
    refine fin hx (k3 rfl hid _ (by rw [hG,show m-(j+1)=0 by omega];exact TO _ _ _ _)) (rs:=[0,1,2,3,4,8,10,11]) ?_
    exact ⟨⟨rfl,by decide,⟨r9,r9,r9,r9,r9,trivial⟩,⟨r9,⟨by show (true && (true && (true && (_ && (_ && (bd _ (Be p) && true))))))=true;rw [Bz _ (CT p)];rfl,by show _=some (AObj.row 68 [_,_,_,_,_,A2 _ (Be p)]);rw [Bv _ (CT p)];rfl⟩,r9,r9,r9,r9,o9 (Eb _),o9 (EE _),trivial⟩⟩,rfl,by intro d hd;simp at hd;subst hd;first|(show 5<6;decide)|(show 5<8;decide)⟩
end Go.AM
namespace Go.AM
attribute [local irreducible] W
open X
section
variable {t:AT}{s:St}{k:AV→St→Prop}{x y:AO}
theorem Zk (hx:ev x t=.some .nilp) (hy:ev y t=.some .nilp) (hk:k (.bool false) s):EPrim (.eqb 1 true x y) t s k:=by
 refine EPrim.mk (v:=.bool false) (s':=s) (fun e rec=>?_) hk
 show wth x t _=_;unfold wth;rw [hx]
 show wth y t _=_;unfold wth;rw [hy];rfl
theorem Zj {l:List AV}(hx:ev x t=.some (.fp l)) (hy:ev y t=.some .nilp) (hk:k (.bool true) s):EPrim (.eqb 1 true x y) t s k:=by
 refine EPrim.mk (v:=.bool true) (s':=s) (fun e rec=>?_) hk
 show wth x t _=_;unfold wth;rw [hx]
 show wth y t _=_;unfold wth;rw [hy];rfl
end
variable {x:CDA}
theorem Y7 (h:Cb x=0):x.c.may∧Bi x.d=true∧(x.d.us.length:Int)=x.c.log+1∧(0≤x.a∧x.a<x.c.log)∧x.d.dead=false:=by
 unfold Cb at h
 split at h
 ·split at h
  ·split at h
   ·split at h
    ·cases h
    ·rename_i h1 h2 h3 h4
     exact ⟨h1,h2.1,h2.2,h3,by simpa using h4⟩
   ·cases h
  ·cases h
 ·cases h
theorem TY {a:Int}:∀ {L:List WR}{b:List Nat},BW a L=some b→∃ w ∈ L,w.b=b
 | [],_,h=>by cases h
 | w::L,b,h=>by
  unfold BW at h
  split at h
  ·exact ⟨w,by simp,Zpn h⟩
  ·obtain ⟨v,hv,e⟩:=TY h;exact ⟨v,by simp [hv],e⟩
variable {d:DK}{p:Int}
theorem Wi (hd:d.ok) (hk:Bi d=true) (hp:0≤p∧p<d.us.length):((AY d p).length=0∨(AY d p).length=128)∧∀ y ∈ AY d p,y<256:=by
 obtain ⟨h1,h2,h3,h4,h5⟩:=KE hd.a hk
 unfold AY EI
 cases hq:BW p d.ws.reverse with
 | some b=>
  obtain ⟨w,hw,rfl⟩:=TY hq
  have hw:=List.mem_reverse.1 hw
  exact ⟨h3 w hw,(hd.a.ws w hw).b.2⟩
 | none=>
  have hl:p.toNat<d.us.length:=by omega
  obtain ⟨b,hb,hbu⟩:=hd.a.bs.get (Zof hl)
  show ((d.bs.getD p.toNat []).length=0∨(d.bs.getD p.toNat []).length=128)∧∀ y ∈ d.bs.getD p.toNat [],y<256
  rw [Zo8,hb]
  exact ⟨h2 b (Zo1 hb),hbu.2⟩
theorem Zmw (hk:Bi d=true) (hdd:d.dead=false) {p:Int}(hp:0≤p∧p<d.us.length):Ih d p=0:=by
 unfold Ih
 rw [Zoj hk,Zoj hp,hdd];rfl
theorem OO (hx:x.ok) (h:Cb x=0) (i:Nat):(Bo x i).length=128∧∀ y ∈ Bo x i,y<256:=by
 obtain ⟨h1,h2,h3,h4,h5⟩:=Y7 h
 have g0:0≤(x.a+(i:Int)) % x.c.log:=Zpz _ (by omega)
 have g1:(x.a+(i:Int)) % x.c.log<x.c.log:=Zp1 _ (by omega)
 obtain ⟨b1,b2⟩:=Wi hx.d h2 (p:=1+(x.a+(i:Int)) % x.c.log) (by omega)
 exact ⟨H9 b1,Hh b2⟩
theorem Znr (hx:x.ok) (h:Cb x=0):RB x.d x.a x.c.log x.c.log.toNat (Bo x):=by
 obtain ⟨h1,h2,h3,h4,h5⟩:=Y7 h
 have hm:=h1
 unfold Cfg.may at hm
 have hl:=Eo h1
 have g0:∀ i:Nat,0≤(x.a+(i:Int)) % x.c.log:=fun i=>Zpz _ (by omega)
 have g1:∀ i:Nat,(x.a+(i:Int)) % x.c.log<x.c.log:=fun i=>Zp1 _ (by omega)
 have hok:∀ i:Nat,DKA.ok ⟨x.d,1+(x.a+(i:Int)) % x.c.log⟩:=fun i=>⟨hx.d,by have:=g0 i;have:=g1 i;show Aj (1+(x.a+(i:Int)) % x.c.log);unfold Aj;omega⟩
 have he:∀ i:Nat,DKA.e ⟨x.d,1+(x.a+(i:Int)) % x.c.log⟩=0:=fun i=>Zmw (p:=1+(x.a+(i:Int)) % x.c.log) h2 h5 (by have:=g0 i;have:=g1 i;omega)
 refine ⟨by omega,by omega,h4,fun i _=>OO hx h i,fun s hz=>?_,fun i hi=>⟨DY (DKA.b ⟨x.d,1+(x.a+(i:Int)) % x.c.log⟩),fun s hz=>Zgb (hok i) hz (he i)⟩⟩
 have:=Zj6 (hok 0) hz
 unfold HO at this
 rw [Zoj (he 0)] at this
 exact this
def ntB (b:List Nat):Nt:=⟨(As b).id,(As b).age,(As b).seq,(As b).stripe,.fz (As b).recs.length none (Ax (As b).recs),(As b).recs⟩
theorem O0 (b:List Nat):(As b).recs.length=C0 b:=by show ((List.range _).map _).length=_;simp
variable {b:List Nat}
theorem WU (hb:∀ y ∈ b,y<256):(ntB b).ok:=by
 have n4:∀ a,Ak b a 4<4294967296:=fun a=>HL hb 4
 have n1:∀ a,Ak b a 1<256:=fun a=>HL hb 1
 have hcnt:C0 b≤17:=Nat.min_le_right _ _
 refine ⟨⟨Zpy _,Int.ofNat_lt.2 (n4 1)⟩,⟨Zpy _,Int.ofNat_lt.2 (n4 5)⟩,⟨Zpy _,Int.ofNat_lt.2 (n4 9)⟩,?_,.inr (.inr ⟨none,rfl,ER _⟩),?_,by show (As b).recs.length<_;rw [O0];omega⟩
 ·have:=n1 13
  show Aj ((Ak b 13 1:Nat):Int)
  unfold Aj;omega
 ·intro r hr
  obtain ⟨i,_,rfl⟩:=Zpf.1 (show r ∈ (List.range (C0 b)).map (HT b) from hr)
  exact ⟨⟨Zpy _,Int.ofNat_lt.2 (n1 _)⟩,⟨Zpy _,Int.ofNat_lt.2 (n4 _)⟩⟩
theorem Zh5 (hb:b.length=128):DP ⟨AA b,b⟩=if Cz b=true then .tup [.agg (Cw (ntB b) (ntB b).v),.int .i64 0] else .tup [.agg Ew,.int .i64 90]:=by
 have hp:Aa b=b:=CH hb
 unfold DP
 dsimp only
 rw [hp,← O0]
 rfl
theorem UT (x:CDA):AM.hf (Fz x)=true:=by
 unfold Fz
 split
 ·split
  ·split
   ·rfl
   ·unfold HV
    split
    ·show (((true && (true && (true && (AM.hf (F1 _) && (AM.hf (Dx _) && (AM.hf (Be _) && true)))))):Bool) && (true && (true && true)))=true
     rw [Rg,Jy,CT];rfl
    ·rfl
  ·rfl
 ·rfl
def drF:Fam CDA:=⟨CDA.ok,CDA.args,Fz,fun x y hx hy h=>by rw [CDA.inja hx hy h]⟩
theorem Zmy {e:Env}(hE:EM P e) (h65:Con e 103 askF.O) (h50:Con e 73 dchkF.O) (h35:Con e 74 onF.O) (h51:Con e 78 DU) (h52:Con e 26 ndF.O) (h66:Inl e 104 Xl [.tmp 6]) (h67:Inl e 68 KQ [.tmp 2]) (h107:Con e 95 DO)
 : OvOk P 82 drF.O:=by
 refine Bk g82.b fun x hx=>?_
 refine ⟨CDA.hfa hx,UT x,C.of_W g82.f g82.c ?_⟩
 have hfin:∀ u s,u=Fz x→Frz s u (drF.out x):=fun u s h=>by rw [h];exact .plain _ (UT x)
 obtain ⟨O,hO⟩:∃ O,O=drF.out x:=⟨_,rfl⟩
 rw [← hO] at hfin ⊢
 by_cases he:Cb x=0
 ·have hres:=Zkb (K:=fun v s'=>Frz s' v O) hE h50 h35 h51 h52 h66 h67 h107 hx.c hx.d (Znr hx he) (WU (OO hx he 0).2) rfl (by rw [show (ntB (Bo x 0)).recs.length=C0 (Bo x 0) from O0 _];exact Nat.min_le_right _ _) (Cz (Bo x 0)) (Zh5 (OO hx he 0).1)
   (fun h s=>hfin _ s (by unfold Fz;rw [Zoj he,Zon (by rw [h];simp)]))
   (fun h h1 s=>hfin _ s (by unfold Fz;rw [Zoj he,Zon (fun h2=>h1 h2.2)]))
   (fun h h1 h2 s=>hfin _ s (by unfold Fz;rw [Zoj he,Zoj ⟨h,h1⟩];exact (by rw [show CM (Bo x) (As (Bo x 0)).recs (x.c.log.toNat-1) 1 ⟨[],none⟩=none from h2])))
   (fun h h1 y h2 s=>hfin _ s (by unfold Fz;rw [Zoj he,Zoj ⟨h,h1⟩];exact (by rw [show CM (Bo x) (As (Bo x 0)).recs (x.c.log.toNat-1) 1 ⟨[],none⟩=some y from h2];rfl)))
  have hA:askF.out x=.nilp:=by show (if Cb x=0 then _ else _)=_;rw [Zoj he]
  have hdf:=CZ hx.d.a.wl hx.d.a.bl (d:=x.d.dead)
  obtain ⟨c,d,a⟩:=x
  obtain ⟨id,mb,ch,rw',lg,hdd⟩:=c
  obtain ⟨bv,us,bs,wv,ws,dd⟩:=d
  dsimp only at hdf
  show W P 0 none KR (Ah [.agg [.int .u32 id,.int .i64 mb,.int .i64 ch,.int .i64 rw',.int .i64 lg,.int .i64 hdd],.agg [bv,wv,.bool dd],.int .i64 a] 0 .lf) St0 [] _
  refine Av hE ?_;conv=>whnf
  refine Av hE ?_;conv=>whnf
  refine ESc.fam askF h65 ⟨⟨id,mb,ch,rw',lg,hdd⟩,⟨bv,us,bs,wv,ws,dd⟩,a⟩ hx (u:=.nilp) hA ?_;conv=>whnf
  repeat' (first|(refine Zk rfl rfl ?_;conv=>whnf)|fail)
  refine Av hE ?_;conv=>whnf
  refine W.tells (Abs.tells (tl:=[(3,.ptr 0 0),(4,.ptr 1 0),(2,.int .i64 a),(6,.ptr 2 0),(7,.ptr 3 0),(8,.ptr 4 0),(10,.ptr 5 0)]) (os:=[.row 24 [.int .u32 id,.int .i64 mb,.int .i64 ch,.int .i64 rw',.int .i64 lg,.int .i64 hdd],.row 28 [bv,wv,.bool dd],.row 68 zFc,.row 3 [.int .i64 0],.row 37 [.int .i64 0],.row 87 Ew]) (rs:=[0,1,2,3,4,5]) .a) (Av hE hres)
 ·have hO2:=hfin (Fa (Cb x))
  have hA:askF.out x=.fp [.int .i64 (Cb x)]:=by show (if Cb x=0 then _ else _)=_;rw [Zon he]
  have hD:Fa (Cb x)=Fz x:=by unfold Fz;rw [Zon he]
  obtain ⟨E,hE'⟩:∃ E,E=Cb x:=⟨_,rfl⟩
  rw [← hE'] at hA hD hO2 he
  obtain ⟨c,d,a⟩:=x
  obtain ⟨id,mb,ch,rw',lg,hdd⟩:=c
  obtain ⟨bv,us,bs,wv,ws,dd⟩:=d
  show W P 0 none KR (Ah [.agg [.int .u32 id,.int .i64 mb,.int .i64 ch,.int .i64 rw',.int .i64 lg,.int .i64 hdd],.agg [bv,wv,.bool dd],.int .i64 a] 0 .lf) St0 [] _
  refine Av hE ?_;conv=>whnf
  refine Av hE ?_;conv=>whnf
  refine ESc.fam askF h65 ⟨⟨id,mb,ch,rw',lg,hdd⟩,⟨bv,us,bs,wv,ws,dd⟩,a⟩ hx (u:=.fp [.int .i64 E]) hA ?_;conv=>whnf
  repeat' (first|(refine Zj rfl rfl ?_;conv=>whnf)|(refine EHead.mk rfl ?_;conv=>whnf)|(refine ⟨rfl,?_⟩;conv=>whnf)|fail)
  refine ⟨.inr rfl,_,_,rfl,rfl,?_⟩
  exact hO2 _ hD
end Go.AM
namespace Go.AM
attribute [local irreducible] W
open X
variable {b:List Nat}
theorem OT (h:b.length=0∨b.length=128) (hb:∀ y ∈ b,y<256):BAt (AA (Aa b)) (Aa b)∧(Aa b).length=128:=by
 have hl:=H9 h
 exact ⟨Hi ⟨hl,Hh hb⟩,hl⟩
theorem K2 {us:List AV}{bs:List (List Nat)}(h:All2 BAt us bs):All2 BAt (us.map Ao) bs:=by
 induction h with
 | nil=>exact .nil
 | cons a b ih=>exact .cons (Ru a) ih
variable {a:Int}
theorem LM {L:List WR}{w:WR}(h:w ∈ A5 a (L.map An)):∃ v ∈ L,w=An v∧v.at_≠a:=by
 obtain ⟨h1,h2⟩:=List.mem_filter.1 h
 obtain ⟨v,hv,rfl⟩:=Zpf.1 h1
 refine ⟨v,hv,rfl,fun e=>?_⟩
 unfold DH at h2
 simp at h2
 exact h2 e
theorem Zlh (n:Nat) (L:List WR) (h:L.length≤n):Sl 2 L.length (Ad L) (wvF n L):=by
 cases n with
 | zero=>
  have:L=[]:=Zpd.1 (by omega)
  subst this;exact .inl ⟨rfl,rfl,rfl⟩
 | succ n=>exact .inr (.inr ⟨none,rfl,Dt L⟩)
variable {x:DKW}
theorem Zit (hx:x.ok) (h:Cg x.d x.a x.b=0):(Ct x).ok:=by
 obtain ⟨q1,q2,q3,q4⟩:=JK h
 have hbl:=HH q3
 obtain ⟨p1,p2⟩:=OT hbl hx.b.2
 have hkl:=Oc x.a (x.d.ws.map An)
 rw [Zom] at hkl
 have hm:=hx.d.m
 refine ⟨⟨?_,Om p1 (K2 hx.d.a.bs) _,Zlh _ _ hkl,fun w hw=>?_⟩,?_,?_,fun b hb=>?_,fun w hw=>?_⟩
 ·refine .inr (.inr ⟨none,?_,by rw [Zpi]⟩)
  show AV.fz x.d.us.length none _=.fz ((x.d.us.map Ao).set _ _).length none _
  rw [List.length_set,Zom];rfl
 ·obtain ⟨v,hv,rfl,_⟩:=LM hw
  exact HF (hx.d.a.ws v hv)
 ·show ((x.d.us.map Ao).set _ _).length<_
  rw [List.length_set,Zom];exact hx.d.n
 ·show (A5 x.a (x.d.ws.map An)).length<_;omega
 ·rcases List.mem_or_eq_of_mem_set hb with h|rfl
  ·exact hx.d.b b h
  ·omega
 ·obtain ⟨v,hv,rfl,_⟩:=LM hw
  exact hx.d.w v hv
theorem QL (x:DKW):(Ct x).us.length=x.d.us.length:=by
 show ((x.d.us.map Ao).set _ _).length=_
 rw [List.length_set,Zom]
theorem dskB_iff {x:DK}:Bi x=true↔(1≤x.us.length∧x.us.length≤256∧x.ws.length≤1024)∧(∀ b ∈ x.bs,AE b.length=false)∧(∀ w ∈ x.ws,Ch x.us.length w=false)∧(x.dead=true→x.ws.length=0∧∀ b ∈ x.bs,Hv b.length=false):=by
 unfold Bi
 simp only [Zoh,Zpc,Bool.not_eq_true',List.any_eq_false,Zpf,forall_exists_index,and_imp,forall_apply_eq_imp_iff₂,Zqg,Bool.and_eq_false_iff,Zp0,Zpl]
 constructor
 ·rintro ⟨⟨⟨h1,h2⟩,h3⟩,h4⟩
  refine ⟨h1,h2,h3,fun hd=>?_⟩
  rcases h4 with h4|⟨h4,h5⟩
  ·rw [hd] at h4;cases h4
  ·exact ⟨by omega,h5⟩
 ·rintro ⟨h1,h2,h3,h4⟩
  refine ⟨⟨⟨h1,h2⟩,h3⟩,?_⟩
  cases hd:x.dead
  ·exact .inl rfl
  ·obtain ⟨h5,h6⟩:=h4 hd
   exact .inr ⟨by omega,h6⟩
theorem Zfw (hx:x.ok) (h:Cg x.d x.a x.b=0):Bi (Ct x)=true:=by
 obtain ⟨q1,q2,q3,q4⟩:=JK h
 obtain ⟨d1,d2,d3,d4⟩:=dskB_iff.1 q1
 have hbl:=HH q3
 obtain ⟨p1,p2⟩:=OT hbl hx.b.2
 have hkl:=Oc x.a (x.d.ws.map An)
 rw [Zom] at hkl
 refine dskB_iff.2 ⟨?_,fun b hb=>?_,fun w hw=>?_,fun hd=>?_⟩
 ·rw [QL]
  have:(Ct x).ws.length≤x.d.ws.length:=hkl
  omega
 ·rcases List.mem_or_eq_of_mem_set hb with h|rfl
  ·exact d2 b h
  ·rw [p2];rfl
 ·rw [QL]
  obtain ⟨v,hv,rfl,_⟩:=LM hw
  exact d3 v hv
 ·have hd:x.d.dead=true:=hd
  rw [q4] at hd;cases hd
variable {p:Int}
theorem Zah (hp:p≠a) (L:List WR):BW p (A5 a (L.map An)).reverse=BW p L.reverse:=by
 have h1:(A5 a (L.map An)).reverse=A5 a (L.reverse.map An):=by unfold A5;rw [← List.filter_reverse,← List.map_reverse]
 rw [h1]
 generalize L.reverse=M
 induction M with
 | nil=>rfl
 | cons w M ih=>
  rw [Zpv]
  by_cases ha:w.at_=a
  ·have e:A5 a (An w::M.map An)=A5 a (M.map An):=by
    unfold A5 DH;rw [List.filter_cons_of_neg];show ¬ (!decide (w.at_=a))=true;simp [ha]
   rw [e,ih]
   show _=if w.at_=p then _ else _
   rw [Zon (fun e:w.at_=p=>hp (by rw [← e,ha]))]
  ·have e:A5 a (An w::M.map An)=An w::A5 a (M.map An):=by
    unfold A5 DH;rw [List.filter_cons_of_pos];show (!decide (w.at_=a))=true;simp [ha]
   rw [e]
   show (if w.at_=p then some w.b else _)=if w.at_=p then some w.b else _
   rw [ih]
theorem Zag (hp:p=a) (L:List WR):BW p (A5 a (L.map An)).reverse=none:=by
 have hno:∀ M:List WR,(∀ w ∈ M,w.at_≠p)→BW p M=none:=fun M=>by
  induction M with
  | nil=>intro _;rfl
  | cons w M ih=>
   intro h
   show (if w.at_=p then _ else _)=_
   rw [Zon (h w (by simp)),ih fun v hv=>h v (by simp [hv])]
 refine hno _ fun w hw=>?_
 obtain ⟨v,_,rfl,hv⟩:=LM (List.mem_reverse.1 hw)
 rw [hp];exact hv
theorem Vf (hx:x.ok) (h:Cg x.d x.a x.b=0) (hp:0≤p):AY (Ct x) p=if p=x.a then Aa x.b else AY x.d p:=by
 obtain ⟨q1,q2,q3,q4⟩:=JK h
 have hl:=hx.d.a.bs.length
 unfold AY EI
 by_cases hpa:p=x.a
 ·rw [Zoj hpa]
  show (BW p (A5 x.a (x.d.ws.map An)).reverse).getD ((x.d.bs.set x.a.toNat (Aa x.b)).getD p.toNat [])=_
  rw [Zag hpa,hpa]
  show (x.d.bs.set x.a.toNat (Aa x.b)).getD x.a.toNat []=_
  rw [Zo8,List.getElem?_set_self (by omega)];rfl
 ·rw [Zon hpa]
  show (BW p (A5 x.a (x.d.ws.map An)).reverse).getD ((x.d.bs.set x.a.toNat (Aa x.b)).getD p.toNat [])=_
  rw [Zah hpa]
  congr 1
  rw [Zo8,Zo8,List.getElem?_set_ne (by omega)]
structure RDK (lg:Int) (d:DK):Prop where
 ok:d.ok
 dsk:Bi d=true
 len:(d.us.length:Int)=lg+1
 dead:d.dead=false
 lo:1≤lg∧lg≤255
variable {lg:Int}{d:DK}
theorem RDK.place (h:RDK lg d) (i:Nat):0≤(a+(i:Int)) % lg∧(a+(i:Int)) % lg<lg:=by
 have:=h.lo
 exact ⟨Zpz _ (by omega),Zp1 _ (by omega)⟩
theorem RDK.wrt (h:RDK lg d) (i:Nat) (hb:b.length=0∨b.length=128):Cg d (1+(a+(i:Int)) % lg) b=0:=by
 have hp:=h.place (a:=a) i
 have hl:=h.len
 unfold Cg Ic
 rw [Zoj h.dsk,Zoj (show 0≤1+(a+(i:Int)) % lg∧1+(a+(i:Int)) % lg<d.us.length by omega)]
 have ho:AE b.length=false:=by rcases hb with h|h <;> rw [h] <;> rfl
 simp [ho,h.dead]
theorem RDK.wok (h:RDK lg d) (i:Nat) {u:AV}(hu:BAt u b) (hb:b.length=0∨b.length=128):DKW.ok ⟨d,1+(a+(i:Int)) % lg,u,b⟩:=by
 have hp:=h.place (a:=a) i
 have hl:=h.lo
 exact ⟨h.ok,by unfold Aj;dsimp only;omega,hu,by dsimp only;omega⟩
theorem UC {i j:Nat}(hij:i<j) (hj:(j:Int)<lg+(i:Int)) (hl:1≤lg):(a+(i:Int)) % lg≠(a+(j:Int)) % lg:=by
 intro e
 have h1:=Int.emod_emod_of_dvd (a+(j:Int)) (Int.dvd_refl lg)
 have h2:(a+(j:Int)-(a+(i:Int))) % lg=0:=Int.emod_eq_emod_iff_emod_sub_eq_zero.1 e.symm
 rw [show a+(j:Int)-(a+(i:Int))=(j:Int)-(i:Int) by omega,Int.emod_eq_of_lt (by omega) (by omega)] at h2
 omega
end Go.AM
namespace Go.AM
attribute [local irreducible] W
open X
def AU (cs:List AV) (L:List WR):List AV:=L.foldl (fun cs w=>cs.set w.at_.toNat w.u) cs
def Fg (bs:List (List Nat)) (L:List WR):List (List Nat):=L.foldl (fun bs w=>bs.set w.at_.toNat w.b) bs
theorem IA:∀ (L:List WR) (cs:List AV),(AU cs L).length=cs.length
 | [],_=>rfl
 | w::L,cs=>by show (AU (cs.set _ _) L).length=_;rw [IA L,List.length_set]
theorem Rk (cs:List AV) (L M:List WR):AU cs (L++M)=AU (AU cs L) M:=by unfold AU;rw [List.foldl_append]
theorem OZ:∀ (L:List WR) {cs:List AV}{bs:List (List Nat)},All2 BAt cs bs→(∀ w ∈ L,BAt w.u w.b)→All2 BAt (AU cs L) (Fg bs L)
 | [],_,_,h,_=>h
 | w::L,cs,bs,h,hw=>OZ L (Om (hw w (by simp)) h _) (fun v hv=>hw v (by simp [hv]))
theorem Hc {us:List AV}{bs:List (List Nat)}(h:All2 BAt us bs):hfs us=true:=by
 induction h with
 | nil=>rfl
 | cons a b ih=>show (AM.hf _ && hfs _)=true;rw [a.1.hf,ih];rfl
theorem Rm:∀ (L:List WR) (bs:List (List Nat)) {p:Int},0≤p→(∀ w ∈ L,0≤w.at_∧w.at_<bs.length)→(Fg bs L).getD p.toNat []=(BW p L.reverse).getD (bs.getD p.toNat [])
 | [],bs,p,_,_=>rfl
 | w::L,bs,p,hp,h=>by
  show (Fg (bs.set w.at_.toNat w.b) L).getD p.toNat []=_
  obtain ⟨h1,h2⟩:=h w (by simp)
  rw [Rm L _ hp (fun v hv=>by rw [List.length_set];exact h v (by simp [hv])),List.reverse_cons]
  have hl:∀ M:List WR,BW p (M++[w])=match BW p M with|some b=>some b|none=>if w.at_=p then some w.b else none:=fun M=>by
   induction M with
   | nil=>show (if w.at_=p then some w.b else none)=_;rfl
   | cons v M ih=>
    show (if v.at_=p then some v.b else BW p (M++[w]))=_
    rw [ih]
    show _=match (if v.at_=p then some v.b else BW p M:Option (List Nat)) with|some b=>some b|none=>_
    split <;> rfl
  rw [hl]
  cases BW p L.reverse with
  | some b=>rfl
  | none=>
   show (bs.set w.at_.toNat w.b).getD p.toNat []=(if w.at_=p then some w.b else none:Option (List Nat)).getD _
   by_cases e:w.at_=p
   ·rw [Zoj e,e,Zo8,List.getElem?_set_self (by omega)];rfl
   ·rw [Zon e,Zo8,List.getElem?_set_ne (by omega)];rfl
def DW (x:DK):DK:=⟨.fz x.us.length none (AU (x.us.map Ao) (x.ws.map An)),AU (x.us.map Ao) (x.ws.map An),Fg x.bs x.ws,.nils,[],false⟩
def CE (x:DK):DK:=⟨.fz x.us.length none ((AU (x.us.map Ao) (x.ws.map An)).map Ao),(AU (x.us.map Ao) (x.ws.map An)).map Ao,Fg x.bs x.ws,.nils,[],false⟩
theorem Ziz (bs:List (List Nat)):∀ (L:List WR),Fg bs (L.map An)=Fg bs L:=fun L=>by
 unfold Fg
 rw [List.foldl_map];rfl
theorem Rl:∀ (L:List WR) (bs:List (List Nat)) {b:List Nat},b ∈ Fg bs L→b ∈ bs∨∃ w ∈ L,w.b=b
 | [],_,_,h=>.inl h
 | w::L,bs,b,h=>by
  rcases Rl L (bs.set w.at_.toNat w.b) h with h|⟨v,hv,e⟩
  ·rcases List.mem_or_eq_of_mem_set h with h|rfl
   ·exact .inl h
   ·exact .inr ⟨w,by simp,rfl⟩
  ·exact .inr ⟨v,by simp [hv],e⟩
variable {x:DK}
theorem flAt (hx:x.ok):All2 BAt (AU (x.us.map Ao) (x.ws.map An)) (Fg x.bs x.ws):=by
 have:=OZ (x.ws.map An) (K2 hx.a.bs) (fun w hw=>by
  obtain ⟨v,hv,rfl⟩:=Zpf.1 hw
  exact (HF (hx.a.ws v hv)).b)
 rwa [Ziz] at this
theorem RG (hx:x.ok):(DW x).ok:=by
 have hl:(AU (x.us.map Ao) (x.ws.map An)).length=x.us.length:=by rw [IA,Zom]
 refine ⟨⟨.inr (.inr ⟨none,by show AV.fz x.us.length none _=.fz (AU _ _).length none _;rw [hl];rfl,by rw [Zpi]⟩),flAt hx,.inl ⟨rfl,rfl,rfl⟩,fun w hw=>by cases hw⟩,by show (AU _ _).length<_;rw [hl];exact hx.n,by show 0<_;decide,fun b hb=>?_,fun w hw=>by cases hw⟩
 rcases Rl _ _ hb with h|⟨w,hw,rfl⟩
 ·exact hx.b b h
 ·exact hx.w w hw
theorem J6 (hx:x.ok):(CE x).ok:=by
 have hl:((AU (x.us.map Ao) (x.ws.map An)).map Ao).length=x.us.length:=by rw [Zom,IA,Zom]
 have hm:=RG hx
 exact ⟨⟨.inr (.inr ⟨none,by show AV.fz x.us.length none _=.fz (List.map Ao _).length none _;rw [hl];rfl,by rw [Zpi]⟩),K2 hm.a.bs,.inl ⟨rfl,rfl,rfl⟩,fun w hw=>by cases hw⟩,by show (List.map Ao _).length<_;rw [hl];exact hx.n,hm.m,hm.b,fun w hw=>by cases hw⟩
theorem O7 (x:DK):(CE x).us.length=x.us.length:=by show ((AU _ _).map Ao).length=_;rw [Zom,IA,Zom]
theorem Rj (hx:x.ok) (h:Bi x=true):Bi (CE x)=true:=by
 obtain ⟨d1,d2,d3,d4⟩:=dskB_iff.1 h
 refine dskB_iff.2 ⟨?_,fun b hb=>?_,(fun w hw=>by cases hw),(fun hd=>by cases hd)⟩
 ·rw [O7];exact ⟨d1.1,d1.2.1,by show 0≤_;omega⟩
 ·rcases Rl _ _ hb with h|⟨w,hw,rfl⟩
  ·exact d2 b h
  ·have:=d3 w hw
   unfold Ch at this
   simp only [Zp0] at this
   exact this.2
theorem Zj9 (hx:x.ok) (h:Bi x=true) {p:Int}(hp:0≤p):AY (CE x) p=AY x p:=by
 obtain ⟨d1,d2,d3,d4⟩:=dskB_iff.1 h
 have hl:=hx.a.bs.length
 show (none:Option (List Nat)).getD ((Fg x.bs x.ws).getD p.toNat [])=_
 unfold AY EI
 rw [Rm _ _ hp (fun w hw=>by
  have:=d3 w hw
  unfold Ch at this
  simp only [Zp0,Zpl] at this
  omega)]
 rfl
def Lw (x:DK):Int:=if Bi x=true then (if x.dead then 40 else 0) else 8
def FZ (x:DK):AV:=if Lw x=0 then .tup [(CE x).v,.int .i64 0] else .tup [.agg Da,.int .i64 (Lw x)]
def fluF:Fam DK:=⟨DK.ok,fun x=>[x.v],FZ,fun x y hx hy h=>by rw [DK.inj hx.a hy.a (Zor h).1]⟩
theorem Zfn (x:DK):AM.hf (FZ x)=true:=by unfold FZ;split <;> rfl
def Pg:AC:=match a37 with|.mk c _=>c
def WN:AC:=match Pg with
 | .seq _ (.seq _ (.seq _ (.seq _ (.seq _ r))))=>r
 | _=>.skip
def H1:List (Nat×AV):=[(1,.ptr 0 0),(2,.ptr 1 0)]
variable {e:Env}
theorem UZ (hE:EM P e) (h103:Con e 31 Cu) (hx:x.ok) (h1:1≤x.us.length) (wv:AV) (hwv:AM.hf wv=true) (K:AV→St→Prop)
 (hk:∀ s,s.get 2=some (.row 41 (CE x).us)→K (.tup [.agg [.sl 2 0 x.us.length none,.nils,.bool false],.int .i64 0]) s):
 W P 0 none WN (Am H1) (Ac St0 [.row 28 [(DW x).bv,wv,.bool false],.row 28 Da]) [] (Bx [.cells 2 3,.tmp 3] K):=by
 have hmo:=RG hx
 have hlen:(DW x).us.length=x.us.length:=by show (AU _ _).length=_;rw [IA,Zom]
 have htw:=Jx (x:=DW x) ⟨hmo,by rw [hlen];exact h1⟩
 have hv:(DW x).v=.agg [(DW x).bv,.nils,.bool false]:=rfl
 have htw:∀ s,Cu [.agg [(DW x).bv,.nils,.bool false]] s=.ok (.agg [.sl (0+s.next) 0 x.us.length none,.nils,.bool false]) (Ac s [.row 41 (CE x).us]):=fun s=>by
  have:=htw s
  rw [hv] at this
  rw [this,← hlen];rfl
 refine Fv hE ?_
 generalize (DW x).bv=B at *
 conv=>whnf
 repeat' (first|(refine ESc.ov h103 (htw _) ?_;conv=>whnf)|fail)
 exact hk _ rfl
def Zma:AC:=match Pg with
 | .seq _ (.seq _ (.seq _ (.seq _ (.seq l _))))=>l
 | _=>.skip
theorem Zfy (hE:EM P e) (h103:Con e 31 Cu) (hx:x.ok) (hD:Bi x=true) (K:AV→St→Prop)
 (hk:∀ s,s.get 2=some (.row 41 (CE x).us)→K (.tup [.agg [.sl 2 0 x.us.length none,.nils,.bool false],.int .i64 0]) s) (h0:1≤x.ws.length):
 VW P e 0 Zma (Am H1) (Ac St0 [.row 28 [.sl 2 0 x.us.length none,.sl 3 0 x.ws.length none,.bool false],.row 28 Da,.row 41 (x.us.map Ao),.row 77 (Ad (x.ws.map An))]) none [] (Gp (fun t s ds=>W P 0 none WN t s ds (Bx [.cells 2 3,.tmp 3] K)) (Bx [.cells 2 3,.tmp 3] K)):=by
 obtain ⟨d1,d2,d3,d4⟩:=dskB_iff.1 hD
 have hr:=fun wv hwv=>UZ hE h103 hx d1.1 wv hwv K hk
 have hUf:=Kw hx.a
 obtain ⟨W1,hW1⟩:∃ W1,W1=x.ws.map An:=⟨_,rfl⟩
 have hW1l:W1.length=x.ws.length:=by rw [hW1,Zom]
 have hWa:∀ w ∈ W1,w.any∧0≤w.at_∧w.at_<x.us.length:=fun w hw=>by
  rw [hW1] at hw
  obtain ⟨v,hv,rfl⟩:=Zpf.1 hw
  have:=d3 v hv
  unfold Ch at this
  simp only [Zp0,Zpl] at this
  exact ⟨HF (hx.a.ws v hv),by show 0≤v.at_;omega,by show v.at_<_;omega⟩
 have hwf:hfs (Ad W1)=true:=FP fun w hw=>(hWa w hw).1.b.1.hf
 have hm1:(DW x).bv=.fz x.us.length none (AU (x.us.map Ao) W1):=by rw [hW1];rfl
 rw [hm1] at hr
 have hcf:∀ i,hfs (AU (x.us.map Ao) (W1.take i))=true:=fun i=>Hc (OZ (W1.take i) (K2 hx.a.bs) (fun w hw=>(hWa w (Zpm hw)).1.b))
 have hcl:∀ i,(AU (x.us.map Ao) (W1.take i)).length=x.us.length:=fun i=>by rw [IA,Zom]
 have hwn:=hx.m
 rw [← hW1]
 rw [← hW1l] at h0 hwn ⊢
 generalize x.us.length=n at *
 generalize hU0:x.us.map Ao=U at *
 clear hk hx hD d1 d2 d3 d4 hU0
 obtain ⟨m,hmm⟩:∃ m,m=W1.length:=⟨_,rfl⟩
 rw [← hmm] at h0 hwn ⊢
 conv=>whnf
 refine DL rfl ?_;conv=>whnf
 refine Ce (α:=Nat) (fun i=>[(1,.ptr 0 0),(2,.ptr 1 0),(19,.sl 2 0 m none),(20,.int .i64 (m:Int)),(21,.int .i64 (i:Int))]) (fun i=>[.row 28 [.sl 3 0 n none,.sl 2 0 m none,.bool false],.row 28 Da,.row 77 (Ad W1),.row 41 (AU U (W1.take i))]) (fun i=>m-i) (fun i=>i≤m) 0 (Zoy _)
  (Abs.tells (rs:=[0,1,3,2]) ⟨by decide,⟨r9,r9,r9,r9,r9,trivial⟩,⟨r9,r9,o9,o9 (hcf 0),trivial⟩⟩) ?_
 intro i hi
 refine A9 hE ?_
 by_cases hlt:i<m
 ·have hWi:=Zof (l:=W1) (i:=i) (by omega)
  have hwi:=hWa _ (Zpg (l:=W1) (n:=i) (by omega))
  have htk:AU U (W1.take (i+1))=(AU U (W1.take i)).set (W1[i]'(by omega)).at_.toNat (W1[i]'(by omega)).u:=by
   rw [Zos (by omega),Rk];rfl
  have hall:=And.intro hWi (And.intro hwi htk)
  clear hWi hwi htk
  revert hall
  generalize W1[i]'(by omega)=w
  rintro ⟨hWi,⟨hwa,hw0,hwn'⟩,htk⟩
  obtain ⟨wa,wu,wb⟩:=w
  have hwu:AM.hf wu=true:=hwa.b.1.hf
  dsimp only at hw0 hwn' htk
  obtain ⟨a,rfl⟩:∃ a:Nat,wa=(a:Int):=⟨wa.toNat,by omega⟩
  have ha:a<n:=by omega
  have htk:AU U (W1.take (i+1))=(AU U (W1.take i)).set a wu:=htk
  have hld:∀ s:St,s.get 2=some (.row 77 (Ad W1))→load 2 (0+i*2) 2 s=some [.int .i64 (a:Int),wu]:=fun s h=>VO h hWi
  have hst:∀ s:St,s.get 3=some (.row 41 (AU U (W1.take i)))→storeAt 3 (0+a*1) [wu] s=some (s.put 3 (.row 41 ((AU U (W1.take i)).set a wu))):=fun s h=>Qu h (by rw [hcl];exact ha)
  have hc1:=hcf (i+1)
  rw [htk] at hc1
  have hc1:hfs ((AU U (W1.take i)).set a wu)=true:=hc1
  have hcw:∀ (K:Prop),K→wB (Nat.beq (A3 (cellsOf wu)) 1) K False:=fun K hK=>by
   have:cellsOf wu=[wu]:=by
    rcases hwa.b.1 with ⟨h,_⟩|⟨h,_⟩|⟨c,h,_⟩ <;> (dsimp only at h;rw [h];rfl)
   rw [this];exact hK
  conv=>whnf
  refine Ag (a:=(i:Int)) (b:=(m:Int)) rfl rfl (fun _=>?_) (fun h=>by omega);conv=>whnf
  refine D7 (i:=i) rfl rfl hlt ?_;conv=>whnf
  refine AP _ (hld _ rfl) ?_;conv=>whnf
  refine D7 (i:=a) rfl rfl ha ?_;conv=>whnf
  refine hcw _ ?_
  have hcu:cellsOf wu=[wu]:=by
   rcases hwa.b.1 with ⟨h,_⟩|⟨h,_⟩|⟨c,h,_⟩ <;> (dsimp only at h;rw [h];rfl)
  rw [hcu]
  refine AP _ (hst _ rfl) ?_;conv=>whnf
  repeat' (first|((first|refine w7 rfl rfl (by omega) ?_|refine ⟨rfl,?_⟩);conv=>whnf)|fail)
  refine ⟨i+1,hlt,by omega,?_⟩
  rw [htk]
  exact Abs.tells (rs:=[0,1,2,3]) .a
 ·have hie:i=m:=by omega
  subst hie
  have hte:W1.take i=W1:=Zoo (by omega)
  have hcf':=hcf i
  rw [hte] at hcf' ⊢
  conv=>whnf
  refine Ag (a:=(i:Int)) (b:=(i:Int)) rfl rfl (fun h=>by omega) (fun _=>?_);conv=>whnf
  have q1:=AbsK.frz (P:=P) (k:=0) (n:=3) (e:=41) (cs:=AU U W1) (t:=B9 23 (AV.bool false) (Am [(1,.ptr 0 0),(2,.ptr 1 0),(19,.sl 2 0 i none),(20,.int .i64 (i:Int)),(21,.int .i64 (i:Int))])) (s:=Ac St0 [.row 28 [.sl 3 0 n none,.sl 2 0 i none,.bool false],.row 28 Da,.row 77 (Ad W1),.row 41 (AU U W1)]) (tl:=H1) (tl2:=H1) (os:=[.row 28 [.sl 3 0 n none,.sl 2 0 i none,.bool false],.row 28 Da,.row 77 (Ad W1)]) (os2:=[.row 28 [.fz n none (AU U W1),.sl 2 0 i none,.bool false],.row 28 Da,.row 77 (Ad W1)]) (rs:=[0,1,2,3])
   .a rfl hcf' rfl rfl rfl rfl rfl (by
    show [_,_,Bw 3 _ (.row 77 (Ad W1))]=_
    rw [BM hwf];rfl)
  have q2:=AbsK.frz (P:=P) (k:=0) (n:=2) (e:=77) (cs:=Ad W1) (t:=Am H1) (s:=Ac St0 [.row 28 [.fz n none (AU U W1),.sl 2 0 i none,.bool false],.row 28 Da,.row 77 (Ad W1)]) (tl:=H1) (tl2:=H1) (os:=[.row 28 [.fz n none (AU U W1),.sl 2 0 i none,.bool false],.row 28 Da]) (os2:=[.row 28 [.fz n none (AU U W1),.fz i none (Ad W1),.bool false],.row 28 Da]) (rs:=[0,1,2])
   .a rfl hwf rfl rfl rfl rfl rfl rfl
  exact W.tells (q1.trans q2) (hr _ rfl)
theorem Zix (hE:EM P e) (h101:Con e 25 dskF.O) (h103:Con e 31 Cu):OvOk P 37 fluF.O:=by
 refine Bk g37.b fun x hx=>?_
 refine ⟨by show (AM.hf x.v && true)=true;rw [DK.hf hx.a];rfl,Zfn x,C.of_W g37.f g37.c ?_⟩
 have hout:fluF.out x=FZ x:=rfl
 rw [hout]
 have hO0:Bi x=true→x.dead=false→FZ x=.tup [(CE x).v,.int .i64 0]:=fun h1 h2=>by unfold FZ Lw;rw [Zoj h1,h2];rfl
 have hO1:Bi x=true→x.dead=true→FZ x=.tup [.agg Da,.int .i64 40]:=fun h1 h2=>by unfold FZ Lw;rw [Zoj h1,h2];rfl
 have hO2:Bi x≠true→FZ x=.tup [.agg Da,.int .i64 8]:=fun h1=>by unfold FZ Lw;rw [Zon h1];rfl
 by_cases hD:Bi x=true
 ·have hD1:=(dskB_iff.1 hD).1
  have hDo:dskF.out x=.int .i64 0:=by show AV.int .i64 (if _ then _ else _)=_;rw [Zoj hD]
  have htw:=Jx (x:=x) ⟨hx,hD1.1⟩
  have hfin:∀ s:St,s.get 2=some (.row 41 (CE x).us)→Frz s (.tup [.agg [.sl 2 0 x.us.length none,.nils,.bool false],.int .i64 0]) (.tup [(CE x).v,.int .i64 0]):=fun s h=>
   .tup _ _ (.cons (.agg _ _ (.cons (.sl 2 0 _ none none 41 _ (CE x).us _ h (fun i x h=>by rw [Zou];exact h) (I9 (Hc (J6 hx).a.bs)) (.inl rfl)) (.cons (.plain _ rfl) (.cons (.plain _ rfl) .nil)))) (.cons (.plain _ rfl) .nil))
  have hloop:=fun h0=>Zfy hE h103 hx hD (fun v s=>Frz s v (.tup [(CE x).v,.int .i64 0])) hfin h0
  have hrest:=UZ hE h103 hx hD1.1 .nils rfl (fun v s=>Frz s v (.tup [(CE x).v,.int .i64 0])) hfin
  have hUf:=Kw hx.a
  have hO0:=hO0 hD
  have hO1:=hO1 hD
  obtain ⟨bv,us,bs,wv,ws,dd⟩:=x
  show W P 0 none Pg (Ah [.agg [bv,wv,.bool dd]] 0 .lf) St0 [] _
  cases dd
  ·rw [hO0 rfl]
   refine Av hE ?_;conv=>whnf
   refine Av hE ?_;conv=>whnf
   refine ESc.fam dskF h101 _ hx (u:=.int .i64 0) hDo ?_;conv=>whnf
   repeat' (first|((refine w6 rfl rfl ?_ ?_) <;> intro _ <;> first|(exfalso;omega)|(conv=>whnf))|fail)
   refine Av hE ?_;conv=>whnf
   skip
   rcases ws with _|⟨w0,ws⟩
   ·have htw:∀ s,Cu [.agg [bv,wv,.bool false]] s=.ok (.agg [.sl (0+s.next) 0 us.length none,.nils,.bool false]) (Ac s [.row 41 (us.map Ao)]):=htw
    refine Av hE ?_;conv=>whnf
    refine ESc.ov h103 (htw _) ?_;conv=>whnf
    refine Av hE ?_;conv=>whnf
    repeat' (first|(refine w16 rfl ?_;conv=>whnf)|fail)
    refine Hg hE ?_;conv=>whnf
    repeat' (first|((refine w1 rfl rfl ?_ ?_) <;> intro _ <;> first|(exfalso;omega)|(conv=>whnf))|fail)
    have hm1:(DW ⟨bv,us,bs,wv,[],false⟩).bv=.fz us.length none (us.map Ao):=rfl
    rw [hm1] at hrest
    exact W.tells (AbsK.frz (P:=P) (k:=0) (n:=2) (e:=41) (cs:=us.map Ao) (tl:=H1) (tl2:=H1) (os:=[.row 28 [.sl 2 0 us.length none,.nils,.bool false],.row 28 Da]) (os2:=[.row 28 [.fz us.length none (us.map Ao),.nils,.bool false],.row 28 Da]) (rs:=[0,1,2])
     .a rfl hUf rfl rfl rfl rfl rfl rfl) hrest
   ·have htw:∀ s,Cu [.agg [bv,wv,.bool false]] s=.ok (.agg [.sl (0+s.next) 0 us.length none,.sl (1+s.next) 0 (ws.length+1) none,.bool false]) (Ac s [.row 41 (us.map Ao),.row 77 (Ad ((w0::ws).map An))]):=htw
    have hWf:hfs (Ad ((w0::ws).map An))=true:=FP fun w hw=>by
     obtain ⟨v,hv,rfl⟩:=Zpf.1 hw
     exact (HF (hx.a.ws v hv)).b.1.hf
    refine Av hE ?_;conv=>whnf
    refine ESc.ov h103 (htw _) ?_;conv=>whnf
    refine W.tells (Abs.tells (tl:=H1) (os:=[.row 28 [.sl 2 0 us.length none,.sl 3 0 (ws.length+1) none,.bool false],.row 28 Da,.row 41 (us.map Ao),.row 77 (Ad ((w0::ws).map An))]) (rs:=[0,1,2,3])
     .a) ?_
    exact Av hE (hloop (by simp))
  ·rw [hO1 rfl]
   refine Fv hE ?_;conv=>whnf
   refine ESc.fam dskF h101 _ hx (u:=.int .i64 0) hDo ?_;conv=>whnf
   repeat' (first|((refine w6 rfl rfl ?_ ?_) <;> intro _ <;> first|(exfalso;omega)|(conv=>whnf))|fail)
   exact .plain _ rfl
 ·have hDo:dskF.out x=.int .i64 8:=by show AV.int .i64 (if _ then _ else _)=_;rw [Zon hD]
  rw [hO2 hD]
  refine Fv hE ?_
  obtain ⟨bv,us,bs,wv,ws,dd⟩:=x
  show VW P e 0 Pg (Ah [.agg [bv,wv,.bool dd]] 0 .lf) St0 none [] _
  conv=>whnf
  refine ESc.fam dskF h101 _ hx (u:=.int .i64 8) hDo ?_;conv=>whnf
  repeat' (first|((refine w6 rfl rfl ?_ ?_) <;> intro _ <;> first|(exfalso;omega)|(conv=>whnf))|fail)
  exact .plain _ rfl
end Go.AM
namespace Go.AM
attribute [local irreducible] W
open X
def GP (x:DKW):Int:=if Cg x.d x.a x.b=0 then (if x.d.ws.length=1024 then 9 else 0) else Cg x.d x.a x.b
def Fh (x:DKW):List WR:=x.d.ws.map An++[⟨x.a,AA (Aa x.b),Aa x.b⟩]
def Fi (x:DKW):DK:=⟨.fz x.d.us.length none (x.d.us.map Ao),x.d.us.map Ao,x.d.bs,.fz (x.d.ws.length+1) none (Ad (Fh x)),Fh x,x.d.dead⟩
def GH (x:DKW):AV:=if GP x=0 then .tup [(Fi x).v,.int .i64 0] else .tup [.agg Da,.int .i64 (GP x)]
theorem Zfo (x:DKW):AM.hf (GH x)=true:=by unfold GH;split <;> rfl
def dwF:Fam DKW:=⟨DKW.ok,DKW.args,GH,fun x y hx hy h=>by rw [DKW.inja hx hy h]⟩
theorem Zg8 (L M:List WR):Ad (L++M)=Ad L++Ad M:=by unfold Ad;rw [List.flatMap_append]
theorem Zmt {e:Env}(hE:EM P e) (h102:Con e 30 wrtF.O) (h103:Con e 31 Cu) (h98:Inl e 32 J7 [.tmp 2]) (h141:Inl e 70 HJ [.tmp 2]):OvOk P 40 dwF.O:=by
 refine Bk g40.b fun x hx=>?_
 refine ⟨DKW.hfa hx,Zfo x,C.of_G hE g40 ?_⟩
 have hfam:=fun (s:St) (K:AV→St→Prop) (hk:K (.int .i64 (Cg x.d x.a x.b)) s)=>ESc.fam wrtF h102 x hx (u:=.int .i64 (Cg x.d x.a x.b)) rfl hk
 by_cases h0:Cg x.d x.a x.b=0
 ·obtain ⟨q1,q2,q3,q4⟩:=JK h0
  have hbl:x.b.length=0∨x.b.length=128:=HH q3
  have hdk1:DK1 x.d:=⟨hx.d,by omega⟩
  have htw:=Jx hdk1
  have hUf:=Kw hx.d.a
  have hw1024:x.d.ws.length≤1024:=(KE hx.d.a q1).1
  have hWf:hfs (Ad (x.d.ws.map An))=true:=FP fun w hw=>by
   obtain ⟨v,hv,rfl⟩:=Zpf.1 hw
   exact (HF (hx.d.a.ws v hv)).b.1.hf
  have hout:dwF.out x=if x.d.ws.length=1024 then .tup [.agg Da,.int .i64 9] else .tup [(Fi x).v,.int .i64 0]:=by
   show GH x=_
   unfold GH GP
   rw [Zoj h0]
   split <;> rfl
  rw [h0] at hfam
  rw [hout]
  have hwsl:=hx.d.a.wl
  obtain ⟨⟨bv,us,bs,wv,ws,dd⟩,a,u,b⟩:=x
  obtain ⟨hd,ha,hbt,hbn⟩:=hx
  dsimp only at q2 q4 hbl htw hUf hWf ha hbt hbn hw1024 hwsl ⊢
  subst q4
  have hfB:∀ (s:St) r cp,s.get r=some (.row 5 (Ab (Aa b)))→Frz s (.sl r 0 128 cp) (AA (Aa b)):=fun s r cp h=>.sl r 0 128 cp none 5 _ (Ab (Aa b)) _ h (fun i x h=>by rw [Zou];exact h) (Ml _) (.inl rfl)
  have hbk:∀ (s:St),s.get 2=some (.row 41 (us.map Ao))→Frz s (.sl 2 0 us.length none) (.fz us.length none (us.map Ao)):=fun s h1=>
   .sl 2 0 us.length none none 41 _ (us.map Ao) _ h1 (fun i x h=>by rw [Zou];exact h) (I9 hUf) (.inl rfl)
  have hwk:∀ (s:St) r q cp,s.get r=some (.row 77 (Ad (ws.map An)++[.int .i64 a,.sl q 0 128 cp]))→s.get q=some (.row 5 (Ab (Aa b)))→Frz s (.sl r 0 (ws.length+1) none) (.fz (ws.length+1) none (Ad (Fh ⟨⟨bv,us,bs,wv,ws,false⟩,a,u,b⟩))):=fun s r q cp h1 h2=>by
   refine .sl r 0 _ none none 77 _ (Ad (ws.map An)++[.int .i64 a,.sl q 0 128 cp]) _ h1 (fun i x h=>by rw [Zou];exact h) ?_ (.inl rfl)
   unfold Fh
   rw [Zg8]
   exact (I9 hWf).append (.cons (.plain _ rfl) (.cons (hfB s q cp h2) .nil))
  clear q1 q3 hout
  show VW P e 0 (match Nl with|.mk c _=>c) (Ah [.agg [bv,wv,.bool false],.int .i64 a,u] 0 .lf) St0 none [] _
  have hfam:∀ (s:St) (K:AV→St→Prop),K (.int .i64 0) s→ESc e 30 [.agg [bv,wv,.bool false],.int .i64 a,u] s K:=hfam
  have hdd:(Fi ⟨⟨bv,us,bs,wv,ws,false⟩,a,u,b⟩).v=.agg [.fz us.length none (us.map Ao),.fz (ws.length+1) none (Ad (Fh ⟨⟨bv,us,bs,wv,ws,false⟩,a,u,b⟩)),.bool false]:=rfl
  by_cases h1024:ws.length=1024
  ·rw [Zoj h1024]
   conv=>whnf
   refine hfam _ _ ?_;conv=>whnf
   repeat' (first|(refine Af rfl hwsl ?_;conv=>whnf)|((first|refine w5 rfl rfl ?_ ?_|refine w6 rfl rfl ?_ ?_) <;> intro _ <;> first|(exfalso;omega)|(conv=>whnf))|fail)
   exact .plain _ rfl
  ·rw [Zon h1024,hdd]
   rcases ws with _|⟨w0,ws⟩
   ·have htw:∀ s,Cu [.agg [bv,wv,.bool false]] s=.ok (.agg [.sl (0+s.next) 0 us.length none,.nils,.bool false]) (Ac s [.row 41 (us.map Ao)]):=htw
    have fin:∀ (s:St) r q cp,s.get 2=some (.row 41 (us.map Ao))→s.get r=some (.row 77 [.int .i64 a,.sl q 0 128 cp])→s.get q=some (.row 5 (Ab (Aa b)))→Frz s (.tup [.agg [.sl 2 0 us.length none,.sl r 0 1 none,.bool false],.int .i64 0]) (.tup [.agg [.fz us.length none (us.map Ao),.fz (0+1) none (Ad (Fh ⟨⟨bv,us,bs,wv,[],false⟩,a,u,b⟩)),.bool false],.int .i64 0]):=fun s r q cp h1 h2 h3=>
     .tup _ _ (.cons (.agg _ _ (.cons (hbk s h1) (.cons (hwk s r q cp h2 h3) (.cons (.plain _ rfl) .nil)))) (.cons (.plain _ rfl) .nil))
    conv=>whnf
    refine hfam _ _ ?_;conv=>whnf
    repeat' (first|(refine Af rfl hwsl ?_;conv=>whnf)|((first|refine w5 rfl rfl ?_ ?_|refine w6 rfl rfl ?_ ?_) <;> intro _ <;> first|(exfalso;omega)|(conv=>whnf))|fail)
    refine ESc.ov h103 (htw _) ?_;conv=>whnf
    refine K1 h98 h141 hbt hbl (by show 3<1000000;decide) (fun h0=>?_) (fun h1=>?_)
    ·conv=>whnf
     repeat' (first|(refine Cl (m:=1) rfl rfl rfl rfl (by decide) (by decide) ?_;conv=>whnf)|(refine ⟨rfl,?_⟩;conv=>whnf)|fail)
     exact fin _ _ _ _ rfl rfl rfl
    ·conv=>whnf
     repeat' (first|(refine Cl (m:=1) rfl rfl rfl rfl (by decide) (by decide) ?_;conv=>whnf)|(refine ⟨rfl,?_⟩;conv=>whnf)|fail)
     exact fin _ _ _ _ rfl rfl rfl
   ·have htw:∀ s,Cu [.agg [bv,wv,.bool false]] s=.ok (.agg [.sl (0+s.next) 0 us.length none,.sl (1+s.next) 0 (ws.length+1) none,.bool false]) (Ac s [.row 41 (us.map Ao),.row 77 (Ad ((w0::ws).map An))]):=htw
    have fin:∀ (s:St) r q cp,s.get 2=some (.row 41 (us.map Ao))→s.get r=some (.row 77 (Ad ((w0::ws).map An)++[.int .i64 a,.sl q 0 128 cp]))→s.get q=some (.row 5 (Ab (Aa b)))→Frz s (.tup [.agg [.sl 2 0 us.length none,.sl r 0 (ws.length+1+1) none,.bool false],.int .i64 0]) (.tup [.agg [.fz us.length none (us.map Ao),.fz ((w0::ws).length+1) none (Ad (Fh ⟨⟨bv,us,bs,wv,w0::ws,false⟩,a,u,b⟩)),.bool false],.int .i64 0]):=fun s r q cp h1 h2 h3=>
     .tup _ _ (.cons (.agg _ _ (.cons (hbk s h1) (.cons (hwk s r q cp h2 h3) (.cons (.plain _ rfl) .nil)))) (.cons (.plain _ rfl) .nil))
    have hw1025:ws.length+1≤1024:=hw1024
    conv=>whnf
    refine hfam _ _ ?_;conv=>whnf
    repeat' (first|(refine Af rfl hwsl ?_;conv=>whnf)|((first|refine w5 rfl rfl ?_ ?_|refine w6 rfl rfl ?_ ?_) <;> intro _ <;> first|(exfalso;omega)|(conv=>whnf))|fail)
    refine ESc.ov h103 (htw _) ?_;conv=>whnf
    refine K1 h98 h141 hbt hbl (by show 4<1000000;decide) (fun h0=>?_) (fun h1=>?_)
    ·conv=>whnf
     repeat' (first|(refine BX (m:=1) rfl rfl rfl rfl (by rw [Dt,Zom];rfl) rfl (by decide) (by omega) ?_;conv=>whnf)|(refine ⟨rfl,?_⟩;conv=>whnf)|fail)
     exact fin _ _ _ _ rfl rfl rfl
    ·conv=>whnf
     repeat' (first|(refine BX (m:=1) rfl rfl rfl rfl (by rw [Dt,Zom];rfl) rfl (by decide) (by omega) ?_;conv=>whnf)|(refine ⟨rfl,?_⟩;conv=>whnf)|fail)
     exact fin _ _ _ _ rfl rfl rfl
 ·have hout:dwF.out x=.tup [.agg Da,.int .i64 (Cg x.d x.a x.b)]:=by
   show GH x=_
   unfold GH GP
   rw [Zon h0,Zon h0]
  rw [hout]
  obtain ⟨E,hE'⟩:∃ E,E=Cg x.d x.a x.b:=⟨_,rfl⟩
  rw [← hE'] at h0 hfam ⊢
  obtain ⟨⟨bv,us,bs,wv,ws,dd⟩,a,u,b⟩:=x
  have hfam:∀ (s:St) (K:AV→St→Prop),K (.int .i64 E) s→ESc e 30 [.agg [bv,wv,.bool dd],.int .i64 a,u] s K:=hfam
  show VW P e 0 (match Nl with|.mk c _=>c) (Ah [.agg [bv,wv,.bool dd],.int .i64 a,u] 0 .lf) St0 none [] _
  conv=>whnf
  refine hfam _ _ ?_;conv=>whnf
  refine B7 (a:=E) (b:=0) rfl rfl (fun _=>?_) (fun h=>absurd h h0);conv=>whnf
  skip
  exact .plain _ rfl
end Go.AM
namespace Go.AM
attribute [local irreducible] W
open X
variable {e:Env}{s:St}
theorem WF (hE:EM P e) {k:Nat}{rd:Option Nat}{a:AC}{t:AT}{ds:List Nat}{Q:EQ}(h:VW P e k a t s rd ds (Gp (fun t s ds=>VW P e k a t s rd ds (Gp (fun _ _ _=>False) Q)) Q)):W P k rd (.loop a) t s ds Q:=by
 refine W.loop (fun n t' s' ds'=>(n=1∧t'=t∧s'=s∧ds'=ds)∨(n=0∧VW P e k a t' s' rd ds' (Gp (fun _ _ _=>False) Q))) 1 (.inl ⟨rfl,rfl,rfl,rfl⟩) ?_
 rintro n t' s' ds' (⟨rfl,rfl,rfl,rfl⟩|⟨rfl,h'⟩)
 ·refine (A9 hE h).mono ?_
  intro x t s ds hq
  cases x with
  | normal=>exact ⟨0,Nat.zero_lt_one,.inr ⟨rfl,hq⟩⟩
  | exit id=>exact hq
  | ret=>exact hq
 ·refine (A9 hE h').mono ?_
  intro x t s ds hq
  cases x with
  | normal=>exact (show False from hq).elim
  | exit id=>exact hq
  | ret=>exact hq
structure WD (x:DK):Prop where
 ok:x.ok
 dsk:Bi x=true
def Wq:AC:=match a12 with|.mk c _=>c
def Zkl:AC:=match a41 with|.mk c _=>c
def Zkk:AC:=match a76 with|.mk c _=>c
def Zkj:AC:=match a77 with|.mk c _=>c
def Zgp:AC:=match PC with|.mk c _=>c
structure DvIn (e:Env):Prop where
 h941:Inl e 41 Zkl [.tmp 2]
 h977:Inl e 77 Zkj [.tmp 4]
 h1000:Inl e 100 Zgp [.tmp 4]
 O976:e.O.get 76=none
 G976:e.G.get 76=some (.mk Zkk [.tmp 2])
 h101:Con e 25 dskF.O
variable {x:DK}
theorem Zg6 (e:Env) (hE:EM P e) (hI:DvIn e) (hx:WD x) (Q:AV→St→Prop) (k:∀ s,Q (.tup [.int .i64 (x.ws.length:Int),.int .i64 0]) s):
 VW P e 0 Wq (Ah [.fz 1 none x.c] 0 .lf) St0 none [] (AR [.tmp 2,.tmp 3] Q):=by
 have hdk:∀ (K:AV→St→Prop) (s:St),K (.int .i64 0) s→ESc e 25 [x.v] s K:=fun K s hk=>ESc.fam dskF hI.h101 x hx.ok (by show AV.int .i64 (if _ then _ else _)=_;rw [Zoj hx.dsk]) hk
 have hwl:=hx.ok.a.wl
 have hwn:=hx.ok.m
 obtain ⟨bv,us,bs,wv,ws,dd⟩:=x
 show VW P e 0 Wq (Ah [.fz 1 none [bv,wv,.bool dd]] 0 .lf) St0 none [] _
 conv=>whnf
 refine ESc.inl hI.h941 ?_;conv=>whnf
 repeat' (first|(refine Kl rfl ?_;conv=>whnf)|(refine ESc.inl hI.h977 ?_;conv=>whnf)|(refine ESc.inl hI.h1000 ?_;conv=>whnf)|(refine EExec.loop ?_;conv=>whnf)|(refine LG (i:=0) rfl rfl (by omega) ?_;conv=>whnf)|(refine ECall.inl hI.O976 hI.G976 ?_;conv=>whnf)|(refine hdk _ _ ?_;conv=>whnf)|(refine CS (cs:=[bv,wv,.bool dd]) rfl ?_;conv=>whnf)|(refine Af rfl hwl ?_;conv=>whnf)|((first|refine w1 rfl rfl ?_ ?_|refine w3 rfl rfl ?_ ?_|refine w4 rfl rfl ?_ ?_|refine w6 rfl rfl ?_ ?_) <;> intro _ <;> first|(exfalso;omega)|(conv=>whnf))|(refine w7 rfl rfl (by omega) ?_;conv=>whnf)|fail)
 refine WF hE ?_;conv=>whnf
 repeat' (first|(refine LG (i:=0) rfl rfl (by omega) ?_;conv=>whnf)|(refine CS (cs:=[bv,wv,.bool dd]) rfl ?_;conv=>whnf)|(refine Af rfl hwl ?_;conv=>whnf)|((refine w1 rfl rfl ?_ ?_) <;> intro _ <;> first|(exfalso;omega)|(conv=>whnf))|(refine w7 rfl rfl (by omega) ?_;conv=>whnf)|fail)
 rw [Int.zero_add];exact k _
noncomputable def relS (R:List AV→St→AV→St→Prop):Ov:=fun args s=>open Classical in if h:∃ p:AV×St,R args s p.1 p.2 then .ok h.choose.1 h.choose.2 else .fail
variable {f:Nat}
theorem Me {R:List AV→St→AV→St→Prop}(hb:G4 P f) (h:∀ args s u s',R args s u s'→C P f args s (fun v s''=>v=u∧s''=s')):OvOk P f (relS R):=by
 refine ⟨hb,fun args s v s' hh=>?_⟩
 unfold relS at hh
 split at hh
 ·rename_i hx
  cases hh
  exact h args s _ _ hx.choose_spec
 ·cases hh
theorem ESc.relS {R:List AV→St→AV→St→Prop}{vs:List AV}{k:AV→St→Prop}{u:AV}{s':St}(hi:Con e f (relS R)) (hx:R vs s u s') (hk:∀ u s',R vs s u s'→k u s'):ESc e f vs s k:=by
 have hx:∃ p:AV×St,R vs s p.1 p.2:=⟨(u,s'),hx⟩
 refine ESc.ov hi (v:=hx.choose.1) (s':=hx.choose.2) ?_ (hk _ _ hx.choose_spec)
 unfold AM.relS
 rw [dif_pos hx]
def IP (args:List AV) (s:St) (u:AV) (s':St):Prop:=∃ (x:DK) (r:Nat),WD x∧args=[.sl r 0 1 (some 1)]∧s.get r=some (.row 28 x.c)∧u=.tup [.int .i64 (x.ws.length:Int),.int .i64 0]∧s'=s
variable {r:Nat}
theorem Ou {a b:Nat}{c d:List AV}(h:s.get r=some (.row a c)) (h':s.get r=some (.row b d)):c=d:=by
 rw [h] at h';cases h';rfl
theorem Vt {y:DK}(hx:x.any) (hy:y.any) (h:x.c=y.c):x=y:=DK.inj hx hy (congrArg AV.agg h)
theorem Vu (h:Con e 12 (relS IP)) (hx:WD x) (hr:s.get r=some (.row 28 x.c)) {K:AV→St→Prop}(hk:K (.tup [.int .i64 (x.ws.length:Int),.int .i64 0]) s):ESc e 12 [.sl r 0 1 (some 1)] s K:=by
 refine ESc.relS h (s':=s) ⟨x,r,hx,rfl,hr,rfl,rfl⟩ ?_
 rintro u s' ⟨y,r',hy,e1,e2,rfl,rfl⟩
 cases e1
 rw [Vt hy.ok.a hx.ok.a (Ou e2 hr)]
 exact hk
theorem Zli (hE:EM P e) (hI:DvIn e):OvOk P 12 (relS IP):=by
 refine Me g12.b ?_
 rintro args s u s' ⟨x,r,hx,rfl,hr,rfl,rfl⟩
 have hcf:hfs x.c=true:=CZ hx.ok.a.wl hx.ok.a.bl
 have H:hfs [.fz 1 none x.c]=true:=rfl
 refine HQ (args2:=[.fz 1 none x.c]) (.cons (.sl r 0 1 (some 1) none 28 x.c x.c x.c hr (fun i y h=>by rw [Zou];exact h) (I9 hcf) (.inl rfl)) .nil) rfl (GZ H (C.of_G hE g12 (Zg6 e hE hI hx _ fun s=>.plain _ rfl)))
end Go.AM
namespace Go.AM
attribute [local irreducible] W
open X
def DZ:List (List Nat)→List Nat→Option Bool
 | [],_=>none
 | a::l,b=>if Au a=Au b then some (decide (a=b)) else DZ l b
def IZ:List (List Nat)→List (List Nat)→Bool
 | [],_=>false
 | b::l,all=>match DZ all b with
  | some true=>IZ l all
  | some false=>true
  | none=>IZ l (all++[b])
def H5 (bs:List (List Nat)):Bool:=IZ (bs.map Aa) []
structure LB where
 us:List AV
 bs:List (List Nat)
structure LB.ok (x:LB):Prop where
 a:All2 BAt x.us x.bs
 n:x.us.length<1000000
 l:∀ b ∈ x.bs,b.length=0∨b.length=128
def LB.v (x:LB):AV:=.fz x.us.length none x.us
def Wo:AC:=match a15 with|.mk c _=>c
def sv (b:List Nat):AV:=.int .u32 ((Au b:Nat):Int)
def MN:List (List Nat)→List AObj
 | []=>[]
 | a::l=>[.row 41 ((a::l).map AA),.row 22 ((a::l).map sv)]
def MK (u:AV) (i:Nat):List (List Nat)→List (Nat×AV)
 | []=>[(0,u),(3,.nils),(4,.nils),(5,.int .i64 (i:Int))]
 | _::l=>[(0,u),(3,.sl 0 0 (l.length+1) none),(4,.sl 1 0 (l.length+1) none),(5,.int .i64 (i:Int))]
theorem VX (l:List (List Nat)):hfs (l.map AA)=true:=hfs_iff.2 fun v hv=>by
 obtain ⟨b,_,rfl⟩:=Zpf.1 hv;rfl
theorem VU (l:List (List Nat)):hfs (l.map sv)=true:=hfs_iff.2 fun v hv=>by
 obtain ⟨b,_,rfl⟩:=Zpf.1 hv;rfl
def tlCi (u:AV) (i m:Nat) (p:List Nat) (seen:Bool) (j:Nat):List (Nat×AV):=[(0,u),(3,.sl 0 0 m none),(4,.sl 1 0 m none),(5,.int .i64 (i:Int)),(6,AA p),(7,sv p),(8,.bool seen),(9,.int .i64 (j:Int))]
variable {r:Nat}{s:St}
theorem TX {e o:Nat}{cs:List AV}{v:AV}(h:s.get r=some (.row e cs)) (hv:cs[o]?=some v):load1 r o s=some v:=by
 unfold load1
 rw [Fm h,← HI] at *
 exact hv
variable {e:Env}{x:LB}
theorem Zdf (hE:EM P e) (h114:Con e 45 wholeF.O) (h115:Con e 46 sumRF.O) (hx:x.ok) (Q:AV→St→Prop) (k:∀ s,Q (.bool (H5 x.bs)) s):
 VW P e 0 Wo (Ah [x.v] 0 .lf) St0 none [] (AR [.tmp 2] Q):=by
 obtain ⟨us,bs⟩:=x
 obtain ⟨ha,hn,hl⟩:=hx
 dsimp only at ha hn hl k
 have hlen:=ha.length
 have hsl:Sl 1 us.length us (.fz us.length none us):=.inr (.inr ⟨none,rfl,by rw [Zpi]⟩)
 have huf:AM.hf (AV.fz us.length none us)=true:=rfl
 show VW P e 0 Wo (Ah [.fz us.length none us] 0 .lf) St0 none [] _
 obtain ⟨u,hu⟩:∃ u,u=AV.fz us.length none us:=⟨_,rfl⟩
 rw [← hu] at hsl huf ⊢
 conv=>whnf
 refine Ce (α:=Nat×List (List Nat)) (fun x=>MK u x.1 x.2) (fun x=>MN x.2) (fun x=>us.length-x.1)
  (fun x=>x.1≤us.length∧x.2.length≤x.1∧(∀ b ∈ x.2,b.length=128∧∀ y ∈ b,y<256)∧H5 bs=IZ ((bs.drop x.1).map Aa) x.2) (0,[]) ⟨Zoy _,Zo0 _,(fun b hb=>by cases hb),rfl⟩
  (Abs.tells (rs:=[]) .a) ?_
 rintro ⟨i,all⟩ ⟨hi,hal,hab,hcl⟩
 dsimp only at hi hal hab hcl ⊢
 refine A9 hE ?_
 by_cases hlt:i<us.length
 ·obtain ⟨b,hb1,hb2⟩:=ha.get (Zof hlt)
  have hbl:=hl b (Zo1 hb1)
  have hug:((us.drop (i*1)))[0]?=some us[i]:=by rw [Zpi,Zoq,Zpo,Zof hlt]
  have hbd:bs.drop i=b::bs.drop (i+1):=by
   obtain ⟨h1,h2⟩:=Zog.1 hb1
   rw [Zo2 h1,h2]
  rw [hbd,Zpv] at hcl
  generalize us[i]=w at hb2 hug
  have hwh:∀ (K:AV→St→Prop) (s:St),K (AA (Aa b)) s→ESc e 45 [w] s K:=fun K s hk=>ESc.fam wholeF h114 ⟨w,b⟩ ⟨hb2,hbl⟩ rfl hk
  have hpl:(Aa b).length=128∧∀ y ∈ Aa b,y<256:=⟨H9 hbl,Hh hb2.2⟩
  have hsm:∀ (K:AV→St→Prop) (s:St),K (sv (Aa b)) s→ESc e 46 [AA (Aa b)] s K:=fun K s hk=>ESc.fam sumRF h115 ⟨AA (Aa b),Aa b⟩ ⟨Hi hpl,by dsimp only;omega⟩ rfl hk
  generalize Aa b=p at hwh hsm hpl hcl
  clear hb1 hb2 hbl hbd
  rcases all with _|⟨a,l⟩
  ·conv=>whnf
   repeat' (first|(refine Af rfl hsl ?_;conv=>whnf)|(refine A8 rfl hsl rfl hlt ?_;conv=>whnf)|(refine EHead.mk (v:=w) hug ?_;conv=>whnf)|(refine hwh _ _ ?_;conv=>whnf)|(refine hsm _ _ ?_;conv=>whnf)|((refine w1 rfl rfl ?_ ?_) <;> intro _ <;> first|(exfalso;omega)|(conv=>whnf))|fail)
   refine Hg hE ?_;conv=>whnf
   repeat' (first|(refine Nx rfl ?_;conv=>whnf)|(refine Cl (m:=1) rfl rfl rfl rfl (by decide) (by decide) ?_;conv=>whnf)|((refine w1 rfl rfl ?_ ?_) <;> intro _ <;> first|(exfalso;omega)|(conv=>whnf))|((first|refine w7 rfl rfl (by omega) ?_|refine w13 rfl ?_|refine ⟨rfl,?_⟩);conv=>whnf)|fail)
   have hp1:hfs [AA p]=true:=rfl
   have hp2:hfs [sv p]=true:=rfl
   refine ⟨(i+1,[p]),⟨by dsimp only;omega,by simp,fun b hb=>?_,hcl⟩,by dsimp only;omega,Abs.tells (rs:=[1,3]) .a⟩
   rw [List.mem_singleton] at hb;subst hb;exact hpl
  ·obtain ⟨A,hA⟩:∃ A,A=a::l:=⟨_,rfl⟩
   obtain ⟨m,hmA⟩:∃ m,m=A.length:=⟨_,rfl⟩
   have hml:m=l.length+1:=by rw [hmA,hA];rfl
   rw [← hA] at hal hab hcl
   rw [← hmA] at hal
   have hfA:=VX A
   have hsA:=VU A
   rw [show MN (a::l)=[.row 41 (A.map AA),.row 22 (A.map sv)] by rw [hA];rfl,show MK u i (a::l)=[(0,u),(3,.sl 0 0 m none),(4,.sl 1 0 m none),(5,.int .i64 (i:Int))] by rw [hml];rfl]
   conv=>whnf
   repeat' (first|(refine Af rfl hsl ?_;conv=>whnf)|(refine A8 rfl hsl rfl hlt ?_;conv=>whnf)|(refine EHead.mk (v:=w) hug ?_;conv=>whnf)|(refine hwh _ _ ?_;conv=>whnf)|(refine hsm _ _ ?_;conv=>whnf)|((refine w1 rfl rfl ?_ ?_) <;> intro _ <;> first|(exfalso;omega)|(conv=>whnf))|fail)
   refine Ce (α:=Nat×Bool) (fun x=>tlCi u i m p x.2 x.1) (fun _=>[.row 41 (A.map AA),.row 22 (A.map sv)]) (fun x=>m-x.1)
    (fun x=>x.1≤m∧(x.2=false→DZ A p=DZ (A.drop x.1) p)∧(x.2=true→DZ A p=some true)) (0,false) ⟨Zoy _,fun _=>rfl,(fun h=>by cases h)⟩
    (Abs.tells (rs:=[0,1]) .a) ?_
   rintro ⟨j,seen⟩ ⟨hj,hI0,hI1⟩
   dsimp only at hj hI0 hI1 ⊢
   refine A9 hE ?_
   have same:∀ (t:AT) (s:St),DZ A p=some true→t.get 0=some u→t.get 3=some (.sl 0 0 m none)→t.get 4=some (.sl 1 0 m none)→t.get 5=some (.int .i64 ((i+1:Nat):Int))→s.get 0=some (.row 41 (A.map AA))→s.get 1=some (.row 22 (A.map sv))→
    ∃ x':Nat×List (List Nat),(x'.1≤us.length∧x'.2.length≤x'.1∧(∀ b ∈ x'.2,b.length=128∧∀ y ∈ b,y<256)∧H5 bs=IZ ((bs.drop x'.1).map Aa) x'.2)∧us.length-x'.1<us.length-i∧Tells P 0 t s [] (Am (MK u x'.1 x'.2)) (Ac St0 (MN x'.2)) []:=by
    intro t s hc h0 h3 h4 h5 g0 g1
    refine ⟨(i+1,A),⟨by dsimp only;omega,by dsimp only;omega,hab,?_⟩,by dsimp only;omega,?_⟩
    ·rw [hcl];show (match DZ A p with|some true=>_|some false=>_|none=>_)=_;rw [hc]
    ·rw [show MN A=[.row 41 (A.map AA),.row 22 (A.map sv)] by rw [hA];rfl,show MK u (i+1) A=[(0,u),(3,.sl 0 0 m none),(4,.sl 1 0 m none),(5,.int .i64 ((i+1:Nat):Int))] by rw [hml,hA];rfl]
     exact Abs.tells (rs:=[0,1]) ⟨by decide,⟨⟨Bz _ huf,by rw [Bv _ huf];exact h0⟩,⟨rfl,h3⟩,⟨rfl,h4⟩,⟨rfl,h5⟩,trivial⟩,⟨⟨AD hfA,by rw [Az hfA];exact g0⟩,⟨AD hsA,by rw [Az hsA];exact g1⟩,trivial⟩⟩
   cases seen
   ·by_cases hjm:j<m
    ·have hAj:=Zof (l:=A) (i:=j) (by omega)
     have hdj:A.drop j=A[j]'(by omega)::A.drop (j+1):=Zo2 (by omega)
     have haj:=hab _ (Zpg (l:=A) (n:=j) (by omega))
     have hI:=hI0 rfl
     rw [hdj] at hI
     generalize A[j]'(by omega)=q at hAj haj hI
     have hI:DZ A p=if Au q=Au p then some (decide (q=p)) else DZ (A.drop (j+1)) p:=hI
     have hl0:∀ s:St,s.get 0=some (.row 41 (A.map AA))→load1 0 (0+j*1) s=some (AA q):=fun s h=>by
      rw [Zou,Zpi];exact TX h (by rw [Zpe,hAj];rfl)
     have hl1:∀ s:St,s.get 1=some (.row 22 (A.map sv))→load1 1 (0+j*1) s=some (sv q):=fun s h=>by
      rw [Zou,Zpi];exact TX h (by rw [Zpe,hAj];rfl)
     conv=>whnf
     refine DL rfl ?_;conv=>whnf
     refine Ag rfl rfl (fun _=>?_) (fun h=>by omega);conv=>whnf
     repeat' (first|(refine D7 (i:=j) rfl rfl hjm ?_;conv=>whnf)|(refine w13 rfl ?_;conv=>whnf)|fail)
     refine AP _ (hl1 _ rfl) ?_;conv=>whnf
     refine B2 (q:=.u32) (a:=((Au q:Nat):Int)) (b:=((Au p:Nat):Int)) rfl rfl (fun he=>?_) (fun he=>?_)
     ·have he:Au q=Au p:=by omega
      rw [Zoj he] at hI
      conv=>whnf
      refine D7 (i:=j) rfl rfl hjm ?_;conv=>whnf
      refine AP _ (hl0 _ rfl) ?_;conv=>whnf
      refine Gt (n:=128) (bs:=q) rfl (.inr (.inr ⟨none,rfl,by rw [Ba,haj.1]⟩)) haj.2 ?_;conv=>whnf
      refine Gt (n:=128) (bs:=p) rfl (.inr (.inr ⟨none,rfl,by rw [Ba,hpl.1]⟩)) hpl.2 ?_;conv=>whnf
      refine Nw (a:=q) (b:=p) rfl rfl (fun hne=>?_) (fun heq=>?_)
      ·conv=>whnf
       have:H5 bs=true:=by
        rw [hcl];show (match DZ A p with|some true=>_|some false=>_|none=>_)=_
        rw [hI,Zow hne]
       rw [this] at k
       exact k _
      ·conv=>whnf
       repeat' (first|((first|refine w7 rfl rfl (by omega) ?_|refine ⟨rfl,?_⟩);conv=>whnf)|fail)
       refine ⟨(j+1,true),⟨by dsimp only;omega,(fun h=>by cases h),fun _=>by rw [hI,Zok heq]⟩,by dsimp only;omega,Abs.tells (rs:=[0,1]) .a⟩
     ·have he:¬ Au q=Au p:=by omega
      rw [Zon he] at hI
      conv=>whnf
      repeat' (first|((first|refine w7 rfl rfl (by omega) ?_|refine ⟨rfl,?_⟩);conv=>whnf)|fail)
      refine ⟨(j+1,false),⟨by dsimp only;omega,(fun _=>hI),(fun h=>by cases h)⟩,by dsimp only;omega,Abs.tells (rs:=[0,1]) .a⟩
    ·have hI:=hI0 rfl
     rw [Zpb (by omega)] at hI
     have hI:DZ A p=none:=hI
     have hap:A.map AA++[AA p]=(A++[p]).map AA:=by rw [Zo4];rfl
     have haq:A.map sv++[sv p]=(A++[p]).map sv:=by rw [Zo4];rfl
     have hfB:=VX (A++[p])
     have hsB:=VU (A++[p])
     conv=>whnf
     refine DL rfl ?_;conv=>whnf
     refine Ag rfl rfl (fun h=>by omega) (fun _=>?_);conv=>whnf
     repeat' (first|(refine BX (m:=1) rfl rfl rfl rfl (by rw [Zom];omega) rfl (by decide) (by omega) ?_;conv=>whnf)|((first|refine w7 rfl rfl (by omega) ?_|refine w13 rfl ?_|refine ⟨rfl,?_⟩);conv=>whnf)|fail)
     rw [hap,haq]
     refine ⟨(i+1,A++[p]),⟨by dsimp only;omega,by dsimp only;rw [Zot];show A.length+1≤i+1;omega,fun b hb=>?_,?_⟩,by dsimp only;omega,?_⟩
     ·rcases Zo7.1 hb with hb|hb
      ·exact hab b hb
      ·rw [List.mem_singleton] at hb;subst hb;exact hpl
     ·rw [hcl];show (match DZ A p with|some true=>_|some false=>_|none=>_)=_;rw [hI]
     ·have hA1:A++[p]=a::(l++[p]):=by rw [hA];rfl
      rw [show MN (A++[p])=[.row 41 ((A++[p]).map AA),.row 22 ((A++[p]).map sv)] by rw [hA1];rfl,show MK u (i+1) (A++[p])=[(0,u),(3,.sl 0 0 (m+1) none),(4,.sl 1 0 (m+1) none),(5,.int .i64 ((i+1:Nat):Int))] by rw [hA1,hml];show [_,(3,AV.sl 0 0 ((l++[p]).length+1) none),(4,AV.sl 1 0 ((l++[p]).length+1) none),_]=_;rw [Zot];rfl]
      exact Abs.tells (rs:=[3,5]) .a
   ·conv=>whnf
    repeat' (first|(refine DL rfl ?_;conv=>whnf)|((refine w1 rfl rfl ?_ ?_) <;> intro _ <;> first|(exfalso;omega)|(conv=>whnf))|((first|refine w7 rfl rfl (by omega) ?_|refine w12 rfl ?_|refine ⟨rfl,?_⟩);conv=>whnf)|fail)
    all_goals exact same _ _ (hI1 rfl) rfl rfl rfl rfl rfl rfl
 ·have hd:bs.drop i=[]:=Zpb (by omega)
  rw [hd] at hcl
  have hcl:H5 bs=false:=hcl
  rw [hcl] at k
  cases all <;> (conv=>whnf) <;> (refine Af rfl hsl ?_) <;> (conv=>whnf) <;> (refine Ag rfl rfl (fun h=>by omega) (fun _=>?_)) <;> (conv=>whnf) <;> exact k _
def M4 (args:List AV) (s:St) (u:AV) (s':St):Prop:=∃ (x:LB) (r:Nat),x.ok∧args=[.sl r 0 x.us.length none]∧s.get r=some (.row 41 x.us)∧u=.bool (H5 x.bs)∧s'=s
theorem Zde (h:Con e 15 (relS M4)) (hx:x.ok) (hr:s.get r=some (.row 41 x.us)) {K:AV→St→Prop}(hk:K (.bool (H5 x.bs)) s):ESc e 15 [.sl r 0 x.us.length none] s K:=by
 refine ESc.relS h (s':=s) ⟨x,r,hx,rfl,hr,rfl,rfl⟩ ?_
 rintro u s' ⟨y,r',hy,e1,e2,rfl,rfl⟩
 have e5:r=r':=by injection e1 with e1 _;injection e1
 subst e5
 have e3:y.us=x.us:=Ou e2 hr
 have e4:y.bs=x.bs:=SP (us:=x.us) (by rw [← e3];exact hy.a) hx.a
 rw [e4];exact hk
theorem Zgr (hE:EM P e) (h114:Con e 45 wholeF.O) (h115:Con e 46 sumRF.O):OvOk P 15 (relS M4):=by
 refine Me g15.b ?_
 rintro args s u s' ⟨x,r,hx,rfl,hr,rfl,rfl⟩
 have hcf:hfs x.us=true:=Hc hx.a
 have H:hfs [x.v]=true:=rfl
 exact HQ (args2:=[x.v]) (.cons (.sl r 0 _ none none 41 x.us x.us x.us hr (fun i y h=>by rw [Zou];exact h) (I9 hcf) (.inl rfl)) .nil) rfl (GZ H (C.of_G hE g15 (Zdf hE h114 h115 hx _ fun s=>.plain _ rfl)))
theorem Vk:∀ {all:List (List Nat)}{b:List Nat},DZ all b=some true→b ∈ all
 | [],_,h=>by cases h
 | a::l,b,h=>by
  have h:(if Au a=Au b then some (decide (a=b)) else DZ l b)=some true:=h
  split at h
  ·have h:decide (a=b)=true:=Zpn h
   rw [Zpw h];exact List.mem_cons_self
  ·exact List.mem_cons_of_mem _ (Vk h)
theorem Vl:∀ {all:List (List Nat)}{b:List Nat},DZ all b=none→∀ a ∈ all,Au a≠Au b
 | [],_,_,_,ha=>by cases ha
 | c::l,b,h,a,ha=>by
  have h:(if Au c=Au b then some (decide (c=b)) else DZ l b)=none:=h
  split at h
  ·cases h
  ·rename_i hn
   rcases Zpp.1 ha with rfl|ha
   ·exact hn
   ·exact Vl h a ha
theorem Rv:∀ (l all:List (List Nat)),IZ l all=false→(∀ a ∈ all,∀ b ∈ all,Au a=Au b→a=b)→∀ a ∈ all++l,∀ b ∈ all++l,Au a=Au b→a=b
 | [],all,_,h=>by rw [Zpq];exact h
 | c::l,all,hg,h=>by
  have hg:(match DZ all c with|some true=>IZ l all|some false=>true|none=>IZ l (all++[c]))=false:=hg
  cases hq:DZ all c with
  | none=>
   rw [hq] at hg
   have hn:=Vl hq
   have:=Rv l (all++[c]) hg (fun a ha b hb e=>by
    rcases Zo7.1 ha with ha|ha <;> rcases Zo7.1 hb with hb|hb
    ·exact h a ha b hb e
    ·rw [List.mem_singleton] at hb;exact absurd (by rw [e,hb]) (hn a ha)
    ·rw [List.mem_singleton] at ha;exact absurd (by rw [← e,ha]) (hn b hb)
    ·rw [List.mem_singleton] at ha hb;rw [ha,hb])
   rw [List.append_assoc] at this;exact this
  | some t=>
   cases t with
   | false=>rw [hq] at hg;cases hg
   | true=>
    rw [hq] at hg
    have hm:=Vk hq
    have hsub:∀ a ∈ all++c::l,a ∈ all++l:=fun a ha=>by
     rcases Zo7.1 ha with ha|ha
     ·exact Zo7.2 (.inl ha)
     ·rcases Zpp.1 ha with rfl|ha
      ·exact Zo7.2 (.inl hm)
      ·exact Zo7.2 (.inr ha)
    have:=Rv l all hg h
    exact fun a ha b hb=>this a (hsub a ha) b (hsub b hb)
theorem Zna {bs:List (List Nat)}(h:H5 bs=false):∀ a ∈ bs.map Aa,∀ b ∈ bs.map Aa,Au a=Au b→a=b:=by
 have:=Rv (bs.map Aa) [] h (fun a ha=>by cases ha)
 rwa [List.nil_append] at this
end Go.AM
namespace Go.AM
attribute [local irreducible] W
open X
structure OJ where
 c:Cfg
 d:DK
 ag:Int
structure OJ.ok (x:OJ):Prop where
 c:x.c.ok
 d:x.d.ok
 a:AK x.ag
structure OJ.may (x:OJ):Prop where
 m:x.c.may
 d:Bi x.d=true
 dead:x.d.dead=false
 len:(x.d.us.length:Int)=x.c.log+1
 ws:x.d.ws.length=0
def Po (ag:Int) (b:List Nat):Prop:=Cz b=true∧(As (Aa b)).age=ag
structure OJ.good (x:OJ):Prop where
 m:x.may
 n:∀ (i:Nat) b,1≤i→x.d.bs[i]?=some b→¬ Po x.ag b
def OJ.us (x:OJ):List AV:=.nils::x.d.us.drop 1
def OJ.args (x:OJ):List AV:=[x.c.v,x.d.v,.int .u32 x.ag]
def Ws:AC:=match a8 with|.mk c _=>c
def IS:Nat→AC→AC
 | 0,c=>c
 | n+1,.seq _ b=>IS n b
 | _,c=>c
structure OJIn (e:Env):Prop where
 h104:Con e 24 journalF.O
 h101:Con e 25 dskF.O
 h52:Con e 26 ndF.O
variable {s:St}
theorem TF {el es r n m:Nat}{v c:AV}{cs old:List AV}{t:AT}{k:AV→St→Prop}{x y:AO}(hx:ev x t=.some (.sl r 0 n (some n))) (hy:ev y t=.some v) (hv:E0 es v s=some (c::cs)) (hr:s.get r=some (.row el old)) (ho:old.length=n*es) (hm':(c::cs).length=m*es) (he:0<es) (h0:0<m) (h1:n+m≤1000000)
 (hk:k (.sl s.next 0 (n+m) none) (s.alloc (.row el (old++(c::cs))))):EPrim (.app el es x y) t s k:=by
 have hm:(c::cs).length / es=m:=by rw [hm'];exact Nat.mul_div_cancel m he
 refine EPrim.mk (fun e rec=>?_) hk
 show wth x t _=_;unfold wth;rw [hx]
 show wth y t _=_;unfold wth;rw [hy]
 show (Option.rec .fail _ (E0 es v s):RV)=_
 rw [hv]
 show AM.app1 el es (c::cs) (Nat.div (A3 (c::cs)) es) r 0 n (some n) s=_
 unfold AM.app1
 rw [CA,show Nat.div (c::cs).length es=m from hm,Hb hr (by show 0+n*es≤_;omega)]
 have e1:List.take (Nat.mul n es) (List.drop 0 old)=old:=by rw [List.drop_zero];exact Zoo (by show _≤n*es;omega)
 rw [e1]
 show (Bool.rec (Cs el (n+m) (AZ old (c::cs)) s) _ (Nat.ble (n+m) n):RV)=_
 rw [show Nat.ble (n+m) n=false by rw [← Zqg];intro e;have:=Zo3 e;omega]
 unfold Cs
 show gd (Nat.ble (n+m) 1000000) _=_
 rw [Zo6 h1,Do];rfl
def MY (ag lg:Int) (i:Nat):List (Nat×AV):=[(2,.int .u32 ag),(4,.ptr 0 0),(8,.int .i64 (lg+1)),(10,if i=0 then .sl 1 0 1 (some 1) else .sl 1 0 (i+1) none),(11,.int .i64 ((i+1:Nat):Int))]
variable {e:Env}{x:OJ}
theorem VJ (hE:EM P e) (hIn:OJIn e) (hx:x.ok) (Q:AV→St→Prop) (kno:¬ x.good→∀ s,Q (.tup [.nils,.bool false]) s) (kyes:x.good→∀ s r,s.get r=some (.row 41 x.us)→Q (.tup [.sl r 0 x.d.us.length none,.bool true]) s):
 VW P e 0 Ws (Ah x.args 0 .lf) St0 none [] (AR [.tmp 6,.tmp 7] Q):=by
 obtain ⟨c,d,ag⟩:=x
 obtain ⟨hc,hd,hag⟩:=hx
 dsimp only at hc hd hag
 have hj:∀ (K:AV→St→Prop) (s:St),(c.may→K (.tup [.int .i64 (c.log+1),.int .i64 0]) s)→(¬ c.may→K (.tup [.int .i64 0,.int .i64 8]) s)→ESc e 24 [c.v] s K:=fun K s k1 k2=>by
  by_cases hM:c.may
  ·exact ESc.fam journalF hIn.h104 c hc (by show AV.tup [.int .i64 (if _ then _ else _),.int .i64 (if _ then _ else _)]=_;rw [Zoj hM,Zoj hM]) (k1 hM)
  ·exact ESc.fam journalF hIn.h104 c hc (by show AV.tup [.int .i64 (if _ then _ else _),.int .i64 (if _ then _ else _)]=_;rw [Zon hM,Zon hM]) (k2 hM)
 have hk:∀ (K:AV→St→Prop) (s:St),(Bi d=true→K (.int .i64 0) s)→(¬ Bi d=true→K (.int .i64 8) s)→ESc e 25 [d.v] s K:=fun K s k1 k2=>by
  by_cases hD:Bi d=true
  ·exact ESc.fam dskF hIn.h101 d hd (by show AV.int .i64 (if _ then _ else _)=_;rw [Zoj hD]) (k1 hD)
  ·exact ESc.fam dskF hIn.h101 d hd (by show AV.int .i64 (if _ then _ else _)=_;rw [Zon hD]) (k2 hD)
 have hdf:hfs d.c=true:=CZ hd.a.wl hd.a.bl
 have hbl:=hd.a.bl
 have hwl:=hd.a.wl
 have hcl:=hc.log
 have hbs:=hd.a.bs
 obtain ⟨bv,us,bs,wv,ws,dd⟩:=d
 dsimp only at hbl hwl hbs
 obtain ⟨c1,c2,c3,c4,c5,c6⟩:=c
 show VW P e 0 Ws (Ah [_,.agg [bv,wv,.bool dd],.int .u32 ag] 0 .lf) St0 none [] _
 conv=>whnf
 refine hj _ _ (fun hM=>?_) (fun hM=>?_)
 ·conv=>whnf
  refine B7 (a:=0) (b:=0) rfl rfl (fun h=>absurd rfl h) (fun _=>?_);conv=>whnf
  refine hk _ _ (fun hD=>?_) (fun hD=>?_)
  ·cases dd
   ·conv=>whnf
    repeat' (first|(refine Af rfl hbl ?_;conv=>whnf)|(refine Af rfl hwl ?_;conv=>whnf)|((first|refine w3 rfl rfl ?_ ?_|refine w6 rfl rfl ?_ ?_) <;> intro _ <;> first|(exfalso;omega)|(conv=>whnf))|fail)
    ·exact kno (fun h=>absurd h.m.len (by dsimp only;omega)) _
    ·exact kno (fun h=>absurd h.m.ws (by dsimp only;omega)) _
    ·have hn1:(us.length:Int)=c5+1:=by omega
     have hw0:ws.length=0:=by omega
     have hlo:=Eo hM
     have hun:=hd.n
     dsimp only at hlo hun
     have hmay:OJ.may ⟨⟨c1,c2,c3,c4,c5,c6⟩,⟨bv,us,bs,wv,ws,false⟩,ag⟩:=⟨hM,hD,rfl,hn1,hw0⟩
     have hdl:=(dskB_iff.1 hD).2.1
     have hdg:hfs [bv,wv,.bool false]=true:=hdf
     have hUf:hfs us=true:=Hc hbs
     have hcf:∀ i,hfs (.nils::(us.drop 1).take i)=true:=fun i=>by
      show (true && hfs _)=true
      rw [Bool.true_and]
      exact hfs_iff.2 fun v hv=>hfs_iff.1 hUf v (Zpr (Zpm hv))
     clear hj hk hwl
     refine Ce (α:=Nat) (fun i=>MY ag c5 i) (fun i=>[.row 28 [bv,wv,.bool false],.row 41 (.nils::(us.drop 1).take i)]) (fun i=>us.length-i)
      (fun i=>i+1≤us.length∧∀ (j:Nat) b,1≤j→j<i+1→bs[j]?=some b→¬ Po ag b) 0 ⟨by omega,fun j b h1 h2=>by omega⟩
      (Abs.tells (rs:=[1,2]) .a) ?_
     rintro i ⟨hi,hI⟩
     have hi0:=hcf i
     have hi1:=hcf (i+1)
     refine A9 hE ?_
     by_cases hlt:i+1<us.length
     ·obtain ⟨b,hb1,hb2⟩:=hbs.get (Zof hlt)
      have hbm:=Zo1 hb1
      have hbl2:b.length=0∨b.length=128:=by
       have:=hdl b hbm
       unfold AE at this
       simp only [Bool.and_eq_false_iff,Zpl] at this
       omega
      have hug:((us.drop ((i+1)*1)))[0]?=some us[i+1]:=by rw [Zpi,Zoq];exact Zof hlt
      have htk:(us.drop 1).take (i+1)=(us.drop 1).take i++[us[i+1]]:=by
       rw [Zos (by rw [Zp3];omega),List.getElem_drop]
       simp only [Nat.add_comm 1 i]
      generalize us[i+1]=w at hb2 hug htk
      have hwf:AM.hf w=true:=hb2.1.hf
      have hnd:∀ (K:AV→St→Prop) (s:St),(∀ v,Cz b=true→K (.tup [.agg (Cw (As (Aa b)) v),.int .i64 0]) s)→(¬ Cz b=true→K (.tup [.agg Ew,.int .i64 90]) s)→ESc e 26 [w] s K:=fun K s k1 k2=>by
       by_cases hG:Cz b=true
       ·exact ESc.fam ndF hIn.h52 ⟨w,b⟩ ⟨hb2,hbl2⟩ (by show DP _=_;unfold DP;rw [Zoj hG]) (k1 _ hG)
       ·exact ESc.fam ndF hIn.h52 ⟨w,b⟩ ⟨hb2,hbl2⟩ (by show DP _=_;unfold DP;rw [Zon hG]) (k2 hG)
      have next:¬ Po ag b→∀ (j:Nat) b',1≤j→j<i+1+1→bs[j]?=some b'→¬ Po ag b':=fun hno j b' h1 h2 h3=>by
       by_cases hj:j<i+1
       ·exact hI j b' h1 hj h3
       ·have:j=i+1:=by omega
        subst this
        rw [hb1] at h3;cases h3;exact hno
      rw [htk] at hi1
      have happ:(.nils::(us.drop 1).take i)++[w]=.nils::((us.drop 1).take i++[w]):=rfl
      have hlt':((us.drop 1).take i).length=i:=by rw [Zo5,Zp3];omega
      rcases i with _|i
      ·conv=>whnf
       refine Ag (a:=((0+1:Nat):Int)) (b:=c5+1) rfl rfl (fun _=>?_) (fun h=>by omega);conv=>whnf
       refine A8 (i:=0+1) rfl hbl rfl hlt ?_;conv=>whnf
       refine EHead.mk (v:=w) hug ?_;conv=>whnf
       refine hnd _ _ (fun v hG=>?_) (fun hG=>?_)
       ·conv=>whnf
        refine B2 (q:=.i64) (a:=0) (b:=0) rfl rfl (fun _=>?_) (fun h=>absurd rfl h);conv=>whnf
        refine B2 (q:=.u32) (a:=(As (Aa b)).age) (b:=ag) rfl rfl (fun he=>?_) (fun he=>?_)
        ·conv=>whnf
         exact kno (fun h=>h.n (0+1) b (by omega) hb1 ⟨hG,he⟩) _
        ·conv=>whnf
         refine A8 (i:=0+1) rfl hbl rfl hlt ?_;conv=>whnf
         refine EHead.mk (v:=w) hug ?_;conv=>whnf
         refine AP [w] (by rcases hb2.1 with ⟨rfl,_⟩|⟨rfl,_⟩|⟨c,rfl,_⟩ <;> rfl) ?_
         conv=>whnf
         (refine TF (m:=1) rfl rfl rfl rfl rfl rfl (by decide) (by decide) (by decide) ?_)
         rw [happ]
         conv=>whnf
         repeat' (first|((first|refine w7 rfl rfl (by omega) ?_|refine ⟨rfl,?_⟩);conv=>whnf)|fail)
         refine ⟨0+1,⟨by omega,next (fun h=>he h.2)⟩,by omega,Abs.tells (tl:=MY ag c5 (0+1)) (os:=[.row 28 [bv,wv,.bool false],.row 41 (.nils::(us.drop 1).take (0+1))]) (rs:=[0,4]) ⟨by decide,⟨r9,r9,r9,r9,r9,trivial⟩,⟨o9,⟨by rw [htk];exact AD hi1,by rw [htk,Az hi1];rfl⟩,trivial⟩⟩⟩
       ·conv=>whnf
        refine B2 (q:=.i64) (a:=90) (b:=0) rfl rfl (fun h=>by omega) (fun _=>?_);conv=>whnf
        refine A8 (i:=0+1) rfl hbl rfl hlt ?_;conv=>whnf
        refine EHead.mk (v:=w) hug ?_;conv=>whnf
        refine AP [w] (by rcases hb2.1 with ⟨rfl,_⟩|⟨rfl,_⟩|⟨c,rfl,_⟩ <;> rfl) ?_
        conv=>whnf
        (refine TF (m:=1) rfl rfl rfl rfl rfl rfl (by decide) (by decide) (by decide) ?_)
        rw [happ]
        conv=>whnf
        repeat' (first|((first|refine w7 rfl rfl (by omega) ?_|refine ⟨rfl,?_⟩);conv=>whnf)|fail)
        refine ⟨0+1,⟨by omega,next (fun h=>hG h.1)⟩,by omega,Abs.tells (tl:=MY ag c5 (0+1)) (os:=[.row 28 [bv,wv,.bool false],.row 41 (.nils::(us.drop 1).take (0+1))]) (rs:=[0,4]) ⟨by decide,⟨r9,r9,r9,r9,r9,trivial⟩,⟨o9,⟨by rw [htk];exact AD hi1,by rw [htk,Az hi1];rfl⟩,trivial⟩⟩⟩
      ·conv=>whnf
       refine Ag (a:=((i+1+1:Nat):Int)) (b:=c5+1) rfl rfl (fun _=>?_) (fun h=>by omega);conv=>whnf
       refine A8 (i:=i+1+1) rfl hbl rfl hlt ?_;conv=>whnf
       refine EHead.mk (v:=w) hug ?_;conv=>whnf
       refine hnd _ _ (fun v hG=>?_) (fun hG=>?_)
       ·conv=>whnf
        refine B2 (q:=.i64) (a:=0) (b:=0) rfl rfl (fun _=>?_) (fun h=>absurd rfl h);conv=>whnf
        refine B2 (q:=.u32) (a:=(As (Aa b)).age) (b:=ag) rfl rfl (fun he=>?_) (fun he=>?_)
        ·conv=>whnf
         exact kno (fun h=>h.n (i+1+1) b (by omega) hb1 ⟨hG,he⟩) _
        ·conv=>whnf
         refine A8 (i:=i+1+1) rfl hbl rfl hlt ?_;conv=>whnf
         refine EHead.mk (v:=w) hug ?_;conv=>whnf
         refine AP [w] (by rcases hb2.1 with ⟨rfl,_⟩|⟨rfl,_⟩|⟨c,rfl,_⟩ <;> rfl) ?_
         conv=>whnf
         (refine BX (m:=1) rfl rfl rfl rfl (by show ((us.drop 1).take (i+1)).length+1=_;rw [hlt'];omega) rfl (by decide) (by omega) ?_)
         rw [happ]
         conv=>whnf
         repeat' (first|((first|refine w7 rfl rfl (by omega) ?_|refine ⟨rfl,?_⟩);conv=>whnf)|fail)
         refine ⟨i+1+1,⟨by omega,next (fun h=>he h.2)⟩,by omega,Abs.tells (tl:=MY ag c5 (i+1+1)) (os:=[.row 28 [bv,wv,.bool false],.row 41 (.nils::(us.drop 1).take (i+1+1))]) (rs:=[0,4]) ⟨by decide,⟨r9,r9,r9,r9,r9,trivial⟩,⟨o9,⟨by rw [htk];exact AD hi1,by rw [htk,Az hi1];rfl⟩,trivial⟩⟩⟩
       ·conv=>whnf
        refine B2 (q:=.i64) (a:=90) (b:=0) rfl rfl (fun h=>by omega) (fun _=>?_);conv=>whnf
        refine A8 (i:=i+1+1) rfl hbl rfl hlt ?_;conv=>whnf
        refine EHead.mk (v:=w) hug ?_;conv=>whnf
        refine AP [w] (by rcases hb2.1 with ⟨rfl,_⟩|⟨rfl,_⟩|⟨c,rfl,_⟩ <;> rfl) ?_
        conv=>whnf
        (refine BX (m:=1) rfl rfl rfl rfl (by show ((us.drop 1).take (i+1)).length+1=_;rw [hlt'];omega) rfl (by decide) (by omega) ?_)
        rw [happ]
        conv=>whnf
        repeat' (first|((first|refine w7 rfl rfl (by omega) ?_|refine ⟨rfl,?_⟩);conv=>whnf)|fail)
        refine ⟨i+1+1,⟨by omega,next (fun h=>hG h.1)⟩,by omega,Abs.tells (tl:=MY ag c5 (i+1+1)) (os:=[.row 28 [bv,wv,.bool false],.row 41 (.nils::(us.drop 1).take (i+1+1))]) (rs:=[0,4]) ⟨by decide,⟨r9,r9,r9,r9,r9,trivial⟩,⟨o9,⟨by rw [htk];exact AD hi1,by rw [htk,Az hi1];rfl⟩,trivial⟩⟩⟩
     ·have hie:i+1=us.length:=by omega
      obtain ⟨i,rfl⟩:∃ q,i=q+1:=⟨i-1,by omega⟩
      have hte:(us.drop 1).take (i+1)=us.drop 1:=Zoo (by rw [Zp3];omega)
      rw [hte]
      have hgood:OJ.good ⟨⟨c1,c2,c3,c4,c5,c6⟩,⟨bv,us,bs,wv,ws,false⟩,ag⟩:=⟨hmay,fun j b h1 h2=>hI j b h1 (by
       have h3:=(Zog.1 h2).1
       have h4:=hbs.length
       dsimp only at h3
       omega) h2⟩
      have ky:=kyes hgood
      rw [show (OJ.d ⟨⟨c1,c2,c3,c4,c5,c6⟩,⟨bv,us,bs,wv,ws,false⟩,ag⟩).us.length=i+1+1 by show us.length=_;omega] at ky
      conv=>whnf
      refine Ag (a:=((i+1+1:Nat):Int)) (b:=c5+1) rfl rfl (fun h=>by omega) (fun _=>?_);conv=>whnf
      exact ky _ 1 rfl
   ·conv=>whnf
    repeat' (first|((refine w6 rfl rfl ?_ ?_) <;> intro _ <;> first|(exfalso;omega)|(conv=>whnf))|fail)
    exact kno (fun h=>by have:=h.m.dead;cases this) _
  ·conv=>whnf
   repeat' (first|((refine w6 rfl rfl ?_ ?_) <;> intro _ <;> first|(exfalso;omega)|(conv=>whnf))|fail)
   exact kno (fun h=>hD h.m.d) _
 ·conv=>whnf
  repeat' (first|((refine w6 rfl rfl ?_ ?_) <;> intro _ <;> first|(exfalso;omega)|(conv=>whnf))|fail)
  exact kno (fun h=>hM h.m.m) _
theorem OJ.ok.hfus (hx:x.ok):hfs x.us=true:=by
 have:=Hc hx.d.a.bs
 show (true && hfs (x.d.us.drop 1))=true
 rw [Bool.true_and]
 exact hfs_iff.2 fun v hv=>hfs_iff.1 this v (Zpr hv)
theorem OJ.inja {y:OJ}(hx:x.ok) (hy:y.ok) (h:x.args=y.args):x=y:=by
 obtain ⟨c,d,a⟩:=x
 obtain ⟨c',d',a'⟩:=y
 have h1:=FM (Zor h).1
 have h2:=DK.inj hx.d.a hy.d.a (Zor (Zor h).2).1
 have h3:=(Zor (Zor (Zor h).2).2).1
 injection h3 with _ h3
 dsimp only at h1 h2 h3
 subst h1 h2 h3;rfl
def Lj (args:List AV) (s:St) (u:AV) (s':St):Prop:=∃ x:OJ,x.ok∧args=x.args∧((x.good∧u=.tup [.sl s.next 0 x.d.us.length none,.bool true]∧s'=s.alloc (.row 41 x.us))∨(¬ x.good∧u=.tup [.nils,.bool false]∧s'=s))
theorem Zh1 (h:Con e 8 (relS Lj)) (hx:x.ok) {K:AV→St→Prop}(k1:x.good→K (.tup [.sl s.next 0 x.d.us.length none,.bool true]) (s.alloc (.row 41 x.us))) (k2:¬ x.good→K (.tup [.nils,.bool false]) s):ESc e 8 x.args s K:=by
 have key:∀ u s',Lj x.args s u s'→K u s':=by
  rintro u s' ⟨y,hy,e1,h⟩
  have:=OJ.inja hx hy e1
  subst this
  rcases h with ⟨hg,rfl,rfl⟩|⟨hg,rfl,rfl⟩
  ·exact k1 hg
  ·exact k2 hg
 by_cases hg:x.good
 ·exact ESc.relS h ⟨x,hx,rfl,.inl ⟨hg,rfl,rfl⟩⟩ key
 ·exact ESc.relS h ⟨x,hx,rfl,.inr ⟨hg,rfl,rfl⟩⟩ key
theorem Zl3 (hE:EM P e) (hIn:OJIn e):OvOk P 8 (relS Lj):=by
 refine Me g8.b ?_
 rintro args s0 u s1 ⟨x,hx,rfl,h⟩
 have hfa:hfs x.args=true:=by show (true && (AM.hf x.d.v && (true && true)))=true;rw [DK.hf hx.d.a];rfl
 rcases h with ⟨hg,rfl,rfl⟩|⟨hg,rfl,rfl⟩
 ·have key:C P 8 x.args St0 (fun v s'=>v=.tup [.sl 0 0 x.d.us.length none,.bool true]∧s'=Ac St0 [.row 41 x.us]):=by
   refine C.abs (C.of_G hE g8 (VJ hE hIn hx _ (fun h=>absurd hg h) fun _ s r h=>?_))
   exact ⟨[r],⟨by simp,⟨⟨rfl,rfl⟩,trivial⟩,⟨⟨AD hx.hfus,by rw [Az hx.hfus];exact h⟩,trivial⟩⟩⟩
  refine (C.frame (l:=[.row 41 x.us]) hfa (fun o ho=>by simp at ho;subst ho;rfl) (.inl (by simp)) key (fun i o h=>NA _ (by simp) h) s0).mono ?_
  rintro v s' ⟨rfl,rfl⟩
  refine ⟨?_,?_⟩
  ·show AV.tup [.sl (0+s0.next) 0 _ none,.bool true]=_
   rw [Zou]
  ·show Ac s0 [B5 _ (.row 41 x.us)]=_
   rw [Az hx.hfus];rfl
 ·exact IJ hfa rfl (C.of_G hE g8 (VJ hE hIn hx _ (fun _ s=>.plain _ rfl) fun h=>absurd h hg)) _
end Go.AM
namespace Go.AM
variable {x:Nt}{k:Nat}
theorem Kj (h:k<x.recs.length):AG x (k+1)=Dp (AG x k) k x.recs[k]:=by
 show (match x.recs[k]? with|some r=>Dp (AG x k) k r|none=>AG x k)=_
 rw [Zof h]
theorem Jn {x:Nt}{a w:Nat}(h:a+w≤15):∀ k,Ak (AG x k) a w=Ak (E3 x) a w
 | 0=>rfl
 | k+1=>by
  by_cases hk:k<x.recs.length
  ·rw [Kj hk]
   unfold Dp
   rw [Cd (by omega),Cd (by omega),Cd (by omega),Jn h k]
  ·show Ak (match x.recs[k]? with|some r=>Dp (AG x k) k r|none=>AG x k) a w=_
   rw [Zqi (by omega)]
   exact Jn h k
theorem LC {x:Nt}{i a w:Nat}(h:a+w≤15+6*(i+1)):∀ k,i+1≤k→Ak (AG x k) a w=Ak (AG x (i+1)) a w
 | 0,hk=>by omega
 | k+1,hk=>by
  by_cases e:k=i
  ·subst e;rfl
  ·by_cases hl:k<x.recs.length
   ·rw [Kj hl]
    unfold Dp
    rw [Cd (by omega),Cd (by omega),Cd (by omega),LC h k (by omega)]
   ·show Ak (match x.recs[k]? with|some r=>Dp (AG x k) k r|none=>AG x k) a w=_
    rw [Zqi (by omega)]
    exact LC h k (by omega)
variable {i:Nat}
theorem Zb9 (hi:i<x.recs.length) (hk:i+1≤k) (hl:x.recs.length≤16) (hs:0≤x.recs[i].slot∧x.recs[i].slot<256) (hm:AK x.recs[i].sum):
 HT (AG x k) i=x.recs[i]:=by
 unfold AK at hm
 have hlen:=Jh x i
 have e1:Ak (AG x k) (15+6*i) 1=x.recs[i].slot.toNat:=by
  rw [LC (i:=i) (by omega) k hk,Kj hi]
  unfold Dp
  rw [Cd (by omega),Cd (by omega),FN (by rw [hlen];omega) (by show _<256;omega)]
 have e2:Ak (AG x k) (16+6*i) 1=HW x.recs[i].bare:=by
  rw [LC (i:=i) (by omega) k hk,Kj hi]
  unfold Dp
  rw [Cd (by omega),FN (by rw [Bt,hlen];omega) (by unfold HW;split <;> decide)]
 have e3:Ak (AG x k) (17+6*i) 4=x.recs[i].sum.toNat:=by
  rw [LC (i:=i) (by omega) k hk,Kj hi]
  unfold Dp
  rw [FN (by rw [Bt,Bt,hlen];omega) (by show _<4294967296;omega)]
 unfold HT
 rw [e1,e2,e3]
 generalize x.recs[i]=r at hs hm
 obtain ⟨s,bb,m⟩:=r
 dsimp only at hs hm ⊢
 rw [Int.toNat_of_nonneg hs.1,Int.toNat_of_nonneg hm.1]
 congr 1
 cases bb <;> rfl
theorem Ir {a w:Nat}(h:a+w≤124):Ak (AN x) a w=Ak (AG x x.recs.length) a w:=by
 unfold AN
 rw [Cd (by omega)]
theorem YW (h:i<16):HT (AN x) i=HT (AG x x.recs.length) i:=by
 unfold HT
 rw [Ir (by omega),Ir (by omega),Ir (by omega)]
theorem QT (h:Bq x=true) (hid:AK x.id) (hr:∀ r ∈ x.recs,r.ok):As (AN x)=⟨x.id,x.age,x.seq,x.stripe,.nils,x.recs⟩:=by
 have hh:=h
 unfold Bq Hs at hh
 rw [Zoh] at hh
 obtain ⟨⟨c1,c2⟩,⟨a1,a2⟩,⟨s1,s2⟩,⟨t1,t2⟩⟩:=Zpw hh.1
 unfold AK at hid
 have l0:(List.replicate 128 0:List Nat).length=128:=by simp
 have e1:Ak (AN x) 1 4=x.id.toNat:=by
  rw [Ir (by omega),Jn (by omega)]
  unfold E3
  rw [Cd (by omega),Cd (by omega),Cd (by omega),Cd (by omega),FN (by simp only [Bt];omega) (by show _<4294967296;omega)]
 have e2:Ak (AN x) 5 4=x.age.toNat:=by
  rw [Ir (by omega),Jn (by omega)]
  unfold E3
  rw [Cd (by omega),Cd (by omega),Cd (by omega),FN (by simp only [Bt];omega) (by show _<4294967296;omega)]
 have e3:Ak (AN x) 9 4=x.seq.toNat:=by
  rw [Ir (by omega),Jn (by omega)]
  unfold E3
  rw [Cd (by omega),Cd (by omega),FN (by simp only [Bt];omega) (by show _<4294967296;omega)]
 have e4:Ak (AN x) 13 1=x.stripe.toNat:=by
  rw [Ir (by omega),Jn (by omega)]
  unfold E3
  rw [Cd (by omega),FN (by simp only [Bt];omega) (by show _<256;omega)]
 have e5:Ak (AN x) 14 1=x.recs.length:=by
  rw [Ir (by omega),Jn (by omega)]
  unfold E3
  rw [FN (by simp only [Bt];omega) (by show _<256;omega)]
 have e6:C0 (AN x)=x.recs.length:=by unfold C0;rw [e5];omega
 have e7:G6 (AN x) x.recs.length=x.recs:=by
  unfold G6
  refine List.ext_getElem (by simp) fun i h1 h2=>?_
  rw [List.getElem_map,List.getElem_range,YW (by omega)]
  have hri:=hr _ (Zpg h2)
  exact Zb9 h2 (by omega) c2 hri.1 hri.2
 unfold As
 rw [e1,e2,e3,e4,e6,e7,Int.toNat_of_nonneg hid.1,Int.toNat_of_nonneg (by omega),Int.toNat_of_nonneg (by omega),Int.toNat_of_nonneg t1]
theorem PF (x:Nt):(AN x).length=128:=by unfold AN;rw [Bt];exact Jh _ _
theorem Zca (x:Nt):∀ b ∈ AN x,b<256:=by unfold AN;exact Bb (Kt _ _) _
theorem SE (h:Bq x=true) (hid:AK x.id) (hr:∀ r ∈ x.recs,r.ok):Cz (AN x)=true:=by
 have hp:Aa (AN x)=AN x:=CH (PF x)
 unfold Cz
 rw [hp,QT h hid hr]
 obtain ⟨id,ag,sq,st,v,R⟩:=x
 have h1:Bq ⟨id,ag,sq,st,.nils,R⟩=true:=h
 dsimp only
 rw [h1,QF id ag sq st .nils v R,Zok rfl];rfl
theorem Qe:∀ k,(AG x k).getD 0 0=78
 | 0=>by
  show (E3 x).getD 0 0=78
  unfold E3
  rw [Fk,Zon (by omega),Fk,Zon (by omega),Fk,Zon (by omega),Fk,Zon (by omega),Fk,Zon (by omega),Fk,Zoj (by simp)]
 | k+1=>by
  by_cases hk:k<x.recs.length
  ·rw [Kj hk]
   unfold Dp
   rw [Fk,Zon (by omega),Fk,Zon (by omega),Fk,Zon (by omega)]
   exact Qe k
  ·show (match x.recs[k]? with|some r=>Dp (AG x k) k r|none=>AG x k).getD 0 0=_
   rw [Zqi (by omega)]
   exact Qe k
theorem Zw (x:Nt):(AN x).getD 0 0=78:=by
 unfold AN
 rw [Fk,Zon (by omega)]
 exact Qe _
theorem Zp (b:List Nat) (hl:b.length≤128):(AQ b).getD 0 0≠78:=by
 have hw:=Ip hl
 unfold AQ
 cases hq:Cf b
 ·rw [Zon (by simp)]
  unfold Cf at hq
  cases hw0:BT b with
  | nil=>simp
  | cons a l=>
   rw [hw0] at hq
   intro h
   have:a=78:=h
   rw [this] at hq
   simp at hq
 ·rw [Zoj rfl]
  cases hw0:BT b with
  | nil=>simp
  | cons a l=>simp
theorem YX {b:List Nat}(hl:b.length≤128):Cz (AQ b)=false:=by
 cases hq:Cz (AQ b) with
 | false=>rfl
 | true=>
  exfalso
  unfold Cz at hq
  rw [Zoh] at hq
  have h2:=Zpw hq.2
  have:=Zw (As (Aa (AQ b)))
  rw [h2] at this
  exact Zp b hl this
end Go.AM
