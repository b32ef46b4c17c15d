/-
 Functions of the program as the abstract machine reads them, and what is stated of them, checked by the kernel. No conditions.
-/
import Derived.Test.YtacmbogmbfmjeaaGreatStD
set_option linter.unusedVariables false
set_option linter.unusedSimpArgs false
set_option linter.unnecessarySimpa false
set_option maxRecDepth 100000
namespace Go.AM
attribute [local irreducible] W
open X
variable {fn:Func}{code:AC}{res:List ARes}
theorem Zoc {γ:Type}{S:Sg γ}{ok p:γ→Prop}{f:Nat}(g:GK f fn (.mk code res)) (h:∀ x args,S.r x args→ok x→∀ K:AV→St→Prop,(p x→∀ s,K (.bool true) s)→(¬p x→∀ s,K (.bool false) s)→W P 0 none code (Ah args 0 .lf) St0 [] (BG res K)):OvOk P f (bF S ok p).O:=
 Bs g.b fun x args h1 h2=>⟨rfl,C.of_W g.f g.c (h x args h1 h2 _ (fun q _=>pT q) fun q _=>pF q)⟩
noncomputable def Eh (d:Dv) (D:List Dk) (s:Int) (k:Nat):List Nat:=(Cb d D s k).getD []
noncomputable def Ga (d:Dv) (D:List Dk) (s:Int) (k:Nat):List Nat:=(BX d D s k).getD []
noncomputable def Fa (d:Dv) (D:List Dk) (s:Int) (i:Nat):List (List Nat):=(List.range i).map (Eh d D s)
noncomputable def Hx (d:Dv) (D:List Dk) (s:Int) (i:Nat):List (List Nat):=(List.range i).map (Ga d D s)
def K3 (d:Dv) (D:List Dk) (s:Int):Prop:=(∀ k<d.1.members.toNat,Cb d D s (k:Nat)≠none)∧Bi (Fa d D s d.1.members.toNat)=FJ∧(0≤A9 d.2.2.2.1 s→∀ h,d.2.2.2.1[(A9 d.2.2.2.1 s).toNat]?=some h→(∀ k<d.1.members.toNat,(h.2.2.2.1=4∨k+1<d.1.members.toNat∧h.2.2.1[k]?=some false)→(D5 d s k).length≠0→D5 d s k=Eh d D s k)∧(h.2.2.2.1≠0→D5 d s ((d.1.members.toNat-1:Nat):Int)=Bi (Hx d D s (d.1.members.toNat-1))))
def Xf:AC:=match a33 with|.mk c _=>c
def Om:AC:=match Xf with
 | .seq _ (.seq _ (.seq _ (.seq _ r)))=>r
 | _=>.skip
variable {x:AO}{t:AT}{v:AV}
theorem Og {p:List AV→Prop}(hx:ev x t=.some v) (hc:cellsOf v=[v]) (hk:p [v]):wO (fill t [(0,1,x)] [.nils]) p:=by
 have h:fill t [(0,1,x)] [.nils]=some [v]:=by
  show (OV.rec none (fun v=>Bool.rec none (Option.rec none (fun z'=>some z') (Et (cellsOf v) 0 [.nils])) (Nat.beq (A6 (cellsOf v)) 1)) (ev x t):Option (List AV))=_
  rw [hx];dsimp only;rw [hc];rfl
 rw [h];exact hk
theorem Ls.cell {α:Type}{C:Ce α}{l:List α}(h:Ls C l v):cellsOf v=[v]:=by
 obtain ⟨cs,_,h,_⟩:=h
 rcases h with ⟨rfl,_⟩|⟨rfl,_⟩|⟨_,rfl,_⟩
 all_goals rfl
def KR (v:AV) (s m:Int) (n i:Nat):List (Nat×AV):=[(1,v),(2,.int .i64 s),(3,.ptr 0 0),(7,.int .i64 m),(8,match i with|0=>.nils|i+1=>.sl 2 0 (min (i+1) (n-1)) none),(9,match i with|0=>.nils|i+1=>.sl 1 0 (i+1) none),(10,.int .i64 (i:Int))]
def KS (o:AObj) (T V:Nat→AV) (n i:Nat):List AObj:=match i with
 | 0=>[o]
 | i+1=>[o,.row 76 ((List.range (i+1)).map T),.row 76 ((List.range (min (i+1) (n-1))).map V)]
theorem GT {T:Nat→AV}{m:Nat}(h:∀ k<m,AM.hf (T k)=true):hfs ((List.range m).map T)=true:=hfs_iff.2 fun v hv=>by
 obtain ⟨k,hk,rfl⟩:=Zq9.1 hv
 exact h k (List.mem_range.1 hk)
theorem L6 {T:Nat→AV}{m:Nat}:(List.range (m+1)).map T=(List.range m).map T++[T m]:=by rw [List.range_succ,Zqy];rfl
variable {e:Env}{d:Dv}{l:List AV}{D:List Dk}{K:AV→St→Prop}
theorem Zbb (hE:EM P e) (h78:Con e 78 fetF.O) (h43:Con e 43 (Ag I5)) {s:Int}(hd:dvC.r d l) (hD:Ls dkC D v) (hs:Aa s) (hok:He d.1 D s) (hsh:Cc d.1 d.2.2.2.1) (f:¬K3 d D s→∀ st,K (.bool false) st)
 (hrest:∀ V:Nat→AV,(∀ k<d.1.members.toNat-1,Ls Ce.u8 (Ga d D s k) (V k))→(∀ k<d.1.members.toNat,Cb d D s (k:Nat)≠none)→W P 0 none Om (A5 (KR v s d.1.members d.1.members.toNat d.1.members.toNat)) (Al St0 (KS (.row 33 l) (fun k=>Ay (Eh d D s k)) V d.1.members.toNat d.1.members.toNat)) [] (BG [.tmp 6] K)):
 W P 0 none Xf (Ah [.agg l,v,.int .i64 s] 0 .lf) St0 [] (BG [.tmp 6] K):=by
 have hvf:=hD.hf
 have hrow:=dvC.hf hd
 have hM:=hok.1
 have hM':=hM
 unfold Cfg.may at hM'
 have hfe:∀ k:Nat,k<d.1.members.toNat→∀ (Q:AV→St→Prop) st,Q (Ef (Cb d D s k)) st→ESc e 78 [.agg l,v,.int .i64 s,.int .i64 (k:Int)] st Q:=fun k hk Q st q=>Fn.u (F:=fetF) h78 (d,D,s,(k:Int),()) ⟨_,_,rfl,hd,_,_,rfl,⟨_,rfl,hD⟩,_,_,rfl,⟨rfl,AW hs⟩,_,_,rfl,⟨rfl,AW (show Aa (k:Int) by unfold Aa;omega)⟩,rfl⟩ ⟨hok,Zrs _,by dsimp only;omega⟩ q
 have hvw:∀ k:Nat,∃ u,k<d.1.members.toNat→Cb d D s (k:Nat)≠none→Ls Ce.u8 (Ga d D s k) u∧∀ (Q:AV→St→Prop) st,Q (.tup [u,.bool true]) st→ESc e 43 [.agg l,v,.int .i64 s,.int .i64 (k:Int)] st Q:=fun k=>by
  by_cases h:k<d.1.members.toNat∧Cb d D s (k:Nat)≠none
  ·obtain ⟨b,hb⟩:∃ b,BX d D s k=some b:=by
    unfold BX
    split
    ·exact ⟨_,rfl⟩
    ·exact Option.ne_none_iff_exists'.1 h.2
   obtain ⟨u,h1,h2⟩:=Rw h43 hd hD hs (show Aa (k:Int) by unfold Aa;omega) ⟨hok,hsh,Zrs _,by omega⟩ hb
   exact ⟨u,fun _ _=>⟨by unfold Ga;rw [hb];exact h1,h2⟩⟩
  ·exact ⟨.nils,fun h1 h2=>absurd ⟨h1,h2⟩ h⟩
 obtain ⟨V,hV⟩:=Classical.axiomOfChoice hvw
 have hN:∀ k:Nat,k<d.1.members.toNat→Cb d D s (k:Nat)=none→∀ st,K (.bool false) st:=fun k hk h=>f fun q=>q.1 k hk h
 have hthg:∀ k:Nat,Cb d D s (k:Nat)≠none→Ef (Cb d D s (k:Nat))=.tup [Ay (Eh d D s k),.bool true]:=fun k h=>by
  obtain ⟨b,hb⟩:=Option.ne_none_iff_exists'.1 h
  unfold Eh;rw [hb];rfl
 have hrs:=fun h=>hrest V (fun k hk=>(hV k (by omega) (h k (by omega))).1) h
 have hVce:∀ k,k<d.1.members.toNat→Cb d D s (k:Nat)≠none→cellsOf (V k)=[V k]:=fun k h1 h2=>((hV k h1 h2).1).cell
 have hVf:∀ k,k<d.1.members.toNat→Cb d D s (k:Nat)≠none→AM.hf (V k)=true:=fun k h1 h2=>((hV k h1 h2).1).hf
 clear hvw f hrest
 generalize Eh d D s=T at *
 generalize Cb d D s=F at *
 generalize Ga d D s=VG at *
 obtain ⟨c,bk,⟨ev,lo,sp,po,dn,nl,br⟩,hs',⟨ag,sq,tl,us,L⟩,fs,nx,so⟩:=d
 obtain ⟨hv,lv,fv,rfl,-⟩:=Bl hd
 dsimp only at *
 refine Br hE ?_;conv=>whnf
 refine Br hE ?_;conv=>whnf
 refine Br hE ?_;conv=>whnf
 refine Br hE ?_;conv=>whnf
 refine Ax hE c.members.toNat (fun i=>KR v s c.members c.members.toNat i) (fun i=>KS (.row 33 (c.c++[.bool bk,.int .u32 ev,.int .i64 lo,.bool sp,.int .i64 po,.int .i64 dn,.bool nl,.bool br,hv,.int .u32 ag,.int .u32 sq,.int .i64 tl,.int .i64 us,lv,fv,.int .i64 nx,.bool so])) (fun k=>Ay (T k)) V c.members.toNat i) (fun i=>∀ k<i,F (k:Nat)≠none) (fun k h=>by omega) (Abs.tells (rs:=[0]) .a) ?_
 intro i hi hI
 by_cases hlt:i<c.members.toNat
 ·have hfe:=hfe i hlt
  cases hF:F (i:Nat) with
  | none=>
   rw [hF] at hfe
   have hfe:∀ (Q:AV→St→Prop) st,Q (.tup [.nils,.bool false]) st→ESc e 78 _ st Q:=hfe
   rcases i with _|i
   all_goals
    conv=>whnf
    repeat' (first|((first|refine hfe _ _ ?_|refine As ?_);conv=>whnf)|refine v1 ?_ ?_|(intro _;first|omega|conv=>whnf))
    exact ⟨.inr rfl,_,_,rfl,rfl,hN _ hlt hF _⟩
  | some b=>
   have hne:F (i:Nat)≠none:=by rw [hF];exact fun h=>nomatch h
   rw [hthg i hne] at hfe
   have hcv:=(hV i hlt hne).2
   have hvh:=hVf i hlt hne
   have hI':=AR hI hne
   have hVfa:∀ k<i+1,AM.hf (V k)=true:=fun k h=>hVf k (by omega) (hI' k h)
   have hVc:=hVce i hlt hne
   have hTf:hfs ((List.range (i+1)).map fun k=>Ay (T k))=true:=GT fun k _=>rfl
   rcases i with _|j
   ·have hmn:min (0+1) (c.members.toNat-1)=1:=by omega
    conv=>whnf
    repeat' (first|((first|refine hfe _ _ ?_|refine hcv _ _ ?_|refine Og rfl hVc ?_|refine CJ (m:=1) ?_|refine v7 ?_|refine v8 ?_|refine An ?_|refine ⟨rfl,?_⟩);conv=>whnf)|refine v1 ?_ ?_|(intro _;first|omega|conv=>whnf))
    ·refine ⟨hlt,hI',Abs.tells (rs:=[0,2,4]) ?_⟩
     have hv0:hfs ((List.range (min (0+1) (c.members.toNat-1))).map V)=true:=by rw [hmn];exact GT hVfa
     unfold KR KS
     dsimp only
     rw [hmn] at hv0 ⊢
     exact ⟨by decide,⟨t9,r9,r9,r9,r9,r9,r9,trivial⟩,⟨o9 hrow,⟨Bd rfl,rfl⟩,o9 hv0,trivial⟩⟩
    all_goals (exfalso;omega)
   ·have ht1:∀ a,KR v s c.members c.members.toNat (a+1)=[(1,v),(2,.int .i64 s),(3,.ptr 0 0),(7,.int .i64 c.members),(8,.sl 2 0 (min (a+1) (c.members.toNat-1)) none),(9,.sl 1 0 (a+1) none),(10,.int .i64 ((a+1:Nat):Int))]:=fun a=>rfl
    have ht2:∀ o T V a,KS o T V c.members.toNat (a+1)=[o,.row 76 ((List.range (a+1)).map T),.row 76 ((List.range (min (a+1) (c.members.toNat-1))).map V)]:=fun o T V a=>rfl
    have hTf':hfs (((List.range (j+1)).map fun k=>Ay (T k))++[Ay (T (j+1))])=true:=by rw [L6] at hTf;exact hTf
    rw [ht1,ht1,ht2,ht2]
    rw [L6 (m:=j+1) (T:=fun k=>Ay (T k))]
    by_cases hjl:j+1<c.members.toNat-1
    ·have hm1:min (j+1) (c.members.toNat-1)=j+1:=by omega
     have hm2:min (j+1+1) (c.members.toNat-1)=j+1+1:=by omega
     have hjl':((j+1:Nat):Int)<c.members-1:=by omega
     have hVf':hfs (((List.range (j+1)).map V)++[V (j+1)])=true:=by rw [← L6];exact GT hVfa
     rw [hm1,hm2,L6 (m:=j+1) (T:=V)]
     conv=>whnf
     repeat' (first|((first|refine hfe _ _ ?_|refine hcv _ _ ?_|refine Og rfl hVc ?_|refine Cw (m:=1) (n:=j+1) (old:=(List.range (j+1)).map fun k=>Ay (T k)) rfl rfl rfl rfl (by rw [Zqg,List.length_range];exact (Zrc _).symm) rfl (by decide) (by omega) ?_|refine Cw (m:=1) (n:=j+1) (old:=(List.range (j+1)).map V) rfl rfl rfl rfl (by rw [Zqg,List.length_range];exact (Zrc _).symm) rfl (by decide) (by omega) ?_|refine v7 ?_|refine v8 ?_|refine An ?_|refine ⟨rfl,?_⟩);conv=>whnf)|refine v1 ?_ ?_|(intro _;first|omega|conv=>whnf))
     exact ⟨hlt,hI',Abs.tells (rs:=[0,4,6]) .a⟩
    ·have hm1:min (j+1) (c.members.toNat-1)=j+1:=by omega
     have hm2:min (j+1+1) (c.members.toNat-1)=j+1:=by omega
     have hjl':¬((j+1:Nat):Int)<c.members-1:=by omega
     have hVf':hfs ((List.range (j+1)).map V)=true:=GT fun k h=>hVfa k (by omega)
     rw [hm1,hm2]
     conv=>whnf
     repeat' (first|((first|refine hfe _ _ ?_|refine Cw (m:=1) (n:=j+1) (old:=(List.range (j+1)).map fun k=>Ay (T k)) rfl rfl rfl rfl (by rw [Zqg,List.length_range];exact (Zrc _).symm) rfl (by decide) (by omega) ?_|refine v7 ?_|refine v8 ?_|refine An ?_|refine ⟨rfl,?_⟩);conv=>whnf)|refine v1 ?_ ?_|(intro _;first|omega|conv=>whnf))
     exact ⟨hlt,hI',Abs.tells (rs:=[0,4,2]) .a⟩
 ·have hn3:3≤c.members.toNat:=by omega
  obtain rfl:i=c.members.toNat:=by omega
  have hrest:=hrs hI
  have hTf:hfs ((List.range c.members.toNat).map fun k=>Ay (T k))=true:=GT fun k _=>rfl
  have hVf':hfs ((List.range (min c.members.toNat (c.members.toNat-1))).map V)=true:=GT fun k h=>hVf k (by omega) (hI k (by omega))
  clear hrs
  have hNN:c.members≤(c.members.toNat:Int):=by omega
  generalize c.members.toNat=N at *
  rcases N with _|N
  ·omega
  ·conv=>whnf
   repeat' (first|refine v1 ?_ ?_|(intro _;first|omega|conv=>whnf))
   refine W.tells (Abs.tells (tl:=KR v s c.members (N+1) (N+1)) (os:=KS (.row 33 (c.c++[.bool bk,.int .u32 ev,.int .i64 lo,.bool sp,.int .i64 po,.int .i64 dn,.bool nl,.bool br,hv,.int .u32 ag,.int .u32 sq,.int .i64 tl,.int .i64 us,lv,fv,.int .i64 nx,.bool so])) (fun k=>Ay (T k)) V (N+1) (N+1)) (rs:=[0,1,2]) .a) hrest
theorem UV:∀ {bs:List Nat},(∀ b ∈ bs,b<256)→Cs (Ab bs)=some bs
 | [],_=>rfl
 | b::bs,h=>by
  show (Bool.rec none (Option.rec none (fun r=>some (b::r)) (Cs (Ab bs))) (Nat.blt b 256):Option (List Nat))=_
  rw [UV (fun x hx=>h x (by simp [hx])),show Nat.blt b 256=true by simpa using h b (by simp)]
variable {s:St}{k:AV→St→Prop}{r n:Nat}
theorem Zaz {c:Option Nat}{bs:List Nat}(hx:ev x t=.some (.sl r 0 n c)) (hl:load r 0 n s=some (Ab bs)) (hb:∀ b ∈ bs,b<256) (hk:k (.str bs) s):EPrim (.b2s x) t s k:=by
 refine EPrim.mk (v:=.str bs) (s':=s) (fun e rec=>?_) hk
 show wth x t _=_;unfold wth;rw [hx]
 show (Option.rec .fail (fun cs=>Option.rec .fail (fun l=>.ok (.str l) s) (Cs cs)) (load r 0 n s):RV)=_
 rw [hl]
 show (Option.rec .fail (fun l=>.ok (.str l) s) (Cs (Ab bs)):RV)=_
 rw [UV hb]
variable {B:List AV}{m:Int}
theorem Zdp {A:List AV}{s i:Int}{a b:Nat}(hl:hfs l=true) (hA:hfs A=true) (hB:hfs B=true) (hv:AM.hf v=true):Tells P 0 (A5 [(1,v),(2,.int .i64 s),(3,.ptr 0 0),(7,.int .i64 m),(8,.sl 2 0 b none),(9,.sl 1 0 a none),(10,.int .i64 i)]) (Al St0 [.row 33 l,.row 76 A,.row 76 B]) [] (A5 [(1,v),(2,.int .i64 s),(3,.ptr 0 0),(7,.int .i64 m),(8,.fz b none B),(9,.fz a none A)]) (Al St0 [.row 33 l]) []:=by
 refine Tells.trans (AbsK.frz (n:=2) (e:=76) (cs:=B) (tl:=[(1,v),(2,.int .i64 s),(3,.ptr 0 0),(7,.int .i64 m),(8,.sl 2 0 b none),(9,.sl 1 0 a none)]) (tl2:=[(1,v),(2,.int .i64 s),(3,.ptr 0 0),(7,.int .i64 m),(8,.fz b none B),(9,.sl 1 0 a none)]) (os:=[.row 33 l,.row 76 A]) (os2:=[.row 33 l,.row 76 A]) (rs:=[0,1,2]) .a rfl hB rfl rfl rfl rfl ?_ ?_) ?_
 ·show [(1,CI 2 _ v),_,_,_,_,_]=_
  rw [FF v hv];rfl
 ·show [EE 2 _ (.row 33 l),EE 2 _ (.row 76 A)]=_
  rw [HY hl,HY hA]
 ·refine AbsK.frz (n:=1) (e:=76) (cs:=A) (tl:=[(1,v),(2,.int .i64 s),(3,.ptr 0 0),(7,.int .i64 m),(8,.fz b none B),(9,.sl 1 0 a none)]) (os:=[.row 33 l]) (rs:=[0,1]) .a rfl hA rfl rfl rfl rfl ?_ ?_
  ·show [(1,CI 1 _ v),_,_,_,_,_]=_
   rw [FF v hv];rfl
  ·show [EE 1 _ (.row 33 l)]=_
   rw [HY hl]
def QO:AC:=match Om with
 | .seq _ r=>r
 | _=>.skip
def KT (v:AV) (s m:Int) (B:List AV) (L:List (List Nat)):List (Nat×AV):=[(1,v),(2,.int .i64 s),(3,.ptr 0 0),(7,.int .i64 m),(8,.fz B.length none B),(9,.fz L.length none (L.map Ay))]
variable {L:List (List Nat)}
theorem Za7 (hE:EM P e) (h79:Con e 79 allF3.O) {s:Int}(hl:hfs l=true) (hv:AM.hf v=true) (hL:Em L) (hn:0<L.length∧L.length≤1000) (f:Bi L≠FJ→∀ st,K (.bool false) st) (hrest:Bi L=FJ→W P 0 none QO (A5 (KT v s m B L)) (Al St0 [.row 33 l]) [] (BG [.tmp 6] K)):W P 0 none Om (A5 (KT v s m B L)) (Al St0 [.row 33 l]) [] (BG [.tmp 6] K):=by
 have hLs:=O3 hL hn
 have hc:∀ (Q:AV→St→Prop) st,Q (Ay (Bi L)) st→ESc e 79 [.fz L.length none (L.map Ay)] st Q:=fun Q st k=>Fn.u (F:=allF3) h79 (L,()) ⟨_,_,rfl,⟨_,rfl,hLs⟩,rfl⟩ hL k
 have hax:=Ki hL
 have hzb:∀ b ∈ FJ,b<256:=fun b hb=>by rw [(List.mem_replicate.1 hb).2];decide
 have hsl:Sl 1 128 (Ab (Bi L)) (Ay (Bi L)):=.inr (.inr ⟨_,rfl,by rw [show (Ab (Bi L)).length=(Bi L).length from Zqg ..];exact hax.1⟩)
 refine Br hE ?_;conv=>whnf
 refine Lt (n:=127) rfl rfl (by decide) ?_;conv=>whnf
 repeat' (first|(refine Nj rfl rfl (fun hne=>?_) (fun heq=>?_) <;> conv=>whnf)|((first|refine Zaz (bs:=FJ) rfl rfl hzb ?_|refine hc _ _ ?_|refine GI rfl hsl hax.2 ?_|refine ⟨rfl,?_⟩);conv=>whnf)|fail)
 ·exact ⟨.inr rfl,_,_,rfl,rfl,f hne _⟩
 ·exact W.tells (Abs.tells (tl:=KT v s m B L) (os:=[.row 33 l]) (rs:=[0]) .a) (hrest heq)
def LI:AC:=match QO with
 | .seq _ r=>r
 | _=>.skip
def QN:AC:=match LI with
 | .seq _ r=>r
 | _=>.skip
def EH (m:Int) (B:List AV) (L:List (List Nat)) (k:Bool):List (Nat×AV):=[(7,.int .i64 m),(8,.fz B.length none B),(9,.fz L.length none (L.map Ay)),(15,.ptr 1 0),(16,.bool k)]
def tdI (m:Int) (B:List AV) (L:List (List Nat)) (k:Bool) (i:Nat):List (Nat×AV):=[(7,.int .i64 m),(8,.fz B.length none B),(9,.fz L.length none (L.map Ay)),(15,.ptr 1 0),(16,.bool k),(17,.int .i64 (i:Int))]
theorem Za8 (hE:EM P e) {hc:List AV}(hl:hfs l=true) (hh:hfs hc=true) (t:∀ st,K (.bool true) st):W P 0 none LI (A5 (EH m B L false)) (Al St0 [.row 33 l,.row 55 hc]) [] (BG [.tmp 6] K):=by
 refine Br hE ?_;conv=>whnf
 refine Ax hE 0 (fun i=>tdI m B L false i) (fun i=>[.row 33 l,.row 55 hc]) (fun _=>True) trivial (Abs.tells (rs:=[0,1]) .a) ?_
 intro i hi _
 obtain rfl:i=0:=by omega
 conv=>whnf
 skip
 refine Hb hE ?_;conv=>whnf
 repeat' (first|(refine As ?_;conv=>whnf)|fail)
 exact t _
theorem Ls.by {b:List Nat}(h:Ls Ce.u8 b v):Sl 1 b.length (Ab b) v∧∀ x ∈ b,x<256:=by
 obtain ⟨ls,h1,h2,_⟩:=h
 have:=Ri h1
 rw [this.1] at h2
 exact ⟨h2,this.2⟩
def Jb (bl:List (List Nat)) (di:List Bool) (ph n:Nat) (L:List (List Nat)) (k:Nat):Prop:=(ph=4∨k+1<n∧di[k]?=some false)→(bl[k]?.getD []).length≠0→bl[k]?.getD []=L[k]?.getD []
variable {bl:List (List Nat)}{st sq:Int}{ph:Nat}{de:Bool}{bv dv:AV}
theorem ZB (hE:EM P e) {di:List Bool}(hl:hfs l=true) (hm:m=(n:Int)) (hn:3≤n∧n≤16) (hL:Em L) (hLn:L.length=n) (hbv:Ls bytC bl bv) (hdv:Ls Ce.bool di dv) (hbl:bl.length=n) (hdi:di.length+1=n) (f:∀ k<n,¬Jb bl di ph n L k→∀ st,K (.bool false) st) (hrest:(∀ k<n,Jb bl di ph n L k)→W P 0 none QN (A5 (EH m B L true)) (Al St0 [.row 33 l,.row 55 [.int .i64 st,bv,dv,.int .u8 (ph:Int),.bool de,.int .u32 sq]]) [] (BG [.tmp 6] K)):W P 0 none LI (A5 (EH m B L true)) (Al St0 [.row 33 l,.row 55 [.int .i64 st,bv,dv,.int .u8 (ph:Int),.bool de,.int .u32 sq]]) [] (BG [.tmp 6] K):=by
 have hbf:=hbv.hf
 have hdf:=hdv.hf
 have hh:hfs [.int .i64 st,bv,dv,.int .u8 (ph:Int),.bool de,.int .u32 sq]=true:=by
  show (true && (AM.hf bv && (AM.hf dv && (true && (true && (true && true))))))=true
  rw [hbf,hdf];rfl
 obtain ⟨bs,b1,b2,bn⟩:=hbv.nth
 obtain ⟨ds,d1,d2,dn⟩:=hdv.nth
 obtain ⟨xs,x1,x2,xn⟩:=(O3 hL (by omega)).nth
 refine Br hE ?_;conv=>whnf
 refine Ax hE n (fun i=>tdI m B L true i) (fun i=>[.row 33 l,.row 55 [.int .i64 st,bv,dv,.int .u8 (ph:Int),.bool de,.int .u32 sq]]) (fun i=>∀ k<i,Jb bl di ph n L k) (fun k h=>by omega) (Abs.tells (rs:=[0,1]) .a) ?_
 intro i hi hI
 by_cases hlt:i<n
 ·obtain ⟨b,_,br,hb,⟨bu,rfl,hbu⟩,hbd⟩:=bn i (by omega)
  obtain ⟨x,_,xr,hx,⟨xu,rfl,hxu⟩,hxd⟩:=xn i (by omega)
  obtain ⟨hbs,hb256⟩:=hbu.by
  obtain ⟨hxs,hx256⟩:=hxu.by
  have hbuf:=hbu.hf
  have hcl:Jb bl di ph n L i↔((ph=4∨i+1<n∧di[i]?=some false)→b.length≠0→b=x):=by
   unfold Jb;rw [hb,hx];rfl
  have hf:=fun h=>f i hlt (mt hcl.1 h)
  have hst:=fun h=>AR hI (hcl.2 h)
  have hmi:(i:Int)<m:=by omega
  by_cases hil:i+1<n
  ·obtain ⟨dd,_,dr,hd,rfl,hdd⟩:=dn i (by omega)
   rw [hd] at hf hst
   simp only [hil,true_and,Option.some.injEq] at hf hst
   have hil':(i:Int)<m-1:=by omega
   rcases dd with _|_
   all_goals
    conv=>whnf
    repeat' (first|(refine Nj rfl rfl (fun hne=>?_) (fun heq=>?_) <;> conv=>whnf)|((first|refine Am b1 (by omega) hbd ?_|refine Am d1 (by omega) hdd ?_|refine Am x1 (by omega) hxd ?_|refine Ap ?_|refine Ai hbs ?_|refine GI rfl hbs hb256 ?_|refine GI rfl hxs hx256 ?_|refine v7 ?_|refine v8 ?_|refine An ?_|refine As ?_|refine ⟨rfl,?_⟩);conv=>whnf)|refine v1 ?_ ?_|refine v3 ?_ ?_|refine v5 ?_ ?_|(intro _;first|omega|conv=>whnf))
    all_goals first
     | exact ⟨.inr rfl,_,_,rfl,rfl,hf (fun q=>hne (q (by first|exact .inl (by omega)|exact .inr rfl) (by omega))) _⟩
     | exact ⟨hlt,hst (fun h1 h2=>by first|assumption|(exfalso;rcases h1 with h1|h1 <;> first|omega|cases h1|exact hil h1.1)),Abs.tells (rs:=[0,1]) .a⟩
  ·have hil':¬(i:Int)<m-1:=by omega
   conv=>whnf
   repeat' (first|(refine Nj rfl rfl (fun hne=>?_) (fun heq=>?_) <;> conv=>whnf)|((first|refine Am b1 (by omega) hbd ?_|refine Am x1 (by omega) hxd ?_|refine Ap ?_|refine Ai hbs ?_|refine GI rfl hbs hb256 ?_|refine GI rfl hxs hx256 ?_|refine v7 ?_|refine v8 ?_|refine ⟨rfl,?_⟩);conv=>whnf)|refine v1 ?_ ?_|refine v3 ?_ ?_|refine v5 ?_ ?_|(intro _;first|omega|conv=>whnf))
   all_goals first
    | exact ⟨.inr rfl,_,_,rfl,rfl,hf (fun q=>hne (q (by first|exact .inl (by omega)|exact .inr rfl) (by omega))) _⟩
    | exact ⟨hlt,hst (fun h1 h2=>by first|assumption|(exfalso;rcases h1 with h1|h1 <;> first|omega|cases h1|exact hil h1.1)),Abs.tells (rs:=[0,1]) .a⟩
 ·obtain rfl:i=n:=by omega
  have hrest:=hrest hI
  conv=>whnf
  repeat' (first|refine v1 ?_ ?_|(intro _;first|omega|conv=>whnf))
  exact W.tells (Abs.tells (tl:=EH m B L true) (os:=[.row 33 l,.row 55 [.int .i64 st,bv,dv,.int .u8 (ph:Int),.bool de,.int .u32 sq]]) (rs:=[0,1]) .a) hrest
theorem Zdq (hE:EM P e) {A:List Nat}(hm:m=(n:Int)) (hn:3≤n∧n≤16) (hbv:Ls bytC bl bv) (hbl:bl.length=n) (hA:A.length=128∧∀ x ∈ A,x<256) (hav:∀ (Q:AV→St→Prop) st,Q (Ay A) st→ESc e 79 [.fz B.length none B] st Q) (t:ph=0∨bl[n-1]?.getD []=A→∀ st,K (.bool true) st) (f:¬(ph=0∨bl[n-1]?.getD []=A)→∀ st,K (.bool false) st):W P 0 none QN (A5 (EH m B L true)) (Al St0 [.row 33 l,.row 55 [.int .i64 st,bv,dv,.int .u8 (ph:Int),.bool de,.int .u32 sq]]) [] (BG [.tmp 6] K):=by
 obtain ⟨bs,b1,b2,bn⟩:=hbv.nth
 obtain ⟨b,_,br,hb,⟨bu,rfl,hbu⟩,hbd⟩:=bn (n-1) (by omega)
 obtain ⟨hbs,hb256⟩:=hbu.by
 have hsl:Sl 1 128 (Ab A) (Ay A):=.inr (.inr ⟨_,rfl,by rw [show (Ab A).length=A.length from Zqg ..];exact hA.1⟩)
 rw [hb] at t f
 dsimp only [Option.getD_some] at t f
 refine Hb hE ?_
 show VW P e 0 QN (A5 (EH m B L true)) (Al St0 [.row 33 l,.row 55 [.int .i64 st,bv,dv,.int .u8 (ph:Int),.bool de,.int .u32 sq]]) none [] _
 conv=>whnf
 repeat' (first|(refine Zh rfl rfl (fun heq=>?_) (fun hne=>?_) <;> conv=>whnf)|((first|refine BS rfl b1 rfl (show m-1=_ by omega) (by omega) hbd ?_|refine Ap ?_|refine hav _ _ ?_|refine GI rfl hbs hb256 ?_|refine GI rfl hsl hA.2 ?_|refine v8 ?_|refine An ?_|refine ⟨rfl,?_⟩);conv=>whnf)|refine v5 ?_ ?_|(intro _;first|omega|conv=>whnf))
 all_goals first
  | exact t (.inl (by omega)) _
  | exact t (.inr heq) _
  | exact f (fun q=>q.elim (fun h=>by omega) hne) _
theorem Zbc (hE:EM P e) (h80:Inl e 80 Mg [.cells 4 6,.tmp 5]) (h132:Con e 132 hplF.O) {s:Int}(hd:dvC.r d l) (hs:Aa s) (hv:AM.hf v=true) (hno:A9 d.2.2.2.1 s<0→∀ hc,hfs hc=true→W P 0 none LI (A5 (EH m B L false)) (Al St0 [.row 33 l,.row 55 hc]) [] (BG [.tmp 6] K)) (hyes:0≤A9 d.2.2.2.1 s→∀ h hc,d.2.2.2.1[(A9 d.2.2.2.1 s).toNat]?=some h→hdC.r h hc→W P 0 none LI (A5 (EH m B L true)) (Al St0 [.row 33 l,.row 55 hc]) [] (BG [.tmp 6] K)):W P 0 none QO (A5 (KT v s m B L)) (Al St0 [.row 33 l]) [] (BG [.tmp 6] K):=by
 have hl:=dvC.hf hd
 have hch:∀ hv,Ls hdC d.2.2.2.1 hv→∀ (Q:AV→St→Prop) st,Q (.int .i64 (A9 d.2.2.2.1 s)) st→ESc e 132 [hv,.int .i64 s] st Q:=fun hv hH Q st q=>Fn.u (F:=hplF) h132 (d.2.2.2.1,s,()) ⟨_,_,rfl,⟨_,rfl,hH⟩,_,_,rfl,⟨rfl,AW hs⟩,rfl⟩ trivial q
 have hlt:=GW d.2.2.2.1 s
 obtain ⟨c,bk,⟨ev,lo,sp,po,dn,nl,br⟩,hs',⟨ag,sq,tl,us',L'⟩,fs,nx,so⟩:=d
 obtain ⟨hv',lv,fv,rfl,ho,hH,hL,hF⟩:=Bl hd
 dsimp only at hch hlt hno hyes
 have hch:=hch hv' hH
 obtain ⟨cs,h3,hll,hn⟩:=hH.nth
 generalize A9 hs' s=j at *
 refine Br hE ?_
 by_cases hj:0≤j
 ·obtain ⟨⟨st,bl,di,ph,de,hq⟩,_,r,hx,hxr,hdr⟩:=hn j.toNat (by omega)
  have hyes:=hyes hj _ _ hx hxr
  have hcf:hfs _=true:=hdC.hf hxr
  obtain ⟨bv,dv,rfl,-,g2,g3,-⟩:=Cn hxr
  conv=>whnf
  repeat' (first|((first|refine ESc.inl h80 ?_|refine hch _ _ ?_|refine BS rfl h3 rfl (show j=_ by omega) (by omega) hdr ?_|refine A7 (cs:=[.int .i64 st,bv,dv,.int .u8 (ph:Int),.bool de,.int .u32 hq]) rfl ?_);conv=>whnf)|refine v1 ?_ ?_|(intro _;first|omega|conv=>whnf))
  first
   | exact W.tells (Abs.tells (tl:=EH m B L true) (os:=[.row 33 _,.row 55 [.int .i64 st,bv,dv,.int .u8 (ph:Int),.bool de,.int .u32 hq]]) (rs:=[0,1]) ⟨by decide,⟨r9,t9 (h:=rfl),t9 (h:=rfl),r9,r9,trivial⟩,⟨⟨Bd hl,by rw [AX hl];rfl⟩,⟨Bd hcf,by rw [AX hcf];rfl⟩,trivial⟩⟩) hyes
   | exact W.tells (Abs.tells (tl:=EH m B L true) (os:=[.row 33 _,.row 55 [.int .i64 st,bv,dv,.int .u8 (ph:Int),.bool de,.int .u32 hq]]) (rs:=[0,3]) ⟨by decide,⟨r9,t9 (h:=rfl),t9 (h:=rfl),r9,r9,trivial⟩,⟨⟨Bd hl,by rw [AX hl];rfl⟩,⟨Bd hcf,by rw [AX hcf];rfl⟩,trivial⟩⟩) hyes
   | exact W.tells (Abs.tells (tl:=EH m B L true) (os:=[.row 33 _,.row 55 [.int .i64 st,bv,dv,.int .u8 (ph:Int),.bool de,.int .u32 hq]]) (rs:=[0,2]) ⟨by decide,⟨r9,t9 (h:=rfl),t9 (h:=rfl),r9,r9,trivial⟩,⟨⟨Bd hl,by rw [AX hl];rfl⟩,⟨Bd hcf,by rw [AX hcf];rfl⟩,trivial⟩⟩) hyes
 ·have hno:=hno (by omega)
  conv=>whnf
  repeat' (first|((first|refine ESc.inl h80 ?_|refine hch _ _ ?_);conv=>whnf)|refine v1 ?_ ?_|(intro _;first|omega|conv=>whnf))
  first
   | exact W.tells (Abs.tells (tl:=EH m B L false) (os:=[.row 33 _,.row 55 [.int .i64 0,.nils,.nils,.int .u8 0,.bool false,.int .u32 0]]) (rs:=[0,1]) ⟨by decide,⟨r9,t9 (h:=rfl),t9 (h:=rfl),r9,r9,trivial⟩,⟨⟨Bd hl,by rw [AX hl];rfl⟩,⟨Bd rfl,by rw [AX rfl];rfl⟩,trivial⟩⟩) (hno _ rfl)
   | exact W.tells (Abs.tells (tl:=EH m B L false) (os:=[.row 33 _,.row 55 [.int .i64 0,.nils,.nils,.int .u8 0,.bool false,.int .u32 0]]) (rs:=[0,3]) ⟨by decide,⟨r9,t9 (h:=rfl),t9 (h:=rfl),r9,r9,trivial⟩,⟨⟨Bd hl,by rw [AX hl];rfl⟩,⟨Bd rfl,by rw [AX rfl];rfl⟩,trivial⟩⟩) (hno _ rfl)
   | exact W.tells (Abs.tells (tl:=EH m B L false) (os:=[.row 33 _,.row 55 [.int .i64 0,.nils,.nils,.int .u8 0,.bool false,.int .u32 0]]) (rs:=[0,2]) ⟨by decide,⟨r9,t9 (h:=rfl),t9 (h:=rfl),r9,r9,trivial⟩,⟨⟨Bd hl,by rw [AX hl];rfl⟩,⟨Bd rfl,by rw [AX rfl];rfl⟩,trivial⟩⟩) (hno _ rfl)
theorem LB (f:Nat→AV):∀ l:List Nat,(l.map fun k=>[f k]).flatten=l.map f
 | []=>rfl
 | x::l=>by rw [Zrp,List.flatten_cons,LB f l];rfl
theorem Zk1 {T:Nat→List Nat}{V:Nat→AV}{m:Nat}(h:∀ k<m,Ls Ce.u8 (T k) (V k)) (hm:0<m∧m≤1000):Ls bytC ((List.range m).map T) (.fz ((List.range m).map V).length none ((List.range m).map V)):=by
 refine ⟨(List.range m).map fun k=>[V k],?_,.inr (.inr ⟨none,by rw [LB];simp,by rw [LB,Zqg,List.length_range];rw [Zqg,List.length_range];exact (Zrc m).symm⟩),by simp;omega⟩
 refine Ey (by simp) fun i x l' h1 h2=>?_
 rw [Zq8] at h1 h2
 by_cases hi:i<m
 ·rw [List.getElem?_range hi] at h1 h2
  cases h1
  cases h2
  exact ⟨_,rfl,h i hi⟩
 ·rw [Zsa (by simp;omega)] at h1
  cases h1
noncomputable def tdyF:Fn (Dv×List Dk×Int×Unit):=bF (.g dvC (.v dkC.sl (.v i64C .nil))) (fun x=>He x.1.1 x.2.1 x.2.2.1∧Cc x.1.1 x.1.2.2.2.1) fun x=>K3 x.1 x.2.1 x.2.2.1
theorem WF {s:Int}(hD:Ls dkC D v) (hok:He d.1 D s) {k:Nat}(h:Cb d D s k≠none):(Eh d D s k).length=128∧∀ x ∈ Eh d D s k,x<256:=by
 obtain ⟨b,hb⟩:=Option.ne_none_iff_exists'.1 h
 unfold Eh;rw [hb]
 exact Wf hok hD hb
theorem Zki {s:Int}(hd:dvC.r d l) (hD:Ls dkC D v) (hok:He d.1 D s) (hsh:Cc d.1 d.2.2.2.1) {k:Nat}(hk:(k:Int)<d.1.members) (h:Cb d D s k≠none):(Ga d D s k).length=128∧∀ x ∈ Ga d D s k,x<256:=by
 unfold Ga BX
 split
 ·rename_i hi
  obtain ⟨hv,cs,x,bv,dv,r,xs,u,r',h1,h2,h3,h4,h5,h6,h7,h8⟩:=Q3 hd hsh (k:=(k:Int)) ⟨by omega,hk⟩ hi.1
  have hb:=hi.2
  refine ⟨?_,h8.by.2⟩
  show (D5 d s k).length=128
  have hz:BB (D5 d s k):=by
   have hlt:=GW d.2.2.2.1 s
   have hi0:=hi.1
   have hhd:=(hsh.1 (A9 d.2.2.2.1 s).toNat (by omega) x h1).1
   unfold D5
   rw [h1]
   show BB (x.2.1[k]?.getD [])
   obtain ⟨st,bl,di,ph,de,hq⟩:=x
   unfold DD at hhd
   cases hg:bl[k]? with
   | none=>exact .inl rfl
   | some b=>exact (hhd.2.2.2.2.1 k (Zqa.1 hg).1 b hg).1
  exact hz.resolve_left hb
 ·exact WF hD hok h
theorem Zgd (hE:EM P e) (h43:Con e 43 (Ag I5)) (h78:Con e 78 fetF.O) (h79:Con e 79 allF3.O) (h80:Inl e 80 Mg [.cells 4 6,.tmp 5]) (h132:Con e 132 hplF.O):OvOk P 33 tdyF.O:=by
 refine Zoc g33 ?_
 rintro ⟨d,D,s,_⟩ _ ⟨l,_,rfl,hd,v,_,rfl,⟨_,e0,hD⟩,_,_,rfl,⟨e1,z1⟩,rfl⟩ ⟨hok,hsh⟩ K t f
 cases e0
 cases e1
 dsimp only at hok hsh hD t f
 have hs:=CA z1
 have hM:=hok.1
 unfold Cfg.may at hM
 refine Zbb hE h78 h43 hd hD hs hok hsh f ?_
 intro V hV hF
 have hn:3≤d.1.members.toNat∧d.1.members.toNat≤16:=by omega
 have hm:d.1.members=(d.1.members.toNat:Int):=by omega
 have hl:=dvC.hf hd
 have hvf:=hD.hf
 have hTh:=fun k hk=>WF hD hok (hF k hk)
 have hVw:=fun k (hk:k<d.1.members.toNat)=>Zki hd hD hok hsh (show (k:Int)<d.1.members by omega) (hF k hk)
 have hBL:Em (Fa d D s d.1.members.toNat):=fun b hb=>by
  obtain ⟨k,hk,rfl⟩:=Zq9.1 hb
  exact hTh k (List.mem_range.1 hk)
 have hBV:Em (Hx d D s (d.1.members.toNat-1)):=fun b hb=>by
  obtain ⟨k,hk,rfl⟩:=Zq9.1 hb
  exact hVw k (by have:=List.mem_range.1 hk;omega)
 have hLl:(Fa d D s d.1.members.toNat).length=d.1.members.toNat:=by unfold Fa;simp
 have hVh:hfs ((List.range (d.1.members.toNat-1)).map V)=true:=GT fun k h=>(hV k h).hf
 have hAh:hfs ((List.range d.1.members.toNat).map fun k=>Ay (Eh d D s k))=true:=GT fun k _=>rfl
 have hAe:((List.range d.1.members.toNat).map fun k=>Ay (Eh d D s k))=(Fa d D s d.1.members.toNat).map Ay:=by unfold Fa;rw [List.map_map];rfl
 have hBn:((List.range (d.1.members.toNat-1)).map V).length=d.1.members.toNat-1:=by simp
 have hav:∀ (Q:AV→St→Prop) st,Q (Ay (Bi (Hx d D s (d.1.members.toNat-1)))) st→ESc e 79 [.fz ((List.range (d.1.members.toNat-1)).map V).length none ((List.range (d.1.members.toNat-1)).map V)] st Q:=fun Q st k=>Fn.u (F:=allF3) h79 (Hx d D s (d.1.members.toNat-1),()) ⟨_,_,rfl,⟨_,rfl,Zk1 (fun k hk=>hV k hk) (by omega)⟩,rfl⟩ hBV k
 have hlt:=GW d.2.2.2.1 s
 have hT:W P 0 none Om (A5 (KT v s d.1.members ((List.range (d.1.members.toNat-1)).map V) (Fa d D s d.1.members.toNat))) (Al St0 [.row 33 l]) [] (BG [.tmp 6] K):=by
  refine Za7 hE h79 hl hvf hBL (by omega) (fun h=>f fun q=>h q.2.1) fun hz=>?_
  refine Zbc hE h80 h132 hd hs hvf (fun hno hc hh=>Za8 hE hl hh (t ⟨hF,hz,fun h=>absurd (show 0≤A9 d.2.2.2.1 s from h) (Int.not_le.2 hno)⟩)) ?_
  rintro h0 ⟨st,bl,di,ph,de,sq⟩ hc hx hxr
  have h0':0≤A9 d.2.2.2.1 s:=h0
  have hhd:=(hsh.1 (A9 d.2.2.2.1 s).toNat (by omega) _ hx).1
  unfold DD at hhd
  obtain ⟨bv,dv,rfl,-,g2,g3,g4,-⟩:=Cn hxr
  have hb1:∀ k:Nat,D5 d s k=bl[k]?.getD []:=fun k=>by unfold D5;rw [hx];rfl
  have hcl:∀ k<d.1.members.toNat,(Jb bl di ph d.1.members.toNat (Fa d D s d.1.members.toNat) k↔((ph=4∨k+1<d.1.members.toNat∧di[k]?=some false)→(D5 d s k).length≠0→D5 d s k=Eh d D s k)):=fun k hk=>by
   unfold Jb
   rw [hb1]
   have:(Fa d D s d.1.members.toNat)[k]?.getD []=Eh d D s k:=by unfold Fa;rw [Zq8,List.getElem?_range hk];rfl
   rw [this]
  refine ZB hE hl hm hn hBL hLl g2 g3 (by omega) (by omega) (fun k hk hn'=>f fun q=>hn' ((hcl k hk).2 ((q.2.2 h0 _ hx).1 k hk))) fun hI=>?_
  have hpar:(ph=0∨bl[d.1.members.toNat-1]?.getD []=Bi (Hx d D s (d.1.members.toNat-1)))↔(ph≠0→D5 d s ((d.1.members.toNat-1:Nat):Int)=Bi (Hx d D s (d.1.members.toNat-1))):=by
   rw [hb1]
   constructor
   ·rintro (h|h) g
    ·exact absurd h g
    ·exact h
   ·intro h
    by_cases g:ph=0
    ·exact .inl g
    ·exact .inr (h g)
  refine Zdq hE hm hn g2 (by omega) (Ki hBV) hav (fun h=>t ⟨hF,hz,fun _ g hg=>?_⟩) fun h=>f fun q=>h (hpar.2 (q.2.2 h0 _ hx).2)
  rw [hx] at hg
  cases hg
  exact ⟨fun k hk=>(hcl k hk).1 (hI k hk),hpar.1 h⟩
 generalize hN:d.1.members.toNat=n at *
 obtain ⟨N,rfl⟩:∃ N,n=N+1:=⟨n-1,by omega⟩
 have hmin:min (N+1) (N+1-1)=N+1-1:=by omega
 unfold KR KS
 dsimp only
 rw [hmin]
 refine W.tells (Zdp hl hAh hVh hvf) ?_
 unfold KT at hT
 rw [hBn,hLl,← hAe] at hT
 exact hT
def Xk (d:Dv) (D:List Dk):Prop:=∀ i:Nat,(i:Int)<d.1.members→∀ x,D[i]?=some x→x.2.2=true→(i:Int)=d.2.2.1.2.1∧d.2.2.1.2.2.1=false
def Ed (d:Dv) (D:List Dk):Prop:=EA d∧CH d.1 D∧d.2.2.1.2.2.2.2.2.2=false∧Xk d D∧∀ s:Nat,(s:Int)<Ar d.1→K3 d D (s:Int)
noncomputable def TidF:Fn (Dv×List Dk×Unit):=bF (.g dvC (.v dkC.sl .nil)) (fun x=>∀ d ∈ x.2.1,Cq d) fun x=>Ed x.1 x.2.1
theorem Zke (hE:EM P e) (h30:Con e 30 mayF.O) (h31:Con e 31 m20F.O) (h32:Inl e 32 Kr [.tmp 2]) (h33:Con e 33 tdyF.O):OvOk P 8 TidF.O:=by
 refine Bo hE g8 ?_
 rintro ⟨d,D,_⟩ _ ⟨l,_,rfl,hd,v,_,rfl,⟨_,e0,hD⟩,rfl⟩ hG K t f
 cases e0
 dsimp only at hG hD t f
 have hvf:=hD.hf
 have hrow:=dvC.hf hd
 obtain ⟨cs,hs',hl',hn⟩:=hD.nth
 have hc1:=fun (Q:AV→St→Prop) s a b=>@bF.u _ _ _ _ e 30 s Q _ h30 (d,()) ⟨_,_,rfl,hd,rfl⟩ trivial a b
 have hc2:=fun (c:Cfg) (hc:c.ok) (hM:c.may) (Q:AV→St→Prop) s a b=>@bF.u _ _ _ _ e 31 s Q [.agg c.c,v] h31 (c,D,()) ⟨_,_,rfl,⟨rfl,hc⟩,_,_,rfl,⟨_,rfl,hD⟩,rfl⟩ ⟨hM,hG⟩ a b
 have hc3:=fun (i:Nat) (h0:Aa (i:Int)) (hok:He d.1 D (i:Int)∧Cc d.1 d.2.2.2.1) (Q:AV→St→Prop) s a b=>@bF.u _ _ _ _ e 33 s Q [.agg l,v,.int .i64 (i:Int)] h33 (d,D,(i:Int),()) ⟨_,_,rfl,hd,_,_,rfl,⟨_,rfl,hD⟩,_,_,rfl,⟨rfl,AW h0⟩,rfl⟩ hok a b
 unfold Ed at t f
 unfold Xk at t f
 have hmp:EA d→d.1.may∧Cc d.1 d.2.2.2.1:=fun h=>by
  obtain ⟨c,bk,⟨ev,lo,sp,po,dn,nl,br⟩,hs,⟨ag,sq,tl,us,L⟩,fs,nx,so⟩:=d
  unfold EA G0 at h
  exact ⟨h.1.1,h.1.2.2.1⟩
 generalize EA d=A1 at *
 generalize hT:K3 d D=T at *
 obtain ⟨c,bk,⟨ev,lo,sp,po,dn,nl,br⟩,hs,⟨ag,sq,tl,us,L⟩,fs,nx,so⟩:=d
 obtain ⟨hv,lv,fv,rfl,⟨ho,o1,o2,o3,o4,o5,o6,o7,o8,oN⟩,hH,hL,hF⟩:=Bl hd
 dsimp only at t f hc1 hc2 hc3 hmp
 have hc2:=hc2 c ho
 rw [hT] at hc3
 generalize hA2:CH c D=A2 at hc2 t f
 conv=>whnf
 repeat' (first|(refine hc1 _ _ (fun q1=>?_) (fun q1=>?_) <;> conv=>whnf)|(refine hc2 (hmp q1).1 _ _ (fun q2=>?_) (fun q2=>?_) <;> conv=>whnf)|((first|refine An ?_|refine As ?_);conv=>whnf)|(refine w19 rfl ?_ ?_ <;> intro hc <;> (try subst hc) <;> conv=>whnf)|fail)
 ·exact f (fun q=>nomatch q.2.2.1) _
 ·have hMS:=hmp q1
  have hM:=hMS.1
  have hM':=hM
  unfold Cfg.may at hM'
  have hms:=B4 hM
  have hm2:CH c D:=by rw [hA2];exact q2
  have hDl:=hm2.1
  have hsm:=DG (a:=c.chunk) (b:=c.rows) (by omega) (by omega)
  refine Ax hE c.members.toNat (fun i=>[(1,v),(2,.ptr 0 0),(5,.int .i64 (i:Int))]) (fun _=>[.row 33 (c.c++[.bool bk,.int .u32 ev,.int .i64 lo,.bool sp,.int .i64 po,.int .i64 dn,.bool nl,.bool false,hv,.int .u32 ag,.int .u32 sq,.int .i64 tl,.int .i64 us,lv,fv,.int .i64 nx,.bool so])]) (fun i=>∀ j<i,∀ x,D[j]?=some x→x.2.2=true→(j:Int)=lo∧sp=false) (fun k h=>by omega) (Abs.tells (rs:=[0]) .a) ?_
  intro i hi hI
  by_cases hlt:i<c.members.toNat
  ·obtain ⟨x,cl,r,hx,hxr,hd2⟩:=hn i (by omega)
   have hil:i<D.length:=by omega
   have hfx:(x.2.2=true→¬((i:Int)=lo∧sp=false))→x.2.2=true→∀ s,K (.bool false) s:=fun h h2=>f fun q=>h h2 (q.2.2.2.1 i (by omega) x hx h2)
   have htx:(x.2.2=true→(i:Int)=lo∧sp=false)→∀ j<i+1,∀ x,D[j]?=some x→x.2.2=true→(j:Int)=lo∧sp=false:=fun h=>AR hI fun y e=>by rw [hx] at e;cases e;exact h
   obtain ⟨bs,ws,dd⟩:=x
   obtain ⟨bv,wv,rfl,-,-⟩:=Hf hxr
   dsimp only at hfx htx
   clear f t hn hI
   cases dd
   ·conv=>whnf
    repeat' (first|((first|refine Am hs' hil hd2 ?_|refine Ap ?_|refine v7 ?_|refine ⟨rfl,?_⟩);conv=>whnf)|refine v1 ?_ ?_|(intro _;first|omega|conv=>whnf))
    all_goals exact ⟨hlt,htx (fun h=>nomatch h),Abs.tells (rs:=[0]) .a⟩
   ·cases sp
    ·by_cases hil':(i:Int)=lo
     ·conv=>whnf
      repeat' (first|((first|refine Am hs' hil hd2 ?_|refine Ap ?_|refine v7 ?_|refine ⟨rfl,?_⟩);conv=>whnf)|refine v1 ?_ ?_|refine v6 ?_ ?_|(intro _;first|omega|conv=>whnf))
      all_goals exact ⟨hlt,htx (fun _=>⟨hil',rfl⟩),Abs.tells (rs:=[0]) .a⟩
     ·conv=>whnf
      repeat' (first|((first|refine Am hs' hil hd2 ?_|refine Ap ?_);conv=>whnf)|refine v1 ?_ ?_|refine v6 ?_ ?_|(intro _;first|omega|conv=>whnf))
      all_goals exact hfx (fun _ q=>hil' q.1) rfl _
    ·conv=>whnf
     repeat' (first|((first|refine Am hs' hil hd2 ?_|refine Ap ?_);conv=>whnf)|refine v1 ?_ ?_|refine v6 ?_ ?_|(intro _;first|omega|conv=>whnf))
     all_goals exact hfx (fun _ q=>nomatch q.2) rfl _
  ·have hI:∀ j:Nat,(j:Int)<c.members→∀ x,D[j]?=some x→x.2.2=true→(j:Int)=lo∧sp=false:=fun j hj=>hI j (by omega)
   conv=>whnf
   repeat' (first|refine v1 ?_ ?_|(intro _;first|omega|conv=>whnf))
   have hMS2:=hMS.2
   unfold Ar at hms t f
   refine Ax hE (c.chunk*c.rows).toNat (fun i=>[(1,v),(2,.ptr 0 0),(6,.int .i64 (i:Int))]) (fun _=>[.row 33 (c.c++[.bool bk,.int .u32 ev,.int .i64 lo,.bool sp,.int .i64 po,.int .i64 dn,.bool nl,.bool false,hv,.int .u32 ag,.int .u32 sq,.int .i64 tl,.int .i64 us,lv,fv,.int .i64 nx,.bool so])]) (fun i=>∀ j<i,T (j:Nat)) (fun k h=>by omega) (Abs.tells (rs:=[0]) .a) ?_
   intro i hi hJ
   by_cases hlt2:i<(c.chunk*c.rows).toNat
   ·have hc3:=hc3 i (by unfold Aa;omega) ⟨⟨hM,hm2,hG,by omega,by unfold Ar;omega⟩,hMS2⟩
    conv=>whnf
    repeat' (first|(refine hc3 _ _ (fun q3=>?_) (fun q3=>?_) <;> conv=>whnf)|((first|refine ESc.inl h32 ?_|refine Cl rfl rfl hsm ?_|refine v7 ?_|refine An ?_|refine As ?_|refine ⟨rfl,?_⟩);conv=>whnf)|refine v1 ?_ ?_|(intro _;first|omega|conv=>whnf))
    ·exact ⟨hlt2,AR hJ q3,Abs.tells (rs:=[0]) .a⟩
    ·exact f (fun q=>q3 (q.2.2.2.2 i (by omega))) _
   ·conv=>whnf
    repeat' (first|((first|refine ESc.inl h32 ?_|refine Cl rfl rfl hsm ?_);conv=>whnf)|refine v1 ?_ ?_|(intro _;first|omega|conv=>whnf))
    exact t ⟨q1,q2,rfl,hI,fun s hs=>hJ s (by omega)⟩ _
 ·exact f (fun q=>q2 q.2.1) _
 ·exact f (fun q=>q1 q.1) _
noncomputable def pE (p:Prop):AV:=.int .i64 (open Classical in if p then 0 else 8)
theorem pE0 {p:Prop}(h:p):Frz s (.int .i64 0) (pE p):=by classical unfold pE;rw [Zqd h];exact .plain _ rfl
theorem pE8 {p:Prop}(h:¬p):Frz s (.int .i64 8) (pE p):=by classical unfold pE;rw [Zqh h];exact .plain _ rfl
noncomputable def cF {γ:Type}(S:Sg γ) (ok p:γ→Prop):Fn γ:=⟨S,ok,fun x=>pE (p x)⟩
theorem Jo {γ:Type}{S:Sg γ}{ok p:γ→Prop}{f:Nat}(hE:EM P e) (g:GK f fn (.mk code res)) (h:∀ x args,S.r x args→ok x→∀ K:AV→St→Prop,(p x→∀ s,K (.int .i64 0) s)→(¬p x→∀ s,K (.int .i64 8) s)→VW P e 0 code (Ah args 0 .lf) St0 none [] (BW res K)):OvOk P f (cF S ok p).O:=
 Bs g.b fun x args h1 h2=>⟨rfl,C.of_G hE g (h x args h1 h2 _ (fun q _=>pE0 q) fun q _=>pE8 q)⟩
theorem cF.u {γ:Type}{S:Sg γ}{ok p:γ→Prop}{e:Env}{f:Nat}{s:St}{k:AV→St→Prop}{args:List AV}(hi:Con e f (cF S ok p).O) (x:γ) (h1:S.r x args) (h2:ok x) (ht:p x→k (.int .i64 0) s) (hf:¬p x→k (.int .i64 8) s):ESc e f args s k:=by
 classical
 refine Fn.u hi x h1 h2 ?_
 show k (pE (p x)) s
 unfold pE
 by_cases h:p x
 ·rw [Zqd h];exact ht h
 ·rw [Zqh h];exact hf h
def Sg.p {α γ:Type}(A:Ce α) (S:Sg γ):Sg (α×γ):=⟨fun x l=>∃ c b,l=.fp c::b∧A.r x.1 c∧S.r x.2 b,by
 rintro _ _ ⟨v,b,rfl,h,h'⟩
 show (true && hfs b)=true
 rw [S.hf h'];rfl,by
 rintro ⟨x,x'⟩ ⟨y,y'⟩ _ ⟨a,b,rfl,h1,h2⟩ ⟨c,d,e,h3,h4⟩
 cases e
 have e1:=A.inj h1 h3
 have e2:=S.inj h2 h4
 dsimp only at e1 e2
 rw [e1,e2]⟩
def Sg.f {κ γ:Type}(g:Nat) (C:Sg κ) (S:Sg γ):Sg (κ×γ):=⟨fun x l=>∃ q b,l=.fn g [] q::b∧C.r x.1 q∧S.r x.2 b,by
 rintro _ _ ⟨v,b,rfl,h,h'⟩
 show ((true && hfs v) && hfs b)=true
 rw [S.hf h',C.hf h];rfl,by
 rintro ⟨x,x'⟩ ⟨y,y'⟩ _ ⟨a,b,rfl,h1,h2⟩ ⟨c,d,e,h3,h4⟩
 cases e
 have e1:=C.inj h1 h3
 have e2:=S.inj h2 h4
 dsimp only at e1 e2
 rw [e1,e2]⟩
open Classical in
noncomputable def C3 {α:Type}(p:α→Prop) (l:List α):Int:=match l.findIdx? (fun x=>decide (p x)) with|some i=>i|none=>-1
theorem Kc {α:Type}{p:α→Prop}:∀ {l:List α}{i:Nat}{x:α},l[i]?=some x→p x→(∀ j<i,∀ y,l[j]?=some y→¬p y)→C3 p l=i:=by
 classical
 intro l i x hx hp hn
 have:l.findIdx? (fun x=>decide (p x))=some i:=by
  rw [List.findIdx?_eq_some_iff_getElem]
  obtain ⟨h,e⟩:=Zqa.1 hx
  refine ⟨h,by rw [e];exact Zqe hp,fun j hj=>?_⟩
  have:=hn j hj _ (Zp9 (Nat.lt_trans hj h))
  simpa using this
 unfold C3;rw [this]
theorem Kb {α:Type}{p:α→Prop}{l:List α}(hn:∀ j<l.length,∀ y,l[j]?=some y→¬p y):C3 p l=-1:=by
 classical
 have:l.findIdx? (fun x=>decide (p x))=none:=by
  rw [List.findIdx?_eq_none_iff]
  intro x hx
  have:=WQ (p:=fun x=>¬p x) hn x hx
  simpa using this
 unfold C3;rw [this]
theorem Zhq {α:Type}(p:α→Prop) (l:List α):-1≤C3 p l∧C3 p l<l.length:=by
 classical
 unfold C3
 split
 ·rename_i i h
  have:=(List.findIdx?_eq_some_iff_getElem.1 h).1
  omega
 ·omega
theorem idxI_iff {α:Type}{p:α→Prop}{l:List α}:0≤C3 p l↔∃ x ∈ l,p x:=by
 classical
 unfold C3
 split
 ·rename_i i h
  obtain ⟨h1,h2,-⟩:=List.findIdx?_eq_some_iff_getElem.1 h
  exact ⟨fun _=>⟨_,Zra h1,Zrq h2⟩,fun _=>by omega⟩
 ·rename_i h
  rw [List.findIdx?_eq_none_iff] at h
  refine ⟨fun h=>by omega,fun ⟨x,hx,hp⟩=>?_⟩
  have:=h x hx
  simp [hp] at this
noncomputable def C8 {α κ:Type}(A:Ce α) (g:Nat) (C:Sg κ) (ok:κ→List α→Prop) (p:κ→α→Prop):Fn (List α×κ×Unit):=⟨.v A.sl (.f g C .nil),fun x=>ok x.2.1 x.1,fun x=>.int .i64 (C3 (p x.2.1) x.1)⟩
def EU {α κ:Type}(e:Env) (A:Ce α) (arg:List AV→AV) (g:Nat) (C:Sg κ) (ok:κ→List α→Prop) (p:κ→α→Prop):Prop:=∀ c q xs x l,C.r c q→ok c xs→x ∈ xs→A.r x l→∀ (Q:AV→St→Prop),(p c x→∀ s,Q (.bool true) s)→(¬p c x→∀ s,Q (.bool false) s)→ECall e g (arg l::q) (Al St0 []) Q
def CapR (s:St) (p q:AV):Prop:=∃ r e cs,p=.ptr r 0∧q=.fp cs∧s.get r=some (.row e cs)∧hfs cs=true
theorem CapR.frz {p q:AV}(h:CapR s p q):Frz s p q:=by
 obtain ⟨r,e,cs,rfl,rfl,h1,h2⟩:=h
 refine .ptr r 0 e cs cs cs h1 (fun i x h=>by rw [Zqo];exact h) (Cz h2)
theorem CapR.inj {s:St}:∀ {ps qs qs':List AV},All2 (CapR s) ps qs→All2 (CapR s) ps qs'→qs=qs'
 | _,_,_,.nil,.nil=>rfl
 | _,_,_,.cons h a,.cons h' b=>by
  obtain ⟨r,e,cs,rfl,rfl,h1,-⟩:=h
  obtain ⟨r',e',cs',e0,rfl,h2,-⟩:=h'
  injection e0 with e0
  subst e0
  rw [h1] at h2
  injection h2 with h2
  injection h2 with _ h2
  rw [h2,CapR.inj a b]
def BO (R:List AV→AV→Prop) (args:List AV) (s:St) (u:AV) (s':St):Prop:=s'=s∧∃ v g ps qs,args=[v,.fn g [] ps]∧All2 (CapR s) ps qs∧AM.hf v=true∧sc u=true∧R [v,.fn g [] qs] u
theorem Mj {f:Nat}{R:List AV→AV→Prop}(hb:FG P f) (h:∀ args u,R args u→hfs args=true∧C P f args St0 (fun v s'=>Frz s' v u)):OvOk P f (relS (BO R)):=by
 refine QQ hb ?_
 rintro args s u s' ⟨rfl,v,g,ps,qs,rfl,hc,hv,hs,hR⟩
 obtain ⟨h1,h2⟩:=h _ _ hR
 exact Kz (args2:=[v,.fn g [] qs]) (.cons (.plain _ hv) (.cons (.fn g [] ps [] qs .nil (hc.imp fun _ _=>CapR.frz)) .nil)) hs (IS h1 h2)
theorem Ie {γ:Type}{F:Fn γ}{e:Env}{f:Nat}{s:St}{k:AV→St→Prop}(hi:Con e f (AM.relS (BO F.R))) {v:AV}{g:Nat}{ps qs:List AV}(x:γ) (hx:F.S.r x [v,.fn g [] qs]) (ho:F.ok x) (hc:All2 (CapR s) ps qs) (hs:sc (F.out x)=true) (hk:k (F.out x) s):ESc e f [v,.fn g [] ps] s k:=by
 have hv:AM.hf v=true:=by
  have:=F.S.hf hx
  simp [hfs] at this
  exact this.1
 refine ESc.relS hi ⟨rfl,v,g,ps,qs,rfl,hc,hv,hs,x,hx,ho,rfl⟩ ?_
 rintro u s' ⟨rfl,v',g',ps',qs',e1,hc',-,-,y,hy,-,rfl⟩
 injection e1 with e1 e2
 injection e2 with e2
 injection e2 with e2 _ e3
 subst e1 e2 e3
 rw [CapR.inj hc' hc] at hy
 rw [F.S.inj hy hx];exact hk
variable {i:Nat}
theorem Ls.take {α:Type}{A:Ce α}{xs:List α}{c:Option Nat}(h:Ls A xs (.fz xs.length c l)) (hi:i≤xs.length) (c':Option Nat):Ls A (xs.take i) (.fz i c' (l.take (i*A.k))):=by
 obtain ⟨ls,a,s,hn⟩:=h
 have e:ls.flatten=l:=by
  rcases s with ⟨h,_⟩|⟨h,_⟩|⟨c,h,_⟩
  ·cases h
  ·cases h
  ·cases h;rfl
 have ht:=a.take i
 have hf:=Gn ht
 rw [Zqz,Nat.min_eq_left hi] at hf
 have e2:(ls.take i).flatten=l.take (i*A.k):=by
  rw [← e]
  conv=>rhs;rw [← List.take_append_drop i ls,List.flatten_append]
  rw [← hf,List.take_left]
 refine ⟨ls.take i,ht,?_,by rw [Zqz];omega⟩
 rw [Zqz,Nat.min_eq_left hi,e2]
 exact .inr (.inr ⟨c',rfl,by rw [← e2];exact hf⟩)
theorem E6 {α:Type}{A:Ce α}(h:v=.nils∨v=.es):Ls A [] v:=⟨[],.nil,h.elim (fun h=>.inl ⟨h,rfl,rfl⟩) fun h=>.inr (.inl ⟨h,rfl,rfl⟩),by simp⟩
variable {es:Nat}
theorem Nu {α:Type}{A:Ce α}{y:AO}{xs:List α}{q:IntKind}(hx:ev x t=.some v) (hL:Ls A xs v) (he:es=A.k) (hy:ev y t=.some (.int q (i:Int))) (hi:i≤xs.length) (hk:∀ u,Ls A (xs.take i) u→k u s):EPrim (.slc es x none (some y) none) t s k:=by
 subst he
 have hh:∀ d,C0 t (some y) d=.n i:=fun d=>by
  show Hm (ev y t)=_
  rw [hy];rfl
 obtain ⟨ls,a,sl,hn⟩:=id hL
 rcases sl with ⟨rfl,h0,_⟩|⟨rfl,h0,_⟩|⟨c,rfl,hl⟩
 ·obtain rfl:i=0:=by omega
  refine EPrim.mk (v:=.nils) (s':=s) (fun e rec=>?_) (hk _ (E6 (.inl rfl)))
  show wth x t _=_;unfold wth;rw [hx]
  show (NR.rec .fail (fun h=>NR.rec .fail (fun m=>gd (Nat.beq (0+h+m) 0) (.ok .nils s)) (NR.n 0)) (C0 t (some y) 0):RV)=_
  rw [hh];rfl
 ·obtain rfl:i=0:=by omega
  refine EPrim.mk (v:=.es) (s':=s) (fun e rec=>?_) (hk _ (E6 (.inr rfl)))
  show wth x t _=_;unfold wth;rw [hx]
  show (NR.rec .fail (fun h=>NR.rec .fail (fun m=>gd (Nat.beq (0+h+m) 0) (.ok .es s)) (NR.n 0)) (C0 t (some y) 0):RV)=_
  rw [hh];rfl
 ·by_cases h0:0<xs.length
  ·refine EPrim.mk (v:=.fz i (Option.rec none (fun c=>some (c-0)) c) (ls.flatten.take (i*A.k))) (s':=s) (fun e rec=>?_) (hk _ (hL.take hi _))
   show wth x t _=_;unfold wth;rw [hx]
   show (NR.rec .fail (fun h=>M4 A.k xs.length c ls.flatten 0 h s) (C0 t (some y) xs.length):RV)=_
   rw [hh]
   show gd (Nat.ble 0 i && Nat.ble i xs.length) (Bool.rec (.ok .es s) (Option.rec .fail (fun cs'=>.ok (.fz (i-0) (Option.rec none (fun c=>some (c-0)) c) cs') s) (Bg (Nat.mul (i-0) A.k) (Dr (Nat.mul 0 A.k) ls.flatten))) (Nat.blt 0 xs.length))=_
   rw [Zq0 (Zqs i),Zq0 hi,show Nat.blt 0 xs.length=true by simpa using h0,show Nat.mul 0 A.k=0 from Nat.zero_mul _]
   show (Option.rec .fail (fun cs'=>.ok (.fz i (Option.rec none (fun c=>some (c-0)) c) cs') s) (Bg (i*A.k) ls.flatten):RV)=_
   rw [Fg (by rw [hl];exact Nat.mul_le_mul_right _ hi)]
  ·obtain rfl:i=0:=by omega
   have hx0:xs.length=0:=by omega
   refine EPrim.mk (v:=.es) (s':=s) (fun e rec=>?_) (hk _ (E6 (.inr rfl)))
   show wth x t _=_;unfold wth;rw [hx]
   show (NR.rec .fail (fun h=>M4 A.k xs.length c ls.flatten 0 h s) (C0 t (some y) xs.length):RV)=_
   rw [hh,hx0];rfl
theorem Qu {a b:List AV}(h:a.length=n):Bg n (a++b)=some a:=by
 rw [Fg (by rw [Zqn];omega),← h,List.take_left]
variable {g:Nat}
theorem QC {κ:Type}(hE:EM P e) {H:Sg κ}{ok:κ→List (Hd)→Prop}{p:κ→(Hd)→Prop}(hc:EU e (hdC) (AV.agg) g H ok p):OvOk P 110 (relS (BO (C8 (hdC) g H ok p).R)):=by
 refine Mj g110.b ?_
 rintro args u ⟨⟨xs,c,_⟩,⟨v,_,rfl,⟨_,e0,hL⟩,q,_,rfl,hC,rfl⟩,hok,rfl⟩
 cases e0
 dsimp only at hL
 have hvf:=hL.hf
 have hqf:AM.hf (.fn g [] q)=true:=by
  show (true && hfs q)=true
  rw [H.hf hC];rfl
 obtain ⟨cs,hs,hl,hn⟩:=hL.nth
 refine ⟨by show (AM.hf v && (AM.hf (.fn g [] q) && true))=true;rw [hvf,hqf];rfl,C.of_G hE g110 ?_⟩
 have fin:∀ st a,C3 (p c) xs=a→Frz st (.int .i64 a) ((C8 (hdC) g H ok p).out (xs,c,())):=by
  rintro st a rfl;exact .plain _ rfl
 dsimp only at hC hok
 generalize (C8 (hdC) g H ok p).out (xs,c,())=O at fin ⊢
 conv=>whnf
 refine Ai hs ?_;conv=>whnf
 refine Ax hE xs.length (fun i=>[(0,v),(1,.fn g [] q),(7,.int .i64 (xs.length:Int)),(8,.int .i64 (i:Int))]) (fun _=>[]) (fun i=>∀ j<i,∀ y,xs[j]?=some y→¬p c y) (fun k h=>by omega) (Abs.tells (rs:=[]) ⟨by decide,⟨t9,t9 hqf,r9,r9,trivial⟩,trivial⟩) ?_
 intro i hi hI
 by_cases hlt:i<xs.length
 ·obtain ⟨x,l,r,hx,hxr,hd⟩:=hn i hlt
  have hcall:=hc c q xs x l hC hok (Zqv hx) hxr
  have hyes:=fun h=>Kc hx h hI
  have hno:=fun h=>AR hI (fun y e=>(by rw [hx] at e;cases e;exact h:¬p c y))
  have hlen:l.length=6:=(hdC).len hxr
  skip
  conv=>whnf
  repeat' (first|(refine hcall _ (fun h st=>?_) (fun h st=>?_) <;> conv=>whnf)|((first|refine Am hs hlt hd ?_|refine A7 (Qu hlen) ?_|refine v7 ?_|refine ⟨rfl,?_⟩);conv=>whnf)|refine v1 ?_ ?_|(intro _;first|omega|conv=>whnf))
  ·exact fin _ _ (hyes h)
  ·exact ⟨hlt,hno h,Abs.tells (rs:=[]) ⟨by decide,⟨t9,t9 hqf,r9,r9,trivial⟩,trivial⟩⟩
 ·conv=>whnf
  repeat' (first|refine v1 ?_ ?_|(intro _;first|omega|conv=>whnf))
  exact fin _ _ (Kb fun j hj=>hI j (by omega))
theorem Vw {κ:Type}(hE:EM P e) {H:Sg κ}{ok:κ→List (Fl)→Prop}{p:κ→(Fl)→Prop}(hc:EU e (ftC) (AV.agg) g H ok p):OvOk P 154 (relS (BO (C8 (ftC) g H ok p).R)):=by
 refine Mj g154.b ?_
 rintro args u ⟨⟨xs,c,_⟩,⟨v,_,rfl,⟨_,e0,hL⟩,q,_,rfl,hC,rfl⟩,hok,rfl⟩
 cases e0
 dsimp only at hL
 have hvf:=hL.hf
 have hqf:AM.hf (.fn g [] q)=true:=by
  show (true && hfs q)=true
  rw [H.hf hC];rfl
 obtain ⟨cs,hs,hl,hn⟩:=hL.nth
 refine ⟨by show (AM.hf v && (AM.hf (.fn g [] q) && true))=true;rw [hvf,hqf];rfl,C.of_G hE g154 ?_⟩
 have fin:∀ st a,C3 (p c) xs=a→Frz st (.int .i64 a) ((C8 (ftC) g H ok p).out (xs,c,())):=by
  rintro st a rfl;exact .plain _ rfl
 dsimp only at hC hok
 generalize (C8 (ftC) g H ok p).out (xs,c,())=O at fin ⊢
 conv=>whnf
 refine Ai hs ?_;conv=>whnf
 refine Ax hE xs.length (fun i=>[(0,v),(1,.fn g [] q),(7,.int .i64 (xs.length:Int)),(8,.int .i64 (i:Int))]) (fun _=>[]) (fun i=>∀ j<i,∀ y,xs[j]?=some y→¬p c y) (fun k h=>by omega) (Abs.tells (rs:=[]) ⟨by decide,⟨t9,t9 hqf,r9,r9,trivial⟩,trivial⟩) ?_
 intro i hi hI
 by_cases hlt:i<xs.length
 ·obtain ⟨x,l,r,hx,hxr,hd⟩:=hn i hlt
  have hcall:=hc c q xs x l hC hok (Zqv hx) hxr
  have hyes:=fun h=>Kc hx h hI
  have hno:=fun h=>AR hI (fun y e=>(by rw [hx] at e;cases e;exact h:¬p c y))
  have hlen:l.length=8:=(ftC).len hxr
  skip
  conv=>whnf
  repeat' (first|(refine hcall _ (fun h st=>?_) (fun h st=>?_) <;> conv=>whnf)|((first|refine Am hs hlt hd ?_|refine A7 (Qu hlen) ?_|refine v7 ?_|refine ⟨rfl,?_⟩);conv=>whnf)|refine v1 ?_ ?_|(intro _;first|omega|conv=>whnf))
  ·exact fin _ _ (hyes h)
  ·exact ⟨hlt,hno h,Abs.tells (rs:=[]) ⟨by decide,⟨t9,t9 hqf,r9,r9,trivial⟩,trivial⟩⟩
 ·conv=>whnf
  repeat' (first|refine v1 ?_ ?_|(intro _;first|omega|conv=>whnf))
  exact fin _ _ (Kb fun j hj=>hI j (by omega))
theorem Zen {κ:Type}(hE:EM P e) {H:Sg κ}{ok:κ→List (Nat)→Prop}{p:κ→(Nat)→Prop}(hc:EU e (Ce.u8) (one) g H ok p):OvOk P 191 (relS (BO (C8 (Ce.u8) g H ok p).R)):=by
 refine Mj g191.b ?_
 rintro args u ⟨⟨xs,c,_⟩,⟨v,_,rfl,⟨_,e0,hL⟩,q,_,rfl,hC,rfl⟩,hok,rfl⟩
 cases e0
 dsimp only at hL
 have hvf:=hL.hf
 have hqf:AM.hf (.fn g [] q)=true:=by
  show (true && hfs q)=true
  rw [H.hf hC];rfl
 obtain ⟨cs,hs,hl,hn⟩:=hL.nth
 refine ⟨by show (AM.hf v && (AM.hf (.fn g [] q) && true))=true;rw [hvf,hqf];rfl,C.of_G hE g191 ?_⟩
 have fin:∀ st a,C3 (p c) xs=a→Frz st (.int .i64 a) ((C8 (Ce.u8) g H ok p).out (xs,c,())):=by
  rintro st a rfl;exact .plain _ rfl
 dsimp only at hC hok
 generalize (C8 (Ce.u8) g H ok p).out (xs,c,())=O at fin ⊢
 conv=>whnf
 refine Ai hs ?_;conv=>whnf
 refine Ax hE xs.length (fun i=>[(0,v),(1,.fn g [] q),(7,.int .i64 (xs.length:Int)),(8,.int .i64 (i:Int))]) (fun _=>[]) (fun i=>∀ j<i,∀ y,xs[j]?=some y→¬p c y) (fun k h=>by omega) (Abs.tells (rs:=[]) ⟨by decide,⟨t9,t9 hqf,r9,r9,trivial⟩,trivial⟩) ?_
 intro i hi hI
 by_cases hlt:i<xs.length
 ·obtain ⟨x,l,r,hx,hxr,hd⟩:=hn i hlt
  have hcall:=hc c q xs x l hC hok (Zqv hx) hxr
  have hyes:=fun h=>Kc hx h hI
  have hno:=fun h=>AR hI (fun y e=>(by rw [hx] at e;cases e;exact h:¬p c y))
  have hlen:l.length=1:=(Ce.u8).len hxr
  (obtain ⟨rfl,hx8⟩:=hxr)
  conv=>whnf
  repeat' (first|(refine hcall _ (fun h st=>?_) (fun h st=>?_) <;> conv=>whnf)|((first|refine Am hs hlt hd ?_|refine Ap ?_|refine v7 ?_|refine ⟨rfl,?_⟩);conv=>whnf)|refine v1 ?_ ?_|(intro _;first|omega|conv=>whnf))
  ·exact fin _ _ (hyes h)
  ·exact ⟨hlt,hno h,Abs.tells (rs:=[]) ⟨by decide,⟨t9,t9 hqf,r9,r9,trivial⟩,trivial⟩⟩
 ·conv=>whnf
  repeat' (first|refine v1 ?_ ?_|(intro _;first|omega|conv=>whnf))
  exact fin _ _ (Kb fun j hj=>hI j (by omega))
theorem Zep {κ:Type}(hE:EM P e) {H:Sg κ}{ok:κ→List (List Nat)→Prop}{p:κ→(List Nat)→Prop}(hc:EU e (bytC) (one) g H ok p):OvOk P 142 (relS (BO (C8 (bytC) g H ok p).R)):=by
 refine Mj g142.b ?_
 rintro args u ⟨⟨xs,c,_⟩,⟨v,_,rfl,⟨_,e0,hL⟩,q,_,rfl,hC,rfl⟩,hok,rfl⟩
 cases e0
 dsimp only at hL
 have hvf:=hL.hf
 have hqf:AM.hf (.fn g [] q)=true:=by
  show (true && hfs q)=true
  rw [H.hf hC];rfl
 obtain ⟨cs,hs,hl,hn⟩:=hL.nth
 refine ⟨by show (AM.hf v && (AM.hf (.fn g [] q) && true))=true;rw [hvf,hqf];rfl,C.of_G hE g142 ?_⟩
 have fin:∀ st a,C3 (p c) xs=a→Frz st (.int .i64 a) ((C8 (bytC) g H ok p).out (xs,c,())):=by
  rintro st a rfl;exact .plain _ rfl
 dsimp only at hC hok
 generalize (C8 (bytC) g H ok p).out (xs,c,())=O at fin ⊢
 conv=>whnf
 refine Ai hs ?_;conv=>whnf
 refine Ax hE xs.length (fun i=>[(0,v),(1,.fn g [] q),(7,.int .i64 (xs.length:Int)),(8,.int .i64 (i:Int))]) (fun _=>[]) (fun i=>∀ j<i,∀ y,xs[j]?=some y→¬p c y) (fun k h=>by omega) (Abs.tells (rs:=[]) ⟨by decide,⟨t9,t9 hqf,r9,r9,trivial⟩,trivial⟩) ?_
 intro i hi hI
 by_cases hlt:i<xs.length
 ·obtain ⟨x,l,r,hx,hxr,hd⟩:=hn i hlt
  have hcall:=hc c q xs x l hC hok (Zqv hx) hxr
  have hyes:=fun h=>Kc hx h hI
  have hno:=fun h=>AR hI (fun y e=>(by rw [hx] at e;cases e;exact h:¬p c y))
  have hlen:l.length=1:=(bytC).len hxr
  (obtain ⟨u,rfl,hu⟩:=hxr)
  conv=>whnf
  repeat' (first|(refine hcall _ (fun h st=>?_) (fun h st=>?_) <;> conv=>whnf)|((first|refine Am hs hlt hd ?_|refine Ap ?_|refine v7 ?_|refine ⟨rfl,?_⟩);conv=>whnf)|refine v1 ?_ ?_|(intro _;first|omega|conv=>whnf))
  ·exact fin _ _ (hyes h)
  ·exact ⟨hlt,hno h,Abs.tells (rs:=[]) ⟨by decide,⟨t9,t9 hqf,r9,r9,trivial⟩,trivial⟩⟩
 ·conv=>whnf
  repeat' (first|refine v1 ?_ ?_|(intro _;first|omega|conv=>whnf))
  exact fin _ _ (Kb fun j hj=>hI j (by omega))
theorem Zeo {κ:Type}(hE:EM P e) {H:Sg κ}{ok:κ→List (Dk)→Prop}{p:κ→(Dk)→Prop}(hc:EU e (dkC) (AV.agg) g H ok p):OvOk P 182 (relS (BO (C8 (dkC) g H ok p).R)):=by
 refine Mj g182.b ?_
 rintro args u ⟨⟨xs,c,_⟩,⟨v,_,rfl,⟨_,e0,hL⟩,q,_,rfl,hC,rfl⟩,hok,rfl⟩
 cases e0
 dsimp only at hL
 have hvf:=hL.hf
 have hqf:AM.hf (.fn g [] q)=true:=by
  show (true && hfs q)=true
  rw [H.hf hC];rfl
 obtain ⟨cs,hs,hl,hn⟩:=hL.nth
 refine ⟨by show (AM.hf v && (AM.hf (.fn g [] q) && true))=true;rw [hvf,hqf];rfl,C.of_G hE g182 ?_⟩
 have fin:∀ st a,C3 (p c) xs=a→Frz st (.int .i64 a) ((C8 (dkC) g H ok p).out (xs,c,())):=by
  rintro st a rfl;exact .plain _ rfl
 dsimp only at hC hok
 generalize (C8 (dkC) g H ok p).out (xs,c,())=O at fin ⊢
 conv=>whnf
 refine Ai hs ?_;conv=>whnf
 refine Ax hE xs.length (fun i=>[(0,v),(1,.fn g [] q),(7,.int .i64 (xs.length:Int)),(8,.int .i64 (i:Int))]) (fun _=>[]) (fun i=>∀ j<i,∀ y,xs[j]?=some y→¬p c y) (fun k h=>by omega) (Abs.tells (rs:=[]) ⟨by decide,⟨t9,t9 hqf,r9,r9,trivial⟩,trivial⟩) ?_
 intro i hi hI
 by_cases hlt:i<xs.length
 ·obtain ⟨x,l,r,hx,hxr,hd⟩:=hn i hlt
  have hcall:=hc c q xs x l hC hok (Zqv hx) hxr
  have hyes:=fun h=>Kc hx h hI
  have hno:=fun h=>AR hI (fun y e=>(by rw [hx] at e;cases e;exact h:¬p c y))
  have hlen:l.length=3:=(dkC).len hxr
  skip
  conv=>whnf
  repeat' (first|(refine hcall _ (fun h st=>?_) (fun h st=>?_) <;> conv=>whnf)|((first|refine Am hs hlt hd ?_|refine A7 (Qu hlen) ?_|refine v7 ?_|refine ⟨rfl,?_⟩);conv=>whnf)|refine v1 ?_ ?_|(intro _;first|omega|conv=>whnf))
  ·exact fin _ _ (hyes h)
  ·exact ⟨hlt,hno h,Abs.tells (rs:=[]) ⟨by decide,⟨t9,t9 hqf,r9,r9,trivial⟩,trivial⟩⟩
 ·conv=>whnf
  repeat' (first|refine v1 ?_ ?_|(intro _;first|omega|conv=>whnf))
  exact fin _ _ (Kb fun j hj=>hI j (by omega))
def Yz:AC:=match MY with|.mk c _=>c
variable {ps:List AV}
theorem Zpo (h:Inl e 91 Yz [.tmp 4]) {α:Type}{p:α→Prop}{xs:List α}(hc:∀ Q:AV→St→Prop,Q (.int .i64 (C3 p xs)) s→ESc e 142 [v,.fn g [] ps] s Q) (y:(∃ x ∈ xs,p x)→k (.bool true) s) (n:(¬∃ x ∈ xs,p x)→k (.bool false) s):ESc e 91 [v,.fn g [] ps] s k:=by
 refine ESc.inl h ?_;conv=>whnf
 refine hc _ ?_;conv=>whnf
 refine DF rfl rfl (fun h=>?_) (fun h=>?_) <;> conv=>whnf
 ·exact y (idxI_iff.1 h)
 ·exact n (fun q=>by have:=idxI_iff.2 q;omega)
def XF:AC:=match PB with|.mk c _=>c
theorem Zn4 (h:Inl e 151 XF [.tmp 4]) {α:Type}{p:α→Prop}{xs:List α}(hc:∀ Q:AV→St→Prop,Q (.int .i64 (C3 p xs)) s→ESc e 191 [v,.fn g [] ps] s Q) (y:(∃ x ∈ xs,p x)→k (.bool true) s) (n:(¬∃ x ∈ xs,p x)→k (.bool false) s):ESc e 151 [v,.fn g [] ps] s k:=by
 refine ESc.inl h ?_;conv=>whnf
 refine hc _ ?_;conv=>whnf
 refine DF rfl rfl (fun h=>?_) (fun h=>?_) <;> conv=>whnf
 ·exact y (idxI_iff.1 h)
 ·exact n (fun q=>by have:=idxI_iff.2 q;omega)
def So:AC:=match PT with|.mk c _=>c
theorem Xg (h:Inl e 107 So [.tmp 4]) {α:Type}{p:α→Prop}{xs:List α}(hc:∀ Q:AV→St→Prop,Q (.int .i64 (C3 p xs)) s→ESc e 154 [v,.fn g [] ps] s Q) (y:(∃ x ∈ xs,p x)→k (.bool true) s) (n:(¬∃ x ∈ xs,p x)→k (.bool false) s):ESc e 107 [v,.fn g [] ps] s k:=by
 refine ESc.inl h ?_;conv=>whnf
 refine hc _ ?_;conv=>whnf
 refine DF rfl rfl (fun h=>?_) (fun h=>?_) <;> conv=>whnf
 ·exact y (idxI_iff.1 h)
 ·exact n (fun q=>by have:=idxI_iff.2 q;omega)
def SF:AC:=match a55 with|.mk c _=>c
theorem XE (h:Inl e 55 SF [.tmp 4]) {α:Type}{p:α→Prop}{xs:List α}(hc:∀ Q:AV→St→Prop,Q (.int .i64 (C3 p xs)) s→ESc e 110 [v,.fn g [] ps] s Q) (y:(∃ x ∈ xs,p x)→k (.bool true) s) (n:(¬∃ x ∈ xs,p x)→k (.bool false) s):ESc e 55 [v,.fn g [] ps] s k:=by
 refine ESc.inl h ?_;conv=>whnf
 refine hc _ ?_;conv=>whnf
 refine DF rfl rfl (fun h=>?_) (fun h=>?_) <;> conv=>whnf
 ·exact y (idxI_iff.1 h)
 ·exact n (fun q=>by have:=idxI_iff.2 q;omega)
def XG:AC:=match PG with|.mk c _=>c
theorem Zn5 (h:Inl e 139 XG [.tmp 4]) {α:Type}{p:α→Prop}{xs:List α}(hc:∀ Q:AV→St→Prop,Q (.int .i64 (C3 p xs)) s→ESc e 182 [v,.fn g [] ps] s Q) (y:(∃ x ∈ xs,p x)→k (.bool true) s) (n:(¬∃ x ∈ xs,p x)→k (.bool false) s):ESc e 139 [v,.fn g [] ps] s k:=by
 refine ESc.inl h ?_;conv=>whnf
 refine hc _ ?_;conv=>whnf
 refine DF rfl rfl (fun h=>?_) (fun h=>?_) <;> conv=>whnf
 ·exact y (idxI_iff.1 h)
 ·exact n (fun q=>by have:=idxI_iff.2 q;omega)
variable {c:Cfg}
theorem Hc (h:Con e 40 stripesF.O) (hc:c.ok) (hM:c.may) (Q:AV→St→Prop) (s:St) (k:Q (.tup [.int .i64 (c.chunk*c.rows),.int .i64 0]) s):ESc e 40 [.agg c.c] s Q:=
 ESc.fam (e:=e) (k:=Q) (s:=s) stripesF h c hc (by unfold stripesF;dsimp only;rw [Zqd hM,Zqd hM]) k
theorem Xo (h:Con e 40 stripesF.O) (hc:c.ok) (hM:¬c.may) (Q:AV→St→Prop) (s:St) (k:Q (.tup [.int .i64 0,.int .i64 8]) s):ESc e 40 [.agg c.c] s Q:=
 ESc.fam (e:=e) (k:=Q) (s:=s) stripesF h c hc (by unfold stripesF;dsimp only;rw [Zqh hM,Zqh hM]) k
theorem Sp (h:Con e 103 cfgF.O) (hc:c.ok) (hM:c.may) (Q:AV→St→Prop) (s:St) (k:Q (.int .i64 0) s):ESc e 103 [.agg c.c] s Q:=
 ESc.fam (e:=e) (k:=Q) (s:=s) cfgF h c hc (by unfold cfgF;dsimp only;rw [Zqd hM]) k
theorem Sq (h:Con e 103 cfgF.O) (hc:c.ok) (hM:¬c.may) (Q:AV→St→Prop) (s:St) (k:Q (.int .i64 8) s):ESc e 103 [.agg c.c] s Q:=
 ESc.fam (e:=e) (k:=Q) (s:=s) cfgF h c hc (by unfold cfgF;dsimp only;rw [Zqh hM]) k
noncomputable def lossF:Fn (Cfg×Lo×Unit):=cF (.g cfgC (.g loC .nil)) (fun _=>True) fun x=>x.1.may∧Bq x.1 x.2.1
theorem Zeg (hE:EM P e) (h40:Con e 40 stripesF.O):OvOk P 39 lossF.O:=by
 refine Jo hE g39 ?_
 rintro ⟨c,⟨ev,lo,sp,po,dn,nl,br⟩,_⟩ _ ⟨_,_,rfl,⟨rfl,hc⟩,_,_,rfl,ho,rfl⟩-K t f
 obtain ⟨rfl,h1,h2,h3,h4⟩:=Gu ho
 dsimp only at t f hc
 by_cases hM:c.may
 ·have hs:=Hc h40 hc hM
  replace t:=fun q=>t ⟨hM,q⟩
  replace f:=fun (q:¬Bq c (ev,lo,sp,po,dn,nl,br))=>f fun q'=>q q'.2
  have hmm:=B4 hM
  unfold Bq Ar at t f
  unfold Ar at hmm
  unfold Aa Be at *
  dsimp only at t f
  change VW P e 0 _ (Ah [.agg c.c,_] 0 .lf) St0 none [] _
  cases sp
  all_goals
   conv=>whnf
   repeat' (first|((first|refine hs _ _ ?_|refine An ?_|refine As ?_);conv=>whnf)|refine v1 ?_ ?_|refine v3 ?_ ?_|refine v4 ?_ ?_|refine v5 ?_ ?_|refine v6 ?_ ?_|(intro _;first|omega|conv=>whnf))
   all_goals first
    | exact f (by simp;omega) _
    | exact t (by simp;omega) _
 ·have hs:=Xo h40 hc hM
  conv=>whnf
  repeat' (first|(refine hs _ _ ?_;conv=>whnf)|refine v6 ?_ ?_|(intro _;first|omega|conv=>whnf))
  exact f (fun q=>hM q.1) _
open Classical in
noncomputable def misF:Fn (Cfg×Lo×Int×Unit):=⟨.g cfgC (.g loC (.v i64C .nil)),fun x=>x.1.ok,fun x=>if x.1.may∧Bq x.1 x.2.1 then (if 0≤x.2.2.1∧x.2.2.1<Ar x.1 then .tup [.int .i64 (D6 x.2.1 x.2.2.1),.int .i64 0] else .tup [.int .i64 0,.int .i64 2]) else .tup [.int .i64 0,.int .i64 8]⟩
theorem Zhe (hE:EM P e) (h39:Con e 39 lossF.O) (h40:Con e 40 stripesF.O):OvOk P 12 misF.O:=by
 refine Bs g12.b ?_
 rintro ⟨c,⟨ev,lo,sp,po,dn,nl,br⟩,s,_⟩ _ ⟨_,_,rfl,⟨rfl,hc⟩,ol,_,rfl,ho,_,_,rfl,⟨e1,z1⟩,rfl⟩ -
 cases e1
 have hlc:=fun (Q:AV→St→Prop) s a b=>@cF.u _ _ _ _ e 39 s Q _ h39 (c,(ev,lo,sp,po,dn,nl,br),()) ⟨_,_,rfl,⟨rfl,hc⟩,_,_,rfl,ho,rfl⟩ trivial a b
 obtain ⟨rfl,h1,h2,h3,h4⟩:=Gu ho
 have hs64:=CA z1
 have hh:AM.hf (misF.out (c,(ev,lo,sp,po,dn,nl,br),s,()))=true:=by
  unfold misF;dsimp only;split
  ·split <;> rfl
  ·rfl
 refine ⟨hh,C.of_G hE g12 ?_⟩
 have fin:∀ st v,v=misF.out (c,(ev,lo,sp,po,dn,nl,br),s,())→Frz st v (misF.out (c,(ev,lo,sp,po,dn,nl,br),s,())):=by
  rintro st v rfl;exact .plain _ hh
 clear hh
 generalize hO:misF.out (c,(ev,lo,sp,po,dn,nl,br),s,())=O at fin ⊢
 unfold misF D6 at hO
 dsimp only at hO hlc hc
 change VW P e 0 _ (Ah [.agg c.c,_,.int .i64 s] 0 .lf) St0 none [] _
 by_cases hA:c.may∧Bq c (ev,lo,sp,po,dn,nl,br)
 ·rw [Zqd hA] at hO
  replace hlc:∀ (Q:AV→St→Prop) st,Q (.int .i64 0) st→ESc e 39 _ st Q:=fun Q st q=>hlc Q st (fun _=>q) fun n=>absurd hA n
  have hs:=Hc h40 hc hA.1
  unfold Ar at hO
  by_cases hB:0≤s∧s<c.chunk*c.rows
  ·rw [Zqd hB] at hO
   cases sp
   ·rw [Zqh (fun h=>Bool.false_ne_true h.1)] at hO
    conv=>whnf
    repeat' (first|((first|refine hlc _ _ ?_|refine hs _ _ ?_);conv=>whnf)|refine v1 ?_ ?_|refine v4 ?_ ?_|refine v6 ?_ ?_|(intro _;first|omega|conv=>whnf))
    exact fin _ _ hO
   ·by_cases hp:s<po
    ·rw [Zqd ⟨rfl,hp⟩] at hO
     conv=>whnf
     repeat' (first|((first|refine hlc _ _ ?_|refine hs _ _ ?_);conv=>whnf)|refine v1 ?_ ?_|refine v4 ?_ ?_|refine v6 ?_ ?_|(intro _;first|omega|conv=>whnf))
     exact fin _ _ hO
    ·rw [Zqh (fun h=>hp h.2)] at hO
     conv=>whnf
     repeat' (first|((first|refine hlc _ _ ?_|refine hs _ _ ?_);conv=>whnf)|refine v1 ?_ ?_|refine v4 ?_ ?_|refine v6 ?_ ?_|(intro _;first|omega|conv=>whnf))
     exact fin _ _ hO
  ·rw [Zqh hB] at hO
   conv=>whnf
   repeat' (first|((first|refine hlc _ _ ?_|refine hs _ _ ?_);conv=>whnf)|refine v1 ?_ ?_|refine v4 ?_ ?_|refine v6 ?_ ?_|(intro _;first|omega|conv=>whnf))
   all_goals exact fin _ _ hO
 ·rw [Zqh hA] at hO
  replace hlc:∀ (Q:AV→St→Prop) st,Q (.int .i64 8) st→ESc e 39 _ st Q:=fun Q st q=>hlc Q st (fun n=>absurd n hA) fun _=>q
  conv=>whnf
  repeat' (first|(refine hlc _ _ ?_;conv=>whnf)|refine v6 ?_ ?_|(intro _;first|omega|conv=>whnf))
  all_goals exact fin _ _ hO
def Zjd:AC:=match P3 with|.mk c _=>c
theorem Zjv (h184:Inl e 184 Zjd [.tmp 2]):EU e bytC one 184 .nil (fun _ _=>True) (fun (_:Unit) b=>¬BB b):=by
 rintro c q xs b l rfl _ _ ⟨u,rfl,hu⟩ Q y n
 obtain ⟨us,hus,hl,-⟩:=hu.nth
 unfold BB at y n
 refine ECall.inl h184.O h184.G ?_;conv=>whnf
 repeat' (first|(refine Ai hus ?_;conv=>whnf)|refine v6 ?_ ?_|(intro _;first|omega|conv=>whnf))
 all_goals first
  | exact y (by omega) _
  | exact n (by omega) _
noncomputable def ix184:Fn (List (List Nat)×Unit×Unit):=C8 bytC 184 .nil (fun _ _=>True) fun _ b=>¬BB b
noncomputable def hdcF:Fn (Cfg×Hd×Unit):=cF (.g cfgC (.g hdC .nil)) (fun _=>True) fun x=>x.1.may∧DD x.1 x.2.1
set_option maxHeartbeats 2000000 in
theorem Zhx (hE:EM P e) (h40:Con e 40 stripesF.O) (h91:Inl e 91 Yz [.tmp 4]) (h142:Con e 142 (relS (BO ix184.R))):OvOk P 148 hdcF.O:=by
 refine Jo hE g148 ?_
 rintro ⟨c,⟨st,bl,di,ph,de,sq⟩,_⟩ _ ⟨_,_,rfl,⟨rfl,hc⟩,_,_,rfl,hh,rfl⟩-K t f
 obtain ⟨bv,dv,rfl,h1,h2,h3,h4,h5⟩:=Cn hh
 obtain ⟨bs,hs,hl,hn⟩:=h2.nth
 obtain ⟨ds,hs',hl',hn'⟩:=h3.nth
 have hrow:=hdC.hf hh
 dsimp only at t f hc
 have hidx:=fun (Q:AV→St→Prop) s k=>@Ie _ ix184 e 142 s Q h142 bv 184 [] [] (bl,(),()) ⟨_,_,rfl,⟨_,rfl,h2⟩,_,_,rfl,rfl,rfl⟩ trivial .nil rfl k
 have hcn:=fun (Q:AV→St→Prop) s y n=>Zpo (k:=Q) (s:=s) h91 (p:=fun b=>¬BB b) (xs:=bl) (fun Q k=>hidx Q s k) y n
 change VW P e 0 _ (Ah [.agg c.c,_] 0 .lf) St0 none [] _
 by_cases hM:c.may
 ·have hst:=Hc h40 hc hM
  replace t:=fun q=>t ⟨hM,q⟩
  replace f:=fun (q:¬DD c (st,bl,di,ph,de,sq))=>f fun q'=>q q'.2
  have hmm:=B4 hM
  unfold DD Ar at t f
  unfold Ar at hmm
  unfold Cfg.may at hM
  unfold Aa Be at *
  dsimp only at t f
  conv=>whnf
  repeat' (first|(refine hcn _ _ (fun qs=>?_) (fun qs=>?_) <;> conv=>whnf)|((first|refine hst _ _ ?_|refine Ai hs ?_|refine AA rfl hs' ?_|refine v8 ?_);conv=>whnf)|refine v1 ?_ ?_|refine v3 ?_ ?_|refine v4 ?_ ?_|refine v6 ?_ ?_|(intro _;first|omega|conv=>whnf))
  all_goals try exact f (fun q=>by omega) _
  ·exact f (fun q=>by obtain ⟨b,hb,hn⟩:=qs;obtain ⟨k,hk⟩:=Zr0 hb;exact hn (q.2.2.2.2.1 k (Zqa.1 hk).1 b hk).1) _
  have hsz:∀ k b,bl[k]?=some b→BB b:=fun k b hk=>Classical.byContradiction fun h=>qs ⟨b,Zqv hk,h⟩
  have hM0:=c.members
  refine Ax hE di.length (fun i=>[(2,.ptr 0 0),(3,.ptr 1 0),(7,.bool ((di.take i).any id)),(58,dv),(59,.int .i64 (di.length:Int)),(60,.int .i64 (i:Int))]) (fun _=>[.row 24 c.c,.row 55 [.int .i64 st,bv,dv,.int .u8 (ph:Int),.bool de,.int .u32 sq]]) (fun i=>∀ k<i,di[k]?=some true→(bl[k]?.getD []).length≠0) (fun k h=>by omega) (Abs.tells (rs:=[0,1]) ⟨by decide,⟨r9,r9,r9,t9 h3.hf,r9,r9,trivial⟩,⟨r9,o9 hrow,trivial⟩⟩) ?_
  intro i hi hI
  have hdf:=h3.hf
  by_cases hlt:i<di.length
  ·obtain ⟨b,_,l,hb,⟨u,rfl,hu⟩,hd⟩:=hn i (by omega)
   obtain ⟨us,hus,hul,-⟩:=hu.nth
   obtain ⟨g,_,l',hg,rfl,hd'⟩:=hn' i hlt
   have hta:(di.take (i+1)).any id=((di.take i).any id || g):=by
    rw [List.take_add_one,hg,List.any_append];simp
   have hff:g=true→b.length=0→∀ s,K (.int .i64 8) s:=fun h1 h2=>f fun q=>(q.2.2.2.2.1 i (by omega) b hb).2 (by rw [hg,h1]) h2
   have htt:(g=true→b.length≠0)→∀ k<i+1,di[k]?=some true→(bl[k]?.getD []).length≠0:=fun h=>AR hI fun e=>by rw [hg] at e;rw [hb];exact h (Zrh e)
   have hil:i<bl.length:=by omega
   clear f t
   generalize (di.take i).any id=D at *
   rw [hta]
   cases g <;> cases D
   all_goals
    conv=>whnf
    repeat' (first|((first|refine Am hs hil hd ?_|refine Am hs' hlt hd' ?_|refine Ap ?_|refine Ai hus ?_|refine v7 ?_|refine ⟨rfl,?_⟩);conv=>whnf)|refine v1 ?_ ?_|refine v5 ?_ ?_|(intro _;first|omega|conv=>whnf))
    all_goals first
     | exact hff rfl (by omega) _
     | exact ⟨hlt,htt (fun h=>by first|exact absurd h Bool.false_ne_true|omega),Abs.tells (rs:=[0,1]) ⟨by decide,⟨r9,r9,r9,t9 h3.hf,r9,r9,trivial⟩,⟨r9,o9 hrow,trivial⟩⟩⟩
  ·obtain rfl:i=di.length:=by omega
   obtain ⟨b,_,l,hb,⟨u,rfl,hu⟩,hd⟩:=hn di.length (by omega)
   obtain ⟨us,hus,hul,-⟩:=hu.nth
   have hIb:∀ k<bl.length,∀ b,bl[k]?=some b→BB b∧(di[k]?=some true→b.length≠0):=fun k hk b hb=>⟨hsz k b hb,fun e=>by
    have:=hI k (Zqa.1 e).1 e
    rw [hb] at this;exact this⟩
   rw [List.take_length]
   have hany:(di.any id=true)=(true ∈ di):=by simp
   have hany':di.any id=false→¬(true ∈ di):=fun h q=>by rw [← hany,h] at q;cases q
   rw [← hany] at t f
   rw [hb] at t f
   dsimp only [Option.getD_some] at t f
   have hm1:c.members-1=(di.length:Int):=by omega
   have hil:di.length<bl.length:=by omega
   have hpl:(bl.length:Int)=c.members:=by omega
   have hs0:0≤st∧st<c.chunk*c.rows:=by omega
   have hph:ph≤4:=by omega
   have hdl:(di.length:Int)=c.members-1:=by omega
   replace t:=fun q=>t ⟨hs0,hpl,hdl,hph,hIb,q⟩
   replace f:=fun (q:¬((ph=0→b.length=0∧sq=0)∧(0<ph→b.length≠0∧di.any id=true)∧(ph=1→sq=0)∧(de=true→di.any id=true∧ph≤1)))=>f fun q'=>q q'.2.2.2.2.2
   generalize di.any id=D at *
   clear hI hIb hsz hany hany'
   cases D <;> cases de
   all_goals
    conv=>whnf
    repeat' (first|((first|refine BS rfl hs rfl hm1 hil hd ?_|refine Ap ?_|refine Ai hus ?_|refine v8 ?_|refine An ?_|refine As ?_|refine Cp ?_);conv=>whnf)|refine v1 ?_ ?_|refine v2 ?_ ?_|refine v3 ?_ ?_|refine v5 ?_ ?_|refine v6 ?_ ?_|(intro _;first|omega|conv=>whnf))
    all_goals first
     | exact t ⟨fun h=>by omega,fun h=>⟨by omega,by first|rfl|(exfalso;omega)⟩,fun h=>by omega,fun h=>by first|exact ⟨rfl,by omega⟩|cases h⟩ _
     | exact f (fun q=>by
      have q1:=q.1
      have q2:=q.2.1
      have q3:=q.2.2.1
      have q4:=q.2.2.2
      first
       | omega
       | exact Bool.false_ne_true (q2 (by omega)).2
       | exact Bool.false_ne_true (q4 rfl).1
       | (have:=(q4 rfl).2;omega)) _
     | fail
 ·have hst:=Xo h40 hc hM
  conv=>whnf
  repeat' (first|(refine hst _ _ ?_;conv=>whnf)|refine v6 ?_ ?_|(intro _;first|omega|conv=>whnf))
  exact f (fun q=>hM q.1) _
def Zje:AC:=match P4 with|.mk c _=>c
theorem RH (hs:List Hd) (s:Int):C3 (fun h:Hd=>h.1=s) hs=A9 hs s:=by
 by_cases h:∃ (i:Nat) (x:Hd),hs[i]?=some x∧x.1=s∧∀ j<i,∀ g:Hd,hs[j]?=some g→g.1≠s
 ·obtain ⟨i,x,h1,h2,h3⟩:=h
  rw [Q5 h1 h2 h3,Kc h1 h2 h3]
 ·have hn:∀ n:Nat,∀ j<n,∀ g:Hd,hs[j]?=some g→g.1≠s:=by
   intro n
   induction n with
   | zero=>intro j h;omega
   | succ n ih=>exact AR ih fun g hg he=>h ⟨n,g,hg,he,ih⟩
  rw [Q6 fun j _=>hn (j+1) j (by omega),Kb fun j _=>hn (j+1) j (by omega)]
theorem Zjw (h183:Inl e 183 Zje [.tmp 3]):EU e hdC AV.agg 183 (.p i64C .nil) (fun _ _=>True) (fun (c:Int×Unit) h=>h.1=c.1):=by
 rintro ⟨s,_⟩ q xs ⟨st,bl,di,ph,de,sq⟩ l ⟨_,_,rfl,⟨rfl,-⟩,rfl⟩ _ _ hx Q y n
 obtain ⟨bv,dv,rfl,-⟩:=Cn hx
 dsimp only at y n
 refine ECall.inl h183.O h183.G ?_;conv=>whnf
 repeat' (first|(refine Ap ?_;conv=>whnf)|refine v5 ?_ ?_|(intro _;first|omega|conv=>whnf))
 all_goals first
  | exact y (by assumption) _
  | exact n (by assumption) _
noncomputable def ix183:Fn (List Hd×(Int×Unit)×Unit):=C8 hdC 183 (.p i64C .nil) (fun _ _=>True) fun c h=>h.1=c.1
noncomputable def plaF:Fn (List Hd×Int×Unit):=⟨.v hdC.sl (.v i64C .nil),fun _=>True,fun x=>.int .i64 (A9 x.1 x.2.1)⟩
theorem Zg2 (hE:EM P e) (h110:Con e 110 (relS (BO ix183.R))):OvOk P 144 plaF.O:=by
 refine Bs g144.b ?_
 rintro ⟨hs,s,_⟩ _ ⟨v,_,rfl,⟨_,e0,hL⟩,_,_,rfl,⟨e1,z1⟩,rfl⟩ -
 cases e0
 cases e1
 have hidx:=fun (Q:AV→St→Prop) st k r hr=>@Ie _ ix183 e 110 st Q h110 v 183 [.ptr r 0] [.fp [.int .i64 s]] (hs,(s,()),()) ⟨_,_,rfl,⟨_,rfl,hL⟩,_,_,rfl,⟨_,_,rfl,⟨rfl,z1⟩,rfl⟩,rfl⟩ trivial (.cons ⟨r,3,_,rfl,rfl,hr,rfl⟩ .nil) rfl k
 have hout:∀ st,Frz st (ix183.out (hs,(s,()),())) (plaF.out (hs,s,())):=fun st=>by
  show Frz st (.int .i64 (C3 (fun h:Hd=>h.1=s) hs)) (.int .i64 (A9 hs s))
  rw [RH];exact .plain _ rfl
 refine ⟨rfl,C.of_G hE g144 ?_⟩
 change VW P e 0 _ (Ah [v,.int .i64 s] 0 .lf) St0 none [] _
 conv=>whnf
 repeat' (first|(refine hidx _ _ ?_ _ rfl;conv=>whnf)|fail)
 exact hout _
noncomputable def shcF:Fn (Cfg×List Hd×Unit):=cF (.g cfgC (.v hdC.sl .nil)) (fun _=>True) fun x=>x.1.may∧Cc x.1 x.2.1
theorem Zgq (hE:EM P e) (h103:Con e 103 cfgF.O) (h144:Con e 144 plaF.O) (h148:Con e 148 hdcF.O):OvOk P 104 shcF.O:=by
 refine Jo hE g104 ?_
 rintro ⟨c,hs,_⟩ _ ⟨_,_,rfl,⟨rfl,hc⟩,v,_,rfl,⟨_,e0,hL⟩,rfl⟩-K t f
 cases e0
 dsimp only at t f hc hL
 have hvf:=hL.hf
 obtain ⟨cs,hs',hl,hn⟩:=hL.nth
 have hpl:=fun (xs:List Hd) (u:AV) (hu:Ls hdC xs u) (st:Int) (h:Aa st) (Q:AV→St→Prop) s k=>@Fn.u _ e 144 s Q plaF [u,.int .i64 st] h144 (xs,st,()) ⟨_,_,rfl,⟨_,rfl,hu⟩,_,_,rfl,⟨rfl,AW h⟩,rfl⟩ trivial k
 have hhd:=fun (x:Hd) (l:List AV) (hx:hdC.r x l) (Q:AV→St→Prop) s a b=>@cF.u _ _ _ _ e 148 s Q [.agg c.c,.agg l] h148 (c,x,()) ⟨_,_,rfl,⟨rfl,hc⟩,_,_,rfl,hx,rfl⟩ trivial a b
 replace hpl:∀ (xs:List Hd) (u:AV) (hu:Ls hdC xs u) (st:Int) (h:Aa st) (Q:AV→St→Prop) s,Q (.int .i64 (A9 xs st)) s→ESc e 144 [u,.int .i64 st] s Q:=hpl
 change VW P e 0 _ (Ah [.agg c.c,v] 0 .lf) St0 none [] _
 by_cases hM:c.may
 ·have hcf:=Sp h103 hc hM
  replace t:=fun q=>t ⟨hM,q⟩
  replace f:=fun (q:¬Cc c hs)=>f fun q'=>q q'.2
  replace hhd:=fun x l hx (Q:AV→St→Prop) s (a:DD c x→Q (.int .i64 0) s) (b:¬DD c x→Q (.int .i64 8) s)=>hhd x l hx Q s (fun q=>a q.2) (fun q=>b fun h=>q ⟨hM,h⟩)
  unfold Cc at t f
  conv=>whnf
  repeat' (first|((first|refine hcf _ _ ?_|refine AA rfl hs' ?_);conv=>whnf)|refine v3 ?_ ?_|refine v6 ?_ ?_|(intro _;first|omega|conv=>whnf))
  ·exact f (fun q=>by omega) _
  have hheads:(hs.length:Int)≤c.heads:=by assumption
  refine Ax hE hs.length (fun i=>[(1,v),(2,.ptr 0 0),(19,v),(20,.int .i64 (hs.length:Int)),(21,.int .i64 (i:Int))]) (fun _=>[.row 24 c.c]) (fun i=>∀ k<i,∀ h,hs[k]?=some h→DD c h∧∀ j<k,∀ g,hs[j]?=some g→g.1≠h.1) (fun k h=>by omega) (Abs.tells (rs:=[0]) .a) ?_
  intro i hi hI
  by_cases hlt:i<hs.length
  ·obtain ⟨x,l,r,hx,hxr,hd⟩:=hn i hlt
   have hhd:=hhd x l hxr
   have hff:¬(DD c x∧∀ j<i,∀ g,hs[j]?=some g→g.1≠x.1)→∀ s,K (.int .i64 8) s:=fun h=>f fun q=>h (q.1 i hlt x hx)
   have htt:(DD c x∧∀ j<i,∀ g,hs[j]?=some g→g.1≠x.1)→∀ k<i+1,∀ h,hs[k]?=some h→DD c h∧∀ j<k,∀ g,hs[j]?=some g→g.1≠h.1:=fun h=>AR hI fun y e=>by rw [hx] at e;cases e;exact h
   have hpos:∀ st,(∀ j<i,∀ g,hs[j]?=some g→g.1≠st)→A9 (hs.take i) st=-1:=fun st h=>Q6 fun j hj g hg=>by
    rw [Zqz] at hj
    rw [Zrm,Zqd (by omega)] at hg
    exact h j (by omega) g hg
   have hpos2:∀ st,A9 (hs.take i) st<0→∀ j<i,∀ g,hs[j]?=some g→g.1≠st:=fun st h j hj g hg e=>by
    rw [← RH] at h
    have:=idxI_iff (p:=fun h:Hd=>h.1=st) (l:=hs.take i).2 ⟨g,Zqv (i:=j) (by rw [Zrm,Zqd hj];exact hg),e⟩
    omega
   clear t f hI hn
   obtain ⟨st,bl,di,ph,de,sq⟩:=x
   obtain ⟨bv,dv,rfl,hst,-⟩:=Cn hxr
   dsimp only at hff htt
   conv=>whnf
   repeat' (first|(refine hhd _ _ (fun q1=>?_) (fun q1=>?_) <;> conv=>whnf)|(refine Nu rfl hL rfl rfl (Nat.le_of_lt hlt) (fun u hu=>?_);conv=>whnf)|((first|refine Am hs' hlt hd ?_|refine A7 (cs:=[.int .i64 st,bv,dv,.int .u8 (ph:Int),.bool de,.int .u32 sq]) rfl ?_|refine hpl (hs.take i) _ hu _ hst _ _ ?_|refine v7 ?_|refine ⟨rfl,?_⟩);conv=>whnf)|refine v1 ?_ ?_|refine v4 ?_ ?_|refine v6 ?_ ?_|(intro _;first|omega|conv=>whnf))
   ·exact hff (fun q=>by have:=hpos _ q.2;omega) _
   ·refine ⟨hlt,htt ⟨q1,hpos2 _ (by omega)⟩,Abs.tells (rs:=[0]) .a⟩
   ·exact hff (fun q=>q1 q.1) _
  ·conv=>whnf
   repeat' (first|refine v1 ?_ ?_|(intro _;first|omega|conv=>whnf))
   exact t ⟨fun k hk=>hI k (by omega),hheads⟩ _
 ·have hcf:=Sq h103 hc hM
  conv=>whnf
  repeat' (first|(refine hcf _ _ ?_;conv=>whnf)|refine v6 ?_ ?_|(intro _;first|omega|conv=>whnf))
  exact f (fun q=>hM q.1) _
open Classical in
noncomputable def fndF:Fn (Cfg×List Hd×Int×Unit):=⟨.g cfgC (.v hdC.sl (.v i64C .nil)),fun _=>True,fun x=>if x.1.may∧Cc x.1 x.2.1 then (if A9 x.2.1 x.2.2.1<0 then .tup [.int .i64 0,.int .i64 6] else .tup [.int .i64 (A9 x.2.1 x.2.2.1),.int .i64 0]) else .tup [.int .i64 0,.int .i64 8]⟩
theorem Zh9 (hE:EM P e) (h104:Con e 104 shcF.O) (h144:Con e 144 plaF.O):OvOk P 97 fndF.O:=by
 refine Bs g97.b ?_
 rintro ⟨c,hs,s,_⟩ _ ⟨_,_,rfl,⟨rfl,hc⟩,v,_,rfl,⟨_,e0,hL⟩,_,_,rfl,⟨e1,z1⟩,rfl⟩ -
 cases e0
 cases e1
 dsimp only at hc hL
 have hpl:=fun (Q:AV→St→Prop) s' k=>@Fn.u _ e 144 s' Q plaF [v,.int .i64 s] h144 (hs,s,()) ⟨_,_,rfl,⟨_,rfl,hL⟩,_,_,rfl,⟨rfl,z1⟩,rfl⟩ trivial k
 replace hpl:∀ (Q:AV→St→Prop) s',Q (.int .i64 (A9 hs s)) s'→ESc e 144 [v,.int .i64 s] s' Q:=hpl
 have hch:=fun (Q:AV→St→Prop) s a b=>@cF.u _ _ _ _ e 104 s Q [.agg c.c,v] h104 (c,hs,()) ⟨_,_,rfl,⟨rfl,hc⟩,_,_,rfl,⟨_,rfl,hL⟩,rfl⟩ trivial a b
 have hh:AM.hf (fndF.out (c,hs,s,()))=true:=by
  unfold fndF;dsimp only;split
  ·split <;> rfl
  ·rfl
 refine ⟨hh,C.of_G hE g97 ?_⟩
 have fin:∀ st v,v=fndF.out (c,hs,s,())→Frz st v (fndF.out (c,hs,s,())):=by
  rintro st v rfl;exact .plain _ hh
 clear hh
 generalize hO:fndF.out (c,hs,s,())=O at fin ⊢
 unfold fndF at hO
 dsimp only at hO hch
 generalize A9 hs s=j at *
 change VW P e 0 _ (Ah [.agg c.c,v,.int .i64 s] 0 .lf) St0 none [] _
 conv=>whnf
 repeat' (first|(refine hch _ _ (fun q1=>?_) (fun q1=>?_) <;> conv=>whnf)|(refine hpl _ _ ?_;conv=>whnf)|refine v1 ?_ ?_|refine v6 ?_ ?_|(intro _;first|omega|conv=>whnf))
 all_goals first
  | exact fin _ _ (by rw [← hO,Zqd q1,Zqd (by omega)];rfl)
  | exact fin _ _ (by rw [← hO,Zqd q1,Zqh (by omega)];rfl)
  | exact fin _ _ (by rw [← hO,Zqh q1];rfl)
theorem Zg (hx:ev x t=.some (.ptr r 0)) (hn:0<n) (hk:k (.sl r 0 n (some n)) s):EPrim (.sla es n x none none none) t s k:=by
 refine EPrim.mk (v:=.sl r 0 n (some n)) (s':=s) (fun e rec=>?_) hk
 show wth x t _=_;unfold wth;rw [hx]
 show gd (Nat.ble 0 n && Nat.ble n n && Nat.ble n n) (.ok (.sl r (Bool.rec (0+0*es) 0 (Nat.beq n 0)) (n-0) (some (n-0))) s)=_
 rw [Zq0 (Zqs n),Zq0 (Zqu n),show Nat.beq n 0=false by rw [← Zr8];intro e;have:=Zqf e;omega,Nat.zero_mul]
 rfl
noncomputable def fldF:Fn (List (List Nat)×Unit):=⟨.v blkC .nil,fun x=>Em x.1∧x.1.length≤16,fun x=>.tup [Ay (Bi x.1),.int .i64 0]⟩
theorem Zic (hE:EM P e):OvOk P 50 fldF.O:=by
 refine Bs g50.b ?_
 rintro ⟨l,_⟩ _ ⟨v,_,rfl,⟨_,e0,hL⟩,rfl⟩ ⟨hB,hl16⟩
 cases e0
 dsimp only at hB hl16 hL
 obtain ⟨cs,hs,hl,hn⟩:=hL.nth
 have hvf:=hL.hf
 refine ⟨rfl,C.of_G hE g50 ?_⟩
 have fin:∀ s,s.get 0=some (.row 170 (Ab (Bi l)))→Frz s (.tup [.sl 0 0 128 (some 128),.int .i64 0]) (fldF.out (l,())):=fun s h=>.tup _ _ (.cons (.sl 0 0 128 _ _ 170 _ _ _ h (fun i x h=>by rw [Zqo];exact h) (K9 (B6 _)) (.inl rfl)) (.cons (.plain _ rfl) .nil))
 generalize fldF.out _=O at fin ⊢
 have hz:Ab FJ=Ab (Bi (l.take 0)):=rfl
 conv=>whnf
 repeat' (first|(refine Ai hs ?_;conv=>whnf)|refine v3 ?_ ?_|(intro _;first|omega|conv=>whnf))
 refine Ax hE l.length (fun i=>[(4,.ptr 0 0),(5,.int .i64 0),(13,v),(14,.int .i64 (l.length:Int)),(15,.int .i64 (i:Int))]) (fun i=>[.row 170 (Ab (Bi (l.take i)))]) (fun _=>True) trivial (Abs.tells (rs:=[0]) ⟨by decide,⟨r9,r9,t9,r9,r9,trivial⟩,⟨o9 (B6 _),trivial⟩⟩) ?_
 intro i hi _
 by_cases hlt:i<l.length
 ·obtain ⟨b,_,r,hb,⟨u,rfl,hu⟩,hd⟩:=hn i hlt
  obtain ⟨hbl,hb256⟩:=hB b (Zqv hb)
  have hX:=Ki (l:=l.take i) fun c hc=>hB c (Zrg hc)
  have hst:=UY hb
  rw [hst]
  generalize Bi (l.take i)=A at *
  have hA:=hX.1
  obtain ⟨ds,hs',hl',hn'⟩:=hu.nth
  have huf:=hu.hf
  conv=>whnf
  repeat' (first|((first|refine Am hs hlt hd ?_|refine Ap ?_|refine AA rfl hs' ?_);conv=>whnf)|refine v1 ?_ ?_|refine v5 ?_ ?_|(intro _;first|omega|conv=>whnf))
  have h0:D9 A b 0=A:=by unfold D9;simp
  refine Ax hE 128 (fun j=>[(4,.ptr 0 0),(5,.int .i64 0),(13,v),(14,.int .i64 (l.length:Int)),(15,.int .i64 (i:Int)),(25,u),(26,.int .i64 (b.length:Int)),(27,.int .i64 (j:Int))]) (fun j=>[.row 170 (Ab (D9 A b j))]) (fun _=>True) trivial (Abs.tells (rs:=[0]) ⟨by decide,⟨r9,r9,t9,r9,r9,t9,r9,r9,trivial⟩,⟨⟨Bd (B6 _),by rw [AX (B6 _),h0];rfl⟩,trivial⟩⟩) ?_
  intro j hj _
  by_cases hjl:j<b.length
  ·obtain ⟨x,hx⟩:∃ x,A[j]?=some x:=⟨_,Zp9 (by omega)⟩
   obtain ⟨y,_,r',hy,⟨rfl,hy'⟩,hd'⟩:=hn' j hjl
   have hx':=hX.2 x (Zqv hx)
   obtain ⟨hg,hset⟩:=U0 hA hbl hx hy
   have hjl2:=(Zqa.1 hg).1
   conv=>whnf
   repeat' (first|(refine QL (i:=j) (bs:=D9 A b j) rfl (by omega) hjl2 ?_;rw [hset];conv=>whnf)|((first|refine Am hs' hjl hd' ?_|refine Ap ?_|refine Ny rfl rfl (by omega) (by omega) ?_|refine Wk (i:=j) (bs:=D9 A b j) rfl (by omega) hg ?_|refine Ut rfl rfl hx' hy' ?_|refine v7 ?_|refine ⟨rfl,?_⟩);conv=>whnf)|refine v1 ?_ ?_|(intro _;first|omega|conv=>whnf))
   exact ⟨by omega,trivial,Abs.tells (rs:=[0]) ⟨by decide,⟨r9,r9,t9,r9,r9,t9,r9,r9,trivial⟩,⟨o9 (B6 _),trivial⟩⟩⟩
  ·have he:D9 A b j=Ee A b:=by
    have:=NB hA hbl
    unfold D9;rw [Zqi (by omega),Zq5 (by omega),Zrk]
   rw [he]
   conv=>whnf
   repeat' (first|((first|refine v7 ?_|refine ⟨rfl,?_⟩);conv=>whnf)|refine v1 ?_ ?_|(intro _;first|omega|conv=>whnf))
   exact ⟨hlt,trivial,Abs.tells (rs:=[0]) ⟨by decide,⟨r9,r9,t9,r9,r9,trivial⟩,⟨o9 (B6 _),trivial⟩⟩⟩
 ·rw [Zqi (by omega)]
  conv=>whnf
  repeat' (first|(refine Zg rfl (by decide) ?_;conv=>whnf)|refine v1 ?_ ?_|refine v6 ?_ ?_|(intro _;first|omega|conv=>whnf))
  exact fin _ rfl
open Classical in
noncomputable def EI (d:Dv) (s:Int):Nat:=if d.1.may∧Cc d.1 d.2.2.2.1∧0≤A9 d.2.2.2.1 s then (d.2.2.2.1[(A9 d.2.2.2.1 s).toNat]?.map fun h=>h.2.2.2.1).getD 0 else 0
noncomputable def phF:Fn (Dv×Int×Unit):=⟨.g dvC (.v i64C .nil),fun _=>True,fun x=>.int .u8 (EI x.1 x.2.1:Int)⟩
theorem Zk4 (hE:EM P e) (h97:Con e 97 fndF.O):OvOk P 47 phF.O:=by
 refine Bs g47.b ?_
 rintro ⟨⟨c,bk,⟨ev,lo,sp,po,dn,nl,br⟩,hs,⟨ag,sq,tl,us,L⟩,fs,nx,so⟩,s,_⟩ _ ⟨_,_,rfl,hd,_,_,rfl,⟨e1,z1⟩,rfl⟩ -
 cases e1
 obtain ⟨hv,lv,fv,rfl,⟨ho,o1,o2,o3,o4,o5,o6,o7,o8,oN⟩,hH,hL,hF⟩:=Bl hd
 refine ⟨rfl,C.of_G hE g47 ?_⟩
 have hc:=fun (Q:AV→St→Prop) st k=>@Fn.u _ e 97 st Q fndF [.agg c.c,hv,.int .i64 s] h97 (c,hs,s,()) ⟨_,_,rfl,⟨rfl,ho⟩,_,_,rfl,⟨_,rfl,hH⟩,_,_,rfl,⟨rfl,z1⟩,rfl⟩ trivial k
 have fin:∀ st n,EI (c,bk,(ev,lo,sp,po,dn,nl,br),hs,(ag,sq,tl,us,L),fs,nx,so) s=n→Frz st (.int .u8 (n:Int)) (phF.out ((c,bk,(ev,lo,sp,po,dn,nl,br),hs,(ag,sq,tl,us,L),fs,nx,so),s,())):=by
  rintro st n rfl;exact .plain _ rfl
 generalize phF.out _=O at fin ⊢
 unfold EI at fin
 dsimp only at fin hc
 unfold fndF at hc
 dsimp only at hc
 change VW P e 0 _ (Ah [_,.int .i64 s] 0 .lf) St0 none [] _
 have hlt:=GW hs s
 obtain ⟨cs,hs',hl,hn⟩:=hH.nth
 generalize A9 hs s=j at *
 by_cases h1:c.may∧Cc c hs
 ·rw [Zqd h1] at hc
  by_cases h2:j<0
  ·rw [Zqd h2] at hc
   rw [Zqh (by rintro ⟨-,-,h⟩;omega)] at fin
   conv=>whnf
   repeat' (first|(refine hc _ _ ?_;conv=>whnf)|refine v6 ?_ ?_|(intro _;first|omega|conv=>whnf))
   exact fin _ 0 rfl
  ·rw [Zqh h2] at hc
   rw [Zqd ⟨h1.1,h1.2,by omega⟩] at fin
   obtain ⟨⟨st,bl,di,ph,de,sq⟩,l,r,hx,hxr,hd2⟩:=hn j.toNat (by omega)
   obtain ⟨bv,dv,rfl,-⟩:=Cn hxr
   rw [hx] at fin
   conv=>whnf
   repeat' (first|((first|refine hc _ _ ?_|refine BS rfl hs' rfl (show j=(j.toNat:Nat) by omega) (by omega) hd2 ?_|refine Ap ?_);conv=>whnf)|refine v6 ?_ ?_|(intro _;first|omega|conv=>whnf))
   exact fin _ _ rfl
 ·rw [Zqh h1] at hc
  rw [Zqh (by rintro ⟨h,h',-⟩;exact h1 ⟨h,h'⟩)] at fin
  conv=>whnf
  repeat' (first|(refine hc _ _ ?_;conv=>whnf)|refine v6 ?_ ?_|(intro _;first|omega|conv=>whnf))
  exact fin _ 0 rfl
def Y2:AC:=match a98 with|.mk c _=>c
def SH:AC:=match a99 with|.mk c _=>c
def SI:AC:=match a89 with|.mk c _=>c
theorem Wz (h44:Con e 44 dskF.O) {x:Dk}(hx:dkC.r x l) (hs:Cq x) (Q:AV→St→Prop) (s:St) (a:CZ x→Q (.int .i64 0) s) (b:¬CZ x→Q (.int .i64 8) s):ESc e 44 [.agg l] s Q:=by
 obtain ⟨y,hy,rfl⟩:=Jl hx
 refine ESc.fam (e:=e) (k:=Q) (s:=s) dskF h44 y (LW hy hs) rfl ?_
 have hi:=Kn hy
 show Q (.int .i64 (if AP y=true then 0 else 8)) s
 by_cases h:AP y=true
 ·rw [Zqd h];exact a (by rw [← hi];exact h)
 ·rw [Zqh h];exact b (by rw [← hi];exact h)
def memF:Fam Cfg:=⟨Cfg.ok,fun x=>[x.v],fun x=>.tup [.int .i64 (if x.may then x.chunk*x.rows+1 else 0),.int .i64 (if x.may then 0 else 8)],fun x y _ _ h=>by rw [HU (Zql h).1]⟩
theorem Zhg (hE:EM P e) (h83:Con e 88 toldF.O):OvOk P 59 memF.O:=by
 refine Cx g59.b ?_
 intro x hx
 refine ⟨rfl,rfl,C.of_G hE g59 ?_⟩
 by_cases hM:x.may
 ·rw [show memF.out x=.tup [.int .i64 (x.chunk*x.rows+1),.int .i64 0] by simp [memF,hM]]
  have hmm:=(B4 hM).1
  unfold Ar at hmm
  obtain ⟨id,members,chunk,rows,log,heads⟩:=x
  dsimp only at hmm ⊢
  show VW P e 0 _ (Ah [AV.agg [.int .u32 id,.int .i64 members,.int .i64 chunk,.int .i64 rows,.int .i64 log,.int .i64 heads]] 0 .lf) St0 none [] _
  conv=>whnf
  repeat' (first|((first|refine Cl rfl rfl (by omega) ?_|refine v7 ?_);conv=>whnf)|fail)
  refine ESc.fam toldF h83 (⟨id,members,chunk,rows,log,heads⟩,_) hx (u:=.tup [_,.int .i64 0]) (by simp only [toldF,Zqd hM];rfl) ?_;conv=>whnf
  exact .plain _ rfl
 ·rw [show memF.out x=.tup [.int .i64 0,.int .i64 8] by simp [memF,hM]]
  obtain ⟨id,members,chunk,rows,log,heads⟩:=x
  show VW P e 0 _ (Ah [AV.agg [.int .u32 id,.int .i64 members,.int .i64 chunk,.int .i64 rows,.int .i64 log,.int .i64 heads]] 0 .lf) St0 none [] _
  conv=>whnf
  repeat' (first|((first|refine EPrim.mul rfl rfl ?_|refine EPrim.add (q:=.i64) rfl rfl ?_);conv=>whnf)|fail)
  refine ESc.fam toldF h83 (⟨id,members,chunk,rows,log,heads⟩,_) hx (u:=.tup [.int .i64 0,.int .i64 8]) (by simp only [toldF,Zqh hM]) ?_;conv=>whnf
  exact .plain _ rfl
noncomputable def ftcF:Fn (Cfg×List Dk×Unit):=cF (.g cfgC (.v dkC.sl .nil)) (fun x=>∀ d ∈ x.2.1,Cq d) fun x=>x.1.may∧CH x.1 x.2.1
theorem Zh5 (hE:EM P e) (h44:Con e 44 dskF.O) (h59:Con e 59 memF.O) (h60:Con e 60 journalF.O):OvOk P 19 ftcF.O:=by
 refine Jo hE g19 ?_
 rintro ⟨c,D,_⟩ _ ⟨_,_,rfl,⟨rfl,hc⟩,v,_,rfl,⟨_,e0,hL⟩,rfl⟩ hG K t f
 cases e0
 dsimp only at t f hc hL hG
 have hvf:=hL.hf
 obtain ⟨cs,hs',hl,hn⟩:=hL.nth
 change VW P e 0 _ (Ah [.agg c.c,v] 0 .lf) St0 none [] _
 by_cases hM:c.may
 ·have hme:∀ (Q:AV→St→Prop) s,Q (.tup [.int .i64 (c.chunk*c.rows+1),.int .i64 0]) s→ESc e 59 [.agg c.c] s Q:=fun Q s k=>ESc.fam (e:=e) (k:=Q) (s:=s) memF h59 c hc (by unfold memF;dsimp only;rw [Zqd hM,Zqd hM]) k
  have hjo:∀ (Q:AV→St→Prop) s,Q (.tup [.int .i64 (c.log+1),.int .i64 0]) s→ESc e 60 [.agg c.c] s Q:=fun Q s k=>ESc.fam (e:=e) (k:=Q) (s:=s) journalF h60 c hc (by unfold journalF;dsimp only;rw [Zqd hM,Zqd hM]) k
  replace t:=fun q=>t ⟨hM,q⟩
  replace f:=fun (q:¬CH c D)=>f fun q'=>q q'.2
  have hmm:=(B4 hM).1
  have hlog:=GF hM
  unfold CH at t f
  unfold Cfg.may at hM
  unfold Ar at *
  conv=>whnf
  repeat' (first|((first|refine hme _ _ ?_|refine AA rfl hs' ?_|refine v7 ?_);conv=>whnf)|refine v6 ?_ ?_|(intro _;first|omega|conv=>whnf))
  ·exact f (fun q=>by omega) _
  have hlen:(D.length:Int)=c.members+1:=by assumption
  refine Ax hE D.length (fun i=>[(2,.ptr 0 0),(5,.int .i64 (c.chunk*c.rows+1)),(25,v),(26,.int .i64 (D.length:Int)),(27,.int .i64 (i:Int))]) (fun _=>[.row 24 c.c]) (fun i=>∀ k<i,∀ d,D[k]?=some d→(d.1.length:Int)=(if (k:Int)=c.members then c.log+1 else 1+c.chunk*c.rows)∧CZ d) (fun k h=>by omega) (Abs.tells (rs:=[0]) .a) ?_
  intro i hi hI
  by_cases hlt:i<D.length
  ·obtain ⟨x,l,r,hx,hxr,hd⟩:=hn i hlt
   have hdk:=fun (Q:AV→St→Prop) s a b=>Wz (e:=e) h44 hxr (hG x (Zqv hx)) Q s a b
   have hff:¬((x.1.length:Int)=(if (i:Int)=c.members then c.log+1 else 1+c.chunk*c.rows)∧CZ x)→∀ s,K (.int .i64 8) s:=fun h=>f fun q=>h (q.2 i hlt x hx)
   have htt:((x.1.length:Int)=(if (i:Int)=c.members then c.log+1 else 1+c.chunk*c.rows)∧CZ x)→∀ k<i+1,∀ d,D[k]?=some d→(d.1.length:Int)=(if (k:Int)=c.members then c.log+1 else 1+c.chunk*c.rows)∧CZ d:=fun h=>AR hI fun y e=>by rw [hx] at e;cases e;exact h
   clear t f hI hn
   obtain ⟨bs,ws,dd⟩:=x
   obtain ⟨bv,wv,rfl,h1,-⟩:=Hf hxr
   obtain ⟨xs,k1,l1,-⟩:=h1.nth
   dsimp only at hff htt
   by_cases him:(i:Int)=c.members
   all_goals
    first|rw [Zqd him] at hff htt|rw [Zqh him] at hff htt
    conv=>whnf
    repeat' (first|(refine hdk _ _ (fun q1=>?_) (fun q1=>?_) <;> conv=>whnf)|((first|refine Am hs' hlt hd ?_|refine A7 (cs:=[bv,wv,.bool dd]) rfl ?_|refine Ap ?_|refine hjo _ _ ?_|refine Ai k1 ?_|refine v7 ?_|refine ⟨rfl,?_⟩);conv=>whnf)|refine v1 ?_ ?_|refine v5 ?_ ?_|refine v6 ?_ ?_|(intro _;first|omega|conv=>whnf))
    all_goals first
     | exact hff (fun q=>by omega) _
     | exact hff (fun q=>q1 q.2) _
     | exact ⟨hlt,htt ⟨by omega,q1⟩,Abs.tells (rs:=[0]) .a⟩
  ·conv=>whnf
   repeat' (first|refine v1 ?_ ?_|(intro _;first|omega|conv=>whnf))
   exact t ⟨hlen,fun k hk=>hI k (by omega)⟩ _
 ·have hme:∀ (Q:AV→St→Prop) s,Q (.tup [.int .i64 0,.int .i64 8]) s→ESc e 59 [.agg c.c] s Q:=fun Q s k=>ESc.fam (e:=e) (k:=Q) (s:=s) memF h59 c hc (by unfold memF;dsimp only;rw [Zqh hM,Zqh hM]) k
  conv=>whnf
  repeat' (first|(refine hme _ _ ?_;conv=>whnf)|refine v6 ?_ ?_|(intro _;first|omega|conv=>whnf))
  exact f (fun q=>hM q.1) _
noncomputable def blsF:Fn (Cfg×Unit):=⟨.g cfgC .nil,fun x=>x.1.may,fun x=>.tup [.int .i64 (B8 x.1),.int .i64 0]⟩
theorem Zj7 (hE:EM P e) (h88:Con e 88 toldF.O):OvOk P 41 blsF.O:=by
 refine Bs g41.b ?_
 rintro ⟨c,_⟩ _ ⟨_,_,rfl,⟨rfl,hc⟩,rfl⟩ hM
 dsimp only at hc
 have hM:c.may:=hM
 refine ⟨rfl,C.of_G hE g41 ?_⟩
 have hmm:=B4 hM
 have hto:∀ n (Q:AV→St→Prop) s,Q (.tup [.int .i64 n,.int .i64 0]) s→ESc e 88 [.agg c.c,.int .i64 n] s Q:=fun n Q s k=>ESc.fam (e:=e) (k:=Q) (s:=s) toldF h88 (c,n) hc (by unfold toldF;dsimp only;rw [Zqd hM,Zqd hM]) k
 have fin:∀ st,Frz st (.tup [.int .i64 (B8 c),.int .i64 0]) (blsF.out (c,())):=fun st=>.plain _ rfl
 generalize blsF.out _=O at fin ⊢
 unfold B8 Ar at *
 unfold Cfg.may at hM
 change VW P e 0 _ (Ah [.agg c.c] 0 .lf) St0 none [] _
 conv=>whnf
 repeat' (first|((first|refine Cl rfl rfl (by omega) ?_|refine hto _ _ _ ?_|refine v8 ?_);conv=>whnf)|fail)
 exact fin _
def Zpr:AC:=match Ps with|.mk c _=>c
noncomputable def splF:Fn (Cfg×Ak×Unit):=⟨.g cfgC (.g akC .nil),fun x=>x.1.may,fun x=>.int .i64 (BJ x.1 x.2.1)⟩
set_option maxHeartbeats 2000000 in
theorem Zgj (hE:EM P e) (h41:Con e 41 blsF.O) (h212:Inl e 212 Zpr [.cells 2 3,.tmp 3]):OvOk P 209 splF.O:=by
 refine Bs g209.b ?_
 rintro ⟨c,⟨k,a,m,d⟩,_⟩ _ ⟨_,_,rfl,⟨rfl,hc⟩,_,_,rfl,hg,rfl⟩ hM
 obtain ⟨v,rfl,o1,o2,o3,hd⟩:=Iw hg
 obtain ⟨cs,hs',hl,-⟩:=hd.nth
 refine ⟨rfl,C.of_G hE g209 ?_⟩
 have f0:B2 c (k,a,m,d)→∀ s,Frz s (.int .i64 0) (splF.out (c,(k,a,m,d),())):=fun h s=>by
  show Frz s _ (.int .i64 (BJ c (k,a,m,d)));unfold BJ;rw [Zqd h];exact .plain _ rfl
 have f3:¬B2 c (k,a,m,d)→∀ d',B2 c (k,a,m,d')→∀ s,Frz s (.int .i64 3) (splF.out (c,(k,a,m,d),())):=fun h d' h' s=>by
  show Frz s _ (.int .i64 (BJ c (k,a,m,d)));unfold BJ;rw [Zqh h,Zqd ⟨d',h'⟩];exact .plain _ rfl
 have f2:(∀ d',¬B2 c (k,a,m,d'))→∀ s,Frz s (.int .i64 2) (splF.out (c,(k,a,m,d),())):=fun h s=>by
  show Frz s _ (.int .i64 (BJ c (k,a,m,d)));unfold BJ;rw [Zqh (h d),Zqh (fun q=>q.elim h)];exact .plain _ rfl
 generalize splF.out _=O at f0 f2 f3 ⊢
 have hM:c.may:=hM
 dsimp only at hc
 have hmm:=B4 hM
 have hbl:∀ (Q:AV→St→Prop) s,Q (.tup [.int .i64 (B8 c),.int .i64 0]) s→ESc e 41 [.agg c.c] s Q:=fun Q s k=>Fn.u (F:=blsF) h41 (c,()) ⟨_,_,rfl,⟨rfl,hc⟩,rfl⟩ hM k
 have f3:¬B2 c (k,a,m,d)→(1≤k∧k≤6∧(k=4∨k=6→a=0∧m=0)∧(¬(k=4∨k=6)→1≤m∧m≤8∧0≤a∧a≤B8 c-m))→∀ s,Frz s (.int .i64 3) O:=fun h q=>f3 h (List.replicate (if k=2∨k=3 then (m*128).toNat else 0) 0) ⟨q.1,q.2.1,q.2.2.1,q.2.2.2,fun e=>by rw [Zqd e,List.length_replicate];have:=q.2.2.2 (by omega);omega,fun e=>by rw [Zqh e];rfl⟩
 have f2:¬(1≤k∧k≤6∧(k=4∨k=6→a=0∧m=0)∧(¬(k=4∨k=6)→1≤m∧m≤8∧0≤a∧a≤B8 c-m))→∀ s,Frz s (.int .i64 2) O:=fun h=>f2 fun d' q=>h ⟨q.1,q.2.1,q.2.2.1,q.2.2.2.1⟩
 unfold B2 at f0 f3
 generalize B8 c=B at *
 unfold Aa at *
 dsimp only at f0 f2 f3
 change VW P e 0 _ (Ah [.agg c.c,_] 0 .lf) St0 none [] _
 conv=>whnf
 repeat' (first|((first|refine hbl _ _ ?_|refine AA rfl hs' ?_|refine ESc.inl h212 ?_|refine EPrim.min2 rfl ?_|refine Cl rfl rfl (by omega) ?_|refine v8 ?_|refine An ?_|refine As ?_);conv=>whnf)|refine v1 ?_ ?_|refine v3 ?_ ?_|refine v5 ?_ ?_|refine v6 ?_ ?_|(intro _;first|omega|conv=>whnf))
 all_goals first
  | exact f2 (by omega) _
  | exact f3 (by omega) (by omega) _
  | exact f0 (by omega) _
def Hn (a:Int) (n:Nat):List AV:=(List.range n).map fun (i:Nat)=>AV.int .i64 (a+(i:Int))
def G3 (a:Int) (n:Nat):AV:=match n with
 | 0=>.nils
 | n+1=>.fz (n+1) none (Hn a (n+1))
theorem Wi (a:Int) (n:Nat):hfs (Hn a n)=true:=GT fun k _=>rfl
theorem Zbz (a:Int) (n:Nat):Hn a (n+1)=Hn a n++[.int .i64 (a+(n:Int))]:=L6
theorem Zef (a:Int) (n:Nat):(Hn a n).length=n:=by unfold Hn;simp
variable {a:Int}
theorem Rb (h:∀ i<n,Aa (a+(i:Int))) (hn:n≤1000):Ls i64C ((List.range n).map fun (i:Nat)=>a+(i:Int)) (G3 a n):=by
 rcases n with _|n
 ·exact E6 (.inl rfl)
 ·refine ⟨(List.range (n+1)).map fun (i:Nat)=>[AV.int .i64 (a+(i:Int))],?_,.inr (.inr ⟨none,?_,?_⟩),by simp;omega⟩
  ·refine Ey (by simp) fun i x l' h1 h2=>?_
   rw [Zq8] at h1 h2
   by_cases hi:i<n+1
   ·rw [List.getElem?_range hi] at h1 h2
    cases h1
    cases h2
    exact ⟨rfl,AW (h i hi)⟩
   ·rw [Zsa (by simp;omega)] at h1
    cases h1
  ·rw [LB (fun (i:Nat)=>AV.int .i64 (a+(i:Int)))];simp;rfl
  ·rw [LB (fun (i:Nat)=>AV.int .i64 (a+(i:Int))),Zqg,List.length_range,Zqg,List.length_range];exact (Zrc _).symm
noncomputable def sblF:Fn (Cfg×Ak×Unit):=⟨.g cfgC (.g akC .nil),fun x=>x.1.may,fun x=>if BJ x.1 x.2.1=0 then .tup [G3 x.2.1.2.1 x.2.1.2.2.1.toNat,.int .i64 0] else .tup [.nils,.int .i64 (BJ x.1 x.2.1)]⟩
theorem akE_iff {x:Ak}:BJ c x=0↔B2 c x:=⟨fun h=>Classical.byContradiction fun n=>XP n h,XQ⟩
theorem NQ {k:Nat}{d:List Nat}(hM:c.may) (h:B2 c (k,a,m,d)):0≤m∧m≤8∧0≤a∧a≤1000:=by
 have hmm:=(B4 hM).2
 obtain ⟨h1,h2,h3,h4,-⟩:=h
 omega
def MT (n:Nat) (r:Nat):AV:=match n with
 | 0=>.nils
 | n+1=>.sl r 0 (n+1) none
theorem Zgr (hE:EM P e) (h209:Con e 209 splF.O):OvOk P 189 sblF.O:=by
 refine Bs g189.b ?_
 rintro ⟨c,⟨k,a,m,d⟩,_⟩ _ ⟨_,_,rfl,⟨rfl,hc⟩,_,_,rfl,hg,rfl⟩ hM
 have hM:c.may:=hM
 dsimp only at hc
 have hg0:=hg
 have hsp:∀ (Q:AV→St→Prop) s l,akC.r (k,a,m,d) l→Q (.int .i64 (BJ c (k,a,m,d))) s→ESc e 209 [.agg c.c,.agg l] s Q:=fun Q s l hl q=>Fn.u (F:=splF) h209 (c,(k,a,m,d),()) ⟨_,_,rfl,⟨rfl,hc⟩,_,_,rfl,hl,rfl⟩ hM q
 obtain ⟨v,rfl,o1,o2,o3,hd⟩:=Iw hg
 have hsp:=fun Q s=>hsp Q s _ hg
 have hrow:=akC.hf hg
 have hvf:=hd.hf
 have hh:AM.hf (sblF.out (c,(k,a,m,d),()))=true:=by
  unfold sblF;dsimp only;split
  ·unfold G3;split <;> rfl
  ·rfl
 refine ⟨hh,C.of_G hE g189 ?_⟩
 have hO:∀ O,sblF.out (c,(k,a,m,d),())=O→(if BJ c (k,a,m,d)=0 then AV.tup [G3 a m.toNat,.int .i64 0] else .tup [.nils,.int .i64 (BJ c (k,a,m,d))])=O:=fun O h=>h
 generalize hO':sblF.out (c,(k,a,m,d),())=O at hh ⊢
 replace hO:=hO O hO'
 change VW P e 0 _ (Ah [.agg c.c,.agg [.int .u8 (k:Int),.int .i64 a,.int .i64 m,v]] 0 .lf) St0 none [] _
 by_cases h0:B2 c (k,a,m,d)
 ·have hm:=NQ hM h0
  rw [akE_iff.2 h0] at hsp hO
  rw [Zqd rfl] at hO
  obtain ⟨n,rfl⟩:∃ n:Nat,m=n:=⟨m.toNat,by omega⟩
  rw [Int.toNat_natCast] at hO
  have fin0:n=0→∀ st,Frz st (.tup [.nils,.int .i64 0]) O:=fun h st=>by
   subst h;rw [← hO];exact .plain _ rfl
  have fin1:∀ i r st,n=i+1→st.get r=some (.row 3 (Hn a (i+1)))→Frz st (.tup [.sl r 0 (i+1) none,.int .i64 0]) O:=fun i r st h hg2=>by
   subst h;rw [← hO]
   exact .tup _ _ (.cons (.sl r 0 (i+1) _ _ 3 _ _ _ hg2 (fun j x hx=>by rw [Zqo];exact hx) (Cz (Wi _ _)) (.inl rfl)) (.cons (.plain _ rfl) .nil))
  conv=>whnf
  repeat' (first|(refine hsp _ _ ?_;conv=>whnf)|refine v6 ?_ ?_|(intro _;first|omega|conv=>whnf))
  refine Ax hE n (fun i=>[(3,.ptr 1 0),(4,MT i 2),(15,.int .i64 (n:Int)),(16,.int .i64 (i:Int))]) (fun i=>match i with|0=>[.row 24 c.c,.row 140 [.int .u8 (k:Int),.int .i64 a,.int .i64 (n:Int),v]]|i+1=>[.row 24 c.c,.row 140 [.int .u8 (k:Int),.int .i64 a,.int .i64 (n:Int),v],.row 3 (Hn a (i+1))]) (fun _=>True) trivial (Abs.tells (rs:=[0,1]) .a) ?_
  intro i hi _
  unfold Aa at o2 o3
  by_cases hlt:i<n
  ·have hli:=Wi a
   have hsu:=Zbz a i
   rcases i with _|i
   ·conv=>whnf
    repeat' (first|((first|refine CJ (m:=1) ?_|refine v7 ?_|refine ⟨rfl,?_⟩);conv=>whnf)|refine v1 ?_ ?_|(intro _;first|omega|conv=>whnf))
    exact ⟨hlt,trivial,Abs.tells (rs:=[0,1,3]) ⟨by decide,⟨r9,r9,r9,r9,trivial⟩,⟨r9,o9 hrow,⟨Bd rfl,rfl⟩,trivial⟩⟩⟩
   ·have hli2:=hli (i+1+1)
    rw [hsu] at hli2
    dsimp only
    rw [hsu]
    conv=>whnf
    repeat' (first|((first|refine Cw (m:=1) (n:=i+1) (old:=Hn a (i+1)) rfl rfl rfl rfl (by rw [Zef];exact (Zrc _).symm) rfl (by decide) (by omega) ?_|refine v7 ?_|refine ⟨rfl,?_⟩);conv=>whnf)|refine v1 ?_ ?_|(intro _;first|omega|conv=>whnf))
    exact ⟨hlt,trivial,Abs.tells (rs:=[0,1,4]) .a⟩
  ·obtain rfl:i=n:=by omega
   rcases i with _|i
   ·conv=>whnf
    repeat' (first|refine v1 ?_ ?_|(intro _;first|omega|conv=>whnf))
    exact fin0 rfl _
   ·conv=>whnf
    repeat' (first|refine v1 ?_ ?_|(intro _;first|omega|conv=>whnf))
    exact fin1 i _ _ rfl rfl
 ·have hne:=mt akE_iff.1 h0
  rw [Zqh hne] at hO
  generalize BJ c (k,a,m,d)=E at *
  have fin:∀ st,Frz st (.tup [.nils,.int .i64 E]) O:=fun st=>by rw [← hO];exact .plain _ rfl
  conv=>whnf
  repeat' (first|(refine hsp _ _ ?_;conv=>whnf)|refine v6 ?_ ?_|(intro _;first|omega|conv=>whnf))
  all_goals first
   | exact absurd (by assumption) hne
   | exact fin _
theorem KC {β:Type}(hE:EM P e) {k:Nat}{rd:Option Nat}{ac:AC}{Q:EQ}(n:Nat) (tl:Nat→β→List (Nat×AV)) (os:Nat→β→List AObj) (I:Nat→β→Prop) (b0:β) (h0:I 0 b0) (ha:Tells P k t s [] (A5 (tl 0 b0)) (Al St0 (os 0 b0)) [])
 (hr:∀ i b,i≤n→I i b→VW P e k ac (A5 (tl i b)) (Al St0 (os i b)) rd [] (I4 (fun t s ds=>ds=[]∧i<n∧∃ b',I (i+1) b'∧Tells P k t s [] (A5 (tl (i+1) b')) (Al St0 (os (i+1) b')) []) Q)):W P k rd (.loop ac) t s [] Q:=by
 refine DZ (α:=Nat×β) (fun x=>tl x.1 x.2) (fun x=>os x.1 x.2) (fun x=>n-x.1) (fun x=>x.1≤n∧I x.1 x.2) (0,b0) ⟨Zqs _,h0⟩ ha ?_
 rintro ⟨i,b⟩ ⟨hi,hI⟩
 refine (Cy hE (hr i b hi hI)).mono ?_
 intro x t s ds hq
 cases x with
 | normal=>
  obtain ⟨rfl,h1,b',h2,h3⟩:=hq
  exact ⟨rfl,(i+1,b'),⟨h1,h2⟩,by dsimp only at hi ⊢;omega,h3⟩
 | exit id=>exact hq
 | ret=>exact hq
def F4 (a:Int):Nat→List Int
 | 0=>[]
 | i+1=>Dh (a+(i:Int)) (F4 a i)
theorem GS {n:Int}:∀ {i:Nat},n ∈ F4 a i↔a≤n∧n<a+(i:Int)
 | 0=>by simp [F4];try omega
 | i+1=>by
  unfold F4 Dh
  split
  ·rename_i h
   rw [GS] at h ⊢
   omega
  ·rw [Zq1,GS,List.mem_singleton];omega
def Hw (k:Nat):Bool:=decide (k=2∨k=3∨k=5)
def ofV (k:Nat):AV:=.tup [.agg [.int .i64 (if k=4∨k=6∨k=0∨6<k then 0 else 8),.bool (decide (k=2∨k=3)),.bool (Hw k)],.bool (decide (1≤k∧k≤6))]
noncomputable def ofF:Fn (Nat×Unit):=⟨.v Ce.u8 .nil,fun _=>True,fun x=>ofV x.1⟩
theorem Zlc (hE:EM P e):OvOk P 212 ofF.O:=by
 refine Bs g212.b ?_
 rintro ⟨k,_⟩ _ ⟨_,_,rfl,⟨e1,z1⟩,rfl⟩ -
 cases e1
 dsimp only at z1
 refine ⟨rfl,C.of_G hE g212 ?_⟩
 have fin:∀ st a b c d,(if k=4∨k=6∨k=0∨6<k then (0:Int) else 8)=a→decide (k=2∨k=3)=b→Hw k=c→decide (1≤k∧k≤6)=d→Frz st (.tup [.agg [.int .i64 a,.bool b,.bool c],.bool d]) (ofF.out (k,())):=by
  rintro st a b c d rfl rfl rfl rfl;exact .plain _ rfl
 generalize ofF.out _=O at fin ⊢
 unfold Hw at fin
 change VW P e 0 _ (Ah [.int .u8 (k:Int)] 0 .lf) St0 none [] _
 conv=>whnf
 repeat' (first|refine v5 ?_ ?_|(intro _;first|omega|conv=>whnf))
 all_goals first
  | exact fin _ _ _ _ _ (by first|exact Zqd (by omega)|exact Zqh (by omega)) (by first|exact Zqe (by omega)|exact Zqq (by omega)) (by first|exact Zqe (by omega)|exact Zqq (by omega)) (by first|exact Zqe (by omega)|exact Zqq (by omega))
noncomputable def tchF:Fn (Cfg×Ak×Ak×Unit):=⟨.g cfgC (.g akC (.g akC .nil)),fun x=>x.1.may∧B2 x.1 x.2.1∧B2 x.1 x.2.2.1,fun x=>.tup [pB (FL x.2.1 x.2.2.1),.int .i64 0]⟩
set_option maxHeartbeats 2000000 in
theorem Zge (hE:EM P e) (h189:Con e 189 sblF.O) (h212:Con e 212 ofF.O):OvOk P 193 tchF.O:=by
 refine Bs g193.b ?_
 rintro ⟨c,⟨k,a,m,d⟩,⟨k',a',m',d'⟩,_⟩ _ ⟨_,_,rfl,⟨rfl,hc⟩,_,_,rfl,hx,_,_,rfl,hy,rfl⟩ ⟨hM,hB,hB'⟩
 dsimp only at hc hx hy hM hB hB'
 have hsb:∀ (k:Nat) (a m:Int) (d:List Nat) (Q:AV→St→Prop) s l,akC.r (k,a,m,d) l→B2 c (k,a,m,d)→Q (.tup [G3 a m.toNat,.int .i64 0]) s→ESc e 189 [.agg c.c,.agg l] s Q:=fun k a m d Q s l hl hb q=>Fn.u (F:=sblF) h189 (c,(k,a,m,d),()) ⟨_,_,rfl,⟨rfl,hc⟩,_,_,rfl,hl,rfl⟩ hM (by
  show Q (if BJ c (k,a,m,d)=0 then .tup [G3 a m.toNat,.int .i64 0] else .tup [.nils,.int .i64 (BJ c (k,a,m,d))]) s
  rw [Zqd (akE_iff.2 hb)];exact q)
 obtain ⟨v,rfl,o1,o2,o3,hd⟩:=Iw hx
 obtain ⟨v',rfl,o1',o2',o3',hd'⟩:=Iw hy
 have hs1:=fun Q s=>hsb _ _ _ _ Q s _ hx hB
 have hs2:=fun Q s=>hsb _ _ _ _ Q s _ hy hB'
 have hr1:=akC.hf hx
 have hr2:=akC.hf hy
 have hz:m=0→a=0:=by have:=hB.2.2.1;have:=hB.2.2.2.1;omega
 have hz':m'=0→a'=0:=by have:=hB'.2.2.1;have:=hB'.2.2.2.1;omega
 have hm:=NQ hM hB
 have hm':=NQ hM hB'
 have hof:∀ (k:Nat) (Q:AV→St→Prop) s,k<256→Q (ofV k) s→ESc e 212 [.int .u8 (k:Int)] s Q:=fun k Q s hk q=>Fn.u (F:=ofF) h212 (k,()) ⟨_,_,rfl,⟨rfl,hk⟩,rfl⟩ trivial q
 have hof1:=fun Q s=>hof k Q s o1
 have hof2:=fun Q s=>hof k' Q s o1'
 have hw:(Hw k=true↔(k=2∨k=3∨k=5)):=by unfold Hw;exact decide_eq_true_iff
 have hw':(Hw k'=true↔(k'=2∨k'=3∨k'=5)):=by unfold Hw;exact decide_eq_true_iff
 unfold ofV at hof1 hof2
 clear hsb hof
 refine ⟨rfl,C.of_G hE g193 ?_⟩
 have ft:FL (k,a,m,d) (k',a',m',d')→∀ st,Frz st (.tup [.bool true,.int .i64 0]) (tchF.out (c,(k,a,m,d),(k',a',m',d'),())):=fun h st=>.tup _ _ (.cons (pT h) (.cons (.plain _ rfl) .nil))
 have ff:¬FL (k,a,m,d) (k',a',m',d')→∀ st,Frz st (.tup [.bool false,.int .i64 0]) (tchF.out (c,(k,a,m,d),(k',a',m',d'),())):=fun h st=>.tup _ _ (.cons (pF h) (.cons (.plain _ rfl) .nil))
 generalize tchF.out _=O at ft ff ⊢
 unfold FL at ft ff
 dsimp only at ft ff
 obtain ⟨n,rfl⟩:∃ n:Nat,m=n:=⟨m.toNat,by omega⟩
 obtain ⟨n',rfl⟩:∃ n:Nat,m'=n:=⟨m'.toNat,by omega⟩
 rw [Int.toNat_natCast] at hs1 hs2
 have hL1:=Rb (a:=a) (n:=n) (fun i hi=>by unfold Aa;omega) (by omega)
 have hL2:=Rb (a:=a') (n:=n') (fun i hi=>by unfold Aa;omega) (by omega)
 rw [← hw,← hw'] at ft ff
 generalize Hw k=b1 at *
 generalize Hw k'=b2 at *
 generalize (if k=4∨k=6∨k=0∨6<k then (0:Int) else 8)=y1 at hof1
 generalize (if k'=4∨k'=6∨k'=0∨6<k' then (0:Int) else 8)=y2 at hof2
 generalize decide (k=2∨k=3)=y3 at hof1
 generalize decide (k'=2∨k'=3)=y4 at hof2
 generalize decide (1≤k∧k≤6)=y5 at hof1
 generalize decide (1≤k'∧k'≤6)=y6 at hof2
 generalize G3 a n=u at *
 generalize G3 a' n'=u' at *
 have hu:=hL1.hf
 have hu':=hL2.hf
 obtain ⟨cs,k1,-,e1⟩:=hL1.nth
 obtain ⟨cs',k2,-,e2⟩:=hL2.nth
 rw [Zqg,List.length_range] at k1 k2 e1 e2
 change VW P e 0 _ (Ah [.agg c.c,.agg [.int .u8 (k:Int),.int .i64 a,.int .i64 (n:Int),v],.agg [.int .u8 (k':Int),.int .i64 a',.int .i64 (n':Int),v']] 0 .lf) St0 none [] _
 cases b1 <;> cases b2
 all_goals
  conv=>whnf
  repeat' (first|((first|refine hs1 _ _ ?_|refine hs2 _ _ ?_|refine hof1 _ _ ?_|refine hof2 _ _ ?_|refine Ai k1 ?_);conv=>whnf)|refine v6 ?_ ?_|(intro _;first|omega|conv=>whnf))
 ·replace ff:=ff (by simp)
  clear ft
  clear hof1 hof2 hs1 hs2
  refine KC hE (β:=List (AV×AV×Nat)×Nat) n (fun i b=>[(10,u'),(15,.map 0),(16,.int .i64 1),(58,u),(59,.int .i64 (n:Int)),(60,.int .i64 (i:Int))]) (fun i b=>[.map b.1 b.2]) (fun i b=>KM (.int .i64 1) b.1 (F4 a i)) ([],0) (KM.nil _) (Abs.tells (rs:=[5]) .a) ?_
  rintro i ⟨es,N⟩ hi hK
  dsimp only at hK ⊢
  by_cases hlt:i<n
  ·obtain ⟨x,_,r,h1,⟨rfl,-⟩,h3⟩:=e1 i hlt
   rw [Zq8,List.getElem?_range hlt] at h1
   cases h1
   replace h3:cs.drop (i*1)=[.int .i64 (a+(i:Int))]++r:=h3
   conv=>whnf
   repeat' (first|(refine IG rfl rfl rfl rfl hK (fun es' N' hK'=>?_);conv=>whnf)|((first|refine Am k1 hlt h3 ?_|refine Ap ?_|refine v7 ?_|refine ⟨rfl,?_⟩);conv=>whnf)|refine v1 ?_ ?_|(intro _;first|omega|conv=>whnf))
   refine ⟨hlt,(es',N'),hK',Abs.tells (rs:=[0]) ⟨by decide,⟨t9,r9,r9,t9,r9,r9,trivial⟩,⟨⟨DL rfl hK',?_⟩,trivial⟩⟩⟩
   show _=some (AObj.map (BV _ es') N');rw [DI rfl hK'];rfl
  ·obtain rfl:i=n:=by omega
   conv=>whnf
   repeat' (first|(refine Ai k2 ?_;conv=>whnf)|refine v1 ?_ ?_|(intro _;first|omega|conv=>whnf))
   refine Ax hE n' (fun j=>[(15,.map 0),(68,u'),(69,.int .i64 (n':Int)),(70,.int .i64 (j:Int))]) (fun j=>[.map es N]) (fun j=>∀ k<j,¬(a'+(k:Int) ∈ F4 a i∧(1:Int)=2)) (fun k h=>by omega) (Abs.tells (rs:=[0]) ⟨by decide,⟨r9,t9,r9,r9,trivial⟩,⟨⟨DL rfl hK,?_⟩,trivial⟩⟩) ?_
   ·show _=some (AObj.map (BV _ es) N);rw [DI rfl hK];rfl
   intro j hj hJ
   by_cases hjl:j<n'
   ·obtain ⟨x,_,r,h1,⟨rfl,-⟩,h3⟩:=e2 j hjl
    rw [Zq8,List.getElem?_range hjl] at h1
    cases h1
    replace h3:cs'.drop (j*1)=[.int .i64 (a'+(j:Int))]++r:=h3
    conv=>whnf
    repeat' (first|(refine IH rfl rfl rfl hK (fun hin=>?_) (fun hin=>?_) <;> conv=>whnf)|((first|refine Am k2 hjl h3 ?_|refine Ap ?_|refine v7 ?_|refine ⟨rfl,?_⟩);conv=>whnf)|refine v1 ?_ ?_|refine v3 ?_ ?_|(intro _;first|omega|conv=>whnf))
    all_goals first
     | exact ft (by rw [GS] at hin;omega) _
     | (refine ⟨hjl,AR hJ (fun q=>by first|exact hin q.1|exact absurd q.2 (by decide)),Abs.tells (rs:=[0]) ⟨by decide,⟨r9,t9,r9,r9,trivial⟩,⟨⟨DL rfl hK,?_⟩,trivial⟩⟩⟩
        show _=some (AObj.map (BV _ es) N);rw [DI rfl hK];rfl)
   ·conv=>whnf
    repeat' (first|refine v1 ?_ ?_|(intro _;first|omega|conv=>whnf))
    exact ff _
 ·replace ft:=fun q=>ft ⟨by simp,q⟩
  replace ff:=fun (q:¬(a<a'+(n':Int)∧a'<a+(n:Int)))=>ff fun q'=>q q'.2
  clear hof1 hof2 hs1 hs2
  refine KC hE (β:=List (AV×AV×Nat)×Nat) n (fun i b=>[(10,u'),(15,.map 0),(16,.int .i64 2),(58,u),(59,.int .i64 (n:Int)),(60,.int .i64 (i:Int))]) (fun i b=>[.map b.1 b.2]) (fun i b=>KM (.int .i64 2) b.1 (F4 a i)) ([],0) (KM.nil _) (Abs.tells (rs:=[5]) .a) ?_
  rintro i ⟨es,N⟩ hi hK
  dsimp only at hK ⊢
  by_cases hlt:i<n
  ·obtain ⟨x,_,r,h1,⟨rfl,-⟩,h3⟩:=e1 i hlt
   rw [Zq8,List.getElem?_range hlt] at h1
   cases h1
   replace h3:cs.drop (i*1)=[.int .i64 (a+(i:Int))]++r:=h3
   conv=>whnf
   repeat' (first|(refine IG rfl rfl rfl rfl hK (fun es' N' hK'=>?_);conv=>whnf)|((first|refine Am k1 hlt h3 ?_|refine Ap ?_|refine v7 ?_|refine ⟨rfl,?_⟩);conv=>whnf)|refine v1 ?_ ?_|(intro _;first|omega|conv=>whnf))
   refine ⟨hlt,(es',N'),hK',Abs.tells (rs:=[0]) ⟨by decide,⟨t9,r9,r9,t9,r9,r9,trivial⟩,⟨⟨DL rfl hK',?_⟩,trivial⟩⟩⟩
   show _=some (AObj.map (BV _ es') N');rw [DI rfl hK'];rfl
  ·obtain rfl:i=n:=by omega
   conv=>whnf
   repeat' (first|(refine Ai k2 ?_;conv=>whnf)|refine v1 ?_ ?_|(intro _;first|omega|conv=>whnf))
   refine Ax hE n' (fun j=>[(15,.map 0),(68,u'),(69,.int .i64 (n':Int)),(70,.int .i64 (j:Int))]) (fun j=>[.map es N]) (fun j=>∀ k<j,¬(a'+(k:Int) ∈ F4 a i∧(2:Int)=2)) (fun k h=>by omega) (Abs.tells (rs:=[0]) ⟨by decide,⟨r9,t9,r9,r9,trivial⟩,⟨⟨DL rfl hK,?_⟩,trivial⟩⟩) ?_
   ·show _=some (AObj.map (BV _ es) N);rw [DI rfl hK];rfl
   intro j hj hJ
   by_cases hjl:j<n'
   ·obtain ⟨x,_,r,h1,⟨rfl,-⟩,h3⟩:=e2 j hjl
    rw [Zq8,List.getElem?_range hjl] at h1
    cases h1
    replace h3:cs'.drop (j*1)=[.int .i64 (a'+(j:Int))]++r:=h3
    conv=>whnf
    repeat' (first|(refine IH rfl rfl rfl hK (fun hin=>?_) (fun hin=>?_) <;> conv=>whnf)|((first|refine Am k2 hjl h3 ?_|refine Ap ?_|refine v7 ?_|refine ⟨rfl,?_⟩);conv=>whnf)|refine v1 ?_ ?_|refine v3 ?_ ?_|(intro _;first|omega|conv=>whnf))
    all_goals first
     | exact ft (by rw [GS] at hin;omega) _
     | (refine ⟨hjl,AR hJ (fun q=>by first|exact hin q.1|exact absurd q.2 (by decide)),Abs.tells (rs:=[0]) ⟨by decide,⟨r9,t9,r9,r9,trivial⟩,⟨⟨DL rfl hK,?_⟩,trivial⟩⟩⟩
        show _=some (AObj.map (BV _ es) N);rw [DI rfl hK];rfl)
   ·conv=>whnf
    repeat' (first|refine v1 ?_ ?_|(intro _;first|omega|conv=>whnf))
    exact ff (fun q=>hJ (if a'≤a then (a-a').toNat else 0) (by split <;> omega) ⟨by rw [GS];split <;> omega,rfl⟩) _
 ·replace ft:=fun q=>ft ⟨by simp,q⟩
  replace ff:=fun (q:¬(a<a'+(n':Int)∧a'<a+(n:Int)))=>ff fun q'=>q q'.2
  clear hof1 hof2 hs1 hs2
  refine KC hE (β:=List (AV×AV×Nat)×Nat) n (fun i b=>[(10,u'),(15,.map 0),(16,.int .i64 2),(58,u),(59,.int .i64 (n:Int)),(60,.int .i64 (i:Int))]) (fun i b=>[.map b.1 b.2]) (fun i b=>KM (.int .i64 2) b.1 (F4 a i)) ([],0) (KM.nil _) (Abs.tells (rs:=[5]) .a) ?_
  rintro i ⟨es,N⟩ hi hK
  dsimp only at hK ⊢
  by_cases hlt:i<n
  ·obtain ⟨x,_,r,h1,⟨rfl,-⟩,h3⟩:=e1 i hlt
   rw [Zq8,List.getElem?_range hlt] at h1
   cases h1
   replace h3:cs.drop (i*1)=[.int .i64 (a+(i:Int))]++r:=h3
   conv=>whnf
   repeat' (first|(refine IG rfl rfl rfl rfl hK (fun es' N' hK'=>?_);conv=>whnf)|((first|refine Am k1 hlt h3 ?_|refine Ap ?_|refine v7 ?_|refine ⟨rfl,?_⟩);conv=>whnf)|refine v1 ?_ ?_|(intro _;first|omega|conv=>whnf))
   refine ⟨hlt,(es',N'),hK',Abs.tells (rs:=[0]) ⟨by decide,⟨t9,r9,r9,t9,r9,r9,trivial⟩,⟨⟨DL rfl hK',?_⟩,trivial⟩⟩⟩
   show _=some (AObj.map (BV _ es') N');rw [DI rfl hK'];rfl
  ·obtain rfl:i=n:=by omega
   conv=>whnf
   repeat' (first|(refine Ai k2 ?_;conv=>whnf)|refine v1 ?_ ?_|(intro _;first|omega|conv=>whnf))
   refine Ax hE n' (fun j=>[(15,.map 0),(68,u'),(69,.int .i64 (n':Int)),(70,.int .i64 (j:Int))]) (fun j=>[.map es N]) (fun j=>∀ k<j,¬(a'+(k:Int) ∈ F4 a i∧(2:Int)=2)) (fun k h=>by omega) (Abs.tells (rs:=[0]) ⟨by decide,⟨r9,t9,r9,r9,trivial⟩,⟨⟨DL rfl hK,?_⟩,trivial⟩⟩) ?_
   ·show _=some (AObj.map (BV _ es) N);rw [DI rfl hK];rfl
   intro j hj hJ
   by_cases hjl:j<n'
   ·obtain ⟨x,_,r,h1,⟨rfl,-⟩,h3⟩:=e2 j hjl
    rw [Zq8,List.getElem?_range hjl] at h1
    cases h1
    replace h3:cs'.drop (j*1)=[.int .i64 (a'+(j:Int))]++r:=h3
    conv=>whnf
    repeat' (first|(refine IH rfl rfl rfl hK (fun hin=>?_) (fun hin=>?_) <;> conv=>whnf)|((first|refine Am k2 hjl h3 ?_|refine Ap ?_|refine v7 ?_|refine ⟨rfl,?_⟩);conv=>whnf)|refine v1 ?_ ?_|refine v3 ?_ ?_|(intro _;first|omega|conv=>whnf))
    all_goals first
     | exact ft (by rw [GS] at hin;omega) _
     | (refine ⟨hjl,AR hJ (fun q=>by first|exact hin q.1|exact absurd q.2 (by decide)),Abs.tells (rs:=[0]) ⟨by decide,⟨r9,t9,r9,r9,trivial⟩,⟨⟨DL rfl hK,?_⟩,trivial⟩⟩⟩
        show _=some (AObj.map (BV _ es) N);rw [DI rfl hK];rfl)
   ·conv=>whnf
    repeat' (first|refine v1 ?_ ?_|(intro _;first|omega|conv=>whnf))
    exact ff (fun q=>hJ (if a'≤a then (a-a').toNat else 0) (by split <;> omega) ⟨by rw [GS];split <;> omega,rfl⟩) _
 ·replace ft:=fun q=>ft ⟨by simp,q⟩
  replace ff:=fun (q:¬(a<a'+(n':Int)∧a'<a+(n:Int)))=>ff fun q'=>q q'.2
  clear hof1 hof2 hs1 hs2
  refine KC hE (β:=List (AV×AV×Nat)×Nat) n (fun i b=>[(10,u'),(15,.map 0),(16,.int .i64 2),(58,u),(59,.int .i64 (n:Int)),(60,.int .i64 (i:Int))]) (fun i b=>[.map b.1 b.2]) (fun i b=>KM (.int .i64 2) b.1 (F4 a i)) ([],0) (KM.nil _) (Abs.tells (rs:=[5]) .a) ?_
  rintro i ⟨es,N⟩ hi hK
  dsimp only at hK ⊢
  by_cases hlt:i<n
  ·obtain ⟨x,_,r,h1,⟨rfl,-⟩,h3⟩:=e1 i hlt
   rw [Zq8,List.getElem?_range hlt] at h1
   cases h1
   replace h3:cs.drop (i*1)=[.int .i64 (a+(i:Int))]++r:=h3
   conv=>whnf
   repeat' (first|(refine IG rfl rfl rfl rfl hK (fun es' N' hK'=>?_);conv=>whnf)|((first|refine Am k1 hlt h3 ?_|refine Ap ?_|refine v7 ?_|refine ⟨rfl,?_⟩);conv=>whnf)|refine v1 ?_ ?_|(intro _;first|omega|conv=>whnf))
   refine ⟨hlt,(es',N'),hK',Abs.tells (rs:=[0]) ⟨by decide,⟨t9,r9,r9,t9,r9,r9,trivial⟩,⟨⟨DL rfl hK',?_⟩,trivial⟩⟩⟩
   show _=some (AObj.map (BV _ es') N');rw [DI rfl hK'];rfl
  ·obtain rfl:i=n:=by omega
   conv=>whnf
   repeat' (first|(refine Ai k2 ?_;conv=>whnf)|refine v1 ?_ ?_|(intro _;first|omega|conv=>whnf))
   refine Ax hE n' (fun j=>[(15,.map 0),(68,u'),(69,.int .i64 (n':Int)),(70,.int .i64 (j:Int))]) (fun j=>[.map es N]) (fun j=>∀ k<j,¬(a'+(k:Int) ∈ F4 a i∧(2:Int)=2)) (fun k h=>by omega) (Abs.tells (rs:=[0]) ⟨by decide,⟨r9,t9,r9,r9,trivial⟩,⟨⟨DL rfl hK,?_⟩,trivial⟩⟩) ?_
   ·show _=some (AObj.map (BV _ es) N);rw [DI rfl hK];rfl
   intro j hj hJ
   by_cases hjl:j<n'
   ·obtain ⟨x,_,r,h1,⟨rfl,-⟩,h3⟩:=e2 j hjl
    rw [Zq8,List.getElem?_range hjl] at h1
    cases h1
    replace h3:cs'.drop (j*1)=[.int .i64 (a'+(j:Int))]++r:=h3
    conv=>whnf
    repeat' (first|(refine IH rfl rfl rfl hK (fun hin=>?_) (fun hin=>?_) <;> conv=>whnf)|((first|refine Am k2 hjl h3 ?_|refine Ap ?_|refine v7 ?_|refine ⟨rfl,?_⟩);conv=>whnf)|refine v1 ?_ ?_|refine v3 ?_ ?_|(intro _;first|omega|conv=>whnf))
    all_goals first
     | exact ft (by rw [GS] at hin;omega) _
     | (refine ⟨hjl,AR hJ (fun q=>by first|exact hin q.1|exact absurd q.2 (by decide)),Abs.tells (rs:=[0]) ⟨by decide,⟨r9,t9,r9,r9,trivial⟩,⟨⟨DL rfl hK,?_⟩,trivial⟩⟩⟩
        show _=some (AObj.map (BV _ es) N);rw [DI rfl hK];rfl)
   ·conv=>whnf
    repeat' (first|refine v1 ?_ ?_|(intro _;first|omega|conv=>whnf))
    exact ff (fun q=>hJ (if a'≤a then (a-a').toNat else 0) (by split <;> omega) ⟨by rw [GS];split <;> omega,rfl⟩) _
end Go.AM
