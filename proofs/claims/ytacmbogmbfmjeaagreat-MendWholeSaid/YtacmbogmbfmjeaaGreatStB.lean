/- Contracts of functions over the abstract machine. No conditions. -/
import Derived.Test.YtacmbogmbfmjeaaGreatStA
import Derived.Test.YtacmbogmbfmjeaaGreatAM5
set_option linter.unusedVariables false
set_option linter.unusedSimpArgs false
set_option maxRecDepth 100000
namespace Go.AM
attribute [local irreducible] W
open X
def KR:AC:=match Q6 with|.mk c _=>c
def Hr:AC:=match Qx with|.mk c _=>c
def XU:AC:=match Q8 with|.mk c _=>c
def X1:AC:=match N0 with|.mk c _=>c
def SG:AC:=match Q7 with|.mk c _=>c
def MC:AC:=match a49 with|.mk c _=>c
def GX (b:List Nat):Option Nat:=if b.length=0 then some 128 else none
variable {u:AV}{s:St}{K:AV->St->Prop}
theorem K1 {e:Env}(h98:Inl e 102 KR [.tmp 2]) (h141:Inl e 119 Hr [.tmp 2]) {b:List Nat}(hb:BAt u b) (hl:b.length=0∨b.length=128) (hs:s.next<1000000)
 (k0:b.length=0->K (.sl s.next 0 128 (some 128)) (s.alloc (.row 5 (Ad (Ah b)))))
 (k1:b.length=128->K (.sl (s.alloc (.row 5 [])).next 0 128 none) ((s.alloc (.row 5 [])).alloc (.row 5 (Ad (Ah b))))):ESc e 102 [u] s K:=by
 refine ESc.inl h98 ?_;conv=>whnf
 refine AD rfl hb.1 ?_;conv=>whnf
 rcases hl with h0|h1
 ·have hb0:b=[]:=Zqh.1 h0
  subst hb0
  repeat' (first|(refine LV (n:=127) rfl rfl (by decide) ?_;conv=>whnf)|refine Ap ?_ ?_|(intro _;first|omega|conv=>whnf))
  exact k0 rfl
 ·have hp:Ah b=b:=Zme h1
  rw [hp] at k1
  obtain ⟨c,rfl⟩:∃ c,u=.fz b.length c (Ad b):=by
   rcases hb.1 with ⟨_,h,_⟩|⟨_,h,_⟩|⟨c,h,_⟩
   ·omega
   ·omega
   ·exact ⟨c,h⟩
  have hne:∃ x l,Ad b=x::l:=by
   cases b with
   | nil=>simp at h1
   | cons y l=>exact ⟨_,_,rfl⟩
  obtain ⟨x,l,hxl⟩:=hne
  have hbl:=B2 b
  repeat' (first|((first|refine ESc.inl h141 ?_|refine Hv rfl rfl (.inr ⟨_,_,_,rfl⟩) ?_);conv=>whnf)|refine Ap ?_ ?_|(intro _;first|omega|conv=>whnf))
  refine EPrim.app1 (c:=x) (cs:=l) (m:=128) rfl rfl ?_ (Ux _ _ (by omega)) ?_ (by omega) (by omega) ?_
  ·show Bo (b.length*1) (Ad b)=_
   rw [Fz (by omega),Zps (by omega),hxl]
  ·show (x::l).length / 1=_
   rw [← hxl];omega
  rw [← hxl]
  conv=>whnf
  exact k1 h1
def Cl (at_:Int):List WR->Option (List Nat)
 | []=>none
 | w::l=>if w.at_=at_ then some w.b else Cl at_ l
def FK (ws:List WR) (at_:Int) (b:List Nat):List Nat:=(Cl at_ ws.reverse).getD b
def YG:AC:=match F8 MC with|some (a,_)=>a|none=>.skip
def Yc:AC:=match F8 MC with|some (_,b)=>b|none=>.skip
def Sr:AC:=match MC with
 | .seq _ (.seq _ (.seq _ r))=>r
 | _=>.skip
def tlD (cp:Option Nat):List (Nat×AV):=[(3,.ptr 0 0),(4,.ptr 1 0),(5,.ptr 2 0),(6,.sl 3 0 128 cp),(21,.fn 146 [] [.ptr 4 0])]
def osD (at_:Int) (b:List Nat) (wv:AV):List AObj:=[.row 3 [.int .i64 at_],.row 76 [.nils],.row 38 [.int .i64 0],.row 5 (Ad (Ah b)),.row 58 [wv]]
noncomputable def YW (at_:Int) (b:List Nat) (wv:AV) (cp:Option Nat):List AObj:=[.row 3 [.int .i64 at_],.row 76 [.nils],.row 38 [.int .i64 0],.row 5 (Ad (Ah b)),.row 58 [wv],.defd,.loop .ready none 0 (A6 (tlD cp)) [22,23] YG Yc 5]
theorem Zgl {e:Env}(hE:EM P e) (h97:Inl e 101 SG [.tmp 2]) (h98:Inl e 102 KR [.tmp 2]) (h141:Inl e 119 Hr [.tmp 2])
 (x:DK) (hx:x.ok) (at_:Int) (hat:Ab at_) (hn:x.ws.length≤1024) (hwl:∀ w ∈ x.ws,w.b.length=0∨w.b.length=128) (b0:List Nat) (K:AV->St->Prop)
 (hk:∀ s r,s.get r=some (.row 5 (Ad (Ah (FK x.ws at_ b0))))->K (.tup [.sl r 0 128 (GX (FK x.ws at_ b0)),.int .i64 0]) s):
 W P 0 none Sr (A6 [(2,.ptr 0 0),(3,.ptr 1 0),(4,.ptr 2 0),(5,.ptr 3 0),(6,.sl 4 0 128 (GX b0))]) (Aj St0 [.row 60 x.c,.row 3 [.int .i64 at_],.row 76 [.nils],.row 38 [.int .i64 0],.row 5 (Ad (Ah b0))]) [] (BS [.cell 4,.cell 5] K):=by
 obtain ⟨⟨hbl,hbs,hws,hwa⟩,hun,hwn,hbb,hww⟩:=hx
 obtain ⟨bv,us,bs,wv,ws,dd⟩:=x
 dsimp only at hbl hbs hws hwa hun hwn hbb hww hn hwl hk
 obtain ⟨cp,hcp⟩:∃ cp,cp=GX b0:=⟨_,rfl⟩
 rw [← hcp]
 show W P 0 none Sr (A6 [(2,.ptr 0 0),(3,.ptr 1 0),(4,.ptr 2 0),(5,.ptr 3 0),(6,.sl 4 0 128 cp)]) (Aj St0 [.row 60 [bv,wv,.bool dd],.row 3 [.int .i64 at_],.row 76 [.nils],.row 38 [.int .i64 0],.row 5 (Ad (Ah b0))]) [] (BS [.cell 4,.cell 5] K)
 refine Hz hE ?_;conv=>whnf
 refine ESc.inl h97 ?_;conv=>whnf
 refine DA (by show Nat.beq (A7 (cellsOf wv)) 1=true;rw [hws.cells];rfl) ?_
 rw [hws.cells]
 conv=>whnf
 have hwf:hfs [wv]=true:=by show (AM.hf wv && true)=true;rw [hws.hf];rfl
 have hpf:∀ b,hfs (Ad b)=true:=fun b=>BH b
 refine W.tells (Abs.tells (tl:=tlD cp) (os:=osD at_ b0 wv) (rs:=[1,2,3,4,5])
  ⟨by decide,⟨r9,r9,r9,r9,r9,trivial⟩,⟨r9,r9,r9,o9 (hpf _),o9,trivial⟩⟩) ?_
 refine Pl (f:=146) (first:=[]) (cap:=[.ptr 4 0]) g146.b rfl ?_ ?_
 ·intro q hq
  have hq:q<5:=hq
  rcases q with _|_|_|_|_|q
  ·exact .tmp 3 (.ptr 0 0) rfl rfl
  ·exact .tmp 4 (.ptr 1 0) rfl rfl
  ·exact .tmp 5 (.ptr 2 0) rfl rfl
  ·exact .tmp 6 (.sl 3 0 128 cp) rfl rfl
  ·exact .tmp 21 (.fn 146 [] [.ptr 4 0]) rfl rfl
  ·omega
 show C1 P 146 [.yld 6,.ptr 4 0] (Aj St0 (YW at_ b0 wv cp)) (fun _ s'=>KX 6 [5] (A6 (tlD cp)) s' _)
 refine C1.of_G hE g146 ?_;conv=>whnf
 refine Am hws ?_;conv=>whnf
 repeat' (first|(refine AL ?_;conv=>whnf)|fail)
 have hlb:Dw 7 7 (.loop .ready none 0 (A6 (tlD cp)) [22,23] YG Yc 5)=true:=rfl
 refine DZ (k:=7) (α:=Nat) (fun i=>[(0,.yld 6),(1,.ptr 4 0),(3,.int .i64 ((i:Int)-1))]) (fun i=>YW at_ b0 wv cp) (fun i=>i) (fun i=>i≤ws.length∧Cl at_ ws.reverse=Cl at_ (ws.take i).reverse) ws.length ⟨Zp4 _,by rw [List.take_length]⟩
  (AbsK.tells (rs:=[0,1,2,3,4,5,6]) ⟨rfl,by decide,⟨r9,r9,r9,trivial⟩,⟨r9,r9,r9,o9 (hpf _),o9,r9,⟨hlb,rfl⟩,trivial⟩⟩) ?_
 rintro j ⟨hj,hh⟩
 refine Ca hE ?_;conv=>whnf
 refine DV rfl rfl (fun h=>?_) (fun h=>?_) <;> conv=>whnf
 ·obtain ⟨i,rfl⟩:∃ i,j=i+1:=⟨j-1,by omega⟩
  have hlt:i<ws.length:=by omega
  rw [show ((i+1:Nat):Int)-1=(i:Int) by omega]
  have hd:=GY hlt
  have hwm:=Zqk hlt
  have hwa':=hwa _ hwm
  have hwl':=hwl _ hwm
  have hst:Cl at_ ws.reverse=if ws[i].at_=at_ then some ws[i].b else Cl at_ (ws.take i).reverse:=by
   rw [hh,Zpw hlt,List.reverse_append];rfl
  have hall:=And.intro hd (And.intro hwa' (And.intro hwl' hst))
  clear hd hwa' hwl' hst hwm
  revert hall
  generalize ws[i]=w
  obtain ⟨wa,wu,wb⟩:=w
  rintro ⟨hd,⟨hwa1,hwb⟩,hwl',hst⟩
  have hd:(Ag ws).drop (i*2)=[.int .i64 wa,wu]++Ag (ws.drop (i+1)):=hd
  dsimp only at hwa1 hwb hwl' hst
  refine Cz rfl hws rfl hlt ?_
  rw [hd]
  conv=>whnf
  have hcell:∀ (K:List AV->Prop),K [.int .i64 wa,wu]->ETake 2 ([.int .i64 wa,wu]++Ag (ws.drop (i+1))) K:=fun K hk=>A8 rfl hk
  refine hcell _ ?_;conv=>whnf
  refine ERound.mk ?_
  have hrun:∀ b cp',FK ws at_ b0=b->cp'=GX b->∀ s r,s.get r=some (.row 5 (Ad (Ah b)))->K (.tup [.sl r 0 128 cp',.int .i64 0]) s:=fun b cp' h1 h2 s r h=>by
   subst h1 h2;exact hk s r h
  conv=>whnf
  refine Il (a:=wa) (b:=at_) rfl rfl (fun he=>?_) (fun he=>?_)
  ·rw [Zpn he] at hst
   have hL:FK ws at_ b0=wb:=by unfold FK;rw [hst];rfl
   conv=>whnf
   refine K1 h98 h141 hwb hwl' (by show 8<1000000;decide) (fun h0=>?_) (fun h1=>?_)
   ·conv=>whnf
    repeat' (first|(refine Av ?_;conv=>whnf)|fail)
    refine hrun wb (some 128) hL (by unfold GX;rw [Zpn h0]) _ _ ?_
    rfl
   ·conv=>whnf
    repeat' (first|(refine Av ?_;conv=>whnf)|fail)
    refine hrun wb none hL (by unfold GX;rw [Zpr (by omega)]) _ _ ?_
    rfl
  ·rw [Zpr he] at hst
   conv=>whnf
   repeat' (first|((first|refine AL ?_|refine Au ?_|refine ⟨rfl,?_⟩);conv=>whnf)|fail)
   refine ⟨i,⟨by omega,hst⟩,by omega,AbsK.tells (rs:=[0,1,2,3,4,5,6]) ⟨rfl,by decide,⟨r9,r9,r9,trivial⟩,⟨r9,r9,r9,o9 (hpf _),o9,r9,⟨hlb,rfl⟩,trivial⟩⟩⟩
 ·have:j=0:=by omega
  subst this
  have hL:FK ws at_ b0=b0:=by unfold FK;rw [hh];rfl
  conv=>whnf
  rw [hL,← hcp] at hk
  exact hk _ _ rfl
variable {n m:Nat}{v:AV}
theorem N4 {l l':List AV}(h:Sl 2 m l' v) (h':Sl 1 n l u) {d:Bool}:hfs [u,v,.bool d]=true:=by
 show (AM.hf u && (AM.hf v && (true && true)))=true
 rw [h.hf,h'.hf];rfl
def JT (x:DK) (at_:Int):Int:=if AX x=true then (if 0≤at_∧at_<x.us.length then (if x.dead then 40 else 0) else 2) else 8
def DJ (x:DK) (at_:Int):List Nat:=FK x.ws at_ (x.bs.getD at_.toNat [])
theorem Iy (h:Ba n=false):n=0∨n=128:=by
 unfold Ba at h
 simp at h
 omega
theorem Mz {x:DK}(hx:x.any) (h:AX x=true):x.ws.length≤1024∧(∀ b ∈ x.bs,b.length=0∨b.length=128)∧(∀ w ∈ x.ws,w.b.length=0∨w.b.length=128)∧x.us.length=x.bs.length∧x.us.length≤256:=by
 unfold AX at h
 simp only [Zpl,Bool.not_eq_true'] at h
 obtain ⟨⟨⟨h1,h2⟩,h3⟩,h4⟩:=h
 have h1:=Zq0 h1
 rw [List.any_eq_false] at h2 h3
 refine ⟨h1.2.2,fun b hb=>Iy (by simpa using h2 b.length (List.mem_map_of_mem hb)),fun w hw=>?_,hx.bs.length,h1.2.1⟩
 have:=h3 w hw
 unfold Bt at this
 simp only [Zq8,not_or] at this
 exact Iy (by simpa using this.2)
theorem Zgm {e:Env}(hE:EM P e) (h101:Con e 44 dskF.O) (h96:Inl e 100 XU [.tmp 4,.tmp 5]) (h139:Inl e 145 X1 [.tmp 4]) (h97:Inl e 101 SG [.tmp 2]) (h98:Inl e 102 KR [.tmp 2]) (h141:Inl e 119 Hr [.tmp 2])
 (x:DK) (hx:x.ok) (at_:Int) (hat:Ab at_) (K:AV->St->Prop)
 (h0:JT x at_=0->∀ s r,s.get r=some (.row 5 (Ad (Ah (DJ x at_))))->K (.tup [.sl r 0 128 (GX (DJ x at_)),.int .i64 0]) s)
 (h1:JT x at_≠0->∀ s,K (.tup [.nils,.int .i64 (JT x at_)]) s):
 W P 0 none MC (An [x.v,.int .i64 at_] 0 .lf) St0 [] (BS [.cell 4,.cell 5] K):=by
 have hlt:AX x=true->0≤at_∧at_<x.us.length->∃ b u,x.us[at_.toNat]?=some u∧BAt u b∧x.bs.getD at_.toNat []=b∧(b.length=0∨b.length=128):=fun hd ⟨ha,hl⟩=>by
  have hn:at_.toNat<x.us.length:=by omega
  obtain ⟨b,hbb,hbu⟩:=hx.a.bs.get (Zpj hn)
  refine ⟨b,x.us[at_.toNat],Zpj hn,hbu,by rw [Zqc,hbb];rfl,(Mz hx.a hd).2.1 b (Zp5 hbb)⟩
 have hres:=fun (hd:AX x=true) b0 K=>Zgl hE h97 h98 h141 x hx at_ hat (Mz hx.a hd).1 (Mz hx.a hd).2.2.1 b0 K
 have hdk:=fun (u:AV) (h:dskF.out x=u)=>And.intro hx h
 unfold JT at h0 h1
 unfold DJ at h0
 obtain ⟨D,hD⟩:∃ D,D=AX x:=⟨_,rfl⟩
 rw [← hD] at h0 h1 hlt hres
 have hDo:dskF.out x=.int .i64 (if D=true then 0 else 8):=by rw [hD];rfl
 have hul:x.us.length<1000000:=hx.n
 have hbl:=hx.a.bl
 have hwv:=hx.a.wl
 obtain ⟨bv,us,bs,wv,ws,dd⟩:=x
 dsimp only at hlt hul h0 h1 hbl hwv
 unfold Ab at hat
 show W P 0 none MC (An [.agg [bv,wv,.bool dd],.int .i64 at_] 0 .lf) St0 [] (BS [.cell 4,.cell 5] K)
 refine Bz hE ?_;conv=>whnf
 refine Bz hE ?_;conv=>whnf
 refine ESc.inl h96 ?_;conv=>whnf
 refine ESc.inl h139 ?_;conv=>whnf
 cases D
 ·refine ESc.fam dskF h101 ⟨bv,us,bs,wv,ws,dd⟩ hx (u:=.int .i64 8) hDo ?_;conv=>whnf
  repeat' (first|refine Al ?_ ?_|(intro _;first|omega|conv=>whnf))
  refine Bz hE ?_;conv=>whnf
  repeat' (first|refine Al ?_ ?_|(intro _;first|omega|conv=>whnf))
  refine Jp ?_;conv=>whnf
  exact h1 (by simp) _
 ·refine ESc.fam dskF h101 ⟨bv,us,bs,wv,ws,dd⟩ hx (u:=.int .i64 0) hDo ?_;conv=>whnf
  have hp:∀ K:AV->Prop,(at_<0∨(us.length:Int)≤at_->K (.int .i64 2))->(0≤at_∧at_<us.length->K (.int .i64 0))->True:=fun _ _ _=>trivial
  by_cases hr:0≤at_∧at_<(us.length:Int)
  ·obtain ⟨b,u,hg,hbu,hbd,hbl'⟩:=hlt rfl hr
   rw [hbd] at h0
   have h0:=fun hdd=>h0 (by rw [Zpn rfl,Zpn hr];exact hdd)
   rw [Zpn rfl,Zpn hr] at h1
   obtain ⟨n,rfl⟩:∃ n:Nat,at_=(n:Int):=⟨at_.toNat,by omega⟩
   have hlt':n<us.length:=by omega
   rw [show (n:Int).toNat=n by omega] at hg
   have hg':us[n]=u:=by rw [Zpj hlt'] at hg;exact Zqr hg
   clear hg hbd hlt
   repeat' (first|(refine Am hbl ?_;conv=>whnf)|refine Aa ?_ ?_|refine AR ?_ ?_|refine Al ?_ ?_|(refine w19 rfl ?_ ?_ <;> intro hc <;> (try subst hc) <;> conv=>whnf)|(intro _;first|omega|conv=>whnf))
   all_goals first|(exfalso;omega)|skip
   ·refine Bz hE ?_;conv=>whnf
    repeat' (first|refine Al ?_ ?_|(intro _;first|omega|conv=>whnf))
    refine Jp ?_;conv=>whnf
    exact h1 (by simp) _
   ·refine Cz rfl hbl rfl hlt' ?_;conv=>whnf
    refine EHead.mk (v:=u) (by rw [Zqm,Zpu,Zqs,Zpj hlt',hg']) ?_;conv=>whnf
    have hcf:hfs [bv,wv,.bool false]=true:=N4 hwv hbl
    have hend:=fun cp' (hcp:cp'=GX b)=>(hcp ▸ hres rfl b K (fun s r h=>h0 rfl s r h):W P 0 none Sr (A6 [(2,.ptr 0 0),(3,.ptr 1 0),(4,.ptr 2 0),(5,.ptr 3 0),(6,.sl 4 0 128 cp')]) (Aj St0 [.row 60 [bv,wv,.bool false],.row 3 [.int .i64 (n:Int)],.row 76 [.nils],.row 38 [.int .i64 0],.row 5 (Ad (Ah b))]) [] (BS [.cell 4,.cell 5] K))
    refine K1 h98 h141 hbu hbl' (by show 6<1000000;decide) (fun h0=>?_) (fun h1=>?_)
    ·conv=>whnf
     refine Bz hE ?_;conv=>whnf
     repeat' (first|refine Al ?_ ?_|(intro _;first|omega|conv=>whnf))
     refine W.tells (Abs.tells (rs:=[0,1,2,3,6]) ?_) (hend (some 128) (by unfold GX;rw [Zpn h0]))
     exact ⟨by decide,⟨r9,r9,r9,r9,r9,trivial⟩,⟨o9,r9,r9,r9,o9 (BH _),trivial⟩⟩
    ·conv=>whnf
     refine Bz hE ?_;conv=>whnf
     repeat' (first|refine Al ?_ ?_|(intro _;first|omega|conv=>whnf))
     refine W.tells (Abs.tells (rs:=[0,1,2,3,7]) ?_) (hend none (by unfold GX;rw [Zpr (by omega)]))
     exact ⟨by decide,⟨r9,r9,r9,r9,r9,trivial⟩,⟨o9,r9,r9,r9,o9 (BH _),trivial⟩⟩
  ·repeat' (first|(refine Am hbl ?_;conv=>whnf)|refine Aa ?_ ?_|refine AR ?_ ?_|refine Al ?_ ?_|(intro _;first|omega|conv=>whnf))
   all_goals first|(exfalso;omega)|skip
   all_goals
    refine Bz hE ?_;conv=>whnf
    repeat' (first|refine Al ?_ ?_|(intro _;first|omega|conv=>whnf))
    refine Jp ?_;conv=>whnf
    have h1:=h1 (by rw [Zpn rfl,Zpr hr];decide)
    rw [Zpn rfl,Zpr hr] at h1
    exact h1 _
structure DKA where
 d:DK
 a:Int
structure DKA.ok (x:DKA):Prop where
 d:x.d.ok
 a:Ab x.a
def DKA.args (x:DKA):List AV:=[x.d.v,.int .i64 x.a]
theorem DKA.inja {x y:DKA}(hx:x.ok) (hy:y.ok) (h:x.args=y.args):x=y:=by
 obtain ⟨d,a⟩:=x
 obtain ⟨d',a'⟩:=y
 have h1:=DK.inj hx.d.a hy.d.a (Zpv h).1
 have h2:=(Zpv (Zpv h).2).1
 injection h2 with _ h2
 dsimp only at h1 h2
 rw [h1,h2]
theorem DKA.hfa {x:DKA}(hx:x.ok):hfs x.args=true:=by
 show (AM.hf x.d.v && (true && true))=true
 rw [DK.hf hx.d.a];rfl
def DKA.e (x:DKA):Int:=JT x.d x.a
def DKA.b (x:DKA):List Nat:=DJ x.d x.a
theorem Li:∀ {l:List AV},hfs l=true->All2 (Frz s) l l
 | [],_=>.nil
 | v::l,h=>by
  simp only [hfs,Zpl] at h
  exact .cons (.plain _ h.1) (Li h.2)
def Hw (x:DKA):AV:=if x.e=0 then .tup [.fz 128 none (Ad (Ah x.b)),.int .i64 0] else .tup [.nils,.int .i64 x.e]
def drdF:Fam DKA:=⟨DKA.ok,DKA.args,Hw,fun x y hx hy h=>by rw [DKA.inja hx hy h]⟩
theorem Zj9 {e:Env}(hE:EM P e) (h101:Con e 44 dskF.O) (h96:Inl e 100 XU [.tmp 4,.tmp 5]) (h139:Inl e 145 X1 [.tmp 4]) (h97:Inl e 101 SG [.tmp 2]) (h98:Inl e 102 KR [.tmp 2]) (h141:Inl e 119 Hr [.tmp 2])
 : OvOk P 49 drdF.O:=by
 refine C7 g49.b fun x hx=>?_
 have h0:x.e=0->drdF.out x=.tup [.fz 128 none (Ad (Ah x.b)),.int .i64 0]:=fun h=>by show Hw x=_;unfold Hw;rw [Zpn h]
 have h1:x.e≠0->drdF.out x=.tup [.nils,.int .i64 x.e]:=fun h=>by show Hw x=_;unfold Hw;rw [Zpr h]
 refine ⟨DKA.hfa hx,by show AM.hf (Hw x)=true;unfold Hw;split <;> rfl,C.of_W g49.f g49.c (Zgm hE h101 h96 h139 h97 h98 h141 x.d hx.d x.a hx.a _ (fun h s r hg=>?_) (fun h s=>?_))⟩
 ·rw [h0 h]
  exact .tup _ _ (.cons (.sl r 0 128 _ _ _ _ _ _ hg (fun i x h=>by rw [Zpy];exact h) (Li (BH _)) (.inl rfl)) (.cons (.plain _ rfl) .nil))
 ·rw [h1 h];exact .plain _ rfl
structure CDA where
 c:Cfg
 d:DK
 a:Int
structure CDA.ok (x:CDA):Prop where
 c:x.c.ok
 d:x.d.ok
 a:Ab x.a
def CDA.args (x:CDA):List AV:=[x.c.v,x.d.v,.int .i64 x.a]
def askE (x:CDA):Int:=if x.c.may then (if AX x.d=true∧(x.d.us.length:Int)=x.c.log+1 then (if 0≤x.a∧x.a<x.c.log then (if x.d.dead then 40 else 0) else 2) else 8) else 8
def IS (x:DK) (a:Int):Int:=if AX x=true then (if 0≤a∧a<x.us.length then 0 else 2) else 8
def plcF:Fam DKA:=⟨DKA.ok,DKA.args,fun x=>.int .i64 (IS x.d x.a),fun x y hx hy h=>by rw [DKA.inja hx hy h]⟩
theorem Zh7 {e:Env}(hE:EM P e) (h101:Con e 44 dskF.O):OvOk P 145 plcF.O:=by
 refine C7 g145.b fun x hx=>?_
 refine ⟨DKA.hfa hx,rfl,C.of_G hE g145 ?_⟩
 have fin:∀ s (n:Int),n=IS x.d x.a->Frz s (.int .i64 n) (plcF.out x):=by rintro s n rfl;exact .plain _ rfl
 obtain ⟨O,hO⟩:∃ O,O=plcF.out x:=⟨_,rfl⟩
 rw [← hO] at fin ⊢
 clear hO
 have hbl:=hx.d.a.bl
 have hun:=hx.d.n
 have ha:=hx.a
 have hd:=hx.d
 obtain ⟨d,a⟩:=x
 dsimp only at hbl hun ha hd fin
 unfold IS at fin
 obtain ⟨D,hD⟩:∃ D,D=AX d:=⟨_,rfl⟩
 have hDo:dskF.out d=.int .i64 (if D=true then 0 else 8):=by rw [hD];rfl
 rw [← hD] at fin
 unfold Ab at ha
 obtain ⟨bv,us,bs,wv,ws,dd⟩:=d
 dsimp only at hbl hun fin
 show VW P e 0 (match N0 with|.mk c _=>c) (An [.agg [bv,wv,.bool dd],.int .i64 a] 0 .lf) St0 none [] _
 conv=>whnf
 cases D
 ·refine ESc.fam dskF h101 ⟨bv,us,bs,wv,ws,dd⟩ hd (u:=.int .i64 8) hDo ?_;conv=>whnf
  repeat' (first|refine Al ?_ ?_|(intro _;first|omega|conv=>whnf))
  exact fin _ 8 (by simp)
 ·refine ESc.fam dskF h101 ⟨bv,us,bs,wv,ws,dd⟩ hd (u:=.int .i64 0) hDo ?_;conv=>whnf
  simp only [eq_self,if_true] at fin
  repeat' (first|(refine Am hbl ?_;conv=>whnf)|refine Aa ?_ ?_|refine AR ?_ ?_|refine Al ?_ ?_|(intro _;first|omega|conv=>whnf))
  ·exact fin _ 2 (by rw [Zpr (by omega)])
  ·exact fin _ 2 (by rw [Zpr (by omega)])
  ·exact fin _ 0 (by rw [Zpn (by omega)])
structure DKW where
 d:DK
 a:Int
 u:AV
 b:List Nat
structure DKW.ok (x:DKW):Prop where
 d:x.d.ok
 a:Ab x.a
 b:BAt x.u x.b
 n:x.b.length<1000000
def DKW.args (x:DKW):List AV:=[x.d.v,.int .i64 x.a,x.u]
theorem DKW.inja {x y:DKW}(hx:x.ok) (hy:y.ok) (h:x.args=y.args):x=y:=by
 obtain ⟨d,a,u,b⟩:=x
 obtain ⟨d',a',u',b'⟩:=y
 have h1:=DK.inj hx.d.a hy.d.a (Zpv h).1
 have h2:=(Zpv (Zpv h).2).1
 have h3:=(Zpv (Zpv (Zpv h).2).2).1
 injection h2 with _ h2
 dsimp only at h1 h2 h3
 subst h1 h2 h3
 have:=hx.b.inj hy.b
 dsimp only at this
 rw [this]
theorem DKW.hfa {x:DKW}(hx:x.ok):hfs x.args=true:=by
 show (AM.hf x.d.v && (true && (AM.hf x.u && true)))=true
 rw [DK.hf hx.d.a,hx.b.1.hf];rfl
def BP (x:DK) (a:Int) (b:List Nat):Int:=if IS x a=0 then (if Ba b.length=true then 3 else if x.dead=true then 40 else 0) else IS x a
def wrtF:Fam DKW:=⟨DKW.ok,DKW.args,fun x=>.int .i64 (BP x.d x.a x.b),fun x y hx hy h=>by rw [DKW.inja hx hy h]⟩
theorem Rx {e:Env}(hE:EM P e) (h139:Con e 145 plcF.O) (h143:Con e 92 oddF.O):OvOk P 113 wrtF.O:=by
 refine C7 g113.b fun x hx=>?_
 refine ⟨DKW.hfa hx,rfl,C.of_G hE g113 ?_⟩
 have fin:∀ s (n:Int),n=BP x.d x.a x.b->Frz s (.int .i64 n) (wrtF.out x):=by rintro s n rfl;exact .plain _ rfl
 obtain ⟨O,hO⟩:∃ O,O=wrtF.out x:=⟨_,rfl⟩
 rw [← hO] at fin ⊢
 clear hO
 obtain ⟨d,a,u,b⟩:=x
 obtain ⟨hd,ha,hbt,hbn⟩:=hx
 dsimp only at hd ha hbt hbn fin
 unfold BP at fin
 obtain ⟨pe,hpe⟩:∃ pe,pe=IS d a:=⟨_,rfl⟩
 have hpo:plcF.out ⟨d,a⟩=.int .i64 pe:=by rw [hpe];rfl
 rw [← hpe] at fin
 obtain ⟨bv,us,bs,wv,ws,dd⟩:=d
 dsimp only at fin
 show VW P e 0 (match Q0 with|.mk c _=>c) (An [.agg [bv,wv,.bool dd],.int .i64 a,u] 0 .lf) St0 none [] _
 conv=>whnf
 refine ESc.fam plcF h139 ⟨⟨bv,us,bs,wv,ws,dd⟩,a⟩ ⟨hd,ha⟩ (u:=.int .i64 pe) hpo ?_;conv=>whnf
 refine Kq (a:=pe) (b:=0) rfl rfl (fun e1=>?_) (fun e1=>?_)
 ·conv=>whnf
  skip
  exact fin _ pe (by rw [Zpr e1])
 ·rw [Zpn e1] at fin
  conv=>whnf
  refine ESc.fam oddF h143 ⟨u,b.length⟩ ⟨⟨_,hbt.1⟩,by dsimp only;omega⟩ (u:=.bool (Ba b.length)) rfl ?_
  cases ho:Ba b.length
  ·rw [ho] at fin
   simp only [Bool.false_eq_true,if_false] at fin
   cases dd
   ·conv=>whnf
    skip
    exact fin _ 0 (by simp)
   ·conv=>whnf
    skip
    exact fin _ 40 (by simp)
  ·conv=>whnf
   skip
   exact fin _ 3 (by rw [Zpn ho])
def Af:AV->AV
 | .es=>.fz 0 none []
 | .fz n _ l=>.fz n none l
 | v=>v
theorem RM (l:List AV) (h:∀ u ∈ l,AM.hf (Af u)=true):hfs (l.map Af)=true:=hfs_iff.2 fun v hv=>by
 obtain ⟨u,hu,rfl⟩:=Zqj.1 hv;exact h u hu
def osW (D:List AV) (dd:Bool) (L:List AV):Nat->List AObj
 | 0=>[.row 60 D,.row 60 [.nils,.nils,.bool false],.row 60 [.nils,.nils,.bool dd]]
 | i+1=>[.row 60 D,.row 60 [.nils,.nils,.bool false],.row 60 [.sl 3 0 (i+1) none,.nils,.bool dd],.row 76 L]
def tlW (bv:AV) (n i:Nat):List (Nat×AV):=[(1,.ptr 0 0),(2,.ptr 1 0),(3,.ptr 2 0),(12,bv),(13,.int .i64 (n:Int)),(14,.int .i64 (i:Int))]
variable {t:AT}{D L cs:List AV}{dd:Bool}{i:Nat}{cp:Option Nat}{rs:List Nat}
theorem K4 {bv:AV}(hbv:AM.hf bv=true) (hD:hfs D=true) (hL:hfs L=true) (hcs:hfs cs=true)
 (h:Abs t s (tlW bv m (i+1)) (osW D dd (L++[.sl 4 0 n cp]) (i+1)++[.row 5 cs]) rs):
 Tells P 0 t s [] (A6 (tlW bv m (i+1))) (Aj St0 (osW D dd (L++[.fz n none cs]) (i+1))) []:=by
 refine AbsK.frz (n:=4) h.toK rfl hcs rfl rfl rfl rfl ?_ ?_
 ·show [_,_,_,(12,CT 4 _ bv),_,_]=_
  rw [FZ bv hbv];rfl
 ·show [E3 4 cs (.row 60 D),_,_,AObj.row 76 (CK 4 cs (L++[.sl 4 0 n cp]))]=_
  rw [Hq hD,NJ,Hh L hL]
  rfl
def A5 (w:WR):WR:=⟨w.at_,Af w.u,w.b⟩
theorem Iq (L:List WR) (w:WR):Ag (L++[w].map A5)=Ag L++[.int .i64 w.at_,Af w.u]:=by
 unfold Ag;rw [List.flatMap_append];rfl
variable {y:AV}
theorem Iw {x:AV}(h:hfs L=true):Bq n (L++[x,y])=(bd n x && bd n y):=by
 induction L with
 | nil=>show (bd n x && (bd n y && true))=_;rw [Bool.and_true]
 | cons z L ih=>
  simp only [hfs,Zpl] at h
  show (bd n z && Bq n (L++[x,y]))=_
  rw [Dp z h.1,ih h.2];rfl
theorem Ih {ρ:Nat->Nat}{x:AV}(h:hfs L=true):AF ρ (L++[x,y])=L++[Bg ρ x,Bg ρ y]:=by
 induction L with
 | nil=>rfl
 | cons z L ih=>
  simp only [hfs,Zpl] at h
  show Bg ρ z::AF ρ (L++[x,y])=_
  rw [CZ z h.1,ih h.2];rfl
theorem F1:∀ {L:List WR},(∀ w ∈ L,AM.hf w.u=true)->hfs (Ag L)=true
 | [],_=>rfl
 | w::L,h=>by
  show (true && (AM.hf w.u && hfs (Ag L)))=true
  rw [h w (by simp),F1 fun v hv=>h v (by simp [hv])];rfl
def osV (D:List AV) (dd:Bool) (L:List AV) (k:Nat) (M:List AV):Nat->List AObj
 | 0=>[.row 60 D,.row 60 [.nils,.nils,.bool false],.row 60 [.sl 3 0 k none,.nils,.bool dd],.row 76 L]
 | j+1=>[.row 60 D,.row 60 [.nils,.nils,.bool false],.row 60 [.sl 3 0 k none,.sl 4 0 (j+1) none,.bool dd],.row 76 L,.row 146 M]
def tlV (wv:AV) (n j:Nat):List (Nat×AV):=[(2,.ptr 1 0),(3,.ptr 2 0),(27,wv),(28,.int .i64 (n:Int)),(29,.int .i64 (j:Int))]
variable {a:Int}
theorem K6 {wv:AV}{k:Nat}{M:List AV}(hwv:AM.hf wv=true) (hD:hfs D=true) (hL:hfs L=true) (hM:hfs M=true) (hcs:hfs cs=true)
 (h:Abs t s (tlV wv m (i+1)) (osV D dd L k (M++[.int .i64 a,.sl 5 0 n cp]) (i+1)++[.row 5 cs]) rs):
 Tells P 0 t s [] (A6 (tlV wv m (i+1))) (Aj St0 (osV D dd L k (M++[.int .i64 a,.fz n none cs]) (i+1))) []:=by
 refine AbsK.frz (n:=5) h.toK rfl hcs rfl rfl rfl rfl ?_ ?_
 ·show [_,_,(27,CT 5 _ wv),_,_]=_
  rw [FZ wv hwv];rfl
 ·show [E3 5 cs (.row 60 D),_,_,E3 5 cs (.row 76 L),AObj.row 146 (CK 5 cs (M++[.int .i64 a,.sl 5 0 n cp]))]=_
  rw [Hq hD,Hq hL,NJ,Hh M hM]
  rfl
variable {d:DK}
theorem Zhf {e:Env}(hE:EM P e) (h141:Inl e 119 Hr [.tmp 2]) (hd:d.ok) (h0:1≤d.us.length)
 (hk:∀ s,s.get 3=some (.row 76 (d.us.map Af))->(d.ws.length=0->K (.agg [.sl 3 0 d.us.length none,.nils,.bool d.dead]) s)∧(1≤d.ws.length->s.get 4=some (.row 146 (Ag (d.ws.map A5)))->K (.agg [.sl 3 0 d.us.length none,.sl 4 0 d.ws.length none,.bool d.dead]) s)):
 VW P e 0 (match ND with|.mk c _=>c) (An [d.v] 0 .lf) St0 none [] (Cq [.cells 2 3] K):=by
 have hbl:=hd.a.bl
 have hbs:=hd.a.bs
 have hbb:=hd.b
 have hun:=hd.n
 have hwsl:=hd.a.wl
 have hwsa:=hd.a.ws
 have hwb:=hd.w
 have hwn:=hd.m
 have hdf:hfs d.c=true:=N4 hd.a.wl hd.a.bl
 obtain ⟨bv,us,bs,wv,ws,dd⟩:=d
 dsimp only at hbl hbs hbb hun h0 hk hwsl hwsa hwb hwn
 have hdf:hfs [bv,wv,.bool dd]=true:=hdf
 have hbv:=hbl.hf
 have hcl:∀ i,hfs ((us.take i).map Af)=true:=fun i=>RM _ fun u hu=>by
  obtain ⟨k,hk⟩:=Zrd.1 (Zqq hu)
  obtain ⟨b,_,hb⟩:=hbs.get hk
  rcases hb.1 with ⟨rfl,_⟩|⟨rfl,_⟩|⟨c,rfl,_⟩ <;> rfl
 show VW P e 0 (match ND with|.mk c _=>c) (An [.agg [bv,wv,.bool dd]] 0 .lf) St0 none [] _
 conv=>whnf
 refine Am hbl ?_;conv=>whnf
 refine DZ (α:=Nat) (fun i=>tlW bv us.length i) (fun i=>osW [bv,wv,.bool dd] dd ((us.take i).map Af) i) (fun i=>us.length-i) (fun i=>i≤us.length) 0 (Zp2 _)
  (Abs.tells (rs:=[0,1,2]) ⟨by decide,⟨r9,r9,r9,t9 hbv,r9,r9,trivial⟩,⟨o9 hdf,r9,r9,trivial⟩⟩) ?_
 intro i hi
 refine Ca hE ?_
 by_cases hlt:i<us.length
 ·obtain ⟨b,hb1,hb2⟩:=hbs.get (Zpj hlt)
  have hbn:=hbb b (Zp5 hb1)
  have hug:((us.drop (i*1)))[0]?=some us[i]:=by rw [Zqm,Zpu,Zqs,Zpj hlt]
  have htk:us.take (i+1)=us.take i++[us[i]]:=Zpw hlt
  have hub:=hb2.1
  have hall:=And.intro hug (And.intro htk hub)
  clear hb1 hb2 hug htk hub
  revert hall
  generalize us[i]=u
  rintro ⟨hug,htk,hub⟩
  rcases i with _|i
  ·conv=>whnf
   refine Bl (a:=((0:Nat):Int)) (b:=(us.length:Int)) rfl rfl (fun _=>?_) (fun h=>by omega);conv=>whnf
   refine Cz rfl hbl rfl hlt ?_;conv=>whnf
   refine EHead.mk (v:=u) hug ?_;conv=>whnf
   refine ESc.inl h141 ?_;conv=>whnf
   rcases hub with ⟨rfl,hn0,hbs0⟩|⟨rfl,hn0,hbs0⟩|⟨c,rfl,hbl'⟩
   ·refine OF rfl rfl ?_;conv=>whnf
    repeat' (first|((first|refine CO (m:=1) ?_|refine Ac ?_|refine ⟨rfl,?_⟩);conv=>whnf)|fail)
    refine ⟨0+1,hlt,by omega,?_⟩
    rw [htk,Zp8]
    refine Abs.tells (rs:=[0,1,2,4]) ⟨by decide,⟨r9,r9,r9,t9 hbv,r9,r9,trivial⟩,⟨o9 hdf,r9,r9,⟨by show Bq _ (List.map _ _++[_])=true;rw [I2 (hcl _)];rfl,by show _=some (AObj.row 76 (AF _ (List.map _ _++[_])));rw [Ip (hcl _)];rfl⟩,trivial⟩⟩
   ·refine Hv rfl rfl (.inl rfl) ?_;conv=>whnf
    repeat' (first|((first|refine Fc rfl rfl rfl ?_|refine CO (m:=1) ?_|refine Ac ?_|refine ⟨rfl,?_⟩);conv=>whnf)|fail)
    refine ⟨0+1,hlt,by omega,?_⟩
    rw [htk,Zp8]
    refine K4 (i:=0) (L:=(us.take (0)).map Af) (n:=0) (cs:=[]) (rs:=[0,1,2,5,3]) hbv hdf (hcl _) rfl ⟨by decide,⟨r9,r9,r9,t9 hbv,r9,r9,trivial⟩,⟨o9 hdf,r9,r9,⟨by show Bq _ (List.map _ _++[_])=true;rw [I2 (hcl _)];rfl,by show _=some (AObj.row 76 (AF _ (List.map _ _++[_])));rw [Ip (hcl _)];rfl⟩,o9 rfl,trivial⟩⟩
   ·refine Hv rfl rfl (.inr ⟨_,_,_,rfl⟩) ?_;conv=>whnf
    cases b with
    | nil=>
     repeat' (first|((first|refine Fc rfl rfl rfl ?_|refine CO (m:=1) ?_|refine Ac ?_|refine ⟨rfl,?_⟩);conv=>whnf)|fail)
     refine ⟨0+1,hlt,by omega,?_⟩
     rw [htk,Zp8]
     refine K4 (i:=0) (L:=(us.take (0)).map Af) (n:=0) (cs:=[]) (rs:=[0,1,2,5,3]) hbv hdf (hcl _) rfl ⟨by decide,⟨r9,r9,r9,t9 hbv,r9,r9,trivial⟩,⟨o9 hdf,r9,r9,⟨by show Bq _ (List.map _ _++[_])=true;rw [I2 (hcl _)];rfl,by show _=some (AObj.row 76 (AF _ (List.map _ _++[_])));rw [Ip (hcl _)];rfl⟩,o9 rfl,trivial⟩⟩
    | cons x b=>
     refine EPrim.app1 (c:=.int .u8 (Int.ofNat x)) (cs:=Ad b) (m:=b.length+1) rfl rfl ?_ rfl ?_ (by omega) (by have:=hbn;simp at this;omega) ?_
     ·show Bo ((b.length+1)*1) (Ad (x::b))=_
      rw [Fz (by rw [B2];simp),Zps (by rw [B2];simp)];rfl
     ·show (Ad (x::b)).length / 1=_
      rw [B2];simp
     conv=>whnf
     repeat' (first|((first|refine CO (m:=1) ?_|refine Ac ?_|refine ⟨rfl,?_⟩);conv=>whnf)|fail)
     refine ⟨0+1,hlt,by omega,?_⟩
     rw [htk,Zp8]
     refine K4 (i:=0) (L:=(us.take (0)).map Af) (n:=(b.length+1)) (cs:=(Ad (x::b))) (rs:=[0,1,2,6,4]) hbv hdf (hcl _) (BH _) ⟨by decide,⟨r9,r9,r9,t9 hbv,r9,r9,trivial⟩,⟨o9 hdf,r9,r9,⟨by show Bq _ (List.map _ _++[_])=true;rw [I2 (hcl _)];rfl,by show _=some (AObj.row 76 (AF _ (List.map _ _++[_])));rw [Ip (hcl _)];rfl⟩,o9 (BH _),trivial⟩⟩
  ·conv=>whnf
   refine Bl (a:=((i+1:Nat):Int)) (b:=(us.length:Int)) rfl rfl (fun _=>?_) (fun h=>by omega);conv=>whnf
   refine Cz rfl hbl rfl hlt ?_;conv=>whnf
   refine EHead.mk (v:=u) hug ?_;conv=>whnf
   refine ESc.inl h141 ?_;conv=>whnf
   rcases hub with ⟨rfl,hn0,hbs0⟩|⟨rfl,hn0,hbs0⟩|⟨c,rfl,hbl'⟩
   ·refine OF rfl rfl ?_;conv=>whnf
    repeat' (first|((first|refine C6 (m:=1) rfl rfl rfl rfl (by rw [Zpq,Zp9];omega) rfl (by decide) (by omega) ?_|refine Ac ?_|refine ⟨rfl,?_⟩);conv=>whnf)|fail)
    refine ⟨i+1+1,hlt,by omega,?_⟩
    rw [htk,Zp8]
    refine Abs.tells (rs:=[0,1,2,5]) ⟨by decide,⟨r9,r9,r9,t9 hbv,r9,r9,trivial⟩,⟨o9 hdf,r9,r9,⟨by show Bq _ (List.map _ _++[_])=true;rw [I2 (hcl _)];rfl,by show _=some (AObj.row 76 (AF _ (List.map _ _++[_])));rw [Ip (hcl _)];rfl⟩,trivial⟩⟩
   ·refine Hv rfl rfl (.inl rfl) ?_;conv=>whnf
    repeat' (first|((first|refine Fc rfl rfl rfl ?_|refine C6 (m:=1) rfl rfl rfl rfl (by rw [Zpq,Zp9];omega) rfl (by decide) (by omega) ?_|refine Ac ?_|refine ⟨rfl,?_⟩);conv=>whnf)|fail)
    refine ⟨i+1+1,hlt,by omega,?_⟩
    rw [htk,Zp8]
    refine K4 (i:=i+1) (L:=(us.take (i+1)).map Af) (n:=0) (cs:=[]) (rs:=[0,1,2,6,4]) hbv hdf (hcl _) rfl ⟨by decide,⟨r9,r9,r9,t9 hbv,r9,r9,trivial⟩,⟨o9 hdf,r9,r9,⟨by show Bq _ (List.map _ _++[_])=true;rw [I2 (hcl _)];rfl,by show _=some (AObj.row 76 (AF _ (List.map _ _++[_])));rw [Ip (hcl _)];rfl⟩,o9 rfl,trivial⟩⟩
   ·refine Hv rfl rfl (.inr ⟨_,_,_,rfl⟩) ?_;conv=>whnf
    cases b with
    | nil=>
     repeat' (first|((first|refine Fc rfl rfl rfl ?_|refine C6 (m:=1) rfl rfl rfl rfl (by rw [Zpq,Zp9];omega) rfl (by decide) (by omega) ?_|refine Ac ?_|refine ⟨rfl,?_⟩);conv=>whnf)|fail)
     refine ⟨i+1+1,hlt,by omega,?_⟩
     rw [htk,Zp8]
     refine K4 (i:=i+1) (L:=(us.take (i+1)).map Af) (n:=0) (cs:=[]) (rs:=[0,1,2,6,4]) hbv hdf (hcl _) rfl ⟨by decide,⟨r9,r9,r9,t9 hbv,r9,r9,trivial⟩,⟨o9 hdf,r9,r9,⟨by show Bq _ (List.map _ _++[_])=true;rw [I2 (hcl _)];rfl,by show _=some (AObj.row 76 (AF _ (List.map _ _++[_])));rw [Ip (hcl _)];rfl⟩,o9 rfl,trivial⟩⟩
    | cons x b=>
     refine EPrim.app1 (c:=.int .u8 (Int.ofNat x)) (cs:=Ad b) (m:=b.length+1) rfl rfl ?_ rfl ?_ (by omega) (by have:=hbn;simp at this;omega) ?_
     ·show Bo ((b.length+1)*1) (Ad (x::b))=_
      rw [Fz (by rw [B2];simp),Zps (by rw [B2];simp)];rfl
     ·show (Ad (x::b)).length / 1=_
      rw [B2];simp
     conv=>whnf
     repeat' (first|((first|refine C6 (m:=1) rfl rfl rfl rfl (by rw [Zpq,Zp9];omega) rfl (by decide) (by omega) ?_|refine Ac ?_|refine ⟨rfl,?_⟩);conv=>whnf)|fail)
     refine ⟨i+1+1,hlt,by omega,?_⟩
     rw [htk,Zp8]
     refine K4 (i:=i+1) (L:=(us.take (i+1)).map Af) (n:=(b.length+1)) (cs:=(Ad (x::b))) (rs:=[0,1,2,7,5]) hbv hdf (hcl _) (BH _) ⟨by decide,⟨r9,r9,r9,t9 hbv,r9,r9,trivial⟩,⟨o9 hdf,r9,r9,⟨by show Bq _ (List.map _ _++[_])=true;rw [I2 (hcl _)];rfl,by show _=some (AObj.row 76 (AF _ (List.map _ _++[_])));rw [Ip (hcl _)];rfl⟩,o9 (BH _),trivial⟩⟩
 ·obtain ⟨k,rfl⟩:∃ k,i=k+1:=⟨i-1,by omega⟩
  have hku:k+1=us.length:=by omega
  have hLe:(us.take (k+1)).map Af=us.map Af:=by rw [Zps (by omega)]
  have hLf:=hcl (k+1)
  rw [hLe] at hLf ⊢
  have hwv:=hwsl.hf
  conv=>whnf
  refine Bl (a:=((k+1:Nat):Int)) (b:=(us.length:Int)) rfl rfl (fun _=>by omega) (fun _=>?_);conv=>whnf
  refine Am hwsl ?_;conv=>whnf
  have hwl:∀ i,hfs (Ag ((ws.take i).map A5))=true:=fun i=>F1 fun w hw=>by
   obtain ⟨v,hv,rfl⟩:=Zqj.1 hw
   rcases (hwsa v (Zqq hv)).b.1 with ⟨h,_⟩|⟨h,_⟩|⟨c,h,_⟩ <;> (show AM.hf (Af v.u)=true;rw [h];rfl)
  refine DZ (α:=Nat) (fun j=>tlV wv ws.length j) (fun j=>osV [bv,wv,.bool dd] dd (us.map Af) (k+1) (Ag ((ws.take j).map A5)) j) (fun j=>ws.length-j) (fun j=>j≤ws.length) 0 (Zp2 _)
   (Abs.tells (rs:=[0,1,2,3]) ⟨by decide,⟨r9,r9,t9 hwv,r9,r9,trivial⟩,⟨o9 hdf,r9,r9,o9 hLf,trivial⟩⟩) ?_
  intro j hj
  refine Ca hE ?_
  by_cases hlt:j<ws.length
  ·have hdr:=GY hlt
   have hwm:=Zqk hlt
   have hwany:=hwsa _ hwm
   have hbn:=hwb _ hwm
   have htk:ws.take (j+1)=ws.take j++[ws[j]]:=Zpw hlt
   have hall:=And.intro hdr (And.intro hwany (And.intro hbn htk))
   clear hdr hwm hwany hbn htk
   revert hall
   generalize ws[j]=w
   obtain ⟨wa,u,b⟩:=w
   rintro ⟨hdr,⟨hwai,hub,hub2⟩,hbn,htk⟩
   have hdr:(Ag ws).drop (j*2)=[.int .i64 wa,u]++Ag (ws.drop (j+1)):=hdr
   dsimp only at hub hbn
   have hcell:∀ (K:List AV->Prop),K [.int .i64 wa,u]->ETake 2 ([.int .i64 wa,u]++Ag (ws.drop (j+1))) K:=fun K hk=>A8 rfl hk
   rcases j with _|j
   ·conv=>whnf
    refine Bl (a:=((0:Nat):Int)) (b:=(ws.length:Int)) rfl rfl (fun _=>?_) (fun h=>by omega);conv=>whnf
    refine Cz rfl hwsl rfl hlt ?_
    rw [hdr]
    conv=>whnf
    refine hcell _ ?_;conv=>whnf
    repeat' (first|(refine ESc.inl h141 ?_;conv=>whnf)|fail)
    rcases hub with ⟨rfl,hn0,hbs0⟩|⟨rfl,hn0,hbs0⟩|⟨c,rfl,hbl'⟩
    ·refine OF rfl rfl ?_;conv=>whnf
     repeat' (first|((first|refine ⟨rfl,?_⟩|refine CO (m:=1) ?_|refine Ac ?_);conv=>whnf)|fail)
     refine ⟨0+1,hlt,by omega,?_⟩
     rw [htk,Zp8,Iq]
     refine Abs.tells (rs:=[0,1,2,3,6]) ⟨by decide,⟨r9,r9,t9 hwv,r9,r9,trivial⟩,⟨o9 hdf,r9,r9,o9 hLf,⟨by show Bq _ (Ag _++[.int .i64 _,_])=true;rw [Iw (hwl _)];rfl,by show _=some (AObj.row 146 (AF _ (Ag _++[.int .i64 _,_])));rw [Ih (hwl _)];rfl⟩,trivial⟩⟩
    ·refine Hv rfl rfl (.inl rfl) ?_;conv=>whnf
     repeat' (first|((first|refine Fc rfl rfl rfl ?_|refine ⟨rfl,?_⟩|refine CO (m:=1) ?_|refine Ac ?_);conv=>whnf)|fail)
     refine ⟨0+1,hlt,by omega,?_⟩
     rw [htk,Zp8,Iq]
     refine K6 (i:=0) (M:=Ag ((ws.take (0)).map A5)) (a:=wa) (n:=0) (cs:=[]) (rs:=[0,1,2,3,7,5]) hwv hdf hLf (hwl _) rfl ⟨by decide,⟨r9,r9,t9 hwv,r9,r9,trivial⟩,⟨o9 hdf,r9,r9,o9 hLf,⟨by show Bq _ (Ag _++[.int .i64 _,_])=true;rw [Iw (hwl _)];rfl,by show _=some (AObj.row 146 (AF _ (Ag _++[.int .i64 _,_])));rw [Ih (hwl _)];rfl⟩,o9 rfl,trivial⟩⟩
    ·refine Hv rfl rfl (.inr ⟨_,_,_,rfl⟩) ?_;conv=>whnf
     cases b with
     | nil=>
      repeat' (first|((first|refine Fc rfl rfl rfl ?_|refine ⟨rfl,?_⟩|refine CO (m:=1) ?_|refine Ac ?_);conv=>whnf)|fail)
      refine ⟨0+1,hlt,by omega,?_⟩
      rw [htk,Zp8,Iq]
      refine K6 (i:=0) (M:=Ag ((ws.take (0)).map A5)) (a:=wa) (n:=0) (cs:=[]) (rs:=[0,1,2,3,7,5]) hwv hdf hLf (hwl _) rfl ⟨by decide,⟨r9,r9,t9 hwv,r9,r9,trivial⟩,⟨o9 hdf,r9,r9,o9 hLf,⟨by show Bq _ (Ag _++[.int .i64 _,_])=true;rw [Iw (hwl _)];rfl,by show _=some (AObj.row 146 (AF _ (Ag _++[.int .i64 _,_])));rw [Ih (hwl _)];rfl⟩,o9 rfl,trivial⟩⟩
     | cons x b=>
      refine EPrim.app1 (c:=.int .u8 (Int.ofNat x)) (cs:=Ad b) (m:=b.length+1) rfl rfl ?_ rfl ?_ (by omega) (by have:=hbn;simp at this;omega) ?_
      ·show Bo ((b.length+1)*1) (Ad (x::b))=_
       rw [Fz (by rw [B2];simp),Zps (by rw [B2];simp)];rfl
      ·show (Ad (x::b)).length / 1=_
       rw [B2];simp
      conv=>whnf
      repeat' (first|((first|refine ⟨rfl,?_⟩|refine CO (m:=1) ?_|refine Ac ?_);conv=>whnf)|fail)
      refine ⟨0+1,hlt,by omega,?_⟩
      rw [htk,Zp8,Iq]
      refine K6 (i:=0) (M:=Ag ((ws.take (0)).map A5)) (a:=wa) (n:=(b.length+1)) (cs:=(Ad (x::b))) (rs:=[0,1,2,3,8,6]) hwv hdf hLf (hwl _) (BH _) ⟨by decide,⟨r9,r9,t9 hwv,r9,r9,trivial⟩,⟨o9 hdf,r9,r9,o9 hLf,⟨by show Bq _ (Ag _++[.int .i64 _,_])=true;rw [Iw (hwl _)];rfl,by show _=some (AObj.row 146 (AF _ (Ag _++[.int .i64 _,_])));rw [Ih (hwl _)];rfl⟩,o9 (BH _),trivial⟩⟩
   ·conv=>whnf
    refine Bl (a:=((j+1:Nat):Int)) (b:=(ws.length:Int)) rfl rfl (fun _=>?_) (fun h=>by omega);conv=>whnf
    refine Cz rfl hwsl rfl hlt ?_
    rw [hdr]
    conv=>whnf
    refine hcell _ ?_;conv=>whnf
    repeat' (first|(refine ESc.inl h141 ?_;conv=>whnf)|fail)
    rcases hub with ⟨rfl,hn0,hbs0⟩|⟨rfl,hn0,hbs0⟩|⟨c,rfl,hbl'⟩
    ·refine OF rfl rfl ?_;conv=>whnf
     repeat' (first|((first|refine ⟨rfl,?_⟩|refine C6 (m:=1) rfl rfl rfl rfl (by rw [DU,Zpq,Zp9];omega) rfl (by decide) (by omega) ?_|refine Ac ?_);conv=>whnf)|fail)
     refine ⟨j+1+1,hlt,by omega,?_⟩
     rw [htk,Zp8,Iq]
     refine Abs.tells (rs:=[0,1,2,3,7]) ⟨by decide,⟨r9,r9,t9 hwv,r9,r9,trivial⟩,⟨o9 hdf,r9,r9,o9 hLf,⟨by show Bq _ (Ag _++[.int .i64 _,_])=true;rw [Iw (hwl _)];rfl,by show _=some (AObj.row 146 (AF _ (Ag _++[.int .i64 _,_])));rw [Ih (hwl _)];rfl⟩,trivial⟩⟩
    ·refine Hv rfl rfl (.inl rfl) ?_;conv=>whnf
     repeat' (first|((first|refine Fc rfl rfl rfl ?_|refine ⟨rfl,?_⟩|refine C6 (m:=1) rfl rfl rfl rfl (by rw [DU,Zpq,Zp9];omega) rfl (by decide) (by omega) ?_|refine Ac ?_);conv=>whnf)|fail)
     refine ⟨j+1+1,hlt,by omega,?_⟩
     rw [htk,Zp8,Iq]
     refine K6 (i:=j+1) (M:=Ag ((ws.take (j+1)).map A5)) (a:=wa) (n:=0) (cs:=[]) (rs:=[0,1,2,3,8,6]) hwv hdf hLf (hwl _) rfl ⟨by decide,⟨r9,r9,t9 hwv,r9,r9,trivial⟩,⟨o9 hdf,r9,r9,o9 hLf,⟨by show Bq _ (Ag _++[.int .i64 _,_])=true;rw [Iw (hwl _)];rfl,by show _=some (AObj.row 146 (AF _ (Ag _++[.int .i64 _,_])));rw [Ih (hwl _)];rfl⟩,o9 rfl,trivial⟩⟩
    ·refine Hv rfl rfl (.inr ⟨_,_,_,rfl⟩) ?_;conv=>whnf
     cases b with
     | nil=>
      repeat' (first|((first|refine Fc rfl rfl rfl ?_|refine ⟨rfl,?_⟩|refine C6 (m:=1) rfl rfl rfl rfl (by rw [DU,Zpq,Zp9];omega) rfl (by decide) (by omega) ?_|refine Ac ?_);conv=>whnf)|fail)
      refine ⟨j+1+1,hlt,by omega,?_⟩
      rw [htk,Zp8,Iq]
      refine K6 (i:=j+1) (M:=Ag ((ws.take (j+1)).map A5)) (a:=wa) (n:=0) (cs:=[]) (rs:=[0,1,2,3,8,6]) hwv hdf hLf (hwl _) rfl ⟨by decide,⟨r9,r9,t9 hwv,r9,r9,trivial⟩,⟨o9 hdf,r9,r9,o9 hLf,⟨by show Bq _ (Ag _++[.int .i64 _,_])=true;rw [Iw (hwl _)];rfl,by show _=some (AObj.row 146 (AF _ (Ag _++[.int .i64 _,_])));rw [Ih (hwl _)];rfl⟩,o9 rfl,trivial⟩⟩
     | cons x b=>
      refine EPrim.app1 (c:=.int .u8 (Int.ofNat x)) (cs:=Ad b) (m:=b.length+1) rfl rfl ?_ rfl ?_ (by omega) (by have:=hbn;simp at this;omega) ?_
      ·show Bo ((b.length+1)*1) (Ad (x::b))=_
       rw [Fz (by rw [B2];simp),Zps (by rw [B2];simp)];rfl
      ·show (Ad (x::b)).length / 1=_
       rw [B2];simp
      conv=>whnf
      repeat' (first|((first|refine ⟨rfl,?_⟩|refine C6 (m:=1) rfl rfl rfl rfl (by rw [DU,Zpq,Zp9];omega) rfl (by decide) (by omega) ?_|refine Ac ?_);conv=>whnf)|fail)
      refine ⟨j+1+1,hlt,by omega,?_⟩
      rw [htk,Zp8,Iq]
      refine K6 (i:=j+1) (M:=Ag ((ws.take (j+1)).map A5)) (a:=wa) (n:=(b.length+1)) (cs:=(Ad (x::b))) (rs:=[0,1,2,3,9,7]) hwv hdf hLf (hwl _) (BH _) ⟨by decide,⟨r9,r9,t9 hwv,r9,r9,trivial⟩,⟨o9 hdf,r9,r9,o9 hLf,⟨by show Bq _ (Ag _++[.int .i64 _,_])=true;rw [Iw (hwl _)];rfl,by show _=some (AObj.row 146 (AF _ (Ag _++[.int .i64 _,_])));rw [Ih (hwl _)];rfl⟩,o9 (BH _),trivial⟩⟩
  ·have hje:j=ws.length:=by omega
   have hMe:ws.take j=ws:=Zps (by omega)
   rw [hMe]
   rw [← hku] at hk
   rcases j with _|j
   ·conv=>whnf
    refine Bl (a:=((0:Nat):Int)) (b:=(ws.length:Int)) rfl rfl (fun _=>by omega) (fun _=>?_);conv=>whnf
    skip
    refine (hk _ ?_).1 hje.symm
    rfl
   ·conv=>whnf
    refine Bl (a:=((j+1:Nat):Int)) (b:=(ws.length:Int)) rfl rfl (fun _=>by omega) (fun _=>?_);conv=>whnf
    skip
    rw [← hje] at hk
    refine (hk _ ?_).2 (by omega) ?_
    ·rfl
    ·rfl
def Gu (x:DK):List AObj:=match x.ws.length with
 | 0=>[.row 76 (x.us.map Af)]
 | _+1=>[.row 76 (x.us.map Af),.row 146 (Ag (x.ws.map A5))]
def HT (n:Nat) (x:DK):AV:=.agg [.sl (0+n) 0 x.us.length none,(match x.ws.length with|0=>.nils|m+1=>.sl (1+n) 0 (m+1) none),.bool x.dead]
structure DK1 (x:DK):Prop where
 ok:x.ok
 n:1≤x.us.length
noncomputable def D6:Ov:=fun args s=>open Classical in if h:∃ x:DK,DK1 x∧args=[x.v] then .ok (HT s.next (Classical.choose h)) (Aj s (Gu (Classical.choose h))) else .fail
theorem K5 {x:DK}(hx:DK1 x) (s:St):D6 [x.v] s=.ok (HT s.next x) (Aj s (Gu x)):=by
 have h:∃ y:DK,DK1 y∧[x.v]=[y.v]:=⟨x,hx,rfl⟩
 unfold D6
 rw [dif_pos h]
 obtain ⟨h1,h2⟩:=Zqy h
 rw [← DK.inj hx.ok.a h1.ok.a (Zpv h2).1]
theorem OO {e:Env}(hE:EM P e) (h141:Inl e 119 Hr [.tmp 2]):OvOk P 66 D6:=by
 refine ⟨g66.b,fun args s v s' hh=>?_⟩
 have hx0:∃ x:DK,DK1 x∧args=[x.v]:=by
  unfold D6 at hh
  split at hh
  ·rename_i h;exact h
  ·cases hh
 obtain ⟨x,hx,rfl⟩:=hx0
 rw [K5 hx] at hh
 cases hh
 have hfa:hfs [x.v]=true:=by show (AM.hf x.v && true)=true;rw [DK.hf hx.ok.a];rfl
 have hcl:hfs (x.us.map Af)=true:=RM _ fun u hu=>by
  obtain ⟨k,hk⟩:=Zrd.1 hu
  obtain ⟨b,_,hb⟩:=hx.ok.a.bs.get hk
  rcases hb.1 with ⟨rfl,_⟩|⟨rfl,_⟩|⟨c,rfl,_⟩ <;> rfl
 have hwl:hfs (Ag (x.ws.map A5))=true:=F1 fun w hw=>by
  obtain ⟨v,hv,rfl⟩:=Zqj.1 hw
  rcases (hx.ok.a.ws v hv).b.1 with ⟨h,_⟩|⟨h,_⟩|⟨c,h,_⟩ <;> (show AM.hf (Af v.u)=true;rw [h];rfl)
 have key:C P 66 [x.v] St0 (fun v s'=>v=HT 0 x∧s'=Aj St0 (Gu x)):=by
  refine C.abs (C.of_G hE g66 (Zhf hE h141 hx.ok hx.n fun s h3=>⟨fun h0=>?_,fun h1 h4=>?_⟩))
  ·unfold HT Gu
   rw [h0]
   exact ⟨[3],⟨by decide,⟨r9,trivial⟩,⟨⟨Bj hcl,by rw [AU hcl];exact h3⟩,trivial⟩⟩⟩
  ·obtain ⟨m,hm'⟩:∃ m,x.ws.length=m+1:=⟨x.ws.length-1,by omega⟩
   unfold HT Gu
   rw [hm']
   exact ⟨[3,4],⟨by decide,⟨r9,trivial⟩,⟨⟨Bj hcl,by rw [AU hcl];exact h3⟩,⟨Bj hwl,by rw [AU hwl];exact h4⟩,trivial⟩⟩⟩
 refine (C.frame (l:=Gu x) (u:=HT 0 x) hfa ?_ ?_ key ?_ s).mono ?_
 ·unfold Gu;split
  ·intro o ho;simp at ho;subst ho;rfl
  ·intro o ho;simp at ho;rcases ho with rfl|rfl <;> rfl
 ·unfold Gu;split <;> exact .inl (by simp)
 ·unfold Gu;split <;> intro i o h <;> rcases i with _|_|i <;> simp at h <;> first|(subst h;rfl)|omega
 ·rintro v s' ⟨rfl,rfl⟩
  refine ⟨?_,?_⟩
  ·unfold HT;cases x.ws.length <;> rfl
  ·unfold Gu;split
   ·show Aj s [Bw _ (.row 76 (x.us.map Af))]=_
    rw [AU hcl]
   ·show Aj s [Bw _ (.row 76 (x.us.map Af)),Bw _ (.row 146 (Ag (x.ws.map A5)))]=_
    rw [AU hcl,AU hwl]
def D5 (a:Int) (w:WR):Bool:=decide (w.at_=a)
def AG (a:Int) (L:List WR):List WR:=L.filter fun w=>!D5 a w
def zW:List AV:=[.int .i64 0,.nils]
def Zkt:AC:=match Qz with|.mk c _=>c
def OI:AC:=match Qy with|.mk c _=>c
variable {r:Nat}{X:List WR}{w:WR}
theorem Xg {e j:Nat}(h:s.get r=some (.row e (Ag X))) (hj:X[j]?=some w):load r (0+j*2) 2 s=some [.int .i64 w.at_,w.u]:=by
 have hlt:=(Zpk.1 hj).1
 have hw:=(Zpk.1 hj).2
 rw [G8 h (by rw [DU];omega),Zpy,GY hlt,hw];rfl
theorem WD:∀ {X:List WR}{k:Nat}{w:WR},k<X.length->(Ag X).take (k*2)++[.int .i64 w.at_,w.u]++(Ag X).drop (k*2+2)=Ag (X.set k w)
 | [],k,w,h=>by simp at h
 | x::X,0,w,h=>by rw [Fy];rfl
 | x::X,k+1,w,h=>by
  have:=WD (X:=X) (k:=k) (w:=w) (by simpa using h)
  rw [Fy,List.set_cons_succ,Fy,← this]
  have hl:x.c.length=2:=rfl
  rw [show (k+1)*2=x.c.length+k*2 by omega,List.take_append,Zps (by omega),show x.c.length+k*2+2=x.c.length+(k*2+2) by omega,List.drop_append,Zqf (by omega)]
  simp
theorem Zex {e k:Nat}(h:s.get r=some (.row e (Ag X))) (hk:k<X.length):storeAt r (0+k*2) [.int .i64 w.at_,w.u] s=some (s.put r (.row e (Ag (X.set k w)))):=by
 rw [FU h (by rw [DU];show 0+k*2+2≤_;omega),Zpy,← WD hk];rfl
variable {z:List AV}
theorem Zcb {k:AV->St->Prop}{x:AO}{o:Nat}{c:Option Nat}{s':St}(hx:ev x t=.some (.sl r o n c)) (hs:storeAt r o (Bp z n) s=some s') (hk:k (.tup []) s'):EPrim (.clr z x) t s k:=by
 refine EPrim.mk (fun e rec=>?_) hk
 show wth x t _=_;unfold wth;rw [hx]
 show Gm (.tup []) (storeAt r o (Bp z n) s)=_;rw [hs];rfl
theorem QI:∀ n,(Bp z n).length=n*z.length
 | 0=>by show ([]:List AV).length=_;simp
 | n+1=>by
  have:Bp z (n+1)=z++Bp z n:=by
   show Be z (Bp z n)=_;rw [Da]
  rw [this,Zpx,QI n];simp [Nat.succ_mul];omega
theorem Zen (X:List WR) (k:Nat):(Ag X).take (k*2)=Ag (X.take k):=by
 induction X generalizing k with
 | nil=>simp [Ag]
 | cons x X ih=>
  cases k with
  | zero=>simp [Ag]
  | succ k=>
   have hl:x.c.length=2:=rfl
   rw [Fy,List.take_succ_cons,Fy,← ih,show (k+1)*2=x.c.length+k*2 by omega,List.take_append,Zps (by omega)]
   simp
theorem Rn (a:Int) (L:List WR):(AG a L).length≤L.length:=List.length_filter_le _ _
theorem V3 (a:Int) (L M:List WR):AG a (L++M)=AG a L++AG a M:=by unfold AG;simp
theorem V4 {L:List WR}(h:∀ w ∈ L,D5 a w=false):AG a L=L:=by
 unfold AG;rw [List.filter_eq_self];intro w hw;rw [h w hw];rfl
theorem V5 (p:WR->Bool):∀ (L:List WR) (i:Nat),(B5 p L i=-1∧∀ w ∈ L,p w=false)∨∃ (m:Nat) (h:m<L.length),B5 p L i=((i+m:Nat):Int)∧p L[m]=true∧∀ w ∈ L.take m,p w=false
 | [],i=>.inl ⟨rfl,by simp⟩
 | x::L,i=>by
  unfold B5
  cases hx:p x
  ·rcases V5 p L (i+1) with ⟨h1,h2⟩|⟨m,h,h1,h2,h3⟩
   ·exact .inl ⟨by rw [Zpr (by decide)];exact h1,fun w hw=>by rcases Zqt.1 hw with rfl|hw;exact hx;exact h2 w hw⟩
   ·refine .inr ⟨m+1,by simpa using h,?_,by simpa using h2,fun w hw=>?_⟩
    ·rw [Zpr (by decide),h1];congr 1;omega
    ·rw [List.take_succ_cons] at hw
     rcases Zqt.1 hw with rfl|hw
     ·exact hx
     ·exact h3 w hw
  ·exact .inr ⟨0,by simp,by rw [Zpn rfl];simp,by simpa using hx,by simp⟩
variable {W0:List WR}
theorem V7 {e:Env}(hE:EM P e) (h137:Inl e 115 OI [.tmp 3]) (hs:Sl 2 W0.length (Ag W0) v) (ha:Ab a) (hw:∀ w ∈ W0,Ab w.at_) (hn:W0.length<1000000) (Q:AV->St->Prop) (hk:∀ s,Q (.int .i64 (B5 (D5 a) W0 0)) s):
 VW P e 0 X0 (An [v,.fn 115 [] [.fp [.int .i64 a]]] 0 .lf) St0 none [] (Cq [.tmp 4] Q):=by
 have hvf:=hs.hf
 conv=>whnf
 refine Am hs ?_;conv=>whnf
 refine DZ (α:=Nat) (fun i=>[(0,v),(1,.fn 115 [] [.fp [.int .i64 a]]),(7,.int .i64 (W0.length:Int)),(8,.int .i64 (i:Int))]) (fun _=>[]) (fun i=>W0.length-i) (fun i=>i≤W0.length∧B5 (D5 a) W0 0=B5 (D5 a) (W0.drop i) i) 0 ⟨Zp2 _,rfl⟩
  (Abs.tells (rs:=[]) .a) ?_
 rintro i ⟨hi,hI⟩
 refine Ca hE ?_
 by_cases hlt:i<W0.length
 ·have hd:=GY hlt
  have hwa:=hw _ (Zqk hlt)
  rw [Zp6 hlt] at hI
  have hall:=And.intro hI (And.intro hd hwa)
  clear hI hd hwa
  revert hall
  generalize W0[i]=w
  obtain ⟨wa,wu,wb⟩:=w
  rintro ⟨hI,hd,hwa⟩
  have hd:(Ag W0).drop (i*2)=[.int .i64 wa,wu]++Ag (W0.drop (i+1)):=hd
  have hI:B5 (D5 a) W0 0=if decide (wa=a) then (i:Int) else B5 (D5 a) (W0.drop (i+1)) (i+1):=hI
  unfold Ab at hwa ha
  dsimp only at hwa
  conv=>whnf
  refine Bl (a:=(i:Int)) (b:=(W0.length:Int)) rfl rfl (fun _=>?_) (fun h=>by omega);conv=>whnf
  repeat' (first|(refine Cz rfl hs rfl hlt ?_;rw [hd];conv=>whnf)|((first|refine A8 rfl ?_|refine ECall.inl h137.O h137.G ?_|refine As ?_|refine Ac ?_|refine ⟨rfl,?_⟩);conv=>whnf)|refine Ap ?_ ?_|(intro _;first|omega|conv=>whnf))
  ·rename_i he
   rw [Zpn (by simpa using he)] at hI
   rw [hI] at hk
   exact hk _
  ·rename_i he
   rw [Zpr (by simpa using he)] at hI
   exact ⟨i+1,⟨hlt,hI⟩,by omega,Abs.tells (rs:=[]) .a⟩
 ·have hd:W0.drop i=[]:=Zqf (by omega)
  rw [hd] at hI
  have hI:B5 (D5 a) W0 0=-1:=hI
  rw [hI] at hk
  conv=>whnf
  refine Bl (a:=(i:Int)) (b:=(W0.length:Int)) rfl rfl (fun h=>by omega) (fun _=>?_);conv=>whnf
  exact hk _
structure WA where
 r:Nat
 q:Nat
 ws:List WR
 a:Int
structure WA.ok (x:WA) (s:St):Prop where
 g:s.get x.r=some (.row 146 (Ag x.ws))
 q:s.get x.q=some (.row 3 [.int .i64 x.a])
 w:∀ w ∈ x.ws,w.any
 a:Ab x.a
 n:x.ws.length<1000000
def WA.args (x:WA):List AV:=[.sl x.r 0 x.ws.length none,.fn 115 [] [.ptr x.q 0]]
variable {x:WA}
theorem WA.inj {y:WA}(hx:x.ok s) (hy:y.ok s) (h:x.args=y.args):x=y:=by
 obtain ⟨r,q,ws,a⟩:=x
 obtain ⟨r',q',ws',a'⟩:=y
 simp [WA.args] at h
 obtain ⟨⟨rfl,_⟩,rfl⟩:=h
 have e1:=hx.g.symm.trans hy.g
 have e2:=hx.q.symm.trans hy.q
 dsimp only at e1 e2
 injection e1 with e1
 injection e1 with _ e1
 injection e2 with e2
 injection e2 with _ e2
 injection e2 with e2
 injection e2 with _ e2
 have e3:=O6 hx.w hy.w e1
 dsimp only at e3
 subst e2 e3;rfl
noncomputable def La:Ov:=fun args s=>open Classical in if h:∃ x:WA,x.ok s∧args=x.args then .ok (.int .i64 (B5 (D5 (Classical.choose h).a) (Classical.choose h).ws 0)) s else .fail
theorem Zch (hx:x.ok s):La x.args s=.ok (.int .i64 (B5 (D5 x.a) x.ws 0)) s:=by
 have h:∃ y:WA,y.ok s∧x.args=y.args:=⟨x,hx,rfl⟩
 unfold La
 rw [dif_pos h]
 obtain ⟨h1,h2⟩:=Zqy h
 rw [← WA.inj hx h1 h2]
def nilI:Fam Int:=⟨Ab,fun a=>[.nils,.fn 115 [] [.fp [.int .i64 a]]],fun a=>.int .i64 (-1),fun _ _ _ _ _=>rfl⟩
noncomputable def HO:Ov:=Gx La nilI.O
theorem Xy {e:Env}(hE:EM P e) (h137:Inl e 115 OI [.tmp 3]):OvOk P 143 HO:=by
 refine Sx ⟨g143.b,fun args s u s' hh=>?_⟩ (C7 g143.b fun a ha=>⟨rfl,rfl,C.of_G hE g143 (V7 (W0:=[]) hE h137 (.inl ⟨rfl,rfl,rfl⟩) ha (by simp) (by decide) _ fun s=>.plain _ rfl)⟩)
 unfold La at hh
 split at hh
 ·rename_i hx
  cases hh
  obtain ⟨h1,h2⟩:=Zqy hx
  generalize Classical.choose hx=y at h1 h2 ⊢
  subst h2
  obtain ⟨r,q,ws,a⟩:=y
  obtain ⟨hg,hq,hw,ha,hn⟩:=h1
  dsimp only at hg hq hw ha hn
  have hwf:hfs (Ag ws)=true:=F1 fun w hwm=>(hw w hwm).b.1.hf
  have hfz:∀ (l:List AV) (s:St),hfs l=true->All2 (Frz s) l l:=fun l s=>by
   induction l with
   | nil=>intro _;exact .nil
   | cons v l ih=>intro h;simp only [hfs,Zpl] at h;exact .cons (.plain _ h.1) (ih h.2)
  refine IE (args2:=[.fz ws.length none (Ag ws),.fn 115 [] [.fp [.int .i64 a]]]) (.cons (.sl r 0 ws.length none none 146 _ (Ag ws) _ hg (fun i x h=>by rw [Zpy];exact h) (hfz _ _ hwf) (.inl rfl)) (.cons (.fn 115 [] [.ptr q 0] [] [.fp [.int .i64 a]] .nil (.cons (.ptr q 0 3 [.int .i64 a] [.int .i64 a] [.int .i64 a] hq (fun i x h=>by rw [Zpy];exact h) (.cons (.plain _ rfl) .nil)) .nil)) .nil)) rfl (Ju rfl ?_)
  exact C.of_G hE g143 (V7 hE h137 (.inr (.inr ⟨none,rfl,DU ws⟩)) ha (fun w hwm=>(hw w hwm).at_) hn _ fun s=>.plain _ rfl)
 ·cases hh
theorem Zgs {e:Env}(h:Con e 143 HO) (hx:x.ok s) (hk:K (.int .i64 (B5 (D5 x.a) x.ws 0)) s):ESc e 143 x.args s K:=by
 refine ESc.ov h (v:=.int .i64 (B5 (D5 x.a) x.ws 0)) (s':=s) ?_ hk
 unfold HO Gx
 rw [Zch hx]
theorem Zgt {e:Env}(h:Con e 143 HO) (ha:Ab a) (hk:K (.int .i64 (-1)) s):ESc e 143 [.nils,.fn 115 [] [.fp [.int .i64 a]]] s K:=by
 refine ESc.ov h (v:=.int .i64 (-1)) (s':=s) ?_ hk
 have:La [.nils,.fn 115 [] [.fp [.int .i64 a]]] s=.fail:=by
  unfold La
  rw [dif_neg]
  rintro ⟨x,_,h⟩
  have:=(Zpv h).1
  cases this
 unfold HO Gx
 rw [this]
 exact Rf nilI ha s
theorem Zgp {e:Env}(hE:EM P e) (h163:Con e 143 HO) (h137:Inl e 115 OI [.tmp 3]) (ha:Ab a) (hw:∀ w ∈ W0,w.any) (hn:W0.length<1000000) (h1:1≤W0.length) (Q:AV->St->Prop)
 (hk:∀ s,s.get 0=some (.row 146 (Ag (AG a W0)++Bp zW (W0.length-(AG a W0).length)))->s.get 1=some (.row 3 [.int .i64 a])->Q (.sl 0 0 (AG a W0).length none) s):
 VW P e 2 Zkt (An [.sl 0 0 W0.length none,.fn 115 [] [.ptr 1 0]] 0 .lf) (Aj St0 [.row 146 (Ag W0),.row 3 [.int .i64 a]]) none [] (Cq [.tmp 4] Q):=by
 have hwf:∀ X:List WR,(∀ w ∈ X,w.any)->hfs (Ag X)=true:=fun X h=>F1 fun w hwm=>(h w hwm).b.1.hf
 have hx:∀ s:St,s.get 0=some (.row 146 (Ag W0))->s.get 1=some (.row 3 [.int .i64 a])->∀ K:AV->St->Prop,K (.int .i64 (B5 (D5 a) W0 0)) s->ESc e 143 [.sl 0 0 W0.length none,.fn 115 [] [.ptr 1 0]] s K:=fun s g1 g2 K hk=>Zgs h163 (x:=⟨0,1,W0,a⟩) ⟨g1,g2,hw,ha,hn⟩ hk
 conv=>whnf
 refine hx _ rfl rfl _ ?_
 rcases V5 (D5 a) W0 0 with ⟨e1,e2⟩|⟨m,hml,e1,e2,e3⟩
 ·rw [e1]
  rw [V4 e2,Nat.sub_self] at hk
  conv=>whnf
  repeat' (first|refine Ap ?_ ?_|(intro _;first|omega|conv=>whnf))
  refine hk _ ?_ rfl
  show _=some (AObj.row 146 (Ag W0++[]))
  rw [Zqu];rfl
 ·rw [e1,Zpy]
  conv=>whnf
  repeat' (first|(refine Ac ?_;conv=>whnf)|refine Ap ?_ ?_|(intro _;first|omega|conv=>whnf))
  have htm:AG a (W0.take m)=W0.take m:=V4 e3
  have hsm:AG a (W0.take (m+1))=W0.take m:=by
   rw [Zpw hml,V3,htm]
   have:AG a [W0[m]]=[]:=by unfold AG;simp [e2]
   rw [this,Zqu]
  have hkm:(AG a (W0.take (m+1))).length=m:=by rw [hsm,Zp9];omega
  refine DZ (k:=2) (α:=Nat×List WR) (fun x=>[(0,.sl 0 0 W0.length none),(1,.fn 115 [] [.ptr 1 0]),(5,.int .i64 (((AG a (W0.take x.1)).length:Nat):Int)),(6,.int .i64 (x.1:Int))]) (fun x=>[.row 146 (Ag x.2),.row 3 [.int .i64 a]]) (fun x=>W0.length-x.1)
   (fun x=>x.1≤W0.length∧x.2.length=W0.length∧(∀ w ∈ x.2,w.any)∧(AG a (W0.take x.1)).length<x.1∧x.2.take (AG a (W0.take x.1)).length=AG a (W0.take x.1)∧x.2.drop x.1=W0.drop x.1) (m+1,W0)
   ⟨by dsimp only;omega,rfl,hw,by dsimp only;omega,by dsimp only;rw [hkm,hsm],rfl⟩
   (AbsK.tells (rs:=[0,1]) ⟨rfl,by decide,⟨r9,r9,⟨rfl,by dsimp only;rw [hkm];rfl⟩,r9,trivial⟩,⟨o9 (hwf _ hw),r9,trivial⟩⟩) ?_
  rintro ⟨j,X⟩ ⟨hj,hXl,hXa,hkj,hXt,hXd⟩
  dsimp only at hj hXl hXa hkj hXt hXd ⊢
  obtain ⟨k,hkd⟩:∃ k,k=(AG a (W0.take j)).length:=⟨_,rfl⟩
  rw [← hkd] at hkj hXt ⊢
  refine Ca hE ?_
  by_cases hlt:j<W0.length
  ·have hXj:X[j]?=some W0[j]:=by
    have:=congrArg (fun l:List WR=>l[0]?) hXd
    simp only [Zpu,Zqs] at this
    rw [this,Zpj hlt]
   have hwj:=hw _ (Zqk hlt)
   have hKs:AG a (W0.take (j+1))=AG a (W0.take j)++AG a [W0[j]]:=by rw [Zpw hlt,V3]
   have hXd':X.drop (j+1)=W0.drop (j+1):=by
    have:=congrArg (List.drop 1) hXd
    rwa [List.drop_drop,List.drop_drop] at this
   have hall:=And.intro hXj (And.intro hwj hKs)
   clear hXj hwj hKs hsm htm hkm e2 e3 hx hXd hml
   revert hall
   generalize W0[j]=w
   rintro ⟨hXj,hwj,hKs⟩
   obtain ⟨wa,wu,wb⟩:=w
   have hwu:AM.hf wu=true:=hwj.b.1.hf
   have hwi:=hwj.at_
   unfold Ab at hwi ha
   dsimp only at hwi
   have hld:∀ s:St,s.get 0=some (.row 146 (Ag X))->load 0 (0+j*2) 2 s=some [.int .i64 wa,wu]:=fun s h=>Xg h hXj
   have hst:∀ s:St,s.get 0=some (.row 146 (Ag X))->storeAt 0 (0+k*2) [.int .i64 wa,wu] s=some (s.put 0 (.row 146 (Ag (X.set k ⟨wa,wu,wb⟩)))):=fun s h=>Zex (w:=⟨wa,wu,wb⟩) h (by omega)
   conv=>whnf
   refine LQ rfl ?_;conv=>whnf
   refine Bl (a:=(j:Int)) (b:=(W0.length:Int)) rfl rfl (fun _=>?_) (fun h=>by omega);conv=>whnf
   refine He (i:=j) rfl rfl hlt ?_;conv=>whnf
   refine BE [.int .i64 wa,wu] (hld _ rfl) ?_;conv=>whnf
   refine ECall.inl h137.O h137.G ?_;conv=>whnf
   refine Il (a:=wa) (b:=a) rfl rfl (fun he=>?_) (fun he=>?_)
   ·conv=>whnf
    repeat' (first|((first|refine Ac ?_|refine Au ?_|refine ⟨rfl,?_⟩);conv=>whnf)|fail)
    have hK1:AG a (W0.take (j+1))=AG a (W0.take j):=by
     rw [hKs]
     have:AG a [⟨wa,wu,wb⟩]=[]:=by unfold AG D5;simp [he]
     rw [this,Zqu]
    refine ⟨(j+1,X),⟨by dsimp only;omega,hXl,hXa,by dsimp only;rw [hK1];omega,by dsimp only;rw [hK1,← hkd];exact hXt,hXd'⟩,by show W0.length-(j+1)<W0.length-j;omega,?_⟩
    dsimp only
    rw [hK1,← hkd]
    exact AbsK.tells (rs:=[0,1]) ⟨rfl,by decide,⟨r9,r9,r9,r9,trivial⟩,⟨o9 (hwf _ hXa),r9,trivial⟩⟩
   ·conv=>whnf
    refine Ik rfl ?_;conv=>whnf
    refine He (i:=k) rfl rfl (by omega) ?_;conv=>whnf
    refine BE _ (hst _ rfl) ?_;conv=>whnf
    repeat' (first|((first|refine Ac ?_|refine ⟨rfl,?_⟩);conv=>whnf)|fail)
    have hK1:AG a (W0.take (j+1))=AG a (W0.take j)++[⟨wa,wu,wb⟩]:=by
     rw [hKs]
     have:AG a [⟨wa,wu,wb⟩]=[⟨wa,wu,wb⟩]:=by unfold AG D5;simp [he]
     rw [this]
    have hK2:(AG a (W0.take (j+1))).length=k+1:=by rw [hK1,Zpx,← hkd];rfl
    have hXs:∀ w ∈ X.set k ⟨wa,wu,wb⟩,w.any:=fun w hwm=>by
     rcases List.mem_or_eq_of_mem_set hwm with h|rfl
     ·exact hXa w h
     ·exact hwj
    refine ⟨(j+1,X.set k ⟨wa,wu,wb⟩),⟨by dsimp only;omega,by dsimp only;rw [List.length_set];exact hXl,hXs,by dsimp only;rw [hK2];omega,?_,?_⟩,by show W0.length-(j+1)<W0.length-j;omega,?_⟩
    ·dsimp only
     rw [hK2,hK1,← hXt]
     have hks:k<X.length:=by omega
     rw [Zpw (by rw [List.length_set];exact hks),List.take_set_of_le (Zp4 _),List.getElem_set_self]
    ·dsimp only
     rw [List.drop_set_of_lt (by omega)];exact hXd'
    ·dsimp only
     rw [hK2]
     exact AbsK.tells (rs:=[0,1]) ⟨rfl,by decide,⟨r9,r9,r9,r9,trivial⟩,⟨o9 (hwf _ hXs),r9,trivial⟩⟩
  ·have hje:W0.take j=W0:=Zps (by omega)
   rw [hje] at hkd hXt
   rw [← hkd] at hk
   conv=>whnf
   refine LQ rfl ?_;conv=>whnf
   refine Bl (a:=(j:Int)) (b:=(W0.length:Int)) rfl rfl (fun h=>by omega) (fun _=>?_);conv=>whnf
   refine Vg (l:=k) (h:=W0.length) rfl rfl rfl (by omega) (Zp4 _) (by omega) ?_;conv=>whnf
   refine Zcb rfl (FU (e:=146) (cs:=Ag X) rfl (by rw [QI,DU];show 0+k*2+(W0.length-k)*2≤_;omega)) ?_;conv=>whnf
   refine Vg (l:=0) (h:=k) rfl rfl rfl (Zp2 _) (by omega) (by omega) ?_;conv=>whnf
   refine hk _ ?_ rfl
   show some (AObj.row 146 ((Ag X).take (0+k*2)++Bp zW (W0.length-k)++(Ag X).drop (0+k*2+(Bp zW (W0.length-k)).length)))=_
   rw [QI,Zpy,Zen,hXt,Zqf (by rw [DU];show _≤k*2+(W0.length-k)*2;omega),Zqu]
structure WA1 (x:WA) (s:St):Prop where
 ok:x.ok s
 n:1≤x.ws.length
def WA.k (x:WA):Nat:=(AG x.a x.ws).length
noncomputable def WA.o (x:WA):AObj:=.row 146 (Ag (AG x.a x.ws)++Bp zW (x.ws.length-x.k))
noncomputable def Lr:Ov:=fun args s=>open Classical in if h:∃ x:WA,WA1 x s∧args=x.args then .ok (.sl (Classical.choose h).r 0 (Classical.choose h).k none) (Ed s [(Classical.choose h).r,(Classical.choose h).q] [(Classical.choose h).o,.row 3 [.int .i64 (Classical.choose h).a]]) else .fail
theorem W6 (hx:WA1 x s):Lr x.args s=.ok (.sl x.r 0 x.k none) (Ed s [x.r,x.q] [x.o,.row 3 [.int .i64 x.a]]):=by
 have h:∃ y:WA,WA1 y s∧x.args=y.args:=⟨x,hx,rfl⟩
 unfold Lr
 rw [dif_pos h]
 obtain ⟨h1,h2⟩:=Zqy h
 rw [← WA.inj hx.ok h1.ok h2]
structure QA where
 q:Nat
 a:Int
structure QA.ok (x:QA) (s:St):Prop where
 q:s.get x.q=some (.row 3 [.int .i64 x.a])
 a:Ab x.a
noncomputable def PJ:Ov:=fun args s=>open Classical in if ∃ x:QA,x.ok s∧args=[.nils,.fn 115 [] [.ptr x.q 0]] then .ok .nils s else .fail
noncomputable def IX:Ov:=Gx Lr PJ
theorem RL {z:List AV}(h:hfs z=true):∀ n,hfs (Bp z n)=true
 | 0=>rfl
 | n+1=>by
  have:Bp z (n+1)=z++Bp z n:=by show Be z (Bp z n)=_;rw [Da]
  rw [this];exact EG h (RL h n)
theorem Xx {e:Env}(hE:EM P e) (h163:Con e 143 HO) (h137:Inl e 115 OI [.tmp 3]):OvOk P 114 IX:=by
 refine Sx ⟨g114.b,fun args s u s' hh=>?_⟩ ⟨g114.b,fun args s u s' hh=>?_⟩
 ·have hx0:∃ x:WA,WA1 x s∧args=x.args:=by
   unfold Lr at hh
   split at hh
   ·rename_i h;exact h
   ·cases hh
  obtain ⟨x,hx,rfl⟩:=hx0
  rw [W6 hx] at hh
  cases hh
  obtain ⟨r,q,ws,a⟩:=x
  obtain ⟨⟨hg,hq,hw,ha,hn⟩,h1⟩:=hx
  dsimp only at hg hq hw ha hn h1
  have hrq:r≠q:=fun e=>by
   subst e
   rw [hg] at hq;injection hq with hq;injection hq with hq _;cases hq
  have hwf:hfs (Ag ws)=true:=F1 fun w hwm=>(hw w hwm).b.1.hf
  have hkf:hfs (Ag (AG a ws)++Bp zW (ws.length-(AG a ws).length))=true:=EG (F1 fun w hwm=>(hw w (List.mem_filter.1 hwm).1).b.1.hf) (RL rfl _)
  have key:=Zem (P:=P) (f:=114) (args0:=[.sl 0 0 ws.length none,.fn 115 [] [.ptr 1 0]]) (u:=.sl 0 0 (AG a ws).length none) (os:=[.row 146 (Ag ws),.row 3 [.int .i64 a]]) (os2:=[.row 146 (Ag (AG a ws)++Bp zW (ws.length-(AG a ws).length)),.row 3 [.int .i64 a]]) (rs:=[r,q]) (s:=s)
   (by simp [hrq]) rfl (fun i o t ho ht=>by
     rcases i with _|_|i
     ·cases ho;cases ht;exact ⟨by rw [AU hwf];exact hg,Bj hwf,rfl⟩
     ·cases ho;cases ht;exact ⟨hq,rfl,rfl⟩
     ·cases ho) (fun i hi=>by
     rcases i with _|_|i
     ·rfl
     ·rfl
     ·exact absurd (show i+1+1<2 from hi) (by omega)) rfl (Zp4 _) (by simp) (fun o ho=>by
     rcases Zqt.1 ho with rfl|ho
     ·rfl
     ·rcases Zqt.1 ho with rfl|ho
      ·rfl
      ·cases ho) (C1.of_G hE g114 (Zgp hE h163 h137 ha hw hn h1 _ fun s g0 g1=>⟨[0,1],⟨rfl,by decide,⟨r9,trivial⟩,⟨⟨Bj hkf,by rw [AU hkf];exact g0⟩,⟨rfl,g1⟩,trivial⟩⟩⟩))
  refine key.mono ?_
  rintro v s' ⟨rfl,rfl⟩
  refine ⟨rfl,?_⟩
  show Ed s [r,q] [Bw _ (.row 146 (Ag (AG a ws)++Bp zW (ws.length-(AG a ws).length))),_]=_
  rw [AU hkf];rfl
 ·unfold PJ at hh
  split at hh
  ·rename_i hx
   cases hh
   obtain ⟨⟨q,a⟩,⟨hq,ha⟩,rfl⟩:=hx
   dsimp only at hq ha
   refine IE (args2:=[.nils,.fn 115 [] [.fp [.int .i64 a]]]) (.cons (.plain _ rfl) (.cons (.fn 115 [] [.ptr q 0] [] [.fp [.int .i64 a]] .nil (.cons (.ptr q 0 3 [.int .i64 a] [.int .i64 a] [.int .i64 a] hq (fun i x h=>by rw [Zpy];exact h) (.cons (.plain _ rfl) .nil)) .nil)) .nil)) rfl (Ju rfl ?_)
   refine C.of_G hE g114 ?_;conv=>whnf
   refine Zgt h163 ha ?_;conv=>whnf
   refine Il (a:=-1) (b:=-1) rfl rfl (fun _=>?_) (fun h=>absurd rfl h);conv=>whnf
   exact .plain _ rfl
  ·cases hh
theorem Zgq {e:Env}(h:Con e 114 IX) (hx:WA1 x s) (hk:K (.sl x.r 0 x.k none) (Ed s [x.r,x.q] [x.o,.row 3 [.int .i64 x.a]])):ESc e 114 x.args s K:=by
 refine ESc.ov h (v:=.sl x.r 0 x.k none) (s':=Ed s [x.r,x.q] [x.o,.row 3 [.int .i64 x.a]]) ?_ hk
 unfold IX Gx
 rw [W6 hx]
theorem Zgr {e:Env}(h:Con e 114 IX) {x:QA}(hx:x.ok s) (hk:K .nils s):ESc e 114 [.nils,.fn 115 [] [.ptr x.q 0]] s K:=by
 refine ESc.ov h (v:=.nils) (s':=s) ?_ hk
 have:Lr [.nils,.fn 115 [] [.ptr x.q 0]] s=.fail:=by
  unfold Lr
  rw [dif_neg]
  rintro ⟨x,_,h⟩
  have:=(Zpv h).1
  cases this
 unfold IX Gx
 rw [this]
 show PJ _ s=_
 unfold PJ
 rw [Zpn ⟨x,hx,rfl⟩]
def wvF (n:Nat) (L:List WR):AV:=match n with
 | 0=>.nils
 | _+1=>.fz L.length none (Ag L)
def EW (x:DKW):DK:=⟨.fz x.d.us.length none ((x.d.us.map Af).set x.a.toNat (Az (Ah x.b))),(x.d.us.map Af).set x.a.toNat (Az (Ah x.b)),x.d.bs.set x.a.toNat (Ah x.b),wvF x.d.ws.length (AG x.a (x.d.ws.map A5)),AG x.a (x.d.ws.map A5),x.d.dead⟩
def Di:List AV:=[.nils,.nils,.bool false]
def J3 (x:DKW):AV:=if BP x.d x.a x.b=0 then .tup [(EW x).v,.int .i64 0] else .tup [.agg Di,.int .i64 (BP x.d x.a x.b)]
theorem Zm4 (n:Nat) (L:List WR):AM.hf (wvF n L)=true:=by cases n <;> rfl
theorem Zdp (x:DKW):AM.hf (J3 x)=true:=by
 unfold J3
 split
 ·show ((true && (AM.hf (wvF _ _) && (true && true))) && (true && true))=true
  rw [Zm4];rfl
 ·rfl
def fuaF:Fam DKW:=⟨DKW.ok,DKW.args,J3,fun x y hx hy h=>by rw [DKW.inja hx hy h]⟩
theorem Vp {e:Nat}(h:s.get r=some (.row e cs)) (hi:i<cs.length):storeAt r (0+i*1) [v] s=some (s.put r (.row e (cs.set i v))):=by
 rw [FU h (by show 0+i*1+1≤_;omega),Zpy,Zqm,List.set_eq_take_append_cons_drop,Zpn hi]
 simp
theorem O4 {α β:Type}{R:α->β->Prop}{a:α}{b:β}(hab:R a b):∀ {l:List α}{m:List β},All2 R l m->∀ i,All2 R (l.set i a) (m.set i b)
 | _,_,.nil,i=>by simp;exact .nil
 | _,_,.cons h1 h2,0=>.cons hab h2
 | _,_,.cons h1 h2,i+1=>.cons h1 (O4 hab h2 i)
theorem Ck:∀ {l:List AV},hfs l=true->All2 (Frz s) l l
 | [],_=>.nil
 | v::l,h=>by
  simp only [hfs,Zpl] at h
  exact .cons (.plain _ h.1) (Ck h.2)
theorem Sc {b:List Nat}(h:BAt u b):BAt (Af u) b:=by
 obtain ⟨h1,h2⟩:=h
 refine ⟨?_,h2⟩
 rcases h1 with ⟨rfl,e1,e2⟩|⟨rfl,e1,e2⟩|⟨c,rfl,e⟩
 ·exact .inl ⟨rfl,e1,e2⟩
 ·exact .inr (.inr ⟨none,by show AV.fz 0 none []=_;rw [e1,e2],by rw [e2,e1];rfl⟩)
 ·exact .inr (.inr ⟨none,rfl,e⟩)
theorem Iv (h:w.any):(A5 w).any:=⟨h.at_,Sc h.b⟩
theorem Mh (hd:d.any):hfs (d.us.map Af)=true:=RM _ fun u hu=>by
 obtain ⟨k,hk⟩:=Zrd.1 hu
 obtain ⟨b,_,hb⟩:=hd.bs.get hk
 exact (Sc hb).1.hf
theorem JJ {b:List Nat}(h:BP d a b=0):AX d=true∧(0≤a∧a<d.us.length)∧Ba b.length=false∧d.dead=false:=by
 unfold BP IS at h
 by_cases h1:AX d=true
 ·rw [Zpn h1] at h
  by_cases h2:0≤a∧a<d.us.length
  ·rw [Zpn h2,Zpn rfl] at h
   by_cases h3:Ba b.length=true
   ·rw [Zpn h3] at h;cases h
   ·rw [Zpr h3] at h
    cases h4:d.dead
    ·exact ⟨h1,h2,by simpa using h3,rfl⟩
    ·rw [h4] at h;cases h
  ·rw [Zpr h2,Zpr (by decide)] at h;cases h
 ·rw [Zpr h1,Zpr (by decide)] at h;cases h
theorem Zjf {e:Env}(hE:EM P e) (h102:Con e 113 wrtF.O) (h103:Con e 66 D6) (h98:Inl e 102 KR [.tmp 2]) (h141:Inl e 119 Hr [.tmp 2]) (h136:Con e 114 IX):OvOk P 63 fuaF.O:=by
 refine C7 g63.b fun x hx=>?_
 refine ⟨DKW.hfa hx,Zdp x,C.of_G hE g63 ?_⟩
 have hfam:=fun (s:St) (K:AV->St->Prop) (hk:K (.int .i64 (BP x.d x.a x.b)) s)=>ESc.fam wrtF h102 x hx (u:=.int .i64 (BP x.d x.a x.b)) rfl hk
 by_cases h0:BP x.d x.a x.b=0
 ·obtain ⟨q1,q2,q3,q4⟩:=JJ h0
  have hbl:x.b.length=0∨x.b.length=128:=Iy q3
  have hdk1:DK1 x.d:=⟨hx.d,by omega⟩
  have htw:=K5 hdk1
  have hUf:=Mh hx.d.a
  have hWa:∀ w ∈ x.d.ws.map A5,w.any:=fun w hw=>by
   obtain ⟨v,hv,rfl⟩:=Zqj.1 hw
   exact Iv (hx.d.a.ws v hv)
  have hout:fuaF.out x=.tup [(EW x).v,.int .i64 0]:=by show J3 x=_;unfold J3;rw [Zpn h0]
  rw [h0] at hfam
  rw [hout]
  obtain ⟨⟨bv,us,bs,wv,ws,dd⟩,a,u,b⟩:=x
  obtain ⟨hd,ha,hbt,hbn⟩:=hx
  dsimp only at q2 q4 hbl htw hUf hWa ha hbt hbn
  subst q4
  obtain ⟨n,rfl⟩:∃ n:Nat,a=(n:Int):=⟨a.toNat,by omega⟩
  have hn:n<us.length:=by omega
  have hfB:∀ (s:St) r cp,s.get r=some (.row 5 (Ad (Ah b)))->Frz s (.sl r 0 128 cp) (Az (Ah b)):=fun s r cp h=>.sl r 0 128 cp none 5 _ (Ad (Ah b)) _ h (fun i x h=>by rw [Zpy];exact h) (Mw _) (.inl rfl)
  have hbk:∀ (s:St) r cp,s.get 3=some (.row 76 ((us.map Af).set n (.sl r 0 128 cp)))->s.get r=some (.row 5 (Ad (Ah b)))->Frz s (.sl 3 0 us.length none) (.fz us.length none ((us.map Af).set n (Az (Ah b)))):=fun s r cp h1 h2=>
   .sl 3 0 us.length none none 76 _ ((us.map Af).set n (.sl r 0 128 cp)) _ h1 (fun i x h=>by rw [Zpy];exact h) (O4 (hfB s r cp h2) (Ck hUf) n) (.inl rfl)
  have hset:∀ (s:St) v,s.get 3=some (.row 76 (us.map Af))->storeAt 3 (0+n*1) [v] s=some (s.put 3 (.row 76 ((us.map Af).set n v))):=fun s v h=>Vp h (by rw [Zpq];exact hn)
  have hwm:=hd.m
  clear q1 q3 hout
  show VW P e 0 (match NE with|.mk c _=>c) (An [.agg [bv,wv,.bool false],.int .i64 (n:Int),u] 0 .lf) St0 none [] _
  have hfam:∀ (s:St) (K:AV->St->Prop),K (.int .i64 0) s->ESc e 113 [.agg [bv,wv,.bool false],.int .i64 (n:Int),u] s K:=hfam
  rcases ws with _|⟨w0,ws⟩
  ·have htw:∀ s,D6 [.agg [bv,wv,.bool false]] s=.ok (.agg [.sl (0+s.next) 0 us.length none,.nils,.bool false]) (Aj s [.row 76 (us.map Af)]):=htw
   have fin:∀ (s:St) r cp,s.get 3=some (.row 76 ((us.map Af).set n (.sl r 0 128 cp)))->s.get r=some (.row 5 (Ad (Ah b)))->Frz s (.tup [.agg [.sl 3 0 us.length none,.nils,.bool false],.int .i64 0]) (.tup [(EW ⟨⟨bv,us,bs,wv,[],false⟩,(n:Int),u,b⟩).v,.int .i64 0]):=fun s r cp h1 h2=>
    .tup _ _ (.cons (.agg _ _ (.cons (hbk s r cp h1 h2) (.cons (.plain _ rfl) (.cons (.plain _ rfl) .nil)))) (.cons (.plain _ rfl) .nil))
   have hdel:∀ (s:St) (K:AV->St->Prop),s.get 1=some (.row 3 [.int .i64 (n:Int)])->K .nils s->ESc e 114 [.nils,.fn 115 [] [.ptr 1 0]] s K:=fun s K h1 hk=>Zgr h136 (x:=⟨1,(n:Int)⟩) ⟨h1,ha⟩ hk
   conv=>whnf
   refine hfam _ _ ?_;conv=>whnf
   repeat' (first|refine Al ?_ ?_|(intro _;first|omega|conv=>whnf))
   refine ESc.ov h103 (htw _) ?_;conv=>whnf
   refine K1 h98 h141 hbt hbl (by show 4<1000000;decide) (fun h0=>?_) (fun h1=>?_)
   ·conv=>whnf
    repeat' (first|((first|refine He (i:=n) rfl rfl hn ?_|refine BE _ (hset _ _ rfl) ?_|refine hdel _ _ rfl ?_|refine ⟨rfl,?_⟩);conv=>whnf)|fail)
    exact fin _ _ _ rfl rfl
   ·conv=>whnf
    repeat' (first|((first|refine He (i:=n) rfl rfl hn ?_|refine BE _ (hset _ _ rfl) ?_|refine hdel _ _ rfl ?_|refine ⟨rfl,?_⟩);conv=>whnf)|fail)
    exact fin _ _ _ rfl rfl
  ·have htw:∀ s,D6 [.agg [bv,wv,.bool false]] s=.ok (.agg [.sl (0+s.next) 0 us.length none,.sl (1+s.next) 0 (ws.length+1) none,.bool false]) (Aj s [.row 76 (us.map Af),.row 146 (Ag ((w0::ws).map A5))]):=htw
   have hkf:hfs (Ag (AG (n:Int) ((w0::ws).map A5)))=true:=F1 fun w hw=>(hWa w (List.mem_filter.1 hw).1).b.1.hf
   have hkl:(AG (n:Int) ((w0::ws).map A5)).length≤ws.length+1:=by
    have:=Rn (n:Int) ((w0::ws).map A5)
    rw [Zpq] at this;exact this
   have fin:∀ (s:St) r cp,s.get 3=some (.row 76 ((us.map Af).set n (.sl r 0 128 cp)))->s.get r=some (.row 5 (Ad (Ah b)))->s.get 4=some (WA.o ⟨4,1,(w0::ws).map A5,(n:Int)⟩)->Frz s (.tup [.agg [.sl 3 0 us.length none,.sl 4 0 (WA.k ⟨4,1,(w0::ws).map A5,(n:Int)⟩) none,.bool false],.int .i64 0]) (.tup [(EW ⟨⟨bv,us,bs,wv,w0::ws,false⟩,(n:Int),u,b⟩).v,.int .i64 0]):=fun s r cp h1 h2 h3=>
    .tup _ _ (.cons (.agg _ _ (.cons (hbk s r cp h1 h2) (.cons (.sl 4 0 _ none none 146 _ (Ag (AG (n:Int) ((w0::ws).map A5))) _ h3 (fun i x h=>by
     rw [Zpy,Zp3 (Zpk.1 h).1];exact h) (Ck hkf) (.inl rfl)) (.cons (.plain _ rfl) .nil)))) (.cons (.plain _ rfl) .nil))
   have hdel:∀ (s:St) (K:AV->St->Prop),s.get 4=some (.row 146 (Ag ((w0::ws).map A5)))->s.get 1=some (.row 3 [.int .i64 (n:Int)])->K (.sl 4 0 (WA.k ⟨4,1,(w0::ws).map A5,(n:Int)⟩) none) (Ed s [4,1] [WA.o ⟨4,1,(w0::ws).map A5,(n:Int)⟩,.row 3 [.int .i64 (n:Int)]])->ESc e 114 [.sl 4 0 (ws.length+1) none,.fn 115 [] [.ptr 1 0]] s K:=fun s K h4 h1 hk=>by
    have:=Zgq h136 (x:=⟨4,1,(w0::ws).map A5,(n:Int)⟩) ⟨⟨h4,h1,hWa,ha,by dsimp only;rw [Zpq];exact hwm⟩,by simp⟩ hk
    have ea:WA.args ⟨4,1,(w0::ws).map A5,(n:Int)⟩=[.sl 4 0 (ws.length+1) none,.fn 115 [] [.ptr 1 0]]:=by unfold WA.args;simp
    rw [ea] at this
    exact this
   conv=>whnf
   refine hfam _ _ ?_;conv=>whnf
   repeat' (first|refine Al ?_ ?_|(intro _;first|omega|conv=>whnf))
   refine ESc.ov h103 (htw _) ?_;conv=>whnf
   refine K1 h98 h141 hbt hbl (by show 5<1000000;decide) (fun h0=>?_) (fun h1=>?_)
   ·conv=>whnf
    repeat' (first|((first|refine He (i:=n) rfl rfl hn ?_|refine BE _ (hset _ _ rfl) ?_|refine hdel _ _ rfl rfl ?_|refine ⟨rfl,?_⟩);conv=>whnf)|fail)
    exact fin _ _ _ rfl rfl rfl
   ·conv=>whnf
    repeat' (first|((first|refine He (i:=n) rfl rfl hn ?_|refine BE _ (hset _ _ rfl) ?_|refine hdel _ _ rfl rfl ?_|refine ⟨rfl,?_⟩);conv=>whnf)|fail)
    exact fin _ _ _ rfl rfl rfl
 ·have hout:fuaF.out x=.tup [.agg Di,.int .i64 (BP x.d x.a x.b)]:=by show J3 x=_;unfold J3;rw [Zpr h0]
  rw [hout]
  obtain ⟨E,hE'⟩:∃ E,E=BP x.d x.a x.b:=⟨_,rfl⟩
  rw [← hE'] at h0 hfam ⊢
  obtain ⟨⟨bv,us,bs,wv,ws,dd⟩,a,u,b⟩:=x
  have hfam:∀ (s:St) (K:AV->St->Prop),K (.int .i64 E) s->ESc e 113 [.agg [bv,wv,.bool dd],.int .i64 a,u] s K:=hfam
  show VW P e 0 (match NE with|.mk c _=>c) (An [.agg [bv,wv,.bool dd],.int .i64 a,u] 0 .lf) St0 none [] _
  conv=>whnf
  refine hfam _ _ ?_;conv=>whnf
  refine Kq (a:=E) (b:=0) rfl rfl (fun _=>?_) (fun h=>absurd h h0);conv=>whnf
  skip
  exact .plain _ rfl
end Go.AM
namespace Go.AM
open X
theorem Sv {bs:List Nat}(hb:∀ b ∈ bs,b<256):∀ b ∈ Ah bs,b<256:=by
 unfold Ah
 split
 ·intro b hb';rw [Zrh hb'];decide
 ·exact hb
end Go.AM
namespace Go.AM
attribute [local irreducible] W
open X
structure UB where
 u:AV
 b:List Nat
structure UB.ok (x:UB):Prop where
 b:BAt x.u x.b
 l:x.b.length=0∨x.b.length=128
structure RdS where
 S:List (Int×List Nat)
 p:Option (List Nat)
structure RdS.ok (x:RdS):Prop where
 n:x.S.length≤17
 s:∀ p ∈ x.S,(0≤p.1∧p.1<256)∧p.2.length=128∧∀ y ∈ p.2,y<256
 p:∀ b,x.p=some b->b.length=128∧∀ y ∈ b,y<256
theorem Zm8 {b:List Nat}(h:b.length=128∧∀ y ∈ b,y<256):BAt (Az b) b:=⟨.inr (.inr ⟨none,by rw [h.1];rfl,by rw [B2];omega⟩),h.2⟩
section
variable {t:AT}{s:St}{k:AV->St->Prop}{x y:AO}
end
end Go.AM
namespace Go.AM
attribute [local irreducible] W
open X
theorem OW {b:List Nat}(h:b.length=0∨b.length=128) (hb:∀ y ∈ b,y<256):BAt (Az (Ah b)) (Ah b)∧(Ah b).length=128:=by
 have hl:=LT h
 exact ⟨Zm8 ⟨hl,Sv hb⟩,hl⟩
theorem K2 {us:List AV}{bs:List (List Nat)}(h:All2 BAt us bs):All2 BAt (us.map Af) bs:=by
 induction h with
 | nil=>exact .nil
 | cons a b ih=>exact .cons (Sc a) ih
variable {a:Int}
theorem Oh {L:List WR}{w:WR}(h:w ∈ AG a (L.map A5)):∃ v ∈ L,w=A5 v∧v.at_≠a:=by
 obtain ⟨h1,h2⟩:=List.mem_filter.1 h
 obtain ⟨v,hv,rfl⟩:=Zqj.1 h1
 refine ⟨v,hv,rfl,fun e=>?_⟩
 unfold D5 at h2
 simp at h2
 exact h2 e
theorem Zlm (n:Nat) (L:List WR) (h:L.length≤n):Sl 2 L.length (Ag L) (wvF n L):=by
 cases n with
 | zero=>
  have:L=[]:=Zqh.1 (by omega)
  subst this;exact .inl ⟨rfl,rfl,rfl⟩
 | succ n=>exact .inr (.inr ⟨none,rfl,DU L⟩)
variable {x:DKW}
theorem Xn (hx:x.ok) (h:BP x.d x.a x.b=0):(EW x).ok:=by
 obtain ⟨q1,q2,q3,q4⟩:=JJ h
 have hbl:=Iy q3
 obtain ⟨p1,p2⟩:=OW hbl hx.b.2
 have hkl:=Rn x.a (x.d.ws.map A5)
 rw [Zpq] at hkl
 have hm:=hx.d.m
 refine ⟨⟨?_,O4 p1 (K2 hx.d.a.bs) _,Zlm _ _ hkl,fun w hw=>?_⟩,?_,?_,fun b hb=>?_,fun w hw=>?_⟩
 ·refine .inr (.inr ⟨none,?_,by rw [Zqm]⟩)
  show AV.fz x.d.us.length none _=.fz ((x.d.us.map Af).set _ _).length none _
  rw [List.length_set,Zpq];rfl
 ·obtain ⟨v,hv,rfl,_⟩:=Oh hw
  exact Iv (hx.d.a.ws v hv)
 ·show ((x.d.us.map Af).set _ _).length<_
  rw [List.length_set,Zpq];exact hx.d.n
 ·show (AG x.a (x.d.ws.map A5)).length<_;omega
 ·rcases List.mem_or_eq_of_mem_set hb with h|rfl
  ·exact hx.d.b b h
  ·omega
 ·obtain ⟨v,hv,rfl,_⟩:=Oh hw
  exact hx.d.w v hv
theorem Rp (x:DKW):(EW x).us.length=x.d.us.length:=by
 show ((x.d.us.map Af).set _ _).length=_
 rw [List.length_set,Zpq]
theorem dskB_iff {x:DK}:AX x=true↔(1≤x.us.length∧x.us.length≤256∧x.ws.length≤1024)∧(∀ b ∈ x.bs,Ba b.length=false)∧(∀ w ∈ x.ws,Bt x.us.length w=false)∧(x.dead=true->x.ws.length=0∧∀ b ∈ x.bs,ER b.length=false):=by
 unfold AX
 simp only [Zpl,Zqg,Bool.not_eq_true',List.any_eq_false,Zqj,forall_exists_index,and_imp,forall_apply_eq_imp_iff₂,Zrj,Bool.and_eq_false_iff,Zq4,Zqp]
 constructor
 ·rintro ⟨⟨⟨h1,h2⟩,h3⟩,h4⟩
  refine ⟨h1,h2,h3,fun hd=>?_⟩
  rcases h4 with h4|⟨h4,h5⟩
  ·rw [hd] at h4;cases h4
  ·exact ⟨by omega,h5⟩
 ·rintro ⟨h1,h2,h3,h4⟩
  refine ⟨⟨⟨h1,h2⟩,h3⟩,?_⟩
  cases hd:x.dead
  ·exact .inl rfl
  ·obtain ⟨h5,h6⟩:=h4 hd
   exact .inr ⟨by omega,h6⟩
theorem Zf6 (hx:x.ok) (h:BP x.d x.a x.b=0):AX (EW x)=true:=by
 obtain ⟨q1,q2,q3,q4⟩:=JJ h
 obtain ⟨d1,d2,d3,d4⟩:=dskB_iff.1 q1
 have hbl:=Iy q3
 obtain ⟨p1,p2⟩:=OW hbl hx.b.2
 have hkl:=Rn x.a (x.d.ws.map A5)
 rw [Zpq] at hkl
 refine dskB_iff.2 ⟨?_,fun b hb=>?_,fun w hw=>?_,fun hd=>?_⟩
 ·rw [Rp]
  have:(EW x).ws.length≤x.d.ws.length:=hkl
  omega
 ·rcases List.mem_or_eq_of_mem_set hb with h|rfl
  ·exact d2 b h
  ·rw [p2];rfl
 ·rw [Rp]
  obtain ⟨v,hv,rfl,_⟩:=Oh hw
  exact d3 v hv
 ·have hd:x.d.dead=true:=hd
  rw [q4] at hd;cases hd
variable {p:Int}
theorem Zbm (hp:p≠a) (L:List WR):Cl p (AG a (L.map A5)).reverse=Cl p L.reverse:=by
 have h1:(AG a (L.map A5)).reverse=AG a (L.reverse.map A5):=by unfold AG;rw [← List.filter_reverse,← List.map_reverse]
 rw [h1]
 generalize L.reverse=M
 induction M with
 | nil=>rfl
 | cons w M ih=>
  rw [Zqz]
  by_cases ha:w.at_=a
  ·have e:AG a (A5 w::M.map A5)=AG a (M.map A5):=by
    unfold AG D5;rw [List.filter_cons_of_neg];show ¬ (!decide (w.at_=a))=true;simp [ha]
   rw [e,ih]
   show _=if w.at_=p then _ else _
   rw [Zpr (fun e:w.at_=p=>hp (by rw [← e,ha]))]
  ·have e:AG a (A5 w::M.map A5)=A5 w::AG a (M.map A5):=by
    unfold AG D5;rw [List.filter_cons_of_pos];show (!decide (w.at_=a))=true;simp [ha]
   rw [e]
   show (if w.at_=p then some w.b else _)=if w.at_=p then some w.b else _
   rw [ih]
theorem Zbl (hp:p=a) (L:List WR):Cl p (AG a (L.map A5)).reverse=none:=by
 have hno:∀ M:List WR,(∀ w ∈ M,w.at_≠p)->Cl p M=none:=fun M=>by
  induction M with
  | nil=>intro _;rfl
  | cons w M ih=>
   intro h
   show (if w.at_=p then _ else _)=_
   rw [Zpr (h w (by simp)),ih fun v hv=>h v (by simp [hv])]
 refine hno _ fun w hw=>?_
 obtain ⟨v,_,rfl,hv⟩:=Oh (List.mem_reverse.1 hw)
 rw [hp];exact hv
theorem Zgn (hx:x.ok) (h:BP x.d x.a x.b=0) (hp:0≤p):DJ (EW x) p=if p=x.a then Ah x.b else DJ x.d p:=by
 obtain ⟨q1,q2,q3,q4⟩:=JJ h
 have hl:=hx.d.a.bs.length
 unfold DJ FK
 by_cases hpa:p=x.a
 ·rw [Zpn hpa]
  show (Cl p (AG x.a (x.d.ws.map A5)).reverse).getD ((x.d.bs.set x.a.toNat (Ah x.b)).getD p.toNat [])=_
  rw [Zbl hpa,hpa]
  show (x.d.bs.set x.a.toNat (Ah x.b)).getD x.a.toNat []=_
  rw [Zqc,List.getElem?_set_self (by omega)];rfl
 ·rw [Zpr hpa]
  show (Cl p (AG x.a (x.d.ws.map A5)).reverse).getD ((x.d.bs.set x.a.toNat (Ah x.b)).getD p.toNat [])=_
  rw [Zbm hpa]
  congr 1
  rw [Zqc,Zqc,List.getElem?_set_ne (by omega)]
def sizF:Fam BN:=⟨BN.ok,fun x=>[x.v],fun x=>.bool (!Ba x.n),fun x y hx hy h=>by rw [BN.inj hx hy h]⟩
variable {e:Env}
theorem Za0 (hE:EM P e):OvOk P 128 sizF.O:=by
 refine C7 g128.b ?_
 rintro ⟨v,n⟩ hx
 obtain ⟨⟨l,hv⟩,hn⟩:=hx
 dsimp only at hv hn
 refine ⟨by show (AM.hf v && true)=true;rw [hv.hf];rfl,rfl,C.of_G hE g128 ?_⟩
 have fin:∀ s (b:Bool),b=!Ba n->Frz s (.bool b) (sizF.out ⟨v,n⟩):=by
  rintro s b rfl;exact .plain _ rfl
 unfold Ba at fin
 show VW P e 0 (match N1 with|.mk c _=>c) (An [v] 0 .lf) St0 none [] _
 conv=>whnf
 repeat' (first|((first|refine Am hv ?_|refine Ac ?_|refine AL ?_|refine CW ?_|refine CS ?_|refine CQ ?_|refine Au ?_|refine Av ?_|refine Cp ?_|refine CJ ?_|refine De ?_|refine Cx ?_|refine CP ?_|refine Dg ?_|refine Cw ?_|refine ⟨rfl,?_⟩);conv=>whnf)|refine Aa ?_ ?_|refine B8 ?_ ?_|refine Ax ?_ ?_|refine AR ?_ ?_|refine Ap ?_ ?_|refine Al ?_ ?_|(refine w19 rfl ?_ ?_ <;> intro hc <;> (try subst hc) <;> conv=>whnf)|(intro _;first|omega|conv=>whnf))
 all_goals first
  | exact fin _ _ (by rw [Zpo (by omega),Zpo (by omega)];rfl)
  | exact fin _ _ (by rw [Zpo (by omega),Zp0 (by omega)];rfl)
  | exact fin _ _ (by rw [Zp0 (by omega)];rfl)
def Zky:AC:=match Qm with|.mk c _=>c
def Zkx:AC:=match Nz with|.mk c _=>c
def mayRF:Fam Cfg:=⟨Cfg.ok,fun x=>[x.v],fun x=>.bool (decide x.may),fun x y _ _ h=>by rw [Ix (Zpv h).1]⟩
theorem Zfj (hE:EM P e) (h108:Inl e 163 Zky [.tmp 6]) (h109:Inl e 164 Zkx [.tmp 2]):OvOk P 120 mayRF.O:=by
 refine C7 g120.b ?_
 rintro ⟨id,members,chunk,rows,log,heads⟩ ⟨h1,h2,h3,h4,h5,h6⟩
 unfold Ab at h2 h3 h4 h5 h6
 dsimp only at h2 h3 h4 h5 h6
 refine ⟨rfl,rfl,C.of_G hE g120 ?_⟩
 have fin1:∀ s,((3≤members∧members≤16)∧(1≤chunk∧chunk≤8)∧(1≤rows∧rows≤8)∧(2≤heads∧heads≤8)∧(members+1)*(heads+1)≤log∧log≤255)->Frz s (.bool true) (mayRF.out ⟨id,members,chunk,rows,log,heads⟩):=by
  intro s h
  show Frz s _ (.bool (decide (Cfg.may ⟨id,members,chunk,rows,log,heads⟩)))
  rw [Zpo (show Cfg.may ⟨id,members,chunk,rows,log,heads⟩ from h)];exact .plain _ rfl
 have fin0:∀ s,¬ ((3≤members∧members≤16)∧(1≤chunk∧chunk≤8)∧(1≤rows∧rows≤8)∧(2≤heads∧heads≤8)∧(members+1)*(heads+1)≤log∧log≤255)->Frz s (.bool false) (mayRF.out ⟨id,members,chunk,rows,log,heads⟩):=by
  intro s h
  show Frz s _ (.bool (decide (Cfg.may ⟨id,members,chunk,rows,log,heads⟩)))
  rw [Zp0 (show ¬ Cfg.may ⟨id,members,chunk,rows,log,heads⟩ from h)];exact .plain _ rfl
 show VW P e 0 (match Z3 with|.mk c _=>c) (An [AV.agg [.int .u32 id,.int .i64 members,.int .i64 chunk,.int .i64 rows,.int .i64 log,.int .i64 heads]] 0 .lf) St0 none [] _
 conv=>whnf
 repeat' (first|((first|refine ESc.inl h108 ?_|refine ESc.inl h109 ?_|refine Cs rfl rfl (DW (by omega) (by omega)) ?_|refine Jn rfl ?_|refine Ik rfl ?_|refine Ac ?_|refine AL ?_|refine CW ?_|refine CS ?_|refine CQ ?_|refine Au ?_|refine Av ?_|refine Cp ?_|refine CJ ?_|refine De ?_|refine Cx ?_|refine CP ?_|refine Dg ?_|refine Cw ?_|refine ⟨rfl,?_⟩);conv=>whnf)|refine Aa ?_ ?_|refine B8 ?_ ?_|refine Ax ?_ ?_|refine AR ?_ ?_|refine Ap ?_ ?_|refine Al ?_ ?_|(refine w19 rfl ?_ ?_ <;> intro hc <;> (try subst hc) <;> conv=>whnf)|(intro _;first|omega|conv=>whnf))
 all_goals first
  | exact fin0 _ (by omega)
  | exact fin1 _ (by omega)
  | skip
theorem W5 (x:DK):AX x=true↔(1≤x.us.length∧x.us.length≤256∧x.ws.length≤1024)∧(∀ b ∈ x.bs,Ba b.length=false)∧(∀ w ∈ x.ws,Bt x.us.length w=false)∧(x.dead=true->x.ws.length=0∧∀ b ∈ x.bs,b.length=0):=by
 unfold AX
 simp only [Zpl,Bool.not_eq_true',Zqg,List.any_eq_false,Zqj]
 constructor
 ·rintro ⟨⟨⟨h1,h2⟩,h3⟩,h4⟩
  refine ⟨h1,fun b hb=>by simpa using h2 _ ⟨b,hb,rfl⟩,fun w hw=>by simpa using h3 w hw,fun hd=>?_⟩
  rw [hd] at h4
  simp only [Bool.true_and,Zq4,Zqp,List.any_eq_false,Zqj] at h4
  exact ⟨by omega,fun b hb=>by have:=h4.2 _ ⟨b,hb,rfl⟩;unfold ER at this;simpa using this⟩
 ·rintro ⟨h1,h2,h3,h4⟩
  refine ⟨⟨⟨h1,?_⟩,fun w hw=>by simpa using h3 w hw⟩,?_⟩
  ·rintro _ ⟨b,hb,rfl⟩;simpa using h2 b hb
  ·cases hd:x.dead with
   | false=>rfl
   | true=>
    obtain ⟨h5,h6⟩:=h4 hd
    simp only [Bool.true_and,Zq4,Zqp,List.any_eq_false,Zqj]
    refine ⟨by omega,?_⟩
    rintro _ ⟨b,hb,rfl⟩
    unfold ER
    have:=h6 b hb
    simp [this]
def dmayF:Fam DK:=⟨DK.ok,fun x=>[x.v],fun x=>.bool (AX x),fun x y hx hy h=>by rw [DK.inj hx.a hy.a (Zpv h).1]⟩
theorem Uu {α:Type}{l:List α}{i:Nat}{x y:α}(h:l[i]?=some x) (hy:y ∈ l.take (i+1)):y ∈ l.take i∨y=x:=by
 have hlt:=(Zpk.1 h).1
 rw [Zpw hlt] at hy
 rcases Zqb.1 hy with hy|hy
 ·exact .inl hy
 ·rw [Zpj hlt] at h
  cases h
  simp at hy;exact .inr hy
def X2:AC:=match a77 with|.mk c _=>c
def WQ:AC:=match X2 with
 | .seq _ (.seq _ r)=>r
 | _=>.skip
theorem Zdt (hE:EM P e) (h148:Con e 128 sizF.O) {x:DK}(hx:x.ok) {K:AV->St->Prop}(hT:1≤x.us.length∧x.us.length≤256∧x.ws.length≤1024) (hdd:x.dead=true->x.ws.length=0)
 (k1:AX x=true->∀ s,K (.bool true) s) (k0:¬ AX x=true->∀ s,K (.bool false) s):W P 0 none WQ (A6 [(1,.ptr 0 0)]) (Aj St0 [.row 60 x.c]) [] (BS [.tmp 2] K):=by
 rw [W5] at k0 k1
 obtain ⟨⟨hbl,hbs,hwl,hws⟩,hn,hm',hb',hw'⟩:=hx
 obtain ⟨bv,us,bs,wv,ws,dd⟩:=x
 dsimp only at hbl hbs hwl hws hn hm' hb' hw' k0 k1 hT hdd
 have hdf:hfs [bv,wv,.bool dd]=true:=N4 hwl hbl
 have hbn:=hbs.length
 refine Hz hE ?_
 show VW P e 0 WQ (A6 [(1,.ptr 0 0)]) (Aj St0 [.row 60 [bv,wv,.bool dd]]) none [] _
 conv=>whnf
 refine DZ (α:=Nat) (fun i=>[(1,.ptr 0 0),(3,.int .i64 (i:Int))]) (fun _=>[.row 60 [bv,wv,.bool dd]]) (fun i=>us.length-i) (fun i=>i≤us.length∧∀ b ∈ bs.take i,Ba b.length=false∧(dd=true->b.length=0)) 0 ⟨Zp2 _,fun b hb=>by simp at hb⟩
  (Abs.tells (rs:=[0]) .a) ?_
 rintro i ⟨hi,hI⟩
 refine Ca hE ?_
 by_cases hlt:i<us.length
 ·obtain ⟨b,hb1,hb2⟩:=hbs.get (Zpj hlt)
  have hbm:=Zp5 hb1
  have hbl2:=hb' b hbm
  have hnxt:Ba b.length=false∧(dd=true->b.length=0)->∀ b ∈ bs.take (i+1),Ba b.length=false∧(dd=true->b.length=0):=fun h c hc=>by
   rcases Uu hb1 hc with hc|rfl
   ·exact hI c hc
   ·exact h
  have hno:(Ba b.length=true∨(dd=true∧b.length≠0))->∀ s,K (.bool false) s:=fun h=>k0 (by
   rintro ⟨_,h2,_,h4⟩
   rcases h with h|⟨h,h'⟩
   ·rw [h2 b hbm] at h;cases h
   ·exact h' ((h4 h).2 b hbm))
  have q1:((us.drop (i*1)))[0]?=some us[i]:=by rw [Zqm,Zpu,Zqs,Zpj hlt]
  have hall:=And.intro q1 hb2
  clear q1 hb2
  revert hall
  generalize us[i]=u
  rintro ⟨q1,hb2⟩
  clear k0 k1 hI
  have hend:(∀ b ∈ bs.take (i+1),Ba b.length=false∧(dd=true->b.length=0))->∀ t s,t.get 1=some (.ptr 0 0)->t.get 3=some (.int .i64 ((i:Int)+1))->s.get 0=some (.row 60 [bv,wv,.bool dd])->
   ∃ x',(x'≤us.length∧∀ b ∈ bs.take x',Ba b.length=false∧(dd=true->b.length=0))∧us.length-x'<us.length-i∧Tells P 0 t s [] (A6 [(1,.ptr 0 0),(3,.int .i64 (x':Int))]) (Aj St0 [.row 60 [bv,wv,.bool dd]]) []:=fun h0 t s g1 g3 gr=>
   ⟨i+1,⟨hlt,h0⟩,by omega,Abs.tells (rs:=[0]) ⟨by decide,⟨⟨rfl,g1⟩,⟨rfl,g3⟩,trivial⟩,⟨⟨Bj hdf,by rw [AU hdf];exact gr⟩,trivial⟩⟩⟩
  conv=>whnf
  refine Am hbl ?_;conv=>whnf
  refine Bl (a:=(i:Int)) (b:=(us.length:Int)) rfl rfl (fun _=>?_) (fun h=>by omega);conv=>whnf
  refine Cz rfl hbl rfl hlt ?_;conv=>whnf
  refine EHead.mk (v:=u) q1 ?_;conv=>whnf
  refine ESc.fam sizF h148 ⟨u,b.length⟩ ⟨⟨_,hb2.1⟩,by dsimp only;omega⟩ (u:=.bool (!Ba b.length)) rfl ?_
  cases ho:Ba b.length
  ·conv=>whnf
   refine Jn rfl ?_;conv=>whnf
   cases dd
   ·repeat' (first|((first|refine Ac ?_|refine AL ?_|refine CW ?_|refine CS ?_|refine CQ ?_|refine Au ?_|refine Av ?_|refine Cp ?_|refine CJ ?_|refine De ?_|refine Cx ?_|refine CP ?_|refine Dg ?_|refine Cw ?_|refine ⟨rfl,?_⟩);conv=>whnf)|refine Aa ?_ ?_|refine B8 ?_ ?_|refine Ax ?_ ?_|refine AR ?_ ?_|refine Ap ?_ ?_|refine Al ?_ ?_|(refine w19 rfl ?_ ?_ <;> intro hc <;> (try subst hc) <;> conv=>whnf)|(intro _;first|omega|conv=>whnf))
    exact hend (hnxt ⟨ho,fun h=>by cases h⟩) _ _ rfl rfl rfl
   ·repeat' (first|((first|refine Cz rfl hbl rfl hlt ?_|refine EHead.mk (v:=u) q1 ?_|refine AD rfl hb2.1 ?_|refine Ac ?_|refine AL ?_|refine CW ?_|refine CS ?_|refine CQ ?_|refine Au ?_|refine Av ?_|refine Cp ?_|refine CJ ?_|refine De ?_|refine Cx ?_|refine CP ?_|refine Dg ?_|refine Cw ?_|refine ⟨rfl,?_⟩);conv=>whnf)|refine Aa ?_ ?_|refine B8 ?_ ?_|refine Ax ?_ ?_|refine AR ?_ ?_|refine Ap ?_ ?_|refine Al ?_ ?_|(refine w19 rfl ?_ ?_ <;> intro hc <;> (try subst hc) <;> conv=>whnf)|(intro _;first|omega|conv=>whnf))
    ·exact hno (.inr ⟨rfl,by omega⟩) _
    ·exact hend (hnxt ⟨ho,fun _=>by omega⟩) _ _ rfl rfl rfl
  ·conv=>whnf
   refine Ik rfl ?_;conv=>whnf
   repeat' (first|((first|refine Ac ?_|refine AL ?_|refine CW ?_|refine CS ?_|refine CQ ?_|refine Au ?_|refine Av ?_|refine Cp ?_|refine CJ ?_|refine De ?_|refine Cx ?_|refine CP ?_|refine Dg ?_|refine Cw ?_|refine ⟨rfl,?_⟩);conv=>whnf)|refine Aa ?_ ?_|refine B8 ?_ ?_|refine Ax ?_ ?_|refine AR ?_ ?_|refine Ap ?_ ?_|refine Al ?_ ?_|(refine w19 rfl ?_ ?_ <;> intro hc <;> (try subst hc) <;> conv=>whnf)|(intro _;first|omega|conv=>whnf))
   exact hno (.inl ho) _
 ·have hI':∀ b ∈ bs,Ba b.length=false∧(dd=true->b.length=0):=by rw [Zps (by omega)] at hI;exact hI
  clear hI
  conv=>whnf
  refine Am hbl ?_;conv=>whnf
  refine Bl (a:=(i:Int)) (b:=(us.length:Int)) rfl rfl (fun _=>by omega) (fun h=>?_);conv=>whnf
  refine DZ (α:=Nat) (fun i=>[(1,.ptr 0 0),(4,.int .i64 (i:Int))]) (fun _=>[.row 60 [bv,wv,.bool dd]]) (fun i=>ws.length-i) (fun i=>i≤ws.length∧∀ w ∈ ws.take i,Bt us.length w=false) 0 ⟨Zp2 _,fun b hb=>by simp at hb⟩
   (Abs.tells (rs:=[0]) .a) ?_
  rintro j ⟨hj,hJ⟩
  refine Ca hE ?_
  by_cases hjlt:j<ws.length
  ·have hd:=GY hjlt
   have hwa:=hws _ (Zqk hjlt)
   have hwl2:=hw' _ (Zqk hjlt)
   have hnxt:Bt us.length ws[j]=false->∀ w ∈ ws.take (j+1),Bt us.length w=false:=fun h c hc=>by
    rcases Uu (Zpj hjlt) hc with hc|rfl
    ·exact hJ c hc
    ·exact h
   have hno:Bt us.length ws[j]=true->∀ s,K (.bool false) s:=fun h=>k0 (by
    rintro ⟨_,_,h3,_⟩
    rw [h3 _ (Zqk hjlt)] at h;cases h)
   have hall:=And.intro hd (And.intro hwa (And.intro hwl2 (And.intro hnxt hno)))
   clear hd hwa hwl2 hnxt hno
   revert hall
   generalize ws[j]=w
   obtain ⟨wa,wu,wb⟩:=w
   rintro ⟨hd,⟨hwa,hwb⟩,hwl2,hnxt,hno⟩
   have hd:(Ag ws).drop (j*2)=[.int .i64 wa,wu]++Ag (ws.drop (j+1)):=hd
   unfold Bt at hnxt hno
   dsimp only at hwa hwb hwl2 hnxt hno
   clear k0 k1 hJ hI'
   have hend:(∀ w ∈ ws.take (j+1),(decide (w.at_<0) || decide ((us.length:Int)≤w.at_) || Ba w.b.length)=false)->∀ t s,t.get 1=some (.ptr 0 0)->t.get 4=some (.int .i64 ((j:Int)+1))->s.get 0=some (.row 60 [bv,wv,.bool dd])->
    ∃ x',(x'≤ws.length∧∀ w ∈ ws.take x',Bt us.length w=false)∧ws.length-x'<ws.length-j∧Tells P 0 t s [] (A6 [(1,.ptr 0 0),(4,.int .i64 (x':Int))]) (Aj St0 [.row 60 [bv,wv,.bool dd]]) []:=fun h0 t s g1 g3 gr=>
    ⟨j+1,⟨hjlt,h0⟩,by omega,Abs.tells (rs:=[0]) ⟨by decide,⟨⟨rfl,g1⟩,⟨rfl,g3⟩,trivial⟩,⟨⟨Bj hdf,by rw [AU hdf];exact gr⟩,trivial⟩⟩⟩
   conv=>whnf
   refine Am hwl ?_;conv=>whnf
   refine Bl (a:=(j:Int)) (b:=(ws.length:Int)) rfl rfl (fun _=>?_) (fun h=>by omega);conv=>whnf
   refine Cz rfl hwl rfl hjlt ?_
   rw [hd]
   conv=>whnf
   refine EHead.mk (v:=.int .i64 wa) rfl ?_;conv=>whnf
   refine Bl (a:=wa) (b:=0) rfl rfl (fun h1=>?_) (fun h1=>?_)
   ·conv=>whnf
    repeat' (first|((first|refine Ac ?_|refine AL ?_|refine CW ?_|refine CS ?_|refine CQ ?_|refine Au ?_|refine Av ?_|refine Cp ?_|refine CJ ?_|refine De ?_|refine Cx ?_|refine CP ?_|refine Dg ?_|refine Cw ?_|refine ⟨rfl,?_⟩);conv=>whnf)|refine Aa ?_ ?_|refine B8 ?_ ?_|refine Ax ?_ ?_|refine AR ?_ ?_|refine Ap ?_ ?_|refine Al ?_ ?_|(refine w19 rfl ?_ ?_ <;> intro hc <;> (try subst hc) <;> conv=>whnf)|(intro _;first|omega|conv=>whnf))
    exact hno (by rw [Zpo h1];rfl) _
   conv=>whnf
   refine Cz rfl hwl rfl hjlt ?_
   rw [hd]
   conv=>whnf
   refine EHead.mk (v:=.int .i64 wa) rfl ?_;conv=>whnf
   refine Am hbl ?_;conv=>whnf
   refine DV (a:=wa) (b:=(us.length:Int)) rfl rfl (fun h2=>?_) (fun h2=>?_)
   ·conv=>whnf
    repeat' (first|((first|refine Ac ?_|refine AL ?_|refine CW ?_|refine CS ?_|refine CQ ?_|refine Au ?_|refine Av ?_|refine Cp ?_|refine CJ ?_|refine De ?_|refine Cx ?_|refine CP ?_|refine Dg ?_|refine Cw ?_|refine ⟨rfl,?_⟩);conv=>whnf)|refine Aa ?_ ?_|refine B8 ?_ ?_|refine Ax ?_ ?_|refine AR ?_ ?_|refine Ap ?_ ?_|refine Al ?_ ?_|(refine w19 rfl ?_ ?_ <;> intro hc <;> (try subst hc) <;> conv=>whnf)|(intro _;first|omega|conv=>whnf))
    exact hno (by rw [Zpo h2];simp) _
   conv=>whnf
   refine Cz rfl hwl rfl hjlt ?_
   rw [hd]
   conv=>whnf
   refine EHead.mk (v:=wu) rfl ?_;conv=>whnf
   refine ESc.fam sizF h148 ⟨wu,wb.length⟩ ⟨⟨_,hwb.1⟩,by dsimp only;omega⟩ (u:=.bool (!Ba wb.length)) rfl ?_
   rw [Zp0 (by omega),Zp0 (by omega)] at hnxt hno
   cases ho:Ba wb.length
   ·conv=>whnf
    refine Jn rfl ?_;conv=>whnf
    repeat' (first|((first|refine Ac ?_|refine AL ?_|refine CW ?_|refine CS ?_|refine CQ ?_|refine Au ?_|refine Av ?_|refine Cp ?_|refine CJ ?_|refine De ?_|refine Cx ?_|refine CP ?_|refine Dg ?_|refine Cw ?_|refine ⟨rfl,?_⟩);conv=>whnf)|refine Aa ?_ ?_|refine B8 ?_ ?_|refine Ax ?_ ?_|refine AR ?_ ?_|refine Ap ?_ ?_|refine Al ?_ ?_|(refine w19 rfl ?_ ?_ <;> intro hc <;> (try subst hc) <;> conv=>whnf)|(intro _;first|omega|conv=>whnf))
    exact hend (hnxt (by rw [ho];rfl)) _ _ rfl rfl rfl
   ·conv=>whnf
    refine Ik rfl ?_;conv=>whnf
    repeat' (first|((first|refine Ac ?_|refine AL ?_|refine CW ?_|refine CS ?_|refine CQ ?_|refine Au ?_|refine Av ?_|refine Cp ?_|refine CJ ?_|refine De ?_|refine Cx ?_|refine CP ?_|refine Dg ?_|refine Cw ?_|refine ⟨rfl,?_⟩);conv=>whnf)|refine Aa ?_ ?_|refine B8 ?_ ?_|refine Ax ?_ ?_|refine AR ?_ ?_|refine Ap ?_ ?_|refine Al ?_ ?_|(refine w19 rfl ?_ ?_ <;> intro hc <;> (try subst hc) <;> conv=>whnf)|(intro _;first|omega|conv=>whnf))
    exact hno (by rw [ho];rfl) _
  ·have hJ':∀ w ∈ ws,Bt us.length w=false:=by rw [Zps (by omega)] at hJ;exact hJ
   conv=>whnf
   refine Am hwl ?_;conv=>whnf
   refine Bl (a:=(j:Int)) (b:=(ws.length:Int)) rfl rfl (fun _=>by omega) (fun h=>?_);conv=>whnf
   exact k1 ⟨hT,fun b hb=>(hI' b hb).1,hJ',fun hd=>⟨hdd hd,fun b hb=>(hI' b hb).2 hd⟩⟩ _
theorem Zgo (hE:EM P e) (h148:Con e 128 sizF.O):OvOk P 77 dmayF.O:=by
 refine C7 g77.b fun x hx=>?_
 refine ⟨by show (AM.hf x.v && true)=true;rw [DK.hf hx.a];rfl,rfl,C.of_W g77.f g77.c ?_⟩
 have fin1:AX x=true->∀ s,Frz s (.bool true) (dmayF.out x):=by intro h s;show Frz s _ (.bool (AX x));rw [h];exact .plain _ rfl
 have fin0:¬ AX x=true->∀ s,Frz s (.bool false) (dmayF.out x):=by intro h s;show Frz s _ (.bool (AX x));rw [Bool.eq_false_iff.2 h];exact .plain _ rfl
 have hrest:=fun h1 h2=>Zdt (K:=fun w s'=>Frz s' w (dmayF.out x)) hE h148 hx h1 h2 fin1 fin0
 rw [W5] at fin0
 obtain ⟨O,hO⟩:∃ O,O=dmayF.out x:=⟨_,rfl⟩
 rw [← hO] at fin0 hrest ⊢
 clear hO fin1
 obtain ⟨⟨hbl,hbs,hwl,hws⟩,hn,hm',hb',hw'⟩:=hx
 obtain ⟨bv,us,bs,wv,ws,dd⟩:=x
 dsimp only at hbl hbs hwl hws hn hm' hb' hw' fin0 hrest
 have hdf:hfs [bv,wv,.bool dd]=true:=N4 hwl hbl
 show W P 0 none X2 (An [.agg [bv,wv,.bool dd]] 0 .lf) St0 [] (BS [.tmp 2] _)
 refine Bz hE ?_;conv=>whnf
 refine Bz hE ?_;conv=>whnf
 have hgo:=fun (h1:1≤us.length∧us.length≤256∧ws.length≤1024) (h2:dd=true->ws.length=0) (t:AT) (s:St) (g1:t.get 1=some (.ptr 0 0)) (gr:s.get 0=some (.row 60 [bv,wv,.bool dd]))=>W.tells (Abs.tells (tl:=[(1,.ptr 0 0)]) (os:=[.row 60 [bv,wv,.bool dd]]) (rs:=[0]) ⟨by decide,⟨⟨rfl,g1⟩,trivial⟩,⟨⟨Bj hdf,by rw [AU hdf];exact gr⟩,trivial⟩⟩) (hrest h1 h2)
 have hno:=fun (h:¬ ((1≤us.length∧us.length≤256∧ws.length≤1024)∧(dd=true->ws.length=0)))=>fin0 (fun h'=>h ⟨h'.1,fun hd=>(h'.2.2.2 hd).1⟩)
 cases dd
 ·repeat' (first|((first|refine Am hbl ?_|refine Am hwl ?_|refine Ac ?_|refine AL ?_|refine CW ?_|refine CS ?_|refine CQ ?_|refine Au ?_|refine Av ?_|refine Cp ?_|refine CJ ?_|refine De ?_|refine Cx ?_|refine CP ?_|refine Dg ?_|refine Cw ?_|refine ⟨rfl,?_⟩);conv=>whnf)|refine Aa ?_ ?_|refine B8 ?_ ?_|refine Ax ?_ ?_|refine AR ?_ ?_|refine Ap ?_ ?_|refine Al ?_ ?_|(refine w19 rfl ?_ ?_ <;> intro hc <;> (try subst hc) <;> conv=>whnf)|(intro _;first|omega|conv=>whnf))
  all_goals first
   | exact hgo (by omega) (fun h=>by cases h) _ _ rfl rfl
   | exact ⟨.inr rfl,_,_,rfl,rfl,hno (by omega) _⟩
 ·repeat' (first|((first|refine Am hbl ?_|refine Am hwl ?_|refine Ac ?_|refine AL ?_|refine CW ?_|refine CS ?_|refine CQ ?_|refine Au ?_|refine Av ?_|refine Cp ?_|refine CJ ?_|refine De ?_|refine Cx ?_|refine CP ?_|refine Dg ?_|refine Cw ?_|refine ⟨rfl,?_⟩);conv=>whnf)|refine Aa ?_ ?_|refine B8 ?_ ?_|refine Ax ?_ ?_|refine AR ?_ ?_|refine Ap ?_ ?_|refine Al ?_ ?_|(refine w19 rfl ?_ ?_ <;> intro hc <;> (try subst hc) <;> conv=>whnf)|(intro _;first|omega|conv=>whnf))
  all_goals first
   | exact hgo (by omega) (fun h=>by omega) _ _ rfl rfl
   | exact ⟨.inr rfl,_,_,rfl,rfl,hno (by rintro ⟨h1,h2⟩;have h2:=h2 rfl;omega) _⟩
structure CDK where
 c:Cfg
 d:DK
structure CDK.ok (x:CDK):Prop where
 c:x.c.ok
 d:x.d.ok
 l:0≤x.c.log∧x.c.log≤255
def At (c:Cfg):Int:=c.chunk*c.rows
def Br (c:Cfg):Lo->Prop
 | (ev,lo,sp,po,dn,_,_)=>ev≤2147483648∧-1≤lo∧lo<c.members∧(sp=true->0≤lo∧0≤dn∧dn≤po∧po≤At c)∧(sp=false->po=0∧dn=0)
noncomputable def loF:Fn (Cfg×Lo×Unit):=bF (.g cfgC (.g loC .nil)) (fun x=>x.1.may) fun x=>Br x.1 x.2.1
def KS:AC:=match a32 with|.mk c _=>c
theorem Zmt (hE:EM P e) (h32:Inl e 32 KS [.tmp 2]):OvOk P 121 loF.O:=by
 refine Bv hE g121 ?_
 rintro ⟨⟨id,mb,ch,rw',lg,hd⟩,⟨ev,lo,sp,po,dn,nl,br⟩,_⟩ _ ⟨_,_,rfl,⟨rfl,hc⟩,_,_,rfl,ho,rfl⟩ hM K t f
 obtain ⟨rfl,h1,h2,h3,h4⟩:=GE ho
 unfold Cfg.may at hM
 unfold Br At at t f
 unfold Ab Bn at *
 dsimp only at t f hM
 have hms:=DW (a:=ch) (b:=rw') (by omega) (by omega)
 show VW P e 0 _ (An [.agg [.int .u32 id,.int .i64 mb,.int .i64 ch,.int .i64 rw',.int .i64 lg,.int .i64 hd],.agg [.int .u32 ev,.int .i64 lo,.bool sp,.int .i64 po,.int .i64 dn,.bool nl,.bool br]] 0 .lf) St0 none [] _
 conv=>whnf
 repeat' (first|((first|refine ESc.inl h32 ?_|refine Cs rfl rfl hms ?_|refine Au ?_|refine Av ?_|refine ⟨rfl,?_⟩);conv=>whnf)|refine Aa ?_ ?_|refine B8 ?_ ?_|refine Ax ?_ ?_|refine AR ?_ ?_|refine Ap ?_ ?_|(refine w19 rfl ?_ ?_ <;> intro hc <;> (try subst hc) <;> conv=>whnf)|(intro _;first|omega|conv=>whnf))
 all_goals first
  | exact f (by omega) _
  | exact t (by omega) _
  | exact f (by simp;omega) _
  | exact t (by simp;omega) _
  | trace_state
noncomputable def dirF:Fn (Hd×Unit):=bF (.g hdC .nil) (fun _=>True) fun x=>true ∈ x.1.2.2.1
theorem Xw (hE:EM P e):OvOk P 195 dirF.O:=by
 refine Bv hE g195 ?_
 rintro ⟨⟨st,bl,di,ph,de,sq⟩,_⟩ _ ⟨_,_,rfl,hh,rfl⟩-K t f
 obtain ⟨bv,dv,rfl,h1,h2,h3,h4,h5⟩:=Cm hh
 obtain ⟨cs,hs,hl,hn⟩:=h3.nth
 have hrow:=hdC.hf hh
 dsimp only at t f
 conv=>whnf
 refine Aw hE di.length (fun i=>[(1,.ptr 0 0),(3,.int .i64 (i:Int))]) (fun _=>[.row 55 [.int .i64 st,bv,dv,.int .u8 (ph:Int),.bool de,.int .u32 sq]]) (fun i=>∀ k<i,di[k]?≠some true) (fun k h=>by omega) (Abs.tells (rs:=[0]) .a) ?_
 intro i hi hI
 conv=>whnf
 refine Am hs ?_;conv=>whnf
 by_cases hlt:i<di.length
 ·obtain ⟨b,_,l,hb,rfl,hd⟩:=hn i hlt
  repeat' (first|((first|refine Ar hs hlt hd ?_|refine As ?_|refine Ac ?_|refine ⟨rfl,?_⟩);conv=>whnf)|refine Aa ?_ ?_|(refine w19 rfl ?_ ?_ <;> intro hc <;> (try subst hc) <;> conv=>whnf)|(intro _;first|omega|conv=>whnf))
  ·exact t (Zp5 hb) _
  ·exact ⟨hlt,AZ hI (by rw [hb];simp),Abs.tells (rs:=[0]) .a⟩
 ·repeat' (first|refine Aa ?_ ?_|(intro _;first|omega|conv=>whnf))
  exact f (fun hm=>by obtain ⟨k,hk⟩:=Zra hm;exact hI k (by have:=(Zpk.1 hk).1;omega) hk) _
def BM (b:List Nat):Prop:=b.length=0∨b.length=128
def DT (c:Cfg):Hd->Prop
 | (st,bl,di,ph,de,sq)=>(0≤st∧st<At c)∧(bl.length:Int)=c.members∧(di.length:Int)=c.members-1∧ph≤4∧(∀ k<bl.length,∀ b,bl[k]?=some b->BM b∧(di[k]?=some true->b.length≠0))∧(ph=0->(bl[di.length]?.getD []).length=0∧sq=0)∧(0<ph->(bl[di.length]?.getD []).length≠0∧true ∈ di)∧(ph=1->sq=0)∧(de=true->true ∈ di∧ph≤1)
noncomputable def hdF:Fn (Cfg×Hd×Unit):=bF (.g cfgC (.g hdC .nil)) (fun x=>x.1.may) fun x=>DT x.1 x.2.1
def Zku:AC:=match N1 with|.mk c _=>c
set_option maxHeartbeats 2000000 in
theorem Zm6 (hE:EM P e) (h32:Inl e 32 KS [.tmp 2]) (h128:Inl e 128 Zku [.tmp 2]) (h195:Con e 195 dirF.O):OvOk P 165 hdF.O:=by
 refine Bv hE g165 ?_
 rintro ⟨⟨id,mb,ch,rw',lg,hd⟩,⟨st,bl,di,ph,de,sq⟩,_⟩ _ ⟨_,_,rfl,⟨rfl,hc⟩,_,_,rfl,hh,rfl⟩ hM K t f
 obtain ⟨bv,dv,rfl,h1,h2,h3,h4,h5⟩:=Cm hh
 obtain ⟨bs,hs,hl,hn⟩:=h2.nth
 obtain ⟨ds,hs',hl',hn'⟩:=h3.nth
 have hrow:=hdC.hf hh
 unfold Cfg.may at hM
 unfold DT At at t f
 unfold Ab Bn at *
 dsimp only at t f hM hh
 have hms:=DW (a:=ch) (b:=rw') (by omega) (by omega)
 show VW P e 0 _ (An [.agg [.int .u32 id,.int .i64 mb,.int .i64 ch,.int .i64 rw',.int .i64 lg,.int .i64 hd],.agg [.int .i64 st,bv,dv,.int .u8 (ph:Int),.bool de,.int .u32 sq]] 0 .lf) St0 none [] _
 have hdir:=fun (Q:AV->St->Prop) s a b=>@bF.u _ _ _ _ e 195 s Q _ h195 ((st,bl,di,ph,de,sq),()) ⟨_,_,rfl,hh,rfl⟩ trivial a b
 conv=>whnf
 repeat' (first|((first|refine ESc.inl h32 ?_|refine Cs rfl rfl hms ?_|refine Am hs ?_|refine AD rfl hs' ?_|refine AL ?_|refine ⟨rfl,?_⟩);conv=>whnf)|refine Aa ?_ ?_|refine Ax ?_ ?_|refine AR ?_ ?_|refine Al ?_ ?_|(intro _;first|omega|conv=>whnf))
 all_goals try exact f (fun q=>by omega) _
 refine Aw hE bl.length (fun i=>[(2,.ptr 0 0),(3,.ptr 1 0),(5,.int .i64 mb),(6,.int .i64 (i:Int))]) (fun _=>[.row 24 [.int .u32 id,.int .i64 mb,.int .i64 ch,.int .i64 rw',.int .i64 lg,.int .i64 hd],.row 55 [.int .i64 st,bv,dv,.int .u8 (ph:Int),.bool de,.int .u32 sq]]) (fun i=>∀ k<i,∀ b,bl[k]?=some b->BM b∧(di[k]?=some true->b.length≠0)) (fun k h=>by omega) (Abs.tells (rs:=[0,1]) .a) ?_
 intro i hi hI
 conv=>whnf
 by_cases hlt:i<bl.length
 ·obtain ⟨b,_,l,hb,⟨u,rfl,hu⟩,hd⟩:=hn i hlt
  obtain ⟨us,hus,hul,-⟩:=hu.nth
  have hf:(BM b∧(di[i]?=some true->b.length≠0)->False)->∀ s,K (.bool false) s:=fun h=>f fun q=>h (q.2.2.2.2.1 i hlt b hb)
  have ht:(BM b∧(di[i]?=some true->b.length≠0))->∀ k<i+1,∀ b,bl[k]?=some b->BM b∧(di[k]?=some true->b.length≠0):=fun h=>AZ hI fun c hc=>by rw [hb] at hc;cases hc;exact h
  unfold BM at hf ht
  by_cases hld:i<di.length
  ·obtain ⟨g,_,l',hg,rfl,hd'⟩:=hn' i hld
   rw [hg] at hf ht
   cases g
   ·have hf:=fun (h:¬(b.length=0∨b.length=128))=>hf fun q=>h q.1
    have ht:=fun h=>ht ⟨h,fun e=>by cases e⟩
    repeat' (first|((first|refine Ar hs hlt hd ?_|refine Ar hs' hld hd' ?_|refine As ?_|refine Am hus ?_|refine ESc.inl h128 ?_|refine Ac ?_|refine AL ?_|refine Au ?_|refine Av ?_|refine ⟨rfl,?_⟩);conv=>whnf)|refine Aa ?_ ?_|refine Ap ?_ ?_|(intro _;first|omega|conv=>whnf))
    all_goals first
     | exact hf (by omega) _
     | exact ⟨hlt,ht (by omega),Abs.tells (rs:=[0,1]) .a⟩
   ·have hf:=fun (h:¬((b.length=0∨b.length=128)∧b.length≠0))=>hf fun q=>h ⟨q.1,q.2 rfl⟩
    have ht:=fun h=>ht ⟨And.left h,fun e=>And.right h⟩
    repeat' (first|((first|refine Ar hs hlt hd ?_|refine Ar hs' hld hd' ?_|refine As ?_|refine Am hus ?_|refine ESc.inl h128 ?_|refine Ac ?_|refine AL ?_|refine Au ?_|refine Av ?_|refine ⟨rfl,?_⟩);conv=>whnf)|refine Aa ?_ ?_|refine Ap ?_ ?_|(intro _;first|omega|conv=>whnf))
    all_goals first
     | exact hf (by omega) _
     | exact ⟨hlt,ht (by omega),Abs.tells (rs:=[0,1]) .a⟩
  ·have hg:di[i]?=none:=Zrl (by omega)
   rw [hg] at hf ht
   have hf:=fun (h:¬(b.length=0∨b.length=128))=>hf fun q=>h q.1
   have ht:=fun h=>ht ⟨h,fun e=>by cases e⟩
   repeat' (first|((first|refine Ar hs hlt hd ?_|refine As ?_|refine Am hus ?_|refine ESc.inl h128 ?_|refine Ac ?_|refine AL ?_|refine Au ?_|refine Av ?_|refine ⟨rfl,?_⟩);conv=>whnf)|refine Aa ?_ ?_|refine Ap ?_ ?_|(intro _;first|omega|conv=>whnf))
   all_goals first
    | exact hf (by omega) _
    | exact ⟨hlt,ht (by omega),Abs.tells (rs:=[0,1]) .a⟩
 ·obtain ⟨b,_,l,hb,⟨u,rfl,hu⟩,hd⟩:=hn di.length (by omega)
  obtain ⟨us,hus,hul,-⟩:=hu.nth
  have hI:∀ k<bl.length,∀ b,bl[k]?=some b->BM b∧(di[k]?=some true->b.length≠0):=fun k hk=>hI k (by omega)
  rw [hb] at t f
  dsimp only [Option.getD] at t f
  have f:=fun (h:¬((ph=0->b.length=0∧sq=0)∧(0<ph->b.length≠0∧true ∈ di)∧(ph=1->sq=0)∧(de=true->true ∈ di∧ph≤1)))=>f fun q=>h q.2.2.2.2.2
  have t:=fun h=>t ⟨by omega,by omega,by omega,by omega,hI,h⟩
  by_cases hD:true ∈ di <;> cases de <;> simp only [hD,and_true,and_false,imp_false,true_and,false_and,Bool.false_eq_true,false_implies,true_implies,not_true_eq_false,not_false_eq_true] at t f
  all_goals repeat' (first|(refine hdir _ _ (fun hq=>?_) (fun hq=>?_) <;> first|exact absurd hq hD|exact absurd hD hq|(conv=>whnf))|((first|refine Cj rfl hs rfl (by omega) (by omega) hd ?_|refine As ?_|refine Am hus ?_|refine AL ?_|refine Au ?_|refine Av ?_);conv=>whnf)|refine Aa ?_ ?_|refine B8 ?_ ?_|refine Ax ?_ ?_|refine Ap ?_ ?_|refine Al ?_ ?_|(intro _;first|omega|conv=>whnf))
  all_goals first
   | exact f (by omega) _
   | exact t (by omega) _
   | exact f _
   | exact t _
end Go.AM
