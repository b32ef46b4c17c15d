/-
 Functions of the program as the abstract machine reads them, and what is stated of them, checked by the kernel. No conditions.
-/
import Derived.Test.YtacmbogmbfmjeaaGreatStA
import Derived.Test.YtacmbogmbfmjeaaGreatAM5
set_option linter.unusedVariables false
set_option linter.unusedSimpArgs false
set_option linter.unnecessarySimpa false
set_option maxRecDepth 100000
namespace Go.AM
attribute [local irreducible] W
open X
def IW:AC:=match N8 with|.mk c _=>c
def Gd:AC:=match Nz with|.mk c _=>c
def Ug:AC:=match NA with|.mk c _=>c
def TA:AC:=match La with|.mk c _=>c
def P0:AC:=match N9 with|.mk c _=>c
def K3:AC:=match a49 with|.mk c _=>c
def FP (b:List Nat):Option Nat:=if b.length=0 then some 128 else none
variable {u:AV}{s:St}{K:AV→St→Prop}
theorem I5 {e:Env}(h98:Inl e 102 IW [.tmp 2]) (h141:Inl e 119 Gd [.tmp 2]) {b:List Nat}(hb:BAt u b) (hl:b.length=0∨b.length=128) (hs:s.next<1000000)
 (k0:b.length=0→K (.sl s.next 0 128 (some 128)) (s.alloc (.row 5 (Aj (As b)))))
 (k1:b.length=128→K (.sl (s.alloc (.row 5 [])).next 0 128 none) ((s.alloc (.row 5 [])).alloc (.row 5 (Aj (As b))))):ESc e 102 [u] s K:=by
 refine ESc.inl h98 ?_;conv=>whnf
 refine Ac rfl hb.1 ?_;conv=>whnf
 rcases hl with h0|h1
 ·have hb0:b=[]:=Zkd.1 h0
  subst hb0
  repeat' (first|(refine JI (n:=127) rfl rfl (by decide) ?_;conv=>whnf)|((refine w5 rfl rfl ?_ ?_) <;> intro _ <;> first|(exfalso;omega)|(conv=>whnf))|fail)
  exact k0 rfl
 ·have hp:As b=b:=Zfc h1
  rw [hp] at k1
  obtain ⟨c,rfl⟩:∃ c,u=.fz b.length c (Aj b):=by
   rcases hb.1 with ⟨_,h,_⟩|⟨_,h,_⟩|⟨c,h,_⟩
   ·omega
   ·omega
   ·exact ⟨c,h⟩
  have hne:∃ x l,Aj b=x::l:=by
   cases b with
   | nil=>simp at h1
   | cons y l=>exact ⟨_,_,rfl⟩
  obtain ⟨x,l,hxl⟩:=hne
  have hbl:=CU b
  repeat' (first|(refine ESc.inl h141 ?_;conv=>whnf)|(refine Gh rfl rfl (.inr ⟨_,_,_,rfl⟩) ?_;conv=>whnf)|((refine w5 rfl rfl ?_ ?_) <;> intro _ <;> first|(exfalso;omega)|(conv=>whnf))|fail)
  refine EPrim.app1 (c:=x) (cs:=l) (m:=128) rfl rfl ?_ (Rh _ _ (by omega)) ?_ (by omega) (by omega) ?_
  ·show Bi (b.length*1) (Aj b)=_
   rw [EZ (by omega),Zjo (by omega),hxl]
  ·show (x::l).length / 1=_
   rw [← hxl];omega
  rw [← hxl]
  conv=>whnf
  exact k1 h1
def C5 (at_:Int):List WR→Option (List Nat)
 | []=>none
 | w::l=>if w.at_=at_ then some w.b else C5 at_ l
def Ft (ws:List WR) (at_:Int) (b:List Nat):List Nat:=(C5 at_ ws.reverse).getD b
def UV:AC:=match FC K3 with|some (a,_)=>a|none=>.skip
def Uo:AC:=match FC K3 with|some (_,b)=>b|none=>.skip
def Pi:AC:=match K3 with
 | .seq _ (.seq _ (.seq _ r))=>r
 | _=>.skip
def tlD (cp:Option Nat):List (Nat×AV):=[(3,.ptr 0 0),(4,.ptr 1 0),(5,.ptr 2 0),(6,.sl 3 0 128 cp),(21,.fn 146 [] [.ptr 4 0])]
def osD (at_:Int) (b:List Nat) (wv:AV):List AObj:=[.row 3 [.int .i64 at_],.row 76 [.nils],.row 38 [.int .i64 0],.row 5 (Aj (As b)),.row 58 [wv]]
noncomputable def Vs (at_:Int) (b:List Nat) (wv:AV) (cp:Option Nat):List AObj:=[.row 3 [.int .i64 at_],.row 76 [.nils],.row 38 [.int .i64 0],.row 5 (Aj (As b)),.row 58 [wv],.defd,.loop .ready none 0 (At (tlD cp)) [22,23] UV Uo 5]
theorem Zag {e:Env}(hE:EM P e) (h97:Inl e 101 P0 [.tmp 2]) (h98:Inl e 102 IW [.tmp 2]) (h141:Inl e 119 Gd [.tmp 2])
 (x:DK) (hx:x.ok) (at_:Int) (hat:Ad at_) (hn:x.ws.length≤1024) (hwl:∀ w ∈ x.ws,w.b.length=0∨w.b.length=128) (b0:List Nat) (K:AV→St→Prop)
 (hk:∀ s r,s.get r=some (.row 5 (Aj (As (Ft x.ws at_ b0))))→K (.tup [.sl r 0 128 (FP (Ft x.ws at_ b0)),.int .i64 0]) s):
 W P 0 none Pi (At [(2,.ptr 0 0),(3,.ptr 1 0),(4,.ptr 2 0),(5,.ptr 3 0),(6,.sl 4 0 128 (FP b0))]) (Ae St0 [.row 60 x.c,.row 3 [.int .i64 at_],.row 76 [.nils],.row 38 [.int .i64 0],.row 5 (Aj (As b0))]) [] (Bz [.cell 4,.cell 5] K):=by
 obtain ⟨⟨hbl,hbs,hws,hwa⟩,hun,hwn,hbb,hww⟩:=hx
 obtain ⟨bv,us,bs,wv,ws,dd⟩:=x
 dsimp only at hbl hbs hws hwa hun hwn hbb hww hn hwl hk
 obtain ⟨cp,hcp⟩:∃ cp,cp=FP b0:=⟨_,rfl⟩
 rw [← hcp]
 show W P 0 none Pi (At [(2,.ptr 0 0),(3,.ptr 1 0),(4,.ptr 2 0),(5,.ptr 3 0),(6,.sl 4 0 128 cp)]) (Ae St0 [.row 60 [bv,wv,.bool dd],.row 3 [.int .i64 at_],.row 76 [.nils],.row 38 [.int .i64 0],.row 5 (Aj (As b0))]) [] (Bz [.cell 4,.cell 5] K)
 refine F9 hE ?_;conv=>whnf
 refine ESc.inl h97 ?_;conv=>whnf
 refine IN (by show Nat.beq (AR (cellsOf wv)) 1=true;rw [hws.cells];rfl) ?_
 rw [hws.cells]
 conv=>whnf
 have hwf:hfs [wv]=true:=by show (AM.hf wv && true)=true;rw [hws.hf];rfl
 have hpf:∀ b,hfs (Aj b)=true:=fun b=>B0 b
 refine W.tells (Abs.tells (tl:=tlD cp) (os:=osD at_ b0 wv) (rs:=[1,2,3,4,5])
  ⟨by decide,⟨r9,r9,r9,r9,r9,trivial⟩,⟨r9,r9,r9,o9 (hpf _),o9,trivial⟩⟩) ?_
 refine P3 (f:=146) (first:=[]) (cap:=[.ptr 4 0]) g146.b rfl ?_ ?_
 ·intro q hq
  have hq:q<5:=hq
  rcases q with _|_|_|_|_|q
  ·exact .tmp 3 (.ptr 0 0) rfl rfl
  ·exact .tmp 4 (.ptr 1 0) rfl rfl
  ·exact .tmp 5 (.ptr 2 0) rfl rfl
  ·exact .tmp 6 (.sl 3 0 128 cp) rfl rfl
  ·exact .tmp 21 (.fn 146 [] [.ptr 4 0]) rfl rfl
  ·omega
 show C1 P 146 [.yld 6,.ptr 4 0] (Ae St0 (Vs at_ b0 wv cp)) (fun _ s'=>K7 6 [5] (At (tlD cp)) s' _)
 refine C1.of_G hE g146 ?_;conv=>whnf
 refine Ac rfl hws ?_;conv=>whnf
 repeat' (first|(refine w8 rfl rfl (by omega) ?_;conv=>whnf)|fail)
 have hlb:CG 7 7 (.loop .ready none 0 (At (tlD cp)) [22,23] UV Uo 5)=true:=rfl
 refine DH (k:=7) (α:=Nat) (fun i=>[(0,.yld 6),(1,.ptr 4 0),(3,.int .i64 ((i:Int)-1))]) (fun i=>Vs at_ b0 wv cp) (fun i=>i) (fun i=>i≤ws.length∧C5 at_ ws.reverse=C5 at_ (ws.take i).reverse) ws.length ⟨Zj0 _,by rw [List.take_length]⟩
  (AbsK.tells (rs:=[0,1,2,3,4,5,6]) ⟨rfl,by decide,⟨r9,r9,r9,trivial⟩,⟨r9,r9,r9,o9 (hpf _),o9,r9,⟨hlb,rfl⟩,trivial⟩⟩) ?_
 rintro j ⟨hj,hh⟩
 refine Cz hE ?_;conv=>whnf
 refine DS rfl rfl (fun h=>?_) (fun h=>?_) <;> conv=>whnf
 ·obtain ⟨i,rfl⟩:∃ i,j=i+1:=⟨j-1,by omega⟩
  have hlt:i<ws.length:=by omega
  rw [show ((i+1:Nat):Int)-1=(i:Int) by omega]
  have hd:=FQ hlt
  have hwm:=Zkg hlt
  have hwa':=hwa _ hwm
  have hwl':=hwl _ hwm
  have hst:C5 at_ ws.reverse=if ws[i].at_=at_ then some ws[i].b else C5 at_ (ws.take i).reverse:=by
   rw [hh,Zjs hlt,List.reverse_append];rfl
  have hall:=And.intro hd (And.intro hwa' (And.intro hwl' hst))
  clear hd hwa' hwl' hst hwm
  revert hall
  generalize ws[i]=w
  obtain ⟨wa,wu,wb⟩:=w
  rintro ⟨hd,⟨hwa1,hwb⟩,hwl',hst⟩
  have hd:(Af ws).drop (i*2)=[.int .i64 wa,wu]++Af (ws.drop (i+1)):=hd
  dsimp only at hwa1 hwb hwl' hst
  refine BZ rfl hws rfl hlt ?_
  rw [hd]
  conv=>whnf
  have hcell:∀ (K:List AV→Prop),K [.int .i64 wa,wu]→ETake 2 ([.int .i64 wa,wu]++Af (ws.drop (i+1))) K:=fun K hk=>Ay rfl hk
  refine hcell _ ?_;conv=>whnf
  refine ERound.mk ?_
  have hrun:∀ b cp',Ft ws at_ b0=b→cp'=FP b→∀ s r,s.get r=some (.row 5 (Aj (As b)))→K (.tup [.sl r 0 128 cp',.int .i64 0]) s:=fun b cp' h1 h2 s r h=>by
   subst h1 h2;exact hk s r h
  conv=>whnf
  refine H5 (a:=wa) (b:=at_) rfl rfl (fun he=>?_) (fun he=>?_)
  ·rw [Zjj he] at hst
   have hL:Ft ws at_ b0=wb:=by unfold Ft;rw [hst];rfl
   conv=>whnf
   refine I5 h98 h141 hwb hwl' (by show 8<1000000;decide) (fun h0=>?_) (fun h1=>?_)
   ·conv=>whnf
    repeat' (first|(refine w13 rfl ?_;conv=>whnf)|fail)
    refine hrun wb (some 128) hL (by unfold FP;rw [Zjj h0]) _ _ ?_
    rfl
   ·conv=>whnf
    repeat' (first|(refine w13 rfl ?_;conv=>whnf)|fail)
    refine hrun wb none hL (by unfold FP;rw [Zjn (by omega)]) _ _ ?_
    rfl
  ·rw [Zjn he] at hst
   conv=>whnf
   repeat' (first|((first|refine w8 rfl rfl (by omega) ?_|refine w12 rfl ?_|refine ⟨rfl,?_⟩);conv=>whnf)|fail)
   refine ⟨i,⟨by omega,hst⟩,by omega,AbsK.tells (rs:=[0,1,2,3,4,5,6]) ⟨rfl,by decide,⟨r9,r9,r9,trivial⟩,⟨r9,r9,r9,o9 (hpf _),o9,r9,⟨hlb,rfl⟩,trivial⟩⟩⟩
 ·have:j=0:=by omega
  subst this
  have hL:Ft ws at_ b0=b0:=by unfold Ft;rw [hh];rfl
  conv=>whnf
  rw [hL,← hcp] at hk
  exact hk _ _ rfl
variable {n m:Nat}{v:AV}
theorem Lf {l l':List AV}(h:Sl 2 m l' v) (h':Sl 1 n l u) {d:Bool}:hfs [u,v,.bool d]=true:=by
 show (AM.hf u && (AM.hf v && (true && true)))=true
 rw [h.hf,h'.hf];rfl
def Ip (x:DK) (at_:Int):Int:=if AN x=true then (if 0≤at_∧at_<x.us.length then (if x.dead then 40 else 0) else 2) else 8
def Ey (x:DK) (at_:Int):List Nat:=Ft x.ws at_ (x.bs.getD at_.toNat [])
theorem GO (h:AP n=false):n=0∨n=128:=by
 unfold AP at h
 simp at h
 omega
theorem Kp {x:DK}(hx:x.any) (h:AN x=true):x.ws.length≤1024∧(∀ b ∈ x.bs,b.length=0∨b.length=128)∧(∀ w ∈ x.ws,w.b.length=0∨w.b.length=128)∧x.us.length=x.bs.length∧x.us.length≤256:=by
 unfold AN at h
 simp only [Zjh,Bool.not_eq_true'] at h
 obtain ⟨⟨⟨h1,h2⟩,h3⟩,h4⟩:=h
 have h1:=Zkw h1
 rw [List.any_eq_false] at h2 h3
 refine ⟨h1.2.2,fun b hb=>GO (by simpa using h2 b.length (List.mem_map_of_mem hb)),fun w hw=>?_,hx.bs.length,h1.2.1⟩
 have:=h3 w hw
 unfold Bk at this
 simp only [Zk5,not_or] at this
 exact GO (by simpa using this.2)
theorem Zah {e:Env}(hE:EM P e) (h101:Con e 44 dskF.O) (h96:Inl e 100 Ug [.tmp 4,.tmp 5]) (h139:Inl e 145 TA [.tmp 4]) (h97:Inl e 101 P0 [.tmp 2]) (h98:Inl e 102 IW [.tmp 2]) (h141:Inl e 119 Gd [.tmp 2])
 (x:DK) (hx:x.ok) (at_:Int) (hat:Ad at_) (K:AV→St→Prop)
 (h0:Ip x at_=0→∀ s r,s.get r=some (.row 5 (Aj (As (Ey x at_))))→K (.tup [.sl r 0 128 (FP (Ey x at_)),.int .i64 0]) s)
 (h1:Ip x at_≠0→∀ s,K (.tup [.nils,.int .i64 (Ip x at_)]) s):
 W P 0 none K3 (Al [x.v,.int .i64 at_] 0 .lf) St0 [] (Bz [.cell 4,.cell 5] K):=by
 have hlt:AN x=true→0≤at_∧at_<x.us.length→∃ b u,x.us[at_.toNat]?=some u∧BAt u b∧x.bs.getD at_.toNat []=b∧(b.length=0∨b.length=128):=fun hd ⟨ha,hl⟩=>by
  have hn:at_.toNat<x.us.length:=by omega
  obtain ⟨b,hbb,hbu⟩:=hx.a.bs.get (Zjf hn)
  refine ⟨b,x.us[at_.toNat],Zjf hn,hbu,by rw [Zj8,hbb];rfl,(Kp hx.a hd).2.1 b (Zj1 hbb)⟩
 have hres:=fun (hd:AN x=true) b0 K=>Zag hE h97 h98 h141 x hx at_ hat (Kp hx.a hd).1 (Kp hx.a hd).2.2.1 b0 K
 have hdk:=fun (u:AV) (h:dskF.out x=u)=>And.intro hx h
 unfold Ip at h0 h1
 unfold Ey at h0
 obtain ⟨D,hD⟩:∃ D,D=AN x:=⟨_,rfl⟩
 rw [← hD] at h0 h1 hlt hres
 have hDo:dskF.out x=.int .i64 (if D=true then 0 else 8):=by rw [hD];rfl
 have hul:x.us.length<1000000:=hx.n
 have hbl:=hx.a.bl
 have hwv:=hx.a.wl
 obtain ⟨bv,us,bs,wv,ws,dd⟩:=x
 dsimp only at hlt hul h0 h1 hbl hwv
 unfold Ad at hat
 show W P 0 none K3 (Al [.agg [bv,wv,.bool dd],.int .i64 at_] 0 .lf) St0 [] (Bz [.cell 4,.cell 5] K)
 refine Bf hE ?_;conv=>whnf
 refine Bf hE ?_;conv=>whnf
 refine ESc.inl h96 ?_;conv=>whnf
 refine ESc.inl h139 ?_;conv=>whnf
 cases D
 ·refine ESc.fam dskF h101 ⟨bv,us,bs,wv,ws,dd⟩ hx (u:=.int .i64 8) hDo ?_;conv=>whnf
  repeat' (first|((refine w6 rfl rfl ?_ ?_) <;> intro _ <;> first|(exfalso;omega)|(conv=>whnf))|fail)
  refine Bf hE ?_;conv=>whnf
  repeat' (first|((refine w6 rfl rfl ?_ ?_) <;> intro _ <;> first|(exfalso;omega)|(conv=>whnf))|fail)
  refine H7 ?_;conv=>whnf
  exact h1 (by simp) _
 ·refine ESc.fam dskF h101 ⟨bv,us,bs,wv,ws,dd⟩ hx (u:=.int .i64 0) hDo ?_;conv=>whnf
  have hp:∀ K:AV→Prop,(at_<0∨(us.length:Int)≤at_→K (.int .i64 2))→(0≤at_∧at_<us.length→K (.int .i64 0))→True:=fun _ _ _=>trivial
  by_cases hr:0≤at_∧at_<(us.length:Int)
  ·obtain ⟨b,u,hg,hbu,hbd,hbl'⟩:=hlt rfl hr
   rw [hbd] at h0
   have h0:=fun hdd=>h0 (by rw [Zjj rfl,Zjj hr];exact hdd)
   rw [Zjj rfl,Zjj hr] at h1
   obtain ⟨n,rfl⟩:∃ n:Nat,at_=(n:Int):=⟨at_.toNat,by omega⟩
   have hlt':n<us.length:=by omega
   rw [show (n:Int).toNat=n by omega] at hg
   have hg':us[n]=u:=by rw [Zjf hlt'] at hg;exact Zkn hg
   clear hg hbd hlt
   repeat' (first|(refine Ac rfl hbl ?_;conv=>whnf)|((first|refine w1 rfl rfl ?_ ?_|refine w4 rfl rfl ?_ ?_|refine w6 rfl rfl ?_ ?_) <;> intro _ <;> first|(exfalso;omega)|(conv=>whnf))|(refine w19 rfl ?_ ?_ <;> intro hc <;> (try subst hc) <;> conv=>whnf))
   all_goals first|(exfalso;omega)|skip
   ·refine Bf hE ?_;conv=>whnf
    repeat' (first|((refine w6 rfl rfl ?_ ?_) <;> intro _ <;> first|(exfalso;omega)|(conv=>whnf))|fail)
    refine H7 ?_;conv=>whnf
    exact h1 (by simp) _
   ·refine BZ rfl hbl rfl hlt' ?_;conv=>whnf
    refine EHead.mk (v:=u) (by rw [Zki,Zjq,Zko,Zjf hlt',hg']) ?_;conv=>whnf
    have hcf:hfs [bv,wv,.bool false]=true:=Lf hwv hbl
    have hend:=fun cp' (hcp:cp'=FP b)=>(hcp ▸ hres rfl b K (fun s r h=>h0 rfl s r h):W P 0 none Pi (At [(2,.ptr 0 0),(3,.ptr 1 0),(4,.ptr 2 0),(5,.ptr 3 0),(6,.sl 4 0 128 cp')]) (Ae St0 [.row 60 [bv,wv,.bool false],.row 3 [.int .i64 (n:Int)],.row 76 [.nils],.row 38 [.int .i64 0],.row 5 (Aj (As b))]) [] (Bz [.cell 4,.cell 5] K))
    refine I5 h98 h141 hbu hbl' (by show 6<1000000;decide) (fun h0=>?_) (fun h1=>?_)
    ·conv=>whnf
     refine Bf hE ?_;conv=>whnf
     repeat' (first|((refine w6 rfl rfl ?_ ?_) <;> intro _ <;> first|(exfalso;omega)|(conv=>whnf))|fail)
     refine W.tells (Abs.tells (rs:=[0,1,2,3,6]) ?_) (hend (some 128) (by unfold FP;rw [Zjj h0]))
     exact ⟨by decide,⟨r9,r9,r9,r9,r9,trivial⟩,⟨o9,r9,r9,r9,o9 (B0 _),trivial⟩⟩
    ·conv=>whnf
     refine Bf hE ?_;conv=>whnf
     repeat' (first|((refine w6 rfl rfl ?_ ?_) <;> intro _ <;> first|(exfalso;omega)|(conv=>whnf))|fail)
     refine W.tells (Abs.tells (rs:=[0,1,2,3,7]) ?_) (hend none (by unfold FP;rw [Zjn (by omega)]))
     exact ⟨by decide,⟨r9,r9,r9,r9,r9,trivial⟩,⟨o9,r9,r9,r9,o9 (B0 _),trivial⟩⟩
  ·repeat' (first|(refine Ac rfl hbl ?_;conv=>whnf)|((first|refine w1 rfl rfl ?_ ?_|refine w4 rfl rfl ?_ ?_|refine w6 rfl rfl ?_ ?_) <;> intro _ <;> first|(exfalso;omega)|(conv=>whnf))|fail)
   all_goals first|(exfalso;omega)|skip
   all_goals
    refine Bf hE ?_;conv=>whnf
    repeat' (first|((refine w6 rfl rfl ?_ ?_) <;> intro _ <;> first|(exfalso;omega)|(conv=>whnf))|fail)
    refine H7 ?_;conv=>whnf
    have h1:=h1 (by rw [Zjj rfl,Zjn hr];decide)
    rw [Zjj rfl,Zjn hr] at h1
    exact h1 _
structure DKA where
 d:DK
 a:Int
structure DKA.ok (x:DKA):Prop where
 d:x.d.ok
 a:Ad x.a
def DKA.args (x:DKA):List AV:=[x.d.v,.int .i64 x.a]
theorem DKA.inja {x y:DKA}(hx:x.ok) (hy:y.ok) (h:x.args=y.args):x=y:=by
 obtain ⟨d,a⟩:=x
 obtain ⟨d',a'⟩:=y
 have h1:=DK.inj hx.d.a hy.d.a (Zjr h).1
 have h2:=(Zjr (Zjr h).2).1
 injection h2 with _ h2
 dsimp only at h1 h2
 rw [h1,h2]
theorem DKA.hfa {x:DKA}(hx:x.ok):hfs x.args=true:=by
 show (AM.hf x.d.v && (true && true))=true
 rw [DK.hf hx.d.a];rfl
def DKA.e (x:DKA):Int:=Ip x.d x.a
def DKA.b (x:DKA):List Nat:=Ey x.d x.a
theorem Jj:∀ {l:List AV},hfs l=true→All2 (Frz s) l l
 | [],_=>.nil
 | v::l,h=>by
  simp only [hfs,Zjh] at h
  exact .cons (.plain _ h.1) (Jj h.2)
def Gi (x:DKA):AV:=if x.e=0 then .tup [.fz 128 none (Aj (As x.b)),.int .i64 0] else .tup [.nils,.int .i64 x.e]
def drdF:Fam DKA:=⟨DKA.ok,DKA.args,Gi,fun x y hx hy h=>by rw [DKA.inja hx hy h]⟩
theorem Zdk {e:Env}(hE:EM P e) (h101:Con e 44 dskF.O) (h96:Inl e 100 Ug [.tmp 4,.tmp 5]) (h139:Inl e 145 TA [.tmp 4]) (h97:Inl e 101 P0 [.tmp 2]) (h98:Inl e 102 IW [.tmp 2]) (h141:Inl e 119 Gd [.tmp 2])
 : OvOk P 49 drdF.O:=by
 refine Ca g49.b fun x hx=>?_
 have h0:x.e=0→drdF.out x=.tup [.fz 128 none (Aj (As x.b)),.int .i64 0]:=fun h=>by show Gi x=_;unfold Gi;rw [Zjj h]
 have h1:x.e≠0→drdF.out x=.tup [.nils,.int .i64 x.e]:=fun h=>by show Gi x=_;unfold Gi;rw [Zjn h]
 refine ⟨DKA.hfa hx,by show AM.hf (Gi x)=true;unfold Gi;split <;> rfl,C.of_W g49.f g49.c (Zah hE h101 h96 h139 h97 h98 h141 x.d hx.d x.a hx.a _ (fun h s r hg=>?_) (fun h s=>?_))⟩
 ·rw [h0 h]
  exact .tup _ _ (.cons (.sl r 0 128 _ _ _ _ _ _ hg (fun i x h=>by rw [Zju];exact h) (Jj (B0 _)) (.inl rfl)) (.cons (.plain _ rfl) .nil))
 ·rw [h1 h];exact .plain _ rfl
structure CDA where
 c:Cfg
 d:DK
 a:Int
structure CDA.ok (x:CDA):Prop where
 c:x.c.ok
 d:x.d.ok
 a:Ad x.a
def CDA.args (x:CDA):List AV:=[x.c.v,x.d.v,.int .i64 x.a]
def askE (x:CDA):Int:=if x.c.may then (if AN x.d=true∧(x.d.us.length:Int)=x.c.log+1 then (if 0≤x.a∧x.a<x.c.log then (if x.d.dead then 40 else 0) else 2) else 8) else 8
def Hl (x:DK) (a:Int):Int:=if AN x=true then (if 0≤a∧a<x.us.length then 0 else 2) else 8
def plcF:Fam DKA:=⟨DKA.ok,DKA.args,fun x=>.int .i64 (Hl x.d x.a),fun x y hx hy h=>by rw [DKA.inja hx hy h]⟩
theorem Zbs {e:Env}(hE:EM P e) (h101:Con e 44 dskF.O):OvOk P 145 plcF.O:=by
 refine Ca g145.b fun x hx=>?_
 refine ⟨DKA.hfa hx,rfl,C.of_G hE g145 ?_⟩
 have fin:∀ s (n:Int),n=Hl x.d x.a→Frz s (.int .i64 n) (plcF.out x):=by rintro s n rfl;exact .plain _ rfl
 obtain ⟨O,hO⟩:∃ O,O=plcF.out x:=⟨_,rfl⟩
 rw [← hO] at fin ⊢
 clear hO
 have hbl:=hx.d.a.bl
 have hun:=hx.d.n
 have ha:=hx.a
 have hd:=hx.d
 obtain ⟨d,a⟩:=x
 dsimp only at hbl hun ha hd fin
 unfold Hl at fin
 obtain ⟨D,hD⟩:∃ D,D=AN d:=⟨_,rfl⟩
 have hDo:dskF.out d=.int .i64 (if D=true then 0 else 8):=by rw [hD];rfl
 rw [← hD] at fin
 unfold Ad at ha
 obtain ⟨bv,us,bs,wv,ws,dd⟩:=d
 dsimp only at hbl hun fin
 show VW P e 0 (match La with|.mk c _=>c) (Al [.agg [bv,wv,.bool dd],.int .i64 a] 0 .lf) St0 none [] _
 conv=>whnf
 cases D
 ·refine ESc.fam dskF h101 ⟨bv,us,bs,wv,ws,dd⟩ hd (u:=.int .i64 8) hDo ?_;conv=>whnf
  repeat' (first|((refine w6 rfl rfl ?_ ?_) <;> intro _ <;> first|(exfalso;omega)|(conv=>whnf))|fail)
  exact fin _ 8 (by simp)
 ·refine ESc.fam dskF h101 ⟨bv,us,bs,wv,ws,dd⟩ hd (u:=.int .i64 0) hDo ?_;conv=>whnf
  simp only [eq_self,if_true] at fin
  repeat' (first|(refine Ac rfl hbl ?_;conv=>whnf)|((first|refine w1 rfl rfl ?_ ?_|refine w4 rfl rfl ?_ ?_|refine w6 rfl rfl ?_ ?_) <;> intro _ <;> first|(exfalso;omega)|(conv=>whnf))|fail)
  ·exact fin _ 2 (by rw [Zjn (by omega)])
  ·exact fin _ 2 (by rw [Zjn (by omega)])
  ·exact fin _ 0 (by rw [Zjj (by omega)])
structure DKW where
 d:DK
 a:Int
 u:AV
 b:List Nat
structure DKW.ok (x:DKW):Prop where
 d:x.d.ok
 a:Ad x.a
 b:BAt x.u x.b
 n:x.b.length<1000000
def DKW.args (x:DKW):List AV:=[x.d.v,.int .i64 x.a,x.u]
theorem DKW.inja {x y:DKW}(hx:x.ok) (hy:y.ok) (h:x.args=y.args):x=y:=by
 obtain ⟨d,a,u,b⟩:=x
 obtain ⟨d',a',u',b'⟩:=y
 have h1:=DK.inj hx.d.a hy.d.a (Zjr h).1
 have h2:=(Zjr (Zjr h).2).1
 have h3:=(Zjr (Zjr (Zjr h).2).2).1
 injection h2 with _ h2
 dsimp only at h1 h2 h3
 subst h1 h2 h3
 have:=hx.b.inj hy.b
 dsimp only at this
 rw [this]
theorem DKW.hfa {x:DKW}(hx:x.ok):hfs x.args=true:=by
 show (AM.hf x.d.v && (true && (AM.hf x.u && true)))=true
 rw [DK.hf hx.d.a,hx.b.1.hf];rfl
def BH (x:DK) (a:Int) (b:List Nat):Int:=if Hl x a=0 then (if AP b.length=true then 3 else if x.dead=true then 40 else 0) else Hl x a
def wrtF:Fam DKW:=⟨DKW.ok,DKW.args,fun x=>.int .i64 (BH x.d x.a x.b),fun x y hx hy h=>by rw [DKW.inja hx hy h]⟩
theorem Za0 {e:Env}(hE:EM P e) (h139:Con e 145 plcF.O) (h143:Con e 92 oddF.O):OvOk P 113 wrtF.O:=by
 refine Ca g113.b fun x hx=>?_
 refine ⟨DKW.hfa hx,rfl,C.of_G hE g113 ?_⟩
 have fin:∀ s (n:Int),n=BH x.d x.a x.b→Frz s (.int .i64 n) (wrtF.out x):=by rintro s n rfl;exact .plain _ rfl
 obtain ⟨O,hO⟩:∃ O,O=wrtF.out x:=⟨_,rfl⟩
 rw [← hO] at fin ⊢
 clear hO
 obtain ⟨d,a,u,b⟩:=x
 obtain ⟨hd,ha,hbt,hbn⟩:=hx
 dsimp only at hd ha hbt hbn fin
 unfold BH at fin
 obtain ⟨pe,hpe⟩:∃ pe,pe=Hl d a:=⟨_,rfl⟩
 have hpo:plcF.out ⟨d,a⟩=.int .i64 pe:=by rw [hpe];rfl
 rw [← hpe] at fin
 obtain ⟨bv,us,bs,wv,ws,dd⟩:=d
 dsimp only at fin
 show VW P e 0 (match N2 with|.mk c _=>c) (Al [.agg [bv,wv,.bool dd],.int .i64 a,u] 0 .lf) St0 none [] _
 conv=>whnf
 refine ESc.fam plcF h139 ⟨⟨bv,us,bs,wv,ws,dd⟩,a⟩ ⟨hd,ha⟩ (u:=.int .i64 pe) hpo ?_;conv=>whnf
 refine L7 (a:=pe) (b:=0) rfl rfl (fun e1=>?_) (fun e1=>?_)
 ·conv=>whnf
  skip
  exact fin _ pe (by rw [Zjn e1])
 ·rw [Zjj e1] at fin
  conv=>whnf
  refine ESc.fam oddF h143 ⟨u,b.length⟩ ⟨⟨_,hbt.1⟩,by dsimp only;omega⟩ (u:=.bool (AP b.length)) rfl ?_
  cases ho:AP b.length
  ·rw [ho] at fin
   simp only [Bool.false_eq_true,if_false] at fin
   cases dd
   ·conv=>whnf
    skip
    exact fin _ 0 (by simp)
   ·conv=>whnf
    skip
    exact fin _ 40 (by simp)
  ·conv=>whnf
   skip
   exact fin _ 3 (by rw [Zjj ho])
def Ao:AV→AV
 | .es=>.fz 0 none []
 | .fz n _ l=>.fz n none l
 | v=>v
theorem OH (l:List AV) (h:∀ u ∈ l,AM.hf (Ao u)=true):hfs (l.map Ao)=true:=hfs_iff.2 fun v hv=>by
 obtain ⟨u,hu,rfl⟩:=Zkf.1 hv;exact h u hu
def osW (D:List AV) (dd:Bool) (L:List AV):Nat→List AObj
 | 0=>[.row 60 D,.row 60 [.nils,.nils,.bool false],.row 60 [.nils,.nils,.bool dd]]
 | i+1=>[.row 60 D,.row 60 [.nils,.nils,.bool false],.row 60 [.sl 3 0 (i+1) none,.nils,.bool dd],.row 76 L]
def tlW (bv:AV) (n i:Nat):List (Nat×AV):=[(1,.ptr 0 0),(2,.ptr 1 0),(3,.ptr 2 0),(12,bv),(13,.int .i64 (n:Int)),(14,.int .i64 (i:Int))]
variable {t:AT}{D L cs:List AV}{dd:Bool}{i:Nat}{cp:Option Nat}{rs:List Nat}
theorem I9 {bv:AV}(hbv:AM.hf bv=true) (hD:hfs D=true) (hL:hfs L=true) (hcs:hfs cs=true)
 (h:Abs t s (tlW bv m (i+1)) (osW D dd (L++[.sl 4 0 n cp]) (i+1)++[.row 5 cs]) rs):
 Tells P 0 t s [] (At (tlW bv m (i+1))) (Ae St0 (osW D dd (L++[.fz n none cs]) (i+1))) []:=by
 refine AbsK.frz (n:=4) h.toK rfl hcs rfl rfl rfl rfl ?_ ?_
 ·show [_,_,_,(12,Dd 4 _ bv),_,_]=_
  rw [HF bv hbv];rfl
 ·show [Cv 4 cs (.row 60 D),_,_,AObj.row 76 (C6 4 cs (L++[.sl 4 0 n cp]))]=_
  rw [D5 hD,ND,GE L hL]
  rfl
def A7 (w:WR):WR:=⟨w.at_,Ao w.u,w.b⟩
theorem GF (L:List WR) (w:WR):Af (L++[w].map A7)=Af L++[.int .i64 w.at_,Ao w.u]:=by
 unfold Af;rw [List.flatMap_append];rfl
variable {y:AV}
theorem GM {x:AV}(h:hfs L=true):Bq n (L++[x,y])=(bd n x && bd n y):=by
 induction L with
 | nil=>show (bd n x && (bd n y && true))=_;rw [Bool.and_true]
 | cons z L ih=>
  simp only [hfs,Zjh] at h
  show (bd n z && Bq n (L++[x,y]))=_
  rw [DZ z h.1,ih h.2];rfl
theorem G7 {ρ:Nat→Nat}{x:AV}(h:hfs L=true):Ba ρ (L++[x,y])=L++[Bc ρ x,Bc ρ y]:=by
 induction L with
 | nil=>rfl
 | cons z L ih=>
  simp only [hfs,Zjh] at h
  show Bc ρ z::Ba ρ (L++[x,y])=_
  rw [DF z h.1,ih h.2];rfl
theorem E8:∀ {L:List WR},(∀ w ∈ L,AM.hf w.u=true)→hfs (Af L)=true
 | [],_=>rfl
 | w::L,h=>by
  show (true && (AM.hf w.u && hfs (Af L)))=true
  rw [h w (by simp),E8 fun v hv=>h v (by simp [hv])];rfl
def osV (D:List AV) (dd:Bool) (L:List AV) (k:Nat) (M:List AV):Nat→List AObj
 | 0=>[.row 60 D,.row 60 [.nils,.nils,.bool false],.row 60 [.sl 3 0 k none,.nils,.bool dd],.row 76 L]
 | j+1=>[.row 60 D,.row 60 [.nils,.nils,.bool false],.row 60 [.sl 3 0 k none,.sl 4 0 (j+1) none,.bool dd],.row 76 L,.row 146 M]
def tlV (wv:AV) (n j:Nat):List (Nat×AV):=[(2,.ptr 1 0),(3,.ptr 2 0),(27,wv),(28,.int .i64 (n:Int)),(29,.int .i64 (j:Int))]
variable {a:Int}
theorem IB {wv:AV}{k:Nat}{M:List AV}(hwv:AM.hf wv=true) (hD:hfs D=true) (hL:hfs L=true) (hM:hfs M=true) (hcs:hfs cs=true)
 (h:Abs t s (tlV wv m (i+1)) (osV D dd L k (M++[.int .i64 a,.sl 5 0 n cp]) (i+1)++[.row 5 cs]) rs):
 Tells P 0 t s [] (At (tlV wv m (i+1))) (Ae St0 (osV D dd L k (M++[.int .i64 a,.fz n none cs]) (i+1))) []:=by
 refine AbsK.frz (n:=5) h.toK rfl hcs rfl rfl rfl rfl ?_ ?_
 ·show [_,_,(27,Dd 5 _ wv),_,_]=_
  rw [HF wv hwv];rfl
 ·show [Cv 5 cs (.row 60 D),_,_,Cv 5 cs (.row 76 L),AObj.row 146 (C6 5 cs (M++[.int .i64 a,.sl 5 0 n cp]))]=_
  rw [D5 hD,D5 hL,ND,GE M hM]
  rfl
variable {d:DK}
theorem Zbb {e:Env}(hE:EM P e) (h141:Inl e 119 Gd [.tmp 2]) (hd:d.ok) (h0:1≤d.us.length)
 (hk:∀ s,s.get 3=some (.row 76 (d.us.map Ao))→(d.ws.length=0→K (.agg [.sl 3 0 d.us.length none,.nils,.bool d.dead]) s)∧(1≤d.ws.length→s.get 4=some (.row 146 (Af (d.ws.map A7)))→K (.agg [.sl 3 0 d.us.length none,.sl 4 0 d.ws.length none,.bool d.dead]) s)):
 VW P e 0 (match Ll with|.mk c _=>c) (Al [d.v] 0 .lf) St0 none [] (Cj [.cells 2 3] K):=by
 have hbl:=hd.a.bl
 have hbs:=hd.a.bs
 have hbb:=hd.b
 have hun:=hd.n
 have hwsl:=hd.a.wl
 have hwsa:=hd.a.ws
 have hwb:=hd.w
 have hwn:=hd.m
 have hdf:hfs d.c=true:=Lf hd.a.wl hd.a.bl
 obtain ⟨bv,us,bs,wv,ws,dd⟩:=d
 dsimp only at hbl hbs hbb hun h0 hk hwsl hwsa hwb hwn
 have hdf:hfs [bv,wv,.bool dd]=true:=hdf
 have hbv:=hbl.hf
 have hcl:∀ i,hfs ((us.take i).map Ao)=true:=fun i=>OH _ fun u hu=>by
  obtain ⟨k,hk⟩:=Zk9.1 (Zkm hu)
  obtain ⟨b,_,hb⟩:=hbs.get hk
  rcases hb.1 with ⟨rfl,_⟩|⟨rfl,_⟩|⟨c,rfl,_⟩ <;> rfl
 show VW P e 0 (match Ll with|.mk c _=>c) (Al [.agg [bv,wv,.bool dd]] 0 .lf) St0 none [] _
 conv=>whnf
 refine Ac rfl hbl ?_;conv=>whnf
 refine DH (α:=Nat) (fun i=>tlW bv us.length i) (fun i=>osW [bv,wv,.bool dd] dd ((us.take i).map Ao) i) (fun i=>us.length-i) (fun i=>i≤us.length) 0 (Zjy _)
  (Abs.tells (rs:=[0,1,2]) ⟨by decide,⟨r9,r9,r9,t9 hbv,r9,r9,trivial⟩,⟨o9 hdf,r9,r9,trivial⟩⟩) ?_
 intro i hi
 refine Cz hE ?_
 by_cases hlt:i<us.length
 ·obtain ⟨b,hb1,hb2⟩:=hbs.get (Zjf hlt)
  have hbn:=hbb b (Zj1 hb1)
  have hug:((us.drop (i*1)))[0]?=some us[i]:=by rw [Zki,Zjq,Zko,Zjf hlt]
  have htk:us.take (i+1)=us.take i++[us[i]]:=Zjs hlt
  have hub:=hb2.1
  have hall:=And.intro hug (And.intro htk hub)
  clear hb1 hb2 hug htk hub
  revert hall
  generalize us[i]=u
  rintro ⟨hug,htk,hub⟩
  rcases i with _|i
  ·conv=>whnf
   refine Bd (a:=((0:Nat):Int)) (b:=(us.length:Int)) rfl rfl (fun _=>?_) (fun h=>by omega);conv=>whnf
   refine BZ rfl hbl rfl hlt ?_;conv=>whnf
   refine EHead.mk (v:=u) hug ?_;conv=>whnf
   refine ESc.inl h141 ?_;conv=>whnf
   rcases hub with ⟨rfl,hn0,hbs0⟩|⟨rfl,hn0,hbs0⟩|⟨c,rfl,hbl'⟩
   ·refine Mf rfl rfl ?_;conv=>whnf
    repeat' (first|(refine CT (m:=1) rfl rfl rfl rfl (by decide) (by decide) ?_;conv=>whnf)|((first|refine w7 rfl rfl (by omega) ?_|refine ⟨rfl,?_⟩);conv=>whnf)|fail)
    refine ⟨0+1,hlt,by omega,?_⟩
    rw [htk,Zj4]
    refine Abs.tells (rs:=[0,1,2,4]) ⟨by decide,⟨r9,r9,r9,t9 hbv,r9,r9,trivial⟩,⟨o9 hdf,r9,r9,⟨by show Bq _ (List.map _ _++[_])=true;rw [GQ (hcl _)];rfl,by show _=some (AObj.row 76 (Ba _ (List.map _ _++[_])));rw [GD (hcl _)];rfl⟩,trivial⟩⟩
   ·refine Gh rfl rfl (.inl rfl) ?_;conv=>whnf
    repeat' (first|(refine G9 rfl rfl rfl ?_;conv=>whnf)|(refine CT (m:=1) rfl rfl rfl rfl (by decide) (by decide) ?_;conv=>whnf)|((first|refine w7 rfl rfl (by omega) ?_|refine ⟨rfl,?_⟩);conv=>whnf)|fail)
    refine ⟨0+1,hlt,by omega,?_⟩
    rw [htk,Zj4]
    refine I9 (i:=0) (L:=(us.take (0)).map Ao) (n:=0) (cs:=[]) (rs:=[0,1,2,5,3]) hbv hdf (hcl _) rfl ⟨by decide,⟨r9,r9,r9,t9 hbv,r9,r9,trivial⟩,⟨o9 hdf,r9,r9,⟨by show Bq _ (List.map _ _++[_])=true;rw [GQ (hcl _)];rfl,by show _=some (AObj.row 76 (Ba _ (List.map _ _++[_])));rw [GD (hcl _)];rfl⟩,o9 rfl,trivial⟩⟩
   ·refine Gh rfl rfl (.inr ⟨_,_,_,rfl⟩) ?_;conv=>whnf
    cases b with
    | nil=>
     repeat' (first|(refine G9 rfl rfl rfl ?_;conv=>whnf)|(refine CT (m:=1) rfl rfl rfl rfl (by decide) (by decide) ?_;conv=>whnf)|((first|refine w7 rfl rfl (by omega) ?_|refine ⟨rfl,?_⟩);conv=>whnf)|fail)
     refine ⟨0+1,hlt,by omega,?_⟩
     rw [htk,Zj4]
     refine I9 (i:=0) (L:=(us.take (0)).map Ao) (n:=0) (cs:=[]) (rs:=[0,1,2,5,3]) hbv hdf (hcl _) rfl ⟨by decide,⟨r9,r9,r9,t9 hbv,r9,r9,trivial⟩,⟨o9 hdf,r9,r9,⟨by show Bq _ (List.map _ _++[_])=true;rw [GQ (hcl _)];rfl,by show _=some (AObj.row 76 (Ba _ (List.map _ _++[_])));rw [GD (hcl _)];rfl⟩,o9 rfl,trivial⟩⟩
    | cons x b=>
     refine EPrim.app1 (c:=.int .u8 (Int.ofNat x)) (cs:=Aj b) (m:=b.length+1) rfl rfl ?_ rfl ?_ (by omega) (by have:=hbn;simp at this;omega) ?_
     ·show Bi ((b.length+1)*1) (Aj (x::b))=_
      rw [EZ (by rw [CU];simp),Zjo (by rw [CU];simp)];rfl
     ·show (Aj (x::b)).length / 1=_
      rw [CU];simp
     conv=>whnf
     repeat' (first|(refine CT (m:=1) rfl rfl rfl rfl (by decide) (by decide) ?_;conv=>whnf)|((first|refine w7 rfl rfl (by omega) ?_|refine ⟨rfl,?_⟩);conv=>whnf)|fail)
     refine ⟨0+1,hlt,by omega,?_⟩
     rw [htk,Zj4]
     refine I9 (i:=0) (L:=(us.take (0)).map Ao) (n:=(b.length+1)) (cs:=(Aj (x::b))) (rs:=[0,1,2,6,4]) hbv hdf (hcl _) (B0 _) ⟨by decide,⟨r9,r9,r9,t9 hbv,r9,r9,trivial⟩,⟨o9 hdf,r9,r9,⟨by show Bq _ (List.map _ _++[_])=true;rw [GQ (hcl _)];rfl,by show _=some (AObj.row 76 (Ba _ (List.map _ _++[_])));rw [GD (hcl _)];rfl⟩,o9 (B0 _),trivial⟩⟩
  ·conv=>whnf
   refine Bd (a:=((i+1:Nat):Int)) (b:=(us.length:Int)) rfl rfl (fun _=>?_) (fun h=>by omega);conv=>whnf
   refine BZ rfl hbl rfl hlt ?_;conv=>whnf
   refine EHead.mk (v:=u) hug ?_;conv=>whnf
   refine ESc.inl h141 ?_;conv=>whnf
   rcases hub with ⟨rfl,hn0,hbs0⟩|⟨rfl,hn0,hbs0⟩|⟨c,rfl,hbl'⟩
   ·refine Mf rfl rfl ?_;conv=>whnf
    repeat' (first|(refine Cy (m:=1) rfl rfl rfl rfl (by rw [Zjm,Zj5];omega) rfl (by decide) (by omega) ?_;conv=>whnf)|((first|refine w7 rfl rfl (by omega) ?_|refine ⟨rfl,?_⟩);conv=>whnf)|fail)
    refine ⟨i+1+1,hlt,by omega,?_⟩
    rw [htk,Zj4]
    refine Abs.tells (rs:=[0,1,2,5]) ⟨by decide,⟨r9,r9,r9,t9 hbv,r9,r9,trivial⟩,⟨o9 hdf,r9,r9,⟨by show Bq _ (List.map _ _++[_])=true;rw [GQ (hcl _)];rfl,by show _=some (AObj.row 76 (Ba _ (List.map _ _++[_])));rw [GD (hcl _)];rfl⟩,trivial⟩⟩
   ·refine Gh rfl rfl (.inl rfl) ?_;conv=>whnf
    repeat' (first|(refine G9 rfl rfl rfl ?_;conv=>whnf)|(refine Cy (m:=1) rfl rfl rfl rfl (by rw [Zjm,Zj5];omega) rfl (by decide) (by omega) ?_;conv=>whnf)|((first|refine w7 rfl rfl (by omega) ?_|refine ⟨rfl,?_⟩);conv=>whnf)|fail)
    refine ⟨i+1+1,hlt,by omega,?_⟩
    rw [htk,Zj4]
    refine I9 (i:=i+1) (L:=(us.take (i+1)).map Ao) (n:=0) (cs:=[]) (rs:=[0,1,2,6,4]) hbv hdf (hcl _) rfl ⟨by decide,⟨r9,r9,r9,t9 hbv,r9,r9,trivial⟩,⟨o9 hdf,r9,r9,⟨by show Bq _ (List.map _ _++[_])=true;rw [GQ (hcl _)];rfl,by show _=some (AObj.row 76 (Ba _ (List.map _ _++[_])));rw [GD (hcl _)];rfl⟩,o9 rfl,trivial⟩⟩
   ·refine Gh rfl rfl (.inr ⟨_,_,_,rfl⟩) ?_;conv=>whnf
    cases b with
    | nil=>
     repeat' (first|(refine G9 rfl rfl rfl ?_;conv=>whnf)|(refine Cy (m:=1) rfl rfl rfl rfl (by rw [Zjm,Zj5];omega) rfl (by decide) (by omega) ?_;conv=>whnf)|((first|refine w7 rfl rfl (by omega) ?_|refine ⟨rfl,?_⟩);conv=>whnf)|fail)
     refine ⟨i+1+1,hlt,by omega,?_⟩
     rw [htk,Zj4]
     refine I9 (i:=i+1) (L:=(us.take (i+1)).map Ao) (n:=0) (cs:=[]) (rs:=[0,1,2,6,4]) hbv hdf (hcl _) rfl ⟨by decide,⟨r9,r9,r9,t9 hbv,r9,r9,trivial⟩,⟨o9 hdf,r9,r9,⟨by show Bq _ (List.map _ _++[_])=true;rw [GQ (hcl _)];rfl,by show _=some (AObj.row 76 (Ba _ (List.map _ _++[_])));rw [GD (hcl _)];rfl⟩,o9 rfl,trivial⟩⟩
    | cons x b=>
     refine EPrim.app1 (c:=.int .u8 (Int.ofNat x)) (cs:=Aj b) (m:=b.length+1) rfl rfl ?_ rfl ?_ (by omega) (by have:=hbn;simp at this;omega) ?_
     ·show Bi ((b.length+1)*1) (Aj (x::b))=_
      rw [EZ (by rw [CU];simp),Zjo (by rw [CU];simp)];rfl
     ·show (Aj (x::b)).length / 1=_
      rw [CU];simp
     conv=>whnf
     repeat' (first|(refine Cy (m:=1) rfl rfl rfl rfl (by rw [Zjm,Zj5];omega) rfl (by decide) (by omega) ?_;conv=>whnf)|((first|refine w7 rfl rfl (by omega) ?_|refine ⟨rfl,?_⟩);conv=>whnf)|fail)
     refine ⟨i+1+1,hlt,by omega,?_⟩
     rw [htk,Zj4]
     refine I9 (i:=i+1) (L:=(us.take (i+1)).map Ao) (n:=(b.length+1)) (cs:=(Aj (x::b))) (rs:=[0,1,2,7,5]) hbv hdf (hcl _) (B0 _) ⟨by decide,⟨r9,r9,r9,t9 hbv,r9,r9,trivial⟩,⟨o9 hdf,r9,r9,⟨by show Bq _ (List.map _ _++[_])=true;rw [GQ (hcl _)];rfl,by show _=some (AObj.row 76 (Ba _ (List.map _ _++[_])));rw [GD (hcl _)];rfl⟩,o9 (B0 _),trivial⟩⟩
 ·obtain ⟨k,rfl⟩:∃ k,i=k+1:=⟨i-1,by omega⟩
  have hku:k+1=us.length:=by omega
  have hLe:(us.take (k+1)).map Ao=us.map Ao:=by rw [Zjo (by omega)]
  have hLf:=hcl (k+1)
  rw [hLe] at hLf ⊢
  have hwv:=hwsl.hf
  conv=>whnf
  refine Bd (a:=((k+1:Nat):Int)) (b:=(us.length:Int)) rfl rfl (fun _=>by omega) (fun _=>?_);conv=>whnf
  refine Ac rfl hwsl ?_;conv=>whnf
  have hwl:∀ i,hfs (Af ((ws.take i).map A7))=true:=fun i=>E8 fun w hw=>by
   obtain ⟨v,hv,rfl⟩:=Zkf.1 hw
   rcases (hwsa v (Zkm hv)).b.1 with ⟨h,_⟩|⟨h,_⟩|⟨c,h,_⟩ <;> (show AM.hf (Ao v.u)=true;rw [h];rfl)
  refine DH (α:=Nat) (fun j=>tlV wv ws.length j) (fun j=>osV [bv,wv,.bool dd] dd (us.map Ao) (k+1) (Af ((ws.take j).map A7)) j) (fun j=>ws.length-j) (fun j=>j≤ws.length) 0 (Zjy _)
   (Abs.tells (rs:=[0,1,2,3]) ⟨by decide,⟨r9,r9,t9 hwv,r9,r9,trivial⟩,⟨o9 hdf,r9,r9,o9 hLf,trivial⟩⟩) ?_
  intro j hj
  refine Cz hE ?_
  by_cases hlt:j<ws.length
  ·have hdr:=FQ hlt
   have hwm:=Zkg hlt
   have hwany:=hwsa _ hwm
   have hbn:=hwb _ hwm
   have htk:ws.take (j+1)=ws.take j++[ws[j]]:=Zjs hlt
   have hall:=And.intro hdr (And.intro hwany (And.intro hbn htk))
   clear hdr hwm hwany hbn htk
   revert hall
   generalize ws[j]=w
   obtain ⟨wa,u,b⟩:=w
   rintro ⟨hdr,⟨hwai,hub,hub2⟩,hbn,htk⟩
   have hdr:(Af ws).drop (j*2)=[.int .i64 wa,u]++Af (ws.drop (j+1)):=hdr
   dsimp only at hub hbn
   have hcell:∀ (K:List AV→Prop),K [.int .i64 wa,u]→ETake 2 ([.int .i64 wa,u]++Af (ws.drop (j+1))) K:=fun K hk=>Ay rfl hk
   rcases j with _|j
   ·conv=>whnf
    refine Bd (a:=((0:Nat):Int)) (b:=(ws.length:Int)) rfl rfl (fun _=>?_) (fun h=>by omega);conv=>whnf
    refine BZ rfl hwsl rfl hlt ?_
    rw [hdr]
    conv=>whnf
    refine hcell _ ?_;conv=>whnf
    repeat' (first|(refine ESc.inl h141 ?_;conv=>whnf)|fail)
    rcases hub with ⟨rfl,hn0,hbs0⟩|⟨rfl,hn0,hbs0⟩|⟨c,rfl,hbl'⟩
    ·refine Mf rfl rfl ?_;conv=>whnf
     repeat' (first|(refine ⟨rfl,?_⟩;conv=>whnf)|(refine CT (m:=1) rfl rfl rfl rfl (by decide) (by decide) ?_;conv=>whnf)|(refine w7 rfl rfl (by omega) ?_;conv=>whnf)|fail)
     refine ⟨0+1,hlt,by omega,?_⟩
     rw [htk,Zj4,GF]
     refine Abs.tells (rs:=[0,1,2,3,6]) ⟨by decide,⟨r9,r9,t9 hwv,r9,r9,trivial⟩,⟨o9 hdf,r9,r9,o9 hLf,⟨by show Bq _ (Af _++[.int .i64 _,_])=true;rw [GM (hwl _)];rfl,by show _=some (AObj.row 146 (Ba _ (Af _++[.int .i64 _,_])));rw [G7 (hwl _)];rfl⟩,trivial⟩⟩
    ·refine Gh rfl rfl (.inl rfl) ?_;conv=>whnf
     repeat' (first|(refine G9 rfl rfl rfl ?_;conv=>whnf)|(refine ⟨rfl,?_⟩;conv=>whnf)|(refine CT (m:=1) rfl rfl rfl rfl (by decide) (by decide) ?_;conv=>whnf)|(refine w7 rfl rfl (by omega) ?_;conv=>whnf)|fail)
     refine ⟨0+1,hlt,by omega,?_⟩
     rw [htk,Zj4,GF]
     refine IB (i:=0) (M:=Af ((ws.take (0)).map A7)) (a:=wa) (n:=0) (cs:=[]) (rs:=[0,1,2,3,7,5]) hwv hdf hLf (hwl _) rfl ⟨by decide,⟨r9,r9,t9 hwv,r9,r9,trivial⟩,⟨o9 hdf,r9,r9,o9 hLf,⟨by show Bq _ (Af _++[.int .i64 _,_])=true;rw [GM (hwl _)];rfl,by show _=some (AObj.row 146 (Ba _ (Af _++[.int .i64 _,_])));rw [G7 (hwl _)];rfl⟩,o9 rfl,trivial⟩⟩
    ·refine Gh rfl rfl (.inr ⟨_,_,_,rfl⟩) ?_;conv=>whnf
     cases b with
     | nil=>
      repeat' (first|(refine G9 rfl rfl rfl ?_;conv=>whnf)|(refine ⟨rfl,?_⟩;conv=>whnf)|(refine CT (m:=1) rfl rfl rfl rfl (by decide) (by decide) ?_;conv=>whnf)|(refine w7 rfl rfl (by omega) ?_;conv=>whnf)|fail)
      refine ⟨0+1,hlt,by omega,?_⟩
      rw [htk,Zj4,GF]
      refine IB (i:=0) (M:=Af ((ws.take (0)).map A7)) (a:=wa) (n:=0) (cs:=[]) (rs:=[0,1,2,3,7,5]) hwv hdf hLf (hwl _) rfl ⟨by decide,⟨r9,r9,t9 hwv,r9,r9,trivial⟩,⟨o9 hdf,r9,r9,o9 hLf,⟨by show Bq _ (Af _++[.int .i64 _,_])=true;rw [GM (hwl _)];rfl,by show _=some (AObj.row 146 (Ba _ (Af _++[.int .i64 _,_])));rw [G7 (hwl _)];rfl⟩,o9 rfl,trivial⟩⟩
     | cons x b=>
      refine EPrim.app1 (c:=.int .u8 (Int.ofNat x)) (cs:=Aj b) (m:=b.length+1) rfl rfl ?_ rfl ?_ (by omega) (by have:=hbn;simp at this;omega) ?_
      ·show Bi ((b.length+1)*1) (Aj (x::b))=_
       rw [EZ (by rw [CU];simp),Zjo (by rw [CU];simp)];rfl
      ·show (Aj (x::b)).length / 1=_
       rw [CU];simp
      conv=>whnf
      repeat' (first|(refine ⟨rfl,?_⟩;conv=>whnf)|(refine CT (m:=1) rfl rfl rfl rfl (by decide) (by decide) ?_;conv=>whnf)|(refine w7 rfl rfl (by omega) ?_;conv=>whnf)|fail)
      refine ⟨0+1,hlt,by omega,?_⟩
      rw [htk,Zj4,GF]
      refine IB (i:=0) (M:=Af ((ws.take (0)).map A7)) (a:=wa) (n:=(b.length+1)) (cs:=(Aj (x::b))) (rs:=[0,1,2,3,8,6]) hwv hdf hLf (hwl _) (B0 _) ⟨by decide,⟨r9,r9,t9 hwv,r9,r9,trivial⟩,⟨o9 hdf,r9,r9,o9 hLf,⟨by show Bq _ (Af _++[.int .i64 _,_])=true;rw [GM (hwl _)];rfl,by show _=some (AObj.row 146 (Ba _ (Af _++[.int .i64 _,_])));rw [G7 (hwl _)];rfl⟩,o9 (B0 _),trivial⟩⟩
   ·conv=>whnf
    refine Bd (a:=((j+1:Nat):Int)) (b:=(ws.length:Int)) rfl rfl (fun _=>?_) (fun h=>by omega);conv=>whnf
    refine BZ rfl hwsl rfl hlt ?_
    rw [hdr]
    conv=>whnf
    refine hcell _ ?_;conv=>whnf
    repeat' (first|(refine ESc.inl h141 ?_;conv=>whnf)|fail)
    rcases hub with ⟨rfl,hn0,hbs0⟩|⟨rfl,hn0,hbs0⟩|⟨c,rfl,hbl'⟩
    ·refine Mf rfl rfl ?_;conv=>whnf
     repeat' (first|(refine ⟨rfl,?_⟩;conv=>whnf)|(refine Cy (m:=1) rfl rfl rfl rfl (by rw [Dm,Zjm,Zj5];omega) rfl (by decide) (by omega) ?_;conv=>whnf)|(refine w7 rfl rfl (by omega) ?_;conv=>whnf)|fail)
     refine ⟨j+1+1,hlt,by omega,?_⟩
     rw [htk,Zj4,GF]
     refine Abs.tells (rs:=[0,1,2,3,7]) ⟨by decide,⟨r9,r9,t9 hwv,r9,r9,trivial⟩,⟨o9 hdf,r9,r9,o9 hLf,⟨by show Bq _ (Af _++[.int .i64 _,_])=true;rw [GM (hwl _)];rfl,by show _=some (AObj.row 146 (Ba _ (Af _++[.int .i64 _,_])));rw [G7 (hwl _)];rfl⟩,trivial⟩⟩
    ·refine Gh rfl rfl (.inl rfl) ?_;conv=>whnf
     repeat' (first|(refine G9 rfl rfl rfl ?_;conv=>whnf)|(refine ⟨rfl,?_⟩;conv=>whnf)|(refine Cy (m:=1) rfl rfl rfl rfl (by rw [Dm,Zjm,Zj5];omega) rfl (by decide) (by omega) ?_;conv=>whnf)|(refine w7 rfl rfl (by omega) ?_;conv=>whnf)|fail)
     refine ⟨j+1+1,hlt,by omega,?_⟩
     rw [htk,Zj4,GF]
     refine IB (i:=j+1) (M:=Af ((ws.take (j+1)).map A7)) (a:=wa) (n:=0) (cs:=[]) (rs:=[0,1,2,3,8,6]) hwv hdf hLf (hwl _) rfl ⟨by decide,⟨r9,r9,t9 hwv,r9,r9,trivial⟩,⟨o9 hdf,r9,r9,o9 hLf,⟨by show Bq _ (Af _++[.int .i64 _,_])=true;rw [GM (hwl _)];rfl,by show _=some (AObj.row 146 (Ba _ (Af _++[.int .i64 _,_])));rw [G7 (hwl _)];rfl⟩,o9 rfl,trivial⟩⟩
    ·refine Gh rfl rfl (.inr ⟨_,_,_,rfl⟩) ?_;conv=>whnf
     cases b with
     | nil=>
      repeat' (first|(refine G9 rfl rfl rfl ?_;conv=>whnf)|(refine ⟨rfl,?_⟩;conv=>whnf)|(refine Cy (m:=1) rfl rfl rfl rfl (by rw [Dm,Zjm,Zj5];omega) rfl (by decide) (by omega) ?_;conv=>whnf)|(refine w7 rfl rfl (by omega) ?_;conv=>whnf)|fail)
      refine ⟨j+1+1,hlt,by omega,?_⟩
      rw [htk,Zj4,GF]
      refine IB (i:=j+1) (M:=Af ((ws.take (j+1)).map A7)) (a:=wa) (n:=0) (cs:=[]) (rs:=[0,1,2,3,8,6]) hwv hdf hLf (hwl _) rfl ⟨by decide,⟨r9,r9,t9 hwv,r9,r9,trivial⟩,⟨o9 hdf,r9,r9,o9 hLf,⟨by show Bq _ (Af _++[.int .i64 _,_])=true;rw [GM (hwl _)];rfl,by show _=some (AObj.row 146 (Ba _ (Af _++[.int .i64 _,_])));rw [G7 (hwl _)];rfl⟩,o9 rfl,trivial⟩⟩
     | cons x b=>
      refine EPrim.app1 (c:=.int .u8 (Int.ofNat x)) (cs:=Aj b) (m:=b.length+1) rfl rfl ?_ rfl ?_ (by omega) (by have:=hbn;simp at this;omega) ?_
      ·show Bi ((b.length+1)*1) (Aj (x::b))=_
       rw [EZ (by rw [CU];simp),Zjo (by rw [CU];simp)];rfl
      ·show (Aj (x::b)).length / 1=_
       rw [CU];simp
      conv=>whnf
      repeat' (first|(refine ⟨rfl,?_⟩;conv=>whnf)|(refine Cy (m:=1) rfl rfl rfl rfl (by rw [Dm,Zjm,Zj5];omega) rfl (by decide) (by omega) ?_;conv=>whnf)|(refine w7 rfl rfl (by omega) ?_;conv=>whnf)|fail)
      refine ⟨j+1+1,hlt,by omega,?_⟩
      rw [htk,Zj4,GF]
      refine IB (i:=j+1) (M:=Af ((ws.take (j+1)).map A7)) (a:=wa) (n:=(b.length+1)) (cs:=(Aj (x::b))) (rs:=[0,1,2,3,9,7]) hwv hdf hLf (hwl _) (B0 _) ⟨by decide,⟨r9,r9,t9 hwv,r9,r9,trivial⟩,⟨o9 hdf,r9,r9,o9 hLf,⟨by show Bq _ (Af _++[.int .i64 _,_])=true;rw [GM (hwl _)];rfl,by show _=some (AObj.row 146 (Ba _ (Af _++[.int .i64 _,_])));rw [G7 (hwl _)];rfl⟩,o9 (B0 _),trivial⟩⟩
  ·have hje:j=ws.length:=by omega
   have hMe:ws.take j=ws:=Zjo (by omega)
   rw [hMe]
   rw [← hku] at hk
   rcases j with _|j
   ·conv=>whnf
    refine Bd (a:=((0:Nat):Int)) (b:=(ws.length:Int)) rfl rfl (fun _=>by omega) (fun _=>?_);conv=>whnf
    skip
    refine (hk _ ?_).1 hje.symm
    rfl
   ·conv=>whnf
    refine Bd (a:=((j+1:Nat):Int)) (b:=(ws.length:Int)) rfl rfl (fun _=>by omega) (fun _=>?_);conv=>whnf
    skip
    rw [← hje] at hk
    refine (hk _ ?_).2 (by omega) ?_
    ·rfl
    ·rfl
def Fu (x:DK):List AObj:=match x.ws.length with
 | 0=>[.row 76 (x.us.map Ao)]
 | _+1=>[.row 76 (x.us.map Ao),.row 146 (Af (x.ws.map A7))]
def G2 (n:Nat) (x:DK):AV:=.agg [.sl (0+n) 0 x.us.length none,(match x.ws.length with|0=>.nils|m+1=>.sl (1+n) 0 (m+1) none),.bool x.dead]
structure DK1 (x:DK):Prop where
 ok:x.ok
 n:1≤x.us.length
noncomputable def CF:Ov:=fun args s=>open Classical in if h:∃ x:DK,DK1 x∧args=[x.v] then .ok (G2 s.next (Classical.choose h)) (Ae s (Fu (Classical.choose h))) else .fail
theorem IA {x:DK}(hx:DK1 x) (s:St):CF [x.v] s=.ok (G2 s.next x) (Ae s (Fu x)):=by
 have h:∃ y:DK,DK1 y∧[x.v]=[y.v]:=⟨x,hx,rfl⟩
 unfold CF
 rw [dif_pos h]
 obtain ⟨h1,h2⟩:=Zku h
 rw [← DK.inj hx.ok.a h1.ok.a (Zjr h2).1]
theorem TM {e:Env}(hE:EM P e) (h141:Inl e 119 Gd [.tmp 2]):OvOk P 66 CF:=by
 refine ⟨g66.b,fun args s v s' hh=>?_⟩
 have hx0:∃ x:DK,DK1 x∧args=[x.v]:=by
  unfold CF at hh
  split at hh
  ·rename_i h;exact h
  ·cases hh
 obtain ⟨x,hx,rfl⟩:=hx0
 rw [IA hx] at hh
 cases hh
 have hfa:hfs [x.v]=true:=by show (AM.hf x.v && true)=true;rw [DK.hf hx.ok.a];rfl
 have hcl:hfs (x.us.map Ao)=true:=OH _ fun u hu=>by
  obtain ⟨k,hk⟩:=Zk9.1 hu
  obtain ⟨b,_,hb⟩:=hx.ok.a.bs.get hk
  rcases hb.1 with ⟨rfl,_⟩|⟨rfl,_⟩|⟨c,rfl,_⟩ <;> rfl
 have hwl:hfs (Af (x.ws.map A7))=true:=E8 fun w hw=>by
  obtain ⟨v,hv,rfl⟩:=Zkf.1 hw
  rcases (hx.ok.a.ws v hv).b.1 with ⟨h,_⟩|⟨h,_⟩|⟨c,h,_⟩ <;> (show AM.hf (Ao v.u)=true;rw [h];rfl)
 have key:C P 66 [x.v] St0 (fun v s'=>v=G2 0 x∧s'=Ae St0 (Fu x)):=by
  refine C.abs (C.of_G hE g66 (Zbb hE h141 hx.ok hx.n fun s h3=>⟨fun h0=>?_,fun h1 h4=>?_⟩))
  ·unfold G2 Fu
   rw [h0]
   exact ⟨[3],⟨by decide,⟨r9,trivial⟩,⟨⟨Ab hcl,by rw [Aa hcl];exact h3⟩,trivial⟩⟩⟩
  ·obtain ⟨m,hm'⟩:∃ m,x.ws.length=m+1:=⟨x.ws.length-1,by omega⟩
   unfold G2 Fu
   rw [hm']
   exact ⟨[3,4],⟨by decide,⟨r9,trivial⟩,⟨⟨Ab hcl,by rw [Aa hcl];exact h3⟩,⟨Ab hwl,by rw [Aa hwl];exact h4⟩,trivial⟩⟩⟩
 refine (C.frame (l:=Fu x) (u:=G2 0 x) hfa ?_ ?_ key ?_ s).mono ?_
 ·unfold Fu;split
  ·intro o ho;simp at ho;subst ho;rfl
  ·intro o ho;simp at ho;rcases ho with rfl|rfl <;> rfl
 ·unfold Fu;split <;> exact .inl (by simp)
 ·unfold Fu;split <;> intro i o h <;> rcases i with _|_|i <;> simp at h <;> first|(subst h;rfl)|omega
 ·rintro v s' ⟨rfl,rfl⟩
  refine ⟨?_,?_⟩
  ·unfold G2;cases x.ws.length <;> rfl
  ·unfold Fu;split
   ·show Ae s [Ax _ (.row 76 (x.us.map Ao))]=_
    rw [Aa hcl]
   ·show Ae s [Ax _ (.row 76 (x.us.map Ao)),Ax _ (.row 146 (Af (x.ws.map A7)))]=_
    rw [Aa hcl,Aa hwl]
def D0 (a:Int) (w:WR):Bool:=decide (w.at_=a)
def AS (a:Int) (L:List WR):List WR:=L.filter fun w=>!D0 a w
def zW:List AV:=[.int .i64 0,.nils]
def Zd4:AC:=match N1 with|.mk c _=>c
def Mg:AC:=match N0 with|.mk c _=>c
variable {r:Nat}{X:List WR}{w:WR}
theorem Tp {e j:Nat}(h:s.get r=some (.row e (Af X))) (hj:X[j]?=some w):load r (0+j*2) 2 s=some [.int .i64 w.at_,w.u]:=by
 have hlt:=(Zjg.1 hj).1
 have hw:=(Zjg.1 hj).2
 rw [Kl h (by rw [Dm];omega),Zju,FQ hlt,hw];rfl
theorem SQ:∀ {X:List WR}{k:Nat}{w:WR},k<X.length→(Af X).take (k*2)++[.int .i64 w.at_,w.u]++(Af X).drop (k*2+2)=Af (X.set k w)
 | [],k,w,h=>by simp at h
 | x::X,0,w,h=>by rw [E5];rfl
 | x::X,k+1,w,h=>by
  have:=SQ (X:=X) (k:=k) (w:=w) (by simpa using h)
  rw [E5,List.set_cons_succ,E5,← this]
  have hl:x.c.length=2:=rfl
  rw [show (k+1)*2=x.c.length+k*2 by omega,List.take_append,Zjo (by omega),show x.c.length+k*2+2=x.c.length+(k*2+2) by omega,List.drop_append,Zkb (by omega)]
  simp
theorem Zm {e k:Nat}(h:s.get r=some (.row e (Af X))) (hk:k<X.length):storeAt r (0+k*2) [.int .i64 w.at_,w.u] s=some (s.put r (.row e (Af (X.set k w)))):=by
 rw [JQ h (by rw [Dm];show 0+k*2+2≤_;omega),Zju,← SQ hk];rfl
variable {z:List AV}
theorem XG {k:AV→St→Prop}{x:AO}{o:Nat}{c:Option Nat}{s':St}(hx:ev x t=.some (.sl r o n c)) (hs:storeAt r o (AE z n) s=some s') (hk:k (.tup []) s'):EPrim (.clr z x) t s k:=by
 refine EPrim.mk (fun e rec=>?_) hk
 show wth x t _=_;unfold wth;rw [hx]
 show Gs (.tup []) (storeAt r o (AE z n) s)=_;rw [hs];rfl
theorem NJ:∀ n,(AE z n).length=n*z.length
 | 0=>by show ([]:List AV).length=_;simp
 | n+1=>by
  have:AE z (n+1)=z++AE z n:=by
   show AY z (AE z n)=_;rw [CJ]
  rw [this,Zjt,NJ n];simp [Nat.succ_mul];omega
theorem YV (X:List WR) (k:Nat):(Af X).take (k*2)=Af (X.take k):=by
 induction X generalizing k with
 | nil=>simp [Af]
 | cons x X ih=>
  cases k with
  | zero=>simp [Af]
  | succ k=>
   have hl:x.c.length=2:=rfl
   rw [E5,List.take_succ_cons,E5,← ih,show (k+1)*2=x.c.length+k*2 by omega,List.take_append,Zjo (by omega)]
   simp
theorem Ow (a:Int) (L:List WR):(AS a L).length≤L.length:=List.length_filter_le _ _
theorem RQ (a:Int) (L M:List WR):AS a (L++M)=AS a L++AS a M:=by unfold AS;simp
theorem RR {L:List WR}(h:∀ w ∈ L,D0 a w=false):AS a L=L:=by
 unfold AS;rw [List.filter_eq_self];intro w hw;rw [h w hw];rfl
theorem RS (p:WR→Bool):∀ (L:List WR) (i:Nat),(Bs p L i=-1∧∀ w ∈ L,p w=false)∨∃ (m:Nat) (h:m<L.length),Bs p L i=((i+m:Nat):Int)∧p L[m]=true∧∀ w ∈ L.take m,p w=false
 | [],i=>.inl ⟨rfl,by simp⟩
 | x::L,i=>by
  unfold Bs
  cases hx:p x
  ·rcases RS p L (i+1) with ⟨h1,h2⟩|⟨m,h,h1,h2,h3⟩
   ·exact .inl ⟨by rw [Zjn (by decide)];exact h1,fun w hw=>by rcases Zkp.1 hw with rfl|hw;exact hx;exact h2 w hw⟩
   ·refine .inr ⟨m+1,by simpa using h,?_,by simpa using h2,fun w hw=>?_⟩
    ·rw [Zjn (by decide),h1];congr 1;omega
    ·rw [List.take_succ_cons] at hw
     rcases Zkp.1 hw with rfl|hw
     ·exact hx
     ·exact h3 w hw
  ·exact .inr ⟨0,by simp,by rw [Zjj rfl];simp,by simpa using hx,by simp⟩
variable {W0:List WR}
theorem RU {e:Env}(hE:EM P e) (h137:Inl e 115 Mg [.tmp 3]) (hs:Sl 2 W0.length (Af W0) v) (ha:Ad a) (hw:∀ w ∈ W0,Ad w.at_) (hn:W0.length<1000000) (Q:AV→St→Prop) (hk:∀ s,Q (.int .i64 (Bs (D0 a) W0 0)) s):
 VW P e 0 T9 (Al [v,.fn 115 [] [.fp [.int .i64 a]]] 0 .lf) St0 none [] (Cj [.tmp 4] Q):=by
 have hvf:=hs.hf
 conv=>whnf
 refine Ac rfl hs ?_;conv=>whnf
 refine DH (α:=Nat) (fun i=>[(0,v),(1,.fn 115 [] [.fp [.int .i64 a]]),(7,.int .i64 (W0.length:Int)),(8,.int .i64 (i:Int))]) (fun _=>[]) (fun i=>W0.length-i) (fun i=>i≤W0.length∧Bs (D0 a) W0 0=Bs (D0 a) (W0.drop i) i) 0 ⟨Zjy _,rfl⟩
  (Abs.tells (rs:=[]) .a) ?_
 rintro i ⟨hi,hI⟩
 refine Cz hE ?_
 by_cases hlt:i<W0.length
 ·have hd:=FQ hlt
  have hwa:=hw _ (Zkg hlt)
  rw [Zj2 hlt] at hI
  have hall:=And.intro hI (And.intro hd hwa)
  clear hI hd hwa
  revert hall
  generalize W0[i]=w
  obtain ⟨wa,wu,wb⟩:=w
  rintro ⟨hI,hd,hwa⟩
  have hd:(Af W0).drop (i*2)=[.int .i64 wa,wu]++Af (W0.drop (i+1)):=hd
  have hI:Bs (D0 a) W0 0=if decide (wa=a) then (i:Int) else Bs (D0 a) (W0.drop (i+1)) (i+1):=hI
  unfold Ad at hwa ha
  dsimp only at hwa
  conv=>whnf
  refine Bd (a:=(i:Int)) (b:=(W0.length:Int)) rfl rfl (fun _=>?_) (fun h=>by omega);conv=>whnf
  repeat' (first|(refine BZ rfl hs rfl hlt ?_;rw [hd];conv=>whnf)|(refine Ay rfl ?_;conv=>whnf)|(refine ECall.inl h137.O h137.G ?_;conv=>whnf)|(refine EHead.mk rfl ?_;conv=>whnf)|((refine w5 rfl rfl ?_ ?_) <;> intro _ <;> first|(exfalso;omega)|(conv=>whnf))|((first|refine w7 rfl rfl (by omega) ?_|refine ⟨rfl,?_⟩);conv=>whnf)|fail)
  ·rename_i he
   rw [Zjj (by simpa using he)] at hI
   rw [hI] at hk
   exact hk _
  ·rename_i he
   rw [Zjn (by simpa using he)] at hI
   exact ⟨i+1,⟨hlt,hI⟩,by omega,Abs.tells (rs:=[]) .a⟩
 ·have hd:W0.drop i=[]:=Zkb (by omega)
  rw [hd] at hI
  have hI:Bs (D0 a) W0 0=-1:=hI
  rw [hI] at hk
  conv=>whnf
  refine Bd (a:=(i:Int)) (b:=(W0.length:Int)) rfl rfl (fun h=>by omega) (fun _=>?_);conv=>whnf
  exact hk _
structure WA where
 r:Nat
 q:Nat
 ws:List WR
 a:Int
structure WA.ok (x:WA) (s:St):Prop where
 g:s.get x.r=some (.row 146 (Af x.ws))
 q:s.get x.q=some (.row 3 [.int .i64 x.a])
 w:∀ w ∈ x.ws,w.any
 a:Ad x.a
 n:x.ws.length<1000000
def WA.args (x:WA):List AV:=[.sl x.r 0 x.ws.length none,.fn 115 [] [.ptr x.q 0]]
variable {x:WA}
theorem WA.inj {y:WA}(hx:x.ok s) (hy:y.ok s) (h:x.args=y.args):x=y:=by
 obtain ⟨r,q,ws,a⟩:=x
 obtain ⟨r',q',ws',a'⟩:=y
 simp [WA.args] at h
 obtain ⟨⟨rfl,_⟩,rfl⟩:=h
 have e1:=hx.g.symm.trans hy.g
 have e2:=hx.q.symm.trans hy.q
 dsimp only at e1 e2
 injection e1 with e1
 injection e1 with _ e1
 injection e2 with e2
 injection e2 with _ e2
 injection e2 with e2
 injection e2 with _ e2
 have e3:=LV hx.w hy.w e1
 dsimp only at e3
 subst e2 e3;rfl
noncomputable def Jd:Ov:=fun args s=>open Classical in if h:∃ x:WA,x.ok s∧args=x.args then .ok (.int .i64 (Bs (D0 (Classical.choose h).a) (Classical.choose h).ws 0)) s else .fail
theorem XK (hx:x.ok s):Jd x.args s=.ok (.int .i64 (Bs (D0 x.a) x.ws 0)) s:=by
 have h:∃ y:WA,y.ok s∧x.args=y.args:=⟨x,hx,rfl⟩
 unfold Jd
 rw [dif_pos h]
 obtain ⟨h1,h2⟩:=Zku h
 rw [← WA.inj hx h1 h2]
def nilI:Fam Int:=⟨Ad,fun a=>[.nils,.fn 115 [] [.fp [.int .i64 a]]],fun a=>.int .i64 (-1),fun _ _ _ _ _=>rfl⟩
noncomputable def Gx:Ov:=Fx Jd nilI.O
theorem Zdp {e:Env}(hE:EM P e) (h137:Inl e 115 Mg [.tmp 3]):OvOk P 143 Gx:=by
 refine Pl ⟨g143.b,fun args s u s' hh=>?_⟩ (Ca g143.b fun a ha=>⟨rfl,rfl,C.of_G hE g143 (RU (W0:=[]) hE h137 (.inl ⟨rfl,rfl,rfl⟩) ha (by simp) (by decide) _ fun s=>.plain _ rfl)⟩)
 unfold Jd at hh
 split at hh
 ·rename_i hx
  cases hh
  obtain ⟨h1,h2⟩:=Zku hx
  generalize Classical.choose hx=y at h1 h2 ⊢
  subst h2
  obtain ⟨r,q,ws,a⟩:=y
  obtain ⟨hg,hq,hw,ha,hn⟩:=h1
  dsimp only at hg hq hw ha hn
  have hwf:hfs (Af ws)=true:=E8 fun w hwm=>(hw w hwm).b.1.hf
  have hfz:∀ (l:List AV) (s:St),hfs l=true→All2 (Frz s) l l:=fun l s=>by
   induction l with
   | nil=>intro _;exact .nil
   | cons v l ih=>intro h;simp only [hfs,Zjh] at h;exact .cons (.plain _ h.1) (ih h.2)
  refine K8 (args2:=[.fz ws.length none (Af ws),.fn 115 [] [.fp [.int .i64 a]]]) (.cons (.sl r 0 ws.length none none 146 _ (Af ws) _ hg (fun i x h=>by rw [Zju];exact h) (hfz _ _ hwf) (.inl rfl)) (.cons (.fn 115 [] [.ptr q 0] [] [.fp [.int .i64 a]] .nil (.cons (.ptr q 0 3 [.int .i64 a] [.int .i64 a] [.int .i64 a] hq (fun i x h=>by rw [Zju];exact h) (.cons (.plain _ rfl) .nil)) .nil)) .nil)) rfl (I8 rfl ?_)
  exact C.of_G hE g143 (RU hE h137 (.inr (.inr ⟨none,rfl,Dm ws⟩)) ha (fun w hwm=>(hw w hwm).at_) hn _ fun s=>.plain _ rfl)
 ·cases hh
theorem Zam {e:Env}(h:Con e 143 Gx) (hx:x.ok s) (hk:K (.int .i64 (Bs (D0 x.a) x.ws 0)) s):ESc e 143 x.args s K:=by
 refine ESc.ov h (v:=.int .i64 (Bs (D0 x.a) x.ws 0)) (s':=s) ?_ hk
 unfold Gx Fx
 rw [XK hx]
theorem Zan {e:Env}(h:Con e 143 Gx) (ha:Ad a) (hk:K (.int .i64 (-1)) s):ESc e 143 [.nils,.fn 115 [] [.fp [.int .i64 a]]] s K:=by
 refine ESc.ov h (v:=.int .i64 (-1)) (s':=s) ?_ hk
 have:Jd [.nils,.fn 115 [] [.fp [.int .i64 a]]] s=.fail:=by
  unfold Jd
  rw [dif_neg]
  rintro ⟨x,_,h⟩
  have:=(Zjr h).1
  cases this
 unfold Gx Fx
 rw [this]
 exact Og nilI ha s
theorem Zaj {e:Env}(hE:EM P e) (h163:Con e 143 Gx) (h137:Inl e 115 Mg [.tmp 3]) (ha:Ad a) (hw:∀ w ∈ W0,w.any) (hn:W0.length<1000000) (h1:1≤W0.length) (Q:AV→St→Prop)
 (hk:∀ s,s.get 0=some (.row 146 (Af (AS a W0)++AE zW (W0.length-(AS a W0).length)))→s.get 1=some (.row 3 [.int .i64 a])→Q (.sl 0 0 (AS a W0).length none) s):
 VW P e 2 Zd4 (Al [.sl 0 0 W0.length none,.fn 115 [] [.ptr 1 0]] 0 .lf) (Ae St0 [.row 146 (Af W0),.row 3 [.int .i64 a]]) none [] (Cj [.tmp 4] Q):=by
 have hwf:∀ X:List WR,(∀ w ∈ X,w.any)→hfs (Af X)=true:=fun X h=>E8 fun w hwm=>(h w hwm).b.1.hf
 have hx:∀ s:St,s.get 0=some (.row 146 (Af W0))→s.get 1=some (.row 3 [.int .i64 a])→∀ K:AV→St→Prop,K (.int .i64 (Bs (D0 a) W0 0)) s→ESc e 143 [.sl 0 0 W0.length none,.fn 115 [] [.ptr 1 0]] s K:=fun s g1 g2 K hk=>Zam h163 (x:=⟨0,1,W0,a⟩) ⟨g1,g2,hw,ha,hn⟩ hk
 conv=>whnf
 refine hx _ rfl rfl _ ?_
 rcases RS (D0 a) W0 0 with ⟨e1,e2⟩|⟨m,hml,e1,e2,e3⟩
 ·rw [e1]
  rw [RR e2,Nat.sub_self] at hk
  conv=>whnf
  repeat' (first|((refine w5 rfl rfl ?_ ?_) <;> intro _ <;> first|(exfalso;omega)|(conv=>whnf))|fail)
  refine hk _ ?_ rfl
  show _=some (AObj.row 146 (Af W0++[]))
  rw [Zkq];rfl
 ·rw [e1,Zju]
  conv=>whnf
  repeat' (first|((refine w5 rfl rfl ?_ ?_) <;> intro _ <;> first|(exfalso;omega)|(conv=>whnf))|(refine w7 rfl rfl (by omega) ?_;conv=>whnf)|fail)
  have htm:AS a (W0.take m)=W0.take m:=RR e3
  have hsm:AS a (W0.take (m+1))=W0.take m:=by
   rw [Zjs hml,RQ,htm]
   have:AS a [W0[m]]=[]:=by unfold AS;simp [e2]
   rw [this,Zkq]
  have hkm:(AS a (W0.take (m+1))).length=m:=by rw [hsm,Zj5];omega
  refine DH (k:=2) (α:=Nat×List WR) (fun x=>[(0,.sl 0 0 W0.length none),(1,.fn 115 [] [.ptr 1 0]),(5,.int .i64 (((AS a (W0.take x.1)).length:Nat):Int)),(6,.int .i64 (x.1:Int))]) (fun x=>[.row 146 (Af x.2),.row 3 [.int .i64 a]]) (fun x=>W0.length-x.1)
   (fun x=>x.1≤W0.length∧x.2.length=W0.length∧(∀ w ∈ x.2,w.any)∧(AS a (W0.take x.1)).length<x.1∧x.2.take (AS a (W0.take x.1)).length=AS a (W0.take x.1)∧x.2.drop x.1=W0.drop x.1) (m+1,W0)
   ⟨by dsimp only;omega,rfl,hw,by dsimp only;omega,by dsimp only;rw [hkm,hsm],rfl⟩
   (AbsK.tells (rs:=[0,1]) ⟨rfl,by decide,⟨r9,r9,⟨rfl,by dsimp only;rw [hkm];rfl⟩,r9,trivial⟩,⟨o9 (hwf _ hw),r9,trivial⟩⟩) ?_
  rintro ⟨j,X⟩ ⟨hj,hXl,hXa,hkj,hXt,hXd⟩
  dsimp only at hj hXl hXa hkj hXt hXd ⊢
  obtain ⟨k,hkd⟩:∃ k,k=(AS a (W0.take j)).length:=⟨_,rfl⟩
  rw [← hkd] at hkj hXt ⊢
  refine Cz hE ?_
  by_cases hlt:j<W0.length
  ·have hXj:X[j]?=some W0[j]:=by
    have:=congrArg (fun l:List WR=>l[0]?) hXd
    simp only [Zjq,Zko] at this
    rw [this,Zjf hlt]
   have hwj:=hw _ (Zkg hlt)
   have hKs:AS a (W0.take (j+1))=AS a (W0.take j)++AS a [W0[j]]:=by rw [Zjs hlt,RQ]
   have hXd':X.drop (j+1)=W0.drop (j+1):=by
    have:=congrArg (List.drop 1) hXd
    rwa [List.drop_drop,List.drop_drop] at this
   have hall:=And.intro hXj (And.intro hwj hKs)
   clear hXj hwj hKs hsm htm hkm e2 e3 hx hXd hml
   revert hall
   generalize W0[j]=w
   rintro ⟨hXj,hwj,hKs⟩
   obtain ⟨wa,wu,wb⟩:=w
   have hwu:AM.hf wu=true:=hwj.b.1.hf
   have hwi:=hwj.at_
   unfold Ad at hwi ha
   dsimp only at hwi
   have hld:∀ s:St,s.get 0=some (.row 146 (Af X))→load 0 (0+j*2) 2 s=some [.int .i64 wa,wu]:=fun s h=>Tp h hXj
   have hst:∀ s:St,s.get 0=some (.row 146 (Af X))→storeAt 0 (0+k*2) [.int .i64 wa,wu] s=some (s.put 0 (.row 146 (Af (X.set k ⟨wa,wu,wb⟩)))):=fun s h=>Zm (w:=⟨wa,wu,wb⟩) h (by omega)
   conv=>whnf
   refine L2 rfl ?_;conv=>whnf
   refine Bd (a:=(j:Int)) (b:=(W0.length:Int)) rfl rfl (fun _=>?_) (fun h=>by omega);conv=>whnf
   refine FV (i:=j) rfl rfl hlt ?_;conv=>whnf
   refine EA [.int .i64 wa,wu] (hld _ rfl) ?_;conv=>whnf
   refine ECall.inl h137.O h137.G ?_;conv=>whnf
   refine H5 (a:=wa) (b:=a) rfl rfl (fun he=>?_) (fun he=>?_)
   ·conv=>whnf
    repeat' (first|((first|refine w7 rfl rfl (by omega) ?_|refine w12 rfl ?_|refine ⟨rfl,?_⟩);conv=>whnf)|fail)
    have hK1:AS a (W0.take (j+1))=AS a (W0.take j):=by
     rw [hKs]
     have:AS a [⟨wa,wu,wb⟩]=[]:=by unfold AS D0;simp [he]
     rw [this,Zkq]
    refine ⟨(j+1,X),⟨by dsimp only;omega,hXl,hXa,by dsimp only;rw [hK1];omega,by dsimp only;rw [hK1,← hkd];exact hXt,hXd'⟩,by show W0.length-(j+1)<W0.length-j;omega,?_⟩
    dsimp only
    rw [hK1,← hkd]
    exact AbsK.tells (rs:=[0,1]) ⟨rfl,by decide,⟨r9,r9,r9,r9,trivial⟩,⟨o9 (hwf _ hXa),r9,trivial⟩⟩
   ·conv=>whnf
    refine Iz rfl ?_;conv=>whnf
    refine FV (i:=k) rfl rfl (by omega) ?_;conv=>whnf
    refine EA _ (hst _ rfl) ?_;conv=>whnf
    repeat' (first|((first|refine w7 rfl rfl (by omega) ?_|refine ⟨rfl,?_⟩);conv=>whnf)|fail)
    have hK1:AS a (W0.take (j+1))=AS a (W0.take j)++[⟨wa,wu,wb⟩]:=by
     rw [hKs]
     have:AS a [⟨wa,wu,wb⟩]=[⟨wa,wu,wb⟩]:=by unfold AS D0;simp [he]
     rw [this]
    have hK2:(AS a (W0.take (j+1))).length=k+1:=by rw [hK1,Zjt,← hkd];rfl
    have hXs:∀ w ∈ X.set k ⟨wa,wu,wb⟩,w.any:=fun w hwm=>by
     rcases List.mem_or_eq_of_mem_set hwm with h|rfl
     ·exact hXa w h
     ·exact hwj
    refine ⟨(j+1,X.set k ⟨wa,wu,wb⟩),⟨by dsimp only;omega,by dsimp only;rw [List.length_set];exact hXl,hXs,by dsimp only;rw [hK2];omega,?_,?_⟩,by show W0.length-(j+1)<W0.length-j;omega,?_⟩
    ·dsimp only
     rw [hK2,hK1,← hXt]
     have hks:k<X.length:=by omega
     rw [Zjs (by rw [List.length_set];exact hks),List.take_set_of_le (Zj0 _),List.getElem_set_self]
    ·dsimp only
     rw [List.drop_set_of_lt (by omega)];exact hXd'
    ·dsimp only
     rw [hK2]
     exact AbsK.tells (rs:=[0,1]) ⟨rfl,by decide,⟨r9,r9,r9,r9,trivial⟩,⟨o9 (hwf _ hXs),r9,trivial⟩⟩
  ·have hje:W0.take j=W0:=Zjo (by omega)
   rw [hje] at hkd hXt
   rw [← hkd] at hk
   conv=>whnf
   refine L2 rfl ?_;conv=>whnf
   refine Bd (a:=(j:Int)) (b:=(W0.length:Int)) rfl rfl (fun h=>by omega) (fun _=>?_);conv=>whnf
   refine RB (l:=k) (h:=W0.length) rfl rfl rfl (by omega) (Zj0 _) (by omega) ?_;conv=>whnf
   refine XG rfl (JQ (e:=146) (cs:=Af X) rfl (by rw [NJ,Dm];show 0+k*2+(W0.length-k)*2≤_;omega)) ?_;conv=>whnf
   refine RB (l:=0) (h:=k) rfl rfl rfl (Zjy _) (by omega) (by omega) ?_;conv=>whnf
   refine hk _ ?_ rfl
   show some (AObj.row 146 ((Af X).take (0+k*2)++AE zW (W0.length-k)++(Af X).drop (0+k*2+(AE zW (W0.length-k)).length)))=_
   rw [NJ,Zju,YV,hXt,Zkb (by rw [Dm];show _≤k*2+(W0.length-k)*2;omega),Zkq]
structure WA1 (x:WA) (s:St):Prop where
 ok:x.ok s
 n:1≤x.ws.length
def WA.k (x:WA):Nat:=(AS x.a x.ws).length
noncomputable def WA.o (x:WA):AObj:=.row 146 (Af (AS x.a x.ws)++AE zW (x.ws.length-x.k))
noncomputable def Ju:Ov:=fun args s=>open Classical in if h:∃ x:WA,WA1 x s∧args=x.args then .ok (.sl (Classical.choose h).r 0 (Classical.choose h).k none) (BQ s [(Classical.choose h).r,(Classical.choose h).q] [(Classical.choose h).o,.row 3 [.int .i64 (Classical.choose h).a]]) else .fail
theorem SK (hx:WA1 x s):Ju x.args s=.ok (.sl x.r 0 x.k none) (BQ s [x.r,x.q] [x.o,.row 3 [.int .i64 x.a]]):=by
 have h:∃ y:WA,WA1 y s∧x.args=y.args:=⟨x,hx,rfl⟩
 unfold Ju
 rw [dif_pos h]
 obtain ⟨h1,h2⟩:=Zku h
 rw [← WA.inj hx.ok h1.ok h2]
structure QA where
 q:Nat
 a:Int
structure QA.ok (x:QA) (s:St):Prop where
 q:s.get x.q=some (.row 3 [.int .i64 x.a])
 a:Ad x.a
noncomputable def MU:Ov:=fun args s=>open Classical in if ∃ x:QA,x.ok s∧args=[.nils,.fn 115 [] [.ptr x.q 0]] then .ok .nils s else .fail
noncomputable def Hn:Ov:=Fx Ju MU
theorem Tu {z:List AV}(h:hfs z=true):∀ n,hfs (AE z n)=true
 | 0=>rfl
 | n+1=>by
  have:AE z (n+1)=z++AE z n:=by show AY z (AE z n)=_;rw [CJ]
  rw [this];exact HE h (Tu h n)
theorem Zdo {e:Env}(hE:EM P e) (h163:Con e 143 Gx) (h137:Inl e 115 Mg [.tmp 3]):OvOk P 114 Hn:=by
 refine Pl ⟨g114.b,fun args s u s' hh=>?_⟩ ⟨g114.b,fun args s u s' hh=>?_⟩
 ·have hx0:∃ x:WA,WA1 x s∧args=x.args:=by
   unfold Ju at hh
   split at hh
   ·rename_i h;exact h
   ·cases hh
  obtain ⟨x,hx,rfl⟩:=hx0
  rw [SK hx] at hh
  cases hh
  obtain ⟨r,q,ws,a⟩:=x
  obtain ⟨⟨hg,hq,hw,ha,hn⟩,h1⟩:=hx
  dsimp only at hg hq hw ha hn h1
  have hrq:r≠q:=fun e=>by
   subst e
   rw [hg] at hq;injection hq with hq;injection hq with hq _;cases hq
  have hwf:hfs (Af ws)=true:=E8 fun w hwm=>(hw w hwm).b.1.hf
  have hkf:hfs (Af (AS a ws)++AE zW (ws.length-(AS a ws).length))=true:=HE (E8 fun w hwm=>(hw w (List.mem_filter.1 hwm).1).b.1.hf) (Tu rfl _)
  have key:=YU (P:=P) (f:=114) (args0:=[.sl 0 0 ws.length none,.fn 115 [] [.ptr 1 0]]) (u:=.sl 0 0 (AS a ws).length none) (os:=[.row 146 (Af ws),.row 3 [.int .i64 a]]) (os2:=[.row 146 (Af (AS a ws)++AE zW (ws.length-(AS a ws).length)),.row 3 [.int .i64 a]]) (rs:=[r,q]) (s:=s)
   (by simp [hrq]) rfl (fun i o t ho ht=>by
     rcases i with _|_|i
     ·cases ho;cases ht;exact ⟨by rw [Aa hwf];exact hg,Ab hwf,rfl⟩
     ·cases ho;cases ht;exact ⟨hq,rfl,rfl⟩
     ·cases ho) (fun i hi=>by
     rcases i with _|_|i
     ·rfl
     ·rfl
     ·exact absurd (show i+1+1<2 from hi) (by omega)) rfl (Zj0 _) (by simp) (fun o ho=>by
     rcases Zkp.1 ho with rfl|ho
     ·rfl
     ·rcases Zkp.1 ho with rfl|ho
      ·rfl
      ·cases ho) (C1.of_G hE g114 (Zaj hE h163 h137 ha hw hn h1 _ fun s g0 g1=>⟨[0,1],⟨rfl,by decide,⟨r9,trivial⟩,⟨⟨Ab hkf,by rw [Aa hkf];exact g0⟩,⟨rfl,g1⟩,trivial⟩⟩⟩))
  refine key.mono ?_
  rintro v s' ⟨rfl,rfl⟩
  refine ⟨rfl,?_⟩
  show BQ s [r,q] [Ax _ (.row 146 (Af (AS a ws)++AE zW (ws.length-(AS a ws).length))),_]=_
  rw [Aa hkf];rfl
 ·unfold MU at hh
  split at hh
  ·rename_i hx
   cases hh
   obtain ⟨⟨q,a⟩,⟨hq,ha⟩,rfl⟩:=hx
   dsimp only at hq ha
   refine K8 (args2:=[.nils,.fn 115 [] [.fp [.int .i64 a]]]) (.cons (.plain _ rfl) (.cons (.fn 115 [] [.ptr q 0] [] [.fp [.int .i64 a]] .nil (.cons (.ptr q 0 3 [.int .i64 a] [.int .i64 a] [.int .i64 a] hq (fun i x h=>by rw [Zju];exact h) (.cons (.plain _ rfl) .nil)) .nil)) .nil)) rfl (I8 rfl ?_)
   refine C.of_G hE g114 ?_;conv=>whnf
   refine Zan h163 ha ?_;conv=>whnf
   refine H5 (a:=-1) (b:=-1) rfl rfl (fun _=>?_) (fun h=>absurd rfl h);conv=>whnf
   exact .plain _ rfl
  ·cases hh
theorem Zak {e:Env}(h:Con e 114 Hn) (hx:WA1 x s) (hk:K (.sl x.r 0 x.k none) (BQ s [x.r,x.q] [x.o,.row 3 [.int .i64 x.a]])):ESc e 114 x.args s K:=by
 refine ESc.ov h (v:=.sl x.r 0 x.k none) (s':=BQ s [x.r,x.q] [x.o,.row 3 [.int .i64 x.a]]) ?_ hk
 unfold Hn Fx
 rw [SK hx]
theorem Zal {e:Env}(h:Con e 114 Hn) {x:QA}(hx:x.ok s) (hk:K .nils s):ESc e 114 [.nils,.fn 115 [] [.ptr x.q 0]] s K:=by
 refine ESc.ov h (v:=.nils) (s':=s) ?_ hk
 have:Ju [.nils,.fn 115 [] [.ptr x.q 0]] s=.fail:=by
  unfold Ju
  rw [dif_neg]
  rintro ⟨x,_,h⟩
  have:=(Zjr h).1
  cases this
 unfold Hn Fx
 rw [this]
 show MU _ s=_
 unfold MU
 rw [Zjj ⟨x,hx,rfl⟩]
def wvF (n:Nat) (L:List WR):AV:=match n with
 | 0=>.nils
 | _+1=>.fz L.length none (Af L)
def Fr (x:DKW):DK:=⟨.fz x.d.us.length none ((x.d.us.map Ao).set x.a.toNat (Am (As x.b))),(x.d.us.map Ao).set x.a.toNat (Am (As x.b)),x.d.bs.set x.a.toNat (As x.b),wvF x.d.ws.length (AS x.a (x.d.ws.map A7)),AS x.a (x.d.ws.map A7),x.d.dead⟩
def CA:List AV:=[.nils,.nils,.bool false]
def HP (x:DKW):AV:=if BH x.d x.a x.b=0 then .tup [(Fr x).v,.int .i64 0] else .tup [.agg CA,.int .i64 (BH x.d x.a x.b)]
theorem Zfq (n:Nat) (L:List WR):AM.hf (wvF n L)=true:=by cases n <;> rfl
theorem Yv (x:DKW):AM.hf (HP x)=true:=by
 unfold HP
 split
 ·show ((true && (AM.hf (wvF _ _) && (true && true))) && (true && true))=true
  rw [Zfq];rfl
 ·rfl
def fuaF:Fam DKW:=⟨DKW.ok,DKW.args,HP,fun x y hx hy h=>by rw [DKW.inja hx hy h]⟩
theorem RH {e:Nat}(h:s.get r=some (.row e cs)) (hi:i<cs.length):storeAt r (0+i*1) [v] s=some (s.put r (.row e (cs.set i v))):=by
 rw [JQ h (by show 0+i*1+1≤_;omega),Zju,Zki,List.set_eq_take_append_cons_drop,Zjj hi]
 simp
theorem LT {α β:Type}{R:α→β→Prop}{a:α}{b:β}(hab:R a b):∀ {l:List α}{m:List β},All2 R l m→∀ i,All2 R (l.set i a) (m.set i b)
 | _,_,.nil,i=>by simp;exact .nil
 | _,_,.cons h1 h2,0=>.cons hab h2
 | _,_,.cons h1 h2,i+1=>.cons h1 (LT hab h2 i)
theorem DG:∀ {l:List AV},hfs l=true→All2 (Frz s) l l
 | [],_=>.nil
 | v::l,h=>by
  simp only [hfs,Zjh] at h
  exact .cons (.plain _ h.1) (DG h.2)
theorem OT {b:List Nat}(h:BAt u b):BAt (Ao u) b:=by
 obtain ⟨h1,h2⟩:=h
 refine ⟨?_,h2⟩
 rcases h1 with ⟨rfl,e1,e2⟩|⟨rfl,e1,e2⟩|⟨c,rfl,e⟩
 ·exact .inl ⟨rfl,e1,e2⟩
 ·exact .inr (.inr ⟨none,by show AV.fz 0 none []=_;rw [e1,e2],by rw [e2,e1];rfl⟩)
 ·exact .inr (.inr ⟨none,rfl,e⟩)
theorem GJ (h:w.any):(A7 w).any:=⟨h.at_,OT h.b⟩
theorem JX (hd:d.any):hfs (d.us.map Ao)=true:=OH _ fun u hu=>by
 obtain ⟨k,hk⟩:=Zk9.1 hu
 obtain ⟨b,_,hb⟩:=hd.bs.get hk
 exact (OT hb).1.hf
theorem Jp {b:List Nat}(h:BH d a b=0):AN d=true∧(0≤a∧a<d.us.length)∧AP b.length=false∧d.dead=false:=by
 unfold BH Hl at h
 by_cases h1:AN d=true
 ·rw [Zjj h1] at h
  by_cases h2:0≤a∧a<d.us.length
  ·rw [Zjj h2,Zjj rfl] at h
   by_cases h3:AP b.length=true
   ·rw [Zjj h3] at h;cases h
   ·rw [Zjn h3] at h
    cases h4:d.dead
    ·exact ⟨h1,h2,by simpa using h3,rfl⟩
    ·rw [h4] at h;cases h
  ·rw [Zjn h2,Zjn (by decide)] at h;cases h
 ·rw [Zjn h1,Zjn (by decide)] at h;cases h
theorem Zcq {e:Env}(hE:EM P e) (h102:Con e 113 wrtF.O) (h103:Con e 66 CF) (h98:Inl e 102 IW [.tmp 2]) (h141:Inl e 119 Gd [.tmp 2]) (h136:Con e 114 Hn):OvOk P 63 fuaF.O:=by
 refine Ca g63.b fun x hx=>?_
 refine ⟨DKW.hfa hx,Yv x,C.of_G hE g63 ?_⟩
 have hfam:=fun (s:St) (K:AV→St→Prop) (hk:K (.int .i64 (BH x.d x.a x.b)) s)=>ESc.fam wrtF h102 x hx (u:=.int .i64 (BH x.d x.a x.b)) rfl hk
 by_cases h0:BH x.d x.a x.b=0
 ·obtain ⟨q1,q2,q3,q4⟩:=Jp h0
  have hbl:x.b.length=0∨x.b.length=128:=GO q3
  have hdk1:DK1 x.d:=⟨hx.d,by omega⟩
  have htw:=IA hdk1
  have hUf:=JX hx.d.a
  have hWa:∀ w ∈ x.d.ws.map A7,w.any:=fun w hw=>by
   obtain ⟨v,hv,rfl⟩:=Zkf.1 hw
   exact GJ (hx.d.a.ws v hv)
  have hout:fuaF.out x=.tup [(Fr x).v,.int .i64 0]:=by show HP x=_;unfold HP;rw [Zjj h0]
  rw [h0] at hfam
  rw [hout]
  obtain ⟨⟨bv,us,bs,wv,ws,dd⟩,a,u,b⟩:=x
  obtain ⟨hd,ha,hbt,hbn⟩:=hx
  dsimp only at q2 q4 hbl htw hUf hWa ha hbt hbn
  subst q4
  obtain ⟨n,rfl⟩:∃ n:Nat,a=(n:Int):=⟨a.toNat,by omega⟩
  have hn:n<us.length:=by omega
  have hfB:∀ (s:St) r cp,s.get r=some (.row 5 (Aj (As b)))→Frz s (.sl r 0 128 cp) (Am (As b)):=fun s r cp h=>.sl r 0 128 cp none 5 _ (Aj (As b)) _ h (fun i x h=>by rw [Zju];exact h) (OJ _) (.inl rfl)
  have hbk:∀ (s:St) r cp,s.get 3=some (.row 76 ((us.map Ao).set n (.sl r 0 128 cp)))→s.get r=some (.row 5 (Aj (As b)))→Frz s (.sl 3 0 us.length none) (.fz us.length none ((us.map Ao).set n (Am (As b)))):=fun s r cp h1 h2=>
   .sl 3 0 us.length none none 76 _ ((us.map Ao).set n (.sl r 0 128 cp)) _ h1 (fun i x h=>by rw [Zju];exact h) (LT (hfB s r cp h2) (DG hUf) n) (.inl rfl)
  have hset:∀ (s:St) v,s.get 3=some (.row 76 (us.map Ao))→storeAt 3 (0+n*1) [v] s=some (s.put 3 (.row 76 ((us.map Ao).set n v))):=fun s v h=>RH h (by rw [Zjm];exact hn)
  have hwm:=hd.m
  clear q1 q3 hout
  show VW P e 0 (match Lm with|.mk c _=>c) (Al [.agg [bv,wv,.bool false],.int .i64 (n:Int),u] 0 .lf) St0 none [] _
  have hfam:∀ (s:St) (K:AV→St→Prop),K (.int .i64 0) s→ESc e 113 [.agg [bv,wv,.bool false],.int .i64 (n:Int),u] s K:=hfam
  rcases ws with _|⟨w0,ws⟩
  ·have htw:∀ s,CF [.agg [bv,wv,.bool false]] s=.ok (.agg [.sl (0+s.next) 0 us.length none,.nils,.bool false]) (Ae s [.row 76 (us.map Ao)]):=htw
   have fin:∀ (s:St) r cp,s.get 3=some (.row 76 ((us.map Ao).set n (.sl r 0 128 cp)))→s.get r=some (.row 5 (Aj (As b)))→Frz s (.tup [.agg [.sl 3 0 us.length none,.nils,.bool false],.int .i64 0]) (.tup [(Fr ⟨⟨bv,us,bs,wv,[],false⟩,(n:Int),u,b⟩).v,.int .i64 0]):=fun s r cp h1 h2=>
    .tup _ _ (.cons (.agg _ _ (.cons (hbk s r cp h1 h2) (.cons (.plain _ rfl) (.cons (.plain _ rfl) .nil)))) (.cons (.plain _ rfl) .nil))
   have hdel:∀ (s:St) (K:AV→St→Prop),s.get 1=some (.row 3 [.int .i64 (n:Int)])→K .nils s→ESc e 114 [.nils,.fn 115 [] [.ptr 1 0]] s K:=fun s K h1 hk=>Zal h136 (x:=⟨1,(n:Int)⟩) ⟨h1,ha⟩ hk
   conv=>whnf
   refine hfam _ _ ?_;conv=>whnf
   repeat' (first|((refine w6 rfl rfl ?_ ?_) <;> intro _ <;> first|(exfalso;omega)|(conv=>whnf))|fail)
   refine ESc.ov h103 (htw _) ?_;conv=>whnf
   refine I5 h98 h141 hbt hbl (by show 4<1000000;decide) (fun h0=>?_) (fun h1=>?_)
   ·conv=>whnf
    repeat' (first|(refine FV (i:=n) rfl rfl hn ?_;conv=>whnf)|(refine EA _ (hset _ _ rfl) ?_;conv=>whnf)|(refine hdel _ _ rfl ?_;conv=>whnf)|(refine ⟨rfl,?_⟩;conv=>whnf)|fail)
    exact fin _ _ _ rfl rfl
   ·conv=>whnf
    repeat' (first|(refine FV (i:=n) rfl rfl hn ?_;conv=>whnf)|(refine EA _ (hset _ _ rfl) ?_;conv=>whnf)|(refine hdel _ _ rfl ?_;conv=>whnf)|(refine ⟨rfl,?_⟩;conv=>whnf)|fail)
    exact fin _ _ _ rfl rfl
  ·have htw:∀ s,CF [.agg [bv,wv,.bool false]] s=.ok (.agg [.sl (0+s.next) 0 us.length none,.sl (1+s.next) 0 (ws.length+1) none,.bool false]) (Ae s [.row 76 (us.map Ao),.row 146 (Af ((w0::ws).map A7))]):=htw
   have hkf:hfs (Af (AS (n:Int) ((w0::ws).map A7)))=true:=E8 fun w hw=>(hWa w (List.mem_filter.1 hw).1).b.1.hf
   have hkl:(AS (n:Int) ((w0::ws).map A7)).length≤ws.length+1:=by
    have:=Ow (n:Int) ((w0::ws).map A7)
    rw [Zjm] at this;exact this
   have fin:∀ (s:St) r cp,s.get 3=some (.row 76 ((us.map Ao).set n (.sl r 0 128 cp)))→s.get r=some (.row 5 (Aj (As b)))→s.get 4=some (WA.o ⟨4,1,(w0::ws).map A7,(n:Int)⟩)→Frz s (.tup [.agg [.sl 3 0 us.length none,.sl 4 0 (WA.k ⟨4,1,(w0::ws).map A7,(n:Int)⟩) none,.bool false],.int .i64 0]) (.tup [(Fr ⟨⟨bv,us,bs,wv,w0::ws,false⟩,(n:Int),u,b⟩).v,.int .i64 0]):=fun s r cp h1 h2 h3=>
    .tup _ _ (.cons (.agg _ _ (.cons (hbk s r cp h1 h2) (.cons (.sl 4 0 _ none none 146 _ (Af (AS (n:Int) ((w0::ws).map A7))) _ h3 (fun i x h=>by
     rw [Zju,Zjz (Zjg.1 h).1];exact h) (DG hkf) (.inl rfl)) (.cons (.plain _ rfl) .nil)))) (.cons (.plain _ rfl) .nil))
   have hdel:∀ (s:St) (K:AV→St→Prop),s.get 4=some (.row 146 (Af ((w0::ws).map A7)))→s.get 1=some (.row 3 [.int .i64 (n:Int)])→K (.sl 4 0 (WA.k ⟨4,1,(w0::ws).map A7,(n:Int)⟩) none) (BQ s [4,1] [WA.o ⟨4,1,(w0::ws).map A7,(n:Int)⟩,.row 3 [.int .i64 (n:Int)]])→ESc e 114 [.sl 4 0 (ws.length+1) none,.fn 115 [] [.ptr 1 0]] s K:=fun s K h4 h1 hk=>by
    have:=Zak h136 (x:=⟨4,1,(w0::ws).map A7,(n:Int)⟩) ⟨⟨h4,h1,hWa,ha,by dsimp only;rw [Zjm];exact hwm⟩,by simp⟩ hk
    have ea:WA.args ⟨4,1,(w0::ws).map A7,(n:Int)⟩=[.sl 4 0 (ws.length+1) none,.fn 115 [] [.ptr 1 0]]:=by unfold WA.args;simp
    rw [ea] at this
    exact this
   conv=>whnf
   refine hfam _ _ ?_;conv=>whnf
   repeat' (first|((refine w6 rfl rfl ?_ ?_) <;> intro _ <;> first|(exfalso;omega)|(conv=>whnf))|fail)
   refine ESc.ov h103 (htw _) ?_;conv=>whnf
   refine I5 h98 h141 hbt hbl (by show 5<1000000;decide) (fun h0=>?_) (fun h1=>?_)
   ·conv=>whnf
    repeat' (first|(refine FV (i:=n) rfl rfl hn ?_;conv=>whnf)|(refine EA _ (hset _ _ rfl) ?_;conv=>whnf)|(refine hdel _ _ rfl rfl ?_;conv=>whnf)|(refine ⟨rfl,?_⟩;conv=>whnf)|fail)
    exact fin _ _ _ rfl rfl rfl
   ·conv=>whnf
    repeat' (first|(refine FV (i:=n) rfl rfl hn ?_;conv=>whnf)|(refine EA _ (hset _ _ rfl) ?_;conv=>whnf)|(refine hdel _ _ rfl rfl ?_;conv=>whnf)|(refine ⟨rfl,?_⟩;conv=>whnf)|fail)
    exact fin _ _ _ rfl rfl rfl
 ·have hout:fuaF.out x=.tup [.agg CA,.int .i64 (BH x.d x.a x.b)]:=by show HP x=_;unfold HP;rw [Zjn h0]
  rw [hout]
  obtain ⟨E,hE'⟩:∃ E,E=BH x.d x.a x.b:=⟨_,rfl⟩
  rw [← hE'] at h0 hfam ⊢
  obtain ⟨⟨bv,us,bs,wv,ws,dd⟩,a,u,b⟩:=x
  have hfam:∀ (s:St) (K:AV→St→Prop),K (.int .i64 E) s→ESc e 113 [.agg [bv,wv,.bool dd],.int .i64 a,u] s K:=hfam
  show VW P e 0 (match Lm with|.mk c _=>c) (Al [.agg [bv,wv,.bool dd],.int .i64 a,u] 0 .lf) St0 none [] _
  conv=>whnf
  refine hfam _ _ ?_;conv=>whnf
  refine L7 (a:=E) (b:=0) rfl rfl (fun _=>?_) (fun h=>absurd h h0);conv=>whnf
  skip
  exact .plain _ rfl
end Go.AM
namespace Go.AM
open X
theorem Zfd {bs:List Nat}(hb:∀ b ∈ bs,b<256):∀ b ∈ As bs,b<256:=by
 unfold As
 split
 ·intro b hb';rw [List.eq_of_mem_replicate hb'];decide
 ·exact hb
end Go.AM
namespace Go.AM
attribute [local irreducible] W
open X
structure UB where
 u:AV
 b:List Nat
structure UB.ok (x:UB):Prop where
 b:BAt x.u x.b
 l:x.b.length=0∨x.b.length=128
structure RdS where
 S:List (Int×List Nat)
 p:Option (List Nat)
structure RdS.ok (x:RdS):Prop where
 n:x.S.length≤17
 s:∀ p ∈ x.S,(0≤p.1∧p.1<256)∧p.2.length=128∧∀ y ∈ p.2,y<256
 p:∀ b,x.p=some b→b.length=128∧∀ y ∈ b,y<256
theorem TZ {b:List Nat}(h:b.length=128∧∀ y ∈ b,y<256):BAt (Am b) b:=⟨.inr (.inr ⟨none,by rw [h.1];rfl,by rw [CU];omega⟩),h.2⟩
section
variable {t:AT}{s:St}{k:AV→St→Prop}{x y:AO}
end
end Go.AM
namespace Go.AM
attribute [local irreducible] W
open X
theorem Mr {b:List Nat}(h:b.length=0∨b.length=128) (hb:∀ y ∈ b,y<256):BAt (Am (As b)) (As b)∧(As b).length=128:=by
 have hl:=R0 h
 exact ⟨TZ ⟨hl,Zfd hb⟩,hl⟩
theorem I6 {us:List AV}{bs:List (List Nat)}(h:All2 BAt us bs):All2 BAt (us.map Ao) bs:=by
 induction h with
 | nil=>exact .nil
 | cons a b ih=>exact .cons (OT a) ih
theorem NY {a:Int}{L:List WR}{w:WR}(h:w ∈ AS a (L.map A7)):∃ v ∈ L,w=A7 v∧v.at_≠a:=by
 obtain ⟨h1,h2⟩:=List.mem_filter.1 h
 obtain ⟨v,hv,rfl⟩:=Zkf.1 h1
 refine ⟨v,hv,rfl,fun e=>?_⟩
 unfold D0 at h2
 simp at h2
 exact h2 e
theorem Zes (n:Nat) (L:List WR) (h:L.length≤n):Sl 2 L.length (Af L) (wvF n L):=by
 cases n with
 | zero=>
  have:L=[]:=Zkd.1 (by omega)
  subst this;exact .inl ⟨rfl,rfl,rfl⟩
 | succ n=>exact .inr (.inr ⟨none,rfl,Dm L⟩)
variable {x:DKW}
theorem Zcr (hx:x.ok) (h:BH x.d x.a x.b=0):(Fr x).ok:=by
 obtain ⟨q1,q2,q3,q4⟩:=Jp h
 have hbl:=GO q3
 obtain ⟨p1,p2⟩:=Mr hbl hx.b.2
 have hkl:=Ow x.a (x.d.ws.map A7)
 rw [Zjm] at hkl
 have hm:=hx.d.m
 refine ⟨⟨?_,LT p1 (I6 hx.d.a.bs) _,Zes _ _ hkl,fun w hw=>?_⟩,?_,?_,fun b hb=>?_,fun w hw=>?_⟩
 ·refine .inr (.inr ⟨none,?_,by rw [Zki]⟩)
  show AV.fz x.d.us.length none _=.fz ((x.d.us.map Ao).set _ _).length none _
  rw [List.length_set,Zjm];rfl
 ·obtain ⟨v,hv,rfl,_⟩:=NY hw
  exact GJ (hx.d.a.ws v hv)
 ·show ((x.d.us.map Ao).set _ _).length<_
  rw [List.length_set,Zjm];exact hx.d.n
 ·show (AS x.a (x.d.ws.map A7)).length<_;omega
 ·rcases List.mem_or_eq_of_mem_set hb with h|rfl
  ·exact hx.d.b b h
  ·omega
 ·obtain ⟨v,hv,rfl,_⟩:=NY hw
  exact hx.d.w v hv
theorem Oy (x:DKW):(Fr x).us.length=x.d.us.length:=by
 show ((x.d.us.map Ao).set _ _).length=_
 rw [List.length_set,Zjm]
theorem dskB_iff {x:DK}:AN x=true↔(1≤x.us.length∧x.us.length≤256∧x.ws.length≤1024)∧(∀ b ∈ x.bs,AP b.length=false)∧(∀ w ∈ x.ws,Bk x.us.length w=false)∧(x.dead=true→x.ws.length=0∧∀ b ∈ x.bs,Eb b.length=false):=by
 unfold AN
 simp only [Zjh,Zkc,Bool.not_eq_true',List.any_eq_false,Zkf,forall_exists_index,and_imp,forall_apply_eq_imp_iff₂,Zle,Bool.and_eq_false_iff,Zk0,Zkl]
 constructor
 ·rintro ⟨⟨⟨h1,h2⟩,h3⟩,h4⟩
  refine ⟨h1,h2,h3,fun hd=>?_⟩
  rcases h4 with h4|⟨h4,h5⟩
  ·rw [hd] at h4;cases h4
  ·exact ⟨by omega,h5⟩
 ·rintro ⟨h1,h2,h3,h4⟩
  refine ⟨⟨⟨h1,h2⟩,h3⟩,?_⟩
  cases hd:x.dead
  ·exact .inl rfl
  ·obtain ⟨h5,h6⟩:=h4 hd
   exact .inr ⟨by omega,h6⟩
theorem ZT (hx:x.ok) (h:BH x.d x.a x.b=0):AN (Fr x)=true:=by
 obtain ⟨q1,q2,q3,q4⟩:=Jp h
 obtain ⟨d1,d2,d3,d4⟩:=dskB_iff.1 q1
 have hbl:=GO q3
 obtain ⟨p1,p2⟩:=Mr hbl hx.b.2
 have hkl:=Ow x.a (x.d.ws.map A7)
 rw [Zjm] at hkl
 refine dskB_iff.2 ⟨?_,fun b hb=>?_,fun w hw=>?_,fun hd=>?_⟩
 ·rw [Oy]
  have:(Fr x).ws.length≤x.d.ws.length:=hkl
  omega
 ·rcases List.mem_or_eq_of_mem_set hb with h|rfl
  ·exact d2 b h
  ·rw [p2];rfl
 ·rw [Oy]
  obtain ⟨v,hv,rfl,_⟩:=NY hw
  exact d3 v hv
 ·have hd:x.d.dead=true:=hd
  rw [q4] at hd;cases hd
def sizF:Fam BN:=⟨BN.ok,fun x=>[x.v],fun x=>.bool (!AP x.n),fun x y hx hy h=>by rw [BN.inj hx hy h]⟩
variable {e:Env}
theorem WP (hE:EM P e):OvOk P 128 sizF.O:=by
 refine Ca g128.b ?_
 rintro ⟨v,n⟩ hx
 obtain ⟨⟨l,hv⟩,hn⟩:=hx
 dsimp only at hv hn
 refine ⟨by show (AM.hf v && true)=true;rw [hv.hf];rfl,rfl,C.of_G hE g128 ?_⟩
 have fin:∀ s (b:Bool),b=!AP n→Frz s (.bool b) (sizF.out ⟨v,n⟩):=by
  rintro s b rfl;exact .plain _ rfl
 unfold AP at fin
 show VW P e 0 (match Lb with|.mk c _=>c) (Al [v] 0 .lf) St0 none [] _
 conv=>whnf
 repeat' (first|(refine Ac rfl hv ?_;conv=>whnf)|((first|refine w1 rfl rfl ?_ ?_|refine w2 rfl rfl ?_ ?_|refine w3 rfl rfl ?_ ?_|refine w4 rfl rfl ?_ ?_|refine w5 rfl rfl ?_ ?_|refine w6 rfl rfl ?_ ?_) <;> intro _ <;> first|(exfalso;omega)|(conv=>whnf))|((first|refine w7 rfl rfl (by omega) ?_|refine w8 rfl rfl (by omega) ?_|refine w9 rfl rfl (by omega) ?_|refine w10 rfl rfl ?_|refine w11 rfl rfl ?_|refine w12 rfl ?_|refine w13 rfl ?_|refine w14 (q':=.i64) rfl (i64_in (by omega)) ?_|refine w14 (q':=.u32) rfl (Cr (by omega)) ?_|refine w14 (q':=.u8) rfl (C3 (by omega)) ?_|refine w15 rfl rfl ?_|refine w16 rfl ?_|refine w17 rfl ?_|refine w18 rfl ?_|refine ⟨rfl,?_⟩);conv=>whnf)|(refine w19 rfl ?_ ?_ <;> intro hc <;> (try subst hc) <;> conv=>whnf))
 all_goals first
  | exact fin _ _ (by rw [Zjk (by omega),Zjk (by omega)];rfl)
  | exact fin _ _ (by rw [Zjk (by omega),Zjw (by omega)];rfl)
  | exact fin _ _ (by rw [Zjw (by omega)];rfl)
def Zd9:AC:=match Nn with|.mk c _=>c
def Zd8:AC:=match KZ with|.mk c _=>c
def mayRF:Fam Cfg:=⟨Cfg.ok,fun x=>[x.v],fun x=>.bool (decide x.may),fun x y _ _ h=>by rw [GN (Zjr h).1]⟩
theorem Z7 (hE:EM P e) (h108:Inl e 163 Zd9 [.tmp 6]) (h109:Inl e 164 Zd8 [.tmp 2]):OvOk P 120 mayRF.O:=by
 refine Ca g120.b ?_
 rintro ⟨id,members,chunk,rows,log,heads⟩ ⟨h1,h2,h3,h4,h5,h6⟩
 unfold Ad at h2 h3 h4 h5 h6
 dsimp only at h2 h3 h4 h5 h6
 refine ⟨rfl,rfl,C.of_G hE g120 ?_⟩
 have fin1:∀ s,((3≤members∧members≤16)∧(1≤chunk∧chunk≤8)∧(1≤rows∧rows≤8)∧(2≤heads∧heads≤8)∧(members+1)*(heads+1)≤log∧log≤255)→Frz s (.bool true) (mayRF.out ⟨id,members,chunk,rows,log,heads⟩):=by
  intro s h
  show Frz s _ (.bool (decide (Cfg.may ⟨id,members,chunk,rows,log,heads⟩)))
  rw [Zjk (show Cfg.may ⟨id,members,chunk,rows,log,heads⟩ from h)];exact .plain _ rfl
 have fin0:∀ s,¬ ((3≤members∧members≤16)∧(1≤chunk∧chunk≤8)∧(1≤rows∧rows≤8)∧(2≤heads∧heads≤8)∧(members+1)*(heads+1)≤log∧log≤255)→Frz s (.bool false) (mayRF.out ⟨id,members,chunk,rows,log,heads⟩):=by
  intro s h
  show Frz s _ (.bool (decide (Cfg.may ⟨id,members,chunk,rows,log,heads⟩)))
  rw [Zjw (show ¬ Cfg.may ⟨id,members,chunk,rows,log,heads⟩ from h)];exact .plain _ rfl
 show VW P e 0 (match VQ with|.mk c _=>c) (Al [AV.agg [.int .u32 id,.int .i64 members,.int .i64 chunk,.int .i64 rows,.int .i64 log,.int .i64 heads]] 0 .lf) St0 none [] _
 conv=>whnf
 repeat' (first|(refine ESc.inl h108 ?_;conv=>whnf)|(refine ESc.inl h109 ?_;conv=>whnf)|(refine Cl rfl rfl (Do (by omega) (by omega)) ?_;conv=>whnf)|(refine JH rfl ?_;conv=>whnf)|(refine Iz rfl ?_;conv=>whnf)|((first|refine w1 rfl rfl ?_ ?_|refine w2 rfl rfl ?_ ?_|refine w3 rfl rfl ?_ ?_|refine w4 rfl rfl ?_ ?_|refine w5 rfl rfl ?_ ?_|refine w6 rfl rfl ?_ ?_) <;> intro _ <;> first|(exfalso;omega)|(conv=>whnf))|((first|refine w7 rfl rfl (by omega) ?_|refine w8 rfl rfl (by omega) ?_|refine w9 rfl rfl (by omega) ?_|refine w10 rfl rfl ?_|refine w11 rfl rfl ?_|refine w12 rfl ?_|refine w13 rfl ?_|refine w14 (q':=.i64) rfl (i64_in (by omega)) ?_|refine w14 (q':=.u32) rfl (Cr (by omega)) ?_|refine w14 (q':=.u8) rfl (C3 (by omega)) ?_|refine w15 rfl rfl ?_|refine w16 rfl ?_|refine w17 rfl ?_|refine w18 rfl ?_|refine ⟨rfl,?_⟩);conv=>whnf)|(refine w19 rfl ?_ ?_ <;> intro hc <;> (try subst hc) <;> conv=>whnf))
 all_goals first
  | exact fin0 _ (by omega)
  | exact fin1 _ (by omega)
  | skip
theorem SI (x:DK):AN x=true↔(1≤x.us.length∧x.us.length≤256∧x.ws.length≤1024)∧(∀ b ∈ x.bs,AP b.length=false)∧(∀ w ∈ x.ws,Bk x.us.length w=false)∧(x.dead=true→x.ws.length=0∧∀ b ∈ x.bs,b.length=0):=by
 unfold AN
 simp only [Zjh,Bool.not_eq_true',Zkc,List.any_eq_false,Zkf]
 constructor
 ·rintro ⟨⟨⟨h1,h2⟩,h3⟩,h4⟩
  refine ⟨h1,fun b hb=>by simpa using h2 _ ⟨b,hb,rfl⟩,fun w hw=>by simpa using h3 w hw,fun hd=>?_⟩
  rw [hd] at h4
  simp only [Bool.true_and,Zk0,Zkl,List.any_eq_false,Zkf] at h4
  exact ⟨by omega,fun b hb=>by have:=h4.2 _ ⟨b,hb,rfl⟩;unfold Eb at this;simpa using this⟩
 ·rintro ⟨h1,h2,h3,h4⟩
  refine ⟨⟨⟨h1,?_⟩,fun w hw=>by simpa using h3 w hw⟩,?_⟩
  ·rintro _ ⟨b,hb,rfl⟩;simpa using h2 b hb
  ·cases hd:x.dead with
   | false=>rfl
   | true=>
    obtain ⟨h5,h6⟩:=h4 hd
    simp only [Bool.true_and,Zk0,Zkl,List.any_eq_false,Zkf]
    refine ⟨by omega,?_⟩
    rintro _ ⟨b,hb,rfl⟩
    unfold Eb
    have:=h6 b hb
    simp [this]
def dmayF:Fam DK:=⟨DK.ok,fun x=>[x.v],fun x=>.bool (AN x),fun x y hx hy h=>by rw [DK.inj hx.a hy.a (Zjr h).1]⟩
theorem Re {α:Type}{l:List α}{i:Nat}{x y:α}(h:l[i]?=some x) (hy:y ∈ l.take (i+1)):y ∈ l.take i∨y=x:=by
 have hlt:=(Zjg.1 h).1
 rw [Zjs hlt] at hy
 rcases Zj7.1 hy with hy|hy
 ·exact .inl hy
 ·rw [Zjf hlt] at h
  cases h
  simp at hy;exact .inr hy
def TB:AC:=match a77 with|.mk c _=>c
def Tb:AC:=match TB with
 | .seq _ (.seq _ r)=>r
 | _=>.skip
theorem Yz (hE:EM P e) (h148:Con e 128 sizF.O) {x:DK}(hx:x.ok) {K:AV→St→Prop}(hT:1≤x.us.length∧x.us.length≤256∧x.ws.length≤1024) (hdd:x.dead=true→x.ws.length=0)
 (k1:AN x=true→∀ s,K (.bool true) s) (k0:¬ AN x=true→∀ s,K (.bool false) s):W P 0 none Tb (At [(1,.ptr 0 0)]) (Ae St0 [.row 60 x.c]) [] (Bz [.tmp 2] K):=by
 rw [SI] at k0 k1
 obtain ⟨⟨hbl,hbs,hwl,hws⟩,hn,hm',hb',hw'⟩:=hx
 obtain ⟨bv,us,bs,wv,ws,dd⟩:=x
 dsimp only at hbl hbs hwl hws hn hm' hb' hw' k0 k1 hT hdd
 have hdf:hfs [bv,wv,.bool dd]=true:=Lf hwl hbl
 have hbn:=hbs.length
 refine F9 hE ?_
 show VW P e 0 Tb (At [(1,.ptr 0 0)]) (Ae St0 [.row 60 [bv,wv,.bool dd]]) none [] _
 conv=>whnf
 refine DH (α:=Nat) (fun i=>[(1,.ptr 0 0),(3,.int .i64 (i:Int))]) (fun _=>[.row 60 [bv,wv,.bool dd]]) (fun i=>us.length-i) (fun i=>i≤us.length∧∀ b ∈ bs.take i,AP b.length=false∧(dd=true→b.length=0)) 0 ⟨Zjy _,fun b hb=>by simp at hb⟩
  (Abs.tells (rs:=[0]) .a) ?_
 rintro i ⟨hi,hI⟩
 refine Cz hE ?_
 by_cases hlt:i<us.length
 ·obtain ⟨b,hb1,hb2⟩:=hbs.get (Zjf hlt)
  have hbm:=Zj1 hb1
  have hbl2:=hb' b hbm
  have hnxt:AP b.length=false∧(dd=true→b.length=0)→∀ b ∈ bs.take (i+1),AP b.length=false∧(dd=true→b.length=0):=fun h c hc=>by
   rcases Re hb1 hc with hc|rfl
   ·exact hI c hc
   ·exact h
  have hno:(AP b.length=true∨(dd=true∧b.length≠0))→∀ s,K (.bool false) s:=fun h=>k0 (by
   rintro ⟨_,h2,_,h4⟩
   rcases h with h|⟨h,h'⟩
   ·rw [h2 b hbm] at h;cases h
   ·exact h' ((h4 h).2 b hbm))
  have q1:((us.drop (i*1)))[0]?=some us[i]:=by rw [Zki,Zjq,Zko,Zjf hlt]
  have hall:=And.intro q1 hb2
  clear q1 hb2
  revert hall
  generalize us[i]=u
  rintro ⟨q1,hb2⟩
  clear k0 k1 hI
  have hend:(∀ b ∈ bs.take (i+1),AP b.length=false∧(dd=true→b.length=0))→∀ t s,t.get 1=some (.ptr 0 0)→t.get 3=some (.int .i64 ((i:Int)+1))→s.get 0=some (.row 60 [bv,wv,.bool dd])→
   ∃ x',(x'≤us.length∧∀ b ∈ bs.take x',AP b.length=false∧(dd=true→b.length=0))∧us.length-x'<us.length-i∧Tells P 0 t s [] (At [(1,.ptr 0 0),(3,.int .i64 (x':Int))]) (Ae St0 [.row 60 [bv,wv,.bool dd]]) []:=fun h0 t s g1 g3 gr=>
   ⟨i+1,⟨hlt,h0⟩,by omega,Abs.tells (rs:=[0]) ⟨by decide,⟨⟨rfl,g1⟩,⟨rfl,g3⟩,trivial⟩,⟨⟨Ab hdf,by rw [Aa hdf];exact gr⟩,trivial⟩⟩⟩
  conv=>whnf
  refine Ac rfl hbl ?_;conv=>whnf
  refine Bd (a:=(i:Int)) (b:=(us.length:Int)) rfl rfl (fun _=>?_) (fun h=>by omega);conv=>whnf
  refine BZ rfl hbl rfl hlt ?_;conv=>whnf
  refine EHead.mk (v:=u) q1 ?_;conv=>whnf
  refine ESc.fam sizF h148 ⟨u,b.length⟩ ⟨⟨_,hb2.1⟩,by dsimp only;omega⟩ (u:=.bool (!AP b.length)) rfl ?_
  cases ho:AP b.length
  ·conv=>whnf
   refine JH rfl ?_;conv=>whnf
   cases dd
   ·repeat' (first|((first|refine w1 rfl rfl ?_ ?_|refine w2 rfl rfl ?_ ?_|refine w3 rfl rfl ?_ ?_|refine w4 rfl rfl ?_ ?_|refine w5 rfl rfl ?_ ?_|refine w6 rfl rfl ?_ ?_) <;> intro _ <;> first|(exfalso;omega)|(conv=>whnf))|((first|refine w7 rfl rfl (by omega) ?_|refine w8 rfl rfl (by omega) ?_|refine w9 rfl rfl (by omega) ?_|refine w10 rfl rfl ?_|refine w11 rfl rfl ?_|refine w12 rfl ?_|refine w13 rfl ?_|refine w14 (q':=.i64) rfl (i64_in (by omega)) ?_|refine w14 (q':=.u32) rfl (Cr (by omega)) ?_|refine w14 (q':=.u8) rfl (C3 (by omega)) ?_|refine w15 rfl rfl ?_|refine w16 rfl ?_|refine w17 rfl ?_|refine w18 rfl ?_|refine ⟨rfl,?_⟩);conv=>whnf)|(refine w19 rfl ?_ ?_ <;> intro hc <;> (try subst hc) <;> conv=>whnf))
    exact hend (hnxt ⟨ho,fun h=>by cases h⟩) _ _ rfl rfl rfl
   ·repeat' (first|(refine BZ rfl hbl rfl hlt ?_;conv=>whnf)|(refine EHead.mk (v:=u) q1 ?_;conv=>whnf)|(refine Ac rfl hb2.1 ?_;conv=>whnf)|((first|refine w1 rfl rfl ?_ ?_|refine w2 rfl rfl ?_ ?_|refine w3 rfl rfl ?_ ?_|refine w4 rfl rfl ?_ ?_|refine w5 rfl rfl ?_ ?_|refine w6 rfl rfl ?_ ?_) <;> intro _ <;> first|(exfalso;omega)|(conv=>whnf))|((first|refine w7 rfl rfl (by omega) ?_|refine w8 rfl rfl (by omega) ?_|refine w9 rfl rfl (by omega) ?_|refine w10 rfl rfl ?_|refine w11 rfl rfl ?_|refine w12 rfl ?_|refine w13 rfl ?_|refine w14 (q':=.i64) rfl (i64_in (by omega)) ?_|refine w14 (q':=.u32) rfl (Cr (by omega)) ?_|refine w14 (q':=.u8) rfl (C3 (by omega)) ?_|refine w15 rfl rfl ?_|refine w16 rfl ?_|refine w17 rfl ?_|refine w18 rfl ?_|refine ⟨rfl,?_⟩);conv=>whnf)|(refine w19 rfl ?_ ?_ <;> intro hc <;> (try subst hc) <;> conv=>whnf))
    ·exact hno (.inr ⟨rfl,by omega⟩) _
    ·exact hend (hnxt ⟨ho,fun _=>by omega⟩) _ _ rfl rfl rfl
  ·conv=>whnf
   refine Iz rfl ?_;conv=>whnf
   repeat' (first|((first|refine w1 rfl rfl ?_ ?_|refine w2 rfl rfl ?_ ?_|refine w3 rfl rfl ?_ ?_|refine w4 rfl rfl ?_ ?_|refine w5 rfl rfl ?_ ?_|refine w6 rfl rfl ?_ ?_) <;> intro _ <;> first|(exfalso;omega)|(conv=>whnf))|((first|refine w7 rfl rfl (by omega) ?_|refine w8 rfl rfl (by omega) ?_|refine w9 rfl rfl (by omega) ?_|refine w10 rfl rfl ?_|refine w11 rfl rfl ?_|refine w12 rfl ?_|refine w13 rfl ?_|refine w14 (q':=.i64) rfl (i64_in (by omega)) ?_|refine w14 (q':=.u32) rfl (Cr (by omega)) ?_|refine w14 (q':=.u8) rfl (C3 (by omega)) ?_|refine w15 rfl rfl ?_|refine w16 rfl ?_|refine w17 rfl ?_|refine w18 rfl ?_|refine ⟨rfl,?_⟩);conv=>whnf)|(refine w19 rfl ?_ ?_ <;> intro hc <;> (try subst hc) <;> conv=>whnf))
   exact hno (.inl ho) _
 ·have hI':∀ b ∈ bs,AP b.length=false∧(dd=true→b.length=0):=by rw [Zjo (by omega)] at hI;exact hI
  clear hI
  conv=>whnf
  refine Ac rfl hbl ?_;conv=>whnf
  refine Bd (a:=(i:Int)) (b:=(us.length:Int)) rfl rfl (fun _=>by omega) (fun h=>?_);conv=>whnf
  refine DH (α:=Nat) (fun i=>[(1,.ptr 0 0),(4,.int .i64 (i:Int))]) (fun _=>[.row 60 [bv,wv,.bool dd]]) (fun i=>ws.length-i) (fun i=>i≤ws.length∧∀ w ∈ ws.take i,Bk us.length w=false) 0 ⟨Zjy _,fun b hb=>by simp at hb⟩
   (Abs.tells (rs:=[0]) .a) ?_
  rintro j ⟨hj,hJ⟩
  refine Cz hE ?_
  by_cases hjlt:j<ws.length
  ·have hd:=FQ hjlt
   have hwa:=hws _ (Zkg hjlt)
   have hwl2:=hw' _ (Zkg hjlt)
   have hnxt:Bk us.length ws[j]=false→∀ w ∈ ws.take (j+1),Bk us.length w=false:=fun h c hc=>by
    rcases Re (Zjf hjlt) hc with hc|rfl
    ·exact hJ c hc
    ·exact h
   have hno:Bk us.length ws[j]=true→∀ s,K (.bool false) s:=fun h=>k0 (by
    rintro ⟨_,_,h3,_⟩
    rw [h3 _ (Zkg hjlt)] at h;cases h)
   have hall:=And.intro hd (And.intro hwa (And.intro hwl2 (And.intro hnxt hno)))
   clear hd hwa hwl2 hnxt hno
   revert hall
   generalize ws[j]=w
   obtain ⟨wa,wu,wb⟩:=w
   rintro ⟨hd,⟨hwa,hwb⟩,hwl2,hnxt,hno⟩
   have hd:(Af ws).drop (j*2)=[.int .i64 wa,wu]++Af (ws.drop (j+1)):=hd
   unfold Bk at hnxt hno
   dsimp only at hwa hwb hwl2 hnxt hno
   clear k0 k1 hJ hI'
   have hend:(∀ w ∈ ws.take (j+1),(decide (w.at_<0) || decide ((us.length:Int)≤w.at_) || AP w.b.length)=false)→∀ t s,t.get 1=some (.ptr 0 0)→t.get 4=some (.int .i64 ((j:Int)+1))→s.get 0=some (.row 60 [bv,wv,.bool dd])→
    ∃ x',(x'≤ws.length∧∀ w ∈ ws.take x',Bk us.length w=false)∧ws.length-x'<ws.length-j∧Tells P 0 t s [] (At [(1,.ptr 0 0),(4,.int .i64 (x':Int))]) (Ae St0 [.row 60 [bv,wv,.bool dd]]) []:=fun h0 t s g1 g3 gr=>
    ⟨j+1,⟨hjlt,h0⟩,by omega,Abs.tells (rs:=[0]) ⟨by decide,⟨⟨rfl,g1⟩,⟨rfl,g3⟩,trivial⟩,⟨⟨Ab hdf,by rw [Aa hdf];exact gr⟩,trivial⟩⟩⟩
   conv=>whnf
   refine Ac rfl hwl ?_;conv=>whnf
   refine Bd (a:=(j:Int)) (b:=(ws.length:Int)) rfl rfl (fun _=>?_) (fun h=>by omega);conv=>whnf
   refine BZ rfl hwl rfl hjlt ?_
   rw [hd]
   conv=>whnf
   refine EHead.mk (v:=.int .i64 wa) rfl ?_;conv=>whnf
   refine Bd (a:=wa) (b:=0) rfl rfl (fun h1=>?_) (fun h1=>?_)
   ·conv=>whnf
    repeat' (first|((first|refine w1 rfl rfl ?_ ?_|refine w2 rfl rfl ?_ ?_|refine w3 rfl rfl ?_ ?_|refine w4 rfl rfl ?_ ?_|refine w5 rfl rfl ?_ ?_|refine w6 rfl rfl ?_ ?_) <;> intro _ <;> first|(exfalso;omega)|(conv=>whnf))|((first|refine w7 rfl rfl (by omega) ?_|refine w8 rfl rfl (by omega) ?_|refine w9 rfl rfl (by omega) ?_|refine w10 rfl rfl ?_|refine w11 rfl rfl ?_|refine w12 rfl ?_|refine w13 rfl ?_|refine w14 (q':=.i64) rfl (i64_in (by omega)) ?_|refine w14 (q':=.u32) rfl (Cr (by omega)) ?_|refine w14 (q':=.u8) rfl (C3 (by omega)) ?_|refine w15 rfl rfl ?_|refine w16 rfl ?_|refine w17 rfl ?_|refine w18 rfl ?_|refine ⟨rfl,?_⟩);conv=>whnf)|(refine w19 rfl ?_ ?_ <;> intro hc <;> (try subst hc) <;> conv=>whnf))
    exact hno (by rw [Zjk h1];rfl) _
   conv=>whnf
   refine BZ rfl hwl rfl hjlt ?_
   rw [hd]
   conv=>whnf
   refine EHead.mk (v:=.int .i64 wa) rfl ?_;conv=>whnf
   refine Ac rfl hbl ?_;conv=>whnf
   refine DS (a:=wa) (b:=(us.length:Int)) rfl rfl (fun h2=>?_) (fun h2=>?_)
   ·conv=>whnf
    repeat' (first|((first|refine w1 rfl rfl ?_ ?_|refine w2 rfl rfl ?_ ?_|refine w3 rfl rfl ?_ ?_|refine w4 rfl rfl ?_ ?_|refine w5 rfl rfl ?_ ?_|refine w6 rfl rfl ?_ ?_) <;> intro _ <;> first|(exfalso;omega)|(conv=>whnf))|((first|refine w7 rfl rfl (by omega) ?_|refine w8 rfl rfl (by omega) ?_|refine w9 rfl rfl (by omega) ?_|refine w10 rfl rfl ?_|refine w11 rfl rfl ?_|refine w12 rfl ?_|refine w13 rfl ?_|refine w14 (q':=.i64) rfl (i64_in (by omega)) ?_|refine w14 (q':=.u32) rfl (Cr (by omega)) ?_|refine w14 (q':=.u8) rfl (C3 (by omega)) ?_|refine w15 rfl rfl ?_|refine w16 rfl ?_|refine w17 rfl ?_|refine w18 rfl ?_|refine ⟨rfl,?_⟩);conv=>whnf)|(refine w19 rfl ?_ ?_ <;> intro hc <;> (try subst hc) <;> conv=>whnf))
    exact hno (by rw [Zjk h2];simp) _
   conv=>whnf
   refine BZ rfl hwl rfl hjlt ?_
   rw [hd]
   conv=>whnf
   refine EHead.mk (v:=wu) rfl ?_;conv=>whnf
   refine ESc.fam sizF h148 ⟨wu,wb.length⟩ ⟨⟨_,hwb.1⟩,by dsimp only;omega⟩ (u:=.bool (!AP wb.length)) rfl ?_
   rw [Zjw (by omega),Zjw (by omega)] at hnxt hno
   cases ho:AP wb.length
   ·conv=>whnf
    refine JH rfl ?_;conv=>whnf
    repeat' (first|((first|refine w1 rfl rfl ?_ ?_|refine w2 rfl rfl ?_ ?_|refine w3 rfl rfl ?_ ?_|refine w4 rfl rfl ?_ ?_|refine w5 rfl rfl ?_ ?_|refine w6 rfl rfl ?_ ?_) <;> intro _ <;> first|(exfalso;omega)|(conv=>whnf))|((first|refine w7 rfl rfl (by omega) ?_|refine w8 rfl rfl (by omega) ?_|refine w9 rfl rfl (by omega) ?_|refine w10 rfl rfl ?_|refine w11 rfl rfl ?_|refine w12 rfl ?_|refine w13 rfl ?_|refine w14 (q':=.i64) rfl (i64_in (by omega)) ?_|refine w14 (q':=.u32) rfl (Cr (by omega)) ?_|refine w14 (q':=.u8) rfl (C3 (by omega)) ?_|refine w15 rfl rfl ?_|refine w16 rfl ?_|refine w17 rfl ?_|refine w18 rfl ?_|refine ⟨rfl,?_⟩);conv=>whnf)|(refine w19 rfl ?_ ?_ <;> intro hc <;> (try subst hc) <;> conv=>whnf))
    exact hend (hnxt (by rw [ho];rfl)) _ _ rfl rfl rfl
   ·conv=>whnf
    refine Iz rfl ?_;conv=>whnf
    repeat' (first|((first|refine w1 rfl rfl ?_ ?_|refine w2 rfl rfl ?_ ?_|refine w3 rfl rfl ?_ ?_|refine w4 rfl rfl ?_ ?_|refine w5 rfl rfl ?_ ?_|refine w6 rfl rfl ?_ ?_) <;> intro _ <;> first|(exfalso;omega)|(conv=>whnf))|((first|refine w7 rfl rfl (by omega) ?_|refine w8 rfl rfl (by omega) ?_|refine w9 rfl rfl (by omega) ?_|refine w10 rfl rfl ?_|refine w11 rfl rfl ?_|refine w12 rfl ?_|refine w13 rfl ?_|refine w14 (q':=.i64) rfl (i64_in (by omega)) ?_|refine w14 (q':=.u32) rfl (Cr (by omega)) ?_|refine w14 (q':=.u8) rfl (C3 (by omega)) ?_|refine w15 rfl rfl ?_|refine w16 rfl ?_|refine w17 rfl ?_|refine w18 rfl ?_|refine ⟨rfl,?_⟩);conv=>whnf)|(refine w19 rfl ?_ ?_ <;> intro hc <;> (try subst hc) <;> conv=>whnf))
    exact hno (by rw [ho];rfl) _
  ·have hJ':∀ w ∈ ws,Bk us.length w=false:=by rw [Zjo (by omega)] at hJ;exact hJ
   conv=>whnf
   refine Ac rfl hwl ?_;conv=>whnf
   refine Bd (a:=(j:Int)) (b:=(ws.length:Int)) rfl rfl (fun _=>by omega) (fun h=>?_);conv=>whnf
   exact k1 ⟨hT,fun b hb=>(hI' b hb).1,hJ',fun hd=>⟨hdd hd,fun b hb=>(hI' b hb).2 hd⟩⟩ _
theorem Zai (hE:EM P e) (h148:Con e 128 sizF.O):OvOk P 77 dmayF.O:=by
 refine Ca g77.b fun x hx=>?_
 refine ⟨by show (AM.hf x.v && true)=true;rw [DK.hf hx.a];rfl,rfl,C.of_W g77.f g77.c ?_⟩
 have fin1:AN x=true→∀ s,Frz s (.bool true) (dmayF.out x):=by intro h s;show Frz s _ (.bool (AN x));rw [h];exact .plain _ rfl
 have fin0:¬ AN x=true→∀ s,Frz s (.bool false) (dmayF.out x):=by intro h s;show Frz s _ (.bool (AN x));rw [Bool.eq_false_iff.2 h];exact .plain _ rfl
 have hrest:=fun h1 h2=>Yz (K:=fun w s'=>Frz s' w (dmayF.out x)) hE h148 hx h1 h2 fin1 fin0
 rw [SI] at fin0
 obtain ⟨O,hO⟩:∃ O,O=dmayF.out x:=⟨_,rfl⟩
 rw [← hO] at fin0 hrest ⊢
 clear hO fin1
 obtain ⟨⟨hbl,hbs,hwl,hws⟩,hn,hm',hb',hw'⟩:=hx
 obtain ⟨bv,us,bs,wv,ws,dd⟩:=x
 dsimp only at hbl hbs hwl hws hn hm' hb' hw' fin0 hrest
 have hdf:hfs [bv,wv,.bool dd]=true:=Lf hwl hbl
 show W P 0 none TB (Al [.agg [bv,wv,.bool dd]] 0 .lf) St0 [] (Bz [.tmp 2] _)
 refine Bf hE ?_;conv=>whnf
 refine Bf hE ?_;conv=>whnf
 have hgo:=fun (h1:1≤us.length∧us.length≤256∧ws.length≤1024) (h2:dd=true→ws.length=0) (t:AT) (s:St) (g1:t.get 1=some (.ptr 0 0)) (gr:s.get 0=some (.row 60 [bv,wv,.bool dd]))=>W.tells (Abs.tells (tl:=[(1,.ptr 0 0)]) (os:=[.row 60 [bv,wv,.bool dd]]) (rs:=[0]) ⟨by decide,⟨⟨rfl,g1⟩,trivial⟩,⟨⟨Ab hdf,by rw [Aa hdf];exact gr⟩,trivial⟩⟩) (hrest h1 h2)
 have hno:=fun (h:¬ ((1≤us.length∧us.length≤256∧ws.length≤1024)∧(dd=true→ws.length=0)))=>fin0 (fun h'=>h ⟨h'.1,fun hd=>(h'.2.2.2 hd).1⟩)
 cases dd
 ·repeat' (first|(refine Ac rfl hbl ?_;conv=>whnf)|(refine Ac rfl hwl ?_;conv=>whnf)|((first|refine w1 rfl rfl ?_ ?_|refine w2 rfl rfl ?_ ?_|refine w3 rfl rfl ?_ ?_|refine w4 rfl rfl ?_ ?_|refine w5 rfl rfl ?_ ?_|refine w6 rfl rfl ?_ ?_) <;> intro _ <;> first|(exfalso;omega)|(conv=>whnf))|((first|refine w7 rfl rfl (by omega) ?_|refine w8 rfl rfl (by omega) ?_|refine w9 rfl rfl (by omega) ?_|refine w10 rfl rfl ?_|refine w11 rfl rfl ?_|refine w12 rfl ?_|refine w13 rfl ?_|refine w14 (q':=.i64) rfl (i64_in (by omega)) ?_|refine w14 (q':=.u32) rfl (Cr (by omega)) ?_|refine w14 (q':=.u8) rfl (C3 (by omega)) ?_|refine w15 rfl rfl ?_|refine w16 rfl ?_|refine w17 rfl ?_|refine w18 rfl ?_|refine ⟨rfl,?_⟩);conv=>whnf)|(refine w19 rfl ?_ ?_ <;> intro hc <;> (try subst hc) <;> conv=>whnf))
  all_goals first
   | exact hgo (by omega) (fun h=>by cases h) _ _ rfl rfl
   | exact ⟨.inr rfl,_,_,rfl,rfl,hno (by omega) _⟩
 ·repeat' (first|(refine Ac rfl hbl ?_;conv=>whnf)|(refine Ac rfl hwl ?_;conv=>whnf)|((first|refine w1 rfl rfl ?_ ?_|refine w2 rfl rfl ?_ ?_|refine w3 rfl rfl ?_ ?_|refine w4 rfl rfl ?_ ?_|refine w5 rfl rfl ?_ ?_|refine w6 rfl rfl ?_ ?_) <;> intro _ <;> first|(exfalso;omega)|(conv=>whnf))|((first|refine w7 rfl rfl (by omega) ?_|refine w8 rfl rfl (by omega) ?_|refine w9 rfl rfl (by omega) ?_|refine w10 rfl rfl ?_|refine w11 rfl rfl ?_|refine w12 rfl ?_|refine w13 rfl ?_|refine w14 (q':=.i64) rfl (i64_in (by omega)) ?_|refine w14 (q':=.u32) rfl (Cr (by omega)) ?_|refine w14 (q':=.u8) rfl (C3 (by omega)) ?_|refine w15 rfl rfl ?_|refine w16 rfl ?_|refine w17 rfl ?_|refine w18 rfl ?_|refine ⟨rfl,?_⟩);conv=>whnf)|(refine w19 rfl ?_ ?_ <;> intro hc <;> (try subst hc) <;> conv=>whnf))
  all_goals first
   | exact hgo (by omega) (fun h=>by omega) _ _ rfl rfl
   | exact ⟨.inr rfl,_,_,rfl,rfl,hno (by rintro ⟨h1,h2⟩;have h2:=h2 rfl;omega) _⟩
structure CDK where
 c:Cfg
 d:DK
structure CDK.ok (x:CDK):Prop where
 c:x.c.ok
 d:x.d.ok
 l:0≤x.c.log∧x.c.log≤255
end Go.AM
