/-
 Functions of the program as the abstract machine reads them, and what is stated of them, checked by the kernel. No conditions.
-/
import Derived.Test.YtnnbibnobmegpaaSeatQ
import Derived.Test.YtnnbibnobmegpaaSeatA
import Derived.Test.YtnnbibnobmegpaaSeatD
set_option linter.unusedVariables false
set_option linter.unusedSimpArgs false
set_option maxRecDepth 100000
namespace Go.AM
attribute [local irreducible] W
open X
def Zsv:AC:=match a98 with|.mk c _=>c
def Zob:AC:=match a141 with|.mk c _=>c
def Yc1:AC:=match a96 with|.mk c _=>c
def Zu2:AC:=match a139 with|.mk c _=>c
def Zw6:AC:=match a97 with|.mk c _=>c
def Zsx:AC:=match a51 with|.mk c _=>c
def cpD (b:List Nat):Option Nat:=if b.length=0 then some 128 else none
theorem Zxd {e:Env}(h98:Inl e 98 Zsv [.tmp 2]) (h141:Inl e 141 Zob [.tmp 2]) {u:AV}{b:List Nat}(hb:BAt u b) (hl:b.length=0∨b.length=128) {s:St}(hs:s.next<1000000) {K:AV→St→Prop}
 (k0:b.length=0→K (.sl s.next 0 128 (some 128)) (s.alloc (.row 5 (bys (pad b)))))
 (k1:b.length=128→K (.sl (s.alloc (.row 5 [])).next 0 128 none) ((s.alloc (.row 5 [])).alloc (.row 5 (bys (pad b))))):ESc e 98 [u] s K:=by
 refine ESc.inl h98 ?_;conv=>whnf
 refine Zaa rfl hb.1 ?_;conv=>whnf
 rcases hl with h0|h1
 ·have hb0:b=[]:=List.length_eq_zero_iff.1 h0
  subst hb0
  repeat' (first|(refine Zlo (n:=127) rfl rfl (by decide) ?_;conv=>whnf)|((refine w5 rfl rfl ?_ ?_) <;> intro _ <;> first|(exfalso;omega)|(conv=>whnf))|fail)
  exact k0 rfl
 ·have hp:pad b=b:=Zc0 h1
  rw [hp] at k1
  obtain ⟨c,rfl⟩:∃ c,u=.fz b.length c (bys b):=by
   rcases hb.1 with ⟨_,h,_⟩|⟨_,h,_⟩|⟨c,h,_⟩
   ·omega
   ·omega
   ·exact ⟨c,h⟩
  have hne:∃ x l,bys b=x::l:=by
   cases b with
   | nil=>simp at h1
   | cons y l=>exact ⟨_,_,rfl⟩
  obtain ⟨x,l,hxl⟩:=hne
  have hbl:=Zan b
  repeat' (first|(refine ESc.inl h141 ?_;conv=>whnf)|(refine eqbNil rfl rfl (.inr ⟨_,_,_,rfl⟩) ?_;conv=>whnf)|((refine w5 rfl rfl ?_ ?_) <;> intro _ <;> first|(exfalso;omega)|(conv=>whnf))|fail)
  refine EPrim.app1 (c:=x) (cs:=l) (m:=128) rfl rfl ?_ (Zkv _ _ (by omega)) ?_ (by omega) (by omega) ?_
  ·show Zdf (b.length*1) (bys b)=_
   rw [Zgy (by omega),List.take_of_length_le (by omega),hxl]
  ·show (x::l).length / 1=_
   rw [← hxl];omega
  rw [← hxl]
  conv=>whnf
  exact k1 h1
def Ze8 (at_:Int):List WR→Option (List Nat)
 | []=>none
 | w::l=>if w.at_=at_ then some w.b else Ze8 at_ l
def Zzm (ws:List WR) (at_:Int) (b:List Nat):List Nat:=(Ze8 at_ ws.reverse).getD b
def asg51:AC:=match Zj0 Zsx with|some (a,_)=>a|none=>.skip
def Yi4:AC:=match Zj0 Zsx with|some (_,b)=>b|none=>.skip
def Yar:AC:=match Zsx with
 | .seq _ (.seq _ (.seq _ r))=>r
 | _=>.skip
def tlD (cp:Option Nat):List (Nat×AV):=[(3,.ptr 0 0),(4,.ptr 1 0),(5,.ptr 2 0),(6,.sl 3 0 128 cp),(21,.fn 140 [] [.ptr 4 0])]
def osD (at_:Int) (b:List Nat) (wv:AV):List AObj:=[.row 3 [.int .i64 at_],.row 32 [.nils],.row 37 [.int .i64 0],.row 5 (bys (pad b)),.row 26 [wv]]
noncomputable def osD2 (at_:Int) (b:List Nat) (wv:AV) (cp:Option Nat):List AObj:=[.row 3 [.int .i64 at_],.row 32 [.nils],.row 37 [.int .i64 0],.row 5 (bys (pad b)),.row 26 [wv],.defd,.loop .ready none 0 (ofL (tlD cp)) [22,23] asg51 Yi4 5]
theorem Yhc {P:Program}{e:Env}{fn:Func}(hE:EnvOk P e) (hm:P.follows .mixedOrders=true) (h97:Inl e 97 Zw6 [.tmp 2]) (h98:Inl e 98 Zsv [.tmp 2]) (h141:Inl e 141 Zob [.tmp 2])
 (hf:P.funcs[140]?=some fn) (hc:Zaj P fn=some Yi7) (hb:Zaf P 140) (x:DK) (hx:x.ok) (at_:Int) (hat:Zc4 at_) (hn:x.ws.length≤1024) (hwl:∀ w ∈ x.ws,w.b.length=0∨w.b.length=128) (b0:List Nat) (K:AV→St→Prop)
 (hk:∀ s r,s.get r=some (.row 5 (bys (pad (Zzm x.ws at_ b0))))→K (.tup [.sl r 0 128 (cpD (Zzm x.ws at_ b0)),.int .i64 0]) s):
 W P 0 none Yar (ofL [(2,.ptr 0 0),(3,.ptr 1 0),(4,.ptr 2 0),(5,.ptr 3 0),(6,.sl 4 0 128 (cpD b0))]) (Zai St0 [.row 28 x.c,.row 3 [.int .i64 at_],.row 32 [.nils],.row 37 [.int .i64 0],.row 5 (bys (pad b0))]) [] (Zhv [.cell 4,.cell 5] K):=by
 obtain ⟨⟨hbl,hbs,hws,hwa⟩,hun,hwn,hbb,hww⟩:=hx
 obtain ⟨bv,us,bs,wv,ws,dd⟩:=x
 dsimp only at hbl hbs hws hwa hun hwn hbb hww hn hwl hk
 obtain ⟨cp,hcp⟩:∃ cp,cp=cpD b0:=⟨_,rfl⟩
 rw [← hcp]
 show W P 0 none Yar (ofL [(2,.ptr 0 0),(3,.ptr 1 0),(4,.ptr 2 0),(5,.ptr 3 0),(6,.sl 4 0 128 cp)]) (Zai St0 [.row 28 [bv,wv,.bool dd],.row 3 [.int .i64 at_],.row 32 [.nils],.row 37 [.int .i64 0],.row 5 (bys (pad b0))]) [] (Zhv [.cell 4,.cell 5] K)
 refine Zkt hE hm ?_;conv=>whnf
 refine ESc.inl h97 ?_;conv=>whnf
 refine Zrm (by show Nat.beq (Zd0 (cellsOf wv)) 1=true;rw [hws.cells];rfl) ?_
 rw [hws.cells]
 conv=>whnf
 have hwf:hfs [wv]=true:=by show (AM.hf wv && true)=true;rw [hws.hf];rfl
 have hpf:∀ b,hfs (bys b)=true:=fun b=>Zad b
 refine W.tells (Abs.tells (tl:=tlD cp) (os:=osD at_ b0 wv) (rs:=[1,2,3,4,5])
  ⟨by decide,⟨⟨rfl,rfl⟩,⟨rfl,rfl⟩,⟨rfl,rfl⟩,⟨rfl,rfl⟩,⟨rfl,rfl⟩,trivial⟩,⟨⟨rfl,rfl⟩,⟨rfl,rfl⟩,⟨rfl,rfl⟩,⟨Za6 (hpf _),by rw [Zac (hpf _)];rfl⟩,⟨Za6 hwf,by rw [Zac hwf];rfl⟩,trivial⟩⟩) ?_
 refine Zta (f:=140) (first:=[]) (cap:=[.ptr 4 0]) hb rfl ?_ ?_
 ·intro q hq
  have hq:q<5:=hq
  rcases q with _|_|_|_|_|q
  ·exact .tmp 3 (.ptr 0 0) rfl rfl
  ·exact .tmp 4 (.ptr 1 0) rfl rfl
  ·exact .tmp 5 (.ptr 2 0) rfl rfl
  ·exact .tmp 6 (.sl 3 0 128 cp) rfl rfl
  ·exact .tmp 21 (.fn 140 [] [.ptr 4 0]) rfl rfl
  ·omega
 show C1 P 140 [.yld 6,.ptr 4 0] (Zai St0 (osD2 at_ b0 wv cp)) (fun _ s'=>Zom 6 [5] (ofL (tlD cp)) s' _)
 refine C1.of_V hE hm hf hc ?_;conv=>whnf
 refine Zaa rfl hws ?_;conv=>whnf
 repeat' (first|(refine w8 rfl rfl (by omega) ?_;conv=>whnf)|fail)
 have hlb:bdO 7 7 (.loop .ready none 0 (ofL (tlD cp)) [22,23] asg51 Yi4 5)=true:=rfl
 refine Zbo (k:=7) (α:=Nat) (fun i=>[(0,.yld 6),(1,.ptr 4 0),(3,.int .i64 ((i:Int)-1))]) (fun i=>osD2 at_ b0 wv cp) (fun i=>i) (fun i=>i≤ws.length∧Ze8 at_ ws.reverse=Ze8 at_ (ws.take i).reverse) ws.length ⟨Nat.le_refl _,by rw [List.take_length]⟩
  (AbsK.tells (rs:=[0,1,2,3,4,5,6]) ⟨rfl,by decide,⟨⟨rfl,rfl⟩,⟨rfl,rfl⟩,⟨rfl,rfl⟩,trivial⟩,⟨⟨rfl,rfl⟩,⟨rfl,rfl⟩,⟨rfl,rfl⟩,⟨Za6 (hpf _),by rw [Zac (hpf _)];rfl⟩,⟨Za6 hwf,by rw [Zac hwf];rfl⟩,⟨rfl,rfl⟩,⟨hlb,rfl⟩,trivial⟩⟩) ?_
 rintro j ⟨hj,hh⟩
 refine Zap hE hm ?_;conv=>whnf
 refine Zbj rfl rfl (fun h=>?_) (fun h=>?_) <;> conv=>whnf
 ·obtain ⟨i,rfl⟩:∃ i,j=i+1:=⟨j-1,by omega⟩
  have hlt:i<ws.length:=by omega
  rw [show ((i+1:Nat):Int)-1=(i:Int) by omega]
  have hd:=Zb0 hlt
  have hwm:=List.getElem_mem hlt
  have hwa':=hwa _ hwm
  have hwl':=hwl _ hwm
  have hst:Ze8 at_ ws.reverse=if ws[i].at_=at_ then some ws[i].b else Ze8 at_ (ws.take i).reverse:=by
   rw [hh,List.take_succ_eq_append_getElem hlt,List.reverse_append];rfl
  have hall:=And.intro hd (And.intro hwa' (And.intro hwl' hst))
  clear hd hwa' hwl' hst hwm
  revert hall
  generalize ws[i]=w
  obtain ⟨wa,wu,wb⟩:=w
  rintro ⟨hd,⟨hwa1,hwb⟩,hwl',hst⟩
  have hd:(wrs ws).drop (i*2)=[.int .i64 wa,wu]++wrs (ws.drop (i+1)):=hd
  dsimp only at hwa1 hwb hwl' hst
  refine Zae rfl hws rfl hlt ?_
  rw [hd]
  conv=>whnf
  have hcell:∀ (K:List AV→Prop),K [.int .i64 wa,wu]→ETake 2 ([.int .i64 wa,wu]++wrs (ws.drop (i+1))) K:=fun K hk=>Zgc rfl hk
  refine hcell _ ?_;conv=>whnf
  refine ERound.mk ?_
  have hrun:∀ b cp',Zzm ws at_ b0=b→cp'=cpD b→∀ s r,s.get r=some (.row 5 (bys (pad b)))→K (.tup [.sl r 0 128 cp',.int .i64 0]) s:=fun b cp' h1 h2 s r h=>by
   subst h1 h2;exact hk s r h
  conv=>whnf
  refine Za7 (a:=wa) (b:=at_) rfl rfl (fun he=>?_) (fun he=>?_)
  ·rw [if_pos he] at hst
   have hL:Zzm ws at_ b0=wb:=by unfold Zzm;rw [hst];rfl
   conv=>whnf
   refine Zxd h98 h141 hwb hwl' (by show 8<1000000;decide) (fun h0=>?_) (fun h1=>?_)
   ·conv=>whnf
    repeat' (first|(refine w13 rfl ?_;conv=>whnf)|fail)
    refine hrun wb (some 128) hL (by unfold cpD;rw [if_pos h0]) _ _ ?_
    rfl
   ·conv=>whnf
    repeat' (first|(refine w13 rfl ?_;conv=>whnf)|fail)
    refine hrun wb none hL (by unfold cpD;rw [if_neg (by omega)]) _ _ ?_
    rfl
  ·rw [if_neg he] at hst
   conv=>whnf
   repeat' (first|((first|refine w8 rfl rfl (by omega) ?_|refine w12 rfl ?_|refine ⟨rfl,?_⟩);conv=>whnf)|fail)
   refine ⟨i,⟨by omega,hst⟩,by omega,AbsK.tells (rs:=[0,1,2,3,4,5,6]) ⟨rfl,by decide,⟨⟨rfl,rfl⟩,⟨rfl,rfl⟩,⟨rfl,rfl⟩,trivial⟩,⟨⟨rfl,rfl⟩,⟨rfl,rfl⟩,⟨rfl,rfl⟩,⟨Za6 (hpf _),by rw [Zac (hpf _)];rfl⟩,⟨Za6 hwf,by rw [Zac hwf];rfl⟩,⟨rfl,rfl⟩,⟨hlb,rfl⟩,trivial⟩⟩⟩
 ·have:j=0:=by omega
  subst this
  have hL:Zzm ws at_ b0=b0:=by unfold Zzm;rw [hh];rfl
  conv=>whnf
  rw [hL,← hcp] at hk
  exact hk _ _ rfl
theorem Zp0 {n m:Nat}{l l':List AV}{u v:AV}(h:Sl 2 m l' v) (h':Sl 1 n l u) {d:Bool}:hfs [u,v,.bool d]=true:=by
 show (AM.hf u && (AM.hf v && (true && true)))=true
 rw [h.hf,h'.hf];rfl
def Yhe (x:DK) (at_:Int):Int:=if Zhp x=true then (if 0≤at_∧at_<x.us.length then (if x.dead then 40 else 0) else 2) else 8
def Zrc (x:DK) (at_:Int):List Nat:=Zzm x.ws at_ (x.bs.getD at_.toNat [])
theorem Yba {n:Nat}(h:Zde n=false):n=0∨n=128:=by
 unfold Zde at h
 simp at h
 omega
theorem Zoa {x:DK}(hx:x.any) (h:Zhp x=true):x.ws.length≤1024∧(∀ b ∈ x.bs,b.length=0∨b.length=128)∧(∀ w ∈ x.ws,w.b.length=0∨w.b.length=128)∧x.us.length=x.bs.length∧x.us.length≤256:=by
 unfold Zhp at h
 simp only [Bool.and_eq_true,Bool.not_eq_true'] at h
 obtain ⟨⟨⟨h1,h2⟩,h3⟩,h4⟩:=h
 have h1:=of_decide_eq_true h1
 rw [List.any_eq_false] at h2 h3
 refine ⟨h1.2.2,fun b hb=>Yba (by simpa using h2 b.length (List.mem_map_of_mem hb)),fun w hw=>?_,hx.bs.length,h1.2.1⟩
 have:=h3 w hw
 unfold Zi2 at this
 simp only [Bool.or_eq_true,not_or] at this
 exact Yba (by simpa using this.2)
theorem Zw1 {P:Program}{e:Env}{fn:Func}(hE:EnvOk P e) (hm:P.follows .mixedOrders=true) (h101:Con e 101 dskF.O) (h96:Inl e 96 Yc1 [.tmp 4,.tmp 5]) (h139:Inl e 139 Zu2 [.tmp 4]) (h97:Inl e 97 Zw6 [.tmp 2]) (h98:Inl e 98 Zsv [.tmp 2]) (h141:Inl e 141 Zob [.tmp 2])
 (hf:P.funcs[140]?=some fn) (hc:Zaj P fn=some Yi7) (hb:Zaf P 140) (x:DK) (hx:x.ok) (at_:Int) (hat:Zc4 at_) (K:AV→St→Prop)
 (h0:Yhe x at_=0→∀ s r,s.get r=some (.row 5 (bys (pad (Zrc x at_))))→K (.tup [.sl r 0 128 (cpD (Zrc x at_)),.int .i64 0]) s)
 (h1:Yhe x at_≠0→∀ s,K (.tup [.nils,.int .i64 (Yhe x at_)]) s):
 W P 0 none Zsx (Zax [x.v,.int .i64 at_] 0 .lf) St0 [] (Zhv [.cell 4,.cell 5] K):=by
 have hlt:Zhp x=true→0≤at_∧at_<x.us.length→∃ b u,x.us[at_.toNat]?=some u∧BAt u b∧x.bs.getD at_.toNat []=b∧(b.length=0∨b.length=128):=fun hd ⟨ha,hl⟩=>by
  have hn:at_.toNat<x.us.length:=by omega
  obtain ⟨b,hbb,hbu⟩:=hx.a.bs.get (List.getElem?_eq_getElem hn)
  refine ⟨b,x.us[at_.toNat],List.getElem?_eq_getElem hn,hbu,by rw [List.getD_eq_getElem?_getD,hbb];rfl,(Zoa hx.a hd).2.1 b (List.mem_of_getElem? hbb)⟩
 have hres:=fun (hd:Zhp x=true) b0 K=>Yhc hE hm h97 h98 h141 hf hc hb x hx at_ hat (Zoa hx.a hd).1 (Zoa hx.a hd).2.2.1 b0 K
 have hdk:=fun (u:AV) (h:dskF.out x=u)=>And.intro hx h
 unfold Yhe at h0 h1
 unfold Zrc at h0
 obtain ⟨D,hD⟩:∃ D,D=Zhp x:=⟨_,rfl⟩
 rw [← hD] at h0 h1 hlt hres
 have hDo:dskF.out x=.int .i64 (if D=true then 0 else 8):=by rw [hD];rfl
 have hul:x.us.length<1000000:=hx.n
 have hbl:=hx.a.bl
 have hwv:=hx.a.wl
 obtain ⟨bv,us,bs,wv,ws,dd⟩:=x
 dsimp only at hlt hul h0 h1 hbl hwv
 unfold Zc4 at hat
 show W P 0 none Zsx (Zax [.agg [bv,wv,.bool dd],.int .i64 at_] 0 .lf) St0 [] (Zhv [.cell 4,.cell 5] K)
 refine W.seqV hE hm ?_;conv=>whnf
 refine W.seqV hE hm ?_;conv=>whnf
 refine ESc.inl h96 ?_;conv=>whnf
 refine ESc.inl h139 ?_;conv=>whnf
 cases D
 ·refine ESc.fam dskF h101 ⟨bv,us,bs,wv,ws,dd⟩ hx (u:=.int .i64 8) hDo ?_;conv=>whnf
  repeat' (first|((refine w6 rfl rfl ?_ ?_) <;> intro _ <;> first|(exfalso;omega)|(conv=>whnf))|fail)
  refine W.seqV hE hm ?_;conv=>whnf
  repeat' (first|((refine w6 rfl rfl ?_ ?_) <;> intro _ <;> first|(exfalso;omega)|(conv=>whnf))|fail)
  refine Zbz ?_;conv=>whnf
  exact h1 (by simp) _
 ·refine ESc.fam dskF h101 ⟨bv,us,bs,wv,ws,dd⟩ hx (u:=.int .i64 0) hDo ?_;conv=>whnf
  have hp:∀ K:AV→Prop,(at_<0∨(us.length:Int)≤at_→K (.int .i64 2))→(0≤at_∧at_<us.length→K (.int .i64 0))→True:=fun _ _ _=>trivial
  by_cases hr:0≤at_∧at_<(us.length:Int)
  ·obtain ⟨b,u,hg,hbu,hbd,hbl'⟩:=hlt rfl hr
   rw [hbd] at h0
   have h0:=fun hdd=>h0 (by rw [if_pos rfl,if_pos hr];exact hdd)
   rw [if_pos rfl,if_pos hr] at h1
   obtain ⟨n,rfl⟩:∃ n:Nat,at_=(n:Int):=⟨at_.toNat,by omega⟩
   have hlt':n<us.length:=by omega
   rw [show (n:Int).toNat=n by omega] at hg
   have hg':us[n]=u:=by rw [List.getElem?_eq_getElem hlt'] at hg;exact Option.some.inj hg
   clear hg hbd hlt
   repeat' (first|(refine Zaa rfl hbl ?_;conv=>whnf)|((first|refine w1 rfl rfl ?_ ?_|refine w4 rfl rfl ?_ ?_|refine w6 rfl rfl ?_ ?_) <;> intro _ <;> first|(exfalso;omega)|(conv=>whnf))|(refine w19 rfl ?_ ?_ <;> intro hc <;> (try subst hc) <;> conv=>whnf))
   all_goals first|(exfalso;omega)|skip
   ·refine W.seqV hE hm ?_;conv=>whnf
    repeat' (first|((refine w6 rfl rfl ?_ ?_) <;> intro _ <;> first|(exfalso;omega)|(conv=>whnf))|fail)
    refine Zbz ?_;conv=>whnf
    exact h1 (by simp) _
   ·refine Zae rfl hbl rfl hlt' ?_;conv=>whnf
    refine EHead.mk (v:=u) (by rw [Nat.mul_one,List.getElem?_drop,Nat.add_zero,List.getElem?_eq_getElem hlt',hg']) ?_;conv=>whnf
    have hcf:hfs [bv,wv,.bool false]=true:=Zp0 hwv hbl
    have hend:=fun cp' (hcp:cp'=cpD b)=>(hcp ▸ hres rfl b K (fun s r h=>h0 rfl s r h):W P 0 none Yar (ofL [(2,.ptr 0 0),(3,.ptr 1 0),(4,.ptr 2 0),(5,.ptr 3 0),(6,.sl 4 0 128 cp')]) (Zai St0 [.row 28 [bv,wv,.bool false],.row 3 [.int .i64 (n:Int)],.row 32 [.nils],.row 37 [.int .i64 0],.row 5 (bys (pad b))]) [] (Zhv [.cell 4,.cell 5] K))
    refine Zxd h98 h141 hbu hbl' (by show 6<1000000;decide) (fun h0=>?_) (fun h1=>?_)
    ·conv=>whnf
     refine W.seqV hE hm ?_;conv=>whnf
     repeat' (first|((refine w6 rfl rfl ?_ ?_) <;> intro _ <;> first|(exfalso;omega)|(conv=>whnf))|fail)
     refine W.tells (Abs.tells (rs:=[0,1,2,3,6]) ?_) (hend (some 128) (by unfold cpD;rw [if_pos h0]))
     exact ⟨by decide,⟨⟨rfl,rfl⟩,⟨rfl,rfl⟩,⟨rfl,rfl⟩,⟨rfl,rfl⟩,⟨rfl,rfl⟩,trivial⟩,⟨⟨Za6 hcf,by rw [Zac hcf];rfl⟩,⟨rfl,rfl⟩,⟨rfl,rfl⟩,⟨rfl,rfl⟩,⟨Za6 (Zad _),by rw [Zac (Zad _)];rfl⟩,trivial⟩⟩
    ·conv=>whnf
     refine W.seqV hE hm ?_;conv=>whnf
     repeat' (first|((refine w6 rfl rfl ?_ ?_) <;> intro _ <;> first|(exfalso;omega)|(conv=>whnf))|fail)
     refine W.tells (Abs.tells (rs:=[0,1,2,3,7]) ?_) (hend none (by unfold cpD;rw [if_neg (by omega)]))
     exact ⟨by decide,⟨⟨rfl,rfl⟩,⟨rfl,rfl⟩,⟨rfl,rfl⟩,⟨rfl,rfl⟩,⟨rfl,rfl⟩,trivial⟩,⟨⟨Za6 hcf,by rw [Zac hcf];rfl⟩,⟨rfl,rfl⟩,⟨rfl,rfl⟩,⟨rfl,rfl⟩,⟨Za6 (Zad _),by rw [Zac (Zad _)];rfl⟩,trivial⟩⟩
  ·repeat' (first|(refine Zaa rfl hbl ?_;conv=>whnf)|((first|refine w1 rfl rfl ?_ ?_|refine w4 rfl rfl ?_ ?_|refine w6 rfl rfl ?_ ?_) <;> intro _ <;> first|(exfalso;omega)|(conv=>whnf))|fail)
   all_goals first|(exfalso;omega)|skip
   all_goals
    refine W.seqV hE hm ?_;conv=>whnf
    repeat' (first|((refine w6 rfl rfl ?_ ?_) <;> intro _ <;> first|(exfalso;omega)|(conv=>whnf))|fail)
    refine Zbz ?_;conv=>whnf
    have h1:=h1 (by rw [if_pos rfl,if_neg hr];decide)
    rw [if_pos rfl,if_neg hr] at h1
    exact h1 _
structure DKA where
 d:DK
 a:Int
structure DKA.ok (x:DKA):Prop where
 d:x.d.ok
 a:Zc4 x.a
def DKA.args (x:DKA):List AV:=[x.d.v,.int .i64 x.a]
theorem DKA.inja {x y:DKA}(hx:x.ok) (hy:y.ok) (h:x.args=y.args):x=y:=by
 obtain ⟨d,a⟩:=x
 obtain ⟨d',a'⟩:=y
 have h1:=DK.inj hx.d.a hy.d.a (List.cons.inj h).1
 have h2:=(List.cons.inj (List.cons.inj h).2).1
 injection h2 with _ h2
 dsimp only at h1 h2
 rw [h1,h2]
theorem DKA.hfa {x:DKA}(hx:x.ok):hfs x.args=true:=by
 show (AM.hf x.d.v && (true && true))=true
 rw [DK.hf hx.d.a];rfl
def DKA.e (x:DKA):Int:=Yhe x.d x.a
def DKA.b (x:DKA):List Nat:=Zrc x.d x.a
noncomputable def drdO:Ov:=fun args s=>open Classical in if h:∃ x:DKA,x.ok∧args=x.args then (if (Classical.choose h).e=0 then .ok (.tup [.sl (0+s.next) 0 128 (cpD (Classical.choose h).b),.int .i64 0]) (s.alloc (.row 5 (bys (pad (Classical.choose h).b)))) else .ok (.tup [.nils,.int .i64 (Classical.choose h).e]) s) else .fail
theorem Zqw {x:DKA}(hx:x.ok) (s:St):drdO x.args s=if x.e=0 then .ok (.tup [.sl (0+s.next) 0 128 (cpD x.b),.int .i64 0]) (s.alloc (.row 5 (bys (pad x.b)))) else .ok (.tup [.nils,.int .i64 x.e]) s:=by
 have h:∃ y:DKA,y.ok∧x.args=y.args:=⟨x,hx,rfl⟩
 unfold drdO
 rw [dif_pos h]
 obtain ⟨h1,h2⟩:=Classical.choose_spec h
 rw [← DKA.inja hx h1 h2]
theorem drdO_ok {P:Program}{e:Env}{fn fn':Func}(hE:EnvOk P e) (hm:P.follows .mixedOrders=true) (h101:Con e 101 dskF.O) (h96:Inl e 96 Yc1 [.tmp 4,.tmp 5]) (h139:Inl e 139 Zu2 [.tmp 4]) (h97:Inl e 97 Zw6 [.tmp 2]) (h98:Inl e 98 Zsv [.tmp 2]) (h141:Inl e 141 Zob [.tmp 2])
 (hf':P.funcs[140]?=some fn') (hc':Zaj P fn'=some Yi7) (hb':Zaf P 140) (hf:P.funcs[51]?=some fn) (hc:Zaj P fn=some a51) (hb:Zaf P 51):OvOk P 51 drdO:=by
 refine ⟨hb,fun args s v s' hh=>?_⟩
 have hx0:∃ x:DKA,x.ok∧args=x.args:=by
  unfold drdO at hh
  split at hh
  ·rename_i h;exact h
  ·cases hh
 obtain ⟨x,hx,rfl⟩:=hx0
 rw [Zqw hx] at hh
 have hmain:=fun K=>Zw1 hE hm h101 h96 h139 h97 h98 h141 hf' hc' hb' x.d hx.d x.a hx.a K
 by_cases hG:x.e=0
 ·rw [if_pos hG] at hh
  cases hh
  have key:C P 51 x.args St0 (fun v s'=>v=.tup [.sl 0 0 128 (cpD x.b),.int .i64 0]∧s'=Zai St0 [.row 5 (bys (pad x.b))]):=by
   refine C.abs (C.of_W hf hc (hmain _ (fun _ s r h=>⟨[r],⟨by simp,⟨⟨rfl,rfl⟩,trivial⟩,⟨⟨Za6 (Zad _),by rw [Zac (Zad _)];exact h⟩,trivial⟩⟩⟩) (fun h=>absurd hG h)))
  refine (C.frame (l:=[.row 5 (bys (pad x.b))]) (u:=.tup [.sl 0 0 128 (cpD x.b),.int .i64 0]) (DKA.hfa hx) ?_ ?_ key ?_ s).mono ?_
  ·intro o ho;simp at ho;subst ho;rfl
  ·exact .inl (by simp)
  ·intro i o h
   rcases i with _|i
   ·simp at h;subst h;rfl
   ·simp at h
  ·rintro v s' ⟨rfl,rfl⟩
   refine ⟨rfl,?_⟩
   show Zai s [Zr9 _ (.row 5 (bys (pad x.b)))]=_
   rw [Zac (Zad _)];rfl
 ·rw [if_neg hG] at hh
  cases hh
  exact Zth (DKA.hfa hx) rfl (C.of_W hf hc (hmain _ (fun h=>absurd h hG) (fun _ s=>.plain _ rfl))) s
theorem Zsk {s:St}:∀ {l:List AV},hfs l=true→All2 (Frz s) l l
 | [],_=>.nil
 | v::l,h=>by
  simp only [hfs,Bool.and_eq_true] at h
  exact .cons (.plain _ h.1) (Zsk h.2)
def Zkj (x:DKA):AV:=if x.e=0 then .tup [.fz 128 none (bys (pad x.b)),.int .i64 0] else .tup [.nils,.int .i64 x.e]
def drdF:Fam DKA:=⟨DKA.ok,DKA.args,Zkj,fun x y hx hy h=>by rw [DKA.inja hx hy h]⟩
theorem drdF_ok {P:Program}{e:Env}{fn fn':Func}(hE:EnvOk P e) (hm:P.follows .mixedOrders=true) (h101:Con e 101 dskF.O) (h96:Inl e 96 Yc1 [.tmp 4,.tmp 5]) (h139:Inl e 139 Zu2 [.tmp 4]) (h97:Inl e 97 Zw6 [.tmp 2]) (h98:Inl e 98 Zsv [.tmp 2]) (h141:Inl e 141 Zob [.tmp 2])
 (hf':P.funcs[140]?=some fn') (hc':Zaj P fn'=some Yi7) (hb':Zaf P 140) (hf:P.funcs[51]?=some fn) (hc:Zaj P fn=some a51) (hb:Zaf P 51):OvOk P 51 drdF.O:=by
 refine Zal hb fun x hx=>?_
 have h0:x.e=0→drdF.out x=.tup [.fz 128 none (bys (pad x.b)),.int .i64 0]:=fun h=>by show Zkj x=_;unfold Zkj;rw [if_pos h]
 have h1:x.e≠0→drdF.out x=.tup [.nils,.int .i64 x.e]:=fun h=>by show Zkj x=_;unfold Zkj;rw [if_neg h]
 refine ⟨DKA.hfa hx,by show AM.hf (Zkj x)=true;unfold Zkj;split <;> rfl,C.of_W hf hc (Zw1 hE hm h101 h96 h139 h97 h98 h141 hf' hc' hb' x.d hx.d x.a hx.a _ (fun h s r hg=>?_) (fun h s=>?_))⟩
 ·rw [h0 h]
  exact .tup _ _ (.cons (.sl r 0 128 _ _ _ _ _ _ hg (fun i x h=>by rw [Nat.zero_add];exact h) (Zsk (Zad _)) (.inl rfl)) (.cons (.plain _ rfl) .nil))
 ·rw [h1 h];exact .plain _ rfl
def zB:Option AObj→Bool
 | some (.row 101 [_,_,_,_,.nils])=>true
 | _=>false
noncomputable def Zrb:Ov:=fun args s=>if zB (s.get 4)=true then drdF.O args s else drdO args s
theorem drdV_ok {P:Program}(h1:OvOk P 51 drdF.O) (h2:OvOk P 51 drdO):OvOk P 51 Zrb:=by
 refine ⟨h1.1,fun args s v s' hh=>?_⟩
 unfold Zrb at hh
 by_cases h:zB (s.get 4)=true
 ·rw [if_pos h] at hh;exact h1.2 args s v s' hh
 ·rw [if_neg h] at hh;exact h2.2 args s v s' hh
theorem drdV_fz {x:DKA}(hx:x.ok) {s:St}(h:zB (s.get 4)=true):Zrb x.args s=.ok (Zkj x) s:=by
 unfold Zrb
 rw [if_pos h]
 exact Zkw drdF hx s
theorem Yhd {x:DKA}(hx:x.ok) {s:St}(h:zB (s.get 4)=false) (he:x.e=0):Zrb x.args s=.ok (.tup [.sl (0+s.next) 0 128 (cpD x.b),.int .i64 0]) (s.alloc (.row 5 (bys (pad x.b)))):=by
 unfold Zrb
 rw [if_neg (by rw [h];decide),Zqw hx,if_pos he]
end Go.AM
set_option maxRecDepth 100000
namespace Go.AM
attribute [local irreducible] W
open X
structure CDA where
 c:Cfg
 d:DK
 a:Int
structure CDA.ok (x:CDA):Prop where
 c:x.c.ok
 d:x.d.ok
 a:Zc4 x.a
def CDA.args (x:CDA):List AV:=[x.c.v,x.d.v,.int .i64 x.a]
theorem CDA.inja {x y:CDA}(hx:x.ok) (hy:y.ok) (h:x.args=y.args):x=y:=by
 obtain ⟨c,d,a⟩:=x
 obtain ⟨c',d',a'⟩:=y
 have h0:=Zem (List.cons.inj h).1
 have h1:=DK.inj hx.d.a hy.d.a (List.cons.inj (List.cons.inj h).2).1
 have h2:=(List.cons.inj (List.cons.inj (List.cons.inj h).2).2).1
 injection h2 with _ h2
 dsimp only at h0 h1 h2
 rw [h0,h1,h2]
theorem CDA.hfa {x:CDA}(hx:x.ok):hfs x.args=true:=by
 show (AM.hf x.c.v && (AM.hf x.d.v && (true && true)))=true
 rw [DK.hf hx.d.a];rfl
def Zib (x:CDA):Int:=if x.c.may then (if Zhp x.d=true∧(x.d.us.length:Int)=x.c.log+1 then (if 0≤x.a∧x.a<x.c.log then (if x.d.dead then 40 else 0) else 2) else 8) else 8
def askF:Fam CDA:=⟨CDA.ok,CDA.args,fun x=>if Zib x=0 then .nilp else .fp [.int .i64 (Zib x)],fun x y hx hy h=>by rw [CDA.inja hx hy h]⟩
def code105:AC:=match a105 with|.mk c _=>c
theorem askF_ok {P:Program}{e:Env}{fn:Func}(hE:EnvOk P e) (hm:P.follows .mixedOrders=true) (h104:Con e 104 journalF.O) (h101:Con e 101 dskF.O) (h105:Inl e 105 code105 [.tmp 2]) (hf:P.funcs[65]?=some fn) (hc:Zaj P fn=some a65) (hb:Zaf P 65):OvOk P 65 askF.O:=by
 refine Zal hb fun x hx=>?_
 refine ⟨CDA.hfa hx,by show AM.hf (if Zib x=0 then _ else _)=true;split <;> rfl,C.of_V hE hm hf hc ?_⟩
 have fin0:∀ s,Zib x=0→Frz s .nilp (askF.out x):=fun s h=>by
  show Frz s .nilp (if Zib x=0 then _ else _);rw [if_pos h];exact .plain _ rfl
 have fin1:∀ s r n,Zib x=n→n≠0→s.get r=some (.row 37 [.int .i64 n])→Frz s (.ptr r 0) (askF.out x):=fun s r n h hn hg=>by
  show Frz s (.ptr r 0) (if Zib x=0 then _ else _);rw [if_neg (by rw [h];exact hn),h]
  exact .ptr r 0 _ _ _ _ hg (fun i x h=>by rw [Nat.zero_add];exact h) (.cons (.plain _ rfl) .nil)
 have hdk:=hx.d
 have hcok:=hx.c
 have hbl:=hx.d.a.bl
 have hja:=hx.a
 have hun:=hx.d.n
 obtain ⟨c,d,a⟩:=x
 obtain ⟨id,mb,ch,rw',lg,hd⟩:=c
 dsimp only at hdk hcok hbl hja hun
 have hlg:=hcok.log
 dsimp only at hlg
 unfold Zib at fin0 fin1
 dsimp only at fin0 fin1
 obtain ⟨D,hD⟩:∃ D,D=Zhp d:=⟨_,rfl⟩
 have hDo:dskF.out d=.int .i64 (if D=true then 0 else 8):=by rw [hD];rfl
 rw [← hD] at fin0 fin1
 unfold Zc4 at hja hlg
 obtain ⟨bv,us,bs,wv,ws,dd⟩:=d
 dsimp only at hbl hun fin0 fin1
 show VW P e 0 (match a65 with|.mk c _=>c) (Zax [.agg [.int .u32 id,.int .i64 mb,.int .i64 ch,.int .i64 rw',.int .i64 lg,.int .i64 hd],.agg [bv,wv,.bool dd],.int .i64 a] 0 .lf) St0 none [] _
 conv=>whnf
 by_cases hM:Cfg.may ⟨id,mb,ch,rw',lg,hd⟩
 ·simp only [if_pos hM] at fin0 fin1
  have hM':=hM
  unfold Cfg.may at hM'
  dsimp only at hM'
  refine ESc.fam journalF h104 ⟨id,mb,ch,rw',lg,hd⟩ hcok (u:=.tup [.int .i64 (lg+1),.int .i64 0]) (by simp [journalF,hM]) ?_;conv=>whnf
  repeat' (first|((refine w6 rfl rfl ?_ ?_) <;> intro _ <;> first|(exfalso;omega)|(conv=>whnf))|fail)
  cases D
  ·refine ESc.fam dskF h101 ⟨bv,us,bs,wv,ws,dd⟩ hdk (u:=.int .i64 8) hDo ?_;conv=>whnf
   repeat' (first|(refine ESc.inl h105 ?_;conv=>whnf)|((first|refine w5 rfl rfl ?_ ?_|refine w6 rfl rfl ?_ ?_) <;> intro _ <;> first|(exfalso;omega)|(conv=>whnf))|fail)
   refine fin1 _ _ 8 (by simp) (by decide) ?_
   rfl
  ·refine ESc.fam dskF h101 ⟨bv,us,bs,wv,ws,dd⟩ hdk (u:=.int .i64 0) hDo ?_;conv=>whnf
   simp only [eq_self,true_and] at fin0 fin1
   repeat' (first|(refine Zaa rfl hbl ?_;conv=>whnf)|(refine ESc.inl h105 ?_;conv=>whnf)|((first|refine w1 rfl rfl ?_ ?_|refine w4 rfl rfl ?_ ?_|refine w5 rfl rfl ?_ ?_|refine w6 rfl rfl ?_ ?_) <;> intro _ <;> first|(exfalso;omega)|(conv=>whnf))|(refine w19 rfl ?_ ?_ <;> intro hc <;> (try subst hc) <;> conv=>whnf))
   all_goals first|(exfalso;omega)|skip
   ·refine fin1 _ _ 8 (by rw [if_neg (by omega)]) (by decide) ?_
    rfl
   ·refine fin1 _ _ 2 (by rw [if_pos (by omega),if_neg (by omega)]) (by decide) ?_
    rfl
   ·refine fin1 _ _ 2 (by rw [if_pos (by omega),if_neg (by omega)]) (by decide) ?_
    rfl
   ·refine fin1 _ _ 40 (by rw [if_pos (by omega),if_pos (by omega)];rfl) (by decide) ?_
    rfl
   ·exact fin0 _ (by rw [if_pos (by omega),if_pos (by omega)];rfl)
 ·simp only [if_neg hM] at fin0 fin1
  refine ESc.fam journalF h104 ⟨id,mb,ch,rw',lg,hd⟩ hcok (u:=.tup [.int .i64 0,.int .i64 8]) (by simp [journalF,hM]) ?_;conv=>whnf
  repeat' (first|(refine ESc.inl h105 ?_;conv=>whnf)|((first|refine w5 rfl rfl ?_ ?_|refine w6 rfl rfl ?_ ?_) <;> intro _ <;> first|(exfalso;omega)|(conv=>whnf))|fail)
  refine fin1 _ _ 8 rfl (by decide) ?_
  rfl
end Go.AM
set_option maxRecDepth 100000
namespace Go.AM
attribute [local irreducible] W
open X
def Zjt (l:List Nat):Nat:=(l.map fun n=>8+min n 100000).sum
theorem Znw (l:List Nat) (n:Nat):Zjt (l++[n])=Zjt l+(8+min n 100000):=by unfold Zjt;simp
theorem Zqs:∀ (l:List Nat),Zjt l≤100008*l.length
 | []=>Nat.le_refl _
 | n::l=>by
  have:=Zqs l
  show 8+min n 100000+Zjt l≤100008*(l.length+1)
  omega
theorem Zqr:∀ {l:List Nat}{n:Nat},n ∈ l→min n 100000≤Zjt l
 | [],_,h=>by cases h
 | m::l,n,h=>by
  show min n 100000≤8+min m 100000+Zjt l
  rcases List.mem_cons.1 h with rfl|h
  ·omega
  ·have:=Zqr h;omega
def DK.bl (x:DK):List Nat:=x.bs.map List.length
def DK.wl (x:DK):List Nat:=x.ws.map fun w=>w.b.length
def Zsh (x:DK):Bool:=decide (300<x.us.length) || (decide (1100<x.ws.length) || decide (60000<Zjt (x.bl.take 400)+Zjt (x.wl.take 1200)))
theorem grt4_ok {x:DK}(h:x.any) (hg:Zsh x=false):x.ok:=by
 unfold Zsh at hg
 simp only [Bool.or_eq_false_iff,decide_eq_false_iff_not] at hg
 obtain ⟨h1,h2,h3⟩:=hg
 have hb:=h.bs.length
 have hbl:x.bl.take 400=x.bl:=List.take_of_length_le (by unfold DK.bl;rw [List.length_map];omega)
 have hwl:x.wl.take 1200=x.wl:=List.take_of_length_le (by unfold DK.wl;rw [List.length_map];omega)
 rw [hbl,hwl] at h3
 refine ⟨h,by omega,by omega,fun b hb=>?_,fun w hw=>?_⟩
 ·have:=Zqr (l:=x.bl) (n:=b.length) (List.mem_map_of_mem hb);omega
 ·have:=Zqr (l:=x.wl) (n:=w.b.length) (List.mem_map.2 ⟨w,hw,rfl⟩);omega
def grt4F:Fam DK:=⟨DK.any,fun x=>[x.v],fun x=>.bool (Zsh x),fun x y hx hy h=>by rw [DK.inj hx hy (List.cons.inj h).1]⟩
theorem Ygq {P:Program}{e:Env}{fn:Func}(hE:EnvOk P e) (hm:P.follows .mixedOrders=true) (hf:P.funcs[21]?=some fn) (hc:Zaj P fn=some a21) (hb:Zaf P 21):OvOk P 21 grt4F.O:=by
 refine Zal hb fun x hx=>?_
 refine ⟨by show (AM.hf x.v && true)=true;rw [DK.hf hx];rfl,rfl,C.of_V hE hm hf hc ?_⟩
 have fin:∀ s (b:Bool),b=Zsh x→Frz s (.bool b) (grt4F.out x):=by rintro s b rfl;exact .plain _ rfl
 have hbl:=hx.bl
 have hwl:=hx.wl
 have hbs:=hx.bs
 have hws:=hx.ws
 have hbn:=hx.bs.length
 obtain ⟨O,hO⟩:∃ O,O=grt4F.out x:=⟨_,rfl⟩
 rw [← hO] at fin ⊢
 clear hO
 obtain ⟨BL,hBL⟩:∃ L,L=x.bl:=⟨_,rfl⟩
 obtain ⟨WL,hWL⟩:∃ L,L=x.wl:=⟨_,rfl⟩
 have hBn:BL.length=x.bs.length:=by rw [hBL];unfold DK.bl;rw [List.length_map]
 have hWn:WL.length=x.ws.length:=by rw [hWL];unfold DK.wl;rw [List.length_map]
 have hBg:∀ i (h:i<x.bs.length) (h':i<BL.length),BL[i]=x.bs[i].length:=fun i h h'=>by
  have hq:x.bl[i]?=some x.bs[i].length:=by unfold DK.bl;rw [List.getElem?_map,List.getElem?_eq_getElem h];rfl
  rw [← hBL,List.getElem?_eq_getElem h'] at hq;exact Option.some.inj hq
 have hWg:∀ i (h:i<x.ws.length) (h':i<WL.length),WL[i]=x.ws[i].b.length:=fun i h h'=>by
  have hq:x.wl[i]?=some x.ws[i].b.length:=by unfold DK.wl;rw [List.getElem?_map,List.getElem?_eq_getElem h];rfl
  rw [← hWL,List.getElem?_eq_getElem h'] at hq;exact Option.some.inj hq
 unfold Zsh at fin
 rw [← hBL,← hWL] at fin
 clear hBL hWL hx
 obtain ⟨bv,us,bs,wv,ws,dd⟩:=x
 dsimp only at hbl hwl hbs hws hbn hBn hWn hBg hWg fin
 have hdf:hfs [bv,wv,.bool dd]=true:=by
  show (AM.hf bv && (AM.hf wv && (true && true)))=true
  rw [hbl.hf,hwl.hf];rfl
 show VW P e 0 (match a21 with|.mk c _=>c) (Zax [.agg [bv,wv,.bool dd]] 0 .lf) St0 none [] _
 conv=>whnf
 refine Zbo (α:=Nat) (fun i=>[(1,.ptr 0 0),(3,.int .i64 (Zjt (BL.take i):Nat)),(4,.int .i64 (i:Int))]) (fun _=>[.row 28 [bv,wv,.bool dd]]) (fun i=>us.length-i) (fun i=>i≤us.length∧i≤400) 0 ⟨Nat.zero_le _,Nat.zero_le _⟩
  (Abs.tells (rs:=[0]) ⟨by decide,⟨⟨rfl,rfl⟩,⟨rfl,rfl⟩,⟨rfl,rfl⟩,trivial⟩,⟨⟨Za6 hdf,by rw [Zac hdf];rfl⟩,trivial⟩⟩) ?_
 rintro i ⟨hi,hi4⟩
 refine Zap hE hm ?_
 have hg1:=Zqs (BL.take i)
 rw [List.length_take] at hg1
 by_cases hlt:i<us.length∧i<400
 ·obtain ⟨hl1,hl2⟩:=hlt
  conv=>whnf
  refine Zaa rfl hbl ?_;conv=>whnf
  refine Zab (a:=(i:Int)) (b:=(us.length:Int)) rfl rfl (fun _=>?_) (fun h=>by omega);conv=>whnf
  refine Zab (a:=(i:Int)) (b:=400) rfl rfl (fun _=>?_) (fun h=>by omega);conv=>whnf
  refine Zae rfl hbl rfl hl1 ?_;conv=>whnf
  obtain ⟨b,hb1,hb2⟩:=hbs.get (List.getElem?_eq_getElem hl1)
  have hlb:i<bs.length:=by omega
  have hLB:i<BL.length:=by omega
  have hbe:bs[i]=b:=by rw [List.getElem?_eq_getElem hlb] at hb1;exact Option.some.inj hb1
  have hsucc:((Zjt (BL.take (i+1)):Nat):Int)=(Zjt (BL.take i):Int)+(8+((min b.length 100000:Nat):Int)):=by
   rw [List.take_succ_eq_append_getElem hLB,Znw,hBg i hlb hLB,hbe];omega
  have hug:us[i]?=some us[i]:=List.getElem?_eq_getElem hl1
  revert hb2 hug
  generalize us[i]=u
  intro hb2 hug
  refine EHead.mk (v:=u) (by rw [Nat.mul_one,List.getElem?_drop,Nat.add_zero];exact hug) ?_;conv=>whnf
  refine Zaa rfl hb2.1 ?_;conv=>whnf
  refine EPrim.min2 (a:=(b.length:Int)) (b:=100000) rfl ?_
  rw [show min (b.length:Int) 100000=((min b.length 100000:Nat):Int) by omega]
  conv=>whnf
  repeat' (first|((first|refine w7 rfl rfl (by omega) ?_|refine ⟨rfl,?_⟩);conv=>whnf)|fail)
  exact ⟨i+1,⟨hl1,hl2⟩,by omega,Abs.tells (rs:=[0]) ⟨by decide,⟨⟨rfl,rfl⟩,⟨rfl,by rw [hsucc];rfl⟩,⟨rfl,rfl⟩,trivial⟩,⟨⟨Za6 hdf,by rw [Zac hdf];rfl⟩,trivial⟩⟩⟩
 ·by_cases hl1:i<us.length
  ·conv=>whnf
   refine Zaa rfl hbl ?_;conv=>whnf
   (refine Zab (a:=(i:Int)) (b:=(us.length:Int)) rfl rfl (fun _=>?_) (fun h=>by omega);(conv=>whnf);refine Zab (a:=(i:Int)) (b:=400) rfl rfl (fun _=>by omega) (fun _=>?_))
   have hBt:BL.take i=BL.take 400:=by
    rcases (show i=us.length∨i=400 by omega) with h|h
    ·rw [h,List.take_of_length_le (by omega),List.take_of_length_le (by omega)]
    ·rw [h]
   rw [hBt] at hg1 ⊢
   conv=>whnf
   refine Zbo (α:=Nat) (fun j=>[(1,.ptr 0 0),(3,.int .i64 ((Zjt (BL.take 400):Nat)+(Zjt (WL.take j):Nat))),(5,.int .i64 (j:Int))]) (fun _=>[.row 28 [bv,wv,.bool dd]]) (fun j=>ws.length-j) (fun j=>j≤ws.length∧j≤1200) 0 ⟨Nat.zero_le _,Nat.zero_le _⟩
    (Abs.tells (rs:=[0]) ⟨by decide,⟨⟨rfl,rfl⟩,⟨rfl,by show _=some (AV.int .i64 ((Zjt (BL.take 400):Int)+0));rw [Int.add_zero];rfl⟩,⟨rfl,rfl⟩,trivial⟩,⟨⟨Za6 hdf,by rw [Zac hdf];rfl⟩,trivial⟩⟩) ?_
   rintro j ⟨hj,hj4⟩
   refine Zap hE hm ?_
   have hg2:=Zqs (WL.take j)
   rw [List.length_take] at hg2
   by_cases hjlt:j<ws.length∧j<1200
   ·obtain ⟨hj1,hj2⟩:=hjlt
    have hd:=Zb0 hj1
    have hwa:=hws _ (List.getElem_mem hj1)
    have hLW:j<WL.length:=by omega
    have hsucc:((Zjt (WL.take (j+1)):Nat):Int)=(Zjt (WL.take j):Int)+(8+((min ws[j].b.length 100000:Nat):Int)):=by
     rw [List.take_succ_eq_append_getElem hLW,Znw,hWg j hj1 hLW];omega
    have hall:=And.intro hd (And.intro hwa hsucc)
    clear hd hwa hsucc
    revert hall
    generalize ws[j]=w
    obtain ⟨wa,wu,wb⟩:=w
    rintro ⟨hd,⟨hwa,hwb⟩,hsucc⟩
    have hd:(wrs ws).drop (j*2)=[.int .i64 wa,wu]++wrs (ws.drop (j+1)):=hd
    dsimp only at hwa hwb hsucc
    have hsucc':((Zjt (BL.take 400):Nat):Int)+(Zjt (WL.take (j+1)):Int)=((Zjt (BL.take 400):Nat):Int)+(Zjt (WL.take j):Int)+(8+((min wb.length 100000:Nat):Int)):=by rw [hsucc];omega
    conv=>whnf
    refine Zaa rfl hwl ?_;conv=>whnf
    refine Zab (a:=(j:Int)) (b:=(ws.length:Int)) rfl rfl (fun _=>?_) (fun h=>by omega);conv=>whnf
    refine Zab (a:=(j:Int)) (b:=1200) rfl rfl (fun _=>?_) (fun h=>by omega);conv=>whnf
    refine Zae rfl hwl rfl hj1 ?_
    rw [hd]
    conv=>whnf
    repeat' (first|(refine EHead.mk (v:=wu) rfl ?_;conv=>whnf)|(refine Zaa rfl hwb.1 ?_;conv=>whnf)|fail)
    refine EPrim.min2 (a:=(wb.length:Int)) (b:=100000) rfl ?_
    rw [show min (wb.length:Int) 100000=((min wb.length 100000:Nat):Int) by omega]
    conv=>whnf
    repeat' (first|((first|refine w7 rfl rfl (by omega) ?_|refine ⟨rfl,?_⟩);conv=>whnf)|fail)
    exact ⟨j+1,⟨hj1,hj2⟩,by omega,Abs.tells (rs:=[0]) ⟨by decide,⟨⟨rfl,rfl⟩,⟨rfl,by rw [hsucc'];rfl⟩,⟨rfl,rfl⟩,trivial⟩,⟨⟨Za6 hdf,by rw [Zac hdf];rfl⟩,trivial⟩⟩⟩
   ·have hWt:WL.take j=WL.take 1200:=by
     rcases (show j=ws.length∨j=1200 by omega) with h|h
     ·rw [h,List.take_of_length_le (by omega),List.take_of_length_le (by omega)]
     ·rw [h]
    rw [hWt] at hg2 ⊢
    by_cases hj1:j<ws.length
    ·conv=>whnf
     refine Zaa rfl hwl ?_;conv=>whnf
     (refine Zab (a:=(j:Int)) (b:=(ws.length:Int)) rfl rfl (fun _=>?_) (fun h=>by omega);(conv=>whnf);refine Zab (a:=(j:Int)) (b:=1200) rfl rfl (fun _=>by omega) (fun _=>?_))
     conv=>whnf
     repeat' (first|(refine Zaa rfl hbl ?_;conv=>whnf)|(refine Zaa rfl hwl ?_;conv=>whnf)|((refine w3 rfl rfl ?_ ?_) <;> intro _ <;> first|(exfalso;omega)|(conv=>whnf))|fail)
     all_goals exact fin _ _ (by symm;simp only [Bool.or_eq_true,Bool.or_eq_false_iff,decide_eq_true_eq,decide_eq_false_iff_not];omega)
    ·conv=>whnf
     refine Zaa rfl hwl ?_;conv=>whnf
     (refine Zab (a:=(j:Int)) (b:=(ws.length:Int)) rfl rfl (fun _=>by omega) (fun _=>?_))
     conv=>whnf
     repeat' (first|(refine Zaa rfl hbl ?_;conv=>whnf)|(refine Zaa rfl hwl ?_;conv=>whnf)|((refine w3 rfl rfl ?_ ?_) <;> intro _ <;> first|(exfalso;omega)|(conv=>whnf))|fail)
     all_goals exact fin _ _ (by symm;simp only [Bool.or_eq_true,Bool.or_eq_false_iff,decide_eq_true_eq,decide_eq_false_iff_not];omega)
  ·conv=>whnf
   refine Zaa rfl hbl ?_;conv=>whnf
   (refine Zab (a:=(i:Int)) (b:=(us.length:Int)) rfl rfl (fun _=>by omega) (fun _=>?_))
   have hBt:BL.take i=BL.take 400:=by
    rcases (show i=us.length∨i=400 by omega) with h|h
    ·rw [h,List.take_of_length_le (by omega),List.take_of_length_le (by omega)]
    ·rw [h]
   rw [hBt] at hg1 ⊢
   conv=>whnf
   refine Zbo (α:=Nat) (fun j=>[(1,.ptr 0 0),(3,.int .i64 ((Zjt (BL.take 400):Nat)+(Zjt (WL.take j):Nat))),(5,.int .i64 (j:Int))]) (fun _=>[.row 28 [bv,wv,.bool dd]]) (fun j=>ws.length-j) (fun j=>j≤ws.length∧j≤1200) 0 ⟨Nat.zero_le _,Nat.zero_le _⟩
    (Abs.tells (rs:=[0]) ⟨by decide,⟨⟨rfl,rfl⟩,⟨rfl,by show _=some (AV.int .i64 ((Zjt (BL.take 400):Int)+0));rw [Int.add_zero];rfl⟩,⟨rfl,rfl⟩,trivial⟩,⟨⟨Za6 hdf,by rw [Zac hdf];rfl⟩,trivial⟩⟩) ?_
   rintro j ⟨hj,hj4⟩
   refine Zap hE hm ?_
   have hg2:=Zqs (WL.take j)
   rw [List.length_take] at hg2
   by_cases hjlt:j<ws.length∧j<1200
   ·obtain ⟨hj1,hj2⟩:=hjlt
    have hd:=Zb0 hj1
    have hwa:=hws _ (List.getElem_mem hj1)
    have hLW:j<WL.length:=by omega
    have hsucc:((Zjt (WL.take (j+1)):Nat):Int)=(Zjt (WL.take j):Int)+(8+((min ws[j].b.length 100000:Nat):Int)):=by
     rw [List.take_succ_eq_append_getElem hLW,Znw,hWg j hj1 hLW];omega
    have hall:=And.intro hd (And.intro hwa hsucc)
    clear hd hwa hsucc
    revert hall
    generalize ws[j]=w
    obtain ⟨wa,wu,wb⟩:=w
    rintro ⟨hd,⟨hwa,hwb⟩,hsucc⟩
    have hd:(wrs ws).drop (j*2)=[.int .i64 wa,wu]++wrs (ws.drop (j+1)):=hd
    dsimp only at hwa hwb hsucc
    have hsucc':((Zjt (BL.take 400):Nat):Int)+(Zjt (WL.take (j+1)):Int)=((Zjt (BL.take 400):Nat):Int)+(Zjt (WL.take j):Int)+(8+((min wb.length 100000:Nat):Int)):=by rw [hsucc];omega
    conv=>whnf
    refine Zaa rfl hwl ?_;conv=>whnf
    refine Zab (a:=(j:Int)) (b:=(ws.length:Int)) rfl rfl (fun _=>?_) (fun h=>by omega);conv=>whnf
    refine Zab (a:=(j:Int)) (b:=1200) rfl rfl (fun _=>?_) (fun h=>by omega);conv=>whnf
    refine Zae rfl hwl rfl hj1 ?_
    rw [hd]
    conv=>whnf
    repeat' (first|(refine EHead.mk (v:=wu) rfl ?_;conv=>whnf)|(refine Zaa rfl hwb.1 ?_;conv=>whnf)|fail)
    refine EPrim.min2 (a:=(wb.length:Int)) (b:=100000) rfl ?_
    rw [show min (wb.length:Int) 100000=((min wb.length 100000:Nat):Int) by omega]
    conv=>whnf
    repeat' (first|((first|refine w7 rfl rfl (by omega) ?_|refine ⟨rfl,?_⟩);conv=>whnf)|fail)
    exact ⟨j+1,⟨hj1,hj2⟩,by omega,Abs.tells (rs:=[0]) ⟨by decide,⟨⟨rfl,rfl⟩,⟨rfl,by rw [hsucc'];rfl⟩,⟨rfl,rfl⟩,trivial⟩,⟨⟨Za6 hdf,by rw [Zac hdf];rfl⟩,trivial⟩⟩⟩
   ·have hWt:WL.take j=WL.take 1200:=by
     rcases (show j=ws.length∨j=1200 by omega) with h|h
     ·rw [h,List.take_of_length_le (by omega),List.take_of_length_le (by omega)]
     ·rw [h]
    rw [hWt] at hg2 ⊢
    by_cases hj1:j<ws.length
    ·conv=>whnf
     refine Zaa rfl hwl ?_;conv=>whnf
     (refine Zab (a:=(j:Int)) (b:=(ws.length:Int)) rfl rfl (fun _=>?_) (fun h=>by omega);(conv=>whnf);refine Zab (a:=(j:Int)) (b:=1200) rfl rfl (fun _=>by omega) (fun _=>?_))
     conv=>whnf
     repeat' (first|(refine Zaa rfl hbl ?_;conv=>whnf)|(refine Zaa rfl hwl ?_;conv=>whnf)|((refine w3 rfl rfl ?_ ?_) <;> intro _ <;> first|(exfalso;omega)|(conv=>whnf))|fail)
     all_goals exact fin _ _ (by symm;simp only [Bool.or_eq_true,Bool.or_eq_false_iff,decide_eq_true_eq,decide_eq_false_iff_not];omega)
    ·conv=>whnf
     refine Zaa rfl hwl ?_;conv=>whnf
     (refine Zab (a:=(j:Int)) (b:=(ws.length:Int)) rfl rfl (fun _=>by omega) (fun _=>?_))
     conv=>whnf
     repeat' (first|(refine Zaa rfl hbl ?_;conv=>whnf)|(refine Zaa rfl hwl ?_;conv=>whnf)|((refine w3 rfl rfl ?_ ?_) <;> intro _ <;> first|(exfalso;omega)|(conv=>whnf))|fail)
     all_goals exact fin _ _ (by symm;simp only [Bool.or_eq_true,Bool.or_eq_false_iff,decide_eq_true_eq,decide_eq_false_iff_not];omega)
end Go.AM
