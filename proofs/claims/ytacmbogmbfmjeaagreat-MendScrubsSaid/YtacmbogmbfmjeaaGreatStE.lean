/-
 Functions of the program as the abstract machine reads them, and what is stated of them, checked by the kernel. No conditions.
-/
import Derived.Test.YtacmbogmbfmjeaaGreatStD
set_option linter.unusedVariables false
set_option linter.unusedSimpArgs false
set_option linter.unnecessarySimpa false
set_option maxRecDepth 100000
namespace Go.AM
attribute [local irreducible] W
open X
def Hc (a:Int):List (Int×List Nat)→Option (List Nat)
 | []=>none
 | w::l=>if w.1=a then some w.2 else Hc a l
theorem Tr (a:Int):∀ W:List WR,C5 a W=Hc a (W.map fun w=>(w.at_,w.b))
 | []=>rfl
 | w::W=>by
  show (if w.at_=a then some w.b else C5 a W)=if w.at_=a then some w.b else Hc a (W.map fun w=>(w.at_,w.b))
  rw [Tr a W]
def Bh (x:Dk) (a:Int):List Nat:=As ((Hc a x.2.1.reverse).getD (x.1.getD a.toNat []))
theorem LY {x:Dk}{y:DK}(h:DKof x y) (a:Int):As (Ey y a)=Bh x a:=by
 unfold Ey Ft Bh
 rw [Tr,List.map_reverse,h.w,h.b]
theorem RP {a:Int}{b:List Nat}:∀ {L:List (Int×List Nat)},Hc a L=some b→(a,b) ∈ L
 | [],h=>by cases h
 | w::L,h=>by
  unfold Hc at h
  split at h
  ·cases h;subst_vars;exact List.mem_cons_self
  ·exact List.mem_cons_of_mem _ (RP h)
theorem So {α β:Type}{R:α→β→Prop}:∀ {l:List α}{m:List β},All2 R l m→∀ b ∈ m,∃ a,R a b
 | _,_,.nil,b,h=>by cases h
 | _,_,.cons h1 h2,b,h=>by
  rcases Zkp.1 h with rfl|h
  ·exact ⟨_,h1⟩
  ·exact So h2 b h
variable {l:List AV}
theorem JR {x:Dk}(h:dkC.r x l) (hk:CC x) (a:Int):(Bh x a).length=128∧∀ y ∈ Bh x a,y<256:=by
 obtain ⟨y,hy,-⟩:=Ia h
 obtain ⟨bs,ws,dd⟩:=x
 obtain ⟨-,h1,h2,-⟩:=hk
 have e1:y.bs=bs:=hy.b
 have e2:y.ws.map (fun w=>(w.at_,w.b))=ws:=hy.w
 have key:∀ b:List Nat,(B8 b∧∀ y ∈ b,y<256)→(As b).length=128∧∀ y ∈ As b,y<256:=fun b hb=>by
  unfold As
  split
  ·exact ⟨by simp,fun y hy=>by rw [(List.mem_replicate.1 hy).2];decide⟩
  ·rename_i hne
   refine ⟨?_,hb.2⟩
   rcases hb.1 with h|h
   ·exact absurd (Zkd.1 h) hne
   ·exact h
 refine key _ ?_
 dsimp only
 cases hl:Hc a ws.reverse with
 | some b=>
  have hm:=List.mem_reverse.1 (RP hl)
  refine ⟨(h2 _ hm).2.2,?_⟩
  show ∀ y ∈ b,y<256
  rw [← e2] at hm
  obtain ⟨w,hw,e⟩:=Zkf.1 hm
  cases e
  exact (hy.a.ws w hw).b.2
 | none=>
  show B8 (bs.getD a.toNat [])∧_
  rw [Zj8]
  cases hg:bs[a.toNat]? with
  | none=>exact ⟨.inl rfl,fun y hy=>by cases hy⟩
  | some b=>
   refine ⟨h1 b (Zj1 hg),?_⟩
   show ∀ y ∈ b,y<256
   rw [← e1] at hg
   obtain ⟨u,hb⟩:=So hy.a.bs b (Zj1 hg)
   exact hb.2
def Bw (D:List Dk) (i:Nat):Bool:=(D[i]?.map fun d=>d.2.2).getD false
def AD (D:List Dk) (a:Int) (mm:Nat):Nat→List (List Nat)
 | 0=>[]
 | i+1=>AD D a mm i++(if i=mm then [] else [(D[i]?.map fun d=>Bh d a).getD []])
def HV (D:List Dk) (ms:Int) (i:Nat):Prop:=(i:Int)=ms∨Bw D i=true
open Classical in
noncomputable def Ii (c:Cfg) (D:List Dk) (ms s k:Int):Option (List Nat):=
 if ¬HV D ms (Bp c s k).toNat then some ((D[(Bp c s k).toNat]?.map fun d=>Bh d (s+1)).getD [])
 else if ∀ i<c.members.toNat,i≠(Bp c s k).toNat→¬HV D ms i then some (AA (AD D (s+1) (Bp c s k).toNat c.members.toNat)) else none
noncomputable def D9:Option (List Nat)→AV
 | some b=>.tup [Am b,.bool true]
 | none=>.tup [.nils,.bool false]
def Gl (c:Cfg) (D:List Dk) (s:Int):Prop:=c.may∧C8 c D∧(∀ d ∈ D,¬D2 d)∧0≤s∧s<AG c
noncomputable def offF:Fn (Cfg×List Dk×Int×Int×Int×Unit):=⟨.g cfgC (.v dkC.sl (.v i64C (.v i64C (.v i64C .nil)))),fun x=>Gl x.1 x.2.1 x.2.2.2.1∧0≤x.2.2.2.2.1∧x.2.2.2.2.1<x.1.members,fun x=>D9 (Ii x.1 x.2.1 x.2.2.1 x.2.2.2.1 x.2.2.2.2.1)⟩
variable {c:Cfg}{D:List Dk}{s:Int}{e:Env}{i:Nat}
theorem PK {cs:List AV}(hM:c.may) (hD:C8 c D) (hG:∀ d ∈ D,¬D2 d) (hs:0≤s∧s<AG c) (h175:Con e 175 seenF.O)
 (hn:∀ i,i<D.length→∃ x c l,D[i]?=some x∧dkC.r x c∧cs.drop (i*3)=c++l) (hi:(i:Int)<c.members):
 ∃ x bv wv r,D[i]?=some x∧CC x∧dkC.r x [bv,wv,.bool (Bw D i)]∧cs.drop (i*3)=[bv,wv,.bool (Bw D i)]++r∧∀ (Q:AV→St→Prop) st,Q (Am (Bh x (s+1))) st→ESc e 175 [.agg [bv,wv,.bool (Bw D i)],.int .i64 (s+1)] st Q:=by
 have hl:=hD.1
 have hil:i<D.length:=by omega
 obtain ⟨x,cl,r,hx,hxr,hd⟩:=hn i hil
 obtain ⟨hlen,hk⟩:=hD.2 i hil x hx
 obtain ⟨y,hy,e0⟩:=Ia hxr
 have hok:=Tx hy.a (Bool.eq_false_iff.2 fun q=>hG x (Zj1 hx) (by rw [← PJ hy];exact q))
 have hdk:AN y=true:=by rw [IU hy];exact hk
 have hdead:Bw D i=x.2.2:=by unfold Bw;rw [hx];rfl
 have hus:y.us.length=x.1.length:=by rw [hy.a.bs.length,hy.b]
 have hse:=LY hy (s+1)
 obtain ⟨bs,ws,dd⟩:=x
 obtain ⟨bv,wv,rfl,-,-⟩:=Gm hxr
 rw [Zjn (by omega)] at hlen
 dsimp only at hlen hus hdead
 rw [hdead]
 refine ⟨_,bv,wv,r,hx,hk,hxr,hd,fun Q st k=>?_⟩
 have hyv:y.v=.agg [bv,wv,.bool dd]:=by unfold DK.v;rw [e0]
 rw [← hse] at k
 have:=ESc.fam (e:=e) (k:=Q) (s:=st) seenF h175 ⟨y,s+1⟩ ⟨hok,hdk,by dsimp only;omega⟩ rfl k
 rw [← hyv]
 exact this
def Zdy:AC:=match Nm with|.mk c _=>c
def OR:AC:=match VP with|.mk c _=>c
def O8:AC:=match OR with
 | .seq _ (.seq _ (.seq _ (.seq _ (.seq _ r))))=>r
 | _=>.skip
def Qa (v:AV) (ms s:Int) (mm:Nat) (l:List (List Nat)) (i:Nat):List (Nat×AV):=[(1,v),(2,.int .i64 ms),(3,.int .i64 s),(5,.ptr 0 0),(12,.int .i64 (mm:Int)),(13,match l with|[]=>.nils|b::l=>.sl 1 0 (l.length+1) none),(14,.int .i64 (i:Int))]
def Qb (c:Cfg) (l:List (List Nat)):List AObj:=match l with
 | []=>[.row 24 c.c]
 | b::l=>[.row 24 c.c,.row 76 ((b::l).map Am)]
theorem BO (l:List (List Nat)):hfs (l.map Am)=true:=hfs_iff.2 fun v hv=>by
 obtain ⟨b,_,rfl⟩:=Zkf.1 hv;rfl
theorem Ky {l:List (List Nat)}(h:Dr l) (hl:0<l.length∧l.length≤1000):Ls bytC l (.fz l.length none (l.map Am)):=by
 have e:(l.map fun b=>[Am b]).flatten=l.map Am:=by
  clear h hl
  induction l with
  | nil=>rfl
  | cons x b ih=>rw [Zkv,List.flatten_cons,ih];rfl
 refine ⟨l.map fun b=>[Am b],?_,.inr (.inr ⟨none,by rw [e],by rw [e,Zjm];exact (Zki _).symm⟩),by omega⟩
 refine E3 (by simp) fun i x l' h1 h2=>?_
 rw [Zke,h1] at h2
 cases h2
 have:=h x (Zj1 h1)
 exact ⟨_,rfl,Pv this.1 this.2⟩
theorem Sx (D:List Dk) (a:Int) (mm:Nat):∀ i,(AD D a mm i).length≤i∧i≤(AD D a mm i).length+1∧(i≤mm→(AD D a mm i).length=i)
 | 0=>⟨Zj0 _,by omega,fun _=>rfl⟩
 | i+1=>by
  have:=Sx D a mm i
  unfold AD
  rw [Zjt]
  split <;> simp <;> omega
variable {v:AV}{ms:Int}{K:AV→St→Prop}
theorem Z1 (hE:EM P e) (h79:Con e 79 allF3.O) {mm:Nat}{l:List (List Nat)}(hl:Dr l) (hn:0<l.length∧l.length≤1000) (hk:∀ st,K (.tup [Am (AA l),.bool true]) st):W P 0 none O8 (At (Qa v ms s mm l i)) (Ae St0 (Qb c l)) [] (Bz [.tmp 10,.tmp 11] K):=by
 have hLs:=Ky hl hn
 have hc:∀ (Q:AV→St→Prop) st,Q (Am (AA l)) st→ESc e 79 [.fz l.length none (l.map Am)] st Q:=fun Q st k=>Fn.u (F:=allF3) h79 (l,()) ⟨_,_,rfl,⟨_,rfl,hLs⟩,rfl⟩ hl k
 rcases l with _|⟨b,l⟩
 ·exact absurd hn.1 (by simp)
 refine W.tells (AbsK.frz (n:=1) (e:=76) (cs:=(b::l).map Am) (tl:=[(13,.sl 1 0 (l.length+1) none)]) (os:=[.row 24 c.c]) (rs:=[0,1]) ⟨rfl,by decide,⟨r9,trivial⟩,⟨⟨Ab rfl,by rw [Aa rfl];rfl⟩,⟨Ab (BO _),by rw [Aa (BO _)];rfl⟩,trivial⟩⟩ rfl (BO _) rfl rfl rfl rfl rfl (by show [Cv 1 _ (.row 24 c.c)]=_;rw [D5 rfl])) ?_
 refine F9 hE ?_
 show VW P e 0 O8 (At [(13,.fz (l.length+1) none ((b::l).map Am))]) (Ae St0 [.row 24 c.c]) none [] _
 conv=>whnf
 repeat' (first|(refine hc _ _ ?_;conv=>whnf)|fail)
 exact hk _
theorem Zbz (hE:EM P e) (h79:Con e 79 allF3.O) (h173:Con e 173 (Bx KO)) (h174:Inl e 174 Zdy [.tmp 6]) (h175:Con e 175 seenF.O):OvOk P 129 offF.O:=by
 refine B2 g129.b ?_
 rintro ⟨c,D,ms,s,k,_⟩ _ ⟨_,_,rfl,⟨rfl,hc⟩,v,_,rfl,⟨_,e0,hD⟩,_,_,rfl,⟨e1,-⟩,_,_,rfl,⟨e2,-⟩,_,_,rfl,⟨e3,-⟩,rfl⟩ ⟨⟨hM,hDk,hG,hs⟩,hk⟩
 cases e0
 cases e1
 cases e2
 cases e3
 dsimp only at hM hDk hG hs hk hc hD
 obtain ⟨cs,hs',hl,hn⟩:=hD.nth
 have hvf:=hD.hf
 have hmm:=BJ hM
 have hon:=HO (c:=c) (s:=s) (k:=k) (by unfold Cfg.may at hM;omega)
 have hDl:=hDk.1
 have hM':=hM
 unfold Cfg.may at hM'
 refine ⟨?_,C.of_W g129.f g129.c ?_⟩
 ·show AM.hf (D9 _)=true
  unfold D9;split <;> rfl
 have fin:∀ st o,o=Ii c D ms s k→Frz st (D9 o) (offF.out (c,D,ms,s,k,())):=fun st o h=>by
  subst h;refine .plain _ ?_;unfold D9;split <;> rfl
 generalize offF.out _=O at fin ⊢
 have hco:=fun (Q:AV→St→Prop) st q=>@Zbx e h173 c s k hc hM hs hk st Q q
 unfold Ii at fin
 obtain ⟨mm,hme⟩:∃ mm:Nat,Bp c s k=mm:=⟨(Bp c s k).toNat,by omega⟩
 rw [hme] at fin hco hon
 rw [Int.toNat_natCast] at fin
 obtain ⟨x,bv,wv,r,hx,hxk,hxr,hd,hse⟩:=PK hM hDk hG hs h175 hn (i:=mm) hon.2
 have hml:mm<D.length:=by omega
 show W P 0 none OR (Al [.agg c.c,v,.int .i64 ms,.int .i64 s,.int .i64 k] 0 .lf) St0 [] (Bz [.tmp 10,.tmp 11] _)
 refine Bf hE ?_;conv=>whnf
 refine Bf hE ?_;conv=>whnf
 refine hco _ _ ?_;conv=>whnf
 refine Bf hE ?_
 have hoth:∀ i:Nat,(i:Int)≤c.members→Dr (AD D (s+1) mm i):=by
  intro i
  induction i with
  | zero=>intro _ b hb;cases hb
  | succ i ih=>
   intro hi b hb
   unfold AD at hb
   rcases Zj7.1 hb with hb|hb
   ·exact ih (by omega) b hb
   ·split at hb
    ·cases hb
    ·obtain ⟨y,_,_,_,hy,hyk,hyr,-⟩:=PK hM hDk hG hs h175 hn (i:=i) (by omega)
     rw [hy] at hb
     rw [List.mem_singleton.1 hb]
     exact JR hyr hyk _
 by_cases hlo:HV D ms mm
 ·rw [Zjn (not_not_intro hlo)] at fin
  have hnext:W P 0 none (.seq (.reg [.mk 14 (.mv (.c .nils)) none]) (.seq (match OR with|.seq _ (.seq _ (.seq _ (.seq _ (.seq r _))))=>r|_=>.skip) O8)) (At [(1,v),(2,.int .i64 ms),(3,.int .i64 s),(5,.ptr 0 0),(12,.int .i64 (mm:Int))]) (Ae St0 [.row 24 c.c]) [] (Bz [.tmp 10,.tmp 11] fun u st=>Frz st u O):=by
   refine Bf hE ?_;conv=>whnf
   refine Bf hE ?_;conv=>whnf
   refine A0 hE c.members.toNat (fun i=>Qa v ms s mm (AD D (s+1) mm i) i) (fun i=>Qb c (AD D (s+1) mm i)) (fun i=>∀ j<i,j≠mm→¬HV D ms j) (fun k h=>by omega) (Abs.tells (rs:=[0]) ⟨by decide,⟨t9,r9,r9,r9,r9,r9,r9,trivial⟩,⟨⟨Ab rfl,by rw [Aa rfl];rfl⟩,trivial⟩⟩) ?_
   intro i hi hI
   have hol:=Sx D (s+1) mm i
   have hbl:=hoth i (by omega)
   have hn0:c.members.toNat=i→0<(AD D (s+1) mm i).length∧(AD D (s+1) mm i).length≤1000:=fun h=>by omega
   have hst:=fun (y:Dk) (hy:D[i]?=some y)=>show AD D (s+1) mm (i+1)=AD D (s+1) mm i++(if i=mm then [] else [Bh y (s+1)]) by
    show AD D (s+1) mm i++_=_
    rw [hy];rfl
   have hfin:c.members.toNat=i→∀ st,Frz st (.tup [Am (AA (AD D (s+1) mm i)),.bool true]) O:=fun h st=>fin st (some _) (by
    rw [h,Zjj hI])
   have hrest:=fun (h:c.members.toNat=i)=>Z1 (v:=v) (ms:=ms) (s:=s) (mm:=mm) (i:=i) (c:=c) hE h79 hbl (hn0 h) (K:=fun u st=>Frz st u O) (hfin h)
   clear hfin
   generalize AD D (s+1) mm i=l at *
   by_cases hlt:i<c.members.toNat
   ·obtain ⟨y,bv',wv',r',hy,hyk,hyr,hd',hse'⟩:=PK hM hDk hG hs h175 hn (i:=i) (by omega)
    have hil:i<D.length:=by omega
    have hst:=hst y hy
    by_cases him:i=mm
    ·rw [Zjj him,Zkq] at hst
     have hI':∀ j<i+1,j≠mm→¬HV D ms j:=AK hI fun h=>absurd him h
     rcases l with _|⟨b0,l⟩
     ·conv=>whnf
      repeat' (first|((first|refine w1 rfl rfl ?_ ?_|refine w5 rfl rfl ?_ ?_) <;> intro _ <;> first|(exfalso;omega)|(conv=>whnf))|((first|refine w7 rfl rfl (by omega) ?_|refine ⟨rfl,?_⟩);conv=>whnf)|fail)
      exact ⟨hlt,hI',by rw [hst];exact Abs.tells (rs:=[0]) ⟨by decide,⟨t9,r9,r9,r9,r9,r9,r9,trivial⟩,⟨⟨Ab rfl,by rw [Aa rfl];rfl⟩,trivial⟩⟩⟩
     ·conv=>whnf
      repeat' (first|((first|refine w1 rfl rfl ?_ ?_|refine w5 rfl rfl ?_ ?_) <;> intro _ <;> first|(exfalso;omega)|(conv=>whnf))|((first|refine w7 rfl rfl (by omega) ?_|refine ⟨rfl,?_⟩);conv=>whnf)|fail)
      exact ⟨hlt,hI',by rw [hst];exact Abs.tells (rs:=[0,1]) ⟨by decide,⟨t9,r9,r9,r9,r9,r9,r9,trivial⟩,⟨⟨Ab rfl,by rw [Aa rfl];rfl⟩,⟨Ab (BO _),by rw [Aa (BO _)];rfl⟩,trivial⟩⟩⟩
    ·rw [Zjn him] at hst
     have him':(i:Int)≠mm:=by omega
     by_cases hli:HV D ms i
     ·have hno:∀ st,Frz st (.tup [.nils,.bool false]) O:=fun st=>fin st none (by rw [Zjn fun q=>q i hlt him hli])
      rcases l with _|⟨b0,l⟩
      all_goals
       conv=>whnf
       rcases hli with hli|hli
       ·repeat' (first|(refine ESc.inl h174 ?_;conv=>whnf)|(refine Ai rfl hs' rfl hil hd' ?_;conv=>whnf)|(refine EHead.mk rfl ?_;conv=>whnf)|((first|refine w1 rfl rfl ?_ ?_|refine w5 rfl rfl ?_ ?_) <;> intro _ <;> first|(exfalso;omega)|(conv=>whnf))|fail)
        exact ⟨.inr rfl,_,_,rfl,rfl,hno _⟩
       ·rw [hli] at hd'
        repeat' (first|(refine ESc.inl h174 ?_;conv=>whnf)|(refine Ai rfl hs' rfl hil hd' ?_;conv=>whnf)|(refine EHead.mk rfl ?_;conv=>whnf)|((first|refine w1 rfl rfl ?_ ?_|refine w5 rfl rfl ?_ ?_) <;> intro _ <;> first|(exfalso;omega)|(conv=>whnf))|fail)
        all_goals exact ⟨.inr rfl,_,_,rfl,rfl,hno _⟩
     ·have hI':∀ j<i+1,j≠mm→¬HV D ms j:=AK hI fun _=>hli
      have hne:(i:Int)≠ms:=fun h=>hli (.inl h)
      have hdd:Bw D i=false:=Bool.eq_false_iff.2 fun h=>hli (.inr h)
      rw [hdd] at hd' hse'
      rcases l with _|⟨b0,l⟩
      ·conv=>whnf
       repeat' (first|(refine ESc.inl h174 ?_;conv=>whnf)|(refine Ai rfl hs' rfl hil hd' ?_;conv=>whnf)|(refine EHead.mk rfl ?_;conv=>whnf)|(refine Ay (cs:=[bv',wv',.bool false]) rfl ?_;conv=>whnf)|(refine hse' _ _ ?_;conv=>whnf)|(refine CT (m:=1) rfl rfl rfl rfl (by decide) (by decide) ?_;conv=>whnf)|((first|refine w1 rfl rfl ?_ ?_|refine w5 rfl rfl ?_ ?_) <;> intro _ <;> first|(exfalso;omega)|(conv=>whnf))|((first|refine w7 rfl rfl (by omega) ?_|refine ⟨rfl,?_⟩);conv=>whnf)|fail)
       exact ⟨hlt,hI',by rw [hst];exact Abs.tells (rs:=[0,2]) ⟨by decide,⟨t9,r9,r9,r9,r9,r9,r9,trivial⟩,⟨⟨Ab rfl,by rw [Aa rfl];rfl⟩,⟨Ab rfl,rfl⟩,trivial⟩⟩⟩
      ·have hll:l.length≤100:=by simp only [Zj9] at hol;omega
       conv=>whnf
       repeat' (first|(refine ESc.inl h174 ?_;conv=>whnf)|(refine Ai rfl hs' rfl hil hd' ?_;conv=>whnf)|(refine EHead.mk rfl ?_;conv=>whnf)|(refine Ay (cs:=[bv',wv',.bool false]) rfl ?_;conv=>whnf)|(refine hse' _ _ ?_;conv=>whnf)|(refine Cy (m:=1) (n:=l.length+1) (old:=(b0::l).map Am) rfl rfl rfl rfl (by rw [Zjm];exact (Zki _).symm) rfl (by decide) (by omega) ?_;conv=>whnf)|((first|refine w1 rfl rfl ?_ ?_|refine w5 rfl rfl ?_ ?_) <;> intro _ <;> first|(exfalso;omega)|(conv=>whnf))|((first|refine w7 rfl rfl (by omega) ?_|refine ⟨rfl,?_⟩);conv=>whnf)|fail)
       refine ⟨hlt,hI',?_⟩
       rw [hst]
       refine Abs.tells (rs:=[0,3]) ⟨by decide,⟨t9,r9,r9,r9,r9,⟨rfl,?_⟩,r9,trivial⟩,⟨⟨Ab rfl,by rw [Aa rfl];rfl⟩,⟨Ab (BO _),?_⟩,trivial⟩⟩
       ·show _=some (AV.sl 3 0 ((l++[Bh y (s+1)]).length+1) none)
        rw [Zjt];rfl
       ·show _=some (Ax _ (AObj.row 76 (((b0::l)++[Bh y (s+1)]).map Am)))
        rw [Aa (BO _),Zj4];rfl
   ·have hie:c.members.toNat=i:=by omega
    have hrest:=hrest hie
    rcases l with _|⟨b0,l⟩
    ·exact absurd (hn0 hie).1 (by simp)
    ·conv=>whnf
     repeat' (first|((refine w1 rfl rfl ?_ ?_) <;> intro _ <;> first|(exfalso;omega)|(conv=>whnf))|fail)
     refine W.tells (Abs.tells (tl:=Qa v ms s mm (b0::l) i) (os:=Qb c (b0::l)) (rs:=[0,1]) ⟨by decide,⟨t9,r9,r9,r9,r9,r9,r9,trivial⟩,⟨⟨Ab rfl,by rw [Aa rfl];rfl⟩,⟨Ab (BO _),by rw [Aa (BO _)];rfl⟩,trivial⟩⟩) hrest
  conv=>whnf
  rcases hlo with hlo|hlo
  ·repeat' (first|(refine ESc.inl h174 ?_;conv=>whnf)|(refine Ai rfl hs' rfl hml hd ?_;conv=>whnf)|(refine EHead.mk rfl ?_;conv=>whnf)|((refine w5 rfl rfl ?_ ?_) <;> intro _ <;> first|(exfalso;omega)|(conv=>whnf))|(refine w12 rfl ?_;conv=>whnf)|fail)
   refine W.tells (Abs.tells (tl:=[(1,v),(2,.int .i64 ms),(3,.int .i64 s),(5,.ptr 0 0),(12,.int .i64 (mm:Int))]) (os:=[.row 24 c.c]) (rs:=[0]) ⟨by decide,⟨t9,r9,r9,r9,r9,trivial⟩,⟨⟨Ab rfl,by rw [Aa rfl];rfl⟩,trivial⟩⟩) hnext
  ·rw [hlo] at hd
   repeat' (first|(refine ESc.inl h174 ?_;conv=>whnf)|(refine Ai rfl hs' rfl hml hd ?_;conv=>whnf)|(refine EHead.mk rfl ?_;conv=>whnf)|((refine w5 rfl rfl ?_ ?_) <;> intro _ <;> first|(exfalso;omega)|(conv=>whnf))|(refine w12 rfl ?_;conv=>whnf)|fail)
   all_goals refine W.tells (Abs.tells (tl:=[(1,v),(2,.int .i64 ms),(3,.int .i64 s),(5,.ptr 0 0),(12,.int .i64 (mm:Int))]) (os:=[.row 24 c.c]) (rs:=[0]) ⟨by decide,⟨t9,r9,r9,r9,r9,trivial⟩,⟨⟨Ab rfl,by rw [Aa rfl];rfl⟩,trivial⟩⟩) hnext
 ·rw [Zjj hlo,hx] at fin
  have hne:(mm:Int)≠ms:=fun h=>hlo (.inl h)
  have hdd:Bw D mm=false:=Bool.eq_false_iff.2 fun h=>hlo (.inr h)
  rw [hdd] at hd hse
  conv=>whnf
  repeat' (first|(refine ESc.inl h174 ?_;conv=>whnf)|(refine Ai rfl hs' rfl hml hd ?_;conv=>whnf)|(refine EHead.mk rfl ?_;conv=>whnf)|(refine Ay (cs:=[bv,wv,.bool false]) rfl ?_;conv=>whnf)|(refine hse _ _ ?_;conv=>whnf)|((refine w5 rfl rfl ?_ ?_) <;> intro _ <;> first|(exfalso;omega)|(conv=>whnf))|((first|refine w7 rfl rfl (by omega) ?_|refine w13 rfl ?_);conv=>whnf)|fail)
  exact ⟨.inr rfl,_,_,rfl,rfl,fin _ (some _) rfl⟩
def Zdq:AC:=match Ny with|.mk c _=>c
def Ed:Lo→Int→Int
 | (_,lo,sp,po,_,_,_),s=>if sp=true∧s<po then -1 else lo
noncomputable def Co (d:Dv) (D:List Dk) (s k:Int):Option (List Nat):=Ii d.1 D (Ed d.2.2.1 s) s k
noncomputable def fetF:Fn (Dv×List Dk×Int×Int×Unit):=⟨.g dvC (.v dkC.sl (.v i64C (.v i64C .nil))),fun x=>Gl x.1.1 x.2.1 x.2.2.1∧0≤x.2.2.2.1∧x.2.2.2.1<x.1.1.members,fun x=>D9 (Co x.1 x.2.1 x.2.2.1 x.2.2.2.1)⟩
theorem Zc5 (hE:EM P e) (h129:Con e 129 offF.O) (h130:Inl e 130 Zdq [.tmp 4]):OvOk P 78 fetF.O:=by
 refine B2 g78.b ?_
 rintro ⟨⟨c,bk,⟨ev,lo,sp,po,dn,nl,br⟩,hs,⟨ag,sq,tl,us,L⟩,fs,nx,so⟩,D,s,k,_⟩ _ ⟨_,_,rfl,hd,v,_,rfl,⟨_,e0,hD⟩,_,_,rfl,⟨e1,z1⟩,_,_,rfl,⟨e2,z2⟩,rfl⟩ ⟨hok,hk⟩
 cases e0
 cases e1
 cases e2
 obtain ⟨hv,lv,fv,rfl,⟨ho,o1,o2,o3,o4,o5,o6,o7,o8,oN⟩,hH,hL,hF⟩:=BE hd
 have hvh:∀ o,AM.hf (D9 o)=true:=fun o=>by unfold D9;cases o <;> rfl
 refine ⟨hvh _,C.of_G hE g78 ?_⟩
 have hf:Ad (Ed (ev,lo,sp,po,dn,nl,br) s):=by
  show Ad (if sp=true∧s<po then -1 else lo)
  split
  ·unfold Ad;omega
  ·exact o2
 have hc:=fun (Q:AV→St→Prop) st q=>@Fn.u _ e 129 st Q offF [.agg c.c,v,.int .i64 (Ed (ev,lo,sp,po,dn,nl,br) s),.int .i64 s,.int .i64 k] h129 (c,D,Ed (ev,lo,sp,po,dn,nl,br) s,s,k,()) ⟨_,_,rfl,⟨rfl,ho⟩,_,_,rfl,⟨_,rfl,hD⟩,_,_,rfl,⟨rfl,Bg hf⟩,_,_,rfl,⟨rfl,z1⟩,_,_,rfl,⟨rfl,z2⟩,rfl⟩ ⟨hok,hk⟩ q
 have hout:offF.out (c,D,Ed (ev,lo,sp,po,dn,nl,br) s,s,k,())=fetF.out ((c,bk,(ev,lo,sp,po,dn,nl,br),hs,(ag,sq,tl,us,L),fs,nx,so),D,s,k,()):=rfl
 have fin:∀ st,Frz st (fetF.out ((c,bk,(ev,lo,sp,po,dn,nl,br),hs,(ag,sq,tl,us,L),fs,nx,so),D,s,k,())) (fetF.out ((c,bk,(ev,lo,sp,po,dn,nl,br),hs,(ag,sq,tl,us,L),fs,nx,so),D,s,k,())):=fun st=>.plain _ (hvh _)
 rw [hout] at hc
 have hval:∃ a b,fetF.out ((c,bk,(ev,lo,sp,po,dn,nl,br),hs,(ag,sq,tl,us,L),fs,nx,so),D,s,k,())=.tup [a,b]:=by
  show ∃ a b,D9 _=_
  generalize Co _ _ _ _=o
  cases o <;> exact ⟨_,_,rfl⟩
 obtain ⟨ra,rb,hval⟩:=hval
 rw [hval] at hc fin ⊢
 unfold Ed at hc
 dsimp only at hc
 change VW P e 0 _ (Al [_,v,.int .i64 s,.int .i64 k] 0 .lf) St0 none [] _
 cases sp
 ·rw [Zjn (fun h=>Bool.false_ne_true h.1)] at hc
  conv=>whnf
  repeat' (first|(refine ESc.inl h130 ?_;conv=>whnf)|(refine hc _ _ ?_;conv=>whnf)|(refine ⟨rfl,?_⟩;conv=>whnf)|fail)
  exact fin _
 ·by_cases hp:s<po
  ·rw [Zjj ⟨rfl,hp⟩] at hc
   conv=>whnf
   repeat' (first|(refine ESc.inl h130 ?_;conv=>whnf)|(refine hc _ _ ?_;conv=>whnf)|((refine w1 rfl rfl ?_ ?_) <;> intro _ <;> first|(exfalso;omega)|(conv=>whnf))|(refine ⟨rfl,?_⟩;conv=>whnf)|fail)
   exact fin _
  ·rw [Zjn (fun h=>hp h.2)] at hc
   conv=>whnf
   repeat' (first|(refine ESc.inl h130 ?_;conv=>whnf)|(refine hc _ _ ?_;conv=>whnf)|((refine w1 rfl rfl ?_ ?_) <;> intro _ <;> first|(exfalso;omega)|(conv=>whnf))|(refine ⟨rfl,?_⟩;conv=>whnf)|fail)
   exact fin _
def slC:AV→List AV
 | .fz _ _ l=>l
 | _=>[]
variable {es n:Nat}
theorem Sl.slC (h:Sl es n l v):Go.AM.slC v=l:=by
 rcases h with ⟨rfl,_,rfl⟩|⟨rfl,_,rfl⟩|⟨c,rfl,_⟩ <;> rfl
def Dc (d:Dv) (s k:Int):List Nat:=((d.2.2.2.1[(A6 d.2.2.2.1 s).toNat]?.map fun h=>h.2.1[k.toNat]?.getD []).getD [])
def KS (d:Dv) (s k:Int):Prop:=0≤A6 d.2.2.2.1 s∧(Dc d s k).length≠0
open Classical in
noncomputable def Jz (d:Dv) (D:List Dk) (s k:Int):Option (List Nat):=if KS d s k then some (Dc d s k) else Co d D s k
open Classical in
noncomputable def HT (d:Dv) (l:List AV) (D:List Dk) (s k:Int):AV:=if KS d s k then .tup [(slC ((slC (l.getD 14 .nils)).getD ((A6 d.2.2.2.1 s).toNat*6+1) .nils)).getD k.toNat .nils,.bool true] else D9 (Co d D s k)
def Vf (d:Dv) (D:List Dk) (s k:Int):Prop:=Gl d.1 D s∧BX d.1 d.2.2.2.1∧0≤k∧k<d.1.members
def Jx (args:List AV) (u:AV):Prop:=∃ d l D v s k,args=[.agg l,v,.int .i64 s,.int .i64 k]∧dvC.r d l∧Ls dkC D v∧Ad s∧Ad k∧Vf d D s k∧u=HT d l D s k
theorem Oh {d:Dv}{l:List AV}(hd:dvC.r d l) {s k:Int}(hs:BX d.1 d.2.2.2.1) (hk:0≤k∧k<d.1.members) (hp:0≤A6 d.2.2.2.1 s):∃ (hv:AV) (cs:List AV) (h:Hd) (bv dv:AV) (r xs:List AV) (u:AV) (r':List AV),d.2.2.2.1[(A6 d.2.2.2.1 s).toNat]?=some h∧l.getD 14 .nils=hv∧Sl 6 d.2.2.2.1.length cs hv∧cs.drop ((A6 d.2.2.2.1 s).toNat*6)=[.int .i64 h.1,bv,dv,.int .u8 (h.2.2.2.1:Int),.bool h.2.2.2.2.1,.int .u32 h.2.2.2.2.2]++r∧Sl 1 h.2.1.length xs bv∧xs.drop (k.toNat*1)=u::r'∧k.toNat<h.2.1.length∧Ls Ce.u8 (Dc d s k) u:=by
 obtain ⟨c,bk,⟨ev,lo,sp,po,dn,nl,br⟩,hs',⟨ag,sq,tl,us,L⟩,fs,nx,so⟩:=d
 obtain ⟨hv,lv,fv,rfl,-,hH,-,-⟩:=BE hd
 obtain ⟨cs,h1,hl,hn⟩:=hH.nth
 have hlt:=Gf hs' s
 dsimp only at hs hk hp
 obtain ⟨⟨st,bl,di,ph,de,hq⟩,_,r,hx,hxr,hdr⟩:=hn (A6 hs' s).toNat (by omega)
 obtain ⟨bv,dv,rfl,g1,g2,-⟩:=Cf hxr
 obtain ⟨xs,x1,x2,hn2⟩:=g2.nth
 have hhd:=(hs.1 _ (by omega) _ hx).1
 unfold Di at hhd
 have hbl:=hhd.2.1
 obtain ⟨b,_,r',hb,⟨u,rfl,hu⟩,hd2⟩:=hn2 k.toNat (by omega)
 refine ⟨hv,cs,_,bv,dv,r,xs,u,r',hx,rfl,h1,hdr,x1,hd2,by dsimp only;omega,?_⟩
 unfold Dc
 dsimp only
 rw [hx]
 show Ls Ce.u8 (bl[k.toNat]?.getD []) u
 rw [hb]
 exact hu
theorem VT (hD:C8 c D) (hL:Ls dkC D v) (hi:(i:Int)≤c.members):∃ x l,D[i]?=some x∧dkC.r x l∧CC x:=by
 obtain ⟨cs,-,-,hn⟩:=hL.nth
 have hl:=hD.1
 obtain ⟨x,l,_,hx,hr,-⟩:=hn i (by omega)
 exact ⟨x,l,hx,hr,(hD.2 i (by omega) x hx).2⟩
theorem Ti (hD:C8 c D) (hL:Ls dkC D v) (a:Int) (mm:Nat):∀ i:Nat,(i:Int)≤c.members→Dr (AD D a mm i)
 | 0,_=>fun b hb=>by cases hb
 | i+1,hi=>fun b hb=>by
  unfold AD at hb
  rcases Zj7.1 hb with hb|hb
  ·exact Ti hD hL a mm i (by omega) b hb
  ·split at hb
   ·cases hb
   ·obtain ⟨y,l,hy,hr,hk⟩:=VT hD hL (i:=i) (by omega)
    rw [hy] at hb
    rw [List.mem_singleton.1 hb]
    exact JR hr hk _
variable {b:List Nat}
theorem Tl {k:Int}(hok:Gl c D s) (hL:Ls dkC D v) (h:Ii c D ms s k=some b):b.length=128∧∀ x ∈ b,x<256:=by
 obtain ⟨hM,hD,-,-⟩:=hok
 have hM':=hM
 unfold Cfg.may at hM'
 have hon:=HO (c:=c) (s:=s) (k:=k) (by omega)
 unfold Ii at h
 split at h
 ·obtain ⟨x,l,hx,hr,hk⟩:=VT hD hL (i:=(Bp c s k).toNat) (by omega)
  rw [hx] at h
  cases h
  exact JR hr hk _
 ·split at h
  ·cases h
   exact GR (Ti hD hL _ _ _ (by omega))
  ·cases h
variable {d:Dv}
theorem Zev (h:Con e 43 (Bx Jx)) {k:Int}(hd:dvC.r d l) (hD:Ls dkC D v) (hs:Ad s) (hk:Ad k) (hok:Vf d D s k) (hb:Jz d D s k=some b):∃ u,Ls Ce.u8 b u∧∀ (Q:AV→St→Prop) st,Q (.tup [u,.bool true]) st→ESc e 43 [.agg l,v,.int .i64 s,.int .i64 k] st Q:=by
 have key:∀ u,HT d l D s k=u→∀ (Q:AV→St→Prop) st,Q u st→ESc e 43 [.agg l,v,.int .i64 s,.int .i64 k] st Q:=by
  rintro u rfl Q st hq
  refine ESc.rel h ⟨_,d,l,D,v,s,k,rfl,hd,hD,hs,hk,hok,rfl⟩ ?_
  rintro u ⟨d',l',D',v',s',k',e1,g1,g2,_,_,_,rfl⟩
  injection e1 with e1 e2
  injection e2 with e2 e3
  injection e3 with e3 e4
  injection e4 with e4
  injection e1 with e1
  injection e3 with _ e3
  injection e4 with _ e4
  subst e1 e2 e3 e4
  rw [dvC.inj g1 hd,g2.inj hD]
  exact hq
 unfold HT at key
 unfold Jz at hb
 by_cases hi:KS d s k
 ·rw [Zjj hi] at hb key
  cases hb
  obtain ⟨hv,cs,x,bv,dv,r,xs,u,r',h1,h2,h3,h4,h5,h6,h7,h8⟩:=Oh hd hok.2.1 hok.2.2 hi.1
  refine ⟨u,h8,key _ ?_⟩
  have e1:cs.getD ((A6 d.2.2.2.1 s).toNat*6+1) .nils=bv:=by
   have:(cs.drop ((A6 d.2.2.2.1 s).toNat*6))[1]?=some bv:=by rw [h4];rfl
   rw [Zjq] at this
   rw [Zj8,this];rfl
  have e2:xs.getD k.toNat .nils=u:=by
   have:(xs.drop (k.toNat*1))[0]?=some u:=by rw [h6];rfl
   rw [Zjq,Zki,Zko] at this
   rw [Zj8,this];rfl
  rw [h2,h3.slC,e1,h5.slC,e2]
 ·rw [Zjn hi] at hb key
  rw [hb] at key
  obtain ⟨h1,h2⟩:=Tl hok.1 hD hb
  exact ⟨Am b,Pv h1 h2,key _ rfl⟩
theorem Zh3 (hE:EM P e) (h78:Con e 78 fetF.O) (h80:Inl e 80 K2 [.cells 4 6,.tmp 5]) (h132:Con e 132 hplF.O):OvOk P 43 (Bx Jx):=by
 refine Kh g43.b ?_
 rintro args u ⟨d,l,D,v,s,k,rfl,hd,hD,hs,hk,hok,rfl⟩
 have hvf:=hD.hf
 have hvh:∀ o,AM.hf (D9 o)=true:=fun o=>by unfold D9;cases o <;> rfl
 have hla:hfs [AV.agg l,v,.int .i64 s,.int .i64 k]=true:=by
  show (hfs l && (AM.hf v && (true && (true && true))))=true
  rw [dvC.hf hd,hvf];rfl
 have hc:=fun (Q:AV→St→Prop) st q=>@Fn.u _ e 78 st Q fetF [.agg l,v,.int .i64 s,.int .i64 k] h78 (d,D,s,k,()) ⟨_,_,rfl,hd,_,_,rfl,⟨_,rfl,hD⟩,_,_,rfl,⟨rfl,Bg hs⟩,_,_,rfl,⟨rfl,Bg hk⟩,rfl⟩ ⟨hok.1,hok.2.2⟩ q
 replace hc:∀ (Q:AV→St→Prop) st,Q (D9 (Co d D s k)) st→ESc e 78 [.agg l,v,.int .i64 s,.int .i64 k] st Q:=hc
 have hlt:=Gf d.2.2.2.1 s
 have hcell:=fun hp=>@Oh d l hd s k hok.2.1 hok.2.2 hp
 have hch:∀ hv,Ls hdC d.2.2.2.1 hv→∀ (Q:AV→St→Prop) st,Q (.int .i64 (A6 d.2.2.2.1 s)) st→ESc e 132 [hv,.int .i64 s] st Q:=fun hv hH Q st q=>Fn.u (F:=hplF) h132 (d.2.2.2.1,s,()) ⟨_,_,rfl,⟨_,rfl,hH⟩,_,_,rfl,⟨rfl,Bg hs⟩,rfl⟩ trivial q
 have hval:∃ a b,D9 (Co d D s k)=.tup [a,b]:=by
  generalize Co _ _ _ _=o
  cases o <;> exact ⟨_,_,rfl⟩
 have hvh1:=hvh (Co d D s k)
 obtain ⟨ra,rb,hval⟩:=hval
 by_cases hp:0≤A6 d.2.2.2.1 s
 ·obtain ⟨hv,cs,x,bv,dv,r,xs,u,r',h1,h2,h3,h4,h5,h6,h7,h8⟩:=hcell hp
  have e1:cs.getD ((A6 d.2.2.2.1 s).toNat*6+1) .nils=bv:=by
   have:(cs.drop ((A6 d.2.2.2.1 s).toNat*6))[1]?=some bv:=by rw [h4];rfl
   rw [Zjq] at this
   rw [Zj8,this];rfl
  have e2:xs.getD k.toNat .nils=u:=by
   have:(xs.drop (k.toNat*1))[0]?=some u:=by rw [h6];rfl
   rw [Zjq,Zki,Zko] at this
   rw [Zj8,this];rfl
  have hout:HT d l D s k=if (Dc d s k).length≠0 then .tup [u,.bool true] else .tup [ra,rb]:=by
   unfold HT KS
   rw [h2,h3.slC,e1,h5.slC,e2,hval]
   by_cases hb:(Dc d s k).length≠0
   ·rw [Zjj ⟨hp,hb⟩,Zjj hb]
   ·rw [Zjn (fun q=>hb q.2),Zjn hb]
  have huf:AM.hf u=true:=h8.hf
  obtain ⟨us,hus,hul,-⟩:=h8.nth
  rw [hval] at hc hvh1
  rw [hout]
  generalize Dc d s k=b at *
  refine ⟨hla,?_,C.of_G hE g43 ?_⟩
  ·split
   ·show (AM.hf u && (true && true))=true;rw [huf];rfl
   ·exact hvh1
  have hch:=hch hv
  generalize A6 d.2.2.2.1 s=j at *
  obtain ⟨c,bk,⟨ev,lo,sp,po,dn,nl,br⟩,hs',⟨ag,sq,tl,us',L⟩,fs,nx,so⟩:=d
  obtain ⟨hv',lv,fv,rfl,ho,hH,hL,hF⟩:=BE hd
  have h2:hv'=hv:=h2
  subst h2
  have hch:=hch hH
  obtain ⟨st,bl,di,ph,de,hq⟩:=x
  dsimp only at h3 h4 h5 h7 hlt
  by_cases hb:b.length≠0
  ·rw [Zjj hb]
   conv=>whnf
   repeat' (first|(refine ESc.inl h80 ?_;conv=>whnf)|(refine hch _ _ ?_;conv=>whnf)|(refine Cm rfl h3 rfl (show j=_ by omega) (by omega) h4 ?_;conv=>whnf)|(refine Ay (cs:=[.int .i64 st,bv,dv,.int .u8 (ph:Int),.bool de,.int .u32 hq]) rfl ?_;conv=>whnf)|(refine Cm rfl h5 rfl (show k=_ by have:=hok.2.2.1;omega) h7 h6 ?_;conv=>whnf)|(refine EHead.mk rfl ?_;conv=>whnf)|(refine Ac rfl hus ?_;conv=>whnf)|((first|refine w1 rfl rfl ?_ ?_|refine w3 rfl rfl ?_ ?_) <;> intro _ <;> first|(exfalso;omega)|(conv=>whnf))|fail)
   exact .plain _ (by show (AM.hf u && (true && true))=true;rw [huf];rfl)
  ·rw [Zjn hb]
   conv=>whnf
   repeat' (first|(refine ESc.inl h80 ?_;conv=>whnf)|(refine hch _ _ ?_;conv=>whnf)|(refine hc _ _ ?_;conv=>whnf)|(refine Cm rfl h3 rfl (show j=_ by omega) (by omega) h4 ?_;conv=>whnf)|(refine Ay (cs:=[.int .i64 st,bv,dv,.int .u8 (ph:Int),.bool de,.int .u32 hq]) rfl ?_;conv=>whnf)|(refine Cm rfl h5 rfl (show k=_ by have:=hok.2.2.1;omega) h7 h6 ?_;conv=>whnf)|(refine EHead.mk rfl ?_;conv=>whnf)|(refine Ac rfl hus ?_;conv=>whnf)|((first|refine w1 rfl rfl ?_ ?_|refine w3 rfl rfl ?_ ?_) <;> intro _ <;> first|(exfalso;omega)|(conv=>whnf))|fail)
   exact .plain _ hvh1
 ·have hout:HT d l D s k=.tup [ra,rb]:=by
   unfold HT KS
   rw [Zjn (fun q=>hp q.1),hval]
  rw [hval] at hc hvh1
  rw [hout]
  refine ⟨hla,hvh1,C.of_G hE g43 ?_⟩
  obtain ⟨c,bk,⟨ev,lo,sp,po,dn,nl,br⟩,hs',⟨ag,sq,tl,us',L⟩,fs,nx,so⟩:=d
  obtain ⟨hv',lv,fv,rfl,ho,hH,hL,hF⟩:=BE hd
  have hch:=hch hv' hH
  dsimp only at hch hlt hp
  generalize A6 hs' s=j at *
  conv=>whnf
  repeat' (first|(refine ESc.inl h80 ?_;conv=>whnf)|(refine hch _ _ ?_;conv=>whnf)|(refine hc _ _ ?_;conv=>whnf)|((refine w1 rfl rfl ?_ ?_) <;> intro _ <;> first|(exfalso;omega)|(conv=>whnf))|fail)
  exact .plain _ hvh1
variable {fn:Func}{code:AC}{res:List ARes}
theorem Zho {γ:Type}{S:Sg γ}{ok p:γ→Prop}{f:Nat}(g:GK f fn (.mk code res)) (h:∀ x args,S.r x args→ok x→∀ K:AV→St→Prop,(p x→∀ s,K (.bool true) s)→(¬p x→∀ s,K (.bool false) s)→W P 0 none code (Al args 0 .lf) St0 [] (Bz res K)):OvOk P f (bF S ok p).O:=
 B2 g.b fun x args h1 h2=>⟨rfl,C.of_W g.f g.c (h x args h1 h2 _ (fun q _=>pT q) fun q _=>pF q)⟩
noncomputable def DM (d:Dv) (D:List Dk) (s:Int) (k:Nat):List Nat:=(Co d D s k).getD []
noncomputable def Hp (d:Dv) (D:List Dk) (s:Int) (k:Nat):List Nat:=(Jz d D s k).getD []
noncomputable def Fv (d:Dv) (D:List Dk) (s:Int) (i:Nat):List (List Nat):=(List.range i).map (DM d D s)
noncomputable def Jy (d:Dv) (D:List Dk) (s:Int) (i:Nat):List (List Nat):=(List.range i).map (Hp d D s)
def KB (d:Dv) (D:List Dk) (s:Int):Prop:=(∀ k<d.1.members.toNat,Co d D s (k:Nat)≠none)∧AA (Fv d D s d.1.members.toNat)=En∧(0≤A6 d.2.2.2.1 s→∀ h,d.2.2.2.1[(A6 d.2.2.2.1 s).toNat]?=some h→(∀ k<d.1.members.toNat,(h.2.2.2.1=4∨k+1<d.1.members.toNat∧h.2.2.1[k]?=some false)→(Dc d s k).length≠0→Dc d s k=DM d D s k)∧(h.2.2.2.1≠0→Dc d s ((d.1.members.toNat-1:Nat):Int)=AA (Jy d D s (d.1.members.toNat-1))))
def Uk:AC:=match a33 with|.mk c _=>c
def Mn:AC:=match Uk with
 | .seq _ (.seq _ (.seq _ (.seq _ r)))=>r
 | _=>.skip
variable {x:AO}{t:AT}
theorem TE {p:List AV→Prop}(hx:ev x t=.some v) (hc:cellsOf v=[v]) (hk:p [v]):wO (fill t [(0,1,x)] [.nils]) p:=by
 have h:fill t [(0,1,x)] [.nils]=some [v]:=by
  show (OV.rec none (fun v=>Bool.rec none (Option.rec none (fun z'=>some z') (E1 (cellsOf v) 0 [.nils])) (Nat.beq (AR (cellsOf v)) 1)) (ev x t):Option (List AV))=_
  rw [hx];dsimp only;rw [hc];rfl
 rw [h];exact hk
theorem Ls.cell {α:Type}{C:Ce α}{l:List α}(h:Ls C l v):cellsOf v=[v]:=by
 obtain ⟨cs,_,h,_⟩:=h
 rcases h with ⟨rfl,_⟩|⟨rfl,_⟩|⟨_,rfl,_⟩
 all_goals rfl
def J0 (v:AV) (s m:Int) (n i:Nat):List (Nat×AV):=[(1,v),(2,.int .i64 s),(3,.ptr 0 0),(7,.int .i64 m),(8,match i with|0=>.nils|i+1=>.sl 2 0 (min (i+1) (n-1)) none),(9,match i with|0=>.nils|i+1=>.sl 1 0 (i+1) none),(10,.int .i64 (i:Int))]
def J1 (o:AObj) (T V:Nat→AV) (n i:Nat):List AObj:=match i with
 | 0=>[o]
 | i+1=>[o,.row 76 ((List.range (i+1)).map T),.row 76 ((List.range (min (i+1) (n-1))).map V)]
theorem Gc {T:Nat→AV}{m:Nat}(h:∀ k<m,AM.hf (T k)=true):hfs ((List.range m).map T)=true:=hfs_iff.2 fun v hv=>by
 obtain ⟨k,hk,rfl⟩:=Zkf.1 hv
 exact h k (List.mem_range.1 hk)
theorem JT {T:Nat→AV}{m:Nat}:(List.range (m+1)).map T=(List.range m).map T++[T m]:=by rw [List.range_succ,Zj4];rfl
theorem XO (hE:EM P e) (h78:Con e 78 fetF.O) (h43:Con e 43 (Bx Jx)) (hd:dvC.r d l) (hD:Ls dkC D v) (hs:Ad s) (hok:Gl d.1 D s) (hsh:BX d.1 d.2.2.2.1) (f:¬KB d D s→∀ st,K (.bool false) st)
 (hrest:∀ V:Nat→AV,(∀ k<d.1.members.toNat-1,Ls Ce.u8 (Hp d D s k) (V k))→(∀ k<d.1.members.toNat,Co d D s (k:Nat)≠none)→W P 0 none Mn (At (J0 v s d.1.members d.1.members.toNat d.1.members.toNat)) (Ae St0 (J1 (.row 33 l) (fun k=>Am (DM d D s k)) V d.1.members.toNat d.1.members.toNat)) [] (Bz [.tmp 6] K)):
 W P 0 none Uk (Al [.agg l,v,.int .i64 s] 0 .lf) St0 [] (Bz [.tmp 6] K):=by
 have hvf:=hD.hf
 have hrow:=dvC.hf hd
 have hM:=hok.1
 have hM':=hM
 unfold Cfg.may at hM'
 have hfe:∀ k:Nat,k<d.1.members.toNat→∀ (Q:AV→St→Prop) st,Q (D9 (Co d D s k)) st→ESc e 78 [.agg l,v,.int .i64 s,.int .i64 (k:Int)] st Q:=fun k hk Q st q=>Fn.u (F:=fetF) h78 (d,D,s,(k:Int),()) ⟨_,_,rfl,hd,_,_,rfl,⟨_,rfl,hD⟩,_,_,rfl,⟨rfl,Bg hs⟩,_,_,rfl,⟨rfl,Bg (show Ad (k:Int) by unfold Ad;omega)⟩,rfl⟩ ⟨hok,Zky _,by dsimp only;omega⟩ q
 have hvw:∀ k:Nat,∃ u,k<d.1.members.toNat→Co d D s (k:Nat)≠none→Ls Ce.u8 (Hp d D s k) u∧∀ (Q:AV→St→Prop) st,Q (.tup [u,.bool true]) st→ESc e 43 [.agg l,v,.int .i64 s,.int .i64 (k:Int)] st Q:=fun k=>by
  by_cases h:k<d.1.members.toNat∧Co d D s (k:Nat)≠none
  ·obtain ⟨b,hb⟩:∃ b,Jz d D s k=some b:=by
    unfold Jz
    split
    ·exact ⟨_,rfl⟩
    ·exact Option.ne_none_iff_exists'.1 h.2
   obtain ⟨u,h1,h2⟩:=Zev h43 hd hD hs (show Ad (k:Int) by unfold Ad;omega) ⟨hok,hsh,Zky _,by omega⟩ hb
   exact ⟨u,fun _ _=>⟨by unfold Hp;rw [hb];exact h1,h2⟩⟩
  ·exact ⟨.nils,fun h1 h2=>absurd ⟨h1,h2⟩ h⟩
 obtain ⟨V,hV⟩:=Classical.axiomOfChoice hvw
 have hN:∀ k:Nat,k<d.1.members.toNat→Co d D s (k:Nat)=none→∀ st,K (.bool false) st:=fun k hk h=>f fun q=>q.1 k hk h
 have hthg:∀ k:Nat,Co d D s (k:Nat)≠none→D9 (Co d D s (k:Nat))=.tup [Am (DM d D s k),.bool true]:=fun k h=>by
  obtain ⟨b,hb⟩:=Option.ne_none_iff_exists'.1 h
  unfold DM;rw [hb];rfl
 have hrs:=fun h=>hrest V (fun k hk=>(hV k (by omega) (h k (by omega))).1) h
 have hVce:∀ k,k<d.1.members.toNat→Co d D s (k:Nat)≠none→cellsOf (V k)=[V k]:=fun k h1 h2=>((hV k h1 h2).1).cell
 have hVf:∀ k,k<d.1.members.toNat→Co d D s (k:Nat)≠none→AM.hf (V k)=true:=fun k h1 h2=>((hV k h1 h2).1).hf
 clear hvw f hrest
 generalize DM d D s=T at *
 generalize Co d D s=F at *
 generalize Hp d D s=VG at *
 obtain ⟨c,bk,⟨ev,lo,sp,po,dn,nl,br⟩,hs',⟨ag,sq,tl,us,L⟩,fs,nx,so⟩:=d
 obtain ⟨hv,lv,fv,rfl,-⟩:=BE hd
 dsimp only at *
 refine Bf hE ?_;conv=>whnf
 refine Bf hE ?_;conv=>whnf
 refine Bf hE ?_;conv=>whnf
 refine Bf hE ?_;conv=>whnf
 refine A0 hE c.members.toNat (fun i=>J0 v s c.members c.members.toNat i) (fun i=>J1 (.row 33 (c.c++[.bool bk,.int .u32 ev,.int .i64 lo,.bool sp,.int .i64 po,.int .i64 dn,.bool nl,.bool br,hv,.int .u32 ag,.int .u32 sq,.int .i64 tl,.int .i64 us,lv,fv,.int .i64 nx,.bool so])) (fun k=>Am (T k)) V c.members.toNat i) (fun i=>∀ k<i,F (k:Nat)≠none) (fun k h=>by omega) (Abs.tells (rs:=[0]) ⟨by decide,⟨t9,r9,r9,r9,r9,r9,r9,trivial⟩,⟨⟨Ab hrow,by rw [Aa hrow];rfl⟩,trivial⟩⟩) ?_
 intro i hi hI
 by_cases hlt:i<c.members.toNat
 ·have hfe:=hfe i hlt
  cases hF:F (i:Nat) with
  | none=>
   rw [hF] at hfe
   have hfe:∀ (Q:AV→St→Prop) st,Q (.tup [.nils,.bool false]) st→ESc e 78 _ st Q:=hfe
   rcases i with _|i
   all_goals
    conv=>whnf
    repeat' (first|(refine hfe _ _ ?_;conv=>whnf)|((refine w1 rfl rfl ?_ ?_) <;> intro _ <;> first|(exfalso;omega)|(conv=>whnf))|(refine w13 rfl ?_;conv=>whnf)|fail)
    exact ⟨.inr rfl,_,_,rfl,rfl,hN _ hlt hF _⟩
  | some b=>
   have hne:F (i:Nat)≠none:=by rw [hF];exact fun h=>nomatch h
   rw [hthg i hne] at hfe
   have hcv:=(hV i hlt hne).2
   have hvh:=hVf i hlt hne
   have hI':=AK hI hne
   have hVfa:∀ k<i+1,AM.hf (V k)=true:=fun k h=>hVf k (by omega) (hI' k h)
   have hVc:=hVce i hlt hne
   have hTf:hfs ((List.range (i+1)).map fun k=>Am (T k))=true:=Gc fun k _=>rfl
   rcases i with _|j
   ·have hmn:min (0+1) (c.members.toNat-1)=1:=by omega
    conv=>whnf
    repeat' (first|(refine hfe _ _ ?_;conv=>whnf)|(refine hcv _ _ ?_;conv=>whnf)|(refine TE rfl hVc ?_;conv=>whnf)|(refine CT (m:=1) rfl rfl rfl rfl (by decide) (by decide) ?_;conv=>whnf)|((refine w1 rfl rfl ?_ ?_) <;> intro _ <;> first|(exfalso;omega)|(conv=>whnf))|((first|refine w7 rfl rfl (by omega) ?_|refine w8 rfl rfl (by omega) ?_|refine w12 rfl ?_|refine ⟨rfl,?_⟩);conv=>whnf)|fail)
    ·refine ⟨hlt,hI',Abs.tells (rs:=[0,2,4]) ?_⟩
     have hv0:hfs ((List.range (min (0+1) (c.members.toNat-1))).map V)=true:=by rw [hmn];exact Gc hVfa
     unfold J0 J1
     dsimp only
     rw [hmn] at hv0 ⊢
     exact ⟨by decide,⟨t9,r9,r9,r9,r9,r9,r9,trivial⟩,⟨⟨Ab hrow,by rw [Aa hrow];rfl⟩,⟨Ab rfl,rfl⟩,⟨Ab hv0,by rw [Aa hv0];rfl⟩,trivial⟩⟩
    all_goals (exfalso;omega)
   ·have ht1:∀ a,J0 v s c.members c.members.toNat (a+1)=[(1,v),(2,.int .i64 s),(3,.ptr 0 0),(7,.int .i64 c.members),(8,.sl 2 0 (min (a+1) (c.members.toNat-1)) none),(9,.sl 1 0 (a+1) none),(10,.int .i64 ((a+1:Nat):Int))]:=fun a=>rfl
    have ht2:∀ o T V a,J1 o T V c.members.toNat (a+1)=[o,.row 76 ((List.range (a+1)).map T),.row 76 ((List.range (min (a+1) (c.members.toNat-1))).map V)]:=fun o T V a=>rfl
    have hTf':hfs (((List.range (j+1)).map fun k=>Am (T k))++[Am (T (j+1))])=true:=by rw [JT] at hTf;exact hTf
    rw [ht1,ht1,ht2,ht2]
    rw [JT (m:=j+1) (T:=fun k=>Am (T k))]
    by_cases hjl:j+1<c.members.toNat-1
    ·have hm1:min (j+1) (c.members.toNat-1)=j+1:=by omega
     have hm2:min (j+1+1) (c.members.toNat-1)=j+1+1:=by omega
     have hjl':((j+1:Nat):Int)<c.members-1:=by omega
     have hVf':hfs (((List.range (j+1)).map V)++[V (j+1)])=true:=by rw [← JT];exact Gc hVfa
     rw [hm1,hm2,JT (m:=j+1) (T:=V)]
     conv=>whnf
     repeat' (first|(refine hfe _ _ ?_;conv=>whnf)|(refine hcv _ _ ?_;conv=>whnf)|(refine TE rfl hVc ?_;conv=>whnf)|(refine Cy (m:=1) (n:=j+1) (old:=(List.range (j+1)).map fun k=>Am (T k)) rfl rfl rfl rfl (by rw [Zjm,List.length_range];exact (Zki _).symm) rfl (by decide) (by omega) ?_;conv=>whnf)|(refine Cy (m:=1) (n:=j+1) (old:=(List.range (j+1)).map V) rfl rfl rfl rfl (by rw [Zjm,List.length_range];exact (Zki _).symm) rfl (by decide) (by omega) ?_;conv=>whnf)|((refine w1 rfl rfl ?_ ?_) <;> intro _ <;> first|(exfalso;omega)|(conv=>whnf))|((first|refine w7 rfl rfl (by omega) ?_|refine w8 rfl rfl (by omega) ?_|refine w12 rfl ?_|refine ⟨rfl,?_⟩);conv=>whnf)|fail)
     exact ⟨hlt,hI',Abs.tells (rs:=[0,4,6]) ⟨by decide,⟨t9,r9,r9,r9,r9,r9,r9,trivial⟩,⟨⟨Ab hrow,by rw [Aa hrow];rfl⟩,⟨Ab hTf',by rw [Aa hTf'];rfl⟩,⟨Ab hVf',by rw [Aa hVf'];rfl⟩,trivial⟩⟩⟩
    ·have hm1:min (j+1) (c.members.toNat-1)=j+1:=by omega
     have hm2:min (j+1+1) (c.members.toNat-1)=j+1:=by omega
     have hjl':¬((j+1:Nat):Int)<c.members-1:=by omega
     have hVf':hfs ((List.range (j+1)).map V)=true:=Gc fun k h=>hVfa k (by omega)
     rw [hm1,hm2]
     conv=>whnf
     repeat' (first|(refine hfe _ _ ?_;conv=>whnf)|(refine Cy (m:=1) (n:=j+1) (old:=(List.range (j+1)).map fun k=>Am (T k)) rfl rfl rfl rfl (by rw [Zjm,List.length_range];exact (Zki _).symm) rfl (by decide) (by omega) ?_;conv=>whnf)|((refine w1 rfl rfl ?_ ?_) <;> intro _ <;> first|(exfalso;omega)|(conv=>whnf))|((first|refine w7 rfl rfl (by omega) ?_|refine w8 rfl rfl (by omega) ?_|refine w12 rfl ?_|refine ⟨rfl,?_⟩);conv=>whnf)|fail)
     exact ⟨hlt,hI',Abs.tells (rs:=[0,4,2]) ⟨by decide,⟨t9,r9,r9,r9,r9,r9,r9,trivial⟩,⟨⟨Ab hrow,by rw [Aa hrow];rfl⟩,⟨Ab hTf',by rw [Aa hTf'];rfl⟩,⟨Ab hVf',by rw [Aa hVf'];rfl⟩,trivial⟩⟩⟩
 ·have hn3:3≤c.members.toNat:=by omega
  obtain rfl:i=c.members.toNat:=by omega
  have hrest:=hrs hI
  have hTf:hfs ((List.range c.members.toNat).map fun k=>Am (T k))=true:=Gc fun k _=>rfl
  have hVf':hfs ((List.range (min c.members.toNat (c.members.toNat-1))).map V)=true:=Gc fun k h=>hVf k (by omega) (hI k (by omega))
  clear hrs
  have hNN:c.members≤(c.members.toNat:Int):=by omega
  generalize c.members.toNat=N at *
  rcases N with _|N
  ·omega
  ·conv=>whnf
   repeat' (first|((refine w1 rfl rfl ?_ ?_) <;> intro _ <;> first|(exfalso;omega)|(conv=>whnf))|fail)
   refine W.tells (Abs.tells (tl:=J0 v s c.members (N+1) (N+1)) (os:=J1 (.row 33 (c.c++[.bool bk,.int .u32 ev,.int .i64 lo,.bool sp,.int .i64 po,.int .i64 dn,.bool nl,.bool br,hv,.int .u32 ag,.int .u32 sq,.int .i64 tl,.int .i64 us,lv,fv,.int .i64 nx,.bool so])) (fun k=>Am (T k)) V (N+1) (N+1)) (rs:=[0,1,2]) ⟨by decide,⟨t9,r9,r9,r9,r9,r9,r9,trivial⟩,⟨⟨Ab hrow,by rw [Aa hrow];rfl⟩,⟨Ab hTf,by rw [Aa hTf];rfl⟩,⟨Ab hVf',by rw [Aa hVf'];rfl⟩,trivial⟩⟩) hrest
theorem Sh:∀ {bs:List Nat},(∀ b ∈ bs,b<256)→Ek (Aj bs)=some bs
 | [],_=>rfl
 | b::bs,h=>by
  show (Bool.rec none (Option.rec none (fun r=>some (b::r)) (Ek (Aj bs))) (Nat.blt b 256):Option (List Nat))=_
  rw [Sh (fun x hx=>h x (by simp [hx])),show Nat.blt b 256=true by simpa using h b (by simp)]
variable {k:AV→St→Prop}
theorem XH {s:St}{r:Nat}{c:Option Nat}{bs:List Nat}(hx:ev x t=.some (.sl r 0 n c)) (hl:load r 0 n s=some (Aj bs)) (hb:∀ b ∈ bs,b<256) (hk:k (.str bs) s):EPrim (.b2s x) t s k:=by
 refine EPrim.mk (v:=.str bs) (s':=s) (fun e rec=>?_) hk
 show wth x t _=_;unfold wth;rw [hx]
 show (Option.rec .fail (fun cs=>Option.rec .fail (fun l=>.ok (.str l) s) (Ek cs)) (load r 0 n s):RV)=_
 rw [hl]
 show (Option.rec .fail (fun l=>.ok (.str l) s) (Ek (Aj bs)):RV)=_
 rw [Sh hb]
variable {B:List AV}{m:Int}
theorem Zj {A:List AV}{i:Int}{a b:Nat}(hl:hfs l=true) (hA:hfs A=true) (hB:hfs B=true) (hv:AM.hf v=true):Tells P 0 (At [(1,v),(2,.int .i64 s),(3,.ptr 0 0),(7,.int .i64 m),(8,.sl 2 0 b none),(9,.sl 1 0 a none),(10,.int .i64 i)]) (Ae St0 [.row 33 l,.row 76 A,.row 76 B]) [] (At [(1,v),(2,.int .i64 s),(3,.ptr 0 0),(7,.int .i64 m),(8,.fz b none B),(9,.fz a none A)]) (Ae St0 [.row 33 l]) []:=by
 refine Tells.trans (AbsK.frz (n:=2) (e:=76) (cs:=B) (tl:=[(1,v),(2,.int .i64 s),(3,.ptr 0 0),(7,.int .i64 m),(8,.sl 2 0 b none),(9,.sl 1 0 a none)]) (tl2:=[(1,v),(2,.int .i64 s),(3,.ptr 0 0),(7,.int .i64 m),(8,.fz b none B),(9,.sl 1 0 a none)]) (os:=[.row 33 l,.row 76 A]) (os2:=[.row 33 l,.row 76 A]) (rs:=[0,1,2]) ⟨rfl,by decide,⟨t9,r9,r9,r9,r9,r9,trivial⟩,⟨⟨Ab hl,by rw [Aa hl];rfl⟩,⟨Ab hA,by rw [Aa hA];rfl⟩,⟨Ab hB,by rw [Aa hB];rfl⟩,trivial⟩⟩ rfl hB rfl rfl rfl rfl ?_ ?_) ?_
 ·show [(1,Dd 2 _ v),_,_,_,_,_]=_
  rw [HF v hv];rfl
 ·show [Cv 2 _ (.row 33 l),Cv 2 _ (.row 76 A)]=_
  rw [D5 hl,D5 hA]
 ·refine AbsK.frz (n:=1) (e:=76) (cs:=A) (tl:=[(1,v),(2,.int .i64 s),(3,.ptr 0 0),(7,.int .i64 m),(8,.fz b none B),(9,.sl 1 0 a none)]) (os:=[.row 33 l]) (rs:=[0,1]) ⟨rfl,by decide,⟨t9,r9,r9,r9,t9 (h:=rfl),r9,trivial⟩,⟨⟨Ab hl,by rw [Aa hl];rfl⟩,⟨Ab hA,by rw [Aa hA];rfl⟩,trivial⟩⟩ rfl hA rfl rfl rfl rfl ?_ ?_
  ·show [(1,Dd 1 _ v),_,_,_,_,_]=_
   rw [HF v hv];rfl
  ·show [Cv 1 _ (.row 33 l)]=_
   rw [D5 hl]
def O7:AC:=match Mn with
 | .seq _ r=>r
 | _=>.skip
def J2 (v:AV) (s m:Int) (B:List AV) (L:List (List Nat)):List (Nat×AV):=[(1,v),(2,.int .i64 s),(3,.ptr 0 0),(7,.int .i64 m),(8,.fz B.length none B),(9,.fz L.length none (L.map Am))]
variable {L:List (List Nat)}
theorem XM (hE:EM P e) (h79:Con e 79 allF3.O) (hl:hfs l=true) (hv:AM.hf v=true) (hL:Dr L) (hn:0<L.length∧L.length≤1000) (f:AA L≠En→∀ st,K (.bool false) st) (hrest:AA L=En→W P 0 none O7 (At (J2 v s m B L)) (Ae St0 [.row 33 l]) [] (Bz [.tmp 6] K)):W P 0 none Mn (At (J2 v s m B L)) (Ae St0 [.row 33 l]) [] (Bz [.tmp 6] K):=by
 have hLs:=Ky hL hn
 have hc:∀ (Q:AV→St→Prop) st,Q (Am (AA L)) st→ESc e 79 [.fz L.length none (L.map Am)] st Q:=fun Q st k=>Fn.u (F:=allF3) h79 (L,()) ⟨_,_,rfl,⟨_,rfl,hLs⟩,rfl⟩ hL k
 have hax:=GR hL
 have hzb:∀ b ∈ En,b<256:=fun b hb=>by rw [(List.mem_replicate.1 hb).2];decide
 have hsl:Sl 1 128 (Aj (AA L)) (Am (AA L)):=.inr (.inr ⟨_,rfl,by rw [show (Aj (AA L)).length=(AA L).length from Zjm ..];exact hax.1⟩)
 refine Bf hE ?_;conv=>whnf
 refine JI (n:=127) rfl rfl (by decide) ?_;conv=>whnf
 repeat' (first|(refine XH (bs:=En) rfl rfl hzb ?_;conv=>whnf)|(refine hc _ _ ?_;conv=>whnf)|(refine EY rfl hsl hax.2 ?_;conv=>whnf)|(refine NE rfl rfl (fun hne=>?_) (fun heq=>?_) <;> conv=>whnf)|(refine ⟨rfl,?_⟩;conv=>whnf)|fail)
 ·exact ⟨.inr rfl,_,_,rfl,rfl,f hne _⟩
 ·exact W.tells (Abs.tells (tl:=J2 v s m B L) (os:=[.row 33 l]) (rs:=[0]) ⟨by decide,⟨t9,r9,r9,r9,t9 (h:=rfl),t9 (h:=rfl),trivial⟩,⟨⟨Ab hl,by rw [Aa hl];rfl⟩,trivial⟩⟩) (hrest heq)
def Kg:AC:=match O7 with
 | .seq _ r=>r
 | _=>.skip
def O6:AC:=match Kg with
 | .seq _ r=>r
 | _=>.skip
def Ef (m:Int) (B:List AV) (L:List (List Nat)) (k:Bool):List (Nat×AV):=[(7,.int .i64 m),(8,.fz B.length none B),(9,.fz L.length none (L.map Am)),(15,.ptr 1 0),(16,.bool k)]
def tdI (m:Int) (B:List AV) (L:List (List Nat)) (k:Bool) (i:Nat):List (Nat×AV):=[(7,.int .i64 m),(8,.fz B.length none B),(9,.fz L.length none (L.map Am)),(15,.ptr 1 0),(16,.bool k),(17,.int .i64 (i:Int))]
theorem XN (hE:EM P e) {hc:List AV}(hl:hfs l=true) (hh:hfs hc=true) (t:∀ st,K (.bool true) st):W P 0 none Kg (At (Ef m B L false)) (Ae St0 [.row 33 l,.row 55 hc]) [] (Bz [.tmp 6] K):=by
 refine Bf hE ?_;conv=>whnf
 refine A0 hE 0 (fun i=>tdI m B L false i) (fun i=>[.row 33 l,.row 55 hc]) (fun _=>True) trivial (Abs.tells (rs:=[0,1]) ⟨by decide,⟨r9,t9 (h:=rfl),t9 (h:=rfl),r9,r9,r9,trivial⟩,⟨⟨Ab hl,by rw [Aa hl];rfl⟩,⟨Ab hh,by rw [Aa hh];rfl⟩,trivial⟩⟩) ?_
 intro i hi _
 obtain rfl:i=0:=by omega
 conv=>whnf
 skip
 refine F9 hE ?_;conv=>whnf
 repeat' (first|(refine w13 rfl ?_;conv=>whnf)|fail)
 exact t _
theorem Ls.by (h:Ls Ce.u8 b v):Sl 1 b.length (Aj b) v∧∀ x ∈ b,x<256:=by
 obtain ⟨ls,h1,h2,_⟩:=h
 have:=OM h1
 rw [this.1] at h2
 exact ⟨h2,this.2⟩
def HQ (bl:List (List Nat)) (di:List Bool) (ph n:Nat) (L:List (List Nat)) (k:Nat):Prop:=(ph=4∨k+1<n∧di[k]?=some false)→(bl[k]?.getD []).length≠0→bl[k]?.getD []=L[k]?.getD []
variable {bl:List (List Nat)}{st sq:Int}{ph:Nat}{de:Bool}{bv dv:AV}
theorem WO (hE:EM P e) {di:List Bool}(hl:hfs l=true) (hm:m=(n:Int)) (hn:3≤n∧n≤16) (hL:Dr L) (hLn:L.length=n) (hbv:Ls bytC bl bv) (hdv:Ls Ce.bool di dv) (hbl:bl.length=n) (hdi:di.length+1=n) (f:∀ k<n,¬HQ bl di ph n L k→∀ st,K (.bool false) st) (hrest:(∀ k<n,HQ bl di ph n L k)→W P 0 none O6 (At (Ef m B L true)) (Ae St0 [.row 33 l,.row 55 [.int .i64 st,bv,dv,.int .u8 (ph:Int),.bool de,.int .u32 sq]]) [] (Bz [.tmp 6] K)):W P 0 none Kg (At (Ef m B L true)) (Ae St0 [.row 33 l,.row 55 [.int .i64 st,bv,dv,.int .u8 (ph:Int),.bool de,.int .u32 sq]]) [] (Bz [.tmp 6] K):=by
 have hbf:=hbv.hf
 have hdf:=hdv.hf
 have hh:hfs [.int .i64 st,bv,dv,.int .u8 (ph:Int),.bool de,.int .u32 sq]=true:=by
  show (true && (AM.hf bv && (AM.hf dv && (true && (true && (true && true))))))=true
  rw [hbf,hdf];rfl
 obtain ⟨bs,b1,b2,bn⟩:=hbv.nth
 obtain ⟨ds,d1,d2,dn⟩:=hdv.nth
 obtain ⟨xs,x1,x2,xn⟩:=(Ky hL (by omega)).nth
 refine Bf hE ?_;conv=>whnf
 refine A0 hE n (fun i=>tdI m B L true i) (fun i=>[.row 33 l,.row 55 [.int .i64 st,bv,dv,.int .u8 (ph:Int),.bool de,.int .u32 sq]]) (fun i=>∀ k<i,HQ bl di ph n L k) (fun k h=>by omega) (Abs.tells (rs:=[0,1]) ⟨by decide,⟨r9,t9 (h:=rfl),t9 (h:=rfl),r9,r9,r9,trivial⟩,⟨⟨Ab hl,by rw [Aa hl];rfl⟩,⟨Ab hh,by rw [Aa hh];rfl⟩,trivial⟩⟩) ?_
 intro i hi hI
 by_cases hlt:i<n
 ·obtain ⟨b,_,br,hb,⟨bu,rfl,hbu⟩,hbd⟩:=bn i (by omega)
  obtain ⟨x,_,xr,hx,⟨xu,rfl,hxu⟩,hxd⟩:=xn i (by omega)
  obtain ⟨hbs,hb256⟩:=hbu.by
  obtain ⟨hxs,hx256⟩:=hxu.by
  have hbuf:=hbu.hf
  have hcl:HQ bl di ph n L i↔((ph=4∨i+1<n∧di[i]?=some false)→b.length≠0→b=x):=by
   unfold HQ;rw [hb,hx];rfl
  have hf:=fun h=>f i hlt (mt hcl.1 h)
  have hst:=fun h=>AK hI (hcl.2 h)
  have hmi:(i:Int)<m:=by omega
  by_cases hil:i+1<n
  ·obtain ⟨dd,_,dr,hd,rfl,hdd⟩:=dn i (by omega)
   rw [hd] at hf hst
   simp only [hil,true_and,Option.some.injEq] at hf hst
   have hil':(i:Int)<m-1:=by omega
   rcases dd with _|_
   all_goals
    conv=>whnf
    repeat' (first|(refine Ai rfl b1 rfl (by omega) hbd ?_;conv=>whnf)|(refine Ai rfl d1 rfl (by omega) hdd ?_;conv=>whnf)|(refine Ai rfl x1 rfl (by omega) hxd ?_;conv=>whnf)|(refine EHead.mk rfl ?_;conv=>whnf)|(refine Ac rfl hbs ?_;conv=>whnf)|(refine EY rfl hbs hb256 ?_;conv=>whnf)|(refine EY rfl hxs hx256 ?_;conv=>whnf)|(refine NE rfl rfl (fun hne=>?_) (fun heq=>?_) <;> conv=>whnf)|((first|refine w1 rfl rfl ?_ ?_|refine w3 rfl rfl ?_ ?_|refine w5 rfl rfl ?_ ?_) <;> intro _ <;> first|(exfalso;omega)|(conv=>whnf))|((first|refine w7 rfl rfl (by omega) ?_|refine w8 rfl rfl (by omega) ?_|refine w12 rfl ?_|refine w13 rfl ?_|refine ⟨rfl,?_⟩);conv=>whnf)|fail)
    all_goals first
     | exact ⟨.inr rfl,_,_,rfl,rfl,hf (fun q=>hne (q (by first|exact .inl (by omega)|exact .inr rfl) (by omega))) _⟩
     | exact ⟨hlt,hst (fun h1 h2=>by first|assumption|(exfalso;rcases h1 with h1|h1 <;> first|omega|cases h1|exact hil h1.1)),Abs.tells (rs:=[0,1]) ⟨by decide,⟨r9,t9 (h:=rfl),t9 (h:=rfl),r9,r9,r9,trivial⟩,⟨⟨Ab hl,by rw [Aa hl];rfl⟩,⟨Ab hh,by rw [Aa hh];rfl⟩,trivial⟩⟩⟩
  ·have hil':¬(i:Int)<m-1:=by omega
   conv=>whnf
   repeat' (first|(refine Ai rfl b1 rfl (by omega) hbd ?_;conv=>whnf)|(refine Ai rfl x1 rfl (by omega) hxd ?_;conv=>whnf)|(refine EHead.mk rfl ?_;conv=>whnf)|(refine Ac rfl hbs ?_;conv=>whnf)|(refine EY rfl hbs hb256 ?_;conv=>whnf)|(refine EY rfl hxs hx256 ?_;conv=>whnf)|(refine NE rfl rfl (fun hne=>?_) (fun heq=>?_) <;> conv=>whnf)|((first|refine w1 rfl rfl ?_ ?_|refine w3 rfl rfl ?_ ?_|refine w5 rfl rfl ?_ ?_) <;> intro _ <;> first|(exfalso;omega)|(conv=>whnf))|((first|refine w7 rfl rfl (by omega) ?_|refine w8 rfl rfl (by omega) ?_|refine ⟨rfl,?_⟩);conv=>whnf)|fail)
   all_goals first
    | exact ⟨.inr rfl,_,_,rfl,rfl,hf (fun q=>hne (q (by first|exact .inl (by omega)|exact .inr rfl) (by omega))) _⟩
    | exact ⟨hlt,hst (fun h1 h2=>by first|assumption|(exfalso;rcases h1 with h1|h1 <;> first|omega|cases h1|exact hil h1.1)),Abs.tells (rs:=[0,1]) ⟨by decide,⟨r9,t9 (h:=rfl),t9 (h:=rfl),r9,r9,r9,trivial⟩,⟨⟨Ab hl,by rw [Aa hl];rfl⟩,⟨Ab hh,by rw [Aa hh];rfl⟩,trivial⟩⟩⟩
 ·obtain rfl:i=n:=by omega
  have hrest:=hrest hI
  conv=>whnf
  repeat' (first|((refine w1 rfl rfl ?_ ?_) <;> intro _ <;> first|(exfalso;omega)|(conv=>whnf))|fail)
  exact W.tells (Abs.tells (tl:=Ef m B L true) (os:=[.row 33 l,.row 55 [.int .i64 st,bv,dv,.int .u8 (ph:Int),.bool de,.int .u32 sq]]) (rs:=[0,1]) ⟨by decide,⟨r9,t9 (h:=rfl),t9 (h:=rfl),r9,r9,trivial⟩,⟨⟨Ab hl,by rw [Aa hl];rfl⟩,⟨Ab hh,by rw [Aa hh];rfl⟩,trivial⟩⟩) hrest
theorem Zk (hE:EM P e) {A:List Nat}(hm:m=(n:Int)) (hn:3≤n∧n≤16) (hbv:Ls bytC bl bv) (hbl:bl.length=n) (hA:A.length=128∧∀ x ∈ A,x<256) (hav:∀ (Q:AV→St→Prop) st,Q (Am A) st→ESc e 79 [.fz B.length none B] st Q) (t:ph=0∨bl[n-1]?.getD []=A→∀ st,K (.bool true) st) (f:¬(ph=0∨bl[n-1]?.getD []=A)→∀ st,K (.bool false) st):W P 0 none O6 (At (Ef m B L true)) (Ae St0 [.row 33 l,.row 55 [.int .i64 st,bv,dv,.int .u8 (ph:Int),.bool de,.int .u32 sq]]) [] (Bz [.tmp 6] K):=by
 obtain ⟨bs,b1,b2,bn⟩:=hbv.nth
 obtain ⟨b,_,br,hb,⟨bu,rfl,hbu⟩,hbd⟩:=bn (n-1) (by omega)
 obtain ⟨hbs,hb256⟩:=hbu.by
 have hsl:Sl 1 128 (Aj A) (Am A):=.inr (.inr ⟨_,rfl,by rw [show (Aj A).length=A.length from Zjm ..];exact hA.1⟩)
 rw [hb] at t f
 dsimp only [Option.getD_some] at t f
 refine F9 hE ?_
 show VW P e 0 O6 (At (Ef m B L true)) (Ae St0 [.row 33 l,.row 55 [.int .i64 st,bv,dv,.int .u8 (ph:Int),.bool de,.int .u32 sq]]) none [] _
 conv=>whnf
 repeat' (first|(refine Cm rfl b1 rfl (show m-1=_ by omega) (by omega) hbd ?_;conv=>whnf)|(refine EHead.mk rfl ?_;conv=>whnf)|(refine hav _ _ ?_;conv=>whnf)|(refine EY rfl hbs hb256 ?_;conv=>whnf)|(refine EY rfl hsl hA.2 ?_;conv=>whnf)|(refine NF rfl rfl (fun heq=>?_) (fun hne=>?_) <;> conv=>whnf)|((refine w5 rfl rfl ?_ ?_) <;> intro _ <;> first|(exfalso;omega)|(conv=>whnf))|((first|refine w8 rfl rfl (by omega) ?_|refine w12 rfl ?_|refine ⟨rfl,?_⟩);conv=>whnf)|fail)
 all_goals first
  | exact t (.inl (by omega)) _
  | exact t (.inr heq) _
  | exact f (fun q=>q.elim (fun h=>by omega) hne) _
theorem XP (hE:EM P e) (h80:Inl e 80 K2 [.cells 4 6,.tmp 5]) (h132:Con e 132 hplF.O) (hd:dvC.r d l) (hs:Ad s) (hv:AM.hf v=true) (hno:A6 d.2.2.2.1 s<0→∀ hc,hfs hc=true→W P 0 none Kg (At (Ef m B L false)) (Ae St0 [.row 33 l,.row 55 hc]) [] (Bz [.tmp 6] K)) (hyes:0≤A6 d.2.2.2.1 s→∀ h hc,d.2.2.2.1[(A6 d.2.2.2.1 s).toNat]?=some h→hdC.r h hc→W P 0 none Kg (At (Ef m B L true)) (Ae St0 [.row 33 l,.row 55 hc]) [] (Bz [.tmp 6] K)):W P 0 none O7 (At (J2 v s m B L)) (Ae St0 [.row 33 l]) [] (Bz [.tmp 6] K):=by
 have hl:=dvC.hf hd
 have hch:∀ hv,Ls hdC d.2.2.2.1 hv→∀ (Q:AV→St→Prop) st,Q (.int .i64 (A6 d.2.2.2.1 s)) st→ESc e 132 [hv,.int .i64 s] st Q:=fun hv hH Q st q=>Fn.u (F:=hplF) h132 (d.2.2.2.1,s,()) ⟨_,_,rfl,⟨_,rfl,hH⟩,_,_,rfl,⟨rfl,Bg hs⟩,rfl⟩ trivial q
 have hlt:=Gf d.2.2.2.1 s
 obtain ⟨c,bk,⟨ev,lo,sp,po,dn,nl,br⟩,hs',⟨ag,sq,tl,us',L'⟩,fs,nx,so⟩:=d
 obtain ⟨hv',lv,fv,rfl,ho,hH,hL,hF⟩:=BE hd
 dsimp only at hch hlt hno hyes
 have hch:=hch hv' hH
 obtain ⟨cs,h3,hll,hn⟩:=hH.nth
 generalize A6 hs' s=j at *
 refine Bf hE ?_
 by_cases hj:0≤j
 ·obtain ⟨⟨st,bl,di,ph,de,hq⟩,_,r,hx,hxr,hdr⟩:=hn j.toNat (by omega)
  have hyes:=hyes hj _ _ hx hxr
  have hcf:hfs _=true:=hdC.hf hxr
  obtain ⟨bv,dv,rfl,-,g2,g3,-⟩:=Cf hxr
  conv=>whnf
  repeat' (first|(refine ESc.inl h80 ?_;conv=>whnf)|(refine hch _ _ ?_;conv=>whnf)|(refine Cm rfl h3 rfl (show j=_ by omega) (by omega) hdr ?_;conv=>whnf)|(refine Ay (cs:=[.int .i64 st,bv,dv,.int .u8 (ph:Int),.bool de,.int .u32 hq]) rfl ?_;conv=>whnf)|((refine w1 rfl rfl ?_ ?_) <;> intro _ <;> first|(exfalso;omega)|(conv=>whnf))|fail)
  first
   | exact W.tells (Abs.tells (tl:=Ef m B L true) (os:=[.row 33 _,.row 55 [.int .i64 st,bv,dv,.int .u8 (ph:Int),.bool de,.int .u32 hq]]) (rs:=[0,1]) ⟨by decide,⟨r9,t9 (h:=rfl),t9 (h:=rfl),r9,r9,trivial⟩,⟨⟨Ab hl,by rw [Aa hl];rfl⟩,⟨Ab hcf,by rw [Aa hcf];rfl⟩,trivial⟩⟩) hyes
   | exact W.tells (Abs.tells (tl:=Ef m B L true) (os:=[.row 33 _,.row 55 [.int .i64 st,bv,dv,.int .u8 (ph:Int),.bool de,.int .u32 hq]]) (rs:=[0,3]) ⟨by decide,⟨r9,t9 (h:=rfl),t9 (h:=rfl),r9,r9,trivial⟩,⟨⟨Ab hl,by rw [Aa hl];rfl⟩,⟨Ab hcf,by rw [Aa hcf];rfl⟩,trivial⟩⟩) hyes
   | exact W.tells (Abs.tells (tl:=Ef m B L true) (os:=[.row 33 _,.row 55 [.int .i64 st,bv,dv,.int .u8 (ph:Int),.bool de,.int .u32 hq]]) (rs:=[0,2]) ⟨by decide,⟨r9,t9 (h:=rfl),t9 (h:=rfl),r9,r9,trivial⟩,⟨⟨Ab hl,by rw [Aa hl];rfl⟩,⟨Ab hcf,by rw [Aa hcf];rfl⟩,trivial⟩⟩) hyes
 ·have hno:=hno (by omega)
  conv=>whnf
  repeat' (first|(refine ESc.inl h80 ?_;conv=>whnf)|(refine hch _ _ ?_;conv=>whnf)|((refine w1 rfl rfl ?_ ?_) <;> intro _ <;> first|(exfalso;omega)|(conv=>whnf))|fail)
  first
   | exact W.tells (Abs.tells (tl:=Ef m B L false) (os:=[.row 33 _,.row 55 [.int .i64 0,.nils,.nils,.int .u8 0,.bool false,.int .u32 0]]) (rs:=[0,1]) ⟨by decide,⟨r9,t9 (h:=rfl),t9 (h:=rfl),r9,r9,trivial⟩,⟨⟨Ab hl,by rw [Aa hl];rfl⟩,⟨Ab rfl,by rw [Aa rfl];rfl⟩,trivial⟩⟩) (hno _ rfl)
   | exact W.tells (Abs.tells (tl:=Ef m B L false) (os:=[.row 33 _,.row 55 [.int .i64 0,.nils,.nils,.int .u8 0,.bool false,.int .u32 0]]) (rs:=[0,3]) ⟨by decide,⟨r9,t9 (h:=rfl),t9 (h:=rfl),r9,r9,trivial⟩,⟨⟨Ab hl,by rw [Aa hl];rfl⟩,⟨Ab rfl,by rw [Aa rfl];rfl⟩,trivial⟩⟩) (hno _ rfl)
   | exact W.tells (Abs.tells (tl:=Ef m B L false) (os:=[.row 33 _,.row 55 [.int .i64 0,.nils,.nils,.int .u8 0,.bool false,.int .u32 0]]) (rs:=[0,2]) ⟨by decide,⟨r9,t9 (h:=rfl),t9 (h:=rfl),r9,r9,trivial⟩,⟨⟨Ab hl,by rw [Aa hl];rfl⟩,⟨Ab rfl,by rw [Aa rfl];rfl⟩,trivial⟩⟩) (hno _ rfl)
theorem JZ (f:Nat→AV):∀ l:List Nat,(l.map fun k=>[f k]).flatten=l.map f
 | []=>rfl
 | x::l=>by rw [Zkv,List.flatten_cons,JZ f l];rfl
theorem Ze8 {T:Nat→List Nat}{V:Nat→AV}{m:Nat}(h:∀ k<m,Ls Ce.u8 (T k) (V k)) (hm:0<m∧m≤1000):Ls bytC ((List.range m).map T) (.fz ((List.range m).map V).length none ((List.range m).map V)):=by
 refine ⟨(List.range m).map fun k=>[V k],?_,.inr (.inr ⟨none,by rw [JZ];simp,by rw [JZ,Zjm,List.length_range];rw [Zjm,List.length_range];exact (Zki m).symm⟩),by simp;omega⟩
 refine E3 (by simp) fun i x l' h1 h2=>?_
 rw [Zke] at h1 h2
 by_cases hi:i<m
 ·rw [List.getElem?_range hi] at h1 h2
  cases h1
  cases h2
  exact ⟨_,rfl,h i hi⟩
 ·rw [Zlg (by simp;omega)] at h1
  cases h1
noncomputable def tdyF:Fn (Dv×List Dk×Int×Unit):=bF (.g dvC (.v dkC.sl (.v i64C .nil))) (fun x=>Gl x.1.1 x.2.1 x.2.2.1∧BX x.1.1 x.1.2.2.2.1) fun x=>KB x.1 x.2.1 x.2.2.1
theorem TN (hD:Ls dkC D v) (hok:Gl d.1 D s) {k:Nat}(h:Co d D s k≠none):(DM d D s k).length=128∧∀ x ∈ DM d D s k,x<256:=by
 obtain ⟨b,hb⟩:=Option.ne_none_iff_exists'.1 h
 unfold DM;rw [hb]
 exact Tl hok hD hb
theorem Zew (hd:dvC.r d l) (hD:Ls dkC D v) (hok:Gl d.1 D s) (hsh:BX d.1 d.2.2.2.1) {k:Nat}(hk:(k:Int)<d.1.members) (h:Co d D s k≠none):(Hp d D s k).length=128∧∀ x ∈ Hp d D s k,x<256:=by
 unfold Hp Jz
 split
 ·rename_i hi
  obtain ⟨hv,cs,x,bv,dv,r,xs,u,r',h1,h2,h3,h4,h5,h6,h7,h8⟩:=Oh hd hsh (k:=(k:Int)) ⟨by omega,hk⟩ hi.1
  have hb:=hi.2
  refine ⟨?_,h8.by.2⟩
  show (Dc d s k).length=128
  have hz:B8 (Dc d s k):=by
   have hlt:=Gf d.2.2.2.1 s
   have hi0:=hi.1
   have hhd:=(hsh.1 (A6 d.2.2.2.1 s).toNat (by omega) x h1).1
   unfold Dc
   rw [h1]
   show B8 (x.2.1[k]?.getD [])
   obtain ⟨st,bl,di,ph,de,hq⟩:=x
   unfold Di at hhd
   cases hg:bl[k]? with
   | none=>exact .inl rfl
   | some b=>exact (hhd.2.2.2.2.1 k (Zjg.1 hg).1 b hg).1
  exact hz.resolve_left hb
 ·exact TN hD hok h
theorem Zbd (hE:EM P e) (h43:Con e 43 (Bx Jx)) (h78:Con e 78 fetF.O) (h79:Con e 79 allF3.O) (h80:Inl e 80 K2 [.cells 4 6,.tmp 5]) (h132:Con e 132 hplF.O):OvOk P 33 tdyF.O:=by
 refine Zho g33 ?_
 rintro ⟨d,D,s,_⟩ _ ⟨l,_,rfl,hd,v,_,rfl,⟨_,e0,hD⟩,_,_,rfl,⟨e1,z1⟩,rfl⟩ ⟨hok,hsh⟩ K t f
 cases e0
 cases e1
 dsimp only at hok hsh hD t f
 have hs:=Cq z1
 have hM:=hok.1
 unfold Cfg.may at hM
 refine XO hE h78 h43 hd hD hs hok hsh f ?_
 intro V hV hF
 have hn:3≤d.1.members.toNat∧d.1.members.toNat≤16:=by omega
 have hm:d.1.members=(d.1.members.toNat:Int):=by omega
 have hl:=dvC.hf hd
 have hvf:=hD.hf
 have hTh:=fun k hk=>TN hD hok (hF k hk)
 have hVw:=fun k (hk:k<d.1.members.toNat)=>Zew hd hD hok hsh (show (k:Int)<d.1.members by omega) (hF k hk)
 have hBL:Dr (Fv d D s d.1.members.toNat):=fun b hb=>by
  obtain ⟨k,hk,rfl⟩:=Zkf.1 hb
  exact hTh k (List.mem_range.1 hk)
 have hBV:Dr (Jy d D s (d.1.members.toNat-1)):=fun b hb=>by
  obtain ⟨k,hk,rfl⟩:=Zkf.1 hb
  exact hVw k (by have:=List.mem_range.1 hk;omega)
 have hLl:(Fv d D s d.1.members.toNat).length=d.1.members.toNat:=by unfold Fv;simp
 have hVh:hfs ((List.range (d.1.members.toNat-1)).map V)=true:=Gc fun k h=>(hV k h).hf
 have hAh:hfs ((List.range d.1.members.toNat).map fun k=>Am (DM d D s k))=true:=Gc fun k _=>rfl
 have hAe:((List.range d.1.members.toNat).map fun k=>Am (DM d D s k))=(Fv d D s d.1.members.toNat).map Am:=by unfold Fv;rw [List.map_map];rfl
 have hBn:((List.range (d.1.members.toNat-1)).map V).length=d.1.members.toNat-1:=by simp
 have hav:∀ (Q:AV→St→Prop) st,Q (Am (AA (Jy d D s (d.1.members.toNat-1)))) st→ESc e 79 [.fz ((List.range (d.1.members.toNat-1)).map V).length none ((List.range (d.1.members.toNat-1)).map V)] st Q:=fun Q st k=>Fn.u (F:=allF3) h79 (Jy d D s (d.1.members.toNat-1),()) ⟨_,_,rfl,⟨_,rfl,Ze8 (fun k hk=>hV k hk) (by omega)⟩,rfl⟩ hBV k
 have hlt:=Gf d.2.2.2.1 s
 have hT:W P 0 none Mn (At (J2 v s d.1.members ((List.range (d.1.members.toNat-1)).map V) (Fv d D s d.1.members.toNat))) (Ae St0 [.row 33 l]) [] (Bz [.tmp 6] K):=by
  refine XM hE h79 hl hvf hBL (by omega) (fun h=>f fun q=>h q.2.1) fun hz=>?_
  refine XP hE h80 h132 hd hs hvf (fun hno hc hh=>XN hE hl hh (t ⟨hF,hz,fun h=>absurd (show 0≤A6 d.2.2.2.1 s from h) (Int.not_le.2 hno)⟩)) ?_
  rintro h0 ⟨st,bl,di,ph,de,sq⟩ hc hx hxr
  have h0':0≤A6 d.2.2.2.1 s:=h0
  have hhd:=(hsh.1 (A6 d.2.2.2.1 s).toNat (by omega) _ hx).1
  unfold Di at hhd
  obtain ⟨bv,dv,rfl,-,g2,g3,g4,-⟩:=Cf hxr
  have hb1:∀ k:Nat,Dc d s k=bl[k]?.getD []:=fun k=>by unfold Dc;rw [hx];rfl
  have hcl:∀ k<d.1.members.toNat,(HQ bl di ph d.1.members.toNat (Fv d D s d.1.members.toNat) k↔((ph=4∨k+1<d.1.members.toNat∧di[k]?=some false)→(Dc d s k).length≠0→Dc d s k=DM d D s k)):=fun k hk=>by
   unfold HQ
   rw [hb1]
   have:(Fv d D s d.1.members.toNat)[k]?.getD []=DM d D s k:=by unfold Fv;rw [Zke,List.getElem?_range hk];rfl
   rw [this]
  refine WO hE hl hm hn hBL hLl g2 g3 (by omega) (by omega) (fun k hk hn'=>f fun q=>hn' ((hcl k hk).2 ((q.2.2 h0 _ hx).1 k hk))) fun hI=>?_
  have hpar:(ph=0∨bl[d.1.members.toNat-1]?.getD []=AA (Jy d D s (d.1.members.toNat-1)))↔(ph≠0→Dc d s ((d.1.members.toNat-1:Nat):Int)=AA (Jy d D s (d.1.members.toNat-1))):=by
   rw [hb1]
   constructor
   ·rintro (h|h) g
    ·exact absurd h g
    ·exact h
   ·intro h
    by_cases g:ph=0
    ·exact .inl g
    ·exact .inr (h g)
  refine Zk hE hm hn g2 (by omega) (GR hBV) hav (fun h=>t ⟨hF,hz,fun _ g hg=>?_⟩) fun h=>f fun q=>h (hpar.2 (q.2.2 h0 _ hx).2)
  rw [hx] at hg
  cases hg
  exact ⟨fun k hk=>(hcl k hk).1 (hI k hk),hpar.1 h⟩
 generalize hN:d.1.members.toNat=n at *
 obtain ⟨N,rfl⟩:∃ N,n=N+1:=⟨n-1,by omega⟩
 have hmin:min (N+1) (N+1-1)=N+1-1:=by omega
 unfold J0 J1
 dsimp only
 rw [hmin]
 refine W.tells (Zj hl hAh hVh hvf) ?_
 unfold J2 at hT
 rw [hBn,hLl,← hAe] at hT
 exact hT
def Uq (d:Dv) (D:List Dk):Prop:=∀ i:Nat,(i:Int)<d.1.members→∀ x,D[i]?=some x→x.2.2=true→(i:Int)=d.2.2.1.2.1∧d.2.2.1.2.2.1=false
def MD (d:Dv) (D:List Dk):Prop:=Js d∧C8 d.1 D∧d.2.2.1.2.2.2.2.2.2=false∧Uq d D∧∀ s:Nat,(s:Int)<AG d.1→KB d D (s:Int)
noncomputable def TidF:Fn (Dv×List Dk×Unit):=bF (.g dvC (.v dkC.sl .nil)) (fun x=>∀ d ∈ x.2.1,¬D2 d) fun x=>MD x.1 x.2.1
theorem Zer (hE:EM P e) (h30:Con e 30 mayF.O) (h31:Con e 31 m20F.O) (h32:Inl e 32 IX [.tmp 2]) (h33:Con e 33 tdyF.O):OvOk P 8 TidF.O:=by
 refine Bl hE g8 ?_
 rintro ⟨d,D,_⟩ _ ⟨l,_,rfl,hd,v,_,rfl,⟨_,e0,hD⟩,rfl⟩ hG K t f
 cases e0
 dsimp only at hG hD t f
 have hvf:=hD.hf
 have hrow:=dvC.hf hd
 obtain ⟨cs,hs',hl',hn⟩:=hD.nth
 have hc1:=fun (Q:AV→St→Prop) s a b=>@bF.u _ _ _ _ e 30 s Q _ h30 (d,()) ⟨_,_,rfl,hd,rfl⟩ trivial a b
 have hc2:=fun (c:Cfg) (hc:c.ok) (hM:c.may) (Q:AV→St→Prop) s a b=>@bF.u _ _ _ _ e 31 s Q [.agg c.c,v] h31 (c,D,()) ⟨_,_,rfl,⟨rfl,hc⟩,_,_,rfl,⟨_,rfl,hD⟩,rfl⟩ ⟨hM,hG⟩ a b
 have hc3:=fun (i:Nat) (h0:Ad (i:Int)) (hok:Gl d.1 D (i:Int)∧BX d.1 d.2.2.2.1) (Q:AV→St→Prop) s a b=>@bF.u _ _ _ _ e 33 s Q [.agg l,v,.int .i64 (i:Int)] h33 (d,D,(i:Int),()) ⟨_,_,rfl,hd,_,_,rfl,⟨_,rfl,hD⟩,_,_,rfl,⟨rfl,Bg h0⟩,rfl⟩ hok a b
 unfold MD at t f
 unfold Uq at t f
 have hmp:Js d→d.1.may∧BX d.1 d.2.2.2.1:=fun h=>by
  obtain ⟨c,bk,⟨ev,lo,sp,po,dn,nl,br⟩,hs,⟨ag,sq,tl,us,L⟩,fs,nx,so⟩:=d
  unfold Js Jr at h
  exact ⟨h.1.1,h.1.2.2.1⟩
 generalize Js d=A1 at *
 generalize hT:KB d D=T at *
 obtain ⟨c,bk,⟨ev,lo,sp,po,dn,nl,br⟩,hs,⟨ag,sq,tl,us,L⟩,fs,nx,so⟩:=d
 obtain ⟨hv,lv,fv,rfl,⟨ho,o1,o2,o3,o4,o5,o6,o7,o8,oN⟩,hH,hL,hF⟩:=BE hd
 dsimp only at t f hc1 hc2 hc3 hmp
 have hc2:=hc2 c ho
 rw [hT] at hc3
 generalize hA2:C8 c D=A2 at hc2 t f
 conv=>whnf
 repeat' (first|(refine hc1 _ _ (fun q1=>?_) (fun q1=>?_) <;> conv=>whnf)|(refine hc2 (hmp q1).1 _ _ (fun q2=>?_) (fun q2=>?_) <;> conv=>whnf)|((first|refine w12 rfl ?_|refine w13 rfl ?_);conv=>whnf)|(refine w19 rfl ?_ ?_ <;> intro hc <;> (try subst hc) <;> conv=>whnf))
 ·exact f (fun q=>nomatch q.2.2.1) _
 ·have hMS:=hmp q1
  have hM:=hMS.1
  have hM':=hM
  unfold Cfg.may at hM'
  have hms:=BJ hM
  have hm2:C8 c D:=by rw [hA2];exact q2
  have hDl:=hm2.1
  have hsm:=Do (a:=c.chunk) (b:=c.rows) (by omega) (by omega)
  refine A0 hE c.members.toNat (fun i=>[(1,v),(2,.ptr 0 0),(5,.int .i64 (i:Int))]) (fun _=>[.row 33 (c.c++[.bool bk,.int .u32 ev,.int .i64 lo,.bool sp,.int .i64 po,.int .i64 dn,.bool nl,.bool false,hv,.int .u32 ag,.int .u32 sq,.int .i64 tl,.int .i64 us,lv,fv,.int .i64 nx,.bool so])]) (fun i=>∀ j<i,∀ x,D[j]?=some x→x.2.2=true→(j:Int)=lo∧sp=false) (fun k h=>by omega) (Abs.tells (rs:=[0]) ⟨by decide,⟨t9,r9,r9,trivial⟩,⟨⟨Ab hrow,by rw [Aa hrow];rfl⟩,trivial⟩⟩) ?_
  intro i hi hI
  by_cases hlt:i<c.members.toNat
  ·obtain ⟨x,cl,r,hx,hxr,hd2⟩:=hn i (by omega)
   have hil:i<D.length:=by omega
   have hfx:(x.2.2=true→¬((i:Int)=lo∧sp=false))→x.2.2=true→∀ s,K (.bool false) s:=fun h h2=>f fun q=>h h2 (q.2.2.2.1 i (by omega) x hx h2)
   have htx:(x.2.2=true→(i:Int)=lo∧sp=false)→∀ j<i+1,∀ x,D[j]?=some x→x.2.2=true→(j:Int)=lo∧sp=false:=fun h=>AK hI fun y e=>by rw [hx] at e;cases e;exact h
   obtain ⟨bs,ws,dd⟩:=x
   obtain ⟨bv,wv,rfl,-,-⟩:=Gm hxr
   dsimp only at hfx htx
   clear f t hn hI
   cases dd
   ·conv=>whnf
    repeat' (first|(refine Ai rfl hs' rfl hil hd2 ?_;conv=>whnf)|(refine EHead.mk rfl ?_;conv=>whnf)|((refine w1 rfl rfl ?_ ?_) <;> intro _ <;> first|(exfalso;omega)|(conv=>whnf))|((first|refine w7 rfl rfl (by omega) ?_|refine ⟨rfl,?_⟩);conv=>whnf)|fail)
    all_goals exact ⟨hlt,htx (fun h=>nomatch h),Abs.tells (rs:=[0]) ⟨by decide,⟨t9,r9,r9,trivial⟩,⟨⟨Ab hrow,by rw [Aa hrow];rfl⟩,trivial⟩⟩⟩
   ·cases sp
    ·by_cases hil':(i:Int)=lo
     ·conv=>whnf
      repeat' (first|(refine Ai rfl hs' rfl hil hd2 ?_;conv=>whnf)|(refine EHead.mk rfl ?_;conv=>whnf)|((first|refine w1 rfl rfl ?_ ?_|refine w6 rfl rfl ?_ ?_) <;> intro _ <;> first|(exfalso;omega)|(conv=>whnf))|((first|refine w7 rfl rfl (by omega) ?_|refine ⟨rfl,?_⟩);conv=>whnf)|fail)
      all_goals exact ⟨hlt,htx (fun _=>⟨hil',rfl⟩),Abs.tells (rs:=[0]) ⟨by decide,⟨t9,r9,r9,trivial⟩,⟨⟨Ab hrow,by rw [Aa hrow];rfl⟩,trivial⟩⟩⟩
     ·conv=>whnf
      repeat' (first|(refine Ai rfl hs' rfl hil hd2 ?_;conv=>whnf)|(refine EHead.mk rfl ?_;conv=>whnf)|((first|refine w1 rfl rfl ?_ ?_|refine w6 rfl rfl ?_ ?_) <;> intro _ <;> first|(exfalso;omega)|(conv=>whnf))|fail)
      all_goals exact hfx (fun _ q=>hil' q.1) rfl _
    ·conv=>whnf
     repeat' (first|(refine Ai rfl hs' rfl hil hd2 ?_;conv=>whnf)|(refine EHead.mk rfl ?_;conv=>whnf)|((first|refine w1 rfl rfl ?_ ?_|refine w6 rfl rfl ?_ ?_) <;> intro _ <;> first|(exfalso;omega)|(conv=>whnf))|fail)
     all_goals exact hfx (fun _ q=>nomatch q.2) rfl _
  ·have hI:∀ j:Nat,(j:Int)<c.members→∀ x,D[j]?=some x→x.2.2=true→(j:Int)=lo∧sp=false:=fun j hj=>hI j (by omega)
   conv=>whnf
   repeat' (first|((refine w1 rfl rfl ?_ ?_) <;> intro _ <;> first|(exfalso;omega)|(conv=>whnf))|fail)
   have hMS2:=hMS.2
   unfold AG at hms t f
   refine A0 hE (c.chunk*c.rows).toNat (fun i=>[(1,v),(2,.ptr 0 0),(6,.int .i64 (i:Int))]) (fun _=>[.row 33 (c.c++[.bool bk,.int .u32 ev,.int .i64 lo,.bool sp,.int .i64 po,.int .i64 dn,.bool nl,.bool false,hv,.int .u32 ag,.int .u32 sq,.int .i64 tl,.int .i64 us,lv,fv,.int .i64 nx,.bool so])]) (fun i=>∀ j<i,T (j:Nat)) (fun k h=>by omega) (Abs.tells (rs:=[0]) ⟨by decide,⟨t9,r9,r9,trivial⟩,⟨⟨Ab hrow,by rw [Aa hrow];rfl⟩,trivial⟩⟩) ?_
   intro i hi hJ
   by_cases hlt2:i<(c.chunk*c.rows).toNat
   ·have hc3:=hc3 i (by unfold Ad;omega) ⟨⟨hM,hm2,hG,by omega,by unfold AG;omega⟩,hMS2⟩
    conv=>whnf
    repeat' (first|(refine ESc.inl h32 ?_;conv=>whnf)|(refine Cl rfl rfl hsm ?_;conv=>whnf)|(refine hc3 _ _ (fun q3=>?_) (fun q3=>?_) <;> conv=>whnf)|((refine w1 rfl rfl ?_ ?_) <;> intro _ <;> first|(exfalso;omega)|(conv=>whnf))|((first|refine w7 rfl rfl (by omega) ?_|refine w12 rfl ?_|refine w13 rfl ?_|refine ⟨rfl,?_⟩);conv=>whnf)|fail)
    ·exact ⟨hlt2,AK hJ q3,Abs.tells (rs:=[0]) ⟨by decide,⟨t9,r9,r9,trivial⟩,⟨⟨Ab hrow,by rw [Aa hrow];rfl⟩,trivial⟩⟩⟩
    ·exact f (fun q=>q3 (q.2.2.2.2 i (by omega))) _
   ·conv=>whnf
    repeat' (first|(refine ESc.inl h32 ?_;conv=>whnf)|(refine Cl rfl rfl hsm ?_;conv=>whnf)|((refine w1 rfl rfl ?_ ?_) <;> intro _ <;> first|(exfalso;omega)|(conv=>whnf))|fail)
    exact t ⟨q1,q2,rfl,hI,fun s hs=>hJ s (by omega)⟩ _
 ·exact f (fun q=>q2 q.2.1) _
 ·exact f (fun q=>q1 q.1) _
noncomputable def pE (p:Prop):AV:=.int .i64 (open Classical in if p then 0 else 8)
theorem pE0 {p:Prop}{s:St}(h:p):Frz s (.int .i64 0) (pE p):=by classical unfold pE;rw [Zjj h];exact .plain _ rfl
theorem pE8 {p:Prop}{s:St}(h:¬p):Frz s (.int .i64 8) (pE p):=by classical unfold pE;rw [Zjn h];exact .plain _ rfl
noncomputable def cF {γ:Type}(S:Sg γ) (ok p:γ→Prop):Fn γ:=⟨S,ok,fun x=>pE (p x)⟩
theorem Ic {γ:Type}{S:Sg γ}{ok p:γ→Prop}{f:Nat}(hE:EM P e) (g:GK f fn (.mk code res)) (h:∀ x args,S.r x args→ok x→∀ K:AV→St→Prop,(p x→∀ s,K (.int .i64 0) s)→(¬p x→∀ s,K (.int .i64 8) s)→VW P e 0 code (Al args 0 .lf) St0 none [] (Cj res K)):OvOk P f (cF S ok p).O:=
 B2 g.b fun x args h1 h2=>⟨rfl,C.of_G hE g (h x args h1 h2 _ (fun q _=>pE0 q) fun q _=>pE8 q)⟩
theorem cF.u {γ:Type}{S:Sg γ}{ok p:γ→Prop}{e:Env}{f:Nat}{s:St}{k:AV→St→Prop}{args:List AV}(hi:Con e f (cF S ok p).O) (x:γ) (h1:S.r x args) (h2:ok x) (ht:p x→k (.int .i64 0) s) (hf:¬p x→k (.int .i64 8) s):ESc e f args s k:=by
 classical
 refine Fn.u hi x h1 h2 ?_
 show k (pE (p x)) s
 unfold pE
 by_cases h:p x
 ·rw [Zjj h];exact ht h
 ·rw [Zjn h];exact hf h
def Sg.p {α γ:Type}(A:Ce α) (S:Sg γ):Sg (α×γ):=⟨fun x l=>∃ c b,l=.fp c::b∧A.r x.1 c∧S.r x.2 b,by
 rintro _ _ ⟨v,b,rfl,h,h'⟩
 show (true && hfs b)=true
 rw [S.hf h'];rfl,by
 rintro ⟨x,x'⟩ ⟨y,y'⟩ _ ⟨a,b,rfl,h1,h2⟩ ⟨c,d,e,h3,h4⟩
 cases e
 have e1:=A.inj h1 h3
 have e2:=S.inj h2 h4
 dsimp only at e1 e2
 rw [e1,e2]⟩
def Sg.f {κ γ:Type}(g:Nat) (C:Sg κ) (S:Sg γ):Sg (κ×γ):=⟨fun x l=>∃ q b,l=.fn g [] q::b∧C.r x.1 q∧S.r x.2 b,by
 rintro _ _ ⟨v,b,rfl,h,h'⟩
 show ((true && hfs v) && hfs b)=true
 rw [S.hf h',C.hf h];rfl,by
 rintro ⟨x,x'⟩ ⟨y,y'⟩ _ ⟨a,b,rfl,h1,h2⟩ ⟨c,d,e,h3,h4⟩
 cases e
 have e1:=C.inj h1 h3
 have e2:=S.inj h2 h4
 dsimp only at e1 e2
 rw [e1,e2]⟩
open Classical in
noncomputable def Ci {α:Type}(p:α→Prop) (l:List α):Int:=match l.findIdx? (fun x=>decide (p x)) with|some i=>i|none=>-1
theorem IG {α:Type}{p:α→Prop}:∀ {l:List α}{i:Nat}{x:α},l[i]?=some x→p x→(∀ j<i,∀ y,l[j]?=some y→¬p y)→Ci p l=i:=by
 classical
 intro l i x hx hp hn
 have:l.findIdx? (fun x=>decide (p x))=some i:=by
  rw [List.findIdx?_eq_some_iff_getElem]
  obtain ⟨h,e⟩:=Zjg.1 hx
  refine ⟨h,by rw [e];exact Zjk hp,fun j hj=>?_⟩
  have:=hn j hj _ (Zjf (Nat.lt_trans hj h))
  simpa using this
 unfold Ci;rw [this]
theorem IF {α:Type}{p:α→Prop}{l:List α}(hn:∀ j<l.length,∀ y,l[j]?=some y→¬p y):Ci p l=-1:=by
 classical
 have:l.findIdx? (fun x=>decide (p x))=none:=by
  rw [List.findIdx?_eq_none_iff]
  intro x hx
  have:=TW (p:=fun x=>¬p x) hn x hx
  simpa using this
 unfold Ci;rw [this]
theorem Zcf {α:Type}(p:α→Prop) (l:List α):-1≤Ci p l∧Ci p l<l.length:=by
 classical
 unfold Ci
 split
 ·rename_i i h
  have:=(List.findIdx?_eq_some_iff_getElem.1 h).1
  omega
 ·omega
theorem idxI_iff {α:Type}{p:α→Prop}{l:List α}:0≤Ci p l↔∃ x ∈ l,p x:=by
 classical
 unfold Ci
 split
 ·rename_i i h
  obtain ⟨h1,h2,-⟩:=List.findIdx?_eq_some_iff_getElem.1 h
  exact ⟨fun _=>⟨_,Zkg h1,Zkw h2⟩,fun _=>by omega⟩
 ·rename_i h
  rw [List.findIdx?_eq_none_iff] at h
  refine ⟨fun h=>by omega,fun ⟨x,hx,hp⟩=>?_⟩
  have:=h x hx
  simp [hp] at this
noncomputable def Cp {α κ:Type}(A:Ce α) (g:Nat) (C:Sg κ) (ok:κ→List α→Prop) (p:κ→α→Prop):Fn (List α×κ×Unit):=⟨.v A.sl (.f g C .nil),fun x=>ok x.2.1 x.1,fun x=>.int .i64 (Ci (p x.2.1) x.1)⟩
def Es {α κ:Type}(e:Env) (A:Ce α) (arg:List AV→AV) (g:Nat) (C:Sg κ) (ok:κ→List α→Prop) (p:κ→α→Prop):Prop:=∀ c q xs x l,C.r c q→ok c xs→x ∈ xs→A.r x l→∀ (Q:AV→St→Prop),(p c x→∀ s,Q (.bool true) s)→(¬p c x→∀ s,Q (.bool false) s)→ECall e g (arg l::q) (Ae St0 []) Q
def CapR (s:St) (p q:AV):Prop:=∃ r e cs,p=.ptr r 0∧q=.fp cs∧s.get r=some (.row e cs)∧hfs cs=true
theorem CapR.frz {s:St}{p q:AV}(h:CapR s p q):Frz s p q:=by
 obtain ⟨r,e,cs,rfl,rfl,h1,h2⟩:=h
 refine .ptr r 0 e cs cs cs h1 (fun i x h=>by rw [Zju];exact h) (DG h2)
theorem CapR.inj {s:St}:∀ {ps qs qs':List AV},All2 (CapR s) ps qs→All2 (CapR s) ps qs'→qs=qs'
 | _,_,_,.nil,.nil=>rfl
 | _,_,_,.cons h a,.cons h' b=>by
  obtain ⟨r,e,cs,rfl,rfl,h1,-⟩:=h
  obtain ⟨r',e',cs',e0,rfl,h2,-⟩:=h'
  injection e0 with e0
  subst e0
  rw [h1] at h2
  injection h2 with h2
  injection h2 with _ h2
  rw [h2,CapR.inj a b]
def BB (R:List AV→AV→Prop) (args:List AV) (s:St) (u:AV) (s':St):Prop:=s'=s∧∃ v g ps qs,args=[v,.fn g [] ps]∧All2 (CapR s) ps qs∧AM.hf v=true∧sc u=true∧R [v,.fn g [] qs] u
theorem K4 {f:Nat}{R:List AV→AV→Prop}(hb:Fd P f) (h:∀ args u,R args u→hfs args=true∧C P f args St0 (fun v s'=>Frz s' v u)):OvOk P f (relS (BB R)):=by
 refine LZ hb ?_
 rintro args s u s' ⟨rfl,v,g,ps,qs,rfl,hc,hv,hs,hR⟩
 obtain ⟨h1,h2⟩:=h _ _ hR
 exact K8 (args2:=[v,.fn g [] qs]) (.cons (.plain _ hv) (.cons (.fn g [] ps [] qs .nil (hc.imp fun _ _=>CapR.frz)) .nil)) hs (I8 h1 h2)
theorem GT {γ:Type}{F:Fn γ}{e:Env}{f:Nat}{s:St}{k:AV→St→Prop}(hi:Con e f (AM.relS (BB F.R))) {v:AV}{g:Nat}{ps qs:List AV}(x:γ) (hx:F.S.r x [v,.fn g [] qs]) (ho:F.ok x) (hc:All2 (CapR s) ps qs) (hs:sc (F.out x)=true) (hk:k (F.out x) s):ESc e f [v,.fn g [] ps] s k:=by
 have hv:AM.hf v=true:=by
  have:=F.S.hf hx
  simp [hfs] at this
  exact this.1
 refine ESc.relS hi ⟨rfl,v,g,ps,qs,rfl,hc,hv,hs,x,hx,ho,rfl⟩ ?_
 rintro u s' ⟨rfl,v',g',ps',qs',e1,hc',-,-,y,hy,-,rfl⟩
 injection e1 with e1 e2
 injection e2 with e2
 injection e2 with e2 _ e3
 subst e1 e2 e3
 rw [CapR.inj hc' hc] at hy
 rw [F.S.inj hy hx];exact hk
theorem Ls.take {α:Type}{A:Ce α}{xs:List α}{c:Option Nat}(h:Ls A xs (.fz xs.length c l)) (hi:i≤xs.length) (c':Option Nat):Ls A (xs.take i) (.fz i c' (l.take (i*A.k))):=by
 obtain ⟨ls,a,s,hn⟩:=h
 have e:ls.flatten=l:=by
  rcases s with ⟨h,_⟩|⟨h,_⟩|⟨c,h,_⟩
  ·cases h
  ·cases h
  ·cases h;rfl
 have ht:=a.take i
 have hf:=LM ht
 rw [Zj5,Nat.min_eq_left hi] at hf
 have e2:(ls.take i).flatten=l.take (i*A.k):=by
  rw [← e]
  conv=>rhs;rw [← List.take_append_drop i ls,List.flatten_append]
  rw [← hf,List.take_left]
 refine ⟨ls.take i,ht,?_,by rw [Zj5];omega⟩
 rw [Zj5,Nat.min_eq_left hi,e2]
 exact .inr (.inr ⟨c',rfl,by rw [← e2];exact hf⟩)
theorem Jo {α:Type}{A:Ce α}(h:v=.nils∨v=.es):Ls A [] v:=⟨[],.nil,h.elim (fun h=>.inl ⟨h,rfl,rfl⟩) fun h=>.inr (.inl ⟨h,rfl,rfl⟩),by simp⟩
theorem NU {α:Type}{A:Ce α}{s:St}{y:AO}{xs:List α}{q:IntKind}(hx:ev x t=.some v) (hL:Ls A xs v) (he:es=A.k) (hy:ev y t=.some (.int q (i:Int))) (hi:i≤xs.length) (hk:∀ u,Ls A (xs.take i) u→k u s):EPrim (.slc es x none (some y) none) t s k:=by
 subst he
 have hh:∀ d,Cb t (some y) d=.n i:=fun d=>by
  show Gt (ev y t)=_
  rw [hy];rfl
 obtain ⟨ls,a,sl,hn⟩:=id hL
 rcases sl with ⟨rfl,h0,_⟩|⟨rfl,h0,_⟩|⟨c,rfl,hl⟩
 ·obtain rfl:i=0:=by omega
  refine EPrim.mk (v:=.nils) (s':=s) (fun e rec=>?_) (hk _ (Jo (.inl rfl)))
  show wth x t _=_;unfold wth;rw [hx]
  show (NR.rec .fail (fun h=>NR.rec .fail (fun m=>gd (Nat.beq (0+h+m) 0) (.ok .nils s)) (NR.n 0)) (Cb t (some y) 0):RV)=_
  rw [hh];rfl
 ·obtain rfl:i=0:=by omega
  refine EPrim.mk (v:=.es) (s':=s) (fun e rec=>?_) (hk _ (Jo (.inr rfl)))
  show wth x t _=_;unfold wth;rw [hx]
  show (NR.rec .fail (fun h=>NR.rec .fail (fun m=>gd (Nat.beq (0+h+m) 0) (.ok .es s)) (NR.n 0)) (Cb t (some y) 0):RV)=_
  rw [hh];rfl
 ·by_cases h0:0<xs.length
  ·refine EPrim.mk (v:=.fz i (Option.rec none (fun c=>some (c-0)) c) (ls.flatten.take (i*A.k))) (s':=s) (fun e rec=>?_) (hk _ (hL.take hi _))
   show wth x t _=_;unfold wth;rw [hx]
   show (NR.rec .fail (fun h=>KN A.k xs.length c ls.flatten 0 h s) (Cb t (some y) xs.length):RV)=_
   rw [hh]
   show gd (Nat.ble 0 i && Nat.ble i xs.length) (Bool.rec (.ok .es s) (Option.rec .fail (fun cs'=>.ok (.fz (i-0) (Option.rec none (fun c=>some (c-0)) c) cs') s) (Bi (Nat.mul (i-0) A.k) (CX (Nat.mul 0 A.k) ls.flatten))) (Nat.blt 0 xs.length))=_
   rw [Zj6 (Zjy i),Zj6 hi,show Nat.blt 0 xs.length=true by simpa using h0,show Nat.mul 0 A.k=0 from Nat.zero_mul _]
   show (Option.rec .fail (fun cs'=>.ok (.fz i (Option.rec none (fun c=>some (c-0)) c) cs') s) (Bi (i*A.k) ls.flatten):RV)=_
   rw [EZ (by rw [hl];exact Nat.mul_le_mul_right _ hi)]
  ·obtain rfl:i=0:=by omega
   have hx0:xs.length=0:=by omega
   refine EPrim.mk (v:=.es) (s':=s) (fun e rec=>?_) (hk _ (Jo (.inr rfl)))
   show wth x t _=_;unfold wth;rw [hx]
   show (NR.rec .fail (fun h=>KN A.k xs.length c ls.flatten 0 h s) (Cb t (some y) xs.length):RV)=_
   rw [hh,hx0];rfl
theorem NW {a b:List AV}(h:a.length=n):Bi n (a++b)=some a:=by
 rw [EZ (by rw [Zjt];omega),← h,List.take_left]
variable {g:Nat}
theorem Ox {κ:Type}(hE:EM P e) {H:Sg κ}{ok:κ→List (Hd)→Prop}{p:κ→(Hd)→Prop}(hc:Es e (hdC) (AV.agg) g H ok p):OvOk P 110 (relS (BB (Cp (hdC) g H ok p).R)):=by
 refine K4 g110.b ?_
 rintro args u ⟨⟨xs,c,_⟩,⟨v,_,rfl,⟨_,e0,hL⟩,q,_,rfl,hC,rfl⟩,hok,rfl⟩
 cases e0
 dsimp only at hL
 have hvf:=hL.hf
 have hqf:AM.hf (.fn g [] q)=true:=by
  show (true && hfs q)=true
  rw [H.hf hC];rfl
 obtain ⟨cs,hs,hl,hn⟩:=hL.nth
 refine ⟨by show (AM.hf v && (AM.hf (.fn g [] q) && true))=true;rw [hvf,hqf];rfl,C.of_G hE g110 ?_⟩
 have fin:∀ st a,Ci (p c) xs=a→Frz st (.int .i64 a) ((Cp (hdC) g H ok p).out (xs,c,())):=by
  rintro st a rfl;exact .plain _ rfl
 dsimp only at hC hok
 generalize (Cp (hdC) g H ok p).out (xs,c,())=O at fin ⊢
 conv=>whnf
 refine Ac rfl hs ?_;conv=>whnf
 refine A0 hE xs.length (fun i=>[(0,v),(1,.fn g [] q),(7,.int .i64 (xs.length:Int)),(8,.int .i64 (i:Int))]) (fun _=>[]) (fun i=>∀ j<i,∀ y,xs[j]?=some y→¬p c y) (fun k h=>by omega) (Abs.tells (rs:=[]) ⟨by decide,⟨t9,t9 hqf,r9,r9,trivial⟩,trivial⟩) ?_
 intro i hi hI
 by_cases hlt:i<xs.length
 ·obtain ⟨x,l,r,hx,hxr,hd⟩:=hn i hlt
  have hcall:=hc c q xs x l hC hok (Zj1 hx) hxr
  have hyes:=fun h=>IG hx h hI
  have hno:=fun h=>AK hI (fun y e=>(by rw [hx] at e;cases e;exact h:¬p c y))
  have hlen:l.length=6:=(hdC).len hxr
  skip
  conv=>whnf
  repeat' (first|(refine Ai rfl hs rfl hlt hd ?_;conv=>whnf)|(refine Ay (NW hlen) ?_;conv=>whnf)|(refine hcall _ (fun h st=>?_) (fun h st=>?_) <;> conv=>whnf)|((refine w1 rfl rfl ?_ ?_) <;> intro _ <;> first|(exfalso;omega)|(conv=>whnf))|((first|refine w7 rfl rfl (by omega) ?_|refine ⟨rfl,?_⟩);conv=>whnf)|fail)
  ·exact fin _ _ (hyes h)
  ·exact ⟨hlt,hno h,Abs.tells (rs:=[]) ⟨by decide,⟨t9,t9 hqf,r9,r9,trivial⟩,trivial⟩⟩
 ·conv=>whnf
  repeat' (first|((refine w1 rfl rfl ?_ ?_) <;> intro _ <;> first|(exfalso;omega)|(conv=>whnf))|fail)
  exact fin _ _ (IF fun j hj=>hI j (by omega))
theorem S5 {κ:Type}(hE:EM P e) {H:Sg κ}{ok:κ→List (Fl)→Prop}{p:κ→(Fl)→Prop}(hc:Es e (ftC) (AV.agg) g H ok p):OvOk P 154 (relS (BB (Cp (ftC) g H ok p).R)):=by
 refine K4 g154.b ?_
 rintro args u ⟨⟨xs,c,_⟩,⟨v,_,rfl,⟨_,e0,hL⟩,q,_,rfl,hC,rfl⟩,hok,rfl⟩
 cases e0
 dsimp only at hL
 have hvf:=hL.hf
 have hqf:AM.hf (.fn g [] q)=true:=by
  show (true && hfs q)=true
  rw [H.hf hC];rfl
 obtain ⟨cs,hs,hl,hn⟩:=hL.nth
 refine ⟨by show (AM.hf v && (AM.hf (.fn g [] q) && true))=true;rw [hvf,hqf];rfl,C.of_G hE g154 ?_⟩
 have fin:∀ st a,Ci (p c) xs=a→Frz st (.int .i64 a) ((Cp (ftC) g H ok p).out (xs,c,())):=by
  rintro st a rfl;exact .plain _ rfl
 dsimp only at hC hok
 generalize (Cp (ftC) g H ok p).out (xs,c,())=O at fin ⊢
 conv=>whnf
 refine Ac rfl hs ?_;conv=>whnf
 refine A0 hE xs.length (fun i=>[(0,v),(1,.fn g [] q),(7,.int .i64 (xs.length:Int)),(8,.int .i64 (i:Int))]) (fun _=>[]) (fun i=>∀ j<i,∀ y,xs[j]?=some y→¬p c y) (fun k h=>by omega) (Abs.tells (rs:=[]) ⟨by decide,⟨t9,t9 hqf,r9,r9,trivial⟩,trivial⟩) ?_
 intro i hi hI
 by_cases hlt:i<xs.length
 ·obtain ⟨x,l,r,hx,hxr,hd⟩:=hn i hlt
  have hcall:=hc c q xs x l hC hok (Zj1 hx) hxr
  have hyes:=fun h=>IG hx h hI
  have hno:=fun h=>AK hI (fun y e=>(by rw [hx] at e;cases e;exact h:¬p c y))
  have hlen:l.length=8:=(ftC).len hxr
  skip
  conv=>whnf
  repeat' (first|(refine Ai rfl hs rfl hlt hd ?_;conv=>whnf)|(refine Ay (NW hlen) ?_;conv=>whnf)|(refine hcall _ (fun h st=>?_) (fun h st=>?_) <;> conv=>whnf)|((refine w1 rfl rfl ?_ ?_) <;> intro _ <;> first|(exfalso;omega)|(conv=>whnf))|((first|refine w7 rfl rfl (by omega) ?_|refine ⟨rfl,?_⟩);conv=>whnf)|fail)
  ·exact fin _ _ (hyes h)
  ·exact ⟨hlt,hno h,Abs.tells (rs:=[]) ⟨by decide,⟨t9,t9 hqf,r9,r9,trivial⟩,trivial⟩⟩
 ·conv=>whnf
  repeat' (first|((refine w1 rfl rfl ?_ ?_) <;> intro _ <;> first|(exfalso;omega)|(conv=>whnf))|fail)
  exact fin _ _ (IF fun j hj=>hI j (by omega))
theorem ZI {κ:Type}(hE:EM P e) {H:Sg κ}{ok:κ→List (Nat)→Prop}{p:κ→(Nat)→Prop}(hc:Es e (Ce.u8) (one) g H ok p):OvOk P 191 (relS (BB (Cp (Ce.u8) g H ok p).R)):=by
 refine K4 g191.b ?_
 rintro args u ⟨⟨xs,c,_⟩,⟨v,_,rfl,⟨_,e0,hL⟩,q,_,rfl,hC,rfl⟩,hok,rfl⟩
 cases e0
 dsimp only at hL
 have hvf:=hL.hf
 have hqf:AM.hf (.fn g [] q)=true:=by
  show (true && hfs q)=true
  rw [H.hf hC];rfl
 obtain ⟨cs,hs,hl,hn⟩:=hL.nth
 refine ⟨by show (AM.hf v && (AM.hf (.fn g [] q) && true))=true;rw [hvf,hqf];rfl,C.of_G hE g191 ?_⟩
 have fin:∀ st a,Ci (p c) xs=a→Frz st (.int .i64 a) ((Cp (Ce.u8) g H ok p).out (xs,c,())):=by
  rintro st a rfl;exact .plain _ rfl
 dsimp only at hC hok
 generalize (Cp (Ce.u8) g H ok p).out (xs,c,())=O at fin ⊢
 conv=>whnf
 refine Ac rfl hs ?_;conv=>whnf
 refine A0 hE xs.length (fun i=>[(0,v),(1,.fn g [] q),(7,.int .i64 (xs.length:Int)),(8,.int .i64 (i:Int))]) (fun _=>[]) (fun i=>∀ j<i,∀ y,xs[j]?=some y→¬p c y) (fun k h=>by omega) (Abs.tells (rs:=[]) ⟨by decide,⟨t9,t9 hqf,r9,r9,trivial⟩,trivial⟩) ?_
 intro i hi hI
 by_cases hlt:i<xs.length
 ·obtain ⟨x,l,r,hx,hxr,hd⟩:=hn i hlt
  have hcall:=hc c q xs x l hC hok (Zj1 hx) hxr
  have hyes:=fun h=>IG hx h hI
  have hno:=fun h=>AK hI (fun y e=>(by rw [hx] at e;cases e;exact h:¬p c y))
  have hlen:l.length=1:=(Ce.u8).len hxr
  (obtain ⟨rfl,hx8⟩:=hxr)
  conv=>whnf
  repeat' (first|(refine Ai rfl hs rfl hlt hd ?_;conv=>whnf)|(refine EHead.mk rfl ?_;conv=>whnf)|(refine hcall _ (fun h st=>?_) (fun h st=>?_) <;> conv=>whnf)|((refine w1 rfl rfl ?_ ?_) <;> intro _ <;> first|(exfalso;omega)|(conv=>whnf))|((first|refine w7 rfl rfl (by omega) ?_|refine ⟨rfl,?_⟩);conv=>whnf)|fail)
  ·exact fin _ _ (hyes h)
  ·exact ⟨hlt,hno h,Abs.tells (rs:=[]) ⟨by decide,⟨t9,t9 hqf,r9,r9,trivial⟩,trivial⟩⟩
 ·conv=>whnf
  repeat' (first|((refine w1 rfl rfl ?_ ?_) <;> intro _ <;> first|(exfalso;omega)|(conv=>whnf))|fail)
  exact fin _ _ (IF fun j hj=>hI j (by omega))
theorem ZK {κ:Type}(hE:EM P e) {H:Sg κ}{ok:κ→List (List Nat)→Prop}{p:κ→(List Nat)→Prop}(hc:Es e (bytC) (one) g H ok p):OvOk P 142 (relS (BB (Cp (bytC) g H ok p).R)):=by
 refine K4 g142.b ?_
 rintro args u ⟨⟨xs,c,_⟩,⟨v,_,rfl,⟨_,e0,hL⟩,q,_,rfl,hC,rfl⟩,hok,rfl⟩
 cases e0
 dsimp only at hL
 have hvf:=hL.hf
 have hqf:AM.hf (.fn g [] q)=true:=by
  show (true && hfs q)=true
  rw [H.hf hC];rfl
 obtain ⟨cs,hs,hl,hn⟩:=hL.nth
 refine ⟨by show (AM.hf v && (AM.hf (.fn g [] q) && true))=true;rw [hvf,hqf];rfl,C.of_G hE g142 ?_⟩
 have fin:∀ st a,Ci (p c) xs=a→Frz st (.int .i64 a) ((Cp (bytC) g H ok p).out (xs,c,())):=by
  rintro st a rfl;exact .plain _ rfl
 dsimp only at hC hok
 generalize (Cp (bytC) g H ok p).out (xs,c,())=O at fin ⊢
 conv=>whnf
 refine Ac rfl hs ?_;conv=>whnf
 refine A0 hE xs.length (fun i=>[(0,v),(1,.fn g [] q),(7,.int .i64 (xs.length:Int)),(8,.int .i64 (i:Int))]) (fun _=>[]) (fun i=>∀ j<i,∀ y,xs[j]?=some y→¬p c y) (fun k h=>by omega) (Abs.tells (rs:=[]) ⟨by decide,⟨t9,t9 hqf,r9,r9,trivial⟩,trivial⟩) ?_
 intro i hi hI
 by_cases hlt:i<xs.length
 ·obtain ⟨x,l,r,hx,hxr,hd⟩:=hn i hlt
  have hcall:=hc c q xs x l hC hok (Zj1 hx) hxr
  have hyes:=fun h=>IG hx h hI
  have hno:=fun h=>AK hI (fun y e=>(by rw [hx] at e;cases e;exact h:¬p c y))
  have hlen:l.length=1:=(bytC).len hxr
  (obtain ⟨u,rfl,hu⟩:=hxr)
  conv=>whnf
  repeat' (first|(refine Ai rfl hs rfl hlt hd ?_;conv=>whnf)|(refine EHead.mk rfl ?_;conv=>whnf)|(refine hcall _ (fun h st=>?_) (fun h st=>?_) <;> conv=>whnf)|((refine w1 rfl rfl ?_ ?_) <;> intro _ <;> first|(exfalso;omega)|(conv=>whnf))|((first|refine w7 rfl rfl (by omega) ?_|refine ⟨rfl,?_⟩);conv=>whnf)|fail)
  ·exact fin _ _ (hyes h)
  ·exact ⟨hlt,hno h,Abs.tells (rs:=[]) ⟨by decide,⟨t9,t9 hqf,r9,r9,trivial⟩,trivial⟩⟩
 ·conv=>whnf
  repeat' (first|((refine w1 rfl rfl ?_ ?_) <;> intro _ <;> first|(exfalso;omega)|(conv=>whnf))|fail)
  exact fin _ _ (IF fun j hj=>hI j (by omega))
theorem ZJ {κ:Type}(hE:EM P e) {H:Sg κ}{ok:κ→List (Dk)→Prop}{p:κ→(Dk)→Prop}(hc:Es e (dkC) (AV.agg) g H ok p):OvOk P 182 (relS (BB (Cp (dkC) g H ok p).R)):=by
 refine K4 g182.b ?_
 rintro args u ⟨⟨xs,c,_⟩,⟨v,_,rfl,⟨_,e0,hL⟩,q,_,rfl,hC,rfl⟩,hok,rfl⟩
 cases e0
 dsimp only at hL
 have hvf:=hL.hf
 have hqf:AM.hf (.fn g [] q)=true:=by
  show (true && hfs q)=true
  rw [H.hf hC];rfl
 obtain ⟨cs,hs,hl,hn⟩:=hL.nth
 refine ⟨by show (AM.hf v && (AM.hf (.fn g [] q) && true))=true;rw [hvf,hqf];rfl,C.of_G hE g182 ?_⟩
 have fin:∀ st a,Ci (p c) xs=a→Frz st (.int .i64 a) ((Cp (dkC) g H ok p).out (xs,c,())):=by
  rintro st a rfl;exact .plain _ rfl
 dsimp only at hC hok
 generalize (Cp (dkC) g H ok p).out (xs,c,())=O at fin ⊢
 conv=>whnf
 refine Ac rfl hs ?_;conv=>whnf
 refine A0 hE xs.length (fun i=>[(0,v),(1,.fn g [] q),(7,.int .i64 (xs.length:Int)),(8,.int .i64 (i:Int))]) (fun _=>[]) (fun i=>∀ j<i,∀ y,xs[j]?=some y→¬p c y) (fun k h=>by omega) (Abs.tells (rs:=[]) ⟨by decide,⟨t9,t9 hqf,r9,r9,trivial⟩,trivial⟩) ?_
 intro i hi hI
 by_cases hlt:i<xs.length
 ·obtain ⟨x,l,r,hx,hxr,hd⟩:=hn i hlt
  have hcall:=hc c q xs x l hC hok (Zj1 hx) hxr
  have hyes:=fun h=>IG hx h hI
  have hno:=fun h=>AK hI (fun y e=>(by rw [hx] at e;cases e;exact h:¬p c y))
  have hlen:l.length=3:=(dkC).len hxr
  skip
  conv=>whnf
  repeat' (first|(refine Ai rfl hs rfl hlt hd ?_;conv=>whnf)|(refine Ay (NW hlen) ?_;conv=>whnf)|(refine hcall _ (fun h st=>?_) (fun h st=>?_) <;> conv=>whnf)|((refine w1 rfl rfl ?_ ?_) <;> intro _ <;> first|(exfalso;omega)|(conv=>whnf))|((first|refine w7 rfl rfl (by omega) ?_|refine ⟨rfl,?_⟩);conv=>whnf)|fail)
  ·exact fin _ _ (hyes h)
  ·exact ⟨hlt,hno h,Abs.tells (rs:=[]) ⟨by decide,⟨t9,t9 hqf,r9,r9,trivial⟩,trivial⟩⟩
 ·conv=>whnf
  repeat' (first|((refine w1 rfl rfl ?_ ?_) <;> intro _ <;> first|(exfalso;omega)|(conv=>whnf))|fail)
  exact fin _ _ (IF fun j hj=>hI j (by omega))
def V9:AC:=match Lj with|.mk c _=>c
variable {ps:List AV}
theorem Zi0 (h:Inl e 91 V9 [.tmp 4]) {s:St}{α:Type}{p:α→Prop}{xs:List α}(hc:∀ Q:AV→St→Prop,Q (.int .i64 (Ci p xs)) s→ESc e 142 [v,.fn g [] ps] s Q) (y:(∃ x ∈ xs,p x)→k (.bool true) s) (n:(¬∃ x ∈ xs,p x)→k (.bool false) s):ESc e 91 [v,.fn g [] ps] s k:=by
 refine ESc.inl h ?_;conv=>whnf
 refine hc _ ?_;conv=>whnf
 refine DS rfl rfl (fun h=>?_) (fun h=>?_) <;> conv=>whnf
 ·exact y (idxI_iff.1 h)
 ·exact n (fun q=>by have:=idxI_iff.2 q;omega)
def UP:AC:=match Nq with|.mk c _=>c
theorem Zhj (h:Inl e 151 UP [.tmp 4]) {s:St}{α:Type}{p:α→Prop}{xs:List α}(hc:∀ Q:AV→St→Prop,Q (.int .i64 (Ci p xs)) s→ESc e 191 [v,.fn g [] ps] s Q) (y:(∃ x ∈ xs,p x)→k (.bool true) s) (n:(¬∃ x ∈ xs,p x)→k (.bool false) s):ESc e 151 [v,.fn g [] ps] s k:=by
 refine ESc.inl h ?_;conv=>whnf
 refine hc _ ?_;conv=>whnf
 refine DS rfl rfl (fun h=>?_) (fun h=>?_) <;> conv=>whnf
 ·exact y (idxI_iff.1 h)
 ·exact n (fun q=>by have:=idxI_iff.2 q;omega)
def PL:AC:=match N6 with|.mk c _=>c
theorem Ul (h:Inl e 107 PL [.tmp 4]) {s:St}{α:Type}{p:α→Prop}{xs:List α}(hc:∀ Q:AV→St→Prop,Q (.int .i64 (Ci p xs)) s→ESc e 154 [v,.fn g [] ps] s Q) (y:(∃ x ∈ xs,p x)→k (.bool true) s) (n:(¬∃ x ∈ xs,p x)→k (.bool false) s):ESc e 107 [v,.fn g [] ps] s k:=by
 refine ESc.inl h ?_;conv=>whnf
 refine hc _ ?_;conv=>whnf
 refine DS rfl rfl (fun h=>?_) (fun h=>?_) <;> conv=>whnf
 ·exact y (idxI_iff.1 h)
 ·exact n (fun q=>by have:=idxI_iff.2 q;omega)
def Qh:AC:=match a55 with|.mk c _=>c
theorem UO (h:Inl e 55 Qh [.tmp 4]) {s:St}{α:Type}{p:α→Prop}{xs:List α}(hc:∀ Q:AV→St→Prop,Q (.int .i64 (Ci p xs)) s→ESc e 110 [v,.fn g [] ps] s Q) (y:(∃ x ∈ xs,p x)→k (.bool true) s) (n:(¬∃ x ∈ xs,p x)→k (.bool false) s):ESc e 55 [v,.fn g [] ps] s k:=by
 refine ESc.inl h ?_;conv=>whnf
 refine hc _ ?_;conv=>whnf
 refine DS rfl rfl (fun h=>?_) (fun h=>?_) <;> conv=>whnf
 ·exact y (idxI_iff.1 h)
 ·exact n (fun q=>by have:=idxI_iff.2 q;omega)
def UQ:AC:=match Nw with|.mk c _=>c
theorem Zhk (h:Inl e 139 UQ [.tmp 4]) {s:St}{α:Type}{p:α→Prop}{xs:List α}(hc:∀ Q:AV→St→Prop,Q (.int .i64 (Ci p xs)) s→ESc e 182 [v,.fn g [] ps] s Q) (y:(∃ x ∈ xs,p x)→k (.bool true) s) (n:(¬∃ x ∈ xs,p x)→k (.bool false) s):ESc e 139 [v,.fn g [] ps] s k:=by
 refine ESc.inl h ?_;conv=>whnf
 refine hc _ ?_;conv=>whnf
 refine DS rfl rfl (fun h=>?_) (fun h=>?_) <;> conv=>whnf
 ·exact y (idxI_iff.1 h)
 ·exact n (fun q=>by have:=idxI_iff.2 q;omega)
end Go.AM
