/-
 Functions of the program as the abstract machine reads them, and what is stated of them, checked by the kernel. No conditions.
-/
import Derived.Test.YtacmbogmbfmjeaaGreatStF
import Derived.Test.YtacmbogmbfmjeaaGreatStD
import Derived.Test.YtacmbogmbfmjeaaGreatStE
set_option linter.unusedVariables false
set_option linter.unusedSimpArgs false
set_option linter.unnecessarySimpa false
set_option maxRecDepth 100000
namespace Go.AM
attribute [local irreducible] W
open X
def lgT:List AV→List AV
 | [ag,sq,tl,us,v]=>[ag,sq,tl,us,Ac v]
 | l=>l
variable {l:List AV}
theorem X3 {x:Lg}(h:lgC.r x l):lgC.r x (lgT l):=by
 obtain ⟨ag,sq,tl,us,L⟩:=x
 obtain ⟨_,_,rfl,⟨rfl,h1⟩,_,_,rfl,⟨rfl,h2⟩,_,_,rfl,⟨rfl,h3⟩,_,_,rfl,⟨rfl,h4⟩,v,rfl,h5⟩:=h
 exact ⟨[_],_,rfl,⟨rfl,h1⟩,[_],_,rfl,⟨rfl,h2⟩,[_],_,rfl,⟨rfl,h3⟩,[_],_,rfl,⟨rfl,h4⟩,_,rfl,Ls.cln h5⟩
def MD (args:List AV) (u:AV):Prop:=∃ x l,args=[.agg l]∧lgC.r x l∧x.2.2.2.2.length≤1000∧u=.agg (lgT l)
theorem Zhk {e:Env}(h117:Con e 117 (Ag MD)) {x:Lg}{l:List AV}(h:lgC.r x l) (hs:x.2.2.2.2.length≤1000) (Q:AV→St→Prop) (s:St) (q:Q (.agg (lgT l)) s):ESc e 117 [.agg l] s Q:=by
 refine ESc.rel h117 ⟨_,x,l,rfl,h,hs,rfl⟩ ?_
 rintro u ⟨x',l',e1,-,-,rfl⟩
 cases e1
 exact q
variable {e:Env}
theorem Zll (hE:EM P e) (h159:Con e 159 (Ag (C4 6))):OvOk P 117 (Ag MD):=by
 refine Da g117.b ?_
 rintro args u ⟨⟨ag,sq,tl,us,L⟩,l,rfl,hx,hn,rfl⟩
 have hrow:=lgC.hf hx
 have hrow2:=lgC.hf (X3 hx)
 obtain ⟨v,rfl,o1,o2,o3,o4,hL⟩:=Mt hx
 dsimp only at hn hL
 have hvf:=hL.hf
 have hcf:=(Ls.cln hL).hf
 have hcc:=(Ls.cln hL).cell
 refine ⟨by show (hfs _ && true)=true;rw [hrow];rfl,by show hfs _=true;exact hrow2,C.of_G hE g117 ?_⟩
 have hcd:=fun Q s q=>HZ (A:=lvC) (e:=e) (f:=159) h159 hL (by decide) (by omega) Q s q
 change VW P e 0 _ (Ah [.agg [.int .u32 ag,.int .u32 sq,.int .i64 tl,.int .i64 us,v]] 0 .lf) St0 none [] _
 conv=>whnf
 repeat' (first|(refine Dy (by show Nat.beq (A6 (cellsOf (Ac v))) 1=true;rw [hcc];rfl) ?_;rw [hcc];conv=>whnf)|(refine hcd _ _ ?_;conv=>whnf)|fail)
 exact .agg _ _ (.cons (.plain _ rfl) (.cons (.plain _ rfl) (.cons (.plain _ rfl) (.cons (.plain _ rfl) (.cons (.plain _ hcf) .nil)))))
def KL:AV→AV
 | .es=>.fz 0 none []
 | .fz n _ l=>.fz n none (l.map Ac)
 | v=>v
variable {bl:List (List Nat)}
theorem QZ {ls:List (List AV)}(h:All2 bytC.r bl ls):All2 bytC.r bl (ls.map fun l=>l.map Ac)∧(ls.map fun l=>l.map Ac).flatten=ls.flatten.map Ac:=by
 induction h with
 | nil=>exact ⟨.nil,rfl⟩
 | cons h1 h2 ih=>
  obtain ⟨u,rfl,hu⟩:=h1
  refine ⟨.cons ⟨_,rfl,hu.cln⟩ ih.1,?_⟩
  rw [Zrp,List.flatten_cons,List.flatten_cons,Zqy,ih.2]
variable {v:AV}
theorem Zi6 (h:Ls bytC bl v):Ls bytC bl (KL v):=by
 obtain ⟨ls,a,s,hn⟩:=h
 obtain ⟨k1,k2⟩:=QZ a
 rcases s with ⟨rfl,h1,h2⟩|⟨rfl,h1,h2⟩|⟨c,rfl,h1⟩
 ·rw [Zq7.1 h1];exact E6 (.inl rfl)
 ·rw [Zq7.1 h1]
  exact ⟨[],.nil,.inr (.inr ⟨none,rfl,rfl⟩),by simp⟩
 ·refine ⟨_,k1,.inr (.inr ⟨none,?_,?_⟩),hn⟩
  ·rw [k2];rfl
  ·rw [k2,Zqg];exact h1
def fT:List AV→List AV
 | [n,k,a,m,dv,tv,qv,av]=>[n,k,a,m,Ac dv,Ac tv,Ac qv,KL av]
 | l=>l
def flT:List AV→List AV
 | n::k::a::m::dv::tv::qv::av::l=>n::k::a::m::Ac dv::Ac tv::Ac qv::KL av::flT l
 | l=>l
def F6:AV→AV
 | .fz (n+1) _ l=>.fz (n+1) none (flT l)
 | _=>.nils
def flS (x:Fl):Prop:=x.2.1.2.2.2.length≤1000000∧x.2.2.1.length≤1000000∧x.2.2.2.1.length≤1000000∧x.2.2.2.2.length≤1000000∧∀ b ∈ x.2.2.2.2,b.length≤1000000
variable {x:Fl}
theorem SC (h:ftC.r x l):ftC.r x (fT l):=by
 obtain ⟨n,⟨k,a,m,d⟩,st,sq,da⟩:=x
 obtain ⟨_,_,rfl,⟨rfl,h1⟩,_,_,rfl,⟨_,_,rfl,⟨rfl,k1⟩,_,_,rfl,⟨rfl,k2⟩,_,_,rfl,⟨rfl,k3⟩,dv,rfl,k4⟩,_,_,rfl,⟨tv,rfl,h3⟩,_,_,rfl,⟨qv,rfl,h4⟩,av,rfl,h5⟩:=h
 exact ⟨[_],_,rfl,⟨rfl,h1⟩,[_,_,_,_],_,rfl,⟨[_],_,rfl,⟨rfl,k1⟩,[_],_,rfl,⟨rfl,k2⟩,[_],_,rfl,⟨rfl,k3⟩,_,rfl,Ls.cln k4⟩,[_],_,rfl,⟨_,rfl,Ls.cln h3⟩,[_],_,rfl,⟨_,rfl,Ls.cln h4⟩,_,rfl,Zi6 h5⟩
theorem Zpa (h:ftC.r x l):∃ a b c d e f g i,l=[a,b,c,d,e,f,g,i]:=by
 obtain ⟨n,⟨k,a,m,d⟩,st,sq,da⟩:=x
 obtain ⟨dv,tv,qv,av,rfl,-⟩:=De h
 exact ⟨_,_,_,_,_,_,_,_,rfl⟩
theorem QE:∀ {fs:List Fl}{ls:List (List AV)},All2 ftC.r fs ls→flT ls.flatten=(ls.map fT).flatten∧All2 ftC.r fs (ls.map fT)
 | _,_,.nil=>⟨rfl,.nil⟩
 | _,_,.cons h1 h2=>by
  obtain ⟨a,b,c,d,e,f,g,i,rfl⟩:=Zpa h1
  obtain ⟨k1,k2⟩:=QE h2
  refine ⟨?_,.cons (SC h1) k2⟩
  rw [List.flatten_cons,Zrp,List.flatten_cons,← k1];rfl
theorem RJ {fs:List Fl}(h:Ls ftC fs v):Ls ftC fs (F6 v):=by
 obtain ⟨ls,a,s,hn⟩:=h
 obtain ⟨k1,k2⟩:=QE a
 rcases s with ⟨rfl,h1,h2⟩|⟨rfl,h1,h2⟩|⟨c,rfl,h1⟩
 ·rw [Zq7.1 h1];exact E6 (.inl rfl)
 ·rw [Zq7.1 h1];exact E6 (.inl rfl)
 ·rcases fs with _|⟨x,fs⟩
  ·exact E6 (.inl rfl)
  ·refine ⟨_,k2,.inr (.inr ⟨none,?_,?_⟩),hn⟩
   ·rw [← k1];rfl
   ·exact Gn k2
def Cf (cs:List AV) (j:Nat):List AV:=(cs.take j).map Ac++cs.drop j
variable {j:Nat}{w:AV}
theorem Zny {cs:List AV}(h:cs[j]?=some w):(Cf cs j)[j]?=some w∧j+1≤(Cf cs j).length∧(Cf cs j).take j++[Ac w]++(Cf cs j).drop (j+1)=Cf cs (j+1):=by
 obtain ⟨hlt,rfl⟩:=Zqa.1 h
 have hp:((cs.take j).map Ac).length=j:=by rw [Zqg,Zqz];omega
 have hd:cs.drop j=cs[j]::cs.drop (j+1):=Zqw hlt
 unfold Cf
 refine ⟨?_,?_,?_⟩
 ·rw [Zq4 (by omega),hp,Nat.sub_self,hd];rfl
 ·rw [Zqn,hp,hd];simp;omega
 ·have e1:((cs.take j).map Ac++cs.drop j).take j=(cs.take j).map Ac:=by
   have h0:=List.take_left (l₁:=(cs.take j).map Ac) (l₂:=cs.drop j)
   rw [hp] at h0;exact h0
  have e2:((cs.take j).map Ac++cs.drop j).drop (j+1)=cs.drop (j+1):=by
   rw [List.drop_append,List.drop_of_length_le (by omega),hp,Nat.add_sub_cancel_left,hd];rfl
  rw [e1,e2,List.take_add_one,h,Zqy];rfl
theorem Zhu {ls:List (List AV)}(h:All2 bytC.r bl ls) (j:Nat):hfs (Cf ls.flatten j)=true:=by
 have e1:hfs ls.flatten=true:=JQ h
 have e2:hfs (ls.flatten.map Ac)=true:=by rw [← (QZ h).2];exact JQ (QZ h).1
 refine E2 (hfs_iff.2 fun v hv=>?_) (hfs_iff.2 fun v hv=>hfs_iff.1 e1 v (Zrl hv))
 obtain ⟨w,hw,rfl⟩:=Zq9.1 hv
 exact hfs_iff.1 e2 _ (Zq9.2 ⟨w,Zrg hw,rfl⟩)
def Pf (args:List AV) (u:AV):Prop:=∃ fs v,args=[v]∧Ls ftC fs v∧(fs.length≤1000∧∀ x ∈ fs,flS x)∧u=F6 v
variable {L m:List AV}
theorem ZS {ρ:Nat→Nat}(h:hfs L=true):AG ρ (L++m)=L++AG ρ m:=by
 induction L with
 | nil=>rfl
 | cons y L ih=>
  simp only [hfs,Zqb] at h
  show AY ρ y::AG ρ (L++m)=_
  rw [CO y h.1,ih h.2];rfl
theorem Zfq {n:Nat}(h:hfs L=true):Bj n (L++m)=Bj n m:=by
 induction L with
 | nil=>rfl
 | cons y L ih=>
  simp only [hfs,Zqb] at h
  show (bd n y && Bj n (L++m))=_
  rw [Dd y h.1,ih h.2];rfl
variable {t:AT}{rs:List Nat}
theorem Oa {pi:List AV}{x0 x1 x2 x3:Int}{q1q q2q q3q:AV}{D:List AV}{N i1:Nat}{cp:Option Nat}{nn ii:Int}{s:St}(h:AbsK 0 t s [(2,.sl 0 0 i1 none),(7,v),(8,.int .i64 nn),(9,.int .i64 ii)] ([.row 143 (pi++[.int .i64 x0,.int .u8 x1,.int .i64 x2,.int .i64 x3,q1q,q2q,q3q,.sl 1 0 N cp])]++[.row 76 D]) rs) (hv:AM.hf v=true) (hp:hfs pi=true) (g1:AM.hf q1q=true) (g2:AM.hf q2q=true) (g3:AM.hf q3q=true) (hD:hfs D=true):
 Tells P 0 t s [] (A5 [(2,.sl 0 0 i1 none),(7,v),(8,.int .i64 nn),(9,.int .i64 ii)]) (Al St0 [.row 143 (pi++[.int .i64 x0,.int .u8 x1,.int .i64 x2,.int .i64 x3,q1q,q2q,q3q,.fz N none D])]) []:=by
 refine AbsK.frz (n:=1) h rfl hD rfl rfl rfl rfl ?_ ?_
 ·show [_,(7,CI 1 _ v),_,_]=_
  rw [FF v hv];rfl
 ·show [AObj.row 143 (CE 1 D (pi++[.int .i64 x0,.int .u8 x1,.int .i64 x2,.int .i64 x3,q1q,q2q,q3q,.sl 1 0 N cp]))]=_
  rw [Ni,GJ pi hp]
  show [AObj.row 143 (pi++[_,_,_,_,CI 1 _ q1q,CI 1 _ q2q,CI 1 _ q3q,_])]=_
  rw [FF q1q g1,FF q2q g2,FF q3q g3];rfl
set_option maxHeartbeats 2000000 in
theorem Zlx (hE:EM P e) (h119:Con e 119 (Ag (C4 1))) (h160:Con e 160 (Ag (C4 1))) (h161:Con e 161 (Ag (C4 1))) (h162:Inl e 162 (SG 76 1) [.tmp 2]):OvOk P 118 (Ag Pf):=by
 refine Da g118.b ?_
 rintro args u ⟨fs,v,rfl,hF,⟨hn,hok⟩,rfl⟩
 have hvf:=hF.hf
 have huf:=(RJ hF).hf
 refine ⟨by show (AM.hf v && true)=true;rw [hvf];rfl,huf,C.of_G hE g118 ?_⟩
 obtain ⟨cs,hs',hl',hnth⟩:=hF.nth
 obtain ⟨ls,a,sl,-⟩:=id hF
 obtain rfl:ls.flatten=cs:=sl.l_inj hs'
 obtain ⟨k1,k2⟩:=QE a
 have hpf:∀ i,hfs ((ls.take i).map fT).flatten=true:=fun i=>hfs_iff.2 fun v hv=>by
  obtain ⟨l,hl,hv⟩:=List.mem_flatten.1 hv
  obtain ⟨m,hm,rfl⟩:=Zq9.1 hl
  obtain ⟨x,hx⟩:=a.memR m (Zrg hm)
  exact hfs_iff.1 (ftC.hf (SC hx)) v hv
 have hpl:∀ i,i≤fs.length→((ls.take i).map fT).flatten.length=i*8:=fun i hi=>by
  have key:∀ (hs:List Fl) (ls:List (List AV)),All2 ftC.r hs ls→∀ i,i≤ls.length→((ls.take i).map fT).flatten.length=i*8:=by
   intro hs ls h
   induction h with
   | nil=>intro i hi;simp at hi;subst hi;rfl
   | cons h1 h2 ih=>
    intro i hi
    cases i with
    | zero=>rfl
    | succ i=>
     rw [List.take_succ_cons,Zrp,List.flatten_cons,Zqn,ih i (by simpa using hi),ftC.len (SC h1)]
     show 8+_=_
     omega
  exact key fs ls a i (by rw [← a.length];exact hi)
 have hps:∀ i c,ls[i]?=some c→((ls.take (i+1)).map fT).flatten=((ls.take i).map fT).flatten++fT c:=fun i c hc=>by
  rw [List.take_add_one,hc,Zqy,List.flatten_append];simp
 have hpn:((ls.take fs.length).map fT).flatten=flT ls.flatten:=by rw [k1,a.length,List.take_length]
 have fin0:fs.length=0→∀ st,Frz st .nils (F6 v):=fun h st=>by
  have:F6 v=.nils:=by
   rcases hs' with ⟨rfl,_,_⟩|⟨rfl,_,_⟩|⟨c,rfl,_⟩
   ·rfl
   ·rfl
   ·rw [h];rfl
  rw [this];exact .plain _ rfl
 have fin:fs.length≠0→∀ (st:St) (r:Nat),st.get r=some (.row 143 ((ls.take fs.length).map fT).flatten)→Frz st (.sl r 0 fs.length none) (F6 v):=fun h st r hg=>by
  have:F6 v=.fz fs.length none ((ls.take fs.length).map fT).flatten:=by
   rw [hpn]
   rcases hs' with ⟨rfl,h1,_⟩|⟨rfl,h1,_⟩|⟨c,rfl,_⟩
   ·exact absurd h1 h
   ·exact absurd h1 h
   ·cases hz:fs.length with
    | zero=>exact absurd hz h
    | succ m=>rfl
  rw [this]
  exact .sl r 0 _ _ _ 143 _ _ _ hg (fun i x hx=>by rw [Zqo];exact hx) (Cz (hpf _)) (.inl rfl)
 generalize F6 v=O at *
 change VW P e 0 _ (Ah [v] 0 .lf) St0 none [] _
 conv=>whnf
 repeat' (first|(refine AA rfl hs' ?_;conv=>whnf)|fail)
 refine Ax hE fs.length (fun i=>[(2,MT i 0),(7,v),(8,.int .i64 (fs.length:Int)),(9,.int .i64 (i:Int))]) (fun i=>match i with|0=>[]|i+1=>[.row 143 ((ls.take (i+1)).map fT).flatten]) (fun _=>True) trivial (Abs.tells (rs:=[]) .a) ?_
 intro i hi _
 by_cases hlt:i<fs.length
 ·obtain ⟨x,c,r,hx,hxr,hd⟩:=hnth i hlt
  have hcl:ls[i]?=some c:=by
   obtain ⟨c',h1,h2⟩:=a.get hx
   have:=a.length
   obtain ⟨hll,e1⟩:=Zqa.1 h1
   have hpre:(ls.take i).flatten.length=i*8:=by
    have:=Gn (a.take i)
    rw [Zqz,Nat.min_eq_left (by omega)] at this
    exact this
   have e2:ls.flatten.drop (i*8)=c'++(ls.drop (i+1)).flatten:=by
    conv=>lhs;rw [← List.take_append_drop i ls,List.flatten_append,← hpre,List.drop_left,Zqw hll,List.flatten_cons,e1]
   have hd:ls.flatten.drop (i*8)=c++r:=hd
   rw [hd] at e2
   rw [h1,(List.append_inj e2 (by rw [ftC.len hxr,ftC.len h2])).1]
  obtain ⟨z1,z2,z3,z4,z5⟩:=hok x (Zqv hx)
  have hst:=hps i c hcl
  have hli:=hpl i (by omega)
  have hfi:=hpf i
  have hfi1:=hpf (i+1)
  obtain ⟨n,⟨k,a',m,d⟩,st,sq,da⟩:=x
  obtain ⟨dv,tv,qv,av,rfl,o1,o2,o3,o4,hdv,htv,hqv,hav⟩:=De hxr
  dsimp only at z1 z2 z3 z4 z5
  have hcd:=fun Q s q=>HZ (A:=Ce.u8) (e:=e) (f:=160) h160 hdv (by decide) z1 Q s q
  have hct:=fun Q s q=>HZ (A:=Ce.u8) (e:=e) (f:=119) h119 htv (by decide) z2 Q s q
  have hcq:=fun Q s q=>HZ (A:=u32C) (e:=e) (f:=161) h161 hqv (by decide) z3 Q s q
  have c1:=(Ls.cln hdv).cell
  have c2:=(Ls.cln htv).cell
  have c3:=(Ls.cln hqv).cell
  have g1:=(Ls.cln hdv).hf
  have g2:=(Ls.cln htv).hf
  have g3:=(Ls.cln hqv).hf
  have hst:((ls.take (i+1)).map fT).flatten=((ls.take i).map fT).flatten++[.int .i64 n,.int .u8 (k:Int),.int .i64 a',.int .i64 m,Ac dv,Ac tv,Ac qv,KL av]:=hst
  generalize Ac dv=q1q at *
  generalize Ac tv=q2q at *
  generalize Ac qv=q3q at *
  obtain ⟨dls,da2,dsl,-⟩:=id hav
  have dsl':=dsl
  have hD:∀ j,hfs (Cf dls.flatten j)=true:=Zhu da2
  have hD0:Cf dls.flatten 0=dls.flatten:=rfl
  have hdl:dls.flatten.length=da.length:=by rw [Gn da2];exact Zrc _
  have hDn:Cf dls.flatten da.length=dls.flatten.map Ac:=by
   unfold Cf;rw [← hdl,List.take_length,List.drop_length,Zrk]
  have hN:hfs [.int .i64 n,.int .u8 (k:Int),.int .i64 a',.int .i64 m,q1q,q2q,q3q,.nils]=true:=by
   show (true && (true && (true && (true && (AM.hf q1q && (AM.hf q2q && (AM.hf q3q && (true && true))))))))=true
   rw [g1,g2,g3];rfl
  have b3:∀ (M N:Nat) (cp:Option Nat),Nat.blt 1 M=true→Bj M [.int .i64 n,.int .u8 (k:Int),.int .i64 a',.int .i64 m,q1q,q2q,q3q,.sl 1 0 N cp]=true:=fun M N cp hM=>by
   show (true && (true && (true && (true && (bd M q1q && (bd M q2q && (bd M q3q && (Nat.blt 1 M && true))))))))=true
   rw [Dd _ g1,Dd _ g2,Dd _ g3,hM];rfl
  have mp:∀ (f:Nat→Nat) (r N:Nat) (cp:Option Nat),f 1=r→AG f [.int .i64 n,.int .u8 (k:Int),.int .i64 a',.int .i64 m,q1q,q2q,q3q,.sl 1 0 N cp]=[.int .i64 n,.int .u8 (k:Int),.int .i64 a',.int .i64 m,q1q,q2q,q3q,.sl r 0 N cp]:=fun f r N cp h=>by
   show [_,_,_,_,AY f q1q,AY f q2q,AY f q3q,.sl (f 1) 0 N cp]=_
   rw [CO _ g1,CO _ g2,CO _ g3,h];rfl
  have bq:∀ (N:Nat) (cp:Option Nat),Bj 2 (((ls.take i).map fT).flatten++[.int .i64 n,.int .u8 (k:Int),.int .i64 a',.int .i64 m,q1q,q2q,q3q,.sl 1 0 N cp])=true:=fun N cp=>by rw [Zfq hfi];exact b3 2 N cp rfl
  have mq:∀ (f:Nat→Nat) (N:Nat) (cp:Option Nat),f 1=1→AG f (((ls.take i).map fT).flatten++[.int .i64 n,.int .u8 (k:Int),.int .i64 a',.int .i64 m,q1q,q2q,q3q,.sl 1 0 N cp])=((ls.take i).map fT).flatten++[.int .i64 n,.int .u8 (k:Int),.int .i64 a',.int .i64 m,q1q,q2q,q3q,.sl 1 0 N cp]:=fun f N cp h=>by rw [ZS hfi,mp f 1 N cp h]
  have hda:∀ j,j<da.length→∃ b w,Ls Ce.u8 b w∧b.length≤1000000∧(∀ s:St,s.get 1=some (.row 76 (Cf dls.flatten j))→load1 1 (0+(j:Int).toNat*1) s=some w)∧(∀ s:St,s.get 1=some (.row 76 (Cf dls.flatten j))→storeAt 1 (0+(j:Int).toNat*1) [Ac w] s=some (s.put 1 (.row 76 (Cf dls.flatten (j+1))))):=fun j hj=>by
   obtain ⟨dcs,q1,-,q2⟩:=hav.nth
   obtain ⟨b,_,r2,hb,⟨w,rfl,hw⟩,hd2⟩:=q2 j hj
   have e0:dls.flatten=dcs:=dsl.l_inj q1
   have hw1:dls.flatten[j]?=some w:=by
    rw [e0]
    have hd2:dcs.drop (j*1)=[w]++r2:=hd2
    have:=congrArg List.head? hd2
    rw [Zrc,List.head?_drop] at this
    exact this
   obtain ⟨e1,e2,e3⟩:=Zny hw1
   refine ⟨b,w,hw,z5 b (Zqv hb),fun s hs=>?_,fun s hs=>?_⟩
   ·rw [Int.toNat_natCast,Zqo,Zrc,Qw hs e1]
   ·rw [Int.toNat_natCast,Zqo,Zrc,Gm hs e2]
    show some (s.put 1 (.row 76 ((Cf dls.flatten j).take j++[Ac w]++(Cf dls.flatten j).drop (j+1))))=_
    rw [e3]
  have hcase:(av=.nils∧da.length=0)∨(da.length=0∧Cf dls.flatten 0=[]∧KL av=.fz da.length none (Cf dls.flatten da.length)∧J0 2 av .nils=some false∧∀ s,CS 1 av s=some [])∨∃ y ys,Cf dls.flatten 0=y::ys∧0<da.length∧KL av=.fz da.length none (Cf dls.flatten da.length)∧J0 2 av .nils=some false∧(∀ s,CS 1 av s=some (y::ys))∧(y::ys).length=da.length*1:=by
   rw [hDn,hD0]
   rcases dsl with ⟨rfl,h1,h2⟩|⟨rfl,h1,h2⟩|⟨c,rfl,h1⟩
   ·exact .inl ⟨rfl,h1⟩
   ·exact .inr (.inl ⟨h1,h2,by rw [h1,h2];rfl,rfl,fun s=>rfl⟩)
   ·cases hq:dls.flatten with
    | nil=>
     rw [hq] at hdl
     have hdl:0=da.length:=hdl
     exact .inr (.inl ⟨hdl.symm,rfl,by rw [← hq];rfl,rfl,fun s=>If (by rw [← hdl];rfl) s⟩)
    | cons y ys=>
     rw [hq] at hdl h1
     exact .inr (.inr ⟨y,ys,rfl,by rw [← hdl];simp,rfl,rfl,fun s=>If h1 s,h1⟩)
  clear dsl dsl'
  generalize hNn:da.length=N at hda hcase z4
  rcases hcase with ⟨rfl,hz⟩|⟨rfl,hD0,hdat,hq,hsrc⟩|⟨y,ys,hD0,hz,hdat,hq,hsrc,hlc⟩
  all_goals rcases i with _|i
  all_goals
   conv=>whnf
   repeat' (first|(refine Dy (by show Nat.beq (A6 (cellsOf q1q)) 1=true;rw [c1];rfl) ?_;rw [c1];conv=>whnf)|(refine Dy (by show Nat.beq (A6 (cellsOf q2q)) 1=true;rw [c2];rfl) ?_;rw [c2];conv=>whnf)|(refine Dy (by show Nat.beq (A6 (cellsOf q3q)) 1=true;rw [c3];rfl) ?_;rw [c3];conv=>whnf)|((first|refine Am hs' hlt hd ?_|refine A7 (cs:=[.int .i64 n,.int .u8 (k:Int),.int .i64 a',.int .i64 m,dv,tv,qv,_]) rfl ?_|refine hcd _ _ ?_|refine hct _ _ ?_|refine hcq _ _ ?_|refine ESc.inl h162 ?_|refine Gk rfl rfl (by first|rfl|exact hq) ?_|refine AA rfl (show Sl 1 0 [] .nils from .inl ⟨rfl,rfl,rfl⟩) ?_|refine EL rfl rfl (hsrc _) ?_|refine Qs (m:=N) rfl rfl (hsrc _) rfl hlc (by decide) hz (by omega) ?_|refine BY ?_|refine ⟨rfl,?_⟩);conv=>whnf)|refine v1 ?_ ?_|(intro _;first|omega|conv=>whnf))
  ·refine Ax hE 0 (fun j=>[(2,.nils),(4,.ptr 0 0),(7,v),(8,.int .i64 (fs.length:Int)),(9,.int .i64 (0:Int)),(32,.nils),(33,.int .i64 0),(34,.int .i64 (j:Int))]) (fun _=>[.row 143 [.int .i64 n,.int .u8 (k:Int),.int .i64 a',.int .i64 m,q1q,q2q,q3q,.nils]]) (fun _=>True) trivial (Abs.tells (rs:=[0]) .a) ?_
   intro j hj _
   obtain rfl:j=0:=by omega
   conv=>whnf
   repeat' (first|((first|refine CJ (m:=1) ?_|refine v7 ?_|refine ⟨rfl,?_⟩);conv=>whnf)|refine v1 ?_ ?_|(intro _;first|omega|conv=>whnf))
   exact ⟨hlt,trivial,Abs.tells (rs:=[2]) ⟨by decide,⟨r9,t9,r9,r9,trivial⟩,⟨⟨Bd hfi1,by rw [AX hfi1,hst];rfl⟩,trivial⟩⟩⟩
  ·refine Ax hE 0 (fun j=>[(2,.sl 1 0 (i+1) none),(4,.ptr 0 0),(7,v),(8,.int .i64 (fs.length:Int)),(9,.int .i64 ((i+1:Nat):Int)),(32,.nils),(33,.int .i64 0),(34,.int .i64 (j:Int))]) (fun _=>[.row 143 [.int .i64 n,.int .u8 (k:Int),.int .i64 a',.int .i64 m,q1q,q2q,q3q,.nils],.row 143 ((ls.take (i+1)).map fT).flatten]) (fun _=>True) trivial (Abs.tells (rs:=[1,0]) .a) ?_
   intro j hj _
   obtain rfl:j=0:=by omega
   conv=>whnf
   repeat' (first|((first|refine Cw (m:=1) (n:=i+1) (old:=((ls.take (i+1)).map fT).flatten) rfl rfl rfl rfl hli rfl (by decide) (by omega) ?_|refine v7 ?_|refine ⟨rfl,?_⟩);conv=>whnf)|refine v1 ?_ ?_|(intro _;first|omega|conv=>whnf))
   exact ⟨hlt,trivial,Abs.tells (rs:=[3]) ⟨by decide,⟨r9,t9,r9,r9,trivial⟩,⟨⟨Bd hfi1,by rw [AX hfi1,hst];rfl⟩,trivial⟩⟩⟩
  ·refine Ax hE 0 (fun j=>[(2,.nils),(4,.ptr 0 0),(7,v),(8,.int .i64 (fs.length:Int)),(9,.int .i64 (0:Int)),(32,.sl 1 0 0 (some 0)),(33,.int .i64 (0:Int)),(34,.int .i64 (j:Int))]) (fun j=>[.row 143 [.int .i64 n,.int .u8 (k:Int),.int .i64 a',.int .i64 m,q1q,q2q,q3q,.sl 1 0 0 (some 0)],.row 76 (Cf dls.flatten j)]) (fun _=>True) trivial (Abs.tells (rs:=[0,1]) ⟨by decide,⟨r9,r9,t9,r9,r9,r9,r9,r9,trivial⟩,⟨⟨b3 _ _ _ rfl,by show _=some (AObj.row 143 (AG _ _));rw [mp _ _ _ _ rfl];rfl⟩,⟨Bd (hD 0),by rw [AX (hD 0),hD0];rfl⟩,trivial⟩⟩) ?_
   intro j hj _
   by_cases hjl:j<0
   ·exact absurd hjl (Nat.not_lt_zero _)
   ·obtain rfl:j=0:=by omega
    conv=>whnf
    repeat' (first|((first|refine CJ (m:=1) ?_|refine v7 ?_|refine ⟨rfl,?_⟩);conv=>whnf)|refine v1 ?_ ?_|(intro _;first|omega|conv=>whnf))
    refine ⟨hlt,trivial,?_⟩
    show Tells P 0 _ _ [] _ (Al St0 [.row 143 _]) []
    rw [hst,hdat]
    exact Oa (rs:=[3,1]) (cp:=(some 0)) ⟨rfl,by decide,⟨r9,t9,r9,r9,trivial⟩,⟨⟨bq _ _,by show _=some (AObj.row 143 (AG _ _));rw [mq _ _ _ rfl];rfl⟩,o9 (hD _),trivial⟩⟩ hvf hfi g1 g2 g3 (hD _)
  ·refine Ax hE 0 (fun j=>[(2,.sl 2 0 (i+1) none),(4,.ptr 0 0),(7,v),(8,.int .i64 (fs.length:Int)),(9,.int .i64 ((i+1:Nat):Int)),(32,.sl 1 0 0 (some 0)),(33,.int .i64 (0:Int)),(34,.int .i64 (j:Int))]) (fun j=>[.row 143 [.int .i64 n,.int .u8 (k:Int),.int .i64 a',.int .i64 m,q1q,q2q,q3q,.sl 1 0 0 (some 0)],.row 76 (Cf dls.flatten j),.row 143 ((ls.take (i+1)).map fT).flatten]) (fun _=>True) trivial (Abs.tells (rs:=[1,2,0]) ⟨by decide,⟨r9,r9,t9,r9,r9,r9,r9,r9,trivial⟩,⟨⟨b3 _ _ _ rfl,by show _=some (AObj.row 143 (AG _ _));rw [mp _ _ _ _ rfl];rfl⟩,⟨Bd (hD 0),by rw [AX (hD 0),hD0];rfl⟩,o9 hfi,trivial⟩⟩) ?_
   intro j hj _
   by_cases hjl:j<0
   ·exact absurd hjl (Nat.not_lt_zero _)
   ·obtain rfl:j=0:=by omega
    conv=>whnf
    repeat' (first|((first|refine Cw (m:=1) (n:=i+1) (old:=((ls.take (i+1)).map fT).flatten) rfl rfl rfl rfl hli rfl (by decide) (by omega) ?_|refine v7 ?_|refine ⟨rfl,?_⟩);conv=>whnf)|refine v1 ?_ ?_|(intro _;first|omega|conv=>whnf))
    refine ⟨hlt,trivial,?_⟩
    show Tells P 0 _ _ [] _ (Al St0 [.row 143 _]) []
    rw [hst,hdat]
    exact Oa (rs:=[4,1]) (cp:=(some 0)) ⟨rfl,by decide,⟨r9,t9,r9,r9,trivial⟩,⟨⟨bq _ _,by show _=some (AObj.row 143 (AG _ _));rw [mq _ _ _ rfl];rfl⟩,o9 (hD _),trivial⟩⟩ hvf hfi g1 g2 g3 (hD _)
  ·refine Ax hE N (fun j=>[(2,.nils),(4,.ptr 0 0),(7,v),(8,.int .i64 (fs.length:Int)),(9,.int .i64 (0:Int)),(32,.sl 1 0 N none),(33,.int .i64 (N:Int)),(34,.int .i64 (j:Int))]) (fun j=>[.row 143 [.int .i64 n,.int .u8 (k:Int),.int .i64 a',.int .i64 m,q1q,q2q,q3q,.sl 1 0 N none],.row 76 (Cf dls.flatten j)]) (fun _=>True) trivial (Abs.tells (rs:=[0,2]) ⟨by decide,⟨r9,r9,t9,r9,r9,r9,r9,r9,trivial⟩,⟨⟨b3 _ _ _ rfl,by show _=some (AObj.row 143 (AG _ _));rw [mp _ _ _ _ rfl];rfl⟩,⟨Bd (hD 0),by rw [AX (hD 0),hD0];rfl⟩,trivial⟩⟩) ?_
   intro j hj _
   by_cases hjl:j<N
   ·obtain ⟨b,w,hw,hb,e1,e2⟩:=hda j hjl
    have hcw:=HZ (A:=Ce.u8) (e:=e) (f:=160) h160 hw (by decide) hb
    have hwc:=(Ls.cln hw).cell
    have hj0:0≤(j:Int):=Zrs _
    have hj1:(j:Int)<N:=Int.ofNat_lt.2 hjl
    have hS1:=hD (j+1)
    generalize Cf dls.flatten (j+1)=S1 at *
    generalize Cf dls.flatten j=S0 at *
    conv=>whnf
    repeat' (first|(refine Dy (by show Nat.beq (A6 (cellsOf (Ac w))) 1=true;rw [hwc];rfl) ?_;rw [hwc];conv=>whnf)|((first|refine HD rfl rfl hj0 hj1 ?_|refine BA _ (e1 _ rfl) ?_|refine hcw _ _ ?_|refine BA _ (e2 _ rfl) ?_|refine v7 ?_|refine ⟨rfl,?_⟩);conv=>whnf)|refine v1 ?_ ?_|(intro _;first|omega|conv=>whnf))
    exact ⟨hjl,trivial,Abs.tells (rs:=[0,1]) ⟨by decide,⟨r9,r9,t9,r9,r9,r9,r9,r9,trivial⟩,⟨⟨b3 _ _ _ rfl,by show _=some (AObj.row 143 (AG _ _));rw [mp _ _ _ _ rfl];rfl⟩,o9 hS1,trivial⟩⟩⟩
   ·obtain rfl:j=N:=by omega
    conv=>whnf
    repeat' (first|((first|refine CJ (m:=1) ?_|refine v7 ?_|refine ⟨rfl,?_⟩);conv=>whnf)|refine v1 ?_ ?_|(intro _;first|omega|conv=>whnf))
    refine ⟨hlt,trivial,?_⟩
    show Tells P 0 _ _ [] _ (Al St0 [.row 143 _]) []
    rw [hst,hdat]
    exact Oa (rs:=[3,1]) (cp:=none) ⟨rfl,by decide,⟨r9,t9,r9,r9,trivial⟩,⟨⟨bq _ _,by show _=some (AObj.row 143 (AG _ _));rw [mq _ _ _ rfl];rfl⟩,o9 (hD _),trivial⟩⟩ hvf hfi g1 g2 g3 (hD _)
  ·refine Ax hE N (fun j=>[(2,.sl 2 0 (i+1) none),(4,.ptr 0 0),(7,v),(8,.int .i64 (fs.length:Int)),(9,.int .i64 ((i+1:Nat):Int)),(32,.sl 1 0 N none),(33,.int .i64 (N:Int)),(34,.int .i64 (j:Int))]) (fun j=>[.row 143 [.int .i64 n,.int .u8 (k:Int),.int .i64 a',.int .i64 m,q1q,q2q,q3q,.sl 1 0 N none],.row 76 (Cf dls.flatten j),.row 143 ((ls.take (i+1)).map fT).flatten]) (fun _=>True) trivial (Abs.tells (rs:=[1,3,0]) ⟨by decide,⟨r9,r9,t9,r9,r9,r9,r9,r9,trivial⟩,⟨⟨b3 _ _ _ rfl,by show _=some (AObj.row 143 (AG _ _));rw [mp _ _ _ _ rfl];rfl⟩,⟨Bd (hD 0),by rw [AX (hD 0),hD0];rfl⟩,o9 hfi,trivial⟩⟩) ?_
   intro j hj _
   by_cases hjl:j<N
   ·obtain ⟨b,w,hw,hb,e1,e2⟩:=hda j hjl
    have hcw:=HZ (A:=Ce.u8) (e:=e) (f:=160) h160 hw (by decide) hb
    have hwc:=(Ls.cln hw).cell
    have hj0:0≤(j:Int):=Zrs _
    have hj1:(j:Int)<N:=Int.ofNat_lt.2 hjl
    have hS1:=hD (j+1)
    generalize Cf dls.flatten (j+1)=S1 at *
    generalize Cf dls.flatten j=S0 at *
    conv=>whnf
    repeat' (first|(refine Dy (by show Nat.beq (A6 (cellsOf (Ac w))) 1=true;rw [hwc];rfl) ?_;rw [hwc];conv=>whnf)|((first|refine HD rfl rfl hj0 hj1 ?_|refine BA _ (e1 _ rfl) ?_|refine hcw _ _ ?_|refine BA _ (e2 _ rfl) ?_|refine v7 ?_|refine ⟨rfl,?_⟩);conv=>whnf)|refine v1 ?_ ?_|(intro _;first|omega|conv=>whnf))
    exact ⟨hjl,trivial,Abs.tells (rs:=[0,1,2]) ⟨by decide,⟨r9,r9,t9,r9,r9,r9,r9,r9,trivial⟩,⟨⟨b3 _ _ _ rfl,by show _=some (AObj.row 143 (AG _ _));rw [mp _ _ _ _ rfl];rfl⟩,o9 hS1,o9 hfi,trivial⟩⟩⟩
   ·obtain rfl:j=N:=by omega
    conv=>whnf
    repeat' (first|((first|refine Cw (m:=1) (n:=i+1) (old:=((ls.take (i+1)).map fT).flatten) rfl rfl rfl rfl hli rfl (by decide) (by omega) ?_|refine v7 ?_|refine ⟨rfl,?_⟩);conv=>whnf)|refine v1 ?_ ?_|(intro _;first|omega|conv=>whnf))
    refine ⟨hlt,trivial,?_⟩
    show Tells P 0 _ _ [] _ (Al St0 [.row 143 _]) []
    rw [hst,hdat]
    exact Oa (rs:=[4,1]) (cp:=none) ⟨rfl,by decide,⟨r9,t9,r9,r9,trivial⟩,⟨⟨bq _ _,by show _=some (AObj.row 143 (AG _ _));rw [mq _ _ _ rfl];rfl⟩,o9 (hD _),trivial⟩⟩ hvf hfi g1 g2 g3 (hD _)
 ·obtain rfl:i=fs.length:=by omega
  cases hz:fs.length with
  | zero=>
   conv=>whnf
   repeat' (first|refine v1 ?_ ?_|(intro _;first|omega|conv=>whnf))
   exact fin0 hz _
  | succ m=>
   rw [hz] at fin
   dsimp only
   conv=>whnf
   repeat' (first|refine v1 ?_ ?_|(intro _;first|omega|conv=>whnf))
   exact fin (by omega) _ 0 rfl
def F8:List AV→List AV
 | [a0,a1,a2,a3,a4,a5,a6,a7,a8,a9,a10,a11,H9,H8,hv,b0,b1,b2,b3,lv,fv,b4,b5]=>[a0,a1,a2,a3,a4,a5,a6,a7,a8,a9,a10,a11,H9,H8,I8 hv,b0,b1,b2,b3,Ac lv,F6 fv,b4,b5]
 | l=>l
def KZ (d:Dv):Prop:=(d.2.2.2.1.length≤1000∧∀ x ∈ d.2.2.2.1,MW x)∧d.2.2.2.2.1.2.2.2.2.length≤1000∧d.2.2.2.2.2.1.length≤1000∧∀ x ∈ d.2.2.2.2.2.1,flS x
variable {d:Dv}
theorem Mx (h:dvC.r d l):dvC.r d (F8 l):=by
 obtain ⟨c,bk,⟨ev,lo,sp,po,dn,nl,br⟩,hs,⟨ag,sq,tl,us,L⟩,fs,nx,so⟩:=d
 obtain ⟨_,_,rfl,⟨rfl,h1⟩,_,_,rfl,rfl,ol,_,rfl,h3,_,_,rfl,⟨hv,rfl,h4⟩,_,_,rfl,h5,_,_,rfl,⟨fv,rfl,h6⟩,_,_,rfl,⟨rfl,h7⟩,rfl⟩:=h
 have h5':=X3 h5
 obtain ⟨_,_,rfl,⟨rfl,q1⟩,_,_,rfl,⟨rfl,q2⟩,_,_,rfl,⟨rfl,q3⟩,_,_,rfl,⟨rfl,q4⟩,v,rfl,q5⟩:=h5
 have h3':=h3
 obtain ⟨rfl,-⟩:=Gu h3
 exact ⟨c.c,_,rfl,⟨rfl,h1⟩,[_],_,rfl,rfl,_,_,rfl,h3',[_],_,rfl,⟨_,rfl,R2 h4⟩,_,_,rfl,h5',[_],_,rfl,⟨_,rfl,RJ h6⟩,[_],_,rfl,⟨rfl,h7⟩,rfl⟩
def Jv (args:List AV) (u:AV):Prop:=∃ d l,args=[.agg l]∧dvC.r d l∧KZ d∧u=.agg (F8 l)
theorem Wg (h65:Con e 65 (Ag Jv)) (h:dvC.r d l) (hs:KZ d) (Q:AV→St→Prop) (s:St) (q:Q (.agg (F8 l)) s):ESc e 65 [.agg l] s Q:=by
 refine ESc.rel h65 ⟨_,d,l,rfl,h,hs,rfl⟩ ?_
 rintro u ⟨x',l',e1,-,-,rfl⟩
 cases e1
 exact q
theorem Zld (hE:EM P e) (h116:Con e 116 (Ag OT)) (h117:Con e 117 (Ag MD)) (h118:Con e 118 (Ag Pf)):OvOk P 65 (Ag Jv):=by
 refine Da g65.b ?_
 rintro args u ⟨d,l,rfl,hd,⟨s1,s2,s3⟩,rfl⟩
 have hrow:=dvC.hf hd
 have hrow2:=dvC.hf (Mx hd)
 refine ⟨by show (hfs l && true)=true;rw [hrow];rfl,by show hfs _=true;exact hrow2,C.of_G hE g65 ?_⟩
 obtain ⟨c,bk,⟨ev,lo,sp,po,dn,nl,br⟩,hs,⟨ag,sq,tl,us,L⟩,fs,nx,so⟩:=d
 have hd':=hd
 obtain ⟨_,_,e1,⟨rfl,h1⟩,_,_,rfl,rfl,ol,_,rfl,h3,_,_,rfl,⟨hv,rfl,h4⟩,_,_,rfl,h5,_,_,rfl,⟨fv,rfl,h6⟩,_,_,rfl,⟨rfl,h7⟩,rfl⟩:=hd'
 have hcl:=fun Q s q=>@Zhk e h117 _ _ h5 s2 Q s q
 obtain ⟨_,_,rfl,⟨rfl,q1⟩,_,_,rfl,⟨rfl,q2⟩,_,_,rfl,⟨rfl,q3⟩,_,_,rfl,⟨rfl,q4⟩,lv,rfl,q5⟩:=h5
 obtain ⟨rfl,-⟩:=Gu h3
 subst e1
 have hch:∀ (Q:AV→St→Prop) s,Q (I8 hv) s→ESc e 116 [hv] s Q:=fun Q s q=>by
  refine ESc.rel h116 ⟨_,hs,hv,rfl,h4,s1,rfl⟩ ?_
  rintro u ⟨x',l',e1,-,-,rfl⟩
  cases e1
  exact q
 have hcf:∀ (Q:AV→St→Prop) s,Q (F6 fv) s→ESc e 118 [fv] s Q:=fun Q s q=>by
  refine ESc.rel h118 ⟨_,fs,fv,rfl,h6,s3,rfl⟩ ?_
  rintro u ⟨x',l',e1,-,-,rfl⟩
  cases e1
  exact q
 have c1:=(R2 h4).cell
 have c2:=(RJ h6).cell
 change hfs [_,_,_,_,_,_,_,_,_,_,_,_,_,_,I8 hv,_,_,_,_,Ac lv,F6 fv,_,_]=true at hrow2
 have fin:∀ st,Frz st (.agg [.int .u32 c.id,.int .i64 c.members,.int .i64 c.chunk,.int .i64 c.rows,.int .i64 c.log,.int .i64 c.heads,.bool bk,.int .u32 ev,.int .i64 lo,.bool sp,.int .i64 po,.int .i64 dn,.bool nl,.bool br,I8 hv,.int .u32 ag,.int .u32 sq,.int .i64 tl,.int .i64 us,Ac lv,F6 fv,.int .i64 nx,.bool so]) (.agg (F8 (c.c++([.bool bk]++([.int .u32 ev,.int .i64 lo,.bool sp,.int .i64 po,.int .i64 dn,.bool nl,.bool br]++([hv]++([.int .u32 ag,.int .u32 sq,.int .i64 tl,.int .i64 us,lv]++([fv]++[.int .i64 nx,.bool so])))))))):=fun st=>.plain _ hrow2
 change VW P e 0 _ (Ah [.agg (c.c++[.bool bk,.int .u32 ev,.int .i64 lo,.bool sp,.int .i64 po,.int .i64 dn,.bool nl,.bool br,hv,.int .u32 ag,.int .u32 sq,.int .i64 tl,.int .i64 us,lv,fv,.int .i64 nx,.bool so])] 0 .lf) St0 none [] _
 change ∀ (Q:AV→St→Prop) s,Q (.agg [.int .u32 ag,.int .u32 sq,.int .i64 tl,.int .i64 us,Ac lv]) s→ESc e 117 [.agg [.int .u32 ag,.int .u32 sq,.int .i64 tl,.int .i64 us,lv]] s Q at hcl
 conv=>whnf
 repeat' (first|(refine Dy (by show Nat.beq (A6 (cellsOf (I8 hv))) 1=true;rw [c1];rfl) ?_;rw [c1];conv=>whnf)|(refine Dy (by show Nat.beq (A6 (cellsOf (F6 fv))) 1=true;rw [c2];rfl) ?_;rw [c2];conv=>whnf)|((first|refine hch _ _ ?_|refine hcl _ _ ?_|refine hcf _ _ ?_|refine ⟨rfl,?_⟩);conv=>whnf)|fail)
 exact fin _
def Aj (y:DK):Dk:=(y.bs,y.ws.map (fun w=>(w.at_,w.b)),y.dead)
variable {y:DK}
theorem Ko (h:y.any):DKof (Aj y) y:=⟨h,rfl,rfl,rfl⟩
variable {u:AV}{b:List Nat}
theorem BAt.ls (h:BAt u b) (hb:b.length≤9223372036854775807):Ls Ce.u8 b u:=by
 have e:∀ b:List Nat,(b.map fun (x:Nat)=>[AV.int .u8 (x:Int)]).flatten=Ab b:=by
  intro b
  induction b with
  | nil=>rfl
  | cons x b ih=>rw [Zrp,List.flatten_cons,ih];rfl
 refine ⟨b.map fun (x:Nat)=>[.int .u8 (x:Int)],?_,by rw [e];exact h.1,hb⟩
 refine Ey (by simp) fun i x l h1 h2=>?_
 rw [Zq8,h1] at h2
 cases h2
 exact ⟨rfl,h.2 x (Zqv h1)⟩
theorem Zpl (h:dkV.r y l):dkC.r (Aj y) l:=by
 obtain ⟨rfl,h⟩:=h
 refine ⟨[y.bv],_,rfl,⟨y.bv,rfl,y.us.map fun u=>[u],?_,?_,?_⟩,[y.wv],_,rfl,⟨y.wv,rfl,y.ws.map WR.c,?_,?_,?_⟩,rfl⟩
 ·refine Ey (by rw [Zqg,h.a.bs.length];rfl) fun i b l h1 h2=>?_
  rw [Zq8] at h2
  cases hu:y.us[i]? with
  | none=>rw [hu] at h2;cases h2
  | some u=>
   rw [hu] at h2
   cases h2
   obtain ⟨b',h3,h4⟩:=h.a.bs.get hu
   have h1:y.bs[i]?=some b:=h1
   rw [h1] at h3
   cases h3
   exact ⟨u,rfl,h4.ls (by have:=h.b b (Zqv h1);omega)⟩
 ·have e:∀ us:List AV,(us.map fun u=>[u]).flatten=us:=fun us=>by
   induction us with
   | nil=>rfl
   | cons u us ih=>rw [Zrp,List.flatten_cons,ih];rfl
  rw [e,show (Aj y).1.length=y.us.length from h.a.bs.length.symm]
  exact h.a.bl
 ·have:=h.n
  rw [show (Aj y).1.length=y.us.length from h.a.bs.length.symm];omega
 ·refine Ey (by simp [Aj]) fun i w l h1 h2=>?_
  rw [Zq8] at h2
  have h1:(y.ws.map fun w=>(w.at_,w.b))[i]?=some w:=h1
  rw [Zq8] at h1
  cases hu:y.ws[i]? with
  | none=>rw [hu] at h2;cases h2
  | some u=>
   rw [hu] at h1 h2
   cases h1
   cases h2
   have hm:=Zqv hu
   exact ⟨[.int .i64 u.at_],[u.u],rfl,⟨rfl,AW (h.a.ws u hm).at_⟩,u.u,rfl,(h.a.ws u hm).b.ls (by have:=h.w u hm;omega)⟩
 ·have e:(y.ws.map WR.c).flatten=Ad y.ws:=by unfold Ad;rw [List.flatMap_def]
  rw [e,show (Aj y).2.1.length=y.ws.length from Zqg ..]
  exact h.a.wl
 ·have:=h.m
  rw [show (Aj y).2.1.length=y.ws.length from Zqg ..];omega
theorem All2.map {α β γ:Type}{R:α→γ→Prop}{S:β→γ→Prop}{f:α→β}(h:∀ a c,R a c→S (f a) c):∀ {l:List α}{m:List γ},All2 R l m→All2 S (l.map f) m
 | _,_,.nil=>.nil
 | _,_,.cons h1 h2=>.cons (h _ _ h1) (All2.map h h2)
variable {ys:List DK}
theorem OH (h:Ls dkV ys v):Ls dkC (ys.map Aj) v:=by
 obtain ⟨ls,a,s,hn⟩:=h
 refine ⟨ls,a.map fun _ _ h=>Zpl h,?_,by rw [Zqg];exact hn⟩
 rw [Zqg];exact s
variable {D:List Dk}
theorem Zo3 (h:Ls dkC D v) (hs:∀ d ∈ D,Cq d):∃ ys,Ls dkV ys v∧D=ys.map Aj:=by
 obtain ⟨ls,a,s,hn⟩:=h
 have key:∀ {D:List Dk}{ls:List (List AV)},All2 dkC.r D ls→(∀ d ∈ D,Cq d)→∃ ys,All2 dkV.r ys ls∧D=ys.map Aj:=by
  intro D
  induction D with
  | nil=>intro ls h _;cases h;exact ⟨[],.nil,rfl⟩
  | cons d D ih=>
   intro ls h hs
   cases h with
   | cons h1 h2=>
    obtain ⟨ys,g1,g2⟩:=ih h2 fun x hx=>hs x (by simp [hx])
    obtain ⟨y,hy,rfl⟩:=Jl h1
    refine ⟨y::ys,.cons ⟨rfl,LW hy (hs d (by simp))⟩ g1,?_⟩
    rw [Zrp,← g2]
    congr 1
    obtain ⟨b,w,dd⟩:=d
    have h1:=hy.b
    have h2:=hy.w
    have h3:=hy.d
    dsimp only at h1 h2 h3
    unfold Aj
    rw [h1,h2,h3]
 obtain ⟨ys,g1,g2⟩:=key a hs
 refine ⟨ys,⟨ls,g1,?_,?_⟩,g2⟩
 ·have:ys.length=D.length:=by rw [g2,Zqg]
  rw [this];exact s
 ·have:ys.length=D.length:=by rw [g2,Zqg]
  omega
theorem Znw {x:DKW}(hx:x.ok) (h:Ew x=0):(F7 x).ok:=by
 have hw:BE x.d x.a x.b=0:=by unfold Ew at h;split at h <;> first|assumption|(rename_i hn;exact absurd h hn)
 obtain ⟨q1,q2,q3,q4⟩:=Jr hw
 have hbl:=HV q3
 obtain ⟨p1,p2⟩:=Ot hbl hx.b.2
 have hm:=hx.d.m
 have h24:x.d.ws.length≤1024:=(dskB_iff.1 q1).1.2.2
 refine ⟨⟨?_,JS hx.d.a.bs,?_,fun w hw=>?_⟩,?_,?_,hx.d.b,fun w hw=>?_⟩
 ·exact .inr (.inr ⟨none,by show AV.fz x.d.us.length none (x.d.us.map Ac)=.fz (x.d.us.map Ac).length none (x.d.us.map Ac);rw [Zqg],(Zrc _).symm⟩)
 ·have:∀ L:List WR,(Ad L).length=L.length*2:=fun L=>by
   induction L with
   | nil=>rfl
   | cons w L ih=>rw [Ff,Zqn,ih,Zq3];show 2+_=_;omega
  refine .inr (.inr ⟨none,?_,this _⟩)
  show AV.fz (x.d.ws.length+1) none (Ad (Ev x))=.fz (Ev x).length none (Ad (Ev x))
  unfold Ev
  rw [Zqn,Zqg];rfl
 ·rcases Zq1.1 hw with hw|hw
  ·obtain ⟨v,hv,rfl⟩:=Zq9.1 hw
   exact HS (hx.d.a.ws v hv)
  ·rw [List.mem_singleton.1 hw]
   exact ⟨hx.a,p1⟩
 ·show (x.d.us.map Ac).length<_;rw [Zqg];exact hx.d.n
 ·show (Ev x).length<_;unfold Ev;rw [Zqn,Zqg];simp;omega
 ·rcases Zq1.1 hw with hw|hw
  ·obtain ⟨v,hv,rfl⟩:=Zq9.1 hw
   exact hx.d.w v hv
  ·rw [List.mem_singleton.1 hw]
   show (Ae x.b).length<_
   omega
def uB (b:List Nat):AV:=if b.length=0 then .nils else .fz b.length none (Ab b)
theorem Zoq (h:∀ x ∈ b,x<256):BAt (uB b) b:=by
 unfold uB
 split
 ·rename_i h0
  rw [Zq7.1 h0]
  exact ⟨.inl ⟨rfl,rfl,rfl⟩,fun x hx=>by cases hx⟩
 ·exact ⟨.inr (.inr ⟨none,rfl,by rw [Bt];exact (Zrc _).symm⟩),h⟩
def CM (y:DK) (a:Int) (b:List Nat):DKW:=⟨y,a,uB b,b⟩
theorem Zit {x:DKW}(hx:x.ok) (h:Ew x=0):AP (F7 x)=true:=by
 have hw:BE x.d x.a x.b=0:=by unfold Ew at h;split at h <;> first|assumption|(rename_i hn;exact absurd h hn)
 obtain ⟨q1,q2,q3,q4⟩:=Jr hw
 have hbl:=HV q3
 obtain ⟨p1,p2⟩:=Ot hbl hx.b.2
 obtain ⟨⟨r1,r2,r3⟩,r4,r5,r6⟩:=dskB_iff.1 q1
 have h24:x.d.ws.length≠1024:=fun e=>by unfold Ew at h;rw [Zqd hw,Zqd e] at h;cases h
 have hus:(F7 x).us.length=x.d.us.length:=Zqg ..
 refine dskB_iff.2 ⟨⟨by omega,by omega,?_⟩,r4,fun w hwm=>?_,fun hd=>?_⟩
 ·show (Ev x).length≤_
  unfold Ev;rw [Zqn,Zqg];simp;omega
 ·rw [hus]
  rcases Zq1.1 hwm with hwm|hwm
  ·obtain ⟨v,hv,rfl⟩:=Zq9.1 hwm
   exact r5 v hv
  ·rw [List.mem_singleton.1 hwm]
   unfold Bm
   simp only [Zru,Zrf]
   refine ⟨⟨by omega,by omega⟩,?_⟩
   show AQ (Ae x.b).length=false
   rw [p2];rfl
 ·have:x.d.dead=true:=hd
  rw [q4] at this;cases this
def Cv (y:DK):Act→Int×DK
 | (_,k,a,b)=>if y.dead=true then (0,y) else if k=1 then (Ew (CM y a b),F7 (CM y a b)) else if k=2 then (BE y a b,ED (CM y a b)) else (GA y,Du y)
def DA (Y:List DK) (a:Act):Int×List DK:=match Y[a.1.toNat]? with
 | none=>(0,Y)
 | some y=>((Cv y a).1,Y.set a.1.toNat (Cv y a).2)
def AB (Y:List DK) (l:List Act):Nat→List DK
 | 0=>Y
 | i+1=>match l[i]? with
  | none=>AB Y l i
  | some a=>(DA (AB Y l i) a).2
def Bc (Y:List DK) (l:List Act):Nat→Int
 | 0=>0
 | i+1=>if Bc Y l i≠0 then Bc Y l i else match l[i]? with
  | none=>0
  | some a=>(DA (AB Y l i) a).1
theorem Lu {Y:List DK}{l:List Act}{i:Nat}(h:Bc Y l i≠0):∀ n,i≤n→Bc Y l n=Bc Y l i
 | 0,hn=>by rw [show i=0 by omega]
 | n+1,hn=>by
  rcases Nat.lt_or_eq_of_le hn with hn|rfl
  ·have:=Lu h n (by omega)
   show (if Bc Y l n≠0 then Bc Y l n else _)=_
   rw [Zqd (by rw [this];exact h),this]
  ·rfl
def BQ (Y:List DK):List AV:=Y.flatMap DK.c
theorem Rl:∀ ys:List DK,(BQ ys).length=ys.length*3
 | []=>rfl
 | y::ys=>by unfold BQ;rw [List.flatMap_cons,Zqn,show (ys.flatMap DK.c).length=ys.length*3 from Rl ys,Zq3];show 3+_=_;omega
theorem O7 (h:∀ y ∈ ys,y.ok):hfs (BQ ys)=true:=by
 refine hfs_iff.2 fun v hv=>?_
 obtain ⟨y,hy,hv⟩:=List.mem_flatMap.1 hv
 have e:AM.hf (.agg y.c)=true:=DK.hf (h y hy).a
 have e:hfs y.c=true:=by simpa [AM.hf] using e
 exact hfs_iff.1 e v hv
theorem VA:∀ {ys:List DK}{i:Nat}{y:DK},ys[i]?=some y→(BQ ys).drop (i*3)=y.c++BQ (ys.drop (i+1))
 | [],_,_,h=>by cases h
 | x::ys,0,y,h=>by cases h;rfl
 | x::ys,i+1,y,h=>by
  show (x.c++BQ ys).drop ((i+1)*3)=_
  rw [show (i+1)*3=x.c.length+i*3 by show _=3+_;omega,List.drop_append,Nat.add_sub_cancel_left,VA (ys:=ys) h,Zq5 (show x.c.length≤x.c.length+i*3 by omega)];rfl
theorem Wy:∀ {ys:List DK}{i:Nat}{y:DK},i<ys.length→(BQ ys).take (i*3)++y.c++(BQ ys).drop (i*3+3)=BQ (ys.set i y)
 | [],_,_,h=>by cases h
 | x::ys,0,y,h=>rfl
 | x::ys,i+1,y,h=>by
  show (x.c++BQ ys).take ((i+1)*3)++y.c++(x.c++BQ ys).drop ((i+1)*3+3)=x.c++BQ (ys.set i y)
  rw [show (i+1)*3=x.c.length+i*3 by show _=3+_;omega,List.take_append,Zr6,List.drop_append,Zqi (by omega),Nat.add_sub_cancel_left,List.append_assoc,List.append_assoc,← List.append_assoc (List.take _ _),← Wy (ys:=ys) (i:=i) (y:=y) (by simpa using h),List.append_assoc]
  rw [Zq5 (show x.c.length≤x.c.length+(i*3+3) by omega),List.nil_append,Nat.add_sub_cancel_left]
  simp only [List.append_assoc]
theorem Zf8 (ys:List DK):DV ys=BQ (ys.map Ao):=by unfold DV BQ;rw [List.flatMap_map]
def Fc (Y:List DK):Prop:=∀ y ∈ Y,y.ok∧AP y=true
variable {a:Int}
theorem R1 (hy:y.ok) (ha:Aa a) (hb:∀ x ∈ b,x<256) (hs:BB b):(CM y a b).ok:=⟨hy,ha,Zoq hb,by unfold BB at hs;show b.length<_;omega⟩
variable {k:Int}
theorem Zdu {d:Nat}(hy:y.ok∧AP y=true) (ha:Aa a) (hb:∀ x ∈ b,x<256) (hs:d≠3→BB b) (hd:1≤d∧d≤3) (he:(Cv y (k,d,a,b)).1=0):((Cv y (k,d,a,b)).2.ok∧AP (Cv y (k,d,a,b)).2=true)∧(Cv y (k,d,a,b)).2.us.length=y.us.length:=by
 unfold Cv at he ⊢
 dsimp only at he ⊢
 split
 ·exact ⟨hy,rfl⟩
 ·rename_i hdd
  rw [Zqh hdd] at he
  by_cases h1:d=1
  ·rw [Zqd h1] at he ⊢
   have hx:=R1 hy.1 ha hb (hs (by omega))
   exact ⟨⟨Znw hx he,Zit hx he⟩,Zqg ..⟩
  ·rw [Zqh h1] at he ⊢
   by_cases h2:d=2
   ·rw [Zqd h2] at he ⊢
    have hx:=R1 hy.1 ha hb (hs (by omega))
    exact ⟨⟨Wr hx he,Ze0 hx he⟩,QD _⟩
   ·rw [Zqh h2] at he ⊢
    exact ⟨⟨RK hy.1,Zie hy.1 hy.2⟩,Ws _⟩
theorem L5 {ys Y0:List DK}{l:List Act}(hY:Fc Y0) (hl:∀ x ∈ l,Aa x.2.2.1∧(∀ z ∈ x.2.2.2,z<256)∧D3 (ys.map Aj) x):∀ i,Bc Y0 l i=0→Fc (AB Y0 l i)∧(AB Y0 l i).length=Y0.length∧∀ (j:Nat) (y:DK),(AB Y0 l i)[j]?=some y→∃ z,Y0[j]?=some z∧y.us.length=z.us.length
 | 0,_=>⟨hY,rfl,fun j y h=>⟨y,h,rfl⟩⟩
 | i+1,he=>by
  have h0:Bc Y0 l i=0:=Classical.byContradiction fun h=>by
   have:=Lu h (i+1) (by omega)
   rw [this] at he;exact h he
  obtain ⟨g1,g2,g3⟩:=L5 hY hl i h0
  have he:(match l[i]? with|none=>0|some a=>(DA (AB Y0 l i) a).1)=0:=by
   have he:(if Bc Y0 l i≠0 then Bc Y0 l i else match l[i]? with|none=>0|some a=>(DA (AB Y0 l i) a).1)=0:=he
   rw [Zqh (by rw [h0];decide)] at he
   exact he
  rw [show AB Y0 l (i+1)=match l[i]? with|none=>AB Y0 l i|some a=>(DA (AB Y0 l i) a).2 from rfl]
  cases hx:l[i]? with
  | none=>exact ⟨g1,g2,g3⟩
  | some x=>
   rw [hx] at he
   dsimp only at he ⊢
   obtain ⟨p1,p2,p3⟩:=hl x (Zqv hx)
   generalize AB Y0 l i=Y at *
   unfold DA at he ⊢
   cases hy:Y[x.1.toNat]? with
   | none=>exact ⟨g1,g2,g3⟩
   | some y=>
    rw [hy] at he
    dsimp only at he ⊢
    have hgy:=g1 y (Zqv hy)
    obtain ⟨k,d,a,b⟩:=x
    unfold D3 at p3
    obtain ⟨q1,q2⟩:=Zdu hgy p1 p2 (fun h=>(p3.2.2.2 h).2) p3.2.1 he
    refine ⟨fun z hz=>?_,by rw [List.length_set];exact g2,fun j z hz=>?_⟩
    ·rcases List.mem_or_eq_of_mem_set hz with h|rfl
     ·exact g1 z h
     ·exact q1
    ·by_cases hj:k.toNat=j
     ·subst hj
      dsimp only at hy hz
      rw [List.getElem?_set_self (Zqa.1 hy).1] at hz
      cases hz
      obtain ⟨w,hw,hw2⟩:=g3 _ _ hy
      exact ⟨w,hw,by rw [q2];exact hw2⟩
     ·dsimp only at hz
      rw [List.getElem?_set_ne hj] at hz
      exact g3 j z hz
noncomputable def E8 (ys:List DK) (l:List Act) (n:Int):AV:=if Dm l (ys.map Aj)=0 then (if 0≤n∧n≤l.length then (if Bc (ys.map Ao) (l.take n.toNat) n.toNat=0 then .tup [.fz ys.length none (BQ (AB (ys.map Ao) (l.take n.toNat) n.toNat)),.int .i64 0] else .tup [.nils,.int .i64 (Bc (ys.map Ao) (l.take n.toNat) n.toNat)]) else .tup [.nils,.int .i64 2]) else .tup [.nils,.int .i64 (Dm l (ys.map Aj))]
noncomputable def runF:Fn (List DK×List Act×Int×Unit):=⟨.v dkV.sl (.v actC.sl (.v i64C .nil)),fun _=>True,fun x=>E8 x.1 x.2.1 x.2.2.1⟩
def Y5:AC:=match a85 with|.mk c _=>c
def Y4:AC:=match a86 with|.mk c _=>c
def Y3:AC:=match a87 with|.mk c _=>c
theorem VM {x:DK}(h:AP x=true):AP (Ao x)=true:=by
 obtain ⟨r,r4,r5,r6⟩:=dskB_iff.1 h
 have hus:(Ao x).us.length=x.us.length:=Zqg ..
 have hws:(Ao x).ws.length=x.ws.length:=Zqg ..
 refine dskB_iff.2 ⟨by omega,r4,fun w hw=>?_,fun hd=>?_⟩
 ·obtain ⟨v,hv,rfl⟩:=Zq9.1 hw
  rw [hus];exact r5 v hv
 ·have:=r6 hd
  exact ⟨by omega,this.2⟩
theorem XH {l:List Act}(hok:∀ y ∈ ys,y.ok) (h:Dm l (ys.map Aj)=0):(1≤ys.length∧ys.length≤17)∧Fc ys∧(∀ a ∈ l,D3 (ys.map Aj) a):=by
 unfold Dm at h
 split at h
 ·rename_i hd
  split at h
  ·cases h
  ·split at h
   ·rename_i hm
    refine ⟨by have:=hd.1;rw [Zqg] at this;exact this,fun y hy=>⟨hok y hy,?_⟩,hm⟩
    have:=hd.2 (Aj y) (Zq9.2 ⟨y,hy,rfl⟩)
    rw [← Kn (Ko (hok y hy).a)] at this
    exact this
   ·cases h
 ·cases h
def KH (ys:List DK) (l:List Act) (n:Int) (u:AV) (st:St):Prop:=(E8 ys l n=u∧∃ z,u=.tup [.nils,.int .i64 z])∨(Dm l (ys.map Aj)=0∧(0≤n∧n≤l.length)∧Bc (ys.map Ao) (l.take n.toNat) n.toNat=0∧Fc (AB (ys.map Ao) (l.take n.toNat) n.toNat)∧u=.tup [.sl 0 0 ys.length none,.int .i64 0]∧st.get 0=some (.row 60 (BQ (AB (ys.map Ao) (l.take n.toNat) n.toNat))))
variable {n:Int}
set_option maxHeartbeats 2000000 in
theorem Zou (hE:EM P e) (h36:Con e 36 achF.O) (h37:Con e 37 (relS M3)) (h38:Inl e 38 SJ [.tmp 2]) (h63:Con e 63 fuaF.O) (h85:Inl e 85 Y5 [.cells 4 3,.tmp 5]) (h86:Inl e 86 Y4 [.cells 4 3,.tmp 5]) (h87:Inl e 87 Y3 [.cells 4 3,.tmp 5]) (h140:Con e 140 dwF.O) (h141:Con e 141 fluF.O)  {l:List Act}(hL:Ls dkV ys v) (hA:Ls actC l w):C P 11 [v,w,.int .i64 n] St0 (KH ys l n):=by
 have hvf:=hL.hf
 have hwf:=hA.hf
 have hoks:∀ y ∈ ys,y.ok:=fun y hy=>by obtain ⟨l,-,h⟩:=hL.mem hy;exact h
 obtain ⟨cs,hs',hl',-⟩:=hA.nth
 refine C.of_G hE g11 ?_
 have hch:∀ (Q:AV→St→Prop) s,Q (.int .i64 (Dm l (ys.map Aj))) s→ESc e 36 [w,v] s Q:=fun Q s k=>Fn.u (F:=achF) h36 (l,ys.map Aj,()) ⟨_,_,rfl,⟨_,rfl,hA⟩,_,_,rfl,⟨_,rfl,OH hL⟩,rfl⟩ (fun d hd=>by
  obtain ⟨y,hy,rfl⟩:=Zq9.1 hd
  have h1:=hoks y hy
  refine ⟨by have h2:=h1.n;rw [h1.a.bs.length] at h2;exact h2,by show (List.map _ y.ws).length<_;rw [Zqg];exact h1.m,h1.b,fun w hw=>?_⟩
  obtain ⟨x,hx,rfl⟩:=Zq9.1 hw
  exact h1.w x hx) k
 have fin:∀ st z,E8 ys l n=.tup [.nils,.int .i64 z]→KH ys l n (.tup [.nils,.int .i64 z]) st:=fun st z h=>.inl ⟨h,_,rfl⟩
 have fin2:Dm l (ys.map Aj)=0→(0≤n∧n≤l.length)→Bc (ys.map Ao) (l.take n.toNat) n.toNat=0→Fc (AB (ys.map Ao) (l.take n.toNat) n.toNat)→∀ st,st.get 0=some (.row 60 (BQ (AB (ys.map Ao) (l.take n.toNat) n.toNat)))→KH ys l n (.tup [.sl 0 0 ys.length none,.int .i64 0]) st:=fun a b c d st h=>.inr ⟨a,b,c,d,rfl,h⟩
 change VW P e 0 _ (Ah [v,w,.int .i64 n] 0 .lf) St0 none [] (BW _ (KH ys l n))
 generalize KH ys l n=K at *
 by_cases hc:Dm l (ys.map Aj)=0
 ·obtain ⟨hn17,hgd,hmy⟩:=XH hoks hc
  have hO:E8 ys l n=if 0≤n∧n≤l.length then (if Bc (ys.map Ao) (l.take n.toNat) n.toNat=0 then .tup [.fz ys.length none (BQ (AB (ys.map Ao) (l.take n.toNat) n.toNat)),.int .i64 0] else .tup [.nils,.int .i64 (Bc (ys.map Ao) (l.take n.toNat) n.toNat)]) else .tup [.nils,.int .i64 2]:=by unfold E8;rw [Zqd hc]
  rw [hc] at hch
  by_cases hn:0≤n∧n≤l.length
  ·rw [Zqd hn] at hO
   obtain ⟨m,rfl⟩:∃ m:Nat,n=m:=⟨n.toNat,by omega⟩
   rw [Int.toNat_natCast] at hO
   have hml:m≤l.length:=by omega
   have htl:(l.take m).length=m:=by rw [Zqz];omega
   have htw:∀ (Q:AV→St→Prop) s,(∀ s',s'=s.alloc (.row 60 (BQ (ys.map Ao)))→Q (.sl s.next 0 ys.length none) s')→ESc e 37 [v] s Q:=fun Q s k=>by
    refine ESc.relS h37 (u:=.sl s.next 0 ys.length none) (s':=s.alloc (.row 60 (DV ys))) ⟨v,ys,rfl,hL,⟨hn17.1,by omega⟩,fun y hy=>(dskB_iff.1 (hgd y hy).2).1.1,rfl,rfl⟩ ?_
    rintro u s' ⟨v',ys',e1,hL',-,-,rfl,rfl⟩
    cases e1
    rw [hL'.inj hL]
    exact k _ (by rw [Zf8])
   have hg0:Fc (ys.map Ao):=fun y hy=>by
    obtain ⟨x,hx,rfl⟩:=Zq9.1 hy
    exact ⟨Ry (hgd x hx).1,VM (hgd x hx).2⟩
   have hY0:(ys.map Ao).length=ys.length:=Zqg ..
   have hact:∀ x ∈ l.take m,Aa x.2.2.1∧(∀ z ∈ x.2.2.2,z<256)∧D3 (ys.map Aj) x:=fun x hx=>by
    have hx:=Zrg hx
    obtain ⟨c,hc⟩:=hA.mem hx
    have hm:=hmy x hx
    obtain ⟨k,d,a,b⟩:=x
    obtain ⟨u,-,-,-,h3,h4⟩:=OB hc
    exact ⟨h3,h4.b.2,hm⟩
   have hrg:=L5 hg0 hact
   have hmm:∀ i,i<m→Bc (ys.map Ao) (l.take m) (i+1)≠0→∀ st,K (.tup [.nils,.int .i64 (Bc (ys.map Ao) (l.take m) (i+1))]) st:=fun i hi he st=>by
    refine fin st _ ?_
    have:=Lu he m (by omega)
    rw [hO,Zqh (by rw [this];exact he),this]
   have hend:Bc (ys.map Ao) (l.take m) m=0→∀ st,st.get 0=some (.row 60 (BQ (AB (ys.map Ao) (l.take m) m)))→K (.tup [.sl 0 0 ys.length none,.int .i64 0]) st:=fun he st hg=>fin2 hc hn he (hrg m he).1 st hg
   generalize hYY:ys.map Ao=Y0 at *
   clear hO hc
   conv=>whnf
   repeat' (first|(refine htw _ _ (fun s' hs'=>?_);subst hs';conv=>whnf)|(refine Nu rfl hA rfl rfl hml (fun u hu=>?_);conv=>whnf)|((first|refine hch _ _ ?_|refine AA rfl hs' ?_);conv=>whnf)|refine v1 ?_ ?_|refine v3 ?_ ?_|refine v6 ?_ ?_|(intro _;first|omega|conv=>whnf))
   generalize hA0:l.take m=A at *
   obtain ⟨us,hus,hul,hun⟩:=hu.nth
   have huf:=hu.hf
   refine Ai hus ?_
   rw [htl]
   conv=>whnf
   skip
   refine Ax hE m (fun i=>[(9,.sl 0 0 ys.length none),(33,u),(34,.int .i64 (m:Int)),(35,.int .i64 (i:Int))]) (fun i=>[.row 60 (BQ (AB Y0 A i))]) (fun i=>Bc Y0 A i=0) rfl (Abs.tells (rs:=[0]) ⟨by decide,⟨r9,t9,r9,r9,trivial⟩,⟨o9 (O7 fun y hy=>((hrg 0 rfl).1 y hy).1),trivial⟩⟩) ?_
   intro i hi hI
   by_cases hlt:i<m
   ·obtain ⟨⟨k,d,a,b⟩,c,r,hx,hxr,hd⟩:=hun i (by omega)
    obtain ⟨bv,rfl,i1,i2,i3,hb⟩:=OB hxr
    obtain ⟨j1,j2,hmay⟩:=hact _ (Zqv hx)
    unfold D3 at hmay
    obtain ⟨⟨m1,m2⟩,m3,m4,m5⟩:=hmay
    rw [Zqg] at m2
    dsimp only at j1 j2
    obtain ⟨g1,g2,g3⟩:=hrg i hI
    have hm1:AB Y0 A (i+1)=(DA (AB Y0 A i) (k,d,a,b)).2:=by
     show (match A[i]? with|none=>AB Y0 A i|some a=>(DA (AB Y0 A i) a).2)=_
     rw [hx]
    have hm2:Bc Y0 A (i+1)=(DA (AB Y0 A i) (k,d,a,b)).1:=by
     show (if Bc Y0 A i≠0 then Bc Y0 A i else match A[i]? with|none=>0|some a=>(DA (AB Y0 A i) a).1)=_
     rw [Zqh (by rw [hI];decide),hx]
    have hre:=hmm i hlt
    have hgn:=hrg (i+1)
    rw [hm1,hm2] at hgn
    rw [hm2] at hre
    rw [hm1,hm2]
    generalize AB Y0 A i=Y at *
    obtain ⟨y,hy⟩:∃ y,Y[k.toNat]?=some y:=⟨_,Zp9 (by omega)⟩
    have hgy:=g1 y (Zqv hy)
    unfold DA at hre hgn ⊢
    dsimp only at hre hgn ⊢
    rw [hy] at hre hgn ⊢
    dsimp only at hre hgn ⊢
    have hlk:k.toNat*3+3≤(BQ Y).length:=by rw [Rl];omega
    have hld:((BQ Y).drop (k.toNat*3)).take 3=y.c:=by rw [VA hy];exact List.take_left' rfl
    have hset:=fun z=>Wy (ys:=Y) (i:=k.toNat) (y:=z) (by omega)
    conv=>whnf
    repeat' (first|((first|refine El rfl hus rfl (show i<A.length by omega) hd ?_|refine A7 (cs:=[.int .i64 k,.int .u8 (d:Int),.int .i64 a,bv]) rfl ?_|refine HD rfl rfl m1 m2 ?_);conv=>whnf)|refine v1 ?_ ?_|(intro _;first|omega|conv=>whnf))
    have huf':=hb.hf
    cases hdd:y.dead with
    | true=>
     have hst:Cv y (k,d,a,b)=(0,y):=by unfold Cv;dsimp only;rw [Zqd hdd]
     rw [hst] at hre hgn ⊢
     have hsy:Y.set k.toNat y=Y:=by rw [← Zqa.1 hy |>.2];exact List.set_getElem_self ..
     dsimp only at hre hgn ⊢
     rw [hsy]
     have hhf:=O7 fun y hy=>(g1 y hy).1
     have hyc:y.c=[y.bv,y.wv,.bool true]:=by rw [← hdd];rfl
     refine BA [y.bv,y.wv,.bool true] (by show load 0 (0+k.toNat*3) 3 _=_;rw [Zqo,GR (e:=60) (cs:=BQ Y) rfl hlk,hld,hyc]) ?_;conv=>whnf
     repeat' (first|((first|refine v7 ?_|refine ⟨rfl,?_⟩);conv=>whnf)|fail)
     refine ⟨hlt,rfl,Abs.tells (rs:=[0]) .a⟩
    | false=>
     have hst:Cv y (k,d,a,b)=(if d=1 then (Ew (CM y a b),F7 (CM y a b)) else if d=2 then (BE y a b,ED (CM y a b)) else (GA y,Du y)):=by unfold Cv;dsimp only;rw [Zqh (by rw [hdd];decide)]
     have hyc:y.c=[y.bv,y.wv,.bool false]:=by rw [← hdd];rfl
     have hk:d≠3→DKW.ok ⟨y,a,bv,b⟩:=fun h=>⟨hgy.1,j1,hb.b,by have:=(m5 h).2;unfold BB at this;show b.length<_;omega⟩
     obtain ⟨E,D,z1,z2,z3,hED,hz,c1,c2,c3⟩:∃ E D z1 z2 z3,Cv y (k,d,a,b)=(E,D)∧(E=0→[z1,z2,z3]=D.c)∧(d=1→∀ (Q:AV→St→Prop) s,Q (.tup [.agg [z1,z2,z3],.int .i64 E]) s→ESc e 140 [.agg y.c,.int .i64 a,bv] s Q)∧(d=2→∀ (Q:AV→St→Prop) s,Q (.tup [.agg [z1,z2,z3],.int .i64 E]) s→ESc e 63 [.agg y.c,.int .i64 a,bv] s Q)∧(d=3→∀ (Q:AV→St→Prop) s,Q (.tup [.agg [z1,z2,z3],.int .i64 E]) s→ESc e 141 [.agg y.c] s Q):=by
      have q:∀ (E:Int) (D:DK),∃ z1 z2 z3,(E=0→[z1,z2,z3]=D.c)∧(if E=0 then .tup [D.v,.int .i64 0] else .tup [.agg CW,.int .i64 E]:AV)=.tup [.agg [z1,z2,z3],.int .i64 E]:=fun E D=>by
       by_cases h:E=0
       ·exact ⟨_,_,_,fun _=>rfl,by rw [Zqd h,h];rfl⟩
       ·exact ⟨_,_,_,fun g=>absurd g h,by rw [Zqh h];rfl⟩
      obtain rfl|rfl|rfl:d=1∨d=2∨d=3:=by omega
      ·obtain ⟨z1,z2,z3,p1,p2⟩:=q (Ew (CM y a b)) (F7 (CM y a b))
       exact ⟨_,_,z1,z2,z3,hst,p1,fun _ Q s k=>ESc.fam dwF h140 ⟨y,a,bv,b⟩ (hk (by decide)) p2 k,fun h=>(by cases h),fun h=>(by cases h)⟩
      ·obtain ⟨z1,z2,z3,p1,p2⟩:=q (BE y a b) (ED (CM y a b))
       exact ⟨_,_,z1,z2,z3,hst,p1,fun h=>(by cases h),fun _ Q s k=>ESc.fam fuaF h63 ⟨y,a,bv,b⟩ (hk (by decide)) p2 k,fun h=>(by cases h)⟩
      ·obtain ⟨z1,z2,z3,p1,p2⟩:=q (GA y) (Du y)
       exact ⟨_,_,z1,z2,z3,hst,p1,fun h=>(by cases h),fun h=>(by cases h),fun _ Q s k=>ESc.fam fluF h141 y hgy.1 p2 k⟩
     rw [hED] at hre hgn ⊢
     dsimp only at hre hgn ⊢
     rw [hyc] at c1 c2 c3
     clear hst hk
     obtain rfl|rfl|rfl:d=1∨d=2∨d=3:=by omega
     all_goals
      refine BA [y.bv,y.wv,.bool false] (by show load 0 (0+k.toNat*3) 3 _=_;rw [Zqo,GR (e:=60) (cs:=BQ Y) rfl hlk,hld,hyc]) ?_;conv=>whnf
      repeat' (first|((first|refine ESc.inl h38 ?_|refine Ny rfl rfl (by omega) (by omega) ?_|refine ECall.inl h85.O h85.G ?_|refine ECall.inl h86.O h86.G ?_|refine ECall.inl h87.O h87.G ?_|refine c1 rfl _ _ ?_|refine c2 rfl _ _ ?_|refine c3 rfl _ _ ?_|refine HD rfl rfl m1 m2 ?_|refine BA _ (by show storeAt 0 (0+k.toNat*3) [z1,z2,z3] _=_;rw [Zqo];exact Gm (e:=60) (cs:=BQ Y) rfl hlk) ?_|refine v7 ?_|refine Cj ?_|refine ⟨rfl,?_⟩);conv=>whnf)|refine v4 ?_ ?_|refine v6 ?_ ?_|(intro _;first|omega|conv=>whnf))
      ·exact hre (by assumption) _
      ·rename_i he
       have hz:=hz he
       have hhf:=O7 fun y hy=>((hgn he).1 y hy).1
       exact ⟨hlt,he,Abs.tells (rs:=[0]) ⟨by decide,⟨r9,t9,r9,r9,trivial⟩,⟨⟨Bd hhf,by rw [AX hhf,← hset D,← hz];rfl⟩,trivial⟩⟩⟩
   ·have him:i=m:=by omega
    subst him
    conv=>whnf
    repeat' (first|refine v1 ?_ ?_|(intro _;first|omega|conv=>whnf))
    exact hend hI _ rfl
  ·rw [Zqh hn] at hO
   conv=>whnf
   repeat' (first|((first|refine hch _ _ ?_|refine AA rfl hs' ?_);conv=>whnf)|refine v1 ?_ ?_|refine v3 ?_ ?_|refine v6 ?_ ?_|(intro _;first|omega|conv=>whnf))
   all_goals exact fin _ _ hO
 ·have hO:E8 ys l n=.tup [.nils,.int .i64 (Dm l (ys.map Aj))]:=by unfold E8;rw [Zqh hc]
  generalize Dm l _=A at *
  conv=>whnf
  repeat' (first|(refine hch _ _ ?_;conv=>whnf)|refine v6 ?_ ?_|(intro _;first|omega|conv=>whnf))
  all_goals first
   | exact absurd (by assumption) hc
   | exact fin _ _ hO
theorem Zgs {l:List Act}{st:St}(h:KH ys l n u st):Frz st u (E8 ys l n):=by
 rcases h with ⟨h,z,rfl⟩|⟨h1,h2,h3,h4,rfl,h5⟩
 ·rw [h];exact .plain _ rfl
 ·unfold E8
  rw [Zqd h1,Zqd h2,Zqd h3]
  exact .tup _ _ (.cons (.sl 0 0 _ _ _ 60 _ _ _ h5 (fun j x hx=>by rw [Zqo];exact hx) (Cz (O7 fun y hy=>(h4 y hy).1)) (.inl rfl)) (.cons (.plain _ rfl) .nil))
theorem Zgt (hE:EM P e) (h36:Con e 36 achF.O) (h37:Con e 37 (relS M3)) (h38:Inl e 38 SJ [.tmp 2]) (h63:Con e 63 fuaF.O) (h85:Inl e 85 Y5 [.cells 4 3,.tmp 5]) (h86:Inl e 86 Y4 [.cells 4 3,.tmp 5]) (h87:Inl e 87 Y3 [.cells 4 3,.tmp 5]) (h140:Con e 140 dwF.O) (h141:Con e 141 fluF.O):OvOk P 11 runF.O:=by
 refine Bs g11.b ?_
 rintro ⟨ys,l,n,_⟩ _ ⟨v,_,rfl,⟨_,e0,hL⟩,w,_,rfl,⟨_,e1,hA⟩,_,_,rfl,⟨e2,z2⟩,rfl⟩ -
 cases e0
 cases e1
 cases e2
 refine ⟨?_,(Zou hE h36 h37 h38 h63 h85 h86 h87 h140 h141 hL hA).mono fun _ _ h=>Zgs h⟩
 show AM.hf (E8 ys l n)=true
 unfold E8;split
 ·split
  ·split <;> rfl
  ·rfl
 ·rfl
variable {c:Cfg}{s:Int}
theorem R9 (hM:c.may) (hs:0≤s) (k:Nat):(Bf c s (k:Int)).toNat=((s / c.chunk*(c.members-1)).toNat+k) % c.members.toNat∧(Bf c s (k:Int)).toNat<c.members.toNat∧0≤Bf c s (k:Int):=by
 unfold Cfg.may at hM
 have h0:0≤s / c.chunk:=Int.ediv_nonneg hs (by omega)
 have h1:0≤s / c.chunk*(c.members-1):=Int.mul_nonneg h0 (by omega)
 unfold Bf
 generalize s / c.chunk*(c.members-1)=r at *
 obtain ⟨R,rfl⟩:∃ R:Nat,r=R:=⟨r.toNat,by omega⟩
 obtain ⟨m,hm⟩:∃ m:Nat,c.members=m:=⟨c.members.toNat,by omega⟩
 have hm3:3≤m:=by omega
 rw [hm]
 have e:((R:Int)+(k:Int)) % (m:Int)=(((R+k) % m:Nat):Int):=by rw [Int.natCast_emod];rfl
 rw [e,Int.toNat_natCast,Int.toNat_natCast,Int.toNat_natCast]
 exact ⟨rfl,Nat.mod_lt _ (by omega),by omega⟩
def BH (D:List Dk) (a:Int) (i:Nat):List Nat:=(D[i]?.map fun d=>Ca d a).getD []
theorem Wd {p:Nat}:∀ {i:Nat}{b:List Nat},b ∈ Bn D a p i→∃ j<i,j≠p∧b=BH D a j
 | 0,b,h=>by cases h
 | i+1,b,h=>by
  unfold Bn at h
  rcases Zq1.1 h with h|h
  ·obtain ⟨j,h1,h2⟩:=Wd h
   exact ⟨j,by omega,h2⟩
  ·split at h
   ·cases h
   ·exact ⟨i,by omega,by assumption,List.mem_singleton.1 h⟩
theorem WJ {D E:List Dk}{a:Int}{p:Nat}:∀ i,(∀ j<i,j≠p→BH D a j=BH E a j)→Bn D a p i=Bn E a p i
 | 0,_=>rfl
 | i+1,h=>by
  unfold Bn
  rw [WJ i fun j hj=>h j (by omega)]
  split
  ·rfl
  ·rename_i hp
   have:=h i (by omega) hp
   unfold BH at this
   rw [this]
def Xt (d:Dv) (D:List Dk):Prop:=∀ s:Int,∀ i<d.1.members.toNat,(BH D s i).length=128∧∀ y ∈ BH D s i,y<256
theorem Yo (hm:0<c.members):Bf c s k=(c.members-1-s / c.chunk % c.members+1+k) % c.members:=by
 unfold Bf
 generalize s / c.chunk=q
 have h:=Int.mul_ediv_add_emod q c.members
 generalize hr:q % c.members=r at *
 generalize hd:q / c.members=d at *
 generalize c.members=M at *
 subst h
 have e:(M*d+r)*(M-1)+k=(M-1-r+1+k)+M*(d*(M-1)+r-1):=by
  have e1:(M*d+r)*(M-1)=M*d*(M-1)+r*(M-1):=Int.add_mul ..
  have e2:M*(d*(M-1)+r-1)=M*(d*(M-1))+M*r-M*1:=by rw [Int.mul_sub,Int.mul_add]
  have e3:M*d*(M-1)=M*(d*(M-1)):=Int.mul_assoc ..
  have e4:r*(M-1)=r*M-r*1:=Int.mul_sub ..
  have e5:r*M=M*r:=Int.mul_comm ..
  rw [e1,e2,e3,e4,e5]
  omega
 rw [e,Int.add_mul_emod_self_left]
def Gd (c:Cfg) (s m:Int):Int:=(m+c.members-(c.members-1-s / c.chunk % c.members)-1) % c.members
theorem Zk8 {m:Int}(h:0≤m∧m<c.members):Bf c s (Gd c s m)=m∧0≤Gd c s m∧Gd c s m<c.members:=by
 have hm:0<c.members:=by omega
 refine ⟨?_,Zrt _ (by omega),Zrv _ hm⟩
 rw [Yo hm]
 unfold Gd
 generalize s / c.chunk % c.members=r
 rw [Int.add_emod_emod,show c.members-1-r+1+(m+c.members-(c.members-1-r)-1)=m+c.members*1 by omega,Int.add_mul_emod_self_left]
 exact Int.emod_eq_of_lt h.1 h.2
def Zpy:AC:=match P7 with|.mk c _=>c
def Zpp:AC:=match MZ with|.mk c _=>c
noncomputable def sltF:Fn (Cfg×Int×Int×Unit):=⟨.g cfgC (.v i64C (.v i64C .nil)),fun x=>x.1.may∧(0≤x.2.1∧x.2.1<Ar x.1)∧0≤x.2.2.1∧x.2.2.1<x.1.members,fun x=>.tup [.int .i64 (Gd x.1 x.2.1 x.2.2.1),.int .i64 0]⟩
theorem Zgl (hE:EM P e) (h40:Con e 40 stripesF.O) (h89:Inl e 89 SI [.tmp 4,.tmp 5]) (h98:Inl e 98 Y2 [.cells 8 7,.tmp 9]) (h99:Inl e 99 SH [.tmp 2]) (h177:Inl e 177 Zpy [.tmp 4]):OvOk P 133 sltF.O:=by
 refine Bs g133.b ?_
 rintro ⟨c,s,m,_⟩ _ ⟨_,_,rfl,⟨rfl,hc⟩,_,_,rfl,⟨e1,z1⟩,_,_,rfl,⟨e2,z2⟩,rfl⟩ ⟨hM,hs0,hm0⟩
 cases e1
 cases e2
 refine ⟨rfl,C.of_G hE g133 ?_⟩
 dsimp only at hM hs0 hc hm0
 have hst:=Hc h40 hc hM
 have hmm:=B4 hM
 have hM':=hM
 unfold Cfg.may at hM'
 unfold Ar at hs0 hmm
 have fin:∀ st n,n=Gd c s m→Frz st (.tup [.int .i64 n,.int .i64 0]) (sltF.out (c,s,m,())):=by
  rintro st n rfl;exact .plain _ rfl
 generalize sltF.out _=O at fin ⊢
 unfold Gd at fin
 have hd0:=Int.ediv_nonneg hs0.1 (show 0≤c.chunk by omega)
 have hd1:s / c.chunk≤s:=Int.ediv_le_self _ hs0.1
 have hr0:=Zrt (s / c.chunk) (show c.members≠0 by omega)
 have hr1:=Zrv (s / c.chunk) (show 0<c.members by omega)
 change VW P e 0 _ (Ah [.agg c.c,.int .i64 s,.int .i64 m] 0 .lf) St0 none [] _
 conv=>whnf
 repeat' (first|((first|refine ESc.inl h98 ?_|refine hst _ _ ?_|refine ESc.inl h89 ?_|refine ESc.inl h99 ?_|refine ESc.inl h177 ?_|refine HG rfl rfl (by omega) ?_|refine JH rfl rfl (by omega) ?_|refine v7 ?_|refine v8 ?_|refine ⟨rfl,?_⟩);conv=>whnf)|refine v1 ?_ ?_|refine v4 ?_ ?_|refine v6 ?_ ?_|(intro _;first|omega|conv=>whnf))
 exact fin _ _ rfl
noncomputable def mmbF:Fn (Cfg×Int×Int×Unit):=⟨.g cfgC (.v i64C (.v i64C .nil)),fun x=>x.1.may∧(0≤x.2.1∧x.2.1<Ar x.1)∧0≤x.2.2.1∧x.2.2.1<x.1.members,fun x=>.tup [.int .i64 (Bf x.1 x.2.1 x.2.2.1),.int .i64 0]⟩
theorem Zhb (hE:EM P e) (h40:Con e 40 stripesF.O) (h89:Inl e 89 SI [.tmp 4,.tmp 5]) (h98:Inl e 98 Y2 [.cells 8 7,.tmp 9]) (h99:Inl e 99 SH [.tmp 2]) (h90:Inl e 90 Zpp [.tmp 4]):OvOk P 178 mmbF.O:=by
 refine Bs g178.b ?_
 rintro ⟨c,s,m,_⟩ _ ⟨_,_,rfl,⟨rfl,hc⟩,_,_,rfl,⟨e1,z1⟩,_,_,rfl,⟨e2,z2⟩,rfl⟩ ⟨hM,hs0,hm0⟩
 cases e1
 cases e2
 refine ⟨rfl,C.of_G hE g178 ?_⟩
 dsimp only at hM hs0 hc hm0
 have hst:=Hc h40 hc hM
 have hmm:=B4 hM
 have hM':=hM
 unfold Cfg.may at hM'
 unfold Ar at hs0 hmm
 have hmem:=Yo (c:=c) (s:=s) (k:=m) (by omega)
 have fin:∀ st n,n=Bf c s m→Frz st (.tup [.int .i64 n,.int .i64 0]) (mmbF.out (c,s,m,())):=by
  rintro st n rfl;exact .plain _ rfl
 generalize mmbF.out _=O at fin ⊢
 rw [hmem] at fin
 have hd0:=Int.ediv_nonneg hs0.1 (show 0≤c.chunk by omega)
 have hd1:s / c.chunk≤s:=Int.ediv_le_self _ hs0.1
 have hr0:=Zrt (s / c.chunk) (show c.members≠0 by omega)
 have hr1:=Zrv (s / c.chunk) (show 0<c.members by omega)
 change VW P e 0 _ (Ah [.agg c.c,.int .i64 s,.int .i64 m] 0 .lf) St0 none [] _
 conv=>whnf
 repeat' (first|((first|refine ESc.inl h98 ?_|refine hst _ _ ?_|refine ESc.inl h89 ?_|refine ESc.inl h99 ?_|refine ESc.inl h90 ?_|refine HG rfl rfl (by omega) ?_|refine JH rfl rfl (by omega) ?_|refine v7 ?_|refine v8 ?_|refine ⟨rfl,?_⟩);conv=>whnf)|refine v1 ?_ ?_|refine v4 ?_ ?_|refine v6 ?_ ?_|(intro _;first|omega|conv=>whnf))
 exact fin _ _ rfl
def DT:Lo→List AV
 | (ev,lo,sp,po,dn,nl,br)=>[.int .u32 ev,.int .i64 lo,.bool sp,.int .i64 po,.int .i64 dn,.bool nl,.bool br]
def EK:Lo→Lo
 | (ev,lo,sp,po,dn,nl,br)=>(ev,lo,sp,po+1,dn,nl,br)
def B0 (c:Cfg):Lo→Lo
 | (ev,lo,sp,po,dn,nl,br)=>if po=Ar c then (ev,-1,false,0,0,nl,br) else (ev,lo,sp,po,po,nl,br)
noncomputable def goF:Fn (Cfg×Lo×Unit):=⟨.g cfgC (.g loC .nil),fun x=>x.1.may∧Bq x.1 x.2.1∧x.2.1.2.2.1=true∧x.2.1.2.2.2.1<Ar x.1,fun x=>.tup [.agg (DT (EK x.2.1)),.int .i64 0]⟩
theorem Zlu (hE:EM P e) (h39:Con e 39 lossF.O) (h40:Con e 40 stripesF.O):OvOk P 135 goF.O:=by
 refine Bs g135.b ?_
 rintro ⟨c,⟨ev,lo,sp,po,dn,nl,br⟩,_⟩ _ ⟨_,_,rfl,⟨rfl,hc⟩,_,_,rfl,hlo,rfl⟩ ⟨hM,hL,hsp,hpo⟩
 refine ⟨rfl,C.of_G hE g135 ?_⟩
 have hck:=fun (Q:AV→St→Prop) s a=>@cF.u _ _ _ _ e 39 s Q _ h39 (c,(ev,lo,sp,po,dn,nl,br),()) ⟨_,_,rfl,⟨rfl,hc⟩,_,_,rfl,hlo,rfl⟩ trivial (fun _=>a) (fun q=>absurd (And.intro hM hL) q)
 obtain ⟨rfl,h1,h2,h3,h4⟩:=Gu hlo
 dsimp only at hM hL hc hsp hpo hck
 subst hsp
 have hst:=Hc h40 hc hM
 have hmm:=B4 hM
 have hL':=hL
 unfold Bq at hL'
 have hL2:=hL'.2.2.2.1 rfl
 unfold Ar at hpo hmm
 have fin:∀ st n,n=po+1→Frz st (.tup [.agg [.int .u32 ev,.int .i64 lo,.bool true,.int .i64 n,.int .i64 dn,.bool nl,.bool br],.int .i64 0]) (goF.out (c,(ev,lo,true,po,dn,nl,br),())):=by
  rintro st n rfl;exact .plain _ rfl
 generalize goF.out _=O at fin ⊢
 change VW P e 0 _ (Ah [.agg c.c,.agg _] 0 .lf) St0 none [] _
 conv=>whnf
 repeat' (first|((first|refine hck _ _ ?_|refine hst _ _ ?_|refine v7 ?_|refine An ?_);conv=>whnf)|refine v5 ?_ ?_|refine v6 ?_ ?_|(intro _;first|omega|conv=>whnf))
 all_goals exact fin _ _ rfl
def cd96:AC:=match a96 with|.mk c _=>c
noncomputable def mkF:Fn (Cfg×Lo×Unit):=⟨.g cfgC (.g loC .nil),fun x=>x.1.may∧Bq x.1 x.2.1∧x.2.1.2.2.1=true∧x.2.1.2.2.2.2.1<x.2.1.2.2.2.1,fun x=>.tup [.agg (DT (B0 x.1 x.2.1)),.int .i64 0]⟩
theorem Zlh (hE:EM P e) (h39:Con e 39 lossF.O) (h40:Con e 40 stripesF.O) (h96:Inl e 96 cd96 []):OvOk P 136 mkF.O:=by
 refine Bs g136.b ?_
 rintro ⟨c,⟨ev,lo,sp,po,dn,nl,br⟩,_⟩ _ ⟨_,_,rfl,⟨rfl,hc⟩,_,_,rfl,hlo,rfl⟩ ⟨hM,hL,hsp,hpo⟩
 refine ⟨rfl,C.of_G hE g136 ?_⟩
 have hck:=fun (Q:AV→St→Prop) s a=>@cF.u _ _ _ _ e 39 s Q _ h39 (c,(ev,lo,sp,po,dn,nl,br),()) ⟨_,_,rfl,⟨rfl,hc⟩,_,_,rfl,hlo,rfl⟩ trivial (fun _=>a) (fun q=>absurd (And.intro hM hL) q)
 obtain ⟨rfl,h1,h2,h3,h4⟩:=Gu hlo
 dsimp only at hM hL hc hsp hpo hck
 subst hsp
 have hst:=Hc h40 hc hM
 have hmm:=B4 hM
 have fin:∀ st x,x=B0 c (ev,lo,true,po,dn,nl,br)→Frz st (.tup [.agg (DT x),.int .i64 0]) (mkF.out (c,(ev,lo,true,po,dn,nl,br),())):=by
  rintro st n rfl
  refine .plain _ ?_
  show AM.hf (.tup [.agg (DT (B0 c (ev,lo,true,po,dn,nl,br))),.int .i64 0])=true
  unfold B0;split <;> rfl
 generalize mkF.out _=O at fin ⊢
 unfold B0 Ar at fin
 unfold Ar at hmm
 dsimp only at fin
 change VW P e 0 _ (Ah [.agg c.c,.agg _] 0 .lf) St0 none [] _
 by_cases hq:po=c.chunk*c.rows
 ·rw [Zqd hq] at fin
  conv=>whnf
  repeat' (first|((first|refine hck _ _ ?_|refine hst _ _ ?_|refine ESc.inl h96 ?_|refine An ?_);conv=>whnf)|refine v5 ?_ ?_|refine v6 ?_ ?_|(intro _;first|omega|conv=>whnf))
  exact fin _ _ rfl
 ·rw [Zqh hq] at fin
  conv=>whnf
  repeat' (first|((first|refine hck _ _ ?_|refine hst _ _ ?_|refine An ?_);conv=>whnf)|refine v5 ?_ ?_|refine v6 ?_ ?_|(intro _;first|omega|conv=>whnf))
  exact fin _ _ rfl
def My:AC:=match PI with|.mk c _=>c
def Zpx:AC:=match P6 with|.mk c _=>c
def Zpw:AC:=match P5 with|.mk c _=>c
def RR:AC:=match Fq My with|some (a,_)=>a|none=>.skip
def Rs:AC:=match Fq My with|some (_,b)=>b|none=>.skip
def rng134:AC:=match My with
 | .seq _ (.seq _ (.seq _ (.seq _ (.seq _ (.seq _ (.seq _ (.seq r _)))))))=>r
 | _=>.skip
def Zgv:AC:=match My with
 | .seq _ (.seq _ (.seq _ (.seq _ (.seq _ (.seq _ (.seq _ (.seq _ r)))))))=>r
 | _=>.skip
def KQ:List (Nat×AV):=[(10,.ptr 3 0),(11,.ptr 4 0),(15,.ptr 5 0),(18,.ptr 6 0),(60,.fn 203 [] [.ptr 7 0,.ptr 8 0])]
def osB (v:AV) (ms s m a:Int) (l:List AV):List AObj:=[.row 34 [v],.row 3 [.int .i64 ms],.row 3 [.int .i64 s],.row 76 [.nils],.row 38 [.int .i64 0],.row 236 [.fn 179 [] [.ptr 1 0,.ptr 0 0,.ptr 2 0]],.row 52 l,.row 3 [.int .i64 m],.row 3 [.int .i64 a]]
noncomputable def Yk (v:AV) (ms s m a:Int) (L:List (List Nat)):List AObj:=match L with
 | []=>osB v ms s m a [.nils]++[.defd,.loop .ready none 0 (A5 KQ) [61] RR Rs 9]
 | b::L=>osB v ms s m a [.sl 11 0 (L.length+1) none]++[.defd,.loop .ready none 0 (A5 KQ) [61] RR Rs 9,.row 76 ((b::L).map Ay)]
noncomputable def ftbF:Fn (Cfg×List Dk×Int×Int×Int×Unit):=⟨.g cfgC (.v dkC.sl (.v i64C (.v i64C (.v i64C .nil)))),fun x=>(x.1.may∧CH x.1 x.2.1∧(∀ d ∈ x.2.1,Cq d)∧∀ i<x.1.members.toNat,Bh x.2.1 i=false)∧(0≤x.2.2.2.1∧x.2.2.2.1<Ar x.1)∧(0≤x.2.2.2.2.1∧x.2.2.2.2.1<x.1.members)∧x.2.2.1=Bf x.1 x.2.2.2.1 x.2.2.2.2.1,fun x=>.tup [Ay (Bi (Bn x.2.1 (x.2.2.2.1+1) x.2.2.1.toNat x.1.members.toNat)),.int .i64 0]⟩
theorem Zlw {c:Cfg}{D:List Dk}{cs:List AV}(hD:CH c D) (hsm:∀ d ∈ D,Cq d) (hal:∀ i<c.members.toNat,Bh D i=false) (hn:∀ i,i<D.length→∃ x c l,D[i]?=some x∧dkC.r x c∧cs.drop (i*3)=c++l) {s:Int}(h0:0≤s∧s<Ar c) {e:Env}(h49:Con e 49 drdF.O) {i:Nat}(hi:(i:Int)<c.members):i<D.length∧∃ x bv wv r,D[i]?=some x∧cs.drop (i*3)=[bv,wv,.bool false]++r∧∀ (Q:AV→St→Prop) st,Q (.tup [Ay (Ca x (s+1)),.int .i64 0]) st→ESc e 49 [.agg [bv,wv,.bool false],.int .i64 (s+1)] st Q:=by
 have hl:=hD.1
 have hil:i<D.length:=by omega
 obtain ⟨x,cl,r,hx,hxr,hd⟩:=hn i hil
 obtain ⟨hlen,hk⟩:=hD.2 i hil x hx
 have hdead:x.2.2=false:=by
  have h1:=hal i (by omega)
  unfold Bh at h1
  rw [hx] at h1;exact h1
 rw [Zqh (by omega)] at hlen
 have huse:=fun Q st k=>Ziy (e:=e) h49 hxr (hsm x (Zqv hx)) hk (a:=s+1) ⟨by omega,by omega⟩ Q st k
 rw [hdead] at huse
 obtain ⟨bs,ws,dd⟩:=x
 dsimp only at hdead
 subst hdead
 obtain ⟨bv,wv,rfl,-,-⟩:=Hf hxr
 exact ⟨hil,_,bv,wv,r,hx,hd,huse⟩
theorem Ze1 (hE:EM P e) (h50:Con e 50 fldF.O) {ms s m a:Int}{L:List (List Nat)}(hL:Em L) (hn:0<L.length∧L.length≤16) (hv:AM.hf v=true) {K:AV→St→Prop}(hk:∀ st,K (.tup [Ay (Bi L),.int .i64 0]) st)
 {s0:St}{ds:List Nat}(h:AbsD 0 t s0 ds [(10,.ptr 0 0),(11,.ptr 1 0),(18,.ptr 2 0)] ([.row 76 [.nils],.row 38 [.int .i64 0],.row 52 [.sl 4 0 L.length none],.defd]++[.row 76 (L.map Ay)]) rs [3]):W P 0 none Zgv t s0 ds (BG [.cell 10,.cell 11] K):=by
 have hLs:=O3 hL ⟨hn.1,by omega⟩
 have hc:∀ (Q:AV→St→Prop) st,Q (.tup [Ay (Bi L),.int .i64 0]) st→ESc e 50 [.fz L.length none (L.map Ay)] st Q:=fun Q st k=>Fn.u (F:=fldF) h50 (L,()) ⟨_,_,rfl,⟨_,rfl,hLs⟩,rfl⟩ ⟨hL,hn.2⟩ k
 have h1:=AbsD.frz (P:=P) (k:=0) (n:=4) (e:=76) (cs:=L.map Ay) (tl:=[(10,.ptr 0 0),(11,.ptr 1 0),(18,.ptr 2 0)]) (tl2:=[(10,.ptr 0 0),(11,.ptr 1 0),(18,.ptr 2 0)]) (ds2:=[3]) (os:=[.row 76 [.nils],.row 38 [.int .i64 0],.row 52 [.sl 4 0 L.length none],.defd]) (os2:=[.row 76 [.nils],.row 38 [.int .i64 0],.row 52 [.fz L.length none (L.map Ay)],.defd]) h rfl (by intro d hd;simp at hd;subst hd;decide) (Fj _) rfl rfl rfl rfl rfl rfl
 refine W.tells h1 ?_
 refine Hb hE ?_;conv=>whnf
 repeat' (first|(refine hc _ _ ?_;conv=>whnf)|fail)
 exact hk _
set_option maxHeartbeats 1000000 in
theorem Zh6 (hE:EM P e) (h19:Con e 19 ftcF.O) (h49:Con e 49 drdF.O) (h50:Con e 50 fldF.O) (h178:Con e 178 mmbF.O) (h179:Inl e 179 Zpx [.tmp 5,.tmp 6]) (h180:Inl e 180 Zpw [.tmp 4]):OvOk P 134 ftbF.O:=by
 refine Bs g134.b ?_
 rintro ⟨c,D,ms,s,k,_⟩ _ ⟨_,_,rfl,⟨rfl,hc⟩,v,_,rfl,⟨_,e0,hD⟩,_,_,rfl,⟨e1,z1⟩,_,_,rfl,⟨e2,z2⟩,_,_,rfl,⟨e3,z3⟩,rfl⟩ ⟨⟨hM,h20,hsm,hal⟩,hs0,hk0,hms⟩
 cases e0
 cases e1
 cases e2
 cases e3
 dsimp only at hc hM h20 hsm hal hs0 hk0 hms hD z1 z2 z3
 have hvf:=hD.hf
 have hvr:hfs [v]=true:=by show (AM.hf v && true)=true;rw [hvf];rfl
 obtain ⟨cs,hs',hl',hn⟩:=hD.nth
 have hat:=fun {i:Nat}=>@Zlw c D cs h20 hsm hal hn s hs0 e h49 i
 have hck:=fun (Q:AV→St→Prop) st a=>@cF.u _ _ _ _ e 19 st Q _ h19 (c,D,()) ⟨_,_,rfl,⟨rfl,hc⟩,_,_,rfl,⟨_,rfl,hD⟩,rfl⟩ hsm (fun _=>a) (fun q=>absurd (And.intro hM h20) q)
 have hmb:=fun (Q:AV→St→Prop) st q=>Fn.u (F:=mmbF) (k:=Q) (s:=st) h178 (c,s,k,()) ⟨_,_,rfl,⟨rfl,hc⟩,_,_,rfl,⟨rfl,z2⟩,_,_,rfl,⟨rfl,z3⟩,rfl⟩ ⟨hM,hs0,hk0⟩ q
 have hM':=hM
 unfold Cfg.may at hM'
 have hmm:=B4 hM
 obtain ⟨K0,hK0⟩:∃ K0:Nat,k=K0:=⟨k.toNat,by omega⟩
 obtain ⟨-,q2,q3⟩:=R9 hM hs0.1 K0
 rw [← hK0] at q2 q3
 replace hmb:∀ (Q:AV→St→Prop) st,Q (.tup [.int .i64 (Bf c s k),.int .i64 0]) st→ESc e 178 [.agg c.c,.int .i64 s,.int .i64 k] st Q:=hmb
 subst hms
 obtain ⟨mm,hme⟩:∃ mm:Nat,Bf c s k=mm:=⟨(Bf c s k).toNat,by omega⟩
 have hf0:∀ L,L=Bi (Bn D (s+1) mm c.members.toNat)→∀ st,Frz st (.tup [Ay L,.int .i64 0]) (ftbF.out (c,D,Bf c s k,s,k,())):=fun L h st=>by
  show Frz st _ (.tup [Ay (Bi (Bn D (s+1) (Bf c s k).toNat c.members.toNat)),.int .i64 0])
  rw [hme,Int.toNat_natCast,h];exact .plain _ rfl
 refine ⟨rfl,C.of_W g134.f g134.c ?_⟩
 generalize ftbF.out _=O at hf0 ⊢
 rw [hme] at hmb q2 q3 ⊢
 rw [Int.toNat_natCast] at q2
 have hml:mm<c.members.toNat:=q2
 have hblk:∀ i:Nat,(i:Int)≤c.members→Em (Bn D (s+1) mm i):=QS h20 hD (s+1) mm
 unfold Ar at hs0 hmm
 show W P 0 none My (Ah [.agg c.c,v,.int .i64 mm,.int .i64 s,.int .i64 k] 0 .lf) St0 [] (BG [.cell 10,.cell 11] _)
 have hvc:=hD.cell
 refine Br hE ?_;conv=>whnf
 repeat' (first|(refine Dy (by show Nat.beq (A6 (cellsOf v)) 1=true;rw [hvc];rfl) ?_;rw [hvc];conv=>whnf)|fail)
 refine Br hE ?_;conv=>whnf
 repeat' (first|(refine hck _ _ ?_;conv=>whnf)|refine v6 ?_ ?_|(intro _;first|omega|conv=>whnf))
 refine Br hE ?_;conv=>whnf
 repeat' (first|(refine hmb _ _ ?_;conv=>whnf)|fail)
 refine Br hE ?_;conv=>whnf
 repeat' (first|refine v1 ?_ ?_|refine v4 ?_ ?_|refine v6 ?_ ?_|(intro _;first|omega|conv=>whnf))
 refine Br hE ?_;conv=>whnf
 skip
 refine Br hE ?_;conv=>whnf
 repeat' (first|(refine ECall.inl h179.O h179.G ?_;conv=>whnf)|refine v5 ?_ ?_|(intro _;first|omega|conv=>whnf))
 refine Br hE ?_;conv=>whnf
 skip
 refine Br hE ?_;conv=>whnf
 repeat' (first|(refine ESc.inl h180 ?_;conv=>whnf)|fail)
 refine W.tells (Abs.tells (tl:=KQ) (os:=osB v mm s c.members mm [.nils]) (rs:=[1,2,3,4,5,6,7,8,9]) .a) ?_
 refine OC (f:=203) (first:=[]) (cap:=[.ptr 7 0,.ptr 8 0]) g203.b rfl ?_ ?_
 ·intro q hq
  have hq:q<9:=hq
  have n5:Named (A5 KQ) (Al St0 (osB v mm s c.members mm [.nils])) 5:=.tmp 15 (.ptr 5 0) rfl rfl
  rcases q with _|_|_|_|_|_|_|_|_|q
  ·exact .cell 5 236 _ 0 (.fn 179 [] [.ptr 1 0,.ptr 0 0,.ptr 2 0]) n5 rfl rfl rfl
  ·exact .cell 5 236 _ 0 (.fn 179 [] [.ptr 1 0,.ptr 0 0,.ptr 2 0]) n5 rfl rfl rfl
  ·exact .cell 5 236 _ 0 (.fn 179 [] [.ptr 1 0,.ptr 0 0,.ptr 2 0]) n5 rfl rfl rfl
  ·exact .tmp 10 (.ptr 3 0) rfl rfl
  ·exact .tmp 11 (.ptr 4 0) rfl rfl
  ·exact n5
  ·exact .tmp 18 (.ptr 6 0) rfl rfl
  ·exact .tmp 60 (.fn 203 [] [.ptr 7 0,.ptr 8 0]) rfl rfl
  ·exact .tmp 60 (.fn 203 [] [.ptr 7 0,.ptr 8 0]) rfl rfl
  ·omega
 show C1 P 203 [.yld 10,.ptr 7 0,.ptr 8 0] (Al St0 (Yk v mm s c.members mm [])) (fun _ s'=>Kw 10 [9] (A5 KQ) s' _)
 refine C1.of_G hE g203 ?_;conv=>whnf
 have hlb:∀ n,Dx 11 n (.loop .ready none 0 (A5 KQ) [61] RR Rs 9)=true:=fun _=>rfl
 refine DZ (k:=11) (α:=Nat) (fun i=>[(0,.yld 10),(2,.ptr 8 0),(5,.int .i64 c.members),(6,.int .i64 (i:Int))]) (fun i=>Yk v mm s c.members mm (Bn D (s+1) mm i)) (fun i=>c.members.toNat-i) (fun i=>i≤c.members.toNat) 0 (Zqs _) (AbsK.tells (rs:=[0,1,2,3,4,5,6,7,8,9,10]) ⟨rfl,by decide,⟨r9,r9,r9,r9,trivial⟩,⟨o9 hvr,r9,r9,r9,r9,r9,r9,r9,r9,r9,⟨hlb _,rfl⟩,trivial⟩⟩) ?_
 rintro i hi
 refine Cy hE ?_
 have hst:=fun (y:Dk) (hy:D[i]?=some y)=>show Bn D (s+1) mm (i+1)=Bn D (s+1) mm i++(if i=mm then [] else [Ca y (s+1)]) by
  show Bn D (s+1) mm i++_=_
  rw [hy];rfl
 have hol:=Q7 D (s+1) mm i
 have hbl:=hblk i (by omega)
 have hfe:i=c.members.toNat→∀ st,Frz st (.tup [Ay (Bi (Bn D (s+1) mm i)),.int .i64 0]) O:=fun h=>by subst h;exact hf0 _ rfl
 clear hf0
 generalize Bn D (s+1) mm i=L at *
 by_cases hlt:i<c.members.toNat
 ·obtain ⟨hil,x,bv,wv,r,hx,hd,huse⟩:=hat (i:=i) (by omega)
  have hst:=hst x hx
  by_cases him:i=mm
  ·rw [Zqd him,Zrk] at hst
   rcases L with _|⟨b0,L⟩
   ·conv=>whnf
    repeat' (first|((first|refine v7 ?_|refine ⟨rfl,?_⟩);conv=>whnf)|refine v1 ?_ ?_|refine v6 ?_ ?_|(intro _;first|omega|conv=>whnf))
    exact ⟨i+1,hlt,by omega,by rw [hst];exact AbsK.tells (rs:=[0,1,2,3,4,5,6,7,8,9,10]) ⟨rfl,by decide,⟨r9,r9,r9,r9,trivial⟩,⟨o9 hvr,r9,r9,r9,r9,r9,r9,r9,r9,r9,⟨hlb _,rfl⟩,trivial⟩⟩⟩
   ·conv=>whnf
    repeat' (first|((first|refine v7 ?_|refine ⟨rfl,?_⟩);conv=>whnf)|refine v1 ?_ ?_|refine v6 ?_ ?_|(intro _;first|omega|conv=>whnf))
    exact ⟨i+1,hlt,by omega,by rw [hst];exact AbsK.tells (rs:=[0,1,2,3,4,5,6,7,8,9,10,11]) ⟨rfl,by decide,⟨r9,r9,r9,r9,trivial⟩,⟨o9 hvr,r9,r9,r9,r9,r9,r9,r9,r9,r9,⟨hlb _,rfl⟩,o9 (Fj _),trivial⟩⟩⟩
  ·rw [Zqh him] at hst
   have him':(i:Int)≠mm:=by omega
   rcases L with _|⟨b0,L⟩
   ·conv=>whnf
    repeat' (first|((first|refine ERound.mk ?_|refine ECall.inl h179.O h179.G ?_|refine Am hs' hil hd ?_|refine Ap ?_|refine A7 (cs:=[bv,wv,.bool false]) rfl ?_|refine huse _ _ ?_|refine CJ (m:=1) ?_|refine v7 ?_|refine An ?_|refine ⟨rfl,?_⟩);conv=>whnf)|refine v1 ?_ ?_|refine v5 ?_ ?_|refine v6 ?_ ?_|(intro _;first|omega|conv=>whnf))
    exact ⟨i+1,hlt,by omega,by rw [hst];exact AbsK.tells (rs:=[0,1,2,3,4,5,6,7,8,9,10,12]) ⟨rfl,by decide,⟨r9,r9,r9,r9,trivial⟩,⟨o9 hvr,r9,r9,r9,r9,r9,r9,r9,r9,r9,⟨hlb _,rfl⟩,o9 (Fj [_]),trivial⟩⟩⟩
   ·have hll:L.length≤100:=by simp only [Zq3] at hol;omega
    conv=>whnf
    repeat' (first|((first|refine ERound.mk ?_|refine ECall.inl h179.O h179.G ?_|refine Am hs' hil hd ?_|refine Ap ?_|refine A7 (cs:=[bv,wv,.bool false]) rfl ?_|refine huse _ _ ?_|refine Cw (m:=1) (n:=L.length+1) (old:=(b0::L).map Ay) rfl rfl rfl rfl (by rw [Zqg];exact (Zrc _).symm) rfl (by decide) (by omega) ?_|refine v7 ?_|refine An ?_|refine ⟨rfl,?_⟩);conv=>whnf)|refine v1 ?_ ?_|refine v5 ?_ ?_|refine v6 ?_ ?_|(intro _;first|omega|conv=>whnf))
    refine ⟨i+1,hlt,by omega,?_⟩
    rw [hst]
    refine AbsK.tells (rs:=[0,1,2,3,4,5,6,7,8,9,10,13]) ⟨rfl,by decide,⟨r9,r9,r9,r9,trivial⟩,⟨o9 hvr,r9,r9,r9,r9,r9,⟨rfl,?_⟩,r9,r9,r9,⟨hlb _,rfl⟩,⟨Bd (Fj (b0::(L++[Ca x (s+1)]))),?_⟩,trivial⟩⟩
    ·show _=some (AObj.row 52 [AV.sl 13 0 ((L++[Ca x (s+1)]).length+1) none])
     rw [Zqn];rfl
    ·show _=some (Bv _ (AObj.row 76 (((b0::L)++[Ca x (s+1)]).map Ay)))
     rw [AX (Fj _),Zqy];rfl
 ·obtain rfl:i=c.members.toNat:=by omega
  have hll:0<L.length∧L.length≤16:=by omega
  rcases L with _|⟨b0,L⟩
  ·exact absurd hll.1 (by decide)
  ·conv=>whnf
   repeat' (first|refine v1 ?_ ?_|(intro _;first|omega|conv=>whnf))
   exact Ze1 (v:=v) (ms:=0) (s:=0) (m:=0) (a:=0) (L:=b0::L) (rs:=[3,4,6,9,11]) hE h50 hbl hll hvf (hfe rfl) ⟨⟨rfl,by decide,⟨r9,r9,r9,trivial⟩,⟨r9,r9,r9,r9,o9 (Fj _),trivial⟩⟩,rfl,by intro d hd;simp at hd;subst hd;show 3<5;decide⟩
theorem All2.maps {α β γ:Type}{R:β→γ→Prop}{f:α→β}{g:α→γ}:∀ {l:List α},(∀ x ∈ l,R (f x) (g x))→All2 R (l.map f) (l.map g)
 | [],_=>.nil
 | x::l,h=>.cons (h x (by simp)) (All2.maps fun y hy=>h y (by simp [hy]))
theorem RU {d:Nat}(h1:Aa k) (h2:d<256) (h3:Aa a) (h4:Ls Ce.u8 b v):actC.r (k,d,a,b) [.int .i64 k,.int .u8 (d:Int),.int .i64 a,v]:=
 ⟨[.int .i64 k],_,rfl,⟨rfl,AW h1⟩,[.int .u8 (d:Int)],_,rfl,⟨rfl,h2⟩,[.int .i64 a],_,rfl,⟨rfl,AW h3⟩,v,rfl,h4⟩
theorem Zgh {d:Nat}(hy:AP y=true) (h:d≠3→(0≤a∧a<y.us.length)∧BB b):(Cv y (k,d,a,b)).1=0∨(Cv y (k,d,a,b)).1=9:=by
 unfold Cv
 dsimp only
 cases hdd:y.dead with
 | true=>exact .inl rfl
 | false=>
  rw [Zqh Bool.false_ne_true]
  have hw:d≠3→BE y a b=0:=fun h3=>by
   obtain ⟨h1,h2⟩:=h h3
   unfold BE Iz
   rw [Zqd hy,Zqd h1,Zqd rfl,Zqh (by rw [odd_sized.2 h2];decide),hdd];rfl
  by_cases h1:d=1
  ·rw [Zqd h1]
   show Ew (CM y a b)=0∨Ew (CM y a b)=9
   unfold Ew
   rw [Zqd (show BE (CM y a b).d (CM y a b).a (CM y a b).b=0 from hw (by omega))]
   split
   ·exact .inr rfl
   ·exact .inl rfl
  ·rw [Zqh h1]
   by_cases h2:d=2
   ·rw [Zqd h2];exact .inl (hw (by omega))
   ·rw [Zqh h2]
    left
    show GA y=0
    unfold GA
    rw [Zqd hy,hdd];rfl
theorem Zis (y:DK) (a:Int) (b:List Nat) (p:Int):Ca (Aj (F7 (CM y a b))) p=if p=a then Ae (Ae b) else Ca (Aj y) p:=by
 have e:(Aj (F7 (CM y a b))).2.1=(Aj y).2.1++[(a,Ae b)]:=by
  show (y.ws.map A0++[_]).map (fun (w:WR)=>(w.at_,w.b))=y.ws.map (fun w=>(w.at_,w.b))++_
  rw [Zqy,List.map_map];rfl
 unfold Ca
 rw [e,List.reverse_append]
 show Ae ((if a=p then some (Ae b) else Iq p (Aj y).2.1.reverse).getD _)=_
 by_cases h:p=a
 ·rw [Zqd h,Zqd h.symm];rfl
 ·rw [Zqh h,Zqh (fun g=>h g.symm)];rfl
variable {p:Int}
theorem Zid (hy:y.ok) (h:AP y=true) (hp:0≤p):Ca (Aj (Du y)) p=Ca (Aj y) p:=by
 rw [← JX (Ko (RK hy).a) p,← JX (Ko hy.a) p,Zi0 hy h hp]
theorem Zgc (y:DK):Aj (Ao y)=Aj y:=by
 show (y.bs,(y.ws.map A0).map (fun w=>(w.at_,w.b)),y.dead)=_
 rw [List.map_map];rfl
theorem Zkl (ys:List DK):(ys.map Ao).map Aj=ys.map Aj:=by
 rw [List.map_map];exact List.map_congr_left fun y _=>Zgc y
variable {Y:List DK}{i:Nat}
theorem Zbl {l:List Act}{x:Act}(h:l[i]?=some x):AB Y l (i+1)=(DA (AB Y l i) x).2:=by
 show (match l[i]? with|none=>AB Y l i|some a=>(DA (AB Y l i) a).2)=_
 rw [h]
theorem U3 {l:List Act}{x:Act}(h:l[i]?=some x) (h0:Bc Y l i=0):Bc Y l (i+1)=(DA (AB Y l i) x).1:=by
 show (if Bc Y l i≠0 then Bc Y l i else match l[i]? with|none=>0|some a=>(DA (AB Y l i) a).1)=_
 rw [Zqh (by rw [h0];decide),h]
theorem VT {ys:List DK}{l:List Act}(hY:Fc (ys.map Ao)) (hl:∀ x ∈ l,Aa x.2.2.1∧(∀ z ∈ x.2.2.2,z<256)∧D3 (ys.map Aj) x):∀ i,i≤l.length→Bc (ys.map Ao) l i=0∨Bc (ys.map Ao) l i=9
 | 0,_=>.inl rfl
 | i+1,hi=>by
  rcases VT hY hl i (by omega) with h0|h9
  ·obtain ⟨g1,g2,g3⟩:=L5 hY hl i h0
   obtain ⟨x,hx⟩:∃ x,l[i]?=some x:=⟨_,Zp9 hi⟩
   rw [U3 hx h0]
   have hm:=(hl x (Zqv hx)).2.2
   generalize AB (ys.map Ao) l i=Y at *
   unfold DA
   cases hy:Y[x.1.toNat]? with
   | none=>exact .inl rfl
   | some y=>
    obtain ⟨k,d,a,b⟩:=x
    unfold D3 at hm
    refine Zgh (g1 y (Zqv hy)).2 fun h3=>?_
    obtain ⟨⟨h4,h5⟩,h6⟩:=hm.2.2.2 h3
    obtain ⟨z,hz,hz2⟩:=g3 _ _ hy
    rw [Zq8] at hz
    cases hw:ys[k.toNat]? with
    | none=>dsimp only at hz;rw [hw] at hz;cases hz
    | some w=>
     dsimp only at hz
     rw [hw] at hz
     cases hz
     have h7:=h5 (Aj w) (by rw [Zq8,hw];rfl)
     have h8:(Ao w).us.length=w.us.length:=Zqg ..
     exact ⟨⟨h4,by
      have h9:=(hY (Ao w) (Zq9.2 ⟨w,Zqv hw,rfl⟩)).1.a.bs.length
      have h7:a<w.bs.length:=h7
      have h9:(Ao w).us.length=w.bs.length:=h9
      rw [hz2];omega⟩,h6⟩
  ·exact .inr (by rw [← h9];exact Lu (by rw [h9];decide) _ (by omega))
def eff (D:List Dk) (l:List Act) (j:Nat) (p:Int):Nat→List Nat
 | 0=>BH D p j
 | i+1=>match l[i]? with
  | none=>eff D l j p i
  | some (k,d,a,b)=>if d=1∧k.toNat=j∧p=a then Ae (Ae b) else eff D l j p i
variable {z:DK}
theorem QM {k:Nat}(hk:k<Y.length):BH ((Y.set k z).map Aj) p j=if k=j then Ca (Aj z) p else BH (Y.map Aj) p j:=by
 unfold BH
 rw [Zq8,Zq8]
 split
 ·rename_i h
  subst h
  rw [List.getElem?_set_self hk];rfl
 ·rename_i h
  rw [List.getElem?_set_ne h]
theorem QG {k:Nat}(hk:k<Y.length):Bh ((Y.set k z).map Aj) j=if k=j then z.dead else Bh (Y.map Aj) j:=by
 unfold Bh
 rw [Zq8,Zq8]
 split
 ·rename_i h
  subst h
  rw [List.getElem?_set_self hk];rfl
 ·rename_i h
  rw [List.getElem?_set_ne h]
theorem Wc (h:b.length=128):Ae b=b:=by
 unfold Ae
 rw [Zqh]
 rintro rfl
 cases h
def BK (d:Dv) (o:Lo):Dv:=(d.1,d.2.1,o,d.2.2.2)
variable {o:Lo}{E:List Dk}
theorem N2 (h:∀ k:Nat,Cb (BK d o) E s k=Cb d D s k) (hT:K3 d D s):K3 (BK d o) E s∧∀ k:Nat,BX (BK d o) E s k=BX d D s k:=by
 have h2:∀ k:Nat,BX (BK d o) E s k=BX d D s k:=fun k=>by
  unfold BX
  rw [h k];rfl
 have e1:Eh (BK d o) E s=Eh d D s:=funext fun k=>by unfold Eh;rw [h k]
 have e2:Ga (BK d o) E s=Ga d D s:=funext fun k=>by unfold Ga;rw [h2 k]
 have e3:∀ i,Fa (BK d o) E s i=Fa d D s i:=fun i=>by unfold Fa;rw [e1]
 have e4:∀ i,Hx (BK d o) E s i=Hx d D s i:=fun i=>by unfold Hx;rw [e2]
 refine ⟨?_,h2⟩
 obtain ⟨t1,t2,t3⟩:=hT
 refine ⟨fun k hk=>by rw [h k];exact t1 k hk,by rw [show (BK d o).1=d.1 from rfl,e3];exact t2,fun hp x hx=>?_⟩
 obtain ⟨q1,q2⟩:=t3 hp x hx
 exact ⟨fun k hk hc hz=>by rw [e1];exact q1 k hk hc hz,fun hc=>by rw [show (BK d o).1=d.1 from rfl,e4];exact q2 hc⟩
theorem Vs (h:EA d) (hl:Bq d.1 o) (hn:o.2.2.2.2.2.1=d.2.2.1.2.2.2.2.2.1):EA (BK d o):=by
 obtain ⟨c,bk,⟨ev,lo,sp,po,dn,nl,br⟩,hs,⟨ag,sq,tl,us,L⟩,fs,nx,so⟩:=d
 obtain ⟨ev',lo',sp',po',dn',nl',br'⟩:=o
 dsimp only at hn hl
 subst hn
 unfold BK
 unfold EA G0 at h ⊢
 obtain ⟨⟨h1,-,h3⟩,h⟩:=h
 exact ⟨⟨h1,hl,h3⟩,h⟩
variable {ms:Int}
theorem Vl (hM:c.may) (hs:0≤s) (hd:∀ i<c.members.toNat,Bh E i=Bh D i) (he:∀ i<c.members.toNat,BH E (s+1) i=BH D (s+1) i) (hk:0≤k):Eg c E ms s k=Eg c D ms s k:=by
 obtain ⟨K,rfl⟩:∃ K:Nat,k=K:=⟨k.toNat,by omega⟩
 obtain ⟨-,q2,-⟩:=R9 hM hs K
 unfold Eg
 have l1:∀ i<c.members.toNat,DO E ms i↔DO D ms i:=fun i hi=>by unfold DO;rw [hd i hi]
 have e1:Bn E (s+1) (Bf c s K).toNat c.members.toNat=Bn D (s+1) (Bf c s K).toNat c.members.toNat:=WJ _ fun j hj _=>he j hj
 have e2:=he _ q2
 unfold BH at e2
 rw [e1,e2]
 generalize hp:(Bf c s K).toNat=p at *
 by_cases hq:DO D ms p
 ·have hqE:¬¬DO E ms p:=fun h=>h ((l1 _ q2).2 hq)
  have hqD:¬¬DO D ms p:=fun h=>h hq
  rw [Zqh hqE,Zqh hqD]
  by_cases hr:∀ i<c.members.toNat,i≠p→¬DO D ms i
  ·have hrE:∀ i<c.members.toNat,i≠p→¬DO E ms i:=fun i hi hn g=>hr i hi hn ((l1 i hi).1 g)
   rw [Zqd hrE,Zqd hr]
  ·have hrE:¬∀ i<c.members.toNat,i≠p→¬DO E ms i:=fun h=>hr fun i hi hn g=>h i hi hn ((l1 i hi).2 g)
   rw [Zqh hrE,Zqh hr]
 ·have hqE:¬DO E ms p:=fun h=>hq ((l1 _ q2).1 h)
  rw [Zqd hqE,Zqd hq]
variable {lo:Int}
theorem Zd8 (hM:c.may) (hs:0≤s) (hlo:0≤lo∧lo<c.members) (hd:∀ i<c.members.toNat,Bh D i=false) (hd':∀ i<c.members.toNat,Bh E i=false) (he:∀ i<c.members.toNat,BH E (s+1) i=if i=lo.toNat then Bi (Bn D (s+1) lo.toNat c.members.toNat) else BH D (s+1) i) (hk:0≤k):Eg c E (-1) s k=Eg c D lo s k:=by
 obtain ⟨K,rfl⟩:∃ K:Nat,k=K:=⟨k.toNat,by omega⟩
 obtain ⟨-,q2,-⟩:=R9 hM hs K
 have e2:=he _ q2
 unfold Eg
 rw [Zqd (fun h=>by
  rcases h with h|h
  ·omega
  ·rw [hd' _ q2] at h;cases h)]
 show some (BH E (s+1) (Bf c s K).toNat)=_
 rw [e2]
 by_cases hon:(Bf c s K).toNat=lo.toNat
 ·rw [Zqd hon,hon,Zqh (fun h=>h (.inl (by omega))),Zqd]
  intro i hi hn
  rintro (h|h)
  ·omega
  ·rw [hd _ hi] at h;cases h
 ·rw [Zqh hon,Zqd]
  ·rfl
  ·rintro (h|h)
   ·omega
   ·rw [hd _ q2] at h;cases h
theorem WV:D6 o s=if o.2.2.1=true∧s<o.2.2.2.1 then -1 else o.2.1:=rfl
theorem Za9 (hM:d.1.may) (hT:Ed d D) (hsp:d.2.2.1.2.2.1=true) (hpo:d.2.2.1.2.2.2.1<Ar d.1) (h20:CH d.1 E) (hd:∀ i<d.1.members.toNat,Bh E i=false)
 (he:∀ s:Int,0≤s→∀ i<d.1.members.toNat,BH E (s+1) i=if s=d.2.2.1.2.2.2.1∧i=d.2.2.1.2.1.toNat then Bi (Bn D (s+1) i d.1.members.toNat) else BH D (s+1) i):
 Ed (BK d (EK d.2.2.1)) E∧∀ s:Int,0≤s→s<Ar d.1→∀ k:Nat,BX (BK d (EK d.2.2.1)) E s k=BX d D s k:=by
 obtain ⟨hm,hm20,hbr,hal,htd⟩:=hT
 have hdD:∀ i<d.1.members.toNat,Bh D i=false:=fun i hi=>by
  have hl:=hm20.1
  cases hx:D[i]? with
  | none=>unfold Bh;rw [hx];rfl
  | some x=>
   unfold Bh
   rw [hx]
   show x.2.2=false
   cases hxd:x.2.2 with
   | false=>rfl
   | true=>have:=(hal i (by omega) x hx hxd).2;rw [hsp] at this;cases this
 have hlB:Bq d.1 d.2.2.1:=by
  obtain ⟨c,bk,⟨ev,lo,sp,po,dn,nl,br⟩,hs,⟨ag,sq,tl,us,L⟩,fs,nx,so⟩:=d
  unfold EA G0 at hm
  exact hm.1.2.1
 have hf:∀ s:Int,0≤s→s<Ar d.1→∀ k:Nat,Cb (BK d (EK d.2.2.1)) E s k=Cb d D s k:=by
  intro s h0 h1 k
  obtain ⟨c,bk,⟨ev,lo,sp,po,dn,nl,br⟩,hs,⟨ag,sq,tl,us,L⟩,fs,nx,so⟩:=d
  dsimp only at hsp hpo hlB hd he hdD h1 hM
  subst hsp
  have hL2:=hlB.2.2.2.1 rfl
  show Eg c E (D6 (ev,lo,true,po+1,dn,nl,br) s) s k=Eg c D (D6 (ev,lo,true,po,dn,nl,br) s) s k
  rw [WV,WV]
  dsimp only
  by_cases hs:s=po
  ·subst hs
   rw [Zqd ⟨rfl,by omega⟩,Zqh (by omega)]
   refine Zd8 hM h0 ⟨hL2.1,hlB.2.2.1⟩ hdD hd (fun i hi=>?_) (Zrs k)
   rw [he s h0 i hi]
   by_cases hi2:i=lo.toNat
   ·rw [Zqd ⟨rfl,hi2⟩,Zqd hi2,hi2]
   ·rw [Zqh (fun h=>hi2 h.2),Zqh hi2]
  ·have e:(if true=true∧s<po+1 then (-1:Int) else lo)=if true=true∧s<po then -1 else lo:=by
    by_cases h:s<po
    ·rw [Zqd ⟨rfl,by omega⟩,Zqd ⟨rfl,h⟩]
    ·rw [Zqh (by omega),Zqh (by omega)]
   rw [e]
   exact Vl hM h0 (fun i hi=>by rw [hd i hi,hdD i hi]) (fun i hi=>by rw [he s h0 i hi,Zqh fun h=>hs h.1]) (Zrs k)
 refine ⟨⟨Vs hm ?_ ?_,h20,?_,?_,fun s hs=>(N2 (hf s (Zrs s) hs) (htd s hs)).1⟩,fun s h0 h1 k=>?_⟩
 ·obtain ⟨c,bk,⟨ev,lo,sp,po,dn,nl,br⟩,hs,⟨ag,sq,tl,us,L⟩,fs,nx,so⟩:=d
  dsimp only at hsp hpo hlB
  subst hsp
  have hL2:=hlB.2.2.2.1 rfl
  show Bq c (ev,lo,true,po+1,dn,nl,br)
  have hpo:po<Ar c:=hpo
  exact ⟨hlB.1,hlB.2.1,hlB.2.2.1,fun _=>⟨hL2.1,hL2.2.1,by omega,by omega⟩,fun h=>(by cases h)⟩
 ·obtain ⟨c,bk,⟨ev,lo,sp,po,dn,nl,br⟩,hs,⟨ag,sq,tl,us,L⟩,fs,nx,so⟩:=d;rfl
 ·obtain ⟨c,bk,⟨ev,lo,sp,po,dn,nl,br⟩,hs,⟨ag,sq,tl,us,L⟩,fs,nx,so⟩:=d;exact hbr
 ·intro i hi x hx hxd
  have:=hd i (by have:(BK d (EK d.2.2.1)).1=d.1:=rfl;rw [this] at hi;omega)
  unfold Bh at this
  rw [hx] at this
  rw [show x.2.2=false from this] at hxd
  cases hxd
 ·have:=htd s.toNat (by omega)
  rw [Int.toNat_of_nonneg h0] at this
  exact (N2 (hf s h0 h1) this).2 k
theorem Zba (hM:d.1.may) (hT:Ed d D) (hsp:d.2.2.1.2.2.1=true) (h20:CH d.1 E) (hd:∀ i<d.1.members.toNat,Bh E i=false)
 (he:∀ s:Int,0≤s→∀ i<d.1.members.toNat,BH E (s+1) i=BH D (s+1) i) (hlo:Bq d.1 o) (hnl:o.2.2.2.2.2=d.2.2.1.2.2.2.2.2) (hfo:∀ s:Int,0≤s→s<Ar d.1→D6 o s=D6 d.2.2.1 s):
 Ed (BK d o) E∧∀ s:Int,0≤s→s<Ar d.1→∀ k:Nat,BX (BK d o) E s k=BX d D s k:=by
 obtain ⟨hm,hm20,hbr,hal,htd⟩:=hT
 have hdD:∀ i<d.1.members.toNat,Bh D i=false:=fun i hi=>by
  cases hx:D[i]? with
  | none=>unfold Bh;rw [hx];rfl
  | some x=>
   unfold Bh
   rw [hx]
   show x.2.2=false
   cases hxd:x.2.2 with
   | false=>rfl
   | true=>have:=(hal i (by omega) x hx hxd).2;rw [hsp] at this;cases this
 have hf:∀ s:Int,0≤s→s<Ar d.1→∀ k:Nat,Cb (BK d o) E s k=Cb d D s k:=fun s h0 h1 k=>by
  show Eg d.1 E (D6 o s) s k=Eg d.1 D (D6 d.2.2.1 s) s k
  rw [hfo s h0 h1]
  exact Vl hM h0 (fun i hi=>by rw [hd i hi,hdD i hi]) (fun i hi=>he s h0 i hi) (Zrs k)
 refine ⟨⟨Vs hm hlo (by rw [hnl]),h20,?_,?_,fun s hs=>(N2 (hf s (Zrs s) hs) (htd s hs)).1⟩,fun s h0 h1 k=>?_⟩
 ·show o.2.2.2.2.2.2=false
  rw [hnl];exact hbr
 ·intro i hi x hx hxd
  have:=hd i (by have:(BK d o).1=d.1:=rfl;rw [this] at hi;omega)
  unfold Bh at this
  rw [hx] at this
  rw [show x.2.2=false from this] at hxd
  cases hxd
 ·have:=htd s.toNat (by omega)
  rw [Int.toNat_of_nonneg h0] at this
  exact (N2 (hf s h0 h1) this).2 k
def Fb (c:Cfg) (ev me lo dn:Int) (op:Bool):List AV:=[.int .u32 c.id,.int .u32 ev,.int .i64 c.members,.int .i64 c.chunk,.int .i64 c.rows,.int .i64 c.log,.int .i64 me,.int .i64 lo,.int .i64 dn,.bool op]
def MV (c:Cfg) (ev me lo dn:Int):Prop:=(0≤ev∧ev≤2147483648)∧(0≤me∧me<c.members)∧(-1≤lo∧lo<c.members)∧(0≤dn∧dn≤Ar c)∧(lo=-1→dn=0)
def lbR (args:List AV) (u:AV):Prop:=∃ c ev me lo dn op,args=[.agg (Fb c ev me lo dn op)]∧c.ok∧c.may∧MV c ev me lo dn∧u=.int .i64 0
theorem Zo5 (hE:EM P e) (h40:Con e 40 stripesF.O):OvOk P 204 (Ag lbR):=by
 refine Da g204.b ?_
 rintro args u ⟨c,ev,me,lo,dn,op,rfl,hc,hM,⟨b1,b2,b3,b4,b5⟩,rfl⟩
 refine ⟨rfl,rfl,C.of_G hE g204 ?_⟩
 have hM':=hM
 unfold Cfg.may at hM'
 have hmm:=B4 hM
 have hc2:Cfg.ok ⟨c.id,c.members,c.chunk,c.rows,c.log,2⟩:=by
  obtain ⟨q1,q2,q3,q4,q5,q6⟩:=hc
  exact ⟨q1,q2,q3,q4,q5,show Aa 2 by unfold Aa;omega⟩
 have hM2:Cfg.may ⟨c.id,c.members,c.chunk,c.rows,c.log,2⟩:=by
  refine ⟨hM'.1,hM'.2.1,hM'.2.2.1,show (2:Int)≤2∧(2:Int)≤8 from ⟨by omega,by omega⟩,?_,hM'.2.2.2.2.2⟩
  have:=Int.mul_le_mul_of_nonneg_left (show (2:Int)+1≤c.heads+1 by omega) (show 0≤c.members+1 by omega)
  have h5:=hM'.2.2.2.2.1
  show (c.members+1)*(2+1)≤c.log
  omega
 have hst:∀ (Q:AV→St→Prop) s,Q (.tup [.int .i64 (c.chunk*c.rows),.int .i64 0]) s→ESc e 40 [.agg (Cfg.c ⟨c.id,c.members,c.chunk,c.rows,c.log,2⟩)] s Q:=Hc h40 hc2 hM2
 unfold Ar at b4 hmm
 have b6:lo≠-1∨dn=0:=by
  by_cases h:lo=-1
  ·exact .inr (b5 h)
  ·exact .inl h
 have fin:∀ st,Frz st (.int .i64 0) (.int .i64 0):=fun st=>.plain _ rfl
 change VW P e 0 _ (Ah [.agg (Fb c ev me lo dn op)] 0 .lf) St0 none [] _
 unfold Fb
 conv=>whnf
 repeat' (first|(refine hst _ _ ?_;conv=>whnf)|refine v1 ?_ ?_|refine v3 ?_ ?_|refine v4 ?_ ?_|refine v5 ?_ ?_|refine v6 ?_ ?_|(intro _;first|omega|conv=>whnf))
 all_goals first
  | exact fin _
  | (exfalso;omega)
def Zpq:AC:=match Po with|.mk c _=>c
def Ei (c:Cfg) (ev me lo dn:Int) (op:Bool):List (Int×Int×Int):=[(76,0,1),(c.id,1,4),(ev,5,4),(c.members,9,1),(c.chunk,10,1),(c.rows,11,1),(c.log,12,1),(me,13,1),(if lo=-1 then 255 else lo,14,1),(dn,15,1),(if op=true then 1 else 0,16,1)]
def ME (c:Cfg) (ev me lo dn:Int) (op:Bool):List AV:=(Ei c ev me lo dn op).flatMap fun x=>[.int .i64 x.1,.int .i64 x.2.1,.int .i64 x.2.2]
def Pb (args:List AV) (u:AV):Prop:=∃ c ev me lo dn op,args=[.agg (Fb c ev me lo dn op)]∧c.ok∧c.may∧MV c ev me lo dn∧u=.fz 11 none (ME c ev me lo dn op)
set_option maxHeartbeats 4000000 in
theorem Zlo (hE:EM P e) (h216:Inl e 216 Zpq [.cells 5 3]):OvOk P 205 (Ag Pb):=by
 refine Da g205.b ?_
 rintro args u ⟨c,ev,me,lo,dn,op,rfl,hc,hM,⟨b1,b2,b3,b4,b5⟩,rfl⟩
 refine ⟨rfl,rfl,C.of_G hE g205 ?_⟩
 have hid:=hc.id
 unfold Be at hid
 have fin:∀ (st:St) r (cp:Option Nat) (x y:Int),st.get r=some (.row 259 [.int .i64 76,.int .i64 0,.int .i64 1,.int .i64 c.id,.int .i64 1,.int .i64 4,.int .i64 ev,.int .i64 5,.int .i64 4,.int .i64 c.members,.int .i64 9,.int .i64 1,.int .i64 c.chunk,.int .i64 10,.int .i64 1,.int .i64 c.rows,.int .i64 11,.int .i64 1,.int .i64 c.log,.int .i64 12,.int .i64 1,.int .i64 me,.int .i64 13,.int .i64 1,.int .i64 x,.int .i64 14,.int .i64 1,.int .i64 dn,.int .i64 15,.int .i64 1,.int .i64 y,.int .i64 16,.int .i64 1])→x=(if lo=-1 then 255 else lo)→y=(if op=true then 1 else 0)→Frz st (.sl r 0 11 cp) (.fz 11 none (ME c ev me lo dn op)):=by
  rintro st r cp x y hg rfl rfl
  exact .sl r 0 _ _ _ 259 _ _ _ hg (fun i x hx=>by rw [Zqo];exact hx) (Cz rfl) (.inl rfl)
 generalize AV.fz 11 none (ME c ev me lo dn op)=O at *
 change VW P e 0 _ (Ah [.agg (Fb c ev me lo dn op)] 0 .lf) St0 none [] _
 unfold Fb
 cases op
 all_goals
  by_cases hl:lo=-1
  ·subst hl
   conv=>whnf
   repeat' (first|((first|refine ECall.inl h216.O h216.G ?_|refine v7 ?_|refine Cj ?_|refine ⟨rfl,?_⟩);conv=>whnf)|refine v5 ?_ ?_|(intro _;first|omega|conv=>whnf))
   first
    | (refine fin _ _ _ 255 0 ?_ (Zqd rfl).symm rfl;rfl)
    | (refine fin _ _ _ 255 1 ?_ (Zqd rfl).symm rfl;rfl)
  ·conv=>whnf
   repeat' (first|((first|refine ECall.inl h216.O h216.G ?_|refine v7 ?_|refine Cj ?_|refine ⟨rfl,?_⟩);conv=>whnf)|refine v5 ?_ ?_|(intro _;first|omega|conv=>whnf))
   first
    | (refine fin _ _ _ lo 0 ?_ (Zqh hl).symm rfl;rfl)
    | (refine fin _ _ _ lo 1 ?_ (Zqh hl).symm rfl;rfl)
theorem TY:∀ {bs:List Nat},(∀ b ∈ bs,b<256)→Cs (Ab bs)=some bs
 | [],_=>rfl
 | b::bs,h=>by
  show (Bool.rec none (Option.rec none (fun r=>some (b::r)) (Cs (Ab bs))) (Nat.blt b 256):Option (List Nat))=_
  rw [TY (fun x hx=>h x (by simp [hx])),show Nat.blt b 256=true by simpa using h b (by simp)]
theorem VF {s:St}(h:BAt u b):Ia s u=some b:=by
 obtain ⟨h1,h2⟩:=h
 rcases h1 with ⟨rfl,h3,h4⟩|⟨rfl,h3,h4⟩|⟨c,rfl,h3⟩
 ·rw [Zq7.1 h3];rfl
 ·rw [Zq7.1 h3];rfl
 ·show (Bool.rec none (Cs (Ab b)) (Nat.beq (A6 (Ab b)) b.length):Option (List Nat))=_
  rw [TY h2,CN,Bt,Zrw]
theorem Vi {bs:List Nat}{z:Int}{s:St}(hv:BAt v bs) (hl:bs.length=0∨bs.length=128) (h:Fr a z n=true):
 KJ [v,.int .i64 a,.int .i64 z,.int .i64 n] s=.ok (.tup [.fz 128 (some 128) (Ab (Ci (Ae bs) a.toNat n.toNat z.toNat)),.int .i64 0]) s:=by
 show (Option.rec .fail (fun bs=>.ok (Fz bs a z n) s) (Ia St0 v):RV)=_
 rw [VF hv]
 show RV.ok (Fz bs a z n) s=_
 unfold Fz
 rw [Zqh (by omega),Zqd h]
def fdP (x:Int×Int×Int):Prop:=Aa x.1∧(1≤x.2.2∧x.2.2≤4)∧(0≤x.2.1∧x.2.1+x.2.2≤128)∧0≤x.1∧x.1.toNat<2^(8*x.2.2.toNat)
theorem Zly {x:Int×Int×Int}(h:fdP x):Fr x.2.1 x.2.2 x.1=true:=by
 obtain ⟨h0,h1,h2,h3,h4⟩:=h
 unfold Fr KA
 rw [Zqe (by omega),Zqe ⟨h3,Nat.div_eq_of_lt h4⟩];rfl
def BI (F:List (Int×Int×Int)):Nat→List Nat
 | 0=>[]
 | i+1=>match F[i]? with
  | none=>BI F i
  | some x=>Ci (Ae (BI F i)) x.2.1.toNat x.1.toNat x.2.2.toNat
theorem QR {bs:List Nat}{a n:Nat}(h:∀ x ∈ bs,x<256):∀ i,∀ x ∈ Ci bs a n i,x<256
 | 0,x,hx=>h x hx
 | i+1,x,hx=>by
  unfold Ci at hx
  rcases List.mem_or_eq_of_mem_set hx with h1|rfl
  ·exact QR h i x h1
  ·exact Nat.mod_lt _ (by decide)
theorem Km (F:List (Int×Int×Int)):∀ i,((BI F i).length=0∨(BI F i).length=128)∧∀ x ∈ BI F i,x<256
 | 0=>⟨.inl rfl,fun x hx=>by cases hx⟩
 | i+1=>by
  obtain ⟨h1,h2⟩:=Km F i
  unfold BI
  cases F[i]? with
  | none=>exact ⟨h1,h2⟩
  | some x=>exact ⟨.inr (by rw [Ll];exact Lq h1),QR (R7 h2) _⟩
def J9 (F:List (Int×Int×Int)) (i:Nat):AV:=if i=0 then .nils else .fz 128 (some 128) (Ab (BI F i))
theorem Zlp {ev me dn:Int}{op:Bool}(hc:c.ok) (hM:c.may) (h:MV c ev me lo dn):∀ x ∈ Ei c ev me lo dn op,fdP x:=by
 have hid:=hc.id
 unfold Be at hid
 have hmm:=(B4 hM).1
 have hlog:=GF hM
 unfold Cfg.may at hM
 obtain ⟨b1,b2,b3,b4,b5⟩:=h
 intro x hx
 unfold Ei at hx
 simp only [Zrj,List.not_mem_nil,or_false] at hx
 unfold fdP Aa
 rcases hx with rfl|rfl|rfl|rfl|rfl|rfl|rfl|rfl|rfl|rfl|rfl
 all_goals dsimp only
 all_goals first
  | (refine ⟨by omega,by omega,by omega,by omega,?_⟩;show _<2^8;omega)
  | (refine ⟨by omega,by omega,by omega,by omega,?_⟩;show _<2^32;omega)
  | (by_cases hl:lo=-1
     ·rw [Zqd hl];refine ⟨by omega,by omega,by omega,by omega,?_⟩;show _<2^8;omega
     ·rw [Zqh hl];refine ⟨by omega,by omega,by omega,by omega,?_⟩;show _<2^8;omega)
  | (cases op
     ·rw [Zqh (by decide)];refine ⟨by omega,by omega,by omega,by omega,?_⟩;show _<2^8;omega
     ·rw [Zqd rfl];refine ⟨by omega,by omega,by omega,by omega,?_⟩;show _<2^8;omega)
def J6 (F:List (Int×Int×Int)):List AV:=F.flatMap fun x=>[.int .i64 x.1,.int .i64 x.2.1,.int .i64 x.2.2]
theorem Zku {F:List (Int×Int×Int)}(h:∀ x ∈ F,fdP x) (hn:F.length≤1000):Ls spC F (.fz F.length none (J6 F)):=by
 refine ⟨F.map fun x=>[.int .i64 x.1,.int .i64 x.2.1,.int .i64 x.2.2],?_,.inr (.inr ⟨none,by rw [← List.flatMap_def];rfl,?_⟩),by omega⟩
 ·refine Ey (by simp) fun i x l h1 h2=>?_
  rw [Zq8,h1] at h2
  cases h2
  obtain ⟨q0,q1,q2,q3,q4⟩:=h x (Zqv h1)
  exact ⟨[_],_,rfl,⟨rfl,AW q0⟩,[_],_,rfl,⟨rfl,AW (by unfold Aa;omega)⟩,rfl,AW (by unfold Aa;omega)⟩
 ·rw [← List.flatMap_def]
  have:∀ F:List (Int×Int×Int),(J6 F).length=F.length*3:=fun F=>by
   unfold J6
   induction F with
   | nil=>rfl
   | cons x F ih=>rw [List.flatMap_cons,Zqn,ih,Zq3];simp;omega
  exact this F
def Zpu:AC:=match Px with|.mk c _=>c
theorem UR:∀ {bs:List Nat}{s:Nat},(∀ b ∈ bs,b<256)→s<4294967296→Hg bs s<4294967296
 | [],s,_,h=>h
 | b::bs,s,hb,h=>by
  show Hg bs (Oc s b)<_
  refine UR (fun x hx=>hb x (by simp [hx])) (LL (LL (Zrz (n:=32) h ?_)))
  have:=hb b (by simp);omega
def Jt (bs:List Nat):Nat:=Hg bs 4294967295 ^^^ 4294967295
def J8 (F:List (Int×Int×Int)):List Nat:=Ci (Ae (BI F F.length)) 124 (Jt ((BI F F.length).take 124)) 4
theorem WS (F:List (Int×Int×Int)):(J8 F).length=128∧∀ x ∈ J8 F,x<256:=by
 obtain ⟨h1,h2⟩:=Km F F.length
 exact ⟨by unfold J8;rw [Ll];exact Lq h1,QR (R7 h2) _⟩
def Pa (args:List AV) (u:AV):Prop:=∃ c ev me lo dn op,args=[.agg (Fb c ev me lo dn op)]∧c.ok∧c.may∧MV c ev me lo dn∧u=.tup [.fz 128 (some 128) (Ab (J8 (Ei c ev me lo dn op))),.int .i64 0]
theorem Zln (hE:EM P e) (h204:Con e 204 (Ag lbR)) (h205:Con e 205 (Ag Pb)) (h206:Con e 206 KJ) (h207:Inl e 207 Zpu [.tmp 2]) (h219:Con e 219 K5):OvOk P 181 (Ag Pa):=by
 refine Da g181.b ?_
 rintro args u ⟨c,ev,me,lo,dn,op,rfl,hc,hM,hP,rfl⟩
 refine ⟨rfl,rfl,C.of_G hE g181 ?_⟩
 have hck:∀ (Q:AV→St→Prop) s,Q (.int .i64 0) s→ESc e 204 [.agg (Fb c ev me lo dn op)] s Q:=fun Q s q=>ESc.rel h204 ⟨_,c,ev,me,lo,dn,op,rfl,hc,hM,hP,rfl⟩ (by rintro u ⟨_,_,_,_,_,_,-,-,-,-,rfl⟩;exact q)
 have hfd:∀ (Q:AV→St→Prop) s,Q (.fz (Ei c ev me lo dn op).length none (J6 (Ei c ev me lo dn op))) s→ESc e 205 [.agg (Fb c ev me lo dn op)] s Q:=fun Q s q=>ESc.rel h205 ⟨_,c,ev,me,lo,dn,op,rfl,hc,hM,hP,rfl⟩ (by
  rintro u ⟨c',ev',me',lo',dn',op',e1,-,-,-,rfl⟩
  unfold Fb at e1
  injection e1 with e1
  injection e1 with e1
  simp only [List.cons.injEq,AV.int.injEq,AV.bool.injEq,true_and,and_true] at e1
  obtain ⟨q1,rfl,q3,q4,q5,q6,rfl,rfl,rfl,rfl⟩:=e1
  have:ME c' ev me lo dn op=J6 (Ei c ev me lo dn op):=by
   unfold ME J6 Ei
   rw [q1,q3,q4,q5,q6]
  rw [this];exact q)
 have hF:=Zlp (op:=op) hc hM hP
 have hlen:(Ei c ev me lo dn op).length=11:=rfl
 have hLs:=Zku hF (by omega)
 have hfin:=WS (Ei c ev me lo dn op)
 unfold J8 at hfin ⊢
 generalize Ei c ev me lo dn op=F at *
 obtain ⟨cs,hs',hl',hn⟩:=hLs.nth
 have huf:=hLs.hf
 generalize AV.fz F.length none (J6 F)=u at *
 change VW P e 0 _ (Ah [.agg (Fb c ev me lo dn op)] 0 .lf) St0 none [] _
 have hlb:Fb c ev me lo dn op=[.int .u32 c.id,.int .u32 ev,.int .i64 c.members,.int .i64 c.chunk,.int .i64 c.rows,.int .i64 c.log,.int .i64 me,.int .i64 lo,.int .i64 dn,.bool op]:=rfl
 rw [hlb] at hck hfd ⊢
 conv=>whnf
 repeat' (first|((first|refine hck _ _ ?_|refine hfd _ _ ?_|refine AA rfl hs' ?_);conv=>whnf)|refine v6 ?_ ?_|(intro _;first|omega|conv=>whnf))
 refine Ax hE F.length (fun i=>[(2,J9 F i),(13,u),(14,.int .i64 (F.length:Int)),(15,.int .i64 (i:Int))]) (fun _=>[]) (fun _=>True) trivial (Abs.tells (rs:=[]) .a) ?_
 intro i hi _
 have hUf:∀ i,AM.hf (J9 F i)=true:=fun i=>by unfold J9;split <;> rfl
 have h128:∀ i,i<F.length→(BI F (i+1)).length=128:=fun i hi=>by
  unfold BI
  rw [Zp9 hi]
  show (Ci _ _ _ _).length=128
  rw [Ll];exact Lq (Km F i).1
 have hU:∀ i,i≤F.length→BAt (J9 F i) (BI F i):=fun i hi=>by
  cases i with
  | zero=>exact ⟨.inl ⟨rfl,rfl,rfl⟩,fun x hx=>by cases hx⟩
  | succ i=>
   have:=h128 i hi
   refine ⟨.inr (.inr ⟨some 128,?_,by rw [Bt];exact (Zrc _).symm⟩),(Km F (i+1)).2⟩
   show AV.fz 128 (some 128) (Ab (BI F (i+1)))=_
   rw [this]
 have hUi:=hU i hi
 by_cases hlt:i<F.length
 ·obtain ⟨⟨n,a,z⟩,_,r,hx,⟨_,_,rfl,⟨rfl,-⟩,_,_,rfl,⟨rfl,-⟩,rfl,-⟩,hd⟩:=hn i hlt
  have hp:=Zly (hF _ (Zqv hx))
  have hUs:J9 F (i+1)=.fz 128 (some 128) (Ab (Ci (Ae (BI F i)) a.toNat n.toNat z.toNat)):=by
   show AV.fz 128 (some 128) (Ab (BI F (i+1)))=_
   rw [show BI F (i+1)=Ci (Ae (BI F i)) a.toNat n.toNat z.toNat from by
    show (match F[i]? with|none=>BI F i|some x=>Ci (Ae (BI F i)) x.2.1.toNat x.1.toNat x.2.2.toNat)=_
    rw [hx]]
  have hpt:=fun s=>Vi (s:=s) hUi (Km F i).1 hp
  rw [hUs]
  generalize Ab (Ci (Ae (BI F i)) a.toNat n.toNat z.toNat)=B at *
  have hbf:=hUf i
  generalize J9 F i=b at *
  conv=>whnf
  repeat' (first|((first|refine Am hs' hlt hd ?_|refine A7 (cs:=[.int .i64 n,.int .i64 a,.int .i64 z]) rfl ?_|refine ESc.ov h206 (hpt _) ?_|refine v7 ?_|refine ⟨rfl,?_⟩);conv=>whnf)|refine v1 ?_ ?_|refine v6 ?_ ?_|(intro _;first|omega|conv=>whnf))
  exact ⟨hlt,trivial,Abs.tells (rs:=[]) .a⟩
 ·obtain rfl:i=F.length:=by omega
  have h11:=h128 10 (by omega)
  rw [show (10:Nat)+1=F.length by omega] at h11
  obtain ⟨w1,w2⟩:=Km F F.length
  have hbL:=hUi.ls (by omega)
  have htk:∀ x ∈ (BI F F.length).take 124,x<256:=fun x hx=>w2 x (Zrg hx)
  have hsm:Jt ((BI F F.length).take 124)<4294967296:=Zrz (n:=32) (UR htk (by decide)) (by decide)
  have hov:∀ (v:AV) (s:St),Ls Ce.u8 ((BI F F.length).take 124) v→K5 [.int .u32 0,v] s=.ok (.int .u32 ((Jt ((BI F F.length).take 124):Nat):Int)) s:=fun v s hv=>by
   show (gd (Nat.blt 0 4294967296) (Option.rec .fail (fun bs=>gd (Nat.blt (A6 bs) 1000000) (.ok (.int .u32 (.ofNat (Nat.xor (Hg bs (Nat.xor 0 4294967295)) 4294967295))) s)) (Ia s v)):RV)=_
   rw [VF hv.b]
   show gd true (gd (Nat.blt (A6 ((BI F F.length).take 124)) 1000000) _)=_
   rw [CN,Zqz,h11];rfl
  have hpt:=fun s=>Vi (s:=s) (a:=124) (z:=4) (n:=((Jt ((BI F F.length).take 124):Nat):Int)) hUi w1 (by
   unfold Fr KA
   rw [Zqe (by omega),Zqe ⟨Zrs _,Nat.div_eq_of_lt (by rw [Int.toNat_natCast];exact hsm)⟩];rfl)
  rw [Int.toNat_natCast] at hpt
  have hfr:∀ (s:St),Frz s (.tup [.fz 128 (some 128) (Ab (Ci (Ae (BI F F.length)) 124 (Jt ((BI F F.length).take 124)) 4)),.int .i64 0]) (.tup [.fz 128 (some 128) (Ab (Ci (Ae (BI F F.length)) 124 (Jt ((BI F F.length).take 124)) 4)),.int .i64 0]):=fun s=>.plain _ rfl
  have h124:(124:Nat)≤(BI F F.length).length:=by omega
  have hbf:=hUf F.length
  generalize J9 F F.length=b at *
  generalize Jt ((BI F F.length).take 124)=S at *
  conv=>whnf
  refine Bb rfl rfl (fun h=>?_) (fun h=>?_)
  ·exfalso;omega
  conv=>whnf
  repeat' (first|((first|refine Nu (i:=124) rfl hbL rfl rfl h124 (fun v hv=>?_)|refine ESc.inl h207 ?_|refine ESc.ov h219 (hov _ _ hv) ?_|refine ESc.ov h206 (hpt _) ?_|refine Cj ?_);conv=>whnf)|fail)
  exact hfr _
end Go.AM
