/- Contracts of functions over the abstract machine. No conditions. -/
import Derived.Test.YtacmbogmbfmjeaaGreatStF
import Derived.Test.YtacmbogmbfmjeaaGreatStD
import Derived.Test.YtacmbogmbfmjeaaGreatStE
set_option linter.unusedVariables false
set_option linter.unusedSimpArgs false
set_option maxRecDepth 100000
namespace Go.AM
attribute [local irreducible] W
open X
def lgT:List AV->List AV
 | [ag,sq,tl,us,v]=>[ag,sq,tl,us,Af v]
 | l=>l
variable {l:List AV}
theorem Yx {x:Lg}(h:lgC.r x l):lgC.r x (lgT l):=by
 obtain ⟨ag,sq,tl,us,L⟩:=x
 obtain ⟨_,_,rfl,⟨rfl,h1⟩,_,_,rfl,⟨rfl,h2⟩,_,_,rfl,⟨rfl,h3⟩,_,_,rfl,⟨rfl,h4⟩,v,rfl,h5⟩:=h
 exact ⟨[_],_,rfl,⟨rfl,h1⟩,[_],_,rfl,⟨rfl,h2⟩,[_],_,rfl,⟨rfl,h3⟩,[_],_,rfl,⟨rfl,h4⟩,_,rfl,Ls.cln h5⟩
def PC (args:List AV) (u:AV):Prop:=∃ x l,args=[.agg l]∧lgC.r x l∧x.2.2.2.2.length≤1000∧u=.agg (lgT l)
theorem Ziq {e:Env}(h117:Con e 117 (Ao PC)) {x:Lg}{l:List AV}(h:lgC.r x l) (hs:x.2.2.2.2.length≤1000) (Q:AV->St->Prop) (s:St) (q:Q (.agg (lgT l)) s):ESc e 117 [.agg l] s Q:=by
 refine ESc.rel h117 ⟨_,x,l,rfl,h,hs,rfl⟩ ?_
 rintro u ⟨x',l',e1,-,-,rfl⟩
 cases e1
 exact q
variable {e:Env}
theorem Zmu (hE:EM P e) (h159:Con e 159 (Ao (DL 6))):OvOk P 117 (Ao PC):=by
 refine CX g117.b ?_
 rintro args u ⟨⟨ag,sq,tl,us,L⟩,l,rfl,hx,hn,rfl⟩
 have hrow:=lgC.hf hx
 have hrow2:=lgC.hf (Yx hx)
 obtain ⟨v,rfl,o1,o2,o3,o4,hL⟩:=MT hx
 dsimp only at hn hL
 have hvf:=hL.hf
 have hcf:=(Ls.cln hL).hf
 have hcc:=(Ls.cln hL).cell
 refine ⟨by show (hfs _ && true)=true;rw [hrow];rfl,by show hfs _=true;exact hrow2,C.of_G hE g117 ?_⟩
 have hcd:=fun Q s q=>I0 (A:=lvC) (e:=e) (f:=159) h159 hL (by decide) (by omega) Q s q
 change VW P e 0 _ (An [.agg [.int .u32 ag,.int .u32 sq,.int .i64 tl,.int .i64 us,v]] 0 .lf) St0 none [] _
 conv=>whnf
 repeat' (first|(refine DA (by show Nat.beq (A7 (cellsOf (Af v))) 1=true;rw [hcc];rfl) ?_;rw [hcc];conv=>whnf)|(refine hcd _ _ ?_;conv=>whnf)|fail)
 exact .agg _ _ (.cons (.plain _ rfl) (.cons (.plain _ rfl) (.cons (.plain _ rfl) (.cons (.plain _ rfl) (.cons (.plain _ hcf) .nil)))))
def Lt:AV->AV
 | .es=>.fz 0 none []
 | .fz n _ l=>.fz n none (l.map Af)
 | v=>v
variable {bl:List (List Nat)}{ls:List (List AV)}
theorem RG (h:All2 bytC.r bl ls):All2 bytC.r bl (ls.map fun l=>l.map Af)∧(ls.map fun l=>l.map Af).flatten=ls.flatten.map Af:=by
 induction h with
 | nil=>exact ⟨.nil,rfl⟩
 | cons h1 h2 ih=>
  obtain ⟨u,rfl,hu⟩:=h1
  refine ⟨.cons ⟨_,rfl,hu.cln⟩ ih.1,?_⟩
  rw [Zqz,List.flatten_cons,List.flatten_cons,Zp8,ih.2]
variable {v:AV}
theorem Zkd (h:Ls bytC bl v):Ls bytC bl (Lt v):=by
 obtain ⟨ls,a,s,hn⟩:=h
 obtain ⟨k1,k2⟩:=RG a
 rcases s with ⟨rfl,h1,h2⟩|⟨rfl,h1,h2⟩|⟨c,rfl,h1⟩
 ·rw [Zqh.1 h1];exact Ee (.inl rfl)
 ·rw [Zqh.1 h1]
  exact ⟨[],.nil,.inr (.inr ⟨none,rfl,rfl⟩),by simp⟩
 ·refine ⟨_,k1,.inr (.inr ⟨none,?_,?_⟩),hn⟩
  ·rw [k2];rfl
  ·rw [k2,Zpq];exact h1
def fT:List AV->List AV
 | [n,k,a,m,dv,tv,qv,av]=>[n,k,a,m,Af dv,Af tv,Af qv,Lt av]
 | l=>l
def flT:List AV->List AV
 | n::k::a::m::dv::tv::qv::av::l=>n::k::a::m::Af dv::Af tv::Af qv::Lt av::flT l
 | l=>l
def FO:AV->AV
 | .fz (n+1) _ l=>.fz (n+1) none (flT l)
 | _=>.nils
def flS (x:Fl):Prop:=x.2.1.2.2.2.length≤1000000∧x.2.2.1.length≤1000000∧x.2.2.2.1.length≤1000000∧x.2.2.2.2.length≤1000000∧∀ b ∈ x.2.2.2.2,b.length≤1000000
variable {x:Fl}
theorem T2 (h:ftC.r x l):ftC.r x (fT l):=by
 obtain ⟨n,⟨k,a,m,d⟩,st,sq,da⟩:=x
 obtain ⟨_,_,rfl,⟨rfl,h1⟩,_,_,rfl,⟨_,_,rfl,⟨rfl,k1⟩,_,_,rfl,⟨rfl,k2⟩,_,_,rfl,⟨rfl,k3⟩,dv,rfl,k4⟩,_,_,rfl,⟨tv,rfl,h3⟩,_,_,rfl,⟨qv,rfl,h4⟩,av,rfl,h5⟩:=h
 exact ⟨[_],_,rfl,⟨rfl,h1⟩,[_,_,_,_],_,rfl,⟨[_],_,rfl,⟨rfl,k1⟩,[_],_,rfl,⟨rfl,k2⟩,[_],_,rfl,⟨rfl,k3⟩,_,rfl,Ls.cln k4⟩,[_],_,rfl,⟨_,rfl,Ls.cln h3⟩,[_],_,rfl,⟨_,rfl,Ls.cln h4⟩,_,rfl,Zkd h5⟩
theorem Zot (h:ftC.r x l):∃ a b c d e f g i,l=[a,b,c,d,e,f,g,i]:=by
 obtain ⟨n,⟨k,a,m,d⟩,st,sq,da⟩:=x
 obtain ⟨dv,tv,qv,av,rfl,-⟩:=Dq h
 exact ⟨_,_,_,_,_,_,_,_,rfl⟩
theorem Rq:∀ {fs:List Fl}{ls:List (List AV)},All2 ftC.r fs ls->flT ls.flatten=(ls.map fT).flatten∧All2 ftC.r fs (ls.map fT)
 | _,_,.nil=>⟨rfl,.nil⟩
 | _,_,.cons h1 h2=>by
  obtain ⟨a,b,c,d,e,f,g,i,rfl⟩:=Zot h1
  obtain ⟨k1,k2⟩:=Rq h2
  refine ⟨?_,.cons (T2 h1) k2⟩
  rw [List.flatten_cons,Zqz,List.flatten_cons,← k1];rfl
theorem S9 {fs:List Fl}(h:Ls ftC fs v):Ls ftC fs (FO v):=by
 obtain ⟨ls,a,s,hn⟩:=h
 obtain ⟨k1,k2⟩:=Rq a
 rcases s with ⟨rfl,h1,h2⟩|⟨rfl,h1,h2⟩|⟨c,rfl,h1⟩
 ·rw [Zqh.1 h1];exact Ee (.inl rfl)
 ·rw [Zqh.1 h1];exact Ee (.inl rfl)
 ·rcases fs with _|⟨x,fs⟩
  ·exact Ee (.inl rfl)
  ·refine ⟨_,k2,.inr (.inr ⟨none,?_,?_⟩),hn⟩
   ·rw [← k1];rfl
   ·exact FW k2
def Ci (cs:List AV) (j:Nat):List AV:=(cs.take j).map Af++cs.drop j
variable {cs:List AV}{j:Nat}
theorem Zng {w:AV}(h:cs[j]?=some w):(Ci cs j)[j]?=some w∧j+1≤(Ci cs j).length∧(Ci cs j).take j++[Af w]++(Ci cs j).drop (j+1)=Ci cs (j+1):=by
 obtain ⟨hlt,rfl⟩:=Zpk.1 h
 have hp:((cs.take j).map Af).length=j:=by rw [Zpq,Zp9];omega
 have hd:cs.drop j=cs[j]::cs.drop (j+1):=Zp6 hlt
 unfold Ci
 refine ⟨?_,?_,?_⟩
 ·rw [Zqe (by omega),hp,Nat.sub_self,hd];rfl
 ·rw [Zpx,hp,hd];simp;omega
 ·have e1:((cs.take j).map Af++cs.drop j).take j=(cs.take j).map Af:=by
   have h0:=List.take_left (l₁:=(cs.take j).map Af) (l₂:=cs.drop j)
   rw [hp] at h0;exact h0
  have e2:((cs.take j).map Af++cs.drop j).drop (j+1)=cs.drop (j+1):=by
   rw [List.drop_append,List.drop_of_length_le (by omega),hp,Nat.add_sub_cancel_left,hd];rfl
  rw [e1,e2,List.take_add_one,h,Zp8];rfl
theorem Zi5 (h:All2 bytC.r bl ls) (j:Nat):hfs (Ci ls.flatten j)=true:=by
 have e1:hfs ls.flatten=true:=Kz h
 have e2:hfs (ls.flatten.map Af)=true:=by rw [← (RG h).2];exact Kz (RG h).1
 refine EG (hfs_iff.2 fun v hv=>?_) (hfs_iff.2 fun v hv=>hfs_iff.1 e1 v (Zqv hv))
 obtain ⟨w,hw,rfl⟩:=Zqj.1 hv
 exact hfs_iff.1 e2 _ (Zqj.2 ⟨w,Zqq hw,rfl⟩)
def T1 (args:List AV) (u:AV):Prop:=∃ fs v,args=[v]∧Ls ftC fs v∧(fs.length≤1000∧∀ x ∈ fs,flS x)∧u=FO v
variable {L m:List AV}
theorem Zbf {ρ:Nat->Nat}(h:hfs L=true):AF ρ (L++m)=L++AF ρ m:=by
 induction L with
 | nil=>rfl
 | cons y L ih=>
  simp only [hfs,Zpl] at h
  show Bg ρ y::AF ρ (L++m)=_
  rw [CZ y h.1,ih h.2];rfl
variable {n:Nat}
theorem Zgx (h:hfs L=true):Bq n (L++m)=Bq n m:=by
 induction L with
 | nil=>rfl
 | cons y L ih=>
  simp only [hfs,Zpl] at h
  show (bd n y && Bq n (L++m))=_
  rw [Dp y h.1,ih h.2];rfl
variable {t:AT}{rs:List Nat}
theorem OE {pi:List AV}{x0 x1 x2 x3:Int}{q1q q2q q3q:AV}{D:List AV}{N i1:Nat}{cp:Option Nat}{nn ii:Int}{s:St}(h:AbsK 0 t s [(2,.sl 0 0 i1 none),(7,v),(8,.int .i64 nn),(9,.int .i64 ii)] ([.row 143 (pi++[.int .i64 x0,.int .u8 x1,.int .i64 x2,.int .i64 x3,q1q,q2q,q3q,.sl 1 0 N cp])]++[.row 76 D]) rs) (hv:AM.hf v=true) (hp:hfs pi=true) (g1:AM.hf q1q=true) (g2:AM.hf q2q=true) (g3:AM.hf q3q=true) (hD:hfs D=true):
 Tells P 0 t s [] (A6 [(2,.sl 0 0 i1 none),(7,v),(8,.int .i64 nn),(9,.int .i64 ii)]) (Aj St0 [.row 143 (pi++[.int .i64 x0,.int .u8 x1,.int .i64 x2,.int .i64 x3,q1q,q2q,q3q,.fz N none D])]) []:=by
 refine AbsK.frz (n:=1) h rfl hD rfl rfl rfl rfl ?_ ?_
 ·show [_,(7,CT 1 _ v),_,_]=_
  rw [FZ v hv];rfl
 ·show [AObj.row 143 (CK 1 D (pi++[.int .i64 x0,.int .u8 x1,.int .i64 x2,.int .i64 x3,q1q,q2q,q3q,.sl 1 0 N cp]))]=_
  rw [NJ,Hh pi hp]
  show [AObj.row 143 (pi++[_,_,_,_,CT 1 _ q1q,CT 1 _ q2q,CT 1 _ q3q,_])]=_
  rw [FZ q1q g1,FZ q2q g2,FZ q3q g3];rfl
set_option maxHeartbeats 2000000 in
theorem Zna (hE:EM P e) (h119:Con e 119 (Ao (DL 1))) (h160:Con e 160 (Ao (DL 1))) (h161:Con e 161 (Ao (DL 1))) (h162:Inl e 162 (T6 76 1) [.tmp 2]):OvOk P 118 (Ao T1):=by
 refine CX g118.b ?_
 rintro args u ⟨fs,v,rfl,hF,⟨hn,hok⟩,rfl⟩
 have hvf:=hF.hf
 have huf:=(S9 hF).hf
 refine ⟨by show (AM.hf v && true)=true;rw [hvf];rfl,huf,C.of_G hE g118 ?_⟩
 obtain ⟨cs,hs',hl',hnth⟩:=hF.nth
 obtain ⟨ls,a,sl,-⟩:=id hF
 obtain rfl:ls.flatten=cs:=sl.l_inj hs'
 obtain ⟨k1,k2⟩:=Rq a
 have hpf:∀ i,hfs ((ls.take i).map fT).flatten=true:=fun i=>hfs_iff.2 fun v hv=>by
  obtain ⟨l,hl,hv⟩:=List.mem_flatten.1 hv
  obtain ⟨m,hm,rfl⟩:=Zqj.1 hl
  obtain ⟨x,hx⟩:=a.memR m (Zqq hm)
  exact hfs_iff.1 (ftC.hf (T2 hx)) v hv
 have hpl:∀ i,i≤fs.length->((ls.take i).map fT).flatten.length=i*8:=fun i hi=>by
  have key:∀ (hs:List Fl) (ls:List (List AV)),All2 ftC.r hs ls->∀ i,i≤ls.length->((ls.take i).map fT).flatten.length=i*8:=by
   intro hs ls h
   induction h with
   | nil=>intro i hi;simp at hi;subst hi;rfl
   | cons h1 h2 ih=>
    intro i hi
    cases i with
    | zero=>rfl
    | succ i=>
     rw [List.take_succ_cons,Zqz,List.flatten_cons,Zpx,ih i (by simpa using hi),ftC.len (T2 h1)]
     show 8+_=_
     omega
  exact key fs ls a i (by rw [← a.length];exact hi)
 have hps:∀ i c,ls[i]?=some c->((ls.take (i+1)).map fT).flatten=((ls.take i).map fT).flatten++fT c:=fun i c hc=>by
  rw [List.take_add_one,hc,Zp8,List.flatten_append];simp
 have hpn:((ls.take fs.length).map fT).flatten=flT ls.flatten:=by rw [k1,a.length,List.take_length]
 have fin0:fs.length=0->∀ st,Frz st .nils (FO v):=fun h st=>by
  have:FO v=.nils:=by
   rcases hs' with ⟨rfl,_,_⟩|⟨rfl,_,_⟩|⟨c,rfl,_⟩
   ·rfl
   ·rfl
   ·rw [h];rfl
  rw [this];exact .plain _ rfl
 have fin:fs.length≠0->∀ (st:St) (r:Nat),st.get r=some (.row 143 ((ls.take fs.length).map fT).flatten)->Frz st (.sl r 0 fs.length none) (FO v):=fun h st r hg=>by
  have:FO v=.fz fs.length none ((ls.take fs.length).map fT).flatten:=by
   rw [hpn]
   rcases hs' with ⟨rfl,h1,_⟩|⟨rfl,h1,_⟩|⟨c,rfl,_⟩
   ·exact absurd h1 h
   ·exact absurd h1 h
   ·cases hz:fs.length with
    | zero=>exact absurd hz h
    | succ m=>rfl
  rw [this]
  exact .sl r 0 _ _ _ 143 _ _ _ hg (fun i x hx=>by rw [Zpy];exact hx) (Ck (hpf _)) (.inl rfl)
 generalize FO v=O at *
 change VW P e 0 _ (An [v] 0 .lf) St0 none [] _
 conv=>whnf
 repeat' (first|(refine AD rfl hs' ?_;conv=>whnf)|fail)
 refine Aw hE fs.length (fun i=>[(2,N6 i 0),(7,v),(8,.int .i64 (fs.length:Int)),(9,.int .i64 (i:Int))]) (fun i=>match i with|0=>[]|i+1=>[.row 143 ((ls.take (i+1)).map fT).flatten]) (fun _=>True) trivial (Abs.tells (rs:=[]) .a) ?_
 intro i hi _
 by_cases hlt:i<fs.length
 ·obtain ⟨x,c,r,hx,hxr,hd⟩:=hnth i hlt
  have hcl:ls[i]?=some c:=by
   obtain ⟨c',h1,h2⟩:=a.get hx
   have:=a.length
   obtain ⟨hll,e1⟩:=Zpk.1 h1
   have hpre:(ls.take i).flatten.length=i*8:=by
    have:=FW (a.take i)
    rw [Zp9,Nat.min_eq_left (by omega)] at this
    exact this
   have e2:ls.flatten.drop (i*8)=c'++(ls.drop (i+1)).flatten:=by
    conv=>lhs;rw [← List.take_append_drop i ls,List.flatten_append,← hpre,List.drop_left,Zp6 hll,List.flatten_cons,e1]
   have hd:ls.flatten.drop (i*8)=c++r:=hd
   rw [hd] at e2
   rw [h1,(List.append_inj e2 (by rw [ftC.len hxr,ftC.len h2])).1]
  obtain ⟨z1,z2,z3,z4,z5⟩:=hok x (Zp5 hx)
  have hst:=hps i c hcl
  have hli:=hpl i (by omega)
  have hfi:=hpf i
  have hfi1:=hpf (i+1)
  obtain ⟨n,⟨k,a',m,d⟩,st,sq,da⟩:=x
  obtain ⟨dv,tv,qv,av,rfl,o1,o2,o3,o4,hdv,htv,hqv,hav⟩:=Dq hxr
  dsimp only at z1 z2 z3 z4 z5
  have hcd:=fun Q s q=>I0 (A:=Ce.u8) (e:=e) (f:=160) h160 hdv (by decide) z1 Q s q
  have hct:=fun Q s q=>I0 (A:=Ce.u8) (e:=e) (f:=119) h119 htv (by decide) z2 Q s q
  have hcq:=fun Q s q=>I0 (A:=u32C) (e:=e) (f:=161) h161 hqv (by decide) z3 Q s q
  have c1:=(Ls.cln hdv).cell
  have c2:=(Ls.cln htv).cell
  have c3:=(Ls.cln hqv).cell
  have g1:=(Ls.cln hdv).hf
  have g2:=(Ls.cln htv).hf
  have g3:=(Ls.cln hqv).hf
  have hst:((ls.take (i+1)).map fT).flatten=((ls.take i).map fT).flatten++[.int .i64 n,.int .u8 (k:Int),.int .i64 a',.int .i64 m,Af dv,Af tv,Af qv,Lt av]:=hst
  generalize Af dv=q1q at *
  generalize Af tv=q2q at *
  generalize Af qv=q3q at *
  obtain ⟨dls,da2,dsl,-⟩:=id hav
  have dsl':=dsl
  have hD:∀ j,hfs (Ci dls.flatten j)=true:=Zi5 da2
  have hD0:Ci dls.flatten 0=dls.flatten:=rfl
  have hdl:dls.flatten.length=da.length:=by rw [FW da2];exact Zqm _
  have hDn:Ci dls.flatten da.length=dls.flatten.map Af:=by
   unfold Ci;rw [← hdl,List.take_length,List.drop_length,Zqu]
  have hN:hfs [.int .i64 n,.int .u8 (k:Int),.int .i64 a',.int .i64 m,q1q,q2q,q3q,.nils]=true:=by
   show (true && (true && (true && (true && (AM.hf q1q && (AM.hf q2q && (AM.hf q3q && (true && true))))))))=true
   rw [g1,g2,g3];rfl
  have b3:∀ (M N:Nat) (cp:Option Nat),Nat.blt 1 M=true->Bq M [.int .i64 n,.int .u8 (k:Int),.int .i64 a',.int .i64 m,q1q,q2q,q3q,.sl 1 0 N cp]=true:=fun M N cp hM=>by
   show (true && (true && (true && (true && (bd M q1q && (bd M q2q && (bd M q3q && (Nat.blt 1 M && true))))))))=true
   rw [Dp _ g1,Dp _ g2,Dp _ g3,hM];rfl
  have mp:∀ (f:Nat->Nat) (r N:Nat) (cp:Option Nat),f 1=r->AF f [.int .i64 n,.int .u8 (k:Int),.int .i64 a',.int .i64 m,q1q,q2q,q3q,.sl 1 0 N cp]=[.int .i64 n,.int .u8 (k:Int),.int .i64 a',.int .i64 m,q1q,q2q,q3q,.sl r 0 N cp]:=fun f r N cp h=>by
   show [_,_,_,_,Bg f q1q,Bg f q2q,Bg f q3q,.sl (f 1) 0 N cp]=_
   rw [CZ _ g1,CZ _ g2,CZ _ g3,h];rfl
  have bq:∀ (N:Nat) (cp:Option Nat),Bq 2 (((ls.take i).map fT).flatten++[.int .i64 n,.int .u8 (k:Int),.int .i64 a',.int .i64 m,q1q,q2q,q3q,.sl 1 0 N cp])=true:=fun N cp=>by rw [Zgx hfi];exact b3 2 N cp rfl
  have mq:∀ (f:Nat->Nat) (N:Nat) (cp:Option Nat),f 1=1->AF f (((ls.take i).map fT).flatten++[.int .i64 n,.int .u8 (k:Int),.int .i64 a',.int .i64 m,q1q,q2q,q3q,.sl 1 0 N cp])=((ls.take i).map fT).flatten++[.int .i64 n,.int .u8 (k:Int),.int .i64 a',.int .i64 m,q1q,q2q,q3q,.sl 1 0 N cp]:=fun f N cp h=>by rw [Zbf hfi,mp f 1 N cp h]
  have hda:∀ j,j<da.length->∃ b w,Ls Ce.u8 b w∧b.length≤1000000∧(∀ s:St,s.get 1=some (.row 76 (Ci dls.flatten j))->load1 1 (0+(j:Int).toNat*1) s=some w)∧(∀ s:St,s.get 1=some (.row 76 (Ci dls.flatten j))->storeAt 1 (0+(j:Int).toNat*1) [Af w] s=some (s.put 1 (.row 76 (Ci dls.flatten (j+1))))):=fun j hj=>by
   obtain ⟨dcs,q1,-,q2⟩:=hav.nth
   obtain ⟨b,_,r2,hb,⟨w,rfl,hw⟩,hd2⟩:=q2 j hj
   have e0:dls.flatten=dcs:=dsl.l_inj q1
   have hw1:dls.flatten[j]?=some w:=by
    rw [e0]
    have hd2:dcs.drop (j*1)=[w]++r2:=hd2
    have:=congrArg List.head? hd2
    rw [Zqm,List.head?_drop] at this
    exact this
   obtain ⟨e1,e2,e3⟩:=Zng hw1
   refine ⟨b,w,hw,z5 b (Zp5 hb),fun s hs=>?_,fun s hs=>?_⟩
   ·rw [Int.toNat_natCast,Zpy,Zqm,QY hs e1]
   ·rw [Int.toNat_natCast,Zpy,Zqm,FU hs e2]
    show some (s.put 1 (.row 76 ((Ci dls.flatten j).take j++[Af w]++(Ci dls.flatten j).drop (j+1))))=_
    rw [e3]
  have hcase:(av=.nils∧da.length=0)∨(da.length=0∧Ci dls.flatten 0=[]∧Lt av=.fz da.length none (Ci dls.flatten da.length)∧JQ 2 av .nils=some false∧∀ s,Dd 1 av s=some [])∨∃ y ys,Ci dls.flatten 0=y::ys∧0<da.length∧Lt av=.fz da.length none (Ci dls.flatten da.length)∧JQ 2 av .nils=some false∧(∀ s,Dd 1 av s=some (y::ys))∧(y::ys).length=da.length*1:=by
   rw [hDn,hD0]
   rcases dsl with ⟨rfl,h1,h2⟩|⟨rfl,h1,h2⟩|⟨c,rfl,h1⟩
   ·exact .inl ⟨rfl,h1⟩
   ·exact .inr (.inl ⟨h1,h2,by rw [h1,h2];rfl,rfl,fun s=>rfl⟩)
   ·cases hq:dls.flatten with
    | nil=>
     rw [hq] at hdl
     have hdl:0=da.length:=hdl
     exact .inr (.inl ⟨hdl.symm,rfl,by rw [← hq];rfl,rfl,fun s=>I6 (by rw [← hdl];rfl) s⟩)
    | cons y ys=>
     rw [hq] at hdl h1
     exact .inr (.inr ⟨y,ys,rfl,by rw [← hdl];simp,rfl,rfl,fun s=>I6 h1 s,h1⟩)
  clear dsl dsl'
  generalize hNn:da.length=N at hda hcase z4
  rcases hcase with ⟨rfl,hz⟩|⟨rfl,hD0,hdat,hq,hsrc⟩|⟨y,ys,hD0,hz,hdat,hq,hsrc,hlc⟩
  all_goals rcases i with _|i
  all_goals
   conv=>whnf
   repeat' (first|(refine DA (by show Nat.beq (A7 (cellsOf q1q)) 1=true;rw [c1];rfl) ?_;rw [c1];conv=>whnf)|(refine DA (by show Nat.beq (A7 (cellsOf q2q)) 1=true;rw [c2];rfl) ?_;rw [c2];conv=>whnf)|(refine DA (by show Nat.beq (A7 (cellsOf q3q)) 1=true;rw [c3];rfl) ?_;rw [c3];conv=>whnf)|((first|refine Ar hs' hlt hd ?_|refine A8 (cs:=[.int .i64 n,.int .u8 (k:Int),.int .i64 a',.int .i64 m,dv,tv,qv,_]) rfl ?_|refine hcd _ _ ?_|refine hct _ _ ?_|refine hcq _ _ ?_|refine ESc.inl h162 ?_|refine G5 rfl rfl (by first|rfl|exact hq) ?_|refine AD rfl (show Sl 1 0 [] .nils from .inl ⟨rfl,rfl,rfl⟩) ?_|refine Fc rfl rfl (hsrc _) ?_|refine QU (m:=N) rfl rfl (hsrc _) rfl hlc (by decide) hz (by omega) ?_|refine Cw ?_|refine ⟨rfl,?_⟩);conv=>whnf)|refine Aa ?_ ?_|(intro _;first|omega|conv=>whnf))
  ·refine Aw hE 0 (fun j=>[(2,.nils),(4,.ptr 0 0),(7,v),(8,.int .i64 (fs.length:Int)),(9,.int .i64 (0:Int)),(32,.nils),(33,.int .i64 0),(34,.int .i64 (j:Int))]) (fun _=>[.row 143 [.int .i64 n,.int .u8 (k:Int),.int .i64 a',.int .i64 m,q1q,q2q,q3q,.nils]]) (fun _=>True) trivial (Abs.tells (rs:=[0]) .a) ?_
   intro j hj _
   obtain rfl:j=0:=by omega
   conv=>whnf
   repeat' (first|((first|refine CO (m:=1) ?_|refine Ac ?_|refine ⟨rfl,?_⟩);conv=>whnf)|refine Aa ?_ ?_|(intro _;first|omega|conv=>whnf))
   exact ⟨hlt,trivial,Abs.tells (rs:=[2]) ⟨by decide,⟨r9,t9,r9,r9,trivial⟩,⟨⟨Bj hfi1,by rw [AU hfi1,hst];rfl⟩,trivial⟩⟩⟩
  ·refine Aw hE 0 (fun j=>[(2,.sl 1 0 (i+1) none),(4,.ptr 0 0),(7,v),(8,.int .i64 (fs.length:Int)),(9,.int .i64 ((i+1:Nat):Int)),(32,.nils),(33,.int .i64 0),(34,.int .i64 (j:Int))]) (fun _=>[.row 143 [.int .i64 n,.int .u8 (k:Int),.int .i64 a',.int .i64 m,q1q,q2q,q3q,.nils],.row 143 ((ls.take (i+1)).map fT).flatten]) (fun _=>True) trivial (Abs.tells (rs:=[1,0]) .a) ?_
   intro j hj _
   obtain rfl:j=0:=by omega
   conv=>whnf
   repeat' (first|((first|refine C6 (m:=1) (n:=i+1) (old:=((ls.take (i+1)).map fT).flatten) rfl rfl rfl rfl hli rfl (by decide) (by omega) ?_|refine Ac ?_|refine ⟨rfl,?_⟩);conv=>whnf)|refine Aa ?_ ?_|(intro _;first|omega|conv=>whnf))
   exact ⟨hlt,trivial,Abs.tells (rs:=[3]) ⟨by decide,⟨r9,t9,r9,r9,trivial⟩,⟨⟨Bj hfi1,by rw [AU hfi1,hst];rfl⟩,trivial⟩⟩⟩
  ·refine Aw hE 0 (fun j=>[(2,.nils),(4,.ptr 0 0),(7,v),(8,.int .i64 (fs.length:Int)),(9,.int .i64 (0:Int)),(32,.sl 1 0 0 (some 0)),(33,.int .i64 (0:Int)),(34,.int .i64 (j:Int))]) (fun j=>[.row 143 [.int .i64 n,.int .u8 (k:Int),.int .i64 a',.int .i64 m,q1q,q2q,q3q,.sl 1 0 0 (some 0)],.row 76 (Ci dls.flatten j)]) (fun _=>True) trivial (Abs.tells (rs:=[0,1]) ⟨by decide,⟨r9,r9,t9,r9,r9,r9,r9,r9,trivial⟩,⟨⟨b3 _ _ _ rfl,by show _=some (AObj.row 143 (AF _ _));rw [mp _ _ _ _ rfl];rfl⟩,⟨Bj (hD 0),by rw [AU (hD 0),hD0];rfl⟩,trivial⟩⟩) ?_
   intro j hj _
   by_cases hjl:j<0
   ·exact absurd hjl (Nat.not_lt_zero _)
   ·obtain rfl:j=0:=by omega
    conv=>whnf
    repeat' (first|((first|refine CO (m:=1) ?_|refine Ac ?_|refine ⟨rfl,?_⟩);conv=>whnf)|refine Aa ?_ ?_|(intro _;first|omega|conv=>whnf))
    refine ⟨hlt,trivial,?_⟩
    show Tells P 0 _ _ [] _ (Aj St0 [.row 143 _]) []
    rw [hst,hdat]
    exact OE (rs:=[3,1]) (cp:=(some 0)) ⟨rfl,by decide,⟨r9,t9,r9,r9,trivial⟩,⟨⟨bq _ _,by show _=some (AObj.row 143 (AF _ _));rw [mq _ _ _ rfl];rfl⟩,o9 (hD _),trivial⟩⟩ hvf hfi g1 g2 g3 (hD _)
  ·refine Aw hE 0 (fun j=>[(2,.sl 2 0 (i+1) none),(4,.ptr 0 0),(7,v),(8,.int .i64 (fs.length:Int)),(9,.int .i64 ((i+1:Nat):Int)),(32,.sl 1 0 0 (some 0)),(33,.int .i64 (0:Int)),(34,.int .i64 (j:Int))]) (fun j=>[.row 143 [.int .i64 n,.int .u8 (k:Int),.int .i64 a',.int .i64 m,q1q,q2q,q3q,.sl 1 0 0 (some 0)],.row 76 (Ci dls.flatten j),.row 143 ((ls.take (i+1)).map fT).flatten]) (fun _=>True) trivial (Abs.tells (rs:=[1,2,0]) ⟨by decide,⟨r9,r9,t9,r9,r9,r9,r9,r9,trivial⟩,⟨⟨b3 _ _ _ rfl,by show _=some (AObj.row 143 (AF _ _));rw [mp _ _ _ _ rfl];rfl⟩,⟨Bj (hD 0),by rw [AU (hD 0),hD0];rfl⟩,o9 hfi,trivial⟩⟩) ?_
   intro j hj _
   by_cases hjl:j<0
   ·exact absurd hjl (Nat.not_lt_zero _)
   ·obtain rfl:j=0:=by omega
    conv=>whnf
    repeat' (first|((first|refine C6 (m:=1) (n:=i+1) (old:=((ls.take (i+1)).map fT).flatten) rfl rfl rfl rfl hli rfl (by decide) (by omega) ?_|refine Ac ?_|refine ⟨rfl,?_⟩);conv=>whnf)|refine Aa ?_ ?_|(intro _;first|omega|conv=>whnf))
    refine ⟨hlt,trivial,?_⟩
    show Tells P 0 _ _ [] _ (Aj St0 [.row 143 _]) []
    rw [hst,hdat]
    exact OE (rs:=[4,1]) (cp:=(some 0)) ⟨rfl,by decide,⟨r9,t9,r9,r9,trivial⟩,⟨⟨bq _ _,by show _=some (AObj.row 143 (AF _ _));rw [mq _ _ _ rfl];rfl⟩,o9 (hD _),trivial⟩⟩ hvf hfi g1 g2 g3 (hD _)
  ·refine Aw hE N (fun j=>[(2,.nils),(4,.ptr 0 0),(7,v),(8,.int .i64 (fs.length:Int)),(9,.int .i64 (0:Int)),(32,.sl 1 0 N none),(33,.int .i64 (N:Int)),(34,.int .i64 (j:Int))]) (fun j=>[.row 143 [.int .i64 n,.int .u8 (k:Int),.int .i64 a',.int .i64 m,q1q,q2q,q3q,.sl 1 0 N none],.row 76 (Ci dls.flatten j)]) (fun _=>True) trivial (Abs.tells (rs:=[0,2]) ⟨by decide,⟨r9,r9,t9,r9,r9,r9,r9,r9,trivial⟩,⟨⟨b3 _ _ _ rfl,by show _=some (AObj.row 143 (AF _ _));rw [mp _ _ _ _ rfl];rfl⟩,⟨Bj (hD 0),by rw [AU (hD 0),hD0];rfl⟩,trivial⟩⟩) ?_
   intro j hj _
   by_cases hjl:j<N
   ·obtain ⟨b,w,hw,hb,e1,e2⟩:=hda j hjl
    have hcw:=I0 (A:=Ce.u8) (e:=e) (f:=160) h160 hw (by decide) hb
    have hwc:=(Ls.cln hw).cell
    have hj0:0≤(j:Int):=Zq2 _
    have hj1:(j:Int)<N:=Int.ofNat_lt.2 hjl
    have hS1:=hD (j+1)
    generalize Ci dls.flatten (j+1)=S1 at *
    generalize Ci dls.flatten j=S0 at *
    conv=>whnf
    repeat' (first|(refine DA (by show Nat.beq (A7 (cellsOf (Af w))) 1=true;rw [hwc];rfl) ?_;rw [hwc];conv=>whnf)|((first|refine G4 rfl rfl hj0 hj1 ?_|refine BE _ (e1 _ rfl) ?_|refine hcw _ _ ?_|refine BE _ (e2 _ rfl) ?_|refine Ac ?_|refine ⟨rfl,?_⟩);conv=>whnf)|refine Aa ?_ ?_|(intro _;first|omega|conv=>whnf))
    exact ⟨hjl,trivial,Abs.tells (rs:=[0,1]) ⟨by decide,⟨r9,r9,t9,r9,r9,r9,r9,r9,trivial⟩,⟨⟨b3 _ _ _ rfl,by show _=some (AObj.row 143 (AF _ _));rw [mp _ _ _ _ rfl];rfl⟩,o9 hS1,trivial⟩⟩⟩
   ·obtain rfl:j=N:=by omega
    conv=>whnf
    repeat' (first|((first|refine CO (m:=1) ?_|refine Ac ?_|refine ⟨rfl,?_⟩);conv=>whnf)|refine Aa ?_ ?_|(intro _;first|omega|conv=>whnf))
    refine ⟨hlt,trivial,?_⟩
    show Tells P 0 _ _ [] _ (Aj St0 [.row 143 _]) []
    rw [hst,hdat]
    exact OE (rs:=[3,1]) (cp:=none) ⟨rfl,by decide,⟨r9,t9,r9,r9,trivial⟩,⟨⟨bq _ _,by show _=some (AObj.row 143 (AF _ _));rw [mq _ _ _ rfl];rfl⟩,o9 (hD _),trivial⟩⟩ hvf hfi g1 g2 g3 (hD _)
  ·refine Aw hE N (fun j=>[(2,.sl 2 0 (i+1) none),(4,.ptr 0 0),(7,v),(8,.int .i64 (fs.length:Int)),(9,.int .i64 ((i+1:Nat):Int)),(32,.sl 1 0 N none),(33,.int .i64 (N:Int)),(34,.int .i64 (j:Int))]) (fun j=>[.row 143 [.int .i64 n,.int .u8 (k:Int),.int .i64 a',.int .i64 m,q1q,q2q,q3q,.sl 1 0 N none],.row 76 (Ci dls.flatten j),.row 143 ((ls.take (i+1)).map fT).flatten]) (fun _=>True) trivial (Abs.tells (rs:=[1,3,0]) ⟨by decide,⟨r9,r9,t9,r9,r9,r9,r9,r9,trivial⟩,⟨⟨b3 _ _ _ rfl,by show _=some (AObj.row 143 (AF _ _));rw [mp _ _ _ _ rfl];rfl⟩,⟨Bj (hD 0),by rw [AU (hD 0),hD0];rfl⟩,o9 hfi,trivial⟩⟩) ?_
   intro j hj _
   by_cases hjl:j<N
   ·obtain ⟨b,w,hw,hb,e1,e2⟩:=hda j hjl
    have hcw:=I0 (A:=Ce.u8) (e:=e) (f:=160) h160 hw (by decide) hb
    have hwc:=(Ls.cln hw).cell
    have hj0:0≤(j:Int):=Zq2 _
    have hj1:(j:Int)<N:=Int.ofNat_lt.2 hjl
    have hS1:=hD (j+1)
    generalize Ci dls.flatten (j+1)=S1 at *
    generalize Ci dls.flatten j=S0 at *
    conv=>whnf
    repeat' (first|(refine DA (by show Nat.beq (A7 (cellsOf (Af w))) 1=true;rw [hwc];rfl) ?_;rw [hwc];conv=>whnf)|((first|refine G4 rfl rfl hj0 hj1 ?_|refine BE _ (e1 _ rfl) ?_|refine hcw _ _ ?_|refine BE _ (e2 _ rfl) ?_|refine Ac ?_|refine ⟨rfl,?_⟩);conv=>whnf)|refine Aa ?_ ?_|(intro _;first|omega|conv=>whnf))
    exact ⟨hjl,trivial,Abs.tells (rs:=[0,1,2]) ⟨by decide,⟨r9,r9,t9,r9,r9,r9,r9,r9,trivial⟩,⟨⟨b3 _ _ _ rfl,by show _=some (AObj.row 143 (AF _ _));rw [mp _ _ _ _ rfl];rfl⟩,o9 hS1,o9 hfi,trivial⟩⟩⟩
   ·obtain rfl:j=N:=by omega
    conv=>whnf
    repeat' (first|((first|refine C6 (m:=1) (n:=i+1) (old:=((ls.take (i+1)).map fT).flatten) rfl rfl rfl rfl hli rfl (by decide) (by omega) ?_|refine Ac ?_|refine ⟨rfl,?_⟩);conv=>whnf)|refine Aa ?_ ?_|(intro _;first|omega|conv=>whnf))
    refine ⟨hlt,trivial,?_⟩
    show Tells P 0 _ _ [] _ (Aj St0 [.row 143 _]) []
    rw [hst,hdat]
    exact OE (rs:=[4,1]) (cp:=none) ⟨rfl,by decide,⟨r9,t9,r9,r9,trivial⟩,⟨⟨bq _ _,by show _=some (AObj.row 143 (AF _ _));rw [mq _ _ _ rfl];rfl⟩,o9 (hD _),trivial⟩⟩ hvf hfi g1 g2 g3 (hD _)
 ·obtain rfl:i=fs.length:=by omega
  cases hz:fs.length with
  | zero=>
   conv=>whnf
   repeat' (first|refine Aa ?_ ?_|(intro _;first|omega|conv=>whnf))
   exact fin0 hz _
  | succ m=>
   rw [hz] at fin
   dsimp only
   conv=>whnf
   repeat' (first|refine Aa ?_ ?_|(intro _;first|omega|conv=>whnf))
   exact fin (by omega) _ 0 rfl
def Ej:List AV->List AV
 | [a0,a1,a2,a3,a4,a5,a6,a7,a8,a9,a10,a11,a12,Ic,hv,b0,b1,b2,b3,lv,fv,b4,b5]=>[a0,a1,a2,a3,a4,a5,a6,a7,a8,a9,a10,a11,a12,Ic,Jb hv,b0,b1,b2,b3,Af lv,FO fv,b4,b5]
 | l=>l
def Kf (d:Dv):Prop:=(d.2.2.2.1.length≤1000∧∀ x ∈ d.2.2.2.1,hdS x)∧d.2.2.2.2.1.2.2.2.2.length≤1000∧d.2.2.2.2.2.1.length≤1000∧∀ x ∈ d.2.2.2.2.2.1,flS x
variable {d:Dv}
theorem MY (h:dvC.r d l):dvC.r d (Ej l):=by
 obtain ⟨c,bk,⟨ev,lo,sp,po,dn,nl,br⟩,hs,⟨ag,sq,tl,us,L⟩,fs,nx,so⟩:=d
 obtain ⟨_,_,rfl,⟨rfl,h1⟩,_,_,rfl,rfl,ol,_,rfl,h3,_,_,rfl,⟨hv,rfl,h4⟩,_,_,rfl,h5,_,_,rfl,⟨fv,rfl,h6⟩,_,_,rfl,⟨rfl,h7⟩,rfl⟩:=h
 have h5':=Yx h5
 obtain ⟨_,_,rfl,⟨rfl,q1⟩,_,_,rfl,⟨rfl,q2⟩,_,_,rfl,⟨rfl,q3⟩,_,_,rfl,⟨rfl,q4⟩,v,rfl,q5⟩:=h5
 have h3':=h3
 obtain ⟨rfl,-⟩:=GE h3
 exact ⟨c.c,_,rfl,⟨rfl,h1⟩,[_],_,rfl,rfl,_,_,rfl,h3',[_],_,rfl,⟨_,rfl,Sp h4⟩,_,_,rfl,h5',[_],_,rfl,⟨_,rfl,S9 h6⟩,[_],_,rfl,⟨rfl,h7⟩,rfl⟩
def Nm (args:List AV) (u:AV):Prop:=∃ d l,args=[.agg l]∧dvC.r d l∧Kf d∧u=.agg (Ej l)
theorem Xc (h65:Con e 65 (Ao Nm)) (h:dvC.r d l) (hs:Kf d) (Q:AV->St->Prop) (s:St) (q:Q (.agg (Ej l)) s):ESc e 65 [.agg l] s Q:=by
 refine ESc.rel h65 ⟨_,d,l,rfl,h,hs,rfl⟩ ?_
 rintro u ⟨x',l',e1,-,-,rfl⟩
 cases e1
 exact q
theorem Zmm (hE:EM P e) (h116:Con e 116 (Ao Tn)) (h117:Con e 117 (Ao PC)) (h118:Con e 118 (Ao T1)):OvOk P 65 (Ao Nm):=by
 refine CX g65.b ?_
 rintro args u ⟨d,l,rfl,hd,⟨s1,s2,s3⟩,rfl⟩
 have hrow:=dvC.hf hd
 have hrow2:=dvC.hf (MY hd)
 refine ⟨by show (hfs l && true)=true;rw [hrow];rfl,by show hfs _=true;exact hrow2,C.of_G hE g65 ?_⟩
 obtain ⟨c,bk,⟨ev,lo,sp,po,dn,nl,br⟩,hs,⟨ag,sq,tl,us,L⟩,fs,nx,so⟩:=d
 have hd':=hd
 obtain ⟨_,_,e1,⟨rfl,h1⟩,_,_,rfl,rfl,ol,_,rfl,h3,_,_,rfl,⟨hv,rfl,h4⟩,_,_,rfl,h5,_,_,rfl,⟨fv,rfl,h6⟩,_,_,rfl,⟨rfl,h7⟩,rfl⟩:=hd'
 have hcl:=fun Q s q=>@Ziq e h117 _ _ h5 s2 Q s q
 obtain ⟨_,_,rfl,⟨rfl,q1⟩,_,_,rfl,⟨rfl,q2⟩,_,_,rfl,⟨rfl,q3⟩,_,_,rfl,⟨rfl,q4⟩,lv,rfl,q5⟩:=h5
 obtain ⟨rfl,-⟩:=GE h3
 subst e1
 have hch:∀ (Q:AV->St->Prop) s,Q (Jb hv) s->ESc e 116 [hv] s Q:=fun Q s q=>by
  refine ESc.rel h116 ⟨_,hs,hv,rfl,h4,s1,rfl⟩ ?_
  rintro u ⟨x',l',e1,-,-,rfl⟩
  cases e1
  exact q
 have hcf:∀ (Q:AV->St->Prop) s,Q (FO fv) s->ESc e 118 [fv] s Q:=fun Q s q=>by
  refine ESc.rel h118 ⟨_,fs,fv,rfl,h6,s3,rfl⟩ ?_
  rintro u ⟨x',l',e1,-,-,rfl⟩
  cases e1
  exact q
 have c1:=(Sp h4).cell
 have c2:=(S9 h6).cell
 change hfs [_,_,_,_,_,_,_,_,_,_,_,_,_,_,Jb hv,_,_,_,_,Af lv,FO fv,_,_]=true at hrow2
 have fin:∀ st,Frz st (.agg [.int .u32 c.id,.int .i64 c.members,.int .i64 c.chunk,.int .i64 c.rows,.int .i64 c.log,.int .i64 c.heads,.bool bk,.int .u32 ev,.int .i64 lo,.bool sp,.int .i64 po,.int .i64 dn,.bool nl,.bool br,Jb hv,.int .u32 ag,.int .u32 sq,.int .i64 tl,.int .i64 us,Af lv,FO fv,.int .i64 nx,.bool so]) (.agg (Ej (c.c++([.bool bk]++([.int .u32 ev,.int .i64 lo,.bool sp,.int .i64 po,.int .i64 dn,.bool nl,.bool br]++([hv]++([.int .u32 ag,.int .u32 sq,.int .i64 tl,.int .i64 us,lv]++([fv]++[.int .i64 nx,.bool so])))))))):=fun st=>.plain _ hrow2
 change VW P e 0 _ (An [.agg (c.c++[.bool bk,.int .u32 ev,.int .i64 lo,.bool sp,.int .i64 po,.int .i64 dn,.bool nl,.bool br,hv,.int .u32 ag,.int .u32 sq,.int .i64 tl,.int .i64 us,lv,fv,.int .i64 nx,.bool so])] 0 .lf) St0 none [] _
 change ∀ (Q:AV->St->Prop) s,Q (.agg [.int .u32 ag,.int .u32 sq,.int .i64 tl,.int .i64 us,Af lv]) s->ESc e 117 [.agg [.int .u32 ag,.int .u32 sq,.int .i64 tl,.int .i64 us,lv]] s Q at hcl
 conv=>whnf
 repeat' (first|(refine DA (by show Nat.beq (A7 (cellsOf (Jb hv))) 1=true;rw [c1];rfl) ?_;rw [c1];conv=>whnf)|(refine DA (by show Nat.beq (A7 (cellsOf (FO fv))) 1=true;rw [c2];rfl) ?_;rw [c2];conv=>whnf)|((first|refine hch _ _ ?_|refine hcl _ _ ?_|refine hcf _ _ ?_|refine ⟨rfl,?_⟩);conv=>whnf)|fail)
 exact fin _
theorem Rw:∀ z x y:List Nat,Cf (Cf z x) y=Cf (Cf z y) x
 | [],x,y=>by cases x <;> cases y <;> rfl
 | z::zs,[],y=>by cases y <;> rfl
 | z::zs,x::xs,[]=>rfl
 | z::zs,x::xs,y::ys=>by
  show ((z ^^^ x) ^^^ y)::Cf (Cf zs xs) ys=((z ^^^ y) ^^^ x)::Cf (Cf zs ys) xs
  rw [Rw zs xs ys,Nat.xor_assoc,Nat.xor_comm x y,← Nat.xor_assoc]
theorem Zeb {l m:List (List Nat)}(p:l.Perm m):AY l=AY m:=p.foldl_eq' (fun x _ y _ z=>Rw z x y) Fg
theorem Ru (l:List (List Nat)) (b:List Nat):AY (l++[b])=Cf (AY l) b:=by unfold AY;rw [List.foldl_append];rfl
theorem Vn:∀ a b:List Nat,a.length=b.length->Cf a b=List.replicate a.length 0->a=b
 | [],[],_,_=>rfl
 | [],_::_,h,_=>by cases h
 | _::_,[],h,_=>by cases h
 | x::xs,y::ys,h,e=>by
  have e:(x ^^^ y)::Cf xs ys=0::List.replicate xs.length 0:=e
  injection e with e1 e2
  have h1:x=y:=by
   have:x ^^^ (x ^^^ y)=y:=by rw [← Nat.xor_assoc,Nat.xor_self,Nat.zero_xor]
   rw [e1,Nat.xor_zero] at this;exact this
  rw [h1,Vn xs ys (by simpa using h) e2]
theorem Ze5 {m:Nat}(hm:0<m) (r:Nat):((List.range m).map fun k=>(r+k) % m).Perm (List.range m):=by
 have hq:=Nat.mod_lt r hm
 have h1:List.range m=List.range (m-r % m)++(List.range (r % m)).map (m-r % m+·):=by rw [← List.range_add];congr 1;omega
 have h2:List.range m=List.range (r % m)++(List.range (m-r % m)).map (r % m+·):=by rw [← List.range_add];congr 1;omega
 have h3:(List.range m).map (fun k=>(r+k) % m)=(List.range (m-r % m)).map (r % m+·)++List.range (r % m):=by
  rw [h1,Zp8,List.map_map]
  congr 1
  ·refine List.map_congr_left fun k hk=>?_
   have hk:=List.mem_range.1 hk
   rw [← Nat.mod_add_mod,Zrf (by omega)]
  ·rw [List.map_congr_left (g:=id) (fun k hk=>?_),List.map_id]
   have hk:=List.mem_range.1 hk
   show (r+(m-r % m+k)) % m=k
   rw [← Nat.mod_add_mod,show r % m+(m-r % m+k)=k+m by omega,Nat.add_mod_right,Zrf (by omega)]
 rw [h3]
 refine List.perm_append_comm.trans ?_
 rw [← h2]
variable {c:Cfg}{s:Int}
theorem KJ (hM:c.may) (hs:0≤s) (k:Nat):(Bi c s (k:Int)).toNat=((s / c.chunk*(c.members-1)).toNat+k) % c.members.toNat∧(Bi c s (k:Int)).toNat<c.members.toNat∧0≤Bi c s (k:Int):=by
 unfold Cfg.may at hM
 have h0:0≤s / c.chunk:=Int.ediv_nonneg hs (by omega)
 have h1:0≤s / c.chunk*(c.members-1):=Int.mul_nonneg h0 (by omega)
 unfold Bi
 generalize s / c.chunk*(c.members-1)=r at *
 obtain ⟨R,rfl⟩:∃ R:Nat,r=R:=⟨r.toNat,by omega⟩
 obtain ⟨m,hm⟩:∃ m:Nat,c.members=m:=⟨c.members.toNat,by omega⟩
 have hm3:3≤m:=by omega
 rw [hm]
 have e:((R:Int)+(k:Int)) % (m:Int)=(((R+k) % m:Nat):Int):=by rw [Int.natCast_emod];rfl
 rw [e,Int.toNat_natCast,Int.toNat_natCast,Int.toNat_natCast]
 exact ⟨rfl,Nat.mod_lt _ (by omega),by omega⟩
def Bm (D:List Dk) (a:Int) (i:Nat):List Nat:=(D[i]?.map fun d=>Cb d a).getD []
variable {D:List Dk}{a:Int}
theorem R8 {p:Nat}:∀ {i:Nat}{b:List Nat},b ∈ Bk D a p i->∃ j<i,j≠p∧b=Bm D a j
 | 0,b,h=>by cases h
 | i+1,b,h=>by
  unfold Bk at h
  rcases Zqb.1 h with h|h
  ·obtain ⟨j,h1,h2⟩:=R8 h
   exact ⟨j,by omega,h2⟩
  ·split at h
   ·cases h
   ·exact ⟨i,by omega,by assumption,List.mem_singleton.1 h⟩
theorem WZ {D:List Dk}{a:Int}{p:Nat}:∀ i,AY ((List.range i).map (Bm D a))=if p<i then Cf (AY (Bk D a p i)) (Bm D a p) else AY (Bk D a p i)
 | 0=>rfl
 | i+1=>by
  have ih:=WZ (D:=D) (a:=a) (p:=p) i
  have hs:Bk D a p (i+1)=Bk D a p i++(if i=p then [] else [Bm D a i]):=rfl
  rw [List.range_succ,Zp8,List.map_singleton,Ru,ih,hs]
  clear hs
  by_cases h1:p<i
  ·rw [Zpn h1,Zpn (by omega),Zpr (by omega),Ru,Rw]
  ·rw [Zpr h1]
   by_cases h2:i=p
   ·subst h2
    rw [Zpn (by omega),Zpn rfl,Zqu]
   ·rw [Zpr (by omega),Zpr h2,Ru]
theorem Sw {D E:List Dk}{a:Int}{p:Nat}:∀ i,(∀ j<i,j≠p->Bm D a j=Bm E a j)->Bk D a p i=Bk E a p i
 | 0,_=>rfl
 | i+1,h=>by
  unfold Bk
  rw [Sw i fun j hj=>h j (by omega)]
  split
  ·rfl
  ·rename_i hp
   have:=h i (by omega) hp
   unfold Bm at this
   rw [this]
def Pp (d:Dv) (D:List Dk):Prop:=∀ s:Int,∀ i<d.1.members.toNat,(Bm D s i).length=128∧∀ y ∈ Bm D s i,y<256
variable {k:Int}
theorem Zb (hm:0<c.members):Bi c s k=(c.members-1-s / c.chunk % c.members+1+k) % c.members:=by
 unfold Bi
 generalize s / c.chunk=q
 have h:=Int.mul_ediv_add_emod q c.members
 generalize hr:q % c.members=r at *
 generalize hd:q / c.members=d at *
 generalize c.members=M at *
 subst h
 have e:(M*d+r)*(M-1)+k=(M-1-r+1+k)+M*(d*(M-1)+r-1):=by
  have e1:(M*d+r)*(M-1)=M*d*(M-1)+r*(M-1):=Int.add_mul ..
  have e2:M*(d*(M-1)+r-1)=M*(d*(M-1))+M*r-M*1:=by rw [Int.mul_sub,Int.mul_add]
  have e3:M*d*(M-1)=M*(d*(M-1)):=Int.mul_assoc ..
  have e4:r*(M-1)=r*M-r*1:=Int.mul_sub ..
  have e5:r*M=M*r:=Int.mul_comm ..
  rw [e1,e2,e3,e4,e5]
  omega
 rw [e,Int.add_mul_emod_self_left]
def Gw (c:Cfg) (s m:Int):Int:=(m+c.members-(c.members-1-s / c.chunk % c.members)-1) % c.members
theorem Zmh {m:Int}(h:0≤m∧m<c.members):Bi c s (Gw c s m)=m∧0≤Gw c s m∧Gw c s m<c.members:=by
 have hm:0<c.members:=by omega
 refine ⟨?_,Zq3 _ (by omega),Zq5 _ hm⟩
 rw [Zb hm]
 unfold Gw
 generalize s / c.chunk % c.members=r
 rw [Int.add_emod_emod,show c.members-1-r+1+(m+c.members-(c.members-1-r)-1)=m+c.members*1 by omega,Int.add_mul_emod_self_left]
 exact Int.emod_eq_of_lt h.1 h.2
def Zo8:AC:=match Qk with|.mk c _=>c
def Zoz:AC:=match NB with|.mk c _=>c
noncomputable def sltF:Fn (Cfg×Int×Int×Unit):=⟨.g cfgC (.v i64C (.v i64C .nil)),fun x=>x.1.may∧(0≤x.2.1∧x.2.1<At x.1)∧0≤x.2.2.1∧x.2.2.1<x.1.members,fun x=>.tup [.int .i64 (Gw x.1 x.2.1 x.2.2.1),.int .i64 0]⟩
theorem Zhs (hE:EM P e) (h40:Con e 40 stripesF.O) (h89:Inl e 89 T8 [.tmp 4,.tmp 5]) (h98:Inl e 98 Zo [.cells 8 7,.tmp 9]) (h99:Inl e 99 T7 [.tmp 2]) (h177:Inl e 177 Zo8 [.tmp 4]):OvOk P 133 sltF.O:=by
 refine B3 g133.b ?_
 rintro ⟨c,s,m,_⟩ _ ⟨_,_,rfl,⟨rfl,hc⟩,_,_,rfl,⟨e1,z1⟩,_,_,rfl,⟨e2,z2⟩,rfl⟩ ⟨hM,hs0,hm0⟩
 cases e1
 cases e2
 refine ⟨rfl,C.of_G hE g133 ?_⟩
 dsimp only at hM hs0 hc hm0
 have hst:=IF h40 hc hM
 have hmm:=BC hM
 have hM':=hM
 unfold Cfg.may at hM'
 unfold At at hs0 hmm
 have fin:∀ st n,n=Gw c s m->Frz st (.tup [.int .i64 n,.int .i64 0]) (sltF.out (c,s,m,())):=by
  rintro st n rfl;exact .plain _ rfl
 generalize sltF.out _=O at fin ⊢
 unfold Gw at fin
 have hd0:=Int.ediv_nonneg hs0.1 (show 0≤c.chunk by omega)
 have hd1:s / c.chunk≤s:=Int.ediv_le_self _ hs0.1
 have hr0:=Zq3 (s / c.chunk) (show c.members≠0 by omega)
 have hr1:=Zq5 (s / c.chunk) (show 0<c.members by omega)
 change VW P e 0 _ (An [.agg c.c,.int .i64 s,.int .i64 m] 0 .lf) St0 none [] _
 conv=>whnf
 repeat' (first|((first|refine ESc.inl h98 ?_|refine hst _ _ ?_|refine ESc.inl h89 ?_|refine ESc.inl h99 ?_|refine ESc.inl h177 ?_|refine Ij rfl rfl (by omega) ?_|refine Kp rfl rfl (by omega) ?_|refine Ac ?_|refine AL ?_|refine ⟨rfl,?_⟩);conv=>whnf)|refine Aa ?_ ?_|refine AR ?_ ?_|refine Al ?_ ?_|(intro _;first|omega|conv=>whnf))
 exact fin _ _ rfl
noncomputable def mmbF:Fn (Cfg×Int×Int×Unit):=⟨.g cfgC (.v i64C (.v i64C .nil)),fun x=>x.1.may∧(0≤x.2.1∧x.2.1<At x.1)∧0≤x.2.2.1∧x.2.2.1<x.1.members,fun x=>.tup [.int .i64 (Bi x.1 x.2.1 x.2.2.1),.int .i64 0]⟩
theorem Zii (hE:EM P e) (h40:Con e 40 stripesF.O) (h89:Inl e 89 T8 [.tmp 4,.tmp 5]) (h98:Inl e 98 Zo [.cells 8 7,.tmp 9]) (h99:Inl e 99 T7 [.tmp 2]) (h90:Inl e 90 Zoz [.tmp 4]):OvOk P 178 mmbF.O:=by
 refine B3 g178.b ?_
 rintro ⟨c,s,m,_⟩ _ ⟨_,_,rfl,⟨rfl,hc⟩,_,_,rfl,⟨e1,z1⟩,_,_,rfl,⟨e2,z2⟩,rfl⟩ ⟨hM,hs0,hm0⟩
 cases e1
 cases e2
 refine ⟨rfl,C.of_G hE g178 ?_⟩
 dsimp only at hM hs0 hc hm0
 have hst:=IF h40 hc hM
 have hmm:=BC hM
 have hM':=hM
 unfold Cfg.may at hM'
 unfold At at hs0 hmm
 have hmem:=Zb (c:=c) (s:=s) (k:=m) (by omega)
 have fin:∀ st n,n=Bi c s m->Frz st (.tup [.int .i64 n,.int .i64 0]) (mmbF.out (c,s,m,())):=by
  rintro st n rfl;exact .plain _ rfl
 generalize mmbF.out _=O at fin ⊢
 rw [hmem] at fin
 have hd0:=Int.ediv_nonneg hs0.1 (show 0≤c.chunk by omega)
 have hd1:s / c.chunk≤s:=Int.ediv_le_self _ hs0.1
 have hr0:=Zq3 (s / c.chunk) (show c.members≠0 by omega)
 have hr1:=Zq5 (s / c.chunk) (show 0<c.members by omega)
 change VW P e 0 _ (An [.agg c.c,.int .i64 s,.int .i64 m] 0 .lf) St0 none [] _
 conv=>whnf
 repeat' (first|((first|refine ESc.inl h98 ?_|refine hst _ _ ?_|refine ESc.inl h89 ?_|refine ESc.inl h99 ?_|refine ESc.inl h90 ?_|refine Ij rfl rfl (by omega) ?_|refine Kp rfl rfl (by omega) ?_|refine Ac ?_|refine AL ?_|refine ⟨rfl,?_⟩);conv=>whnf)|refine Aa ?_ ?_|refine AR ?_ ?_|refine Al ?_ ?_|(intro _;first|omega|conv=>whnf))
 exact fin _ _ rfl
def Es:Lo->List AV
 | (ev,lo,sp,po,dn,nl,br)=>[.int .u32 ev,.int .i64 lo,.bool sp,.int .i64 po,.int .i64 dn,.bool nl,.bool br]
def E7:Lo->Lo
 | (ev,lo,sp,po,dn,nl,br)=>(ev,lo,sp,po+1,dn,nl,br)
def Bx (c:Cfg):Lo->Lo
 | (ev,lo,sp,po,dn,nl,br)=>if po=At c then (ev,-1,false,0,0,nl,br) else (ev,lo,sp,po,po,nl,br)
noncomputable def goF:Fn (Cfg×Lo×Unit):=⟨.g cfgC (.g loC .nil),fun x=>x.1.may∧Br x.1 x.2.1∧x.2.1.2.2.1=true∧x.2.1.2.2.2.1<At x.1,fun x=>.tup [.agg (Es (E7 x.2.1)),.int .i64 0]⟩
theorem Zm7 (hE:EM P e) (h39:Con e 39 lossF.O) (h40:Con e 40 stripesF.O):OvOk P 135 goF.O:=by
 refine B3 g135.b ?_
 rintro ⟨c,⟨ev,lo,sp,po,dn,nl,br⟩,_⟩ _ ⟨_,_,rfl,⟨rfl,hc⟩,_,_,rfl,hlo,rfl⟩ ⟨hM,hL,hsp,hpo⟩
 refine ⟨rfl,C.of_G hE g135 ?_⟩
 have hck:=fun (Q:AV->St->Prop) s a=>@cF.u _ _ _ _ e 39 s Q _ h39 (c,(ev,lo,sp,po,dn,nl,br),()) ⟨_,_,rfl,⟨rfl,hc⟩,_,_,rfl,hlo,rfl⟩ trivial (fun _=>a) (fun q=>absurd (And.intro hM hL) q)
 obtain ⟨rfl,h1,h2,h3,h4⟩:=GE hlo
 dsimp only at hM hL hc hsp hpo hck
 subst hsp
 have hst:=IF h40 hc hM
 have hmm:=BC hM
 have hL':=hL
 unfold Br at hL'
 have hL2:=hL'.2.2.2.1 rfl
 unfold At at hpo hmm
 have fin:∀ st n,n=po+1->Frz st (.tup [.agg [.int .u32 ev,.int .i64 lo,.bool true,.int .i64 n,.int .i64 dn,.bool nl,.bool br],.int .i64 0]) (goF.out (c,(ev,lo,true,po,dn,nl,br),())):=by
  rintro st n rfl;exact .plain _ rfl
 generalize goF.out _=O at fin ⊢
 change VW P e 0 _ (An [.agg c.c,.agg _] 0 .lf) St0 none [] _
 conv=>whnf
 repeat' (first|((first|refine hck _ _ ?_|refine hst _ _ ?_|refine Ac ?_|refine Au ?_);conv=>whnf)|refine Ap ?_ ?_|refine Al ?_ ?_|(intro _;first|omega|conv=>whnf))
 all_goals exact fin _ _ rfl
def Zp:AC:=match a96 with|.mk c _=>c
noncomputable def mkF:Fn (Cfg×Lo×Unit):=⟨.g cfgC (.g loC .nil),fun x=>x.1.may∧Br x.1 x.2.1∧x.2.1.2.2.1=true∧x.2.1.2.2.2.2.1<x.2.1.2.2.2.1,fun x=>.tup [.agg (Es (Bx x.1 x.2.1)),.int .i64 0]⟩
theorem Zmq (hE:EM P e) (h39:Con e 39 lossF.O) (h40:Con e 40 stripesF.O) (h96:Inl e 96 Zp []):OvOk P 136 mkF.O:=by
 refine B3 g136.b ?_
 rintro ⟨c,⟨ev,lo,sp,po,dn,nl,br⟩,_⟩ _ ⟨_,_,rfl,⟨rfl,hc⟩,_,_,rfl,hlo,rfl⟩ ⟨hM,hL,hsp,hpo⟩
 refine ⟨rfl,C.of_G hE g136 ?_⟩
 have hck:=fun (Q:AV->St->Prop) s a=>@cF.u _ _ _ _ e 39 s Q _ h39 (c,(ev,lo,sp,po,dn,nl,br),()) ⟨_,_,rfl,⟨rfl,hc⟩,_,_,rfl,hlo,rfl⟩ trivial (fun _=>a) (fun q=>absurd (And.intro hM hL) q)
 obtain ⟨rfl,h1,h2,h3,h4⟩:=GE hlo
 dsimp only at hM hL hc hsp hpo hck
 subst hsp
 have hst:=IF h40 hc hM
 have hmm:=BC hM
 have fin:∀ st x,x=Bx c (ev,lo,true,po,dn,nl,br)->Frz st (.tup [.agg (Es x),.int .i64 0]) (mkF.out (c,(ev,lo,true,po,dn,nl,br),())):=by
  rintro st n rfl
  refine .plain _ ?_
  show AM.hf (.tup [.agg (Es (Bx c (ev,lo,true,po,dn,nl,br))),.int .i64 0])=true
  unfold Bx;split <;> rfl
 generalize mkF.out _=O at fin ⊢
 unfold Bx At at fin
 unfold At at hmm
 dsimp only at fin
 change VW P e 0 _ (An [.agg c.c,.agg _] 0 .lf) St0 none [] _
 by_cases hq:po=c.chunk*c.rows
 ·rw [Zpn hq] at fin
  conv=>whnf
  repeat' (first|((first|refine hck _ _ ?_|refine hst _ _ ?_|refine ESc.inl h96 ?_|refine Au ?_);conv=>whnf)|refine Ap ?_ ?_|refine Al ?_ ?_|(intro _;first|omega|conv=>whnf))
  exact fin _ _ rfl
 ·rw [Zpr hq] at fin
  conv=>whnf
  repeat' (first|((first|refine hck _ _ ?_|refine hst _ _ ?_|refine Au ?_);conv=>whnf)|refine Ap ?_ ?_|refine Al ?_ ?_|(intro _;first|omega|conv=>whnf))
  exact fin _ _ rfl
def MZ:AC:=match Qv with|.mk c _=>c
def Zo7:AC:=match Qj with|.mk c _=>c
def Zo6:AC:=match Qi with|.mk c _=>c
def SI:AC:=match F8 MZ with|some (a,_)=>a|none=>.skip
def Sd:AC:=match F8 MZ with|some (_,b)=>b|none=>.skip
def rng134:AC:=match MZ with
 | .seq _ (.seq _ (.seq _ (.seq _ (.seq _ (.seq _ (.seq _ (.seq r _)))))))=>r
 | _=>.skip
def Zh2:AC:=match MZ with
 | .seq _ (.seq _ (.seq _ (.seq _ (.seq _ (.seq _ (.seq _ (.seq _ r)))))))=>r
 | _=>.skip
def Ly:List (Nat×AV):=[(10,.ptr 3 0),(11,.ptr 4 0),(15,.ptr 5 0),(18,.ptr 6 0),(60,.fn 203 [] [.ptr 7 0,.ptr 8 0])]
def osB (v:AV) (ms s m a:Int) (l:List AV):List AObj:=[.row 34 [v],.row 3 [.int .i64 ms],.row 3 [.int .i64 s],.row 76 [.nils],.row 38 [.int .i64 0],.row 236 [.fn 179 [] [.ptr 1 0,.ptr 0 0,.ptr 2 0]],.row 52 l,.row 3 [.int .i64 m],.row 3 [.int .i64 a]]
noncomputable def YX (v:AV) (ms s m a:Int) (L:List (List Nat)):List AObj:=match L with
 | []=>osB v ms s m a [.nils]++[.defd,.loop .ready none 0 (A6 Ly) [61] SI Sd 9]
 | b::L=>osB v ms s m a [.sl 11 0 (L.length+1) none]++[.defd,.loop .ready none 0 (A6 Ly) [61] SI Sd 9,.row 76 ((b::L).map Az)]
noncomputable def ftbF:Fn (Cfg×List Dk×Int×Int×Int×Unit):=⟨.g cfgC (.v dkC.sl (.v i64C (.v i64C (.v i64C .nil)))),fun x=>(x.1.may∧C3 x.1 x.2.1∧(∀ d ∈ x.2.1,BG d)∧∀ i<x.1.members.toNat,Bd x.2.1 i=false)∧(0≤x.2.2.2.1∧x.2.2.2.1<At x.1)∧(0≤x.2.2.2.2.1∧x.2.2.2.2.1<x.1.members)∧x.2.2.1=Bi x.1 x.2.2.2.1 x.2.2.2.2.1,fun x=>.tup [Az (AY (Bk x.2.1 (x.2.2.2.1+1) x.2.2.1.toNat x.1.members.toNat)),.int .i64 0]⟩
theorem Zm9 {c:Cfg}{D:List Dk}{cs:List AV}(hD:C3 c D) (hsm:∀ d ∈ D,BG d) (hal:∀ i<c.members.toNat,Bd D i=false) (hn:∀ i,i<D.length->∃ x c l,D[i]?=some x∧dkC.r x c∧cs.drop (i*3)=c++l) {s:Int}(h0:0≤s∧s<At c) {e:Env}(h49:Con e 49 drdF.O) {i:Nat}(hi:(i:Int)<c.members):i<D.length∧∃ x bv wv r,D[i]?=some x∧cs.drop (i*3)=[bv,wv,.bool false]++r∧∀ (Q:AV->St->Prop) st,Q (.tup [Az (Cb x (s+1)),.int .i64 0]) st->ESc e 49 [.agg [bv,wv,.bool false],.int .i64 (s+1)] st Q:=by
 have hl:=hD.1
 have hil:i<D.length:=by omega
 obtain ⟨x,cl,r,hx,hxr,hd⟩:=hn i hil
 obtain ⟨hlen,hk⟩:=hD.2 i hil x hx
 have hdead:x.2.2=false:=by
  have h1:=hal i (by omega)
  unfold Bd at h1
  rw [hx] at h1;exact h1
 rw [Zpr (by omega)] at hlen
 have huse:=fun Q st k=>Zj8 (e:=e) h49 hxr (hsm x (Zp5 hx)) hk (a:=s+1) ⟨by omega,by omega⟩ Q st k
 rw [hdead] at huse
 obtain ⟨bs,ws,dd⟩:=x
 dsimp only at hdead
 subst hdead
 obtain ⟨bv,wv,rfl,-,-⟩:=GI hxr
 exact ⟨hil,_,bv,wv,r,hx,hd,huse⟩
theorem Zf7 (hE:EM P e) (h50:Con e 50 fldF.O) {ms s m a:Int}{L:List (List Nat)}(hL:Ey L) (hn:0<L.length∧L.length≤16) (hv:AM.hf v=true) {K:AV->St->Prop}(hk:∀ st,K (.tup [Az (AY L),.int .i64 0]) st)
 {s0:St}{ds:List Nat}(h:AbsD 0 t s0 ds [(10,.ptr 0 0),(11,.ptr 1 0),(18,.ptr 2 0)] ([.row 76 [.nils],.row 38 [.int .i64 0],.row 52 [.sl 4 0 L.length none],.defd]++[.row 76 (L.map Az)]) rs [3]):W P 0 none Zh2 t s0 ds (BS [.cell 10,.cell 11] K):=by
 have hLs:=Pf hL ⟨hn.1,by omega⟩
 have hc:∀ (Q:AV->St->Prop) st,Q (.tup [Az (AY L),.int .i64 0]) st->ESc e 50 [.fz L.length none (L.map Az)] st Q:=fun Q st k=>Fn.u (F:=fldF) h50 (L,()) ⟨_,_,rfl,⟨_,rfl,hLs⟩,rfl⟩ ⟨hL,hn.2⟩ k
 have h1:=AbsD.frz (P:=P) (k:=0) (n:=4) (e:=76) (cs:=L.map Az) (tl:=[(10,.ptr 0 0),(11,.ptr 1 0),(18,.ptr 2 0)]) (tl2:=[(10,.ptr 0 0),(11,.ptr 1 0),(18,.ptr 2 0)]) (ds2:=[3]) (os:=[.row 76 [.nils],.row 38 [.int .i64 0],.row 52 [.sl 4 0 L.length none],.defd]) (os2:=[.row 76 [.nils],.row 38 [.int .i64 0],.row 52 [.fz L.length none (L.map Az)],.defd]) h rfl (by intro d hd;simp at hd;subst hd;decide) (F2 _) rfl rfl rfl rfl rfl rfl
 refine W.tells h1 ?_
 refine Hz hE ?_;conv=>whnf
 repeat' (first|(refine hc _ _ ?_;conv=>whnf)|fail)
 exact hk _
set_option maxHeartbeats 1000000 in
theorem Zjh (hE:EM P e) (h19:Con e 19 ftcF.O) (h49:Con e 49 drdF.O) (h50:Con e 50 fldF.O) (h178:Con e 178 mmbF.O) (h179:Inl e 179 Zo7 [.tmp 5,.tmp 6]) (h180:Inl e 180 Zo6 [.tmp 4]):OvOk P 134 ftbF.O:=by
 refine B3 g134.b ?_
 rintro ⟨c,D,ms,s,k,_⟩ _ ⟨_,_,rfl,⟨rfl,hc⟩,v,_,rfl,⟨_,e0,hD⟩,_,_,rfl,⟨e1,z1⟩,_,_,rfl,⟨e2,z2⟩,_,_,rfl,⟨e3,z3⟩,rfl⟩ ⟨⟨hM,h20,hsm,hal⟩,hs0,hk0,hms⟩
 cases e0
 cases e1
 cases e2
 cases e3
 dsimp only at hc hM h20 hsm hal hs0 hk0 hms hD z1 z2 z3
 have hvf:=hD.hf
 have hvr:hfs [v]=true:=by show (AM.hf v && true)=true;rw [hvf];rfl
 obtain ⟨cs,hs',hl',hn⟩:=hD.nth
 have hat:=fun {i:Nat}=>@Zm9 c D cs h20 hsm hal hn s hs0 e h49 i
 have hck:=fun (Q:AV->St->Prop) st a=>@cF.u _ _ _ _ e 19 st Q _ h19 (c,D,()) ⟨_,_,rfl,⟨rfl,hc⟩,_,_,rfl,⟨_,rfl,hD⟩,rfl⟩ hsm (fun _=>a) (fun q=>absurd (And.intro hM h20) q)
 have hmb:=fun (Q:AV->St->Prop) st q=>Fn.u (F:=mmbF) (k:=Q) (s:=st) h178 (c,s,k,()) ⟨_,_,rfl,⟨rfl,hc⟩,_,_,rfl,⟨rfl,z2⟩,_,_,rfl,⟨rfl,z3⟩,rfl⟩ ⟨hM,hs0,hk0⟩ q
 have hM':=hM
 unfold Cfg.may at hM'
 have hmm:=BC hM
 obtain ⟨K0,hK0⟩:∃ K0:Nat,k=K0:=⟨k.toNat,by omega⟩
 obtain ⟨-,q2,q3⟩:=KJ hM hs0.1 K0
 rw [← hK0] at q2 q3
 replace hmb:∀ (Q:AV->St->Prop) st,Q (.tup [.int .i64 (Bi c s k),.int .i64 0]) st->ESc e 178 [.agg c.c,.int .i64 s,.int .i64 k] st Q:=hmb
 subst hms
 obtain ⟨mm,hme⟩:∃ mm:Nat,Bi c s k=mm:=⟨(Bi c s k).toNat,by omega⟩
 have hf0:∀ L,L=AY (Bk D (s+1) mm c.members.toNat)->∀ st,Frz st (.tup [Az L,.int .i64 0]) (ftbF.out (c,D,Bi c s k,s,k,())):=fun L h st=>by
  show Frz st _ (.tup [Az (AY (Bk D (s+1) (Bi c s k).toNat c.members.toNat)),.int .i64 0])
  rw [hme,Int.toNat_natCast,h];exact .plain _ rfl
 refine ⟨rfl,C.of_W g134.f g134.c ?_⟩
 generalize ftbF.out _=O at hf0 ⊢
 rw [hme] at hmb q2 q3 ⊢
 rw [Int.toNat_natCast] at q2
 have hml:mm<c.members.toNat:=q2
 have hblk:∀ i:Nat,(i:Int)≤c.members->Ey (Bk D (s+1) mm i):=R9 h20 hD (s+1) mm
 unfold At at hs0 hmm
 show W P 0 none MZ (An [.agg c.c,v,.int .i64 mm,.int .i64 s,.int .i64 k] 0 .lf) St0 [] (BS [.cell 10,.cell 11] _)
 have hvc:=hD.cell
 refine Bz hE ?_;conv=>whnf
 repeat' (first|(refine DA (by show Nat.beq (A7 (cellsOf v)) 1=true;rw [hvc];rfl) ?_;rw [hvc];conv=>whnf)|fail)
 refine Bz hE ?_;conv=>whnf
 repeat' (first|(refine hck _ _ ?_;conv=>whnf)|refine Al ?_ ?_|(intro _;first|omega|conv=>whnf))
 refine Bz hE ?_;conv=>whnf
 repeat' (first|(refine hmb _ _ ?_;conv=>whnf)|fail)
 refine Bz hE ?_;conv=>whnf
 repeat' (first|refine Aa ?_ ?_|refine AR ?_ ?_|refine Al ?_ ?_|(intro _;first|omega|conv=>whnf))
 refine Bz hE ?_;conv=>whnf
 skip
 refine Bz hE ?_;conv=>whnf
 repeat' (first|(refine ECall.inl h179.O h179.G ?_;conv=>whnf)|refine Ap ?_ ?_|(intro _;first|omega|conv=>whnf))
 refine Bz hE ?_;conv=>whnf
 skip
 refine Bz hE ?_;conv=>whnf
 repeat' (first|(refine ESc.inl h180 ?_;conv=>whnf)|fail)
 refine W.tells (Abs.tells (tl:=Ly) (os:=osB v mm s c.members mm [.nils]) (rs:=[1,2,3,4,5,6,7,8,9]) .a) ?_
 refine Pl (f:=203) (first:=[]) (cap:=[.ptr 7 0,.ptr 8 0]) g203.b rfl ?_ ?_
 ·intro q hq
  have hq:q<9:=hq
  have n5:Named (A6 Ly) (Aj St0 (osB v mm s c.members mm [.nils])) 5:=.tmp 15 (.ptr 5 0) rfl rfl
  rcases q with _|_|_|_|_|_|_|_|_|q
  ·exact .cell 5 236 _ 0 (.fn 179 [] [.ptr 1 0,.ptr 0 0,.ptr 2 0]) n5 rfl rfl rfl
  ·exact .cell 5 236 _ 0 (.fn 179 [] [.ptr 1 0,.ptr 0 0,.ptr 2 0]) n5 rfl rfl rfl
  ·exact .cell 5 236 _ 0 (.fn 179 [] [.ptr 1 0,.ptr 0 0,.ptr 2 0]) n5 rfl rfl rfl
  ·exact .tmp 10 (.ptr 3 0) rfl rfl
  ·exact .tmp 11 (.ptr 4 0) rfl rfl
  ·exact n5
  ·exact .tmp 18 (.ptr 6 0) rfl rfl
  ·exact .tmp 60 (.fn 203 [] [.ptr 7 0,.ptr 8 0]) rfl rfl
  ·exact .tmp 60 (.fn 203 [] [.ptr 7 0,.ptr 8 0]) rfl rfl
  ·omega
 show C1 P 203 [.yld 10,.ptr 7 0,.ptr 8 0] (Aj St0 (YX v mm s c.members mm [])) (fun _ s'=>KX 10 [9] (A6 Ly) s' _)
 refine C1.of_G hE g203 ?_;conv=>whnf
 have hlb:∀ n,Dw 11 n (.loop .ready none 0 (A6 Ly) [61] SI Sd 9)=true:=fun _=>rfl
 refine DZ (k:=11) (α:=Nat) (fun i=>[(0,.yld 10),(2,.ptr 8 0),(5,.int .i64 c.members),(6,.int .i64 (i:Int))]) (fun i=>YX v mm s c.members mm (Bk D (s+1) mm i)) (fun i=>c.members.toNat-i) (fun i=>i≤c.members.toNat) 0 (Zp2 _) (AbsK.tells (rs:=[0,1,2,3,4,5,6,7,8,9,10]) ⟨rfl,by decide,⟨r9,r9,r9,r9,trivial⟩,⟨o9 hvr,r9,r9,r9,r9,r9,r9,r9,r9,r9,⟨hlb _,rfl⟩,trivial⟩⟩) ?_
 rintro i hi
 refine Ca hE ?_
 have hst:=fun (y:Dk) (hy:D[i]?=some y)=>show Bk D (s+1) mm (i+1)=Bk D (s+1) mm i++(if i=mm then [] else [Cb y (s+1)]) by
  show Bk D (s+1) mm i++_=_
  rw [hy];rfl
 have hol:=Rk D (s+1) mm i
 have hbl:=hblk i (by omega)
 have hfe:i=c.members.toNat->∀ st,Frz st (.tup [Az (AY (Bk D (s+1) mm i)),.int .i64 0]) O:=fun h=>by subst h;exact hf0 _ rfl
 clear hf0
 generalize Bk D (s+1) mm i=L at *
 by_cases hlt:i<c.members.toNat
 ·obtain ⟨hil,x,bv,wv,r,hx,hd,huse⟩:=hat (i:=i) (by omega)
  have hst:=hst x hx
  by_cases him:i=mm
  ·rw [Zpn him,Zqu] at hst
   rcases L with _|⟨b0,L⟩
   ·conv=>whnf
    repeat' (first|((first|refine Ac ?_|refine ⟨rfl,?_⟩);conv=>whnf)|refine Aa ?_ ?_|refine Al ?_ ?_|(intro _;first|omega|conv=>whnf))
    exact ⟨i+1,hlt,by omega,by rw [hst];exact AbsK.tells (rs:=[0,1,2,3,4,5,6,7,8,9,10]) ⟨rfl,by decide,⟨r9,r9,r9,r9,trivial⟩,⟨o9 hvr,r9,r9,r9,r9,r9,r9,r9,r9,r9,⟨hlb _,rfl⟩,trivial⟩⟩⟩
   ·conv=>whnf
    repeat' (first|((first|refine Ac ?_|refine ⟨rfl,?_⟩);conv=>whnf)|refine Aa ?_ ?_|refine Al ?_ ?_|(intro _;first|omega|conv=>whnf))
    exact ⟨i+1,hlt,by omega,by rw [hst];exact AbsK.tells (rs:=[0,1,2,3,4,5,6,7,8,9,10,11]) ⟨rfl,by decide,⟨r9,r9,r9,r9,trivial⟩,⟨o9 hvr,r9,r9,r9,r9,r9,r9,r9,r9,r9,⟨hlb _,rfl⟩,o9 (F2 _),trivial⟩⟩⟩
  ·rw [Zpr him] at hst
   have him':(i:Int)≠mm:=by omega
   rcases L with _|⟨b0,L⟩
   ·conv=>whnf
    repeat' (first|((first|refine ERound.mk ?_|refine ECall.inl h179.O h179.G ?_|refine Ar hs' hil hd ?_|refine As ?_|refine A8 (cs:=[bv,wv,.bool false]) rfl ?_|refine huse _ _ ?_|refine CO (m:=1) ?_|refine Ac ?_|refine Au ?_|refine ⟨rfl,?_⟩);conv=>whnf)|refine Aa ?_ ?_|refine Ap ?_ ?_|refine Al ?_ ?_|(intro _;first|omega|conv=>whnf))
    exact ⟨i+1,hlt,by omega,by rw [hst];exact AbsK.tells (rs:=[0,1,2,3,4,5,6,7,8,9,10,12]) ⟨rfl,by decide,⟨r9,r9,r9,r9,trivial⟩,⟨o9 hvr,r9,r9,r9,r9,r9,r9,r9,r9,r9,⟨hlb _,rfl⟩,o9 (F2 [_]),trivial⟩⟩⟩
   ·have hll:L.length≤100:=by simp only [Zqd] at hol;omega
    conv=>whnf
    repeat' (first|((first|refine ERound.mk ?_|refine ECall.inl h179.O h179.G ?_|refine Ar hs' hil hd ?_|refine As ?_|refine A8 (cs:=[bv,wv,.bool false]) rfl ?_|refine huse _ _ ?_|refine C6 (m:=1) (n:=L.length+1) (old:=(b0::L).map Az) rfl rfl rfl rfl (by rw [Zpq];exact (Zqm _).symm) rfl (by decide) (by omega) ?_|refine Ac ?_|refine Au ?_|refine ⟨rfl,?_⟩);conv=>whnf)|refine Aa ?_ ?_|refine Ap ?_ ?_|refine Al ?_ ?_|(intro _;first|omega|conv=>whnf))
    refine ⟨i+1,hlt,by omega,?_⟩
    rw [hst]
    refine AbsK.tells (rs:=[0,1,2,3,4,5,6,7,8,9,10,13]) ⟨rfl,by decide,⟨r9,r9,r9,r9,trivial⟩,⟨o9 hvr,r9,r9,r9,r9,r9,⟨rfl,?_⟩,r9,r9,r9,⟨hlb _,rfl⟩,⟨Bj (F2 (b0::(L++[Cb x (s+1)]))),?_⟩,trivial⟩⟩
    ·show _=some (AObj.row 52 [AV.sl 13 0 ((L++[Cb x (s+1)]).length+1) none])
     rw [Zpx];rfl
    ·show _=some (Bw _ (AObj.row 76 (((b0::L)++[Cb x (s+1)]).map Az)))
     rw [AU (F2 _),Zp8];rfl
 ·obtain rfl:i=c.members.toNat:=by omega
  have hll:0<L.length∧L.length≤16:=by omega
  rcases L with _|⟨b0,L⟩
  ·exact absurd hll.1 (by decide)
  ·conv=>whnf
   repeat' (first|refine Aa ?_ ?_|(intro _;first|omega|conv=>whnf))
   exact Zf7 (v:=v) (ms:=0) (s:=0) (m:=0) (a:=0) (L:=b0::L) (rs:=[3,4,6,9,11]) hE h50 hbl hll hvf (hfe rfl) ⟨⟨rfl,by decide,⟨r9,r9,r9,trivial⟩,⟨r9,r9,r9,r9,o9 (F2 _),trivial⟩⟩,rfl,by intro d hd;simp at hd;subst hd;show 3<5;decide⟩
theorem All2.maps {α β γ:Type}{R:β->γ->Prop}{f:α->β}{g:α->γ}:∀ {l:List α},(∀ x ∈ l,R (f x) (g x))->All2 R (l.map f) (l.map g)
 | [],_=>.nil
 | x::l,h=>.cons (h x (by simp)) (All2.maps fun y hy=>h y (by simp [hy]))
variable {b:List Nat}
theorem SK {d:Nat}(h1:Ab k) (h2:d<256) (h3:Ab a) (h4:Ls Ce.u8 b v):actC.r (k,d,a,b) [.int .i64 k,.int .u8 (d:Int),.int .i64 a,v]:=
 ⟨[.int .i64 k],_,rfl,⟨rfl,Bf h1⟩,[.int .u8 (d:Int)],_,rfl,⟨rfl,h2⟩,[.int .i64 a],_,rfl,⟨rfl,Bf h3⟩,v,rfl,h4⟩
variable {y:DK}
theorem Zho {d:Nat}(hy:AX y=true) (h:d≠3->(0≤a∧a<y.us.length)∧BM b):(C5 y (k,d,a,b)).1=0∨(C5 y (k,d,a,b)).1=9:=by
 unfold C5
 dsimp only
 cases hdd:y.dead with
 | true=>exact .inl rfl
 | false=>
  rw [Zpr Bool.false_ne_true]
  have hw:d≠3->BP y a b=0:=fun h3=>by
   obtain ⟨h1,h2⟩:=h h3
   unfold BP IS
   rw [Zpn hy,Zpn h1,Zpn rfl,Zpr (by rw [odd_sized.2 h2];decide),hdd];rfl
  by_cases h1:d=1
  ·rw [Zpn h1]
   show EA (CV y a b)=0∨EA (CV y a b)=9
   unfold EA
   rw [Zpn (show BP (CV y a b).d (CV y a b).a (CV y a b).b=0 from hw (by omega))]
   split
   ·exact .inr rfl
   ·exact .inl rfl
  ·rw [Zpr h1]
   by_cases h2:d=2
   ·rw [Zpn h2];exact .inl (hw (by omega))
   ·rw [Zpr h2]
    left
    show GW y=0
    unfold GW
    rw [Zpn hy,hdd];rfl
theorem Zj3 (y:DK) (a:Int) (b:List Nat) (p:Int):Cb (Ae (FP (CV y a b))) p=if p=a then Ah (Ah b) else Cb (Ae y) p:=by
 have e:(Ae (FP (CV y a b))).2.1=(Ae y).2.1++[(a,Ah b)]:=by
  show (y.ws.map A5++[_]).map (fun (w:WR)=>(w.at_,w.b))=y.ws.map (fun w=>(w.at_,w.b))++_
  rw [Zp8,List.map_map];rfl
 unfold Cb
 rw [e,List.reverse_append]
 show Ah ((if a=p then some (Ah b) else IH p (Ae y).2.1.reverse).getD _)=_
 by_cases h:p=a
 ·rw [Zpn h,Zpn h.symm];rfl
 ·rw [Zpr h,Zpr (fun g=>h g.symm)];rfl
variable {p:Int}
theorem Zjo (hy:y.ok) (h:AX y=true) (hp:0≤p):Cb (Ae (D7 y)) p=Cb (Ae y) p:=by
 rw [← K7 (KP (SA hy).a) p,← K7 (KP hy.a) p,Zka hy h hp]
theorem Zhg (y:DK):Ae (Aq y)=Ae y:=by
 show (y.bs,(y.ws.map A5).map (fun w=>(w.at_,w.b)),y.dead)=_
 rw [List.map_map];rfl
theorem Zlt (ys:List DK):(ys.map Aq).map Ae=ys.map Ae:=by
 rw [List.map_map];exact List.map_congr_left fun y _=>Zhg y
variable {Y:List DK}{i:Nat}
theorem Zcz {l:List Act}{x:Act}(h:l[i]?=some x):AB Y l (i+1)=(DP (AB Y l i) x).2:=by
 show (match l[i]? with|none=>AB Y l i|some a=>(DP (AB Y l i) a).2)=_
 rw [h]
theorem Vq {l:List Act}{x:Act}(h:l[i]?=some x) (h0:AW Y l i=0):AW Y l (i+1)=(DP (AB Y l i) x).1:=by
 show (if AW Y l i≠0 then AW Y l i else match l[i]? with|none=>0|some a=>(DP (AB Y l i) a).1)=_
 rw [Zpr (by rw [h0];decide),h]
theorem WP {ys:List DK}{l:List Act}(hY:E8 (ys.map Aq)) (hl:∀ x ∈ l,Ab x.2.2.1∧(∀ z ∈ x.2.2.2,z<256)∧DG (ys.map Ae) x):∀ i,i≤l.length->AW (ys.map Aq) l i=0∨AW (ys.map Aq) l i=9
 | 0,_=>.inl rfl
 | i+1,hi=>by
  rcases WP hY hl i (by omega) with h0|h9
  ·obtain ⟨g1,g2,g3⟩:=Md hY hl i h0
   obtain ⟨x,hx⟩:∃ x,l[i]?=some x:=⟨_,Zpj hi⟩
   rw [Vq hx h0]
   have hm:=(hl x (Zp5 hx)).2.2
   generalize AB (ys.map Aq) l i=Y at *
   unfold DP
   cases hy:Y[x.1.toNat]? with
   | none=>exact .inl rfl
   | some y=>
    obtain ⟨k,d,a,b⟩:=x
    unfold DG at hm
    refine Zho (g1 y (Zp5 hy)).2 fun h3=>?_
    obtain ⟨⟨h4,h5⟩,h6⟩:=hm.2.2.2 h3
    obtain ⟨z,hz,hz2⟩:=g3 _ _ hy
    rw [Zqi] at hz
    cases hw:ys[k.toNat]? with
    | none=>dsimp only at hz;rw [hw] at hz;cases hz
    | some w=>
     dsimp only at hz
     rw [hw] at hz
     cases hz
     have h7:=h5 (Ae w) (by rw [Zqi,hw];rfl)
     have h8:(Aq w).us.length=w.us.length:=Zpq ..
     exact ⟨⟨h4,by
      have h9:=(hY (Aq w) (Zqj.2 ⟨w,Zp5 hw,rfl⟩)).1.a.bs.length
      have h7:a<w.bs.length:=h7
      have h9:(Aq w).us.length=w.bs.length:=h9
      rw [hz2];omega⟩,h6⟩
  ·exact .inr (by rw [← h9];exact LW (by rw [h9];decide) _ (by omega))
def eff (D:List Dk) (l:List Act) (j:Nat) (p:Int):Nat->List Nat
 | 0=>Bm D p j
 | i+1=>match l[i]? with
  | none=>eff D l j p i
  | some (k,d,a,b)=>if d=1∧k.toNat=j∧p=a then Ah (Ah b) else eff D l j p i
variable {z:DK}
theorem R2 {k:Nat}(hk:k<Y.length):Bm ((Y.set k z).map Ae) p j=if k=j then Cb (Ae z) p else Bm (Y.map Ae) p j:=by
 unfold Bm
 rw [Zqi,Zqi]
 split
 ·rename_i h
  subst h
  rw [List.getElem?_set_self hk];rfl
 ·rename_i h
  rw [List.getElem?_set_ne h]
theorem Rt {k:Nat}(hk:k<Y.length):Bd ((Y.set k z).map Ae) j=if k=j then z.dead else Bd (Y.map Ae) j:=by
 unfold Bd
 rw [Zqi,Zqi]
 split
 ·rename_i h
  subst h
  rw [List.getElem?_set_self hk];rfl
 ·rename_i h
  rw [List.getElem?_set_ne h]
theorem WY (h:b.length=128):Ah b=b:=by
 unfold Ah
 rw [Zpr]
 rintro rfl
 cases h
def Bu (d:Dv) (o:Lo):Dv:=(d.1,d.2.1,o,d.2.2.2)
variable {o:Lo}{E:List Dk}
theorem Oc (h:∀ k:Nat,BW (Bu d o) E s k=BW d D s k) (hT:J8 d D s):J8 (Bu d o) E s∧∀ k:Nat,B0 (Bu d o) E s k=B0 d D s k:=by
 have h2:∀ k:Nat,B0 (Bu d o) E s k=B0 d D s k:=fun k=>by
  unfold B0
  rw [h k];rfl
 have e1:DO (Bu d o) E s=DO d D s:=funext fun k=>by unfold DO;rw [h k]
 have e2:Gt (Bu d o) E s=Gt d D s:=funext fun k=>by unfold Gt;rw [h2 k]
 have e3:∀ i,EZ (Bu d o) E s i=EZ d D s i:=fun i=>by unfold EZ;rw [e1]
 have e4:∀ i,HS (Bu d o) E s i=HS d D s i:=fun i=>by unfold HS;rw [e2]
 refine ⟨?_,h2⟩
 obtain ⟨t1,t2,t3⟩:=hT
 refine ⟨fun k hk=>by rw [h k];exact t1 k hk,by rw [show (Bu d o).1=d.1 from rfl,e3];exact t2,fun hp x hx=>?_⟩
 obtain ⟨q1,q2⟩:=t3 hp x hx
 exact ⟨fun k hk hc hz=>by rw [e1];exact q1 k hk hc hz,fun hc=>by rw [show (Bu d o).1=d.1 from rfl,e4];exact q2 hc⟩
theorem Wo (h:ET d) (hl:Br d.1 o) (hn:o.2.2.2.2.2.1=d.2.2.1.2.2.2.2.2.1):ET (Bu d o):=by
 obtain ⟨c,bk,⟨ev,lo,sp,po,dn,nl,br⟩,hs,⟨ag,sq,tl,us,L⟩,fs,nx,so⟩:=d
 obtain ⟨ev',lo',sp',po',dn',nl',br'⟩:=o
 dsimp only at hn hl
 subst hn
 unfold Bu
 unfold ET GM at h ⊢
 obtain ⟨⟨h1,-,h3⟩,h⟩:=h
 exact ⟨⟨h1,hl,h3⟩,h⟩
variable {ms:Int}
theorem Wh (hM:c.may) (hs:0≤s) (hd:∀ i<c.members.toNat,Bd E i=Bd D i) (he:∀ i<c.members.toNat,Bm E (s+1) i=Bm D (s+1) i) (hk:0≤k):CN c E ms s k=CN c D ms s k:=by
 obtain ⟨K,rfl⟩:∃ K:Nat,k=K:=⟨k.toNat,by omega⟩
 obtain ⟨-,q2,-⟩:=KJ hM hs K
 unfold CN
 have l1:∀ i<c.members.toNat,Do E ms i↔Do D ms i:=fun i hi=>by unfold Do;rw [hd i hi]
 have e1:Bk E (s+1) (Bi c s K).toNat c.members.toNat=Bk D (s+1) (Bi c s K).toNat c.members.toNat:=Sw _ fun j hj _=>he j hj
 have e2:=he _ q2
 unfold Bm at e2
 rw [e1,e2]
 generalize hp:(Bi c s K).toNat=p at *
 by_cases hq:Do D ms p
 ·have hqE:¬¬Do E ms p:=fun h=>h ((l1 _ q2).2 hq)
  have hqD:¬¬Do D ms p:=fun h=>h hq
  rw [Zpr hqE,Zpr hqD]
  by_cases hr:∀ i<c.members.toNat,i≠p->¬Do D ms i
  ·have hrE:∀ i<c.members.toNat,i≠p->¬Do E ms i:=fun i hi hn g=>hr i hi hn ((l1 i hi).1 g)
   rw [Zpn hrE,Zpn hr]
  ·have hrE:¬∀ i<c.members.toNat,i≠p->¬Do E ms i:=fun h=>hr fun i hi hn g=>h i hi hn ((l1 i hi).2 g)
   rw [Zpr hrE,Zpr hr]
 ·have hqE:¬Do E ms p:=fun h=>hq ((l1 _ q2).1 h)
  rw [Zpn hqE,Zpn hq]
variable {lo:Int}
theorem Zfe (hM:c.may) (hs:0≤s) (hlo:0≤lo∧lo<c.members) (hd:∀ i<c.members.toNat,Bd D i=false) (hd':∀ i<c.members.toNat,Bd E i=false) (he:∀ i<c.members.toNat,Bm E (s+1) i=if i=lo.toNat then AY (Bk D (s+1) lo.toNat c.members.toNat) else Bm D (s+1) i) (hk:0≤k):CN c E (-1) s k=CN c D lo s k:=by
 obtain ⟨K,rfl⟩:∃ K:Nat,k=K:=⟨k.toNat,by omega⟩
 obtain ⟨-,q2,-⟩:=KJ hM hs K
 have e2:=he _ q2
 unfold CN
 rw [Zpn (fun h=>by
  rcases h with h|h
  ·omega
  ·rw [hd' _ q2] at h;cases h)]
 show some (Bm E (s+1) (Bi c s K).toNat)=_
 rw [e2]
 by_cases hon:(Bi c s K).toNat=lo.toNat
 ·rw [Zpn hon,hon,Zpr (fun h=>h (.inl (by omega))),Zpn]
  intro i hi hn
  rintro (h|h)
  ·omega
  ·rw [hd _ hi] at h;cases h
 ·rw [Zpr hon,Zpn]
  ·rfl
  ·rintro (h|h)
   ·omega
   ·rw [hd _ q2] at h;cases h
theorem XP:CU o s=if o.2.2.1=true∧s<o.2.2.2.1 then -1 else o.2.1:=rfl
theorem Zco (hM:d.1.may) (hT:Cv d D) (hsp:d.2.2.1.2.2.1=true) (hpo:d.2.2.1.2.2.2.1<At d.1) (h20:C3 d.1 E) (hd:∀ i<d.1.members.toNat,Bd E i=false)
 (he:∀ s:Int,0≤s->∀ i<d.1.members.toNat,Bm E (s+1) i=if s=d.2.2.1.2.2.2.1∧i=d.2.2.1.2.1.toNat then AY (Bk D (s+1) i d.1.members.toNat) else Bm D (s+1) i):
 Cv (Bu d (E7 d.2.2.1)) E∧∀ s:Int,0≤s->s<At d.1->∀ k:Nat,B0 (Bu d (E7 d.2.2.1)) E s k=B0 d D s k:=by
 obtain ⟨hm,hm20,hbr,hal,htd⟩:=hT
 have hdD:∀ i<d.1.members.toNat,Bd D i=false:=fun i hi=>by
  have hl:=hm20.1
  cases hx:D[i]? with
  | none=>unfold Bd;rw [hx];rfl
  | some x=>
   unfold Bd
   rw [hx]
   show x.2.2=false
   cases hxd:x.2.2 with
   | false=>rfl
   | true=>have:=(hal i (by omega) x hx hxd).2;rw [hsp] at this;cases this
 have hlB:Br d.1 d.2.2.1:=by
  obtain ⟨c,bk,⟨ev,lo,sp,po,dn,nl,br⟩,hs,⟨ag,sq,tl,us,L⟩,fs,nx,so⟩:=d
  unfold ET GM at hm
  exact hm.1.2.1
 have hf:∀ s:Int,0≤s->s<At d.1->∀ k:Nat,BW (Bu d (E7 d.2.2.1)) E s k=BW d D s k:=by
  intro s h0 h1 k
  obtain ⟨c,bk,⟨ev,lo,sp,po,dn,nl,br⟩,hs,⟨ag,sq,tl,us,L⟩,fs,nx,so⟩:=d
  dsimp only at hsp hpo hlB hd he hdD h1 hM
  subst hsp
  have hL2:=hlB.2.2.2.1 rfl
  show CN c E (CU (ev,lo,true,po+1,dn,nl,br) s) s k=CN c D (CU (ev,lo,true,po,dn,nl,br) s) s k
  rw [XP,XP]
  dsimp only
  by_cases hs:s=po
  ·subst hs
   rw [Zpn ⟨rfl,by omega⟩,Zpr (by omega)]
   refine Zfe hM h0 ⟨hL2.1,hlB.2.2.1⟩ hdD hd (fun i hi=>?_) (Zq2 k)
   rw [he s h0 i hi]
   by_cases hi2:i=lo.toNat
   ·rw [Zpn ⟨rfl,hi2⟩,Zpn hi2,hi2]
   ·rw [Zpr (fun h=>hi2 h.2),Zpr hi2]
  ·have e:(if true=true∧s<po+1 then (-1:Int) else lo)=if true=true∧s<po then -1 else lo:=by
    by_cases h:s<po
    ·rw [Zpn ⟨rfl,by omega⟩,Zpn ⟨rfl,h⟩]
    ·rw [Zpr (by omega),Zpr (by omega)]
   rw [e]
   exact Wh hM h0 (fun i hi=>by rw [hd i hi,hdD i hi]) (fun i hi=>by rw [he s h0 i hi,Zpr fun h=>hs h.1]) (Zq2 k)
 refine ⟨⟨Wo hm ?_ ?_,h20,?_,?_,fun s hs=>(Oc (hf s (Zq2 s) hs) (htd s hs)).1⟩,fun s h0 h1 k=>?_⟩
 ·obtain ⟨c,bk,⟨ev,lo,sp,po,dn,nl,br⟩,hs,⟨ag,sq,tl,us,L⟩,fs,nx,so⟩:=d
  dsimp only at hsp hpo hlB
  subst hsp
  have hL2:=hlB.2.2.2.1 rfl
  show Br c (ev,lo,true,po+1,dn,nl,br)
  have hpo:po<At c:=hpo
  exact ⟨hlB.1,hlB.2.1,hlB.2.2.1,fun _=>⟨hL2.1,hL2.2.1,by omega,by omega⟩,fun h=>(by cases h)⟩
 ·obtain ⟨c,bk,⟨ev,lo,sp,po,dn,nl,br⟩,hs,⟨ag,sq,tl,us,L⟩,fs,nx,so⟩:=d;rfl
 ·obtain ⟨c,bk,⟨ev,lo,sp,po,dn,nl,br⟩,hs,⟨ag,sq,tl,us,L⟩,fs,nx,so⟩:=d;exact hbr
 ·intro i hi x hx hxd
  have:=hd i (by have:(Bu d (E7 d.2.2.1)).1=d.1:=rfl;rw [this] at hi;omega)
  unfold Bd at this
  rw [hx] at this
  rw [show x.2.2=false from this] at hxd
  cases hxd
 ·have:=htd s.toNat (by omega)
  rw [Int.toNat_of_nonneg h0] at this
  exact (Oc (hf s h0 h1) this).2 k
theorem Zcp (hM:d.1.may) (hT:Cv d D) (hsp:d.2.2.1.2.2.1=true) (h20:C3 d.1 E) (hd:∀ i<d.1.members.toNat,Bd E i=false)
 (he:∀ s:Int,0≤s->∀ i<d.1.members.toNat,Bm E (s+1) i=Bm D (s+1) i) (hlo:Br d.1 o) (hnl:o.2.2.2.2.2=d.2.2.1.2.2.2.2.2) (hfo:∀ s:Int,0≤s->s<At d.1->CU o s=CU d.2.2.1 s):
 Cv (Bu d o) E∧∀ s:Int,0≤s->s<At d.1->∀ k:Nat,B0 (Bu d o) E s k=B0 d D s k:=by
 obtain ⟨hm,hm20,hbr,hal,htd⟩:=hT
 have hdD:∀ i<d.1.members.toNat,Bd D i=false:=fun i hi=>by
  cases hx:D[i]? with
  | none=>unfold Bd;rw [hx];rfl
  | some x=>
   unfold Bd
   rw [hx]
   show x.2.2=false
   cases hxd:x.2.2 with
   | false=>rfl
   | true=>have:=(hal i (by omega) x hx hxd).2;rw [hsp] at this;cases this
 have hf:∀ s:Int,0≤s->s<At d.1->∀ k:Nat,BW (Bu d o) E s k=BW d D s k:=fun s h0 h1 k=>by
  show CN d.1 E (CU o s) s k=CN d.1 D (CU d.2.2.1 s) s k
  rw [hfo s h0 h1]
  exact Wh hM h0 (fun i hi=>by rw [hd i hi,hdD i hi]) (fun i hi=>he s h0 i hi) (Zq2 k)
 refine ⟨⟨Wo hm hlo (by rw [hnl]),h20,?_,?_,fun s hs=>(Oc (hf s (Zq2 s) hs) (htd s hs)).1⟩,fun s h0 h1 k=>?_⟩
 ·show o.2.2.2.2.2.2=false
  rw [hnl];exact hbr
 ·intro i hi x hx hxd
  have:=hd i (by have:(Bu d o).1=d.1:=rfl;rw [this] at hi;omega)
  unfold Bd at this
  rw [hx] at this
  rw [show x.2.2=false from this] at hxd
  cases hxd
 ·have:=htd s.toNat (by omega)
  rw [Int.toNat_of_nonneg h0] at this
  exact (Oc (hf s h0 h1) this).2 k
def Fu (c:Cfg) (ev me lo dn:Int) (op:Bool):List AV:=[.int .u32 c.id,.int .u32 ev,.int .i64 c.members,.int .i64 c.chunk,.int .i64 c.rows,.int .i64 c.log,.int .i64 me,.int .i64 lo,.int .i64 dn,.bool op]
def N8 (c:Cfg) (ev me lo dn:Int):Prop:=(0≤ev∧ev≤2147483648)∧(0≤me∧me<c.members)∧(-1≤lo∧lo<c.members)∧(0≤dn∧dn≤At c)∧(lo=-1->dn=0)
def lbR (args:List AV) (u:AV):Prop:=∃ c ev me lo dn op,args=[.agg (Fu c ev me lo dn op)]∧c.ok∧c.may∧N8 c ev me lo dn∧u=.int .i64 0
theorem Zon (hE:EM P e) (h40:Con e 40 stripesF.O):OvOk P 204 (Ao lbR):=by
 refine CX g204.b ?_
 rintro args u ⟨c,ev,me,lo,dn,op,rfl,hc,hM,⟨b1,b2,b3,b4,b5⟩,rfl⟩
 refine ⟨rfl,rfl,C.of_G hE g204 ?_⟩
 have hM':=hM
 unfold Cfg.may at hM'
 have hmm:=BC hM
 have hc2:Cfg.ok ⟨c.id,c.members,c.chunk,c.rows,c.log,2⟩:=by
  obtain ⟨q1,q2,q3,q4,q5,q6⟩:=hc
  exact ⟨q1,q2,q3,q4,q5,show Ab 2 by unfold Ab;omega⟩
 have hM2:Cfg.may ⟨c.id,c.members,c.chunk,c.rows,c.log,2⟩:=by
  refine ⟨hM'.1,hM'.2.1,hM'.2.2.1,show (2:Int)≤2∧(2:Int)≤8 from ⟨by omega,by omega⟩,?_,hM'.2.2.2.2.2⟩
  have:=Int.mul_le_mul_of_nonneg_left (show (2:Int)+1≤c.heads+1 by omega) (show 0≤c.members+1 by omega)
  have h5:=hM'.2.2.2.2.1
  show (c.members+1)*(2+1)≤c.log
  omega
 have hst:∀ (Q:AV->St->Prop) s,Q (.tup [.int .i64 (c.chunk*c.rows),.int .i64 0]) s->ESc e 40 [.agg (Cfg.c ⟨c.id,c.members,c.chunk,c.rows,c.log,2⟩)] s Q:=IF h40 hc2 hM2
 unfold At at b4 hmm
 have b6:lo≠-1∨dn=0:=by
  by_cases h:lo=-1
  ·exact .inr (b5 h)
  ·exact .inl h
 have fin:∀ st,Frz st (.int .i64 0) (.int .i64 0):=fun st=>.plain _ rfl
 change VW P e 0 _ (An [.agg (Fu c ev me lo dn op)] 0 .lf) St0 none [] _
 unfold Fu
 conv=>whnf
 repeat' (first|(refine hst _ _ ?_;conv=>whnf)|refine Aa ?_ ?_|refine Ax ?_ ?_|refine AR ?_ ?_|refine Ap ?_ ?_|refine Al ?_ ?_|(intro _;first|omega|conv=>whnf))
 all_goals first
  | exact fin _
  | (exfalso;omega)
def Zo0:AC:=match PS with|.mk c _=>c
def Et (c:Cfg) (ev me lo dn:Int) (op:Bool):List (Int×Int×Int):=[(76,0,1),(c.id,1,4),(ev,5,4),(c.members,9,1),(c.chunk,10,1),(c.rows,11,1),(c.log,12,1),(me,13,1),(if lo=-1 then 255 else lo,14,1),(dn,15,1),(if op=true then 1 else 0,16,1)]
def Nr (c:Cfg) (ev me lo dn:Int) (op:Bool):List AV:=(Et c ev me lo dn op).flatMap fun x=>[.int .i64 x.1,.int .i64 x.2.1,.int .i64 x.2.2]
def Tw (args:List AV) (u:AV):Prop:=∃ c ev me lo dn op,args=[.agg (Fu c ev me lo dn op)]∧c.ok∧c.may∧N8 c ev me lo dn∧u=.fz 11 none (Nr c ev me lo dn op)
set_option maxHeartbeats 4000000 in
theorem Zmx (hE:EM P e) (h216:Inl e 216 Zo0 [.cells 5 3]):OvOk P 205 (Ao Tw):=by
 refine CX g205.b ?_
 rintro args u ⟨c,ev,me,lo,dn,op,rfl,hc,hM,⟨b1,b2,b3,b4,b5⟩,rfl⟩
 refine ⟨rfl,rfl,C.of_G hE g205 ?_⟩
 have hid:=hc.id
 unfold Bn at hid
 have fin:∀ (st:St) r (cp:Option Nat) (x y:Int),st.get r=some (.row 259 [.int .i64 76,.int .i64 0,.int .i64 1,.int .i64 c.id,.int .i64 1,.int .i64 4,.int .i64 ev,.int .i64 5,.int .i64 4,.int .i64 c.members,.int .i64 9,.int .i64 1,.int .i64 c.chunk,.int .i64 10,.int .i64 1,.int .i64 c.rows,.int .i64 11,.int .i64 1,.int .i64 c.log,.int .i64 12,.int .i64 1,.int .i64 me,.int .i64 13,.int .i64 1,.int .i64 x,.int .i64 14,.int .i64 1,.int .i64 dn,.int .i64 15,.int .i64 1,.int .i64 y,.int .i64 16,.int .i64 1])->x=(if lo=-1 then 255 else lo)->y=(if op=true then 1 else 0)->Frz st (.sl r 0 11 cp) (.fz 11 none (Nr c ev me lo dn op)):=by
  rintro st r cp x y hg rfl rfl
  exact .sl r 0 _ _ _ 259 _ _ _ hg (fun i x hx=>by rw [Zpy];exact hx) (Ck rfl) (.inl rfl)
 generalize AV.fz 11 none (Nr c ev me lo dn op)=O at *
 change VW P e 0 _ (An [.agg (Fu c ev me lo dn op)] 0 .lf) St0 none [] _
 unfold Fu
 cases op
 all_goals
  by_cases hl:lo=-1
  ·subst hl
   conv=>whnf
   repeat' (first|((first|refine ECall.inl h216.O h216.G ?_|refine Ac ?_|refine Cp ?_|refine ⟨rfl,?_⟩);conv=>whnf)|refine Ap ?_ ?_|(intro _;first|omega|conv=>whnf))
   first
    | (refine fin _ _ _ 255 0 ?_ (Zpn rfl).symm rfl;rfl)
    | (refine fin _ _ _ 255 1 ?_ (Zpn rfl).symm rfl;rfl)
  ·conv=>whnf
   repeat' (first|((first|refine ECall.inl h216.O h216.G ?_|refine Ac ?_|refine Cp ?_|refine ⟨rfl,?_⟩);conv=>whnf)|refine Ap ?_ ?_|(intro _;first|omega|conv=>whnf))
   first
    | (refine fin _ _ _ lo 0 ?_ (Zpr hl).symm rfl;rfl)
    | (refine fin _ _ _ lo 1 ?_ (Zpr hl).symm rfl;rfl)
theorem UK:∀ {bs:List Nat},(∀ b ∈ bs,b<256)->C0 (Ad bs)=some bs
 | [],_=>rfl
 | b::bs,h=>by
  show (Bool.rec none (Option.rec none (fun r=>some (b::r)) (C0 (Ad bs))) (Nat.blt b 256):Option (List Nat))=_
  rw [UK (fun x hx=>h x (by simp [hx])),show Nat.blt b 256=true by simpa using h b (by simp)]
theorem W9 {u:AV}{s:St}(h:BAt u b):I1 s u=some b:=by
 obtain ⟨h1,h2⟩:=h
 rcases h1 with ⟨rfl,h3,h4⟩|⟨rfl,h3,h4⟩|⟨c,rfl,h3⟩
 ·rw [Zqh.1 h3];rfl
 ·rw [Zqh.1 h3];rfl
 ·show (Bool.rec none (C0 (Ad b)) (Nat.beq (A7 (Ad b)) b.length):Option (List Nat))=_
  rw [UK h2,CY,B2,Zq6]
theorem We {bs:List Nat}{z n:Int}{s:St}(hv:BAt v bs) (hl:bs.length=0∨bs.length=128) (h:F9 a z n=true):
 Nj [v,.int .i64 a,.int .i64 z,.int .i64 n] s=.ok (.tup [.fz 128 (some 128) (Ad (Co (Ah bs) a.toNat n.toNat z.toNat)),.int .i64 0]) s:=by
 show (Option.rec .fail (fun bs=>.ok (FH bs a z n) s) (I1 St0 v):RV)=_
 rw [W9 hv]
 show RV.ok (FH bs a z n) s=_
 unfold FH
 rw [Zpr (by omega),Zpn h]
def fdP (x:Int×Int×Int):Prop:=Ab x.1∧(1≤x.2.2∧x.2.2≤4)∧(0≤x.2.1∧x.2.1+x.2.2≤128)∧0≤x.1∧x.1.toNat<2^(8*x.2.2.toNat)
theorem Znb {x:Int×Int×Int}(h:fdP x):F9 x.2.1 x.2.2 x.1=true:=by
 obtain ⟨h0,h1,h2,h3,h4⟩:=h
 unfold F9 Lj
 rw [Zpo (by omega),Zpo ⟨h3,Nat.div_eq_of_lt h4⟩];rfl
def BT (F:List (Int×Int×Int)):Nat->List Nat
 | 0=>[]
 | i+1=>match F[i]? with
  | none=>BT F i
  | some x=>Co (Ah (BT F i)) x.2.1.toNat x.1.toNat x.2.2.toNat
theorem R7 {bs:List Nat}{a n:Nat}(h:∀ x ∈ bs,x<256):∀ i,∀ x ∈ Co bs a n i,x<256
 | 0,x,hx=>h x hx
 | i+1,x,hx=>by
  unfold Co at hx
  rcases List.mem_or_eq_of_mem_set hx with h1|rfl
  ·exact R7 h i x h1
  ·exact Nat.mod_lt _ (by decide)
theorem KN (F:List (Int×Int×Int)):∀ i,((BT F i).length=0∨(BT F i).length=128)∧∀ x ∈ BT F i,x<256
 | 0=>⟨.inl rfl,fun x hx=>by cases hx⟩
 | i+1=>by
  obtain ⟨h1,h2⟩:=KN F i
  unfold BT
  cases F[i]? with
  | none=>exact ⟨h1,h2⟩
  | some x=>exact ⟨.inr (by rw [LO];exact LT h1),R7 (Sv h2) _⟩
def Kd (F:List (Int×Int×Int)) (i:Nat):AV:=if i=0 then .nils else .fz 128 (some 128) (Ad (BT F i))
theorem Zmy {ev me dn:Int}{op:Bool}(hc:c.ok) (hM:c.may) (h:N8 c ev me lo dn):∀ x ∈ Et c ev me lo dn op,fdP x:=by
 have hid:=hc.id
 unfold Bn at hid
 have hmm:=(BC hM).1
 have hlog:=Hb hM
 unfold Cfg.may at hM
 obtain ⟨b1,b2,b3,b4,b5⟩:=h
 intro x hx
 unfold Et at hx
 simp only [Zqt,List.not_mem_nil,or_false] at hx
 unfold fdP Ab
 rcases hx with rfl|rfl|rfl|rfl|rfl|rfl|rfl|rfl|rfl|rfl|rfl
 all_goals dsimp only
 all_goals first
  | (refine ⟨by omega,by omega,by omega,by omega,?_⟩;show _<2^8;omega)
  | (refine ⟨by omega,by omega,by omega,by omega,?_⟩;show _<2^32;omega)
  | (by_cases hl:lo=-1
     ·rw [Zpn hl];refine ⟨by omega,by omega,by omega,by omega,?_⟩;show _<2^8;omega
     ·rw [Zpr hl];refine ⟨by omega,by omega,by omega,by omega,?_⟩;show _<2^8;omega)
  | (cases op
     ·rw [Zpr (by decide)];refine ⟨by omega,by omega,by omega,by omega,?_⟩;show _<2^8;omega
     ·rw [Zpn rfl];refine ⟨by omega,by omega,by omega,by omega,?_⟩;show _<2^8;omega)
def JZ (F:List (Int×Int×Int)):List AV:=F.flatMap fun x=>[.int .i64 x.1,.int .i64 x.2.1,.int .i64 x.2.2]
theorem Zl3 {F:List (Int×Int×Int)}(h:∀ x ∈ F,fdP x) (hn:F.length≤1000):Ls spC F (.fz F.length none (JZ F)):=by
 refine ⟨F.map fun x=>[.int .i64 x.1,.int .i64 x.2.1,.int .i64 x.2.2],?_,.inr (.inr ⟨none,by rw [← List.flatMap_def];rfl,?_⟩),by omega⟩
 ·refine EB (by simp) fun i x l h1 h2=>?_
  rw [Zqi,h1] at h2
  cases h2
  obtain ⟨q0,q1,q2,q3,q4⟩:=h x (Zp5 h1)
  exact ⟨[_],_,rfl,⟨rfl,Bf q0⟩,[_],_,rfl,⟨rfl,Bf (by unfold Ab;omega)⟩,rfl,Bf (by unfold Ab;omega)⟩
 ·rw [← List.flatMap_def]
  have:∀ F:List (Int×Int×Int),(JZ F).length=F.length*3:=fun F=>by
   unfold JZ
   induction F with
   | nil=>rfl
   | cons x F ih=>rw [List.flatMap_cons,Zpx,ih,Zqd];simp;omega
  exact this F
def Zo4:AC:=match Qa with|.mk c _=>c
theorem VH:∀ {bs:List Nat}{s:Nat},(∀ b ∈ bs,b<256)->s<4294967296->HC bs s<4294967296
 | [],s,_,h=>h
 | b::bs,s,hb,h=>by
  show HC bs (OH s b)<_
  refine VH (fun x hx=>hb x (by simp [hx])) (Mu (Mu (Zq9 (n:=32) h ?_)))
  have:=hb b (by simp);omega
def JL (bs:List Nat):Nat:=HC bs 4294967295 ^^^ 4294967295
def Kc (F:List (Int×Int×Int)):List Nat:=Co (Ah (BT F F.length)) 124 (JL ((BT F F.length).take 124)) 4
theorem XM (F:List (Int×Int×Int)):(Kc F).length=128∧∀ x ∈ Kc F,x<256:=by
 obtain ⟨h1,h2⟩:=KN F F.length
 exact ⟨by unfold Kc;rw [LO];exact LT h1,R7 (Sv h2) _⟩
def Tv (args:List AV) (u:AV):Prop:=∃ c ev me lo dn op,args=[.agg (Fu c ev me lo dn op)]∧c.ok∧c.may∧N8 c ev me lo dn∧u=.tup [.fz 128 (some 128) (Ad (Kc (Et c ev me lo dn op))),.int .i64 0]
theorem Zmw (hE:EM P e) (h204:Con e 204 (Ao lbR)) (h205:Con e 205 (Ao Tw)) (h206:Con e 206 Nj) (h207:Inl e 207 Zo4 [.tmp 2]) (h219:Con e 219 MN):OvOk P 181 (Ao Tv):=by
 refine CX g181.b ?_
 rintro args u ⟨c,ev,me,lo,dn,op,rfl,hc,hM,hP,rfl⟩
 refine ⟨rfl,rfl,C.of_G hE g181 ?_⟩
 have hck:∀ (Q:AV->St->Prop) s,Q (.int .i64 0) s->ESc e 204 [.agg (Fu c ev me lo dn op)] s Q:=fun Q s q=>ESc.rel h204 ⟨_,c,ev,me,lo,dn,op,rfl,hc,hM,hP,rfl⟩ (by rintro u ⟨_,_,_,_,_,_,-,-,-,-,rfl⟩;exact q)
 have hfd:∀ (Q:AV->St->Prop) s,Q (.fz (Et c ev me lo dn op).length none (JZ (Et c ev me lo dn op))) s->ESc e 205 [.agg (Fu c ev me lo dn op)] s Q:=fun Q s q=>ESc.rel h205 ⟨_,c,ev,me,lo,dn,op,rfl,hc,hM,hP,rfl⟩ (by
  rintro u ⟨c',ev',me',lo',dn',op',e1,-,-,-,rfl⟩
  unfold Fu at e1
  injection e1 with e1
  injection e1 with e1
  simp only [List.cons.injEq,AV.int.injEq,AV.bool.injEq,true_and,and_true] at e1
  obtain ⟨q1,rfl,q3,q4,q5,q6,rfl,rfl,rfl,rfl⟩:=e1
  have:Nr c' ev me lo dn op=JZ (Et c ev me lo dn op):=by
   unfold Nr JZ Et
   rw [q1,q3,q4,q5,q6]
  rw [this];exact q)
 have hF:=Zmy (op:=op) hc hM hP
 have hlen:(Et c ev me lo dn op).length=11:=rfl
 have hLs:=Zl3 hF (by omega)
 have hfin:=XM (Et c ev me lo dn op)
 unfold Kc at hfin ⊢
 generalize Et c ev me lo dn op=F at *
 obtain ⟨cs,hs',hl',hn⟩:=hLs.nth
 have huf:=hLs.hf
 generalize AV.fz F.length none (JZ F)=u at *
 change VW P e 0 _ (An [.agg (Fu c ev me lo dn op)] 0 .lf) St0 none [] _
 have hlb:Fu c ev me lo dn op=[.int .u32 c.id,.int .u32 ev,.int .i64 c.members,.int .i64 c.chunk,.int .i64 c.rows,.int .i64 c.log,.int .i64 me,.int .i64 lo,.int .i64 dn,.bool op]:=rfl
 rw [hlb] at hck hfd ⊢
 conv=>whnf
 repeat' (first|((first|refine hck _ _ ?_|refine hfd _ _ ?_|refine AD rfl hs' ?_);conv=>whnf)|refine Al ?_ ?_|(intro _;first|omega|conv=>whnf))
 refine Aw hE F.length (fun i=>[(2,Kd F i),(13,u),(14,.int .i64 (F.length:Int)),(15,.int .i64 (i:Int))]) (fun _=>[]) (fun _=>True) trivial (Abs.tells (rs:=[]) .a) ?_
 intro i hi _
 have hUf:∀ i,AM.hf (Kd F i)=true:=fun i=>by unfold Kd;split <;> rfl
 have h128:∀ i,i<F.length->(BT F (i+1)).length=128:=fun i hi=>by
  unfold BT
  rw [Zpj hi]
  show (Co _ _ _ _).length=128
  rw [LO];exact LT (KN F i).1
 have hU:∀ i,i≤F.length->BAt (Kd F i) (BT F i):=fun i hi=>by
  cases i with
  | zero=>exact ⟨.inl ⟨rfl,rfl,rfl⟩,fun x hx=>by cases hx⟩
  | succ i=>
   have:=h128 i hi
   refine ⟨.inr (.inr ⟨some 128,?_,by rw [B2];exact (Zqm _).symm⟩),(KN F (i+1)).2⟩
   show AV.fz 128 (some 128) (Ad (BT F (i+1)))=_
   rw [this]
 have hUi:=hU i hi
 by_cases hlt:i<F.length
 ·obtain ⟨⟨n,a,z⟩,_,r,hx,⟨_,_,rfl,⟨rfl,-⟩,_,_,rfl,⟨rfl,-⟩,rfl,-⟩,hd⟩:=hn i hlt
  have hp:=Znb (hF _ (Zp5 hx))
  have hUs:Kd F (i+1)=.fz 128 (some 128) (Ad (Co (Ah (BT F i)) a.toNat n.toNat z.toNat)):=by
   show AV.fz 128 (some 128) (Ad (BT F (i+1)))=_
   rw [show BT F (i+1)=Co (Ah (BT F i)) a.toNat n.toNat z.toNat from by
    show (match F[i]? with|none=>BT F i|some x=>Co (Ah (BT F i)) x.2.1.toNat x.1.toNat x.2.2.toNat)=_
    rw [hx]]
  have hpt:=fun s=>We (s:=s) hUi (KN F i).1 hp
  rw [hUs]
  generalize Ad (Co (Ah (BT F i)) a.toNat n.toNat z.toNat)=B at *
  have hbf:=hUf i
  generalize Kd F i=b at *
  conv=>whnf
  repeat' (first|((first|refine Ar hs' hlt hd ?_|refine A8 (cs:=[.int .i64 n,.int .i64 a,.int .i64 z]) rfl ?_|refine ESc.ov h206 (hpt _) ?_|refine Ac ?_|refine ⟨rfl,?_⟩);conv=>whnf)|refine Aa ?_ ?_|refine Al ?_ ?_|(intro _;first|omega|conv=>whnf))
  exact ⟨hlt,trivial,Abs.tells (rs:=[]) .a⟩
 ·obtain rfl:i=F.length:=by omega
  have h11:=h128 10 (by omega)
  rw [show (10:Nat)+1=F.length by omega] at h11
  obtain ⟨w1,w2⟩:=KN F F.length
  have hbL:=hUi.ls (by omega)
  have htk:∀ x ∈ (BT F F.length).take 124,x<256:=fun x hx=>w2 x (Zqq hx)
  have hsm:JL ((BT F F.length).take 124)<4294967296:=Zq9 (n:=32) (VH htk (by decide)) (by decide)
  have hov:∀ (v:AV) (s:St),Ls Ce.u8 ((BT F F.length).take 124) v->MN [.int .u32 0,v] s=.ok (.int .u32 ((JL ((BT F F.length).take 124):Nat):Int)) s:=fun v s hv=>by
   show (gd (Nat.blt 0 4294967296) (Option.rec .fail (fun bs=>gd (Nat.blt (A7 bs) 1000000) (.ok (.int .u32 (.ofNat (Nat.xor (HC bs (Nat.xor 0 4294967295)) 4294967295))) s)) (I1 s v)):RV)=_
   rw [W9 hv.b]
   show gd true (gd (Nat.blt (A7 ((BT F F.length).take 124)) 1000000) _)=_
   rw [CY,Zp9,h11];rfl
  have hpt:=fun s=>We (s:=s) (a:=124) (z:=4) (n:=((JL ((BT F F.length).take 124):Nat):Int)) hUi w1 (by
   unfold F9 Lj
   rw [Zpo (by omega),Zpo ⟨Zq2 _,Nat.div_eq_of_lt (by rw [Int.toNat_natCast];exact hsm)⟩];rfl)
  rw [Int.toNat_natCast] at hpt
  have hfr:∀ (s:St),Frz s (.tup [.fz 128 (some 128) (Ad (Co (Ah (BT F F.length)) 124 (JL ((BT F F.length).take 124)) 4)),.int .i64 0]) (.tup [.fz 128 (some 128) (Ad (Co (Ah (BT F F.length)) 124 (JL ((BT F F.length).take 124)) 4)),.int .i64 0]):=fun s=>.plain _ rfl
  have h124:(124:Nat)≤(BT F F.length).length:=by omega
  have hbf:=hUf F.length
  generalize Kd F F.length=b at *
  generalize JL ((BT F F.length).take 124)=S at *
  conv=>whnf
  refine Bl rfl rfl (fun h=>?_) (fun h=>?_)
  ·exfalso;omega
  conv=>whnf
  repeat' (first|((first|refine NU (i:=124) rfl hbL rfl rfl h124 (fun v hv=>?_)|refine ESc.inl h207 ?_|refine ESc.ov h219 (hov _ _ hv) ?_|refine ESc.ov h206 (hpt _) ?_|refine Cp ?_);conv=>whnf)|fail)
  exact hfr _
def GU (c:Cfg) (o:Lo) (op:Bool) (i:Nat):List Nat:=Kc (Et c (o.1+1) (i:Int) o.2.1 o.2.2.2.2.1 op)
def EV (c:Cfg) (o:Lo) (op:Bool) (n:Nat):List AV:=(List.range n).flatMap fun (i:Nat)=>[AV.int .i64 (i:Int),.int .u8 2,.int .i64 0,.fz 128 (some 128) (Ad (GU c o op i))]
theorem Vy (c:Cfg) (o:Lo) (op:Bool) (m:Nat):EV c o op (m+1)=EV c o op m++[.int .i64 (m:Int),.int .u8 2,.int .i64 0,.fz 128 (some 128) (Ad (GU c o op m))]:=by unfold EV;rw [List.range_succ,List.flatMap_append];rfl
theorem RK (c:Cfg) (o:Lo) (op:Bool) (m:Nat):hfs (EV c o op m)=true:=hfs_iff.2 fun v hv=>by
 obtain ⟨s,_,hv⟩:=List.mem_flatMap.1 hv
 simp only [Zqt,List.not_mem_nil,or_false] at hv
 rcases hv with rfl|rfl|rfl|rfl <;> rfl
theorem Wr (c:Cfg) (o:Lo) (op:Bool) (m:Nat):(EV c o op m).length=m*4:=by
 induction m with
 | zero=>rfl
 | succ m ih=>rw [Vy,Zpx,ih];simp;omega
def D8:Lo->Lo
 | (ev,r)=>(ev+1,r)
def GQ (c:Cfg) (o:Lo) (op:Bool):AV:=if o.1=2147483648 then .tup [.agg [.int .u32 0,.int .i64 0,.bool false,.int .i64 0,.int .i64 0,.bool false,.bool false],.nils,.int .i64 9] else .tup [.agg (Es (D8 o)),.fz c.members.toNat none (EV c o op c.members.toNat),.int .i64 0]
noncomputable def lbsF:Fn (Cfg×Lo×Bool×Unit):=⟨.g cfgC (.g loC (.v Ce.bool .nil)),fun x=>x.1.may∧Br x.1 x.2.1∧x.2.1.2.2.2.2.2.2=false∧(x.2.1.2.2.1=true∨x.2.1.2.1=-1),fun x=>GQ x.1 x.2.1 x.2.2.1⟩
theorem Zit (hE:EM P e) (h39:Con e 39 lossF.O) (h181:Con e 181 (Ao Tv)):OvOk P 137 lbsF.O:=by
 refine B3 g137.b ?_
 rintro ⟨c,⟨ev,lo,sp,po,dn,nl,br⟩,op,_⟩ _ ⟨_,_,rfl,⟨rfl,hc⟩,_,_,rfl,hlo,_,_,rfl,e1,rfl⟩ ⟨hM,hL,hbr,hsp⟩
 cases e1
 have hhf:AM.hf (lbsF.out (c,(ev,lo,sp,po,dn,nl,br),op,()))=true:=by
  show AM.hf (GQ c (ev,lo,sp,po,dn,nl,br) op)=true
  unfold GQ;split <;> rfl
 refine ⟨hhf,C.of_G hE g137 ?_⟩
 have hck:=fun (Q:AV->St->Prop) s a=>@cF.u _ _ _ _ e 39 s Q _ h39 (c,(ev,lo,sp,po,dn,nl,br),()) ⟨_,_,rfl,⟨rfl,hc⟩,_,_,rfl,hlo,rfl⟩ trivial (fun _=>a) (fun q=>absurd (And.intro hM hL) q)
 obtain ⟨rfl,h1,h2,h3,h4⟩:=GE hlo
 dsimp only at hM hL hc hsp hbr hck
 subst hbr
 have hM':=hM
 unfold Cfg.may at hM'
 have hL':=hL
 unfold Br at hL'
 have hx:lo=-1->dn=0:=fun h=>by
  rcases hsp with h'|h'
  ·have:=(hL'.2.2.2.1 h').1;omega
  ·cases sp with
   | true=>have:=(hL'.2.2.2.1 rfl).1;omega
   | false=>exact (hL'.2.2.2.2 rfl).2
 have hdn:0≤dn∧dn≤At c:=by
  have:=(BC hM).1
  cases sp with
  | true=>have:=hL'.2.2.2.1 rfl;omega
  | false=>have:=(hL'.2.2.2.2 rfl).2;omega
 unfold Bn at h1
 have fin9:ev=2147483648->∀ st,Frz st (.tup [.agg [.int .u32 0,.int .i64 0,.bool false,.int .i64 0,.int .i64 0,.bool false,.bool false],.nils,.int .i64 9]) (lbsF.out (c,(ev,lo,sp,po,dn,nl,false),op,())):=fun h st=>by
  show Frz st _ (GQ c (ev,lo,sp,po,dn,nl,false) op)
  unfold GQ;rw [Zpn h];exact .plain _ rfl
 have fin0:ev≠2147483648->∀ st r,st.get r=some (.row 79 (EV c (ev,lo,sp,po,dn,nl,false) op c.members.toNat))->Frz st (.tup [.agg [.int .u32 (ev+1),.int .i64 lo,.bool sp,.int .i64 po,.int .i64 dn,.bool nl,.bool false],.sl r 0 c.members.toNat none,.int .i64 0]) (lbsF.out (c,(ev,lo,sp,po,dn,nl,false),op,())):=fun h st r hg=>by
  show Frz st _ (GQ c (ev,lo,sp,po,dn,nl,false) op)
  unfold GQ;rw [Zpr h]
  exact .tup _ _ (.cons (.plain _ rfl) (.cons (.sl r 0 _ _ _ 79 _ _ _ hg (fun i x hx=>by rw [Zpy];exact hx) (Ck (RK _ _ _ _)) (.inl rfl)) (.cons (.plain _ rfl) .nil)))
 have hlw:ev≠2147483648->∀ i:Nat,(i:Int)<c.members->∀ (Q:AV->St->Prop) s,Q (.tup [.fz 128 (some 128) (Ad (GU c (ev,lo,sp,po,dn,nl,false) op i)),.int .i64 0]) s->ESc e 181 [.agg [.int .u32 c.id,.int .u32 (ev+1),.int .i64 c.members,.int .i64 c.chunk,.int .i64 c.rows,.int .i64 c.log,.int .i64 (i:Int),.int .i64 lo,.int .i64 dn,.bool op]] s Q:=fun hev i hi Q s q=>by
  have hP:N8 c (ev+1) (i:Int) lo dn:=⟨by omega,by omega,⟨hL'.2.1,hL'.2.2.1⟩,hdn,hx⟩
  refine ESc.rel h181 ⟨_,c,ev+1,(i:Int),lo,dn,op,rfl,hc,hM,hP,rfl⟩ ?_
  rintro u ⟨c',ev',me',lo',dn',op',e1,-,-,-,hu⟩
  have e3:Et c' ev' me' lo' dn' op'=Et c (ev+1) (i:Int) lo dn op:=by
   have e1:=(Zpv e1).1
   injection e1 with e1
   unfold Fu at e1
   simp only [List.cons.injEq,AV.int.injEq,AV.bool.injEq,true_and,and_true] at e1
   obtain ⟨q1,q2,q3,q4,q5,q6,q7,q8,q9,q10⟩:=e1
   unfold Et
   rw [q1,q2,q3,q4,q5,q6,q7,q8,q9,q10]
  have e2:Kc (Et c (ev+1) (i:Int) lo dn op)=GU c (ev,lo,sp,po,dn,nl,false) op i:=by unfold GU;rfl
  rw [hu,e3,e2];exact q
 generalize lbsF.out _=O at *
 change VW P e 0 _ (An [.agg c.c,.agg _,.bool op] 0 .lf) St0 none [] _
 by_cases hev:ev=2147483648
 ·subst hev
  conv=>whnf
  repeat' (first|(refine hck _ _ ?_;conv=>whnf)|refine Ap ?_ ?_|refine Al ?_ ?_|(intro _;first|omega|conv=>whnf))
  exact fin9 rfl _
 ·have hw:=hlw hev
  have f0:=fin0 hev
  have hm0:∃ M:Nat,c.members=M∧c.members.toNat=M∧M≤16∧3≤M:=⟨c.members.toNat,by omega,rfl,by omega,by omega⟩
  obtain ⟨M,m1,m2,m3,m4⟩:=hm0
  conv=>whnf
  repeat' (first|((first|refine hck _ _ ?_|refine CS ?_);conv=>whnf)|refine Ap ?_ ?_|refine Al ?_ ?_|(intro _;first|omega|conv=>whnf))
  clear fin9 fin0 hlw
  rw [show (ev+1) % 4294967296=ev+1 by omega]
  refine Aw hE M (fun i=>[(2,.bool op),(3,.ptr 0 0),(4,.ptr 1 0),(6,.ptr 2 0),(10,N6 i 3),(36,.int .i64 c.members),(37,.int .i64 (i:Int))]) (fun i=>match i with
   | 0=>[.row 24 c.c,.row 26 [.int .u32 (ev+1),.int .i64 lo,.bool sp,.int .i64 po,.int .i64 dn,.bool nl,.bool false],.row 26 [.int .u32 0,.int .i64 0,.bool false,.int .i64 0,.int .i64 0,.bool false,.bool false]]
   | i+1=>[.row 24 c.c,.row 26 [.int .u32 (ev+1),.int .i64 lo,.bool sp,.int .i64 po,.int .i64 dn,.bool nl,.bool false],.row 26 [.int .u32 0,.int .i64 0,.bool false,.int .i64 0,.int .i64 0,.bool false,.bool false],.row 79 (EV c (ev,lo,sp,po,dn,nl,false) op (i+1))]) (fun _=>True) trivial (Abs.tells (rs:=[0,1,2]) .a) ?_
  intro i hi _
  by_cases hlt:i<M
  ·have hwi:=hw i (by omega)
   have hfi:=RK c (ev,lo,sp,po,dn,nl,false) op (i+1)
   have hst:=Vy c (ev,lo,sp,po,dn,nl,false) op i
   have hli:=Wr c (ev,lo,sp,po,dn,nl,false) op i
   have hsl:lo=(i:Int)->sp=true:=fun h=>hsp.elim id fun h'=>by omega
   generalize Ad (GU c (ev,lo,sp,po,dn,nl,false) op i)=B at *
   rcases i with _|i
   ·cases sp
    all_goals
     conv=>whnf
     repeat' (first|((first|refine hwi _ _ ?_|refine CO (m:=1) ?_|refine Ac ?_|refine Au ?_|refine Av ?_|refine ⟨rfl,?_⟩);conv=>whnf)|refine Aa ?_ ?_|refine Ap ?_ ?_|refine Al ?_ ?_|(intro _;first|omega|conv=>whnf))
     all_goals first
      | exact ⟨hlt,trivial,Abs.tells (rs:=[0,1,2,4]) ⟨by decide,⟨r9,r9,r9,r9,r9,r9,r9,trivial⟩,⟨r9,r9,r9,⟨Bj hfi,by rw [AU hfi,hst];rfl⟩,trivial⟩⟩⟩
      | exact absurd (hsl (by omega)) Bool.false_ne_true
   ·cases sp
    all_goals
     conv=>whnf
     repeat' (first|((first|refine hwi _ _ ?_|refine C6 (m:=1) (n:=i+1) (old:=EV c (ev,lo,_,po,dn,nl,false) op (i+1)) rfl rfl rfl rfl hli rfl (by decide) (by omega) ?_|refine Ac ?_|refine Au ?_|refine Av ?_|refine ⟨rfl,?_⟩);conv=>whnf)|refine Aa ?_ ?_|refine Ap ?_ ?_|refine Al ?_ ?_|(intro _;first|omega|conv=>whnf))
     all_goals first
      | exact ⟨hlt,trivial,Abs.tells (rs:=[0,1,2,5]) ⟨by decide,⟨r9,r9,r9,r9,r9,r9,r9,trivial⟩,⟨r9,r9,r9,⟨Bj hfi,by rw [AU hfi,hst];rfl⟩,trivial⟩⟩⟩
      | exact absurd (hsl (by omega)) Bool.false_ne_true
  ·obtain rfl:i=M:=by omega
   obtain ⟨N,rfl⟩:∃ N,i=N+1:=⟨i-1,by omega⟩
   rw [m2] at f0
   conv=>whnf
   repeat' (first|refine Aa ?_ ?_|(intro _;first|omega|conv=>whnf))
   exact f0 _ 3 rfl
theorem Xe (hM:c.may) (h:Br c o) (hsp:o.2.2.1=true) (hd:o.2.2.2.2.1<o.2.2.2.1) (hev:(Bx c o).1≠2147483648):Br c (D8 (Bx c o))∧(D8 (Bx c o)).2.2.2.2.2=o.2.2.2.2.2∧(∀ s:Int,0≤s->s<At c->CU (D8 (Bx c o)) s=CU o s)∧((Bx c o).2.2.1=true∨(Bx c o).2.1=-1):=by
 obtain ⟨ev,lo,sp,po,dn,nl,br⟩:=o
 dsimp only at hsp hd
 subst hsp
 have hL2:=h.2.2.2.1 rfl
 unfold Bx at hev ⊢
 dsimp only at hev ⊢
 by_cases hq:po=At c
 ·rw [Zpn hq] at hev ⊢
  have hev:ev≠2147483648:=hev
  refine ⟨⟨?_,by decide,by unfold Cfg.may at hM;omega,fun h=>(by cases h),fun _=>⟨rfl,rfl⟩⟩,rfl,fun s h0 h1=>?_,.inr rfl⟩
  ·have:=h.1
   omega
  ·show (if false=true∧s<0 then (-1:Int) else -1)=if true=true∧s<po then -1 else lo
   rw [Zpr (by simp),Zpn ⟨rfl,by omega⟩]
 ·rw [Zpr hq] at hev ⊢
  have hev:ev≠2147483648:=hev
  refine ⟨⟨?_,h.2.1,h.2.2.1,fun _=>⟨hL2.1,by omega,by omega,hL2.2.2.2⟩,fun h=>(by cases h)⟩,rfl,fun s h0 h1=>rfl,.inl rfl⟩
  have:=h.1
  omega
theorem Zcd {x y:AO}{s:St}{k:AV->St->Prop}{el es r m c:Nat}{c0:AV}{old:List AV}(hx:ev x t=.some (.sl r 0 n (some c))) (hy:ev y t=.some v) (hv:Dd es v s=some (c0::cs)) (hr:s.get r=some (.row el old)) (ho:old.length=n*es) (hm':(c0::cs).length=m*es) (he:0<es) (hc:c<n+m) (h1:n+m≤1000000)
 (hk:k (.sl s.next 0 (n+m) none) (s.alloc (.row el (old++(c0::cs))))):EPrim (.app el es x y) t s k:=by
 have hm:(c0::cs).length / es=m:=by rw [hm'];exact Nat.mul_div_cancel m he
 refine EPrim.mk (fun e rec=>?_) hk
 show wth x t _=_;unfold wth;rw [hx]
 show wth y t _=_;unfold wth;rw [hy]
 show (Option.rec .fail _ (Dd es v s):RV)=_
 rw [hv]
 show AM.app1 el es (c0::cs) (Nat.div (A7 (c0::cs)) es) r 0 n (some c) s=_
 unfold AM.app1
 rw [CY,show Nat.div (c0::cs).length es=m from hm,G8 hr (by show 0+n*es≤_;omega)]
 have e1:List.take (Nat.mul n es) (List.drop 0 old)=old:=by rw [List.drop_zero];exact Zps (by show _≤n*es;omega)
 rw [e1]
 show (Bool.rec (C2 el (n+m) (Be old (c0::cs)) s) _ (Nat.ble (n+m) c):RV)=_
 rw [show Nat.ble (n+m) c=false by rw [← Zrj];intro e;have:=Zp7 e;omega]
 show gd (Nat.ble (n+m) 1000000) _=_
 rw [Zqa h1,Da];rfl
def EU (o:Lo) (l:List AV):List AV:=l.take 7++(Es o++l.drop 14)
theorem M8 (h:dvC.r d l) (ho:loC.r o (Es o)):dvC.r (Bu d o) (EU o l):=by
 obtain ⟨c,bk,⟨ev,lo,sp,po,dn,nl,br⟩,R⟩:=d
 obtain ⟨_,_,rfl,⟨rfl,h1⟩,_,_,rfl,rfl,ol,r,rfl,h3,h4⟩:=h
 obtain ⟨rfl,-⟩:=GE h3
 exact ⟨c.c,_,rfl,⟨rfl,h1⟩,[_],_,rfl,rfl,Es o,r,rfl,ho,h4⟩
theorem Sz (h1:Bn o.1) (h2:Ab o.2.1) (h3:Ab o.2.2.2.1) (h4:Ab o.2.2.2.2.1):loC.r o (Es o):=by
 obtain ⟨ev,lo,sp,po,dn,nl,br⟩:=o
 exact HB h1 h2 h3 h4
def Gr:List AV:=[.int .u32 0,.int .i64 0,.int .i64 0,.int .i64 0,.int .i64 0,.int .i64 0,.bool false,.int .u32 0,.int .i64 0,.bool false,.int .i64 0,.int .i64 0,.bool false,.bool false,.nils,.int .u32 0,.int .u32 0,.int .i64 0,.int .i64 0,.nils,.nils,.int .i64 0,.bool false]
def MP (d:Dv) (D:List Dk):Prop:=(d.1.may∧C3 d.1 D∧(∀ x ∈ D,BG x)∧∀ i<d.1.members.toNat,Bd D i=false)∧Br d.1 d.2.2.1∧d.2.2.1.2.2.1=true∧d.2.2.1.2.2.2.1<At d.1∧Kf d
def GN (d:Dv) (D:List Dk):List Nat:=AY (Bk D (d.2.2.1.2.2.2.1+1) d.2.2.1.2.1.toNat d.1.members.toNat)
def Nq (d:Dv) (D:List Dk):List AV:=[.int .i64 d.2.2.1.2.1,.int .u8 1,.int .i64 (d.2.2.1.2.2.2.1+1),Az (GN d D)]
def PA (args:List AV) (u:AV):Prop:=∃ d l D v,args=[.agg (l++[v]),.int .i64 d.2.2.1.2.2.2.1]∧dvC.r d l∧Ls dkC D v∧MP d D∧u=.tup [.agg (EU (E7 d.2.2.1) (Ej l)),.fz 1 none (Nq d D),.int .i64 0]
theorem Zmo (hE:EM P e) (h65:Con e 65 (Ao Nm)) (h133:Con e 133 sltF.O) (h134:Con e 134 ftbF.O) (h135:Con e 135 goF.O):OvOk P 81 (Ao PA):=by
 refine CX g81.b ?_
 rintro args u ⟨d,l,D,v,rfl,hd,hD,⟨⟨hM,h20,hsm,hal⟩,hL,hsp,hpo,hS⟩,hu⟩
 have hvf:=hD.hf
 have hrow:=dvC.hf hd
 have hT:=MY hd
 have hmt:=Xc h65 hd hS
 obtain ⟨c,bk,⟨ev,lo,sp,po,dn,nl,br⟩,hs,⟨ag,sq,tl,us,L⟩,fs,nx,so⟩:=d
 dsimp only at hM h20 hal hL hsp hpo
 subst hsp
 have hL':=hL
 unfold Br at hL'
 have hL2:=hL'.2.2.2.1 rfl
 obtain ⟨hv,lv,fv,rfl,⟨ho,o1,o2,o3,o4,o5,o6,o7,o8,oN⟩,hH,hLL,hF⟩:=B1 hd
 have hlr:loC.r (ev,lo,true,po,dn,nl,br) [.int .u32 ev,.int .i64 lo,.bool true,.int .i64 po,.int .i64 dn,.bool nl,.bool br]:=HB o1 o2 o3 o4
 have hmm:=BC hM
 have hM':=hM
 unfold Cfg.may at hM'
 have hpo1:Ab (po+1):=by unfold At at hpo;unfold Ab;omega
 have hGr:loC.r (ev,lo,true,po+1,dn,nl,br) (Es (E7 (ev,lo,true,po,dn,nl,br))):=HB o1 o2 hpo1 o4
 have hlr2:=M8 hT hGr
 have hrow2:=dvC.hf hlr2
 have hlos:0≤lo∧lo<c.members:=⟨hL2.1,hL'.2.2.1⟩
 have hp0:0≤po∧po<At c:=⟨by omega,hpo⟩
 obtain ⟨son,s0,s1⟩:=Zmh (c:=c) (s:=po) hlos
 have hsl:Ab (Gw c po lo):=by unfold Ab;omega
 have hslt:∀ (Q:AV->St->Prop) s,Q (.tup [.int .i64 (Gw c po lo),.int .i64 0]) s->ESc e 133 [.agg c.c,.int .i64 po,.int .i64 lo] s Q:=fun Q s q=>Fn.u (F:=sltF) h133 (c,po,lo,()) ⟨_,_,rfl,⟨rfl,ho⟩,_,_,rfl,⟨rfl,Bf o3⟩,_,_,rfl,⟨rfl,Bf o2⟩,rfl⟩ ⟨hM,hp0,hlos⟩ q
 have hblk:∀ (Q:AV->St->Prop) s,Q (.tup [Az (GN (c,bk,(ev,lo,true,po,dn,nl,br),hs,(ag,sq,tl,us,L),fs,nx,so) D),.int .i64 0]) s->ESc e 134 [.agg c.c,v,.int .i64 lo,.int .i64 po,.int .i64 (Gw c po lo)] s Q:=fun Q s q=>Fn.u (F:=ftbF) h134 (c,D,lo,po,Gw c po lo,()) ⟨_,_,rfl,⟨rfl,ho⟩,_,_,rfl,⟨_,rfl,hD⟩,_,_,rfl,⟨rfl,Bf o2⟩,_,_,rfl,⟨rfl,Bf o3⟩,_,_,rfl,⟨rfl,Bf hsl⟩,rfl⟩ ⟨⟨hM,h20,hsm,hal⟩,hp0,⟨s0,s1⟩,son.symm⟩ q
 have hgo:∀ (Q:AV->St->Prop) s,Q (.tup [.agg [.int .u32 ev,.int .i64 lo,.bool true,.int .i64 (po+1),.int .i64 dn,.bool nl,.bool br],.int .i64 0]) s->ESc e 135 [.agg c.c,.agg [.int .u32 ev,.int .i64 lo,.bool true,.int .i64 po,.int .i64 dn,.bool nl,.bool br]] s Q:=fun Q s q=>Fn.u (F:=goF) h135 (c,(ev,lo,true,po,dn,nl,br),()) ⟨_,_,rfl,⟨rfl,ho⟩,_,_,rfl,hlr,rfl⟩ ⟨hM,hL,rfl,hpo⟩ q
 have huf:AM.hf u=true:=by
  rw [hu]
  exact Bool.and_eq_true_iff.2 ⟨hrow2,rfl⟩
 refine ⟨?_,huf,C.of_G hE g81 ?_⟩
 ·have:hfs (c.c++[.bool bk,.int .u32 ev,.int .i64 lo,.bool true,.int .i64 po,.int .i64 dn,.bool nl,.bool br,hv,.int .u32 ag,.int .u32 sq,.int .i64 tl,.int .i64 us,lv,fv,.int .i64 nx,.bool so]++[v])=true:=EG hrow (by show (AM.hf v && true)=true;rw [hvf];rfl)
  show (hfs _ && (true && true))=true
  rw [this];rfl
 have fin:∀ st r cp,st.get r=some (.row 79 [.int .i64 lo,.int .u8 1,.int .i64 (po+1),Az (GN (c,bk,(ev,lo,true,po,dn,nl,br),hs,(ag,sq,tl,us,L),fs,nx,so) D)])->Frz st (.tup [.agg (EU (E7 (ev,lo,true,po,dn,nl,br)) (Ej (c.c++[.bool bk,.int .u32 ev,.int .i64 lo,.bool true,.int .i64 po,.int .i64 dn,.bool nl,.bool br,hv,.int .u32 ag,.int .u32 sq,.int .i64 tl,.int .i64 us,lv,fv,.int .i64 nx,.bool so]))),.sl r 0 1 cp,.int .i64 0]) u:=fun st r cp hg=>by
  rw [hu]
  exact .tup _ _ (.cons (.plain _ hrow2) (.cons (.sl r 0 _ _ _ 79 _ _ _ hg (fun i x hx=>by rw [Zpy];exact hx) (Ck rfl) (.inl rfl)) (.cons (.plain _ rfl) .nil)))
 generalize GN _ D=X at *
 clear hu hlr2 hGr
 change VW P e 0 _ (An [.agg (c.c++[.bool bk,.int .u32 ev,.int .i64 lo,.bool true,.int .i64 po,.int .i64 dn,.bool nl,.bool br,hv,.int .u32 ag,.int .u32 sq,.int .i64 tl,.int .i64 us,lv,fv,.int .i64 nx,.bool so,v]),.int .i64 po] 0 .lf) St0 none [] _
 conv=>whnf
 repeat' (first|((first|refine hmt _ _ ?_|refine hslt _ _ ?_|refine hblk _ _ ?_|refine hgo _ _ ?_|refine Ac ?_);conv=>whnf)|refine Al ?_ ?_|(intro _;first|omega|conv=>whnf))
 exact fin _ _ _ rfl
theorem OZ (hM:c.may) (h:Br c o) (hsp:o.2.2.1=true) (hd:o.2.2.2.2.1<o.2.2.2.1):Br c (Bx c o)∧((Bx c o).2.2.1=true∨(Bx c o).2.1=-1)∧(Bx c o).1=o.1∧(Bx c o).2.2.2.2.2=o.2.2.2.2.2∧(Ab o.2.1->Ab o.2.2.2.1->Ab (Bx c o).2.1∧Ab (Bx c o).2.2.2.1∧Ab (Bx c o).2.2.2.2.1):=by
 obtain ⟨ev,lo,sp,po,dn,nl,br⟩:=o
 dsimp only at hsp hd
 subst hsp
 have hL2:=h.2.2.2.1 rfl
 unfold Bx
 dsimp only
 by_cases hq:po=At c
 ·rw [Zpn hq]
  exact ⟨⟨h.1,by decide,by unfold Cfg.may at hM;omega,fun h=>(by cases h),fun _=>⟨rfl,rfl⟩⟩,.inr rfl,rfl,rfl,fun _ _=>⟨by unfold Ab;dsimp only;omega,by unfold Ab;dsimp only;omega,by unfold Ab;dsimp only;omega⟩⟩
 ·rw [Zpr hq]
  exact ⟨⟨h.1,h.2.1,h.2.2.1,fun _=>⟨hL2.1,by omega,by omega,hL2.2.2.2⟩,fun h=>(by cases h)⟩,.inl rfl,rfl,rfl,fun a b=>⟨a,b,b⟩⟩
def MO (d:Dv):Prop:=d.1.may∧Br d.1 d.2.2.1∧d.2.2.1.2.2.1=true∧d.2.2.1.2.2.2.2.1<d.2.2.1.2.2.2.1∧d.2.2.1.2.2.2.2.2.2=false∧Kf d
def Nn (d:Dv):List AV:=[.int .i64 d.2.2.1.2.1,.int .u8 3,.int .i64 0,.nils]++EV d.1 (Bx d.1 d.2.2.1) true d.1.members.toNat
def P9 (args:List AV) (u:AV):Prop:=∃ d l v,args=[.agg (l++[v]),.int .i64 0]∧dvC.r d l∧AM.hf v=true∧cellsOf v=[v]∧MO d∧u=if d.2.2.1.1=2147483648 then .tup [.agg Gr,.nils,.int .i64 9] else .tup [.agg (EU (D8 (Bx d.1 d.2.2.1)) (Ej l)),.fz (1+d.1.members.toNat) none (Nn d),.int .i64 0]
theorem Zmn (hE:EM P e) (h65:Con e 65 (Ao Nm)) (h136:Con e 136 mkF.O) (h137:Con e 137 lbsF.O):OvOk P 82 (Ao P9):=by
 refine CX g82.b ?_
 rintro args u ⟨d,l,v,rfl,hd,hvf,hvc,⟨hM,hL,hsp,hdp,hbr,hS⟩,hu⟩
 have hrow:=dvC.hf hd
 have hT:=MY hd
 have hmt:=Xc h65 hd hS
 obtain ⟨k1,k2,k3,k4,k5⟩:=OZ hM hL hsp hdp
 obtain ⟨c,bk,⟨ev,lo,sp,po,dn,nl,br⟩,hs,⟨ag,sq,tl,us,L⟩,fs,nx,so⟩:=d
 dsimp only at hM hL hsp hdp hbr k1 k2 k3 k4 k5 hu
 subst hsp hbr
 have hL':=hL
 unfold Br at hL'
 have hL2:=hL'.2.2.2.1 rfl
 obtain ⟨hv,lv,fv,rfl,⟨ho,o1,o2,o3,o4,o5,o6,o7,o8,oN⟩,hH,hLL,hF⟩:=B1 hd
 have hlr:loC.r (ev,lo,true,po,dn,nl,false) [.int .u32 ev,.int .i64 lo,.bool true,.int .i64 po,.int .i64 dn,.bool nl,.bool false]:=HB o1 o2 o3 o4
 obtain ⟨b1,b2,b3⟩:=k5 o2 o3
 have hmk:∀ (Q:AV->St->Prop) s,Q (.tup [.agg (Es (Bx c (ev,lo,true,po,dn,nl,false))),.int .i64 0]) s->ESc e 136 [.agg c.c,.agg [.int .u32 ev,.int .i64 lo,.bool true,.int .i64 po,.int .i64 dn,.bool nl,.bool false]] s Q:=fun Q s q=>Fn.u (F:=mkF) h136 (c,(ev,lo,true,po,dn,nl,false),()) ⟨_,_,rfl,⟨rfl,ho⟩,_,_,rfl,hlr,rfl⟩ ⟨hM,hL,rfl,hdp⟩ q
 generalize hm:Bx c (ev,lo,true,po,dn,nl,false)=m at *
 have hmr:loC.r m (Es m):=Sz (by rw [k3];exact o1) b1 b2 b3
 have hbr2:m.2.2.2.2.2.2=false:=by rw [k4]
 have hev:m.1=ev:=k3
 have hlb0:∀ (Q:AV->St->Prop) s,Q (GQ c m true) s->ESc e 137 [.agg c.c,.agg (Es m),.bool true] s Q:=fun Q s q=>Fn.u (F:=lbsF) h137 (c,m,true,()) ⟨_,_,rfl,⟨rfl,ho⟩,_,_,rfl,hmr,_,_,rfl,rfl,rfl⟩ ⟨hM,k1,hbr2,k2⟩ q
 have hu0:u=if ev=2147483648 then .tup [.agg Gr,.nils,.int .i64 9] else .tup [.agg (EU (D8 m) (Ej (c.c++[.bool bk,.int .u32 ev,.int .i64 lo,.bool true,.int .i64 po,.int .i64 dn,.bool nl,.bool false,hv,.int .u32 ag,.int .u32 sq,.int .i64 tl,.int .i64 us,lv,fv,.int .i64 nx,.bool so]))),.fz (1+c.members.toNat) none ([.int .i64 lo,.int .u8 3,.int .i64 0,.nils]++EV c m true c.members.toNat),.int .i64 0]:=by rw [hu,← hm];rfl
 clear hu
 have hM':=hM
 unfold Cfg.may at hM'
 have hlen:=Wr c m true c.members.toNat
 have hlf:=RK c m true c.members.toNat
 obtain ⟨z,zs,hzs⟩:∃ z zs,EV c m true c.members.toNat=z::zs:=by
  cases hq:EV c m true c.members.toNat with
  | nil=>rw [hq] at hlen;have hlen:0=c.members.toNat*4:=hlen;omega
  | cons z zs=>exact ⟨z,zs,rfl⟩
 have huf:AM.hf u=true:=by
  rw [hu0]
  split
  ·rfl
  ·rename_i hne
   have hGr:loC.r (D8 m) (Es (D8 m)):=Sz (by obtain ⟨_,_⟩:=m;unfold Bn at o1 ⊢;show 0≤_+1∧_+1<_;have:=hL'.1;simp only at hev;omega) (by obtain ⟨_,_⟩:=m;exact b1) (by obtain ⟨_,_⟩:=m;exact b2) (by obtain ⟨_,_⟩:=m;exact b3)
   exact Bool.and_eq_true_iff.2 ⟨dvC.hf (M8 hT hGr),rfl⟩
 refine ⟨?_,huf,C.of_G hE g82 ?_⟩
 ·have:hfs (c.c++[.bool bk,.int .u32 ev,.int .i64 lo,.bool true,.int .i64 po,.int .i64 dn,.bool nl,.bool false,hv,.int .u32 ag,.int .u32 sq,.int .i64 tl,.int .i64 us,lv,fv,.int .i64 nx,.bool so]++[v])=true:=EG hrow (by show (AM.hf v && true)=true;rw [hvf];rfl)
  show (hfs _ && (true && true))=true
  rw [this];rfl
 rw [hzs] at hu0 hlen
 have hsrc:∀ s,Dd 4 (.fz c.members.toNat none (z::zs)) s=some (z::zs):=fun s=>I6 hlen s
 obtain ⟨ev',lo',sp',po',dn',nl',br'⟩:=m
 dsimp only at hev
 subst hev
 have hmm:0<c.members.toNat∧c.members.toNat≤16:=by omega
 by_cases hq:ev'=2147483648
 ·rw [Zpn hq] at hu0
  have hlb:∀ (Q:AV->St->Prop) s,Q (.tup [.agg [.int .u32 0,.int .i64 0,.bool false,.int .i64 0,.int .i64 0,.bool false,.bool false],.nils,.int .i64 9]) s->ESc e 137 [.agg c.c,.agg [.int .u32 ev',.int .i64 lo',.bool sp',.int .i64 po',.int .i64 dn',.bool nl',.bool br'],.bool true] s Q:=fun Q s q=>hlb0 Q s (by unfold GQ;rw [Zpn hq];exact q)
  have hfin:∀ st,Frz st (.tup [.agg Gr,.nils,.int .i64 9]) u:=fun st=>by rw [hu0];exact .plain _ rfl
  conv=>whnf
  repeat' (first|((first|refine hmt _ _ ?_|refine hmk _ _ ?_|refine hlb _ _ ?_);conv=>whnf)|refine Al ?_ ?_|(intro _;first|omega|conv=>whnf))
  exact hfin _
 ·rw [Zpr hq] at hu0
  have hlb:∀ (Q:AV->St->Prop) s,Q (.tup [.agg [.int .u32 (ev'+1),.int .i64 lo',.bool sp',.int .i64 po',.int .i64 dn',.bool nl',.bool br'],.fz c.members.toNat none (z::zs),.int .i64 0]) s->ESc e 137 [.agg c.c,.agg [.int .u32 ev',.int .i64 lo',.bool sp',.int .i64 po',.int .i64 dn',.bool nl',.bool br'],.bool true] s Q:=fun Q s q=>hlb0 Q s (by unfold GQ;rw [Zpr hq,hzs];exact q)
  have hrz:hfs ([.int .i64 lo,.int .u8 3,.int .i64 0,.nils]++z::zs)=true:=EG rfl (by rw [← hzs];exact hlf)
  have hfin:∀ st r,st.get r=some (.row 79 ([.int .i64 lo,.int .u8 3,.int .i64 0,.nils]++z::zs))->Frz st (.tup [.agg (EU (D8 (ev',lo',sp',po',dn',nl',br')) (Ej (c.c++[.bool bk,.int .u32 ev',.int .i64 lo,.bool true,.int .i64 po,.int .i64 dn,.bool nl,.bool false,hv,.int .u32 ag,.int .u32 sq,.int .i64 tl,.int .i64 us,lv,fv,.int .i64 nx,.bool so]))),.sl r 0 (1+c.members.toNat) none,.int .i64 0]) u:=fun st r hg=>by
   rw [hu0]
   rw [hu0] at huf
   have hrow2:hfs (EU (D8 (ev',lo',sp',po',dn',nl',br')) (Ej (c.c++[.bool bk,.int .u32 ev',.int .i64 lo,.bool true,.int .i64 po,.int .i64 dn,.bool nl,.bool false,hv,.int .u32 ag,.int .u32 sq,.int .i64 tl,.int .i64 us,lv,fv,.int .i64 nx,.bool so])))=true:=(Bool.and_eq_true_iff.1 huf).1
   exact .tup _ _ (.cons (.plain _ hrow2) (.cons (.sl r 0 _ _ _ 79 _ _ _ hg (fun i x hx=>by rw [Zpy];exact hx) (Ck hrz) (.inl rfl)) (.cons (.plain _ rfl) .nil)))
  conv=>whnf
  repeat' (first|((first|refine hmt _ _ ?_|refine hmk _ _ ?_|refine hlb _ _ ?_|refine Zcd (n:=1) (m:=c.members.toNat) rfl rfl (hsrc _) rfl rfl hlen (by decide) (by omega) (by omega) ?_|refine ⟨rfl,?_⟩);conv=>whnf)|refine Al ?_ ?_|(intro _;first|omega|conv=>whnf))
  exact hfin _ _ rfl
def IZ (l:List AV) (v:AV) (po:Int):List AV:=[.int .u8 8,.int .i64 0,.int .i64 0,.int .i64 po,.fn 81 [.agg (l++[v])] []]
def Ja (l:List AV) (v:AV):List AV:=[.int .u8 9,.int .i64 0,.int .i64 0,.int .i64 0,.fn 82 [.agg (l++[v])] []]
open Classical in
noncomputable def Cn (d:Dv) (l:List AV) (v:AV):AV:=if d.2.2.1.2.2.1=true then
 (if d.2.2.1.2.2.2.1<At d.1∧DQ d d.2.2.1.2.2.2.1=0 then
   (if d.2.2.1.2.2.2.2.1<d.2.2.1.2.2.2.1 then .fz 2 none (IZ l v d.2.2.1.2.2.2.1++Ja l v) else .fz 1 none (IZ l v d.2.2.1.2.2.2.1))
 else if d.2.2.1.2.2.2.2.1<d.2.2.1.2.2.2.1 then .fz 1 none (Ja l v) else .nils)
 else .nils
def Ng (args:List AV) (u:AV):Prop:=∃ d l v,args=[.agg (l++[v])]∧dvC.r d l∧AM.hf v=true∧cellsOf v=[v]∧d.1.may∧d.2.2.1.2.2.2.2.2.2=false∧u=Cn d l v
theorem WM:AM.hf (Cn d l v)=true:=by
 unfold Cn
 split
 ·split
  ·split <;> rfl
  ·split <;> rfl
 ·rfl
theorem Zlz (hE:EM P e) (h40:Con e 40 stripesF.O) (h47:Con e 47 phF.O):OvOk P 34 (Ao Ng):=by
 refine CX g34.b ?_
 rintro args u ⟨d,l,v,rfl,hd,hvf,hvc,hM,hbr,rfl⟩
 have hrow:=dvC.hf hd
 have hrv:hfs (l++[v])=true:=EG hrow (by show (AM.hf v && true)=true;rw [hvf];rfl)
 refine ⟨by show (hfs (l++[v]) && true)=true;rw [hrv];rfl,WM,C.of_G hE g34 ?_⟩
 have hph:Ab d.2.2.1.2.2.2.1->∀ (Q:AV->St->Prop) s,Q (.int .u8 (DQ d d.2.2.1.2.2.2.1:Int)) s->ESc e 47 [.agg l,.int .i64 d.2.2.1.2.2.2.1] s Q:=fun hb Q s q=>Fn.u (F:=phF) h47 (d,d.2.2.1.2.2.2.1,()) ⟨_,_,rfl,hd,_,_,rfl,⟨rfl,Bf hb⟩,rfl⟩ trivial q
 have hm1:hfs (IZ l v d.2.2.1.2.2.2.1)=true:=by show (true && (true && (true && (true && (((hfs (l++[v]) && true) && true) && true)))))=true;rw [hrv];rfl
 have hm2:hfs (Ja l v)=true:=by show (true && (true && (true && (true && (((hfs (l++[v]) && true) && true) && true)))))=true;rw [hrv];rfl
 have f2:d.2.2.1.2.2.1=true->d.2.2.1.2.2.2.1<At d.1->DQ d d.2.2.1.2.2.2.1=0->d.2.2.1.2.2.2.2.1<d.2.2.1.2.2.2.1->∀ st r,st.get r=some (.row 95 (IZ l v d.2.2.1.2.2.2.1++Ja l v))->Frz st (.sl r 0 2 none) (Cn d l v):=fun a b c e' st r hg=>by
  unfold Cn;rw [Zpn a,Zpn ⟨b,c⟩,Zpn e']
  exact .sl r 0 _ _ _ 95 _ _ _ hg (fun i x hx=>by rw [Zpy];exact hx) (Ck (EG hm1 hm2)) (.inl rfl)
 have f1:d.2.2.1.2.2.1=true->d.2.2.1.2.2.2.1<At d.1->DQ d d.2.2.1.2.2.2.1=0->¬d.2.2.1.2.2.2.2.1<d.2.2.1.2.2.2.1->∀ st r,st.get r=some (.row 95 (IZ l v d.2.2.1.2.2.2.1))->Frz st (.sl r 0 1 none) (Cn d l v):=fun a b c e' st r hg=>by
  unfold Cn;rw [Zpn a,Zpn ⟨b,c⟩,Zpr e']
  exact .sl r 0 _ _ _ 95 _ _ _ hg (fun i x hx=>by rw [Zpy];exact hx) (Ck hm1) (.inl rfl)
 have fk:d.2.2.1.2.2.1=true->¬(d.2.2.1.2.2.2.1<At d.1∧DQ d d.2.2.1.2.2.2.1=0)->d.2.2.1.2.2.2.2.1<d.2.2.1.2.2.2.1->∀ st r,st.get r=some (.row 95 (Ja l v))->Frz st (.sl r 0 1 none) (Cn d l v):=fun a b e' st r hg=>by
  unfold Cn;rw [Zpn a,Zpr b,Zpn e']
  exact .sl r 0 _ _ _ 95 _ _ _ hg (fun i x hx=>by rw [Zpy];exact hx) (Ck hm2) (.inl rfl)
 have f0:d.2.2.1.2.2.1=true->¬(d.2.2.1.2.2.2.1<At d.1∧DQ d d.2.2.1.2.2.2.1=0)->¬d.2.2.1.2.2.2.2.1<d.2.2.1.2.2.2.1->∀ st,Frz st .nils (Cn d l v):=fun a b e' st=>by
  unfold Cn;rw [Zpn a,Zpr b,Zpr e'];exact .plain _ rfl
 have fn:d.2.2.1.2.2.1=false->∀ st,Frz st .nils (Cn d l v):=fun a st=>by
  unfold Cn;rw [Zpr (by rw [a];decide)];exact .plain _ rfl
 generalize Cn d l v=O at *
 obtain ⟨c,bk,⟨ev,lo,sp,po,dn,nl,br⟩,hs,⟨ag,sq,tl,us,L⟩,fs,nx,so⟩:=d
 obtain ⟨hv,lv,fv,rfl,ho,hH,hL,hF⟩:=B1 hd
 dsimp only at hM hbr hph f2 f1 fk f0 fn
 subst hbr
 have hst:=IF h40 ho.1 hM
 have hph:=hph ho.2.2.2.1
 generalize hpn:DQ _ _=p at *
 unfold At at f2 f1 fk f0
 cases sp
 ·conv=>whnf
  repeat' (first|(refine Av ?_;conv=>whnf)|fail)
  exact fn rfl _
 ·conv=>whnf
  repeat' (first|((first|refine hst _ _ ?_|refine hph _ _ ?_|refine CO (m:=1) ?_|refine C6 (m:=1) (n:=1) rfl rfl rfl rfl rfl rfl (by decide) (by decide) ?_|refine Au ?_);conv=>whnf)|refine Aa ?_ ?_|refine Ap ?_ ?_|(intro _;first|omega|conv=>whnf))
  all_goals first
   | exact f2 rfl (by omega) (by omega) (by omega) _ _ rfl
   | exact f1 rfl (by omega) (by omega) (by omega) _ _ rfl
   | exact fk rfl (by omega) (by omega) _ _ rfl
   | exact f0 rfl (by omega) (by omega) _
end Go.AM
