/-
 Functions of the program as the abstract machine reads them, and what is stated of them, checked by the kernel. No conditions.
-/
import Derived.Test.YtacmbogmbfmjeaaGreatStG
import Derived.Test.YtacmbogmbfmjeaaGreatStE
import Derived.Test.YtacmbogmbfmjeaaGreatStA
set_option linter.unusedVariables false
set_option linter.unusedSimpArgs false
set_option linter.unnecessarySimpa false
set_option maxRecDepth 100000
namespace Go.AM
attribute [local irreducible] W
open X
variable {e:Env}{u:AV}
theorem ECall.relS {f:Nat}{R:List AV→St→AV→St→Prop}{vs:List AV}{s:St}{k:AV→St→Prop}{s':St}(hi:Con e f (AM.relS R)) (hx:R vs s u s') (hk:∀ u s',R vs s u s'→k u s'):ECall e f vs s k:=by
 have hx:∃ p:AV×St,R vs s p.1 p.2:=⟨(u,s'),hx⟩
 refine ECall.ov hi.O (v:=hx.choose.1) (s':=hx.choose.2) ?_ (hk _ _ hx.choose_spec)
 unfold AM.relS
 rw [dif_pos hx]
def ER (m:Nat):List AV:=(List.range m).flatMap fun (i:Nat)=>[AV.int .i64 (i:Int),.int .u8 3,.int .i64 0,.nils]
theorem NZ (m:Nat):ER (m+1)=ER m++[.int .i64 (m:Int),.int .u8 3,.int .i64 0,.nils]:=by unfold ER;rw [List.range_succ,List.flatMap_append];rfl
theorem Me (m:Nat):hfs (ER m)=true:=hfs_iff.2 fun v hv=>by
 obtain ⟨s,_,hv⟩:=List.mem_flatMap.1 hv
 simp only [Zkp,List.not_mem_nil,or_false] at hv
 rcases hv with rfl|rfl|rfl|rfl <;> rfl
theorem SC (m:Nat):(ER m).length=m*4:=by
 induction m with
 | zero=>rfl
 | succ m ih=>rw [NZ,Zjt,ih];simp;omega
def Is (O:List Nat):AV:=match O with
 | []=>.nils
 | _::T=>.fz (T.length+1) none (DC O)
noncomputable def Hu (c:Cfg) (D:List Dk) (O:List Nat) (AE:Bool):AV:=match AE,O with
 | true,_::T=>.fz (T.length+1+c.members.toNat) none (CS c D O++ER c.members.toNat)
 | _,_=>.nils
noncomputable def CY (d:Dv) (D:List Dk) (AE:Bool):AV:=if Cw d D=0 then .tup [Is (AX d D (AG d.1).toNat),Hu d.1 D (AX d D (AG d.1).toNat) AE,.int .i64 0] else .tup [.nils,.nils,.int .i64 (Cw d D)]
noncomputable def scrF:Fn (Dv×List Dk×Bool×Unit):=⟨.g dvC (.v dkC.sl (.v Ce.bool .nil)),fun x=>x.1.2.2.2.2.1.2.2.2.2.length≤1000∧∀ d ∈ x.2.1,CP d,fun x=>CY x.1 x.2.1 x.2.2.1⟩
variable {d:Dv}{D:List Dk}
theorem Up (hsm:∀ x ∈ D,CP x) (h:Cw d D=0):Ih d D∧Ik d∧d.2.2.1.2.2.2.2.2.2=false:=by
 unfold Cw at h
 split at h
 ·rename_i hq
  split at h
  ·cases h
  ·rename_i hb
   refine ⟨⟨hq.2.1,?_,hq.2.2,hsm⟩,hq.1,by simpa using hb⟩
   have:=hq.1
   obtain ⟨c,bk,⟨ev,lo,sp,po,dn,nl,br⟩,hs,⟨ag,sq,tl,us,L⟩,fs,nx,so⟩:=d
   unfold Ik Ij at this
   exact this.1.2.1
 ·cases h
theorem Zbn (hx:∀ d l D v,dvC.r d l→Ls dkC D v→∃ e:Env,EM P e∧Con e 35 askF.O∧Con e 40 stripesF.O∧(Ih d D→Con e 46 (relS (lkR d l D v)))):OvOk P 17 scrF.O:=by
 refine B2 g17.b ?_
 rintro ⟨d,D,AE,_⟩ _ ⟨l,_,rfl,hd,v,_,rfl,⟨_,e0,hD⟩,_,_,rfl,e1,rfl⟩ ⟨hn,hsm⟩
 cases e0
 cases e1
 obtain ⟨e,hE,h35,h40,h46⟩:=hx d l D v hd hD
 dsimp only at hD hn hsm
 have hrow:=dvC.hf hd
 have hvf:=hD.hf
 have hvc:=hD.cell
 have hvr:hfs [v]=true:=by show (AM.hf v && true)=true;rw [hvf];rfl
 have hh:AM.hf (scrF.out (d,D,AE,()))=true:=by
  show AM.hf (CY d D AE)=true
  unfold CY
  split
  ·unfold Is Hu
   split <;> split <;> rfl
  ·rfl
 refine ⟨hh,C.of_G hE g17 ?_⟩
 have hask:=fun (Q:AV→St→Prop) s q=>@Fn.u _ e 35 s Q askF [.agg l,v] h35 (d,D,()) ⟨_,_,rfl,hd,_,_,rfl,⟨_,rfl,hD⟩,rfl⟩ ⟨hn,hsm⟩ q
 replace hask:∀ (Q:AV→St→Prop) s,Q (.int .i64 (Cw d D)) s→ESc e 35 [.agg l,v] s Q:=hask
 change VW P e 0 _ (Al [.agg l,v,.bool AE] 0 .lf) St0 none [] (Cj _ fun u s'=>Frz s' u (CY d D AE))
 by_cases hA:Cw d D=0
 ·obtain ⟨hok,hmc,hbr⟩:=Up hsm hA
  have h46:=h46 hok
  rw [hA] at hask
  have hmm:=(BJ hok.1).1
  have hM:=hok.1
  have hM':=hM
  unfold Cfg.may at hM'
  have hlk:∀ (i:Nat) (Q:AV→St→Prop),(i:Int)<AG d.1→(∀ s',(Cg d D (i:Int)→lkO (FM (AX d D i)) (Ae St0 (B6 l v d.1 D (AX d D i))) (CZ l v d.1 D (AX d D i) i) s')→(¬Cg d D (i:Int)→lkO (FM (AX d D i)) (Ae St0 (B6 l v d.1 D (AX d D i))) (B6 l v d.1 D (AX d D i)) s')→Q (.tup []) s')→ECall e 46 (J3 i) (Ae St0 (B6 l v d.1 D (AX d D i))) Q:=fun i Q hi k=>by
   classical
   refine ECall.relS h46 (u:=.tup []) (s':=if Cg d D (i:Int) then Ae (BQ (Ae St0 (B6 l v d.1 D (AX d D i))) (List.range (FM (AX d D i))) ((CZ l v d.1 D (AX d D i) i).take (FM (AX d D i)))) ((CZ l v d.1 D (AX d D i) i).drop (FM (AX d D i))) else Ae (BQ (Ae St0 (B6 l v d.1 D (AX d D i))) (List.range (FM (AX d D i))) ((B6 l v d.1 D (AX d D i)).take (FM (AX d D i)))) ((B6 l v d.1 D (AX d D i)).drop (FM (AX d D i)))) ⟨i,hi,rfl,rfl,rfl,fun h=>Zjj h,fun h=>Zjn h⟩ ?_
   rintro u s' ⟨j,hj,e1,e2,rfl,e3,e4⟩
   have e1:AV.int .i64 (i:Int)=.int .i64 (j:Int):=(Zjr e1).1
   injection e1 with _ e1
   have e1:i=j:=by omega
   subst e1
   exact k s' e3 e4
  have hst:∀ (Q:AV→St→Prop) s,Q (.tup [.int .i64 (AG d.1),.int .i64 0]) s→ESc e 40 [.agg d.1.c] s Q:=by
   have hoc:d.1.ok:=by
    obtain ⟨c,bk,⟨ev,lo,sp,po,dn,nl,br⟩,hs,⟨ag,sq,tl,us,L⟩,fs,nx,so⟩:=d
    obtain ⟨hv,lv,fv,rfl,ho,-⟩:=BE hd
    exact ho.1
   exact KC h40 hoc hM
  have hval:∀ n:Nat,(AG d.1).toNat=n→∀ st r r',(AX d D n=[]→Frz st (.tup [.nils,.nils,.int .i64 0]) (CY d D AE))∧(∀ a T,AX d D n=a::T→st.get r=some (.row 3 (DC (a::T)))→(AE=false→Frz st (.tup [.sl r 0 (T.length+1) none,.nils,.int .i64 0]) (CY d D AE))∧(AE=true→st.get r'=some (.row 79 (CS d.1 D (a::T)++ER d.1.members.toNat))→Frz st (.tup [.sl r 0 (T.length+1) none,.sl r' 0 (T.length+1+d.1.members.toNat) none,.int .i64 0]) (CY d D AE))):=by
   rintro n hn st r r'
   unfold CY
   rw [Zjj hA,hn]
   refine ⟨fun h=>?_,fun a T h hg=>⟨fun hr=>?_,fun hr hg'=>?_⟩⟩
   ·rw [h]
    cases AE <;> exact .plain _ rfl
   ·rw [h,hr]
    exact .tup _ _ (.cons (.sl r 0 _ _ _ 3 _ _ _ hg (fun j x hx=>by rw [Zju];exact hx) (DG (Cc _)) (.inl rfl)) (.cons (.plain _ rfl) (.cons (.plain _ rfl) .nil)))
   ·rw [h,hr]
    exact .tup _ _ (.cons (.sl r 0 _ _ _ 3 _ _ _ hg (fun j x hx=>by rw [Zju];exact hx) (DG (Cc _)) (.inl rfl)) (.cons (.sl r' 0 _ _ _ 79 _ _ _ hg' (fun j x hx=>by rw [Zju];exact hx) (DG (HE (Cs _ _ _) (Me _))) (.inl rfl)) (.cons (.plain _ rfl) .nil)))
  have hstep:=fun i=>@Z2 d D i
  have hstep':=fun i=>@Zb0 d D i
  have holn:=LJ d D
  have h00:AX d D 0=[]:=rfl
  clear hmc hbr hsm hok h46 h40 h35 hx
  generalize CY d D AE=O at *
  generalize Cg d D=OP at *
  generalize AX d D=OL at *
  obtain ⟨c,bk,⟨ev,lo,sp,po,dn,nl,br⟩,hs,⟨ag,sq,tl,us,L⟩,fs,nx,so⟩:=d
  obtain ⟨hv,lv,fv,rfl,ho,hH,hL,hF⟩:=BE hd
  dsimp only at hlk hst hval hmm hM'
  generalize AG c=N at *
  conv=>whnf
  repeat' (first|(refine IN (by show Nat.beq (AR (cellsOf v)) 1=true;rw [hvc];rfl) ?_;rw [hvc];conv=>whnf)|(refine hask _ _ ?_;conv=>whnf)|(refine hst _ _ ?_;conv=>whnf)|((refine w6 rfl rfl ?_ ?_) <;> intro _ <;> first|(exfalso;omega)|(conv=>whnf))|fail)
  refine A0 hE N.toNat (fun i=>[(2,.bool AE),(6,.ptr 2 0),(7,.ptr 3 0),(10,.ptr 4 0),(11,.fn 46 [] [.ptr 4 0,.ptr 0 0,.ptr 1 0,.ptr 2 0,.ptr 3 0]),(30,.int .i64 N),(31,.int .i64 (i:Int))]) (fun i=>B6 (c.c++[.bool bk,.int .u32 ev,.int .i64 lo,.bool sp,.int .i64 po,.int .i64 dn,.bool nl,.bool br,hv,.int .u32 ag,.int .u32 sq,.int .i64 tl,.int .i64 us,lv,fv,.int .i64 nx,.bool so]) v c D (OL i)) (fun _=>True) trivial (by
   show Tells P 0 _ _ [] _ (Ae St0 (B6 (c.c++[.bool bk,.int .u32 ev,.int .i64 lo,.bool sp,.int .i64 po,.int .i64 dn,.bool nl,.bool br,hv,.int .u32 ag,.int .u32 sq,.int .i64 tl,.int .i64 us,lv,fv,.int .i64 nx,.bool so]) v c D (OL 0))) []
   rw [h00]
   exact Abs.tells (rs:=[0,1,2,3,4]) ⟨by decide,⟨r9,r9,r9,r9,r9,r9,r9,trivial⟩,⟨⟨Ab hrow,by rw [Aa hrow];rfl⟩,⟨Ab hvr,by rw [Aa hvr];rfl⟩,r9,r9,⟨Ab rfl,by rw [Aa (cs:=c.c) rfl];rfl⟩,trivial⟩⟩) ?_
  intro i hi _
  by_cases hlt:i<N.toNat
  ·have hlk:=hlk i
   have hOl:=holn i
   have hiN:(i:Int)<N:=by omega
   by_cases hop:OP (i:Int)
   ·have hs1:=hstep i hop
    dsimp only
    rw [hs1]
    generalize OL i=Oi at *
    rcases Oi with _|⟨a,T⟩
    ·conv=>whnf
     repeat' (first|(refine hlk _ hiN (fun s' y n=>?_);have e1:s'=_:=y hop;subst e1;conv=>whnf)|((refine w1 rfl rfl ?_ ?_) <;> intro _ <;> first|(exfalso;omega)|(conv=>whnf))|((first|refine w7 rfl rfl (by omega) ?_|refine ⟨rfl,?_⟩);conv=>whnf)|fail)
     exact ⟨hlt,trivial,Abs.tells (rs:=[0,1,2,3,4,5,6]) ⟨by decide,⟨r9,r9,r9,r9,r9,r9,r9,trivial⟩,⟨⟨Ab hrow,by rw [Aa hrow];rfl⟩,⟨Ab hvr,by rw [Aa hvr];rfl⟩,r9,r9,⟨Ab rfl,by rw [Aa (cs:=c.c) rfl];rfl⟩,⟨Ab (Cc _),by rw [Aa (Cc _)];rfl⟩,⟨Ab (Cs _ _ _),by rw [Aa (Cs _ _ _)];rfl⟩,trivial⟩⟩⟩
    ·conv=>whnf
     repeat' (first|(refine hlk _ hiN (fun s' y n=>?_);have e1:s'=_:=y hop;subst e1;conv=>whnf)|((refine w1 rfl rfl ?_ ?_) <;> intro _ <;> first|(exfalso;omega)|(conv=>whnf))|((first|refine w7 rfl rfl (by omega) ?_|refine ⟨rfl,?_⟩);conv=>whnf)|fail)
     refine ⟨hlt,trivial,?_⟩
     show Tells P 0 _ _ [] _ (Ae St0 [.row 33 (c.c++[.bool bk,.int .u32 ev,.int .i64 lo,.bool sp,.int .i64 po,.int .i64 dn,.bool nl,.bool br,hv,.int .u32 ag,.int .u32 sq,.int .i64 tl,.int .i64 us,lv,fv,.int .i64 nx,.bool so]),.row 34 [v],.row 66 [.sl 5 0 ((T++[i]).length+1) none],.row 43 [.sl 6 0 ((T++[i]).length+1) none],.row 24 c.c,.row 3 (DC (a::T++[i])),.row 79 (CS c D (a::T++[i]))]) []
     rw [Zjt]
     exact Abs.tells (rs:=[0,1,2,3,4,7,8]) ⟨by decide,⟨r9,r9,r9,r9,r9,r9,r9,trivial⟩,⟨⟨Ab hrow,by rw [Aa hrow];rfl⟩,⟨Ab hvr,by rw [Aa hvr];rfl⟩,r9,r9,⟨Ab rfl,by rw [Aa (cs:=c.c) rfl];rfl⟩,⟨Ab (Cc _),by rw [Aa (Cc _)];rfl⟩,⟨Ab (Cs _ _ _),by rw [Aa (Cs _ _ _)];rfl⟩,trivial⟩⟩
   ·have hs1:=hstep' i hop
    dsimp only
    rw [hs1]
    generalize OL i=Oi at *
    rcases Oi with _|⟨a,T⟩
    ·conv=>whnf
     repeat' (first|(refine hlk _ hiN (fun s' y n=>?_);have e1:s'=_:=n hop;subst e1;conv=>whnf)|((refine w1 rfl rfl ?_ ?_) <;> intro _ <;> first|(exfalso;omega)|(conv=>whnf))|((first|refine w7 rfl rfl (by omega) ?_|refine ⟨rfl,?_⟩);conv=>whnf)|fail)
     exact ⟨hlt,trivial,Abs.tells (rs:=[0,1,2,3,4]) ⟨by decide,⟨r9,r9,r9,r9,r9,r9,r9,trivial⟩,⟨⟨Ab hrow,by rw [Aa hrow];rfl⟩,⟨Ab hvr,by rw [Aa hvr];rfl⟩,r9,r9,⟨Ab rfl,by rw [Aa (cs:=c.c) rfl];rfl⟩,trivial⟩⟩⟩
    ·conv=>whnf
     repeat' (first|(refine hlk _ hiN (fun s' y n=>?_);have e1:s'=_:=n hop;subst e1;conv=>whnf)|((refine w1 rfl rfl ?_ ?_) <;> intro _ <;> first|(exfalso;omega)|(conv=>whnf))|((first|refine w7 rfl rfl (by omega) ?_|refine ⟨rfl,?_⟩);conv=>whnf)|fail)
     exact ⟨hlt,trivial,Abs.tells (rs:=[0,1,2,3,4,5,6]) ⟨by decide,⟨r9,r9,r9,r9,r9,r9,r9,trivial⟩,⟨⟨Ab hrow,by rw [Aa hrow];rfl⟩,⟨Ab hvr,by rw [Aa hvr];rfl⟩,r9,r9,⟨Ab rfl,by rw [Aa (cs:=c.c) rfl];rfl⟩,⟨Ab (Cc _),by rw [Aa (Cc _)];rfl⟩,⟨Ab (Cs _ _ _),by rw [Aa (Cs _ _ _)];rfl⟩,trivial⟩⟩⟩
  ·obtain rfl:i=N.toNat:=by omega
   have hval:=hval _ rfl
   have hOl:=holn N.toNat
   dsimp only
   clear hstep hstep' hlk hask hst
   generalize OL N.toNat=On at *
   rcases On with _|⟨a,T⟩
   ·cases AE
    all_goals
     conv=>whnf
     repeat' (first|(refine Ac rfl (show Sl 1 0 [] .nils from .inl ⟨rfl,rfl,rfl⟩) ?_;conv=>whnf)|((first|refine w1 rfl rfl ?_ ?_|refine w5 rfl rfl ?_ ?_) <;> intro _ <;> first|(exfalso;omega)|(conv=>whnf))|((first|refine w12 rfl ?_|refine w13 rfl ?_);conv=>whnf)|fail)
     exact (hval _ 0 0).1 rfl
   ·cases AE
    ·conv=>whnf
     repeat' (first|((refine w1 rfl rfl ?_ ?_) <;> intro _ <;> first|(exfalso;omega)|(conv=>whnf))|(refine w13 rfl ?_;conv=>whnf)|fail)
     exact ((hval _ 5 0).2 a T rfl rfl).1 rfl
    ·conv=>whnf
     repeat' (first|((first|refine w1 rfl rfl ?_ ?_|refine w5 rfl rfl ?_ ?_) <;> intro _ <;> first|(exfalso;omega)|(conv=>whnf))|((first|refine w12 rfl ?_|refine w18 rfl ?_);conv=>whnf)|fail)
     have hTl:T.length≤100:=by simp only [Zj9] at hOl;omega
     refine A0 hE c.members.toNat (fun j=>[(6,.ptr 0 0),(7,.ptr 1 0),(47,.int .i64 c.members),(48,.int .i64 (j:Int))]) (fun j=>[.row 66 [.sl 2 0 (T.length+1) none],.row 43 [.sl 3 0 (T.length+1+j) none],.row 3 (DC (a::T)),.row 79 (CS c D (a::T)++ER j)]) (fun _=>True) trivial (Abs.tells (rs:=[2,3,5,6]) ⟨by decide,⟨r9,r9,r9,r9,trivial⟩,⟨r9,r9,⟨Ab (Cc _),by rw [Aa (Cc _)];rfl⟩,⟨Ab (HE (Cs _ _ _) (Me _)),by rw [Aa (HE (Cs _ _ _) (Me _)),show ER 0=[] from rfl,Zkq];rfl⟩,trivial⟩⟩) ?_
     intro j hj _
     by_cases hjl:j<c.members.toNat
     ·have hA:=HE (Cs c D (a::T)) (Me (j+1))
      rw [NZ,← List.append_assoc] at hA
      rw [NZ,← List.append_assoc]
      conv=>whnf
      repeat' (first|(refine Cy (m:=1) (n:=T.length+1+j) (old:=CS c D (a::T)++ER j) rfl rfl rfl rfl (by rw [Zjt,OY,SC,Zj9];omega) rfl (by decide) (by omega) ?_;conv=>whnf)|((refine w1 rfl rfl ?_ ?_) <;> intro _ <;> first|(exfalso;omega)|(conv=>whnf))|((first|refine w7 rfl rfl (by omega) ?_|refine ⟨rfl,?_⟩);conv=>whnf)|fail)
      exact ⟨hjl,trivial,Abs.tells (rs:=[0,1,2,5]) ⟨by decide,⟨r9,r9,r9,r9,trivial⟩,⟨r9,r9,⟨Ab (Cc _),by rw [Aa (Cc _)];rfl⟩,⟨Ab hA,by rw [Aa hA];rfl⟩,trivial⟩⟩⟩
     ·obtain rfl:j=c.members.toNat:=by omega
      conv=>whnf
      repeat' (first|((refine w1 rfl rfl ?_ ?_) <;> intro _ <;> first|(exfalso;omega)|(conv=>whnf))|(refine ⟨rfl,?_⟩;conv=>whnf)|fail)
      exact ((hval _ 2 3).2 a T rfl rfl).2 rfl rfl
 ·have fin:∀ st,Frz st (.tup [.nils,.nils,.int .i64 (Cw d D)]) (CY d D AE):=fun st=>by
   unfold CY;rw [Zjn hA];exact .plain _ rfl
  generalize CY d D AE=O at *
  generalize Cw d D=A at *
  obtain ⟨c,bk,⟨ev,lo,sp,po,dn,nl,br⟩,hs,⟨ag,sq,tl,us,L⟩,fs,nx,so⟩:=d
  obtain ⟨hv,lv,fv,rfl,ho,hH,hL,hF⟩:=BE hd
  conv=>whnf
  repeat' (first|(refine IN (by show Nat.beq (AR (cellsOf v)) 1=true;rw [hvc];rfl) ?_;rw [hvc];conv=>whnf)|(refine hask _ _ ?_;conv=>whnf)|((refine w6 rfl rfl ?_ ?_) <;> intro _ <;> first|(exfalso;omega)|(conv=>whnf))|fail)
  all_goals first
   | exact absurd (by assumption) hA
   | exact fin _
def dkV:Ce DK:=⟨3,fun y l=>l=y.c∧y.ok,by rintro _ _ ⟨rfl,_⟩;rfl,by
 rintro y _ ⟨rfl,h⟩
 have:=DK.hf h.a
 show hfs y.c=true
 have e:AM.hf (.agg y.c)=true:=this
 simpa [AM.hf] using e,by
 rintro x y _ ⟨rfl,h1⟩ ⟨e,h2⟩
 exact DK.inj h1.a h2.a (congrArg AV.agg e)⟩
def A5 (x:DK):DK:=⟨.fz x.us.length none (x.us.map Ao),x.us.map Ao,x.bs,(match x.ws.length with|0=>.nils|m+1=>.fz (m+1) none (Af (x.ws.map A7))),x.ws.map A7,x.dead⟩
def twF:Fn (DK×Unit):=⟨.g dkV .nil,fun x=>1≤x.1.us.length,fun x=>(A5 x.1).v⟩
theorem Zez (hE:EM P e) (h141:Inl e 119 Gd [.tmp 2]):OvOk P 66 twF.O:=by
 refine B2 g66.b ?_
 rintro ⟨x,_⟩ _ ⟨_,_,rfl,⟨rfl,hx⟩,rfl⟩ h1
 have h1:1≤x.us.length:=h1
 have hcl:hfs (x.us.map Ao)=true:=JX hx.a
 have hwl:hfs (Af (x.ws.map A7))=true:=E8 fun w hw=>by
  obtain ⟨v,hv,rfl⟩:=Zkf.1 hw
  rcases (hx.a.ws v hv).b.1 with ⟨h,_⟩|⟨h,_⟩|⟨c,h,_⟩ <;> (show AM.hf (Ao v.u)=true;rw [h];rfl)
 refine ⟨by show AM.hf (A5 x).v=true;unfold A5 DK.v DK.c;dsimp only;split <;> rfl,((TM hE h141).2 [x.v] St0 _ _ (IA ⟨hx,h1⟩ St0)).mono ?_⟩
 rintro v s' ⟨rfl,rfl⟩
 show Frz _ (G2 0 x) (A5 x).v
 unfold G2 Fu A5 DK.v DK.c
 dsimp only
 cases hw:x.ws.length with
 | zero=>exact .agg _ _ (.cons (.sl 0 0 _ _ _ 76 _ _ _ rfl (fun i x h=>by rw [Zju];exact h) (DG hcl) (.inl rfl)) (.cons (.plain _ rfl) (.cons (.plain _ rfl) .nil)))
 | succ m=>exact .agg _ _ (.cons (.sl 0 0 _ _ _ 76 _ _ _ rfl (fun i x h=>by rw [Zju];exact h) (DG hcl) (.inl rfl)) (.cons (.sl 1 0 _ _ _ 146 _ _ _ rfl (fun i x h=>by rw [Zju];exact h) (DG hwl) (.inl rfl)) (.cons (.plain _ rfl) .nil)))
theorem Pd {x:DK}(h:x.ok):(A5 x).ok:=by
 refine ⟨⟨?_,I6 h.a.bs,?_,?_⟩,?_,?_,h.b,?_⟩
 ·exact .inr (.inr ⟨_,by show AV.fz x.us.length none (x.us.map Ao)=.fz (x.us.map Ao).length none (x.us.map Ao);rw [Zjm],(Zki _).symm⟩)
 ·show Sl 2 (x.ws.map A7).length (Af (x.ws.map A7)) (match x.ws.length with|0=>.nils|m+1=>.fz (m+1) none (Af (x.ws.map A7)))
  cases hw:x.ws with
  | nil=>exact .inl ⟨rfl,rfl,rfl⟩
  | cons w W=>
   refine .inr (.inr ⟨none,?_,?_⟩)
   ·rw [Zjm];rfl
   ·have:∀ L:List WR,(Af L).length=L.length*2:=fun L=>by
     induction L with
     | nil=>rfl
     | cons w L ih=>rw [E5,Zjt,ih,Zj9];show 2+_=_;omega
    exact this _
 ·intro w hw
  obtain ⟨v,hv,rfl⟩:=Zkf.1 hw
  exact GJ (h.a.ws v hv)
 ·show (x.us.map Ao).length<_;rw [Zjm];exact h.n
 ·show (x.ws.map A7).length<_;rw [Zjm];exact h.m
 ·intro w hw
  obtain ⟨v,hv,rfl⟩:=Zkf.1 hw
  exact h.w v hv
def D1 (ys:List DK):List AV:=ys.flatMap fun y=>(A5 y).c
variable {ys:List DK}
theorem TL (h:∀ y ∈ ys,y.ok):hfs (D1 ys)=true:=by
 refine hfs_iff.2 fun v hv=>?_
 obtain ⟨y,hy,hv⟩:=List.mem_flatMap.1 hv
 have:=DK.hf (Pd (h y hy)).a
 have e:AM.hf (.agg (A5 y).c)=true:=this
 have e:hfs (A5 y).c=true:=by simpa [AM.hf] using e
 exact hfs_iff.1 e v hv
theorem ST:∀ ys:List DK,(D1 ys).length=ys.length*3
 | []=>rfl
 | y::ys=>by unfold D1;rw [List.flatMap_cons,Zjt,show (ys.flatMap fun y=>(A5 y).c).length=ys.length*3 from ST ys,Zj9];show 3+_=_;omega
def MI (args:List AV) (s:St) (u:AV) (s':St):Prop:=∃ v ys,args=[v]∧Ls dkV ys v∧(1≤ys.length∧ys.length≤1000)∧(∀ y ∈ ys,1≤y.us.length)∧u=.sl s.next 0 ys.length none∧s'=s.alloc (.row 60 (D1 ys))
variable {v:AV}
theorem Ls.mem {α:Type}{A:Ce α}{xs:List α}(h:Ls A xs v) {x:α}(hx:x ∈ xs):∃ l,A.r x l:=by
 obtain ⟨ls,a,-⟩:=h
 obtain ⟨i,hi⟩:=Zk6 hx
 obtain ⟨l,-,hr⟩:=a.get hi
 exact ⟨l,hr⟩
theorem Za9 (hE:EM P e) (h66:Con e 66 twF.O):OvOk P 37 (relS MI):=by
 refine LZ g37.b ?_
 rintro args s u s' ⟨v,ys,rfl,hL,hn,h1,rfl,rfl⟩
 have hvf:=hL.hf
 have hoks:∀ y ∈ ys,y.ok:=fun y hy=>by obtain ⟨l,-,h⟩:=hL.mem hy;exact h
 obtain ⟨cs,hs',hl',hnth⟩:=hL.nth
 have hf0:=TL hoks
 have key:C P 37 [v] St0 (fun w s'=>w=.sl 0 0 ys.length none∧s'=Ae St0 [.row 60 (D1 ys)]):=by
  refine C.abs (C.of_G hE g37 ?_);conv=>whnf
  refine Ac rfl hs' ?_;conv=>whnf
  refine A0 hE ys.length (fun i=>[(3,slO i 0),(6,v),(7,.int .i64 (ys.length:Int)),(8,.int .i64 (i:Int))]) (fun i=>match i with|0=>[]|i+1=>[.row 60 (D1 (ys.take (i+1)))]) (fun _=>True) trivial (Abs.tells (rs:=[]) ⟨by decide,⟨r9,t9,r9,r9,trivial⟩,trivial⟩) ?_
  intro i hi _
  by_cases hlt:i<ys.length
  ·obtain ⟨y,_,r,hy,⟨rfl,hyo⟩,hd⟩:=hnth i hlt
   have hy1:=h1 y (Zj1 hy)
   have htw:∀ (Q:AV→St→Prop) s,Q (.agg (A5 y).c) s→ESc e 66 [.agg y.c] s Q:=fun Q s k=>Fn.u (F:=twF) h66 (y,()) ⟨_,_,rfl,⟨rfl,hyo⟩,rfl⟩ hy1 k
   have hst:D1 (ys.take (i+1))=D1 (ys.take i)++(A5 y).c:=by
    rw [List.take_add_one,hy];unfold D1;rw [List.flatMap_append];simp
   have hfi:=TL (ys:=ys.take (i+1)) fun y hy=>hoks y (Zkm hy)
   have hli:=ST (ys.take i)
   rw [Zj5,Nat.min_eq_left hi] at hli
   obtain ⟨q1,q2,q3,hq⟩:∃ q1 q2 q3,(A5 y).c=[q1,q2,q3]:=⟨_,_,_,rfl⟩
   rw [hq] at htw hst
   have hyc:y.c=[y.bv,y.wv,.bool y.dead]:=rfl
   rw [hyc] at hd htw
   rcases i with _|i
   ·conv=>whnf
    repeat' (first|(refine Ai rfl hs' rfl hlt hd ?_;conv=>whnf)|(refine Ay (cs:=[y.bv,y.wv,.bool y.dead]) rfl ?_;conv=>whnf)|(refine htw _ _ ?_;conv=>whnf)|(refine CT (m:=1) rfl rfl rfl rfl (by decide) (by decide) ?_;conv=>whnf)|((refine w1 rfl rfl ?_ ?_) <;> intro _ <;> first|(exfalso;omega)|(conv=>whnf))|((first|refine w7 rfl rfl (by omega) ?_|refine ⟨rfl,?_⟩);conv=>whnf)|fail)
    refine ⟨hlt,trivial,Abs.tells (rs:=[2]) ⟨by decide,⟨r9,t9,r9,r9,trivial⟩,⟨⟨Ab hfi,?_⟩,trivial⟩⟩⟩
    show _=some (Ax _ (AObj.row 60 (D1 (ys.take (0+1)))))
    rw [Aa hfi,hst];rfl
   ·have hil:i+1≤1000:=by omega
    conv=>whnf
    repeat' (first|(refine Ai rfl hs' rfl hlt hd ?_;conv=>whnf)|(refine Ay (cs:=[y.bv,y.wv,.bool y.dead]) rfl ?_;conv=>whnf)|(refine htw _ _ ?_;conv=>whnf)|(refine Cy (m:=1) (n:=i+1) (old:=D1 (ys.take (i+1))) rfl rfl rfl rfl hli rfl (by decide) (by omega) ?_;conv=>whnf)|((refine w1 rfl rfl ?_ ?_) <;> intro _ <;> first|(exfalso;omega)|(conv=>whnf))|((first|refine w7 rfl rfl (by omega) ?_|refine ⟨rfl,?_⟩);conv=>whnf)|fail)
    refine ⟨hlt,trivial,Abs.tells (rs:=[3]) ⟨by decide,⟨r9,t9,r9,r9,trivial⟩,⟨⟨Ab hfi,?_⟩,trivial⟩⟩⟩
    show _=some (Ax _ (AObj.row 60 (D1 (ys.take (i+1+1)))))
    rw [Aa hfi,hst];rfl
  ·obtain ⟨m,hm⟩:∃ m,ys.length=m+1:=⟨ys.length-1,by omega⟩
   have him:i=m+1:=by omega
   subst him
   have htk:ys.take (m+1)=ys:=Zjo (by omega)
   dsimp only
   rw [htk]
   conv=>whnf
   repeat' (first|((refine w1 rfl rfl ?_ ?_) <;> intro _ <;> first|(exfalso;omega)|(conv=>whnf))|fail)
   refine ⟨[0],⟨by decide,⟨⟨rfl,?_⟩,trivial⟩,⟨⟨Ab hf0,by rw [Aa hf0];rfl⟩,trivial⟩⟩⟩
   show _=some (AV.sl 0 0 ys.length none)
   rw [hm];rfl
 refine (C.frame (l:=[.row 60 (D1 ys)]) (u:=.sl 0 0 ys.length none) (by show (AM.hf v && true)=true;rw [hvf];rfl) ?_ (.inl (by simp)) key ?_ s).mono ?_
 ·intro o ho;simp at ho;subst ho;rfl
 ·intro i o h;rcases i with _|i <;> simp at h;subst h;rfl
 ·rintro w s' ⟨rfl,rfl⟩
  refine ⟨?_,?_⟩
  ·show AV.sl (0+s.next) 0 _ none=_;rw [Zju]
  ·show Ae s [Ax _ (.row 60 (D1 ys))]=_
   rw [Aa hf0];rfl
abbrev Act:=Int×Nat×Int×List Nat
def actC:Ce Act:=i64C.pr (Ce.u8.pr (i64C.pr bytC))
variable {k a:Int}{b:List Nat}{l:List AV}
theorem M3 {d:Nat}(h:actC.r (k,d,a,b) l):∃ v,l=[.int .i64 k,.int .u8 (d:Int),.int .i64 a,v]∧Ad k∧d<256∧Ad a∧Ls Ce.u8 b v:=by
 obtain ⟨_,_,rfl,⟨rfl,h1⟩,_,_,rfl,⟨rfl,h2⟩,_,_,rfl,⟨rfl,h3⟩,v,rfl,h4⟩:=h
 exact ⟨v,rfl,Cq h1,h2,Cq h3,h4⟩
def Zi6:AC:=match Nx with|.mk c _=>c
theorem Zeg (h138:Inl e 138 Zi6 [.tmp 2]) (h44:Con e 44 dskF.O):Es e dkC AV.agg 138 .nil (fun _ xs=>∀ d ∈ xs,CP d) (fun (_:Unit) d=>¬CC d):=by
 rintro c q xs x l rfl hok hmem hx Q y n
 have hd:=fun (Q:AV→St→Prop) s a b=>T7 (e:=e) h44 hx (hok x hmem) Q s a b
 have hlen:=dkC.len hx
 obtain ⟨bs,ws,dd⟩:=x
 obtain ⟨bv,wv,rfl,-,-⟩:=Gm hx
 refine ECall.inl h138.O h138.G ?_;conv=>whnf
 repeat' (first|(refine hd _ _ (fun q=>?_) (fun q=>?_) <;> conv=>whnf)|((refine w6 rfl rfl ?_ ?_) <;> intro _ <;> first|(exfalso;omega)|(conv=>whnf))|fail)
 all_goals first
  | exact n (fun h=>h q) _
  | exact y q _
noncomputable def ix138:Fn (List Dk×Unit×Unit):=Cp dkC 138 .nil (fun _ xs=>∀ d ∈ xs,CP d) fun _ d=>¬CC d
def KV (D:List Dk):Prop:=(1≤D.length∧D.length≤17)∧∀ d ∈ D,CC d
noncomputable def dvsF:Fn (List Dk×Unit):=cF (.v dkC.sl .nil) (fun x=>∀ d ∈ x.1,CP d) fun x=>KV x.1
theorem Zdf (hE:EM P e) (h139:Inl e 139 UQ [.tmp 4]) (h182:Con e 182 (relS (BB ix138.R))):OvOk P 83 dvsF.O:=by
 refine Ic hE g83 ?_
 rintro ⟨D,_⟩ _ ⟨v,_,rfl,⟨_,e0,hL⟩,rfl⟩ hsm K t f
 cases e0
 dsimp only at t f hL hsm
 obtain ⟨cs,hs',hl,-⟩:=hL.nth
 have hcn:=fun (Q:AV→St→Prop) s y n=>Zhk (k:=Q) (s:=s) h139 (p:=fun d:Dk=>¬CC d) (xs:=D) (fun Q k=>@GT _ ix138 e 182 s Q h182 v 138 [] [] (D,(),()) ⟨_,_,rfl,⟨_,rfl,hL⟩,_,_,rfl,rfl,rfl⟩ hsm .nil rfl k) y n
 unfold KV at t f
 change VW P e 0 _ (Al [v] 0 .lf) St0 none [] _
 conv=>whnf
 repeat' (first|(refine Ac rfl hs' ?_;conv=>whnf)|(refine hcn _ _ (fun q=>?_) (fun q=>?_) <;> conv=>whnf)|((first|refine w1 rfl rfl ?_ ?_|refine w3 rfl rfl ?_ ?_) <;> intro _ <;> first|(exfalso;omega)|(conv=>whnf))|fail)
 all_goals first
  | exact f (fun h=>by omega) _
  | exact f (fun h=>by obtain ⟨d,hd,hn⟩:=q;exact hn (h.2 d hd)) _
  | exact t ⟨by omega,fun d hd=>Classical.byContradiction fun h=>q ⟨d,hd,h⟩⟩ _
theorem XD {t:AT}{s:St}{k:AV→St→Prop}{x y:AO}{kd:Nat}{neg:Bool}{a b:AV}{r:Bool}(hx:ev x t=.some a) (hy:ev y t=.some b) (h:KU kd a b=some r) (hk:k (.bool (Ec neg r)) s):EPrim (.eqb kd neg x y) t s k:=by
 refine EPrim.mk (v:=.bool (Ec neg r)) (s':=s) (fun e rec=>?_) hk
 show wth x t _=_;unfold wth;rw [hx]
 show wth y t _=_;unfold wth;rw [hy]
 show (Option.rec .fail (fun c=>.ok (.bool (Ec neg c)) s) (KU kd a b):RV)=_
 rw [h]
def Da (D:List Dk):Act→Prop
 | (k,d,a,b)=>(0≤k∧k<D.length)∧(1≤d∧d≤3)∧(d=3→a=0∧b.length=0)∧(d≠3→(0≤a∧∀ x,D[k.toNat]?=some x→a<x.1.length)∧B8 b)
noncomputable def amyF:Fn (Act×List Dk×Unit):=bF (.g actC (.v dkC.sl .nil)) (fun _=>True) fun x=>Da x.2.1 x.1
def VD:AC:=match a38 with|.mk c _=>c
theorem Zem (hE:EM P e) (h38:Inl e 38 VD [.tmp 2]):OvOk P 84 amyF.O:=by
 refine Bl hE g84 ?_
 rintro ⟨⟨k,d,a,b⟩,D,_⟩ _ ⟨_,_,rfl,hg,v,_,rfl,⟨_,e0,hL⟩,rfl⟩-K t f
 cases e0
 dsimp only at t f hL
 obtain ⟨u,rfl,o1,o2,o3,hb⟩:=M3 hg
 obtain ⟨bs,hbs,hbl,-⟩:=hb.nth
 obtain ⟨cs,hs',hl,hn⟩:=hL.nth
 unfold Da at t f
 dsimp only at t f
 unfold Ad at o1 o3
 unfold B8 at t f
 change VW P e 0 _ (Al [.agg [.int .i64 k,.int .u8 (d:Int),.int .i64 a,u],v] 0 .lf) St0 none [] _
 by_cases hk:0≤k∧k<D.length
 ·obtain ⟨⟨xb,xw,xd⟩,_,r,hx,hxr,hd⟩:=hn k.toNat (by omega)
  obtain ⟨bv,wv,rfl,h1,-⟩:=Gm hxr
  obtain ⟨ys,k1,l1,-⟩:=h1.nth
  have hkn:k=(k.toNat:Nat):=by omega
  have hkl:k.toNat<D.length:=by omega
  have hq:(∀ x:Dk,D[k.toNat]?=some x→a<x.1.length)↔a<xb.length:=by
   rw [hx]
   exact ⟨fun h=>h _ rfl,fun h x e=>by cases e;exact h⟩
  rw [hq] at t f
  rcases d with _|_|_|_|d
  all_goals
   conv=>whnf
   repeat' (first|(refine Ac rfl hs' ?_;conv=>whnf)|(refine ESc.inl h38 ?_;conv=>whnf)|(refine XD rfl rfl rfl ?_;conv=>whnf)|(refine L8 rfl rfl (by omega) (by omega) ?_;conv=>whnf)|(refine Ac rfl hbs ?_;conv=>whnf)|(refine EHead.mk rfl ?_;conv=>whnf)|(refine Cm rfl hs' rfl hkn hkl hd ?_;conv=>whnf)|(refine Ac rfl k1 ?_;conv=>whnf)|((first|refine w1 rfl rfl ?_ ?_|refine w4 rfl rfl ?_ ?_|refine w5 rfl rfl ?_ ?_) <;> intro _ <;> first|(exfalso;omega)|(conv=>whnf))|(refine w14 (q':=.i64) rfl (i64_in (by omega)) ?_;conv=>whnf)|fail)
   all_goals first
    | exact t (by omega) _
    | exact f (by omega) _
 ·conv=>whnf
  repeat' (first|(refine Ac rfl hs' ?_;conv=>whnf)|((first|refine w1 rfl rfl ?_ ?_|refine w4 rfl rfl ?_ ?_) <;> intro _ <;> first|(exfalso;omega)|(conv=>whnf))|fail)
  all_goals exact f (fun q=>hk q.1) _
open Classical in
noncomputable def Ei (l:List Act) (D:List Dk):Int:=if KV D then (if 1024<l.length then 4 else if ∀ a ∈ l,Da D a then 0 else 2) else 8
noncomputable def achF:Fn (List Act×List Dk×Unit):=⟨.v actC.sl (.v dkC.sl .nil),fun x=>∀ d ∈ x.2.1,CP d,fun x=>.int .i64 (Ei x.1 x.2.1)⟩
theorem Zen (hE:EM P e) (h83:Con e 83 dvsF.O) (h84:Con e 84 amyF.O):OvOk P 36 achF.O:=by
 refine B2 g36.b ?_
 rintro ⟨l,D,_⟩ _ ⟨w,_,rfl,⟨_,e1,hA⟩,v,_,rfl,⟨_,e0,hL⟩,rfl⟩ hsm
 cases e0
 cases e1
 dsimp only at hA hL hsm
 have hvf:=hL.hf
 have hwf:=hA.hf
 obtain ⟨cs,hs',hl,hn⟩:=hA.nth
 refine ⟨rfl,C.of_G hE g36 ?_⟩
 have hdv:=fun (Q:AV→St→Prop) s a b=>@cF.u _ _ _ _ e 83 s Q [v] h83 (D,()) ⟨_,_,rfl,⟨_,rfl,hL⟩,rfl⟩ hsm a b
 have hmy:=fun (x:Act) (l:List AV) (hx:actC.r x l) (Q:AV→St→Prop) s a b=>@bF.u _ _ _ _ e 84 s Q [.agg l,v] h84 (x,D,()) ⟨_,_,rfl,hx,_,_,rfl,⟨_,rfl,hL⟩,rfl⟩ trivial a b
 have fin:∀ st n,Ei l D=n→Frz st (.int .i64 n) (achF.out (l,D,())):=by
  rintro st n rfl;exact .plain _ rfl
 generalize achF.out _=O at fin ⊢
 unfold Ei at fin
 dsimp only at hdv hmy
 generalize KV D=A1 at *
 change VW P e 0 _ (Al [w,v] 0 .lf) St0 none [] _
 conv=>whnf
 repeat' (first|(refine hdv _ _ (fun q1=>?_) (fun q1=>?_) <;> conv=>whnf)|(refine Ac rfl hs' ?_;conv=>whnf)|((first|refine w3 rfl rfl ?_ ?_|refine w6 rfl rfl ?_ ?_) <;> intro _ <;> first|(exfalso;omega)|(conv=>whnf))|fail)
 ·exact fin _ _ (by rw [Zjj q1,Zjj (by omega)])
 ·have hle:¬1024<l.length:=by omega
  refine A0 hE l.length (fun i=>[(1,v),(16,w),(17,.int .i64 (l.length:Int)),(18,.int .i64 (i:Int))]) (fun _=>[]) (fun i=>∀ j<i,∀ a,l[j]?=some a→Da D a) (fun k h=>by omega) (Abs.tells (rs:=[]) ⟨by decide,⟨t9,t9,r9,r9,trivial⟩,trivial⟩) ?_
  intro i hi hI
  by_cases hlt:i<l.length
  ·obtain ⟨x,c,r,hx,hxr,hd⟩:=hn i hlt
   have hmy:=hmy x c hxr
   have hth:Da D x→∀ j<i+1,∀ a,l[j]?=some a→Da D a:=fun g=>AK hI fun y e=>by rw [hx] at e;cases e;exact g
   have hfh:¬Da D x→∀ st,Frz st (.int .i64 2) O:=fun h st=>fin _ _ (by rw [Zjj q1,Zjn hle,Zjn fun q=>h (q x (Zj1 hx))])
   obtain ⟨k,d,a,b⟩:=x
   obtain ⟨u,rfl,-⟩:=M3 hxr
   conv=>whnf
   repeat' (first|(refine Ai rfl hs' rfl hlt hd ?_;conv=>whnf)|(refine Ay (cs:=[.int .i64 k,.int .u8 (d:Int),.int .i64 a,u]) rfl ?_;conv=>whnf)|(refine hmy _ _ (fun q=>?_) (fun q=>?_) <;> conv=>whnf)|((refine w1 rfl rfl ?_ ?_) <;> intro _ <;> first|(exfalso;omega)|(conv=>whnf))|((first|refine w7 rfl rfl (by omega) ?_|refine w12 rfl ?_|refine w13 rfl ?_|refine ⟨rfl,?_⟩);conv=>whnf)|fail)
   ·exact ⟨hlt,hth q,Abs.tells (rs:=[]) ⟨by decide,⟨t9,t9,r9,r9,trivial⟩,trivial⟩⟩
   ·exact hfh q _
  ·conv=>whnf
   repeat' (first|((refine w1 rfl rfl ?_ ?_) <;> intro _ <;> first|(exfalso;omega)|(conv=>whnf))|fail)
   exact fin _ _ (by rw [Zjj q1,Zjn hle,Zjj (TW fun j hj=>hI j (by omega))])
 ·exact fin _ _ (by rw [Zjn q1])
def Ah (y:DK):Dk:=(y.bs,y.ws.map (fun w=>(w.at_,w.b)),y.dead)
variable {y:DK}
theorem My (h:y.any):DKof (Ah y) y:=⟨h,rfl,rfl,rfl⟩
theorem BAt.ls (h:BAt u b) (hb:b.length≤9223372036854775807):Ls Ce.u8 b u:=by
 have e:∀ b:List Nat,(b.map fun (x:Nat)=>[AV.int .u8 (x:Int)]).flatten=Aj b:=by
  intro b
  induction b with
  | nil=>rfl
  | cons x b ih=>rw [Zkv,List.flatten_cons,ih];rfl
 refine ⟨b.map fun (x:Nat)=>[.int .u8 (x:Int)],?_,by rw [e];exact h.1,hb⟩
 refine E3 (by simp) fun i x l h1 h2=>?_
 rw [Zke,h1] at h2
 cases h2
 exact ⟨rfl,h.2 x (Zj1 h1)⟩
theorem Zix (h:dkV.r y l):dkC.r (Ah y) l:=by
 obtain ⟨rfl,h⟩:=h
 refine ⟨[y.bv],_,rfl,⟨y.bv,rfl,y.us.map fun u=>[u],?_,?_,?_⟩,[y.wv],_,rfl,⟨y.wv,rfl,y.ws.map WR.c,?_,?_,?_⟩,rfl⟩
 ·refine E3 (by rw [Zjm,h.a.bs.length];rfl) fun i b l h1 h2=>?_
  rw [Zke] at h2
  cases hu:y.us[i]? with
  | none=>rw [hu] at h2;cases h2
  | some u=>
   rw [hu] at h2
   cases h2
   obtain ⟨b',h3,h4⟩:=h.a.bs.get hu
   have h1:y.bs[i]?=some b:=h1
   rw [h1] at h3
   cases h3
   exact ⟨u,rfl,h4.ls (by have:=h.b b (Zj1 h1);omega)⟩
 ·have e:∀ us:List AV,(us.map fun u=>[u]).flatten=us:=fun us=>by
   induction us with
   | nil=>rfl
   | cons u us ih=>rw [Zkv,List.flatten_cons,ih];rfl
  rw [e,show (Ah y).1.length=y.us.length from h.a.bs.length.symm]
  exact h.a.bl
 ·have:=h.n
  rw [show (Ah y).1.length=y.us.length from h.a.bs.length.symm];omega
 ·refine E3 (by simp [Ah]) fun i w l h1 h2=>?_
  rw [Zke] at h2
  have h1:(y.ws.map fun w=>(w.at_,w.b))[i]?=some w:=h1
  rw [Zke] at h1
  cases hu:y.ws[i]? with
  | none=>rw [hu] at h2;cases h2
  | some u=>
   rw [hu] at h1 h2
   cases h1
   cases h2
   have hm:=Zj1 hu
   exact ⟨[.int .i64 u.at_],[u.u],rfl,⟨rfl,Bg (h.a.ws u hm).at_⟩,u.u,rfl,(h.a.ws u hm).b.ls (by have:=h.w u hm;omega)⟩
 ·have e:(y.ws.map WR.c).flatten=Af y.ws:=by unfold Af;rw [List.flatMap_def]
  rw [e,show (Ah y).2.1.length=y.ws.length from Zjm ..]
  exact h.a.wl
 ·have:=h.m
  rw [show (Ah y).2.1.length=y.ws.length from Zjm ..];omega
theorem All2.map {α β γ:Type}{R:α→γ→Prop}{S:β→γ→Prop}{f:α→β}(h:∀ a c,R a c→S (f a) c):∀ {l:List α}{m:List γ},All2 R l m→All2 S (l.map f) m
 | _,_,.nil=>.nil
 | _,_,.cons h1 h2=>.cons (h _ _ h1) (All2.map h h2)
theorem UC (h:Ls dkV ys v):Ls dkC (ys.map Ah) v:=by
 obtain ⟨ls,a,s,hn⟩:=h
 refine ⟨ls,a.map fun _ _ h=>Zix h,?_,by rw [Zjm];exact hn⟩
 rw [Zjm];exact s
theorem Zik (h:Ls dkC D v) (hs:∀ d ∈ D,CP d):∃ ys,Ls dkV ys v∧D=ys.map Ah:=by
 obtain ⟨ls,a,s,hn⟩:=h
 have key:∀ {D:List Dk}{ls:List (List AV)},All2 dkC.r D ls→(∀ d ∈ D,CP d)→∃ ys,All2 dkV.r ys ls∧D=ys.map Ah:=by
  intro D
  induction D with
  | nil=>intro ls h _;cases h;exact ⟨[],.nil,rfl⟩
  | cons d D ih=>
   intro ls h hs
   cases h with
   | cons h1 h2=>
    obtain ⟨ys,g1,g2⟩:=ih h2 fun x hx=>hs x (by simp [hx])
    obtain ⟨y,hy,rfl⟩:=Ia h1
    refine ⟨y::ys,.cons ⟨rfl,Pg hy (hs d (by simp))⟩ g1,?_⟩
    rw [Zkv,← g2]
    congr 1
    obtain ⟨b,w,dd⟩:=d
    have h1:=hy.b
    have h2:=hy.w
    have h3:=hy.d
    dsimp only at h1 h2 h3
    unfold Ah
    rw [h1,h2,h3]
 obtain ⟨ys,g1,g2⟩:=key a hs
 refine ⟨ys,⟨ls,g1,?_,?_⟩,g2⟩
 ·have:ys.length=D.length:=by rw [g2,Zjm]
  rw [this];exact s
 ·have:ys.length=D.length:=by rw [g2,Zjm]
  omega
theorem Zhe {x:DKW}(hx:x.ok) (h:DQ x=0):(EV x).ok:=by
 have hw:BH x.d x.a x.b=0:=by unfold DQ at h;split at h <;> first|assumption|(rename_i hn;exact absurd h hn)
 obtain ⟨q1,q2,q3,q4⟩:=Jp hw
 have hbl:=GO q3
 obtain ⟨p1,p2⟩:=Mr hbl hx.b.2
 have hm:=hx.d.m
 have h24:x.d.ws.length≤1024:=(dskB_iff.1 q1).1.2.2
 refine ⟨⟨?_,I6 hx.d.a.bs,?_,fun w hw=>?_⟩,?_,?_,hx.d.b,fun w hw=>?_⟩
 ·exact .inr (.inr ⟨none,by show AV.fz x.d.us.length none (x.d.us.map Ao)=.fz (x.d.us.map Ao).length none (x.d.us.map Ao);rw [Zjm],(Zki _).symm⟩)
 ·have:∀ L:List WR,(Af L).length=L.length*2:=fun L=>by
   induction L with
   | nil=>rfl
   | cons w L ih=>rw [E5,Zjt,ih,Zj9];show 2+_=_;omega
  refine .inr (.inr ⟨none,?_,this _⟩)
  show AV.fz (x.d.ws.length+1) none (Af (DP x))=.fz (DP x).length none (Af (DP x))
  unfold DP
  rw [Zjt,Zjm];rfl
 ·rcases Zj7.1 hw with hw|hw
  ·obtain ⟨v,hv,rfl⟩:=Zkf.1 hw
   exact GJ (hx.d.a.ws v hv)
  ·rw [List.mem_singleton.1 hw]
   exact ⟨hx.a,p1⟩
 ·show (x.d.us.map Ao).length<_;rw [Zjm];exact hx.d.n
 ·show (DP x).length<_;unfold DP;rw [Zjt,Zjm];simp;omega
 ·rcases Zj7.1 hw with hw|hw
  ·obtain ⟨v,hv,rfl⟩:=Zkf.1 hw
   exact hx.d.w v hv
  ·rw [List.mem_singleton.1 hw]
   show (As x.b).length<_
   omega
def uB (b:List Nat):AV:=if b.length=0 then .nils else .fz b.length none (Aj b)
theorem Zh5 (h:∀ x ∈ b,x<256):BAt (uB b) b:=by
 unfold uB
 split
 ·rename_i h0
  rw [Zkd.1 h0]
  exact ⟨.inl ⟨rfl,rfl,rfl⟩,fun x hx=>by cases hx⟩
 ·exact ⟨.inr (.inr ⟨none,rfl,by rw [CU];exact (Zki _).symm⟩),h⟩
def Dh (y:DK) (a:Int) (b:List Nat):DKW:=⟨y,a,uB b,b⟩
theorem Zde {x:DKW}(hx:x.ok) (h:DQ x=0):AN (EV x)=true:=by
 have hw:BH x.d x.a x.b=0:=by unfold DQ at h;split at h <;> first|assumption|(rename_i hn;exact absurd h hn)
 obtain ⟨q1,q2,q3,q4⟩:=Jp hw
 have hbl:=GO q3
 obtain ⟨p1,p2⟩:=Mr hbl hx.b.2
 obtain ⟨⟨r1,r2,r3⟩,r4,r5,r6⟩:=dskB_iff.1 q1
 have h24:x.d.ws.length≠1024:=fun e=>by unfold DQ at h;rw [Zjj hw,Zjj e] at h;cases h
 have hus:(EV x).us.length=x.d.us.length:=Zjm ..
 refine dskB_iff.2 ⟨⟨by omega,by omega,?_⟩,r4,fun w hwm=>?_,fun hd=>?_⟩
 ·show (DP x).length≤_
  unfold DP;rw [Zjt,Zjm];simp;omega
 ·rw [hus]
  rcases Zj7.1 hwm with hwm|hwm
  ·obtain ⟨v,hv,rfl⟩:=Zkf.1 hwm
   exact r5 v hv
  ·rw [List.mem_singleton.1 hwm]
   unfold Bk
   simp only [Zk0,Zkl]
   refine ⟨⟨by omega,by omega⟩,?_⟩
   show AP (As x.b).length=false
   rw [p2];rfl
 ·have:x.d.dead=true:=hd
  rw [q4] at this;cases this
def CB (y:DK):Act→Int×DK
 | (_,k,a,b)=>if y.dead=true then (0,y) else if k=1 then (DQ (Dh y a b),EV (Dh y a b)) else if k=2 then (BH y a b,Fr (Dh y a b)) else (FO y,CQ y)
def Dg (Y:List DK) (a:Act):Int×List DK:=match Y[a.1.toNat]? with
 | none=>(0,Y)
 | some y=>((CB y a).1,Y.set a.1.toNat (CB y a).2)
def Bb (Y:List DK) (l:List Act):Nat→List DK
 | 0=>Y
 | i+1=>match l[i]? with
  | none=>Bb Y l i
  | some a=>(Dg (Bb Y l i) a).2
def Bo (Y:List DK) (l:List Act):Nat→Int
 | 0=>0
 | i+1=>if Bo Y l i≠0 then Bo Y l i else match l[i]? with
  | none=>0
  | some a=>(Dg (Bb Y l i) a).1
theorem JJ {Y:List DK}{l:List Act}{i:Nat}(h:Bo Y l i≠0):∀ n,i≤n→Bo Y l n=Bo Y l i
 | 0,hn=>by rw [show i=0 by omega]
 | n+1,hn=>by
  rcases Nat.lt_or_eq_of_le hn with hn|rfl
  ·have:=JJ h n (by omega)
   show (if Bo Y l n≠0 then Bo Y l n else _)=_
   rw [Zjj (by rw [this];exact h),this]
  ·rfl
def BM (Y:List DK):List AV:=Y.flatMap DK.c
theorem OO:∀ ys:List DK,(BM ys).length=ys.length*3
 | []=>rfl
 | y::ys=>by unfold BM;rw [List.flatMap_cons,Zjt,show (ys.flatMap DK.c).length=ys.length*3 from OO ys,Zj9];show 3+_=_;omega
theorem K1 (h:∀ y ∈ ys,y.ok):hfs (BM ys)=true:=by
 refine hfs_iff.2 fun v hv=>?_
 obtain ⟨y,hy,hv⟩:=List.mem_flatMap.1 hv
 have e:AM.hf (.agg y.c)=true:=DK.hf (h y hy).a
 have e:hfs y.c=true:=by simpa [AM.hf] using e
 exact hfs_iff.1 e v hv
theorem SJ:∀ {ys:List DK}{i:Nat}{y:DK},ys[i]?=some y→(BM ys).drop (i*3)=y.c++BM (ys.drop (i+1))
 | [],_,_,h=>by cases h
 | x::ys,0,y,h=>by cases h;rfl
 | x::ys,i+1,y,h=>by
  show (x.c++BM ys).drop ((i+1)*3)=_
  rw [show (i+1)*3=x.c.length+i*3 by show _=3+_;omega,List.drop_append,Nat.add_sub_cancel_left,SJ (ys:=ys) h,Zkb (show x.c.length≤x.c.length+i*3 by omega)];rfl
theorem T6:∀ {ys:List DK}{i:Nat}{y:DK},i<ys.length→(BM ys).take (i*3)++y.c++(BM ys).drop (i*3+3)=BM (ys.set i y)
 | [],_,_,h=>by cases h
 | x::ys,0,y,h=>rfl
 | x::ys,i+1,y,h=>by
  show (x.c++BM ys).take ((i+1)*3)++y.c++(x.c++BM ys).drop ((i+1)*3+3)=x.c++BM (ys.set i y)
  rw [show (i+1)*3=x.c.length+i*3 by show _=3+_;omega,List.take_append,Zlc,List.drop_append,Zjo (by omega),Nat.add_sub_cancel_left,List.append_assoc,List.append_assoc,← List.append_assoc (List.take _ _),← T6 (ys:=ys) (i:=i) (y:=y) (by simpa using h),List.append_assoc]
  rw [Zkb (show x.c.length≤x.c.length+(i*3+3) by omega),List.nil_append,Nat.add_sub_cancel_left]
  simp only [List.append_assoc]
theorem Za8 (ys:List DK):D1 ys=BM (ys.map A5):=by unfold D1 BM;rw [List.flatMap_map]
def Hs (Y:List DK):Prop:=∀ y ∈ Y,y.ok∧AN y=true
theorem TO (hy:y.ok) (ha:Ad a) (hb:∀ x ∈ b,x<256) (hs:B8 b):(Dh y a b).ok:=⟨hy,ha,Zh5 hb,by unfold B8 at hs;show b.length<_;omega⟩
theorem Zo {d:Nat}(hy:y.ok∧AN y=true) (ha:Ad a) (hb:∀ x ∈ b,x<256) (hs:d≠3→B8 b) (hd:1≤d∧d≤3) (he:(CB y (k,d,a,b)).1=0):((CB y (k,d,a,b)).2.ok∧AN (CB y (k,d,a,b)).2=true)∧(CB y (k,d,a,b)).2.us.length=y.us.length:=by
 unfold CB at he ⊢
 dsimp only at he ⊢
 split
 ·exact ⟨hy,rfl⟩
 ·rename_i hdd
  rw [Zjn hdd] at he
  by_cases h1:d=1
  ·rw [Zjj h1] at he ⊢
   have hx:=TO hy.1 ha hb (hs (by omega))
   exact ⟨⟨Zhe hx he,Zde hx he⟩,Zjm ..⟩
  ·rw [Zjn h1] at he ⊢
   by_cases h2:d=2
   ·rw [Zjj h2] at he ⊢
    have hx:=TO hy.1 ha hb (hs (by omega))
    exact ⟨⟨Zcr hx he,ZT hx he⟩,Oy _⟩
   ·rw [Zjn h2] at he ⊢
    exact ⟨⟨Pw hy.1,Zc0 hy.1 hy.2⟩,T0 _⟩
theorem JS {ys Y0:List DK}{l:List Act}(hY:Hs Y0) (hl:∀ x ∈ l,Ad x.2.2.1∧(∀ z ∈ x.2.2.2,z<256)∧Da (ys.map Ah) x):∀ i,Bo Y0 l i=0→Hs (Bb Y0 l i)∧(Bb Y0 l i).length=Y0.length∧∀ (j:Nat) (y:DK),(Bb Y0 l i)[j]?=some y→∃ z,Y0[j]?=some z∧y.us.length=z.us.length
 | 0,_=>⟨hY,rfl,fun j y h=>⟨y,h,rfl⟩⟩
 | i+1,he=>by
  have h0:Bo Y0 l i=0:=Classical.byContradiction fun h=>by
   have:=JJ h (i+1) (by omega)
   rw [this] at he;exact h he
  obtain ⟨g1,g2,g3⟩:=JS hY hl i h0
  have he:(match l[i]? with|none=>0|some a=>(Dg (Bb Y0 l i) a).1)=0:=by
   have he:(if Bo Y0 l i≠0 then Bo Y0 l i else match l[i]? with|none=>0|some a=>(Dg (Bb Y0 l i) a).1)=0:=he
   rw [Zjn (by rw [h0];decide)] at he
   exact he
  rw [show Bb Y0 l (i+1)=match l[i]? with|none=>Bb Y0 l i|some a=>(Dg (Bb Y0 l i) a).2 from rfl]
  cases hx:l[i]? with
  | none=>exact ⟨g1,g2,g3⟩
  | some x=>
   rw [hx] at he
   dsimp only at he ⊢
   obtain ⟨p1,p2,p3⟩:=hl x (Zj1 hx)
   generalize Bb Y0 l i=Y at *
   unfold Dg at he ⊢
   cases hy:Y[x.1.toNat]? with
   | none=>exact ⟨g1,g2,g3⟩
   | some y=>
    rw [hy] at he
    dsimp only at he ⊢
    have hgy:=g1 y (Zj1 hy)
    obtain ⟨k,d,a,b⟩:=x
    unfold Da at p3
    obtain ⟨q1,q2⟩:=Zo hgy p1 p2 (fun h=>(p3.2.2.2 h).2) p3.2.1 he
    refine ⟨fun z hz=>?_,by rw [List.length_set];exact g2,fun j z hz=>?_⟩
    ·rcases List.mem_or_eq_of_mem_set hz with h|rfl
     ·exact g1 z h
     ·exact q1
    ·by_cases hj:k.toNat=j
     ·subst hj
      dsimp only at hy hz
      rw [List.getElem?_set_self (Zjg.1 hy).1] at hz
      cases hz
      obtain ⟨w,hw,hw2⟩:=g3 _ _ hy
      exact ⟨w,hw,by rw [q2];exact hw2⟩
     ·dsimp only at hz
      rw [List.getElem?_set_ne hj] at hz
      exact g3 j z hz
noncomputable def DL (ys:List DK) (l:List Act) (n:Int):AV:=if Ei l (ys.map Ah)=0 then (if 0≤n∧n≤l.length then (if Bo (ys.map A5) (l.take n.toNat) n.toNat=0 then .tup [.fz ys.length none (BM (Bb (ys.map A5) (l.take n.toNat) n.toNat)),.int .i64 0] else .tup [.nils,.int .i64 (Bo (ys.map A5) (l.take n.toNat) n.toNat)]) else .tup [.nils,.int .i64 2]) else .tup [.nils,.int .i64 (Ei l (ys.map Ah))]
noncomputable def runF:Fn (List DK×List Act×Int×Unit):=⟨.v dkV.sl (.v actC.sl (.v i64C .nil)),fun _=>True,fun x=>DL x.1 x.2.1 x.2.2.1⟩
def cd85:AC:=match a85 with|.mk c _=>c
def cd86:AC:=match a86 with|.mk c _=>c
def cd87:AC:=match a87 with|.mk c _=>c
theorem SU {x:DK}(h:AN x=true):AN (A5 x)=true:=by
 obtain ⟨r,r4,r5,r6⟩:=dskB_iff.1 h
 have hus:(A5 x).us.length=x.us.length:=Zjm ..
 have hws:(A5 x).ws.length=x.ws.length:=Zjm ..
 refine dskB_iff.2 ⟨by omega,r4,fun w hw=>?_,fun hd=>?_⟩
 ·obtain ⟨v,hv,rfl⟩:=Zkf.1 hw
  rw [hus];exact r5 v hv
 ·have:=r6 hd
  exact ⟨by omega,this.2⟩
theorem UR {l:List Act}(hok:∀ y ∈ ys,y.ok) (h:Ei l (ys.map Ah)=0):(1≤ys.length∧ys.length≤17)∧Hs ys∧(∀ a ∈ l,Da (ys.map Ah) a):=by
 unfold Ei at h
 split at h
 ·rename_i hd
  split at h
  ·cases h
  ·split at h
   ·rename_i hm
    refine ⟨by have:=hd.1;rw [Zjm] at this;exact this,fun y hy=>⟨hok y hy,?_⟩,hm⟩
    have:=hd.2 (Ah y) (Zkf.2 ⟨y,hy,rfl⟩)
    rw [← IU (My (hok y hy).a)] at this
    exact this
   ·cases h
 ·cases h
set_option maxHeartbeats 2000000 in
theorem Zbp (hE:EM P e) (h36:Con e 36 achF.O) (h37:Con e 37 (relS MI)) (h38:Inl e 38 VD [.tmp 2]) (h63:Con e 63 fuaF.O) (h85:Inl e 85 cd85 [.cells 4 3,.tmp 5]) (h86:Inl e 86 cd86 [.cells 4 3,.tmp 5]) (h87:Inl e 87 cd87 [.cells 4 3,.tmp 5]) (h140:Con e 140 dwF.O) (h141:Con e 141 fluF.O):OvOk P 11 runF.O:=by
 refine B2 g11.b ?_
 rintro ⟨ys,l,n,_⟩ _ ⟨v,_,rfl,⟨_,e0,hL⟩,w,_,rfl,⟨_,e1,hA⟩,_,_,rfl,⟨e2,z2⟩,rfl⟩ -
 cases e0
 cases e1
 cases e2
 dsimp only at hL hA
 have hvf:=hL.hf
 have hwf:=hA.hf
 have hoks:∀ y ∈ ys,y.ok:=fun y hy=>by obtain ⟨l,-,h⟩:=hL.mem hy;exact h
 obtain ⟨cs,hs',hl',-⟩:=hA.nth
 have hh:AM.hf (runF.out (ys,l,n,()))=true:=by
  show AM.hf (DL ys l n)=true
  unfold DL;split
  ·split
   ·split <;> rfl
   ·rfl
  ·rfl
 refine ⟨hh,C.of_G hE g11 ?_⟩
 have hch:∀ (Q:AV→St→Prop) s,Q (.int .i64 (Ei l (ys.map Ah))) s→ESc e 36 [w,v] s Q:=fun Q s k=>Fn.u (F:=achF) h36 (l,ys.map Ah,()) ⟨_,_,rfl,⟨_,rfl,hA⟩,_,_,rfl,⟨_,rfl,UC hL⟩,rfl⟩ (fun d hd=>by
  obtain ⟨y,hy,rfl⟩:=Zkf.1 hd
  have h1:=hoks y hy
  refine ⟨by have h2:=h1.n;rw [h1.a.bs.length] at h2;exact h2,by show (List.map _ y.ws).length<_;rw [Zjm];exact h1.m,h1.b,fun w hw=>?_⟩
  obtain ⟨x,hx,rfl⟩:=Zkf.1 hw
  exact h1.w x hx) k
 have fin:∀ st u,u=DL ys l n→Frz st u (DL ys l n):=by
  rintro st u rfl;exact .plain _ hh
 change VW P e 0 _ (Al [v,w,.int .i64 n] 0 .lf) St0 none [] (Cj _ fun u s'=>Frz s' u (DL ys l n))
 by_cases hc:Ei l (ys.map Ah)=0
 ·obtain ⟨hn17,hgd,hmy⟩:=UR hoks hc
  have hO:DL ys l n=if 0≤n∧n≤l.length then (if Bo (ys.map A5) (l.take n.toNat) n.toNat=0 then .tup [.fz ys.length none (BM (Bb (ys.map A5) (l.take n.toNat) n.toNat)),.int .i64 0] else .tup [.nils,.int .i64 (Bo (ys.map A5) (l.take n.toNat) n.toNat)]) else .tup [.nils,.int .i64 2]:=by unfold DL;rw [Zjj hc]
  rw [hc] at hch
  generalize DL ys l n=O at *
  by_cases hn:0≤n∧n≤l.length
  ·rw [Zjj hn] at hO
   obtain ⟨m,rfl⟩:∃ m:Nat,n=m:=⟨n.toNat,by omega⟩
   rw [Int.toNat_natCast] at hO
   have hml:m≤l.length:=by omega
   have htl:(l.take m).length=m:=by rw [Zj5];omega
   have htw:∀ (Q:AV→St→Prop) s,(∀ s',s'=s.alloc (.row 60 (BM (ys.map A5)))→Q (.sl s.next 0 ys.length none) s')→ESc e 37 [v] s Q:=fun Q s k=>by
    refine ESc.relS h37 (u:=.sl s.next 0 ys.length none) (s':=s.alloc (.row 60 (D1 ys))) ⟨v,ys,rfl,hL,⟨hn17.1,by omega⟩,fun y hy=>(dskB_iff.1 (hgd y hy).2).1.1,rfl,rfl⟩ ?_
    rintro u s' ⟨v',ys',e1,hL',-,-,rfl,rfl⟩
    cases e1
    rw [hL'.inj hL]
    exact k _ (by rw [Za8])
   have hg0:Hs (ys.map A5):=fun y hy=>by
    obtain ⟨x,hx,rfl⟩:=Zkf.1 hy
    exact ⟨Pd (hgd x hx).1,SU (hgd x hx).2⟩
   have hY0:(ys.map A5).length=ys.length:=Zjm ..
   have hact:∀ x ∈ l.take m,Ad x.2.2.1∧(∀ z ∈ x.2.2.2,z<256)∧Da (ys.map Ah) x:=fun x hx=>by
    have hx:=Zkm hx
    obtain ⟨c,hc⟩:=hA.mem hx
    have hm:=hmy x hx
    obtain ⟨k,d,a,b⟩:=x
    obtain ⟨u,-,-,-,h3,h4⟩:=M3 hc
    exact ⟨h3,h4.b.2,hm⟩
   have hrg:=JS hg0 hact
   have hmm:∀ i,i<m→Bo (ys.map A5) (l.take m) (i+1)≠0→∀ st,Frz st (.tup [.nils,.int .i64 (Bo (ys.map A5) (l.take m) (i+1))]) O:=fun i hi he st=>by
    refine fin st _ ?_
    have:=JJ he m (by omega)
    rw [hO,Zjn (by rw [this];exact he),this]
   have hend:Bo (ys.map A5) (l.take m) m=0→∀ st,st.get 0=some (.row 60 (BM (Bb (ys.map A5) (l.take m) m)))→Frz st (.tup [.sl 0 0 ys.length none,.int .i64 0]) O:=fun he st hg=>by
    rw [hO,Zjj he]
    exact .tup _ _ (.cons (.sl 0 0 _ _ _ 60 _ _ _ hg (fun j x hx=>by rw [Zju];exact hx) (DG (K1 fun y hy=>((hrg m he).1 y hy).1)) (.inl rfl)) (.cons (.plain _ rfl) .nil))
   generalize hYY:ys.map A5=Y0 at *
   clear hO hc
   conv=>whnf
   repeat' (first|(refine hch _ _ ?_;conv=>whnf)|(refine Ac rfl hs' ?_;conv=>whnf)|(refine htw _ _ (fun s' hs'=>?_);subst hs';conv=>whnf)|(refine NU rfl hA rfl rfl hml (fun u hu=>?_);conv=>whnf)|((first|refine w1 rfl rfl ?_ ?_|refine w3 rfl rfl ?_ ?_|refine w6 rfl rfl ?_ ?_) <;> intro _ <;> first|(exfalso;omega)|(conv=>whnf))|fail)
   generalize hA0:l.take m=A at *
   obtain ⟨us,hus,hul,hun⟩:=hu.nth
   have huf:=hu.hf
   refine Ac rfl hus ?_
   rw [htl]
   conv=>whnf
   skip
   refine A0 hE m (fun i=>[(9,.sl 0 0 ys.length none),(33,u),(34,.int .i64 (m:Int)),(35,.int .i64 (i:Int))]) (fun i=>[.row 60 (BM (Bb Y0 A i))]) (fun i=>Bo Y0 A i=0) rfl (Abs.tells (rs:=[0]) ⟨by decide,⟨r9,t9,r9,r9,trivial⟩,⟨⟨Ab (K1 fun y hy=>((hrg 0 rfl).1 y hy).1),by rw [Aa (K1 fun y hy=>((hrg 0 rfl).1 y hy).1)];rfl⟩,trivial⟩⟩) ?_
   intro i hi hI
   by_cases hlt:i<m
   ·obtain ⟨⟨k,d,a,b⟩,c,r,hx,hxr,hd⟩:=hun i (by omega)
    obtain ⟨bv,rfl,i1,i2,i3,hb⟩:=M3 hxr
    obtain ⟨j1,j2,hmay⟩:=hact _ (Zj1 hx)
    unfold Da at hmay
    obtain ⟨⟨m1,m2⟩,m3,m4,m5⟩:=hmay
    rw [Zjm] at m2
    dsimp only at j1 j2
    obtain ⟨g1,g2,g3⟩:=hrg i hI
    have hm1:Bb Y0 A (i+1)=(Dg (Bb Y0 A i) (k,d,a,b)).2:=by
     show (match A[i]? with|none=>Bb Y0 A i|some a=>(Dg (Bb Y0 A i) a).2)=_
     rw [hx]
    have hm2:Bo Y0 A (i+1)=(Dg (Bb Y0 A i) (k,d,a,b)).1:=by
     show (if Bo Y0 A i≠0 then Bo Y0 A i else match A[i]? with|none=>0|some a=>(Dg (Bb Y0 A i) a).1)=_
     rw [Zjn (by rw [hI];decide),hx]
    have hre:=hmm i hlt
    have hgn:=hrg (i+1)
    rw [hm1,hm2] at hgn
    rw [hm2] at hre
    rw [hm1,hm2]
    generalize Bb Y0 A i=Y at *
    obtain ⟨y,hy⟩:∃ y,Y[k.toNat]?=some y:=⟨_,Zjf (by omega)⟩
    have hgy:=g1 y (Zj1 hy)
    unfold Dg at hre hgn ⊢
    dsimp only at hre hgn ⊢
    rw [hy] at hre hgn ⊢
    dsimp only at hre hgn ⊢
    have hlk:k.toNat*3+3≤(BM Y).length:=by rw [OO];omega
    have hld:((BM Y).drop (k.toNat*3)).take 3=y.c:=by rw [SJ hy];exact List.take_left' rfl
    have hset:=fun z=>T6 (ys:=Y) (i:=k.toNat) (y:=z) (by omega)
    conv=>whnf
    repeat' (first|(refine Ai rfl hus rfl (show i<A.length by omega) hd ?_;conv=>whnf)|(refine Ay (cs:=[.int .i64 k,.int .u8 (d:Int),.int .i64 a,bv]) rfl ?_;conv=>whnf)|(refine JC rfl rfl m1 m2 ?_;conv=>whnf)|((refine w1 rfl rfl ?_ ?_) <;> intro _ <;> first|(exfalso;omega)|(conv=>whnf))|fail)
    have huf':=hb.hf
    cases hdd:y.dead with
    | true=>
     have hst:CB y (k,d,a,b)=(0,y):=by unfold CB;dsimp only;rw [Zjj hdd]
     rw [hst] at hre hgn ⊢
     have hsy:Y.set k.toNat y=Y:=by rw [← Zjg.1 hy |>.2];exact List.set_getElem_self ..
     dsimp only at hre hgn ⊢
     rw [hsy]
     have hhf:=K1 fun y hy=>(g1 y hy).1
     have hyc:y.c=[y.bv,y.wv,.bool true]:=by rw [← hdd];rfl
     refine EA [y.bv,y.wv,.bool true] (by show load 0 (0+k.toNat*3) 3 _=_;rw [Zju,Kl (e:=60) (cs:=BM Y) rfl hlk,hld,hyc]) ?_;conv=>whnf
     repeat' (first|((first|refine w7 rfl rfl (by omega) ?_|refine ⟨rfl,?_⟩);conv=>whnf)|fail)
     refine ⟨hlt,rfl,Abs.tells (rs:=[0]) ⟨by decide,⟨r9,t9,r9,r9,trivial⟩,⟨⟨Ab hhf,by rw [Aa hhf];rfl⟩,trivial⟩⟩⟩
    | false=>
     have hst:CB y (k,d,a,b)=(if d=1 then (DQ (Dh y a b),EV (Dh y a b)) else if d=2 then (BH y a b,Fr (Dh y a b)) else (FO y,CQ y)):=by unfold CB;dsimp only;rw [Zjn (by rw [hdd];decide)]
     have hyc:y.c=[y.bv,y.wv,.bool false]:=by rw [← hdd];rfl
     have hk:d≠3→DKW.ok ⟨y,a,bv,b⟩:=fun h=>⟨hgy.1,j1,hb.b,by have:=(m5 h).2;unfold B8 at this;show b.length<_;omega⟩
     obtain ⟨E,D,z1,z2,z3,hED,hz,c1,c2,c3⟩:∃ E D z1 z2 z3,CB y (k,d,a,b)=(E,D)∧(E=0→[z1,z2,z3]=D.c)∧(d=1→∀ (Q:AV→St→Prop) s,Q (.tup [.agg [z1,z2,z3],.int .i64 E]) s→ESc e 140 [.agg y.c,.int .i64 a,bv] s Q)∧(d=2→∀ (Q:AV→St→Prop) s,Q (.tup [.agg [z1,z2,z3],.int .i64 E]) s→ESc e 63 [.agg y.c,.int .i64 a,bv] s Q)∧(d=3→∀ (Q:AV→St→Prop) s,Q (.tup [.agg [z1,z2,z3],.int .i64 E]) s→ESc e 141 [.agg y.c] s Q):=by
      have q:∀ (E:Int) (D:DK),∃ z1 z2 z3,(E=0→[z1,z2,z3]=D.c)∧(if E=0 then .tup [D.v,.int .i64 0] else .tup [.agg CA,.int .i64 E]:AV)=.tup [.agg [z1,z2,z3],.int .i64 E]:=fun E D=>by
       by_cases h:E=0
       ·exact ⟨_,_,_,fun _=>rfl,by rw [Zjj h,h];rfl⟩
       ·exact ⟨_,_,_,fun g=>absurd g h,by rw [Zjn h];rfl⟩
      obtain rfl|rfl|rfl:d=1∨d=2∨d=3:=by omega
      ·obtain ⟨z1,z2,z3,p1,p2⟩:=q (DQ (Dh y a b)) (EV (Dh y a b))
       exact ⟨_,_,z1,z2,z3,hst,p1,fun _ Q s k=>ESc.fam dwF h140 ⟨y,a,bv,b⟩ (hk (by decide)) p2 k,fun h=>(by cases h),fun h=>(by cases h)⟩
      ·obtain ⟨z1,z2,z3,p1,p2⟩:=q (BH y a b) (Fr (Dh y a b))
       exact ⟨_,_,z1,z2,z3,hst,p1,fun h=>(by cases h),fun _ Q s k=>ESc.fam fuaF h63 ⟨y,a,bv,b⟩ (hk (by decide)) p2 k,fun h=>(by cases h)⟩
      ·obtain ⟨z1,z2,z3,p1,p2⟩:=q (FO y) (CQ y)
       exact ⟨_,_,z1,z2,z3,hst,p1,fun h=>(by cases h),fun h=>(by cases h),fun _ Q s k=>ESc.fam fluF h141 y hgy.1 p2 k⟩
     rw [hED] at hre hgn ⊢
     dsimp only at hre hgn ⊢
     rw [hyc] at c1 c2 c3
     clear hst hk
     obtain rfl|rfl|rfl:d=1∨d=2∨d=3:=by omega
     all_goals
      refine EA [y.bv,y.wv,.bool false] (by show load 0 (0+k.toNat*3) 3 _=_;rw [Zju,Kl (e:=60) (cs:=BM Y) rfl hlk,hld,hyc]) ?_;conv=>whnf
      repeat' (first|(refine ESc.inl h38 ?_;conv=>whnf)|(refine L8 rfl rfl (by omega) (by omega) ?_;conv=>whnf)|(refine ECall.inl h85.O h85.G ?_;conv=>whnf)|(refine ECall.inl h86.O h86.G ?_;conv=>whnf)|(refine ECall.inl h87.O h87.G ?_;conv=>whnf)|(refine c1 rfl _ _ ?_;conv=>whnf)|(refine c2 rfl _ _ ?_;conv=>whnf)|(refine c3 rfl _ _ ?_;conv=>whnf)|(refine JC rfl rfl m1 m2 ?_;conv=>whnf)|(refine EA _ (by show storeAt 0 (0+k.toNat*3) [z1,z2,z3] _=_;rw [Zju];exact JQ (e:=60) (cs:=BM Y) rfl hlk) ?_;conv=>whnf)|((first|refine w4 rfl rfl ?_ ?_|refine w6 rfl rfl ?_ ?_) <;> intro _ <;> first|(exfalso;omega)|(conv=>whnf))|((first|refine w7 rfl rfl (by omega) ?_|refine w14 (q':=.i64) rfl (i64_in (by omega)) ?_|refine ⟨rfl,?_⟩);conv=>whnf)|fail)
      ·exact hre (by assumption) _
      ·rename_i he
       have hz:=hz he
       have hhf:=K1 fun y hy=>((hgn he).1 y hy).1
       exact ⟨hlt,he,Abs.tells (rs:=[0]) ⟨by decide,⟨r9,t9,r9,r9,trivial⟩,⟨⟨Ab hhf,by rw [Aa hhf,← hset D,← hz];rfl⟩,trivial⟩⟩⟩
   ·have him:i=m:=by omega
    subst him
    conv=>whnf
    repeat' (first|((refine w1 rfl rfl ?_ ?_) <;> intro _ <;> first|(exfalso;omega)|(conv=>whnf))|fail)
    exact hend hI _ rfl
  ·rw [Zjn hn] at hO
   conv=>whnf
   repeat' (first|(refine hch _ _ ?_;conv=>whnf)|(refine Ac rfl hs' ?_;conv=>whnf)|((first|refine w1 rfl rfl ?_ ?_|refine w3 rfl rfl ?_ ?_|refine w6 rfl rfl ?_ ?_) <;> intro _ <;> first|(exfalso;omega)|(conv=>whnf))|fail)
   all_goals exact fin _ _ hO.symm
 ·have hO:DL ys l n=.tup [.nils,.int .i64 (Ei l (ys.map Ah))]:=by unfold DL;rw [Zjn hc]
  generalize DL ys l n=O at *
  generalize Ei l _=A at *
  conv=>whnf
  repeat' (first|(refine hch _ _ ?_;conv=>whnf)|((refine w6 rfl rfl ?_ ?_) <;> intro _ <;> first|(exfalso;omega)|(conv=>whnf))|fail)
  all_goals first
   | exact absurd (by assumption) hc
   | exact fin _ _ hO.symm
theorem O2:∀ z x y:List Nat,BK (BK z x) y=BK (BK z y) x
 | [],x,y=>by cases x <;> cases y <;> rfl
 | z::zs,[],y=>by cases y <;> rfl
 | z::zs,x::xs,[]=>rfl
 | z::zs,x::xs,y::ys=>by
  show ((z ^^^ x) ^^^ y)::BK (BK zs xs) ys=((z ^^^ y) ^^^ x)::BK (BK zs ys) xs
  rw [O2 zs xs ys,Nat.xor_assoc,Nat.xor_comm x y,← Nat.xor_assoc]
theorem YI {l m:List (List Nat)}(p:l.Perm m):AA l=AA m:=p.foldl_eq' (fun x _ y _ z=>O2 z x y) En
theorem O0 (l:List (List Nat)) (b:List Nat):AA (l++[b])=BK (AA l) b:=by unfold AA;rw [List.foldl_append];rfl
theorem RF:∀ a b:List Nat,a.length=b.length→BK a b=List.replicate a.length 0→a=b
 | [],[],_,_=>rfl
 | [],_::_,h,_=>by cases h
 | _::_,[],h,_=>by cases h
 | x::xs,y::ys,h,e=>by
  have e:(x ^^^ y)::BK xs ys=0::List.replicate xs.length 0:=e
  injection e with e1 e2
  have h1:x=y:=by
   have:x ^^^ (x ^^^ y)=y:=by rw [← Nat.xor_assoc,Nat.xor_self,Nat.zero_xor]
   rw [e1,Nat.xor_zero] at this;exact this
  rw [h1,RF xs ys (by simpa using h) e2]
theorem Zu {m:Nat}(hm:0<m) (r:Nat):((List.range m).map fun k=>(r+k) % m).Perm (List.range m):=by
 have hq:=Nat.mod_lt r hm
 have h1:List.range m=List.range (m-r % m)++(List.range (r % m)).map (m-r % m+·):=by rw [← List.range_add];congr 1;omega
 have h2:List.range m=List.range (r % m)++(List.range (m-r % m)).map (r % m+·):=by rw [← List.range_add];congr 1;omega
 have h3:(List.range m).map (fun k=>(r+k) % m)=(List.range (m-r % m)).map (r % m+·)++List.range (r % m):=by
  rw [h1,Zj4,List.map_map]
  congr 1
  ·refine List.map_congr_left fun k hk=>?_
   have hk:=List.mem_range.1 hk
   rw [← Nat.mod_add_mod,Zlb (by omega)]
  ·rw [List.map_congr_left (g:=id) (fun k hk=>?_),List.map_id]
   have hk:=List.mem_range.1 hk
   show (r+(m-r % m+k)) % m=k
   rw [← Nat.mod_add_mod,show r % m+(m-r % m+k)=k+m by omega,Nat.add_mod_right,Zlb (by omega)]
 rw [h3]
 refine List.perm_append_comm.trans ?_
 rw [← h2]
variable {c:Cfg}{s:Int}
theorem Pm (hM:c.may) (hs:0≤s) (k:Nat):(Bp c s (k:Int)).toNat=((s / c.chunk*(c.members-1)).toNat+k) % c.members.toNat∧(Bp c s (k:Int)).toNat<c.members.toNat∧0≤Bp c s (k:Int):=by
 unfold Cfg.may at hM
 have h0:0≤s / c.chunk:=Int.ediv_nonneg hs (by omega)
 have h1:0≤s / c.chunk*(c.members-1):=Int.mul_nonneg h0 (by omega)
 unfold Bp
 generalize s / c.chunk*(c.members-1)=r at *
 obtain ⟨R,rfl⟩:∃ R:Nat,r=R:=⟨r.toNat,by omega⟩
 obtain ⟨m,hm⟩:∃ m:Nat,c.members=m:=⟨c.members.toNat,by omega⟩
 have hm3:3≤m:=by omega
 rw [hm]
 have e:((R:Int)+(k:Int)) % (m:Int)=(((R+k) % m:Nat):Int):=by rw [Int.natCast_emod];rfl
 rw [e,Int.toNat_natCast,Int.toNat_natCast,Int.toNat_natCast]
 exact ⟨rfl,Nat.mod_lt _ (by omega),by omega⟩
def BS (D:List Dk) (a:Int) (i:Nat):List Nat:=(D[i]?.map fun d=>Bh d a).getD []
theorem Th {p:Nat}:∀ {i:Nat}{b:List Nat},b ∈ AD D a p i→∃ j<i,j≠p∧b=BS D a j
 | 0,b,h=>by cases h
 | i+1,b,h=>by
  unfold AD at h
  rcases Zj7.1 h with h|h
  ·obtain ⟨j,h1,h2⟩:=Th h
   exact ⟨j,by omega,h2⟩
  ·split at h
   ·cases h
   ·exact ⟨i,by omega,by assumption,List.mem_singleton.1 h⟩
theorem Tj {D:List Dk}{a:Int}{p:Nat}:∀ i,AA ((List.range i).map (BS D a))=if p<i then BK (AA (AD D a p i)) (BS D a p) else AA (AD D a p i)
 | 0=>rfl
 | i+1=>by
  have ih:=Tj (D:=D) (a:=a) (p:=p) i
  have hs:AD D a p (i+1)=AD D a p i++(if i=p then [] else [BS D a i]):=rfl
  rw [List.range_succ,Zj4,List.map_singleton,O0,ih,hs]
  clear hs
  by_cases h1:p<i
  ·rw [Zjj h1,Zjj (by omega),Zjn (by omega),O0,O2]
  ·rw [Zjn h1]
   by_cases h2:i=p
   ·subst h2
    rw [Zjj (by omega),Zjj rfl,Zkq]
   ·rw [Zjn (by omega),Zjn h2,O0]
theorem TS {D E:List Dk}{a:Int}{p:Nat}:∀ i,(∀ j<i,j≠p→BS D a j=BS E a j)→AD D a p i=AD E a p i
 | 0,_=>rfl
 | i+1,h=>by
  unfold AD
  rw [TS i fun j hj=>h j (by omega)]
  split
  ·rfl
  ·rename_i hp
   have:=h i (by omega) hp
   unfold BS at this
   rw [this]
def Gk (d:Dv) (D:List Dk):Prop:=∀ s:Int,∀ i<d.1.members.toNat,(BS D s i).length=128∧∀ y ∈ BS D s i,y<256
theorem Ks (h:Gk d D) (s:Int):(C7 d.1 D s).length=128∧∀ y ∈ C7 d.1 D s,y<256:=by
 refine GR fun b hb=>?_
 obtain ⟨j,h1,-,rfl⟩:=Th hb
 exact h _ j h1
theorem Mq (hM:c.may) (hs:0≤s):An c s<c.members.toNat:=by
 have:=(Pm hM hs (c.members-1).toNat).2.1
 unfold Cfg.may at hM
 unfold An
 rw [show ((c.members-1).toNat:Int)=c.members-1 by omega] at this
 exact this
theorem Zi (hM:d.1.may) (hs:0≤s) (h8:Gk d D) (h:KB d D s):¬Cg d D s:=by
 rintro ⟨h1,-,h3,h4⟩
 refine h4 ?_
 have h5:=h.2.1
 have hth:∀ k,DM d D s k=BS D (s+1) (Bp d.1 s (k:Int)).toNat:=fun k=>by
  obtain ⟨-,q2,q3⟩:=Pm hM hs k
  unfold DM Co Ii
  rw [h1,Zjj]
  ·rfl
  ·rintro (h|h)
   ·omega
   ·rw [h3 _ q2] at h;cases h
 have hm:0<d.1.members.toNat:=by unfold Cfg.may at hM;omega
 have h6:AA ((List.range d.1.members.toNat).map (BS D (s+1)))=En:=by
  rw [← h5]
  refine Eq.symm ?_
  unfold Fv
  rw [List.map_congr_left (g:=(BS D (s+1)) ∘ fun k=>((s / d.1.chunk*(d.1.members-1)).toNat+k) % d.1.members.toNat) (fun k _=>by rw [hth,(Pm hM hs k).1];rfl),← List.map_map]
  exact YI ((Zu hm _).map _)
 have hp:=Mq hM hs
 rw [Tj (p:=An d.1 s),Zjj hp] at h6
 have h7:=Ks h8 s
 have h9:=h8 (s+1) _ hp
 refine RF _ _ (by rw [h7.1];exact h9.1.symm) ?_
 rw [h7.1]
 exact h6
theorem WN (hM:d.1.may) (h8:Gk d D) (h:MD d D):AX d D (AG d.1).toNat=[]:=by
 unfold AX
 rw [List.filter_eq_nil_iff]
 intro s hs
 have hs:=List.mem_range.1 hs
 have:=Zi hM (Zky s) h8 (h.2.2.2.2 s (by omega))
 simp [this]
noncomputable def AW (c:Cfg) (D:List Dk) (O:List Nat):List Act:=match O with
 | []=>[]
 | _::_=>O.map (fun (s:Nat)=>((An c s:Int),1,(s:Int)+1,C7 c D s))++(List.range c.members.toNat).map (fun (i:Nat)=>((i:Int),3,0,[]))
theorem All2.maps {α β γ:Type}{R:β→γ→Prop}{f:α→β}{g:α→γ}:∀ {l:List α},(∀ x ∈ l,R (f x) (g x))→All2 R (l.map f) (l.map g)
 | [],_=>.nil
 | x::l,h=>.cons (h x (by simp)) (All2.maps fun y hy=>h y (by simp [hy]))
theorem All2.app {α β:Type}{R:α→β→Prop}:∀ {l:List α}{m:List β}{l':List α}{m':List β},All2 R l m→All2 R l' m'→All2 R (l++l') (m++m')
 | _,_,_,_,.nil,h=>h
 | _,_,_,_,.cons h1 h2,h=>.cons h1 (All2.app h2 h)
theorem Ur {d:Nat}(h1:Ad k) (h2:d<256) (h3:Ad a) (h4:Ls Ce.u8 b v):actC.r (k,d,a,b) [.int .i64 k,.int .u8 (d:Int),.int .i64 a,v]:=
 ⟨[.int .i64 k],_,rfl,⟨rfl,Bg h1⟩,[.int .u8 (d:Int)],_,rfl,⟨rfl,h2⟩,[.int .i64 a],_,rfl,⟨rfl,Bg h3⟩,v,rfl,h4⟩
variable {O:List Nat}
theorem Zht (hM:d.1.may) (h8:Gk d D) (hO:∀ s ∈ O,(s:Int)<AG d.1) (hn:O.length≤64):Ls actC (AW d.1 D O) (Hu d.1 D O true):=by
 have hmm:=(BJ hM).1
 have hM':=hM
 unfold Cfg.may at hM'
 cases O with
 | nil=>exact Jo (.inl rfl)
 | cons a T=>
  have hcl:((a::T).map (fun (s:Nat)=>[AV.int .i64 (An d.1 s:Int),.int .u8 1,.int .i64 ((s:Int)+1),Am (C7 d.1 D s)])++(List.range d.1.members.toNat).map fun (i:Nat)=>[AV.int .i64 (i:Int),.int .u8 3,.int .i64 0,.nils]).flatten=CS d.1 D (a::T)++ER d.1.members.toNat:=by
   rw [List.flatten_append];unfold CS ER;rw [List.flatMap_def,List.flatMap_def]
  have hll:(AW d.1 D (a::T)).length=T.length+1+d.1.members.toNat:=by
   unfold AW;simp;omega
  refine ⟨_,All2.app (All2.maps (l:=a::T) (g:=fun (s:Nat)=>[AV.int .i64 (An d.1 s:Int),.int .u8 1,.int .i64 ((s:Int)+1),Am (C7 d.1 D s)]) fun s hs=>?_) (All2.maps (l:=List.range d.1.members.toNat) (g:=fun (i:Nat)=>[AV.int .i64 (i:Int),.int .u8 3,.int .i64 0,.nils]) fun i hi=>?_),?_,?_⟩
  ·have h1:=hO s hs
   have h2:=Mq hM (s:=(s:Int)) (Zky s)
   have h3:=Ks h8 (s:Int)
   exact Ur (d:=1) (by unfold Ad;omega) (by decide) (by unfold Ad;omega) ((TZ h3).ls (by rw [h3.1];decide))
  ·have h1:=List.mem_range.1 hi
   exact Ur (d:=3) (by unfold Ad;omega) (by decide) (by unfold Ad;omega) (Jo (.inl rfl))
  ·rw [hcl]
   refine .inr (.inr ⟨none,?_,?_⟩)
   ·rw [hll];rfl
   ·rw [hll,Zjt,OY,SC,Zj9]
    show _=_*4
    omega
  ·rw [hll]
   simp only [Zj9] at hn
   omega
variable {x:Act}
theorem Mj (h:x ∈ AW c D O):(∃ s ∈ O,x=((An c s:Int),1,(s:Int)+1,C7 c D s))∨(O≠[]∧∃ i<c.members.toNat,x=((i:Int),3,0,[])):=by
 cases O with
 | nil=>cases h
 | cons a T=>
  rcases Zj7.1 h with h|h
  ·obtain ⟨s,h1,h2⟩:=Zkf.1 h
   exact .inl ⟨s,h1,h2.symm⟩
  ·obtain ⟨s,h1,h2⟩:=Zkf.1 h
   exact .inr ⟨List.cons_ne_nil _ _,s,List.mem_range.1 h1,h2.symm⟩
theorem Zeo (hM:d.1.may) (hD:C8 d.1 D) (h8:Gk d D) (hO:∀ s ∈ O,(s:Int)<AG d.1):∀ x ∈ AW d.1 D O,Da D x:=by
 intro x hx
 have hl:=hD.1
 have hM':=hM
 unfold Cfg.may at hM'
 rcases Mj hx with ⟨s,hs,rfl⟩|⟨-,i,hi,rfl⟩
 ·have h1:=hO s hs
  have h2:=Mq hM (s:=(s:Int)) (Zky s)
  have h3:=Ks h8 (s:Int)
  refine ⟨⟨by omega,by omega⟩,by decide,fun h=>(by cases h),fun _=>⟨⟨by omega,fun x hx=>?_⟩,.inr h3.1⟩⟩
  have:=(hD.2 _ (by omega) x hx).1
  rw [Int.toNat_natCast,Zjn (by omega)] at this
  omega
 ·exact ⟨⟨by omega,by omega⟩,by decide,fun _=>⟨rfl,rfl⟩,fun h=>absurd rfl h⟩
theorem TJ (hM:c.may) (hn:O.length≤64):(AW c D O).length≤80:=by
 unfold Cfg.may at hM
 cases O with
 | nil=>exact Zjy _
 | cons a T=>
  have:(AW c D (a::T)).length=T.length+1+c.members.toNat:=by unfold AW;simp;omega
  simp only [Zj9] at hn
  omega
theorem Zhu (hM:d.1.may) (hD:C8 d.1 D) (h8:Gk d D) (hO:∀ s ∈ O,(s:Int)<AG d.1) (hn:O.length≤64):Ei (AW d.1 D O) D=0:=by
 have hl:=hD.1
 have h1:=TJ (D:=D) hM hn
 have hM':=hM
 unfold Cfg.may at hM'
 unfold Ei
 have hd:KV D:=⟨⟨by omega,by omega⟩,fun x hx=>by
  obtain ⟨i,hi⟩:=Zk6 hx
  exact (hD.2 i (Zjg.1 hi).1 x hi).2⟩
 rw [Zjj hd,Zjn (by omega),Zjj (Zeo hM hD h8 hO)]
theorem Zbf {d:Nat}(hy:AN y=true) (h:d≠3→(0≤a∧a<y.us.length)∧B8 b):(CB y (k,d,a,b)).1=0∨(CB y (k,d,a,b)).1=9:=by
 unfold CB
 dsimp only
 cases hdd:y.dead with
 | true=>exact .inl rfl
 | false=>
  rw [Zjn Bool.false_ne_true]
  have hw:d≠3→BH y a b=0:=fun h3=>by
   obtain ⟨h1,h2⟩:=h h3
   unfold BH Hl
   rw [Zjj hy,Zjj h1,Zjj rfl,Zjn (by rw [odd_sized.2 h2];decide),hdd];rfl
  by_cases h1:d=1
  ·rw [Zjj h1]
   show DQ (Dh y a b)=0∨DQ (Dh y a b)=9
   unfold DQ
   rw [Zjj (show BH (Dh y a b).d (Dh y a b).a (Dh y a b).b=0 from hw (by omega))]
   split
   ·exact .inr rfl
   ·exact .inl rfl
  ·rw [Zjn h1]
   by_cases h2:d=2
   ·rw [Zjj h2];exact .inl (hw (by omega))
   ·rw [Zjn h2]
    left
    show FO y=0
    unfold FO
    rw [Zjj hy,hdd];rfl
theorem Zdd (y:DK) (a:Int) (b:List Nat) (p:Int):Bh (Ah (EV (Dh y a b))) p=if p=a then As (As b) else Bh (Ah y) p:=by
 have e:(Ah (EV (Dh y a b))).2.1=(Ah y).2.1++[(a,As b)]:=by
  show (y.ws.map A7++[_]).map (fun (w:WR)=>(w.at_,w.b))=y.ws.map (fun w=>(w.at_,w.b))++_
  rw [Zj4,List.map_map];rfl
 unfold Bh
 rw [e,List.reverse_append]
 show As ((if a=p then some (As b) else Hc p (Ah y).2.1.reverse).getD _)=_
 by_cases h:p=a
 ·rw [Zjj h,Zjj h.symm];rfl
 ·rw [Zjn h,Zjn (fun g=>h g.symm)];rfl
variable {p:Int}
theorem Zcz (hy:y.ok) (h:AN y=true) (hp:0≤p):Bh (Ah (CQ y)) p=Bh (Ah y) p:=by
 rw [← LY (My (Pw hy).a) p,← LY (My hy.a) p,Zdl hy h hp]
theorem Zbc (y:DK):Ah (A5 y)=Ah y:=by
 show (y.bs,(y.ws.map A7).map (fun w=>(w.at_,w.b)),y.dead)=_
 rw [List.map_map];rfl
theorem Zey (ys:List DK):(ys.map A5).map Ah=ys.map Ah:=by
 rw [List.map_map];exact List.map_congr_left fun y _=>Zbc y
variable {Y:List DK}{i:Nat}
theorem XY {l:List Act}(h:l[i]?=some x):Bb Y l (i+1)=(Dg (Bb Y l i) x).2:=by
 show (match l[i]? with|none=>Bb Y l i|some a=>(Dg (Bb Y l i) a).2)=_
 rw [h]
theorem RI {l:List Act}(h:l[i]?=some x) (h0:Bo Y l i=0):Bo Y l (i+1)=(Dg (Bb Y l i) x).1:=by
 show (if Bo Y l i≠0 then Bo Y l i else match l[i]? with|none=>0|some a=>(Dg (Bb Y l i) a).1)=_
 rw [Zjn (by rw [h0];decide),h]
theorem Ta {ys:List DK}{l:List Act}(hY:Hs (ys.map A5)) (hl:∀ x ∈ l,Ad x.2.2.1∧(∀ z ∈ x.2.2.2,z<256)∧Da (ys.map Ah) x):∀ i,i≤l.length→Bo (ys.map A5) l i=0∨Bo (ys.map A5) l i=9
 | 0,_=>.inl rfl
 | i+1,hi=>by
  rcases Ta hY hl i (by omega) with h0|h9
  ·obtain ⟨g1,g2,g3⟩:=JS hY hl i h0
   obtain ⟨x,hx⟩:∃ x,l[i]?=some x:=⟨_,Zjf hi⟩
   rw [RI hx h0]
   have hm:=(hl x (Zj1 hx)).2.2
   generalize Bb (ys.map A5) l i=Y at *
   unfold Dg
   cases hy:Y[x.1.toNat]? with
   | none=>exact .inl rfl
   | some y=>
    obtain ⟨k,d,a,b⟩:=x
    unfold Da at hm
    refine Zbf (g1 y (Zj1 hy)).2 fun h3=>?_
    obtain ⟨⟨h4,h5⟩,h6⟩:=hm.2.2.2 h3
    obtain ⟨z,hz,hz2⟩:=g3 _ _ hy
    rw [Zke] at hz
    cases hw:ys[k.toNat]? with
    | none=>dsimp only at hz;rw [hw] at hz;cases hz
    | some w=>
     dsimp only at hz
     rw [hw] at hz
     cases hz
     have h7:=h5 (Ah w) (by rw [Zke,hw];rfl)
     have h8:(A5 w).us.length=w.us.length:=Zjm ..
     exact ⟨⟨h4,by
      have h9:=(hY (A5 w) (Zkf.2 ⟨w,Zj1 hw,rfl⟩)).1.a.bs.length
      have h7:a<w.bs.length:=h7
      have h9:(A5 w).us.length=w.bs.length:=h9
      rw [hz2];omega⟩,h6⟩
  ·exact .inr (by rw [← h9];exact JJ (by rw [h9];decide) _ (by omega))
def eff (D:List Dk) (l:List Act) (j:Nat) (p:Int):Nat→List Nat
 | 0=>BS D p j
 | i+1=>match l[i]? with
  | none=>eff D l j p i
  | some (k,d,a,b)=>if d=1∧k.toNat=j∧p=a then As (As b) else eff D l j p i
variable {j:Nat}{z:DK}
theorem SY {k:Nat}(hk:k<Y.length):BS ((Y.set k z).map Ah) p j=if k=j then Bh (Ah z) p else BS (Y.map Ah) p j:=by
 unfold BS
 rw [Zke,Zke]
 split
 ·rename_i h
  subst h
  rw [List.getElem?_set_self hk];rfl
 ·rename_i h
  rw [List.getElem?_set_ne h]
theorem SM {k:Nat}(hk:k<Y.length):Bw ((Y.set k z).map Ah) j=if k=j then z.dead else Bw (Y.map Ah) j:=by
 unfold Bw
 rw [Zke,Zke]
 split
 ·rename_i h
  subst h
  rw [List.getElem?_set_self hk];rfl
 ·rename_i h
  rw [List.getElem?_set_ne h]
theorem SZ {ys:List DK}{l:List Act}(hY:Hs (ys.map A5)) (hl:∀ x ∈ l,Ad x.2.2.1∧(∀ z ∈ x.2.2.2,z<256)∧Da (ys.map Ah) x) (hk:∀ x ∈ l,(x.2.1=1∨x.2.1=3)∧Bw (ys.map Ah) x.1.toNat=false):∀ i,i≤l.length→Bo (ys.map A5) l i=0→(∀ j,Bw ((Bb (ys.map A5) l i).map Ah) j=Bw (ys.map Ah) j)∧∀ j p,0≤p→BS ((Bb (ys.map A5) l i).map Ah) p j=eff (ys.map Ah) l j p i
 | 0,_,_=>by
  show (∀ j,Bw ((ys.map A5).map Ah) j=_)∧∀ j p,0≤p→BS ((ys.map A5).map Ah) p j=BS (ys.map Ah) p j
  rw [Zey]
  exact ⟨fun _=>rfl,fun _ _ _=>rfl⟩
 | i+1,hi,he=>by
  have h0:Bo (ys.map A5) l i=0:=Classical.byContradiction fun h=>by
   have:=JJ h (i+1) (by omega)
   rw [this] at he;exact h he
  obtain ⟨s1,s2⟩:=SZ hY hl hk i (by omega) h0
  obtain ⟨g1,g2,g3⟩:=JS hY hl i h0
  obtain ⟨x,hx⟩:∃ x,l[i]?=some x:=⟨_,Zjf hi⟩
  rw [RI hx h0] at he
  rw [XY hx]
  obtain ⟨e1,e2⟩:=hk x (Zj1 hx)
  have hm:=(hl x (Zj1 hx)).2.2
  have heff:∀ j p,eff (ys.map Ah) l j p (i+1)=if x.2.1=1∧x.1.toNat=j∧p=x.2.2.1 then As (As x.2.2.2) else eff (ys.map Ah) l j p i:=fun j p=>by
   show (match l[i]? with|none=>_|some (k,d,a,b)=>if d=1∧k.toNat=j∧p=a then As (As b) else eff (ys.map Ah) l j p i)=_
   rw [hx]
  generalize Bb (ys.map A5) l i=Y at *
  obtain ⟨k,d,a,b⟩:=x
  dsimp only at e1 e2 heff
  unfold Da at hm
  obtain ⟨⟨m1,m2⟩,-⟩:=hm
  rw [Zjm] at m2 g2
  have hkl:k.toNat<Y.length:=by omega
  obtain ⟨y,hy⟩:∃ y,Y[k.toNat]?=some y:=⟨_,Zjf hkl⟩
  have hd:y.dead=false:=by
   have:=s1 k.toNat
   rw [e2] at this
   unfold Bw at this
   rw [Zke,hy] at this
   exact this
  have hgy:=g1 y (Zj1 hy)
  have hst:Dg Y (k,d,a,b)=((CB y (k,d,a,b)).1,Y.set k.toNat (CB y (k,d,a,b)).2):=by
   unfold Dg;dsimp only;rw [hy]
  rw [hst]
  dsimp only
  have hse:BS (Y.map Ah)=fun p j=>BS (Y.map Ah) p j:=rfl
  have hyk:∀ p,BS (Y.map Ah) p k.toNat=Bh (Ah y) p:=fun p=>by unfold BS;rw [Zke,hy];rfl
  have hdk:Bw (Y.map Ah) k.toNat=y.dead:=by unfold Bw;rw [Zke,hy];rfl
  rcases e1 with rfl|rfl
  ·have hz:(CB y (k,1,a,b)).2=EV (Dh y a b):=by unfold CB;dsimp only;rw [Zjn (by rw [hd];decide)];rfl
   rw [hz]
   refine ⟨fun j=>?_,fun j p hp=>?_⟩
   ·rw [SM hkl,← s1]
    split
    ·rename_i h;subst h;rw [hdk];rfl
    ·rfl
   ·rw [SY hkl,heff,Zdd,← s2 j p hp]
    by_cases h1:k.toNat=j
    ·subst h1
     rw [Zjj rfl,hyk]
     by_cases h2:p=a
     ·rw [Zjj h2,Zjj ⟨rfl,rfl,h2⟩]
     ·rw [Zjn h2,Zjn fun h=>h2 h.2.2]
    ·rw [Zjn h1,Zjn fun h=>h1 h.2.1]
  ·have hz:(CB y (k,3,a,b)).2=CQ y:=by unfold CB;dsimp only;rw [Zjn (by rw [hd];decide)];rfl
   rw [hz]
   refine ⟨fun j=>?_,fun j p hp=>?_⟩
   ·rw [SM hkl,← s1]
    split
    ·rename_i h;subst h;rw [hdk,hd];rfl
    ·rfl
   ·rw [heff,Zjn (fun h=>absurd h.1 (by decide)),SY hkl,Zcz hgy.1 hgy.2 hp,← s2 j p hp]
    split
    ·rename_i h;subst h;exact (hyk p).symm
    ·rfl
theorem Tg (h:b.length=128):As b=b:=by
 unfold As
 rw [Zjn]
 rintro rfl
 cases h
theorem Ub {d:Dv}{D:List Dk}{O:List Nat}(hM:d.1.may) (h8:Gk d D) {s j:Nat}:∀ i,i≤(AW d.1 D O).length→eff D (AW d.1 D O) j ((s:Int)+1) i=if s ∈ O.take i∧j=An d.1 s then C7 d.1 D s else BS D ((s:Int)+1) j
 | 0,_=>by
  rw [List.take_zero,Zjn (fun h=>nomatch h.1)];rfl
 | i+1,hi=>by
  have ih:=Ub (O:=O) hM h8 (s:=s) (j:=j) i (by omega)
  obtain ⟨x,hx⟩:∃ x,(AW d.1 D O)[i]?=some x:=⟨_,Zjf hi⟩
  have hst:eff D (AW d.1 D O) j ((s:Int)+1) (i+1)=if x.2.1=1∧x.1.toNat=j∧(s:Int)+1=x.2.2.1 then As (As x.2.2.2) else eff D (AW d.1 D O) j ((s:Int)+1) i:=by
   show (match (AW d.1 D O)[i]? with|none=>_|some (k,d',a,b)=>if d'=1∧k.toNat=j∧(s:Int)+1=a then As (As b) else eff D (AW d.1 D O) j ((s:Int)+1) i)=_
   rw [hx]
  rw [hst,ih]
  clear hst ih
  rcases O with _|⟨o,T⟩
  ·cases hx
  ·have hx:((o::T).map (fun (s:Nat)=>((An d.1 s:Int),1,(s:Int)+1,C7 d.1 D s))++(List.range d.1.members.toNat).map (fun (i:Nat)=>((i:Int),3,0,[])))[i]?=some x:=hx
   generalize o::T=O at *
   by_cases hlt:i<O.length
   ·rw [Zjz (by rw [Zjm];exact hlt),Zke] at hx
    obtain ⟨q,hq⟩:∃ q,O[i]?=some q:=⟨_,Zjf hlt⟩
    rw [hq] at hx
    cases hx
    rw [List.take_add_one,hq]
    have h9:=Ks h8 (q:Int)
    dsimp only
    rw [Int.toNat_natCast,Tg h9.1,Tg h9.1]
    by_cases hs:s=q
    ·subst hs
     by_cases hj:j=An d.1 s
     ·rw [Zjj ⟨rfl,hj.symm,rfl⟩,Zjj ⟨by simp,hj⟩]
     ·rw [Zjn (fun h=>hj h.2.1.symm),Zjn (fun h=>hj h.2),Zjn (fun h=>hj h.2)]
    ·rw [Zjn (fun h=>hs (by have:=h.2.2;omega))]
     have:s ∈ O.take i++(some q).toList↔s ∈ O.take i:=by simp [hs]
     simp only [this]
   ·rw [Zka (by rw [Zjm];omega),Zke] at hx
    have h3:x.2.1=3:=by
     cases hg:(List.range d.1.members.toNat)[i-(O.map (fun (s:Nat)=>((An d.1 s:Int),1,(s:Int)+1,C7 d.1 D s))).length]? with
     | none=>rw [hg] at hx;cases hx
     | some q=>rw [hg] at hx;cases hx;rfl
    rw [Zjn (fun h=>by rw [h3] at h;exact absurd h.1 (by decide)),Zjo (by omega),Zjo (by omega)]
theorem oddL_mem {n s:Nat}:s ∈ AX d D n↔s<n∧Cg d D (s:Int):=by
 unfold AX
 rw [List.mem_filter,List.mem_range]
 simp
theorem Zs (hM:d.1.may) (h20:C8 d.1 (ys.map Ah)) (hok:∀ y ∈ ys,y.ok) (h8:Gk d (ys.map Ah)) (O:List Nat) (hO:O=AX d (ys.map Ah) (AG d.1).toNat):
 Ei (AW d.1 (ys.map Ah) O) (ys.map Ah)=0∧Ls actC (AW d.1 (ys.map Ah) O) (Hu d.1 (ys.map Ah) O true)∧(∀ n,n=(AW d.1 (ys.map Ah) O).length→(Bo (ys.map A5) (AW d.1 (ys.map Ah) O) n=0∨Bo (ys.map A5) (AW d.1 (ys.map Ah) O) n=9)∧(Bo (ys.map A5) (AW d.1 (ys.map Ah) O) n=0→Hs (Bb (ys.map A5) (AW d.1 (ys.map Ah) O) n)∧(Bb (ys.map A5) (AW d.1 (ys.map Ah) O) n).length=ys.length∧C8 d.1 ((Bb (ys.map A5) (AW d.1 (ys.map Ah) O) n).map Ah)∧AX d ((Bb (ys.map A5) (AW d.1 (ys.map Ah) O) n).map Ah) (AG d.1).toNat=[])):=by
 have hmm:=(BJ hM).1
 have hO1:∀ s ∈ O,(s:Int)<AG d.1:=fun s hs=>by
  rw [hO] at hs
  have:=(oddL_mem.1 hs).1
  omega
 have hn:O.length≤64:=by rw [hO];have:=LJ d (ys.map Ah) (AG d.1).toNat;omega
 have hch:=Zhu hM h20 h8 hO1 hn
 refine ⟨hch,Zht hM h8 hO1 hn,?_⟩
 rintro n rfl
 obtain ⟨-,hgd,hmy⟩:=UR hok hch
 have hg0:Hs (ys.map A5):=fun y hy=>by
  obtain ⟨x,hx,rfl⟩:=Zkf.1 hy
  exact ⟨Pd (hgd x hx).1,SU (hgd x hx).2⟩
 have hM':=hM
 unfold Cfg.may at hM'
 have hl:∀ x ∈ AW d.1 (ys.map Ah) O,Ad x.2.2.1∧(∀ z ∈ x.2.2.2,z<256)∧Da (ys.map Ah) x:=fun x hx=>by
  refine ⟨?_,?_,hmy x hx⟩
  ·rcases Mj hx with ⟨s,hs,rfl⟩|⟨-,i,hi,rfl⟩
   ·have:=hO1 s hs
    show Ad ((s:Int)+1)
    unfold Ad;omega
   ·show Ad 0
    unfold Ad;omega
  ·rcases Mj hx with ⟨s,hs,rfl⟩|⟨-,i,hi,rfl⟩
   ·exact (Ks h8 (s:Int)).2
   ·intro z hz;cases hz
 have hal:O≠[]→∀ i<d.1.members.toNat,Bw (ys.map Ah) i=false:=fun h=>by
  obtain ⟨s,hs⟩:=List.exists_mem_of_ne_nil O h
  rw [hO] at hs
  exact (oddL_mem.1 hs).2.2.2.1
 have hk:∀ x ∈ AW d.1 (ys.map Ah) O,(x.2.1=1∨x.2.1=3)∧Bw (ys.map Ah) x.1.toNat=false:=fun x hx=>by
  rcases Mj hx with ⟨s,hs,rfl⟩|⟨h,i,hi,rfl⟩
  ·exact ⟨.inl rfl,by dsimp only;rw [Int.toNat_natCast];exact hal (List.ne_nil_of_mem hs) _ (Mq hM (Zky s))⟩
  ·exact ⟨.inr rfl,by dsimp only;rw [Int.toNat_natCast];exact hal h _ hi⟩
 refine ⟨Ta hg0 hl _ (Zj0 _),fun he=>?_⟩
 obtain ⟨g1,g2,g3⟩:=JS hg0 hl _ he
 obtain ⟨s1,s2⟩:=SZ hg0 hl hk _ (Zj0 _) he
 have hse:∀ (s j:Nat),BS ((Bb (ys.map A5) (AW d.1 (ys.map Ah) O) (AW d.1 (ys.map Ah) O).length).map Ah) ((s:Int)+1) j=if s ∈ O∧j=An d.1 s then C7 d.1 (ys.map Ah) s else BS (ys.map Ah) ((s:Int)+1) j:=fun s j=>by
  rw [s2 j _ (by omega),Ub hM h8 _ (Zj0 _),Zjo]
  cases O with
  | nil=>exact Zjy _
  | cons a T=>unfold AW;simp
 generalize Bb (ys.map A5) (AW d.1 (ys.map Ah) O) (AW d.1 (ys.map Ah) O).length=Y at *
 rw [Zjm] at g2
 have h20l:=h20.1
 rw [Zjm] at h20l
 refine ⟨g1,g2,⟨by rw [Zjm,g2];exact h20l,fun i hi x hx=>?_⟩,?_⟩
 ·rw [Zjm] at hi
  rw [Zke] at hx
  obtain ⟨y,hy⟩:∃ y,Y[i]?=some y:=⟨_,Zjf hi⟩
  rw [hy] at hx
  cases hx
  have hgy:=g1 y (Zj1 hy)
  obtain ⟨z,hz,hz2⟩:=g3 i y hy
  have hil:i<ys.length:=by omega
  rw [Zke,Zjf hil] at hz
  cases hz
  have h1:=(h20.2 i (by rw [Zjm];exact hil) (Ah ys[i]) (by rw [Zke,Zjf hil];rfl)).1
  have e1:(Ah y).1.length=y.us.length:=hgy.1.a.bs.length.symm
  have e2:(Ah ys[i]).1.length=ys[i].us.length:=(hok _ (Zkg hil)).a.bs.length.symm
  have e3:(A5 ys[i]).us.length=ys[i].us.length:=Zjm ..
  refine ⟨?_,by rw [← IU (My hgy.1.a)];exact hgy.2⟩
  rw [e1,hz2,e3,← e2]
  exact h1
 ·unfold AX
  rw [List.filter_eq_nil_iff]
  intro s hs
  have hs:=List.mem_range.1 hs
  have hrig:C7 d.1 (Y.map Ah) s=C7 d.1 (ys.map Ah) s:=by
   unfold C7
   rw [TS (E:=ys.map Ah) _ fun j hj hp=>?_]
   rw [hse s j,Zjn fun h=>hp h.2]
  have:¬Cg d (Y.map Ah) (s:Int):=by
   rintro ⟨h1,h2,h3,h4⟩
   have hold:KQ (Y.map Ah) s (An d.1 s)=if s ∈ O then C7 d.1 (ys.map Ah) s else KQ (ys.map Ah) s (An d.1 s):=by
    have:=hse s (An d.1 s)
    simp only [and_true] at this
    exact this
   by_cases hsO:s ∈ O
   ·rw [Zjj hsO] at hold
    exact h4 (hrig.trans hold.symm)
   ·rw [Zjn hsO] at hold
    refine hsO ?_
    rw [hO]
    refine oddL_mem.2 ⟨hs,h1,h2,fun i hi=>by rw [← s1];exact h3 i hi,?_⟩
    rw [← hrig,← hold];exact h4
  simp [this]
theorem Zfk (O:List Nat):∃ cs,Sl 1 O.length cs (Is O):=by
 cases O with
 | nil=>exact ⟨[],.inl ⟨rfl,rfl,rfl⟩⟩
 | cons a T=>exact ⟨_,.inr (.inr ⟨none,rfl,Tm _⟩)⟩
theorem Zib (hD:Ls dkC D v) (h:C8 d.1 D):Gk d D:=by
 intro s i hi
 have hl:=h.1
 have hil:i<D.length:=by omega
 obtain ⟨x,hx⟩:∃ x,D[i]?=some x:=⟨_,Zjf hil⟩
 obtain ⟨l,hr⟩:=hD.mem (Zj1 hx)
 have:=JR hr (h.2 i hil x hx).2 s
 unfold BS
 rw [hx]
 exact this
theorem Zhf (h:∀ y ∈ Y,y.ok) (hn:Y.length≤1000):Ls dkV Y (.fz Y.length none (BM Y)):=by
 refine ⟨Y.map DK.c,?_,.inr (.inr ⟨none,?_,?_⟩),by omega⟩
 ·refine E3 (by simp) fun i y l h1 h2=>?_
  rw [Zke,h1] at h2
  cases h2
  exact ⟨rfl,h y (Zj1 h1)⟩
 ·rw [← List.flatMap_def];rfl
 ·rw [← List.flatMap_def];exact OO Y
theorem Ze3 (h:y.ok):CP (Ah y):=by
 refine ⟨?_,?_,h.b,fun w hw=>?_⟩
 ·show y.bs.length<_;rw [← h.a.bs.length];exact h.n
 ·show (List.map _ y.ws).length<_;rw [Zjm];exact h.m
 ·obtain ⟨x,hx,rfl⟩:=Zkf.1 hw
  exact h.w x hx
theorem Zhp (h:Cw d D≠0):Cw d D=230∨Cw d D=8∧¬(Ik d∧d.1.may∧C8 d.1 D):=by
 unfold Cw at h ⊢
 split
 ·rename_i hq
  rw [Zjj hq] at h
  split
  ·exact .inl rfl
  ·rename_i hb;rw [Zjn hb] at h;exact absurd rfl h
 ·exact .inr ⟨rfl,by assumption⟩
theorem Zar {E:List Dk}(h:Cw d D=0) (hm:C8 d.1 E):Cw d E=0:=by
 unfold Cw at h ⊢
 split at h
 ·rename_i hq
  rw [Zjj ⟨hq.1,hq.2.1,hm⟩]
  exact h
 ·cases h
set_option maxHeartbeats 2000000 in
theorem WT (hE:EM P e) (h6:Con e 6 Je) (h7:Con e 7 g25F.O) (h8:Con e 8 TidF.O) (h11:Con e 11 runF.O) (h17:Con e 17 scrF.O) (h18:Con e 18 mckF.O) (h19:Con e 19 ftcF.O) (hd:dvC.r d l) (hD:Ls dkC D v):C P 5 [.agg l,v] St0 (fun u _=>u=.bool true):=by
 refine C.of_G hE g5 ?_
 have hrow:=dvC.hf hd
 have hgr:=fun (Q:AV→St→Prop) s a b=>@bF.u _ _ _ _ e 7 s Q [.agg l,v] h7 (d,D,()) ⟨_,_,rfl,hd,v,_,rfl,⟨_,rfl,hD⟩,rfl⟩ trivial a b
 have hal:=fun (Q:AV→St→Prop) s (q:Q (.bool true) s)=>@ESc.ov e 6 [] s Q Je (.bool true) s h6 rfl q
 dsimp only at hgr
 by_cases hg:Pt d D
 ·have hg4:∀ x ∈ D,¬D2 x:=fun x hx=>by
   obtain ⟨i,hi⟩:=Zk6 hx
   exact (hg.2.2.2.2 i (Zjg.1 hi).1 x hi).1
  have hn:d.2.2.2.2.1.2.2.2.2.length≤1000:=by have:=hg.2.1;omega
  have hsm:∀ x ∈ D,CP x:=fun x hx=>Ze4 (hg4 x hx)
  have hscr:=fun (E:List Dk) (w:AV) (hE:Ls dkC E w) (hs:∀ x ∈ E,CP x) (b:Bool) (Q:AV→St→Prop) s q=>@Fn.u _ e 17 s Q scrF [.agg l,w,.bool b] h17 (d,E,b,()) ⟨_,_,rfl,hd,_,_,rfl,⟨_,rfl,hE⟩,_,_,rfl,rfl,rfl⟩ ⟨hn,hs⟩ q
  replace hscr:∀ (E:List Dk) (w:AV),Ls dkC E w→(∀ x ∈ E,CP x)→∀ (b:Bool) (Q:AV→St→Prop) s,Q (CY d E b) s→ESc e 17 [.agg l,w,.bool b] s Q:=hscr
  have hs1:=hscr D v hD hsm
  by_cases hA:Cw d D=0
  ·obtain ⟨hok,hmc,hbr⟩:=Up hsm hA
   have hM:=hok.1
   have h20:=hok.2.2.1
   have hmm:=(BJ hM).1
   have h8s:=Zib hD h20
   obtain ⟨ys,hY,rfl⟩:=Zik hD hsm
   have hoks:∀ y ∈ ys,y.ok:=fun y hy=>by obtain ⟨l,-,h⟩:=hY.mem hy;exact h
   have hyl:ys.length≤1000:=by
    have:=h20.1
    unfold Cfg.may at hM
    rw [Zjm] at this
    omega
   generalize hO:AX d (ys.map Ah) (AG d.1).toNat=O
   obtain ⟨hch,hAL,hrun⟩:=Zs hM h20 hoks h8s O hO.symm
   have hO64:O.length≤64:=by rw [← hO];have:=LJ d (ys.map Ah) (AG d.1).toNat;omega
   have hA80:=TJ (D:=ys.map Ah) hM hO64
   have hV:∀ b,CY d (ys.map Ah) b=.tup [Is O,Hu d.1 (ys.map Ah) O b,.int .i64 0]:=fun b=>by unfold CY;rw [Zjj hA,hO]
   have hs2:∀ (Q:AV→St→Prop) s,Q (.tup [Is O,Hu d.1 (ys.map Ah) O true,.int .i64 0]) s→ESc e 17 [.agg l,v,.bool true] s Q:=fun Q s q=>hs1 true Q s (by rw [hV];exact q)
   have hs3:∀ (Q:AV→St→Prop) s,Q (.tup [Is O,.nils,.int .i64 0]) s→ESc e 17 [.agg l,v,.bool false] s Q:=fun Q s q=>hs1 false Q s (by rw [hV];exact q)
   have htd:=fun (Q:AV→St→Prop) s a b=>@bF.u _ _ _ _ e 8 s Q [.agg l,v] h8 (d,ys.map Ah,()) ⟨_,_,rfl,hd,v,_,rfl,⟨_,rfl,hD⟩,rfl⟩ hg4 a b
   dsimp only at htd
   have htn:MD d (ys.map Ah)→O.length=0:=fun h=>by rw [← hO,WN hM h8s h];rfl
   obtain ⟨ocs,hos⟩:=Zfk O
   have hfo:=hos.hf
   have hfa:=hAL.hf
   obtain ⟨acs,has,hal',-⟩:=hAL.nth
   obtain ⟨hre,hrg⟩:=hrun _ rfl
   have hAi:Ad (((AW d.1 (ys.map Ah) O).length:Nat):Int):=by unfold Ad;omega
   have hrn:∀ (Q:AV→St→Prop) s,Q (DL ys (AW d.1 (ys.map Ah) O) ((AW d.1 (ys.map Ah) O).length:Nat)) s→ESc e 11 [v,Hu d.1 (ys.map Ah) O true,.int .i64 ((AW d.1 (ys.map Ah) O).length:Nat)] s Q:=fun Q s q=>Fn.u (F:=runF) h11 (ys,AW d.1 (ys.map Ah) O,((AW d.1 (ys.map Ah) O).length:Nat),()) ⟨_,_,rfl,⟨_,rfl,hY⟩,_,_,rfl,⟨_,rfl,hAL⟩,_,_,rfl,⟨rfl,Bg hAi⟩,rfl⟩ trivial q
   have hrv:DL ys (AW d.1 (ys.map Ah) O) ((AW d.1 (ys.map Ah) O).length:Nat)=if Bo (ys.map A5) (AW d.1 (ys.map Ah) O) (AW d.1 (ys.map Ah) O).length=0 then .tup [.fz ys.length none (BM (Bb (ys.map A5) (AW d.1 (ys.map Ah) O) (AW d.1 (ys.map Ah) O).length)),.int .i64 0] else .tup [.nils,.int .i64 (Bo (ys.map A5) (AW d.1 (ys.map Ah) O) (AW d.1 (ys.map Ah) O).length)]:=by
    unfold DL
    rw [Zjj hch,Zjj ⟨by omega,by omega⟩,Int.toNat_natCast,List.take_length]
   generalize Hu d.1 (ys.map Ah) O true=av at *
   generalize AW d.1 (ys.map Ah) O=A at *
   generalize Is O=ov at *
   have hs4:Bo (ys.map A5) A A.length=0→∀ (Q:AV→St→Prop) s,Q (.tup [.nils,.nils,.int .i64 0]) s→ESc e 17 [.agg l,.fz ys.length none (BM (Bb (ys.map A5) A A.length)),.bool true] s Q:=fun h0 Q s q=>by
    obtain ⟨g1,g2,g3,g4⟩:=hrg h0
    refine hscr ((Bb (ys.map A5) A A.length).map Ah) _ (UC (by rw [← g2];exact Zhf (fun y hy=>(g1 y hy).1) (by omega))) (fun x hx=>by
     obtain ⟨y,hy,rfl⟩:=Zkf.1 hx
     exact Ze3 (g1 y hy).1) true Q s ?_
    unfold CY
    rw [Zjj (Zar hA g3),g4]
    exact q
   rw [hrv] at hrn
   clear hrv hs1 hscr hrg hrun hV
   generalize hE:Bo (ys.map A5) A A.length=E at *
   generalize BM (Bb (ys.map A5) A A.length)=yc at *
   obtain ⟨c,bk,⟨ev,lo,sp,po,dn,nl,br⟩,hs,⟨ag,sq,tl,us,L⟩,fs,nx,so⟩:=d
   obtain ⟨hv,lv,fv,rfl,ho,hH,hL,hF⟩:=BE hd
   rcases hre with rfl|rfl
   ·rw [Zjj rfl] at hrn
    have hs4:=hs4 rfl
    conv=>whnf
    repeat' (first|(refine hal _ _ ?_;conv=>whnf)|(refine hgr _ _ (fun q=>?_) (fun q=>?_) <;> conv=>whnf)|(refine hs2 _ _ ?_;conv=>whnf)|(refine hs3 _ _ ?_;conv=>whnf)|(refine hs4 _ _ ?_;conv=>whnf)|(refine Ac rfl has ?_;conv=>whnf)|(refine Ac rfl hos ?_;conv=>whnf)|(refine hrn _ _ ?_;conv=>whnf)|(refine htd _ _ (fun q=>?_) (fun q=>?_) <;> conv=>whnf)|((first|refine w3 rfl rfl ?_ ?_|refine w5 rfl rfl ?_ ?_|refine w6 rfl rfl ?_ ?_) <;> intro _ <;> first|(exfalso;omega)|(conv=>whnf))|((first|refine w12 rfl ?_|refine w16 rfl ?_);conv=>whnf)|fail)
    all_goals first
     | rfl
     | exact absurd hg (by assumption)
     | exact absurd (htn (by assumption)) (by omega)
   ·rw [Zjn (by decide)] at hrn
    conv=>whnf
    repeat' (first|(refine hal _ _ ?_;conv=>whnf)|(refine hgr _ _ (fun q=>?_) (fun q=>?_) <;> conv=>whnf)|(refine hs2 _ _ ?_;conv=>whnf)|(refine hs3 _ _ ?_;conv=>whnf)|(refine Ac rfl has ?_;conv=>whnf)|(refine Ac rfl hos ?_;conv=>whnf)|(refine hrn _ _ ?_;conv=>whnf)|(refine htd _ _ (fun q=>?_) (fun q=>?_) <;> conv=>whnf)|((first|refine w3 rfl rfl ?_ ?_|refine w5 rfl rfl ?_ ?_|refine w6 rfl rfl ?_ ?_) <;> intro _ <;> first|(exfalso;omega)|(conv=>whnf))|((first|refine w12 rfl ?_|refine w16 rfl ?_);conv=>whnf)|fail)
    all_goals first
     | rfl
     | exact absurd hg (by assumption)
     | exact absurd (htn (by assumption)) (by omega)
  ·have hV:∀ b,CY d D b=.tup [.nils,.nils,.int .i64 (Cw d D)]:=fun b=>by unfold CY;rw [Zjn hA]
   have hc1:=fun (Q:AV→St→Prop) s a b=>@cF.u _ _ _ _ e 18 s Q [.agg l] h18 (d,()) ⟨_,_,rfl,hd,rfl⟩ hn a b
   have hc2:=fun (c:Cfg) (hc:c.ok) (Q:AV→St→Prop) s a b=>@cF.u _ _ _ _ e 19 s Q [.agg c.c,v] h19 (c,D,()) ⟨_,_,rfl,⟨rfl,hc⟩,_,_,rfl,⟨_,rfl,hD⟩,rfl⟩ hsm a b
   have hs2:∀ (b:Bool) (Q:AV→St→Prop) s,Q (.tup [.nils,.nils,.int .i64 (Cw d D)]) s→ESc e 17 [.agg l,v,.bool b] s Q:=fun b Q s q=>hs1 b Q s (by rw [hV];exact q)
   have hno:=Zhp hA
   dsimp only at hc1 hc2
   clear hs1 hscr hV
   generalize Cw d D=N at *
   obtain ⟨c,bk,⟨ev,lo,sp,po,dn,nl,br⟩,hs,⟨ag,sq,tl,us,L⟩,fs,nx,so⟩:=d
   obtain ⟨hv,lv,fv,rfl,ho,hH,hL,hF⟩:=BE hd
   have hc2:=hc2 c ho.1
   dsimp only at hno
   rcases hno with rfl|⟨rfl,hno⟩
   all_goals
    conv=>whnf
    repeat' (first|(refine hal _ _ ?_;conv=>whnf)|(refine hgr _ _ (fun q=>?_) (fun q=>?_) <;> conv=>whnf)|(refine hs2 _ _ _ ?_;conv=>whnf)|(refine Ac rfl (show Sl 1 0 [] .nils from .inl ⟨rfl,rfl,rfl⟩) ?_;conv=>whnf)|(refine hc1 _ _ (fun q=>?_) (fun q=>?_) <;> conv=>whnf)|(refine hc2 _ _ (fun q=>?_) (fun q=>?_) <;> conv=>whnf)|((first|refine w5 rfl rfl ?_ ?_|refine w6 rfl rfl ?_ ?_) <;> intro _ <;> first|(exfalso;omega)|(conv=>whnf))|(refine w12 rfl ?_;conv=>whnf)|fail)
    all_goals first
     | rfl
     | exact absurd hg (by assumption)
     | exact absurd ⟨by assumption,by assumption⟩ hno
 ·obtain ⟨c,bk,⟨ev,lo,sp,po,dn,nl,br⟩,hs,⟨ag,sq,tl,us,L⟩,fs,nx,so⟩:=d
  obtain ⟨hv,lv,fv,rfl,ho,hH,hL,hF⟩:=BE hd
  conv=>whnf
  repeat' (first|(refine hal _ _ ?_;conv=>whnf)|(refine hgr _ _ (fun q=>?_) (fun q=>?_) <;> conv=>whnf)|(refine w12 rfl ?_;conv=>whnf)|fail)
  all_goals first
   | rfl
   | exact absurd hg (by assumption)
end Go.AM
namespace Go.AM
open X
def Ce.Ofs {α:Type}(A:Ce α) (Ts:List Ty):Prop:=∀ l,Shapes Ts l→∃ x,A.r x l
theorem GA {α:Type}{A:Ce α}{T:Ty}(h:A.Of T):A.Ofs [T]:=fun l hl=>by
 obtain ⟨a,b,rfl,h1,h2⟩:=Lw hl
 rw [NI h2,Zkq]
 exact h a h1
variable {Ts:List Ty}
theorem B3 {α β:Type}{A:Ce α}{B:Ce β}{T:Ty}(h:A.Of T) (h':B.Ofs Ts):(A.pr B).Ofs (T::Ts):=fun l hl=>by
 obtain ⟨a,b,rfl,h1,h2⟩:=Lw hl
 obtain ⟨x,hx⟩:=h a h1
 obtain ⟨y,hy⟩:=h' b h2
 exact ⟨(x,y),a,b,rfl,hx,hy⟩
theorem FZ {α:Type}{A:Ce α}(h:A.Ofs Ts):A.Of (.st Ts):=fun l hl=>by
 cases hl with|st _ _ hs=>exact h l hs
def tBs:Ty:=.sl tByt
def tLo:List Ty:=[.int .u32,.int .i64,.bool,.int .i64,.int .i64,.bool,.bool]
def tHd:List Ty:=[.int .i64,tBs,.sl .bool,.int .u8,.bool,.int .u32]
def tAk:List Ty:=[.int .u8,.int .i64,.int .i64,tByt]
def tFl:List Ty:=[.int .i64,.st tAk,tByt,.sl (.int .u32),tBs]
def tDv:List Ty:=[.st tCfg,.bool,.st tLo,.sl (.st tHd),.st tLog,.sl (.st tFl),.int .i64,.bool]
def tDk:List Ty:=[tBs,.sl (.st [.int .i64,tByt]),.bool]
theorem Mt:bytC.Of tByt:=Ga O1
theorem PB:blkC.Of tBs:=Ga Mt
theorem Zfi:cfgC.Of (.st tCfg):=FZ fun l h=>by
 obtain ⟨c,hc,rfl⟩:=Zhl h
 exact ⟨c,rfl,hc⟩
theorem Zic:lvC.Of (.st tLv):=FZ fun l h=>by
 obtain ⟨x,hx,rfl⟩:=Zij h
 exact ⟨x,rfl,hx⟩
theorem Zid:loC.Of (.st tLo):=FZ (B3 (D4 _) (B3 (D4 _) (B3 GB (B3 (D4 _) (B3 (D4 _) (B3 GB (GA GB)))))))
theorem Zif:hdC.Of (.st tHd):=FZ (B3 (D4 _) (B3 PB (B3 (Ga GB) (B3 O1 (B3 GB (GA (D4 _)))))))
theorem Zie:lgC.Of (.st tLog):=FZ (B3 (D4 _) (B3 (D4 _) (B3 (D4 _) (B3 (D4 _) (GA (Ga Zic))))))
theorem Zii:akC.Of (.st tAk):=FZ (B3 O1 (B3 (D4 _) (B3 (D4 _) (GA Mt))))
theorem Zig:ftC.Of (.st tFl):=FZ (B3 (D4 _) (B3 Zii (B3 Mt (B3 (Ga (D4 _)) (GA PB)))))
theorem of_dv:dvC.Ofs tDv:=B3 Zfi (B3 GB (B3 Zid (B3 (Ga Zif) (B3 Zie (B3 (Ga Zig) (B3 (D4 _) (GA GB)))))))
theorem Zih:dkC.Of (.st tDk):=FZ (B3 PB (B3 (Ga (FZ (B3 (D4 _) (GA Mt)))) (GA GB)))
variable {P:Program}{t e:TypeId}{v:Value}{ps:List MemPlace}{r:Reach}{base:Nat}
theorem YD {H:Type}{enc:TypeId×Value→H}{W:World}{T:Ty}{d:DataW H}(hu:P.underlying t=some (.slice e)) (hT:TyOf P t (.sl T) 1) (hval:Value.okWide P W r base t v) (h:DataW.Trod enc P W 0 (fun _=>true) true t v d ps):
 ∃ u,Shape (.sl T) [u]∧VR (EP W) u v:=by
 obtain ⟨a,len,cap,rfl⟩:=WideShapes.okWide_slice hu hval
 obtain ⟨fuel,hf⟩:=h
 obtain ⟨l,h1,h2,h3,h4⟩:=Ry fuel hT hf
 cases l with
 | nil=>simp at h2
 | cons u l=>
  have:l=[]:=by simp at h2;exact h2
  subst this
  cases h3 with
  | cons p q=>exact ⟨u,h1,p⟩
theorem disks_arg {H:Type}{enc:TypeId×Value→H}{W:World}{d:DataW H}(hu:P.underlying t=some (.slice e)) (hT:TyOf P t (.sl (.st tDk)) 1) (hval:Value.okWide P W r base t v) (h:DataW.Trod enc P W 0 (fun _=>true) true t v d ps):
 ∃ u D,VR (EP W) u v∧Ls dkC D u:=by
 obtain ⟨u,h1,h2⟩:=YD hu hT hval h
 obtain ⟨D,v',e,hL⟩:=Ga Zih _ h1
 cases e
 exact ⟨u,D,h2,hL⟩
end Go.AM
