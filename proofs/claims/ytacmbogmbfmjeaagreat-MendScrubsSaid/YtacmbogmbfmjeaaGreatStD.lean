/-
 Functions of the program as the abstract machine reads them, and what is stated of them, checked by the kernel. No conditions.
-/
import Derived.Test.YtacmbogmbfmjeaaGreatStA
import Derived.Test.YtacmbogmbfmjeaaGreatStC
import Derived.Test.YtacmbogmbfmjeaaGreatStB
import Derived.Test.YtacmbogmbfmjeaaGreatAM5
set_option linter.unusedVariables false
set_option linter.unusedSimpArgs false
set_option linter.unnecessarySimpa false
set_option maxRecDepth 100000
namespace Go.AM
attribute [local irreducible] W
open X
def AQ (l:List Nat):Nat:=(l.map fun n=>8+min n 100000).sum
theorem JL (l:List Nat) (n:Nat):AQ (l++[n])=AQ l+(8+min n 100000):=by unfold AQ;simp
theorem Km:∀ (l:List Nat),AQ l≤100008*l.length
 | []=>Zj0 _
 | n::l=>by
  have:=Km l
  show 8+min n 100000+AQ l≤100008*(l.length+1)
  omega
theorem JY:∀ {l:List Nat}{n:Nat},n ∈ l→min n 100000≤AQ l
 | [],_,h=>by cases h
 | m::l,n,h=>by
  show min n 100000≤8+min m 100000+AQ l
  rcases Zkp.1 h with rfl|h
  ·omega
  ·have:=JY h;omega
def DK.bl (x:DK):List Nat:=x.bs.map List.length
def DK.wl (x:DK):List Nat:=x.ws.map fun w=>w.b.length
def FD (x:DK):Bool:=decide (300<x.us.length) || (decide (1100<x.ws.length) || decide (60000<AQ (x.bl.take 400)+AQ (x.wl.take 1200)))
theorem Tx {x:DK}(h:x.any) (hg:FD x=false):x.ok:=by
 unfold FD at hg
 simp only [Zk0,Zkl] at hg
 obtain ⟨h1,h2,h3⟩:=hg
 have hb:=h.bs.length
 have hbl:x.bl.take 400=x.bl:=Zjo (by unfold DK.bl;rw [Zjm];omega)
 have hwl:x.wl.take 1200=x.wl:=Zjo (by unfold DK.wl;rw [Zjm];omega)
 rw [hbl,hwl] at h3
 refine ⟨h,by omega,by omega,fun b hb=>?_,fun w hw=>?_⟩
 ·have:=JY (l:=x.bl) (n:=b.length) (List.mem_map_of_mem hb);omega
 ·have:=JY (l:=x.wl) (n:=w.b.length) (Zkf.2 ⟨w,hw,rfl⟩);omega
def grt4F:Fam DK:=⟨DK.any,fun x=>[x.v],fun x=>.bool (FD x),fun x y hx hy h=>by rw [DK.inj hx hy (Zjr h).1]⟩
variable {e:Env}
theorem ZP (hE:EM P e):OvOk P 68 grt4F.O:=by
 refine Ca g68.b fun x hx=>?_
 refine ⟨by show (AM.hf x.v && true)=true;rw [DK.hf hx];rfl,rfl,C.of_G hE g68 ?_⟩
 have fin:∀ s (b:Bool),b=FD x→Frz s (.bool b) (grt4F.out x):=by rintro s b rfl;exact .plain _ rfl
 have hbl:=hx.bl
 have hwl:=hx.wl
 have hbs:=hx.bs
 have hws:=hx.ws
 have hbn:=hx.bs.length
 obtain ⟨O,hO⟩:∃ O,O=grt4F.out x:=⟨_,rfl⟩
 rw [← hO] at fin ⊢
 clear hO
 obtain ⟨BL,hBL⟩:∃ L,L=x.bl:=⟨_,rfl⟩
 obtain ⟨WL,hWL⟩:∃ L,L=x.wl:=⟨_,rfl⟩
 have hBn:BL.length=x.bs.length:=by rw [hBL];unfold DK.bl;rw [Zjm]
 have hWn:WL.length=x.ws.length:=by rw [hWL];unfold DK.wl;rw [Zjm]
 have hBg:∀ i (h:i<x.bs.length) (h':i<BL.length),BL[i]=x.bs[i].length:=fun i h h'=>by
  have hq:x.bl[i]?=some x.bs[i].length:=by unfold DK.bl;rw [Zke,Zjf h];rfl
  rw [← hBL,Zjf h'] at hq;exact Zkn hq
 have hWg:∀ i (h:i<x.ws.length) (h':i<WL.length),WL[i]=x.ws[i].b.length:=fun i h h'=>by
  have hq:x.wl[i]?=some x.ws[i].b.length:=by unfold DK.wl;rw [Zke,Zjf h];rfl
  rw [← hWL,Zjf h'] at hq;exact Zkn hq
 unfold FD at fin
 rw [← hBL,← hWL] at fin
 clear hBL hWL hx
 obtain ⟨bv,us,bs,wv,ws,dd⟩:=x
 dsimp only at hbl hwl hbs hws hbn hBn hWn hBg hWg fin
 have hdf:hfs [bv,wv,.bool dd]=true:=by
  show (AM.hf bv && (AM.hf wv && (true && true)))=true
  rw [hbl.hf,hwl.hf];rfl
 show VW P e 0 (match a68 with|.mk c _=>c) (Al [.agg [bv,wv,.bool dd]] 0 .lf) St0 none [] _
 conv=>whnf
 refine DH (α:=Nat) (fun i=>[(1,.ptr 0 0),(3,.int .i64 (AQ (BL.take i):Nat)),(4,.int .i64 (i:Int))]) (fun _=>[.row 60 [bv,wv,.bool dd]]) (fun i=>us.length-i) (fun i=>i≤us.length∧i≤400) 0 ⟨Zjy _,Zjy _⟩
  (Abs.tells (rs:=[0]) .a) ?_
 rintro i ⟨hi,hi4⟩
 refine Cz hE ?_
 have hg1:=Km (BL.take i)
 rw [Zj5] at hg1
 by_cases hlt:i<us.length∧i<400
 ·obtain ⟨hl1,hl2⟩:=hlt
  conv=>whnf
  refine Ac rfl hbl ?_;conv=>whnf
  refine Bd (a:=(i:Int)) (b:=(us.length:Int)) rfl rfl (fun _=>?_) (fun h=>by omega);conv=>whnf
  refine Bd (a:=(i:Int)) (b:=400) rfl rfl (fun _=>?_) (fun h=>by omega);conv=>whnf
  refine BZ rfl hbl rfl hl1 ?_;conv=>whnf
  obtain ⟨b,hb1,hb2⟩:=hbs.get (Zjf hl1)
  have hlb:i<bs.length:=by omega
  have hLB:i<BL.length:=by omega
  have hbe:bs[i]=b:=by rw [Zjf hlb] at hb1;exact Zkn hb1
  have hsucc:((AQ (BL.take (i+1)):Nat):Int)=(AQ (BL.take i):Int)+(8+((min b.length 100000:Nat):Int)):=by
   rw [Zjs hLB,JL,hBg i hlb hLB,hbe];omega
  have hug:us[i]?=some us[i]:=Zjf hl1
  revert hb2 hug
  generalize us[i]=u
  intro hb2 hug
  refine EHead.mk (v:=u) (by rw [Zki,Zjq,Zko];exact hug) ?_;conv=>whnf
  refine Ac rfl hb2.1 ?_;conv=>whnf
  refine EPrim.min2 (a:=(b.length:Int)) (b:=100000) rfl ?_
  rw [show min (b.length:Int) 100000=((min b.length 100000:Nat):Int) by omega]
  conv=>whnf
  repeat' (first|((first|refine w7 rfl rfl (by omega) ?_|refine ⟨rfl,?_⟩);conv=>whnf)|fail)
  exact ⟨i+1,⟨hl1,hl2⟩,by omega,Abs.tells (rs:=[0]) ⟨by decide,⟨r9,⟨rfl,by rw [hsucc];rfl⟩,r9,trivial⟩,⟨o9,trivial⟩⟩⟩
 ·by_cases hl1:i<us.length
  ·conv=>whnf
   refine Ac rfl hbl ?_;conv=>whnf
   (refine Bd (a:=(i:Int)) (b:=(us.length:Int)) rfl rfl (fun _=>?_) (fun h=>by omega);(conv=>whnf);refine Bd (a:=(i:Int)) (b:=400) rfl rfl (fun _=>by omega) (fun _=>?_))
   have hBt:BL.take i=BL.take 400:=by
    rcases (show i=us.length∨i=400 by omega) with h|h
    ·rw [h,Zjo (by omega),Zjo (by omega)]
    ·rw [h]
   rw [hBt] at hg1 ⊢
   conv=>whnf
   refine DH (α:=Nat) (fun j=>[(1,.ptr 0 0),(3,.int .i64 ((AQ (BL.take 400):Nat)+(AQ (WL.take j):Nat))),(5,.int .i64 (j:Int))]) (fun _=>[.row 60 [bv,wv,.bool dd]]) (fun j=>ws.length-j) (fun j=>j≤ws.length∧j≤1200) 0 ⟨Zjy _,Zjy _⟩
    (Abs.tells (rs:=[0]) ⟨by decide,⟨r9,⟨rfl,by show _=some (AV.int .i64 ((AQ (BL.take 400):Int)+0));rw [Int.add_zero];rfl⟩,r9,trivial⟩,⟨o9,trivial⟩⟩) ?_
   rintro j ⟨hj,hj4⟩
   refine Cz hE ?_
   have hg2:=Km (WL.take j)
   rw [Zj5] at hg2
   by_cases hjlt:j<ws.length∧j<1200
   ·obtain ⟨hj1,hj2⟩:=hjlt
    have hd:=FQ hj1
    have hwa:=hws _ (Zkg hj1)
    have hLW:j<WL.length:=by omega
    have hsucc:((AQ (WL.take (j+1)):Nat):Int)=(AQ (WL.take j):Int)+(8+((min ws[j].b.length 100000:Nat):Int)):=by
     rw [Zjs hLW,JL,hWg j hj1 hLW];omega
    have hall:=And.intro hd (And.intro hwa hsucc)
    clear hd hwa hsucc
    revert hall
    generalize ws[j]=w
    obtain ⟨wa,wu,wb⟩:=w
    rintro ⟨hd,⟨hwa,hwb⟩,hsucc⟩
    have hd:(Af ws).drop (j*2)=[.int .i64 wa,wu]++Af (ws.drop (j+1)):=hd
    dsimp only at hwa hwb hsucc
    have hsucc':((AQ (BL.take 400):Nat):Int)+(AQ (WL.take (j+1)):Int)=((AQ (BL.take 400):Nat):Int)+(AQ (WL.take j):Int)+(8+((min wb.length 100000:Nat):Int)):=by rw [hsucc];omega
    conv=>whnf
    refine Ac rfl hwl ?_;conv=>whnf
    refine Bd (a:=(j:Int)) (b:=(ws.length:Int)) rfl rfl (fun _=>?_) (fun h=>by omega);conv=>whnf
    refine Bd (a:=(j:Int)) (b:=1200) rfl rfl (fun _=>?_) (fun h=>by omega);conv=>whnf
    refine BZ rfl hwl rfl hj1 ?_
    rw [hd]
    conv=>whnf
    repeat' (first|(refine EHead.mk (v:=wu) rfl ?_;conv=>whnf)|(refine Ac rfl hwb.1 ?_;conv=>whnf)|fail)
    refine EPrim.min2 (a:=(wb.length:Int)) (b:=100000) rfl ?_
    rw [show min (wb.length:Int) 100000=((min wb.length 100000:Nat):Int) by omega]
    conv=>whnf
    repeat' (first|((first|refine w7 rfl rfl (by omega) ?_|refine ⟨rfl,?_⟩);conv=>whnf)|fail)
    exact ⟨j+1,⟨hj1,hj2⟩,by omega,Abs.tells (rs:=[0]) ⟨by decide,⟨r9,⟨rfl,by rw [hsucc'];rfl⟩,r9,trivial⟩,⟨o9,trivial⟩⟩⟩
   ·have hWt:WL.take j=WL.take 1200:=by
     rcases (show j=ws.length∨j=1200 by omega) with h|h
     ·rw [h,Zjo (by omega),Zjo (by omega)]
     ·rw [h]
    rw [hWt] at hg2 ⊢
    by_cases hj1:j<ws.length
    ·conv=>whnf
     refine Ac rfl hwl ?_;conv=>whnf
     (refine Bd (a:=(j:Int)) (b:=(ws.length:Int)) rfl rfl (fun _=>?_) (fun h=>by omega);(conv=>whnf);refine Bd (a:=(j:Int)) (b:=1200) rfl rfl (fun _=>by omega) (fun _=>?_))
     conv=>whnf
     repeat' (first|(refine Ac rfl hbl ?_;conv=>whnf)|(refine Ac rfl hwl ?_;conv=>whnf)|((refine w3 rfl rfl ?_ ?_) <;> intro _ <;> first|(exfalso;omega)|(conv=>whnf))|fail)
     all_goals exact fin _ _ (by symm;simp only [Zk5,Zk0,Zkc,Zkl];omega)
    ·conv=>whnf
     refine Ac rfl hwl ?_;conv=>whnf
     (refine Bd (a:=(j:Int)) (b:=(ws.length:Int)) rfl rfl (fun _=>by omega) (fun _=>?_))
     conv=>whnf
     repeat' (first|(refine Ac rfl hbl ?_;conv=>whnf)|(refine Ac rfl hwl ?_;conv=>whnf)|((refine w3 rfl rfl ?_ ?_) <;> intro _ <;> first|(exfalso;omega)|(conv=>whnf))|fail)
     all_goals exact fin _ _ (by symm;simp only [Zk5,Zk0,Zkc,Zkl];omega)
  ·conv=>whnf
   refine Ac rfl hbl ?_;conv=>whnf
   (refine Bd (a:=(i:Int)) (b:=(us.length:Int)) rfl rfl (fun _=>by omega) (fun _=>?_))
   have hBt:BL.take i=BL.take 400:=by
    rcases (show i=us.length∨i=400 by omega) with h|h
    ·rw [h,Zjo (by omega),Zjo (by omega)]
    ·rw [h]
   rw [hBt] at hg1 ⊢
   conv=>whnf
   refine DH (α:=Nat) (fun j=>[(1,.ptr 0 0),(3,.int .i64 ((AQ (BL.take 400):Nat)+(AQ (WL.take j):Nat))),(5,.int .i64 (j:Int))]) (fun _=>[.row 60 [bv,wv,.bool dd]]) (fun j=>ws.length-j) (fun j=>j≤ws.length∧j≤1200) 0 ⟨Zjy _,Zjy _⟩
    (Abs.tells (rs:=[0]) ⟨by decide,⟨r9,⟨rfl,by show _=some (AV.int .i64 ((AQ (BL.take 400):Int)+0));rw [Int.add_zero];rfl⟩,r9,trivial⟩,⟨o9,trivial⟩⟩) ?_
   rintro j ⟨hj,hj4⟩
   refine Cz hE ?_
   have hg2:=Km (WL.take j)
   rw [Zj5] at hg2
   by_cases hjlt:j<ws.length∧j<1200
   ·obtain ⟨hj1,hj2⟩:=hjlt
    have hd:=FQ hj1
    have hwa:=hws _ (Zkg hj1)
    have hLW:j<WL.length:=by omega
    have hsucc:((AQ (WL.take (j+1)):Nat):Int)=(AQ (WL.take j):Int)+(8+((min ws[j].b.length 100000:Nat):Int)):=by
     rw [Zjs hLW,JL,hWg j hj1 hLW];omega
    have hall:=And.intro hd (And.intro hwa hsucc)
    clear hd hwa hsucc
    revert hall
    generalize ws[j]=w
    obtain ⟨wa,wu,wb⟩:=w
    rintro ⟨hd,⟨hwa,hwb⟩,hsucc⟩
    have hd:(Af ws).drop (j*2)=[.int .i64 wa,wu]++Af (ws.drop (j+1)):=hd
    dsimp only at hwa hwb hsucc
    have hsucc':((AQ (BL.take 400):Nat):Int)+(AQ (WL.take (j+1)):Int)=((AQ (BL.take 400):Nat):Int)+(AQ (WL.take j):Int)+(8+((min wb.length 100000:Nat):Int)):=by rw [hsucc];omega
    conv=>whnf
    refine Ac rfl hwl ?_;conv=>whnf
    refine Bd (a:=(j:Int)) (b:=(ws.length:Int)) rfl rfl (fun _=>?_) (fun h=>by omega);conv=>whnf
    refine Bd (a:=(j:Int)) (b:=1200) rfl rfl (fun _=>?_) (fun h=>by omega);conv=>whnf
    refine BZ rfl hwl rfl hj1 ?_
    rw [hd]
    conv=>whnf
    repeat' (first|(refine EHead.mk (v:=wu) rfl ?_;conv=>whnf)|(refine Ac rfl hwb.1 ?_;conv=>whnf)|fail)
    refine EPrim.min2 (a:=(wb.length:Int)) (b:=100000) rfl ?_
    rw [show min (wb.length:Int) 100000=((min wb.length 100000:Nat):Int) by omega]
    conv=>whnf
    repeat' (first|((first|refine w7 rfl rfl (by omega) ?_|refine ⟨rfl,?_⟩);conv=>whnf)|fail)
    exact ⟨j+1,⟨hj1,hj2⟩,by omega,Abs.tells (rs:=[0]) ⟨by decide,⟨r9,⟨rfl,by rw [hsucc'];rfl⟩,r9,trivial⟩,⟨o9,trivial⟩⟩⟩
   ·have hWt:WL.take j=WL.take 1200:=by
     rcases (show j=ws.length∨j=1200 by omega) with h|h
     ·rw [h,Zjo (by omega),Zjo (by omega)]
     ·rw [h]
    rw [hWt] at hg2 ⊢
    by_cases hj1:j<ws.length
    ·conv=>whnf
     refine Ac rfl hwl ?_;conv=>whnf
     (refine Bd (a:=(j:Int)) (b:=(ws.length:Int)) rfl rfl (fun _=>?_) (fun h=>by omega);(conv=>whnf);refine Bd (a:=(j:Int)) (b:=1200) rfl rfl (fun _=>by omega) (fun _=>?_))
     conv=>whnf
     repeat' (first|(refine Ac rfl hbl ?_;conv=>whnf)|(refine Ac rfl hwl ?_;conv=>whnf)|((refine w3 rfl rfl ?_ ?_) <;> intro _ <;> first|(exfalso;omega)|(conv=>whnf))|fail)
     all_goals exact fin _ _ (by symm;simp only [Zk5,Zk0,Zkc,Zkl];omega)
    ·conv=>whnf
     refine Ac rfl hwl ?_;conv=>whnf
     (refine Bd (a:=(j:Int)) (b:=(ws.length:Int)) rfl rfl (fun _=>by omega) (fun _=>?_))
     conv=>whnf
     repeat' (first|(refine Ac rfl hbl ?_;conv=>whnf)|(refine Ac rfl hwl ?_;conv=>whnf)|((refine w3 rfl rfl ?_ ?_) <;> intro _ <;> first|(exfalso;omega)|(conv=>whnf))|fail)
     all_goals exact fin _ _ (by symm;simp only [Zk5,Zk0,Zkc,Zkl];omega)
def C4 (bl:List (List Nat)) (n:Nat):List Nat:=(bl.map List.length).take n
variable {i:Nat}{b:List Nat}
theorem RO {bl:List (List Nat)}(h:bl[i]?=some b):AQ (C4 bl (i+1))=AQ (C4 bl i)+(8+min b.length 100000):=by
 unfold C4
 rw [← JL,List.take_add_one,Zke,h];rfl
def MS:Hd→Prop
 | (_,bl,di,_,_,_)=>60<bl.length∨60<di.length∨10000<AQ (C4 bl 100)
noncomputable def g16F:Fn (Hd×Unit):=bF (.g hdC .nil) (fun _=>True) fun x=>MS x.1
theorem Zcn (hE:EM P e):OvOk P 67 g16F.O:=by
 refine Bl hE g67 ?_
 rintro ⟨⟨st,bl,di,ph,de,sq⟩,_⟩ _ ⟨_,_,rfl,hh,rfl⟩-K t f
 obtain ⟨bv,dv,rfl,h1,h2,h3,h4,h5⟩:=Cf hh
 obtain ⟨bs,hs,hl,hn⟩:=h2.nth
 obtain ⟨ds,hs',hl',-⟩:=h3.nth
 have hrow:=hdC.hf hh
 unfold MS at t f
 dsimp only at t f
 conv=>whnf
 refine A0 hE (min bl.length 100) (fun i=>[(1,.ptr 0 0),(3,.int .i64 ((AQ (C4 bl i):Nat):Int)),(4,.int .i64 (i:Int))]) (fun _=>[.row 55 [.int .i64 st,bv,dv,.int .u8 (ph:Int),.bool de,.int .u32 sq]]) (fun _=>True) trivial (Abs.tells (rs:=[0]) .a) ?_
 intro i hi _
 have hg:=Km (C4 bl i)
 have hg2:(C4 bl i).length≤100:=by unfold C4;rw [Zj5];omega
 conv=>whnf
 refine Ac rfl hs ?_;conv=>whnf
 by_cases hlt:i<bl.length∧i<100
 ·obtain ⟨b,_,l,hb,⟨u,rfl,hu⟩,hd⟩:=hn i hlt.1
  obtain ⟨us,hus,-⟩:=hu.nth
  have hsc:=RO hb
  repeat' (first|(refine Ai rfl hs rfl hlt.1 hd ?_;conv=>whnf)|(refine EHead.mk rfl ?_;conv=>whnf)|(refine Ac rfl hus ?_;conv=>whnf)|(refine EPrim.min2 rfl ?_;rw [show min (b.length:Int) 100000=((min b.length 100000:Nat):Int) by omega];conv=>whnf)|((refine w1 rfl rfl ?_ ?_) <;> intro _ <;> first|(exfalso;omega)|(conv=>whnf))|((first|refine w7 rfl rfl (by omega) ?_|refine ⟨rfl,?_⟩);conv=>whnf)|fail)
  exact ⟨by omega,trivial,Abs.tells (rs:=[0]) ⟨by decide,⟨r9,⟨rfl,by rw [hsc];rfl⟩,r9,trivial⟩,⟨o9,trivial⟩⟩⟩
 ·have he:C4 bl i=C4 bl 100:=by
   unfold C4
   rcases (show i=100∨bl.length≤i by omega) with rfl|h
   ·rfl
   ·rw [Zjo (by rw [Zjm];omega),Zjo (by rw [Zjm];omega)]
  rw [he] at hg ⊢
  repeat' (first|(refine Ac rfl hs ?_;conv=>whnf)|(refine Ac rfl hs' ?_;conv=>whnf)|((first|refine w1 rfl rfl ?_ ?_|refine w3 rfl rfl ?_ ?_) <;> intro _ <;> first|(exfalso;omega)|(conv=>whnf))|fail)
  all_goals first
   | exact t (by omega) _
   | exact f (by omega) _
def Qe (hs:List Hd):Prop:=(∃ i<20,∃ h,hs[i]?=some h∧MS h)∨20<hs.length
noncomputable def g19F:Fn (List Hd×Unit):=bF (.v hdC.sl .nil) (fun _=>True) fun x=>Qe x.1
theorem Zcm (hE:EM P e) (h67:Con e 67 g16F.O):OvOk P 26 g19F.O:=by
 refine Bl hE g26 ?_
 rintro ⟨hs,_⟩ _ ⟨v,_,rfl,⟨_,e0,hh⟩,rfl⟩-K t f
 cases e0
 obtain ⟨cs,hs',hl,hn⟩:=hh.nth
 have hvf:=hh.hf
 unfold Qe at t f
 dsimp only at t f hl hn hs'
 have hc:=fun (x:Hd) l (hx:hdC.r x l) (Q:AV→St→Prop) s a b=>@bF.u _ _ _ _ e 67 s Q _ h67 (x,()) ⟨_,_,rfl,hx,rfl⟩ trivial a b
 conv=>whnf
 refine A0 hE (min hs.length 20) (fun i=>[(0,v),(3,.int .i64 (i:Int))]) (fun _=>[]) (fun i=>∀ j<i,∀ h,hs[j]?=some h→¬MS h) (fun k h=>by omega) (Abs.tells (rs:=[]) .a) ?_
 intro i hi hI
 conv=>whnf
 refine Ac rfl hs' ?_;conv=>whnf
 by_cases hlt:i<hs.length∧i<20
 ·obtain ⟨x,l,r,hx,hxr,hd⟩:=hn i hlt.1
  have hc:=hc x l hxr
  obtain ⟨st,bl,di,ph,de,sq⟩:=x
  obtain ⟨bv,dv,rfl,-⟩:=Cf hxr
  repeat' (first|(refine Ai rfl hs' rfl hlt.1 hd ?_;conv=>whnf)|(refine Ay (cs:=[.int .i64 st,bv,dv,.int .u8 (ph:Int),.bool de,.int .u32 sq]) rfl ?_;conv=>whnf)|(refine hc _ _ (fun hq=>?_) (fun hq=>?_) <;> conv=>whnf)|((refine w1 rfl rfl ?_ ?_) <;> intro _ <;> first|(exfalso;omega)|(conv=>whnf))|((first|refine w7 rfl rfl (by omega) ?_|refine ⟨rfl,?_⟩);conv=>whnf)|fail)
  ·exact t (.inl ⟨i,hlt.2,_,hx,hq⟩) _
  ·exact ⟨by omega,AK hI fun g hg=>by rw [hx] at hg;cases hg;exact hq,Abs.tells (rs:=[]) .a⟩
 ·repeat' (first|(refine Ac rfl hs' ?_;conv=>whnf)|((first|refine w1 rfl rfl ?_ ?_|refine w3 rfl rfl ?_ ?_) <;> intro _ <;> first|(exfalso;omega)|(conv=>whnf))|fail)
  all_goals first
   | exact t (.inr (by omega)) _
   | (refine f (fun q=>?_) _;rcases q with ⟨j,hj,h,hh,hg⟩|q;exact hI j (by have:=(Zjg.1 hh).1;omega) h hh hg;omega)
noncomputable def g14F:Fn (Lg×Unit):=bF (.g lgC .nil) (fun _=>True) fun x=>600<x.1.2.2.2.2.length
theorem Zco (hE:EM P e):OvOk P 27 g14F.O:=by
 refine Bl hE g27 ?_
 rintro ⟨⟨ag,sq,tl,us,L⟩,_⟩ _ ⟨_,_,rfl,hg,rfl⟩-K t f
 obtain ⟨v,rfl,o1,o2,o3,o4,hL⟩:=MA hg
 obtain ⟨cs,hs',hl,-⟩:=hL.lv
 dsimp only at t f
 conv=>whnf
 repeat' (first|(refine Ac rfl hs' ?_;conv=>whnf)|((refine w3 rfl rfl ?_ ?_) <;> intro _ <;> first|(exfalso;omega)|(conv=>whnf))|fail)
 ·exact t (by omega) _
 ·exact f (by omega) _
def HW:Fl→Prop
 | (_,(_,_,_,d),st,sq,da)=>d.length≤5000∧st.length≤100∧sq.length≤100∧da.length≤100∧∀ k<da.length,∀ b,da[k]?=some b→b.length≤1000
def V5 (fs:List Fl):Prop:=fs.length≤50∧∀ i<fs.length,∀ f,fs[i]?=some f→HW f
noncomputable def g24F:Fn (List Fl×Unit):=bF (.v ftC.sl .nil) (fun _=>True) fun x=>¬V5 x.1
theorem Zcl (hE:EM P e):OvOk P 28 g24F.O:=by
 refine Bl hE g28 ?_
 rintro ⟨fs,_⟩ _ ⟨v,_,rfl,⟨_,e0,hh⟩,rfl⟩-K t f
 cases e0
 obtain ⟨cs,hs',hl,hn⟩:=hh.nth
 have hvf:=hh.hf
 dsimp only at t f hl hn hs'
 have f:=fun h=>f (not_not_intro h)
 conv=>whnf
 repeat' (first|(refine Ac rfl hs' ?_;conv=>whnf)|((refine w3 rfl rfl ?_ ?_) <;> intro _ <;> first|(exfalso;omega)|(conv=>whnf))|fail)
 ·exact t (fun q=>by have:=q.1;omega) _
 refine A0 hE fs.length (fun i=>[(0,v),(3,.int .i64 (i:Int))]) (fun _=>[]) (fun i=>∀ j<i,∀ f,fs[j]?=some f→HW f) (fun k h=>by omega) (Abs.tells (rs:=[]) .a) ?_
 intro i hi hI
 conv=>whnf
 refine Ac rfl hs' ?_;conv=>whnf
 by_cases hlt:i<fs.length
 ·obtain ⟨⟨n,⟨k,a,m,d⟩,st,sq,da⟩,_,r,hx,hxr,hd⟩:=hn i hlt
  obtain ⟨dv,tv,qv,av,rfl,o1,o2,o3,o4,h1,h2,h3,h4⟩:=CW hxr
  obtain ⟨xs1,k1,l1,-⟩:=h1.nth
  obtain ⟨xs2,k2,l2,-⟩:=h2.nth
  obtain ⟨xs3,k3,l3,-⟩:=h3.nth
  obtain ⟨xs4,k4,l4,n4⟩:=h4.nth
  have ht:¬HW (n,(k,a,m,d),st,sq,da)→∀ s,K (.bool true) s:=fun h=>t fun q=>h (q.2 i hlt _ hx)
  have hs:HW (n,(k,a,m,d),st,sq,da)→∀ j<i+1,∀ f,fs[j]?=some f→HW f:=fun h=>AK hI fun g hg=>by rw [hx] at hg;cases hg;exact h
  unfold HW at ht
  have hs:(d.length≤5000∧st.length≤100∧sq.length≤100∧da.length≤100∧∀ k<da.length,∀ b,da[k]?=some b→b.length≤1000)→∀ j<i+1,∀ f,fs[j]?=some f→HW f:=hs
  repeat' (first|(refine Ai rfl hs' rfl hlt hd ?_;conv=>whnf)|(refine EHead.mk rfl ?_;conv=>whnf)|(refine Ac rfl k1 ?_;conv=>whnf)|(refine Ac rfl k2 ?_;conv=>whnf)|(refine Ac rfl k3 ?_;conv=>whnf)|(refine Ac rfl k4 ?_;conv=>whnf)|((first|refine w1 rfl rfl ?_ ?_|refine w3 rfl rfl ?_ ?_) <;> intro _ <;> first|(exfalso;omega)|(conv=>whnf))|fail)
  all_goals try exact ht (fun q=>by omega) _
  refine A0 hE da.length (fun k=>[(0,v),(3,.int .i64 (i:Int)),(4,.int .i64 (k:Int))]) (fun _=>[]) (fun i=>∀ k<i,∀ b,da[k]?=some b→b.length≤1000) (fun k h=>by omega) (Abs.tells (rs:=[]) .a) ?_
  intro j hj hJ
  conv=>whnf
  by_cases hjt:j<da.length
  ·obtain ⟨b,_,r',hb,⟨u,rfl,hu⟩,hd2⟩:=n4 j hjt
   obtain ⟨us,hus,-⟩:=hu.nth
   repeat' (first|(refine Ai rfl hs' rfl hlt hd ?_;conv=>whnf)|(refine Ai rfl k4 rfl hjt hd2 ?_;conv=>whnf)|(refine EHead.mk rfl ?_;conv=>whnf)|(refine Ac rfl k4 ?_;conv=>whnf)|(refine Ac rfl hus ?_;conv=>whnf)|((first|refine w1 rfl rfl ?_ ?_|refine w3 rfl rfl ?_ ?_) <;> intro _ <;> first|(exfalso;omega)|(conv=>whnf))|((first|refine w7 rfl rfl (by omega) ?_|refine ⟨rfl,?_⟩);conv=>whnf)|fail)
   ·exact ht (fun q=>by have:=q.2.2.2.2 j hjt b hb;omega) _
   ·exact ⟨hjt,AK hJ fun y hy=>by rw [hb] at hy;cases hy;omega,Abs.tells (rs:=[]) .a⟩
  ·repeat' (first|(refine Ai rfl hs' rfl hlt hd ?_;conv=>whnf)|(refine EHead.mk rfl ?_;conv=>whnf)|(refine Ac rfl k4 ?_;conv=>whnf)|((refine w1 rfl rfl ?_ ?_) <;> intro _ <;> first|(exfalso;omega)|(conv=>whnf))|((first|refine w7 rfl rfl (by omega) ?_|refine ⟨rfl,?_⟩);conv=>whnf)|fail)
   exact ⟨hlt,hs ⟨by omega,by omega,by omega,by omega,fun k hk=>hJ k (by omega)⟩,Abs.tells (rs:=[]) .a⟩
 ·repeat' (first|(refine Ac rfl hs' ?_;conv=>whnf)|((refine w1 rfl rfl ?_ ?_) <;> intro _ <;> first|(exfalso;omega)|(conv=>whnf))|fail)
  exact f ⟨by omega,fun j hj=>hI j (by omega)⟩ _
theorem SS:∀ {ws:List (Int×List Nat)}{ls:List (List AV)},All2 wrC.r ws ls→∃ W:List WR,(∀ w ∈ W,w.any)∧ls.flatten=Af W∧W.map (fun w=>(w.at_,w.b))=ws
 | [],_,h=>by cases h;exact ⟨[],by simp,rfl,rfl⟩
 | x::ws,_,h=>by
  cases h with
  | cons h1 h2=>
   obtain ⟨W,a,b,c⟩:=SS h2
   obtain ⟨x1,x2⟩:=x
   obtain ⟨_,_,rfl,⟨rfl,g1⟩,u,rfl,g2⟩:=h1
   refine ⟨⟨x1,u,x2⟩::W,fun w hw=>?_,by rw [List.flatten_cons,b];rfl,by rw [Zkv,c]⟩
   rcases Zkp.1 hw with rfl|hw
   ·exact ⟨Cq g1,g2.b⟩
   ·exact a w hw
structure DKof (x:Dk) (y:DK):Prop where
 a:y.any
 b:y.bs=x.1
 w:y.ws.map (fun w=>(w.at_,w.b))=x.2.1
 d:y.dead=x.2.2
variable {x:Dk}
theorem Ia {l:List AV}(h:dkC.r x l):∃ y:DK,DKof x y∧l=y.c:=by
 obtain ⟨bs,ws,dd⟩:=x
 obtain ⟨bv,wv,rfl,h1,h2⟩:=Gm h
 obtain ⟨us,s1,a1⟩:=h1.bl
 obtain ⟨ls,a2,s2,-⟩:=h2
 obtain ⟨W,hW,e1,e2⟩:=SS a2
 have hwl:W.length=ws.length:=by rw [← e2,Zjm]
 have s2:Sl 2 ws.length ls.flatten wv:=s2
 exact ⟨⟨bv,us,bs,wv,W,dd⟩,⟨⟨s1,a1,by rw [hwl,← e1];exact s2,hW⟩,rfl,e2,rfl⟩,rfl⟩
def ES (ws:List (Int×List Nat)) (n:Nat):List Nat:=(ws.map fun w=>w.2.length).take n
theorem Za2 {ws:List (Int×List Nat)}{w:Int×List Nat}(h:ws[i]?=some w):AQ (ES ws (i+1))=AQ (ES ws i)+(8+min w.2.length 100000):=by
 unfold ES
 rw [← JL,List.take_add_one,Zke,h];rfl
def D2 (x:Dk):Prop:=300<x.1.length∨1100<x.2.1.length∨60000<AQ (C4 x.1 400)+AQ (ES x.2.1 1200)
variable {y:DK}
theorem PJ (h:DKof x y):(FD y=true)=D2 x:=by
 obtain ⟨ha,hb,hw,-⟩:=h
 have h1:y.us.length=x.1.length:=by rw [ha.bs.length,hb]
 have h2:y.ws.length=x.2.1.length:=by rw [← hw,Zjm]
 have h3:y.bl=x.1.map List.length:=by unfold DK.bl;rw [hb]
 have h4:y.wl=x.2.1.map fun w=>w.2.length:=by unfold DK.wl;rw [← hw,List.map_map];rfl
 unfold FD D2 C4 ES
 rw [h1,h2,h3,h4]
 simp only [Zk5,Zkc]
theorem S8 (h:¬D2 x):(x.1.length≤300∧x.2.1.length≤1100)∧(∀ n,AQ (C4 x.1 n)≤60000∧AQ (ES x.2.1 n)≤60000)∧(∀ b ∈ x.1,b.length≤60000)∧∀ w ∈ x.2.1,w.2.length≤60000:=by
 unfold D2 at h
 have mono:∀ (l:List Nat) n,AQ (l.take n)≤AQ l:=fun l n=>by
  conv=>rhs;rw [← List.take_append_drop n l]
  unfold AQ;rw [Zj4,List.sum_append];omega
 have e1:C4 x.1 400=x.1.map List.length:=by unfold C4;rw [Zjo (by rw [Zjm];omega)]
 have e2:ES x.2.1 1200=x.2.1.map fun w=>w.2.length:=by unfold ES;rw [Zjo (by rw [Zjm];omega)]
 rw [e1,e2] at h
 refine ⟨by omega,fun n=>⟨by have:=mono (x.1.map List.length) n;unfold C4;omega,by have:=mono (x.2.1.map fun w=>w.2.length) n;unfold ES;omega⟩,fun b hb=>?_,fun w hw=>?_⟩
 ·have:=JY (l:=x.1.map List.length) (n:=b.length) (List.mem_map_of_mem hb);omega
 ·have:=JY (l:=x.2.1.map fun w=>w.2.length) (n:=w.2.length) (Zkf.2 ⟨w,hw,rfl⟩);omega
def dSz (x:Dk):Nat:=AQ (C4 x.1 x.1.length)+AQ (ES x.2.1 x.2.1.length)
def Dw (D:List Dk):Nat→Nat
 | 0=>0
 | i+1=>Dw D i+(D[i]?.map dSz).getD 0
def V6 (D:List Dk):Prop:=D.length≤30∧∀ i<D.length,∀ d,D[i]?=some d→¬D2 d∧Dw D (i+1)≤60000
noncomputable def g05F:Fn (List Dk×Unit):=bF (.v dkC.sl .nil) (fun _=>True) fun x=>¬V6 x.1
set_option maxHeartbeats 1000000 in
theorem Zcp (hE:EM P e) (h68:Con e 68 grt4F.O):OvOk P 29 g05F.O:=by
 refine Bl hE g29 ?_
 rintro ⟨D,_⟩ _ ⟨v,_,rfl,⟨_,e0,hh⟩,rfl⟩-K t f
 cases e0
 obtain ⟨cs,hs',hl,hn⟩:=hh.nth
 have hvf:=hh.hf
 dsimp only at t f hl hn hs'
 have f:=fun h=>f (not_not_intro h)
 conv=>whnf
 refine A0 hE (min D.length 30) (fun i=>[(0,v),(3,.int .i64 ((Dw D i:Nat):Int)),(4,.int .i64 (i:Int))]) (fun _=>[]) (fun i=>Dw D i≤60000∧∀ j<i,∀ d,D[j]?=some d→¬D2 d∧Dw D (j+1)≤60000) ⟨Zjy _,fun k h=>by omega⟩ (Abs.tells (rs:=[]) .a) ?_
 rintro i hi ⟨hT,hI⟩
 conv=>whnf
 refine Ac rfl hs' ?_;conv=>whnf
 by_cases hlt:i<D.length∧i<30
 ·obtain ⟨x,c,r,hx,hxr,hd⟩:=hn i hlt.1
  obtain ⟨y,hy,rfl⟩:=Ia hxr
  have hg:=PJ hy
  have hc:=fun (Q:AV→St→Prop) s (k:Q (.bool (FD y)) s)=>ESc.fam (e:=e) (k:=Q) (s:=s) grt4F h68 y hy.a rfl k
  have hst:Dw D (i+1)=Dw D i+dSz x:=by
   show Dw D i+(D[i]?.map dSz).getD 0=_
   rw [hx];rfl
  have ht:¬(¬D2 x∧Dw D (i+1)≤60000)→∀ s,K (.bool true) s:=fun h=>t fun q=>h (q.2 i hlt.1 x hx)
  have hs:(¬D2 x∧Dw D (i+1)≤60000)→Dw D (i+1)≤60000∧∀ j<i+1,∀ d,D[j]?=some d→¬D2 d∧Dw D (j+1)≤60000:=fun h=>⟨h.2,AK hI fun g hg=>by rw [hx] at hg;cases hg;exact h⟩
  obtain ⟨bs,ws,dd⟩:=x
  obtain ⟨bv,wv,hcl,h1,h2⟩:=Gm hxr
  rw [hcl] at hd
  have hyv:y.v=.agg [bv,wv,.bool dd]:=by unfold DK.v;rw [hcl]
  replace hc:∀ (Q:AV→St→Prop) s,Q (.bool (FD y)) s→ESc e 68 [.agg [bv,wv,.bool dd]] s Q:=fun Q s k=>by have:=hc Q s k;rw [← hyv];exact this
  obtain ⟨xs1,k1,l1,n1⟩:=h1.nth
  obtain ⟨xs2,k2,l2,n2⟩:=h2.nth
  cases hb:FD y
  ·have hng:¬D2 (bs,ws,dd):=by rw [← hg,hb];simp
   obtain ⟨-,sm1,sm2,sm3⟩:=S8 hng
   dsimp only at sm1 sm2 sm3
   rw [hb] at hc
   repeat' (first|(refine Ai rfl hs' rfl hlt.1 hd ?_;conv=>whnf)|(refine Ay (cs:=[bv,wv,.bool dd]) rfl ?_;conv=>whnf)|(refine hc _ _ ?_;conv=>whnf)|((refine w1 rfl rfl ?_ ?_) <;> intro _ <;> first|(exfalso;omega)|(conv=>whnf))|fail)
   refine A0 hE bs.length (fun k=>[(0,v),(3,.int .i64 ((Dw D i+AQ (C4 bs k):Nat):Int)),(4,.int .i64 (i:Int)),(5,.int .i64 (k:Int))]) (fun _=>[]) (fun _=>True) trivial (Abs.tells (rs:=[]) .a) ?_
   intro k hk _
   conv=>whnf
   have hk1:=(sm1 k).1
   by_cases hkt:k<bs.length
   ·obtain ⟨b,_,r2,hbk,⟨u,rfl,hu⟩,hd2⟩:=n1 k hkt
    obtain ⟨us,hus,-⟩:=hu.nth
    have hsc:=RO hbk
    have hbl:=sm2 b (Zj1 hbk)
    rw [Nat.min_eq_left (by omega)] at hsc
    repeat' (first|(refine Ai rfl hs' rfl hlt.1 hd ?_;conv=>whnf)|(refine Ai rfl k1 rfl hkt hd2 ?_;conv=>whnf)|(refine EHead.mk rfl ?_;conv=>whnf)|(refine Ac rfl k1 ?_;conv=>whnf)|(refine Ac rfl hus ?_;conv=>whnf)|((refine w1 rfl rfl ?_ ?_) <;> intro _ <;> first|(exfalso;omega)|(conv=>whnf))|((first|refine w7 rfl rfl (by omega) ?_|refine ⟨rfl,?_⟩);conv=>whnf)|fail)
    exact ⟨hkt,trivial,Abs.tells (rs:=[]) ⟨by decide,⟨t9,⟨rfl,by rw [hsc,← Zlc];rfl⟩,r9,r9,trivial⟩,trivial⟩⟩
   ·repeat' (first|(refine Ai rfl hs' rfl hlt.1 hd ?_;conv=>whnf)|(refine EHead.mk rfl ?_;conv=>whnf)|(refine Ac rfl k1 ?_;conv=>whnf)|((refine w1 rfl rfl ?_ ?_) <;> intro _ <;> first|(exfalso;omega)|(conv=>whnf))|fail)
    have hke:k=bs.length:=by omega
    rw [hke]
    refine A0 hE ws.length (fun k=>[(0,v),(3,.int .i64 ((Dw D i+AQ (C4 bs bs.length)+AQ (ES ws k):Nat):Int)),(4,.int .i64 (i:Int)),(6,.int .i64 (k:Int))]) (fun _=>[]) (fun _=>True) trivial (Abs.tells (rs:=[]) .a) ?_
    intro m hm _
    conv=>whnf
    have hk2:=(sm1 m).2
    have hk3:=(sm1 bs.length).1
    by_cases hmt:m<ws.length
    ·obtain ⟨⟨wa,wb⟩,_,r2,hwk,⟨_,_,rfl,⟨rfl,-⟩,u,rfl,hu⟩,hd2⟩:=n2 m hmt
     have hu:Ls Ce.u8 wb u:=hu
     have hd2:xs2.drop (m*2)=[.int .i64 wa,u]++r2:=hd2
     obtain ⟨us,hus,-⟩:=hu.nth
     have hsc:=Za2 hwk
     have hwl:=sm3 _ (Zj1 hwk)
     rw [Nat.min_eq_left (by omega)] at hsc
     dsimp only at hsc hwl
     repeat' (first|(refine Ai rfl hs' rfl hlt.1 hd ?_;conv=>whnf)|(refine Ai rfl k2 rfl hmt hd2 ?_;conv=>whnf)|(refine EHead.mk rfl ?_;conv=>whnf)|(refine Ac rfl k2 ?_;conv=>whnf)|(refine Ac rfl hus ?_;conv=>whnf)|((refine w1 rfl rfl ?_ ?_) <;> intro _ <;> first|(exfalso;omega)|(conv=>whnf))|((first|refine w7 rfl rfl (by omega) ?_|refine ⟨rfl,?_⟩);conv=>whnf)|fail)
     exact ⟨hmt,trivial,Abs.tells (rs:=[]) ⟨by decide,⟨t9,⟨rfl,by rw [hsc,← Zlc];rfl⟩,r9,r9,trivial⟩,trivial⟩⟩
    ·have hme:m=ws.length:=by omega
     have hst':Dw D i+AQ (C4 bs bs.length)+AQ (ES ws m)=Dw D (i+1):=by rw [hst,hme,Zlc];rfl
     rw [hst']
     have hk4:Dw D (i+1)≤180000:=by omega
     repeat' (first|(refine Ai rfl hs' rfl hlt.1 hd ?_;conv=>whnf)|(refine EHead.mk rfl ?_;conv=>whnf)|(refine Ac rfl k2 ?_;conv=>whnf)|((first|refine w1 rfl rfl ?_ ?_|refine w3 rfl rfl ?_ ?_) <;> intro _ <;> first|(exfalso;omega)|(conv=>whnf))|((first|refine w7 rfl rfl (by omega) ?_|refine ⟨rfl,?_⟩);conv=>whnf)|fail)
     ·exact ht (fun q=>by omega) _
     ·exact ⟨by omega,hs ⟨hng,by omega⟩,Abs.tells (rs:=[]) .a⟩
  ·have hgg:D2 (bs,ws,dd):=by rw [← hg,hb]
   rw [hb] at hc
   repeat' (first|(refine Ai rfl hs' rfl hlt.1 hd ?_;conv=>whnf)|(refine Ay (cs:=[bv,wv,.bool dd]) rfl ?_;conv=>whnf)|(refine hc _ _ ?_;conv=>whnf)|((refine w1 rfl rfl ?_ ?_) <;> intro _ <;> first|(exfalso;omega)|(conv=>whnf))|fail)
   exact ht (fun q=>q.1 hgg) _
 ·repeat' (first|(refine Ac rfl hs' ?_;conv=>whnf)|((first|refine w1 rfl rfl ?_ ?_|refine w3 rfl rfl ?_ ?_) <;> intro _ <;> first|(exfalso;omega)|(conv=>whnf))|fail)
  all_goals first
   | exact t (fun q=>by have:=q.1;omega) _
   | exact f ⟨by omega,fun j hj=>hI j (by omega)⟩ _
def Pt (d:Dv) (D:List Dk):Prop:=¬Qe d.2.2.2.1∧d.2.2.2.2.1.2.2.2.2.length≤600∧V5 d.2.2.2.2.2.1∧V6 D
noncomputable def g25F:Fn (Dv×List Dk×Unit):=bF (.g dvC (.v dkC.sl .nil)) (fun _=>True) fun x=>¬Pt x.1 x.2.1
theorem Zck (hE:EM P e) (h26:Con e 26 g19F.O) (h27:Con e 27 g14F.O) (h28:Con e 28 g24F.O) (h29:Con e 29 g05F.O):OvOk P 7 g25F.O:=by
 refine Bl hE g7 ?_
 rintro ⟨⟨c,bk,⟨ev,lo,sp,po,dn,nl,br⟩,hs,⟨ag,sq,tl,us,L⟩,fs,nx,so⟩,D,_⟩ _ ⟨_,_,rfl,hd,v,_,rfl,⟨_,e0,hD⟩,rfl⟩-K t f
 cases e0
 obtain ⟨hv,lv,fv,rfl,⟨ho,o1,o2,o3,o4,o5,o6,o7,o8,oN⟩,hH,hL,hF⟩:=BE hd
 have hc1:=fun (Q:AV→St→Prop) s a b=>@bF.u _ _ _ _ e 26 s Q [hv] h26 (hs,()) ⟨_,_,rfl,⟨_,rfl,hH⟩,rfl⟩ trivial a b
 have hc2:=fun (Q:AV→St→Prop) s a b=>@bF.u _ _ _ _ e 27 s Q _ h27 (_,()) ⟨_,_,rfl,UD o5 o6 o7 o8 hL,rfl⟩ trivial a b
 have hc3:=fun (Q:AV→St→Prop) s a b=>@bF.u _ _ _ _ e 28 s Q [fv] h28 (fs,()) ⟨_,_,rfl,⟨_,rfl,hF⟩,rfl⟩ trivial a b
 have hc4:=fun (Q:AV→St→Prop) s a b=>@bF.u _ _ _ _ e 29 s Q [v] h29 (D,()) ⟨_,_,rfl,⟨_,rfl,hD⟩,rfl⟩ trivial a b
 unfold Pt at t f
 dsimp only at t f hc1 hc2 hc3 hc4
 conv=>whnf
 repeat' (first|(refine hc1 _ _ (fun q1=>?_) (fun q1=>?_) <;> conv=>whnf)|(refine hc2 _ _ (fun q2=>?_) (fun q2=>?_) <;> conv=>whnf)|(refine hc3 _ _ (fun q3=>?_) (fun q3=>?_) <;> conv=>whnf)|(refine hc4 _ _ (fun q4=>?_) (fun q4=>?_) <;> conv=>whnf)|fail)
 ·exact t (fun q=>q.1 q1) _
 ·exact t (fun q=>by omega) _
 ·exact t (fun q=>q3 q.2.2.1) _
 ·exact t (fun q=>q4 q.2.2.2) _
 ·exact f (not_not_intro ⟨q1,by omega,Classical.not_not.1 q3,Classical.not_not.1 q4⟩) _
def CC:Dk→Prop
 | (bs,ws,dd)=>(1≤bs.length∧bs.length≤256∧ws.length≤1024)∧(∀ b ∈ bs,B8 b)∧(∀ w ∈ ws,0≤w.1∧w.1<bs.length∧B8 w.2)∧(dd=true→ws.length=0∧∀ b ∈ bs,b.length=0)
theorem odd_sized:AP b.length=false↔B8 b:=by
 unfold AP B8
 simp only [Bool.and_eq_false_iff,Zkl,Decidable.not_not]
theorem IU (h:DKof x y):(AN y=true)=CC x:=by
 obtain ⟨ha,hb,hw,hd⟩:=h
 have h1:y.us.length=x.1.length:=by rw [ha.bs.length,hb]
 have h2:y.ws.length=x.2.1.length:=by rw [← hw,Zjm]
 obtain ⟨bs,ws,dd⟩:=x
 dsimp only at h1 h2 hb hw hd
 refine propext (dskB_iff.trans ?_)
 unfold CC
 rw [h1,h2,hb,hd,← hw]
 have e1:(∀ b ∈ bs,AP b.length=false)↔∀ b ∈ bs,B8 b:=forall_congr' fun b=>forall_congr' fun _=>odd_sized
 have e2:(∀ w ∈ y.ws,Bk (bs.length:Int) w=false)↔∀ w ∈ y.ws.map (fun w:WR=>(w.at_,w.b)),0≤(w:Int×List Nat).1∧w.1<bs.length∧B8 w.2:=by
  have key:∀ w:WR,Bk (bs.length:Int) w=false↔0≤w.at_∧w.at_<bs.length∧B8 w.b:=fun w=>by
   unfold Bk
   simp only [Zk0,Zkl,odd_sized]
   constructor
   ·rintro ⟨⟨a,b⟩,c⟩;exact ⟨by omega,by omega,c⟩
   ·rintro ⟨a,b,c⟩;exact ⟨⟨by omega,by omega⟩,c⟩
  refine ⟨fun h w hw=>?_,fun h w hw=>(key w).2 (h _ (Zkf.2 ⟨w,hw,rfl⟩))⟩
  obtain ⟨u,hu,rfl⟩:=Zkf.1 hw
  exact (key u).1 (h u hu)
 have e3:(∀ b ∈ bs,Eb b.length=false)↔∀ b ∈ bs,b.length=0:=by
  refine forall_congr' fun b=>forall_congr' fun _=>?_
  unfold Eb;simp only [Zkl];omega
 dsimp only
 rw [e1,e2,e3,Zjm]
def C8 (c:Cfg) (D:List Dk):Prop:=(D.length:Int)=c.members+1∧∀ i<D.length,∀ d,D[i]?=some d→(d.1.length:Int)=(if (i:Int)=c.members then c.log+1 else 1+AG c)∧CC d
noncomputable def m20F:Fn (Cfg×List Dk×Unit):=bF (.g cfgC (.v dkC.sl .nil)) (fun x=>x.1.may∧∀ d ∈ x.2.1,¬D2 d) fun x=>C8 x.1 x.2.1
def Zhi:AC:=match a75 with|.mk c _=>c
def Zhh:AC:=match a76 with|.mk c _=>c
theorem Zcb (hE:EM P e) (h32:Inl e 32 IX [.tmp 2]) (h75:Inl e 75 Zhi [.tmp 2]) (h76:Inl e 76 Zhh [.tmp 2]) (h77:Con e 77 dmayF.O):OvOk P 31 m20F.O:=by
 refine Bl hE g31 ?_
 rintro ⟨c,D,_⟩ _ ⟨_,_,rfl,⟨rfl,hc⟩,v,_,rfl,⟨_,e0,hD⟩,rfl⟩ ⟨hM,hG⟩ K t f
 cases e0
 obtain ⟨cs,hs',hl,hn⟩:=hD.nth
 have hvf:=hD.hf
 have hcf:hfs c.c=true:=rfl
 have hmm:=BJ hM
 have hlog:=G6 hM
 unfold C8 at t f
 dsimp only at t f hl hn hs' hM hG hlog hmm
 unfold Cfg.may at hM
 unfold AG at *
 have hms:=Do (a:=c.chunk) (b:=c.rows) (by omega) (by omega)
 show VW P e 0 _ (Al [.agg c.c,v] 0 .lf) St0 none [] _
 conv=>whnf
 repeat' (first|(refine Ac rfl hs' ?_;conv=>whnf)|((refine w6 rfl rfl ?_ ?_) <;> intro _ <;> first|(exfalso;omega)|(conv=>whnf))|(refine w7 rfl rfl (by omega) ?_;conv=>whnf)|fail)
 ·exact f (fun q=>by omega) _
 refine A0 hE D.length (fun i=>[(1,v),(2,.ptr 0 0),(5,.int .i64 (i:Int))]) (fun _=>[.row 24 c.c]) (fun i=>∀ j<i,∀ d,D[j]?=some d→(d.1.length:Int)=(if (j:Int)=c.members then c.log+1 else 1+c.chunk*c.rows)∧CC d) (fun k h=>by omega) (Abs.tells (rs:=[0]) .a) ?_
 intro i hi hI
 conv=>whnf
 refine Ac rfl hs' ?_;conv=>whnf
 by_cases hlt:i<D.length
 ·obtain ⟨x,cl,r,hx,hxr,hd⟩:=hn i hlt
  obtain ⟨y,hy,rfl⟩:=Ia hxr
  have hng:=hG x (Zj1 hx)
  have hok:=Tx hy.a (Bool.eq_false_iff.2 fun q=>hng (by rw [← PJ hy];exact q))
  have hdk:=IU hy
  have hcl:=fun (Q:AV→St→Prop) s (k:Q (.bool (AN y)) s)=>ESc.fam (e:=e) (k:=Q) (s:=s) dmayF h77 y hok rfl k
  have hf:¬((x.1.length:Int)=(if (i:Int)=c.members then c.log+1 else 1+c.chunk*c.rows)∧CC x)→∀ s,K (.bool false) s:=fun h=>f fun q=>h (q.2 i hlt x hx)
  have ht:((x.1.length:Int)=(if (i:Int)=c.members then c.log+1 else 1+c.chunk*c.rows)∧CC x)→∀ j<i+1,∀ d,D[j]?=some d→(d.1.length:Int)=(if (j:Int)=c.members then c.log+1 else 1+c.chunk*c.rows)∧CC d:=fun h=>AK hI fun g hg=>by rw [hx] at hg;cases hg;exact h
  rw [← hdk] at hf ht
  obtain ⟨bs,ws,dd⟩:=x
  obtain ⟨bv,wv,hcc,h1,h2⟩:=Gm hxr
  rw [hcc] at hd
  have hyv:y.v=.agg [bv,wv,.bool dd]:=by unfold DK.v;rw [hcc]
  replace hcl:∀ (Q:AV→St→Prop) s,Q (.bool (AN y)) s→ESc e 77 [.agg [bv,wv,.bool dd]] s Q:=fun Q s k=>by have:=hcl Q s k;rw [← hyv];exact this
  obtain ⟨xs,k1,l1,-⟩:=h1.nth
  dsimp only at hf ht
  cases hb:AN y <;> rw [hb] at hf ht hcl
  all_goals by_cases him:(i:Int)=c.members
  all_goals (first|rw [Zjj him] at hf ht|rw [Zjn him] at hf ht)
  all_goals repeat' (first|(refine Ai rfl hs' rfl hlt hd ?_;conv=>whnf)|(refine Ay (cs:=[bv,wv,.bool dd]) rfl ?_;conv=>whnf)|(refine EHead.mk rfl ?_;conv=>whnf)|(refine hcl _ _ ?_;conv=>whnf)|(refine Ac rfl k1 ?_;conv=>whnf)|(refine ESc.inl h32 ?_;conv=>whnf)|(refine ESc.inl h75 ?_;conv=>whnf)|(refine ESc.inl h76 ?_;conv=>whnf)|(refine Cl rfl rfl hms ?_;conv=>whnf)|((first|refine w1 rfl rfl ?_ ?_|refine w5 rfl rfl ?_ ?_|refine w6 rfl rfl ?_ ?_) <;> intro _ <;> first|(exfalso;omega)|(conv=>whnf))|((first|refine w7 rfl rfl (by omega) ?_|refine w12 rfl ?_|refine w13 rfl ?_|refine ⟨rfl,?_⟩);conv=>whnf)|fail)
  all_goals first
   | exact hf (fun q=>by omega) _
   | exact hf (fun q=>Bool.false_ne_true q.2) _
   | exact ⟨hlt,ht ⟨by omega,rfl⟩,Abs.tells (rs:=[0]) .a⟩
 ·repeat' (first|((refine w1 rfl rfl ?_ ?_) <;> intro _ <;> first|(exfalso;omega)|(conv=>whnf))|fail)
  exact t ⟨by omega,fun j hj=>hI j (by omega)⟩ _
end Go.AM
namespace Go.AM
attribute [local irreducible] W
open X
section
variable {t:AT}{s:St}{k:AV→St→Prop}{x y:AO}
end
structure SX where
 s:Nat
 x:Nat
structure SX.ok (p:SX):Prop where
 s:p.s<4294967296
 x:p.x<256
structure UB.any (x:UB):Prop where
 b:BAt x.u x.b
 l:x.b.length<1000000
theorem UB.inja {x y:UB}(hx:BAt x.u x.b) (hy:BAt y.u y.b) (h:x.u=y.u):x=y:=by
 obtain ⟨u,b⟩:=x
 obtain ⟨u',b'⟩:=y
 dsimp only at hx hy h
 subst h
 rw [hx.inj hy]
structure SB where
 s:Nat
 x:UB
structure SB.ok (p:SB):Prop where
 s:p.s<4294967296
 x:p.x.any
end Go.AM
namespace Go.AM
attribute [local irreducible] W
open X
variable {u:AV}{b:List Nat}
theorem BAt.fz (h:BAt u b) (hb:b≠[]):∃ c x l,u=.fz b.length c (Aj b)∧Aj b=x::l:=by
 have h0:b.length≠0:=fun e=>hb (Zkd.1 e)
 obtain ⟨c,hc⟩:∃ c,u=.fz b.length c (Aj b):=by
  rcases h.1 with ⟨_,h,_⟩|⟨_,h,_⟩|⟨c,h,_⟩
  ·omega
  ·omega
  ·exact ⟨c,h⟩
 cases b with
 | nil=>exact absurd rfl hb
 | cons y l=>exact ⟨c,_,_,hc,rfl⟩
variable {n:Nat}
theorem Ze2 {es:Nat}{c:Option Nat}{l:List AV}(h:l.length=n*es) (s:St):EG es (.fz n c l) s=some l:=by
 show Bi (n*es) l=_
 rw [EZ (by omega),Zjo (by omega)]
def KH (b:List Nat):AV:=.fz (As b).length none (Aj (As b))
theorem ZR (h:b.length=0∨b.length=128):KH b=Am (As b):=by unfold KH;rw [R0 h];rfl
def fullF:Fam UB:=⟨UB.any,fun x=>[x.u],fun x=>KH x.b,fun x y hx hy h=>by rw [UB.inja hx.b hy.b (Zjr h).1]⟩
variable {e:Env}
theorem ZS (hE:EM P e):OvOk P 202 fullF.O:=by
 refine Ca g202.b fun x hx=>?_
 obtain ⟨u,b⟩:=x
 obtain ⟨hbt,hl⟩:=hx
 have huf:=hbt.1.hf
 dsimp only at huf hbt hl
 refine ⟨by show (AM.hf u && true)=true;rw [huf];rfl,rfl,C.of_G hE g202 ?_⟩
 show VW P e 0 (match VN with|.mk c _=>c) (Al [u] 0 .lf) St0 none [] (Cj [.tmp 2] (fun w s'=>Frz s' w (KH b)))
 by_cases h0:b=[]
 ·subst h0
  conv=>whnf
  refine Ac rfl hbt.1 ?_;conv=>whnf
  refine H5 (a:=((0:Nat):Int)) (b:=0) rfl rfl (fun _=>?_) (fun h=>absurd rfl h);conv=>whnf
  refine JI (n:=127) rfl rfl (by decide) ?_;conv=>whnf
  exact .sl 0 0 128 _ _ 5 _ _ _ rfl (fun i x h=>by rw [Zju];exact h) (Jj (B0 (As []))) (.inl rfl)
 ·have hbl:b.length≠0:=fun e=>h0 (Zkd.1 e)
  obtain ⟨c,x,l,rfl,hxl⟩:=hbt.fz h0
  have hp:As b=b:=by unfold As;rw [Zjn h0]
  unfold KH
  rw [hp]
  conv=>whnf
  refine Ac rfl hbt.1 ?_;conv=>whnf
  refine H5 (a:=(b.length:Int)) (b:=0) rfl rfl (fun h=>by omega) (fun _=>?_);conv=>whnf
  have hlen:=CU b
  refine CT (m:=b.length) (c:=x) (cs:=l) rfl rfl (by rw [Ze2 (by rw [hlen,Zki]),hxl]) (by rw [← hxl,hlen,Zki]) (by decide) (by omega) ?_
  rw [← hxl]
  conv=>whnf
  exact .sl 0 0 b.length _ _ 5 _ _ _ rfl (fun i x h=>by rw [Zju];exact h) (Jj (B0 _)) (.inl rfl)
def Zdz:AC:=match Ng with|.mk c _=>c
structure DKA.in (x:DKA):Prop where
 d:x.d.ok
 k:AN x.d=true
 a:0≤x.a∧x.a<x.d.us.length
def seenF:Fam DKA:=⟨DKA.in,DKA.args,fun x=>Am (As (Ey x.d x.a)),fun x y hx hy h=>by
 have h1:x.ok:=⟨hx.d,by have:=hx.a;have:=hx.d.n;unfold Ad;omega⟩
 have h2:y.ok:=⟨hy.d,by have:=hy.a;have:=hy.d.n;unfold Ad;omega⟩
 rw [DKA.inja h1 h2 h]⟩
theorem Xk {a:Int}{L:List WR}{w:WR}:C5 a (L++[w]).reverse=if w.at_=a then some w.b else C5 a L.reverse:=by
 rw [List.reverse_append];rfl
theorem Zr (hE:EM P e) (h72:Con e 202 fullF.O) (h158:Inl e 201 Zdz [.tmp 4]):OvOk P 175 seenF.O:=by
 refine Ca g175.b fun x hx=>?_
 obtain ⟨d,a⟩:=x
 obtain ⟨hd,hk,ha⟩:=hx
 dsimp only at hd hk ha
 obtain ⟨hk1,hkb,hkw,_,_⟩:=Kp hd.a hk
 refine ⟨by show (AM.hf d.v && (true && true))=true;rw [DK.hf hd.a];rfl,rfl,C.of_G hE g175 ?_⟩
 obtain ⟨n,rfl⟩:∃ n:Nat,a=(n:Int):=⟨a.toNat,by omega⟩
 have hlt:n<d.us.length:=by omega
 obtain ⟨b,hb1,hb2⟩:=hd.a.bs.get (Zjf hlt)
 have hbm:=Zj1 hb1
 have hbl:=hkb b hbm
 have hO:Ey d (n:Int)=(C5 (n:Int) d.ws.reverse).getD b:=by
  unfold Ey Ft
  rw [show (n:Int).toNat=n by omega,Zj8,hb1];rfl
 show VW P e 0 (match Q5 with|.mk c _=>c) (Al [d.v,.int .i64 (n:Int)] 0 .lf) St0 none [] (Cj [.tmp 4] (fun w s'=>Frz s' w (Am (As (Ey d (n:Int))))))
 rw [hO]
 clear hO hk
 obtain ⟨⟨hbl',hbs,hwl,hws⟩,hn,hm',hb',hw'⟩:=hd
 obtain ⟨bv,us,bs,wv,ws,dd⟩:=d
 dsimp only at hbl' hbs hwl hws hn hm' hb' hw' hkw hlt hb1 hb2 hbm ha
 have hdf:hfs [bv,wv,.bool dd]=true:=Lf hwl hbl'
 have q1:((us.drop (n*1)))[0]?=some us[n]:=by rw [Zki,Zjq,Zko,Zjf hlt]
 have hall:=And.intro q1 hb2
 clear q1 hb2
 revert hall
 generalize us[n]=u
 rintro ⟨q1,hb2⟩
 have hF:∀ {u:AV}{b:List Nat},BAt u b→(b.length=0∨b.length=128)→∀ (K:AV→St→Prop) (s:St),K (Am (As b)) s→ESc e 202 [u] s K:=fun {u b} h1 h2 K s hk=>ESc.fam fullF h72 ⟨u,b⟩ ⟨h1,by dsimp only;omega⟩ (u:=Am (As b)) (ZR h2) hk
 show VW P e 0 (match Q5 with|.mk c _=>c) (Al [.agg [bv,wv,.bool dd],.int .i64 (n:Int)] 0 .lf) St0 none [] _
 conv=>whnf
 refine ESc.inl h158 ?_;conv=>whnf
 refine BZ rfl hbl' rfl hlt ?_;conv=>whnf
 refine EHead.mk (v:=u) q1 ?_;conv=>whnf
 refine hF hb2 hbl _ _ ?_;conv=>whnf
 refine DH (α:=Nat) (fun j=>[(1,.int .i64 (n:Int)),(2,.ptr 0 0),(5,Am (As ((C5 (n:Int) (ws.take j).reverse).getD b))),(6,.int .i64 (j:Int))]) (fun _=>[.row 60 [bv,wv,.bool dd]]) (fun j=>ws.length-j) (fun j=>j≤ws.length) 0 (Zjy _)
  (Abs.tells (rs:=[0]) .a) ?_
 intro j hj
 refine Cz hE ?_
 by_cases hjl:j<ws.length
 ·have hdr:=FQ hjl
  have hwa:=hws _ (Zkg hjl)
  have hwl2:=hkw _ (Zkg hjl)
  have hs:C5 (n:Int) (ws.take (j+1)).reverse=if ws[j].at_=(n:Int) then some ws[j].b else C5 (n:Int) (ws.take j).reverse:=by
   rw [Zjs hjl,Xk]
  have hall:=And.intro hdr (And.intro hwa (And.intro hwl2 hs))
  clear hdr hwa hwl2 hs
  revert hall
  generalize ws[j]=w
  obtain ⟨wa,wu,wb⟩:=w
  rintro ⟨hdr,⟨hwa,hwb⟩,hwl2,hs⟩
  have hdr:(Af ws).drop (j*2)=[.int .i64 wa,wu]++Af (ws.drop (j+1)):=hdr
  dsimp only at hwa hwb hwl2 hs
  obtain ⟨A,hA⟩:∃ A,A=C5 (n:Int) (ws.take j).reverse:=⟨_,rfl⟩
  rw [← hA] at hs ⊢
  conv=>whnf
  refine Ac rfl hwl ?_;conv=>whnf
  refine Bd (a:=(j:Int)) (b:=(ws.length:Int)) rfl rfl (fun _=>?_) (fun h=>by omega);conv=>whnf
  refine BZ rfl hwl rfl hjl ?_
  rw [hdr]
  conv=>whnf
  refine EHead.mk (v:=.int .i64 wa) rfl ?_;conv=>whnf
  refine H5 (a:=wa) (b:=(n:Int)) rfl rfl (fun h1=>?_) (fun h1=>?_)
  ·rw [Zjj h1] at hs
   conv=>whnf
   refine BZ rfl hwl rfl hjl ?_
   rw [hdr]
   conv=>whnf
   refine EHead.mk (v:=wu) rfl ?_;conv=>whnf
   refine hF hwb hwl2 _ _ ?_;conv=>whnf
   repeat' (first|((first|refine w1 rfl rfl ?_ ?_|refine w2 rfl rfl ?_ ?_|refine w3 rfl rfl ?_ ?_|refine w4 rfl rfl ?_ ?_|refine w5 rfl rfl ?_ ?_|refine w6 rfl rfl ?_ ?_) <;> intro _ <;> first|(exfalso;omega)|(conv=>whnf))|((first|refine w7 rfl rfl (by omega) ?_|refine w8 rfl rfl (by omega) ?_|refine w9 rfl rfl (by omega) ?_|refine w10 rfl rfl ?_|refine w11 rfl rfl ?_|refine w12 rfl ?_|refine w13 rfl ?_|refine w14 (q':=.i64) rfl (i64_in (by omega)) ?_|refine w14 (q':=.u32) rfl (Cr (by omega)) ?_|refine w14 (q':=.u8) rfl (C3 (by omega)) ?_|refine w15 rfl rfl ?_|refine w16 rfl ?_|refine w17 rfl ?_|refine w18 rfl ?_|refine ⟨rfl,?_⟩);conv=>whnf)|(refine w19 rfl ?_ ?_ <;> intro hc <;> (try subst hc) <;> conv=>whnf))
   exact ⟨j+1,hjl,by omega,Abs.tells (rs:=[0]) ⟨by decide,⟨r9,r9,⟨rfl,by rw [hs];rfl⟩,r9,trivial⟩,⟨o9,trivial⟩⟩⟩
  ·rw [Zjn h1] at hs
   conv=>whnf
   repeat' (first|((first|refine w1 rfl rfl ?_ ?_|refine w2 rfl rfl ?_ ?_|refine w3 rfl rfl ?_ ?_|refine w4 rfl rfl ?_ ?_|refine w5 rfl rfl ?_ ?_|refine w6 rfl rfl ?_ ?_) <;> intro _ <;> first|(exfalso;omega)|(conv=>whnf))|((first|refine w7 rfl rfl (by omega) ?_|refine w8 rfl rfl (by omega) ?_|refine w9 rfl rfl (by omega) ?_|refine w10 rfl rfl ?_|refine w11 rfl rfl ?_|refine w12 rfl ?_|refine w13 rfl ?_|refine w14 (q':=.i64) rfl (i64_in (by omega)) ?_|refine w14 (q':=.u32) rfl (Cr (by omega)) ?_|refine w14 (q':=.u8) rfl (C3 (by omega)) ?_|refine w15 rfl rfl ?_|refine w16 rfl ?_|refine w17 rfl ?_|refine w18 rfl ?_|refine ⟨rfl,?_⟩);conv=>whnf)|(refine w19 rfl ?_ ?_ <;> intro hc <;> (try subst hc) <;> conv=>whnf))
   exact ⟨j+1,hjl,by omega,Abs.tells (rs:=[0]) ⟨by decide,⟨r9,r9,⟨rfl,by rw [hs];rfl⟩,r9,trivial⟩,⟨o9,trivial⟩⟩⟩
 ·rw [show ws.take j=ws from Zjo (by omega)]
  conv=>whnf
  refine Ac rfl hwl ?_;conv=>whnf
  refine Bd (a:=(j:Int)) (b:=(ws.length:Int)) rfl rfl (fun _=>by omega) (fun h=>?_);conv=>whnf
  exact .plain _ rfl
structure CDI where
 x:CDA
 i:Nat
structure CDI.ok (p:CDI):Prop where
 x:p.x.ok
 k:askE p.x=0
 i:p.i<1000
def Bt (cs:List AV) (L:List WR):List AV:=L.foldl (fun cs w=>cs.set w.at_.toNat w.u) cs
def Fz (bs:List (List Nat)) (L:List WR):List (List Nat):=L.foldl (fun bs w=>bs.set w.at_.toNat w.b) bs
theorem IJ:∀ (L:List WR) (cs:List AV),(Bt cs L).length=cs.length
 | [],_=>rfl
 | w::L,cs=>by show (Bt (cs.set _ _) L).length=_;rw [IJ L,List.length_set]
theorem Zc1 (cs:List AV) (L M:List WR):Bt cs (L++M)=Bt (Bt cs L) M:=by unfold Bt;rw [List.foldl_append]
theorem Px:∀ (L:List WR) {cs:List AV}{bs:List (List Nat)},All2 BAt cs bs→(∀ w ∈ L,BAt w.u w.b)→All2 BAt (Bt cs L) (Fz bs L)
 | [],_,_,h,_=>h
 | w::L,cs,bs,h,hw=>Px L (LT (hw w (by simp)) h _) (fun v hv=>hw v (by simp [hv]))
theorem Tv {us:List AV}{bs:List (List Nat)}(h:All2 BAt us bs):hfs us=true:=by
 induction h with
 | nil=>rfl
 | cons a b ih=>show (AM.hf _ && hfs _)=true;rw [a.1.hf,ih];rfl
theorem T1:∀ (L:List WR) (bs:List (List Nat)) {p:Int},0≤p→(∀ w ∈ L,0≤w.at_∧w.at_<bs.length)→(Fz bs L).getD p.toNat []=(C5 p L.reverse).getD (bs.getD p.toNat [])
 | [],bs,p,_,_=>rfl
 | w::L,bs,p,hp,h=>by
  show (Fz (bs.set w.at_.toNat w.b) L).getD p.toNat []=_
  obtain ⟨h1,h2⟩:=h w (by simp)
  rw [T1 L _ hp (fun v hv=>by rw [List.length_set];exact h v (by simp [hv])),List.reverse_cons]
  have hl:∀ M:List WR,C5 p (M++[w])=match C5 p M with|some b=>some b|none=>if w.at_=p then some w.b else none:=fun M=>by
   induction M with
   | nil=>show (if w.at_=p then some w.b else none)=_;rfl
   | cons v M ih=>
    show (if v.at_=p then some v.b else C5 p (M++[w]))=_
    rw [ih]
    show _=match (if v.at_=p then some v.b else C5 p M:Option (List Nat)) with|some b=>some b|none=>_
    split <;> rfl
  rw [hl]
  cases C5 p L.reverse with
  | some b=>rfl
  | none=>
   show (bs.set w.at_.toNat w.b).getD p.toNat []=(if w.at_=p then some w.b else none:Option (List Nat)).getD _
   by_cases e:w.at_=p
   ·rw [Zjj e,e,Zj8,List.getElem?_set_self (by omega)];rfl
   ·rw [Zjn e,Zj8,List.getElem?_set_ne (by omega)];rfl
def FN (x:DK):DK:=⟨.fz x.us.length none (Bt (x.us.map Ao) (x.ws.map A7)),Bt (x.us.map Ao) (x.ws.map A7),Fz x.bs x.ws,.nils,[],false⟩
def CQ (x:DK):DK:=⟨.fz x.us.length none ((Bt (x.us.map Ao) (x.ws.map A7)).map Ao),(Bt (x.us.map Ao) (x.ws.map A7)).map Ao,Fz x.bs x.ws,.nils,[],false⟩
theorem Zc2 (bs:List (List Nat)):∀ (L:List WR),Fz bs (L.map A7)=Fz bs L:=fun L=>by
 unfold Fz
 rw [List.foldl_map];rfl
theorem ON:∀ (L:List WR) (bs:List (List Nat)) {b:List Nat},b ∈ Fz bs L→b ∈ bs∨∃ w ∈ L,w.b=b
 | [],_,_,h=>.inl h
 | w::L,bs,b,h=>by
  rcases ON L (bs.set w.at_.toNat w.b) h with h|⟨v,hv,e⟩
  ·rcases List.mem_or_eq_of_mem_set h with h|rfl
   ·exact .inl h
   ·exact .inr ⟨w,by simp,rfl⟩
  ·exact .inr ⟨v,by simp [hv],e⟩
variable {x:DK}
theorem flAt (hx:x.ok):All2 BAt (Bt (x.us.map Ao) (x.ws.map A7)) (Fz x.bs x.ws):=by
 have:=Px (x.ws.map A7) (I6 hx.a.bs) (fun w hw=>by
  obtain ⟨v,hv,rfl⟩:=Zkf.1 hw
  exact (GJ (hx.a.ws v hv)).b)
 rwa [Zc2] at this
theorem Ua (hx:x.ok):(FN x).ok:=by
 have hl:(Bt (x.us.map Ao) (x.ws.map A7)).length=x.us.length:=by rw [IJ,Zjm]
 refine ⟨⟨.inr (.inr ⟨none,by show AV.fz x.us.length none _=.fz (Bt _ _).length none _;rw [hl];rfl,by rw [Zki]⟩),flAt hx,.inl ⟨rfl,rfl,rfl⟩,fun w hw=>by cases hw⟩,by show (Bt _ _).length<_;rw [hl];exact hx.n,by show 0<_;decide,fun b hb=>?_,fun w hw=>by cases hw⟩
 rcases ON _ _ hb with h|⟨w,hw,rfl⟩
 ·exact hx.b b h
 ·exact hx.w w hw
theorem Pw (hx:x.ok):(CQ x).ok:=by
 have hl:((Bt (x.us.map Ao) (x.ws.map A7)).map Ao).length=x.us.length:=by rw [Zjm,IJ,Zjm]
 have hm:=Ua hx
 exact ⟨⟨.inr (.inr ⟨none,by show AV.fz x.us.length none _=.fz (List.map Ao _).length none _;rw [hl];rfl,by rw [Zki]⟩),I6 hm.a.bs,.inl ⟨rfl,rfl,rfl⟩,fun w hw=>by cases hw⟩,by show (List.map Ao _).length<_;rw [hl];exact hx.n,hm.m,hm.b,fun w hw=>by cases hw⟩
theorem T0 (x:DK):(CQ x).us.length=x.us.length:=by show ((Bt _ _).map Ao).length=_;rw [Zjm,IJ,Zjm]
theorem Zc0 (hx:x.ok) (h:AN x=true):AN (CQ x)=true:=by
 obtain ⟨d1,d2,d3,d4⟩:=dskB_iff.1 h
 refine dskB_iff.2 ⟨?_,fun b hb=>?_,(fun w hw=>by cases hw),(fun hd=>by cases hd)⟩
 ·rw [T0];exact ⟨d1.1,d1.2.1,by show 0≤_;omega⟩
 ·rcases ON _ _ hb with h|⟨w,hw,rfl⟩
  ·exact d2 b h
  ·have:=d3 w hw
   unfold Bk at this
   simp only [Zk0] at this
   exact this.2
theorem Zdl (hx:x.ok) (h:AN x=true) {p:Int}(hp:0≤p):Ey (CQ x) p=Ey x p:=by
 obtain ⟨d1,d2,d3,d4⟩:=dskB_iff.1 h
 have hl:=hx.a.bs.length
 show (none:Option (List Nat)).getD ((Fz x.bs x.ws).getD p.toNat [])=_
 unfold Ey Ft
 rw [T1 _ _ hp (fun w hw=>by
  have:=d3 w hw
  unfold Bk at this
  simp only [Zk0,Zkl] at this
  omega)]
 rfl
def FO (x:DK):Int:=if AN x=true then (if x.dead then 40 else 0) else 8
def FF (x:DK):AV:=if FO x=0 then .tup [(CQ x).v,.int .i64 0] else .tup [.agg CA,.int .i64 (FO x)]
def fluF:Fam DK:=⟨DK.ok,fun x=>[x.v],FF,fun x y hx hy h=>by rw [DK.inj hx.a hy.a (Zjr h).1]⟩
theorem ZN (x:DK):AM.hf (FF x)=true:=by unfold FF;split <;> rfl
def M0:AC:=match VO with|.mk c _=>c
def TP:AC:=match M0 with
 | .seq _ (.seq _ (.seq _ (.seq _ (.seq _ r))))=>r
 | _=>.skip
def FL:List (Nat×AV):=[(1,.ptr 0 0),(2,.ptr 1 0)]
theorem SE (hE:EM P e) (h103:Con e 66 CF) (hx:x.ok) (h1:1≤x.us.length) (wv:AV) (hwv:AM.hf wv=true) (K:AV→St→Prop)
 (hk:∀ s,s.get 2=some (.row 76 (CQ x).us)→K (.tup [.agg [.sl 2 0 x.us.length none,.nils,.bool false],.int .i64 0]) s):
 W P 0 none TP (At FL) (Ae St0 [.row 60 [(FN x).bv,wv,.bool false],.row 60 CA]) [] (Bz [.cells 2 3,.tmp 3] K):=by
 have hmo:=Ua hx
 have hlen:(FN x).us.length=x.us.length:=by show (Bt _ _).length=_;rw [IJ,Zjm]
 have htw:=IA (x:=FN x) ⟨hmo,by rw [hlen];exact h1⟩
 have hv:(FN x).v=.agg [(FN x).bv,.nils,.bool false]:=rfl
 have htw:∀ s,CF [.agg [(FN x).bv,.nils,.bool false]] s=.ok (.agg [.sl (0+s.next) 0 x.us.length none,.nils,.bool false]) (Ae s [.row 76 (CQ x).us]):=fun s=>by
  have:=htw s
  rw [hv] at this
  rw [this,← hlen];rfl
 refine F9 hE ?_
 generalize (FN x).bv=B at *
 conv=>whnf
 repeat' (first|(refine ESc.ov h103 (htw _) ?_;conv=>whnf)|fail)
 exact hk _ rfl
def Zfm:AC:=match M0 with
 | .seq _ (.seq _ (.seq _ (.seq _ (.seq l _))))=>l
 | _=>.skip
theorem ZU (hE:EM P e) (h103:Con e 66 CF) (hx:x.ok) (hD:AN x=true) (K:AV→St→Prop)
 (hk:∀ s,s.get 2=some (.row 76 (CQ x).us)→K (.tup [.agg [.sl 2 0 x.us.length none,.nils,.bool false],.int .i64 0]) s) (h0:1≤x.ws.length):
 VW P e 0 Zfm (At FL) (Ae St0 [.row 60 [.sl 2 0 x.us.length none,.sl 3 0 x.ws.length none,.bool false],.row 60 CA,.row 76 (x.us.map Ao),.row 146 (Af (x.ws.map A7))]) none [] (Hv (fun t s ds=>W P 0 none TP t s ds (Bz [.cells 2 3,.tmp 3] K)) (Bz [.cells 2 3,.tmp 3] K)):=by
 obtain ⟨d1,d2,d3,d4⟩:=dskB_iff.1 hD
 have hr:=fun wv hwv=>SE hE h103 hx d1.1 wv hwv K hk
 have hUf:=JX hx.a
 obtain ⟨W1,hW1⟩:∃ W1,W1=x.ws.map A7:=⟨_,rfl⟩
 have hW1l:W1.length=x.ws.length:=by rw [hW1,Zjm]
 have hWa:∀ w ∈ W1,w.any∧0≤w.at_∧w.at_<x.us.length:=fun w hw=>by
  rw [hW1] at hw
  obtain ⟨v,hv,rfl⟩:=Zkf.1 hw
  have:=d3 v hv
  unfold Bk at this
  simp only [Zk0,Zkl] at this
  exact ⟨GJ (hx.a.ws v hv),by show 0≤v.at_;omega,by show v.at_<_;omega⟩
 have hwf:hfs (Af W1)=true:=E8 fun w hw=>(hWa w hw).1.b.1.hf
 have hm1:(FN x).bv=.fz x.us.length none (Bt (x.us.map Ao) W1):=by rw [hW1];rfl
 rw [hm1] at hr
 have hcf:∀ i,hfs (Bt (x.us.map Ao) (W1.take i))=true:=fun i=>Tv (Px (W1.take i) (I6 hx.a.bs) (fun w hw=>(hWa w (Zkm hw)).1.b))
 have hcl:∀ i,(Bt (x.us.map Ao) (W1.take i)).length=x.us.length:=fun i=>by rw [IJ,Zjm]
 have hwn:=hx.m
 rw [← hW1]
 rw [← hW1l] at h0 hwn ⊢
 generalize x.us.length=n at *
 generalize hU0:x.us.map Ao=U at *
 clear hk hx hD d1 d2 d3 d4 hU0
 obtain ⟨m,hmm⟩:∃ m,m=W1.length:=⟨_,rfl⟩
 rw [← hmm] at h0 hwn ⊢
 conv=>whnf
 refine L2 rfl ?_;conv=>whnf
 refine DH (α:=Nat) (fun i=>[(1,.ptr 0 0),(2,.ptr 1 0),(19,.sl 2 0 m none),(20,.int .i64 (m:Int)),(21,.int .i64 (i:Int))]) (fun i=>[.row 60 [.sl 3 0 n none,.sl 2 0 m none,.bool false],.row 60 CA,.row 146 (Af W1),.row 76 (Bt U (W1.take i))]) (fun i=>m-i) (fun i=>i≤m) 0 (Zjy _)
  (Abs.tells (rs:=[0,1,3,2]) ⟨by decide,⟨r9,r9,r9,r9,r9,trivial⟩,⟨r9,r9,o9,o9 (hcf 0),trivial⟩⟩) ?_
 intro i hi
 refine Cz hE ?_
 by_cases hlt:i<m
 ·have hWi:=Zjf (l:=W1) (i:=i) (by omega)
  have hwi:=hWa _ (Zkg (l:=W1) (n:=i) (by omega))
  have htk:Bt U (W1.take (i+1))=(Bt U (W1.take i)).set (W1[i]'(by omega)).at_.toNat (W1[i]'(by omega)).u:=by
   rw [Zjs (by omega),Zc1];rfl
  have hall:=And.intro hWi (And.intro hwi htk)
  clear hWi hwi htk
  revert hall
  generalize W1[i]'(by omega)=w
  rintro ⟨hWi,⟨hwa,hw0,hwn'⟩,htk⟩
  obtain ⟨wa,wu,wb⟩:=w
  have hwu:AM.hf wu=true:=hwa.b.1.hf
  dsimp only at hw0 hwn' htk
  obtain ⟨a,rfl⟩:∃ a:Nat,wa=(a:Int):=⟨wa.toNat,by omega⟩
  have ha:a<n:=by omega
  have htk:Bt U (W1.take (i+1))=(Bt U (W1.take i)).set a wu:=htk
  have hld:∀ s:St,s.get 2=some (.row 146 (Af W1))→load 2 (0+i*2) 2 s=some [.int .i64 (a:Int),wu]:=fun s h=>Tp h hWi
  have hst:∀ s:St,s.get 3=some (.row 76 (Bt U (W1.take i)))→storeAt 3 (0+a*1) [wu] s=some (s.put 3 (.row 76 ((Bt U (W1.take i)).set a wu))):=fun s h=>RH h (by rw [hcl];exact ha)
  have hc1:=hcf (i+1)
  rw [htk] at hc1
  have hc1:hfs ((Bt U (W1.take i)).set a wu)=true:=hc1
  have hcw:∀ (K:Prop),K→wB (Nat.beq (AR (cellsOf wu)) 1) K False:=fun K hK=>by
   have:cellsOf wu=[wu]:=by
    rcases hwa.b.1 with ⟨h,_⟩|⟨h,_⟩|⟨c,h,_⟩ <;> (dsimp only at h;rw [h];rfl)
   rw [this];exact hK
  conv=>whnf
  refine Bd (a:=(i:Int)) (b:=(m:Int)) rfl rfl (fun _=>?_) (fun h=>by omega);conv=>whnf
  refine FV (i:=i) rfl rfl hlt ?_;conv=>whnf
  refine EA _ (hld _ rfl) ?_;conv=>whnf
  refine FV (i:=a) rfl rfl ha ?_;conv=>whnf
  refine hcw _ ?_
  have hcu:cellsOf wu=[wu]:=by
   rcases hwa.b.1 with ⟨h,_⟩|⟨h,_⟩|⟨c,h,_⟩ <;> (dsimp only at h;rw [h];rfl)
  rw [hcu]
  refine EA _ (hst _ rfl) ?_;conv=>whnf
  repeat' (first|((first|refine w7 rfl rfl (by omega) ?_|refine ⟨rfl,?_⟩);conv=>whnf)|fail)
  refine ⟨i+1,hlt,by omega,?_⟩
  rw [htk]
  exact Abs.tells (rs:=[0,1,2,3]) .a
 ·have hie:i=m:=by omega
  subst hie
  have hte:W1.take i=W1:=Zjo (by omega)
  have hcf':=hcf i
  rw [hte] at hcf' ⊢
  conv=>whnf
  refine Bd (a:=(i:Int)) (b:=(i:Int)) rfl rfl (fun h=>by omega) (fun _=>?_);conv=>whnf
  have q1:=AbsK.frz (P:=P) (k:=0) (n:=3) (e:=76) (cs:=Bt U W1) (t:=B5 23 (AV.bool false) (At [(1,.ptr 0 0),(2,.ptr 1 0),(19,.sl 2 0 i none),(20,.int .i64 (i:Int)),(21,.int .i64 (i:Int))])) (s:=Ae St0 [.row 60 [.sl 3 0 n none,.sl 2 0 i none,.bool false],.row 60 CA,.row 146 (Af W1),.row 76 (Bt U W1)]) (tl:=FL) (tl2:=FL) (os:=[.row 60 [.sl 3 0 n none,.sl 2 0 i none,.bool false],.row 60 CA,.row 146 (Af W1)]) (os2:=[.row 60 [.fz n none (Bt U W1),.sl 2 0 i none,.bool false],.row 60 CA,.row 146 (Af W1)]) (rs:=[0,1,2,3])
   .a rfl hcf' rfl rfl rfl rfl rfl (by
    show [_,_,Cv 3 _ (.row 146 (Af W1))]=_
    rw [D5 hwf];rfl)
  have q2:=AbsK.frz (P:=P) (k:=0) (n:=2) (e:=146) (cs:=Af W1) (t:=At FL) (s:=Ae St0 [.row 60 [.fz n none (Bt U W1),.sl 2 0 i none,.bool false],.row 60 CA,.row 146 (Af W1)]) (tl:=FL) (tl2:=FL) (os:=[.row 60 [.fz n none (Bt U W1),.sl 2 0 i none,.bool false],.row 60 CA]) (os2:=[.row 60 [.fz n none (Bt U W1),.fz i none (Af W1),.bool false],.row 60 CA]) (rs:=[0,1,2])
   .a rfl hwf rfl rfl rfl rfl rfl rfl
  exact W.tells (q1.trans q2) (hr _ rfl)
theorem Zcw (hE:EM P e) (h101:Con e 44 dskF.O) (h103:Con e 66 CF):OvOk P 141 fluF.O:=by
 refine Ca g141.b fun x hx=>?_
 refine ⟨by show (AM.hf x.v && true)=true;rw [DK.hf hx.a];rfl,ZN x,C.of_W g141.f g141.c ?_⟩
 have hout:fluF.out x=FF x:=rfl
 rw [hout]
 have hO0:AN x=true→x.dead=false→FF x=.tup [(CQ x).v,.int .i64 0]:=fun h1 h2=>by unfold FF FO;rw [Zjj h1,h2];rfl
 have hO1:AN x=true→x.dead=true→FF x=.tup [.agg CA,.int .i64 40]:=fun h1 h2=>by unfold FF FO;rw [Zjj h1,h2];rfl
 have hO2:AN x≠true→FF x=.tup [.agg CA,.int .i64 8]:=fun h1=>by unfold FF FO;rw [Zjn h1];rfl
 by_cases hD:AN x=true
 ·have hD1:=(dskB_iff.1 hD).1
  have hDo:dskF.out x=.int .i64 0:=by show AV.int .i64 (if _ then _ else _)=_;rw [Zjj hD]
  have htw:=IA (x:=x) ⟨hx,hD1.1⟩
  have hfin:∀ s:St,s.get 2=some (.row 76 (CQ x).us)→Frz s (.tup [.agg [.sl 2 0 x.us.length none,.nils,.bool false],.int .i64 0]) (.tup [(CQ x).v,.int .i64 0]):=fun s h=>
   .tup _ _ (.cons (.agg _ _ (.cons (.sl 2 0 _ none none 76 _ (CQ x).us _ h (fun i x h=>by rw [Zju];exact h) (DG (Tv (Pw hx).a.bs)) (.inl rfl)) (.cons (.plain _ rfl) (.cons (.plain _ rfl) .nil)))) (.cons (.plain _ rfl) .nil))
  have hloop:=fun h0=>ZU hE h103 hx hD (fun v s=>Frz s v (.tup [(CQ x).v,.int .i64 0])) hfin h0
  have hrest:=SE hE h103 hx hD1.1 .nils rfl (fun v s=>Frz s v (.tup [(CQ x).v,.int .i64 0])) hfin
  have hUf:=JX hx.a
  have hO0:=hO0 hD
  have hO1:=hO1 hD
  obtain ⟨bv,us,bs,wv,ws,dd⟩:=x
  show W P 0 none M0 (Al [.agg [bv,wv,.bool dd]] 0 .lf) St0 [] _
  cases dd
  ·rw [hO0 rfl]
   refine Bf hE ?_;conv=>whnf
   refine Bf hE ?_;conv=>whnf
   refine ESc.fam dskF h101 _ hx (u:=.int .i64 0) hDo ?_;conv=>whnf
   repeat' (first|((refine w6 rfl rfl ?_ ?_) <;> intro _ <;> first|(exfalso;omega)|(conv=>whnf))|fail)
   refine Bf hE ?_;conv=>whnf
   skip
   rcases ws with _|⟨w0,ws⟩
   ·have htw:∀ s,CF [.agg [bv,wv,.bool false]] s=.ok (.agg [.sl (0+s.next) 0 us.length none,.nils,.bool false]) (Ae s [.row 76 (us.map Ao)]):=htw
    refine Bf hE ?_;conv=>whnf
    refine ESc.ov h103 (htw _) ?_;conv=>whnf
    refine Bf hE ?_;conv=>whnf
    repeat' (first|(refine w16 rfl ?_;conv=>whnf)|fail)
    refine Zeq hE ?_;conv=>whnf
    repeat' (first|((refine w1 rfl rfl ?_ ?_) <;> intro _ <;> first|(exfalso;omega)|(conv=>whnf))|fail)
    have hm1:(FN ⟨bv,us,bs,wv,[],false⟩).bv=.fz us.length none (us.map Ao):=rfl
    rw [hm1] at hrest
    exact W.tells (AbsK.frz (P:=P) (k:=0) (n:=2) (e:=76) (cs:=us.map Ao) (tl:=FL) (tl2:=FL) (os:=[.row 60 [.sl 2 0 us.length none,.nils,.bool false],.row 60 CA]) (os2:=[.row 60 [.fz us.length none (us.map Ao),.nils,.bool false],.row 60 CA]) (rs:=[0,1,2])
     .a rfl hUf rfl rfl rfl rfl rfl rfl) hrest
   ·have htw:∀ s,CF [.agg [bv,wv,.bool false]] s=.ok (.agg [.sl (0+s.next) 0 us.length none,.sl (1+s.next) 0 (ws.length+1) none,.bool false]) (Ae s [.row 76 (us.map Ao),.row 146 (Af ((w0::ws).map A7))]):=htw
    have hWf:hfs (Af ((w0::ws).map A7))=true:=E8 fun w hw=>by
     obtain ⟨v,hv,rfl⟩:=Zkf.1 hw
     exact (GJ (hx.a.ws v hv)).b.1.hf
    refine Bf hE ?_;conv=>whnf
    refine ESc.ov h103 (htw _) ?_;conv=>whnf
    refine W.tells (Abs.tells (tl:=FL) (os:=[.row 60 [.sl 2 0 us.length none,.sl 3 0 (ws.length+1) none,.bool false],.row 60 CA,.row 76 (us.map Ao),.row 146 (Af ((w0::ws).map A7))]) (rs:=[0,1,2,3])
     .a) ?_
    exact Bf hE (hloop (by simp))
  ·rw [hO1 rfl]
   refine F9 hE ?_;conv=>whnf
   refine ESc.fam dskF h101 _ hx (u:=.int .i64 0) hDo ?_;conv=>whnf
   repeat' (first|((refine w6 rfl rfl ?_ ?_) <;> intro _ <;> first|(exfalso;omega)|(conv=>whnf))|fail)
   exact .plain _ rfl
 ·have hDo:dskF.out x=.int .i64 8:=by show AV.int .i64 (if _ then _ else _)=_;rw [Zjn hD]
  rw [hO2 hD]
  refine F9 hE ?_
  obtain ⟨bv,us,bs,wv,ws,dd⟩:=x
  show VW P e 0 M0 (Al [.agg [bv,wv,.bool dd]] 0 .lf) St0 none [] _
  conv=>whnf
  refine ESc.fam dskF h101 _ hx (u:=.int .i64 8) hDo ?_;conv=>whnf
  repeat' (first|((refine w6 rfl rfl ?_ ?_) <;> intro _ <;> first|(exfalso;omega)|(conv=>whnf))|fail)
  exact .plain _ rfl
def DQ (x:DKW):Int:=if BH x.d x.a x.b=0 then (if x.d.ws.length=1024 then 9 else 0) else BH x.d x.a x.b
def DP (x:DKW):List WR:=x.d.ws.map A7++[⟨x.a,Am (As x.b),As x.b⟩]
def EV (x:DKW):DK:=⟨.fz x.d.us.length none (x.d.us.map Ao),x.d.us.map Ao,x.d.bs,.fz (x.d.ws.length+1) none (Af (DP x)),DP x,x.d.dead⟩
def HZ (x:DKW):AV:=if DQ x=0 then .tup [(EV x).v,.int .i64 0] else .tup [.agg CA,.int .i64 (DQ x)]
theorem ZO (x:DKW):AM.hf (HZ x)=true:=by unfold HZ;split <;> rfl
def dwF:Fam DKW:=⟨DKW.ok,DKW.args,HZ,fun x y hx hy h=>by rw [DKW.inja hx hy h]⟩
theorem Za1 (L M:List WR):Af (L++M)=Af L++Af M:=by unfold Af;rw [List.flatMap_append]
theorem Zhd (hE:EM P e) (h102:Con e 113 wrtF.O) (h103:Con e 66 CF) (h98:Inl e 102 IW [.tmp 2]) (h141:Inl e 119 Gd [.tmp 2]):OvOk P 140 dwF.O:=by
 refine Ca g140.b fun x hx=>?_
 refine ⟨DKW.hfa hx,ZO x,C.of_G hE g140 ?_⟩
 have hfam:=fun (s:St) (K:AV→St→Prop) (hk:K (.int .i64 (BH x.d x.a x.b)) s)=>ESc.fam wrtF h102 x hx (u:=.int .i64 (BH x.d x.a x.b)) rfl hk
 by_cases h0:BH x.d x.a x.b=0
 ·obtain ⟨q1,q2,q3,q4⟩:=Jp h0
  have hbl:x.b.length=0∨x.b.length=128:=GO q3
  have hdk1:DK1 x.d:=⟨hx.d,by omega⟩
  have htw:=IA hdk1
  have hUf:=JX hx.d.a
  have hw1024:x.d.ws.length≤1024:=(Kp hx.d.a q1).1
  have hWf:hfs (Af (x.d.ws.map A7))=true:=E8 fun w hw=>by
   obtain ⟨v,hv,rfl⟩:=Zkf.1 hw
   exact (GJ (hx.d.a.ws v hv)).b.1.hf
  have hout:dwF.out x=if x.d.ws.length=1024 then .tup [.agg CA,.int .i64 9] else .tup [(EV x).v,.int .i64 0]:=by
   show HZ x=_
   unfold HZ DQ
   rw [Zjj h0]
   split <;> rfl
  rw [h0] at hfam
  rw [hout]
  have hwsl:=hx.d.a.wl
  obtain ⟨⟨bv,us,bs,wv,ws,dd⟩,a,u,b⟩:=x
  obtain ⟨hd,ha,hbt,hbn⟩:=hx
  dsimp only at q2 q4 hbl htw hUf hWf ha hbt hbn hw1024 hwsl ⊢
  subst q4
  have hfB:∀ (s:St) r cp,s.get r=some (.row 5 (Aj (As b)))→Frz s (.sl r 0 128 cp) (Am (As b)):=fun s r cp h=>.sl r 0 128 cp none 5 _ (Aj (As b)) _ h (fun i x h=>by rw [Zju];exact h) (OJ _) (.inl rfl)
  have hbk:∀ (s:St),s.get 2=some (.row 76 (us.map Ao))→Frz s (.sl 2 0 us.length none) (.fz us.length none (us.map Ao)):=fun s h1=>
   .sl 2 0 us.length none none 76 _ (us.map Ao) _ h1 (fun i x h=>by rw [Zju];exact h) (DG hUf) (.inl rfl)
  have hwk:∀ (s:St) r q cp,s.get r=some (.row 146 (Af (ws.map A7)++[.int .i64 a,.sl q 0 128 cp]))→s.get q=some (.row 5 (Aj (As b)))→Frz s (.sl r 0 (ws.length+1) none) (.fz (ws.length+1) none (Af (DP ⟨⟨bv,us,bs,wv,ws,false⟩,a,u,b⟩))):=fun s r q cp h1 h2=>by
   refine .sl r 0 _ none none 146 _ (Af (ws.map A7)++[.int .i64 a,.sl q 0 128 cp]) _ h1 (fun i x h=>by rw [Zju];exact h) ?_ (.inl rfl)
   unfold DP
   rw [Za1]
   exact (DG hWf).append (.cons (.plain _ rfl) (.cons (hfB s q cp h2) .nil))
  clear q1 q3 hout
  show VW P e 0 (match QL with|.mk c _=>c) (Al [.agg [bv,wv,.bool false],.int .i64 a,u] 0 .lf) St0 none [] _
  have hfam:∀ (s:St) (K:AV→St→Prop),K (.int .i64 0) s→ESc e 113 [.agg [bv,wv,.bool false],.int .i64 a,u] s K:=hfam
  have hdd:(EV ⟨⟨bv,us,bs,wv,ws,false⟩,a,u,b⟩).v=.agg [.fz us.length none (us.map Ao),.fz (ws.length+1) none (Af (DP ⟨⟨bv,us,bs,wv,ws,false⟩,a,u,b⟩)),.bool false]:=rfl
  by_cases h1024:ws.length=1024
  ·rw [Zjj h1024]
   conv=>whnf
   refine hfam _ _ ?_;conv=>whnf
   repeat' (first|(refine Ac rfl hwsl ?_;conv=>whnf)|((first|refine w5 rfl rfl ?_ ?_|refine w6 rfl rfl ?_ ?_) <;> intro _ <;> first|(exfalso;omega)|(conv=>whnf))|fail)
   exact .plain _ rfl
  ·rw [Zjn h1024,hdd]
   rcases ws with _|⟨w0,ws⟩
   ·have htw:∀ s,CF [.agg [bv,wv,.bool false]] s=.ok (.agg [.sl (0+s.next) 0 us.length none,.nils,.bool false]) (Ae s [.row 76 (us.map Ao)]):=htw
    have fin:∀ (s:St) r q cp,s.get 2=some (.row 76 (us.map Ao))→s.get r=some (.row 146 [.int .i64 a,.sl q 0 128 cp])→s.get q=some (.row 5 (Aj (As b)))→Frz s (.tup [.agg [.sl 2 0 us.length none,.sl r 0 1 none,.bool false],.int .i64 0]) (.tup [.agg [.fz us.length none (us.map Ao),.fz (0+1) none (Af (DP ⟨⟨bv,us,bs,wv,[],false⟩,a,u,b⟩)),.bool false],.int .i64 0]):=fun s r q cp h1 h2 h3=>
     .tup _ _ (.cons (.agg _ _ (.cons (hbk s h1) (.cons (hwk s r q cp h2 h3) (.cons (.plain _ rfl) .nil)))) (.cons (.plain _ rfl) .nil))
    conv=>whnf
    refine hfam _ _ ?_;conv=>whnf
    repeat' (first|(refine Ac rfl hwsl ?_;conv=>whnf)|((first|refine w5 rfl rfl ?_ ?_|refine w6 rfl rfl ?_ ?_) <;> intro _ <;> first|(exfalso;omega)|(conv=>whnf))|fail)
    refine ESc.ov h103 (htw _) ?_;conv=>whnf
    refine I5 h98 h141 hbt hbl (by show 3<1000000;decide) (fun h0=>?_) (fun h1=>?_)
    ·conv=>whnf
     repeat' (first|(refine CT (m:=1) rfl rfl rfl rfl (by decide) (by decide) ?_;conv=>whnf)|(refine ⟨rfl,?_⟩;conv=>whnf)|fail)
     exact fin _ _ _ _ rfl rfl rfl
    ·conv=>whnf
     repeat' (first|(refine CT (m:=1) rfl rfl rfl rfl (by decide) (by decide) ?_;conv=>whnf)|(refine ⟨rfl,?_⟩;conv=>whnf)|fail)
     exact fin _ _ _ _ rfl rfl rfl
   ·have htw:∀ s,CF [.agg [bv,wv,.bool false]] s=.ok (.agg [.sl (0+s.next) 0 us.length none,.sl (1+s.next) 0 (ws.length+1) none,.bool false]) (Ae s [.row 76 (us.map Ao),.row 146 (Af ((w0::ws).map A7))]):=htw
    have fin:∀ (s:St) r q cp,s.get 2=some (.row 76 (us.map Ao))→s.get r=some (.row 146 (Af ((w0::ws).map A7)++[.int .i64 a,.sl q 0 128 cp]))→s.get q=some (.row 5 (Aj (As b)))→Frz s (.tup [.agg [.sl 2 0 us.length none,.sl r 0 (ws.length+1+1) none,.bool false],.int .i64 0]) (.tup [.agg [.fz us.length none (us.map Ao),.fz ((w0::ws).length+1) none (Af (DP ⟨⟨bv,us,bs,wv,w0::ws,false⟩,a,u,b⟩)),.bool false],.int .i64 0]):=fun s r q cp h1 h2 h3=>
     .tup _ _ (.cons (.agg _ _ (.cons (hbk s h1) (.cons (hwk s r q cp h2 h3) (.cons (.plain _ rfl) .nil)))) (.cons (.plain _ rfl) .nil))
    have hw1025:ws.length+1≤1024:=hw1024
    conv=>whnf
    refine hfam _ _ ?_;conv=>whnf
    repeat' (first|(refine Ac rfl hwsl ?_;conv=>whnf)|((first|refine w5 rfl rfl ?_ ?_|refine w6 rfl rfl ?_ ?_) <;> intro _ <;> first|(exfalso;omega)|(conv=>whnf))|fail)
    refine ESc.ov h103 (htw _) ?_;conv=>whnf
    refine I5 h98 h141 hbt hbl (by show 4<1000000;decide) (fun h0=>?_) (fun h1=>?_)
    ·conv=>whnf
     repeat' (first|(refine Cy (m:=1) rfl rfl rfl rfl (by rw [Dm,Zjm];rfl) rfl (by decide) (by omega) ?_;conv=>whnf)|(refine ⟨rfl,?_⟩;conv=>whnf)|fail)
     exact fin _ _ _ _ rfl rfl rfl
    ·conv=>whnf
     repeat' (first|(refine Cy (m:=1) rfl rfl rfl rfl (by rw [Dm,Zjm];rfl) rfl (by decide) (by omega) ?_;conv=>whnf)|(refine ⟨rfl,?_⟩;conv=>whnf)|fail)
     exact fin _ _ _ _ rfl rfl rfl
 ·have hout:dwF.out x=.tup [.agg CA,.int .i64 (BH x.d x.a x.b)]:=by
   show HZ x=_
   unfold HZ DQ
   rw [Zjn h0,Zjn h0]
  rw [hout]
  obtain ⟨E,hE'⟩:∃ E,E=BH x.d x.a x.b:=⟨_,rfl⟩
  rw [← hE'] at h0 hfam ⊢
  obtain ⟨⟨bv,us,bs,wv,ws,dd⟩,a,u,b⟩:=x
  have hfam:∀ (s:St) (K:AV→St→Prop),K (.int .i64 E) s→ESc e 113 [.agg [bv,wv,.bool dd],.int .i64 a,u] s K:=hfam
  show VW P e 0 (match QL with|.mk c _=>c) (Al [.agg [bv,wv,.bool dd],.int .i64 a,u] 0 .lf) St0 none [] _
  conv=>whnf
  refine hfam _ _ ?_;conv=>whnf
  refine L7 (a:=E) (b:=0) rfl rfl (fun _=>?_) (fun h=>absurd h h0);conv=>whnf
  skip
  exact .plain _ rfl
noncomputable def relS (R:List AV→St→AV→St→Prop):Ov:=fun args s=>open Classical in if h:∃ p:AV×St,R args s p.1 p.2 then .ok h.choose.1 h.choose.2 else .fail
variable {f:Nat}
theorem LZ {R:List AV→St→AV→St→Prop}(hb:Fd P f) (h:∀ args s u s',R args s u s'→C P f args s (fun v s''=>v=u∧s''=s')):OvOk P f (relS R):=by
 refine ⟨hb,fun args s v s' hh=>?_⟩
 unfold relS at hh
 split at hh
 ·rename_i hx
  cases hh
  exact h args s _ _ hx.choose_spec
 ·cases hh
variable {s:St}{k:AV→St→Prop}
theorem ESc.relS {R:List AV→St→AV→St→Prop}{vs:List AV}{s':St}(hi:Con e f (relS R)) (hx:R vs s u s') (hk:∀ u s',R vs s u s'→k u s'):ESc e f vs s k:=by
 have hx:∃ p:AV×St,R vs s p.1 p.2:=⟨(u,s'),hx⟩
 refine ESc.ov hi (v:=hx.choose.1) (s':=hx.choose.2) ?_ (hk _ _ hx.choose_spec)
 unfold AM.relS
 rw [dif_pos hx]
theorem RA {t:AT}{x y:AO}{a b:Nat}(hx:ev x t=.some (.int .u8 (a:Int))) (hy:ev y t=.some (.int .u8 (b:Int))) (ha:a<256) (hb:b<256) (hk:k (.int .u8 ((a ^^^ b:Nat):Int)) s):EPrim (.bin .xor x y) t s k:=by
 refine DY hx hy (v:=.int .u8 (Int.ofNat (a ^^^ b))) ?_ hk
 show OV.some (.int .u8 (Int.ofNat (Nat.xor (a % 256) (b % 256))))=_
 rw [Zlb ha,Zlb hb];rfl
def G3 (b:List Nat) (i:Nat):List Nat:=b.take i++List.replicate (128-i) 0
variable {i w:Nat}
theorem Zap (h:b[i]?=some w) (hb:b.length=128):(G3 b i).set i w=G3 b (i+1):=by
 have hl:=(Zjg.1 h).1
 unfold G3
 rw [List.take_add_one,h,show 128-i=(128-(i+1))+1 by omega,List.replicate_succ,List.set_append,Zjn (by rw [Zj5];omega)]
 rw [show i-(List.take i b).length=0 by rw [Zj5];omega,List.set_cons_zero,List.append_assoc]
 rfl
variable {r:Nat}{bs:List Nat}
theorem XT {e:Nat}(h:s.get r=some (.row e (Aj bs))) (hi:i<bs.length):storeAt r i [.int .u8 (Int.ofNat n)] s=some (s.put r (.row e (Aj (bs.set i n)))):=by
 rw [JQ h (by rw [CU];simp;omega)]
 congr 4
 show (Aj bs).take i++[AV.int .u8 (Int.ofNat n)]++(Aj bs).drop (i+1)=(bs.set i n).map _
 rw [List.set_eq_take_append_cons_drop,Zjj hi]
 unfold Aj
 rw [Zj4,Zkv,List.map_take,List.map_drop,List.append_assoc];rfl
variable {o:Nat}
theorem O5 {e:Nat}{K:St→Prop}(h:s.get r=some (.row e (Aj bs))) (ho:o=i) (hi:i<bs.length) (hk:K (s.put r (.row e (Aj (bs.set i n))))):(Option.rec (motive:=fun _=>Prop) False (fun s'=>K s') (storeAt r o [.int .u8 (n:Int)] s)):=by
 subst ho
 rw [show storeAt r o [.int .u8 (n:Int)] s=_ from XT h hi];exact hk
def KL (args:List AV) (s:St) (u:AV) (s':St):Prop:=∃ b v,b.length=128∧args=[v]∧Ls Ce.u8 b v∧u=.sl (0+s.next) 0 128 (some 128)∧s'=s.alloc (.row 5 (Aj b))
variable {v:AV}
theorem Za3 (h:Con e 176 (relS KL)) (hb:b.length=128) (hv:Ls Ce.u8 b v) {K:AV→St→Prop}(hk:K (.sl (0+s.next) 0 128 (some 128)) (s.alloc (.row 5 (Aj b)))):ESc e 176 [v] s K:=by
 refine ESc.relS h (s':=s.alloc (.row 5 (Aj b))) ⟨b,v,hb,rfl,hv,rfl,rfl⟩ ?_
 rintro u s' ⟨b',v',_,e1,hv',rfl,rfl⟩
 cases e1
 rw [hv'.inj hv];exact hk
theorem Zeu (hE:EM P e):OvOk P 176 (relS KL):=by
 refine LZ g176.b ?_
 rintro args s u s' ⟨b,v,hb,rfl,hv,rfl,rfl⟩
 have hvf:=hv.hf
 have hfa:hfs [v]=true:=by show (AM.hf v && true)=true;rw [hvf];rfl
 obtain ⟨cs,hs,hl,hn⟩:=hv.nth
 have key:C P 176 [v] St0 (fun u s'=>u=.sl 0 0 128 (some 128)∧s'=Ae St0 [.row 5 (Aj b)]):=by
  refine C.abs (C.of_G hE g176 ?_)
  have fin:∀ s r,s.get r=some (.row 5 (Aj b))→∃ rs,Abs (T.set .lf (.sl r 0 128 (some 128)) 0) s [(0,.sl 0 0 128 (some 128))] [.row 5 (Aj b)] rs:=fun s r h=>⟨[r],⟨by simp,⟨⟨rfl,rfl⟩,trivial⟩,⟨⟨Ab (B0 _),by rw [Aa (B0 _)];exact h⟩,trivial⟩⟩⟩
  conv=>whnf
  refine JI (n:=127) rfl rfl (by decide) ?_;conv=>whnf
  refine A0 hE 128 (fun i=>[(0,v),(3,.sl 0 0 128 (some 128)),(4,.int .i64 (i:Int))]) (fun i=>[.row 5 (Aj (G3 b i))]) (fun _=>True) trivial (Abs.tells (rs:=[0]) ⟨by decide,⟨t9,r9,r9,trivial⟩,⟨⟨rfl,rfl⟩,trivial⟩⟩) ?_
  intro i hi _
  conv=>whnf
  by_cases hlt:i<b.length
  ·obtain ⟨w,_,r,hw,⟨rfl,hw'⟩,hd⟩:=hn i hlt
   have hsc:=Zap hw hb
   repeat' (first|(refine Ai rfl hs rfl hlt hd ?_;conv=>whnf)|(refine EHead.mk rfl ?_;conv=>whnf)|(refine Ac rfl hs ?_;conv=>whnf)|(refine JC rfl rfl (by omega) (by omega) ?_;conv=>whnf)|((refine w1 rfl rfl ?_ ?_) <;> intro _ <;> first|(exfalso;omega)|(conv=>whnf))|fail)
   have hcl:i<(G3 b i).length:=by unfold G3;rw [Zjt,Zj5,List.length_replicate];omega
   refine O5 (i:=i) (bs:=G3 b i) rfl (by omega) hcl ?_
   rw [hsc]
   conv=>whnf
   repeat' (first|((first|refine w7 rfl rfl (by omega) ?_|refine ⟨rfl,?_⟩);conv=>whnf)|fail)
   exact ⟨by omega,trivial,Abs.tells (rs:=[0]) ⟨by decide,⟨t9,r9,r9,trivial⟩,⟨⟨Ab (B0 _),by rw [Aa (B0 _)];rfl⟩,trivial⟩⟩⟩
  ·have hcb:G3 b i=b:=by unfold G3;rw [Zjo (by omega),show 128-i=0 by omega];exact Zkq b
   rw [hcb]
   repeat' (first|(refine Ac rfl hs ?_;conv=>whnf)|((refine w1 rfl rfl ?_ ?_) <;> intro _ <;> first|(exfalso;omega)|(conv=>whnf))|fail)
   exact fin _ _ rfl
 refine (C.frame (l:=[.row 5 (Aj b)]) (u:=.sl 0 0 128 (some 128)) hfa ?_ ?_ key ?_ s).mono ?_
 ·intro o ho;simp at ho;subst ho;rfl
 ·exact .inl (by simp)
 ·intro i o h
  rcases i with _|i
  ·simp at h;subst h;rfl
  ·simp at h
 ·rintro v s' ⟨rfl,rfl⟩
  refine ⟨rfl,?_⟩
  show Ae s [Ax _ (.row 5 (Aj b))]=_
  rw [Aa (B0 _)];rfl
def BK (a b:List Nat):List Nat:=List.zipWith (fun x y=>x ^^^ y) a b
variable {a:List Nat}
theorem LE (h:a.length=128) (h':b.length=128):(BK a b).length=128:=by unfold BK;rw [List.length_zipWith];omega
theorem Zaz (h:∀ x ∈ a,x<256) (h':∀ x ∈ b,x<256):∀ x ∈ BK a b,x<256:=by
 intro x hx
 obtain ⟨i,hi⟩:=Zk6 hx
 unfold BK at hi
 rw [List.getElem?_zipWith] at hi
 cases ha:a[i]? with
 | none=>rw [ha] at hi;cases hi
 | some y=>cases hb:b[i]? with
  | none=>rw [ha,hb] at hi;cases hi
  | some z=>
   rw [ha,hb] at hi
   cases hi
   exact Nat.xor_lt_two_pow (n:=8) (h y (Zj1 ha)) (h' z (Zj1 hb))
theorem Pv (h:b.length=128) (h':∀ x ∈ b,x<256):Ls Ce.u8 b (Am b):=by
 have e:(b.map fun (x:Nat)=>[AV.int .u8 (x:Int)]).flatten=Aj b:=by
  clear h h'
  induction b with
  | nil=>rfl
  | cons x b ih=>rw [Zkv,List.flatten_cons,ih];rfl
 refine ⟨b.map fun (x:Nat)=>[.int .u8 (x:Int)],?_,.inr (.inr ⟨none,by rw [e,h];rfl,by rw [e,CU];exact (Zki _).symm⟩),by omega⟩
 refine E3 (by simp) fun i x l h1 h2=>?_
 rw [Zke,h1] at h2
 cases h2
 exact ⟨rfl,h' x (Zj1 h1)⟩
theorem RN {e:Nat}{cs:List AV}(h:s.get r=some (.row e cs)) (hv:cs[o]?=some v):load1 r o s=some v:=by
 unfold load1
 rw [LG h,← HG] at *
 exact hv
theorem Tq {e:Nat}{K:AV→Prop}(h:s.get r=some (.row e (Aj bs))) (ho:o=i) (hw:bs[i]?=some w) (hk:K (.int .u8 (w:Int))):(Option.rec (motive:=fun _=>Prop) False (fun s'=>K s') (load1 r o s)):=by
 subst ho
 rw [RN h (by unfold Aj;rw [Zke,hw];rfl)];exact hk
def Df (a b:List Nat) (i:Nat):List Nat:=(BK a b).take i++a.drop i
theorem RE {x y:Nat}(ha:a.length=128) (hb:b.length=128) (hx:a[i]?=some x) (hy:b[i]?=some y):(Df a b i)[i]?=some x∧(Df a b i).set i (x ^^^ y)=Df a b (i+1):=by
 have hl:=(Zjg.1 hx).1
 have hxl:=LE ha hb
 have ht:((BK a b).take i).length=i:=by rw [Zj5];omega
 have hg:(BK a b)[i]?=some (x ^^^ y):=by unfold BK;rw [List.getElem?_zipWith,hx,hy]
 have hd:a.drop i=x::a.drop (i+1):=by
  rw [Zj2 hl];congr 1;exact (Zjg.1 hx).2
 unfold Df
 refine ⟨?_,?_⟩
 ·rw [Zka (by omega),ht,Nat.sub_self,hd];rfl
 ·rw [List.set_append,Zjn (by omega),ht,Nat.sub_self,hd,List.set_cons_zero,List.take_add_one,hg,List.append_assoc];rfl
def twoF:Fn (List Nat×List Nat×Unit):=⟨.v bytC (.v bytC .nil),fun x=>x.1.length=128∧x.2.1.length=128,fun x=>Am (BK x.1 x.2.1)⟩
theorem Zba (hE:EM P e) (h176:Con e 176 (relS KL)):OvOk P 131 twoF.O:=by
 refine B2 g131.b ?_
 rintro ⟨a,b,_⟩ _ ⟨v,_,rfl,⟨_,e0,hA⟩,w,_,rfl,⟨_,e1,hB⟩,rfl⟩ ⟨ha,hb⟩
 cases e0
 cases e1
 dsimp only at ha hb hA hB
 obtain ⟨cs,hs,hl,hn⟩:=hA.nth
 obtain ⟨ds,hs',hl',hn'⟩:=hB.nth
 have hvf:=hB.hf
 refine ⟨rfl,C.of_G hE g131 ?_⟩
 have fin:∀ s,s.get 0=some (.row 5 (Aj (BK a b)))→Frz s (.sl 0 0 128 (some 128)) (twoF.out (a,b,())):=fun s h=>.sl 0 0 128 _ _ 5 _ _ _ h (fun i x h=>by rw [Zju];exact h) (Jj (B0 _)) (.inl rfl)
 generalize twoF.out _=O at fin ⊢
 conv=>whnf
 refine Za3 h176 ha hA ?_;conv=>whnf
 have h0:Df a b 0=a:=by unfold Df;simp
 refine A0 hE 128 (fun i=>[(1,w),(5,.sl 0 0 128 (some 128)),(6,.int .i64 (i:Int))]) (fun i=>[.row 5 (Aj (Df a b i))]) (fun _=>True) trivial (Abs.tells (rs:=[0]) ⟨by decide,⟨t9,r9,r9,trivial⟩,⟨⟨Ab (B0 _),by rw [Aa (B0 _),h0];rfl⟩,trivial⟩⟩) ?_
 intro i hi _
 conv=>whnf
 refine Ac rfl hs' ?_;conv=>whnf
 by_cases hlt:i<b.length
 ·obtain ⟨x,_,r,hx,⟨rfl,hx'⟩,-⟩:=hn i (by omega)
  obtain ⟨y,_,r',hy,⟨rfl,hy'⟩,hd⟩:=hn' i hlt
  obtain ⟨hg,hst⟩:=RE ha hb hx hy
  have hil:=(Zjg.1 hg).1
  repeat' (first|(refine JC rfl rfl (by omega) (by omega) ?_;conv=>whnf)|(refine Ai rfl hs' rfl hlt hd ?_;conv=>whnf)|(refine EHead.mk rfl ?_;conv=>whnf)|(refine Ac rfl hs' ?_;conv=>whnf)|(refine Tq (i:=i) (bs:=Df a b i) rfl (by omega) hg ?_;conv=>whnf)|(refine RA rfl rfl hx' hy' ?_;conv=>whnf)|(refine O5 (i:=i) (bs:=Df a b i) rfl (by omega) hil ?_;rw [hst];conv=>whnf)|((refine w1 rfl rfl ?_ ?_) <;> intro _ <;> first|(exfalso;omega)|(conv=>whnf))|((first|refine w7 rfl rfl (by omega) ?_|refine ⟨rfl,?_⟩);conv=>whnf)|fail)
  exact ⟨by omega,trivial,Abs.tells (rs:=[0]) ⟨by decide,⟨t9,r9,r9,trivial⟩,⟨⟨Ab (B0 _),by rw [Aa (B0 _)];rfl⟩,trivial⟩⟩⟩
 ·have he:Df a b i=BK a b:=by
   have:=LE ha hb
   unfold Df;rw [Zjo (by omega),Zkb (by omega),Zkq]
  rw [he]
  repeat' (first|((refine w1 rfl rfl ?_ ?_) <;> intro _ <;> first|(exfalso;omega)|(conv=>whnf))|fail)
  exact fin _ rfl
def En:List Nat:=List.replicate 128 0
def AA (l:List (List Nat)):List Nat:=l.foldl BK En
def Dr (l:List (List Nat)):Prop:=∀ b ∈ l,b.length=128∧∀ x ∈ b,x<256
variable {l:List (List Nat)}
theorem Sk (h:l[i]?=some b):AA (l.take (i+1))=BK (AA (l.take i)) b:=by
 unfold AA
 rw [List.take_add_one,h,List.foldl_append];rfl
theorem GR (h:Dr l):(AA l).length=128∧∀ x ∈ AA l,x<256:=by
 have key:∀ (l:List (List Nat)) (a:List Nat),Dr l→(a.length=128∧∀ x ∈ a,x<256)→(l.foldl BK a).length=128∧∀ x ∈ l.foldl BK a,x<256:=by
  intro l
  induction l with
  | nil=>intro a _ h;exact h
  | cons b l ih=>
   intro a hl h
   have hb:=hl b (by simp)
   exact ih _ (fun c hc=>hl c (by simp [hc])) ⟨LE h.1 hb.1,Zaz h.2 hb.2⟩
 exact key l En h ⟨by unfold En;simp,fun x hx=>by unfold En at hx;rw [(List.mem_replicate.1 hx).2];decide⟩
noncomputable def allF3:Fn (List (List Nat)×Unit):=⟨.v blkC .nil,fun x=>Dr x.1,fun x=>Am (AA x.1)⟩
theorem Zaw (hE:EM P e) (h131:Con e 131 twoF.O):OvOk P 79 allF3.O:=by
 refine B2 g79.b ?_
 rintro ⟨l,_⟩ _ ⟨v,_,rfl,⟨_,e0,hL⟩,rfl⟩ hB
 cases e0
 have hB:Dr l:=hB
 obtain ⟨cs,hs,hl,hn⟩:=hL.nth
 have hvf:=hL.hf
 dsimp only at hs hl hn
 refine ⟨rfl,C.of_G hE g79 ?_⟩
 have fin:∀ s,Frz s (Am (AA l)) (allF3.out (l,())):=fun s=>.plain _ rfl
 generalize allF3.out _=O at fin ⊢
 conv=>whnf
 refine JI (n:=127) rfl rfl (by decide) ?_;conv=>whnf
 refine A0 hE l.length (fun i=>[(0,v),(3,Am (AA (l.take i))),(4,.int .i64 (i:Int))]) (fun _=>[]) (fun _=>True) trivial (AbsK.frz (n:=0) (e:=5) (cs:=Aj En) (tl:=[(0,v),(3,.sl 0 0 128 (some 128)),(4,.int .i64 0)]) (os:=[]) (rs:=[0]) ⟨rfl,by decide,⟨t9,r9,r9,trivial⟩,⟨⟨rfl,rfl⟩,trivial⟩⟩ rfl rfl rfl rfl rfl rfl ?_ rfl) ?_
 ·show [(0,Dd 0 _ v),_,_]=_
  rw [HF v hvf];rfl
 intro i hi _
 conv=>whnf
 refine Ac rfl hs ?_;conv=>whnf
 by_cases hlt:i<l.length
 ·obtain ⟨b,_,r,hb,⟨u,rfl,hu⟩,hd⟩:=hn i hlt
  have hbb:=hB b (Zj1 hb)
  have hX:=GR (l:=l.take i) fun c hc=>hB c (Zkm hc)
  have hst:=Sk hb
  have hc:∀ (Q:AV→St→Prop) s,Q (Am (AA (l.take (i+1)))) s→ESc e 131 [Am (AA (l.take i)),u] s Q:=fun Q s k=>Fn.u (F:=twoF) h131 (AA (l.take i),b,()) ⟨_,_,rfl,⟨_,rfl,Pv hX.1 hX.2⟩,_,_,rfl,⟨_,rfl,hu⟩,rfl⟩ ⟨hX.1,hbb.1⟩ (by rw [hst] at k;exact k)
  repeat' (first|(refine Ai rfl hs rfl hlt hd ?_;conv=>whnf)|(refine EHead.mk rfl ?_;conv=>whnf)|(refine Ac rfl hs ?_;conv=>whnf)|(refine hc _ _ ?_;conv=>whnf)|((refine w1 rfl rfl ?_ ?_) <;> intro _ <;> first|(exfalso;omega)|(conv=>whnf))|((first|refine w7 rfl rfl (by omega) ?_|refine ⟨rfl,?_⟩);conv=>whnf)|fail)
  exact ⟨hlt,trivial,Abs.tells (rs:=[]) .a⟩
 ·rw [Zjo (by omega)]
  repeat' (first|((refine w1 rfl rfl ?_ ?_) <;> intro _ <;> first|(exfalso;omega)|(conv=>whnf))|fail)
  exact fin _
def Bp (c:Cfg) (s k:Int):Int:=(s / c.chunk*(c.members-1)+k) % c.members
def KR (m r:Nat):Nat→Nat
 | 0=>0
 | i+1=>KR m r i+(r+i) % m
theorem Z5:∀ m<17,∀ r<m,KR m r m*2=m*(m-1):=by decide
def Fo (c:Cfg) (s:Int):Nat→Int
 | 0=>0
 | i+1=>Fo c s i+Bp c s i
theorem SW {c:Cfg}{s:Int}(hm:0<c.members):∀ i,Fo c s i=(KR c.members.toNat ((s / c.chunk*(c.members-1)) % c.members).toNat i:Nat)
 | 0=>rfl
 | i+1=>by
  unfold Fo KR Bp
  rw [SW hm i]
  have h0:=Zkz (s / c.chunk*(c.members-1)) (show c.members≠0 by omega)
  rw [← Int.emod_add_emod]
  generalize (s / c.chunk*(c.members-1)) % c.members=r at *
  obtain ⟨n,hn⟩:∃ n:Nat,r=n:=⟨r.toNat,by omega⟩
  obtain ⟨m,hmm⟩:∃ m:Nat,c.members=m:=⟨c.members.toNat,by omega⟩
  rw [hmm,hn]
  simp only [Int.toNat_natCast]
  push_cast
  rfl
variable {c:Cfg}
theorem HO {s k:Int}(hm:0<c.members):0≤Bp c s k∧Bp c s k<c.members:=⟨Zkz _ (by omega),Zk1 _ hm⟩
theorem XS {s:Int}(hM:c.may):Fo c s (c.members-1).toNat+Bp c s (c.members-1)=c.members*(c.members-1) / 2:=by
 unfold Cfg.may at hM
 have h1:=SW (c:=c) (s:=s) (by omega) c.members.toNat
 have h0:=Zkz (s / c.chunk*(c.members-1)) (show c.members≠0 by omega)
 have h0':=Zk1 (s / c.chunk*(c.members-1)) (show 0<c.members by omega)
 have h2:=Z5 c.members.toNat (by omega) ((s / c.chunk*(c.members-1)) % c.members).toNat (by omega)
 obtain ⟨z,hz⟩:∃ z,z=KR c.members.toNat ((s / c.chunk*(c.members-1)) % c.members).toNat c.members.toNat:=⟨_,rfl⟩
 rw [← hz] at h1 h2
 have h3:Fo c s c.members.toNat=Fo c s (c.members-1).toNat+Bp c s (c.members-1):=by
  rw [show c.members.toNat=(c.members-1).toNat+1 by omega]
  show _+Bp c s (((c.members-1).toNat:Nat):Int)=_
  rw [show (((c.members-1).toNat:Nat):Int)=c.members-1 by omega]
 rw [← h3,h1]
 obtain ⟨m,hm⟩:∃ m:Nat,c.members=((m+1:Nat):Int):=⟨c.members.toNat-1,by omega⟩
 rw [hm] at h2 ⊢
 rw [Int.toNat_natCast] at h2
 rw [Nat.add_sub_cancel] at h2
 have h4:((m+1:Nat):Int)*(((m+1:Nat):Int)-1)=(z:Int)*2:=by
  rw [show ((m+1:Nat):Int)-1=(m:Int) by omega];exact_mod_cast h2.symm
 rw [h4];omega
def onA (args:List AV) (c:Cfg) (s k:Int):Prop:=args=[.agg c.c,.int .i64 s,.int .i64 k]∧c.ok∧c.may∧(0≤s∧s<AG c)
def KP (args:List AV) (u:AV):Prop:=∃ c s k,onA args c s k∧(0≤k∧k<c.members-1)∧u=.int .i64 (Bp c s k)
def KO (args:List AV) (u:AV):Prop:=∃ c s k,onA args c s k∧(0≤k∧k<c.members)∧u=.int .i64 (Bp c s k)
theorem Tk {args:List AV}{c':Cfg}{s s' k k':Int}(h:onA args c s k) (h':onA args c' s' k'):c=c'∧s=s'∧k=k':=by
 obtain ⟨rfl,-⟩:=h
 obtain ⟨h1,-⟩:=h'
 injection h1 with h1 h2
 injection h2 with h2 h3
 injection h3 with h3
 injection h1 with h1
 injection h2 with _ h2
 injection h3 with _ h3
 exact ⟨Cfg.inj h1,h2,h3⟩
theorem Zby {e:Env}(h:Con e 173 (Bx KP)) {c:Cfg}{s k:Int}(hc:c.ok) (hM:c.may) (hs:0≤s∧s<AG c) (hk:0≤k∧k<c.members-1) {st:St}{K:AV→St→Prop}(hq:K (.int .i64 (Bp c s k)) st):ESc e 173 [.agg c.c,.int .i64 s,.int .i64 k] st K:=by
 refine ESc.rel h ⟨_,c,s,k,⟨rfl,hc,hM,hs⟩,hk,rfl⟩ ?_
 rintro u ⟨c',s',k',h1,_,rfl⟩
 obtain ⟨rfl,rfl,rfl⟩:=Tk h1 ⟨rfl,hc,hM,hs⟩
 exact hq
theorem Zbx {e:Env}(h:Con e 173 (Bx KO)) {c:Cfg}{s k:Int}(hc:c.ok) (hM:c.may) (hs:0≤s∧s<AG c) (hk:0≤k∧k<c.members) {st:St}{K:AV→St→Prop}(hq:K (.int .i64 (Bp c s k)) st):ESc e 173 [.agg c.c,.int .i64 s,.int .i64 k] st K:=by
 refine ESc.rel h ⟨_,c,s,k,⟨rfl,hc,hM,hs⟩,hk,rfl⟩ ?_
 rintro u ⟨c',s',k',h1,_,rfl⟩
 obtain ⟨rfl,rfl,rfl⟩:=Tk h1 ⟨rfl,hc,hM,hs⟩
 exact hq
theorem RJ {s:Int}(hM:c.may) (hs:0≤s∧s<AG c):(0≤s / c.chunk∧s / c.chunk≤64)∧0≤s / c.chunk*(c.members-1)∧s / c.chunk*(c.members-1)≤1000:=by
 have hm:=BJ hM
 unfold Cfg.may at hM
 have h1:=Int.ediv_nonneg hs.1 (show 0≤c.chunk by omega)
 have h2:=Int.ediv_le_self c.chunk hs.1
 exact ⟨⟨h1,by omega⟩,Int.mul_nonneg h1 (by omega),Int.le_trans (Int.mul_le_mul (by omega:s / c.chunk≤64) (by omega:c.members-1≤15) (by omega) (by omega)) (by decide)⟩
theorem Zfh (hE:EM P e):OvOk P 173 (Bx KP):=by
 refine Kh g173.b ?_
 rintro args u ⟨c,s,k,⟨rfl,hc,hM,hs⟩,hk,rfl⟩
 refine ⟨rfl,rfl,C.of_G hE g173 ?_⟩
 have hr:=RJ hM hs
 have hmm:=BJ hM
 have fin:∀ st,Frz st (.int .i64 ((s / c.chunk*(c.members-1)+k) % c.members)) (.int .i64 (Bp c s k)):=fun st=>.plain _ rfl
 generalize AV.int .i64 (Bp c s k)=O at fin ⊢
 unfold Cfg.may at hM
 have hp:=Do (a:=s / c.chunk) (b:=c.members-1) (by omega) (by omega)
 conv=>whnf
 repeat' (first|(refine H4 rfl rfl (by omega) ?_;conv=>whnf)|(refine JG rfl rfl (by omega) ?_;conv=>whnf)|(refine Cl rfl rfl hp ?_;conv=>whnf)|((refine w5 rfl rfl ?_ ?_) <;> intro _ <;> first|(exfalso;omega)|(conv=>whnf))|((first|refine w7 rfl rfl (by omega) ?_|refine w8 rfl rfl (by omega) ?_);conv=>whnf)|fail)
 exact fin _
theorem Zfg (hE:EM P e) (h173:Con e 173 (Bx KP)):OvOk P 173 (Bx KO):=by
 refine Kh g173.b ?_
 rintro args u ⟨c,s,k,⟨rfl,hc,hM,hs⟩,hk,rfl⟩
 refine ⟨rfl,rfl,C.of_G hE g173 ?_⟩
 have hr:=RJ hM hs
 have hmm:=BJ hM
 have hla:=XS (s:=s) hM
 have fin:∀ st v,v=Bp c s k→Frz st (.int .i64 v) (.int .i64 (Bp c s k)):=fun st v h=>by subst h;exact .plain _ rfl
 generalize AV.int .i64 (Bp c s k)=O at fin ⊢
 have hM':=hM
 unfold Cfg.may at hM'
 have hsum:∀ i:Nat,i≤16→0≤Fo c s i∧Fo c s i≤16*i:=by
  intro i
  induction i with
  | zero=>intro _;unfold Fo;omega
  | succ i ih=>intro h;have:=ih (by omega);have:=HO (c:=c) (s:=s) (k:=i) (by omega);unfold Fo;omega
 have hp:=Do (a:=s / c.chunk) (b:=c.members-1) (by omega) (by omega)
 have hp2:=Do (a:=c.members) (b:=c.members-1) (by omega) (by omega)
 have hp3:0≤c.members*(c.members-1):=Int.mul_nonneg (by omega) (by omega)
 by_cases hke:k=c.members-1
 ·have hon:=HO (c:=c) (s:=s) (k:=c.members-1) (by omega)
  subst hke
  conv=>whnf
  repeat' (first|(refine H4 rfl rfl (by omega) ?_;conv=>whnf)|((refine w5 rfl rfl ?_ ?_) <;> intro _ <;> first|(exfalso;omega)|(conv=>whnf))|(refine w8 rfl rfl (by omega) ?_;conv=>whnf)|fail)
  refine A0 hE (c.members-1).toNat (fun i=>[(1,.int .i64 s),(3,.ptr 0 0),(8,.int .i64 (Fo c s i)),(9,.int .i64 (i:Int))]) (fun _=>[.row 24 c.c]) (fun _=>True) trivial (Abs.tells (rs:=[0]) ⟨by decide,⟨r9,r9,r9,r9,trivial⟩,⟨⟨Ab rfl,by rw [Aa rfl];rfl⟩,trivial⟩⟩) ?_
  intro i hi _
  have hsm:=hsum i (by omega)
  conv=>whnf
  by_cases hlt:i<(c.members-1).toNat
  ·have hc1:=fun (Q:AV→St→Prop) st q=>@Zby e h173 c s i hc hM hs (by omega) st Q q
   have hoi:=HO (c:=c) (s:=s) (k:=i) (by omega)
   repeat' (first|(refine hc1 _ _ ?_;conv=>whnf)|((refine w1 rfl rfl ?_ ?_) <;> intro _ <;> first|(exfalso;omega)|(conv=>whnf))|((first|refine w7 rfl rfl (by omega) ?_|refine w8 rfl rfl (by omega) ?_|refine ⟨rfl,?_⟩);conv=>whnf)|fail)
   exact ⟨hlt,trivial,Abs.tells (rs:=[0]) ⟨by decide,⟨r9,r9,r9,r9,trivial⟩,⟨⟨Ab rfl,by rw [Aa rfl];rfl⟩,trivial⟩⟩⟩
  ·have hie:i=(c.members-1).toNat:=by omega
   rw [hie]
   rw [hie] at hsm
   repeat' (first|(refine Cl rfl rfl hp2 ?_;conv=>whnf)|(refine H4 rfl rfl (by omega) ?_;conv=>whnf)|((refine w1 rfl rfl ?_ ?_) <;> intro _ <;> first|(exfalso;omega)|(conv=>whnf))|(refine w8 rfl rfl (by omega) ?_;conv=>whnf)|fail)
   exact fin _ _ (by omega)
 ·conv=>whnf
  repeat' (first|(refine H4 rfl rfl (by omega) ?_;conv=>whnf)|(refine JG rfl rfl (by omega) ?_;conv=>whnf)|(refine Cl rfl rfl hp ?_;conv=>whnf)|((refine w5 rfl rfl ?_ ?_) <;> intro _ <;> first|(exfalso;omega)|(conv=>whnf))|((first|refine w7 rfl rfl (by omega) ?_|refine w8 rfl rfl (by omega) ?_);conv=>whnf)|fail)
  exact fin _ _ rfl
end Go.AM
