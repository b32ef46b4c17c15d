/-
 Functions of the program as the abstract machine reads them, and what is stated of them, checked by the kernel. No conditions.
-/
import Derived.Test.YtnnbibnobmegpaaGreatStA
import Derived.Test.YtnnbibnobmegpaaGreatAM5
import Derived.Test.YtnnbibnobmegpaaGreatXN
set_option linter.unusedVariables false
set_option linter.unusedSimpArgs false
set_option linter.unnecessarySimpa false
set_option maxRecDepth 100000
namespace Go.AM
attribute [local irreducible] W
open X
structure Rc where
 slot:Int
 bare:Bool
 sum:Int
def Rc.c (x:Rc):List AV:=[.int .u8 x.slot,.bool x.bare,.int .u32 x.sum]
def Rc.ok (x:Rc):Prop:=(0≤x.slot∧x.slot<256)∧AK x.sum
def Ax (L:List Rc):List AV:=L.flatMap Rc.c
theorem LX (x:Rc) (L:List Rc):Ax (x::L)=x.c++Ax L:=rfl
theorem ER:∀ (L:List Rc),(Ax L).length=L.length*3
 | []=>rfl
 | x::L=>by rw [LX,Zot,ER L,Zo9];show 3+_=_;omega
theorem NZ:∀ (L:List Rc) (i:Nat),(Ax L).drop (i*3)=Ax (L.drop i)
 | L,0=>by simp
 | [],i+1=>by simp [Ax]
 | x::L,i+1=>by
  rw [List.drop_succ_cons,← NZ L i,LX,show (i+1)*3=x.c.length+i*3 by show (i+1)*3=3+i*3;omega,List.drop_append,Zpb (by omega),List.nil_append]
  congr 1;omega
theorem QC {L:List Rc}{i:Nat}(h:i<L.length):Bf 3 ((Ax L).drop (i*3))=some L[i].c:=by
 rw [NZ,Zo2 h,LX];rfl
theorem VD:∀ {L M:List Rc},Ax L=Ax M→L=M
 | [],[],_=>rfl
 | [],y::M,h=>by cases h
 | x::L,[],h=>by cases h
 | x::L,y::M,h=>by
  obtain ⟨a,b,c⟩:=x
  obtain ⟨a',b',c'⟩:=y
  rw [LX,LX] at h
  simp [Rc.c] at h
  obtain ⟨rfl,rfl,rfl,h⟩:=h
  rw [VD h]
structure Nt where
 id:Int
 age:Int
 seq:Int
 stripe:Int
 v:AV
 recs:List Rc
def Nt.c (x:Nt):List AV:=[.int .u32 x.id,.int .u32 x.age,.int .u32 x.seq,.int .i64 x.stripe,x.v]
def Nt.a (x:Nt):AV:=.agg x.c
structure Nt.ok (x:Nt):Prop where
 id:AK x.id
 age:AK x.age
 seq:AK x.seq
 stripe:Aj x.stripe
 sl:Sl 3 x.recs.length (Ax x.recs) x.v
 rc:∀ r ∈ x.recs,r.ok
 len:x.recs.length<1000000000
theorem Nt.inj {x y:Nt}(hx:x.ok) (hy:y.ok) (h:[x.a]=[y.a]):x=y:=by
 obtain ⟨a1,a2,a3,a4,v,R⟩:=x
 obtain ⟨b1,b2,b3,b4,v',R'⟩:=y
 have h:=AV.agg.inj (Zor h).1
 simp [Nt.c] at h
 obtain ⟨rfl,rfl,rfl,rfl,rfl⟩:=h
 have:=VD (hx.sl.l_inj hy.sl)
 dsimp only at this
 rw [this]
def Li (n:Nat):Nat→Int→List Rc→Bool
 | _,_,[]=>true
 | i,la,x::l=>decide (la<x.slot∧((x.slot=255∧0<i∧i+1=n)∨x.slot≤14)) && Li n (i+1) x.slot l
def Hs (x:Nt):Bool:=decide ((1≤x.recs.length∧x.recs.length≤16)∧(1≤x.age∧x.age≤2147483648)∧(1≤x.seq∧x.seq≤2147483648)∧(0≤x.stripe∧x.stripe<64))
def Bq (x:Nt):Bool:=Hs x && Li x.recs.length 0 (-1) x.recs
def nchkF:Fam Nt:=⟨Nt.ok,fun x=>[x.a],fun x=>.int .i64 (if Bq x then 0 else 8),fun x y hx hy h=>by rw [Nt.inj hx hy h]⟩
variable {e:Env}
theorem Zcc (hE:EM P e) (id ag sq st:Int) (v:AV) (R:List Rc) (hx:Nt.ok ⟨id,ag,sq,st,v,R⟩) (hH:((1≤R.length∧R.length≤16)∧(1≤ag∧ag≤2147483648)∧(1≤sq∧sq≤2147483648)∧(0≤st∧st<64))):
 VW P e 0 (match Nd with|.mk c _=>c) (Ah [AV.agg [.int .u32 id,.int .u32 ag,.int .u32 sq,.int .i64 st,v]] 0 .lf) St0 none [] (AR [.tmp 2] (fun w s'=>Frz s' w (.int .i64 (if Bq ⟨id,ag,sq,st,v,R⟩ then 0 else 8)))):=by
 obtain ⟨h1,h2,h3,h4,hs,hr,hl⟩:=hx
 unfold AK at h1 h2 h3
 unfold Aj at h4
 dsimp only at h1 h2 h3 h4 hs hr hl
 have fin:∀ s (n:Int),n=(if Bq ⟨id,ag,sq,st,v,R⟩ then 0 else 8)→Frz s (.int .i64 n) (.int .i64 (if Bq ⟨id,ag,sq,st,v,R⟩ then 0 else 8)):=by
  rintro s n rfl;exact .plain _ rfl
 have hB:Hs ⟨id,ag,sq,st,v,R⟩=true:=by unfold Hs;exact Zok hH
 conv=>whnf
 repeat' (first|(refine Af rfl hs ?_;conv=>whnf)|((first|refine w1 rfl rfl ?_ ?_|refine w2 rfl rfl ?_ ?_|refine w4 rfl rfl ?_ ?_) <;> intro _ <;> first|(exfalso;omega)|(conv=>whnf))|fail)
 all_goals refine EX (α:=Nat×Bool×Int) (fun x=>[(1,.ptr 0 0),(2,.int .i64 0),(3,.int .i64 x.2.2),(4,.bool x.2.1),(50,v),(51,.int .i64 (R.length:Int)),(52,.int .i64 (x.1:Int))]) (fun _=>[.row 87 [.int .u32 id,.int .u32 ag,.int .u32 sq,.int .i64 st,v]]) (fun x=>R.length-x.1) (fun x=>x.1≤R.length∧(Bq ⟨id,ag,sq,st,v,R⟩=(x.2.1 && Li R.length x.1 x.2.2 (R.drop x.1)))∧(-1≤x.2.2∧x.2.2<256)) (0,true,-1) [0] ⟨Zoy _,by unfold Bq;rw [hB];rfl,by decide⟩ ⟨by decide,⟨r9,r9,r9,r9,t9 hs.hf,r9,r9,trivial⟩,⟨⟨by show (true && (true && (true && (true && (bd _ v && true)))))=true;rw [Bz _ hs.hf];rfl,by show _=some (AObj.row 87 [_,_,_,_,A2 _ v]);rw [Bv _ hs.hf];rfl⟩,trivial⟩⟩ ?_
 all_goals
  rintro ⟨i,b,la⟩ ⟨hi,hI,hla⟩
  dsimp only at hi hI hla ⊢
  refine A9 hE ?_;conv=>whnf
  refine Ag rfl rfl (fun h=>?_) (fun h=>?_) <;> conv=>whnf
  ·have hlt:i<R.length:=by omega
   refine A8 rfl hs rfl hlt ?_;conv=>whnf
   have hx3:=QC hlt
   have hxr:=hr R[i] (Zpg hlt)
   rw [Zo2 hlt] at hI
   revert hI hx3 hxr
   generalize R[i]=x
   obtain ⟨sl,ba,su⟩:=x
   rintro hI hx3 ⟨hsl,hsu⟩
   dsimp only at hsl
   refine CS (cs:=[.int .u8 sl,.bool ba,.int .u32 su]) hx3 ?_
   rw [show Li R.length i la (⟨sl,ba,su⟩::R.drop (i+1))=(decide (la<sl∧((sl=255∧0<i∧i+1=R.length)∨sl≤14)) && Li R.length (i+1) sl (R.drop (i+1))) from rfl] at hI
   have fin2:∀ (b':Bool),b'=(b && decide (la<sl∧((sl=255∧0<i∧i+1=R.length)∨sl≤14)))→∀ (t:AT) (s:St),t.get 1=some (.ptr 0 0)→t.get 2=some (.int .i64 0)→t.get 3=some (.int .i64 sl)→t.get 4=some (.bool b')→t.get 50=some v→t.get 51=some (.int .i64 (R.length:Int))→t.get 52=some (.int .i64 ((i:Int)+1))→s.get 0=some (.row 87 [.int .u32 id,.int .u32 ag,.int .u32 sq,.int .i64 st,v])→
    ([]:List Nat)=[]∧∃ x':Nat×Bool×Int,(x'.1≤R.length∧(Bq ⟨id,ag,sq,st,v,R⟩=(x'.2.1 && Li R.length x'.1 x'.2.2 (R.drop x'.1)))∧(-1≤x'.2.2∧x'.2.2<256))∧R.length-x'.1<R.length-i∧∃ rs,Abs t s [(1,.ptr 0 0),(2,.int .i64 0),(3,.int .i64 x'.2.2),(4,.bool x'.2.1),(50,v),(51,.int .i64 (R.length:Int)),(52,.int .i64 (x'.1:Int))] [.row 87 [.int .u32 id,.int .u32 ag,.int .u32 sq,.int .i64 st,v]] rs:=by
    rintro b' hb' t s h1 h2 h3 h4 h5 h6 h7 g0
    refine ⟨rfl,(i+1,b',sl),⟨hlt,by dsimp only;rw [hI,hb',Bool.and_assoc],by dsimp only;omega⟩,by dsimp only;omega,[0],⟨by decide,⟨⟨rfl,h1⟩,⟨rfl,h2⟩,⟨rfl,h3⟩,⟨rfl,h4⟩,⟨Bz _ hs.hf,by rw [Bv _ hs.hf];exact h5⟩,⟨rfl,h6⟩,⟨rfl,by rw [h7];simp;rfl⟩,trivial⟩,⟨⟨?_,?_⟩,trivial⟩⟩⟩
    ·show (true && (true && (true && (true && (bd _ v && true)))))=true;rw [Bz _ hs.hf];rfl
    ·show _=some (AObj.row 87 [_,_,_,_,A2 _ v]);rw [Bv _ hs.hf];exact g0
   cases b
   ·conv=>whnf
    repeat' (first|(refine Af rfl hs ?_;conv=>whnf)|((first|refine w3 rfl rfl ?_ ?_|refine w5 rfl rfl ?_ ?_) <;> intro _ <;> first|(exfalso;omega)|(conv=>whnf))|((first|refine w7 rfl rfl (by omega) ?_|refine w8 rfl rfl (by omega) ?_|refine w14 (q':=.i64) rfl (i64_in (by omega)) ?_|refine ⟨rfl,?_⟩);conv=>whnf)|fail)
    all_goals first
     | (refine (fin2 false (by simp) _ _ ?_ ?_ ?_ ?_ ?_ ?_ ?_ ?_).2 <;> rfl)
   ·conv=>whnf
    repeat' (first|(refine Af rfl hs ?_;conv=>whnf)|((first|refine w2 rfl rfl ?_ ?_|refine w3 rfl rfl ?_ ?_|refine w5 rfl rfl ?_ ?_) <;> intro _ <;> first|(exfalso;omega)|(conv=>whnf))|((first|refine w7 rfl rfl (by omega) ?_|refine w8 rfl rfl (by omega) ?_|refine w14 (q':=.i64) rfl (i64_in (by omega)) ?_|refine ⟨rfl,?_⟩);conv=>whnf)|fail)
    all_goals by_cases hq:(la<sl∧((sl=255∧0<i∧i+1=R.length)∨sl≤14))
    all_goals first
     | (exfalso;omega)
     | (refine (fin2 true (by rw [Zok hq];rfl) _ _ ?_ ?_ ?_ ?_ ?_ ?_ ?_ ?_).2 <;> rfl)
     | (refine (fin2 false (by rw [Zow hq];rfl) _ _ ?_ ?_ ?_ ?_ ?_ ?_ ?_ ?_).2 <;> rfl)
  ·have hd:R.drop i=[]:=Zpb (by omega)
   rw [hd] at hI
   have hI:Bq ⟨id,ag,sq,st,v,R⟩=(b && true):=hI
   rw [Bool.and_true] at hI
   cases b
   ·conv=>whnf
    repeat' (first|(refine w13 rfl ?_;conv=>whnf)|fail)
    exact fin _ 8 (by rw [hI];rfl)
   ·conv=>whnf
    repeat' (first|(refine w12 rfl ?_;conv=>whnf)|fail)
    exact fin _ 0 (by rw [hI];rfl)
theorem ZX (hE:EM P e) (id ag sq st:Int) (v:AV) (R:List Rc) (hx:Nt.ok ⟨id,ag,sq,st,v,R⟩) (hH:¬ ((1≤R.length∧R.length≤16)∧(1≤ag∧ag≤2147483648)∧(1≤sq∧sq≤2147483648)∧(0≤st∧st<64))):
 VW P e 0 (match Nd with|.mk c _=>c) (Ah [AV.agg [.int .u32 id,.int .u32 ag,.int .u32 sq,.int .i64 st,v]] 0 .lf) St0 none [] (AR [.tmp 2] (fun w s'=>Frz s' w (.int .i64 (if Bq ⟨id,ag,sq,st,v,R⟩ then 0 else 8)))):=by
 obtain ⟨h1,h2,h3,h4,hs,hr,hl⟩:=hx
 unfold AK at h1 h2 h3
 unfold Aj at h4
 dsimp only at h1 h2 h3 h4 hs hr hl
 have fin:∀ s (n:Int),n=(if Bq ⟨id,ag,sq,st,v,R⟩ then 0 else 8)→Frz s (.int .i64 n) (.int .i64 (if Bq ⟨id,ag,sq,st,v,R⟩ then 0 else 8)):=by
  rintro s n rfl;exact .plain _ rfl
 have hB:Hs ⟨id,ag,sq,st,v,R⟩=false:=by unfold Hs;exact Zow hH
 have hN:Bq ⟨id,ag,sq,st,v,R⟩=false:=by unfold Bq;rw [hB];rfl
 conv=>whnf
 repeat' (first|(refine Af rfl hs ?_;conv=>whnf)|((first|refine w1 rfl rfl ?_ ?_|refine w2 rfl rfl ?_ ?_|refine w4 rfl rfl ?_ ?_) <;> intro _ <;> first|(exfalso;omega)|(conv=>whnf))|fail)
 all_goals refine EX (α:=Nat×Int) (fun x=>[(1,.ptr 0 0),(2,.int .i64 0),(3,.int .i64 x.2),(4,.bool false),(50,v),(51,.int .i64 (R.length:Int)),(52,.int .i64 (x.1:Int))]) (fun _=>[.row 87 [.int .u32 id,.int .u32 ag,.int .u32 sq,.int .i64 st,v]]) (fun x=>R.length-x.1) (fun x=>x.1≤R.length) (0,-1) [0] (Zoy _) ⟨by decide,⟨r9,r9,r9,r9,t9 hs.hf,r9,r9,trivial⟩,⟨⟨by show (true && (true && (true && (true && (bd _ v && true)))))=true;rw [Bz _ hs.hf];rfl,by show _=some (AObj.row 87 [_,_,_,_,A2 _ v]);rw [Bv _ hs.hf];rfl⟩,trivial⟩⟩ ?_
 all_goals
  rintro ⟨i,la⟩ hi
  dsimp only at hi ⊢
  refine A9 hE ?_;conv=>whnf
  refine Ag rfl rfl (fun h=>?_) (fun h=>?_) <;> conv=>whnf
  ·have hlt:i<R.length:=by omega
   refine A8 rfl hs rfl hlt ?_;conv=>whnf
   have hx3:=QC hlt
   have hxr:=hr R[i] (Zpg hlt)
   revert hx3 hxr
   generalize R[i]=x
   obtain ⟨sl,ba,su⟩:=x
   rintro hx3 ⟨hsl,hsu⟩
   dsimp only at hsl
   refine CS (cs:=[.int .u8 sl,.bool ba,.int .u32 su]) hx3 ?_
   have fin2:∀ (t:AT) (s:St),t.get 1=some (.ptr 0 0)→t.get 2=some (.int .i64 0)→t.get 3=some (.int .i64 sl)→t.get 4=some (.bool false)→t.get 50=some v→t.get 51=some (.int .i64 (R.length:Int))→t.get 52=some (.int .i64 ((i:Int)+1))→s.get 0=some (.row 87 [.int .u32 id,.int .u32 ag,.int .u32 sq,.int .i64 st,v])→
    ([]:List Nat)=[]∧∃ x':Nat×Int,x'.1≤R.length∧R.length-x'.1<R.length-i∧∃ rs,Abs t s [(1,.ptr 0 0),(2,.int .i64 0),(3,.int .i64 x'.2),(4,.bool false),(50,v),(51,.int .i64 (R.length:Int)),(52,.int .i64 (x'.1:Int))] [.row 87 [.int .u32 id,.int .u32 ag,.int .u32 sq,.int .i64 st,v]] rs:=by
    rintro t s h1 h2 h3 h4 h5 h6 h7 g0
    refine ⟨rfl,(i+1,sl),hlt,by dsimp only;omega,[0],⟨by decide,⟨⟨rfl,h1⟩,⟨rfl,h2⟩,⟨rfl,h3⟩,⟨rfl,h4⟩,⟨Bz _ hs.hf,by rw [Bv _ hs.hf];exact h5⟩,⟨rfl,h6⟩,⟨rfl,by rw [h7];simp;rfl⟩,trivial⟩,⟨⟨?_,?_⟩,trivial⟩⟩⟩
    ·show (true && (true && (true && (true && (bd _ v && true)))))=true;rw [Bz _ hs.hf];rfl
    ·show _=some (AObj.row 87 [_,_,_,_,A2 _ v]);rw [Bv _ hs.hf];exact g0
   conv=>whnf
   repeat' (first|(refine Af rfl hs ?_;conv=>whnf)|((first|refine w3 rfl rfl ?_ ?_|refine w5 rfl rfl ?_ ?_) <;> intro _ <;> first|(exfalso;omega)|(conv=>whnf))|((first|refine w7 rfl rfl (by omega) ?_|refine w8 rfl rfl (by omega) ?_|refine w14 (q':=.i64) rfl (i64_in (by omega)) ?_|refine ⟨rfl,?_⟩);conv=>whnf)|fail)
   all_goals (refine (fin2 _ _ ?_ ?_ ?_ ?_ ?_ ?_ ?_ ?_).2 <;> rfl)
  ·repeat' (first|(refine w13 rfl ?_;conv=>whnf)|fail)
   exact fin _ 8 (by rw [hN];rfl)
theorem Ze8 (hE:EM P e):OvOk P 93 nchkF.O:=by
 refine Bk g93.b fun x hx=>?_
 obtain ⟨id,ag,sq,st,v,R⟩:=x
 have hs:=hx.sl
 dsimp only at hs
 refine ⟨by show ((true && (true && (true && (true && (AM.hf v && true))))) && true)=true;rw [hs.hf];rfl,rfl,C.of_G hE g93 ?_⟩
 by_cases hH:((1≤R.length∧R.length≤16)∧(1≤ag∧ag≤2147483648)∧(1≤sq∧sq≤2147483648)∧(0≤st∧st<64))
 ·exact Zcc hE id ag sq st v R hx hH
 ·exact ZX hE id ag sq st v R hx hH
end Go.AM
namespace Go.AM
attribute [local irreducible] W
open X
variable {bs:List Nat}
theorem QU (hb:∀ b ∈ bs,b<256):∀ b ∈ Aa bs,b<256:=by
 unfold Aa
 split
 ·intro b hb';rw [Zqe hb'];decide
 ·exact hb
def OB:AC:=match a94 with|.mk c _=>c
variable {a z n:Int}
theorem Kr {v:AV}{s:St}(hv:BQ St0 v=some bs) (hl:bs.length=0∨bs.length=128) (h:DA a z n=true):
 EH [v,.int .i64 a,.int .i64 z,.int .i64 n] s=.ok (.tup [.fz 128 (some 128) (Ab (Aq (Aa bs) a.toNat n.toNat z.toNat)),.int .i64 0]) s:=by
 show (Option.rec .fail (fun bs=>.ok (E4 bs a z n) s) (BQ St0 v):RV)=_
 rw [hv]
 show RV.ok (E4 bs a z n) s=_
 unfold E4
 rw [Zon (by omega),Zoj h]
theorem H9 (hl:bs.length=0∨bs.length=128):(Aa bs).length=128:=by
 unfold Aa
 split
 ·simp
 ·rename_i h
  rcases hl with e|e
  ·exact absurd (Zpd.1 e) h
  ·exact e
def C5 (bs:List Nat):AV:=.fz 128 (some 128) (Ab bs)
theorem Hf (hl:bs.length=128) (hb:∀ b ∈ bs,b<256):BQ St0 (C5 bs)=some bs:=HA hl hb
theorem Kq (hz:1≤z∧z≤4) (ha:0≤a∧a+z≤128) (hn:0≤n) (hb:n.toNat<2^(8*z.toNat)):DA a z n=true:=by
 unfold DA Df
 rw [Zok (by omega),Zok ⟨hn,Nat.div_eq_of_lt hb⟩];rfl
theorem Pp (e:Env) (h161:Con e 67 EH) (s:St) (r:Nat) (v:AV) (bs:List Nat) (hv:BQ St0 v=some bs) (hl:bs.length=0∨bs.length=128) (hb:∀ b ∈ bs,b<256) (a z n0:Int) (hz:1≤z∧z≤4) (ha:0≤a∧a+1*z≤128) (h0:0≤n0∧n0.toNat<2^(8*z.toNat))
 (hr:s.get r=some (.row 3 [.int .i64 n0])) (K:AV→St→Prop) (res:List Nat) (hres:res=(Aq (Aa bs) (a+(0:Int)*z).toNat n0.toNat z.toNat)) (hk:K (C5 res) s):
 VE e OB (Ah [v,.int .i64 a,.int .i64 z,.sl r 0 1 (some 1)] 0 .lf) s none [] (AR [.tmp 8] K):=by
 have hp:=H9 hl
 have hpb:=QU hb
 have l0:load1 r (0+(0:Int).toNat*1) s=some (.int .i64 n0):=by unfold load1;rw [Fm hr];rfl
 conv=>whnf
 refine DL rfl ?_;conv=>whnf
 refine EExec.loop ?_;conv=>whnf
 refine Ag rfl rfl (fun h=>?_) (fun h=>by omega);conv=>whnf
 refine Cy rfl rfl (by omega) (by omega) ?_;conv=>whnf
 refine AP _ l0 ?_;conv=>whnf
 refine EA rfl rfl (by omega) ?_;conv=>whnf
 refine Bu rfl rfl (by omega) ?_;conv=>whnf
 refine ESc.ov h161 (Kr hv hl (Kq hz (by omega) h0.1 h0.2)) ?_;conv=>whnf
 refine Bu rfl rfl (by omega) ?_;conv=>whnf
 refine EExec.loop ?_;conv=>whnf
 refine Ag rfl rfl (fun h=>by omega) (fun h=>?_);conv=>whnf
 rw [hres] at hk;exact hk
theorem Se (e:Env) (h161:Con e 67 EH) (s:St) (r:Nat) (v:AV) (bs:List Nat) (hv:BQ St0 v=some bs) (hl:bs.length=0∨bs.length=128) (hb:∀ b ∈ bs,b<256) (a z n0 n1:Int) (hz:1≤z∧z≤4) (ha:0≤a∧a+2*z≤128) (h0:0≤n0∧n0.toNat<2^(8*z.toNat)) (h1:0≤n1∧n1.toNat<2^(8*z.toNat))
 (hr:s.get r=some (.row 3 [.int .i64 n0,.int .i64 n1])) (K:AV→St→Prop) (res:List Nat) (hres:res=(Aq (Aq (Aa bs) (a+(0:Int)*z).toNat n0.toNat z.toNat) (a+(0+1:Int)*z).toNat n1.toNat z.toNat)) (hk:K (C5 res) s):
 VE e OB (Ah [v,.int .i64 a,.int .i64 z,.sl r 0 2 (some 2)] 0 .lf) s none [] (AR [.tmp 8] K):=by
 have hp:=H9 hl
 have hpb:=QU hb
 have l0:load1 r (0+(0:Int).toNat*1) s=some (.int .i64 n0):=by unfold load1;rw [Fm hr];rfl
 have l1:load1 r (0+(0+1 :Int).toNat*1) s=some (.int .i64 n1):=by unfold load1;rw [Fm hr];rfl
 conv=>whnf
 refine DL rfl ?_;conv=>whnf
 refine EExec.loop ?_;conv=>whnf
 refine Ag rfl rfl (fun h=>?_) (fun h=>by omega);conv=>whnf
 refine Cy rfl rfl (by omega) (by omega) ?_;conv=>whnf
 refine AP _ l0 ?_;conv=>whnf
 refine EA rfl rfl (by omega) ?_;conv=>whnf
 refine Bu rfl rfl (by omega) ?_;conv=>whnf
 refine ESc.ov h161 (Kr hv hl (Kq hz (by omega) h0.1 h0.2)) ?_;conv=>whnf
 refine Bu rfl rfl (by omega) ?_;conv=>whnf
 refine EExec.loop ?_;conv=>whnf
 refine Ag rfl rfl (fun h=>?_) (fun h=>by omega);conv=>whnf
 refine Cy rfl rfl (by omega) (by omega) ?_;conv=>whnf
 refine AP _ l1 ?_;conv=>whnf
 refine EA rfl rfl (by omega) ?_;conv=>whnf
 refine Bu rfl rfl (by omega) ?_;conv=>whnf
 refine ESc.ov h161 (Kr (bs:=(Aq (Aa bs) (a+(0:Int)*z).toNat n0.toNat z.toNat)) (Hf (by simp only [Bt];exact hp) (Bb hpb _)) (.inr (by simp only [Bt];exact hp)) (Kq hz (by omega) h1.1 h1.2)) ?_
 rw [CH (by simp only [Bt];exact hp)]
 conv=>whnf
 refine Bu rfl rfl (by omega) ?_;conv=>whnf
 refine EExec.loop ?_;conv=>whnf
 refine Ag rfl rfl (fun h=>by omega) (fun h=>?_);conv=>whnf
 rw [hres] at hk;exact hk
theorem Znt (e:Env) (h161:Con e 67 EH) (s:St) (r:Nat) (v:AV) (bs:List Nat) (hv:BQ St0 v=some bs) (hl:bs.length=0∨bs.length=128) (hb:∀ b ∈ bs,b<256) (a z n0 n1 n2:Int) (hz:1≤z∧z≤4) (ha:0≤a∧a+3*z≤128) (h0:0≤n0∧n0.toNat<2^(8*z.toNat)) (h1:0≤n1∧n1.toNat<2^(8*z.toNat)) (h2:0≤n2∧n2.toNat<2^(8*z.toNat))
 (hr:s.get r=some (.row 3 [.int .i64 n0,.int .i64 n1,.int .i64 n2])) (K:AV→St→Prop) (res:List Nat) (hres:res=(Aq (Aq (Aq (Aa bs) (a+(0:Int)*z).toNat n0.toNat z.toNat) (a+(0+1:Int)*z).toNat n1.toNat z.toNat) (a+(0+1+1:Int)*z).toNat n2.toNat z.toNat)) (hk:K (C5 res) s):
 VE e OB (Ah [v,.int .i64 a,.int .i64 z,.sl r 0 3 (some 3)] 0 .lf) s none [] (AR [.tmp 8] K):=by
 have hp:=H9 hl
 have hpb:=QU hb
 have l0:load1 r (0+(0:Int).toNat*1) s=some (.int .i64 n0):=by unfold load1;rw [Fm hr];rfl
 have l1:load1 r (0+(0+1 :Int).toNat*1) s=some (.int .i64 n1):=by unfold load1;rw [Fm hr];rfl
 have l2:load1 r (0+(0+1+1 :Int).toNat*1) s=some (.int .i64 n2):=by unfold load1;rw [Fm hr];rfl
 conv=>whnf
 refine DL rfl ?_;conv=>whnf
 refine EExec.loop ?_;conv=>whnf
 refine Ag rfl rfl (fun h=>?_) (fun h=>by omega);conv=>whnf
 refine Cy rfl rfl (by omega) (by omega) ?_;conv=>whnf
 refine AP _ l0 ?_;conv=>whnf
 refine EA rfl rfl (by omega) ?_;conv=>whnf
 refine Bu rfl rfl (by omega) ?_;conv=>whnf
 refine ESc.ov h161 (Kr hv hl (Kq hz (by omega) h0.1 h0.2)) ?_;conv=>whnf
 refine Bu rfl rfl (by omega) ?_;conv=>whnf
 refine EExec.loop ?_;conv=>whnf
 refine Ag rfl rfl (fun h=>?_) (fun h=>by omega);conv=>whnf
 refine Cy rfl rfl (by omega) (by omega) ?_;conv=>whnf
 refine AP _ l1 ?_;conv=>whnf
 refine EA rfl rfl (by omega) ?_;conv=>whnf
 refine Bu rfl rfl (by omega) ?_;conv=>whnf
 refine ESc.ov h161 (Kr (bs:=(Aq (Aa bs) (a+(0:Int)*z).toNat n0.toNat z.toNat)) (Hf (by simp only [Bt];exact hp) (Bb hpb _)) (.inr (by simp only [Bt];exact hp)) (Kq hz (by omega) h1.1 h1.2)) ?_
 rw [CH (by simp only [Bt];exact hp)]
 conv=>whnf
 refine Bu rfl rfl (by omega) ?_;conv=>whnf
 refine EExec.loop ?_;conv=>whnf
 refine Ag rfl rfl (fun h=>?_) (fun h=>by omega);conv=>whnf
 refine Cy rfl rfl (by omega) (by omega) ?_;conv=>whnf
 refine AP _ l2 ?_;conv=>whnf
 refine EA rfl rfl (by omega) ?_;conv=>whnf
 refine Bu rfl rfl (by omega) ?_;conv=>whnf
 refine ESc.ov h161 (Kr (bs:=(Aq (Aq (Aa bs) (a+(0:Int)*z).toNat n0.toNat z.toNat) (a+(0+1:Int)*z).toNat n1.toNat z.toNat)) (Hf (by simp only [Bt];exact hp) (Bb (Bb hpb _) _)) (.inr (by simp only [Bt];exact hp)) (Kq hz (by omega) h2.1 h2.2)) ?_
 rw [CH (by simp only [Bt];exact hp)]
 conv=>whnf
 refine Bu rfl rfl (by omega) ?_;conv=>whnf
 refine EExec.loop ?_;conv=>whnf
 refine Ag rfl rfl (fun h=>by omega) (fun h=>?_);conv=>whnf
 rw [hres] at hk;exact hk
end Go.AM
namespace Go.AM
attribute [local irreducible] W
open X
def E3 (x:Nt):List Nat:=Aq (Aq (Aq (Aq (Aq (Aq (List.replicate 128 0) 0 78 1) 1 x.id.toNat 4) 5 x.age.toNat 4) 9 x.seq.toNat 4) 13 x.stripe.toNat 1) 14 x.recs.length 1
def HW (b:Bool):Nat:=if b then 1 else 0
def Dp (b:List Nat) (i:Nat) (r:Rc):List Nat:=Aq (Aq (Aq b (15+6*i) r.slot.toNat 1) (16+6*i) (HW r.bare) 1) (17+6*i) r.sum.toNat 4
theorem YZ (x:Nt):(E3 x).length=128:=by unfold E3;simp only [Bt];simp
theorem Ze6 (x:Nt):∀ b ∈ E3 x,b<256:=by
 unfold E3
 refine Bb (Bb (Bb (Bb (Bb (Bb ?_ _) _) _) _) _) _
 intro b h;rw [Zqe h];decide
theorem YY (b:List Nat) (i:Nat) (r:Rc):(Dp b i r).length=b.length:=by unfold Dp;simp only [Bt]
theorem Ze5 {b:List Nat}{i:Nat}{r:Rc}(hb:∀ x ∈ b,x<256):∀ x ∈ Dp b i r,x<256:=by
 unfold Dp;exact Bb (Bb (Bb hb _) _) _
def AG (x:Nt):Nat→List Nat
 | 0=>E3 x
 | i+1=>match x.recs[i]? with
  | some r=>Dp (AG x i) i r
  | none=>AG x i
theorem Jh (x:Nt):∀ i,(AG x i).length=128
 | 0=>YZ x
 | i+1=>by
  unfold AG
  split
  ·rw [YY];exact Jh x i
  ·exact Jh x i
theorem Kt (x:Nt):∀ i,∀ b ∈ AG x i,b<256
 | 0=>Ze6 x
 | i+1=>by
  unfold AG
  split
  ·exact Ze5 (Kt x i)
  ·exact Kt x i
def RM:AC:=match a65 with|.mk c _=>c
def Wz:AC:=match a64 with|.mk c _=>c
def Y8:AC:=match E2 RM with|some (a,_)=>a|none=>.skip
def XQ:AC:=match E2 RM with|some (_,b)=>b|none=>.skip
noncomputable def tmW:AT:=Am [(1,.ptr 0 0),(5,.ptr 1 0),(40,.fn 92 [] [.ptr 2 0])]
def Sb (id ag sq st:Int) (v:AV) (n:Nat) (B:List Nat):List AObj:=[.row 87 [.int .u32 id,.int .u32 ag,.int .u32 sq,.int .i64 st,v],.row 41 [C5 B],.row 3 [.int .i64 (n:Int)]]
def nwF:Fam Nt:=⟨Nt.ok,fun x=>[x.a],fun x=>if Bq x then .tup [C5 (Aq (AG x x.recs.length) 124 (Au ((AG x x.recs.length).take 124)) 4),.int .i64 0] else .tup [.nils,.int .i64 8],fun x y hx hy h=>by rw [Nt.inj hx hy h]⟩
theorem Zl4 {e:Env}(hE:EM P e) (h132:Con e 93 nchkF.O) (h133:Inl e 94 OB [.tmp 8]) (h161:Con e 67 EH) (h100:Inl e 64 Wz [.tmp 2]) (h67:Inl e 68 KQ [.tmp 2]) (h107:Con e 95 DO)
 : OvOk P 65 nwF.O:=by
 refine Bk g65.b fun x hx=>?_
 have hxx:=hx
 obtain ⟨id,ag,sq,st,v,R⟩:=x
 obtain ⟨h1,h2,h3,h4,hs,hr,hl⟩:=hx
 unfold AK at h1 h2 h3
 dsimp only at h1 h2 h3 h4 hs hr hl
 refine ⟨by show ((true && (true && (true && (true && (AM.hf v && true))))) && true)=true;rw [hs.hf];rfl,by unfold nwF;dsimp only;split <;> rfl,C.of_G hE g65 ?_⟩
 obtain ⟨X,hX⟩:∃ X:Nt,X=⟨id,ag,sq,st,v,R⟩:=⟨_,rfl⟩
 show VW P e 0 RM (Ah [AV.agg [.int .u32 id,.int .u32 ag,.int .u32 sq,.int .i64 st,v]] 0 .lf) St0 none [] (AR [.tmp 2,.tmp 3] (fun w s'=>Frz s' w (nwF.out ⟨id,ag,sq,st,v,R⟩)))
 rw [← hX] at hxx ⊢
 have hchk:∀ (K:AV→St→Prop) (s:St) (u:AV),nchkF.out X=u→K u s→ESc e 93 [AV.agg [.int .u32 id,.int .u32 ag,.int .u32 sq,.int .i64 st,v]] s K:=fun K s u hu hk=>by
  have:=ESc.fam nchkF h132 X hxx hu hk
  rw [show nchkF.enc X=[AV.agg [.int .u32 id,.int .u32 ag,.int .u32 sq,.int .i64 st,v]] by rw [hX];rfl] at this
  exact this
 by_cases hN:Bq X=true
 ·rw [show nwF.out X=.tup [C5 (Aq (AG X X.recs.length) 124 (Au ((AG X X.recs.length).take 124)) 4),.int .i64 0] by simp [nwF,hN]]
  have hH:Hs X=true:=by unfold Bq at hN;rw [Zoh] at hN;exact hN.1
  unfold Hs at hH
  have hH:=Zpw hH
  rw [hX] at hH
  dsimp only at hH
  conv=>whnf
  refine hchk _ _ (.int .i64 0) (by simp [nchkF,hN]) ?_;conv=>whnf
  repeat' (first|((refine w6 rfl rfl ?_ ?_) <;> intro _ <;> first|(exfalso;omega)|(conv=>whnf))|fail)
  refine ESc.inl h133 (Pp e h161 _ _ .nils [] rfl (.inl rfl) (by simp) 0 1 78 (by omega) (by omega) ⟨by decide,by decide⟩ rfl _ (Aq (List.replicate 128 0) 0 78 1) rfl ?_);conv=>whnf
  have p4:(2:Nat)^(8*(4:Int).toNat)=4294967296:=rfl
  have p1:(2:Nat)^(8*(1:Int).toNat)=256:=rfl
  have q0:(Aq (List.replicate 128 0) 0 78 1).length=128:=by simp only [Bt];simp
  have q1:∀ b ∈ Aq (List.replicate 128 0) 0 78 1,b<256:=Bb (by intro b h;rw [Zqe h];decide) _
  repeat' (first|(refine w14 (q':=.i64) rfl (i64_in (by omega)) ?_;conv=>whnf)|fail)
  refine ESc.inl h133 (Znt e h161 _ _ (C5 (Aq (List.replicate 128 0) 0 78 1)) (Aq (List.replicate 128 0) 0 78 1) (Hf q0 q1) (.inr q0) q1 1 4 id ag sq (by omega) (by omega) ⟨by omega,by omega⟩ ⟨by omega,by omega⟩ ⟨by omega,by omega⟩ rfl _ (Aq (Aq (Aq (Aq (List.replicate 128 0) 0 78 1) 1 id.toNat 4) 5 ag.toNat 4) 9 sq.toNat 4) (by rw [CH q0];rfl) ?_)
  obtain ⟨B1,hB1⟩:∃ B,B=Aq (Aq (Aq (Aq (List.replicate 128 0) 0 78 1) 1 id.toNat 4) 5 ag.toNat 4) 9 sq.toNat 4:=⟨_,rfl⟩
  have r0:B1.length=128:=by rw [hB1];simp only [Bt];simp
  have r1:∀ b ∈ B1,b<256:=by rw [hB1];exact Bb (Bb (Bb q1 _) _) _
  rw [← hB1]
  conv=>whnf
  repeat' (first|(refine Af rfl hs ?_;conv=>whnf)|fail)
  refine ESc.inl h133 (Se e h161 _ _ (C5 B1) B1 (Hf r0 r1) (.inr r0) r1 13 1 st (R.length:Int) (by omega) (by omega) ⟨by omega,by omega⟩ ⟨by omega,by omega⟩ rfl _ (E3 X) (by rw [CH r0,hX,hB1];rfl) ?_);conv=>whnf
  repeat' (first|(refine Af rfl hs ?_;conv=>whnf)|fail)
  refine ESc.inl h100 ?_;conv=>whnf
  refine W.abs [(1,.ptr 0 0),(5,.ptr 1 0),(40,.fn 92 [] [.ptr 2 0])] (Sb id ag sq st v R.length (E3 X)) [0,2,5] ⟨by decide,⟨r9,r9,r9,trivial⟩,⟨⟨?_,?_⟩,⟨Dd _ rfl,rfl⟩,r9,trivial⟩⟩ ?_
  ·show (true && (true && (true && (true && (bd _ v && true)))))=true;rw [Bz _ hs.hf];rfl
  ·show _=some (AObj.row 87 [_,_,_,_,A2 _ v]);rw [Bv _ hs.hf];rfl
  refine KU (f:=92) (first:=[]) (cap:=[.ptr 2 0]) g92.b rfl ?_ ?_
  ·intro q hq
   have hq:q<3:=hq
   rcases q with _|_|_|q
   ·exact .tmp 1 (.ptr 0 0) rfl rfl
   ·exact .tmp 5 (.ptr 1 0) rfl rfl
   ·exact .tmp 40 (.fn 92 [] [.ptr 2 0]) rfl rfl
   ·omega
  show C1 P 92 [.yld 4,.ptr 2 0] (Ac St0 (Sb id ag sq st v R.length (E3 X)++[.defd,.loop .ready none 0 tmW [41,42] Y8 XQ 3])) (fun _ s'=>II 4 [3] tmW s' _)
  refine C1.of_G hE g92 ?_;conv=>whnf
  have hXR:X.recs=R:=by rw [hX]
  have hv1:(true && (true && (true && (true && (bd 5 v && true)))))=true:=by rw [Bz _ hs.hf];rfl
  have hv2:∀ ρ,B5 ρ (.row 87 [.int .u32 id,.int .u32 ag,.int .u32 sq,.int .i64 st,v])=.row 87 [.int .u32 id,.int .u32 ag,.int .u32 sq,.int .i64 st,v]:=fun ρ=>by show AObj.row 87 [_,_,_,_,A2 _ v]=_;rw [Bv _ hs.hf];rfl
  have hB1:∀ (ρ:Nat→Nat) (B:List Nat),B5 ρ (.row 41 [C5 B])=.row 41 [C5 B]:=fun _ _=>rfl
  refine WE (α:=Nat) (fun i=>[(0,.yld 4),(1,.ptr 2 0),(3,.int .i64 (i:Int))]) (fun i=>Sb id ag sq st v R.length (AG X i)++[.defd,.loop .ready none 0 tmW [41,42] Y8 XQ 3]) (fun i=>R.length-i)
   (fun i=>i≤R.length) 0 [0,1,2,3,4] (Zoy _) ?_ ?_
  ·exact ⟨rfl,by decide,⟨r9,r9,r9,trivial⟩,⟨⟨hv1,by rw [hv2];rfl⟩,r9,r9,r9,r9,trivial⟩⟩
  intro i hi
  refine A9 hE ?_;conv=>whnf
  refine Ag rfl rfl (fun h=>?_) (fun h=>?_) <;> conv=>whnf
  ·have hlt:i<R.length:=by omega
   refine EA rfl rfl (by omega) ?_;conv=>whnf
   refine Bu rfl rfl (by omega) ?_;conv=>whnf
   refine ERound.mk ?_;conv=>whnf
   refine A8 rfl hs rfl hlt ?_;conv=>whnf
   have hst:AG X (i+1)=Dp (AG X i) i R[i]:=by
    show (match X.recs[i]? with|some r=>Dp (AG X i) i r|none=>AG X i)=_
    rw [hXR,Zof hlt]
   have hx3:=QC hlt
   have hxr:=hr R[i] (Zpg hlt)
   have hI0:=Jh X i
   have hI1:=Kt X i
   revert hst hx3 hxr
   generalize R[i]=x
   obtain ⟨sl,ba,su⟩:=x
   rintro hst hx3 ⟨hsl,hsu⟩
   unfold AK at hsu
   dsimp only at hsl hsu
   refine CS (cs:=[.int .u8 sl,.bool ba,.int .u32 su]) hx3 ?_
   cases ba
   ·conv=>whnf
    repeat' (first|((first|refine w7 rfl rfl (by omega) ?_|refine w14 (q':=.i64) rfl (i64_in (by omega)) ?_);conv=>whnf)|fail)
    refine ESc.inl h133 (Se e h161 _ _ (C5 (AG X i)) (AG X i) (Hf hI0 hI1) (.inr hI0) hI1 (15+6*(i:Int)) 1 sl 0 (by omega) (by omega) ⟨by omega,by omega⟩ ⟨by omega,by omega⟩ rfl _ (Aq (Aq (AG X i) (15+6*i) sl.toNat 1) (16+6*i) (HW false) 1) (by rw [CH hI0,show (15+6*(i:Int)+0*1).toNat=15+6*i by omega,show (15+6*(i:Int)+(0+1)*1).toNat=16+6*i by omega];rfl) ?_);conv=>whnf
    refine ⟨rfl,?_⟩;conv=>whnf
    have hJ0:(Aq (Aq (AG X i) (15+6*i) sl.toNat 1) (16+6*i) (HW false) 1).length=128:=by simp only [Bt];exact hI0
    refine ESc.inl h133 (Pp e h161 _ _ (C5 (Aq (Aq (AG X i) (15+6*i) sl.toNat 1) (16+6*i) (HW false) 1)) _ (Hf hJ0 (Bb (Bb hI1 _) _)) (.inr hJ0) (Bb (Bb hI1 _) _) (15+6*(i:Int)+2) 4 su (by omega) (by omega) ⟨by omega,by omega⟩ rfl _ (Dp (AG X i) i ⟨sl,false,su⟩) (by rw [CH hJ0,show (15+6*(i:Int)+2+0*4).toNat=17+6*i by omega];rfl) ?_)
    rw [← hst]
    conv=>whnf
    refine Bu rfl rfl (by omega) ?_;conv=>whnf
    refine ⟨rfl,i+1,hlt,by omega,[0,1,2,3,4],⟨rfl,by decide,⟨r9,r9,r9,trivial⟩,⟨⟨hv1,by rw [hv2];rfl⟩,r9,r9,r9,r9,trivial⟩⟩⟩
   ·conv=>whnf
    repeat' (first|((first|refine w7 rfl rfl (by omega) ?_|refine w14 (q':=.i64) rfl (i64_in (by omega)) ?_);conv=>whnf)|fail)
    refine ESc.inl h133 (Se e h161 _ _ (C5 (AG X i)) (AG X i) (Hf hI0 hI1) (.inr hI0) hI1 (15+6*(i:Int)) 1 sl 1 (by omega) (by omega) ⟨by omega,by omega⟩ ⟨by omega,by omega⟩ rfl _ (Aq (Aq (AG X i) (15+6*i) sl.toNat 1) (16+6*i) (HW true) 1) (by rw [CH hI0,show (15+6*(i:Int)+0*1).toNat=15+6*i by omega,show (15+6*(i:Int)+(0+1)*1).toNat=16+6*i by omega];rfl) ?_);conv=>whnf
    refine ⟨rfl,?_⟩;conv=>whnf
    have hJ0:(Aq (Aq (AG X i) (15+6*i) sl.toNat 1) (16+6*i) (HW true) 1).length=128:=by simp only [Bt];exact hI0
    refine ESc.inl h133 (Pp e h161 _ _ (C5 (Aq (Aq (AG X i) (15+6*i) sl.toNat 1) (16+6*i) (HW true) 1)) _ (Hf hJ0 (Bb (Bb hI1 _) _)) (.inr hJ0) (Bb (Bb hI1 _) _) (15+6*(i:Int)+2) 4 su (by omega) (by omega) ⟨by omega,by omega⟩ rfl _ (Dp (AG X i) i ⟨sl,true,su⟩) (by rw [CH hJ0,show (15+6*(i:Int)+2+0*4).toNat=17+6*i by omega];rfl) ?_)
    rw [← hst]
    conv=>whnf
    refine Bu rfl rfl (by omega) ?_;conv=>whnf
    refine ⟨rfl,i+1,hlt,by omega,[0,1,2,3,4],⟨rfl,by decide,⟨r9,r9,r9,trivial⟩,⟨⟨hv1,by rw [hv2];rfl⟩,r9,r9,r9,r9,trivial⟩⟩⟩
  ·have hiR:i=X.recs.length:=by rw [hXR];omega
   have hI0:=Jh X i
   have hI1:=Kt X i
   rw [← hiR]
   generalize AG X i=B at hI0 hI1
   refine Ti (l:=0) (h:=124) rfl rfl rfl (by omega) (by omega) (by omega) (by rw [Ba];omega) ?_;conv=>whnf
   refine ESc.inl h67 ?_;conv=>whnf
   have htk:∀ b ∈ B.take 124,b<256:=fun b hb'=>hI1 b (Zpm hb')
   have htl:(B.take 124).length=124:=by rw [Zo5];omega
   have hsum:Au (B.take 124)<4294967296:=Zp6 (n:=32) (K0 htk (by decide)) (by decide)
   refine ESc.ov h107 (v:=.int .u32 (Int.ofNat (Au (B.take 124)))) (s':=_) (by
    show (Option.rec .fail (fun bs=>gd (Nat.blt (A3 bs) 1000000) (.ok (.int .u32 (.ofNat (Nat.xor (Dg bs (Nat.xor 0 4294967295)) 4294967295))) _)) (BQ _ (.fz 124 _ ((Ab B).take 124))):RV)=_
    rw [Vn,HA htl htk]
    show gd (Nat.blt (A3 (B.take 124)) 1000000) _=_
    rw [CA,htl];rfl) ?_
   conv=>whnf
   refine ⟨rfl,?_⟩;conv=>whnf
   refine PO rfl (by omega) ?_;conv=>whnf
   refine ESc.inl h133 (Pp e h161 _ _ (C5 B) B (Hf hI0 hI1) (.inr hI0) hI1 124 4 (Int.ofNat (Au (B.take 124))) (by omega) (by omega) ⟨Zpy _,by show Au (B.take 124)<_;omega⟩ rfl _ (Aq B 124 (Au (B.take 124)) 4) (by rw [CH hI0];rfl) ?_);conv=>whnf
   exact .plain _ rfl
 ·rw [show nwF.out X=.tup [.nils,.int .i64 8] by simp [nwF,hN]]
  conv=>whnf
  refine hchk _ _ (.int .i64 8) (by simp [nchkF,hN]) ?_;conv=>whnf
  repeat' (first|((refine w6 rfl rfl ?_ ?_) <;> intro _ <;> first|(exfalso;omega)|(conv=>whnf))|fail)
  exact .plain _ rfl
end Go.AM
namespace Go.AM
attribute [local irreducible] W
open X
def Zm4:AC:=match Nf with|.mk c _=>c
theorem Zid (e:Env) (hX:e.X.get 106=some AW) (r r2 o2 n cc el:Nat) (c2:Option Nat) (s:St) (cells sp:List AV) (y:AV) (K:AV→St→Prop)
 (hr:s.get r=some (.row el (cells++sp))) (hcl:cells.length=n) (hsp:sp.length=cc-n) (hn:0<n) (hnb:n<100000) (hncc:n≤cc) (hccb:cc≤9223372036854775807) (h2:load r2 o2 1 s=some [y]) (hr2:r2≠r) (hN:s.next<1000000000) (hrN:r<s.next) (hr2N:r2<s.next)
 (k1:cc<n+1→∀ s',s'.next=s.next+1→(∀ i,i<s.next→s'.get i=s.get i)→s'.get s.next=some (.row 41 (y::cells))→K (.sl s.next 0 (n+1) none) s')
 (k2:n+1≤cc→∀ s',s'.next=s.next→(∀ i,i≠r→s'.get i=s.get i)→s'.get r=some (.row el (y::cells++sp.drop 1))→K (.sl r 0 (n+1) (some cc)) s'):
 VE e Zm4 (Ah [.sl r 0 n (some cc),.int .i64 (Int.ofNat 0),.sl r2 o2 1 c2] 0 .lf) s none [] (AR [.tmp 6] K):=by
 conv=>whnf
 refine Ix rfl rfl rfl (Zoy _) hncc (by omega) ?_;conv=>whnf
 refine Qq rfl ?_;conv=>whnf
 refine TD (b:=0) rfl rfl (fun h=>by cases h) (fun _=>?_);conv=>whnf
 refine Qq rfl ?_;conv=>whnf
 refine TD rfl rfl (fun h=>by omega) (fun _=>?_);conv=>whnf
 refine Iy rfl rfl (by omega) ?_;conv=>whnf
 refine Zbf rfl ?_;conv=>whnf
 refine Zbc rfl rfl (fun hc=>?_) (fun hc=>?_)
 ·conv=>whnf
  refine Ix rfl rfl rfl (Zoy _) (Zoy _) (by omega) ?_;conv=>whnf
  refine Iy rfl rfl (by omega) ?_;conv=>whnf
  refine Za8 rfl rfl (Zoy _) (by omega) ?_;conv=>whnf
  refine ZJ (old:=[]) rfl rfl (by rw [Hb hr (by simp)];simp) (by omega) (by omega) (by omega) ?_
  obtain ⟨s1,hs1⟩:∃ s1,s.alloc (.row 41 ([]++C3 [AV.nils] (n+1-0)))=s1:=⟨_,rfl⟩
  rw [hs1]
  have hz:0-0+(n+1-0)=n+1:=by omega
  rw [hz]
  have hrep:∀ m,(C3 [AV.nils] m).length=m:=by
   intro m
   induction m with
   | zero=>rfl
   | succ m ih=>simp [C3,ih]
  have g1:s1.get s.next=some (.row 41 (C3 [AV.nils] (n+1))):=by rw [← hs1];exact Im hN
  have g2:∀ i,i<s.next→s1.get i=s.get i:=fun i hi=>by rw [← hs1];exact FF (by omega)
  have g3:s1.next=s.next+1:=by rw [← hs1];exact C8 _ _
  have h2':load r2 o2 1 s1=some [y]:=by rw [← h2];unfold load BU;rw [g2 r2 hr2N]
  conv=>whnf
  refine LD rfl rfl rfl (Zoy _) (Zo0 _) (by omega) ?_;conv=>whnf
  have hmin:Nat.min 1 (n+1-0)*1=1:=by show min 1 (n+1-0)*1=1;omega
  refine N3 (cs:=[y]) (s':=s1.put s.next (.row 41 ([]++[y]++(C3 [AV.nils] (n+1)).drop (0+1)))) rfl rfl (by rw [hmin];exact h2') (Fl g1 (by simp [hrep])) ?_
  obtain ⟨s2,hs2⟩:∃ s2,s1.put s.next (.row 41 ([]++[y]++(C3 [AV.nils] (n+1)).drop (0+1)))=s2:=⟨_,rfl⟩
  rw [hs2]
  have g4:s2.get s.next=some (.row 41 (y::C3 [AV.nils] n)):=by rw [← hs2,Fj (by omega)];simp [C3]
  have g5:∀ i,i<s.next→s2.get i=s.get i:=fun i hi=>by rw [← hs2,DJ (by omega)];exact g2 i hi
  have g6:s2.next=s.next+1:=by rw [← hs2,Cc];exact g3
  conv=>whnf
  refine Iy rfl rfl (by omega) ?_;conv=>whnf
  refine LD (l:=1) rfl rfl rfl (by omega) (Zo0 _) (by omega) ?_;conv=>whnf
  refine Ix rfl rfl rfl (Zoy _) hncc (by omega) ?_;conv=>whnf
  have hmin2:Nat.min (n-0) (n+1-1)*1=n:=by show min (n-0) (n+1-1)*1=n;omega
  refine N3 (cs:=cells) (s':=s2.put s.next (.row 41 ((y::C3 [AV.nils] n).take 1++cells++(y::C3 [AV.nils] n).drop (1+cells.length)))) rfl rfl (by rw [hmin2,Hb ((g5 r hrN).trans hr) (by simp;omega)];simp [← hcl]) (Fl g4 (by simp [hrep,hcl];omega)) ?_
  obtain ⟨s3,hs3⟩:∃ s3,s2.put s.next (.row 41 ((y::C3 [AV.nils] n).take 1++cells++(y::C3 [AV.nils] n).drop (1+cells.length)))=s3:=⟨_,rfl⟩
  rw [hs3]
  conv=>whnf
  refine k1 hc s3 (by rw [← hs3,Cc];exact g6) (fun i hi=>by rw [← hs3,DJ (by omega)];exact g5 i hi) ?_
  rw [← hs3,Fj (by omega)]
  have:((y::C3 [AV.nils] n).drop (1+cells.length))=[]:=Zpb (by simp [hrep,hcl];omega)
  rw [this];simp
 ·conv=>whnf
  refine Iy rfl rfl (by omega) ?_;conv=>whnf
  refine Ix (h:=n+1) rfl rfl rfl (Zoy _) hc (by omega) ?_;conv=>whnf
  refine Iy rfl rfl (by omega) ?_;conv=>whnf
  refine Ix (l:=1) rfl rfl rfl (by omega) (by omega) (by omega) ?_;conv=>whnf
  obtain ⟨e2,rs2,hrow2⟩:∃ e2 rs2,BU r2 s=.row e2 rs2:=by
   unfold load at h2
   cases hq:BU r2 s with
   | no=>rw [hq] at h2;cases h2
   | row e2 rs2=>exact ⟨e2,rs2,rfl⟩
  refine Zlf hX (v:=.bool false) (s':=s) ?_ ?_
  ·show gd (Bool.rec true false (Nat.beq r2 r)) (RW.rec .fail (fun _ _=>RW.rec .fail (fun _ cs=>List.rec .fail (fun _ _ _=>.ok (.bool false) s) cs) (BU r s)) (BU r2 s))=_
   rw [show Nat.beq r2 r=false by rw [← Zqg];intro e;exact hr2 (Zol e),hrow2,Fm hr]
   cases hcs:cells with
   | nil=>rw [hcs] at hcl;simp at hcl;omega
   | cons a b=>rfl
  conv=>whnf
  refine LE rfl ?_;conv=>whnf
  refine Iy rfl rfl (by omega) ?_;conv=>whnf
  refine Ix (l:=1) rfl rfl rfl (by omega) (by omega) (by omega) ?_;conv=>whnf
  refine Ix rfl rfl rfl (Zoy _) (by omega) (by omega) ?_;conv=>whnf
  have hmin:Nat.min (n+1-0-0) (n+1-0-1)*1=n:=by show min (n+1-0-0) (n+1-0-1)*1=n;omega
  refine N3 (cs:=cells) (s':=s.put r (.row el ((cells++sp).take 1++cells++(cells++sp).drop (1+cells.length)))) rfl rfl (by rw [hmin,Hb hr (by simp;omega)];simp [← hcl]) (Fl hr (by simp;omega)) ?_
  obtain ⟨s1,hs1⟩:∃ s1,s.put r (.row el ((cells++sp).take 1++cells++(cells++sp).drop (1+cells.length)))=s1:=⟨_,rfl⟩
  rw [hs1]
  have g1:s1.get r=some (.row el ((cells++sp).take 1++(cells++sp.drop 1))):=by
   rw [← hs1,Fj (by omega),List.append_assoc,List.drop_append]
   congr 4
   rw [Zpb (by omega)];simp
  have g2:∀ i,i≠r→s1.get i=s.get i:=fun i hi=>by rw [← hs1];exact DJ hi
  have g3:s1.next=s.next:=by rw [← hs1];exact Cc _ _ _
  have h2':load r2 o2 1 s1=some [y]:=by rw [← h2];unfold load BU;rw [g2 r2 hr2]
  have ht1:((cells++sp).take 1).length=1:=by simp;omega
  conv=>whnf
  refine Ix rfl rfl rfl (Zoy _) (by omega) (by omega) ?_;conv=>whnf
  have hmin2:Nat.min 1 (n+1-0-0)*1=1:=by show min 1 (n+1-0-0)*1=1;omega
  refine N3 (cs:=[y]) (s':=s1.put r (.row el (((cells++sp).take 1++(cells++sp.drop 1)).take 0++[y]++((cells++sp).take 1++(cells++sp.drop 1)).drop (0+[y].length)))) rfl rfl (by rw [hmin2];exact h2') (Fl g1 (by simp;omega)) ?_;conv=>whnf
  refine k2 hc _ (by rw [Cc];exact g3) (fun i hi=>by rw [DJ hi];exact g2 i hi) ?_
  rw [Fj (by omega)]
  have:((cells++sp).take 1++(cells++sp.drop 1)).drop (0+[y].length)=cells++sp.drop 1:=by
   rw [show 0+[y].length=((cells++sp).take 1).length by rw [ht1];rfl,List.drop_left]
  rw [this];simp
noncomputable def If (args:List AV) (s:St):RV:=match args with
 | [.sl r 0 n none,.int .i64 (.ofNat 0),.sl r2 o2 1 c2]=>
  (match load r2 o2 1 s with
    | some [y]=>(match BU r s with
     | .row el cells=>gd (Nat.beq el 41 && Nat.beq (A3 cells) n && Nat.blt 0 n && Nat.blt n 100000 && !Nat.beq r r2 && Nat.blt s.next 1000000000) (.ok (.sl s.next 0 (n+1) none) ((s.put r .dead).alloc (.row 41 (y::cells))))
     | .no=>.fail)
    | _=>.fail)
 | _=>.fail
theorem Zie {e:Env}{fn:Func}(hE:EM P e) (hX:e.X.get 106=some AW) (hO:e.O.get 86=none) (hG:e.G.get 86=some Nf) (hb:G4 P 86) (hsz:Aw P 41=some 1):OvOk P 86 If:=by
 refine ⟨hb,fun args s v s' h=>?_⟩
 unfold If at h
 split at h
 ·rename_i r n r2 o2 c2
  split at h
  ·rename_i y hy
   split at h
   ·rename_i el cells hrow
    obtain ⟨hc,h⟩:=BC h
    obtain ⟨rfl,rfl⟩:=Ap h
    simp only [Zoh,Bool.not_eq_true',Zpx] at hc
    obtain ⟨⟨⟨⟨⟨q1,q2⟩,q3⟩,q4⟩,q5⟩,q6⟩:=hc
    have q1:=Zol q1
    subst q1
    have q2:=Zol q2
    rw [CA] at q2
    have q5:r≠r2:=Zpk q5
    have hg:=GU hrow
    intro γ vals w m hA hs
    cases hA with
    | @cons _ v1 _ vs1 a1 hA=>cases hA with
     | @cons _ v2 _ vs2 a2 hA=>cases hA with
      | @cons _ v3 _ vs3 a3 hA=>
       cases hA
       obtain ⟨L,cc,hL,hv1,hncc,hccm,hcs⟩:=Yh a1
       obtain ⟨c,e1,e2,e3,e4,e5,e6,e7⟩:=hs.rowA hg hL
       have hes:L.es=1:=by rw [hsz] at e4;exact (Zpn e4).symm
       have hcap:cc≤c.size:=by have:=hcs rfl;rw [hes,Zpi] at this;omega
       have hrN:=hs.dom r _ hg
       obtain ⟨o2',hr2row⟩:∃ x,s.get r2=some x:=by
        unfold load at hy
        cases hq:BU r2 s with
        | no=>rw [hq] at hy;cases hy
        | row a b=>exact ⟨_,GU hq⟩
       have hr2N:=hs.dom r2 _ hr2row
       obtain ⟨hst1,hs1⟩:=hs.turn (w':=w) (o:=.row 41 (cells++List.replicate (cc-n) .any)) hg hL rfl (fun _ _=>rfl) rfl rfl rfl rfl (by
        refine ⟨c,e1,e2,e3,e4,by simp;omega,fun i u hi=>?_,e7⟩
        by_cases hin:i<n
        ·rw [Zoz (by omega)] at hi;exact e6 i u hi
        ·have hil:=(Zog.1 hi).1
         simp at hil
         rw [Zpa (by omega),List.getElem?_replicate] at hi
         split at hi
         ·cases hi
          have hcz:i<c.size:=by omega
          exact ⟨c[i],by simp [hcz],.any _ (e7 _ (by simp)),e7 _ (by simp)⟩
         ·cases hi)
       obtain ⟨S1,hS1⟩:∃ S1,s.put r (.row 41 (cells++List.replicate (cc-n) .any))=S1:=⟨_,rfl⟩
       rw [hS1] at hst1 hs1
       have p1:S1.get r=some (.row 41 (cells++List.replicate (cc-n) .any)):=by rw [← hS1];exact Fj (by omega)
       have p2:∀ i,i≠r→S1.get i=s.get i:=fun i hi=>by rw [← hS1];exact DJ hi
       have p3:S1.next=s.next:=by rw [← hS1];exact Cc _ _ _
       have hy1:load r2 o2 1 S1=some [y]:=by rw [← hy];unfold load BU;rw [p2 r2 (fun e=>q5 e.symm)]
       have hA1:All2 (VR γ) [.sl r 0 n (some cc),.int .i64 (.ofNat 0),.sl r2 o2 1 c2] [v1,v2,v3]:=.cons (by rw [hv1];exact .sl r 0 n cc L hL hncc) (.cons a2 (.cons a3 .nil))
       have hrun:=Zid e hX r r2 o2 n cc 41 c2 S1 cells (List.replicate (cc-n) .any) y
        (fun v s'=>(v=.sl s.next 0 (n+1) none∧s'.next=s.next+1∧(∀ i,i<s.next→s'.get i=S1.get i)∧s'.get s.next=some (.row 41 (y::cells)))∨
          (n+1≤cc∧v=.sl r 0 (n+1) (some cc)∧s'.next=s.next∧(∀ i,i≠r→s'.get i=S1.get i)∧s'.get r=some (.row 41 (y::cells++(List.replicate (cc-n) .any).drop 1))))
        p1 q2 (by simp) q3 q4 hncc (by unfold maxLen at hccm;omega) hy1 (fun e=>q5 e.symm) (by omega) (by omega) (by omega)
        (fun _ s' h1 h2 h3=>.inl ⟨by rw [p3],by rw [h1,p3],fun i hi=>h2 i (by omega),by rw [← p3];exact h3⟩)
        (fun hle s' h1 h2 h3=>.inr ⟨hle,rfl,by rw [h1,p3],h2,h3⟩)
       obtain ⟨nn,v',s',hcall,hR⟩:=(ECall.inl (vs:=[.sl r 0 n (some cc),.int .i64 (.ofNat 0),.sl r2 o2 1 c2]) hO hG hrun).elim
       refine CallsIn.mono ((L7 (LQ hE.1 hE.2 nn) hE.1 hA1 hs1 hcall).2 m) ?_
       rintro ee w' ⟨x',γ',rfl,hst',hsim',hv'⟩
       refine ⟨_,_,⟨rfl,rfl⟩,?_⟩
       have hnd:(s.put r .dead).next=s.next:=Cc _ _ _
       have hSn:((s.put r .dead).alloc (.row 41 (y::cells))).next=s.next+1:=by rw [C8,hnd]
       have hkeep:∀ k,γ k=none→k<s.next→((s.put r .dead).alloc (.row 41 (y::cells))).get k=s.get k:=fun k hk hlt=>by
        rw [FF (by rw [hnd];omega),DJ (fun e=>by rw [e,hL] at hk;cases hk)]
       have hget:∀ k o,((s.put r .dead).alloc (.row 41 (y::cells))).get k=some o→(k=s.next∧o=.row 41 (y::cells))∨(k=r∧o=.dead)∨(k≠r∧k<s.next∧s.get k=some o):=by
        intro k o hk
        rcases Gr hk with ⟨e1,e2⟩|⟨e1,hk⟩
        ·exact .inl ⟨by rw [e1,hnd],e2⟩
        ·rcases FH hk with ⟨e3,e4⟩|⟨e3,hk⟩
         ·exact .inr (.inl ⟨e3,e4⟩)
         ·exact .inr (.inr ⟨e3,hs.dom k o hk,hk⟩)
       rcases hR with ⟨rfl,r1,r2',r3⟩|⟨hle,rfl,r1,r2',r3⟩
       ·refine ⟨x',γ',rfl,(hst1.trans hst').same (by rw [hSn,r1]) hkeep,hsim'.same (by rw [hSn,r1]) (fun k o hk=>?_),hv'⟩
        rcases hget k o hk with ⟨rfl,rfl⟩|⟨rfl,rfl⟩|⟨h1,h2,h3⟩
        ·exact .inr r3
        ·exact .inl ⟨rfl,by omega⟩
        ·exact .inr (by rw [r2' k h2,p2 k h1];exact h3)
       ·have hL':=hst'.le.loc r L hL
        obtain ⟨c',d1,d2,d3,d4,d5,d6,d7⟩:=hsim'.rowA r3 hL'
        have hsn:s'.next=s.next:=r1
        obtain ⟨hst2,hsim2⟩:=hsim'.move (w':=w') (o:=.row 41 (y::cells)) r3 hL' rfl (fun _ _=>rfl) rfl rfl rfl rfl (by
         refine ⟨c',d1,d2,d3,d4,by simp at d5 ⊢;omega,fun i u hi=>?_,d7⟩
         have hil:=(Zog.1 hi).1
         obtain ⟨u',f1,f2,f3⟩:=d6 i u (by rw [Zoz hil];exact hi)
         exact ⟨u',f1,f2.mono (Fr (hsim'.nx _ (Zo0 _))),f3⟩)
        rw [hsn] at hst2 hsim2
        have hn2:((s'.put r .dead).alloc (.row 41 (y::cells))).next=s.next+1:=by rw [C8,Cc,hsn]
        refine ⟨x',_,rfl,((hst1.trans hst').trans hst2).same (by rw [hSn,hn2]) hkeep,hsim2.same (by rw [hSn,hn2]) (fun k o hk=>?_),?_⟩
        ·rcases hget k o hk with ⟨rfl,rfl⟩|⟨rfl,rfl⟩|⟨h1,h2,h3⟩
         ·refine .inr ?_
          have:=Im (s:=s'.put r .dead) (o:=.row 41 (y::cells)) (by rw [Cc,hsn];omega)
          rw [Cc,hsn] at this;exact this
         ·exact .inl ⟨rfl,by omega⟩
         ·refine .inr ?_
          rw [FF (by rw [Cc,hsn];omega),DJ h1,r2' k h1,p2 k h1];exact h3
        ·obtain ⟨L2,cc2,hL2,hx2,hck⟩:=Ff hv'
         rw [hL'] at hL2;cases hL2
         have:=hck cc rfl
         subst this
         rw [hx2]
         exact .slu s.next 0 (n+1) cc2 L (BA _ _ _) hle hccm (fun _=>hcs rfl)
   ·cases h
  ·cases h
 ·cases h
end Go.AM
namespace Go.AM
attribute [local irreducible] W
open X
theorem W3:∀ {l m:List Nat},Ab l=Ab m→l=m
 | [],[],_=>rfl
 | [],_::_,h=>by cases h
 | _::_,[],h=>by cases h
 | a::l,b::m,h=>by
  have h:AV.int .u8 (Int.ofNat a)::Ab l=.int .u8 (Int.ofNat b)::Ab m:=h
  injection h with h1 h2
  injection h1 with _ h1
  injection h1 with h1
  rw [h1,W3 h2]
def BAt (u:AV) (b:List Nat):Prop:=Sl 1 b.length (Ab b) u∧∀ x ∈ b,x<256
variable {b:List Nat}
theorem BAt.inj {u:AV}{c:List Nat}(h:BAt u b) (h':BAt u c):b=c:=W3 (h.1.l_inj h'.1)
structure DB where
 st:Int
 sv:AV
 sl:List Int
 bv:AV
 us:List AV
 bs:List (List Nat)
 pv:AV
 pb:List Nat
def DB.d (x:DB):Dl:=⟨x.st,x.sv,x.sl,⟨x.bv,x.us,x.bs.map List.length⟩,x.pv,x.pb.length⟩
structure DB.ok (x:DB):Prop where
 d:x.d.ok
 bs:All2 BAt x.us x.bs
 pb:BAt x.pv x.pb
variable {x:DB}
theorem DB.inj {y:DB}(hx:x.ok) (hy:y.ok) (h:x.d.v=y.d.v):x=y:=by
 have hd:=Dl.inj hx.d hy.d h
 obtain ⟨st,sv,sl,bv,us,bs,pv,pb⟩:=x
 obtain ⟨st',sv',sl',bv',us',bs',pv',pb'⟩:=y
 unfold DB.d at hd
 injection hd with e1 e2 e3 e4 e5 e6
 injection e4 with e7 e8 e9
 dsimp only at e1 e2 e3 e5 e6 e7 e8 e9
 subst e1 e2 e3 e5 e7 e8
 have e10:=hx.pb.inj hy.pb
 dsimp only at e10
 subst e10
 have:∀ {us:List AV}{bs bs':List (List Nat)},All2 BAt us bs→All2 BAt us bs'→bs=bs':=by
  intro us
  induction us with
  | nil=>intro _ _ a b;cases a;cases b;rfl
  | cons u us ih=>
   intro _ _ a b
   cases a with
   | cons a1 a2=>cases b with
    | cons b1 b2=>rw [a1.inj b1,ih a2 b2]
 have e11:=this hx.bs hy.bs
 dsimp only at e11
 subst e11;rfl
def BT (b:List Nat):List Nat:=b++List.replicate (128-b.length) 0
def Cf (b:List Nat):Bool:=(BT b).headD 0 == 78
def AQ (b:List Nat):List Nat:=if Cf b then (BT b).set 0 0 else BT b
def Br (p:Int×List Nat):Rc:=⟨p.1,Cf p.2,(Au (AQ p.2):Int)⟩
def AA (b:List Nat):AV:=.fz 128 none (Ab b)
def Bp (p:Int×List Nat):AV:=AA (AQ p.2)
def DB.prs (x:DB):List (Int×List Nat):=x.sl.zip x.bs++(if x.pb.length=0 then [] else [(255,x.pb)])
theorem Ip (h:b.length≤128):(BT b).length=128:=by unfold BT;simp;omega
theorem Km (h:∀ x ∈ b,x<256):∀ x ∈ BT b,x<256:=by
 intro x hx
 rcases Zo7.1 hx with hx|hx
 ·exact h x hx
 ·rw [Zqe hx];decide
theorem Gq (h:b.length≤128):(AQ b).length=128:=by
 unfold AQ;split
 ·rw [List.length_set];exact Ip h
 ·exact Ip h
theorem Gw (h:∀ x ∈ b,x<256):∀ x ∈ AQ b,x<256:=by
 unfold AQ;split
 ·intro x hx
  rcases List.mem_or_eq_of_mem_set hx with hx|rfl
  ·exact Km h x hx
  ·decide
 ·exact Km h
theorem Cp:∀ (L:List Rc),hfs (Ax L)=true
 | []=>rfl
 | x::L=>by
  show (true && (true && (true && hfs (Ax L))))=true
  rw [Cp L];rfl
theorem Gs (L M:List Rc):Ax (L++M)=Ax L++Ax M:=by unfold Ax;rw [List.flatMap_append]
theorem BY (l:List (Int×List Nat)):hfs (l.map Bp)=true:=hfs_iff.2 fun v hv=>by
 obtain ⟨p,_,rfl⟩:=Zpf.1 hv;rfl
variable {s:St}{r e:Nat}{c:Option Nat}{bs:List Nat}
theorem Z8 {n:Nat}(h:s.get r=some (.row e (Ab bs))) (hn:bs.length=n) (hb:∀ b ∈ bs,b<256):BQ s (.sl r 0 n c)=some bs:=by
 have h1:load r 0 n s=some (Ab bs):=HC h (by rw [Ba];exact hn)
 show (Option.rec none Cm (load r 0 n s):Option (List Nat))=some bs
 rw [h1]
 have hbo:∀ {bs:List Nat},(∀ b ∈ bs,b<256)→Cm (Ab bs)=some bs:=by
  intro bs
  induction bs with
  | nil=>intro _;rfl
  | cons b bs ih=>
   intro h
   show (Bool.rec none (Option.rec none (fun r=>some (b::r)) (Cm (Ab bs))) (Nat.blt b 256):Option (List Nat))=_
   rw [ih (fun x hx=>h x (by simp [hx])),show Nat.blt b 256=true by simpa using h b (by simp)]
 exact hbo hb
theorem G0 (h:s.get r=some (.row e (Ab bs))) (hn:bs.length=128) (hb:∀ b ∈ bs,b<256):DO [.int .u32 0,.sl r 0 128 c] s=.ok (.int .u32 ((Au bs:Nat):Int)) s:=by
 show (Option.rec .fail (fun bs=>gd (Nat.blt (A3 bs) 1000000) (.ok (.int .u32 (.ofNat (Nat.xor (Dg bs (Nat.xor 0 4294967295)) 4294967295))) s)) (BQ s (.sl r 0 128 c)):RV)=_
 rw [Z8 h hn hb]
 show gd (Nat.blt (A3 bs) 1000000) _=_
 rw [CA,hn];rfl
structure BD where
 c:Cfg
 age:Int
 seq:Int
 d:DB
structure BD.ok (x:BD):Prop where
 c:x.c.ok
 age:AK x.age
 seq:AK x.seq
 d:x.d.ok
def BD.enc (x:BD):List AV:=[x.c.v,.int .u32 x.age,.int .u32 x.seq,x.d.d.v]
theorem BD.inj {x y:BD}(hx:x.ok) (hy:y.ok) (h:x.enc=y.enc):x=y:=by
 obtain ⟨c,ag,sq,d⟩:=x
 obtain ⟨c',ag',sq',d'⟩:=y
 unfold BD.enc at h
 injection h with e1 h
 injection h with e2 h
 injection h with e3 h
 injection h with e4 h
 have h1:c=c':=FM e1
 have h2:d=d':=DB.inj hx.d hy.d e4
 injection e2 with _ e2
 injection e3 with _ e3
 dsimp only at e2 e3
 subst h1 h2 e2 e3;rfl
def BD.note (x:BD):Nt:=⟨x.c.id,x.age,x.seq,x.d.st,.nils,x.d.prs.map Br⟩
def AN (n:Nt):List Nat:=Aq (AG n n.recs.length) 124 (Au ((AG n n.recs.length).take 124)) 4
theorem VL (id ag sq st:Int) (v v':AV) (R:List Rc):∀ i,AG ⟨id,ag,sq,st,v,R⟩ i=AG ⟨id,ag,sq,st,v',R⟩ i
 | 0=>rfl
 | i+1=>by
  have h:=VL id ag sq st v v' R i
  show (match R[i]? with|some r=>Dp (AG ⟨id,ag,sq,st,v,R⟩ i) i r|none=>AG ⟨id,ag,sq,st,v,R⟩ i)=(match R[i]? with|some r=>Dp (AG ⟨id,ag,sq,st,v',R⟩ i) i r|none=>AG ⟨id,ag,sq,st,v',R⟩ i)
  rw [h]
theorem QF (id ag sq st:Int) (v v':AV) (R:List Rc):AN ⟨id,ag,sq,st,v,R⟩=AN ⟨id,ag,sq,st,v',R⟩:=by
 unfold AN
 rw [VL id ag sq st v v' R]
def Hl (x:BD):AV:=if CD.good ⟨x.c,x.d.d⟩ then (if Bq x.note then .tup [.fz (x.d.prs.length+1) none (C5 (AN x.note)::x.d.prs.map Bp),.int .i64 0] else .tup [.nils,.int .i64 2]) else .tup [.nils,.int .i64 8]
def blkF:Fam BD:=⟨BD.ok,BD.enc,Hl,fun x y hx hy h=>by rw [BD.inj hx hy h]⟩
def Lu (C D:List AV) (id ag sq st:Int) (R:List Rc) (L:List AV):Nat→List AObj
 | 0=>[.row 24 C,.row 53 D,.row 87 [.int .u32 id,.int .u32 ag,.int .u32 sq,.int .i64 st,.nils],.row 25 [.nils]]
 | i+1=>[.row 24 C,.row 53 D,.row 87 [.int .u32 id,.int .u32 ag,.int .u32 sq,.int .i64 st,.sl 4 0 (i+1) none],.row 25 [.sl 5 0 (i+1) none],.row 140 (Ax R),.row 41 L]
def Xm:AC:=match a49 with|.mk c _=>c
def Zm6:AC:=match a84 with|.mk c _=>c
def Zm5:AC:=match a85 with|.mk c _=>c
theorem U3 {top:Int}(ht:top≤14):∀ {l:List Int}{la:Int},-1≤la→GE top la l=true→∀ s ∈ l,0≤s∧s≤14
 | [],la,_,_,s,hs=>by simp at hs
 | x::l,la,hla,h,s,hs=>by
  have h:(decide (la<x∧x≤top) && GE top x l)=true:=h
  rw [Zoh,Zpc] at h
  rcases Zpp.1 hs with rfl|hs
  ·omega
  ·exact U3 ht (by omega) h.2 s hs
variable {top:Int}{l:List Int}
theorem PY (h:D0 top l=true) (ht:top≤14):∀ s ∈ l,0≤s∧s≤14:=by
 unfold D0 at h
 rw [Zoh] at h
 exact U3 ht (by omega) h.1
theorem Ny (h:D0 top l=true):0<l.length:=by
 unfold D0 at h
 rw [Zoh] at h
 exact Zpw h.2
theorem QY {bs:List (List Nat)}(h:(bs.map List.length).any AE=false):∀ b ∈ bs,b.length=0∨b.length=128:=by
 intro b hb
 rw [List.any_eq_false] at h
 have:=h b.length (Zpf.2 ⟨b,hb,rfl⟩)
 unfold AE at this
 simp only [Zoh,Zpc] at this
 omega
theorem Zcx (x:BD):AM.hf (Hl x)=true:=by
 unfold Hl
 split
 ·split <;> rfl
 ·rfl
theorem PT (h:s.get r=some (.row e (Ab (0::List.replicate 127 0)))) (hb:b.length≤128):storeAt r 0 (Ab b) s=some (s.put r (.row e (Ab (BT b)))):=by
 rw [Fl h (by rw [Ba,Ba];simp;omega)]
 congr 4
 unfold BT
 have e1:(0::List.replicate 127 0:List Nat)=List.replicate 128 0:=rfl
 rw [e1,List.take_zero,List.nil_append]
 show Ab b++List.drop (0+(Ab b).length) (Ab (List.replicate 128 0))=Ab (b++List.replicate (128-b.length) 0)
 rw [Ba,Zou]
 unfold Ab
 rw [Zo4,← List.map_drop,List.drop_replicate]
variable {L:List AV}
theorem CF {ρ:Nat→Nat}{x:AV}(h:hfs L=true):At ρ (L++[x])=L++[A2 ρ x]:=by
 induction L with
 | nil=>rfl
 | cons y L ih=>
  simp only [hfs,Zoh] at h
  show A2 ρ y::At ρ (L++[x])=_
  rw [Bv y h.1,ih h.2];rfl
theorem CG {n:Nat}{x:AV}(h:hfs L=true):AB n (L++[x])=bd n x:=by
 induction L with
 | nil=>show (bd n x && true)=_;rw [Bool.and_true]
 | cons y L ih=>
  simp only [hfs,Zoh] at h
  show (bd n y && AB n (L++[x]))=_
  rw [Bz y h.1,ih h.2];rfl
def tlB (bv:AV) (n i:Nat):List (Nat×AV):=[(7,.ptr 1 0),(11,.ptr 2 0),(12,.ptr 3 0),(13,.fn 84 [] [.ptr 2 0,.ptr 3 0]),(33,bv),(34,.int .i64 (n:Int)),(35,.int .i64 (i:Int))]
variable {D:List AV}{ag sq st:Int}{i:Nat}
theorem Ziv {C:List AV}{id:Int}{R:List Rc}{m:List Nat}(hC:hfs C=true) (hD:hfs D=true) (hL:hfs L=true):
 FY 6 (Ab m) (Lu C D id ag sq st R (L++[.sl 6 0 128 (some 128)]) (i+1))=Lu C D id ag sq st R (L++[AA m]) (i+1):=by
 show [Bw 6 (Ab m) (.row 24 C),Bw 6 (Ab m) (.row 53 D),_,_,Bw 6 (Ab m) (.row 140 (Ax R)),AObj.row 41 (CW 6 (Ab m) (L++[.sl 6 0 128 (some 128)]))]=_
 rw [BM hC,BM hD,BM (Cp R),Kf,Gx L hL]
 rfl
variable {t:AT}{p:Int×List Nat}
theorem HG {C:List AV}{id:Int}{R:List Rc}{tl:List (Nat×AV)}{rs:List Nat}(htb:JB tl=true) (htl:JS 6 (Ab (AQ p.2)) tl=tl) (hC:hfs C=true) (hD:hfs D=true) (hL:hfs L=true)
 (h:Abs t s tl (Lu C D id ag sq st (R++[Br p]) (L++[.sl 6 0 128 (some 128)]) (i+1)++[.row 5 (Ab (AQ p.2))]) rs):
 Tells P 0 t s [] (Am tl) (Ac St0 (Lu C D id ag sq st (R++[Br p]) (L++[Bp p]) (i+1))) []:=by
 refine AbsK.frz (n:=6) h.toK rfl (AJ _) rfl rfl rfl htb htl ?_
 exact Ziv hC hD hL
theorem KC {bv:AV}{n:Nat}{cs:List AV}(hbv:AM.hf bv=true):JS 6 cs (tlB bv n i)=tlB bv n i:=by
 show [_,_,_,_,(33,C4 6 _ bv),_,_]=_
 rw [EW bv hbv];rfl
theorem TK {top:Int}:∀ {l:List Int}{la:Int},GE top la l=true→l=[]∨la+l.length≤top
 | [],la,_=>.inl rfl
 | x::l,la,h=>by
  have h:(decide (la<x∧x≤top) && GE top x l)=true:=h
  rw [Zoh,Zpc] at h
  right
  rw [Zo9]
  push_cast
  rcases TK h.2 with rfl|g
  ·simp;omega
  ·omega
theorem Nz (h:D0 top l=true):(l.length:Int)≤top+1:=by
 have h0:=Ny h
 unfold D0 at h
 rw [Zoh] at h
 rcases TK h.1 with rfl|g
 ·simp at h0
 ·omega
theorem Zif {r2 n:Nat}{c2:Option Nat}{y:AV}(h1:s.get r=some (.row 41 L)) (h2:s.get r2=some (.row 41 [y])) (hn:L.length=n) (h0:0<n) (h3:n<100000) (hr:r≠r2) (hs:s.next<1000000000):
 If [.sl r 0 n none,.int .i64 0,.sl r2 0 1 c2] s=.ok (.sl s.next 0 (n+1) none) ((s.put r .dead).alloc (.row 41 (y::L))):=by
 show (match load r2 0 1 s with
  | some [y]=>(match BU r s with
   | .row el cells=>gd (Nat.beq el 41 && Nat.beq (A3 cells) n && Nat.blt 0 n && Nat.blt n 100000 && !Nat.beq r r2 && Nat.blt s.next 1000000000) (.ok (.sl s.next 0 (n+1) none) ((s.put r .dead).alloc (.row 41 (y::cells))))
   | .no=>.fail)
  | _=>.fail)=_
 rw [show load r2 0 1 s=some [y] from HC h2 rfl,Fm h1]
 have e1:Nat.beq (A3 L) n=true:=by rw [CA,hn];exact Zp2 n
 have e2:Nat.beq r r2=false:=by
  cases hq:Nat.beq r r2 with
  | false=>rfl
  | true=>exact absurd (Zol hq) hr
 have e3:Nat.blt 0 n=true:=by rw [Zpx];exact h0
 have e4:Nat.blt n 100000=true:=by rw [Zpx];exact h3
 have e5:Nat.blt s.next 1000000000=true:=by rw [Zpx];exact hs
 show gd (Nat.beq 32 32 && Nat.beq (A3 L) n && Nat.blt 0 n && Nat.blt n 100000 && !Nat.beq r r2 && Nat.blt s.next 1000000000) _=_
 rw [e1,e2,e3,e4,e5];rfl
def osC (C D:List AV) (id ag sq st:Int) (R:List Rc) (L:List AV) (n:Nat):List AObj:=
 [.row 24 C,.row 53 D,.row 87 [.int .u32 id,.int .u32 ag,.int .u32 sq,.int .i64 st,.fz n none (Ax R)],.row 25 [.sl 4 0 n none],.row 41 L]
def JW:List (Nat×AV):=[(11,.ptr 2 0),(12,.ptr 3 0)]
theorem NI {C:List AV}{id:Int}{R:List Rc}(hC:hfs C=true) (hD:hfs D=true) (hL:hfs L=true) (h1:t.get 11=some (.ptr 2 0)) (h2:t.get 12=some (.ptr 3 0)):
 Tells P 0 t (Ac St0 (Lu C D id ag sq st R L (i+1))) [] (Am JW) (Ac St0 (osC C D id ag sq st R L (i+1))) []:=by
 refine AbsK.frz (k:=0) (tl:=JW) (os:=[.row 24 C,.row 53 D,.row 87 [.int .u32 id,.int .u32 ag,.int .u32 sq,.int .i64 st,.sl 5 0 (i+1) none],.row 25 [.sl 4 0 (i+1) none],.row 41 L]) (e:=140) (cs:=Ax R) (rs:=[0,1,2,3,5,4]) (n:=5) (Abs.toK ⟨by decide,⟨⟨rfl,h1⟩,⟨rfl,h2⟩,trivial⟩,⟨o9,o9,r9,r9,o9,o9 (Cp R),trivial⟩⟩) rfl (Cp R) rfl rfl rfl rfl rfl ?_
 show [Bw 5 (Ax R) (.row 24 C),Bw 5 (Ax R) (.row 53 D),_,_,Bw 5 (Ax R) (.row 41 L)]=_
 rw [BM hC,BM hD,BM hL];rfl
def WO:AC:=match Xm with
 | .seq _ (.seq _ (.seq _ (.seq _ (.seq _ (.seq _ (.seq _ r))))))=>r
 | _=>.skip
theorem Zet {e:Env}(hE:EM P e) (h90:Con e 65 nwF.O) (h91:Con e 86 If) {C:List AV}{id:Int}{R:List Rc}{n:Nat}(hx:Nt.ok ⟨id,ag,sq,st,.fz n none (Ax R),R⟩) (hn:R.length=n) (hl:L.length=n) (h0:0<n) (h1:n<100000) (hL:hfs L=true) (K:AV→St→Prop)
 (hk:∀ s v,Frz s v (if Bq ⟨id,ag,sq,st,.nils,R⟩ then .tup [.fz (n+1) none (C5 (AN ⟨id,ag,sq,st,.nils,R⟩)::L),.int .i64 0] else .tup [.nils,.int .i64 2])→K v s):
 W P 0 none WO (Am JW) (Ac St0 (osC C D id ag sq st R L n)) [] (Bx [.tmp 8,.tmp 9] K):=by
 refine Fv hE ?_;conv=>whnf
 cases hN:Bq ⟨id,ag,sq,st,.fz n none (Ax R),R⟩
 ·have hN':Bq ⟨id,ag,sq,st,.nils,R⟩=false:=hN
  rw [hN'] at hk
  refine ESc.fam nwF h90 ⟨id,ag,sq,st,.fz n none (Ax R),R⟩ hx (u:=.tup [.nils,.int .i64 8]) (by show (if Bq _ then _ else _)=_;rw [hN];rfl) ?_;conv=>whnf
  repeat' (first|((refine w6 rfl rfl ?_ ?_) <;> intro _ <;> first|(exfalso;omega)|(conv=>whnf))|fail)
  exact hk _ _ (.plain _ rfl)
 ·have hN':Bq ⟨id,ag,sq,st,.nils,R⟩=true:=hN
  rw [hN'] at hk
  refine ESc.fam nwF h90 ⟨id,ag,sq,st,.fz n none (Ax R),R⟩ hx (u:=.tup [C5 (AN ⟨id,ag,sq,st,.nils,R⟩),.int .i64 0]) (by show (if Bq _ then _ else _)=_;rw [hN,Zoj rfl,← QF id ag sq st (.fz n none (Ax R))];rfl) ?_;conv=>whnf
  repeat' (first|((refine w6 rfl rfl ?_ ?_) <;> intro _ <;> first|(exfalso;omega)|(conv=>whnf))|fail)
  refine ESc.ov h91 (Zif rfl rfl hl h0 h1 (by show (4:Nat)≠5;decide) (by show (6:Nat)<1000000000;decide)) ?_;conv=>whnf
  refine hk _ _ (.tup _ _ (.cons (.sl _ 0 _ none none 41 _ _ _ rfl (fun i x h=>by rw [Zou];exact h) (Es (l:=C5 (AN ⟨id,ag,sq,st,.nils,R⟩)::L) hL) (.inl rfl)) (.cons (.plain _ rfl) .nil)))
theorem Zhe (h:∀ b ∈ bs,b<256):Au bs<4294967296:=Zp6 (n:=32) (K0 h (by decide)) (by decide)
theorem All2.memR {α β:Type}{R:α→β→Prop}{l:List α}{m:List β}(h:All2 R l m):∀ b ∈ m,∃ a,R a b:=by
 induction h with
 | nil=>intro b hb;simp at hb
 | cons h _ ih=>
  intro b hb
  rcases Zpp.1 hb with rfl|hb
  ·exact ⟨_,h⟩
  ·exact ih b hb
theorem WQ (hx:x.ok) (hs:∀ s ∈ x.sl,0≤s∧s≤14):∀ p ∈ x.prs,(0≤p.1∧p.1<256)∧∀ b ∈ p.2,b<256:=by
 rintro ⟨s,b⟩ hp
 unfold DB.prs at hp
 rcases Zo7.1 hp with hp|hp
 ·obtain ⟨h1,h2⟩:=List.of_mem_zip hp
  obtain ⟨u,hu⟩:=hx.bs.memR b h2
  have:=hs s h1
  exact ⟨by dsimp only;omega,hu.2⟩
 ·split at hp
  ·simp at hp
  ·simp at hp
   obtain ⟨rfl,rfl⟩:=hp
   exact ⟨by dsimp only;omega,hx.pb.2⟩
theorem QS (h:(0≤p.1∧p.1<256)∧∀ b ∈ p.2,b<256):(Br p).ok:=by
 refine ⟨h.1,?_⟩
 have:=Zhe (Gw h.2)
 unfold AK
 show 0≤((Au (AQ p.2):Nat):Int)∧((Au (AQ p.2):Nat):Int)<4294967296
 omega
theorem Zk4 {e:Env}(hE:EM P e) (h50:Con e 73 dchkF.O) (h88:Inl e 84 Zm6 []) (h89:Inl e 85 Zm5 [.tmp 2]) (h67:Inl e 68 KQ [.tmp 2]) (h107:Con e 95 DO) (h90:Con e 65 nwF.O) (h91:Con e 86 If):OvOk P 49 blkF.O:=by
 refine Bk g49.b fun x hx=>?_
 obtain ⟨X,hX⟩:∃ X:BD,X=x:=⟨_,rfl⟩
 obtain ⟨⟨id,mb,ch,ro,lo,he⟩,ag,sq,⟨st,sv,sl,bv,us,bs,pv,pb⟩⟩:=x
 have hxx:=hx
 obtain ⟨hco,ha,hq,hd⟩:=hx
 have hd0:=hd.d
 obtain ⟨hst,hsl,hsb,hsn,hbl,⟨pl,hp⟩,hpn⟩:=hd.d
 have hbs:=hd.bs
 have hpb:=hd.pb
 dsimp only [DB.d] at hst hsl hsb hsn hbl hp hpn hco hbs hpb ha hq
 refine ⟨by show (true && (true && (true && (AM.hf (Dl.v _) && true))))=true;rw [Dl.hf hd0];rfl,Zcx _,C.of_W g49.f g49.c ?_⟩
 show W P 0 none Xm (Ah [AV.agg (Cfg.c ⟨id,mb,ch,ro,lo,he⟩),.int .u32 ag,.int .u32 sq,AV.agg [.int .i64 st,sv,bv,pv]] 0 .lf) St0 [] (Bx [.tmp 8,.tmp 9] (fun w s'=>Frz s' w (Hl _)))
 rw [← hX]
 refine Av hE ?_;conv=>whnf
 refine Av hE ?_;conv=>whnf
 have hout:Hl X=if CD.good ⟨⟨id,mb,ch,ro,lo,he⟩,DB.d ⟨st,sv,sl,bv,us,bs,pv,pb⟩⟩ then (if Bq X.note then .tup [.fz (X.d.prs.length+1) none (C5 (AN X.note)::X.d.prs.map Bp),.int .i64 0] else .tup [.nils,.int .i64 2]) else .tup [.nils,.int .i64 8]:=by rw [hX];rfl
 refine ESc.fam dchkF h50 ⟨⟨id,mb,ch,ro,lo,he⟩,DB.d ⟨st,sv,sl,bv,us,bs,pv,pb⟩⟩ ⟨hco,hd0⟩ (u:=.int .i64 (if CD.good ⟨⟨id,mb,ch,ro,lo,he⟩,DB.d ⟨st,sv,sl,bv,us,bs,pv,pb⟩⟩ then 0 else 8)) rfl ?_
 by_cases hG:CD.good ⟨⟨id,mb,ch,ro,lo,he⟩,DB.d ⟨st,sv,sl,bv,us,bs,pv,pb⟩⟩
 ·rw [Zoj hG] at hout ⊢
  have hgd:=hG.2
  have hmay:=hG.1
  unfold Cfg.may at hmay
  unfold DC at hgd
  simp only [Zoh,Zpc,Bool.not_eq_true',DB.d,Zom] at hgd
  obtain ⟨⟨⟨⟨hodd,hstr⟩,hslot⟩,hbn⟩,hpo⟩:=hgd
  dsimp only at hmay hstr hslot hbn hpo hodd
  have hslo:∀ s ∈ sl,0≤s∧s≤14:=PY hslot (by omega)
  have hsl0:0<sl.length:=Ny hslot
  have hsl1:=Nz hslot
  have hodl:=QY hodd
  have hbs2:=hbs.length
  have hpo2:pb.length=0∨pb.length=128:=by
   unfold AE at hpo
   simp only [Bool.and_eq_false_iff,Zpl,Decidable.not_not] at hpo
   exact hpo
  conv=>whnf
  repeat' (first|((refine w6 rfl rfl ?_ ?_) <;> intro _ <;> first|(exfalso;omega)|(conv=>whnf))|fail)
  iterate 4
   refine Av hE ?_;conv=>whnf
  repeat' (first|(refine Af rfl hbl.sl ?_;conv=>whnf)|fail)
  obtain ⟨C,hC⟩:∃ C:Cfg,C=⟨id,mb,ch,ro,lo,he⟩:=⟨_,rfl⟩
  have hDf:hfs [.int .i64 st,sv,bv,pv]=true:=by
   show (true && (AM.hf sv && (AM.hf bv && (AM.hf pv && true))))=true
   rw [hsl.hf,hbl.sl.hf,hp.hf];rfl
  have hCf:hfs [.int .u32 id,.int .i64 mb,.int .i64 ch,.int .i64 ro,.int .i64 lo,.int .i64 he]=true:=rfl
  obtain ⟨Z,hZ⟩:∃ Z,Z=sl.zip bs:=⟨_,rfl⟩
  have hZl:Z.length=us.length:=by rw [hZ,List.length_zip];omega
  have hbv:=hbl.sl.hf
  dsimp only at hbv
  refine Ce (α:=Nat) (fun i=>tlB bv us.length i)
   (fun i=>Lu [.int .u32 id,.int .i64 mb,.int .i64 ch,.int .i64 ro,.int .i64 lo,.int .i64 he] [.int .i64 st,sv,bv,pv] id ag sq st ((Z.take i).map Br) ((Z.take i).map Bp) i) (fun i=>us.length-i) (fun i=>i≤us.length) 0 (Zoy _)
   (Abs.tells (rs:=[0,1,2,3]) .a) ?_
  intro i hi
  refine A9 hE ?_
  by_cases hlt:i<us.length
  ·have hlz:i<Z.length:=by omega
   have hlb:i<bs.length:=by omega
   have hls:i<sl.length:=by omega
   have hzi:Z[i]=(sl[i],bs[i]):=by simp only [hZ];rw [List.getElem_zip]
   have htk:Z.take (i+1)=Z.take i++[(sl[i],bs[i])]:=by rw [Zos hlz,hzi]
   have hsi:=hslo sl[i] (Zpg hls)
   have hbi:=hodl bs[i] (Zpg hlb)
   obtain ⟨b',hb1,hb2⟩:=hbs.get (Zof hlt)
   rw [Zof hlb] at hb1
   have hb1:=Zpn hb1
   subst hb1
   have hslv:Bs sl=Bs sl:=rfl
   have hsget:(Bs sl)[i]?=some (.int .i64 sl[i]):=by unfold Bs;rw [Zpe,Zof hls];rfl
   have huget:us[i]?=some us[i]:=Zof hlt
   revert htk hsi hbi hb2 hsget huget
   generalize sl[i]=s
   generalize bs[i]=b
   generalize us[i]=u
   intro htk hsi hbi hb2 hsget huget
   obtain ⟨w0,wt,hw⟩:∃ w0 wt,BT b=w0::wt:=by
    have:=Ip (b:=b) (by omega)
    cases hq:BT b with
    | nil=>rw [hq] at this;simp at this
    | cons a l=>exact ⟨a,l,rfl⟩
   have hwl:wt.length=127:=by have:=Ip (b:=b) (by omega);rw [hw] at this;simpa using this
   have hwb:=Km hb2.2
   rw [hw] at hwb
   rcases i with _|i
   ·conv=>whnf
    refine Ag rfl rfl (fun h=>?_) (fun h=>by omega);conv=>whnf
    refine A8 rfl hbl.sl rfl hlt ?_;conv=>whnf
    refine EHead.mk (v:=u) (by rw [Zpi,Zoq,Zpo];exact huget) ?_;conv=>whnf
    refine A8 rfl hsl rfl hls ?_;conv=>whnf
    refine EHead.mk (v:=.int .i64 s) (by rw [Zpi,Zoq,Zpo];exact hsget) ?_;conv=>whnf
    refine ECall.inl h88.O h88.G ?_;conv=>whnf
    refine ESc.inl h89 ?_;conv=>whnf
    refine LF (n:=127) rfl rfl (by decide) ?_;conv=>whnf
    refine L9 (l:=Ab b) (n:=b.length) rfl rfl hb2.1 (by omega) (PT rfl (by omega)) (fun S hS=>?_)
    rcases hS with ⟨rfl,h0⟩|rfl
    ·have hb0:b=[]:=List.map_eq_nil_iff.1 h0
     have h00:0=w0∧List.replicate 127 0=wt:=by
      rw [hb0] at hw
      have hw:(0::List.replicate 127 0:List Nat)=w0::wt:=hw
      injection hw with q1 q2
      exact ⟨q1,q2⟩
     obtain ⟨rfl,rfl⟩:=h00
     conv=>whnf
     refine Cy rfl rfl (by omega) (by omega) ?_;conv=>whnf
     refine B2 rfl rfl (fun hc=>absurd hc (by decide)) (fun hc=>?_)
     have hbq:Cf b=false:=by rw [hb0];rfl
     have hsw:AQ b=0::List.replicate 127 0:=by rw [hb0];rfl
     conv=>whnf
     repeat' (first|(refine w14 (q':=.u8) rfl (GC (by omega)) ?_;conv=>whnf)|fail)
     refine ESc.inl h67 ?_;conv=>whnf
     refine ESc.ov h107 (G0 (e:=5) (bs:=AQ b) (by rw [hsw];rfl) (Gq (by omega)) (Gw hb2.2)) ?_;conv=>whnf
     repeat' (first|(refine Cl (m:=1) rfl rfl rfl rfl (by decide) (by decide) ?_;conv=>whnf)|(refine BX (m:=1) rfl rfl rfl rfl (by first|(rw [ER,hRl])|(rw [hLl];omega)) rfl (by decide) (by omega) ?_;conv=>whnf)|((first|refine w7 rfl rfl (by omega) ?_|refine ⟨rfl,?_⟩);conv=>whnf)|fail)
     refine ⟨0+1,by omega,by omega,?_⟩
     rw [htk,Zo4,Zo4]
     refine HG (i:=0) (R:=(List.map Br (Z.take 0))) (L:=(List.map Bp (Z.take 0))) (p:=(s,b)) (rs:=[0,1,2,3,7,8,4]) rfl (KC hbv) hCf hDf (BY _) ⟨by decide,⟨r9,r9,r9,r9,t9,r9,r9,trivial⟩,⟨o9,o9,r9,r9,⟨AD (Cp _),?_⟩,⟨?_,?_⟩,⟨AD (AJ _),by rw [Az (AJ _),hsw];rfl⟩,trivial⟩⟩
     ·rw [Az (Cp _),Gs]
      show _=some (AObj.row 140 (Ax (List.map Br (Z.take 0))++[.int .u8 s,.bool (Cf b),.int .u32 _]))
      rw [hbq];rfl
     ·show AB _ ((List.map Bp (Z.take 0))++[_])=true
      rw [CG (BY _)];rfl
     ·show _=some (AObj.row 41 (At _ ((List.map Bp (Z.take 0))++[_])))
      rw [CF (BY _)];rfl
    ·rw [hw]
     conv=>whnf
     refine Cy rfl rfl (by omega) (by omega) ?_;conv=>whnf
     refine B2 rfl rfl (fun hc=>?_) (fun hc=>?_)
     ·have hw78:w0=78:=by have:((w0:Nat):Int)=78:=hc
                          omega
      have hbq:Cf b=true:=by unfold Cf;rw [hw];simp [hw78]
      have hsw:AQ b=0::wt:=by unfold AQ;rw [Zoj hbq,hw];rfl
      conv=>whnf
      refine Cy rfl rfl (by omega) (by omega) ?_;conv=>whnf
      repeat' (first|(refine w14 (q':=.u8) rfl (GC (by omega)) ?_;conv=>whnf)|fail)
      refine ESc.inl h67 ?_;conv=>whnf
      refine ESc.ov h107 (G0 (e:=5) (bs:=AQ b) (by rw [hsw];rfl) (Gq (by omega)) (Gw hb2.2)) ?_;conv=>whnf
      repeat' (first|(refine Cl (m:=1) rfl rfl rfl rfl (by decide) (by decide) ?_;conv=>whnf)|(refine BX (m:=1) rfl rfl rfl rfl (by first|(rw [ER,hRl])|(rw [hLl];omega)) rfl (by decide) (by omega) ?_;conv=>whnf)|((first|refine w7 rfl rfl (by omega) ?_|refine ⟨rfl,?_⟩);conv=>whnf)|fail)
      refine ⟨0+1,by omega,by omega,?_⟩
      rw [htk,Zo4,Zo4]
      refine HG (i:=0) (R:=(List.map Br (Z.take 0))) (L:=(List.map Bp (Z.take 0))) (p:=(s,b)) (rs:=[0,1,2,3,7,8,4]) rfl (KC hbv) hCf hDf (BY _) ⟨by decide,⟨r9,r9,r9,r9,t9,r9,r9,trivial⟩,⟨o9,o9,r9,r9,⟨AD (Cp _),?_⟩,⟨?_,?_⟩,⟨AD (AJ _),by rw [Az (AJ _),hsw];rfl⟩,trivial⟩⟩
      ·rw [Az (Cp _),Gs]
       show _=some (AObj.row 140 (Ax (List.map Br (Z.take 0))++[.int .u8 s,.bool (Cf b),.int .u32 _]))
       rw [hbq];rfl
      ·show AB _ ((List.map Bp (Z.take 0))++[_])=true
       rw [CG (BY _)];rfl
      ·show _=some (AObj.row 41 (At _ ((List.map Bp (Z.take 0))++[_])))
       rw [CF (BY _)];rfl
     ·have hw78:w0≠78:=by have:¬ ((w0:Nat):Int)=78:=hc
                          omega
      have hbq:Cf b=false:=by unfold Cf;rw [hw];simp [hw78]
      have hsw:AQ b=w0::wt:=by unfold AQ;rw [hbq,hw];rfl
      conv=>whnf
      repeat' (first|(refine w14 (q':=.u8) rfl (GC (by omega)) ?_;conv=>whnf)|fail)
      refine ESc.inl h67 ?_;conv=>whnf
      refine ESc.ov h107 (G0 (e:=5) (bs:=AQ b) (by rw [hsw];rfl) (Gq (by omega)) (Gw hb2.2)) ?_;conv=>whnf
      repeat' (first|(refine Cl (m:=1) rfl rfl rfl rfl (by decide) (by decide) ?_;conv=>whnf)|(refine BX (m:=1) rfl rfl rfl rfl (by first|(rw [ER,hRl])|(rw [hLl];omega)) rfl (by decide) (by omega) ?_;conv=>whnf)|((first|refine w7 rfl rfl (by omega) ?_|refine ⟨rfl,?_⟩);conv=>whnf)|fail)
      refine ⟨0+1,by omega,by omega,?_⟩
      rw [htk,Zo4,Zo4]
      refine HG (i:=0) (R:=(List.map Br (Z.take 0))) (L:=(List.map Bp (Z.take 0))) (p:=(s,b)) (rs:=[0,1,2,3,7,8,4]) rfl (KC hbv) hCf hDf (BY _) ⟨by decide,⟨r9,r9,r9,r9,t9,r9,r9,trivial⟩,⟨o9,o9,r9,r9,⟨AD (Cp _),?_⟩,⟨?_,?_⟩,⟨AD (AJ _),by rw [Az (AJ _),hsw];rfl⟩,trivial⟩⟩
      ·rw [Az (Cp _),Gs]
       show _=some (AObj.row 140 (Ax (List.map Br (Z.take 0))++[.int .u8 s,.bool (Cf b),.int .u32 _]))
       rw [hbq];rfl
      ·show AB _ ((List.map Bp (Z.take 0))++[_])=true
       rw [CG (BY _)];rfl
      ·show _=some (AObj.row 41 (At _ ((List.map Bp (Z.take 0))++[_])))
       rw [CF (BY _)];rfl
   ·have hRl:((Z.take (i+1)).map Br).length=i+1:=by simp;omega
    have hLl:((Z.take (i+1)).map Bp).length=i+1:=by simp;omega
    have hul:=hbl.len
    dsimp only at hul
    conv=>whnf
    refine Ag rfl rfl (fun h=>?_) (fun h=>by omega);conv=>whnf
    refine A8 rfl hbl.sl rfl hlt ?_;conv=>whnf
    refine EHead.mk (v:=u) (by rw [Zpi,Zoq,Zpo];exact huget) ?_;conv=>whnf
    refine A8 rfl hsl rfl hls ?_;conv=>whnf
    refine EHead.mk (v:=.int .i64 s) (by rw [Zpi,Zoq,Zpo];exact hsget) ?_;conv=>whnf
    refine ECall.inl h88.O h88.G ?_;conv=>whnf
    refine ESc.inl h89 ?_;conv=>whnf
    refine LF (n:=127) rfl rfl (by decide) ?_;conv=>whnf
    refine L9 (l:=Ab b) (n:=b.length) rfl rfl hb2.1 (by omega) (PT rfl (by omega)) (fun S hS=>?_)
    rcases hS with ⟨rfl,h0⟩|rfl
    ·have hb0:b=[]:=List.map_eq_nil_iff.1 h0
     have h00:0=w0∧List.replicate 127 0=wt:=by
      rw [hb0] at hw
      have hw:(0::List.replicate 127 0:List Nat)=w0::wt:=hw
      injection hw with q1 q2
      exact ⟨q1,q2⟩
     obtain ⟨rfl,rfl⟩:=h00
     conv=>whnf
     refine Cy rfl rfl (by omega) (by omega) ?_;conv=>whnf
     refine B2 rfl rfl (fun hc=>absurd hc (by decide)) (fun hc=>?_)
     have hbq:Cf b=false:=by rw [hb0];rfl
     have hsw:AQ b=0::List.replicate 127 0:=by rw [hb0];rfl
     conv=>whnf
     repeat' (first|(refine w14 (q':=.u8) rfl (GC (by omega)) ?_;conv=>whnf)|fail)
     refine ESc.inl h67 ?_;conv=>whnf
     refine ESc.ov h107 (G0 (e:=5) (bs:=AQ b) (by rw [hsw];rfl) (Gq (by omega)) (Gw hb2.2)) ?_;conv=>whnf
     repeat' (first|(refine Cl (m:=1) rfl rfl rfl rfl (by decide) (by decide) ?_;conv=>whnf)|(refine BX (m:=1) rfl rfl rfl rfl (by first|(rw [ER,hRl])|(rw [hLl];omega)) rfl (by decide) (by omega) ?_;conv=>whnf)|((first|refine w7 rfl rfl (by omega) ?_|refine ⟨rfl,?_⟩);conv=>whnf)|fail)
     refine ⟨i+1+1,by omega,by omega,?_⟩
     rw [htk,Zo4,Zo4]
     refine HG (i:=i+1) (R:=(List.map Br (Z.take (i+1)))) (L:=(List.map Bp (Z.take (i+1)))) (p:=(s,b)) (rs:=[0,1,2,3,9,10,6]) rfl (KC hbv) hCf hDf (BY _) ⟨by decide,⟨r9,r9,r9,r9,t9,r9,r9,trivial⟩,⟨o9,o9,r9,r9,⟨AD (Cp _),?_⟩,⟨?_,?_⟩,⟨AD (AJ _),by rw [Az (AJ _),hsw];rfl⟩,trivial⟩⟩
     ·rw [Az (Cp _),Gs]
      show _=some (AObj.row 140 (Ax (List.map Br (Z.take (i+1)))++[.int .u8 s,.bool (Cf b),.int .u32 _]))
      rw [hbq];rfl
     ·show AB _ ((List.map Bp (Z.take (i+1)))++[_])=true
      rw [CG (BY _)];rfl
     ·show _=some (AObj.row 41 (At _ ((List.map Bp (Z.take (i+1)))++[_])))
      rw [CF (BY _)];rfl
    ·rw [hw]
     conv=>whnf
     refine Cy rfl rfl (by omega) (by omega) ?_;conv=>whnf
     refine B2 rfl rfl (fun hc=>?_) (fun hc=>?_)
     ·have hw78:w0=78:=by have:((w0:Nat):Int)=78:=hc
                          omega
      have hbq:Cf b=true:=by unfold Cf;rw [hw];simp [hw78]
      have hsw:AQ b=0::wt:=by unfold AQ;rw [Zoj hbq,hw];rfl
      conv=>whnf
      refine Cy rfl rfl (by omega) (by omega) ?_;conv=>whnf
      repeat' (first|(refine w14 (q':=.u8) rfl (GC (by omega)) ?_;conv=>whnf)|fail)
      refine ESc.inl h67 ?_;conv=>whnf
      refine ESc.ov h107 (G0 (e:=5) (bs:=AQ b) (by rw [hsw];rfl) (Gq (by omega)) (Gw hb2.2)) ?_;conv=>whnf
      repeat' (first|(refine Cl (m:=1) rfl rfl rfl rfl (by decide) (by decide) ?_;conv=>whnf)|(refine BX (m:=1) rfl rfl rfl rfl (by first|(rw [ER,hRl])|(rw [hLl];omega)) rfl (by decide) (by omega) ?_;conv=>whnf)|((first|refine w7 rfl rfl (by omega) ?_|refine ⟨rfl,?_⟩);conv=>whnf)|fail)
      refine ⟨i+1+1,by omega,by omega,?_⟩
      rw [htk,Zo4,Zo4]
      refine HG (i:=i+1) (R:=(List.map Br (Z.take (i+1)))) (L:=(List.map Bp (Z.take (i+1)))) (p:=(s,b)) (rs:=[0,1,2,3,9,10,6]) rfl (KC hbv) hCf hDf (BY _) ⟨by decide,⟨r9,r9,r9,r9,t9,r9,r9,trivial⟩,⟨o9,o9,r9,r9,⟨AD (Cp _),?_⟩,⟨?_,?_⟩,⟨AD (AJ _),by rw [Az (AJ _),hsw];rfl⟩,trivial⟩⟩
      ·rw [Az (Cp _),Gs]
       show _=some (AObj.row 140 (Ax (List.map Br (Z.take (i+1)))++[.int .u8 s,.bool (Cf b),.int .u32 _]))
       rw [hbq];rfl
      ·show AB _ ((List.map Bp (Z.take (i+1)))++[_])=true
       rw [CG (BY _)];rfl
      ·show _=some (AObj.row 41 (At _ ((List.map Bp (Z.take (i+1)))++[_])))
       rw [CF (BY _)];rfl
     ·have hw78:w0≠78:=by have:¬ ((w0:Nat):Int)=78:=hc
                          omega
      have hbq:Cf b=false:=by unfold Cf;rw [hw];simp [hw78]
      have hsw:AQ b=w0::wt:=by unfold AQ;rw [hbq,hw];rfl
      conv=>whnf
      repeat' (first|(refine w14 (q':=.u8) rfl (GC (by omega)) ?_;conv=>whnf)|fail)
      refine ESc.inl h67 ?_;conv=>whnf
      refine ESc.ov h107 (G0 (e:=5) (bs:=AQ b) (by rw [hsw];rfl) (Gq (by omega)) (Gw hb2.2)) ?_;conv=>whnf
      repeat' (first|(refine Cl (m:=1) rfl rfl rfl rfl (by decide) (by decide) ?_;conv=>whnf)|(refine BX (m:=1) rfl rfl rfl rfl (by first|(rw [ER,hRl])|(rw [hLl];omega)) rfl (by decide) (by omega) ?_;conv=>whnf)|((first|refine w7 rfl rfl (by omega) ?_|refine ⟨rfl,?_⟩);conv=>whnf)|fail)
      refine ⟨i+1+1,by omega,by omega,?_⟩
      rw [htk,Zo4,Zo4]
      refine HG (i:=i+1) (R:=(List.map Br (Z.take (i+1)))) (L:=(List.map Bp (Z.take (i+1)))) (p:=(s,b)) (rs:=[0,1,2,3,9,10,6]) rfl (KC hbv) hCf hDf (BY _) ⟨by decide,⟨r9,r9,r9,r9,t9,r9,r9,trivial⟩,⟨o9,o9,r9,r9,⟨AD (Cp _),?_⟩,⟨?_,?_⟩,⟨AD (AJ _),by rw [Az (AJ _),hsw];rfl⟩,trivial⟩⟩
      ·rw [Az (Cp _),Gs]
       show _=some (AObj.row 140 (Ax (List.map Br (Z.take (i+1)))++[.int .u8 s,.bool (Cf b),.int .u32 _]))
       rw [hbq];rfl
      ·show AB _ ((List.map Bp (Z.take (i+1)))++[_])=true
       rw [CG (BY _)];rfl
      ·show _=some (AObj.row 41 (At _ ((List.map Bp (Z.take (i+1)))++[_])))
       rw [CF (BY _)];rfl
  ·have htZ:Z.take i=Z:=Zoo (by omega)
   rw [htZ]
   have fin2:∀ (M:List (Int×List Nat)) (n:Nat),X.d.prs=M→M.length=n→W P 0 none WO (Am JW) (Ac St0 (osC [.int .u32 id,.int .i64 mb,.int .i64 ch,.int .i64 ro,.int .i64 lo,.int .i64 he] [.int .i64 st,sv,bv,pv] id ag sq st (M.map Br) (M.map Bp) n)) [] (Bx [.tmp 8,.tmp 9] (fun w s'=>Frz s' w (Hl X))):=by
    intro M n hM hn
    have hpo:∀ p ∈ M,(0≤p.1∧p.1<256)∧∀ b ∈ p.2,b<256:=by
     have:=WQ hd hslo
     rw [hX] at hM
     intro p hp
     exact this p (by rw [← hM] at hp;exact hp)
    have hn0:0<n∧n<100:=by
     have:M.length=us.length∨M.length=us.length+1:=by
      have e:M=sl.zip bs++(if pb.length=0 then [] else [(255,pb)]):=by rw [← hM,hX];rfl
      rw [e,Zot,← hZ,hZl]
      split
      ·exact .inl rfl
      ·exact .inr rfl
     omega
    have hnt:X.note=⟨id,ag,sq,st,.nils,M.map Br⟩:=by unfold BD.note;rw [hM,hX]
    refine Zet hE h90 h91 ⟨hco.id,ha,hq,hst,.inr (.inr ⟨none,by show AV.fz n none _=.fz (M.map Br).length none _;rw [Zom,hn],ER _⟩),?_,by show (M.map Br).length<_;rw [Zom];omega⟩ (by rw [Zom];exact hn) (by rw [Zom];exact hn) hn0.1 (by omega) (BY _) _ ?_
    ·intro r hr
     obtain ⟨p,hp,rfl⟩:=Zpf.1 hr
     exact QS (hpo p hp)
    ·intro s v hv
     rw [hout,hnt,hM,hn]
     exact hv
   obtain ⟨j,rfl⟩:∃ j,i=j+1:=⟨i-1,by omega⟩
   have hRl:(Z.map Br).length=j+1:=by simp;omega
   have hLl:(Z.map Bp).length=j+1:=by simp;omega
   conv=>whnf
   refine Ag rfl rfl (fun h=>by omega) (fun h=>?_);conv=>whnf
   refine Av hE ?_;conv=>whnf
   refine Af rfl hp ?_;conv=>whnf
   refine Dm rfl rfl (fun h=>?_) (fun h=>?_)
   ·have hpl:pb.length=128:=by omega
    have hb2:=hpb
    have hfl2:hfs (Z.map Bp++[Bp (255,pb)])=true:=by
     have:=BY (Z++[(255,pb)])
     rwa [Zo4] at this
    have hpr:X.d.prs=Z++[(255,pb)]:=by rw [hX,hZ];show _++(if pb.length=0 then _ else _)=_;rw [Zon (by omega)]
    obtain ⟨w0,wt,hw⟩:∃ w0 wt,BT pb=w0::wt:=by
     have:=Ip (b:=pb) (by omega)
     cases hq:BT pb with
     | nil=>rw [hq] at this;simp at this
     | cons a l=>exact ⟨a,l,rfl⟩
    have hwl:wt.length=127:=by have:=Ip (b:=pb) (by omega);rw [hw] at this;simpa using this
    have hwb:=Km hb2.2
    rw [hw] at hwb
    conv=>whnf
    refine ECall.inl h88.O h88.G ?_;conv=>whnf
    refine ESc.inl h89 ?_;conv=>whnf
    refine LF (n:=127) rfl rfl (by decide) ?_;conv=>whnf
    refine L9 (l:=Ab pb) (n:=pb.length) rfl rfl hb2.1 (by omega) (PT rfl (by omega)) (fun S hS=>?_)
    rcases hS with ⟨rfl,h0⟩|rfl
    ·have hb0:pb=[]:=List.map_eq_nil_iff.1 h0
     have h00:0=w0∧List.replicate 127 0=wt:=by
      rw [hb0] at hw
      have hw:(0::List.replicate 127 0:List Nat)=w0::wt:=hw
      injection hw with q1 q2
      exact ⟨q1,q2⟩
     obtain ⟨rfl,rfl⟩:=h00
     conv=>whnf
     refine Cy rfl rfl (by omega) (by omega) ?_;conv=>whnf
     refine B2 rfl rfl (fun hc=>absurd hc (by decide)) (fun hc=>?_)
     have hbq:Cf pb=false:=by rw [hb0];rfl
     have hsw:AQ pb=0::List.replicate 127 0:=by rw [hb0];rfl
     conv=>whnf
     repeat' (first|(refine w14 (q':=.u8) rfl (GC (by omega)) ?_;conv=>whnf)|fail)
     refine ESc.inl h67 ?_;conv=>whnf
     refine ESc.ov h107 (G0 (e:=5) (bs:=AQ pb) (by rw [hsw];rfl) (Gq (by omega)) (Gw hb2.2)) ?_;conv=>whnf
     repeat' (first|(refine Cl (m:=1) rfl rfl rfl rfl (by decide) (by decide) ?_;conv=>whnf)|(refine BX (m:=1) rfl rfl rfl rfl (by first|(rw [ER,hRl])|(rw [hLl];omega)) rfl (by decide) (by omega) ?_;conv=>whnf)|(refine ⟨rfl,?_⟩;conv=>whnf)|fail)
     refine W.tells ((HG (tl:=JW) (i:=j+1) (R:=Z.map Br) (L:=Z.map Bp) (p:=(255,pb)) (rs:=[0,1,2,3,9,10,6]) rfl rfl hCf hDf (BY _) ⟨by decide,⟨r9,r9,trivial⟩,⟨o9,o9,r9,r9,⟨AD (Cp _),?_⟩,⟨?_,?_⟩,⟨AD (AJ _),by rw [Az (AJ _),hsw];rfl⟩,trivial⟩⟩).trans (NI hCf hDf hfl2 rfl rfl)) (by have:=fin2 _ (j+1+1) hpr (by simp;omega);rwa [Zo4,Zo4] at this)
     ·rw [Az (Cp _),Gs]
      show _=some (AObj.row 140 (Ax (Z.map Br)++[.int .u8 255,.bool (Cf pb),.int .u32 _]))
      rw [hbq];rfl
     ·show AB _ (Z.map Bp++[_])=true
      rw [CG (BY _)];rfl
     ·show _=some (AObj.row 41 (At _ (Z.map Bp++[_])))
      rw [CF (BY _)];rfl
    ·rw [hw]
     conv=>whnf
     refine Cy rfl rfl (by omega) (by omega) ?_;conv=>whnf
     refine B2 rfl rfl (fun hc=>?_) (fun hc=>?_)
     ·have hw78:w0=78:=by have:((w0:Nat):Int)=78:=hc
                          omega
      have hbq:Cf pb=true:=by unfold Cf;rw [hw];simp [hw78]
      have hsw:AQ pb=0::wt:=by unfold AQ;rw [Zoj hbq,hw];rfl
      conv=>whnf
      refine Cy rfl rfl (by omega) (by omega) ?_;conv=>whnf
      repeat' (first|(refine w14 (q':=.u8) rfl (GC (by omega)) ?_;conv=>whnf)|fail)
      refine ESc.inl h67 ?_;conv=>whnf
      refine ESc.ov h107 (G0 (e:=5) (bs:=AQ pb) (by rw [hsw];rfl) (Gq (by omega)) (Gw hb2.2)) ?_;conv=>whnf
      repeat' (first|(refine Cl (m:=1) rfl rfl rfl rfl (by decide) (by decide) ?_;conv=>whnf)|(refine BX (m:=1) rfl rfl rfl rfl (by first|(rw [ER,hRl])|(rw [hLl];omega)) rfl (by decide) (by omega) ?_;conv=>whnf)|(refine ⟨rfl,?_⟩;conv=>whnf)|fail)
      refine W.tells ((HG (tl:=JW) (i:=j+1) (R:=Z.map Br) (L:=Z.map Bp) (p:=(255,pb)) (rs:=[0,1,2,3,9,10,6]) rfl rfl hCf hDf (BY _) ⟨by decide,⟨r9,r9,trivial⟩,⟨o9,o9,r9,r9,⟨AD (Cp _),?_⟩,⟨?_,?_⟩,⟨AD (AJ _),by rw [Az (AJ _),hsw];rfl⟩,trivial⟩⟩).trans (NI hCf hDf hfl2 rfl rfl)) (by have:=fin2 _ (j+1+1) hpr (by simp;omega);rwa [Zo4,Zo4] at this)
      ·rw [Az (Cp _),Gs]
       show _=some (AObj.row 140 (Ax (Z.map Br)++[.int .u8 255,.bool (Cf pb),.int .u32 _]))
       rw [hbq];rfl
      ·show AB _ (Z.map Bp++[_])=true
       rw [CG (BY _)];rfl
      ·show _=some (AObj.row 41 (At _ (Z.map Bp++[_])))
       rw [CF (BY _)];rfl
     ·have hw78:w0≠78:=by have:¬ ((w0:Nat):Int)=78:=hc
                          omega
      have hbq:Cf pb=false:=by unfold Cf;rw [hw];simp [hw78]
      have hsw:AQ pb=w0::wt:=by unfold AQ;rw [hbq,hw];rfl
      conv=>whnf
      repeat' (first|(refine w14 (q':=.u8) rfl (GC (by omega)) ?_;conv=>whnf)|fail)
      refine ESc.inl h67 ?_;conv=>whnf
      refine ESc.ov h107 (G0 (e:=5) (bs:=AQ pb) (by rw [hsw];rfl) (Gq (by omega)) (Gw hb2.2)) ?_;conv=>whnf
      repeat' (first|(refine Cl (m:=1) rfl rfl rfl rfl (by decide) (by decide) ?_;conv=>whnf)|(refine BX (m:=1) rfl rfl rfl rfl (by first|(rw [ER,hRl])|(rw [hLl];omega)) rfl (by decide) (by omega) ?_;conv=>whnf)|(refine ⟨rfl,?_⟩;conv=>whnf)|fail)
      refine W.tells ((HG (tl:=JW) (i:=j+1) (R:=Z.map Br) (L:=Z.map Bp) (p:=(255,pb)) (rs:=[0,1,2,3,9,10,6]) rfl rfl hCf hDf (BY _) ⟨by decide,⟨r9,r9,trivial⟩,⟨o9,o9,r9,r9,⟨AD (Cp _),?_⟩,⟨?_,?_⟩,⟨AD (AJ _),by rw [Az (AJ _),hsw];rfl⟩,trivial⟩⟩).trans (NI hCf hDf hfl2 rfl rfl)) (by have:=fin2 _ (j+1+1) hpr (by simp;omega);rwa [Zo4,Zo4] at this)
      ·rw [Az (Cp _),Gs]
       show _=some (AObj.row 140 (Ax (Z.map Br)++[.int .u8 255,.bool (Cf pb),.int .u32 _]))
       rw [hbq];rfl
      ·show AB _ (Z.map Bp++[_])=true
       rw [CG (BY _)];rfl
      ·show _=some (AObj.row 41 (At _ (Z.map Bp++[_])))
       rw [CF (BY _)];rfl
   ·have hpr:X.d.prs=Z:=by rw [hX,hZ];show _++(if pb.length=0 then _ else _)=_;rw [Zoj (by omega),Zpq]
    conv=>whnf
    exact W.tells (NI hCf hDf (BY _) rfl rfl) (fin2 _ _ hpr (by omega))
 ·rw [Zon hG] at hout ⊢
  conv=>whnf
  repeat' (first|((refine w6 rfl rfl ?_ ?_) <;> intro _ <;> first|(exfalso;omega)|(conv=>whnf))|fail)
  exact ⟨.inr rfl,_,_,rfl,rfl,by rw [hout];exact .plain _ rfl⟩
def DB.n (d:DB):Nat:=d.prs.length+1
theorem M1 {c:Cfg}{d:DB}(hM:c.may) (h:DC c d.d=true):2≤d.n∧(d.n:Int)≤c.members+1:=by
 unfold DC at h
 simp only [Zoh,Zpc,Bool.not_eq_true'] at h
 obtain ⟨⟨⟨⟨_,_⟩,hs⟩,hb⟩,_⟩:=h
 have h0:=Ny hs
 have h1:=Nz hs
 have hb:d.bs.length=d.sl.length:=by simpa [DB.d] using hb
 have h0:0<d.sl.length:=h0
 have h1:(d.sl.length:Int)≤c.members-2+1:=h1
 have e:d.prs.length=d.sl.length+(if d.pb.length=0 then 0 else 1):=by
  unfold DB.prs
  rw [Zot,List.length_zip]
  split <;> simp <;> omega
 unfold DB.n
 rw [e]
 split <;> constructor <;> omega
end Go.AM
namespace Go.AM
open X
variable {s:St}{v:AV}{bs:List Nat}
theorem ED (h:Sl 1 bs.length (Ab bs) v) (hb:∀ b ∈ bs,b<256):BQ s v=some bs:=by
 rcases h with ⟨rfl,h0,_⟩|⟨rfl,h0,_⟩|⟨c,rfl,_⟩
 ·rw [Zpd.1 h0];rfl
 ·rw [Zpd.1 h0];rfl
 ·exact HA rfl hb
theorem EP {a z:Int}(h:BQ s v=some bs) (hl:¬ (bs.length≠0∧bs.length≠128)) (hf:Df a z=true):EZ [v,.int .i64 a,.int .i64 z] s=.ok (.tup [.int .i64 (Ak (Aa bs) a.toNat z.toNat:Nat),.int .i64 0]) s:=by
 show (Option.rec .fail (fun bs=>.ok (EG bs a z) s) (BQ s v):RV)=_
 rw [h]
 show RV.ok (EG bs a z) s=_
 unfold EG;rw [Zon hl,Zoj hf];rfl
variable {a:Nat}
theorem HL (hb:∀ b ∈ bs,b<256):∀ j,Ak bs a j<2^(8*j)
 | 0=>Nat.zero_lt_one
 | j+1=>by
  have hlt:bs.getD (a+j) 0<256:=by
   rw [Zo8]
   cases hq:bs[a+j]? with
   | none=>decide
   | some q=>exact hb q (Zo1 hq)
  have e8:8*(j+1)=8*j+8:=by omega
  refine Nat.or_lt_two_pow (Zp9 (HL hb j) (Nat.pow_le_pow_right (by decide) (by omega))) ?_
  rw [e8,Nat.pow_add,Nat.mul_comm]
  exact Nat.mul_lt_mul_of_pos_left hlt (Nat.two_pow_pos _)
theorem Hh (hb:∀ b ∈ bs,b<256):∀ b ∈ Aa bs,b<256:=by
 unfold Aa
 split
 ·intro b hb';rw [Zqe hb'];decide
 ·exact hb
theorem Fk (bs:List Nat) (a n:Nat):∀ (k i:Nat),(Aq bs a n k).getD i 0=if a≤i∧i<a+k∧i<bs.length then n / 2^(8*(i-a)) % 256 else bs.getD i 0
 | 0,i=>by rw [Zon (by omega)];rfl
 | k+1,i=>by
  have ih:=Fk bs a n k i
  show ((Aq bs a n k).set (a+k) (n / 2^(8*k) % 256)).getD i 0=_
  rw [Zo8,List.getElem?_set,Bt]
  by_cases h:a+k=i
  ·subst h
   rw [Zoj rfl]
   by_cases hl:a+k<bs.length
   ·rw [Zoj hl,Zoj ⟨by omega,by omega,hl⟩,show a+k-a=k by omega];rfl
   ·rw [Zon hl,Zon (by omega),Zo8,Zqi (by omega)]
  ·rw [Zon h,← Zo8,ih]
   by_cases h2:a≤i∧i<a+k∧i<bs.length
   ·rw [Zoj h2,Zoj ⟨h2.1,by omega,h2.2.2⟩]
   ·rw [Zon h2,Zon (by omega)]
theorem TU {bs:List Nat}{a n:Nat}:∀ (k:Nat),(∀ j,j<k→bs.getD (a+j) 0=n / 2^(8*j) % 256)→Ak bs a k=n % 2^(8*k)
 | 0,_=>by rw [Nat.mul_zero,Nat.pow_zero,Nat.mod_one];rfl
 | k+1,h=>by
  show Ak bs a k ||| bs.getD (a+k) 0*2^(8*k)=_
  rw [TU k (fun j hj=>h j (by omega)),h k (by omega),Nat.or_comm,Nat.mul_comm (n / 2^(8*k) % 256),← Nat.two_pow_add_eq_or_of_lt (Nat.mod_lt _ (Nat.two_pow_pos _)),show 8*(k+1)=8*k+8 by omega,Nat.pow_add,Nat.mod_mul,Nat.add_comm]
variable {n k:Nat}
theorem FN (hl:a+k≤bs.length) (hn:n<2^(8*k)):Ak (Aq bs a n k) a k=n:=by
 rw [TU (n:=n) k (fun j hj=>?_),Zqc hn]
 rw [Fk,Zoj ⟨by omega,by omega,by omega⟩,show a+j-a=j by omega]
theorem TT {bs cs:List Nat}{a:Nat}:∀ (k:Nat),(∀ j,j<k→bs.getD (a+j) 0=cs.getD (a+j) 0)→Ak bs a k=Ak cs a k
 | 0,_=>rfl
 | k+1,h=>by
  show Ak bs a k ||| bs.getD (a+k) 0*2^(8*k)=Ak cs a k ||| cs.getD (a+k) 0*2^(8*k)
  rw [TT k (fun j hj=>h j (by omega)),h k (by omega)]
theorem Cd {b m:Nat}(h:b+m≤a∨a+k≤b):Ak (Aq bs a n k) b m=Ak bs b m:=
 TT m fun j hj=>by rw [Fk,Zon (by omega)]
end Go.AM
namespace Go.AM
attribute [local irreducible] W
open X
structure UB where
 u:AV
 b:List Nat
structure UB.ok (x:UB):Prop where
 b:BAt x.u x.b
 l:x.b.length=0∨x.b.length=128
def C0 (B:List Nat):Nat:=min (Ak B 14 1) 17
def HT (B:List Nat) (i:Nat):Rc:=⟨(Ak B (15+6*i) 1:Int),decide ((Ak B (16+6*i) 1:Int)=1),(Ak B (17+6*i) 4:Int)⟩
def G6 (B:List Nat) (n:Nat):List Rc:=(List.range n).map (HT B)
def As (B:List Nat):Nt:=⟨(Ak B 1 4:Int),(Ak B 5 4:Int),(Ak B 9 4:Int),(Ak B 13 1:Int),.nils,G6 B (C0 B)⟩
def Cz (b:List Nat):Bool:=Bq (As (Aa b)) && decide (AN (As (Aa b))=b)
def Ew:List AV:=[.int .u32 0,.int .u32 0,.int .u32 0,.int .i64 0,.nils]
def Cw (n:Nt) (v:AV):List AV:=[.int .u32 n.id,.int .u32 n.age,.int .u32 n.seq,.int .i64 n.stripe,v]
def DP (x:UB):AV:=if Cz x.b=true then .tup [.agg (Cw (As (Aa x.b)) (.fz (C0 (Aa x.b)) none (Ax (As (Aa x.b)).recs))),.int .i64 0] else .tup [.agg Ew,.int .i64 90]
def ndF:Fam UB:=⟨UB.ok,fun x=>[x.u],DP,fun x y hx hy h=>by
 obtain ⟨u,b⟩:=x
 obtain ⟨u',b'⟩:=y
 have e:u=u':=(Zor h).1
 subst e
 have:=hx.b.inj hy.b
 dsimp only at this
 rw [this]⟩
theorem US (x:UB):AM.hf (DP x)=true:=by unfold DP;split <;> rfl
def Ph:AC:=match a26 with|.mk c _=>c
def Zm2:AC:=match a63 with|.mk c _=>c
def Sy:AC:=match E2 Ph with|some (a,_)=>a|none=>.skip
def Sj:AC:=match E2 Ph with|some (_,b)=>b|none=>.skip
def Zls:AC:=match Ph with
 | .seq _ (.seq _ (.seq _ (.seq _ (.seq _ (.seq _ (.seq _ (.seq _ (.seq _ r))))))))=>r
 | _=>.skip
def MX (u:AV):List (Nat×AV):=[(0,u),(2,.ptr 0 0),(6,.ptr 2 0),(7,.ptr 3 0),(43,.fn 92 [] [.ptr 4 0])]
noncomputable def osR (u:AV) (at_:Int) (id ag sq st:Int) (n:Nat) (R:List Rc):Nat→List AObj
 | 0=>[.row 87 Ew,.row 135 [u,.int .i64 at_],.row 132 [.fn 63 [.ptr 1 0] []],.row 87 [.int .u32 id,.int .u32 ag,.int .u32 sq,.int .i64 st,.nils],.row 3 [.int .i64 (n:Int)],.defd,.loop .ready none 0 (Am (MX u)) [44,45] Sy Sj 5]
 | i+1=>[.row 87 Ew,.row 135 [u,.int .i64 at_],.row 132 [.fn 63 [.ptr 1 0] []],.row 87 [.int .u32 id,.int .u32 ag,.int .u32 sq,.int .i64 st,.sl 7 0 (i+1) none],.row 3 [.int .i64 (n:Int)],.defd,.loop .ready none 0 (Am (MX u)) [44,45] Sy Sj 5,.row 140 (Ax R)]
def Yl (n:Nat) (R:List Rc):AV:=match n with
 | 0=>.nils
 | n+1=>.fz (n+1) none (Ax R)
variable {e:Env}
theorem Zh4 (hE:EM P e) (h90:Con e 65 nwF.O) {u:AV}{b:List Nat}(hb:BAt u b) (hl:b.length=0∨b.length=128) (K:AV→St→Prop) (hk:∀ s,K (DP ⟨u,b⟩) s):
 W P 0 none Zls (Am [(0,u),(2,.ptr 0 0),(7,.ptr 1 0)]) (Ac St0 [.row 87 Ew,.row 87 (Cw (As (Aa b)) (Yl (C0 (Aa b)) (As (Aa b)).recs)),.defd]) [2] (Bx [.cells 2 5,.tmp 3] K):=by
 have hpl:=Hh hb.2
 have n4:∀ a,Ak (Aa b) a 4<4294967296:=fun a=>HL hpl 4
 have n1:∀ a,Ak (Aa b) a 1<256:=fun a=>HL hpl 1
 obtain ⟨R,hR⟩:∃ R,R=(As (Aa b)).recs:=⟨_,rfl⟩
 have hRl:R.length=C0 (Aa b):=by rw [hR];show ((List.range _).map _).length=_;simp
 have hcnt:C0 (Aa b)≤17:=Nat.min_le_right _ _
 obtain ⟨v,hv⟩:∃ v,v=Yl (C0 (Aa b)) R:=⟨_,rfl⟩
 have hvs:Sl 3 R.length (Ax R) v:=by
  rw [hv,← hRl]
  cases hq:R with
  | nil=>exact .inl ⟨rfl,rfl,rfl⟩
  | cons r R'=>exact .inr (.inr ⟨none,rfl,ER _⟩)
 have hok:Nt.ok ⟨(As (Aa b)).id,(As (Aa b)).age,(As (Aa b)).seq,(As (Aa b)).stripe,v,R⟩:=by
  refine ⟨⟨Zpy _,Int.ofNat_lt.2 (n4 1)⟩,⟨Zpy _,Int.ofNat_lt.2 (n4 5)⟩,⟨Zpy _,Int.ofNat_lt.2 (n4 9)⟩,?_,hvs,?_,by dsimp only;omega⟩
  ·have:=n1 13
   show Aj ((Ak (Aa b) 13 1:Nat):Int)
   unfold Aj;omega
  ·intro r hr
   dsimp only at hr
   rw [hR] at hr
   obtain ⟨i,_,rfl⟩:=Zpf.1 (show r ∈ (List.range (C0 (Aa b))).map (HT (Aa b)) from hr)
   exact ⟨⟨Zpy _,Int.ofNat_lt.2 (n1 _)⟩,⟨Zpy _,Int.ofNat_lt.2 (n4 _)⟩⟩
 have hnb:Bq ⟨(As (Aa b)).id,(As (Aa b)).age,(As (Aa b)).seq,(As (Aa b)).stripe,v,R⟩=Bq (As (Aa b)):=by rw [hR];rfl
 have hnk:AN ⟨(As (Aa b)).id,(As (Aa b)).age,(As (Aa b)).seq,(As (Aa b)).stripe,v,R⟩=AN (As (Aa b)):=by
  rw [hR]
  exact QF _ _ _ _ _ _ _
 have hvf:=hvs.hf
 have hbk:(AN (As (Aa b))).length=128∧∀ x ∈ AN (As (Aa b)),x<256:=by
  unfold AN
  exact ⟨by rw [Bt];exact Jh _ _,Bb (Kt _ _) _⟩
 rw [← hR,← hv]
 have hO1:Bq (As (Aa b))=true→AN (As (Aa b))=b→DP ⟨u,b⟩=.tup [.agg (Cw (As (Aa b)) v),.int .i64 0]:=fun h1 h2=>by
  have:Cz b=true:=by unfold Cz;rw [h1,Zok h2];rfl
  unfold DP;rw [Zoj this]
  show AV.tup [.agg (Cw (As (Aa b)) (.fz (C0 (Aa b)) none (Ax (As (Aa b)).recs))),_]=_
  rw [hv,← hR]
  have h3:1≤C0 (Aa b):=by
   unfold Bq Hs at h1
   rw [Zoh] at h1
   have:=(Zpw h1.1).1.1
   rw [← hR,hRl] at this;exact this
  cases hq:C0 (Aa b) with
  | zero=>omega
  | succ n=>rfl
 have hO2:(Bq (As (Aa b))=true→AN (As (Aa b))≠b)→DP ⟨u,b⟩=.tup [.agg Ew,.int .i64 90]:=fun h1=>by
  have:¬ Cz b=true:=by
   unfold Cz
   rw [Zoh]
   rintro ⟨h2,h3⟩
   exact h1 h2 (Zpw h3)
  unfold DP;rw [Zon this]
 clear hv hR
 refine Fv hE ?_;conv=>whnf
 cases hN:Bq (As (Aa b))
 ·refine ESc.fam nwF h90 ⟨(As (Aa b)).id,(As (Aa b)).age,(As (Aa b)).seq,(As (Aa b)).stripe,v,R⟩ hok (u:=.tup [.nils,.int .i64 8]) (by show (if Bq _ then _ else _)=_;rw [hnb,hN];rfl) ?_
  rw [hO2 (fun h=>by rw [hN] at h;cases h)] at hk
  conv=>whnf
  repeat' (first|((refine w6 rfl rfl ?_ ?_) <;> intro _ <;> first|(exfalso;omega)|(conv=>whnf))|fail)
  exact hk _
 ·refine ESc.fam nwF h90 ⟨(As (Aa b)).id,(As (Aa b)).age,(As (Aa b)).seq,(As (Aa b)).stripe,v,R⟩ hok (u:=.tup [C5 (AN (As (Aa b))),.int .i64 0]) (by show (if Bq _ then _ else _)=_;rw [hnb,hN,Zoj rfl,← hnk];rfl) ?_;conv=>whnf
  repeat' (first|((refine w6 rfl rfl ?_ ?_) <;> intro _ <;> first|(exfalso;omega)|(conv=>whnf))|fail)
  refine Gt (bs:=AN (As (Aa b))) rfl (.inr (.inr ⟨some 128,rfl,by rw [Ba,hbk.1]⟩)) hbk.2 ?_;conv=>whnf
  refine Gt (bs:=b) rfl hb.1 hb.2 ?_;conv=>whnf
  refine Nw rfl rfl (fun h=>?_) (fun h=>?_)
  ·rw [hO2 (fun _=>h)] at hk
   conv=>whnf
   skip
   exact hk _
  ·rw [hO1 hN h] at hk
   conv=>whnf
   skip
   exact hk _
theorem Zl5 (hE:EM P e) (h86:Con e 62 EZ) (h99:Inl e 63 Zm2 [.tmp 4]) (h100:Inl e 64 Wz [.tmp 2]) (h90:Con e 65 nwF.O)
 : OvOk P 26 ndF.O:=by
 refine Bk g26.b fun x hx=>?_
 obtain ⟨u,b⟩:=x
 obtain ⟨hb,hl⟩:=hx
 dsimp only at hb hl
 have huf:=hb.1.hf
 have hl':¬ (b.length≠0∧b.length≠128):=by omega
 refine ⟨by show (AM.hf u && true)=true;rw [huf];rfl,US _,C.of_W g26.f g26.c ?_⟩
 have hpl:=Hh hb.2
 have n4:∀ a,Ak (Aa b) a 4<4294967296:=fun a=>HL hpl 4
 have n1:∀ a,Ak (Aa b) a 1<256:=fun a=>HL hpl 1
 obtain ⟨O,hO⟩:∃ O,O=DP ⟨u,b⟩:=⟨_,rfl⟩
 show W P 0 none Ph (Ah [u] 0 .lf) St0 [] (Bx [.cells 2 5,.tmp 3] (fun v s'=>Frz s' v (DP ⟨u,b⟩)))
 have hres:=Zh4 hE h90 hb hl (fun v s'=>Frz s' v (DP ⟨u,b⟩)) (fun s=>.plain _ (US _))
 refine Av hE ?_;conv=>whnf
 refine Av hE ?_;conv=>whnf
 refine ESc.ov h86 (EP (a:=0) (z:=1) (ED hb.1 hb.2) hl' (by decide)) ?_;conv=>whnf
 repeat' (first|((refine w6 rfl rfl ?_ ?_) <;> intro _ <;> first|(exfalso;omega)|(conv=>whnf))|fail)
 refine Av hE ?_;conv=>whnf
 refine AP [u,.int .i64 1] (by rcases hb.1 with ⟨rfl,_⟩|⟨rfl,_⟩|⟨c,rfl,_⟩ <;> rfl) ?_
 conv=>whnf
 refine Av hE ?_;conv=>whnf
 refine Av hE ?_;conv=>whnf
 refine ECall.inl h99.O h99.G ?_;conv=>whnf
 refine ESc.ov h86 (EP (a:=1) (z:=4) (ED hb.1 hb.2) hl' (by unfold Df;exact Zok (by omega))) ?_;conv=>whnf
 refine Bu (a:=1) (b:=4) rfl rfl (by omega) ?_;conv=>whnf
 repeat' (first|(refine EB (q':=.u32) rfl (G5 ⟨Zpy _,by have:=n4 (1:Int).toNat;exact Int.ofNat_lt.2 this⟩) ?_;conv=>whnf)|fail)
 refine Av hE ?_;conv=>whnf
 refine ECall.inl h99.O h99.G ?_;conv=>whnf
 refine ESc.ov h86 (EP (a:=1+4) (z:=4) (ED hb.1 hb.2) hl' (by unfold Df;exact Zok (by omega))) ?_;conv=>whnf
 refine Bu (a:=1+4) (b:=4) rfl rfl (by omega) ?_;conv=>whnf
 repeat' (first|(refine EB (q':=.u32) rfl (G5 ⟨Zpy _,by have:=n4 (1+4:Int).toNat;exact Int.ofNat_lt.2 this⟩) ?_;conv=>whnf)|fail)
 refine Av hE ?_;conv=>whnf
 refine ECall.inl h99.O h99.G ?_;conv=>whnf
 refine ESc.ov h86 (EP (a:=1+4+4) (z:=4) (ED hb.1 hb.2) hl' (by unfold Df;exact Zok (by omega))) ?_;conv=>whnf
 refine Bu (a:=1+4+4) (b:=4) rfl rfl (by omega) ?_;conv=>whnf
 repeat' (first|(refine EB (q':=.u32) rfl (G5 ⟨Zpy _,by have:=n4 (1+4+4:Int).toNat;exact Int.ofNat_lt.2 this⟩) ?_;conv=>whnf)|fail)
 refine Av hE ?_;conv=>whnf
 refine ECall.inl h99.O h99.G ?_;conv=>whnf
 refine ESc.ov h86 (EP (a:=1+4+4+4) (z:=1) (ED hb.1 hb.2) hl' (by unfold Df;exact Zok (by omega))) ?_;conv=>whnf
 refine Bu (a:=1+4+4+4) (b:=1) rfl rfl (by omega) ?_;conv=>whnf
 skip
 refine Av hE ?_;conv=>whnf
 refine ECall.inl h99.O h99.G ?_;conv=>whnf
 refine ESc.ov h86 (EP (a:=1+4+4+4+1) (z:=1) (ED hb.1 hb.2) hl' (by unfold Df;exact Zok (by omega))) ?_;conv=>whnf
 refine Bu (a:=1+4+4+4+1) (b:=1) rfl rfl (by omega) ?_;conv=>whnf
 obtain ⟨B,hB⟩:∃ B,B=Aa b:=⟨_,rfl⟩
 have hmin:min ((Ak (Aa b) (1+4+4+4+1:Int).toNat (1:Int).toNat:Nat):Int) 17=((C0 (Aa b):Nat):Int):=by
  show min ((Ak (Aa b) 14 1:Nat):Int) 17=((min (Ak (Aa b) 14 1) 17:Nat):Int)
  omega
 repeat' (first|(refine EPrim.min2 rfl ?_;rw [hmin];conv=>whnf)|fail)
 have hcnt:C0 (Aa b)≤17:=Nat.min_le_right _ _
 refine ESc.inl h100 ?_;conv=>whnf
 have hrf:∀ a:Int,hfs [u,.int .i64 a]=true:=fun a=>by show (AM.hf u && true)=true;rw [huf];rfl
 refine W.tells (Abs.tells (tl:=MX u) (os:=[.row 87 Ew,.row 135 [u,.int .i64 15],.row 132 [.fn 63 [.ptr 1 0] []],.row 87 [.int .u32 (Ak (Aa b) 1 4:Int),.int .u32 (Ak (Aa b) 5 4:Int),.int .u32 (Ak (Aa b) 9 4:Int),.int .i64 (Ak (Aa b) 13 1:Int),.nils],.row 3 [.int .i64 (C0 (Aa b):Int)]]) (rs:=[0,1,2,3,4])
  ⟨by decide,⟨t9,r9,r9,r9,r9,trivial⟩,⟨r9,o9 (hrf _),r9,r9,r9,trivial⟩⟩) ?_
 refine KU (f:=92) (first:=[]) (cap:=[.ptr 4 0]) g92.b rfl ?_ ?_
 ·intro q hq
  have hq:q<5:=hq
  rcases q with _|_|_|_|_|q
  ·exact .tmp 2 (.ptr 0 0) rfl rfl
  ·exact .cell 2 132 [.fn 63 [.ptr 1 0] []] 0 (.fn 63 [.ptr 1 0] []) (.tmp 6 (.ptr 2 0) rfl rfl) rfl rfl rfl
  ·exact .tmp 6 (.ptr 2 0) rfl rfl
  ·exact .tmp 7 (.ptr 3 0) rfl rfl
  ·exact .tmp 43 (.fn 92 [] [.ptr 4 0]) rfl rfl
  ·omega
 show C1 P 92 [.yld 6,.ptr 4 0] (Ac St0 (osR u 15 (Ak (Aa b) 1 4:Int) (Ak (Aa b) 5 4:Int) (Ak (Aa b) 9 4:Int) (Ak (Aa b) 13 1:Int) (C0 (Aa b)) [] 0)) (fun _ s'=>II 6 [5] (Am (MX u)) s' _)
 refine C1.of_G hE g92 ?_;conv=>whnf
 have hlb:∀ n,Ds 7 n (.loop .ready none 0 (Am (MX u)) [44,45] Sy Sj 5)=true:=fun n=>by rcases hb.1 with ⟨rfl,_⟩|⟨rfl,_⟩|⟨c,rfl,_⟩ <;> rfl
 refine Ce (k:=7) (α:=Nat) (fun i=>[(0,.yld 6),(1,.ptr 4 0),(3,.int .i64 (i:Int))]) (fun i=>osR u (15+6*(i:Int)) (Ak (Aa b) 1 4:Int) (Ak (Aa b) 5 4:Int) (Ak (Aa b) 9 4:Int) (Ak (Aa b) 13 1:Int) (C0 (Aa b)) (G6 (Aa b) i) i) (fun i=>C0 (Aa b)-i) (fun i=>i≤C0 (Aa b)) 0 (Zoy _)
  (AbsK.tells (rs:=[0,1,2,3,4,5,6]) ⟨rfl,by decide,⟨r9,r9,r9,trivial⟩,⟨r9,o9 (hrf _),r9,r9,r9,r9,⟨hlb _,rfl⟩,trivial⟩⟩) ?_
 intro i hi
 refine A9 hE ?_
 by_cases hlt:i<C0 (Aa b)
 ·have t1:(15+6*(i:Int)).toNat=15+6*i:=by omega
  have t2:(15+6*(i:Int)+1).toNat=16+6*i:=by omega
  have t3:(15+6*(i:Int)+1+1).toNat=17+6*i:=by omega
  have hrs:G6 (Aa b) (i+1)=G6 (Aa b) i++[HT (Aa b) i]:=by unfold G6;rw [List.range_succ,Zo4];rfl
  have hrl:(G6 (Aa b) i).length=i:=by unfold G6;simp
  have u1:=n1 (15+6*i)
  have u2:=n1 (16+6*i)
  have u3:=n4 (17+6*i)
  rcases i with _|i
  ·conv=>whnf
   refine Ag rfl rfl (fun _=>?_) (fun h=>by omega);conv=>whnf
   refine EA (a:=6) (b:=((0:Nat):Int)) rfl rfl (by omega) ?_;conv=>whnf
   refine Bu (a:=15) (b:=6*((0:Nat):Int)) rfl rfl (by omega) ?_;conv=>whnf
   refine ERound.mk ?_;conv=>whnf
   refine ECall.inl h99.O h99.G ?_;conv=>whnf
   refine ESc.ov h86 (EP (a:=15+6*((0:Nat):Int)) (z:=1) (ED hb.1 hb.2) hl' (by unfold Df;exact Zok (by omega))) ?_;conv=>whnf
   refine Bu (a:=15+6*((0:Nat):Int)) (b:=1) rfl rfl (by omega) ?_;conv=>whnf
   refine ECall.inl h99.O h99.G ?_;conv=>whnf
   refine ESc.ov h86 (EP (a:=15+6*((0:Nat):Int)+1) (z:=1) (ED hb.1 hb.2) hl' (by unfold Df;exact Zok (by omega))) ?_;conv=>whnf
   refine Bu (a:=15+6*((0:Nat):Int)+1) (b:=1) rfl rfl (by omega) ?_;conv=>whnf
   rw [t1,t2]
   skip
   refine EB (q':=.u8) (a:=((Ak (Aa b) (15+6*(0)) 1:Nat):Int)) rfl (GC (by omega)) ?_;conv=>whnf
   refine Q7 (a:=((Ak (Aa b) (16+6*(0)) 1:Nat):Int)) (b:=1) rfl rfl (fun q hq=>?_)
   obtain rfl:decide (((Ak (Aa b) (16+6*(0)) 1:Nat):Int)=1)=q:=by
    cases q with
    | true=>exact Zok (hq.1 rfl)
    | false=>exact Zow (fun h=>by have:=hq.2 h;cases this)
   conv=>whnf
   refine ECall.inl h99.O h99.G ?_;conv=>whnf
   refine ESc.ov h86 (EP (a:=15+6*((0:Nat):Int)+1+1) (z:=4) (ED hb.1 hb.2) hl' (by unfold Df;exact Zok (by omega))) ?_;conv=>whnf
   refine Bu (a:=15+6*((0:Nat):Int)+1+1) (b:=4) rfl rfl (by omega) ?_;conv=>whnf
   rw [t3]
   repeat' (first|(refine ⟨rfl,?_⟩;conv=>whnf)|fail)
   refine EB (q':=.u32) (a:=((Ak (Aa b) (17+6*(0)) 4:Nat):Int)) rfl (G5 (by omega)) ?_;conv=>whnf
   refine Cl (m:=1) rfl rfl rfl rfl (by decide) (by decide) ?_;conv=>whnf
   repeat' (first|((first|refine w7 rfl rfl (by omega) ?_|refine ⟨rfl,?_⟩);conv=>whnf)|fail)
   refine ⟨0+1,by omega,by omega,AbsK.tells (rs:=[0,1,2,3,4,5,6,8]) ⟨rfl,by decide,⟨r9,r9,r9,trivial⟩,⟨r9,⟨AD (hrf _),?_⟩,r9,r9,r9,r9,⟨hlb _,rfl⟩,⟨AD (Cp _),?_⟩,trivial⟩⟩⟩
   ·rw [Az (hrf _)]
    show _=some (AObj.row 135 [u,.int .i64 (15+6*((0+1:Nat):Int))])
    rw [show (15+6*((0+1:Nat):Int))=15+6*((0:Nat):Int)+1+1+4 by omega];rfl
   ·rw [Az (Cp _),hrs,Gs];rfl
  ·conv=>whnf
   refine Ag rfl rfl (fun _=>?_) (fun h=>by omega);conv=>whnf
   refine EA (a:=6) (b:=((i+1:Nat):Int)) rfl rfl (by omega) ?_;conv=>whnf
   refine Bu (a:=15) (b:=6*((i+1:Nat):Int)) rfl rfl (by omega) ?_;conv=>whnf
   refine ERound.mk ?_;conv=>whnf
   refine ECall.inl h99.O h99.G ?_;conv=>whnf
   refine ESc.ov h86 (EP (a:=15+6*((i+1:Nat):Int)) (z:=1) (ED hb.1 hb.2) hl' (by unfold Df;exact Zok (by omega))) ?_;conv=>whnf
   refine Bu (a:=15+6*((i+1:Nat):Int)) (b:=1) rfl rfl (by omega) ?_;conv=>whnf
   refine ECall.inl h99.O h99.G ?_;conv=>whnf
   refine ESc.ov h86 (EP (a:=15+6*((i+1:Nat):Int)+1) (z:=1) (ED hb.1 hb.2) hl' (by unfold Df;exact Zok (by omega))) ?_;conv=>whnf
   refine Bu (a:=15+6*((i+1:Nat):Int)+1) (b:=1) rfl rfl (by omega) ?_;conv=>whnf
   rw [t1,t2]
   skip
   refine EB (q':=.u8) (a:=((Ak (Aa b) (15+6*(i+1)) 1:Nat):Int)) rfl (GC (by omega)) ?_;conv=>whnf
   refine Q7 (a:=((Ak (Aa b) (16+6*(i+1)) 1:Nat):Int)) (b:=1) rfl rfl (fun q hq=>?_)
   obtain rfl:decide (((Ak (Aa b) (16+6*(i+1)) 1:Nat):Int)=1)=q:=by
    cases q with
    | true=>exact Zok (hq.1 rfl)
    | false=>exact Zow (fun h=>by have:=hq.2 h;cases this)
   conv=>whnf
   refine ECall.inl h99.O h99.G ?_;conv=>whnf
   refine ESc.ov h86 (EP (a:=15+6*((i+1:Nat):Int)+1+1) (z:=4) (ED hb.1 hb.2) hl' (by unfold Df;exact Zok (by omega))) ?_;conv=>whnf
   refine Bu (a:=15+6*((i+1:Nat):Int)+1+1) (b:=4) rfl rfl (by omega) ?_;conv=>whnf
   rw [t3]
   repeat' (first|(refine ⟨rfl,?_⟩;conv=>whnf)|fail)
   refine EB (q':=.u32) (a:=((Ak (Aa b) (17+6*(i+1)) 4:Nat):Int)) rfl (G5 (by omega)) ?_;conv=>whnf
   refine BX (m:=1) rfl rfl rfl rfl (by rw [ER,hrl]) rfl (by decide) (by omega) ?_;conv=>whnf
   repeat' (first|((first|refine w7 rfl rfl (by omega) ?_|refine ⟨rfl,?_⟩);conv=>whnf)|fail)
   refine ⟨i+1+1,by omega,by omega,AbsK.tells (rs:=[0,1,2,3,4,5,6,9]) ⟨rfl,by decide,⟨r9,r9,r9,trivial⟩,⟨r9,⟨AD (hrf _),?_⟩,r9,r9,r9,r9,⟨hlb _,rfl⟩,⟨AD (Cp _),?_⟩,trivial⟩⟩⟩
   ·rw [Az (hrf _)]
    show _=some (AObj.row 135 [u,.int .i64 (15+6*((i+1+1:Nat):Int))])
    rw [show (15+6*((i+1+1:Nat):Int))=15+6*((i+1:Nat):Int)+1+1+4 by omega];rfl
   ·rw [Az (Cp _),hrs,Gs];rfl
 ·have hie:i=C0 (Aa b):=by omega
  have hN:As (Aa b)=⟨(Ak (Aa b) 1 4:Int),(Ak (Aa b) 5 4:Int),(Ak (Aa b) 9 4:Int),(Ak (Aa b) 13 1:Int),.nils,G6 (Aa b) (C0 (Aa b))⟩:=rfl
  rcases i with _|i
  ·rw [hN,← hie] at hres
   conv=>whnf
   refine Ag rfl rfl (fun h=>by omega) (fun _=>?_);conv=>whnf
   refine W.tells (AbsD.tells (tl:=[(0,u),(2,.ptr 0 0),(7,.ptr 1 0)]) (os:=[.row 87 Ew,.row 87 [.int .u32 (Ak (Aa b) 1 4:Int),.int .u32 (Ak (Aa b) 5 4:Int),.int .u32 (Ak (Aa b) 9 4:Int),.int .i64 (Ak (Aa b) 13 1:Int),.nils],.defd]) (rs:=[0,3,5]) (ds2:=[2]) ⟨.a,rfl,by intro d hd;simp at hd;subst hd;show 2<3;decide⟩) hres
  ·rw [hN,← hie] at hres
   conv=>whnf
   refine Ag rfl rfl (fun h=>by omega) (fun _=>?_);conv=>whnf
   refine W.tells (AbsD.frz (k:=0) (n:=3) (e:=140) (cs:=Ax (G6 (Aa b) (i+1))) (os:=[.row 87 Ew,.row 87 [.int .u32 (Ak (Aa b) 1 4:Int),.int .u32 (Ak (Aa b) 5 4:Int),.int .u32 (Ak (Aa b) 9 4:Int),.int .i64 (Ak (Aa b) 13 1:Int),.sl 3 0 (i+1) none],.defd]) (tl:=[(0,u),(2,.ptr 0 0),(7,.ptr 1 0)]) (rs:=[0,3,5,7]) (ds2:=[2])
    ⟨⟨rfl,by decide,⟨t9,r9,r9,trivial⟩,⟨r9,r9,r9,o9 (Cp _),trivial⟩⟩,rfl,by intro d hd;simp at hd;subst hd;show 2<4;decide⟩ rfl (by intro d hd;simp at hd;subst hd;decide) (Cp _) rfl rfl rfl rfl (by show [(0,C4 3 _ u),_,_]=_;rw [EW u huf];rfl) rfl) hres
end Go.AM
namespace Go.AM
attribute [local irreducible] W
open X
section
variable {t:AT}{s:St}{k:AV→St→Prop}{x y:AO}
variable {q:IntKind}{a b:Int}
theorem Zds (hx:ev x t=.some (.int q a)) (hy:ev y t=.some (.int q b)) (h:b≠0) (hk:k (.int q (q.wrap (a.tdiv b))) s):EPrim (.bin .quo x y) t s k:=by
 refine DM hx hy (v:=.int q (q.wrap (a.tdiv b))) ?_ hk
 show (Bool.rec .none (Bool.rec (.some (.int q (Ef q (RY a b)))) .none (DX b 0)) (Cx q q):OV)=_
 rw [Ky,Hj,show (b == 0)=false by simpa using h,U1,Er]
theorem Zba (hx:ev x t=.some (.int q a)) (hy:ev y t=.some (.int q b)) (h:0≤a∧0<b) (hw:q.wrap (a / b)=a / b) (hk:k (.int q (a / b)) s):EPrim (.bin .quo x y) t s k:=
 Zds hx hy (by omega) (by rw [Int.tdiv_eq_ediv_of_nonneg h.1,hw];exact hk)
end
def Em (n:Nat):Nat:=if n % 2=1 then (n / 2) ^^^ 2197175160 else n / 2
theorem OD (s z:Nat):Em (s ^^^ z*2)=Em s ^^^ z:=by
 have e1:=PQ s z 1
 have e2:=PS s z 1
 rw [show (2:Nat)^1=2 from rfl] at *
 unfold Em
 rw [e1,e2]
 split
 ·rw [Nat.xor_assoc,Nat.xor_assoc,Nat.xor_comm z]
 ·rfl
variable {n:Nat}
theorem Znb (h:n<4294967296):Em n<4294967296:=by
 unfold Em
 split
 ·exact Zp6 (n:=32) (by omega) (by decide)
 ·omega
def E6:Nat→Nat→Nat
 | 0,n=>n
 | k+1,n=>Em (E6 k n)
theorem W4 (h:n<4294967296):∀ k,E6 k n<4294967296
 | 0=>h
 | k+1=>Znb (W4 h k)
theorem Vo (a:Nat) (n:Nat):∀ b,E6 (a+b) n=E6 b (E6 a n)
 | 0=>rfl
 | b+1=>congrArg Em (Vo a n b)
theorem Uq (s:Nat):E6 4 s=Fb s:=by
 have e:s=s % 16 ^^^ (s / 16)*16:=by
  have h1:=PQ (s % 16) (s / 16) 4
  have h2:=PS (s % 16) (s / 16) 4
  rw [show (2:Nat)^4=16 from rfl] at *
  rw [show s % 16 / 16=0 by omega,Nat.zero_xor] at h2
  omega
 have hr:∀ r,r<16→E6 4 r=Fb r:=by decide
 have h4:∀ r q,E6 4 (r ^^^ q*16)=E6 4 r ^^^ q:=by
  intro r q
  show Em (Em (Em (Em (r ^^^ q*16))))=Em (Em (Em (Em r))) ^^^ q
  rw [show q*16=(q*8)*2 by omega,OD,show q*8=(q*4)*2 by omega,OD,show q*4=(q*2)*2 by omega,OD,OD]
 rw [e,h4,Zfq,hr _ (Nat.mod_lt _ (by decide))]
theorem Zgs (s:Nat):E6 8 s=Fb (Fb s):=by
 rw [show 8=4+4 from rfl,Vo,Uq,Uq]
theorem W9 (h:n<4294967296):4294967295-n=n ^^^ 4294967295:=by
 refine Nat.eq_of_testBit_eq fun i=>?_
 rw [show 4294967295-n=2^32-(n+1) by omega,Nat.testBit_two_pow_sub_succ (by omega),Nat.testBit_xor,show 4294967295=2^32-1 from rfl,Nat.testBit_two_pow_sub_one]
 by_cases hi:i<32
 ·rw [Zok hi];cases n.testBit i <;> rfl
 ·rw [Zow hi,Nat.testBit_lt_two_pow (Zp9 (show n<2^32 from h) (Nat.pow_le_pow_right (by decide) (by omega)))];rfl
structure SX where
 s:Nat
 x:Nat
structure SX.ok (p:SX):Prop where
 s:p.s<4294967296
 x:p.x<256
def withF:Fam SX:=⟨SX.ok,fun p=>[.int .u32 (p.s:Int),.int .u8 (p.x:Int)],fun p=>.int .u32 ((He (p.s ^^^ 4294967295) p.x ^^^ 4294967295:Nat):Int),fun p q hp hq h=>by
 obtain ⟨s,x⟩:=p
 obtain ⟨s',x'⟩:=q
 have h1:(s:Int)=s':=by have:=(Zor h).1;injection this
 have h2:(x:Int)=x':=by have:=(Zor (Zor h).2).1;injection this
 have h1:=Int.ofNat.inj h1
 have h2:=Int.ofNat.inj h2
 subst h1 h2;rfl⟩
variable {e:Env}
theorem Zd2 (hE:EM P e):OvOk P 105 withF.O:=by
 refine Bk g105.b fun p hp=>?_
 obtain ⟨s,x⟩:=p
 obtain ⟨h1,h2⟩:=hp
 dsimp only at h1 h2
 refine ⟨rfl,rfl,C.of_G hE g105 ?_⟩
 show VW P e 0 (match P7 with|.mk c _=>c) (Ah [.int .u32 (s:Int),.int .u8 (x:Int)] 0 .lf) St0 none [] (AR [.tmp 4] (fun w s'=>Frz s' w (.int .u32 ((He (s ^^^ 4294967295) x ^^^ 4294967295:Nat):Int))))
 conv=>whnf
 refine SI (a:=4294967295) (b:=(s:Int)) rfl rfl (by omega) ?_
 rw [show (4294967295:Int)-(s:Int)=Int.ofNat (s ^^^ 4294967295) by rw [← W9 h1];show _=((4294967295-s:Nat):Int);omega]
 have hs:s ^^^ 4294967295<4294967296:=Zp6 (n:=32) h1 (by decide)
 conv=>whnf
 refine EB (q':=.u32) (a:=Int.ofNat x) rfl (G5 (by show 0≤((x:Nat):Int)∧((x:Nat):Int)<4294967296;omega)) ?_;conv=>whnf
 refine L8 rfl rfl hs (by omega) ?_
 obtain ⟨m,hm'⟩:∃ m,m=s ^^^ 4294967295 ^^^ x:=⟨_,rfl⟩
 have hml:m<4294967296:=by rw [hm'];exact Zp6 (n:=32) hs (by omega)
 have hO:He (s ^^^ 4294967295) x=E6 8 m:=by rw [Zgs,hm'];rfl
 rw [← hm',hO]
 clear hm' hO hs
 conv=>whnf
 refine Ce (α:=Nat) (fun i=>[(5,.int .u32 ((E6 i m:Nat):Int)),(6,.int .i64 (i:Int))]) (fun _=>[]) (fun i=>8-i) (fun i=>i≤8) 0 (Zoy _)
  (Abs.tells (rs:=[]) .a) ?_
 intro i hi
 refine A9 hE ?_
 have hn:=W4 hml i
 have hsucc:E6 (i+1) m=Em (E6 i m):=rfl
 by_cases hlt:i<8
 ·revert hsucc
  generalize E6 i m=n at hn ⊢
  intro hsucc
  have hbs:Em n=if n % 2=1 then (n / 2) ^^^ 2197175160 else n / 2:=rfl
  conv=>whnf
  refine Ag (a:=(i:Int)) (b:=8) rfl rfl (fun _=>?_) (fun h=>by omega);conv=>whnf
  refine Qm (a:=(n:Int)) (b:=2) rfl rfl (by omega) ?_;conv=>whnf
  refine Zba (a:=(n:Int)) (b:=2) rfl rfl (by omega) (G5 (by omega)) ?_;conv=>whnf
  refine B2 (a:=(n:Int) % 2) (b:=1) rfl rfl (fun h=>?_) (fun h=>?_)
  ·rw [Zoj (by omega)] at hbs
   rw [show (n:Int) / 2=Int.ofNat (n / 2) by show _=((n / 2:Nat):Int);omega]
   conv=>whnf
   refine L8 (b:=2197175160) rfl rfl (by omega) (by decide) ?_;conv=>whnf
   repeat' (first|((first|refine w7 rfl rfl (by omega) ?_|refine ⟨rfl,?_⟩);conv=>whnf)|fail)
   exact ⟨i+1,hlt,by omega,Abs.tells (rs:=[]) ⟨by decide,⟨⟨rfl,by rw [hsucc,hbs];rfl⟩,r9,trivial⟩,trivial⟩⟩
  ·rw [Zon (by omega)] at hbs
   conv=>whnf
   repeat' (first|((first|refine w7 rfl rfl (by omega) ?_|refine ⟨rfl,?_⟩);conv=>whnf)|fail)
   exact ⟨i+1,hlt,by omega,Abs.tells (rs:=[]) ⟨by decide,⟨⟨rfl,by rw [hsucc,hbs];rfl⟩,r9,trivial⟩,trivial⟩⟩
 ·obtain rfl:i=8:=by omega
  clear hsucc
  generalize E6 8 m=n at hn ⊢
  conv=>whnf
  refine Ag (a:=((8:Nat):Int)) (b:=8) rfl rfl (fun _=>by omega) (fun h=>?_);conv=>whnf
  refine SI (a:=4294967295) (b:=(n:Int)) rfl rfl (by omega) ?_
  rw [show (4294967295:Int)-(n:Int)=((n ^^^ 4294967295:Nat):Int) by rw [← W9 hn];omega]
  conv=>whnf
  exact .plain _ rfl
structure UB.any (x:UB):Prop where
 b:BAt x.u x.b
 l:x.b.length<1000000
theorem UB.inja {x y:UB}(hx:BAt x.u x.b) (hy:BAt y.u y.b) (h:x.u=y.u):x=y:=by
 obtain ⟨u,b⟩:=x
 obtain ⟨u',b'⟩:=y
 dsimp only at hx hy h
 subst h
 rw [hx.inj hy]
structure SB where
 s:Nat
 x:UB
structure SB.ok (p:SB):Prop where
 s:p.s<4294967296
 x:p.x.any
def overRF:Fam SB:=⟨SB.ok,fun p=>[.int .u32 (p.s:Int),p.x.u],fun p=>.int .u32 ((Dg p.x.b (p.s ^^^ 4294967295) ^^^ 4294967295:Nat):Int),fun p q hp hq h=>by
 obtain ⟨s,x⟩:=p
 obtain ⟨s',x'⟩:=q
 have h1:(s:Int)=s':=by have:=(Zor h).1;injection this
 have h2:=UB.inja hp.x.b hq.x.b (Zor (Zor h).2).1
 have h1:=Int.ofNat.inj h1
 dsimp only at h2
 subst h1 h2;rfl⟩
theorem Zb7 (hE:EM P e) (h168:Con e 105 withF.O):OvOk P 83 overRF.O:=by
 refine Bk g83.b fun p hp=>?_
 obtain ⟨s0,u,b⟩:=p
 obtain ⟨hs0,hbt,hl⟩:=hp
 dsimp only at hs0 hbt hl
 have huf:=hbt.1.hf
 refine ⟨by show (true && (AM.hf u && true))=true;rw [huf];rfl,rfl,C.of_G hE g83 ?_⟩
 show VW P e 0 (match a83 with|.mk c _=>c) (Ah [.int .u32 (s0:Int),u] 0 .lf) St0 none [] (AR [.tmp 4] (fun w s'=>Frz s' w (.int .u32 ((Dg b (s0 ^^^ 4294967295) ^^^ 4294967295:Nat):Int))))
 have hx0:s0 ^^^ 4294967295<4294967296:=Zp6 (n:=32) hs0 (by decide)
 conv=>whnf
 refine Ce (α:=Nat) (fun i=>[(0,.int .u32 ((Dg (b.take i) (s0 ^^^ 4294967295) ^^^ 4294967295:Nat):Int)),(1,u),(5,.int .i64 (i:Int))]) (fun _=>[]) (fun i=>b.length-i) (fun i=>i≤b.length) 0 (Zoy _)
  (Abs.tells (rs:=[]) ⟨by decide,⟨⟨rfl,by show _=some (AV.int .u32 ((s0 ^^^ 4294967295 ^^^ 4294967295:Nat):Int));rw [Nat.xor_assoc,Nat.xor_self,Nat.xor_zero];rfl⟩,t9,r9,trivial⟩,trivial⟩) ?_
 intro i hi
 refine A9 hE ?_
 have hn:Dg (b.take i) (s0 ^^^ 4294967295)<4294967296:=K0 (fun y hy=>hbt.2 y (Zpm hy)) hx0
 by_cases hlt:i<b.length
 ·have hhead:((Ab b).drop (i*1))[0]?=some (.int .u8 (b[i]:Int)):=by
   rw [Zpi,Zoq,Zpo]
   unfold Ab
   rw [Zpe,Zof hlt];rfl
  have hy:=hbt.2 _ (Zpg hlt)
  have hs:Dg (b.take (i+1)) (s0 ^^^ 4294967295)=He (Dg (b.take i) (s0 ^^^ 4294967295)) b[i]:=by
   rw [Zos hlt];unfold Dg;rw [List.foldl_append];rfl
  have hall:=And.intro hhead (And.intro hy hs)
  clear hhead hy hs
  revert hall
  generalize b[i]=y
  rintro ⟨hhead,hy,hs⟩
  have hA:((He (Dg (b.take i) (s0 ^^^ 4294967295)) y ^^^ 4294967295:Nat):Int)=((Dg (b.take (i+1)) (s0 ^^^ 4294967295) ^^^ 4294967295:Nat):Int):=by rw [hs]
  clear hs
  generalize Dg (b.take i) (s0 ^^^ 4294967295)=A at hn hA ⊢
  have hA2:A ^^^ 4294967295 ^^^ 4294967295=A:=by rw [Nat.xor_assoc,Nat.xor_self,Nat.xor_zero]
  conv=>whnf
  refine Af rfl hbt.1 ?_;conv=>whnf
  refine Ag (a:=(i:Int)) (b:=(b.length:Int)) rfl rfl (fun _=>?_) (fun h=>by omega);conv=>whnf
  refine A8 rfl hbt.1 rfl hlt ?_;conv=>whnf
  refine EHead.mk (v:=.int .u8 (y:Int)) hhead ?_;conv=>whnf
  refine ESc.fam withF h168 ⟨A ^^^ 4294967295,y⟩ ⟨Zp6 (n:=32) hn (by decide),hy⟩ (u:=.int .u32 ((Dg (b.take (i+1)) (s0 ^^^ 4294967295) ^^^ 4294967295:Nat):Int)) (by rw [← hA];show AV.int .u32 ((He (A ^^^ 4294967295 ^^^ 4294967295) y ^^^ 4294967295:Nat):Int)=_;rw [hA2]) ?_;conv=>whnf
  repeat' (first|((first|refine w7 rfl rfl (by omega) ?_|refine ⟨rfl,?_⟩);conv=>whnf)|fail)
  exact ⟨i+1,hlt,by omega,Abs.tells (rs:=[]) .a⟩
 ·rw [show b.take i=b from Zoo (by omega)]
  clear hn
  conv=>whnf
  refine Af rfl hbt.1 ?_;conv=>whnf
  refine Ag (a:=(i:Int)) (b:=(b.length:Int)) rfl rfl (fun _=>by omega) (fun h=>?_);conv=>whnf
  exact .plain _ rfl
def sumRF:Fam UB:=⟨UB.any,fun x=>[x.u],fun x=>.int .u32 ((Au x.b:Nat):Int),fun x y hx hy h=>by rw [UB.inja hx.b hy.b (Zor h).1]⟩
theorem Zed (hE:EM P e) (h153:Con e 83 overRF.O):OvOk P 46 sumRF.O:=by
 refine Bk g46.b fun x hx=>?_
 obtain ⟨u,b⟩:=x
 have huf:=hx.b.1.hf
 refine ⟨by show (AM.hf u && true)=true;rw [show AM.hf u=true from huf];rfl,rfl,C.of_G hE g46 ?_⟩
 show VW P e 0 (match a46 with|.mk c _=>c) (Ah [u] 0 .lf) St0 none [] (AR [.tmp 2] (fun w s'=>Frz s' w (.int .u32 ((Au b:Nat):Int))))
 conv=>whnf
 refine ESc.fam overRF h153 ⟨0,u,b⟩ ⟨(show 0<4294967296 by decide),hx⟩ (u:=.int .u32 ((Au b:Nat):Int)) (by show AV.int .u32 ((Dg b (0 ^^^ 4294967295) ^^^ 4294967295:Nat):Int)=_;rw [Nat.zero_xor];rfl) ?_;conv=>whnf
 exact .plain _ rfl
end Go.AM
