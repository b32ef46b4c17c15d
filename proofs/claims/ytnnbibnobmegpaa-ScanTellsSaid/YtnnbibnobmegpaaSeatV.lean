/-
 Functions of the program as the abstract machine reads them, and what is stated of them, checked by the kernel. No conditions.
-/
import Derived.Test.YtnnbibnobmegpaaSeatP
import Derived.Test.YtnnbibnobmegpaaSeatU
import Derived.Test.YtnnbibnobmegpaaSeatT
set_option linter.unusedVariables false
set_option linter.unusedSimpArgs false
set_option maxRecDepth 100000
namespace Go.AM
theorem Zk6 {x:Nt}{k:Nat}(h:k<x.recs.length):Zb3 x (k+1)=Zhs (Zb3 x k) k x.recs[k]:=by
 show (match x.recs[k]? with|some r=>Zhs (Zb3 x k) k r|none=>Zb3 x k)=_
 rw [List.getElem?_eq_getElem h]
theorem Zk7 {x:Nt}{a w:Nat}(h:a+w≤15):∀ k,num (Zb3 x k) a w=num (Zj4 x) a w
 | 0=>rfl
 | k+1=>by
  by_cases hk:k<x.recs.length
  ·rw [Zk6 hk]
   unfold Zhs
   rw [Zmi (by omega),Zmi (by omega),Zmi (by omega),Zk7 h k]
  ·show num (match x.recs[k]? with|some r=>Zhs (Zb3 x k) k r|none=>Zb3 x k) a w=_
   rw [List.getElem?_eq_none (by omega)]
   exact Zk7 h k
theorem Zx7 {x:Nt}{a w:Nat}(h:a+w≤124):num (Zbt x) a w=num (Zb3 x x.recs.length) a w:=by
 unfold Zbt
 rw [Zmi (by omega)]
theorem Zj5 (x:Nt):(Zbt x).length=128:=by unfold Zbt;rw [Zat];exact Zd6 _ _
theorem Ybj (x:Nt):∀ b ∈ Zbt x,b<256:=by unfold Zbt;exact Zaz (Zg2 _ _) _
theorem Zk8 {x:Nt}:∀ k,(Zb3 x k).getD 0 0=78
 | 0=>by
  show (Zj4 x).getD 0 0=78
  unfold Zj4
  rw [Zcm,if_neg (by omega),Zcm,if_neg (by omega),Zcm,if_neg (by omega),Zcm,if_neg (by omega),Zcm,if_neg (by omega),Zcm,if_pos (by simp)]
 | k+1=>by
  by_cases hk:k<x.recs.length
  ·rw [Zk6 hk]
   unfold Zhs
   rw [Zcm,if_neg (by omega),Zcm,if_neg (by omega),Zcm,if_neg (by omega)]
   exact Zk8 k
  ·show (match x.recs[k]? with|some r=>Zhs (Zb3 x k) k r|none=>Zb3 x k).getD 0 0=_
   rw [List.getElem?_eq_none (by omega)]
   exact Zk8 k
theorem Zug (x:Nt):(Zbt x).getD 0 0=78:=by
 unfold Zbt
 rw [Zcm,if_neg (by omega)]
 exact Zk8 _
end Go.AM
set_option maxRecDepth 100000
namespace Go.AM
attribute [local irreducible] W
open X
def Zp6:Nat→Int→List Rc→Bool
 | _,_,[]=>true
 | i,la,x::l=>decide (la<x.slot∧(x.slot≤14∨(x.slot=255∧0<i))) && Zp6 (i+1) x.slot l
theorem Zvt {n:Nat}:∀ {R:List Rc}{i:Nat}{la:Int},n=i+R.length→(∀ r ∈ R,r.ok)→Zp6 i la R=Yek n i la R
 | [],_,_,_,_=>rfl
 | x::l,i,la,hn,hr=>by
  have hx:=(hr x (by simp)).1
  have ih:=Zvt (n:=n) (R:=l) (i:=i+1) (la:=x.slot) (by rw [hn,List.length_cons];omega) (fun r h=>hr r (by simp [h]))
  show (decide (la<x.slot∧(x.slot≤14∨(x.slot=255∧0<i))) && Zp6 (i+1) x.slot l)=(decide (la<x.slot∧((x.slot=255∧0<i∧i+1=n)∨x.slot≤14)) && Yek n (i+1) x.slot l)
  rw [← ih]
  cases l with
  | nil=>
   have:i+1=n:=by rw [hn];rfl
   congr 1
   refine decide_eq_decide.2 ?_
   constructor
   ·rintro ⟨h1,h2⟩;exact ⟨h1,by omega⟩
   ·rintro ⟨h1,h2⟩;exact ⟨h1,by omega⟩
  | cons y l=>
   have hy:=(hr y (by simp)).1
   by_cases h:x.slot=255
   ·have:Zp6 (i+1) x.slot (y::l)=false:=by
     show (decide (x.slot<y.slot∧_) && _)=false
     rw [decide_eq_false (by omega)];rfl
    rw [this,Bool.and_false,Bool.and_false]
   ·congr 1
    refine decide_eq_decide.2 ?_
    constructor
    ·rintro ⟨h1,h2⟩;exact ⟨h1,by omega⟩
    ·rintro ⟨h1,h2⟩;exact ⟨h1,by omega⟩
structure RL where
 v:AV
 R:List Rc
structure RL.ok (x:RL):Prop where
 s:Sl 3 x.R.length (rcs x.R) x.v
 r:∀ r ∈ x.R,r.ok
 n:x.R.length<1000
def sltF:Fam RL:=⟨RL.ok,fun x=>[x.v],fun x=>.bool (Zp6 0 (-1) x.R),fun x y hx hy h=>by
 obtain ⟨v,R⟩:=x
 obtain ⟨v',R'⟩:=y
 have e:v=v':=(List.cons.inj h).1
 subst e
 have:=Zt4 (hx.s.l_inj hy.s)
 dsimp only at this ⊢
 rw [this]⟩
def Zox (R:List Rc) (i:Nat):Int:=match i with
 | 0=>-1
 | i+1=>match R[i]? with
  | some r=>r.slot
  | none=>-1
theorem sltF_ok {P:Program}{e:Env}{fn:Func}(hE:EnvOk P e) (hm:P.follows .mixedOrders=true) (hf:P.funcs[165]?=some fn) (hc:Zaj P fn=some a165) (hb:Zaf P 165):OvOk P 165 sltF.O:=by
 refine Zal hb fun x hx=>?_
 obtain ⟨v,R⟩:=x
 obtain ⟨hs,hr,hn⟩:=hx
 dsimp only at hs hr hn
 have hvf:=hs.hf
 refine ⟨by show (AM.hf v && true)=true;rw [hvf];rfl,rfl,C.of_V hE hm hf hc ?_⟩
 show VW P e 0 (match a165 with|.mk c _=>c) (Zax [v] 0 .lf) St0 none [] (Zfa [.tmp 2] (fun w s'=>Frz s' w (.bool (Zp6 0 (-1) R))))
 have fin:∀ s (b:Bool),b=Zp6 0 (-1) R→Frz s (.bool b) (.bool (Zp6 0 (-1) R)):=by rintro s b rfl;exact .plain _ rfl
 generalize hO:AV.bool (Zp6 0 (-1) R)=O at fin ⊢
 clear hO
 conv=>whnf
 refine Zbo (α:=Nat) (fun i=>[(0,v),(3,.int .i64 (i:Int))]) (fun _=>[]) (fun i=>R.length-i) (fun i=>i≤R.length∧Zp6 0 (-1) R=Zp6 i (Zox R i) (R.drop i)) 0 ⟨Nat.zero_le _,rfl⟩
  (Abs.tells (rs:=[]) ⟨by decide,⟨⟨Zbe _ hvf,by rw [Zao _ hvf];rfl⟩,⟨rfl,rfl⟩,trivial⟩,trivial⟩) ?_
 rintro i ⟨hi,hI⟩
 refine Zap hE hm ?_
 by_cases hlt:i<R.length
 ·have hro:=(hr _ (List.getElem_mem hlt)).1
  have hd:(rcs R).drop (i*3)=R[i].c++rcs (R.drop (i+1)):=by rw [Zf6,List.drop_eq_getElem_cons hlt,Zf7]
  have hla:Zox R (i+1)=R[i].slot:=by show (match R[i]? with|some r=>r.slot|none=>-1)=_;rw [List.getElem?_eq_getElem hlt]
  rw [List.drop_eq_getElem_cons hlt] at hI
  have hall:=And.intro hro (And.intro hd (And.intro hla hI))
  clear hro hd hla hI
  revert hall
  generalize R[i]=r
  obtain ⟨sl,ba,su⟩:=r
  rintro ⟨hsl,hd,hla,hI⟩
  dsimp only at hsl hla
  have hd:(rcs R).drop (i*3)=[.int .u8 sl,.bool ba,.int .u32 su]++rcs (R.drop (i+1)):=hd
  have hI:Zp6 0 (-1) R=(decide (Zox R i<sl∧(sl≤14∨(sl=255∧0<i))) && Zp6 (i+1) sl (R.drop (i+1))):=hI
  have no:¬ (Zox R i<sl∧(sl≤14∨(sl=255∧0<i)))→∀ s,Frz s (.bool false) O:=fun h s=>fin s false (by rw [hI,decide_eq_false h];rfl)
  have yes:(Zox R i<sl∧(sl≤14∨(sl=255∧0<i)))→Zp6 0 (-1) R=Zp6 (i+1) (Zox R (i+1)) (R.drop (i+1)):=fun h=>by rw [hI,decide_eq_true h,hla];rfl
  clear hI fin
  have hend:(Zox R i<sl∧(sl≤14∨(sl=255∧0<i)))→∀ t s,t.get 0=some v→t.get 3=some (.int .i64 ((i:Int)+1))→
   ∃ x',(x'≤R.length∧Zp6 0 (-1) R=Zp6 x' (Zox R x') (R.drop x'))∧R.length-x'<R.length-i∧Tells P 0 t s [] (ofL [(0,v),(3,.int .i64 (x':Int))]) (Zai St0 []) []:=fun h0 t s g0 g3=>
   ⟨i+1,⟨hlt,yes h0⟩,by omega,Abs.tells (rs:=[]) ⟨by decide,⟨⟨Zbe _ hvf,by rw [Zao _ hvf];exact g0⟩,⟨rfl,g3⟩,trivial⟩,trivial⟩⟩
  rcases i with _|j
  ·have hl0:Zox R 0=-1:=rfl
   conv=>whnf
   refine Zaa rfl hs ?_;conv=>whnf
   refine Zab (a:=((0:Nat):Int)) (b:=(R.length:Int)) rfl rfl (fun _=>?_) (fun h=>by omega);conv=>whnf
   refine Zae rfl hs rfl hlt ?_
   rw [hd]
   conv=>whnf
   refine EHead.mk (v:=.int .u8 sl) rfl ?_;conv=>whnf
   refine Zam (q':=.i64) (a:=sl) rfl (i64_in (by omega)) ?_;conv=>whnf
   refine Zb5 (a:=((0:Nat):Int)) (b:=0) rfl rfl (fun h=>by omega) (fun _=>?_);conv=>whnf
   repeat' (first|((first|refine w3 rfl rfl ?_ ?_|refine w5 rfl rfl ?_ ?_|refine w6 rfl rfl ?_ ?_) <;> intro _ <;> first|(exfalso;omega)|(conv=>whnf))|((first|refine w7 rfl rfl (by omega) ?_|refine ⟨rfl,?_⟩);conv=>whnf)|fail)
   all_goals first
    | exact hend (by omega) _ _ rfl rfl
    | exact no (by omega) _
  ·have hlj:j<R.length:=by omega
   have hlaj:Zox R (j+1)=R[j].slot:=by show (match R[j]? with|some r=>r.slot|none=>-1)=_;rw [List.getElem?_eq_getElem hlj]
   have hdj:(rcs R).drop (j*3)=R[j].c++rcs (R.drop (j+1)):=by rw [Zf6,List.drop_eq_getElem_cons hlj,Zf7]
   have hrj:=(hr _ (List.getElem_mem hlj)).1
   have hall:=And.intro hlaj (And.intro hdj hrj)
   clear hlaj hdj hrj
   revert hall
   generalize R[j]=r
   obtain ⟨sl',ba',su'⟩:=r
   rintro ⟨hlaj,hdj,hrj⟩
   dsimp only at hlaj hrj
   have hdj:(rcs R).drop (j*3)=[.int .u8 sl',.bool ba',.int .u32 su']++rcs (R.drop (j+1)):=hdj
   conv=>whnf
   refine Zaa rfl hs ?_;conv=>whnf
   refine Zab (a:=((j+1:Nat):Int)) (b:=(R.length:Int)) rfl rfl (fun _=>?_) (fun h=>by omega);conv=>whnf
   refine Zae rfl hs rfl hlt ?_
   rw [hd]
   conv=>whnf
   refine EHead.mk (v:=.int .u8 sl) rfl ?_;conv=>whnf
   refine Zam (q':=.i64) (a:=sl) rfl (i64_in (by omega)) ?_;conv=>whnf
   refine Zb5 (a:=((j+1:Nat):Int)) (b:=0) rfl rfl (fun _=>?_) (fun h=>by omega);conv=>whnf
   refine Zcc (a:=((j+1:Nat):Int)) (b:=1) rfl rfl (by omega) ?_
   rw [show ((j+1:Nat):Int)-1=(j:Int) by omega]
   conv=>whnf
   refine Zae rfl hs rfl hlj ?_
   rw [hdj]
   conv=>whnf
   refine EHead.mk (v:=.int .u8 sl') rfl ?_;conv=>whnf
   refine Zam (q':=.i64) (a:=sl') rfl (i64_in (by omega)) ?_;conv=>whnf
   repeat' (first|((first|refine w2 rfl rfl ?_ ?_|refine w3 rfl rfl ?_ ?_|refine w5 rfl rfl ?_ ?_|refine w6 rfl rfl ?_ ?_) <;> intro _ <;> first|(exfalso;omega)|(conv=>whnf))|((first|refine w7 rfl rfl (by omega) ?_|refine ⟨rfl,?_⟩);conv=>whnf)|fail)
   all_goals first
    | exact hend (by omega) _ _ rfl rfl
    | exact no (by omega) _
 ·rw [List.drop_eq_nil_of_le (by omega)] at hI
  conv=>whnf
  refine Zaa rfl hs ?_;conv=>whnf
  refine Zab (a:=(i:Int)) (b:=(R.length:Int)) rfl rfl (fun _=>by omega) (fun h=>?_);conv=>whnf
  exact fin _ true (by rw [hI];rfl)
def nmayF:Fam Nt:=⟨Nt.ok,fun x=>[x.a],fun x=>.bool (Zcd x),fun x y hx hy h=>by rw [Nt.inj hx hy h]⟩
theorem Yga {P:Program}{e:Env}{fn:Func}(hE:EnvOk P e) (hm:P.follows .mixedOrders=true) (h165:Con e 165 sltF.O) (hf:P.funcs[151]?=some fn) (hc:Zaj P fn=some a151) (hb:Zaf P 151):OvOk P 151 nmayF.O:=by
 refine Zal hb fun x hx=>?_
 have hnb:Zcd x=(Zjl x && Zp6 0 (-1) x.recs):=by unfold Zcd;rw [Zvt (n:=x.recs.length) (by omega) hx.rc]
 obtain ⟨id,ag,sq,st,v,R⟩:=x
 obtain ⟨h1,h2,h3,h4,hs,hr,hl⟩:=hx
 unfold Zgi at h1 h2 h3
 unfold Zc4 at h4
 dsimp only at h1 h2 h3 h4 hs hr hl
 refine ⟨by show (((true && (true && (true && (true && (AM.hf v && true))))):Bool) && true)=true;rw [hs.hf];rfl,rfl,C.of_V hE hm hf hc ?_⟩
 have fin:∀ s (b:Bool),b=Zcd ⟨id,ag,sq,st,v,R⟩→Frz s (.bool b) (nmayF.out ⟨id,ag,sq,st,v,R⟩):=by rintro s b rfl;exact .plain _ rfl
 rw [hnb] at fin
 unfold Zjl at fin
 dsimp only at fin
 generalize nmayF.out ⟨id,ag,sq,st,v,R⟩=O at fin ⊢
 have hvf:=hs.hf
 show VW P e 0 (match a151 with|.mk c _=>c) (Zax [.agg [.int .u32 id,.int .u32 ag,.int .u32 sq,.int .i64 st,v]] 0 .lf) St0 none [] _
 conv=>whnf
 by_cases hT:(1≤R.length∧R.length≤16)∧(1≤ag∧ag≤2147483648)∧(1≤sq∧sq≤2147483648)∧(0≤st∧st<64)
 ·rw [decide_eq_true hT] at fin
  repeat' (first|(refine Zaa rfl hs ?_;conv=>whnf)|((first|refine w1 rfl rfl ?_ ?_|refine w2 rfl rfl ?_ ?_|refine w4 rfl rfl ?_ ?_) <;> intro _ <;> first|(exfalso;omega)|(conv=>whnf))|fail)
  refine ESc.fam sltF h165 ⟨v,R⟩ ⟨hs,hr,by dsimp only;omega⟩ (u:=.bool (Zp6 0 (-1) R)) rfl ?_;conv=>whnf
  exact fin _ _ rfl
 ·rw [decide_eq_false hT] at fin
  repeat' (first|(refine Zaa rfl hs ?_;conv=>whnf)|((first|refine w1 rfl rfl ?_ ?_|refine w2 rfl rfl ?_ ?_|refine w4 rfl rfl ?_ ?_) <;> intro _ <;> first|(exfalso;omega)|(conv=>whnf))|fail)
  all_goals first
   | (exfalso;omega)
   | exact fin _ false rfl
end Go.AM
set_option maxRecDepth 100000
namespace Go.AM
attribute [local irreducible] W
open X
section
variable {t:AT}{s:St}{k:AV→St→Prop}{x y:AO}
theorem Zzi {el es r n m:Nat}{v c:AV}{cs old:List AV}(hx:ev x t=.some (.sl r 0 n (some n))) (hy:ev y t=.some v) (hv:Zgl es v s=some (c::cs)) (hr:s.get r=some (.row el old)) (ho:old.length=n*es) (hm':(c::cs).length=m*es) (he:0<es) (h0:0<m) (h1:n+m≤1000000)
 (hk:k (.sl s.next 0 (n+m) none) (s.alloc (.row el (old++(c::cs))))):EPrim (.app el es x y) t s k:=by
 have hm:(c::cs).length / es=m:=by rw [hm'];exact Nat.mul_div_cancel m he
 refine EPrim.mk (fun e rec=>?_) hk
 show wth x t _=_;unfold wth;rw [hx]
 show wth y t _=_;unfold wth;rw [hy]
 show (Option.rec .fail _ (Zgl es v s):RV)=_
 rw [hv]
 show AM.app1 el es (c::cs) (Nat.div (Zd0 (c::cs)) es) r 0 n (some n) s=_
 unfold AM.app1
 rw [Zbu,show Nat.div (c::cs).length es=m from hm,Zqo hr (by show 0+n*es≤_;omega)]
 have e1:List.take (Nat.mul n es) (List.drop 0 old)=old:=by rw [List.drop_zero];exact List.take_of_length_le (by show _≤n*es;omega)
 rw [e1]
 show (Bool.rec (Ze9 el (n+m) (Zgx old (c::cs)) s) _ (Nat.ble (n+m) n):RV)=_
 rw [show Nat.ble (n+m) n=false by rw [← Bool.not_eq_true];intro e;have:=Nat.le_of_ble_eq_true e;omega]
 show Ze9 el (n+m) (Zgx old (c::cs)) s=_
 unfold Ze9
 show gd (Nat.ble (n+m) 1000000) _=_
 rw [Nat.ble_eq_true_of_le h1,Zda];rfl
theorem Zxb {bs:List Nat}{m:Nat}(h:bs.length=m) (h0:0<m):∃ c cs,bys bs=c::cs∧(c::cs).length=m*1:=by
 cases bs with
 | nil=>simp at h;omega
 | cons b bs=>exact ⟨_,_,rfl,by show (bys (b::bs)).length=_;rw [Zan,Nat.mul_one,h]⟩
theorem Zop {r n m:Nat}{v:AV}{old bs:List Nat}(hx:ev x t=.some (.sl r 0 n (some n))) (hy:ev y t=.some v) (hv:Zgl 1 v s=some (bys bs)) (hr:s.get r=some (.row 5 (bys old))) (ho:old.length=n) (hm':bs.length=m) (h0:0<m) (h1:n+m≤1000000)
 (hk:k (.sl s.next 0 (n+m) none) (s.alloc (.row 5 (bys (old++bs))))):EPrim (.app 5 1 x y) t s k:=by
 obtain ⟨c,cs,e1,e2⟩:=Zxb hm' h0
 rw [Ydj,e1] at hk
 rw [e1] at hv
 exact Zzi hx hy hv hr (by rw [Zan,Nat.mul_one,ho]) e2 (by decide) h0 h1 hk
theorem Zcj {r n m:Nat}{v:AV}{old bs:List Nat}(hx:ev x t=.some (.sl r 0 n none)) (hy:ev y t=.some v) (hv:Zgl 1 v s=some (bys bs)) (hr:s.get r=some (.row 5 (bys old))) (ho:old.length=n) (hm':bs.length=m) (h0:0<m) (h1:n+m≤1000000)
 (hk:k (.sl s.next 0 (n+m) none) ((s.put r .dead).alloc (.row 5 (bys (old++bs))))):EPrim (.app 5 1 x y) t s k:=by
 obtain ⟨c,cs,e1,e2⟩:=Zxb hm' h0
 rw [Ydj,e1] at hk
 rw [e1] at hv
 exact Zb6 hx hy hv hr (by rw [Zan,Nat.mul_one,ho]) e2 (by decide) h1 hk
end
def rawH (x:Nt):List Nat:=[78]++le x.id.toNat 4++le x.age.toNat 4++le x.seq.toNat 4++[x.stripe.toNat,x.recs.length]
def Yem (r:Rc):List Nat:=[r.slot.toNat,Zog r.bare]++le r.sum.toNat 4
def Zlx (x:Nt):Nat→List Nat
 | 0=>rawH x
 | i+1=>match x.recs[i]? with
  | some r=>Zlx x i++Yem r
  | none=>Zlx x i
theorem Zt6 (x:Nt):(rawH x).length=15:=by unfold rawH;simp [Zbg]
theorem Zjf {x:Nt}:∀ {i:Nat},i≤x.recs.length→(Zlx x i).length=15+6*i
 | 0,_=>Zt6 x
 | i+1,h=>by
  show (match x.recs[i]? with|some r=>Zlx x i++Yem r|none=>Zlx x i).length=_
  rw [List.getElem?_eq_getElem (by omega)]
  show (Zlx x i++Yem x.recs[i]).length=_
  rw [List.length_append,Zjf (by omega)]
  unfold Yem
  simp [Zbg];omega
theorem le1 {n:Nat}(h:n<256):le n 1=[n]:=by show []++[n / 2^(8*0) % 256]=_;simp;omega
theorem Zv5:Zct []=List.replicate 128 0:=rfl
theorem put1 {b:List Nat}{a n:Nat}(ha:b.length=a) (h:a<128) (hn:n<256):Zb8 (Zct b) a n 1=Zct (b++[n]):=by
 subst ha
 rw [Zqe (by omega),le1 hn]
theorem put4 {b:List Nat}{a n:Nat}(ha:b.length=a) (h:a+4≤128):Zb8 (Zct b) a n 4=Zct (b++le n 4):=by
 subst ha
 rw [Zqe h]
theorem Yfw {x:Nt}(h1:x.stripe.toNat<256) (h2:x.recs.length<256):Zct (rawH x)=Zj4 x:=by
 unfold Zj4
 rw [← Zv5,put1 (b:=[]) (a:=0) rfl (by decide) (by decide),put4 (b:=[]++[78]) (a:=1) rfl (by decide),put4 (a:=5) (by simp [Zbg]) (by decide),put4 (a:=9) (by simp [Zbg]) (by decide),put1 (a:=13) (by simp [Zbg]) (by decide) h1,put1 (a:=14) (by simp [Zbg]) (by decide) h2]
 unfold rawH
 simp
theorem Zv0 {x:Nt}(h1:x.stripe.toNat<256) (h2:x.recs.length≤16) (hr:∀ r ∈ x.recs,r.ok):∀ {i:Nat},i≤x.recs.length→Zct (Zlx x i)=Zb3 x i
 | 0,_=>Yfw h1 (by omega)
 | i+1,h=>by
  have hi:i<x.recs.length:=by omega
  have ih:=Zv0 h1 h2 hr (i:=i) (by omega)
  have hl:=Zjf (x:=x) (i:=i) (by omega)
  have hro:=hr _ (List.getElem_mem hi)
  rw [Zk6 hi,← ih]
  show Zct (match x.recs[i]? with|some r=>Zlx x i++Yem r|none=>Zlx x i)=_
  rw [List.getElem?_eq_getElem hi]
  show Zct (Zlx x i++Yem x.recs[i])=_
  unfold Zhs Yem
  rw [put1 hl (by omega) (by have:=hro.1;omega),put1 (by rw [List.length_append,hl];show 15+6*i+1=_;omega) (by omega) (by unfold Zog;split <;> decide),put4 (by rw [List.length_append,List.length_append,hl];show 15+6*i+1+1=_;omega) (by omega)]
  simp
structure Nt.may (x:Nt):Prop where
 ok:x.ok
 b:Zcd x=true
def Yc7:AC:=match a152 with|.mk c _=>c
def nbkF:Fam Nt:=⟨Nt.may,fun x=>[x.a],fun x=>fzB (Zbt x),fun x y hx hy h=>by rw [Nt.inj hx.ok hy.ok h]⟩
theorem nbkF_ok {P:Program}{e:Env}{fn:Func}(hE:EnvOk P e) (hm:P.follows .mixedOrders=true) (h166:Con e 166 fourF.O) (h167:Con e 167 sealRF.O) (hf:P.funcs[152]?=some fn) (hc:Zaj P fn=some a152) (hb:Zaf P 152):OvOk P 152 nbkF.O:=by
 refine Zal hb fun x hx=>?_
 obtain ⟨hx,hnb⟩:=hx
 have hh:=hnb
 unfold Zcd Zjl at hh
 rw [Bool.and_eq_true] at hh
 obtain ⟨⟨c1,c2⟩,⟨a1,a2⟩,⟨s1,s2⟩,⟨t1,t2⟩⟩:=of_decide_eq_true hh.1
 clear hh hnb
 have hpad:=fun i h=>Zv0 (x:=x) (by omega) c2 hx.rc (i:=i) h
 have hlen:=fun i h=>Zjf (x:=x) (i:=i) h
 have hsl:Zjz (Zlx x x.recs.length)=Zbt x:=by unfold Zjz Zbt;rw [hpad _ (Nat.le_refl _)]
 have hlt:∀ i,i≤x.recs.length→∀ y ∈ Zlx x i,y<256:=by
  intro i h y hy
  have:y ∈ Zct (Zlx x i):=List.mem_append_left _ hy
  rw [hpad i h] at this
  exact Zg2 x i y this
 refine ⟨by show (((true && (true && (true && (true && (AM.hf x.v && true))))):Bool) && true)=true;rw [hx.sl.hf];rfl,rfl,C.of_W hf hc ?_⟩
 have hfin:∀ s,Frz s (fzB (Zbt x)) (fzB (Zbt x)):=fun s=>.plain _ rfl
 show W P 0 none Yc7 (Zax [x.a] 0 .lf) St0 [] (Zhv [.tmp 2] (fun w s'=>Frz s' w (fzB (Zbt x))))
 rw [← hsl]
 have hend:=fun (K:AV→St→Prop) (s:St) (hk:K (fzB (Zjz (Zlx x x.recs.length))) s)=>ESc.fam (k:=K) (s:=s) sealRF h167 ⟨.fz (15+6*x.recs.length) none (bys (Zlx x x.recs.length)),Zlx x x.recs.length⟩ ⟨⟨.inr (.inr ⟨none,by show AV.fz _ _ _=.fz (Zlx x x.recs.length).length _ _;rw [hlen _ (Nat.le_refl _)],by rw [Zan,Nat.mul_one]⟩),hlt _ (Nat.le_refl _)⟩,by show (Zlx x x.recs.length).length≤128;rw [hlen _ (Nat.le_refl _)];omega⟩ (u:=fzB (Zjz (Zlx x x.recs.length))) rfl hk
 clear hsl hfin hpad
 have hstep:∀ i (h:i<x.recs.length),Zlx x (i+1)=Zlx x i++[x.recs[i].slot.toNat,Zog x.recs[i].bare]++le x.recs[i].sum.toNat 4:=by
  intro i h
  show (match x.recs[i]? with|some r=>Zlx x i++Yem r|none=>Zlx x i)=_
  rw [List.getElem?_eq_getElem h]
  show Zlx x i++Yem x.recs[i]=_
  unfold Yem
  rw [List.append_assoc]
 have h00:Zlx x 0=rawH x:=rfl
 obtain ⟨N,hN⟩:∃ N,N=Zlx x:=⟨_,rfl⟩
 rw [← hN] at hend hstep hlen hlt h00 ⊢
 unfold rawH at h00
 clear hN
 obtain ⟨id,ag,sq,st,v,R⟩:=x
 obtain ⟨h1,h2,h3,h4,hs,hr,hl⟩:=hx
 unfold Zgi at h1 h2 h3
 dsimp only at h1 h2 h3 h4 hs hr hl c1 c2 a1 a2 s1 s2 t1 t2 hend hstep hlen hlt h00 ⊢
 obtain ⟨id,rfl⟩:∃ n:Nat,id=(n:Int):=⟨id.toNat,by omega⟩
 obtain ⟨ag,rfl⟩:∃ n:Nat,ag=(n:Int):=⟨ag.toNat,by omega⟩
 obtain ⟨sq,rfl⟩:∃ n:Nat,sq=(n:Int):=⟨sq.toNat,by omega⟩
 obtain ⟨st,rfl⟩:∃ n:Nat,st=(n:Int):=⟨st.toNat,by omega⟩
 rw [show (id:Int).toNat=id by omega,show (ag:Int).toNat=ag by omega,show (sq:Int).toNat=sq by omega,show (st:Int).toNat=st by omega] at h00
 have hvf:=hs.hf
 have hnf:hfs [.int .u32 (id:Int),.int .u32 (ag:Int),.int .u32 (sq:Int),.int .i64 (st:Int),v]=true:=by
  show (true && (true && (true && (true && (AM.hf v && true)))))=true
  rw [hvf];rfl
 have hfour:∀ n:Nat,n<4294967296→∀ (K:AV→St→Prop) (s:St),K (.fz 4 none (bys (le n 4))) s→ESc e 166 [.int .u32 (n:Int)] s K:=fun n hn K s hk=>ESc.fam fourF h166 n hn (u:=.fz 4 none (bys (le n 4))) rfl hk
 have hsrc:∀ (n:Nat) (s:St),Zgl 1 (.fz 4 none (bys (le n 4))) s=some (bys (le n 4)):=fun n s=>Zm2 (by rw [Zan,Zbg]) s
 show W P 0 none Yc7 (Zax [.agg [.int .u32 (id:Int),.int .u32 (ag:Int),.int .u32 (sq:Int),.int .i64 (st:Int),v]] 0 .lf) St0 [] _
 refine W.seqV hE hm ?_;conv=>whnf
 refine W.seqV hE hm ?_;conv=>whnf
 refine hfour id (by omega) _ _ ?_;conv=>whnf
 refine Zop (old:=[78]) (bs:=le id 4) (m:=4) rfl rfl (hsrc _ _) rfl rfl (Zbg _ _) (by decide) (by decide) ?_;conv=>whnf
 refine W.seqV hE hm ?_;conv=>whnf
 refine hfour ag (by omega) _ _ ?_;conv=>whnf
 refine Zcj (old:=[78]++le id 4) (bs:=le ag 4) (m:=4) rfl rfl (hsrc _ _) rfl rfl (Zbg _ _) (by decide) (by decide) ?_;conv=>whnf
 refine W.seqV hE hm ?_;conv=>whnf
 refine hfour sq (by omega) _ _ ?_;conv=>whnf
 refine Zcj (old:=[78]++le id 4++le ag 4) (bs:=le sq 4) (m:=4) rfl rfl (hsrc _ _) rfl rfl (Zbg _ _) (by decide) (by decide) ?_;conv=>whnf
 refine W.seqV hE hm ?_;conv=>whnf
 refine Zam (q':=.u8) (a:=(st:Int)) rfl (Zor (by omega)) ?_;conv=>whnf
 refine Zaa rfl hs ?_;conv=>whnf
 refine Zam (q':=.u8) (a:=(R.length:Int)) rfl (Zor (by omega)) ?_;conv=>whnf
 refine Zcj (old:=[78]++le id 4++le ag 4++le sq 4) (bs:=[st,R.length]) (m:=2) rfl rfl rfl rfl rfl rfl (by decide) (by decide) ?_
 rw [← h00]
 conv=>whnf
 refine W.seqV hE hm ?_;conv=>whnf
 refine Zbo (α:=Nat) (fun i=>[(1,.ptr 0 0),(3,.sl 1 0 (15+6*i) none),(4,.int .i64 (i:Int))]) (fun i=>[.row 101 [.int .u32 (id:Int),.int .u32 (ag:Int),.int .u32 (sq:Int),.int .i64 (st:Int),v],.row 5 (bys (N i))]) (fun i=>R.length-i) (fun i=>i≤R.length) 0 (Nat.zero_le _)
  (Abs.tells (rs:=[0,6]) ⟨by decide,⟨⟨rfl,rfl⟩,⟨rfl,rfl⟩,⟨rfl,rfl⟩,trivial⟩,⟨⟨Za6 hnf,by rw [Zac hnf];rfl⟩,⟨Za6 (Zad _),by rw [Zac (Zad _)];rfl⟩,trivial⟩⟩) ?_
 intro i hi
 refine Zap hE hm ?_
 by_cases hlt:i<R.length
 ·have hro:=hr _ (List.getElem_mem hlt)
  have hd:(rcs R).drop (i*3)=R[i].c++rcs (R.drop (i+1)):=by rw [Zf6,List.drop_eq_getElem_cons hlt,Zf7]
  have hst:=hstep i hlt
  have hNl:=hlen i hi
  have hall:=And.intro hro (And.intro hd hst)
  clear hro hd hst hstep h00 hend
  revert hall
  generalize R[i]=r
  obtain ⟨sl,ba,su⟩:=r
  rintro ⟨⟨hsl,hsu⟩,hd,hst⟩
  unfold Zgi at hsu
  dsimp only at hsl hsu hst
  have hd:(rcs R).drop (i*3)=[.int .u8 sl,.bool ba,.int .u32 su]++rcs (R.drop (i+1)):=hd
  obtain ⟨sl,rfl⟩:∃ n:Nat,sl=(n:Int):=⟨sl.toNat,by omega⟩
  obtain ⟨su,rfl⟩:∃ n:Nat,su=(n:Int):=⟨su.toNat,by omega⟩
  rw [show (sl:Int).toNat=sl by omega,show (su:Int).toNat=su by omega] at hst
  have hNl2:(N i++[sl,Zog ba]).length=15+6*i+2:=by rw [List.length_append,hNl];rfl
  generalize N i=B at hst hNl hNl2 ⊢
  conv=>whnf
  refine Zaa rfl hs ?_;conv=>whnf
  refine Zab (a:=(i:Int)) (b:=(R.length:Int)) rfl rfl (fun _=>?_) (fun h=>by omega);conv=>whnf
  refine Zae rfl hs rfl hlt ?_
  rw [hd]
  conv=>whnf
  refine EHead.mk (v:=.bool ba) rfl ?_;conv=>whnf
  cases ba
  ·skip
   refine Zae rfl hs rfl hlt ?_
   rw [hd]
   conv=>whnf
   refine EHead.mk (v:=.int .u8 (sl:Int)) rfl ?_;conv=>whnf
   refine Zcj (old:=B) (bs:=[sl,0]) (m:=2) rfl rfl rfl rfl hNl rfl (by decide) (by omega) ?_;conv=>whnf
   refine Zae rfl hs rfl hlt ?_
   rw [hd]
   conv=>whnf
   refine EHead.mk (v:=.int .u32 (su:Int)) rfl ?_;conv=>whnf
   refine hfour su (by omega) _ _ ?_;conv=>whnf
   refine Zcj (old:=B++[sl,0]) (bs:=le su 4) (m:=4) rfl rfl (hsrc _ _) rfl hNl2 (Zbg _ _) (by decide) (by omega) ?_
   rw [show B++[sl,0]++le su 4=N (i+1) from hst.symm]
   conv=>whnf
   repeat' (first|((first|refine w7 rfl rfl (by omega) ?_|refine ⟨rfl,?_⟩);conv=>whnf)|fail)
   exact ⟨i+1,hlt,by omega,Abs.tells (rs:=[0,4]) ⟨by decide,⟨⟨rfl,rfl⟩,⟨rfl,rfl⟩,⟨rfl,rfl⟩,trivial⟩,⟨⟨Za6 hnf,by rw [Zac hnf];rfl⟩,⟨Za6 (Zad _),by rw [Zac (Zad _)];rfl⟩,trivial⟩⟩⟩
  ·skip
   refine Zae rfl hs rfl hlt ?_
   rw [hd]
   conv=>whnf
   refine EHead.mk (v:=.int .u8 (sl:Int)) rfl ?_;conv=>whnf
   refine Zcj (old:=B) (bs:=[sl,1]) (m:=2) rfl rfl rfl rfl hNl rfl (by decide) (by omega) ?_;conv=>whnf
   refine Zae rfl hs rfl hlt ?_
   rw [hd]
   conv=>whnf
   refine EHead.mk (v:=.int .u32 (su:Int)) rfl ?_;conv=>whnf
   refine hfour su (by omega) _ _ ?_;conv=>whnf
   refine Zcj (old:=B++[sl,1]) (bs:=le su 4) (m:=4) rfl rfl (hsrc _ _) rfl hNl2 (Zbg _ _) (by decide) (by omega) ?_
   rw [show B++[sl,1]++le su 4=N (i+1) from hst.symm]
   conv=>whnf
   repeat' (first|((first|refine w7 rfl rfl (by omega) ?_|refine ⟨rfl,?_⟩);conv=>whnf)|fail)
   exact ⟨i+1,hlt,by omega,Abs.tells (rs:=[0,4]) ⟨by decide,⟨⟨rfl,rfl⟩,⟨rfl,rfl⟩,⟨rfl,rfl⟩,trivial⟩,⟨⟨Za6 hnf,by rw [Zac hnf];rfl⟩,⟨Za6 (Zad _),by rw [Zac (Zad _)];rfl⟩,trivial⟩⟩⟩
 ·obtain rfl:i=R.length:=by omega
  have hNl:=hlen _ hi
  conv=>whnf
  refine Zaa rfl hs ?_;conv=>whnf
  refine Zab (a:=(R.length:Int)) (b:=(R.length:Int)) rfl rfl (fun _=>by omega) (fun h=>?_);conv=>whnf
  refine W.tells (AbsK.frz (k:=0) (n:=1) (e:=5) (cs:=bys (N R.length)) (tl:=[(3,.sl 1 0 (15+6*R.length) none)]) (tl2:=[(3,.fz (15+6*R.length) none (bys (N R.length)))]) (os:=[.row 101 [.int .u32 (id:Int),.int .u32 (ag:Int),.int .u32 (sq:Int),.int .i64 (st:Int),v]]) (os2:=[.row 101 [.int .u32 (id:Int),.int .u32 (ag:Int),.int .u32 (sq:Int),.int .i64 (st:Int),v]]) (rs:=[0,1])
   ⟨rfl,by decide,⟨⟨rfl,rfl⟩,trivial⟩,⟨⟨Za6 hnf,by rw [Zac hnf];rfl⟩,⟨Za6 (Zad _),by rw [Zac (Zad _)];rfl⟩,trivial⟩⟩ rfl (Zad _) rfl rfl rfl rfl rfl (by show [frzO 1 _ (.row 101 _)]=_;rw [Zby hnf])) ?_
  refine Zkt hE hm ?_;conv=>whnf
  refine hend _ _ ?_;conv=>whnf
  exact .plain _ rfl
end Go.AM
set_option maxRecDepth 100000
namespace Go.AM
attribute [local irreducible] W
open X
theorem num1 (bs:List Nat) (a:Nat):num bs a 1=bs.getD a 0:=by
 show 0 ||| bs.getD (a+0) 0*1=_
 rw [Nat.zero_or,Nat.mul_one];rfl
def Zdg (B:List Nat):Nat:=min (num B 14 1) 16
def Zr4 (B:List Nat) (v:AV):Nt:=⟨(num B 1 4:Int),(num B 5 4:Int),(num B 9 4:Int),(num B 13 1:Int),v,Zb7 B (Zdg B)⟩
theorem Zlz {x:Nt}(h:x.recs.length<256):num (Zbt x) 14 1=x.recs.length:=by
 rw [Zx7 (by omega),Zk7 (by omega)]
 unfold Zj4
 rw [num_put (by simp only [Zat];simp) (by show _<256;omega)]
theorem Yiq {b:List Nat}(hl:b.length=0∨b.length=128) (v:AV):(Zcd (Zr4 (pad b) v)=true∧Zbt (Zr4 (pad b) v)=pad b)↔Zdm b=true:=by
 have hrl:(Zr4 (pad b) v).recs.length=Zdg (pad b):=by show ((List.range _).map _).length=_;simp
 have hrl2:(Zak (pad b)).recs.length=Zc3 (pad b):=by show ((List.range _).map _).length=_;simp
 have same:num (pad b) 14 1≤16→Zcd (Zr4 (pad b) v)=Zcd (Zak (pad b))∧Zbt (Zr4 (pad b) v)=Zbt (Zak (pad b)):=by
  intro h
  have e:Zdg (pad b)=Zc3 (pad b):=by unfold Zdg Zc3;omega
  unfold Zr4 Zak
  rw [e]
  exact ⟨rfl,Zwe _ _ _ _ _ _ _⟩
 unfold Zdm
 rw [Bool.and_eq_true,decide_eq_true_eq]
 constructor
 ·rintro ⟨h1,h2⟩
  have h3:=Zlz (x:=Zr4 (pad b) v) (by rw [hrl];unfold Zdg;omega)
  rw [h2,hrl] at h3
  obtain ⟨e1,e2⟩:=same (by unfold Zdg at h3;omega)
  refine ⟨by rw [← e1];exact h1,?_⟩
  rw [← e2,h2]
  rcases hl with h|h
  ·exfalso
   have h4:=Zug (Zr4 (pad b) v)
   rw [h2,List.length_eq_zero_iff.1 h] at h4
   exact absurd h4 (by decide)
  ·exact Zc0 h
 ·rintro ⟨h1,h2⟩
  have hb:b.length=128:=by rw [← h2];exact Zj5 _
  have hp:pad b=b:=Zc0 hb
  have h3:Zc3 (pad b)≤16:=by
   unfold Zcd Zjl at h1
   rw [Bool.and_eq_true] at h1
   have:=(of_decide_eq_true h1.1).1.2
   rw [hrl2] at this;exact this
  obtain ⟨e1,e2⟩:=same (by unfold Zc3 at h3;omega)
  exact ⟨by rw [e1];exact h1,by rw [e2,h2,hp]⟩
def Ydb:AC:=match a112 with|.mk c _=>c
def Zt0:AC:=match Ydb with
 | .seq _ (.seq _ (.seq _ (.seq _ (.seq _ r))))=>r
 | _=>.skip
theorem nr_rest {P:Program}{e:Env}(hE:EnvOk P e) (hm:P.follows .mixedOrders=true) (h151:Con e 151 nmayF.O) (h152:Con e 152 nbkF.O) {B:List Nat}(l1:B.length=128) (p1:∀ y ∈ B,y<256) {n:Nt}(hn:n.ok) {K:AV→St→Prop}
 (k1:Zcd n=true→Zbt n=B→∀ s,K (.tup [.agg n.c,.int .i64 0]) s) (k0:¬ (Zcd n=true∧Zbt n=B)→∀ s,K (.tup [.agg Ze3,.int .i64 90]) s):
 W P 0 none Zt0 (ofL [(2,.ptr 0 0),(4,fzB B),(5,.ptr 1 0)]) (Zai St0 [.row 101 Ze3,.row 101 n.c]) [] (Zhv [.cells 2 5,.tmp 3] K):=by
 have hM:=fun (K:AV→St→Prop) (s:St) (hk:K (.bool (Zcd n)) s)=>ESc.fam (k:=K) (s:=s) nmayF h151 n hn rfl hk
 have hK:=fun (hb:Zcd n=true) (K:AV→St→Prop) (s:St) (hk:K (fzB (Zbt n)) s)=>ESc.fam (k:=K) (s:=s) nbkF h152 n ⟨hn,hb⟩ rfl hk
 have hbk:=Zj5 n
 have hbl:=Ybj n
 have hB:=(Zep ⟨l1,p1⟩).1
 have hC:=(Zep ⟨hbk,hbl⟩).1
 have hvf:=hn.sl.hf
 refine Zkt hE hm ?_
 generalize Zbt n=C at *
 generalize Zcd n=q at *
 obtain ⟨id,ag,sq,st,v,R⟩:=n
 dsimp only at hvf
 show VW P e 0 Zt0 (ofL [(2,.ptr 0 0),(4,fzB B),(5,.ptr 1 0)]) (Zai St0 [.row 101 Ze3,.row 101 [.int .u32 id,.int .u32 ag,.int .u32 sq,.int .i64 st,v]]) none [] _
 conv=>whnf
 refine hM _ _ ?_
 cases q
 ·conv=>whnf
  repeat' (first|(refine w13 rfl ?_;conv=>whnf)|fail)
  exact k0 (fun h=>by cases h.1) _
 ·conv=>whnf
  refine Zbp rfl ?_;conv=>whnf
  refine Zbd (bs:=B) rfl hB p1 ?_;conv=>whnf
  refine hK rfl _ _ ?_;conv=>whnf
  refine Zbd (bs:=B) rfl hB p1 ?_;conv=>whnf
  refine ⟨rfl,?_⟩;conv=>whnf
  refine Zbd (bs:=C) rfl hC hbl ?_;conv=>whnf
  refine Zdb rfl rfl (fun h=>?_) (fun h=>?_)
  ·conv=>whnf
   skip
   exact k0 (fun h'=>h h'.2) _
  ·conv=>whnf
   skip
   exact k1 rfl h _
def osN (B:List Nat):Nat→List AObj
 | 0=>[.row 101 Ze3,.row 101 [.int .u32 (num B 1 4:Int),.int .u32 (num B 5 4:Int),.int .u32 (num B 9 4:Int),.int .i64 (num B 13 1:Int),.nils]]
 | i+1=>[.row 101 Ze3,.row 101 [.int .u32 (num B 1 4:Int),.int .u32 (num B 5 4:Int),.int .u32 (num B 9 4:Int),.int .i64 (num B 13 1:Int),.sl 2 0 (i+1) none],.row 123 (rcs (Zb7 B (i+1)))]
theorem Ybh {P:Program}{e:Env}{fn:Func}(hE:EnvOk P e) (hm:P.follows .mixedOrders=true) (h149:Con e 149 sizF.O) (h114:Con e 114 wholeF.O) (h150:Con e 150 numRF.O) (h151:Con e 151 nmayF.O) (h152:Con e 152 nbkF.O) (hf:P.funcs[112]?=some fn) (hc:Zaj P fn=some a112) (hb:Zaf P 112):OvOk P 112 ndF.O:=by
 refine Zal hb fun x hx=>?_
 obtain ⟨u,b⟩:=x
 obtain ⟨hbt,hl⟩:=hx
 dsimp only at hbt hl
 have huf:=hbt.1.hf
 refine ⟨by show (AM.hf u && true)=true;rw [huf];rfl,Zmo _,C.of_W hf hc ?_⟩
 have l1:=Zcn hl
 have p1:=Zf9 hbt.2
 have fin:∀ s w,w=Zht ⟨u,b⟩→Frz s w (ndF.out ⟨u,b⟩):=by rintro s w rfl;exact .plain _ (Zmo _)
 have n4:∀ a,num (pad b) a 4<4294967296:=fun a=>Zfs p1 4
 have n1:∀ a,num (pad b) a 1<256:=fun a=>Zfs p1 1
 have hok:∀ v,Sl 3 (Zdg (pad b)) (rcs (Zb7 (pad b) (Zdg (pad b)))) v→(Zr4 (pad b) v).ok:=by
  intro v hv
  have hrl:(Zb7 (pad b) (Zdg (pad b))).length=Zdg (pad b):=by unfold Zb7;simp
  refine ⟨⟨Int.natCast_nonneg _,Int.ofNat_lt.2 (n4 1)⟩,⟨Int.natCast_nonneg _,Int.ofNat_lt.2 (n4 5)⟩,⟨Int.natCast_nonneg _,Int.ofNat_lt.2 (n4 9)⟩,?_,?_,?_,?_⟩
  ·have:=n1 13
   show Zc4 ((num (pad b) 13 1:Nat):Int)
   unfold Zc4;omega
  ·show Sl 3 (Zb7 (pad b) (Zdg (pad b))).length _ v
   rw [hrl];exact hv
  ·intro r hr
   obtain ⟨i,_,rfl⟩:=List.mem_map.1 (show r ∈ (List.range (Zdg (pad b))).map (Zt1 (pad b)) from hr)
   exact ⟨⟨Int.natCast_nonneg _,Int.ofNat_lt.2 (n1 _)⟩,⟨Int.natCast_nonneg _,Int.ofNat_lt.2 (n4 _)⟩⟩
  ·show (Zb7 (pad b) (Zdg (pad b))).length<_
   rw [hrl];unfold Zdg;omega
 have hres:∀ v,v=recV (Zdg (pad b)) (Zb7 (pad b) (Zdg (pad b)))→W P 0 none Zt0 (ofL [(2,.ptr 0 0),(4,fzB (pad b)),(5,.ptr 1 0)]) (Zai St0 [.row 101 Ze3,.row 101 (Zr4 (pad b) v).c]) [] (Zhv [.cells 2 5,.tmp 3] fun w s'=>Frz s' w (ndF.out ⟨u,b⟩)):=by
  intro v hv
  have hrl:(Zb7 (pad b) (Zdg (pad b))).length=Zdg (pad b):=by unfold Zb7;simp
  have hs:Sl 3 (Zdg (pad b)) (rcs (Zb7 (pad b) (Zdg (pad b)))) v:=by
   rw [hv]
   cases hq:Zdg (pad b) with
   | zero=>exact .inl ⟨rfl,rfl,rfl⟩
   | succ n=>rw [hq] at hrl;exact .inr (.inr ⟨none,rfl,by rw [Zfo,hrl]⟩)
  refine nr_rest hE hm h151 h152 l1 p1 (hok v hs) (fun h1 h2 s=>fin s _ ?_) (fun h s=>fin s _ ?_)
  ·have hg:=(Yiq hl v).1 ⟨h1,h2⟩
   unfold Zht
   rw [if_pos hg]
   have h3:1≤Zdg (pad b):=by
    unfold Zcd Zjl at h1
    rw [Bool.and_eq_true] at h1
    have:=(of_decide_eq_true h1.1).1.1
    rw [← hrl];exact this
   have h4:Zdg (pad b)=Zc3 (pad b):=by
    have h5:=Zlz (x:=Zr4 (pad b) v) (by show (Zb7 (pad b) (Zdg (pad b))).length<256;rw [hrl];unfold Zdg;omega)
    rw [h2,show (Zr4 (pad b) v).recs.length=Zdg (pad b) from hrl] at h5
    unfold Zdg Zc3 at *;omega
   show AV.tup [.agg [_,_,_,_,v],_]=.tup [.agg (ntC _ (.fz (Zc3 (pad b)) none (rcs (Zb7 (pad b) (Zc3 (pad b)))))),_]
   rw [hv,← h4]
   cases hq:Zdg (pad b) with
   | zero=>omega
   | succ n=>rfl
  ·have hg:¬ Zdm b=true:=fun hg=>h ((Yiq hl v).2 hg)
   unfold Zht
   rw [if_neg hg]
 clear hok fin
 have hw:∀ (K:AV→St→Prop) (s:St),K (fzB (pad b)) s→ESc e 114 [u] s K:=fun K s hk=>ESc.fam wholeF h114 ⟨u,b⟩ ⟨hbt,by show b.length≤128;omega⟩ (u:=fzB (pad b)) (by show fzB (Zct b)=_;rw [Zjg hl]) hk
 have hsz:∀ (K:AV→St→Prop) (s:St),K (.bool true) s→ESc e 149 [u] s K:=fun K s hk=>ESc.fam sizF h149 ⟨u,b.length⟩ ⟨⟨_,hbt.1⟩,by dsimp only;omega⟩ (u:=.bool true) (by show AV.bool (!Zde b.length)=_;unfold Zde;rcases hl with h|h <;> rw [h] <;> rfl) hk
 generalize ndF.out ⟨u,b⟩=O at hres ⊢
 generalize pad b=B at *
 have hpB:pad B=B:=Zc0 l1
 have hB:=(Zep ⟨l1,p1⟩).1
 rw [l1] at hB
 have hnum:∀ a,a+4≤128→∀ (K:AV→St→Prop) (s:St),K (.int .u32 ((num B a 4:Nat):Int)) s→ESc e 150 [fzB B,.int .i64 (a:Int)] s K:=fun a ha K s hk=>ESc.fam numRF h150 ⟨⟨fzB B,B⟩,a⟩ ⟨⟨Zep ⟨l1,p1⟩,.inr l1⟩,ha⟩ (u:=.int .u32 ((num B a 4:Nat):Int)) (by show AV.int .u32 ((num (pad B) a 4:Nat):Int)=_;rw [hpB]) hk
 show W P 0 none Ydb (Zax [u] 0 .lf) St0 [] (Zhv [.cells 2 5,.tmp 3] _)
 refine W.seqV hE hm ?_;conv=>whnf
 refine W.seqV hE hm ?_;conv=>whnf
 refine hsz _ _ ?_;conv=>whnf
 refine Zbp rfl ?_;conv=>whnf
 refine W.seqV hE hm ?_;conv=>whnf
 refine hw _ _ ?_;conv=>whnf
 refine W.seqV hE hm ?_;conv=>whnf
 have h13:B.getD 13 0=num B 13 1:=(num1 B 13).symm
 refine Zae (i:=13) rfl hB rfl (by decide) ?_;conv=>whnf
 refine EHead.mk (v:=.int .u8 ((B.getD 13 0:Nat):Int)) (Zbn (i:=13) (by omega)) ?_;conv=>whnf
 rw [h13]
 have h13l:=n1 13
 refine Zam (q':=.i64) (a:=((num B 13 1:Nat):Int)) rfl (i64_in (by omega)) ?_;conv=>whnf
 have hh13:((bys B).drop (13*1))[0]?=some (.int .u8 ((num B 13 1:Nat):Int)):=by rw [← h13];exact Zbn (by omega)
 refine hnum 1 (by decide) _ _ ?_;conv=>whnf
 refine EHead.mk (v:=.int .u8 ((num B 13 1:Nat):Int)) hh13 ?_;conv=>whnf
 refine ⟨rfl,?_⟩;conv=>whnf
 refine hnum 5 (by decide) _ _ ?_;conv=>whnf
 refine EHead.mk (v:=.int .u8 ((num B 13 1:Nat):Int)) hh13 ?_;conv=>whnf
 refine ⟨rfl,?_⟩;conv=>whnf
 refine hnum 9 (by decide) _ _ ?_;conv=>whnf
 refine EHead.mk (v:=.int .u8 ((num B 13 1:Nat):Int)) hh13 ?_;conv=>whnf
 refine ⟨rfl,?_⟩;conv=>whnf
 refine W.seqV hE hm ?_;conv=>whnf
 refine Zbo (α:=Nat) (fun i=>[(2,.ptr 0 0),(4,fzB B),(5,.ptr 1 0),(6,.int .i64 (i:Int))]) (osN B) (fun i=>Zdg B-i) (fun i=>i≤Zdg B) 0 (Nat.zero_le _)
  (Abs.tells (rs:=[0,1]) ⟨by decide,⟨⟨rfl,rfl⟩,⟨rfl,rfl⟩,⟨rfl,rfl⟩,⟨rfl,rfl⟩,trivial⟩,⟨⟨rfl,rfl⟩,⟨rfl,rfl⟩,trivial⟩⟩) ?_
 intro i hi
 refine Zap hE hm ?_
 have h14:B.getD 14 0=num B 14 1:=(num1 B 14).symm
 have hc16:Zdg B=min (B.getD 14 0) 16:=by unfold Zdg;rw [h14]
 have h14l:=n1 14
 rw [← h14] at h14l
 clear h14 h13 h13l hh13
 by_cases hlt:i<Zdg B
 ·have hrs:Zb7 B (i+1)=Zb7 B i++[⟨((B.getD (15+6*i) 0:Nat):Int),decide (((B.getD (16+6*i) 0:Nat):Int)=1),((num B (17+6*i) 4:Nat):Int)⟩]:=by
   unfold Zb7;rw [List.range_succ,List.map_append]
   show _++[Zt1 B i]=_
   unfold Zt1
   rw [num1,num1]
  have hrl:(Zb7 B i).length=i:=by unfold Zb7;simp
  rcases i with _|i
  ·conv=>whnf
   refine Zae (i:=14) rfl hB rfl (by decide) ?_;conv=>whnf
   refine EHead.mk (v:=.int .u8 ((B.getD 14 0:Nat):Int)) (Zbn (i:=14) (by omega)) ?_;conv=>whnf
   refine Zam (q':=.i64) (a:=((B.getD 14 0:Nat):Int)) rfl (i64_in (by omega)) ?_;conv=>whnf
   refine Zab (a:=((0:Nat):Int)) (b:=((B.getD 14 0:Nat):Int)) rfl rfl (fun _=>?_) (fun h=>by omega);conv=>whnf
   refine Zab (a:=((0:Nat):Int)) (b:=16) rfl rfl (fun _=>?_) (fun h=>by omega);conv=>whnf
   refine Za2 (a:=6) (b:=((0:Nat):Int)) rfl rfl (by omega) ?_;conv=>whnf
   refine Zah (a:=15) (b:=6*((0:Nat):Int)) rfl rfl (by omega) ?_
   rw [show (15:Int)+6*((0:Nat):Int)=((15+6*(0):Nat):Int) by omega]
   conv=>whnf
   refine Zae rfl hB rfl (by omega) ?_;conv=>whnf
   refine EHead.mk (v:=.int .u8 ((B.getD (15+6*(0)) 0:Nat):Int)) (Zbn (by omega)) ?_;conv=>whnf
   refine Za2 (a:=6) (b:=((0:Nat):Int)) rfl rfl (by omega) ?_;conv=>whnf
   refine Zah (a:=16) (b:=6*((0:Nat):Int)) rfl rfl (by omega) ?_
   rw [show (16:Int)+6*((0:Nat):Int)=((16+6*(0):Nat):Int) by omega]
   conv=>whnf
   refine Zae rfl hB rfl (by omega) ?_;conv=>whnf
   refine EHead.mk (v:=.int .u8 ((B.getD (16+6*(0)) 0:Nat):Int)) (Zbn (by omega)) ?_;conv=>whnf
   refine Zih (a:=((B.getD (16+6*(0)) 0:Nat):Int)) (b:=1) rfl rfl (fun q hq=>?_)
   obtain rfl:decide (((B.getD (16+6*(0)) 0:Nat):Int)=1)=q:=by
    cases q with
    | true=>exact decide_eq_true (hq.1 rfl)
    | false=>exact decide_eq_false (fun h=>by have:=hq.2 h;cases this)
   conv=>whnf
   refine Za2 (a:=6) (b:=((0:Nat):Int)) rfl rfl (by omega) ?_;conv=>whnf
   refine Zah (a:=17) (b:=6*((0:Nat):Int)) rfl rfl (by omega) ?_
   rw [show (17:Int)+6*((0:Nat):Int)=((17+6*(0):Nat):Int) by omega]
   conv=>whnf
   refine hnum (17+6*(0)) (by omega) _ _ ?_;conv=>whnf
   repeat' (first|(refine ⟨rfl,?_⟩;conv=>whnf)|fail)
   refine EHead.mk (v:=.int .u8 ((B.getD (15+6*(0)) 0:Nat):Int)) (Zbn (by omega)) ?_;conv=>whnf
   refine ⟨rfl,?_⟩;conv=>whnf
   refine EHead.mk (v:=.int .u8 ((B.getD (16+6*(0)) 0:Nat):Int)) (Zbn (by omega)) ?_;conv=>whnf
   refine ⟨rfl,?_⟩;conv=>whnf
   refine Zbb (m:=1) rfl rfl rfl rfl (by decide) (by decide) ?_;conv=>whnf
   repeat' (first|((first|refine w7 rfl rfl (by omega) ?_|refine ⟨rfl,?_⟩);conv=>whnf)|fail)
   refine ⟨0+1,by omega,by omega,Abs.tells (rs:=[0,1,3]) ⟨by decide,⟨⟨rfl,rfl⟩,⟨rfl,rfl⟩,⟨rfl,rfl⟩,⟨rfl,rfl⟩,trivial⟩,⟨⟨rfl,rfl⟩,⟨rfl,rfl⟩,⟨Za6 (Zcx _),?_⟩,trivial⟩⟩⟩
   rw [Zac (Zcx _),hrs,Zil];rfl
  ·conv=>whnf
   refine Zae (i:=14) rfl hB rfl (by decide) ?_;conv=>whnf
   refine EHead.mk (v:=.int .u8 ((B.getD 14 0:Nat):Int)) (Zbn (i:=14) (by omega)) ?_;conv=>whnf
   refine Zam (q':=.i64) (a:=((B.getD 14 0:Nat):Int)) rfl (i64_in (by omega)) ?_;conv=>whnf
   refine Zab (a:=((i+1:Nat):Int)) (b:=((B.getD 14 0:Nat):Int)) rfl rfl (fun _=>?_) (fun h=>by omega);conv=>whnf
   refine Zab (a:=((i+1:Nat):Int)) (b:=16) rfl rfl (fun _=>?_) (fun h=>by omega);conv=>whnf
   refine Za2 (a:=6) (b:=((i+1:Nat):Int)) rfl rfl (by omega) ?_;conv=>whnf
   refine Zah (a:=15) (b:=6*((i+1:Nat):Int)) rfl rfl (by omega) ?_
   rw [show (15:Int)+6*((i+1:Nat):Int)=((15+6*(i+1):Nat):Int) by omega]
   conv=>whnf
   refine Zae rfl hB rfl (by omega) ?_;conv=>whnf
   refine EHead.mk (v:=.int .u8 ((B.getD (15+6*(i+1)) 0:Nat):Int)) (Zbn (by omega)) ?_;conv=>whnf
   refine Za2 (a:=6) (b:=((i+1:Nat):Int)) rfl rfl (by omega) ?_;conv=>whnf
   refine Zah (a:=16) (b:=6*((i+1:Nat):Int)) rfl rfl (by omega) ?_
   rw [show (16:Int)+6*((i+1:Nat):Int)=((16+6*(i+1):Nat):Int) by omega]
   conv=>whnf
   refine Zae rfl hB rfl (by omega) ?_;conv=>whnf
   refine EHead.mk (v:=.int .u8 ((B.getD (16+6*(i+1)) 0:Nat):Int)) (Zbn (by omega)) ?_;conv=>whnf
   refine Zih (a:=((B.getD (16+6*(i+1)) 0:Nat):Int)) (b:=1) rfl rfl (fun q hq=>?_)
   obtain rfl:decide (((B.getD (16+6*(i+1)) 0:Nat):Int)=1)=q:=by
    cases q with
    | true=>exact decide_eq_true (hq.1 rfl)
    | false=>exact decide_eq_false (fun h=>by have:=hq.2 h;cases this)
   conv=>whnf
   refine Za2 (a:=6) (b:=((i+1:Nat):Int)) rfl rfl (by omega) ?_;conv=>whnf
   refine Zah (a:=17) (b:=6*((i+1:Nat):Int)) rfl rfl (by omega) ?_
   rw [show (17:Int)+6*((i+1:Nat):Int)=((17+6*(i+1):Nat):Int) by omega]
   conv=>whnf
   refine hnum (17+6*(i+1)) (by omega) _ _ ?_;conv=>whnf
   repeat' (first|(refine ⟨rfl,?_⟩;conv=>whnf)|fail)
   refine EHead.mk (v:=.int .u8 ((B.getD (15+6*(i+1)) 0:Nat):Int)) (Zbn (by omega)) ?_;conv=>whnf
   refine ⟨rfl,?_⟩;conv=>whnf
   refine EHead.mk (v:=.int .u8 ((B.getD (16+6*(i+1)) 0:Nat):Int)) (Zbn (by omega)) ?_;conv=>whnf
   refine ⟨rfl,?_⟩;conv=>whnf
   refine Zb6 (m:=1) rfl rfl rfl rfl (by rw [Zfo,hrl]) rfl (by decide) (by omega) ?_;conv=>whnf
   repeat' (first|((first|refine w7 rfl rfl (by omega) ?_|refine ⟨rfl,?_⟩);conv=>whnf)|fail)
   refine ⟨i+1+1,by omega,by omega,Abs.tells (rs:=[0,1,4]) ⟨by decide,⟨⟨rfl,rfl⟩,⟨rfl,rfl⟩,⟨rfl,rfl⟩,⟨rfl,rfl⟩,trivial⟩,⟨⟨rfl,rfl⟩,⟨rfl,rfl⟩,⟨Za6 (Zcx _),?_⟩,trivial⟩⟩⟩
   rw [Zac (Zcx _),hrs,Zil];rfl
 ·have hie:i=Zdg B:=by omega
  rcases i with _|i
  ·conv=>whnf
   refine Zae (i:=14) rfl hB rfl (by decide) ?_;conv=>whnf
   refine EHead.mk (v:=.int .u8 ((B.getD 14 0:Nat):Int)) (Zbn (i:=14) (by omega)) ?_;conv=>whnf
   refine Zam (q':=.i64) (a:=((B.getD 14 0:Nat):Int)) rfl (i64_in (by omega)) ?_;conv=>whnf
   refine Zab (a:=((0:Nat):Int)) (b:=((B.getD 14 0:Nat):Int)) rfl rfl (fun h=>by omega) (fun _=>?_);conv=>whnf
   refine W.tells (Abs.tells (tl:=[(2,.ptr 0 0),(4,fzB B),(5,.ptr 1 0)]) (os:=[.row 101 Ze3,.row 101 (Zr4 B .nils).c]) (rs:=[0,1]) ⟨by decide,⟨⟨rfl,rfl⟩,⟨rfl,rfl⟩,⟨rfl,rfl⟩,trivial⟩,⟨⟨rfl,rfl⟩,⟨rfl,rfl⟩,trivial⟩⟩) (hres .nils (by rw [← hie];rfl))
  ·conv=>whnf
   refine Zae (i:=14) rfl hB rfl (by decide) ?_;conv=>whnf
   refine EHead.mk (v:=.int .u8 ((B.getD 14 0:Nat):Int)) (Zbn (i:=14) (by omega)) ?_;conv=>whnf
   refine Zam (q':=.i64) (a:=((B.getD 14 0:Nat):Int)) rfl (i64_in (by omega)) ?_;conv=>whnf
   refine Zab (a:=((i+1:Nat):Int)) (b:=((B.getD 14 0:Nat):Int)) rfl rfl (fun _=>?_) (fun _=>?_)
   ·conv=>whnf
    refine Zab (a:=((i+1:Nat):Int)) (b:=16) rfl rfl (fun h=>by omega) (fun _=>?_);conv=>whnf
    refine W.tells (AbsK.frz (k:=0) (n:=2) (e:=123) (cs:=rcs (Zb7 B (i+1))) (tl:=[(2,.ptr 0 0),(4,fzB B),(5,.ptr 1 0)]) (tl2:=[(2,.ptr 0 0),(4,fzB B),(5,.ptr 1 0)]) (os:=[.row 101 Ze3,.row 101 (Zr4 B (.sl 2 0 (i+1) none)).c]) (os2:=[.row 101 Ze3,.row 101 (Zr4 B (.fz (i+1) none (rcs (Zb7 B (i+1))))).c]) (rs:=[0,1,2])
     ⟨rfl,by decide,⟨⟨rfl,rfl⟩,⟨rfl,rfl⟩,⟨rfl,rfl⟩,trivial⟩,⟨⟨rfl,rfl⟩,⟨rfl,rfl⟩,⟨Za6 (Zcx _),by rw [Zac (Zcx _)];rfl⟩,trivial⟩⟩ rfl (Zcx _) rfl rfl rfl rfl rfl rfl) (hres _ (by rw [← hie];rfl))
   ·conv=>whnf
    refine W.tells (AbsK.frz (k:=0) (n:=2) (e:=123) (cs:=rcs (Zb7 B (i+1))) (tl:=[(2,.ptr 0 0),(4,fzB B),(5,.ptr 1 0)]) (tl2:=[(2,.ptr 0 0),(4,fzB B),(5,.ptr 1 0)]) (os:=[.row 101 Ze3,.row 101 (Zr4 B (.sl 2 0 (i+1) none)).c]) (os2:=[.row 101 Ze3,.row 101 (Zr4 B (.fz (i+1) none (rcs (Zb7 B (i+1))))).c]) (rs:=[0,1,2])
     ⟨rfl,by decide,⟨⟨rfl,rfl⟩,⟨rfl,rfl⟩,⟨rfl,rfl⟩,trivial⟩,⟨⟨rfl,rfl⟩,⟨rfl,rfl⟩,⟨Za6 (Zcx _),by rw [Zac (Zcx _)];rfl⟩,trivial⟩⟩ rfl (Zcx _) rfl rfl rfl rfl rfl rfl) (hres _ (by rw [← hie];rfl))
end Go.AM
set_option maxRecDepth 100000
namespace Go.AM
attribute [local irreducible] W
open X
def Zi3 (l:List Int) (i:Nat):Int:=match i with
 | 0=>-1
 | i+1=>match l[i]? with
  | some s=>s
  | none=>-1
theorem Yb6 {l:List Int}{i:Nat}(h:i<l.length):((Zd8 l).drop (i*1))[0]?=some (.int .i64 l[i]):=by
 rw [Nat.mul_one,List.getElem?_drop,Nat.add_zero]
 unfold Zd8
 rw [List.getElem?_map,List.getElem?_eq_getElem h];rfl
theorem Zxo {P:Program}{e:Env}{fn:Func}(hE:EnvOk P e) (hm:P.follows .mixedOrders=true) (hf:P.funcs[155]?=some fn) (hc:Zaj P fn=some a155) (hb:Zaf P 155):OvOk P 155 slotsF.O:=by
 refine Zal hb fun x hx=>?_
 obtain ⟨⟨id,mb,ch,ro,lo,he⟩,v,l⟩:=x
 obtain ⟨hco,hM,hs,hbd,hln⟩:=hx
 unfold Cfg.may at hM
 dsimp only at hs hbd hln hM
 have hvf:=hs.hf
 refine ⟨by show (true && (AM.hf v && true))=true;rw [hs.hf];rfl,rfl,C.of_V hE hm hf hc ?_⟩
 have fin:∀ s (b:Bool),b=(Zgz (mb-2) (-1) l && decide (0<l.length))→Frz s (.bool b) (.bool (Zcb (mb-2) l)):=by
  rintro s b rfl;exact .plain _ rfl
 show VW P e 0 (match a155 with|.mk c _=>c) (Zax [AV.agg [.int .u32 id,.int .i64 mb,.int .i64 ch,.int .i64 ro,.int .i64 lo,.int .i64 he],v] 0 .lf) St0 none [] (Zfa [.tmp 4] (fun w s'=>Frz s' w (.bool (Zcb (mb-2) l))))
 generalize AV.bool (Zcb (mb-2) l)=O at fin ⊢
 conv=>whnf
 refine Zbo (α:=Nat) (fun i=>[(1,v),(2,.ptr 0 0),(5,.int .i64 (i:Int))]) (fun _=>[.row 24 [.int .u32 id,.int .i64 mb,.int .i64 ch,.int .i64 ro,.int .i64 lo,.int .i64 he]]) (fun i=>l.length-i) (fun i=>i≤l.length∧Zgz (mb-2) (-1) l=Zgz (mb-2) (Zi3 l i) (l.drop i)∧-1≤Zi3 l i∧(0<i→0≤Zi3 l i)) 0 ⟨Nat.zero_le _,rfl,Int.le_refl _,fun h=>by omega⟩
  (Abs.tells (rs:=[0]) ⟨by decide,⟨⟨Zbe _ hvf,by rw [Zao _ hvf];rfl⟩,⟨rfl,rfl⟩,⟨rfl,rfl⟩,trivial⟩,⟨⟨rfl,rfl⟩,trivial⟩⟩) ?_
 rintro i ⟨hi,hI,hla,hla0⟩
 refine Zap hE hm ?_
 by_cases hlt:i<l.length
 ·have hro:=hbd _ (List.getElem_mem hlt)
  have hd:=Yb6 hlt
  have hln1:Zi3 l (i+1)=l[i]:=by show (match l[i]? with|some s=>s|none=>-1)=_;rw [List.getElem?_eq_getElem hlt]
  rw [List.drop_eq_getElem_cons hlt] at hI
  have hall:=And.intro hro (And.intro hd (And.intro hln1 hI))
  clear hro hd hln1 hI
  revert hall
  generalize l[i]=s
  rintro ⟨hsb,hd,hln1,hI⟩
  unfold Zc4 at hsb
  have hI:Zgz (mb-2) (-1) l=(decide (Zi3 l i<s∧s≤mb-2) && Zgz (mb-2) s (l.drop (i+1))):=hI
  have no:¬ (Zi3 l i<s∧s≤mb-2)→∀ S,Frz S (.bool false) O:=fun h S=>fin S false (by rw [hI,decide_eq_false h];rfl)
  have yes:(Zi3 l i<s∧s≤mb-2)→Zgz (mb-2) (-1) l=Zgz (mb-2) (Zi3 l (i+1)) (l.drop (i+1))∧-1≤Zi3 l (i+1)∧(0<i+1→0≤Zi3 l (i+1)):=fun h=>⟨by rw [hI,decide_eq_true h,hln1];rfl,by rw [hln1];omega,fun _=>by rw [hln1];omega⟩
  clear hI fin
  have hend:(Zi3 l i<s∧s≤mb-2)→∀ t S,t.get 1=some v→t.get 2=some (.ptr 0 0)→t.get 5=some (.int .i64 ((i:Int)+1))→S.get 0=some (.row 24 [.int .u32 id,.int .i64 mb,.int .i64 ch,.int .i64 ro,.int .i64 lo,.int .i64 he])→
   ∃ x',(x'≤l.length∧Zgz (mb-2) (-1) l=Zgz (mb-2) (Zi3 l x') (l.drop x')∧-1≤Zi3 l x'∧(0<x'→0≤Zi3 l x'))∧l.length-x'<l.length-i∧Tells P 0 t S [] (ofL [(1,v),(2,.ptr 0 0),(5,.int .i64 (x':Int))]) (Zai St0 [.row 24 [.int .u32 id,.int .i64 mb,.int .i64 ch,.int .i64 ro,.int .i64 lo,.int .i64 he]]) []:=fun h0 t S g1 g2 g5 gr=>
   ⟨i+1,⟨hlt,yes h0⟩,by omega,Abs.tells (rs:=[0]) ⟨by decide,⟨⟨Zbe _ hvf,by rw [Zao _ hvf];exact g1⟩,⟨rfl,g2⟩,⟨rfl,g5⟩,trivial⟩,⟨⟨rfl,gr⟩,trivial⟩⟩⟩
  conv=>whnf
  refine Zaa rfl hs ?_;conv=>whnf
  refine Zab (a:=(i:Int)) (b:=(l.length:Int)) rfl rfl (fun _=>?_) (fun h=>by omega);conv=>whnf
  refine Zae rfl hs rfl hlt ?_;conv=>whnf
  refine EHead.mk (v:=.int .i64 s) hd ?_;conv=>whnf
  refine Zab (a:=s) (b:=0) rfl rfl (fun h1=>?_) (fun h1=>?_)
  ·conv=>whnf
   skip
   exact no (by omega) _
  conv=>whnf
  refine Zae rfl hs rfl hlt ?_;conv=>whnf
  refine EHead.mk (v:=.int .i64 s) hd ?_;conv=>whnf
  refine Zcc (a:=mb) (b:=2) rfl rfl (by omega) ?_;conv=>whnf
  refine Zb5 (a:=s) (b:=mb-2) rfl rfl (fun h2=>?_) (fun h2=>?_)
  ·conv=>whnf
   skip
   exact no (by omega) _
  conv=>whnf
  rcases i with _|j
  ·have hl0:Zi3 l 0=-1:=rfl
   refine Zb5 (a:=((0:Nat):Int)) (b:=0) rfl rfl (fun h=>by omega) (fun _=>?_);conv=>whnf
   repeat' (first|((first|refine w7 rfl rfl (by omega) ?_|refine ⟨rfl,?_⟩);conv=>whnf)|fail)
   exact hend (by omega) _ _ rfl rfl rfl rfl
  ·have hlj:j<l.length:=by omega
   have hlaj:Zi3 l (j+1)=l[j]:=by show (match l[j]? with|some s=>s|none=>-1)=_;rw [List.getElem?_eq_getElem hlj]
   have hdj:=Yb6 hlj
   have hrj:=hbd _ (List.getElem_mem hlj)
   have hall:=And.intro hlaj (And.intro hdj hrj)
   clear hlaj hdj hrj
   revert hall
   generalize l[j]=s'
   rintro ⟨hlaj,hdj,hrj⟩
   refine Zb5 (a:=((j+1:Nat):Int)) (b:=0) rfl rfl (fun _=>?_) (fun h=>by omega);conv=>whnf
   refine Zae rfl hs rfl hlt ?_;conv=>whnf
   refine EHead.mk (v:=.int .i64 s) hd ?_;conv=>whnf
   refine Zcc (a:=((j+1:Nat):Int)) (b:=1) rfl rfl (by omega) ?_
   rw [show ((j+1:Nat):Int)-1=(j:Int) by omega]
   conv=>whnf
   refine Zae rfl hs rfl hlj ?_;conv=>whnf
   refine EHead.mk (v:=.int .i64 s') hdj ?_;conv=>whnf
   repeat' (first|((refine w2 rfl rfl ?_ ?_) <;> intro _ <;> first|(exfalso;omega)|(conv=>whnf))|((first|refine w7 rfl rfl (by omega) ?_|refine ⟨rfl,?_⟩);conv=>whnf)|fail)
   all_goals first
    | exact hend (by omega) _ _ rfl rfl rfl rfl
    | exact no (by omega) _
 ·rw [List.drop_eq_nil_of_le (by omega)] at hI
  have hI:Zgz (mb-2) (-1) l=true:=hI
  conv=>whnf
  refine Zaa rfl hs ?_;conv=>whnf
  refine Zab (a:=(i:Int)) (b:=(l.length:Int)) rfl rfl (fun _=>by omega) (fun h=>?_);conv=>whnf
  refine Zaa rfl hs ?_;conv=>whnf
  refine Zbj (a:=(l.length:Int)) (b:=1) rfl rfl (fun h=>?_) (fun h=>?_) <;> conv=>whnf
  ·exact fin _ _ (by rw [hI,decide_eq_true (by omega)];rfl)
  ·exact fin _ _ (by rw [hI,decide_eq_false (by omega)];rfl)
structure CD.m (x:CD):Prop where
 ok:x.ok
 m:x.c.may
def dlmF:Fam CD:=⟨CD.m,fun x=>[x.c.v,x.d.v],fun x=>.bool (Zfk x.c x.d),fun x y hx hy h=>by
 obtain ⟨c,d⟩:=x
 obtain ⟨c',d'⟩:=y
 have h1:c=c':=Zem (List.cons.inj h).1
 have h2:d=d':=Dl.inj hx.ok.d hy.ok.d (List.cons.inj (List.cons.inj h).2).1
 subst h1 h2;rfl⟩
theorem Zst (c:Cfg) (d:Dl):Zfk c d=true↔(0≤d.stripe∧d.stripe<c.chunk*c.rows)∧Zcb (c.members-2) d.sl=true∧d.b.ns.length=d.sl.length∧(∀ n ∈ d.b.ns,Zde n=false)∧Zde d.pn=false:=by
 unfold Zfk
 simp only [Bool.and_eq_true,Bool.not_eq_true',decide_eq_true_eq,List.any_eq_false]
 constructor
 ·rintro ⟨⟨⟨⟨h1,h2⟩,h3⟩,h4⟩,h5⟩
  exact ⟨h2,h3,h4,fun n hn=>by simpa using h1 n hn,h5⟩
 ·rintro ⟨h2,h3,h4,h1,h5⟩
  exact ⟨⟨⟨⟨fun n hn=>by simpa using h1 n hn,h2⟩,h3⟩,h4⟩,h5⟩
def code116:AC:=match a116 with|.mk c _=>c
theorem dlmF_ok {P:Program}{e:Env}{fn:Func}(hE:EnvOk P e) (hm:P.follows .mixedOrders=true) (h154:Inl e 154 code154 [.tmp 2]) (h155:Con e 155 slotsF.O) (h149:Con e 149 sizF.O) (hf:P.funcs[116]?=some fn) (hc:Zaj P fn=some a116) (hb:Zaf P 116):OvOk P 116 dlmF.O:=by
 refine Zal hb fun x hx=>?_
 obtain ⟨c,d⟩:=x
 obtain ⟨⟨hc0,hd0⟩,hM⟩:=hx
 dsimp only at hc0 hd0 hM
 refine ⟨by show (AM.hf c.v && (AM.hf d.v && true))=true;rw [Dl.hf hd0];rfl,rfl,C.of_V hE hm hf hc ?_⟩
 have fin1:Zfk c d=true→∀ s,Frz s (.bool true) (dlmF.out ⟨c,d⟩):=by intro h s;show Frz s _ (.bool (Zfk c d));rw [h];exact .plain _ rfl
 have fin0:¬ Zfk c d=true→∀ s,Frz s (.bool false) (dlmF.out ⟨c,d⟩):=by intro h s;show Frz s _ (.bool (Zfk c d));rw [Bool.eq_false_iff.2 h];exact .plain _ rfl
 rw [Zst] at fin0 fin1
 generalize dlmF.out ⟨c,d⟩=O at fin0 fin1 ⊢
 have hcf:hfs c.c=true:=rfl
 have hdf:hfs d.c=true:=Dl.hf hd0
 obtain ⟨hst,hsl,hsb,hsn,hbl,hp⟩:=hd0
 obtain ⟨st,sv,sl,⟨bv,us,ns⟩,pv,pn⟩:=d
 obtain ⟨hbs,hbn,hbc⟩:=hbl
 obtain ⟨⟨pl,hpl⟩,hpn⟩:=hp
 dsimp only at hst hsl hsb hsn hbs hbn hbc hpl hpn fin0 fin1
 have hbu:=hbn.length
 have hSl:=fun (K:AV→St→Prop) (s:St) (hk:K (.bool (Zcb (c.members-2) sl)) s)=>ESc.fam (k:=K) (s:=s) slotsF h155 ⟨c,sv,sl⟩ ⟨hc0,hM,hsl,hsb,hsn⟩ rfl hk
 have hPp:=fun (K:AV→St→Prop) (s:St) (hk:K (.bool (!Zde pn)) s)=>ESc.fam (k:=K) (s:=s) sizF h149 ⟨pv,pn⟩ ⟨⟨pl,hpl⟩,hpn⟩ rfl hk
 have hM':=hM
 unfold Cfg.may at hM'
 have hmul:=Zh1 (a:=c.chunk) (b:=c.rows) (by omega) (by omega)
 obtain ⟨id,mb,ch,ro,lo,he⟩:=c
 dsimp only at hM' hmul fin0 fin1 hSl
 unfold Zc4 at hst
 have hcf:hfs [.int .u32 id,.int .i64 mb,.int .i64 ch,.int .i64 ro,.int .i64 lo,.int .i64 he]=true:=rfl
 have hdf:hfs [.int .i64 st,sv,bv,pv]=true:=hdf
 show VW P e 0 code116 (Zax [.agg [.int .u32 id,.int .i64 mb,.int .i64 ch,.int .i64 ro,.int .i64 lo,.int .i64 he],.agg [.int .i64 st,sv,bv,pv]] 0 .lf) St0 none [] _
 conv=>whnf
 refine Zab (a:=st) (b:=0) rfl rfl (fun h1=>?_) (fun h1=>?_)
 ·conv=>whnf
  skip
  exact fin0 (by rintro ⟨h,_⟩;omega) _
 conv=>whnf
 refine ESc.inl h154 ?_;conv=>whnf
 refine Za2 (a:=ch) (b:=ro) rfl rfl hmul ?_;conv=>whnf
 refine ⟨rfl,?_⟩;conv=>whnf
 refine Zbj (a:=st) (b:=ch*ro) rfl rfl (fun h2=>?_) (fun h2=>?_)
 ·conv=>whnf
  skip
  exact fin0 (by rintro ⟨h,_⟩;omega) _
 conv=>whnf
 refine hSl _ _ ?_
 cases hq:Zcb (mb-2) sl
 ·conv=>whnf
  refine Zeb rfl ?_;conv=>whnf
  skip
  exact fin0 (by rintro ⟨_,h,_⟩;rw [hq] at h;cases h) _
 conv=>whnf
 refine Zbp rfl ?_;conv=>whnf
 refine Zaa rfl hbs ?_;conv=>whnf
 refine Zaa rfl hsl ?_;conv=>whnf
 refine Zas (a:=(us.length:Int)) (b:=(sl.length:Int)) rfl rfl (fun h3=>?_) (fun h3=>?_)
 ·conv=>whnf
  skip
  exact fin0 (by rintro ⟨_,_,h,_⟩;omega) _
 conv=>whnf
 refine Zbo (α:=Nat) (fun i=>[(2,.ptr 0 0),(3,.ptr 1 0),(5,.int .i64 (i:Int))]) (fun _=>[.row 24 [.int .u32 id,.int .i64 mb,.int .i64 ch,.int .i64 ro,.int .i64 lo,.int .i64 he],.row 34 [.int .i64 st,sv,bv,pv]]) (fun i=>us.length-i) (fun i=>i≤us.length∧∀ n ∈ ns.take i,Zde n=false) 0 ⟨Nat.zero_le _,fun b hb=>by simp at hb⟩
  (Abs.tells (rs:=[0,1]) ⟨by decide,⟨⟨rfl,rfl⟩,⟨rfl,rfl⟩,⟨rfl,rfl⟩,trivial⟩,⟨⟨Za6 hcf,by rw [Zac hcf];rfl⟩,⟨Za6 hdf,by rw [Zac hdf];rfl⟩,trivial⟩⟩) ?_
 rintro i ⟨hi,hI⟩
 refine Zap hE hm ?_
 by_cases hlt:i<us.length
 ·obtain ⟨n,hn1,hn2⟩:=hbn.get (List.getElem?_eq_getElem hlt)
  have hnm:=List.mem_of_getElem? hn1
  have q1:((us.drop (i*1)))[0]?=some us[i]:=by rw [Nat.mul_one,List.getElem?_drop,Nat.add_zero,List.getElem?_eq_getElem hlt]
  have hall:=And.intro q1 hn2
  clear q1 hn2
  revert hall
  generalize us[i]=u
  rintro ⟨q1,hn2⟩
  conv=>whnf
  refine Zaa rfl hbs ?_;conv=>whnf
  refine Zab (a:=(i:Int)) (b:=(us.length:Int)) rfl rfl (fun _=>?_) (fun h=>by omega);conv=>whnf
  refine Zae rfl hbs rfl hlt ?_;conv=>whnf
  refine EHead.mk (v:=u) q1 ?_;conv=>whnf
  refine ESc.fam sizF h149 ⟨u,n⟩ hn2 (u:=.bool (!Zde n)) rfl ?_
  cases ho:Zde n
  ·conv=>whnf
   refine Zbp rfl ?_;conv=>whnf
   repeat' (first|((first|refine w7 rfl rfl (by omega) ?_|refine ⟨rfl,?_⟩);conv=>whnf)|fail)
   refine ⟨i+1,⟨hlt,fun m hm=>?_⟩,by omega,Abs.tells (rs:=[0,1]) ⟨by decide,⟨⟨rfl,rfl⟩,⟨rfl,rfl⟩,⟨rfl,rfl⟩,trivial⟩,⟨⟨Za6 hcf,by rw [Zac hcf];rfl⟩,⟨Za6 hdf,by rw [Zac hdf];rfl⟩,trivial⟩⟩⟩
   rcases Zg3 hn1 hm with hm|rfl
   ·exact hI m hm
   ·exact ho
  ·conv=>whnf
   refine Zeb rfl ?_;conv=>whnf
   skip
   exact fin0 (by rintro ⟨_,_,_,h,_⟩;rw [h n hnm] at ho;cases ho) _
 ·have hI':∀ n ∈ ns,Zde n=false:=by rw [List.take_of_length_le (by omega)] at hI;exact hI
  conv=>whnf
  refine Zaa rfl hbs ?_;conv=>whnf
  refine Zab (a:=(i:Int)) (b:=(us.length:Int)) rfl rfl (fun _=>by omega) (fun h=>?_);conv=>whnf
  refine hPp _ _ ?_
  cases ho:Zde pn
  ·conv=>whnf
   exact fin1 ⟨by omega,hq,by omega,hI',ho⟩ _
  ·conv=>whnf
   exact fin0 (by rintro ⟨_,_,_,_,h⟩;rw [h] at ho;cases ho) _
end Go.AM
set_option maxRecDepth 100000
namespace Go.AM
attribute [local irreducible] W
open X
noncomputable def Ztt (args:List AV) (s:St):RV:=match args with
 | [v]=>Option.rec .fail (fun bs=>gd (Nat.blt (Zd0 bs) 1000000) (.ok (.int .u32 ((Zen bs:Nat):Int)) s)) (Zbf s v)
 | _=>.fail
theorem Ye5 {P:Program}(hO:OvOk P 115 sumRF.O):OvOk P 115 Ztt:=by
 refine ⟨hO.1,fun args s v s' h=>?_⟩
 unfold Ztt at h
 split at h
 ·rename_i u
  obtain ⟨bs,hbs,h⟩:=Za3 h
  obtain ⟨h2,h⟩:=Zco h
  obtain ⟨rfl,rfl⟩:=Zau h
  rw [Nat.blt_eq,Zbu] at h2
  obtain ⟨v2,hF,hSl,hlt⟩:=Zea hbs
  exact Ztg (args2:=[v2]) (.cons hF .nil) rfl (hO.2 [v2] St0 _ _ (Zkw sumRF (x:=⟨v2,bs⟩) ⟨⟨hSl,hlt⟩,h2⟩ St0))
 ·cases h
theorem Zrl {s:St}{r e:Nat}{c:Option Nat}{bs:List Nat}(h:s.get r=some (.row e (bys bs))) (hn:bs.length=128) (hb:∀ b ∈ bs,b<256):Ztt [.sl r 0 128 c] s=.ok (.int .u32 ((Zen bs:Nat):Int)) s:=by
 show (Option.rec .fail (fun bs=>gd (Nat.blt (Zd0 bs) 1000000) (.ok (.int .u32 ((Zen bs:Nat):Int)) s)) (Zbf s (.sl r 0 128 c)):RV)=_
 rw [Zjr h hn hb]
 show gd (Nat.blt (Zd0 bs) 1000000) _=_
 rw [Zbu,hn];rfl
def tlU (a:Int) (i:Nat):List (Nat×AV):=[(2,.int .i64 a),(3,.ptr 0 0),(4,.ptr 1 0),(6,.ptr 2 0),(8,.ptr 3 0),(10,.ptr 4 0),(11,.int .i64 (i:Int))]
def osT (C D:List AV) (F N:List AV):List AObj:=[.row 24 C,.row 28 D,.row 36 zFc,.row 101 N,.row 36 F]
def osU (C D:List AV) (n:Nt) (x:RdS):List AObj:=osT C D (fG n 5 x) (ntC n n.v)++rwG x
theorem Zvs {P:Program}{t:AT}{s:St}{C D:List AV}(hC:hfs C=true) (hD:hfs D=true) {a sl:Int}{n:Nt}(hn:AM.hf n.v=true) {S:List (Int×List Nat)}{p:Option (List Nat)}{see:List Nat}{cp:Option Nat}{i:Nat}{rs:List Nat}
 (h:AbsK 0 t s (tlU a i) (osT C D [.int .u32 n.age,.int .u32 n.seq,.int .i64 n.stripe,.sl 5 0 (S.length+1) none,.sl 6 0 (S.length+1) none,Zcu p] (ntC n n.v)++[.row 3 (Zd8 (S.map Prod.fst)++[.int .i64 sl]),.row 32 ((S.map fun p=>fzN p.2)++[.sl 7 0 128 cp])]++[.row 5 (bys see)]) rs):
 Tells P 0 t s [] (ofL (tlU a i)) (Zai St0 (osU C D n ⟨S++[(sl,see)],p⟩)) []:=by
 have hnc:hfs (ntC n n.v)=true:=by
  show (true && (true && (true && (true && (AM.hf n.v && true)))))=true
  rw [hn];rfl
 refine AbsK.frn (n:=7) (e:=5) (cs:=bys see) h rfl (Zad _) rfl rfl rfl rfl rfl ?_
 have e1:osU C D n ⟨S++[(sl,see)],p⟩=osT C D [.int .u32 n.age,.int .u32 n.seq,.int .i64 n.stripe,.sl 5 0 (S.length+1) none,.sl 6 0 (S.length+1) none,Zcu p] (ntC n n.v)++[.row 3 (Zd8 (S.map Prod.fst)++[.int .i64 sl]),.row 32 ((S.map fun p=>fzN p.2)++[fzN see])]:=by
  cases S with
  | nil=>rfl
  | cons q S=>
   show osT C D [_,_,_,.sl 5 0 ((S++[(sl,see)]).length+1) none,.sl 6 0 ((S++[(sl,see)]).length+1) none,Zcu p] (ntC n n.v)++[.row 3 (Zd8 ((q::(S++[(sl,see)])).map Prod.fst)),.row 32 ((q::(S++[(sl,see)])).map fun p=>fzN p.2)]=_
   rw [List.length_append]
   unfold Zd8
   simp
 rw [e1]
 show [frnO 7 _ (.row 24 C),frnO 7 _ (.row 28 D),_,frnO 7 _ (.row 101 (ntC n n.v)),AObj.row 36 [_,_,_,_,_,frnV 7 _ (Zcu p)],AObj.row 3 (frnVs 7 _ (Zd8 (S.map Prod.fst)++[.int .i64 sl])),AObj.row 32 (frnVs 7 _ ((S.map fun p=>fzN p.2)++[.sl 7 0 128 cp]))]=_
 rw [Zfb hC,Zfb hD,Zfb hnc,Zqq _ (Za4 p),Zgb,Zgb,Zgo _ (Zaw _),Zgo _ (Za1 _)]
 rfl
theorem Zvr {P:Program}{t:AT}{s:St}{C D:List AV}(hC:hfs C=true) (hD:hfs D=true) {a:Int}{n:Nt}(hn:AM.hf n.v=true) {S:List (Int×List Nat)}{p':Option (List Nat)}{see:List Nat}{cp:Option Nat}{i:Nat}{rs:List Nat}
 (h:AbsK 0 t s (tlU a i) ((osT C D (fH n 5 (match S with|[]=>5|_=>7) S cp) (ntC n n.v)++rwG ⟨S,p'⟩)++[.row 5 (bys see)]) rs):
 Tells P 0 t s [] (ofL (tlU a i)) (Zai St0 (osU C D n ⟨S,some see⟩)) []:=by
 have hnc:hfs (ntC n n.v)=true:=by
  show (true && (true && (true && (true && (AM.hf n.v && true)))))=true
  rw [hn];rfl
 cases S with
 | nil=>
  refine AbsK.frz (n:=5) (e:=5) (cs:=bys see) h rfl (Zad _) rfl rfl rfl rfl rfl ?_
  show [frzO 5 _ (.row 24 C),frzO 5 _ (.row 28 D),_,frzO 5 _ (.row 101 (ntC n n.v)),_]=_
  rw [Zby hC,Zby hD,Zby hnc]
  rfl
 | cons q S=>
  refine AbsK.frz (n:=7) (e:=5) (cs:=bys see) h rfl (Zad _) rfl rfl rfl rfl rfl ?_
  show [frzO 7 _ (.row 24 C),frzO 7 _ (.row 28 D),_,frzO 7 _ (.row 101 (ntC n n.v)),_,frzO 7 _ (.row 3 (Zd8 ((q::S).map Prod.fst))),frzO 7 _ (.row 32 ((q::S).map fun p=>fzN p.2))]=_
  rw [Zby hC,Zby hD,Zby hnc,Zby (Zaw _),Zby (Za1 _)]
  rfl
def Yc3:AC:=match a70 with|.mk c _=>c
def Yij:AC:=match Yc3 with
 | .seq _ (.seq _ (.seq _ (.seq _ (.seq r _))))=>r
 | _=>.skip
def Zpd:AC:=match Yc3 with
 | .seq _ (.seq _ (.seq _ (.seq _ (.seq _ r))))=>r
 | _=>.skip
def stNo:AV:=.tup [zF,.int .i64 0]
theorem st_loop {P:Program}{e:Env}(hE:EnvOk P e) (hm:P.follows .mixedOrders=true) (h113:Con e 113 atF.O) (h114:Con e 114 Zdx) (h115:Con e 115 Ztt) {x:CDA}(hx:x.ok) (hk:Zib x=0)
 {n:Nt}(hn:n.ok) (hs:n.v=.fz n.recs.length none (rcs n.recs)) (hn17:n.recs.length≤17) {K:AV→St→Prop}
 (k2:Zf5 (rbk x) n.recs n.recs.length 1 ⟨[],none⟩=none→∀ s,K stNo s)
 (k3:∀ y,y.ok→Zf5 (rbk x) n.recs n.recs.length 1 ⟨[],none⟩=some y→W P 0 none Zpd (ofL (tlU x.a n.recs.length)) (Zai St0 (osU x.c.c x.d.c n y)) [] (Zhv [.cells 6 6,.tmp 7] K)):
 W P 0 none (.seq Yij Zpd) (ofL [(2,.int .i64 x.a),(3,.ptr 0 0),(4,.ptr 1 0),(6,.ptr 2 0),(8,.ptr 3 0),(10,.ptr 4 0)]) (Zai St0 (osT x.c.c x.d.c [.int .u32 n.age,.int .u32 n.seq,.int .i64 n.stripe,.nils,.nils,.nils] (ntC n n.v))) [] (Zhv [.cells 6 6,.tmp 7] K):=by
 have hnv:AM.hf n.v=true:=by rw [hs];rfl
 have hnsl:Sl 3 n.recs.length (rcs n.recs) n.v:=hn.sl
 have hBb:=fun i=>Zgm hx hk i
 have hdf:hfs x.d.c=true:=Zp0 hx.d.a.wl hx.d.a.bl
 have hnc:hfs (ntC n n.v)=true:=by
  show (true && (true && (true && (true && (AM.hf n.v && true)))))=true
  rw [hnv];rfl
 obtain ⟨nid,nag,nsq,nst,nv,R⟩:=n
 dsimp only at hs hn17 hnsl k2 k3
 subst hs
 have hatF:=fun (i:Nat) (hi:i<1000) (K:AV→St→Prop) (s:St) (hk':K (fzB (rbk x i)) s)=>ESc.fam (k:=K) (s:=s) atF h113 ⟨x,i⟩ ⟨hx,hk,hi⟩ rfl hk'
 have hcf':hfs x.c.c=true:=rfl
 obtain ⟨c,d,a⟩:=x
 obtain ⟨id,mb,ch,rw',lg,hdd⟩:=c
 obtain ⟨bv,us,bs,wv,ws,dd⟩:=d
 generalize rbk ⟨⟨id,mb,ch,rw',lg,hdd⟩,⟨bv,us,bs,wv,ws,dd⟩,a⟩=B at *
 have hcf':hfs [.int .u32 id,.int .i64 mb,.int .i64 ch,.int .i64 rw',.int .i64 lg,.int .i64 hdd]=true:=rfl
 have hdf:hfs [bv,wv,.bool dd]=true:=hdf
 have k3:∀ y,y.ok→Zf5 B R R.length 1 ⟨[],none⟩=some y→W P 0 none Zpd (ofL (tlU a R.length)) (Zai St0 (osU [.int .u32 id,.int .i64 mb,.int .i64 ch,.int .i64 rw',.int .i64 lg,.int .i64 hdd] [bv,wv,.bool dd] ⟨nid,nag,nsq,nst,.fz R.length none (rcs R),R⟩ y)) [] (Zhv [.cells 6 6,.tmp 7] K):=k3
 refine W.seqV hE hm ?_
 show VW P e 0 Yij (ofL [(2,.int .i64 a),(3,.ptr 0 0),(4,.ptr 1 0),(6,.ptr 2 0),(8,.ptr 3 0),(10,.ptr 4 0)]) (Zai St0 (osT [.int .u32 id,.int .i64 mb,.int .i64 ch,.int .i64 rw',.int .i64 lg,.int .i64 hdd] [bv,wv,.bool dd] [.int .u32 nag,.int .u32 nsq,.int .i64 nst,.nils,.nils,.nils] (ntC ⟨nid,nag,nsq,nst,.fz R.length none (rcs R),R⟩ (.fz R.length none (rcs R))))) none [] _
 conv=>whnf
 refine Zbo (α:=Nat×RdS) (fun y=>tlU a y.1) (fun y=>osU [.int .u32 id,.int .i64 mb,.int .i64 ch,.int .i64 rw',.int .i64 lg,.int .i64 hdd] [bv,wv,.bool dd] ⟨nid,nag,nsq,nst,.fz R.length none (rcs R),R⟩ y.2) (fun y=>R.length-y.1)
  (fun y=>y.1≤R.length∧y.2.ok∧y.2.S.length≤y.1∧Zf5 B R R.length 1 ⟨[],none⟩=Zf5 B (R.drop y.1) (R.length-y.1) (y.1+1) y.2) (0,⟨[],none⟩) ⟨Nat.zero_le _,Znh,Nat.le_refl 0,rfl⟩
    (Abs.tells (rs:=[0,1,2,3,4]) ⟨by decide,⟨⟨rfl,rfl⟩,⟨rfl,rfl⟩,⟨rfl,rfl⟩,⟨rfl,rfl⟩,⟨rfl,rfl⟩,⟨rfl,rfl⟩,⟨rfl,rfl⟩,trivial⟩,⟨⟨rfl,rfl⟩,⟨Za6 hdf,by rw [Zac hdf];rfl⟩,⟨rfl,rfl⟩,⟨rfl,rfl⟩,⟨rfl,rfl⟩,trivial⟩⟩) ?_
 rintro ⟨i,x⟩ ⟨hi,hx,hxl,hG⟩
 dsimp only at hi hx hxl hG ⊢
 refine Zap hE hm ?_
 by_cases hlt:i<R.length
 ·have hb1:=hBb (i+1)
  have hat:=hatF (i+1) (by omega)
  obtain ⟨b0,bt,hBe⟩:∃ b0 bt,B (i+1)=b0::bt:=by
   cases hq:B (i+1) with
   | nil=>rw [hq] at hb1;exact absurd hb1.1 (by decide)
   | cons x y=>exact ⟨x,y,rfl⟩
  have hdR:=(Zf6 R i).trans (congrArg rcs (List.drop_eq_getElem_cons hlt))
  have hro:=hn.rc _ (List.getElem_mem hlt)
  rw [List.drop_eq_getElem_cons hlt,show R.length-i=(R.length-(i+1))+1 by omega] at hG
  have hall:=And.intro hdR (And.intro hro hG)
  clear hdR hro hG
  revert hall
  generalize R[i]=r
  obtain ⟨sl,ba,su⟩:=r
  rintro ⟨hdR,⟨hsl,hsu⟩,hG⟩
  dsimp only at hsl hsu
  have hdR:(rcs R).drop (i*3)=[.int .u8 sl,.bool ba,.int .u32 su]++rcs (R.drop (i+1)):=hdR
  obtain ⟨S,p⟩:=x
  have hxl:S.length≤i:=hxl
  have hG:Zf5 B R R.length 1 ⟨[],none⟩=if Zet ⟨sl,ba,su⟩ (B (i+1))=true then none else Zf5 B (R.drop (i+1)) (R.length-(i+1)) (i+1+1) (Zec ⟨sl,ba,su⟩ (B (i+1)) ⟨S,p⟩):=hG
  rw [hBe] at hG hb1 hat
  have hbad:Zet ⟨sl,ba,su⟩ (b0::bt)=true→∀ s,K stNo s:=fun h=>k2 (by rw [hG,if_pos h])
  have hrb:Zet ⟨sl,ba,su⟩ (b0::bt)=(decide ((Zen (b0::bt):Int)≠su) || (decide (b0=78) || (ba && decide (b0≠0)))):=rfl
  have hb78:(78::bt).length=128∧∀ y ∈ 78::bt,y<256:=⟨hb1.1,fun y hy=>by
   rcases List.mem_cons.1 hy with rfl|hy
   ·decide
   ·exact hb1.2 y (by simp [hy])⟩
  have hgo:∀ x',Zet ⟨sl,ba,su⟩ (b0::bt)=false→Zec ⟨sl,ba,su⟩ (b0::bt) ⟨S,p⟩=x'→Zf5 B R R.length 1 ⟨[],none⟩=Zf5 B (R.drop (i+1)) (R.length-(i+1)) (i+1+1) x':=fun x' h1 h2=>by
   rw [hG,if_neg (by rw [h1];decide),h2]
  have hpr:Zct (b0::bt)=b0::bt:=by rw [Zjg (.inr hb1.1),Zc0 hb1.1]
  have hwh:=fun s=>Zjc (x:=⟨fzB (b0::bt),b0::bt⟩) ⟨Zep hb1,by show (b0::bt).length≤128;omega⟩ s
  have hwh:∀ s,Zdx [fzB (b0::bt)] s=.ok (.sl (0+s.next) 0 128 (some 128)) (s.alloc (.row 5 (bys (b0::bt)))):=fun s=>by have:=hwh s;rw [show Zct (⟨fzB (b0::bt),b0::bt⟩:UB).b=b0::bt from hpr] at this;exact this
  have hwh:=fun {s}=>hwh s
  rcases S with _|⟨q,S⟩
  ·conv=>whnf
   refine Zaa rfl hnsl ?_;conv=>whnf
   refine Zab (a:=(i:Int)) (b:=(R.length:Int)) rfl rfl (fun _=>?_) (fun h=>by omega);conv=>whnf
   refine Zah (a:=(i:Int)) (b:=1) rfl rfl (by omega) ?_
   rw [show (i:Int)+1=((i+1:Nat):Int) by omega]
   conv=>whnf
   refine hat _ _ ?_;conv=>whnf
   refine ESc.ov h114 hwh ?_;conv=>whnf
   refine Zae rfl hnsl rfl hlt ?_
   rw [hdR]
   conv=>whnf
   refine EHead.mk (v:=.bool ba) rfl ?_;conv=>whnf
   refine Zae rfl hnsl rfl hlt ?_
   rw [hdR]
   conv=>whnf
   refine EHead.mk (v:=.int .u32 su) rfl ?_;conv=>whnf
   refine ESc.ov h115 (Zrl rfl hb1.1 hb1.2) ?_;conv=>whnf
   refine ⟨rfl,?_⟩;conv=>whnf
   refine EHead.mk (v:=.int .u32 su) rfl ?_;conv=>whnf
   refine ⟨rfl,?_⟩;conv=>whnf
   refine Zas (a:=((Zen (b0::bt):Nat):Int)) (b:=su) rfl rfl (fun h1=>?_) (fun h1=>?_)
   ·conv=>whnf
    skip
    exact ⟨.inr rfl,_,_,rfl,rfl,hbad (by rw [hrb,decide_eq_true h1];rfl) _⟩
   conv=>whnf
   refine Za0 rfl rfl (by omega) (by omega) ?_;conv=>whnf
   refine Za7 (a:=((b0:Nat):Int)) (b:=78) rfl rfl (fun h2=>?_) (fun h2=>?_)
   ·conv=>whnf
    skip
    exact ⟨.inr rfl,_,_,rfl,rfl,hbad (by rw [hrb,decide_eq_true (show b0=78 by omega)];simp) _⟩
   cases ba
   ·have hnb:Zet ⟨sl,false,su⟩ (b0::bt)=false:=by rw [hrb,decide_eq_false (by simpa using h1),decide_eq_false (show ¬ b0=78 by omega)];rfl
    conv=>whnf
    refine Zae rfl hnsl rfl hlt ?_
    rw [hdR]
    conv=>whnf
    refine EHead.mk (v:=.int .u8 sl) rfl ?_;conv=>whnf
    refine Za7 (a:=sl) (b:=255) rfl rfl (fun h255=>?_) (fun h255=>?_)
    ·conv=>whnf
     repeat' (first|((first|refine w7 rfl rfl (by omega) ?_|refine ⟨rfl,?_⟩);conv=>whnf)|fail)
     refine ⟨(i+1,⟨([]:List (Int×List Nat)),some (b0::bt)⟩),⟨hlt,Zdi hx (by first|exact hb78|exact hb1),by show (([]:List (Int×List Nat))).length≤i+1;omega,hgo _ hnb (by unfold Zec Zdp;rw [if_pos h255];rfl)⟩,by show R.length-(i+1)<R.length-i;omega,Zvr (S:=([]:List (Int×List Nat))) (i:=i+1) (a:=a) (see:=b0::bt) (cp:=some 128) (p':=p) (rs:=[0,1,2,3,4,5]) (n:=⟨nid,nag,nsq,nst,.fz R.length none (rcs R),R⟩) hcf' hdf rfl ?_⟩
     exact ⟨rfl,by decide,⟨⟨rfl,rfl⟩,⟨rfl,rfl⟩,⟨rfl,rfl⟩,⟨rfl,rfl⟩,⟨rfl,rfl⟩,⟨rfl,rfl⟩,⟨rfl,rfl⟩,trivial⟩,⟨⟨rfl,rfl⟩,⟨Za6 hdf,by rw [Zac hdf];rfl⟩,⟨rfl,rfl⟩,⟨rfl,rfl⟩,⟨rfl,rfl⟩,⟨Za6 (Zad _),by rw [Zac (Zad _)];rfl⟩,trivial⟩⟩
    ·conv=>whnf
     repeat' (first|(refine Zae rfl hnsl rfl hlt ?_;rw [hdR];conv=>whnf)|(refine EHead.mk (v:=.int .u8 sl) rfl ?_;conv=>whnf)|(refine Zam (q':=.i64) rfl (i64_in (by omega)) ?_;conv=>whnf)|(refine Zbb (m:=1) rfl rfl rfl rfl (by decide) (by decide) ?_;conv=>whnf)|((first|refine w7 rfl rfl (by omega) ?_|refine ⟨rfl,?_⟩);conv=>whnf)|fail)
     refine ⟨(i+1,⟨([]:List (Int×List Nat))++[(sl,b0::bt)],p⟩),⟨hlt,Zdj hx (by omega) hsl (by first|exact hb78|exact hb1),by show (([]:List (Int×List Nat))++[(sl,b0::bt)]).length≤i+1;rw [List.length_append];show _+1≤i+1;omega,hgo _ hnb (by unfold Zec Zdp;rw [if_neg h255];rfl)⟩,by show R.length-(i+1)<R.length-i;omega,Zvs (S:=([]:List (Int×List Nat))) (i:=i+1) (a:=a) (sl:=sl) (see:=b0::bt) (cp:=some 128) (p:=p) (rs:=[0,1,2,3,4,7,9,5]) (n:=⟨nid,nag,nsq,nst,.fz R.length none (rcs R),R⟩) hcf' hdf rfl ?_⟩
     exact ⟨rfl,by decide,⟨⟨rfl,rfl⟩,⟨rfl,rfl⟩,⟨rfl,rfl⟩,⟨rfl,rfl⟩,⟨rfl,rfl⟩,⟨rfl,rfl⟩,⟨rfl,rfl⟩,trivial⟩,⟨⟨rfl,rfl⟩,⟨Za6 hdf,by rw [Zac hdf];rfl⟩,⟨rfl,rfl⟩,⟨rfl,rfl⟩,⟨by show (true && (true && (true && (_ && (_ && (bd _ (Zcu p) && true))))))=true;rw [Zbe _ (Za4 p)];rfl,by show _=some (AObj.row 36 [_,_,_,_,_,Zed _ (Zcu p)]);rw [Zao _ (Za4 p)];rfl⟩,⟨by show bds _ (Zd8 _++[_])=true;rw [Zcz (Zaw _)];rfl,by show _=some (AObj.row 3 (Zbx _ (Zd8 _++[_])));rw [Zbr (Zaw _)];rfl⟩,⟨by show bds _ (List.map _ _++[_])=true;rw [Zcz (Za1 _)];rfl,by show _=some (AObj.row 32 (Zbx _ (List.map _ _++[_])));rw [Zbr (Za1 _)];rfl⟩,⟨Za6 (Zad _),by rw [Zac (Zad _)];rfl⟩,trivial⟩⟩
   ·conv=>whnf
    refine Za0 rfl rfl (by omega) (by omega) ?_;conv=>whnf
    refine Zas (a:=((b0:Nat):Int)) (b:=0) rfl rfl (fun h3=>?_) (fun h3=>?_)
    ·conv=>whnf
     skip
     exact ⟨.inr rfl,_,_,rfl,rfl,hbad (by rw [hrb,decide_eq_true (show b0≠0 by omega)];simp) _⟩
    ·have hnb:Zet ⟨sl,true,su⟩ (b0::bt)=false:=by rw [hrb,decide_eq_false (by simpa using h1),decide_eq_false (show ¬ b0=78 by omega),decide_eq_false (show ¬ b0≠0 by omega)];rfl
     conv=>whnf
     refine Za0 rfl rfl (by omega) (by omega) ?_;conv=>whnf
     refine Zae rfl hnsl rfl hlt ?_
     rw [hdR]
     conv=>whnf
     refine EHead.mk (v:=.int .u8 sl) rfl ?_;conv=>whnf
     refine Za7 (a:=sl) (b:=255) rfl rfl (fun h255=>?_) (fun h255=>?_)
     ·conv=>whnf
      repeat' (first|((first|refine w7 rfl rfl (by omega) ?_|refine ⟨rfl,?_⟩);conv=>whnf)|fail)
      refine ⟨(i+1,⟨([]:List (Int×List Nat)),some (78::bt)⟩),⟨hlt,Zdi hx (by first|exact hb78|exact hb1),by show (([]:List (Int×List Nat))).length≤i+1;omega,hgo _ hnb (by unfold Zec Zdp;rw [if_pos h255];rfl)⟩,by show R.length-(i+1)<R.length-i;omega,Zvr (S:=([]:List (Int×List Nat))) (i:=i+1) (a:=a) (see:=78::bt) (cp:=some 128) (p':=p) (rs:=[0,1,2,3,4,5]) (n:=⟨nid,nag,nsq,nst,.fz R.length none (rcs R),R⟩) hcf' hdf rfl ?_⟩
      exact ⟨rfl,by decide,⟨⟨rfl,rfl⟩,⟨rfl,rfl⟩,⟨rfl,rfl⟩,⟨rfl,rfl⟩,⟨rfl,rfl⟩,⟨rfl,rfl⟩,⟨rfl,rfl⟩,trivial⟩,⟨⟨rfl,rfl⟩,⟨Za6 hdf,by rw [Zac hdf];rfl⟩,⟨rfl,rfl⟩,⟨rfl,rfl⟩,⟨rfl,rfl⟩,⟨Za6 (Zad _),by rw [Zac (Zad _)];rfl⟩,trivial⟩⟩
     ·conv=>whnf
      repeat' (first|(refine Zae rfl hnsl rfl hlt ?_;rw [hdR];conv=>whnf)|(refine EHead.mk (v:=.int .u8 sl) rfl ?_;conv=>whnf)|(refine Zam (q':=.i64) rfl (i64_in (by omega)) ?_;conv=>whnf)|(refine Zbb (m:=1) rfl rfl rfl rfl (by decide) (by decide) ?_;conv=>whnf)|((first|refine w7 rfl rfl (by omega) ?_|refine ⟨rfl,?_⟩);conv=>whnf)|fail)
      refine ⟨(i+1,⟨([]:List (Int×List Nat))++[(sl,78::bt)],p⟩),⟨hlt,Zdj hx (by omega) hsl (by first|exact hb78|exact hb1),by show (([]:List (Int×List Nat))++[(sl,78::bt)]).length≤i+1;rw [List.length_append];show _+1≤i+1;omega,hgo _ hnb (by unfold Zec Zdp;rw [if_neg h255];rfl)⟩,by show R.length-(i+1)<R.length-i;omega,Zvs (S:=([]:List (Int×List Nat))) (i:=i+1) (a:=a) (sl:=sl) (see:=78::bt) (cp:=some 128) (p:=p) (rs:=[0,1,2,3,4,7,9,5]) (n:=⟨nid,nag,nsq,nst,.fz R.length none (rcs R),R⟩) hcf' hdf rfl ?_⟩
      exact ⟨rfl,by decide,⟨⟨rfl,rfl⟩,⟨rfl,rfl⟩,⟨rfl,rfl⟩,⟨rfl,rfl⟩,⟨rfl,rfl⟩,⟨rfl,rfl⟩,⟨rfl,rfl⟩,trivial⟩,⟨⟨rfl,rfl⟩,⟨Za6 hdf,by rw [Zac hdf];rfl⟩,⟨rfl,rfl⟩,⟨rfl,rfl⟩,⟨by show (true && (true && (true && (_ && (_ && (bd _ (Zcu p) && true))))))=true;rw [Zbe _ (Za4 p)];rfl,by show _=some (AObj.row 36 [_,_,_,_,_,Zed _ (Zcu p)]);rw [Zao _ (Za4 p)];rfl⟩,⟨by show bds _ (Zd8 _++[_])=true;rw [Zcz (Zaw _)];rfl,by show _=some (AObj.row 3 (Zbx _ (Zd8 _++[_])));rw [Zbr (Zaw _)];rfl⟩,⟨by show bds _ (List.map _ _++[_])=true;rw [Zcz (Za1 _)];rfl,by show _=some (AObj.row 32 (Zbx _ (List.map _ _++[_])));rw [Zbr (Za1 _)];rfl⟩,⟨Za6 (Zad _),by rw [Zac (Zad _)];rfl⟩,trivial⟩⟩
  ·conv=>whnf
   refine Zaa rfl hnsl ?_;conv=>whnf
   refine Zab (a:=(i:Int)) (b:=(R.length:Int)) rfl rfl (fun _=>?_) (fun h=>by omega);conv=>whnf
   refine Zah (a:=(i:Int)) (b:=1) rfl rfl (by omega) ?_
   rw [show (i:Int)+1=((i+1:Nat):Int) by omega]
   conv=>whnf
   refine hat _ _ ?_;conv=>whnf
   refine ESc.ov h114 hwh ?_;conv=>whnf
   refine Zae rfl hnsl rfl hlt ?_
   rw [hdR]
   conv=>whnf
   refine EHead.mk (v:=.bool ba) rfl ?_;conv=>whnf
   refine Zae rfl hnsl rfl hlt ?_
   rw [hdR]
   conv=>whnf
   refine EHead.mk (v:=.int .u32 su) rfl ?_;conv=>whnf
   refine ESc.ov h115 (Zrl rfl hb1.1 hb1.2) ?_;conv=>whnf
   refine ⟨rfl,?_⟩;conv=>whnf
   refine EHead.mk (v:=.int .u32 su) rfl ?_;conv=>whnf
   refine ⟨rfl,?_⟩;conv=>whnf
   refine Zas (a:=((Zen (b0::bt):Nat):Int)) (b:=su) rfl rfl (fun h1=>?_) (fun h1=>?_)
   ·conv=>whnf
    skip
    exact ⟨.inr rfl,_,_,rfl,rfl,hbad (by rw [hrb,decide_eq_true h1];rfl) _⟩
   conv=>whnf
   refine Za0 rfl rfl (by omega) (by omega) ?_;conv=>whnf
   refine Za7 (a:=((b0:Nat):Int)) (b:=78) rfl rfl (fun h2=>?_) (fun h2=>?_)
   ·conv=>whnf
    skip
    exact ⟨.inr rfl,_,_,rfl,rfl,hbad (by rw [hrb,decide_eq_true (show b0=78 by omega)];simp) _⟩
   cases ba
   ·have hnb:Zet ⟨sl,false,su⟩ (b0::bt)=false:=by rw [hrb,decide_eq_false (by simpa using h1),decide_eq_false (show ¬ b0=78 by omega)];rfl
    conv=>whnf
    refine Zae rfl hnsl rfl hlt ?_
    rw [hdR]
    conv=>whnf
    refine EHead.mk (v:=.int .u8 sl) rfl ?_;conv=>whnf
    refine Za7 (a:=sl) (b:=255) rfl rfl (fun h255=>?_) (fun h255=>?_)
    ·conv=>whnf
     repeat' (first|((first|refine w7 rfl rfl (by omega) ?_|refine ⟨rfl,?_⟩);conv=>whnf)|fail)
     refine ⟨(i+1,⟨(q::S),some (b0::bt)⟩),⟨hlt,Zdi hx (by first|exact hb78|exact hb1),by show ((q::S)).length≤i+1;omega,hgo _ hnb (by unfold Zec Zdp;rw [if_pos h255];rfl)⟩,by show R.length-(i+1)<R.length-i;omega,Zvr (S:=(q::S)) (i:=i+1) (a:=a) (see:=b0::bt) (cp:=some 128) (p':=p) (rs:=[0,1,2,3,4,5,6,7]) (n:=⟨nid,nag,nsq,nst,.fz R.length none (rcs R),R⟩) hcf' hdf rfl ?_⟩
     exact ⟨rfl,by decide,⟨⟨rfl,rfl⟩,⟨rfl,rfl⟩,⟨rfl,rfl⟩,⟨rfl,rfl⟩,⟨rfl,rfl⟩,⟨rfl,rfl⟩,⟨rfl,rfl⟩,trivial⟩,⟨⟨rfl,rfl⟩,⟨Za6 hdf,by rw [Zac hdf];rfl⟩,⟨rfl,rfl⟩,⟨rfl,rfl⟩,⟨rfl,rfl⟩,⟨Za6 (Zaw _),by rw [Zac (Zaw _)];rfl⟩,⟨Za6 (Za1 _),by rw [Zac (Za1 _)];rfl⟩,⟨Za6 (Zad _),by rw [Zac (Zad _)];rfl⟩,trivial⟩⟩
    ·conv=>whnf
     repeat' (first|(refine Zae rfl hnsl rfl hlt ?_;rw [hdR];conv=>whnf)|(refine EHead.mk (v:=.int .u8 sl) rfl ?_;conv=>whnf)|(refine Zam (q':=.i64) rfl (i64_in (by omega)) ?_;conv=>whnf)|(refine Zb6 (m:=1) rfl rfl rfl rfl (by simp [Zd8]) rfl (by decide) (by simp at hxl;omega) ?_;conv=>whnf)|((first|refine w7 rfl rfl (by omega) ?_|refine ⟨rfl,?_⟩);conv=>whnf)|fail)
     refine ⟨(i+1,⟨(q::S)++[(sl,b0::bt)],p⟩),⟨hlt,Zdj hx (by omega) hsl (by first|exact hb78|exact hb1),by show ((q::S)++[(sl,b0::bt)]).length≤i+1;rw [List.length_append];show _+1≤i+1;omega,hgo _ hnb (by unfold Zec Zdp;rw [if_neg h255];rfl)⟩,by show R.length-(i+1)<R.length-i;omega,Zvs (S:=(q::S)) (i:=i+1) (a:=a) (sl:=sl) (see:=b0::bt) (cp:=some 128) (p:=p) (rs:=[0,1,2,3,4,9,11,7]) (n:=⟨nid,nag,nsq,nst,.fz R.length none (rcs R),R⟩) hcf' hdf rfl ?_⟩
     exact ⟨rfl,by decide,⟨⟨rfl,rfl⟩,⟨rfl,rfl⟩,⟨rfl,rfl⟩,⟨rfl,rfl⟩,⟨rfl,rfl⟩,⟨rfl,rfl⟩,⟨rfl,rfl⟩,trivial⟩,⟨⟨rfl,rfl⟩,⟨Za6 hdf,by rw [Zac hdf];rfl⟩,⟨rfl,rfl⟩,⟨rfl,rfl⟩,⟨by show (true && (true && (true && (_ && (_ && (bd _ (Zcu p) && true))))))=true;rw [Zbe _ (Za4 p)];rfl,by show _=some (AObj.row 36 [_,_,_,_,_,Zed _ (Zcu p)]);rw [Zao _ (Za4 p)];rfl⟩,⟨by show bds _ (Zd8 _++[_])=true;rw [Zcz (Zaw _)];rfl,by show _=some (AObj.row 3 (Zbx _ (Zd8 _++[_])));rw [Zbr (Zaw _)];rfl⟩,⟨by show bds _ (List.map _ _++[_])=true;rw [Zcz (Za1 _)];rfl,by show _=some (AObj.row 32 (Zbx _ (List.map _ _++[_])));rw [Zbr (Za1 _)];rfl⟩,⟨Za6 (Zad _),by rw [Zac (Zad _)];rfl⟩,trivial⟩⟩
   ·conv=>whnf
    refine Za0 rfl rfl (by omega) (by omega) ?_;conv=>whnf
    refine Zas (a:=((b0:Nat):Int)) (b:=0) rfl rfl (fun h3=>?_) (fun h3=>?_)
    ·conv=>whnf
     skip
     exact ⟨.inr rfl,_,_,rfl,rfl,hbad (by rw [hrb,decide_eq_true (show b0≠0 by omega)];simp) _⟩
    ·have hnb:Zet ⟨sl,true,su⟩ (b0::bt)=false:=by rw [hrb,decide_eq_false (by simpa using h1),decide_eq_false (show ¬ b0=78 by omega),decide_eq_false (show ¬ b0≠0 by omega)];rfl
     conv=>whnf
     refine Za0 rfl rfl (by omega) (by omega) ?_;conv=>whnf
     refine Zae rfl hnsl rfl hlt ?_
     rw [hdR]
     conv=>whnf
     refine EHead.mk (v:=.int .u8 sl) rfl ?_;conv=>whnf
     refine Za7 (a:=sl) (b:=255) rfl rfl (fun h255=>?_) (fun h255=>?_)
     ·conv=>whnf
      repeat' (first|((first|refine w7 rfl rfl (by omega) ?_|refine ⟨rfl,?_⟩);conv=>whnf)|fail)
      refine ⟨(i+1,⟨(q::S),some (78::bt)⟩),⟨hlt,Zdi hx (by first|exact hb78|exact hb1),by show ((q::S)).length≤i+1;omega,hgo _ hnb (by unfold Zec Zdp;rw [if_pos h255];rfl)⟩,by show R.length-(i+1)<R.length-i;omega,Zvr (S:=(q::S)) (i:=i+1) (a:=a) (see:=78::bt) (cp:=some 128) (p':=p) (rs:=[0,1,2,3,4,5,6,7]) (n:=⟨nid,nag,nsq,nst,.fz R.length none (rcs R),R⟩) hcf' hdf rfl ?_⟩
      exact ⟨rfl,by decide,⟨⟨rfl,rfl⟩,⟨rfl,rfl⟩,⟨rfl,rfl⟩,⟨rfl,rfl⟩,⟨rfl,rfl⟩,⟨rfl,rfl⟩,⟨rfl,rfl⟩,trivial⟩,⟨⟨rfl,rfl⟩,⟨Za6 hdf,by rw [Zac hdf];rfl⟩,⟨rfl,rfl⟩,⟨rfl,rfl⟩,⟨rfl,rfl⟩,⟨Za6 (Zaw _),by rw [Zac (Zaw _)];rfl⟩,⟨Za6 (Za1 _),by rw [Zac (Za1 _)];rfl⟩,⟨Za6 (Zad _),by rw [Zac (Zad _)];rfl⟩,trivial⟩⟩
     ·conv=>whnf
      repeat' (first|(refine Zae rfl hnsl rfl hlt ?_;rw [hdR];conv=>whnf)|(refine EHead.mk (v:=.int .u8 sl) rfl ?_;conv=>whnf)|(refine Zam (q':=.i64) rfl (i64_in (by omega)) ?_;conv=>whnf)|(refine Zb6 (m:=1) rfl rfl rfl rfl (by simp [Zd8]) rfl (by decide) (by simp at hxl;omega) ?_;conv=>whnf)|((first|refine w7 rfl rfl (by omega) ?_|refine ⟨rfl,?_⟩);conv=>whnf)|fail)
      refine ⟨(i+1,⟨(q::S)++[(sl,78::bt)],p⟩),⟨hlt,Zdj hx (by omega) hsl (by first|exact hb78|exact hb1),by show ((q::S)++[(sl,78::bt)]).length≤i+1;rw [List.length_append];show _+1≤i+1;omega,hgo _ hnb (by unfold Zec Zdp;rw [if_neg h255];rfl)⟩,by show R.length-(i+1)<R.length-i;omega,Zvs (S:=(q::S)) (i:=i+1) (a:=a) (sl:=sl) (see:=78::bt) (cp:=some 128) (p:=p) (rs:=[0,1,2,3,4,9,11,7]) (n:=⟨nid,nag,nsq,nst,.fz R.length none (rcs R),R⟩) hcf' hdf rfl ?_⟩
      exact ⟨rfl,by decide,⟨⟨rfl,rfl⟩,⟨rfl,rfl⟩,⟨rfl,rfl⟩,⟨rfl,rfl⟩,⟨rfl,rfl⟩,⟨rfl,rfl⟩,⟨rfl,rfl⟩,trivial⟩,⟨⟨rfl,rfl⟩,⟨Za6 hdf,by rw [Zac hdf];rfl⟩,⟨rfl,rfl⟩,⟨rfl,rfl⟩,⟨by show (true && (true && (true && (_ && (_ && (bd _ (Zcu p) && true))))))=true;rw [Zbe _ (Za4 p)];rfl,by show _=some (AObj.row 36 [_,_,_,_,_,Zed _ (Zcu p)]);rw [Zao _ (Za4 p)];rfl⟩,⟨by show bds _ (Zd8 _++[_])=true;rw [Zcz (Zaw _)];rfl,by show _=some (AObj.row 3 (Zbx _ (Zd8 _++[_])));rw [Zbr (Zaw _)];rfl⟩,⟨by show bds _ (List.map _ _++[_])=true;rw [Zcz (Za1 _)];rfl,by show _=some (AObj.row 32 (Zbx _ (List.map _ _++[_])));rw [Zbr (Za1 _)];rfl⟩,⟨Za6 (Zad _),by rw [Zac (Zad _)];rfl⟩,trivial⟩⟩
 ·obtain rfl:i=R.length:=by omega
  have hG':Zf5 B R R.length 1 ⟨[],none⟩=some x:=by rw [hG,List.drop_eq_nil_of_le (Nat.le_refl _)];cases (R.length-R.length) <;> rfl
  have hk3:=k3 x hx hG'
  obtain ⟨S,p⟩:=x
  clear hG hG' k2 k3
  rcases S with _|⟨q,S⟩
  ·conv=>whnf
   refine Zaa rfl hnsl ?_;conv=>whnf
   refine Zab (a:=(R.length:Int)) (b:=(R.length:Int)) rfl rfl (fun _=>by omega) (fun _=>?_);conv=>whnf
   refine W.tells (Abs.tells (tl:=tlU a R.length) (os:=osU [.int .u32 id,.int .i64 mb,.int .i64 ch,.int .i64 rw',.int .i64 lg,.int .i64 hdd] [bv,wv,.bool dd] ⟨nid,nag,nsq,nst,.fz R.length none (rcs R),R⟩ ⟨[],p⟩) (rs:=[0,1,2,3,4]) ⟨by decide,⟨⟨rfl,rfl⟩,⟨rfl,rfl⟩,⟨rfl,rfl⟩,⟨rfl,rfl⟩,⟨rfl,rfl⟩,⟨rfl,rfl⟩,⟨rfl,rfl⟩,trivial⟩,⟨⟨rfl,rfl⟩,⟨Za6 hdf,by rw [Zac hdf];rfl⟩,⟨rfl,rfl⟩,⟨rfl,rfl⟩,⟨by show (true && (true && (true && (_ && (_ && (bd _ (Zcu p) && true))))))=true;rw [Zbe _ (Za4 p)];rfl,by show _=some (AObj.row 36 [_,_,_,_,_,Zed _ (Zcu p)]);rw [Zao _ (Za4 p)];rfl⟩,trivial⟩⟩) hk3
  ·conv=>whnf
   refine Zaa rfl hnsl ?_;conv=>whnf
   refine Zab (a:=(R.length:Int)) (b:=(R.length:Int)) rfl rfl (fun _=>by omega) (fun _=>?_);conv=>whnf
   refine W.tells (Abs.tells (tl:=tlU a R.length) (os:=osU [.int .u32 id,.int .i64 mb,.int .i64 ch,.int .i64 rw',.int .i64 lg,.int .i64 hdd] [bv,wv,.bool dd] ⟨nid,nag,nsq,nst,.fz R.length none (rcs R),R⟩ ⟨q::S,p⟩) (rs:=[0,1,2,3,4,5,6]) ⟨by decide,⟨⟨rfl,rfl⟩,⟨rfl,rfl⟩,⟨rfl,rfl⟩,⟨rfl,rfl⟩,⟨rfl,rfl⟩,⟨rfl,rfl⟩,⟨rfl,rfl⟩,trivial⟩,⟨⟨rfl,rfl⟩,⟨Za6 hdf,by rw [Zac hdf];rfl⟩,⟨rfl,rfl⟩,⟨rfl,rfl⟩,⟨by show (true && (true && (true && (_ && (_ && (bd _ (Zcu p) && true))))))=true;rw [Zbe _ (Za4 p)];rfl,by show _=some (AObj.row 36 [_,_,_,_,_,Zed _ (Zcu p)]);rw [Zao _ (Za4 p)];rfl⟩,⟨Za6 (Zaw _),by rw [Zac (Zaw _)];rfl⟩,⟨Za6 (Za1 _),by rw [Zac (Za1 _)];rfl⟩,trivial⟩⟩) hk3
end Go.AM
set_option maxRecDepth 100000
namespace Go.AM
attribute [local irreducible] W
open X
theorem st_rest {P:Program}{e:Env}(hE:EnvOk P e) (hm:P.follows .mixedOrders=true) (h116:Con e 116 dlmF.O) {c:Cfg}(hc:c.ok) (hM:c.may) {D:List AV}(hdf:hfs D=true) (hdl:∃ a b d,D=[a,b,d]) {n:Nt}(hn:n.ok) (hs:n.v=.fz n.recs.length none (rcs n.recs)) {y:RdS}(hy:y.ok) {a:Int}{K:AV→St→Prop}
 (k1:Zfk c (Zhr n.stripe y).d=true→∀ s,K (.tup [.agg (fC n.age n.seq n.stripe y),.int .i64 (1+(n.recs.length:Int))]) s) (k0:Zfk c (Zhr n.stripe y).d=false→∀ s,K stNo s):
 W P 0 none Zpd (ofL (tlU a n.recs.length)) (Zai St0 (osU c.c D n y)) [] (Zhv [.cells 6 6,.tmp 7] K):=by
 have hnv:AM.hf n.v=true:=by rw [hs];rfl
 have hnc:hfs (ntC n n.v)=true:=by
  show (true && (true && (true && (true && (AM.hf n.v && true)))))=true
  rw [hnv];rfl
 have hnsl:Sl 3 n.recs.length (rcs n.recs) n.v:=hn.sl
 have hok:CD.m ⟨c,(Zhr n.stripe y).d⟩:=⟨⟨hc,(Zt3 hy hn.stripe).d⟩,hM⟩
 have hMy:=fun (K:AV→St→Prop) (s:St) (hk:K (.bool (Zfk c (Zhr n.stripe y).d)) s)=>ESc.fam (k:=K) (s:=s) dlmF h116 ⟨c,(Zhr n.stripe y).d⟩ hok rfl hk
 have hMy:∀ (K:AV→St→Prop) (s:St),K (.bool (Zfk c (Zhr n.stripe y).d)) s→ESc e 116 [c.v,.agg [.int .i64 n.stripe,Zvw y.S,Zj2 y.S,Zcu y.p]] s K:=hMy
 have hnl:=hn.len
 have f1:=Zqp y.S
 have f2:=Zft y.S
 have f3:=Za4 y.p
 have main:W P 0 none Zpd (ofL (tlU a n.recs.length)) (Zai St0 (osT c.c D (fC n.age n.seq n.stripe y) (ntC n n.v))) [] (Zhv [.cells 6 6,.tmp 7] K):=by
  refine Zkt hE hm ?_
  generalize Zfk c (Zhr n.stripe y).d=q at *
  obtain ⟨nid,nag,nsq,nst,nv,R⟩:=n
  obtain ⟨id,mb,ch,rw',lg,hdd⟩:=c
  obtain ⟨d1,d2,d3,rfl⟩:=hdl
  dsimp only at hnsl hnl
  show VW P e 0 Zpd (ofL [(2,.int .i64 a),(3,.ptr 0 0),(4,.ptr 1 0),(6,.ptr 2 0),(8,.ptr 3 0),(10,.ptr 4 0),(11,.int .i64 (R.length:Int))]) (Zai St0 [.row 24 [.int .u32 id,.int .i64 mb,.int .i64 ch,.int .i64 rw',.int .i64 lg,.int .i64 hdd],.row 28 [d1,d2,d3],.row 36 zFc,.row 101 [.int .u32 nid,.int .u32 nag,.int .u32 nsq,.int .i64 nst,nv],.row 36 [.int .u32 nag,.int .u32 nsq,.int .i64 nst,Zvw y.S,Zj2 y.S,Zcu y.p]]) none [] _
  conv=>whnf
  refine hMy _ _ ?_
  cases q
  ·conv=>whnf
   repeat' (first|(refine w13 rfl ?_;conv=>whnf)|fail)
   exact k0 rfl _
  ·conv=>whnf
   repeat' (first|(refine Zaa rfl hnsl ?_;conv=>whnf)|((first|refine w7 rfl rfl (by omega) ?_|refine w12 rfl ?_|refine ⟨rfl,?_⟩);conv=>whnf)|fail)
   exact k1 rfl _
 obtain ⟨S,p⟩:=y
 cases S with
 | nil=>exact main
 | cons q S=>
  have hpv:∀ m cs,frnV m cs (Zcu p)=Zcu p:=fun m cs=>Zqq _ (Za4 p)
  have hcf:hfs c.c=true:=rfl
  have h1:=AbsK.frn (P:=P) (k:=0) (n:=6) (e:=32) (cs:=(q::S).map fun p:Int×List Nat=>fzN p.2) (t:=ofL (tlU a n.recs.length)) (s:=Zai St0 (osU c.c D n ⟨q::S,p⟩)) (tl:=tlU a n.recs.length) (tl2:=tlU a n.recs.length) (rs:=[0,1,2,3,4,5,6])
   (os:=[.row 24 c.c,.row 28 D,.row 36 zFc,.row 101 (ntC n n.v),.row 36 [.int .u32 n.age,.int .u32 n.seq,.int .i64 n.stripe,.sl 5 0 (S.length+1) none,.sl 6 0 (S.length+1) none,Zcu p],.row 3 (Zd8 ((q::S).map Prod.fst))])
   (os2:=[.row 24 c.c,.row 28 D,.row 36 zFc,.row 101 (ntC n n.v),.row 36 [.int .u32 n.age,.int .u32 n.seq,.int .i64 n.stripe,.sl 5 0 (S.length+1) none,Zj2 (q::S),Zcu p],.row 3 (Zd8 ((q::S).map Prod.fst))])
   ⟨rfl,by decide,⟨⟨rfl,rfl⟩,⟨rfl,rfl⟩,⟨rfl,rfl⟩,⟨rfl,rfl⟩,⟨rfl,rfl⟩,⟨rfl,rfl⟩,⟨rfl,rfl⟩,trivial⟩,⟨⟨rfl,rfl⟩,⟨Za6 hdf,by rw [Zac hdf];rfl⟩,⟨rfl,rfl⟩,⟨Za6 hnc,by rw [Zac hnc];rfl⟩,⟨by show (true && (true && (true && (_ && (_ && (bd _ (Zcu p) && true))))))=true;rw [Zbe _ (Za4 p)];rfl,by show _=some (AObj.row 36 [_,_,_,_,_,Zed _ (Zcu p)]);rw [Zao _ (Za4 p)];rfl⟩,⟨Za6 (Zaw _),by rw [Zac (Zaw _)];rfl⟩,⟨Za6 (Za1 _),by rw [Zac (Za1 _)];rfl⟩,trivial⟩⟩ rfl (Za1 _) rfl rfl rfl rfl rfl (by
     show [frnO 6 _ (.row 24 c.c),frnO 6 _ (.row 28 D),_,frnO 6 _ (.row 101 (ntC n n.v)),AObj.row 36 [_,_,_,_,_,frnV 6 _ (Zcu p)],frnO 6 _ (.row 3 (Zd8 ((q::S).map Prod.fst)))]=_
     rw [hpv,Zfb hcf,Zfb hdf,Zfb hnc,Zfb (Zaw _)];rfl)
  have h2:=AbsK.frz (P:=P) (k:=0) (n:=5) (e:=3) (cs:=Zd8 ((q::S).map Prod.fst)) (t:=ofL (tlU a n.recs.length)) (s:=Zai St0 ([.row 24 c.c,.row 28 D,.row 36 zFc,.row 101 (ntC n n.v),.row 36 [.int .u32 n.age,.int .u32 n.seq,.int .i64 n.stripe,.sl 5 0 (S.length+1) none,Zj2 (q::S),Zcu p],.row 3 (Zd8 ((q::S).map Prod.fst))])) (tl:=tlU a n.recs.length) (tl2:=tlU a n.recs.length) (rs:=[0,1,2,3,4,5])
   (os:=[.row 24 c.c,.row 28 D,.row 36 zFc,.row 101 (ntC n n.v),.row 36 [.int .u32 n.age,.int .u32 n.seq,.int .i64 n.stripe,.sl 5 0 (S.length+1) none,Zj2 (q::S),Zcu p]])
   (os2:=[.row 24 c.c,.row 28 D,.row 36 zFc,.row 101 (ntC n n.v),.row 36 (fC n.age n.seq n.stripe ⟨q::S,p⟩)])
   ⟨rfl,by decide,⟨⟨rfl,rfl⟩,⟨rfl,rfl⟩,⟨rfl,rfl⟩,⟨rfl,rfl⟩,⟨rfl,rfl⟩,⟨rfl,rfl⟩,⟨rfl,rfl⟩,trivial⟩,⟨⟨rfl,rfl⟩,⟨Za6 hdf,by rw [Zac hdf];rfl⟩,⟨rfl,rfl⟩,⟨Za6 hnc,by rw [Zac hnc];rfl⟩,⟨by show (true && (true && (true && (true && (bd 6 (Zj2 (q::S)) && (bd 6 (Zcu p) && true))))))=true;rw [Zbe _ (Zft _),Zbe _ (Za4 p)];rfl,by show _=some (AObj.row 36 [_,_,_,_,Zed _ (Zj2 (q::S)),Zed _ (Zcu p)]);rw [Zao _ (Zft _),Zao _ (Za4 p)];rfl⟩,⟨Za6 (Zaw _),by rw [Zac (Zaw _)];rfl⟩,trivial⟩⟩ rfl (Zaw _) rfl rfl rfl rfl rfl (by
     show [frzO 5 _ (.row 24 c.c),frzO 5 _ (.row 28 D),_,frzO 5 _ (.row 101 (ntC n n.v)),AObj.row 36 [_,_,_,_,frzV 5 _ (Zj2 (q::S)),frzV 5 _ (Zcu p)]]=_
     rw [Zjk _ (Zft _),Zjk _ (Za4 p),Zby hcf,Zby hdf,Zby hnc];rfl)
  exact W.tells (h1.trans h2) main
theorem Zrx (B:Nat→List Nat):∀ (R:List Rc) (n i:Nat) (x:RdS),R.length≤n→Zf5 B R n i x=Zf5 B R R.length i x
 | [],n,i,x,_=>by cases n <;> rfl
 | r::R,0,i,x,h=>by simp at h
 | r::R,n+1,i,x,h=>by
  show (if Zet r (B i)=true then none else Zf5 B R n (i+1) (Zec r (B i) x))=if Zet r (B i)=true then none else Zf5 B R R.length (i+1) (Zec r (B i) x)
  rw [Zrx B R n (i+1) _ (by simpa using h)]
theorem Zt2 {x:CDA}(hx:x.ok) (hk:Zib x=0) (hg:Zdm (rbk x 0)=true) (hid:(Zak (rbk x 0)).id=x.c.id):
 rdF x=match Zf5 (rbk x) (Zak (rbk x 0)).recs (Zak (rbk x 0)).recs.length 1 ⟨[],none⟩ with
  | none=>none
  | some y=>if Zfk x.c (Zhr (Zak (rbk x 0)).stripe y).d=true then some ⟨Zak (rbk x 0),y⟩ else none:=by
 have hM:=(ask0 hk).1
 have hgood:∀ y:RdS,CD.good ⟨x.c,(Zhr (Zak (rbk x 0)).stripe y).d⟩↔Zfk x.c (Zhr (Zak (rbk x 0)).stripe y).d=true:=fun y=>⟨fun h=>h.2,fun h=>⟨hM,h⟩⟩
 have h1:rdF x=match Zf5 (rbk x) (Zak (rbk x 0)).recs (x.c.log.toNat-1) 1 ⟨[],none⟩ with
  | none=>none
  | some y=>if Zfk x.c (Zhr (Zak (rbk x 0)).stripe y).d=true then some ⟨Zak (rbk x 0),y⟩ else none:=by
  unfold rdF
  rw [if_pos hk,if_pos ⟨hg,hid⟩]
  cases Zf5 (rbk x) (Zak (rbk x 0)).recs (x.c.log.toNat-1) 1 ⟨[],none⟩ with
  | none=>rfl
  | some y=>
   dsimp only
   by_cases h:Zfk x.c (Zhr (Zak (rbk x 0)).stripe y).d=true
   ·rw [if_pos h,if_pos ((hgood y).2 h)]
   ·rw [if_neg h,if_neg (fun h'=>h ((hgood y).1 h'))]
 rcases Nat.lt_or_ge (x.c.log.toNat-1) (Zak (rbk x 0)).recs.length with hq|hq
 ·have hL:rdF x=none:=by
   cases hc:rdF x with
   | none=>rfl
   | some f=>
    exfalso
    have hF:=Zik hc
    have e1:=hF.n
    have e2:=hF.go
    have e3:=hF.cd
    rw [e1] at e2 e3
    have hd:=(Yix hx hF.ask hF.good hF.id e2 e3).n
    omega
  rw [hL]
  cases hG:Zf5 (rbk x) (Zak (rbk x 0)).recs (Zak (rbk x 0)).recs.length 1 ⟨[],none⟩ with
  | none=>rfl
  | some y=>
   dsimp only
   rw [if_neg]
   intro hD
   have hp:pad (rbk x 0)=rbk x 0:=Zc0 (Zgm hx hk 0).1
   have hg':=hg
   unfold Zdm at hg'
   rw [Bool.and_eq_true,decide_eq_true_eq,hp] at hg'
   have hnb:=hg'.1
   unfold Zcd at hnb
   rw [Bool.and_eq_true] at hnb
   obtain ⟨hh,hrb⟩:=hnb
   unfold Zjl at hh
   have hh:=of_decide_eq_true hh
   have hso:∀ r ∈ (Zak (rbk x 0)).recs,0≤r.slot∧r.slot<256:=fun r hr=>((Zph (Zgm hx hk 0).2).rc r hr).1
   obtain ⟨⟨L,g1,g2,g3⟩,g4,_⟩:=Zqc (Zak (rbk x 0)).recs.length (Zak (rbk x 0)).recs _ 1 0 (-1) ⟨[],none⟩ y (fun k _=>Zgm hx hk k) hG rfl hrb (by omega) Znh (by show 0+_≤17;omega) hso
   have g1:Yh9 y=L:=g1
   have hLl:L.length=(Zak (rbk x 0)).recs.length:=by
    have:=congrArg List.length g2
    rwa [List.length_map,List.length_take,Nat.min_self] at this
   have hSl:(Zak (rbk x 0)).recs.length≤y.S.length+1:=by
    rw [← hLl,← g1]
    unfold Yh9
    rw [List.length_append]
    cases y.p <;> simp
   have hsl:=((Zst _ _).1 hD).2.1
   have h6:=Zm3 hsl
   have h6:((y.S.map Prod.fst).length:Int)≤x.c.members-2+1:=h6
   rw [List.length_map] at h6
   have hM':=hM
   unfold Cfg.may at hM'
   have h7:(x.c.members+1)*(x.c.heads+1)≥(x.c.members+1)*3:=Int.mul_le_mul_of_nonneg_left (by omega) (by omega)
   omega
 ·rw [h1,Zrx _ _ _ _ _ hq]
structure CDA.st (x:CDA):Prop where
 ok:x.ok
 k:Zib x=0
def Zm1 (x:CDA):AV:=match rdF x with
 | some f=>.tup [.agg f.c,.int .i64 (1+(f.n.recs.length:Int))]
 | none=>stNo
def stdF:Fam CDA:=⟨CDA.st,CDA.args,Zm1,fun x y hx hy h=>by rw [CDA.inja hx.ok hy.ok h]⟩
theorem Zwk (x:CDA):AM.hf (Zm1 x)=true:=by
 unfold Zm1
 split
 ·rename_i f _
  show (hfs f.c && (true && true))=true
  rw [show hfs f.c=true from Yin _ _ _ _];rfl
 ·rfl
theorem stdF_ok {P:Program}{e:Env}{fn:Func}(hE:EnvOk P e) (hm:P.follows .mixedOrders=true) (h113:Con e 113 atF.O) (h112:Con e 112 ndF.O) (h114:Con e 114 Zdx) (h115:Con e 115 Ztt) (h116:Con e 116 dlmF.O) (hf:P.funcs[70]?=some fn) (hc:Zaj P fn=some a70) (hb:Zaf P 70):OvOk P 70 stdF.O:=by
 refine Zal hb fun x hx=>?_
 obtain ⟨hx,hk⟩:=hx
 refine ⟨CDA.hfa hx,Zwk x,C.of_W hf hc ?_⟩
 have fin:∀ s w,w=Zm1 x→Frz s w (stdF.out x):=by rintro s w rfl;exact .plain _ (Zwk x)
 have hB0:=Zgm hx hk 0
 have hM:=(ask0 hk).1
 have hlog:x.c.log≤255:=by unfold Cfg.may at hM;omega
 have hn:=Zph hB0.2
 have hlen:=Znm (rbk x 0)
 have hat:=fun (K:AV→St→Prop) (s:St) (hk':K (fzB (rbk x 0)) s)=>ESc.fam (k:=K) (s:=s) atF h113 ⟨x,0⟩ ⟨hx,hk,(show 0<1000 by decide)⟩ rfl hk'
 have hnd:=fun (K:AV→St→Prop) (s:St) (u:AV) (hu:Zht ⟨fzB (rbk x 0),rbk x 0⟩=u) (hk':K u s)=>ESc.fam (k:=K) (s:=s) ndF h112 ⟨fzB (rbk x 0),rbk x 0⟩ ⟨Zep hB0,.inr hB0.1⟩ hu hk'
 rw [Ybo hB0.1] at hnd
 have hgo:=fun (hg:Zdm (rbk x 0)=true) (hid:(ntB (rbk x 0)).id=x.c.id)=>st_loop (K:=fun w s'=>Frz s' w (stdF.out x)) hE hm h113 h114 h115 hx hk hn rfl (by rw [show (ntB (rbk x 0)).recs.length=Zc3 (rbk x 0) from hlen];exact Nat.min_le_right _ _)
  (fun h s=>fin s _ (by unfold Zm1;rw [Zt2 hx hk hg hid];rw [show Zf5 (rbk x) (Zak (rbk x 0)).recs (Zak (rbk x 0)).recs.length 1 ⟨[],none⟩=none from h]))
  (fun y hy h=>st_rest hE hm h116 hx.c hM (Zp0 hx.d.a.wl hx.d.a.bl) ⟨_,_,_,rfl⟩ hn rfl hy
    (fun hD s=>fin s _ (by unfold Zm1;rw [Zt2 hx hk hg hid,show Zf5 (rbk x) (Zak (rbk x 0)).recs (Zak (rbk x 0)).recs.length 1 ⟨[],none⟩=some y from h];dsimp only;rw [if_pos (show Zfk x.c (Zhr (Zak (rbk x 0)).stripe y).d=true from hD)];rfl))
    (fun hD s=>fin s _ (by unfold Zm1;rw [Zt2 hx hk hg hid,show Zf5 (rbk x) (Zak (rbk x 0)).recs (Zak (rbk x 0)).recs.length 1 ⟨[],none⟩=some y from h];dsimp only;rw [if_neg (by rw [show Zfk x.c (Zhr (Zak (rbk x 0)).stripe y).d=false from hD];simp)])))
 have hno:¬ (Zdm (rbk x 0)=true∧(ntB (rbk x 0)).id=x.c.id)→∀ s,Frz s stNo (stdF.out x):=fun h s=>fin s _ (by
  unfold Zm1 rdF
  rw [if_pos hk,if_neg (show ¬ (Zdm (rbk x 0)=true∧(Zak (rbk x 0)).id=x.c.id) from h)])
 have hnv:AM.hf (ntB (rbk x 0)).v=true:=rfl
 have hdf:=Zp0 hx.d.a.wl hx.d.a.bl (d:=x.d.dead)
 clear fin
 generalize stdF.out x=O at hgo hno ⊢
 have hlen':(ntB (rbk x 0)).recs.length=Zc3 (rbk x 0):=hlen
 generalize ntB (rbk x 0)=n at *
 generalize Zdm (rbk x 0)=g at *
 generalize fzB (rbk x 0)=b0 at *
 obtain ⟨c,d,a⟩:=x
 obtain ⟨id,mb,ch,rw',lg,hdd⟩:=c
 obtain ⟨bv,us,bs,wv,ws,dd⟩:=d
 obtain ⟨nid,nag,nsq,nst,nv,R⟩:=n
 dsimp only at hdf hnv hno hgo
 have hnc:hfs [.int .u32 nid,.int .u32 nag,.int .u32 nsq,.int .i64 nst,nv]=true:=by
  show (true && (true && (true && (true && (AM.hf nv && true)))))=true
  rw [hnv];rfl
 show W P 0 none Yc3 (Zax [.agg [.int .u32 id,.int .i64 mb,.int .i64 ch,.int .i64 rw',.int .i64 lg,.int .i64 hdd],.agg [bv,wv,.bool dd],.int .i64 a] 0 .lf) St0 [] _
 refine W.seqV hE hm ?_;conv=>whnf
 refine W.seqV hE hm ?_;conv=>whnf
 refine hat _ _ ?_;conv=>whnf
 cases g
 ·refine hnd _ _ _ (by rw [if_neg (by simp)]) ?_;conv=>whnf
  refine W.seqV hE hm ?_;conv=>whnf
  repeat' (first|((refine w6 rfl rfl ?_ ?_) <;> intro _ <;> first|(exfalso;omega)|(conv=>whnf))|fail)
  exact ⟨.inr rfl,_,_,rfl,rfl,hno (fun h=>by cases h.1) _⟩
 ·refine hnd _ _ _ (by rw [if_pos rfl]) ?_;conv=>whnf
  refine W.seqV hE hm ?_;conv=>whnf
  repeat' (first|((refine w6 rfl rfl ?_ ?_) <;> intro _ <;> first|(exfalso;omega)|(conv=>whnf))|fail)
  ·rename_i h
   exact ⟨.inr rfl,_,_,rfl,rfl,hno (fun h'=>h h'.2) _⟩
  ·rename_i h
   refine W.seqV hE hm ?_;conv=>whnf
   refine W.tells (Abs.tells (tl:=[(2,.int .i64 a),(3,.ptr 0 0),(4,.ptr 1 0),(6,.ptr 2 0),(8,.ptr 3 0),(10,.ptr 4 0)]) (os:=[.row 24 [.int .u32 id,.int .i64 mb,.int .i64 ch,.int .i64 rw',.int .i64 lg,.int .i64 hdd],.row 28 [bv,wv,.bool dd],.row 36 zFc,.row 101 [.int .u32 nid,.int .u32 nag,.int .u32 nsq,.int .i64 nst,nv],.row 36 [.int .u32 nag,.int .u32 nsq,.int .i64 nst,.nils,.nils,.nils]]) (rs:=[0,1,2,3,4])
    ⟨by decide,⟨⟨rfl,rfl⟩,⟨rfl,rfl⟩,⟨rfl,rfl⟩,⟨rfl,rfl⟩,⟨rfl,rfl⟩,⟨rfl,rfl⟩,trivial⟩,⟨⟨rfl,rfl⟩,⟨Za6 hdf,by rw [Zac hdf];rfl⟩,⟨rfl,rfl⟩,⟨Za6 hnc,by rw [Zac hnc];rfl⟩,⟨rfl,rfl⟩,trivial⟩⟩) (hgo rfl h)
end Go.AM
set_option maxRecDepth 100000
namespace Go.AM
attribute [local irreducible] W
open X
end Go.AM
