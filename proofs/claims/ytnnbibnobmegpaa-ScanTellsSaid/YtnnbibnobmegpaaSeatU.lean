/-
 Functions of the program as the abstract machine reads them, and what is stated of them, checked by the kernel. No conditions.
-/
import Derived.Test.YtnnbibnobmegpaaSeatS
import Derived.Test.YtnnbibnobmegpaaSeatT
import Derived.Test.YtnnbibnobmegpaaSeatP
import Derived.Test.YtnnbibnobmegpaaSeatR
set_option linter.unusedVariables false
set_option linter.unusedSimpArgs false
namespace Go.AM
theorem Ycj (s:Nat):Zzl s=(s >>> 4) ^^^ nth0 crcT (s % 16):=by
 show Nat.div s 16 ^^^ nth0 crcT (Nat.mod s 16)=_
 rw [Nat.shiftRight_eq_div_pow];rfl
theorem Zja (s z k:Nat):(s ^^^ z*2^k) % 2^k=s % 2^k:=by
 rw [← Nat.and_two_pow_sub_one_eq_mod,← Nat.and_two_pow_sub_one_eq_mod,Nat.and_xor_distrib_right,Nat.and_two_pow_sub_one_eq_mod (z*2^k),Nat.mul_mod_left,Nat.xor_zero]
theorem Zjb (s z k:Nat):(s ^^^ z*2^k) / 2^k=s / 2^k ^^^ z:=by
 rw [← Nat.shiftRight_eq_div_pow,Nat.shiftRight_xor_distrib,Nat.shiftRight_eq_div_pow,Nat.shiftRight_eq_div_pow,Nat.mul_div_cancel _ (Nat.two_pow_pos k)]
theorem Ygp (s z:Nat):Zzl (s ^^^ z*16)=Zzl s ^^^ z:=by
 have e1:=Zja s z 4
 have e2:=Zjb s z 4
 rw [Ycj,Ycj,Nat.shiftRight_eq_div_pow,Nat.shiftRight_eq_div_pow]
 rw [show (2:Nat)^4=16 from rfl] at *
 rw [e1,e2,Nat.xor_assoc,Nat.xor_assoc,Nat.xor_comm z]
end Go.AM
set_option maxRecDepth 100000
namespace Go.AM
attribute [local irreducible] W
open X
structure UB.le (x:UB):Prop where
 b:BAt x.u x.b
 l:x.b.length≤128
theorem UB.ok.le {x:UB}(h:x.ok):x.le:=⟨h.b,by have:=h.l;omega⟩
def Zct (b:List Nat):List Nat:=b++List.replicate (128-b.length) 0
theorem Zjg {b:List Nat}(h:b.length=0∨b.length=128):Zct b=pad b:=by
 unfold Zct
 rcases h with h|h
 ·rw [List.length_eq_zero_iff.1 h];rfl
 ·rw [Zc0 h,h];exact List.append_nil b
theorem Znk {b:List Nat}(h:b.length≤128):(Zct b).length=128:=by unfold Zct;rw [List.length_append,List.length_replicate];omega
theorem Ya5 {b:List Nat}(h:∀ y ∈ b,y<256):∀ y ∈ Zct b,y<256:=by
 intro y hy
 rcases List.mem_append.1 hy with hy|hy
 ·exact h y hy
 ·rw [(List.mem_replicate.1 hy).2];decide
def wholeF:Fam UB:=⟨UB.le,fun x=>[x.u],fun x=>fzB (Zct x.b),fun x y hx hy h=>by
 obtain ⟨u,b⟩:=x
 obtain ⟨u',b'⟩:=y
 have e:u=u':=(List.cons.inj h).1
 subst e
 have:=hx.b.inj hy.b
 dsimp only at this ⊢
 rw [this]⟩
def cpy (b:List Nat) (i:Nat):List Nat:=b.take i++List.replicate (128-i) 0
theorem Yhh {b:List Nat}{i:Nat}(h:i<b.length) (hb:b.length≤128):(cpy b i).set i b[i]=cpy b (i+1):=by
 unfold cpy
 rw [List.take_succ_eq_append_getElem h,show 128-i=(128-(i+1))+1 by omega,List.replicate_succ,List.set_append,if_neg (by rw [List.length_take];omega)]
 rw [show i-(List.take i b).length=0 by rw [List.length_take];omega,List.set_cons_zero,List.append_assoc]
 rfl
theorem Zyw {b:List Nat}{i:Nat}(h:i≤b.length) (hb:b.length≤128):(cpy b i).length=128:=by
 unfold cpy;rw [List.length_append,List.length_take,List.length_replicate];omega
theorem Zrn {s:St}{r e i n:Nat}{bs:List Nat}(h:s.get r=some (.row e (bys bs))) (hi:i<bs.length):storeAt r i [.int .u8 (Int.ofNat n)] s=some (s.put r (.row e (bys (bs.set i n)))):=by
 rw [Zmg h (by rw [Zan];simp;omega)]
 congr 4
 show (bys bs).take i++[AV.int .u8 (Int.ofNat n)]++(bys bs).drop (i+1)=(bs.set i n).map _
 rw [List.set_eq_take_append_cons_drop,if_pos hi]
 unfold bys
 rw [List.map_append,List.map_cons,List.map_take,List.map_drop,List.append_assoc];rfl
theorem Zo7 {P:Program}{e:Env}{fn:Func}(hE:EnvOk P e) (hm:P.follows .mixedOrders=true) (hf:P.funcs[114]?=some fn) (hc:Zaj P fn=some Yi9) {u:AV}{b:List Nat}(hbt:BAt u b) (hl:b.length≤128) {K:AV→St→Prop}(fin:∀ s r,s.get r=some (.row 5 (bys (Zct b)))→K (.sl r 0 128 (some 128)) s):
 VW P e 0 (match Yi9 with|.mk c _=>c) (Zax [u] 0 .lf) St0 none [] (Zfa [.tmp 2] K):=by
 have huf:=hbt.1.hf
 conv=>whnf
 refine Zlo (n:=127) rfl rfl (by decide) ?_;conv=>whnf
 refine Zbo (α:=Nat) (fun i=>[(0,u),(3,.sl 0 0 128 (some 128)),(4,.int .i64 (i:Int))]) (fun i=>[.row 5 (bys (cpy b i))]) (fun i=>b.length-i) (fun i=>i≤b.length) 0 (Nat.zero_le _)
  (Abs.tells (rs:=[0]) ⟨by decide,⟨⟨Zbe _ huf,by rw [Zao _ huf];rfl⟩,⟨rfl,rfl⟩,⟨rfl,rfl⟩,trivial⟩,⟨⟨rfl,rfl⟩,trivial⟩⟩) ?_
 intro i hi
 refine Zap hE hm ?_
 by_cases hlt:i<b.length
 ·have hb8:b.length≤128:=hl
  have hhead:((bys b).drop (i*1))[0]?=some (.int .u8 (b[i]:Int)):=by
   rw [Nat.mul_one,List.getElem?_drop,Nat.add_zero]
   unfold bys
   rw [List.getElem?_map,List.getElem?_eq_getElem hlt];rfl
  have hs:=Yhh hlt hb8
  have hcl:=Zyw hi hb8
  revert hhead hs
  generalize b[i]=w
  intro hhead hs
  conv=>whnf
  refine Zaa rfl hbt.1 ?_;conv=>whnf
  refine Zab (a:=(i:Int)) (b:=(b.length:Int)) rfl rfl (fun _=>?_) (fun h=>by omega);conv=>whnf
  refine Zae rfl hbt.1 rfl hlt ?_;conv=>whnf
  refine EHead.mk (v:=.int .u8 (w:Int)) hhead ?_;conv=>whnf
  refine Za0 rfl rfl (by omega) (by omega) ?_;conv=>whnf
  refine Zcq ((Zai St0 [.row 5 (bys (cpy b i))]).put 0 (.row 5 (bys (cpy b (i+1))))) ?_ ?_
  ·rw [← hs]
   have h1:0+(i:Int).toNat*1=i:=by omega
   show storeAt 0 (0+(i:Int).toNat*1) [.int .u8 (Int.ofNat w)] _=_
   rw [h1]
   exact Zrn rfl (by omega)
  conv=>whnf
  repeat' (first|((first|refine w7 rfl rfl (by omega) ?_|refine ⟨rfl,?_⟩);conv=>whnf)|fail)
  exact ⟨i+1,hlt,by omega,Abs.tells (rs:=[0]) ⟨by decide,⟨⟨Zbe _ huf,by rw [Zao _ huf];rfl⟩,⟨rfl,rfl⟩,⟨rfl,rfl⟩,trivial⟩,⟨⟨Za6 (Zad _),by rw [Zac (Zad _)];rfl⟩,trivial⟩⟩⟩
 ·have hbp:cpy b i=Zct b:=by
   have:i=b.length:=by omega
   subst this
   unfold cpy Zct
   rw [List.take_length]
  rw [hbp]
  conv=>whnf
  refine Zaa rfl hbt.1 ?_;conv=>whnf
  refine Zab (a:=(i:Int)) (b:=(b.length:Int)) rfl rfl (fun _=>by omega) (fun h=>?_);conv=>whnf
  refine fin _ _ ?_
  rfl
theorem Zzr {P:Program}{e:Env}{fn:Func}(hE:EnvOk P e) (hm:P.follows .mixedOrders=true) (hf:P.funcs[114]?=some fn) (hc:Zaj P fn=some Yi9) (hb:Zaf P 114):OvOk P 114 wholeF.O:=by
 refine Zal hb fun x hx=>?_
 obtain ⟨u,b⟩:=x
 obtain ⟨hbt,hl⟩:=hx
 dsimp only at hbt hl
 have huf:=hbt.1.hf
 exact ⟨by show (AM.hf u && true)=true;rw [huf];rfl,rfl,C.of_V hE hm hf hc (Zo7 hE hm hf hc hbt hl fun s r h=>.sl r 0 128 _ _ _ _ _ _ h (fun i x h=>by rw [Nat.zero_add];exact h) (Zsk (Zad _)) (.inl rfl))⟩
noncomputable def Zdx:Ov:=fun args s=>open Classical in if h:∃ x:UB,x.le∧args=[x.u] then .ok (.sl (0+s.next) 0 128 (some 128)) (s.alloc (.row 5 (bys (Zct (Classical.choose h).b)))) else .fail
theorem Zjc {x:UB}(hx:x.le) (s:St):Zdx [x.u] s=.ok (.sl (0+s.next) 0 128 (some 128)) (s.alloc (.row 5 (bys (Zct x.b)))):=by
 have h:∃ y:UB,y.le∧[x.u]=[y.u]:=⟨x,hx,rfl⟩
 unfold Zdx
 rw [dif_pos h]
 obtain ⟨h1,h2⟩:=Classical.choose_spec h
 have h3:=hx.b
 have h4:=h1.b
 rw [← (List.cons.inj h2).1] at h4
 rw [h4.inj h3]
theorem Zxk {P:Program}{e:Env}{fn:Func}(hE:EnvOk P e) (hm:P.follows .mixedOrders=true) (hf:P.funcs[114]?=some fn) (hc:Zaj P fn=some Yi9) (hb:Zaf P 114):OvOk P 114 Zdx:=by
 refine ⟨hb,fun args s v s' hh=>?_⟩
 have hx0:∃ x:UB,x.le∧args=[x.u]:=by
  unfold Zdx at hh
  split at hh
  ·rename_i h;exact h
  ·cases hh
 obtain ⟨x,hx,rfl⟩:=hx0
 rw [Zjc hx] at hh
 cases hh
 have hfa:hfs [x.u]=true:=by show (AM.hf x.u && true)=true;rw [show AM.hf x.u=true from hx.b.1.hf];rfl
 have key:C P 114 [x.u] St0 (fun v s'=>v=.sl 0 0 128 (some 128)∧s'=Zai St0 [.row 5 (bys (Zct x.b))]):=
  C.abs (C.of_V hE hm hf hc (Zo7 hE hm hf hc hx.b hx.l fun s r h=>⟨[r],⟨by simp,⟨⟨rfl,rfl⟩,trivial⟩,⟨⟨Za6 (Zad _),by rw [Zac (Zad _)];exact h⟩,trivial⟩⟩⟩))
 refine (C.frame (l:=[.row 5 (bys (Zct x.b))]) (u:=.sl 0 0 128 (some 128)) hfa ?_ ?_ key ?_ s).mono ?_
 ·intro o ho;simp at ho;subst ho;rfl
 ·exact .inl (by simp)
 ·intro i o h
  rcases i with _|i
  ·simp at h;subst h;rfl
  ·simp at h
 ·rintro v s' ⟨rfl,rfl⟩
  refine ⟨rfl,?_⟩
  show Zai s [Zr9 _ (.row 5 (bys (Zct x.b)))]=_
  rw [Zac (Zad _)];rfl
def Zpc (a b:List Nat):Bool:=decide (pad a=pad b)
structure UU where
 x:UB
 y:UB
structure UU.ok (p:UU):Prop where
 x:p.x.ok
 y:p.y.ok
def same2F:Fam UU:=⟨UU.ok,fun p=>[p.x.u,p.y.u],fun p=>.bool (Zpc p.x.b p.y.b),fun p q hp hq h=>by
 obtain ⟨⟨u,b⟩,⟨v,c⟩⟩:=p
 obtain ⟨⟨u',b'⟩,⟨v',c'⟩⟩:=q
 have e:u=u':=(List.cons.inj h).1
 have e':v=v':=(List.cons.inj (List.cons.inj h).2).1
 subst e e'
 have h1:=hp.x.b.inj hq.x.b
 have h2:=hp.y.b.inj hq.y.b
 dsimp only at h1 h2 ⊢
 rw [h1,h2]⟩
theorem Yal {P:Program}{e:Env}{fn:Func}(hE:EnvOk P e) (hm:P.follows .mixedOrders=true) (h114:Con e 114 wholeF.O) (hf:P.funcs[71]?=some fn) (hc:Zaj P fn=some a71) (hb:Zaf P 71):OvOk P 71 same2F.O:=by
 refine Zal hb fun p hp=>?_
 obtain ⟨⟨u,b⟩,⟨v,c⟩⟩:=p
 obtain ⟨hx,hy⟩:=hp
 have h1:=hx.b.1.hf
 have h2:=hy.b.1.hf
 have l1:=Zcn hx.l
 have l2:=Zcn hy.l
 have p1:=Zf9 hx.b.2
 have p2:=Zf9 hy.b.2
 dsimp only at h1 h2 l1 l2 p1 p2
 refine ⟨by show (AM.hf u && (AM.hf v && true))=true;rw [h1,h2];rfl,rfl,C.of_V hE hm hf hc ?_⟩
 show VW P e 0 (match a71 with|.mk c _=>c) (Zax [u,v] 0 .lf) St0 none [] (Zfa [.tmp 4] (fun w s'=>Frz s' w (.bool (Zpc b c))))
 conv=>whnf
 refine ESc.fam wholeF h114 ⟨u,b⟩ hx.le (u:=fzB (pad b)) (by show fzB (Zct b)=_;rw [Zjg hx.l]) ?_;conv=>whnf
 repeat' (first|(refine Zbd (bs:=pad b) rfl (Zep ⟨l1,p1⟩).1 p1 ?_;conv=>whnf)|fail)
 refine ESc.fam wholeF h114 ⟨v,c⟩ hy.le (u:=fzB (pad c)) (by show fzB (Zct c)=_;rw [Zjg hy.l]) ?_;conv=>whnf
 refine Zbd (bs:=pad b) rfl (Zep ⟨l1,p1⟩).1 p1 ?_;conv=>whnf
 refine ⟨rfl,?_⟩;conv=>whnf
 refine Zbd (bs:=pad c) rfl (Zep ⟨l2,p2⟩).1 p2 ?_;conv=>whnf
 refine Zte rfl rfl (fun h=>?_) (fun h=>?_)
 ·conv=>whnf
  have:Zpc b c=true:=decide_eq_true h
  rw [this];exact .plain _ rfl
 ·conv=>whnf
  have:Zpc b c=false:=decide_eq_false h
  rw [this];exact .plain _ rfl
structure D2 where
 x:DB
 y:DB
structure D2.ok (p:D2):Prop where
 x:p.x.any
 y:p.y.any
 bx:∀ b ∈ p.x.bs,b.length=0∨b.length=128
 by_:∀ b ∈ p.y.bs,b.length=0∨b.length=128
 n:p.x.sl.length<1000000000∧p.x.us.length<1000000000
def Zrr (x y:DB):Bool:=decide (x.st=y.st) && (decide (x.sl.length=y.sl.length) && (decide (x.us.length=y.us.length) && (decide (x.pb=y.pb) && (decide (x.sl=y.sl) && decide (x.bs.map pad=y.bs.map pad)))))
def sameF:Fam D2:=⟨D2.ok,fun p=>[p.x.d.v,p.y.d.v],fun p=>.bool (Zrr p.x p.y),fun p q hp hq h=>by
 have h1:=DB.inja hp.x hq.x (List.cons.inj h).1
 have h2:=DB.inja hp.y hq.y (List.cons.inj (List.cons.inj h).2).1
 rw [h1,h2]⟩
theorem Zsg {l:List Int}{i:Nat}(h:i<l.length):((Zd8 l).drop (i*1))[0]?=some (.int .i64 l[i]):=by
 rw [Nat.mul_one,List.getElem?_drop,Nat.add_zero]
 unfold Zd8
 rw [List.getElem?_map,List.getElem?_eq_getElem h];rfl
theorem Zrh {α:Type}{l m:List α}{i:Nat}(h:i<l.length) (h':i<m.length) (ht:l.take i=m.take i) (he:l[i]=m[i]):l.take (i+1)=m.take (i+1):=by
 rw [List.take_succ_eq_append_getElem h,List.take_succ_eq_append_getElem h',ht,he]
theorem Zz0 {α:Type}{l m:List α}{i:Nat}(h:i<l.length) (h':i<m.length) (he:l[i]≠m[i]):l≠m:=by
 intro e;subst e;exact he rfl
theorem Yfn {P:Program}{e:Env}{fn:Func}(hE:EnvOk P e) (hm:P.follows .mixedOrders=true) (h71:Con e 71 same2F.O) (hf:P.funcs[25]?=some fn) (hc:Zaj P fn=some a25) (hb:Zaf P 25):OvOk P 25 sameF.O:=by
 refine Zal hb fun p hp=>?_
 obtain ⟨x,y⟩:=p
 obtain ⟨hx,hy,hbx,hby,hnn⟩:=hp
 dsimp only at hx hy hbx hby hnn
 refine ⟨by show (AM.hf x.d.v && (AM.hf y.d.v && true))=true;rw [Zxj hx,Zxj hy];rfl,rfl,C.of_V hE hm hf hc ?_⟩
 have fin:∀ s (b:Bool),b=Zrr x y→Frz s (.bool b) (.bool (Zrr x y)):=by rintro s b rfl;exact .plain _ rfl
 show VW P e 0 (match a25 with|.mk c _=>c) (Zax [x.d.v,y.d.v] 0 .lf) St0 none [] (Zfa [.tmp 4] (fun w s'=>Frz s' w (.bool (Zrr x y))))
 obtain ⟨O,hO⟩:∃ O,O=AV.bool (Zrr x y):=⟨_,rfl⟩
 rw [← hO] at fin ⊢
 clear hO
 unfold Zrr at fin
 obtain ⟨st,sv,sl,bv,us,bs,pv,pb⟩:=x
 obtain ⟨st',sv',sl',bv',us',bs',pv',pb'⟩:=y
 obtain ⟨h1,h2,h3,h4,h5,h6⟩:=hx
 obtain ⟨g1,g2,g3,g4,g5,g6⟩:=hy
 dsimp only at h1 h2 h3 h4 h5 h6 g1 g2 g3 g4 g5 g6 hbx hby hnn fin
 have h7:=h5.length
 have g7:=g5.length
 have hDf:hfs [.int .i64 st,sv,bv,pv]=true:=by
  show (true && (AM.hf sv && (AM.hf bv && (AM.hf pv && true))))=true
  rw [h2.hf,h4.hf,h6.1.hf];rfl
 have gDf:hfs [.int .i64 st',sv',bv',pv']=true:=by
  show (true && (AM.hf sv' && (AM.hf bv' && (AM.hf pv' && true))))=true
  rw [g2.hf,g4.hf,g6.1.hf];rfl
 have no:(st≠st'∨sl.length≠sl'.length∨us.length≠us'.length∨pb≠pb'∨sl≠sl'∨bs.map pad≠bs'.map pad)→∀ s,Frz s (.bool false) O:=fun h s=>fin s false (by
  symm
  rw [Bool.eq_false_iff]
  intro hq
  simp only [Bool.and_eq_true,decide_eq_true_eq] at hq
  obtain ⟨q1,q2,q3,q4,q5,q6⟩:=hq
  rcases h with h|h|h|h|h|h
  ·exact h q1
  ·exact h q2
  ·exact h q3
  ·exact h q4
  ·exact h q5
  ·exact h q6)
 show VW P e 0 (match a25 with|.mk c _=>c) (Zax [.agg [.int .i64 st,sv,bv,pv],.agg [.int .i64 st',sv',bv',pv']] 0 .lf) St0 none [] _
 conv=>whnf
 refine Zas (a:=st) (b:=st') rfl rfl (fun e1=>?_) (fun e1=>?_)
 ·conv=>whnf
  skip
  exact no (.inl e1) _
 conv=>whnf
 refine Zaa rfl h2 ?_;conv=>whnf
 refine Zaa rfl g2 ?_;conv=>whnf
 refine Zas (a:=(sl.length:Int)) (b:=(sl'.length:Int)) rfl rfl (fun e2=>?_) (fun e2=>?_)
 ·conv=>whnf
  skip
  exact no (.inr (.inl (by omega))) _
 conv=>whnf
 refine Zaa rfl h4 ?_;conv=>whnf
 refine Zaa rfl g4 ?_;conv=>whnf
 refine Zas (a:=(us.length:Int)) (b:=(us'.length:Int)) rfl rfl (fun e3=>?_) (fun e3=>?_)
 ·conv=>whnf
  skip
  exact no (.inr (.inr (.inl (by omega)))) _
 conv=>whnf
 refine Zbd (bs:=pb) rfl h6.1 h6.2 ?_;conv=>whnf
 refine Zbd (bs:=pb') rfl g6.1 g6.2 ?_;conv=>whnf
 refine Zdb rfl rfl (fun e4=>?_) (fun e4=>?_)
 ·conv=>whnf
  skip
  exact no (.inr (.inr (.inr (.inl e4)))) _
 conv=>whnf
 refine Zbo (α:=Nat) (fun i=>[(2,.ptr 0 0),(3,.ptr 1 0),(5,.int .i64 (i:Int))]) (fun _=>[.row 34 [.int .i64 st,sv,bv,pv],.row 34 [.int .i64 st',sv',bv',pv']]) (fun i=>sl.length-i) (fun i=>i≤sl.length∧sl.take i=sl'.take i) 0 ⟨Nat.zero_le _,rfl⟩
  (Abs.tells (rs:=[0,1]) ⟨by decide,⟨⟨rfl,rfl⟩,⟨rfl,rfl⟩,⟨rfl,rfl⟩,trivial⟩,⟨⟨Za6 hDf,by rw [Zac hDf];rfl⟩,⟨Za6 gDf,by rw [Zac gDf];rfl⟩,trivial⟩⟩) ?_
 rintro i ⟨hi,hI⟩
 refine Zap hE hm ?_
 by_cases hlt:i<sl.length
 ·have hlt':i<sl'.length:=by omega
  have q1:=Zsg hlt
  have q2:=Zsg hlt'
  have q3:=Zrh hlt hlt' hI
  have q4:=Zz0 hlt hlt'
  have hall:=And.intro q1 (And.intro q2 (And.intro q3 q4))
  clear q1 q2 q3 q4
  revert hall
  generalize sl[i]=w
  generalize sl'[i]=w'
  rintro ⟨q1,q2,q3,q4⟩
  conv=>whnf
  refine Zaa rfl h2 ?_;conv=>whnf
  refine Zab (a:=(i:Int)) (b:=(sl.length:Int)) rfl rfl (fun _=>?_) (fun h=>by omega);conv=>whnf
  refine Zae rfl h2 rfl hlt ?_;conv=>whnf
  refine EHead.mk (v:=.int .i64 w) q1 ?_;conv=>whnf
  refine Zae rfl g2 rfl hlt' ?_;conv=>whnf
  refine EHead.mk (v:=.int .i64 w') q2 ?_;conv=>whnf
  refine Zas (a:=w) (b:=w') rfl rfl (fun e5=>?_) (fun e5=>?_)
  ·conv=>whnf
   exact no (.inr (.inr (.inr (.inr (.inl (q4 e5)))))) _
  ·conv=>whnf
   repeat' (first|((first|refine w7 rfl rfl (by omega) ?_|refine ⟨rfl,?_⟩);conv=>whnf)|fail)
   exact ⟨i+1,⟨hlt,q3 e5⟩,by omega,Abs.tells (rs:=[0,1]) ⟨by decide,⟨⟨rfl,rfl⟩,⟨rfl,rfl⟩,⟨rfl,rfl⟩,trivial⟩,⟨⟨Za6 hDf,by rw [Zac hDf];rfl⟩,⟨Za6 gDf,by rw [Zac gDf];rfl⟩,trivial⟩⟩⟩
 ·have hse:sl=sl':=by
   rw [List.take_of_length_le (by omega),List.take_of_length_le (by omega)] at hI;exact hI
  conv=>whnf
  refine Zaa rfl h2 ?_;conv=>whnf
  refine Zab (a:=(i:Int)) (b:=(sl.length:Int)) rfl rfl (fun _=>by omega) (fun h=>?_);conv=>whnf
  refine Zbo (α:=Nat) (fun j=>[(2,.ptr 0 0),(3,.ptr 1 0),(6,.int .i64 (j:Int))]) (fun _=>[.row 34 [.int .i64 st,sv,bv,pv],.row 34 [.int .i64 st',sv',bv',pv']]) (fun j=>us.length-j) (fun j=>j≤us.length∧(bs.map pad).take j=(bs'.map pad).take j) 0 ⟨Nat.zero_le _,rfl⟩
   (Abs.tells (rs:=[0,1]) ⟨by decide,⟨⟨rfl,rfl⟩,⟨rfl,rfl⟩,⟨rfl,rfl⟩,trivial⟩,⟨⟨Za6 hDf,by rw [Zac hDf];rfl⟩,⟨Za6 gDf,by rw [Zac gDf];rfl⟩,trivial⟩⟩) ?_
  rintro j ⟨hj,hJ⟩
  refine Zap hE hm ?_
  by_cases hjl:j<us.length
  ·have hjl':j<us'.length:=by omega
   obtain ⟨b,hb1,hb2⟩:=h5.get (List.getElem?_eq_getElem hjl)
   obtain ⟨b',hb1',hb2'⟩:=g5.get (List.getElem?_eq_getElem hjl')
   have hl:=hbx b (List.mem_of_getElem? hb1)
   have hl':=hby b' (List.mem_of_getElem? hb1')
   have k1:j<(bs.map pad).length:=by rw [List.length_map];omega
   have k2:j<(bs'.map pad).length:=by rw [List.length_map];omega
   have k3:(bs.map pad)[j]=pad b:=by
    have:(bs.map pad)[j]?=some (pad b):=by rw [List.getElem?_map,hb1];rfl
    rw [List.getElem?_eq_getElem k1] at this;exact Option.some.inj this
   have k4:(bs'.map pad)[j]=pad b':=by
    have:(bs'.map pad)[j]?=some (pad b'):=by rw [List.getElem?_map,hb1'];rfl
    rw [List.getElem?_eq_getElem k2] at this;exact Option.some.inj this
   have q3:=Zrh k1 k2 hJ
   have q4:=Zz0 k1 k2
   rw [k3,k4] at q3 q4
   have q1:((us.drop (j*1)))[0]?=some us[j]:=by rw [Nat.mul_one,List.getElem?_drop,Nat.add_zero,List.getElem?_eq_getElem hjl]
   have q2:((us'.drop (j*1)))[0]?=some us'[j]:=by rw [Nat.mul_one,List.getElem?_drop,Nat.add_zero,List.getElem?_eq_getElem hjl']
   have hall:=And.intro q1 (And.intro q2 (And.intro hb2 hb2'))
   clear q1 q2 hb2 hb2'
   revert hall
   generalize us[j]=w
   generalize us'[j]=w'
   rintro ⟨q1,q2,hb2,hb2'⟩
   conv=>whnf
   refine Zaa rfl h4 ?_;conv=>whnf
   refine Zab (a:=(j:Int)) (b:=(us.length:Int)) rfl rfl (fun _=>?_) (fun h=>by omega);conv=>whnf
   refine Zae rfl h4 rfl hjl ?_;conv=>whnf
   refine EHead.mk (v:=w) q1 ?_;conv=>whnf
   refine Zae rfl g4 rfl hjl' ?_;conv=>whnf
   refine EHead.mk (v:=w') q2 ?_;conv=>whnf
   refine ESc.fam same2F h71 ⟨⟨w,b⟩,⟨w',b'⟩⟩ ⟨⟨hb2,hl⟩,⟨hb2',hl'⟩⟩ (u:=.bool (Zpc b b')) rfl ?_
   cases hq:Zpc b b'
   ·conv=>whnf
    repeat' (first|(refine w13 rfl ?_;conv=>whnf)|fail)
    exact no (.inr (.inr (.inr (.inr (.inr (q4 (of_decide_eq_false hq))))))) _
   ·conv=>whnf
    repeat' (first|((first|refine w7 rfl rfl (by omega) ?_|refine w12 rfl ?_|refine ⟨rfl,?_⟩);conv=>whnf)|fail)
    exact ⟨j+1,⟨hjl,q3 (of_decide_eq_true hq)⟩,by omega,Abs.tells (rs:=[0,1]) ⟨by decide,⟨⟨rfl,rfl⟩,⟨rfl,rfl⟩,⟨rfl,rfl⟩,trivial⟩,⟨⟨Za6 hDf,by rw [Zac hDf];rfl⟩,⟨Za6 gDf,by rw [Zac gDf];rfl⟩,trivial⟩⟩⟩
  ·have hbe:bs.map pad=bs'.map pad:=by
    rw [List.take_of_length_le (by rw [List.length_map];omega),List.take_of_length_le (by rw [List.length_map];omega)] at hJ;exact hJ
   conv=>whnf
   refine Zaa rfl h4 ?_;conv=>whnf
   refine Zab (a:=(j:Int)) (b:=(us.length:Int)) rfl rfl (fun _=>by omega) (fun h=>?_);conv=>whnf
   exact fin _ true (by rw [decide_eq_true e1,decide_eq_true (by omega),decide_eq_true (by omega),decide_eq_true e4,decide_eq_true hse,decide_eq_true hbe];rfl)
end Go.AM
set_option maxRecDepth 100000
namespace Go.AM
attribute [local irreducible] W
open X
section
variable {t:AT}{s:St}{k:AV→St→Prop}{x y:AO}
theorem Yea {q:IntKind}{a b:Int}(hx:ev x t=.some (.int q a)) (hy:ev y t=.some (.int q b)) (h:b≠0) (hk:k (.int q (q.wrap (a.tdiv b))) s):EPrim (.bin .quo x y) t s k:=by
 refine Zeq hx hy (v:=.int q (q.wrap (a.tdiv b))) ?_ hk
 show (Bool.rec .none (Bool.rec (.some (.int q (Zhw q (tdivQ a b)))) .none (eqI b 0)) (eqK q q):OV)=_
 rw [Ziu,Zkh,show (b == 0)=false by simpa using h,Zvq,Zck]
theorem Zgv {q:IntKind}{a b:Int}(hx:ev x t=.some (.int q a)) (hy:ev y t=.some (.int q b)) (h:0≤a∧0<b) (hw:q.wrap (a / b)=a / b) (hk:k (.int q (a / b)) s):EPrim (.bin .quo x y) t s k:=
 Yea hx hy (by omega) (by rw [Int.tdiv_eq_ediv_of_nonneg h.1,hw];exact hk)
end
def bst (n:Nat):Nat:=if n % 2=1 then (n / 2) ^^^ 2197175160 else n / 2
theorem Zq2 (s z:Nat):bst (s ^^^ z*2)=bst s ^^^ z:=by
 have e1:=Zja s z 1
 have e2:=Zjb s z 1
 rw [show (2:Nat)^1=2 from rfl] at *
 unfold bst
 rw [e1,e2]
 split
 ·rw [Nat.xor_assoc,Nat.xor_assoc,Nat.xor_comm z]
 ·rfl
theorem bst_lt {n:Nat}(h:n<4294967296):bst n<4294967296:=by
 unfold bst
 split
 ·exact Nat.xor_lt_two_pow (n:=32) (by omega) (by decide)
 ·omega
def Ztl:Nat→Nat→Nat
 | 0,n=>n
 | k+1,n=>bst (Ztl k n)
theorem Ydk {n:Nat}(h:n<4294967296):∀ k,Ztl k n<4294967296
 | 0=>h
 | k+1=>bst_lt (Ydk h k)
theorem Zxc (a:Nat) (n:Nat):∀ b,Ztl (a+b) n=Ztl b (Ztl a n)
 | 0=>rfl
 | b+1=>congrArg bst (Zxc a n b)
theorem Zs2 (s:Nat):Ztl 4 s=Zzl s:=by
 have e:s=s % 16 ^^^ (s / 16)*16:=by
  have h1:=Zja (s % 16) (s / 16) 4
  have h2:=Zjb (s % 16) (s / 16) 4
  rw [show (2:Nat)^4=16 from rfl] at *
  rw [show s % 16 / 16=0 by omega,Nat.zero_xor] at h2
  omega
 have hr:∀ r,r<16→Ztl 4 r=Zzl r:=by decide
 have h4:∀ r q,Ztl 4 (r ^^^ q*16)=Ztl 4 r ^^^ q:=by
  intro r q
  show bst (bst (bst (bst (r ^^^ q*16))))=bst (bst (bst (bst r))) ^^^ q
  rw [show q*16=(q*8)*2 by omega,Zq2,show q*8=(q*4)*2 by omega,Zq2,show q*4=(q*2)*2 by omega,Zq2,Zq2]
 rw [e,h4,Ygp,hr _ (Nat.mod_lt _ (by decide))]
theorem Yho (s:Nat):Ztl 8 s=Zzl (Zzl s):=by
 rw [show 8=4+4 from rfl,Zxc,Zs2,Zs2]
theorem Yd0 {n:Nat}(h:n<4294967296):4294967295-n=n ^^^ 4294967295:=by
 refine Nat.eq_of_testBit_eq fun i=>?_
 rw [show 4294967295-n=2^32-(n+1) by omega,Nat.testBit_two_pow_sub_succ (by omega),Nat.testBit_xor,show 4294967295=2^32-1 from rfl,Nat.testBit_two_pow_sub_one]
 by_cases hi:i<32
 ·rw [decide_eq_true hi];cases n.testBit i <;> rfl
 ·rw [decide_eq_false hi,Nat.testBit_lt_two_pow (Nat.lt_of_lt_of_le (show n<2^32 from h) (Nat.pow_le_pow_right (by decide) (by omega)))];rfl
structure SX where
 s:Nat
 x:Nat
structure SX.ok (p:SX):Prop where
 s:p.s<4294967296
 x:p.x<256
def withF:Fam SX:=⟨SX.ok,fun p=>[.int .u32 (p.s:Int),.int .u8 (p.x:Int)],fun p=>.int .u32 ((Zge (p.s ^^^ 4294967295) p.x ^^^ 4294967295:Nat):Int),fun p q hp hq h=>by
 obtain ⟨s,x⟩:=p
 obtain ⟨s',x'⟩:=q
 have h1:(s:Int)=s':=by have:=(List.cons.inj h).1;injection this
 have h2:(x:Int)=x':=by have:=(List.cons.inj (List.cons.inj h).2).1;injection this
 have h1:=Int.ofNat.inj h1
 have h2:=Int.ofNat.inj h2
 subst h1 h2;rfl⟩
theorem Yer {P:Program}{e:Env}{fn:Func}(hE:EnvOk P e) (hm:P.follows .mixedOrders=true) (hf:P.funcs[168]?=some fn) (hc:Zaj P fn=some a168) (hb:Zaf P 168):OvOk P 168 withF.O:=by
 refine Zal hb fun p hp=>?_
 obtain ⟨s,x⟩:=p
 obtain ⟨h1,h2⟩:=hp
 dsimp only at h1 h2
 refine ⟨rfl,rfl,C.of_V hE hm hf hc ?_⟩
 show VW P e 0 (match a168 with|.mk c _=>c) (Zax [.int .u32 (s:Int),.int .u8 (x:Int)] 0 .lf) St0 none [] (Zfa [.tmp 4] (fun w s'=>Frz s' w (.int .u32 ((Zge (s ^^^ 4294967295) x ^^^ 4294967295:Nat):Int))))
 conv=>whnf
 refine Zkx (a:=4294967295) (b:=(s:Int)) rfl rfl (by omega) ?_
 rw [show (4294967295:Int)-(s:Int)=Int.ofNat (s ^^^ 4294967295) by rw [← Yd0 h1];show _=((4294967295-s:Nat):Int);omega]
 have hs:s ^^^ 4294967295<4294967296:=Nat.xor_lt_two_pow (n:=32) h1 (by decide)
 conv=>whnf
 refine Zam (q':=.u32) (a:=Int.ofNat x) rfl (Zf2 (by show 0≤((x:Nat):Int)∧((x:Nat):Int)<4294967296;omega)) ?_;conv=>whnf
 refine Zfz rfl rfl hs (by omega) ?_
 obtain ⟨m,hm'⟩:∃ m,m=s ^^^ 4294967295 ^^^ x:=⟨_,rfl⟩
 have hml:m<4294967296:=by rw [hm'];exact Nat.xor_lt_two_pow (n:=32) hs (by omega)
 have hO:Zge (s ^^^ 4294967295) x=Ztl 8 m:=by rw [Yho,hm'];rfl
 rw [← hm',hO]
 clear hm' hO hs
 conv=>whnf
 refine Zbo (α:=Nat) (fun i=>[(5,.int .u32 ((Ztl i m:Nat):Int)),(6,.int .i64 (i:Int))]) (fun _=>[]) (fun i=>8-i) (fun i=>i≤8) 0 (Nat.zero_le _)
  (Abs.tells (rs:=[]) ⟨by decide,⟨⟨rfl,rfl⟩,⟨rfl,rfl⟩,trivial⟩,trivial⟩) ?_
 intro i hi
 refine Zap hE hm ?_
 have hn:=Ydk hml i
 have hsucc:Ztl (i+1) m=bst (Ztl i m):=rfl
 by_cases hlt:i<8
 ·revert hsucc
  generalize Ztl i m=n at hn ⊢
  intro hsucc
  have hbs:bst n=if n % 2=1 then (n / 2) ^^^ 2197175160 else n / 2:=rfl
  conv=>whnf
  refine Zab (a:=(i:Int)) (b:=8) rfl rfl (fun _=>?_) (fun h=>by omega);conv=>whnf
  refine Zdk (a:=(n:Int)) (b:=2) rfl rfl (by omega) ?_;conv=>whnf
  refine Zgv (a:=(n:Int)) (b:=2) rfl rfl (by omega) (Zf2 (by omega)) ?_;conv=>whnf
  refine Za7 (a:=(n:Int) % 2) (b:=1) rfl rfl (fun h=>?_) (fun h=>?_)
  ·rw [if_pos (by omega)] at hbs
   rw [show (n:Int) / 2=Int.ofNat (n / 2) by show _=((n / 2:Nat):Int);omega]
   conv=>whnf
   refine Zfz (b:=2197175160) rfl rfl (by omega) (by decide) ?_;conv=>whnf
   repeat' (first|((first|refine w7 rfl rfl (by omega) ?_|refine ⟨rfl,?_⟩);conv=>whnf)|fail)
   exact ⟨i+1,hlt,by omega,Abs.tells (rs:=[]) ⟨by decide,⟨⟨rfl,by rw [hsucc,hbs];rfl⟩,⟨rfl,rfl⟩,trivial⟩,trivial⟩⟩
  ·rw [if_neg (by omega)] at hbs
   conv=>whnf
   repeat' (first|((first|refine w7 rfl rfl (by omega) ?_|refine ⟨rfl,?_⟩);conv=>whnf)|fail)
   exact ⟨i+1,hlt,by omega,Abs.tells (rs:=[]) ⟨by decide,⟨⟨rfl,by rw [hsucc,hbs];rfl⟩,⟨rfl,rfl⟩,trivial⟩,trivial⟩⟩
 ·obtain rfl:i=8:=by omega
  clear hsucc
  generalize Ztl 8 m=n at hn ⊢
  conv=>whnf
  refine Zab (a:=((8:Nat):Int)) (b:=8) rfl rfl (fun _=>by omega) (fun h=>?_);conv=>whnf
  refine Zkx (a:=4294967295) (b:=(n:Int)) rfl rfl (by omega) ?_
  rw [show (4294967295:Int)-(n:Int)=((n ^^^ 4294967295:Nat):Int) by rw [← Yd0 hn];omega]
  conv=>whnf
  exact .plain _ rfl
structure UB.any (x:UB):Prop where
 b:BAt x.u x.b
 l:x.b.length<1000000
theorem UB.inja {x y:UB}(hx:BAt x.u x.b) (hy:BAt y.u y.b) (h:x.u=y.u):x=y:=by
 obtain ⟨u,b⟩:=x
 obtain ⟨u',b'⟩:=y
 dsimp only at hx hy h
 subst h
 rw [hx.inj hy]
structure SB where
 s:Nat
 x:UB
structure SB.ok (p:SB):Prop where
 s:p.s<4294967296
 x:p.x.any
def overRF:Fam SB:=⟨SB.ok,fun p=>[.int .u32 (p.s:Int),p.x.u],fun p=>.int .u32 ((Zfx p.x.b (p.s ^^^ 4294967295) ^^^ 4294967295:Nat):Int),fun p q hp hq h=>by
 obtain ⟨s,x⟩:=p
 obtain ⟨s',x'⟩:=q
 have h1:(s:Int)=s':=by have:=(List.cons.inj h).1;injection this
 have h2:=UB.inja hp.x.b hq.x.b (List.cons.inj (List.cons.inj h).2).1
 have h1:=Int.ofNat.inj h1
 dsimp only at h2
 subst h1 h2;rfl⟩
theorem Ya7 {P:Program}{e:Env}{fn:Func}(hE:EnvOk P e) (hm:P.follows .mixedOrders=true) (h168:Con e 168 withF.O) (hf:P.funcs[153]?=some fn) (hc:Zaj P fn=some a153) (hb:Zaf P 153):OvOk P 153 overRF.O:=by
 refine Zal hb fun p hp=>?_
 obtain ⟨s0,u,b⟩:=p
 obtain ⟨hs0,hbt,hl⟩:=hp
 dsimp only at hs0 hbt hl
 have huf:=hbt.1.hf
 refine ⟨by show (true && (AM.hf u && true))=true;rw [huf];rfl,rfl,C.of_V hE hm hf hc ?_⟩
 show VW P e 0 (match a153 with|.mk c _=>c) (Zax [.int .u32 (s0:Int),u] 0 .lf) St0 none [] (Zfa [.tmp 4] (fun w s'=>Frz s' w (.int .u32 ((Zfx b (s0 ^^^ 4294967295) ^^^ 4294967295:Nat):Int))))
 have hx0:s0 ^^^ 4294967295<4294967296:=Nat.xor_lt_two_pow (n:=32) hs0 (by decide)
 conv=>whnf
 refine Zbo (α:=Nat) (fun i=>[(0,.int .u32 ((Zfx (b.take i) (s0 ^^^ 4294967295) ^^^ 4294967295:Nat):Int)),(1,u),(5,.int .i64 (i:Int))]) (fun _=>[]) (fun i=>b.length-i) (fun i=>i≤b.length) 0 (Nat.zero_le _)
  (Abs.tells (rs:=[]) ⟨by decide,⟨⟨rfl,by show _=some (AV.int .u32 ((s0 ^^^ 4294967295 ^^^ 4294967295:Nat):Int));rw [Nat.xor_assoc,Nat.xor_self,Nat.xor_zero];rfl⟩,⟨Zbe _ huf,by rw [Zao _ huf];rfl⟩,⟨rfl,rfl⟩,trivial⟩,trivial⟩) ?_
 intro i hi
 refine Zap hE hm ?_
 have hn:Zfx (b.take i) (s0 ^^^ 4294967295)<4294967296:=Zg7 (fun y hy=>hbt.2 y (List.mem_of_mem_take hy)) hx0
 by_cases hlt:i<b.length
 ·have hhead:((bys b).drop (i*1))[0]?=some (.int .u8 (b[i]:Int)):=by
   rw [Nat.mul_one,List.getElem?_drop,Nat.add_zero]
   unfold bys
   rw [List.getElem?_map,List.getElem?_eq_getElem hlt];rfl
  have hy:=hbt.2 _ (List.getElem_mem hlt)
  have hs:Zfx (b.take (i+1)) (s0 ^^^ 4294967295)=Zge (Zfx (b.take i) (s0 ^^^ 4294967295)) b[i]:=by
   rw [List.take_succ_eq_append_getElem hlt];unfold Zfx;rw [List.foldl_append];rfl
  have hall:=And.intro hhead (And.intro hy hs)
  clear hhead hy hs
  revert hall
  generalize b[i]=y
  rintro ⟨hhead,hy,hs⟩
  have hA:((Zge (Zfx (b.take i) (s0 ^^^ 4294967295)) y ^^^ 4294967295:Nat):Int)=((Zfx (b.take (i+1)) (s0 ^^^ 4294967295) ^^^ 4294967295:Nat):Int):=by rw [hs]
  clear hs
  generalize Zfx (b.take i) (s0 ^^^ 4294967295)=A at hn hA ⊢
  have hA2:A ^^^ 4294967295 ^^^ 4294967295=A:=by rw [Nat.xor_assoc,Nat.xor_self,Nat.xor_zero]
  conv=>whnf
  refine Zaa rfl hbt.1 ?_;conv=>whnf
  refine Zab (a:=(i:Int)) (b:=(b.length:Int)) rfl rfl (fun _=>?_) (fun h=>by omega);conv=>whnf
  refine Zae rfl hbt.1 rfl hlt ?_;conv=>whnf
  refine EHead.mk (v:=.int .u8 (y:Int)) hhead ?_;conv=>whnf
  refine ESc.fam withF h168 ⟨A ^^^ 4294967295,y⟩ ⟨Nat.xor_lt_two_pow (n:=32) hn (by decide),hy⟩ (u:=.int .u32 ((Zfx (b.take (i+1)) (s0 ^^^ 4294967295) ^^^ 4294967295:Nat):Int)) (by rw [← hA];show AV.int .u32 ((Zge (A ^^^ 4294967295 ^^^ 4294967295) y ^^^ 4294967295:Nat):Int)=_;rw [hA2]) ?_;conv=>whnf
  repeat' (first|((first|refine w7 rfl rfl (by omega) ?_|refine ⟨rfl,?_⟩);conv=>whnf)|fail)
  exact ⟨i+1,hlt,by omega,Abs.tells (rs:=[]) ⟨by decide,⟨⟨rfl,rfl⟩,⟨Zbe _ huf,by rw [Zao _ huf];rfl⟩,⟨rfl,rfl⟩,trivial⟩,trivial⟩⟩
 ·rw [show b.take i=b from List.take_of_length_le (by omega)]
  clear hn
  conv=>whnf
  refine Zaa rfl hbt.1 ?_;conv=>whnf
  refine Zab (a:=(i:Int)) (b:=(b.length:Int)) rfl rfl (fun _=>by omega) (fun h=>?_);conv=>whnf
  exact .plain _ rfl
def sumRF:Fam UB:=⟨UB.any,fun x=>[x.u],fun x=>.int .u32 ((Zen x.b:Nat):Int),fun x y hx hy h=>by rw [UB.inja hx.b hy.b (List.cons.inj h).1]⟩
theorem Ye6 {P:Program}{e:Env}{fn:Func}(hE:EnvOk P e) (hm:P.follows .mixedOrders=true) (h153:Con e 153 overRF.O) (hf:P.funcs[115]?=some fn) (hc:Zaj P fn=some a115) (hb:Zaf P 115):OvOk P 115 sumRF.O:=by
 refine Zal hb fun x hx=>?_
 obtain ⟨u,b⟩:=x
 have huf:=hx.b.1.hf
 refine ⟨by show (AM.hf u && true)=true;rw [show AM.hf u=true from huf];rfl,rfl,C.of_V hE hm hf hc ?_⟩
 show VW P e 0 (match a115 with|.mk c _=>c) (Zax [u] 0 .lf) St0 none [] (Zfa [.tmp 2] (fun w s'=>Frz s' w (.int .u32 ((Zen b:Nat):Int))))
 conv=>whnf
 refine ESc.fam overRF h153 ⟨0,u,b⟩ ⟨(show 0<4294967296 by decide),hx⟩ (u:=.int .u32 ((Zen b:Nat):Int)) (by show AV.int .u32 ((Zfx b (0 ^^^ 4294967295) ^^^ 4294967295:Nat):Int)=_;rw [Nat.zero_xor];rfl) ?_;conv=>whnf
 exact .plain _ rfl
end Go.AM
set_option maxRecDepth 100000
namespace Go.AM
attribute [local irreducible] W
open X
theorem Zqk (bs:List Nat) (a:Nat) (hb:∀ y ∈ bs,y<256) (n:Nat):num bs a (n+1)=num bs a n+bs.getD (a+n) 0*2^(8*n):=by
 have h:=Zfs (a:=a) hb n
 show num bs a n ||| bs.getD (a+n) 0*2^(8*n)=_
 rw [Nat.or_comm,Nat.mul_comm,← Nat.two_pow_add_eq_or_of_lt h,Nat.add_comm]
theorem num4 (bs:List Nat) (a:Nat) (hb:∀ y ∈ bs,y<256):num bs a 4=((bs.getD (a+3) 0*256+bs.getD (a+2) 0)*256+bs.getD (a+1) 0)*256+bs.getD a 0:=by
 rw [Zqk bs a hb,Zqk bs a hb,Zqk bs a hb,Zqk bs a hb]
 show 0+bs.getD a 0*1+bs.getD (a+1) 0*256+bs.getD (a+2) 0*65536+bs.getD (a+3) 0*16777216=_
 omega
def code164:AC:=match a164 with|.mk c _=>c
structure NA where
 x:UB
 a:Nat
structure NA.ok (p:NA):Prop where
 x:p.x.ok
 a:p.a+4≤128
def numRF:Fam NA:=⟨NA.ok,fun p=>[p.x.u,.int .i64 (p.a:Int)],fun p=>.int .u32 ((num (pad p.x.b) p.a 4:Nat):Int),fun p q hp hq h=>by
 obtain ⟨x,a⟩:=p
 obtain ⟨y,b⟩:=q
 have h1:=UB.inja hp.x.b hq.x.b (List.cons.inj h).1
 have h2:(a:Int)=b:=by have:=(List.cons.inj (List.cons.inj h).2).1;injection this
 have h2:=Int.ofNat.inj h2
 dsimp only at h1
 subst h1 h2;rfl⟩
theorem Zbn {B:List Nat}{i:Nat}(h:i<B.length):((bys B).drop (i*1))[0]?=some (.int .u8 ((B.getD i 0:Nat):Int)):=by
 rw [Nat.mul_one,List.getElem?_drop,Nat.add_zero]
 unfold bys
 rw [List.getElem?_map,List.getD_eq_getElem?_getD,List.getElem?_eq_getElem h];rfl
theorem Zqt {B:List Nat}(h:∀ y ∈ B,y<256) (i:Nat):B.getD i 0<256:=by
 rw [List.getD_eq_getElem?_getD]
 cases hq:B[i]? with
 | none=>decide
 | some y=>exact h y (List.mem_of_getElem? hq)
theorem Yf5 {P:Program}{e:Env}{fn:Func}(hE:EnvOk P e) (hm:P.follows .mixedOrders=true) (h114:Con e 114 wholeF.O) (h164:Inl e 164 code164 [.tmp 6]) (hf:P.funcs[150]?=some fn) (hc:Zaj P fn=some a150) (hb:Zaf P 150):OvOk P 150 numRF.O:=by
 refine Zal hb fun p hp=>?_
 obtain ⟨⟨u,b⟩,a⟩:=p
 obtain ⟨hx,ha⟩:=hp
 have huf:=hx.b.1.hf
 have l1:=Zcn hx.l
 have p1:=Zf9 hx.b.2
 dsimp only at huf l1 p1 ha
 refine ⟨by show (AM.hf u && (true && true))=true;rw [huf];rfl,rfl,C.of_V hE hm hf hc ?_⟩
 show VW P e 0 (match a150 with|.mk c _=>c) (Zax [u,.int .i64 (a:Int)] 0 .lf) St0 none [] (Zfa [.tmp 4] (fun w s'=>Frz s' w (.int .u32 ((num (pad b) a 4:Nat):Int))))
 have hnl:=Zfs (bs:=pad b) (a:=a) p1 4
 rw [num4 (pad b) a p1] at hnl ⊢
 have hB:Sl 1 (pad b).length (bys (pad b)) (fzB (pad b)):=(Zep ⟨l1,p1⟩).1
 have hw:∀ (K:AV→St→Prop) (s:St),K (fzB (pad b)) s→ESc e 114 [u] s K:=fun K s hk=>ESc.fam wholeF h114 ⟨u,b⟩ hx.le (u:=fzB (pad b)) (by show fzB (Zct b)=_;rw [Zjg hx.l]) hk
 clear hx
 generalize pad b=B at *
 have b0:=Zqt p1 (a+0)
 have b1:=Zqt p1 (a+1)
 have b2:=Zqt p1 (a+2)
 have b3:=Zqt p1 (a+3)
 conv=>whnf
 refine ESc.inl h164 ?_;conv=>whnf
 refine hw _ _ ?_;conv=>whnf
 refine Zcc (a:=4) (b:=1) rfl rfl (by decide) ?_;conv=>whnf
 refine EExec.loop ?_;conv=>whnf
 refine Zbj (a:=(4-1:Int)) (b:=0) rfl rfl (fun _=>?_) (fun h=>by omega);conv=>whnf
 refine Za2 (a:=(0:Int)) (b:=256) rfl rfl (by omega) ?_;conv=>whnf
 refine Zah (a:=(a:Int)) (b:=(4-1:Int)) rfl rfl (by omega) ?_
 rw [show (a:Int)+(4-1:Int)=((a+3:Nat):Int) by omega]
 conv=>whnf
 refine Zae rfl hB rfl (by omega) ?_;conv=>whnf
 refine EHead.mk (v:=.int .u8 ((B.getD (a+3) 0:Nat):Int)) (Zbn (by omega)) ?_;conv=>whnf
 refine Zam (q':=.i64) (a:=((B.getD (a+3) 0:Nat):Int)) rfl (i64_in (by omega)) ?_;conv=>whnf
 refine Zah (a:=(0:Int)*256) (b:=((B.getD (a+3) 0:Nat):Int)) rfl rfl (by omega) ?_;conv=>whnf
 refine Zcc (a:=(4-1:Int)) (b:=1) rfl rfl (by omega) ?_;conv=>whnf
 refine EExec.loop ?_;conv=>whnf
 refine Zbj (a:=(4-1-1:Int)) (b:=0) rfl rfl (fun _=>?_) (fun h=>by omega);conv=>whnf
 refine Za2 (a:=((0:Int)*256+((B.getD (a+3) 0:Nat):Int))) (b:=256) rfl rfl (by omega) ?_;conv=>whnf
 refine Zah (a:=(a:Int)) (b:=(4-1-1:Int)) rfl rfl (by omega) ?_
 rw [show (a:Int)+(4-1-1:Int)=((a+2:Nat):Int) by omega]
 conv=>whnf
 refine Zae rfl hB rfl (by omega) ?_;conv=>whnf
 refine EHead.mk (v:=.int .u8 ((B.getD (a+2) 0:Nat):Int)) (Zbn (by omega)) ?_;conv=>whnf
 refine Zam (q':=.i64) (a:=((B.getD (a+2) 0:Nat):Int)) rfl (i64_in (by omega)) ?_;conv=>whnf
 refine Zah (a:=((0:Int)*256+((B.getD (a+3) 0:Nat):Int))*256) (b:=((B.getD (a+2) 0:Nat):Int)) rfl rfl (by omega) ?_;conv=>whnf
 refine Zcc (a:=(4-1-1:Int)) (b:=1) rfl rfl (by omega) ?_;conv=>whnf
 refine EExec.loop ?_;conv=>whnf
 refine Zbj (a:=(4-1-1-1:Int)) (b:=0) rfl rfl (fun _=>?_) (fun h=>by omega);conv=>whnf
 refine Za2 (a:=(((0:Int)*256+((B.getD (a+3) 0:Nat):Int))*256+((B.getD (a+2) 0:Nat):Int))) (b:=256) rfl rfl (by omega) ?_;conv=>whnf
 refine Zah (a:=(a:Int)) (b:=(4-1-1-1:Int)) rfl rfl (by omega) ?_
 rw [show (a:Int)+(4-1-1-1:Int)=((a+1:Nat):Int) by omega]
 conv=>whnf
 refine Zae rfl hB rfl (by omega) ?_;conv=>whnf
 refine EHead.mk (v:=.int .u8 ((B.getD (a+1) 0:Nat):Int)) (Zbn (by omega)) ?_;conv=>whnf
 refine Zam (q':=.i64) (a:=((B.getD (a+1) 0:Nat):Int)) rfl (i64_in (by omega)) ?_;conv=>whnf
 refine Zah (a:=(((0:Int)*256+((B.getD (a+3) 0:Nat):Int))*256+((B.getD (a+2) 0:Nat):Int))*256) (b:=((B.getD (a+1) 0:Nat):Int)) rfl rfl (by omega) ?_;conv=>whnf
 refine Zcc (a:=(4-1-1-1:Int)) (b:=1) rfl rfl (by omega) ?_;conv=>whnf
 refine EExec.loop ?_;conv=>whnf
 refine Zbj (a:=(4-1-1-1-1:Int)) (b:=0) rfl rfl (fun _=>?_) (fun h=>by omega);conv=>whnf
 refine Za2 (a:=((((0:Int)*256+((B.getD (a+3) 0:Nat):Int))*256+((B.getD (a+2) 0:Nat):Int))*256+((B.getD (a+1) 0:Nat):Int))) (b:=256) rfl rfl (by omega) ?_;conv=>whnf
 refine Zah (a:=(a:Int)) (b:=(4-1-1-1-1:Int)) rfl rfl (by omega) ?_
 rw [show (a:Int)+(4-1-1-1-1:Int)=((a+0:Nat):Int) by omega]
 conv=>whnf
 refine Zae rfl hB rfl (by omega) ?_;conv=>whnf
 refine EHead.mk (v:=.int .u8 ((B.getD (a+0) 0:Nat):Int)) (Zbn (by omega)) ?_;conv=>whnf
 refine Zam (q':=.i64) (a:=((B.getD (a+0) 0:Nat):Int)) rfl (i64_in (by omega)) ?_;conv=>whnf
 refine Zah (a:=((((0:Int)*256+((B.getD (a+3) 0:Nat):Int))*256+((B.getD (a+2) 0:Nat):Int))*256+((B.getD (a+1) 0:Nat):Int))*256) (b:=((B.getD (a+0) 0:Nat):Int)) rfl rfl (by omega) ?_;conv=>whnf
 refine Zcc (a:=(4-1-1-1-1:Int)) (b:=1) rfl rfl (by omega) ?_;conv=>whnf
 refine EExec.loop ?_;conv=>whnf
 refine Zbj (a:=(4-1-1-1-1-1:Int)) (b:=0) rfl rfl (fun h=>by omega) (fun _=>?_);conv=>whnf
 refine Zam (q':=.u32) (a:=((((0:Int)*256+((B.getD (a+3) 0:Nat):Int))*256+((B.getD (a+2) 0:Nat):Int))*256+((B.getD (a+1) 0:Nat):Int))*256+((B.getD (a+0) 0:Nat):Int)) rfl (Zf2 (by omega)) ?_
 rw [show ((((0:Int)*256+((B.getD (a+3) 0:Nat):Int))*256+((B.getD (a+2) 0:Nat):Int))*256+((B.getD (a+1) 0:Nat):Int))*256+((B.getD (a+0) 0:Nat):Int)=((((B.getD (a+3) 0*256+B.getD (a+2) 0)*256+B.getD (a+1) 0)*256+B.getD a 0:Nat):Int) by show _+((B.getD a 0:Nat):Int)=_;omega]
 conv=>whnf
 exact .plain _ rfl
def le (n:Nat):Nat→List Nat
 | 0=>[]
 | k+1=>le n k++[n / 2^(8*k) % 256]
theorem Zbg (n:Nat):∀ k,(le n k).length=k
 | 0=>rfl
 | k+1=>by rw [le,List.length_append,Zbg n k];rfl
theorem Ygi (n:Nat):∀ k,∀ y ∈ le n k,y<256
 | 0,y,h=>by cases h
 | k+1,y,h=>by
  rcases List.mem_append.1 h with h|h
  ·exact Ygi n k y h
  ·simp at h;rw [h];exact Nat.mod_lt _ (by decide)
theorem Ya4 {b:List Nat}{y:Nat}(h:b.length<128):Zct (b++[y])=(Zct b).set b.length y:=by
 unfold Zct
 rw [List.length_append,List.length_singleton,List.set_append,if_neg (Nat.lt_irrefl _),Nat.sub_self,show 128-b.length=(128-(b.length+1))+1 by omega,List.replicate_succ,List.set_cons_zero,List.append_assoc];rfl
theorem Zqe {b:List Nat}{n:Nat}:∀ {k:Nat},b.length+k≤128→Zb8 (Zct b) b.length n k=Zct (b++le n k)
 | 0,_=>by rw [le,List.append_nil];rfl
 | k+1,h=>by
  rw [Zb8,Zqe (k:=k) (by omega),le,← List.append_assoc,Ya4 (by rw [List.length_append,Zbg];omega),List.length_append,Zbg]
theorem Ydj (a b:List Nat):bys (a++b)=bys a++bys b:=by unfold bys;rw [List.map_append]
def fourF:Fam Nat:=⟨fun n=>n<4294967296,fun n=>[.int .u32 (n:Int)],fun n=>.fz 4 none (bys (le n 4)),fun a b _ _ h=>by
 have h1:(a:Int)=b:=by have:=(List.cons.inj h).1;injection this
 rw [Int.ofNat.inj h1]⟩
theorem Ygw {P:Program}{e:Env}{fn:Func}(hE:EnvOk P e) (hm:P.follows .mixedOrders=true) (hf:P.funcs[166]?=some fn) (hc:Zaj P fn=some a166) (hb:Zaf P 166):OvOk P 166 fourF.O:=by
 refine Zal hb fun n hn=>?_
 have hn:n<4294967296:=hn
 refine ⟨rfl,rfl,C.of_V hE hm hf hc ?_⟩
 show VW P e 0 (match a166 with|.mk c _=>c) (Zax [.int .u32 (n:Int)] 0 .lf) St0 none [] (Zfa [.tmp 2] (fun w s'=>Frz s' w (.fz 4 none (bys (le n 4)))))
 have hl:bys (le n 4)=[.int .u8 ((n:Int) % 256),.int .u8 ((n:Int) / 256 % 256),.int .u8 ((n:Int) / 65536 % 256),.int .u8 ((n:Int) / 16777216)]:=by
  show [AV.int .u8 ((n / 2^(8*0) % 256:Nat):Int),.int .u8 ((n / 2^(8*1) % 256:Nat):Int),.int .u8 ((n / 2^(8*2) % 256:Nat):Int),.int .u8 ((n / 2^(8*3) % 256:Nat):Int)]=_
  rw [show ((n / 2^(8*0) % 256:Nat):Int)=(n:Int) % 256 by omega,show ((n / 2^(8*1) % 256:Nat):Int)=(n:Int) / 256 % 256 by omega,show ((n / 2^(8*2) % 256:Nat):Int)=(n:Int) / 65536 % 256 by omega,show ((n / 2^(8*3) % 256:Nat):Int)=(n:Int) / 16777216 by omega]
 rw [hl]
 conv=>whnf
 refine Zdk (a:=(n:Int)) (b:=256) rfl rfl (by omega) ?_;conv=>whnf
 refine Zam (q':=.u8) (a:=(n:Int) % 256) rfl (Zor (by omega)) ?_;conv=>whnf
 refine Zgv (a:=(n:Int)) (b:=256) rfl rfl (by omega) (Zf2 (by omega)) ?_;conv=>whnf
 refine Zdk (a:=(n:Int) / 256) (b:=256) rfl rfl (by omega) ?_;conv=>whnf
 refine Zam (q':=.u8) (a:=(n:Int) / 256 % 256) rfl (Zor (by omega)) ?_;conv=>whnf
 refine Zgv (a:=(n:Int)) (b:=65536) rfl rfl (by omega) (Zf2 (by omega)) ?_;conv=>whnf
 refine Zdk (a:=(n:Int) / 65536) (b:=256) rfl rfl (by omega) ?_;conv=>whnf
 refine Zam (q':=.u8) (a:=(n:Int) / 65536 % 256) rfl (Zor (by omega)) ?_;conv=>whnf
 refine Zgv (a:=(n:Int)) (b:=16777216) rfl rfl (by omega) (Zf2 (by omega)) ?_;conv=>whnf
 refine Zam (q':=.u8) (a:=(n:Int) / 16777216) rfl (Zor (by omega)) ?_;conv=>whnf
 exact .sl 0 0 4 _ _ 5 _ _ _ rfl (fun i x h=>by rw [Nat.zero_add];exact h) (Zsk rfl) (.inl rfl)
structure BS where
 u:AV
 b:List Nat
 n:Nat
structure BS.ok (p:BS):Prop where
 b:BAt p.u p.b
 l:p.b.length=128
 n:p.n<4294967296
def wthF:Fam BS:=⟨BS.ok,fun p=>[p.u,.int .i64 124,.int .i64 4,.int .i64 (p.n:Int)],fun p=>fzB (Zb8 p.b 124 p.n 4),fun p q hp hq h=>by
 obtain ⟨u,b,n⟩:=p
 obtain ⟨u',b',n'⟩:=q
 have h1:=UB.inja (x:=⟨u,b⟩) (y:=⟨u',b'⟩) hp.b hq.b (List.cons.inj h).1
 have h2:(n:Int)=n':=by have:=(List.cons.inj (List.cons.inj (List.cons.inj (List.cons.inj h).2).2).2).1;injection this
 have h2:=Int.ofNat.inj h2
 cases h1
 subst h2;rfl⟩
theorem Zvf {P:Program}{e:Env}(hE:EnvOk P e) (hm:P.follows .mixedOrders=true) (h114:Con e 114 Zdx) {u:AV}{b:List Nat}{n:Nat}(hx:BAt u b) (hl:b.length=128) (hn:n<4294967296) {K:AV→St→Prop}(fin:∀ s r,s.get r=some (.row 5 (bys (Zb8 b 124 n 4)))→K (.sl r 0 128 (some 128)) s):
 VW P e 0 (match a171 with|.mk c _=>c) (Zax [u,.int .i64 124,.int .i64 4,.int .i64 (n:Int)] 0 .lf) St0 none [] (Zfa [.tmp 8] K):=by
 have huf:=hx.1.hf
 have hpr:Zct b=b:=by rw [Zjg (.inr hl),Zc0 hl]
 have hw:=Zjc (x:=⟨u,b⟩) ⟨hx,by show b.length≤128;omega⟩ St0
 rw [show Zct (⟨u,b⟩:UB).b=b from hpr] at hw
 conv=>whnf
 refine ESc.ov h114 hw ?_;conv=>whnf
 refine Zbo (α:=Nat) (fun i=>[(0,u),(1,.int .i64 124),(2,.int .i64 4),(3,.int .i64 ((n / 2^(8*i):Nat):Int)),(9,.sl 0 0 128 (some 128)),(10,.int .i64 (i:Int))]) (fun i=>[.row 5 (bys (Zb8 b 124 n i))]) (fun i=>4-i) (fun i=>i≤4) 0 (Nat.zero_le _)
  (Abs.tells (rs:=[0]) ⟨by decide,⟨⟨Zbe _ huf,by rw [Zao _ huf];rfl⟩,⟨rfl,rfl⟩,⟨rfl,rfl⟩,⟨rfl,by show _=some (AV.int .i64 ((n / 1:Nat):Int));rw [Nat.div_one];rfl⟩,⟨rfl,rfl⟩,⟨rfl,rfl⟩,trivial⟩,⟨⟨Za6 (Zad _),by rw [Zac (Zad _)];rfl⟩,trivial⟩⟩) ?_
 intro i hi
 refine Zap hE hm ?_
 by_cases hlt:i<4
 ·have hd:n / 2^(8*(i+1))=n / 2^(8*i) / 256:=by rw [Nat.div_div_eq_div_mul,show 8*(i+1)=8*i+8 by omega,Nat.pow_add]
  have hd0:n / 2^(8*i)≤n:=Nat.div_le_self _ _
  have hs:Zb8 b 124 n (i+1)=(Zb8 b 124 n i).set (124+i) (n / 2^(8*i) % 256):=rfl
  have hpl:(Zb8 b 124 n i).length=128:=by rw [Zat];exact hl
  obtain ⟨m,hmq⟩:∃ m,m=n / 2^(8*i):=⟨_,rfl⟩
  rw [← hmq] at hd hd0 hs ⊢
  conv=>whnf
  refine Zab (a:=(i:Int)) (b:=4) rfl rfl (fun _=>?_) (fun h=>by omega);conv=>whnf
  refine Zah (a:=124) (b:=(i:Int)) rfl rfl (by omega) ?_;conv=>whnf
  refine Zdk (a:=(m:Int)) (b:=256) rfl rfl (by omega) ?_;conv=>whnf
  refine Zam (q':=.u8) (a:=(m:Int) % 256) rfl (Zor (by omega)) ?_;conv=>whnf
  refine Za0 rfl rfl (by omega) (by omega) ?_;conv=>whnf
  refine Zcq ((Zai St0 [.row 5 (bys (Zb8 b 124 n i))]).put 0 (.row 5 (bys (Zb8 b 124 n (i+1))))) ?_ ?_
  ·rw [hs]
   have h1:0+((124:Int)+(i:Int)).toNat*1=124+i:=by omega
   show storeAt 0 (0+((124:Int)+(i:Int)).toNat*1) [.int .u8 ((m:Int) % 256)] _=_
   rw [h1,show ((m:Int) % 256)=Int.ofNat (m % 256) by show _=((m % 256:Nat):Int);omega]
   exact Zrn rfl (by omega)
  conv=>whnf
  refine Zgv (a:=(m:Int)) (b:=256) rfl rfl (by omega) (i64_in (by omega)) ?_;conv=>whnf
  repeat' (first|((first|refine w7 rfl rfl (by omega) ?_|refine ⟨rfl,?_⟩);conv=>whnf)|fail)
  exact ⟨i+1,hlt,by omega,Abs.tells (rs:=[0]) ⟨by decide,⟨⟨Zbe _ huf,by rw [Zao _ huf];rfl⟩,⟨rfl,rfl⟩,⟨rfl,rfl⟩,⟨rfl,by rw [hd];rfl⟩,⟨rfl,rfl⟩,⟨rfl,rfl⟩,trivial⟩,⟨⟨Za6 (Zad _),by rw [Zac (Zad _)];rfl⟩,trivial⟩⟩⟩
 ·obtain rfl:i=4:=by omega
  conv=>whnf
  refine Zab (a:=((4:Nat):Int)) (b:=4) rfl rfl (fun _=>by omega) (fun h=>?_);conv=>whnf
  exact fin _ 0 rfl
theorem wthF_ok {P:Program}{e:Env}{fn:Func}(hE:EnvOk P e) (hm:P.follows .mixedOrders=true) (h114:Con e 114 Zdx) (hf:P.funcs[171]?=some fn) (hc:Zaj P fn=some a171) (hb:Zaf P 171):OvOk P 171 wthF.O:=by
 refine Zal hb fun p hp=>?_
 obtain ⟨u,b,n⟩:=p
 obtain ⟨hx,hl,hn⟩:=hp
 have huf:=hx.1.hf
 dsimp only at huf hl hn hx
 exact ⟨by show (AM.hf u && (true && (true && (true && true))))=true;rw [huf];rfl,rfl,C.of_V hE hm hf hc (Zvf hE hm h114 hx hl hn fun s r h=>.sl r 0 128 _ _ 5 _ _ _ h (fun i x h=>by rw [Nat.zero_add];exact h) (Zsk (Zad _)) (.inl rfl))⟩
def Zjz (b:List Nat):List Nat:=Zb8 (Zct b) 124 (Zen ((Zct b).take 124)) 4
def sealRF:Fam UB:=⟨UB.le,fun x=>[x.u],fun x=>fzB (Zjz x.b),fun x y hx hy h=>by rw [UB.inja hx.b hy.b (List.cons.inj h).1]⟩
theorem Yae {P:Program}{e:Env}{fn:Func}(hE:EnvOk P e) (hm:P.follows .mixedOrders=true) (h114:Con e 114 wholeF.O) (h115:Con e 115 sumRF.O) (h171:Con e 171 wthF.O) (hf:P.funcs[167]?=some fn) (hc:Zaj P fn=some Yhv) (hb:Zaf P 167):OvOk P 167 sealRF.O:=by
 refine Zal hb fun x hx=>?_
 obtain ⟨u,b⟩:=x
 have huf:=hx.b.1.hf
 have hl:=hx.l
 have l1:=Znk hl
 have p1:=Ya5 hx.b.2
 dsimp only at huf hl l1 p1
 refine ⟨by show (AM.hf u && true)=true;rw [huf];rfl,rfl,C.of_V hE hm hf hc ?_⟩
 show VW P e 0 (match Yhv with|.mk c _=>c) (Zax [u] 0 .lf) St0 none [] (Zfa [.tmp 2] (fun w s'=>Frz s' w (fzB (Zjz b))))
 have htk:∀ y ∈ (Zct b).take 124,y<256:=fun y hy=>p1 y (List.mem_of_mem_take hy)
 have htl:((Zct b).take 124).length=124:=by rw [List.length_take];omega
 have hsum:Zen ((Zct b).take 124)<4294967296:=Nat.xor_lt_two_pow (n:=32) (Zg7 htk (by decide)) (by decide)
 have hw:∀ (K:AV→St→Prop) (s:St),K (fzB (Zct b)) s→ESc e 114 [u] s K:=fun K s hk=>ESc.fam wholeF h114 ⟨u,b⟩ hx (u:=fzB (Zct b)) rfl hk
 have hS:∀ (K:AV→St→Prop) (s:St),K (.int .u32 ((Zen ((Zct b).take 124):Nat):Int)) s→ESc e 115 [.fz 124 none ((bys (Zct b)).take 124)] s K:=fun K s hk=>
  ESc.fam sumRF h115 ⟨.fz 124 none ((bys (Zct b)).take 124),(Zct b).take 124⟩ ⟨⟨.inr (.inr ⟨none,by show AV.fz 124 none _=.fz ((Zct b).take 124).length _ (bys ((Zct b).take 124));rw [htl,Zms],by rw [Zan,Nat.mul_one]⟩),htk⟩,by show ((Zct b).take 124).length<_;omega⟩ (u:=.int .u32 ((Zen ((Zct b).take 124):Nat):Int)) rfl hk
 have hW:=fun (K:AV→St→Prop) (s:St) (hk:K (fzB (Zjz b)) s)=>ESc.fam wthF h171 ⟨fzB (Zct b),Zct b,Zen ((Zct b).take 124)⟩ ⟨Zep ⟨l1,p1⟩,l1,hsum⟩ (u:=fzB (Zjz b)) rfl (k:=K) (s:=s) hk
 have hbl:(bys (Zct b)).length=128:=by rw [Zan];exact l1
 conv=>whnf
 refine hw _ _ ?_;conv=>whnf
 refine Zhg (h:=124) rfl rfl rfl (by omega) (by omega) (by omega) (by rw [hbl];omega) ?_;conv=>whnf
 refine hS _ _ ?_;conv=>whnf
 refine Zam (q':=.i64) (a:=((Zen ((Zct b).take 124):Nat):Int)) rfl (i64_in (by omega)) ?_;conv=>whnf
 refine hW _ _ ?_;conv=>whnf
 exact .plain _ rfl
end Go.AM
set_option maxRecDepth 100000
namespace Go.AM
attribute [local irreducible] W
open X
def sizF:Fam BN:=⟨BN.ok,fun x=>[x.v],fun x=>.bool (!Zde x.n),fun x y hx hy h=>by rw [BN.inj hx hy h]⟩
theorem Zxq {P:Program}{e:Env}{fn:Func}(hE:EnvOk P e) (hm:P.follows .mixedOrders=true) (hf:P.funcs[148]?=some fn) (hc:Zaj P fn=some a148) (hb:Zaf P 148):OvOk P 148 sizF.O:=by
 refine Zal hb ?_
 rintro ⟨v,n⟩ hx
 obtain ⟨⟨l,hv⟩,hn⟩:=hx
 dsimp only at hv hn
 refine ⟨by show (AM.hf v && true)=true;rw [hv.hf];rfl,rfl,C.of_V hE hm hf hc ?_⟩
 have fin:∀ s (b:Bool),b=!Zde n→Frz s (.bool b) (sizF.out ⟨v,n⟩):=by
  rintro s b rfl;exact .plain _ rfl
 unfold Zde at fin
 show VW P e 0 (match a148 with|.mk c _=>c) (Zax [v] 0 .lf) St0 none [] _
 conv=>whnf
 repeat' (first|(refine Zaa rfl hv ?_;conv=>whnf)|((refine w5 rfl rfl ?_ ?_) <;> intro _ <;> first|(exfalso;omega)|(conv=>whnf))|fail)
 all_goals first
  | exact fin _ _ (by rw [decide_eq_true (by omega),decide_eq_true (by omega)];rfl)
  | exact fin _ _ (by rw [decide_eq_true (by omega),decide_eq_false (by omega)];rfl)
  | exact fin _ _ (by rw [decide_eq_false (by omega)];rfl)
theorem Zxp {P:Program}{e:Env}{fn:Func}(hE:EnvOk P e) (hm:P.follows .mixedOrders=true) (hf:P.funcs[149]?=some fn) (hc:Zaj P fn=some a149) (hb:Zaf P 149):OvOk P 149 sizF.O:=by
 refine Zal hb ?_
 rintro ⟨v,n⟩ hx
 obtain ⟨⟨l,hv⟩,hn⟩:=hx
 dsimp only at hv hn
 refine ⟨by show (AM.hf v && true)=true;rw [hv.hf];rfl,rfl,C.of_V hE hm hf hc ?_⟩
 have fin:∀ s (b:Bool),b=!Zde n→Frz s (.bool b) (sizF.out ⟨v,n⟩):=by
  rintro s b rfl;exact .plain _ rfl
 unfold Zde at fin
 show VW P e 0 (match a149 with|.mk c _=>c) (Zax [v] 0 .lf) St0 none [] _
 conv=>whnf
 repeat' (first|(refine Zaa rfl hv ?_;conv=>whnf)|((refine w5 rfl rfl ?_ ?_) <;> intro _ <;> first|(exfalso;omega)|(conv=>whnf))|fail)
 all_goals first
  | exact fin _ _ (by rw [decide_eq_true (by omega),decide_eq_true (by omega)];rfl)
  | exact fin _ _ (by rw [decide_eq_true (by omega),decide_eq_false (by omega)];rfl)
  | exact fin _ _ (by rw [decide_eq_false (by omega)];rfl)
def code108:AC:=match a108 with|.mk c _=>c
def code109:AC:=match a109 with|.mk c _=>c
def code111:AC:=match a111 with|.mk c _=>c
def code154:AC:=match a154 with|.mk c _=>c
def mayRF:Fam Cfg:=⟨Cfg.ok,fun x=>[x.v],fun x=>.bool (decide x.may),fun x y _ _ h=>by rw [Zem (List.cons.inj h).1]⟩
theorem Ygd {P:Program}{e:Env}{fn:Func}(hE:EnvOk P e) (hm:P.follows .mixedOrders=true) (h108:Inl e 108 code108 [.tmp 6]) (h109:Inl e 109 code109 [.tmp 2]) (hf:P.funcs[68]?=some fn) (hc:Zaj P fn=some a68) (hb:Zaf P 68):OvOk P 68 mayRF.O:=by
 refine Zal hb ?_
 rintro ⟨id,members,chunk,rows,log,heads⟩ ⟨h1,h2,h3,h4,h5,h6⟩
 unfold Zc4 at h2 h3 h4 h5 h6
 dsimp only at h2 h3 h4 h5 h6
 refine ⟨rfl,rfl,C.of_V hE hm hf hc ?_⟩
 have fin1:∀ s,((3≤members∧members≤16)∧(1≤chunk∧chunk≤8)∧(1≤rows∧rows≤8)∧(2≤heads∧heads≤8)∧(members+1)*(heads+1)≤log∧log≤255)→Frz s (.bool true) (mayRF.out ⟨id,members,chunk,rows,log,heads⟩):=by
  intro s h
  show Frz s _ (.bool (decide (Cfg.may ⟨id,members,chunk,rows,log,heads⟩)))
  rw [decide_eq_true (show Cfg.may ⟨id,members,chunk,rows,log,heads⟩ from h)];exact .plain _ rfl
 have fin0:∀ s,¬ ((3≤members∧members≤16)∧(1≤chunk∧chunk≤8)∧(1≤rows∧rows≤8)∧(2≤heads∧heads≤8)∧(members+1)*(heads+1)≤log∧log≤255)→Frz s (.bool false) (mayRF.out ⟨id,members,chunk,rows,log,heads⟩):=by
  intro s h
  show Frz s _ (.bool (decide (Cfg.may ⟨id,members,chunk,rows,log,heads⟩)))
  rw [decide_eq_false (show ¬ Cfg.may ⟨id,members,chunk,rows,log,heads⟩ from h)];exact .plain _ rfl
 show VW P e 0 (match a68 with|.mk c _=>c) (Zax [AV.agg [.int .u32 id,.int .i64 members,.int .i64 chunk,.int .i64 rows,.int .i64 log,.int .i64 heads]] 0 .lf) St0 none [] _
 conv=>whnf
 repeat' (first|(refine ESc.inl h108 ?_;conv=>whnf)|(refine ESc.inl h109 ?_;conv=>whnf)|(refine Za2 rfl rfl (Zh1 (by omega) (by omega)) ?_;conv=>whnf)|(refine Zbp rfl ?_;conv=>whnf)|(refine Zeb rfl ?_;conv=>whnf)|((first|refine w2 rfl rfl ?_ ?_|refine w4 rfl rfl ?_ ?_) <;> intro _ <;> first|(exfalso;omega)|(conv=>whnf))|((first|refine w7 rfl rfl (by omega) ?_|refine ⟨rfl,?_⟩);conv=>whnf)|fail)
 all_goals first
  | exact fin0 _ (by omega)
  | exact fin1 _ (by omega)
  | skip
theorem Ziv (x:DK):Zhp x=true↔(1≤x.us.length∧x.us.length≤256∧x.ws.length≤1024)∧(∀ b ∈ x.bs,Zde b.length=false)∧(∀ w ∈ x.ws,Zi2 x.us.length w=false)∧(x.dead=true→x.ws.length=0∧∀ b ∈ x.bs,b.length=0):=by
 unfold Zhp
 simp only [Bool.and_eq_true,Bool.not_eq_true',decide_eq_true_eq,List.any_eq_false,List.mem_map]
 constructor
 ·rintro ⟨⟨⟨h1,h2⟩,h3⟩,h4⟩
  refine ⟨h1,fun b hb=>by simpa using h2 _ ⟨b,hb,rfl⟩,fun w hw=>by simpa using h3 w hw,fun hd=>?_⟩
  rw [hd] at h4
  simp only [Bool.true_and,Bool.or_eq_false_iff,decide_eq_false_iff_not,List.any_eq_false,List.mem_map] at h4
  exact ⟨by omega,fun b hb=>by have:=h4.2 _ ⟨b,hb,rfl⟩;unfold Ya2 at this;simpa using this⟩
 ·rintro ⟨h1,h2,h3,h4⟩
  refine ⟨⟨⟨h1,?_⟩,fun w hw=>by simpa using h3 w hw⟩,?_⟩
  ·rintro _ ⟨b,hb,rfl⟩;simpa using h2 b hb
  ·cases hd:x.dead with
   | false=>rfl
   | true=>
    obtain ⟨h5,h6⟩:=h4 hd
    simp only [Bool.true_and,Bool.or_eq_false_iff,decide_eq_false_iff_not,List.any_eq_false,List.mem_map]
    refine ⟨by omega,?_⟩
    rintro _ ⟨b,hb,rfl⟩
    unfold Ya2
    have:=h6 b hb
    simp [this]
def dmayF:Fam DK:=⟨DK.ok,fun x=>[x.v],fun x=>.bool (Zhp x),fun x y hx hy h=>by rw [DK.inj hx.a hy.a (List.cons.inj h).1]⟩
theorem Zg3 {α:Type}{l:List α}{i:Nat}{x y:α}(h:l[i]?=some x) (hy:y ∈ l.take (i+1)):y ∈ l.take i∨y=x:=by
 have hlt:=(List.getElem?_eq_some_iff.1 h).1
 rw [List.take_succ_eq_append_getElem hlt] at hy
 rcases List.mem_append.1 hy with hy|hy
 ·exact .inl hy
 ·rw [List.getElem?_eq_getElem hlt] at h
  cases h
  simp at hy;exact .inr hy
def Ydc:AC:=match a110 with|.mk c _=>c
def Yat:AC:=match Ydc with
 | .seq _ (.seq _ r)=>r
 | _=>.skip
theorem Ycy {P:Program}{e:Env}(hE:EnvOk P e) (hm:P.follows .mixedOrders=true) (h148:Con e 148 sizF.O) {x:DK}(hx:x.ok) {K:AV→St→Prop}(hT:1≤x.us.length∧x.us.length≤256∧x.ws.length≤1024) (hdd:x.dead=true→x.ws.length=0)
 (k1:Zhp x=true→∀ s,K (.bool true) s) (k0:¬ Zhp x=true→∀ s,K (.bool false) s):W P 0 none Yat (ofL [(1,.ptr 0 0)]) (Zai St0 [.row 28 x.c]) [] (Zhv [.tmp 2] K):=by
 rw [Ziv] at k0 k1
 obtain ⟨⟨hbl,hbs,hwl,hws⟩,hn,hm',hb',hw'⟩:=hx
 obtain ⟨bv,us,bs,wv,ws,dd⟩:=x
 dsimp only at hbl hbs hwl hws hn hm' hb' hw' k0 k1 hT hdd
 have hdf:hfs [bv,wv,.bool dd]=true:=Zp0 hwl hbl
 have hbn:=hbs.length
 refine Zkt hE hm ?_
 show VW P e 0 Yat (ofL [(1,.ptr 0 0)]) (Zai St0 [.row 28 [bv,wv,.bool dd]]) none [] _
 conv=>whnf
 refine Zbo (α:=Nat) (fun i=>[(1,.ptr 0 0),(3,.int .i64 (i:Int))]) (fun _=>[.row 28 [bv,wv,.bool dd]]) (fun i=>us.length-i) (fun i=>i≤us.length∧∀ b ∈ bs.take i,Zde b.length=false∧(dd=true→b.length=0)) 0 ⟨Nat.zero_le _,fun b hb=>by simp at hb⟩
  (Abs.tells (rs:=[0]) ⟨by decide,⟨⟨rfl,rfl⟩,⟨rfl,rfl⟩,trivial⟩,⟨⟨Za6 hdf,by rw [Zac hdf];rfl⟩,trivial⟩⟩) ?_
 rintro i ⟨hi,hI⟩
 refine Zap hE hm ?_
 by_cases hlt:i<us.length
 ·obtain ⟨b,hb1,hb2⟩:=hbs.get (List.getElem?_eq_getElem hlt)
  have hbm:=List.mem_of_getElem? hb1
  have hbl2:=hb' b hbm
  have hnxt:Zde b.length=false∧(dd=true→b.length=0)→∀ b ∈ bs.take (i+1),Zde b.length=false∧(dd=true→b.length=0):=fun h c hc=>by
   rcases Zg3 hb1 hc with hc|rfl
   ·exact hI c hc
   ·exact h
  have hno:(Zde b.length=true∨(dd=true∧b.length≠0))→∀ s,K (.bool false) s:=fun h=>k0 (by
   rintro ⟨_,h2,_,h4⟩
   rcases h with h|⟨h,h'⟩
   ·rw [h2 b hbm] at h;cases h
   ·exact h' ((h4 h).2 b hbm))
  have q1:((us.drop (i*1)))[0]?=some us[i]:=by rw [Nat.mul_one,List.getElem?_drop,Nat.add_zero,List.getElem?_eq_getElem hlt]
  have hall:=And.intro q1 hb2
  clear q1 hb2
  revert hall
  generalize us[i]=u
  rintro ⟨q1,hb2⟩
  clear k0 k1 hI
  have hend:(∀ b ∈ bs.take (i+1),Zde b.length=false∧(dd=true→b.length=0))→∀ t s,t.get 1=some (.ptr 0 0)→t.get 3=some (.int .i64 ((i:Int)+1))→s.get 0=some (.row 28 [bv,wv,.bool dd])→
   ∃ x',(x'≤us.length∧∀ b ∈ bs.take x',Zde b.length=false∧(dd=true→b.length=0))∧us.length-x'<us.length-i∧Tells P 0 t s [] (ofL [(1,.ptr 0 0),(3,.int .i64 (x':Int))]) (Zai St0 [.row 28 [bv,wv,.bool dd]]) []:=fun h0 t s g1 g3 gr=>
   ⟨i+1,⟨hlt,h0⟩,by omega,Abs.tells (rs:=[0]) ⟨by decide,⟨⟨rfl,g1⟩,⟨rfl,g3⟩,trivial⟩,⟨⟨Za6 hdf,by rw [Zac hdf];exact gr⟩,trivial⟩⟩⟩
  conv=>whnf
  refine Zaa rfl hbl ?_;conv=>whnf
  refine Zab (a:=(i:Int)) (b:=(us.length:Int)) rfl rfl (fun _=>?_) (fun h=>by omega);conv=>whnf
  refine Zae rfl hbl rfl hlt ?_;conv=>whnf
  refine EHead.mk (v:=u) q1 ?_;conv=>whnf
  refine ESc.fam sizF h148 ⟨u,b.length⟩ ⟨⟨_,hb2.1⟩,by dsimp only;omega⟩ (u:=.bool (!Zde b.length)) rfl ?_
  cases ho:Zde b.length
  ·conv=>whnf
   refine Zbp rfl ?_;conv=>whnf
   cases dd
   ·repeat' (first|((first|refine w7 rfl rfl (by omega) ?_|refine ⟨rfl,?_⟩);conv=>whnf)|fail)
    exact hend (hnxt ⟨ho,fun h=>by cases h⟩) _ _ rfl rfl rfl
   ·repeat' (first|(refine Zae rfl hbl rfl hlt ?_;conv=>whnf)|(refine EHead.mk (v:=u) q1 ?_;conv=>whnf)|(refine Zaa rfl hb2.1 ?_;conv=>whnf)|((refine w3 rfl rfl ?_ ?_) <;> intro _ <;> first|(exfalso;omega)|(conv=>whnf))|((first|refine w7 rfl rfl (by omega) ?_|refine ⟨rfl,?_⟩);conv=>whnf)|fail)
    ·exact hno (.inr ⟨rfl,by omega⟩) _
    ·exact hend (hnxt ⟨ho,fun _=>by omega⟩) _ _ rfl rfl rfl
  ·conv=>whnf
   refine Zeb rfl ?_;conv=>whnf
   skip
   exact hno (.inl ho) _
 ·have hI':∀ b ∈ bs,Zde b.length=false∧(dd=true→b.length=0):=by rw [List.take_of_length_le (by omega)] at hI;exact hI
  clear hI
  conv=>whnf
  refine Zaa rfl hbl ?_;conv=>whnf
  refine Zab (a:=(i:Int)) (b:=(us.length:Int)) rfl rfl (fun _=>by omega) (fun h=>?_);conv=>whnf
  refine Zbo (α:=Nat) (fun i=>[(1,.ptr 0 0),(4,.int .i64 (i:Int))]) (fun _=>[.row 28 [bv,wv,.bool dd]]) (fun i=>ws.length-i) (fun i=>i≤ws.length∧∀ w ∈ ws.take i,Zi2 us.length w=false) 0 ⟨Nat.zero_le _,fun b hb=>by simp at hb⟩
   (Abs.tells (rs:=[0]) ⟨by decide,⟨⟨rfl,rfl⟩,⟨rfl,rfl⟩,trivial⟩,⟨⟨Za6 hdf,by rw [Zac hdf];rfl⟩,trivial⟩⟩) ?_
  rintro j ⟨hj,hJ⟩
  refine Zap hE hm ?_
  by_cases hjlt:j<ws.length
  ·have hd:=Zb0 hjlt
   have hwa:=hws _ (List.getElem_mem hjlt)
   have hwl2:=hw' _ (List.getElem_mem hjlt)
   have hnxt:Zi2 us.length ws[j]=false→∀ w ∈ ws.take (j+1),Zi2 us.length w=false:=fun h c hc=>by
    rcases Zg3 (List.getElem?_eq_getElem hjlt) hc with hc|rfl
    ·exact hJ c hc
    ·exact h
   have hno:Zi2 us.length ws[j]=true→∀ s,K (.bool false) s:=fun h=>k0 (by
    rintro ⟨_,_,h3,_⟩
    rw [h3 _ (List.getElem_mem hjlt)] at h;cases h)
   have hall:=And.intro hd (And.intro hwa (And.intro hwl2 (And.intro hnxt hno)))
   clear hd hwa hwl2 hnxt hno
   revert hall
   generalize ws[j]=w
   obtain ⟨wa,wu,wb⟩:=w
   rintro ⟨hd,⟨hwa,hwb⟩,hwl2,hnxt,hno⟩
   have hd:(wrs ws).drop (j*2)=[.int .i64 wa,wu]++wrs (ws.drop (j+1)):=hd
   unfold Zi2 at hnxt hno
   dsimp only at hwa hwb hwl2 hnxt hno
   clear k0 k1 hJ hI'
   have hend:(∀ w ∈ ws.take (j+1),(decide (w.at_<0) || decide ((us.length:Int)≤w.at_) || Zde w.b.length)=false)→∀ t s,t.get 1=some (.ptr 0 0)→t.get 4=some (.int .i64 ((j:Int)+1))→s.get 0=some (.row 28 [bv,wv,.bool dd])→
    ∃ x',(x'≤ws.length∧∀ w ∈ ws.take x',Zi2 us.length w=false)∧ws.length-x'<ws.length-j∧Tells P 0 t s [] (ofL [(1,.ptr 0 0),(4,.int .i64 (x':Int))]) (Zai St0 [.row 28 [bv,wv,.bool dd]]) []:=fun h0 t s g1 g3 gr=>
    ⟨j+1,⟨hjlt,h0⟩,by omega,Abs.tells (rs:=[0]) ⟨by decide,⟨⟨rfl,g1⟩,⟨rfl,g3⟩,trivial⟩,⟨⟨Za6 hdf,by rw [Zac hdf];exact gr⟩,trivial⟩⟩⟩
   conv=>whnf
   refine Zaa rfl hwl ?_;conv=>whnf
   refine Zab (a:=(j:Int)) (b:=(ws.length:Int)) rfl rfl (fun _=>?_) (fun h=>by omega);conv=>whnf
   refine Zae rfl hwl rfl hjlt ?_
   rw [hd]
   conv=>whnf
   refine EHead.mk (v:=.int .i64 wa) rfl ?_;conv=>whnf
   refine Zab (a:=wa) (b:=0) rfl rfl (fun h1=>?_) (fun h1=>?_)
   ·conv=>whnf
    skip
    exact hno (by rw [decide_eq_true h1];rfl) _
   conv=>whnf
   refine Zae rfl hwl rfl hjlt ?_
   rw [hd]
   conv=>whnf
   refine EHead.mk (v:=.int .i64 wa) rfl ?_;conv=>whnf
   refine Zaa rfl hbl ?_;conv=>whnf
   refine Zbj (a:=wa) (b:=(us.length:Int)) rfl rfl (fun h2=>?_) (fun h2=>?_)
   ·conv=>whnf
    skip
    exact hno (by rw [decide_eq_true h2];simp) _
   conv=>whnf
   refine Zae rfl hwl rfl hjlt ?_
   rw [hd]
   conv=>whnf
   refine EHead.mk (v:=wu) rfl ?_;conv=>whnf
   refine ESc.fam sizF h148 ⟨wu,wb.length⟩ ⟨⟨_,hwb.1⟩,by dsimp only;omega⟩ (u:=.bool (!Zde wb.length)) rfl ?_
   rw [decide_eq_false (by omega),decide_eq_false (by omega)] at hnxt hno
   cases ho:Zde wb.length
   ·conv=>whnf
    refine Zbp rfl ?_;conv=>whnf
    repeat' (first|((first|refine w7 rfl rfl (by omega) ?_|refine ⟨rfl,?_⟩);conv=>whnf)|fail)
    exact hend (hnxt (by rw [ho];rfl)) _ _ rfl rfl rfl
   ·conv=>whnf
    refine Zeb rfl ?_;conv=>whnf
    skip
    exact hno (by rw [ho];rfl) _
  ·have hJ':∀ w ∈ ws,Zi2 us.length w=false:=by rw [List.take_of_length_le (by omega)] at hJ;exact hJ
   conv=>whnf
   refine Zaa rfl hwl ?_;conv=>whnf
   refine Zab (a:=(j:Int)) (b:=(ws.length:Int)) rfl rfl (fun _=>by omega) (fun h=>?_);conv=>whnf
   exact k1 ⟨hT,fun b hb=>(hI' b hb).1,hJ',fun hd=>⟨hdd hd,fun b hb=>(hI' b hb).2 hd⟩⟩ _
theorem Yhf {P:Program}{e:Env}{fn:Func}(hE:EnvOk P e) (hm:P.follows .mixedOrders=true) (h148:Con e 148 sizF.O) (hf:P.funcs[110]?=some fn) (hc:Zaj P fn=some a110) (hb:Zaf P 110):OvOk P 110 dmayF.O:=by
 refine Zal hb fun x hx=>?_
 refine ⟨by show (AM.hf x.v && true)=true;rw [DK.hf hx.a];rfl,rfl,C.of_W hf hc ?_⟩
 have fin1:Zhp x=true→∀ s,Frz s (.bool true) (dmayF.out x):=by intro h s;show Frz s _ (.bool (Zhp x));rw [h];exact .plain _ rfl
 have fin0:¬ Zhp x=true→∀ s,Frz s (.bool false) (dmayF.out x):=by intro h s;show Frz s _ (.bool (Zhp x));rw [Bool.eq_false_iff.2 h];exact .plain _ rfl
 have hrest:=fun h1 h2=>Ycy (K:=fun w s'=>Frz s' w (dmayF.out x)) hE hm h148 hx h1 h2 fin1 fin0
 rw [Ziv] at fin0
 obtain ⟨O,hO⟩:∃ O,O=dmayF.out x:=⟨_,rfl⟩
 rw [← hO] at fin0 hrest ⊢
 clear hO fin1
 obtain ⟨⟨hbl,hbs,hwl,hws⟩,hn,hm',hb',hw'⟩:=hx
 obtain ⟨bv,us,bs,wv,ws,dd⟩:=x
 dsimp only at hbl hbs hwl hws hn hm' hb' hw' fin0 hrest
 have hdf:hfs [bv,wv,.bool dd]=true:=Zp0 hwl hbl
 show W P 0 none Ydc (Zax [.agg [bv,wv,.bool dd]] 0 .lf) St0 [] (Zhv [.tmp 2] _)
 refine W.seqV hE hm ?_;conv=>whnf
 refine W.seqV hE hm ?_;conv=>whnf
 have hgo:=fun (h1:1≤us.length∧us.length≤256∧ws.length≤1024) (h2:dd=true→ws.length=0) (t:AT) (s:St) (g1:t.get 1=some (.ptr 0 0)) (gr:s.get 0=some (.row 28 [bv,wv,.bool dd]))=>W.tells (Abs.tells (tl:=[(1,.ptr 0 0)]) (os:=[.row 28 [bv,wv,.bool dd]]) (rs:=[0]) ⟨by decide,⟨⟨rfl,g1⟩,trivial⟩,⟨⟨Za6 hdf,by rw [Zac hdf];exact gr⟩,trivial⟩⟩) (hrest h1 h2)
 have hno:=fun (h:¬ ((1≤us.length∧us.length≤256∧ws.length≤1024)∧(dd=true→ws.length=0)))=>fin0 (fun h'=>h ⟨h'.1,fun hd=>(h'.2.2.2 hd).1⟩)
 cases dd
 ·repeat' (first|(refine Zaa rfl hbl ?_;conv=>whnf)|(refine Zaa rfl hwl ?_;conv=>whnf)|((first|refine w1 rfl rfl ?_ ?_|refine w3 rfl rfl ?_ ?_) <;> intro _ <;> first|(exfalso;omega)|(conv=>whnf))|fail)
  all_goals first
   | exact hgo (by omega) (fun h=>by cases h) _ _ rfl rfl
   | exact ⟨.inr rfl,_,_,rfl,rfl,hno (by omega) _⟩
 ·repeat' (first|(refine Zaa rfl hbl ?_;conv=>whnf)|(refine Zaa rfl hwl ?_;conv=>whnf)|((first|refine w1 rfl rfl ?_ ?_|refine w3 rfl rfl ?_ ?_) <;> intro _ <;> first|(exfalso;omega)|(conv=>whnf))|fail)
  all_goals first
   | exact hgo (by omega) (fun h=>by omega) _ _ rfl rfl
   | exact ⟨.inr rfl,_,_,rfl,rfl,hno (by rintro ⟨h1,h2⟩;have h2:=h2 rfl;omega) _⟩
structure CDK where
 c:Cfg
 d:DK
structure CDK.ok (x:CDK):Prop where
 c:x.c.ok
 d:x.d.ok
 l:0≤x.c.log∧x.c.log≤255
def jnlB (x:CDK):Bool:=Zhp x.d && decide ((x.d.us.length:Int)=x.c.log+1)
def jnlF:Fam CDK:=⟨CDK.ok,fun x=>[x.c.v,x.d.v],fun x=>.bool (jnlB x),fun x y hx hy h=>by
 obtain ⟨c,d⟩:=x
 obtain ⟨c',d'⟩:=y
 have h0:=Zem (List.cons.inj h).1
 have h1:=DK.inj hx.d.a hy.d.a (List.cons.inj (List.cons.inj h).2).1
 dsimp only at h0 h1
 rw [h0,h1]⟩
theorem jnlF_ok {P:Program}{e:Env}{fn:Func}(hE:EnvOk P e) (hm:P.follows .mixedOrders=true) (h110:Con e 110 dmayF.O) (h111:Inl e 111 code111 [.tmp 2]) (hf:P.funcs[69]?=some fn) (hc:Zaj P fn=some a69) (hb:Zaf P 69):OvOk P 69 jnlF.O:=by
 refine Zal hb fun x hx=>?_
 refine ⟨by show (AM.hf x.c.v && (AM.hf x.d.v && true))=true;rw [DK.hf hx.d.a];rfl,rfl,C.of_V hE hm hf hc ?_⟩
 have fin:∀ s b,jnlB x=b→Frz s (.bool b) (jnlF.out x):=by rintro s b rfl;exact .plain _ rfl
 unfold jnlB at fin
 have hd:=hx.d
 obtain ⟨O,hO⟩:∃ O,O=jnlF.out x:=⟨_,rfl⟩
 rw [← hO] at fin ⊢
 clear hO
 obtain ⟨c,d⟩:=x
 dsimp only at fin hd
 have hD:=fun (K:AV→St→Prop) (s:St) (hk:K (.bool (Zhp d)) s)=>ESc.fam (k:=K) (s:=s) dmayF h110 d hd rfl hk
 have hu:=hd.n
 have hlog:=hx.l
 have hdk:Zhp d=true→d.us.length≤256:=fun h=>((Ziv d).1 h).1.2.1
 obtain ⟨id,mb,ch,rw',lg,hdd⟩:=c
 dsimp only at fin hlog
 have hbl:=hd.a.bl
 obtain ⟨bv,us,bs,wv,ws,dd⟩:=d
 dsimp only at fin hu hbl hdk
 show VW P e 0 (match a69 with|.mk c _=>c) (Zax [.agg [.int .u32 id,.int .i64 mb,.int .i64 ch,.int .i64 rw',.int .i64 lg,.int .i64 hdd],.agg [bv,wv,.bool dd]] 0 .lf) St0 none [] _
 conv=>whnf
 refine hD _ _ ?_
 cases hq:Zhp ⟨bv,us,bs,wv,ws,dd⟩
 ·rw [hq] at fin
  conv=>whnf
  skip
  exact fin _ _ rfl
 ·rw [hq] at fin
  have hdk:=hdk hq
  conv=>whnf
  repeat' (first|(refine Zaa rfl hbl ?_;conv=>whnf)|(refine ESc.inl h111 ?_;conv=>whnf)|((refine w5 rfl rfl ?_ ?_) <;> intro _ <;> first|(exfalso;omega)|(conv=>whnf))|((first|refine w7 rfl rfl (by omega) ?_|refine ⟨rfl,?_⟩);conv=>whnf)|fail)
  ·exact fin _ _ (by rw [decide_eq_true (by omega)];rfl)
  ·exact fin _ _ (by rw [decide_eq_false (by omega)];rfl)
end Go.AM
set_option maxRecDepth 100000
namespace Go.AM
attribute [local irreducible] W
open X
theorem BAt.fz {u:AV}{b:List Nat}(h:BAt u b) (hb:b≠[]):∃ c x l,u=.fz b.length c (bys b)∧bys b=x::l:=by
 have h0:b.length≠0:=fun e=>hb (List.length_eq_zero_iff.1 e)
 obtain ⟨c,hc⟩:∃ c,u=.fz b.length c (bys b):=by
  rcases h.1 with ⟨_,h,_⟩|⟨_,h,_⟩|⟨c,h,_⟩
  ·omega
  ·omega
  ·exact ⟨c,h⟩
 cases b with
 | nil=>exact absurd rfl hb
 | cons y l=>exact ⟨c,_,_,hc,rfl⟩
theorem Zm2 {es n:Nat}{c:Option Nat}{l:List AV}(h:l.length=n*es) (s:St):Zgl es (.fz n c l) s=some l:=by
 show Zdf (n*es) l=_
 rw [Zgy (by omega),List.take_of_length_le (by omega)]
def Zsi (b:List Nat):AV:=.fz (pad b).length none (bys (pad b))
theorem Ygu {b:List Nat}(h:b.length=0∨b.length=128):Zsi b=fzB (pad b):=by unfold Zsi;rw [Zcn h];rfl
theorem Zwp {b:List Nat}(hb:∀ y ∈ b,y<256):BAt (Zsi b) (pad b):=⟨.inr (.inr ⟨none,rfl,by rw [Zan,Nat.mul_one]⟩),Zf9 hb⟩
def fullF:Fam UB:=⟨UB.any,fun x=>[x.u],fun x=>Zsi x.b,fun x y hx hy h=>by rw [UB.inja hx.b hy.b (List.cons.inj h).1]⟩
theorem Ygv {P:Program}{e:Env}{fn:Func}(hE:EnvOk P e) (hm:P.follows .mixedOrders=true) (hf:P.funcs[72]?=some fn) (hc:Zaj P fn=some a72) (hb:Zaf P 72):OvOk P 72 fullF.O:=by
 refine Zal hb fun x hx=>?_
 obtain ⟨u,b⟩:=x
 obtain ⟨hbt,hl⟩:=hx
 have huf:=hbt.1.hf
 dsimp only at huf hbt hl
 refine ⟨by show (AM.hf u && true)=true;rw [huf];rfl,rfl,C.of_V hE hm hf hc ?_⟩
 show VW P e 0 (match a72 with|.mk c _=>c) (Zax [u] 0 .lf) St0 none [] (Zfa [.tmp 2] (fun w s'=>Frz s' w (Zsi b)))
 by_cases h0:b=[]
 ·subst h0
  conv=>whnf
  refine Zaa rfl hbt.1 ?_;conv=>whnf
  refine Za7 (a:=((0:Nat):Int)) (b:=0) rfl rfl (fun _=>?_) (fun h=>absurd rfl h);conv=>whnf
  refine Zlo (n:=127) rfl rfl (by decide) ?_;conv=>whnf
  exact .sl 0 0 128 _ _ 5 _ _ _ rfl (fun i x h=>by rw [Nat.zero_add];exact h) (Zsk (Zad (pad []))) (.inl rfl)
 ·have hbl:b.length≠0:=fun e=>h0 (List.length_eq_zero_iff.1 e)
  obtain ⟨c,x,l,rfl,hxl⟩:=hbt.fz h0
  have hp:pad b=b:=by unfold pad;rw [if_neg h0]
  unfold Zsi
  rw [hp]
  conv=>whnf
  refine Zaa rfl hbt.1 ?_;conv=>whnf
  refine Za7 (a:=(b.length:Int)) (b:=0) rfl rfl (fun h=>by omega) (fun _=>?_);conv=>whnf
  have hlen:=Zan b
  refine Zbb (m:=b.length) (c:=x) (cs:=l) rfl rfl (by rw [Zm2 (by rw [hlen,Nat.mul_one]),hxl]) (by rw [← hxl,hlen,Nat.mul_one]) (by decide) (by omega) ?_
  rw [← hxl]
  conv=>whnf
  exact .sl 0 0 b.length _ _ 5 _ _ _ rfl (fun i x h=>by rw [Nat.zero_add];exact h) (Zsk (Zad _)) (.inl rfl)
def code158:AC:=match a158 with|.mk c _=>c
structure DKA.in (x:DKA):Prop where
 d:x.d.ok
 k:Zhp x.d=true
 a:0≤x.a∧x.a<x.d.us.length
def seenF:Fam DKA:=⟨DKA.in,DKA.args,fun x=>fzB (pad (Zrc x.d x.a)),fun x y hx hy h=>by
 have h1:x.ok:=⟨hx.d,by have:=hx.a;have:=hx.d.n;unfold Zc4;omega⟩
 have h2:y.ok:=⟨hy.d,by have:=hy.a;have:=hy.d.n;unfold Zc4;omega⟩
 rw [DKA.inja h1 h2 h]⟩
theorem Zyg {a:Int}{L:List WR}{w:WR}:Ze8 a (L++[w]).reverse=if w.at_=a then some w.b else Ze8 a L.reverse:=by
 rw [List.reverse_append];rfl
theorem Yfc {P:Program}{e:Env}{fn:Func}(hE:EnvOk P e) (hm:P.follows .mixedOrders=true) (h72:Con e 72 fullF.O) (h158:Inl e 158 code158 [.tmp 4]) (hf:P.funcs[120]?=some fn) (hc:Zaj P fn=some a120) (hb:Zaf P 120):OvOk P 120 seenF.O:=by
 refine Zal hb fun x hx=>?_
 obtain ⟨d,a⟩:=x
 obtain ⟨hd,hk,ha⟩:=hx
 dsimp only at hd hk ha
 obtain ⟨hk1,hkb,hkw,_,_⟩:=Zoa hd.a hk
 refine ⟨by show (AM.hf d.v && (true && true))=true;rw [DK.hf hd.a];rfl,rfl,C.of_V hE hm hf hc ?_⟩
 obtain ⟨n,rfl⟩:∃ n:Nat,a=(n:Int):=⟨a.toNat,by omega⟩
 have hlt:n<d.us.length:=by omega
 obtain ⟨b,hb1,hb2⟩:=hd.a.bs.get (List.getElem?_eq_getElem hlt)
 have hbm:=List.mem_of_getElem? hb1
 have hbl:=hkb b hbm
 have hO:Zrc d (n:Int)=(Ze8 (n:Int) d.ws.reverse).getD b:=by
  unfold Zrc Zzm
  rw [show (n:Int).toNat=n by omega,List.getD_eq_getElem?_getD,hb1];rfl
 show VW P e 0 (match a120 with|.mk c _=>c) (Zax [d.v,.int .i64 (n:Int)] 0 .lf) St0 none [] (Zfa [.tmp 4] (fun w s'=>Frz s' w (fzB (pad (Zrc d (n:Int))))))
 rw [hO]
 clear hO hk
 obtain ⟨⟨hbl',hbs,hwl,hws⟩,hn,hm',hb',hw'⟩:=hd
 obtain ⟨bv,us,bs,wv,ws,dd⟩:=d
 dsimp only at hbl' hbs hwl hws hn hm' hb' hw' hkw hlt hb1 hb2 hbm ha
 have hdf:hfs [bv,wv,.bool dd]=true:=Zp0 hwl hbl'
 have q1:((us.drop (n*1)))[0]?=some us[n]:=by rw [Nat.mul_one,List.getElem?_drop,Nat.add_zero,List.getElem?_eq_getElem hlt]
 have hall:=And.intro q1 hb2
 clear q1 hb2
 revert hall
 generalize us[n]=u
 rintro ⟨q1,hb2⟩
 have hF:∀ {u:AV}{b:List Nat},BAt u b→(b.length=0∨b.length=128)→∀ (K:AV→St→Prop) (s:St),K (fzB (pad b)) s→ESc e 72 [u] s K:=fun {u b} h1 h2 K s hk=>ESc.fam fullF h72 ⟨u,b⟩ ⟨h1,by dsimp only;omega⟩ (u:=fzB (pad b)) (Ygu h2) hk
 show VW P e 0 (match a120 with|.mk c _=>c) (Zax [.agg [bv,wv,.bool dd],.int .i64 (n:Int)] 0 .lf) St0 none [] _
 conv=>whnf
 refine ESc.inl h158 ?_;conv=>whnf
 refine Zae rfl hbl' rfl hlt ?_;conv=>whnf
 refine EHead.mk (v:=u) q1 ?_;conv=>whnf
 refine hF hb2 hbl _ _ ?_;conv=>whnf
 refine Zbo (α:=Nat) (fun j=>[(1,.int .i64 (n:Int)),(2,.ptr 0 0),(5,fzB (pad ((Ze8 (n:Int) (ws.take j).reverse).getD b))),(6,.int .i64 (j:Int))]) (fun _=>[.row 28 [bv,wv,.bool dd]]) (fun j=>ws.length-j) (fun j=>j≤ws.length) 0 (Nat.zero_le _)
  (Abs.tells (rs:=[0]) ⟨by decide,⟨⟨rfl,rfl⟩,⟨rfl,rfl⟩,⟨rfl,rfl⟩,⟨rfl,rfl⟩,trivial⟩,⟨⟨Za6 hdf,by rw [Zac hdf];rfl⟩,trivial⟩⟩) ?_
 intro j hj
 refine Zap hE hm ?_
 by_cases hjl:j<ws.length
 ·have hdr:=Zb0 hjl
  have hwa:=hws _ (List.getElem_mem hjl)
  have hwl2:=hkw _ (List.getElem_mem hjl)
  have hs:Ze8 (n:Int) (ws.take (j+1)).reverse=if ws[j].at_=(n:Int) then some ws[j].b else Ze8 (n:Int) (ws.take j).reverse:=by
   rw [List.take_succ_eq_append_getElem hjl,Zyg]
  have hall:=And.intro hdr (And.intro hwa (And.intro hwl2 hs))
  clear hdr hwa hwl2 hs
  revert hall
  generalize ws[j]=w
  obtain ⟨wa,wu,wb⟩:=w
  rintro ⟨hdr,⟨hwa,hwb⟩,hwl2,hs⟩
  have hdr:(wrs ws).drop (j*2)=[.int .i64 wa,wu]++wrs (ws.drop (j+1)):=hdr
  dsimp only at hwa hwb hwl2 hs
  obtain ⟨A,hA⟩:∃ A,A=Ze8 (n:Int) (ws.take j).reverse:=⟨_,rfl⟩
  rw [← hA] at hs ⊢
  conv=>whnf
  refine Zaa rfl hwl ?_;conv=>whnf
  refine Zab (a:=(j:Int)) (b:=(ws.length:Int)) rfl rfl (fun _=>?_) (fun h=>by omega);conv=>whnf
  refine Zae rfl hwl rfl hjl ?_
  rw [hdr]
  conv=>whnf
  refine EHead.mk (v:=.int .i64 wa) rfl ?_;conv=>whnf
  refine Za7 (a:=wa) (b:=(n:Int)) rfl rfl (fun h1=>?_) (fun h1=>?_)
  ·rw [if_pos h1] at hs
   conv=>whnf
   refine Zae rfl hwl rfl hjl ?_
   rw [hdr]
   conv=>whnf
   refine EHead.mk (v:=wu) rfl ?_;conv=>whnf
   refine hF hwb hwl2 _ _ ?_;conv=>whnf
   repeat' (first|((first|refine w7 rfl rfl (by omega) ?_|refine ⟨rfl,?_⟩);conv=>whnf)|fail)
   exact ⟨j+1,hjl,by omega,Abs.tells (rs:=[0]) ⟨by decide,⟨⟨rfl,rfl⟩,⟨rfl,rfl⟩,⟨rfl,by rw [hs];rfl⟩,⟨rfl,rfl⟩,trivial⟩,⟨⟨Za6 hdf,by rw [Zac hdf];rfl⟩,trivial⟩⟩⟩
  ·rw [if_neg h1] at hs
   conv=>whnf
   repeat' (first|((first|refine w7 rfl rfl (by omega) ?_|refine ⟨rfl,?_⟩);conv=>whnf)|fail)
   exact ⟨j+1,hjl,by omega,Abs.tells (rs:=[0]) ⟨by decide,⟨⟨rfl,rfl⟩,⟨rfl,rfl⟩,⟨rfl,by rw [hs];rfl⟩,⟨rfl,rfl⟩,trivial⟩,⟨⟨Za6 hdf,by rw [Zac hdf];rfl⟩,trivial⟩⟩⟩
 ·rw [show ws.take j=ws from List.take_of_length_le (by omega)]
  conv=>whnf
  refine Zaa rfl hwl ?_;conv=>whnf
  refine Zab (a:=(j:Int)) (b:=(ws.length:Int)) rfl rfl (fun _=>by omega) (fun h=>?_);conv=>whnf
  exact .plain _ rfl
structure CDI where
 x:CDA
 i:Nat
structure CDI.ok (p:CDI):Prop where
 x:p.x.ok
 k:Zib p.x=0
 i:p.i<1000
def atF:Fam CDI:=⟨CDI.ok,fun p=>[p.x.c.v,p.x.d.v,.int .i64 p.x.a,.int .i64 (p.i:Int)],fun p=>fzB (rbk p.x p.i),fun p q hp hq h=>by
 obtain ⟨x,i⟩:=p
 obtain ⟨y,j⟩:=q
 have h0:=(List.cons.inj h).1
 have h1:=(List.cons.inj (List.cons.inj h).2).1
 have h2:=(List.cons.inj (List.cons.inj (List.cons.inj h).2).2).1
 have h3:=(List.cons.inj (List.cons.inj (List.cons.inj (List.cons.inj h).2).2).2).1
 injection h3 with _ h3
 have h3:=Int.ofNat.inj h3
 have h4:=CDA.inja hp.x hq.x (by show [x.c.v,x.d.v,.int .i64 x.a]=[y.c.v,y.d.v,.int .i64 y.a];dsimp only at h0 h1 h2;rw [h0,h1,h2])
 dsimp only at h3 h4
 rw [h3,h4]⟩
theorem atF_ok {P:Program}{e:Env}{fn:Func}(hE:EnvOk P e) (hm:P.follows .mixedOrders=true) (h120:Con e 120 seenF.O) (hf:P.funcs[113]?=some fn) (hc:Zaj P fn=some a113) (hb:Zaf P 113):OvOk P 113 atF.O:=by
 refine Zal hb fun p hp=>?_
 obtain ⟨x,i⟩:=p
 obtain ⟨hx,hk,hi⟩:=hp
 dsimp only at hx hk hi
 obtain ⟨k1,k2,k3,k4,k5⟩:=ask0 hk
 refine ⟨by show (AM.hf x.c.v && (AM.hf x.d.v && (true && (true && true))))=true;rw [DK.hf hx.d.a];rfl,rfl,C.of_V hE hm hf hc ?_⟩
 have hm0:0≤(x.a+(i:Int)) % x.c.log:=Int.emod_nonneg _ (by omega)
 have hm1:(x.a+(i:Int)) % x.c.log<x.c.log:=Int.emod_lt_of_pos _ (by omega)
 have hlog:x.c.log≤255:=by unfold Cfg.may at k1;omega
 have hS:=fun (K:AV→St→Prop) (s:St) (hk:K (fzB (rbk x i)) s)=>ESc.fam (k:=K) (s:=s) seenF h120 ⟨x.d,1+(x.a+(i:Int)) % x.c.log⟩ ⟨hx.d,k2,by dsimp only;omega⟩ (u:=fzB (rbk x i)) rfl hk
 have hdf:=Zp0 hx.d.a.wl hx.d.a.bl (d:=x.d.dead)
 show VW P e 0 (match a113 with|.mk c _=>c) (Zax [x.c.v,x.d.v,.int .i64 x.a,.int .i64 (i:Int)] 0 .lf) St0 none [] (Zfa [.tmp 8] (fun w s'=>Frz s' w (fzB (rbk x i))))
 have hOf:AM.hf (fzB (rbk x i))=true:=rfl
 generalize fzB (rbk x i)=O at hS hOf ⊢
 obtain ⟨c,d,a⟩:=x
 obtain ⟨id,mb,ch,rw',lg,hdd⟩:=c
 obtain ⟨bv,us,bs,wv,ws,dd⟩:=d
 dsimp only at k4 hm0 hm1 hlog hS
 show VW P e 0 (match a113 with|.mk c _=>c) (Zax [.agg [.int .u32 id,.int .i64 mb,.int .i64 ch,.int .i64 rw',.int .i64 lg,.int .i64 hdd],.agg [bv,wv,.bool dd],.int .i64 a,.int .i64 (i:Int)] 0 .lf) St0 none [] _
 conv=>whnf
 refine Zah (a:=a) (b:=(i:Int)) rfl rfl (by omega) ?_;conv=>whnf
 refine Zdk (a:=a+(i:Int)) (b:=lg) rfl rfl (by omega) ?_;conv=>whnf
 refine Zah (a:=1) (b:=(a+(i:Int)) % lg) rfl rfl (by omega) ?_;conv=>whnf
 refine hS _ _ ?_;conv=>whnf
 exact .plain _ hOf
end Go.AM
set_option maxRecDepth 100000
namespace Go.AM
attribute [local irreducible] W
open X
theorem Zhh {t:AT}{s:St}{k:AV→St→Prop}{x y:AO}{el es:Nat}{v:AV}(hx:ev x t=.some .nils) (hy:ev y t=.some v) (hv:Zgl es v s=some []) (hk:k .nils s):EPrim (.app el es x y) t s k:=by
 refine EPrim.mk (fun e rec=>?_) hk
 show wth x t _=_;unfold wth;rw [hx]
 show wth y t _=_;unfold wth;rw [hy]
 show (Option.rec .fail _ (Zgl es v s):RV)=_
 rw [hv];rfl
theorem Zq3 {n:Nat}:∀ {l m:List AV},hfs l=true→bds n (l++m)=bds n m
 | [],m,_=>rfl
 | v::l,m,h=>by
  simp only [hfs,Bool.and_eq_true] at h
  show (bd n v && bds n (l++m))=_
  rw [Zbe _ h.1,Zq3 h.2];rfl
theorem Zlb {ρ:Nat→Nat}:∀ {l m:List AV},hfs l=true→Zbx ρ (l++m)=l++Zbx ρ m
 | [],m,_=>rfl
 | v::l,m,h=>by
  simp only [hfs,Bool.and_eq_true] at h
  show Zed ρ v::Zbx ρ (l++m)=_
  rw [Zao _ h.1,Zlb h.2];rfl
def Zgf (b:List Nat):AV:=match b with
 | []=>.nils
 | y::l=>.fz (l.length+1) none (bys (y::l))
def Yhm:List (List Nat)→AV
 | []=>.nils
 | b::L=>.fz (L.length+1) none ((b::L).map Zgf)
def Zhu (w:WR):WR:=⟨w.at_,Zgf w.b,w.b⟩
def Zo2:List WR→AV
 | []=>.nils
 | w::L=>.fz (L.length+1) none (wrs ((w::L).map Zhu))
def twD (x:DK):DK:=⟨Yhm x.bs,x.bs.map Zgf,x.bs,Zo2 x.ws,x.ws.map Zhu,x.dead⟩
theorem Zu3 {b:List Nat}(h:∀ y ∈ b,y<256):BAt (Zgf b) b:=by
 cases b with
 | nil=>exact ⟨.inl ⟨rfl,rfl,rfl⟩,h⟩
 | cons y l=>exact ⟨.inr (.inr ⟨none,rfl,by rw [Zan,Nat.mul_one]⟩),h⟩
theorem Yb8 (b:List Nat):AM.hf (Zgf b)=true:=by cases b <;> rfl
theorem Zg4 (L:List (List Nat)):hfs (L.map Zgf)=true:=hfs_iff.2 fun v hv=>by
 obtain ⟨b,_,rfl⟩:=List.mem_map.1 hv;exact Yb8 b
theorem Zfj (L:List WR):hfs (wrs (L.map Zhu))=true:=by
 induction L with
 | nil=>rfl
 | cons w L ih=>
  rw [List.map_cons,Zff]
  show (true && (AM.hf (Zgf w.b) && hfs (wrs (L.map Zhu))))=true
  rw [Yb8,ih];rfl
theorem Zvn {x:DK}(h:x.ok):(twD x).ok:=by
 have hb:∀ b ∈ x.bs,∀ y ∈ b,y<256:=by
  intro b hb
  obtain ⟨i,hi⟩:=List.mem_iff_getElem?.1 hb
  have hl:=h.a.bs.length
  have hlt:i<x.us.length:=by have:=(List.getElem?_eq_some_iff.1 hi).1;omega
  obtain ⟨c,hc,hcu⟩:=h.a.bs.get (List.getElem?_eq_getElem hlt)
  rw [hi] at hc;cases hc;exact hcu.2
 have hlen:=h.a.bs.length
 refine ⟨⟨?_,?_,?_,?_⟩,by show (x.bs.map Zgf).length<_;rw [List.length_map,← hlen];exact h.n,by show (x.ws.map Zhu).length<_;rw [List.length_map];exact h.m,h.b,?_⟩
 ·show Sl 1 (x.bs.map Zgf).length (x.bs.map Zgf) (Yhm x.bs)
  cases x.bs with
  | nil=>exact .inl ⟨rfl,rfl,rfl⟩
  | cons b L=>exact .inr (.inr ⟨none,by rw [List.length_map];rfl,by omega⟩)
 ·show All2 BAt (x.bs.map Zgf) x.bs
  have:∀ (L:List (List Nat)),(∀ b ∈ L,∀ y ∈ b,y<256)→All2 BAt (L.map Zgf) L:=by
   intro L
   induction L with
   | nil=>intro _;exact .nil
   | cons b L ih=>intro hL;exact .cons (Zu3 (hL b (by simp))) (ih fun c hc=>hL c (by simp [hc]))
  exact this _ hb
 ·show Sl 2 (x.ws.map Zhu).length (wrs (x.ws.map Zhu)) (Zo2 x.ws)
  cases x.ws with
  | nil=>exact .inl ⟨rfl,rfl,rfl⟩
  | cons w L=>exact .inr (.inr ⟨none,by rw [List.length_map];rfl,by rw [Zd2]⟩)
 ·intro w hw
  obtain ⟨v,hv,rfl⟩:=List.mem_map.1 (show w ∈ x.ws.map Zhu from hw)
  exact ⟨(h.a.ws v hv).1,Zu3 (h.a.ws v hv).2.2⟩
 ·intro w hw
  obtain ⟨v,hv,rfl⟩:=List.mem_map.1 (show w ∈ x.ws.map Zhu from hw)
  exact h.w v hv
def Yc5:AC:=match a22 with|.mk c _=>c
def lp22:AC:=match Yc5 with
 | .seq _ (.seq _ (.seq r _))=>r
 | _=>.skip
def Zpe:AC:=match Yc5 with
 | .seq _ (.seq _ (.seq _ r))=>r
 | _=>.skip
def lq22:AC:=match Zpe with
 | .seq r _=>r
 | _=>.skip
def fin22:AC:=match Zpe with
 | .seq _ r=>r
 | _=>.skip
def slT (n:Nat):AV:=match n with
 | 0=>.nils
 | n+1=>.sl 3 0 (n+1) none
def rwT (e:Nat) (l:List AV):Nat→List AObj
 | 0=>[]
 | _+1=>[.row e l]
def osT1 (C:List AV) (dd:Bool) (bs:List (List Nat)) (i:Nat):List AObj:=[.row 28 C,.row 28 [.nils,.nils,.bool false],.row 28 [slT i,.nils,.bool dd]]++rwT 32 ((bs.take i).map Zgf) i
def tlT (k i:Nat):List (Nat×AV):=[(1,.ptr 0 0),(2,.ptr 1 0),(3,.ptr 2 0),(k,.int .i64 (i:Int))]
theorem tw_b {P:Program}{t:AT}{s:St}{C:List AV}(hC:hfs C=true) {dd:Bool}{k i:Nat}(hk:Nat.blt k 100=true) {bs:List (List Nat)}{b:List Nat}{c:Option Nat}{rs:List Nat}(htk:(bs.take (i+1)).map Zgf=(bs.take i).map Zgf++[Zgf b]) (hv:Zgf b=.fz b.length none (bys b))
 (h:AbsK 0 t s (tlT k (i+1)) ([.row 28 C,.row 28 [.nils,.nils,.bool false],.row 28 [.sl 3 0 (i+1) none,.nils,.bool dd],.row 32 ((bs.take i).map Zgf++[.sl 4 0 b.length c])]++[.row 5 (bys b)]) rs):
 Tells P 0 t s [] (ofL (tlT k (i+1))) (Zai St0 (osT1 C dd bs (i+1))) []:=by
 refine AbsK.frz (n:=4) (e:=5) (cs:=bys b) h rfl (Zad _) rfl rfl rfl ?_ rfl ?_
 ·show (true && (true && (true && (Nat.blt k 18446744073709551615 && true))))=true
  rw [Nat.blt_eq] at hk
  rw [show Nat.blt k 18446744073709551615=true by rw [Nat.blt_eq];omega];rfl
 ·show [frzO 4 _ (.row 28 C),_,_,AObj.row 32 (frzVs 4 _ ((bs.take i).map Zgf++[.sl 4 0 b.length c]))]=[.row 28 C,.row 28 [.nils,.nils,.bool false],.row 28 [.sl 3 0 (i+1) none,.nils,.bool dd],.row 32 ((bs.take (i+1)).map Zgf)]
  rw [Zby hC,Zl2,Zns _ (Zg4 _),htk,hv];rfl
theorem Yhl {bs:List (List Nat)}{i:Nat}{b:List Nat}(h:bs[i]?=some b):(bs.take (i+1)).map Zgf=(bs.take i).map Zgf++[Zgf b]:=by
 have hlt:=(List.getElem?_eq_some_iff.1 h).1
 rw [List.getElem?_eq_getElem hlt] at h
 cases h
 rw [List.take_succ_eq_append_getElem hlt,List.map_append];rfl
theorem Yex {P:Program}{e:Env}(hE:EnvOk P e) (hm:P.follows .mixedOrders=true) {x:DK}(hx:x.ok) {K:AV→St→Prop}
 (k:W P 0 none Zpe (ofL [(1,.ptr 0 0),(2,.ptr 1 0),(3,.ptr 2 0)]) (Zai St0 [.row 28 x.c,.row 28 [.nils,.nils,.bool false],.row 28 [Yhm x.bs,.nils,.bool x.dead]]) [] (Zhv [.cells 2 3] K)):
 W P 0 none (.seq lp22 Zpe) (ofL [(1,.ptr 0 0),(2,.ptr 1 0),(3,.ptr 2 0)]) (Zai St0 [.row 28 x.c,.row 28 [.nils,.nils,.bool false],.row 28 [.nils,.nils,.bool x.dead]]) [] (Zhv [.cells 2 3] K):=by
 obtain ⟨⟨hbl,hbs,hwl,hws⟩,hn,hm',hb',hw'⟩:=hx
 obtain ⟨bv,us,bs,wv,ws,dd⟩:=x
 dsimp only at hbl hbs hwl hws hn hm' hb' hw'
 have hdf:hfs [bv,wv,.bool dd]=true:=Zp0 hwl hbl
 have hbn:=hbs.length
 refine W.seqV hE hm ?_
 show VW P e 0 lp22 (ofL [(1,.ptr 0 0),(2,.ptr 1 0),(3,.ptr 2 0)]) (Zai St0 [.row 28 [bv,wv,.bool dd],.row 28 [.nils,.nils,.bool false],.row 28 [.nils,.nils,.bool dd]]) none [] _
 conv=>whnf
 refine Zbo (α:=Nat) (fun i=>tlT 4 i) (fun i=>osT1 [bv,wv,.bool dd] dd bs i) (fun i=>us.length-i) (fun i=>i≤us.length) 0 (Nat.zero_le _)
  (Abs.tells (rs:=[0,1,2]) ⟨by decide,⟨⟨rfl,rfl⟩,⟨rfl,rfl⟩,⟨rfl,rfl⟩,⟨rfl,rfl⟩,trivial⟩,⟨⟨Za6 hdf,by rw [Zac hdf];rfl⟩,⟨rfl,rfl⟩,⟨rfl,rfl⟩,trivial⟩⟩) ?_
 intro i hi
 refine Zap hE hm ?_
 by_cases hlt:i<us.length
 ·obtain ⟨b,hb1,hb2⟩:=hbs.get (List.getElem?_eq_getElem hlt)
  have hbl2:=hb' b (List.mem_of_getElem? hb1)
  have htk:=Yhl hb1
  have htl:((bs.take i).map Zgf).length=i:=by rw [List.length_map,List.length_take];omega
  have q1:((us.drop (i*1)))[0]?=some us[i]:=by rw [Nat.mul_one,List.getElem?_drop,Nat.add_zero,List.getElem?_eq_getElem hlt]
  have hall:=And.intro q1 hb2
  clear q1 hb2
  revert hall
  generalize us[i]=u
  rintro ⟨q1,hb2⟩
  have hLf:=Zg4 (bs.take i)
  by_cases h0:b=[]
  ·subst h0
   have hsrc:∀ s,Zgl 1 u s=some []:=by
    intro s
    rcases hb2.1 with ⟨rfl,_⟩|⟨rfl,_⟩|⟨c,rfl,_⟩ <;> rfl
   rcases i with _|i
   ·conv=>whnf
    refine Zaa rfl hbl ?_;conv=>whnf
    refine Zab (a:=((0:Nat):Int)) (b:=(us.length:Int)) rfl rfl (fun _=>?_) (fun h=>by omega);conv=>whnf
    refine Zae rfl hbl rfl hlt ?_;conv=>whnf
    refine EHead.mk (v:=u) q1 ?_;conv=>whnf
    refine Zhh rfl rfl (hsrc _) ?_;conv=>whnf
    repeat' (first|(refine ⟨rfl,?_⟩;conv=>whnf)|fail)
    (refine Zbb (m:=1) rfl rfl rfl rfl (by decide) (by decide) ?_)
    conv=>whnf
    repeat' (first|((first|refine w7 rfl rfl (by omega) ?_|refine ⟨rfl,?_⟩);conv=>whnf)|fail)
    exact ⟨0+1,hlt,by omega,Abs.tells (rs:=[0,1,2,4]) ⟨by decide,⟨⟨rfl,rfl⟩,⟨rfl,rfl⟩,⟨rfl,rfl⟩,⟨rfl,rfl⟩,trivial⟩,⟨⟨Za6 hdf,by rw [Zac hdf];rfl⟩,⟨rfl,rfl⟩,⟨rfl,rfl⟩,⟨Za6 (Zg4 _),by rw [Zac (Zg4 _),htk];rfl⟩,trivial⟩⟩⟩
   ·conv=>whnf
    refine Zaa rfl hbl ?_;conv=>whnf
    refine Zab (a:=((i+1:Nat):Int)) (b:=(us.length:Int)) rfl rfl (fun _=>?_) (fun h=>by omega);conv=>whnf
    refine Zae rfl hbl rfl hlt ?_;conv=>whnf
    refine EHead.mk (v:=u) q1 ?_;conv=>whnf
    refine Zhh rfl rfl (hsrc _) ?_;conv=>whnf
    repeat' (first|(refine ⟨rfl,?_⟩;conv=>whnf)|fail)
    (refine Zb6 (m:=1) rfl rfl rfl rfl (by rw [htl,Nat.mul_one]) rfl (by decide) (by omega) ?_)
    conv=>whnf
    repeat' (first|((first|refine w7 rfl rfl (by omega) ?_|refine ⟨rfl,?_⟩);conv=>whnf)|fail)
    exact ⟨i+1+1,hlt,by omega,Abs.tells (rs:=[0,1,2,5]) ⟨by decide,⟨⟨rfl,rfl⟩,⟨rfl,rfl⟩,⟨rfl,rfl⟩,⟨rfl,rfl⟩,trivial⟩,⟨⟨Za6 hdf,by rw [Zac hdf];rfl⟩,⟨rfl,rfl⟩,⟨rfl,rfl⟩,⟨Za6 (Zg4 _),by rw [Zac (Zg4 _),htk];rfl⟩,trivial⟩⟩⟩
  ·obtain ⟨c,z,l,rfl,hzl⟩:=hb2.fz h0
   have hbl':=Zan b
   have hcv:Zgf b=.fz b.length none (bys b):=by cases b with|nil=>exact absurd rfl h0|cons y l=>rfl
   have hb0:b.length≠0:=fun e=>h0 (List.length_eq_zero_iff.1 e)
   rcases i with _|i
   ·conv=>whnf
    refine Zaa rfl hbl ?_;conv=>whnf
    refine Zab (a:=((0:Nat):Int)) (b:=(us.length:Int)) rfl rfl (fun _=>?_) (fun h=>by omega);conv=>whnf
    refine Zae rfl hbl rfl hlt ?_;conv=>whnf
    refine EHead.mk (v:=.fz b.length c (bys b)) q1 ?_;conv=>whnf
    refine Zbb (m:=b.length) (c:=z) (cs:=l) rfl rfl (by rw [Zm2 (by rw [hbl',Nat.mul_one]),hzl]) (by rw [← hzl,hbl',Nat.mul_one]) (by decide) (by omega) ?_
    rw [← hzl]
    conv=>whnf
    repeat' (first|(refine ⟨rfl,?_⟩;conv=>whnf)|fail)
    (refine Zbb (m:=1) rfl rfl rfl rfl (by decide) (by decide) ?_)
    conv=>whnf
    repeat' (first|((first|refine w7 rfl rfl (by omega) ?_|refine ⟨rfl,?_⟩);conv=>whnf)|fail)
    refine ⟨0+1,hlt,by omega,tw_b (k:=4) (i:=0) (dd:=dd) (bs:=bs) (b:=b) (c:=none) (rs:=[0,1,2,5,3]) hdf rfl htk hcv ?_⟩
    exact ⟨rfl,by decide,⟨⟨rfl,rfl⟩,⟨rfl,rfl⟩,⟨rfl,rfl⟩,⟨rfl,rfl⟩,trivial⟩,⟨⟨Za6 hdf,by rw [Zac hdf];rfl⟩,⟨rfl,rfl⟩,⟨rfl,rfl⟩,⟨by show bds _ (List.map _ _++[_])=true;rw [Zcz hLf];rfl,by show _=some (AObj.row 32 (Zbx _ (List.map _ _++[_])));rw [Zbr hLf];rfl⟩,⟨Za6 (Zad _),by rw [Zac (Zad _)];rfl⟩,trivial⟩⟩
   ·conv=>whnf
    refine Zaa rfl hbl ?_;conv=>whnf
    refine Zab (a:=((i+1:Nat):Int)) (b:=(us.length:Int)) rfl rfl (fun _=>?_) (fun h=>by omega);conv=>whnf
    refine Zae rfl hbl rfl hlt ?_;conv=>whnf
    refine EHead.mk (v:=.fz b.length c (bys b)) q1 ?_;conv=>whnf
    refine Zbb (m:=b.length) (c:=z) (cs:=l) rfl rfl (by rw [Zm2 (by rw [hbl',Nat.mul_one]),hzl]) (by rw [← hzl,hbl',Nat.mul_one]) (by decide) (by omega) ?_
    rw [← hzl]
    conv=>whnf
    repeat' (first|(refine ⟨rfl,?_⟩;conv=>whnf)|fail)
    (refine Zb6 (m:=1) rfl rfl rfl rfl (by rw [htl,Nat.mul_one]) rfl (by decide) (by omega) ?_)
    conv=>whnf
    repeat' (first|((first|refine w7 rfl rfl (by omega) ?_|refine ⟨rfl,?_⟩);conv=>whnf)|fail)
    refine ⟨i+1+1,hlt,by omega,tw_b (k:=4) (i:=i+1) (dd:=dd) (bs:=bs) (b:=b) (c:=none) (rs:=[0,1,2,6,4]) hdf rfl htk hcv ?_⟩
    exact ⟨rfl,by decide,⟨⟨rfl,rfl⟩,⟨rfl,rfl⟩,⟨rfl,rfl⟩,⟨rfl,rfl⟩,trivial⟩,⟨⟨Za6 hdf,by rw [Zac hdf];rfl⟩,⟨rfl,rfl⟩,⟨rfl,rfl⟩,⟨by show bds _ (List.map _ _++[_])=true;rw [Zcz hLf];rfl,by show _=some (AObj.row 32 (Zbx _ (List.map _ _++[_])));rw [Zbr hLf];rfl⟩,⟨Za6 (Zad _),by rw [Zac (Zad _)];rfl⟩,trivial⟩⟩
 ·obtain rfl:i=us.length:=by omega
  have hbt:bs.take us.length=bs:=List.take_of_length_le (by omega)
  have k:W P 0 none Zpe (ofL [(1,.ptr 0 0),(2,.ptr 1 0),(3,.ptr 2 0)]) (Zai St0 [.row 28 [bv,wv,.bool dd],.row 28 [.nils,.nils,.bool false],.row 28 [Yhm bs,.nils,.bool dd]]) [] (Zhv [.cells 2 3] K):=k
  cases hn0:us.length with
  | zero=>
   have hb0:bs=[]:=List.length_eq_zero_iff.1 (by omega)
   rw [hb0] at k
   conv=>whnf
   refine Zaa rfl hbl ?_;conv=>whnf
   refine Zab (a:=((0:Nat):Int)) (b:=(us.length:Int)) rfl rfl (fun h=>by omega) (fun _=>?_);conv=>whnf
   refine W.tells (Abs.tells (tl:=[(1,.ptr 0 0),(2,.ptr 1 0),(3,.ptr 2 0)]) (os:=[.row 28 [bv,wv,.bool dd],.row 28 [.nils,.nils,.bool false],.row 28 [.nils,.nils,.bool dd]]) (rs:=[0,1,2]) ⟨by decide,⟨⟨rfl,rfl⟩,⟨rfl,rfl⟩,⟨rfl,rfl⟩,trivial⟩,⟨⟨Za6 hdf,by rw [Zac hdf];rfl⟩,⟨rfl,rfl⟩,⟨rfl,rfl⟩,trivial⟩⟩) k
  | succ m=>
   have hcs:Yhm bs=.fz (m+1) none (bs.map Zgf):=by
    cases bs with
    | nil=>exact absurd (hn0.symm.trans hbn) (Nat.succ_ne_zero m)
    | cons b L=>show AV.fz (L.length+1) _ _=_;rw [show L.length+1=m+1 by rw [← hn0,hbn];rfl]
   rw [hcs] at k
   rw [hn0] at hbt
   conv=>whnf
   refine Zaa rfl hbl ?_;conv=>whnf
   refine Zab (a:=((m+1:Nat):Int)) (b:=(us.length:Int)) rfl rfl (fun h=>by omega) (fun _=>?_);conv=>whnf
   refine W.tells (AbsK.frz (k:=0) (n:=3) (e:=32) (cs:=bs.map Zgf) (tl:=[(1,.ptr 0 0),(2,.ptr 1 0),(3,.ptr 2 0)]) (tl2:=[(1,.ptr 0 0),(2,.ptr 1 0),(3,.ptr 2 0)]) (os:=[.row 28 [bv,wv,.bool dd],.row 28 [.nils,.nils,.bool false],.row 28 [.sl 3 0 (m+1) none,.nils,.bool dd]]) (os2:=[.row 28 [bv,wv,.bool dd],.row 28 [.nils,.nils,.bool false],.row 28 [.fz (m+1) none (bs.map Zgf),.nils,.bool dd]]) (rs:=[0,1,2,3])
    ⟨rfl,by decide,⟨⟨rfl,rfl⟩,⟨rfl,rfl⟩,⟨rfl,rfl⟩,trivial⟩,⟨⟨Za6 hdf,by rw [Zac hdf];rfl⟩,⟨rfl,rfl⟩,⟨rfl,rfl⟩,⟨Za6 (Zg4 _),by rw [Zac (Zg4 _)];show some (AObj.row 32 ((bs.take (m+1)).map Zgf))=_;rw [hbt]⟩,trivial⟩⟩ rfl (Zg4 _) rfl rfl rfl rfl rfl (by show [frzO 3 _ (.row 28 _),_,_]=_;rw [Zby hdf];rfl)) k
def osT2 (C:List AV) (B:AV) (dd:Bool) (ws:List WR) (i:Nat):List AObj:=[.row 28 C,.row 28 [.nils,.nils,.bool false],.row 28 [B,slT i,.bool dd]]++rwT 116 (wrs ((ws.take i).map Zhu)) i
theorem Zzo:∀ (L M:List WR),wrs (L++M)=wrs L++wrs M
 | [],M=>rfl
 | w::L,M=>by rw [List.cons_append,Zff,Zff,Zzo L M,List.append_assoc]
theorem Ydf {ws:List WR}{i:Nat}{w:WR}(h:ws[i]?=some w):wrs ((ws.take (i+1)).map Zhu)=wrs ((ws.take i).map Zhu)++[.int .i64 w.at_,Zgf w.b]:=by
 have hlt:=(List.getElem?_eq_some_iff.1 h).1
 rw [List.getElem?_eq_getElem hlt] at h
 cases h
 rw [List.take_succ_eq_append_getElem hlt,List.map_append,Zzo];rfl
theorem tw_w {P:Program}{t:AT}{s:St}{C:List AV}(hC:hfs C=true) {B:AV}(hB:AM.hf B=true) {dd:Bool}{i:Nat}{ws:List WR}{a:Int}{b:List Nat}{c:Option Nat}{rs:List Nat}(htk:wrs ((ws.take (i+1)).map Zhu)=wrs ((ws.take i).map Zhu)++[.int .i64 a,Zgf b]) (hv:Zgf b=.fz b.length none (bys b))
 (h:AbsK 0 t s (tlT 6 (i+1)) ([.row 28 C,.row 28 [.nils,.nils,.bool false],.row 28 [B,.sl 3 0 (i+1) none,.bool dd],.row 116 (wrs ((ws.take i).map Zhu)++[.int .i64 a,.sl 4 0 b.length c])]++[.row 5 (bys b)]) rs):
 Tells P 0 t s [] (ofL (tlT 6 (i+1))) (Zai St0 (osT2 C B dd ws (i+1))) []:=by
 refine AbsK.frz (n:=4) (e:=5) (cs:=bys b) h rfl (Zad _) rfl rfl rfl rfl rfl ?_
 show [frzO 4 _ (.row 28 C),_,AObj.row 28 [frzV 4 _ B,_,_],AObj.row 116 (frzVs 4 _ (wrs ((ws.take i).map Zhu)++[.int .i64 a,.sl 4 0 b.length c]))]=[.row 28 C,.row 28 [.nils,.nils,.bool false],.row 28 [B,.sl 3 0 (i+1) none,.bool dd],.row 116 (wrs ((ws.take (i+1)).map Zhu))]
 rw [Zby hC,Zjk _ hB,Zl2,Zns _ (Zfj _),htk,hv];rfl
theorem Yew {P:Program}{e:Env}(hE:EnvOk P e) (hm:P.follows .mixedOrders=true) {x:DK}(hx:x.ok) {B:AV}(hB:AM.hf B=true) {K:AV→St→Prop}
 (k:∀ s,K (.agg [B,Zo2 x.ws,.bool x.dead]) s):
 W P 0 none Zpe (ofL [(1,.ptr 0 0),(2,.ptr 1 0),(3,.ptr 2 0)]) (Zai St0 [.row 28 x.c,.row 28 [.nils,.nils,.bool false],.row 28 [B,.nils,.bool x.dead]]) [] (Zhv [.cells 2 3] K):=by
 obtain ⟨⟨hbl,hbs,hwl,hws⟩,hn,hm',hb',hw'⟩:=hx
 obtain ⟨bv,us,bs,wv,ws,dd⟩:=x
 dsimp only at hbl hbs hwl hws hn hm' hb' hw' k
 have hdf:hfs [bv,wv,.bool dd]=true:=Zp0 hwl hbl
 have k:∀ v,v=Zo2 ws→W P 0 none fin22 (ofL [(1,.ptr 0 0),(2,.ptr 1 0),(3,.ptr 2 0)]) (Zai St0 [.row 28 [bv,wv,.bool dd],.row 28 [.nils,.nils,.bool false],.row 28 [B,v,.bool dd]]) [] (Zhv [.cells 2 3] K):=by
  rintro v rfl
  refine Zkt hE hm ?_
  generalize Zo2 ws=v at k ⊢
  conv=>whnf
  skip
  exact k _
 show W P 0 none (.seq lq22 fin22) (ofL [(1,.ptr 0 0),(2,.ptr 1 0),(3,.ptr 2 0)]) (Zai St0 [.row 28 [bv,wv,.bool dd],.row 28 [.nils,.nils,.bool false],.row 28 [B,.nils,.bool dd]]) [] (Zhv [.cells 2 3] K)
 refine W.seqV hE hm ?_;conv=>whnf
 refine Zbo (α:=Nat) (fun i=>tlT 6 i) (fun i=>osT2 [bv,wv,.bool dd] B dd ws i) (fun i=>ws.length-i) (fun i=>i≤ws.length) 0 (Nat.zero_le _)
  (Abs.tells (rs:=[0,1,2]) ⟨by decide,⟨⟨rfl,rfl⟩,⟨rfl,rfl⟩,⟨rfl,rfl⟩,⟨rfl,rfl⟩,trivial⟩,⟨⟨Za6 hdf,by rw [Zac hdf];rfl⟩,⟨rfl,rfl⟩,⟨by show (bd 3 B && true)=true;rw [Zbe _ hB];rfl,by show _=some (AObj.row 28 [Zed _ B,_,_]);rw [Zao _ hB];rfl⟩,trivial⟩⟩) ?_
 intro i hi
 refine Zap hE hm ?_
 by_cases hlt:i<ws.length
 ·have hwg:ws[i]?=some ws[i]:=List.getElem?_eq_getElem hlt
  have htk:=Ydf hwg
  have hd:=Zb0 hlt
  have hwa:=hws _ (List.getElem_mem hlt)
  have hwl2:=hw' _ (List.getElem_mem hlt)
  have hLf:=Zfj (ws.take i)
  have hLl:(wrs ((ws.take i).map Zhu)).length=i*2:=by rw [Zd2,List.length_map,List.length_take];omega
  have hall:=And.intro htk (And.intro hd (And.intro hwa hwl2))
  clear htk hd hwa hwl2 hwg
  revert hall
  generalize ws[i]=w
  obtain ⟨wa,u,b⟩:=w
  rintro ⟨htk,hd,⟨hwa,hb2⟩,hbl2⟩
  have hd:(wrs ws).drop (i*2)=[.int .i64 wa,u]++wrs (ws.drop (i+1)):=hd
  dsimp only at htk hwa hb2 hbl2
  by_cases h0:b=[]
  ·subst h0
   have hsrc:∀ s,Zgl 1 u s=some []:=by
    intro s
    rcases hb2.1 with ⟨rfl,_⟩|⟨rfl,_⟩|⟨c,rfl,_⟩ <;> rfl
   rcases i with _|i
   ·conv=>whnf
    refine Zaa rfl hwl ?_;conv=>whnf
    refine Zab (a:=((0:Nat):Int)) (b:=(ws.length:Int)) rfl rfl (fun _=>?_) (fun h=>by omega);conv=>whnf
    refine Zae rfl hwl rfl hlt ?_
    rw [hd]
    conv=>whnf
    refine EHead.mk (v:=.int .i64 wa) rfl ?_;conv=>whnf
    refine Zae rfl hwl rfl hlt ?_
    rw [hd]
    conv=>whnf
    refine EHead.mk (v:=u) rfl ?_;conv=>whnf
    refine Zhh rfl rfl (hsrc _) ?_;conv=>whnf
    repeat' (first|(refine EHead.mk (v:=.int .i64 wa) rfl ?_;conv=>whnf)|(refine ⟨rfl,?_⟩;conv=>whnf)|fail)
    (refine Zbb (m:=1) rfl rfl rfl rfl (by decide) (by decide) ?_)
    conv=>whnf
    repeat' (first|((first|refine w7 rfl rfl (by omega) ?_|refine ⟨rfl,?_⟩);conv=>whnf)|fail)
    exact ⟨0+1,hlt,by omega,Abs.tells (rs:=[0,1,2,4]) ⟨by decide,⟨⟨rfl,rfl⟩,⟨rfl,rfl⟩,⟨rfl,rfl⟩,⟨rfl,rfl⟩,trivial⟩,⟨⟨Za6 hdf,by rw [Zac hdf];rfl⟩,⟨rfl,rfl⟩,⟨by show (bd _ B && true)=true;rw [Zbe _ hB];rfl,by show _=some (AObj.row 28 [Zed _ B,_,_]);rw [Zao _ hB];rfl⟩,⟨Za6 (Zfj _),by rw [Zac (Zfj _),htk];rfl⟩,trivial⟩⟩⟩
   ·conv=>whnf
    refine Zaa rfl hwl ?_;conv=>whnf
    refine Zab (a:=((i+1:Nat):Int)) (b:=(ws.length:Int)) rfl rfl (fun _=>?_) (fun h=>by omega);conv=>whnf
    refine Zae rfl hwl rfl hlt ?_
    rw [hd]
    conv=>whnf
    refine EHead.mk (v:=.int .i64 wa) rfl ?_;conv=>whnf
    refine Zae rfl hwl rfl hlt ?_
    rw [hd]
    conv=>whnf
    refine EHead.mk (v:=u) rfl ?_;conv=>whnf
    refine Zhh rfl rfl (hsrc _) ?_;conv=>whnf
    repeat' (first|(refine EHead.mk (v:=.int .i64 wa) rfl ?_;conv=>whnf)|(refine ⟨rfl,?_⟩;conv=>whnf)|fail)
    (refine Zb6 (m:=1) rfl rfl rfl rfl hLl rfl (by decide) (by omega) ?_)
    conv=>whnf
    repeat' (first|((first|refine w7 rfl rfl (by omega) ?_|refine ⟨rfl,?_⟩);conv=>whnf)|fail)
    exact ⟨i+1+1,hlt,by omega,Abs.tells (rs:=[0,1,2,5]) ⟨by decide,⟨⟨rfl,rfl⟩,⟨rfl,rfl⟩,⟨rfl,rfl⟩,⟨rfl,rfl⟩,trivial⟩,⟨⟨Za6 hdf,by rw [Zac hdf];rfl⟩,⟨rfl,rfl⟩,⟨by show (bd _ B && true)=true;rw [Zbe _ hB];rfl,by show _=some (AObj.row 28 [Zed _ B,_,_]);rw [Zao _ hB];rfl⟩,⟨Za6 (Zfj _),by rw [Zac (Zfj _),htk];rfl⟩,trivial⟩⟩⟩
  ·obtain ⟨c,z,l,rfl,hzl⟩:=hb2.fz h0
   have hbl':=Zan b
   have hcv:Zgf b=.fz b.length none (bys b):=by cases b with|nil=>exact absurd rfl h0|cons y l=>rfl
   have hb0:b.length≠0:=fun e=>h0 (List.length_eq_zero_iff.1 e)
   rcases i with _|i
   ·conv=>whnf
    refine Zaa rfl hwl ?_;conv=>whnf
    refine Zab (a:=((0:Nat):Int)) (b:=(ws.length:Int)) rfl rfl (fun _=>?_) (fun h=>by omega);conv=>whnf
    refine Zae rfl hwl rfl hlt ?_
    rw [hd]
    conv=>whnf
    refine EHead.mk (v:=.int .i64 wa) rfl ?_;conv=>whnf
    refine Zae rfl hwl rfl hlt ?_
    rw [hd]
    conv=>whnf
    refine EHead.mk (v:=.fz b.length c (bys b)) rfl ?_;conv=>whnf
    refine Zbb (m:=b.length) (c:=z) (cs:=l) rfl rfl (by rw [Zm2 (by rw [hbl',Nat.mul_one]),hzl]) (by rw [← hzl,hbl',Nat.mul_one]) (by decide) (by omega) ?_
    rw [← hzl]
    conv=>whnf
    repeat' (first|(refine EHead.mk (v:=.int .i64 wa) rfl ?_;conv=>whnf)|(refine ⟨rfl,?_⟩;conv=>whnf)|fail)
    (refine Zbb (m:=1) rfl rfl rfl rfl (by decide) (by decide) ?_)
    conv=>whnf
    repeat' (first|((first|refine w7 rfl rfl (by omega) ?_|refine ⟨rfl,?_⟩);conv=>whnf)|fail)
    refine ⟨0+1,hlt,by omega,tw_w (i:=0) (dd:=dd) (ws:=ws) (a:=wa) (b:=b) (c:=none) (rs:=[0,1,2,5,3]) hdf hB htk hcv ?_⟩
    exact ⟨rfl,by decide,⟨⟨rfl,rfl⟩,⟨rfl,rfl⟩,⟨rfl,rfl⟩,⟨rfl,rfl⟩,trivial⟩,⟨⟨Za6 hdf,by rw [Zac hdf];rfl⟩,⟨rfl,rfl⟩,⟨by show (bd _ B && _)=true;rw [Zbe _ hB];rfl,by show _=some (AObj.row 28 [Zed _ B,_,_]);rw [Zao _ hB];rfl⟩,⟨by show bds _ (wrs _++[_,_])=true;rw [Zq3 hLf];rfl,by show _=some (AObj.row 116 (Zbx _ (wrs _++[_,_])));rw [Zlb hLf];rfl⟩,⟨Za6 (Zad _),by rw [Zac (Zad _)];rfl⟩,trivial⟩⟩
   ·conv=>whnf
    refine Zaa rfl hwl ?_;conv=>whnf
    refine Zab (a:=((i+1:Nat):Int)) (b:=(ws.length:Int)) rfl rfl (fun _=>?_) (fun h=>by omega);conv=>whnf
    refine Zae rfl hwl rfl hlt ?_
    rw [hd]
    conv=>whnf
    refine EHead.mk (v:=.int .i64 wa) rfl ?_;conv=>whnf
    refine Zae rfl hwl rfl hlt ?_
    rw [hd]
    conv=>whnf
    refine EHead.mk (v:=.fz b.length c (bys b)) rfl ?_;conv=>whnf
    refine Zbb (m:=b.length) (c:=z) (cs:=l) rfl rfl (by rw [Zm2 (by rw [hbl',Nat.mul_one]),hzl]) (by rw [← hzl,hbl',Nat.mul_one]) (by decide) (by omega) ?_
    rw [← hzl]
    conv=>whnf
    repeat' (first|(refine EHead.mk (v:=.int .i64 wa) rfl ?_;conv=>whnf)|(refine ⟨rfl,?_⟩;conv=>whnf)|fail)
    (refine Zb6 (m:=1) rfl rfl rfl rfl hLl rfl (by decide) (by omega) ?_)
    conv=>whnf
    repeat' (first|((first|refine w7 rfl rfl (by omega) ?_|refine ⟨rfl,?_⟩);conv=>whnf)|fail)
    refine ⟨i+1+1,hlt,by omega,tw_w (i:=i+1) (dd:=dd) (ws:=ws) (a:=wa) (b:=b) (c:=none) (rs:=[0,1,2,6,4]) hdf hB htk hcv ?_⟩
    exact ⟨rfl,by decide,⟨⟨rfl,rfl⟩,⟨rfl,rfl⟩,⟨rfl,rfl⟩,⟨rfl,rfl⟩,trivial⟩,⟨⟨Za6 hdf,by rw [Zac hdf];rfl⟩,⟨rfl,rfl⟩,⟨by show (bd _ B && _)=true;rw [Zbe _ hB];rfl,by show _=some (AObj.row 28 [Zed _ B,_,_]);rw [Zao _ hB];rfl⟩,⟨by show bds _ (wrs _++[_,_])=true;rw [Zq3 hLf];rfl,by show _=some (AObj.row 116 (Zbx _ (wrs _++[_,_])));rw [Zlb hLf];rfl⟩,⟨Za6 (Zad _),by rw [Zac (Zad _)];rfl⟩,trivial⟩⟩
 ·obtain rfl:i=ws.length:=by omega
  have hbt:ws.take ws.length=ws:=List.take_of_length_le (by omega)
  cases hn0:ws.length with
  | zero=>
   have hb0:ws=[]:=List.length_eq_zero_iff.1 (by omega)
   conv=>whnf
   refine Zaa rfl hwl ?_;conv=>whnf
   refine Zab (a:=((0:Nat):Int)) (b:=(ws.length:Int)) rfl rfl (fun h=>by omega) (fun _=>?_);conv=>whnf
   refine W.tells (Abs.tells (tl:=[(1,.ptr 0 0),(2,.ptr 1 0),(3,.ptr 2 0)]) (os:=[.row 28 [bv,wv,.bool dd],.row 28 [.nils,.nils,.bool false],.row 28 [B,.nils,.bool dd]]) (rs:=[0,1,2]) ⟨by decide,⟨⟨rfl,rfl⟩,⟨rfl,rfl⟩,⟨rfl,rfl⟩,trivial⟩,⟨⟨Za6 hdf,by rw [Zac hdf];rfl⟩,⟨rfl,rfl⟩,⟨by show (bd 3 B && true)=true;rw [Zbe _ hB];rfl,by show _=some (AObj.row 28 [Zed _ B,_,_]);rw [Zao _ hB];rfl⟩,trivial⟩⟩) (k .nils (by rw [hb0];rfl))
  | succ m=>
   have hcs:Zo2 ws=.fz (m+1) none (wrs (ws.map Zhu)):=by
    cases ws with
    | nil=>exact absurd hn0 (by simp)
    | cons b L=>show AV.fz (L.length+1) _ _=_;rw [show L.length+1=m+1 from hn0]
   rw [hn0] at hbt
   conv=>whnf
   refine Zaa rfl hwl ?_;conv=>whnf
   refine Zab (a:=((m+1:Nat):Int)) (b:=(ws.length:Int)) rfl rfl (fun h=>by omega) (fun _=>?_);conv=>whnf
   refine W.tells (AbsK.frz (k:=0) (n:=3) (e:=116) (cs:=wrs (ws.map Zhu)) (tl:=[(1,.ptr 0 0),(2,.ptr 1 0),(3,.ptr 2 0)]) (tl2:=[(1,.ptr 0 0),(2,.ptr 1 0),(3,.ptr 2 0)]) (os:=[.row 28 [bv,wv,.bool dd],.row 28 [.nils,.nils,.bool false],.row 28 [B,.sl 3 0 (m+1) none,.bool dd]]) (os2:=[.row 28 [bv,wv,.bool dd],.row 28 [.nils,.nils,.bool false],.row 28 [B,.fz (m+1) none (wrs (ws.map Zhu)),.bool dd]]) (rs:=[0,1,2,3])
    ⟨rfl,by decide,⟨⟨rfl,rfl⟩,⟨rfl,rfl⟩,⟨rfl,rfl⟩,trivial⟩,⟨⟨Za6 hdf,by rw [Zac hdf];rfl⟩,⟨rfl,rfl⟩,⟨by show (bd 4 B && true)=true;rw [Zbe _ hB];rfl,by show _=some (AObj.row 28 [Zed _ B,_,_]);rw [Zao _ hB];rfl⟩,⟨Za6 (Zfj _),by rw [Zac (Zfj _)];show some (AObj.row 116 (wrs ((ws.take (m+1)).map Zhu)))=_;rw [hbt]⟩,trivial⟩⟩ rfl (Zfj _) rfl rfl rfl rfl rfl (by show [frzO 3 _ (.row 28 _),_,AObj.row 28 [frzV 3 _ B,_,_]]=_;rw [Zby hdf,Zjk _ hB];rfl)) (k _ hcs.symm)
theorem Yb9 (L:List (List Nat)):AM.hf (Yhm L)=true:=by cases L <;> rfl
theorem Ygn (L:List WR):AM.hf (Zo2 L)=true:=by cases L <;> rfl
def twn4F:Fam DK:=⟨DK.ok,fun x=>[x.v],fun x=>(twD x).v,fun x y hx hy h=>by rw [DK.inj hx.a hy.a (List.cons.inj h).1]⟩
theorem Yev {P:Program}{e:Env}{fn:Func}(hE:EnvOk P e) (hm:P.follows .mixedOrders=true) (hf:P.funcs[22]?=some fn) (hc:Zaj P fn=some a22) (hb:Zaf P 22):OvOk P 22 twn4F.O:=by
 refine Zal hb fun x hx=>?_
 have hof:AM.hf (twD x).v=true:=by show (AM.hf (Yhm x.bs) && (AM.hf (Zo2 x.ws) && (true && true)))=true;rw [Yb9,Ygn];rfl
 refine ⟨by show (AM.hf x.v && true)=true;rw [DK.hf hx.a];rfl,hof,C.of_W hf hc ?_⟩
 have h2:=Yew (K:=fun w s'=>Frz s' w (twn4F.out x)) hE hm hx (Yb9 x.bs) (fun s=>.plain _ hof)
 have h1:=Yex hE hm hx h2
 have hdf:hfs [x.bv,x.wv,.bool x.dead]=true:=Zp0 hx.a.wl hx.a.bl
 generalize twn4F.out x=O at h1 ⊢
 obtain ⟨bv,us,bs,wv,ws,dd⟩:=x
 dsimp only at hdf
 show W P 0 none Yc5 (Zax [.agg [bv,wv,.bool dd]] 0 .lf) St0 [] _
 refine W.seqV hE hm ?_;conv=>whnf
 refine W.seqV hE hm ?_;conv=>whnf
 refine W.tells (Abs.tells (tl:=[(1,.ptr 0 0),(2,.ptr 1 0),(3,.ptr 2 0)]) (os:=[.row 28 [bv,wv,.bool dd],.row 28 [.nils,.nils,.bool false],.row 28 [.nils,.nils,.bool dd]]) (rs:=[0,1,2]) ⟨by decide,⟨⟨rfl,rfl⟩,⟨rfl,rfl⟩,⟨rfl,rfl⟩,trivial⟩,⟨⟨Za6 hdf,by rw [Zac hdf];rfl⟩,⟨rfl,rfl⟩,⟨rfl,rfl⟩,trivial⟩⟩) ?_
 exact h1
end Go.AM
set_option maxRecDepth 100000
namespace Go.AM
attribute [local irreducible] W
open X
def sam4F:Fam DK:=⟨DK.ok,fun x=>[(twD x).v,x.v],fun _=>.bool true,fun x y _ _ _=>rfl⟩
theorem Yfo {P:Program}{e:Env}{fn:Func}(hE:EnvOk P e) (hm:P.follows .mixedOrders=true) (h72:Con e 72 fullF.O) (hf:P.funcs[26]?=some fn) (hc:Zaj P fn=some a26) (hb:Zaf P 26):OvOk P 26 sam4F.O:=by
 refine Zal hb fun x hx=>?_
 have hy:=Zvn hx
 refine ⟨by show (AM.hf (twD x).v && (AM.hf x.v && true))=true;rw [DK.hf hx.a,DK.hf hy.a];rfl,rfl,C.of_V hE hm hf hc ?_⟩
 have hF:∀ {u:AV}{b:List Nat},BAt u b→b.length<1000000→∀ (K:AV→St→Prop) (s:St),K (Zsi b) s→ESc e 72 [u] s K:=fun {u b} h1 h2 K s hk=>ESc.fam fullF h72 ⟨u,b⟩ ⟨h1,h2⟩ (u:=Zsi b) rfl hk
 have hbl2:=hy.a.bl
 have hwl2:=hy.a.wl
 have hbs2:=hy.a.bs
 have hul:(twD x).us.length=x.us.length:=by have:=hx.a.bs.length;show (x.bs.map Zgf).length=_;rw [List.length_map];omega
 have hwsl:(twD x).ws.length=x.ws.length:=by show (x.ws.map Zhu).length=_;rw [List.length_map]
 have hws2:∀ (i:Nat) (h:i<x.ws.length) (h':i<(twD x).ws.length),(twD x).ws[i]=Zhu x.ws[i]:=fun i h h'=>by
  have:(x.ws.map Zhu)[i]?=some (Zhu x.ws[i]):=by rw [List.getElem?_map,List.getElem?_eq_getElem h];rfl
  have h2:(twD x).ws[i]?=some (Zhu x.ws[i]):=this
  rw [List.getElem?_eq_getElem h'] at h2
  exact Option.some.inj h2
 have hdd2:(twD x).dead=x.dead:=rfl
 have hbb2:(twD x).bs=x.bs:=rfl
 show VW P e 0 (match a26 with|.mk c _=>c) (Zax [(twD x).v,x.v] 0 .lf) St0 none [] (Zfa [.tmp 4] (fun w s'=>Frz s' w (.bool true)))
 obtain ⟨⟨hbl,hbs,hwl,hws⟩,hn,hm',hb',hw'⟩:=hx
 obtain ⟨⟨_,_,_,_⟩,hn2,_,_,_⟩:=hy
 generalize twD x=y at *
 obtain ⟨bv,us,bs,wv,ws,dd⟩:=x
 obtain ⟨bv2,us2,bs2,wv2,ws2,dd2⟩:=y
 dsimp only at *
 subst hdd2 hbb2
 have hdf:hfs [bv,wv,.bool dd2]=true:=Zp0 hwl hbl
 have hdf2:hfs [bv2,wv2,.bool dd2]=true:=Zp0 hwl2 hbl2
 show VW P e 0 (match a26 with|.mk c _=>c) (Zax [.agg [bv2,wv2,.bool dd2],.agg [bv,wv,.bool dd2]] 0 .lf) St0 none [] (Zfa [.tmp 4] (fun w s'=>Frz s' w (.bool true)))
 conv=>whnf
 refine Zaa rfl hbl2 ?_;conv=>whnf
 refine Zaa rfl hbl ?_;conv=>whnf
 refine Zas (a:=(us2.length:Int)) (b:=(us.length:Int)) rfl rfl (fun h=>by omega) (fun _=>?_);conv=>whnf
 refine Zaa rfl hwl2 ?_;conv=>whnf
 refine Zaa rfl hwl ?_;conv=>whnf
 refine Zas (a:=(ws2.length:Int)) (b:=(ws.length:Int)) rfl rfl (fun h=>by omega) (fun _=>?_);conv=>whnf
 cases dd2
 all_goals
  repeat' (first|(refine w15 rfl rfl ?_;conv=>whnf)|fail)
  refine Zbo (α:=Nat) (fun i=>[(2,.ptr 0 0),(3,.ptr 1 0),(5,.int .i64 (i:Int))]) (fun _=>[.row 28 [bv2,wv2,_],.row 28 [bv,wv,_]]) (fun i=>us.length-i) (fun i=>i≤us.length) 0 (Nat.zero_le _)
   (Abs.tells (rs:=[0,1]) ⟨by decide,⟨⟨rfl,rfl⟩,⟨rfl,rfl⟩,⟨rfl,rfl⟩,trivial⟩,⟨⟨Za6 hdf2,by rw [Zac hdf2];rfl⟩,⟨Za6 hdf,by rw [Zac hdf];rfl⟩,trivial⟩⟩) ?_
  intro i hi
  refine Zap hE hm ?_
  by_cases hlt:i<us.length
  ·have hlt2:i<us2.length:=by omega
   obtain ⟨b,hb1,hb2⟩:=hbs.get (List.getElem?_eq_getElem hlt)
   obtain ⟨b',hb1',hb2'⟩:=hbs2.get (List.getElem?_eq_getElem hlt2)
   rw [hb1] at hb1';cases hb1'
   have hbl3:=hb' b (List.mem_of_getElem? hb1)
   have hS:=(Zwp hb2.2).1
   have hSl:=Zf9 hb2.2
   have q1:((us.drop (i*1)))[0]?=some us[i]:=by rw [Nat.mul_one,List.getElem?_drop,Nat.add_zero,List.getElem?_eq_getElem hlt]
   have q2:((us2.drop (i*1)))[0]?=some us2[i]:=by rw [Nat.mul_one,List.getElem?_drop,Nat.add_zero,List.getElem?_eq_getElem hlt2]
   have hall:=And.intro q1 (And.intro q2 (And.intro hb2 hb2'))
   clear q1 q2 hb2 hb2'
   revert hall
   generalize us[i]=u
   generalize us2[i]=u2
   rintro ⟨q1,q2,hb2,hb2'⟩
   have hF1:=hF hb2' hbl3
   have hF2:=hF hb2 hbl3
   conv=>whnf
   refine Zaa rfl hbl2 ?_;conv=>whnf
   refine Zab (a:=(i:Int)) (b:=(us2.length:Int)) rfl rfl (fun _=>?_) (fun h=>by omega);conv=>whnf
   refine Zae rfl hbl2 rfl hlt2 ?_;conv=>whnf
   refine EHead.mk (v:=u2) q2 ?_;conv=>whnf
   refine Zae rfl hbl rfl hlt ?_;conv=>whnf
   refine EHead.mk (v:=u) q1 ?_;conv=>whnf
   refine hF1 _ _ ?_;conv=>whnf
   repeat' (first|(refine EHead.mk (v:=u) q1 ?_;conv=>whnf)|(refine ⟨rfl,?_⟩;conv=>whnf)|fail)
   refine Zbd (bs:=pad b) rfl hS hSl ?_;conv=>whnf
   refine hF2 _ _ ?_;conv=>whnf
   refine Zbd (bs:=pad b) rfl hS hSl ?_;conv=>whnf
   refine ⟨rfl,?_⟩;conv=>whnf
   refine Zbd (bs:=pad b) rfl hS hSl ?_;conv=>whnf
   refine Zdb rfl rfl (fun h=>absurd rfl h) (fun _=>?_);conv=>whnf
   repeat' (first|((first|refine w7 rfl rfl (by omega) ?_|refine ⟨rfl,?_⟩);conv=>whnf)|fail)
   exact ⟨i+1,hlt,by omega,Abs.tells (rs:=[0,1]) ⟨by decide,⟨⟨rfl,rfl⟩,⟨rfl,rfl⟩,⟨rfl,rfl⟩,trivial⟩,⟨⟨Za6 hdf2,by rw [Zac hdf2];rfl⟩,⟨Za6 hdf,by rw [Zac hdf];rfl⟩,trivial⟩⟩⟩
  ·conv=>whnf
   refine Zaa rfl hbl2 ?_;conv=>whnf
   refine Zab (a:=(i:Int)) (b:=(us2.length:Int)) rfl rfl (fun _=>by omega) (fun h=>?_);conv=>whnf
   refine Zbo (α:=Nat) (fun i=>[(2,.ptr 0 0),(3,.ptr 1 0),(6,.int .i64 (i:Int))]) (fun _=>[.row 28 [bv2,wv2,_],.row 28 [bv,wv,_]]) (fun i=>ws.length-i) (fun i=>i≤ws.length) 0 (Nat.zero_le _)
    (Abs.tells (rs:=[0,1]) ⟨by decide,⟨⟨rfl,rfl⟩,⟨rfl,rfl⟩,⟨rfl,rfl⟩,trivial⟩,⟨⟨Za6 hdf2,by rw [Zac hdf2];rfl⟩,⟨Za6 hdf,by rw [Zac hdf];rfl⟩,trivial⟩⟩) ?_
   intro j hj
   refine Zap hE hm ?_
   by_cases hjl:j<ws.length
   ·have hjl2:j<ws2.length:=by omega
    have hd:=Zb0 hjl
    have hd2:=Zb0 hjl2
    rw [hws2 j hjl hjl2] at hd2
    have hwa:=hws _ (List.getElem_mem hjl)
    have hwl3:=hw' _ (List.getElem_mem hjl)
    have hall:=And.intro hd (And.intro hd2 (And.intro hwa hwl3))
    clear hd hd2 hwa hwl3
    revert hall
    generalize ws[j]=w
    obtain ⟨wa,wu,wb⟩:=w
    rintro ⟨hd,hd2,⟨hwa,hwb⟩,hwl3⟩
    have hd:(wrs ws).drop (j*2)=[.int .i64 wa,wu]++wrs (ws.drop (j+1)):=hd
    have hd2:(wrs ws2).drop (j*2)=[.int .i64 wa,Zgf wb]++wrs (ws2.drop (j+1)):=hd2
    dsimp only at hwa hwb hwl3
    have hS:=(Zwp hwb.2).1
    have hSl:=Zf9 hwb.2
    have hF1:=hF (Zu3 hwb.2) hwl3
    have hF2:=hF hwb hwl3
    generalize Zgf wb=wu2 at hd2 hF1
    conv=>whnf
    refine Zaa rfl hwl2 ?_;conv=>whnf
    refine Zab (a:=(j:Int)) (b:=(ws2.length:Int)) rfl rfl (fun _=>?_) (fun h=>by omega);conv=>whnf
    refine Zae rfl hwl2 rfl hjl2 ?_
    rw [hd2]
    conv=>whnf
    refine EHead.mk (v:=.int .i64 wa) rfl ?_;conv=>whnf
    refine Zae rfl hwl rfl hjl ?_
    rw [hd]
    conv=>whnf
    refine EHead.mk (v:=.int .i64 wa) rfl ?_;conv=>whnf
    refine Zas (a:=wa) (b:=wa) rfl rfl (fun h=>absurd rfl h) (fun _=>?_);conv=>whnf
    refine Zae rfl hwl2 rfl hjl2 ?_
    rw [hd2]
    conv=>whnf
    refine EHead.mk (v:=wu2) rfl ?_;conv=>whnf
    refine Zae rfl hwl rfl hjl ?_
    rw [hd]
    conv=>whnf
    refine EHead.mk (v:=wu) rfl ?_;conv=>whnf
    refine hF1 _ _ ?_;conv=>whnf
    repeat' (first|(refine EHead.mk (v:=wu) rfl ?_;conv=>whnf)|(refine ⟨rfl,?_⟩;conv=>whnf)|fail)
    refine Zbd (bs:=pad wb) rfl hS hSl ?_;conv=>whnf
    refine hF2 _ _ ?_;conv=>whnf
    refine Zbd (bs:=pad wb) rfl hS hSl ?_;conv=>whnf
    refine ⟨rfl,?_⟩;conv=>whnf
    refine Zbd (bs:=pad wb) rfl hS hSl ?_;conv=>whnf
    refine Zdb rfl rfl (fun h=>absurd rfl h) (fun _=>?_);conv=>whnf
    repeat' (first|((first|refine w7 rfl rfl (by omega) ?_|refine ⟨rfl,?_⟩);conv=>whnf)|fail)
    exact ⟨j+1,hjl,by omega,Abs.tells (rs:=[0,1]) ⟨by decide,⟨⟨rfl,rfl⟩,⟨rfl,rfl⟩,⟨rfl,rfl⟩,trivial⟩,⟨⟨Za6 hdf2,by rw [Zac hdf2];rfl⟩,⟨Za6 hdf,by rw [Zac hdf];rfl⟩,trivial⟩⟩⟩
   ·conv=>whnf
    refine Zaa rfl hwl2 ?_;conv=>whnf
    refine Zab (a:=(j:Int)) (b:=(ws2.length:Int)) rfl rfl (fun _=>by omega) (fun h=>?_);conv=>whnf
    exact .plain _ rfl
end Go.AM
