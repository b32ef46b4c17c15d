/-
 Functions of the program as the abstract machine reads them, and what is stated of them, checked by the kernel. No conditions.
-/
import Derived.Test.YtnnbibnobmegpaaSeatV
import Derived.Test.YtnnbibnobmegpaaAM5
import Derived.Test.YtnnbibnobmegpaaSeatU
import Derived.Test.YtnnbibnobmegpaaSeatX
set_option linter.unusedVariables false
set_option linter.unusedSimpArgs false
set_option maxRecDepth 100000
namespace Go.AM
attribute [local irreducible] W
open X
noncomputable def rowO {α:Type}(F:Fam α) (g:α→List Nat):Ov:=fun args s=>open Classical in if h:∃ x,F.ok x∧args=F.enc x then .ok (.sl (0+s.next) 0 128 (some 128)) (s.alloc (.row 5 (bys (g (Classical.choose h))))) else .fail
theorem Zvz {α:Type}{F:Fam α}{g:α→List Nat}(hg:∀ x y,F.ok x→F.ok y→F.enc x=F.enc y→g x=g y) {x:α}(hx:F.ok x) (s:St):rowO F g (F.enc x) s=.ok (.sl (0+s.next) 0 128 (some 128)) (s.alloc (.row 5 (bys (g x)))):=by
 have h:∃ y,F.ok y∧F.enc x=F.enc y:=⟨x,hx,rfl⟩
 unfold rowO
 rw [dif_pos h]
 obtain ⟨h1,h2⟩:=Classical.choose_spec h
 rw [hg _ _ hx h1 h2]
theorem rowO_ok {P:Program}{f:Nat}{α:Type}{F:Fam α}{g:α→List Nat}(hg:∀ x y,F.ok x→F.ok y→F.enc x=F.enc y→g x=g y) (hb:Zaf P f)
 (key:∀ x,F.ok x→hfs (F.enc x)=true∧C P f (F.enc x) St0 (fun v s'=>v=.sl 0 0 128 (some 128)∧s'=Zai St0 [.row 5 (bys (g x))])):OvOk P f (rowO F g):=by
 refine ⟨hb,fun args s v s' hh=>?_⟩
 have hx0:∃ x,F.ok x∧args=F.enc x:=by
  unfold rowO at hh
  split at hh
  ·rename_i h;exact h
  ·cases hh
 obtain ⟨x,hx,rfl⟩:=hx0
 rw [Zvz hg hx] at hh
 cases hh
 obtain ⟨hfa,key⟩:=key x hx
 refine (C.frame (l:=[.row 5 (bys (g x))]) (u:=.sl 0 0 128 (some 128)) hfa ?_ ?_ key ?_ s).mono ?_
 ·intro o ho;simp at ho;subst ho;rfl
 ·exact .inl (by simp)
 ·intro i o h
  rcases i with _|i
  ·simp at h;subst h;rfl
  ·simp at h
 ·rintro v s' ⟨rfl,rfl⟩
  refine ⟨rfl,?_⟩
  show Zai s [Zr9 _ (.row 5 (bys (g x)))]=_
  rw [Zac (Zad _)];rfl
theorem abs1 {s:St}{r:Nat}{b:List Nat}(h:s.get r=some (.row 5 (bys b))):∃ rs,Abs (T.set .lf (.sl r 0 128 (some 128)) 0) s [(0,.sl 0 0 128 (some 128))] [.row 5 (bys b)] rs:=
 ⟨[r],⟨by simp,⟨⟨rfl,rfl⟩,trivial⟩,⟨⟨Za6 (Zad _),by rw [Zac (Zad _)];exact h⟩,trivial⟩⟩⟩
def wthG (p:BS):List Nat:=Zb8 p.b 124 p.n 4
theorem Zvg (p q:BS) (hp:p.ok) (hq:q.ok) (h:wthF.enc p=wthF.enc q):wthG p=wthG q:=by
 obtain ⟨u,b,n⟩:=p
 obtain ⟨u',b',n'⟩:=q
 have h1:=UB.inja (x:=⟨u,b⟩) (y:=⟨u',b'⟩) hp.b hq.b (List.cons.inj h).1
 have h2:(n:Int)=n':=by have:=(List.cons.inj (List.cons.inj (List.cons.inj (List.cons.inj h).2).2).2).1;injection this
 have h2:=Int.ofNat.inj h2
 cases h1
 subst h2;rfl
noncomputable def Zzn:Ov:=rowO wthF wthG
theorem Yeq {P:Program}{e:Env}{fn:Func}(hE:EnvOk P e) (hm:P.follows .mixedOrders=true) (h114:Con e 114 Zdx) (hf:P.funcs[171]?=some fn) (hc:Zaj P fn=some a171) (hb:Zaf P 171):OvOk P 171 Zzn:=by
 refine rowO_ok Zvg hb fun p hp=>?_
 obtain ⟨u,b,n⟩:=p
 obtain ⟨hx,hl,hn⟩:=hp
 have huf:=hx.1.hf
 dsimp only at huf hl hn hx
 exact ⟨by show (AM.hf u && (true && (true && (true && true))))=true;rw [huf];rfl,C.abs (C.of_V hE hm hf hc (Zvf hE hm h114 hx hl hn fun s r h=>abs1 h))⟩
theorem Yah:∀ (b:List Nat),scs (bys b)=true
 | []=>rfl
 | x::b=>Yah b
noncomputable def Zpb (args:List AV) (s:St):RV:=match args with
 | [v]=>Option.rec .fail (fun bs=>gd (Nat.ble (Zd0 bs) 128) (.ok (.sl s.next 0 128 (some 128)) (s.alloc (.row 5 (bys (Zjz bs)))))) (Zbf s v)
 | _=>.fail
theorem Yfg {P:Program}{e:Env}{fn:Func}(hE:EnvOk P e) (hm:P.follows .mixedOrders=true) (h114:Con e 114 wholeF.O) (h115:Con e 115 sumRF.O) (h171:Con e 171 Zzn) (hf:P.funcs[167]?=some fn) (hc:Zaj P fn=some Yhv) {u:AV}{b:List Nat}(hx:BAt u b) (hl:b.length≤128):
 C P 167 [u] St0 (fun v s'=>v=.sl 0 0 128 (some 128)∧s'=Zai St0 [.row 5 (bys (Zjz b))]):=by
 have huf:=hx.1.hf
 have l1:=Znk hl
 have p1:=Ya5 hx.2
 refine C.abs (C.of_V hE hm hf hc ?_)
 have htk:∀ y ∈ (Zct b).take 124,y<256:=fun y hy=>p1 y (List.mem_of_mem_take hy)
 have htl:((Zct b).take 124).length=124:=by rw [List.length_take];omega
 have hsum:Zen ((Zct b).take 124)<4294967296:=Nat.xor_lt_two_pow (n:=32) (Zg7 htk (by decide)) (by decide)
 have hw:∀ (K:AV→St→Prop) (s:St),K (fzB (Zct b)) s→ESc e 114 [u] s K:=fun K s hk=>ESc.fam wholeF h114 ⟨u,b⟩ ⟨hx,hl⟩ (u:=fzB (Zct b)) rfl hk
 have hS:∀ (K:AV→St→Prop) (s:St),K (.int .u32 ((Zen ((Zct b).take 124):Nat):Int)) s→ESc e 115 [.fz 124 none ((bys (Zct b)).take 124)] s K:=fun K s hk=>
  ESc.fam sumRF h115 ⟨.fz 124 none ((bys (Zct b)).take 124),(Zct b).take 124⟩ ⟨⟨.inr (.inr ⟨none,by show AV.fz 124 none _=.fz ((Zct b).take 124).length _ (bys ((Zct b).take 124));rw [htl,Zms],by rw [Zan,Nat.mul_one]⟩),htk⟩,by show ((Zct b).take 124).length<_;omega⟩ (u:=.int .u32 ((Zen ((Zct b).take 124):Nat):Int)) rfl hk
 have hW:=fun (s:St)=>Zvz (F:=wthF) (g:=wthG) Zvg (x:=⟨fzB (Zct b),Zct b,Zen ((Zct b).take 124)⟩) ⟨Zep ⟨l1,p1⟩,l1,hsum⟩ s
 have hbl:(bys (Zct b)).length=128:=by rw [Zan];exact l1
 show VW P e 0 (match Yhv with|.mk c _=>c) (Zax [u] 0 .lf) St0 none [] _
 conv=>whnf
 refine hw _ _ ?_;conv=>whnf
 refine Zhg (h:=124) rfl rfl rfl (by omega) (by omega) (by omega) (by rw [hbl];omega) ?_;conv=>whnf
 refine hS _ _ ?_;conv=>whnf
 refine Zam (q':=.i64) (a:=((Zen ((Zct b).take 124):Nat):Int)) rfl (i64_in (by omega)) ?_;conv=>whnf
 refine ESc.ov h171 (hW _) ?_;conv=>whnf
 exact abs1 rfl
theorem Yag {P:Program}{e:Env}{fn:Func}(hE:EnvOk P e) (hm:P.follows .mixedOrders=true) (h114:Con e 114 wholeF.O) (h115:Con e 115 sumRF.O) (h171:Con e 171 Zzn) (hf:P.funcs[167]?=some fn) (hc:Zaj P fn=some Yhv) (hb:Zaf P 167):OvOk P 167 Zpb:=by
 refine ⟨hb,fun args s v s' h=>?_⟩
 unfold Zpb at h
 split at h
 ·rename_i u
  obtain ⟨bs,hbs,h⟩:=Za3 h
  obtain ⟨h2,h⟩:=Zco h
  obtain ⟨rfl,rfl⟩:=Zau h
  rw [Nat.ble_eq,Zbu] at h2
  obtain ⟨v2,hF,hSl,hlt⟩:=Zea hbs
  exact C.viewB (args2:=[v2]) (.cons hF .nil) (Yah _) (Yfg hE hm h114 h115 h171 hf hc ⟨hSl,hlt⟩ h2)
 ·cases h
end Go.AM
set_option maxRecDepth 100000
namespace Go.AM
attribute [local irreducible] W
open X
def supMF:Fam Sup:=⟨Sup.ok,fun x=>[x.v],fun x=>.bool x.b,fun x y _ _ h=>by rw [Sup.inj (List.cons.inj h).1]⟩
theorem Ye4 {P:Program}{e:Env}{fn:Func}(hE:EnvOk P e) (hm:P.follows .mixedOrders=true) (hf:P.funcs[156]?=some fn) (hc:Zaj P fn=some a156) (hb:Zaf P 156):OvOk P 156 supMF.O:=by
 refine Zal hb ?_
 rintro ⟨id,age,seq,tail⟩ ⟨hi,ha,hq⟩
 dsimp only at hi ha hq
 refine ⟨rfl,rfl,C.of_V hE hm hf hc ?_⟩
 have fin1:∀ s,((1≤age∧age≤2147483648)∧(1≤seq∧seq≤2147483648)∧(0≤tail∧tail<255))→Frz s (.bool true) (supMF.out ⟨id,age,seq,tail⟩):=fun s h=>by
  show Frz s _ (.bool (Zrk age seq tail))
  unfold Zrk Ybg
  rw [decide_eq_true h.1,decide_eq_true h.2.1,decide_eq_true h.2.2];exact .plain _ rfl
 have fin0:∀ s,¬ ((1≤age∧age≤2147483648)∧(1≤seq∧seq≤2147483648)∧(0≤tail∧tail<255))→Frz s (.bool false) (supMF.out ⟨id,age,seq,tail⟩):=fun s h=>by
  have:Zrk age seq tail=false:=by
   rw [← Bool.not_eq_true]
   intro hh
   unfold Zrk Ybg at hh
   simp only [Bool.and_eq_true,decide_eq_true_eq] at hh
   exact h ⟨hh.1.1,hh.1.2,hh.2⟩
  show Frz s _ (.bool (Zrk age seq tail))
  rw [this];exact .plain _ rfl
 show VW P e 0 (match a156 with|.mk c _=>c) (Zax [AV.agg [.int .u32 id,.int .u32 age,.int .u32 seq,.int .i64 tail]] 0 .lf) St0 none [] _
 conv=>whnf
 repeat' (first|((first|refine w1 rfl rfl ?_ ?_|refine w2 rfl rfl ?_ ?_|refine w4 rfl rfl ?_ ?_) <;> intro _ <;> first|(exfalso;omega)|(conv=>whnf))|fail)
 all_goals first
  | exact fin0 _ (by omega)
  | exact fin1 _ (by omega)
  | skip
structure SpB where
 id:Nat
 ag:Nat
 sq:Nat
 tl:Nat
structure SpB.ok (x:SpB):Prop where
 id:x.id<4294967296
 ag:x.ag<4294967296
 sq:x.sq<4294967296
 tl:x.tl<256
def SpB.v (x:SpB):AV:=.agg [.int .u32 (x.id:Int),.int .u32 (x.ag:Int),.int .u32 (x.sq:Int),.int .i64 (x.tl:Int)]
def Yfv (x:SpB):List Nat:=[83]++le x.id 4++le x.ag 4++le x.sq 4++[x.tl]
theorem Zt5 (x:SpB):(Yfv x).length=14:=by unfold Yfv;simp [Zbg]
theorem rawS_lt {x:SpB}(h:x.tl<256):∀ y ∈ Yfv x,y<256:=by
 intro y hy
 unfold Yfv at hy
 simp only [List.mem_append,List.mem_singleton] at hy
 rcases hy with (((rfl|hy)|hy)|hy)|rfl
 ·decide
 ·exact Ygi _ _ _ hy
 ·exact Ygi _ _ _ hy
 ·exact Ygi _ _ _ hy
 ·exact h
theorem Yfu {x:SpB}(h:x.tl<256):Zct (Yfv x)=Zxm x.id x.ag x.sq x.tl:=by
 unfold Zxm
 rw [← Zv5,put1 (b:=[]) (a:=0) rfl (by decide) (by decide),put4 (b:=[]++[83]) (a:=1) rfl (by decide),put4 (a:=5) (by simp [Zbg]) (by decide),put4 (a:=9) (by simp [Zbg]) (by decide),put1 (a:=13) (by simp [Zbg]) (by decide) h]
 unfold Yfv
 simp
theorem Yaz {x:SpB}(h:x.tl<256):Zjz (Yfv x)=Zeo x.id x.ag x.sq x.tl:=by
 unfold Zjz Zeo;rw [Yfu h]
def sblkF:Fam SpB:=⟨SpB.ok,fun x=>[x.v],fun x=>fzB (Zeo x.id x.ag x.sq x.tl),fun x y hx hy h=>by
 obtain ⟨a,b,c,d⟩:=x
 obtain ⟨a',b',c',d'⟩:=y
 have h:=(List.cons.inj h).1
 simp only [SpB.v,AV.agg.injEq,List.cons.injEq,AV.int.injEq,true_and,and_true] at h
 obtain ⟨h1,h2,h3,h4⟩:=h
 rw [Int.ofNat.inj h1,Int.ofNat.inj h2,Int.ofNat.inj h3,Int.ofNat.inj h4]⟩
theorem Zxv {s:St}{r e n:Nat}{c:Option Nat}{bs:List Nat}(h:s.get r=some (.row e (bys bs))) (hn:bs.length=n) (hn':n≤128) (hb:∀ b ∈ bs,b<256):Zpb [.sl r 0 n c] s=.ok (.sl s.next 0 128 (some 128)) (s.alloc (.row 5 (bys (Zjz bs)))):=by
 show (Option.rec .fail (fun bs=>gd (Nat.ble (Zd0 bs) 128) (.ok (.sl s.next 0 128 (some 128)) (s.alloc (.row 5 (bys (Zjz bs)))))) (Zbf s (.sl r 0 n c)):RV)=_
 rw [Zjr h hn hb]
 show gd (Nat.ble (Zd0 bs) 128) _=_
 rw [Zbu,Nat.ble_eq_true_of_le (by omega)];rfl
theorem Yfm {P:Program}{e:Env}{fn:Func}(hE:EnvOk P e) (hm:P.follows .mixedOrders=true) (h166:Con e 166 fourF.O) (h167:Con e 167 Zpb) (hf:P.funcs[157]?=some fn) (hc:Zaj P fn=some a157) (hb:Zaf P 157):OvOk P 157 sblkF.O:=by
 refine Zal hb fun x hx=>?_
 have hsl:=Yaz hx.tl
 have hrl:=Zt5 x
 have hlt:=rawS_lt hx.tl
 have hr0:Yfv x=[83]++le x.id 4++le x.ag 4++le x.sq 4++[x.tl]:=rfl
 refine ⟨rfl,rfl,C.of_V hE hm hf hc ?_⟩
 have hfin:∀ s r,s.get r=some (.row 5 (bys (Zeo x.id x.ag x.sq x.tl)))→Frz s (.sl r 0 128 (some 128)) (fzB (Zeo x.id x.ag x.sq x.tl)):=fun s r h=>.sl r 0 128 _ _ 5 _ _ _ h (fun i x h=>by rw [Nat.zero_add];exact h) (Zsk (Zad _)) (.inl rfl)
 show VW P e 0 (match a157 with|.mk c _=>c) (Zax [x.v] 0 .lf) St0 none [] (Zfa [.tmp 2] (fun w s'=>Frz s' w (fzB (Zeo x.id x.ag x.sq x.tl))))
 rw [← hsl] at hfin ⊢
 generalize Yfv x=R at *
 clear hsl
 obtain ⟨id,ag,sq,tl⟩:=x
 obtain ⟨h1,h2,h3,h4⟩:=hx
 dsimp only at h1 h2 h3 h4 hr0
 have hfour:∀ n:Nat,n<4294967296→∀ (K:AV→St→Prop) (s:St),K (.fz 4 none (bys (le n 4))) s→ESc e 166 [.int .u32 (n:Int)] s K:=fun n hn K s hk=>ESc.fam fourF h166 n hn (u:=.fz 4 none (bys (le n 4))) rfl hk
 have hsrc:∀ (n:Nat) (s:St),Zgl 1 (.fz 4 none (bys (le n 4))) s=some (bys (le n 4)):=fun n s=>Zm2 (by rw [Zan,Zbg]) s
 show VW P e 0 (match a157 with|.mk c _=>c) (Zax [.agg [.int .u32 (id:Int),.int .u32 (ag:Int),.int .u32 (sq:Int),.int .i64 (tl:Int)]] 0 .lf) St0 none [] _
 conv=>whnf
 refine hfour id (by omega) _ _ ?_;conv=>whnf
 refine Zop (old:=[83]) (bs:=le id 4) (m:=4) rfl rfl (hsrc _ _) rfl rfl (Zbg _ _) (by decide) (by decide) ?_;conv=>whnf
 refine hfour ag (by omega) _ _ ?_;conv=>whnf
 refine Zcj (old:=[83]++le id 4) (bs:=le ag 4) (m:=4) rfl rfl (hsrc _ _) rfl rfl (Zbg _ _) (by decide) (by decide) ?_;conv=>whnf
 refine hfour sq (by omega) _ _ ?_;conv=>whnf
 refine Zcj (old:=[83]++le id 4++le ag 4) (bs:=le sq 4) (m:=4) rfl rfl (hsrc _ _) rfl rfl (Zbg _ _) (by decide) (by decide) ?_;conv=>whnf
 refine Zam (q':=.u8) (a:=(tl:Int)) rfl (Zor (by omega)) ?_;conv=>whnf
 refine Zcj (old:=[83]++le id 4++le ag 4++le sq 4) (bs:=[tl]) (m:=1) rfl rfl rfl rfl rfl rfl (by decide) (by decide) ?_
 rw [← hr0]
 conv=>whnf
 refine ESc.ov h167 (Zxv (bs:=R) rfl hrl (by decide) hlt) ?_;conv=>whnf
 exact hfin _ _ rfl
end Go.AM
set_option maxRecDepth 100000
namespace Go.AM
attribute [local irreducible] W
open X
structure UB.f (x:UB):Prop where
 b:BAt x.u x.b
 l:x.b.length=128
def Zry (b:List Nat):AV:=if Yel b=true then .tup [.agg (Zpa b),.int .i64 0] else .tup [.agg z4,.int .i64 90]
def rd10F:Fam UB:=⟨UB.f,fun x=>[x.u],fun x=>Zry x.b,fun x y hx hy h=>by rw [UB.inja hx.b hy.b (List.cons.inj h).1]⟩
def code119:AC:=match a119 with|.mk c _=>c
theorem Yft {P:Program}{e:Env}{fn:Func}(hE:EnvOk P e) (hm:P.follows .mixedOrders=true) (h149:Con e 149 sizF.O) (h114:Con e 114 wholeF.O) (h150:Con e 150 numRF.O) (h156:Con e 156 supMF.O) (h157:Con e 157 sblkF.O) (hf:P.funcs[119]?=some fn) (hc:Zaj P fn=some a119) (hb:Zaf P 119):OvOk P 119 rd10F.O:=by
 refine Zal hb fun x hx=>?_
 obtain ⟨u,b⟩:=x
 obtain ⟨hbt,hl⟩:=hx
 dsimp only at hbt hl
 have huf:=hbt.1.hf
 have hO:∀ v,v=Zry b→AM.hf v=true:=by rintro v rfl;unfold Zry;split <;> rfl
 refine ⟨by show (AM.hf u && true)=true;rw [huf];rfl,hO _ rfl,C.of_V hE hm hf hc ?_⟩
 have p1:=hbt.2
 have hpr:Zct b=b:=by rw [Zjg (.inr hl),Zc0 hl]
 have n4:∀ a,num b a 4<4294967296:=fun a=>Zfs p1 4
 have n1:∀ a,num b a 1<256:=fun a=>Zfs p1 1
 have fin:∀ s w,w=Zry b→Frz s w (rd10F.out ⟨u,b⟩):=by rintro s w rfl;exact .plain _ (hO _ rfl)
 have hq:Zcl b=(num b 1 4,num b 5 4,num b 9 4,num b 13 1):=by unfold Zcl;rw [Zc0 hl]
 unfold Zry Yel Zpa at fin
 rw [hq] at fin
 dsimp only at fin
 have hw:∀ (K:AV→St→Prop) (s:St),K (fzB b) s→ESc e 114 [u] s K:=fun K s hk=>ESc.fam wholeF h114 ⟨u,b⟩ ⟨hbt,by show b.length≤128;omega⟩ (u:=fzB b) (by show fzB (Zct b)=_;rw [hpr]) hk
 have hsz:∀ (K:AV→St→Prop) (s:St),K (.bool true) s→ESc e 149 [u] s K:=fun K s hk=>ESc.fam sizF h149 ⟨u,b.length⟩ ⟨⟨_,hbt.1⟩,by dsimp only;omega⟩ (u:=.bool true) (by show AV.bool (!Zde b.length)=_;unfold Zde;rw [hl];rfl) hk
 have hB:=(Zep ⟨hl,p1⟩).1
 rw [hl] at hB
 have hnum:∀ a,a+4≤128→∀ (K:AV→St→Prop) (s:St),K (.int .u32 ((num b a 4:Nat):Int)) s→ESc e 150 [fzB b,.int .i64 (a:Int)] s K:=fun a ha K s hk=>ESc.fam numRF h150 ⟨⟨fzB b,b⟩,a⟩ ⟨⟨Zep ⟨hl,p1⟩,.inr hl⟩,ha⟩ (u:=.int .u32 ((num b a 4:Nat):Int)) (by show AV.int .u32 ((num (pad b) a 4:Nat):Int)=_;rw [Zc0 hl]) hk
 have q1:=n4 1
 have q5:=n4 5
 have q9:=n4 9
 have q13:=n1 13
 have h13:b.getD 13 0=num b 13 1:=(num1 b 13).symm
 have hh13:((bys b).drop (13*1))[0]?=some (.int .u8 ((num b 13 1:Nat):Int)):=by rw [← h13];exact Zbn (by omega)
 have hM:=fun (K:AV→St→Prop) (s:St) (hk:K (.bool (Zrk (num b 5 4:Nat) (num b 9 4:Nat) (num b 13 1:Nat))) s)=>ESc.fam (k:=K) (s:=s) supMF h156 ⟨(num b 1 4:Nat),(num b 5 4:Nat),(num b 9 4:Nat),(num b 13 1:Nat)⟩ ⟨by dsimp only;omega,by dsimp only;omega,by dsimp only;omega⟩ rfl hk
 have hK:=fun (K:AV→St→Prop) (s:St) (hk:K (fzB (Zeo (num b 1 4) (num b 5 4) (num b 9 4) (num b 13 1))) s)=>ESc.fam (k:=K) (s:=s) sblkF h157 ⟨num b 1 4,num b 5 4,num b 9 4,num b 13 1⟩ ⟨q1,q5,q9,q13⟩ rfl hk
 have hbk:=Zjx (num b 1 4) (num b 5 4) (num b 9 4) (num b 13 1)
 have hbl:=Zrj (num b 1 4) (num b 5 4) (num b 9 4) (num b 13 1)
 have hC:=(Zep ⟨hbk,hbl⟩).1
 have fin1:∀ s,Zrk (num b 5 4:Nat) (num b 9 4:Nat) (num b 13 1:Nat)=true→Zeo (num b 1 4) (num b 5 4) (num b 9 4) (num b 13 1)=b→Frz s (.tup [.agg [.int .u32 ((num b 1 4:Nat):Int),.int .u32 ((num b 5 4:Nat):Int),.int .u32 ((num b 9 4:Nat):Int),.int .i64 ((num b 13 1:Nat):Int)],.int .i64 0]) (rd10F.out ⟨u,b⟩):=fun s h1 h2=>fin s _ (by rw [h1,decide_eq_true h2];rfl)
 have fin0:∀ s,¬ (Zrk (num b 5 4:Nat) (num b 9 4:Nat) (num b 13 1:Nat)=true∧Zeo (num b 1 4) (num b 5 4) (num b 9 4) (num b 13 1)=b)→Frz s (.tup [.agg z4,.int .i64 90]) (rd10F.out ⟨u,b⟩):=fun s h=>fin s _ (by rw [if_neg];intro hh;rw [Bool.and_eq_true,decide_eq_true_eq] at hh;exact h hh)
 clear fin hq hO
 generalize rd10F.out ⟨u,b⟩=O at *
 generalize Zeo (num b 1 4) (num b 5 4) (num b 9 4) (num b 13 1)=C at *
 generalize Zrk (num b 5 4:Nat) (num b 9 4:Nat) (num b 13 1:Nat)=q at *
 show VW P e 0 code119 (Zax [u] 0 .lf) St0 none [] (Zfa [.cells 2 4,.tmp 3] _)
 conv=>whnf
 refine hsz _ _ ?_;conv=>whnf
 refine Zbp rfl ?_;conv=>whnf
 refine hw _ _ ?_;conv=>whnf
 refine Zae (i:=13) rfl hB rfl (by decide) ?_;conv=>whnf
 refine EHead.mk (v:=.int .u8 ((num b 13 1:Nat):Int)) hh13 ?_;conv=>whnf
 refine Zam (q':=.i64) (a:=((num b 13 1:Nat):Int)) rfl (i64_in (by omega)) ?_;conv=>whnf
 refine hnum 1 (by decide) _ _ ?_;conv=>whnf
 refine EHead.mk (v:=.int .u8 ((num b 13 1:Nat):Int)) hh13 ?_;conv=>whnf
 refine ⟨rfl,?_⟩;conv=>whnf
 refine hnum 5 (by decide) _ _ ?_;conv=>whnf
 refine EHead.mk (v:=.int .u8 ((num b 13 1:Nat):Int)) hh13 ?_;conv=>whnf
 refine ⟨rfl,?_⟩;conv=>whnf
 refine hnum 9 (by decide) _ _ ?_;conv=>whnf
 refine EHead.mk (v:=.int .u8 ((num b 13 1:Nat):Int)) hh13 ?_;conv=>whnf
 refine ⟨rfl,?_⟩;conv=>whnf
 refine hM _ _ ?_
 cases q
 ·conv=>whnf
  repeat' (first|(refine w13 rfl ?_;conv=>whnf)|fail)
  exact fin0 _ (fun h=>by cases h.1)
 ·conv=>whnf
  refine Zbp rfl ?_;conv=>whnf
  refine Zbd (bs:=b) rfl hB p1 ?_;conv=>whnf
  refine hK _ _ ?_;conv=>whnf
  refine Zbd (bs:=b) rfl hB p1 ?_;conv=>whnf
  refine ⟨rfl,?_⟩;conv=>whnf
  refine Zbd (bs:=C) rfl hC hbl ?_;conv=>whnf
  refine Zdb rfl rfl (fun h=>?_) (fun h=>?_)
  ·conv=>whnf
   skip
   exact fin0 _ (fun h'=>h h'.2)
  ·conv=>whnf
   skip
   exact fin1 _ rfl h
structure CK.in (x:CK):Prop where
 ok:x.ok
 k:Zhp x.d=true
def firF:Fam CK:=⟨CK.in,CK.args,fun x=>.tup [.agg (if Zws x.c (Zcy x.d)=true then Zpa (Zcy x.d) else z4),.bool (Zws x.c (Zcy x.d))],fun x y hx hy h=>by rw [CK.inja hx.ok hy.ok h]⟩
def code75:AC:=match a75 with|.mk c _=>c
theorem firF_ok {P:Program}{e:Env}{fn:Func}(hE:EnvOk P e) (hm:P.follows .mixedOrders=true) (h120:Con e 120 seenF.O) (h119:Con e 119 rd10F.O) (hf:P.funcs[75]?=some fn) (hc:Zaj P fn=some a75) (hb:Zaf P 75):OvOk P 75 firF.O:=by
 refine Zal hb fun x hx=>?_
 obtain ⟨hx,hk⟩:=hx
 have hO:AM.hf (firF.out x)=true:=by
  show (AM.hf (.agg (if Zws x.c (Zcy x.d)=true then Zpa (Zcy x.d) else z4)) && (true && true))=true
  split <;> rfl
 refine ⟨CK.hfa hx,hO,C.of_V hE hm hf hc ?_⟩
 have fin:∀ s w,w=firF.out x→Frz s w (firF.out x):=by rintro s w rfl;exact .plain _ hO
 have hk1:=((Ziv x.d).1 hk).1.1
 obtain ⟨b1,b2⟩:=Zu0 hx.d hk (p:=0) (by omega)
 have l1:(Zcy x.d).length=128:=Zcn b1
 have p1:∀ y ∈ Zcy x.d,y<256:=Zf9 b2
 have hS:=fun (K:AV→St→Prop) (s:St) (h:K (fzB (Zcy x.d)) s)=>ESc.fam (k:=K) (s:=s) seenF h120 ⟨x.d,0⟩ ⟨hx.d,hk,by dsimp only;omega⟩ (u:=fzB (Zcy x.d)) rfl h
 have hR:=fun (K:AV→St→Prop) (s:St) (h:K (Zry (Zcy x.d)) s)=>ESc.fam (k:=K) (s:=s) rd10F h119 ⟨fzB (Zcy x.d),Zcy x.d⟩ ⟨Zep ⟨l1,p1⟩,l1⟩ (u:=Zry (Zcy x.d)) rfl h
 have hwl:=hx.d.a.wl
 have hbl:=hx.d.a.bl
 have hlg:=hx.c.log
 have hidb:=hx.c.id
 clear hb
 change ∀ s w,w=AV.tup [.agg (if Zws x.c (Zcy x.d)=true then Zpa (Zcy x.d) else z4),.bool (Zws x.c (Zcy x.d))]→Frz s w (firF.out x) at fin
 generalize firF.out x=O at *
 unfold Zws at fin
 unfold Zry at hR
 obtain ⟨c,d⟩:=x
 obtain ⟨id,mb,ch,rw',lg,hdd⟩:=c
 obtain ⟨bv,us,bs,wv,ws,dd⟩:=d
 dsimp only at hwl hbl hlg hidb fin
 have hdf:hfs [bv,wv,.bool dd]=true:=by
  show (AM.hf bv && (AM.hf wv && (true && true)))=true
  rw [show AM.hf bv=true from hbl.hf,show AM.hf wv=true from hwl.hf];rfl
 generalize Zcy ⟨bv,us,bs,wv,ws,dd⟩=B at *
 obtain ⟨⟨si,sa,sq,st⟩,hQ⟩:∃ q,q=Zcl B:=⟨_,rfl⟩
 unfold Zpa at fin hR
 rw [← hQ] at fin hR
 dsimp only at fin hR
 generalize Yel B=G at *
 unfold Zc4 at hlg
 show VW P e 0 code75 (Zax [.agg [.int .u32 id,.int .i64 mb,.int .i64 ch,.int .i64 rw',.int .i64 lg,.int .i64 hdd],.agg [bv,wv,.bool dd]] 0 .lf) St0 none [] (Zfa [.cells 4 4,.tmp 5] _)
 have hS:∀ (K:AV→St→Prop) (s:St),K (fzB B) s→ESc e 120 [.agg [bv,wv,.bool dd],.int .i64 0] s K:=hS
 conv=>whnf
 refine hS _ _ ?_;conv=>whnf
 refine hR _ _ ?_
 cases G
 ·conv=>whnf
  repeat' (first|((refine w6 rfl rfl ?_ ?_) <;> intro _ <;> first|(exfalso;omega)|(conv=>whnf))|fail)
  exact fin _ _ rfl
 ·conv=>whnf
  refine Zas (a:=0) (b:=0) rfl rfl (fun h=>absurd rfl h) (fun _=>?_);conv=>whnf
  refine Zas (a:=(si:Int)) (b:=id) rfl rfl (fun h1=>?_) (fun h1=>?_)
  ·conv=>whnf
   skip
   exact fin _ _ (by rw [decide_eq_false h1];rfl)
  ·rw [decide_eq_true h1] at fin
   conv=>whnf
   refine Zbj (a:=(st:Int)) (b:=lg) rfl rfl (fun h2=>?_) (fun h2=>?_)
   ·rw [decide_eq_false (by omega)] at fin
    conv=>whnf
    skip
    exact fin _ _ rfl
   ·rw [decide_eq_true (by omega)] at fin
    conv=>whnf
    skip
    exact fin _ _ rfl
end Go.AM
set_option maxRecDepth 100000
namespace Go.AM
attribute [local irreducible] W
open X
def Yiy:AC:=match a76 with|.mk c _=>c
def tlDl (u:Nat) (L:List Fd):List (Nat×AV):=[(3,.ptr 0 0),(4,.ptr 1 0),(5,.ptr 2 0),(7,slA 3 L),(8,.int .i64 (u:Int))]
def osDl (C D S:List AV):List Fd→List AObj
 | []=>[.row 24 C,.row 28 D,.row 46 S]
 | f::L=>[.row 24 C,.row 28 D,.row 46 S,.row 36 (Zf0 (f::L))]
theorem Zv8 {C D S:List AV}(L:List Fd) (f:Fd):osDl C D S (L++[f])=[.row 24 C,.row 28 D,.row 46 S,.row 36 (Zf0 L++f.c)]:=by
 rw [← Zit]
 cases L <;> rfl
theorem Zvp (u:Nat) (L:List Fd) (f:Fd):tlDl u (L++[f])=[(3,.ptr 0 0),(4,.ptr 1 0),(5,.ptr 2 0),(7,.sl 3 0 (L.length+1) none),(8,.int .i64 (u:Int))]:=by
 unfold tlDl
 cases L with
 | nil=>rfl
 | cons q L=>show [_,_,_,(7,AV.sl 3 0 ((L++[f]).length+1) none),_]=_;rw [List.length_append];rfl
theorem Zyv {P:Program}{e:Env}(hE:EnvOk P e) (hm:P.follows .mixedOrders=true) {id mb ch rw' lg hdd:Int}{bv wv:AV}{dd:Bool}(hdf:hfs [bv,wv,.bool dd]=true) {si ag sq tl:Int}{m:Nat}(hlg:lg=(m:Int)) (hm255:12≤m∧m≤255) (htl:0≤tl∧tl<lg) (hag:Zgi ag) (hsq:1≤sq∧sq≤2147483648)
 (rd:Nat→Option Fd) (hrd:∀ u,u<m→(rd u=none→∀ (s:St) (K:AV→St→Prop),K stNo s→ESc e 70 [.agg [.int .u32 id,.int .i64 mb,.int .i64 ch,.int .i64 rw',.int .i64 lg,.int .i64 hdd],.agg [bv,wv,.bool dd],.int .i64 ((tl+(u:Int)) % lg)] s K)∧
   (∀ f,rd u=some f→f.n.recs.length≤17∧Zgi f.n.age∧Zgi f.n.seq∧∀ (s:St) (K:AV→St→Prop),K (.tup [.agg f.c,.int .i64 (1+(f.n.recs.length:Int))]) s→ESc e 70 [.agg [.int .u32 id,.int .i64 mb,.int .i64 ch,.int .i64 rw',.int .i64 lg,.int .i64 hdd],.agg [bv,wv,.bool dd],.int .i64 ((tl+(u:Int)) % lg)] s K))
 {K:AV→St→Prop}(hk:∀ s L,scL rd m ag sq 0 0=L→(∀ f M,L=f::M→s.get 3=some (.row 36 (Zf0 L)))→K (slA 3 L) s):
 VW P e 0 Yiy (Zax [.agg [.int .u32 id,.int .i64 mb,.int .i64 ch,.int .i64 rw',.int .i64 lg,.int .i64 hdd],.agg [bv,wv,.bool dd],.agg [.int .u32 si,.int .u32 ag,.int .u32 sq,.int .i64 tl]] 0 .lf) St0 none [] (Zfa [.tmp 6] K):=by
 conv=>whnf
 refine Zbo (α:=Nat×List Fd) (fun x=>tlDl x.1 x.2) (fun x=>osDl [.int .u32 id,.int .i64 mb,.int .i64 ch,.int .i64 rw',.int .i64 lg,.int .i64 hdd] [bv,wv,.bool dd] [.int .u32 si,.int .u32 ag,.int .u32 sq,.int .i64 tl] x.2) (fun x=>m-x.1)
  (fun x=>x.1≤m∧x.2.length≤x.1∧scL rd m ag sq 0 0=x.2++scL rd m ag sq x.1 x.2.length) (0,[]) ⟨Nat.zero_le _,Nat.le_refl _,rfl⟩
  (Abs.tells (rs:=[0,1,2]) ⟨by decide,⟨⟨rfl,rfl⟩,⟨rfl,rfl⟩,⟨rfl,rfl⟩,⟨rfl,rfl⟩,⟨rfl,rfl⟩,trivial⟩,⟨⟨rfl,rfl⟩,⟨Za6 hdf,by rw [Zac hdf];rfl⟩,⟨rfl,rfl⟩,trivial⟩⟩) ?_
 rintro ⟨u,L⟩ ⟨hu,hl,hI⟩
 dsimp only at hu hl hI ⊢
 refine Zap hE hm ?_
 unfold Zgi at hag
 by_cases hlt:u<m
 ·have h00:0≤(tl+(u:Int)) % lg:=Int.emod_nonneg _ (by omega)
  have h01:(tl+(u:Int)) % lg<lg:=Int.emod_lt_of_pos _ (by omega)
  obtain ⟨hr0,hr1⟩:=hrd u hlt
  rcases L with _|⟨q,L⟩
  ·conv=>whnf
   refine Zab (a:=(u:Int)) (b:=lg) rfl rfl (fun _=>?_) (fun h=>by omega);conv=>whnf
   refine Zah (a:=tl) (b:=(u:Int)) rfl rfl (by omega) ?_;conv=>whnf
   refine Zdk (a:=tl+(u:Int)) (b:=lg) rfl rfl (by omega) ?_;conv=>whnf
   cases hru:rd u with
   | none=>
    have hcall:=hr0 hru
    clear hr1 hr0 hrd
    refine hcall _ _ ?_;conv=>whnf
    repeat' (first|((refine w5 rfl rfl ?_ ?_) <;> intro _ <;> first|(exfalso;omega)|(conv=>whnf))|fail)
    refine hk _ (([]:List Fd)) (hI.trans (by rw [Zmh hru,List.append_nil])) (fun f M h=>by first|rfl|cases h)
   | some f=>
    obtain ⟨hf17,hfa,hfs',hcall⟩:=hr1 f hru
    clear hr1 hr0 hrd
    have hno:¬ (u+f.n.recs.length+1≤m∧f.n.seq=(sq+((0:Nat):Int)) % 4294967296∧f.n.age=ag)→scL rd m ag sq u (([]:List Fd)).length=[]:=fun h=>Zvu (i:=0) hru h
    have hyes:(u+f.n.recs.length+1≤m∧f.n.seq=(sq+((0:Nat):Int)) % 4294967296∧f.n.age=ag)→scL rd m ag sq u (([]:List Fd)).length=f::scL rd m ag sq (u+f.n.recs.length+1) ((([]:List Fd)).length+1):=fun h=>Zp9 (i:=0) hru hlt h
    have hmod:(sq+((0:Nat):Int)) % 4294967296=sq+((0:Nat):Int):=by (try simp only [List.length_nil,List.length_cons] at hl);omega
    rw [hmod] at hno hyes
    have hff:=Zjj ((([]:List Fd))++[f])
    rw [Zit] at hff
    refine hcall _ _ ?_
    unfold Zgi at hfa hfs'
    conv=>whnf
    refine Za7 (a:=1+(f.n.recs.length:Int)) (b:=0) rfl rfl (fun h=>by omega) (fun _=>?_);conv=>whnf
    refine Zah (a:=(u:Int)) (b:=1+(f.n.recs.length:Int)) rfl rfl (by omega) ?_;conv=>whnf
    refine Zb5 (a:=(u:Int)+(1+(f.n.recs.length:Int))) (b:=lg) rfl rfl (fun hgt=>?_) (fun hle=>?_)
    ·conv=>whnf
     skip
     refine hk _ (([]:List Fd)) (hI.trans (by rw [hno (by omega),List.append_nil])) (fun f M h=>by first|rfl|cases h)
    conv=>whnf
    refine Zam (q':=.i64) (a:=f.n.seq) rfl (i64_in (by omega)) ?_;conv=>whnf
    refine Zam (q':=.i64) (a:=sq) rfl (i64_in (by omega)) ?_;conv=>whnf
    refine Zig rfl ?_;conv=>whnf
    refine Zah (a:=sq) (b:=((0:Nat):Int)) rfl rfl (by (try simp only [List.length_nil,List.length_cons] at hl);omega) ?_;conv=>whnf
    refine Zas (a:=f.n.seq) (b:=sq+((0:Nat):Int)) rfl rfl (fun hne=>?_) (fun heq=>?_)
    ·conv=>whnf
     skip
     refine hk _ (([]:List Fd)) (hI.trans (by rw [hno (fun h=>hne h.2.1),List.append_nil])) (fun f M h=>by first|rfl|cases h)
    conv=>whnf
    refine Zas (a:=f.n.age) (b:=ag) rfl rfl (fun hne=>?_) (fun heq2=>?_)
    ·conv=>whnf
     skip
     refine hk _ (([]:List Fd)) (hI.trans (by rw [hno (fun h=>hne h.2.2),List.append_nil])) (fun f M h=>by first|rfl|cases h)
    conv=>whnf
    (refine Zbb (m:=1) rfl rfl rfl rfl (by decide) (by decide) ?_;conv=>whnf)
    repeat' (first|((first|refine w7 rfl rfl (by omega) ?_|refine ⟨rfl,?_⟩);conv=>whnf)|fail)
    have hY:=hyes ⟨by omega,heq,heq2⟩
    refine ⟨(u+f.n.recs.length+1,([]:List Fd)++[f]),⟨by dsimp only;omega,by dsimp only;rw [List.length_append];show (([]:List Fd)).length+1≤_;simp only [List.length_cons,List.length_nil] at hl ⊢;omega,?_⟩,by show m-(u+f.n.recs.length+1)<m-u;omega,?_⟩
    ·dsimp only
     rw [hI,hY,List.append_assoc,List.length_append];rfl
    ·dsimp only
     rw [Zv8,Zvp,show ((u+f.n.recs.length+1:Nat):Int)=(u:Int)+(1+(f.n.recs.length:Int)) by omega]
     exact Abs.tells (rs:=[0,1,2,5]) ⟨by decide,⟨⟨rfl,rfl⟩,⟨rfl,rfl⟩,⟨rfl,rfl⟩,⟨rfl,rfl⟩,⟨rfl,rfl⟩,trivial⟩,⟨⟨rfl,rfl⟩,⟨Za6 hdf,by rw [Zac hdf];rfl⟩,⟨rfl,rfl⟩,⟨Za6 hff,by rw [Zac hff];rfl⟩,trivial⟩⟩
  ·rw [List.length_cons] at hl
   conv=>whnf
   refine Zab (a:=(u:Int)) (b:=lg) rfl rfl (fun _=>?_) (fun h=>by omega);conv=>whnf
   refine Zah (a:=tl) (b:=(u:Int)) rfl rfl (by omega) ?_;conv=>whnf
   refine Zdk (a:=tl+(u:Int)) (b:=lg) rfl rfl (by omega) ?_;conv=>whnf
   cases hru:rd u with
   | none=>
    have hcall:=hr0 hru
    clear hr1 hr0 hrd
    refine hcall _ _ ?_;conv=>whnf
    repeat' (first|((refine w5 rfl rfl ?_ ?_) <;> intro _ <;> first|(exfalso;omega)|(conv=>whnf))|fail)
    refine hk _ ((q::L)) (hI.trans (by rw [Zmh hru,List.append_nil])) (fun f M h=>by first|rfl|cases h)
   | some f=>
    obtain ⟨hf17,hfa,hfs',hcall⟩:=hr1 f hru
    clear hr1 hr0 hrd
    have hno:¬ (u+f.n.recs.length+1≤m∧f.n.seq=(sq+((L.length+1:Nat):Int)) % 4294967296∧f.n.age=ag)→scL rd m ag sq u ((q::L)).length=[]:=fun h=>Zvu (i:=L.length+1) hru h
    have hyes:(u+f.n.recs.length+1≤m∧f.n.seq=(sq+((L.length+1:Nat):Int)) % 4294967296∧f.n.age=ag)→scL rd m ag sq u ((q::L)).length=f::scL rd m ag sq (u+f.n.recs.length+1) (((q::L)).length+1):=fun h=>Zp9 (i:=L.length+1) hru hlt h
    have hmod:(sq+((L.length+1:Nat):Int)) % 4294967296=sq+((L.length+1:Nat):Int):=by (try simp only [List.length_nil,List.length_cons] at hl);omega
    rw [hmod] at hno hyes
    have hff:=Zjj (((q::L))++[f])
    rw [Zit] at hff
    refine hcall _ _ ?_
    unfold Zgi at hfa hfs'
    conv=>whnf
    refine Za7 (a:=1+(f.n.recs.length:Int)) (b:=0) rfl rfl (fun h=>by omega) (fun _=>?_);conv=>whnf
    refine Zah (a:=(u:Int)) (b:=1+(f.n.recs.length:Int)) rfl rfl (by omega) ?_;conv=>whnf
    refine Zb5 (a:=(u:Int)+(1+(f.n.recs.length:Int))) (b:=lg) rfl rfl (fun hgt=>?_) (fun hle=>?_)
    ·conv=>whnf
     skip
     refine hk _ ((q::L)) (hI.trans (by rw [hno (by omega),List.append_nil])) (fun f M h=>by first|rfl|cases h)
    conv=>whnf
    refine Zam (q':=.i64) (a:=f.n.seq) rfl (i64_in (by omega)) ?_;conv=>whnf
    refine Zam (q':=.i64) (a:=sq) rfl (i64_in (by omega)) ?_;conv=>whnf
    refine Ze0 rfl ?_;conv=>whnf
    refine Zah (a:=sq) (b:=((L.length+1:Nat):Int)) rfl rfl (by (try simp only [List.length_nil,List.length_cons] at hl);omega) ?_;conv=>whnf
    refine Zas (a:=f.n.seq) (b:=sq+((L.length+1:Nat):Int)) rfl rfl (fun hne=>?_) (fun heq=>?_)
    ·conv=>whnf
     skip
     refine hk _ ((q::L)) (hI.trans (by rw [hno (fun h=>hne h.2.1),List.append_nil])) (fun f M h=>by first|rfl|cases h)
    conv=>whnf
    refine Zas (a:=f.n.age) (b:=ag) rfl rfl (fun hne=>?_) (fun heq2=>?_)
    ·conv=>whnf
     skip
     refine hk _ ((q::L)) (hI.trans (by rw [hno (fun h=>hne h.2.2),List.append_nil])) (fun f M h=>by first|rfl|cases h)
    conv=>whnf
    (refine Zb6 (m:=1) rfl rfl rfl rfl (Zfv _) rfl (by decide) (by simp;omega) ?_;conv=>whnf)
    repeat' (first|((first|refine w7 rfl rfl (by omega) ?_|refine ⟨rfl,?_⟩);conv=>whnf)|fail)
    have hY:=hyes ⟨by omega,heq,heq2⟩
    refine ⟨(u+f.n.recs.length+1,(q::L)++[f]),⟨by dsimp only;omega,by dsimp only;rw [List.length_append];show ((q::L)).length+1≤_;simp only [List.length_cons,List.length_nil] at hl ⊢;omega,?_⟩,by show m-(u+f.n.recs.length+1)<m-u;omega,?_⟩
    ·dsimp only
     rw [hI,hY,List.append_assoc,List.length_append];rfl
    ·dsimp only
     rw [Zv8,Zvp,show ((u+f.n.recs.length+1:Nat):Int)=(u:Int)+(1+(f.n.recs.length:Int)) by omega]
     exact Abs.tells (rs:=[0,1,2,6]) ⟨by decide,⟨⟨rfl,rfl⟩,⟨rfl,rfl⟩,⟨rfl,rfl⟩,⟨rfl,rfl⟩,⟨rfl,rfl⟩,trivial⟩,⟨⟨rfl,rfl⟩,⟨Za6 hdf,by rw [Zac hdf];rfl⟩,⟨rfl,rfl⟩,⟨Za6 hff,by rw [Zac hff];rfl⟩,trivial⟩⟩
 ·have hs:=Yai (rd:=rd) (ag:=ag) (sq:=sq) (i:=L.length) hlt
  rw [hs,List.append_nil] at hI
  rcases L with _|⟨q,L⟩
  ·conv=>whnf
   refine Zab (a:=(u:Int)) (b:=lg) rfl rfl (fun _=>by omega) (fun h=>?_);conv=>whnf
   skip
   exact hk _ [] hI (fun f M h=>by cases h)
  ·conv=>whnf
   refine Zab (a:=(u:Int)) (b:=lg) rfl rfl (fun _=>by omega) (fun h=>?_);conv=>whnf
   skip
   exact hk _ (q::L) hI (fun f M h=>rfl)
theorem Zzy {P:Program}{s:St}{r:Nat}:∀ {L:List Fd},(∀ f M,L=f::M→s.get r=some (.row 36 (Zf0 L)))→Tells P 0 (ofL [(0,slA r L)]) s [] (ofL [(0,lsV L)]) (Zai St0 []) []
 | [],_=>Abs.tells (tl:=[(0,.nils)]) (os:=[]) (rs:=[]) ⟨by decide,⟨⟨rfl,rfl⟩,trivial⟩,trivial⟩
 | f::L,h=>by
  have hff:=Zjj (f::L)
  exact AbsK.frn (k:=0) (n:=0) (e:=36) (cs:=Zf0 (f::L)) (tl:=[(0,.sl 0 0 (L.length+1) none)]) (tl2:=[(0,.fz (L.length+1) (some 0) (Zf0 (f::L)))]) (os:=[]) (os2:=[]) (rs:=[r]) ⟨rfl,by simp,⟨⟨rfl,rfl⟩,trivial⟩,⟨⟨Za6 hff,by rw [Zac hff];exact h f L rfl⟩,trivial⟩⟩ rfl hff rfl rfl rfl rfl rfl rfl
structure CK.gd (x:CK):Prop where
 ok:x.ok
 e:Zlc x=0
def delF:Fam CK:=⟨CK.gd,fun x=>[x.c.v,x.d.v,.agg (Zpa (Zcy x.d))],fun x=>lsV (Zo4 x),fun x y hx hy h=>by
 have h1:=(List.cons.inj h).1
 have h2:=(List.cons.inj (List.cons.inj h).2).1
 rw [CK.inja hx.ok hy.ok (show x.args=y.args by unfold CK.args;rw [h1,h2])]⟩
theorem delF_ok {P:Program}{e:Env}{fn:Func}(hE:EnvOk P e) (hm:P.follows .mixedOrders=true) (h70:Con e 70 stdF.O) (hf:P.funcs[76]?=some fn) (hc:Zaj P fn=some a76) (hb:Zaf P 76):OvOk P 76 delF.O:=by
 refine Zal hb fun x hx=>?_
 obtain ⟨hx,h0⟩:=hx
 have hdf:=Zp0 hx.d.a.wl hx.d.a.bl (d:=x.d.dead)
 obtain ⟨q1,q2,q3,q4,q5⟩:=fst0 h0
 obtain ⟨g1,g2,g3,g4,g5,g6⟩:=Ycl q5
 have hlg:=Zdc q1
 have hlg2:x.c.log≤255:=by unfold Cfg.may at q1;omega
 have hst:∀ u:Nat,CDA.st ⟨x.c,x.d,(Zgj (Zcy x.d)+(u:Int)) % x.c.log⟩:=fun u=>by
  have h1:=Int.emod_nonneg (Zgj (Zcy x.d)+(u:Int)) (b:=x.c.log) (by omega)
  have h2:=Int.emod_lt_of_pos (Zgj (Zcy x.d)+(u:Int)) (b:=x.c.log) (by omega)
  refine ⟨⟨hx.c,hx.d,by unfold Zc4;dsimp only;omega⟩,?_⟩
  unfold Zib
  rw [if_pos q1,if_pos ⟨q2,q3⟩,if_pos ⟨h1,h2⟩,q4];rfl
 have hcall:=fun (u:Nat) (s:St) (K:AV→St→Prop) (hk:K (Zm1 ⟨x.c,x.d,(Zgj (Zcy x.d)+(u:Int)) % x.c.log⟩) s)=>ESc.fam (k:=K) (s:=s) stdF h70 _ (hst u) rfl hk
 have hfd:=fun (u:Nat) (f:Fd) (h:rdF ⟨x.c,x.d,(Zgj (Zcy x.d)+(u:Int)) % x.c.log⟩=some f)=>And.intro (Zik h).recs ((Zik h).u32 (hst u).ok)
 refine ⟨by show (AM.hf x.c.v && (AM.hf x.d.v && (true && true)))=true;rw [DK.hf hx.d.a];rfl,Znt _,?_⟩
 refine (C.tells (v2:=lsV (Zo4 x)) (s2:=Zai St0 []) (Q:=fun v s=>∃ L,Zo4 x=L∧v=slA 3 L∧∀ f M,L=f::M→s.get 3=some (.row 36 (Zf0 L))) (C.of_V hE hm hf hc ?_) ?_).mono (fun v s h=>by rw [h.1];exact .plain _ (Znt _))
 rotate_left
 ·rintro v s ⟨L,hL,rfl,hr⟩
  rw [hL]
  exact Zzy hr
 have hout:∀ (s:St) L,Zo4 x=L→(∀ f M,L=f::M→s.get 3=some (.row 36 (Zf0 L)))→∃ L',Zo4 x=L'∧slA 3 L=slA 3 L'∧∀ f M,L'=f::M→s.get 3=some (.row 36 (Zf0 L')):=fun s L hL h=>⟨L,hL,rfl,h⟩
 have hua:Zgi (Zp5 (Zcy x.d)):=by unfold Zgi;omega
 unfold Zo4 at hout
 show VW P e 0 Yiy (Zax [x.c.v,x.d.v,.agg (Zpa (Zcy x.d))] 0 .lf) St0 none [] (Zfa [.tmp 6] (fun v s=>∃ L,scL _ _ _ _ _ _=L∧v=slA 3 L∧∀ f M,L=f::M→s.get 3=some (.row 36 (Zf0 L))))
 have hsS:Zpa (Zcy x.d)=[.int .u32 ((Zcl (Zcy x.d)).1:Int),.int .u32 (Zp5 (Zcy x.d)),.int .u32 (Zri (Zcy x.d)),.int .i64 (Zgj (Zcy x.d))]:=rfl
 rw [hsS]
 obtain ⟨c,d⟩:=x
 obtain ⟨id,mb,ch,rw',lg,hdd⟩:=c
 obtain ⟨bv,us,bs,wv,ws,dd⟩:=d
 dsimp only at hdf hlg hlg2 g5 g6 hcall hfd hout g4 hua ⊢
 exact Zyv (P:=P) (e:=e) hE hm hdf (m:=lg.toNat) (by omega) (by omega) ⟨g5,g6⟩ hua g4 (fun u=>rdF ⟨⟨id,mb,ch,rw',lg,hdd⟩,⟨bv,us,bs,wv,ws,dd⟩,(Zgj (Zcy ⟨bv,us,bs,wv,ws,dd⟩)+(u:Int)) % lg⟩)
  (fun u _=>⟨fun h s K hk=>hcall u s K (by unfold Zm1;rw [h];exact hk),fun f h=>⟨(hfd u f h).1,(hfd u f h).2.1,(hfd u f h).2.2,fun s K hk=>hcall u s K (by unfold Zm1;rw [h];exact hk)⟩⟩) hout
end Go.AM
set_option maxRecDepth 100000
namespace Go.AM
attribute [local irreducible] W
open X
def Yc4:AC:=match a28 with|.mk c _=>c
theorem Yfx {P:Program}{e:Env}{fn:Func}(hE:EnvOk P e) (hm:P.follows .mixedOrders=true) (h68:Con e 68 mayRF.O) (h69:Con e 69 jnlF.O) (h75:Con e 75 firF.O) (h76:Con e 76 delF.O) (hf:P.funcs[28]?=some fn) (hc:Zaj P fn=some a28) (hb:Zaf P 28):OvOk P 28 allF.O:=by
 refine Zal hb fun x hx=>?_
 refine ⟨CK.hfa hx,Znu x,C.of_V hE hm hf hc ?_⟩
 have hdf:=Zp0 hx.d.a.wl hx.d.a.bl (d:=x.d.dead)
 have hM:=fun (K:AV→St→Prop) (s:St) (h:K (.bool (decide x.c.may)) s)=>ESc.fam (k:=K) (s:=s) mayRF h68 x.c hx.c rfl h
 have hJ:=fun (hc':x.c.may) (K:AV→St→Prop) (s:St) (h:K (.bool (jnlB ⟨x.c,x.d⟩)) s)=>ESc.fam (k:=K) (s:=s) jnlF h69 ⟨x.c,x.d⟩ ⟨hx.c,hx.d,by have:=Zdc hc';dsimp only;unfold Cfg.may at hc';omega⟩ rfl h
 have hF:=fun (hd:Zhp x.d=true) (K:AV→St→Prop) (s:St) (h:K (.tup [.agg (if Zws x.c (Zcy x.d)=true then Zpa (Zcy x.d) else z4),.bool (Zws x.c (Zcy x.d))]) s)=>ESc.fam (k:=K) (s:=s) firF h75 x ⟨hx,hd⟩ rfl h
 have hL:Zlc x=0→∀ (K:AV→St→Prop) (s:St),K (lsV (Zo4 x)) s→ESc e 76 [x.c.v,x.d.v,.agg (Zpa (Zcy x.d))] s K:=fun (h0:Zlc x=0) (K:AV→St→Prop) (s:St) (h:K (lsV (Zo4 x)) s)=>ESc.fam (k:=K) (s:=s) delF h76 x ⟨hx,h0⟩ rfl h
 have fin0:Zlc x=0→∀ s,Frz s (.tup [.agg (Zpa (Zcy x.d)),lsV (Zo4 x),.int .i64 0]) (allF.out x):=fun h0 s=>by
  show Frz s _ (Zdn x)
  unfold Zdn
  rw [if_pos h0]
  refine .plain _ ?_
  show (true && (AM.hf (lsV _) && (true && true)))=true
  rw [Znt];rfl
 have fin1:∀ n,Zlc x=n→n≠0→∀ s,Frz s (.tup [.agg z4,.nils,.int .i64 n]) (allF.out x):=fun n h0 hn s=>by
  show Frz s _ (Zdn x)
  unfold Zdn
  rw [if_neg (by rw [h0];exact hn),h0]
  exact .plain _ rfl
 generalize allF.out x=O at *
 generalize Zo4 x=L at *
 unfold Zlc at fin0 fin1 hL
 unfold jnlB at hJ
 have hlf:=Znt L
 generalize lsV L=V at *
 unfold Zpa at hF hL fin0
 dsimp only at hJ
 generalize Zws x.c (Zcy x.d)=G at *
 generalize Zcl (Zcy x.d)=q at *
 obtain ⟨si,sa,sq,st⟩:=q
 obtain ⟨c,d⟩:=x
 dsimp only at hM hJ hF hL fin0 fin1
 obtain ⟨D,hD⟩:∃ D,D=Zhp d:=⟨_,rfl⟩
 rw [← hD] at hJ hF hL fin0 fin1
 obtain ⟨M,hMd⟩:∃ M,M=decide c.may:=⟨_,rfl⟩
 rw [← hMd] at hM
 by_cases hmay:c.may
 ·rw [decide_eq_true hmay] at hMd
  subst hMd
  rw [if_pos hmay] at fin0 fin1 hL
  have hJ:=hJ hmay
  obtain ⟨J,hJe⟩:∃ J,J=(D && decide ((d.us.length:Int)=c.log+1)):=⟨_,rfl⟩
  rw [← hJe] at hJ
  cases J
  ·have hn:¬ (D=true∧(d.us.length:Int)=c.log+1):=fun h=>by
    rw [h.1,decide_eq_true h.2] at hJe;cases hJe
   rw [if_neg hn] at fin1
   clear hJe hD hmay fin0 hF hL
   obtain ⟨id,mb,ch,rw',lg,hdd⟩:=c
   obtain ⟨bv,us,bs,wv,ws,dd⟩:=d
   dsimp only at hdf
   show VW P e 0 Yc4 (Zax [.agg [.int .u32 id,.int .i64 mb,.int .i64 ch,.int .i64 rw',.int .i64 lg,.int .i64 hdd],.agg [bv,wv,.bool dd]] 0 .lf) St0 none [] _
   conv=>whnf
   refine hM _ _ ?_;conv=>whnf
   refine Zbp rfl ?_;conv=>whnf
   refine hJ _ _ ?_;conv=>whnf
   repeat' (first|(refine w13 rfl ?_;conv=>whnf)|fail)
   exact fin1 8 rfl (by decide) _
  ·have hp:D=true∧(d.us.length:Int)=c.log+1:=by
    cases D
    ·cases hJe
    ·exact ⟨rfl,of_decide_eq_true (by simpa using hJe.symm)⟩
   rw [if_pos hp] at fin0 fin1 hL
   have hF:=hF hp.1
   clear hJe hD hmay hp
   obtain ⟨id,mb,ch,rw',lg,hdd⟩:=c
   obtain ⟨bv,us,bs,wv,ws,dd⟩:=d
   dsimp only at hdf fin0 fin1 hL
   show VW P e 0 Yc4 (Zax [.agg [.int .u32 id,.int .i64 mb,.int .i64 ch,.int .i64 rw',.int .i64 lg,.int .i64 hdd],.agg [bv,wv,.bool dd]] 0 .lf) St0 none [] _
   conv=>whnf
   refine hM _ _ ?_;conv=>whnf
   refine Zbp rfl ?_;conv=>whnf
   refine hJ _ _ ?_;conv=>whnf
   refine Zbp rfl ?_;conv=>whnf
   cases dd
   ·rw [if_neg (by decide)] at fin0 fin1 hL
    conv=>whnf
    refine hF _ _ ?_
    cases G
    ·conv=>whnf
     repeat' (first|(refine w13 rfl ?_;conv=>whnf)|fail)
     exact fin1 90 rfl (by decide) _
    ·conv=>whnf
     refine Zbp rfl ?_;conv=>whnf
     refine hL rfl _ _ ?_;conv=>whnf
     repeat' (first|(refine ⟨rfl,?_⟩;conv=>whnf)|fail)
     exact fin0 rfl _
   ·conv=>whnf
    skip
    exact fin1 40 rfl (by decide) _
 ·rw [decide_eq_false hmay] at hMd
  subst hMd
  rw [if_neg hmay] at fin1
  clear hJ hF hL hD hmay fin0
  obtain ⟨id,mb,ch,rw',lg,hdd⟩:=c
  obtain ⟨bv,us,bs,wv,ws,dd⟩:=d
  dsimp only at hdf
  show VW P e 0 Yc4 (Zax [.agg [.int .u32 id,.int .i64 mb,.int .i64 ch,.int .i64 rw',.int .i64 lg,.int .i64 hdd],.agg [bv,wv,.bool dd]] 0 .lf) St0 none [] _
  conv=>whnf
  refine hM _ _ ?_;conv=>whnf
  repeat' (first|(refine w13 rfl ?_;conv=>whnf)|fail)
  exact fin1 8 rfl (by decide) _
end Go.AM
