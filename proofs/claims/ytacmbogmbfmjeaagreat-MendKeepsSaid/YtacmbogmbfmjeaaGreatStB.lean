/-
 Functions of the program as the abstract machine reads them, and what is stated of them, checked by the kernel. No conditions.
-/
import Derived.Test.YtacmbogmbfmjeaaGreatStA
import Derived.Test.YtacmbogmbfmjeaaGreatAM5
set_option linter.unusedVariables false
set_option linter.unusedSimpArgs false
set_option linter.unnecessarySimpa false
set_option maxRecDepth 100000
namespace Go.AM
attribute [local irreducible] W
open X
theorem Q2 {α:Type}(F:Fam α) {x:α}(hx:F.ok x) (s:St):F.O (F.enc x) s=.ok (F.out x) s:=by
 have h:∃ u,∃ y,F.ok y∧F.enc x=F.enc y∧u=F.out y:=⟨_,x,hx,rfl,rfl⟩
 unfold Fam.O Ag
 rw [dif_pos h]
 obtain ⟨y,hy,e,hu⟩:=Zro h
 rw [hu,F.inj x y hx hy e]
theorem Zfy {α:Type}(F:Fam α) {args:List AV}(h:∀ x,F.ok x→args≠F.enc x) (s:St):F.O args s=.fail:=by
 unfold Fam.O Ag
 rw [dif_neg]
 rintro ⟨u,y,hy,e,_⟩
 exact h y hy e
def E9 (n:Nat):Bool:=decide (0<n)
noncomputable def I1:Ov:=Ge (Jj AQ 92).O (Jj E9 95).O
variable {s:St}{K:AV→St→Prop}
theorem Zfe {e:Env}(h:Con e 142 I1) {x:BL}(hx:x.ok) (hk:K (.int .i64 (DU AQ x.ns 0)) s):ESc e 142 [x.v,.fn 92 [] []] s K:=by
 refine ESc.ov h (v:=.int .i64 (DU AQ x.ns 0)) (s':=s) ?_ hk
 unfold I1 Ge
 rw [show (Jj AQ 92).O [x.v,.fn 92 [] []] s=.ok (.int .i64 (DU AQ x.ns 0)) s from Q2 (Jj AQ 92) hx s]
theorem Zfd {e:Env}(h:Con e 142 I1) {x:BL}(hx:x.ok) (hk:K (.int .i64 (DU E9 x.ns 0)) s):ESc e 142 [x.v,.fn 95 [] []] s K:=by
 refine ESc.ov h (v:=.int .i64 (DU E9 x.ns 0)) (s':=s) ?_ hk
 unfold I1 Ge
 rw [Zfy (Jj AQ 92) (fun y hy e=>by
  have e:=(Zql (Zql e).2).1
  injection e with e;cases e) s]
 exact Q2 (Jj E9 95) hx s
theorem V8 {e:Env}(p:Nat→Bool) (g:Nat) (v:AV) (ns:List Nat) (s:St) (hcall:∀ (K:AV→St→Prop),K (.int .i64 (DU p ns 0)) s→ESc e 142 [v,.fn g [] []] s K) (Q:AV→St→Prop) (k:Q (.bool (ns.any p)) s):
 VE e Xc (Ah [v,.fn g [] []] 0 .lf) s none [] (BW [.tmp 4] Q):=by
 conv=>whnf
 refine hcall _ ?_;conv=>whnf
 have ha:=V3 p ns 0
 refine DF rfl rfl (fun h=>?_) (fun h=>?_) <;> conv=>whnf
 ·rw [ha.1 h] at k;exact k
 ·have:ns.any p=false:=by
   cases hq:ns.any p
   ·rfl
   ·have:=ha.2 hq;omega
  rw [this] at k;exact k
theorem ZO {e:Env}(hE:EM P e):OvOk P 92 oddF.O:=by
 refine Cx g92.b ?_
 rintro ⟨v,n⟩ hx
 obtain ⟨⟨l,hv⟩,hn⟩:=hx
 dsimp only at hv hn
 refine ⟨by show (AM.hf v && true)=true;rw [hv.hf];rfl,rfl,C.of_G hE g92 ?_⟩
 have fin:∀ s (b:Bool),b=AQ n→Frz s (.bool b) (oddF.out ⟨v,n⟩):=by
  rintro s b rfl;exact .plain _ rfl
 unfold AQ at fin
 show VW P e 0 (match a92 with|.mk c _=>c) (Ah [v] 0 .lf) St0 none [] _
 conv=>whnf
 repeat' (first|(refine Ai hv ?_;conv=>whnf)|refine v6 ?_ ?_|(intro _;first|omega|conv=>whnf))
 all_goals first
  | exact fin _ _ (by rw [Zqe (by omega),Zqe (by omega)];rfl)
  | exact fin _ _ (by rw [Zqe (by omega),Zqq (by omega)];rfl)
  | exact fin _ _ (by rw [Zqq (by omega)];rfl)
def Zji:AC:=match a95 with|.mk c _=>c
theorem Ziv {e:Env}(hE:EM P e) (h143:Con e 92 oddF.O) (h146:Inl e 95 Zji [.tmp 2]):OvOk P 142 I1:=by
 refine R8 (V7 hE AQ 92 (fun x hx s K hk=>?_)) (V7 hE E9 95 (fun x hx s K hk=>?_))
 ·exact ECall.fam oddF h143 x hx rfl hk
 ·obtain ⟨⟨l,hv⟩,hn⟩:=hx
  refine ECall.inl h146.O h146.G ?_
  unfold E9 at hk
  conv=>whnf
  repeat' (first|(refine Ai hv ?_;conv=>whnf)|refine v3 ?_ ?_|(intro _;first|omega|conv=>whnf))
  ·rw [Zqe (by omega)] at hk;exact hk
  ·rw [Zqq (by omega)] at hk;exact hk
def Bm (many:Int) (w:WR):Bool:=decide (w.at_<0) || decide (many≤w.at_) || AQ w.b.length
def Bw (p:WR→Bool):List WR→Nat→Int
 | [],_=>-1
 | n::l,i=>if p n then (i:Int) else Bw p l (i+1)
theorem V2 (p:WR→Bool):∀ (l:List WR) (i:Nat),(0≤Bw p l i↔l.any p=true)
 | [],i=>by simp [Bw]
 | n::l,i=>by
  unfold Bw
  rw [List.any_cons]
  cases h:p n
  ·simp only [Bool.false_or,Bool.false_eq_true,if_false];exact V2 p l (i+1)
  ·simp
structure WI where
 v:AV
 ws:List WR
 r:Nat
 many:Int
structure WI.ok (x:WI) (s:St):Prop where
 sl:Sl 2 x.ws.length (Ad x.ws) x.v
 w:∀ w ∈ x.ws,w.any∧w.b.length<1000000
 g:s.get x.r=some (.row 3 [.int .i64 x.many])
 m:Aa x.many
 n:x.ws.length<1000000
def WI.args (x:WI):List AV:=[x.v,.fn 94 [] [.ptr x.r 0]]
def WI.out (x:WI):AV:=.int .i64 (Bw (Bm x.many) x.ws 0)
noncomputable def Je:Ov:=fun args s=>open Classical in if h:∃ x:WI,x.ok s∧args=x.args then .ok (Classical.choose h).out s else .fail
theorem Za3 {x:WI}(hx:x.ok s):Je x.args s=.ok x.out s:=by
 have h:∃ y:WI,y.ok s∧x.args=y.args:=⟨x,hx,rfl⟩
 unfold Je
 rw [dif_pos h]
 obtain ⟨h1,h2⟩:=Zro h
 generalize Classical.choose h=y at h1 h2 ⊢
 obtain ⟨v,ws,r,m⟩:=x
 obtain ⟨v',ws',r',m'⟩:=y
 simp [WI.args] at h2
 obtain ⟨rfl,rfl⟩:=h2
 have e1:=NS (fun o ho=>(hx.w o ho).1) (fun o ho=>(h1.w o ho).1) (hx.sl.l_inj h1.sl)
 have e2:=hx.g.symm.trans h1.g
 dsimp only at e1 e2
 injection e2 with e2
 injection e2 with _ e2
 injection e2 with e2
 injection e2 with _ e2
 subst e1 e2;rfl
def W3:AC:=match PE with|.mk c _=>c
def Zjj:AC:=match a94 with|.mk c _=>c
def Zjk:AC:=match a93 with|.mk c _=>c
theorem Zdc {e:Env}(hE:EM P e) (h143:Con e 92 oddF.O) (h145:Inl e 94 Zjj [.tmp 3]):OvOk P 143 Je:=by
 refine ⟨g143.b,fun args s u s' hh=>?_⟩
 unfold Je at hh
 split at hh
 ·rename_i hx
  cases hh
  obtain ⟨h1,h2⟩:=Zro hx
  generalize Classical.choose hx=y at h1 h2 ⊢
  subst h2
  obtain ⟨v,ws,r,m⟩:=y
  obtain ⟨hs,hw,hg,hmb,hn⟩:=h1
  dsimp only at hs hw hg hmb hn
  have hvf:=hs.hf
  refine Kz (args2:=[v,.fn 94 [] [.fp [.int .i64 m]]]) (.cons (.plain _ hvf) (.cons (.fn 94 [] [.ptr r 0] [] [.fp [.int .i64 m]] .nil (.cons (.ptr r 0 3 [.int .i64 m] [.int .i64 m] [.int .i64 m] hg (fun i x h=>by rw [Zqo];exact h) (.cons (.plain _ rfl) .nil)) .nil)) .nil)) rfl (IS ?_ ?_)
  ·show (AM.hf v && _)=true;rw [hvf];rfl
  refine C.of_G hE g143 ?_
  show VW P e 0 W3 (Ah [v,.fn 94 [] [.fp [.int .i64 m]]] 0 .lf) St0 none [] (BW [.tmp 4] (fun w s'=>Frz s' w (.int .i64 (Bw (Bm m) ws 0))))
  conv=>whnf
  refine Ai hs ?_;conv=>whnf
  refine DZ (α:=Nat) (fun i=>[(0,v),(1,.fn 94 [] [.fp [.int .i64 m]]),(7,.int .i64 (ws.length:Int)),(8,.int .i64 (i:Int))]) (fun _=>[]) (fun i=>ws.length-i) (fun i=>i≤ws.length∧Bw (Bm m) ws 0=Bw (Bm m) (ws.drop i) i) 0 ⟨Zqs _,rfl⟩
   (Abs.tells (rs:=[]) .a) ?_
  rintro i ⟨hi,hI⟩
  refine Cy hE ?_
  by_cases hlt:i<ws.length
  ·have hd:=GC hlt
   obtain ⟨⟨hwa,hwb⟩,hwl⟩:=hw _ (Zra hlt)
   rw [Zqw hlt] at hI
   have hall:=And.intro hI (And.intro hd (And.intro hwa (And.intro hwb hwl)))
   clear hI hd hwa hwb hwl
   revert hall
   generalize ws[i]=w
   obtain ⟨wa,wu,wb⟩:=w
   rintro ⟨hI,hd,hwa,hwb,hwl⟩
   have hd:(Ad ws).drop (i*2)=[.int .i64 wa,wu]++Ad (ws.drop (i+1)):=hd
   have hI:Bw (Bm m) ws 0=if Bm m ⟨wa,wu,wb⟩ then (i:Int) else Bw (Bm m) (ws.drop (i+1)) (i+1):=hI
   unfold Bm at hI
   dsimp only at hI hwl hwb
   have yes:∀ b:Bool,b=true→(decide (wa<0) || decide (m≤wa) || AQ wb.length)=b→Bw (Bm m) ws 0=(i:Int):=fun b hb he=>by
    rw [he,hb,Zqd rfl] at hI;exact hI
   have no:(decide (wa<0) || decide (m≤wa) || AQ wb.length)=false→Bw (Bm m) ws 0=Bw (Bm m) (ws.drop (i+1)) (i+1):=fun he=>by
    rw [he,Zqh (by simp)] at hI;exact hI
   clear hI
   have hcell:∀ (K:List AV→Prop),K [.int .i64 wa,wu]→ETake 2 ([.int .i64 wa,wu]++Ad (ws.drop (i+1))) K:=fun K hk=>A7 rfl hk
   have hend:∀ t s,Bw (Bm m) ws 0=Bw (Bm m) (ws.drop (i+1)) (i+1)→t.get 0=some v→t.get 1=some (.fn 94 [] [.fp [.int .i64 m]])→t.get 7=some (.int .i64 (ws.length:Int))→t.get 8=some (.int .i64 ((i:Int)+1))→
    ∃ x',(x'≤ws.length∧Bw (Bm m) ws 0=Bw (Bm m) (ws.drop x') x')∧ws.length-x'<ws.length-i∧Tells P 0 t s [] (A5 [(0,v),(1,.fn 94 [] [.fp [.int .i64 m]]),(7,.int .i64 (ws.length:Int)),(8,.int .i64 (x':Int))]) (Al St0 []) []:=fun t s h0 g0 g1 g7 g8=>
    ⟨i+1,⟨hlt,h0⟩,by omega,Abs.tells (rs:=[]) ⟨by decide,⟨⟨Dd _ hvf,by rw [CO _ hvf];exact g0⟩,⟨rfl,g1⟩,⟨rfl,g7⟩,⟨rfl,g8⟩,trivial⟩,trivial⟩⟩
   conv=>whnf
   refine Bb rfl rfl (fun _=>?_) (fun h=>by omega);conv=>whnf
   refine Cr rfl hs rfl hlt ?_
   rw [hd]
   conv=>whnf
   refine hcell _ ?_;conv=>whnf
   refine ECall.inl h145.O h145.G ?_;conv=>whnf
   refine Bb (a:=wa) (b:=0) rfl rfl (fun h1=>?_) (fun h1=>?_)
   ·conv=>whnf
    skip
    rw [yes true rfl (by rw [Zqe h1];rfl)];exact .plain _ rfl
   conv=>whnf
   refine Ap ?_;conv=>whnf
   refine DF (a:=wa) (b:=m) rfl rfl (fun h2=>?_) (fun h2=>?_)
   ·conv=>whnf
    skip
    rw [yes true rfl (by rw [Zqe h2];simp)];exact .plain _ rfl
   conv=>whnf
   refine ESc.fam oddF h143 ⟨wu,wb.length⟩ ⟨⟨_,hwb.1⟩,by dsimp only;omega⟩ (u:=.bool (AQ wb.length)) rfl ?_
   have e1:(decide (wa<0) || decide (m≤wa) || AQ wb.length)=AQ wb.length:=by rw [Zqq (by omega),Zqq (by omega)];rfl
   cases ho:AQ wb.length
   ·conv=>whnf
    repeat' (first|((first|refine v7 ?_|refine ⟨rfl,?_⟩);conv=>whnf)|fail)
    exact hend _ _ (no (by rw [e1];exact ho)) rfl rfl rfl rfl
   ·conv=>whnf
    skip
    rw [yes true rfl (by rw [e1];exact ho)];exact .plain _ rfl
  ·have hd:ws.drop i=[]:=Zq5 (by omega)
   rw [hd] at hI
   have hI:Bw (Bm m) ws 0=-1:=hI
   conv=>whnf
   refine Bb rfl rfl (fun h=>by omega) (fun _=>?_);conv=>whnf
   rw [hI];exact .plain _ rfl
 ·cases hh
def AP (x:DK):Bool:=decide (1≤x.us.length∧x.us.length≤256∧x.ws.length≤1024) && !((x.bs.map List.length).any AQ) && !(x.ws.any (Bm x.us.length)) && !(x.dead && (decide (0<x.ws.length) || (x.bs.map List.length).any E9))
def dskF:Fam DK:=⟨DK.ok,fun x=>[x.v],fun x=>.int .i64 (if AP x=true then 0 else 8),fun x y hx hy h=>by rw [DK.inj hx.a hy.a (Zql h).1]⟩
theorem Zcz {us:List AV}{bs:List (List Nat)}(h:All2 BAt us bs) (hs:∀ b ∈ bs,b.length<1000000):All2 (fun u n=>BN.ok ⟨u,n⟩) us (bs.map List.length):=by
 induction h with
 | nil=>exact .nil
 | @cons u b us bs a _ ih=>exact .cons ⟨⟨_,a.1⟩,by have:=hs b (by simp);dsimp only;omega⟩ (ih fun c hc=>hs c (by simp [hc]))
def Zjs:AC:=match a44 with|.mk c _=>c
theorem Ziw {e:Env}(hE:EM P e) (h93:Inl e 91 Xc [.tmp 4]) (h138:Con e 142 I1) (h144:Inl e 93 Zjk [.tmp 4]) (h163:Con e 143 Je):OvOk P 44 dskF.O:=by
 refine Cx g44.b fun x hx=>?_
 refine ⟨by show (AM.hf x.v && true)=true;rw [DK.hf hx.a];rfl,rfl,C.of_G hE g44 ?_⟩
 have fin:∀ s (n:Int),n=(if AP x=true then 0 else 8)→Frz s (.int .i64 n) (dskF.out x):=by rintro s n rfl;exact .plain _ rfl
 obtain ⟨⟨hbl,hbs,hwl,hws⟩,hn,hm',hb',hw'⟩:=hx
 obtain ⟨bv,us,bs,wv,ws,dd⟩:=x
 dsimp only at hbl hbs hwl hws hn hm' hb' hw'
 have hBL:BL.ok ⟨bv,us,bs.map List.length⟩:=⟨hbl,Zcz hbs hb',by dsimp only;omega⟩
 have hodd:=fun (K:AV→St→Prop) (s:St)=>V8 (e:=e) AQ 92 bv (bs.map List.length) s (fun K hk=>Zfe h138 hBL hk) K
 have hpos:=fun (K:AV→St→Prop) (s:St)=>V8 (e:=e) E9 95 bv (bs.map List.length) s (fun K hk=>Zfd h138 hBL hk) K
 have hwa:=V2 (Bm us.length) ws 0
 unfold AP at fin
 dsimp only at fin
 show VW P e 0 Zjs (Ah [.agg [bv,wv,.bool dd]] 0 .lf) St0 none [] _
 conv=>whnf
 refine Ai hbl ?_;conv=>whnf
 by_cases hT:1≤us.length∧us.length≤256∧ws.length≤1024
 ·rw [Zqe hT] at fin
  repeat' (first|(refine Ai hwl ?_;conv=>whnf)|refine v1 ?_ ?_|refine v3 ?_ ?_|(intro _;first|omega|conv=>whnf))
  refine ESc.inl h93 (hodd _ _ ?_)
  cases ho:(bs.map List.length).any AQ
  ·rw [ho] at fin
   conv=>whnf
   skip
   refine ESc.inl h144 ?_;conv=>whnf
   refine ESc.ov h163 (Za3 (x:=⟨wv,ws,1,us.length⟩) ⟨hwl,fun w hw=>⟨hws w hw,hw' w hw⟩,rfl,by unfold Aa;dsimp only;omega,by dsimp only;omega⟩) ?_;conv=>whnf
   cases hw:ws.any (Bm us.length)
   ·have hwn:¬ (0≤Bw (Bm us.length) ws 0):=fun h=>by rw [hwa.1 h] at hw;cases hw
    rw [hw] at fin
    refine DF (a:=Bw (Bm us.length) ws 0) (b:=0) rfl rfl (fun h=>absurd h hwn) (fun _=>?_)
    cases dd
    ·conv=>whnf
     skip
     exact fin _ 0 (by simp)
    ·conv=>whnf
     repeat' (first|(refine Ai hwl ?_;conv=>whnf)|refine v3 ?_ ?_|(intro _;first|omega|conv=>whnf))
     ·exact fin _ 8 (by rw [Zqe (by omega)];simp)
     ·refine ESc.inl h93 (hpos _ _ ?_)
      rw [Zqq (by omega)] at fin
      cases hp:(bs.map List.length).any E9
      ·rw [hp] at fin
       conv=>whnf
       skip
       exact fin _ 0 (by simp)
      ·rw [hp] at fin
       conv=>whnf
       skip
       exact fin _ 8 (by simp)
   ·rw [hw] at fin
    refine DF (a:=Bw (Bm us.length) ws 0) (b:=0) rfl rfl (fun _=>?_) (fun h=>absurd (hwa.2 hw) (by omega));conv=>whnf
    skip
    exact fin _ 8 (by simp)
  ·rw [ho] at fin
   conv=>whnf
   skip
   exact fin _ 8 (by simp)
 ·rw [Zqq hT] at fin
  repeat' (first|(refine Ai hwl ?_;conv=>whnf)|refine v1 ?_ ?_|refine v3 ?_ ?_|(intro _;first|omega|conv=>whnf))
  all_goals first|exact fin _ 8 (by simp)|(exfalso;omega)
def Kq:AC:=match PV with|.mk c _=>c
def GU:AC:=match PK with|.mk c _=>c
def Xb:AC:=match PX with|.mk c _=>c
def W4:AC:=match MN with|.mk c _=>c
def RP:AC:=match PW with|.mk c _=>c
def Mh:AC:=match a49 with|.mk c _=>c
def GB (b:List Nat):Option Nat:=if b.length=0 then some 128 else none
variable {u:AV}
theorem JR {e:Env}(h98:Inl e 102 Kq [.tmp 2]) (h141:Inl e 119 GU [.tmp 2]) {b:List Nat}(hb:BAt u b) (hl:b.length=0∨b.length=128) (hs:s.next<1000000)
 (k0:b.length=0→K (.sl s.next 0 128 (some 128)) (s.alloc (.row 5 (Ab (Ae b)))))
 (k1:b.length=128→K (.sl (s.alloc (.row 5 [])).next 0 128 none) ((s.alloc (.row 5 [])).alloc (.row 5 (Ab (Ae b))))):ESc e 102 [u] s K:=by
 refine ESc.inl h98 ?_;conv=>whnf
 refine AA rfl hb.1 ?_;conv=>whnf
 rcases hl with h0|h1
 ·have hb0:b=[]:=Zq7.1 h0
  subst hb0
  repeat' (first|(refine Lt (n:=127) rfl rfl (by decide) ?_;conv=>whnf)|refine v5 ?_ ?_|(intro _;first|omega|conv=>whnf))
  exact k0 rfl
 ·have hp:Ae b=b:=Zk5 h1
  rw [hp] at k1
  obtain ⟨c,rfl⟩:∃ c,u=.fz b.length c (Ab b):=by
   rcases hb.1 with ⟨_,h,_⟩|⟨_,h,_⟩|⟨c,h,_⟩
   ·omega
   ·omega
   ·exact ⟨c,h⟩
  have hne:∃ x l,Ab b=x::l:=by
   cases b with
   | nil=>simp at h1
   | cons y l=>exact ⟨_,_,rfl⟩
  obtain ⟨x,l,hxl⟩:=hne
  have hbl:=Bt b
  repeat' (first|((first|refine ESc.inl h141 ?_|refine GY rfl rfl (.inr ⟨_,_,_,rfl⟩) ?_);conv=>whnf)|refine v5 ?_ ?_|(intro _;first|omega|conv=>whnf))
  refine EPrim.app1 (c:=x) (cs:=l) (m:=128) rfl rfl ?_ (TB _ _ (by omega)) ?_ (by omega) (by omega) ?_
  ·show Bg (b.length*1) (Ab b)=_
   rw [Fg (by omega),Zqi (by omega),hxl]
  ·show (x::l).length / 1=_
   rw [← hxl];omega
  rw [← hxl]
  conv=>whnf
  exact k1 h1
def Cg (at_:Int):List WR→Option (List Nat)
 | []=>none
 | w::l=>if w.at_=at_ then some w.b else Cg at_ l
def F2 (ws:List WR) (at_:Int) (b:List Nat):List Nat:=(Cg at_ ws.reverse).getD b
def XL:AC:=match Fq Mh with|some (a,_)=>a|none=>.skip
def Xj:AC:=match Fq Mh with|some (_,b)=>b|none=>.skip
def R4:AC:=match Mh with
 | .seq _ (.seq _ (.seq _ r))=>r
 | _=>.skip
def tlD (cp:Option Nat):List (Nat×AV):=[(3,.ptr 0 0),(4,.ptr 1 0),(5,.ptr 2 0),(6,.sl 3 0 128 cp),(21,.fn 146 [] [.ptr 4 0])]
def osD (at_:Int) (b:List Nat) (wv:AV):List AObj:=[.row 3 [.int .i64 at_],.row 76 [.nils],.row 38 [.int .i64 0],.row 5 (Ab (Ae b)),.row 58 [wv]]
noncomputable def Yj (at_:Int) (b:List Nat) (wv:AV) (cp:Option Nat):List AObj:=[.row 3 [.int .i64 at_],.row 76 [.nils],.row 38 [.int .i64 0],.row 5 (Ab (Ae b)),.row 58 [wv],.defd,.loop .ready none 0 (A5 (tlD cp)) [22,23] XL Xj 5]
theorem Zff {e:Env}(hE:EM P e) (h97:Inl e 101 RP [.tmp 2]) (h98:Inl e 102 Kq [.tmp 2]) (h141:Inl e 119 GU [.tmp 2])
 (x:DK) (hx:x.ok) (at_:Int) (hat:Aa at_) (hn:x.ws.length≤1024) (hwl:∀ w ∈ x.ws,w.b.length=0∨w.b.length=128) (b0:List Nat) (K:AV→St→Prop)
 (hk:∀ s r,s.get r=some (.row 5 (Ab (Ae (F2 x.ws at_ b0))))→K (.tup [.sl r 0 128 (GB (F2 x.ws at_ b0)),.int .i64 0]) s):
 W P 0 none R4 (A5 [(2,.ptr 0 0),(3,.ptr 1 0),(4,.ptr 2 0),(5,.ptr 3 0),(6,.sl 4 0 128 (GB b0))]) (Al St0 [.row 60 x.c,.row 3 [.int .i64 at_],.row 76 [.nils],.row 38 [.int .i64 0],.row 5 (Ab (Ae b0))]) [] (BG [.cell 4,.cell 5] K):=by
 obtain ⟨⟨hbl,hbs,hws,hwa⟩,hun,hwn,hbb,hww⟩:=hx
 obtain ⟨bv,us,bs,wv,ws,dd⟩:=x
 dsimp only at hbl hbs hws hwa hun hwn hbb hww hn hwl hk
 obtain ⟨cp,hcp⟩:∃ cp,cp=GB b0:=⟨_,rfl⟩
 rw [← hcp]
 show W P 0 none R4 (A5 [(2,.ptr 0 0),(3,.ptr 1 0),(4,.ptr 2 0),(5,.ptr 3 0),(6,.sl 4 0 128 cp)]) (Al St0 [.row 60 [bv,wv,.bool dd],.row 3 [.int .i64 at_],.row 76 [.nils],.row 38 [.int .i64 0],.row 5 (Ab (Ae b0))]) [] (BG [.cell 4,.cell 5] K)
 refine Hb hE ?_;conv=>whnf
 refine ESc.inl h97 ?_;conv=>whnf
 refine Dy (by show Nat.beq (A6 (cellsOf wv)) 1=true;rw [hws.cells];rfl) ?_
 rw [hws.cells]
 conv=>whnf
 have hwf:hfs [wv]=true:=by show (AM.hf wv && true)=true;rw [hws.hf];rfl
 have hpf:∀ b,hfs (Ab b)=true:=fun b=>B6 b
 refine W.tells (Abs.tells (tl:=tlD cp) (os:=osD at_ b0 wv) (rs:=[1,2,3,4,5])
  ⟨by decide,⟨r9,r9,r9,r9,r9,trivial⟩,⟨r9,r9,r9,o9 (hpf _),o9,trivial⟩⟩) ?_
 refine OC (f:=146) (first:=[]) (cap:=[.ptr 4 0]) g146.b rfl ?_ ?_
 ·intro q hq
  have hq:q<5:=hq
  rcases q with _|_|_|_|_|q
  ·exact .tmp 3 (.ptr 0 0) rfl rfl
  ·exact .tmp 4 (.ptr 1 0) rfl rfl
  ·exact .tmp 5 (.ptr 2 0) rfl rfl
  ·exact .tmp 6 (.sl 3 0 128 cp) rfl rfl
  ·exact .tmp 21 (.fn 146 [] [.ptr 4 0]) rfl rfl
  ·omega
 show C1 P 146 [.yld 6,.ptr 4 0] (Al St0 (Yj at_ b0 wv cp)) (fun _ s'=>Kw 6 [5] (A5 (tlD cp)) s' _)
 refine C1.of_G hE g146 ?_;conv=>whnf
 refine Ai hws ?_;conv=>whnf
 repeat' (first|(refine v8 ?_;conv=>whnf)|fail)
 have hlb:Dx 7 7 (.loop .ready none 0 (A5 (tlD cp)) [22,23] XL Xj 5)=true:=rfl
 refine DZ (k:=7) (α:=Nat) (fun i=>[(0,.yld 6),(1,.ptr 4 0),(3,.int .i64 ((i:Int)-1))]) (fun i=>Yj at_ b0 wv cp) (fun i=>i) (fun i=>i≤ws.length∧Cg at_ ws.reverse=Cg at_ (ws.take i).reverse) ws.length ⟨Zqu _,by rw [List.take_length]⟩
  (AbsK.tells (rs:=[0,1,2,3,4,5,6]) ⟨rfl,by decide,⟨r9,r9,r9,trivial⟩,⟨r9,r9,r9,o9 (hpf _),o9,r9,⟨hlb,rfl⟩,trivial⟩⟩) ?_
 rintro j ⟨hj,hh⟩
 refine Cy hE ?_;conv=>whnf
 refine DF rfl rfl (fun h=>?_) (fun h=>?_) <;> conv=>whnf
 ·obtain ⟨i,rfl⟩:∃ i,j=i+1:=⟨j-1,by omega⟩
  have hlt:i<ws.length:=by omega
  rw [show ((i+1:Nat):Int)-1=(i:Int) by omega]
  have hd:=GC hlt
  have hwm:=Zra hlt
  have hwa':=hwa _ hwm
  have hwl':=hwl _ hwm
  have hst:Cg at_ ws.reverse=if ws[i].at_=at_ then some ws[i].b else Cg at_ (ws.take i).reverse:=by
   rw [hh,Zqm hlt,List.reverse_append];rfl
  have hall:=And.intro hd (And.intro hwa' (And.intro hwl' hst))
  clear hd hwa' hwl' hst hwm
  revert hall
  generalize ws[i]=w
  obtain ⟨wa,wu,wb⟩:=w
  rintro ⟨hd,⟨hwa1,hwb⟩,hwl',hst⟩
  have hd:(Ad ws).drop (i*2)=[.int .i64 wa,wu]++Ad (ws.drop (i+1)):=hd
  dsimp only at hwa1 hwb hwl' hst
  refine Cr rfl hws rfl hlt ?_
  rw [hd]
  conv=>whnf
  have hcell:∀ (K:List AV→Prop),K [.int .i64 wa,wu]→ETake 2 ([.int .i64 wa,wu]++Ad (ws.drop (i+1))) K:=fun K hk=>A7 rfl hk
  refine hcell _ ?_;conv=>whnf
  refine ERound.mk ?_
  have hrun:∀ b cp',F2 ws at_ b0=b→cp'=GB b→∀ s r,s.get r=some (.row 5 (Ab (Ae b)))→K (.tup [.sl r 0 128 cp',.int .i64 0]) s:=fun b cp' h1 h2 s r h=>by
   subst h1 h2;exact hk s r h
  conv=>whnf
  refine HI (a:=wa) (b:=at_) rfl rfl (fun he=>?_) (fun he=>?_)
  ·rw [Zqd he] at hst
   have hL:F2 ws at_ b0=wb:=by unfold F2;rw [hst];rfl
   conv=>whnf
   refine JR h98 h141 hwb hwl' (by show 8<1000000;decide) (fun h0=>?_) (fun h1=>?_)
   ·conv=>whnf
    repeat' (first|(refine As ?_;conv=>whnf)|fail)
    refine hrun wb (some 128) hL (by unfold GB;rw [Zqd h0]) _ _ ?_
    rfl
   ·conv=>whnf
    repeat' (first|(refine As ?_;conv=>whnf)|fail)
    refine hrun wb none hL (by unfold GB;rw [Zqh (by omega)]) _ _ ?_
    rfl
  ·rw [Zqh he] at hst
   conv=>whnf
   repeat' (first|((first|refine v8 ?_|refine An ?_|refine ⟨rfl,?_⟩);conv=>whnf)|fail)
   refine ⟨i,⟨by omega,hst⟩,by omega,AbsK.tells (rs:=[0,1,2,3,4,5,6]) ⟨rfl,by decide,⟨r9,r9,r9,trivial⟩,⟨r9,r9,r9,o9 (hpf _),o9,r9,⟨hlb,rfl⟩,trivial⟩⟩⟩
 ·have:j=0:=by omega
  subst this
  have hL:F2 ws at_ b0=b0:=by unfold F2;rw [hh];rfl
  conv=>whnf
  rw [hL,← hcp] at hk
  exact hk _ _ rfl
variable {n m:Nat}{v:AV}
theorem MS {l l':List AV}(h:Sl 2 m l' v) (h':Sl 1 n l u) {d:Bool}:hfs [u,v,.bool d]=true:=by
 show (AM.hf u && (AM.hf v && (true && true)))=true
 rw [h.hf,h'.hf];rfl
def J2 (x:DK) (at_:Int):Int:=if AP x=true then (if 0≤at_∧at_<x.us.length then (if x.dead then 40 else 0) else 2) else 8
def D7 (x:DK) (at_:Int):List Nat:=F2 x.ws at_ (x.bs.getD at_.toNat [])
theorem HV (h:AQ n=false):n=0∨n=128:=by
 unfold AQ at h
 simp at h
 omega
theorem LS {x:DK}(hx:x.any) (h:AP x=true):x.ws.length≤1024∧(∀ b ∈ x.bs,b.length=0∨b.length=128)∧(∀ w ∈ x.ws,w.b.length=0∨w.b.length=128)∧x.us.length=x.bs.length∧x.us.length≤256:=by
 unfold AP at h
 simp only [Zqb,Bool.not_eq_true'] at h
 obtain ⟨⟨⟨h1,h2⟩,h3⟩,h4⟩:=h
 have h1:=Zrq h1
 rw [List.any_eq_false] at h2 h3
 refine ⟨h1.2.2,fun b hb=>HV (by simpa using h2 b.length (List.mem_map_of_mem hb)),fun w hw=>?_,hx.bs.length,h1.2.1⟩
 have:=h3 w hw
 unfold Bm at this
 simp only [Zry,not_or] at this
 exact HV (by simpa using this.2)
theorem Zfg {e:Env}(hE:EM P e) (h101:Con e 44 dskF.O) (h96:Inl e 100 Xb [.tmp 4,.tmp 5]) (h139:Inl e 145 W4 [.tmp 4]) (h97:Inl e 101 RP [.tmp 2]) (h98:Inl e 102 Kq [.tmp 2]) (h141:Inl e 119 GU [.tmp 2])
 (x:DK) (hx:x.ok) (at_:Int) (hat:Aa at_) (K:AV→St→Prop)
 (h0:J2 x at_=0→∀ s r,s.get r=some (.row 5 (Ab (Ae (D7 x at_))))→K (.tup [.sl r 0 128 (GB (D7 x at_)),.int .i64 0]) s)
 (h1:J2 x at_≠0→∀ s,K (.tup [.nils,.int .i64 (J2 x at_)]) s):
 W P 0 none Mh (Ah [x.v,.int .i64 at_] 0 .lf) St0 [] (BG [.cell 4,.cell 5] K):=by
 have hlt:AP x=true→0≤at_∧at_<x.us.length→∃ b u,x.us[at_.toNat]?=some u∧BAt u b∧x.bs.getD at_.toNat []=b∧(b.length=0∨b.length=128):=fun hd ⟨ha,hl⟩=>by
  have hn:at_.toNat<x.us.length:=by omega
  obtain ⟨b,hbb,hbu⟩:=hx.a.bs.get (Zp9 hn)
  refine ⟨b,x.us[at_.toNat],Zp9 hn,hbu,by rw [Zq2,hbb];rfl,(LS hx.a hd).2.1 b (Zqv hbb)⟩
 have hres:=fun (hd:AP x=true) b0 K=>Zff hE h97 h98 h141 x hx at_ hat (LS hx.a hd).1 (LS hx.a hd).2.2.1 b0 K
 have hdk:=fun (u:AV) (h:dskF.out x=u)=>And.intro hx h
 unfold J2 at h0 h1
 unfold D7 at h0
 obtain ⟨D,hD⟩:∃ D,D=AP x:=⟨_,rfl⟩
 rw [← hD] at h0 h1 hlt hres
 have hDo:dskF.out x=.int .i64 (if D=true then 0 else 8):=by rw [hD];rfl
 have hul:x.us.length<1000000:=hx.n
 have hbl:=hx.a.bl
 have hwv:=hx.a.wl
 obtain ⟨bv,us,bs,wv,ws,dd⟩:=x
 dsimp only at hlt hul h0 h1 hbl hwv
 unfold Aa at hat
 show W P 0 none Mh (Ah [.agg [bv,wv,.bool dd],.int .i64 at_] 0 .lf) St0 [] (BG [.cell 4,.cell 5] K)
 refine Br hE ?_;conv=>whnf
 refine Br hE ?_;conv=>whnf
 refine ESc.inl h96 ?_;conv=>whnf
 refine ESc.inl h139 ?_;conv=>whnf
 cases D
 ·refine ESc.fam dskF h101 ⟨bv,us,bs,wv,ws,dd⟩ hx (u:=.int .i64 8) hDo ?_;conv=>whnf
  repeat' (first|refine v6 ?_ ?_|(intro _;first|omega|conv=>whnf))
  refine Br hE ?_;conv=>whnf
  repeat' (first|refine v6 ?_ ?_|(intro _;first|omega|conv=>whnf))
  refine IL ?_;conv=>whnf
  exact h1 (by simp) _
 ·refine ESc.fam dskF h101 ⟨bv,us,bs,wv,ws,dd⟩ hx (u:=.int .i64 0) hDo ?_;conv=>whnf
  have hp:∀ K:AV→Prop,(at_<0∨(us.length:Int)≤at_→K (.int .i64 2))→(0≤at_∧at_<us.length→K (.int .i64 0))→True:=fun _ _ _=>trivial
  by_cases hr:0≤at_∧at_<(us.length:Int)
  ·obtain ⟨b,u,hg,hbu,hbd,hbl'⟩:=hlt rfl hr
   rw [hbd] at h0
   have h0:=fun hdd=>h0 (by rw [Zqd rfl,Zqd hr];exact hdd)
   rw [Zqd rfl,Zqd hr] at h1
   obtain ⟨n,rfl⟩:∃ n:Nat,at_=(n:Int):=⟨at_.toNat,by omega⟩
   have hlt':n<us.length:=by omega
   rw [show (n:Int).toNat=n by omega] at hg
   have hg':us[n]=u:=by rw [Zp9 hlt'] at hg;exact Zrh hg
   clear hg hbd hlt
   repeat' (first|(refine Ai hbl ?_;conv=>whnf)|refine v1 ?_ ?_|refine v4 ?_ ?_|refine v6 ?_ ?_|(refine w19 rfl ?_ ?_ <;> intro hc <;> (try subst hc) <;> conv=>whnf)|(intro _;first|omega|conv=>whnf))
   all_goals first|(exfalso;omega)|skip
   ·refine Br hE ?_;conv=>whnf
    repeat' (first|refine v6 ?_ ?_|(intro _;first|omega|conv=>whnf))
    refine IL ?_;conv=>whnf
    exact h1 (by simp) _
   ·refine Cr rfl hbl rfl hlt' ?_;conv=>whnf
    refine EHead.mk (v:=u) (by rw [Zrc,Zqk,Zri,Zp9 hlt',hg']) ?_;conv=>whnf
    have hcf:hfs [bv,wv,.bool false]=true:=MS hwv hbl
    have hend:=fun cp' (hcp:cp'=GB b)=>(hcp ▸ hres rfl b K (fun s r h=>h0 rfl s r h):W P 0 none R4 (A5 [(2,.ptr 0 0),(3,.ptr 1 0),(4,.ptr 2 0),(5,.ptr 3 0),(6,.sl 4 0 128 cp')]) (Al St0 [.row 60 [bv,wv,.bool false],.row 3 [.int .i64 (n:Int)],.row 76 [.nils],.row 38 [.int .i64 0],.row 5 (Ab (Ae b))]) [] (BG [.cell 4,.cell 5] K))
    refine JR h98 h141 hbu hbl' (by show 6<1000000;decide) (fun h0=>?_) (fun h1=>?_)
    ·conv=>whnf
     refine Br hE ?_;conv=>whnf
     repeat' (first|refine v6 ?_ ?_|(intro _;first|omega|conv=>whnf))
     refine W.tells (Abs.tells (rs:=[0,1,2,3,6]) ?_) (hend (some 128) (by unfold GB;rw [Zqd h0]))
     exact ⟨by decide,⟨r9,r9,r9,r9,r9,trivial⟩,⟨o9,r9,r9,r9,o9 (B6 _),trivial⟩⟩
    ·conv=>whnf
     refine Br hE ?_;conv=>whnf
     repeat' (first|refine v6 ?_ ?_|(intro _;first|omega|conv=>whnf))
     refine W.tells (Abs.tells (rs:=[0,1,2,3,7]) ?_) (hend none (by unfold GB;rw [Zqh (by omega)]))
     exact ⟨by decide,⟨r9,r9,r9,r9,r9,trivial⟩,⟨o9,r9,r9,r9,o9 (B6 _),trivial⟩⟩
  ·repeat' (first|(refine Ai hbl ?_;conv=>whnf)|refine v1 ?_ ?_|refine v4 ?_ ?_|refine v6 ?_ ?_|(intro _;first|omega|conv=>whnf))
   all_goals first|(exfalso;omega)|skip
   all_goals
    refine Br hE ?_;conv=>whnf
    repeat' (first|refine v6 ?_ ?_|(intro _;first|omega|conv=>whnf))
    refine IL ?_;conv=>whnf
    have h1:=h1 (by rw [Zqd rfl,Zqh hr];decide)
    rw [Zqd rfl,Zqh hr] at h1
    exact h1 _
structure DKA where
 d:DK
 a:Int
structure DKA.ok (x:DKA):Prop where
 d:x.d.ok
 a:Aa x.a
def DKA.args (x:DKA):List AV:=[x.d.v,.int .i64 x.a]
theorem DKA.inja {x y:DKA}(hx:x.ok) (hy:y.ok) (h:x.args=y.args):x=y:=by
 obtain ⟨d,a⟩:=x
 obtain ⟨d',a'⟩:=y
 have h1:=DK.inj hx.d.a hy.d.a (Zql h).1
 have h2:=(Zql (Zql h).2).1
 injection h2 with _ h2
 dsimp only at h1 h2
 rw [h1,h2]
theorem DKA.hfa {x:DKA}(hx:x.ok):hfs x.args=true:=by
 show (AM.hf x.d.v && (true && true))=true
 rw [DK.hf hx.d.a];rfl
def DKA.e (x:DKA):Int:=J2 x.d x.a
def DKA.b (x:DKA):List Nat:=D7 x.d x.a
theorem K9:∀ {l:List AV},hfs l=true→All2 (Frz s) l l
 | [],_=>.nil
 | v::l,h=>by
  simp only [hfs,Zqb] at h
  exact .cons (.plain _ h.1) (K9 h.2)
def GZ (x:DKA):AV:=if x.e=0 then .tup [.fz 128 none (Ab (Ae x.b)),.int .i64 0] else .tup [.nils,.int .i64 x.e]
def drdF:Fam DKA:=⟨DKA.ok,DKA.args,GZ,fun x y hx hy h=>by rw [DKA.inja hx hy h]⟩
theorem Ziz {e:Env}(hE:EM P e) (h101:Con e 44 dskF.O) (h96:Inl e 100 Xb [.tmp 4,.tmp 5]) (h139:Inl e 145 W4 [.tmp 4]) (h97:Inl e 101 RP [.tmp 2]) (h98:Inl e 102 Kq [.tmp 2]) (h141:Inl e 119 GU [.tmp 2])
 : OvOk P 49 drdF.O:=by
 refine Cx g49.b fun x hx=>?_
 have h0:x.e=0→drdF.out x=.tup [.fz 128 none (Ab (Ae x.b)),.int .i64 0]:=fun h=>by show GZ x=_;unfold GZ;rw [Zqd h]
 have h1:x.e≠0→drdF.out x=.tup [.nils,.int .i64 x.e]:=fun h=>by show GZ x=_;unfold GZ;rw [Zqh h]
 refine ⟨DKA.hfa hx,by show AM.hf (GZ x)=true;unfold GZ;split <;> rfl,C.of_W g49.f g49.c (Zfg hE h101 h96 h139 h97 h98 h141 x.d hx.d x.a hx.a _ (fun h s r hg=>?_) (fun h s=>?_))⟩
 ·rw [h0 h]
  exact .tup _ _ (.cons (.sl r 0 128 _ _ _ _ _ _ hg (fun i x h=>by rw [Zqo];exact h) (K9 (B6 _)) (.inl rfl)) (.cons (.plain _ rfl) .nil))
 ·rw [h1 h];exact .plain _ rfl
structure CDA where
 c:Cfg
 d:DK
 a:Int
structure CDA.ok (x:CDA):Prop where
 c:x.c.ok
 d:x.d.ok
 a:Aa x.a
def CDA.args (x:CDA):List AV:=[x.c.v,x.d.v,.int .i64 x.a]
def askE (x:CDA):Int:=if x.c.may then (if AP x.d=true∧(x.d.us.length:Int)=x.c.log+1 then (if 0≤x.a∧x.a<x.c.log then (if x.d.dead then 40 else 0) else 2) else 8) else 8
def Iz (x:DK) (a:Int):Int:=if AP x=true then (if 0≤a∧a<x.us.length then 0 else 2) else 8
def plcF:Fam DKA:=⟨DKA.ok,DKA.args,fun x=>.int .i64 (Iz x.d x.a),fun x y hx hy h=>by rw [DKA.inja hx hy h]⟩
theorem Zg0 {e:Env}(hE:EM P e) (h101:Con e 44 dskF.O):OvOk P 145 plcF.O:=by
 refine Cx g145.b fun x hx=>?_
 refine ⟨DKA.hfa hx,rfl,C.of_G hE g145 ?_⟩
 have fin:∀ s (n:Int),n=Iz x.d x.a→Frz s (.int .i64 n) (plcF.out x):=by rintro s n rfl;exact .plain _ rfl
 obtain ⟨O,hO⟩:∃ O,O=plcF.out x:=⟨_,rfl⟩
 rw [← hO] at fin ⊢
 clear hO
 have hbl:=hx.d.a.bl
 have hun:=hx.d.n
 have ha:=hx.a
 have hd:=hx.d
 obtain ⟨d,a⟩:=x
 dsimp only at hbl hun ha hd fin
 unfold Iz at fin
 obtain ⟨D,hD⟩:∃ D,D=AP d:=⟨_,rfl⟩
 have hDo:dskF.out d=.int .i64 (if D=true then 0 else 8):=by rw [hD];rfl
 rw [← hD] at fin
 unfold Aa at ha
 obtain ⟨bv,us,bs,wv,ws,dd⟩:=d
 dsimp only at hbl hun fin
 show VW P e 0 (match MN with|.mk c _=>c) (Ah [.agg [bv,wv,.bool dd],.int .i64 a] 0 .lf) St0 none [] _
 conv=>whnf
 cases D
 ·refine ESc.fam dskF h101 ⟨bv,us,bs,wv,ws,dd⟩ hd (u:=.int .i64 8) hDo ?_;conv=>whnf
  repeat' (first|refine v6 ?_ ?_|(intro _;first|omega|conv=>whnf))
  exact fin _ 8 (by simp)
 ·refine ESc.fam dskF h101 ⟨bv,us,bs,wv,ws,dd⟩ hd (u:=.int .i64 0) hDo ?_;conv=>whnf
  simp only [eq_self,if_true] at fin
  repeat' (first|(refine Ai hbl ?_;conv=>whnf)|refine v1 ?_ ?_|refine v4 ?_ ?_|refine v6 ?_ ?_|(intro _;first|omega|conv=>whnf))
  ·exact fin _ 2 (by rw [Zqh (by omega)])
  ·exact fin _ 2 (by rw [Zqh (by omega)])
  ·exact fin _ 0 (by rw [Zqd (by omega)])
structure DKW where
 d:DK
 a:Int
 u:AV
 b:List Nat
structure DKW.ok (x:DKW):Prop where
 d:x.d.ok
 a:Aa x.a
 b:BAt x.u x.b
 n:x.b.length<1000000
def DKW.args (x:DKW):List AV:=[x.d.v,.int .i64 x.a,x.u]
theorem DKW.inja {x y:DKW}(hx:x.ok) (hy:y.ok) (h:x.args=y.args):x=y:=by
 obtain ⟨d,a,u,b⟩:=x
 obtain ⟨d',a',u',b'⟩:=y
 have h1:=DK.inj hx.d.a hy.d.a (Zql h).1
 have h2:=(Zql (Zql h).2).1
 have h3:=(Zql (Zql (Zql h).2).2).1
 injection h2 with _ h2
 dsimp only at h1 h2 h3
 subst h1 h2 h3
 have:=hx.b.inj hy.b
 dsimp only at this
 rw [this]
theorem DKW.hfa {x:DKW}(hx:x.ok):hfs x.args=true:=by
 show (AM.hf x.d.v && (true && (AM.hf x.u && true)))=true
 rw [DK.hf hx.d.a,hx.b.1.hf];rfl
def BE (x:DK) (a:Int) (b:List Nat):Int:=if Iz x a=0 then (if AQ b.length=true then 3 else if x.dead=true then 40 else 0) else Iz x a
def wrtF:Fam DKW:=⟨DKW.ok,DKW.args,fun x=>.int .i64 (BE x.d x.a x.b),fun x y hx hy h=>by rw [DKW.inja hx hy h]⟩
theorem Zf0 {e:Env}(hE:EM P e) (h139:Con e 145 plcF.O) (h143:Con e 92 oddF.O):OvOk P 113 wrtF.O:=by
 refine Cx g113.b fun x hx=>?_
 refine ⟨DKW.hfa hx,rfl,C.of_G hE g113 ?_⟩
 have fin:∀ s (n:Int),n=BE x.d x.a x.b→Frz s (.int .i64 n) (wrtF.out x):=by rintro s n rfl;exact .plain _ rfl
 obtain ⟨O,hO⟩:∃ O,O=wrtF.out x:=⟨_,rfl⟩
 rw [← hO] at fin ⊢
 clear hO
 obtain ⟨d,a,u,b⟩:=x
 obtain ⟨hd,ha,hbt,hbn⟩:=hx
 dsimp only at hd ha hbt hbn fin
 unfold BE at fin
 obtain ⟨pe,hpe⟩:∃ pe,pe=Iz d a:=⟨_,rfl⟩
 have hpo:plcF.out ⟨d,a⟩=.int .i64 pe:=by rw [hpe];rfl
 rw [← hpe] at fin
 obtain ⟨bv,us,bs,wv,ws,dd⟩:=d
 dsimp only at fin
 show VW P e 0 (match PO with|.mk c _=>c) (Ah [.agg [bv,wv,.bool dd],.int .i64 a,u] 0 .lf) St0 none [] _
 conv=>whnf
 refine ESc.fam plcF h139 ⟨⟨bv,us,bs,wv,ws,dd⟩,a⟩ ⟨hd,ha⟩ (u:=.int .i64 pe) hpo ?_;conv=>whnf
 refine JI (a:=pe) (b:=0) rfl rfl (fun e1=>?_) (fun e1=>?_)
 ·conv=>whnf
  skip
  exact fin _ pe (by rw [Zqh e1])
 ·rw [Zqd e1] at fin
  conv=>whnf
  refine ESc.fam oddF h143 ⟨u,b.length⟩ ⟨⟨_,hbt.1⟩,by dsimp only;omega⟩ (u:=.bool (AQ b.length)) rfl ?_
  cases ho:AQ b.length
  ·rw [ho] at fin
   simp only [Bool.false_eq_true,if_false] at fin
   cases dd
   ·conv=>whnf
    skip
    exact fin _ 0 (by simp)
   ·conv=>whnf
    skip
    exact fin _ 40 (by simp)
  ·conv=>whnf
   skip
   exact fin _ 3 (by rw [Zqd ho])
def Ac:AV→AV
 | .es=>.fz 0 none []
 | .fz n _ l=>.fz n none l
 | v=>v
theorem Rf (l:List AV) (h:∀ u ∈ l,AM.hf (Ac u)=true):hfs (l.map Ac)=true:=hfs_iff.2 fun v hv=>by
 obtain ⟨u,hu,rfl⟩:=Zq9.1 hv;exact h u hu
def osW (D:List AV) (dd:Bool) (L:List AV):Nat→List AObj
 | 0=>[.row 60 D,.row 60 [.nils,.nils,.bool false],.row 60 [.nils,.nils,.bool dd]]
 | i+1=>[.row 60 D,.row 60 [.nils,.nils,.bool false],.row 60 [.sl 3 0 (i+1) none,.nils,.bool dd],.row 76 L]
def tlW (bv:AV) (n i:Nat):List (Nat×AV):=[(1,.ptr 0 0),(2,.ptr 1 0),(3,.ptr 2 0),(12,bv),(13,.int .i64 (n:Int)),(14,.int .i64 (i:Int))]
variable {t:AT}{D L cs:List AV}{dd:Bool}{i:Nat}{cp:Option Nat}{rs:List Nat}
theorem JU {bv:AV}(hbv:AM.hf bv=true) (hD:hfs D=true) (hL:hfs L=true) (hcs:hfs cs=true)
 (h:Abs t s (tlW bv m (i+1)) (osW D dd (L++[.sl 4 0 n cp]) (i+1)++[.row 5 cs]) rs):
 Tells P 0 t s [] (A5 (tlW bv m (i+1))) (Al St0 (osW D dd (L++[.fz n none cs]) (i+1))) []:=by
 refine AbsK.frz (n:=4) h.toK rfl hcs rfl rfl rfl rfl ?_ ?_
 ·show [_,_,_,(12,CI 4 _ bv),_,_]=_
  rw [FF bv hbv];rfl
 ·show [EE 4 cs (.row 60 D),_,_,AObj.row 76 (CE 4 cs (L++[.sl 4 0 n cp]))]=_
  rw [HY hD,Ni,GJ L hL]
  rfl
def A0 (w:WR):WR:=⟨w.at_,Ac w.u,w.b⟩
theorem HO (L:List WR) (w:WR):Ad (L++[w].map A0)=Ad L++[.int .i64 w.at_,Ac w.u]:=by
 unfold Ad;rw [List.flatMap_append];rfl
variable {y:AV}
theorem HT {x:AV}(h:hfs L=true):Bj n (L++[x,y])=(bd n x && bd n y):=by
 induction L with
 | nil=>show (bd n x && (bd n y && true))=_;rw [Bool.and_true]
 | cons z L ih=>
  simp only [hfs,Zqb] at h
  show (bd n z && Bj n (L++[x,y]))=_
  rw [Dd z h.1,ih h.2];rfl
theorem HE {ρ:Nat→Nat}{x:AV}(h:hfs L=true):AG ρ (L++[x,y])=L++[AY ρ x,AY ρ y]:=by
 induction L with
 | nil=>rfl
 | cons z L ih=>
  simp only [hfs,Zqb] at h
  show AY ρ z::AG ρ (L++[x,y])=_
  rw [CO z h.1,ih h.2];rfl
theorem Fi:∀ {L:List WR},(∀ w ∈ L,AM.hf w.u=true)→hfs (Ad L)=true
 | [],_=>rfl
 | w::L,h=>by
  show (true && (AM.hf w.u && hfs (Ad L)))=true
  rw [h w (by simp),Fi fun v hv=>h v (by simp [hv])];rfl
def osV (D:List AV) (dd:Bool) (L:List AV) (k:Nat) (M:List AV):Nat→List AObj
 | 0=>[.row 60 D,.row 60 [.nils,.nils,.bool false],.row 60 [.sl 3 0 k none,.nils,.bool dd],.row 76 L]
 | j+1=>[.row 60 D,.row 60 [.nils,.nils,.bool false],.row 60 [.sl 3 0 k none,.sl 4 0 (j+1) none,.bool dd],.row 76 L,.row 146 M]
def tlV (wv:AV) (n j:Nat):List (Nat×AV):=[(2,.ptr 1 0),(3,.ptr 2 0),(27,wv),(28,.int .i64 (n:Int)),(29,.int .i64 (j:Int))]
variable {a:Int}
theorem JW {wv:AV}{k:Nat}{M:List AV}(hwv:AM.hf wv=true) (hD:hfs D=true) (hL:hfs L=true) (hM:hfs M=true) (hcs:hfs cs=true)
 (h:Abs t s (tlV wv m (i+1)) (osV D dd L k (M++[.int .i64 a,.sl 5 0 n cp]) (i+1)++[.row 5 cs]) rs):
 Tells P 0 t s [] (A5 (tlV wv m (i+1))) (Al St0 (osV D dd L k (M++[.int .i64 a,.fz n none cs]) (i+1))) []:=by
 refine AbsK.frz (n:=5) h.toK rfl hcs rfl rfl rfl rfl ?_ ?_
 ·show [_,_,(27,CI 5 _ wv),_,_]=_
  rw [FF wv hwv];rfl
 ·show [EE 5 cs (.row 60 D),_,_,EE 5 cs (.row 76 L),AObj.row 146 (CE 5 cs (M++[.int .i64 a,.sl 5 0 n cp]))]=_
  rw [HY hD,HY hL,Ni,GJ M hM]
  rfl
variable {d:DK}
theorem Zgb {e:Env}(hE:EM P e) (h141:Inl e 119 GU [.tmp 2]) (hd:d.ok) (h0:1≤d.us.length)
 (hk:∀ s,s.get 3=some (.row 76 (d.us.map Ac))→(d.ws.length=0→K (.agg [.sl 3 0 d.us.length none,.nils,.bool d.dead]) s)∧(1≤d.ws.length→s.get 4=some (.row 146 (Ad (d.ws.map A0)))→K (.agg [.sl 3 0 d.us.length none,.sl 4 0 d.ws.length none,.bool d.dead]) s)):
 VW P e 0 (match Nb with|.mk c _=>c) (Ah [d.v] 0 .lf) St0 none [] (BW [.cells 2 3] K):=by
 have hbl:=hd.a.bl
 have hbs:=hd.a.bs
 have hbb:=hd.b
 have hun:=hd.n
 have hwsl:=hd.a.wl
 have hwsa:=hd.a.ws
 have hwb:=hd.w
 have hwn:=hd.m
 have hdf:hfs d.c=true:=MS hd.a.wl hd.a.bl
 obtain ⟨bv,us,bs,wv,ws,dd⟩:=d
 dsimp only at hbl hbs hbb hun h0 hk hwsl hwsa hwb hwn
 have hdf:hfs [bv,wv,.bool dd]=true:=hdf
 have hbv:=hbl.hf
 have hcl:∀ i,hfs ((us.take i).map Ac)=true:=fun i=>Rf _ fun u hu=>by
  obtain ⟨k,hk⟩:=Zr3.1 (Zrg hu)
  obtain ⟨b,_,hb⟩:=hbs.get hk
  rcases hb.1 with ⟨rfl,_⟩|⟨rfl,_⟩|⟨c,rfl,_⟩ <;> rfl
 show VW P e 0 (match Nb with|.mk c _=>c) (Ah [.agg [bv,wv,.bool dd]] 0 .lf) St0 none [] _
 conv=>whnf
 refine Ai hbl ?_;conv=>whnf
 refine DZ (α:=Nat) (fun i=>tlW bv us.length i) (fun i=>osW [bv,wv,.bool dd] dd ((us.take i).map Ac) i) (fun i=>us.length-i) (fun i=>i≤us.length) 0 (Zqs _)
  (Abs.tells (rs:=[0,1,2]) ⟨by decide,⟨r9,r9,r9,t9 hbv,r9,r9,trivial⟩,⟨o9 hdf,r9,r9,trivial⟩⟩) ?_
 intro i hi
 refine Cy hE ?_
 by_cases hlt:i<us.length
 ·obtain ⟨b,hb1,hb2⟩:=hbs.get (Zp9 hlt)
  have hbn:=hbb b (Zqv hb1)
  have hug:((us.drop (i*1)))[0]?=some us[i]:=by rw [Zrc,Zqk,Zri,Zp9 hlt]
  have htk:us.take (i+1)=us.take i++[us[i]]:=Zqm hlt
  have hub:=hb2.1
  have hall:=And.intro hug (And.intro htk hub)
  clear hb1 hb2 hug htk hub
  revert hall
  generalize us[i]=u
  rintro ⟨hug,htk,hub⟩
  rcases i with _|i
  ·conv=>whnf
   refine Bb (a:=((0:Nat):Int)) (b:=(us.length:Int)) rfl rfl (fun _=>?_) (fun h=>by omega);conv=>whnf
   refine Cr rfl hbl rfl hlt ?_;conv=>whnf
   refine EHead.mk (v:=u) hug ?_;conv=>whnf
   refine ESc.inl h141 ?_;conv=>whnf
   rcases hub with ⟨rfl,hn0,hbs0⟩|⟨rfl,hn0,hbs0⟩|⟨c,rfl,hbl'⟩
   ·refine Ob rfl rfl ?_;conv=>whnf
    repeat' (first|((first|refine CJ (m:=1) ?_|refine v7 ?_|refine ⟨rfl,?_⟩);conv=>whnf)|fail)
    refine ⟨0+1,hlt,by omega,?_⟩
    rw [htk,Zqy]
    refine Abs.tells (rs:=[0,1,2,4]) ⟨by decide,⟨r9,r9,r9,t9 hbv,r9,r9,trivial⟩,⟨o9 hdf,r9,r9,⟨by show Bj _ (List.map _ _++[_])=true;rw [Ib (hcl _)];rfl,by show _=some (AObj.row 76 (AG _ (List.map _ _++[_])));rw [HM (hcl _)];rfl⟩,trivial⟩⟩
   ·refine GY rfl rfl (.inl rfl) ?_;conv=>whnf
    repeat' (first|((first|refine EL rfl rfl rfl ?_|refine CJ (m:=1) ?_|refine v7 ?_|refine ⟨rfl,?_⟩);conv=>whnf)|fail)
    refine ⟨0+1,hlt,by omega,?_⟩
    rw [htk,Zqy]
    refine JU (i:=0) (L:=(us.take (0)).map Ac) (n:=0) (cs:=[]) (rs:=[0,1,2,5,3]) hbv hdf (hcl _) rfl ⟨by decide,⟨r9,r9,r9,t9 hbv,r9,r9,trivial⟩,⟨o9 hdf,r9,r9,⟨by show Bj _ (List.map _ _++[_])=true;rw [Ib (hcl _)];rfl,by show _=some (AObj.row 76 (AG _ (List.map _ _++[_])));rw [HM (hcl _)];rfl⟩,o9 rfl,trivial⟩⟩
   ·refine GY rfl rfl (.inr ⟨_,_,_,rfl⟩) ?_;conv=>whnf
    cases b with
    | nil=>
     repeat' (first|((first|refine EL rfl rfl rfl ?_|refine CJ (m:=1) ?_|refine v7 ?_|refine ⟨rfl,?_⟩);conv=>whnf)|fail)
     refine ⟨0+1,hlt,by omega,?_⟩
     rw [htk,Zqy]
     refine JU (i:=0) (L:=(us.take (0)).map Ac) (n:=0) (cs:=[]) (rs:=[0,1,2,5,3]) hbv hdf (hcl _) rfl ⟨by decide,⟨r9,r9,r9,t9 hbv,r9,r9,trivial⟩,⟨o9 hdf,r9,r9,⟨by show Bj _ (List.map _ _++[_])=true;rw [Ib (hcl _)];rfl,by show _=some (AObj.row 76 (AG _ (List.map _ _++[_])));rw [HM (hcl _)];rfl⟩,o9 rfl,trivial⟩⟩
    | cons x b=>
     refine EPrim.app1 (c:=.int .u8 (Int.ofNat x)) (cs:=Ab b) (m:=b.length+1) rfl rfl ?_ rfl ?_ (by omega) (by have:=hbn;simp at this;omega) ?_
     ·show Bg ((b.length+1)*1) (Ab (x::b))=_
      rw [Fg (by rw [Bt];simp),Zqi (by rw [Bt];simp)];rfl
     ·show (Ab (x::b)).length / 1=_
      rw [Bt];simp
     conv=>whnf
     repeat' (first|((first|refine CJ (m:=1) ?_|refine v7 ?_|refine ⟨rfl,?_⟩);conv=>whnf)|fail)
     refine ⟨0+1,hlt,by omega,?_⟩
     rw [htk,Zqy]
     refine JU (i:=0) (L:=(us.take (0)).map Ac) (n:=(b.length+1)) (cs:=(Ab (x::b))) (rs:=[0,1,2,6,4]) hbv hdf (hcl _) (B6 _) ⟨by decide,⟨r9,r9,r9,t9 hbv,r9,r9,trivial⟩,⟨o9 hdf,r9,r9,⟨by show Bj _ (List.map _ _++[_])=true;rw [Ib (hcl _)];rfl,by show _=some (AObj.row 76 (AG _ (List.map _ _++[_])));rw [HM (hcl _)];rfl⟩,o9 (B6 _),trivial⟩⟩
  ·conv=>whnf
   refine Bb (a:=((i+1:Nat):Int)) (b:=(us.length:Int)) rfl rfl (fun _=>?_) (fun h=>by omega);conv=>whnf
   refine Cr rfl hbl rfl hlt ?_;conv=>whnf
   refine EHead.mk (v:=u) hug ?_;conv=>whnf
   refine ESc.inl h141 ?_;conv=>whnf
   rcases hub with ⟨rfl,hn0,hbs0⟩|⟨rfl,hn0,hbs0⟩|⟨c,rfl,hbl'⟩
   ·refine Ob rfl rfl ?_;conv=>whnf
    repeat' (first|((first|refine Cw (m:=1) rfl rfl rfl rfl (by rw [Zqg,Zqz];omega) rfl (by decide) (by omega) ?_|refine v7 ?_|refine ⟨rfl,?_⟩);conv=>whnf)|fail)
    refine ⟨i+1+1,hlt,by omega,?_⟩
    rw [htk,Zqy]
    refine Abs.tells (rs:=[0,1,2,5]) ⟨by decide,⟨r9,r9,r9,t9 hbv,r9,r9,trivial⟩,⟨o9 hdf,r9,r9,⟨by show Bj _ (List.map _ _++[_])=true;rw [Ib (hcl _)];rfl,by show _=some (AObj.row 76 (AG _ (List.map _ _++[_])));rw [HM (hcl _)];rfl⟩,trivial⟩⟩
   ·refine GY rfl rfl (.inl rfl) ?_;conv=>whnf
    repeat' (first|((first|refine EL rfl rfl rfl ?_|refine Cw (m:=1) rfl rfl rfl rfl (by rw [Zqg,Zqz];omega) rfl (by decide) (by omega) ?_|refine v7 ?_|refine ⟨rfl,?_⟩);conv=>whnf)|fail)
    refine ⟨i+1+1,hlt,by omega,?_⟩
    rw [htk,Zqy]
    refine JU (i:=i+1) (L:=(us.take (i+1)).map Ac) (n:=0) (cs:=[]) (rs:=[0,1,2,6,4]) hbv hdf (hcl _) rfl ⟨by decide,⟨r9,r9,r9,t9 hbv,r9,r9,trivial⟩,⟨o9 hdf,r9,r9,⟨by show Bj _ (List.map _ _++[_])=true;rw [Ib (hcl _)];rfl,by show _=some (AObj.row 76 (AG _ (List.map _ _++[_])));rw [HM (hcl _)];rfl⟩,o9 rfl,trivial⟩⟩
   ·refine GY rfl rfl (.inr ⟨_,_,_,rfl⟩) ?_;conv=>whnf
    cases b with
    | nil=>
     repeat' (first|((first|refine EL rfl rfl rfl ?_|refine Cw (m:=1) rfl rfl rfl rfl (by rw [Zqg,Zqz];omega) rfl (by decide) (by omega) ?_|refine v7 ?_|refine ⟨rfl,?_⟩);conv=>whnf)|fail)
     refine ⟨i+1+1,hlt,by omega,?_⟩
     rw [htk,Zqy]
     refine JU (i:=i+1) (L:=(us.take (i+1)).map Ac) (n:=0) (cs:=[]) (rs:=[0,1,2,6,4]) hbv hdf (hcl _) rfl ⟨by decide,⟨r9,r9,r9,t9 hbv,r9,r9,trivial⟩,⟨o9 hdf,r9,r9,⟨by show Bj _ (List.map _ _++[_])=true;rw [Ib (hcl _)];rfl,by show _=some (AObj.row 76 (AG _ (List.map _ _++[_])));rw [HM (hcl _)];rfl⟩,o9 rfl,trivial⟩⟩
    | cons x b=>
     refine EPrim.app1 (c:=.int .u8 (Int.ofNat x)) (cs:=Ab b) (m:=b.length+1) rfl rfl ?_ rfl ?_ (by omega) (by have:=hbn;simp at this;omega) ?_
     ·show Bg ((b.length+1)*1) (Ab (x::b))=_
      rw [Fg (by rw [Bt];simp),Zqi (by rw [Bt];simp)];rfl
     ·show (Ab (x::b)).length / 1=_
      rw [Bt];simp
     conv=>whnf
     repeat' (first|((first|refine Cw (m:=1) rfl rfl rfl rfl (by rw [Zqg,Zqz];omega) rfl (by decide) (by omega) ?_|refine v7 ?_|refine ⟨rfl,?_⟩);conv=>whnf)|fail)
     refine ⟨i+1+1,hlt,by omega,?_⟩
     rw [htk,Zqy]
     refine JU (i:=i+1) (L:=(us.take (i+1)).map Ac) (n:=(b.length+1)) (cs:=(Ab (x::b))) (rs:=[0,1,2,7,5]) hbv hdf (hcl _) (B6 _) ⟨by decide,⟨r9,r9,r9,t9 hbv,r9,r9,trivial⟩,⟨o9 hdf,r9,r9,⟨by show Bj _ (List.map _ _++[_])=true;rw [Ib (hcl _)];rfl,by show _=some (AObj.row 76 (AG _ (List.map _ _++[_])));rw [HM (hcl _)];rfl⟩,o9 (B6 _),trivial⟩⟩
 ·obtain ⟨k,rfl⟩:∃ k,i=k+1:=⟨i-1,by omega⟩
  have hku:k+1=us.length:=by omega
  have hLe:(us.take (k+1)).map Ac=us.map Ac:=by rw [Zqi (by omega)]
  have hLf:=hcl (k+1)
  rw [hLe] at hLf ⊢
  have hwv:=hwsl.hf
  conv=>whnf
  refine Bb (a:=((k+1:Nat):Int)) (b:=(us.length:Int)) rfl rfl (fun _=>by omega) (fun _=>?_);conv=>whnf
  refine Ai hwsl ?_;conv=>whnf
  have hwl:∀ i,hfs (Ad ((ws.take i).map A0))=true:=fun i=>Fi fun w hw=>by
   obtain ⟨v,hv,rfl⟩:=Zq9.1 hw
   rcases (hwsa v (Zrg hv)).b.1 with ⟨h,_⟩|⟨h,_⟩|⟨c,h,_⟩ <;> (show AM.hf (Ac v.u)=true;rw [h];rfl)
  refine DZ (α:=Nat) (fun j=>tlV wv ws.length j) (fun j=>osV [bv,wv,.bool dd] dd (us.map Ac) (k+1) (Ad ((ws.take j).map A0)) j) (fun j=>ws.length-j) (fun j=>j≤ws.length) 0 (Zqs _)
   (Abs.tells (rs:=[0,1,2,3]) ⟨by decide,⟨r9,r9,t9 hwv,r9,r9,trivial⟩,⟨o9 hdf,r9,r9,o9 hLf,trivial⟩⟩) ?_
  intro j hj
  refine Cy hE ?_
  by_cases hlt:j<ws.length
  ·have hdr:=GC hlt
   have hwm:=Zra hlt
   have hwany:=hwsa _ hwm
   have hbn:=hwb _ hwm
   have htk:ws.take (j+1)=ws.take j++[ws[j]]:=Zqm hlt
   have hall:=And.intro hdr (And.intro hwany (And.intro hbn htk))
   clear hdr hwm hwany hbn htk
   revert hall
   generalize ws[j]=w
   obtain ⟨wa,u,b⟩:=w
   rintro ⟨hdr,⟨hwai,hub,hub2⟩,hbn,htk⟩
   have hdr:(Ad ws).drop (j*2)=[.int .i64 wa,u]++Ad (ws.drop (j+1)):=hdr
   dsimp only at hub hbn
   have hcell:∀ (K:List AV→Prop),K [.int .i64 wa,u]→ETake 2 ([.int .i64 wa,u]++Ad (ws.drop (j+1))) K:=fun K hk=>A7 rfl hk
   rcases j with _|j
   ·conv=>whnf
    refine Bb (a:=((0:Nat):Int)) (b:=(ws.length:Int)) rfl rfl (fun _=>?_) (fun h=>by omega);conv=>whnf
    refine Cr rfl hwsl rfl hlt ?_
    rw [hdr]
    conv=>whnf
    refine hcell _ ?_;conv=>whnf
    repeat' (first|(refine ESc.inl h141 ?_;conv=>whnf)|fail)
    rcases hub with ⟨rfl,hn0,hbs0⟩|⟨rfl,hn0,hbs0⟩|⟨c,rfl,hbl'⟩
    ·refine Ob rfl rfl ?_;conv=>whnf
     repeat' (first|((first|refine ⟨rfl,?_⟩|refine CJ (m:=1) ?_|refine v7 ?_);conv=>whnf)|fail)
     refine ⟨0+1,hlt,by omega,?_⟩
     rw [htk,Zqy,HO]
     refine Abs.tells (rs:=[0,1,2,3,6]) ⟨by decide,⟨r9,r9,t9 hwv,r9,r9,trivial⟩,⟨o9 hdf,r9,r9,o9 hLf,⟨by show Bj _ (Ad _++[.int .i64 _,_])=true;rw [HT (hwl _)];rfl,by show _=some (AObj.row 146 (AG _ (Ad _++[.int .i64 _,_])));rw [HE (hwl _)];rfl⟩,trivial⟩⟩
    ·refine GY rfl rfl (.inl rfl) ?_;conv=>whnf
     repeat' (first|((first|refine EL rfl rfl rfl ?_|refine ⟨rfl,?_⟩|refine CJ (m:=1) ?_|refine v7 ?_);conv=>whnf)|fail)
     refine ⟨0+1,hlt,by omega,?_⟩
     rw [htk,Zqy,HO]
     refine JW (i:=0) (M:=Ad ((ws.take (0)).map A0)) (a:=wa) (n:=0) (cs:=[]) (rs:=[0,1,2,3,7,5]) hwv hdf hLf (hwl _) rfl ⟨by decide,⟨r9,r9,t9 hwv,r9,r9,trivial⟩,⟨o9 hdf,r9,r9,o9 hLf,⟨by show Bj _ (Ad _++[.int .i64 _,_])=true;rw [HT (hwl _)];rfl,by show _=some (AObj.row 146 (AG _ (Ad _++[.int .i64 _,_])));rw [HE (hwl _)];rfl⟩,o9 rfl,trivial⟩⟩
    ·refine GY rfl rfl (.inr ⟨_,_,_,rfl⟩) ?_;conv=>whnf
     cases b with
     | nil=>
      repeat' (first|((first|refine EL rfl rfl rfl ?_|refine ⟨rfl,?_⟩|refine CJ (m:=1) ?_|refine v7 ?_);conv=>whnf)|fail)
      refine ⟨0+1,hlt,by omega,?_⟩
      rw [htk,Zqy,HO]
      refine JW (i:=0) (M:=Ad ((ws.take (0)).map A0)) (a:=wa) (n:=0) (cs:=[]) (rs:=[0,1,2,3,7,5]) hwv hdf hLf (hwl _) rfl ⟨by decide,⟨r9,r9,t9 hwv,r9,r9,trivial⟩,⟨o9 hdf,r9,r9,o9 hLf,⟨by show Bj _ (Ad _++[.int .i64 _,_])=true;rw [HT (hwl _)];rfl,by show _=some (AObj.row 146 (AG _ (Ad _++[.int .i64 _,_])));rw [HE (hwl _)];rfl⟩,o9 rfl,trivial⟩⟩
     | cons x b=>
      refine EPrim.app1 (c:=.int .u8 (Int.ofNat x)) (cs:=Ab b) (m:=b.length+1) rfl rfl ?_ rfl ?_ (by omega) (by have:=hbn;simp at this;omega) ?_
      ·show Bg ((b.length+1)*1) (Ab (x::b))=_
       rw [Fg (by rw [Bt];simp),Zqi (by rw [Bt];simp)];rfl
      ·show (Ab (x::b)).length / 1=_
       rw [Bt];simp
      conv=>whnf
      repeat' (first|((first|refine ⟨rfl,?_⟩|refine CJ (m:=1) ?_|refine v7 ?_);conv=>whnf)|fail)
      refine ⟨0+1,hlt,by omega,?_⟩
      rw [htk,Zqy,HO]
      refine JW (i:=0) (M:=Ad ((ws.take (0)).map A0)) (a:=wa) (n:=(b.length+1)) (cs:=(Ab (x::b))) (rs:=[0,1,2,3,8,6]) hwv hdf hLf (hwl _) (B6 _) ⟨by decide,⟨r9,r9,t9 hwv,r9,r9,trivial⟩,⟨o9 hdf,r9,r9,o9 hLf,⟨by show Bj _ (Ad _++[.int .i64 _,_])=true;rw [HT (hwl _)];rfl,by show _=some (AObj.row 146 (AG _ (Ad _++[.int .i64 _,_])));rw [HE (hwl _)];rfl⟩,o9 (B6 _),trivial⟩⟩
   ·conv=>whnf
    refine Bb (a:=((j+1:Nat):Int)) (b:=(ws.length:Int)) rfl rfl (fun _=>?_) (fun h=>by omega);conv=>whnf
    refine Cr rfl hwsl rfl hlt ?_
    rw [hdr]
    conv=>whnf
    refine hcell _ ?_;conv=>whnf
    repeat' (first|(refine ESc.inl h141 ?_;conv=>whnf)|fail)
    rcases hub with ⟨rfl,hn0,hbs0⟩|⟨rfl,hn0,hbs0⟩|⟨c,rfl,hbl'⟩
    ·refine Ob rfl rfl ?_;conv=>whnf
     repeat' (first|((first|refine ⟨rfl,?_⟩|refine Cw (m:=1) rfl rfl rfl rfl (by rw [DE,Zqg,Zqz];omega) rfl (by decide) (by omega) ?_|refine v7 ?_);conv=>whnf)|fail)
     refine ⟨j+1+1,hlt,by omega,?_⟩
     rw [htk,Zqy,HO]
     refine Abs.tells (rs:=[0,1,2,3,7]) ⟨by decide,⟨r9,r9,t9 hwv,r9,r9,trivial⟩,⟨o9 hdf,r9,r9,o9 hLf,⟨by show Bj _ (Ad _++[.int .i64 _,_])=true;rw [HT (hwl _)];rfl,by show _=some (AObj.row 146 (AG _ (Ad _++[.int .i64 _,_])));rw [HE (hwl _)];rfl⟩,trivial⟩⟩
    ·refine GY rfl rfl (.inl rfl) ?_;conv=>whnf
     repeat' (first|((first|refine EL rfl rfl rfl ?_|refine ⟨rfl,?_⟩|refine Cw (m:=1) rfl rfl rfl rfl (by rw [DE,Zqg,Zqz];omega) rfl (by decide) (by omega) ?_|refine v7 ?_);conv=>whnf)|fail)
     refine ⟨j+1+1,hlt,by omega,?_⟩
     rw [htk,Zqy,HO]
     refine JW (i:=j+1) (M:=Ad ((ws.take (j+1)).map A0)) (a:=wa) (n:=0) (cs:=[]) (rs:=[0,1,2,3,8,6]) hwv hdf hLf (hwl _) rfl ⟨by decide,⟨r9,r9,t9 hwv,r9,r9,trivial⟩,⟨o9 hdf,r9,r9,o9 hLf,⟨by show Bj _ (Ad _++[.int .i64 _,_])=true;rw [HT (hwl _)];rfl,by show _=some (AObj.row 146 (AG _ (Ad _++[.int .i64 _,_])));rw [HE (hwl _)];rfl⟩,o9 rfl,trivial⟩⟩
    ·refine GY rfl rfl (.inr ⟨_,_,_,rfl⟩) ?_;conv=>whnf
     cases b with
     | nil=>
      repeat' (first|((first|refine EL rfl rfl rfl ?_|refine ⟨rfl,?_⟩|refine Cw (m:=1) rfl rfl rfl rfl (by rw [DE,Zqg,Zqz];omega) rfl (by decide) (by omega) ?_|refine v7 ?_);conv=>whnf)|fail)
      refine ⟨j+1+1,hlt,by omega,?_⟩
      rw [htk,Zqy,HO]
      refine JW (i:=j+1) (M:=Ad ((ws.take (j+1)).map A0)) (a:=wa) (n:=0) (cs:=[]) (rs:=[0,1,2,3,8,6]) hwv hdf hLf (hwl _) rfl ⟨by decide,⟨r9,r9,t9 hwv,r9,r9,trivial⟩,⟨o9 hdf,r9,r9,o9 hLf,⟨by show Bj _ (Ad _++[.int .i64 _,_])=true;rw [HT (hwl _)];rfl,by show _=some (AObj.row 146 (AG _ (Ad _++[.int .i64 _,_])));rw [HE (hwl _)];rfl⟩,o9 rfl,trivial⟩⟩
     | cons x b=>
      refine EPrim.app1 (c:=.int .u8 (Int.ofNat x)) (cs:=Ab b) (m:=b.length+1) rfl rfl ?_ rfl ?_ (by omega) (by have:=hbn;simp at this;omega) ?_
      ·show Bg ((b.length+1)*1) (Ab (x::b))=_
       rw [Fg (by rw [Bt];simp),Zqi (by rw [Bt];simp)];rfl
      ·show (Ab (x::b)).length / 1=_
       rw [Bt];simp
      conv=>whnf
      repeat' (first|((first|refine ⟨rfl,?_⟩|refine Cw (m:=1) rfl rfl rfl rfl (by rw [DE,Zqg,Zqz];omega) rfl (by decide) (by omega) ?_|refine v7 ?_);conv=>whnf)|fail)
      refine ⟨j+1+1,hlt,by omega,?_⟩
      rw [htk,Zqy,HO]
      refine JW (i:=j+1) (M:=Ad ((ws.take (j+1)).map A0)) (a:=wa) (n:=(b.length+1)) (cs:=(Ab (x::b))) (rs:=[0,1,2,3,9,7]) hwv hdf hLf (hwl _) (B6 _) ⟨by decide,⟨r9,r9,t9 hwv,r9,r9,trivial⟩,⟨o9 hdf,r9,r9,o9 hLf,⟨by show Bj _ (Ad _++[.int .i64 _,_])=true;rw [HT (hwl _)];rfl,by show _=some (AObj.row 146 (AG _ (Ad _++[.int .i64 _,_])));rw [HE (hwl _)];rfl⟩,o9 (B6 _),trivial⟩⟩
  ·have hje:j=ws.length:=by omega
   have hMe:ws.take j=ws:=Zqi (by omega)
   rw [hMe]
   rw [← hku] at hk
   rcases j with _|j
   ·conv=>whnf
    refine Bb (a:=((0:Nat):Int)) (b:=(ws.length:Int)) rfl rfl (fun _=>by omega) (fun _=>?_);conv=>whnf
    skip
    refine (hk _ ?_).1 hje.symm
    rfl
   ·conv=>whnf
    refine Bb (a:=((j+1:Nat):Int)) (b:=(ws.length:Int)) rfl rfl (fun _=>by omega) (fun _=>?_);conv=>whnf
    skip
    rw [← hje] at hk
    refine (hk _ ?_).2 (by omega) ?_
    ·rfl
    ·rfl
def Gb (x:DK):List AObj:=match x.ws.length with
 | 0=>[.row 76 (x.us.map Ac)]
 | _+1=>[.row 76 (x.us.map Ac),.row 146 (Ad (x.ws.map A0))]
def Hy (n:Nat) (x:DK):AV:=.agg [.sl (0+n) 0 x.us.length none,(match x.ws.length with|0=>.nils|m+1=>.sl (1+n) 0 (m+1) none),.bool x.dead]
structure DK1 (x:DK):Prop where
 ok:x.ok
 n:1≤x.us.length
noncomputable def Dj:Ov:=fun args s=>open Classical in if h:∃ x:DK,DK1 x∧args=[x.v] then .ok (Hy s.next (Classical.choose h)) (Al s (Gb (Classical.choose h))) else .fail
theorem JV {x:DK}(hx:DK1 x) (s:St):Dj [x.v] s=.ok (Hy s.next x) (Al s (Gb x)):=by
 have h:∃ y:DK,DK1 y∧[x.v]=[y.v]:=⟨x,hx,rfl⟩
 unfold Dj
 rw [dif_pos h]
 obtain ⟨h1,h2⟩:=Zro h
 rw [← DK.inj hx.ok.a h1.ok.a (Zql h2).1]
theorem WE {e:Env}(hE:EM P e) (h141:Inl e 119 GU [.tmp 2]):OvOk P 66 Dj:=by
 refine ⟨g66.b,fun args s v s' hh=>?_⟩
 have hx0:∃ x:DK,DK1 x∧args=[x.v]:=by
  unfold Dj at hh
  split at hh
  ·rename_i h;exact h
  ·cases hh
 obtain ⟨x,hx,rfl⟩:=hx0
 rw [JV hx] at hh
 cases hh
 have hfa:hfs [x.v]=true:=by show (AM.hf x.v && true)=true;rw [DK.hf hx.ok.a];rfl
 have hcl:hfs (x.us.map Ac)=true:=Rf _ fun u hu=>by
  obtain ⟨k,hk⟩:=Zr3.1 hu
  obtain ⟨b,_,hb⟩:=hx.ok.a.bs.get hk
  rcases hb.1 with ⟨rfl,_⟩|⟨rfl,_⟩|⟨c,rfl,_⟩ <;> rfl
 have hwl:hfs (Ad (x.ws.map A0))=true:=Fi fun w hw=>by
  obtain ⟨v,hv,rfl⟩:=Zq9.1 hw
  rcases (hx.ok.a.ws v hv).b.1 with ⟨h,_⟩|⟨h,_⟩|⟨c,h,_⟩ <;> (show AM.hf (Ac v.u)=true;rw [h];rfl)
 have key:C P 66 [x.v] St0 (fun v s'=>v=Hy 0 x∧s'=Al St0 (Gb x)):=by
  refine C.abs (C.of_G hE g66 (Zgb hE h141 hx.ok hx.n fun s h3=>⟨fun h0=>?_,fun h1 h4=>?_⟩))
  ·unfold Hy Gb
   rw [h0]
   exact ⟨[3],⟨by decide,⟨r9,trivial⟩,⟨⟨Bd hcl,by rw [AX hcl];exact h3⟩,trivial⟩⟩⟩
  ·obtain ⟨m,hm'⟩:∃ m,x.ws.length=m+1:=⟨x.ws.length-1,by omega⟩
   unfold Hy Gb
   rw [hm']
   exact ⟨[3,4],⟨by decide,⟨r9,trivial⟩,⟨⟨Bd hcl,by rw [AX hcl];exact h3⟩,⟨Bd hwl,by rw [AX hwl];exact h4⟩,trivial⟩⟩⟩
 refine (C.frame (l:=Gb x) (u:=Hy 0 x) hfa ?_ ?_ key ?_ s).mono ?_
 ·unfold Gb;split
  ·intro o ho;simp at ho;subst ho;rfl
  ·intro o ho;simp at ho;rcases ho with rfl|rfl <;> rfl
 ·unfold Gb;split <;> exact .inl (by simp)
 ·unfold Gb;split <;> intro i o h <;> rcases i with _|_|i <;> simp at h <;> first|(subst h;rfl)|omega
 ·rintro v s' ⟨rfl,rfl⟩
  refine ⟨?_,?_⟩
  ·unfold Hy;cases x.ws.length <;> rfl
  ·unfold Gb;split
   ·show Al s [Bv _ (.row 76 (x.us.map Ac))]=_
    rw [AX hcl]
   ·show Al s [Bv _ (.row 76 (x.us.map Ac)),Bv _ (.row 146 (Ad (x.ws.map A0)))]=_
    rw [AX hcl,AX hwl]
def Dt (a:Int) (w:WR):Bool:=decide (w.at_=a)
def AE (a:Int) (L:List WR):List WR:=L.filter fun w=>!Dt a w
def zW:List AV:=[.int .i64 0,.nils]
def Zjm:AC:=match PN with|.mk c _=>c
def Od:AC:=match PL with|.mk c _=>c
variable {r:Nat}{X:List WR}{w:WR}
theorem Wj {e j:Nat}(h:s.get r=some (.row e (Ad X))) (hj:X[j]?=some w):load r (0+j*2) 2 s=some [.int .i64 w.at_,w.u]:=by
 have hlt:=(Zqa.1 hj).1
 have hw:=(Zqa.1 hj).2
 rw [GR h (by rw [DE];omega),Zqo,GC hlt,hw];rfl
theorem VJ:∀ {X:List WR}{k:Nat}{w:WR},k<X.length→(Ad X).take (k*2)++[.int .i64 w.at_,w.u]++(Ad X).drop (k*2+2)=Ad (X.set k w)
 | [],k,w,h=>by simp at h
 | x::X,0,w,h=>by rw [Ff];rfl
 | x::X,k+1,w,h=>by
  have:=VJ (X:=X) (k:=k) (w:=w) (by simpa using h)
  rw [Ff,List.set_cons_succ,Ff,← this]
  have hl:x.c.length=2:=rfl
  rw [show (k+1)*2=x.c.length+k*2 by omega,List.take_append,Zqi (by omega),show x.c.length+k*2+2=x.c.length+(k*2+2) by omega,List.drop_append,Zq5 (by omega)]
  simp
theorem Zds {e k:Nat}(h:s.get r=some (.row e (Ad X))) (hk:k<X.length):storeAt r (0+k*2) [.int .i64 w.at_,w.u] s=some (s.put r (.row e (Ad (X.set k w)))):=by
 rw [Gm h (by rw [DE];show 0+k*2+2≤_;omega),Zqo,← VJ hk];rfl
variable {z:List AV}
theorem Zay {k:AV→St→Prop}{x:AO}{o:Nat}{c:Option Nat}{s':St}(hx:ev x t=.some (.sl r o n c)) (hs:storeAt r o (Bp z n) s=some s') (hk:k (.tup []) s'):EPrim (.clr z x) t s k:=by
 refine EPrim.mk (fun e rec=>?_) hk
 show wth x t _=_;unfold wth;rw [hx]
 show FW (.tup []) (storeAt r o (Bp z n) s)=_;rw [hs];rfl
theorem Qg:∀ n,(Bp z n).length=n*z.length
 | 0=>by show ([]:List AV).length=_;simp
 | n+1=>by
  have:Bp z (n+1)=z++Bp z n:=by
   show Ba z (Bp z n)=_;rw [Db]
  rw [this,Zqn,Qg n];simp [Nat.succ_mul];omega
theorem Zdb (X:List WR) (k:Nat):(Ad X).take (k*2)=Ad (X.take k):=by
 induction X generalizing k with
 | nil=>simp [Ad]
 | cons x X ih=>
  cases k with
  | zero=>simp [Ad]
  | succ k=>
   have hl:x.c.length=2:=rfl
   rw [Ff,List.take_succ_cons,Ff,← ih,show (k+1)*2=x.c.length+k*2 by omega,List.take_append,Zqi (by omega)]
   simp
theorem QB (a:Int) (L:List WR):(AE a L).length≤L.length:=List.length_filter_le _ _
theorem UF (a:Int) (L M:List WR):AE a (L++M)=AE a L++AE a M:=by unfold AE;simp
theorem UG {L:List WR}(h:∀ w ∈ L,Dt a w=false):AE a L=L:=by
 unfold AE;rw [List.filter_eq_self];intro w hw;rw [h w hw];rfl
theorem UH (p:WR→Bool):∀ (L:List WR) (i:Nat),(Bw p L i=-1∧∀ w ∈ L,p w=false)∨∃ (m:Nat) (h:m<L.length),Bw p L i=((i+m:Nat):Int)∧p L[m]=true∧∀ w ∈ L.take m,p w=false
 | [],i=>.inl ⟨rfl,by simp⟩
 | x::L,i=>by
  unfold Bw
  cases hx:p x
  ·rcases UH p L (i+1) with ⟨h1,h2⟩|⟨m,h,h1,h2,h3⟩
   ·exact .inl ⟨by rw [Zqh (by decide)];exact h1,fun w hw=>by rcases Zrj.1 hw with rfl|hw;exact hx;exact h2 w hw⟩
   ·refine .inr ⟨m+1,by simpa using h,?_,by simpa using h2,fun w hw=>?_⟩
    ·rw [Zqh (by decide),h1];congr 1;omega
    ·rw [List.take_succ_cons] at hw
     rcases Zrj.1 hw with rfl|hw
     ·exact hx
     ·exact h3 w hw
  ·exact .inr ⟨0,by simp,by rw [Zqd rfl];simp,by simpa using hx,by simp⟩
variable {W0:List WR}
theorem UJ {e:Env}(hE:EM P e) (h137:Inl e 115 Od [.tmp 3]) (hs:Sl 2 W0.length (Ad W0) v) (ha:Aa a) (hw:∀ w ∈ W0,Aa w.at_) (hn:W0.length<1000000) (Q:AV→St→Prop) (hk:∀ s,Q (.int .i64 (Bw (Dt a) W0 0)) s):
 VW P e 0 W3 (Ah [v,.fn 115 [] [.fp [.int .i64 a]]] 0 .lf) St0 none [] (BW [.tmp 4] Q):=by
 have hvf:=hs.hf
 conv=>whnf
 refine Ai hs ?_;conv=>whnf
 refine DZ (α:=Nat) (fun i=>[(0,v),(1,.fn 115 [] [.fp [.int .i64 a]]),(7,.int .i64 (W0.length:Int)),(8,.int .i64 (i:Int))]) (fun _=>[]) (fun i=>W0.length-i) (fun i=>i≤W0.length∧Bw (Dt a) W0 0=Bw (Dt a) (W0.drop i) i) 0 ⟨Zqs _,rfl⟩
  (Abs.tells (rs:=[]) .a) ?_
 rintro i ⟨hi,hI⟩
 refine Cy hE ?_
 by_cases hlt:i<W0.length
 ·have hd:=GC hlt
  have hwa:=hw _ (Zra hlt)
  rw [Zqw hlt] at hI
  have hall:=And.intro hI (And.intro hd hwa)
  clear hI hd hwa
  revert hall
  generalize W0[i]=w
  obtain ⟨wa,wu,wb⟩:=w
  rintro ⟨hI,hd,hwa⟩
  have hd:(Ad W0).drop (i*2)=[.int .i64 wa,wu]++Ad (W0.drop (i+1)):=hd
  have hI:Bw (Dt a) W0 0=if decide (wa=a) then (i:Int) else Bw (Dt a) (W0.drop (i+1)) (i+1):=hI
  unfold Aa at hwa ha
  dsimp only at hwa
  conv=>whnf
  refine Bb (a:=(i:Int)) (b:=(W0.length:Int)) rfl rfl (fun _=>?_) (fun h=>by omega);conv=>whnf
  repeat' (first|(refine Cr rfl hs rfl hlt ?_;rw [hd];conv=>whnf)|((first|refine A7 rfl ?_|refine ECall.inl h137.O h137.G ?_|refine Ap ?_|refine v7 ?_|refine ⟨rfl,?_⟩);conv=>whnf)|refine v5 ?_ ?_|(intro _;first|omega|conv=>whnf))
  ·rename_i he
   rw [Zqd (by simpa using he)] at hI
   rw [hI] at hk
   exact hk _
  ·rename_i he
   rw [Zqh (by simpa using he)] at hI
   exact ⟨i+1,⟨hlt,hI⟩,by omega,Abs.tells (rs:=[]) .a⟩
 ·have hd:W0.drop i=[]:=Zq5 (by omega)
  rw [hd] at hI
  have hI:Bw (Dt a) W0 0=-1:=hI
  rw [hI] at hk
  conv=>whnf
  refine Bb (a:=(i:Int)) (b:=(W0.length:Int)) rfl rfl (fun h=>by omega) (fun _=>?_);conv=>whnf
  exact hk _
structure WA where
 r:Nat
 q:Nat
 ws:List WR
 a:Int
structure WA.ok (x:WA) (s:St):Prop where
 g:s.get x.r=some (.row 146 (Ad x.ws))
 q:s.get x.q=some (.row 3 [.int .i64 x.a])
 w:∀ w ∈ x.ws,w.any
 a:Aa x.a
 n:x.ws.length<1000000
def WA.args (x:WA):List AV:=[.sl x.r 0 x.ws.length none,.fn 115 [] [.ptr x.q 0]]
variable {x:WA}
theorem WA.inj {y:WA}(hx:x.ok s) (hy:y.ok s) (h:x.args=y.args):x=y:=by
 obtain ⟨r,q,ws,a⟩:=x
 obtain ⟨r',q',ws',a'⟩:=y
 simp [WA.args] at h
 obtain ⟨⟨rfl,_⟩,rfl⟩:=h
 have e1:=hx.g.symm.trans hy.g
 have e2:=hx.q.symm.trans hy.q
 dsimp only at e1 e2
 injection e1 with e1
 injection e1 with _ e1
 injection e2 with e2
 injection e2 with _ e2
 injection e2 with e2
 injection e2 with _ e2
 have e3:=NS hx.w hy.w e1
 dsimp only at e3
 subst e2 e3;rfl
noncomputable def K1:Ov:=fun args s=>open Classical in if h:∃ x:WA,x.ok s∧args=x.args then .ok (.int .i64 (Bw (Dt (Classical.choose h).a) (Classical.choose h).ws 0)) s else .fail
theorem Za4 (hx:x.ok s):K1 x.args s=.ok (.int .i64 (Bw (Dt x.a) x.ws 0)) s:=by
 have h:∃ y:WA,y.ok s∧x.args=y.args:=⟨x,hx,rfl⟩
 unfold K1
 rw [dif_pos h]
 obtain ⟨h1,h2⟩:=Zro h
 rw [← WA.inj hx h1 h2]
def nilI:Fam Int:=⟨Aa,fun a=>[.nils,.fn 115 [] [.fp [.int .i64 a]]],fun a=>.int .i64 (-1),fun _ _ _ _ _=>rfl⟩
noncomputable def Hs:Ov:=Ge K1 nilI.O
theorem Zi5 {e:Env}(hE:EM P e) (h137:Inl e 115 Od [.tmp 3]):OvOk P 143 Hs:=by
 refine R8 ⟨g143.b,fun args s u s' hh=>?_⟩ (Cx g143.b fun a ha=>⟨rfl,rfl,C.of_G hE g143 (UJ (W0:=[]) hE h137 (.inl ⟨rfl,rfl,rfl⟩) ha (by simp) (by decide) _ fun s=>.plain _ rfl)⟩)
 unfold K1 at hh
 split at hh
 ·rename_i hx
  cases hh
  obtain ⟨h1,h2⟩:=Zro hx
  generalize Classical.choose hx=y at h1 h2 ⊢
  subst h2
  obtain ⟨r,q,ws,a⟩:=y
  obtain ⟨hg,hq,hw,ha,hn⟩:=h1
  dsimp only at hg hq hw ha hn
  have hwf:hfs (Ad ws)=true:=Fi fun w hwm=>(hw w hwm).b.1.hf
  have hfz:∀ (l:List AV) (s:St),hfs l=true→All2 (Frz s) l l:=fun l s=>by
   induction l with
   | nil=>intro _;exact .nil
   | cons v l ih=>intro h;simp only [hfs,Zqb] at h;exact .cons (.plain _ h.1) (ih h.2)
  refine Kz (args2:=[.fz ws.length none (Ad ws),.fn 115 [] [.fp [.int .i64 a]]]) (.cons (.sl r 0 ws.length none none 146 _ (Ad ws) _ hg (fun i x h=>by rw [Zqo];exact h) (hfz _ _ hwf) (.inl rfl)) (.cons (.fn 115 [] [.ptr q 0] [] [.fp [.int .i64 a]] .nil (.cons (.ptr q 0 3 [.int .i64 a] [.int .i64 a] [.int .i64 a] hq (fun i x h=>by rw [Zqo];exact h) (.cons (.plain _ rfl) .nil)) .nil)) .nil)) rfl (IS rfl ?_)
  exact C.of_G hE g143 (UJ hE h137 (.inr (.inr ⟨none,rfl,DE ws⟩)) ha (fun w hwm=>(hw w hwm).at_) hn _ fun s=>.plain _ rfl)
 ·cases hh
theorem Zfm {e:Env}(h:Con e 143 Hs) (hx:x.ok s) (hk:K (.int .i64 (Bw (Dt x.a) x.ws 0)) s):ESc e 143 x.args s K:=by
 refine ESc.ov h (v:=.int .i64 (Bw (Dt x.a) x.ws 0)) (s':=s) ?_ hk
 unfold Hs Ge
 rw [Za4 hx]
theorem Zfn {e:Env}(h:Con e 143 Hs) (ha:Aa a) (hk:K (.int .i64 (-1)) s):ESc e 143 [.nils,.fn 115 [] [.fp [.int .i64 a]]] s K:=by
 refine ESc.ov h (v:=.int .i64 (-1)) (s':=s) ?_ hk
 have:K1 [.nils,.fn 115 [] [.fp [.int .i64 a]]] s=.fail:=by
  unfold K1
  rw [dif_neg]
  rintro ⟨x,_,h⟩
  have:=(Zql h).1
  cases this
 unfold Hs Ge
 rw [this]
 exact Q2 nilI ha s
theorem Zfj {e:Env}(hE:EM P e) (h163:Con e 143 Hs) (h137:Inl e 115 Od [.tmp 3]) (ha:Aa a) (hw:∀ w ∈ W0,w.any) (hn:W0.length<1000000) (h1:1≤W0.length) (Q:AV→St→Prop)
 (hk:∀ s,s.get 0=some (.row 146 (Ad (AE a W0)++Bp zW (W0.length-(AE a W0).length)))→s.get 1=some (.row 3 [.int .i64 a])→Q (.sl 0 0 (AE a W0).length none) s):
 VW P e 2 Zjm (Ah [.sl 0 0 W0.length none,.fn 115 [] [.ptr 1 0]] 0 .lf) (Al St0 [.row 146 (Ad W0),.row 3 [.int .i64 a]]) none [] (BW [.tmp 4] Q):=by
 have hwf:∀ X:List WR,(∀ w ∈ X,w.any)→hfs (Ad X)=true:=fun X h=>Fi fun w hwm=>(h w hwm).b.1.hf
 have hx:∀ s:St,s.get 0=some (.row 146 (Ad W0))→s.get 1=some (.row 3 [.int .i64 a])→∀ K:AV→St→Prop,K (.int .i64 (Bw (Dt a) W0 0)) s→ESc e 143 [.sl 0 0 W0.length none,.fn 115 [] [.ptr 1 0]] s K:=fun s g1 g2 K hk=>Zfm h163 (x:=⟨0,1,W0,a⟩) ⟨g1,g2,hw,ha,hn⟩ hk
 conv=>whnf
 refine hx _ rfl rfl _ ?_
 rcases UH (Dt a) W0 0 with ⟨e1,e2⟩|⟨m,hml,e1,e2,e3⟩
 ·rw [e1]
  rw [UG e2,Nat.sub_self] at hk
  conv=>whnf
  repeat' (first|refine v5 ?_ ?_|(intro _;first|omega|conv=>whnf))
  refine hk _ ?_ rfl
  show _=some (AObj.row 146 (Ad W0++[]))
  rw [Zrk];rfl
 ·rw [e1,Zqo]
  conv=>whnf
  repeat' (first|(refine v7 ?_;conv=>whnf)|refine v5 ?_ ?_|(intro _;first|omega|conv=>whnf))
  have htm:AE a (W0.take m)=W0.take m:=UG e3
  have hsm:AE a (W0.take (m+1))=W0.take m:=by
   rw [Zqm hml,UF,htm]
   have:AE a [W0[m]]=[]:=by unfold AE;simp [e2]
   rw [this,Zrk]
  have hkm:(AE a (W0.take (m+1))).length=m:=by rw [hsm,Zqz];omega
  refine DZ (k:=2) (α:=Nat×List WR) (fun x=>[(0,.sl 0 0 W0.length none),(1,.fn 115 [] [.ptr 1 0]),(5,.int .i64 (((AE a (W0.take x.1)).length:Nat):Int)),(6,.int .i64 (x.1:Int))]) (fun x=>[.row 146 (Ad x.2),.row 3 [.int .i64 a]]) (fun x=>W0.length-x.1)
   (fun x=>x.1≤W0.length∧x.2.length=W0.length∧(∀ w ∈ x.2,w.any)∧(AE a (W0.take x.1)).length<x.1∧x.2.take (AE a (W0.take x.1)).length=AE a (W0.take x.1)∧x.2.drop x.1=W0.drop x.1) (m+1,W0)
   ⟨by dsimp only;omega,rfl,hw,by dsimp only;omega,by dsimp only;rw [hkm,hsm],rfl⟩
   (AbsK.tells (rs:=[0,1]) ⟨rfl,by decide,⟨r9,r9,⟨rfl,by dsimp only;rw [hkm];rfl⟩,r9,trivial⟩,⟨o9 (hwf _ hw),r9,trivial⟩⟩) ?_
  rintro ⟨j,X⟩ ⟨hj,hXl,hXa,hkj,hXt,hXd⟩
  dsimp only at hj hXl hXa hkj hXt hXd ⊢
  obtain ⟨k,hkd⟩:∃ k,k=(AE a (W0.take j)).length:=⟨_,rfl⟩
  rw [← hkd] at hkj hXt ⊢
  refine Cy hE ?_
  by_cases hlt:j<W0.length
  ·have hXj:X[j]?=some W0[j]:=by
    have:=congrArg (fun l:List WR=>l[0]?) hXd
    simp only [Zqk,Zri] at this
    rw [this,Zp9 hlt]
   have hwj:=hw _ (Zra hlt)
   have hKs:AE a (W0.take (j+1))=AE a (W0.take j)++AE a [W0[j]]:=by rw [Zqm hlt,UF]
   have hXd':X.drop (j+1)=W0.drop (j+1):=by
    have:=congrArg (List.drop 1) hXd
    rwa [List.drop_drop,List.drop_drop] at this
   have hall:=And.intro hXj (And.intro hwj hKs)
   clear hXj hwj hKs hsm htm hkm e2 e3 hx hXd hml
   revert hall
   generalize W0[j]=w
   rintro ⟨hXj,hwj,hKs⟩
   obtain ⟨wa,wu,wb⟩:=w
   have hwu:AM.hf wu=true:=hwj.b.1.hf
   have hwi:=hwj.at_
   unfold Aa at hwi ha
   dsimp only at hwi
   have hld:∀ s:St,s.get 0=some (.row 146 (Ad X))→load 0 (0+j*2) 2 s=some [.int .i64 wa,wu]:=fun s h=>Wj h hXj
   have hst:∀ s:St,s.get 0=some (.row 146 (Ad X))→storeAt 0 (0+k*2) [.int .i64 wa,wu] s=some (s.put 0 (.row 146 (Ad (X.set k ⟨wa,wu,wb⟩)))):=fun s h=>Zds (w:=⟨wa,wu,wb⟩) h (by omega)
   conv=>whnf
   refine Lm rfl ?_;conv=>whnf
   refine Bb (a:=(j:Int)) (b:=(W0.length:Int)) rfl rfl (fun _=>?_) (fun h=>by omega);conv=>whnf
   refine GH (i:=j) rfl rfl hlt ?_;conv=>whnf
   refine BA [.int .i64 wa,wu] (hld _ rfl) ?_;conv=>whnf
   refine ECall.inl h137.O h137.G ?_;conv=>whnf
   refine HI (a:=wa) (b:=a) rfl rfl (fun he=>?_) (fun he=>?_)
   ·conv=>whnf
    repeat' (first|((first|refine v7 ?_|refine An ?_|refine ⟨rfl,?_⟩);conv=>whnf)|fail)
    have hK1:AE a (W0.take (j+1))=AE a (W0.take j):=by
     rw [hKs]
     have:AE a [⟨wa,wu,wb⟩]=[]:=by unfold AE Dt;simp [he]
     rw [this,Zrk]
    refine ⟨(j+1,X),⟨by dsimp only;omega,hXl,hXa,by dsimp only;rw [hK1];omega,by dsimp only;rw [hK1,← hkd];exact hXt,hXd'⟩,by show W0.length-(j+1)<W0.length-j;omega,?_⟩
    dsimp only
    rw [hK1,← hkd]
    exact AbsK.tells (rs:=[0,1]) ⟨rfl,by decide,⟨r9,r9,r9,r9,trivial⟩,⟨o9 (hwf _ hXa),r9,trivial⟩⟩
   ·conv=>whnf
    refine HH rfl ?_;conv=>whnf
    refine GH (i:=k) rfl rfl (by omega) ?_;conv=>whnf
    refine BA _ (hst _ rfl) ?_;conv=>whnf
    repeat' (first|((first|refine v7 ?_|refine ⟨rfl,?_⟩);conv=>whnf)|fail)
    have hK1:AE a (W0.take (j+1))=AE a (W0.take j)++[⟨wa,wu,wb⟩]:=by
     rw [hKs]
     have:AE a [⟨wa,wu,wb⟩]=[⟨wa,wu,wb⟩]:=by unfold AE Dt;simp [he]
     rw [this]
    have hK2:(AE a (W0.take (j+1))).length=k+1:=by rw [hK1,Zqn,← hkd];rfl
    have hXs:∀ w ∈ X.set k ⟨wa,wu,wb⟩,w.any:=fun w hwm=>by
     rcases List.mem_or_eq_of_mem_set hwm with h|rfl
     ·exact hXa w h
     ·exact hwj
    refine ⟨(j+1,X.set k ⟨wa,wu,wb⟩),⟨by dsimp only;omega,by dsimp only;rw [List.length_set];exact hXl,hXs,by dsimp only;rw [hK2];omega,?_,?_⟩,by show W0.length-(j+1)<W0.length-j;omega,?_⟩
    ·dsimp only
     rw [hK2,hK1,← hXt]
     have hks:k<X.length:=by omega
     rw [Zqm (by rw [List.length_set];exact hks),List.take_set_of_le (Zqu _),List.getElem_set_self]
    ·dsimp only
     rw [List.drop_set_of_lt (by omega)];exact hXd'
    ·dsimp only
     rw [hK2]
     exact AbsK.tells (rs:=[0,1]) ⟨rfl,by decide,⟨r9,r9,r9,r9,trivial⟩,⟨o9 (hwf _ hXs),r9,trivial⟩⟩
  ·have hje:W0.take j=W0:=Zqi (by omega)
   rw [hje] at hkd hXt
   rw [← hkd] at hk
   conv=>whnf
   refine Lm rfl ?_;conv=>whnf
   refine Bb (a:=(j:Int)) (b:=(W0.length:Int)) rfl rfl (fun h=>by omega) (fun _=>?_);conv=>whnf
   refine Uu (l:=k) (h:=W0.length) rfl rfl rfl (by omega) (Zqu _) (by omega) ?_;conv=>whnf
   refine Zay rfl (Gm (e:=146) (cs:=Ad X) rfl (by rw [Qg,DE];show 0+k*2+(W0.length-k)*2≤_;omega)) ?_;conv=>whnf
   refine Uu (l:=0) (h:=k) rfl rfl rfl (Zqs _) (by omega) (by omega) ?_;conv=>whnf
   refine hk _ ?_ rfl
   show some (AObj.row 146 ((Ad X).take (0+k*2)++Bp zW (W0.length-k)++(Ad X).drop (0+k*2+(Bp zW (W0.length-k)).length)))=_
   rw [Qg,Zqo,Zdb,hXt,Zq5 (by rw [DE];show _≤k*2+(W0.length-k)*2;omega),Zrk]
structure WA1 (x:WA) (s:St):Prop where
 ok:x.ok s
 n:1≤x.ws.length
def WA.k (x:WA):Nat:=(AE x.a x.ws).length
noncomputable def WA.o (x:WA):AObj:=.row 146 (Ad (AE x.a x.ws)++Bp zW (x.ws.length-x.k))
noncomputable def KK:Ov:=fun args s=>open Classical in if h:∃ x:WA,WA1 x s∧args=x.args then .ok (.sl (Classical.choose h).r 0 (Classical.choose h).k none) (DN s [(Classical.choose h).r,(Classical.choose h).q] [(Classical.choose h).o,.row 3 [.int .i64 (Classical.choose h).a]]) else .fail
theorem VB (hx:WA1 x s):KK x.args s=.ok (.sl x.r 0 x.k none) (DN s [x.r,x.q] [x.o,.row 3 [.int .i64 x.a]]):=by
 have h:∃ y:WA,WA1 y s∧x.args=y.args:=⟨x,hx,rfl⟩
 unfold KK
 rw [dif_pos h]
 obtain ⟨h1,h2⟩:=Zro h
 rw [← WA.inj hx.ok h1.ok h2]
structure QA where
 q:Nat
 a:Int
structure QA.ok (x:QA) (s:St):Prop where
 q:s.get x.q=some (.row 3 [.int .i64 x.a])
 a:Aa x.a
noncomputable def Ph:Ov:=fun args s=>open Classical in if ∃ x:QA,x.ok s∧args=[.nils,.fn 115 [] [.ptr x.q 0]] then .ok .nils s else .fail
noncomputable def I2:Ov:=Ge KK Ph
theorem Wn {z:List AV}(h:hfs z=true):∀ n,hfs (Bp z n)=true
 | 0=>rfl
 | n+1=>by
  have:Bp z (n+1)=z++Bp z n:=by show Ba z (Bp z n)=_;rw [Db]
  rw [this];exact E2 h (Wn h n)
theorem Zi4 {e:Env}(hE:EM P e) (h163:Con e 143 Hs) (h137:Inl e 115 Od [.tmp 3]):OvOk P 114 I2:=by
 refine R8 ⟨g114.b,fun args s u s' hh=>?_⟩ ⟨g114.b,fun args s u s' hh=>?_⟩
 ·have hx0:∃ x:WA,WA1 x s∧args=x.args:=by
   unfold KK at hh
   split at hh
   ·rename_i h;exact h
   ·cases hh
  obtain ⟨x,hx,rfl⟩:=hx0
  rw [VB hx] at hh
  cases hh
  obtain ⟨r,q,ws,a⟩:=x
  obtain ⟨⟨hg,hq,hw,ha,hn⟩,h1⟩:=hx
  dsimp only at hg hq hw ha hn h1
  have hrq:r≠q:=fun e=>by
   subst e
   rw [hg] at hq;injection hq with hq;injection hq with hq _;cases hq
  have hwf:hfs (Ad ws)=true:=Fi fun w hwm=>(hw w hwm).b.1.hf
  have hkf:hfs (Ad (AE a ws)++Bp zW (ws.length-(AE a ws).length))=true:=E2 (Fi fun w hwm=>(hw w (List.mem_filter.1 hwm).1).b.1.hf) (Wn rfl _)
  have key:=Zda (P:=P) (f:=114) (args0:=[.sl 0 0 ws.length none,.fn 115 [] [.ptr 1 0]]) (u:=.sl 0 0 (AE a ws).length none) (os:=[.row 146 (Ad ws),.row 3 [.int .i64 a]]) (os2:=[.row 146 (Ad (AE a ws)++Bp zW (ws.length-(AE a ws).length)),.row 3 [.int .i64 a]]) (rs:=[r,q]) (s:=s)
   (by simp [hrq]) rfl (fun i o t ho ht=>by
     rcases i with _|_|i
     ·cases ho;cases ht;exact ⟨by rw [AX hwf];exact hg,Bd hwf,rfl⟩
     ·cases ho;cases ht;exact ⟨hq,rfl,rfl⟩
     ·cases ho) (fun i hi=>by
     rcases i with _|_|i
     ·rfl
     ·rfl
     ·exact absurd (show i+1+1<2 from hi) (by omega)) rfl (Zqu _) (by simp) (fun o ho=>by
     rcases Zrj.1 ho with rfl|ho
     ·rfl
     ·rcases Zrj.1 ho with rfl|ho
      ·rfl
      ·cases ho) (C1.of_G hE g114 (Zfj hE h163 h137 ha hw hn h1 _ fun s g0 g1=>⟨[0,1],⟨rfl,by decide,⟨r9,trivial⟩,⟨⟨Bd hkf,by rw [AX hkf];exact g0⟩,⟨rfl,g1⟩,trivial⟩⟩⟩))
  refine key.mono ?_
  rintro v s' ⟨rfl,rfl⟩
  refine ⟨rfl,?_⟩
  show DN s [r,q] [Bv _ (.row 146 (Ad (AE a ws)++Bp zW (ws.length-(AE a ws).length))),_]=_
  rw [AX hkf];rfl
 ·unfold Ph at hh
  split at hh
  ·rename_i hx
   cases hh
   obtain ⟨⟨q,a⟩,⟨hq,ha⟩,rfl⟩:=hx
   dsimp only at hq ha
   refine Kz (args2:=[.nils,.fn 115 [] [.fp [.int .i64 a]]]) (.cons (.plain _ rfl) (.cons (.fn 115 [] [.ptr q 0] [] [.fp [.int .i64 a]] .nil (.cons (.ptr q 0 3 [.int .i64 a] [.int .i64 a] [.int .i64 a] hq (fun i x h=>by rw [Zqo];exact h) (.cons (.plain _ rfl) .nil)) .nil)) .nil)) rfl (IS rfl ?_)
   refine C.of_G hE g114 ?_;conv=>whnf
   refine Zfn h163 ha ?_;conv=>whnf
   refine HI (a:=-1) (b:=-1) rfl rfl (fun _=>?_) (fun h=>absurd rfl h);conv=>whnf
   exact .plain _ rfl
  ·cases hh
theorem Zfk {e:Env}(h:Con e 114 I2) (hx:WA1 x s) (hk:K (.sl x.r 0 x.k none) (DN s [x.r,x.q] [x.o,.row 3 [.int .i64 x.a]])):ESc e 114 x.args s K:=by
 refine ESc.ov h (v:=.sl x.r 0 x.k none) (s':=DN s [x.r,x.q] [x.o,.row 3 [.int .i64 x.a]]) ?_ hk
 unfold I2 Ge
 rw [VB hx]
theorem Zfl {e:Env}(h:Con e 114 I2) {x:QA}(hx:x.ok s) (hk:K .nils s):ESc e 114 [.nils,.fn 115 [] [.ptr x.q 0]] s K:=by
 refine ESc.ov h (v:=.nils) (s':=s) ?_ hk
 have:KK [.nils,.fn 115 [] [.ptr x.q 0]] s=.fail:=by
  unfold KK
  rw [dif_neg]
  rintro ⟨x,_,h⟩
  have:=(Zql h).1
  cases this
 unfold I2 Ge
 rw [this]
 show Ph _ s=_
 unfold Ph
 rw [Zqd ⟨x,hx,rfl⟩]
def wvF (n:Nat) (L:List WR):AV:=match n with
 | 0=>.nils
 | _+1=>.fz L.length none (Ad L)
def ED (x:DKW):DK:=⟨.fz x.d.us.length none ((x.d.us.map Ac).set x.a.toNat (Ay (Ae x.b))),(x.d.us.map Ac).set x.a.toNat (Ay (Ae x.b)),x.d.bs.set x.a.toNat (Ae x.b),wvF x.d.ws.length (AE x.a (x.d.ws.map A0)),AE x.a (x.d.ws.map A0),x.d.dead⟩
def CW:List AV:=[.nils,.nils,.bool false]
def Ja (x:DKW):AV:=if BE x.d x.a x.b=0 then .tup [(ED x).v,.int .i64 0] else .tup [.agg CW,.int .i64 (BE x.d x.a x.b)]
theorem Zlr (n:Nat) (L:List WR):AM.hf (wvF n L)=true:=by cases n <;> rfl
theorem Zcd (x:DKW):AM.hf (Ja x)=true:=by
 unfold Ja
 split
 ·show ((true && (AM.hf (wvF _ _) && (true && true))) && (true && true))=true
  rw [Zlr];rfl
 ·rfl
def fuaF:Fam DKW:=⟨DKW.ok,DKW.args,Ja,fun x y hx hy h=>by rw [DKW.inja hx hy h]⟩
theorem U2 {e:Nat}(h:s.get r=some (.row e cs)) (hi:i<cs.length):storeAt r (0+i*1) [v] s=some (s.put r (.row e (cs.set i v))):=by
 rw [Gm h (by show 0+i*1+1≤_;omega),Zqo,Zrc,List.set_eq_take_append_cons_drop,Zqd hi]
 simp
theorem NP {α β:Type}{R:α→β→Prop}{a:α}{b:β}(hab:R a b):∀ {l:List α}{m:List β},All2 R l m→∀ i,All2 R (l.set i a) (m.set i b)
 | _,_,.nil,i=>by simp;exact .nil
 | _,_,.cons h1 h2,0=>.cons hab h2
 | _,_,.cons h1 h2,i+1=>.cons h1 (NP hab h2 i)
theorem Cz:∀ {l:List AV},hfs l=true→All2 (Frz s) l l
 | [],_=>.nil
 | v::l,h=>by
  simp only [hfs,Zqb] at h
  exact .cons (.plain _ h.1) (Cz h.2)
theorem Rr {b:List Nat}(h:BAt u b):BAt (Ac u) b:=by
 obtain ⟨h1,h2⟩:=h
 refine ⟨?_,h2⟩
 rcases h1 with ⟨rfl,e1,e2⟩|⟨rfl,e1,e2⟩|⟨c,rfl,e⟩
 ·exact .inl ⟨rfl,e1,e2⟩
 ·exact .inr (.inr ⟨none,by show AV.fz 0 none []=_;rw [e1,e2],by rw [e2,e1];rfl⟩)
 ·exact .inr (.inr ⟨none,rfl,e⟩)
theorem HS (h:w.any):(A0 w).any:=⟨h.at_,Rr h.b⟩
theorem L9 (hd:d.any):hfs (d.us.map Ac)=true:=Rf _ fun u hu=>by
 obtain ⟨k,hk⟩:=Zr3.1 hu
 obtain ⟨b,_,hb⟩:=hd.bs.get hk
 exact (Rr hb).1.hf
theorem Jr {b:List Nat}(h:BE d a b=0):AP d=true∧(0≤a∧a<d.us.length)∧AQ b.length=false∧d.dead=false:=by
 unfold BE Iz at h
 by_cases h1:AP d=true
 ·rw [Zqd h1] at h
  by_cases h2:0≤a∧a<d.us.length
  ·rw [Zqd h2,Zqd rfl] at h
   by_cases h3:AQ b.length=true
   ·rw [Zqd h3] at h;cases h
   ·rw [Zqh h3] at h
    cases h4:d.dead
    ·exact ⟨h1,h2,by simpa using h3,rfl⟩
    ·rw [h4] at h;cases h
  ·rw [Zqh h2,Zqh (by decide)] at h;cases h
 ·rw [Zqh h1,Zqh (by decide)] at h;cases h
theorem Zh4 {e:Env}(hE:EM P e) (h102:Con e 113 wrtF.O) (h103:Con e 66 Dj) (h98:Inl e 102 Kq [.tmp 2]) (h141:Inl e 119 GU [.tmp 2]) (h136:Con e 114 I2):OvOk P 63 fuaF.O:=by
 refine Cx g63.b fun x hx=>?_
 refine ⟨DKW.hfa hx,Zcd x,C.of_G hE g63 ?_⟩
 have hfam:=fun (s:St) (K:AV→St→Prop) (hk:K (.int .i64 (BE x.d x.a x.b)) s)=>ESc.fam wrtF h102 x hx (u:=.int .i64 (BE x.d x.a x.b)) rfl hk
 by_cases h0:BE x.d x.a x.b=0
 ·obtain ⟨q1,q2,q3,q4⟩:=Jr h0
  have hbl:x.b.length=0∨x.b.length=128:=HV q3
  have hdk1:DK1 x.d:=⟨hx.d,by omega⟩
  have htw:=JV hdk1
  have hUf:=L9 hx.d.a
  have hWa:∀ w ∈ x.d.ws.map A0,w.any:=fun w hw=>by
   obtain ⟨v,hv,rfl⟩:=Zq9.1 hw
   exact HS (hx.d.a.ws v hv)
  have hout:fuaF.out x=.tup [(ED x).v,.int .i64 0]:=by show Ja x=_;unfold Ja;rw [Zqd h0]
  rw [h0] at hfam
  rw [hout]
  obtain ⟨⟨bv,us,bs,wv,ws,dd⟩,a,u,b⟩:=x
  obtain ⟨hd,ha,hbt,hbn⟩:=hx
  dsimp only at q2 q4 hbl htw hUf hWa ha hbt hbn
  subst q4
  obtain ⟨n,rfl⟩:∃ n:Nat,a=(n:Int):=⟨a.toNat,by omega⟩
  have hn:n<us.length:=by omega
  have hfB:∀ (s:St) r cp,s.get r=some (.row 5 (Ab (Ae b)))→Frz s (.sl r 0 128 cp) (Ay (Ae b)):=fun s r cp h=>.sl r 0 128 cp none 5 _ (Ab (Ae b)) _ h (fun i x h=>by rw [Zqo];exact h) (LN _) (.inl rfl)
  have hbk:∀ (s:St) r cp,s.get 3=some (.row 76 ((us.map Ac).set n (.sl r 0 128 cp)))→s.get r=some (.row 5 (Ab (Ae b)))→Frz s (.sl 3 0 us.length none) (.fz us.length none ((us.map Ac).set n (Ay (Ae b)))):=fun s r cp h1 h2=>
   .sl 3 0 us.length none none 76 _ ((us.map Ac).set n (.sl r 0 128 cp)) _ h1 (fun i x h=>by rw [Zqo];exact h) (NP (hfB s r cp h2) (Cz hUf) n) (.inl rfl)
  have hset:∀ (s:St) v,s.get 3=some (.row 76 (us.map Ac))→storeAt 3 (0+n*1) [v] s=some (s.put 3 (.row 76 ((us.map Ac).set n v))):=fun s v h=>U2 h (by rw [Zqg];exact hn)
  have hwm:=hd.m
  clear q1 q3 hout
  show VW P e 0 (match Nc with|.mk c _=>c) (Ah [.agg [bv,wv,.bool false],.int .i64 (n:Int),u] 0 .lf) St0 none [] _
  have hfam:∀ (s:St) (K:AV→St→Prop),K (.int .i64 0) s→ESc e 113 [.agg [bv,wv,.bool false],.int .i64 (n:Int),u] s K:=hfam
  rcases ws with _|⟨w0,ws⟩
  ·have htw:∀ s,Dj [.agg [bv,wv,.bool false]] s=.ok (.agg [.sl (0+s.next) 0 us.length none,.nils,.bool false]) (Al s [.row 76 (us.map Ac)]):=htw
   have fin:∀ (s:St) r cp,s.get 3=some (.row 76 ((us.map Ac).set n (.sl r 0 128 cp)))→s.get r=some (.row 5 (Ab (Ae b)))→Frz s (.tup [.agg [.sl 3 0 us.length none,.nils,.bool false],.int .i64 0]) (.tup [(ED ⟨⟨bv,us,bs,wv,[],false⟩,(n:Int),u,b⟩).v,.int .i64 0]):=fun s r cp h1 h2=>
    .tup _ _ (.cons (.agg _ _ (.cons (hbk s r cp h1 h2) (.cons (.plain _ rfl) (.cons (.plain _ rfl) .nil)))) (.cons (.plain _ rfl) .nil))
   have hdel:∀ (s:St) (K:AV→St→Prop),s.get 1=some (.row 3 [.int .i64 (n:Int)])→K .nils s→ESc e 114 [.nils,.fn 115 [] [.ptr 1 0]] s K:=fun s K h1 hk=>Zfl h136 (x:=⟨1,(n:Int)⟩) ⟨h1,ha⟩ hk
   conv=>whnf
   refine hfam _ _ ?_;conv=>whnf
   repeat' (first|refine v6 ?_ ?_|(intro _;first|omega|conv=>whnf))
   refine ESc.ov h103 (htw _) ?_;conv=>whnf
   refine JR h98 h141 hbt hbl (by show 4<1000000;decide) (fun h0=>?_) (fun h1=>?_)
   ·conv=>whnf
    repeat' (first|((first|refine GH (i:=n) rfl rfl hn ?_|refine BA _ (hset _ _ rfl) ?_|refine hdel _ _ rfl ?_|refine ⟨rfl,?_⟩);conv=>whnf)|fail)
    exact fin _ _ _ rfl rfl
   ·conv=>whnf
    repeat' (first|((first|refine GH (i:=n) rfl rfl hn ?_|refine BA _ (hset _ _ rfl) ?_|refine hdel _ _ rfl ?_|refine ⟨rfl,?_⟩);conv=>whnf)|fail)
    exact fin _ _ _ rfl rfl
  ·have htw:∀ s,Dj [.agg [bv,wv,.bool false]] s=.ok (.agg [.sl (0+s.next) 0 us.length none,.sl (1+s.next) 0 (ws.length+1) none,.bool false]) (Al s [.row 76 (us.map Ac),.row 146 (Ad ((w0::ws).map A0))]):=htw
   have hkf:hfs (Ad (AE (n:Int) ((w0::ws).map A0)))=true:=Fi fun w hw=>(hWa w (List.mem_filter.1 hw).1).b.1.hf
   have hkl:(AE (n:Int) ((w0::ws).map A0)).length≤ws.length+1:=by
    have:=QB (n:Int) ((w0::ws).map A0)
    rw [Zqg] at this;exact this
   have fin:∀ (s:St) r cp,s.get 3=some (.row 76 ((us.map Ac).set n (.sl r 0 128 cp)))→s.get r=some (.row 5 (Ab (Ae b)))→s.get 4=some (WA.o ⟨4,1,(w0::ws).map A0,(n:Int)⟩)→Frz s (.tup [.agg [.sl 3 0 us.length none,.sl 4 0 (WA.k ⟨4,1,(w0::ws).map A0,(n:Int)⟩) none,.bool false],.int .i64 0]) (.tup [(ED ⟨⟨bv,us,bs,wv,w0::ws,false⟩,(n:Int),u,b⟩).v,.int .i64 0]):=fun s r cp h1 h2 h3=>
    .tup _ _ (.cons (.agg _ _ (.cons (hbk s r cp h1 h2) (.cons (.sl 4 0 _ none none 146 _ (Ad (AE (n:Int) ((w0::ws).map A0))) _ h3 (fun i x h=>by
     rw [Zqo,Zqt (Zqa.1 h).1];exact h) (Cz hkf) (.inl rfl)) (.cons (.plain _ rfl) .nil)))) (.cons (.plain _ rfl) .nil))
   have hdel:∀ (s:St) (K:AV→St→Prop),s.get 4=some (.row 146 (Ad ((w0::ws).map A0)))→s.get 1=some (.row 3 [.int .i64 (n:Int)])→K (.sl 4 0 (WA.k ⟨4,1,(w0::ws).map A0,(n:Int)⟩) none) (DN s [4,1] [WA.o ⟨4,1,(w0::ws).map A0,(n:Int)⟩,.row 3 [.int .i64 (n:Int)]])→ESc e 114 [.sl 4 0 (ws.length+1) none,.fn 115 [] [.ptr 1 0]] s K:=fun s K h4 h1 hk=>by
    have:=Zfk h136 (x:=⟨4,1,(w0::ws).map A0,(n:Int)⟩) ⟨⟨h4,h1,hWa,ha,by dsimp only;rw [Zqg];exact hwm⟩,by simp⟩ hk
    have ea:WA.args ⟨4,1,(w0::ws).map A0,(n:Int)⟩=[.sl 4 0 (ws.length+1) none,.fn 115 [] [.ptr 1 0]]:=by unfold WA.args;simp
    rw [ea] at this
    exact this
   conv=>whnf
   refine hfam _ _ ?_;conv=>whnf
   repeat' (first|refine v6 ?_ ?_|(intro _;first|omega|conv=>whnf))
   refine ESc.ov h103 (htw _) ?_;conv=>whnf
   refine JR h98 h141 hbt hbl (by show 5<1000000;decide) (fun h0=>?_) (fun h1=>?_)
   ·conv=>whnf
    repeat' (first|((first|refine GH (i:=n) rfl rfl hn ?_|refine BA _ (hset _ _ rfl) ?_|refine hdel _ _ rfl rfl ?_|refine ⟨rfl,?_⟩);conv=>whnf)|fail)
    exact fin _ _ _ rfl rfl rfl
   ·conv=>whnf
    repeat' (first|((first|refine GH (i:=n) rfl rfl hn ?_|refine BA _ (hset _ _ rfl) ?_|refine hdel _ _ rfl rfl ?_|refine ⟨rfl,?_⟩);conv=>whnf)|fail)
    exact fin _ _ _ rfl rfl rfl
 ·have hout:fuaF.out x=.tup [.agg CW,.int .i64 (BE x.d x.a x.b)]:=by show Ja x=_;unfold Ja;rw [Zqh h0]
  rw [hout]
  obtain ⟨E,hE'⟩:∃ E,E=BE x.d x.a x.b:=⟨_,rfl⟩
  rw [← hE'] at h0 hfam ⊢
  obtain ⟨⟨bv,us,bs,wv,ws,dd⟩,a,u,b⟩:=x
  have hfam:∀ (s:St) (K:AV→St→Prop),K (.int .i64 E) s→ESc e 113 [.agg [bv,wv,.bool dd],.int .i64 a,u] s K:=hfam
  show VW P e 0 (match Nc with|.mk c _=>c) (Ah [.agg [bv,wv,.bool dd],.int .i64 a,u] 0 .lf) St0 none [] _
  conv=>whnf
  refine hfam _ _ ?_;conv=>whnf
  refine JI (a:=E) (b:=0) rfl rfl (fun _=>?_) (fun h=>absurd h h0);conv=>whnf
  skip
  exact .plain _ rfl
end Go.AM
namespace Go.AM
open X
theorem R7 {bs:List Nat}(hb:∀ b ∈ bs,b<256):∀ b ∈ Ae bs,b<256:=by
 unfold Ae
 split
 ·intro b hb';rw [List.eq_of_mem_replicate hb'];decide
 ·exact hb
end Go.AM
namespace Go.AM
attribute [local irreducible] W
open X
structure UB where
 u:AV
 b:List Nat
structure UB.ok (x:UB):Prop where
 b:BAt x.u x.b
 l:x.b.length=0∨x.b.length=128
structure RdS where
 S:List (Int×List Nat)
 p:Option (List Nat)
structure RdS.ok (x:RdS):Prop where
 n:x.S.length≤17
 s:∀ p ∈ x.S,(0≤p.1∧p.1<256)∧p.2.length=128∧∀ y ∈ p.2,y<256
 p:∀ b,x.p=some b→b.length=128∧∀ y ∈ b,y<256
theorem Zlv {b:List Nat}(h:b.length=128∧∀ y ∈ b,y<256):BAt (Ay b) b:=⟨.inr (.inr ⟨none,by rw [h.1];rfl,by rw [Bt];omega⟩),h.2⟩
section
variable {t:AT}{s:St}{k:AV→St→Prop}{x y:AO}
end
end Go.AM
namespace Go.AM
attribute [local irreducible] W
open X
theorem Ot {b:List Nat}(h:b.length=0∨b.length=128) (hb:∀ y ∈ b,y<256):BAt (Ay (Ae b)) (Ae b)∧(Ae b).length=128:=by
 have hl:=Lq h
 exact ⟨Zlv ⟨hl,R7 hb⟩,hl⟩
theorem JS {us:List AV}{bs:List (List Nat)}(h:All2 BAt us bs):All2 BAt (us.map Ac) bs:=by
 induction h with
 | nil=>exact .nil
 | cons a b ih=>exact .cons (Rr a) ih
variable {a:Int}
theorem N6 {L:List WR}{w:WR}(h:w ∈ AE a (L.map A0)):∃ v ∈ L,w=A0 v∧v.at_≠a:=by
 obtain ⟨h1,h2⟩:=List.mem_filter.1 h
 obtain ⟨v,hv,rfl⟩:=Zq9.1 h1
 refine ⟨v,hv,rfl,fun e=>?_⟩
 unfold Dt at h2
 simp at h2
 exact h2 e
theorem Zkf (n:Nat) (L:List WR) (h:L.length≤n):Sl 2 L.length (Ad L) (wvF n L):=by
 cases n with
 | zero=>
  have:L=[]:=Zq7.1 (by omega)
  subst this;exact .inl ⟨rfl,rfl,rfl⟩
 | succ n=>exact .inr (.inr ⟨none,rfl,DE L⟩)
variable {x:DKW}
theorem Wr (hx:x.ok) (h:BE x.d x.a x.b=0):(ED x).ok:=by
 obtain ⟨q1,q2,q3,q4⟩:=Jr h
 have hbl:=HV q3
 obtain ⟨p1,p2⟩:=Ot hbl hx.b.2
 have hkl:=QB x.a (x.d.ws.map A0)
 rw [Zqg] at hkl
 have hm:=hx.d.m
 refine ⟨⟨?_,NP p1 (JS hx.d.a.bs) _,Zkf _ _ hkl,fun w hw=>?_⟩,?_,?_,fun b hb=>?_,fun w hw=>?_⟩
 ·refine .inr (.inr ⟨none,?_,by rw [Zrc]⟩)
  show AV.fz x.d.us.length none _=.fz ((x.d.us.map Ac).set _ _).length none _
  rw [List.length_set,Zqg];rfl
 ·obtain ⟨v,hv,rfl,_⟩:=N6 hw
  exact HS (hx.d.a.ws v hv)
 ·show ((x.d.us.map Ac).set _ _).length<_
  rw [List.length_set,Zqg];exact hx.d.n
 ·show (AE x.a (x.d.ws.map A0)).length<_;omega
 ·rcases List.mem_or_eq_of_mem_set hb with h|rfl
  ·exact hx.d.b b h
  ·omega
 ·obtain ⟨v,hv,rfl,_⟩:=N6 hw
  exact hx.d.w v hv
theorem QD (x:DKW):(ED x).us.length=x.d.us.length:=by
 show ((x.d.us.map Ac).set _ _).length=_
 rw [List.length_set,Zqg]
theorem dskB_iff {x:DK}:AP x=true↔(1≤x.us.length∧x.us.length≤256∧x.ws.length≤1024)∧(∀ b ∈ x.bs,AQ b.length=false)∧(∀ w ∈ x.ws,Bm x.us.length w=false)∧(x.dead=true→x.ws.length=0∧∀ b ∈ x.bs,E9 b.length=false):=by
 unfold AP
 simp only [Zqb,Zq6,Bool.not_eq_true',List.any_eq_false,Zq9,forall_exists_index,and_imp,forall_apply_eq_imp_iff₂,Zr8,Bool.and_eq_false_iff,Zru,Zrf]
 constructor
 ·rintro ⟨⟨⟨h1,h2⟩,h3⟩,h4⟩
  refine ⟨h1,h2,h3,fun hd=>?_⟩
  rcases h4 with h4|⟨h4,h5⟩
  ·rw [hd] at h4;cases h4
  ·exact ⟨by omega,h5⟩
 ·rintro ⟨h1,h2,h3,h4⟩
  refine ⟨⟨⟨h1,h2⟩,h3⟩,?_⟩
  cases hd:x.dead
  ·exact .inl rfl
  ·obtain ⟨h5,h6⟩:=h4 hd
   exact .inr ⟨by omega,h6⟩
theorem Ze0 (hx:x.ok) (h:BE x.d x.a x.b=0):AP (ED x)=true:=by
 obtain ⟨q1,q2,q3,q4⟩:=Jr h
 obtain ⟨d1,d2,d3,d4⟩:=dskB_iff.1 q1
 have hbl:=HV q3
 obtain ⟨p1,p2⟩:=Ot hbl hx.b.2
 have hkl:=QB x.a (x.d.ws.map A0)
 rw [Zqg] at hkl
 refine dskB_iff.2 ⟨?_,fun b hb=>?_,fun w hw=>?_,fun hd=>?_⟩
 ·rw [QD]
  have:(ED x).ws.length≤x.d.ws.length:=hkl
  omega
 ·rcases List.mem_or_eq_of_mem_set hb with h|rfl
  ·exact d2 b h
  ·rw [p2];rfl
 ·rw [QD]
  obtain ⟨v,hv,rfl,_⟩:=N6 hw
  exact d3 v hv
 ·have hd:x.d.dead=true:=hd
  rw [q4] at hd;cases hd
variable {p:Int}
theorem ZZ (hp:p≠a) (L:List WR):Cg p (AE a (L.map A0)).reverse=Cg p L.reverse:=by
 have h1:(AE a (L.map A0)).reverse=AE a (L.reverse.map A0):=by unfold AE;rw [← List.filter_reverse,← List.map_reverse]
 rw [h1]
 generalize L.reverse=M
 induction M with
 | nil=>rfl
 | cons w M ih=>
  rw [Zrp]
  by_cases ha:w.at_=a
  ·have e:AE a (A0 w::M.map A0)=AE a (M.map A0):=by
    unfold AE Dt;rw [List.filter_cons_of_neg];show ¬ (!decide (w.at_=a))=true;simp [ha]
   rw [e,ih]
   show _=if w.at_=p then _ else _
   rw [Zqh (fun e:w.at_=p=>hp (by rw [← e,ha]))]
  ·have e:AE a (A0 w::M.map A0)=A0 w::AE a (M.map A0):=by
    unfold AE Dt;rw [List.filter_cons_of_pos];show (!decide (w.at_=a))=true;simp [ha]
   rw [e]
   show (if w.at_=p then some w.b else _)=if w.at_=p then some w.b else _
   rw [ih]
theorem ZY (hp:p=a) (L:List WR):Cg p (AE a (L.map A0)).reverse=none:=by
 have hno:∀ M:List WR,(∀ w ∈ M,w.at_≠p)→Cg p M=none:=fun M=>by
  induction M with
  | nil=>intro _;rfl
  | cons w M ih=>
   intro h
   show (if w.at_=p then _ else _)=_
   rw [Zqh (h w (by simp)),ih fun v hv=>h v (by simp [hv])]
 refine hno _ fun w hw=>?_
 obtain ⟨v,_,rfl,hv⟩:=N6 (List.mem_reverse.1 hw)
 rw [hp];exact hv
theorem Zfh (hx:x.ok) (h:BE x.d x.a x.b=0) (hp:0≤p):D7 (ED x) p=if p=x.a then Ae x.b else D7 x.d p:=by
 obtain ⟨q1,q2,q3,q4⟩:=Jr h
 have hl:=hx.d.a.bs.length
 unfold D7 F2
 by_cases hpa:p=x.a
 ·rw [Zqd hpa]
  show (Cg p (AE x.a (x.d.ws.map A0)).reverse).getD ((x.d.bs.set x.a.toNat (Ae x.b)).getD p.toNat [])=_
  rw [ZY hpa,hpa]
  show (x.d.bs.set x.a.toNat (Ae x.b)).getD x.a.toNat []=_
  rw [Zq2,List.getElem?_set_self (by omega)];rfl
 ·rw [Zqh hpa]
  show (Cg p (AE x.a (x.d.ws.map A0)).reverse).getD ((x.d.bs.set x.a.toNat (Ae x.b)).getD p.toNat [])=_
  rw [ZZ hpa]
  congr 1
  rw [Zq2,Zq2,List.getElem?_set_ne (by omega)]
def sizF:Fam BN:=⟨BN.ok,fun x=>[x.v],fun x=>.bool (!AQ x.n),fun x y hx hy h=>by rw [BN.inj hx hy h]⟩
variable {e:Env}
theorem ZD (hE:EM P e):OvOk P 128 sizF.O:=by
 refine Cx g128.b ?_
 rintro ⟨v,n⟩ hx
 obtain ⟨⟨l,hv⟩,hn⟩:=hx
 dsimp only at hv hn
 refine ⟨by show (AM.hf v && true)=true;rw [hv.hf];rfl,rfl,C.of_G hE g128 ?_⟩
 have fin:∀ s (b:Bool),b=!AQ n→Frz s (.bool b) (sizF.out ⟨v,n⟩):=by
  rintro s b rfl;exact .plain _ rfl
 unfold AQ at fin
 show VW P e 0 (match MO with|.mk c _=>c) (Ah [v] 0 .lf) St0 none [] _
 conv=>whnf
 repeat' (first|((first|refine Ai hv ?_|refine v7 ?_|refine v8 ?_|refine v9 ?_|refine C6 ?_|refine C5 ?_|refine An ?_|refine As ?_|refine Cj ?_|refine CG ?_|refine CU ?_|refine Cp ?_|refine CK ?_|refine CX ?_|refine BY ?_|refine ⟨rfl,?_⟩);conv=>whnf)|refine v1 ?_ ?_|refine v2 ?_ ?_|refine v3 ?_ ?_|refine v4 ?_ ?_|refine v5 ?_ ?_|refine v6 ?_ ?_|(refine w19 rfl ?_ ?_ <;> intro hc <;> (try subst hc) <;> conv=>whnf)|(intro _;first|omega|conv=>whnf))
 all_goals first
  | exact fin _ _ (by rw [Zqe (by omega),Zqe (by omega)];rfl)
  | exact fin _ _ (by rw [Zqe (by omega),Zqq (by omega)];rfl)
  | exact fin _ _ (by rw [Zqq (by omega)];rfl)
def Zjr:AC:=match P9 with|.mk c _=>c
def Zjq:AC:=match MM with|.mk c _=>c
def mayRF:Fam Cfg:=⟨Cfg.ok,fun x=>[x.v],fun x=>.bool (decide x.may),fun x y _ _ h=>by rw [HU (Zql h).1]⟩
theorem Zed (hE:EM P e) (h108:Inl e 163 Zjr [.tmp 6]) (h109:Inl e 164 Zjq [.tmp 2]):OvOk P 120 mayRF.O:=by
 refine Cx g120.b ?_
 rintro ⟨id,members,chunk,rows,log,heads⟩ ⟨h1,h2,h3,h4,h5,h6⟩
 unfold Aa at h2 h3 h4 h5 h6
 dsimp only at h2 h3 h4 h5 h6
 refine ⟨rfl,rfl,C.of_G hE g120 ?_⟩
 have fin1:∀ s,((3≤members∧members≤16)∧(1≤chunk∧chunk≤8)∧(1≤rows∧rows≤8)∧(2≤heads∧heads≤8)∧(members+1)*(heads+1)≤log∧log≤255)→Frz s (.bool true) (mayRF.out ⟨id,members,chunk,rows,log,heads⟩):=by
  intro s h
  show Frz s _ (.bool (decide (Cfg.may ⟨id,members,chunk,rows,log,heads⟩)))
  rw [Zqe (show Cfg.may ⟨id,members,chunk,rows,log,heads⟩ from h)];exact .plain _ rfl
 have fin0:∀ s,¬ ((3≤members∧members≤16)∧(1≤chunk∧chunk≤8)∧(1≤rows∧rows≤8)∧(2≤heads∧heads≤8)∧(members+1)*(heads+1)≤log∧log≤255)→Frz s (.bool false) (mayRF.out ⟨id,members,chunk,rows,log,heads⟩):=by
  intro s h
  show Frz s _ (.bool (decide (Cfg.may ⟨id,members,chunk,rows,log,heads⟩)))
  rw [Zqq (show ¬ Cfg.may ⟨id,members,chunk,rows,log,heads⟩ from h)];exact .plain _ rfl
 show VW P e 0 (match YH with|.mk c _=>c) (Ah [AV.agg [.int .u32 id,.int .i64 members,.int .i64 chunk,.int .i64 rows,.int .i64 log,.int .i64 heads]] 0 .lf) St0 none [] _
 conv=>whnf
 repeat' (first|((first|refine ESc.inl h108 ?_|refine ESc.inl h109 ?_|refine Cl rfl rfl (DG (by omega) (by omega)) ?_|refine IJ rfl ?_|refine HH rfl ?_|refine v7 ?_|refine v8 ?_|refine v9 ?_|refine C6 ?_|refine C5 ?_|refine An ?_|refine As ?_|refine Cj ?_|refine CG ?_|refine CU ?_|refine Cp ?_|refine CK ?_|refine CX ?_|refine BY ?_|refine ⟨rfl,?_⟩);conv=>whnf)|refine v1 ?_ ?_|refine v2 ?_ ?_|refine v3 ?_ ?_|refine v4 ?_ ?_|refine v5 ?_ ?_|refine v6 ?_ ?_|(refine w19 rfl ?_ ?_ <;> intro hc <;> (try subst hc) <;> conv=>whnf)|(intro _;first|omega|conv=>whnf))
 all_goals first
  | exact fin0 _ (by omega)
  | exact fin1 _ (by omega)
  | skip
theorem V9 (x:DK):AP x=true↔(1≤x.us.length∧x.us.length≤256∧x.ws.length≤1024)∧(∀ b ∈ x.bs,AQ b.length=false)∧(∀ w ∈ x.ws,Bm x.us.length w=false)∧(x.dead=true→x.ws.length=0∧∀ b ∈ x.bs,b.length=0):=by
 unfold AP
 simp only [Zqb,Bool.not_eq_true',Zq6,List.any_eq_false,Zq9]
 constructor
 ·rintro ⟨⟨⟨h1,h2⟩,h3⟩,h4⟩
  refine ⟨h1,fun b hb=>by simpa using h2 _ ⟨b,hb,rfl⟩,fun w hw=>by simpa using h3 w hw,fun hd=>?_⟩
  rw [hd] at h4
  simp only [Bool.true_and,Zru,Zrf,List.any_eq_false,Zq9] at h4
  exact ⟨by omega,fun b hb=>by have:=h4.2 _ ⟨b,hb,rfl⟩;unfold E9 at this;simpa using this⟩
 ·rintro ⟨h1,h2,h3,h4⟩
  refine ⟨⟨⟨h1,?_⟩,fun w hw=>by simpa using h3 w hw⟩,?_⟩
  ·rintro _ ⟨b,hb,rfl⟩;simpa using h2 b hb
  ·cases hd:x.dead with
   | false=>rfl
   | true=>
    obtain ⟨h5,h6⟩:=h4 hd
    simp only [Bool.true_and,Zru,Zrf,List.any_eq_false,Zq9]
    refine ⟨by omega,?_⟩
    rintro _ ⟨b,hb,rfl⟩
    unfold E9
    have:=h6 b hb
    simp [this]
def dmayF:Fam DK:=⟨DK.ok,fun x=>[x.v],fun x=>.bool (AP x),fun x y hx hy h=>by rw [DK.inj hx.a hy.a (Zql h).1]⟩
theorem T8 {α:Type}{l:List α}{i:Nat}{x y:α}(h:l[i]?=some x) (hy:y ∈ l.take (i+1)):y ∈ l.take i∨y=x:=by
 have hlt:=(Zqa.1 h).1
 rw [Zqm hlt] at hy
 rcases Zq1.1 hy with hy|hy
 ·exact .inl hy
 ·rw [Zp9 hlt] at h
  cases h
  simp at hy;exact .inr hy
def W5:AC:=match a77 with|.mk c _=>c
def VV:AC:=match W5 with
 | .seq _ (.seq _ r)=>r
 | _=>.skip
theorem Zch (hE:EM P e) (h148:Con e 128 sizF.O) {x:DK}(hx:x.ok) {K:AV→St→Prop}(hT:1≤x.us.length∧x.us.length≤256∧x.ws.length≤1024) (hdd:x.dead=true→x.ws.length=0)
 (k1:AP x=true→∀ s,K (.bool true) s) (k0:¬ AP x=true→∀ s,K (.bool false) s):W P 0 none VV (A5 [(1,.ptr 0 0)]) (Al St0 [.row 60 x.c]) [] (BG [.tmp 2] K):=by
 rw [V9] at k0 k1
 obtain ⟨⟨hbl,hbs,hwl,hws⟩,hn,hm',hb',hw'⟩:=hx
 obtain ⟨bv,us,bs,wv,ws,dd⟩:=x
 dsimp only at hbl hbs hwl hws hn hm' hb' hw' k0 k1 hT hdd
 have hdf:hfs [bv,wv,.bool dd]=true:=MS hwl hbl
 have hbn:=hbs.length
 refine Hb hE ?_
 show VW P e 0 VV (A5 [(1,.ptr 0 0)]) (Al St0 [.row 60 [bv,wv,.bool dd]]) none [] _
 conv=>whnf
 refine DZ (α:=Nat) (fun i=>[(1,.ptr 0 0),(3,.int .i64 (i:Int))]) (fun _=>[.row 60 [bv,wv,.bool dd]]) (fun i=>us.length-i) (fun i=>i≤us.length∧∀ b ∈ bs.take i,AQ b.length=false∧(dd=true→b.length=0)) 0 ⟨Zqs _,fun b hb=>by simp at hb⟩
  (Abs.tells (rs:=[0]) .a) ?_
 rintro i ⟨hi,hI⟩
 refine Cy hE ?_
 by_cases hlt:i<us.length
 ·obtain ⟨b,hb1,hb2⟩:=hbs.get (Zp9 hlt)
  have hbm:=Zqv hb1
  have hbl2:=hb' b hbm
  have hnxt:AQ b.length=false∧(dd=true→b.length=0)→∀ b ∈ bs.take (i+1),AQ b.length=false∧(dd=true→b.length=0):=fun h c hc=>by
   rcases T8 hb1 hc with hc|rfl
   ·exact hI c hc
   ·exact h
  have hno:(AQ b.length=true∨(dd=true∧b.length≠0))→∀ s,K (.bool false) s:=fun h=>k0 (by
   rintro ⟨_,h2,_,h4⟩
   rcases h with h|⟨h,h'⟩
   ·rw [h2 b hbm] at h;cases h
   ·exact h' ((h4 h).2 b hbm))
  have q1:((us.drop (i*1)))[0]?=some us[i]:=by rw [Zrc,Zqk,Zri,Zp9 hlt]
  have hall:=And.intro q1 hb2
  clear q1 hb2
  revert hall
  generalize us[i]=u
  rintro ⟨q1,hb2⟩
  clear k0 k1 hI
  have hend:(∀ b ∈ bs.take (i+1),AQ b.length=false∧(dd=true→b.length=0))→∀ t s,t.get 1=some (.ptr 0 0)→t.get 3=some (.int .i64 ((i:Int)+1))→s.get 0=some (.row 60 [bv,wv,.bool dd])→
   ∃ x',(x'≤us.length∧∀ b ∈ bs.take x',AQ b.length=false∧(dd=true→b.length=0))∧us.length-x'<us.length-i∧Tells P 0 t s [] (A5 [(1,.ptr 0 0),(3,.int .i64 (x':Int))]) (Al St0 [.row 60 [bv,wv,.bool dd]]) []:=fun h0 t s g1 g3 gr=>
   ⟨i+1,⟨hlt,h0⟩,by omega,Abs.tells (rs:=[0]) ⟨by decide,⟨⟨rfl,g1⟩,⟨rfl,g3⟩,trivial⟩,⟨⟨Bd hdf,by rw [AX hdf];exact gr⟩,trivial⟩⟩⟩
  conv=>whnf
  refine Ai hbl ?_;conv=>whnf
  refine Bb (a:=(i:Int)) (b:=(us.length:Int)) rfl rfl (fun _=>?_) (fun h=>by omega);conv=>whnf
  refine Cr rfl hbl rfl hlt ?_;conv=>whnf
  refine EHead.mk (v:=u) q1 ?_;conv=>whnf
  refine ESc.fam sizF h148 ⟨u,b.length⟩ ⟨⟨_,hb2.1⟩,by dsimp only;omega⟩ (u:=.bool (!AQ b.length)) rfl ?_
  cases ho:AQ b.length
  ·conv=>whnf
   refine IJ rfl ?_;conv=>whnf
   cases dd
   ·repeat' (first|((first|refine v7 ?_|refine v8 ?_|refine v9 ?_|refine C6 ?_|refine C5 ?_|refine An ?_|refine As ?_|refine Cj ?_|refine CG ?_|refine CU ?_|refine Cp ?_|refine CK ?_|refine CX ?_|refine BY ?_|refine ⟨rfl,?_⟩);conv=>whnf)|refine v1 ?_ ?_|refine v2 ?_ ?_|refine v3 ?_ ?_|refine v4 ?_ ?_|refine v5 ?_ ?_|refine v6 ?_ ?_|(refine w19 rfl ?_ ?_ <;> intro hc <;> (try subst hc) <;> conv=>whnf)|(intro _;first|omega|conv=>whnf))
    exact hend (hnxt ⟨ho,fun h=>by cases h⟩) _ _ rfl rfl rfl
   ·repeat' (first|((first|refine Cr rfl hbl rfl hlt ?_|refine EHead.mk (v:=u) q1 ?_|refine AA rfl hb2.1 ?_|refine v7 ?_|refine v8 ?_|refine v9 ?_|refine C6 ?_|refine C5 ?_|refine An ?_|refine As ?_|refine Cj ?_|refine CG ?_|refine CU ?_|refine Cp ?_|refine CK ?_|refine CX ?_|refine BY ?_|refine ⟨rfl,?_⟩);conv=>whnf)|refine v1 ?_ ?_|refine v2 ?_ ?_|refine v3 ?_ ?_|refine v4 ?_ ?_|refine v5 ?_ ?_|refine v6 ?_ ?_|(refine w19 rfl ?_ ?_ <;> intro hc <;> (try subst hc) <;> conv=>whnf)|(intro _;first|omega|conv=>whnf))
    ·exact hno (.inr ⟨rfl,by omega⟩) _
    ·exact hend (hnxt ⟨ho,fun _=>by omega⟩) _ _ rfl rfl rfl
  ·conv=>whnf
   refine HH rfl ?_;conv=>whnf
   repeat' (first|((first|refine v7 ?_|refine v8 ?_|refine v9 ?_|refine C6 ?_|refine C5 ?_|refine An ?_|refine As ?_|refine Cj ?_|refine CG ?_|refine CU ?_|refine Cp ?_|refine CK ?_|refine CX ?_|refine BY ?_|refine ⟨rfl,?_⟩);conv=>whnf)|refine v1 ?_ ?_|refine v2 ?_ ?_|refine v3 ?_ ?_|refine v4 ?_ ?_|refine v5 ?_ ?_|refine v6 ?_ ?_|(refine w19 rfl ?_ ?_ <;> intro hc <;> (try subst hc) <;> conv=>whnf)|(intro _;first|omega|conv=>whnf))
   exact hno (.inl ho) _
 ·have hI':∀ b ∈ bs,AQ b.length=false∧(dd=true→b.length=0):=by rw [Zqi (by omega)] at hI;exact hI
  clear hI
  conv=>whnf
  refine Ai hbl ?_;conv=>whnf
  refine Bb (a:=(i:Int)) (b:=(us.length:Int)) rfl rfl (fun _=>by omega) (fun h=>?_);conv=>whnf
  refine DZ (α:=Nat) (fun i=>[(1,.ptr 0 0),(4,.int .i64 (i:Int))]) (fun _=>[.row 60 [bv,wv,.bool dd]]) (fun i=>ws.length-i) (fun i=>i≤ws.length∧∀ w ∈ ws.take i,Bm us.length w=false) 0 ⟨Zqs _,fun b hb=>by simp at hb⟩
   (Abs.tells (rs:=[0]) .a) ?_
  rintro j ⟨hj,hJ⟩
  refine Cy hE ?_
  by_cases hjlt:j<ws.length
  ·have hd:=GC hjlt
   have hwa:=hws _ (Zra hjlt)
   have hwl2:=hw' _ (Zra hjlt)
   have hnxt:Bm us.length ws[j]=false→∀ w ∈ ws.take (j+1),Bm us.length w=false:=fun h c hc=>by
    rcases T8 (Zp9 hjlt) hc with hc|rfl
    ·exact hJ c hc
    ·exact h
   have hno:Bm us.length ws[j]=true→∀ s,K (.bool false) s:=fun h=>k0 (by
    rintro ⟨_,_,h3,_⟩
    rw [h3 _ (Zra hjlt)] at h;cases h)
   have hall:=And.intro hd (And.intro hwa (And.intro hwl2 (And.intro hnxt hno)))
   clear hd hwa hwl2 hnxt hno
   revert hall
   generalize ws[j]=w
   obtain ⟨wa,wu,wb⟩:=w
   rintro ⟨hd,⟨hwa,hwb⟩,hwl2,hnxt,hno⟩
   have hd:(Ad ws).drop (j*2)=[.int .i64 wa,wu]++Ad (ws.drop (j+1)):=hd
   unfold Bm at hnxt hno
   dsimp only at hwa hwb hwl2 hnxt hno
   clear k0 k1 hJ hI'
   have hend:(∀ w ∈ ws.take (j+1),(decide (w.at_<0) || decide ((us.length:Int)≤w.at_) || AQ w.b.length)=false)→∀ t s,t.get 1=some (.ptr 0 0)→t.get 4=some (.int .i64 ((j:Int)+1))→s.get 0=some (.row 60 [bv,wv,.bool dd])→
    ∃ x',(x'≤ws.length∧∀ w ∈ ws.take x',Bm us.length w=false)∧ws.length-x'<ws.length-j∧Tells P 0 t s [] (A5 [(1,.ptr 0 0),(4,.int .i64 (x':Int))]) (Al St0 [.row 60 [bv,wv,.bool dd]]) []:=fun h0 t s g1 g3 gr=>
    ⟨j+1,⟨hjlt,h0⟩,by omega,Abs.tells (rs:=[0]) ⟨by decide,⟨⟨rfl,g1⟩,⟨rfl,g3⟩,trivial⟩,⟨⟨Bd hdf,by rw [AX hdf];exact gr⟩,trivial⟩⟩⟩
   conv=>whnf
   refine Ai hwl ?_;conv=>whnf
   refine Bb (a:=(j:Int)) (b:=(ws.length:Int)) rfl rfl (fun _=>?_) (fun h=>by omega);conv=>whnf
   refine Cr rfl hwl rfl hjlt ?_
   rw [hd]
   conv=>whnf
   refine EHead.mk (v:=.int .i64 wa) rfl ?_;conv=>whnf
   refine Bb (a:=wa) (b:=0) rfl rfl (fun h1=>?_) (fun h1=>?_)
   ·conv=>whnf
    repeat' (first|((first|refine v7 ?_|refine v8 ?_|refine v9 ?_|refine C6 ?_|refine C5 ?_|refine An ?_|refine As ?_|refine Cj ?_|refine CG ?_|refine CU ?_|refine Cp ?_|refine CK ?_|refine CX ?_|refine BY ?_|refine ⟨rfl,?_⟩);conv=>whnf)|refine v1 ?_ ?_|refine v2 ?_ ?_|refine v3 ?_ ?_|refine v4 ?_ ?_|refine v5 ?_ ?_|refine v6 ?_ ?_|(refine w19 rfl ?_ ?_ <;> intro hc <;> (try subst hc) <;> conv=>whnf)|(intro _;first|omega|conv=>whnf))
    exact hno (by rw [Zqe h1];rfl) _
   conv=>whnf
   refine Cr rfl hwl rfl hjlt ?_
   rw [hd]
   conv=>whnf
   refine EHead.mk (v:=.int .i64 wa) rfl ?_;conv=>whnf
   refine Ai hbl ?_;conv=>whnf
   refine DF (a:=wa) (b:=(us.length:Int)) rfl rfl (fun h2=>?_) (fun h2=>?_)
   ·conv=>whnf
    repeat' (first|((first|refine v7 ?_|refine v8 ?_|refine v9 ?_|refine C6 ?_|refine C5 ?_|refine An ?_|refine As ?_|refine Cj ?_|refine CG ?_|refine CU ?_|refine Cp ?_|refine CK ?_|refine CX ?_|refine BY ?_|refine ⟨rfl,?_⟩);conv=>whnf)|refine v1 ?_ ?_|refine v2 ?_ ?_|refine v3 ?_ ?_|refine v4 ?_ ?_|refine v5 ?_ ?_|refine v6 ?_ ?_|(refine w19 rfl ?_ ?_ <;> intro hc <;> (try subst hc) <;> conv=>whnf)|(intro _;first|omega|conv=>whnf))
    exact hno (by rw [Zqe h2];simp) _
   conv=>whnf
   refine Cr rfl hwl rfl hjlt ?_
   rw [hd]
   conv=>whnf
   refine EHead.mk (v:=wu) rfl ?_;conv=>whnf
   refine ESc.fam sizF h148 ⟨wu,wb.length⟩ ⟨⟨_,hwb.1⟩,by dsimp only;omega⟩ (u:=.bool (!AQ wb.length)) rfl ?_
   rw [Zqq (by omega),Zqq (by omega)] at hnxt hno
   cases ho:AQ wb.length
   ·conv=>whnf
    refine IJ rfl ?_;conv=>whnf
    repeat' (first|((first|refine v7 ?_|refine v8 ?_|refine v9 ?_|refine C6 ?_|refine C5 ?_|refine An ?_|refine As ?_|refine Cj ?_|refine CG ?_|refine CU ?_|refine Cp ?_|refine CK ?_|refine CX ?_|refine BY ?_|refine ⟨rfl,?_⟩);conv=>whnf)|refine v1 ?_ ?_|refine v2 ?_ ?_|refine v3 ?_ ?_|refine v4 ?_ ?_|refine v5 ?_ ?_|refine v6 ?_ ?_|(refine w19 rfl ?_ ?_ <;> intro hc <;> (try subst hc) <;> conv=>whnf)|(intro _;first|omega|conv=>whnf))
    exact hend (hnxt (by rw [ho];rfl)) _ _ rfl rfl rfl
   ·conv=>whnf
    refine HH rfl ?_;conv=>whnf
    repeat' (first|((first|refine v7 ?_|refine v8 ?_|refine v9 ?_|refine C6 ?_|refine C5 ?_|refine An ?_|refine As ?_|refine Cj ?_|refine CG ?_|refine CU ?_|refine Cp ?_|refine CK ?_|refine CX ?_|refine BY ?_|refine ⟨rfl,?_⟩);conv=>whnf)|refine v1 ?_ ?_|refine v2 ?_ ?_|refine v3 ?_ ?_|refine v4 ?_ ?_|refine v5 ?_ ?_|refine v6 ?_ ?_|(refine w19 rfl ?_ ?_ <;> intro hc <;> (try subst hc) <;> conv=>whnf)|(intro _;first|omega|conv=>whnf))
    exact hno (by rw [ho];rfl) _
  ·have hJ':∀ w ∈ ws,Bm us.length w=false:=by rw [Zqi (by omega)] at hJ;exact hJ
   conv=>whnf
   refine Ai hwl ?_;conv=>whnf
   refine Bb (a:=(j:Int)) (b:=(ws.length:Int)) rfl rfl (fun _=>by omega) (fun h=>?_);conv=>whnf
   exact k1 ⟨hT,fun b hb=>(hI' b hb).1,hJ',fun hd=>⟨hdd hd,fun b hb=>(hI' b hb).2 hd⟩⟩ _
theorem Zfi (hE:EM P e) (h148:Con e 128 sizF.O):OvOk P 77 dmayF.O:=by
 refine Cx g77.b fun x hx=>?_
 refine ⟨by show (AM.hf x.v && true)=true;rw [DK.hf hx.a];rfl,rfl,C.of_W g77.f g77.c ?_⟩
 have fin1:AP x=true→∀ s,Frz s (.bool true) (dmayF.out x):=by intro h s;show Frz s _ (.bool (AP x));rw [h];exact .plain _ rfl
 have fin0:¬ AP x=true→∀ s,Frz s (.bool false) (dmayF.out x):=by intro h s;show Frz s _ (.bool (AP x));rw [Bool.eq_false_iff.2 h];exact .plain _ rfl
 have hrest:=fun h1 h2=>Zch (K:=fun w s'=>Frz s' w (dmayF.out x)) hE h148 hx h1 h2 fin1 fin0
 rw [V9] at fin0
 obtain ⟨O,hO⟩:∃ O,O=dmayF.out x:=⟨_,rfl⟩
 rw [← hO] at fin0 hrest ⊢
 clear hO fin1
 obtain ⟨⟨hbl,hbs,hwl,hws⟩,hn,hm',hb',hw'⟩:=hx
 obtain ⟨bv,us,bs,wv,ws,dd⟩:=x
 dsimp only at hbl hbs hwl hws hn hm' hb' hw' fin0 hrest
 have hdf:hfs [bv,wv,.bool dd]=true:=MS hwl hbl
 show W P 0 none W5 (Ah [.agg [bv,wv,.bool dd]] 0 .lf) St0 [] (BG [.tmp 2] _)
 refine Br hE ?_;conv=>whnf
 refine Br hE ?_;conv=>whnf
 have hgo:=fun (h1:1≤us.length∧us.length≤256∧ws.length≤1024) (h2:dd=true→ws.length=0) (t:AT) (s:St) (g1:t.get 1=some (.ptr 0 0)) (gr:s.get 0=some (.row 60 [bv,wv,.bool dd]))=>W.tells (Abs.tells (tl:=[(1,.ptr 0 0)]) (os:=[.row 60 [bv,wv,.bool dd]]) (rs:=[0]) ⟨by decide,⟨⟨rfl,g1⟩,trivial⟩,⟨⟨Bd hdf,by rw [AX hdf];exact gr⟩,trivial⟩⟩) (hrest h1 h2)
 have hno:=fun (h:¬ ((1≤us.length∧us.length≤256∧ws.length≤1024)∧(dd=true→ws.length=0)))=>fin0 (fun h'=>h ⟨h'.1,fun hd=>(h'.2.2.2 hd).1⟩)
 cases dd
 ·repeat' (first|((first|refine Ai hbl ?_|refine Ai hwl ?_|refine v7 ?_|refine v8 ?_|refine v9 ?_|refine C6 ?_|refine C5 ?_|refine An ?_|refine As ?_|refine Cj ?_|refine CG ?_|refine CU ?_|refine Cp ?_|refine CK ?_|refine CX ?_|refine BY ?_|refine ⟨rfl,?_⟩);conv=>whnf)|refine v1 ?_ ?_|refine v2 ?_ ?_|refine v3 ?_ ?_|refine v4 ?_ ?_|refine v5 ?_ ?_|refine v6 ?_ ?_|(refine w19 rfl ?_ ?_ <;> intro hc <;> (try subst hc) <;> conv=>whnf)|(intro _;first|omega|conv=>whnf))
  all_goals first
   | exact hgo (by omega) (fun h=>by cases h) _ _ rfl rfl
   | exact ⟨.inr rfl,_,_,rfl,rfl,hno (by omega) _⟩
 ·repeat' (first|((first|refine Ai hbl ?_|refine Ai hwl ?_|refine v7 ?_|refine v8 ?_|refine v9 ?_|refine C6 ?_|refine C5 ?_|refine An ?_|refine As ?_|refine Cj ?_|refine CG ?_|refine CU ?_|refine Cp ?_|refine CK ?_|refine CX ?_|refine BY ?_|refine ⟨rfl,?_⟩);conv=>whnf)|refine v1 ?_ ?_|refine v2 ?_ ?_|refine v3 ?_ ?_|refine v4 ?_ ?_|refine v5 ?_ ?_|refine v6 ?_ ?_|(refine w19 rfl ?_ ?_ <;> intro hc <;> (try subst hc) <;> conv=>whnf)|(intro _;first|omega|conv=>whnf))
  all_goals first
   | exact hgo (by omega) (fun h=>by omega) _ _ rfl rfl
   | exact ⟨.inr rfl,_,_,rfl,rfl,hno (by rintro ⟨h1,h2⟩;have h2:=h2 rfl;omega) _⟩
structure CDK where
 c:Cfg
 d:DK
structure CDK.ok (x:CDK):Prop where
 c:x.c.ok
 d:x.d.ok
 l:0≤x.c.log∧x.c.log≤255
end Go.AM
