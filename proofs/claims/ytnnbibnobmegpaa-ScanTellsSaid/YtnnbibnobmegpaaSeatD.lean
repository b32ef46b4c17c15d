/-
 Functions of the program as the abstract machine reads them, and what is stated of them, checked by the kernel. No conditions.
-/
import Derived.Test.YtnnbibnobmegpaaSeatM
set_option linter.unusedVariables false
set_option linter.unusedSimpArgs false
set_option maxRecDepth 100000
namespace Go.AM
attribute [local irreducible] W
open X
def Zde (n:Nat):Bool:=decide (n≠0) && decide (n≠128)
structure BN where
 v:AV
 n:Nat
def BN.ok (x:BN):Prop:=(∃ l,Sl 1 x.n l x.v)∧x.n<1000000000
theorem Sl.n_inj {es n m:Nat}{l k:List AV}{v:AV}(h:Sl es n l v) (h':Sl es m k v):n=m:=by
 rcases h with ⟨rfl,rfl,_⟩|⟨rfl,rfl,_⟩|⟨c,rfl,_⟩
 ·rcases h' with ⟨_,rfl,_⟩|⟨e,_⟩|⟨c,e,_⟩
  ·rfl
  ·cases e
  ·cases e
 ·rcases h' with ⟨e,_⟩|⟨_,rfl,_⟩|⟨c,e,_⟩
  ·cases e
  ·rfl
  ·cases e
 ·rcases h' with ⟨e,_⟩|⟨e,_⟩|⟨c,e,_⟩
  ·cases e
  ·cases e
  ·cases e;rfl
theorem BN.inj {x y:BN}(hx:x.ok) (hy:y.ok) (h:[x.v]=[y.v]):x=y:=by
 obtain ⟨v,n⟩:=x
 obtain ⟨v',n'⟩:=y
 have e:v=v':=(List.cons.inj h).1
 subst e
 obtain ⟨⟨l,h1⟩,_⟩:=hx
 obtain ⟨⟨l',h2⟩,_⟩:=hy
 have:=h1.n_inj h2
 dsimp only at this
 rw [this]
def oddF:Fam BN:=⟨BN.ok,fun x=>[x.v],fun x=>.bool (Zde x.n),fun x y hx hy h=>by rw [BN.inj hx hy h]⟩
theorem Ya9 {P:Program}{e:Env}{fn:Func}(hE:EnvOk P e) (hm:P.follows .mixedOrders=true) (hf:P.funcs[94]?=some fn) (hc:Zaj P fn=some a94) (hb:Zaf P 94):OvOk P 94 oddF.O:=by
 refine Zal hb ?_
 rintro ⟨v,n⟩ hx
 obtain ⟨⟨l,hv⟩,hn⟩:=hx
 dsimp only at hv hn
 refine ⟨by show (AM.hf v && true)=true;rw [hv.hf];rfl,rfl,C.of_V hE hm hf hc ?_⟩
 have fin:∀ s (b:Bool),b=Zde n→Frz s (.bool b) (oddF.out ⟨v,n⟩):=by
  rintro s b rfl;exact .plain _ rfl
 unfold Zde at fin
 show VW P e 0 (match a94 with|.mk c _=>c) (Zax [v] 0 .lf) St0 none [] _
 conv=>whnf
 repeat' (first|(refine Zaa rfl hv ?_;conv=>whnf)|((refine w6 rfl rfl ?_ ?_) <;> intro _ <;> first|(exfalso;omega)|(conv=>whnf))|fail)
 all_goals first
  | exact fin _ _ (by rw [decide_eq_true (by omega),decide_eq_true (by omega)];rfl)
  | exact fin _ _ (by rw [decide_eq_true (by omega),decide_eq_false (by omega)];rfl)
  | exact fin _ _ (by rw [decide_eq_false (by omega)];rfl)
structure BL where
 v:AV
 us:List AV
 ns:List Nat
structure BL.ok (x:BL):Prop where
 sl:Sl 1 x.us.length x.us x.v
 bl:All2 (fun u n=>BN.ok ⟨u,n⟩) x.us x.ns
 len:x.us.length<1000000000
def Zx5:List Nat→Nat→Int
 | [],_=>-1
 | n::l,i=>if Zde n then (i:Int) else Zx5 l (i+1)
theorem Zwc:∀ (l:List Nat) (i:Nat),(0≤Zx5 l i↔l.any Zde=true)
 | [],i=>by simp [Zx5]
 | n::l,i=>by
  unfold Zx5
  rw [List.any_cons]
  cases h:Zde n
  ·simp only [Bool.false_or,Bool.false_eq_true,if_false];exact Zwc l (i+1)
  ·simp
theorem BL.inj {x y:BL}(hx:x.ok) (hy:y.ok) (h:x.v=y.v):x=y:=by
 obtain ⟨v,us,ns⟩:=x
 obtain ⟨v',us',ns'⟩:=y
 have e:v=v':=h
 subst e
 have h1:=hx.sl
 have h2:=hy.sl
 have h3:=hx.bl
 have h4:=hy.bl
 dsimp only at h1 h2 h3 h4
 have e2:us=us':=by
  rcases h1 with ⟨rfl,_,h1⟩|⟨rfl,_,h1⟩|⟨c,rfl,_⟩
  ·rcases h2 with ⟨_,_,h2⟩|⟨e,_⟩|⟨c,e,_⟩
   ·rw [h1,h2]
   ·cases e
   ·cases e
  ·rcases h2 with ⟨e,_⟩|⟨_,_,h2⟩|⟨c,e,_⟩
   ·cases e
   ·rw [h1,h2]
   ·cases e
  ·rcases h2 with ⟨e,_⟩|⟨e,_⟩|⟨c,e,_⟩
   ·cases e
   ·cases e
   ·injection e
 subst e2
 have:∀ {us:List AV}{ns ns':List Nat},All2 (fun u n=>BN.ok ⟨u,n⟩) us ns→All2 (fun u n=>BN.ok ⟨u,n⟩) us ns'→ns=ns':=by
  intro us
  induction us with
  | nil=>intro ns ns' a b;cases a;cases b;rfl
  | cons u us ih=>
   intro ns ns' a b
   cases a with
   | cons a1 a2=>cases b with
    | cons b1 b2=>
     obtain ⟨⟨l,q1⟩,_⟩:=a1
     obtain ⟨⟨l',q2⟩,_⟩:=b1
     have e:=q1.n_inj q2
     dsimp only at e
     rw [ih a2 b2,e]
 rw [this h3 h4]
def Yc8:AC:=match Yi8 with|.mk c _=>c
theorem idx_run (P:Program) (e:Env) (hE:EnvOk P e) (hm:P.follows .mixedOrders=true) (g:Nat) (hg:Con e g oddF.O) (x:BL) (hx:x.ok) (Q:AV→St→Prop) (k:∀ s,Q (.int .i64 (Zx5 x.ns 0)) s):
 VW P e 0 Yc8 (Zax [x.v,.fn g [] []] 0 .lf) St0 none [] (Zfa [.tmp 4] Q):=by
 obtain ⟨v,us,ns⟩:=x
 obtain ⟨hs,hb,hl⟩:=hx
 dsimp only at hs hb hl k ⊢
 have hlen:=hb.length
 conv=>whnf
 refine Zaa rfl hs ?_;conv=>whnf
 refine Zhc (α:=Nat) (fun i=>[(0,v),(1,.fn g [] []),(7,.int .i64 (us.length:Int)),(8,.int .i64 (i:Int))]) (fun i=>[]) (fun i=>us.length-i)
  (fun i=>i≤us.length∧Zx5 ns 0=Zx5 (ns.drop i) i) 0 [] ⟨Nat.zero_le _,rfl⟩ ⟨by decide,⟨⟨Zbe _ hs.hf,by rw [Zao _ hs.hf];rfl⟩,⟨rfl,rfl⟩,⟨rfl,rfl⟩,⟨rfl,rfl⟩,trivial⟩,trivial⟩ ?_
 rintro i ⟨hi,hI⟩
 refine Zap hE hm ?_;conv=>whnf
 refine Zab rfl rfl (fun h=>?_) (fun h=>?_) <;> conv=>whnf
 ·have hlt:i<us.length:=by omega
  have hln:i<ns.length:=by omega
  refine Zae rfl hs rfl hlt ?_;conv=>whnf
  refine EHead.mk (v:=us[i]) (by rw [Nat.mul_one,List.getElem?_drop,Nat.add_zero,List.getElem?_eq_getElem hlt]) ?_;conv=>whnf
  obtain ⟨n,hn,hbn⟩:=hb.get (List.getElem?_eq_getElem hlt)
  have hn':ns[i]=n:=by rw [List.getElem?_eq_getElem hln] at hn;exact Option.some.inj hn
  rw [List.drop_eq_getElem_cons hln,hn'] at hI
  refine ECall.fam oddF hg ⟨us[i],n⟩ hbn (u:=.bool (Zde n)) rfl ?_
  rw [show Zx5 (n::ns.drop (i+1)) i=if Zde n then (i:Int) else Zx5 (ns.drop (i+1)) (i+1) from rfl] at hI
  cases ho:Zde n
  ·rw [ho,if_neg (by decide)] at hI
   conv=>whnf
   repeat' (first|((first|refine w7 rfl rfl (by omega) ?_|refine ⟨rfl,?_⟩);conv=>whnf)|fail)
   refine ⟨i+1,⟨hlt,hI⟩,by omega,[],⟨by decide,⟨⟨Zbe _ hs.hf,by rw [Zao _ hs.hf];rfl⟩,⟨rfl,rfl⟩,⟨rfl,rfl⟩,⟨rfl,by simp;rfl⟩,trivial⟩,trivial⟩⟩
  ·rw [ho,if_pos rfl] at hI
   conv=>whnf
   rw [hI] at k;exact k _
 ·have hd:ns.drop i=[]:=List.drop_eq_nil_of_le (by omega)
  rw [hd] at hI
  have hI:Zx5 ns 0=-1:=hI
  rw [hI] at k;exact k _
def Zw7:AC:=match a93 with|.mk c _=>c
theorem con_run (P:Program) (e:Env) (hE:EnvOk P e) (hm:P.follows .mixedOrders=true) (g:Nat) (I:Fam BL) (hI:Con e 138 I.O) (x:BL) (hok:I.ok x) (henc:I.enc x=[x.v,.fn g [] []]) (hout:I.out x=.int .i64 (Zx5 x.ns 0)) (s:St) (Q:AV→St→Prop) (k:Q (.bool (x.ns.any Zde)) s):
 VE e Zw7 (Zax [x.v,.fn g [] []] 0 .lf) s none [] (Zfa [.tmp 4] Q):=by
 conv=>whnf
 have hcall:∀ (K:AV→St→Prop),K (.int .i64 (Zx5 x.ns 0)) s→ESc e 138 [x.v,.fn g [] []] s K:=fun K hk=>by
  rw [← henc]
  exact ESc.fam I hI x hok hout hk
 refine hcall _ ?_;conv=>whnf
 have ha:=Zwc x.ns 0
 refine Zbj rfl rfl (fun h=>?_) (fun h=>?_) <;> conv=>whnf
 ·rw [ha.1 h] at k;exact k
 ·have:x.ns.any Zde=false:=by
   cases hq:x.ns.any Zde
   ·rfl
   ·have:=ha.2 hq;omega
  rw [this] at k;exact k
def idxF (g:Nat):Fam BL:=⟨BL.ok,fun x=>[x.v,.fn g [] []],fun x=>.int .i64 (Zx5 x.ns 0),fun x y hx hy h=>by rw [BL.inj hx hy (List.cons.inj h).1]⟩
theorem idxF_ok {P:Program}{e:Env}{fn:Func}(hE:EnvOk P e) (hm:P.follows .mixedOrders=true) (g:Nat) (hg:Con e g oddF.O) (hf:P.funcs[138]?=some fn) (hc:Zaj P fn=some Yi8) (hb:Zaf P 138):OvOk P 138 (idxF g).O:=by
 refine Zal hb fun x hx=>?_
 refine ⟨by show (AM.hf x.v && (true && true && true))=true;rw [hx.sl.hf];rfl,rfl,C.of_V hE hm hf hc (idx_run P e hE hm g hg x hx _ fun s=>.plain _ rfl)⟩
def Zd8 (l:List Int):List AV:=l.map (AV.int .i64)
def Zgz (top:Int):Int→List Int→Bool
 | _,[]=>true
 | last,s::l=>decide (last<s∧s≤top) && Zgz top s l
structure SL where
 c:Cfg
 v:AV
 l:List Int
structure SL.ok (x:SL):Prop where
 c:x.c.ok
 m:x.c.may
 sl:Sl 1 x.l.length (Zd8 x.l) x.v
 b:∀ s ∈ x.l,Zc4 s
 len:x.l.length<1000000000
theorem Zmk:∀ {l m:List Int},Zd8 l=Zd8 m→l=m
 | [],[],_=>rfl
 | [],_::_,h=>by cases h
 | _::_,[],h=>by cases h
 | a::l,b::m,h=>by
  have h:AV.int .i64 a::Zd8 l=.int .i64 b::Zd8 m:=h
  injection h with h1 h2
  injection h1 with _ h1
  rw [h1,Zmk h2]
theorem Sl.l_inj {es n m:Nat}{l k:List AV}{v:AV}(h:Sl es n l v) (h':Sl es m k v):l=k:=by
 rcases h with ⟨rfl,_,h⟩|⟨rfl,_,h⟩|⟨c,rfl,_⟩
 ·rcases h' with ⟨_,_,h2⟩|⟨e,_⟩|⟨c,e,_⟩
  ·rw [h,h2]
  ·cases e
  ·cases e
 ·rcases h' with ⟨e,_⟩|⟨_,_,h2⟩|⟨c,e,_⟩
  ·cases e
  ·rw [h,h2]
  ·cases e
 ·rcases h' with ⟨e,_⟩|⟨e,_⟩|⟨c,e,_⟩
  ·cases e
  ·cases e
  ·injection e
def Zcb (top:Int) (l:List Int):Bool:=Zgz top (-1) l && decide (0<l.length)
def slotsF:Fam SL:=⟨SL.ok,fun x=>[x.c.v,x.v],fun x=>.bool (Zcb (x.c.members-2) x.l),fun x y hx hy h=>by
 obtain ⟨c,v,l⟩:=x
 obtain ⟨c',v',l'⟩:=y
 have h1:c=c':=Zem (List.cons.inj h).1
 have h2:v=v':=(List.cons.inj (List.cons.inj h).2).1
 subst h1 h2
 have:=Zmk (hx.sl.l_inj hy.sl)
 dsimp only at this
 rw [this]⟩
def code95:AC:=match a95 with|.mk c _=>c
theorem Zz7 {P:Program}{e:Env}{fn:Func}(hE:EnvOk P e) (hm:P.follows .mixedOrders=true) (hf:P.funcs[95]?=some fn) (hc:Zaj P fn=some a95) (hb:Zaf P 95):OvOk P 95 slotsF.O:=by
 refine Zal hb fun x hx=>?_
 obtain ⟨⟨id,mb,ch,ro,lo,he⟩,v,l⟩:=x
 obtain ⟨hco,hM,hs,hbd,hln⟩:=hx
 unfold Cfg.may at hM
 dsimp only at hs hbd hln hM
 refine ⟨by show (true && (AM.hf v && true))=true;rw [hs.hf];rfl,rfl,C.of_V hE hm hf hc ?_⟩
 have fin:∀ s (b:Bool),b=Zcb (mb-2) l→Frz s (.bool b) (.bool (Zcb (mb-2) l)):=by
  rintro s b rfl;exact .plain _ rfl
 show VW P e 0 code95 (Zax [AV.agg [.int .u32 id,.int .i64 mb,.int .i64 ch,.int .i64 ro,.int .i64 lo,.int .i64 he],v] 0 .lf) St0 none [] (Zfa [.tmp 4] (fun w s'=>Frz s' w (.bool (Zcb (mb-2) l))))
 conv=>whnf
 refine Zaa rfl hs ?_;conv=>whnf
 refine Zhc (α:=Nat×Int) (fun x=>[(1,v),(2,.ptr 0 0),(4,.bool false),(5,.int .i64 x.2),(8,v),(9,.int .i64 (l.length:Int)),(10,.int .i64 (x.1:Int))]) (fun _=>[.row 24 [.int .u32 id,.int .i64 mb,.int .i64 ch,.int .i64 ro,.int .i64 lo,.int .i64 he]]) (fun x=>l.length-x.1)
  (fun x=>x.1≤l.length∧Zgz (mb-2) (-1) l=Zgz (mb-2) x.2 (l.drop x.1)∧Zc4 x.2) (0,-1) [0] ⟨Nat.zero_le _,rfl,by unfold Zc4;omega⟩ ⟨by decide,⟨⟨Zbe _ hs.hf,by rw [Zao _ hs.hf];rfl⟩,⟨rfl,rfl⟩,⟨rfl,rfl⟩,⟨rfl,rfl⟩,⟨Zbe _ hs.hf,by rw [Zao _ hs.hf];rfl⟩,⟨rfl,rfl⟩,⟨rfl,rfl⟩,trivial⟩,⟨⟨rfl,rfl⟩,trivial⟩⟩ ?_
 rintro ⟨i,la⟩ ⟨hi,hI,hla⟩
 dsimp only at hi hI hla ⊢
 unfold Zc4 at hla
 refine Zap hE hm ?_;conv=>whnf
 refine Zab rfl rfl (fun h=>?_) (fun h=>?_) <;> conv=>whnf
 ·have hlt:i<l.length:=by omega
  refine Zae rfl hs rfl hlt ?_;conv=>whnf
  refine EHead.mk (v:=.int .i64 l[i]) (by rw [Nat.mul_one,List.getElem?_drop,Nat.add_zero];unfold Zd8;rw [List.getElem?_map,List.getElem?_eq_getElem hlt];rfl) ?_;conv=>whnf
  have hbi:=hbd l[i] (List.getElem_mem hlt)
  rw [List.drop_eq_getElem_cons hlt] at hI
  revert hI hbi
  generalize l[i]=s
  intro hI hbi
  unfold Zc4 at hbi
  rw [show Zgz (mb-2) la (s::l.drop (i+1))=(decide (la<s∧s≤mb-2) && Zgz (mb-2) s (l.drop (i+1))) from rfl] at hI
  have bad:¬ (la<s∧s≤mb-2)→∀ S,Frz S (.bool false) (.bool (Zcb (mb-2) l)):=fun hn S=>fin S _ (by unfold Zcb;rw [hI,decide_eq_false hn];rfl)
  repeat' (first|((first|refine w2 rfl rfl ?_ ?_|refine w3 rfl rfl ?_ ?_) <;> intro _ <;> first|(exfalso;omega)|(conv=>whnf))|((first|refine w7 rfl rfl (by omega) ?_|refine w8 rfl rfl (by omega) ?_|refine ⟨rfl,?_⟩);conv=>whnf)|fail)
  ·exact bad (by omega) _
  ·exact bad (by omega) _
  ·refine ⟨(i+1,s),⟨hlt,by rw [hI,decide_eq_true (by omega)];rfl,hbi⟩,by simp;omega,[0],⟨by decide,⟨⟨Zbe _ hs.hf,by rw [Zao _ hs.hf];rfl⟩,⟨rfl,rfl⟩,⟨rfl,rfl⟩,⟨rfl,rfl⟩,⟨Zbe _ hs.hf,by rw [Zao _ hs.hf];rfl⟩,⟨rfl,rfl⟩,⟨rfl,by simp;rfl⟩,trivial⟩,⟨⟨rfl,rfl⟩,trivial⟩⟩⟩
 ·have hd:l.drop i=[]:=List.drop_eq_nil_of_le (by omega)
  rw [hd] at hI
  have hI:Zgz (mb-2) (-1) l=true:=hI
  refine Zaa rfl hs ?_;conv=>whnf
  refine Zb5 rfl rfl (fun h=>?_) (fun h=>?_) <;> conv=>whnf
  ·exact fin _ _ (by unfold Zcb;rw [hI,decide_eq_true (by omega)];rfl)
  ·exact fin _ _ (by unfold Zcb;rw [hI,decide_eq_false (by omega)];rfl)
end Go.AM
set_option maxRecDepth 100000
namespace Go.AM
attribute [local irreducible] W
open X
structure Dl where
 stripe:Int
 sv:AV
 sl:List Int
 b:BL
 pv:AV
 pn:Nat
def Dl.c (d:Dl):List AV:=[.int .i64 d.stripe,d.sv,d.b.v,d.pv]
def Dl.v (d:Dl):AV:=.agg d.c
structure Dl.ok (d:Dl):Prop where
 stripe:Zc4 d.stripe
 sl:Sl 1 d.sl.length (Zd8 d.sl) d.sv
 sb:∀ s ∈ d.sl,Zc4 s
 sn:d.sl.length<1000000000
 b:d.b.ok
 p:BN.ok ⟨d.pv,d.pn⟩
theorem Dl.hf {d:Dl}(h:d.ok):AM.hf d.v=true:=by
 show (true && (AM.hf d.sv && (AM.hf d.b.v && (AM.hf d.pv && true))))=true
 obtain ⟨⟨l,hp⟩,_⟩:=h.p
 rw [h.sl.hf,h.b.sl.hf,hp.hf];rfl
theorem Dl.inj {x y:Dl}(hx:x.ok) (hy:y.ok) (h:x.v=y.v):x=y:=by
 obtain ⟨st,sv,sl,b,pv,pn⟩:=x
 obtain ⟨st',sv',sl',b',pv',pn'⟩:=y
 have h:=AV.agg.inj h
 unfold Dl.c at h
 injection h with e1 h
 injection h with e2 h
 injection h with e3 h
 injection h with e4 h
 injection e1 with _ e1
 dsimp only at e1 e2 e3 e4
 subst e1 e2 e4
 have e5:=Zmk (hx.sl.l_inj hy.sl)
 have e6:=BL.inj hx.b hy.b e3
 have e7:=BN.inj hx.p hy.p rfl
 dsimp only at e5 e6 e7
 subst e5 e6
 injection e7 with _ e7
 subst e7;rfl
def Zfk (c:Cfg) (d:Dl):Bool:=!(d.b.ns.any Zde) && decide (0≤d.stripe∧d.stripe<c.chunk*c.rows) && Zcb (c.members-2) d.sl && decide (d.b.ns.length=d.sl.length) && !(Zde d.pn)
structure CD where
 c:Cfg
 d:Dl
structure CD.ok (x:CD):Prop where
 c:x.c.ok
 d:x.d.ok
def CD.good (x:CD):Prop:=x.c.may∧Zfk x.c x.d=true
instance (x:CD):Decidable x.good:=by unfold CD.good;infer_instance
def dchkF:Fam CD:=⟨CD.ok,fun x=>[x.c.v,x.d.v],fun x=>.int .i64 (if x.good then 0 else 8),fun x y hx hy h=>by
 obtain ⟨c,d⟩:=x
 obtain ⟨c',d'⟩:=y
 have h1:c=c':=Zem (List.cons.inj h).1
 have h2:d=d':=Dl.inj hx.d hy.d (List.cons.inj (List.cons.inj h).2).1
 subst h1 h2;rfl⟩
theorem Yhg {P:Program}{e:Env}{fn:Func}(hE:EnvOk P e) (hm:P.follows .mixedOrders=true) (h38:Con e 38 stripesF.O) (h93:Inl e 93 Zw7 [.tmp 4]) (h138:Con e 138 (idxF 94).O) (h95:Con e 95 slotsF.O) (hf:P.funcs[50]?=some fn) (hc:Zaj P fn=some a50) (hb:Zaf P 50):OvOk P 50 dchkF.O:=by
 refine Zal hb fun x hx=>?_
 obtain ⟨⟨id,mb,ch,ro,lo,he⟩,⟨st,sv,sl,b,pv,pn⟩⟩:=x
 obtain ⟨hco,hd⟩:=hx
 refine ⟨by show (true && (AM.hf (Dl.v _) && true))=true;rw [Dl.hf hd];rfl,rfl,C.of_V hE hm hf hc ?_⟩
 obtain ⟨hst,hsl,hsb,hsn,hbl,⟨pl,hp⟩,hpn⟩:=hd
 unfold Zc4 at hst
 dsimp only at hst hsl hsb hsn hbl hp hpn hco
 obtain ⟨c,hcd⟩:∃ c:Cfg,c=⟨id,mb,ch,ro,lo,he⟩:=⟨_,rfl⟩
 have fin:∀ s (n:Int),n=(if CD.good ⟨c,⟨st,sv,sl,b,pv,pn⟩⟩ then 0 else 8)→Frz s (.int .i64 n) (.int .i64 (if CD.good ⟨c,⟨st,sv,sl,b,pv,pn⟩⟩ then 0 else 8)):=by
  rintro s n rfl;exact .plain _ rfl
 rw [← hcd] at hco ⊢
 show VW P e 0 (match a50 with|.mk c _=>c) (Zax [AV.agg c.c,AV.agg [.int .i64 st,sv,b.v,pv]] 0 .lf) St0 none [] (Zfa [.tmp 4] (fun w s'=>Frz s' w (.int .i64 (if CD.good ⟨c,⟨st,sv,sl,b,pv,pn⟩⟩ then 0 else 8))))
 by_cases hM:c.may
 ·have hp':=hM
  unfold Cfg.may at hp'
  have hmul:=Zh1 (a:=c.chunk) (b:=c.rows) (by omega) (by omega)
  have hbu:=hbl.bl.length
  have hbn:=hbl.len
  conv=>whnf
  refine ESc.fam stripesF h38 c hco (u:=.tup [.int .i64 (c.chunk*c.rows),.int .i64 0]) (by simp [stripesF,hM]) ?_;conv=>whnf
  repeat' (first|((refine w6 rfl rfl ?_ ?_) <;> intro _ <;> first|(exfalso;omega)|(conv=>whnf))|fail)
  refine ESc.inl h93 (con_run P e hE hm 94 (idxF 94) h138 b hbl rfl rfl _ _ ?_)
  have no:Zfk c ⟨st,sv,sl,b,pv,pn⟩=false→∀ s,Frz s (.int .i64 8) (.int .i64 (if CD.good ⟨c,⟨st,sv,sl,b,pv,pn⟩⟩ then 0 else 8)):=fun h s=>fin s 8 (by rw [if_neg];rintro ⟨_,h2⟩;rw [show Zfk c ⟨st,sv,sl,b,pv,pn⟩=true from h2] at h;cases h)
  have yes:Zfk c ⟨st,sv,sl,b,pv,pn⟩=true→∀ s,Frz s (.int .i64 0) (.int .i64 (if CD.good ⟨c,⟨st,sv,sl,b,pv,pn⟩⟩ then 0 else 8)):=fun h s=>fin s 0 (by rw [if_pos ⟨hM,h⟩])
  unfold Zfk at no yes
  dsimp only at no yes
  cases hO:b.ns.any Zde
  ·rw [hO] at no yes
   conv=>whnf
   repeat' (first|((first|refine w1 rfl rfl ?_ ?_|refine w4 rfl rfl ?_ ?_) <;> intro _ <;> first|(exfalso;omega)|(conv=>whnf))|fail)
   ·exact no (by rw [decide_eq_false (p:=0≤st∧st<c.chunk*c.rows) (by omega)];simp) _
   ·exact no (by rw [decide_eq_false (p:=0≤st∧st<c.chunk*c.rows) (by omega)];simp) _
   rw [decide_eq_true (p:=0≤st∧st<c.chunk*c.rows) (by omega)] at no yes
   refine ESc.fam slotsF h95 ⟨c,sv,sl⟩ ⟨hco,hM,hsl,hsb,hsn⟩ (u:=.bool (Zcb (c.members-2) sl)) rfl ?_
   cases hS:Zcb (c.members-2) sl
   ·rw [hS] at no
    conv=>whnf
    repeat' (first|(refine w13 rfl ?_;conv=>whnf)|fail)
    exact no (by simp) _
   ·rw [hS] at no yes
    conv=>whnf
    repeat' (first|(refine Zaa rfl hbl.sl ?_;conv=>whnf)|(refine Zaa rfl hsl ?_;conv=>whnf)|(refine Zaa rfl hp ?_;conv=>whnf)|((refine w6 rfl rfl ?_ ?_) <;> intro _ <;> first|(exfalso;omega)|(conv=>whnf))|(refine w12 rfl ?_;conv=>whnf)|fail)
    ·exact no (by rw [decide_eq_false (p:=b.ns.length=sl.length) (by omega)];simp) _
    ·exact no (by unfold Zde;rw [decide_eq_true (p:=pn≠0) (by omega),decide_eq_true (p:=pn≠128) (by omega)];simp) _
    ·exact yes (by unfold Zde;rw [decide_eq_true (p:=b.ns.length=sl.length) (by omega),decide_eq_false (p:=pn≠128) (by omega)];simp) _
    ·exact yes (by unfold Zde;rw [decide_eq_true (p:=b.ns.length=sl.length) (by omega),decide_eq_false (p:=pn≠0) (by omega)];simp) _
  ·conv=>whnf
   skip
   exact no (by rw [hO];rfl) _
 ·conv=>whnf
  refine ESc.fam stripesF h38 c hco (u:=.tup [.int .i64 0,.int .i64 8]) (by simp [stripesF,hM]) ?_;conv=>whnf
  repeat' (first|((refine w6 rfl rfl ?_ ?_) <;> intro _ <;> first|(exfalso;omega)|(conv=>whnf))|fail)
  exact fin _ 8 (by rw [if_neg (fun h=>hM h.1)])
end Go.AM
set_option maxRecDepth 100000
namespace Go.AM
attribute [local irreducible] W
open X
structure Rc where
 slot:Int
 bare:Bool
 sum:Int
def Rc.c (x:Rc):List AV:=[.int .u8 x.slot,.bool x.bare,.int .u32 x.sum]
def Rc.ok (x:Rc):Prop:=(0≤x.slot∧x.slot<256)∧Zgi x.sum
def rcs (L:List Rc):List AV:=L.flatMap Rc.c
theorem Zf7 (x:Rc) (L:List Rc):rcs (x::L)=x.c++rcs L:=rfl
theorem Zfo:∀ (L:List Rc),(rcs L).length=L.length*3
 | []=>rfl
 | x::L=>by rw [Zf7,List.length_append,Zfo L,List.length_cons];show 3+_=_;omega
theorem Zf6:∀ (L:List Rc) (i:Nat),(rcs L).drop (i*3)=rcs (L.drop i)
 | L,0=>by simp
 | [],i+1=>by simp [rcs]
 | x::L,i+1=>by
  rw [List.drop_succ_cons,← Zf6 L i,Zf7,show (i+1)*3=x.c.length+i*3 by show (i+1)*3=3+i*3;omega,List.drop_append,List.drop_eq_nil_of_le (by omega),List.nil_append]
  congr 1;omega
theorem Zqd {L:List Rc}{i:Nat}(h:i<L.length):Zdf 3 ((rcs L).drop (i*3))=some L[i].c:=by
 rw [Zf6,List.drop_eq_getElem_cons h,Zf7];rfl
theorem Zt4:∀ {L M:List Rc},rcs L=rcs M→L=M
 | [],[],_=>rfl
 | [],y::M,h=>by cases h
 | x::L,[],h=>by cases h
 | x::L,y::M,h=>by
  obtain ⟨a,b,c⟩:=x
  obtain ⟨a',b',c'⟩:=y
  rw [Zf7,Zf7] at h
  simp [Rc.c] at h
  obtain ⟨rfl,rfl,rfl,h⟩:=h
  rw [Zt4 h]
structure Nt where
 id:Int
 age:Int
 seq:Int
 stripe:Int
 v:AV
 recs:List Rc
def Nt.c (x:Nt):List AV:=[.int .u32 x.id,.int .u32 x.age,.int .u32 x.seq,.int .i64 x.stripe,x.v]
def Nt.a (x:Nt):AV:=.agg x.c
structure Nt.ok (x:Nt):Prop where
 id:Zgi x.id
 age:Zgi x.age
 seq:Zgi x.seq
 stripe:Zc4 x.stripe
 sl:Sl 3 x.recs.length (rcs x.recs) x.v
 rc:∀ r ∈ x.recs,r.ok
 len:x.recs.length<1000000000
theorem Nt.inj {x y:Nt}(hx:x.ok) (hy:y.ok) (h:[x.a]=[y.a]):x=y:=by
 obtain ⟨a1,a2,a3,a4,v,R⟩:=x
 obtain ⟨b1,b2,b3,b4,v',R'⟩:=y
 have h:=AV.agg.inj (List.cons.inj h).1
 simp [Nt.c] at h
 obtain ⟨rfl,rfl,rfl,rfl,rfl⟩:=h
 have:=Zt4 (hx.sl.l_inj hy.sl)
 dsimp only at this
 rw [this]
def Yek (n:Nat):Nat→Int→List Rc→Bool
 | _,_,[]=>true
 | i,la,x::l=>decide (la<x.slot∧((x.slot=255∧0<i∧i+1=n)∨x.slot≤14)) && Yek n (i+1) x.slot l
def Zjl (x:Nt):Bool:=decide ((1≤x.recs.length∧x.recs.length≤16)∧(1≤x.age∧x.age≤2147483648)∧(1≤x.seq∧x.seq≤2147483648)∧(0≤x.stripe∧x.stripe<64))
def Zcd (x:Nt):Bool:=Zjl x && Yek x.recs.length 0 (-1) x.recs
def nchkF:Fam Nt:=⟨Nt.ok,fun x=>[x.a],fun x=>.int .i64 (if Zcd x then 0 else 8),fun x y hx hy h=>by rw [Nt.inj hx hy h]⟩
theorem Ybp {P:Program}{e:Env}(hE:EnvOk P e) (hm:P.follows .mixedOrders=true) (id ag sq st:Int) (v:AV) (R:List Rc) (hx:Nt.ok ⟨id,ag,sq,st,v,R⟩) (hH:((1≤R.length∧R.length≤16)∧(1≤ag∧ag≤2147483648)∧(1≤sq∧sq≤2147483648)∧(0≤st∧st<64))):
 VW P e 0 (match a132 with|.mk c _=>c) (Zax [AV.agg [.int .u32 id,.int .u32 ag,.int .u32 sq,.int .i64 st,v]] 0 .lf) St0 none [] (Zfa [.tmp 2] (fun w s'=>Frz s' w (.int .i64 (if Zcd ⟨id,ag,sq,st,v,R⟩ then 0 else 8)))):=by
 obtain ⟨h1,h2,h3,h4,hs,hr,hl⟩:=hx
 unfold Zgi at h1 h2 h3
 unfold Zc4 at h4
 dsimp only at h1 h2 h3 h4 hs hr hl
 have fin:∀ s (n:Int),n=(if Zcd ⟨id,ag,sq,st,v,R⟩ then 0 else 8)→Frz s (.int .i64 n) (.int .i64 (if Zcd ⟨id,ag,sq,st,v,R⟩ then 0 else 8)):=by
  rintro s n rfl;exact .plain _ rfl
 have hB:Zjl ⟨id,ag,sq,st,v,R⟩=true:=by unfold Zjl;exact decide_eq_true hH
 conv=>whnf
 repeat' (first|(refine Zaa rfl hs ?_;conv=>whnf)|((first|refine w1 rfl rfl ?_ ?_|refine w2 rfl rfl ?_ ?_|refine w4 rfl rfl ?_ ?_) <;> intro _ <;> first|(exfalso;omega)|(conv=>whnf))|fail)
 all_goals refine Zhc (α:=Nat×Bool×Int) (fun x=>[(1,.ptr 0 0),(2,.int .i64 0),(3,.int .i64 x.2.2),(4,.bool x.2.1),(50,v),(51,.int .i64 (R.length:Int)),(52,.int .i64 (x.1:Int))]) (fun _=>[.row 101 [.int .u32 id,.int .u32 ag,.int .u32 sq,.int .i64 st,v]]) (fun x=>R.length-x.1) (fun x=>x.1≤R.length∧(Zcd ⟨id,ag,sq,st,v,R⟩=(x.2.1 && Yek R.length x.1 x.2.2 (R.drop x.1)))∧(-1≤x.2.2∧x.2.2<256)) (0,true,-1) [0] ⟨Nat.zero_le _,by unfold Zcd;rw [hB];rfl,by decide⟩ ⟨by decide,⟨⟨rfl,rfl⟩,⟨rfl,rfl⟩,⟨rfl,rfl⟩,⟨rfl,rfl⟩,⟨Zbe _ hs.hf,by rw [Zao _ hs.hf];rfl⟩,⟨rfl,rfl⟩,⟨rfl,rfl⟩,trivial⟩,⟨⟨by show (true && (true && (true && (true && (bd _ v && true)))))=true;rw [Zbe _ hs.hf];rfl,by show _=some (AObj.row 101 [_,_,_,_,Zed _ v]);rw [Zao _ hs.hf];rfl⟩,trivial⟩⟩ ?_
 all_goals
  rintro ⟨i,b,la⟩ ⟨hi,hI,hla⟩
  dsimp only at hi hI hla ⊢
  refine Zap hE hm ?_;conv=>whnf
  refine Zab rfl rfl (fun h=>?_) (fun h=>?_) <;> conv=>whnf
  ·have hlt:i<R.length:=by omega
   refine Zae rfl hs rfl hlt ?_;conv=>whnf
   have hx3:=Zqd hlt
   have hxr:=hr R[i] (List.getElem_mem hlt)
   rw [List.drop_eq_getElem_cons hlt] at hI
   revert hI hx3 hxr
   generalize R[i]=x
   obtain ⟨sl,ba,su⟩:=x
   rintro hI hx3 ⟨hsl,hsu⟩
   dsimp only at hsl
   refine Zgc (cs:=[.int .u8 sl,.bool ba,.int .u32 su]) hx3 ?_
   rw [show Yek R.length i la (⟨sl,ba,su⟩::R.drop (i+1))=(decide (la<sl∧((sl=255∧0<i∧i+1=R.length)∨sl≤14)) && Yek R.length (i+1) sl (R.drop (i+1))) from rfl] at hI
   have fin2:∀ (b':Bool),b'=(b && decide (la<sl∧((sl=255∧0<i∧i+1=R.length)∨sl≤14)))→∀ (t:AT) (s:St),t.get 1=some (.ptr 0 0)→t.get 2=some (.int .i64 0)→t.get 3=some (.int .i64 sl)→t.get 4=some (.bool b')→t.get 50=some v→t.get 51=some (.int .i64 (R.length:Int))→t.get 52=some (.int .i64 ((i:Int)+1))→s.get 0=some (.row 101 [.int .u32 id,.int .u32 ag,.int .u32 sq,.int .i64 st,v])→
    ([]:List Nat)=[]∧∃ x':Nat×Bool×Int,(x'.1≤R.length∧(Zcd ⟨id,ag,sq,st,v,R⟩=(x'.2.1 && Yek R.length x'.1 x'.2.2 (R.drop x'.1)))∧(-1≤x'.2.2∧x'.2.2<256))∧R.length-x'.1<R.length-i∧∃ rs,Abs t s [(1,.ptr 0 0),(2,.int .i64 0),(3,.int .i64 x'.2.2),(4,.bool x'.2.1),(50,v),(51,.int .i64 (R.length:Int)),(52,.int .i64 (x'.1:Int))] [.row 101 [.int .u32 id,.int .u32 ag,.int .u32 sq,.int .i64 st,v]] rs:=by
    rintro b' hb' t s h1 h2 h3 h4 h5 h6 h7 g0
    refine ⟨rfl,(i+1,b',sl),⟨hlt,by dsimp only;rw [hI,hb',Bool.and_assoc],by dsimp only;omega⟩,by dsimp only;omega,[0],⟨by decide,⟨⟨rfl,h1⟩,⟨rfl,h2⟩,⟨rfl,h3⟩,⟨rfl,h4⟩,⟨Zbe _ hs.hf,by rw [Zao _ hs.hf];exact h5⟩,⟨rfl,h6⟩,⟨rfl,by rw [h7];simp;rfl⟩,trivial⟩,⟨⟨?_,?_⟩,trivial⟩⟩⟩
    ·show (true && (true && (true && (true && (bd _ v && true)))))=true;rw [Zbe _ hs.hf];rfl
    ·show _=some (AObj.row 101 [_,_,_,_,Zed _ v]);rw [Zao _ hs.hf];exact g0
   cases b
   ·conv=>whnf
    repeat' (first|(refine Zaa rfl hs ?_;conv=>whnf)|((first|refine w3 rfl rfl ?_ ?_|refine w5 rfl rfl ?_ ?_) <;> intro _ <;> first|(exfalso;omega)|(conv=>whnf))|((first|refine w7 rfl rfl (by omega) ?_|refine w8 rfl rfl (by omega) ?_|refine w14 (q':=.i64) rfl (i64_in (by omega)) ?_|refine ⟨rfl,?_⟩);conv=>whnf)|fail)
    all_goals first
     | (refine (fin2 false (by simp) _ _ ?_ ?_ ?_ ?_ ?_ ?_ ?_ ?_).2 <;> rfl)
   ·conv=>whnf
    repeat' (first|(refine Zaa rfl hs ?_;conv=>whnf)|((first|refine w2 rfl rfl ?_ ?_|refine w3 rfl rfl ?_ ?_|refine w5 rfl rfl ?_ ?_) <;> intro _ <;> first|(exfalso;omega)|(conv=>whnf))|((first|refine w7 rfl rfl (by omega) ?_|refine w8 rfl rfl (by omega) ?_|refine w14 (q':=.i64) rfl (i64_in (by omega)) ?_|refine ⟨rfl,?_⟩);conv=>whnf)|fail)
    all_goals by_cases hq:(la<sl∧((sl=255∧0<i∧i+1=R.length)∨sl≤14))
    all_goals first
     | (exfalso;omega)
     | (refine (fin2 true (by rw [decide_eq_true hq];rfl) _ _ ?_ ?_ ?_ ?_ ?_ ?_ ?_ ?_).2 <;> rfl)
     | (refine (fin2 false (by rw [decide_eq_false hq];rfl) _ _ ?_ ?_ ?_ ?_ ?_ ?_ ?_ ?_).2 <;> rfl)
  ·have hd:R.drop i=[]:=List.drop_eq_nil_of_le (by omega)
   rw [hd] at hI
   have hI:Zcd ⟨id,ag,sq,st,v,R⟩=(b && true):=hI
   rw [Bool.and_true] at hI
   cases b
   ·conv=>whnf
    repeat' (first|(refine w13 rfl ?_;conv=>whnf)|fail)
    exact fin _ 8 (by rw [hI];rfl)
   ·conv=>whnf
    repeat' (first|(refine w12 rfl ?_;conv=>whnf)|fail)
    exact fin _ 0 (by rw [hI];rfl)
theorem Zx9 {P:Program}{e:Env}(hE:EnvOk P e) (hm:P.follows .mixedOrders=true) (id ag sq st:Int) (v:AV) (R:List Rc) (hx:Nt.ok ⟨id,ag,sq,st,v,R⟩) (hH:¬ ((1≤R.length∧R.length≤16)∧(1≤ag∧ag≤2147483648)∧(1≤sq∧sq≤2147483648)∧(0≤st∧st<64))):
 VW P e 0 (match a132 with|.mk c _=>c) (Zax [AV.agg [.int .u32 id,.int .u32 ag,.int .u32 sq,.int .i64 st,v]] 0 .lf) St0 none [] (Zfa [.tmp 2] (fun w s'=>Frz s' w (.int .i64 (if Zcd ⟨id,ag,sq,st,v,R⟩ then 0 else 8)))):=by
 obtain ⟨h1,h2,h3,h4,hs,hr,hl⟩:=hx
 unfold Zgi at h1 h2 h3
 unfold Zc4 at h4
 dsimp only at h1 h2 h3 h4 hs hr hl
 have fin:∀ s (n:Int),n=(if Zcd ⟨id,ag,sq,st,v,R⟩ then 0 else 8)→Frz s (.int .i64 n) (.int .i64 (if Zcd ⟨id,ag,sq,st,v,R⟩ then 0 else 8)):=by
  rintro s n rfl;exact .plain _ rfl
 have hB:Zjl ⟨id,ag,sq,st,v,R⟩=false:=by unfold Zjl;exact decide_eq_false hH
 have hN:Zcd ⟨id,ag,sq,st,v,R⟩=false:=by unfold Zcd;rw [hB];rfl
 conv=>whnf
 repeat' (first|(refine Zaa rfl hs ?_;conv=>whnf)|((first|refine w1 rfl rfl ?_ ?_|refine w2 rfl rfl ?_ ?_|refine w4 rfl rfl ?_ ?_) <;> intro _ <;> first|(exfalso;omega)|(conv=>whnf))|fail)
 all_goals refine Zhc (α:=Nat×Int) (fun x=>[(1,.ptr 0 0),(2,.int .i64 0),(3,.int .i64 x.2),(4,.bool false),(50,v),(51,.int .i64 (R.length:Int)),(52,.int .i64 (x.1:Int))]) (fun _=>[.row 101 [.int .u32 id,.int .u32 ag,.int .u32 sq,.int .i64 st,v]]) (fun x=>R.length-x.1) (fun x=>x.1≤R.length) (0,-1) [0] (Nat.zero_le _) ⟨by decide,⟨⟨rfl,rfl⟩,⟨rfl,rfl⟩,⟨rfl,rfl⟩,⟨rfl,rfl⟩,⟨Zbe _ hs.hf,by rw [Zao _ hs.hf];rfl⟩,⟨rfl,rfl⟩,⟨rfl,rfl⟩,trivial⟩,⟨⟨by show (true && (true && (true && (true && (bd _ v && true)))))=true;rw [Zbe _ hs.hf];rfl,by show _=some (AObj.row 101 [_,_,_,_,Zed _ v]);rw [Zao _ hs.hf];rfl⟩,trivial⟩⟩ ?_
 all_goals
  rintro ⟨i,la⟩ hi
  dsimp only at hi ⊢
  refine Zap hE hm ?_;conv=>whnf
  refine Zab rfl rfl (fun h=>?_) (fun h=>?_) <;> conv=>whnf
  ·have hlt:i<R.length:=by omega
   refine Zae rfl hs rfl hlt ?_;conv=>whnf
   have hx3:=Zqd hlt
   have hxr:=hr R[i] (List.getElem_mem hlt)
   revert hx3 hxr
   generalize R[i]=x
   obtain ⟨sl,ba,su⟩:=x
   rintro hx3 ⟨hsl,hsu⟩
   dsimp only at hsl
   refine Zgc (cs:=[.int .u8 sl,.bool ba,.int .u32 su]) hx3 ?_
   have fin2:∀ (t:AT) (s:St),t.get 1=some (.ptr 0 0)→t.get 2=some (.int .i64 0)→t.get 3=some (.int .i64 sl)→t.get 4=some (.bool false)→t.get 50=some v→t.get 51=some (.int .i64 (R.length:Int))→t.get 52=some (.int .i64 ((i:Int)+1))→s.get 0=some (.row 101 [.int .u32 id,.int .u32 ag,.int .u32 sq,.int .i64 st,v])→
    ([]:List Nat)=[]∧∃ x':Nat×Int,x'.1≤R.length∧R.length-x'.1<R.length-i∧∃ rs,Abs t s [(1,.ptr 0 0),(2,.int .i64 0),(3,.int .i64 x'.2),(4,.bool false),(50,v),(51,.int .i64 (R.length:Int)),(52,.int .i64 (x'.1:Int))] [.row 101 [.int .u32 id,.int .u32 ag,.int .u32 sq,.int .i64 st,v]] rs:=by
    rintro t s h1 h2 h3 h4 h5 h6 h7 g0
    refine ⟨rfl,(i+1,sl),hlt,by dsimp only;omega,[0],⟨by decide,⟨⟨rfl,h1⟩,⟨rfl,h2⟩,⟨rfl,h3⟩,⟨rfl,h4⟩,⟨Zbe _ hs.hf,by rw [Zao _ hs.hf];exact h5⟩,⟨rfl,h6⟩,⟨rfl,by rw [h7];simp;rfl⟩,trivial⟩,⟨⟨?_,?_⟩,trivial⟩⟩⟩
    ·show (true && (true && (true && (true && (bd _ v && true)))))=true;rw [Zbe _ hs.hf];rfl
    ·show _=some (AObj.row 101 [_,_,_,_,Zed _ v]);rw [Zao _ hs.hf];exact g0
   conv=>whnf
   repeat' (first|(refine Zaa rfl hs ?_;conv=>whnf)|((first|refine w3 rfl rfl ?_ ?_|refine w5 rfl rfl ?_ ?_) <;> intro _ <;> first|(exfalso;omega)|(conv=>whnf))|((first|refine w7 rfl rfl (by omega) ?_|refine w8 rfl rfl (by omega) ?_|refine w14 (q':=.i64) rfl (i64_in (by omega)) ?_|refine ⟨rfl,?_⟩);conv=>whnf)|fail)
   all_goals (refine (fin2 _ _ ?_ ?_ ?_ ?_ ?_ ?_ ?_ ?_).2 <;> rfl)
  ·repeat' (first|(refine w13 rfl ?_;conv=>whnf)|fail)
   exact fin _ 8 (by rw [hN];rfl)
theorem Ygc {P:Program}{e:Env}{fn:Func}(hE:EnvOk P e) (hm:P.follows .mixedOrders=true) (hf:P.funcs[132]?=some fn) (hc:Zaj P fn=some a132) (hb:Zaf P 132):OvOk P 132 nchkF.O:=by
 refine Zal hb fun x hx=>?_
 obtain ⟨id,ag,sq,st,v,R⟩:=x
 have hs:=hx.sl
 dsimp only at hs
 refine ⟨by show ((true && (true && (true && (true && (AM.hf v && true))))) && true)=true;rw [hs.hf];rfl,rfl,C.of_V hE hm hf hc ?_⟩
 by_cases hH:((1≤R.length∧R.length≤16)∧(1≤ag∧ag≤2147483648)∧(1≤sq∧sq≤2147483648)∧(0≤st∧st<64))
 ·exact Ybp hE hm id ag sq st v R hx hH
 ·exact Zx9 hE hm id ag sq st v R hx hH
end Go.AM
set_option maxRecDepth 100000
namespace Go.AM
attribute [local irreducible] W
open X
theorem Zub {bs:List Nat}(hb:∀ b ∈ bs,b<256):∀ b ∈ pad bs,b<256:=by
 unfold pad
 split
 ·intro b hb';rw [List.eq_of_mem_replicate hb'];decide
 ·exact hb
def Zq0:AC:=match a133 with|.mk c _=>c
theorem Zio {v:AV}{bs:List Nat}{a z n:Int}{s:St}(hv:Zbf St0 v=some bs) (hl:bs.length=0∨bs.length=128) (h:Zg1 a z n=true):
 Zt7 [v,.int .i64 a,.int .i64 z,.int .i64 n] s=.ok (.tup [.fz 128 (some 128) (bys (Zb8 (pad bs) a.toNat n.toNat z.toNat)),.int .i64 0]) s:=by
 show (Option.rec .fail (fun bs=>.ok (Ztj bs a z n) s) (Zbf St0 v):RV)=_
 rw [hv]
 show RV.ok (Ztj bs a z n) s=_
 unfold Ztj
 rw [if_neg (by omega),if_pos h]
theorem Zcn {bs:List Nat}(hl:bs.length=0∨bs.length=128):(pad bs).length=128:=by
 unfold pad
 split
 ·simp
 ·rename_i h
  rcases hl with e|e
  ·exact absurd (List.length_eq_zero_iff.1 e) h
  ·exact e
def Zrd (bs:List Nat):AV:=.fz 128 (some 128) (bys bs)
theorem Zgg {bs:List Nat}(hl:bs.length=128) (hb:∀ b ∈ bs,b<256):Zbf St0 (Zrd bs)=some bs:=Zdh hl hb
theorem Zin {a z n:Int}(hz:1≤z∧z≤4) (ha:0≤a∧a+z≤128) (hn:0≤n) (hb:n.toNat<2^(8*z.toNat)):Zg1 a z n=true:=by
 unfold Zg1 Zfu
 rw [decide_eq_true (by omega),decide_eq_true ⟨hn,Nat.div_eq_of_lt hb⟩];rfl
theorem Yf6 (e:Env) (h161:Con e 161 Zt7) (s:St) (r:Nat) (v:AV) (bs:List Nat) (hv:Zbf St0 v=some bs) (hl:bs.length=0∨bs.length=128) (hb:∀ b ∈ bs,b<256) (a z n0:Int) (hz:1≤z∧z≤4) (ha:0≤a∧a+1*z≤128) (h0:0≤n0∧n0.toNat<2^(8*z.toNat))
 (hr:s.get r=some (.row 3 [.int .i64 n0])) (K:AV→St→Prop) (res:List Nat) (hres:res=(Zb8 (pad bs) (a+(0:Int)*z).toNat n0.toNat z.toNat)) (hk:K (Zrd res) s):
 VE e Zq0 (Zax [v,.int .i64 a,.int .i64 z,.sl r 0 1 (some 1)] 0 .lf) s none [] (Zfa [.tmp 8] K):=by
 have hp:=Zcn hl
 have hpb:=Zub hb
 have l0:load1 r (0+(0:Int).toNat*1) s=some (.int .i64 n0):=by unfold load1;rw [Zfh hr];rfl
 conv=>whnf
 refine Ze0 rfl ?_;conv=>whnf
 refine EExec.loop ?_;conv=>whnf
 refine Zab rfl rfl (fun h=>?_) (fun h=>by omega);conv=>whnf
 refine Za0 rfl rfl (by omega) (by omega) ?_;conv=>whnf
 refine Zcq _ l0 ?_;conv=>whnf
 refine Za2 rfl rfl (by omega) ?_;conv=>whnf
 refine Zah rfl rfl (by omega) ?_;conv=>whnf
 refine ESc.ov h161 (Zio hv hl (Zin hz (by omega) h0.1 h0.2)) ?_;conv=>whnf
 refine Zah rfl rfl (by omega) ?_;conv=>whnf
 refine EExec.loop ?_;conv=>whnf
 refine Zab rfl rfl (fun h=>by omega) (fun h=>?_);conv=>whnf
 rw [hres] at hk;exact hk
theorem nput2 (e:Env) (h161:Con e 161 Zt7) (s:St) (r:Nat) (v:AV) (bs:List Nat) (hv:Zbf St0 v=some bs) (hl:bs.length=0∨bs.length=128) (hb:∀ b ∈ bs,b<256) (a z n0 n1:Int) (hz:1≤z∧z≤4) (ha:0≤a∧a+2*z≤128) (h0:0≤n0∧n0.toNat<2^(8*z.toNat)) (h1:0≤n1∧n1.toNat<2^(8*z.toNat))
 (hr:s.get r=some (.row 3 [.int .i64 n0,.int .i64 n1])) (K:AV→St→Prop) (res:List Nat) (hres:res=(Zb8 (Zb8 (pad bs) (a+(0:Int)*z).toNat n0.toNat z.toNat) (a+(0+1:Int)*z).toNat n1.toNat z.toNat)) (hk:K (Zrd res) s):
 VE e Zq0 (Zax [v,.int .i64 a,.int .i64 z,.sl r 0 2 (some 2)] 0 .lf) s none [] (Zfa [.tmp 8] K):=by
 have hp:=Zcn hl
 have hpb:=Zub hb
 have l0:load1 r (0+(0:Int).toNat*1) s=some (.int .i64 n0):=by unfold load1;rw [Zfh hr];rfl
 have l1:load1 r (0+(0+1 :Int).toNat*1) s=some (.int .i64 n1):=by unfold load1;rw [Zfh hr];rfl
 conv=>whnf
 refine Ze0 rfl ?_;conv=>whnf
 refine EExec.loop ?_;conv=>whnf
 refine Zab rfl rfl (fun h=>?_) (fun h=>by omega);conv=>whnf
 refine Za0 rfl rfl (by omega) (by omega) ?_;conv=>whnf
 refine Zcq _ l0 ?_;conv=>whnf
 refine Za2 rfl rfl (by omega) ?_;conv=>whnf
 refine Zah rfl rfl (by omega) ?_;conv=>whnf
 refine ESc.ov h161 (Zio hv hl (Zin hz (by omega) h0.1 h0.2)) ?_;conv=>whnf
 refine Zah rfl rfl (by omega) ?_;conv=>whnf
 refine EExec.loop ?_;conv=>whnf
 refine Zab rfl rfl (fun h=>?_) (fun h=>by omega);conv=>whnf
 refine Za0 rfl rfl (by omega) (by omega) ?_;conv=>whnf
 refine Zcq _ l1 ?_;conv=>whnf
 refine Za2 rfl rfl (by omega) ?_;conv=>whnf
 refine Zah rfl rfl (by omega) ?_;conv=>whnf
 refine ESc.ov h161 (Zio (bs:=(Zb8 (pad bs) (a+(0:Int)*z).toNat n0.toNat z.toNat)) (Zgg (by simp only [Zat];exact hp) (Zaz hpb _)) (.inr (by simp only [Zat];exact hp)) (Zin hz (by omega) h1.1 h1.2)) ?_
 rw [Zc0 (by simp only [Zat];exact hp)]
 conv=>whnf
 refine Zah rfl rfl (by omega) ?_;conv=>whnf
 refine EExec.loop ?_;conv=>whnf
 refine Zab rfl rfl (fun h=>by omega) (fun h=>?_);conv=>whnf
 rw [hres] at hk;exact hk
theorem nput3 (e:Env) (h161:Con e 161 Zt7) (s:St) (r:Nat) (v:AV) (bs:List Nat) (hv:Zbf St0 v=some bs) (hl:bs.length=0∨bs.length=128) (hb:∀ b ∈ bs,b<256) (a z n0 n1 n2:Int) (hz:1≤z∧z≤4) (ha:0≤a∧a+3*z≤128) (h0:0≤n0∧n0.toNat<2^(8*z.toNat)) (h1:0≤n1∧n1.toNat<2^(8*z.toNat)) (h2:0≤n2∧n2.toNat<2^(8*z.toNat))
 (hr:s.get r=some (.row 3 [.int .i64 n0,.int .i64 n1,.int .i64 n2])) (K:AV→St→Prop) (res:List Nat) (hres:res=(Zb8 (Zb8 (Zb8 (pad bs) (a+(0:Int)*z).toNat n0.toNat z.toNat) (a+(0+1:Int)*z).toNat n1.toNat z.toNat) (a+(0+1+1:Int)*z).toNat n2.toNat z.toNat)) (hk:K (Zrd res) s):
 VE e Zq0 (Zax [v,.int .i64 a,.int .i64 z,.sl r 0 3 (some 3)] 0 .lf) s none [] (Zfa [.tmp 8] K):=by
 have hp:=Zcn hl
 have hpb:=Zub hb
 have l0:load1 r (0+(0:Int).toNat*1) s=some (.int .i64 n0):=by unfold load1;rw [Zfh hr];rfl
 have l1:load1 r (0+(0+1 :Int).toNat*1) s=some (.int .i64 n1):=by unfold load1;rw [Zfh hr];rfl
 have l2:load1 r (0+(0+1+1 :Int).toNat*1) s=some (.int .i64 n2):=by unfold load1;rw [Zfh hr];rfl
 conv=>whnf
 refine Ze0 rfl ?_;conv=>whnf
 refine EExec.loop ?_;conv=>whnf
 refine Zab rfl rfl (fun h=>?_) (fun h=>by omega);conv=>whnf
 refine Za0 rfl rfl (by omega) (by omega) ?_;conv=>whnf
 refine Zcq _ l0 ?_;conv=>whnf
 refine Za2 rfl rfl (by omega) ?_;conv=>whnf
 refine Zah rfl rfl (by omega) ?_;conv=>whnf
 refine ESc.ov h161 (Zio hv hl (Zin hz (by omega) h0.1 h0.2)) ?_;conv=>whnf
 refine Zah rfl rfl (by omega) ?_;conv=>whnf
 refine EExec.loop ?_;conv=>whnf
 refine Zab rfl rfl (fun h=>?_) (fun h=>by omega);conv=>whnf
 refine Za0 rfl rfl (by omega) (by omega) ?_;conv=>whnf
 refine Zcq _ l1 ?_;conv=>whnf
 refine Za2 rfl rfl (by omega) ?_;conv=>whnf
 refine Zah rfl rfl (by omega) ?_;conv=>whnf
 refine ESc.ov h161 (Zio (bs:=(Zb8 (pad bs) (a+(0:Int)*z).toNat n0.toNat z.toNat)) (Zgg (by simp only [Zat];exact hp) (Zaz hpb _)) (.inr (by simp only [Zat];exact hp)) (Zin hz (by omega) h1.1 h1.2)) ?_
 rw [Zc0 (by simp only [Zat];exact hp)]
 conv=>whnf
 refine Zah rfl rfl (by omega) ?_;conv=>whnf
 refine EExec.loop ?_;conv=>whnf
 refine Zab rfl rfl (fun h=>?_) (fun h=>by omega);conv=>whnf
 refine Za0 rfl rfl (by omega) (by omega) ?_;conv=>whnf
 refine Zcq _ l2 ?_;conv=>whnf
 refine Za2 rfl rfl (by omega) ?_;conv=>whnf
 refine Zah rfl rfl (by omega) ?_;conv=>whnf
 refine ESc.ov h161 (Zio (bs:=(Zb8 (Zb8 (pad bs) (a+(0:Int)*z).toNat n0.toNat z.toNat) (a+(0+1:Int)*z).toNat n1.toNat z.toNat)) (Zgg (by simp only [Zat];exact hp) (Zaz (Zaz hpb _) _)) (.inr (by simp only [Zat];exact hp)) (Zin hz (by omega) h2.1 h2.2)) ?_
 rw [Zc0 (by simp only [Zat];exact hp)]
 conv=>whnf
 refine Zah rfl rfl (by omega) ?_;conv=>whnf
 refine EExec.loop ?_;conv=>whnf
 refine Zab rfl rfl (fun h=>by omega) (fun h=>?_);conv=>whnf
 rw [hres] at hk;exact hk
end Go.AM
set_option maxRecDepth 100000
namespace Go.AM
attribute [local irreducible] W
open X
def Zj4 (x:Nt):List Nat:=Zb8 (Zb8 (Zb8 (Zb8 (Zb8 (Zb8 (List.replicate 128 0) 0 78 1) 1 x.id.toNat 4) 5 x.age.toNat 4) 9 x.seq.toNat 4) 13 x.stripe.toNat 1) 14 x.recs.length 1
def Zog (b:Bool):Nat:=if b then 1 else 0
def Zhs (b:List Nat) (i:Nat) (r:Rc):List Nat:=Zb8 (Zb8 (Zb8 b (15+6*i) r.slot.toNat 1) (16+6*i) (Zog r.bare) 1) (17+6*i) r.sum.toNat 4
theorem Zr6 (x:Nt):(Zj4 x).length=128:=by unfold Zj4;simp only [Zat];simp
theorem Yf8 (x:Nt):∀ b ∈ Zj4 x,b<256:=by
 unfold Zj4
 refine Zaz (Zaz (Zaz (Zaz (Zaz (Zaz ?_ _) _) _) _) _) _
 intro b h;rw [List.eq_of_mem_replicate h];decide
theorem Zr5 (b:List Nat) (i:Nat) (r:Rc):(Zhs b i r).length=b.length:=by unfold Zhs;simp only [Zat]
theorem Yf7 {b:List Nat}{i:Nat}{r:Rc}(hb:∀ x ∈ b,x<256):∀ x ∈ Zhs b i r,x<256:=by
 unfold Zhs;exact Zaz (Zaz (Zaz hb _) _) _
def Zb3 (x:Nt):Nat→List Nat
 | 0=>Zj4 x
 | i+1=>match x.recs[i]? with
  | some r=>Zhs (Zb3 x i) i r
  | none=>Zb3 x i
theorem Zd6 (x:Nt):∀ i,(Zb3 x i).length=128
 | 0=>Zr6 x
 | i+1=>by
  unfold Zb3
  split
  ·rw [Zr5];exact Zd6 x i
  ·exact Zd6 x i
theorem Zg2 (x:Nt):∀ i,∀ b ∈ Zb3 x i,b<256
 | 0=>Yf8 x
 | i+1=>by
  unfold Zb3
  split
  ·exact Yf7 (Zg2 x i)
  ·exact Zg2 x i
def Yc2:AC:=match a90 with|.mk c _=>c
def Ydd:AC:=match a100 with|.mk c _=>c
def asgW:AC:=match Zj0 Yc2 with|some (a,_)=>a|none=>.skip
def bodyW:AC:=match Zj0 Yc2 with|some (_,b)=>b|none=>.skip
noncomputable def tmW:AT:=ofL [(1,.ptr 0 0),(5,.ptr 1 0),(40,.fn 142 [] [.ptr 2 0])]
def rowsW (id ag sq st:Int) (v:AV) (n:Nat) (B:List Nat):List AObj:=[.row 101 [.int .u32 id,.int .u32 ag,.int .u32 sq,.int .i64 st,v],.row 32 [Zrd B],.row 3 [.int .i64 (n:Int)]]
def nwF:Fam Nt:=⟨Nt.ok,fun x=>[x.a],fun x=>if Zcd x then .tup [Zrd (Zb8 (Zb3 x x.recs.length) 124 (Zen ((Zb3 x x.recs.length).take 124)) 4),.int .i64 0] else .tup [.nils,.int .i64 8],fun x y hx hy h=>by rw [Nt.inj hx hy h]⟩
theorem nwF_ok {P:Program}{e:Env}{fn fn':Func}(hE:EnvOk P e) (hm:P.follows .mixedOrders=true) (h132:Con e 132 nchkF.O) (h133:Inl e 133 Zq0 [.tmp 8]) (h161:Con e 161 Zt7) (h100:Inl e 100 Ydd [.tmp 2]) (h67:Inl e 67 Zsw [.tmp 2]) (h107:Con e 107 Zjh)
 (hf':P.funcs[142]?=some fn') (hc':Zaj P fn'=some a142) (hb':Zaf P 142) (hf:P.funcs[90]?=some fn) (hc:Zaj P fn=some a90) (hb:Zaf P 90):OvOk P 90 nwF.O:=by
 refine Zal hb fun x hx=>?_
 have hxx:=hx
 obtain ⟨id,ag,sq,st,v,R⟩:=x
 obtain ⟨h1,h2,h3,h4,hs,hr,hl⟩:=hx
 unfold Zgi at h1 h2 h3
 dsimp only at h1 h2 h3 h4 hs hr hl
 refine ⟨by show ((true && (true && (true && (true && (AM.hf v && true))))) && true)=true;rw [hs.hf];rfl,by unfold nwF;dsimp only;split <;> rfl,C.of_V hE hm hf hc ?_⟩
 obtain ⟨X,hX⟩:∃ X:Nt,X=⟨id,ag,sq,st,v,R⟩:=⟨_,rfl⟩
 show VW P e 0 Yc2 (Zax [AV.agg [.int .u32 id,.int .u32 ag,.int .u32 sq,.int .i64 st,v]] 0 .lf) St0 none [] (Zfa [.tmp 2,.tmp 3] (fun w s'=>Frz s' w (nwF.out ⟨id,ag,sq,st,v,R⟩)))
 rw [← hX] at hxx ⊢
 have hchk:∀ (K:AV→St→Prop) (s:St) (u:AV),nchkF.out X=u→K u s→ESc e 132 [AV.agg [.int .u32 id,.int .u32 ag,.int .u32 sq,.int .i64 st,v]] s K:=fun K s u hu hk=>by
  have:=ESc.fam nchkF h132 X hxx hu hk
  rw [show nchkF.enc X=[AV.agg [.int .u32 id,.int .u32 ag,.int .u32 sq,.int .i64 st,v]] by rw [hX];rfl] at this
  exact this
 by_cases hN:Zcd X=true
 ·rw [show nwF.out X=.tup [Zrd (Zb8 (Zb3 X X.recs.length) 124 (Zen ((Zb3 X X.recs.length).take 124)) 4),.int .i64 0] by simp [nwF,hN]]
  have hH:Zjl X=true:=by unfold Zcd at hN;rw [Bool.and_eq_true] at hN;exact hN.1
  unfold Zjl at hH
  have hH:=of_decide_eq_true hH
  rw [hX] at hH
  dsimp only at hH
  conv=>whnf
  refine hchk _ _ (.int .i64 0) (by simp [nchkF,hN]) ?_;conv=>whnf
  repeat' (first|((refine w6 rfl rfl ?_ ?_) <;> intro _ <;> first|(exfalso;omega)|(conv=>whnf))|fail)
  refine ESc.inl h133 (Yf6 e h161 _ _ .nils [] rfl (.inl rfl) (by simp) 0 1 78 (by omega) (by omega) ⟨by decide,by decide⟩ rfl _ (Zb8 (List.replicate 128 0) 0 78 1) rfl ?_);conv=>whnf
  have p4:(2:Nat)^(8*(4:Int).toNat)=4294967296:=rfl
  have p1:(2:Nat)^(8*(1:Int).toNat)=256:=rfl
  have q0:(Zb8 (List.replicate 128 0) 0 78 1).length=128:=by simp only [Zat];simp
  have q1:∀ b ∈ Zb8 (List.replicate 128 0) 0 78 1,b<256:=Zaz (by intro b h;rw [List.eq_of_mem_replicate h];decide) _
  repeat' (first|(refine w14 (q':=.i64) rfl (i64_in (by omega)) ?_;conv=>whnf)|fail)
  refine ESc.inl h133 (nput3 e h161 _ _ (Zrd (Zb8 (List.replicate 128 0) 0 78 1)) (Zb8 (List.replicate 128 0) 0 78 1) (Zgg q0 q1) (.inr q0) q1 1 4 id ag sq (by omega) (by omega) ⟨by omega,by omega⟩ ⟨by omega,by omega⟩ ⟨by omega,by omega⟩ rfl _ (Zb8 (Zb8 (Zb8 (Zb8 (List.replicate 128 0) 0 78 1) 1 id.toNat 4) 5 ag.toNat 4) 9 sq.toNat 4) (by rw [Zc0 q0];rfl) ?_)
  obtain ⟨B1,hB1⟩:∃ B,B=Zb8 (Zb8 (Zb8 (Zb8 (List.replicate 128 0) 0 78 1) 1 id.toNat 4) 5 ag.toNat 4) 9 sq.toNat 4:=⟨_,rfl⟩
  have r0:B1.length=128:=by rw [hB1];simp only [Zat];simp
  have r1:∀ b ∈ B1,b<256:=by rw [hB1];exact Zaz (Zaz (Zaz q1 _) _) _
  rw [← hB1]
  conv=>whnf
  repeat' (first|(refine Zaa rfl hs ?_;conv=>whnf)|fail)
  refine ESc.inl h133 (nput2 e h161 _ _ (Zrd B1) B1 (Zgg r0 r1) (.inr r0) r1 13 1 st (R.length:Int) (by omega) (by omega) ⟨by omega,by omega⟩ ⟨by omega,by omega⟩ rfl _ (Zj4 X) (by rw [Zc0 r0,hX,hB1];rfl) ?_);conv=>whnf
  repeat' (first|(refine Zaa rfl hs ?_;conv=>whnf)|fail)
  refine ESc.inl h100 ?_;conv=>whnf
  refine W.abs [(1,.ptr 0 0),(5,.ptr 1 0),(40,.fn 142 [] [.ptr 2 0])] (rowsW id ag sq st v R.length (Zj4 X)) [0,2,5] ⟨by decide,⟨⟨rfl,rfl⟩,⟨rfl,rfl⟩,⟨rfl,rfl⟩,trivial⟩,⟨⟨?_,?_⟩,⟨Zex _ rfl,rfl⟩,⟨rfl,rfl⟩,trivial⟩⟩ ?_
  ·show (true && (true && (true && (true && (bd _ v && true)))))=true;rw [Zbe _ hs.hf];rfl
  ·show _=some (AObj.row 101 [_,_,_,_,Zed _ v]);rw [Zao _ hs.hf];rfl
  refine Zta (f:=142) (first:=[]) (cap:=[.ptr 2 0]) hb' rfl ?_ ?_
  ·intro q hq
   have hq:q<3:=hq
   rcases q with _|_|_|q
   ·exact .tmp 1 (.ptr 0 0) rfl rfl
   ·exact .tmp 5 (.ptr 1 0) rfl rfl
   ·exact .tmp 40 (.fn 142 [] [.ptr 2 0]) rfl rfl
   ·omega
  show C1 P 142 [.yld 4,.ptr 2 0] (Zai St0 (rowsW id ag sq st v R.length (Zj4 X)++[.defd,.loop .ready none 0 tmW [41,42] asgW bodyW 3])) (fun _ s'=>Zom 4 [3] tmW s' _)
  refine C1.of_V hE hm hf' hc' ?_;conv=>whnf
  have hXR:X.recs=R:=by rw [hX]
  have hv1:(true && (true && (true && (true && (bd 5 v && true)))))=true:=by rw [Zbe _ hs.hf];rfl
  have hv2:∀ ρ,Zr9 ρ (.row 101 [.int .u32 id,.int .u32 ag,.int .u32 sq,.int .i64 st,v])=.row 101 [.int .u32 id,.int .u32 ag,.int .u32 sq,.int .i64 st,v]:=fun ρ=>by show AObj.row 101 [_,_,_,_,Zed _ v]=_;rw [Zao _ hs.hf];rfl
  have hB1:∀ (ρ:Nat→Nat) (B:List Nat),Zr9 ρ (.row 32 [Zrd B])=.row 32 [Zrd B]:=fun _ _=>rfl
  refine W.loopK (α:=Nat) (fun i=>[(0,.yld 4),(1,.ptr 2 0),(3,.int .i64 (i:Int))]) (fun i=>rowsW id ag sq st v R.length (Zb3 X i)++[.defd,.loop .ready none 0 tmW [41,42] asgW bodyW 3]) (fun i=>R.length-i)
   (fun i=>i≤R.length) 0 [0,1,2,3,4] (Nat.zero_le _) ?_ ?_
  ·exact ⟨rfl,by decide,⟨⟨rfl,rfl⟩,⟨rfl,rfl⟩,⟨rfl,rfl⟩,trivial⟩,⟨⟨hv1,by rw [hv2];rfl⟩,⟨rfl,rfl⟩,⟨rfl,rfl⟩,⟨rfl,rfl⟩,⟨rfl,rfl⟩,trivial⟩⟩
  intro i hi
  refine Zap hE hm ?_;conv=>whnf
  refine Zab rfl rfl (fun h=>?_) (fun h=>?_) <;> conv=>whnf
  ·have hlt:i<R.length:=by omega
   refine Za2 rfl rfl (by omega) ?_;conv=>whnf
   refine Zah rfl rfl (by omega) ?_;conv=>whnf
   refine ERound.mk ?_;conv=>whnf
   refine Zae rfl hs rfl hlt ?_;conv=>whnf
   have hst:Zb3 X (i+1)=Zhs (Zb3 X i) i R[i]:=by
    show (match X.recs[i]? with|some r=>Zhs (Zb3 X i) i r|none=>Zb3 X i)=_
    rw [hXR,List.getElem?_eq_getElem hlt]
   have hx3:=Zqd hlt
   have hxr:=hr R[i] (List.getElem_mem hlt)
   have hI0:=Zd6 X i
   have hI1:=Zg2 X i
   revert hst hx3 hxr
   generalize R[i]=x
   obtain ⟨sl,ba,su⟩:=x
   rintro hst hx3 ⟨hsl,hsu⟩
   unfold Zgi at hsu
   dsimp only at hsl hsu
   refine Zgc (cs:=[.int .u8 sl,.bool ba,.int .u32 su]) hx3 ?_
   cases ba
   ·conv=>whnf
    repeat' (first|((first|refine w7 rfl rfl (by omega) ?_|refine w14 (q':=.i64) rfl (i64_in (by omega)) ?_);conv=>whnf)|fail)
    refine ESc.inl h133 (nput2 e h161 _ _ (Zrd (Zb3 X i)) (Zb3 X i) (Zgg hI0 hI1) (.inr hI0) hI1 (15+6*(i:Int)) 1 sl 0 (by omega) (by omega) ⟨by omega,by omega⟩ ⟨by omega,by omega⟩ rfl _ (Zb8 (Zb8 (Zb3 X i) (15+6*i) sl.toNat 1) (16+6*i) (Zog false) 1) (by rw [Zc0 hI0,show (15+6*(i:Int)+0*1).toNat=15+6*i by omega,show (15+6*(i:Int)+(0+1)*1).toNat=16+6*i by omega];rfl) ?_);conv=>whnf
    refine ⟨rfl,?_⟩;conv=>whnf
    have hJ0:(Zb8 (Zb8 (Zb3 X i) (15+6*i) sl.toNat 1) (16+6*i) (Zog false) 1).length=128:=by simp only [Zat];exact hI0
    refine ESc.inl h133 (Yf6 e h161 _ _ (Zrd (Zb8 (Zb8 (Zb3 X i) (15+6*i) sl.toNat 1) (16+6*i) (Zog false) 1)) _ (Zgg hJ0 (Zaz (Zaz hI1 _) _)) (.inr hJ0) (Zaz (Zaz hI1 _) _) (15+6*(i:Int)+2) 4 su (by omega) (by omega) ⟨by omega,by omega⟩ rfl _ (Zhs (Zb3 X i) i ⟨sl,false,su⟩) (by rw [Zc0 hJ0,show (15+6*(i:Int)+2+0*4).toNat=17+6*i by omega];rfl) ?_)
    rw [← hst]
    conv=>whnf
    refine Zah rfl rfl (by omega) ?_;conv=>whnf
    refine ⟨rfl,i+1,hlt,by omega,[0,1,2,3,4],⟨rfl,by decide,⟨⟨rfl,rfl⟩,⟨rfl,rfl⟩,⟨rfl,rfl⟩,trivial⟩,⟨⟨hv1,by rw [hv2];rfl⟩,⟨rfl,rfl⟩,⟨rfl,rfl⟩,⟨rfl,rfl⟩,⟨rfl,rfl⟩,trivial⟩⟩⟩
   ·conv=>whnf
    repeat' (first|((first|refine w7 rfl rfl (by omega) ?_|refine w14 (q':=.i64) rfl (i64_in (by omega)) ?_);conv=>whnf)|fail)
    refine ESc.inl h133 (nput2 e h161 _ _ (Zrd (Zb3 X i)) (Zb3 X i) (Zgg hI0 hI1) (.inr hI0) hI1 (15+6*(i:Int)) 1 sl 1 (by omega) (by omega) ⟨by omega,by omega⟩ ⟨by omega,by omega⟩ rfl _ (Zb8 (Zb8 (Zb3 X i) (15+6*i) sl.toNat 1) (16+6*i) (Zog true) 1) (by rw [Zc0 hI0,show (15+6*(i:Int)+0*1).toNat=15+6*i by omega,show (15+6*(i:Int)+(0+1)*1).toNat=16+6*i by omega];rfl) ?_);conv=>whnf
    refine ⟨rfl,?_⟩;conv=>whnf
    have hJ0:(Zb8 (Zb8 (Zb3 X i) (15+6*i) sl.toNat 1) (16+6*i) (Zog true) 1).length=128:=by simp only [Zat];exact hI0
    refine ESc.inl h133 (Yf6 e h161 _ _ (Zrd (Zb8 (Zb8 (Zb3 X i) (15+6*i) sl.toNat 1) (16+6*i) (Zog true) 1)) _ (Zgg hJ0 (Zaz (Zaz hI1 _) _)) (.inr hJ0) (Zaz (Zaz hI1 _) _) (15+6*(i:Int)+2) 4 su (by omega) (by omega) ⟨by omega,by omega⟩ rfl _ (Zhs (Zb3 X i) i ⟨sl,true,su⟩) (by rw [Zc0 hJ0,show (15+6*(i:Int)+2+0*4).toNat=17+6*i by omega];rfl) ?_)
    rw [← hst]
    conv=>whnf
    refine Zah rfl rfl (by omega) ?_;conv=>whnf
    refine ⟨rfl,i+1,hlt,by omega,[0,1,2,3,4],⟨rfl,by decide,⟨⟨rfl,rfl⟩,⟨rfl,rfl⟩,⟨rfl,rfl⟩,trivial⟩,⟨⟨hv1,by rw [hv2];rfl⟩,⟨rfl,rfl⟩,⟨rfl,rfl⟩,⟨rfl,rfl⟩,⟨rfl,rfl⟩,trivial⟩⟩⟩
  ·have hiR:i=X.recs.length:=by rw [hXR];omega
   have hI0:=Zd6 X i
   have hI1:=Zg2 X i
   rw [← hiR]
   generalize Zb3 X i=B at hI0 hI1
   refine Zhg (h:=124) rfl rfl rfl (by omega) (by omega) (by omega) (by rw [Zan];omega) ?_;conv=>whnf
   refine ESc.inl h67 ?_;conv=>whnf
   have htk:∀ b ∈ B.take 124,b<256:=fun b hb'=>hI1 b (List.mem_of_mem_take hb')
   have htl:(B.take 124).length=124:=by rw [List.length_take];omega
   have hsum:Zen (B.take 124)<4294967296:=Nat.xor_lt_two_pow (n:=32) (Zg7 htk (by decide)) (by decide)
   refine ESc.ov h107 (v:=.int .u32 (Int.ofNat (Zen (B.take 124)))) (s':=_) (by
    show (Option.rec .fail (fun bs=>gd (Nat.blt (Zd0 bs) 1000000) (.ok (.int .u32 (.ofNat (Nat.xor (Zfx bs (Nat.xor 0 4294967295)) 4294967295))) _)) (Zbf _ (.fz 124 _ ((bys B).take 124))):RV)=_
    rw [Zms,Zdh htl htk]
    show gd (Nat.blt (Zd0 (B.take 124)) 1000000) _=_
    rw [Zbu,htl];rfl) ?_
   conv=>whnf
   refine ⟨rfl,?_⟩;conv=>whnf
   refine Zii rfl (by omega) ?_;conv=>whnf
   refine ESc.inl h133 (Yf6 e h161 _ _ (Zrd B) B (Zgg hI0 hI1) (.inr hI0) hI1 124 4 (Int.ofNat (Zen (B.take 124))) (by omega) (by omega) ⟨Int.natCast_nonneg _,by show Zen (B.take 124)<_;omega⟩ rfl _ (Zb8 B 124 (Zen (B.take 124)) 4) (by rw [Zc0 hI0];rfl) ?_);conv=>whnf
   exact .plain _ rfl
 ·rw [show nwF.out X=.tup [.nils,.int .i64 8] by simp [nwF,hN]]
  conv=>whnf
  refine hchk _ _ (.int .i64 8) (by simp [nchkF,hN]) ?_;conv=>whnf
  repeat' (first|((refine w6 rfl rfl ?_ ?_) <;> intro _ <;> first|(exfalso;omega)|(conv=>whnf))|fail)
  exact .plain _ rfl
end Go.AM
