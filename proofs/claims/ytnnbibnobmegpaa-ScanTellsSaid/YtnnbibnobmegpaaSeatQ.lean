/-
 Functions of the program as the abstract machine reads them, and what is stated of them, checked by the kernel. No conditions.
-/
import Derived.Test.YtnnbibnobmegpaaSeatA
import Derived.Test.YtnnbibnobmegpaaSeatP
set_option linter.unusedVariables false
set_option linter.unusedSimpArgs false
set_option maxRecDepth 100000
namespace Go.AM
attribute [local irreducible] W
open X
structure WR where
 at_:Int
 u:AV
 b:List Nat
def WR.c (w:WR):List AV:=[.int .i64 w.at_,w.u]
structure WR.any (w:WR):Prop where
 at_:Zc4 w.at_
 b:BAt w.u w.b
def wrs (L:List WR):List AV:=L.flatMap WR.c
theorem Zff (x:WR) (L:List WR):wrs (x::L)=x.c++wrs L:=rfl
theorem Zd2:∀ (L:List WR),(wrs L).length=L.length*2
 | []=>rfl
 | x::L=>by rw [Zff,List.length_append,Zd2 L,List.length_cons];show 2+_=_;omega
theorem Zvh:∀ (L:List WR) (i:Nat),(wrs L).drop (i*2)=wrs (L.drop i)
 | L,0=>by simp
 | [],i+1=>by simp [wrs]
 | x::L,i+1=>by
  rw [List.drop_succ_cons,← Zvh L i,Zff,show (i+1)*2=x.c.length+i*2 by show (i+1)*2=2+i*2;omega,List.drop_append,List.drop_eq_nil_of_le (by omega),List.nil_append]
  congr 1;omega
theorem Zb0 {L:List WR}{i:Nat}(h:i<L.length):(wrs L).drop (i*2)=L[i].c++wrs (L.drop (i+1)):=by
 rw [Zvh,List.drop_eq_getElem_cons h,Zff]
theorem WR.inj {x y:WR}(hx:x.any) (hy:y.any) (h:x.c=y.c):x=y:=by
 obtain ⟨a,u,b⟩:=x
 obtain ⟨a',u',b'⟩:=y
 simp [WR.c] at h
 obtain ⟨rfl,rfl⟩:=h
 have:=hx.b.inj hy.b
 dsimp only at this
 rw [this]
theorem Ztm:∀ {L M:List WR},(∀ o ∈ L,o.any)→(∀ o ∈ M,o.any)→wrs L=wrs M→L=M
 | [],[],_,_,_=>rfl
 | [],y::M,_,_,h=>by have:=congrArg List.length h;rw [Zd2,Zd2] at this;simp at this
 | x::L,[],_,_,h=>by have:=congrArg List.length h;rw [Zd2,Zd2] at this;simp at this
 | x::L,y::M,hx,hy,h=>by
  rw [Zff,Zff] at h
  obtain ⟨h1,h2⟩:=List.append_inj h rfl
  rw [WR.inj (hx x (by simp)) (hy y (by simp)) h1,Ztm (fun o ho=>hx o (by simp [ho])) (fun o ho=>hy o (by simp [ho])) h2]
structure DK where
 bv:AV
 us:List AV
 bs:List (List Nat)
 wv:AV
 ws:List WR
 dead:Bool
def DK.c (x:DK):List AV:=[x.bv,x.wv,.bool x.dead]
def DK.v (x:DK):AV:=.agg x.c
structure DK.any (x:DK):Prop where
 bl:Sl 1 x.us.length x.us x.bv
 bs:All2 BAt x.us x.bs
 wl:Sl 2 x.ws.length (wrs x.ws) x.wv
 ws:∀ w ∈ x.ws,w.any
structure DK.ok (x:DK):Prop where
 a:x.any
 n:x.us.length<1000000
 m:x.ws.length<1000000
 b:∀ b ∈ x.bs,b.length<1000000
 w:∀ w ∈ x.ws,w.b.length<1000000
theorem Zti:∀ {us:List AV}{bs bs':List (List Nat)},All2 BAt us bs→All2 BAt us bs'→bs=bs':=by
 intro us
 induction us with
 | nil=>intro _ _ a b;cases a;cases b;rfl
 | cons u us ih=>
  intro _ _ a b
  cases a with
  | cons a1 a2=>cases b with
   | cons b1 b2=>rw [a1.inj b1,ih a2 b2]
theorem DK.inj {x y:DK}(hx:x.any) (hy:y.any) (h:x.v=y.v):x=y:=by
 obtain ⟨bv,us,bs,wv,ws,dd⟩:=x
 obtain ⟨bv',us',bs',wv',ws',dd'⟩:=y
 have h:=AV.agg.inj h
 simp [DK.c] at h
 obtain ⟨rfl,rfl,rfl⟩:=h
 have e1:=hx.bl.l_inj hy.bl
 have e2:=Ztm hx.ws hy.ws (hx.wl.l_inj hy.wl)
 dsimp only at e1 e2
 subst e1 e2
 have e3:=Zti hx.bs hy.bs
 dsimp only at e3
 rw [e3]
theorem DK.hf {x:DK}(h:x.any):AM.hf x.v=true:=by
 show (AM.hf x.bv && (AM.hf x.wv && (true && true)))=true
 rw [h.bl.hf,h.wl.hf];rfl
def Zsj (p:Nat→Bool):List Nat→Nat→Int
 | [],_=>-1
 | n::l,i=>if p n then (i:Int) else Zsj p l (i+1)
theorem Zwr (p:Nat→Bool):∀ (l:List Nat) (i:Nat),(0≤Zsj p l i↔l.any p=true)
 | [],i=>by simp [Zsj]
 | n::l,i=>by
  unfold Zsj
  rw [List.any_cons]
  cases h:p n
  ·simp only [Bool.false_or,Bool.false_eq_true,if_false];exact Zwr p l (i+1)
  ·simp
theorem Ygz (P:Program) (e:Env) (hE:EnvOk P e) (hm:P.follows .mixedOrders=true) (p:Nat→Bool) (g:Nat) (hg:∀ (x:BN),x.ok→∀ (s:St) (K:AV→St→Prop),K (.bool (p x.n)) s→ECall e g [x.v] s K) (x:BL) (hx:x.ok) (Q:AV→St→Prop) (k:∀ s,Q (.int .i64 (Zsj p x.ns 0)) s):
 VW P e 0 Yc8 (Zax [x.v,.fn g [] []] 0 .lf) St0 none [] (Zfa [.tmp 4] Q):=by
 obtain ⟨v,us,ns⟩:=x
 obtain ⟨hs,hb,hl⟩:=hx
 dsimp only at hs hb hl k ⊢
 have hlen:=hb.length
 conv=>whnf
 refine Zaa rfl hs ?_;conv=>whnf
 refine Zhc (α:=Nat) (fun i=>[(0,v),(1,.fn g [] []),(7,.int .i64 (us.length:Int)),(8,.int .i64 (i:Int))]) (fun i=>[]) (fun i=>us.length-i)
  (fun i=>i≤us.length∧Zsj p ns 0=Zsj p (ns.drop i) i) 0 [] ⟨Nat.zero_le _,rfl⟩ ⟨by decide,⟨⟨Zbe _ hs.hf,by rw [Zao _ hs.hf];rfl⟩,⟨rfl,rfl⟩,⟨rfl,rfl⟩,⟨rfl,rfl⟩,trivial⟩,trivial⟩ ?_
 rintro i ⟨hi,hI⟩
 refine Zap hE hm ?_;conv=>whnf
 refine Zab rfl rfl (fun h=>?_) (fun h=>?_) <;> conv=>whnf
 ·have hlt:i<us.length:=by omega
  have hln:i<ns.length:=by omega
  refine Zae rfl hs rfl hlt ?_;conv=>whnf
  refine EHead.mk (v:=us[i]) (by rw [Nat.mul_one,List.getElem?_drop,Nat.add_zero,List.getElem?_eq_getElem hlt]) ?_;conv=>whnf
  obtain ⟨n,hn,hbn⟩:=hb.get (List.getElem?_eq_getElem hlt)
  have hn':ns[i]=n:=by rw [List.getElem?_eq_getElem hln] at hn;exact Option.some.inj hn
  rw [List.drop_eq_getElem_cons hln,hn'] at hI
  refine hg ⟨us[i],n⟩ hbn _ _ ?_
  rw [show Zsj p (n::ns.drop (i+1)) i=if p n then (i:Int) else Zsj p (ns.drop (i+1)) (i+1) from rfl] at hI
  dsimp only
  cases ho:p n
  ·rw [ho,if_neg (by decide)] at hI
   conv=>whnf
   repeat' (first|((first|refine w7 rfl rfl (by omega) ?_|refine ⟨rfl,?_⟩);conv=>whnf)|fail)
   refine ⟨i+1,⟨hlt,hI⟩,by omega,[],⟨by decide,⟨⟨Zbe _ hs.hf,by rw [Zao _ hs.hf];rfl⟩,⟨rfl,rfl⟩,⟨rfl,rfl⟩,⟨rfl,by simp;rfl⟩,trivial⟩,trivial⟩⟩
  ·rw [ho,if_pos rfl] at hI
   conv=>whnf
   rw [hI] at k;exact k _
 ·have hd:ns.drop i=[]:=List.drop_eq_nil_of_le (by omega)
  rw [hd] at hI
  have hI:Zsj p ns 0=-1:=hI
  rw [hI] at k;exact k _
def Zuz (p:Nat→Bool) (g:Nat):Fam BL:=⟨BL.ok,fun x=>[x.v,.fn g [] []],fun x=>.int .i64 (Zsj p x.ns 0),fun x y hx hy h=>by rw [BL.inj hx hy (List.cons.inj h).1]⟩
theorem Zww {P:Program}{e:Env}{fn:Func}(hE:EnvOk P e) (hm:P.follows .mixedOrders=true) (p:Nat→Bool) (g:Nat) (hg:∀ (x:BN),x.ok→∀ (s:St) (K:AV→St→Prop),K (.bool (p x.n)) s→ECall e g [x.v] s K) (hf:P.funcs[138]?=some fn) (hc:Zaj P fn=some Yi8) (hb:Zaf P 138):OvOk P 138 (Zuz p g).O:=by
 refine Zal hb fun x hx=>?_
 refine ⟨by show (AM.hf x.v && (true && true && true))=true;rw [hx.sl.hf];rfl,rfl,C.of_V hE hm hf hc (Ygz P e hE hm p g hg x hx _ fun s=>.plain _ rfl)⟩
def orO (h1 h2:Ov):Ov:=fun args s=>match h1 args s with
 | .fail=>h2 args s
 | r=>r
theorem orO_ok {P:Program}{f:Nat}{h1 h2:Ov}(q1:OvOk P f h1) (q2:OvOk P f h2):OvOk P f (orO h1 h2):=by
 refine ⟨q1.1,fun args s v s' h=>?_⟩
 unfold orO at h
 cases hq:h1 args s with
 | fail=>rw [hq] at h;exact q2.2 args s v s' h
 | ok v1 s1=>rw [hq] at h;cases h;exact q1.2 args s _ _ hq
end Go.AM
set_option maxRecDepth 100000
namespace Go.AM
attribute [local irreducible] W
open X
theorem Zkw {α:Type}(F:Fam α) {x:α}(hx:F.ok x) (s:St):F.O (F.enc x) s=.ok (F.out x) s:=by
 have h:∃ u,∃ y,F.ok y∧F.enc x=F.enc y∧u=F.out y:=⟨_,x,hx,rfl,rfl⟩
 unfold Fam.O Yej
 rw [dif_pos h]
 obtain ⟨y,hy,e,hu⟩:=Classical.choose_spec h
 rw [hu,F.inj x y hx hy e]
theorem Yh2 {α:Type}(F:Fam α) {args:List AV}(h:∀ x,F.ok x→args≠F.enc x) (s:St):F.O args s=.fail:=by
 unfold Fam.O Yej
 rw [dif_neg]
 rintro ⟨u,y,hy,e,_⟩
 exact h y hy e
def Ya2 (n:Nat):Bool:=decide (0<n)
noncomputable def Yiw:Ov:=orO (Zuz Zde 143).O (Zuz Ya2 146).O
theorem Yhb {e:Env}(h:Con e 138 Yiw) {x:BL}(hx:x.ok) {s:St}{K:AV→St→Prop}(hk:K (.int .i64 (Zsj Zde x.ns 0)) s):ESc e 138 [x.v,.fn 143 [] []] s K:=by
 refine ESc.ov h (v:=.int .i64 (Zsj Zde x.ns 0)) (s':=s) ?_ hk
 unfold Yiw orO
 rw [show (Zuz Zde 143).O [x.v,.fn 143 [] []] s=.ok (.int .i64 (Zsj Zde x.ns 0)) s from Zkw (Zuz Zde 143) hx s]
theorem Yha {e:Env}(h:Con e 138 Yiw) {x:BL}(hx:x.ok) {s:St}{K:AV→St→Prop}(hk:K (.int .i64 (Zsj Ya2 x.ns 0)) s):ESc e 138 [x.v,.fn 146 [] []] s K:=by
 refine ESc.ov h (v:=.int .i64 (Zsj Ya2 x.ns 0)) (s':=s) ?_ hk
 unfold Yiw orO
 rw [Yh2 (Zuz Zde 143) (fun y hy e=>by
  have e:=(List.cons.inj (List.cons.inj e).2).1
  injection e with e;cases e) s]
 exact Zkw (Zuz Ya2 146) hx s
theorem Zwz {e:Env}(p:Nat→Bool) (g:Nat) (v:AV) (ns:List Nat) (s:St) (hcall:∀ (K:AV→St→Prop),K (.int .i64 (Zsj p ns 0)) s→ESc e 138 [v,.fn g [] []] s K) (Q:AV→St→Prop) (k:Q (.bool (ns.any p)) s):
 VE e Zw7 (Zax [v,.fn g [] []] 0 .lf) s none [] (Zfa [.tmp 4] Q):=by
 conv=>whnf
 refine hcall _ ?_;conv=>whnf
 have ha:=Zwr p ns 0
 refine Zbj rfl rfl (fun h=>?_) (fun h=>?_) <;> conv=>whnf
 ·rw [ha.1 h] at k;exact k
 ·have:ns.any p=false:=by
   cases hq:ns.any p
   ·rfl
   ·have:=ha.2 hq;omega
  rw [this] at k;exact k
theorem Zx6 {P:Program}{e:Env}{fn:Func}(hE:EnvOk P e) (hm:P.follows .mixedOrders=true) (hf:P.funcs[143]?=some fn) (hc:Zaj P fn=some a143) (hb:Zaf P 143):OvOk P 143 oddF.O:=by
 refine Zal hb ?_
 rintro ⟨v,n⟩ hx
 obtain ⟨⟨l,hv⟩,hn⟩:=hx
 dsimp only at hv hn
 refine ⟨by show (AM.hf v && true)=true;rw [hv.hf];rfl,rfl,C.of_V hE hm hf hc ?_⟩
 have fin:∀ s (b:Bool),b=Zde n→Frz s (.bool b) (oddF.out ⟨v,n⟩):=by
  rintro s b rfl;exact .plain _ rfl
 unfold Zde at fin
 show VW P e 0 (match a143 with|.mk c _=>c) (Zax [v] 0 .lf) St0 none [] _
 conv=>whnf
 repeat' (first|(refine Zaa rfl hv ?_;conv=>whnf)|((refine w6 rfl rfl ?_ ?_) <;> intro _ <;> first|(exfalso;omega)|(conv=>whnf))|fail)
 all_goals first
  | exact fin _ _ (by rw [decide_eq_true (by omega),decide_eq_true (by omega)];rfl)
  | exact fin _ _ (by rw [decide_eq_true (by omega),decide_eq_false (by omega)];rfl)
  | exact fin _ _ (by rw [decide_eq_false (by omega)];rfl)
def code146:AC:=match a146 with|.mk c _=>c
theorem dskI_ok {P:Program}{e:Env}{fn:Func}(hE:EnvOk P e) (hm:P.follows .mixedOrders=true) (h143:Con e 143 oddF.O) (h146:Inl e 146 code146 [.tmp 2]) (hf:P.funcs[138]?=some fn) (hc:Zaj P fn=some Yi8) (hb:Zaf P 138):OvOk P 138 Yiw:=by
 refine orO_ok (Zww hE hm Zde 143 (fun x hx s K hk=>?_) hf hc hb) (Zww hE hm Ya2 146 (fun x hx s K hk=>?_) hf hc hb)
 ·exact ECall.fam oddF h143 x hx rfl hk
 ·obtain ⟨⟨l,hv⟩,hn⟩:=hx
  refine ECall.inl h146.O h146.G ?_
  unfold Ya2 at hk
  conv=>whnf
  repeat' (first|(refine Zaa rfl hv ?_;conv=>whnf)|((refine w3 rfl rfl ?_ ?_) <;> intro _ <;> first|(exfalso;omega)|(conv=>whnf))|fail)
  ·rw [decide_eq_true (by omega)] at hk;exact hk
  ·rw [decide_eq_false (by omega)] at hk;exact hk
def Zi2 (many:Int) (w:WR):Bool:=decide (w.at_<0) || decide (many≤w.at_) || Zde w.b.length
def Zoz (p:WR→Bool):List WR→Nat→Int
 | [],_=>-1
 | n::l,i=>if p n then (i:Int) else Zoz p l (i+1)
theorem Zwq (p:WR→Bool):∀ (l:List WR) (i:Nat),(0≤Zoz p l i↔l.any p=true)
 | [],i=>by simp [Zoz]
 | n::l,i=>by
  unfold Zoz
  rw [List.any_cons]
  cases h:p n
  ·simp only [Bool.false_or,Bool.false_eq_true,if_false];exact Zwq p l (i+1)
  ·simp
structure WI where
 v:AV
 ws:List WR
 r:Nat
 many:Int
structure WI.ok (x:WI) (s:St):Prop where
 sl:Sl 2 x.ws.length (wrs x.ws) x.v
 w:∀ w ∈ x.ws,w.any∧w.b.length<1000000
 g:s.get x.r=some (.row 3 [.int .i64 x.many])
 m:Zc4 x.many
 n:x.ws.length<1000000
def WI.args (x:WI):List AV:=[x.v,.fn 145 [] [.ptr x.r 0]]
def WI.out (x:WI):AV:=.int .i64 (Zoz (Zi2 x.many) x.ws 0)
noncomputable def Ztn:Ov:=fun args s=>open Classical in if h:∃ x:WI,x.ok s∧args=x.args then .ok (Classical.choose h).out s else .fail
theorem Zzq {x:WI}{s:St}(hx:x.ok s):Ztn x.args s=.ok x.out s:=by
 have h:∃ y:WI,y.ok s∧x.args=y.args:=⟨x,hx,rfl⟩
 unfold Ztn
 rw [dif_pos h]
 obtain ⟨h1,h2⟩:=Classical.choose_spec h
 generalize Classical.choose h=y at h1 h2 ⊢
 obtain ⟨v,ws,r,m⟩:=x
 obtain ⟨v',ws',r',m'⟩:=y
 simp [WI.args] at h2
 obtain ⟨rfl,rfl⟩:=h2
 have e1:=Ztm (fun o ho=>(hx.w o ho).1) (fun o ho=>(h1.w o ho).1) (hx.sl.l_inj h1.sl)
 have e2:=hx.g.symm.trans h1.g
 dsimp only at e1 e2
 injection e2 with e2
 injection e2 with _ e2
 injection e2 with e2
 injection e2 with _ e2
 subst e1 e2;rfl
def code163:AC:=match a163 with|.mk c _=>c
def code145:AC:=match a145 with|.mk c _=>c
def code144:AC:=match a144 with|.mk c _=>c
theorem Yes {P:Program}{e:Env}{fn:Func}(hE:EnvOk P e) (hm:P.follows .mixedOrders=true) (h143:Con e 143 oddF.O) (h145:Inl e 145 code145 [.tmp 3]) (hf:P.funcs[163]?=some fn) (hc:Zaj P fn=some a163) (hb:Zaf P 163):OvOk P 163 Ztn:=by
 refine ⟨hb,fun args s u s' hh=>?_⟩
 unfold Ztn at hh
 split at hh
 ·rename_i hx
  cases hh
  obtain ⟨h1,h2⟩:=Classical.choose_spec hx
  generalize Classical.choose hx=y at h1 h2 ⊢
  subst h2
  obtain ⟨v,ws,r,m⟩:=y
  obtain ⟨hs,hw,hg,hmb,hn⟩:=h1
  dsimp only at hs hw hg hmb hn
  have hvf:=hs.hf
  refine Ztg (args2:=[v,.fn 145 [] [.fp [.int .i64 m]]]) (.cons (.plain _ hvf) (.cons (.fn 145 [] [.ptr r 0] [] [.fp [.int .i64 m]] .nil (.cons (.ptr r 0 3 [.int .i64 m] [.int .i64 m] [.int .i64 m] hg (fun i x h=>by rw [Nat.zero_add];exact h) (.cons (.plain _ rfl) .nil)) .nil)) .nil)) rfl (Zky ?_ ?_)
  ·show (AM.hf v && _)=true;rw [hvf];rfl
  refine C.of_V hE hm hf hc ?_
  show VW P e 0 code163 (Zax [v,.fn 145 [] [.fp [.int .i64 m]]] 0 .lf) St0 none [] (Zfa [.tmp 4] (fun w s'=>Frz s' w (.int .i64 (Zoz (Zi2 m) ws 0))))
  conv=>whnf
  refine Zaa rfl hs ?_;conv=>whnf
  refine Zbo (α:=Nat) (fun i=>[(0,v),(1,.fn 145 [] [.fp [.int .i64 m]]),(7,.int .i64 (ws.length:Int)),(8,.int .i64 (i:Int))]) (fun _=>[]) (fun i=>ws.length-i) (fun i=>i≤ws.length∧Zoz (Zi2 m) ws 0=Zoz (Zi2 m) (ws.drop i) i) 0 ⟨Nat.zero_le _,rfl⟩
   (Abs.tells (rs:=[]) ⟨by decide,⟨⟨Zbe _ hvf,by rw [Zao _ hvf];rfl⟩,⟨rfl,rfl⟩,⟨rfl,rfl⟩,⟨rfl,rfl⟩,trivial⟩,trivial⟩) ?_
  rintro i ⟨hi,hI⟩
  refine Zap hE hm ?_
  by_cases hlt:i<ws.length
  ·have hd:=Zb0 hlt
   obtain ⟨⟨hwa,hwb⟩,hwl⟩:=hw _ (List.getElem_mem hlt)
   rw [List.drop_eq_getElem_cons hlt] at hI
   have hall:=And.intro hI (And.intro hd (And.intro hwa (And.intro hwb hwl)))
   clear hI hd hwa hwb hwl
   revert hall
   generalize ws[i]=w
   obtain ⟨wa,wu,wb⟩:=w
   rintro ⟨hI,hd,hwa,hwb,hwl⟩
   have hd:(wrs ws).drop (i*2)=[.int .i64 wa,wu]++wrs (ws.drop (i+1)):=hd
   have hI:Zoz (Zi2 m) ws 0=if Zi2 m ⟨wa,wu,wb⟩ then (i:Int) else Zoz (Zi2 m) (ws.drop (i+1)) (i+1):=hI
   unfold Zi2 at hI
   dsimp only at hI hwl hwb
   have yes:∀ b:Bool,b=true→(decide (wa<0) || decide (m≤wa) || Zde wb.length)=b→Zoz (Zi2 m) ws 0=(i:Int):=fun b hb he=>by
    rw [he,hb,if_pos rfl] at hI;exact hI
   have no:(decide (wa<0) || decide (m≤wa) || Zde wb.length)=false→Zoz (Zi2 m) ws 0=Zoz (Zi2 m) (ws.drop (i+1)) (i+1):=fun he=>by
    rw [he,if_neg (by simp)] at hI;exact hI
   clear hI
   have hcell:∀ (K:List AV→Prop),K [.int .i64 wa,wu]→ETake 2 ([.int .i64 wa,wu]++wrs (ws.drop (i+1))) K:=fun K hk=>Zgc rfl hk
   have hend:∀ t s,Zoz (Zi2 m) ws 0=Zoz (Zi2 m) (ws.drop (i+1)) (i+1)→t.get 0=some v→t.get 1=some (.fn 145 [] [.fp [.int .i64 m]])→t.get 7=some (.int .i64 (ws.length:Int))→t.get 8=some (.int .i64 ((i:Int)+1))→
    ∃ x',(x'≤ws.length∧Zoz (Zi2 m) ws 0=Zoz (Zi2 m) (ws.drop x') x')∧ws.length-x'<ws.length-i∧Tells P 0 t s [] (ofL [(0,v),(1,.fn 145 [] [.fp [.int .i64 m]]),(7,.int .i64 (ws.length:Int)),(8,.int .i64 (x':Int))]) (Zai St0 []) []:=fun t s h0 g0 g1 g7 g8=>
    ⟨i+1,⟨hlt,h0⟩,by omega,Abs.tells (rs:=[]) ⟨by decide,⟨⟨Zbe _ hvf,by rw [Zao _ hvf];exact g0⟩,⟨rfl,g1⟩,⟨rfl,g7⟩,⟨rfl,g8⟩,trivial⟩,trivial⟩⟩
   conv=>whnf
   refine Zab rfl rfl (fun _=>?_) (fun h=>by omega);conv=>whnf
   refine Zae rfl hs rfl hlt ?_
   rw [hd]
   conv=>whnf
   refine hcell _ ?_;conv=>whnf
   refine ECall.inl h145.O h145.G ?_;conv=>whnf
   refine Zab (a:=wa) (b:=0) rfl rfl (fun h1=>?_) (fun h1=>?_)
   ·conv=>whnf
    skip
    rw [yes true rfl (by rw [decide_eq_true h1];rfl)];exact .plain _ rfl
   conv=>whnf
   refine EHead.mk rfl ?_;conv=>whnf
   refine Zbj (a:=wa) (b:=m) rfl rfl (fun h2=>?_) (fun h2=>?_)
   ·conv=>whnf
    skip
    rw [yes true rfl (by rw [decide_eq_true h2];simp)];exact .plain _ rfl
   conv=>whnf
   refine ESc.fam oddF h143 ⟨wu,wb.length⟩ ⟨⟨_,hwb.1⟩,by dsimp only;omega⟩ (u:=.bool (Zde wb.length)) rfl ?_
   have e1:(decide (wa<0) || decide (m≤wa) || Zde wb.length)=Zde wb.length:=by rw [decide_eq_false (by omega),decide_eq_false (by omega)];rfl
   cases ho:Zde wb.length
   ·conv=>whnf
    repeat' (first|((first|refine w7 rfl rfl (by omega) ?_|refine ⟨rfl,?_⟩);conv=>whnf)|fail)
    exact hend _ _ (no (by rw [e1];exact ho)) rfl rfl rfl rfl
   ·conv=>whnf
    skip
    rw [yes true rfl (by rw [e1];exact ho)];exact .plain _ rfl
  ·have hd:ws.drop i=[]:=List.drop_eq_nil_of_le (by omega)
   rw [hd] at hI
   have hI:Zoz (Zi2 m) ws 0=-1:=hI
   conv=>whnf
   refine Zab rfl rfl (fun h=>by omega) (fun _=>?_);conv=>whnf
   rw [hI];exact .plain _ rfl
 ·cases hh
def Zhp (x:DK):Bool:=decide (1≤x.us.length∧x.us.length≤256∧x.ws.length≤1024) && !((x.bs.map List.length).any Zde) && !(x.ws.any (Zi2 x.us.length)) && !(x.dead && (decide (0<x.ws.length) || (x.bs.map List.length).any Ya2))
def dskF:Fam DK:=⟨DK.ok,fun x=>[x.v],fun x=>.int .i64 (if Zhp x=true then 0 else 8),fun x y hx hy h=>by rw [DK.inj hx.a hy.a (List.cons.inj h).1]⟩
theorem Yd1 {us:List AV}{bs:List (List Nat)}(h:All2 BAt us bs) (hs:∀ b ∈ bs,b.length<1000000):All2 (fun u n=>BN.ok ⟨u,n⟩) us (bs.map List.length):=by
 induction h with
 | nil=>exact .nil
 | @cons u b us bs a _ ih=>exact .cons ⟨⟨_,a.1⟩,by have:=hs b (by simp);dsimp only;omega⟩ (ih fun c hc=>hs c (by simp [hc]))
def code101:AC:=match a101 with|.mk c _=>c
theorem dskF_ok {P:Program}{e:Env}{fn:Func}(hE:EnvOk P e) (hm:P.follows .mixedOrders=true) (h93:Inl e 93 Zw7 [.tmp 4]) (h138:Con e 138 Yiw) (h144:Inl e 144 code144 [.tmp 4]) (h163:Con e 163 Ztn) (hf:P.funcs[101]?=some fn) (hc:Zaj P fn=some a101) (hb:Zaf P 101):OvOk P 101 dskF.O:=by
 refine Zal hb fun x hx=>?_
 refine ⟨by show (AM.hf x.v && true)=true;rw [DK.hf hx.a];rfl,rfl,C.of_V hE hm hf hc ?_⟩
 have fin:∀ s (n:Int),n=(if Zhp x=true then 0 else 8)→Frz s (.int .i64 n) (dskF.out x):=by rintro s n rfl;exact .plain _ rfl
 obtain ⟨⟨hbl,hbs,hwl,hws⟩,hn,hm',hb',hw'⟩:=hx
 obtain ⟨bv,us,bs,wv,ws,dd⟩:=x
 dsimp only at hbl hbs hwl hws hn hm' hb' hw'
 have hBL:BL.ok ⟨bv,us,bs.map List.length⟩:=⟨hbl,Yd1 hbs hb',by dsimp only;omega⟩
 have hodd:=fun (K:AV→St→Prop) (s:St)=>Zwz (e:=e) Zde 143 bv (bs.map List.length) s (fun K hk=>Yhb h138 hBL hk) K
 have hpos:=fun (K:AV→St→Prop) (s:St)=>Zwz (e:=e) Ya2 146 bv (bs.map List.length) s (fun K hk=>Yha h138 hBL hk) K
 have hwa:=Zwq (Zi2 us.length) ws 0
 unfold Zhp at fin
 dsimp only at fin
 show VW P e 0 code101 (Zax [.agg [bv,wv,.bool dd]] 0 .lf) St0 none [] _
 conv=>whnf
 refine Zaa rfl hbl ?_;conv=>whnf
 by_cases hT:1≤us.length∧us.length≤256∧ws.length≤1024
 ·rw [decide_eq_true hT] at fin
  repeat' (first|(refine Zaa rfl hwl ?_;conv=>whnf)|((first|refine w1 rfl rfl ?_ ?_|refine w3 rfl rfl ?_ ?_) <;> intro _ <;> first|(exfalso;omega)|(conv=>whnf))|fail)
  refine ESc.inl h93 (hodd _ _ ?_)
  cases ho:(bs.map List.length).any Zde
  ·rw [ho] at fin
   conv=>whnf
   skip
   refine ESc.inl h144 ?_;conv=>whnf
   refine ESc.ov h163 (Zzq (x:=⟨wv,ws,1,us.length⟩) ⟨hwl,fun w hw=>⟨hws w hw,hw' w hw⟩,rfl,by unfold Zc4;dsimp only;omega,by dsimp only;omega⟩) ?_;conv=>whnf
   cases hw:ws.any (Zi2 us.length)
   ·have hwn:¬ (0≤Zoz (Zi2 us.length) ws 0):=fun h=>by rw [hwa.1 h] at hw;cases hw
    rw [hw] at fin
    refine Zbj (a:=Zoz (Zi2 us.length) ws 0) (b:=0) rfl rfl (fun h=>absurd h hwn) (fun _=>?_)
    cases dd
    ·conv=>whnf
     skip
     exact fin _ 0 (by simp)
    ·conv=>whnf
     repeat' (first|(refine Zaa rfl hwl ?_;conv=>whnf)|((refine w3 rfl rfl ?_ ?_) <;> intro _ <;> first|(exfalso;omega)|(conv=>whnf))|fail)
     ·exact fin _ 8 (by rw [decide_eq_true (by omega)];simp)
     ·refine ESc.inl h93 (hpos _ _ ?_)
      rw [decide_eq_false (by omega)] at fin
      cases hp:(bs.map List.length).any Ya2
      ·rw [hp] at fin
       conv=>whnf
       skip
       exact fin _ 0 (by simp)
      ·rw [hp] at fin
       conv=>whnf
       skip
       exact fin _ 8 (by simp)
   ·rw [hw] at fin
    refine Zbj (a:=Zoz (Zi2 us.length) ws 0) (b:=0) rfl rfl (fun _=>?_) (fun h=>absurd (hwa.2 hw) (by omega));conv=>whnf
    skip
    exact fin _ 8 (by simp)
  ·rw [ho] at fin
   conv=>whnf
   skip
   exact fin _ 8 (by simp)
 ·rw [decide_eq_false hT] at fin
  repeat' (first|(refine Zaa rfl hwl ?_;conv=>whnf)|((first|refine w1 rfl rfl ?_ ?_|refine w3 rfl rfl ?_ ?_) <;> intro _ <;> first|(exfalso;omega)|(conv=>whnf))|fail)
  all_goals first|exact fin _ 8 (by simp)|(exfalso;omega)
end Go.AM
set_option maxRecDepth 100000
namespace Go.AM
open Go.RowKit
def tWr:List Ty:=[.int .i64,tByt]
def tDisk:List Ty:=[.sl tByt,.sl (.st tWr),.bool]
theorem wr_of {l:List AV}(h:Shapes tWr l):∃ w:WR,w.any∧l=w.c:=by
 obtain ⟨at_,b1,rfl,w1,g1⟩:=Zbs h
 obtain ⟨a2,b2,rfl,s2,g2⟩:=Zcr g1
 rw [Zfn g2]
 obtain ⟨u,b,rfl,q⟩:=Zq1 s2
 exact ⟨⟨at_,u,b⟩,⟨Zhk w1,q⟩,rfl⟩
theorem wrs_of {l:List AV}(h:Shape (.sl (.st tWr)) l):∃ (v:AV) (L:List WR),l=[v]∧Sl 2 L.length (wrs L) v∧∀ w ∈ L,w.any:=by
 cases h with
 | nil _=>exact ⟨.nils,[],rfl,.inl ⟨rfl,rfl,rfl⟩,by simp⟩
 | es _=>exact ⟨.es,[],rfl,.inr (.inl ⟨rfl,rfl,rfl⟩),by simp⟩
 | fz _ n m c ls h1 h2 h3 h4 h5 _=>
  have:∀ ls:List (List AV),(∀ l ∈ ls,Shape (.st tWr) l)→∃ L:List WR,ls.flatten=wrs L∧L.length=ls.length∧∀ o ∈ L,o.any:=by
   intro ls
   induction ls with
   | nil=>intro _;exact ⟨[],rfl,rfl,by simp⟩
   | cons l ls ih=>
    intro h
    obtain ⟨L,a,b,c⟩:=ih (fun m hm=>h m (by simp [hm]))
    obtain ⟨o,ho,rfl⟩:=wr_of (by have:=h l (by simp);cases this with|st _ _ hs=>exact hs)
    exact ⟨o::L,by rw [List.flatten_cons,a];rfl,by simp [b],fun q hq=>by
     rcases List.mem_cons.1 hq with rfl|hq
     ·exact ho
     ·exact c q hq⟩
  obtain ⟨L,a,b,d⟩:=this ls h4
  exact ⟨_,L,rfl,.inr (.inr ⟨c,by rw [a,b,h1],Zd2 L⟩),d⟩
theorem disk_of {l:List AV}(h:Shapes tDisk l):∃ d:DK,d.any∧l=d.c:=by
 obtain ⟨a1,b1,rfl,s1,g1⟩:=Zcr h
 obtain ⟨a2,b2,rfl,s2,g2⟩:=Zcr g1
 obtain ⟨x,b3,rfl,g3⟩:=Zg0 g2
 rw [Zfn g3]
 obtain ⟨bv,us,bs,rfl,q1,q2⟩:=Zs3 s1
 obtain ⟨wv,L,rfl,q3,q4⟩:=wrs_of s2
 exact ⟨⟨bv,us,bs,wv,L,x⟩,⟨q1,q2,q3,q4⟩,rfl⟩
end Go.AM
