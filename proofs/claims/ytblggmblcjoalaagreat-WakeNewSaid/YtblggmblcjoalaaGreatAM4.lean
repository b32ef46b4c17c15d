/- Contracts of functions over the abstract machine. No conditions. -/
import Derived.Test.YtblggmblcjoalaaGreatAM3
set_option linter.unusedVariables false
set_option linter.unusedSimpArgs false
set_option maxRecDepth 100000
namespace Go.AM
def noEff (cs:List AOper) (x:It):Prop:=∀ i,x=.op i->effAt cs i=false
structure Inv (P:Program) (N:Nat) (ops:Array Oper) (cs:List AOper) (its:List It) (tq:Nat->AT) (sq:Nat->St) (V:Nat->AV) (γ0:Gam) (s0:St) (w0:World) (ds:List Nat) (p:Nat) (D:Nat->Prop) (γ:Gam) (a:Act) (w:World):Prop where
 closed:Closed ops D
 eff:∀ (q i:Nat),its[q]?=some (.op i)->effAt cs i=true->(D i↔q<p)
 below:∀ (q i:Nat),its[q]?=some (.op i)->D i->q<p
 slots:Slots ops V (tq 0) D γ a.tmps
 sim:Sim P γ (sq p) w
 stp:Stp γ0 s0 w0 γ (sq p) w
 size:N≤a.tmps.size
 defs:DR γ ds a.defers
 plen:p≤its.length
 ghost:∀ (q i d:Nat) (pp:AOp) (g:Option (Nat×Bool)),q<p->its[q]?=some (.op i)->¬ D i->cs[i]?=some (AOper.mk d pp g)->isMake pp=true->wantedA g (tq q)=2->
  γ (sq q).next=none∧(sq q).next<(sq p).next∧s0.next≤(sq q).next∧(sq p).get (sq q).next=(sq (q+1)).get (sq q).next
 gdist:∀ (q q' i i' d d':Nat) (pp pp':AOp) (g g':Option (Nat×Bool)),q<q'->q'<p->its[q]?=some (.op i)->its[q']?=some (.op i')->¬ D i->¬ D i'->cs[i]?=some (AOper.mk d pp g)->cs[i']?=some (AOper.mk d' pp' g')->isMake pp=true->isMake pp'=true->
  wantedA g (tq q)=2->wantedA g' (tq q')=2->(sq q).next<(sq q').next
 grow:∀ q,q≤p->(∀ (k:Nat) (x:It),q≤k->k<p->its[k]?=some x->noEff cs x)->Grows (sq q) (sq p)
section
variable {P:Program}{e:Env}{rec:Rec}{n N:Nat}{ops:Array Oper}{cs:List AOper}{its:List It}{al:List AOper}{tq:Nat->AT}{sq:Nat->St}{V:Nat->AV}{γ γ0:Gam}{s0:St}{w w0:World}{ds:List Nat}{D:Nat->Prop}{a:Act}{p:Nat}
theorem Grows.refl (s:St):Grows s s:=fun _ _ h=>h
theorem Grows.trans {s1 s2 s3:St}(h:Grows s1 s2) (k:Grows s2 s3):Grows s1 s3:=fun r x hx=>k r x (h r x hx)
theorem Inv.advance (hp:Plan P N ops cs its al) (hr:Ran P e rec N ops cs its tq sq V) (h:Inv P N ops cs its tq sq V γ0 s0 w0 ds p D γ a w) {x:It}(hx:its[p]?=some x) (hn:noEff cs x):Inv P N ops cs its tq sq V γ0 s0 w0 ds (p+1) D γ a w:=by
 have hlen:p<its.length:=(List.getElem?_eq_some_iff.1 hx).1
 have key:(sq (p+1)=sq p∧∀ (i d:Nat) (pp:AOp) (g:Option (Nat×Bool)),its[p]?=some (.op i)->cs[i]?=some (AOper.mk d pp g)->isMake pp=true->wantedA g (tq p)=2->False)∨∃ obj,sq (p+1)=(sq p).alloc obj:=by
  cases x with
  | chk i=>exact .inl ⟨(hr.chk p i hx).2.1,fun i' d pp g hi=>by rw [hx] at hi;cases hi⟩
  | op i=>
   have hil:=hp.lt p i hx
   obtain ⟨o,ho⟩:∃ o,ops[i]?=some o:=⟨ops[i],by simp [hil]⟩
   obtain ⟨d,pp,g,c1,c2,c3,c4,c5,c6⟩:=hr.op p i o hx ho
   have hne:isEff pp=false:=by have:=hn i rfl;simpa [effAt,c1,opOf] using this
   rcases c6 with ⟨hw,_,hs⟩|⟨hw,hop⟩
   ·refine .inl ⟨hs,fun i' d' pp' g' hi' hc' _ hw'=>?_⟩
    rw [hx] at hi';cases hi';rw [c1] at hc';cases hc';rw [hw] at hw';cases hw'
   ·cases hm:isMake pp with
    | true=>exact .inr (make_alloc hm hop)
    | false=>
     refine .inl ⟨?_,fun i' d' pp' g' hi' hc' hm' _=>?_⟩
     ·cases hl:isLoad pp with
      | true=>exact (load_Pu hl _ _ _ hop).1
      | false=>exact (pure_Pu (A:=fun _ _=>True) (by simp [isPure,hne,hl,hm]) _ _ _ hop).1
     ·rw [hx] at hi';cases hi';rw [c1] at hc';cases hc';rw [hm] at hm';cases hm'
 have heff:∀ (q i:Nat),its[q]?=some (.op i)->effAt cs i=true->(D i↔q<p+1):=by
  intro q i hq he
  rw [h.eff q i hq he]
  refine ⟨fun hl=>by omega,fun hl=>?_⟩
  rcases Nat.lt_succ_iff_lt_or_eq.1 hl with h1|h1
  ·exact h1
  ·subst h1;rw [hx] at hq;cases hq;rw [hn i rfl] at he;cases he
 rcases key with ⟨hs,hno⟩|⟨obj,hs⟩
 ·refine ⟨h.closed,heff,fun q i hq hd=>by have:=h.below q i hq hd;omega,h.slots,hs ▸ h.sim,hs ▸ h.stp,h.size,h.defs,by omega,?_,?_,?_⟩
  ·intro q i d pp g hq hi hd hc hm hw
   rcases Nat.lt_succ_iff_lt_or_eq.1 hq with h1|h1
   ·rw [hs];exact h.ghost q i d pp g h1 hi hd hc hm hw
   ·subst h1;exact (hno i d pp g hi hc hm hw).elim
  ·intro q q' i i' d d' pp pp' g g' hqq hq' hi hi' hd hd' hc hc' hm hm' hw hw'
   rcases Nat.lt_succ_iff_lt_or_eq.1 hq' with h1|h1
   ·exact h.gdist q q' i i' d d' pp pp' g g' hqq h1 hi hi' hd hd' hc hc' hm hm' hw hw'
   ·subst h1;exact (hno i' d' pp' g' hi' hc' hm' hw').elim
  ·intro q hq hk
   by_cases hqp:q=p+1
   ·subst hqp;exact Grows.refl _
   ·rw [hs];exact h.grow q (by omega) fun k x hqk hkp hkx=>hk k x hqk (by omega) hkx
 ·have hnext:(sq (p+1)).next=(sq p).next+1:=by rw [hs,St.next_alloc]
  have hgr:Grows (sq p) (sq (p+1)):=by
   intro r y hy
   rw [hs,St.get_alloc_ne (by have:=h.sim.dom r y hy;omega)];exact hy
  refine ⟨h.closed,heff,fun q i hq hd=>by have:=h.below q i hq hd;omega,h.slots,hs ▸ h.sim.ghost obj,hs ▸ h.stp.ghost obj,h.size,h.defs,by omega,?_,?_,?_⟩
  ·intro q i d pp g hq hi hd hc hm hw
   rcases Nat.lt_succ_iff_lt_or_eq.1 hq with h1|h1
   ·obtain ⟨g1,g2,g3,g4⟩:=h.ghost q i d pp g h1 hi hd hc hm hw
    refine ⟨g1,by omega,g3,?_⟩
    rw [← g4,hs,St.get_alloc_ne (by omega)]
   ·subst h1
    exact ⟨h.sim.nx _ (Nat.le_refl _),by omega,h.stp.next,rfl⟩
  ·intro q q' i i' d d' pp pp' g g' hqq hq' hi hi' hd hd' hc hc' hm hm' hw hw'
   rcases Nat.lt_succ_iff_lt_or_eq.1 hq' with h1|h1
   ·exact h.gdist q q' i i' d d' pp pp' g g' hqq h1 hi hi' hd hd' hc hc' hm hm' hw hw'
   ·subst h1;exact (h.ghost q i d pp g hqq hi hd hc hm hw).2.1
  ·intro q hq hk
   by_cases hqp:q=p+1
   ·subst hqp;exact Grows.refl _
   ·exact (h.grow q (by omega) fun k x hqk hkp hkx=>hk k x hqk (by omega) hkx).trans hgr
def Ptr (cs:List AOper) (its:List It) (p:Nat):Prop:=p=its.length∨∃ i,its[p]?=some (.op i)∧effAt cs i=true
theorem Inv.forth (hp:Plan P N ops cs its al) (hr:Ran P e rec N ops cs its tq sq V):∀ (k p:Nat),its.length-p=k->Inv P N ops cs its tq sq V γ0 s0 w0 ds p D γ a w->∃ p',Inv P N ops cs its tq sq V γ0 s0 w0 ds p' D γ a w∧Ptr cs its p':=by
 intro k
 induction k with
 | zero=>intro p hk h;exact ⟨p,h,.inl (by have:=h.plen;omega)⟩
 | succ k ih=>
  intro p hk h
  have hlen:p<its.length:=by omega
  obtain ⟨x,hx⟩:∃ x,its[p]?=some x:=⟨its[p],by simp [hlen]⟩
  cases x with
  | chk i=>exact ih (p+1) (by omega) (h.advance hp hr hx (fun i hi=>by cases hi))
  | op i=>
   cases he:effAt cs i with
   | true=>exact ⟨p,h,.inr ⟨i,hx,he⟩⟩
   | false=>exact ih (p+1) (by omega) (h.advance hp hr hx (fun j hj=>by cases hj;exact he))
variable {i:Nat}{o:Oper}
theorem closed_add (h:Closed ops D) (ho:ops[i]?=some o) (hpre:∀ e ∈ o.after.toList,Region.binds .any e=true->D e.on):Closed ops (fun j=>D j∨j=i):=by
 intro j oj hj hd e he hb
 rcases hd with hd|rfl
 ·exact .inl (h j oj hj hd e he hb)
 ·rw [ho] at hj;cases hj;exact .inl (hpre e he hb)
variable {d:Nat}{γ':Gam}{w':World}{v':Value}
theorem Inv.effect (hp:Plan P N ops cs its al) (h:Inv P N ops cs its tq sq V γ0 s0 w0 ds p D γ a w) {pp:AOp}{g:Option (Nat×Bool)}(hx:its[p]?=some (.op i)) (he:effAt cs i=true) (ho:ops[i]?=some o) (hc:cs[i]?=some (AOper.mk d pp g)) (hcd:compDst N o.dst=some d)
 (hpre:∀ e ∈ o.after.toList,Region.binds .any e=true->D e.on) (hst:Stp γ (sq p) w γ' (sq (p+1)) w') (hs:Sim P γ' (sq (p+1)) w') (hv:VR γ' (V i) v'∨o.dst=none):
 Inv P N ops cs its tq sq V γ0 s0 w0 ds (p+1) (fun j=>D j∨j=i) γ' (a.put o.dst v') w':=by
 have hni:¬ D i:=fun hd=>by have:=(h.eff p i hx he).1 hd;omega
 have hlen:p<its.length:=(List.getElem?_eq_some_iff.1 hx).1
 have hmk:isMake pp=false:=by
  have:isEff pp=true:=by simpa [effAt,hc,opOf] using he
  cases pp <;> first|rfl|cases this
 refine ⟨closed_add h.closed ho hpre,?_,?_,(h.slots.mono hst.le).put hp ho h.size hcd hv hni,hs,h.stp.trans hst,by rw [put_size];exact h.size,by rw [put_defers];exact h.defs.mono hst.le,by omega,?_,?_,?_⟩
 ·intro q j hq hej
  constructor
  ·rintro (hd|rfl)
   ·have:=(h.eff q j hq hej).1 hd;omega
   ·have:q=p:=by
     rcases Nat.lt_trichotomy q p with h1|h1|h1
     ·exact absurd rfl (hp.ne q p j j h1 hq hx)
     ·exact h1
     ·exact absurd rfl (hp.ne p q j j h1 hx hq)
    omega
  ·intro hl
   rcases Nat.lt_succ_iff_lt_or_eq.1 hl with h1|h1
   ·exact .inl ((h.eff q j hq hej).2 h1)
   ·subst h1;rw [hx] at hq;cases hq;exact .inr rfl
 ·rintro q j hq (hd|rfl)
  ·have:=h.below q j hq hd;omega
  ·have:q=p:=by
    rcases Nat.lt_trichotomy q p with h1|h1|h1
    ·exact absurd rfl (hp.ne q p j j h1 hq hx)
    ·exact h1
    ·exact absurd rfl (hp.ne p q j j h1 hx hq)
   omega
 ·intro q j d' pp' g' hq hi hd hc' hm hw
  rcases Nat.lt_succ_iff_lt_or_eq.1 hq with h1|h1
  ·obtain ⟨g1,g2,g3,g4⟩:=h.ghost q j d' pp' g' h1 hi (fun hh=>hd (.inl hh)) hc' hm hw
   refine ⟨?_,by have:=hst.next;omega,g3,?_⟩
   ·cases hgm:γ' (sq q).next with
    | none=>rfl
    | some L=>exact absurd (hst.new _ L hgm g1).1 (by omega)
   ·rw [hst.keep _ g1 g2];exact g4
  ·subst h1;rw [hx] at hi;cases hi;exact absurd (Or.inr rfl) hd
 ·intro q q' j j' d1 d2 p1 p2 g1 g2 hqq hq' hi hi' hd hd' hc1 hc2 hm1 hm2 hw1 hw2
  rcases Nat.lt_succ_iff_lt_or_eq.1 hq' with h1|h1
  ·exact h.gdist q q' j j' d1 d2 p1 p2 g1 g2 hqq h1 hi hi' (fun hh=>hd (.inl hh)) (fun hh=>hd' (.inl hh)) hc1 hc2 hm1 hm2 hw1 hw2
  ·subst h1;rw [hx] at hi';cases hi';exact absurd (Or.inr rfl) hd'
 ·intro q hq hk
  by_cases hqp:q=p+1
  ·subst hqp;exact Grows.refl _
  ·have:=hk p _ (by omega) (by omega) hx i rfl
   rw [he] at this;cases this
theorem Inv.floater (hp:Plan P N ops cs its al) (h:Inv P N ops cs its tq sq V γ0 s0 w0 ds p D γ a w) {q:Nat}(hx:its[q]?=some (.op i)) (hqp:q<p) (he:effAt cs i=false) (ho:ops[i]?=some o) (hcd:compDst N o.dst=some d) (hni:¬ D i)
 (hpre:∀ e ∈ o.after.toList,Region.binds .any e=true->D e.on) (hle:Le γ γ') (hst:Stp γ0 s0 w0 γ' (sq p) w') (hs:Sim P γ' (sq p) w') (hv:VR γ' (V i) v'∨o.dst=none)
 (hgh:∀ (q' i' d':Nat) (pp':AOp) (g':Option (Nat×Bool)),q'<p->its[q']?=some (.op i')->¬ D i'->i'≠i->cs[i']?=some (AOper.mk d' pp' g')->isMake pp'=true->wantedA g' (tq q')=2->γ' (sq q').next=none):
 Inv P N ops cs its tq sq V γ0 s0 w0 ds p (fun j=>D j∨j=i) γ' (a.put o.dst v') w':=by
 refine ⟨closed_add h.closed ho hpre,?_,?_,(h.slots.mono hle).put hp ho h.size hcd hv hni,hs,hst,by rw [put_size];exact h.size,by rw [put_defers];exact h.defs.mono hle,h.plen,?_,?_,h.grow⟩
 ·intro q' j hq hej
  rw [← h.eff q' j hq hej]
  exact ⟨fun hd=>hd.resolve_right (fun e=>by subst e;rw [he] at hej;cases hej),.inl⟩
 ·rintro q' j hq (hd|rfl)
  ·exact h.below q' j hq hd
  ·rcases Nat.lt_trichotomy q' q with h1|h1|h1
   ·exact absurd rfl (hp.ne q' q j j h1 hq hx)
   ·omega
   ·exact absurd rfl (hp.ne q q' j j h1 hx hq)
 ·intro q' j d' pp' g' hq hi hd hc' hm hw
  have hd1:¬ D j:=fun hh=>hd (.inl hh)
  obtain ⟨g1,g2,g3,g4⟩:=h.ghost q' j d' pp' g' hq hi hd1 hc' hm hw
  exact ⟨hgh q' j d' pp' g' hq hi hd1 (fun e=>hd (.inr e)) hc' hm hw,g2,g3,g4⟩
 ·intro q1 q2 j j' d1 d2 p1 p2 g1 g2 hqq hq' hi hi' hd hd' hc1 hc2 hm1 hm2 hw1 hw2
  exact h.gdist q1 q2 j j' d1 d2 p1 p2 g1 g2 hqq hq' hi hi' (fun hh=>hd (.inl hh)) (fun hh=>hd' (.inl hh)) hc1 hc2 hm1 hm2 hw1 hw2
end
end Go.AM
namespace Go.AM
section
variable {P:Program}{e:Env}{rec:Rec}{n N:Nat}{ops:Array Oper}{cs:List AOper}{its:List It}{al:List AOper}{tq:Nat->AT}{sq:Nat->St}{V:Nat->AV}{γ γ0:Gam}{s0:St}{w w0:World}{ds:List Nat}{D:Nat->Prop}{a:Act}{p:Nat}
variable {i:Nat}{o:Oper}
theorem load_now (hp:Plan P N ops cs its al) (hr:Ran P e rec N ops cs its tq sq V) (h:Inv P N ops cs its tq sq V γ0 s0 w0 ds p D γ a w) (hP:Ptr cs its p) {q d:Nat}{pp:AOp}{g:Option (Nat×Bool)}(hx:its[q]?=some (.op i)) (hqp:q<p) (ho:ops[i]?=some o) (hni:¬ D i)
 (hc:cs[i]?=some (AOper.mk d pp g)) (hl:isLoad pp=true) (hcd:compDst N o.dst=some d) (hcg:compGuard ops N o.guard=some g) (hw:wantedA g (tq q)=2) (hop:opA pp e rec (tq q) (sq q)=.ok (V i) (sq (q+1))) (hpre:∀ j,((befores ops.toList []).getD i 0).testBit j=true->D j):
 ∃ c,opA pp e rec (tq c) (sq p)=.ok (V i) (sq p)∧∀ x v,x ∈ slotsR ops o->(tq c).get x=some v->∃ v',a.tmps[x]?=some v'∧VR γ v v':=by
 have hla:loadAt cs i=true:=by simp [loadAt,hc,opOf,hl]
 have hck:=hp.loads q i hx hla
 -- is there an effect between?
 by_cases hex:∃ k j,q<k∧k<p∧its[k]?=some (.op j)∧effAt cs j=true
 ·-- the last of them
  have hlast:∃ k j,q<k∧k<p∧its[k]?=some (.op j)∧effAt cs j=true∧∀ (k':Nat) (x:It),k<k'->k'<p->its[k']?=some x->noEff cs x:=by
   have hstep:∀ (m:Nat),(∃ k j,q<k∧k<p∧its[k]?=some (.op j)∧effAt cs j=true∧p-k≤m)->∃ k j,q<k∧k<p∧its[k]?=some (.op j)∧effAt cs j=true∧∀ (k':Nat) (x:It),k<k'->k'<p->its[k']?=some x->noEff cs x:=by
    intro m
    induction m with
    | zero=>rintro ⟨k,j,h1,h2,_,_,h5⟩;omega
    | succ m ih=>
     rintro ⟨k,j,h1,h2,h3,h4,h5⟩
     by_cases hq2:∃ k' j',k<k'∧k'<p∧its[k']?=some (.op j')∧effAt cs j'=true
     ·obtain ⟨k',j',e1,e2,e3,e4⟩:=hq2
      exact ih ⟨k',j',by omega,e2,e3,e4,by omega⟩
     ·refine ⟨k,j,h1,h2,h3,h4,fun k' x hk hk' hx' i' hi'=>?_⟩
      subst hi'
      cases hef:effAt cs i' with
      | false=>rfl
      | true=>exact absurd ⟨k',i',hk,hk',hx',hef⟩ hq2
   obtain ⟨k,j,h1,h2,h3,h4⟩:=hex
   exact hstep p ⟨k,j,h1,h2,h3,h4,by omega⟩
  obtain ⟨k,j,h1,h2,h3,h4,h5⟩:=hlast
  have hDj:D j:=(h.eff k j h3 h4).2 h2
  have hjlt:=hp.lt k j h3
  have hnb:((befores ops.toList []).getD j 0).testBit i=false:=by
   cases hb:((befores ops.toList []).getD j 0).testBit i with
   | false=>rfl
   | true=>exact absurd (closed_of hp.back h.closed hjlt hDj hb) hni
  obtain ⟨c,c1,c2,c3⟩:=chksOf_get hck (k-(q+1)) j (by rw [List.getElem?_drop,show q+1+(k-(q+1))=k by omega];exact h3) h4 hnb
  rw [List.getElem?_drop] at c2
  have hcp:q+1+c<p:=by
   refine Nat.lt_of_not_le fun hge=>?_
   -- then item p lies between
   have hplt:p<its.length:=by have:=(List.getElem?_eq_some_iff.1 c2).1;omega
   rcases hP with hP|⟨j2,hj2,he2⟩
   ·omega
   ·by_cases hpe:p=q+1+c
    ·rw [← hpe,hj2] at c2;cases c2
    ·have:=c3 (p-(q+1)) j2 (by omega) (by omega) (by rw [List.getElem?_drop,show q+1+(p-(q+1))=p by omega];exact hj2)
     rw [he2] at this;cases this
  obtain ⟨e1,e2,d',pp',g',hc',hl',hk⟩:=hr.chk (q+1+c) i c2
  rw [hc] at hc';cases hc'
  have hsync:=sync_chk hp hr (V:=V) h.slots hx c2 (by omega) ho hpre
  have hsq:=sync_op hp hr h.closed h.slots hx ho hni hpre
  refine ⟨q+1+c,?_,hsync⟩
  have hgr:=h.grow (q+1+c) (by omega) fun k' x hk1 hk2 hx'=>h5 k' x (by omega) hk2 hx'
  rcases hk with hk|⟨hk,v,s1,hv,hget⟩
  ·-- the guard has not turned
   exfalso
   have w1:=(wanted_on hsync hcg).2 hk
   have w2:=(wanted_on hsq hcg).1 hw
   rw [w1] at w2;cases w2
  ·-- the slot holds V i
   have hVi:v=V i:=by
    have hdd:o.dst=some d':=by
     cases hdo:o.dst with
     | none=>rw [hdo] at hcd;cases hcd
     | some z=>rw [hdo] at hcd;simp only [compDst] at hcd;split at hcd <;> cases hcd;rfl
    have hcl:q+1+c<its.length:=(List.getElem?_eq_some_iff.1 c2).1
    rcases slot_of hp hr d' v (q+1+c) (by omega) hget with ⟨q',j',oj,a1,a2,a3,a4,a5⟩|⟨a1,a2⟩
    ·rw [a5]
     rcases Nat.lt_trichotomy q' q with b1|b1|b1
     ·exact absurd hdd (hp.dst q' q j' i oj o d' b1 a2 hx a3 ho a4)
     ·subst b1;rw [hx] at a2;cases a2;rfl
     ·exact absurd a4 (hp.dst q q' i j' o oj d' b1 hx a2 ho a3 hdd)
    ·exact absurd hdd (a2 q i o (by omega) hx ho)
   subst hVi
   exact (load_Pu hl _ _ _ hv).2 _ hgr
 ·-- none
  have hgr:Grows (sq (q+1)) (sq p):=h.grow (q+1) (by omega) fun k x hk1 hk2 hx' i' hi'=>by
   subst hi'
   cases hef:effAt cs i' with
   | false=>rfl
   | true=>exact absurd ⟨k,i',by omega,hk2,hx',hef⟩ hex
  obtain ⟨e1,e2⟩:=load_Pu hl _ _ _ hop
  rw [e1] at hgr
  exact ⟨q,e2 _ hgr,sync_op hp hr h.closed h.slots hx ho hni hpre⟩
variable {listed:Array Bool}
theorem mem_ready (h:i ∈ Region.ready .any ops listed):∃ o,ops[i]?=some o∧listed.getD i true=false∧∀ e ∈ o.after.toList,Region.binds .any e=true->listed.getD e.on false=true:=by
 simp only [Region.ready,List.mem_filter,List.mem_range,Bool.and_eq_true] at h
 obtain ⟨hi,h1,h2⟩:=h
 obtain ⟨o,ho⟩:∃ o,ops[i]?=some o:=⟨ops[i],by simp [hi]⟩
 refine ⟨o,ho,by simpa using h1,fun e he hb=>?_⟩
 rw [ho] at h2
 simp only [Option.map_some,Option.getD_some] at h2
 have:=Array.all_eq_true'.1 h2 e (by simpa using he)
 simpa [hb] using this
def Dn (listed:Array Bool):Nat->Prop:=fun i=>listed.getD i false=true
theorem Dn_set (hi:i<listed.size):Dn (listed.setIfInBounds i true)=fun j=>Dn listed j∨j=i:=by
 funext j
 unfold Dn
 rw [Array.getD_eq_getD_getElem?,Array.getD_eq_getD_getElem?,Array.getElem?_setIfInBounds]
 by_cases h:i=j
 ·subst h;simp [hi]
 ·rw [if_neg h];simp;exact fun e=>absurd e.symm h
theorem all_listed (hback:backOk ops.toList 0=true) (hsz:listed.size=ops.size) (h:Region.ready .any ops listed=[]):∀ i,i<ops.size->Dn listed i:=by
 intro i
 induction i using Nat.strongRecOn with
 | _ i ih=>
  intro hi
  cases hd:listed.getD i false with
  | true=>exact hd
  | false=>
   exfalso
   obtain ⟨o,ho⟩:∃ o,ops[i]?=some o:=⟨ops[i],by simp [hi]⟩
   have hm:i ∈ Region.ready .any ops listed:=by
    simp only [Region.ready,List.mem_filter,List.mem_range,Bool.and_eq_true]
    refine ⟨hi,?_,?_⟩
    ·have:listed[i]?=some (listed[i]'(by omega)):=by simp [hsz,hi]
     rw [Array.getD_eq_getD_getElem?,this] at hd
     rw [Array.getD_eq_getD_getElem?,this]
     simpa using hd
    ·rw [ho]
     simp only [Option.map_some,Option.getD_some]
     refine Array.all_eq_true'.2 fun e he=>?_
     cases hb:Region.binds .any e with
     | false=>rfl
     | true=>
      have hlt:=backOk_get hback i o (by simpa using ho) e (by simpa using he) hb
      have:=ih e.on (by omega) (by omega)
      simpa [Dn] using this
   rw [h] at hm;cases hm
theorem Inv.post (hp:Plan P N ops cs its al) (hr:Ran P e rec N ops cs its tq sq V) (h:Inv P N ops cs its tq sq V γ0 s0 w0 ds p D γ a w) (hP:Ptr cs its p) (hall:∀ i,i<ops.size->D i):
 Post P γ0 s0 w0 N .normal (tq its.length) (sq its.length) ds .normal a w:=by
 have hpl:p=its.length:=by
  rcases hP with hP|⟨j,hj,he⟩
  ·exact hP
  ·have:=(h.eff p j hj he).1 (hall j (hp.lt p j hj));omega
 subst hpl
 refine ⟨rfl,h.size,γ,h.stp,h.sim,?_,h.defs⟩
 intro x v hv
 rcases slot_of hp hr x v _ (Nat.le_refl _) hv with ⟨q',j,o,a1,a2,a3,a4,rfl⟩|⟨a1,a2⟩
 ·exact h.slots.done j o x (hall j (hp.lt q' j a2)) a3 a4
 ·refine h.slots.rest x v a1 fun j o hd ho hx=>?_
  obtain ⟨q',hq'⟩:=hp.has j (Array.getElem?_eq_some_iff.1 ho).1
  exact a2 q' j o (List.getElem?_eq_some_iff.1 hq').1 hq' ho hx
variable {m:Nat}{b:Option Nat}
theorem Inv.step (hG:Good P n rec) (hE:EnvOk P e) (hp:Plan P N ops cs its al) (hr:Ran P e rec N ops cs its tq sq V) (h:Inv P N ops cs its tq sq V γ0 s0 w0 ds p D γ a w) (hP:Ptr cs its p) (ho:ops[i]?=some o) (hni:¬ D i)
 (hpre:∀ e ∈ o.after.toList,Region.binds .any e=true->D e.on) {K:Act->World->Prop}{Q:Exit->Act->World->Prop}
 (hK:∀ p' γ' v' w',Inv P N ops cs its tq sq V γ0 s0 w0 ds p' (fun j=>D j∨j=i) γ' (a.put o.dst v') w'->K (a.put o.dst v') w'):wpOpIn (fen b) m P ops Q i K a w:=by
 have hil:i<ops.size:=(Array.getElem?_eq_some_iff.1 ho).1
 obtain ⟨q,hq⟩:=hp.has i hil
 obtain ⟨d,pp,g,c1,c2,c3,c4,c5,c6⟩:=hr.op q i o hq ho
 have hbef:=closed_before hp.back h.closed i o ho hpre
 have hsync:=sync_op hp hr h.closed h.slots hq ho hni hbef
 obtain ⟨hw2,hw1⟩:=wanted_on hsync c4
 unfold wpOpIn
 simp only [ho]
 -- where it stands
 have hplace:(effAt cs i=true∧q=p)∨(effAt cs i=false∧q<p):=by
  have hnlt:p<q->False:=by
   intro hlt
   rcases hP with hP|⟨j,hj,he⟩
   ·have:=(List.getElem?_eq_some_iff.1 hq).1;omega
   ·have hb:=hp.eff p q j i hlt hj hq he
    have hdj:=hbef j hb
    have:=(h.eff p j hj he).1 hdj;omega
  cases he:effAt cs i with
  | true=>
   refine .inl ⟨rfl,?_⟩
   have:¬ q<p:=fun hl=>hni ((h.eff q i hq he).2 hl)
   rcases Nat.lt_trichotomy q p with h1|h1|h1
   ·exact absurd h1 this
   ·exact h1
   ·exact (hnlt h1).elim
  | false=>
   refine .inr ⟨rfl,?_⟩
   rcases Nat.lt_trichotomy q p with h1|h1|h1
   ·exact h1
   ·exfalso
    rcases hP with hP|⟨j,hj,he'⟩
    ·have:=(List.getElem?_eq_some_iff.1 hq).1;omega
    ·rw [h1,hj] at hq;cases hq;rw [he] at he';cases he'
   ·exact (hnlt h1).elim
 rcases c6 with ⟨hw,hVi,hsq⟩|⟨hw,hop⟩
 ·rw [if_neg (by rw [hw1 hw];simp)]
  refine ⟨fun f _=>fen_fn b f,?_⟩
  have hvr:VR γ (V i) undef∨o.dst=none:=.inl (by rw [hVi];exact undef_VR)
  rcases hplace with ⟨he,rfl⟩|⟨he,hqp⟩
  ·exact hK _ _ _ _ (h.effect hp hq he ho c1 c2 hpre (γ':=γ) (w':=w) (by rw [hsq];exact .refl _ _ _) (by rw [hsq];exact h.sim) hvr)
  ·exact hK _ _ _ _ (h.floater hp hq hqp he ho c2 hni hpre (γ':=γ) (w':=w) (Le.refl γ) h.stp h.sim hvr (fun q' i' d' pp' g' a1 a2 a3 _ a5 a6 a7=>(h.ghost q' i' d' pp' g' a1 a2 a3 a5 a6 a7).1))
 ·rw [if_pos (hw2 hw)]
  rcases hplace with ⟨he,rfl⟩|⟨he,hqp⟩
  ·exact oper_sound hG hE c3 (Evs_on hsync) h.sim hop fun γ' w' v' hst hs hv=>hK _ _ _ _ (h.effect hp hq he ho c1 c2 hpre hst hs hv)
  ·have hne:isEff pp=false:=by simpa [effAt,c1,opOf] using he
   have same:∀ (t1:AT),opA pp e rec t1 (sq p)=.ok (V i) (sq p)->(∀ x v,x ∈ slotsR ops o->t1.get x=some v->∃ v',a.tmps[x]?=some v'∧VR γ v v')->o.wpIn (fen b) m P a w K Q:=by
    intro t1 hop1 hs1
    refine oper_sound hG hE c3 (Evs_on hs1) h.sim hop1 fun γ' w' v' hst hs hv=>hK _ _ _ _ (h.floater hp hq hqp he ho c2 hni hpre hst.le (h.stp.trans hst) hs hv ?_)
    intro q' i' d' pp' g' a1 a2 a3 _ a5 a6 a7
    obtain ⟨g1,g2,_,_⟩:=h.ghost q' i' d' pp' g' a1 a2 a3 a5 a6 a7
    cases hgm:γ' (sq q').next with
    | none=>rfl
    | some L=>exact absurd (hst.new _ L hgm g1).1 (by omega)
   cases hl:isLoad pp with
   | true=>
    obtain ⟨c,k1,k2⟩:=load_now hp hr h hP hq hqp ho hni c1 hl c2 c4 hw hop hbef
    exact same _ k1 k2
   | false=>
    cases hm:isMake pp with
    | false=>exact same _ ((pure_Pu (A:=fun _ _=>True) (by simp [isPure,hne,hl,hm]) _ _ _ hop).2 _ trivial) hsync
    | true=>
     have hnc:isCall pp=false:=by cases pp <;> first|rfl|cases hm
     have c30:compOp0 P o=some pp:=by
      rcases compOp_cases c3 with hh|rfl
      ·exact hh
      ·cases hm
     have hnd:=comp_no_defer c30
     rcases op_sound (w:=w) (γ:=γ) (Evs_on hsync) c30 hnc hop with ⟨_,hf⟩|⟨hf,_⟩
     ·obtain ⟨obj,mkv,O,sz,es,v',hv,hsa,hrun,hk⟩:=hf
      obtain ⟨g1,g2,g3,g4⟩:=h.ghost q i d pp g hqp hq hni c1 hm hw
      have hle:=ext_le (L:=⟨w.heap.size,0,sz,es⟩) g1
      obtain ⟨k1,k2⟩:=hk _ (sq q).next hle (ext_same _ _ _)
      refine ⟨fun f _=>fen_fn b f,?_⟩
      rw [Oper.semAt_eq _ _ _ hnd,hrun,Oper.uponIn_value]
      refine hK _ _ _ _ (h.floater hp hq hqp he ho c2 hni hpre hle (h.stp.wake g1 g3) (h.sim.wake (obj:=obj) g1 g2 ?_ k1) (.inl (by rw [hv];exact k2)) ?_)
      ·intro x hx
       rw [g4,hsa] at hx
       rcases St.get_alloc hx with ⟨_,h1⟩|⟨h1,_⟩
       ·exact h1
       ·exact absurd rfl h1
      ·intro q' i' d' pp' g' a1 a2 a3 a4 a5 a6 a7
       have hne2:(sq q').next≠(sq q).next:=by
        rcases Nat.lt_trichotomy q' q with b1|b1|b1
        ·exact Nat.ne_of_lt (h.gdist q' q i' i d' d pp' pp g' g b1 hqp a2 hq a3 hni a5 c1 a6 hm a7 hw)
        ·subst b1;rw [hq] at a2;cases a2;exact absurd rfl a4
        ·exact (Nat.ne_of_lt (h.gdist q q' i i' d d' pp pp' g g' b1 a1 hq a2 hni a3 c1 a5 hm a6 hw a7)).symm
       rw [ext_other _ _ hne2]
       exact (h.ghost q' i' d' pp' g' a1 a2 a3 a5 a6 a7).1
     ·rw [hm] at hf;cases hf
theorem any_sound (hG:Good P n rec) (hE:EnvOk P e) (hp:Plan P N ops cs its al) (hr:Ran P e rec N ops cs its tq sq V):∀ (fuel:Nat) (listed:Array Bool) (p:Nat) (γ:Gam) (a:Act) (w:World),listed.size=ops.size->listed.toList.count false≤fuel->
 Inv P N ops cs its tq sq V γ0 s0 w0 ds p (Dn listed) γ a w->Ptr cs its p->wpAnyIn (fen b) m P .any ops (Post P γ0 s0 w0 N .normal (tq its.length) (sq its.length) ds) fuel listed a w:=by
 intro fuel
 induction fuel with
 | zero=>
  intro listed p γ a w hsz hcnt h hP
  have hall:∀ i,i<ops.size->Dn listed i:=by
   intro i hi
   unfold Dn
   cases hd:listed.getD i false with
   | true=>rfl
   | false=>
    exfalso
    have h0:listed.toList.count false=0:=by omega
    rw [List.count_eq_zero] at h0
    apply h0
    have:listed[i]?=some (listed[i]'(by omega)):=by simp [hsz,hi]
    rw [Array.getD_eq_getD_getElem?,this] at hd
    simp at hd
    rw [← hd];simp
  refine ⟨?_,h.post hp hr hP hall⟩
  cases hrd:Region.ready .any ops listed with
  | nil=>rfl
  | cons i l=>
   obtain ⟨o,ho,hi,_⟩:=mem_ready (show i ∈ Region.ready .any ops listed by rw [hrd];simp)
   have hil:i<ops.size:=(Array.getElem?_eq_some_iff.1 ho).1
   have h1:=hall i hil
   unfold Dn at h1
   have:listed[i]?=some (listed[i]'(by omega)):=by simp [hsz,hil]
   rw [Array.getD_eq_getD_getElem?,this] at h1 hi
   simp at h1 hi
   rw [h1] at hi;cases hi
 | succ fuel ih=>
  intro listed p γ a w hsz hcnt h hP
  refine ⟨fun hrd=>h.post hp hr hP (all_listed hp.back hsz hrd),fun i hi=>?_⟩
  obtain ⟨o,ho,hd,hpre⟩:=mem_ready hi
  have hil:i<ops.size:=(Array.getElem?_eq_some_iff.1 ho).1
  have hget:listed[i]?=some (listed[i]'(by omega)):=by simp [hsz,hil]
  have hfalse:listed[i]'(by omega)=false:=by
   rw [Array.getD_eq_getD_getElem?,hget] at hd;simpa using hd
  have hni:¬ Dn listed i:=by unfold Dn;rw [Array.getD_eq_getD_getElem?,hget];simp [hfalse]
  refine h.step hG hE hp hr hP ho hni hpre ?_
  intro p' γ' v' w' hI
  obtain ⟨p2,hI2,hP2⟩:=hI.forth hp hr _ p' rfl
  rw [← Dn_set (by omega)] at hI2
  refine ih _ p2 γ' _ w' (by simp [hsz]) ?_ hI2 hP2
  rw [Array.toList_setIfInBounds,List.count_set (by simpa [hsz] using hil)]
  simp [hfalse]
  have hpos:0<listed.toList.count false:=List.count_pos_iff.2 (by rw [← hfalse];simp)
  simp at hpos hcnt
  omega
theorem draw_sound (hE:EnvOk P e) (hmix:P.follows .mixedOrders=true) (hG:Good P n rec):DrawGood P e rec:=by
 intro N id ops al γ t s w a b ds t' s' γ0 s0 w0 m hc hN ht hs hd hst h
 obtain ⟨cs,its,hp⟩:=plan_of hc
 obtain ⟨tq,sq,V,hr,e1,e2,e3,e4⟩:=ran_of hp h
 subst e1;subst e2;subst e3;subst e4
 refine wpIn_region_any hmix ?_
 have hI:Inv P N ops cs its tq sq V γ0 s0 w0 ds 0 (Dn (Array.replicate ops.size false)) γ a { w with drawn:=w.drawn+1 }:=by
  have hno:∀ i,¬ Dn (Array.replicate ops.size false) i:=by
   intro i hi
   unfold Dn at hi
   rw [Array.getD_eq_getD_getElem?,Array.getElem?_replicate] at hi
   split at hi <;> simp at hi
  refine ⟨fun i o ho hd=>absurd hd (hno i),fun q i hq he=>⟨fun hd=>absurd hd (hno i),fun hl=>by omega⟩,fun q i hq hd=>absurd hd (hno i),⟨fun j o x hd=>absurd hd (hno j),fun x v hv _=>ht x v hv⟩,
   hs.drew,hst.trans Stp.drew,hN,hd,Nat.zero_le _,fun q i d pp g hq=>by omega,fun q q' i i' d d' pp pp' g g' h1 h2=>by omega,fun q hq _=>?_⟩
  have:q=0:=by omega
  subst this;exact Grows.refl _
 obtain ⟨p,hI2,hP⟩:=hI.forth hp hr _ 0 rfl
 exact any_sound hG hE hp hr ops.size _ p γ a _ (by simp) (by simp) hI2 hP
theorem exec_good (hE:EnvOk P e) (hmix:P.follows .mixedOrders=true) (k:Nat):Good P k (exec e k):=exec_sound hE (fun n rec hG=>draw_sound hE hmix hG) k
end
end Go.AM
namespace Go.AM
def RLe (a b:Rec):Prop:=∀ c t s rd ds x t' s' ds',a c t s rd ds=.ok x t' s' ds'->b c t s rd ds=.ok x t' s' ds'
section
variable {e:Env}{a b:Rec}
variable {r r':R}{v:AV}{s:St}
theorem callEnd_le {res:List ARes}(h:∀ x t s ds,r=.ok x t s ds->r'=.ok x t s ds) (hv:callEnd res r=.ok v s):callEnd res r'=.ok v s:=by
 cases r with
 | fail=>cases hv
 | ok x t s ds=>rw [h x t s ds rfl];exact hv
variable {f:Nat}{args:List AV}{s':St}
theorem callG_le (h:RLe a b) (hv:callG e a f args s=.ok v s'):callG e b f args s=.ok v s':=by
 unfold callG at hv ⊢
 cases hg:e.G.get f with
 | none=>rw [hg] at hv;cases hv
 | some af=>
  rw [hg] at hv
  obtain ⟨code,res⟩:=af
  exact callEnd_le (fun x t s ds he=>h _ _ _ _ _ _ _ _ _ he) hv
theorem callA_le (h:RLe a b) (hv:callA e a f args s=.ok v s'):callA e b f args s=.ok v s':=by
 unfold callA at hv ⊢
 cases ho:e.O.get f with
 | none=>rw [ho] at hv;exact callG_le h hv
 | some hh=>
  rw [ho] at hv
  change (RV.rec (callG e a f args s) (fun v s'=>.ok v s') (hh args s):RV)=.ok v s' at hv
  show (RV.rec (callG e b f args s) (fun v s'=>.ok v s') (hh args s):RV)=.ok v s'
  cases hq:hh args s with
  | fail=>rw [hq] at hv;exact callG_le h hv
  | ok v1 s1=>rw [hq] at hv;exact hv
variable {l:Nat}
theorem roundEnd_le (h:∀ x t s ds,r=.ok x t s ds->r'=.ok x t s ds) (hv:roundEnd l r=.ok v s):roundEnd l r'=.ok v s:=by
 cases r with
 | fail=>cases hv
 | ok x t s ds=>rw [h x t s ds rfl];exact hv
theorem roundA_le (h:RLe a b) (hv:roundA a l args s=.ok v s'):roundA b l args s=.ok v s':=by
 unfold roundA at hv ⊢
 obtain ⟨st,pend,fn,tm,ps,asg,body,d,hg,hv⟩:=lp_ok hv
 unfold loopAt;rw [hg]
 obtain ⟨h1,hv⟩:=gd_ok hv
 show gd _ _=_
 rw [h1]
 show roundGo b l body (b asg (setPs ps args tm) s (some l) [])=.ok v s'
 unfold roundGo at hv ⊢
 obtain ⟨x,t1,s1,ds,hr,hv⟩:=R_ok hv
 rw [h _ _ _ _ _ _ _ _ _ hr]
 cases x with
 | normal=>
  obtain ⟨st,pend,fn,tm,ps,asg,body',d,hg,hv⟩:=lp_ok (s:=s1) hv
  show (LP.rec .fail _ (loopAt l s1):RV)=_
  unfold loopAt;rw [hg]
  cases st with
  | ready=>exact roundEnd_le (fun x t s ds he=>h _ _ _ _ _ _ _ _ _ he) hv
  | busy=>exact hv
  | done=>exact hv
  | exhausted=>exact hv
 | exit id=>exact hv
 | ret=>exact hv
theorem applyA_le (h:RLe a b) {f:AV}(hv:applyA e a f args s=.ok v s'):applyA e b f args s=.ok v s':=by
 unfold applyA at hv ⊢
 cases hq:asFn f with
 | no=>rw [hq] at hv;cases hv
 | fn g x y=>rw [hq] at hv;exact callA_le h hv
 | yld l=>rw [hq] at hv;exact roundA_le h hv
theorem applyF_le (h:RLe a b) {f:AV}(hv:applyF e a f args s=.ok v s'):applyF e b f args s=.ok v s':=by
 unfold applyF at hv ⊢
 cases hq:asFn f with
 | no=>rw [hq] at hv;cases hv
 | fn g x y=>rw [hq] at hv;exact callA_le h hv
 | yld l=>rw [hq] at hv;cases hv
theorem opA_le (h:RLe a b) {p:AOp}{t:AT}(hv:opA p e a t s=.ok v s'):opA p e b t s=.ok v s':=by
 cases p with
 | call f args=>
  obtain ⟨fv,hf,hv⟩:=wth_ok hv
  obtain ⟨vs,hvs,hv⟩:=opt_ok hv
  show wth f t (fun fv=>Option.rec .fail (fun vs=>applyA e b fv vs s) (evs t args))=.ok v s'
  unfold wth
  rw [hf]
  show (Option.rec .fail (fun vs=>applyA e b fv vs s) (evs t args):RV)=.ok v s'
  rw [hvs]
  exact applyA_le h hv
 | scall f args=>
  obtain ⟨vs,hvs,hv⟩:=opt_ok hv
  show (Option.rec .fail (fun vs=>Option.rec (callA e b f vs s) (fun h=>h vs s) (e.X.get f)) (evs t args):RV)=.ok v s'
  rw [hvs]
  show (Option.rec (callA e b f vs s) (fun h=>h vs s) (e.X.get f):RV)=.ok v s'
  cases hX:e.X.get f with
  | none=>rw [hX] at hv;exact callA_le h hv
  | some hh=>rw [hX] at hv;exact hv
 | inv tb x args=>
  obtain ⟨xv,hx,hv⟩:=wth_ok hv
  obtain ⟨vs,hvs,hv⟩:=opt_ok hv
  obtain ⟨k,u,rfl,hv⟩:=if_ok hv
  obtain ⟨f,hf,hv⟩:=opt_ok hv
  show wth x t (fun a=>Option.rec .fail (fun vs=>XR.rec .fail (fun k v=>Option.rec .fail (fun f=>callA e b f (v::vs) s) (findT tb k)) (asIf a)) (evs t args))=.ok v s'
  unfold wth
  rw [hx]
  show (Option.rec .fail (fun vs=>Option.rec .fail (fun f=>callA e b f (u::vs) s) (findT tb k)) (evs t args):RV)=.ok v s'
  rw [hvs]
  show (Option.rec .fail (fun f=>callA e b f (u::vs) s) (findT tb k):RV)=.ok v s'
  rw [hf]
  exact callA_le h hv
 | _=>exact hv
theorem opsA_le (h:RLe a b):∀ {l:List AOper}{t:AT}{s:St}{t':AT}{s':St},opsA e a l t s=.ok t' s'->opsA e b l t s=.ok t' s':=by
 intro l
 induction l with
 | nil=>intro t s t' s' hv;exact hv
 | cons o l ih=>
  intro t s t' s' hv
  cases o with
  | mk d p g=>
   change (Nat.rec .fail (fun w _=>Nat.rec (opsA e a l (putT d (.tup []) t) s) (fun _ _=>RV.rec .fail (fun v s'=>opsA e a l (putT d v t) s') (opA p e a t s)) w) (wantedA g t):RT)=.ok t' s' at hv
   show (Nat.rec .fail (fun w _=>Nat.rec (opsA e b l (putT d (.tup []) t) s) (fun _ _=>RV.rec .fail (fun v s'=>opsA e b l (putT d v t) s') (opA p e b t s)) w) (wantedA g t):RT)=.ok t' s'
   cases hw:wantedA g t with
   | zero=>rw [hw] at hv;cases hv
   | succ n=>
    rw [hw] at hv
    cases n with
    | zero=>exact ih hv
    | succ n=>
     change (RV.rec .fail (fun v s'=>opsA e a l (putT d v t) s') (opA p e a t s):RT)=.ok t' s' at hv
     show (RV.rec .fail (fun v s'=>opsA e b l (putT d v t) s') (opA p e b t s):RT)=.ok t' s'
     cases ho:opA p e a t s with
     | fail=>rw [ho] at hv;cases hv
     | ok v s1=>rw [ho] at hv;rw [opA_le h ho];exact ih hv
  | chk d p g=>
   change (Nat.rec .fail (fun w _=>Nat.rec (opsA e a l t s) (fun _ _=>RV.rec .fail (fun v _=>Option.rec .fail (fun v0=>Bool.rec .fail (opsA e a l t s) (eqV v v0)) (t.get d)) (opA p e a t s)) w) (wantedA g t):RT)=.ok t' s' at hv
   show (Nat.rec .fail (fun w _=>Nat.rec (opsA e b l t s) (fun _ _=>RV.rec .fail (fun v _=>Option.rec .fail (fun v0=>Bool.rec .fail (opsA e b l t s) (eqV v v0)) (t.get d)) (opA p e b t s)) w) (wantedA g t):RT)=.ok t' s'
   cases hw:wantedA g t with
   | zero=>rw [hw] at hv;cases hv
   | succ n=>
    rw [hw] at hv
    cases n with
    | zero=>exact ih hv
    | succ n=>
     change (RV.rec .fail (fun v _=>Option.rec .fail (fun v0=>Bool.rec .fail (opsA e a l t s) (eqV v v0)) (t.get d)) (opA p e a t s):RT)=.ok t' s' at hv
     show (RV.rec .fail (fun v _=>Option.rec .fail (fun v0=>Bool.rec .fail (opsA e b l t s) (eqV v v0)) (t.get d)) (opA p e b t s):RT)=.ok t' s'
     cases ho:opA p e a t s with
     | fail=>rw [ho] at hv;cases hv
     | ok v s1=>
      rw [ho] at hv;rw [opA_le h ho]
      change (Option.rec .fail (fun v0=>Bool.rec .fail (opsA e a l t s) (eqV v v0)) (t.get d):RT)=.ok t' s' at hv
      show (Option.rec .fail (fun v0=>Bool.rec .fail (opsA e b l t s) (eqV v v0)) (t.get d):RT)=.ok t' s'
      cases hd:t.get d with
      | none=>rw [hd] at hv;cases hv
      | some v0=>
       rw [hd] at hv
       change (Bool.rec .fail (opsA e a l t s) (eqV v v0):RT)=.ok t' s' at hv
       show (Bool.rec .fail (opsA e b l t s) (eqV v v0):RT)=.ok t' s'
       cases hq:eqV v v0 with
       | false=>rw [hq] at hv;cases hv
       | true=>rw [hq] at hv;exact ih hv
theorem acF_le (h:RLe a b) (c:AC):RLe (fun _=>acF c e a) (fun _=>acF c e b):=by
 intro _ t s rd ds x t' s' ds' hv
 cases c with
 | skip=>exact hv
 | lab=>exact hv
 | scope c1=>exact h _ _ _ _ _ _ _ _ _ hv
 | exit id=>exact hv
 | ret=>exact hv
 | reg ops=>
  obtain ⟨t1,s1,ho,hk⟩:=RT_ok (show (RT.rec .fail (fun t' s'=>.ok .normal t' s' ds) (opsA e a ops t s):R)=.ok x t' s' ds' from hv)
  show (RT.rec .fail (fun t' s'=>.ok .normal t' s' ds) (opsA e b ops t s):R)=.ok x t' s' ds'
  rw [opsA_le h ho];exact hk
 | seq c1 c2=>
  obtain ⟨x1,t1,s1,ds1,hr,hk⟩:=RR_ok (show (R.rec .fail (fun x t s ds=>Ex.rec (a c2 t s rd ds) (fun id=>.ok (.exit id) t s ds) (.ok .ret t s ds) x) (a c1 t s rd ds):R)=.ok x t' s' ds' from hv)
  show (R.rec .fail (fun x t s ds=>Ex.rec (b c2 t s rd ds) (fun id=>.ok (.exit id) t s ds) (.ok .ret t s ds) x) (b c1 t s rd ds):R)=.ok x t' s' ds'
  rw [h _ _ _ _ _ _ _ _ _ hr]
  cases x1 with
  | normal=>exact h _ _ _ _ _ _ _ _ _ hk
  | exit id=>exact hk
  | ret=>exact hk
 | cond y c1 c2=>
  obtain ⟨v,hv',hk⟩:=OV_ok (show (OV.rec .fail (fun v=>BR.rec .fail (a c1 t s rd ds) (a c2 t s rd ds) (asBool v)) (ev y t):R)=.ok x t' s' ds' from hv)
  show (OV.rec .fail (fun v=>BR.rec .fail (b c1 t s rd ds) (b c2 t s rd ds) (asBool v)) (ev y t):R)=.ok x t' s' ds'
  rw [hv']
  show (BR.rec .fail (b c1 t s rd ds) (b c2 t s rd ds) (asBool v):R)=.ok x t' s' ds'
  cases hb:asBool v with
  | no=>rw [hb] at hk;cases hk
  | tt=>rw [hb] at hk;exact h _ _ _ _ _ _ _ _ _ hk
  | ff=>rw [hb] at hk;exact h _ _ _ _ _ _ _ _ _ hk
 | block id c1=>
  obtain ⟨x1,t1,s1,ds1,hr,hk⟩:=RR_ok (show (R.rec .fail (fun x t s ds=>Ex.rec (.ok .normal t s ds) (fun id'=>Bool.rec (.ok (.exit id') t s ds) (.ok .normal t s ds) (Nat.beq id id')) (.ok .ret t s ds) x) (a c1 t s rd ds):R)=.ok x t' s' ds' from hv)
  show (R.rec .fail (fun x t s ds=>Ex.rec (.ok .normal t s ds) (fun id'=>Bool.rec (.ok (.exit id') t s ds) (.ok .normal t s ds) (Nat.beq id id')) (.ok .ret t s ds) x) (b c1 t s rd ds):R)=.ok x t' s' ds'
  rw [h _ _ _ _ _ _ _ _ _ hr];exact hk
 | loop c1=>
  obtain ⟨x1,t1,s1,ds1,hr,hk⟩:=RR_ok (show (R.rec .fail (fun x t s ds=>Ex.rec (a (.loop c1) t s rd ds) (fun id=>.ok (.exit id) t s ds) (.ok .ret t s ds) x) (a c1 t s rd ds):R)=.ok x t' s' ds' from hv)
  show (R.rec .fail (fun x t s ds=>Ex.rec (b (.loop c1) t s rd ds) (fun id=>.ok (.exit id) t s ds) (.ok .ret t s ds) x) (b c1 t s rd ds):R)=.ok x t' s' ds'
  rw [h _ _ _ _ _ _ _ _ _ hr]
  cases x1 with
  | normal=>exact h _ _ _ _ _ _ _ _ _ hk
  | exit id=>exact hk
  | ret=>exact hk
 | rng g ps asg body=>
  have go:∀ gv t d ds s0,rngGo e a gv ps asg body t d ds s0=.ok x t' s' ds'->rngGo e b gv ps asg body t d ds s0=.ok x t' s' ds':=by
   intro gv t d ds s0 hg
   unfold rngGo at hg ⊢
   obtain ⟨v,s2,hc,hk⟩:=RV_ok hg
   rw [applyF_le h hc];exact hk
  obtain ⟨gv,hgv,hk⟩:=OV_ok (show (OV.rec .fail (fun gv=>Option.rec (rngGo e a gv ps asg body t s.next (s.next::ds) (s.alloc .defd)) (fun l=>LP.rec .fail (fun _ _ _ _ _ _ _ d=>rngGo e a gv ps asg body t d ds s) (loopAt l s)) rd) (ev g t):R)=.ok x t' s' ds' from hv)
  show (OV.rec .fail (fun gv=>Option.rec (rngGo e b gv ps asg body t s.next (s.next::ds) (s.alloc .defd)) (fun l=>LP.rec .fail (fun _ _ _ _ _ _ _ d=>rngGo e b gv ps asg body t d ds s) (loopAt l s)) rd) (ev g t):R)=.ok x t' s' ds'
  rw [hgv]
  cases rd with
  | none=>exact go _ _ _ _ _ hk
  | some l=>
   obtain ⟨st,pend,fn,tm,ps',asg',body',d,hg,hk⟩:=LPR_ok hk
   show (LP.rec .fail _ (loopAt l s):R)=_
   unfold loopAt;rw [hg]
   exact go _ _ _ _ _ hk
theorem exec_le1:∀ n,RLe (exec e n) (exec e (n+1)):=by
 intro n
 induction n with
 | zero=>intro c t s rd ds x t' s' ds' h;cases h
 | succ n ih=>
  intro c t s rd ds x t' s' ds' h
  exact acF_le ih c .skip t s rd ds x t' s' ds' h
theorem exec_le {n m:Nat}(h:n≤m):RLe (exec e n) (exec e m):=by
 induction h with
 | refl=>intro c t s rd ds x t' s' ds' h;exact h
 | step _ ih=>intro c t s rd ds x t' s' ds' h;exact exec_le1 _ _ _ _ _ _ _ _ _ _ (ih _ _ _ _ _ _ _ _ _ h)
end
end Go.AM
namespace Go.AM
def CodeOf (P:Program) (N:Nat) (c:Code):AC->Prop
 | .skip=>c=.skip
 | .reg _=>∃ id ops dr,c=.region id ops dr∨comp P N c=some badC
 | .seq a b=>∃ c1 c2,c=.seq c1 c2∧comp P N c1=some a∧comp P N c2=some b
 | .cond x a b=>∃ y c1 c2,c=.cond y c1 c2∧aop y=some x∧comp P N c1=some a∧comp P N c2=some b
 | .block id a=>∃ c1,c=.block id c1∧comp P N c1=some a
 | .loop a=>∃ c1,c=.loop c1∧comp P N c1=some a
 | .rng g ps a b=>∃ y qs c1 c2,c=.rangeFunc y qs c1 c2∧aop y=some g∧qs.toList=ps∧comp P N c1=some a∧comp P N c2=some b∧∀ p ∈ ps,p<N
 | .exit id=>c=.exit id
 | .scope a=>∃ c1,c=.scope c1∧comp P N c1=some a
 | .lab=>∃ l,c=.label l
 | .ret=>c=.ret
theorem codeOf {P:Program}{N:Nat}{c:Code}{ac:AC}(h:comp P N c=some ac):CodeOf P N c ac:=by
 cases c with
 | skip=>cases h;rfl
 | ret=>cases h;rfl
 | exit id=>cases h;rfl
 | label l=>cases h;exact ⟨l,rfl⟩
 | scope c1=>
  obtain ⟨a,h1,rfl⟩:=map_some (show (comp P N c1).map AC.scope=some ac from h)
  exact ⟨_,rfl,h1⟩
 | region id ops dr=>
  cases dr with
  | false=>obtain ⟨al,_,rfl⟩:=map_some (show (compOpers P N ops ops.toList).map AC.reg=some ac from h);exact ⟨_,_,_,.inl rfl⟩
  | true=>
   have h':some (((compDraw P N ops).map AC.reg).getD badC)=some ac:=h
   cases hal:compDraw P N ops with
   | none=>rw [hal] at h';cases h';exact ⟨_,_,_,.inl rfl⟩
   | some al=>rw [hal] at h';cases h';exact ⟨_,_,_,.inl rfl⟩
 | seq c1 c2=>
  simp only [comp] at h
  split at h
  ·rename_i a b h1 h2;cases h;exact ⟨_,_,rfl,h1,h2⟩
  ·cases h
 | cond y c1 c2=>
  simp only [comp] at h
  split at h
  ·rename_i x a b h0 h1 h2;cases h;exact ⟨_,_,_,rfl,h0,h1,h2⟩
  ·cases h
 | block id c1=>
  obtain ⟨a,h1,rfl⟩:=map_some (show (comp P N c1).map (AC.block id)=some ac from h)
  exact ⟨_,rfl,h1⟩
 | loop c1=>
  obtain ⟨a,h1,rfl⟩:=map_some (show (comp P N c1).map AC.loop=some ac from h)
  exact ⟨_,rfl,h1⟩
 | rangeFunc f ps asg body=>
  simp only [comp] at h
  split at h
  ·rename_i y a b h0 h1 h2
   split at h
   ·rename_i hps
    cases h
    refine ⟨_,_,_,_,rfl,h0,rfl,h1,h2,fun p hp=>?_⟩
    have:=List.all_eq_true.1 hps p hp
    simpa using this
   ·cases h
  ·cases h
 | _=>cases h;exact ⟨0,#[],false,.inr rfl⟩
def W (P:Program) (k:Nat) (rd:Option Nat) (ac:AC) (t:AT) (s:St) (ds:List Nat) (Q:Ex->AT->St->List Nat->Prop):Prop:=
 ∀ (N:Nat) (c:Code) (γ:Gam) (w:World) (a:Act) (b:Option Nat) (γ0:Gam) (s0:St) (w0:World) (m:Nat),
  comp P N c=some ac->N≤a.tmps.size->TR γ t a.tmps->Sim P γ s w->RD γ0 rd b->DR γ ds a.defers->Stp γ0 s0 w0 γ s w->s0.next=k->(∀ r,k≤r->γ0 r=none)->(∀ r,r<k->∃ L,γ0 r=some L)->
  c.wpIn (fen b) m P (fun ex a' w'=>∃ x t' s' ds',Q x t' s' ds'∧Post P γ0 s0 w0 N x t' s' ds' ex a' w') a w
section
variable {P:Program}{k:Nat}{rd:Option Nat}{t:AT}{s:St}{ds:List Nat}{Q:Ex->AT->St->List Nat->Prop}
variable {ac:AC}
theorem W.mono {Q':Ex->AT->St->List Nat->Prop}(h:W P k rd ac t s ds Q) (hq:∀ x t s ds,Q x t s ds->Q' x t s ds):W P k rd ac t s ds Q':=
 fun N c γ w a b γ0 s0 w0 m h1 h2 h3 h4 h5 h6 h7 h8 h9 h10=>wpIn_mono (h N c γ w a b γ0 s0 w0 m h1 h2 h3 h4 h5 h6 h7 h8 h9 h10) fun _ _ _ ⟨x,t',s',ds',hQ,hp⟩=>⟨x,t',s',ds',hq _ _ _ _ hQ,hp⟩
theorem W.exec {n:Nat}{rec:Rec}{x:Ex}{t':AT}{s':St}{ds':List Nat}(hG:Good P n rec) (h:rec ac t s rd ds=.ok x t' s' ds') (hq:Q x t' s' ds'):W P k rd ac t s ds Q:=
 fun N c γ w a b γ0 s0 w0 m h1 h2 h3 h4 h5 h6 h7 h8 h9 h10=>wpIn_mono (hG N c ac γ t s w a rd b ds x t' s' ds' γ0 s0 w0 m h1 h2 h3 h4 h5 h6 h7 h).1 fun _ _ _ hp=>⟨x,t',s',ds',hq,hp⟩
theorem W.skip (h:Q .normal t s ds):W P k rd .skip t s ds Q:=by
 intro N c γ w a b γ0 s0 w0 m h1 h2 h3 h4 h5 h6 h7 h8 h9 h10
 cases (codeOf h1:c=.skip)
 exact wpIn_skip ⟨_,_,_,_,h,rfl,h2,γ,h7,h4,h3,h6⟩
theorem W.ret (h:Q .ret t s ds):W P k rd .ret t s ds Q:=by
 intro N c γ w a b γ0 s0 w0 m h1 h2 h3 h4 h5 h6 h7 h8 h9 h10
 cases (codeOf h1:c=.ret)
 exact wpIn_ret ⟨_,_,_,_,h,rfl,h2,γ,h7,h4,h3,h6⟩
theorem W.exit {id:Nat}(h:Q (.exit id) t s ds):W P k rd (.exit id) t s ds Q:=by
 intro N c γ w a b γ0 s0 w0 m h1 h2 h3 h4 h5 h6 h7 h8 h9 h10
 cases (codeOf h1:c=.exit id)
 exact wpIn_exit ⟨_,_,_,_,h,rfl,h2,γ,h7,h4,h3,h6⟩
theorem W.lab (h:Q .normal t s ds):W P k rd .lab t s ds Q:=by
 intro N c γ w a b γ0 s0 w0 m h1 h2 h3 h4 h5 h6 h7 h8 h9 h10
 obtain ⟨l,rfl⟩:=(codeOf h1:∃ l,c=.label l)
 exact wpIn_label ⟨_,_,_,_,h,rfl,h2,γ,h7,h4,h3,h6⟩
variable {x:AC}
theorem W.scope (h:W P k rd x t s ds Q):W P k rd (.scope x) t s ds Q:=by
 intro N c γ w a b γ0 s0 w0 m h1 h2 h3 h4 h5 h6 h7 h8 h9 h10
 obtain ⟨c1,rfl,e1⟩:=(codeOf h1:∃ c1,c=.scope c1∧comp P N c1=some x)
 refine wpIn_scopeA ?_ (h N c1 γ w a b γ0 s0 w0 m e1 h2 h3 h4 h5 h6 h7 h8 h9 h10)
 rintro l a w ⟨x,t',s',ds',_,hp,_⟩
 cases x <;> simp [exOf] at hp
def Then (K:AT->St->List Nat->Prop) (Q:Ex->AT->St->List Nat->Prop) (x:Ex) (t:AT) (s:St) (ds:List Nat):Prop:=match x with
 | .normal=>K t s ds
 | .exit id=>Q (.exit id) t s ds
 | .ret=>Q .ret t s ds
theorem then_post {N:Nat}{γ0:Gam}{s0:St}{w0:World}{K:AT->St->List Nat->Prop}{J:Act->World->Prop}
 (hK:∀ t1 s1 ds1 γ1 a1 w1,K t1 s1 ds1->N≤a1.tmps.size->TR γ1 t1 a1.tmps->Sim P γ1 s1 w1->DR γ1 ds1 a1.defers->Stp γ0 s0 w0 γ1 s1 w1->J a1 w1):
 ∀ ex a1 w1,(∃ x t' s' ds',Then K Q x t' s' ds'∧Post P γ0 s0 w0 N x t' s' ds' ex a1 w1)->Exit.then J (fun ex a' w'=>∃ x t' s' ds',Q x t' s' ds'∧Post P γ0 s0 w0 N x t' s' ds' ex a' w') ex a1 w1:=by
 rintro ex a1 w1 ⟨x,t',s',ds',hq,hp⟩
 obtain ⟨rfl,q1,γ1,q2,q3,q4,q5⟩:=hp
 cases x with
 | normal=>exact hK t' s' ds' γ1 a1 w1 hq q1 q4 q3 q5 q2
 | exit id=>exact ⟨_,_,_,_,hq,rfl,q1,γ1,q2,q3,q4,q5⟩
 | ret=>exact ⟨_,_,_,_,hq,rfl,q1,γ1,q2,q3,q4,q5⟩
variable {y:AC}
theorem W.seq (h:W P k rd x t s ds (Then (fun t s ds=>W P k rd y t s ds Q) Q)):W P k rd (.seq x y) t s ds Q:=by
 intro N c γ w a b γ0 s0 w0 m h1 h2 h3 h4 h5 h6 h7 h8 h9 h10
 obtain ⟨c1,c2,rfl,e1,e2⟩:=(codeOf h1:∃ c1 c2,c=.seq c1 c2∧comp P N c1=some x∧comp P N c2=some y)
 refine wpIn_seq (wpIn_mono (h N c1 γ w a b γ0 s0 w0 m e1 h2 h3 h4 h5 h6 h7 h8 h9 h10) (then_post ?_))
 intro t1 s1 ds1 γ1 a1 w1 hk q1 q2 q3 q4 q5
 exact hk N c2 γ1 w1 a1 b γ0 s0 w0 m e2 q1 q2 q3 h5 q4 q5 h8 h9 h10
theorem W.cond {x:AO}{z:AC}{b:Bool}(hb:ev x t=.some (.bool b)) (h1:b=true->W P k rd y t s ds Q) (h2:b=false->W P k rd z t s ds Q):W P k rd (.cond x y z) t s ds Q:=by
 intro N c γ w a b' γ0 s0 w0 m g1 g2 g3 g4 g5 g6 g7 g8 g9 g10
 obtain ⟨o,c1,c2,rfl,e0,e1,e2⟩:=(codeOf g1:∃ o c1 c2,c=.cond o c1 c2∧aop o=some x∧comp P N c1=some y∧comp P N c2=some z)
 have hR:=ev_VR g3 e0 hb
 cases b with
 | true=>exact wpIn_cond_true (boolV hR) (h1 rfl N c1 γ w a b' γ0 s0 w0 m e1 g2 g3 g4 g5 g6 g7 g8 g9 g10)
 | false=>exact wpIn_cond_false (boolV hR) (h2 rfl N c2 γ w a b' γ0 s0 w0 m e2 g2 g3 g4 g5 g6 g7 g8 g9 g10)
def InBlk (id:Nat) (Q:Ex->AT->St->List Nat->Prop) (x:Ex) (t:AT) (s:St) (ds:List Nat):Prop:=match x with
 | .normal=>Q .normal t s ds
 | .exit id'=>if id'=id then Q .normal t s ds else Q (.exit id') t s ds
 | .ret=>Q .ret t s ds
theorem W.block {id:Nat}(h:W P k rd x t s ds (InBlk id Q)):W P k rd (.block id x) t s ds Q:=by
 intro N c γ w a b γ0 s0 w0 m h1 h2 h3 h4 h5 h6 h7 h8 h9 h10
 obtain ⟨c1,rfl,e1⟩:=(codeOf h1:∃ c1,c=.block id c1∧comp P N c1=some x)
 refine wpIn_block (wpIn_mono (h N c1 γ w a b γ0 s0 w0 m e1 h2 h3 h4 h5 h6 h7 h8 h9 h10) ?_)
 rintro ex a1 w1 ⟨x1,t',s',ds',hq,rfl,q1,γ1,q2,q3,q4,q5⟩
 cases x1 with
 | normal=>exact ⟨_,_,_,_,hq,rfl,q1,γ1,q2,q3,q4,q5⟩
 | ret=>exact ⟨_,_,_,_,hq,rfl,q1,γ1,q2,q3,q4,q5⟩
 | exit id'=>
  show if id'=id then _ else _
  simp only [InBlk] at hq
  split
  ·rename_i e;rw [if_pos e] at hq;exact ⟨_,_,_,_,hq,rfl,q1,γ1,q2,q3,q4,q5⟩
  ·rename_i e;rw [if_neg e] at hq;exact ⟨_,_,_,_,hq,rfl,q1,γ1,q2,q3,q4,q5⟩
theorem W.loop (I:Nat->AT->St->List Nat->Prop) (n:Nat) (h0:I n t s ds)
 (hr:∀ n t s ds,I n t s ds->W P k rd x t s ds (Then (fun t s ds=>∃ n',n'<n∧I n' t s ds) Q)):W P k rd (.loop x) t s ds Q:=by
 intro N c γ w a b γ0 s0 w0 m h1 h2 h3 h4 h5 h6 h7 h8 h9 h10
 obtain ⟨c1,rfl,e1⟩:=(codeOf h1:∃ c1,c=.loop c1∧comp P N c1=some x)
 have key:∀ (j n:Nat) (t:AT) (s:St) (ds:List Nat) (γ:Gam) (a:Act) (w:World),n<j->I n t s ds->N≤a.tmps.size->TR γ t a.tmps->Sim P γ s w->DR γ ds a.defers->Stp γ0 s0 w0 γ s w->
  Code.roundsIn (fen b) m P c1 (fun ex a' w'=>∃ x t' s' ds',Q x t' s' ds'∧Post P γ0 s0 w0 N x t' s' ds' ex a' w') j a w:=by
  intro j
  induction j with
  | zero=>intro n t s ds γ a w hn;omega
  | succ j ih=>
   intro n t s ds γ a w hn hi q1 q2 q3 q4 q5
   rw [roundsIn_succ]
   refine wpIn_mono (hr n t s ds hi N c1 γ w a b γ0 s0 w0 m e1 q1 q2 q3 h5 q4 q5 h8 h9 h10) (then_post ?_)
   rintro t1 s1 ds1 γ1 a1 w1 ⟨n',hn',hi'⟩ r1 r2 r3 r4 r5
   exact ih n' t1 s1 ds1 γ1 a1 w1 (by omega) hi' r1 r2 r3 r4 r5
 exact wpIn_loop_rounds (n+1) (key (n+1) n t s ds γ a w (Nat.lt_succ_self _) h0 h2 h3 h4 h6 h7)
end
end Go.AM
namespace Go.AM
mutual
def mapV (ρ:Nat->Nat):AV->AV
 | .ptr r o=>.ptr (ρ r) o
 | .sl r o n c=>.sl (ρ r) o n c
 | .map r=>.map (ρ r)
 | .yld l=>.yld (ρ l)
 | .fn f a b=>.fn f (mapVs ρ a) (mapVs ρ b)
 | .iface t v=>.iface t (mapV ρ v)
 | .agg l=>.agg (mapVs ρ l)
 | .tup l=>.tup (mapVs ρ l)
 | v=>v
def mapVs (ρ:Nat->Nat):List AV->List AV
 | []=>[]
 | v::l=>mapV ρ v::mapVs ρ l
end
mutual
def bd (n:Nat):AV->Bool
 | .ptr r _=>Nat.blt r n
 | .sl r _ _ _=>Nat.blt r n
 | .map r=>Nat.blt r n
 | .yld l=>Nat.blt l n
 | .fn _ a b=>bds n a && bds n b
 | .iface _ v=>bd n v
 | .agg l=>bds n l
 | .tup l=>bds n l
 | _=>true
def bds (n:Nat):List AV->Bool
 | []=>true
 | v::l=>bd n v && bds n l
end
section
variable {P:Program}{γ γ2:Gam}{ρ:Nat->Nat}{n:Nat}
mutual
theorem VR_hf (hz:∀ b c,γ.fz b=some c->γ2.fz b=some c):∀ (v:AV) {v':Value},hf v=true->VR γ v v'->VR γ2 v v'
 | .bool b,_,_,.bool _=>.bool _
 | .int k n,_,_,.int _ _=>.int _ _
 | .str l,_,_,.str _ s e=>.str _ s e
 | .ptr _ _,_,h,_=>by cases h
 | .nilp,_,_,.nilp=>.nilp
 | .sl ..,_,h,_=>by cases h
 | .nils,_,_,.nils=>.nils
 | .es,_,_,.es a c=>.es a c
 | .ez,_,_,.ez a=>.ez a
 | .map _,_,h,_=>by cases h
 | .nilm,_,_,.nilm=>.nilm
 | .fn f xs ys,_,h,.fn _ _ _ as bs a b=>by
  simp only [hf,Bool.and_eq_true] at h
  exact .fn f xs ys as bs (VR_hfs hz xs h.1 a) (VR_hfs hz ys h.2 b)
 | .yld _,_,h,_=>by cases h
 | .nilf,_,_,.nilf=>.nilf
 | .iface t v,_,h,.iface _ _ v' e=>.iface t v v' (VR_hf hz v h e)
 | .nili,_,_,.nili=>.nili
 | .agg l,_,h,.agg _ a e o=>.agg l a (VR_hfs hz l h e) o
 | .tup l,_,h,.tup _ a e=>.tup l a (VR_hfs hz l h e)
 | .any,_,_,.any v e=>.any v e
 | .fz n c l,_,_,.fz _ _ _ vs b o cc cs e1 e2 e3 e4 e5 e6 e7=>.fz n c l vs b o cc cs (hz _ _ e1) e2 e3 (VR_hfs hz l e7 e4) e5 e6 e7
 | .fp l,_,_,.fp _ vs b o cs e1 e2 e3 e4 e5=>.fp l vs b o cs (hz _ _ e1) e2 e3 (VR_hfs hz l e5 e4) e5
theorem VR_hfs (hz:∀ b c,γ.fz b=some c->γ2.fz b=some c):∀ (l:List AV) {m:List Value},hfs l=true->All2 (VR γ) l m->All2 (VR γ2) l m
 | [],_,_,.nil=>.nil
 | v::l,_,h,.cons a b=>by
  simp only [hfs,Bool.and_eq_true] at h
  exact .cons (VR_hf hz v h.1 a) (VR_hfs hz l h.2 b)
end
mutual
theorem VR_ren (hz:∀ b c,γ.fz b=some c->γ2.fz b=some c) (hl:∀ r,r<n->∀ L,γ (ρ r)=some L->γ2 r=some L):∀ (v:AV) {v':Value},bd n v=true->VR γ (mapV ρ v) v'->VR γ2 v v'
 | .bool b,_,_,h=>by cases h;exact .bool _
 | .int k n,_,_,h=>by cases h;exact .int _ _
 | .str l,_,_,h=>by cases h;rename_i s e;exact .str _ s e
 | .ptr r o,_,hb,h=>by
  cases h with
  | ptr _ _ L e=>exact .ptr r o L (hl r (by simpa [bd] using hb) L e)
 | .nilp,_,_,h=>by cases h;exact .nilp
 | .sl r o m c,_,hb,h=>by
  cases h with
  | sl _ _ _ c L e a=>exact .sl r o m c L (hl r (by simpa [bd] using hb) L e) a
  | slu _ _ _ c L e a b d=>exact .slu r o m c L (hl r (by simpa [bd] using hb) L e) a b d
 | .nils,_,_,h=>by cases h;exact .nils
 | .es,_,_,h=>by cases h;exact .es _ _
 | .ez,_,_,h=>by cases h;exact .ez _
 | .map r,_,hb,h=>by
  cases h with
  | map _ L e=>exact .map r L (hl r (by simpa [bd] using hb) L e)
 | .nilm,_,_,h=>by cases h;exact .nilm
 | .fn f xs ys,_,hb,h=>by
  simp only [bd,Bool.and_eq_true] at hb
  cases h with
  | fn _ _ _ as bs a b=>exact .fn f xs ys as bs (VR_rens hz hl xs hb.1 a) (VR_rens hz hl ys hb.2 b)
 | .yld l,_,hb,h=>by
  cases h with
  | yld _ L e=>exact .yld l L (hl l (by simpa [bd] using hb) L e)
 | .nilf,_,_,h=>by cases h;exact .nilf
 | .iface t v,_,hb,h=>by
  cases h with
  | iface _ _ v' e=>exact .iface t v v' (VR_ren hz hl v hb e)
 | .nili,_,_,h=>by cases h;exact .nili
 | .agg l,_,hb,h=>by
  cases h with
  | agg _ a e o=>exact .agg l a (VR_rens hz hl l hb e) o
 | .tup l,_,hb,h=>by
  cases h with
  | tup _ a e=>exact .tup l a (VR_rens hz hl l hb e)
 | .any,_,_,h=>by cases h;rename_i e;exact .any _ e
 | .fz m c l,_,_,h=>VR_hf hz (.fz m c l) rfl h
 | .fp l,_,_,h=>VR_hf hz (.fp l) rfl h
theorem VR_rens (hz:∀ b c,γ.fz b=some c->γ2.fz b=some c) (hl:∀ r,r<n->∀ L,γ (ρ r)=some L->γ2 r=some L):∀ (l:List AV) {m:List Value},bds n l=true->All2 (VR γ) (mapVs ρ l) m->All2 (VR γ2) l m
 | [],_,_,h=>by cases h;exact .nil
 | v::l,_,hb,h=>by
  simp only [bds,Bool.and_eq_true] at hb
  cases h with
  | cons a b=>exact .cons (VR_ren hz hl v hb.1 a) (VR_rens hz hl l hb.2 b)
end
mutual
theorem mapV_id (hρ:∀ r,r<n->ρ r=r):∀ (v:AV),bd n v=true->mapV ρ v=v
 | .ptr r o,h=>by simp only [mapV];rw [hρ r (by simpa [bd] using h)]
 | .sl r o m c,h=>by simp only [mapV];rw [hρ r (by simpa [bd] using h)]
 | .map r,h=>by simp only [mapV];rw [hρ r (by simpa [bd] using h)]
 | .yld r,h=>by simp only [mapV];rw [hρ r (by simpa [bd] using h)]
 | .fn f a b,h=>by simp only [bd,Bool.and_eq_true] at h;simp only [mapV];rw [mapVs_id hρ a h.1,mapVs_id hρ b h.2]
 | .iface t v,h=>by simp only [mapV];rw [mapV_id hρ v h]
 | .agg l,h=>by simp only [mapV];rw [mapVs_id hρ l h]
 | .tup l,h=>by simp only [mapV];rw [mapVs_id hρ l h]
 | .bool _,_|.int _ _,_|.str _,_|.nilp,_|.nils,_|.es,_|.ez,_|.nilm,_|.nilf,_|.nili,_|.any,_|.fz _ _ _,_|.fp _,_=>rfl
theorem mapVs_id (hρ:∀ r,r<n->ρ r=r):∀ (l:List AV),bds n l=true->mapVs ρ l=l
 | [],_=>rfl
 | v::l,h=>by simp only [bds,Bool.and_eq_true] at h;simp only [mapVs];rw [mapV_id hρ v h.1,mapVs_id hρ l h.2]
end
mutual
theorem hf_bd:∀ (v:AV),hf v=true->bd n v=true
 | .ptr ..,h=>by cases h
 | .sl ..,h=>by cases h
 | .map ..,h=>by cases h
 | .yld ..,h=>by cases h
 | .fn f a b,h=>by simp only [hf,Bool.and_eq_true] at h;simp only [bd,Bool.and_eq_true];exact ⟨hfs_bds a h.1,hfs_bds b h.2⟩
 | .iface t v,h=>hf_bd v h
 | .agg l,h=>hfs_bds l h
 | .tup l,h=>hfs_bds l h
 | .bool _,_|.int _ _,_|.str _,_|.nilp,_|.nils,_|.es,_|.ez,_|.nilm,_|.nilf,_|.nili,_|.any,_|.fz _ _ _,_|.fp _,_=>rfl
theorem hfs_bds:∀ (l:List AV),hfs l=true->bds n l=true
 | [],_=>rfl
 | v::l,h=>by simp only [hfs,Bool.and_eq_true] at h;simp only [bds,Bool.and_eq_true];exact ⟨hf_bd v h.1,hfs_bds l h.2⟩
end
mutual
theorem hf_mapV:∀ (v:AV),hf v=true->mapV ρ v=v
 | .ptr ..,h=>by cases h
 | .sl ..,h=>by cases h
 | .map ..,h=>by cases h
 | .yld ..,h=>by cases h
 | .fn f a b,h=>by simp only [hf,Bool.and_eq_true] at h;simp only [mapV];rw [hfs_mapVs a h.1,hfs_mapVs b h.2]
 | .iface t v,h=>by simp only [mapV];rw [hf_mapV v h]
 | .agg l,h=>by simp only [mapV];rw [hfs_mapVs l h]
 | .tup l,h=>by simp only [mapV];rw [hfs_mapVs l h]
 | .bool _,_|.int _ _,_|.str _,_|.nilp,_|.nils,_|.es,_|.ez,_|.nilm,_|.nilf,_|.nili,_|.any,_|.fz _ _ _,_|.fp _,_=>rfl
theorem hfs_mapVs:∀ (l:List AV),hfs l=true->mapVs ρ l=l
 | [],_=>rfl
 | v::l,h=>by simp only [hfs,Bool.and_eq_true] at h;simp only [mapVs];rw [hf_mapV v h.1,hfs_mapVs l h.2]
end
variable {n:Nat}
theorem t9 {v:AV}{ρ:Nat->Nat}{x:Option AV}(h:hf v=true:=by assumption) (e:x=some v:=by rfl):bd n v=true∧x=some (mapV ρ v):=⟨hf_bd _ h,by rw [hf_mapV _ h];exact e⟩
def mapE (ρ:Nat->Nat):List (AV×AV×Nat)->List (AV×AV×Nat)
 | []=>[]
 | (a,b,c)::l=>(mapV ρ a,mapV ρ b,c)::mapE ρ l
def bdE (n:Nat):List (AV×AV×Nat)->Bool
 | []=>true
 | (a,b,_)::l=>bd n a && bd n b && bdE n l
def bdT (n:Nat):T AV->Bool
 | .lf=>true
 | .nd v l r=>(match v with|none=>true|some v=>bd n v) && bdT n l && bdT n r
theorem bdT_get:∀ {t:T AV}{i:Nat}{v:AV},bdT n t=true->t.get i=some v->bd n v=true:=by
 intro t
 induction t with
 | lf=>intro i v _ h;cases h
 | nd x l r il ir=>
  intro i v hb h
  simp only [bdT,Bool.and_eq_true] at hb
  cases i with
  | zero=>change x=some v at h;subst h;exact hb.1.1
  | succ i=>
   change (Bool.rec (T.get r (Nat.div i 2)) (T.get l (Nat.div i 2)) (Nat.beq (Nat.mod i 2) 0):Option AV)=some v at h
   cases hc:Nat.beq (Nat.mod i 2) 0 <;> rw [hc] at h
   ·exact ir hb.2 h
   ·exact il hb.1.2 h
def mapO (ρ:Nat->Nat):AObj->AObj
 | .row e cs=>.row e (mapVs ρ cs)
 | .map es c=>.map (mapE ρ es) c
 | .iter m b se l=>.iter (ρ m) b se l
 | o=>o
def bdO (k n:Nat):AObj->Bool
 | .row _ cs=>bds n cs
 | .map es _=>bdE n es
 | .iter m _ _ _=>Nat.blt m n
 | .loop _ _ _ tm _ _ _ d=>bdT k tm && Nat.blt d k
 | _=>true
theorem bds_get:∀ {l:List AV}{i:Nat}{v:AV},bds n l=true->l[i]?=some v->bd n v=true
 | [],i,v,_,h=>by simp at h
 | x::l,i,v,hb,h=>by
  simp only [bds,Bool.and_eq_true] at hb
  cases i with
  | zero=>simp at h;subst h;exact hb.1
  | succ i=>exact bds_get hb.2 (by simpa using h)
theorem mapVs_get:∀ {l:List AV}{i:Nat}{v:AV},l[i]?=some v->(mapVs ρ l)[i]?=some (mapV ρ v)
 | [],i,v,h=>by simp at h
 | x::l,i,v,h=>by
  cases i with
  | zero=>simp at h;subst h;rfl
  | succ i=>simp only [mapVs];simpa using mapVs_get (l:=l) (by simpa using h)
theorem mapVs_length:∀ (l:List AV),(mapVs ρ l).length=l.length
 | []=>rfl
 | x::l=>by simp [mapVs,mapVs_length l]
variable {k:Nat}
theorem objR_ren (hz:∀ b c,γ.fz b=some c->γ2.fz b=some c) (hl:∀ r,r<n->∀ L,γ (ρ r)=some L->γ2 r=some L) (hk:∀ r,r<k->ρ r=r) (hkn:k≤n) {L:Loc}{o:AObj}{hp:Array Obj}(hb:bdO k n o=true) (h:ObjR P γ L (mapO ρ o) hp):ObjR P γ2 L o hp:=by
 have hlk:∀ r,r<k->∀ L,γ r=some L->γ2 r=some L:=fun r hr L e=>hl r (by omega) L (by rw [hk r hr];exact e)
 have hid:∀ v,bd k v=true->∀ {v':Value},VR γ v v'->VR γ2 v v':=fun v hv v' e=>VR_ren (ρ:=fun r=>r) hz hlk v hv (by rw [mapV_id (n:=k) (fun _ _=>rfl) v hv];exact e)
 cases o with
 | row e cs=>
  obtain ⟨c,h1,h2,h3,h4,h5,h6,h7⟩:=h
  rw [mapVs_length] at h5
  refine ⟨c,h1,h2,h3,h4,h5,fun i v hv=>?_,h7⟩
  obtain ⟨v',a,b,d⟩:=h6 i _ (mapVs_get hv)
  exact ⟨v',a,VR_ren hz hl v (bds_get hb hv) b,d⟩
 | dead=>trivial
 | map es clock=>
  obtain ⟨ms,h1,h2⟩:=h
  refine ⟨ms,h1,?_⟩
  have:∀ (es:List (AV×AV×Nat)) (ms:List MapEntry),bdE n es=true->All2 (fun (x:AV×AV×Nat) (m:MapEntry)=>VR γ x.1 m.key∧VR γ x.2.1 m.val∧m.born=x.2.2) (mapE ρ es) ms->All2 (fun (x:AV×AV×Nat) (m:MapEntry)=>VR γ2 x.1 m.key∧VR γ2 x.2.1 m.val∧m.born=x.2.2) es ms:=by
   intro es
   induction es with
   | nil=>intro ms _ h;cases h;exact .nil
   | cons x es ih=>
    intro ms hb h
    obtain ⟨a,b,c⟩:=x
    simp only [bdE,Bool.and_eq_true] at hb
    cases h with
    | cons h1 h2=>exact .cons ⟨VR_ren hz hl a hb.1.1 h1.1,VR_ren hz hl b hb.1.2 h1.2.1,h1.2.2⟩ (ih _ hb.2 h2)
  exact this es _ hb h2
 | loop st pend fn tm ps asg body d=>
  obtain ⟨lp,h1,h2,h3,h4,h5,h6,D,h8,h10⟩:=h
  simp only [bdO,Bool.and_eq_true] at hb
  exact ⟨lp,h1,h2,h3,fun i v hv=>(let ⟨v',a,b⟩:=h4 i v hv;⟨v',a,hid v (bdT_get hb.1 hv) b⟩),h5,h6,D,hlk d (by simpa using hb.2) D h8,h10⟩
 | defd=>exact h
 | iter m b se l=>
  obtain ⟨h0,M,h1,h2⟩:=h
  exact ⟨h0,M,hl m (by simpa [bdO] using hb) M h1,h2⟩
structure Ren (k:Nat) (ρ:Nat->Nat) (t:AT) (s:St) (ds:List Nat) (t2:AT) (s2:St) (ds2:List Nat):Prop where
 id:∀ r,r<k->ρ r=r
 le:k≤s2.next
 inj:∀ r r',r<s2.next->r'<s2.next->ρ r=ρ r'->r=r'
 tmp:∀ i v,t2.get i=some v->bd s2.next v=true∧t.get i=some (mapV ρ v)
 obj:∀ r o,s2.get r=some o->r<s2.next∧bdO k s2.next o=true∧s.get (ρ r)=some (mapO ρ o)
 ds:ds=ds2.map ρ∧∀ d ∈ ds2,d<s2.next
theorem alive_mapO (o:AObj):alive (mapO ρ o)=alive o:=by cases o <;> rfl
variable {t t2:AT}{s s2:St}{ds ds2:List Nat}
theorem Ren.sim (hR:Ren k ρ t s ds t2 s2 ds2) {γ:Gam}{w:World}{tm:Array Value}{D:List Deferred}{γ0:Gam}{s0:St}{w0:World}(h3:TR γ t tm) (h4:Sim P γ s w) (h6:DR γ ds D) (h7:Stp γ0 s0 w0 γ s w) (h8:s0.next=k) (h9:∀ r,k≤r->γ0 r=none) (h10:∀ r,r<k->∃ L,γ0 r=some L):
 ∃ γ2,TR γ2 t2 tm∧Sim P γ2 s2 w∧DR γ2 ds2 D∧Stp γ0 s0 w0 γ2 s2 w:=by
 let γ2:Gam:=⟨fun r=>if r<s2.next then γ (ρ r) else none,γ.fz⟩
 have g2:∀ r,r<s2.next->γ2 r=γ (ρ r):=fun r hr=>by show (if r<s2.next then γ (ρ r) else none)=_;rw [if_pos hr]
 have g2n:∀ r,¬ r<s2.next->γ2 r=none:=fun r hr=>by show (if r<s2.next then γ (ρ r) else none)=_;rw [if_neg hr]
 have g2s:∀ r L,γ2 r=some L->r<s2.next∧γ (ρ r)=some L:=fun r L e=>by
  by_cases hr:r<s2.next
  ·rw [g2 r hr] at e;exact ⟨hr,e⟩
  ·rw [g2n r hr] at e;cases e
 have hz:∀ b c,γ.fz b=some c->γ2.fz b=some c:=fun _ _ e=>e
 have hl:∀ r,r<s2.next->∀ L,γ (ρ r)=some L->γ2 r=some L:=fun r hr L e=>by rw [g2 r hr];exact e
 have hT:TR γ2 t2 tm:=by
  intro i v hv
  obtain ⟨hb,ht⟩:=hR.tmp i v hv
  obtain ⟨v',e1,e2⟩:=h3 i _ ht
  exact ⟨v',e1,VR_ren hz hl v hb e2⟩
 have hS:Sim P γ2 s2 w:=by
  refine ⟨?_,?_,?_,?_,?_,?_,?_⟩
  ·intro r o L ho hL
   obtain ⟨hr,hb,hs⟩:=hR.obj r o ho
   obtain ⟨_,hL⟩:=g2s r L hL
   exact objR_ren hz hl hR.id hR.le hb (h4.obj _ _ L hs hL)
  ·intro r r' o o' L L' ho ho' ha ha' hL hL' hne
   obtain ⟨hr,hb,hs⟩:=hR.obj r o ho
   obtain ⟨hr',hb',hs'⟩:=hR.obj r' o' ho'
   exact h4.inj _ _ _ _ L L' hs hs' (by rw [alive_mapO];exact ha) (by rw [alive_mapO];exact ha') (g2s r L hL).2 (g2s r' L' hL').2 (fun e=>hne (hR.inj r r' hr hr' e))
  ·intro r L hL;exact h4.lt _ L (g2s r L hL).2
  ·intro r hr;exact g2n r (by omega)
  ·intro r o ho;exact (hR.obj r o ho).1
  ·exact h4.fzc
  ·intro r o L ho ha hL
   obtain ⟨hr,hb,hs⟩:=hR.obj r o ho
   exact h4.fzr _ _ L hs (by rw [alive_mapO];exact ha) (g2s r L hL).2
 have hD:DR γ2 ds2 D:=by
  obtain ⟨e,hd⟩:=hR.ds
  rw [e] at h6
  have:∀ (l:List Nat) (D':List Deferred),(∀ d ∈ l,d<s2.next)->DR γ (l.map ρ) D'->DR γ2 l D':=by
   intro l
   induction l with
   | nil=>intro D' _ h;cases h;exact .nil
   | cons d l ih=>
    intro D' hd h
    cases h with
    | cons h1 h2=>
     obtain ⟨L,e1,e2⟩:=h1
     exact .cons ⟨L,hl d (hd d (by simp)) L e1,e2⟩ (ih _ (fun x hx=>hd x (by simp [hx])) h2)
  exact this ds2 _ hd h6
 have hlt0:∀ r L,γ0 r=some L->r<k:=fun r L e=>by
  refine Nat.lt_of_not_le fun hk=>?_
  rw [h9 r hk] at e;cases e
 have hP:Stp γ0 s0 w0 γ2 s2 w:=by
  refine ⟨⟨?_,h7.le.fz⟩,?_,by rw [h8];exact hR.le,h7.size,h7.os,h7.tape,h7.output,h7.blk,?_,h7.fzn⟩
  ·intro r L e
   have hr:=hlt0 r L e
   rw [g2 r (Nat.lt_of_lt_of_le hr hR.le),hR.id r hr]
   exact h7.le.loc r L e
  ·intro r L e e0
   obtain ⟨hr,e⟩:=g2s r L e
   by_cases hk:r<k
   ·rw [hR.id r hk] at e
    exact h7.new r L e e0
   ·refine ⟨by omega,?_⟩
    cases hq:γ0 (ρ r) with
    | none=>exact (h7.new _ L e hq).2
    | some L'=>
     have:=h7.le.loc _ L' hq
     rw [e] at this;cases this
     exact .inr ⟨_,_,hq,rfl⟩
  ·intro r e0 hr
   obtain ⟨L,hL⟩:=h10 r (by omega)
   rw [hL] at e0;cases e0
 exact ⟨γ2,hT,hS,hD,hP⟩
theorem W.ren {rd:Option Nat}{Q:Ex->AT->St->List Nat->Prop}{ac:AC}(hR:Ren k ρ t s ds t2 s2 ds2) (h:W P k rd ac t2 s2 ds2 Q):W P k rd ac t s ds Q:=by
 intro N c γ w a b γ0 s0 w0 m h1 h2 h3 h4 h5 h6 h7 h8 h9 h10
 obtain ⟨γ2,hT,hS,hD,hP⟩:=hR.sim h3 h4 h6 h7 h8 h9 h10
 exact h N c γ2 w a b γ0 s0 w0 m h1 h2 hT hS h5 hD hP h8 h9 h10
end
end Go.AM
namespace Go.AM
section
variable {P:Program}
def HasBody (P : Program) (f : Nat) : Prop := ∃ fn c, P.funcs[f]? = some fn ∧ fn.body = some c ∧ (fn.name == "runtime.NumGoroutine") = false
def C (P:Program) (f:Nat) (args:List AV) (s:St) (Q:AV->St->Prop):Prop:=
 ∀ (γ:Gam) (vals:List Value) (w:World) (m:Nat),All2 (VR γ) args vals->Sim P γ s w->CallsIn Fence.wide m P f vals.toArray w (fun e w'=>∃ v s',Q v s'∧CallPost P γ s w v s' e w')
variable {f:Nat}{args:List AV}{s:St}{Q:AV->St->Prop}
theorem C.mono {Q':AV->St->Prop}(h:C P f args s Q) (hq:∀ v s,Q v s->Q' v s):C P f args s Q':=
 fun γ vals w m h1 h2=>CallsIn.mono (h γ vals w m h1 h2) fun _ _ ⟨v,s',q,p⟩=>⟨v,s',hq _ _ q,p⟩
def Ends (res:List ARes) (Q:AV->St->Prop) (x:Ex) (t:AT) (s:St) (ds:List Nat):Prop:=
 (x=.normal∨x=.ret)∧∃ s2 l,quit ds s=some s2∧resA t s2 res=some l∧Q (one l) s2
def C1 (P:Program) (f:Nat) (args:List AV) (s:St) (Q:AV->St->Prop):Prop:=
 ∀ (γ:Gam) (vals:List Value) (w:World) (m:Nat),(∀ r,r<s.next->∃ L,γ r=some L)->All2 (VR γ) args vals->Sim P γ s w->CallsIn Fence.wide m P f vals.toArray w (fun e w'=>∃ v s',Q v s'∧CallPost P γ s w v s' e w')
variable {fn:Func}{code:AC}{res:List ARes}
theorem C1.of_W (hf:P.funcs[f]?=some fn) (hc:compF P fn=some (.mk code res))
 (h:W P s.next none code (initT args 0 .lf) s [] (Ends res Q)):C1 P f args s Q:=by
 intro γ vals w m hall hA hs
 unfold compF at hc
 split at hc
 ·rename_i b hb
  split at hc
  ·rename_i cd rs hcd hrs
   cases hc
   refine callsIn_of_wp_marks hf hb trivial ?_
   have hTR:TR γ (initT args 0 .lf) (vals.toArray++Array.replicate (fn.ntmps-vals.toArray.size) undef):=by
    refine initT_TR args vals _ 0 .lf hA (TR_lf _) ?_
    intro j u hj
    rw [Nat.zero_add,Array.getElem?_append]
    have hlt:=(List.getElem?_eq_some_iff.1 hj).1
    rw [if_pos (by simpa using hlt)]
    simpa using hj
   have hsz:fn.ntmps≤(vals.toArray++Array.replicate (fn.ntmps-vals.toArray.size) undef).size:=by simp;omega
   have hw:=h fn.ntmps b γ w { tmps:=vals.toArray++Array.replicate (fn.ntmps-vals.toArray.size) undef,defers:=[] } none γ s w m hcd hsz hTR hs rfl .nil (.refl _ _ _) rfl hs.nx hall
   refine wpIn_mono hw ?_
   rintro ex a' w' ⟨x,t',s',ds',⟨hx,s2,l,hq,hl,hQ⟩,rfl,_,γ',hst,hsim,ht,hd⟩
   have fin:LeavesInM Fence.wide m P fn a'.tmps (fun e w'=>∃ v s',Q v s'∧CallPost P γ s w v s' e w') a'.defers .returning w':=by
    exact leaves_sound (s2:=s2) hrs (fun e w' hp=>⟨_,_,hQ,hp⟩) m ds' a'.defers s' w' hd hq hsim hst ht hl
   rcases hx with rfl|rfl
   ·exact fin
   ·exact fin
  ·cases hc
 ·cases hc
theorem C.of_W (hf:P.funcs[f]?=some fn) (hc:compF P fn=some (.mk code res))
 (h:W P 0 none code (initT args 0 .lf) (.mk 0 .lf) [] (Ends res Q)):C P f args (.mk 0 .lf) Q:=
 fun γ vals w m hA hs=>C1.of_W (s:=.mk 0 .lf) hf hc h γ vals w m (fun r hr=>absurd hr (Nat.not_lt_zero r)) hA hs
end
end Go.AM
namespace Go.AM
section
variable {P:Program}{γ γ2:Gam}{σ:Nat->Nat}
mutual
theorem VR_map (hz:∀ b c,γ.fz b=some c->γ2.fz b=some c) (hl:∀ r L,γ r=some L->γ2 (σ r)=some L):∀ (v:AV) {v':Value},VR γ v v'->VR γ2 (mapV σ v) v'
 | .bool b,_,h=>by cases h;exact .bool _
 | .int k n,_,h=>by cases h;exact .int _ _
 | .str l,_,h=>by cases h;rename_i s e;exact .str _ s e
 | .ptr r o,_,h=>by
  cases h with
  | ptr _ _ L e=>exact .ptr _ o L (hl r L e)
 | .nilp,_,h=>by cases h;exact .nilp
 | .sl r o m c,_,h=>by
  cases h with
  | sl _ _ _ c L e a=>exact .sl _ o m c L (hl r L e) a
  | slu _ _ _ c L e a b d=>exact .slu _ o m c L (hl r L e) a b d
 | .nils,_,h=>by cases h;exact .nils
 | .es,_,h=>by cases h;exact .es _ _
 | .ez,_,h=>by cases h;exact .ez _
 | .map r,_,h=>by
  cases h with
  | map _ L e=>exact .map _ L (hl r L e)
 | .nilm,_,h=>by cases h;exact .nilm
 | .fn f xs ys,_,h=>by
  cases h with
  | fn _ _ _ as bs a b=>exact .fn f _ _ as bs (VR_maps hz hl xs a) (VR_maps hz hl ys b)
 | .yld l,_,h=>by
  cases h with
  | yld _ L e=>exact .yld _ L (hl l L e)
 | .nilf,_,h=>by cases h;exact .nilf
 | .iface t v,_,h=>by
  cases h with
  | iface _ _ v' e=>exact .iface t _ v' (VR_map hz hl v e)
 | .nili,_,h=>by cases h;exact .nili
 | .agg l,_,h=>by
  cases h with
  | agg _ a e o=>exact .agg _ a (VR_maps hz hl l e) o
 | .tup l,_,h=>by
  cases h with
  | tup _ a e=>exact .tup _ a (VR_maps hz hl l e)
 | .any,_,h=>by cases h;rename_i e;exact .any _ e
 | .fz m c l,_,h=>VR_hf hz (.fz m c l) rfl h
 | .fp l,_,h=>VR_hf hz (.fp l) rfl h
theorem VR_maps (hz:∀ b c,γ.fz b=some c->γ2.fz b=some c) (hl:∀ r L,γ r=some L->γ2 (σ r)=some L):∀ (l:List AV) {m:List Value},All2 (VR γ) l m->All2 (VR γ2) (mapVs σ l) m
 | [],_,h=>by cases h;exact .nil
 | v::l,_,h=>by
  cases h with
  | cons a b=>exact .cons (VR_map hz hl v a) (VR_maps hz hl l b)
end
theorem mapVs_back:∀ {l:List AV}{i:Nat}{v:AV},(mapVs σ l)[i]?=some v->∃ u,l[i]?=some u∧v=mapV σ u
 | [],i,v,h=>by simp [mapVs] at h
 | x::l,i,v,h=>by
  simp only [mapVs] at h
  cases i with
  | zero=>simp at h;exact ⟨x,by simp,h.symm⟩
  | succ i=>simpa using mapVs_back (l:=l) (by simpa using h)
def plainO:AObj->Bool
 | .loop ..=>false
 | _=>true
theorem objR_map (hz:∀ b c,γ.fz b=some c->γ2.fz b=some c) (hl:∀ r L,γ r=some L->γ2 (σ r)=some L) {L:Loc}{o:AObj}{hp:Array Obj}(hb:plainO o=true) (h:ObjR P γ L o hp):ObjR P γ2 L (mapO σ o) hp:=by
 cases o with
 | row e cs=>
  obtain ⟨c,h1,h2,h3,h4,h5,h6,h7⟩:=h
  refine ⟨c,h1,h2,h3,h4,by rw [mapVs_length];exact h5,fun i v hv=>?_,h7⟩
  obtain ⟨u,hu,rfl⟩:=mapVs_back hv
  obtain ⟨v',a,b,d⟩:=h6 i u hu
  exact ⟨v',a,VR_map hz hl u b,d⟩
 | dead=>trivial
 | map es clock=>
  obtain ⟨ms,h1,h2⟩:=h
  refine ⟨ms,h1,?_⟩
  have:∀ (es:List (AV×AV×Nat)) (ms:List MapEntry),All2 (fun (x:AV×AV×Nat) (m:MapEntry)=>VR γ x.1 m.key∧VR γ x.2.1 m.val∧m.born=x.2.2) es ms->All2 (fun (x:AV×AV×Nat) (m:MapEntry)=>VR γ2 x.1 m.key∧VR γ2 x.2.1 m.val∧m.born=x.2.2) (mapE σ es) ms:=by
   intro es
   induction es with
   | nil=>intro ms h;cases h;exact .nil
   | cons x es ih=>
    intro ms h
    obtain ⟨a,b,c⟩:=x
    cases h with
    | cons h1 h2=>exact .cons ⟨VR_map hz hl a h1.1,VR_map hz hl b h1.2.1,h1.2.2⟩ (ih _ h2)
  exact this es _ h2
 | loop st pend fn tm ps asg body d=>cases hb
 | defd=>exact h
 | iter m b se l=>obtain ⟨h0,M,h1,h2⟩:=h;exact ⟨h0,M,hl m M h1,h2⟩
noncomputable def allocs (s:St):List AObj->St
 | []=>s
 | o::l=>allocs (s.alloc o) l
theorem allocs_next:∀ (l:List AObj) (s:St),(allocs s l).next=s.next+l.length
 | [],s=>rfl
 | o::l,s=>by rw [allocs,allocs_next l,St.next_alloc,List.length_cons];omega
theorem allocs_lt:∀ (l:List AObj) (s:St) {r:Nat},r<s.next->(allocs s l).get r=s.get r
 | [],s,r,_=>rfl
 | o::l,s,r,h=>by rw [allocs,allocs_lt l _ (by rw [St.next_alloc];omega),St.get_alloc_ne (by omega)]
theorem allocs_ge:∀ (l:List AObj) (s:St) {r:Nat}{o:AObj},s.next≤r->(∀ r,s.next≤r->s.get r=none)->(allocs s l).get r=some o->l[r-s.next]?=some o
 | [],s,r,o,h,hn,hg=>by
  have e:s.get r=some o:=hg
  rw [hn r h] at e;cases e
 | x::l,s,r,o,h,hn,hg=>by
  rw [allocs] at hg
  by_cases e:r=s.next
  ·subst e
   rw [allocs_lt l _ (by rw [St.next_alloc];omega)] at hg
   rcases St.get_alloc hg with ⟨_,rfl⟩|⟨e,_⟩
   ·simp
   ·exact absurd rfl e
  ·have:=allocs_ge l (s.alloc x) (r:=r) (by rw [St.next_alloc];omega) (fun r hr=>by rw [St.next_alloc] at hr;rw [St.get_alloc_ne (by omega)];exact hn r (by omega)) hg
   rw [St.next_alloc] at this
   rw [show r-s.next=(r-(s.next+1))+1 by omega]
   simpa using this
abbrev St0:St:=.mk 0 .lf
theorem sim0 {w:World}{φ:Nat->Option (Array Value)}(h:∀ b c,φ b=some c->∃ e fr,w.heap[b]?=some (.cells c e fr)):Sim P ⟨fun _=>none,φ⟩ St0 w:=
 ⟨fun r o L h=>(by cases h),fun r r' o o' L L' h=>(by cases h),fun r L h=>(by cases h),fun r _=>rfl,fun r o h=>(by cases h),h,fun r o L h=>(by cases h)⟩
theorem C.frame {f:Nat}{args:List AV}{u:AV}{l:List AObj}(ha:hfs args=true) (hl:∀ o ∈ l,plainO o=true) (hlen:0<l.length∨l=[])
 (h:C P f args St0 (fun v s'=>v=u∧s'=allocs St0 l)) (hall:∀ i o,l[i]?=some o->(allocs St0 l).get i=some o) (s:St):C P f args s (fun v s'=>v=mapV (·+s.next) u∧s'=allocs s (l.map (mapO (·+s.next)))):=by
 intro γ vals w m hA hs
 have hA':=VR_hfs (γ:=γ) (γ2:=⟨fun _=>none,γ.fz⟩) (fun _ _ e=>e) args ha hA
 refine CallsIn.mono (h ⟨fun _=>none,γ.fz⟩ vals w m hA' (sim0 hs.fzc)) ?_
 rintro e w' ⟨v,s',⟨rfl,rfl⟩,v',γ',rfl,hst,hsim,hv⟩
 refine ⟨_,_,⟨rfl,rfl⟩,v',⟨fun r=>if r<s.next then γ r else γ' (r-s.next),γ'.fz⟩,rfl,?_,?_,?_⟩
 rotate_right
 ·refine VR_map (γ:=γ') (γ2:=⟨fun r=>if r<s.next then γ r else γ' (r-s.next),γ'.fz⟩) (fun _ _ e=>e) (fun r L e=>?_) v hv
  show (if r+s.next<s.next then γ (r+s.next) else γ' (r+s.next-s.next))=some L
  rw [if_neg (by omega),Nat.add_sub_cancel];exact e
 all_goals
  have g1:∀ r,r<s.next->(⟨fun r=>if r<s.next then γ r else γ' (r-s.next),γ'.fz⟩:Gam) r=γ r:=fun r hr=>if_pos hr
  have g2:∀ r,¬ r<s.next->(⟨fun r=>if r<s.next then γ r else γ' (r-s.next),γ'.fz⟩:Gam) r=γ' (r-s.next):=fun r hr=>if_neg hr
  have glt:∀ r L,γ r=some L->r<s.next:=fun r L e=>Nat.lt_of_not_le fun hle=>by rw [hs.nx r hle] at e;cases e
  have hnew:∀ r L,γ' r=some L->w.heap.size≤L.b:=fun r L e=>by
   rcases (hst.new r L e rfl).2 with h|⟨_,_,h,_⟩
   ·exact h
   ·cases h
  have hblk:∀ b,b<w.heap.size->w'.heap[b]?=w.heap[b]?:=fun b hb=>hst.blk b hb (fun r L e=>by cases e)
  have hle:Le γ ⟨fun r=>if r<s.next then γ r else γ' (r-s.next),γ'.fz⟩:=⟨fun r L e=>(g1 r (glt r L e)).trans e,fun b c e=>hst.le.fz b c e⟩
 ·refine ⟨hle,?_,by rw [allocs_next];omega,hst.size,hst.os,hst.tape,hst.output,fun b hb _=>hblk b hb,fun r _ hr=>allocs_lt _ _ hr,fun b c e e0=>hst.fzn b c e e0⟩
  intro r L e e0
  by_cases hr:r<s.next
  ·rw [g1 r hr,e0] at e;cases e
  ·rw [g2 r hr] at e;exact ⟨by omega,.inl (hnew _ L e)⟩
 ·have hnone:∀ r,s.next≤r->s.get r=none:=fun r hr=>by
   cases hg:s.get r with
   | none=>rfl
   | some o=>exact absurd (hs.dom r o hg) (by omega)
  have back:∀ r o,(allocs s (l.map (mapO (·+s.next)))).get r=some o->(r<s.next∧s.get r=some o)∨(s.next≤r∧∃ o',l[r-s.next]?=some o'∧o=mapO (·+s.next) o'):=by
   intro r o hg
   by_cases hr:r<s.next
   ·rw [allocs_lt _ _ hr] at hg;exact .inl ⟨hr,hg⟩
   ·have:=allocs_ge _ s (by omega) hnone hg
    rw [List.getElem?_map] at this
    cases hl':l[r-s.next]? with
    | none=>rw [hl'] at this;cases this
    | some o'=>rw [hl'] at this;exact .inr ⟨by omega,o',rfl,(Option.some.inj this).symm⟩
  refine ⟨?_,?_,?_,?_,?_,hsim.fzc,?_⟩
  ·intro r o L ho hL
   rcases back r o ho with ⟨hr,hg⟩|⟨hr,o',hg,rfl⟩
   ·rw [g1 r hr] at hL
    exact ((hs.obj r o L hg hL).mono hle).heap (hblk _ (hs.lt r L hL))
   ·rw [g2 r (by omega)] at hL
    refine objR_map (γ:=γ') (γ2:=⟨fun r=>if r<s.next then γ r else γ' (r-s.next),γ'.fz⟩) (fun _ _ e=>e) (fun q M e=>?_) (hl o' (List.mem_of_getElem? hg)) (hsim.obj _ _ L (hall _ _ hg) hL)
    show (if q+s.next<s.next then γ (q+s.next) else γ' (q+s.next-s.next))=some M
    rw [if_neg (by omega),Nat.add_sub_cancel];exact e
  ·intro r r' o o' L L' ho ho' ha1 ha2 hL hL' hne
   rcases back r o ho with ⟨hr,hg⟩|⟨hr,p,hg,rfl⟩ <;> rcases back r' o' ho' with ⟨hr',hg'⟩|⟨hr',p',hg',rfl⟩
   ·rw [g1 r hr] at hL;rw [g1 r' hr'] at hL'
    exact hs.inj r r' o o' L L' hg hg' ha1 ha2 hL hL' hne
   ·rw [g1 r hr] at hL;rw [g2 r' (by omega)] at hL'
    have:=hs.lt r L hL;have:=hnew _ L' hL';omega
   ·rw [g2 r (by omega)] at hL;rw [g1 r' hr'] at hL'
    have:=hs.lt r' L' hL';have:=hnew _ L hL;omega
   ·rw [g2 r (by omega)] at hL;rw [g2 r' (by omega)] at hL'
    rw [alive_mapO] at ha1 ha2
    exact hsim.inj _ _ p p' L L' (hall _ _ hg) (hall _ _ hg') ha1 ha2 hL hL' (by omega)
  ·intro r L hL
   by_cases hr:r<s.next
   ·rw [g1 r hr] at hL;have:=hs.lt r L hL;have:=hst.size;omega
   ·rw [g2 r hr] at hL;exact hsim.lt _ L hL
  ·intro r hr
   rw [allocs_next,List.length_map] at hr
   rw [g2 r (by omega)]
   refine hsim.nx _ ?_
   rw [allocs_next]
   show 0+l.length≤_
   omega
  ·intro r o ho
   rw [allocs_next,List.length_map]
   rcases back r o ho with ⟨hr,hg⟩|⟨hr,p,hg,rfl⟩
   ·omega
   ·have:=(List.getElem?_eq_some_iff.1 hg).1;omega
  ·intro r o L ho ha1 hL
   rcases back r o ho with ⟨hr,hg⟩|⟨hr,p,hg,rfl⟩
   ·rw [g1 r hr] at hL
    have h0:=hs.fzr r o L hg ha1 hL
    show γ'.fz L.b=none
    cases hc:γ'.fz L.b with
    | none=>rfl
    | some c=>exact absurd (hst.fzn L.b c hc h0) (by have:=hs.lt r L hL;omega)
   ·rw [g2 r (by omega)] at hL
    rw [alive_mapO] at ha1
    exact hsim.fzr _ p L (hall _ _ hg) ha1 hL
end
end Go.AM
namespace Go.AM
section
variable {P:Program}
inductive Frz (s:St):AV->AV->Prop
 | plain (v:AV):hf v=true->Frz s v v
 | sl (r o n:Nat) (cap cap':Option Nat) (e:Nat) (cs l us:List AV):s.get r=some (.row e cs)->(∀ (i:Nat) x,l[i]?=some x->cs[o+i]?=some x)->All2 (Frz s) l us->(cap'=none∨cap'=cap)->Frz s (.sl r o n cap) (.fz n cap' us)
 | ptr (r o:Nat) (e:Nat) (cs l us:List AV):s.get r=some (.row e cs)->(∀ (i:Nat) x,l[i]?=some x->cs[o+i]?=some x)->All2 (Frz s) l us->Frz s (.ptr r o) (.fp us)
 | agg (l us:List AV):All2 (Frz s) l us->Frz s (.agg l) (.agg us)
 | tup (l us:List AV):All2 (Frz s) l us->Frz s (.tup l) (.tup us)
 | fn (f:Nat) (xs ys us ws:List AV):All2 (Frz s) xs us->All2 (Frz s) ys ws->Frz s (.fn f xs ys) (.fn f us ws)
mutual
variable {s:St}
theorem Frz.hf:∀ {v u:AV},Frz s v u->hf u=true
 | _,_,.plain v h=>h
 | _,_,.sl ..=>rfl
 | _,_,.ptr ..=>rfl
 | _,_,.agg l us h=>Frz.hfs h
 | _,_,.tup l us h=>Frz.hfs h
 | _,_,.fn f xs ys us ws h1 h2=>by
  simp only [AM.hf,Bool.and_eq_true]
  exact ⟨Frz.hfs h1,Frz.hfs h2⟩
theorem Frz.hfs:∀ {l us:List AV},All2 (Frz s) l us->hfs us=true
 | _,_,.nil=>rfl
 | _,_,.cons a b=>by
  simp only [AM.hfs,Bool.and_eq_true]
  exact ⟨Frz.hf a,Frz.hfs b⟩
end
variable {γ γ2:Gam}{s:St}{w:World}
mutual
theorem Frz.VR (hs:Sim P γ s w) (hz:∀ b c,γ.fz b=some c->γ2.fz b=some c) (hr:∀ r e cs L c,s.get r=some (.row e cs)->γ r=some L->w.heap[L.b]?=some (.cells c e (0,0))->γ2.fz L.b=some c):
 ∀ {v u:AV}{v':Value},Frz s v u->VR γ v v'->VR γ2 u v'
 | _,_,_,.plain v h,hv=>VR_hf hz v h hv
 | _,_,_,.sl r o n cap cap' e cs l us h1 h2 h3 h4,hv=>by
  obtain ⟨L,cc,hL,hval,hck⟩:=slV hv
  obtain ⟨c,e1,e2,e3,e4,e5,e6⟩:=hs.row h1 hL
  have hnc:n≤cc:=by
   cases hv with
   | sl _ _ _ c' L' e a=>injection hval with _ _ q;omega
   | slu _ _ _ c' L' e a b d=>injection hval with _ _ q;omega
  rw [hval,e2,Nat.zero_add]
  have hz2:=hr r e cs L c h1 hL e1
  -- the values
  have hx:∀ (l us:List AV) (k:Nat),(∀ (i:Nat) x,l[i]?=some x->cs[k+i]?=some x)->All2 (Frz s) l us->∃ vs:List Value,(∀ (j:Nat) (u:Value),vs[j]?=some u->c[k+j]?=some u)∧(∀ u ∈ vs,u.oneCell'=true)∧All2 (AM.VR γ) l vs:=by
   intro l
   induction l with
   | nil=>intro us k _ _;exact ⟨[],by simp,by simp,.nil⟩
   | cons x l ih=>
    intro us k hl h
    cases h with
    | cons ha hb=>
     obtain ⟨vs,q1,q2,q3⟩:=ih _ (k+1) (fun i y hy=>by rw [Nat.add_assoc,Nat.add_comm 1 i];exact hl (i+1) y (by simpa using hy)) hb
     obtain ⟨v',p1,p2,p3⟩:=e6 k x (by simpa using hl 0 x (by simp))
     refine ⟨v'::vs,?_,?_,.cons p2 q3⟩
     ·intro j u hj
      cases j with
      | zero=>simp at hj;subst hj;simpa using p1
      | succ j=>rw [show k+(j+1)=k+1+j by omega];exact q1 j u (by simpa using hj)
     ·intro u hu
      rcases List.mem_cons.1 hu with rfl|hu
      ·exact p3
      ·exact q2 u hu
  obtain ⟨vs,q1,q2,q3⟩:=hx l us o h2 h3
  refine .fz n cap' us vs L.b o cc c hz2 q1 q2 (Frz.VRs hs hz hr h3 q3) hnc ?_ (Frz.hfs h3)
  intro k hk
  rcases h4 with h4|h4
  ·rw [h4] at hk;cases hk
  ·rw [h4] at hk;exact hck k hk
 | _,_,_,.ptr r o e cs l us h1 h2 h3,hv=>by
  cases hv with
  | ptr _ _ L hL=>
   obtain ⟨c,e1,e2,e3,e4,e5,e6⟩:=hs.row h1 hL
   rw [e2,Nat.zero_add]
   have hz2:=hr r e cs L c h1 hL e1
   -- the values
   have hx:∀ (l us:List AV) (k:Nat),(∀ (i:Nat) x,l[i]?=some x->cs[k+i]?=some x)->All2 (Frz s) l us->∃ vs:List Value,(∀ (j:Nat) (u:Value),vs[j]?=some u->c[k+j]?=some u)∧(∀ u ∈ vs,u.oneCell'=true)∧All2 (AM.VR γ) l vs:=by
    intro l
    induction l with
    | nil=>intro us k _ _;exact ⟨[],by simp,by simp,.nil⟩
    | cons x l ih=>
     intro us k hl h
     cases h with
     | cons ha hb=>
      obtain ⟨vs,q1,q2,q3⟩:=ih _ (k+1) (fun i y hy=>by rw [Nat.add_assoc,Nat.add_comm 1 i];exact hl (i+1) y (by simpa using hy)) hb
      obtain ⟨v',p1,p2,p3⟩:=e6 k x (by simpa using hl 0 x (by simp))
      refine ⟨v'::vs,?_,?_,.cons p2 q3⟩
      ·intro j u hj
       cases j with
       | zero=>simp at hj;subst hj;simpa using p1
       | succ j=>rw [show k+(j+1)=k+1+j by omega];exact q1 j u (by simpa using hj)
      ·intro u hu
       rcases List.mem_cons.1 hu with rfl|hu
       ·exact p3
       ·exact q2 u hu
   obtain ⟨vs,q1,q2,q3⟩:=hx l us o h2 h3
   exact .fp us vs L.b o c hz2 q1 q2 (Frz.VRs hs hz hr h3 q3) (Frz.hfs h3)
 | _,_,_,.agg l us h,hv=>by
  cases hv with
  | agg _ a e o=>exact .agg us a (Frz.VRs hs hz hr h e) o
 | _,_,_,.tup l us h,hv=>by
  cases hv with
  | tup _ a e=>exact .tup us a (Frz.VRs hs hz hr h e)
 | _,_,_,.fn f xs ys us ws h1 h2,hv=>by
  cases hv with
  | fn _ _ _ as bs a b=>exact .fn f us ws as bs (Frz.VRs hs hz hr h1 a) (Frz.VRs hs hz hr h2 b)
theorem Frz.VRs (hs:Sim P γ s w) (hz:∀ b c,γ.fz b=some c->γ2.fz b=some c) (hr:∀ r e cs L c,s.get r=some (.row e cs)->γ r=some L->w.heap[L.b]?=some (.cells c e (0,0))->γ2.fz L.b=some c):
 ∀ {l us:List AV}{m:List Value},All2 (Frz s) l us->All2 (AM.VR γ) l m->All2 (AM.VR γ2) us m
 | _,_,_,.nil,hv=>by cases hv;exact .nil
 | _,_,_,.cons a b,hv=>by
  cases hv with
  | cons p q=>exact .cons (Frz.VR hs hz hr a p) (Frz.VRs hs hz hr b q)
end
variable {f:Nat}{args:List AV}{u:AV}
theorem C.freeze (ha:hfs args=true) (h:C P f args St0 (fun v s'=>Frz s' v u)):C P f args St0 (fun v s'=>v=u∧s'=allocs St0 []):=by
 intro γ vals w m hA hs
 have hA':=VR_hfs (γ:=γ) (γ2:=⟨fun _=>none,γ.fz⟩) (fun _ _ e=>e) args ha hA
 refine CallsIn.mono (h ⟨fun _=>none,γ.fz⟩ vals w m hA' (sim0 hs.fzc)) ?_
 rintro e w' ⟨v,s',hF,v',γ',rfl,hst,hsim,hv⟩
 let γ2:Gam:=⟨γ,fun b=>match γ'.fz b with
  | some c=>some c
  | none=>if w.heap.size≤b then (match w'.heap[b]? with|some (.cells c _ _)=>some c|_=>none) else none⟩
 have hz:∀ b c,γ'.fz b=some c->γ2.fz b=some c:=fun b c e=>by
  show (match γ'.fz b with|some c=>some c|none=>_)=some c
  rw [e]
 have hnew:∀ r L,γ' r=some L->w.heap.size≤L.b:=fun r L e=>by
  rcases (hst.new r L e rfl).2 with h|⟨_,_,h,_⟩
  ·exact h
  ·cases h
 have hfz2:∀ b c,γ2.fz b=some c->γ'.fz b=some c∨(γ'.fz b=none∧w.heap.size≤b∧∃ e fr,w'.heap[b]?=some (.cells c e fr)):=by
  intro b c e
  have e:(match γ'.fz b with
   | some c=>some c
   | none=>if w.heap.size≤b then (match w'.heap[b]? with|some (.cells c _ _)=>some c|_=>none) else none)=some c:=e
  cases h1:γ'.fz b with
  | some c'=>rw [h1] at e;exact .inl e
  | none=>
   rw [h1] at e
   simp only at e
   split at e
   ·rename_i hle
    split at e
    ·rename_i c' t fr hc;cases e;exact .inr ⟨rfl,hle,t,fr,hc⟩
    ·cases e
   ·cases e
 refine ⟨u,St0,⟨rfl,rfl⟩,v',γ2,rfl,?_,?_,?_⟩
 ·refine ⟨⟨fun r L e=>e,fun b c e=>hz b c (hst.le.fz b c e)⟩,fun r L e e0=>?_,Nat.le_refl _,hst.size,hst.os,hst.tape,hst.output,fun b hb _=>hst.blk b hb (fun r L e=>by cases e),fun _ _ _=>rfl,fun b c e e0=>?_⟩
  ·have e':γ r=some L:=e
   rw [e0] at e';cases e'
  ·rcases hfz2 b c e with h|⟨_,h,_⟩
   ·exact hst.fzn b c h e0
   ·exact h
 ·refine ⟨fun r o L h=>(by cases h),fun r r' o o' L L' h=>(by cases h),fun r L e=>?_,fun r hr=>hs.nx r hr,fun r o h=>(by cases h),fun b c e=>?_,fun r o L h=>(by cases h)⟩
  ·exact Nat.lt_of_lt_of_le (hs.lt r L e) hst.size
  ·rcases hfz2 b c e with h|⟨_,_,h⟩
   ·exact hsim.fzc b c h
   ·exact h
 ·refine Frz.VR hsim hz ?_ hF hv
  intro r e cs L c h1 hL hc
  show (match γ'.fz L.b with
   | some c=>some c
   | none=>if w.heap.size≤L.b then (match w'.heap[L.b]? with|some (.cells c _ _)=>some c|_=>none) else none)=some c
  cases h2:γ'.fz L.b with
  | some c'=>
   obtain ⟨e',fr',hc'⟩:=hsim.fzc L.b c' h2
   rw [hc] at hc';cases hc';rfl
  | none=>simp only;rw [if_pos (hnew r L hL),hc]
theorem C.pure (ha:hfs args=true) (hu:hf u=true) (h:C P f args St0 (fun v s'=>Frz s' v u)) (s:St):C P f args s (fun v s'=>v=u∧s'=s):=by
 refine (C.frame (l:=[]) ha (by simp) (.inr rfl) (C.freeze ha h) (fun i o h=>by simp at h) s).mono ?_
 rintro v s' ⟨rfl,rfl⟩
 exact ⟨hf_mapV u hu,rfl⟩
def OvOk (P:Program) (f:Nat) (h:Ov):Prop:=HasBody P f∧∀ args s v s',h args s=.ok v s'->C P f args s (fun v' s''=>v'=v∧s''=s')
theorem OvOk.env {h : Ov} (hO : OvOk P f h) : (∃ fn c, P.funcs[f]? = some fn ∧ fn.body = some c ∧ (fn.name == "runtime.NumGoroutine") = false) ∧
 ∀ γ args vals s w v s',All2 (VR γ) args vals->Sim P γ s w->h args s=.ok v s'->∀ m,CallsIn Fence.wide m P f vals.toArray w (CallPost P γ s w v s'):=by
 refine ⟨hO.1,fun γ args vals s w v s' hA hs he m=>?_⟩
 refine CallsIn.mono (hO.2 args s v s' he γ vals w m hA hs) ?_
 rintro e w' ⟨v1,s1,⟨rfl,rfl⟩,hp⟩
 exact hp
end
end Go.AM
namespace Go.AM
def wV (x:OV) (k:AV->Prop):Prop:=OV.rec False k x
def wO {α:Type}(x:Option α) (k:α->Prop):Prop:=Option.rec False k x
def wB (b:Bool) (y z:Prop):Prop:=Bool.rec z y b
def wC (v:AV) (y z:Prop):Prop:=BR.rec False y z (asBool v)
def wP (v:AV) (k:Nat->Nat->Prop) (kf:List AV->Prop):Prop:=PR.rec False k kf (asPtr v)
def EPrim (p:AOp) (t:AT) (s:St) (k:AV->St->Prop):Prop:=∀ e rec,∃ v s',opA p e rec t s=.ok v s'∧k v s'
def EHead (l:List AV) (k:AV->Prop):Prop:=∃ v,getL l 0=some v∧k v
def ETake (n:Nat) (l:List AV) (k:List AV->Prop):Prop:=∃ cs,takeL n l=some cs∧k cs
def ECall (e:Env) (f:Nat) (vs:List AV) (s:St) (k:AV->St->Prop):Prop:=∃ n v s',callA e (exec e n) f vs s=.ok v s'∧k v s'
def ERound (e:Env) (l:Nat) (vs:List AV) (s:St) (k:AV->St->Prop):Prop:=∃ n v s',roundA (exec e n) l vs s=.ok v s'∧k v s'
def EExec (e:Env) (c:AC) (t:AT) (s:St) (rd:Option Nat) (ds:List Nat) (Q:Ex->AT->St->List Nat->Prop):Prop:=∃ n x t' s' ds',exec e n c t s rd ds=.ok x t' s' ds'∧Q x t' s' ds'
def ESc (e:Env) (f:Nat) (vs:List AV) (s:St) (k:AV->St->Prop):Prop:=Option.rec (ECall e f vs s k) (fun h=>RV.rec False k (h vs s)) (e.X.get f)
def EApply (e:Env) (f:AV) (vs:List AV) (s:St) (k:AV->St->Prop):Prop:=
 FR.rec False (fun f xs ys=>ECall e f (appL xs (appL vs ys)) s k) (fun l=>ERound e l vs s k) (asFn f)
def EOp (e:Env) (p:AOp) (t:AT) (s:St) (k:AV->St->Prop):Prop:=match p with
 | .mv x=>wV (ev x t) fun v=>k v s
 | .pick c a b=>wV (ev c t) fun c=>wC c (wV (ev a t) fun v=>k v s) (wV (ev b t) fun v=>k v s)
 | .new el _ z=>k (.ptr s.next 0) (s.alloc (.row el z))
 | .box el n x=>wV (ev x t) fun v=>wB (Nat.beq (lenL (cellsOf v)) n) (k (.ptr s.next 0) (s.alloc (.row el (cellsOf v)))) False
 | .build z ps=>wO (fill t ps z) fun cs=>k (.agg cs) s
 | .bsl el _ n z ps=>wO (fill t ps z) fun cs=>k (.sl s.next 0 n (some n)) (s.alloc (.row el cs))
 | .ld1 x=>wV (ev x t) fun v=>wP v (fun r o=>wO (load1 r o s) fun u=>k u s) (fun l=>EHead l fun u=>k u s)
 | .ldn n x=>wV (ev x t) fun v=>wP v (fun r o=>wO (load r o n s) fun cs=>k (.agg cs) s) (fun l=>ETake n l fun cs=>k (.agg cs) s)
 | .st n a x=>wV (ev a t) fun p=>wV (ev x t) fun v=>wP p (fun r o=>wB (Nat.beq (lenL (cellsOf v)) n) (wO (storeAt r o (cellsOf v) s) fun s'=>k (.tup []) s') False) (fun _=>False)
 | .nilck x=>wV (ev x t) fun v=>wB (isNilV v) False (k v s)
 | .mkfn f a b=>wO (evs t a) fun x=>wO (evs t b) fun y=>k (.fn f x y) s
 | .fa off x=>wV (ev x t) fun v=>wP v (fun r o=>k (.ptr r (Nat.add o off)) s) (fun l=>k (.fp (dropL off l)) s)
 | .fld1 off x=>wV (ev x t) fun v=>LR.rec False (fun l=>wO (getL l off) fun u=>k u s) (asAgg v)
 | .fldn off n x=>wV (ev x t) fun v=>LR.rec False (fun l=>wO (takeL n (dropL off l)) fun cs=>k (.agg cs) s) (asAgg v)
 | .ext x i=>wV (ev x t) fun v=>LR.rec False (fun l=>wO (getL l i) fun u=>k u s) (asTup v)
 | .alen n=>k (intN n) s
 | .mkmap=>k (.map s.next) (s.alloc (.map [] 0))
 | .call f args=>wV (ev f t) fun fv=>wO (evs t args) fun vs=>EApply e fv vs s k
 | .scall f args=>wO (evs t args) fun vs=>ESc e f vs s k
 | p=>EPrim p t s k
def EGrd (g:Option (Nat×Bool)) (t:AT) (y z:Prop):Prop:=
 Option.rec y (fun p=>wO (t.get p.1) fun v=>BR.rec (wB (isAny v) False z) (wB p.2 y z) (wB p.2 z y) (asBool v)) g
def EOps (e:Env) (l:List AOper):AT->St->(AT->St->Prop)->Prop:=
 List.rec (motive:=fun _=>AT->St->(AT->St->Prop)->Prop) (fun t s K=>K t s)
  (fun o _ ih t s K=>AOper.rec (fun d p g=>EGrd g t (EOp e p t s fun v s'=>ih (putT d v t) s' K) (ih (putT d (.tup []) t) s K))
    (fun d p g=>EGrd g t (EOp e p t s fun v _=>wO (t.get d) fun v0=>v=v0∧ih t s K) (ih t s K)) o) l
abbrev EQ:=Ex->AT->St->List Nat->Prop
def Bhd (K:AT->St->List Nat->Prop) (Q:EQ):EQ:=fun x t s ds=>Ex.rec (K t s ds) (fun id=>Q (.exit id) t s ds) (Q .ret t s ds) x
def Blk (id:Nat) (Q:EQ):EQ:=fun x t s ds=>Ex.rec (Q .normal t s ds) (fun id'=>wB (Nat.beq id id') (Q .normal t s ds) (Q (.exit id') t s ds)) (Q .ret t s ds) x
abbrev EC:=AT->St->Option Nat->List Nat->EQ->Prop
def VE (e:Env) (c:AC):EC:=AC.rec (motive:=fun _=>EC) (fun t s _ ds Q=>Q .normal t s ds) (fun ops t s _ ds Q=>EOps e ops t s fun t' s'=>Q .normal t' s' ds)
 (fun _ _ ia ib t s rd ds Q=>ia t s rd ds (Bhd (fun t s ds=>ib t s rd ds Q) Q))
 (fun x _ _ ia ib t s rd ds Q=>wV (ev x t) fun v=>wC v (ia t s rd ds Q) (ib t s rd ds Q))
 (fun id _ ia t s rd ds Q=>ia t s rd ds (Blk id Q))
 (fun a _ t s rd ds Q=>EExec e (.loop a) t s rd ds Q) (fun g ps a b _ _ t s rd ds Q=>EExec e (.rng g ps a b) t s rd ds Q)
 (fun id t s _ ds Q=>Q (.exit id) t s ds) (fun t s _ ds Q=>Q .ret t s ds) (fun _ ia t s rd ds Q=>ia t s rd ds Q) (fun t s _ ds Q=>Q .normal t s ds) c
def VW (P:Program) (e:Env) (k:Nat) (c:AC):EC:=AC.rec (motive:=fun _=>EC) (fun t s _ ds Q=>Q .normal t s ds) (fun ops t s _ ds Q=>EOps e ops t s fun t' s'=>Q .normal t' s' ds)
 (fun _ _ ia ib t s rd ds Q=>ia t s rd ds (Bhd (fun t s ds=>ib t s rd ds Q) Q))
 (fun x _ _ ia ib t s rd ds Q=>wV (ev x t) fun v=>wC v (ia t s rd ds Q) (ib t s rd ds Q))
 (fun id _ ia t s rd ds Q=>ia t s rd ds (Blk id Q))
 (fun a _ t s rd ds Q=>W P k rd (.loop a) t s ds Q) (fun g ps a b _ _ t s rd ds Q=>W P k rd (.rng g ps a b) t s ds Q)
 (fun id t s _ ds Q=>Q (.exit id) t s ds) (fun t s _ ds Q=>Q .ret t s ds) (fun _ ia t s rd ds Q=>ia t s rd ds Q) (fun t s _ ds Q=>Q .normal t s ds) c
def EEnd (res:List ARes) (k:AV->St->Prop):EQ:=fun x t s ds=>
 Ex.rec (wO (quit ds s) fun s2=>wO (resA t s2 res) fun l=>k (one l) s2) (fun _=>False) (wO (quit ds s) fun s2=>wO (resA t s2 res) fun l=>k (one l) s2) x
section
variable {P:Program}{e:Env}
theorem wV_ok {x:OV}{k:AV->Prop}(h:wV x k):∃ v,x=.some v∧k v:=by cases x with|none=>exact h.elim|some v=>exact ⟨v,rfl,h⟩
theorem wO_ok {α:Type}{x:Option α}{k:α->Prop}(h:wO x k):∃ v,x=some v∧k v:=by cases x with|none=>exact h.elim|some v=>exact ⟨v,rfl,h⟩
variable {v:AV}{y z:Prop}
theorem wC_ok (h:wC v y z):(asBool v=.tt∧y)∨(asBool v=.ff∧z):=by
 unfold wC at h
 cases hb:asBool v with
 | no=>rw [hb] at h;exact h.elim
 | tt=>rw [hb] at h;exact .inl ⟨rfl,h⟩
 | ff=>rw [hb] at h;exact .inr ⟨rfl,h⟩
theorem wP_ok {k:Nat->Nat->Prop}{kf:List AV->Prop}(h:wP v k kf):(∃ r o,asPtr v=.ptr r o∧k r o)∨∃ l,asPtr v=.fp l∧kf l:=by
 unfold wP at h
 cases hb:asPtr v with
 | no=>rw [hb] at h;exact h.elim
 | ptr r o=>rw [hb] at h;exact .inl ⟨r,o,rfl,h⟩
 | fp l=>rw [hb] at h;exact .inr ⟨l,rfl,h⟩
theorem lr_ok {x:LR}{k:List AV->Prop}(h:(LR.rec False k x:Prop)):∃ l,x=.l l∧k l:=by cases x with|no=>exact h.elim|l l=>exact ⟨l,rfl,h⟩
variable {p:AOp}{t:AT}{s:St}{k:AV->St->Prop}
theorem eop_sound (h:EOp e p t s k):∃ n v s',opA p e (exec e n) t s=.ok v s'∧k v s':=by
 unfold EOp at h
 split at h
 ·obtain ⟨v,h1,hk⟩:=wV_ok h
  exact ⟨0,v,s,by show wth _ t _=_;unfold wth;rw [h1],hk⟩
 ·obtain ⟨c,h1,hk⟩:=wV_ok h
  rcases wC_ok hk with ⟨hb,hk⟩|⟨hb,hk⟩
  ·obtain ⟨v,h2,hk⟩:=wV_ok hk
   refine ⟨0,v,s,?_,hk⟩
   show wth _ t _=_;unfold wth;rw [h1]
   show (BR.rec .fail _ _ (asBool c):RV)=_;rw [hb]
   show ret _ s=_;rw [h2];rfl
  ·obtain ⟨v,h2,hk⟩:=wV_ok hk
   refine ⟨0,v,s,?_,hk⟩
   show wth _ t _=_;unfold wth;rw [h1]
   show (BR.rec .fail _ _ (asBool c):RV)=_;rw [hb]
   show ret _ s=_;rw [h2];rfl
 ·exact ⟨0,_,_,rfl,h⟩
 ·rename_i el n x
  obtain ⟨v,h1,hk⟩:=wV_ok h
  cases hb:Nat.beq (lenL (cellsOf v)) n with
  | false=>rw [hb] at hk;exact hk.elim
  | true=>
   rw [hb] at hk
   refine ⟨0,_,_,?_,hk⟩
   show wth _ t _=_;unfold wth;rw [h1]
   show gd (Nat.beq (lenL (cellsOf v)) n) _=_;rw [hb];rfl
 ·obtain ⟨cs,h1,hk⟩:=wO_ok h
  refine ⟨0,_,_,?_,hk⟩
  show (Option.rec .fail _ (fill t _ _):RV)=_;rw [h1]
 ·obtain ⟨cs,h1,hk⟩:=wO_ok h
  refine ⟨0,_,_,?_,hk⟩
  show (Option.rec .fail _ (fill t _ _):RV)=_;rw [h1];rfl
 ·obtain ⟨v,h1,hk⟩:=wV_ok h
  rcases wP_ok hk with ⟨r,o,hb,hk⟩|⟨l,hb,hk⟩
  ·obtain ⟨u,h2,hk⟩:=wO_ok hk
   refine ⟨0,u,s,?_,hk⟩
   show wth _ t _=_;unfold wth;rw [h1]
   show (PR.rec .fail _ _ (asPtr v):RV)=_;rw [hb]
   show retO _ s=_;rw [h2];rfl
  ·obtain ⟨u,h2,hk⟩:=hk
   refine ⟨0,u,s,?_,hk⟩
   show wth _ t _=_;unfold wth;rw [h1]
   show (PR.rec .fail _ _ (asPtr v):RV)=_;rw [hb]
   show retO _ s=_;rw [h2];rfl
 ·obtain ⟨v,h1,hk⟩:=wV_ok h
  rcases wP_ok hk with ⟨r,o,hb,hk⟩|⟨l,hb,hk⟩
  ·obtain ⟨u,h2,hk⟩:=wO_ok hk
   refine ⟨0,.agg u,s,?_,hk⟩
   show wth _ t _=_;unfold wth;rw [h1]
   show (PR.rec .fail _ _ (asPtr v):RV)=_;rw [hb]
   show (Option.rec .fail _ (load r o _ s):RV)=_;rw [h2]
  ·obtain ⟨u,h2,hk⟩:=hk
   refine ⟨0,.agg u,s,?_,hk⟩
   show wth _ t _=_;unfold wth;rw [h1]
   show (PR.rec .fail _ _ (asPtr v):RV)=_;rw [hb]
   show (Option.rec .fail _ (takeL _ l):RV)=_;rw [h2]
 ·rename_i n a x
  obtain ⟨p,h1,hk⟩:=wV_ok h
  obtain ⟨v,h2,hk⟩:=wV_ok hk
  rcases wP_ok hk with ⟨r,o,hb,hk⟩|⟨l,hb,hk⟩
  ·cases hc:Nat.beq (lenL (cellsOf v)) n with
   | false=>rw [hc] at hk;exact hk.elim
   | true=>
    rw [hc] at hk
    obtain ⟨s',h3,hk⟩:=wO_ok hk
    refine ⟨0,_,s',?_,hk⟩
    show wth _ t _=_;unfold wth;rw [h1]
    show wth _ t _=_;unfold wth;rw [h2]
    show (PR.rec .fail _ _ (asPtr p):RV)=_;rw [hb]
    show gd (Nat.beq (lenL (cellsOf v)) n) _=_;rw [hc]
    show retS _ (storeAt r o (cellsOf v) s)=_;rw [h3];rfl
  ·exact hk.elim
 ·obtain ⟨v,h1,hk⟩:=wV_ok h
  cases hb:isNilV v with
  | true=>rw [hb] at hk;exact hk.elim
  | false=>
   rw [hb] at hk
   refine ⟨0,v,s,?_,hk⟩
   show wth _ t _=_;unfold wth;rw [h1]
   show (Bool.rec _ _ (isNilV v):RV)=_;rw [hb]
 ·obtain ⟨x,h1,hk⟩:=wO_ok h
  obtain ⟨y,h2,hk⟩:=wO_ok hk
  refine ⟨0,_,s,?_,hk⟩
  show (Option.rec .fail _ (evs t _):RV)=_;rw [h1]
  show (Option.rec .fail _ (evs t _):RV)=_;rw [h2]
 ·obtain ⟨v,h1,hk⟩:=wV_ok h
  rcases wP_ok hk with ⟨r,o,hb,hk⟩|⟨l,hb,hk⟩
  ·refine ⟨0,_,s,?_,hk⟩
   show wth _ t _=_;unfold wth;rw [h1]
   show (PR.rec .fail _ _ (asPtr v):RV)=_;rw [hb]
  ·refine ⟨0,_,s,?_,hk⟩
   show wth _ t _=_;unfold wth;rw [h1]
   show (PR.rec .fail _ _ (asPtr v):RV)=_;rw [hb]
 ·obtain ⟨v,h1,hk⟩:=wV_ok h
  obtain ⟨l,hb,hk⟩:=lr_ok hk
  obtain ⟨u,h2,hk⟩:=wO_ok hk
  refine ⟨0,u,s,?_,hk⟩
  show wth _ t _=_;unfold wth;rw [h1]
  show (LR.rec .fail _ (asAgg v):RV)=_;rw [hb]
  show retO _ s=_;rw [h2];rfl
 ·obtain ⟨v,h1,hk⟩:=wV_ok h
  obtain ⟨l,hb,hk⟩:=lr_ok hk
  obtain ⟨u,h2,hk⟩:=wO_ok hk
  refine ⟨0,_,s,?_,hk⟩
  show wth _ t _=_;unfold wth;rw [h1]
  show (LR.rec .fail _ (asAgg v):RV)=_;rw [hb]
  show (Option.rec .fail _ (takeL _ _):RV)=_;rw [h2]
 ·obtain ⟨v,h1,hk⟩:=wV_ok h
  obtain ⟨l,hb,hk⟩:=lr_ok hk
  obtain ⟨u,h2,hk⟩:=wO_ok hk
  refine ⟨0,u,s,?_,hk⟩
  show wth _ t _=_;unfold wth;rw [h1]
  show (LR.rec .fail _ (asTup v):RV)=_;rw [hb]
  show retO _ s=_;rw [h2];rfl
 ·exact ⟨0,_,_,rfl,h⟩
 ·exact ⟨0,_,_,rfl,h⟩
 ·obtain ⟨fv,h1,hk⟩:=wV_ok h
  obtain ⟨vs,h2,hk⟩:=wO_ok hk
  unfold EApply at hk
  cases hf:asFn fv with
  | no=>rw [hf] at hk;exact hk.elim
  | fn f xs ys=>
   rw [hf] at hk
   obtain ⟨n,v,s',h3,hk⟩:=hk
   refine ⟨n,v,s',?_,hk⟩
   show wth _ t _=_;unfold wth;rw [h1]
   show (Option.rec .fail _ (evs t _):RV)=_;rw [h2]
   show applyA e _ fv vs s=_;unfold applyA;rw [hf];exact h3
  | yld l=>
   rw [hf] at hk
   obtain ⟨n,v,s',h3,hk⟩:=hk
   refine ⟨n,v,s',?_,hk⟩
   show wth _ t _=_;unfold wth;rw [h1]
   show (Option.rec .fail _ (evs t _):RV)=_;rw [h2]
   show applyA e _ fv vs s=_;unfold applyA;rw [hf];exact h3
 ·rename_i f args
  obtain ⟨vs,h2,hk⟩:=wO_ok h
  unfold ESc at hk
  cases hx:e.X.get f with
  | none=>
   rw [hx] at hk
   obtain ⟨n,v,s',h3,hk⟩:=hk
   refine ⟨n,v,s',?_,hk⟩
   show (Option.rec .fail (fun vs=>Option.rec (callA e (exec e n) f vs s) (fun h=>h vs s) (e.X.get f)) (evs t args):RV)=_
   rw [h2,hx];exact h3
  | some hh=>
   rw [hx] at hk
   change (RV.rec False k (hh vs s):Prop) at hk
   cases hq:hh vs s with
   | fail=>rw [hq] at hk;exact hk.elim
   | ok v s'=>
    rw [hq] at hk
    refine ⟨0,v,s',?_,hk⟩
    show (Option.rec .fail (fun vs=>Option.rec (callA e (exec e 0) f vs s) (fun h=>h vs s) (e.X.get f)) (evs t args):RV)=_
    rw [h2,hx];exact hq
 ·obtain ⟨v,s',h1,hk⟩:=h e (exec e 0)
  exact ⟨0,v,s',h1,hk⟩
theorem egrd_ok {g:Option (Nat×Bool)}(h:EGrd g t y z):(wantedA g t=2∧y)∨(wantedA g t=1∧z):=by
 cases g with
 | none=>exact .inl ⟨rfl,h⟩
 | some p=>
  obtain ⟨j,b⟩:=p
  obtain ⟨v,h1,hk⟩:=wO_ok (show wO (t.get j) (fun v=>BR.rec (wB (isAny v) False z) (wB b y z) (wB b z y) (asBool v)) from h)
  have hw:wantedA (some (j,b)) t=(BR.rec (Bool.rec 1 0 (isAny v)) (Bool.rec 1 2 b) (Bool.rec 2 1 b) (asBool v):Nat):=by
   show (Option.rec 0 (fun v=>BR.rec (Bool.rec 1 0 (isAny v)) (Bool.rec 1 2 b) (Bool.rec 2 1 b) (asBool v)) (t.get j):Nat)=_
   rw [h1]
  rw [hw]
  revert hk
  cases asBool v with
  | no=>
   intro hk
   cases hi:isAny v with
   | true=>rw [hi] at hk;exact hk.elim
   | false=>rw [hi] at hk;exact .inr ⟨rfl,hk⟩
  | tt=>intro hk;cases b with
   | true=>exact .inl ⟨rfl,hk⟩
   | false=>exact .inr ⟨rfl,hk⟩
  | ff=>intro hk;cases b with
   | true=>exact .inr ⟨rfl,hk⟩
   | false=>exact .inl ⟨rfl,hk⟩
theorem eops_sound:∀ {l:List AOper}{t:AT}{s:St}{K:AT->St->Prop},EOps e l t s K->∃ n t' s',opsA e (exec e n) l t s=.ok t' s'∧K t' s':=by
 intro l
 induction l with
 | nil=>intro t s K h;exact ⟨0,t,s,rfl,h⟩
 | cons o l ih=>
  intro t s K h
  cases o with
  | mk d p g=>
   rcases egrd_ok (show EGrd g t (EOp e p t s fun v s'=>EOps e l (putT d v t) s' K) (EOps e l (putT d (.tup []) t) s K) from h) with ⟨hw,h⟩|⟨hw,h⟩
   ·obtain ⟨n,v,s1,h1,h⟩:=eop_sound h
    obtain ⟨m,t',s',h2,hk⟩:=ih h
    refine ⟨max n m,t',s',?_,hk⟩
    show (Nat.rec .fail (fun w _=>Nat.rec (opsA e (exec e (max n m)) l (putT d (.tup []) t) s) (fun _ _=>RV.rec .fail (fun v s'=>opsA e (exec e (max n m)) l (putT d v t) s') (opA p e (exec e (max n m)) t s)) w) (wantedA g t):RT)=.ok t' s'
    rw [hw,opA_le (exec_le (Nat.le_max_left n m)) h1]
    exact opsA_le (exec_le (Nat.le_max_right n m)) h2
   ·obtain ⟨m,t',s',h2,hk⟩:=ih h
    refine ⟨m,t',s',?_,hk⟩
    show (Nat.rec .fail (fun w _=>Nat.rec (opsA e (exec e m) l (putT d (.tup []) t) s) (fun _ _=>RV.rec .fail (fun v s'=>opsA e (exec e m) l (putT d v t) s') (opA p e (exec e m) t s)) w) (wantedA g t):RT)=.ok t' s'
    rw [hw];exact h2
  | chk d p g=>
   rcases egrd_ok (show EGrd g t (EOp e p t s fun v _=>wO (t.get d) fun v0=>v=v0∧EOps e l t s K) (EOps e l t s K) from h) with ⟨hw,h⟩|⟨hw,h⟩
   ·obtain ⟨n,v,s1,h1,h⟩:=eop_sound h
    obtain ⟨v0,hd,rfl,h⟩:=wO_ok h
    obtain ⟨m,t',s',h2,hk⟩:=ih h
    refine ⟨max n m,t',s',?_,hk⟩
    show (Nat.rec .fail (fun w _=>Nat.rec (opsA e (exec e (max n m)) l t s) (fun _ _=>RV.rec .fail (fun v _=>Option.rec .fail (fun v0=>Bool.rec .fail (opsA e (exec e (max n m)) l t s) (eqV v v0)) (t.get d)) (opA p e (exec e (max n m)) t s)) w) (wantedA g t):RT)=.ok t' s'
    rw [hw,opA_le (exec_le (Nat.le_max_left n m)) h1]
    show (Option.rec .fail (fun v0=>Bool.rec .fail (opsA e (exec e (max n m)) l t s) (eqV v v0)) (t.get d):RT)=.ok t' s'
    rw [hd]
    show (Bool.rec .fail (opsA e (exec e (max n m)) l t s) (eqV v v):RT)=.ok t' s'
    rw [show eqV v v=true from eqA_refl v]
    exact opsA_le (exec_le (Nat.le_max_right n m)) h2
   ·obtain ⟨m,t',s',h2,hk⟩:=ih h
    refine ⟨m,t',s',?_,hk⟩
    show (Nat.rec .fail (fun w _=>Nat.rec (opsA e (exec e m) l t s) (fun _ _=>RV.rec .fail (fun v _=>Option.rec .fail (fun v0=>Bool.rec .fail (opsA e (exec e m) l t s) (eqV v v0)) (t.get d)) (opA p e (exec e m) t s)) w) (wantedA g t):RT)=.ok t' s'
    rw [hw];exact h2
theorem ve_sound:∀ {c:AC}{t:AT}{s:St}{rd:Option Nat}{ds:List Nat}{Q:EQ},VE e c t s rd ds Q->EExec e c t s rd ds Q:=by
 intro c
 induction c with
 | skip=>intro t s rd ds Q h;exact ⟨1,_,_,_,_,rfl,h⟩
 | exit id=>intro t s rd ds Q h;exact ⟨1,_,_,_,_,rfl,h⟩
 | lab=>intro t s rd ds Q h;exact ⟨1,_,_,_,_,rfl,h⟩
 | scope a ia=>
  intro t s rd ds Q h
  obtain ⟨n,x,t1,s1,ds1,h1,hk⟩:=ia h
  exact ⟨n+1,_,_,_,_,h1,hk⟩
 | ret=>intro t s rd ds Q h;exact ⟨1,_,_,_,_,rfl,h⟩
 | reg ops=>
  intro t s rd ds Q h
  obtain ⟨n,t',s',h1,hk⟩:=eops_sound (show EOps e ops t s (fun t' s'=>Q .normal t' s' ds) from h)
  refine ⟨n+1,_,_,_,_,?_,hk⟩
  show (RT.rec .fail (fun t' s'=>.ok .normal t' s' ds) (opsA e (exec e n) ops t s):R)=_
  rw [h1]
 | seq a b ia ib=>
  intro t s rd ds Q h
  obtain ⟨n,x,t1,s1,ds1,h1,hk⟩:=ia (show VE e a t s rd ds (Bhd (fun t s ds=>VE e b t s rd ds Q) Q) from h)
  cases x with
  | normal=>
   obtain ⟨m,x2,t2,s2,ds2,h2,hk⟩:=ib (show VE e b t1 s1 rd ds1 Q from hk)
   refine ⟨max n m+1,_,_,_,_,?_,hk⟩
   show seqE (exec e (max n m)) b rd (exec e (max n m) a t s rd ds)=_
   rw [exec_le (Nat.le_max_left n m) _ _ _ _ _ _ _ _ _ h1]
   exact exec_le (Nat.le_max_right n m) _ _ _ _ _ _ _ _ _ h2
  | exit id=>
   refine ⟨n+1,_,_,_,_,?_,hk⟩
   show seqE (exec e n) b rd (exec e n a t s rd ds)=_
   rw [h1];rfl
  | ret=>
   refine ⟨n+1,_,_,_,_,?_,hk⟩
   show seqE (exec e n) b rd (exec e n a t s rd ds)=_
   rw [h1];rfl
 | cond x a b ia ib=>
  intro t s rd ds Q h
  obtain ⟨v,hv,h⟩:=wV_ok (show wV (ev x t) (fun v=>wC v (VE e a t s rd ds Q) (VE e b t s rd ds Q)) from h)
  rcases wC_ok h with ⟨hb,h⟩|⟨hb,h⟩
  ·obtain ⟨n,x1,t1,s1,ds1,h1,hk⟩:=ia h
   refine ⟨n+1,_,_,_,_,?_,hk⟩
   show (OV.rec .fail (fun v=>BR.rec .fail (exec e n a t s rd ds) (exec e n b t s rd ds) (asBool v)) (ev x t):R)=_
   rw [hv];show (BR.rec .fail (exec e n a t s rd ds) (exec e n b t s rd ds) (asBool v):R)=_;rw [hb];exact h1
  ·obtain ⟨n,x1,t1,s1,ds1,h1,hk⟩:=ib h
   refine ⟨n+1,_,_,_,_,?_,hk⟩
   show (OV.rec .fail (fun v=>BR.rec .fail (exec e n a t s rd ds) (exec e n b t s rd ds) (asBool v)) (ev x t):R)=_
   rw [hv];show (BR.rec .fail (exec e n a t s rd ds) (exec e n b t s rd ds) (asBool v):R)=_;rw [hb];exact h1
 | block id a ia=>
  intro t s rd ds Q h
  obtain ⟨n,x,t1,s1,ds1,h1,hk⟩:=ia (show VE e a t s rd ds (Blk id Q) from h)
  cases x with
  | normal=>
   refine ⟨n+1,_,_,_,_,?_,hk⟩
   show blockE id (exec e n a t s rd ds)=_;rw [h1];rfl
  | ret=>
   refine ⟨n+1,_,_,_,_,?_,hk⟩
   show blockE id (exec e n a t s rd ds)=_;rw [h1];rfl
  | exit id'=>
   have hk:wB (Nat.beq id id') (Q .normal t1 s1 ds1) (Q (.exit id') t1 s1 ds1):=hk
   cases hb:Nat.beq id id' with
   | true=>
    rw [hb] at hk
    refine ⟨n+1,_,_,_,_,?_,hk⟩
    show blockE id (exec e n a t s rd ds)=_;rw [h1]
    show (Bool.rec _ _ (Nat.beq id id'):R)=_;rw [hb]
   | false=>
    rw [hb] at hk
    refine ⟨n+1,_,_,_,_,?_,hk⟩
    show blockE id (exec e n a t s rd ds)=_;rw [h1]
    show (Bool.rec _ _ (Nat.beq id id'):R)=_;rw [hb]
 | loop a ia=>intro t s rd ds Q h;exact h
 | rng g ps a b ia ib=>intro t s rd ds Q h;exact h
theorem vw_sound (hE:EnvOk P e) (hm:P.follows .mixedOrders=true) {k:Nat}:∀ {c:AC}{t:AT}{s:St}{rd:Option Nat}{ds:List Nat}{Q:EQ},VW P e k c t s rd ds Q->W P k rd c t s ds Q:=by
 intro c
 induction c with
 | skip=>intro t s rd ds Q h;exact W.skip h
 | exit id=>intro t s rd ds Q h;exact W.exit h
 | lab=>intro t s rd ds Q h;exact W.lab h
 | scope a ia=>intro t s rd ds Q h;exact W.scope (ia h)
 | ret=>intro t s rd ds Q h;exact W.ret h
 | reg ops=>
  intro t s rd ds Q h
  obtain ⟨n,t',s',h1,hk⟩:=eops_sound (show EOps e ops t s (fun t' s'=>Q .normal t' s' ds) from h)
  refine W.exec (exec_good hE hm (n+1)) (t':=t') (s':=s') (ds':=ds) (x:=.normal) ?_ hk
  show (RT.rec .fail (fun t' s'=>.ok .normal t' s' ds) (opsA e (exec e n) ops t s):R)=_
  rw [h1]
 | seq a b ia ib=>
  intro t s rd ds Q h
  refine W.seq ((ia (show VW P e k a t s rd ds (Bhd (fun t s ds=>VW P e k b t s rd ds Q) Q) from h)).mono ?_)
  intro x t1 s1 ds1 hq
  cases x with
  | normal=>exact ib hq
  | exit id=>exact hq
  | ret=>exact hq
 | cond x a b ia ib=>
  intro t s rd ds Q h
  obtain ⟨v,hv,h⟩:=wV_ok (show wV (ev x t) (fun v=>wC v (VW P e k a t s rd ds Q) (VW P e k b t s rd ds Q)) from h)
  rcases wC_ok h with ⟨hb,h⟩|⟨hb,h⟩
  ·exact W.cond (b:=true) (by rw [hv,asBool_tt hb]) (fun _=>ia h) (fun e=>by cases e)
  ·exact W.cond (b:=false) (by rw [hv,asBool_ff hb]) (fun e=>by cases e) (fun _=>ib h)
 | block id a ia=>
  intro t s rd ds Q h
  refine W.block ((ia (show VW P e k a t s rd ds (Blk id Q) from h)).mono ?_)
  intro x t1 s1 ds1 hq
  cases x with
  | normal=>exact hq
  | ret=>exact hq
  | exit id'=>
   have hq:wB (Nat.beq id id') (Q .normal t1 s1 ds1) (Q (.exit id') t1 s1 ds1):=hq
   show if id'=id then _ else _
   cases hb:Nat.beq id id' with
   | true=>rw [hb] at hq;rw [if_pos (Nat.eq_of_beq_eq_true hb).symm];exact hq
   | false=>rw [hb] at hq;rw [if_neg (fun e=>Nat.ne_of_beq_eq_false hb e.symm)];exact hq
 | loop a ia=>intro t s rd ds Q h;exact h
 | rng g ps a b ia ib=>intro t s rd ds Q h;exact h
variable {res:List ARes}{ds:List Nat}
theorem eend_ends {x:Ex}(h:EEnd res k x t s ds):Ends res k x t s ds:=by
 cases x with
 | normal=>
  obtain ⟨s2,h1,h⟩:=wO_ok (show wO (quit ds s) (fun s2=>wO (resA t s2 res) fun l=>k (one l) s2) from h)
  obtain ⟨l,h2,h⟩:=wO_ok h
  exact ⟨.inl rfl,s2,l,h1,h2,h⟩
 | ret=>
  obtain ⟨s2,h1,h⟩:=wO_ok (show wO (quit ds s) (fun s2=>wO (resA t s2 res) fun l=>k (one l) s2) from h)
  obtain ⟨l,h2,h⟩:=wO_ok h
  exact ⟨.inr rfl,s2,l,h1,h2,h⟩
 | exit id=>exact (show False from h).elim
def EM (P:Program) (e:Env):Prop:=EnvOk P e∧P.follows .mixedOrders=true
variable {rd:Option Nat}{Q:EQ}
theorem vs_sound (hE:EM P e) {k:Nat}{c:AC}(h:VW P e k c t s rd ds Q):W P k rd c t s ds Q:=vw_sound hE.1 hE.2 h
variable {f:Nat}{fn:Func}{code:AC}{args:List AV}
theorem C.of_V (hE:EM P e) {Q:AV->St->Prop}(hf:P.funcs[f]?=some fn) (hc:compF P fn=some (.mk code res))
 (h:VW P e 0 code (initT args 0 .lf) St0 none [] (EEnd res Q)):C P f args St0 Q:=
 C.of_W hf hc ((vw_sound hE.1 hE.2 h).mono fun _ _ _ _ h=>eend_ends h)
theorem C1.of_V (hE:EM P e) {Q:AV->St->Prop}(hf:P.funcs[f]?=some fn) (hc:compF P fn=some (.mk code res))
 (h:VW P e s.next code (initT args 0 .lf) s none [] (EEnd res Q)):C1 P f args s Q:=
 C1.of_W hf hc ((vw_sound hE.1 hE.2 h).mono fun _ _ _ _ h=>eend_ends h)
variable {vs:List AV}
theorem ECall.inl (hO:e.O.get f=none) (hG:e.G.get f=some (.mk code res))
 (h:VE e code (initT vs 0 .lf) s none [] (EEnd res k)):ECall e f vs s k:=by
 obtain ⟨n,x,t',s',ds',h1,hk⟩:=ve_sound h
 obtain ⟨hx,s2,l,h2,h3,hk⟩:=eend_ends hk
 refine ⟨n,one l,s2,?_,hk⟩
 unfold callA
 rw [hO]
 show callG e _ f vs s=_
 unfold callG
 rw [hG]
 show callEnd res (exec e n code (initT vs 0 .lf) s none [])=_
 rw [h1]
 rcases hx with rfl|rfl
 ·show (Option.rec .fail (fun s=>Option.rec .fail (fun l=>.ok (one l) s) (resA t' s res)) (quit ds' s'):RV)=_
  rw [h2];show (Option.rec .fail (fun l=>.ok (one l) s2) (resA t' s2 res):RV)=_;rw [h3]
 ·show (Option.rec .fail (fun s=>Option.rec .fail (fun l=>.ok (one l) s) (resA t' s res)) (quit ds' s'):RV)=_
  rw [h2];show (Option.rec .fail (fun l=>.ok (one l) s2) (resA t' s2 res):RV)=_;rw [h3]
theorem ECall.ov {f:Nat}{vs:List AV}{s:St}{k:AV->St->Prop}{h:Ov}{v:AV}{s':St}(hO:e.O.get f=some h) (hh:h vs s=.ok v s') (hk:k v s'):ECall e f vs s k:=by
 refine ⟨0,v,s',?_,hk⟩
 unfold callA
 rw [hO]
 show (RV.rec _ _ (h vs s):RV)=_
 rw [hh]
theorem EPrim.mk {s':St}(h:∀ e rec,opA p e rec t s=.ok v s') (hk:k v s'):EPrim p t s k:=fun e rec=>⟨v,s',h e rec,hk⟩
theorem EHead.mk {l:List AV}{k:AV->Prop}(h:l[0]?=some v) (hk:k v):EHead l k:=⟨v,by rw [getL_eq];exact h,hk⟩
theorem takeL_of {α:Type}:∀ {n:Nat}{l:List α},n≤l.length->takeL n l=some (l.take n)
 | 0,l,_=>rfl
 | n+1,[],h=>by simp at h
 | n+1,x::l,h=>by
  show (Option.rec none (fun r=>some (x::r)) (takeL n l):Option (List α))=_
  rw [takeL_of (n:=n) (l:=l) (by simpa using h)];rfl
theorem EExec.loop {a:AC}(h:VE e a t s rd ds (Bhd (fun t s ds=>EExec e (.loop a) t s rd ds Q) Q)):EExec e (.loop a) t s rd ds Q:=by
 obtain ⟨n,x,t1,s1,ds1,h1,hk⟩:=ve_sound h
 cases x with
 | normal=>
  obtain ⟨m,x2,t2,s2,ds2,h2,hk⟩:=(show EExec e (.loop a) t1 s1 rd ds1 Q from hk)
  refine ⟨max n m+1,_,_,_,_,?_,hk⟩
  show seqE (exec e (max n m)) (.loop a) rd (exec e (max n m) a t s rd ds)=_
  rw [exec_le (Nat.le_max_left n m) _ _ _ _ _ _ _ _ _ h1]
  exact exec_le (Nat.le_max_right n m) _ _ _ _ _ _ _ _ _ h2
 | exit id=>
  refine ⟨n+1,_,_,_,_,?_,hk⟩
  show seqE (exec e n) (.loop a) rd (exec e n a t s rd ds)=_
  rw [h1];rfl
 | ret=>
  refine ⟨n+1,_,_,_,_,?_,hk⟩
  show seqE (exec e n) (.loop a) rd (exec e n a t s rd ds)=_
  rw [h1];rfl
structure Inl (e:Env) (f:Nat) (code:AC) (res:List ARes):Prop where
 X:e.X.get f=none
 O:e.O.get f=none
 G:e.G.get f=some (.mk code res)
structure Con (e:Env) (f:Nat) (h:Ov):Prop where
 X:e.X.get f=none
 O:e.O.get f=some h
theorem ESc.inl (hi:Inl e f code res) (h:VE e code (initT vs 0 .lf) s none [] (EEnd res k)):ESc e f vs s k:=by
 unfold ESc;rw [hi.X];exact ECall.inl hi.O hi.G h
theorem ESc.ov {f:Nat}{vs:List AV}{s:St}{k:AV->St->Prop}{h:Ov}{v:AV}{s':St}(hi:Con e f h) (hh:h vs s=.ok v s') (hk:k v s'):ESc e f vs s k:=by
 unfold ESc;rw [hi.X];exact ECall.ov hi.O hh hk
end
attribute [irreducible] EPrim EHead ETake ECall ERound EExec ESc
end Go.AM
namespace Go.AM
section
variable {t:AT}{s:St}{k:AV->St->Prop}{x y:AO}
theorem eqK_self (q:IntKind):eqK q q=true:=by cases q <;> rfl
variable {q:IntKind}{a b:Int}
theorem cmp_run {f:Int->Int->Bool}:cmp f (.int q a) (.int q b)=.some (.bool (f a b)):=by
 show (Bool.rec .none (.some (.bool (f a b))) (eqK q q):OV)=_;rw [eqK_self]
theorem ar_run {f:IntKind->Int->Int->Int}:ar f (.int q a) (.int q b)=.some (.int q (f q a b)):=by
 show (Bool.rec .none (.some (.int q (f q a b))) (eqK q q):OV)=_;rw [eqK_self]
theorem bin_of {op:BinOp}{a b v:AV}(hx:ev x t=.some a) (hy:ev y t=.some b) (h:binA op a b=.some v) (hk:k v s):EPrim (.bin op x y) t s k:=by
 refine EPrim.mk (fun e rec=>?_) hk
 show wth x t _=_;unfold wth;rw [hx]
 show wth y t _=_;unfold wth;rw [hy]
 show ret _ s=_;rw [h];rfl
theorem EPrim.lss (hx:ev x t=.some (.int q a)) (hy:ev y t=.some (.int q b)) (hk:∀ c:Bool,(c=true↔a<b)->k (.bool c) s):EPrim (.bin .lss x y) t s k:=
 bin_of hx hy cmp_run (hk _ (by rw [ltI_eq];simp))
theorem EPrim.leq (hx:ev x t=.some (.int q a)) (hy:ev y t=.some (.int q b)) (hk:∀ c:Bool,(c=true↔a≤b)->k (.bool c) s):EPrim (.bin .leq x y) t s k:=
 bin_of hx hy (cmp_run (f:=fun a b=>!ltI b a)) (hk _ (by rw [ltI_eq];simp))
theorem EPrim.gtr (hx:ev x t=.some (.int q a)) (hy:ev y t=.some (.int q b)) (hk:∀ c:Bool,(c=true↔b<a)->k (.bool c) s):EPrim (.bin .gtr x y) t s k:=
 bin_of hx hy (cmp_run (f:=fun a b=>ltI b a)) (hk _ (by rw [ltI_eq];simp))
theorem EPrim.geq (hx:ev x t=.some (.int q a)) (hy:ev y t=.some (.int q b)) (hk:∀ c:Bool,(c=true↔b≤a)->k (.bool c) s):EPrim (.bin .geq x y) t s k:=
 bin_of hx hy (cmp_run (f:=fun a b=>!ltI a b)) (hk _ (by rw [ltI_eq];simp))
theorem EPrim.eql (hx:ev x t=.some (.int q a)) (hy:ev y t=.some (.int q b)) (hk:∀ c:Bool,(c=true↔a=b)->k (.bool c) s):EPrim (.bin .eql x y) t s k:=
 bin_of hx hy (by show orE (cmp eqI _ _) _=_;rw [cmp_run];rfl) (hk _ (by rw [eqI_eq];simp))
theorem EPrim.neq (hx:ev x t=.some (.int q a)) (hy:ev y t=.some (.int q b)) (hk:∀ c:Bool,(c=true↔a≠b)->k (.bool c) s):EPrim (.bin .neq x y) t s k:=
 bin_of hx hy (by show orE (cmp (fun a b=>!eqI a b) _ _) _=_;rw [cmp_run];rfl) (hk _ (by rw [eqI_eq];simp))
theorem EPrim.lss2 {q:IntKind}{a b:Int}(hx:ev x t=.some (.int q a)) (hy:ev y t=.some (.int q b)) (h1:a<b->k (.bool true) s) (h2:b≤a->k (.bool false) s):EPrim (.bin .lss x y) t s k:=
 EPrim.lss hx hy fun c hc=>by cases c with|true=>exact h1 (hc.1 rfl)|false=>exact h2 (by simp at hc;omega)
theorem EPrim.leq2 {q:IntKind}{a b:Int}(hx:ev x t=.some (.int q a)) (hy:ev y t=.some (.int q b)) (h1:a≤b->k (.bool true) s) (h2:b<a->k (.bool false) s):EPrim (.bin .leq x y) t s k:=
 EPrim.leq hx hy fun c hc=>by cases c with|true=>exact h1 (hc.1 rfl)|false=>exact h2 (by simp at hc;omega)
theorem EPrim.gtr2 {q:IntKind}{a b:Int}(hx:ev x t=.some (.int q a)) (hy:ev y t=.some (.int q b)) (h1:b<a->k (.bool true) s) (h2:a≤b->k (.bool false) s):EPrim (.bin .gtr x y) t s k:=
 EPrim.gtr hx hy fun c hc=>by cases c with|true=>exact h1 (hc.1 rfl)|false=>exact h2 (by simp at hc;omega)
theorem EPrim.geq2 {q:IntKind}{a b:Int}(hx:ev x t=.some (.int q a)) (hy:ev y t=.some (.int q b)) (h1:b≤a->k (.bool true) s) (h2:a<b->k (.bool false) s):EPrim (.bin .geq x y) t s k:=
 EPrim.geq hx hy fun c hc=>by cases c with|true=>exact h1 (hc.1 rfl)|false=>exact h2 (by simp at hc;omega)
theorem EPrim.eql2 {q:IntKind}{a b:Int}(hx:ev x t=.some (.int q a)) (hy:ev y t=.some (.int q b)) (h1:a=b->k (.bool true) s) (h2:a≠b->k (.bool false) s):EPrim (.bin .eql x y) t s k:=
 EPrim.eql hx hy fun c hc=>by cases c with|true=>exact h1 (hc.1 rfl)|false=>exact h2 (by simpa using hc)
theorem EPrim.neq2 {q:IntKind}{a b:Int}(hx:ev x t=.some (.int q a)) (hy:ev y t=.some (.int q b)) (h1:a≠b->k (.bool true) s) (h2:a=b->k (.bool false) s):EPrim (.bin .neq x y) t s k:=
 EPrim.neq hx hy fun c hc=>by cases c with|true=>exact h1 (hc.1 rfl)|false=>exact h2 (by simpa using hc)
theorem EPrim.add (hx:ev x t=.some (.int q a)) (hy:ev y t=.some (.int q b)) (hk:k (.int q (q.wrap (a+b))) s):EPrim (.bin .add x y) t s k:=
 bin_of hx hy (by show orE (ar _ _ _) _=_;rw [ar_run];rfl) (by rw [wrapQ_eq,addI_eq];exact hk)
theorem EPrim.sub (hx:ev x t=.some (.int q a)) (hy:ev y t=.some (.int q b)) (hk:k (.int q (q.wrap (a-b))) s):EPrim (.bin .sub x y) t s k:=
 bin_of hx hy (ar_run (f:=fun k a b=>wrapQ k (subI a b))) (by rw [wrapQ_eq,subI_eq];exact hk)
theorem EPrim.mul (hx:ev x t=.some (.int q a)) (hy:ev y t=.some (.int q b)) (hk:k (.int q (q.wrap (a*b))) s):EPrim (.bin .mul x y) t s k:=
 bin_of hx hy (ar_run (f:=fun k a b=>wrapQ k (mulI a b))) (by rw [wrapQ_eq,mulI_eq];exact hk)
theorem i64_in {n:Int}(h:-9223372036854775808≤n∧n≤9223372036854775807):IntKind.i64.wrap n=n:=IntWalk.i64_in n h
theorem EPrim.addS (hx:ev x t=.some (.int .i64 a)) (hy:ev y t=.some (.int .i64 b)) (h:-9223372036854775808≤a+b∧a+b≤9223372036854775807) (hk:k (.int .i64 (a+b)) s):EPrim (.bin .add x y) t s k:=
 EPrim.add hx hy (by rw [i64_in h];exact hk)
theorem EPrim.subS {a b:Int}(hx:ev x t=.some (.int .i64 a)) (hy:ev y t=.some (.int .i64 b)) (h:-9223372036854775808≤a-b∧a-b≤9223372036854775807) (hk:k (.int .i64 (a-b)) s):EPrim (.bin .sub x y) t s k:=
 EPrim.sub hx hy (by rw [i64_in h];exact hk)
theorem EPrim.mulS (hx:ev x t=.some (.int .i64 a)) (hy:ev y t=.some (.int .i64 b)) (h:-9223372036854775808≤a*b∧a*b≤9223372036854775807) (hk:k (.int .i64 (a*b)) s):EPrim (.bin .mul x y) t s k:=
 EPrim.mul hx hy (by rw [i64_in h];exact hk)
theorem EPrim.rem (hx:ev x t=.some (.int q a)) (hy:ev y t=.some (.int q b)) (h:b≠0) (hk:k (.int q (a.tmod b)) s):EPrim (.bin .rem x y) t s k:=by
 refine bin_of hx hy (v:=.int q (a.tmod b)) ?_ hk
 show (Bool.rec .none (Bool.rec (.some (.int q (tmodQ a b))) .none (eqI b 0)) (eqK q q):OV)=_
 rw [eqK_self,eqI_eq,show (b == 0)=false by simpa using h,tmodQ_eq]
theorem EPrim.remN (hx:ev x t=.some (.int q a)) (hy:ev y t=.some (.int q b)) (h:0≤a∧0<b) (hk:k (.int q (a % b)) s):EPrim (.bin .rem x y) t s k:=
 EPrim.rem hx hy (by omega) (by rw [Int.tmod_eq_emod_of_nonneg h.1];exact hk)
theorem EPrim.notT (hx:ev x t=.some (.bool true)) (hk:k (.bool false) s):EPrim (.un .not x) t s k:=by
 refine EPrim.mk (v:=.bool false) (s':=s) (fun e rec=>?_) hk
 show wth x t _=_;unfold wth;rw [hx];rfl
theorem EPrim.notF (hx:ev x t=.some (.bool false)) (hk:k (.bool true) s):EPrim (.un .not x) t s k:=by
 refine EPrim.mk (v:=.bool true) (s':=s) (fun e rec=>?_) hk
 show wth x t _=_;unfold wth;rw [hx];rfl
theorem EPrim.min2 {l:List AO}(hx:evs t l=some [.int q a,.int q b]) (hk:k (.int q (min a b)) s):EPrim (.mn false l) t s k:=by
 refine EPrim.mk (v:=.int q (min a b)) (s':=s) (fun e rec=>?_) hk
 show (Option.rec .fail (fun l=>List.rec .fail (fun x l _=>ret (mm false l x) s) l) (evs t l):RV)=_
 rw [hx]
 show ret (Bool.rec .none (.some (.int q (Bool.rec a b (ltI b a)))) (eqK q q):OV) s=_
 rw [eqK_self,ltI_eq]
 by_cases h:b<a
 ·rw [decide_eq_true h,show min a b=b by omega];rfl
 ·rw [decide_eq_false h,show min a b=a by omega];rfl
end
end Go.AM
namespace Go.AM
noncomputable def ofL:List (Nat×AV)->AT
 | []=>.lf
 | p::l=>(ofL l).set p.2 p.1
theorem ofL_get:∀ {l:List (Nat×AV)}{i:Nat}{v:AV},(ofL l).get i=some v->∃ p ∈ l,p.1=i∧p.2=v
 | [],i,v,h=>by cases h
 | p::l,i,v,h=>by
  rcases T.get_set h with ⟨rfl,rfl⟩|⟨_,h⟩
  ·exact ⟨p,by simp,rfl,rfl⟩
  ·obtain ⟨q,hq,e⟩:=ofL_get h
   exact ⟨q,by simp [hq],e⟩
def nm (rs:List Nat):Nat->Nat:=fun j=>getD rs j
 where getD:List Nat->Nat->Nat
  | [],_=>0
  | x::_,0=>x
  | _::l,j+1=>getD l j
variable {rs:List Nat}
theorem nm_get {j r:Nat}(h:rs[j]?=some r):nm rs j=r:=by
 unfold nm
 induction rs generalizing j with
 | nil=>simp at h
 | cons x l ih=>cases j with
  | zero=>simp at h;exact h
  | succ j=>exact ih (by simpa using h)
@[reducible] def TmpOk (n:Nat) (rs:List Nat) (t:AT):List (Nat×AV)->Prop
 | []=>True
 | p::l=>(bd n p.2=true∧t.get p.1=some (mapV (nm rs) p.2))∧TmpOk n rs t l
@[reducible] def RowOk (n:Nat) (all:List Nat) (s:St):List AObj->List Nat->Prop
 | [],[]=>True
 | o::l,r::rs=>(bdO 0 n o=true∧s.get r=some (mapO (nm all) o))∧RowOk n all s l rs
 | _,_=>False
structure Abs (t:AT) (s:St) (tl:List (Nat×AV)) (os:List AObj) (rs:List Nat):Prop where
 nd:rs.Nodup
 tmp:TmpOk os.length rs t tl
 row:RowOk os.length rs s os rs
variable {n:Nat}{t:AT}
theorem TmpOk.get:∀ {l:List (Nat×AV)},TmpOk n rs t l->∀ p ∈ l,bd n p.2=true∧t.get p.1=some (mapV (nm rs) p.2)
 | [],_,p,hp=>by simp at hp
 | q::l,h,p,hp=>by
  rcases List.mem_cons.1 hp with rfl|hp
  ·exact h.1
  ·exact TmpOk.get h.2 p hp
variable {s:St}
theorem RowOk.get {all:List Nat}:∀ {l:List AObj}{rs:List Nat},RowOk n all s l rs->l.length=rs.length∧∀ (j:Nat) o,l[j]?=some o->∃ r,rs[j]?=some r∧bdO 0 n o=true∧s.get r=some (mapO (nm all) o)
 | [],[],_=>⟨rfl,fun j o h=>by simp at h⟩
 | [],_::_,h=>h.elim
 | _::_,[],h=>h.elim
 | o::l,r::rs,h=>by
  obtain ⟨h1,h2⟩:=RowOk.get h.2
  refine ⟨by simp [h1],fun j o' hj=>?_⟩
  cases j with
  | zero=>simp at hj;subst hj;exact ⟨r,by simp,h.1⟩
  | succ j=>simpa using h2 j o' (by simpa using hj)
theorem allocs0_next (os:List AObj):(allocs St0 os).next=os.length:=by rw [allocs_next];show 0+_=_;omega
theorem Abs.ren {tl:List (Nat×AV)}{os:List AObj}(h:Abs t s tl os rs):Ren 0 (nm rs) t s [] (ofL tl) (allocs St0 os) []:=by
 obtain ⟨hl,hr⟩:=h.row.get
 refine ⟨fun r hr=>by omega,Nat.zero_le _,?_,?_,?_,⟨rfl,by simp⟩⟩
 ·intro i j hi hj e
  rw [allocs0_next] at hi hj
  have e1:=nm_get (List.getElem?_eq_getElem (l:=rs) (i:=i) (by omega))
  have e2:=nm_get (List.getElem?_eq_getElem (l:=rs) (i:=j) (by omega))
  rw [e1,e2] at e
  exact (List.getElem_inj h.nd).1 e
 ·intro i v hv
  obtain ⟨p,hp,rfl,rfl⟩:=ofL_get hv
  rw [allocs0_next]
  exact h.tmp.get p hp
 ·intro r o ho
  have:=allocs_ge os St0 (Nat.zero_le r) (fun _ _=>rfl) ho
  have hz:r-St0.next=r:=Nat.sub_zero r
  rw [hz] at this
  obtain ⟨q,hq,hb,hg⟩:=hr r o this
  rw [allocs0_next,nm_get hq]
  exact ⟨(List.getElem?_eq_some_iff.1 this).1,hb,hg⟩
section
variable {P:Program}{rd:Option Nat}{ac:AC}{t:AT}{s:St}{Q:EQ}
theorem W.abs (tl:List (Nat×AV)) (os:List AObj) (rs:List Nat) (h:Abs t s tl os rs) (hw:W P 0 rd ac (ofL tl) (allocs St0 os) [] Q):W P 0 rd ac t s [] Q:=W.ren h.ren hw
theorem W.loopS {α:Type}(tl:α->List (Nat×AV)) (os:α->List AObj) (μ:α->Nat) (I:α->Prop) (x0:α) (rs:List Nat) (h0:I x0) (ha:Abs t s (tl x0) (os x0) rs)
 (hr:∀ x,I x->W P 0 rd ac (ofL (tl x)) (allocs St0 (os x)) [] (Then (fun t s ds=>ds=[]∧∃ x',I x'∧μ x'<μ x∧∃ rs,Abs t s (tl x') (os x') rs) Q)):W P 0 rd (.loop ac) t s [] Q:=by
 refine W.loop (fun n t s ds=>ds=[]∧∃ x,n=μ x∧I x∧∃ rs,Abs t s (tl x) (os x) rs) (μ x0) ⟨rfl,x0,rfl,h0,rs,ha⟩ ?_
 rintro n t s ds ⟨rfl,x,rfl,hi,rs,ha⟩
 refine W.ren ha.ren ((hr x hi).mono ?_)
 intro y t s ds hq
 cases y with
 | normal=>
  obtain ⟨rfl,x',hi',hm,rs,ha⟩:=(show ds=[]∧∃ x',I x'∧μ x'<μ x∧∃ rs,Abs t s (tl x') (os x') rs from hq)
  exact ⟨μ x',hm,rfl,x',rfl,hi',rs,ha⟩
 | exit id=>exact hq
 | ret=>exact hq
end
end Go.AM
namespace Go.AM
theorem stuckO {α:Type}{x:Option α}{K:α->Prop}(v:α) (h:x=some v) (hk:K v):(Option.rec (motive:=fun _=>Prop) False K x):=by rw [h];exact hk
section
variable {t:AT}{s:St}{k:AV->St->Prop}{x y:AO}
variable {r o n es i:Nat}{q:IntKind}
theorem EPrim.ixaP (hx:ev x t=.some (.ptr r o)) (hy:ev y t=.some (.int q (Int.ofNat i))) (h:i<n) (hk:k (.ptr r (o+i*es)) s):EPrim (.ixa n es x y) t s k:=by
 refine EPrim.mk (fun e rec=>?_) hk
 show wth x t _=_;unfold wth;rw [hx]
 show wth y t _=_;unfold wth;rw [hy]
 show gd (Nat.blt i n) _=_
 rw [show Nat.blt i n=true by simpa using h];rfl
variable {c:Option Nat}
theorem EPrim.ixsP (hx:ev x t=.some (.sl r o n c)) (hy:ev y t=.some (.int q (Int.ofNat i))) (h:i<n) (hk:k (.ptr r (o+i*es)) s):EPrim (.ixs es x y) t s k:=by
 refine EPrim.mk (fun e rec=>?_) hk
 show wth x t _=_;unfold wth;rw [hx]
 show wth y t _=_;unfold wth;rw [hy]
 show gd (Nat.blt i n) _=_
 rw [show Nat.blt i n=true by simpa using h];rfl
variable {l:List AV}
theorem EPrim.ixsF (hx:ev x t=.some (.fz n c l)) (hy:ev y t=.some (.int q (Int.ofNat i))) (h:i<n) (hk:k (.fp (l.drop (i*es))) s):EPrim (.ixs es x y) t s k:=by
 rw [← dropL_eq] at hk
 refine EPrim.mk (fun e rec=>?_) hk
 show wth x t _=_;unfold wth;rw [hx]
 show wth y t _=_;unfold wth;rw [hy]
 show gd (Nat.blt i n) _=_
 rw [show Nat.blt i n=true by simpa using h];rfl
def Sl (es n:Nat) (l:List AV) (v:AV):Prop:=(v=.nils∧n=0∧l=[])∨(v=.es∧n=0∧l=[])∨(∃ c,v=.fz n c l∧l.length=n*es)
variable {v:AV}
theorem Sl.hf (h:Sl es n l v):hf v=true:=by
 rcases h with ⟨rfl,_⟩|⟨rfl,_⟩|⟨c,rfl,_⟩ <;> rfl
theorem EPrim.lenS (hx:ev x t=.some v) (h:Sl es n l v) (hk:k (.int .i64 (Int.ofNat n)) s):EPrim (.len x) t s k:=by
 refine EPrim.mk (v:=.int .i64 (Int.ofNat n)) (s':=s) (fun e rec=>?_) hk
 show wth x t _=_;unfold wth;rw [hx]
 rcases h with ⟨rfl,rfl,_⟩|⟨rfl,rfl,_⟩|⟨c,rfl,_⟩ <;> rfl
theorem EPrim.ixsS (hx:ev x t=.some v) (hs:Sl es n l v) (hy:ev y t=.some (.int q (Int.ofNat i))) (h:i<n) (hk:k (.fp (l.drop (i*es))) s):EPrim (.ixs es x y) t s k:=by
 rcases hs with ⟨rfl,rfl,_⟩|⟨rfl,rfl,_⟩|⟨c,rfl,_⟩
 ·omega
 ·omega
 ·exact EPrim.ixsF hx hy h hk
theorem EPrim.lenP (hx:ev x t=.some (.sl r o n c)) (hk:k (.int .i64 (Int.ofNat n)) s):EPrim (.len x) t s k:=by
 refine EPrim.mk (v:=.int .i64 (Int.ofNat n)) (s':=s) (fun e rec=>?_) hk
 show wth x t _=_;unfold wth;rw [hx];rfl
variable {a b:Nat}
theorem EPrim.xor32 (hx:ev x t=.some (.int .u32 (Int.ofNat a))) (hy:ev y t=.some (.int .u32 (Int.ofNat b))) (ha:a<4294967296) (hb:b<4294967296) (hk:k (.int .u32 (Int.ofNat (a ^^^ b))) s):EPrim (.bin .xor x y) t s k:=by
 refine bin_of hx hy (v:=.int .u32 (Int.ofNat (a ^^^ b))) ?_ hk
 show OV.some (.int .u32 (Int.ofNat (Nat.xor (a % 4294967296) (b % 4294967296))))=_
 rw [Nat.mod_eq_of_lt ha,Nat.mod_eq_of_lt hb];rfl
theorem EPrim.and32 (hx:ev x t=.some (.int .u32 (Int.ofNat a))) (hy:ev y t=.some (.int .u32 (Int.ofNat b))) (ha:a<4294967296) (hb:b<4294967296) (hk:k (.int .u32 (Int.ofNat (a &&& b))) s):EPrim (.bin .and x y) t s k:=by
 refine bin_of hx hy (v:=.int .u32 (Int.ofNat (a &&& b))) ?_ hk
 show OV.some (.int .u32 (Int.ofNat (Nat.land (a % 4294967296) (b % 4294967296))))=_
 rw [Nat.mod_eq_of_lt ha,Nat.mod_eq_of_lt hb];rfl
theorem EPrim.cpl32 (hx:ev x t=.some (.int .u32 (Int.ofNat a))) (ha:a<4294967296) (hk:k (.int .u32 (Int.ofNat (a ^^^ 4294967295))) s):EPrim (.un .xor x) t s k:=by
 refine EPrim.mk (v:=.int .u32 (Int.ofNat (a ^^^ 4294967295))) (s':=s) (fun e rec=>?_) hk
 show wth x t _=_;unfold wth;rw [hx]
 show RV.ok (.int .u32 (Int.ofNat (Nat.xor (4294967295 % 4294967296) (a % 4294967296)))) s=_
 rw [Nat.mod_eq_of_lt ha,Nat.mod_eq_of_lt (by omega)]
 show RV.ok (.int .u32 (Int.ofNat (4294967295 ^^^ a))) s=_
 rw [Nat.xor_comm]
theorem EPrim.shrN {r:IntKind}(hx:ev x t=.some (.int q (Int.ofNat a))) (hy:ev y t=.some (.int r (Int.ofNat n))) (hn:n≤q.bits) (hk:k (.int q (Int.ofNat (a / 2^n))) s):EPrim (.bin .shr x y) t s k:=by
 refine bin_of hx hy (v:=.int q (Int.ofNat (a / 2^n))) ?_ hk
 show OV.some (.int q (Int.ofNat (a / 2^(Nat.min n q.bits))))=_
 rw [show Nat.min n q.bits=n from Nat.min_eq_left hn]
theorem wrapN_u32 (ha:a<4294967296):wrapQ .u32 (Int.ofNat a)=Int.ofNat a:=by
 show Int.ofNat (a % 4294967296)=_;rw [Nat.mod_eq_of_lt ha]
theorem EPrim.cviU32 (hx:ev x t=.some (.int q (Int.ofNat a))) (ha:a<4294967296) (hk:k (.int .u32 (Int.ofNat a)) s):EPrim (.cvi .u32 x) t s k:=by
 refine EPrim.mk (v:=.int .u32 (Int.ofNat a)) (s':=s) (fun e rec=>?_) hk
 show wth x t _=_;unfold wth;rw [hx]
 show RV.ok (.int .u32 (wrapQ .u32 (Int.ofNat a))) s=_
 rw [wrapN_u32 ha]
theorem EPrim.incN {b:Int}(hx:ev x t=.some (.int .i64 (Int.ofNat a))) (hy:ev y t=.some (.int .i64 b)) (hb:b=1) (h:a<9223372036854775807) (hk:k (.int .i64 (Int.ofNat (a+1))) s):EPrim (.bin .add x y) t s k:=by
 subst hb
 refine EPrim.addS hx hy ?_ ?_
 ·have:Int.ofNat a=(a:Int):=rfl
  omega
 ·exact hk
theorem EPrim.lssN (hx:ev x t=.some (.int q (Int.ofNat a))) (hy:ev y t=.some (.int q (Int.ofNat b))) (h1:a<b->k (.bool true) s) (h2:b≤a->k (.bool false) s):EPrim (.bin .lss x y) t s k:=
 EPrim.lss2 hx hy (fun h=>h1 (by have e1:Int.ofNat a=(a:Int):=rfl;have e2:Int.ofNat b=(b:Int):=rfl;omega)) (fun h=>h2 (by have e1:Int.ofNat a=(a:Int):=rfl;have e2:Int.ofNat b=(b:Int):=rfl;omega))
end
def byV (b:Nat):AV:=.int .u8 (Int.ofNat b)
def bys (l:List Nat):List AV:=l.map byV
theorem bys_drop_get {l:List Nat}{i:Nat}(h:i<l.length):((bys l).drop (i*1))[0]?=some (.int .u8 (Int.ofNat l[i])):=by
 rw [List.getElem?_drop];simp [bys,byV,h]
end Go.AM
