/-
 Functions of the program as the abstract machine reads them, and what is stated of them, checked by the kernel. No conditions.
-/
import Derived.Test.YtnnbibnobmegpaaGreatAM3
set_option linter.unusedVariables false
set_option linter.unusedSimpArgs false
set_option linter.unnecessarySimpa false
set_option maxRecDepth 100000
namespace Go.AM
def Pq (cs:List AOper) (x:It):Prop:=∀ i,x=.op i→Ca cs i=false
structure Inv (P:Program) (N:Nat) (ops:Array Oper) (cs:List AOper) (its:List It) (tq:Nat→AT) (sq:Nat→St) (V:Nat→AV) (γ0:Gam) (s0:St) (w0:World) (ds:List Nat) (p:Nat) (D:Nat→Prop) (γ:Gam) (a:Act) (w:World):Prop where
 closed:KW ops D
 eff:∀ (q i:Nat),its[q]?=some (.op i)→Ca cs i=true→(D i↔q<p)
 below:∀ (q i:Nat),its[q]?=some (.op i)→D i→q<p
 slots:Slots ops V (tq 0) D γ a.tmps
 sim:Sim P γ (sq p) w
 stp:Stp γ0 s0 w0 γ (sq p) w
 size:N≤a.tmps.size
 defs:DR γ ds a.defers
 plen:p≤its.length
 ghost:∀ (q i d:Nat) (pp:AOp) (g:Option (Nat×Bool)),q<p→its[q]?=some (.op i)→¬ D i→cs[i]?=some (AOper.mk d pp g)→FW pp=true→AS g (tq q)=2→
  γ (sq q).next=none∧(sq q).next<(sq p).next∧s0.next≤(sq q).next∧(sq p).get (sq q).next=(sq (q+1)).get (sq q).next
 gdist:∀ (q q' i i' d d':Nat) (pp pp':AOp) (g g':Option (Nat×Bool)),q<q'→q'<p→its[q]?=some (.op i)→its[q']?=some (.op i')→¬ D i→¬ D i'→cs[i]?=some (AOper.mk d pp g)→cs[i']?=some (AOper.mk d' pp' g')→FW pp=true→FW pp'=true→
  AS g (tq q)=2→AS g' (tq q')=2→(sq q).next<(sq q').next
 grow:∀ q,q≤p→(∀ (k:Nat) (x:It),q≤k→k<p→its[k]?=some x→Pq cs x)→Grows (sq q) (sq p)
section
variable {P:Program}{e:Env}{rec:Rec}{n N:Nat}{ops:Array Oper}{cs:List AOper}{its:List It}{al:List AOper}{tq:Nat→AT}{sq:Nat→St}{V:Nat→AV}{γ γ0:Gam}{s0:St}{w w0:World}{ds:List Nat}{D:Nat→Prop}{a:Act}{p:Nat}
theorem Grows.refl (s:St):Grows s s:=fun _ _ h=>h
theorem Grows.trans {s1 s2 s3:St}(h:Grows s1 s2) (k:Grows s2 s3):Grows s1 s3:=fun r x hx=>k r x (h r x hx)
theorem Inv.advance (hp:Plan P N ops cs its al) (hr:Ran P e rec N ops cs its tq sq V) (h:Inv P N ops cs its tq sq V γ0 s0 w0 ds p D γ a w) {x:It}(hx:its[p]?=some x) (hn:Pq cs x):Inv P N ops cs its tq sq V γ0 s0 w0 ds (p+1) D γ a w:=by
 have hlen:p<its.length:=(Zog.1 hx).1
 have key:(sq (p+1)=sq p∧∀ (i d:Nat) (pp:AOp) (g:Option (Nat×Bool)),its[p]?=some (.op i)→cs[i]?=some (AOper.mk d pp g)→FW pp=true→AS g (tq p)=2→False)∨∃ obj,sq (p+1)=(sq p).alloc obj:=by
  cases x with
  | chk i=>exact .inl ⟨(hr.chk p i hx).2.1,fun i' d pp g hi=>by rw [hx] at hi;cases hi⟩
  | op i=>
   have hil:=hp.lt p i hx
   obtain ⟨o,ho⟩:∃ o,ops[i]?=some o:=⟨ops[i],by simp [hil]⟩
   obtain ⟨d,pp,g,c1,c2,c3,c4,c5,c6⟩:=hr.op p i o hx ho
   have hne:IL pp=false:=by have:=hn i rfl;simpa [Ca,c1,F3] using this
   rcases c6 with ⟨hw,_,hs⟩|⟨hw,hop⟩
   ·refine .inl ⟨hs,fun i' d' pp' g' hi' hc' _ hw'=>?_⟩
    rw [hx] at hi';cases hi';rw [c1] at hc';cases hc';rw [hw] at hw';cases hw'
   ·cases hm:FW pp with
    | true=>exact .inr (Zab hm hop)
    | false=>
     refine .inl ⟨?_,fun i' d' pp' g' hi' hc' hm' _=>?_⟩
     ·cases hl:HM pp with
      | true=>exact (Re hl _ _ _ hop).1
      | false=>exact (VG (A:=fun _ _=>True) (by simp [RC,hne,hl,hm]) _ _ _ hop).1
     ·rw [hx] at hi';cases hi';rw [c1] at hc';cases hc';rw [hm] at hm';cases hm'
 have heff:∀ (q i:Nat),its[q]?=some (.op i)→Ca cs i=true→(D i↔q<p+1):=by
  intro q i hq he
  rw [h.eff q i hq he]
  refine ⟨fun hl=>by omega,fun hl=>?_⟩
  rcases Zp8.1 hl with h1|h1
  ·exact h1
  ·subst h1;rw [hx] at hq;cases hq;rw [hn i rfl] at he;cases he
 rcases key with ⟨hs,hno⟩|⟨obj,hs⟩
 ·refine ⟨h.closed,heff,fun q i hq hd=>by have:=h.below q i hq hd;omega,h.slots,hs ▸ h.sim,hs ▸ h.stp,h.size,h.defs,by omega,?_,?_,?_⟩
  ·intro q i d pp g hq hi hd hc hm hw
   rcases Zp8.1 hq with h1|h1
   ·rw [hs];exact h.ghost q i d pp g h1 hi hd hc hm hw
   ·subst h1;exact (hno i d pp g hi hc hm hw).elim
  ·intro q q' i i' d d' pp pp' g g' hqq hq' hi hi' hd hd' hc hc' hm hm' hw hw'
   rcases Zp8.1 hq' with h1|h1
   ·exact h.gdist q q' i i' d d' pp pp' g g' hqq h1 hi hi' hd hd' hc hc' hm hm' hw hw'
   ·subst h1;exact (hno i' d' pp' g' hi' hc' hm' hw').elim
  ·intro q hq hk
   by_cases hqp:q=p+1
   ·subst hqp;exact Grows.refl _
   ·rw [hs];exact h.grow q (by omega) fun k x hqk hkp hkx=>hk k x hqk (by omega) hkx
 ·have hnext:(sq (p+1)).next=(sq p).next+1:=by rw [hs,C8]
  have hgr:Grows (sq p) (sq (p+1)):=by
   intro r y hy
   rw [hs,FF (by have:=h.sim.dom r y hy;omega)];exact hy
  refine ⟨h.closed,heff,fun q i hq hd=>by have:=h.below q i hq hd;omega,h.slots,hs ▸ h.sim.ghost obj,hs ▸ h.stp.ghost obj,h.size,h.defs,by omega,?_,?_,?_⟩
  ·intro q i d pp g hq hi hd hc hm hw
   rcases Zp8.1 hq with h1|h1
   ·obtain ⟨g1,g2,g3,g4⟩:=h.ghost q i d pp g h1 hi hd hc hm hw
    refine ⟨g1,by omega,g3,?_⟩
    rw [← g4,hs,FF (by omega)]
   ·subst h1
    exact ⟨h.sim.nx _ (Zo0 _),by omega,h.stp.next,rfl⟩
  ·intro q q' i i' d d' pp pp' g g' hqq hq' hi hi' hd hd' hc hc' hm hm' hw hw'
   rcases Zp8.1 hq' with h1|h1
   ·exact h.gdist q q' i i' d d' pp pp' g g' hqq h1 hi hi' hd hd' hc hc' hm hm' hw hw'
   ·subst h1;exact (h.ghost q i d pp g hqq hi hd hc hm hw).2.1
  ·intro q hq hk
   by_cases hqp:q=p+1
   ·subst hqp;exact Grows.refl _
   ·exact (h.grow q (by omega) fun k x hqk hkp hkx=>hk k x hqk (by omega) hkx).trans hgr
def Nq (cs:List AOper) (its:List It) (p:Nat):Prop:=p=its.length∨∃ i,its[p]?=some (.op i)∧Ca cs i=true
theorem Inv.forth (hp:Plan P N ops cs its al) (hr:Ran P e rec N ops cs its tq sq V):∀ (k p:Nat),its.length-p=k→Inv P N ops cs its tq sq V γ0 s0 w0 ds p D γ a w→∃ p',Inv P N ops cs its tq sq V γ0 s0 w0 ds p' D γ a w∧Nq cs its p':=by
 intro k
 induction k with
 | zero=>intro p hk h;exact ⟨p,h,.inl (by have:=h.plen;omega)⟩
 | succ k ih=>
  intro p hk h
  have hlen:p<its.length:=by omega
  obtain ⟨x,hx⟩:∃ x,its[p]?=some x:=⟨its[p],by simp [hlen]⟩
  cases x with
  | chk i=>exact ih (p+1) (by omega) (h.advance hp hr hx (fun i hi=>by cases hi))
  | op i=>
   cases he:Ca cs i with
   | true=>exact ⟨p,h,.inr ⟨i,hx,he⟩⟩
   | false=>exact ih (p+1) (by omega) (h.advance hp hr hx (fun j hj=>by cases hj;exact he))
variable {i:Nat}{o:Oper}
theorem T5 (h:KW ops D) (ho:ops[i]?=some o) (hpre:∀ e ∈ o.after.toList,Region.binds .any e=true→D e.on):KW ops (fun j=>D j∨j=i):=by
 intro j oj hj hd e he hb
 rcases hd with hd|rfl
 ·exact .inl (h j oj hj hd e he hb)
 ·rw [ho] at hj;cases hj;exact .inl (hpre e he hb)
variable {d:Nat}{γ':Gam}{w':World}{v':Value}
theorem Inv.effect (hp:Plan P N ops cs its al) (h:Inv P N ops cs its tq sq V γ0 s0 w0 ds p D γ a w) {pp:AOp}{g:Option (Nat×Bool)}(hx:its[p]?=some (.op i)) (he:Ca cs i=true) (ho:ops[i]?=some o) (hc:cs[i]?=some (AOper.mk d pp g)) (hcd:Ed N o.dst=some d)
 (hpre:∀ e ∈ o.after.toList,Region.binds .any e=true→D e.on) (hst:Stp γ (sq p) w γ' (sq (p+1)) w') (hs:Sim P γ' (sq (p+1)) w') (hv:VR γ' (V i) v'∨o.dst=none):
 Inv P N ops cs its tq sq V γ0 s0 w0 ds (p+1) (fun j=>D j∨j=i) γ' (a.put o.dst v') w':=by
 have hni:¬ D i:=fun hd=>by have:=(h.eff p i hx he).1 hd;omega
 have hlen:p<its.length:=(Zog.1 hx).1
 have hmk:FW pp=false:=by
  have:IL pp=true:=by simpa [Ca,hc,F3] using he
  cases pp <;> first|rfl|cases this
 refine ⟨T5 h.closed ho hpre,?_,?_,(h.slots.mono hst.le).put hp ho h.size hcd hv hni,hs,h.stp.trans hst,by rw [I4];exact h.size,by rw [Iq];exact h.defs.mono hst.le,by omega,?_,?_,?_⟩
 ·intro q j hq hej
  constructor
  ·rintro (hd|rfl)
   ·have:=(h.eff q j hq hej).1 hd;omega
   ·have:q=p:=by
     rcases Nat.lt_trichotomy q p with h1|h1|h1
     ·exact absurd rfl (hp.ne q p j j h1 hq hx)
     ·exact h1
     ·exact absurd rfl (hp.ne p q j j h1 hx hq)
    omega
  ·intro hl
   rcases Zp8.1 hl with h1|h1
   ·exact .inl ((h.eff q j hq hej).2 h1)
   ·subst h1;rw [hx] at hq;cases hq;exact .inr rfl
 ·rintro q j hq (hd|rfl)
  ·have:=h.below q j hq hd;omega
  ·have:q=p:=by
    rcases Nat.lt_trichotomy q p with h1|h1|h1
    ·exact absurd rfl (hp.ne q p j j h1 hq hx)
    ·exact h1
    ·exact absurd rfl (hp.ne p q j j h1 hx hq)
   omega
 ·intro q j d' pp' g' hq hi hd hc' hm hw
  rcases Zp8.1 hq with h1|h1
  ·obtain ⟨g1,g2,g3,g4⟩:=h.ghost q j d' pp' g' h1 hi (fun hh=>hd (.inl hh)) hc' hm hw
   refine ⟨?_,by have:=hst.next;omega,g3,?_⟩
   ·cases hgm:γ' (sq q).next with
    | none=>rfl
    | some L=>exact absurd (hst.new _ L hgm g1).1 (by omega)
   ·rw [hst.keep _ g1 g2];exact g4
  ·subst h1;rw [hx] at hi;cases hi;exact absurd (Or.inr rfl) hd
 ·intro q q' j j' d1 d2 p1 p2 g1 g2 hqq hq' hi hi' hd hd' hc1 hc2 hm1 hm2 hw1 hw2
  rcases Zp8.1 hq' with h1|h1
  ·exact h.gdist q q' j j' d1 d2 p1 p2 g1 g2 hqq h1 hi hi' (fun hh=>hd (.inl hh)) (fun hh=>hd' (.inl hh)) hc1 hc2 hm1 hm2 hw1 hw2
  ·subst h1;rw [hx] at hi';cases hi';exact absurd (Or.inr rfl) hd'
 ·intro q hq hk
  by_cases hqp:q=p+1
  ·subst hqp;exact Grows.refl _
  ·have:=hk p _ (by omega) (by omega) hx i rfl
   rw [he] at this;cases this
theorem Inv.floater (hp:Plan P N ops cs its al) (h:Inv P N ops cs its tq sq V γ0 s0 w0 ds p D γ a w) {q:Nat}(hx:its[q]?=some (.op i)) (hqp:q<p) (he:Ca cs i=false) (ho:ops[i]?=some o) (hcd:Ed N o.dst=some d) (hni:¬ D i)
 (hpre:∀ e ∈ o.after.toList,Region.binds .any e=true→D e.on) (hle:Le γ γ') (hst:Stp γ0 s0 w0 γ' (sq p) w') (hs:Sim P γ' (sq p) w') (hv:VR γ' (V i) v'∨o.dst=none)
 (hgh:∀ (q' i' d':Nat) (pp':AOp) (g':Option (Nat×Bool)),q'<p→its[q']?=some (.op i')→¬ D i'→i'≠i→cs[i']?=some (AOper.mk d' pp' g')→FW pp'=true→AS g' (tq q')=2→γ' (sq q').next=none):
 Inv P N ops cs its tq sq V γ0 s0 w0 ds p (fun j=>D j∨j=i) γ' (a.put o.dst v') w':=by
 refine ⟨T5 h.closed ho hpre,?_,?_,(h.slots.mono hle).put hp ho h.size hcd hv hni,hs,hst,by rw [I4];exact h.size,by rw [Iq];exact h.defs.mono hle,h.plen,?_,?_,h.grow⟩
 ·intro q' j hq hej
  rw [← h.eff q' j hq hej]
  exact ⟨fun hd=>hd.resolve_right (fun e=>by subst e;rw [he] at hej;cases hej),.inl⟩
 ·rintro q' j hq (hd|rfl)
  ·exact h.below q' j hq hd
  ·rcases Nat.lt_trichotomy q' q with h1|h1|h1
   ·exact absurd rfl (hp.ne q' q j j h1 hq hx)
   ·omega
   ·exact absurd rfl (hp.ne q q' j j h1 hx hq)
 ·intro q' j d' pp' g' hq hi hd hc' hm hw
  have hd1:¬ D j:=fun hh=>hd (.inl hh)
  obtain ⟨g1,g2,g3,g4⟩:=h.ghost q' j d' pp' g' hq hi hd1 hc' hm hw
  exact ⟨hgh q' j d' pp' g' hq hi hd1 (fun e=>hd (.inr e)) hc' hm hw,g2,g3,g4⟩
 ·intro q1 q2 j j' d1 d2 p1 p2 g1 g2 hqq hq' hi hi' hd hd' hc1 hc2 hm1 hm2 hw1 hw2
  exact h.gdist q1 q2 j j' d1 d2 p1 p2 g1 g2 hqq hq' hi hi' (fun hh=>hd (.inl hh)) (fun hh=>hd' (.inl hh)) hc1 hc2 hm1 hm2 hw1 hw2
end
end Go.AM
namespace Go.AM
section
variable {P:Program}{e:Env}{rec:Rec}{n N:Nat}{ops:Array Oper}{cs:List AOper}{its:List It}{al:List AOper}{tq:Nat→AT}{sq:Nat→St}{V:Nat→AV}{γ γ0:Gam}{s0:St}{w w0:World}{ds:List Nat}{D:Nat→Prop}{a:Act}{p:Nat}
variable {i:Nat}{o:Oper}
theorem Zfd (hp:Plan P N ops cs its al) (hr:Ran P e rec N ops cs its tq sq V) (h:Inv P N ops cs its tq sq V γ0 s0 w0 ds p D γ a w) (hP:Nq cs its p) {q d:Nat}{pp:AOp}{g:Option (Nat×Bool)}(hx:its[q]?=some (.op i)) (hqp:q<p) (ho:ops[i]?=some o) (hni:¬ D i)
 (hc:cs[i]?=some (AOper.mk d pp g)) (hl:HM pp=true) (hcd:Ed N o.dst=some d) (hcg:GW ops N o.guard=some g) (hw:AS g (tq q)=2) (hop:AH pp e rec (tq q) (sq q)=.ok (V i) (sq (q+1))) (hpre:∀ j,((BS ops.toList []).getD i 0).testBit j=true→D j):
 ∃ c,AH pp e rec (tq c) (sq p)=.ok (V i) (sq p)∧∀ x v,x ∈ Eu ops o→(tq c).get x=some v→∃ v',a.tmps[x]?=some v'∧VR γ v v':=by
 have hla:loadAt cs i=true:=by simp [loadAt,hc,F3,hl]
 have hck:=hp.loads q i hx hla
 -- is there an effect between?
 by_cases hex:∃ k j,q<k∧k<p∧its[k]?=some (.op j)∧Ca cs j=true
 ·-- the last of them
  have hlast:∃ k j,q<k∧k<p∧its[k]?=some (.op j)∧Ca cs j=true∧∀ (k':Nat) (x:It),k<k'→k'<p→its[k']?=some x→Pq cs x:=by
   have hstep:∀ (m:Nat),(∃ k j,q<k∧k<p∧its[k]?=some (.op j)∧Ca cs j=true∧p-k≤m)→∃ k j,q<k∧k<p∧its[k]?=some (.op j)∧Ca cs j=true∧∀ (k':Nat) (x:It),k<k'→k'<p→its[k']?=some x→Pq cs x:=by
    intro m
    induction m with
    | zero=>rintro ⟨k,j,h1,h2,_,_,h5⟩;omega
    | succ m ih=>
     rintro ⟨k,j,h1,h2,h3,h4,h5⟩
     by_cases hq2:∃ k' j',k<k'∧k'<p∧its[k']?=some (.op j')∧Ca cs j'=true
     ·obtain ⟨k',j',e1,e2,e3,e4⟩:=hq2
      exact ih ⟨k',j',by omega,e2,e3,e4,by omega⟩
     ·refine ⟨k,j,h1,h2,h3,h4,fun k' x hk hk' hx' i' hi'=>?_⟩
      subst hi'
      cases hef:Ca cs i' with
      | false=>rfl
      | true=>exact absurd ⟨k',i',hk,hk',hx',hef⟩ hq2
   obtain ⟨k,j,h1,h2,h3,h4⟩:=hex
   exact hstep p ⟨k,j,h1,h2,h3,h4,by omega⟩
  obtain ⟨k,j,h1,h2,h3,h4,h5⟩:=hlast
  have hDj:D j:=(h.eff k j h3 h4).2 h2
  have hjlt:=hp.lt k j h3
  have hnb:((BS ops.toList []).getD j 0).testBit i=false:=by
   cases hb:((BS ops.toList []).getD j 0).testBit i with
   | false=>rfl
   | true=>exact absurd (Un hp.back h.closed hjlt hDj hb) hni
  obtain ⟨c,c1,c2,c3⟩:=Zaz hck (k-(q+1)) j (by rw [Zoq,show q+1+(k-(q+1))=k by omega];exact h3) h4 hnb
  rw [Zoq] at c2
  have hcp:q+1+c<p:=by
   refine Nat.lt_of_not_le fun hge=>?_
   -- then item p lies between
   have hplt:p<its.length:=by have:=(Zog.1 c2).1;omega
   rcases hP with hP|⟨j2,hj2,he2⟩
   ·omega
   ·by_cases hpe:p=q+1+c
    ·rw [← hpe,hj2] at c2;cases c2
    ·have:=c3 (p-(q+1)) j2 (by omega) (by omega) (by rw [Zoq,show q+1+(p-(q+1))=p by omega];exact hj2)
     rw [he2] at this;cases this
  obtain ⟨e1,e2,d',pp',g',hc',hl',hk⟩:=hr.chk (q+1+c) i c2
  rw [hc] at hc';cases hc'
  have hsync:=Zec hp hr (V:=V) h.slots hx c2 (by omega) ho hpre
  have hsq:=QQ hp hr h.closed h.slots hx ho hni hpre
  refine ⟨q+1+c,?_,hsync⟩
  have hgr:=h.grow (q+1+c) (by omega) fun k' x hk1 hk2 hx'=>h5 k' x (by omega) hk2 hx'
  rcases hk with hk|⟨hk,v,s1,hv,hget⟩
  ·-- the guard has not turned
   exfalso
   have w1:=(Qs hsync hcg).2 hk
   have w2:=(Qs hsq hcg).1 hw
   rw [w1] at w2;cases w2
  ·-- the slot holds V i
   have hVi:v=V i:=by
    have hdd:o.dst=some d':=by
     cases hdo:o.dst with
     | none=>rw [hdo] at hcd;cases hcd
     | some z=>rw [hdo] at hcd;simp only [Ed] at hcd;split at hcd <;> cases hcd;rfl
    have hcl:q+1+c<its.length:=(Zog.1 c2).1
    rcases Oq hp hr d' v (q+1+c) (by omega) hget with ⟨q',j',oj,a1,a2,a3,a4,a5⟩|⟨a1,a2⟩
    ·rw [a5]
     rcases Nat.lt_trichotomy q' q with b1|b1|b1
     ·exact absurd hdd (hp.dst q' q j' i oj o d' b1 a2 hx a3 ho a4)
     ·subst b1;rw [hx] at a2;cases a2;rfl
     ·exact absurd a4 (hp.dst q q' i j' o oj d' b1 hx a2 ho a3 hdd)
    ·exact absurd hdd (a2 q i o (by omega) hx ho)
   subst hVi
   exact (Re hl _ _ _ hv).2 _ hgr
 ·-- none
  have hgr:Grows (sq (q+1)) (sq p):=h.grow (q+1) (by omega) fun k x hk1 hk2 hx' i' hi'=>by
   subst hi'
   cases hef:Ca cs i' with
   | false=>rfl
   | true=>exact absurd ⟨k,i',by omega,hk2,hx',hef⟩ hex
  obtain ⟨e1,e2⟩:=Re hl _ _ _ hop
  rw [e1] at hgr
  exact ⟨q,e2 _ hgr,QQ hp hr h.closed h.slots hx ho hni hpre⟩
variable {listed:Array Bool}
theorem NK (h:i ∈ Region.ready .any ops listed):∃ o,ops[i]?=some o∧listed.getD i true=false∧∀ e ∈ o.after.toList,Region.binds .any e=true→listed.getD e.on false=true:=by
 simp only [Region.ready,List.mem_filter,List.mem_range,Zoh] at h
 obtain ⟨hi,h1,h2⟩:=h
 obtain ⟨o,ho⟩:∃ o,ops[i]?=some o:=⟨ops[i],by simp [hi]⟩
 refine ⟨o,ho,by simpa using h1,fun e he hb=>?_⟩
 rw [ho] at h2
 simp only [Option.map_some,Option.getD_some] at h2
 have:=Array.all_eq_true'.1 h2 e (by simpa using he)
 simpa [hb] using this
def Dn (listed:Array Bool):Nat→Prop:=fun i=>listed.getD i false=true
theorem X0 (hi:i<listed.size):Dn (listed.setIfInBounds i true)=fun j=>Dn listed j∨j=i:=by
 funext j
 unfold Dn
 rw [Zph,Zph,Zpt]
 by_cases h:i=j
 ·subst h;simp [hi]
 ·rw [Zon h];simp;exact fun e=>absurd e.symm h
theorem T8 (hback:GA ops.toList 0=true) (hsz:listed.size=ops.size) (h:Region.ready .any ops listed=[]):∀ i,i<ops.size→Dn listed i:=by
 intro i
 induction i using Nat.strongRecOn with
 | _ i ih=>
  intro hi
  cases hd:listed.getD i false with
  | true=>exact hd
  | false=>
   exfalso
   obtain ⟨o,ho⟩:∃ o,ops[i]?=some o:=⟨ops[i],by simp [hi]⟩
   have hm:i ∈ Region.ready .any ops listed:=by
    simp only [Region.ready,List.mem_filter,List.mem_range,Zoh]
    refine ⟨hi,?_,?_⟩
    ·have:listed[i]?=some (listed[i]'(by omega)):=by simp [hsz,hi]
     rw [Zph,this] at hd
     rw [Zph,this]
     simpa using hd
    ·rw [ho]
     simp only [Option.map_some,Option.getD_some]
     refine Array.all_eq_true'.2 fun e he=>?_
     cases hb:Region.binds .any e with
     | false=>rfl
     | true=>
      have hlt:=T7 hback i o (by simpa using ho) e (by simpa using he) hb
      have:=ih e.on (by omega) (by omega)
      simpa [Dn] using this
   rw [h] at hm;cases hm
theorem Inv.post (hp:Plan P N ops cs its al) (hr:Ran P e rec N ops cs its tq sq V) (h:Inv P N ops cs its tq sq V γ0 s0 w0 ds p D γ a w) (hP:Nq cs its p) (hall:∀ i,i<ops.size→D i):
 Dj P γ0 s0 w0 N .normal (tq its.length) (sq its.length) ds .normal a w:=by
 have hpl:p=its.length:=by
  rcases hP with hP|⟨j,hj,he⟩
  ·exact hP
  ·have:=(h.eff p j hj he).1 (hall j (hp.lt p j hj));omega
 subst hpl
 refine ⟨rfl,h.size,γ,h.stp,h.sim,?_,h.defs⟩
 intro x v hv
 rcases Oq hp hr x v _ (Zo0 _) hv with ⟨q',j,o,a1,a2,a3,a4,rfl⟩|⟨a1,a2⟩
 ·exact h.slots.done j o x (hall j (hp.lt q' j a2)) a3 a4
 ·refine h.slots.rest x v a1 fun j o hd ho hx=>?_
  obtain ⟨q',hq'⟩:=hp.has j (Zpj.1 ho).1
  exact a2 q' j o (Zog.1 hq').1 hq' ho hx
variable {m:Nat}{b:Option Nat}
theorem Inv.step (hG:DG P n rec) (hE:EnvOk P e) (hp:Plan P N ops cs its al) (hr:Ran P e rec N ops cs its tq sq V) (h:Inv P N ops cs its tq sq V γ0 s0 w0 ds p D γ a w) (hP:Nq cs its p) (ho:ops[i]?=some o) (hni:¬ D i)
 (hpre:∀ e ∈ o.after.toList,Region.binds .any e=true→D e.on) {K:Act→World→Prop}{Q:Exit→Act→World→Prop}
 (hK:∀ p' γ' v' w',Inv P N ops cs its tq sq V γ0 s0 w0 ds p' (fun j=>D j∨j=i) γ' (a.put o.dst v') w'→K (a.put o.dst v') w'):wpOpIn (BJ b) m P ops Q i K a w:=by
 have hil:i<ops.size:=(Zpj.1 ho).1
 obtain ⟨q,hq⟩:=hp.has i hil
 obtain ⟨d,pp,g,c1,c2,c3,c4,c5,c6⟩:=hr.op q i o hq ho
 have hbef:=SG hp.back h.closed i o ho hpre
 have hsync:=QQ hp hr h.closed h.slots hq ho hni hbef
 obtain ⟨hw2,hw1⟩:=Qs hsync c4
 unfold wpOpIn
 simp only [ho]
 -- where it stands
 have hplace:(Ca cs i=true∧q=p)∨(Ca cs i=false∧q<p):=by
  have hnlt:p<q→False:=by
   intro hlt
   rcases hP with hP|⟨j,hj,he⟩
   ·have:=(Zog.1 hq).1;omega
   ·have hb:=hp.eff p q j i hlt hj hq he
    have hdj:=hbef j hb
    have:=(h.eff p j hj he).1 hdj;omega
  cases he:Ca cs i with
  | true=>
   refine .inl ⟨rfl,?_⟩
   have:¬ q<p:=fun hl=>hni ((h.eff q i hq he).2 hl)
   rcases Nat.lt_trichotomy q p with h1|h1|h1
   ·exact absurd h1 this
   ·exact h1
   ·exact (hnlt h1).elim
  | false=>
   refine .inr ⟨rfl,?_⟩
   rcases Nat.lt_trichotomy q p with h1|h1|h1
   ·exact h1
   ·exfalso
    rcases hP with hP|⟨j,hj,he'⟩
    ·have:=(Zog.1 hq).1;omega
    ·rw [h1,hj] at hq;cases hq;rw [he] at he';cases he'
   ·exact (hnlt h1).elim
 rcases c6 with ⟨hw,hVi,hsq⟩|⟨hw,hop⟩
 ·rw [Zon (by rw [hw1 hw];simp)]
  refine ⟨fun f _=>HN b f,?_⟩
  have hvr:VR γ (V i) undef∨o.dst=none:=.inl (by rw [hVi];exact Q8)
  rcases hplace with ⟨he,rfl⟩|⟨he,hqp⟩
  ·exact hK _ _ _ _ (h.effect hp hq he ho c1 c2 hpre (γ':=γ) (w':=w) (by rw [hsq];exact .refl _ _ _) (by rw [hsq];exact h.sim) hvr)
  ·exact hK _ _ _ _ (h.floater hp hq hqp he ho c2 hni hpre (γ':=γ) (w':=w) (Le.refl γ) h.stp h.sim hvr (fun q' i' d' pp' g' a1 a2 a3 _ a5 a6 a7=>(h.ghost q' i' d' pp' g' a1 a2 a3 a5 a6 a7).1))
 ·rw [Zoj (hw2 hw)]
  rcases hplace with ⟨he,rfl⟩|⟨he,hqp⟩
  ·exact LA hG hE c3 (RS hsync) h.sim hop fun γ' w' v' hst hs hv=>hK _ _ _ _ (h.effect hp hq he ho c1 c2 hpre hst hs hv)
  ·have hne:IL pp=false:=by simpa [Ca,c1,F3] using he
   have same:∀ (t1:AT),AH pp e rec t1 (sq p)=.ok (V i) (sq p)→(∀ x v,x ∈ Eu ops o→t1.get x=some v→∃ v',a.tmps[x]?=some v'∧VR γ v v')→o.wpIn (BJ b) m P a w K Q:=by
    intro t1 hop1 hs1
    refine LA hG hE c3 (RS hs1) h.sim hop1 fun γ' w' v' hst hs hv=>hK _ _ _ _ (h.floater hp hq hqp he ho c2 hni hpre hst.le (h.stp.trans hst) hs hv ?_)
    intro q' i' d' pp' g' a1 a2 a3 _ a5 a6 a7
    obtain ⟨g1,g2,_,_⟩:=h.ghost q' i' d' pp' g' a1 a2 a3 a5 a6 a7
    cases hgm:γ' (sq q').next with
    | none=>rfl
    | some L=>exact absurd (hst.new _ L hgm g1).1 (by omega)
   cases hl:HM pp with
   | true=>
    obtain ⟨c,k1,k2⟩:=Zfd hp hr h hP hq hqp ho hni c1 hl c2 c4 hw hop hbef
    exact same _ k1 k2
   | false=>
    cases hm:FW pp with
    | false=>exact same _ ((VG (A:=fun _ _=>True) (by simp [RC,hne,hl,hm]) _ _ _ hop).2 _ trivial) hsync
    | true=>
     have hnc:RF pp=false:=by cases pp <;> first|rfl|cases hm
     have c30:A0 P o=some pp:=by
      rcases PL c3 with hh|rfl
      ·exact hh
      ·cases hm
     have hnd:=SF c30
     rcases UF (w:=w) (γ:=γ) (RS hsync) c30 hnc hop with ⟨_,hf⟩|⟨hf,_⟩
     ·obtain ⟨obj,mkv,O,sz,es,v',hv,hsa,hrun,hk⟩:=hf
      obtain ⟨g1,g2,g3,g4⟩:=h.ghost q i d pp g hqp hq hni c1 hm hw
      have hle:=Fr (L:=⟨w.heap.size,0,sz,es⟩) g1
      obtain ⟨k1,k2⟩:=hk _ (sq q).next hle (BA _ _ _)
      refine ⟨fun f _=>HN b f,?_⟩
      rw [Oper.semAt_eq _ _ _ hnd,hrun,Oper.uponIn_value]
      refine hK _ _ _ _ (h.floater hp hq hqp he ho c2 hni hpre hle (h.stp.wake g1 g3) (h.sim.wake (obj:=obj) g1 g2 ?_ k1) (.inl (by rw [hv];exact k2)) ?_)
      ·intro x hx
       rw [g4,hsa] at hx
       rcases Gr hx with ⟨_,h1⟩|⟨h1,_⟩
       ·exact h1
       ·exact absurd rfl h1
      ·intro q' i' d' pp' g' a1 a2 a3 a4 a5 a6 a7
       have hne2:(sq q').next≠(sq q).next:=by
        rcases Nat.lt_trichotomy q' q with b1|b1|b1
        ·exact Nat.ne_of_lt (h.gdist q' q i' i d' d pp' pp g' g b1 hqp a2 hq a3 hni a5 c1 a6 hm a7 hw)
        ·subst b1;rw [hq] at a2;cases a2;exact absurd rfl a4
        ·exact (Nat.ne_of_lt (h.gdist q q' i i' d d' pp pp' g g' b1 a1 hq a2 hni a3 c1 a5 hm a6 hw a7)).symm
       rw [C9 _ _ hne2]
       exact (h.ghost q' i' d' pp' g' a1 a2 a3 a5 a6 a7).1
     ·rw [hm] at hf;cases hf
theorem Zdp (hG:DG P n rec) (hE:EnvOk P e) (hp:Plan P N ops cs its al) (hr:Ran P e rec N ops cs its tq sq V):∀ (fuel:Nat) (listed:Array Bool) (p:Nat) (γ:Gam) (a:Act) (w:World),listed.size=ops.size→listed.toList.count false≤fuel→
 Inv P N ops cs its tq sq V γ0 s0 w0 ds p (Dn listed) γ a w→Nq cs its p→wpAnyIn (BJ b) m P .any ops (Dj P γ0 s0 w0 N .normal (tq its.length) (sq its.length) ds) fuel listed a w:=by
 intro fuel
 induction fuel with
 | zero=>
  intro listed p γ a w hsz hcnt h hP
  have hall:∀ i,i<ops.size→Dn listed i:=by
   intro i hi
   unfold Dn
   cases hd:listed.getD i false with
   | true=>rfl
   | false=>
    exfalso
    have h0:listed.toList.count false=0:=by omega
    rw [List.count_eq_zero] at h0
    apply h0
    have:listed[i]?=some (listed[i]'(by omega)):=by simp [hsz,hi]
    rw [Zph,this] at hd
    simp at hd
    rw [← hd];simp
  refine ⟨?_,h.post hp hr hP hall⟩
  cases hrd:Region.ready .any ops listed with
  | nil=>rfl
  | cons i l=>
   obtain ⟨o,ho,hi,_⟩:=NK (show i ∈ Region.ready .any ops listed by rw [hrd];simp)
   have hil:i<ops.size:=(Zpj.1 ho).1
   have h1:=hall i hil
   unfold Dn at h1
   have:listed[i]?=some (listed[i]'(by omega)):=by simp [hsz,hil]
   rw [Zph,this] at h1 hi
   simp at h1 hi
   rw [h1] at hi;cases hi
 | succ fuel ih=>
  intro listed p γ a w hsz hcnt h hP
  refine ⟨fun hrd=>h.post hp hr hP (T8 hp.back hsz hrd),fun i hi=>?_⟩
  obtain ⟨o,ho,hd,hpre⟩:=NK hi
  have hil:i<ops.size:=(Zpj.1 ho).1
  have hget:listed[i]?=some (listed[i]'(by omega)):=by simp [hsz,hil]
  have hfalse:listed[i]'(by omega)=false:=by
   rw [Zph,hget] at hd;simpa using hd
  have hni:¬ Dn listed i:=by unfold Dn;rw [Zph,hget];simp [hfalse]
  refine h.step hG hE hp hr hP ho hni hpre ?_
  intro p' γ' v' w' hI
  obtain ⟨p2,hI2,hP2⟩:=hI.forth hp hr _ p' rfl
  rw [← X0 (by omega)] at hI2
  refine ih _ p2 γ' _ w' (by simp [hsz]) ?_ hI2 hP2
  rw [Array.toList_setIfInBounds,List.count_set (by simpa [hsz] using hil)]
  simp [hfalse]
  have hpos:0<listed.toList.count false:=List.count_pos_iff.2 (by rw [← hfalse];simp)
  simp at hpos hcnt
  omega
theorem Zar (hE:EnvOk P e) (hmix:P.follows .mixedOrders=true) (hG:DG P n rec):Vs P e rec:=by
 intro N id ops al γ t s w a b ds t' s' γ0 s0 w0 m hc hN ht hs hd hst h
 obtain ⟨cs,its,hp⟩:=Zhw hc
 obtain ⟨tq,sq,V,hr,e1,e2,e3,e4⟩:=Zlu hp h
 subst e1;subst e2;subst e3;subst e4
 refine wpIn_region_any hmix ?_
 have hI:Inv P N ops cs its tq sq V γ0 s0 w0 ds 0 (Dn (Array.replicate ops.size false)) γ a { w with drawn:=w.drawn+1 }:=by
  have hno:∀ i,¬ Dn (Array.replicate ops.size false) i:=by
   intro i hi
   unfold Dn at hi
   rw [Zph,Array.getElem?_replicate] at hi
   split at hi <;> simp at hi
  refine ⟨fun i o ho hd=>absurd hd (hno i),fun q i hq he=>⟨fun hd=>absurd hd (hno i),fun hl=>by omega⟩,fun q i hq hd=>absurd hd (hno i),⟨fun j o x hd=>absurd hd (hno j),fun x v hv _=>ht x v hv⟩,
   hs.drew,hst.trans Stp.drew,hN,hd,Zoy _,fun q i d pp g hq=>by omega,fun q q' i i' d d' pp pp' g g' h1 h2=>by omega,fun q hq _=>?_⟩
  have:q=0:=by omega
  subst this;exact Grows.refl _
 obtain ⟨p,hI2,hP⟩:=hI.forth hp hr _ 0 rfl
 exact Zdp hG hE hp hr ops.size _ p γ a _ (by simp) (by simp) hI2 hP
theorem LQ (hE:EnvOk P e) (hmix:P.follows .mixedOrders=true) (k:Nat):DG P k (exec e k):=Zap hE (fun n rec hG=>Zar hE hmix hG) k
end
end Go.AM
namespace Go.AM
def GR (a b:Rec):Prop:=∀ c t s rd ds x t' s' ds',a c t s rd ds=.ok x t' s' ds'→b c t s rd ds=.ok x t' s' ds'
section
variable {e:Env}{a b:Rec}
variable {r r':R}{v:AV}{s:St}
theorem Za0 {res:List ARes}(h:∀ x t s ds,r=.ok x t s ds→r'=.ok x t s ds) (hv:KI res r=.ok v s):KI res r'=.ok v s:=by
 cases r with
 | fail=>cases hv
 | ok x t s ds=>rw [h x t s ds rfl];exact hv
variable {f:Nat}{args:List AV}{s':St}
theorem Vm (h:GR a b) (hv:Gb e a f args s=.ok v s'):Gb e b f args s=.ok v s':=by
 unfold Gb at hv ⊢
 cases hg:e.G.get f with
 | none=>rw [hg] at hv;cases hv
 | some af=>
  rw [hg] at hv
  obtain ⟨code,res⟩:=af
  exact Za0 (fun x t s ds he=>h _ _ _ _ _ _ _ _ _ he) hv
theorem Oi (h:GR a b) (hv:C2 e a f args s=.ok v s'):C2 e b f args s=.ok v s':=by
 unfold C2 at hv ⊢
 cases ho:e.O.get f with
 | none=>rw [ho] at hv;exact Vm h hv
 | some hh=>
  rw [ho] at hv
  change (RV.rec (Gb e a f args s) (fun v s'=>.ok v s') (hh args s):RV)=.ok v s' at hv
  show (RV.rec (Gb e b f args s) (fun v s'=>.ok v s') (hh args s):RV)=.ok v s'
  cases hq:hh args s with
  | fail=>rw [hq] at hv;exact Vm h hv
  | ok v1 s1=>rw [hq] at hv;exact hv
variable {l:Nat}
theorem Zs (h:∀ x t s ds,r=.ok x t s ds→r'=.ok x t s ds) (hv:HE l r=.ok v s):HE l r'=.ok v s:=by
 cases r with
 | fail=>cases hv
 | ok x t s ds=>rw [h x t s ds rfl];exact hv
theorem Zby (h:GR a b) (hv:IE a l args s=.ok v s'):IE b l args s=.ok v s':=by
 unfold IE at hv ⊢
 obtain ⟨st,pend,fn,tm,ps,asg,body,d,hg,hv⟩:=MC hv
 unfold Du;rw [hg]
 obtain ⟨h1,hv⟩:=BC hv
 show gd _ _=_
 rw [h1]
 show Mc b l body (b asg (KY ps args tm) s (some l) [])=.ok v s'
 unfold Mc at hv ⊢
 obtain ⟨x,t1,s1,ds,hr,hv⟩:=PD hv
 rw [h _ _ _ _ _ _ _ _ _ hr]
 cases x with
 | normal=>
  obtain ⟨st,pend,fn,tm,ps,asg,body',d,hg,hv⟩:=MC (s:=s1) hv
  show (LP.rec .fail _ (Du l s1):RV)=_
  unfold Du;rw [hg]
  cases st with
  | ready=>exact Zs (fun x t s ds he=>h _ _ _ _ _ _ _ _ _ he) hv
  | busy=>exact hv
  | done=>exact hv
  | exhausted=>exact hv
 | exit id=>exact hv
 | ret=>exact hv
theorem Zdn (h:GR a b) {f:AV}(hv:Fu e a f args s=.ok v s'):Fu e b f args s=.ok v s':=by
 unfold Fu at hv ⊢
 cases hq:Fe f with
 | no=>rw [hq] at hv;cases hv
 | fn g x y=>rw [hq] at hv;exact Oi h hv
 | yld l=>rw [hq] at hv;exact Zby h hv
theorem Zdm (h:GR a b) {f:AV}(hv:KS e a f args s=.ok v s'):KS e b f args s=.ok v s':=by
 unfold KS at hv ⊢
 cases hq:Fe f with
 | no=>rw [hq] at hv;cases hv
 | fn g x y=>rw [hq] at hv;exact Oi h hv
 | yld l=>rw [hq] at hv;cases hv
theorem OU (h:GR a b) {p:AOp}{t:AT}(hv:AH p e a t s=.ok v s'):AH p e b t s=.ok v s':=by
 cases p with
 | call f args=>
  obtain ⟨fv,hf,hv⟩:=A7 hv
  obtain ⟨vs,hvs,hv⟩:=A6 hv
  show wth f t (fun fv=>Option.rec .fail (fun vs=>Fu e b fv vs s) (Co t args))=.ok v s'
  unfold wth
  rw [hf]
  show (Option.rec .fail (fun vs=>Fu e b fv vs s) (Co t args):RV)=.ok v s'
  rw [hvs]
  exact Zdn h hv
 | scall f args=>
  obtain ⟨vs,hvs,hv⟩:=A6 hv
  show (Option.rec .fail (fun vs=>Option.rec (C2 e b f vs s) (fun h=>h vs s) (e.X.get f)) (Co t args):RV)=.ok v s'
  rw [hvs]
  show (Option.rec (C2 e b f vs s) (fun h=>h vs s) (e.X.get f):RV)=.ok v s'
  cases hX:e.X.get f with
  | none=>rw [hX] at hv;exact Oi h hv
  | some hh=>rw [hX] at hv;exact hv
 | inv tb x args=>
  obtain ⟨xv,hx,hv⟩:=A7 hv
  obtain ⟨vs,hvs,hv⟩:=A6 hv
  obtain ⟨k,u,rfl,hv⟩:=Sh hv
  obtain ⟨f,hf,hv⟩:=A6 hv
  show wth x t (fun a=>Option.rec .fail (fun vs=>XR.rec .fail (fun k v=>Option.rec .fail (fun f=>C2 e b f (v::vs) s) (JF tb k)) (Lq a)) (Co t args))=.ok v s'
  unfold wth
  rw [hx]
  show (Option.rec .fail (fun vs=>Option.rec .fail (fun f=>C2 e b f (u::vs) s) (JF tb k)) (Co t args):RV)=.ok v s'
  rw [hvs]
  show (Option.rec .fail (fun f=>C2 e b f (u::vs) s) (JF tb k):RV)=.ok v s'
  rw [hf]
  exact Oi h hv
 | _=>exact hv
theorem QW (h:GR a b):∀ {l:List AOper}{t:AT}{s:St}{t':AT}{s':St},A4 e a l t s=.ok t' s'→A4 e b l t s=.ok t' s':=by
 intro l
 induction l with
 | nil=>intro t s t' s' hv;exact hv
 | cons o l ih=>
  intro t s t' s' hv
  cases o with
  | mk d p g=>
   change (Nat.rec .fail (fun w _=>Nat.rec (A4 e a l (B9 d (.tup []) t) s) (fun _ _=>RV.rec .fail (fun v s'=>A4 e a l (B9 d v t) s') (AH p e a t s)) w) (AS g t):RT)=.ok t' s' at hv
   show (Nat.rec .fail (fun w _=>Nat.rec (A4 e b l (B9 d (.tup []) t) s) (fun _ _=>RV.rec .fail (fun v s'=>A4 e b l (B9 d v t) s') (AH p e b t s)) w) (AS g t):RT)=.ok t' s'
   cases hw:AS g t with
   | zero=>rw [hw] at hv;cases hv
   | succ n=>
    rw [hw] at hv
    cases n with
    | zero=>exact ih hv
    | succ n=>
     change (RV.rec .fail (fun v s'=>A4 e a l (B9 d v t) s') (AH p e a t s):RT)=.ok t' s' at hv
     show (RV.rec .fail (fun v s'=>A4 e b l (B9 d v t) s') (AH p e b t s):RT)=.ok t' s'
     cases ho:AH p e a t s with
     | fail=>rw [ho] at hv;cases hv
     | ok v s1=>rw [ho] at hv;rw [OU h ho];exact ih hv
  | chk d p g=>
   change (Nat.rec .fail (fun w _=>Nat.rec (A4 e a l t s) (fun _ _=>RV.rec .fail (fun v _=>Option.rec .fail (fun v0=>Bool.rec .fail (A4 e a l t s) (Ck v v0)) (t.get d)) (AH p e a t s)) w) (AS g t):RT)=.ok t' s' at hv
   show (Nat.rec .fail (fun w _=>Nat.rec (A4 e b l t s) (fun _ _=>RV.rec .fail (fun v _=>Option.rec .fail (fun v0=>Bool.rec .fail (A4 e b l t s) (Ck v v0)) (t.get d)) (AH p e b t s)) w) (AS g t):RT)=.ok t' s'
   cases hw:AS g t with
   | zero=>rw [hw] at hv;cases hv
   | succ n=>
    rw [hw] at hv
    cases n with
    | zero=>exact ih hv
    | succ n=>
     change (RV.rec .fail (fun v _=>Option.rec .fail (fun v0=>Bool.rec .fail (A4 e a l t s) (Ck v v0)) (t.get d)) (AH p e a t s):RT)=.ok t' s' at hv
     show (RV.rec .fail (fun v _=>Option.rec .fail (fun v0=>Bool.rec .fail (A4 e b l t s) (Ck v v0)) (t.get d)) (AH p e b t s):RT)=.ok t' s'
     cases ho:AH p e a t s with
     | fail=>rw [ho] at hv;cases hv
     | ok v s1=>
      rw [ho] at hv;rw [OU h ho]
      change (Option.rec .fail (fun v0=>Bool.rec .fail (A4 e a l t s) (Ck v v0)) (t.get d):RT)=.ok t' s' at hv
      show (Option.rec .fail (fun v0=>Bool.rec .fail (A4 e b l t s) (Ck v v0)) (t.get d):RT)=.ok t' s'
      cases hd:t.get d with
      | none=>rw [hd] at hv;cases hv
      | some v0=>
       rw [hd] at hv
       change (Bool.rec .fail (A4 e a l t s) (Ck v v0):RT)=.ok t' s' at hv
       show (Bool.rec .fail (A4 e b l t s) (Ck v v0):RT)=.ok t' s'
       cases hq:Ck v v0 with
       | false=>rw [hq] at hv;cases hv
       | true=>rw [hq] at hv;exact ih hv
theorem Znj (h:GR a b) (c:AC):GR (fun _=>acF c e a) (fun _=>acF c e b):=by
 intro _ t s rd ds x t' s' ds' hv
 cases c with
 | skip=>exact hv
 | lab=>exact hv
 | scope c1=>exact h _ _ _ _ _ _ _ _ _ hv
 | exit id=>exact hv
 | ret=>exact hv
 | reg ops=>
  obtain ⟨t1,s1,ho,hk⟩:=Sp (show (RT.rec .fail (fun t' s'=>.ok .normal t' s' ds) (A4 e a ops t s):R)=.ok x t' s' ds' from hv)
  show (RT.rec .fail (fun t' s'=>.ok .normal t' s' ds) (A4 e b ops t s):R)=.ok x t' s' ds'
  rw [QW h ho];exact hk
 | seq c1 c2=>
  obtain ⟨x1,t1,s1,ds1,hr,hk⟩:=Lg (show (R.rec .fail (fun x t s ds=>Ex.rec (a c2 t s rd ds) (fun id=>.ok (.exit id) t s ds) (.ok .ret t s ds) x) (a c1 t s rd ds):R)=.ok x t' s' ds' from hv)
  show (R.rec .fail (fun x t s ds=>Ex.rec (b c2 t s rd ds) (fun id=>.ok (.exit id) t s ds) (.ok .ret t s ds) x) (b c1 t s rd ds):R)=.ok x t' s' ds'
  rw [h _ _ _ _ _ _ _ _ _ hr]
  cases x1 with
  | normal=>exact h _ _ _ _ _ _ _ _ _ hk
  | exit id=>exact hk
  | ret=>exact hk
 | cond y c1 c2=>
  obtain ⟨v,hv',hk⟩:=Pv (show (OV.rec .fail (fun v=>BR.rec .fail (a c1 t s rd ds) (a c2 t s rd ds) (asBool v)) (ev y t):R)=.ok x t' s' ds' from hv)
  show (OV.rec .fail (fun v=>BR.rec .fail (b c1 t s rd ds) (b c2 t s rd ds) (asBool v)) (ev y t):R)=.ok x t' s' ds'
  rw [hv']
  show (BR.rec .fail (b c1 t s rd ds) (b c2 t s rd ds) (asBool v):R)=.ok x t' s' ds'
  cases hb:asBool v with
  | no=>rw [hb] at hk;cases hk
  | tt=>rw [hb] at hk;exact h _ _ _ _ _ _ _ _ _ hk
  | ff=>rw [hb] at hk;exact h _ _ _ _ _ _ _ _ _ hk
 | block id c1=>
  obtain ⟨x1,t1,s1,ds1,hr,hk⟩:=Lg (show (R.rec .fail (fun x t s ds=>Ex.rec (.ok .normal t s ds) (fun id'=>Bool.rec (.ok (.exit id') t s ds) (.ok .normal t s ds) (Nat.beq id id')) (.ok .ret t s ds) x) (a c1 t s rd ds):R)=.ok x t' s' ds' from hv)
  show (R.rec .fail (fun x t s ds=>Ex.rec (.ok .normal t s ds) (fun id'=>Bool.rec (.ok (.exit id') t s ds) (.ok .normal t s ds) (Nat.beq id id')) (.ok .ret t s ds) x) (b c1 t s rd ds):R)=.ok x t' s' ds'
  rw [h _ _ _ _ _ _ _ _ _ hr];exact hk
 | loop c1=>
  obtain ⟨x1,t1,s1,ds1,hr,hk⟩:=Lg (show (R.rec .fail (fun x t s ds=>Ex.rec (a (.loop c1) t s rd ds) (fun id=>.ok (.exit id) t s ds) (.ok .ret t s ds) x) (a c1 t s rd ds):R)=.ok x t' s' ds' from hv)
  show (R.rec .fail (fun x t s ds=>Ex.rec (b (.loop c1) t s rd ds) (fun id=>.ok (.exit id) t s ds) (.ok .ret t s ds) x) (b c1 t s rd ds):R)=.ok x t' s' ds'
  rw [h _ _ _ _ _ _ _ _ _ hr]
  cases x1 with
  | normal=>exact h _ _ _ _ _ _ _ _ _ hk
  | exit id=>exact hk
  | ret=>exact hk
 | rng g ps asg body=>
  have go:∀ gv t d ds s0,GF e a gv ps asg body t d ds s0=.ok x t' s' ds'→GF e b gv ps asg body t d ds s0=.ok x t' s' ds':=by
   intro gv t d ds s0 hg
   unfold GF at hg ⊢
   obtain ⟨v,s2,hc,hk⟩:=Yb hg
   rw [Zdm h hc];exact hk
  obtain ⟨gv,hgv,hk⟩:=Pv (show (OV.rec .fail (fun gv=>Option.rec (GF e a gv ps asg body t s.next (s.next::ds) (s.alloc .defd)) (fun l=>LP.rec .fail (fun _ _ _ _ _ _ _ d=>GF e a gv ps asg body t d ds s) (Du l s)) rd) (ev g t):R)=.ok x t' s' ds' from hv)
  show (OV.rec .fail (fun gv=>Option.rec (GF e b gv ps asg body t s.next (s.next::ds) (s.alloc .defd)) (fun l=>LP.rec .fail (fun _ _ _ _ _ _ _ d=>GF e b gv ps asg body t d ds s) (Du l s)) rd) (ev g t):R)=.ok x t' s' ds'
  rw [hgv]
  cases rd with
  | none=>exact go _ _ _ _ _ hk
  | some l=>
   obtain ⟨st,pend,fn,tm,ps',asg',body',d,hg,hk⟩:=Pk hk
   show (LP.rec .fail _ (Du l s):R)=_
   unfold Du;rw [hg]
   exact go _ _ _ _ _ hk
theorem Zf4:∀ n,GR (exec e n) (exec e (n+1)):=by
 intro n
 induction n with
 | zero=>intro c t s rd ds x t' s' ds' h;cases h
 | succ n ih=>
  intro c t s rd ds x t' s' ds' h
  exact Znj ih c .skip t s rd ds x t' s' ds' h
theorem Hd {n m:Nat}(h:n≤m):GR (exec e n) (exec e m):=by
 induction h with
 | refl=>intro c t s rd ds x t' s' ds' h;exact h
 | step _ ih=>intro c t s rd ds x t' s' ds' h;exact Zf4 _ _ _ _ _ _ _ _ _ _ (ih _ _ _ _ _ _ _ _ _ h)
end
end Go.AM
namespace Go.AM
def Znn (P:Program) (N:Nat) (c:Code):AC→Prop
 | .skip=>c=.skip
 | .reg _=>∃ id ops dr,c=.region id ops dr∨AF P N c=some Lp
 | .seq a b=>∃ c1 c2,c=.seq c1 c2∧AF P N c1=some a∧AF P N c2=some b
 | .cond x a b=>∃ y c1 c2,c=.cond y c1 c2∧Ae y=some x∧AF P N c1=some a∧AF P N c2=some b
 | .block id a=>∃ c1,c=.block id c1∧AF P N c1=some a
 | .loop a=>∃ c1,c=.loop c1∧AF P N c1=some a
 | .rng g ps a b=>∃ y qs c1 c2,c=.rangeFunc y qs c1 c2∧Ae y=some g∧qs.toList=ps∧AF P N c1=some a∧AF P N c2=some b∧∀ p ∈ ps,p<N
 | .exit id=>c=.exit id
 | .scope a=>∃ c1,c=.scope c1∧AF P N c1=some a
 | .lab=>∃ l,c=.label l
 | .ret=>c=.ret
theorem Hk {P:Program}{N:Nat}{c:Code}{ac:AC}(h:AF P N c=some ac):Znn P N c ac:=by
 cases c with
 | skip=>cases h;rfl
 | ret=>cases h;rfl
 | exit id=>cases h;rfl
 | label l=>cases h;exact ⟨l,rfl⟩
 | scope c1=>
  obtain ⟨a,h1,rfl⟩:=map_some (show (AF P N c1).map AC.scope=some ac from h)
  exact ⟨_,rfl,h1⟩
 | region id ops dr=>
  cases dr with
  | false=>obtain ⟨al,_,rfl⟩:=map_some (show (ET P N ops ops.toList).map AC.reg=some ac from h);exact ⟨_,_,_,.inl rfl⟩
  | true=>
   have h':some (((FK P N ops).map AC.reg).getD Lp)=some ac:=h
   cases hal:FK P N ops with
   | none=>rw [hal] at h';cases h';exact ⟨_,_,_,.inl rfl⟩
   | some al=>rw [hal] at h';cases h';exact ⟨_,_,_,.inl rfl⟩
 | seq c1 c2=>
  simp only [AF] at h
  split at h
  ·rename_i a b h1 h2;cases h;exact ⟨_,_,rfl,h1,h2⟩
  ·cases h
 | cond y c1 c2=>
  simp only [AF] at h
  split at h
  ·rename_i x a b h0 h1 h2;cases h;exact ⟨_,_,_,rfl,h0,h1,h2⟩
  ·cases h
 | block id c1=>
  obtain ⟨a,h1,rfl⟩:=map_some (show (AF P N c1).map (AC.block id)=some ac from h)
  exact ⟨_,rfl,h1⟩
 | loop c1=>
  obtain ⟨a,h1,rfl⟩:=map_some (show (AF P N c1).map AC.loop=some ac from h)
  exact ⟨_,rfl,h1⟩
 | rangeFunc f ps asg body=>
  simp only [AF] at h
  split at h
  ·rename_i y a b h0 h1 h2
   split at h
   ·rename_i hps
    cases h
    refine ⟨_,_,_,_,rfl,h0,rfl,h1,h2,fun p hp=>?_⟩
    have:=Zqf.1 hps p hp
    simpa using this
   ·cases h
  ·cases h
 | _=>cases h;exact ⟨0,#[],false,.inr rfl⟩
def W (P:Program) (k:Nat) (rd:Option Nat) (ac:AC) (t:AT) (s:St) (ds:List Nat) (Q:Ex→AT→St→List Nat→Prop):Prop:=
 ∀ (N:Nat) (c:Code) (γ:Gam) (w:World) (a:Act) (b:Option Nat) (γ0:Gam) (s0:St) (w0:World) (m:Nat),
  AF P N c=some ac→N≤a.tmps.size→TR γ t a.tmps→Sim P γ s w→RD γ0 rd b→DR γ ds a.defers→Stp γ0 s0 w0 γ s w→s0.next=k→(∀ r,k≤r→γ0 r=none)→(∀ r,r<k→∃ L,γ0 r=some L)→
  c.wpIn (BJ b) m P (fun ex a' w'=>∃ x t' s' ds',Q x t' s' ds'∧Dj P γ0 s0 w0 N x t' s' ds' ex a' w') a w
section
variable {P:Program}{k:Nat}{rd:Option Nat}{t:AT}{s:St}{ds:List Nat}{Q:Ex→AT→St→List Nat→Prop}
variable {ac:AC}
theorem W.mono {Q':Ex→AT→St→List Nat→Prop}(h:W P k rd ac t s ds Q) (hq:∀ x t s ds,Q x t s ds→Q' x t s ds):W P k rd ac t s ds Q':=
 fun N c γ w a b γ0 s0 w0 m h1 h2 h3 h4 h5 h6 h7 h8 h9 h10=>wpIn_mono (h N c γ w a b γ0 s0 w0 m h1 h2 h3 h4 h5 h6 h7 h8 h9 h10) fun _ _ _ ⟨x,t',s',ds',hQ,hp⟩=>⟨x,t',s',ds',hq _ _ _ _ hQ,hp⟩
theorem W.exec {n:Nat}{rec:Rec}{x:Ex}{t':AT}{s':St}{ds':List Nat}(hG:DG P n rec) (h:rec ac t s rd ds=.ok x t' s' ds') (hq:Q x t' s' ds'):W P k rd ac t s ds Q:=
 fun N c γ w a b γ0 s0 w0 m h1 h2 h3 h4 h5 h6 h7 h8 h9 h10=>wpIn_mono (hG N c ac γ t s w a rd b ds x t' s' ds' γ0 s0 w0 m h1 h2 h3 h4 h5 h6 h7 h).1 fun _ _ _ hp=>⟨x,t',s',ds',hq,hp⟩
theorem Znk (h:Q .normal t s ds):W P k rd .skip t s ds Q:=by
 intro N c γ w a b γ0 s0 w0 m h1 h2 h3 h4 h5 h6 h7 h8 h9 h10
 cases (Hk h1:c=.skip)
 exact wpIn_skip ⟨_,_,_,_,h,rfl,h2,γ,h7,h4,h3,h6⟩
theorem W.ret (h:Q .ret t s ds):W P k rd .ret t s ds Q:=by
 intro N c γ w a b γ0 s0 w0 m h1 h2 h3 h4 h5 h6 h7 h8 h9 h10
 cases (Hk h1:c=.ret)
 exact wpIn_ret ⟨_,_,_,_,h,rfl,h2,γ,h7,h4,h3,h6⟩
theorem Znl {id:Nat}(h:Q (.exit id) t s ds):W P k rd (.exit id) t s ds Q:=by
 intro N c γ w a b γ0 s0 w0 m h1 h2 h3 h4 h5 h6 h7 h8 h9 h10
 cases (Hk h1:c=.exit id)
 exact wpIn_exit ⟨_,_,_,_,h,rfl,h2,γ,h7,h4,h3,h6⟩
theorem Zn9 (h:Q .normal t s ds):W P k rd .lab t s ds Q:=by
 intro N c γ w a b γ0 s0 w0 m h1 h2 h3 h4 h5 h6 h7 h8 h9 h10
 obtain ⟨l,rfl⟩:=(Hk h1:∃ l,c=.label l)
 exact wpIn_label ⟨_,_,_,_,h,rfl,h2,γ,h7,h4,h3,h6⟩
variable {x:AC}
theorem W.scope (h:W P k rd x t s ds Q):W P k rd (.scope x) t s ds Q:=by
 intro N c γ w a b γ0 s0 w0 m h1 h2 h3 h4 h5 h6 h7 h8 h9 h10
 obtain ⟨c1,rfl,e1⟩:=(Hk h1:∃ c1,c=.scope c1∧AF P N c1=some x)
 refine SQ ?_ (h N c1 γ w a b γ0 s0 w0 m e1 h2 h3 h4 h5 h6 h7 h8 h9 h10)
 rintro l a w ⟨x,t',s',ds',_,hp,_⟩
 cases x <;> simp [MT] at hp
def Hy (K:AT→St→List Nat→Prop) (Q:Ex→AT→St→List Nat→Prop) (x:Ex) (t:AT) (s:St) (ds:List Nat):Prop:=match x with
 | .normal=>K t s ds
 | .exit id=>Q (.exit id) t s ds
 | .ret=>Q .ret t s ds
theorem Qt {N:Nat}{γ0:Gam}{s0:St}{w0:World}{K:AT→St→List Nat→Prop}{J:Act→World→Prop}
 (hK:∀ t1 s1 ds1 γ1 a1 w1,K t1 s1 ds1→N≤a1.tmps.size→TR γ1 t1 a1.tmps→Sim P γ1 s1 w1→DR γ1 ds1 a1.defers→Stp γ0 s0 w0 γ1 s1 w1→J a1 w1):
 ∀ ex a1 w1,(∃ x t' s' ds',Hy K Q x t' s' ds'∧Dj P γ0 s0 w0 N x t' s' ds' ex a1 w1)→Exit.then J (fun ex a' w'=>∃ x t' s' ds',Q x t' s' ds'∧Dj P γ0 s0 w0 N x t' s' ds' ex a' w') ex a1 w1:=by
 rintro ex a1 w1 ⟨x,t',s',ds',hq,hp⟩
 obtain ⟨rfl,q1,γ1,q2,q3,q4,q5⟩:=hp
 cases x with
 | normal=>exact hK t' s' ds' γ1 a1 w1 hq q1 q4 q3 q5 q2
 | exit id=>exact ⟨_,_,_,_,hq,rfl,q1,γ1,q2,q3,q4,q5⟩
 | ret=>exact ⟨_,_,_,_,hq,rfl,q1,γ1,q2,q3,q4,q5⟩
variable {y:AC}
theorem W.seq (h:W P k rd x t s ds (Hy (fun t s ds=>W P k rd y t s ds Q) Q)):W P k rd (.seq x y) t s ds Q:=by
 intro N c γ w a b γ0 s0 w0 m h1 h2 h3 h4 h5 h6 h7 h8 h9 h10
 obtain ⟨c1,c2,rfl,e1,e2⟩:=(Hk h1:∃ c1 c2,c=.seq c1 c2∧AF P N c1=some x∧AF P N c2=some y)
 refine wpIn_seq (wpIn_mono (h N c1 γ w a b γ0 s0 w0 m e1 h2 h3 h4 h5 h6 h7 h8 h9 h10) (Qt ?_))
 intro t1 s1 ds1 γ1 a1 w1 hk q1 q2 q3 q4 q5
 exact hk N c2 γ1 w1 a1 b γ0 s0 w0 m e2 q1 q2 q3 h5 q4 q5 h8 h9 h10
theorem Xv {x:AO}{z:AC}{b:Bool}(hb:ev x t=.some (.bool b)) (h1:b=true→W P k rd y t s ds Q) (h2:b=false→W P k rd z t s ds Q):W P k rd (.cond x y z) t s ds Q:=by
 intro N c γ w a b' γ0 s0 w0 m g1 g2 g3 g4 g5 g6 g7 g8 g9 g10
 obtain ⟨o,c1,c2,rfl,e0,e1,e2⟩:=(Hk g1:∃ o c1 c2,c=.cond o c1 c2∧Ae o=some x∧AF P N c1=some y∧AF P N c2=some z)
 have hR:=Ps g3 e0 hb
 cases b with
 | true=>exact wpIn_cond_true (Hu hR) (h1 rfl N c1 γ w a b' γ0 s0 w0 m e1 g2 g3 g4 g5 g6 g7 g8 g9 g10)
 | false=>exact wpIn_cond_false (Hu hR) (h2 rfl N c2 γ w a b' γ0 s0 w0 m e2 g2 g3 g4 g5 g6 g7 g8 g9 g10)
def Ye (id:Nat) (Q:Ex→AT→St→List Nat→Prop) (x:Ex) (t:AT) (s:St) (ds:List Nat):Prop:=match x with
 | .normal=>Q .normal t s ds
 | .exit id'=>if id'=id then Q .normal t s ds else Q (.exit id') t s ds
 | .ret=>Q .ret t s ds
theorem W.block {id:Nat}(h:W P k rd x t s ds (Ye id Q)):W P k rd (.block id x) t s ds Q:=by
 intro N c γ w a b γ0 s0 w0 m h1 h2 h3 h4 h5 h6 h7 h8 h9 h10
 obtain ⟨c1,rfl,e1⟩:=(Hk h1:∃ c1,c=.block id c1∧AF P N c1=some x)
 refine wpIn_block (wpIn_mono (h N c1 γ w a b γ0 s0 w0 m e1 h2 h3 h4 h5 h6 h7 h8 h9 h10) ?_)
 rintro ex a1 w1 ⟨x1,t',s',ds',hq,rfl,q1,γ1,q2,q3,q4,q5⟩
 cases x1 with
 | normal=>exact ⟨_,_,_,_,hq,rfl,q1,γ1,q2,q3,q4,q5⟩
 | ret=>exact ⟨_,_,_,_,hq,rfl,q1,γ1,q2,q3,q4,q5⟩
 | exit id'=>
  show if id'=id then _ else _
  simp only [Ye] at hq
  split
  ·rename_i e;rw [Zoj e] at hq;exact ⟨_,_,_,_,hq,rfl,q1,γ1,q2,q3,q4,q5⟩
  ·rename_i e;rw [Zon e] at hq;exact ⟨_,_,_,_,hq,rfl,q1,γ1,q2,q3,q4,q5⟩
theorem W.loop (I:Nat→AT→St→List Nat→Prop) (n:Nat) (h0:I n t s ds)
 (hr:∀ n t s ds,I n t s ds→W P k rd x t s ds (Hy (fun t s ds=>∃ n',n'<n∧I n' t s ds) Q)):W P k rd (.loop x) t s ds Q:=by
 intro N c γ w a b γ0 s0 w0 m h1 h2 h3 h4 h5 h6 h7 h8 h9 h10
 obtain ⟨c1,rfl,e1⟩:=(Hk h1:∃ c1,c=.loop c1∧AF P N c1=some x)
 have key:∀ (j n:Nat) (t:AT) (s:St) (ds:List Nat) (γ:Gam) (a:Act) (w:World),n<j→I n t s ds→N≤a.tmps.size→TR γ t a.tmps→Sim P γ s w→DR γ ds a.defers→Stp γ0 s0 w0 γ s w→
  Code.roundsIn (BJ b) m P c1 (fun ex a' w'=>∃ x t' s' ds',Q x t' s' ds'∧Dj P γ0 s0 w0 N x t' s' ds' ex a' w') j a w:=by
  intro j
  induction j with
  | zero=>intro n t s ds γ a w hn;omega
  | succ j ih=>
   intro n t s ds γ a w hn hi q1 q2 q3 q4 q5
   rw [roundsIn_succ]
   refine wpIn_mono (hr n t s ds hi N c1 γ w a b γ0 s0 w0 m e1 q1 q2 q3 h5 q4 q5 h8 h9 h10) (Qt ?_)
   rintro t1 s1 ds1 γ1 a1 w1 ⟨n',hn',hi'⟩ r1 r2 r3 r4 r5
   exact ih n' t1 s1 ds1 γ1 a1 w1 (by omega) hi' r1 r2 r3 r4 r5
 exact wpIn_loop_rounds (n+1) (key (n+1) n t s ds γ a w (Nat.lt_succ_self _) h0 h2 h3 h4 h6 h7)
end
end Go.AM
namespace Go.AM
mutual
def A2 (ρ:Nat→Nat):AV→AV
 | .ptr r o=>.ptr (ρ r) o
 | .sl r o n c=>.sl (ρ r) o n c
 | .map r=>.map (ρ r)
 | .yld l=>.yld (ρ l)
 | .fn f a b=>.fn f (At ρ a) (At ρ b)
 | .iface t v=>.iface t (A2 ρ v)
 | .agg l=>.agg (At ρ l)
 | .tup l=>.tup (At ρ l)
 | v=>v
def At (ρ:Nat→Nat):List AV→List AV
 | []=>[]
 | v::l=>A2 ρ v::At ρ l
end
mutual
def bd (n:Nat):AV→Bool
 | .ptr r _=>Nat.blt r n
 | .sl r _ _ _=>Nat.blt r n
 | .map r=>Nat.blt r n
 | .yld l=>Nat.blt l n
 | .fn _ a b=>AB n a && AB n b
 | .iface _ v=>bd n v
 | .agg l=>AB n l
 | .tup l=>AB n l
 | _=>true
def AB (n:Nat):List AV→Bool
 | []=>true
 | v::l=>bd n v && AB n l
end
section
variable {P:Program}{γ γ2:Gam}{ρ:Nat→Nat}{n:Nat}
mutual
theorem HY (hz:∀ b c,γ.fz b=some c→γ2.fz b=some c):∀ (v:AV) {v':Value},hf v=true→VR γ v v'→VR γ2 v v'
 | .bool b,_,_,.bool _=>.bool _
 | .int k n,_,_,.int _ _=>.int _ _
 | .str l,_,_,.str _ s e=>.str _ s e
 | .ptr _ _,_,h,_=>by cases h
 | .nilp,_,_,.nilp=>.nilp
 | .sl ..,_,h,_=>by cases h
 | .nils,_,_,.nils=>.nils
 | .es,_,_,.es a c=>.es a c
 | .ez,_,_,.ez a=>.ez a
 | .map _,_,h,_=>by cases h
 | .nilm,_,_,.nilm=>.nilm
 | .fn f xs ys,_,h,.fn _ _ _ as bs a b=>by
  simp only [hf,Zoh] at h
  exact .fn f xs ys as bs (Hn hz xs h.1 a) (Hn hz ys h.2 b)
 | .yld _,_,h,_=>by cases h
 | .nilf,_,_,.nilf=>.nilf
 | .iface t v,_,h,.iface _ _ v' e=>.iface t v v' (HY hz v h e)
 | .nili,_,_,.nili=>.nili
 | .agg l,_,h,.agg _ a e o=>.agg l a (Hn hz l h e) o
 | .tup l,_,h,.tup _ a e=>.tup l a (Hn hz l h e)
 | .any,_,_,.any v e=>.any v e
 | .fz n c l,_,_,.fz _ _ _ vs b o cc cs e1 e2 e3 e4 e5 e6 e7=>.fz n c l vs b o cc cs (hz _ _ e1) e2 e3 (Hn hz l e7 e4) e5 e6 e7
 | .fp l,_,_,.fp _ vs b o cs e1 e2 e3 e4 e5=>.fp l vs b o cs (hz _ _ e1) e2 e3 (Hn hz l e5 e4) e5
theorem Hn (hz:∀ b c,γ.fz b=some c→γ2.fz b=some c):∀ (l:List AV) {m:List Value},hfs l=true→All2 (VR γ) l m→All2 (VR γ2) l m
 | [],_,_,.nil=>.nil
 | v::l,_,h,.cons a b=>by
  simp only [hfs,Zoh] at h
  exact .cons (HY hz v h.1 a) (Hn hz l h.2 b)
end
mutual
theorem IH (hz:∀ b c,γ.fz b=some c→γ2.fz b=some c) (hl:∀ r,r<n→∀ L,γ (ρ r)=some L→γ2 r=some L):∀ (v:AV) {v':Value},bd n v=true→VR γ (A2 ρ v) v'→VR γ2 v v'
 | .bool b,_,_,h=>by cases h;exact .bool _
 | .int k n,_,_,h=>by cases h;exact .int _ _
 | .str l,_,_,h=>by cases h;rename_i s e;exact .str _ s e
 | .ptr r o,_,hb,h=>by
  cases h with
  | ptr _ _ L e=>exact .ptr r o L (hl r (by simpa [bd] using hb) L e)
 | .nilp,_,_,h=>by cases h;exact .nilp
 | .sl r o m c,_,hb,h=>by
  cases h with
  | sl _ _ _ c L e a=>exact .sl r o m c L (hl r (by simpa [bd] using hb) L e) a
  | slu _ _ _ c L e a b d=>exact .slu r o m c L (hl r (by simpa [bd] using hb) L e) a b d
 | .nils,_,_,h=>by cases h;exact .nils
 | .es,_,_,h=>by cases h;exact .es _ _
 | .ez,_,_,h=>by cases h;exact .ez _
 | .map r,_,hb,h=>by
  cases h with
  | map _ L e=>exact .map r L (hl r (by simpa [bd] using hb) L e)
 | .nilm,_,_,h=>by cases h;exact .nilm
 | .fn f xs ys,_,hb,h=>by
  simp only [bd,Zoh] at hb
  cases h with
  | fn _ _ _ as bs a b=>exact .fn f xs ys as bs (KJ hz hl xs hb.1 a) (KJ hz hl ys hb.2 b)
 | .yld l,_,hb,h=>by
  cases h with
  | yld _ L e=>exact .yld l L (hl l (by simpa [bd] using hb) L e)
 | .nilf,_,_,h=>by cases h;exact .nilf
 | .iface t v,_,hb,h=>by
  cases h with
  | iface _ _ v' e=>exact .iface t v v' (IH hz hl v hb e)
 | .nili,_,_,h=>by cases h;exact .nili
 | .agg l,_,hb,h=>by
  cases h with
  | agg _ a e o=>exact .agg l a (KJ hz hl l hb e) o
 | .tup l,_,hb,h=>by
  cases h with
  | tup _ a e=>exact .tup l a (KJ hz hl l hb e)
 | .any,_,_,h=>by cases h;rename_i e;exact .any _ e
 | .fz m c l,_,_,h=>HY hz (.fz m c l) rfl h
 | .fp l,_,_,h=>HY hz (.fp l) rfl h
theorem KJ (hz:∀ b c,γ.fz b=some c→γ2.fz b=some c) (hl:∀ r,r<n→∀ L,γ (ρ r)=some L→γ2 r=some L):∀ (l:List AV) {m:List Value},AB n l=true→All2 (VR γ) (At ρ l) m→All2 (VR γ2) l m
 | [],_,_,h=>by cases h;exact .nil
 | v::l,_,hb,h=>by
  simp only [AB,Zoh] at hb
  cases h with
  | cons a b=>exact .cons (IH hz hl v hb.1 a) (KJ hz hl l hb.2 b)
end
mutual
theorem O3 (hρ:∀ r,r<n→ρ r=r):∀ (v:AV),bd n v=true→A2 ρ v=v
 | .ptr r o,h=>by simp only [A2];rw [hρ r (by simpa [bd] using h)]
 | .sl r o m c,h=>by simp only [A2];rw [hρ r (by simpa [bd] using h)]
 | .map r,h=>by simp only [A2];rw [hρ r (by simpa [bd] using h)]
 | .yld r,h=>by simp only [A2];rw [hρ r (by simpa [bd] using h)]
 | .fn f a b,h=>by simp only [bd,Zoh] at h;simp only [A2];rw [LY hρ a h.1,LY hρ b h.2]
 | .iface t v,h=>by simp only [A2];rw [O3 hρ v h]
 | .agg l,h=>by simp only [A2];rw [LY hρ l h]
 | .tup l,h=>by simp only [A2];rw [LY hρ l h]
 | .bool _,_|.int _ _,_|.str _,_|.nilp,_|.nils,_|.es,_|.ez,_|.nilm,_|.nilf,_|.nili,_|.any,_|.fz _ _ _,_|.fp _,_=>rfl
theorem LY (hρ:∀ r,r<n→ρ r=r):∀ (l:List AV),AB n l=true→At ρ l=l
 | [],_=>rfl
 | v::l,h=>by simp only [AB,Zoh] at h;simp only [At];rw [O3 hρ v h.1,LY hρ l h.2]
end
mutual
theorem Bz:∀ (v:AV),hf v=true→bd n v=true
 | .ptr ..,h=>by cases h
 | .sl ..,h=>by cases h
 | .map ..,h=>by cases h
 | .yld ..,h=>by cases h
 | .fn f a b,h=>by simp only [hf,Zoh] at h;simp only [bd,Zoh];exact ⟨Dd a h.1,Dd b h.2⟩
 | .iface t v,h=>Bz v h
 | .agg l,h=>Dd l h
 | .tup l,h=>Dd l h
 | .bool _,_|.int _ _,_|.str _,_|.nilp,_|.nils,_|.es,_|.ez,_|.nilm,_|.nilf,_|.nili,_|.any,_|.fz _ _ _,_|.fp _,_=>rfl
theorem Dd:∀ (l:List AV),hfs l=true→AB n l=true
 | [],_=>rfl
 | v::l,h=>by simp only [hfs,Zoh] at h;simp only [AB,Zoh];exact ⟨Bz v h.1,Dd l h.2⟩
end
mutual
theorem Bv:∀ (v:AV),hf v=true→A2 ρ v=v
 | .ptr ..,h=>by cases h
 | .sl ..,h=>by cases h
 | .map ..,h=>by cases h
 | .yld ..,h=>by cases h
 | .fn f a b,h=>by simp only [hf,Zoh] at h;simp only [A2];rw [Dc a h.1,Dc b h.2]
 | .iface t v,h=>by simp only [A2];rw [Bv v h]
 | .agg l,h=>by simp only [A2];rw [Dc l h]
 | .tup l,h=>by simp only [A2];rw [Dc l h]
 | .bool _,_|.int _ _,_|.str _,_|.nilp,_|.nils,_|.es,_|.ez,_|.nilm,_|.nilf,_|.nili,_|.any,_|.fz _ _ _,_|.fp _,_=>rfl
theorem Dc:∀ (l:List AV),hfs l=true→At ρ l=l
 | [],_=>rfl
 | v::l,h=>by simp only [hfs,Zoh] at h;simp only [At];rw [Bv v h.1,Dc l h.2]
end
variable {n:Nat}
theorem t9 {v:AV}{ρ:Nat→Nat}{x:Option AV}(h:hf v=true:=by assumption) (e:x=some v:=by rfl):bd n v=true∧x=some (A2 ρ v):=⟨Bz _ h,by rw [Bv _ h];exact e⟩
def F5 (ρ:Nat→Nat):List (AV×AV×Nat)→List (AV×AV×Nat)
 | []=>[]
 | (a,b,c)::l=>(A2 ρ a,A2 ρ b,c)::F5 ρ l
def Jf (n:Nat):List (AV×AV×Nat)→Bool
 | []=>true
 | (a,b,_)::l=>bd n a && bd n b && Jf n l
def Nc (n:Nat):T AV→Bool
 | .lf=>true
 | .nd v l r=>(match v with|none=>true|some v=>bd n v) && Nc n l && Nc n r
theorem Rx:∀ {t:T AV}{i:Nat}{v:AV},Nc n t=true→t.get i=some v→bd n v=true:=by
 intro t
 induction t with
 | lf=>intro i v _ h;cases h
 | nd x l r il ir=>
  intro i v hb h
  simp only [Nc,Zoh] at hb
  cases i with
  | zero=>change x=some v at h;subst h;exact hb.1.1
  | succ i=>
   change (Bool.rec (T.get r (Nat.div i 2)) (T.get l (Nat.div i 2)) (Nat.beq (Nat.mod i 2) 0):Option AV)=some v at h
   cases hc:Nat.beq (Nat.mod i 2) 0 <;> rw [hc] at h
   ·exact ir hb.2 h
   ·exact il hb.1.2 h
def B5 (ρ:Nat→Nat):AObj→AObj
 | .row e cs=>.row e (At ρ cs)
 | .map es c=>.map (F5 ρ es) c
 | .iter m b se l=>.iter (ρ m) b se l
 | o=>o
def Ds (k n:Nat):AObj→Bool
 | .row _ cs=>AB n cs
 | .map es _=>Jf n es
 | .iter m _ _ _=>Nat.blt m n
 | .loop _ _ _ tm _ _ _ d=>Nc k tm && Nat.blt d k
 | _=>true
theorem W6:∀ {l:List AV}{i:Nat}{v:AV},AB n l=true→l[i]?=some v→bd n v=true
 | [],i,v,_,h=>by simp at h
 | x::l,i,v,hb,h=>by
  simp only [AB,Zoh] at hb
  cases i with
  | zero=>simp at h;subst h;exact hb.1
  | succ i=>exact W6 hb.2 (by simpa using h)
theorem TW:∀ {l:List AV}{i:Nat}{v:AV},l[i]?=some v→(At ρ l)[i]?=some (A2 ρ v)
 | [],i,v,h=>by simp at h
 | x::l,i,v,h=>by
  cases i with
  | zero=>simp at h;subst h;rfl
  | succ i=>simp only [At];simpa using TW (l:=l) (by simpa using h)
theorem PH:∀ (l:List AV),(At ρ l).length=l.length
 | []=>rfl
 | x::l=>by simp [At,PH l]
variable {k:Nat}
theorem UI (hz:∀ b c,γ.fz b=some c→γ2.fz b=some c) (hl:∀ r,r<n→∀ L,γ (ρ r)=some L→γ2 r=some L) (hk:∀ r,r<k→ρ r=r) (hkn:k≤n) {L:Loc}{o:AObj}{hp:Array Obj}(hb:Ds k n o=true) (h:ObjR P γ L (B5 ρ o) hp):ObjR P γ2 L o hp:=by
 have hlk:∀ r,r<k→∀ L,γ r=some L→γ2 r=some L:=fun r hr L e=>hl r (by omega) L (by rw [hk r hr];exact e)
 have hid:∀ v,bd k v=true→∀ {v':Value},VR γ v v'→VR γ2 v v':=fun v hv v' e=>IH (ρ:=fun r=>r) hz hlk v hv (by rw [O3 (n:=k) (fun _ _=>rfl) v hv];exact e)
 cases o with
 | row e cs=>
  obtain ⟨c,h1,h2,h3,h4,h5,h6,h7⟩:=h
  rw [PH] at h5
  refine ⟨c,h1,h2,h3,h4,h5,fun i v hv=>?_,h7⟩
  obtain ⟨v',a,b,d⟩:=h6 i _ (TW hv)
  exact ⟨v',a,IH hz hl v (W6 hb hv) b,d⟩
 | dead=>trivial
 | map es clock=>
  obtain ⟨ms,h1,h2⟩:=h
  refine ⟨ms,h1,?_⟩
  have:∀ (es:List (AV×AV×Nat)) (ms:List MapEntry),Jf n es=true→All2 (fun (x:AV×AV×Nat) (m:MapEntry)=>VR γ x.1 m.key∧VR γ x.2.1 m.val∧m.born=x.2.2) (F5 ρ es) ms→All2 (fun (x:AV×AV×Nat) (m:MapEntry)=>VR γ2 x.1 m.key∧VR γ2 x.2.1 m.val∧m.born=x.2.2) es ms:=by
   intro es
   induction es with
   | nil=>intro ms _ h;cases h;exact .nil
   | cons x es ih=>
    intro ms hb h
    obtain ⟨a,b,c⟩:=x
    simp only [Jf,Zoh] at hb
    cases h with
    | cons h1 h2=>exact .cons ⟨IH hz hl a hb.1.1 h1.1,IH hz hl b hb.1.2 h1.2.1,h1.2.2⟩ (ih _ hb.2 h2)
  exact this es _ hb h2
 | loop st pend fn tm ps asg body d=>
  obtain ⟨lp,h1,h2,h3,h4,h5,h6,D,h8,h10⟩:=h
  simp only [Ds,Zoh] at hb
  exact ⟨lp,h1,h2,h3,fun i v hv=>(let ⟨v',a,b⟩:=h4 i v hv;⟨v',a,hid v (Rx hb.1 hv) b⟩),h5,h6,D,hlk d (by simpa using hb.2) D h8,h10⟩
 | defd=>exact h
 | iter m b se l=>
  obtain ⟨h0,M,h1,h2⟩:=h
  exact ⟨h0,M,hl m (by simpa [Ds] using hb) M h1,h2⟩
structure Ren (k:Nat) (ρ:Nat→Nat) (t:AT) (s:St) (ds:List Nat) (t2:AT) (s2:St) (ds2:List Nat):Prop where
 id:∀ r,r<k→ρ r=r
 le:k≤s2.next
 inj:∀ r r',r<s2.next→r'<s2.next→ρ r=ρ r'→r=r'
 tmp:∀ i v,t2.get i=some v→bd s2.next v=true∧t.get i=some (A2 ρ v)
 obj:∀ r o,s2.get r=some o→r<s2.next∧Ds k s2.next o=true∧s.get (ρ r)=some (B5 ρ o)
 ds:ds=ds2.map ρ∧∀ d ∈ ds2,d<s2.next
theorem FG (o:AObj):BG (B5 ρ o)=BG o:=by cases o <;> rfl
variable {t t2:AT}{s s2:St}{ds ds2:List Nat}
theorem Ren.sim (hR:Ren k ρ t s ds t2 s2 ds2) {γ:Gam}{w:World}{tm:Array Value}{D:List Deferred}{γ0:Gam}{s0:St}{w0:World}(h3:TR γ t tm) (h4:Sim P γ s w) (h6:DR γ ds D) (h7:Stp γ0 s0 w0 γ s w) (h8:s0.next=k) (h9:∀ r,k≤r→γ0 r=none) (h10:∀ r,r<k→∃ L,γ0 r=some L):
 ∃ γ2,TR γ2 t2 tm∧Sim P γ2 s2 w∧DR γ2 ds2 D∧Stp γ0 s0 w0 γ2 s2 w:=by
 let γ2:Gam:=⟨fun r=>if r<s2.next then γ (ρ r) else none,γ.fz⟩
 have g2:∀ r,r<s2.next→γ2 r=γ (ρ r):=fun r hr=>by show (if r<s2.next then γ (ρ r) else none)=_;rw [Zoj hr]
 have g2n:∀ r,¬ r<s2.next→γ2 r=none:=fun r hr=>by show (if r<s2.next then γ (ρ r) else none)=_;rw [Zon hr]
 have g2s:∀ r L,γ2 r=some L→r<s2.next∧γ (ρ r)=some L:=fun r L e=>by
  by_cases hr:r<s2.next
  ·rw [g2 r hr] at e;exact ⟨hr,e⟩
  ·rw [g2n r hr] at e;cases e
 have hz:∀ b c,γ.fz b=some c→γ2.fz b=some c:=fun _ _ e=>e
 have hl:∀ r,r<s2.next→∀ L,γ (ρ r)=some L→γ2 r=some L:=fun r hr L e=>by rw [g2 r hr];exact e
 have hT:TR γ2 t2 tm:=by
  intro i v hv
  obtain ⟨hb,ht⟩:=hR.tmp i v hv
  obtain ⟨v',e1,e2⟩:=h3 i _ ht
  exact ⟨v',e1,IH hz hl v hb e2⟩
 have hS:Sim P γ2 s2 w:=by
  refine ⟨?_,?_,?_,?_,?_,?_,?_⟩
  ·intro r o L ho hL
   obtain ⟨hr,hb,hs⟩:=hR.obj r o ho
   obtain ⟨_,hL⟩:=g2s r L hL
   exact UI hz hl hR.id hR.le hb (h4.obj _ _ L hs hL)
  ·intro r r' o o' L L' ho ho' ha ha' hL hL' hne
   obtain ⟨hr,hb,hs⟩:=hR.obj r o ho
   obtain ⟨hr',hb',hs'⟩:=hR.obj r' o' ho'
   exact h4.inj _ _ _ _ L L' hs hs' (by rw [FG];exact ha) (by rw [FG];exact ha') (g2s r L hL).2 (g2s r' L' hL').2 (fun e=>hne (hR.inj r r' hr hr' e))
  ·intro r L hL;exact h4.lt _ L (g2s r L hL).2
  ·intro r hr;exact g2n r (by omega)
  ·intro r o ho;exact (hR.obj r o ho).1
  ·exact h4.fzc
  ·intro r o L ho ha hL
   obtain ⟨hr,hb,hs⟩:=hR.obj r o ho
   exact h4.fzr _ _ L hs (by rw [FG];exact ha) (g2s r L hL).2
 have hD:DR γ2 ds2 D:=by
  obtain ⟨e,hd⟩:=hR.ds
  rw [e] at h6
  have:∀ (l:List Nat) (D':List Deferred),(∀ d ∈ l,d<s2.next)→DR γ (l.map ρ) D'→DR γ2 l D':=by
   intro l
   induction l with
   | nil=>intro D' _ h;cases h;exact .nil
   | cons d l ih=>
    intro D' hd h
    cases h with
    | cons h1 h2=>
     obtain ⟨L,e1,e2⟩:=h1
     exact .cons ⟨L,hl d (hd d (by simp)) L e1,e2⟩ (ih _ (fun x hx=>hd x (by simp [hx])) h2)
  exact this ds2 _ hd h6
 have hlt0:∀ r L,γ0 r=some L→r<k:=fun r L e=>by
  refine Nat.lt_of_not_le fun hk=>?_
  rw [h9 r hk] at e;cases e
 have hP:Stp γ0 s0 w0 γ2 s2 w:=by
  refine ⟨⟨?_,h7.le.fz⟩,?_,by rw [h8];exact hR.le,h7.size,h7.os,h7.tape,h7.output,h7.blk,?_,h7.fzn⟩
  ·intro r L e
   have hr:=hlt0 r L e
   rw [g2 r (Zp9 hr hR.le),hR.id r hr]
   exact h7.le.loc r L e
  ·intro r L e e0
   obtain ⟨hr,e⟩:=g2s r L e
   by_cases hk:r<k
   ·rw [hR.id r hk] at e
    exact h7.new r L e e0
   ·refine ⟨by omega,?_⟩
    cases hq:γ0 (ρ r) with
    | none=>exact (h7.new _ L e hq).2
    | some L'=>
     have:=h7.le.loc _ L' hq
     rw [e] at this;cases this
     exact .inr ⟨_,_,hq,rfl⟩
  ·intro r e0 hr
   obtain ⟨L,hL⟩:=h10 r (by omega)
   rw [hL] at e0;cases e0
 exact ⟨γ2,hT,hS,hD,hP⟩
theorem W.ren {rd:Option Nat}{Q:Ex→AT→St→List Nat→Prop}{ac:AC}(hR:Ren k ρ t s ds t2 s2 ds2) (h:W P k rd ac t2 s2 ds2 Q):W P k rd ac t s ds Q:=by
 intro N c γ w a b γ0 s0 w0 m h1 h2 h3 h4 h5 h6 h7 h8 h9 h10
 obtain ⟨γ2,hT,hS,hD,hP⟩:=hR.sim h3 h4 h6 h7 h8 h9 h10
 exact h N c γ2 w a b γ0 s0 w0 m h1 h2 hT hS h5 hD hP h8 h9 h10
end
end Go.AM
namespace Go.AM
section
variable {P:Program}
def G4 (P : Program) (f : Nat) : Prop := ∃ fn c, P.funcs[f]? = some fn ∧ fn.body = some c ∧ (fn.name == "runtime.NumGoroutine") = false
def C (P:Program) (f:Nat) (args:List AV) (s:St) (Q:AV→St→Prop):Prop:=
 ∀ (γ:Gam) (vals:List Value) (w:World) (m:Nat),All2 (VR γ) args vals→Sim P γ s w→CallsIn Fence.wide m P f vals.toArray w (fun e w'=>∃ v s',Q v s'∧EF P γ s w v s' e w')
variable {f:Nat}{args:List AV}{s:St}{Q:AV→St→Prop}
theorem C.mono {Q':AV→St→Prop}(h:C P f args s Q) (hq:∀ v s,Q v s→Q' v s):C P f args s Q':=
 fun γ vals w m h1 h2=>CallsIn.mono (h γ vals w m h1 h2) fun _ _ ⟨v,s',q,p⟩=>⟨v,s',hq _ _ q,p⟩
def Bx (res:List ARes) (Q:AV→St→Prop) (x:Ex) (t:AT) (s:St) (ds:List Nat):Prop:=
 (x=.normal∨x=.ret)∧∃ s2 l,Gg ds s=some s2∧D3 t s2 res=some l∧Q (one l) s2
def C1 (P:Program) (f:Nat) (args:List AV) (s:St) (Q:AV→St→Prop):Prop:=
 ∀ (γ:Gam) (vals:List Value) (w:World) (m:Nat),(∀ r,r<s.next→∃ L,γ r=some L)→All2 (VR γ) args vals→Sim P γ s w→CallsIn Fence.wide m P f vals.toArray w (fun e w'=>∃ v s',Q v s'∧EF P γ s w v s' e w')
variable {fn:Func}{code:AC}{res:List ARes}
theorem C1.of_W (hf:P.funcs[f]?=some fn) (hc:GI P fn=some (.mk code res))
 (h:W P s.next none code (Ah args 0 .lf) s [] (Bx res Q)):C1 P f args s Q:=by
 intro γ vals w m hall hA hs
 unfold GI at hc
 split at hc
 ·rename_i b hb
  split at hc
  ·rename_i cd rs hcd hrs
   cases hc
   refine callsIn_of_wp_marks hf hb trivial ?_
   have hTR:TR γ (Ah args 0 .lf) (vals.toArray++Array.replicate (fn.ntmps-vals.toArray.size) undef):=by
    refine QJ args vals _ 0 .lf hA (Sn _) ?_
    intro j u hj
    rw [Zou,Array.getElem?_append]
    have hlt:=(Zog.1 hj).1
    rw [Zoj (by simpa using hlt)]
    simpa using hj
   have hsz:fn.ntmps≤(vals.toArray++Array.replicate (fn.ntmps-vals.toArray.size) undef).size:=by simp;omega
   have hw:=h fn.ntmps b γ w { tmps:=vals.toArray++Array.replicate (fn.ntmps-vals.toArray.size) undef,defers:=[] } none γ s w m hcd hsz hTR hs rfl .nil (.refl _ _ _) rfl hs.nx hall
   refine wpIn_mono hw ?_
   rintro ex a' w' ⟨x,t',s',ds',⟨hx,s2,l,hq,hl,hQ⟩,rfl,_,γ',hst,hsim,ht,hd⟩
   have fin:LeavesInM Fence.wide m P fn a'.tmps (fun e w'=>∃ v s',Q v s'∧EF P γ s w v s' e w') a'.defers .returning w':=by
    exact PJ (s2:=s2) hrs (fun e w' hp=>⟨_,_,hQ,hp⟩) m ds' a'.defers s' w' hd hq hsim hst ht hl
   rcases hx with rfl|rfl
   ·exact fin
   ·exact fin
  ·cases hc
 ·cases hc
theorem C.of_W (hf:P.funcs[f]?=some fn) (hc:GI P fn=some (.mk code res))
 (h:W P 0 none code (Ah args 0 .lf) (.mk 0 .lf) [] (Bx res Q)):C P f args (.mk 0 .lf) Q:=
 fun γ vals w m hA hs=>C1.of_W (s:=.mk 0 .lf) hf hc h γ vals w m (fun r hr=>absurd hr (Nat.not_lt_zero r)) hA hs
end
end Go.AM
namespace Go.AM
section
variable {P:Program}{γ γ2:Gam}{σ:Nat→Nat}
mutual
theorem J9 (hz:∀ b c,γ.fz b=some c→γ2.fz b=some c) (hl:∀ r L,γ r=some L→γ2 (σ r)=some L):∀ (v:AV) {v':Value},VR γ v v'→VR γ2 (A2 σ v) v'
 | .bool b,_,h=>by cases h;exact .bool _
 | .int k n,_,h=>by cases h;exact .int _ _
 | .str l,_,h=>by cases h;rename_i s e;exact .str _ s e
 | .ptr r o,_,h=>by
  cases h with
  | ptr _ _ L e=>exact .ptr _ o L (hl r L e)
 | .nilp,_,h=>by cases h;exact .nilp
 | .sl r o m c,_,h=>by
  cases h with
  | sl _ _ _ c L e a=>exact .sl _ o m c L (hl r L e) a
  | slu _ _ _ c L e a b d=>exact .slu _ o m c L (hl r L e) a b d
 | .nils,_,h=>by cases h;exact .nils
 | .es,_,h=>by cases h;exact .es _ _
 | .ez,_,h=>by cases h;exact .ez _
 | .map r,_,h=>by
  cases h with
  | map _ L e=>exact .map _ L (hl r L e)
 | .nilm,_,h=>by cases h;exact .nilm
 | .fn f xs ys,_,h=>by
  cases h with
  | fn _ _ _ as bs a b=>exact .fn f _ _ as bs (Mq hz hl xs a) (Mq hz hl ys b)
 | .yld l,_,h=>by
  cases h with
  | yld _ L e=>exact .yld _ L (hl l L e)
 | .nilf,_,h=>by cases h;exact .nilf
 | .iface t v,_,h=>by
  cases h with
  | iface _ _ v' e=>exact .iface t _ v' (J9 hz hl v e)
 | .nili,_,h=>by cases h;exact .nili
 | .agg l,_,h=>by
  cases h with
  | agg _ a e o=>exact .agg _ a (Mq hz hl l e) o
 | .tup l,_,h=>by
  cases h with
  | tup _ a e=>exact .tup _ a (Mq hz hl l e)
 | .any,_,h=>by cases h;rename_i e;exact .any _ e
 | .fz m c l,_,h=>HY hz (.fz m c l) rfl h
 | .fp l,_,h=>HY hz (.fp l) rfl h
theorem Mq (hz:∀ b c,γ.fz b=some c→γ2.fz b=some c) (hl:∀ r L,γ r=some L→γ2 (σ r)=some L):∀ (l:List AV) {m:List Value},All2 (VR γ) l m→All2 (VR γ2) (At σ l) m
 | [],_,h=>by cases h;exact .nil
 | v::l,_,h=>by
  cases h with
  | cons a b=>exact .cons (J9 hz hl v a) (Mq hz hl l b)
end
theorem Tw:∀ {l:List AV}{i:Nat}{v:AV},(At σ l)[i]?=some v→∃ u,l[i]?=some u∧v=A2 σ u
 | [],i,v,h=>by simp [At] at h
 | x::l,i,v,h=>by
  simp only [At] at h
  cases i with
  | zero=>simp at h;exact ⟨x,by simp,h.symm⟩
  | succ i=>simpa using Tw (l:=l) (by simpa using h)
def OS:AObj→Bool
 | .loop ..=>false
 | _=>true
theorem UJ (hz:∀ b c,γ.fz b=some c→γ2.fz b=some c) (hl:∀ r L,γ r=some L→γ2 (σ r)=some L) {L:Loc}{o:AObj}{hp:Array Obj}(hb:OS o=true) (h:ObjR P γ L o hp):ObjR P γ2 L (B5 σ o) hp:=by
 cases o with
 | row e cs=>
  obtain ⟨c,h1,h2,h3,h4,h5,h6,h7⟩:=h
  refine ⟨c,h1,h2,h3,h4,by rw [PH];exact h5,fun i v hv=>?_,h7⟩
  obtain ⟨u,hu,rfl⟩:=Tw hv
  obtain ⟨v',a,b,d⟩:=h6 i u hu
  exact ⟨v',a,J9 hz hl u b,d⟩
 | dead=>trivial
 | map es clock=>
  obtain ⟨ms,h1,h2⟩:=h
  refine ⟨ms,h1,?_⟩
  have:∀ (es:List (AV×AV×Nat)) (ms:List MapEntry),All2 (fun (x:AV×AV×Nat) (m:MapEntry)=>VR γ x.1 m.key∧VR γ x.2.1 m.val∧m.born=x.2.2) es ms→All2 (fun (x:AV×AV×Nat) (m:MapEntry)=>VR γ2 x.1 m.key∧VR γ2 x.2.1 m.val∧m.born=x.2.2) (F5 σ es) ms:=by
   intro es
   induction es with
   | nil=>intro ms h;cases h;exact .nil
   | cons x es ih=>
    intro ms h
    obtain ⟨a,b,c⟩:=x
    cases h with
    | cons h1 h2=>exact .cons ⟨J9 hz hl a h1.1,J9 hz hl b h1.2.1,h1.2.2⟩ (ih _ h2)
  exact this es _ h2
 | loop st pend fn tm ps asg body d=>cases hb
 | defd=>exact h
 | iter m b se l=>obtain ⟨h0,M,h1,h2⟩:=h;exact ⟨h0,M,hl m M h1,h2⟩
noncomputable def Ac (s:St):List AObj→St
 | []=>s
 | o::l=>Ac (s.alloc o) l
theorem H8:∀ (l:List AObj) (s:St),(Ac s l).next=s.next+l.length
 | [],s=>rfl
 | o::l,s=>by rw [Ac,H8 l,C8,Zo9];omega
theorem Jq:∀ (l:List AObj) (s:St) {r:Nat},r<s.next→(Ac s l).get r=s.get r
 | [],s,r,_=>rfl
 | o::l,s,r,h=>by rw [Ac,Jq l _ (by rw [C8];omega),FF (by omega)]
theorem Ko:∀ (l:List AObj) (s:St) {r:Nat}{o:AObj},s.next≤r→(∀ r,s.next≤r→s.get r=none)→(Ac s l).get r=some o→l[r-s.next]?=some o
 | [],s,r,o,h,hn,hg=>by
  have e:s.get r=some o:=hg
  rw [hn r h] at e;cases e
 | x::l,s,r,o,h,hn,hg=>by
  rw [Ac] at hg
  by_cases e:r=s.next
  ·subst e
   rw [Jq l _ (by rw [C8];omega)] at hg
   rcases Gr hg with ⟨_,rfl⟩|⟨e,_⟩
   ·simp
   ·exact absurd rfl e
  ·have:=Ko l (s.alloc x) (r:=r) (by rw [C8];omega) (fun r hr=>by rw [C8] at hr;rw [FF (by omega)];exact hn r (by omega)) hg
   rw [C8] at this
   rw [show r-s.next=(r-(s.next+1))+1 by omega]
   simpa using this
abbrev St0:St:=.mk 0 .lf
theorem Pz {w:World}{φ:Nat→Option (Array Value)}(h:∀ b c,φ b=some c→∃ e fr,w.heap[b]?=some (.cells c e fr)):Sim P ⟨fun _=>none,φ⟩ St0 w:=
 ⟨fun r o L h=>(by cases h),fun r r' o o' L L' h=>(by cases h),fun r L h=>(by cases h),fun r _=>rfl,fun r o h=>(by cases h),h,fun r o L h=>(by cases h)⟩
theorem C.frame {f:Nat}{args:List AV}{u:AV}{l:List AObj}(ha:hfs args=true) (hl:∀ o ∈ l,OS o=true) (hlen:0<l.length∨l=[])
 (h:C P f args St0 (fun v s'=>v=u∧s'=Ac St0 l)) (hall:∀ i o,l[i]?=some o→(Ac St0 l).get i=some o) (s:St):C P f args s (fun v s'=>v=A2 (·+s.next) u∧s'=Ac s (l.map (B5 (·+s.next)))):=by
 intro γ vals w m hA hs
 have hA':=Hn (γ:=γ) (γ2:=⟨fun _=>none,γ.fz⟩) (fun _ _ e=>e) args ha hA
 refine CallsIn.mono (h ⟨fun _=>none,γ.fz⟩ vals w m hA' (Pz hs.fzc)) ?_
 rintro e w' ⟨v,s',⟨rfl,rfl⟩,v',γ',rfl,hst,hsim,hv⟩
 refine ⟨_,_,⟨rfl,rfl⟩,v',⟨fun r=>if r<s.next then γ r else γ' (r-s.next),γ'.fz⟩,rfl,?_,?_,?_⟩
 rotate_right
 ·refine J9 (γ:=γ') (γ2:=⟨fun r=>if r<s.next then γ r else γ' (r-s.next),γ'.fz⟩) (fun _ _ e=>e) (fun r L e=>?_) v hv
  show (if r+s.next<s.next then γ (r+s.next) else γ' (r+s.next-s.next))=some L
  rw [Zon (by omega),Nat.add_sub_cancel];exact e
 all_goals
  have g1:∀ r,r<s.next→(⟨fun r=>if r<s.next then γ r else γ' (r-s.next),γ'.fz⟩:Gam) r=γ r:=fun r hr=>Zoj hr
  have g2:∀ r,¬ r<s.next→(⟨fun r=>if r<s.next then γ r else γ' (r-s.next),γ'.fz⟩:Gam) r=γ' (r-s.next):=fun r hr=>Zon hr
  have glt:∀ r L,γ r=some L→r<s.next:=fun r L e=>Nat.lt_of_not_le fun hle=>by rw [hs.nx r hle] at e;cases e
  have hnew:∀ r L,γ' r=some L→w.heap.size≤L.b:=fun r L e=>by
   rcases (hst.new r L e rfl).2 with h|⟨_,_,h,_⟩
   ·exact h
   ·cases h
  have hblk:∀ b,b<w.heap.size→w'.heap[b]?=w.heap[b]?:=fun b hb=>hst.blk b hb (fun r L e=>by cases e)
  have hle:Le γ ⟨fun r=>if r<s.next then γ r else γ' (r-s.next),γ'.fz⟩:=⟨fun r L e=>(g1 r (glt r L e)).trans e,fun b c e=>hst.le.fz b c e⟩
 ·refine ⟨hle,?_,by rw [H8];omega,hst.size,hst.os,hst.tape,hst.output,fun b hb _=>hblk b hb,fun r _ hr=>Jq _ _ hr,fun b c e e0=>hst.fzn b c e e0⟩
  intro r L e e0
  by_cases hr:r<s.next
  ·rw [g1 r hr,e0] at e;cases e
  ·rw [g2 r hr] at e;exact ⟨by omega,.inl (hnew _ L e)⟩
 ·have hnone:∀ r,s.next≤r→s.get r=none:=fun r hr=>by
   cases hg:s.get r with
   | none=>rfl
   | some o=>exact absurd (hs.dom r o hg) (by omega)
  have back:∀ r o,(Ac s (l.map (B5 (·+s.next)))).get r=some o→(r<s.next∧s.get r=some o)∨(s.next≤r∧∃ o',l[r-s.next]?=some o'∧o=B5 (·+s.next) o'):=by
   intro r o hg
   by_cases hr:r<s.next
   ·rw [Jq _ _ hr] at hg;exact .inl ⟨hr,hg⟩
   ·have:=Ko _ s (by omega) hnone hg
    rw [Zpe] at this
    cases hl':l[r-s.next]? with
    | none=>rw [hl'] at this;cases this
    | some o'=>rw [hl'] at this;exact .inr ⟨by omega,o',rfl,(Zpn this).symm⟩
  refine ⟨?_,?_,?_,?_,?_,hsim.fzc,?_⟩
  ·intro r o L ho hL
   rcases back r o ho with ⟨hr,hg⟩|⟨hr,o',hg,rfl⟩
   ·rw [g1 r hr] at hL
    exact ((hs.obj r o L hg hL).mono hle).heap (hblk _ (hs.lt r L hL))
   ·rw [g2 r (by omega)] at hL
    refine UJ (γ:=γ') (γ2:=⟨fun r=>if r<s.next then γ r else γ' (r-s.next),γ'.fz⟩) (fun _ _ e=>e) (fun q M e=>?_) (hl o' (Zo1 hg)) (hsim.obj _ _ L (hall _ _ hg) hL)
    show (if q+s.next<s.next then γ (q+s.next) else γ' (q+s.next-s.next))=some M
    rw [Zon (by omega),Nat.add_sub_cancel];exact e
  ·intro r r' o o' L L' ho ho' ha1 ha2 hL hL' hne
   rcases back r o ho with ⟨hr,hg⟩|⟨hr,p,hg,rfl⟩ <;> rcases back r' o' ho' with ⟨hr',hg'⟩|⟨hr',p',hg',rfl⟩
   ·rw [g1 r hr] at hL;rw [g1 r' hr'] at hL'
    exact hs.inj r r' o o' L L' hg hg' ha1 ha2 hL hL' hne
   ·rw [g1 r hr] at hL;rw [g2 r' (by omega)] at hL'
    have:=hs.lt r L hL;have:=hnew _ L' hL';omega
   ·rw [g2 r (by omega)] at hL;rw [g1 r' hr'] at hL'
    have:=hs.lt r' L' hL';have:=hnew _ L hL;omega
   ·rw [g2 r (by omega)] at hL;rw [g2 r' (by omega)] at hL'
    rw [FG] at ha1 ha2
    exact hsim.inj _ _ p p' L L' (hall _ _ hg) (hall _ _ hg') ha1 ha2 hL hL' (by omega)
  ·intro r L hL
   by_cases hr:r<s.next
   ·rw [g1 r hr] at hL;have:=hs.lt r L hL;have:=hst.size;omega
   ·rw [g2 r hr] at hL;exact hsim.lt _ L hL
  ·intro r hr
   rw [H8,Zom] at hr
   rw [g2 r (by omega)]
   refine hsim.nx _ ?_
   rw [H8]
   show 0+l.length≤_
   omega
  ·intro r o ho
   rw [H8,Zom]
   rcases back r o ho with ⟨hr,hg⟩|⟨hr,p,hg,rfl⟩
   ·omega
   ·have:=(Zog.1 hg).1;omega
  ·intro r o L ho ha1 hL
   rcases back r o ho with ⟨hr,hg⟩|⟨hr,p,hg,rfl⟩
   ·rw [g1 r hr] at hL
    have h0:=hs.fzr r o L hg ha1 hL
    show γ'.fz L.b=none
    cases hc:γ'.fz L.b with
    | none=>rfl
    | some c=>exact absurd (hst.fzn L.b c hc h0) (by have:=hs.lt r L hL;omega)
   ·rw [g2 r (by omega)] at hL
    rw [FG] at ha1
    exact hsim.fzr _ p L (hall _ _ hg) ha1 hL
end
end Go.AM
namespace Go.AM
section
variable {P:Program}
inductive Frz (s:St):AV→AV→Prop
 | plain (v:AV):hf v=true→Frz s v v
 | sl (r o n:Nat) (cap cap':Option Nat) (e:Nat) (cs l us:List AV):s.get r=some (.row e cs)→(∀ (i:Nat) x,l[i]?=some x→cs[o+i]?=some x)→All2 (Frz s) l us→(cap'=none∨cap'=cap)→Frz s (.sl r o n cap) (.fz n cap' us)
 | ptr (r o:Nat) (e:Nat) (cs l us:List AV):s.get r=some (.row e cs)→(∀ (i:Nat) x,l[i]?=some x→cs[o+i]?=some x)→All2 (Frz s) l us→Frz s (.ptr r o) (.fp us)
 | agg (l us:List AV):All2 (Frz s) l us→Frz s (.agg l) (.agg us)
 | tup (l us:List AV):All2 (Frz s) l us→Frz s (.tup l) (.tup us)
 | fn (f:Nat) (xs ys us ws:List AV):All2 (Frz s) xs us→All2 (Frz s) ys ws→Frz s (.fn f xs ys) (.fn f us ws)
mutual
variable {s:St}
theorem Frz.hf:∀ {v u:AV},Frz s v u→hf u=true
 | _,_,.plain v h=>h
 | _,_,.sl ..=>rfl
 | _,_,.ptr ..=>rfl
 | _,_,.agg l us h=>Frz.hfs h
 | _,_,.tup l us h=>Frz.hfs h
 | _,_,.fn f xs ys us ws h1 h2=>by
  simp only [AM.hf,Zoh]
  exact ⟨Frz.hfs h1,Frz.hfs h2⟩
theorem Frz.hfs:∀ {l us:List AV},All2 (Frz s) l us→hfs us=true
 | _,_,.nil=>rfl
 | _,_,.cons a b=>by
  simp only [AM.hfs,Zoh]
  exact ⟨Frz.hf a,Frz.hfs b⟩
end
variable {γ γ2:Gam}{s:St}{w:World}
mutual
theorem Frz.VR (hs:Sim P γ s w) (hz:∀ b c,γ.fz b=some c→γ2.fz b=some c) (hr:∀ r e cs L c,s.get r=some (.row e cs)→γ r=some L→w.heap[L.b]?=some (.cells c e (0,0))→γ2.fz L.b=some c):
 ∀ {v u:AV}{v':Value},Frz s v u→VR γ v v'→VR γ2 u v'
 | _,_,_,.plain v h,hv=>HY hz v h hv
 | _,_,_,.sl r o n cap cap' e cs l us h1 h2 h3 h4,hv=>by
  obtain ⟨L,cc,hL,hval,hck⟩:=Ff hv
  obtain ⟨c,e1,e2,e3,e4,e5,e6⟩:=hs.row h1 hL
  have hnc:n≤cc:=by
   cases hv with
   | sl _ _ _ c' L' e a=>injection hval with _ _ q;omega
   | slu _ _ _ c' L' e a b d=>injection hval with _ _ q;omega
  rw [hval,e2,Zou]
  have hz2:=hr r e cs L c h1 hL e1
  -- the values
  have hx:∀ (l us:List AV) (k:Nat),(∀ (i:Nat) x,l[i]?=some x→cs[k+i]?=some x)→All2 (Frz s) l us→∃ vs:List Value,(∀ (j:Nat) (u:Value),vs[j]?=some u→c[k+j]?=some u)∧(∀ u ∈ vs,u.oneCell'=true)∧All2 (AM.VR γ) l vs:=by
   intro l
   induction l with
   | nil=>intro us k _ _;exact ⟨[],by simp,by simp,.nil⟩
   | cons x l ih=>
    intro us k hl h
    cases h with
    | cons ha hb=>
     obtain ⟨vs,q1,q2,q3⟩:=ih _ (k+1) (fun i y hy=>by rw [Zqd,Nat.add_comm 1 i];exact hl (i+1) y (by simpa using hy)) hb
     obtain ⟨v',p1,p2,p3⟩:=e6 k x (by simpa using hl 0 x (by simp))
     refine ⟨v'::vs,?_,?_,.cons p2 q3⟩
     ·intro j u hj
      cases j with
      | zero=>simp at hj;subst hj;simpa using p1
      | succ j=>rw [show k+(j+1)=k+1+j by omega];exact q1 j u (by simpa using hj)
     ·intro u hu
      rcases Zpp.1 hu with rfl|hu
      ·exact p3
      ·exact q2 u hu
  obtain ⟨vs,q1,q2,q3⟩:=hx l us o h2 h3
  refine .fz n cap' us vs L.b o cc c hz2 q1 q2 (ID hs hz hr h3 q3) hnc ?_ (Frz.hfs h3)
  intro k hk
  rcases h4 with h4|h4
  ·rw [h4] at hk;cases hk
  ·rw [h4] at hk;exact hck k hk
 | _,_,_,.ptr r o e cs l us h1 h2 h3,hv=>by
  cases hv with
  | ptr _ _ L hL=>
   obtain ⟨c,e1,e2,e3,e4,e5,e6⟩:=hs.row h1 hL
   rw [e2,Zou]
   have hz2:=hr r e cs L c h1 hL e1
   -- the values
   have hx:∀ (l us:List AV) (k:Nat),(∀ (i:Nat) x,l[i]?=some x→cs[k+i]?=some x)→All2 (Frz s) l us→∃ vs:List Value,(∀ (j:Nat) (u:Value),vs[j]?=some u→c[k+j]?=some u)∧(∀ u ∈ vs,u.oneCell'=true)∧All2 (AM.VR γ) l vs:=by
    intro l
    induction l with
    | nil=>intro us k _ _;exact ⟨[],by simp,by simp,.nil⟩
    | cons x l ih=>
     intro us k hl h
     cases h with
     | cons ha hb=>
      obtain ⟨vs,q1,q2,q3⟩:=ih _ (k+1) (fun i y hy=>by rw [Zqd,Nat.add_comm 1 i];exact hl (i+1) y (by simpa using hy)) hb
      obtain ⟨v',p1,p2,p3⟩:=e6 k x (by simpa using hl 0 x (by simp))
      refine ⟨v'::vs,?_,?_,.cons p2 q3⟩
      ·intro j u hj
       cases j with
       | zero=>simp at hj;subst hj;simpa using p1
       | succ j=>rw [show k+(j+1)=k+1+j by omega];exact q1 j u (by simpa using hj)
      ·intro u hu
       rcases Zpp.1 hu with rfl|hu
       ·exact p3
       ·exact q2 u hu
   obtain ⟨vs,q1,q2,q3⟩:=hx l us o h2 h3
   exact .fp us vs L.b o c hz2 q1 q2 (ID hs hz hr h3 q3) (Frz.hfs h3)
 | _,_,_,.agg l us h,hv=>by
  cases hv with
  | agg _ a e o=>exact .agg us a (ID hs hz hr h e) o
 | _,_,_,.tup l us h,hv=>by
  cases hv with
  | tup _ a e=>exact .tup us a (ID hs hz hr h e)
 | _,_,_,.fn f xs ys us ws h1 h2,hv=>by
  cases hv with
  | fn _ _ _ as bs a b=>exact .fn f us ws as bs (ID hs hz hr h1 a) (ID hs hz hr h2 b)
theorem ID (hs:Sim P γ s w) (hz:∀ b c,γ.fz b=some c→γ2.fz b=some c) (hr:∀ r e cs L c,s.get r=some (.row e cs)→γ r=some L→w.heap[L.b]?=some (.cells c e (0,0))→γ2.fz L.b=some c):
 ∀ {l us:List AV}{m:List Value},All2 (Frz s) l us→All2 (AM.VR γ) l m→All2 (AM.VR γ2) us m
 | _,_,_,.nil,hv=>by cases hv;exact .nil
 | _,_,_,.cons a b,hv=>by
  cases hv with
  | cons p q=>exact .cons (Frz.VR hs hz hr a p) (ID hs hz hr b q)
end
variable {f:Nat}{args:List AV}{u:AV}
theorem GZ (ha:hfs args=true) (h:C P f args St0 (fun v s'=>Frz s' v u)):C P f args St0 (fun v s'=>v=u∧s'=Ac St0 []):=by
 intro γ vals w m hA hs
 have hA':=Hn (γ:=γ) (γ2:=⟨fun _=>none,γ.fz⟩) (fun _ _ e=>e) args ha hA
 refine CallsIn.mono (h ⟨fun _=>none,γ.fz⟩ vals w m hA' (Pz hs.fzc)) ?_
 rintro e w' ⟨v,s',hF,v',γ',rfl,hst,hsim,hv⟩
 let γ2:Gam:=⟨γ,fun b=>match γ'.fz b with
  | some c=>some c
  | none=>if w.heap.size≤b then (match w'.heap[b]? with|some (.cells c _ _)=>some c|_=>none) else none⟩
 have hz:∀ b c,γ'.fz b=some c→γ2.fz b=some c:=fun b c e=>by
  show (match γ'.fz b with|some c=>some c|none=>_)=some c
  rw [e]
 have hnew:∀ r L,γ' r=some L→w.heap.size≤L.b:=fun r L e=>by
  rcases (hst.new r L e rfl).2 with h|⟨_,_,h,_⟩
  ·exact h
  ·cases h
 have hfz2:∀ b c,γ2.fz b=some c→γ'.fz b=some c∨(γ'.fz b=none∧w.heap.size≤b∧∃ e fr,w'.heap[b]?=some (.cells c e fr)):=by
  intro b c e
  have e:(match γ'.fz b with
   | some c=>some c
   | none=>if w.heap.size≤b then (match w'.heap[b]? with|some (.cells c _ _)=>some c|_=>none) else none)=some c:=e
  cases h1:γ'.fz b with
  | some c'=>rw [h1] at e;exact .inl e
  | none=>
   rw [h1] at e
   simp only at e
   split at e
   ·rename_i hle
    split at e
    ·rename_i c' t fr hc;cases e;exact .inr ⟨rfl,hle,t,fr,hc⟩
    ·cases e
   ·cases e
 refine ⟨u,St0,⟨rfl,rfl⟩,v',γ2,rfl,?_,?_,?_⟩
 ·refine ⟨⟨fun r L e=>e,fun b c e=>hz b c (hst.le.fz b c e)⟩,fun r L e e0=>?_,Zo0 _,hst.size,hst.os,hst.tape,hst.output,fun b hb _=>hst.blk b hb (fun r L e=>by cases e),fun _ _ _=>rfl,fun b c e e0=>?_⟩
  ·have e':γ r=some L:=e
   rw [e0] at e';cases e'
  ·rcases hfz2 b c e with h|⟨_,h,_⟩
   ·exact hst.fzn b c h e0
   ·exact h
 ·refine ⟨fun r o L h=>(by cases h),fun r r' o o' L L' h=>(by cases h),fun r L e=>?_,fun r hr=>hs.nx r hr,fun r o h=>(by cases h),fun b c e=>?_,fun r o L h=>(by cases h)⟩
  ·exact Zp9 (hs.lt r L e) hst.size
  ·rcases hfz2 b c e with h|⟨_,_,h⟩
   ·exact hsim.fzc b c h
   ·exact h
 ·refine Frz.VR hsim hz ?_ hF hv
  intro r e cs L c h1 hL hc
  show (match γ'.fz L.b with
   | some c=>some c
   | none=>if w.heap.size≤L.b then (match w'.heap[L.b]? with|some (.cells c _ _)=>some c|_=>none) else none)=some c
  cases h2:γ'.fz L.b with
  | some c'=>
   obtain ⟨e',fr',hc'⟩:=hsim.fzc L.b c' h2
   rw [hc] at hc';cases hc';rfl
  | none=>simp only;rw [Zoj (hnew r L hL),hc]
theorem IJ (ha:hfs args=true) (hu:hf u=true) (h:C P f args St0 (fun v s'=>Frz s' v u)) (s:St):C P f args s (fun v s'=>v=u∧s'=s):=by
 refine (C.frame (l:=[]) ha (by simp) (.inr rfl) (GZ ha h) (fun i o h=>by simp at h) s).mono ?_
 rintro v s' ⟨rfl,rfl⟩
 exact ⟨Bv u hu,rfl⟩
def OvOk (P:Program) (f:Nat) (h:Ov):Prop:=G4 P f∧∀ args s v s',h args s=.ok v s'→C P f args s (fun v' s''=>v'=v∧s''=s')
theorem Zg4 {h : Ov} (hO : OvOk P f h) : (∃ fn c, P.funcs[f]? = some fn ∧ fn.body = some c ∧ (fn.name == "runtime.NumGoroutine") = false) ∧
 ∀ γ args vals s w v s',All2 (VR γ) args vals→Sim P γ s w→h args s=.ok v s'→∀ m,CallsIn Fence.wide m P f vals.toArray w (EF P γ s w v s'):=by
 refine ⟨hO.1,fun γ args vals s w v s' hA hs he m=>?_⟩
 refine CallsIn.mono (hO.2 args s v s' he γ vals w m hA hs) ?_
 rintro e w' ⟨v1,s1,⟨rfl,rfl⟩,hp⟩
 exact hp
end
end Go.AM
namespace Go.AM
def wV (x:OV) (k:AV→Prop):Prop:=OV.rec False k x
def wO {α:Type}(x:Option α) (k:α→Prop):Prop:=Option.rec False k x
def wB (b:Bool) (y z:Prop):Prop:=Bool.rec z y b
def wC (v:AV) (y z:Prop):Prop:=BR.rec False y z (asBool v)
def wP (v:AV) (k:Nat→Nat→Prop) (kf:List AV→Prop):Prop:=PR.rec False k kf (B0 v)
def EPrim (p:AOp) (t:AT) (s:St) (k:AV→St→Prop):Prop:=∀ e rec,∃ v s',AH p e rec t s=.ok v s'∧k v s'
def EHead (l:List AV) (k:AV→Prop):Prop:=∃ v,Fc l 0=some v∧k v
def ETake (n:Nat) (l:List AV) (k:List AV→Prop):Prop:=∃ cs,Bf n l=some cs∧k cs
def ECall (e:Env) (f:Nat) (vs:List AV) (s:St) (k:AV→St→Prop):Prop:=∃ n v s',C2 e (exec e n) f vs s=.ok v s'∧k v s'
def ERound (e:Env) (l:Nat) (vs:List AV) (s:St) (k:AV→St→Prop):Prop:=∃ n v s',IE (exec e n) l vs s=.ok v s'∧k v s'
def EExec (e:Env) (c:AC) (t:AT) (s:St) (rd:Option Nat) (ds:List Nat) (Q:Ex→AT→St→List Nat→Prop):Prop:=∃ n x t' s' ds',exec e n c t s rd ds=.ok x t' s' ds'∧Q x t' s' ds'
def ESc (e:Env) (f:Nat) (vs:List AV) (s:St) (k:AV→St→Prop):Prop:=Option.rec (ECall e f vs s k) (fun h=>RV.rec False k (h vs s)) (e.X.get f)
def Xz (e:Env) (f:AV) (vs:List AV) (s:St) (k:AV→St→Prop):Prop:=
 FR.rec False (fun f xs ys=>ECall e f (AZ xs (AZ vs ys)) s k) (fun l=>ERound e l vs s k) (Fe f)
def Kd (e:Env) (p:AOp) (t:AT) (s:St) (k:AV→St→Prop):Prop:=match p with
 | .mv x=>wV (ev x t) fun v=>k v s
 | .pick c a b=>wV (ev c t) fun c=>wC c (wV (ev a t) fun v=>k v s) (wV (ev b t) fun v=>k v s)
 | .new el _ z=>k (.ptr s.next 0) (s.alloc (.row el z))
 | .box el n x=>wV (ev x t) fun v=>wB (Nat.beq (A3 (cellsOf v)) n) (k (.ptr s.next 0) (s.alloc (.row el (cellsOf v)))) False
 | .build z ps=>wO (fill t ps z) fun cs=>k (.agg cs) s
 | .bsl el _ n z ps=>wO (fill t ps z) fun cs=>k (.sl s.next 0 n (some n)) (s.alloc (.row el cs))
 | .ld1 x=>wV (ev x t) fun v=>wP v (fun r o=>wO (load1 r o s) fun u=>k u s) (fun l=>EHead l fun u=>k u s)
 | .ldn n x=>wV (ev x t) fun v=>wP v (fun r o=>wO (load r o n s) fun cs=>k (.agg cs) s) (fun l=>ETake n l fun cs=>k (.agg cs) s)
 | .st n a x=>wV (ev a t) fun p=>wV (ev x t) fun v=>wP p (fun r o=>wB (Nat.beq (A3 (cellsOf v)) n) (wO (storeAt r o (cellsOf v) s) fun s'=>k (.tup []) s') False) (fun _=>False)
 | .nilck x=>wV (ev x t) fun v=>wB (My v) False (k v s)
 | .mkfn f a b=>wO (Co t a) fun x=>wO (Co t b) fun y=>k (.fn f x y) s
 | .fa off x=>wV (ev x t) fun v=>wP v (fun r o=>k (.ptr r (Nat.add o off)) s) (fun l=>k (.fp (Dr off l)) s)
 | .fld1 off x=>wV (ev x t) fun v=>LR.rec False (fun l=>wO (Fc l off) fun u=>k u s) (asAgg v)
 | .fldn off n x=>wV (ev x t) fun v=>LR.rec False (fun l=>wO (Bf n (Dr off l)) fun cs=>k (.agg cs) s) (asAgg v)
 | .ext x i=>wV (ev x t) fun v=>LR.rec False (fun l=>wO (Fc l i) fun u=>k u s) (IN v)
 | .alen n=>k (CB n) s
 | .mkmap=>k (.map s.next) (s.alloc (.map [] 0))
 | .call f args=>wV (ev f t) fun fv=>wO (Co t args) fun vs=>Xz e fv vs s k
 | .scall f args=>wO (Co t args) fun vs=>ESc e f vs s k
 | p=>EPrim p t s k
def MW (g:Option (Nat×Bool)) (t:AT) (y z:Prop):Prop:=
 Option.rec y (fun p=>wO (t.get p.1) fun v=>BR.rec (wB (BB v) False z) (wB p.2 y z) (wB p.2 z y) (asBool v)) g
def Hz (e:Env) (l:List AOper):AT→St→(AT→St→Prop)→Prop:=
 List.rec (motive:=fun _=>AT→St→(AT→St→Prop)→Prop) (fun t s K=>K t s)
  (fun o _ ih t s K=>AOper.rec (fun d p g=>MW g t (Kd e p t s fun v s'=>ih (B9 d v t) s' K) (ih (B9 d (.tup []) t) s K))
    (fun d p g=>MW g t (Kd e p t s fun v _=>wO (t.get d) fun v0=>v=v0∧ih t s K) (ih t s K)) o) l
abbrev EQ:=Ex→AT→St→List Nat→Prop
def Gp (K:AT→St→List Nat→Prop) (Q:EQ):EQ:=fun x t s ds=>Ex.rec (K t s ds) (fun id=>Q (.exit id) t s ds) (Q .ret t s ds) x
def Blk (id:Nat) (Q:EQ):EQ:=fun x t s ds=>Ex.rec (Q .normal t s ds) (fun id'=>wB (Nat.beq id id') (Q .normal t s ds) (Q (.exit id') t s ds)) (Q .ret t s ds) x
abbrev EC:=AT→St→Option Nat→List Nat→EQ→Prop
def VE (e:Env) (c:AC):EC:=AC.rec (motive:=fun _=>EC) (fun t s _ ds Q=>Q .normal t s ds) (fun ops t s _ ds Q=>Hz e ops t s fun t' s'=>Q .normal t' s' ds)
 (fun _ _ ia ib t s rd ds Q=>ia t s rd ds (Gp (fun t s ds=>ib t s rd ds Q) Q))
 (fun x _ _ ia ib t s rd ds Q=>wV (ev x t) fun v=>wC v (ia t s rd ds Q) (ib t s rd ds Q))
 (fun id _ ia t s rd ds Q=>ia t s rd ds (Blk id Q))
 (fun a _ t s rd ds Q=>EExec e (.loop a) t s rd ds Q) (fun g ps a b _ _ t s rd ds Q=>EExec e (.rng g ps a b) t s rd ds Q)
 (fun id t s _ ds Q=>Q (.exit id) t s ds) (fun t s _ ds Q=>Q .ret t s ds) (fun _ ia t s rd ds Q=>ia t s rd ds Q) (fun t s _ ds Q=>Q .normal t s ds) c
def VW (P:Program) (e:Env) (k:Nat) (c:AC):EC:=AC.rec (motive:=fun _=>EC) (fun t s _ ds Q=>Q .normal t s ds) (fun ops t s _ ds Q=>Hz e ops t s fun t' s'=>Q .normal t' s' ds)
 (fun _ _ ia ib t s rd ds Q=>ia t s rd ds (Gp (fun t s ds=>ib t s rd ds Q) Q))
 (fun x _ _ ia ib t s rd ds Q=>wV (ev x t) fun v=>wC v (ia t s rd ds Q) (ib t s rd ds Q))
 (fun id _ ia t s rd ds Q=>ia t s rd ds (Blk id Q))
 (fun a _ t s rd ds Q=>W P k rd (.loop a) t s ds Q) (fun g ps a b _ _ t s rd ds Q=>W P k rd (.rng g ps a b) t s ds Q)
 (fun id t s _ ds Q=>Q (.exit id) t s ds) (fun t s _ ds Q=>Q .ret t s ds) (fun _ ia t s rd ds Q=>ia t s rd ds Q) (fun t s _ ds Q=>Q .normal t s ds) c
def AR (res:List ARes) (k:AV→St→Prop):EQ:=fun x t s ds=>
 Ex.rec (wO (Gg ds s) fun s2=>wO (D3 t s2 res) fun l=>k (one l) s2) (fun _=>False) (wO (Gg ds s) fun s2=>wO (D3 t s2 res) fun l=>k (one l) s2) x
section
variable {P:Program}{e:Env}
theorem Eg {x:OV}{k:AV→Prop}(h:wV x k):∃ v,x=.some v∧k v:=by cases x with|none=>exact h.elim|some v=>exact ⟨v,rfl,h⟩
theorem DN {α:Type}{x:Option α}{k:α→Prop}(h:wO x k):∃ v,x=some v∧k v:=by cases x with|none=>exact h.elim|some v=>exact ⟨v,rfl,h⟩
variable {v:AV}{y z:Prop}
theorem RU (h:wC v y z):(asBool v=.tt∧y)∨(asBool v=.ff∧z):=by
 unfold wC at h
 cases hb:asBool v with
 | no=>rw [hb] at h;exact h.elim
 | tt=>rw [hb] at h;exact .inl ⟨rfl,h⟩
 | ff=>rw [hb] at h;exact .inr ⟨rfl,h⟩
theorem Pl {k:Nat→Nat→Prop}{kf:List AV→Prop}(h:wP v k kf):(∃ r o,B0 v=.ptr r o∧k r o)∨∃ l,B0 v=.fp l∧kf l:=by
 unfold wP at h
 cases hb:B0 v with
 | no=>rw [hb] at h;exact h.elim
 | ptr r o=>rw [hb] at h;exact .inl ⟨r,o,rfl,h⟩
 | fp l=>rw [hb] at h;exact .inr ⟨l,rfl,h⟩
theorem Sg {x:LR}{k:List AV→Prop}(h:(LR.rec False k x:Prop)):∃ l,x=.l l∧k l:=by cases x with|no=>exact h.elim|l l=>exact ⟨l,rfl,h⟩
variable {p:AOp}{t:AT}{s:St}{k:AV→St→Prop}
theorem Q4 (h:Kd e p t s k):∃ n v s',AH p e (exec e n) t s=.ok v s'∧k v s':=by
 unfold Kd at h
 split at h
 ·obtain ⟨v,h1,hk⟩:=Eg h
  exact ⟨0,v,s,by show wth _ t _=_;unfold wth;rw [h1],hk⟩
 ·obtain ⟨c,h1,hk⟩:=Eg h
  rcases RU hk with ⟨hb,hk⟩|⟨hb,hk⟩
  ·obtain ⟨v,h2,hk⟩:=Eg hk
   refine ⟨0,v,s,?_,hk⟩
   show wth _ t _=_;unfold wth;rw [h1]
   show (BR.rec .fail _ _ (asBool c):RV)=_;rw [hb]
   show ret _ s=_;rw [h2];rfl
  ·obtain ⟨v,h2,hk⟩:=Eg hk
   refine ⟨0,v,s,?_,hk⟩
   show wth _ t _=_;unfold wth;rw [h1]
   show (BR.rec .fail _ _ (asBool c):RV)=_;rw [hb]
   show ret _ s=_;rw [h2];rfl
 ·exact ⟨0,_,_,rfl,h⟩
 ·rename_i el n x
  obtain ⟨v,h1,hk⟩:=Eg h
  cases hb:Nat.beq (A3 (cellsOf v)) n with
  | false=>rw [hb] at hk;exact hk.elim
  | true=>
   rw [hb] at hk
   refine ⟨0,_,_,?_,hk⟩
   show wth _ t _=_;unfold wth;rw [h1]
   show gd (Nat.beq (A3 (cellsOf v)) n) _=_;rw [hb];rfl
 ·obtain ⟨cs,h1,hk⟩:=DN h
  refine ⟨0,_,_,?_,hk⟩
  show (Option.rec .fail _ (fill t _ _):RV)=_;rw [h1]
 ·obtain ⟨cs,h1,hk⟩:=DN h
  refine ⟨0,_,_,?_,hk⟩
  show (Option.rec .fail _ (fill t _ _):RV)=_;rw [h1];rfl
 ·obtain ⟨v,h1,hk⟩:=Eg h
  rcases Pl hk with ⟨r,o,hb,hk⟩|⟨l,hb,hk⟩
  ·obtain ⟨u,h2,hk⟩:=DN hk
   refine ⟨0,u,s,?_,hk⟩
   show wth _ t _=_;unfold wth;rw [h1]
   show (PR.rec .fail _ _ (B0 v):RV)=_;rw [hb]
   show retO _ s=_;rw [h2];rfl
  ·obtain ⟨u,h2,hk⟩:=hk
   refine ⟨0,u,s,?_,hk⟩
   show wth _ t _=_;unfold wth;rw [h1]
   show (PR.rec .fail _ _ (B0 v):RV)=_;rw [hb]
   show retO _ s=_;rw [h2];rfl
 ·obtain ⟨v,h1,hk⟩:=Eg h
  rcases Pl hk with ⟨r,o,hb,hk⟩|⟨l,hb,hk⟩
  ·obtain ⟨u,h2,hk⟩:=DN hk
   refine ⟨0,.agg u,s,?_,hk⟩
   show wth _ t _=_;unfold wth;rw [h1]
   show (PR.rec .fail _ _ (B0 v):RV)=_;rw [hb]
   show (Option.rec .fail _ (load r o _ s):RV)=_;rw [h2]
  ·obtain ⟨u,h2,hk⟩:=hk
   refine ⟨0,.agg u,s,?_,hk⟩
   show wth _ t _=_;unfold wth;rw [h1]
   show (PR.rec .fail _ _ (B0 v):RV)=_;rw [hb]
   show (Option.rec .fail _ (Bf _ l):RV)=_;rw [h2]
 ·rename_i n a x
  obtain ⟨p,h1,hk⟩:=Eg h
  obtain ⟨v,h2,hk⟩:=Eg hk
  rcases Pl hk with ⟨r,o,hb,hk⟩|⟨l,hb,hk⟩
  ·cases hc:Nat.beq (A3 (cellsOf v)) n with
   | false=>rw [hc] at hk;exact hk.elim
   | true=>
    rw [hc] at hk
    obtain ⟨s',h3,hk⟩:=DN hk
    refine ⟨0,_,s',?_,hk⟩
    show wth _ t _=_;unfold wth;rw [h1]
    show wth _ t _=_;unfold wth;rw [h2]
    show (PR.rec .fail _ _ (B0 p):RV)=_;rw [hb]
    show gd (Nat.beq (A3 (cellsOf v)) n) _=_;rw [hc]
    show F2 _ (storeAt r o (cellsOf v) s)=_;rw [h3];rfl
  ·exact hk.elim
 ·obtain ⟨v,h1,hk⟩:=Eg h
  cases hb:My v with
  | true=>rw [hb] at hk;exact hk.elim
  | false=>
   rw [hb] at hk
   refine ⟨0,v,s,?_,hk⟩
   show wth _ t _=_;unfold wth;rw [h1]
   show (Bool.rec _ _ (My v):RV)=_;rw [hb]
 ·obtain ⟨x,h1,hk⟩:=DN h
  obtain ⟨y,h2,hk⟩:=DN hk
  refine ⟨0,_,s,?_,hk⟩
  show (Option.rec .fail _ (Co t _):RV)=_;rw [h1]
  show (Option.rec .fail _ (Co t _):RV)=_;rw [h2]
 ·obtain ⟨v,h1,hk⟩:=Eg h
  rcases Pl hk with ⟨r,o,hb,hk⟩|⟨l,hb,hk⟩
  ·refine ⟨0,_,s,?_,hk⟩
   show wth _ t _=_;unfold wth;rw [h1]
   show (PR.rec .fail _ _ (B0 v):RV)=_;rw [hb]
  ·refine ⟨0,_,s,?_,hk⟩
   show wth _ t _=_;unfold wth;rw [h1]
   show (PR.rec .fail _ _ (B0 v):RV)=_;rw [hb]
 ·obtain ⟨v,h1,hk⟩:=Eg h
  obtain ⟨l,hb,hk⟩:=Sg hk
  obtain ⟨u,h2,hk⟩:=DN hk
  refine ⟨0,u,s,?_,hk⟩
  show wth _ t _=_;unfold wth;rw [h1]
  show (LR.rec .fail _ (asAgg v):RV)=_;rw [hb]
  show retO _ s=_;rw [h2];rfl
 ·obtain ⟨v,h1,hk⟩:=Eg h
  obtain ⟨l,hb,hk⟩:=Sg hk
  obtain ⟨u,h2,hk⟩:=DN hk
  refine ⟨0,_,s,?_,hk⟩
  show wth _ t _=_;unfold wth;rw [h1]
  show (LR.rec .fail _ (asAgg v):RV)=_;rw [hb]
  show (Option.rec .fail _ (Bf _ _):RV)=_;rw [h2]
 ·obtain ⟨v,h1,hk⟩:=Eg h
  obtain ⟨l,hb,hk⟩:=Sg hk
  obtain ⟨u,h2,hk⟩:=DN hk
  refine ⟨0,u,s,?_,hk⟩
  show wth _ t _=_;unfold wth;rw [h1]
  show (LR.rec .fail _ (IN v):RV)=_;rw [hb]
  show retO _ s=_;rw [h2];rfl
 ·exact ⟨0,_,_,rfl,h⟩
 ·exact ⟨0,_,_,rfl,h⟩
 ·obtain ⟨fv,h1,hk⟩:=Eg h
  obtain ⟨vs,h2,hk⟩:=DN hk
  unfold Xz at hk
  cases hf:Fe fv with
  | no=>rw [hf] at hk;exact hk.elim
  | fn f xs ys=>
   rw [hf] at hk
   obtain ⟨n,v,s',h3,hk⟩:=hk
   refine ⟨n,v,s',?_,hk⟩
   show wth _ t _=_;unfold wth;rw [h1]
   show (Option.rec .fail _ (Co t _):RV)=_;rw [h2]
   show Fu e _ fv vs s=_;unfold Fu;rw [hf];exact h3
  | yld l=>
   rw [hf] at hk
   obtain ⟨n,v,s',h3,hk⟩:=hk
   refine ⟨n,v,s',?_,hk⟩
   show wth _ t _=_;unfold wth;rw [h1]
   show (Option.rec .fail _ (Co t _):RV)=_;rw [h2]
   show Fu e _ fv vs s=_;unfold Fu;rw [hf];exact h3
 ·rename_i f args
  obtain ⟨vs,h2,hk⟩:=DN h
  unfold ESc at hk
  cases hx:e.X.get f with
  | none=>
   rw [hx] at hk
   obtain ⟨n,v,s',h3,hk⟩:=hk
   refine ⟨n,v,s',?_,hk⟩
   show (Option.rec .fail (fun vs=>Option.rec (C2 e (exec e n) f vs s) (fun h=>h vs s) (e.X.get f)) (Co t args):RV)=_
   rw [h2,hx];exact h3
  | some hh=>
   rw [hx] at hk
   change (RV.rec False k (hh vs s):Prop) at hk
   cases hq:hh vs s with
   | fail=>rw [hq] at hk;exact hk.elim
   | ok v s'=>
    rw [hq] at hk
    refine ⟨0,v,s',?_,hk⟩
    show (Option.rec .fail (fun vs=>Option.rec (C2 e (exec e 0) f vs s) (fun h=>h vs s) (e.X.get f)) (Co t args):RV)=_
    rw [h2,hx];exact hq
 ·obtain ⟨v,s',h1,hk⟩:=h e (exec e 0)
  exact ⟨0,v,s',h1,hk⟩
theorem Wf {g:Option (Nat×Bool)}(h:MW g t y z):(AS g t=2∧y)∨(AS g t=1∧z):=by
 cases g with
 | none=>exact .inl ⟨rfl,h⟩
 | some p=>
  obtain ⟨j,b⟩:=p
  obtain ⟨v,h1,hk⟩:=DN (show wO (t.get j) (fun v=>BR.rec (wB (BB v) False z) (wB b y z) (wB b z y) (asBool v)) from h)
  have hw:AS (some (j,b)) t=(BR.rec (Bool.rec 1 0 (BB v)) (Bool.rec 1 2 b) (Bool.rec 2 1 b) (asBool v):Nat):=by
   show (Option.rec 0 (fun v=>BR.rec (Bool.rec 1 0 (BB v)) (Bool.rec 1 2 b) (Bool.rec 2 1 b) (asBool v)) (t.get j):Nat)=_
   rw [h1]
  rw [hw]
  revert hk
  cases asBool v with
  | no=>
   intro hk
   cases hi:BB v with
   | true=>rw [hi] at hk;exact hk.elim
   | false=>rw [hi] at hk;exact .inr ⟨rfl,hk⟩
  | tt=>intro hk;cases b with
   | true=>exact .inl ⟨rfl,hk⟩
   | false=>exact .inr ⟨rfl,hk⟩
  | ff=>intro hk;cases b with
   | true=>exact .inr ⟨rfl,hk⟩
   | false=>exact .inl ⟨rfl,hk⟩
theorem Qj:∀ {l:List AOper}{t:AT}{s:St}{K:AT→St→Prop},Hz e l t s K→∃ n t' s',A4 e (exec e n) l t s=.ok t' s'∧K t' s':=by
 intro l
 induction l with
 | nil=>intro t s K h;exact ⟨0,t,s,rfl,h⟩
 | cons o l ih=>
  intro t s K h
  cases o with
  | mk d p g=>
   rcases Wf (show MW g t (Kd e p t s fun v s'=>Hz e l (B9 d v t) s' K) (Hz e l (B9 d (.tup []) t) s K) from h) with ⟨hw,h⟩|⟨hw,h⟩
   ·obtain ⟨n,v,s1,h1,h⟩:=Q4 h
    obtain ⟨m,t',s',h2,hk⟩:=ih h
    refine ⟨max n m,t',s',?_,hk⟩
    show (Nat.rec .fail (fun w _=>Nat.rec (A4 e (exec e (max n m)) l (B9 d (.tup []) t) s) (fun _ _=>RV.rec .fail (fun v s'=>A4 e (exec e (max n m)) l (B9 d v t) s') (AH p e (exec e (max n m)) t s)) w) (AS g t):RT)=.ok t' s'
    rw [hw,OU (Hd (Nat.le_max_left n m)) h1]
    exact QW (Hd (Nat.le_max_right n m)) h2
   ·obtain ⟨m,t',s',h2,hk⟩:=ih h
    refine ⟨m,t',s',?_,hk⟩
    show (Nat.rec .fail (fun w _=>Nat.rec (A4 e (exec e m) l (B9 d (.tup []) t) s) (fun _ _=>RV.rec .fail (fun v s'=>A4 e (exec e m) l (B9 d v t) s') (AH p e (exec e m) t s)) w) (AS g t):RT)=.ok t' s'
    rw [hw];exact h2
  | chk d p g=>
   rcases Wf (show MW g t (Kd e p t s fun v _=>wO (t.get d) fun v0=>v=v0∧Hz e l t s K) (Hz e l t s K) from h) with ⟨hw,h⟩|⟨hw,h⟩
   ·obtain ⟨n,v,s1,h1,h⟩:=Q4 h
    obtain ⟨v0,hd,rfl,h⟩:=DN h
    obtain ⟨m,t',s',h2,hk⟩:=ih h
    refine ⟨max n m,t',s',?_,hk⟩
    show (Nat.rec .fail (fun w _=>Nat.rec (A4 e (exec e (max n m)) l t s) (fun _ _=>RV.rec .fail (fun v _=>Option.rec .fail (fun v0=>Bool.rec .fail (A4 e (exec e (max n m)) l t s) (Ck v v0)) (t.get d)) (AH p e (exec e (max n m)) t s)) w) (AS g t):RT)=.ok t' s'
    rw [hw,OU (Hd (Nat.le_max_left n m)) h1]
    show (Option.rec .fail (fun v0=>Bool.rec .fail (A4 e (exec e (max n m)) l t s) (Ck v v0)) (t.get d):RT)=.ok t' s'
    rw [hd]
    show (Bool.rec .fail (A4 e (exec e (max n m)) l t s) (Ck v v):RT)=.ok t' s'
    rw [show Ck v v=true from QN v]
    exact QW (Hd (Nat.le_max_right n m)) h2
   ·obtain ⟨m,t',s',h2,hk⟩:=ih h
    refine ⟨m,t',s',?_,hk⟩
    show (Nat.rec .fail (fun w _=>Nat.rec (A4 e (exec e m) l t s) (fun _ _=>RV.rec .fail (fun v _=>Option.rec .fail (fun v0=>Bool.rec .fail (A4 e (exec e m) l t s) (Ck v v0)) (t.get d)) (AH p e (exec e m) t s)) w) (AS g t):RT)=.ok t' s'
    rw [hw];exact h2
theorem NW:∀ {c:AC}{t:AT}{s:St}{rd:Option Nat}{ds:List Nat}{Q:EQ},VE e c t s rd ds Q→EExec e c t s rd ds Q:=by
 intro c
 induction c with
 | skip=>intro t s rd ds Q h;exact ⟨1,_,_,_,_,rfl,h⟩
 | exit id=>intro t s rd ds Q h;exact ⟨1,_,_,_,_,rfl,h⟩
 | lab=>intro t s rd ds Q h;exact ⟨1,_,_,_,_,rfl,h⟩
 | scope a ia=>
  intro t s rd ds Q h
  obtain ⟨n,x,t1,s1,ds1,h1,hk⟩:=ia h
  exact ⟨n+1,_,_,_,_,h1,hk⟩
 | ret=>intro t s rd ds Q h;exact ⟨1,_,_,_,_,rfl,h⟩
 | reg ops=>
  intro t s rd ds Q h
  obtain ⟨n,t',s',h1,hk⟩:=Qj (show Hz e ops t s (fun t' s'=>Q .normal t' s' ds) from h)
  refine ⟨n+1,_,_,_,_,?_,hk⟩
  show (RT.rec .fail (fun t' s'=>.ok .normal t' s' ds) (A4 e (exec e n) ops t s):R)=_
  rw [h1]
 | seq a b ia ib=>
  intro t s rd ds Q h
  obtain ⟨n,x,t1,s1,ds1,h1,hk⟩:=ia (show VE e a t s rd ds (Gp (fun t s ds=>VE e b t s rd ds Q) Q) from h)
  cases x with
  | normal=>
   obtain ⟨m,x2,t2,s2,ds2,h2,hk⟩:=ib (show VE e b t1 s1 rd ds1 Q from hk)
   refine ⟨max n m+1,_,_,_,_,?_,hk⟩
   show IU (exec e (max n m)) b rd (exec e (max n m) a t s rd ds)=_
   rw [Hd (Nat.le_max_left n m) _ _ _ _ _ _ _ _ _ h1]
   exact Hd (Nat.le_max_right n m) _ _ _ _ _ _ _ _ _ h2
  | exit id=>
   refine ⟨n+1,_,_,_,_,?_,hk⟩
   show IU (exec e n) b rd (exec e n a t s rd ds)=_
   rw [h1];rfl
  | ret=>
   refine ⟨n+1,_,_,_,_,?_,hk⟩
   show IU (exec e n) b rd (exec e n a t s rd ds)=_
   rw [h1];rfl
 | cond x a b ia ib=>
  intro t s rd ds Q h
  obtain ⟨v,hv,h⟩:=Eg (show wV (ev x t) (fun v=>wC v (VE e a t s rd ds Q) (VE e b t s rd ds Q)) from h)
  rcases RU h with ⟨hb,h⟩|⟨hb,h⟩
  ·obtain ⟨n,x1,t1,s1,ds1,h1,hk⟩:=ia h
   refine ⟨n+1,_,_,_,_,?_,hk⟩
   show (OV.rec .fail (fun v=>BR.rec .fail (exec e n a t s rd ds) (exec e n b t s rd ds) (asBool v)) (ev x t):R)=_
   rw [hv];show (BR.rec .fail (exec e n a t s rd ds) (exec e n b t s rd ds) (asBool v):R)=_;rw [hb];exact h1
  ·obtain ⟨n,x1,t1,s1,ds1,h1,hk⟩:=ib h
   refine ⟨n+1,_,_,_,_,?_,hk⟩
   show (OV.rec .fail (fun v=>BR.rec .fail (exec e n a t s rd ds) (exec e n b t s rd ds) (asBool v)) (ev x t):R)=_
   rw [hv];show (BR.rec .fail (exec e n a t s rd ds) (exec e n b t s rd ds) (asBool v):R)=_;rw [hb];exact h1
 | block id a ia=>
  intro t s rd ds Q h
  obtain ⟨n,x,t1,s1,ds1,h1,hk⟩:=ia (show VE e a t s rd ds (Blk id Q) from h)
  cases x with
  | normal=>
   refine ⟨n+1,_,_,_,_,?_,hk⟩
   show M5 id (exec e n a t s rd ds)=_;rw [h1];rfl
  | ret=>
   refine ⟨n+1,_,_,_,_,?_,hk⟩
   show M5 id (exec e n a t s rd ds)=_;rw [h1];rfl
  | exit id'=>
   have hk:wB (Nat.beq id id') (Q .normal t1 s1 ds1) (Q (.exit id') t1 s1 ds1):=hk
   cases hb:Nat.beq id id' with
   | true=>
    rw [hb] at hk
    refine ⟨n+1,_,_,_,_,?_,hk⟩
    show M5 id (exec e n a t s rd ds)=_;rw [h1]
    show (Bool.rec _ _ (Nat.beq id id'):R)=_;rw [hb]
   | false=>
    rw [hb] at hk
    refine ⟨n+1,_,_,_,_,?_,hk⟩
    show M5 id (exec e n a t s rd ds)=_;rw [h1]
    show (Bool.rec _ _ (Nat.beq id id'):R)=_;rw [hb]
 | loop a ia=>intro t s rd ds Q h;exact h
 | rng g ps a b ia ib=>intro t s rd ds Q h;exact h
theorem LW (hE:EnvOk P e) (hm:P.follows .mixedOrders=true) {k:Nat}:∀ {c:AC}{t:AT}{s:St}{rd:Option Nat}{ds:List Nat}{Q:EQ},VW P e k c t s rd ds Q→W P k rd c t s ds Q:=by
 intro c
 induction c with
 | skip=>intro t s rd ds Q h;exact Znk h
 | exit id=>intro t s rd ds Q h;exact Znl h
 | lab=>intro t s rd ds Q h;exact Zn9 h
 | scope a ia=>intro t s rd ds Q h;exact W.scope (ia h)
 | ret=>intro t s rd ds Q h;exact W.ret h
 | reg ops=>
  intro t s rd ds Q h
  obtain ⟨n,t',s',h1,hk⟩:=Qj (show Hz e ops t s (fun t' s'=>Q .normal t' s' ds) from h)
  refine W.exec (LQ hE hm (n+1)) (t':=t') (s':=s') (ds':=ds) (x:=.normal) ?_ hk
  show (RT.rec .fail (fun t' s'=>.ok .normal t' s' ds) (A4 e (exec e n) ops t s):R)=_
  rw [h1]
 | seq a b ia ib=>
  intro t s rd ds Q h
  refine W.seq ((ia (show VW P e k a t s rd ds (Gp (fun t s ds=>VW P e k b t s rd ds Q) Q) from h)).mono ?_)
  intro x t1 s1 ds1 hq
  cases x with
  | normal=>exact ib hq
  | exit id=>exact hq
  | ret=>exact hq
 | cond x a b ia ib=>
  intro t s rd ds Q h
  obtain ⟨v,hv,h⟩:=Eg (show wV (ev x t) (fun v=>wC v (VW P e k a t s rd ds Q) (VW P e k b t s rd ds Q)) from h)
  rcases RU h with ⟨hb,h⟩|⟨hb,h⟩
  ·exact Xv (b:=true) (by rw [hv,LT hb]) (fun _=>ia h) (fun e=>by cases e)
  ·exact Xv (b:=false) (by rw [hv,NQ hb]) (fun e=>by cases e) (fun _=>ib h)
 | block id a ia=>
  intro t s rd ds Q h
  refine W.block ((ia (show VW P e k a t s rd ds (Blk id Q) from h)).mono ?_)
  intro x t1 s1 ds1 hq
  cases x with
  | normal=>exact hq
  | ret=>exact hq
  | exit id'=>
   have hq:wB (Nat.beq id id') (Q .normal t1 s1 ds1) (Q (.exit id') t1 s1 ds1):=hq
   show if id'=id then _ else _
   cases hb:Nat.beq id id' with
   | true=>rw [hb] at hq;rw [Zoj (Zol hb).symm];exact hq
   | false=>rw [hb] at hq;rw [Zon (fun e=>Zpk hb e.symm)];exact hq
 | loop a ia=>intro t s rd ds Q h;exact h
 | rng g ps a b ia ib=>intro t s rd ds Q h;exact h
variable {res:List ARes}{ds:List Nat}
theorem Ep {x:Ex}(h:AR res k x t s ds):Bx res k x t s ds:=by
 cases x with
 | normal=>
  obtain ⟨s2,h1,h⟩:=DN (show wO (Gg ds s) (fun s2=>wO (D3 t s2 res) fun l=>k (one l) s2) from h)
  obtain ⟨l,h2,h⟩:=DN h
  exact ⟨.inl rfl,s2,l,h1,h2,h⟩
 | ret=>
  obtain ⟨s2,h1,h⟩:=DN (show wO (Gg ds s) (fun s2=>wO (D3 t s2 res) fun l=>k (one l) s2) from h)
  obtain ⟨l,h2,h⟩:=DN h
  exact ⟨.inr rfl,s2,l,h1,h2,h⟩
 | exit id=>exact (show False from h).elim
def EM (P:Program) (e:Env):Prop:=EnvOk P e∧P.follows .mixedOrders=true
variable {rd:Option Nat}{Q:EQ}
theorem A9 (hE:EM P e) {k:Nat}{c:AC}(h:VW P e k c t s rd ds Q):W P k rd c t s ds Q:=LW hE.1 hE.2 h
variable {f:Nat}{fn:Func}{code:AC}{args:List AV}
theorem C.of_V (hE:EM P e) {Q:AV→St→Prop}(hf:P.funcs[f]?=some fn) (hc:GI P fn=some (.mk code res))
 (h:VW P e 0 code (Ah args 0 .lf) St0 none [] (AR res Q)):C P f args St0 Q:=
 C.of_W hf hc ((LW hE.1 hE.2 h).mono fun _ _ _ _ h=>Ep h)
theorem C1.of_V (hE:EM P e) {Q:AV→St→Prop}(hf:P.funcs[f]?=some fn) (hc:GI P fn=some (.mk code res))
 (h:VW P e s.next code (Ah args 0 .lf) s none [] (AR res Q)):C1 P f args s Q:=
 C1.of_W hf hc ((LW hE.1 hE.2 h).mono fun _ _ _ _ h=>Ep h)
variable {vs:List AV}
theorem ECall.inl (hO:e.O.get f=none) (hG:e.G.get f=some (.mk code res))
 (h:VE e code (Ah vs 0 .lf) s none [] (AR res k)):ECall e f vs s k:=by
 obtain ⟨n,x,t',s',ds',h1,hk⟩:=NW h
 obtain ⟨hx,s2,l,h2,h3,hk⟩:=Ep hk
 refine ⟨n,one l,s2,?_,hk⟩
 unfold C2
 rw [hO]
 show Gb e _ f vs s=_
 unfold Gb
 rw [hG]
 show KI res (exec e n code (Ah vs 0 .lf) s none [])=_
 rw [h1]
 rcases hx with rfl|rfl
 ·show (Option.rec .fail (fun s=>Option.rec .fail (fun l=>.ok (one l) s) (D3 t' s res)) (Gg ds' s'):RV)=_
  rw [h2];show (Option.rec .fail (fun l=>.ok (one l) s2) (D3 t' s2 res):RV)=_;rw [h3]
 ·show (Option.rec .fail (fun s=>Option.rec .fail (fun l=>.ok (one l) s) (D3 t' s res)) (Gg ds' s'):RV)=_
  rw [h2];show (Option.rec .fail (fun l=>.ok (one l) s2) (D3 t' s2 res):RV)=_;rw [h3]
variable {h:Ov}{s':St}
theorem ECall.ov (hO:e.O.get f=some h) (hh:h vs s=.ok v s') (hk:k v s'):ECall e f vs s k:=by
 refine ⟨0,v,s',?_,hk⟩
 unfold C2
 rw [hO]
 show (RV.rec _ _ (h vs s):RV)=_
 rw [hh]
theorem EPrim.mk (h:∀ e rec,AH p e rec t s=.ok v s') (hk:k v s'):EPrim p t s k:=fun e rec=>⟨v,s',h e rec,hk⟩
theorem EHead.mk {l:List AV}{k:AV→Prop}(h:l[0]?=some v) (hk:k v):EHead l k:=⟨v,by rw [HI];exact h,hk⟩
theorem EU {α:Type}:∀ {n:Nat}{l:List α},n≤l.length→Bf n l=some (l.take n)
 | 0,l,_=>rfl
 | n+1,[],h=>by simp at h
 | n+1,x::l,h=>by
  show (Option.rec none (fun r=>some (x::r)) (Bf n l):Option (List α))=_
  rw [EU (n:=n) (l:=l) (by simpa using h)];rfl
theorem EExec.loop {a:AC}(h:VE e a t s rd ds (Gp (fun t s ds=>EExec e (.loop a) t s rd ds Q) Q)):EExec e (.loop a) t s rd ds Q:=by
 obtain ⟨n,x,t1,s1,ds1,h1,hk⟩:=NW h
 cases x with
 | normal=>
  obtain ⟨m,x2,t2,s2,ds2,h2,hk⟩:=(show EExec e (.loop a) t1 s1 rd ds1 Q from hk)
  refine ⟨max n m+1,_,_,_,_,?_,hk⟩
  show IU (exec e (max n m)) (.loop a) rd (exec e (max n m) a t s rd ds)=_
  rw [Hd (Nat.le_max_left n m) _ _ _ _ _ _ _ _ _ h1]
  exact Hd (Nat.le_max_right n m) _ _ _ _ _ _ _ _ _ h2
 | exit id=>
  refine ⟨n+1,_,_,_,_,?_,hk⟩
  show IU (exec e n) (.loop a) rd (exec e n a t s rd ds)=_
  rw [h1];rfl
 | ret=>
  refine ⟨n+1,_,_,_,_,?_,hk⟩
  show IU (exec e n) (.loop a) rd (exec e n a t s rd ds)=_
  rw [h1];rfl
structure Inl (e:Env) (f:Nat) (code:AC) (res:List ARes):Prop where
 X:e.X.get f=none
 O:e.O.get f=none
 G:e.G.get f=some (.mk code res)
structure Con (e:Env) (f:Nat) (h:Ov):Prop where
 X:e.X.get f=none
 O:e.O.get f=some h
theorem ESc.inl (hi:Inl e f code res) (h:VE e code (Ah vs 0 .lf) s none [] (AR res k)):ESc e f vs s k:=by
 unfold ESc;rw [hi.X];exact ECall.inl hi.O hi.G h
theorem Zlf (hX:e.X.get f=some h) (hh:h vs s=.ok v s') (hk:k v s'):ESc e f vs s k:=by
 unfold ESc;rw [hX];show (RV.rec False k (h vs s):Prop);rw [hh];exact hk
theorem ESc.ov (hi:Con e f h) (hh:h vs s=.ok v s') (hk:k v s'):ESc e f vs s k:=by
 unfold ESc;rw [hi.X];exact ECall.ov hi.O hh hk
end
theorem ECall.elim {e:Env}{f:Nat}{vs:List AV}{s:St}{k:AV→St→Prop}(h:ECall e f vs s k):∃ n v s',C2 e (exec e n) f vs s=.ok v s'∧k v s':=h
attribute [irreducible] EPrim EHead ETake ECall ERound EExec ESc
end Go.AM
namespace Go.AM
section
variable {t:AT}{s:St}{k:AV→St→Prop}{x y:AO}
theorem Ky (q:IntKind):Cx q q=true:=by cases q <;> rfl
variable {q:IntKind}{a b:Int}
theorem KH {f:Int→Int→Bool}:GQ f (.int q a) (.int q b)=.some (.bool (f a b)):=by
 show (Bool.rec .none (.some (.bool (f a b))) (Cx q q):OV)=_;rw [Ky]
theorem RQ {f:IntKind→Int→Int→Int}:ar f (.int q a) (.int q b)=.some (.int q (f q a b)):=by
 show (Bool.rec .none (.some (.int q (f q a b))) (Cx q q):OV)=_;rw [Ky]
theorem DM {op:BinOp}{a b v:AV}(hx:ev x t=.some a) (hy:ev y t=.some b) (h:P4 op a b=.some v) (hk:k v s):EPrim (.bin op x y) t s k:=by
 refine EPrim.mk (fun e rec=>?_) hk
 show wth x t _=_;unfold wth;rw [hx]
 show wth y t _=_;unfold wth;rw [hy]
 show ret _ s=_;rw [h];rfl
theorem Zdw (hx:ev x t=.some (.int q a)) (hy:ev y t=.some (.int q b)) (hk:∀ c:Bool,(c=true↔a<b)→k (.bool c) s):EPrim (.bin .lss x y) t s k:=
 DM hx hy KH (hk _ (by rw [FV];simp))
theorem Zdx (hx:ev x t=.some (.int q a)) (hy:ev y t=.some (.int q b)) (hk:∀ c:Bool,(c=true↔a≤b)→k (.bool c) s):EPrim (.bin .leq x y) t s k:=
 DM hx hy (KH (f:=fun a b=>!E7 b a)) (hk _ (by rw [FV];simp))
theorem LV (hx:ev x t=.some (.int q a)) (hy:ev y t=.some (.int q b)) (hk:∀ c:Bool,(c=true↔b<a)→k (.bool c) s):EPrim (.bin .gtr x y) t s k:=
 DM hx hy (KH (f:=fun a b=>E7 b a)) (hk _ (by rw [FV];simp))
theorem Zdy (hx:ev x t=.some (.int q a)) (hy:ev y t=.some (.int q b)) (hk:∀ c:Bool,(c=true↔b≤a)→k (.bool c) s):EPrim (.bin .geq x y) t s k:=
 DM hx hy (KH (f:=fun a b=>!E7 a b)) (hk _ (by rw [FV];simp))
theorem Q7 (hx:ev x t=.some (.int q a)) (hy:ev y t=.some (.int q b)) (hk:∀ c:Bool,(c=true↔a=b)→k (.bool c) s):EPrim (.bin .eql x y) t s k:=
 DM hx hy (by show Ka (GQ DX _ _) _=_;rw [KH];rfl) (hk _ (by rw [Hj];simp))
theorem Zdu (hx:ev x t=.some (.int q a)) (hy:ev y t=.some (.int q b)) (hk:∀ c:Bool,(c=true↔a≠b)→k (.bool c) s):EPrim (.bin .neq x y) t s k:=
 DM hx hy (by show Ka (GQ (fun a b=>!DX a b) _ _) _=_;rw [KH];rfl) (hk _ (by rw [Hj];simp))
theorem Ag {q:IntKind}{a b:Int}(hx:ev x t=.some (.int q a)) (hy:ev y t=.some (.int q b)) (h1:a<b→k (.bool true) s) (h2:b≤a→k (.bool false) s):EPrim (.bin .lss x y) t s k:=
 Zdw hx hy fun c hc=>by cases c with|true=>exact h1 (hc.1 rfl)|false=>exact h2 (by simp at hc;omega)
theorem Qp {q:IntKind}{a b:Int}(hx:ev x t=.some (.int q a)) (hy:ev y t=.some (.int q b)) (h1:a≤b→k (.bool true) s) (h2:b<a→k (.bool false) s):EPrim (.bin .leq x y) t s k:=
 Zdx hx hy fun c hc=>by cases c with|true=>exact h1 (hc.1 rfl)|false=>exact h2 (by simp at hc;omega)
theorem Dm {q:IntKind}{a b:Int}(hx:ev x t=.some (.int q a)) (hy:ev y t=.some (.int q b)) (h1:b<a→k (.bool true) s) (h2:a≤b→k (.bool false) s):EPrim (.bin .gtr x y) t s k:=
 LV hx hy fun c hc=>by cases c with|true=>exact h1 (hc.1 rfl)|false=>exact h2 (by simp at hc;omega)
theorem FI {q:IntKind}{a b:Int}(hx:ev x t=.some (.int q a)) (hy:ev y t=.some (.int q b)) (h1:b≤a→k (.bool true) s) (h2:a<b→k (.bool false) s):EPrim (.bin .geq x y) t s k:=
 Zdy hx hy fun c hc=>by cases c with|true=>exact h1 (hc.1 rfl)|false=>exact h2 (by simp at hc;omega)
theorem B2 {q:IntKind}{a b:Int}(hx:ev x t=.some (.int q a)) (hy:ev y t=.some (.int q b)) (h1:a=b→k (.bool true) s) (h2:a≠b→k (.bool false) s):EPrim (.bin .eql x y) t s k:=
 Q7 hx hy fun c hc=>by cases c with|true=>exact h1 (hc.1 rfl)|false=>exact h2 (by simpa using hc)
theorem B7 {q:IntKind}{a b:Int}(hx:ev x t=.some (.int q a)) (hy:ev y t=.some (.int q b)) (h1:a≠b→k (.bool true) s) (h2:a=b→k (.bool false) s):EPrim (.bin .neq x y) t s k:=
 Zdu hx hy fun c hc=>by cases c with|true=>exact h1 (hc.1 rfl)|false=>exact h2 (by simpa using hc)
theorem EPrim.add (hx:ev x t=.some (.int q a)) (hy:ev y t=.some (.int q b)) (hk:k (.int q (q.wrap (a+b))) s):EPrim (.bin .add x y) t s k:=
 DM hx hy (by show Ka (ar _ _ _) _=_;rw [RQ];rfl) (by rw [Er,WB];exact hk)
theorem EPrim.sub (hx:ev x t=.some (.int q a)) (hy:ev y t=.some (.int q b)) (hk:k (.int q (q.wrap (a-b))) s):EPrim (.bin .sub x y) t s k:=
 DM hx hy (RQ (f:=fun k a b=>Ef k (Px a b))) (by rw [Er,QR];exact hk)
theorem EPrim.mul (hx:ev x t=.some (.int q a)) (hy:ev y t=.some (.int q b)) (hk:k (.int q (q.wrap (a*b))) s):EPrim (.bin .mul x y) t s k:=
 DM hx hy (RQ (f:=fun k a b=>Ef k (MP a b))) (by rw [Er,O2];exact hk)
theorem i64_in {n:Int}(h:-9223372036854775808≤n∧n≤9223372036854775807):IntKind.i64.wrap n=n:=IntWalk.i64_in n h
theorem Bu (hx:ev x t=.some (.int .i64 a)) (hy:ev y t=.some (.int .i64 b)) (h:-9223372036854775808≤a+b∧a+b≤9223372036854775807) (hk:k (.int .i64 (a+b)) s):EPrim (.bin .add x y) t s k:=
 EPrim.add hx hy (by rw [i64_in h];exact hk)
theorem Iw {a b:Int}(hx:ev x t=.some (.int .i64 a)) (hy:ev y t=.some (.int .i64 b)) (h:-9223372036854775808≤a-b∧a-b≤9223372036854775807) (hk:k (.int .i64 (a-b)) s):EPrim (.bin .sub x y) t s k:=
 EPrim.sub hx hy (by rw [i64_in h];exact hk)
theorem EA (hx:ev x t=.some (.int .i64 a)) (hy:ev y t=.some (.int .i64 b)) (h:-9223372036854775808≤a*b∧a*b≤9223372036854775807) (hk:k (.int .i64 (a*b)) s):EPrim (.bin .mul x y) t s k:=
 EPrim.mul hx hy (by rw [i64_in h];exact hk)
theorem Zdr (hx:ev x t=.some (.int q a)) (hy:ev y t=.some (.int q b)) (h:b≠0) (hk:k (.int q (a.tmod b)) s):EPrim (.bin .rem x y) t s k:=by
 refine DM hx hy (v:=.int q (a.tmod b)) ?_ hk
 show (Bool.rec .none (Bool.rec (.some (.int q (RX a b))) .none (DX b 0)) (Cx q q):OV)=_
 rw [Ky,Hj,show (b == 0)=false by simpa using h,U0]
theorem Qm (hx:ev x t=.some (.int q a)) (hy:ev y t=.some (.int q b)) (h:0≤a∧0<b) (hk:k (.int q (a % b)) s):EPrim (.bin .rem x y) t s k:=
 Zdr hx hy (by omega) (by rw [Int.tmod_eq_emod_of_nonneg h.1];exact hk)
theorem Qn (hx:ev x t=.some (.bool true)) (hk:k (.bool false) s):EPrim (.un .not x) t s k:=by
 refine EPrim.mk (v:=.bool false) (s':=s) (fun e rec=>?_) hk
 show wth x t _=_;unfold wth;rw [hx];rfl
theorem LE (hx:ev x t=.some (.bool false)) (hk:k (.bool true) s):EPrim (.un .not x) t s k:=by
 refine EPrim.mk (v:=.bool true) (s':=s) (fun e rec=>?_) hk
 show wth x t _=_;unfold wth;rw [hx];rfl
variable {l:List AO}
theorem EPrim.max2 (hx:Co t l=some [.int q a,.int q b]) (hk:k (.int q (max a b)) s):EPrim (.mn true l) t s k:=by
 refine EPrim.mk (v:=.int q (max a b)) (s':=s) (fun e rec=>?_) hk
 show (Option.rec .fail (fun l=>List.rec .fail (fun x l _=>ret (mm true l x) s) l) (Co t l):RV)=_
 rw [hx]
 show ret (Bool.rec .none (.some (.int q (Bool.rec a b (E7 a b)))) (Cx q q):OV) s=_
 rw [Ky,FV]
 by_cases h:a<b
 ·rw [Zok h,show max a b=b by omega];rfl
 ·rw [Zow h,show max a b=a by omega];rfl
theorem EPrim.min2 (hx:Co t l=some [.int q a,.int q b]) (hk:k (.int q (min a b)) s):EPrim (.mn false l) t s k:=by
 refine EPrim.mk (v:=.int q (min a b)) (s':=s) (fun e rec=>?_) hk
 show (Option.rec .fail (fun l=>List.rec .fail (fun x l _=>ret (mm false l x) s) l) (Co t l):RV)=_
 rw [hx]
 show ret (Bool.rec .none (.some (.int q (Bool.rec a b (E7 b a)))) (Cx q q):OV) s=_
 rw [Ky,FV]
 by_cases h:b<a
 ·rw [Zok h,show min a b=b by omega];rfl
 ·rw [Zow h,show min a b=a by omega];rfl
end
end Go.AM
namespace Go.AM
noncomputable def Am:List (Nat×AV)→AT
 | []=>.lf
 | p::l=>(Am l).set p.2 p.1
theorem QX:∀ {l:List (Nat×AV)}{i:Nat}{v:AV},(Am l).get i=some v→∃ p ∈ l,p.1=i∧p.2=v
 | [],i,v,h=>by cases h
 | p::l,i,v,h=>by
  rcases Gy h with ⟨rfl,rfl⟩|⟨_,h⟩
  ·exact ⟨p,by simp,rfl,rfl⟩
  ·obtain ⟨q,hq,e⟩:=QX h
   exact ⟨q,by simp [hq],e⟩
def nm (rs:List Nat):Nat→Nat:=fun j=>getD rs j
 where getD:List Nat→Nat→Nat
  | [],_=>0
  | x::_,0=>x
  | _::l,j+1=>getD l j
variable {rs:List Nat}
theorem Fp {j r:Nat}(h:rs[j]?=some r):nm rs j=r:=by
 unfold nm
 induction rs generalizing j with
 | nil=>simp at h
 | cons x l ih=>cases j with
  | zero=>simp at h;exact h
  | succ j=>exact ih (by simpa using h)
@[reducible] def TmpOk (n:Nat) (rs:List Nat) (t:AT):List (Nat×AV)→Prop
 | []=>True
 | p::l=>(bd n p.2=true∧t.get p.1=some (A2 (nm rs) p.2))∧TmpOk n rs t l
@[reducible] def RowOk (n:Nat) (all:List Nat) (s:St):List AObj→List Nat→Prop
 | [],[]=>True
 | o::l,r::rs=>(Ds 0 n o=true∧s.get r=some (B5 (nm all) o))∧RowOk n all s l rs
 | _,_=>False
structure Abs (t:AT) (s:St) (tl:List (Nat×AV)) (os:List AObj) (rs:List Nat):Prop where
 nd:rs.Nodup
 tmp:TmpOk os.length rs t tl
 row:RowOk os.length rs s os rs
variable {n:Nat}{t:AT}
theorem TmpOk.get:∀ {l:List (Nat×AV)},TmpOk n rs t l→∀ p ∈ l,bd n p.2=true∧t.get p.1=some (A2 (nm rs) p.2)
 | [],_,p,hp=>by simp at hp
 | q::l,h,p,hp=>by
  rcases Zpp.1 hp with rfl|hp
  ·exact h.1
  ·exact TmpOk.get h.2 p hp
variable {s:St}
theorem RowOk.get {all:List Nat}:∀ {l:List AObj}{rs:List Nat},RowOk n all s l rs→l.length=rs.length∧∀ (j:Nat) o,l[j]?=some o→∃ r,rs[j]?=some r∧Ds 0 n o=true∧s.get r=some (B5 (nm all) o)
 | [],[],_=>⟨rfl,fun j o h=>by simp at h⟩
 | [],_::_,h=>h.elim
 | _::_,[],h=>h.elim
 | o::l,r::rs,h=>by
  obtain ⟨h1,h2⟩:=RowOk.get h.2
  refine ⟨by simp [h1],fun j o' hj=>?_⟩
  cases j with
  | zero=>simp at hj;subst hj;exact ⟨r,by simp,h.1⟩
  | succ j=>simpa using h2 j o' (by simpa using hj)
theorem E8 (os:List AObj):(Ac St0 os).next=os.length:=by rw [H8];show 0+_=_;omega
theorem Abs.ren {tl:List (Nat×AV)}{os:List AObj}(h:Abs t s tl os rs):Ren 0 (nm rs) t s [] (Am tl) (Ac St0 os) []:=by
 obtain ⟨hl,hr⟩:=h.row.get
 refine ⟨fun r hr=>by omega,Zoy _,?_,?_,?_,⟨rfl,by simp⟩⟩
 ·intro i j hi hj e
  rw [E8] at hi hj
  have e1:=Fp (Zof (l:=rs) (i:=i) (by omega))
  have e2:=Fp (Zof (l:=rs) (i:=j) (by omega))
  rw [e1,e2] at e
  exact (List.getElem_inj h.nd).1 e
 ·intro i v hv
  obtain ⟨p,hp,rfl,rfl⟩:=QX hv
  rw [E8]
  exact h.tmp.get p hp
 ·intro r o ho
  have:=Ko os St0 (Zoy r) (fun _ _=>rfl) ho
  have hz:r-St0.next=r:=Nat.sub_zero r
  rw [hz] at this
  obtain ⟨q,hq,hb,hg⟩:=hr r o this
  rw [E8,Fp hq]
  exact ⟨(Zog.1 this).1,hb,hg⟩
section
variable {P:Program}{rd:Option Nat}{ac:AC}{t:AT}{s:St}{Q:EQ}
theorem W.abs (tl:List (Nat×AV)) (os:List AObj) (rs:List Nat) (h:Abs t s tl os rs) (hw:W P 0 rd ac (Am tl) (Ac St0 os) [] Q):W P 0 rd ac t s [] Q:=W.ren h.ren hw
theorem EX {α:Type}(tl:α→List (Nat×AV)) (os:α→List AObj) (μ:α→Nat) (I:α→Prop) (x0:α) (rs:List Nat) (h0:I x0) (ha:Abs t s (tl x0) (os x0) rs)
 (hr:∀ x,I x→W P 0 rd ac (Am (tl x)) (Ac St0 (os x)) [] (Hy (fun t s ds=>ds=[]∧∃ x',I x'∧μ x'<μ x∧∃ rs,Abs t s (tl x') (os x') rs) Q)):W P 0 rd (.loop ac) t s [] Q:=by
 refine W.loop (fun n t s ds=>ds=[]∧∃ x,n=μ x∧I x∧∃ rs,Abs t s (tl x) (os x) rs) (μ x0) ⟨rfl,x0,rfl,h0,rs,ha⟩ ?_
 rintro n t s ds ⟨rfl,x,rfl,hi,rs,ha⟩
 refine W.ren ha.ren ((hr x hi).mono ?_)
 intro y t s ds hq
 cases y with
 | normal=>
  obtain ⟨rfl,x',hi',hm,rs,ha⟩:=(show ds=[]∧∃ x',I x'∧μ x'<μ x∧∃ rs,Abs t s (tl x') (os x') rs from hq)
  exact ⟨μ x',hm,rfl,x',rfl,hi',rs,ha⟩
 | exit id=>exact hq
 | ret=>exact hq
end
end Go.AM
namespace Go.AM
theorem AP {α:Type}{x:Option α}{K:α→Prop}(v:α) (h:x=some v) (hk:K v):(Option.rec (motive:=fun _=>Prop) False K x):=by rw [h];exact hk
section
variable {t:AT}{s:St}{k:AV→St→Prop}{x y:AO}
variable {r o n es i:Nat}{q:IntKind}
theorem LH (hx:ev x t=.some (.ptr r o)) (hy:ev y t=.some (.int q (Int.ofNat i))) (h:i<n) (hk:k (.ptr r (o+i*es)) s):EPrim (.ixa n es x y) t s k:=by
 refine EPrim.mk (fun e rec=>?_) hk
 show wth x t _=_;unfold wth;rw [hx]
 show wth y t _=_;unfold wth;rw [hy]
 show gd (Nat.blt i n) _=_
 rw [show Nat.blt i n=true by simpa using h];rfl
variable {c:Option Nat}
theorem D7 (hx:ev x t=.some (.sl r o n c)) (hy:ev y t=.some (.int q (Int.ofNat i))) (h:i<n) (hk:k (.ptr r (o+i*es)) s):EPrim (.ixs es x y) t s k:=by
 refine EPrim.mk (fun e rec=>?_) hk
 show wth x t _=_;unfold wth;rw [hx]
 show wth y t _=_;unfold wth;rw [hy]
 show gd (Nat.blt i n) _=_
 rw [show Nat.blt i n=true by simpa using h];rfl
variable {l:List AV}
theorem LG (hx:ev x t=.some (.fz n c l)) (hy:ev y t=.some (.int q (Int.ofNat i))) (h:i<n) (hk:k (.fp (l.drop (i*es))) s):EPrim (.ixs es x y) t s k:=by
 rw [← GY] at hk
 refine EPrim.mk (fun e rec=>?_) hk
 show wth x t _=_;unfold wth;rw [hx]
 show wth y t _=_;unfold wth;rw [hy]
 show gd (Nat.blt i n) _=_
 rw [show Nat.blt i n=true by simpa using h];rfl
def Sl (es n:Nat) (l:List AV) (v:AV):Prop:=(v=.nils∧n=0∧l=[])∨(v=.es∧n=0∧l=[])∨(∃ c,v=.fz n c l∧l.length=n*es)
variable {v:AV}
theorem Sl.hf (h:Sl es n l v):hf v=true:=by
 rcases h with ⟨rfl,_⟩|⟨rfl,_⟩|⟨c,rfl,_⟩ <;> rfl
theorem NF (hx:ev x t=.some v) (h:Sl es n l v) (hk:k (.int .i64 (Int.ofNat n)) s):EPrim (.len x) t s k:=by
 refine EPrim.mk (v:=.int .i64 (Int.ofNat n)) (s':=s) (fun e rec=>?_) hk
 show wth x t _=_;unfold wth;rw [hx]
 rcases h with ⟨rfl,rfl,_⟩|⟨rfl,rfl,_⟩|⟨c,rfl,_⟩ <;> rfl
theorem A8 (hx:ev x t=.some v) (hs:Sl es n l v) (hy:ev y t=.some (.int q (Int.ofNat i))) (h:i<n) (hk:k (.fp (l.drop (i*es))) s):EPrim (.ixs es x y) t s k:=by
 rcases hs with ⟨rfl,rfl,_⟩|⟨rfl,rfl,_⟩|⟨c,rfl,_⟩
 ·omega
 ·omega
 ·exact LG hx hy h hk
theorem Qq (hx:ev x t=.some (.sl r o n c)) (hk:k (.int .i64 (Int.ofNat n)) s):EPrim (.len x) t s k:=by
 refine EPrim.mk (v:=.int .i64 (Int.ofNat n)) (s':=s) (fun e rec=>?_) hk
 show wth x t _=_;unfold wth;rw [hx];rfl
variable {a b:Nat}
theorem L8 (hx:ev x t=.some (.int .u32 (Int.ofNat a))) (hy:ev y t=.some (.int .u32 (Int.ofNat b))) (ha:a<4294967296) (hb:b<4294967296) (hk:k (.int .u32 (Int.ofNat (a ^^^ b))) s):EPrim (.bin .xor x y) t s k:=by
 refine DM hx hy (v:=.int .u32 (Int.ofNat (a ^^^ b))) ?_ hk
 show OV.some (.int .u32 (Int.ofNat (Nat.xor (a % 4294967296) (b % 4294967296))))=_
 rw [Zqc ha,Zqc hb];rfl
theorem Tm (hx:ev x t=.some (.int .u32 (Int.ofNat a))) (hy:ev y t=.some (.int .u32 (Int.ofNat b))) (ha:a<4294967296) (hb:b<4294967296) (hk:k (.int .u32 (Int.ofNat (a &&& b))) s):EPrim (.bin .and x y) t s k:=by
 refine DM hx hy (v:=.int .u32 (Int.ofNat (a &&& b))) ?_ hk
 show OV.some (.int .u32 (Int.ofNat (Nat.land (a % 4294967296) (b % 4294967296))))=_
 rw [Zqc ha,Zqc hb];rfl
theorem Tl (hx:ev x t=.some (.int .u32 (Int.ofNat a))) (ha:a<4294967296) (hk:k (.int .u32 (Int.ofNat (a ^^^ 4294967295))) s):EPrim (.un .xor x) t s k:=by
 refine EPrim.mk (v:=.int .u32 (Int.ofNat (a ^^^ 4294967295))) (s':=s) (fun e rec=>?_) hk
 show wth x t _=_;unfold wth;rw [hx]
 show RV.ok (.int .u32 (Int.ofNat (Nat.xor (4294967295 % 4294967296) (a % 4294967296)))) s=_
 rw [Zqc ha,Zqc (by omega)]
 show RV.ok (.int .u32 (Int.ofNat (4294967295 ^^^ a))) s=_
 rw [Nat.xor_comm]
theorem NE {r:IntKind}(hx:ev x t=.some (.int q (Int.ofNat a))) (hy:ev y t=.some (.int r (Int.ofNat n))) (hn:n≤q.bits) (hk:k (.int q (Int.ofNat (a / 2^n))) s):EPrim (.bin .shr x y) t s k:=by
 refine DM hx hy (v:=.int q (Int.ofNat (a / 2^n))) ?_ hk
 show OV.some (.int q (Int.ofNat (a / 2^(Nat.min n q.bits))))=_
 rw [show Nat.min n q.bits=n from Nat.min_eq_left hn]
theorem Zbg (ha:a<4294967296):Ef .u32 (Int.ofNat a)=Int.ofNat a:=by
 show Int.ofNat (a % 4294967296)=_;rw [Zqc ha]
theorem Zm (hx:ev x t=.some (.int q (Int.ofNat a))) (ha:a<4294967296) (hk:k (.int .u32 (Int.ofNat a)) s):EPrim (.cvi .u32 x) t s k:=by
 refine EPrim.mk (v:=.int .u32 (Int.ofNat a)) (s':=s) (fun e rec=>?_) hk
 show wth x t _=_;unfold wth;rw [hx]
 show RV.ok (.int .u32 (Ef .u32 (Int.ofNat a))) s=_
 rw [Zbg ha]
theorem Qr {b:Int}(hx:ev x t=.some (.int .i64 (Int.ofNat a))) (hy:ev y t=.some (.int .i64 b)) (hb:b=1) (h:a<9223372036854775807) (hk:k (.int .i64 (Int.ofNat (a+1))) s):EPrim (.bin .add x y) t s k:=by
 subst hb
 refine Bu hx hy ?_ ?_
 ·have:Int.ofNat a=(a:Int):=rfl
  omega
 ·exact hk
theorem Qo (hx:ev x t=.some (.int q (Int.ofNat a))) (hy:ev y t=.some (.int q (Int.ofNat b))) (h1:a<b→k (.bool true) s) (h2:b≤a→k (.bool false) s):EPrim (.bin .lss x y) t s k:=
 Ag hx hy (fun h=>h1 (by have e1:Int.ofNat a=(a:Int):=rfl;have e2:Int.ofNat b=(b:Int):=rfl;omega)) (fun h=>h2 (by have e1:Int.ofNat a=(a:Int):=rfl;have e2:Int.ofNat b=(b:Int):=rfl;omega))
end
def byV (b:Nat):AV:=.int .u8 (Int.ofNat b)
def Ab (l:List Nat):List AV:=l.map byV
theorem Zg {l:List Nat}{i:Nat}(h:i<l.length):((Ab l).drop (i*1))[0]?=some (.int .u8 (Int.ofNat l[i])):=by
 rw [Zoq];simp [Ab,byV,h]
end Go.AM
