/- Contracts of functions over the abstract machine. No conditions. -/
import Derived.Test.YtacmbogmbfmjeaaGreatAM3
set_option linter.unusedVariables false
set_option linter.unusedSimpArgs false
set_option maxRecDepth 100000
namespace Go.AM
section
variable {P:Program}{γ:Gam}{s:St}{w:World}
theorem Sim.ghost (h:Sim P γ s w) (o:AObj):Sim P γ (s.alloc o) w:=by
 have hn:=h.nx s.next (Zp4 _)
 have old:∀ {r:Nat}{x:AObj}{L:Loc},(s.alloc o).get r=some x->γ r=some L->s.get r=some x:=by
  intro r x L hx hL
  rcases G3 hx with ⟨rfl,_⟩|⟨_,hx⟩
  ·rw [hn] at hL;cases hL
  ·exact hx
 refine ⟨fun r x L hx hL=>h.obj r x L (old hx hL) hL,fun r r' x x' L L' hx hx' ha ha' hL hL' hne=>h.inj r r' x x' L L' (old hx hL) (old hx' hL') ha ha' hL hL' hne,h.lt,?_,?_,h.fzc,fun r x L hx ha hL=>h.fzr r x L (old hx hL) ha hL⟩
 ·intro r hr;rw [CH] at hr;exact h.nx r (by omega)
 ·intro r x hx
  rw [CH]
  rcases G3 hx with ⟨rfl,_⟩|⟨_,hx⟩
  ·omega
  ·have:=h.dom r x hx;omega
variable {γ0:Gam}{s0:St}{w0:World}
theorem Stp.ghost (h:Stp γ0 s0 w0 γ s w) (o:AObj):Stp γ0 s0 w0 γ (s.alloc o) w:=
 ⟨h.le,h.new,by rw [CH];have:=h.next;omega,h.size,h.os,h.tape,h.output,h.blk,fun r h0 hr=>by rw [Ie (by have:=h.next;omega)];exact h.keep r h0 hr,h.fzn⟩
variable {r sz es:Nat}{O:Obj}
theorem Sim.wake (h:Sim P γ s w) {obj:AObj}(hr:γ r=none) (hlt:r<s.next) (hg:∀ x,s.get r=some x->x=obj)
 (ho:ObjR P (ext γ r ⟨w.heap.size,0,sz,es⟩) ⟨w.heap.size,0,sz,es⟩ obj (w.alloc O).heap):Sim P (ext γ r ⟨w.heap.size,0,sz,es⟩) s (w.alloc O):=by
 have hle:=F6 (L:=⟨w.heap.size,0,sz,es⟩) hr
 have hold:∀ b,b<w.heap.size->(w.alloc O).heap[b]?=w.heap[b]?:=fun b hb=>by
  show (w.heap.push O)[b]?=_
  rw [Array.getElem?_push,Zpr (by omega)]
 have hsz:(w.alloc O).heap.size=w.heap.size+1:=by show (w.heap.push O).size=_;simp
 refine ⟨?_,?_,?_,?_,h.dom,fun b c hb=>?_,fun k x L hx ha hL=>?_⟩
 rotate_right
 ·by_cases e:k=r
  ·subst e;rw [BB] at hL;cases hL;exact h.fzout (Zp4 _)
  ·rw [Ct _ _ e] at hL;exact h.fzr k x L hx ha hL
 rotate_right
 ·obtain ⟨e,fr,h1⟩:=h.fzc b c hb
  exact ⟨e,fr,(hold b (h.fzlt hb)).trans h1⟩
 ·intro k x L hx hL
  by_cases e:k=r
  ·subst e;rw [BB] at hL;cases hL;rw [hg x hx];exact ho
  ·rw [Ct _ _ e] at hL
   exact ((h.obj k x L hx hL).mono hle).heap (hold _ (h.lt k L hL))
 ·intro k k' x x' L L' hx hx' ha ha' hL hL' hne
  by_cases e:k=r
  ·subst e
   rw [BB] at hL;rw [Ct _ _ (fun e=>hne e.symm)] at hL';cases hL
   have:=h.lt _ _ hL';show w.heap.size≠L'.b;omega
  ·rw [Ct _ _ e] at hL
   by_cases e':k'=r
   ·subst e';rw [BB] at hL';cases hL'
    have:=h.lt _ _ hL;show L.b≠w.heap.size;omega
   ·rw [Ct _ _ e'] at hL'
    exact h.inj k k' x x' L L' hx hx' ha ha' hL hL' hne
 ·intro k L hL
  by_cases e:k=r
  ·subst e;rw [BB] at hL;cases hL;rw [hsz];exact Nat.lt_succ_self _
  ·rw [Ct _ _ e] at hL;have:=h.lt k L hL;omega
 ·intro k hk
  rw [Ct _ _ (by omega)];exact h.nx k hk
theorem Stp.wake (h:Stp γ0 s0 w0 γ s w) (hr:γ r=none) (h0:s0.next≤r):Stp γ0 s0 w0 (ext γ r ⟨w.heap.size,0,sz,es⟩) s (w.alloc O):=by
 have hle:=F6 (L:=⟨w.heap.size,0,sz,es⟩) hr
 have hsz:(w.alloc O).heap.size=w.heap.size+1:=by show (w.heap.push O).size=_;simp
 have hsw:=h.size
 refine ⟨h.le.trans hle,?_,h.next,by omega,h.os,h.tape,h.output,?_,h.keep,h.fzn⟩
 ·intro k L hk hk0
  by_cases e:k=r
  ·subst e;rw [BB] at hk;cases hk;exact ⟨h0,.inl hsw⟩
  ·rw [Ct _ _ e] at hk;exact h.new k L hk hk0
 ·intro b hb hn
  rw [← h.blk b hb hn]
  show (w.heap.push O)[b]?=_
  rw [Array.getElem?_push,Zpr (by omega)]
variable {t:AT}
theorem Zbg {e:Env}{rec:Rec}{p:AOp}{v:AV}{s':St}(hp:F5 p=true) (h:AQ p e rec t s=.ok v s'):∃ obj,s'=s.alloc obj:=by
 cases p with
 | new a b z=>cases h;exact ⟨_,rfl⟩
 | box a b x=>
  obtain ⟨u,_,h⟩:=AH h
  obtain ⟨_,h⟩:=BF h
  cases h;exact ⟨_,rfl⟩
 | bsl a b c z ps=>obtain ⟨u,_,h⟩:=AJ h;cases h;exact ⟨_,rfl⟩
 | mks a b z l c=>
  obtain ⟨_,_,h⟩:=C9 h
  obtain ⟨_,_,h⟩:=C9 h
  obtain ⟨_,h⟩:=BF h
  cases h;exact ⟨_,rfl⟩
 | mkmap=>cases h;exact ⟨_,rfl⟩
 | _=>cases hp
variable {a:Act}{ops:Array Oper}{o:Oper}
theorem SM (h:∀ x v,x ∈ Eo ops o->t.get x=some v->∃ v',a.tmps[x]?=some v'∧VR γ v v'):Evs γ t a.eval o.op.operands.toList:=by
 intro x hx y v hy hv
 unfold Ai at hy
 split at hy
 ·rename_i i
  cases hy
  change (Option.rec .none (fun v=>.some v) (t.get i):OV)=.some v at hv
  cases hg:t.get i with
  | none=>rw [hg] at hv;cases hv
  | some u=>
   rw [hg] at hv;cases hv
   obtain ⟨v',h1,h2⟩:=h i v (List.mem_append_left _ (List.mem_filterMap.2 ⟨.tmp i,hx,rfl⟩)) hg
   show VR γ v (a.tmps.getD i undef)
   rw [Zql,h1];exact h2
 ·obtain ⟨u,hu,rfl⟩:=map_some hy
  cases hv;exact Tg hu
 ·cases hy;cases hv;exact .fn _ _ _ _ _ .nil .nil
 ·cases hy
theorem QV {N:Nat}{g:Option (Nat×Bool)}(h:∀ x v,x ∈ Eo ops o->t.get x=some v->∃ v',a.tmps[x]?=some v'∧VR γ v v') (hg:G7 ops N o.guard=some g):
 (AS g t=2->Region.wanted o (yielded ops a.tmps)=true)∧(AS g t=1->Region.wanted o (yielded ops a.tmps)=false):=by
 unfold G7 at hg
 unfold Region.wanted
 split at hg
 ·rename_i hgo;cases hg;rw [hgo];exact ⟨fun _=>rfl,fun h=>(by cases h)⟩
 ·rename_i j b hgo
  rw [hgo]
  split at hg
  ·rename_i d hd;cases hg
   show ((Option.rec 0 (fun v=>BR.rec (Bool.rec 1 0 (B4 v)) (Bool.rec 1 2 b) (Bool.rec 2 1 b) (asBool v)) (t.get d):Nat)=2->(yielded ops a.tmps j == some b)=true)∧((Option.rec 0 (fun v=>BR.rec (Bool.rec 1 0 (B4 v)) (Bool.rec 1 2 b) (Bool.rec 2 1 b) (asBool v)) (t.get d):Nat)=1->(yielded ops a.tmps j == some b)=false)
   cases hgt:t.get d with
   | none=>exact ⟨fun h=>(by cases h),fun h=>(by cases h)⟩
   | some v=>
    obtain ⟨v',h1,h2⟩:=h d v (by unfold Eo;rw [hgo];exact List.mem_append_right _ (by simp [hd])) hgt
    simp only [yielded,hd,Option.bind_some,h1]
    cases h2 <;> first|(cases b <;> rename_i q <;> cases q <;> simp [asBool,B4])|(cases b <;> simp [asBool,B4])
  ·cases hg
end
section
variable {P:Program}{e:Env}{rec:Rec}{N:Nat}{ops:Array Oper}{cs:List AOper}{its:List It}{al:List AOper}{tq:Nat->AT}{sq:Nat->St}{V:Nat->AV}{γ:Gam}
structure Slots (ops:Array Oper) (V:Nat->AV) (t0:AT) (D:Nat->Prop) (γ:Gam) (tm:Array Value):Prop where
 done:∀ (j:Nat) (o:Oper) (x:Nat),D j->ops[j]?=some o->o.dst=some x->∃ v',tm[x]?=some v'∧VR γ (V j) v'
 rest:∀ (x:Nat) (v:AV),t0.get x=some v->(∀ (j:Nat) (o:Oper),D j->ops[j]?=some o->o.dst≠some x)->∃ v',tm[x]?=some v'∧VR γ v v'
variable {t0:AT}{D:Nat->Prop}
theorem Slots.mono {γ':Gam}{tm:Array Value}(h:Slots ops V t0 D γ tm) (hle:Le γ γ'):Slots ops V t0 D γ' tm:=
 ⟨fun j o x hd ho hx=>let ⟨v',a,b⟩:=h.done j o x hd ho hx;⟨v',a,b.mono hle⟩,fun x v hv hn=>let ⟨v',a,b⟩:=h.rest x v hv hn;⟨v',a,b.mono hle⟩⟩
variable {a:Act}{q i:Nat}{o:Oper}
theorem Rz (hp:Plan P N ops cs its al) (hr:Ran P e rec N ops cs its tq sq V) (hD:KY ops D) (hS:Slots ops V (tq 0) D γ a.tmps) (hq:its[q]?=some (.op i)) (ho:ops[i]?=some o) (hn:¬ D i)
 (hpre:∀ j,((BK ops.toList []).getD i 0).testBit j=true->D j):∀ x v,x ∈ Eo ops o->(tq q).get x=some v->∃ v',a.tmps[x]?=some v'∧VR γ v v':=by
 intro x v hx hv
 have hql:q<its.length:=(Zpk.1 hq).1
 rcases O7 hp hr x v q (by omega) hv with ⟨q',j,oj,h1,h2,h3,h4,rfl⟩|⟨h1,h2⟩
 ·exact hS.done j oj x (hpre j (hp.rd1 q' q j i oj o x h1 h2 hq h3 ho h4 hx)) h3 h4
 ·refine hS.rest x v h1 fun j oj hdj hoj hxj=>?_
  have hjlt:j<ops.size:=(Zqn.1 hoj).1
  obtain ⟨q',hq'⟩:=hp.has j hjlt
  rcases Nat.lt_trichotomy q' q with hlt|heq|hgt
  ·exact h2 q' j oj hlt hq' hoj hxj
  ·subst heq
   rw [hq] at hq';cases hq'
   exact hn hdj
  ·have hb:=hp.rd2 q q' i j o oj x hgt hq hq' ho hoj hxj hx
   exact hn (VI hp.back hD hjlt hdj hb)
theorem Zew (hp:Plan P N ops cs its al) (hr:Ran P e rec N ops cs its tq sq V) (hS:Slots ops V (tq 0) D γ a.tmps) {c:Nat}(hq:its[q]?=some (.op i)) (hc:its[c]?=some (.chk i)) (hqc:q<c) (ho:ops[i]?=some o)
 (hpre:∀ j,((BK ops.toList []).getD i 0).testBit j=true->D j):∀ x v,x ∈ Eo ops o->(tq c).get x=some v->∃ v',a.tmps[x]?=some v'∧VR γ v v':=by
 intro x v hx hv
 have hcl:c<its.length:=(Zpk.1 hc).1
 rcases O7 hp hr x v c (by omega) hv with ⟨q',j,oj,h1,h2,h3,h4,rfl⟩|⟨h1,h2⟩
 ·exact hS.done j oj x (hpre j (hp.reads c i j o oj x hc ho h3 h4 hx)) h3 h4
 ·refine hS.rest x v h1 fun j oj hdj hoj hxj=>?_
  have hjlt:j<ops.size:=(Zqn.1 hoj).1
  have hilt:i<ops.size:=(Zqn.1 ho).1
  obtain ⟨q',hq'⟩:=hp.has j hjlt
  have hbij:=hp.reads c i j o oj x hc ho hoj hxj hx
  by_cases hlt:q'<c
  ·exact h2 q' j oj hlt hq' hoj hxj
  ·have hb:=hp.rd2 q q' i j o oj x (by omega) hq hq' ho hoj hxj hx
   have e1:=VM hp.back i j hilt hbij
   have e2:=VM hp.back j i hjlt hb
   omega
theorem Slots.put (hp:Plan P N ops cs its al) (hS:Slots ops V t0 D γ a.tmps) {d:Nat}{v':Value}(ho:ops[i]?=some o) (hN:N≤a.tmps.size) (hd:EH N o.dst=some d) (hv:VR γ (V i) v'∨o.dst=none) (hn:¬ D i):
 Slots ops V t0 (fun j=>D j∨j=i) γ (a.put o.dst v').tmps:=by
 have hilt:i<ops.size:=(Zqn.1 ho).1
 obtain ⟨q,hq⟩:=hp.has i hilt
 cases hdst:o.dst with
 | none=>
  refine ⟨fun j oj x hdj hoj hxj=>?_,fun x v hx hn'=>hS.rest x v hx fun j oj hdj=>hn' j oj (.inl hdj)⟩
  rcases hdj with hdj|rfl
  ·exact hS.done j oj x hdj hoj hxj
  ·rw [ho] at hoj;cases hoj;rw [hdst] at hxj;cases hxj
 | some z=>
  rw [hdst] at hd hv
  have hzlt:z<a.tmps.size:=by
   simp only [EH] at hd
   split at hd
   ·rename_i hz;exact Zrc hz hN
   ·cases hd
  have hvv:=hv.resolve_right (by simp)
  have other:∀ x,x≠z->(a.put (some z) v').tmps[x]?=a.tmps[x]?:=by
   intro x hx
   show (a.tmps.setIfInBounds z v')[x]?=_
   rw [Zqx,Zpr (fun e=>hx e.symm)]
  have same:(a.put (some z) v').tmps[z]?=some v':=by
   show (a.tmps.setIfInBounds z v')[z]?=_
   rw [Zqx,Zpn rfl,Zpn hzlt]
  refine ⟨fun j oj x hdj hoj hxj=>?_,fun x v hx hn'=>?_⟩
  ·rcases hdj with hdj|rfl
   ·have hxz:x≠z:=by
     rintro rfl
     have hjlt:j<ops.size:=(Zqn.1 hoj).1
     obtain ⟨q',hq'⟩:=hp.has j hjlt
     rcases Nat.lt_trichotomy q' q with hlt|heq|hgt
     ·exact hp.dst q' q j i oj o x hlt hq' hq hoj ho hxj hdst
     ·subst heq;rw [hq] at hq';cases hq';exact hn hdj
     ·exact hp.dst q q' i j o oj x hgt hq hq' ho hoj hdst hxj
    rw [other x hxz];exact hS.done j oj x hdj hoj hxj
   ·rw [ho] at hoj;cases hoj;rw [hdst] at hxj;cases hxj
    exact ⟨v',same,hvv⟩
  ·have hxz:x≠z:=by rintro rfl;exact hn' i o (.inr rfl) ho hdst
   rw [other x hxz];exact hS.rest x v hx fun j oj hdj=>hn' j oj (.inl hdj)
end
end Go.AM
namespace Go.AM
def Pq (cs:List AOper) (x:It):Prop:=∀ i,x=.op i->BV cs i=false
structure Inv (P:Program) (N:Nat) (ops:Array Oper) (cs:List AOper) (its:List It) (tq:Nat->AT) (sq:Nat->St) (V:Nat->AV) (γ0:Gam) (s0:St) (w0:World) (ds:List Nat) (p:Nat) (D:Nat->Prop) (γ:Gam) (a:Act) (w:World):Prop where
 closed:KY ops D
 eff:∀ (q i:Nat),its[q]?=some (.op i)->BV cs i=true->(D i↔q<p)
 below:∀ (q i:Nat),its[q]?=some (.op i)->D i->q<p
 slots:Slots ops V (tq 0) D γ a.tmps
 sim:Sim P γ (sq p) w
 stp:Stp γ0 s0 w0 γ (sq p) w
 size:N≤a.tmps.size
 defs:DR γ ds a.defers
 plen:p≤its.length
 ghost:∀ (q i d:Nat) (pp:AOp) (g:Option (Nat×Bool)),q<p->its[q]?=some (.op i)->¬ D i->cs[i]?=some (AOper.mk d pp g)->F5 pp=true->AS g (tq q)=2->
  γ (sq q).next=none∧(sq q).next<(sq p).next∧s0.next≤(sq q).next∧(sq p).get (sq q).next=(sq (q+1)).get (sq q).next
 gdist:∀ (q q' i i' d d':Nat) (pp pp':AOp) (g g':Option (Nat×Bool)),q<q'->q'<p->its[q]?=some (.op i)->its[q']?=some (.op i')->¬ D i->¬ D i'->cs[i]?=some (AOper.mk d pp g)->cs[i']?=some (AOper.mk d' pp' g')->F5 pp=true->F5 pp'=true->
  AS g (tq q)=2->AS g' (tq q')=2->(sq q).next<(sq q').next
 grow:∀ q,q≤p->(∀ (k:Nat) (x:It),q≤k->k<p->its[k]?=some x->Pq cs x)->Grows (sq q) (sq p)
section
variable {P:Program}{e:Env}{rec:Rec}{n N:Nat}{ops:Array Oper}{cs:List AOper}{its:List It}{al:List AOper}{tq:Nat->AT}{sq:Nat->St}{V:Nat->AV}{γ γ0:Gam}{s0:St}{w w0:World}{ds:List Nat}{D:Nat->Prop}{a:Act}{p:Nat}
theorem Grows.refl (s:St):Grows s s:=fun _ _ h=>h
theorem Grows.trans {s1 s2 s3:St}(h:Grows s1 s2) (k:Grows s2 s3):Grows s1 s3:=fun r x hx=>k r x (h r x hx)
theorem Inv.advance (hp:Plan P N ops cs its al) (hr:Ran P e rec N ops cs its tq sq V) (h:Inv P N ops cs its tq sq V γ0 s0 w0 ds p D γ a w) {x:It}(hx:its[p]?=some x) (hn:Pq cs x):Inv P N ops cs its tq sq V γ0 s0 w0 ds (p+1) D γ a w:=by
 have hlen:p<its.length:=(Zpk.1 hx).1
 have key:(sq (p+1)=sq p∧∀ (i d:Nat) (pp:AOp) (g:Option (Nat×Bool)),its[p]?=some (.op i)->cs[i]?=some (AOper.mk d pp g)->F5 pp=true->AS g (tq p)=2->False)∨∃ obj,sq (p+1)=(sq p).alloc obj:=by
  cases x with
  | chk i=>exact .inl ⟨(hr.chk p i hx).2.1,fun i' d pp g hi=>by rw [hx] at hi;cases hi⟩
  | op i=>
   have hil:=hp.lt p i hx
   obtain ⟨o,ho⟩:∃ o,ops[i]?=some o:=⟨ops[i],by simp [hil]⟩
   obtain ⟨d,pp,g,c1,c2,c3,c4,c5,c6⟩:=hr.op p i o hx ho
   have hne:II pp=false:=by have:=hn i rfl;simpa [BV,c1,Gn] using this
   rcases c6 with ⟨hw,_,hs⟩|⟨hw,hop⟩
   ·refine .inl ⟨hs,fun i' d' pp' g' hi' hc' _ hw'=>?_⟩
    rw [hx] at hi';cases hi';rw [c1] at hc';cases hc';rw [hw] at hw';cases hw'
   ·cases hm:F5 pp with
    | true=>exact .inr (Zbg hm hop)
    | false=>
     refine .inl ⟨?_,fun i' d' pp' g' hi' hc' hm' _=>?_⟩
     ·cases hl:Hu pp with
      | true=>exact (RJ hl _ _ _ hop).1
      | false=>exact (WW (A:=fun _ _=>True) (by simp [S4,hne,hl,hm]) _ _ _ hop).1
     ·rw [hx] at hi';cases hi';rw [c1] at hc';cases hc';rw [hm] at hm';cases hm'
 have heff:∀ (q i:Nat),its[q]?=some (.op i)->BV cs i=true->(D i↔q<p+1):=by
  intro q i hq he
  rw [h.eff q i hq he]
  refine ⟨fun hl=>by omega,fun hl=>?_⟩
  rcases Zrb.1 hl with h1|h1
  ·exact h1
  ·subst h1;rw [hx] at hq;cases hq;rw [hn i rfl] at he;cases he
 rcases key with ⟨hs,hno⟩|⟨obj,hs⟩
 ·refine ⟨h.closed,heff,fun q i hq hd=>by have:=h.below q i hq hd;omega,h.slots,hs ▸ h.sim,hs ▸ h.stp,h.size,h.defs,by omega,?_,?_,?_⟩
  ·intro q i d pp g hq hi hd hc hm hw
   rcases Zrb.1 hq with h1|h1
   ·rw [hs];exact h.ghost q i d pp g h1 hi hd hc hm hw
   ·subst h1;exact (hno i d pp g hi hc hm hw).elim
  ·intro q q' i i' d d' pp pp' g g' hqq hq' hi hi' hd hd' hc hc' hm hm' hw hw'
   rcases Zrb.1 hq' with h1|h1
   ·exact h.gdist q q' i i' d d' pp pp' g g' hqq h1 hi hi' hd hd' hc hc' hm hm' hw hw'
   ·subst h1;exact (hno i' d' pp' g' hi' hc' hm' hw').elim
  ·intro q hq hk
   by_cases hqp:q=p+1
   ·subst hqp;exact Grows.refl _
   ·rw [hs];exact h.grow q (by omega) fun k x hqk hkp hkx=>hk k x hqk (by omega) hkx
 ·have hnext:(sq (p+1)).next=(sq p).next+1:=by rw [hs,CH]
  have hgr:Grows (sq p) (sq (p+1)):=by
   intro r y hy
   rw [hs,Ie (by have:=h.sim.dom r y hy;omega)];exact hy
  refine ⟨h.closed,heff,fun q i hq hd=>by have:=h.below q i hq hd;omega,h.slots,hs ▸ h.sim.ghost obj,hs ▸ h.stp.ghost obj,h.size,h.defs,by omega,?_,?_,?_⟩
  ·intro q i d pp g hq hi hd hc hm hw
   rcases Zrb.1 hq with h1|h1
   ·obtain ⟨g1,g2,g3,g4⟩:=h.ghost q i d pp g h1 hi hd hc hm hw
    refine ⟨g1,by omega,g3,?_⟩
    rw [← g4,hs,Ie (by omega)]
   ·subst h1
    exact ⟨h.sim.nx _ (Zp4 _),by omega,h.stp.next,rfl⟩
  ·intro q q' i i' d d' pp pp' g g' hqq hq' hi hi' hd hd' hc hc' hm hm' hw hw'
   rcases Zrb.1 hq' with h1|h1
   ·exact h.gdist q q' i i' d d' pp pp' g g' hqq h1 hi hi' hd hd' hc hc' hm hm' hw hw'
   ·subst h1;exact (h.ghost q i d pp g hqq hi hd hc hm hw).2.1
  ·intro q hq hk
   by_cases hqp:q=p+1
   ·subst hqp;exact Grows.refl _
   ·exact (h.grow q (by omega) fun k x hqk hkp hkx=>hk k x hqk (by omega) hkx).trans hgr
def NH (cs:List AOper) (its:List It) (p:Nat):Prop:=p=its.length∨∃ i,its[p]?=some (.op i)∧BV cs i=true
theorem Inv.forth (hp:Plan P N ops cs its al) (hr:Ran P e rec N ops cs its tq sq V):∀ (k p:Nat),its.length-p=k->Inv P N ops cs its tq sq V γ0 s0 w0 ds p D γ a w->∃ p',Inv P N ops cs its tq sq V γ0 s0 w0 ds p' D γ a w∧NH cs its p':=by
 intro k
 induction k with
 | zero=>intro p hk h;exact ⟨p,h,.inl (by have:=h.plen;omega)⟩
 | succ k ih=>
  intro p hk h
  have hlen:p<its.length:=by omega
  obtain ⟨x,hx⟩:∃ x,its[p]?=some x:=⟨its[p],by simp [hlen]⟩
  cases x with
  | chk i=>exact ih (p+1) (by omega) (h.advance hp hr hx (fun i hi=>by cases hi))
  | op i=>
   cases he:BV cs i with
   | true=>exact ⟨p,h,.inr ⟨i,hx,he⟩⟩
   | false=>exact ih (p+1) (by omega) (h.advance hp hr hx (fun j hj=>by cases hj;exact he))
variable {i:Nat}{o:Oper}
theorem Vc (h:KY ops D) (ho:ops[i]?=some o) (hpre:∀ e ∈ o.after.toList,Region.binds .any e=true->D e.on):KY ops (fun j=>D j∨j=i):=by
 intro j oj hj hd e he hb
 rcases hd with hd|rfl
 ·exact .inl (h j oj hj hd e he hb)
 ·rw [ho] at hj;cases hj;exact .inl (hpre e he hb)
variable {d:Nat}{γ':Gam}{w':World}{v':Value}
theorem Inv.effect (hp:Plan P N ops cs its al) (h:Inv P N ops cs its tq sq V γ0 s0 w0 ds p D γ a w) {pp:AOp}{g:Option (Nat×Bool)}(hx:its[p]?=some (.op i)) (he:BV cs i=true) (ho:ops[i]?=some o) (hc:cs[i]?=some (AOper.mk d pp g)) (hcd:EH N o.dst=some d)
 (hpre:∀ e ∈ o.after.toList,Region.binds .any e=true->D e.on) (hst:Stp γ (sq p) w γ' (sq (p+1)) w') (hs:Sim P γ' (sq (p+1)) w') (hv:VR γ' (V i) v'∨o.dst=none):
 Inv P N ops cs its tq sq V γ0 s0 w0 ds (p+1) (fun j=>D j∨j=i) γ' (a.put o.dst v') w':=by
 have hni:¬ D i:=fun hd=>by have:=(h.eff p i hx he).1 hd;omega
 have hlen:p<its.length:=(Zpk.1 hx).1
 have hmk:F5 pp=false:=by
  have:II pp=true:=by simpa [BV,hc,Gn] using he
  cases pp <;> first|rfl|cases this
 refine ⟨Vc h.closed ho hpre,?_,?_,(h.slots.mono hst.le).put hp ho h.size hcd hv hni,hs,h.stp.trans hst,by rw [Ow];exact h.size,by rw [NP];exact h.defs.mono hst.le,by omega,?_,?_,?_⟩
 ·intro q j hq hej
  constructor
  ·rintro (hd|rfl)
   ·have:=(h.eff q j hq hej).1 hd;omega
   ·have:q=p:=by
     rcases Nat.lt_trichotomy q p with h1|h1|h1
     ·exact absurd rfl (hp.ne q p j j h1 hq hx)
     ·exact h1
     ·exact absurd rfl (hp.ne p q j j h1 hx hq)
    omega
  ·intro hl
   rcases Zrb.1 hl with h1|h1
   ·exact .inl ((h.eff q j hq hej).2 h1)
   ·subst h1;rw [hx] at hq;cases hq;exact .inr rfl
 ·rintro q j hq (hd|rfl)
  ·have:=h.below q j hq hd;omega
  ·have:q=p:=by
    rcases Nat.lt_trichotomy q p with h1|h1|h1
    ·exact absurd rfl (hp.ne q p j j h1 hq hx)
    ·exact h1
    ·exact absurd rfl (hp.ne p q j j h1 hx hq)
   omega
 ·intro q j d' pp' g' hq hi hd hc' hm hw
  rcases Zrb.1 hq with h1|h1
  ·obtain ⟨g1,g2,g3,g4⟩:=h.ghost q j d' pp' g' h1 hi (fun hh=>hd (.inl hh)) hc' hm hw
   refine ⟨?_,by have:=hst.next;omega,g3,?_⟩
   ·cases hgm:γ' (sq q).next with
    | none=>rfl
    | some L=>exact absurd (hst.new _ L hgm g1).1 (by omega)
   ·rw [hst.keep _ g1 g2];exact g4
  ·subst h1;rw [hx] at hi;cases hi;exact absurd (Or.inr rfl) hd
 ·intro q q' j j' d1 d2 p1 p2 g1 g2 hqq hq' hi hi' hd hd' hc1 hc2 hm1 hm2 hw1 hw2
  rcases Zrb.1 hq' with h1|h1
  ·exact h.gdist q q' j j' d1 d2 p1 p2 g1 g2 hqq h1 hi hi' (fun hh=>hd (.inl hh)) (fun hh=>hd' (.inl hh)) hc1 hc2 hm1 hm2 hw1 hw2
  ·subst h1;rw [hx] at hi';cases hi';exact absurd (Or.inr rfl) hd'
 ·intro q hq hk
  by_cases hqp:q=p+1
  ·subst hqp;exact Grows.refl _
  ·have:=hk p _ (by omega) (by omega) hx i rfl
   rw [he] at this;cases this
theorem Inv.floater (hp:Plan P N ops cs its al) (h:Inv P N ops cs its tq sq V γ0 s0 w0 ds p D γ a w) {q:Nat}(hx:its[q]?=some (.op i)) (hqp:q<p) (he:BV cs i=false) (ho:ops[i]?=some o) (hcd:EH N o.dst=some d) (hni:¬ D i)
 (hpre:∀ e ∈ o.after.toList,Region.binds .any e=true->D e.on) (hle:Le γ γ') (hst:Stp γ0 s0 w0 γ' (sq p) w') (hs:Sim P γ' (sq p) w') (hv:VR γ' (V i) v'∨o.dst=none)
 (hgh:∀ (q' i' d':Nat) (pp':AOp) (g':Option (Nat×Bool)),q'<p->its[q']?=some (.op i')->¬ D i'->i'≠i->cs[i']?=some (AOper.mk d' pp' g')->F5 pp'=true->AS g' (tq q')=2->γ' (sq q').next=none):
 Inv P N ops cs its tq sq V γ0 s0 w0 ds p (fun j=>D j∨j=i) γ' (a.put o.dst v') w':=by
 refine ⟨Vc h.closed ho hpre,?_,?_,(h.slots.mono hle).put hp ho h.size hcd hv hni,hs,hst,by rw [Ow];exact h.size,by rw [NP];exact h.defs.mono hle,h.plen,?_,?_,h.grow⟩
 ·intro q' j hq hej
  rw [← h.eff q' j hq hej]
  exact ⟨fun hd=>hd.resolve_right (fun e=>by subst e;rw [he] at hej;cases hej),.inl⟩
 ·rintro q' j hq (hd|rfl)
  ·exact h.below q' j hq hd
  ·rcases Nat.lt_trichotomy q' q with h1|h1|h1
   ·exact absurd rfl (hp.ne q' q j j h1 hq hx)
   ·omega
   ·exact absurd rfl (hp.ne q q' j j h1 hx hq)
 ·intro q' j d' pp' g' hq hi hd hc' hm hw
  have hd1:¬ D j:=fun hh=>hd (.inl hh)
  obtain ⟨g1,g2,g3,g4⟩:=h.ghost q' j d' pp' g' hq hi hd1 hc' hm hw
  exact ⟨hgh q' j d' pp' g' hq hi hd1 (fun e=>hd (.inr e)) hc' hm hw,g2,g3,g4⟩
 ·intro q1 q2 j j' d1 d2 p1 p2 g1 g2 hqq hq' hi hi' hd hd' hc1 hc2 hm1 hm2 hw1 hw2
  exact h.gdist q1 q2 j j' d1 d2 p1 p2 g1 g2 hqq hq' hi hi' (fun hh=>hd (.inl hh)) (fun hh=>hd' (.inl hh)) hc1 hc2 hm1 hm2 hw1 hw2
end
end Go.AM
namespace Go.AM
section
variable {P:Program}{e:Env}{rec:Rec}{n N:Nat}{ops:Array Oper}{cs:List AOper}{its:List It}{al:List AOper}{tq:Nat->AT}{sq:Nat->St}{V:Nat->AV}{γ γ0:Gam}{s0:St}{w w0:World}{ds:List Nat}{D:Nat->Prop}{a:Act}{p:Nat}
variable {i:Nat}{o:Oper}
theorem Zfn (hp:Plan P N ops cs its al) (hr:Ran P e rec N ops cs its tq sq V) (h:Inv P N ops cs its tq sq V γ0 s0 w0 ds p D γ a w) (hP:NH cs its p) {q d:Nat}{pp:AOp}{g:Option (Nat×Bool)}(hx:its[q]?=some (.op i)) (hqp:q<p) (ho:ops[i]?=some o) (hni:¬ D i)
 (hc:cs[i]?=some (AOper.mk d pp g)) (hl:Hu pp=true) (hcd:EH N o.dst=some d) (hcg:G7 ops N o.guard=some g) (hw:AS g (tq q)=2) (hop:AQ pp e rec (tq q) (sq q)=.ok (V i) (sq (q+1))) (hpre:∀ j,((BK ops.toList []).getD i 0).testBit j=true->D j):
 ∃ c,AQ pp e rec (tq c) (sq p)=.ok (V i) (sq p)∧∀ x v,x ∈ Eo ops o->(tq c).get x=some v->∃ v',a.tmps[x]?=some v'∧VR γ v v':=by
 have hla:loadAt cs i=true:=by simp [loadAt,hc,Gn,hl]
 have hck:=hp.loads q i hx hla
 -- is there an effect between?
 by_cases hex:∃ k j,q<k∧k<p∧its[k]?=some (.op j)∧BV cs j=true
 ·-- the last of them
  have hlast:∃ k j,q<k∧k<p∧its[k]?=some (.op j)∧BV cs j=true∧∀ (k':Nat) (x:It),k<k'->k'<p->its[k']?=some x->Pq cs x:=by
   have hstep:∀ (m:Nat),(∃ k j,q<k∧k<p∧its[k]?=some (.op j)∧BV cs j=true∧p-k≤m)->∃ k j,q<k∧k<p∧its[k]?=some (.op j)∧BV cs j=true∧∀ (k':Nat) (x:It),k<k'->k'<p->its[k']?=some x->Pq cs x:=by
    intro m
    induction m with
    | zero=>rintro ⟨k,j,h1,h2,_,_,h5⟩;omega
    | succ m ih=>
     rintro ⟨k,j,h1,h2,h3,h4,h5⟩
     by_cases hq2:∃ k' j',k<k'∧k'<p∧its[k']?=some (.op j')∧BV cs j'=true
     ·obtain ⟨k',j',e1,e2,e3,e4⟩:=hq2
      exact ih ⟨k',j',by omega,e2,e3,e4,by omega⟩
     ·refine ⟨k,j,h1,h2,h3,h4,fun k' x hk hk' hx' i' hi'=>?_⟩
      subst hi'
      cases hef:BV cs i' with
      | false=>rfl
      | true=>exact absurd ⟨k',i',hk,hk',hx',hef⟩ hq2
   obtain ⟨k,j,h1,h2,h3,h4⟩:=hex
   exact hstep p ⟨k,j,h1,h2,h3,h4,by omega⟩
  obtain ⟨k,j,h1,h2,h3,h4,h5⟩:=hlast
  have hDj:D j:=(h.eff k j h3 h4).2 h2
  have hjlt:=hp.lt k j h3
  have hnb:((BK ops.toList []).getD j 0).testBit i=false:=by
   cases hb:((BK ops.toList []).getD j 0).testBit i with
   | false=>rfl
   | true=>exact absurd (VI hp.back h.closed hjlt hDj hb) hni
  obtain ⟨c,c1,c2,c3⟩:=Zbz hck (k-(q+1)) j (by rw [Zpu,show q+1+(k-(q+1))=k by omega];exact h3) h4 hnb
  rw [Zpu] at c2
  have hcp:q+1+c<p:=by
   refine Nat.lt_of_not_le fun hge=>?_
   -- then item p lies between
   have hplt:p<its.length:=by have:=(Zpk.1 c2).1;omega
   rcases hP with hP|⟨j2,hj2,he2⟩
   ·omega
   ·by_cases hpe:p=q+1+c
    ·rw [← hpe,hj2] at c2;cases c2
    ·have:=c3 (p-(q+1)) j2 (by omega) (by omega) (by rw [Zpu,show q+1+(p-(q+1))=p by omega];exact hj2)
     rw [he2] at this;cases this
  obtain ⟨e1,e2,d',pp',g',hc',hl',hk⟩:=hr.chk (q+1+c) i c2
  rw [hc] at hc';cases hc'
  have hsync:=Zew hp hr (V:=V) h.slots hx c2 (by omega) ho hpre
  have hsq:=Rz hp hr h.closed h.slots hx ho hni hpre
  refine ⟨q+1+c,?_,hsync⟩
  have hgr:=h.grow (q+1+c) (by omega) fun k' x hk1 hk2 hx'=>h5 k' x (by omega) hk2 hx'
  rcases hk with hk|⟨hk,v,s1,hv,hget⟩
  ·-- the guard has not turned
   exfalso
   have w1:=(QV hsync hcg).2 hk
   have w2:=(QV hsq hcg).1 hw
   rw [w1] at w2;cases w2
  ·-- the slot holds V i
   have hVi:v=V i:=by
    have hdd:o.dst=some d':=by
     cases hdo:o.dst with
     | none=>rw [hdo] at hcd;cases hcd
     | some z=>rw [hdo] at hcd;simp only [EH] at hcd;split at hcd <;> cases hcd;rfl
    have hcl:q+1+c<its.length:=(Zpk.1 c2).1
    rcases O7 hp hr d' v (q+1+c) (by omega) hget with ⟨q',j',oj,a1,a2,a3,a4,a5⟩|⟨a1,a2⟩
    ·rw [a5]
     rcases Nat.lt_trichotomy q' q with b1|b1|b1
     ·exact absurd hdd (hp.dst q' q j' i oj o d' b1 a2 hx a3 ho a4)
     ·subst b1;rw [hx] at a2;cases a2;rfl
     ·exact absurd a4 (hp.dst q q' i j' o oj d' b1 hx a2 ho a3 hdd)
    ·exact absurd hdd (a2 q i o (by omega) hx ho)
   subst hVi
   exact (RJ hl _ _ _ hv).2 _ hgr
 ·-- none
  have hgr:Grows (sq (q+1)) (sq p):=h.grow (q+1) (by omega) fun k x hk1 hk2 hx' i' hi'=>by
   subst hi'
   cases hef:BV cs i' with
   | false=>rfl
   | true=>exact absurd ⟨k,i',by omega,hk2,hx',hef⟩ hex
  obtain ⟨e1,e2⟩:=RJ hl _ _ _ hop
  rw [e1] at hgr
  exact ⟨q,e2 _ hgr,Rz hp hr h.closed h.slots hx ho hni hpre⟩
variable {listed:Array Bool}
theorem Vu (h:i ∈ Region.ready .any ops listed):∃ o,ops[i]?=some o∧listed.getD i true=false∧∀ e ∈ o.after.toList,Region.binds .any e=true->listed.getD e.on false=true:=by
 simp only [Region.ready,List.mem_filter,List.mem_range,Zpl] at h
 obtain ⟨hi,h1,h2⟩:=h
 obtain ⟨o,ho⟩:∃ o,ops[i]?=some o:=⟨ops[i],by simp [hi]⟩
 refine ⟨o,ho,by simpa using h1,fun e he hb=>?_⟩
 rw [ho] at h2
 simp only [Option.map_some,Option.getD_some] at h2
 have:=Array.all_eq_true'.1 h2 e (by simpa using he)
 simpa [hb] using this
def Dn (listed:Array Bool):Nat->Prop:=fun i=>listed.getD i false=true
theorem Zn2 (hi:i<listed.size):Dn (listed.setIfInBounds i true)=fun j=>Dn listed j∨j=i:=by
 funext j
 unfold Dn
 rw [Zql,Zql,Zqx]
 by_cases h:i=j
 ·subst h;simp [hi]
 ·rw [Zpr h];simp;exact fun e=>absurd e.symm h
theorem Zb4 (hback:Hy ops.toList 0=true) (hsz:listed.size=ops.size) (h:Region.ready .any ops listed=[]):∀ i,i<ops.size->Dn listed i:=by
 intro i
 induction i using Nat.strongRecOn with
 | _ i ih=>
  intro hi
  cases hd:listed.getD i false with
  | true=>exact hd
  | false=>
   exfalso
   obtain ⟨o,ho⟩:∃ o,ops[i]?=some o:=⟨ops[i],by simp [hi]⟩
   have hm:i ∈ Region.ready .any ops listed:=by
    simp only [Region.ready,List.mem_filter,List.mem_range,Zpl]
    refine ⟨hi,?_,?_⟩
    ·have:listed[i]?=some (listed[i]'(by omega)):=by simp [hsz,hi]
     rw [Zql,this] at hd
     rw [Zql,this]
     simpa using hd
    ·rw [ho]
     simp only [Option.map_some,Option.getD_some]
     refine Array.all_eq_true'.2 fun e he=>?_
     cases hb:Region.binds .any e with
     | false=>rfl
     | true=>
      have hlt:=Vd hback i o (by simpa using ho) e (by simpa using he) hb
      have:=ih e.on (by omega) (by omega)
      simpa [Dn] using this
   rw [h] at hm;cases hm
theorem Inv.post (hp:Plan P N ops cs its al) (hr:Ran P e rec N ops cs its tq sq V) (h:Inv P N ops cs its tq sq V γ0 s0 w0 ds p D γ a w) (hP:NH cs its p) (hall:∀ i,i<ops.size->D i):
 Du P γ0 s0 w0 N .normal (tq its.length) (sq its.length) ds .normal a w:=by
 have hpl:p=its.length:=by
  rcases hP with hP|⟨j,hj,he⟩
  ·exact hP
  ·have:=(h.eff p j hj he).1 (hall j (hp.lt p j hj));omega
 subst hpl
 refine ⟨rfl,h.size,γ,h.stp,h.sim,?_,h.defs⟩
 intro x v hv
 rcases O7 hp hr x v _ (Zp4 _) hv with ⟨q',j,o,a1,a2,a3,a4,rfl⟩|⟨a1,a2⟩
 ·exact h.slots.done j o x (hall j (hp.lt q' j a2)) a3 a4
 ·refine h.slots.rest x v a1 fun j o hd ho hx=>?_
  obtain ⟨q',hq'⟩:=hp.has j (Zqn.1 ho).1
  exact a2 q' j o (Zpk.1 hq').1 hq' ho hx
variable {m:Nat}{b:Option Nat}
theorem Inv.step (hG:DM P n rec) (hE:EnvOk P e) (hp:Plan P N ops cs its al) (hr:Ran P e rec N ops cs its tq sq V) (h:Inv P N ops cs its tq sq V γ0 s0 w0 ds p D γ a w) (hP:NH cs its p) (ho:ops[i]?=some o) (hni:¬ D i)
 (hpre:∀ e ∈ o.after.toList,Region.binds .any e=true->D e.on) {K:Act->World->Prop}{Q:Exit->Act->World->Prop}
 (hK:∀ p' γ' v' w',Inv P N ops cs its tq sq V γ0 s0 w0 ds p' (fun j=>D j∨j=i) γ' (a.put o.dst v') w'->K (a.put o.dst v') w'):wpOpIn (BX b) m P ops Q i K a w:=by
 have hil:i<ops.size:=(Zqn.1 ho).1
 obtain ⟨q,hq⟩:=hp.has i hil
 obtain ⟨d,pp,g,c1,c2,c3,c4,c5,c6⟩:=hr.op q i o hq ho
 have hbef:=Uw hp.back h.closed i o ho hpre
 have hsync:=Rz hp hr h.closed h.slots hq ho hni hbef
 obtain ⟨hw2,hw1⟩:=QV hsync c4
 unfold wpOpIn
 simp only [ho]
 -- where it stands
 have hplace:(BV cs i=true∧q=p)∨(BV cs i=false∧q<p):=by
  have hnlt:p<q->False:=by
   intro hlt
   rcases hP with hP|⟨j,hj,he⟩
   ·have:=(Zpk.1 hq).1;omega
   ·have hb:=hp.eff p q j i hlt hj hq he
    have hdj:=hbef j hb
    have:=(h.eff p j hj he).1 hdj;omega
  cases he:BV cs i with
  | true=>
   refine .inl ⟨rfl,?_⟩
   have:¬ q<p:=fun hl=>hni ((h.eff q i hq he).2 hl)
   rcases Nat.lt_trichotomy q p with h1|h1|h1
   ·exact absurd h1 this
   ·exact h1
   ·exact (hnlt h1).elim
  | false=>
   refine .inr ⟨rfl,?_⟩
   rcases Nat.lt_trichotomy q p with h1|h1|h1
   ·exact h1
   ·exfalso
    rcases hP with hP|⟨j,hj,he'⟩
    ·have:=(Zpk.1 hq).1;omega
    ·rw [h1,hj] at hq;cases hq;rw [he] at he';cases he'
   ·exact (hnlt h1).elim
 rcases c6 with ⟨hw,hVi,hsq⟩|⟨hw,hop⟩
 ·rw [Zpr (by rw [hw1 hw];simp)]
  refine ⟨fun f _=>IB b f,?_⟩
  have hvr:VR γ (V i) undef∨o.dst=none:=.inl (by rw [hVi];exact VU)
  rcases hplace with ⟨he,rfl⟩|⟨he,hqp⟩
  ·exact hK _ _ _ _ (h.effect hp hq he ho c1 c2 hpre (γ':=γ) (w':=w) (by rw [hsq];exact .refl _ _ _) (by rw [hsq];exact h.sim) hvr)
  ·exact hK _ _ _ _ (h.floater hp hq hqp he ho c2 hni hpre (γ':=γ) (w':=w) (Le.refl γ) h.stp h.sim hvr (fun q' i' d' pp' g' a1 a2 a3 _ a5 a6 a7=>(h.ghost q' i' d' pp' g' a1 a2 a3 a5 a6 a7).1))
 ·rw [Zpn (hw2 hw)]
  rcases hplace with ⟨he,rfl⟩|⟨he,hqp⟩
  ·exact QM hG hE c3 (SM hsync) h.sim hop fun γ' w' v' hst hs hv=>hK _ _ _ _ (h.effect hp hq he ho c1 c2 hpre hst hs hv)
  ·have hne:II pp=false:=by simpa [BV,c1,Gn] using he
   have same:∀ (t1:AT),AQ pp e rec t1 (sq p)=.ok (V i) (sq p)->(∀ x v,x ∈ Eo ops o->t1.get x=some v->∃ v',a.tmps[x]?=some v'∧VR γ v v')->o.wpIn (BX b) m P a w K Q:=by
    intro t1 hop1 hs1
    refine QM hG hE c3 (SM hs1) h.sim hop1 fun γ' w' v' hst hs hv=>hK _ _ _ _ (h.floater hp hq hqp he ho c2 hni hpre hst.le (h.stp.trans hst) hs hv ?_)
    intro q' i' d' pp' g' a1 a2 a3 _ a5 a6 a7
    obtain ⟨g1,g2,_,_⟩:=h.ghost q' i' d' pp' g' a1 a2 a3 a5 a6 a7
    cases hgm:γ' (sq q').next with
    | none=>rfl
    | some L=>exact absurd (hst.new _ L hgm g1).1 (by omega)
   cases hl:Hu pp with
   | true=>
    obtain ⟨c,k1,k2⟩:=Zfn hp hr h hP hq hqp ho hni c1 hl c2 c4 hw hop hbef
    exact same _ k1 k2
   | false=>
    cases hm:F5 pp with
    | false=>exact same _ ((WW (A:=fun _ _=>True) (by simp [S4,hne,hl,hm]) _ _ _ hop).2 _ trivial) hsync
    | true=>
     have hnc:S6 pp=false:=by cases pp <;> first|rfl|cases hm
     have c30:AI P o=some pp:=by
      rcases U1 c3 with hh|rfl
      ·exact hh
      ·cases hm
     have hnd:=Uv c30
     rcases Wg (w:=w) (γ:=γ) (SM hsync) c30 hnc hop with ⟨_,hf⟩|⟨hf,_⟩
     ·obtain ⟨obj,mkv,O,sz,es,v',hv,hsa,hrun,hk⟩:=hf
      obtain ⟨g1,g2,g3,g4⟩:=h.ghost q i d pp g hqp hq hni c1 hm hw
      have hle:=F6 (L:=⟨w.heap.size,0,sz,es⟩) g1
      obtain ⟨k1,k2⟩:=hk _ (sq q).next hle (BB _ _ _)
      refine ⟨fun f _=>IB b f,?_⟩
      rw [Oper.semAt_eq _ _ _ hnd,hrun,Oper.uponIn_value]
      refine hK _ _ _ _ (h.floater hp hq hqp he ho c2 hni hpre hle (h.stp.wake g1 g3) (h.sim.wake (obj:=obj) g1 g2 ?_ k1) (.inl (by rw [hv];exact k2)) ?_)
      ·intro x hx
       rw [g4,hsa] at hx
       rcases G3 hx with ⟨_,h1⟩|⟨h1,_⟩
       ·exact h1
       ·exact absurd rfl h1
      ·intro q' i' d' pp' g' a1 a2 a3 a4 a5 a6 a7
       have hne2:(sq q').next≠(sq q).next:=by
        rcases Nat.lt_trichotomy q' q with b1|b1|b1
        ·exact Nat.ne_of_lt (h.gdist q' q i' i d' d pp' pp g' g b1 hqp a2 hq a3 hni a5 c1 a6 hm a7 hw)
        ·subst b1;rw [hq] at a2;cases a2;exact absurd rfl a4
        ·exact (Nat.ne_of_lt (h.gdist q q' i i' d d' pp pp' g g' b1 a1 hq a2 hni a3 c1 a5 hm a6 hw a7)).symm
       rw [Ct _ _ hne2]
       exact (h.ghost q' i' d' pp' g' a1 a2 a3 a5 a6 a7).1
     ·rw [hm] at hf;cases hf
theorem Zea (hG:DM P n rec) (hE:EnvOk P e) (hp:Plan P N ops cs its al) (hr:Ran P e rec N ops cs its tq sq V):∀ (fuel:Nat) (listed:Array Bool) (p:Nat) (γ:Gam) (a:Act) (w:World),listed.size=ops.size->listed.toList.count false≤fuel->
 Inv P N ops cs its tq sq V γ0 s0 w0 ds p (Dn listed) γ a w->NH cs its p->wpAnyIn (BX b) m P .any ops (Du P γ0 s0 w0 N .normal (tq its.length) (sq its.length) ds) fuel listed a w:=by
 intro fuel
 induction fuel with
 | zero=>
  intro listed p γ a w hsz hcnt h hP
  have hall:∀ i,i<ops.size->Dn listed i:=by
   intro i hi
   unfold Dn
   cases hd:listed.getD i false with
   | true=>rfl
   | false=>
    exfalso
    have h0:listed.toList.count false=0:=by omega
    rw [List.count_eq_zero] at h0
    apply h0
    have:listed[i]?=some (listed[i]'(by omega)):=by simp [hsz,hi]
    rw [Zql,this] at hd
    simp at hd
    rw [← hd];simp
  refine ⟨?_,h.post hp hr hP hall⟩
  cases hrd:Region.ready .any ops listed with
  | nil=>rfl
  | cons i l=>
   obtain ⟨o,ho,hi,_⟩:=Vu (show i ∈ Region.ready .any ops listed by rw [hrd];simp)
   have hil:i<ops.size:=(Zqn.1 ho).1
   have h1:=hall i hil
   unfold Dn at h1
   have:listed[i]?=some (listed[i]'(by omega)):=by simp [hsz,hil]
   rw [Zql,this] at h1 hi
   simp at h1 hi
   rw [h1] at hi;cases hi
 | succ fuel ih=>
  intro listed p γ a w hsz hcnt h hP
  refine ⟨fun hrd=>h.post hp hr hP (Zb4 hp.back hsz hrd),fun i hi=>?_⟩
  obtain ⟨o,ho,hd,hpre⟩:=Vu hi
  have hil:i<ops.size:=(Zqn.1 ho).1
  have hget:listed[i]?=some (listed[i]'(by omega)):=by simp [hsz,hil]
  have hfalse:listed[i]'(by omega)=false:=by
   rw [Zql,hget] at hd;simpa using hd
  have hni:¬ Dn listed i:=by unfold Dn;rw [Zql,hget];simp [hfalse]
  refine h.step hG hE hp hr hP ho hni hpre ?_
  intro p' γ' v' w' hI
  obtain ⟨p2,hI2,hP2⟩:=hI.forth hp hr _ p' rfl
  rw [← Zn2 (by omega)] at hI2
  refine ih _ p2 γ' _ w' (by simp [hsz]) ?_ hI2 hP2
  rw [Array.toList_setIfInBounds,List.count_set (by simpa [hsz] using hil)]
  simp [hfalse]
  have hpos:0<listed.toList.count false:=List.count_pos_iff.2 (by rw [← hfalse];simp)
  simp at hpos hcnt
  omega
theorem Zbv (hE:EnvOk P e) (hmix:P.follows .mixedOrders=true) (hG:DM P n rec):WC P e rec:=by
 intro N id ops al γ t s w a b ds t' s' γ0 s0 w0 m hc hN ht hs hd hst h
 obtain ⟨cs,its,hp⟩:=Zh8 hc
 obtain ⟨tq,sq,V,hr,e1,e2,e3,e4⟩:=Zmc hp h
 subst e1;subst e2;subst e3;subst e4
 refine wpIn_region_any hmix ?_
 have hI:Inv P N ops cs its tq sq V γ0 s0 w0 ds 0 (Dn (Array.replicate ops.size false)) γ a { w with drawn:=w.drawn+1 }:=by
  have hno:∀ i,¬ Dn (Array.replicate ops.size false) i:=by
   intro i hi
   unfold Dn at hi
   rw [Zql,Array.getElem?_replicate] at hi
   split at hi <;> simp at hi
  refine ⟨fun i o ho hd=>absurd hd (hno i),fun q i hq he=>⟨fun hd=>absurd hd (hno i),fun hl=>by omega⟩,fun q i hq hd=>absurd hd (hno i),⟨fun j o x hd=>absurd hd (hno j),fun x v hv _=>ht x v hv⟩,
   hs.drew,hst.trans Stp.drew,hN,hd,Zp2 _,fun q i d pp g hq=>by omega,fun q q' i i' d d' pp pp' g g' h1 h2=>by omega,fun q hq _=>?_⟩
  have:q=0:=by omega
  subst this;exact Grows.refl _
 obtain ⟨p,hI2,hP⟩:=hI.forth hp hr _ 0 rfl
 exact Zea hG hE hp hr ops.size _ p γ a _ (by simp) (by simp) hI2 hP
theorem V8 (hE:EnvOk P e) (hmix:P.follows .mixedOrders=true) (k:Nat):DM P k (exec e k):=Zbt hE (fun n rec hG=>Zbv hE hmix hG) k
end
end Go.AM
namespace Go.AM
def G2 (a b:Rec):Prop:=∀ c t s rd ds x t' s' ds',a c t s rd ds=.ok x t' s' ds'->b c t s rd ds=.ok x t' s' ds'
section
variable {e:Env}{a b:Rec}
variable {r r':R}{v:AV}{s:St}
theorem Zb0 {res:List ARes}(h:∀ x t s ds,r=.ok x t s ds->r'=.ok x t s ds) (hv:KG res r=.ok v s):KG res r'=.ok v s:=by
 cases r with
 | fail=>cases hv
 | ok x t s ds=>rw [h x t s ds rfl];exact hv
variable {f:Nat}{args:List AV}{s':St}
theorem W8 (h:G2 a b) (hv:FB e a f args s=.ok v s'):FB e b f args s=.ok v s':=by
 unfold FB at hv ⊢
 cases hg:e.G.get f with
 | none=>rw [hg] at hv;cases hv
 | some af=>
  rw [hg] at hv
  obtain ⟨code,res⟩:=af
  exact Zb0 (fun x t s ds he=>h _ _ _ _ _ _ _ _ _ he) hv
theorem O1 (h:G2 a b) (hv:Cu e a f args s=.ok v s'):Cu e b f args s=.ok v s':=by
 unfold Cu at hv ⊢
 cases ho:e.O.get f with
 | none=>rw [ho] at hv;exact W8 h hv
 | some hh=>
  rw [ho] at hv
  change (RV.rec (FB e a f args s) (fun v s'=>.ok v s') (hh args s):RV)=.ok v s' at hv
  show (RV.rec (FB e b f args s) (fun v s'=>.ok v s') (hh args s):RV)=.ok v s'
  cases hq:hh args s with
  | fail=>rw [hq] at hv;exact W8 h hv
  | ok v1 s1=>rw [hq] at hv;exact hv
variable {l:Nat}
theorem ZZ (h:∀ x t s ds,r=.ok x t s ds->r'=.ok x t s ds) (hv:Hj l r=.ok v s):Hj l r'=.ok v s:=by
 cases r with
 | fail=>cases hv
 | ok x t s ds=>rw [h x t s ds rfl];exact hv
theorem Zc0 (h:G2 a b) (hv:I8 a l args s=.ok v s'):I8 b l args s=.ok v s':=by
 unfold I8 at hv ⊢
 obtain ⟨st,pend,fn,tm,ps,asg,body,d,hg,hv⟩:=MS hv
 unfold Db;rw [hg]
 obtain ⟨h1,hv⟩:=BF hv
 show gd _ _=_
 rw [h1]
 show Mo b l body (b asg (Lc ps args tm) s (some l) [])=.ok v s'
 unfold Mo at hv ⊢
 obtain ⟨x,t1,s1,ds,hr,hv⟩:=Q9 hv
 rw [h _ _ _ _ _ _ _ _ _ hr]
 cases x with
 | normal=>
  obtain ⟨st,pend,fn,tm,ps,asg,body',d,hg,hv⟩:=MS (s:=s1) hv
  show (LP.rec .fail _ (Db l s1):RV)=_
  unfold Db;rw [hg]
  cases st with
  | ready=>exact ZZ (fun x t s ds he=>h _ _ _ _ _ _ _ _ _ he) hv
  | busy=>exact hv
  | done=>exact hv
  | exhausted=>exact hv
 | exit id=>exact hv
 | ret=>exact hv
theorem Zd8 (h:G2 a b) {f:AV}(hv:Ff e a f args s=.ok v s'):Ff e b f args s=.ok v s':=by
 unfold Ff at hv ⊢
 cases hq:EY f with
 | no=>rw [hq] at hv;cases hv
 | fn g x y=>rw [hq] at hv;exact O1 h hv
 | yld l=>rw [hq] at hv;exact Zc0 h hv
theorem Zd7 (h:G2 a b) {f:AV}(hv:KU e a f args s=.ok v s'):KU e b f args s=.ok v s':=by
 unfold KU at hv ⊢
 cases hq:EY f with
 | no=>rw [hq] at hv;cases hv
 | fn g x y=>rw [hq] at hv;exact O1 h hv
 | yld l=>rw [hq] at hv;cases hv
theorem OX (h:G2 a b) {p:AOp}{t:AT}(hv:AQ p e a t s=.ok v s'):AQ p e b t s=.ok v s':=by
 cases p with
 | call f args=>
  obtain ⟨fv,hf,hv⟩:=AH hv
  obtain ⟨vs,hvs,hv⟩:=AJ hv
  show wth f t (fun fv=>Option.rec .fail (fun vs=>Ff e b fv vs s) (Cr t args))=.ok v s'
  unfold wth
  rw [hf]
  show (Option.rec .fail (fun vs=>Ff e b fv vs s) (Cr t args):RV)=.ok v s'
  rw [hvs]
  exact Zd8 h hv
 | scall f args=>
  obtain ⟨vs,hvs,hv⟩:=AJ hv
  show (Option.rec .fail (fun vs=>Option.rec (Cu e b f vs s) (fun h=>h vs s) (e.X.get f)) (Cr t args):RV)=.ok v s'
  rw [hvs]
  show (Option.rec (Cu e b f vs s) (fun h=>h vs s) (e.X.get f):RV)=.ok v s'
  cases hX:e.X.get f with
  | none=>rw [hX] at hv;exact O1 h hv
  | some hh=>rw [hX] at hv;exact hv
 | inv tb x args=>
  obtain ⟨xv,hx,hv⟩:=AH hv
  obtain ⟨vs,hvs,hv⟩:=AJ hv
  obtain ⟨k,u,rfl,hv⟩:=SZ hv
  obtain ⟨f,hf,hv⟩:=AJ hv
  show wth x t (fun a=>Option.rec .fail (fun vs=>XR.rec .fail (fun k v=>Option.rec .fail (fun f=>Cu e b f (v::vs) s) (JB tb k)) (Lu a)) (Cr t args))=.ok v s'
  unfold wth
  rw [hx]
  show (Option.rec .fail (fun vs=>Option.rec .fail (fun f=>Cu e b f (u::vs) s) (JB tb k)) (Cr t args):RV)=.ok v s'
  rw [hvs]
  show (Option.rec .fail (fun f=>Cu e b f (u::vs) s) (JB tb k):RV)=.ok v s'
  rw [hf]
  exact O1 h hv
 | _=>exact hv
theorem RB (h:G2 a b):∀ {l:List AOper}{t:AT}{s:St}{t':AT}{s':St},AE e a l t s=.ok t' s'->AE e b l t s=.ok t' s':=by
 intro l
 induction l with
 | nil=>intro t s t' s' hv;exact hv
 | cons o l ih=>
  intro t s t' s' hv
  cases o with
  | mk d p g=>
   change (Nat.rec .fail (fun w _=>Nat.rec (AE e a l (BQ d (.tup []) t) s) (fun _ _=>RV.rec .fail (fun v s'=>AE e a l (BQ d v t) s') (AQ p e a t s)) w) (AS g t):RT)=.ok t' s' at hv
   show (Nat.rec .fail (fun w _=>Nat.rec (AE e b l (BQ d (.tup []) t) s) (fun _ _=>RV.rec .fail (fun v s'=>AE e b l (BQ d v t) s') (AQ p e b t s)) w) (AS g t):RT)=.ok t' s'
   cases hw:AS g t with
   | zero=>rw [hw] at hv;cases hv
   | succ n=>
    rw [hw] at hv
    cases n with
    | zero=>exact ih hv
    | succ n=>
     change (RV.rec .fail (fun v s'=>AE e a l (BQ d v t) s') (AQ p e a t s):RT)=.ok t' s' at hv
     show (RV.rec .fail (fun v s'=>AE e b l (BQ d v t) s') (AQ p e b t s):RT)=.ok t' s'
     cases ho:AQ p e a t s with
     | fail=>rw [ho] at hv;cases hv
     | ok v s1=>rw [ho] at hv;rw [OX h ho];exact ih hv
  | chk d p g=>
   change (Nat.rec .fail (fun w _=>Nat.rec (AE e a l t s) (fun _ _=>RV.rec .fail (fun v _=>Option.rec .fail (fun v0=>Bool.rec .fail (AE e a l t s) (BZ v v0)) (t.get d)) (AQ p e a t s)) w) (AS g t):RT)=.ok t' s' at hv
   show (Nat.rec .fail (fun w _=>Nat.rec (AE e b l t s) (fun _ _=>RV.rec .fail (fun v _=>Option.rec .fail (fun v0=>Bool.rec .fail (AE e b l t s) (BZ v v0)) (t.get d)) (AQ p e b t s)) w) (AS g t):RT)=.ok t' s'
   cases hw:AS g t with
   | zero=>rw [hw] at hv;cases hv
   | succ n=>
    rw [hw] at hv
    cases n with
    | zero=>exact ih hv
    | succ n=>
     change (RV.rec .fail (fun v _=>Option.rec .fail (fun v0=>Bool.rec .fail (AE e a l t s) (BZ v v0)) (t.get d)) (AQ p e a t s):RT)=.ok t' s' at hv
     show (RV.rec .fail (fun v _=>Option.rec .fail (fun v0=>Bool.rec .fail (AE e b l t s) (BZ v v0)) (t.get d)) (AQ p e b t s):RT)=.ok t' s'
     cases ho:AQ p e a t s with
     | fail=>rw [ho] at hv;cases hv
     | ok v s1=>
      rw [ho] at hv;rw [OX h ho]
      change (Option.rec .fail (fun v0=>Bool.rec .fail (AE e a l t s) (BZ v v0)) (t.get d):RT)=.ok t' s' at hv
      show (Option.rec .fail (fun v0=>Bool.rec .fail (AE e b l t s) (BZ v v0)) (t.get d):RT)=.ok t' s'
      cases hd:t.get d with
      | none=>rw [hd] at hv;cases hv
      | some v0=>
       rw [hd] at hv
       change (Bool.rec .fail (AE e a l t s) (BZ v v0):RT)=.ok t' s' at hv
       show (Bool.rec .fail (AE e b l t s) (BZ v v0):RT)=.ok t' s'
       cases hq:BZ v v0 with
       | false=>rw [hq] at hv;cases hv
       | true=>rw [hq] at hv;exact ih hv
theorem Zny (h:G2 a b) (c:AC):G2 (fun _=>acF c e a) (fun _=>acF c e b):=by
 intro _ t s rd ds x t' s' ds' hv
 cases c with
 | skip=>exact hv
 | lab=>exact hv
 | scope c1=>exact h _ _ _ _ _ _ _ _ _ hv
 | exit id=>exact hv
 | ret=>exact hv
 | reg ops=>
  obtain ⟨t1,s1,ho,hk⟩:=Tj (show (RT.rec .fail (fun t' s'=>.ok .normal t' s' ds) (AE e a ops t s):R)=.ok x t' s' ds' from hv)
  show (RT.rec .fail (fun t' s'=>.ok .normal t' s' ds) (AE e b ops t s):R)=.ok x t' s' ds'
  rw [RB h ho];exact hk
 | seq c1 c2=>
  obtain ⟨x1,t1,s1,ds1,hr,hk⟩:=Lm (show (R.rec .fail (fun x t s ds=>Ex.rec (a c2 t s rd ds) (fun id=>.ok (.exit id) t s ds) (.ok .ret t s ds) x) (a c1 t s rd ds):R)=.ok x t' s' ds' from hv)
  show (R.rec .fail (fun x t s ds=>Ex.rec (b c2 t s rd ds) (fun id=>.ok (.exit id) t s ds) (.ok .ret t s ds) x) (b c1 t s rd ds):R)=.ok x t' s' ds'
  rw [h _ _ _ _ _ _ _ _ _ hr]
  cases x1 with
  | normal=>exact h _ _ _ _ _ _ _ _ _ hk
  | exit id=>exact hk
  | ret=>exact hk
 | cond y c1 c2=>
  obtain ⟨v,hv',hk⟩:=Px (show (OV.rec .fail (fun v=>BR.rec .fail (a c1 t s rd ds) (a c2 t s rd ds) (asBool v)) (ev y t):R)=.ok x t' s' ds' from hv)
  show (OV.rec .fail (fun v=>BR.rec .fail (b c1 t s rd ds) (b c2 t s rd ds) (asBool v)) (ev y t):R)=.ok x t' s' ds'
  rw [hv']
  show (BR.rec .fail (b c1 t s rd ds) (b c2 t s rd ds) (asBool v):R)=.ok x t' s' ds'
  cases hb:asBool v with
  | no=>rw [hb] at hk;cases hk
  | tt=>rw [hb] at hk;exact h _ _ _ _ _ _ _ _ _ hk
  | ff=>rw [hb] at hk;exact h _ _ _ _ _ _ _ _ _ hk
 | block id c1=>
  obtain ⟨x1,t1,s1,ds1,hr,hk⟩:=Lm (show (R.rec .fail (fun x t s ds=>Ex.rec (.ok .normal t s ds) (fun id'=>Bool.rec (.ok (.exit id') t s ds) (.ok .normal t s ds) (Nat.beq id id')) (.ok .ret t s ds) x) (a c1 t s rd ds):R)=.ok x t' s' ds' from hv)
  show (R.rec .fail (fun x t s ds=>Ex.rec (.ok .normal t s ds) (fun id'=>Bool.rec (.ok (.exit id') t s ds) (.ok .normal t s ds) (Nat.beq id id')) (.ok .ret t s ds) x) (b c1 t s rd ds):R)=.ok x t' s' ds'
  rw [h _ _ _ _ _ _ _ _ _ hr];exact hk
 | loop c1=>
  obtain ⟨x1,t1,s1,ds1,hr,hk⟩:=Lm (show (R.rec .fail (fun x t s ds=>Ex.rec (a (.loop c1) t s rd ds) (fun id=>.ok (.exit id) t s ds) (.ok .ret t s ds) x) (a c1 t s rd ds):R)=.ok x t' s' ds' from hv)
  show (R.rec .fail (fun x t s ds=>Ex.rec (b (.loop c1) t s rd ds) (fun id=>.ok (.exit id) t s ds) (.ok .ret t s ds) x) (b c1 t s rd ds):R)=.ok x t' s' ds'
  rw [h _ _ _ _ _ _ _ _ _ hr]
  cases x1 with
  | normal=>exact h _ _ _ _ _ _ _ _ _ hk
  | exit id=>exact hk
  | ret=>exact hk
 | rng g ps asg body=>
  have go:∀ gv t d ds s0,Gd e a gv ps asg body t d ds s0=.ok x t' s' ds'->Gd e b gv ps asg body t d ds s0=.ok x t' s' ds':=by
   intro gv t d ds s0 hg
   unfold Gd at hg ⊢
   obtain ⟨v,s2,hc,hk⟩:=YO hg
   rw [Zd7 h hc];exact hk
  obtain ⟨gv,hgv,hk⟩:=Px (show (OV.rec .fail (fun gv=>Option.rec (Gd e a gv ps asg body t s.next (s.next::ds) (s.alloc .defd)) (fun l=>LP.rec .fail (fun _ _ _ _ _ _ _ d=>Gd e a gv ps asg body t d ds s) (Db l s)) rd) (ev g t):R)=.ok x t' s' ds' from hv)
  show (OV.rec .fail (fun gv=>Option.rec (Gd e b gv ps asg body t s.next (s.next::ds) (s.alloc .defd)) (fun l=>LP.rec .fail (fun _ _ _ _ _ _ _ d=>Gd e b gv ps asg body t d ds s) (Db l s)) rd) (ev g t):R)=.ok x t' s' ds'
  rw [hgv]
  cases rd with
  | none=>exact go _ _ _ _ _ hk
  | some l=>
   obtain ⟨st,pend,fn,tm,ps',asg',body',d,hg,hk⟩:=Pm hk
   show (LP.rec .fail _ (Db l s):R)=_
   unfold Db;rw [hg]
   exact go _ _ _ _ _ hk
theorem Zge:∀ n,G2 (exec e n) (exec e (n+1)):=by
 intro n
 induction n with
 | zero=>intro c t s rd ds x t' s' ds' h;cases h
 | succ n ih=>
  intro c t s rd ds x t' s' ds' h
  exact Zny ih c .skip t s rd ds x t' s' ds' h
theorem G9 {n m:Nat}(h:n≤m):G2 (exec e n) (exec e m):=by
 induction h with
 | refl=>intro c t s rd ds x t' s' ds' h;exact h
 | step _ ih=>intro c t s rd ds x t' s' ds' h;exact Zge _ _ _ _ _ _ _ _ _ _ (ih _ _ _ _ _ _ _ _ _ h)
end
end Go.AM
namespace Go.AM
def Zn3 (P:Program) (N:Nat) (c:Code):AC->Prop
 | .skip=>c=.skip
 | .reg _=>∃ id ops dr,c=.region id ops dr∨Bh P N c=some Nx
 | .seq a b=>∃ c1 c2,c=.seq c1 c2∧Bh P N c1=some a∧Bh P N c2=some b
 | .cond x a b=>∃ y c1 c2,c=.cond y c1 c2∧Ai y=some x∧Bh P N c1=some a∧Bh P N c2=some b
 | .block id a=>∃ c1,c=.block id c1∧Bh P N c1=some a
 | .loop a=>∃ c1,c=.loop c1∧Bh P N c1=some a
 | .rng g ps a b=>∃ y qs c1 c2,c=.rangeFunc y qs c1 c2∧Ai y=some g∧qs.toList=ps∧Bh P N c1=some a∧Bh P N c2=some b∧∀ p ∈ ps,p<N
 | .exit id=>c=.exit id
 | .scope a=>∃ c1,c=.scope c1∧Bh P N c1=some a
 | .lab=>∃ l,c=.label l
 | .ret=>c=.ret
theorem GB {P:Program}{N:Nat}{c:Code}{ac:AC}(h:Bh P N c=some ac):Zn3 P N c ac:=by
 cases c with
 | skip=>cases h;rfl
 | ret=>cases h;rfl
 | exit id=>cases h;rfl
 | label l=>cases h;exact ⟨l,rfl⟩
 | scope c1=>
  obtain ⟨a,h1,rfl⟩:=map_some (show (Bh P N c1).map AC.scope=some ac from h)
  exact ⟨_,rfl,h1⟩
 | region id ops dr=>
  cases dr with
  | false=>obtain ⟨al,_,rfl⟩:=map_some (show (Hi P N ops ops.toList).map AC.reg=some ac from h);exact ⟨_,_,_,.inl rfl⟩
  | true=>
   have h':some (((Iu P N ops).map AC.reg).getD Nx)=some ac:=h
   cases hal:Iu P N ops with
   | none=>rw [hal] at h';cases h';exact ⟨_,_,_,.inl rfl⟩
   | some al=>rw [hal] at h';cases h';exact ⟨_,_,_,.inl rfl⟩
 | seq c1 c2=>
  simp only [Bh] at h
  split at h
  ·rename_i a b h1 h2;cases h;exact ⟨_,_,rfl,h1,h2⟩
  ·cases h
 | cond y c1 c2=>
  simp only [Bh] at h
  split at h
  ·rename_i x a b h0 h1 h2;cases h;exact ⟨_,_,_,rfl,h0,h1,h2⟩
  ·cases h
 | block id c1=>
  obtain ⟨a,h1,rfl⟩:=map_some (show (Bh P N c1).map (AC.block id)=some ac from h)
  exact ⟨_,rfl,h1⟩
 | loop c1=>
  obtain ⟨a,h1,rfl⟩:=map_some (show (Bh P N c1).map AC.loop=some ac from h)
  exact ⟨_,rfl,h1⟩
 | rangeFunc f ps asg body=>
  simp only [Bh] at h
  split at h
  ·rename_i y a b h0 h1 h2
   split at h
   ·rename_i hps
    cases h
    refine ⟨_,_,_,_,rfl,h0,rfl,h1,h2,fun p hp=>?_⟩
    have:=Zri.1 hps p hp
    simpa using this
   ·cases h
  ·cases h
 | _=>cases h;exact ⟨0,#[],false,.inr rfl⟩
def W (P:Program) (k:Nat) (rd:Option Nat) (ac:AC) (t:AT) (s:St) (ds:List Nat) (Q:Ex->AT->St->List Nat->Prop):Prop:=
 ∀ (N:Nat) (c:Code) (γ:Gam) (w:World) (a:Act) (b:Option Nat) (γ0:Gam) (s0:St) (w0:World) (m:Nat),
  Bh P N c=some ac->N≤a.tmps.size->TR γ t a.tmps->Sim P γ s w->RD γ0 rd b->DR γ ds a.defers->Stp γ0 s0 w0 γ s w->s0.next=k->(∀ r,k≤r->γ0 r=none)->(∀ r,r<k->∃ L,γ0 r=some L)->
  c.wpIn (BX b) m P (fun ex a' w'=>∃ x t' s' ds',Q x t' s' ds'∧Du P γ0 s0 w0 N x t' s' ds' ex a' w') a w
section
variable {P:Program}{k:Nat}{rd:Option Nat}{t:AT}{s:St}{ds:List Nat}{Q:Ex->AT->St->List Nat->Prop}
variable {ac:AC}
theorem W.mono {Q':Ex->AT->St->List Nat->Prop}(h:W P k rd ac t s ds Q) (hq:∀ x t s ds,Q x t s ds->Q' x t s ds):W P k rd ac t s ds Q':=
 fun N c γ w a b γ0 s0 w0 m h1 h2 h3 h4 h5 h6 h7 h8 h9 h10=>wpIn_mono (h N c γ w a b γ0 s0 w0 m h1 h2 h3 h4 h5 h6 h7 h8 h9 h10) fun _ _ _ ⟨x,t',s',ds',hQ,hp⟩=>⟨x,t',s',ds',hq _ _ _ _ hQ,hp⟩
theorem W.exec {n:Nat}{rec:Rec}{x:Ex}{t':AT}{s':St}{ds':List Nat}(hG:DM P n rec) (h:rec ac t s rd ds=.ok x t' s' ds') (hq:Q x t' s' ds'):W P k rd ac t s ds Q:=
 fun N c γ w a b γ0 s0 w0 m h1 h2 h3 h4 h5 h6 h7 h8 h9 h10=>wpIn_mono (hG N c ac γ t s w a rd b ds x t' s' ds' γ0 s0 w0 m h1 h2 h3 h4 h5 h6 h7 h).1 fun _ _ _ hp=>⟨x,t',s',ds',hq,hp⟩
theorem Znz (h:Q .normal t s ds):W P k rd .skip t s ds Q:=by
 intro N c γ w a b γ0 s0 w0 m h1 h2 h3 h4 h5 h6 h7 h8 h9 h10
 cases (GB h1:c=.skip)
 exact wpIn_skip ⟨_,_,_,_,h,rfl,h2,γ,h7,h4,h3,h6⟩
theorem W.ret (h:Q .ret t s ds):W P k rd .ret t s ds Q:=by
 intro N c γ w a b γ0 s0 w0 m h1 h2 h3 h4 h5 h6 h7 h8 h9 h10
 cases (GB h1:c=.ret)
 exact wpIn_ret ⟨_,_,_,_,h,rfl,h2,γ,h7,h4,h3,h6⟩
theorem Zn0 {id:Nat}(h:Q (.exit id) t s ds):W P k rd (.exit id) t s ds Q:=by
 intro N c γ w a b γ0 s0 w0 m h1 h2 h3 h4 h5 h6 h7 h8 h9 h10
 cases (GB h1:c=.exit id)
 exact wpIn_exit ⟨_,_,_,_,h,rfl,h2,γ,h7,h4,h3,h6⟩
theorem Zpe (h:Q .normal t s ds):W P k rd .lab t s ds Q:=by
 intro N c γ w a b γ0 s0 w0 m h1 h2 h3 h4 h5 h6 h7 h8 h9 h10
 obtain ⟨l,rfl⟩:=(GB h1:∃ l,c=.label l)
 exact wpIn_label ⟨_,_,_,_,h,rfl,h2,γ,h7,h4,h3,h6⟩
variable {x:AC}
theorem W.scope (h:W P k rd x t s ds Q):W P k rd (.scope x) t s ds Q:=by
 intro N c γ w a b γ0 s0 w0 m h1 h2 h3 h4 h5 h6 h7 h8 h9 h10
 obtain ⟨c1,rfl,e1⟩:=(GB h1:∃ c1,c=.scope c1∧Bh P N c1=some x)
 refine U9 ?_ (h N c1 γ w a b γ0 s0 w0 m e1 h2 h3 h4 h5 h6 h7 h8 h9 h10)
 rintro l a w ⟨x,t',s',ds',_,hp,_⟩
 cases x <;> simp [Nw] at hp
def IY (K:AT->St->List Nat->Prop) (Q:Ex->AT->St->List Nat->Prop) (x:Ex) (t:AT) (s:St) (ds:List Nat):Prop:=match x with
 | .normal=>K t s ds
 | .exit id=>Q (.exit id) t s ds
 | .ret=>Q .ret t s ds
theorem Vo {N:Nat}{γ0:Gam}{s0:St}{w0:World}{K:AT->St->List Nat->Prop}{J:Act->World->Prop}
 (hK:∀ t1 s1 ds1 γ1 a1 w1,K t1 s1 ds1->N≤a1.tmps.size->TR γ1 t1 a1.tmps->Sim P γ1 s1 w1->DR γ1 ds1 a1.defers->Stp γ0 s0 w0 γ1 s1 w1->J a1 w1):
 ∀ ex a1 w1,(∃ x t' s' ds',IY K Q x t' s' ds'∧Du P γ0 s0 w0 N x t' s' ds' ex a1 w1)->Exit.then J (fun ex a' w'=>∃ x t' s' ds',Q x t' s' ds'∧Du P γ0 s0 w0 N x t' s' ds' ex a' w') ex a1 w1:=by
 rintro ex a1 w1 ⟨x,t',s',ds',hq,hp⟩
 obtain ⟨rfl,q1,γ1,q2,q3,q4,q5⟩:=hp
 cases x with
 | normal=>exact hK t' s' ds' γ1 a1 w1 hq q1 q4 q3 q5 q2
 | exit id=>exact ⟨_,_,_,_,hq,rfl,q1,γ1,q2,q3,q4,q5⟩
 | ret=>exact ⟨_,_,_,_,hq,rfl,q1,γ1,q2,q3,q4,q5⟩
variable {y:AC}
theorem W.seq (h:W P k rd x t s ds (IY (fun t s ds=>W P k rd y t s ds Q) Q)):W P k rd (.seq x y) t s ds Q:=by
 intro N c γ w a b γ0 s0 w0 m h1 h2 h3 h4 h5 h6 h7 h8 h9 h10
 obtain ⟨c1,c2,rfl,e1,e2⟩:=(GB h1:∃ c1 c2,c=.seq c1 c2∧Bh P N c1=some x∧Bh P N c2=some y)
 refine wpIn_seq (wpIn_mono (h N c1 γ w a b γ0 s0 w0 m e1 h2 h3 h4 h5 h6 h7 h8 h9 h10) (Vo ?_))
 intro t1 s1 ds1 γ1 a1 w1 hk q1 q2 q3 q4 q5
 exact hk N c2 γ1 w1 a1 b γ0 s0 w0 m e2 q1 q2 q3 h5 q4 q5 h8 h9 h10
theorem Ye {x:AO}{z:AC}{b:Bool}(hb:ev x t=.some (.bool b)) (h1:b=true->W P k rd y t s ds Q) (h2:b=false->W P k rd z t s ds Q):W P k rd (.cond x y z) t s ds Q:=by
 intro N c γ w a b' γ0 s0 w0 m g1 g2 g3 g4 g5 g6 g7 g8 g9 g10
 obtain ⟨o,c1,c2,rfl,e0,e1,e2⟩:=(GB g1:∃ o c1 c2,c=.cond o c1 c2∧Ai o=some x∧Bh P N c1=some y∧Bh P N c2=some z)
 have hR:=Pv g3 e0 hb
 cases b with
 | true=>exact wpIn_cond_true (GJ hR) (h1 rfl N c1 γ w a b' γ0 s0 w0 m e1 g2 g3 g4 g5 g6 g7 g8 g9 g10)
 | false=>exact wpIn_cond_false (GJ hR) (h2 rfl N c2 γ w a b' γ0 s0 w0 m e2 g2 g3 g4 g5 g6 g7 g8 g9 g10)
def YQ (id:Nat) (Q:Ex->AT->St->List Nat->Prop) (x:Ex) (t:AT) (s:St) (ds:List Nat):Prop:=match x with
 | .normal=>Q .normal t s ds
 | .exit id'=>if id'=id then Q .normal t s ds else Q (.exit id') t s ds
 | .ret=>Q .ret t s ds
theorem W.block {id:Nat}(h:W P k rd x t s ds (YQ id Q)):W P k rd (.block id x) t s ds Q:=by
 intro N c γ w a b γ0 s0 w0 m h1 h2 h3 h4 h5 h6 h7 h8 h9 h10
 obtain ⟨c1,rfl,e1⟩:=(GB h1:∃ c1,c=.block id c1∧Bh P N c1=some x)
 refine wpIn_block (wpIn_mono (h N c1 γ w a b γ0 s0 w0 m e1 h2 h3 h4 h5 h6 h7 h8 h9 h10) ?_)
 rintro ex a1 w1 ⟨x1,t',s',ds',hq,rfl,q1,γ1,q2,q3,q4,q5⟩
 cases x1 with
 | normal=>exact ⟨_,_,_,_,hq,rfl,q1,γ1,q2,q3,q4,q5⟩
 | ret=>exact ⟨_,_,_,_,hq,rfl,q1,γ1,q2,q3,q4,q5⟩
 | exit id'=>
  show if id'=id then _ else _
  simp only [YQ] at hq
  split
  ·rename_i e;rw [Zpn e] at hq;exact ⟨_,_,_,_,hq,rfl,q1,γ1,q2,q3,q4,q5⟩
  ·rename_i e;rw [Zpr e] at hq;exact ⟨_,_,_,_,hq,rfl,q1,γ1,q2,q3,q4,q5⟩
theorem W.loop (I:Nat->AT->St->List Nat->Prop) (n:Nat) (h0:I n t s ds)
 (hr:∀ n t s ds,I n t s ds->W P k rd x t s ds (IY (fun t s ds=>∃ n',n'<n∧I n' t s ds) Q)):W P k rd (.loop x) t s ds Q:=by
 intro N c γ w a b γ0 s0 w0 m h1 h2 h3 h4 h5 h6 h7 h8 h9 h10
 obtain ⟨c1,rfl,e1⟩:=(GB h1:∃ c1,c=.loop c1∧Bh P N c1=some x)
 have key:∀ (j n:Nat) (t:AT) (s:St) (ds:List Nat) (γ:Gam) (a:Act) (w:World),n<j->I n t s ds->N≤a.tmps.size->TR γ t a.tmps->Sim P γ s w->DR γ ds a.defers->Stp γ0 s0 w0 γ s w->
  Code.roundsIn (BX b) m P c1 (fun ex a' w'=>∃ x t' s' ds',Q x t' s' ds'∧Du P γ0 s0 w0 N x t' s' ds' ex a' w') j a w:=by
  intro j
  induction j with
  | zero=>intro n t s ds γ a w hn;omega
  | succ j ih=>
   intro n t s ds γ a w hn hi q1 q2 q3 q4 q5
   rw [roundsIn_succ]
   refine wpIn_mono (hr n t s ds hi N c1 γ w a b γ0 s0 w0 m e1 q1 q2 q3 h5 q4 q5 h8 h9 h10) (Vo ?_)
   rintro t1 s1 ds1 γ1 a1 w1 ⟨n',hn',hi'⟩ r1 r2 r3 r4 r5
   exact ih n' t1 s1 ds1 γ1 a1 w1 (by omega) hi' r1 r2 r3 r4 r5
 exact wpIn_loop_rounds (n+1) (key (n+1) n t s ds γ a w (Nat.lt_succ_self _) h0 h2 h3 h4 h6 h7)
end
end Go.AM
namespace Go.AM
mutual
def Bg (ρ:Nat->Nat):AV->AV
 | .ptr r o=>.ptr (ρ r) o
 | .sl r o n c=>.sl (ρ r) o n c
 | .map r=>.map (ρ r)
 | .yld l=>.yld (ρ l)
 | .fn f a b=>.fn f (AF ρ a) (AF ρ b)
 | .iface t v=>.iface t (Bg ρ v)
 | .agg l=>.agg (AF ρ l)
 | .tup l=>.tup (AF ρ l)
 | v=>v
def AF (ρ:Nat->Nat):List AV->List AV
 | []=>[]
 | v::l=>Bg ρ v::AF ρ l
end
mutual
def bd (n:Nat):AV->Bool
 | .ptr r _=>Nat.blt r n
 | .sl r _ _ _=>Nat.blt r n
 | .map r=>Nat.blt r n
 | .yld l=>Nat.blt l n
 | .fn _ a b=>Bq n a && Bq n b
 | .iface _ v=>bd n v
 | .agg l=>Bq n l
 | .tup l=>Bq n l
 | _=>true
def Bq (n:Nat):List AV->Bool
 | []=>true
 | v::l=>bd n v && Bq n l
end
section
variable {P:Program}{γ γ2:Gam}{ρ:Nat->Nat}{n:Nat}
mutual
theorem HE (hz:∀ b c,γ.fz b=some c->γ2.fz b=some c):∀ (v:AV) {v':Value},hf v=true->VR γ v v'->VR γ2 v v'
 | .bool b,_,_,.bool _=>.bool _
 | .int k n,_,_,.int _ _=>.int _ _
 | .str l,_,_,.str _ s e=>.str _ s e
 | .ptr _ _,_,h,_=>by cases h
 | .nilp,_,_,.nilp=>.nilp
 | .sl ..,_,h,_=>by cases h
 | .nils,_,_,.nils=>.nils
 | .es,_,_,.es a c=>.es a c
 | .ez,_,_,.ez a=>.ez a
 | .map _,_,h,_=>by cases h
 | .nilm,_,_,.nilm=>.nilm
 | .fn f xs ys,_,h,.fn _ _ _ as bs a b=>by
  simp only [hf,Zpl] at h
  exact .fn f xs ys as bs (GD hz xs h.1 a) (GD hz ys h.2 b)
 | .yld _,_,h,_=>by cases h
 | .nilf,_,_,.nilf=>.nilf
 | .iface t v,_,h,.iface _ _ v' e=>.iface t v v' (HE hz v h e)
 | .nili,_,_,.nili=>.nili
 | .agg l,_,h,.agg _ a e o=>.agg l a (GD hz l h e) o
 | .tup l,_,h,.tup _ a e=>.tup l a (GD hz l h e)
 | .any,_,_,.any v e=>.any v e
 | .fz n c l,_,_,.fz _ _ _ vs b o cc cs e1 e2 e3 e4 e5 e6 e7=>.fz n c l vs b o cc cs (hz _ _ e1) e2 e3 (GD hz l e7 e4) e5 e6 e7
 | .fp l,_,_,.fp _ vs b o cs e1 e2 e3 e4 e5=>.fp l vs b o cs (hz _ _ e1) e2 e3 (GD hz l e5 e4) e5
theorem GD (hz:∀ b c,γ.fz b=some c->γ2.fz b=some c):∀ (l:List AV) {m:List Value},hfs l=true->All2 (VR γ) l m->All2 (VR γ2) l m
 | [],_,_,.nil=>.nil
 | v::l,_,h,.cons a b=>by
  simp only [hfs,Zpl] at h
  exact .cons (HE hz v h.1 a) (GD hz l h.2 b)
end
mutual
theorem ID (hz:∀ b c,γ.fz b=some c->γ2.fz b=some c) (hl:∀ r,r<n->∀ L,γ (ρ r)=some L->γ2 r=some L):∀ (v:AV) {v':Value},bd n v=true->VR γ (Bg ρ v) v'->VR γ2 v v'
 | .bool b,_,_,h=>by cases h;exact .bool _
 | .int k n,_,_,h=>by cases h;exact .int _ _
 | .str l,_,_,h=>by cases h;rename_i s e;exact .str _ s e
 | .ptr r o,_,hb,h=>by
  cases h with
  | ptr _ _ L e=>exact .ptr r o L (hl r (by simpa [bd] using hb) L e)
 | .nilp,_,_,h=>by cases h;exact .nilp
 | .sl r o m c,_,hb,h=>by
  cases h with
  | sl _ _ _ c L e a=>exact .sl r o m c L (hl r (by simpa [bd] using hb) L e) a
  | slu _ _ _ c L e a b d=>exact .slu r o m c L (hl r (by simpa [bd] using hb) L e) a b d
 | .nils,_,_,h=>by cases h;exact .nils
 | .es,_,_,h=>by cases h;exact .es _ _
 | .ez,_,_,h=>by cases h;exact .ez _
 | .map r,_,hb,h=>by
  cases h with
  | map _ L e=>exact .map r L (hl r (by simpa [bd] using hb) L e)
 | .nilm,_,_,h=>by cases h;exact .nilm
 | .fn f xs ys,_,hb,h=>by
  simp only [bd,Zpl] at hb
  cases h with
  | fn _ _ _ as bs a b=>exact .fn f xs ys as bs (KH hz hl xs hb.1 a) (KH hz hl ys hb.2 b)
 | .yld l,_,hb,h=>by
  cases h with
  | yld _ L e=>exact .yld l L (hl l (by simpa [bd] using hb) L e)
 | .nilf,_,_,h=>by cases h;exact .nilf
 | .iface t v,_,hb,h=>by
  cases h with
  | iface _ _ v' e=>exact .iface t v v' (ID hz hl v hb e)
 | .nili,_,_,h=>by cases h;exact .nili
 | .agg l,_,hb,h=>by
  cases h with
  | agg _ a e o=>exact .agg l a (KH hz hl l hb e) o
 | .tup l,_,hb,h=>by
  cases h with
  | tup _ a e=>exact .tup l a (KH hz hl l hb e)
 | .any,_,_,h=>by cases h;rename_i e;exact .any _ e
 | .fz m c l,_,_,h=>HE hz (.fz m c l) rfl h
 | .fp l,_,_,h=>HE hz (.fp l) rfl h
theorem KH (hz:∀ b c,γ.fz b=some c->γ2.fz b=some c) (hl:∀ r,r<n->∀ L,γ (ρ r)=some L->γ2 r=some L):∀ (l:List AV) {m:List Value},Bq n l=true->All2 (VR γ) (AF ρ l) m->All2 (VR γ2) l m
 | [],_,_,h=>by cases h;exact .nil
 | v::l,_,hb,h=>by
  simp only [Bq,Zpl] at hb
  cases h with
  | cons a b=>exact .cons (ID hz hl v hb.1 a) (KH hz hl l hb.2 b)
end
mutual
theorem OD (hρ:∀ r,r<n->ρ r=r):∀ (v:AV),bd n v=true->Bg ρ v=v
 | .ptr r o,h=>by simp only [Bg];rw [hρ r (by simpa [bd] using h)]
 | .sl r o m c,h=>by simp only [Bg];rw [hρ r (by simpa [bd] using h)]
 | .map r,h=>by simp only [Bg];rw [hρ r (by simpa [bd] using h)]
 | .yld r,h=>by simp only [Bg];rw [hρ r (by simpa [bd] using h)]
 | .fn f a b,h=>by simp only [bd,Zpl] at h;simp only [Bg];rw [Mf hρ a h.1,Mf hρ b h.2]
 | .iface t v,h=>by simp only [Bg];rw [OD hρ v h]
 | .agg l,h=>by simp only [Bg];rw [Mf hρ l h]
 | .tup l,h=>by simp only [Bg];rw [Mf hρ l h]
 | .bool _,_|.int _ _,_|.str _,_|.nilp,_|.nils,_|.es,_|.ez,_|.nilm,_|.nilf,_|.nili,_|.any,_|.fz _ _ _,_|.fp _,_=>rfl
theorem Mf (hρ:∀ r,r<n->ρ r=r):∀ (l:List AV),Bq n l=true->AF ρ l=l
 | [],_=>rfl
 | v::l,h=>by simp only [Bq,Zpl] at h;simp only [AF];rw [OD hρ v h.1,Mf hρ l h.2]
end
mutual
theorem Dp:∀ (v:AV),hf v=true->bd n v=true
 | .ptr ..,h=>by cases h
 | .sl ..,h=>by cases h
 | .map ..,h=>by cases h
 | .yld ..,h=>by cases h
 | .fn f a b,h=>by simp only [hf,Zpl] at h;simp only [bd,Zpl];exact ⟨Hp a h.1,Hp b h.2⟩
 | .iface t v,h=>Dp v h
 | .agg l,h=>Hp l h
 | .tup l,h=>Hp l h
 | .bool _,_|.int _ _,_|.str _,_|.nilp,_|.nils,_|.es,_|.ez,_|.nilm,_|.nilf,_|.nili,_|.any,_|.fz _ _ _,_|.fp _,_=>rfl
theorem Hp:∀ (l:List AV),hfs l=true->Bq n l=true
 | [],_=>rfl
 | v::l,h=>by simp only [hfs,Zpl] at h;simp only [Bq,Zpl];exact ⟨Dp v h.1,Hp l h.2⟩
end
mutual
theorem CZ:∀ (v:AV),hf v=true->Bg ρ v=v
 | .ptr ..,h=>by cases h
 | .sl ..,h=>by cases h
 | .map ..,h=>by cases h
 | .yld ..,h=>by cases h
 | .fn f a b,h=>by simp only [hf,Zpl] at h;simp only [Bg];rw [G6 a h.1,G6 b h.2]
 | .iface t v,h=>by simp only [Bg];rw [CZ v h]
 | .agg l,h=>by simp only [Bg];rw [G6 l h]
 | .tup l,h=>by simp only [Bg];rw [G6 l h]
 | .bool _,_|.int _ _,_|.str _,_|.nilp,_|.nils,_|.es,_|.ez,_|.nilm,_|.nilf,_|.nili,_|.any,_|.fz _ _ _,_|.fp _,_=>rfl
theorem G6:∀ (l:List AV),hfs l=true->AF ρ l=l
 | [],_=>rfl
 | v::l,h=>by simp only [hfs,Zpl] at h;simp only [AF];rw [CZ v h.1,G6 l h.2]
end
variable {n:Nat}
theorem t9 {v:AV}{ρ:Nat->Nat}{x:Option AV}(h:hf v=true:=by assumption) (e:x=some v:=by rfl):bd n v=true∧x=some (Bg ρ v):=⟨Dp _ h,by rw [CZ _ h];exact e⟩
def Cc (ρ:Nat->Nat):List (AV×AV×Nat)->List (AV×AV×Nat)
 | []=>[]
 | (a,b,c)::l=>(Bg ρ a,Bg ρ b,c)::Cc ρ l
def Jf (n:Nat):List (AV×AV×Nat)->Bool
 | []=>true
 | (a,b,_)::l=>bd n a && bd n b && Jf n l
def N9 (n:Nat):T AV->Bool
 | .lf=>true
 | .nd v l r=>(match v with|none=>true|some v=>bd n v) && N9 n l && N9 n r
theorem Se:∀ {t:T AV}{i:Nat}{v:AV},N9 n t=true->t.get i=some v->bd n v=true:=by
 intro t
 induction t with
 | lf=>intro i v _ h;cases h
 | nd x l r il ir=>
  intro i v hb h
  simp only [N9,Zpl] at hb
  cases i with
  | zero=>change x=some v at h;subst h;exact hb.1.1
  | succ i=>
   change (Bool.rec (T.get r (Nat.div i 2)) (T.get l (Nat.div i 2)) (Nat.beq (Nat.mod i 2) 0):Option AV)=some v at h
   cases hc:Nat.beq (Nat.mod i 2) 0 <;> rw [hc] at h
   ·exact ir hb.2 h
   ·exact il hb.1.2 h
def Bw (ρ:Nat->Nat):AObj->AObj
 | .row e cs=>.row e (AF ρ cs)
 | .map es c=>.map (Cc ρ es) c
 | .iter m b se l=>.iter (ρ m) b se l
 | o=>o
def Dw (k n:Nat):AObj->Bool
 | .row _ cs=>Bq n cs
 | .map es _=>Jf n es
 | .iter m _ _ _=>Nat.blt m n
 | .loop _ _ _ tm _ _ _ d=>N9 k tm && Nat.blt d k
 | _=>true
theorem X6:∀ {l:List AV}{i:Nat}{v:AV},Bq n l=true->l[i]?=some v->bd n v=true
 | [],i,v,_,h=>by simp at h
 | x::l,i,v,hb,h=>by
  simp only [Bq,Zpl] at hb
  cases i with
  | zero=>simp at h;subst h;exact hb.1
  | succ i=>exact X6 hb.2 (by simpa using h)
theorem Vv:∀ {l:List AV}{i:Nat}{v:AV},l[i]?=some v->(AF ρ l)[i]?=some (Bg ρ v)
 | [],i,v,h=>by simp at h
 | x::l,i,v,h=>by
  cases i with
  | zero=>simp at h;subst h;rfl
  | succ i=>simp only [AF];simpa using Vv (l:=l) (by simpa using h)
theorem QC:∀ (l:List AV),(AF ρ l).length=l.length
 | []=>rfl
 | x::l=>by simp [AF,QC l]
variable {k:Nat}
theorem Wj (hz:∀ b c,γ.fz b=some c->γ2.fz b=some c) (hl:∀ r,r<n->∀ L,γ (ρ r)=some L->γ2 r=some L) (hk:∀ r,r<k->ρ r=r) (hkn:k≤n) {L:Loc}{o:AObj}{hp:Array Obj}(hb:Dw k n o=true) (h:ObjR P γ L (Bw ρ o) hp):ObjR P γ2 L o hp:=by
 have hlk:∀ r,r<k->∀ L,γ r=some L->γ2 r=some L:=fun r hr L e=>hl r (by omega) L (by rw [hk r hr];exact e)
 have hid:∀ v,bd k v=true->∀ {v':Value},VR γ v v'->VR γ2 v v':=fun v hv v' e=>ID (ρ:=fun r=>r) hz hlk v hv (by rw [OD (n:=k) (fun _ _=>rfl) v hv];exact e)
 cases o with
 | row e cs=>
  obtain ⟨c,h1,h2,h3,h4,h5,h6,h7⟩:=h
  rw [QC] at h5
  refine ⟨c,h1,h2,h3,h4,h5,fun i v hv=>?_,h7⟩
  obtain ⟨v',a,b,d⟩:=h6 i _ (Vv hv)
  exact ⟨v',a,ID hz hl v (X6 hb hv) b,d⟩
 | dead=>trivial
 | map es clock=>
  obtain ⟨ms,h1,h2⟩:=h
  refine ⟨ms,h1,?_⟩
  have:∀ (es:List (AV×AV×Nat)) (ms:List MapEntry),Jf n es=true->All2 (fun (x:AV×AV×Nat) (m:MapEntry)=>VR γ x.1 m.key∧VR γ x.2.1 m.val∧m.born=x.2.2) (Cc ρ es) ms->All2 (fun (x:AV×AV×Nat) (m:MapEntry)=>VR γ2 x.1 m.key∧VR γ2 x.2.1 m.val∧m.born=x.2.2) es ms:=by
   intro es
   induction es with
   | nil=>intro ms _ h;cases h;exact .nil
   | cons x es ih=>
    intro ms hb h
    obtain ⟨a,b,c⟩:=x
    simp only [Jf,Zpl] at hb
    cases h with
    | cons h1 h2=>exact .cons ⟨ID hz hl a hb.1.1 h1.1,ID hz hl b hb.1.2 h1.2.1,h1.2.2⟩ (ih _ hb.2 h2)
  exact this es _ hb h2
 | loop st pend fn tm ps asg body d=>
  obtain ⟨lp,h1,h2,h3,h4,h5,h6,D,h8,h10⟩:=h
  simp only [Dw,Zpl] at hb
  exact ⟨lp,h1,h2,h3,fun i v hv=>(let ⟨v',a,b⟩:=h4 i v hv;⟨v',a,hid v (Se hb.1 hv) b⟩),h5,h6,D,hlk d (by simpa using hb.2) D h8,h10⟩
 | defd=>exact h
 | iter m b se l=>
  obtain ⟨h0,M,h1,h2⟩:=h
  exact ⟨h0,M,hl m (by simpa [Dw] using hb) M h1,h2⟩
structure Ren (k:Nat) (ρ:Nat->Nat) (t:AT) (s:St) (ds:List Nat) (t2:AT) (s2:St) (ds2:List Nat):Prop where
 id:∀ r,r<k->ρ r=r
 le:k≤s2.next
 inj:∀ r r',r<s2.next->r'<s2.next->ρ r=ρ r'->r=r'
 tmp:∀ i v,t2.get i=some v->bd s2.next v=true∧t.get i=some (Bg ρ v)
 obj:∀ r o,s2.get r=some o->r<s2.next∧Dw k s2.next o=true∧s.get (ρ r)=some (Bw ρ o)
 ds:ds=ds2.map ρ∧∀ d ∈ ds2,d<s2.next
theorem Fx (o:AObj):BO (Bw ρ o)=BO o:=by cases o <;> rfl
variable {t t2:AT}{s s2:St}{ds ds2:List Nat}
theorem Ren.sim (hR:Ren k ρ t s ds t2 s2 ds2) {γ:Gam}{w:World}{tm:Array Value}{D:List Deferred}{γ0:Gam}{s0:St}{w0:World}(h3:TR γ t tm) (h4:Sim P γ s w) (h6:DR γ ds D) (h7:Stp γ0 s0 w0 γ s w) (h8:s0.next=k) (h9:∀ r,k≤r->γ0 r=none) (h10:∀ r,r<k->∃ L,γ0 r=some L):
 ∃ γ2,TR γ2 t2 tm∧Sim P γ2 s2 w∧DR γ2 ds2 D∧Stp γ0 s0 w0 γ2 s2 w:=by
 let γ2:Gam:=⟨fun r=>if r<s2.next then γ (ρ r) else none,γ.fz⟩
 have g2:∀ r,r<s2.next->γ2 r=γ (ρ r):=fun r hr=>by show (if r<s2.next then γ (ρ r) else none)=_;rw [Zpn hr]
 have g2n:∀ r,¬ r<s2.next->γ2 r=none:=fun r hr=>by show (if r<s2.next then γ (ρ r) else none)=_;rw [Zpr hr]
 have g2s:∀ r L,γ2 r=some L->r<s2.next∧γ (ρ r)=some L:=fun r L e=>by
  by_cases hr:r<s2.next
  ·rw [g2 r hr] at e;exact ⟨hr,e⟩
  ·rw [g2n r hr] at e;cases e
 have hz:∀ b c,γ.fz b=some c->γ2.fz b=some c:=fun _ _ e=>e
 have hl:∀ r,r<s2.next->∀ L,γ (ρ r)=some L->γ2 r=some L:=fun r hr L e=>by rw [g2 r hr];exact e
 have hT:TR γ2 t2 tm:=by
  intro i v hv
  obtain ⟨hb,ht⟩:=hR.tmp i v hv
  obtain ⟨v',e1,e2⟩:=h3 i _ ht
  exact ⟨v',e1,ID hz hl v hb e2⟩
 have hS:Sim P γ2 s2 w:=by
  refine ⟨?_,?_,?_,?_,?_,?_,?_⟩
  ·intro r o L ho hL
   obtain ⟨hr,hb,hs⟩:=hR.obj r o ho
   obtain ⟨_,hL⟩:=g2s r L hL
   exact Wj hz hl hR.id hR.le hb (h4.obj _ _ L hs hL)
  ·intro r r' o o' L L' ho ho' ha ha' hL hL' hne
   obtain ⟨hr,hb,hs⟩:=hR.obj r o ho
   obtain ⟨hr',hb',hs'⟩:=hR.obj r' o' ho'
   exact h4.inj _ _ _ _ L L' hs hs' (by rw [Fx];exact ha) (by rw [Fx];exact ha') (g2s r L hL).2 (g2s r' L' hL').2 (fun e=>hne (hR.inj r r' hr hr' e))
  ·intro r L hL;exact h4.lt _ L (g2s r L hL).2
  ·intro r hr;exact g2n r (by omega)
  ·intro r o ho;exact (hR.obj r o ho).1
  ·exact h4.fzc
  ·intro r o L ho ha hL
   obtain ⟨hr,hb,hs⟩:=hR.obj r o ho
   exact h4.fzr _ _ L hs (by rw [Fx];exact ha) (g2s r L hL).2
 have hD:DR γ2 ds2 D:=by
  obtain ⟨e,hd⟩:=hR.ds
  rw [e] at h6
  have:∀ (l:List Nat) (D':List Deferred),(∀ d ∈ l,d<s2.next)->DR γ (l.map ρ) D'->DR γ2 l D':=by
   intro l
   induction l with
   | nil=>intro D' _ h;cases h;exact .nil
   | cons d l ih=>
    intro D' hd h
    cases h with
    | cons h1 h2=>
     obtain ⟨L,e1,e2⟩:=h1
     exact .cons ⟨L,hl d (hd d (by simp)) L e1,e2⟩ (ih _ (fun x hx=>hd x (by simp [hx])) h2)
  exact this ds2 _ hd h6
 have hlt0:∀ r L,γ0 r=some L->r<k:=fun r L e=>by
  refine Nat.lt_of_not_le fun hk=>?_
  rw [h9 r hk] at e;cases e
 have hP:Stp γ0 s0 w0 γ2 s2 w:=by
  refine ⟨⟨?_,h7.le.fz⟩,?_,by rw [h8];exact hR.le,h7.size,h7.os,h7.tape,h7.output,h7.blk,?_,h7.fzn⟩
  ·intro r L e
   have hr:=hlt0 r L e
   rw [g2 r (Zrc hr hR.le),hR.id r hr]
   exact h7.le.loc r L e
  ·intro r L e e0
   obtain ⟨hr,e⟩:=g2s r L e
   by_cases hk:r<k
   ·rw [hR.id r hk] at e
    exact h7.new r L e e0
   ·refine ⟨by omega,?_⟩
    cases hq:γ0 (ρ r) with
    | none=>exact (h7.new _ L e hq).2
    | some L'=>
     have:=h7.le.loc _ L' hq
     rw [e] at this;cases this
     exact .inr ⟨_,_,hq,rfl⟩
  ·intro r e0 hr
   obtain ⟨L,hL⟩:=h10 r (by omega)
   rw [hL] at e0;cases e0
 exact ⟨γ2,hT,hS,hD,hP⟩
theorem W.ren {rd:Option Nat}{Q:Ex->AT->St->List Nat->Prop}{ac:AC}(hR:Ren k ρ t s ds t2 s2 ds2) (h:W P k rd ac t2 s2 ds2 Q):W P k rd ac t s ds Q:=by
 intro N c γ w a b γ0 s0 w0 m h1 h2 h3 h4 h5 h6 h7 h8 h9 h10
 obtain ⟨γ2,hT,hS,hD,hP⟩:=hR.sim h3 h4 h6 h7 h8 h9 h10
 exact h N c γ2 w a b γ0 s0 w0 m h1 h2 hT hS h5 hD hP h8 h9 h10
end
end Go.AM
namespace Go.AM
section
variable {P:Program}
def Ga (P : Program) (f : Nat) : Prop := ∃ fn c, P.funcs[f]? = some fn ∧ fn.body = some c ∧ (fn.name == "runtime.NumGoroutine") = false
def C (P:Program) (f:Nat) (args:List AV) (s:St) (Q:AV->St->Prop):Prop:=
 ∀ (γ:Gam) (vals:List Value) (w:World) (m:Nat),All2 (VR γ) args vals->Sim P γ s w->CallsIn Fence.wide m P f vals.toArray w (fun e w'=>∃ v s',Q v s'∧EF P γ s w v s' e w')
variable {f:Nat}{args:List AV}{s:St}{Q:AV->St->Prop}
theorem C.mono {Q':AV->St->Prop}(h:C P f args s Q) (hq:∀ v s,Q v s->Q' v s):C P f args s Q':=
 fun γ vals w m h1 h2=>CallsIn.mono (h γ vals w m h1 h2) fun _ _ ⟨v,s',q,p⟩=>⟨v,s',hq _ _ q,p⟩
def BS (res:List ARes) (Q:AV->St->Prop) (x:Ex) (t:AT) (s:St) (ds:List Nat):Prop:=
 (x=.normal∨x=.ret)∧∃ s2 l,FG ds s=some s2∧Ds t s2 res=some l∧Q (one l) s2
def C1 (P:Program) (f:Nat) (args:List AV) (s:St) (Q:AV->St->Prop):Prop:=
 ∀ (γ:Gam) (vals:List Value) (w:World) (m:Nat),(∀ r,r<s.next->∃ L,γ r=some L)->All2 (VR γ) args vals->Sim P γ s w->CallsIn Fence.wide m P f vals.toArray w (fun e w'=>∃ v s',Q v s'∧EF P γ s w v s' e w')
variable {fn:Func}{code:AC}{res:List ARes}
theorem C1.of_W (hf:P.funcs[f]?=some fn) (hc:Gi P fn=some (.mk code res))
 (h:W P s.next none code (An args 0 .lf) s [] (BS res Q)):C1 P f args s Q:=by
 intro γ vals w m hall hA hs
 unfold Gi at hc
 split at hc
 ·rename_i b hb
  split at hc
  ·rename_i cd rs hcd hrs
   cases hc
   refine callsIn_of_wp_marks hf hb trivial ?_
   have hTR:TR γ (An args 0 .lf) (vals.toArray++Array.replicate (fn.ntmps-vals.toArray.size) undef):=by
    refine Wt args vals _ 0 .lf hA (YM _) ?_
    intro j u hj
    rw [Zpy,Array.getElem?_append]
    have hlt:=(Zpk.1 hj).1
    rw [Zpn (by simpa using hlt)]
    simpa using hj
   have hsz:fn.ntmps≤(vals.toArray++Array.replicate (fn.ntmps-vals.toArray.size) undef).size:=by simp;omega
   have hw:=h fn.ntmps b γ w { tmps:=vals.toArray++Array.replicate (fn.ntmps-vals.toArray.size) undef,defers:=[] } none γ s w m hcd hsz hTR hs rfl .nil (.refl _ _ _) rfl hs.nx hall
   refine wpIn_mono hw ?_
   rintro ex a' w' ⟨x,t',s',ds',⟨hx,s2,l,hq,hl,hQ⟩,rfl,_,γ',hst,hsim,ht,hd⟩
   have fin:LeavesInM Fence.wide m P fn a'.tmps (fun e w'=>∃ v s',Q v s'∧EF P γ s w v s' e w') a'.defers .returning w':=by
    exact Uy (s2:=s2) hrs (fun e w' hp=>⟨_,_,hQ,hp⟩) m ds' a'.defers s' w' hd hq hsim hst ht hl
   rcases hx with rfl|rfl
   ·exact fin
   ·exact fin
  ·cases hc
 ·cases hc
theorem C.of_W (hf:P.funcs[f]?=some fn) (hc:Gi P fn=some (.mk code res))
 (h:W P 0 none code (An args 0 .lf) (.mk 0 .lf) [] (BS res Q)):C P f args (.mk 0 .lf) Q:=
 fun γ vals w m hA hs=>C1.of_W (s:=.mk 0 .lf) hf hc h γ vals w m (fun r hr=>absurd hr (Nat.not_lt_zero r)) hA hs
end
end Go.AM
namespace Go.AM
section
variable {P:Program}{γ γ2:Gam}{σ:Nat->Nat}
mutual
theorem J6 (hz:∀ b c,γ.fz b=some c->γ2.fz b=some c) (hl:∀ r L,γ r=some L->γ2 (σ r)=some L):∀ (v:AV) {v':Value},VR γ v v'->VR γ2 (Bg σ v) v'
 | .bool b,_,h=>by cases h;exact .bool _
 | .int k n,_,h=>by cases h;exact .int _ _
 | .str l,_,h=>by cases h;rename_i s e;exact .str _ s e
 | .ptr r o,_,h=>by
  cases h with
  | ptr _ _ L e=>exact .ptr _ o L (hl r L e)
 | .nilp,_,h=>by cases h;exact .nilp
 | .sl r o m c,_,h=>by
  cases h with
  | sl _ _ _ c L e a=>exact .sl _ o m c L (hl r L e) a
  | slu _ _ _ c L e a b d=>exact .slu _ o m c L (hl r L e) a b d
 | .nils,_,h=>by cases h;exact .nils
 | .es,_,h=>by cases h;exact .es _ _
 | .ez,_,h=>by cases h;exact .ez _
 | .map r,_,h=>by
  cases h with
  | map _ L e=>exact .map _ L (hl r L e)
 | .nilm,_,h=>by cases h;exact .nilm
 | .fn f xs ys,_,h=>by
  cases h with
  | fn _ _ _ as bs a b=>exact .fn f _ _ as bs (M1 hz hl xs a) (M1 hz hl ys b)
 | .yld l,_,h=>by
  cases h with
  | yld _ L e=>exact .yld _ L (hl l L e)
 | .nilf,_,h=>by cases h;exact .nilf
 | .iface t v,_,h=>by
  cases h with
  | iface _ _ v' e=>exact .iface t _ v' (J6 hz hl v e)
 | .nili,_,h=>by cases h;exact .nili
 | .agg l,_,h=>by
  cases h with
  | agg _ a e o=>exact .agg _ a (M1 hz hl l e) o
 | .tup l,_,h=>by
  cases h with
  | tup _ a e=>exact .tup _ a (M1 hz hl l e)
 | .any,_,h=>by cases h;rename_i e;exact .any _ e
 | .fz m c l,_,h=>HE hz (.fz m c l) rfl h
 | .fp l,_,h=>HE hz (.fp l) rfl h
theorem M1 (hz:∀ b c,γ.fz b=some c->γ2.fz b=some c) (hl:∀ r L,γ r=some L->γ2 (σ r)=some L):∀ (l:List AV) {m:List Value},All2 (VR γ) l m->All2 (VR γ2) (AF σ l) m
 | [],_,h=>by cases h;exact .nil
 | v::l,_,h=>by
  cases h with
  | cons a b=>exact .cons (J6 hz hl v a) (M1 hz hl l b)
end
theorem UV:∀ {l:List AV}{i:Nat}{v:AV},(AF σ l)[i]?=some v->∃ u,l[i]?=some u∧v=Bg σ u
 | [],i,v,h=>by simp [AF] at h
 | x::l,i,v,h=>by
  simp only [AF] at h
  cases i with
  | zero=>simp at h;exact ⟨x,by simp,h.symm⟩
  | succ i=>simpa using UV (l:=l) (by simpa using h)
def OU:AObj->Bool
 | .loop ..=>false
 | _=>true
theorem Wk (hz:∀ b c,γ.fz b=some c->γ2.fz b=some c) (hl:∀ r L,γ r=some L->γ2 (σ r)=some L) {L:Loc}{o:AObj}{hp:Array Obj}(hb:OU o=true) (h:ObjR P γ L o hp):ObjR P γ2 L (Bw σ o) hp:=by
 cases o with
 | row e cs=>
  obtain ⟨c,h1,h2,h3,h4,h5,h6,h7⟩:=h
  refine ⟨c,h1,h2,h3,h4,by rw [QC];exact h5,fun i v hv=>?_,h7⟩
  obtain ⟨u,hu,rfl⟩:=UV hv
  obtain ⟨v',a,b,d⟩:=h6 i u hu
  exact ⟨v',a,J6 hz hl u b,d⟩
 | dead=>trivial
 | map es clock=>
  obtain ⟨ms,h1,h2⟩:=h
  refine ⟨ms,h1,?_⟩
  have:∀ (es:List (AV×AV×Nat)) (ms:List MapEntry),All2 (fun (x:AV×AV×Nat) (m:MapEntry)=>VR γ x.1 m.key∧VR γ x.2.1 m.val∧m.born=x.2.2) es ms->All2 (fun (x:AV×AV×Nat) (m:MapEntry)=>VR γ2 x.1 m.key∧VR γ2 x.2.1 m.val∧m.born=x.2.2) (Cc σ es) ms:=by
   intro es
   induction es with
   | nil=>intro ms h;cases h;exact .nil
   | cons x es ih=>
    intro ms h
    obtain ⟨a,b,c⟩:=x
    cases h with
    | cons h1 h2=>exact .cons ⟨J6 hz hl a h1.1,J6 hz hl b h1.2.1,h1.2.2⟩ (ih _ h2)
  exact this es _ h2
 | loop st pend fn tm ps asg body d=>cases hb
 | defd=>exact h
 | iter m b se l=>obtain ⟨h0,M,h1,h2⟩:=h;exact ⟨h0,M,hl m M h1,h2⟩
noncomputable def Aj (s:St):List AObj->St
 | []=>s
 | o::l=>Aj (s.alloc o) l
theorem Ha:∀ (l:List AObj) (s:St),(Aj s l).next=s.next+l.length
 | [],s=>rfl
 | o::l,s=>by rw [Aj,Ha l,CH,Zqd];omega
theorem Jq:∀ (l:List AObj) (s:St) {r:Nat},r<s.next->(Aj s l).get r=s.get r
 | [],s,r,_=>rfl
 | o::l,s,r,h=>by rw [Aj,Jq l _ (by rw [CH];omega),Ie (by omega)]
theorem Kt:∀ (l:List AObj) (s:St) {r:Nat}{o:AObj},s.next≤r->(∀ r,s.next≤r->s.get r=none)->(Aj s l).get r=some o->l[r-s.next]?=some o
 | [],s,r,o,h,hn,hg=>by
  have e:s.get r=some o:=hg
  rw [hn r h] at e;cases e
 | x::l,s,r,o,h,hn,hg=>by
  rw [Aj] at hg
  by_cases e:r=s.next
  ·subst e
   rw [Jq l _ (by rw [CH];omega)] at hg
   rcases G3 hg with ⟨_,rfl⟩|⟨e,_⟩
   ·simp
   ·exact absurd rfl e
  ·have:=Kt l (s.alloc x) (r:=r) (by rw [CH];omega) (fun r hr=>by rw [CH] at hr;rw [Ie (by omega)];exact hn r (by omega)) hg
   rw [CH] at this
   rw [show r-s.next=(r-(s.next+1))+1 by omega]
   simpa using this
abbrev St0:St:=.mk 0 .lf
theorem P3 {w:World}{φ:Nat->Option (Array Value)}(h:∀ b c,φ b=some c->∃ e fr,w.heap[b]?=some (.cells c e fr)):Sim P ⟨fun _=>none,φ⟩ St0 w:=
 ⟨fun r o L h=>(by cases h),fun r r' o o' L L' h=>(by cases h),fun r L h=>(by cases h),fun r _=>rfl,fun r o h=>(by cases h),h,fun r o L h=>(by cases h)⟩
theorem C.frame {f:Nat}{args:List AV}{u:AV}{l:List AObj}(ha:hfs args=true) (hl:∀ o ∈ l,OU o=true) (hlen:0<l.length∨l=[])
 (h:C P f args St0 (fun v s'=>v=u∧s'=Aj St0 l)) (hall:∀ i o,l[i]?=some o->(Aj St0 l).get i=some o) (s:St):C P f args s (fun v s'=>v=Bg (·+s.next) u∧s'=Aj s (l.map (Bw (·+s.next)))):=by
 intro γ vals w m hA hs
 have hA':=GD (γ:=γ) (γ2:=⟨fun _=>none,γ.fz⟩) (fun _ _ e=>e) args ha hA
 refine CallsIn.mono (h ⟨fun _=>none,γ.fz⟩ vals w m hA' (P3 hs.fzc)) ?_
 rintro e w' ⟨v,s',⟨rfl,rfl⟩,v',γ',rfl,hst,hsim,hv⟩
 refine ⟨_,_,⟨rfl,rfl⟩,v',⟨fun r=>if r<s.next then γ r else γ' (r-s.next),γ'.fz⟩,rfl,?_,?_,?_⟩
 rotate_right
 ·refine J6 (γ:=γ') (γ2:=⟨fun r=>if r<s.next then γ r else γ' (r-s.next),γ'.fz⟩) (fun _ _ e=>e) (fun r L e=>?_) v hv
  show (if r+s.next<s.next then γ (r+s.next) else γ' (r+s.next-s.next))=some L
  rw [Zpr (by omega),Nat.add_sub_cancel];exact e
 all_goals
  have g1:∀ r,r<s.next->(⟨fun r=>if r<s.next then γ r else γ' (r-s.next),γ'.fz⟩:Gam) r=γ r:=fun r hr=>Zpn hr
  have g2:∀ r,¬ r<s.next->(⟨fun r=>if r<s.next then γ r else γ' (r-s.next),γ'.fz⟩:Gam) r=γ' (r-s.next):=fun r hr=>Zpr hr
  have glt:∀ r L,γ r=some L->r<s.next:=fun r L e=>Nat.lt_of_not_le fun hle=>by rw [hs.nx r hle] at e;cases e
  have hnew:∀ r L,γ' r=some L->w.heap.size≤L.b:=fun r L e=>by
   rcases (hst.new r L e rfl).2 with h|⟨_,_,h,_⟩
   ·exact h
   ·cases h
  have hblk:∀ b,b<w.heap.size->w'.heap[b]?=w.heap[b]?:=fun b hb=>hst.blk b hb (fun r L e=>by cases e)
  have hle:Le γ ⟨fun r=>if r<s.next then γ r else γ' (r-s.next),γ'.fz⟩:=⟨fun r L e=>(g1 r (glt r L e)).trans e,fun b c e=>hst.le.fz b c e⟩
 ·refine ⟨hle,?_,by rw [Ha];omega,hst.size,hst.os,hst.tape,hst.output,fun b hb _=>hblk b hb,fun r _ hr=>Jq _ _ hr,fun b c e e0=>hst.fzn b c e e0⟩
  intro r L e e0
  by_cases hr:r<s.next
  ·rw [g1 r hr,e0] at e;cases e
  ·rw [g2 r hr] at e;exact ⟨by omega,.inl (hnew _ L e)⟩
 ·have hnone:∀ r,s.next≤r->s.get r=none:=fun r hr=>by
   cases hg:s.get r with
   | none=>rfl
   | some o=>exact absurd (hs.dom r o hg) (by omega)
  have back:∀ r o,(Aj s (l.map (Bw (·+s.next)))).get r=some o->(r<s.next∧s.get r=some o)∨(s.next≤r∧∃ o',l[r-s.next]?=some o'∧o=Bw (·+s.next) o'):=by
   intro r o hg
   by_cases hr:r<s.next
   ·rw [Jq _ _ hr] at hg;exact .inl ⟨hr,hg⟩
   ·have:=Kt _ s (by omega) hnone hg
    rw [Zqi] at this
    cases hl':l[r-s.next]? with
    | none=>rw [hl'] at this;cases this
    | some o'=>rw [hl'] at this;exact .inr ⟨by omega,o',rfl,(Zqr this).symm⟩
  refine ⟨?_,?_,?_,?_,?_,hsim.fzc,?_⟩
  ·intro r o L ho hL
   rcases back r o ho with ⟨hr,hg⟩|⟨hr,o',hg,rfl⟩
   ·rw [g1 r hr] at hL
    exact ((hs.obj r o L hg hL).mono hle).heap (hblk _ (hs.lt r L hL))
   ·rw [g2 r (by omega)] at hL
    refine Wk (γ:=γ') (γ2:=⟨fun r=>if r<s.next then γ r else γ' (r-s.next),γ'.fz⟩) (fun _ _ e=>e) (fun q M e=>?_) (hl o' (Zp5 hg)) (hsim.obj _ _ L (hall _ _ hg) hL)
    show (if q+s.next<s.next then γ (q+s.next) else γ' (q+s.next-s.next))=some M
    rw [Zpr (by omega),Nat.add_sub_cancel];exact e
  ·intro r r' o o' L L' ho ho' ha1 ha2 hL hL' hne
   rcases back r o ho with ⟨hr,hg⟩|⟨hr,p,hg,rfl⟩ <;> rcases back r' o' ho' with ⟨hr',hg'⟩|⟨hr',p',hg',rfl⟩
   ·rw [g1 r hr] at hL;rw [g1 r' hr'] at hL'
    exact hs.inj r r' o o' L L' hg hg' ha1 ha2 hL hL' hne
   ·rw [g1 r hr] at hL;rw [g2 r' (by omega)] at hL'
    have:=hs.lt r L hL;have:=hnew _ L' hL';omega
   ·rw [g2 r (by omega)] at hL;rw [g1 r' hr'] at hL'
    have:=hs.lt r' L' hL';have:=hnew _ L hL;omega
   ·rw [g2 r (by omega)] at hL;rw [g2 r' (by omega)] at hL'
    rw [Fx] at ha1 ha2
    exact hsim.inj _ _ p p' L L' (hall _ _ hg) (hall _ _ hg') ha1 ha2 hL hL' (by omega)
  ·intro r L hL
   by_cases hr:r<s.next
   ·rw [g1 r hr] at hL;have:=hs.lt r L hL;have:=hst.size;omega
   ·rw [g2 r hr] at hL;exact hsim.lt _ L hL
  ·intro r hr
   rw [Ha,Zpq] at hr
   rw [g2 r (by omega)]
   refine hsim.nx _ ?_
   rw [Ha]
   show 0+l.length≤_
   omega
  ·intro r o ho
   rw [Ha,Zpq]
   rcases back r o ho with ⟨hr,hg⟩|⟨hr,p,hg,rfl⟩
   ·omega
   ·have:=(Zpk.1 hg).1;omega
  ·intro r o L ho ha1 hL
   rcases back r o ho with ⟨hr,hg⟩|⟨hr,p,hg,rfl⟩
   ·rw [g1 r hr] at hL
    have h0:=hs.fzr r o L hg ha1 hL
    show γ'.fz L.b=none
    cases hc:γ'.fz L.b with
    | none=>rfl
    | some c=>exact absurd (hst.fzn L.b c hc h0) (by have:=hs.lt r L hL;omega)
   ·rw [g2 r (by omega)] at hL
    rw [Fx] at ha1
    exact hsim.fzr _ p L (hall _ _ hg) ha1 hL
end
end Go.AM
namespace Go.AM
section
variable {P:Program}
inductive Frz (s:St):AV->AV->Prop
 | plain (v:AV):hf v=true->Frz s v v
 | sl (r o n:Nat) (cap cap':Option Nat) (e:Nat) (cs l us:List AV):s.get r=some (.row e cs)->(∀ (i:Nat) x,l[i]?=some x->cs[o+i]?=some x)->All2 (Frz s) l us->(cap'=none∨cap'=cap)->Frz s (.sl r o n cap) (.fz n cap' us)
 | ptr (r o:Nat) (e:Nat) (cs l us:List AV):s.get r=some (.row e cs)->(∀ (i:Nat) x,l[i]?=some x->cs[o+i]?=some x)->All2 (Frz s) l us->Frz s (.ptr r o) (.fp us)
 | agg (l us:List AV):All2 (Frz s) l us->Frz s (.agg l) (.agg us)
 | tup (l us:List AV):All2 (Frz s) l us->Frz s (.tup l) (.tup us)
 | fn (f:Nat) (xs ys us ws:List AV):All2 (Frz s) xs us->All2 (Frz s) ys ws->Frz s (.fn f xs ys) (.fn f us ws)
mutual
variable {s:St}
theorem Frz.hf:∀ {v u:AV},Frz s v u->hf u=true
 | _,_,.plain v h=>h
 | _,_,.sl ..=>rfl
 | _,_,.ptr ..=>rfl
 | _,_,.agg l us h=>Frz.hfs h
 | _,_,.tup l us h=>Frz.hfs h
 | _,_,.fn f xs ys us ws h1 h2=>by
  simp only [AM.hf,Zpl]
  exact ⟨Frz.hfs h1,Frz.hfs h2⟩
theorem Frz.hfs:∀ {l us:List AV},All2 (Frz s) l us->hfs us=true
 | _,_,.nil=>rfl
 | _,_,.cons a b=>by
  simp only [AM.hfs,Zpl]
  exact ⟨Frz.hf a,Frz.hfs b⟩
end
variable {γ γ2:Gam}{s:St}{w:World}
mutual
theorem Frz.VR (hs:Sim P γ s w) (hz:∀ b c,γ.fz b=some c->γ2.fz b=some c) (hr:∀ r e cs L c,s.get r=some (.row e cs)->γ r=some L->w.heap[L.b]?=some (.cells c e (0,0))->γ2.fz L.b=some c):
 ∀ {v u:AV}{v':Value},Frz s v u->VR γ v v'->VR γ2 u v'
 | _,_,_,.plain v h,hv=>HE hz v h hv
 | _,_,_,.sl r o n cap cap' e cs l us h1 h2 h3 h4,hv=>by
  obtain ⟨L,cc,hL,hval,hck⟩:=Gv hv
  obtain ⟨c,e1,e2,e3,e4,e5,e6⟩:=hs.row h1 hL
  have hnc:n≤cc:=by
   cases hv with
   | sl _ _ _ c' L' e a=>injection hval with _ _ q;omega
   | slu _ _ _ c' L' e a b d=>injection hval with _ _ q;omega
  rw [hval,e2,Zpy]
  have hz2:=hr r e cs L c h1 hL e1
  -- the values
  have hx:∀ (l us:List AV) (k:Nat),(∀ (i:Nat) x,l[i]?=some x->cs[k+i]?=some x)->All2 (Frz s) l us->∃ vs:List Value,(∀ (j:Nat) (u:Value),vs[j]?=some u->c[k+j]?=some u)∧(∀ u ∈ vs,u.oneCell'=true)∧All2 (AM.VR γ) l vs:=by
   intro l
   induction l with
   | nil=>intro us k _ _;exact ⟨[],by simp,by simp,.nil⟩
   | cons x l ih=>
    intro us k hl h
    cases h with
    | cons ha hb=>
     obtain ⟨vs,q1,q2,q3⟩:=ih _ (k+1) (fun i y hy=>by rw [Zrg,Nat.add_comm 1 i];exact hl (i+1) y (by simpa using hy)) hb
     obtain ⟨v',p1,p2,p3⟩:=e6 k x (by simpa using hl 0 x (by simp))
     refine ⟨v'::vs,?_,?_,.cons p2 q3⟩
     ·intro j u hj
      cases j with
      | zero=>simp at hj;subst hj;simpa using p1
      | succ j=>rw [show k+(j+1)=k+1+j by omega];exact q1 j u (by simpa using hj)
     ·intro u hu
      rcases Zqt.1 hu with rfl|hu
      ·exact p3
      ·exact q2 u hu
  obtain ⟨vs,q1,q2,q3⟩:=hx l us o h2 h3
  refine .fz n cap' us vs L.b o cc c hz2 q1 q2 (I4 hs hz hr h3 q3) hnc ?_ (Frz.hfs h3)
  intro k hk
  rcases h4 with h4|h4
  ·rw [h4] at hk;cases hk
  ·rw [h4] at hk;exact hck k hk
 | _,_,_,.ptr r o e cs l us h1 h2 h3,hv=>by
  cases hv with
  | ptr _ _ L hL=>
   obtain ⟨c,e1,e2,e3,e4,e5,e6⟩:=hs.row h1 hL
   rw [e2,Zpy]
   have hz2:=hr r e cs L c h1 hL e1
   -- the values
   have hx:∀ (l us:List AV) (k:Nat),(∀ (i:Nat) x,l[i]?=some x->cs[k+i]?=some x)->All2 (Frz s) l us->∃ vs:List Value,(∀ (j:Nat) (u:Value),vs[j]?=some u->c[k+j]?=some u)∧(∀ u ∈ vs,u.oneCell'=true)∧All2 (AM.VR γ) l vs:=by
    intro l
    induction l with
    | nil=>intro us k _ _;exact ⟨[],by simp,by simp,.nil⟩
    | cons x l ih=>
     intro us k hl h
     cases h with
     | cons ha hb=>
      obtain ⟨vs,q1,q2,q3⟩:=ih _ (k+1) (fun i y hy=>by rw [Zrg,Nat.add_comm 1 i];exact hl (i+1) y (by simpa using hy)) hb
      obtain ⟨v',p1,p2,p3⟩:=e6 k x (by simpa using hl 0 x (by simp))
      refine ⟨v'::vs,?_,?_,.cons p2 q3⟩
      ·intro j u hj
       cases j with
       | zero=>simp at hj;subst hj;simpa using p1
       | succ j=>rw [show k+(j+1)=k+1+j by omega];exact q1 j u (by simpa using hj)
      ·intro u hu
       rcases Zqt.1 hu with rfl|hu
       ·exact p3
       ·exact q2 u hu
   obtain ⟨vs,q1,q2,q3⟩:=hx l us o h2 h3
   exact .fp us vs L.b o c hz2 q1 q2 (I4 hs hz hr h3 q3) (Frz.hfs h3)
 | _,_,_,.agg l us h,hv=>by
  cases hv with
  | agg _ a e o=>exact .agg us a (I4 hs hz hr h e) o
 | _,_,_,.tup l us h,hv=>by
  cases hv with
  | tup _ a e=>exact .tup us a (I4 hs hz hr h e)
 | _,_,_,.fn f xs ys us ws h1 h2,hv=>by
  cases hv with
  | fn _ _ _ as bs a b=>exact .fn f us ws as bs (I4 hs hz hr h1 a) (I4 hs hz hr h2 b)
theorem I4 (hs:Sim P γ s w) (hz:∀ b c,γ.fz b=some c->γ2.fz b=some c) (hr:∀ r e cs L c,s.get r=some (.row e cs)->γ r=some L->w.heap[L.b]?=some (.cells c e (0,0))->γ2.fz L.b=some c):
 ∀ {l us:List AV}{m:List Value},All2 (Frz s) l us->All2 (AM.VR γ) l m->All2 (AM.VR γ2) us m
 | _,_,_,.nil,hv=>by cases hv;exact .nil
 | _,_,_,.cons a b,hv=>by
  cases hv with
  | cons p q=>exact .cons (Frz.VR hs hz hr a p) (I4 hs hz hr b q)
end
variable {f:Nat}{args:List AV}{u:AV}
theorem Ju (ha:hfs args=true) (h:C P f args St0 (fun v s'=>Frz s' v u)):C P f args St0 (fun v s'=>v=u∧s'=Aj St0 []):=by
 intro γ vals w m hA hs
 have hA':=GD (γ:=γ) (γ2:=⟨fun _=>none,γ.fz⟩) (fun _ _ e=>e) args ha hA
 refine CallsIn.mono (h ⟨fun _=>none,γ.fz⟩ vals w m hA' (P3 hs.fzc)) ?_
 rintro e w' ⟨v,s',hF,v',γ',rfl,hst,hsim,hv⟩
 let γ2:Gam:=⟨γ,fun b=>match γ'.fz b with
  | some c=>some c
  | none=>if w.heap.size≤b then (match w'.heap[b]? with|some (.cells c _ _)=>some c|_=>none) else none⟩
 have hz:∀ b c,γ'.fz b=some c->γ2.fz b=some c:=fun b c e=>by
  show (match γ'.fz b with|some c=>some c|none=>_)=some c
  rw [e]
 have hnew:∀ r L,γ' r=some L->w.heap.size≤L.b:=fun r L e=>by
  rcases (hst.new r L e rfl).2 with h|⟨_,_,h,_⟩
  ·exact h
  ·cases h
 have hfz2:∀ b c,γ2.fz b=some c->γ'.fz b=some c∨(γ'.fz b=none∧w.heap.size≤b∧∃ e fr,w'.heap[b]?=some (.cells c e fr)):=by
  intro b c e
  have e:(match γ'.fz b with
   | some c=>some c
   | none=>if w.heap.size≤b then (match w'.heap[b]? with|some (.cells c _ _)=>some c|_=>none) else none)=some c:=e
  cases h1:γ'.fz b with
  | some c'=>rw [h1] at e;exact .inl e
  | none=>
   rw [h1] at e
   simp only at e
   split at e
   ·rename_i hle
    split at e
    ·rename_i c' t fr hc;cases e;exact .inr ⟨rfl,hle,t,fr,hc⟩
    ·cases e
   ·cases e
 refine ⟨u,St0,⟨rfl,rfl⟩,v',γ2,rfl,?_,?_,?_⟩
 ·refine ⟨⟨fun r L e=>e,fun b c e=>hz b c (hst.le.fz b c e)⟩,fun r L e e0=>?_,Zp4 _,hst.size,hst.os,hst.tape,hst.output,fun b hb _=>hst.blk b hb (fun r L e=>by cases e),fun _ _ _=>rfl,fun b c e e0=>?_⟩
  ·have e':γ r=some L:=e
   rw [e0] at e';cases e'
  ·rcases hfz2 b c e with h|⟨_,h,_⟩
   ·exact hst.fzn b c h e0
   ·exact h
 ·refine ⟨fun r o L h=>(by cases h),fun r r' o o' L L' h=>(by cases h),fun r L e=>?_,fun r hr=>hs.nx r hr,fun r o h=>(by cases h),fun b c e=>?_,fun r o L h=>(by cases h)⟩
  ·exact Zrc (hs.lt r L e) hst.size
  ·rcases hfz2 b c e with h|⟨_,_,h⟩
   ·exact hsim.fzc b c h
   ·exact h
 ·refine Frz.VR hsim hz ?_ hF hv
  intro r e cs L c h1 hL hc
  show (match γ'.fz L.b with
   | some c=>some c
   | none=>if w.heap.size≤L.b then (match w'.heap[L.b]? with|some (.cells c _ _)=>some c|_=>none) else none)=some c
  cases h2:γ'.fz L.b with
  | some c'=>
   obtain ⟨e',fr',hc'⟩:=hsim.fzc L.b c' h2
   rw [hc] at hc';cases hc';rfl
  | none=>simp only;rw [Zpn (hnew r L hL),hc]
theorem MI (ha:hfs args=true) (hu:hf u=true) (h:C P f args St0 (fun v s'=>Frz s' v u)) (s:St):C P f args s (fun v s'=>v=u∧s'=s):=by
 refine (C.frame (l:=[]) ha (by simp) (.inr rfl) (Ju ha h) (fun i o h=>by simp at h) s).mono ?_
 rintro v s' ⟨rfl,rfl⟩
 exact ⟨CZ u hu,rfl⟩
def OvOk (P:Program) (f:Nat) (h:Ov):Prop:=Ga P f∧∀ args s v s',h args s=.ok v s'->C P f args s (fun v' s''=>v'=v∧s''=s')
theorem Zg4 {h : Ov} (hO : OvOk P f h) : (∃ fn c, P.funcs[f]? = some fn ∧ fn.body = some c ∧ (fn.name == "runtime.NumGoroutine") = false) ∧
 ∀ γ args vals s w v s',All2 (VR γ) args vals->Sim P γ s w->h args s=.ok v s'->∀ m,CallsIn Fence.wide m P f vals.toArray w (EF P γ s w v s'):=by
 refine ⟨hO.1,fun γ args vals s w v s' hA hs he m=>?_⟩
 refine CallsIn.mono (hO.2 args s v s' he γ vals w m hA hs) ?_
 rintro e w' ⟨v1,s1,⟨rfl,rfl⟩,hp⟩
 exact hp
end
end Go.AM
namespace Go.AM
def wV (x:OV) (k:AV->Prop):Prop:=OV.rec False k x
def wO {α:Type}(x:Option α) (k:α->Prop):Prop:=Option.rec False k x
def wB (b:Bool) (y z:Prop):Prop:=Bool.rec z y b
def wC (v:AV) (y z:Prop):Prop:=BR.rec False y z (asBool v)
def wP (v:AV) (k:Nat->Nat->Prop) (kf:List AV->Prop):Prop:=PR.rec False k kf (Bs v)
def EPrim (p:AOp) (t:AT) (s:St) (k:AV->St->Prop):Prop:=∀ e rec,∃ v s',AQ p e rec t s=.ok v s'∧k v s'
def EHead (l:List AV) (k:AV->Prop):Prop:=∃ v,FI l 0=some v∧k v
def ETake (n:Nat) (l:List AV) (k:List AV->Prop):Prop:=∃ cs,Bo n l=some cs∧k cs
def ECall (e:Env) (f:Nat) (vs:List AV) (s:St) (k:AV->St->Prop):Prop:=∃ n v s',Cu e (exec e n) f vs s=.ok v s'∧k v s'
def ERound (e:Env) (l:Nat) (vs:List AV) (s:St) (k:AV->St->Prop):Prop:=∃ n v s',I8 (exec e n) l vs s=.ok v s'∧k v s'
def EExec (e:Env) (c:AC) (t:AT) (s:St) (rd:Option Nat) (ds:List Nat) (Q:Ex->AT->St->List Nat->Prop):Prop:=∃ n x t' s' ds',exec e n c t s rd ds=.ok x t' s' ds'∧Q x t' s' ds'
def ESc (e:Env) (f:Nat) (vs:List AV) (s:St) (k:AV->St->Prop):Prop:=Option.rec (ECall e f vs s k) (fun h=>RV.rec False k (h vs s)) (e.X.get f)
def Yf (e:Env) (f:AV) (vs:List AV) (s:St) (k:AV->St->Prop):Prop:=
 FR.rec False (fun f xs ys=>ECall e f (Be xs (Be vs ys)) s k) (fun l=>ERound e l vs s k) (EY f)
def LH (e:Env) (p:AOp) (t:AT) (s:St) (k:AV->St->Prop):Prop:=match p with
 | .mv x=>wV (ev x t) fun v=>k v s
 | .pick c a b=>wV (ev c t) fun c=>wC c (wV (ev a t) fun v=>k v s) (wV (ev b t) fun v=>k v s)
 | .new el _ z=>k (.ptr s.next 0) (s.alloc (.row el z))
 | .box el n x=>wV (ev x t) fun v=>wB (Nat.beq (A7 (cellsOf v)) n) (k (.ptr s.next 0) (s.alloc (.row el (cellsOf v)))) False
 | .build z ps=>wO (fill t ps z) fun cs=>k (.agg cs) s
 | .bsl el _ n z ps=>wO (fill t ps z) fun cs=>k (.sl s.next 0 n (some n)) (s.alloc (.row el cs))
 | .ld1 x=>wV (ev x t) fun v=>wP v (fun r o=>wO (load1 r o s) fun u=>k u s) (fun l=>EHead l fun u=>k u s)
 | .ldn n x=>wV (ev x t) fun v=>wP v (fun r o=>wO (load r o n s) fun cs=>k (.agg cs) s) (fun l=>ETake n l fun cs=>k (.agg cs) s)
 | .st n a x=>wV (ev a t) fun p=>wV (ev x t) fun v=>wP p (fun r o=>wB (Nat.beq (A7 (cellsOf v)) n) (wO (storeAt r o (cellsOf v) s) fun s'=>k (.tup []) s') False) (fun _=>False)
 | .nilck x=>wV (ev x t) fun v=>wB (M9 v) False (k v s)
 | .mkfn f a b=>wO (Cr t a) fun x=>wO (Cr t b) fun y=>k (.fn f x y) s
 | .fa off x=>wV (ev x t) fun v=>wP v (fun r o=>k (.ptr r (Nat.add o off)) s) (fun l=>k (.fp (D0 off l)) s)
 | .fld1 off x=>wV (ev x t) fun v=>LR.rec False (fun l=>wO (FI l off) fun u=>k u s) (asAgg v)
 | .fldn off n x=>wV (ev x t) fun v=>LR.rec False (fun l=>wO (Bo n (D0 off l)) fun cs=>k (.agg cs) s) (asAgg v)
 | .ext x i=>wV (ev x t) fun v=>LR.rec False (fun l=>wO (FI l i) fun u=>k u s) (IM v)
 | .alen n=>k (C4 n) s
 | .mkmap=>k (.map s.next) (s.alloc (.map [] 0))
 | .call f args=>wV (ev f t) fun fv=>wO (Cr t args) fun vs=>Yf e fv vs s k
 | .scall f args=>wO (Cr t args) fun vs=>ESc e f vs s k
 | p=>EPrim p t s k
def N3 (g:Option (Nat×Bool)) (t:AT) (y z:Prop):Prop:=
 Option.rec y (fun p=>wO (t.get p.1) fun v=>BR.rec (wB (B4 v) False z) (wB p.2 y z) (wB p.2 z y) (asBool v)) g
def HQ (e:Env) (l:List AOper):AT->St->(AT->St->Prop)->Prop:=
 List.rec (motive:=fun _=>AT->St->(AT->St->Prop)->Prop) (fun t s K=>K t s)
  (fun o _ ih t s K=>AOper.rec (fun d p g=>N3 g t (LH e p t s fun v s'=>ih (BQ d v t) s' K) (ih (BQ d (.tup []) t) s K))
    (fun d p g=>N3 g t (LH e p t s fun v _=>wO (t.get d) fun v0=>v=v0∧ih t s K) (ih t s K)) o) l
abbrev EQ:=Ex->AT->St->List Nat->Prop
def Jg (K:AT->St->List Nat->Prop) (Q:EQ):EQ:=fun x t s ds=>Ex.rec (K t s ds) (fun id=>Q (.exit id) t s ds) (Q .ret t s ds) x
def Blk (id:Nat) (Q:EQ):EQ:=fun x t s ds=>Ex.rec (Q .normal t s ds) (fun id'=>wB (Nat.beq id id') (Q .normal t s ds) (Q (.exit id') t s ds)) (Q .ret t s ds) x
abbrev EC:=AT->St->Option Nat->List Nat->EQ->Prop
def VE (e:Env) (c:AC):EC:=AC.rec (motive:=fun _=>EC) (fun t s _ ds Q=>Q .normal t s ds) (fun ops t s _ ds Q=>HQ e ops t s fun t' s'=>Q .normal t' s' ds)
 (fun _ _ ia ib t s rd ds Q=>ia t s rd ds (Jg (fun t s ds=>ib t s rd ds Q) Q))
 (fun x _ _ ia ib t s rd ds Q=>wV (ev x t) fun v=>wC v (ia t s rd ds Q) (ib t s rd ds Q))
 (fun id _ ia t s rd ds Q=>ia t s rd ds (Blk id Q))
 (fun a _ t s rd ds Q=>EExec e (.loop a) t s rd ds Q) (fun g ps a b _ _ t s rd ds Q=>EExec e (.rng g ps a b) t s rd ds Q)
 (fun id t s _ ds Q=>Q (.exit id) t s ds) (fun t s _ ds Q=>Q .ret t s ds) (fun _ ia t s rd ds Q=>ia t s rd ds Q) (fun t s _ ds Q=>Q .normal t s ds) c
def VW (P:Program) (e:Env) (k:Nat) (c:AC):EC:=AC.rec (motive:=fun _=>EC) (fun t s _ ds Q=>Q .normal t s ds) (fun ops t s _ ds Q=>HQ e ops t s fun t' s'=>Q .normal t' s' ds)
 (fun _ _ ia ib t s rd ds Q=>ia t s rd ds (Jg (fun t s ds=>ib t s rd ds Q) Q))
 (fun x _ _ ia ib t s rd ds Q=>wV (ev x t) fun v=>wC v (ia t s rd ds Q) (ib t s rd ds Q))
 (fun id _ ia t s rd ds Q=>ia t s rd ds (Blk id Q))
 (fun a _ t s rd ds Q=>W P k rd (.loop a) t s ds Q) (fun g ps a b _ _ t s rd ds Q=>W P k rd (.rng g ps a b) t s ds Q)
 (fun id t s _ ds Q=>Q (.exit id) t s ds) (fun t s _ ds Q=>Q .ret t s ds) (fun _ ia t s rd ds Q=>ia t s rd ds Q) (fun t s _ ds Q=>Q .normal t s ds) c
def Cq (res:List ARes) (k:AV->St->Prop):EQ:=fun x t s ds=>
 Ex.rec (wO (FG ds s) fun s2=>wO (Ds t s2 res) fun l=>k (one l) s2) (fun _=>False) (wO (FG ds s) fun s2=>wO (Ds t s2 res) fun l=>k (one l) s2) x
section
variable {P:Program}{e:Env}
theorem Ec {x:OV}{k:AV->Prop}(h:wV x k):∃ v,x=.some v∧k v:=by cases x with|none=>exact h.elim|some v=>exact ⟨v,rfl,h⟩
theorem DC {α:Type}{x:Option α}{k:α->Prop}(h:wO x k):∃ v,x=some v∧k v:=by cases x with|none=>exact h.elim|some v=>exact ⟨v,rfl,h⟩
variable {v:AV}{y z:Prop}
theorem SN (h:wC v y z):(asBool v=.tt∧y)∨(asBool v=.ff∧z):=by
 unfold wC at h
 cases hb:asBool v with
 | no=>rw [hb] at h;exact h.elim
 | tt=>rw [hb] at h;exact .inl ⟨rfl,h⟩
 | ff=>rw [hb] at h;exact .inr ⟨rfl,h⟩
theorem Pn {k:Nat->Nat->Prop}{kf:List AV->Prop}(h:wP v k kf):(∃ r o,Bs v=.ptr r o∧k r o)∨∃ l,Bs v=.fp l∧kf l:=by
 unfold wP at h
 cases hb:Bs v with
 | no=>rw [hb] at h;exact h.elim
 | ptr r o=>rw [hb] at h;exact .inl ⟨r,o,rfl,h⟩
 | fp l=>rw [hb] at h;exact .inr ⟨l,rfl,h⟩
theorem SW {x:LR}{k:List AV->Prop}(h:(LR.rec False k x:Prop)):∃ l,x=.l l∧k l:=by cases x with|no=>exact h.elim|l l=>exact ⟨l,rfl,h⟩
variable {p:AOp}{t:AT}{s:St}{k:AV->St->Prop}
theorem VD (h:LH e p t s k):∃ n v s',AQ p e (exec e n) t s=.ok v s'∧k v s':=by
 unfold LH at h
 split at h
 ·obtain ⟨v,h1,hk⟩:=Ec h
  exact ⟨0,v,s,by show wth _ t _=_;unfold wth;rw [h1],hk⟩
 ·obtain ⟨c,h1,hk⟩:=Ec h
  rcases SN hk with ⟨hb,hk⟩|⟨hb,hk⟩
  ·obtain ⟨v,h2,hk⟩:=Ec hk
   refine ⟨0,v,s,?_,hk⟩
   show wth _ t _=_;unfold wth;rw [h1]
   show (BR.rec .fail _ _ (asBool c):RV)=_;rw [hb]
   show ret _ s=_;rw [h2];rfl
  ·obtain ⟨v,h2,hk⟩:=Ec hk
   refine ⟨0,v,s,?_,hk⟩
   show wth _ t _=_;unfold wth;rw [h1]
   show (BR.rec .fail _ _ (asBool c):RV)=_;rw [hb]
   show ret _ s=_;rw [h2];rfl
 ·exact ⟨0,_,_,rfl,h⟩
 ·rename_i el n x
  obtain ⟨v,h1,hk⟩:=Ec h
  cases hb:Nat.beq (A7 (cellsOf v)) n with
  | false=>rw [hb] at hk;exact hk.elim
  | true=>
   rw [hb] at hk
   refine ⟨0,_,_,?_,hk⟩
   show wth _ t _=_;unfold wth;rw [h1]
   show gd (Nat.beq (A7 (cellsOf v)) n) _=_;rw [hb];rfl
 ·obtain ⟨cs,h1,hk⟩:=DC h
  refine ⟨0,_,_,?_,hk⟩
  show (Option.rec .fail _ (fill t _ _):RV)=_;rw [h1]
 ·obtain ⟨cs,h1,hk⟩:=DC h
  refine ⟨0,_,_,?_,hk⟩
  show (Option.rec .fail _ (fill t _ _):RV)=_;rw [h1];rfl
 ·obtain ⟨v,h1,hk⟩:=Ec h
  rcases Pn hk with ⟨r,o,hb,hk⟩|⟨l,hb,hk⟩
  ·obtain ⟨u,h2,hk⟩:=DC hk
   refine ⟨0,u,s,?_,hk⟩
   show wth _ t _=_;unfold wth;rw [h1]
   show (PR.rec .fail _ _ (Bs v):RV)=_;rw [hb]
   show retO _ s=_;rw [h2];rfl
  ·obtain ⟨u,h2,hk⟩:=hk
   refine ⟨0,u,s,?_,hk⟩
   show wth _ t _=_;unfold wth;rw [h1]
   show (PR.rec .fail _ _ (Bs v):RV)=_;rw [hb]
   show retO _ s=_;rw [h2];rfl
 ·obtain ⟨v,h1,hk⟩:=Ec h
  rcases Pn hk with ⟨r,o,hb,hk⟩|⟨l,hb,hk⟩
  ·obtain ⟨u,h2,hk⟩:=DC hk
   refine ⟨0,.agg u,s,?_,hk⟩
   show wth _ t _=_;unfold wth;rw [h1]
   show (PR.rec .fail _ _ (Bs v):RV)=_;rw [hb]
   show (Option.rec .fail _ (load r o _ s):RV)=_;rw [h2]
  ·obtain ⟨u,h2,hk⟩:=hk
   refine ⟨0,.agg u,s,?_,hk⟩
   show wth _ t _=_;unfold wth;rw [h1]
   show (PR.rec .fail _ _ (Bs v):RV)=_;rw [hb]
   show (Option.rec .fail _ (Bo _ l):RV)=_;rw [h2]
 ·rename_i n a x
  obtain ⟨p,h1,hk⟩:=Ec h
  obtain ⟨v,h2,hk⟩:=Ec hk
  rcases Pn hk with ⟨r,o,hb,hk⟩|⟨l,hb,hk⟩
  ·cases hc:Nat.beq (A7 (cellsOf v)) n with
   | false=>rw [hc] at hk;exact hk.elim
   | true=>
    rw [hc] at hk
    obtain ⟨s',h3,hk⟩:=DC hk
    refine ⟨0,_,s',?_,hk⟩
    show wth _ t _=_;unfold wth;rw [h1]
    show wth _ t _=_;unfold wth;rw [h2]
    show (PR.rec .fail _ _ (Bs p):RV)=_;rw [hb]
    show gd (Nat.beq (A7 (cellsOf v)) n) _=_;rw [hc]
    show Gm _ (storeAt r o (cellsOf v) s)=_;rw [h3];rfl
  ·exact hk.elim
 ·obtain ⟨v,h1,hk⟩:=Ec h
  cases hb:M9 v with
  | true=>rw [hb] at hk;exact hk.elim
  | false=>
   rw [hb] at hk
   refine ⟨0,v,s,?_,hk⟩
   show wth _ t _=_;unfold wth;rw [h1]
   show (Bool.rec _ _ (M9 v):RV)=_;rw [hb]
 ·obtain ⟨x,h1,hk⟩:=DC h
  obtain ⟨y,h2,hk⟩:=DC hk
  refine ⟨0,_,s,?_,hk⟩
  show (Option.rec .fail _ (Cr t _):RV)=_;rw [h1]
  show (Option.rec .fail _ (Cr t _):RV)=_;rw [h2]
 ·obtain ⟨v,h1,hk⟩:=Ec h
  rcases Pn hk with ⟨r,o,hb,hk⟩|⟨l,hb,hk⟩
  ·refine ⟨0,_,s,?_,hk⟩
   show wth _ t _=_;unfold wth;rw [h1]
   show (PR.rec .fail _ _ (Bs v):RV)=_;rw [hb]
  ·refine ⟨0,_,s,?_,hk⟩
   show wth _ t _=_;unfold wth;rw [h1]
   show (PR.rec .fail _ _ (Bs v):RV)=_;rw [hb]
 ·obtain ⟨v,h1,hk⟩:=Ec h
  obtain ⟨l,hb,hk⟩:=SW hk
  obtain ⟨u,h2,hk⟩:=DC hk
  refine ⟨0,u,s,?_,hk⟩
  show wth _ t _=_;unfold wth;rw [h1]
  show (LR.rec .fail _ (asAgg v):RV)=_;rw [hb]
  show retO _ s=_;rw [h2];rfl
 ·obtain ⟨v,h1,hk⟩:=Ec h
  obtain ⟨l,hb,hk⟩:=SW hk
  obtain ⟨u,h2,hk⟩:=DC hk
  refine ⟨0,_,s,?_,hk⟩
  show wth _ t _=_;unfold wth;rw [h1]
  show (LR.rec .fail _ (asAgg v):RV)=_;rw [hb]
  show (Option.rec .fail _ (Bo _ _):RV)=_;rw [h2]
 ·obtain ⟨v,h1,hk⟩:=Ec h
  obtain ⟨l,hb,hk⟩:=SW hk
  obtain ⟨u,h2,hk⟩:=DC hk
  refine ⟨0,u,s,?_,hk⟩
  show wth _ t _=_;unfold wth;rw [h1]
  show (LR.rec .fail _ (IM v):RV)=_;rw [hb]
  show retO _ s=_;rw [h2];rfl
 ·exact ⟨0,_,_,rfl,h⟩
 ·exact ⟨0,_,_,rfl,h⟩
 ·obtain ⟨fv,h1,hk⟩:=Ec h
  obtain ⟨vs,h2,hk⟩:=DC hk
  unfold Yf at hk
  cases hf:EY fv with
  | no=>rw [hf] at hk;exact hk.elim
  | fn f xs ys=>
   rw [hf] at hk
   obtain ⟨n,v,s',h3,hk⟩:=hk
   refine ⟨n,v,s',?_,hk⟩
   show wth _ t _=_;unfold wth;rw [h1]
   show (Option.rec .fail _ (Cr t _):RV)=_;rw [h2]
   show Ff e _ fv vs s=_;unfold Ff;rw [hf];exact h3
  | yld l=>
   rw [hf] at hk
   obtain ⟨n,v,s',h3,hk⟩:=hk
   refine ⟨n,v,s',?_,hk⟩
   show wth _ t _=_;unfold wth;rw [h1]
   show (Option.rec .fail _ (Cr t _):RV)=_;rw [h2]
   show Ff e _ fv vs s=_;unfold Ff;rw [hf];exact h3
 ·rename_i f args
  obtain ⟨vs,h2,hk⟩:=DC h
  unfold ESc at hk
  cases hx:e.X.get f with
  | none=>
   rw [hx] at hk
   obtain ⟨n,v,s',h3,hk⟩:=hk
   refine ⟨n,v,s',?_,hk⟩
   show (Option.rec .fail (fun vs=>Option.rec (Cu e (exec e n) f vs s) (fun h=>h vs s) (e.X.get f)) (Cr t args):RV)=_
   rw [h2,hx];exact h3
  | some hh=>
   rw [hx] at hk
   change (RV.rec False k (hh vs s):Prop) at hk
   cases hq:hh vs s with
   | fail=>rw [hq] at hk;exact hk.elim
   | ok v s'=>
    rw [hq] at hk
    refine ⟨0,v,s',?_,hk⟩
    show (Option.rec .fail (fun vs=>Option.rec (Cu e (exec e 0) f vs s) (fun h=>h vs s) (e.X.get f)) (Cr t args):RV)=_
    rw [h2,hx];exact hq
 ·obtain ⟨v,s',h1,hk⟩:=h e (exec e 0)
  exact ⟨0,v,s',h1,hk⟩
theorem Xs {g:Option (Nat×Bool)}(h:N3 g t y z):(AS g t=2∧y)∨(AS g t=1∧z):=by
 cases g with
 | none=>exact .inl ⟨rfl,h⟩
 | some p=>
  obtain ⟨j,b⟩:=p
  obtain ⟨v,h1,hk⟩:=DC (show wO (t.get j) (fun v=>BR.rec (wB (B4 v) False z) (wB b y z) (wB b z y) (asBool v)) from h)
  have hw:AS (some (j,b)) t=(BR.rec (Bool.rec 1 0 (B4 v)) (Bool.rec 1 2 b) (Bool.rec 2 1 b) (asBool v):Nat):=by
   show (Option.rec 0 (fun v=>BR.rec (Bool.rec 1 0 (B4 v)) (Bool.rec 1 2 b) (Bool.rec 2 1 b) (asBool v)) (t.get j):Nat)=_
   rw [h1]
  rw [hw]
  revert hk
  cases asBool v with
  | no=>
   intro hk
   cases hi:B4 v with
   | true=>rw [hi] at hk;exact hk.elim
   | false=>rw [hi] at hk;exact .inr ⟨rfl,hk⟩
  | tt=>intro hk;cases b with
   | true=>exact .inl ⟨rfl,hk⟩
   | false=>exact .inr ⟨rfl,hk⟩
  | ff=>intro hk;cases b with
   | true=>exact .inr ⟨rfl,hk⟩
   | false=>exact .inl ⟨rfl,hk⟩
theorem Va:∀ {l:List AOper}{t:AT}{s:St}{K:AT->St->Prop},HQ e l t s K->∃ n t' s',AE e (exec e n) l t s=.ok t' s'∧K t' s':=by
 intro l
 induction l with
 | nil=>intro t s K h;exact ⟨0,t,s,rfl,h⟩
 | cons o l ih=>
  intro t s K h
  cases o with
  | mk d p g=>
   rcases Xs (show N3 g t (LH e p t s fun v s'=>HQ e l (BQ d v t) s' K) (HQ e l (BQ d (.tup []) t) s K) from h) with ⟨hw,h⟩|⟨hw,h⟩
   ·obtain ⟨n,v,s1,h1,h⟩:=VD h
    obtain ⟨m,t',s',h2,hk⟩:=ih h
    refine ⟨max n m,t',s',?_,hk⟩
    show (Nat.rec .fail (fun w _=>Nat.rec (AE e (exec e (max n m)) l (BQ d (.tup []) t) s) (fun _ _=>RV.rec .fail (fun v s'=>AE e (exec e (max n m)) l (BQ d v t) s') (AQ p e (exec e (max n m)) t s)) w) (AS g t):RT)=.ok t' s'
    rw [hw,OX (G9 (Nat.le_max_left n m)) h1]
    exact RB (G9 (Nat.le_max_right n m)) h2
   ·obtain ⟨m,t',s',h2,hk⟩:=ih h
    refine ⟨m,t',s',?_,hk⟩
    show (Nat.rec .fail (fun w _=>Nat.rec (AE e (exec e m) l (BQ d (.tup []) t) s) (fun _ _=>RV.rec .fail (fun v s'=>AE e (exec e m) l (BQ d v t) s') (AQ p e (exec e m) t s)) w) (AS g t):RT)=.ok t' s'
    rw [hw];exact h2
  | chk d p g=>
   rcases Xs (show N3 g t (LH e p t s fun v _=>wO (t.get d) fun v0=>v=v0∧HQ e l t s K) (HQ e l t s K) from h) with ⟨hw,h⟩|⟨hw,h⟩
   ·obtain ⟨n,v,s1,h1,h⟩:=VD h
    obtain ⟨v0,hd,rfl,h⟩:=DC h
    obtain ⟨m,t',s',h2,hk⟩:=ih h
    refine ⟨max n m,t',s',?_,hk⟩
    show (Nat.rec .fail (fun w _=>Nat.rec (AE e (exec e (max n m)) l t s) (fun _ _=>RV.rec .fail (fun v _=>Option.rec .fail (fun v0=>Bool.rec .fail (AE e (exec e (max n m)) l t s) (BZ v v0)) (t.get d)) (AQ p e (exec e (max n m)) t s)) w) (AS g t):RT)=.ok t' s'
    rw [hw,OX (G9 (Nat.le_max_left n m)) h1]
    show (Option.rec .fail (fun v0=>Bool.rec .fail (AE e (exec e (max n m)) l t s) (BZ v v0)) (t.get d):RT)=.ok t' s'
    rw [hd]
    show (Bool.rec .fail (AE e (exec e (max n m)) l t s) (BZ v v):RT)=.ok t' s'
    rw [show BZ v v=true from Rr v]
    exact RB (G9 (Nat.le_max_right n m)) h2
   ·obtain ⟨m,t',s',h2,hk⟩:=ih h
    refine ⟨m,t',s',?_,hk⟩
    show (Nat.rec .fail (fun w _=>Nat.rec (AE e (exec e m) l t s) (fun _ _=>RV.rec .fail (fun v _=>Option.rec .fail (fun v0=>Bool.rec .fail (AE e (exec e m) l t s) (BZ v v0)) (t.get d)) (AQ p e (exec e m) t s)) w) (AS g t):RT)=.ok t' s'
    rw [hw];exact h2
theorem On:∀ {c:AC}{t:AT}{s:St}{rd:Option Nat}{ds:List Nat}{Q:EQ},VE e c t s rd ds Q->EExec e c t s rd ds Q:=by
 intro c
 induction c with
 | skip=>intro t s rd ds Q h;exact ⟨1,_,_,_,_,rfl,h⟩
 | exit id=>intro t s rd ds Q h;exact ⟨1,_,_,_,_,rfl,h⟩
 | lab=>intro t s rd ds Q h;exact ⟨1,_,_,_,_,rfl,h⟩
 | scope a ia=>
  intro t s rd ds Q h
  obtain ⟨n,x,t1,s1,ds1,h1,hk⟩:=ia h
  exact ⟨n+1,_,_,_,_,h1,hk⟩
 | ret=>intro t s rd ds Q h;exact ⟨1,_,_,_,_,rfl,h⟩
 | reg ops=>
  intro t s rd ds Q h
  obtain ⟨n,t',s',h1,hk⟩:=Va (show HQ e ops t s (fun t' s'=>Q .normal t' s' ds) from h)
  refine ⟨n+1,_,_,_,_,?_,hk⟩
  show (RT.rec .fail (fun t' s'=>.ok .normal t' s' ds) (AE e (exec e n) ops t s):R)=_
  rw [h1]
 | seq a b ia ib=>
  intro t s rd ds Q h
  obtain ⟨n,x,t1,s1,ds1,h1,hk⟩:=ia (show VE e a t s rd ds (Jg (fun t s ds=>VE e b t s rd ds Q) Q) from h)
  cases x with
  | normal=>
   obtain ⟨m,x2,t2,s2,ds2,h2,hk⟩:=ib (show VE e b t1 s1 rd ds1 Q from hk)
   refine ⟨max n m+1,_,_,_,_,?_,hk⟩
   show IP (exec e (max n m)) b rd (exec e (max n m) a t s rd ds)=_
   rw [G9 (Nat.le_max_left n m) _ _ _ _ _ _ _ _ _ h1]
   exact G9 (Nat.le_max_right n m) _ _ _ _ _ _ _ _ _ h2
  | exit id=>
   refine ⟨n+1,_,_,_,_,?_,hk⟩
   show IP (exec e n) b rd (exec e n a t s rd ds)=_
   rw [h1];rfl
  | ret=>
   refine ⟨n+1,_,_,_,_,?_,hk⟩
   show IP (exec e n) b rd (exec e n a t s rd ds)=_
   rw [h1];rfl
 | cond x a b ia ib=>
  intro t s rd ds Q h
  obtain ⟨v,hv,h⟩:=Ec (show wV (ev x t) (fun v=>wC v (VE e a t s rd ds Q) (VE e b t s rd ds Q)) from h)
  rcases SN h with ⟨hb,h⟩|⟨hb,h⟩
  ·obtain ⟨n,x1,t1,s1,ds1,h1,hk⟩:=ia h
   refine ⟨n+1,_,_,_,_,?_,hk⟩
   show (OV.rec .fail (fun v=>BR.rec .fail (exec e n a t s rd ds) (exec e n b t s rd ds) (asBool v)) (ev x t):R)=_
   rw [hv];show (BR.rec .fail (exec e n a t s rd ds) (exec e n b t s rd ds) (asBool v):R)=_;rw [hb];exact h1
  ·obtain ⟨n,x1,t1,s1,ds1,h1,hk⟩:=ib h
   refine ⟨n+1,_,_,_,_,?_,hk⟩
   show (OV.rec .fail (fun v=>BR.rec .fail (exec e n a t s rd ds) (exec e n b t s rd ds) (asBool v)) (ev x t):R)=_
   rw [hv];show (BR.rec .fail (exec e n a t s rd ds) (exec e n b t s rd ds) (asBool v):R)=_;rw [hb];exact h1
 | block id a ia=>
  intro t s rd ds Q h
  obtain ⟨n,x,t1,s1,ds1,h1,hk⟩:=ia (show VE e a t s rd ds (Blk id Q) from h)
  cases x with
  | normal=>
   refine ⟨n+1,_,_,_,_,?_,hk⟩
   show MF id (exec e n a t s rd ds)=_;rw [h1];rfl
  | ret=>
   refine ⟨n+1,_,_,_,_,?_,hk⟩
   show MF id (exec e n a t s rd ds)=_;rw [h1];rfl
  | exit id'=>
   have hk:wB (Nat.beq id id') (Q .normal t1 s1 ds1) (Q (.exit id') t1 s1 ds1):=hk
   cases hb:Nat.beq id id' with
   | true=>
    rw [hb] at hk
    refine ⟨n+1,_,_,_,_,?_,hk⟩
    show MF id (exec e n a t s rd ds)=_;rw [h1]
    show (Bool.rec _ _ (Nat.beq id id'):R)=_;rw [hb]
   | false=>
    rw [hb] at hk
    refine ⟨n+1,_,_,_,_,?_,hk⟩
    show MF id (exec e n a t s rd ds)=_;rw [h1]
    show (Bool.rec _ _ (Nat.beq id id'):R)=_;rw [hb]
 | loop a ia=>intro t s rd ds Q h;exact h
 | rng g ps a b ia ib=>intro t s rd ds Q h;exact h
theorem Mc (hE:EnvOk P e) (hm:P.follows .mixedOrders=true) {k:Nat}:∀ {c:AC}{t:AT}{s:St}{rd:Option Nat}{ds:List Nat}{Q:EQ},VW P e k c t s rd ds Q->W P k rd c t s ds Q:=by
 intro c
 induction c with
 | skip=>intro t s rd ds Q h;exact Znz h
 | exit id=>intro t s rd ds Q h;exact Zn0 h
 | lab=>intro t s rd ds Q h;exact Zpe h
 | scope a ia=>intro t s rd ds Q h;exact W.scope (ia h)
 | ret=>intro t s rd ds Q h;exact W.ret h
 | reg ops=>
  intro t s rd ds Q h
  obtain ⟨n,t',s',h1,hk⟩:=Va (show HQ e ops t s (fun t' s'=>Q .normal t' s' ds) from h)
  refine W.exec (V8 hE hm (n+1)) (t':=t') (s':=s') (ds':=ds) (x:=.normal) ?_ hk
  show (RT.rec .fail (fun t' s'=>.ok .normal t' s' ds) (AE e (exec e n) ops t s):R)=_
  rw [h1]
 | seq a b ia ib=>
  intro t s rd ds Q h
  refine W.seq ((ia (show VW P e k a t s rd ds (Jg (fun t s ds=>VW P e k b t s rd ds Q) Q) from h)).mono ?_)
  intro x t1 s1 ds1 hq
  cases x with
  | normal=>exact ib hq
  | exit id=>exact hq
  | ret=>exact hq
 | cond x a b ia ib=>
  intro t s rd ds Q h
  obtain ⟨v,hv,h⟩:=Ec (show wV (ev x t) (fun v=>wC v (VW P e k a t s rd ds Q) (VW P e k b t s rd ds Q)) from h)
  rcases SN h with ⟨hb,h⟩|⟨hb,h⟩
  ·exact Ye (b:=true) (by rw [hv,Mb hb]) (fun _=>ia h) (fun e=>by cases e)
  ·exact Ye (b:=false) (by rw [hv,Ol hb]) (fun e=>by cases e) (fun _=>ib h)
 | block id a ia=>
  intro t s rd ds Q h
  refine W.block ((ia (show VW P e k a t s rd ds (Blk id Q) from h)).mono ?_)
  intro x t1 s1 ds1 hq
  cases x with
  | normal=>exact hq
  | ret=>exact hq
  | exit id'=>
   have hq:wB (Nat.beq id id') (Q .normal t1 s1 ds1) (Q (.exit id') t1 s1 ds1):=hq
   show if id'=id then _ else _
   cases hb:Nat.beq id id' with
   | true=>rw [hb] at hq;rw [Zpn (Zpp hb).symm];exact hq
   | false=>rw [hb] at hq;rw [Zpr (fun e=>Zqo hb e.symm)];exact hq
 | loop a ia=>intro t s rd ds Q h;exact h
 | rng g ps a b ia ib=>intro t s rd ds Q h;exact h
variable {res:List ARes}{ds:List Nat}
theorem Jp {x:Ex}(h:Cq res k x t s ds):BS res k x t s ds:=by
 cases x with
 | normal=>
  obtain ⟨s2,h1,h⟩:=DC (show wO (FG ds s) (fun s2=>wO (Ds t s2 res) fun l=>k (one l) s2) from h)
  obtain ⟨l,h2,h⟩:=DC h
  exact ⟨.inl rfl,s2,l,h1,h2,h⟩
 | ret=>
  obtain ⟨s2,h1,h⟩:=DC (show wO (FG ds s) (fun s2=>wO (Ds t s2 res) fun l=>k (one l) s2) from h)
  obtain ⟨l,h2,h⟩:=DC h
  exact ⟨.inr rfl,s2,l,h1,h2,h⟩
 | exit id=>exact (show False from h).elim
def EM (P:Program) (e:Env):Prop:=EnvOk P e∧P.follows .mixedOrders=true
variable {rd:Option Nat}{Q:EQ}
theorem Ca (hE:EM P e) {k:Nat}{c:AC}(h:VW P e k c t s rd ds Q):W P k rd c t s ds Q:=Mc hE.1 hE.2 h
variable {f:Nat}{fn:Func}{code:AC}{args:List AV}
theorem C.of_V (hE:EM P e) {Q:AV->St->Prop}(hf:P.funcs[f]?=some fn) (hc:Gi P fn=some (.mk code res))
 (h:VW P e 0 code (An args 0 .lf) St0 none [] (Cq res Q)):C P f args St0 Q:=
 C.of_W hf hc ((Mc hE.1 hE.2 h).mono fun _ _ _ _ h=>Jp h)
theorem C1.of_V (hE:EM P e) {Q:AV->St->Prop}(hf:P.funcs[f]?=some fn) (hc:Gi P fn=some (.mk code res))
 (h:VW P e s.next code (An args 0 .lf) s none [] (Cq res Q)):C1 P f args s Q:=
 C1.of_W hf hc ((Mc hE.1 hE.2 h).mono fun _ _ _ _ h=>Jp h)
variable {vs:List AV}
theorem ECall.inl (hO:e.O.get f=none) (hG:e.G.get f=some (.mk code res))
 (h:VE e code (An vs 0 .lf) s none [] (Cq res k)):ECall e f vs s k:=by
 obtain ⟨n,x,t',s',ds',h1,hk⟩:=On h
 obtain ⟨hx,s2,l,h2,h3,hk⟩:=Jp hk
 refine ⟨n,one l,s2,?_,hk⟩
 unfold Cu
 rw [hO]
 show FB e _ f vs s=_
 unfold FB
 rw [hG]
 show KG res (exec e n code (An vs 0 .lf) s none [])=_
 rw [h1]
 rcases hx with rfl|rfl
 ·show (Option.rec .fail (fun s=>Option.rec .fail (fun l=>.ok (one l) s) (Ds t' s res)) (FG ds' s'):RV)=_
  rw [h2];show (Option.rec .fail (fun l=>.ok (one l) s2) (Ds t' s2 res):RV)=_;rw [h3]
 ·show (Option.rec .fail (fun s=>Option.rec .fail (fun l=>.ok (one l) s) (Ds t' s res)) (FG ds' s'):RV)=_
  rw [h2];show (Option.rec .fail (fun l=>.ok (one l) s2) (Ds t' s2 res):RV)=_;rw [h3]
theorem ECall.ov {f:Nat}{vs:List AV}{s:St}{k:AV->St->Prop}{h:Ov}{v:AV}{s':St}(hO:e.O.get f=some h) (hh:h vs s=.ok v s') (hk:k v s'):ECall e f vs s k:=by
 refine ⟨0,v,s',?_,hk⟩
 unfold Cu
 rw [hO]
 show (RV.rec _ _ (h vs s):RV)=_
 rw [hh]
theorem EPrim.mk {s':St}(h:∀ e rec,AQ p e rec t s=.ok v s') (hk:k v s'):EPrim p t s k:=fun e rec=>⟨v,s',h e rec,hk⟩
theorem EHead.mk {l:List AV}{k:AV->Prop}(h:l[0]?=some v) (hk:k v):EHead l k:=⟨v,by rw [Jw];exact h,hk⟩
theorem Fz {α:Type}:∀ {n:Nat}{l:List α},n≤l.length->Bo n l=some (l.take n)
 | 0,l,_=>rfl
 | n+1,[],h=>by simp at h
 | n+1,x::l,h=>by
  show (Option.rec none (fun r=>some (x::r)) (Bo n l):Option (List α))=_
  rw [Fz (n:=n) (l:=l) (by simpa using h)];rfl
theorem EExec.loop {a:AC}(h:VE e a t s rd ds (Jg (fun t s ds=>EExec e (.loop a) t s rd ds Q) Q)):EExec e (.loop a) t s rd ds Q:=by
 obtain ⟨n,x,t1,s1,ds1,h1,hk⟩:=On h
 cases x with
 | normal=>
  obtain ⟨m,x2,t2,s2,ds2,h2,hk⟩:=(show EExec e (.loop a) t1 s1 rd ds1 Q from hk)
  refine ⟨max n m+1,_,_,_,_,?_,hk⟩
  show IP (exec e (max n m)) (.loop a) rd (exec e (max n m) a t s rd ds)=_
  rw [G9 (Nat.le_max_left n m) _ _ _ _ _ _ _ _ _ h1]
  exact G9 (Nat.le_max_right n m) _ _ _ _ _ _ _ _ _ h2
 | exit id=>
  refine ⟨n+1,_,_,_,_,?_,hk⟩
  show IP (exec e n) (.loop a) rd (exec e n a t s rd ds)=_
  rw [h1];rfl
 | ret=>
  refine ⟨n+1,_,_,_,_,?_,hk⟩
  show IP (exec e n) (.loop a) rd (exec e n a t s rd ds)=_
  rw [h1];rfl
structure Inl (e:Env) (f:Nat) (code:AC) (res:List ARes):Prop where
 X:e.X.get f=none
 O:e.O.get f=none
 G:e.G.get f=some (.mk code res)
structure Con (e:Env) (f:Nat) (h:Ov):Prop where
 X:e.X.get f=none
 O:e.O.get f=some h
theorem ESc.inl (hi:Inl e f code res) (h:VE e code (An vs 0 .lf) s none [] (Cq res k)):ESc e f vs s k:=by
 unfold ESc;rw [hi.X];exact ECall.inl hi.O hi.G h
theorem ESc.ov {f:Nat}{vs:List AV}{s:St}{k:AV->St->Prop}{h:Ov}{v:AV}{s':St}(hi:Con e f h) (hh:h vs s=.ok v s') (hk:k v s'):ESc e f vs s k:=by
 unfold ESc;rw [hi.X];exact ECall.ov hi.O hh hk
end
attribute [irreducible] EPrim EHead ETake ECall ERound EExec ESc
end Go.AM
