/-
  THE ABSTRACT MACHINE: regions that draw: any order. Plain lemmas.
-/
import Derived.Test.YtnnbibnobmegpaaAMDraw5
set_option linter.unusedVariables false
set_option linter.unusedSimpArgs false
namespace Go.AM

def noEff (cs : List AOper) (x : It) : Prop := ∀ i, x = .op i → effAt cs i = false

structure Inv (P : Program) (N : Nat) (ops : Array Oper) (cs : List AOper) (its : List It) (tq : Nat → AT) (sq : Nat → St) (V : Nat → AV) (γ0 : Gam) (s0 : St) (w0 : World) (ds : List Nat) (p : Nat) (D : Nat → Prop) (γ : Gam) (a : Act) (w : World) : Prop where
  closed : Closed ops D
  eff : ∀ (q i : Nat), its[q]? = some (.op i) → effAt cs i = true → (D i ↔ q < p)
  below : ∀ (q i : Nat), its[q]? = some (.op i) → D i → q < p
  slots : Slots ops V (tq 0) D γ a.tmps
  sim : Sim P γ (sq p) w
  stp : Stp γ0 s0 w0 γ (sq p) w
  size : N ≤ a.tmps.size
  defs : DR γ ds a.defers
  plen : p ≤ its.length
  ghost : ∀ (q i d : Nat) (pp : AOp) (g : Option (Nat × Bool)), q < p → its[q]? = some (.op i) → ¬ D i → cs[i]? = some (AOper.mk d pp g) → isMake pp = true → wantedA g (tq q) = 2 →
    γ (sq q).next = none ∧ (sq q).next < (sq p).next ∧ s0.next ≤ (sq q).next ∧ (sq p).get (sq q).next = (sq (q + 1)).get (sq q).next
  gdist : ∀ (q q' i i' d d' : Nat) (pp pp' : AOp) (g g' : Option (Nat × Bool)), q < q' → q' < p → its[q]? = some (.op i) → its[q']? = some (.op i') → ¬ D i → ¬ D i' → cs[i]? = some (AOper.mk d pp g) → cs[i']? = some (AOper.mk d' pp' g') → isMake pp = true → isMake pp' = true →
    wantedA g (tq q) = 2 → wantedA g' (tq q') = 2 → (sq q).next < (sq q').next
  grow : ∀ q, q ≤ p → (∀ (k : Nat) (x : It), q ≤ k → k < p → its[k]? = some x → noEff cs x) → Grows (sq q) (sq p)

section
variable {P : Program} {e : Env} {rec : Rec} {n N : Nat} {ops : Array Oper} {cs : List AOper} {its : List It} {al : List AOper} {tq : Nat → AT} {sq : Nat → St} {V : Nat → AV} {γ γ0 : Gam} {s0 : St} {w w0 : World} {ds : List Nat} {D : Nat → Prop} {a : Act} {p : Nat}

theorem Grows.refl (s : St) : Grows s s := fun _ _ h => h
theorem Grows.trans {s1 s2 s3 : St} (h : Grows s1 s2) (k : Grows s2 s3) : Grows s1 s3 := fun r x hx => k r x (h r x hx)

/-- the machine goes on over an item that is no effect -/
theorem Inv.advance (hp : Plan P N ops cs its al) (hr : Ran P e rec N ops cs its tq sq V) (h : Inv P N ops cs its tq sq V γ0 s0 w0 ds p D γ a w) {x : It} (hx : its[p]? = some x) (hn : noEff cs x) : Inv P N ops cs its tq sq V γ0 s0 w0 ds (p + 1) D γ a w := by
  have hlen : p < its.length := (List.getElem?_eq_some_iff.1 hx).1
  have key : (sq (p + 1) = sq p ∧ ∀ (i d : Nat) (pp : AOp) (g : Option (Nat × Bool)), its[p]? = some (.op i) → cs[i]? = some (AOper.mk d pp g) → isMake pp = true → wantedA g (tq p) = 2 → False) ∨ ∃ obj, sq (p + 1) = (sq p).alloc obj := by
    cases x with
    | chk i => exact .inl ⟨(hr.chk p i hx).2.1, fun i' d pp g hi => by rw [hx] at hi; cases hi⟩
    | op i =>
      have hil := hp.lt p i hx
      obtain ⟨o, ho⟩ : ∃ o, ops[i]? = some o := ⟨ops[i], by simp [hil]⟩
      obtain ⟨d, pp, g, c1, c2, c3, c4, c5, c6⟩ := hr.op p i o hx ho
      have hne : isEff pp = false := by have := hn i rfl; simpa [effAt, c1, opOf] using this
      rcases c6 with ⟨hw, _, hs⟩ | ⟨hw, hop⟩
      · refine .inl ⟨hs, fun i' d' pp' g' hi' hc' _ hw' => ?_⟩
        rw [hx] at hi'; cases hi'; rw [c1] at hc'; cases hc'; rw [hw] at hw'; cases hw'
      · cases hm : isMake pp with
        | true => exact .inr (make_alloc hm hop)
        | false =>
          refine .inl ⟨?_, fun i' d' pp' g' hi' hc' hm' _ => ?_⟩
          · cases hl : isLoad pp with
            | true => exact (load_Pu hl _ _ _ hop).1
            | false => exact (pure_Pu (A := fun _ _ => True) (by simp [isPure, hne, hl, hm]) _ _ _ hop).1
          · rw [hx] at hi'; cases hi'; rw [c1] at hc'; cases hc'; rw [hm] at hm'; cases hm'
  have heff : ∀ (q i : Nat), its[q]? = some (.op i) → effAt cs i = true → (D i ↔ q < p + 1) := by
    intro q i hq he
    rw [h.eff q i hq he]
    refine ⟨fun hl => by omega, fun hl => ?_⟩
    rcases Nat.lt_succ_iff_lt_or_eq.1 hl with h1 | h1
    · exact h1
    · subst h1; rw [hx] at hq; cases hq; rw [hn i rfl] at he; cases he
  rcases key with ⟨hs, hno⟩ | ⟨obj, hs⟩
  · refine ⟨h.closed, heff, fun q i hq hd => by have := h.below q i hq hd; omega, h.slots, hs ▸ h.sim, hs ▸ h.stp, h.size, h.defs, by omega, ?_, ?_, ?_⟩
    · intro q i d pp g hq hi hd hc hm hw
      rcases Nat.lt_succ_iff_lt_or_eq.1 hq with h1 | h1
      · rw [hs]; exact h.ghost q i d pp g h1 hi hd hc hm hw
      · subst h1; exact (hno i d pp g hi hc hm hw).elim
    · intro q q' i i' d d' pp pp' g g' hqq hq' hi hi' hd hd' hc hc' hm hm' hw hw'
      rcases Nat.lt_succ_iff_lt_or_eq.1 hq' with h1 | h1
      · exact h.gdist q q' i i' d d' pp pp' g g' hqq h1 hi hi' hd hd' hc hc' hm hm' hw hw'
      · subst h1; exact (hno i' d' pp' g' hi' hc' hm' hw').elim
    · intro q hq hk
      by_cases hqp : q = p + 1
      · subst hqp; exact Grows.refl _
      · rw [hs]; exact h.grow q (by omega) fun k x hqk hkp hkx => hk k x hqk (by omega) hkx
  · have hnext : (sq (p + 1)).next = (sq p).next + 1 := by rw [hs, St.next_alloc]
    have hgr : Grows (sq p) (sq (p + 1)) := by
      intro r y hy
      rw [hs, St.get_alloc_ne (by have := h.sim.dom r y hy; omega)]; exact hy
    refine ⟨h.closed, heff, fun q i hq hd => by have := h.below q i hq hd; omega, h.slots, hs ▸ h.sim.ghost obj, hs ▸ h.stp.ghost obj, h.size, h.defs, by omega, ?_, ?_, ?_⟩
    · intro q i d pp g hq hi hd hc hm hw
      rcases Nat.lt_succ_iff_lt_or_eq.1 hq with h1 | h1
      · obtain ⟨g1, g2, g3, g4⟩ := h.ghost q i d pp g h1 hi hd hc hm hw
        refine ⟨g1, by omega, g3, ?_⟩
        rw [← g4, hs, St.get_alloc_ne (by omega)]
      · subst h1
        exact ⟨h.sim.nx _ (Nat.le_refl _), by omega, h.stp.next, rfl⟩
    · intro q q' i i' d d' pp pp' g g' hqq hq' hi hi' hd hd' hc hc' hm hm' hw hw'
      rcases Nat.lt_succ_iff_lt_or_eq.1 hq' with h1 | h1
      · exact h.gdist q q' i i' d d' pp pp' g g' hqq h1 hi hi' hd hd' hc hc' hm hm' hw hw'
      · subst h1; exact (h.ghost q i d pp g hqq hi hd hc hm hw).2.1
    · intro q hq hk
      by_cases hqp : q = p + 1
      · subst hqp; exact Grows.refl _
      · exact (h.grow q (by omega) fun k x hqk hkp hkx => hk k x hqk (by omega) hkx).trans hgr

def Ptr (cs : List AOper) (its : List It) (p : Nat) : Prop := p = its.length ∨ ∃ i, its[p]? = some (.op i) ∧ effAt cs i = true

theorem Inv.forth (hp : Plan P N ops cs its al) (hr : Ran P e rec N ops cs its tq sq V) : ∀ (k p : Nat), its.length - p = k → Inv P N ops cs its tq sq V γ0 s0 w0 ds p D γ a w → ∃ p', Inv P N ops cs its tq sq V γ0 s0 w0 ds p' D γ a w ∧ Ptr cs its p' := by
  intro k
  induction k with
  | zero => intro p hk h; exact ⟨p, h, .inl (by have := h.plen; omega)⟩
  | succ k ih =>
    intro p hk h
    have hlen : p < its.length := by omega
    obtain ⟨x, hx⟩ : ∃ x, its[p]? = some x := ⟨its[p], by simp [hlen]⟩
    cases x with
    | chk i => exact ih (p + 1) (by omega) (h.advance hp hr hx (fun i hi => by cases hi))
    | op i =>
      cases he : effAt cs i with
      | true => exact ⟨p, h, .inr ⟨i, hx, he⟩⟩
      | false => exact ih (p + 1) (by omega) (h.advance hp hr hx (fun j hj => by cases hj; exact he))

theorem closed_add {i : Nat} {o : Oper} (h : Closed ops D) (ho : ops[i]? = some o) (hpre : ∀ e ∈ o.after.toList, Region.binds .any e = true → D e.on) : Closed ops (fun j => D j ∨ j = i) := by
  intro j oj hj hd e he hb
  rcases hd with hd | rfl
  · exact .inl (h j oj hj hd e he hb)
  · rw [ho] at hj; cases hj; exact .inl (hpre e he hb)

/-- the next effect is done -/
theorem Inv.effect (hp : Plan P N ops cs its al) (h : Inv P N ops cs its tq sq V γ0 s0 w0 ds p D γ a w) {i d : Nat} {o : Oper} {pp : AOp} {g : Option (Nat × Bool)} (hx : its[p]? = some (.op i)) (he : effAt cs i = true) (ho : ops[i]? = some o) (hc : cs[i]? = some (AOper.mk d pp g)) (hcd : compDst N o.dst = some d)
    (hpre : ∀ e ∈ o.after.toList, Region.binds .any e = true → D e.on) {γ' : Gam} {w' : World} {v' : Value} (hst : Stp γ (sq p) w γ' (sq (p + 1)) w') (hs : Sim P γ' (sq (p + 1)) w') (hv : VR γ' (V i) v' ∨ o.dst = none) :
    Inv P N ops cs its tq sq V γ0 s0 w0 ds (p + 1) (fun j => D j ∨ j = i) γ' (a.put o.dst v') w' := by
  have hni : ¬ D i := fun hd => by have := (h.eff p i hx he).1 hd; omega
  have hlen : p < its.length := (List.getElem?_eq_some_iff.1 hx).1
  have hmk : isMake pp = false := by
    have : isEff pp = true := by simpa [effAt, hc, opOf] using he
    cases pp <;> first | rfl | cases this
  refine ⟨closed_add h.closed ho hpre, ?_, ?_, (h.slots.mono hst.le).put hp ho h.size hcd hv hni, hs, h.stp.trans hst, by rw [put_size]; exact h.size, by rw [put_defers]; exact h.defs.mono hst.le, by omega, ?_, ?_, ?_⟩
  · intro q j hq hej
    constructor
    · rintro (hd | rfl)
      · have := (h.eff q j hq hej).1 hd; omega
      · have : q = p := by
          rcases Nat.lt_trichotomy q p with h1 | h1 | h1
          · exact absurd rfl (hp.ne q p j j h1 hq hx)
          · exact h1
          · exact absurd rfl (hp.ne p q j j h1 hx hq)
        omega
    · intro hl
      rcases Nat.lt_succ_iff_lt_or_eq.1 hl with h1 | h1
      · exact .inl ((h.eff q j hq hej).2 h1)
      · subst h1; rw [hx] at hq; cases hq; exact .inr rfl
  · rintro q j hq (hd | rfl)
    · have := h.below q j hq hd; omega
    · have : q = p := by
        rcases Nat.lt_trichotomy q p with h1 | h1 | h1
        · exact absurd rfl (hp.ne q p j j h1 hq hx)
        · exact h1
        · exact absurd rfl (hp.ne p q j j h1 hx hq)
      omega
  · intro q j d' pp' g' hq hi hd hc' hm hw
    rcases Nat.lt_succ_iff_lt_or_eq.1 hq with h1 | h1
    · obtain ⟨g1, g2, g3, g4⟩ := h.ghost q j d' pp' g' h1 hi (fun hh => hd (.inl hh)) hc' hm hw
      refine ⟨?_, by have := hst.next; omega, g3, ?_⟩
      · cases hgm : γ' (sq q).next with
        | none => rfl
        | some L => exact absurd (hst.new _ L hgm g1).1 (by omega)
      · rw [hst.keep _ g1 g2]; exact g4
    · subst h1; rw [hx] at hi; cases hi; exact absurd (Or.inr rfl) hd
  · intro q q' j j' d1 d2 p1 p2 g1 g2 hqq hq' hi hi' hd hd' hc1 hc2 hm1 hm2 hw1 hw2
    rcases Nat.lt_succ_iff_lt_or_eq.1 hq' with h1 | h1
    · exact h.gdist q q' j j' d1 d2 p1 p2 g1 g2 hqq h1 hi hi' (fun hh => hd (.inl hh)) (fun hh => hd' (.inl hh)) hc1 hc2 hm1 hm2 hw1 hw2
    · subst h1; rw [hx] at hi'; cases hi'; exact absurd (Or.inr rfl) hd'
  · intro q hq hk
    by_cases hqp : q = p + 1
    · subst hqp; exact Grows.refl _
    · have := hk p _ (by omega) (by omega) hx i rfl
      rw [he] at this; cases this

/-- a floater is done -/
theorem Inv.floater (hp : Plan P N ops cs its al) (h : Inv P N ops cs its tq sq V γ0 s0 w0 ds p D γ a w) {q i d : Nat} {o : Oper} (hx : its[q]? = some (.op i)) (hqp : q < p) (he : effAt cs i = false) (ho : ops[i]? = some o) (hcd : compDst N o.dst = some d) (hni : ¬ D i)
    (hpre : ∀ e ∈ o.after.toList, Region.binds .any e = true → D e.on) {γ' : Gam} {w' : World} {v' : Value} (hle : Le γ γ') (hst : Stp γ0 s0 w0 γ' (sq p) w') (hs : Sim P γ' (sq p) w') (hv : VR γ' (V i) v' ∨ o.dst = none)
    (hgh : ∀ (q' i' d' : Nat) (pp' : AOp) (g' : Option (Nat × Bool)), q' < p → its[q']? = some (.op i') → ¬ D i' → i' ≠ i → cs[i']? = some (AOper.mk d' pp' g') → isMake pp' = true → wantedA g' (tq q') = 2 → γ' (sq q').next = none) :
    Inv P N ops cs its tq sq V γ0 s0 w0 ds p (fun j => D j ∨ j = i) γ' (a.put o.dst v') w' := by
  refine ⟨closed_add h.closed ho hpre, ?_, ?_, (h.slots.mono hle).put hp ho h.size hcd hv hni, hs, hst, by rw [put_size]; exact h.size, by rw [put_defers]; exact h.defs.mono hle, h.plen, ?_, ?_, h.grow⟩
  · intro q' j hq hej
    rw [← h.eff q' j hq hej]
    exact ⟨fun hd => hd.resolve_right (fun e => by subst e; rw [he] at hej; cases hej), .inl⟩
  · rintro q' j hq (hd | rfl)
    · exact h.below q' j hq hd
    · rcases Nat.lt_trichotomy q' q with h1 | h1 | h1
      · exact absurd rfl (hp.ne q' q j j h1 hq hx)
      · omega
      · exact absurd rfl (hp.ne q q' j j h1 hx hq)
  · intro q' j d' pp' g' hq hi hd hc' hm hw
    have hd1 : ¬ D j := fun hh => hd (.inl hh)
    obtain ⟨g1, g2, g3, g4⟩ := h.ghost q' j d' pp' g' hq hi hd1 hc' hm hw
    exact ⟨hgh q' j d' pp' g' hq hi hd1 (fun e => hd (.inr e)) hc' hm hw, g2, g3, g4⟩
  · intro q1 q2 j j' d1 d2 p1 p2 g1 g2 hqq hq' hi hi' hd hd' hc1 hc2 hm1 hm2 hw1 hw2
    exact h.gdist q1 q2 j j' d1 d2 p1 p2 g1 g2 hqq hq' hi hi' (fun hh => hd (.inl hh)) (fun hh => hd' (.inl hh)) hc1 hc2 hm1 hm2 hw1 hw2
end
end Go.AM
