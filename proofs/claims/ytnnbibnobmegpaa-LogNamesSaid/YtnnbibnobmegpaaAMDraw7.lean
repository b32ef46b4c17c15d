/-
  THE ABSTRACT MACHINE: regions that draw: the region. Plain lemmas.
-/
import Derived.Test.YtnnbibnobmegpaaAMDraw6
set_option linter.unusedVariables false
set_option linter.unusedSimpArgs false
namespace Go.AM
section
variable {P : Program} {e : Env} {rec : Rec} {n N : Nat} {ops : Array Oper} {cs : List AOper} {its : List It} {al : List AOper} {tq : Nat → AT} {sq : Nat → St} {V : Nat → AV} {γ γ0 : Gam} {s0 : St} {w w0 : World} {ds : List Nat} {D : Nat → Prop} {a : Act} {p : Nat}

/-- what a load reads now is what it read -/
theorem load_now (hp : Plan P N ops cs its al) (hr : Ran P e rec N ops cs its tq sq V) (h : Inv P N ops cs its tq sq V γ0 s0 w0 ds p D γ a w) (hP : Ptr cs its p) {q i d : Nat} {o : Oper} {pp : AOp} {g : Option (Nat × Bool)} (hx : its[q]? = some (.op i)) (hqp : q < p) (ho : ops[i]? = some o) (hni : ¬ D i)
    (hc : cs[i]? = some (AOper.mk d pp g)) (hl : isLoad pp = true) (hcd : compDst N o.dst = some d) (hcg : compGuard ops N o.guard = some g) (hw : wantedA g (tq q) = 2) (hop : opA pp e rec (tq q) (sq q) = .ok (V i) (sq (q + 1))) (hpre : ∀ j, ((befores ops.toList []).getD i 0).testBit j = true → D j) :
    ∃ c, opA pp e rec (tq c) (sq p) = .ok (V i) (sq p) ∧ ∀ x v, x ∈ slotsR ops o → (tq c).get x = some v → ∃ v', a.tmps[x]? = some v' ∧ VR γ v v' := by
  have hla : loadAt cs i = true := by simp [loadAt, hc, opOf, hl]
  have hck := hp.loads q i hx hla
  -- is there an effect between?
  by_cases hex : ∃ k j, q < k ∧ k < p ∧ its[k]? = some (.op j) ∧ effAt cs j = true
  · -- the last of them
    have hlast : ∃ k j, q < k ∧ k < p ∧ its[k]? = some (.op j) ∧ effAt cs j = true ∧ ∀ (k' : Nat) (x : It), k < k' → k' < p → its[k']? = some x → noEff cs x := by
      have hstep : ∀ (m : Nat), (∃ k j, q < k ∧ k < p ∧ its[k]? = some (.op j) ∧ effAt cs j = true ∧ p - k ≤ m) → ∃ k j, q < k ∧ k < p ∧ its[k]? = some (.op j) ∧ effAt cs j = true ∧ ∀ (k' : Nat) (x : It), k < k' → k' < p → its[k']? = some x → noEff cs x := by
        intro m
        induction m with
        | zero => rintro ⟨k, j, h1, h2, _, _, h5⟩; omega
        | succ m ih =>
          rintro ⟨k, j, h1, h2, h3, h4, h5⟩
          by_cases hq2 : ∃ k' j', k < k' ∧ k' < p ∧ its[k']? = some (.op j') ∧ effAt cs j' = true
          · obtain ⟨k', j', e1, e2, e3, e4⟩ := hq2
            exact ih ⟨k', j', by omega, e2, e3, e4, by omega⟩
          · refine ⟨k, j, h1, h2, h3, h4, fun k' x hk hk' hx' i' hi' => ?_⟩
            subst hi'
            cases hef : effAt cs i' with
            | false => rfl
            | true => exact absurd ⟨k', i', hk, hk', hx', hef⟩ hq2
      obtain ⟨k, j, h1, h2, h3, h4⟩ := hex
      exact hstep p ⟨k, j, h1, h2, h3, h4, by omega⟩
    obtain ⟨k, j, h1, h2, h3, h4, h5⟩ := hlast
    have hDj : D j := (h.eff k j h3 h4).2 h2
    have hjlt := hp.lt k j h3
    have hnb : ((befores ops.toList []).getD j 0).testBit i = false := by
      cases hb : ((befores ops.toList []).getD j 0).testBit i with
      | false => rfl
      | true => exact absurd (closed_of hp.back h.closed hjlt hDj hb) hni
    obtain ⟨c, c1, c2, c3⟩ := chksOf_get hck (k - (q + 1)) j (by rw [List.getElem?_drop, show q + 1 + (k - (q + 1)) = k by omega]; exact h3) h4 hnb
    rw [List.getElem?_drop] at c2
    have hcp : q + 1 + c < p := by
      refine Nat.lt_of_not_le fun hge => ?_
      -- then item p lies between
      have hplt : p < its.length := by have := (List.getElem?_eq_some_iff.1 c2).1; omega
      rcases hP with hP | ⟨j2, hj2, he2⟩
      · omega
      · by_cases hpe : p = q + 1 + c
        · rw [← hpe, hj2] at c2; cases c2
        · have := c3 (p - (q + 1)) j2 (by omega) (by omega) (by rw [List.getElem?_drop, show q + 1 + (p - (q + 1)) = p by omega]; exact hj2)
          rw [he2] at this; cases this
    obtain ⟨e1, e2, d', pp', g', hc', hl', hk⟩ := hr.chk (q + 1 + c) i c2
    rw [hc] at hc'; cases hc'
    have hsync := sync_chk hp hr (V := V) h.slots hx c2 (by omega) ho hpre
    have hsq := sync_op hp hr h.closed h.slots hx ho hni hpre
    refine ⟨q + 1 + c, ?_, hsync⟩
    have hgr := h.grow (q + 1 + c) (by omega) fun k' x hk1 hk2 hx' => h5 k' x (by omega) hk2 hx'
    rcases hk with hk | ⟨hk, v, s1, hv, hget⟩
    · -- the guard has not turned
      exfalso
      have w1 := (wanted_on hsync hcg).2 hk
      have w2 := (wanted_on hsq hcg).1 hw
      rw [w1] at w2; cases w2
    · -- the slot holds V i
      have hVi : v = V i := by
        have hdd : o.dst = some d' := by
          cases hdo : o.dst with
          | none => rw [hdo] at hcd; cases hcd
          | some z => rw [hdo] at hcd; simp only [compDst] at hcd; split at hcd <;> cases hcd; rfl
        have hcl : q + 1 + c < its.length := (List.getElem?_eq_some_iff.1 c2).1
        rcases slot_of hp hr d' v (q + 1 + c) (by omega) hget with ⟨q', j', oj, a1, a2, a3, a4, a5⟩ | ⟨a1, a2⟩
        · rw [a5]
          rcases Nat.lt_trichotomy q' q with b1 | b1 | b1
          · exact absurd hdd (hp.dst q' q j' i oj o d' b1 a2 hx a3 ho a4)
          · subst b1; rw [hx] at a2; cases a2; rfl
          · exact absurd a4 (hp.dst q q' i j' o oj d' b1 hx a2 ho a3 hdd)
        · exact absurd hdd (a2 q i o (by omega) hx ho)
      subst hVi
      exact (load_Pu hl _ _ _ hv).2 _ hgr
  · -- none
    have hgr : Grows (sq (q + 1)) (sq p) := h.grow (q + 1) (by omega) fun k x hk1 hk2 hx' i' hi' => by
      subst hi'
      cases hef : effAt cs i' with
      | false => rfl
      | true => exact absurd ⟨k, i', by omega, hk2, hx', hef⟩ hex
    obtain ⟨e1, e2⟩ := load_Pu hl _ _ _ hop
    rw [e1] at hgr
    exact ⟨q, e2 _ hgr, sync_op hp hr h.closed h.slots hx ho hni hpre⟩

theorem mem_ready {listed : Array Bool} {i : Nat} (h : i ∈ Region.ready .any ops listed) : ∃ o, ops[i]? = some o ∧ listed.getD i true = false ∧ ∀ e ∈ o.after.toList, Region.binds .any e = true → listed.getD e.on false = true := by
  simp only [Region.ready, List.mem_filter, List.mem_range, Bool.and_eq_true] at h
  obtain ⟨hi, h1, h2⟩ := h
  obtain ⟨o, ho⟩ : ∃ o, ops[i]? = some o := ⟨ops[i], by simp [hi]⟩
  refine ⟨o, ho, by simpa using h1, fun e he hb => ?_⟩
  rw [ho] at h2
  simp only [Option.map_some, Option.getD_some] at h2
  have := Array.all_eq_true'.1 h2 e (by simpa using he)
  simpa [hb] using this

def Dn (listed : Array Bool) : Nat → Prop := fun i => listed.getD i false = true
theorem Dn_set {listed : Array Bool} {i : Nat} (hi : i < listed.size) : Dn (listed.setIfInBounds i true) = fun j => Dn listed j ∨ j = i := by
  funext j
  unfold Dn
  rw [Array.getD_eq_getD_getElem?, Array.getD_eq_getD_getElem?, Array.getElem?_setIfInBounds]
  by_cases h : i = j
  · subst h; simp [hi]
  · rw [if_neg h]; simp; exact fun e => absurd e.symm h

theorem all_listed (hback : backOk ops.toList 0 = true) {listed : Array Bool} (hsz : listed.size = ops.size) (h : Region.ready .any ops listed = []) : ∀ i, i < ops.size → Dn listed i := by
  intro i
  induction i using Nat.strongRecOn with
  | _ i ih =>
    intro hi
    cases hd : listed.getD i false with
    | true => exact hd
    | false =>
      exfalso
      obtain ⟨o, ho⟩ : ∃ o, ops[i]? = some o := ⟨ops[i], by simp [hi]⟩
      have hm : i ∈ Region.ready .any ops listed := by
        simp only [Region.ready, List.mem_filter, List.mem_range, Bool.and_eq_true]
        refine ⟨hi, ?_, ?_⟩
        · have : listed[i]? = some (listed[i]'(by omega)) := by simp [hsz, hi]
          rw [Array.getD_eq_getD_getElem?, this] at hd
          rw [Array.getD_eq_getD_getElem?, this]
          simpa using hd
        · rw [ho]
          simp only [Option.map_some, Option.getD_some]
          refine Array.all_eq_true'.2 fun e he => ?_
          cases hb : Region.binds .any e with
          | false => rfl
          | true =>
            have hlt := backOk_get hback i o (by simpa using ho) e (by simpa using he) hb
            have := ih e.on (by omega) (by omega)
            simpa [Dn] using this
      rw [h] at hm; cases hm

/-- when all are done -/
theorem Inv.post (hp : Plan P N ops cs its al) (hr : Ran P e rec N ops cs its tq sq V) (h : Inv P N ops cs its tq sq V γ0 s0 w0 ds p D γ a w) (hP : Ptr cs its p) (hall : ∀ i, i < ops.size → D i) :
    Post P γ0 s0 w0 N .normal (tq its.length) (sq its.length) ds .normal a w := by
  have hpl : p = its.length := by
    rcases hP with hP | ⟨j, hj, he⟩
    · exact hP
    · have := (h.eff p j hj he).1 (hall j (hp.lt p j hj)); omega
  subst hpl
  refine ⟨rfl, h.size, γ, h.stp, h.sim, ?_, h.defs⟩
  intro x v hv
  rcases slot_of hp hr x v _ (Nat.le_refl _) hv with ⟨q', j, o, a1, a2, a3, a4, rfl⟩ | ⟨a1, a2⟩
  · exact h.slots.done j o x (hall j (hp.lt q' j a2)) a3 a4
  · refine h.slots.rest x v a1 fun j o hd ho hx => ?_
    obtain ⟨q', hq'⟩ := hp.has j (Array.getElem?_eq_some_iff.1 ho).1
    exact a2 q' j o (List.getElem?_eq_some_iff.1 hq').1 hq' ho hx

/-- an operation that is ready is done -/
theorem Inv.step (hG : Good P n rec) (hE : EnvOk P e) (hp : Plan P N ops cs its al) (hr : Ran P e rec N ops cs its tq sq V) (h : Inv P N ops cs its tq sq V γ0 s0 w0 ds p D γ a w) (hP : Ptr cs its p) {i m : Nat} {b : Option Nat} {o : Oper} (ho : ops[i]? = some o) (hni : ¬ D i)
    (hpre : ∀ e ∈ o.after.toList, Region.binds .any e = true → D e.on) {K : Act → World → Prop} {Q : Exit → Act → World → Prop}
    (hK : ∀ p' γ' v' w', Inv P N ops cs its tq sq V γ0 s0 w0 ds p' (fun j => D j ∨ j = i) γ' (a.put o.dst v') w' → K (a.put o.dst v') w') : wpOpIn (fen b) m P ops Q i K a w := by
  have hil : i < ops.size := (Array.getElem?_eq_some_iff.1 ho).1
  obtain ⟨q, hq⟩ := hp.has i hil
  obtain ⟨d, pp, g, c1, c2, c3, c4, c5, c6⟩ := hr.op q i o hq ho
  have hbef := closed_before hp.back h.closed i o ho hpre
  have hsync := sync_op hp hr h.closed h.slots hq ho hni hbef
  obtain ⟨hw2, hw1⟩ := wanted_on hsync c4
  unfold wpOpIn
  simp only [ho]
  -- where it stands
  have hplace : (effAt cs i = true ∧ q = p) ∨ (effAt cs i = false ∧ q < p) := by
    have hnlt : p < q → False := by
      intro hlt
      rcases hP with hP | ⟨j, hj, he⟩
      · have := (List.getElem?_eq_some_iff.1 hq).1; omega
      · have hb := hp.eff p q j i hlt hj hq he
        have hdj := hbef j hb
        have := (h.eff p j hj he).1 hdj; omega
    cases he : effAt cs i with
    | true =>
      refine .inl ⟨rfl, ?_⟩
      have : ¬ q < p := fun hl => hni ((h.eff q i hq he).2 hl)
      rcases Nat.lt_trichotomy q p with h1 | h1 | h1
      · exact absurd h1 this
      · exact h1
      · exact (hnlt h1).elim
    | false =>
      refine .inr ⟨rfl, ?_⟩
      rcases Nat.lt_trichotomy q p with h1 | h1 | h1
      · exact h1
      · exfalso
        rcases hP with hP | ⟨j, hj, he'⟩
        · have := (List.getElem?_eq_some_iff.1 hq).1; omega
        · rw [h1, hj] at hq; cases hq; rw [he] at he'; cases he'
      · exact (hnlt h1).elim
  rcases c6 with ⟨hw, hVi, hsq⟩ | ⟨hw, hop⟩
  · rw [if_neg (by rw [hw1 hw]; simp)]
    refine ⟨fun f _ => fen_fn b f, ?_⟩
    have hvr : VR γ (V i) undef ∨ o.dst = none := .inl (by rw [hVi]; exact undef_VR)
    rcases hplace with ⟨he, rfl⟩ | ⟨he, hqp⟩
    · exact hK _ _ _ _ (h.effect hp hq he ho c1 c2 hpre (γ' := γ) (w' := w) (by rw [hsq]; exact .refl _ _ _) (by rw [hsq]; exact h.sim) hvr)
    · exact hK _ _ _ _ (h.floater hp hq hqp he ho c2 hni hpre (γ' := γ) (w' := w) (Le.refl γ) h.stp h.sim hvr (fun q' i' d' pp' g' a1 a2 a3 _ a5 a6 a7 => (h.ghost q' i' d' pp' g' a1 a2 a3 a5 a6 a7).1))
  · rw [if_pos (hw2 hw)]
    rcases hplace with ⟨he, rfl⟩ | ⟨he, hqp⟩
    · exact oper_sound hG hE c3 (Evs_on hsync) h.sim hop fun γ' w' v' hst hs hv => hK _ _ _ _ (h.effect hp hq he ho c1 c2 hpre hst hs hv)
    · have hne : isEff pp = false := by simpa [effAt, c1, opOf] using he
      have same : ∀ (t1 : AT), opA pp e rec t1 (sq p) = .ok (V i) (sq p) → (∀ x v, x ∈ slotsR ops o → t1.get x = some v → ∃ v', a.tmps[x]? = some v' ∧ VR γ v v') → o.wpIn (fen b) m P a w K Q := by
        intro t1 hop1 hs1
        refine oper_sound hG hE c3 (Evs_on hs1) h.sim hop1 fun γ' w' v' hst hs hv => hK _ _ _ _ (h.floater hp hq hqp he ho c2 hni hpre hst.le (h.stp.trans hst) hs hv ?_)
        intro q' i' d' pp' g' a1 a2 a3 _ a5 a6 a7
        obtain ⟨g1, g2, _, _⟩ := h.ghost q' i' d' pp' g' a1 a2 a3 a5 a6 a7
        cases hgm : γ' (sq q').next with
        | none => rfl
        | some L => exact absurd (hst.new _ L hgm g1).1 (by omega)
      cases hl : isLoad pp with
      | true =>
        obtain ⟨c, k1, k2⟩ := load_now hp hr h hP hq hqp ho hni c1 hl c2 c4 hw hop hbef
        exact same _ k1 k2
      | false =>
        cases hm : isMake pp with
        | false => exact same _ ((pure_Pu (A := fun _ _ => True) (by simp [isPure, hne, hl, hm]) _ _ _ hop).2 _ trivial) hsync
        | true =>
          have hnc : isCall pp = false := by cases pp <;> first | rfl | cases hm
          have c30 : compOp0 P o = some pp := by
            rcases compOp_cases c3 with hh | rfl
            · exact hh
            · cases hm
          have hnd := comp_no_defer c30
          rcases op_sound (w := w) (γ := γ) (Evs_on hsync) c30 hnc hop with ⟨_, hf⟩ | ⟨hf, _⟩
          · obtain ⟨obj, mkv, O, sz, es, v', hv, hsa, hrun, hk⟩ := hf
            obtain ⟨g1, g2, g3, g4⟩ := h.ghost q i d pp g hqp hq hni c1 hm hw
            have hle := ext_le (L := ⟨w.heap.size, 0, sz, es⟩) g1
            obtain ⟨k1, k2⟩ := hk _ (sq q).next hle (ext_same _ _ _)
            refine ⟨fun f _ => fen_fn b f, ?_⟩
            rw [Oper.semAt_eq _ _ _ hnd, hrun, Oper.uponIn_value]
            refine hK _ _ _ _ (h.floater hp hq hqp he ho c2 hni hpre hle (h.stp.wake g1 g3) (h.sim.wake (obj := obj) g1 g2 ?_ k1) (.inl (by rw [hv]; exact k2)) ?_)
            · intro x hx
              rw [g4, hsa] at hx
              rcases St.get_alloc hx with ⟨_, h1⟩ | ⟨h1, _⟩
              · exact h1
              · exact absurd rfl h1
            · intro q' i' d' pp' g' a1 a2 a3 a4 a5 a6 a7
              have hne2 : (sq q').next ≠ (sq q).next := by
                rcases Nat.lt_trichotomy q' q with b1 | b1 | b1
                · exact Nat.ne_of_lt (h.gdist q' q i' i d' d pp' pp g' g b1 hqp a2 hq a3 hni a5 c1 a6 hm a7 hw)
                · subst b1; rw [hq] at a2; cases a2; exact absurd rfl a4
                · exact (Nat.ne_of_lt (h.gdist q q' i i' d d' pp pp' g g' b1 a1 hq a2 hni a3 c1 a5 hm a6 hw a7)).symm
              rw [ext_other _ _ hne2]
              exact (h.ghost q' i' d' pp' g' a1 a2 a3 a5 a6 a7).1
          · rw [hm] at hf; cases hf

theorem any_sound (hG : Good P n rec) (hE : EnvOk P e) (hp : Plan P N ops cs its al) (hr : Ran P e rec N ops cs its tq sq V) {m : Nat} {b : Option Nat} : ∀ (fuel : Nat) (listed : Array Bool) (p : Nat) (γ : Gam) (a : Act) (w : World), listed.size = ops.size → listed.toList.count false ≤ fuel →
    Inv P N ops cs its tq sq V γ0 s0 w0 ds p (Dn listed) γ a w → Ptr cs its p → wpAnyIn (fen b) m P .any ops (Post P γ0 s0 w0 N .normal (tq its.length) (sq its.length) ds) fuel listed a w := by
  intro fuel
  induction fuel with
  | zero =>
    intro listed p γ a w hsz hcnt h hP
    have hall : ∀ i, i < ops.size → Dn listed i := by
      intro i hi
      unfold Dn
      cases hd : listed.getD i false with
      | true => rfl
      | false =>
        exfalso
        have h0 : listed.toList.count false = 0 := by omega
        rw [List.count_eq_zero] at h0
        apply h0
        have : listed[i]? = some (listed[i]'(by omega)) := by simp [hsz, hi]
        rw [Array.getD_eq_getD_getElem?, this] at hd
        simp at hd
        rw [← hd]; simp
    refine ⟨?_, h.post hp hr hP hall⟩
    cases hrd : Region.ready .any ops listed with
    | nil => rfl
    | cons i l =>
      obtain ⟨o, ho, hi, _⟩ := mem_ready (show i ∈ Region.ready .any ops listed by rw [hrd]; simp)
      have hil : i < ops.size := (Array.getElem?_eq_some_iff.1 ho).1
      have h1 := hall i hil
      unfold Dn at h1
      have : listed[i]? = some (listed[i]'(by omega)) := by simp [hsz, hil]
      rw [Array.getD_eq_getD_getElem?, this] at h1 hi
      simp at h1 hi
      rw [h1] at hi; cases hi
  | succ fuel ih =>
    intro listed p γ a w hsz hcnt h hP
    refine ⟨fun hrd => h.post hp hr hP (all_listed hp.back hsz hrd), fun i hi => ?_⟩
    obtain ⟨o, ho, hd, hpre⟩ := mem_ready hi
    have hil : i < ops.size := (Array.getElem?_eq_some_iff.1 ho).1
    have hget : listed[i]? = some (listed[i]'(by omega)) := by simp [hsz, hil]
    have hfalse : listed[i]'(by omega) = false := by
      rw [Array.getD_eq_getD_getElem?, hget] at hd; simpa using hd
    have hni : ¬ Dn listed i := by unfold Dn; rw [Array.getD_eq_getD_getElem?, hget]; simp [hfalse]
    refine h.step hG hE hp hr hP ho hni hpre ?_
    intro p' γ' v' w' hI
    obtain ⟨p2, hI2, hP2⟩ := hI.forth hp hr _ p' rfl
    rw [← Dn_set (by omega)] at hI2
    refine ih _ p2 γ' _ w' (by simp [hsz]) ?_ hI2 hP2
    rw [Array.toList_setIfInBounds, List.count_set (by simpa [hsz] using hil)]
    simp [hfalse]
    have hpos : 0 < listed.toList.count false := List.count_pos_iff.2 (by rw [← hfalse]; simp)
    simp at hpos hcnt
    omega

/-- **regions that draw** -/
theorem draw_sound (hE : EnvOk P e) (hmix : P.follows .mixedOrders = true) (hG : Good P n rec) : DrawGood P e rec := by
  intro N id ops al γ t s w a b ds t' s' γ0 s0 w0 m hc hN ht hs hd hst h
  obtain ⟨cs, its, hp⟩ := plan_of hc
  obtain ⟨tq, sq, V, hr, e1, e2, e3, e4⟩ := ran_of hp h
  subst e1; subst e2; subst e3; subst e4
  refine wpIn_region_any hmix ?_
  have hI : Inv P N ops cs its tq sq V γ0 s0 w0 ds 0 (Dn (Array.replicate ops.size false)) γ a { w with drawn := w.drawn + 1 } := by
    have hno : ∀ i, ¬ Dn (Array.replicate ops.size false) i := by
      intro i hi
      unfold Dn at hi
      rw [Array.getD_eq_getD_getElem?, Array.getElem?_replicate] at hi
      split at hi <;> simp at hi
    refine ⟨fun i o ho hd => absurd hd (hno i), fun q i hq he => ⟨fun hd => absurd hd (hno i), fun hl => by omega⟩, fun q i hq hd => absurd hd (hno i), ⟨fun j o x hd => absurd hd (hno j), fun x v hv _ => ht x v hv⟩,
      hs.drew, hst.trans Stp.drew, hN, hd, Nat.zero_le _, fun q i d pp g hq => by omega, fun q q' i i' d d' pp pp' g g' h1 h2 => by omega, fun q hq _ => ?_⟩
    have : q = 0 := by omega
    subst this; exact Grows.refl _
  obtain ⟨p, hI2, hP⟩ := hI.forth hp hr _ 0 rfl
  exact any_sound hG hE hp hr ops.size _ p γ a _ (by simp) (by simp) hI2 hP

theorem exec_good (hE : EnvOk P e) (hmix : P.follows .mixedOrders = true) (k : Nat) : Good P k (exec e k) := exec_sound hE (fun n rec hG => draw_sound hE hmix hG) k
end
end Go.AM
