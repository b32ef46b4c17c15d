/-
  THE ABSTRACT MACHINE: regions that draw: things made early by the machine, late by the model; what is read. Plain lemmas.
-/
import Derived.Test.YtnnbibnobmegpaaAMDraw4
set_option linter.unusedVariables false
set_option linter.unusedSimpArgs false
namespace Go.AM
section
variable {P : Program} {γ : Gam} {s : St} {w : World}

/-- the machine makes a thing; the model not yet -/
theorem Sim.ghost (h : Sim P γ s w) (o : AObj) : Sim P γ (s.alloc o) w := by
  have hn := h.nx s.next (Nat.le_refl _)
  have old : ∀ {r : Nat} {x : AObj} {L : Loc}, (s.alloc o).get r = some x → γ r = some L → s.get r = some x := by
    intro r x L hx hL
    rcases St.get_alloc hx with ⟨rfl, _⟩ | ⟨_, hx⟩
    · rw [hn] at hL; cases hL
    · exact hx
  refine ⟨fun r x L hx hL => h.obj r x L (old hx hL) hL, fun r r' x x' L L' hx hx' ha ha' hL hL' hne => h.inj r r' x x' L L' (old hx hL) (old hx' hL') ha ha' hL hL' hne, h.lt, ?_, ?_, h.fzc, fun r x L hx ha hL => h.fzr r x L (old hx hL) ha hL⟩
  · intro r hr; rw [St.next_alloc] at hr; exact h.nx r (by omega)
  · intro r x hx
    rw [St.next_alloc]
    rcases St.get_alloc hx with ⟨rfl, _⟩ | ⟨_, hx⟩
    · omega
    · have := h.dom r x hx; omega
theorem Stp.ghost {γ0 : Gam} {s0 : St} {w0 : World} (h : Stp γ0 s0 w0 γ s w) (o : AObj) : Stp γ0 s0 w0 γ (s.alloc o) w :=
  ⟨h.le, h.new, by rw [St.next_alloc]; have := h.next; omega, h.size, h.os, h.tape, h.output, h.blk, fun r h0 hr => by rw [St.get_alloc_ne (by have := h.next; omega)]; exact h.keep r h0 hr, h.fzn⟩
/-- the model makes it too -/
theorem Sim.wake (h : Sim P γ s w) {r : Nat} {obj : AObj} {O : Obj} {sz es : Nat} (hr : γ r = none) (hlt : r < s.next) (hg : ∀ x, s.get r = some x → x = obj)
    (ho : ObjR P (ext γ r ⟨w.heap.size, 0, sz, es⟩) ⟨w.heap.size, 0, sz, es⟩ obj (w.alloc O).heap) : Sim P (ext γ r ⟨w.heap.size, 0, sz, es⟩) s (w.alloc O) := by
  have hle := ext_le (L := ⟨w.heap.size, 0, sz, es⟩) hr
  have hold : ∀ b, b < w.heap.size → (w.alloc O).heap[b]? = w.heap[b]? := fun b hb => by
    show (w.heap.push O)[b]? = _
    rw [Array.getElem?_push, if_neg (by omega)]
  have hsz : (w.alloc O).heap.size = w.heap.size + 1 := by show (w.heap.push O).size = _; simp
  refine ⟨?_, ?_, ?_, ?_, h.dom, fun b c hb => ?_, fun k x L hx ha hL => ?_⟩
  rotate_right
  · by_cases e : k = r
    · subst e; rw [ext_same] at hL; cases hL; exact h.fzout (Nat.le_refl _)
    · rw [ext_other _ _ e] at hL; exact h.fzr k x L hx ha hL
  rotate_right
  · obtain ⟨e, fr, h1⟩ := h.fzc b c hb
    exact ⟨e, fr, (hold b (h.fzlt hb)).trans h1⟩
  · intro k x L hx hL
    by_cases e : k = r
    · subst e; rw [ext_same] at hL; cases hL; rw [hg x hx]; exact ho
    · rw [ext_other _ _ e] at hL
      exact ((h.obj k x L hx hL).mono hle).heap (hold _ (h.lt k L hL))
  · intro k k' x x' L L' hx hx' ha ha' hL hL' hne
    by_cases e : k = r
    · subst e
      rw [ext_same] at hL; rw [ext_other _ _ (fun e => hne e.symm)] at hL'; cases hL
      have := h.lt _ _ hL'; show w.heap.size ≠ L'.b; omega
    · rw [ext_other _ _ e] at hL
      by_cases e' : k' = r
      · subst e'; rw [ext_same] at hL'; cases hL'
        have := h.lt _ _ hL; show L.b ≠ w.heap.size; omega
      · rw [ext_other _ _ e'] at hL'
        exact h.inj k k' x x' L L' hx hx' ha ha' hL hL' hne
  · intro k L hL
    by_cases e : k = r
    · subst e; rw [ext_same] at hL; cases hL; rw [hsz]; exact Nat.lt_succ_self _
    · rw [ext_other _ _ e] at hL; have := h.lt k L hL; omega
  · intro k hk
    rw [ext_other _ _ (by omega)]; exact h.nx k hk
theorem Stp.wake {γ0 : Gam} {s0 : St} {w0 : World} (h : Stp γ0 s0 w0 γ s w) {r : Nat} {O : Obj} {sz es : Nat} (hr : γ r = none) (h0 : s0.next ≤ r) : Stp γ0 s0 w0 (ext γ r ⟨w.heap.size, 0, sz, es⟩) s (w.alloc O) := by
  have hle := ext_le (L := ⟨w.heap.size, 0, sz, es⟩) hr
  have hsz : (w.alloc O).heap.size = w.heap.size + 1 := by show (w.heap.push O).size = _; simp
  have hsw := h.size
  refine ⟨h.le.trans hle, ?_, h.next, by omega, h.os, h.tape, h.output, ?_, h.keep, h.fzn⟩
  · intro k L hk hk0
    by_cases e : k = r
    · subst e; rw [ext_same] at hk; cases hk; exact ⟨h0, .inl hsw⟩
    · rw [ext_other _ _ e] at hk; exact h.new k L hk hk0
  · intro b hb hn
    rw [← h.blk b hb hn]
    show (w.heap.push O)[b]? = _
    rw [Array.getElem?_push, if_neg (by omega)]

theorem make_alloc {e : Env} {rec : Rec} {p : AOp} {t : AT} {v : AV} {s' : St} (hp : isMake p = true) (h : opA p e rec t s = .ok v s') : ∃ obj, s' = s.alloc obj := by
  cases p with
  | new a b z => cases h; exact ⟨_, rfl⟩
  | box a b x =>
    obtain ⟨u, _, h⟩ := wth_ok h
    obtain ⟨_, h⟩ := gd_ok h
    cases h; exact ⟨_, rfl⟩
  | bsl a b c z ps => obtain ⟨u, _, h⟩ := opt_ok h; cases h; exact ⟨_, rfl⟩
  | mks a b z l c =>
    obtain ⟨_, _, h⟩ := nat_ok h
    obtain ⟨_, _, h⟩ := nat_ok h
    obtain ⟨_, h⟩ := gd_ok h
    cases h; exact ⟨_, rfl⟩
  | mkmap => cases h; exact ⟨_, rfl⟩
  | _ => cases hp

/-! what is read, where some slots alone are told -/
theorem Evs_on {t : AT} {a : Act} {ops : Array Oper} {o : Oper} (h : ∀ x v, x ∈ slotsR ops o → t.get x = some v → ∃ v', a.tmps[x]? = some v' ∧ VR γ v v') : Evs γ t a.eval o.op.operands.toList := by
  intro x hx y v hy hv
  unfold aop at hy
  split at hy
  · rename_i i
    cases hy
    change (Option.rec .none (fun v => .some v) (t.get i) : OV) = .some v at hv
    cases hg : t.get i with
    | none => rw [hg] at hv; cases hv
    | some u =>
      rw [hg] at hv; cases hv
      obtain ⟨v', h1, h2⟩ := h i v (List.mem_append_left _ (List.mem_filterMap.2 ⟨.tmp i, hx, rfl⟩)) hg
      show VR γ v (a.tmps.getD i undef)
      rw [Array.getD_eq_getD_getElem?, h1]; exact h2
  · obtain ⟨u, hu, rfl⟩ := map_some hy
    cases hv; exact av_VR hu
  · cases hy; cases hv; exact .fn _ _ _ _ _ .nil .nil
  · cases hy
theorem wanted_on {t : AT} {a : Act} {ops : Array Oper} {N : Nat} {o : Oper} {g : Option (Nat × Bool)} (h : ∀ x v, x ∈ slotsR ops o → t.get x = some v → ∃ v', a.tmps[x]? = some v' ∧ VR γ v v') (hg : compGuard ops N o.guard = some g) :
    (wantedA g t = 2 → Region.wanted o (yielded ops a.tmps) = true) ∧ (wantedA g t = 1 → Region.wanted o (yielded ops a.tmps) = false) := by
  unfold compGuard at hg
  unfold Region.wanted
  split at hg
  · rename_i hgo; cases hg; rw [hgo]; exact ⟨fun _ => rfl, fun h => (by cases h)⟩
  · rename_i j b hgo
    rw [hgo]
    split at hg
    · rename_i d hd; cases hg
      show ((Option.rec 0 (fun v => BR.rec (Bool.rec 1 0 (isAny v)) (Bool.rec 1 2 b) (Bool.rec 2 1 b) (asBool v)) (t.get d) : Nat) = 2 → (yielded ops a.tmps j == some b) = true) ∧ ((Option.rec 0 (fun v => BR.rec (Bool.rec 1 0 (isAny v)) (Bool.rec 1 2 b) (Bool.rec 2 1 b) (asBool v)) (t.get d) : Nat) = 1 → (yielded ops a.tmps j == some b) = false)
      cases hgt : t.get d with
      | none => exact ⟨fun h => (by cases h), fun h => (by cases h)⟩
      | some v =>
        obtain ⟨v', h1, h2⟩ := h d v (by unfold slotsR; rw [hgo]; exact List.mem_append_right _ (by simp [hd])) hgt
        simp only [yielded, hd, Option.bind_some, h1]
        cases h2 <;> first | (cases b <;> rename_i q <;> cases q <;> simp [asBool, isAny]) | (cases b <;> simp [asBool, isAny])
    · cases hg
end

section
variable {P : Program} {e : Env} {rec : Rec} {N : Nat} {ops : Array Oper} {cs : List AOper} {its : List It} {al : List AOper} {tq : Nat → AT} {sq : Nat → St} {V : Nat → AV} {γ : Gam}

/-- what the slots hold, some operations done -/
structure Slots (ops : Array Oper) (V : Nat → AV) (t0 : AT) (D : Nat → Prop) (γ : Gam) (tm : Array Value) : Prop where
  done : ∀ (j : Nat) (o : Oper) (x : Nat), D j → ops[j]? = some o → o.dst = some x → ∃ v', tm[x]? = some v' ∧ VR γ (V j) v'
  rest : ∀ (x : Nat) (v : AV), t0.get x = some v → (∀ (j : Nat) (o : Oper), D j → ops[j]? = some o → o.dst ≠ some x) → ∃ v', tm[x]? = some v' ∧ VR γ v v'
theorem Slots.mono {t0 : AT} {D : Nat → Prop} {γ' : Gam} {tm : Array Value} (h : Slots ops V t0 D γ tm) (hle : Le γ γ') : Slots ops V t0 D γ' tm :=
  ⟨fun j o x hd ho hx => let ⟨v', a, b⟩ := h.done j o x hd ho hx; ⟨v', a, b.mono hle⟩, fun x v hv hn => let ⟨v', a, b⟩ := h.rest x v hv hn; ⟨v', a, b.mono hle⟩⟩

theorem sync_op (hp : Plan P N ops cs its al) (hr : Ran P e rec N ops cs its tq sq V) {D : Nat → Prop} {a : Act} (hD : Closed ops D) (hS : Slots ops V (tq 0) D γ a.tmps) {q i : Nat} {o : Oper} (hq : its[q]? = some (.op i)) (ho : ops[i]? = some o) (hn : ¬ D i)
    (hpre : ∀ j, ((befores ops.toList []).getD i 0).testBit j = true → D j) : ∀ x v, x ∈ slotsR ops o → (tq q).get x = some v → ∃ v', a.tmps[x]? = some v' ∧ VR γ v v' := by
  intro x v hx hv
  have hql : q < its.length := (List.getElem?_eq_some_iff.1 hq).1
  rcases slot_of hp hr x v q (by omega) hv with ⟨q', j, oj, h1, h2, h3, h4, rfl⟩ | ⟨h1, h2⟩
  · exact hS.done j oj x (hpre j (hp.rd1 q' q j i oj o x h1 h2 hq h3 ho h4 hx)) h3 h4
  · refine hS.rest x v h1 fun j oj hdj hoj hxj => ?_
    have hjlt : j < ops.size := (Array.getElem?_eq_some_iff.1 hoj).1
    obtain ⟨q', hq'⟩ := hp.has j hjlt
    rcases Nat.lt_trichotomy q' q with hlt | heq | hgt
    · exact h2 q' j oj hlt hq' hoj hxj
    · subst heq
      rw [hq] at hq'; cases hq'
      exact hn hdj
    · have hb := hp.rd2 q q' i j o oj x hgt hq hq' ho hoj hxj hx
      exact hn (closed_of hp.back hD hjlt hdj hb)
theorem sync_chk (hp : Plan P N ops cs its al) (hr : Ran P e rec N ops cs its tq sq V) {D : Nat → Prop} {a : Act} (hS : Slots ops V (tq 0) D γ a.tmps) {q c i : Nat} {o : Oper} (hq : its[q]? = some (.op i)) (hc : its[c]? = some (.chk i)) (hqc : q < c) (ho : ops[i]? = some o)
    (hpre : ∀ j, ((befores ops.toList []).getD i 0).testBit j = true → D j) : ∀ x v, x ∈ slotsR ops o → (tq c).get x = some v → ∃ v', a.tmps[x]? = some v' ∧ VR γ v v' := by
  intro x v hx hv
  have hcl : c < its.length := (List.getElem?_eq_some_iff.1 hc).1
  rcases slot_of hp hr x v c (by omega) hv with ⟨q', j, oj, h1, h2, h3, h4, rfl⟩ | ⟨h1, h2⟩
  · exact hS.done j oj x (hpre j (hp.reads c i j o oj x hc ho h3 h4 hx)) h3 h4
  · refine hS.rest x v h1 fun j oj hdj hoj hxj => ?_
    have hjlt : j < ops.size := (Array.getElem?_eq_some_iff.1 hoj).1
    have hilt : i < ops.size := (Array.getElem?_eq_some_iff.1 ho).1
    obtain ⟨q', hq'⟩ := hp.has j hjlt
    have hbij := hp.reads c i j o oj x hc ho hoj hxj hx
    by_cases hlt : q' < c
    · exact h2 q' j oj hlt hq' hoj hxj
    · have hb := hp.rd2 q q' i j o oj x (by omega) hq hq' ho hoj hxj hx
      have e1 := before_lt hp.back i j hilt hbij
      have e2 := before_lt hp.back j i hjlt hb
      omega

theorem Slots.put (hp : Plan P N ops cs its al) {t0 : AT} {D : Nat → Prop} {a : Act} (hS : Slots ops V t0 D γ a.tmps) {i : Nat} {o : Oper} {d : Nat} {v' : Value} (ho : ops[i]? = some o) (hN : N ≤ a.tmps.size) (hd : compDst N o.dst = some d) (hv : VR γ (V i) v' ∨ o.dst = none) (hn : ¬ D i) :
    Slots ops V t0 (fun j => D j ∨ j = i) γ (a.put o.dst v').tmps := by
  have hilt : i < ops.size := (Array.getElem?_eq_some_iff.1 ho).1
  obtain ⟨q, hq⟩ := hp.has i hilt
  cases hdst : o.dst with
  | none =>
    refine ⟨fun j oj x hdj hoj hxj => ?_, fun x v hx hn' => hS.rest x v hx fun j oj hdj => hn' j oj (.inl hdj)⟩
    rcases hdj with hdj | rfl
    · exact hS.done j oj x hdj hoj hxj
    · rw [ho] at hoj; cases hoj; rw [hdst] at hxj; cases hxj
  | some z =>
    rw [hdst] at hd hv
    have hzlt : z < a.tmps.size := by
      simp only [compDst] at hd
      split at hd
      · rename_i hz; exact Nat.lt_of_lt_of_le hz hN
      · cases hd
    have hvv := hv.resolve_right (by simp)
    have other : ∀ x, x ≠ z → (a.put (some z) v').tmps[x]? = a.tmps[x]? := by
      intro x hx
      show (a.tmps.setIfInBounds z v')[x]? = _
      rw [Array.getElem?_setIfInBounds, if_neg (fun e => hx e.symm)]
    have same : (a.put (some z) v').tmps[z]? = some v' := by
      show (a.tmps.setIfInBounds z v')[z]? = _
      rw [Array.getElem?_setIfInBounds, if_pos rfl, if_pos hzlt]
    refine ⟨fun j oj x hdj hoj hxj => ?_, fun x v hx hn' => ?_⟩
    · rcases hdj with hdj | rfl
      · have hxz : x ≠ z := by
          rintro rfl
          have hjlt : j < ops.size := (Array.getElem?_eq_some_iff.1 hoj).1
          obtain ⟨q', hq'⟩ := hp.has j hjlt
          rcases Nat.lt_trichotomy q' q with hlt | heq | hgt
          · exact hp.dst q' q j i oj o x hlt hq' hq hoj ho hxj hdst
          · subst heq; rw [hq] at hq'; cases hq'; exact hn hdj
          · exact hp.dst q q' i j o oj x hgt hq hq' ho hoj hdst hxj
        rw [other x hxz]; exact hS.done j oj x hdj hoj hxj
      · rw [ho] at hoj; cases hoj; rw [hdst] at hxj; cases hxj
        exact ⟨v', same, hvv⟩
    · have hxz : x ≠ z := by rintro rfl; exact hn' i o (.inr rfl) ho hdst
      rw [other x hxz]; exact hS.rest x v hx fun j oj hdj => hn' j oj (.inl hdj)
end
end Go.AM
