/-
  THE ABSTRACT MACHINE: regions that draw: what each slot holds; ghosts. Plain lemmas.
-/
import Derived.Test.YtnnbibnobmegpaaAMDraw3
set_option linter.unusedVariables false
set_option linter.unusedSimpArgs false
namespace Go.AM

/-- the plan's run: temporaries and state before each item; what each operation yields -/
structure Ran (P : Program) (e : Env) (rec : Rec) (N : Nat) (ops : Array Oper) (cs : List AOper) (its : List It) (tq : Nat → AT) (sq : Nat → St) (V : Nat → AV) : Prop where
  op : ∀ (q i : Nat) (o : Oper), its[q]? = some (.op i) → ops[i]? = some o → ∃ d p g, cs[i]? = some (AOper.mk d p g) ∧ compDst N o.dst = some d ∧ compOp P o = some p ∧ compGuard ops N o.guard = some g ∧ tq (q + 1) = putT d (V i) (tq q) ∧
    ((wantedA g (tq q) = 1 ∧ V i = .tup [] ∧ sq (q + 1) = sq q) ∨ (wantedA g (tq q) = 2 ∧ opA p e rec (tq q) (sq q) = .ok (V i) (sq (q + 1))))
  chk : ∀ (q i : Nat), its[q]? = some (.chk i) → tq (q + 1) = tq q ∧ sq (q + 1) = sq q ∧ ∃ d p g, cs[i]? = some (AOper.mk (d + 1) p g) ∧ isLoad p = true ∧
    (wantedA g (tq q) = 1 ∨ (wantedA g (tq q) = 2 ∧ ∃ v s1, opA p e rec (tq q) (sq q) = .ok v s1 ∧ (tq q).get d = some v))

section
variable {P : Program} {e : Env} {rec : Rec} {N : Nat} {ops : Array Oper} {cs : List AOper} {its : List It} {al : List AOper} {tq : Nat → AT} {sq : Nat → St} {V : Nat → AV}

theorem wantedA_cases (g : Option (Nat × Bool)) (t : AT) : wantedA g t = 0 ∨ wantedA g t = 1 ∨ wantedA g t = 2 := by
  cases g with
  | none => exact .inr (.inr rfl)
  | some q =>
    obtain ⟨j, b⟩ := q
    show (Option.rec 0 (fun v => BR.rec (Bool.rec 1 0 (isAny v)) (Bool.rec 1 2 b) (Bool.rec 2 1 b) (asBool v)) (t.get j) : Nat) = 0 ∨ (Option.rec 0 (fun v => BR.rec (Bool.rec 1 0 (isAny v)) (Bool.rec 1 2 b) (Bool.rec 2 1 b) (asBool v)) (t.get j) : Nat) = 1 ∨ (Option.rec 0 (fun v => BR.rec (Bool.rec 1 0 (isAny v)) (Bool.rec 1 2 b) (Bool.rec 2 1 b) (asBool v)) (t.get j) : Nat) = 2
    cases t.get j with
    | none => exact .inl rfl
    | some v =>
      show (BR.rec (Bool.rec 1 0 (isAny v)) (Bool.rec 1 2 b) (Bool.rec 2 1 b) (asBool v) : Nat) = 0 ∨ (BR.rec (Bool.rec 1 0 (isAny v)) (Bool.rec 1 2 b) (Bool.rec 2 1 b) (asBool v) : Nat) = 1 ∨ (BR.rec (Bool.rec 1 0 (isAny v)) (Bool.rec 1 2 b) (Bool.rec 2 1 b) (asBool v) : Nat) = 2
      cases asBool v <;> cases b <;> cases isAny v <;> simp
theorem one_mk {d : Nat} {p : AOp} {g : Option (Nat × Bool)} {t t' : AT} {s s' : St} (h : opsA e rec [.mk d p g] t s = .ok t' s') :
    ∃ v, t' = putT d v t ∧ ((wantedA g t = 1 ∧ v = .tup [] ∧ s' = s) ∨ (wantedA g t = 2 ∧ opA p e rec t s = .ok v s')) := by
  rcases opsA_cons h with ⟨hw, h⟩ | ⟨hw, v, s1, ho, h⟩
  · cases h; exact ⟨_, rfl, .inl ⟨hw, rfl, rfl⟩⟩
  · cases h; exact ⟨v, rfl, .inr ⟨hw, ho⟩⟩
theorem one_chk {d : Nat} {p : AOp} {g : Option (Nat × Bool)} {t t' : AT} {s s' : St} (h : opsA e rec [.chk d p g] t s = .ok t' s') :
    t' = t ∧ s' = s ∧ (wantedA g t = 1 ∨ (wantedA g t = 2 ∧ ∃ v s1, opA p e rec t s = .ok v s1 ∧ t.get d = some v)) := by
  change (Nat.rec .fail (fun w _ => Nat.rec (RT.ok t s) (fun _ _ => RV.rec .fail (fun v _ => Option.rec .fail (fun v0 => Bool.rec .fail (RT.ok t s) (eqV v v0)) (t.get d)) (opA p e rec t s)) w) (wantedA g t) : RT) = .ok t' s' at h
  rcases wantedA_cases g t with hw | hw | hw
  · rw [hw] at h; cases h
  · rw [hw] at h; cases h; exact ⟨rfl, rfl, .inl hw⟩
  · rw [hw] at h
    change (RV.rec .fail (fun v _ => Option.rec .fail (fun v0 => Bool.rec .fail (RT.ok t s) (eqV v v0)) (t.get d)) (opA p e rec t s) : RT) = .ok t' s' at h
    cases ho : opA p e rec t s with
    | fail => rw [ho] at h; cases h
    | ok v s1 =>
      rw [ho] at h
      change (Option.rec .fail (fun v0 => Bool.rec .fail (RT.ok t s) (eqV v v0)) (t.get d) : RT) = .ok t' s' at h
      cases hg : t.get d with
      | none => rw [hg] at h; cases h
      | some v0 =>
        rw [hg] at h
        change (Bool.rec .fail (RT.ok t s) (eqV v v0) : RT) = .ok t' s' at h
        cases hq : eqV v v0 with
        | false => rw [hq] at h; cases h
        | true => rw [hq] at h; cases h; exact ⟨rfl, rfl, .inr ⟨hw, v, s1, rfl, by rw [eqV_eq hq]⟩⟩

theorem ran_of (hp : Plan P N ops cs its al) {t t' : AT} {s s' : St} (h : opsA e rec al t s = .ok t' s') :
    ∃ tq sq V, Ran P e rec N ops cs its tq sq V ∧ tq 0 = t ∧ sq 0 = s ∧ tq its.length = t' ∧ sq its.length = s' := by
  obtain ⟨tq, sq, e1, e2, e3, e4, e5⟩ := run_states h
  have hst : ∀ (q : Nat) (x : It), its[q]? = some x → ∃ a, mkItem cs x = some a ∧ opsA e rec [a] (tq q) (sq q) = .ok (tq (q + 1)) (sq (q + 1)) := by
    intro q x hq
    obtain ⟨a, h1, h2⟩ := hp.al_get q x hq
    exact ⟨a, h2, e5 q a h1⟩
  have hV : ∀ i, ∃ v, ∀ (q : Nat) (o : Oper), its[q]? = some (.op i) → ops[i]? = some o → ∃ d p g, cs[i]? = some (AOper.mk d p g) ∧ compDst N o.dst = some d ∧ compOp P o = some p ∧ compGuard ops N o.guard = some g ∧ tq (q + 1) = putT d v (tq q) ∧
      ((wantedA g (tq q) = 1 ∧ v = .tup [] ∧ sq (q + 1) = sq q) ∨ (wantedA g (tq q) = 2 ∧ opA p e rec (tq q) (sq q) = .ok v (sq (q + 1)))) := by
    intro i
    by_cases hi : i < ops.size
    · obtain ⟨q, hq⟩ := hp.has i hi
      obtain ⟨o, ho⟩ : ∃ o, ops[i]? = some o := ⟨ops[i], by simp [hi]⟩
      obtain ⟨d, p, g, c1, c2, c3, c4⟩ := hp.cs_get i o ho
      obtain ⟨a, h1, h2⟩ := hst q _ hq
      have ha : a = .mk d p g := by simp only [mkItem, c1] at h1; exact (Option.some.inj h1).symm
      subst ha
      obtain ⟨v, v1, v2⟩ := one_mk h2
      refine ⟨v, fun q' o' hq' ho' => ?_⟩
      have hqq : q' = q := by
        rcases Nat.lt_trichotomy q' q with hlt | heq | hgt
        · exact absurd rfl (hp.ne q' q i i hlt hq' hq)
        · exact heq
        · exact absurd rfl (hp.ne q q' i i hgt hq hq')
      subst hqq
      rw [ho] at ho'; cases ho'
      exact ⟨d, p, g, c1, c2, c3, c4, v1, v2⟩
    · exact ⟨.nilp, fun q o hq ho => absurd (Array.getElem?_eq_some_iff.1 ho).1 hi⟩
  obtain ⟨V, hV⟩ := Classical.axiomOfChoice hV
  refine ⟨tq, sq, V, ⟨fun q i o hq ho => hV i q o hq ho, ?_⟩, e1, e2, by rw [← hp.al_len]; exact e3, by rw [← hp.al_len]; exact e4⟩
  intro q i hq
  obtain ⟨a, h1, h2⟩ := hst q _ hq
  simp only [mkItem] at h1
  split at h1
  · rename_i d p g hc
    split at h1
    · rename_i hl
      cases h1
      obtain ⟨c1, c2, c3⟩ := one_chk h2
      exact ⟨c1, c2, d, p, g, hc, hl, c3⟩
    · cases h1
  · cases h1

/-- a slot's value comes of a writer before, or of the start -/
theorem slot_of (hp : Plan P N ops cs its al) (hr : Ran P e rec N ops cs its tq sq V) (x : Nat) (v : AV) : ∀ q, q ≤ its.length → (tq q).get x = some v →
    (∃ q' j o, q' < q ∧ its[q']? = some (.op j) ∧ ops[j]? = some o ∧ o.dst = some x ∧ v = V j) ∨ ((tq 0).get x = some v ∧ ∀ (q' j : Nat) (o : Oper), q' < q → its[q']? = some (.op j) → ops[j]? = some o → o.dst ≠ some x) := by
  intro q
  induction q with
  | zero => intro _ h; exact .inr ⟨h, fun q' j o hlt => by omega⟩
  | succ q ih =>
    intro hq h
    have hlt : q < its.length := by omega
    obtain ⟨y, hy⟩ : ∃ y, its[q]? = some y := ⟨its[q], by simp [hlt]⟩
    have lift : (tq q).get x = some v → (∀ (j : Nat) (o : Oper), its[q]? = some (.op j) → ops[j]? = some o → o.dst ≠ some x) → ((∃ q' j o, q' < q + 1 ∧ its[q']? = some (.op j) ∧ ops[j]? = some o ∧ o.dst = some x ∧ v = V j) ∨ ((tq 0).get x = some v ∧ ∀ (q' j : Nat) (o : Oper), q' < q + 1 → its[q']? = some (.op j) → ops[j]? = some o → o.dst ≠ some x)) := fun h0 hn => by
      rcases ih (by omega) h0 with ⟨q', j, o, a1, a2⟩ | ⟨a1, a2⟩
      · exact Or.inl ⟨q', j, o, Nat.lt_succ_of_lt a1, a2⟩
      · exact Or.inr ⟨a1, fun q' j o hq' hj ho => by
          rcases Nat.lt_succ_iff_lt_or_eq.1 hq' with h1 | h1
          · exact a2 q' j o h1 hj ho
          · subst h1; exact hn j o hj ho⟩
    cases y with
    | chk i =>
      rw [(hr.chk q i hy).1] at h
      exact lift h (fun j o hj => by rw [hy] at hj; cases hj)
    | op i =>
      obtain ⟨o, ho⟩ : ∃ o, ops[i]? = some o := ⟨ops[i]'(hp.lt q i hy), by simp [hp.lt q i hy]⟩
      obtain ⟨d, p, g, c1, c2, c3, c4, c5, _⟩ := hr.op q i o hy ho
      rw [c5] at h
      cases hd : o.dst with
      | none =>
        rw [hd] at c2; cases c2
        exact lift h (fun j o' hj ho' => by rw [hy] at hj; cases hj; rw [ho] at ho'; cases ho'; rw [hd]; simp)
      | some z =>
        rw [hd] at c2
        simp only [compDst] at c2
        split at c2
        · cases c2
          rcases T.get_set (show ((tq q).set (V i) z).get x = some v from h) with ⟨rfl, rfl⟩ | ⟨hne, h⟩
          · exact .inl ⟨q, i, o, Nat.lt_succ_self _, hy, ho, hd, rfl⟩
          · exact lift h (fun j o' hj ho' => by rw [hy] at hj; cases hj; rw [ho] at ho'; cases ho'; rw [hd]; intro e; cases e; exact hne rfl)
        · cases c2
end
end Go.AM
