/-
  THE ABSTRACT MACHINE: regions that draw: the plan's run, step by step. Plain lemmas.
-/
import Derived.Test.YtnnbibnobmegpaaAMDraw2
set_option linter.unusedVariables false
set_option linter.unusedSimpArgs false
namespace Go.AM

/-- what the checks say of a plan -/
structure Plan (P : Program) (N : Nat) (ops : Array Oper) (cs : List AOper) (its : List It) (al : List AOper) : Prop where
  cs_get : ∀ (i : Nat) (o : Oper), ops[i]? = some o → ∃ d p g, cs[i]? = some (AOper.mk d p g) ∧ compDst N o.dst = some d ∧ compOp P o = some p ∧ compGuard ops N o.guard = some g
  back : backOk ops.toList 0 = true
  has : ∀ i, i < ops.size → ∃ q : Nat, its[q]? = some (.op i)
  lt : ∀ (q i : Nat), its[q]? = some (.op i) → i < ops.size
  reads : ∀ (q i j : Nat) (oi oj : Oper) (x : Nat), its[q]? = some (.chk i) → ops[i]? = some oi → ops[j]? = some oj → oj.dst = some x → x ∈ slotsR ops oi → ((befores ops.toList []).getD i 0).testBit j = true
  self : ∀ (q i : Nat) (o : Oper) (x : Nat), its[q]? = some (.op i) → ops[i]? = some o → o.dst = some x → x ∉ slotsR ops o
  ne : ∀ (q' q j i : Nat), q' < q → its[q']? = some (.op j) → its[q]? = some (.op i) → i ≠ j
  eff : ∀ (q' q j i : Nat), q' < q → its[q']? = some (.op j) → its[q]? = some (.op i) → effAt cs j = true → ((befores ops.toList []).getD i 0).testBit j = true
  dst : ∀ (q' q j i : Nat) (oj oi : Oper) (x : Nat), q' < q → its[q']? = some (.op j) → its[q]? = some (.op i) → ops[j]? = some oj → ops[i]? = some oi → oj.dst = some x → oi.dst ≠ some x
  rd1 : ∀ (q' q j i : Nat) (oj oi : Oper) (x : Nat), q' < q → its[q']? = some (.op j) → its[q]? = some (.op i) → ops[j]? = some oj → ops[i]? = some oi → oj.dst = some x → x ∈ slotsR ops oi → ((befores ops.toList []).getD i 0).testBit j = true
  rd2 : ∀ (q' q j i : Nat) (oj oi : Oper) (x : Nat), q' < q → its[q']? = some (.op j) → its[q]? = some (.op i) → ops[j]? = some oj → ops[i]? = some oi → oi.dst = some x → x ∈ slotsR ops oj → ((befores ops.toList []).getD i 0).testBit j = true
  loads : ∀ (q i : Nat), its[q]? = some (.op i) → loadAt cs i = true → chksOf (befores ops.toList []) cs i (its.drop (q + 1)) = true
  al_len : al.length = its.length
  al_get : ∀ (q : Nat) (x : It), its[q]? = some x → ∃ a, al[q]? = some a ∧ mkItem cs x = some a

section
variable {P : Program} {N : Nat} {ops : Array Oper} {cs : List AOper} {its : List It} {al : List AOper}
theorem ds_get {i : Nat} {o : Oper} (h : ops[i]? = some o) : (ops.toList.map (·.dst)).getD i none = o.dst := by
  rw [List.getD_eq_getElem?_getD, List.getElem?_map]; simp [h]
theorem rs_get {i : Nat} {o : Oper} (h : ops[i]? = some o) : (ops.toList.map (slotsR ops)).getD i [] = slotsR ops o := by
  rw [List.getD_eq_getElem?_getD, List.getElem?_map]; simp [h]

theorem plan_of (h : compDraw P N ops = some al) : ∃ cs its, Plan P N ops cs its al := by
  unfold compDraw at h
  split at h
  · cases h
  · rename_i cs hcs
    simp only at h
    split at h
    · rename_i hok
      refine ⟨cs, orderOf (befores ops.toList []) cs ops.size, ?_⟩
      generalize orderOf (befores ops.toList []) cs ops.size = its at h hok
      simp only [drawOk, Bool.and_eq_true] at hok
      obtain ⟨⟨⟨⟨h1, h2⟩, h3⟩, h4⟩, h5⟩ := hok
      obtain ⟨c1, c2⟩ := compOpers_get hcs
      obtain ⟨p1, p2⟩ := pairsOk_get h4
      obtain ⟨m1, m2⟩ := mkItems_get h
      have pr : ∀ (q' q j i : Nat) (oj oi : Oper), q' < q → its[q']? = some (.op j) → its[q]? = some (.op i) → ops[j]? = some oj → ops[i]? = some oi →
          (i ≠ j ∧ (((befores ops.toList []).getD i 0).testBit j = true ∨ effAt cs j = false)) ∧
          (∀ x, oj.dst = some x → oi.dst ≠ some x ∧ (((befores ops.toList []).getD i 0).testBit j = true ∨ x ∉ slotsR ops oi)) ∧
          (∀ x, oi.dst = some x → (((befores ops.toList []).getD i 0).testBit j = true ∨ x ∉ slotsR ops oj)) := by
        intro q' q j i oj oi hlt hq' hq hj hi
        have hp := p2 q' q j i hlt hq' hq
        simp only [pairOk, ds_get hj, ds_get hi, rs_get hj, rs_get hi, Bool.and_eq_true] at hp
        obtain ⟨⟨⟨a1, a2⟩, a3⟩, a4⟩ := hp
        refine ⟨⟨by simpa using a1, ?_⟩, ?_, ?_⟩
        · have a2' : (((befores ops.toList []).getD i 0).testBit j || !effAt cs j) = true := a2
          rw [Bool.or_eq_true] at a2'
          rcases a2' with a | a
          · exact .inl a
          · exact .inr (by simpa using a)
        · intro x hx
          rw [hx] at a3
          simp only [Bool.and_eq_true, Bool.or_eq_true, bne_iff_ne, ne_eq] at a3
          refine ⟨a3.1, a3.2.imp id fun hh => ?_⟩
          simpa using hh
        · intro x hx
          rw [hx] at a4
          simp only [Bool.or_eq_true] at a4
          refine a4.imp id fun hh => ?_
          simpa using hh
      have getO : ∀ i, i < ops.size → ∃ o, ops[i]? = some o := fun i hi => ⟨ops[i], by simp [hi]⟩
      have hlt : ∀ (q i : Nat), its[q]? = some (.op i) → i < ops.size := by
        intro q i hq
        have := List.all_eq_true.1 h3 _ (List.mem_of_getElem? hq)
        simpa using this
      have ne0 : ∀ (q' q j i : Nat), q' < q → its[q']? = some (.op j) → its[q]? = some (.op i) → i ≠ j := by
        intro q' q j i hl hq' hq
        obtain ⟨oj, hj⟩ := getO j (hlt _ _ hq')
        obtain ⟨oi, hi⟩ := getO i (hlt _ _ hq)
        exact (pr q' q j i oj oi hl hq' hq hj hi).1.1
      refine ⟨fun i o ho => c2 i o (by simpa using ho), h1, ?_, hlt, ?_, ?_, ne0, ?_, ?_, ?_, ?_, fun q i hq hl => loadsOk_get h5 q i hq hl, m1, m2⟩
      · intro i hi
        exact hasOp_get (List.all_eq_true.1 h2 i (by simpa using hi))
      · intro q i j oi oj x hq hi hj hx hm
        have := List.all_eq_true.1 h3 _ (List.mem_of_getElem? hq)
        simp only [readsOk] at this
        have hjlt : j < ops.size := (Array.getElem?_eq_some_iff.1 hj).1
        have := List.all_eq_true.1 this j (by simpa using hjlt)
        rw [ds_get hj, hx, rs_get hi] at this
        simp only [Bool.or_eq_true] at this
        rcases this with h | h
        · exact h
        · exact absurd hm (by simpa using h)
      · intro q i o x hq hi hx
        have := p1 q i hq
        simp only [selfOk, ds_get hi, hx, rs_get hi] at this
        simpa using this
      · intro q' q j i hl hq' hq he
        obtain ⟨oj, hj⟩ := getO j (hlt _ _ hq')
        obtain ⟨oi, hi⟩ := getO i (hlt _ _ hq)
        rcases (pr q' q j i oj oi hl hq' hq hj hi).1.2 with a | a
        · exact a
        · rw [he] at a; cases a
      · intro q' q j i oj oi x hl hq' hq hj hi hx
        exact ((pr q' q j i oj oi hl hq' hq hj hi).2.1 x hx).1
      · intro q' q j i oj oi x hl hq' hq hj hi hx hm
        rcases ((pr q' q j i oj oi hl hq' hq hj hi).2.1 x hx).2 with a | a
        · exact a
        · exact absurd hm a
      · intro q' q j i oj oi x hl hq' hq hj hi hx hm
        rcases (pr q' q j i oj oi hl hq' hq hj hi).2.2 x hx with a | a
        · exact a
        · exact absurd hm a
    · cases h
end

section
variable {e : Env} {rec : Rec}
theorem opsA_one {a : AOper} {l : List AOper} {t t' : AT} {s s' : St} (h : opsA e rec (a :: l) t s = .ok t' s') : ∃ t1 s1, opsA e rec [a] t s = .ok t1 s1 ∧ opsA e rec l t1 s1 = .ok t' s' := by
  have wnt : ∀ (g : Option (Nat × Bool)), wantedA g t = 0 ∨ wantedA g t = 1 ∨ wantedA g t = 2 := by
    intro g
    cases g with
    | none => exact .inr (.inr rfl)
    | some q =>
      obtain ⟨j, b⟩ := q
      show (Option.rec 0 (fun v => BR.rec (Bool.rec 1 0 (isAny v)) (Bool.rec 1 2 b) (Bool.rec 2 1 b) (asBool v)) (t.get j) : Nat) = 0 ∨ (Option.rec 0 (fun v => BR.rec (Bool.rec 1 0 (isAny v)) (Bool.rec 1 2 b) (Bool.rec 2 1 b) (asBool v)) (t.get j) : Nat) = 1 ∨ (Option.rec 0 (fun v => BR.rec (Bool.rec 1 0 (isAny v)) (Bool.rec 1 2 b) (Bool.rec 2 1 b) (asBool v)) (t.get j) : Nat) = 2
      cases t.get j with
      | none => exact .inl rfl
      | some v =>
        show (BR.rec (Bool.rec 1 0 (isAny v)) (Bool.rec 1 2 b) (Bool.rec 2 1 b) (asBool v) : Nat) = 0 ∨ (BR.rec (Bool.rec 1 0 (isAny v)) (Bool.rec 1 2 b) (Bool.rec 2 1 b) (asBool v) : Nat) = 1 ∨ (BR.rec (Bool.rec 1 0 (isAny v)) (Bool.rec 1 2 b) (Bool.rec 2 1 b) (asBool v) : Nat) = 2
        cases asBool v <;> cases b <;> cases isAny v <;> simp
  cases a with
  | mk d p g =>
    change (Nat.rec .fail (fun w _ => Nat.rec (opsA e rec l (putT d (.tup []) t) s) (fun _ _ => RV.rec .fail (fun v s' => opsA e rec l (putT d v t) s') (opA p e rec t s)) w) (wantedA g t) : RT) = .ok t' s' at h
    show ∃ t1 s1, (Nat.rec .fail (fun w _ => Nat.rec (RT.ok (putT d (.tup []) t) s) (fun _ _ => RV.rec .fail (fun v s' => RT.ok (putT d v t) s') (opA p e rec t s)) w) (wantedA g t) : RT) = .ok t1 s1 ∧ _
    rcases wnt g with hw | hw | hw
    · rw [hw] at h; cases h
    · rw [hw] at h ⊢; exact ⟨_, _, rfl, h⟩
    · rw [hw] at h ⊢
      change (RV.rec .fail (fun v s' => opsA e rec l (putT d v t) s') (opA p e rec t s) : RT) = .ok t' s' at h
      show ∃ t1 s1, (RV.rec .fail (fun v s' => RT.ok (putT d v t) s') (opA p e rec t s) : RT) = .ok t1 s1 ∧ _
      cases ho : opA p e rec t s with
      | fail => rw [ho] at h; cases h
      | ok v s1 => rw [ho] at h; exact ⟨_, _, rfl, h⟩
  | chk d p g =>
    change (Nat.rec .fail (fun w _ => Nat.rec (opsA e rec l t s) (fun _ _ => RV.rec .fail (fun v _ => Option.rec .fail (fun v0 => Bool.rec .fail (opsA e rec l t s) (eqV v v0)) (t.get d)) (opA p e rec t s)) w) (wantedA g t) : RT) = .ok t' s' at h
    show ∃ t1 s1, (Nat.rec .fail (fun w _ => Nat.rec (RT.ok t s) (fun _ _ => RV.rec .fail (fun v _ => Option.rec .fail (fun v0 => Bool.rec .fail (RT.ok t s) (eqV v v0)) (t.get d)) (opA p e rec t s)) w) (wantedA g t) : RT) = .ok t1 s1 ∧ _
    rcases wnt g with hw | hw | hw
    · rw [hw] at h; cases h
    · rw [hw] at h ⊢; exact ⟨_, _, rfl, h⟩
    · rw [hw] at h ⊢
      change (RV.rec .fail (fun v _ => Option.rec .fail (fun v0 => Bool.rec .fail (opsA e rec l t s) (eqV v v0)) (t.get d)) (opA p e rec t s) : RT) = .ok t' s' at h
      show ∃ t1 s1, (RV.rec .fail (fun v _ => Option.rec .fail (fun v0 => Bool.rec .fail (RT.ok t s) (eqV v v0)) (t.get d)) (opA p e rec t s) : RT) = .ok t1 s1 ∧ _
      cases ho : opA p e rec t s with
      | fail => rw [ho] at h; cases h
      | ok v s1 =>
        rw [ho] at h
        change (Option.rec .fail (fun v0 => Bool.rec .fail (opsA e rec l t s) (eqV v v0)) (t.get d) : RT) = .ok t' s' at h
        show ∃ t1 s1, (Option.rec .fail (fun v0 => Bool.rec .fail (RT.ok t s) (eqV v v0)) (t.get d) : RT) = .ok t1 s1 ∧ _
        cases hg : t.get d with
        | none => rw [hg] at h; cases h
        | some v0 =>
          rw [hg] at h
          change (Bool.rec .fail (opsA e rec l t s) (eqV v v0) : RT) = .ok t' s' at h
          show ∃ t1 s1, (Bool.rec .fail (RT.ok t s) (eqV v v0) : RT) = .ok t1 s1 ∧ _
          cases hq : eqV v v0 with
          | false => rw [hq] at h; cases h
          | true => rw [hq] at h; exact ⟨_, _, rfl, h⟩

theorem run_states : ∀ {al : List AOper} {t t' : AT} {s s' : St}, opsA e rec al t s = .ok t' s' → ∃ (tq : Nat → AT) (sq : Nat → St), tq 0 = t ∧ sq 0 = s ∧ tq al.length = t' ∧ sq al.length = s' ∧
    ∀ (q : Nat) (a : AOper), al[q]? = some a → opsA e rec [a] (tq q) (sq q) = .ok (tq (q + 1)) (sq (q + 1)) := by
  intro al
  induction al with
  | nil => intro t t' s s' h; cases h; exact ⟨fun _ => t, fun _ => s, rfl, rfl, rfl, rfl, fun q a h => by simp at h⟩
  | cons a al ih =>
    intro t t' s s' h
    obtain ⟨t1, s1, h1, h2⟩ := opsA_one h
    obtain ⟨tq, sq, e1, e2, e3, e4, e5⟩ := ih h2
    refine ⟨fun q => Nat.rec t (fun q _ => tq q) q, fun q => Nat.rec s (fun q _ => sq q) q, rfl, rfl, e3, e4, fun q b hb => ?_⟩
    cases q with
    | zero => simp at hb; subst hb; show opsA e rec [a] t s = .ok (tq 0) (sq 0); rw [e1, e2]; exact h1
    | succ q => exact e5 q b (by simpa using hb)
end
end Go.AM
