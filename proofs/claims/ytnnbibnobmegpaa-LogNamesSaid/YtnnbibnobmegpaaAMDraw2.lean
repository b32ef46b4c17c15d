/-
  THE ABSTRACT MACHINE: regions that draw: what the plan's checks say. Plain lemmas.
-/
import Derived.Test.YtnnbibnobmegpaaAMDraw1
set_option linter.unusedVariables false
set_option linter.unusedSimpArgs false
namespace Go.AM
section
variable {P : Program} {N : Nat}

/-! the operations, compiled -/
theorem compOpers_get {ops : Array Oper} : ∀ {l : List Oper} {cs : List AOper}, compOpers P N ops l = some cs → cs.length = l.length ∧ ∀ (i : Nat) (o : Oper), l[i]? = some o →
    ∃ d p g, cs[i]? = some (.mk d p g) ∧ compDst N o.dst = some d ∧ compOp P o = some p ∧ compGuard ops N o.guard = some g := by
  intro l
  induction l with
  | nil => intro cs h; cases h; exact ⟨rfl, fun i o h => by simp at h⟩
  | cons o l ih =>
    intro cs h
    simp only [compOpers] at h
    split at h
    · rename_i d p g r h1 h2 h3 h4
      cases h
      obtain ⟨hl, hr⟩ := ih h4
      refine ⟨by simp [hl], fun i o' hi => ?_⟩
      cases i with
      | zero => simp at hi; subst hi; exact ⟨d, p, g, by simp, h1, h2, h3⟩
      | succ i => simpa using hr i o' (by simpa using hi)
    · cases h
theorem mkItems_get {cs : List AOper} : ∀ {its : List It} {al : List AOper}, mkItems cs its = some al → al.length = its.length ∧ ∀ (q : Nat) (x : It), its[q]? = some x → ∃ a, al[q]? = some a ∧ mkItem cs x = some a := by
  intro its
  induction its with
  | nil => intro al h; cases h; exact ⟨rfl, fun q x h => by simp at h⟩
  | cons y its ih =>
    intro al h
    simp only [mkItems] at h
    split at h
    · rename_i a r h1 h2
      cases h
      obtain ⟨hl, hr⟩ := ih h2
      refine ⟨by simp [hl], fun q x hq => ?_⟩
      cases q with
      | zero => simp at hq; subst hq; exact ⟨a, by simp, h1⟩
      | succ q => simpa using hr q x (by simpa using hq)
    · cases h

/-! who stands before -/
theorem befores_app : ∀ (l : List Oper) (acc : List Nat), ∃ r, befores l acc = acc ++ r ∧ r.length = l.length := by
  intro l
  induction l with
  | nil => intro acc; exact ⟨[], by simp [befores], rfl⟩
  | cons o l ih =>
    intro acc
    obtain ⟨r, h1, h2⟩ := ih (acc ++ [edgeBits acc o.after.toList])
    exact ⟨edgeBits acc o.after.toList :: r, by simp [befores, h1], by simp [h2]⟩
theorem befores_get : ∀ (l : List Oper) (acc : List Nat) (i : Nat) (o : Oper), l[i]? = some o → ∃ pre, pre.length = acc.length + i ∧ (∀ k, k < acc.length + i → (befores l acc).getD k 0 = pre.getD k 0) ∧ (befores l acc).getD (acc.length + i) 0 = edgeBits pre o.after.toList := by
  intro l
  induction l with
  | nil => intro acc i o h; simp at h
  | cons o0 l ih =>
    intro acc i o h
    cases i with
    | zero =>
      simp at h; subst h
      obtain ⟨r, h1, h2⟩ := befores_app l (acc ++ [edgeBits acc o0.after.toList])
      refine ⟨acc, by simp, ?_, ?_⟩
      · intro k hk
        simp only [befores, h1]
        rw [List.append_assoc, List.getD_eq_getElem?_getD, List.getElem?_append_left (by omega), List.getD_eq_getElem?_getD]
      · simp only [befores, h1]
        rw [List.append_assoc, List.getD_eq_getElem?_getD, List.getElem?_append_right (by omega)]
        simp
    | succ i =>
      obtain ⟨pre, h1, h2, h3⟩ := ih (acc ++ [edgeBits acc o0.after.toList]) i o (by simpa using h)
      simp only [List.length_append, List.length_cons, List.length_nil] at h1 h2 h3
      refine ⟨pre, by omega, fun k hk => ?_, ?_⟩
      · simp only [befores]; exact h2 k (by omega)
      · simp only [befores]; rw [show acc.length + (i + 1) = acc.length + 1 + i by omega]; exact h3
theorem edgeBits_bit {acc : List Nat} {j : Nat} : ∀ {l : List Edge}, (edgeBits acc l).testBit j = true → ∃ e ∈ l, Region.binds .any e = true ∧ (j = e.on ∨ (acc.getD e.on 0).testBit j = true) := by
  intro l
  induction l with
  | nil => intro h; simp [edgeBits] at h
  | cons e l ih =>
    intro h
    simp only [edgeBits] at h
    split at h
    · rename_i hb
      rw [Nat.testBit_or, Nat.testBit_or, Bool.or_eq_true, Bool.or_eq_true] at h
      rcases h with (h | h) | h
      · rw [Nat.testBit_two_pow] at h
        exact ⟨e, by simp, hb, .inl (of_decide_eq_true h).symm⟩
      · exact ⟨e, by simp, hb, .inr h⟩
      · obtain ⟨e', h1, h2, h3⟩ := ih h; exact ⟨e', by simp [h1], h2, h3⟩
    · obtain ⟨e', h1, h2, h3⟩ := ih h; exact ⟨e', by simp [h1], h2, h3⟩

/-- by an edge that binds, or by one and more behind it -/
theorem before_step {ops : Array Oper} {i j : Nat} {o : Oper} (ho : ops[i]? = some o) (h : ((befores ops.toList []).getD i 0).testBit j = true) :
    ∃ e ∈ o.after.toList, Region.binds .any e = true ∧ (j = e.on ∨ (e.on < i ∧ ((befores ops.toList []).getD e.on 0).testBit j = true)) := by
  obtain ⟨pre, h1, h2, h3⟩ := befores_get ops.toList [] i o (by simpa using ho)
  simp only [List.length_nil, Nat.zero_add] at h1 h2 h3
  rw [h3] at h
  obtain ⟨e, he, hb, hj⟩ := edgeBits_bit h
  refine ⟨e, he, hb, ?_⟩
  rcases hj with hj | hj
  · exact .inl hj
  · by_cases hlt : e.on < i
    · rw [← h2 e.on hlt] at hj; exact .inr ⟨hlt, hj⟩
    · rw [List.getD_eq_getElem?_getD, List.getElem?_eq_none (by omega)] at hj; simp at hj

theorem backOk_get : ∀ {l : List Oper} {k : Nat}, backOk l k = true → ∀ (i : Nat) (o : Oper), l[i]? = some o → ∀ e ∈ o.after.toList, Region.binds .any e = true → e.on < k + i := by
  intro l
  induction l with
  | nil => intro k _ i o h; simp at h
  | cons o0 l ih =>
    intro k h i o ho e he hb
    simp only [backOk, Bool.and_eq_true] at h
    cases i with
    | zero =>
      simp at ho; subst ho
      have := List.all_eq_true.1 h.1 e he
      simpa [hb] using this
    | succ i => have := ih h.2 i o (by simpa using ho) e he hb; omega
theorem before_lt {ops : Array Oper} (hback : backOk ops.toList 0 = true) : ∀ (i j : Nat), i < ops.size → ((befores ops.toList []).getD i 0).testBit j = true → j < i := by
  intro i
  induction i using Nat.strongRecOn with
  | _ i ih =>
    intro j hi h
    obtain ⟨o, ho⟩ : ∃ o, ops[i]? = some o := ⟨ops[i], by simp [hi]⟩
    obtain ⟨e, he, hb, hj⟩ := before_step ho h
    have hlt := backOk_get hback i o (by simpa using ho) e he hb
    rcases hj with rfl | ⟨h1, h2⟩
    · omega
    · have := ih e.on (by omega) j (by omega) h2; omega

/-- the listed ones: with each, all that it stands behind -/
def Closed (ops : Array Oper) (D : Nat → Prop) : Prop := ∀ i o, ops[i]? = some o → D i → ∀ e ∈ o.after.toList, Region.binds .any e = true → D e.on
theorem closed_before {ops : Array Oper} {D : Nat → Prop} (hback : backOk ops.toList 0 = true) (hD : Closed ops D) : ∀ (i : Nat) (o : Oper), ops[i]? = some o → (∀ e ∈ o.after.toList, Region.binds .any e = true → D e.on) → ∀ j, ((befores ops.toList []).getD i 0).testBit j = true → D j := by
  intro i
  induction i using Nat.strongRecOn with
  | _ i ih =>
    intro o ho hr j h
    obtain ⟨e, he, hb, hj⟩ := before_step ho h
    have hde := hr e he hb
    rcases hj with rfl | ⟨h1, h2⟩
    · exact hde
    · have hi : i < ops.size := (Array.getElem?_eq_some_iff.1 ho).1
      have hlt : e.on < ops.size := by omega
      obtain ⟨o', ho'⟩ : ∃ o', ops[e.on]? = some o' := ⟨ops[e.on], by simp [hlt]⟩
      exact ih e.on h1 o' ho' (hD e.on o' ho' hde) j h2
theorem closed_of {ops : Array Oper} {D : Nat → Prop} (hback : backOk ops.toList 0 = true) (hD : Closed ops D) {i j : Nat} (hi : i < ops.size) (hd : D i) (h : ((befores ops.toList []).getD i 0).testBit j = true) : D j := by
  obtain ⟨o, ho⟩ : ∃ o, ops[i]? = some o := ⟨ops[i], by simp [hi]⟩
  exact closed_before hback hD i o ho (hD i o ho hd) j h

/-! the plan -/
theorem pairsOk_get {bf : List Nat} {cs : List AOper} {ds : List (Option Nat)} {rs : List (List Nat)} : ∀ {its : List It}, pairsOk bf cs ds rs its = true →
    (∀ (q : Nat) j, its[q]? = some (.op j) → selfOk ds rs j = true) ∧ ∀ (q' q : Nat) j i, q' < q → its[q']? = some (.op j) → its[q]? = some (.op i) → pairOk bf cs ds rs j i = true := by
  intro its
  induction its with
  | nil => intro _; exact ⟨fun q j h => by simp at h, fun q' q j i _ h => by simp at h⟩
  | cons x its ih =>
    intro h
    cases x with
    | chk k =>
      obtain ⟨h1, h2⟩ := ih h
      refine ⟨fun q j hq => ?_, fun q' q j i hlt hq' hq => ?_⟩
      · cases q with
        | zero => simp at hq
        | succ q => exact h1 q j (by simpa using hq)
      · cases q' with
        | zero => simp at hq'
        | succ q' =>
          cases q with
          | zero => omega
          | succ q => exact h2 q' q j i (by omega) (by simpa using hq') (by simpa using hq)
    | op k =>
      simp only [pairsOk, Bool.and_eq_true] at h
      obtain ⟨h1, h2⟩ := ih h.2
      refine ⟨fun q j hq => ?_, fun q' q j i hlt hq' hq => ?_⟩
      · cases q with
        | zero => simp at hq; subst hq; exact h.1.1
        | succ q => exact h1 q j (by simpa using hq)
      · cases q with
        | zero => omega
        | succ q =>
          cases q' with
          | zero =>
            simp at hq'; subst hq'
            exact List.all_eq_true.1 h.1.2 (.op i) (List.mem_of_getElem? (by simpa using hq))
          | succ q' => exact h2 q' q j i (by omega) (by simpa using hq') (by simpa using hq)
theorem hasOp_get {i : Nat} : ∀ {its : List It}, hasOp i its = true → ∃ q : Nat, its[q]? = some (.op i) := by
  intro its
  induction its with
  | nil => intro h; cases h
  | cons x its ih =>
    intro h
    cases x with
    | op j =>
      simp only [hasOp, Bool.or_eq_true] at h
      rcases h with h | h
      · exact ⟨0, by simp at h; simp [h]⟩
      · obtain ⟨q, hq⟩ := ih h; exact ⟨q + 1, by simpa using hq⟩
    | chk j => obtain ⟨q, hq⟩ := ih h; exact ⟨q + 1, by simpa using hq⟩
theorem segHas_get {cs : List AOper} {i : Nat} : ∀ {l : List It}, segHas cs i l = true → ∃ c : Nat, l[c]? = some (.chk i) ∧ ∀ k j, k < c → l[k]? = some (.op j) → effAt cs j = false := by
  intro l
  induction l with
  | nil => intro h; cases h
  | cons x l ih =>
    intro h
    cases x with
    | chk j =>
      simp only [segHas, Bool.or_eq_true] at h
      rcases h with h | h
      · exact ⟨0, by simp at h; simp [h], fun k j hk => by omega⟩
      · obtain ⟨c, h1, h2⟩ := ih h
        refine ⟨c + 1, by simpa using h1, fun k j' hk hj => ?_⟩
        cases k with
        | zero => simp at hj
        | succ k => exact h2 k j' (by omega) (by simpa using hj)
    | op j =>
      simp only [segHas, Bool.and_eq_true] at h
      obtain ⟨c, h1, h2⟩ := ih h.2
      refine ⟨c + 1, by simpa using h1, fun k j' hk hj => ?_⟩
      cases k with
      | zero => simp at hj; subst hj; simpa [effAt] using h.1
      | succ k => exact h2 k j' (by omega) (by simpa using hj)
theorem chksOf_get {bf : List Nat} {cs : List AOper} {i : Nat} : ∀ {l : List It}, chksOf bf cs i l = true → ∀ (q j : Nat), l[q]? = some (.op j) → effAt cs j = true → (bf.getD j 0).testBit i = false → ∃ c : Nat, q < c ∧ l[c]? = some (.chk i) ∧ ∀ k j', q < k → k < c → l[k]? = some (.op j') → effAt cs j' = false := by
  intro l
  induction l with
  | nil => intro _ q j h; simp at h
  | cons x l ih =>
    intro h q j hq he hb
    cases x with
    | chk k =>
      cases q with
      | zero => simp at hq
      | succ q =>
        obtain ⟨c, h1, h2, h3⟩ := ih h q j (by simpa using hq) he hb
        refine ⟨c + 1, by omega, by simpa using h2, fun k j' hk hk' hj => ?_⟩
        cases k with
        | zero => omega
        | succ k => exact h3 k j' (by omega) (by omega) (by simpa using hj)
    | op k =>
      simp only [chksOf, Bool.and_eq_true] at h
      cases q with
      | zero =>
        simp at hq; subst hq
        have h1 : (!effAt cs k || (bf.getD k 0).testBit i || segHas cs i l) = true := h.1
        rw [he, hb] at h1
        obtain ⟨c, c1, c2⟩ := segHas_get (by simpa using h1)
        refine ⟨c + 1, by omega, by simpa using c1, fun m j' hm hm' hj => ?_⟩
        cases m with
        | zero => omega
        | succ m => exact c2 m j' (by omega) (by simpa using hj)
      | succ q =>
        obtain ⟨c, h1, h2, h3⟩ := ih h.2 q j (by simpa using hq) he hb
        refine ⟨c + 1, by omega, by simpa using h2, fun k j' hk hk' hj => ?_⟩
        cases k with
        | zero => omega
        | succ k => exact h3 k j' (by omega) (by omega) (by simpa using hj)
theorem loadsOk_get {bf : List Nat} {cs : List AOper} : ∀ {its : List It}, loadsOk bf cs its = true → ∀ (q i : Nat), its[q]? = some (.op i) → loadAt cs i = true → chksOf bf cs i (its.drop (q + 1)) = true := by
  intro its
  induction its with
  | nil => intro _ q i h; simp at h
  | cons x its ih =>
    intro h q i hq hl
    cases x with
    | chk k =>
      cases q with
      | zero => simp at hq
      | succ q => simpa using ih h q i (by simpa using hq) hl
    | op k =>
      simp only [loadsOk, Bool.and_eq_true] at h
      cases q with
      | zero =>
        simp at hq; subst hq
        have h1 := h.1
        unfold loadAt at hl
        cases hc : cs[k]? with
        | none => rw [hc] at hl; cases hl
        | some c => rw [hc] at hl h1; simp only at hl h1; rw [hl] at h1; simpa using h1
      | succ q => simpa using ih h.2 q i (by simpa using hq) hl
end
end Go.AM
