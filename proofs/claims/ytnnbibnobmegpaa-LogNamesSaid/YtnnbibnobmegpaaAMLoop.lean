/-
  THE ABSTRACT MACHINE: loops, and states in a plain form. Definitions and plain lemmas.
-/
import Derived.Test.YtnnbibnobmegpaaAMPrim
set_option linter.unusedVariables false
set_option linter.unusedSimpArgs false
namespace Go.AM

/-- temporaries, by a list -/
noncomputable def ofL : List (Nat × AV) → AT
  | [] => .lf
  | p :: l => (ofL l).set p.2 p.1
theorem ofL_get : ∀ {l : List (Nat × AV)} {i : Nat} {v : AV}, (ofL l).get i = some v → ∃ p ∈ l, p.1 = i ∧ p.2 = v
  | [], i, v, h => by cases h
  | p :: l, i, v, h => by
    rcases T.get_set h with ⟨rfl, rfl⟩ | ⟨_, h⟩
    · exact ⟨p, by simp, rfl, rfl⟩
    · obtain ⟨q, hq, e⟩ := ofL_get h
      exact ⟨q, by simp [hq], e⟩
/-- which row stands for which -/
def nm (rs : List Nat) : Nat → Nat := fun j => getD rs j
  where getD : List Nat → Nat → Nat
    | [], _ => 0
    | x :: _, 0 => x
    | _ :: l, j + 1 => getD l j
theorem nm_get {rs : List Nat} {j r : Nat} (h : rs[j]? = some r) : nm rs j = r := by
  unfold nm
  induction rs generalizing j with
  | nil => simp at h
  | cons x l ih => cases j with
    | zero => simp at h; exact h
    | succ j => exact ih (by simpa using h)
@[reducible] def TmpOk (n : Nat) (rs : List Nat) (t : AT) : List (Nat × AV) → Prop
  | [] => True
  | p :: l => (bd n p.2 = true ∧ t.get p.1 = some (mapV (nm rs) p.2)) ∧ TmpOk n rs t l
@[reducible] def RowOk (n : Nat) (all : List Nat) (s : St) : List AObj → List Nat → Prop
  | [], [] => True
  | o :: l, r :: rs => (bdO 0 n o = true ∧ s.get r = some (mapO (nm all) o)) ∧ RowOk n all s l rs
  | _, _ => False
/-- a state, told in a plain form: its temporaries, its rows, and which they are -/
structure Abs (t : AT) (s : St) (tl : List (Nat × AV)) (os : List AObj) (rs : List Nat) : Prop where
  nd : rs.Nodup
  tmp : TmpOk os.length rs t tl
  row : RowOk os.length rs s os rs

theorem TmpOk.get {n : Nat} {rs : List Nat} {t : AT} : ∀ {l : List (Nat × AV)}, TmpOk n rs t l → ∀ p ∈ l, bd n p.2 = true ∧ t.get p.1 = some (mapV (nm rs) p.2)
  | [], _, p, hp => by simp at hp
  | q :: l, h, p, hp => by
    rcases List.mem_cons.1 hp with rfl | hp
    · exact h.1
    · exact TmpOk.get h.2 p hp
theorem RowOk.get {n : Nat} {all : List Nat} {s : St} : ∀ {l : List AObj} {rs : List Nat}, RowOk n all s l rs → l.length = rs.length ∧ ∀ (j : Nat) o, l[j]? = some o → ∃ r, rs[j]? = some r ∧ bdO 0 n o = true ∧ s.get r = some (mapO (nm all) o)
  | [], [], _ => ⟨rfl, fun j o h => by simp at h⟩
  | [], _ :: _, h => h.elim
  | _ :: _, [], h => h.elim
  | o :: l, r :: rs, h => by
    obtain ⟨h1, h2⟩ := RowOk.get h.2
    refine ⟨by simp [h1], fun j o' hj => ?_⟩
    cases j with
    | zero => simp at hj; subst hj; exact ⟨r, by simp, h.1⟩
    | succ j => simpa using h2 j o' (by simpa using hj)
theorem allocs0_next (os : List AObj) : (allocs St0 os).next = os.length := by rw [allocs_next]; show 0 + _ = _; omega
theorem Abs.ren {t : AT} {s : St} {tl : List (Nat × AV)} {os : List AObj} {rs : List Nat} (h : Abs t s tl os rs) : Ren 0 (nm rs) t s [] (ofL tl) (allocs St0 os) [] := by
  obtain ⟨hl, hr⟩ := h.row.get
  refine ⟨fun r hr => by omega, Nat.zero_le _, ?_, ?_, ?_, fun r hr => by omega, ⟨rfl, by simp⟩⟩
  · intro i j hi hj e
    rw [allocs0_next] at hi hj
    have e1 := nm_get (List.getElem?_eq_getElem (l := rs) (i := i) (by omega))
    have e2 := nm_get (List.getElem?_eq_getElem (l := rs) (i := j) (by omega))
    rw [e1, e2] at e
    exact (List.getElem_inj h.nd).1 e
  · intro i v hv
    obtain ⟨p, hp, rfl, rfl⟩ := ofL_get hv
    rw [allocs0_next]
    exact h.tmp.get p hp
  · intro r o ho
    have := allocs_ge os St0 (Nat.zero_le r) (fun _ _ => rfl) ho
    have hz : r - St0.next = r := Nat.sub_zero r
    rw [hz] at this
    obtain ⟨q, hq, hb, hg⟩ := hr r o this
    rw [allocs0_next, nm_get hq]
    exact ⟨(List.getElem?_eq_some_iff.1 this).1, hb, hg⟩

section
variable {P : Program} {rd : Option Nat} {ac : AC} {t : AT} {s : St} {Q : EQ}
/-- on from a state in a plain form -/
theorem W.abs (tl : List (Nat × AV)) (os : List AObj) (rs : List Nat) (h : Abs t s tl os rs) (hw : W P 0 rd ac (ofL tl) (allocs St0 os) [] Q) : W P 0 rd ac t s [] Q := W.ren h.ren hw
/-- a loop whose states are told in a plain form -/
theorem W.loopS {α : Type} (tl : α → List (Nat × AV)) (os : α → List AObj) (μ : α → Nat) (I : α → Prop) (x0 : α) (rs : List Nat) (h0 : I x0) (ha : Abs t s (tl x0) (os x0) rs)
    (hr : ∀ x, I x → W P 0 rd ac (ofL (tl x)) (allocs St0 (os x)) [] (Then (fun t s ds => ds = [] ∧ ∃ x', I x' ∧ μ x' < μ x ∧ ∃ rs, Abs t s (tl x') (os x') rs) Q)) : W P 0 rd (.loop ac) t s [] Q := by
  refine W.loop (fun n t s ds => ds = [] ∧ ∃ x, n = μ x ∧ I x ∧ ∃ rs, Abs t s (tl x) (os x) rs) (μ x0) ⟨rfl, x0, rfl, h0, rs, ha⟩ ?_
  rintro n t s ds ⟨rfl, x, rfl, hi, rs, ha⟩
  refine W.ren ha.ren ((hr x hi).mono ?_)
  intro y t s ds hq
  cases y with
  | normal =>
    obtain ⟨rfl, x', hi', hm, rs, ha⟩ := (show ds = [] ∧ ∃ x', I x' ∧ μ x' < μ x ∧ ∃ rs, Abs t s (tl x') (os x') rs from hq)
    exact ⟨μ x', hm, rfl, x', rfl, hi', rs, ha⟩
  | exit id => exact hq
  | ret => exact hq
end
end Go.AM
