/-
  THE ABSTRACT MACHINE: what a call hands back, as cells that stay. Definitions and plain lemmas.
-/
import Derived.Test.YtnnbibnobmegpaaAMFrame
set_option linter.unusedVariables false
set_option linter.unusedSimpArgs false
namespace Go.AM
section
variable {P : Program}

/-- a value of rows, as one of cells that stay -/
inductive Frz (s : St) : AV → AV → Prop
  | plain (v : AV) : hf v = true → Frz s v v
  | sl (r o n : Nat) (cap cap' : Option Nat) (e : Nat) (cs l us : List AV) : s.get r = some (.row e cs) → (∀ (i : Nat) x, l[i]? = some x → cs[o + i]? = some x) → All2 (Frz s) l us → (cap' = none ∨ cap' = cap) → Frz s (.sl r o n cap) (.fz n cap' us)
  | agg (l us : List AV) : All2 (Frz s) l us → Frz s (.agg l) (.agg us)
  | tup (l us : List AV) : All2 (Frz s) l us → Frz s (.tup l) (.tup us)

mutual
theorem Frz.hf {s : St} : ∀ {v u : AV}, Frz s v u → hf u = true
  | _, _, .plain v h => h
  | _, _, .sl .. => rfl
  | _, _, .agg l us h => Frz.hfs h
  | _, _, .tup l us h => Frz.hfs h
theorem Frz.hfs {s : St} : ∀ {l us : List AV}, All2 (Frz s) l us → hfs us = true
  | _, _, .nil => rfl
  | _, _, .cons a b => by
    simp only [AM.hfs, Bool.and_eq_true]
    exact ⟨Frz.hf a, Frz.hfs b⟩
end

variable {γ γ2 : Gam} {s : St} {w : World}
mutual
theorem Frz.VR (hs : Sim P γ s w) (hz : ∀ b c, γ.fz b = some c → γ2.fz b = some c) (hr : ∀ r e cs L c, s.get r = some (.row e cs) → γ r = some L → w.heap[L.b]? = some (.cells c e (0, 0)) → γ2.fz L.b = some c) :
    ∀ {v u : AV} {v' : Value}, Frz s v u → VR γ v v' → VR γ2 u v'
  | _, _, _, .plain v h, hv => VR_hf hz v h hv
  | _, _, _, .sl r o n cap cap' e cs l us h1 h2 h3 h4, hv => by
    obtain ⟨L, cc, hL, hval, hck⟩ := slV hv
    obtain ⟨c, e1, e2, e3, e4, e5, e6⟩ := hs.row h1 hL
    have hnc : n ≤ cc := by
      cases hv with
      | sl _ _ _ c' L' e a => injection hval with _ _ q; omega
      | slu _ _ _ c' L' e a b d => injection hval with _ _ q; omega
    rw [hval, e2, Nat.zero_add]
    have hz2 := hr r e cs L c h1 hL e1
    -- the values
    have hx : ∀ (l us : List AV) (k : Nat), (∀ (i : Nat) x, l[i]? = some x → cs[k + i]? = some x) → All2 (Frz s) l us → ∃ vs : List Value, (∀ (j : Nat) (u : Value), vs[j]? = some u → c[k + j]? = some u) ∧ (∀ u ∈ vs, u.oneCell' = true) ∧ All2 (AM.VR γ) l vs := by
      intro l
      induction l with
      | nil => intro us k _ _; exact ⟨[], by simp, by simp, .nil⟩
      | cons x l ih =>
        intro us k hl h
        cases h with
        | cons ha hb =>
          obtain ⟨vs, q1, q2, q3⟩ := ih _ (k + 1) (fun i y hy => by rw [Nat.add_assoc, Nat.add_comm 1 i]; exact hl (i + 1) y (by simpa using hy)) hb
          obtain ⟨v', p1, p2, p3⟩ := e6 k x (by simpa using hl 0 x (by simp))
          refine ⟨v' :: vs, ?_, ?_, .cons p2 q3⟩
          · intro j u hj
            cases j with
            | zero => simp at hj; subst hj; simpa using p1
            | succ j => rw [show k + (j + 1) = k + 1 + j by omega]; exact q1 j u (by simpa using hj)
          · intro u hu
            rcases List.mem_cons.1 hu with rfl | hu
            · exact p3
            · exact q2 u hu
    obtain ⟨vs, q1, q2, q3⟩ := hx l us o h2 h3
    refine .fz n cap' us vs L.b o cc c hz2 q1 q2 (Frz.VRs hs hz hr h3 q3) hnc ?_ (Frz.hfs h3)
    intro k hk
    rcases h4 with h4 | h4
    · rw [h4] at hk; cases hk
    · rw [h4] at hk; exact hck k hk
  | _, _, _, .agg l us h, hv => by
    cases hv with
    | agg _ a e o => exact .agg us a (Frz.VRs hs hz hr h e) o
  | _, _, _, .tup l us h, hv => by
    cases hv with
    | tup _ a e => exact .tup us a (Frz.VRs hs hz hr h e)
theorem Frz.VRs (hs : Sim P γ s w) (hz : ∀ b c, γ.fz b = some c → γ2.fz b = some c) (hr : ∀ r e cs L c, s.get r = some (.row e cs) → γ r = some L → w.heap[L.b]? = some (.cells c e (0, 0)) → γ2.fz L.b = some c) :
    ∀ {l us : List AV} {m : List Value}, All2 (Frz s) l us → All2 (AM.VR γ) l m → All2 (AM.VR γ2) us m
  | _, _, _, .nil, hv => by cases hv; exact .nil
  | _, _, _, .cons a b, hv => by
    cases hv with
    | cons p q => exact .cons (Frz.VR hs hz hr a p) (Frz.VRs hs hz hr b q)
end

/-- a contract at no rows hands back cells that stay -/
theorem C.freeze {f : Nat} {args : List AV} {u : AV} (ha : hfs args = true) (h : C P f args St0 (fun v s' => Frz s' v u)) : C P f args St0 (fun v s' => v = u ∧ s' = allocs St0 []) := by
  intro γ vals w m hA hs
  have hA' := VR_hfs (γ := γ) (γ2 := ⟨fun _ => none, γ.fz⟩) (fun _ _ e => e) args ha hA
  refine CallsIn.mono (h ⟨fun _ => none, γ.fz⟩ vals w m hA' (sim0 hs.fzc)) ?_
  rintro e w' ⟨v, s', hF, v', γ', rfl, hst, hsim, hv⟩
  let γ2 : Gam := ⟨γ, fun b => match γ'.fz b with
    | some c => some c
    | none => if w.heap.size ≤ b then (match w'.heap[b]? with | some (.cells c _ _) => some c | _ => none) else none⟩
  have hz : ∀ b c, γ'.fz b = some c → γ2.fz b = some c := fun b c e => by
    show (match γ'.fz b with | some c => some c | none => _) = some c
    rw [e]
  have hnew : ∀ r L, γ' r = some L → w.heap.size ≤ L.b := fun r L e => by
    rcases (hst.new r L e rfl).2 with h | ⟨_, _, h, _⟩
    · exact h
    · cases h
  have hfz2 : ∀ b c, γ2.fz b = some c → γ'.fz b = some c ∨ (γ'.fz b = none ∧ w.heap.size ≤ b ∧ ∃ e fr, w'.heap[b]? = some (.cells c e fr)) := by
    intro b c e
    have e : (match γ'.fz b with
      | some c => some c
      | none => if w.heap.size ≤ b then (match w'.heap[b]? with | some (.cells c _ _) => some c | _ => none) else none) = some c := e
    cases h1 : γ'.fz b with
    | some c' => rw [h1] at e; exact .inl e
    | none =>
      rw [h1] at e
      simp only at e
      split at e
      · rename_i hle
        split at e
        · rename_i c' t fr hc; cases e; exact .inr ⟨rfl, hle, t, fr, hc⟩
        · cases e
      · cases e
  refine ⟨u, St0, ⟨rfl, rfl⟩, v', γ2, rfl, ?_, ?_, ?_⟩
  · refine ⟨⟨fun r L e => e, fun b c e => hz b c (hst.le.fz b c e)⟩, fun r L e e0 => ?_, Nat.le_refl _, hst.size, hst.os, hst.tape, hst.output, fun b hb _ => hst.blk b hb (fun r L e => by cases e), fun _ _ _ => rfl, fun b c e e0 => ?_⟩
    · have e' : γ r = some L := e
      rw [e0] at e'; cases e'
    · rcases hfz2 b c e with h | ⟨_, h, _⟩
      · exact hst.fzn b c h e0
      · exact h
  · refine ⟨fun r o L h => (by cases h), fun r r' o o' L L' h => (by cases h), fun r L e => ?_, fun r hr => hs.nx r hr, fun r o h => (by cases h), fun b c e => ?_, fun r o L h => (by cases h)⟩
    · exact Nat.lt_of_lt_of_le (hs.lt r L e) hst.size
    · rcases hfz2 b c e with h | ⟨_, _, h⟩
      · exact hsim.fzc b c h
      · exact h
  · refine Frz.VR hsim hz ?_ hF hv
    intro r e cs L c h1 hL hc
    show (match γ'.fz L.b with
      | some c => some c
      | none => if w.heap.size ≤ L.b then (match w'.heap[L.b]? with | some (.cells c _ _) => some c | _ => none) else none) = some c
    cases h2 : γ'.fz L.b with
    | some c' =>
      obtain ⟨e', fr', hc'⟩ := hsim.fzc L.b c' h2
      rw [hc] at hc'; cases hc'; rfl
    | none => simp only; rw [if_pos (hnew r L hL), hc]

/-- what is handed back stays, at any rows -/
theorem C.pure {f : Nat} {args : List AV} {u : AV} (ha : hfs args = true) (hu : hf u = true) (h : C P f args St0 (fun v s' => Frz s' v u)) (s : St) : C P f args s (fun v s' => v = u ∧ s' = s) := by
  refine (C.frame (l := []) ha (by simp) (.inr rfl) (C.freeze ha h) (fun i o h => by simp at h) s).mono ?_
  rintro v s' ⟨rfl, rfl⟩
  exact ⟨hf_mapV u hu, rfl⟩

/-- an override that is a function's own doing -/
def OvOk (P : Program) (f : Nat) (h : Ov) : Prop := HasBody P f ∧ ∀ args s v s', h args s = .ok v s' → C P f args s (fun v' s'' => v' = v ∧ s'' = s')
theorem OvOk.env {f : Nat} {h : Ov} (hO : OvOk P f h) : (∃ fn c, P.funcs[f]? = some fn ∧ fn.body = some c ∧ (fn.name == "runtime.NumGoroutine") = false) ∧
    ∀ γ args vals s w v s', All2 (VR γ) args vals → Sim P γ s w → h args s = .ok v s' → ∀ m, CallsIn Fence.wide m P f vals.toArray w (CallPost P γ s w v s') := by
  refine ⟨hO.1, fun γ args vals s w v s' hA hs he m => ?_⟩
  refine CallsIn.mono (hO.2 args s v s' he γ vals w m hA hs) ?_
  rintro e w' ⟨v1, s1, ⟨rfl, rfl⟩, hp⟩
  exact hp
end
end Go.AM
