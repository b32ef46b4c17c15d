/-
  THE ABSTRACT MACHINE: contracts of functions. Definitions and plain lemmas.
-/
import Derived.Test.YtnnbibnobmegpaaAMRen
set_option linter.unusedVariables false
set_option linter.unusedSimpArgs false
namespace Go.AM
section
variable {P : Program}

def HasBody (P : Program) (f : Nat) : Prop := ∃ fn c, P.funcs[f]? = some fn ∧ fn.body = some c ∧ (fn.name == "runtime.NumGoroutine") = false
/-- what a call does from a state of the machine on -/
def C (P : Program) (f : Nat) (args : List AV) (s : St) (Q : AV → St → Prop) : Prop :=
  ∀ (γ : Gam) (vals : List Value) (w : World) (m : Nat), All2 (VR γ) args vals → Sim P γ s w → CallsIn Fence.wide m P f vals.toArray w (fun e w' => ∃ v s', Q v s' ∧ CallPost P γ s w v s' e w')
theorem C.mono {f : Nat} {args : List AV} {s : St} {Q Q' : AV → St → Prop} (h : C P f args s Q) (hq : ∀ v s, Q v s → Q' v s) : C P f args s Q' :=
  fun γ vals w m h1 h2 => CallsIn.mono (h γ vals w m h1 h2) fun _ _ ⟨v, s', q, p⟩ => ⟨v, s', hq _ _ q, p⟩

/-- how a body ends -/
def Ends (res : List ARes) (Q : AV → St → Prop) (x : Ex) (t : AT) (s : St) (ds : List Nat) : Prop :=
  (x = .normal ∨ x = .ret) ∧ ∃ s2 l, quit ds s = some s2 ∧ resA t s2 res = some l ∧ Q (one l) s2
theorem C.of_W {f : Nat} {fn : Func} {code : AC} {res : List ARes} {args : List AV} {s : St} {Q : AV → St → Prop} (hf : P.funcs[f]? = some fn) (hc : compF P fn = some (.mk code res))
    (h : W P s.next none code (initT args 0 .lf) s [] (Ends res Q)) : C P f args s Q := by
  intro γ vals w m hA hs
  unfold compF at hc
  split at hc
  · rename_i b hb
    split at hc
    · rename_i cd rs hcd hrs
      cases hc
      refine callsIn_of_wp_marks hf hb trivial ?_
      have hTR : TR γ (initT args 0 .lf) (vals.toArray ++ Array.replicate (fn.ntmps - vals.toArray.size) undef) := by
        refine initT_TR args vals _ 0 .lf hA (TR_lf _) ?_
        intro j u hj
        rw [Nat.zero_add, Array.getElem?_append]
        have hlt := (List.getElem?_eq_some_iff.1 hj).1
        rw [if_pos (by simpa using hlt)]
        simpa using hj
      have hsz : fn.ntmps ≤ (vals.toArray ++ Array.replicate (fn.ntmps - vals.toArray.size) undef).size := by simp; omega
      have hw := h fn.ntmps b γ w { tmps := vals.toArray ++ Array.replicate (fn.ntmps - vals.toArray.size) undef, defers := [] } none γ s w m hcd hsz hTR hs rfl .nil (.refl _ _ _) rfl hs.nx
      refine wpIn_mono hw ?_
      rintro ex a' w' ⟨x, t', s', ds', ⟨hx, s2, l, hq, hl, hQ⟩, rfl, _, γ', hst, hsim, ht, hd⟩
      have fin : LeavesInM Fence.wide m P fn a'.tmps (fun e w' => ∃ v s', Q v s' ∧ CallPost P γ s w v s' e w') a'.defers .returning w' := by
        exact leaves_sound (s2 := s2) hrs (fun e w' hp => ⟨_, _, hQ, hp⟩) m ds' a'.defers s' w' hd hq hsim hst ht hl
      rcases hx with rfl | rfl
      · exact fin
      · exact fin
    · cases hc
  · cases hc
end
end Go.AM
