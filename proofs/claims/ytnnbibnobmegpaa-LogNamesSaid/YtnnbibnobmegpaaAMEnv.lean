/-
  THE ABSTRACT MACHINE: its tables; laws without parameters. Plain lemmas.
-/
import Derived.Test.YtnnbibnobmegpaaAMHeap
import Derived.Below
import Derived.Lib.Overlaps
import Derived.Laws.Externs
set_option linter.unusedVariables false
set_option linter.unusedSimpArgs false
namespace Go.AM
open Go.RowKit
noncomputable def ofT {α : Type} : List (Nat × α) → T α
  | [] => .lf
  | p :: l => (ofT l).set p.2 p.1
theorem ofT_get {α : Type} : ∀ {l : List (Nat × α)} {f : Nat} {a : α}, (ofT l).get f = some a → ∃ p ∈ l, p.1 = f ∧ p.2 = a
  | [], _, _, h => by cases h
  | p :: l, f, a, h => by
    rcases T.get_set h with ⟨rfl, rfl⟩ | ⟨_, h⟩
    · exact ⟨p, by simp, rfl, rfl⟩
    · obtain ⟨q, hq, e⟩ := ofT_get h
      exact ⟨q, by simp [hq], e⟩
def GOk (P : Program) (p : Nat × AFn) : Prop := ∃ fn, P.funcs[p.1]? = some fn ∧ compF P fn = some p.2 ∧ (fn.name == "runtime.NumGoroutine") = false
def OOk (P : Program) (p : Nat × Ov) : Prop := OvOk P p.1 p.2
def XOk (P : Program) (p : Nat × Ov) : Prop := ∀ γ args vals s w v s', All2 (VR γ) args vals → Sim P γ s w → p.2 args s = .ok v s' →
    ∃ v' γ' w', (callFunc p.1 vals.toArray).run P w = .ok (.value v') w' ∧ Stp γ s w γ' s' w' ∧ Sim P γ' s' w' ∧ VR γ' v v'
def All {α : Type} (p : α → Prop) : List α → Prop
  | [] => True
  | x :: l => p x ∧ All p l
theorem All.get {α : Type} {p : α → Prop} : ∀ {l : List α}, All p l → ∀ x ∈ l, p x
  | [], _, x, h => by simp at h
  | y :: l, h, x, hx => by
    rcases List.mem_cons.1 hx with rfl | hx
    · exact h.1
    · exact All.get h.2 x hx
theorem envOk {P : Program} {e : Env} {gl : List (Nat × AFn)} {ol xl : List (Nat × Ov)} (hG : e.G = ofT gl) (hO : e.O = ofT ol) (hX : e.X = ofT xl) (g : All (GOk P) gl) (o : All (OOk P) ol) (x : All (XOk P) xl) : EnvOk P e := by
  refine ⟨fun f af h => ?_, fun f h hh => ?_, fun f h hh => ?_⟩
  · rw [hG] at h
    obtain ⟨p, hp, rfl, rfl⟩ := ofT_get h
    exact g.get p hp
  · rw [hO] at hh
    obtain ⟨p, hp, rfl, rfl⟩ := ofT_get hh
    exact OvOk.env (o.get p hp)
  · rw [hX] at hh
    obtain ⟨p, hp, rfl, rfl⟩ := ofT_get hh
    exact x.get p hp

/-- two slices in two rows do not overlap -/
theorem ovlO_ok {P : Program} {f tS tR el : Nat} {fn : Func} (hf : P.funcs[f]? = some fn) (hname : (fn.name == "runtime.NumGoroutine") = false) (hb : fn.body.isNone = true) (hn : Extern.findNext fn = none) (he : Extern.find fn = some (Extern.SlicesOverlaps.overlaps #[tS, tS] #[tR]))
    (hu : P.underlying tS = some (.slice el)) {sz : Nat} (hsz : szOf P el = some sz) : XOk P (f, ovlO) := by
  intro γ args vals s w v s' hA hs h
  have h : ovlO args s = .ok v s' := h
  unfold ovlO at h
  split at h
  · rename_i a b
    cases hA with
    | @cons _ va _ vs1 a1 hA => cases hA with
      | @cons _ vb _ vs2 a2 hA =>
        cases hA
        rcases sl_ok h with ⟨r, o, n, c, rfl, h⟩ | ⟨_, h⟩ | ⟨_, h⟩
        · rcases sl_ok h with ⟨r', o', n', c', rfl, h⟩ | ⟨_, h⟩ | ⟨_, h⟩
          · obtain ⟨hne, h⟩ := gd_ok h
            have hne : r ≠ r' := fun e => by rw [e, Nat.beq_refl] at hne; cases hne
            cases h1 : rowAt r s with
            | no => rw [h1] at h; cases h
            | row e1 cs1 =>
              rw [h1] at h
              cases h2 : rowAt r' s with
              | no => rw [h2] at h; cases h
              | row e2 cs2 =>
                rw [h2] at h
                cases cs2 with
                | nil => cases h
                | cons x cs2 =>
                  obtain ⟨rfl, rfl⟩ := ok_inj h
                  obtain ⟨L, cc, hL, hv1, _⟩ := slV a1
                  obtain ⟨L', cc', hL', hv2, _⟩ := slV a2
                  have g1 := rowAt_some h1
                  have g2 := rowAt_some h2
                  obtain ⟨c1, p1, p2, p3, p4, p5, _⟩ := hs.row g1 hL
                  obtain ⟨c2, q1, q2, q3, q4, q5, _⟩ := hs.row g2 hL'
                  have hbb := hs.inj r r' _ _ L L' g1 g2 rfl rfl hL hL' hne
                  refine ⟨.bool false, γ, w, ?_, .refl _ _ _, hs, .bool _⟩
                  rw [run_callFunc_extern hf hname hb hn he]
                  have := Lib.run_overlaps_apart (P := P) w tS tR el hu sz (run_sizeOf hsz) ⟨L.b, L.o + o, none⟩ ⟨L'.b, L'.o + o', none⟩ n cc n' cc' hbb e1 e2 c1.size c2.size
                    (by simp [World.shape?, p1]) (by simp [World.shape?, q1]) (by simp at q5; omega) (by simp [World.frozen?, p1]) (by simp [World.frozen?, p1])
                  rw [hv1, hv2, this]; rfl
          · cases h
          · cases h
        · cases h
        · cases h
  · cases h

/-- a law without parameters, by one run -/
noncomputable def isTrue (r : RV) : Bool := RV.rec false (fun v _ => BR.rec false true false (asBool v)) r
theorem isTrue_ok {r : RV} (h : isTrue r = true) : ∃ s', r = .ok (.bool true) s' := by
  cases r with
  | fail => cases h
  | ok v s =>
    have h : (BR.rec false true false (asBool v) : Bool) = true := h
    cases hb : asBool v with
    | no => rw [hb] at h; cases h
    | tt => rw [asBool_tt hb]; exact ⟨s, rfl⟩
    | ff => rw [hb] at h; cases h
theorem law_below {P : Program} {e : Env} (hE : EnvOk P e) (hm : P.follows .mixedOrders = true) {k f : Nat} (h : isTrue (callA e (exec e k) f [] St0) = true) (w : World) :
    Calls P f #[] w fun x w' => x = .returned (.bool true) ∧ Below w.heap.size w w' := by
  obtain ⟨s', h⟩ := isTrue_ok h
  have hc := (callA_sound (γ := ⟨fun _ => none, fun _ => none⟩) (vals := []) (exec_good hE hm k) hE .nil (sim0 (w := w) (fun b c h => by cases h)) h).2 0
  refine callsIn_wide.1 (CallsIn.mono hc ?_)
  rintro x w' ⟨v', γ', rfl, hst, _, hv⟩
  cases hv
  exact ⟨rfl, hst.os, hst.tape, hst.output, hst.size, fun b hb => hst.blk b hb (fun r L hL => by cases hL)⟩
end Go.AM
