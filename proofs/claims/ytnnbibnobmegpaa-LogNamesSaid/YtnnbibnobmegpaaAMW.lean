/-
  THE ABSTRACT MACHINE: a logic of its states. Definitions and plain lemmas.
-/
import Derived.Test.YtnnbibnobmegpaaAMDraw7
set_option linter.unusedVariables false
set_option linter.unusedSimpArgs false
namespace Go.AM

/-- which code a machine's code came from -/
def CodeOf (P : Program) (N : Nat) (c : Code) : AC → Prop
  | .skip => c = .skip
  | .reg _ => ∃ id ops dr, c = .region id ops dr ∨ comp P N c = some badC
  | .seq a b => ∃ c1 c2, c = .seq c1 c2 ∧ comp P N c1 = some a ∧ comp P N c2 = some b
  | .cond x a b => ∃ y c1 c2, c = .cond y c1 c2 ∧ aop y = some x ∧ comp P N c1 = some a ∧ comp P N c2 = some b
  | .block id a => ∃ c1, c = .block id c1 ∧ comp P N c1 = some a
  | .loop a => ∃ c1, c = .loop c1 ∧ comp P N c1 = some a
  | .rng g ps a b => ∃ y qs c1 c2, c = .rangeFunc y qs c1 c2 ∧ aop y = some g ∧ qs.toList = ps ∧ comp P N c1 = some a ∧ comp P N c2 = some b ∧ ∀ p ∈ ps, p < N
  | .exit id => c = .exit id
  | .ret => c = .ret
theorem codeOf {P : Program} {N : Nat} {c : Code} {ac : AC} (h : comp P N c = some ac) : CodeOf P N c ac := by
  cases c with
  | skip => cases h; rfl
  | ret => cases h; rfl
  | exit id => cases h; rfl
  | region id ops dr =>
    cases dr with
    | false => obtain ⟨al, _, rfl⟩ := map_some (show (compOpers P N ops ops.toList).map AC.reg = some ac from h); exact ⟨_, _, _, .inl rfl⟩
    | true =>
      have h' : some (((compDraw P N ops).map AC.reg).getD badC) = some ac := h
      cases hal : compDraw P N ops with
      | none => rw [hal] at h'; cases h'; exact ⟨_, _, _, .inl rfl⟩
      | some al => rw [hal] at h'; cases h'; exact ⟨_, _, _, .inl rfl⟩
  | seq c1 c2 =>
    simp only [comp] at h
    split at h
    · rename_i a b h1 h2; cases h; exact ⟨_, _, rfl, h1, h2⟩
    · cases h
  | cond y c1 c2 =>
    simp only [comp] at h
    split at h
    · rename_i x a b h0 h1 h2; cases h; exact ⟨_, _, _, rfl, h0, h1, h2⟩
    · cases h
  | block id c1 =>
    obtain ⟨a, h1, rfl⟩ := map_some (show (comp P N c1).map (AC.block id) = some ac from h)
    exact ⟨_, rfl, h1⟩
  | loop c1 =>
    obtain ⟨a, h1, rfl⟩ := map_some (show (comp P N c1).map AC.loop = some ac from h)
    exact ⟨_, rfl, h1⟩
  | rangeFunc f ps asg body =>
    simp only [comp] at h
    split at h
    · rename_i y a b h0 h1 h2
      split at h
      · rename_i hps
        cases h
        refine ⟨_, _, _, _, rfl, h0, rfl, h1, h2, fun p hp => ?_⟩
        have := List.all_eq_true.1 hps p hp
        simpa using this
      · cases h
    · cases h
  | _ => cases h; exact ⟨0, #[], false, .inr rfl⟩

/-- what a piece of code does from a state of the machine on, whatever the model's world; k: rows below were there -/
def W (P : Program) (k : Nat) (rd : Option Nat) (ac : AC) (t : AT) (s : St) (ds : List Nat) (Q : Ex → AT → St → List Nat → Prop) : Prop :=
  ∀ (N : Nat) (c : Code) (γ : Gam) (w : World) (a : Act) (b : Option Nat) (γ0 : Gam) (s0 : St) (w0 : World) (m : Nat),
    comp P N c = some ac → N ≤ a.tmps.size → TR γ t a.tmps → Sim P γ s w → RD γ0 rd b → DR γ ds a.defers → Stp γ0 s0 w0 γ s w → s0.next = k → (∀ r, k ≤ r → γ0 r = none) →
    c.wpIn (fen b) m P (fun ex a' w' => ∃ x t' s' ds', Q x t' s' ds' ∧ Post P γ0 s0 w0 N x t' s' ds' ex a' w') a w

section
variable {P : Program} {k : Nat} {rd : Option Nat} {t : AT} {s : St} {ds : List Nat} {Q : Ex → AT → St → List Nat → Prop}

theorem W.mono {ac : AC} {Q' : Ex → AT → St → List Nat → Prop} (h : W P k rd ac t s ds Q) (hq : ∀ x t s ds, Q x t s ds → Q' x t s ds) : W P k rd ac t s ds Q' :=
  fun N c γ w a b γ0 s0 w0 m h1 h2 h3 h4 h5 h6 h7 h8 h9 => wpIn_mono (h N c γ w a b γ0 s0 w0 m h1 h2 h3 h4 h5 h6 h7 h8 h9) fun _ _ _ ⟨x, t', s', ds', hQ, hp⟩ => ⟨x, t', s', ds', hq _ _ _ _ hQ, hp⟩

theorem W.exec {n : Nat} {rec : Rec} {ac : AC} {x : Ex} {t' : AT} {s' : St} {ds' : List Nat} (hG : Good P n rec) (h : rec ac t s rd ds = .ok x t' s' ds') (hq : Q x t' s' ds') : W P k rd ac t s ds Q :=
  fun N c γ w a b γ0 s0 w0 m h1 h2 h3 h4 h5 h6 h7 h8 h9 => wpIn_mono (hG N c ac γ t s w a rd b ds x t' s' ds' γ0 s0 w0 m h1 h2 h3 h4 h5 h6 h7 h).1 fun _ _ _ hp => ⟨x, t', s', ds', hq, hp⟩

theorem W.skip (h : Q .normal t s ds) : W P k rd .skip t s ds Q := by
  intro N c γ w a b γ0 s0 w0 m h1 h2 h3 h4 h5 h6 h7 h8 h9
  cases (codeOf h1 : c = .skip)
  exact wpIn_skip ⟨_, _, _, _, h, rfl, h2, γ, h7, h4, h3, h6⟩
theorem W.ret (h : Q .ret t s ds) : W P k rd .ret t s ds Q := by
  intro N c γ w a b γ0 s0 w0 m h1 h2 h3 h4 h5 h6 h7 h8 h9
  cases (codeOf h1 : c = .ret)
  exact wpIn_ret ⟨_, _, _, _, h, rfl, h2, γ, h7, h4, h3, h6⟩
theorem W.exit {id : Nat} (h : Q (.exit id) t s ds) : W P k rd (.exit id) t s ds Q := by
  intro N c γ w a b γ0 s0 w0 m h1 h2 h3 h4 h5 h6 h7 h8 h9
  cases (codeOf h1 : c = .exit id)
  exact wpIn_exit ⟨_, _, _, _, h, rfl, h2, γ, h7, h4, h3, h6⟩

/-- what comes behind a first part -/
def Then (K : AT → St → List Nat → Prop) (Q : Ex → AT → St → List Nat → Prop) (x : Ex) (t : AT) (s : St) (ds : List Nat) : Prop := match x with
  | .normal => K t s ds
  | .exit id => Q (.exit id) t s ds
  | .ret => Q .ret t s ds
theorem then_post {N : Nat} {γ0 : Gam} {s0 : St} {w0 : World} {K : AT → St → List Nat → Prop} {J : Act → World → Prop}
    (hK : ∀ t1 s1 ds1 γ1 a1 w1, K t1 s1 ds1 → N ≤ a1.tmps.size → TR γ1 t1 a1.tmps → Sim P γ1 s1 w1 → DR γ1 ds1 a1.defers → Stp γ0 s0 w0 γ1 s1 w1 → J a1 w1) :
    ∀ ex a1 w1, (∃ x t' s' ds', Then K Q x t' s' ds' ∧ Post P γ0 s0 w0 N x t' s' ds' ex a1 w1) → Exit.then J (fun ex a' w' => ∃ x t' s' ds', Q x t' s' ds' ∧ Post P γ0 s0 w0 N x t' s' ds' ex a' w') ex a1 w1 := by
  rintro ex a1 w1 ⟨x, t', s', ds', hq, hp⟩
  obtain ⟨rfl, q1, γ1, q2, q3, q4, q5⟩ := hp
  cases x with
  | normal => exact hK t' s' ds' γ1 a1 w1 hq q1 q4 q3 q5 q2
  | exit id => exact ⟨_, _, _, _, hq, rfl, q1, γ1, q2, q3, q4, q5⟩
  | ret => exact ⟨_, _, _, _, hq, rfl, q1, γ1, q2, q3, q4, q5⟩

theorem W.seq {x y : AC} (h : W P k rd x t s ds (Then (fun t s ds => W P k rd y t s ds Q) Q)) : W P k rd (.seq x y) t s ds Q := by
  intro N c γ w a b γ0 s0 w0 m h1 h2 h3 h4 h5 h6 h7 h8 h9
  obtain ⟨c1, c2, rfl, e1, e2⟩ := (codeOf h1 : ∃ c1 c2, c = .seq c1 c2 ∧ comp P N c1 = some x ∧ comp P N c2 = some y)
  refine wpIn_seq (wpIn_mono (h N c1 γ w a b γ0 s0 w0 m e1 h2 h3 h4 h5 h6 h7 h8 h9) (then_post ?_))
  intro t1 s1 ds1 γ1 a1 w1 hk q1 q2 q3 q4 q5
  exact hk N c2 γ1 w1 a1 b γ0 s0 w0 m e2 q1 q2 q3 h5 q4 q5 h8 h9

theorem W.cond {x : AO} {y z : AC} {b : Bool} (hb : ev x t = .some (.bool b)) (h1 : b = true → W P k rd y t s ds Q) (h2 : b = false → W P k rd z t s ds Q) : W P k rd (.cond x y z) t s ds Q := by
  intro N c γ w a b' γ0 s0 w0 m g1 g2 g3 g4 g5 g6 g7 g8 g9
  obtain ⟨o, c1, c2, rfl, e0, e1, e2⟩ := (codeOf g1 : ∃ o c1 c2, c = .cond o c1 c2 ∧ aop o = some x ∧ comp P N c1 = some y ∧ comp P N c2 = some z)
  have hR := ev_VR g3 e0 hb
  cases b with
  | true => exact wpIn_cond_true (boolV hR) (h1 rfl N c1 γ w a b' γ0 s0 w0 m e1 g2 g3 g4 g5 g6 g7 g8 g9)
  | false => exact wpIn_cond_false (boolV hR) (h2 rfl N c2 γ w a b' γ0 s0 w0 m e2 g2 g3 g4 g5 g6 g7 g8 g9)

/-- leaving a block -/
def InBlk (id : Nat) (Q : Ex → AT → St → List Nat → Prop) (x : Ex) (t : AT) (s : St) (ds : List Nat) : Prop := match x with
  | .normal => Q .normal t s ds
  | .exit id' => if id' = id then Q .normal t s ds else Q (.exit id') t s ds
  | .ret => Q .ret t s ds
theorem W.block {id : Nat} {x : AC} (h : W P k rd x t s ds (InBlk id Q)) : W P k rd (.block id x) t s ds Q := by
  intro N c γ w a b γ0 s0 w0 m h1 h2 h3 h4 h5 h6 h7 h8 h9
  obtain ⟨c1, rfl, e1⟩ := (codeOf h1 : ∃ c1, c = .block id c1 ∧ comp P N c1 = some x)
  refine wpIn_block (wpIn_mono (h N c1 γ w a b γ0 s0 w0 m e1 h2 h3 h4 h5 h6 h7 h8 h9) ?_)
  rintro ex a1 w1 ⟨x1, t', s', ds', hq, rfl, q1, γ1, q2, q3, q4, q5⟩
  cases x1 with
  | normal => exact ⟨_, _, _, _, hq, rfl, q1, γ1, q2, q3, q4, q5⟩
  | ret => exact ⟨_, _, _, _, hq, rfl, q1, γ1, q2, q3, q4, q5⟩
  | exit id' =>
    show if id' = id then _ else _
    simp only [InBlk] at hq
    split
    · rename_i e; rw [if_pos e] at hq; exact ⟨_, _, _, _, hq, rfl, q1, γ1, q2, q3, q4, q5⟩
    · rename_i e; rw [if_neg e] at hq; exact ⟨_, _, _, _, hq, rfl, q1, γ1, q2, q3, q4, q5⟩

/-- a loop, by a relation that a round keeps and a number that it lessens -/
theorem W.loop {x : AC} (I : Nat → AT → St → List Nat → Prop) (n : Nat) (h0 : I n t s ds)
    (hr : ∀ n t s ds, I n t s ds → W P k rd x t s ds (Then (fun t s ds => ∃ n', n' < n ∧ I n' t s ds) Q)) : W P k rd (.loop x) t s ds Q := by
  intro N c γ w a b γ0 s0 w0 m h1 h2 h3 h4 h5 h6 h7 h8 h9
  obtain ⟨c1, rfl, e1⟩ := (codeOf h1 : ∃ c1, c = .loop c1 ∧ comp P N c1 = some x)
  have key : ∀ (j n : Nat) (t : AT) (s : St) (ds : List Nat) (γ : Gam) (a : Act) (w : World), n < j → I n t s ds → N ≤ a.tmps.size → TR γ t a.tmps → Sim P γ s w → DR γ ds a.defers → Stp γ0 s0 w0 γ s w →
      Code.roundsIn (fen b) m P c1 (fun ex a' w' => ∃ x t' s' ds', Q x t' s' ds' ∧ Post P γ0 s0 w0 N x t' s' ds' ex a' w') j a w := by
    intro j
    induction j with
    | zero => intro n t s ds γ a w hn; omega
    | succ j ih =>
      intro n t s ds γ a w hn hi q1 q2 q3 q4 q5
      rw [roundsIn_succ]
      refine wpIn_mono (hr n t s ds hi N c1 γ w a b γ0 s0 w0 m e1 q1 q2 q3 h5 q4 q5 h8 h9) (then_post ?_)
      rintro t1 s1 ds1 γ1 a1 w1 ⟨n', hn', hi'⟩ r1 r2 r3 r4 r5
      exact ih n' t1 s1 ds1 γ1 a1 w1 (by omega) hi' r1 r2 r3 r4 r5
  exact wpIn_loop_rounds (n + 1) (key (n + 1) n t s ds γ a w (Nat.lt_succ_self _) h0 h2 h3 h4 h6 h7)
end
end Go.AM
