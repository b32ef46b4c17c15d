/-
  THE ABSTRACT MACHINE: a run that ends is a run of the model's. Plain lemmas.
-/
import Derived.Test.YtnnbibnobmegpaaAMExec3
set_option linter.unusedVariables false
set_option linter.unusedSimpArgs false
namespace Go.AM
section
variable {P : Program} {γ : Gam} {s : St} {w : World} {t : AT} {e : Env} {rec : Rec} {n : Nat}

theorem RT_ok {k : AT → St → R} {r : RT} {x : Ex} {t' : AT} {s' : St} {ds' : List Nat} (h : (RT.rec .fail k r : R) = .ok x t' s' ds') : ∃ t1 s1, r = .ok t1 s1 ∧ k t1 s1 = .ok x t' s' ds' := by
  cases r with
  | fail => cases h
  | ok t1 s1 => exact ⟨t1, s1, rfl, h⟩
theorem RR_ok {k : Ex → AT → St → List Nat → R} {r : R} {x : Ex} {t' : AT} {s' : St} {ds' : List Nat} (h : (R.rec .fail k r : R) = .ok x t' s' ds') : ∃ x1 t1 s1 ds1, r = .ok x1 t1 s1 ds1 ∧ k x1 t1 s1 ds1 = .ok x t' s' ds' := by
  cases r with
  | fail => cases h
  | ok x1 t1 s1 ds1 => exact ⟨x1, t1, s1, ds1, rfl, h⟩
theorem RV_ok {k : AV → St → R} {r : RV} {x : Ex} {t' : AT} {s' : St} {ds' : List Nat} (h : (RV.rec .fail k r : R) = .ok x t' s' ds') : ∃ v s1, r = .ok v s1 ∧ k v s1 = .ok x t' s' ds' := by
  cases r with
  | fail => cases h
  | ok v s1 => exact ⟨v, s1, rfl, h⟩
theorem OV_ok {k : AV → R} {r : OV} {x : Ex} {t' : AT} {s' : St} {ds' : List Nat} (h : (OV.rec .fail k r : R) = .ok x t' s' ds') : ∃ v, r = .some v ∧ k v = .ok x t' s' ds' := by
  cases r with
  | none => cases h
  | some v => exact ⟨v, rfl, h⟩
theorem LPR_ok {k : LoopState → Option Nat → Nat → AT → List Nat → AC → AC → Nat → R} {l : Nat} {x : Ex} {t' : AT} {s' : St} {ds' : List Nat} (h : (LP.rec .fail k (loopAt l s) : R) = .ok x t' s' ds') :
    ∃ st pend fn tm ps asg body d, s.get l = some (.loop st pend fn tm ps asg body d) ∧ k st pend fn tm ps asg body d = .ok x t' s' ds' := by
  unfold loopAt at h
  cases hg : s.get l with
  | none => rw [hg] at h; cases h
  | some o =>
    rw [hg] at h
    cases o with
    | loop st pend fn tm ps asg body d => exact ⟨st, pend, fn, tm, ps, asg, body, d, rfl, h⟩
    | _ => cases h

/-- one operation of a list, run -/
theorem opsA_cons {d : Nat} {p : AOp} {g : Option (Nat × Bool)} {l : List AOper} {t' : AT} {s' : St} (h : opsA e rec (.mk d p g :: l) t s = .ok t' s') :
    (wantedA g t = 1 ∧ opsA e rec l (putT d (.tup []) t) s = .ok t' s') ∨ (wantedA g t = 2 ∧ ∃ v s1, opA p e rec t s = .ok v s1 ∧ opsA e rec l (putT d v t) s1 = .ok t' s') := by
  change (Nat.rec .fail (fun w _ => Nat.rec (opsA e rec l (putT d (.tup []) t) s) (fun _ _ => RV.rec .fail (fun v s' => opsA e rec l (putT d v t) s') (opA p e rec t s)) w) (wantedA g t) : RT) = .ok t' s' at h
  have hw : wantedA g t = 0 ∨ wantedA g t = 1 ∨ wantedA g t = 2 := by
    cases g with
    | none => exact .inr (.inr rfl)
    | some q =>
      obtain ⟨j, b⟩ := q
      show (Option.rec 0 (fun v => BR.rec (Bool.rec 1 0 (isAny v)) (Bool.rec 1 2 b) (Bool.rec 2 1 b) (asBool v)) (t.get j) : Nat) = 0 ∨ (Option.rec 0 (fun v => BR.rec (Bool.rec 1 0 (isAny v)) (Bool.rec 1 2 b) (Bool.rec 2 1 b) (asBool v)) (t.get j) : Nat) = 1 ∨ (Option.rec 0 (fun v => BR.rec (Bool.rec 1 0 (isAny v)) (Bool.rec 1 2 b) (Bool.rec 2 1 b) (asBool v)) (t.get j) : Nat) = 2
      cases t.get j with
      | none => exact .inl rfl
      | some v =>
        show (BR.rec (Bool.rec 1 0 (isAny v)) (Bool.rec 1 2 b) (Bool.rec 2 1 b) (asBool v) : Nat) = 0 ∨ (BR.rec (Bool.rec 1 0 (isAny v)) (Bool.rec 1 2 b) (Bool.rec 2 1 b) (asBool v) : Nat) = 1 ∨ (BR.rec (Bool.rec 1 0 (isAny v)) (Bool.rec 1 2 b) (Bool.rec 2 1 b) (asBool v) : Nat) = 2
        cases asBool v <;> cases b <;> cases isAny v <;> simp
  rcases hw with hw | hw | hw
  · rw [hw] at h; cases h
  · rw [hw] at h; exact .inl ⟨hw, h⟩
  · rw [hw] at h
    change (RV.rec .fail (fun v s' => opsA e rec l (putT d v t) s') (opA p e rec t s) : RT) = .ok t' s' at h
    cases ho : opA p e rec t s with
    | fail => rw [ho] at h; cases h
    | ok v s1 => rw [ho] at h; exact .inr ⟨hw, v, s1, rfl, h⟩

theorem list_sound (hG : Good P n rec) (hE : EnvOk P e) {N m : Nat} {b : Option Nat} {ops : Array Oper} {γ0 : Gam} {s0 : St} {w0 : World} {t' : AT} {s' : St} {ds : List Nat} : ∀ (l : List Oper) (al : List AOper) (γ : Gam) (t : AT) (s : St) (w : World) (a : Act),
    compOpers P N ops l = some al → N ≤ a.tmps.size → TR γ t a.tmps → Sim P γ s w → DR γ ds a.defers → Stp γ0 s0 w0 γ s w → opsA e rec al t s = .ok t' s' →
    wpListIn (fen b) m P ops (Post P γ0 s0 w0 N .normal t' s' ds) l a w := by
  intro l
  induction l with
  | nil =>
    intro al γ t s w a hc hN ht hs hd hst h
    cases hc; cases h
    exact ⟨rfl, hN, γ, hst, hs, ht, hd⟩
  | cons o l ih =>
    intro al γ t s w a hc hN ht hs hd hst h
    simp only [compOpers] at hc
    split at hc
    · rename_i d p g r h1 h2 h3 h4
      cases hc
      obtain ⟨hw2, hw1⟩ := wanted_sound ht h3
      simp only [wpListIn]
      rcases opsA_cons h with ⟨hw, h⟩ | ⟨hw, v, s1, hop, h⟩
      · rw [if_neg (by rw [hw1 hw]; simp)]
        refine ⟨fun f _ => fen_fn b f, ?_⟩
        exact ih r γ _ s w _ h4 (by rw [put_size]; exact hN) (ht.put hN h1 (.inl undef_VR)) hs (by rw [put_defers]; exact hd) hst h
      · rw [if_pos (hw2 hw)]
        refine oper_sound hG hE h2 (Evs.of_TR ht _) hs hop ?_
        intro γ' w' v' hst' hs' hv
        exact ih r γ' _ s1 w' _ h4 (by rw [put_size]; exact hN) ((ht.mono hst'.le).put hN h1 hv) hs' (by rw [put_defers]; exact hd.mono hst'.le) (hst.trans hst') h
    · cases hc

/-- what is shown elsewhere of regions that draw -/
def DrawGood (P : Program) (e : Env) (rec : Rec) : Prop :=
  ∀ (N : Nat) (id : Nat) (ops : Array Oper) (al : List AOper) (γ : Gam) (t : AT) (s : St) (w : World) (a : Act) (b : Option Nat) (ds : List Nat) (t' : AT) (s' : St) (γ0 : Gam) (s0 : St) (w0 : World) (m : Nat),
    compDraw P N ops = some al → N ≤ a.tmps.size → TR γ t a.tmps → Sim P γ s w → DR γ ds a.defers → Stp γ0 s0 w0 γ s w → opsA e rec al t s = .ok t' s' →
    (Code.region id ops true).wpIn (fen b) m P (Post P γ0 s0 w0 N .normal t' s' ds) a w

theorem applyF_sound (hG : Good P n rec) (hE : EnvOk P e) {fv : AV} {fv' : Value} {args : List AV} {vals : Array Value} {v : AV} {s' : St} (hf : VR γ fv fv') (hA : All2 (VR γ) args vals.toList) (hs : Sim P γ s w) (h : applyF e rec fv args s = .ok v s') :
    ∃ d, (Deferred.ofValue fv' vals).run P w = .ok d w ∧ ∃ f xs, (invoke d.target d.args).run P w = .ok (.enter f xs) w ∧ ∀ m, CallsIn Fence.wide m P f xs w (CallPost P γ s w v s') := by
  unfold applyF at h
  cases hq : asFn fv with
  | no => rw [hq] at h; cases h
  | yld l => rw [hq] at h; cases h
  | fn f xs ys =>
    rw [hq] at h
    have := asFn_fn hq; subst this
    change callA e rec f (appL xs (appL args ys)) s = .ok v s' at h
    rw [appL_eq, appL_eq] at h
    cases hf with
    | fn _ _ _ as bs h1 h2 =>
      refine ⟨_, rfl, ?_⟩
      obtain ⟨⟨fn, c, e1, e2, e3⟩, hc⟩ := callA_sound (vals := as.toList ++ (vals.toList ++ bs.toList)) hG hE (h1.append (hA.append h2)) hs h
      have heq : (as.toList ++ (vals.toList ++ bs.toList)).toArray = as ++ vals ++ bs := by simp [← List.append_assoc]
      rw [heq] at hc
      refine ⟨f, as ++ vals ++ bs, ?_, hc⟩
      have h1' : fn.name ≠ "runtime.NumGoroutine" := by simpa using e3
      simp [invoke, callFunc, e1, h1', e2]


/-- behind the call of what is ranged over -/
theorem rng_end {N m : Nat} {b : Option Nat} {γ0 : Gam} {s0 : St} {w0 : World} {l : Nat} {L : Loc} {ds : List Nat} {a : Act} {x : Ex} {t' : AT} {s' : St} {ds' : List Nat} {v' : Value} (hN : N ≤ a.tmps.size) (ht : TR γ t a.tmps) (hs : Sim P γ s w) (hL : γ l = some L) (hd : DR γ ds a.defers) (hst : Stp γ0 s0 w0 γ s w)
    (h : rngEnd l ds t s = .ok x t' s' ds') : rangePost (fen b) m P L.b (Post P γ0 s0 w0 N x t' s' ds') a (.returned v') w := by
  unfold rngEnd at h
  obtain ⟨st, pend, fn, tm, ps, asg, body, d, hg, h⟩ := LPR_ok h
  obtain ⟨lp, k1, k2, k3, _⟩ := hs.obj l _ L hg hL
  have hend : st ≠ .busy → (Instr.endLoop L.b).run P w = .ok lp.pending { w with heap := w.heap.setIfInBounds L.b (.loop { lp with state := .exhausted, pending := lp.pending }) } := by
    intro hb
    have : (lp.state == LoopState.busy) = false := by rw [k2]; cases st <;> first | rfl | exact absurd rfl hb
    simp only [Instr.endLoop, Sem.run_bind, run_getLoop k1, Result.andThen_ok, this]
    simp only [Bool.false_eq_true, if_false, Sem.run_bind, Sem.run_pure, Result.andThen_ok, run_setObj_loop _ k1]
  obtain ⟨hst2, hs2⟩ := loop_turn (st' := .exhausted) (pend' := pend) (pc' := lp.pending) hs hg hL k1 k3
  have fin : st ≠ .busy → rngPend l fn tm ps asg body d pend ds t s = .ok x t' s' ds' → rangePost (fen b) m P L.b (Post P γ0 s0 w0 N x t' s' ds') a (.returned v') w := by
    intro hb hk
    refine ⟨_, _, hend hb, ?_⟩
    have hpost : Post P γ0 s0 w0 N x t (s.put l (.loop .exhausted pend fn tm ps asg body d)) ds (exOf x) a { w with heap := w.heap.setIfInBounds L.b (.loop { lp with state := .exhausted, pending := lp.pending }) } :=
      ⟨rfl, hN, γ, hst.trans hst2, hs2, ht, hd⟩
    cases pend with
    | none =>
      cases hk
      rw [show lp.pending = none from k3] at hpost ⊢
      exact hpost
    | some i =>
      cases i with
      | zero =>
        cases hk
        rw [show lp.pending = some .ret from k3] at hpost ⊢
        exact wpIn_ret hpost
      | succ id =>
        cases hk
        rw [show lp.pending = some (.exit id) from k3] at hpost ⊢
        exact wpIn_exit hpost
  cases st with
  | ready => exact fin (by simp) h
  | busy => cases h
  | done => exact fin (by simp) h
  | exhausted => exact fin (by simp) h

theorem rng_sound (hG : Good P n rec) (hE : EnvOk P e) {N m : Nat} {rd b : Option Nat} {γ0 : Gam} {s0 : St} {w0 : World} {g : Operand} {ga : AO} {ps : Array Tmp} {asg body : Code} {aa ab : AC} {ds : List Nat} {a : Act} {x : Ex} {t' : AT} {s' : St} {ds' : List Nat}
    (hg : aop g = some ga) (hca : comp P N asg = some aa) (hcb : comp P N body = some ab) (hps : ∀ p ∈ ps.toList, p < N) (hN : N ≤ a.tmps.size) (ht : TR γ t a.tmps) (hs : Sim P γ s w) (hrd : RD γ rd b) (hd : DR γ ds a.defers) (hst : Stp γ0 s0 w0 γ s w)
    (h : rngC ga ps.toList aa ab e rec t s rd ds = .ok x t' s' ds') : (Code.rangeFunc g ps asg body).wpIn (fen b) m P (Post P γ0 s0 w0 N x t' s' ds') a w := by
  refine wpIn_rangeFunc fun fn _ => ?_
  unfold rngC at h
  obtain ⟨gv, hgv, h⟩ := OV_ok h
  have hgR := ev_VR ht hg hgv
  -- the record laid, the call, the end
  have go : ∀ (γ1 : Gam) (s1 : St) (w1 : World) (d : Nat) (D : Loc) (ds1 : List Nat) (mark : List Deferred), Stp γ0 s0 w0 γ1 s1 w1 → Sim P γ1 s1 w1 → Le γ γ1 → γ1 d = some D → DR γ1 ds1 (mark ++ a.defers) →
      rngGo e rec gv ps.toList aa ab t d ds1 s1 = .ok x t' s' ds' →
      (Instr.enterLoop fn a.tmps ps asg body (fen b).round).run P w = .ok (w1.heap.size, mark) (w1.alloc (.loop { state := .ready, pending := none, fn := fn, tmps := a.tmps, params := ps, assign := asg, body := body, defers := D.b })) →
      ∃ (l : Nat) (mark : List Deferred) (w₁ : World) (d : Deferred) (w₁' : World) (f : FuncId) (args : Array Value) (w₂ : World),
      (Instr.enterLoop fn a.tmps ps asg body (fen b).round).run P w = .ok (l, mark) w₁ ∧
      (resolve a.eval (rangeCall g l) 0).run P w₁ = .ok d w₁' ∧
      (∀ f', Target.leads P w₁' d.target d.args = some f' → (fen b).fn f') ∧
      (invoke d.target d.args).run P w₁' = .ok (.enter f args) w₂ ∧
      ((fen b).depth.isSome = true → 1 ≤ m) ∧
      CallsIn (fen b) (m - 1) P f args w₂ (rangePost (fen b) m P l (Post P γ0 s0 w0 N x t' s' ds') { a with defers := mark ++ a.defers }) := by
    intro γ1 s1 w1 d D ds1 mark hst1 hs1 hle hdD hdr hgo henter
    unfold rngGo at hgo
    obtain ⟨v, s2, hcall, hgo⟩ := RV_ok hgo
    obtain ⟨hst2, hs2⟩ := hs1.alloc (.loop .ready none 0 t ps.toList aa ab d) (.loop { state := .ready, pending := none, fn := fn, tmps := a.tmps, params := ps, assign := asg, body := body, defers := D.b }) 0 0
      ⟨{ state := .ready, pending := none, fn := fn, tmps := a.tmps, params := ps, assign := asg, body := body, defers := D.b }, by show (w1.heap.push _)[w1.heap.size]? = _; simp, rfl, rfl, (ht.mono hle).mono (ext_le (hs1.nx _ (Nat.le_refl _))), rfl, ⟨N, hN, hca, hcb, hps⟩, D, (ext_le (hs1.nx _ (Nat.le_refl _))).loc _ _ hdD, rfl⟩
    obtain ⟨df, hdf, f, xs, hinv, hc⟩ := applyF_sound (vals := #[.func (.yield w1.heap.size) #[] #[]]) hG hE ((hgR.mono hle).mono hst2.le) (.cons (.yld _ _ (ext_same _ _ _)) .nil) hs2 hcall
    refine ⟨w1.heap.size, mark, _, df, _, f, xs, _, henter, ?_, fun f' _ => fen_fn b f', hinv, fen_depth b m, callsIn_fen (CallsIn.mono (hc _) ?_)⟩
    · have hmap : (#[Operand.const (.func (.yield w1.heap.size) #[] #[])] : Array Operand).map a.eval = #[.func (.yield w1.heap.size) #[] #[]] := by simp [Act.eval]
      show (Deferred.ofValue (a.eval g) ((#[Operand.const (.func (.yield w1.heap.size) #[] #[])] : Array Operand).map a.eval)).run P _ = _
      rw [hmap]; exact hdf
    · rintro _ w3 ⟨v', γ3, rfl, hst3, hs3, _⟩
      exact rng_end (L := ⟨w1.heap.size, 0, 0, 0⟩) (a := { a with defers := mark ++ a.defers }) hN (((ht.mono hle).mono hst2.le).mono hst3.le) hs3 (hst3.le.loc _ _ (ext_same _ _ _)) ((hdr.mono hst2.le).mono hst3.le) ((hst1.trans hst2).trans hst3) hgo
  cases rd with
  | none =>
    cases hrd
    obtain ⟨hst1, hs1⟩ := hs.alloc .defd (.deferred (some [])) 0 0 (by show (w.heap.push _)[w.heap.size]? = _; simp)
    refine go _ _ _ s.next ⟨w.heap.size, 0, 0, 0⟩ _ [{ target := .collected w.heap.size, args := #[] }] (hst.trans hst1) hs1 hst1.le (ext_same _ _ _) (.cons ⟨_, ext_same _ _ _, rfl⟩ (hd.mono hst1.le)) h ?_
    rw [fen_round]
    simp only [Instr.enterLoop, Sem.run_bind, run_new', Result.andThen_ok, Sem.run_pure]
  | some l =>
    obtain ⟨L, hL, rfl⟩ := hrd
    obtain ⟨st, pend, fn0, tm, ps0, asg0, body0, d, hgl, h⟩ := LPR_ok h
    obtain ⟨lp, k1, _, _, _, _, _, D, hD, hDf⟩ := hs.obj l _ L hgl hL
    refine go γ s w d D ds [] hst hs (Le.refl γ) hD (by simpa using hd) h ?_
    rw [fen_round]
    simp only [Instr.enterLoop, Sem.run_bind, run_getLoop k1, run_new', Result.andThen_ok, Sem.run_pure, hDf]

theorem then_of {N : Nat} {γ0 : Gam} {s0 : St} {w0 : World} {x x1 : Ex} {t1 t' : AT} {s1 s' : St} {ds1 ds' : List Nat} {y : R} (hk : (Ex.rec y (fun id => .ok (.exit id) t1 s1 ds1) (.ok .ret t1 s1 ds1) x1 : R) = .ok x t' s' ds') {K : Act → World → Prop}
    (hK : ∀ γ1 a1 w1, y = .ok x t' s' ds' → N ≤ a1.tmps.size → TR γ1 t1 a1.tmps → Sim P γ1 s1 w1 → DR γ1 ds1 a1.defers → Stp γ0 s0 w0 γ1 s1 w1 → K a1 w1) :
    ∀ ex a1 w1, Post P γ0 s0 w0 N x1 t1 s1 ds1 ex a1 w1 → Exit.then K (Post P γ0 s0 w0 N x t' s' ds') ex a1 w1 := by
  rintro ex a1 w1 ⟨rfl, q1, γ1, q2, q3, q4, q5⟩
  cases x1 with
  | normal => exact hK γ1 a1 w1 hk q1 q4 q3 q5 q2
  | exit id => cases hk; exact ⟨rfl, q1, γ1, q2, q3, q4, q5⟩
  | ret => cases hk; exact ⟨rfl, q1, γ1, q2, q3, q4, q5⟩

theorem exec_sound (hE : EnvOk P e) (hD : ∀ n rec, Good P n rec → DrawGood P e rec) : ∀ n, Good P n (exec e n) := by
  intro n
  induction n with
  | zero => intro N c ac γ t s w a rd b ds x t' s' ds' γ0 s0 w0 m _ _ _ _ _ _ _ h; cases h
  | succ n ih =>
    intro N c ac γ t s w a rd b ds x t' s' ds' γ0 s0 w0 m hc hN ht hs hrd hd hst h
    change acF ac e (exec e n) t s rd ds = .ok x t' s' ds' at h
    cases c with
    | skip =>
      cases hc; cases h
      exact ⟨wpIn_skip ⟨rfl, hN, γ, hst, hs, ht, hd⟩, fun c' hc' => by cases hc'⟩
    | ret =>
      cases hc; cases h
      exact ⟨wpIn_ret ⟨rfl, hN, γ, hst, hs, ht, hd⟩, fun c' hc' => by cases hc'⟩
    | exit id =>
      cases hc; cases h
      exact ⟨wpIn_exit ⟨rfl, hN, γ, hst, hs, ht, hd⟩, fun c' hc' => by cases hc'⟩
    | region id ops dr =>
      refine ⟨?_, fun c' hc' => by cases hc'⟩
      cases dr with
      | false =>
        obtain ⟨al, hal, rfl⟩ := map_some (show (compOpers P N ops ops.toList).map AC.reg = some ac from hc)
        obtain ⟨t1, s1, hops, hk⟩ := RT_ok (show (RT.rec .fail (fun t' s' => .ok .normal t' s' ds) (opsA e (exec e n) al t s) : R) = .ok x t' s' ds' from h)
        cases hk
        exact wpIn_region_list (list_sound ih hE ops.toList al γ t s w a hal hN ht hs hd hst hops)
      | true =>
        have hc' : some (((compDraw P N ops).map AC.reg).getD badC) = some ac := hc
        cases hal : compDraw P N ops with
        | none => rw [hal] at hc'; cases hc'; cases h
        | some al =>
        rw [hal] at hc'; cases hc'
        obtain ⟨t1, s1, hops, hk⟩ := RT_ok (show (RT.rec .fail (fun t' s' => .ok .normal t' s' ds) (opsA e (exec e n) al t s) : R) = .ok x t' s' ds' from h)
        cases hk
        exact hD n _ ih N id ops al γ t s w a b ds t' s' γ0 s0 w0 m hal hN ht hs hd hst hops
    | seq c1 c2 =>
      refine ⟨?_, fun c' hc' => by cases hc'⟩
      simp only [comp] at hc
      split at hc
      · rename_i a1 a2 h1 h2
        cases hc
        obtain ⟨x1, t1, s1, ds1, hr, hk⟩ := RR_ok (show (R.rec .fail (fun x t s ds => Ex.rec (exec e n a2 t s rd ds) (fun id => .ok (.exit id) t s ds) (.ok .ret t s ds) x) (exec e n a1 t s rd ds) : R) = .ok x t' s' ds' from h)
        refine wpIn_seq (wpIn_mono (ih N c1 a1 γ t s w a rd b ds x1 t1 s1 ds1 γ0 s0 w0 m h1 hN ht hs hrd hd hst hr).1 (then_of hk ?_))
        intro γ1 a1' w1 hy q1 q2 q3 q4 q5
        exact (ih N c2 a2 γ1 t1 s1 w1 a1' rd b ds1 x t' s' ds' γ0 s0 w0 m h2 q1 q2 q3 hrd q4 q5 hy).1
      · cases hc
    | cond x0 c1 c2 =>
      refine ⟨?_, fun c' hc' => by cases hc'⟩
      simp only [comp] at hc
      split at hc
      · rename_i y a1 a2 h0 h1 h2
        cases hc
        obtain ⟨v, hv, hk⟩ := OV_ok (show (OV.rec .fail (fun v => BR.rec .fail (exec e n a1 t s rd ds) (exec e n a2 t s rd ds) (asBool v)) (ev y t) : R) = .ok x t' s' ds' from h)
        have hR := ev_VR ht h0 hv
        cases hb : asBool v with
        | no => rw [hb] at hk; cases hk
        | tt =>
          rw [hb] at hk
          rw [asBool_tt hb] at hR
          exact wpIn_cond_true (boolV hR) (ih N c1 a1 γ t s w a rd b ds x t' s' ds' γ0 s0 w0 m h1 hN ht hs hrd hd hst hk).1
        | ff =>
          rw [hb] at hk
          rw [asBool_ff hb] at hR
          exact wpIn_cond_false (boolV hR) (ih N c2 a2 γ t s w a rd b ds x t' s' ds' γ0 s0 w0 m h2 hN ht hs hrd hd hst hk).1
      · cases hc
    | block id c1 =>
      refine ⟨?_, fun c' hc' => by cases hc'⟩
      obtain ⟨a1, h1, rfl⟩ := map_some (show (comp P N c1).map (AC.block id) = some ac from hc)
      obtain ⟨x1, t1, s1, ds1, hr, hk⟩ := RR_ok (show (R.rec .fail (fun x t s ds => Ex.rec (.ok .normal t s ds) (fun id' => Bool.rec (.ok (.exit id') t s ds) (.ok .normal t s ds) (Nat.beq id id')) (.ok .ret t s ds) x) (exec e n a1 t s rd ds) : R) = .ok x t' s' ds' from h)
      refine wpIn_block (wpIn_mono (ih N c1 a1 γ t s w a rd b ds x1 t1 s1 ds1 γ0 s0 w0 m h1 hN ht hs hrd hd hst hr).1 ?_)
      rintro ex a1' w1 ⟨rfl, q1, γ1, q2, q3, q4, q5⟩
      cases x1 with
      | normal => cases hk; exact ⟨rfl, q1, γ1, q2, q3, q4, q5⟩
      | ret => cases hk; exact ⟨rfl, q1, γ1, q2, q3, q4, q5⟩
      | exit id' =>
        show if id' = id then _ else _
        cases hb : Nat.beq id id' with
        | true =>
          have hid := Nat.eq_of_beq_eq_true hb
          change (Bool.rec (.ok (.exit id') t1 s1 ds1) (.ok .normal t1 s1 ds1) (Nat.beq id id') : R) = _ at hk
          rw [hb] at hk; cases hk
          rw [if_pos hid.symm]; exact ⟨rfl, q1, γ1, q2, q3, q4, q5⟩
        | false =>
          have hid := Nat.ne_of_beq_eq_false hb
          change (Bool.rec (.ok (.exit id') t1 s1 ds1) (.ok .normal t1 s1 ds1) (Nat.beq id id') : R) = _ at hk
          rw [hb] at hk; cases hk
          rw [if_neg (fun e => hid e.symm)]; exact ⟨rfl, q1, γ1, q2, q3, q4, q5⟩
    | loop c1 =>
      have key : Code.roundsIn (fen b) m P c1 (Post P γ0 s0 w0 N x t' s' ds') (n + 1) a w := by
        obtain ⟨a1, h1, rfl⟩ := map_some (show (comp P N c1).map AC.loop = some ac from hc)
        obtain ⟨x1, t1, s1, ds1, hr, hk⟩ := RR_ok (show (R.rec .fail (fun x t s ds => Ex.rec (exec e n (.loop a1) t s rd ds) (fun id => .ok (.exit id) t s ds) (.ok .ret t s ds) x) (exec e n a1 t s rd ds) : R) = .ok x t' s' ds' from h)
        rw [roundsIn_succ]
        refine wpIn_mono (ih N c1 a1 γ t s w a rd b ds x1 t1 s1 ds1 γ0 s0 w0 m h1 hN ht hs hrd hd hst hr).1 (then_of hk ?_)
        intro γ1 a1' w1 hy q1 q2 q3 q4 q5
        exact (ih N (.loop c1) (.loop a1) γ1 t1 s1 w1 a1' rd b ds1 x t' s' ds' γ0 s0 w0 m hc q1 q2 q3 hrd q4 q5 hy).2 c1 rfl
      exact ⟨wpIn_loop_rounds _ key, fun c' hc' => by cases hc'; exact key⟩
    | rangeFunc f ps asg body =>
      refine ⟨?_, fun c' hc' => by cases hc'⟩
      simp only [comp] at hc
      split at hc
      · rename_i y a1 a2 h0 h1 h2
        split at hc
        · rename_i hps
          cases hc
          refine rng_sound ih hE h0 h1 h2 (fun p hp => ?_) hN ht hs (hrd.mono hst.le) hd hst h
          have := List.all_eq_true.1 hps p hp
          simpa using this
        · cases hc
      · cases hc
    | _ => cases hc; cases h
end
end Go.AM
