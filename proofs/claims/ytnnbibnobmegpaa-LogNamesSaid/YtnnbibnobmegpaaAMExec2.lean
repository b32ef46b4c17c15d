/-
  THE ABSTRACT MACHINE: calls and rounds. Plain lemmas.
-/
import Derived.Test.YtnnbibnobmegpaaAMExec1
set_option linter.unusedVariables false
set_option linter.unusedSimpArgs false
namespace Go.AM
section
variable {P : Program} {γ : Gam} {s : St} {w : World} {t : AT} {e : Env} {rec : Rec} {n : Nat}

theorem R_ok {k : Ex → AT → St → List Nat → RV} {r : R} {v : AV} {s' : St} (h : (R.rec .fail k r : RV) = .ok v s') : ∃ x t1 s1 ds, r = .ok x t1 s1 ds ∧ k x t1 s1 ds = .ok v s' := by
  cases r with
  | fail => cases h
  | ok x t1 s1 ds => exact ⟨x, t1, s1, ds, rfl, h⟩
theorem lp_ok {k : LoopState → Option Nat → Nat → AT → List Nat → AC → AC → Nat → RV} {l : Nat} {v : AV} {s' : St} (h : (LP.rec .fail k (loopAt l s) : RV) = .ok v s') :
    ∃ st pend fn tm ps asg body d, s.get l = some (.loop st pend fn tm ps asg body d) ∧ k st pend fn tm ps asg body d = .ok v s' := by
  unfold loopAt at h
  cases hg : s.get l with
  | none => rw [hg] at h; cases h
  | some o =>
    rw [hg] at h
    cases o with
    | loop st pend fn tm ps asg body d => exact ⟨st, pend, fn, tm, ps, asg, body, d, rfl, h⟩
    | _ => cases h

/-! leaving a function -/
theorem run_takeDeferred {b : Nat} (h : w.heap[b]? = some (.deferred (some []))) : (Instr.takeDeferred b).run P w = .ok [] { w with heap := w.heap.setIfInBounds b (.deferred none) } := by
  have h1 : (getObj b).run P w = .ok (.deferred (some [])) w := by simp only [getObj, Sem.run]; rw [h]
  have h2 : ∀ o, (setObj b o).run P w = .ok () { w with heap := w.heap.setIfInBounds b o } := fun o => by simp only [setObj, Sem.run]; rw [h]
  simp only [Instr.takeDeferred, Sem.run_bind, h1, h2, Result.andThen_ok, Sem.run_pure]
theorem leaves_sound {fn : Func} {tm : Array Value} {res : List ARes} {l : List AV} {γ0 : Gam} {s0 : St} {w0 : World} (hc : compRes P fn.results.toList = some res) {s2 : St} {R : Ending → World → Prop} (hR : ∀ e w', CallPost P γ0 s0 w0 (one l) s2 e w' → R e w') (m : Nat) : ∀ (ds : List Nat) (D : List Deferred) (s : St) (w : World),
    DR γ ds D → quit ds s = some s2 → Sim P γ s w → Stp γ0 s0 w0 γ s w → TR γ t tm → resA t s2 res = some l →
    LeavesInM Fence.wide m P fn tm R D .returning w := by
  intro ds
  induction ds with
  | nil =>
    intro D s w hD hq hs hst ht hr
    cases hD
    cases hq
    obtain ⟨v', h1, h2⟩ := results_sound hs ht hc hr
    exact ⟨v', h1, hR _ _ ⟨v', γ, rfl, hst, hs, h2⟩⟩
  | cons d ds ih =>
    intro D s w hD hq hs hst ht hr
    cases hD with
    | cons hd hD =>
      obtain ⟨L, hL, rfl⟩ := hd
      change (Option.rec none (fun o => AObj.rec (fun _ _ => none) none (fun _ _ => none) (fun _ _ _ _ _ _ _ _ => none) (quit ds (s.put d .dead)) o) (s.get d) : Option St) = some s2 at hq
      cases hg : s.get d with
      | none => rw [hg] at hq; cases hq
      | some o =>
        rw [hg] at hq
        cases o with
        | defd =>
          have hb : w.heap[L.b]? = some (.deferred (some [])) := hs.obj d _ L hg hL
          obtain ⟨hst1, hs1⟩ := hs.turn (w' := { w with heap := w.heap.setIfInBounds L.b (.deferred none) }) (o := .dead) hg hL rfl
            (fun b hb => by show (w.heap.setIfInBounds L.b _)[b]? = _; rw [Array.getElem?_setIfInBounds, if_neg (fun e => hb e.symm)]) (by simp) rfl rfl rfl trivial
          refine ⟨by simp, .inl ⟨L.b, _, rfl, run_takeDeferred hb, ih _ _ _ hD hq hs1 (hst.trans hst1) ht hr⟩⟩
        | _ => cases hq

/-! arguments -/
theorem initT_TR : ∀ (args : List AV) (vals : List Value) (tm : Array Value) (i : Nat) (t : AT), All2 (VR γ) args vals → TR γ t tm → (∀ j v, vals[j]? = some v → tm[i + j]? = some v) → TR γ (initT args i t) tm := by
  intro args
  induction args with
  | nil => intro vals tm i t h ht _; exact ht
  | cons x args ih =>
    intro vals tm i t h ht hv
    cases h with
    | @cons _ u _ us hx hr =>
      refine ih us tm (i + 1) (t.set x i) hr ?_ (fun j v hj => ?_)
      · intro k y hy
        rcases T.get_set hy with ⟨rfl, rfl⟩ | ⟨_, hy⟩
        · exact ⟨u, by simpa using hv 0 u (by simp), hx⟩
        · exact ht k y hy
      · have := hv (j + 1) v (by simpa using hj)
        rw [Nat.add_assoc, Nat.add_comm 1 j]; exact this
theorem TR_lf (tm : Array Value) : TR γ .lf tm := by intro i v h; cases h

theorem callG_sound (hG : Good P n rec) (hE : EnvOk P e) {f : Nat} {args : List AV} {vals : List Value} {v : AV} {s' : St} (hA : All2 (VR γ) args vals) (hs : Sim P γ s w) (h : callG e rec f args s = .ok v s') :
    (∃ fn c, P.funcs[f]? = some fn ∧ fn.body = some c ∧ (fn.name == "runtime.NumGoroutine") = false) ∧ ∀ m, CallsIn Fence.wide m P f vals.toArray w (CallPost P γ s w v s') := by
  unfold callG at h
  obtain ⟨af, hg, h⟩ := opt_ok h
  obtain ⟨fn, hf, hcF, hname⟩ := hE.G f af hg
  unfold compF at hcF
  split at hcF
  · rename_i b hb
    split at hcF
    · rename_i cd rs hcd hrs
      cases hcF
      refine ⟨⟨fn, b, hf, hb, hname⟩, fun m => ?_⟩
      change callEnd rs (rec cd (initT args 0 .lf) s none []) = .ok v s' at h
      unfold callEnd at h
      obtain ⟨x, t1, s1, ds, hrec, h⟩ := R_ok h
      refine callsIn_of_wp_marks hf hb trivial ?_
      have hTR : TR γ (initT args 0 .lf) (vals.toArray ++ Array.replicate (fn.ntmps - vals.toArray.size) undef) := by
        refine initT_TR args vals _ 0 .lf hA (TR_lf _) ?_
        intro j u hj
        rw [Nat.zero_add, Array.getElem?_append]
        have hlt := (List.getElem?_eq_some_iff.1 hj).1
        rw [if_pos (by simpa using hlt)]
        simpa using hj
      have hsz : fn.ntmps ≤ (vals.toArray ++ Array.replicate (fn.ntmps - vals.toArray.size) undef).size := by simp; omega
      have hw := (hG fn.ntmps b cd γ _ s w { tmps := vals.toArray ++ Array.replicate (fn.ntmps - vals.toArray.size) undef, defers := [] } none none [] x t1 s1 ds γ s w m hcd hsz hTR hs rfl .nil (.refl _ _ _) hrec).1
      refine wpIn_mono hw ?_
      rintro ex a' w' ⟨rfl, _, γ', hst, hsim, ht, hd⟩
      have fin : ∀ {k : RV}, (Option.rec .fail (fun s => Option.rec .fail (fun l => .ok (one l) s) (resA t1 s rs)) (quit ds s1) : RV) = .ok v s' → LeavesInM Fence.wide m P fn a'.tmps (CallPost P γ s w v s') a'.defers .returning w' := by
        intro _ h
        obtain ⟨s2, hq, h⟩ := opt_ok h
        obtain ⟨l, hl, h⟩ := opt_ok h
        obtain ⟨rfl, rfl⟩ := ok_inj h
        exact leaves_sound hrs (fun _ _ h => h) m ds a'.defers s1 w' hd hq hsim hst ht hl
      cases x with
      | normal => exact fin (k := .fail) h
      | ret => exact fin (k := .fail) h
      | exit id => cases h
    · cases hcF
  · cases hcF

theorem callA_sound (hG : Good P n rec) (hE : EnvOk P e) {f : Nat} {args : List AV} {vals : List Value} {v : AV} {s' : St} (hA : All2 (VR γ) args vals) (hs : Sim P γ s w) (h : callA e rec f args s = .ok v s') :
    (∃ fn c, P.funcs[f]? = some fn ∧ fn.body = some c ∧ (fn.name == "runtime.NumGoroutine") = false) ∧ ∀ m, CallsIn Fence.wide m P f vals.toArray w (CallPost P γ s w v s') := by
  unfold callA at h
  cases ho : e.O.get f with
  | some hh =>
    rw [ho] at h
    obtain ⟨h1, h2⟩ := hE.O f hh ho
    change (RV.rec (callG e rec f args s) (fun v s' => .ok v s') (hh args s) : RV) = .ok v s' at h
    cases hq : hh args s with
    | fail => rw [hq] at h; exact callG_sound hG hE hA hs h
    | ok v1 s1 =>
      rw [hq] at h
      obtain ⟨rfl, rfl⟩ := ok_inj h
      exact ⟨h1, fun m => h2 γ args vals s w _ _ hA hs hq m⟩
  | none => rw [ho] at h; exact callG_sound hG hE hA hs h

/-! rounds -/
theorem setPs_TR : ∀ (ps : List Nat) (args : List AV) (vals : List Value) (tm : Array Value) (t : AT), All2 (VR γ) args vals → args.length = ps.length → (∀ p ∈ ps, p < tm.size) → TR γ t tm →
    TR γ (setPs ps args t) ((ps.zip vals).foldl (fun tmps (t, a) => tmps.setIfInBounds t a) tm) ∧ ((ps.zip vals).foldl (fun tmps (t, a) => tmps.setIfInBounds t a) tm).size = tm.size := by
  intro ps
  induction ps with
  | nil => intro args vals tm t hA hl _ ht; exact ⟨ht, rfl⟩
  | cons p ps ih =>
    intro args vals tm t hA hl hp ht
    cases hA with
    | nil => simp at hl
    | @cons x u xs us hx hr =>
      have := ih xs us (tm.setIfInBounds p u) (t.set x p) hr (by simpa using hl) (fun q hq => by simpa using hp q (by simp [hq])) (ht.set (hp p (by simp)) hx)
      simp only [List.zip_cons_cons, List.foldl_cons]
      refine ⟨this.1, this.2.trans (by simp)⟩

theorem run_getLoop {b : Nat} {lp : Loop} (h : w.heap[b]? = some (.loop lp)) : (Instr.getLoop b).run P w = .ok lp w := by
  have h1 : (getObj b).run P w = .ok (.loop lp) w := by simp only [getObj, Sem.run]; rw [h]
  simp only [Instr.getLoop, Sem.run_bind, h1, Result.andThen_ok, Sem.run_pure]
theorem run_setObj_loop {b : Nat} {lp : Loop} (o : Obj) (h : w.heap[b]? = some (.loop lp)) : (setObj b o).run P w = .ok () { w with heap := w.heap.setIfInBounds b o } := by
  simp only [setObj, Sem.run]; rw [h]

/-- the loop's record is turned -/
theorem loop_turn (hs : Sim P γ s w) {l fn d : Nat} {L : Loc} {st st' : LoopState} {pend pend' : Option Nat} {pc' : Option Code} {tm : AT} {ps : List Nat} {asg body : AC} {lp : Loop}
    (hg : s.get l = some (.loop st pend fn tm ps asg body d)) (hL : γ l = some L) (hlp : w.heap[L.b]? = some (.loop lp)) (hp : pendR pend' pc') :
    Stp γ s w γ (s.put l (.loop st' pend' fn tm ps asg body d)) { w with heap := w.heap.setIfInBounds L.b (.loop { lp with state := st', pending := pc' }) } ∧
    Sim P γ (s.put l (.loop st' pend' fn tm ps asg body d)) { w with heap := w.heap.setIfInBounds L.b (.loop { lp with state := st', pending := pc' }) } := by
  refine turnObj hs hg hL rfl ?_
  obtain ⟨lp0, h1, h2, h3, h4, h5, h6, h7⟩ := hs.obj l _ L hg hL
  rw [hlp] at h1; cases h1
  have hlt := hs.lt l L hL
  exact ⟨{ lp with state := st', pending := pc' }, by rw [Array.getElem?_setIfInBounds, if_pos rfl, if_pos hlt], rfl, hp, h4, h5, h6, h7⟩

theorem round_sound (hG : Good P n rec) {l : Nat} {L : Loc} {args : List AV} {vals : List Value} {v : AV} {s' : St} (hL : γ l = some L) (hA : All2 (VR γ) args vals) (hs : Sim P γ s w) (h : roundA rec l args s = .ok v s') :
    ∃ fn tm asg body, (Instr.yield L.b vals.toArray).run P w = .ok (.round L.b fn tm asg body) w ∧ ∀ m, RoundIn Fence.wide m P L.b fn tm asg body w (CallPost P γ s w v s') := by
  unfold roundA at h
  obtain ⟨st, pend, fn, tm, ps, asg, body, d, hg, h⟩ := lp_ok h
  obtain ⟨hlen, h⟩ := gd_ok h
  have hlen := Nat.eq_of_beq_eq_true hlen
  rw [lenL_eq, lenL_eq] at hlen
  obtain ⟨lp, h1, h2, h3, h4, h5, ⟨N, hN, hca, hcb, hps⟩, D, hD, hdf⟩ := hs.obj l _ L hg hL
  have hsz : vals.toArray.size = lp.params.size := by
    have e1 := hA.length
    have e2 : lp.params.toList.length = ps.length := by rw [h5]
    simp at e2 ⊢; omega
  obtain ⟨hT, hTs⟩ := setPs_TR ps args vals lp.tmps tm hA hlen (fun p hp => Nat.lt_of_lt_of_le (hps p hp) hN) h4
  have hfold : (lp.params.zip vals.toArray).foldl (fun tmps (t, a) => tmps.setIfInBounds t a) lp.tmps = (ps.zip vals).foldl (fun tmps (t, a) => tmps.setIfInBounds t a) lp.tmps := by
    rw [← Array.foldl_toList, Array.toList_zip, h5]
  refine ⟨lp.fn, (ps.zip vals).foldl (fun tmps (t, a) => tmps.setIfInBounds t a) lp.tmps, lp.assign, lp.body, ?_, fun m => ?_⟩
  · simp only [Instr.yield, Sem.run_bind, run_getLoop h1, Result.andThen_ok]
    rw [if_neg (by simpa using hsz)]
    simp only [Sem.run_bind, Sem.run_pure, Result.andThen_ok, hfold]
  · unfold roundGo at h
    obtain ⟨x, t1, s1, ds1, hrec, h⟩ := R_ok h
    refine roundIn_of_wpIn trivial ?_
    have hw := (hG N lp.assign asg γ _ s w { tmps := (ps.zip vals).foldl (fun tmps (t, a) => tmps.setIfInBounds t a) lp.tmps, defers := [] } (some l) (some L.b) [] x t1 s1 ds1 γ s w m hca (by rw [hTs]; exact hN) hT hs ⟨L, hL, rfl⟩ .nil (.refl _ _ _) hrec).1
    refine wpIn_mono hw ?_
    rintro ex a1 w1 ⟨rfl, hN1, γ1, hst1, hs1, ht1, hd1⟩
    cases x with
    | exit id => cases h
    | ret => cases h
    | normal =>
      change (LP.rec .fail (fun st pend fn tm ps asg b d => LoopState.rec (roundEnd l (rec body t1 (s1.put l (.loop .busy pend fn tm ps asg b d)) (some l) ds1)) .fail .fail .fail st) (loopAt l s1) : RV) = .ok v s' at h
      obtain ⟨st1, pend1, fn1, tm1, ps1, asg1, body1, d1, hg1, h⟩ := lp_ok h
      have hL1 := hst1.le.loc _ _ hL
      obtain ⟨lp1, k1, k2, k3, _⟩ := hs1.obj l _ L hg1 hL1
      cases st1 with
      | ready =>
        obtain ⟨hst2, hs2⟩ := loop_turn (st' := .busy) (pend' := pend1) (pc' := lp1.pending) hs1 hg1 hL1 k1 k3
        refine ⟨{ w1 with heap := w1.heap.setIfInBounds L.b (.loop { lp1 with state := .busy, pending := lp1.pending }) }, ?_, ?_⟩
        rotate_left
        · change roundEnd l (rec body t1 (s1.put l (.loop .busy pend1 fn1 tm1 ps1 asg1 body1 d1)) (some l) ds1) = .ok v s' at h
          unfold roundEnd at h
          obtain ⟨x2, t2, s2, ds2, hrec2, h⟩ := R_ok h
          have hw2 := (hG N lp.body body γ1 t1 _ _ a1 (some l) (some L.b) ds1 x2 t2 s2 ds2 γ s w m hcb hN1 ht1 hs2 ⟨L, hL, rfl⟩ hd1 (hst1.trans hst2) hrec2).1
          refine wpIn_mono hw2 ?_
          rintro ex2 a2 w2 ⟨rfl, _, γ2, hst3, hs3, ht3, _⟩
          have hL2 := hst3.le.loc _ _ hL
          have fin : ∀ (st3 : LoopState) (pend3 : Option Nat) (b : Bool) (j : Option Code), pendR pend3 j → (st3 = if j.isNone then .ready else .done) → b = j.isNone → roundPut l st3 pend3 b s2 = .ok v s' →
              ∃ v' w', (Instr.endRound L.b j).run P w2 = .ok v' w' ∧ CallPost P γ s w v s' (.returned v') w' := by
            intro st3 pend3 b j hpj hstj hb hk
            unfold roundPut at hk
            obtain ⟨st4, pend4, fn4, tm4, ps4, asg4, body4, d4, hg4, hk⟩ := lp_ok hk
            obtain ⟨rfl, rfl⟩ := ok_inj hk
            obtain ⟨lp4, j1, _⟩ := hs3.obj l _ L hg4 hL2
            obtain ⟨hst5, hs5⟩ := loop_turn (st' := st3) (pend' := pend3) (pc' := j) hs3 hg4 hL2 j1 hpj
            refine ⟨.bool b, _, ?_, .bool b, γ2, rfl, hst3.trans hst5, hs5, .bool _⟩
            subst hb; subst hstj
            simp only [Instr.endRound, Sem.run_bind, run_getLoop j1, Result.andThen_ok, run_setObj_loop _ j1, Sem.run_pure]
          cases x2 with
          | normal => exact fin .ready none true none rfl rfl rfl h
          | ret => exact fin .done (some 0) false (some .ret) rfl rfl rfl h
          | exit id => exact fin .done (some (id + 1)) false (some (.exit id)) rfl rfl rfl h
        · simp only [Instr.beginRound, Sem.run_bind, run_getLoop k1, Result.andThen_ok, run_setObj_loop _ k1, k2, Sem.run_pure]
      | busy => cases h
      | done => cases h
      | exhausted => cases h
end
end Go.AM
