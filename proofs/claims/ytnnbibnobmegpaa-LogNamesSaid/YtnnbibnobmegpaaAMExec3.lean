/-
  THE ABSTRACT MACHINE: one operation, the calls among them. Plain lemmas.
-/
import Derived.Test.YtnnbibnobmegpaaAMExec2
set_option linter.unusedVariables false
set_option linter.unusedSimpArgs false
namespace Go.AM
section
variable {P : Program} {γ : Gam} {s : St} {w : World} {t : AT} {e : Env} {rec : Rec} {n : Nat}

theorem callsIn_fen {b : Option Nat} {m : Nat} {f : FuncId} {args : Array Value} {R : Ending → World → Prop} (h : CallsIn Fence.wide m P f args w R) : CallsIn (fen b) m P f args w R := by
  cases b with
  | none => exact h
  | some b => exact h
theorem roundIn_fen {b : Option Nat} {m l : Nat} {f : FuncId} {tm : Array Value} {asg body : Code} {R : Ending → World → Prop} (h : RoundIn Fence.wide m P l f tm asg body w R) : RoundIn (fen b) m P l f tm asg body w R := by
  cases b with
  | none => exact h
  | some b => exact h

/-- a function value at arguments -/
theorem apply_sound (hG : Good P n rec) (hE : EnvOk P e) {fv : AV} {fv' : Value} {args : List AV} {vals : Array Value} {v : AV} {s' : St} (hf : VR γ fv fv') (hA : All2 (VR γ) args vals.toList) (hs : Sim P γ s w) (h : applyA e rec fv args s = .ok v s') :
    ∃ d, (Deferred.ofValue fv' vals).run P w = .ok d w ∧
      ((∃ f xs, (invoke d.target d.args).run P w = .ok (.enter f xs) w ∧ ∀ m, CallsIn Fence.wide m P f xs w (CallPost P γ s w v s')) ∨
       (∃ l fn tm asg body, (invoke d.target d.args).run P w = .ok (.round l fn tm asg body) w ∧ ∀ m, RoundIn Fence.wide m P l fn tm asg body w (CallPost P γ s w v s'))) := by
  unfold applyA at h
  cases hq : asFn fv with
  | no => rw [hq] at h; cases h
  | fn f xs ys =>
    rw [hq] at h
    have := asFn_fn hq; subst this
    change callA e rec f (appL xs (appL args ys)) s = .ok v s' at h
    rw [appL_eq, appL_eq] at h
    cases hf with
    | fn _ _ _ as bs h1 h2 =>
      refine ⟨_, rfl, .inl ?_⟩
      obtain ⟨⟨fn, c, e1, e2, e3⟩, hc⟩ := callA_sound (vals := as.toList ++ (vals.toList ++ bs.toList)) hG hE (h1.append (hA.append h2)) hs h
      have heq : (as.toList ++ (vals.toList ++ bs.toList)).toArray = as ++ vals ++ bs := by simp [← List.append_assoc]
      rw [heq] at hc
      refine ⟨f, as ++ vals ++ bs, ?_, hc⟩
      have h1' : fn.name ≠ "runtime.NumGoroutine" := by simpa using e3
      simp [invoke, callFunc, e1, h1', e2]
  | yld l =>
    rw [hq] at h
    have := asFn_yld hq; subst this
    cases hf with
    | yld _ L hL =>
      refine ⟨_, rfl, .inr ?_⟩
      obtain ⟨fn, tm, asg, body, hy, hr⟩ := round_sound hG hL hA hs h
      refine ⟨L.b, fn, tm, asg, body, ?_, hr⟩
      have heq : (#[] : Array Value) ++ vals = vals.toList.toArray := by simp
      simp only [invoke, heq]
      exact hy

/-- what comes behind an operation -/
def Next (P : Program) (γ : Gam) (s : St) (w : World) (o : Oper) (a : Act) (v : AV) (s' : St) (K : Act → World → Prop) : Prop :=
  ∀ γ' w' v', Stp γ s w γ' s' w' → Sim P γ' s' w' → (VR γ' v v' ∨ o.dst = none) → K (a.put o.dst v') w'

theorem resolve_value {ρ : Operand → Value} {f : Operand} {args : Array Operand} {ts : Array TypeId} {ty : TypeId} : resolve ρ { callee := .value f, args := args, argTypes := ts } ty = Deferred.ofValue (ρ f) (args.map ρ) := rfl

theorem call_oper (hG : Good P n rec) (hE : EnvOk P e) {b : Option Nat} {m : Nat} {o : Oper} {f : Operand} {args : Array Operand} {ts : Array TypeId} {a : Act} {fv : AV} {vs : List AV} {v : AV} {s' : St} {K : Act → World → Prop} {Q : Exit → Act → World → Prop}
    (hop : o.op = .call { callee := .value f, args := args, argTypes := ts }) (hf : VR γ fv (a.eval f)) (hA : All2 (VR γ) vs (args.toList.map a.eval)) (hs : Sim P γ s w) (h : applyA e rec fv vs s = .ok v s') (hK : Next P γ s w o a v s' K) :
    o.wpIn (fen b) m P a w K Q := by
  refine ⟨fun f _ => fen_fn b f, ?_⟩
  rw [Oper.semAt_eq _ _ _ (fun c hc => by rw [hop] at hc; cases hc)]
  obtain ⟨d, hd, hh⟩ := apply_sound (vals := args.map a.eval) hG hE hf (by simpa using hA) hs h
  have hrun : ∀ nx, (invoke d.target d.args).run P w = .ok nx w → (execOp a.eval o).run P w = .ok nx w := by
    intro nx hnx
    simp only [execOp, hop, Sem.run_bind, resolve_value, hd, Result.andThen_ok, hnx]
  rcases hh with ⟨f', xs, hi, hc⟩ | ⟨l, fn, tm, asg, body, hi, hc⟩
  · rw [hrun _ hi, Oper.uponIn_enter]
    refine ⟨fen_depth b m, callsIn_fen (CallsIn.mono (hc _) ?_)⟩
    rintro _ w' ⟨v', γ', rfl, hst, hs', hv⟩
    exact hK γ' w' v' hst hs' (.inl hv)
  · rw [hrun _ hi, Oper.uponIn_round]
    refine ⟨fen_depth b m, roundIn_fen (RoundIn.mono (hc _) ?_)⟩
    rintro _ w' ⟨v', γ', rfl, hst, hs', hv⟩
    exact hK γ' w' v' hst hs' (.inl hv)

theorem plain_oper {b : Option Nat} {m : Nat} {o : Oper} {a : Act} {v : AV} {s' : St} {K : Act → World → Prop} {Q : Exit → Act → World → Prop} (hd : ∀ c, o.op ≠ .defer c) (h : OpOk P γ s w a.eval o v s') (hK : Next P γ s w o a v s' K) :
    o.wpIn (fen b) m P a w K Q := by
  refine ⟨fun f _ => fen_fn b f, ?_⟩
  rw [Oper.semAt_eq _ _ _ hd]
  obtain ⟨γ', w', hst, hs', ⟨v', hr, hv⟩ | ⟨hr, hn⟩⟩ := h
  · rw [hr, Oper.uponIn_value]; exact hK γ' w' v' hst hs' (.inl hv)
  · rw [hr, Oper.uponIn_skip]; exact hK γ' w' undef hst hs' (.inr hn)

theorem comp_no_defer {o : Oper} {p : AOp} (h : compOp0 P o = some p) : ∀ c, o.op ≠ .defer c := by
  intro c hc
  simp only [compOp0, hc] at h
  cases h

theorem oper_sound0 (hG : Good P n rec) (hE : EnvOk P e) {b : Option Nat} {m : Nat} {o : Oper} {p : AOp} {a : Act} {v : AV} {s' : St} {K : Act → World → Prop} {Q : Exit → Act → World → Prop} (hc : compOp0 P o = some p)
    (he : Evs γ t a.eval o.op.operands.toList) (hs : Sim P γ s w) (h : opA p e rec t s = .ok v s') (hK : Next P γ s w o a v s' K) : o.wpIn (fen b) m P a w K Q := by
  have hnd := comp_no_defer hc
  cases hp : isCall p with
  | false =>
    rcases op_sound (w := w) he hc hp h with ⟨_, hf⟩ | ⟨_, hf⟩
    · exact plain_oper hnd (hf.ok hs) hK
    · exact plain_oper hnd (hf hs) hK
  | true =>
    cases hop : o.op with
    | call c =>
      obtain ⟨cal, args, ts⟩ := c
      have hc' := hc
      simp only [compOp0, hop] at hc'
      rw [hop] at he
      cases cal with
      | value f =>
        have hef : Evs γ t a.eval [f] := fun x hx => he x (by simp [Op.operands, Call.operands] at hx ⊢; exact .inl hx)
        have hea : Evs γ t a.eval args.toList := fun x hx => he x (by simp [Op.operands, Call.operands] at hx ⊢; exact .inr hx)
        split at hc'
        · rename_i f' hf'
          cases hf'
          obtain ⟨as, has, rfl⟩ := map_some hc'
          change (Option.rec .fail (fun vs => Option.rec (callA e rec f' vs s) (fun h => h vs s) (e.X.get f')) (evs t as) : RV) = .ok v s' at h
          obtain ⟨vs, hvs, h⟩ := opt_ok h
          cases hX : e.X.get f' with
          | some hh =>
          rw [hX] at h
          obtain ⟨v', γ', w', hr, hst, hsim, hv⟩ := hE.X f' hh hX γ vs (args.toList.map a.eval) s w v s' (aops_evs has hvs hea) hs h
          refine plain_oper hnd ⟨γ', w', hst, hsim, .inl ⟨v', ?_, hv⟩⟩ hK
          simp only [execOp, hop, Sem.run_bind, resolve_value]
          have hvv : (List.map a.eval args.toList).toArray = Array.map a.eval args := by obtain ⟨l⟩ := args; simp
          rw [hvv] at hr
          simpa [Act.eval, Deferred.ofValue, invoke] using hr
          | none =>
          rw [hX] at h
          refine call_oper hG hE hop (fv := .fn f' [] []) (.fn _ _ _ _ _ .nil .nil) (aops_evs has hvs hea) hs ?_ hK
          change callA e rec f' (appL [] (appL vs [])) s = .ok v s'
          rw [appL_eq, appL_eq]; simpa using h
        · rename_i g _ hg
          cases hg
          split at hc'
          · rename_i x as hx has
            cases hc'
            obtain ⟨fv, hfv, h⟩ := wth_ok h
            obtain ⟨vs, hvs, h⟩ := opt_ok h
            exact call_oper hG hE hop (hef f (by simp) x fv hx hfv) (aops_evs has hvs hea) hs h hK
          · cases hc'
        · rename_i hq; cases hq
        · rename_i hq; cases hq
      | builtin bi =>
        exfalso
        simp only at hc'
        unfold compBuiltin at hc'
        repeat' split at hc'
        all_goals first
          | (cases hc'; done)
          | (obtain ⟨_, _, rfl⟩ := map_some hc'; cases hp; done)
          | (cases hc'; cases hp; done)
      | invoke r mth => cases hc'
    | makeFunc f as bs =>
      exfalso
      have hc' := hc
      cases f with
      | func f =>
        simp only [compOp0, hop] at hc'
        split at hc'
        · cases hc'; cases hp
        · cases hc'
      | _ => simp only [compOp0, hop] at hc'; cases hc'
    | makeMap ty r =>
      exfalso
      have hc' := hc
      cases r with
      | none => simp only [compOp0, hop] at hc'; cases hc'; cases hp
      | some r => simp only [compOp0, hop] at hc'; cases hc'
    | _ =>
      exfalso
      have hc' := hc
      simp only [compOp0, hop] at hc'
      repeat' split at hc'
      all_goals first
        | (cases hc'; done)
        | (obtain ⟨_, _, rfl⟩ := map_some hc'; cases hp; done)
        | (cases hc'; cases hp; done)
theorem oper_sound (hG : Good P n rec) (hE : EnvOk P e) {b : Option Nat} {m : Nat} {o : Oper} {p : AOp} {a : Act} {v : AV} {s' : St} {K : Act → World → Prop} {Q : Exit → Act → World → Prop} (hc : compOp P o = some p)
    (he : Evs γ t a.eval o.op.operands.toList) (hs : Sim P γ s w) (h : opA p e rec t s = .ok v s') (hK : Next P γ s w o a v s' K) : o.wpIn (fen b) m P a w K Q := by
  rcases compOp_cases hc with hc | rfl
  · exact oper_sound0 hG hE hc he hs h hK
  · cases h
end
end Go.AM
