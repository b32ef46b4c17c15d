/-
  THE ABSTRACT MACHINE: more fuel, the same answer. Plain lemmas.
-/
import Derived.Test.YtnnbibnobmegpaaAMDraw7
set_option linter.unusedVariables false
set_option linter.unusedSimpArgs false
namespace Go.AM
def RLe (a b : Rec) : Prop := ∀ c t s rd ds x t' s' ds', a c t s rd ds = .ok x t' s' ds' → b c t s rd ds = .ok x t' s' ds'
section
variable {e : Env} {a b : Rec}
theorem callEnd_le {res : List ARes} {r r' : R} (h : ∀ x t s ds, r = .ok x t s ds → r' = .ok x t s ds) {v : AV} {s : St} (hv : callEnd res r = .ok v s) : callEnd res r' = .ok v s := by
  cases r with
  | fail => cases hv
  | ok x t s ds => rw [h x t s ds rfl]; exact hv
theorem callG_le (h : RLe a b) {f : Nat} {args : List AV} {s : St} {v : AV} {s' : St} (hv : callG e a f args s = .ok v s') : callG e b f args s = .ok v s' := by
  unfold callG at hv ⊢
  cases hg : e.G.get f with
  | none => rw [hg] at hv; cases hv
  | some af =>
    rw [hg] at hv
    obtain ⟨code, res⟩ := af
    exact callEnd_le (fun x t s ds he => h _ _ _ _ _ _ _ _ _ he) hv
theorem callA_le (h : RLe a b) {f : Nat} {args : List AV} {s : St} {v : AV} {s' : St} (hv : callA e a f args s = .ok v s') : callA e b f args s = .ok v s' := by
  unfold callA at hv ⊢
  cases ho : e.O.get f with
  | none => rw [ho] at hv; exact callG_le h hv
  | some hh =>
    rw [ho] at hv
    change (RV.rec (callG e a f args s) (fun v s' => .ok v s') (hh args s) : RV) = .ok v s' at hv
    show (RV.rec (callG e b f args s) (fun v s' => .ok v s') (hh args s) : RV) = .ok v s'
    cases hq : hh args s with
    | fail => rw [hq] at hv; exact callG_le h hv
    | ok v1 s1 => rw [hq] at hv; exact hv
theorem roundEnd_le {l : Nat} {r r' : R} (h : ∀ x t s ds, r = .ok x t s ds → r' = .ok x t s ds) {v : AV} {s : St} (hv : roundEnd l r = .ok v s) : roundEnd l r' = .ok v s := by
  cases r with
  | fail => cases hv
  | ok x t s ds => rw [h x t s ds rfl]; exact hv
theorem roundA_le (h : RLe a b) {l : Nat} {args : List AV} {s : St} {v : AV} {s' : St} (hv : roundA a l args s = .ok v s') : roundA b l args s = .ok v s' := by
  unfold roundA at hv ⊢
  obtain ⟨st, pend, fn, tm, ps, asg, body, d, hg, hv⟩ := lp_ok hv
  unfold loopAt; rw [hg]
  obtain ⟨h1, hv⟩ := gd_ok hv
  show gd _ _ = _
  rw [h1]
  show roundGo b l body (b asg (setPs ps args tm) s (some l) []) = .ok v s'
  unfold roundGo at hv ⊢
  obtain ⟨x, t1, s1, ds, hr, hv⟩ := R_ok hv
  rw [h _ _ _ _ _ _ _ _ _ hr]
  cases x with
  | normal =>
    obtain ⟨st, pend, fn, tm, ps, asg, body', d, hg, hv⟩ := lp_ok (s := s1) hv
    show (LP.rec .fail _ (loopAt l s1) : RV) = _
    unfold loopAt; rw [hg]
    cases st with
    | ready => exact roundEnd_le (fun x t s ds he => h _ _ _ _ _ _ _ _ _ he) hv
    | busy => exact hv
    | done => exact hv
    | exhausted => exact hv
  | exit id => exact hv
  | ret => exact hv
theorem applyA_le (h : RLe a b) {f : AV} {args : List AV} {s : St} {v : AV} {s' : St} (hv : applyA e a f args s = .ok v s') : applyA e b f args s = .ok v s' := by
  unfold applyA at hv ⊢
  cases hq : asFn f with
  | no => rw [hq] at hv; cases hv
  | fn g x y => rw [hq] at hv; exact callA_le h hv
  | yld l => rw [hq] at hv; exact roundA_le h hv
theorem applyF_le (h : RLe a b) {f : AV} {args : List AV} {s : St} {v : AV} {s' : St} (hv : applyF e a f args s = .ok v s') : applyF e b f args s = .ok v s' := by
  unfold applyF at hv ⊢
  cases hq : asFn f with
  | no => rw [hq] at hv; cases hv
  | fn g x y => rw [hq] at hv; exact callA_le h hv
  | yld l => rw [hq] at hv; cases hv
theorem opA_le (h : RLe a b) {p : AOp} {t : AT} {s : St} {v : AV} {s' : St} (hv : opA p e a t s = .ok v s') : opA p e b t s = .ok v s' := by
  cases p with
  | call f args =>
    obtain ⟨fv, hf, hv⟩ := wth_ok hv
    obtain ⟨vs, hvs, hv⟩ := opt_ok hv
    show wth f t (fun fv => Option.rec .fail (fun vs => applyA e b fv vs s) (evs t args)) = .ok v s'
    unfold wth
    rw [hf]
    show (Option.rec .fail (fun vs => applyA e b fv vs s) (evs t args) : RV) = .ok v s'
    rw [hvs]
    exact applyA_le h hv
  | scall f args =>
    obtain ⟨vs, hvs, hv⟩ := opt_ok hv
    show (Option.rec .fail (fun vs => Option.rec (callA e b f vs s) (fun h => h vs s) (e.X.get f)) (evs t args) : RV) = .ok v s'
    rw [hvs]
    show (Option.rec (callA e b f vs s) (fun h => h vs s) (e.X.get f) : RV) = .ok v s'
    cases hX : e.X.get f with
    | none => rw [hX] at hv; exact callA_le h hv
    | some hh => rw [hX] at hv; exact hv
  | _ => exact hv
theorem opsA_le (h : RLe a b) : ∀ {l : List AOper} {t : AT} {s : St} {t' : AT} {s' : St}, opsA e a l t s = .ok t' s' → opsA e b l t s = .ok t' s' := by
  intro l
  induction l with
  | nil => intro t s t' s' hv; exact hv
  | cons o l ih =>
    intro t s t' s' hv
    cases o with
    | mk d p g =>
      change (Nat.rec .fail (fun w _ => Nat.rec (opsA e a l (putT d (.tup []) t) s) (fun _ _ => RV.rec .fail (fun v s' => opsA e a l (putT d v t) s') (opA p e a t s)) w) (wantedA g t) : RT) = .ok t' s' at hv
      show (Nat.rec .fail (fun w _ => Nat.rec (opsA e b l (putT d (.tup []) t) s) (fun _ _ => RV.rec .fail (fun v s' => opsA e b l (putT d v t) s') (opA p e b t s)) w) (wantedA g t) : RT) = .ok t' s'
      cases hw : wantedA g t with
      | zero => rw [hw] at hv; cases hv
      | succ n =>
        rw [hw] at hv
        cases n with
        | zero => exact ih hv
        | succ n =>
          change (RV.rec .fail (fun v s' => opsA e a l (putT d v t) s') (opA p e a t s) : RT) = .ok t' s' at hv
          show (RV.rec .fail (fun v s' => opsA e b l (putT d v t) s') (opA p e b t s) : RT) = .ok t' s'
          cases ho : opA p e a t s with
          | fail => rw [ho] at hv; cases hv
          | ok v s1 => rw [ho] at hv; rw [opA_le h ho]; exact ih hv
    | chk d p g =>
      change (Nat.rec .fail (fun w _ => Nat.rec (opsA e a l t s) (fun _ _ => RV.rec .fail (fun v _ => Option.rec .fail (fun v0 => Bool.rec .fail (opsA e a l t s) (eqV v v0)) (t.get d)) (opA p e a t s)) w) (wantedA g t) : RT) = .ok t' s' at hv
      show (Nat.rec .fail (fun w _ => Nat.rec (opsA e b l t s) (fun _ _ => RV.rec .fail (fun v _ => Option.rec .fail (fun v0 => Bool.rec .fail (opsA e b l t s) (eqV v v0)) (t.get d)) (opA p e b t s)) w) (wantedA g t) : RT) = .ok t' s'
      cases hw : wantedA g t with
      | zero => rw [hw] at hv; cases hv
      | succ n =>
        rw [hw] at hv
        cases n with
        | zero => exact ih hv
        | succ n =>
          change (RV.rec .fail (fun v _ => Option.rec .fail (fun v0 => Bool.rec .fail (opsA e a l t s) (eqV v v0)) (t.get d)) (opA p e a t s) : RT) = .ok t' s' at hv
          show (RV.rec .fail (fun v _ => Option.rec .fail (fun v0 => Bool.rec .fail (opsA e b l t s) (eqV v v0)) (t.get d)) (opA p e b t s) : RT) = .ok t' s'
          cases ho : opA p e a t s with
          | fail => rw [ho] at hv; cases hv
          | ok v s1 =>
            rw [ho] at hv; rw [opA_le h ho]
            change (Option.rec .fail (fun v0 => Bool.rec .fail (opsA e a l t s) (eqV v v0)) (t.get d) : RT) = .ok t' s' at hv
            show (Option.rec .fail (fun v0 => Bool.rec .fail (opsA e b l t s) (eqV v v0)) (t.get d) : RT) = .ok t' s'
            cases hd : t.get d with
            | none => rw [hd] at hv; cases hv
            | some v0 =>
              rw [hd] at hv
              change (Bool.rec .fail (opsA e a l t s) (eqV v v0) : RT) = .ok t' s' at hv
              show (Bool.rec .fail (opsA e b l t s) (eqV v v0) : RT) = .ok t' s'
              cases hq : eqV v v0 with
              | false => rw [hq] at hv; cases hv
              | true => rw [hq] at hv; exact ih hv
theorem acF_le (h : RLe a b) (c : AC) : RLe (fun _ => acF c e a) (fun _ => acF c e b) := by
  intro _ t s rd ds x t' s' ds' hv
  cases c with
  | skip => exact hv
  | exit id => exact hv
  | ret => exact hv
  | reg ops =>
    obtain ⟨t1, s1, ho, hk⟩ := RT_ok (show (RT.rec .fail (fun t' s' => .ok .normal t' s' ds) (opsA e a ops t s) : R) = .ok x t' s' ds' from hv)
    show (RT.rec .fail (fun t' s' => .ok .normal t' s' ds) (opsA e b ops t s) : R) = .ok x t' s' ds'
    rw [opsA_le h ho]; exact hk
  | seq c1 c2 =>
    obtain ⟨x1, t1, s1, ds1, hr, hk⟩ := RR_ok (show (R.rec .fail (fun x t s ds => Ex.rec (a c2 t s rd ds) (fun id => .ok (.exit id) t s ds) (.ok .ret t s ds) x) (a c1 t s rd ds) : R) = .ok x t' s' ds' from hv)
    show (R.rec .fail (fun x t s ds => Ex.rec (b c2 t s rd ds) (fun id => .ok (.exit id) t s ds) (.ok .ret t s ds) x) (b c1 t s rd ds) : R) = .ok x t' s' ds'
    rw [h _ _ _ _ _ _ _ _ _ hr]
    cases x1 with
    | normal => exact h _ _ _ _ _ _ _ _ _ hk
    | exit id => exact hk
    | ret => exact hk
  | cond y c1 c2 =>
    obtain ⟨v, hv', hk⟩ := OV_ok (show (OV.rec .fail (fun v => BR.rec .fail (a c1 t s rd ds) (a c2 t s rd ds) (asBool v)) (ev y t) : R) = .ok x t' s' ds' from hv)
    show (OV.rec .fail (fun v => BR.rec .fail (b c1 t s rd ds) (b c2 t s rd ds) (asBool v)) (ev y t) : R) = .ok x t' s' ds'
    rw [hv']
    show (BR.rec .fail (b c1 t s rd ds) (b c2 t s rd ds) (asBool v) : R) = .ok x t' s' ds'
    cases hb : asBool v with
    | no => rw [hb] at hk; cases hk
    | tt => rw [hb] at hk; exact h _ _ _ _ _ _ _ _ _ hk
    | ff => rw [hb] at hk; exact h _ _ _ _ _ _ _ _ _ hk
  | block id c1 =>
    obtain ⟨x1, t1, s1, ds1, hr, hk⟩ := RR_ok (show (R.rec .fail (fun x t s ds => Ex.rec (.ok .normal t s ds) (fun id' => Bool.rec (.ok (.exit id') t s ds) (.ok .normal t s ds) (Nat.beq id id')) (.ok .ret t s ds) x) (a c1 t s rd ds) : R) = .ok x t' s' ds' from hv)
    show (R.rec .fail (fun x t s ds => Ex.rec (.ok .normal t s ds) (fun id' => Bool.rec (.ok (.exit id') t s ds) (.ok .normal t s ds) (Nat.beq id id')) (.ok .ret t s ds) x) (b c1 t s rd ds) : R) = .ok x t' s' ds'
    rw [h _ _ _ _ _ _ _ _ _ hr]; exact hk
  | loop c1 =>
    obtain ⟨x1, t1, s1, ds1, hr, hk⟩ := RR_ok (show (R.rec .fail (fun x t s ds => Ex.rec (a (.loop c1) t s rd ds) (fun id => .ok (.exit id) t s ds) (.ok .ret t s ds) x) (a c1 t s rd ds) : R) = .ok x t' s' ds' from hv)
    show (R.rec .fail (fun x t s ds => Ex.rec (b (.loop c1) t s rd ds) (fun id => .ok (.exit id) t s ds) (.ok .ret t s ds) x) (b c1 t s rd ds) : R) = .ok x t' s' ds'
    rw [h _ _ _ _ _ _ _ _ _ hr]
    cases x1 with
    | normal => exact h _ _ _ _ _ _ _ _ _ hk
    | exit id => exact hk
    | ret => exact hk
  | rng g ps asg body =>
    have go : ∀ gv t d ds s0, rngGo e a gv ps asg body t d ds s0 = .ok x t' s' ds' → rngGo e b gv ps asg body t d ds s0 = .ok x t' s' ds' := by
      intro gv t d ds s0 hg
      unfold rngGo at hg ⊢
      obtain ⟨v, s2, hc, hk⟩ := RV_ok hg
      rw [applyF_le h hc]; exact hk
    obtain ⟨gv, hgv, hk⟩ := OV_ok (show (OV.rec .fail (fun gv => Option.rec (rngGo e a gv ps asg body t s.next (s.next :: ds) (s.alloc .defd)) (fun l => LP.rec .fail (fun _ _ _ _ _ _ _ d => rngGo e a gv ps asg body t d ds s) (loopAt l s)) rd) (ev g t) : R) = .ok x t' s' ds' from hv)
    show (OV.rec .fail (fun gv => Option.rec (rngGo e b gv ps asg body t s.next (s.next :: ds) (s.alloc .defd)) (fun l => LP.rec .fail (fun _ _ _ _ _ _ _ d => rngGo e b gv ps asg body t d ds s) (loopAt l s)) rd) (ev g t) : R) = .ok x t' s' ds'
    rw [hgv]
    cases rd with
    | none => exact go _ _ _ _ _ hk
    | some l =>
      obtain ⟨st, pend, fn, tm, ps', asg', body', d, hg, hk⟩ := LPR_ok hk
      show (LP.rec .fail _ (loopAt l s) : R) = _
      unfold loopAt; rw [hg]
      exact go _ _ _ _ _ hk
theorem exec_le1 : ∀ n, RLe (exec e n) (exec e (n + 1)) := by
  intro n
  induction n with
  | zero => intro c t s rd ds x t' s' ds' h; cases h
  | succ n ih =>
    intro c t s rd ds x t' s' ds' h
    exact acF_le ih c .skip t s rd ds x t' s' ds' h
theorem exec_le {n m : Nat} (h : n ≤ m) : RLe (exec e n) (exec e m) := by
  induction h with
  | refl => intro c t s rd ds x t' s' ds' h; exact h
  | step _ ih => intro c t s rd ds x t' s' ds' h; exact exec_le1 _ _ _ _ _ _ _ _ _ _ (ih _ _ _ _ _ _ _ _ _ h)
end
end Go.AM
