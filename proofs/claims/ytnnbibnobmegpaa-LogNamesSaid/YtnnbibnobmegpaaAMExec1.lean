/-
  THE ABSTRACT MACHINE: temporaries, results, calls: what is asked of a run. Definitions and plain lemmas.
-/
import Derived.Test.YtnnbibnobmegpaaAMSound
import Derived.RangeFuncLeaves
import Derived.LoopNIn
import Derived.TacticsIn
import Derived.OrdersIn
set_option linter.unusedVariables false
set_option linter.unusedSimpArgs false
namespace Go.AM

def fen : Option Nat → Fence
  | none => Fence.wide
  | some b => Fence.wide.inRound b
theorem fen_round (b : Option Nat) : (fen b).round = b := by cases b <;> rfl
theorem fen_fn (b : Option Nat) (f : FuncId) : (fen b).fn f := by cases b <;> trivial
theorem fen_depth (b : Option Nat) (n : Nat) : (fen b).depth.isSome = true → 1 ≤ n := by cases b <;> (intro h; cases h)

def exOf : Ex → Exit
  | .normal => .normal
  | .exit id => .exit id
  | .ret => .ret
/-- the marks among the deferred calls -/
def DR (γ : Gam) (ds : List Nat) (l : List Deferred) : Prop := All2 (fun d D => ∃ L, γ d = some L ∧ D = { target := .collected L.b, args := #[] }) ds l
theorem DR.mono {γ γ' : Gam} (h : Le γ γ') {ds : List Nat} {l : List Deferred} (hd : DR γ ds l) : DR γ' ds l := hd.imp fun _ _ ⟨L, a, b⟩ => ⟨L, h.loc _ _ a, b⟩
/-- whose round it is -/
def RD (γ : Gam) (rd b : Option Nat) : Prop := match rd with
  | none => b = none
  | some l => ∃ L, γ l = some L ∧ b = some L.b
theorem RD.mono {γ γ' : Gam} (h : Le γ γ') {rd b : Option Nat} (hd : RD γ rd b) : RD γ' rd b := by
  cases rd with
  | none => exact hd
  | some l => obtain ⟨L, a, e⟩ := hd; exact ⟨L, h.loc _ _ a, e⟩

def Post (P : Program) (γ0 : Gam) (s0 : St) (w0 : World) (N : Nat) (x : Ex) (t' : AT) (s' : St) (ds' : List Nat) : Exit → Act → World → Prop :=
  fun e a' w' => e = exOf x ∧ N ≤ a'.tmps.size ∧ ∃ γ', Stp γ0 s0 w0 γ' s' w' ∧ Sim P γ' s' w' ∧ TR γ' t' a'.tmps ∧ DR γ' ds' a'.defers
def CallPost (P : Program) (γ : Gam) (s : St) (w : World) (v : AV) (s' : St) : Ending → World → Prop :=
  fun e w' => ∃ v' γ', e = .returned v' ∧ Stp γ s w γ' s' w' ∧ Sim P γ' s' w' ∧ VR γ' v v'

/-- a run of so much fuel is sound -/
def Good (P : Program) (n : Nat) (rec : Rec) : Prop :=
  ∀ (N : Nat) (c : Code) (ac : AC) (γ : Gam) (t : AT) (s : St) (w : World) (a : Act) (rd b : Option Nat) (ds : List Nat) (x : Ex) (t' : AT) (s' : St) (ds' : List Nat) (γ0 : Gam) (s0 : St) (w0 : World) (m : Nat),
    comp P N c = some ac → N ≤ a.tmps.size → TR γ t a.tmps → Sim P γ s w → RD γ0 rd b → DR γ ds a.defers → Stp γ0 s0 w0 γ s w → rec ac t s rd ds = .ok x t' s' ds' →
    c.wpIn (fen b) m P (Post P γ0 s0 w0 N x t' s' ds') a w ∧ ∀ c', c = .loop c' → Code.roundsIn (fen b) m P c' (Post P γ0 s0 w0 N x t' s' ds') n a w

structure EnvOk (P : Program) (e : Env) : Prop where
  G : ∀ f af, e.G.get f = some af → ∃ fn, P.funcs[f]? = some fn ∧ compF P fn = some af ∧ (fn.name == "runtime.NumGoroutine") = false
  O : ∀ f h, e.O.get f = some h → (∃ fn c, P.funcs[f]? = some fn ∧ fn.body = some c ∧ (fn.name == "runtime.NumGoroutine") = false) ∧
    ∀ γ args vals s w v s', All2 (VR γ) args vals → Sim P γ s w → h args s = .ok v s' → ∀ m, CallsIn Fence.wide m P f vals.toArray w (CallPost P γ s w v s')
  X : ∀ f h, e.X.get f = some h → ∀ γ args vals s w v s', All2 (VR γ) args vals → Sim P γ s w → h args s = .ok v s' →
    ∃ v' γ' w', (callFunc f vals.toArray).run P w = .ok (.value v') w' ∧ Stp γ s w γ' s' w' ∧ Sim P γ' s' w' ∧ VR γ' v v'

section
variable {P : Program} {γ : Gam} {s : St} {w : World} {t : AT}

/-! temporaries -/
theorem TR.set {tm : Array Value} (h : TR γ t tm) {i : Nat} {v : AV} {v' : Value} (hi : i < tm.size) (hv : VR γ v v') : TR γ (t.set v i) (tm.setIfInBounds i v') := by
  intro j u hu
  rw [Array.getElem?_setIfInBounds]
  rcases T.get_set hu with ⟨rfl, rfl⟩ | ⟨hne, hu⟩
  · rw [if_pos rfl, if_pos hi]; exact ⟨v', rfl, hv⟩
  · rw [if_neg (fun e => hne e.symm)]; exact h j u hu
theorem TR.put {a : Act} (h : TR γ t a.tmps) {N : Nat} {d : Option Tmp} {n : Nat} {v : AV} {v' : Value} (hN : N ≤ a.tmps.size) (hd : compDst N d = some n) (hv : VR γ v v' ∨ d = none) : TR γ (putT n v t) (a.put d v').tmps := by
  cases d with
  | none => cases hd; exact h
  | some d =>
    simp only [compDst] at hd
    split at hd
    · rename_i hlt; cases hd
      exact h.set (Nat.lt_of_lt_of_le hlt hN) (hv.resolve_right (by simp))
    · cases hd
theorem put_size (a : Act) (d : Option Tmp) (v : Value) : (a.put d v).tmps.size = a.tmps.size := by cases d <;> simp [Act.put]
theorem put_defers (a : Act) (d : Option Tmp) (v : Value) : (a.put d v).defers = a.defers := by cases d <;> rfl
theorem undef_VR : VR γ (.tup []) undef := .tup _ _ .nil

theorem Evs.of_TR {a : Act} (h : TR γ t a.tmps) (xs : List Operand) : Evs γ t a.eval xs := by
  intro x _ y v hy hv
  unfold aop at hy
  split at hy
  · rename_i i _
    cases hy
    change (Option.rec .none (fun v => .some v) (t.get i) : OV) = .some v at hv
    cases hg : t.get i with
    | none => rw [hg] at hv; cases hv
    | some u =>
      rw [hg] at hv; cases hv
      obtain ⟨v', h1, h2⟩ := h i v hg
      show VR γ v (a.tmps.getD i undef)
      rw [Array.getD_eq_getD_getElem?, h1]; exact h2
  · obtain ⟨u, hu, rfl⟩ := map_some hy
    cases hv; exact av_VR hu
  · cases hy; cases hv; exact .fn _ _ _ _ _ .nil .nil
  · cases hy
theorem ev_VR {a : Act} (h : TR γ t a.tmps) {x : Operand} {y : AO} {v : AV} (hx : aop x = some y) (hv : ev y t = .some v) : VR γ v (a.eval x) :=
  Evs.of_TR h [x] x (by simp) y v hx hv

/-! guards -/
theorem wanted_sound {a : Act} (h : TR γ t a.tmps) {ops : Array Oper} {N : Nat} {o : Oper} {g : Option (Nat × Bool)} (hg : compGuard ops N o.guard = some g) :
    (wantedA g t = 2 → Region.wanted o (yielded ops a.tmps) = true) ∧ (wantedA g t = 1 → Region.wanted o (yielded ops a.tmps) = false) := by
  unfold compGuard at hg
  unfold Region.wanted
  split at hg
  · rename_i hgo; cases hg; rw [hgo]; exact ⟨fun _ => rfl, fun h => (by cases h)⟩
  · rename_i j b hgo
    rw [hgo]
    split at hg
    · rename_i d hd; cases hg
      show ((Option.rec 0 (fun v => BR.rec (Bool.rec 1 0 (isAny v)) (Bool.rec 1 2 b) (Bool.rec 2 1 b) (asBool v)) (t.get d) : Nat) = 2 → (yielded ops a.tmps j == some b) = true) ∧ ((Option.rec 0 (fun v => BR.rec (Bool.rec 1 0 (isAny v)) (Bool.rec 1 2 b) (Bool.rec 2 1 b) (asBool v)) (t.get d) : Nat) = 1 → (yielded ops a.tmps j == some b) = false)
      cases hgt : t.get d with
      | none => exact ⟨fun h => (by cases h), fun h => (by cases h)⟩
      | some v =>
        obtain ⟨v', h1, h2⟩ := h d v hgt
        simp only [yielded, hd, Option.bind_some, h1]
        cases h2 <;> first | (cases b <;> rename_i q <;> cases q <;> simp [asBool, isAny]) | (cases b <;> simp [asBool, isAny])
    · cases hg

/-! results -/
theorem loadVar_one (hs : Sim P γ s w) {ty r o : Nat} {v : AV} {p : Value} (hag : aggT P ty = some false) (hp : VR γ (.ptr r o) p) (h : load1 r o s = some v) :
    ∃ v', (do loadVar ty (← asAddr p) : Sem Value).run P w = .ok v' w ∧ VR γ v v' := by
  obtain ⟨L, hL, rfl⟩ := ptrV hp
  obtain ⟨v', hc, hR, _⟩ := load1_sound hs h hL
  refine ⟨v', ?_, hR⟩
  simp only [asAddr, Sem.run_bind, Sem.run_pure, Result.andThen_ok, loadVar, run_isAgg hag]
  simp [run_load, hc]
theorem loadVar_many (hs : Sim P γ s w) {ty r o n : Nat} {cs : List AV} {p : Value} (hag : aggT P ty = some true) (hn : szOf P ty = some n) (hp : VR γ (.ptr r o) p) (h : load r o n s = some cs) :
    ∃ v', (do loadVar ty (← asAddr p) : Sem Value).run P w = .ok v' w ∧ VR γ (.agg cs) v' := by
  obtain ⟨L, hL, rfl⟩ := ptrV hp
  obtain ⟨vs, e1, hc, hR, h1⟩ := load_sound hs h hL
  have hrun := run_loadCells_list (P := P) w _ vs hc
  rw [e1] at hrun
  refine ⟨.agg vs.toArray, ?_, .agg _ _ hR h1⟩
  simp only [asAddr, Sem.run_bind, Sem.run_pure, Result.andThen_ok, loadVar, run_isAgg hag, run_sizeOf hn, hrun, if_true]

def getRes (tm : Array Value) : ResultVar → Sem Value
  | .tmp t => pure (tm.getD t undef)
  | .cell a t => do loadVar t (← asAddr (tm.getD a undef))
theorem getD_VR {tm : Array Value} (h : TR γ t tm) {i : Nat} {v : AV} (hg : t.get i = some v) : VR γ v (tm.getD i undef) := by
  obtain ⟨v', h1, h2⟩ := h i v hg
  rw [Array.getD_eq_getD_getElem?, h1]; exact h2
theorem res1_sound (hs : Sim P γ s w) {tm : Array Value} (h : TR γ t tm) {r : ResultVar} {x : ARes} {v : AV}
    (hx : (match r with
      | .tmp t => some (.tmp t)
      | .cell a t => match aggT P t, szOf P t with
        | some true, some n => some (.cells a n)
        | some false, _ => some (.cell a)
        | _, _ => none : Option ARes) = some x) (hr : res1 t s x = some v) : ∃ v', (getRes tm r).run P w = .ok v' w ∧ VR γ v v' := by
  cases r with
  | tmp i => cases hx; exact ⟨_, rfl, getD_VR h hr⟩
  | cell i ty =>
    simp only at hx
    split at hx
    · rename_i n hag hn
      cases hx
      change (Option.rec none (fun v => PR.rec none (fun r o => Option.rec none (fun cs => some (.agg cs)) (load r o n s)) (fun _ => none) (asPtr v)) (t.get i) : Option AV) = some v at hr
      cases hg : t.get i with
      | none => rw [hg] at hr; cases hr
      | some pv =>
        rw [hg] at hr
        change (PR.rec none (fun r o => Option.rec none (fun cs => some (.agg cs)) (load r o n s)) (fun _ => none) (asPtr pv) : Option AV) = some v at hr
        cases hp : asPtr pv with
        | no => rw [hp] at hr; cases hr
        | fp l => rw [hp] at hr; cases hr
        | ptr q o =>
          rw [hp] at hr
          have hpv := asPtr_eq hp; subst hpv
          change (Option.rec none (fun cs => some (.agg cs)) (load q o n s) : Option AV) = some v at hr
          cases hl : load q o n s with
          | none => rw [hl] at hr; cases hr
          | some cs => rw [hl] at hr; cases hr; exact loadVar_many hs hag hn (getD_VR h hg) hl
    · rename_i hag
      cases hx
      change (Option.rec none (fun v => PR.rec none (fun r o => load1 r o s) (fun _ => none) (asPtr v)) (t.get i) : Option AV) = some v at hr
      cases hg : t.get i with
      | none => rw [hg] at hr; cases hr
      | some pv =>
        rw [hg] at hr
        change (PR.rec none (fun r o => load1 r o s) (fun _ => none) (asPtr pv) : Option AV) = some v at hr
        cases hp : asPtr pv with
        | no => rw [hp] at hr; cases hr
        | fp l => rw [hp] at hr; cases hr
        | ptr q o =>
          rw [hp] at hr
          have hpv := asPtr_eq hp; subst hpv
          exact loadVar_one hs hag (getD_VR h hg) hr
    · cases hx
theorem compRes_sound (hs : Sim P γ s w) {tm : Array Value} (h : TR γ t tm) : ∀ (rs : List ResultVar) (res : List ARes) (l : List AV), compRes P rs = some res → resA t s res = some l →
    ∃ vs, (rs.mapM (getRes tm)).run P w = .ok vs w ∧ All2 (VR γ) l vs := by
  intro rs
  induction rs with
  | nil => intro res l h1 h2; cases h1; cases h2; exact ⟨[], rfl, .nil⟩
  | cons r rs ih =>
    intro res l h1 h2
    unfold compRes at h1
    split at h1
    · rename_i x y hx hy
      cases h1
      change (Option.rec none (fun v => Option.rec none (fun vs => some (v :: vs)) (resA t s y)) (res1 t s x) : Option (List AV)) = some l at h2
      cases hr : res1 t s x with
      | none => rw [hr] at h2; cases h2
      | some v =>
        rw [hr] at h2
        cases hq : resA t s y with
        | none => rw [hq] at h2; cases h2
        | some vs =>
          rw [hq] at h2; cases h2
          obtain ⟨us, e1, e2⟩ := ih y vs hy hq
          obtain ⟨v', f1, f2⟩ := res1_sound hs h hx hr
          refine ⟨v' :: us, ?_, .cons f2 e2⟩
          rw [List.mapM_cons]
          simp only [Sem.run_bind, Sem.run_pure, f1, Result.andThen_ok, e1]
    · cases h1
theorem results_sound (hs : Sim P γ s w) {tm : Array Value} (h : TR γ t tm) {fn : Func} {res : List ARes} {l : List AV} (hc : compRes P fn.results.toList = some res) (hr : resA t s res = some l) :
    ∃ v', (results fn tm).run P w = .ok v' w ∧ VR γ (one l) v' := by
  obtain ⟨vs, h1, h2⟩ := compRes_sound hs h _ _ _ hc hr
  have hm : (fn.results.mapM (getRes tm)).run P w = .ok vs.toArray w := by
    rw [Array.mapM_eq_mapM_toList]
    simp only [map_eq_pure_bind, Sem.run_bind, h1, Result.andThen_ok, Sem.run_pure]
  have hres : results fn tm = (fn.results.mapM (getRes tm) >>= fun vs => pure (if h : vs.size = 1 then vs[0] else .tuple vs)) := rfl
  rw [hres]
  simp only [Sem.run_bind, hm, Result.andThen_ok, Sem.run_pure]
  refine ⟨_, rfl, ?_⟩
  cases h2 with
  | nil => simp; exact .tup _ _ .nil
  | @cons x u l' us' hx hl =>
    cases hl with
    | nil => simp; exact hx
    | @cons x2 u2 l2 us2 hx2 hl2 => simp; exact .tup _ _ (.cons hx (.cons hx2 hl2))
end
end Go.AM
