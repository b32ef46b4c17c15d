/-
  THE ABSTRACT MACHINE: runs, as propositions that reduce. Definitions and plain lemmas.
-/
import Derived.Test.YtnnbibnobmegpaaAMMono
import Derived.Test.YtnnbibnobmegpaaAMFreeze
set_option linter.unusedVariables false
set_option linter.unusedSimpArgs false
namespace Go.AM

/-! what reduces -/
def wV (x : OV) (k : AV → Prop) : Prop := OV.rec False k x
def wO {α : Type} (x : Option α) (k : α → Prop) : Prop := Option.rec False k x
def wB (b : Bool) (y z : Prop) : Prop := Bool.rec z y b
def wC (v : AV) (y z : Prop) : Prop := BR.rec False y z (asBool v)
def wP (v : AV) (k : Nat → Nat → Prop) (kf : List AV → Prop) : Prop := PR.rec False k kf (asPtr v)

/-- an operation that is no call -/
def EPrim (p : AOp) (t : AT) (s : St) (k : AV → St → Prop) : Prop := ∀ e rec, ∃ v s', opA p e rec t s = .ok v s' ∧ k v s'
def EHead (l : List AV) (k : AV → Prop) : Prop := ∃ v, getL l 0 = some v ∧ k v
def ETake (n : Nat) (l : List AV) (k : List AV → Prop) : Prop := ∃ cs, takeL n l = some cs ∧ k cs
def ECall (e : Env) (f : Nat) (vs : List AV) (s : St) (k : AV → St → Prop) : Prop := ∃ n v s', callA e (exec e n) f vs s = .ok v s' ∧ k v s'
def ERound (e : Env) (l : Nat) (vs : List AV) (s : St) (k : AV → St → Prop) : Prop := ∃ n v s', roundA (exec e n) l vs s = .ok v s' ∧ k v s'
def EExec (e : Env) (c : AC) (t : AT) (s : St) (rd : Option Nat) (ds : List Nat) (Q : Ex → AT → St → List Nat → Prop) : Prop := ∃ n x t' s' ds', exec e n c t s rd ds = .ok x t' s' ds' ∧ Q x t' s' ds'

/-- a call by its name -/
def ESc (e : Env) (f : Nat) (vs : List AV) (s : St) (k : AV → St → Prop) : Prop := Option.rec (ECall e f vs s k) (fun h => RV.rec False k (h vs s)) (e.X.get f)
def EApply (e : Env) (f : AV) (vs : List AV) (s : St) (k : AV → St → Prop) : Prop :=
  FR.rec False (fun f xs ys => ECall e f (appL xs (appL vs ys)) s k) (fun l => ERound e l vs s k) (asFn f)

def EOp (e : Env) (p : AOp) (t : AT) (s : St) (k : AV → St → Prop) : Prop := match p with
  | .mv x => wV (ev x t) fun v => k v s
  | .pick c a b => wV (ev c t) fun c => wC c (wV (ev a t) fun v => k v s) (wV (ev b t) fun v => k v s)
  | .new el _ z => k (.ptr s.next 0) (s.alloc (.row el z))
  | .box el n x => wV (ev x t) fun v => wB (Nat.beq (lenL (cellsOf v)) n) (k (.ptr s.next 0) (s.alloc (.row el (cellsOf v)))) False
  | .build z ps => wO (fill t ps z) fun cs => k (.agg cs) s
  | .bsl el _ n z ps => wO (fill t ps z) fun cs => k (.sl s.next 0 n (some n)) (s.alloc (.row el cs))
  | .ld1 x => wV (ev x t) fun v => wP v (fun r o => wO (load1 r o s) fun u => k u s) (fun l => EHead l fun u => k u s)
  | .ldn n x => wV (ev x t) fun v => wP v (fun r o => wO (load r o n s) fun cs => k (.agg cs) s) (fun l => ETake n l fun cs => k (.agg cs) s)
  | .st n a x => wV (ev a t) fun p => wV (ev x t) fun v => wP p (fun r o => wB (Nat.beq (lenL (cellsOf v)) n) (wO (storeAt r o (cellsOf v) s) fun s' => k (.tup []) s') False) (fun _ => False)
  | .nilck x => wV (ev x t) fun v => wB (isNilV v) False (k v s)
  | .mkfn f a b => wO (evs t a) fun x => wO (evs t b) fun y => k (.fn f x y) s
  | .fa off x => wV (ev x t) fun v => wP v (fun r o => k (.ptr r (Nat.add o off)) s) (fun l => k (.fp (dropL off l)) s)
  | .fld1 off x => wV (ev x t) fun v => LR.rec False (fun l => wO (getL l off) fun u => k u s) (asAgg v)
  | .fldn off n x => wV (ev x t) fun v => LR.rec False (fun l => wO (takeL n (dropL off l)) fun cs => k (.agg cs) s) (asAgg v)
  | .ext x i => wV (ev x t) fun v => LR.rec False (fun l => wO (getL l i) fun u => k u s) (asTup v)
  | .alen n => k (intN n) s
  | .mkmap => k (.map s.next) (s.alloc (.map [] 0))
  | .call f args => wV (ev f t) fun fv => wO (evs t args) fun vs => EApply e fv vs s k
  | .scall f args => wO (evs t args) fun vs => ESc e f vs s k
  | p => EPrim p t s k

def EGrd (g : Option (Nat × Bool)) (t : AT) (y z : Prop) : Prop :=
  Option.rec y (fun p => wO (t.get p.1) fun v => BR.rec (wB (isAny v) False z) (wB p.2 y z) (wB p.2 z y) (asBool v)) g
def EOps (e : Env) (l : List AOper) : AT → St → (AT → St → Prop) → Prop :=
  List.rec (motive := fun _ => AT → St → (AT → St → Prop) → Prop) (fun t s K => K t s)
    (fun o _ ih t s K => AOper.rec (fun d p g => EGrd g t (EOp e p t s fun v s' => ih (putT d v t) s' K) (ih (putT d (.tup []) t) s K))
      (fun d p g => EGrd g t (EOp e p t s fun v _ => wO (t.get d) fun v0 => v = v0 ∧ ih t s K) (ih t s K)) o) l

abbrev EQ := Ex → AT → St → List Nat → Prop
def Bhd (K : AT → St → List Nat → Prop) (Q : EQ) : EQ := fun x t s ds => Ex.rec (K t s ds) (fun id => Q (.exit id) t s ds) (Q .ret t s ds) x
def Blk (id : Nat) (Q : EQ) : EQ := fun x t s ds => Ex.rec (Q .normal t s ds) (fun id' => wB (Nat.beq id id') (Q .normal t s ds) (Q (.exit id') t s ds)) (Q .ret t s ds) x
abbrev EC := AT → St → Option Nat → List Nat → EQ → Prop
/-- a run of the machine -/
def VE (e : Env) (c : AC) : EC := AC.rec (motive := fun _ => EC) (fun t s _ ds Q => Q .normal t s ds) (fun ops t s _ ds Q => EOps e ops t s fun t' s' => Q .normal t' s' ds)
  (fun _ _ ia ib t s rd ds Q => ia t s rd ds (Bhd (fun t s ds => ib t s rd ds Q) Q))
  (fun x _ _ ia ib t s rd ds Q => wV (ev x t) fun v => wC v (ia t s rd ds Q) (ib t s rd ds Q))
  (fun id _ ia t s rd ds Q => ia t s rd ds (Blk id Q))
  (fun a _ t s rd ds Q => EExec e (.loop a) t s rd ds Q) (fun g ps a b _ _ t s rd ds Q => EExec e (.rng g ps a b) t s rd ds Q)
  (fun id t s _ ds Q => Q (.exit id) t s ds) (fun t s _ ds Q => Q .ret t s ds) c
/-- the same, of the model -/
def VW (P : Program) (e : Env) (k : Nat) (c : AC) : EC := AC.rec (motive := fun _ => EC) (fun t s _ ds Q => Q .normal t s ds) (fun ops t s _ ds Q => EOps e ops t s fun t' s' => Q .normal t' s' ds)
  (fun _ _ ia ib t s rd ds Q => ia t s rd ds (Bhd (fun t s ds => ib t s rd ds Q) Q))
  (fun x _ _ ia ib t s rd ds Q => wV (ev x t) fun v => wC v (ia t s rd ds Q) (ib t s rd ds Q))
  (fun id _ ia t s rd ds Q => ia t s rd ds (Blk id Q))
  (fun a _ t s rd ds Q => W P k rd (.loop a) t s ds Q) (fun g ps a b _ _ t s rd ds Q => W P k rd (.rng g ps a b) t s ds Q)
  (fun id t s _ ds Q => Q (.exit id) t s ds) (fun t s _ ds Q => Q .ret t s ds) c
def EEnd (res : List ARes) (k : AV → St → Prop) : EQ := fun x t s ds =>
  Ex.rec (wO (quit ds s) fun s2 => wO (resA t s2 res) fun l => k (one l) s2) (fun _ => False) (wO (quit ds s) fun s2 => wO (resA t s2 res) fun l => k (one l) s2) x

/-! that they are right -/
section
variable {P : Program} {e : Env}
theorem wV_ok {x : OV} {k : AV → Prop} (h : wV x k) : ∃ v, x = .some v ∧ k v := by cases x with | none => exact h.elim | some v => exact ⟨v, rfl, h⟩
theorem wO_ok {α : Type} {x : Option α} {k : α → Prop} (h : wO x k) : ∃ v, x = some v ∧ k v := by cases x with | none => exact h.elim | some v => exact ⟨v, rfl, h⟩
theorem wC_ok {v : AV} {y z : Prop} (h : wC v y z) : (asBool v = .tt ∧ y) ∨ (asBool v = .ff ∧ z) := by
  unfold wC at h
  cases hb : asBool v with
  | no => rw [hb] at h; exact h.elim
  | tt => rw [hb] at h; exact .inl ⟨rfl, h⟩
  | ff => rw [hb] at h; exact .inr ⟨rfl, h⟩
theorem wP_ok {v : AV} {k : Nat → Nat → Prop} {kf : List AV → Prop} (h : wP v k kf) : (∃ r o, asPtr v = .ptr r o ∧ k r o) ∨ ∃ l, asPtr v = .fp l ∧ kf l := by
  unfold wP at h
  cases hb : asPtr v with
  | no => rw [hb] at h; exact h.elim
  | ptr r o => rw [hb] at h; exact .inl ⟨r, o, rfl, h⟩
  | fp l => rw [hb] at h; exact .inr ⟨l, rfl, h⟩
theorem lr_ok {x : LR} {k : List AV → Prop} (h : (LR.rec False k x : Prop)) : ∃ l, x = .l l ∧ k l := by cases x with | no => exact h.elim | l l => exact ⟨l, rfl, h⟩

theorem eop_sound {p : AOp} {t : AT} {s : St} {k : AV → St → Prop} (h : EOp e p t s k) : ∃ n v s', opA p e (exec e n) t s = .ok v s' ∧ k v s' := by
  unfold EOp at h
  split at h
  · obtain ⟨v, h1, hk⟩ := wV_ok h
    exact ⟨0, v, s, by show wth _ t _ = _; unfold wth; rw [h1], hk⟩
  · obtain ⟨c, h1, hk⟩ := wV_ok h
    rcases wC_ok hk with ⟨hb, hk⟩ | ⟨hb, hk⟩
    · obtain ⟨v, h2, hk⟩ := wV_ok hk
      refine ⟨0, v, s, ?_, hk⟩
      show wth _ t _ = _; unfold wth; rw [h1]
      show (BR.rec .fail _ _ (asBool c) : RV) = _; rw [hb]
      show ret _ s = _; rw [h2]; rfl
    · obtain ⟨v, h2, hk⟩ := wV_ok hk
      refine ⟨0, v, s, ?_, hk⟩
      show wth _ t _ = _; unfold wth; rw [h1]
      show (BR.rec .fail _ _ (asBool c) : RV) = _; rw [hb]
      show ret _ s = _; rw [h2]; rfl
  · exact ⟨0, _, _, rfl, h⟩
  · rename_i el n x
    obtain ⟨v, h1, hk⟩ := wV_ok h
    cases hb : Nat.beq (lenL (cellsOf v)) n with
    | false => rw [hb] at hk; exact hk.elim
    | true =>
      rw [hb] at hk
      refine ⟨0, _, _, ?_, hk⟩
      show wth _ t _ = _; unfold wth; rw [h1]
      show gd (Nat.beq (lenL (cellsOf v)) n) _ = _; rw [hb]; rfl
  · obtain ⟨cs, h1, hk⟩ := wO_ok h
    refine ⟨0, _, _, ?_, hk⟩
    show (Option.rec .fail _ (fill t _ _) : RV) = _; rw [h1]
  · obtain ⟨cs, h1, hk⟩ := wO_ok h
    refine ⟨0, _, _, ?_, hk⟩
    show (Option.rec .fail _ (fill t _ _) : RV) = _; rw [h1]; rfl
  · obtain ⟨v, h1, hk⟩ := wV_ok h
    rcases wP_ok hk with ⟨r, o, hb, hk⟩ | ⟨l, hb, hk⟩
    · obtain ⟨u, h2, hk⟩ := wO_ok hk
      refine ⟨0, u, s, ?_, hk⟩
      show wth _ t _ = _; unfold wth; rw [h1]
      show (PR.rec .fail _ _ (asPtr v) : RV) = _; rw [hb]
      show retO _ s = _; rw [h2]; rfl
    · obtain ⟨u, h2, hk⟩ := hk
      refine ⟨0, u, s, ?_, hk⟩
      show wth _ t _ = _; unfold wth; rw [h1]
      show (PR.rec .fail _ _ (asPtr v) : RV) = _; rw [hb]
      show retO _ s = _; rw [h2]; rfl
  · obtain ⟨v, h1, hk⟩ := wV_ok h
    rcases wP_ok hk with ⟨r, o, hb, hk⟩ | ⟨l, hb, hk⟩
    · obtain ⟨u, h2, hk⟩ := wO_ok hk
      refine ⟨0, .agg u, s, ?_, hk⟩
      show wth _ t _ = _; unfold wth; rw [h1]
      show (PR.rec .fail _ _ (asPtr v) : RV) = _; rw [hb]
      show (Option.rec .fail _ (load r o _ s) : RV) = _; rw [h2]
    · obtain ⟨u, h2, hk⟩ := hk
      refine ⟨0, .agg u, s, ?_, hk⟩
      show wth _ t _ = _; unfold wth; rw [h1]
      show (PR.rec .fail _ _ (asPtr v) : RV) = _; rw [hb]
      show (Option.rec .fail _ (takeL _ l) : RV) = _; rw [h2]
  · rename_i n a x
    obtain ⟨p, h1, hk⟩ := wV_ok h
    obtain ⟨v, h2, hk⟩ := wV_ok hk
    rcases wP_ok hk with ⟨r, o, hb, hk⟩ | ⟨l, hb, hk⟩
    · cases hc : Nat.beq (lenL (cellsOf v)) n with
      | false => rw [hc] at hk; exact hk.elim
      | true =>
        rw [hc] at hk
        obtain ⟨s', h3, hk⟩ := wO_ok hk
        refine ⟨0, _, s', ?_, hk⟩
        show wth _ t _ = _; unfold wth; rw [h1]
        show wth _ t _ = _; unfold wth; rw [h2]
        show (PR.rec .fail _ _ (asPtr p) : RV) = _; rw [hb]
        show gd (Nat.beq (lenL (cellsOf v)) n) _ = _; rw [hc]
        show retS _ (storeAt r o (cellsOf v) s) = _; rw [h3]; rfl
    · exact hk.elim
  · obtain ⟨v, h1, hk⟩ := wV_ok h
    cases hb : isNilV v with
    | true => rw [hb] at hk; exact hk.elim
    | false =>
      rw [hb] at hk
      refine ⟨0, v, s, ?_, hk⟩
      show wth _ t _ = _; unfold wth; rw [h1]
      show (Bool.rec _ _ (isNilV v) : RV) = _; rw [hb]
  · obtain ⟨x, h1, hk⟩ := wO_ok h
    obtain ⟨y, h2, hk⟩ := wO_ok hk
    refine ⟨0, _, s, ?_, hk⟩
    show (Option.rec .fail _ (evs t _) : RV) = _; rw [h1]
    show (Option.rec .fail _ (evs t _) : RV) = _; rw [h2]
  · obtain ⟨v, h1, hk⟩ := wV_ok h
    rcases wP_ok hk with ⟨r, o, hb, hk⟩ | ⟨l, hb, hk⟩
    · refine ⟨0, _, s, ?_, hk⟩
      show wth _ t _ = _; unfold wth; rw [h1]
      show (PR.rec .fail _ _ (asPtr v) : RV) = _; rw [hb]
    · refine ⟨0, _, s, ?_, hk⟩
      show wth _ t _ = _; unfold wth; rw [h1]
      show (PR.rec .fail _ _ (asPtr v) : RV) = _; rw [hb]
  · obtain ⟨v, h1, hk⟩ := wV_ok h
    obtain ⟨l, hb, hk⟩ := lr_ok hk
    obtain ⟨u, h2, hk⟩ := wO_ok hk
    refine ⟨0, u, s, ?_, hk⟩
    show wth _ t _ = _; unfold wth; rw [h1]
    show (LR.rec .fail _ (asAgg v) : RV) = _; rw [hb]
    show retO _ s = _; rw [h2]; rfl
  · obtain ⟨v, h1, hk⟩ := wV_ok h
    obtain ⟨l, hb, hk⟩ := lr_ok hk
    obtain ⟨u, h2, hk⟩ := wO_ok hk
    refine ⟨0, _, s, ?_, hk⟩
    show wth _ t _ = _; unfold wth; rw [h1]
    show (LR.rec .fail _ (asAgg v) : RV) = _; rw [hb]
    show (Option.rec .fail _ (takeL _ _) : RV) = _; rw [h2]
  · obtain ⟨v, h1, hk⟩ := wV_ok h
    obtain ⟨l, hb, hk⟩ := lr_ok hk
    obtain ⟨u, h2, hk⟩ := wO_ok hk
    refine ⟨0, u, s, ?_, hk⟩
    show wth _ t _ = _; unfold wth; rw [h1]
    show (LR.rec .fail _ (asTup v) : RV) = _; rw [hb]
    show retO _ s = _; rw [h2]; rfl
  · exact ⟨0, _, _, rfl, h⟩
  · exact ⟨0, _, _, rfl, h⟩
  · obtain ⟨fv, h1, hk⟩ := wV_ok h
    obtain ⟨vs, h2, hk⟩ := wO_ok hk
    unfold EApply at hk
    cases hf : asFn fv with
    | no => rw [hf] at hk; exact hk.elim
    | fn f xs ys =>
      rw [hf] at hk
      obtain ⟨n, v, s', h3, hk⟩ := hk
      refine ⟨n, v, s', ?_, hk⟩
      show wth _ t _ = _; unfold wth; rw [h1]
      show (Option.rec .fail _ (evs t _) : RV) = _; rw [h2]
      show applyA e _ fv vs s = _; unfold applyA; rw [hf]; exact h3
    | yld l =>
      rw [hf] at hk
      obtain ⟨n, v, s', h3, hk⟩ := hk
      refine ⟨n, v, s', ?_, hk⟩
      show wth _ t _ = _; unfold wth; rw [h1]
      show (Option.rec .fail _ (evs t _) : RV) = _; rw [h2]
      show applyA e _ fv vs s = _; unfold applyA; rw [hf]; exact h3
  · rename_i f args
    obtain ⟨vs, h2, hk⟩ := wO_ok h
    unfold ESc at hk
    cases hx : e.X.get f with
    | none =>
      rw [hx] at hk
      obtain ⟨n, v, s', h3, hk⟩ := hk
      refine ⟨n, v, s', ?_, hk⟩
      show (Option.rec .fail (fun vs => Option.rec (callA e (exec e n) f vs s) (fun h => h vs s) (e.X.get f)) (evs t args) : RV) = _
      rw [h2, hx]; exact h3
    | some hh =>
      rw [hx] at hk
      change (RV.rec False k (hh vs s) : Prop) at hk
      cases hq : hh vs s with
      | fail => rw [hq] at hk; exact hk.elim
      | ok v s' =>
        rw [hq] at hk
        refine ⟨0, v, s', ?_, hk⟩
        show (Option.rec .fail (fun vs => Option.rec (callA e (exec e 0) f vs s) (fun h => h vs s) (e.X.get f)) (evs t args) : RV) = _
        rw [h2, hx]; exact hq
  · obtain ⟨v, s', h1, hk⟩ := h e (exec e 0)
    exact ⟨0, v, s', h1, hk⟩

theorem egrd_ok {g : Option (Nat × Bool)} {t : AT} {y z : Prop} (h : EGrd g t y z) : (wantedA g t = 2 ∧ y) ∨ (wantedA g t = 1 ∧ z) := by
  cases g with
  | none => exact .inl ⟨rfl, h⟩
  | some p =>
    obtain ⟨j, b⟩ := p
    obtain ⟨v, h1, hk⟩ := wO_ok (show wO (t.get j) (fun v => BR.rec (wB (isAny v) False z) (wB b y z) (wB b z y) (asBool v)) from h)
    have hw : wantedA (some (j, b)) t = (BR.rec (Bool.rec 1 0 (isAny v)) (Bool.rec 1 2 b) (Bool.rec 2 1 b) (asBool v) : Nat) := by
      show (Option.rec 0 (fun v => BR.rec (Bool.rec 1 0 (isAny v)) (Bool.rec 1 2 b) (Bool.rec 2 1 b) (asBool v)) (t.get j) : Nat) = _
      rw [h1]
    rw [hw]
    revert hk
    cases asBool v with
    | no =>
      intro hk
      cases hi : isAny v with
      | true => rw [hi] at hk; exact hk.elim
      | false => rw [hi] at hk; exact .inr ⟨rfl, hk⟩
    | tt => intro hk; cases b with
      | true => exact .inl ⟨rfl, hk⟩
      | false => exact .inr ⟨rfl, hk⟩
    | ff => intro hk; cases b with
      | true => exact .inr ⟨rfl, hk⟩
      | false => exact .inl ⟨rfl, hk⟩

theorem eops_sound : ∀ {l : List AOper} {t : AT} {s : St} {K : AT → St → Prop}, EOps e l t s K → ∃ n t' s', opsA e (exec e n) l t s = .ok t' s' ∧ K t' s' := by
  intro l
  induction l with
  | nil => intro t s K h; exact ⟨0, t, s, rfl, h⟩
  | cons o l ih =>
    intro t s K h
    cases o with
    | mk d p g =>
      rcases egrd_ok (show EGrd g t (EOp e p t s fun v s' => EOps e l (putT d v t) s' K) (EOps e l (putT d (.tup []) t) s K) from h) with ⟨hw, h⟩ | ⟨hw, h⟩
      · obtain ⟨n, v, s1, h1, h⟩ := eop_sound h
        obtain ⟨m, t', s', h2, hk⟩ := ih h
        refine ⟨max n m, t', s', ?_, hk⟩
        show (Nat.rec .fail (fun w _ => Nat.rec (opsA e (exec e (max n m)) l (putT d (.tup []) t) s) (fun _ _ => RV.rec .fail (fun v s' => opsA e (exec e (max n m)) l (putT d v t) s') (opA p e (exec e (max n m)) t s)) w) (wantedA g t) : RT) = .ok t' s'
        rw [hw, opA_le (exec_le (Nat.le_max_left n m)) h1]
        exact opsA_le (exec_le (Nat.le_max_right n m)) h2
      · obtain ⟨m, t', s', h2, hk⟩ := ih h
        refine ⟨m, t', s', ?_, hk⟩
        show (Nat.rec .fail (fun w _ => Nat.rec (opsA e (exec e m) l (putT d (.tup []) t) s) (fun _ _ => RV.rec .fail (fun v s' => opsA e (exec e m) l (putT d v t) s') (opA p e (exec e m) t s)) w) (wantedA g t) : RT) = .ok t' s'
        rw [hw]; exact h2
    | chk d p g =>
      rcases egrd_ok (show EGrd g t (EOp e p t s fun v _ => wO (t.get d) fun v0 => v = v0 ∧ EOps e l t s K) (EOps e l t s K) from h) with ⟨hw, h⟩ | ⟨hw, h⟩
      · obtain ⟨n, v, s1, h1, h⟩ := eop_sound h
        obtain ⟨v0, hd, rfl, h⟩ := wO_ok h
        obtain ⟨m, t', s', h2, hk⟩ := ih h
        refine ⟨max n m, t', s', ?_, hk⟩
        show (Nat.rec .fail (fun w _ => Nat.rec (opsA e (exec e (max n m)) l t s) (fun _ _ => RV.rec .fail (fun v _ => Option.rec .fail (fun v0 => Bool.rec .fail (opsA e (exec e (max n m)) l t s) (eqV v v0)) (t.get d)) (opA p e (exec e (max n m)) t s)) w) (wantedA g t) : RT) = .ok t' s'
        rw [hw, opA_le (exec_le (Nat.le_max_left n m)) h1]
        show (Option.rec .fail (fun v0 => Bool.rec .fail (opsA e (exec e (max n m)) l t s) (eqV v v0)) (t.get d) : RT) = .ok t' s'
        rw [hd]
        show (Bool.rec .fail (opsA e (exec e (max n m)) l t s) (eqV v v) : RT) = .ok t' s'
        rw [show eqV v v = true from eqA_refl v]
        exact opsA_le (exec_le (Nat.le_max_right n m)) h2
      · obtain ⟨m, t', s', h2, hk⟩ := ih h
        refine ⟨m, t', s', ?_, hk⟩
        show (Nat.rec .fail (fun w _ => Nat.rec (opsA e (exec e m) l t s) (fun _ _ => RV.rec .fail (fun v _ => Option.rec .fail (fun v0 => Bool.rec .fail (opsA e (exec e m) l t s) (eqV v v0)) (t.get d)) (opA p e (exec e m) t s)) w) (wantedA g t) : RT) = .ok t' s'
        rw [hw]; exact h2

theorem ve_sound : ∀ {c : AC} {t : AT} {s : St} {rd : Option Nat} {ds : List Nat} {Q : EQ}, VE e c t s rd ds Q → EExec e c t s rd ds Q := by
  intro c
  induction c with
  | skip => intro t s rd ds Q h; exact ⟨1, _, _, _, _, rfl, h⟩
  | exit id => intro t s rd ds Q h; exact ⟨1, _, _, _, _, rfl, h⟩
  | ret => intro t s rd ds Q h; exact ⟨1, _, _, _, _, rfl, h⟩
  | reg ops =>
    intro t s rd ds Q h
    obtain ⟨n, t', s', h1, hk⟩ := eops_sound (show EOps e ops t s (fun t' s' => Q .normal t' s' ds) from h)
    refine ⟨n + 1, _, _, _, _, ?_, hk⟩
    show (RT.rec .fail (fun t' s' => .ok .normal t' s' ds) (opsA e (exec e n) ops t s) : R) = _
    rw [h1]
  | seq a b ia ib =>
    intro t s rd ds Q h
    obtain ⟨n, x, t1, s1, ds1, h1, hk⟩ := ia (show VE e a t s rd ds (Bhd (fun t s ds => VE e b t s rd ds Q) Q) from h)
    cases x with
    | normal =>
      obtain ⟨m, x2, t2, s2, ds2, h2, hk⟩ := ib (show VE e b t1 s1 rd ds1 Q from hk)
      refine ⟨max n m + 1, _, _, _, _, ?_, hk⟩
      show seqE (exec e (max n m)) b rd (exec e (max n m) a t s rd ds) = _
      rw [exec_le (Nat.le_max_left n m) _ _ _ _ _ _ _ _ _ h1]
      exact exec_le (Nat.le_max_right n m) _ _ _ _ _ _ _ _ _ h2
    | exit id =>
      refine ⟨n + 1, _, _, _, _, ?_, hk⟩
      show seqE (exec e n) b rd (exec e n a t s rd ds) = _
      rw [h1]; rfl
    | ret =>
      refine ⟨n + 1, _, _, _, _, ?_, hk⟩
      show seqE (exec e n) b rd (exec e n a t s rd ds) = _
      rw [h1]; rfl
  | cond x a b ia ib =>
    intro t s rd ds Q h
    obtain ⟨v, hv, h⟩ := wV_ok (show wV (ev x t) (fun v => wC v (VE e a t s rd ds Q) (VE e b t s rd ds Q)) from h)
    rcases wC_ok h with ⟨hb, h⟩ | ⟨hb, h⟩
    · obtain ⟨n, x1, t1, s1, ds1, h1, hk⟩ := ia h
      refine ⟨n + 1, _, _, _, _, ?_, hk⟩
      show (OV.rec .fail (fun v => BR.rec .fail (exec e n a t s rd ds) (exec e n b t s rd ds) (asBool v)) (ev x t) : R) = _
      rw [hv]; show (BR.rec .fail (exec e n a t s rd ds) (exec e n b t s rd ds) (asBool v) : R) = _; rw [hb]; exact h1
    · obtain ⟨n, x1, t1, s1, ds1, h1, hk⟩ := ib h
      refine ⟨n + 1, _, _, _, _, ?_, hk⟩
      show (OV.rec .fail (fun v => BR.rec .fail (exec e n a t s rd ds) (exec e n b t s rd ds) (asBool v)) (ev x t) : R) = _
      rw [hv]; show (BR.rec .fail (exec e n a t s rd ds) (exec e n b t s rd ds) (asBool v) : R) = _; rw [hb]; exact h1
  | block id a ia =>
    intro t s rd ds Q h
    obtain ⟨n, x, t1, s1, ds1, h1, hk⟩ := ia (show VE e a t s rd ds (Blk id Q) from h)
    cases x with
    | normal =>
      refine ⟨n + 1, _, _, _, _, ?_, hk⟩
      show blockE id (exec e n a t s rd ds) = _; rw [h1]; rfl
    | ret =>
      refine ⟨n + 1, _, _, _, _, ?_, hk⟩
      show blockE id (exec e n a t s rd ds) = _; rw [h1]; rfl
    | exit id' =>
      have hk : wB (Nat.beq id id') (Q .normal t1 s1 ds1) (Q (.exit id') t1 s1 ds1) := hk
      cases hb : Nat.beq id id' with
      | true =>
        rw [hb] at hk
        refine ⟨n + 1, _, _, _, _, ?_, hk⟩
        show blockE id (exec e n a t s rd ds) = _; rw [h1]
        show (Bool.rec _ _ (Nat.beq id id') : R) = _; rw [hb]
      | false =>
        rw [hb] at hk
        refine ⟨n + 1, _, _, _, _, ?_, hk⟩
        show blockE id (exec e n a t s rd ds) = _; rw [h1]
        show (Bool.rec _ _ (Nat.beq id id') : R) = _; rw [hb]
  | loop a ia => intro t s rd ds Q h; exact h
  | rng g ps a b ia ib => intro t s rd ds Q h; exact h

theorem vw_sound (hE : EnvOk P e) (hm : P.follows .mixedOrders = true) {k : Nat} : ∀ {c : AC} {t : AT} {s : St} {rd : Option Nat} {ds : List Nat} {Q : EQ}, VW P e k c t s rd ds Q → W P k rd c t s ds Q := by
  intro c
  induction c with
  | skip => intro t s rd ds Q h; exact W.skip h
  | exit id => intro t s rd ds Q h; exact W.exit h
  | ret => intro t s rd ds Q h; exact W.ret h
  | reg ops =>
    intro t s rd ds Q h
    obtain ⟨n, t', s', h1, hk⟩ := eops_sound (show EOps e ops t s (fun t' s' => Q .normal t' s' ds) from h)
    refine W.exec (exec_good hE hm (n + 1)) (t' := t') (s' := s') (ds' := ds) (x := .normal) ?_ hk
    show (RT.rec .fail (fun t' s' => .ok .normal t' s' ds) (opsA e (exec e n) ops t s) : R) = _
    rw [h1]
  | seq a b ia ib =>
    intro t s rd ds Q h
    refine W.seq ((ia (show VW P e k a t s rd ds (Bhd (fun t s ds => VW P e k b t s rd ds Q) Q) from h)).mono ?_)
    intro x t1 s1 ds1 hq
    cases x with
    | normal => exact ib hq
    | exit id => exact hq
    | ret => exact hq
  | cond x a b ia ib =>
    intro t s rd ds Q h
    obtain ⟨v, hv, h⟩ := wV_ok (show wV (ev x t) (fun v => wC v (VW P e k a t s rd ds Q) (VW P e k b t s rd ds Q)) from h)
    rcases wC_ok h with ⟨hb, h⟩ | ⟨hb, h⟩
    · exact W.cond (b := true) (by rw [hv, asBool_tt hb]) (fun _ => ia h) (fun e => by cases e)
    · exact W.cond (b := false) (by rw [hv, asBool_ff hb]) (fun e => by cases e) (fun _ => ib h)
  | block id a ia =>
    intro t s rd ds Q h
    refine W.block ((ia (show VW P e k a t s rd ds (Blk id Q) from h)).mono ?_)
    intro x t1 s1 ds1 hq
    cases x with
    | normal => exact hq
    | ret => exact hq
    | exit id' =>
      have hq : wB (Nat.beq id id') (Q .normal t1 s1 ds1) (Q (.exit id') t1 s1 ds1) := hq
      show if id' = id then _ else _
      cases hb : Nat.beq id id' with
      | true => rw [hb] at hq; rw [if_pos (Nat.eq_of_beq_eq_true hb).symm]; exact hq
      | false => rw [hb] at hq; rw [if_neg (fun e => Nat.ne_of_beq_eq_false hb e.symm)]; exact hq
  | loop a ia => intro t s rd ds Q h; exact h
  | rng g ps a b ia ib => intro t s rd ds Q h; exact h

theorem eend_ends {res : List ARes} {k : AV → St → Prop} {x : Ex} {t : AT} {s : St} {ds : List Nat} (h : EEnd res k x t s ds) : Ends res k x t s ds := by
  cases x with
  | normal =>
    obtain ⟨s2, h1, h⟩ := wO_ok (show wO (quit ds s) (fun s2 => wO (resA t s2 res) fun l => k (one l) s2) from h)
    obtain ⟨l, h2, h⟩ := wO_ok h
    exact ⟨.inl rfl, s2, l, h1, h2, h⟩
  | ret =>
    obtain ⟨s2, h1, h⟩ := wO_ok (show wO (quit ds s) (fun s2 => wO (resA t s2 res) fun l => k (one l) s2) from h)
    obtain ⟨l, h2, h⟩ := wO_ok h
    exact ⟨.inr rfl, s2, l, h1, h2, h⟩
  | exit id => exact (show False from h).elim

/-- a function's contract from its body -/
theorem C.of_V (hE : EnvOk P e) (hm : P.follows .mixedOrders = true) {f : Nat} {fn : Func} {code : AC} {res : List ARes} {args : List AV} {s : St} {Q : AV → St → Prop} (hf : P.funcs[f]? = some fn) (hc : compF P fn = some (.mk code res))
    (h : VW P e s.next code (initT args 0 .lf) s none [] (EEnd res Q)) : C P f args s Q :=
  C.of_W hf hc ((vw_sound hE hm h).mono fun _ _ _ _ h => eend_ends h)

/-- a call of a function that is known by its code -/
theorem ECall.inl {f : Nat} {vs : List AV} {s : St} {k : AV → St → Prop} {code : AC} {res : List ARes} (hO : e.O.get f = none) (hG : e.G.get f = some (.mk code res))
    (h : VE e code (initT vs 0 .lf) s none [] (EEnd res k)) : ECall e f vs s k := by
  obtain ⟨n, x, t', s', ds', h1, hk⟩ := ve_sound h
  obtain ⟨hx, s2, l, h2, h3, hk⟩ := eend_ends hk
  refine ⟨n, one l, s2, ?_, hk⟩
  unfold callA
  rw [hO]
  show callG e _ f vs s = _
  unfold callG
  rw [hG]
  show callEnd res (exec e n code (initT vs 0 .lf) s none []) = _
  rw [h1]
  rcases hx with rfl | rfl
  · show (Option.rec .fail (fun s => Option.rec .fail (fun l => .ok (one l) s) (resA t' s res)) (quit ds' s') : RV) = _
    rw [h2]; show (Option.rec .fail (fun l => .ok (one l) s2) (resA t' s2 res) : RV) = _; rw [h3]
  · show (Option.rec .fail (fun s => Option.rec .fail (fun l => .ok (one l) s) (resA t' s res)) (quit ds' s') : RV) = _
    rw [h2]; show (Option.rec .fail (fun l => .ok (one l) s2) (resA t' s2 res) : RV) = _; rw [h3]
/-- .. that has a contract -/
theorem ECall.ov {f : Nat} {vs : List AV} {s : St} {k : AV → St → Prop} {h : Ov} {v : AV} {s' : St} (hO : e.O.get f = some h) (hh : h vs s = .ok v s') (hk : k v s') : ECall e f vs s k := by
  refine ⟨0, v, s', ?_, hk⟩
  unfold callA
  rw [hO]
  show (RV.rec _ _ (h vs s) : RV) = _
  rw [hh]
theorem EPrim.mk {p : AOp} {t : AT} {s : St} {k : AV → St → Prop} {v : AV} {s' : St} (h : ∀ e rec, opA p e rec t s = .ok v s') (hk : k v s') : EPrim p t s k := fun e rec => ⟨v, s', h e rec, hk⟩
theorem EHead.mk {l : List AV} {k : AV → Prop} {v : AV} (h : l[0]? = some v) (hk : k v) : EHead l k := ⟨v, by rw [getL_eq]; exact h, hk⟩
theorem takeL_of {α : Type} : ∀ {n : Nat} {l : List α}, n ≤ l.length → takeL n l = some (l.take n)
  | 0, l, _ => rfl
  | n + 1, [], h => by simp at h
  | n + 1, x :: l, h => by
    show (Option.rec none (fun r => some (x :: r)) (takeL n l) : Option (List α)) = _
    rw [takeL_of (n := n) (l := l) (by simpa using h)]; rfl
theorem ETake.mk {n : Nat} {l : List AV} {k : List AV → Prop} (h : n ≤ l.length) (hk : k (l.take n)) : ETake n l k := ⟨_, takeL_of h, hk⟩
theorem EExec.of {c : AC} {t : AT} {s : St} {rd : Option Nat} {ds : List Nat} {Q : EQ} (h : VE e c t s rd ds Q) : EExec e c t s rd ds Q := ve_sound h
theorem EExec.loop {a : AC} {t : AT} {s : St} {rd : Option Nat} {ds : List Nat} {Q : EQ} (h : VE e a t s rd ds (Bhd (fun t s ds => EExec e (.loop a) t s rd ds Q) Q)) : EExec e (.loop a) t s rd ds Q := by
  obtain ⟨n, x, t1, s1, ds1, h1, hk⟩ := ve_sound h
  cases x with
  | normal =>
    obtain ⟨m, x2, t2, s2, ds2, h2, hk⟩ := (show EExec e (.loop a) t1 s1 rd ds1 Q from hk)
    refine ⟨max n m + 1, _, _, _, _, ?_, hk⟩
    show seqE (exec e (max n m)) (.loop a) rd (exec e (max n m) a t s rd ds) = _
    rw [exec_le (Nat.le_max_left n m) _ _ _ _ _ _ _ _ _ h1]
    exact exec_le (Nat.le_max_right n m) _ _ _ _ _ _ _ _ _ h2
  | exit id =>
    refine ⟨n + 1, _, _, _, _, ?_, hk⟩
    show seqE (exec e n) (.loop a) rd (exec e n a t s rd ds) = _
    rw [h1]; rfl
  | ret =>
    refine ⟨n + 1, _, _, _, _, ?_, hk⟩
    show seqE (exec e n) (.loop a) rd (exec e n a t s rd ds) = _
    rw [h1]; rfl
/-- a function of which the code is known -/
structure Inl (e : Env) (f : Nat) (code : AC) (res : List ARes) : Prop where
  X : e.X.get f = none
  O : e.O.get f = none
  G : e.G.get f = some (.mk code res)
/-- a function of which a contract is known -/
structure Con (e : Env) (f : Nat) (h : Ov) : Prop where
  X : e.X.get f = none
  O : e.O.get f = some h
theorem ESc.inl {f : Nat} {vs : List AV} {s : St} {k : AV → St → Prop} {code : AC} {res : List ARes} (hi : Inl e f code res) (h : VE e code (initT vs 0 .lf) s none [] (EEnd res k)) : ESc e f vs s k := by
  unfold ESc; rw [hi.X]; exact ECall.inl hi.O hi.G h
theorem ESc.ext {f : Nat} {vs : List AV} {s : St} {k : AV → St → Prop} {h : Ov} {v : AV} {s' : St} (hX : e.X.get f = some h) (hh : h vs s = .ok v s') (hk : k v s') : ESc e f vs s k := by
  unfold ESc; rw [hX]; show (RV.rec False k (h vs s) : Prop); rw [hh]; exact hk
theorem ESc.ov {f : Nat} {vs : List AV} {s : St} {k : AV → St → Prop} {h : Ov} {v : AV} {s' : St} (hi : Con e f h) (hh : h vs s = .ok v s') (hk : k v s') : ESc e f vs s k := by
  unfold ESc; rw [hi.X]; exact ECall.ov hi.O hh hk
end
theorem ECall.elim {e : Env} {f : Nat} {vs : List AV} {s : St} {k : AV → St → Prop} (h : ECall e f vs s k) : ∃ n v s', callA e (exec e n) f vs s = .ok v s' ∧ k v s' := h
attribute [irreducible] EPrim EHead ETake ECall ERound EExec ESc
end Go.AM
