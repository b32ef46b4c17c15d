/-
  THE ABSTRACT MACHINE: operations that turn nothing; values that are alike. Plain lemmas.
-/
import Derived.Test.YtnnbibnobmegpaaAMExec4
set_option linter.unusedVariables false
set_option linter.unusedSimpArgs false
namespace Go.AM
section
variable {A : St → St → Prop} {t : AT}

/-- it turns nothing, and answers the same wherever A leads -/
def Pu (A : St → St → Prop) (k : St → RV) : Prop := ∀ s v s1, k s = .ok v s1 → s1 = s ∧ ∀ s2, A s s2 → k s2 = .ok v s2
theorem Pu.fail : Pu A (fun _ => .fail) := fun s v s1 h => by cases h
theorem Pu.ok (v : AV) : Pu A (fun s => .ok v s) := fun s u s1 h => by cases h; exact ⟨rfl, fun _ _ => rfl⟩
theorem Pu.ret (x : OV) : Pu A (fun s => ret x s) := fun s u s1 h => by
  cases x with
  | none => cases h
  | some v => cases h; exact ⟨rfl, fun _ _ => rfl⟩
theorem Pu.retO (x : Option AV) : Pu A (fun s => retO x s) := fun s u s1 h => by
  cases x with
  | none => cases h
  | some v => cases h; exact ⟨rfl, fun _ _ => rfl⟩
theorem Pu.gd (b : Bool) {k : St → RV} (h : Pu A k) : Pu A (fun s => gd b (k s)) := by cases b with | true => exact h | false => exact .fail
theorem Pu.bool (b : Bool) {k l : St → RV} (h : Pu A k) (h' : Pu A l) : Pu A (fun s => Bool.rec (k s) (l s) b) := by cases b with | true => exact h' | false => exact h
theorem Pu.wth (x : AO) {k : AV → St → RV} (h : ∀ a, Pu A (k a)) : Pu A (fun s => wth x t (fun a => k a s)) := by
  unfold AM.wth
  cases ev x t with
  | none => exact .fail
  | some v => exact h v
theorem Pu.opt {α : Type} (x : Option α) {l : St → RV} {k : α → St → RV} (h' : Pu A l) (h : ∀ a, Pu A (k a)) : Pu A (fun s => Option.rec (l s) (fun a => k a s) x) := by cases x with | none => exact h' | some a => exact h a
theorem Pu.pr (x : PR) {k : Nat → Nat → St → RV} {kf : List AV → St → RV} (h : ∀ a b, Pu A (k a b)) (hf : ∀ l, Pu A (kf l)) : Pu A (fun s => PR.rec .fail (fun a b => k a b s) (fun l => kf l s) x) := by cases x with | no => exact .fail | ptr a b => exact h a b | fp l => exact hf l
theorem Pu.ir (x : IR) {k : IntKind → Int → St → RV} (h : ∀ a b, Pu A (k a b)) : Pu A (fun s => IR.rec .fail (fun a b => k a b s) x) := by cases x with | no => exact .fail | int a b => exact h a b
theorem Pu.br (x : BR) {k l : St → RV} (h : Pu A k) (h' : Pu A l) : Pu A (fun s => BR.rec .fail (k s) (l s) x) := by cases x with | no => exact .fail | tt => exact h | ff => exact h'
theorem Pu.sr (x : SR) {k : Nat → Nat → Nat → Option Nat → St → RV} {l m : St → RV} {kf : Nat → Option Nat → List AV → St → RV} (h : ∀ a b c d, Pu A (k a b c d)) (h1 : Pu A l) (h2 : Pu A m) (hf : ∀ a b c, Pu A (kf a b c)) : Pu A (fun s => SR.rec .fail (fun a b c d => k a b c d s) (l s) (m s) (fun a b c => kf a b c s) x) := by
  cases x with | no => exact .fail | sl a b c d => exact h a b c d | nils => exact h1 | es => exact h2 | fz a b c => exact hf a b c
theorem Pu.lr (x : LR) {k : List AV → St → RV} (h : ∀ a, Pu A (k a)) : Pu A (fun s => LR.rec .fail (fun a => k a s) x) := by cases x with | no => exact .fail | l a => exact h a
theorem Pu.nr (x : NR) {k : Nat → St → RV} (h : ∀ a, Pu A (k a)) : Pu A (fun s => NR.rec .fail (fun a => k a s) x) := by cases x with | no => exact .fail | n a => exact h a
theorem Pu.mr (x : MR) {k : Nat → St → RV} {l : St → RV} (h : ∀ a, Pu A (k a)) (h' : Pu A l) : Pu A (fun s => MR.rec .fail (fun a => k a s) (l s) x) := by cases x with | no => exact .fail | m a => exact h a | nil => exact h'
theorem Pu.lst {α : Type} (x : List α) {k : α → List α → St → RV} (h : ∀ a b, Pu A (k a b)) : Pu A (fun s => List.rec .fail (fun a b _ => k a b s) x) := by cases x with | nil => exact .fail | cons a b => exact h a b

theorem slc1_Pu (es r o n : Nat) (cap : Option Nat) (l h : Nat) : Pu A (slc1 es r o n cap l h) :=
  Pu.opt cap (Pu.gd _ (Pu.bool _ (.ok _) (.ok _))) (fun c => Pu.gd _ (.ok _))
theorem slc2_Pu (es r o n : Nat) (cap : Option Nat) (l h m : Nat) : Pu A (slc2 es r o n cap l h m) := Pu.gd _ (.ok _)

theorem slcF_Pu (es n : Nat) (cap : Option Nat) (cs : List AV) (l h : Nat) : Pu A (slcF es n cap cs l h) := Pu.gd _ (Pu.bool _ (.ok _) (Pu.opt _ .fail fun _ => .ok _))
theorem slcF3_Pu (es n : Nat) (cs : List AV) (l h m : Nat) : Pu A (slcF3 es n cs l h m) := Pu.gd _ (Pu.bool _ (.ok _) (Pu.opt _ .fail fun _ => .ok _))

def isPure (p : AOp) : Bool := !isEff p && !isLoad p && !isMake p
theorem pure_Pu {e : Env} {rec : Rec} {p : AOp} (hp : isPure p = true) : Pu A (opA p e rec t) := by
  cases p with
  | mv x => exact Pu.wth x fun a => .ok a
  | pick c a b => exact Pu.wth c fun _ => Pu.br _ (.ret _) (.ret _)
  | build z ps => exact Pu.opt _ .fail fun cs => .ok _
  | nilck x => exact Pu.wth x fun a => Pu.bool _ (.ok _) .fail
  | bin op x y => exact Pu.wth x fun a => Pu.wth y fun b => .ret _
  | eqb kd neg x y => exact Pu.wth x fun a => Pu.wth y fun b => Pu.opt _ .fail fun c => .ok _
  | eqf ks neg x y => exact Pu.wth x fun a => Pu.wth y fun b => Pu.lr _ fun a => Pu.lr _ fun b => Pu.opt _ .fail fun c => .ok _
  | un op x => exact Pu.wth x fun a => .ret _
  | cvi k x => exact Pu.wth x fun a => Pu.ir _ fun _ n => .ok _
  | mkfn f a b => exact Pu.opt _ .fail fun x => Pu.opt _ .fail fun y => .ok _
  | slc es x lo hi mx =>
    exact Pu.wth x fun a => Pu.sr _
      (fun r o n cap => Pu.nr _ fun l => Pu.nr _ fun h => Pu.opt mx (slc1_Pu _ _ _ _ _ _ _) fun m => Pu.nr _ fun m => slc2_Pu _ _ _ _ _ _ _ _)
      (Pu.nr _ fun l => Pu.nr _ fun h => Pu.nr _ fun m => Pu.gd _ (.ok _)) (Pu.nr _ fun l => Pu.nr _ fun h => Pu.nr _ fun m => Pu.gd _ (.ok _))
      (fun n cap cs => Pu.nr _ fun l => Pu.nr _ fun h => Pu.opt mx (slcF_Pu _ _ _ _ _ _) fun m => Pu.nr _ fun m => slcF3_Pu _ _ _ _ _ _)
  | sla es n x lo hi mx => exact Pu.wth x fun a => Pu.pr _ (fun r o => Pu.nr _ fun l => Pu.nr _ fun h => Pu.nr _ fun m => Pu.gd _ (.ok _)) (fun _ => .fail)
  | fa off x => exact Pu.wth x fun a => Pu.pr _ (fun r o => .ok _) (fun _ => .ok _)
  | fld1 off x => exact Pu.wth x fun a => Pu.lr _ fun l => .retO _
  | fldn off n x => exact Pu.wth x fun a => Pu.lr _ fun l => Pu.opt _ .fail fun cs => .ok _
  | ixs es x i => exact Pu.wth x fun a => Pu.wth i fun i => Pu.nr _ fun i => Pu.sr _ (fun r o n _ => Pu.gd _ (.ok _)) .fail .fail (fun _ _ _ => Pu.gd _ (.ok _))
  | ixa n es x i => exact Pu.wth x fun a => Pu.wth i fun i => Pu.nr _ fun i => Pu.pr _ (fun r o => Pu.gd _ (.ok _)) (fun _ => Pu.gd _ (.ok _))
  | ixv n x i => exact Pu.wth x fun a => Pu.wth i fun i => Pu.nr _ fun i => Pu.lr _ fun l => Pu.gd _ (.retO _)
  | ext x i => exact Pu.wth x fun a => Pu.lr _ fun l => .retO _
  | len x => exact Pu.wth x fun a => Pu.sr _ (fun _ _ n _ => .ok _) (.ok _) (.ok _) (fun _ _ _ => .ok _)
  | alen n => exact .ok _
  | mn m xs => exact Pu.opt _ .fail fun l => Pu.lst l fun x l => .ret _
  | capo x => exact Pu.wth x fun a => Pu.sr _ (fun _ _ _ cap => Pu.opt cap .fail fun c => .ok _) .fail .fail (fun _ cap _ => Pu.opt cap .fail fun c => .ok _)
  | bad => exact .fail
  | _ => cases hp

/-! operations that read -/
def Grows (s s2 : St) : Prop := ∀ r x, s.get r = some x → s2.get r = some x
theorem rowAt_grows {s s2 : St} (h : Grows s s2) {r e : Nat} {cs : List AV} (hr : rowAt r s = .row e cs) : rowAt r s2 = .row e cs := by
  have := h r _ (rowAt_some hr)
  unfold rowAt; rw [this]; rfl
theorem Pu.load1 (r o : Nat) : Pu Grows (fun s => AM.retO (AM.load1 r o s) s) := by
  intro s v s1 h
  obtain ⟨h1, h2⟩ := retO_ok h
  subst h2
  refine ⟨rfl, fun s2 hg => ?_⟩
  have hl2 : AM.load1 r o s2 = some v := by
    unfold AM.load1 at h1 ⊢
    cases hr : rowAt r s with
    | no => rw [hr] at h1; cases h1
    | row e cs => rw [hr] at h1; rw [rowAt_grows hg hr]; exact h1
  show AM.retO (AM.load1 r o s2) s2 = _
  rw [hl2]; rfl
theorem Pu.load (r o n : Nat) {k : List AV → St → RV} (hk : ∀ cs, Pu Grows (k cs)) : Pu Grows (fun s => Option.rec .fail (fun cs => k cs s) (AM.load r o n s)) := by
  intro s v s1 h
  obtain ⟨cs, hl, h⟩ := opt_ok h
  obtain ⟨e1, hk'⟩ := hk cs s v s1 h
  subst e1
  refine ⟨rfl, fun s2 hg => ?_⟩
  have hl2 : AM.load r o n s2 = some cs := by
    unfold AM.load at hl ⊢
    cases hr : rowAt r s1 with
    | no => rw [hr] at hl; cases hl
    | row e rs => rw [hr] at hl; rw [rowAt_grows hg hr]; exact hl
  show (Option.rec .fail (fun cs => k cs s2) (AM.load r o n s2) : RV) = _
  rw [hl2]; exact hk' s2 hg
theorem Pu.mapAt (r : Nat) {k : List (AV × AV × Nat) × Nat → St → RV} (hk : ∀ m, Pu Grows (k m)) : Pu Grows (fun s => Option.rec .fail (fun m => k m s) (AM.mapAt r s)) := by
  intro s v s1 h
  obtain ⟨m, hl, h⟩ := opt_ok h
  obtain ⟨e1, hk'⟩ := hk m s v s1 h
  subst e1
  refine ⟨rfl, fun s2 hg => ?_⟩
  have hl2 : AM.mapAt r s2 = some m := by
    obtain ⟨es, c⟩ := m
    have := hg r _ (mapAt_some hl)
    unfold AM.mapAt; rw [this]
  show (Option.rec .fail (fun m => k m s2) (AM.mapAt r s2) : RV) = _
  rw [hl2]; exact hk' s2 hg
theorem mgetR_Pu (z : AV) (ok : Bool) (f : Option AV) : Pu A (mgetR z ok f) := Pu.opt f (.ok _) fun v => .ok _
theorem load_Pu {e : Env} {rec : Rec} {p : AOp} (hp : isLoad p = true) : Pu Grows (opA p e rec t) := by
  cases p with
  | ld1 x => exact Pu.wth x fun a => Pu.pr _ (fun r o => Pu.load1 r o) (fun _ => .retO _)
  | ldn n x => exact Pu.wth x fun a => Pu.pr _ (fun r o => Pu.load r o n fun cs => .ok _) (fun _ => Pu.opt _ .fail fun _ => .ok _)
  | b2s x => exact Pu.wth x fun a => Pu.sr _ (fun r o n _ => Pu.load r o n fun cs => Pu.opt _ .fail fun l => .ok _) (.ok _) (.ok _) (fun _ _ _ => Pu.opt _ .fail fun _ => Pu.opt _ .fail fun _ => .ok _)
  | lenm x => exact Pu.wth x fun a => Pu.mr _ (fun r => Pu.mapAt r fun m => .ok _) (.ok _)
  | mget z ok m k => exact Pu.wth m fun m => Pu.wth k fun k => Pu.mr _ (fun r => Pu.mapAt r fun mp => Pu.opt _ .fail fun f => mgetR_Pu _ _ _) (mgetR_Pu _ _ _)
  | _ => cases hp

/-! alike -/
theorem eqNs_eq' : ∀ {a b : List Nat}, eqNs a b = true → a = b := by
  intro a
  induction a with
  | nil => intro b h; cases b with | nil => rfl | cons y b => cases h
  | cons x a ih =>
    intro b h
    cases b with
    | nil => cases h
    | cons y b =>
      change (Bool.rec false (eqNs a b) (Nat.beq x y) : Bool) = true at h
      cases hb : Nat.beq x y with
      | false => rw [hb] at h; cases h
      | true => rw [hb] at h; rw [Nat.eq_of_beq_eq_true hb, ih h]
theorem bool_and {a b : Bool} (h : (Bool.rec false b a : Bool) = true) : a = true ∧ b = true := by cases a with | false => cases h | true => exact ⟨rfl, h⟩
theorem eqI_eq' {a b : Int} (h : eqI a b = true) : a = b := by
  cases a with
  | ofNat a => cases b with
    | ofNat b => rw [Nat.eq_of_beq_eq_true (show Nat.beq a b = true from h)]
    | negSucc b => cases h
  | negSucc a => cases b with
    | ofNat b => cases h
    | negSucc b => rw [Nat.eq_of_beq_eq_true (show Nat.beq a b = true from h)]
theorem eqK_eq' {a b : IntKind} (h : eqK a b = true) : a = b := by cases a <;> cases b <;> first | rfl | cases h
theorem isNilL_eq {α : Type} {l : List α} (h : isNilL l = true) : l = [] := by cases l with | nil => rfl | cons => cases h
theorem eqOn_eq {a b : Option Nat} (h : eqOn a b = true) : a = b := by
  cases a with
  | none => cases b with | none => rfl | some y => cases h
  | some x => cases b with | none => cases h | some y => rw [Nat.eq_of_beq_eq_true (show Nat.beq x y = true from h)]
theorem eqNs_refl : ∀ a : List Nat, eqNs a a = true
  | [] => rfl
  | x :: a => by show (Bool.rec false (eqNs a a) (Nat.beq x x) : Bool) = true; rw [Nat.beq_refl]; exact eqNs_refl a
theorem eqI_refl (a : Int) : eqI a a = true := by cases a with | ofNat a => exact Nat.beq_refl a | negSucc a => exact Nat.beq_refl a
theorem eqK_refl (a : IntKind) : eqK a a = true := by cases a <;> rfl
theorem eqOn_refl (a : Option Nat) : eqOn a a = true := by cases a with | none => rfl | some a => exact Nat.beq_refl a
theorem tagOf_ne {b : AV} {n : Nat} (h : Nat.beq (tagOf b) n = true) : tagOf b = n := Nat.eq_of_beq_eq_true h
mutual
theorem eqA_eq : ∀ (a : AV) {b : AV}, eqA a b = true → a = b
  | .bool x, b, h => by cases b <;> first | (cases h; done) | skip
                        rename_i y; cases x <;> cases y <;> first | rfl | cases h
  | .int k n, b, h => by cases b <;> first | (cases h; done) | skip
                         rename_i k' n'
                         obtain ⟨h1, h2⟩ := bool_and (show (Bool.rec false (eqI n n') (eqK k k') : Bool) = true from h)
                         rw [eqK_eq' h1, eqI_eq' h2]
  | .str l, b, h => by cases b <;> first | (cases h; done) | skip
                       rw [eqNs_eq' h]
  | .ptr r o, b, h => by cases b <;> first | (cases h; done) | skip
                         obtain ⟨h1, h2⟩ := bool_and h
                         rw [Nat.eq_of_beq_eq_true h1, Nat.eq_of_beq_eq_true h2]
  | .nilp, b, h => by cases b <;> first | rfl | cases h
  | .sl r o n c, b, h => by cases b <;> first | (cases h; done) | skip
                            obtain ⟨h1, h⟩ := bool_and h
                            obtain ⟨h2, h⟩ := bool_and h
                            obtain ⟨h3, h4⟩ := bool_and h
                            rw [Nat.eq_of_beq_eq_true h1, Nat.eq_of_beq_eq_true h2, Nat.eq_of_beq_eq_true h3, eqOn_eq h4]
  | .nils, b, h => by cases b <;> first | rfl | cases h
  | .es, b, h => by cases b <;> first | rfl | cases h
  | .map r, b, h => by cases b <;> first | (cases h; done) | skip
                       rw [Nat.eq_of_beq_eq_true h]
  | .nilm, b, h => by cases b <;> first | rfl | cases h
  | .fn f x y, b, h => by cases b <;> first | (cases h; done) | skip
                          rename_i f' x' y'
                          obtain ⟨h1, h⟩ := bool_and (show (Bool.rec false (Bool.rec false (eqAs y y') (eqAs x x')) (Nat.beq f f') : Bool) = true from h)
                          obtain ⟨h2, h3⟩ := bool_and h
                          rw [Nat.eq_of_beq_eq_true h1, eqAs_eq x h2, eqAs_eq y h3]
  | .yld l, b, h => by cases b <;> first | (cases h; done) | skip
                       rw [Nat.eq_of_beq_eq_true h]
  | .nilf, b, h => by cases b <;> first | rfl | cases h
  | .iface t v, b, h => by cases b <;> first | (cases h; done) | skip
                           rename_i t' v'
                           obtain ⟨h1, h2⟩ := bool_and (show (Bool.rec false (eqA v v') (Nat.beq t t') : Bool) = true from h)
                           rw [Nat.eq_of_beq_eq_true h1, eqA_eq v h2]
  | .nili, b, h => by cases b <;> first | rfl | cases h
  | .agg l, b, h => by cases b <;> first | (cases h; done) | skip
                       rename_i l'; rw [eqAs_eq l (show eqAs l l' = true from h)]
  | .tup l, b, h => by cases b <;> first | (cases h; done) | skip
                       rename_i l'; rw [eqAs_eq l (show eqAs l l' = true from h)]
  | .any, b, h => by cases b <;> first | rfl | cases h
  | .fz n c l, b, h => by cases b <;> first | (cases h; done) | skip
                          rename_i n' c' l'
                          obtain ⟨h1, h⟩ := bool_and (show (Bool.rec false (Bool.rec false (eqAs l l') (eqOn c c')) (Nat.beq n n') : Bool) = true from h)
                          obtain ⟨h2, h3⟩ := bool_and h
                          rw [Nat.eq_of_beq_eq_true h1, eqOn_eq h2, eqAs_eq l h3]
  | .fp l, b, h => by cases b <;> first | (cases h; done) | skip
                      rename_i l'; rw [eqAs_eq l (show eqAs l l' = true from h)]
theorem eqAs_eq : ∀ (a : List AV) {b : List AV}, eqAs a b = true → a = b
  | [], b, h => (isNilL_eq h).symm
  | x :: a, b, h => by
    cases b with
    | nil => cases h
    | cons y b =>
      obtain ⟨h1, h2⟩ := bool_and (show (Bool.rec false (eqAs a b) (eqA x y) : Bool) = true from h)
      rw [eqA_eq x h1, eqAs_eq a h2]
end
theorem eqV_eq {a b : AV} (h : eqV a b = true) : a = b := eqA_eq a h
mutual
theorem eqA_refl : ∀ (a : AV), eqA a a = true
  | .bool x => by cases x <;> rfl
  | .int k n => by show (Bool.rec false (eqI n n) (eqK k k) : Bool) = true; rw [eqK_refl]; exact eqI_refl n
  | .str l => eqNs_refl l
  | .ptr r o => by show (Bool.rec false (Nat.beq o o) (Nat.beq r r) : Bool) = true; rw [Nat.beq_refl r]; exact Nat.beq_refl o
  | .nilp => rfl
  | .sl r o n c => by show (Bool.rec false (Bool.rec false (Bool.rec false (eqOn c c) (Nat.beq n n)) (Nat.beq o o)) (Nat.beq r r) : Bool) = true; rw [Nat.beq_refl r, Nat.beq_refl o, Nat.beq_refl n]; exact eqOn_refl c
  | .nils => rfl
  | .es => rfl
  | .map r => Nat.beq_refl r
  | .nilm => rfl
  | .fn f x y => by show (Bool.rec false (Bool.rec false (eqAs y y) (eqAs x x)) (Nat.beq f f) : Bool) = true; rw [Nat.beq_refl, eqAs_refl x]; exact eqAs_refl y
  | .yld l => Nat.beq_refl l
  | .nilf => rfl
  | .iface t v => by show (Bool.rec false (eqA v v) (Nat.beq t t) : Bool) = true; rw [Nat.beq_refl]; exact eqA_refl v
  | .nili => rfl
  | .agg l => eqAs_refl l
  | .tup l => eqAs_refl l
  | .any => rfl
  | .fz n c l => by show (Bool.rec false (Bool.rec false (eqAs l l) (eqOn c c)) (Nat.beq n n) : Bool) = true; rw [Nat.beq_refl, eqOn_refl]; exact eqAs_refl l
  | .fp l => eqAs_refl l
theorem eqAs_refl : ∀ (a : List AV), eqAs a a = true
  | [] => rfl
  | x :: a => by show (Bool.rec false (eqAs a a) (eqA x x) : Bool) = true; rw [eqA_refl x]; exact eqAs_refl a
end
end
end Go.AM
