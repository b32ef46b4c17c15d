/-
  THE ABSTRACT MACHINE: comparisons, slices, lengths. Plain lemmas.
-/
import Derived.Test.YtnnbibnobmegpaaAMOps4
import Derived.Laws.StructEq
set_option linter.unusedVariables false
set_option linter.unusedSimpArgs false
namespace Go.AM
section
variable {P : Program} {γ : Gam} {s : St} {w : World} {t : AT} {ρ : Operand → Value}

theorem run_eqGuard_int (op : BinOp) (ty : TypeId) (x y : Operand) (k : IntKind) (a : Int) (b : Value) : (eqGuard op ty x y (.int k a) b).run P w = .ok () w := by
  cases op <;> simp [eqGuard]
theorem run_eqGuard_str (op : BinOp) (ty : TypeId) (x y : Operand) (a : ByteArray) (b : Value) : (eqGuard op ty x y (.string a) b).run P w = .ok () w := by
  cases op <;> simp [eqGuard]

theorem bin_first {op : BinOp} {x y v : AV} (h : binA op x y = .some v) : (∃ k a, x = .int k a) ∨ (∃ a, x = .str a) := by
  cases op with
  | add => 
    rcases orE_some h with h | h
    · obtain ⟨k, a, b, e, _⟩ := ar_some h; exact .inl ⟨k, a, e⟩
    · obtain ⟨a, b, e, _⟩ := strAdd_some h; exact .inr ⟨a, e⟩
  | sub => obtain ⟨k, a, b, e, _⟩ := ar_some h; exact .inl ⟨k, a, e⟩
  | mul => obtain ⟨k, a, b, e, _⟩ := ar_some h; exact .inl ⟨k, a, e⟩
  | quo => obtain ⟨k, a, b, e, _⟩ := dvd_some h; exact .inl ⟨k, a, e⟩
  | rem => obtain ⟨k, a, b, e, _⟩ := dvd_some h; exact .inl ⟨k, a, e⟩
  | and => obtain ⟨k, a, b, e, _⟩ := ar_some h; exact .inl ⟨k, a, e⟩
  | or => obtain ⟨k, a, b, e, _⟩ := ar_some h; exact .inl ⟨k, a, e⟩
  | xor => obtain ⟨k, a, b, e, _⟩ := ar_some h; exact .inl ⟨k, a, e⟩
  | andNot => cases h
  | shl => obtain ⟨k, a, k', b, e, _⟩ := sh_some h; exact .inl ⟨k, a, e⟩
  | shr => obtain ⟨k, a, k', b, e, _⟩ := sh_some h; exact .inl ⟨k, a, e⟩
  | eql => 
    rcases orE_some h with h | h
    · obtain ⟨k, a, b, e, _⟩ := cmp_some h; exact .inl ⟨k, a, e⟩
    · obtain ⟨a, b, e, _⟩ := strs_some h; exact .inr ⟨a, e⟩
  | neq => 
    rcases orE_some h with h | h
    · obtain ⟨k, a, b, e, _⟩ := cmp_some h; exact .inl ⟨k, a, e⟩
    · obtain ⟨a, b, e, _⟩ := strs_some h; exact .inr ⟨a, e⟩
  | lss => obtain ⟨k, a, b, e, _⟩ := cmp_some h; exact .inl ⟨k, a, e⟩
  | leq => obtain ⟨k, a, b, e, _⟩ := cmp_some h; exact .inl ⟨k, a, e⟩
  | gtr => obtain ⟨k, a, b, e, _⟩ := cmp_some h; exact .inl ⟨k, a, e⟩
  | geq => obtain ⟨k, a, b, e, _⟩ := cmp_some h; exact .inl ⟨k, a, e⟩

theorem bin_sound (hs : Sim P γ s w) {o : Oper} {op : BinOp} {ty yt : Nat} {x y : Operand} {a b : AO} {v : AV} {s' : St} (hx : aop x = some a) (hy : aop y = some b) (ho : o.op = .binOp op ty x y yt) (he : Evs γ t ρ [x, y])
    (h : bin'A op a b t s = .ok v s') : OpOk P γ s w ρ o v s' := by
  obtain ⟨u1, hu1, h⟩ := wth_ok h
  obtain ⟨u2, hu2, h⟩ := wth_ok h
  obtain ⟨hb, rfl⟩ := ret_ok h
  have h1 := he x (by simp) a u1 hx hu1
  have h2 := he y (by simp) b u2 hy hu2
  obtain ⟨v', hr, hv⟩ := binA_sound (P := P) (w := w) (ty := ty) h1 h2 hb
  refine OpOk.still hs v' ?_ hv
  have hg : (eqGuard op ty x y (ρ x) (ρ y)).run P w = .ok () w := by
    rcases bin_first hb with ⟨k, n, rfl⟩ | ⟨l, rfl⟩
    · rw [intV h1]; exact run_eqGuard_int _ _ _ _ _ _ _
    · generalize ρ x = vx at h1
      cases h1 with
      | str _ sx e => exact run_eqGuard_str _ _ _ _ _ _
  simp only [execOp, ho, Sem.run_bind, hg, Result.andThen_ok, hr, Sem.run_pure]

theorem un_sound (hs : Sim P γ s w) {o : Oper} {op : UnOp} {ty : Nat} {x : Operand} {a : AO} {v : AV} {s' : St} (hx : aop x = some a) (ho : o.op = .unOp op ty x) (he : Evs γ t ρ [x])
    (h : un'A op a t s = .ok v s') : OpOk P γ s w ρ o v s' := by
  obtain ⟨u, hu, h⟩ := wth_ok h
  obtain ⟨hb, rfl⟩ := ret_ok h
  have h1 := he x (by simp) a u hx hu
  cases op with
  | not =>
    unfold unA at hb
    cases hc : asBool u with
    | no => rw [hc] at hb; cases hb
    | tt => rw [hc] at hb; cases hb; rw [asBool_tt hc] at h1; exact OpOk.still hs (.bool false) (by simp [execOp, ho, Op.unary, boolV h1]) (.bool _)
    | ff => rw [hc] at hb; cases hb; rw [asBool_ff hc] at h1; exact OpOk.still hs (.bool true) (by simp [execOp, ho, Op.unary, boolV h1]) (.bool _)
  | neg =>
    unfold unA at hb
    cases hc : asInt u with
    | no => rw [hc] at hb; cases hb
    | int k n =>
      rw [hc] at hb; cases hb; rw [asInt_eq hc] at h1
      refine OpOk.still hs (.int k (k.wrap (0 - n))) (by simp [execOp, ho, Op.unary, intV h1, Op.intArith]) ?_
      rw [wrapQ_eq, subI_eq]; exact .int _ _
  | xor =>
    unfold unA at hb
    cases hc : asInt u with
    | no => rw [hc] at hb; cases hb
    | int k n =>
      rw [hc] at hb; cases hb; rw [asInt_eq hc] at h1
      refine OpOk.still hs (.int k (bitsS (fun _ => BitVec.xor) k (if k.signed then -1 else k.max) n)) (by simp [execOp, ho, Op.unary, intV h1, Op.intBits]; rfl) ?_
      rw [bitsQ_eq (by intro n x y; rfl)]; exact .int _ _
  | _ => cases hb

theorem negB_eq (b : Bool) : negB true b = !b ∧ negB false b = b := ⟨rfl, rfl⟩

def isNeq : BinOp → Bool | .neq => true | _ => false
theorem run_equal_of (ty : TypeId) {x y : Value} {b : Bool} (h : ∀ d, (Op.equalIn (d + 1) ty x y).run P w = .ok b w) : (Op.equal ty x y).run P w = .ok b w := h 9999
theorem eqb_fin {kd : Nat} {ty : TypeId} {x' y' : Value} {c : Bool} {X Y : Operand} (op : BinOp) (hop : op = .eql ∨ op = .neq) (hg : (eqGuard op ty X Y x' y').run P w = .ok () w)
    (h1 : binOp .eql ty x' y' = (do pure (.bool (← Op.equal ty x' y')))) (h2 : binOp .neq ty x' y' = (do pure (.bool (!(← Op.equal ty x' y'))))) (h : (Op.equal ty x' y').run P w = .ok c w) :
    (eqGuard op ty X Y x' y').run P w = .ok () w ∧ (binOp op ty x' y').run P w = .ok (.bool (negB (isNeq op) c)) w := by
  refine ⟨hg, ?_⟩
  rcases hop with rfl | rfl
  · rw [h1]; simp [h, negB, isNeq]
  · rw [h2]; simp [h, negB, isNeq]

theorem run_eqGuard_any (op : BinOp) (ty : TypeId) (X Y : Operand) {a b : Value} (h1 : ∀ x, a ≠ .agg x) (h2 : a ≠ .nilIface ∨ b ≠ .nilIface) : (eqGuard op ty X Y a b).run P w = .ok () w := by
  unfold eqGuard
  cases op <;> simp <;> (split <;> first | (rcases h2 with h2 | h2 <;> exact absurd rfl h2) | exact absurd rfl (h1 _) | simp)

set_option maxHeartbeats 2000000 in
/-- equality by its kind -/
theorem eqb_run {kd : Nat} {ty : TypeId} {x y : AV} {x' y' : Value} {c : Bool} {X Y : Operand} (op : BinOp) (hop : op = .eql ∨ op = .neq) (hk : baseK P ty = some kd) (hx : VR γ x x') (hy : VR γ y y') (h : eqbA kd x y = some c) :
    (eqGuard op ty X Y x' y').run P w = .ok () w ∧ (binOp op ty x' y').run P w = .ok (.bool (negB (isNeq op) c)) w := by
  have hu : (kd = 0 → P.underlying ty = some .bool) ∧ (kd = 1 → ∃ e, P.underlying ty = some (.pointer e)) ∧ (kd = 2 → ∃ e, P.underlying ty = some (.slice e)) ∧ (kd = 3 → ∃ e, P.underlying ty = some (.interface e)) ∧ (kd = 4 → ∃ a b c, P.underlying ty = some (.func a b c)) := by
    unfold baseK at hk
    split at hk <;> first | (cases hk; simp_all; done) | cases hk
  obtain ⟨u0, u1, u2, u3, u4⟩ := hu
  unfold eqbA at h
  split at h
  · have hu := u0 rfl
    cases h
    rw [boolV hx, boolV hy]
    (refine eqb_fin (kd := 0) op hop ?_ ?_ ?_ ?_; exact run_eqGuard_any _ _ _ _ (by simp) (by simp); rfl; rfl; exact run_equal_of ty fun d => by simp [Op.equalIn, run_underlying hu])
  all_goals first
    | (obtain ⟨e, hu⟩ := u1 rfl
       cases h; cases hx <;> cases hy <;>
       (refine eqb_fin (kd := 0) op hop ?_ ?_ ?_ ?_; exact run_eqGuard_any _ _ _ _ (by simp) (by simp); rfl; rfl; exact run_equal_of ty fun d => by simp [Op.equalIn, run_underlying hu]))
    | (obtain ⟨e, hu⟩ := u2 rfl
       cases h; cases hx <;> cases hy <;>
       (refine eqb_fin (kd := 0) op hop ?_ ?_ ?_ ?_; exact run_eqGuard_any _ _ _ _ (by simp) (by simp); rfl; rfl; exact run_equal_of ty fun d => by simp [Op.equalIn, run_underlying hu]))
    | (obtain ⟨e, hu⟩ := u3 rfl
       cases h; cases hx <;> cases hy <;>
       (refine eqb_fin (kd := 0) op hop ?_ ?_ ?_ ?_; exact run_eqGuard_any _ _ _ _ (by simp) (by simp); rfl; rfl; exact run_equal_of ty fun d => by simp [Op.equalIn, run_underlying hu]))
    | (obtain ⟨a, b, e, hu⟩ := u4 rfl
       cases h; cases hx <;> cases hy <;>
       (refine eqb_fin (kd := 0) op hop ?_ ?_ ?_ ?_; exact run_eqGuard_any _ _ _ _ (by simp) (by simp); rfl; rfl; exact run_equal_of ty fun d => by simp [Op.equalIn, run_underlying hu]))
    | (cases h; done)

theorem eqb_sound (hs : Sim P γ s w) {o : Oper} {op : BinOp} {kd ty yt : Nat} {neg : Bool} {x y : Operand} {a b : AO} {v : AV} {s' : St} (hop : (op = .eql ∧ neg = false) ∨ (op = .neq ∧ neg = true)) (hk : baseK P ty = some kd) (hx : aop x = some a) (hy : aop y = some b)
    (ho : o.op = .binOp op ty x y yt) (he : Evs γ t ρ [x, y]) (h : eqb'A kd neg a b t s = .ok v s') : OpOk P γ s w ρ o v s' := by
  obtain ⟨u1, hu1, h⟩ := wth_ok h
  obtain ⟨u2, hu2, h⟩ := wth_ok h
  obtain ⟨c, hc, h⟩ := opt_ok h
  obtain ⟨rfl, rfl⟩ := ok_inj h
  have h1 := he x (by simp) a u1 hx hu1
  have h2 := he y (by simp) b u2 hy hu2
  obtain ⟨r1, r2⟩ := eqb_run (P := P) (w := w) (X := x) (Y := y) op (by rcases hop with ⟨h, _⟩ | ⟨h, _⟩ <;> simp [h]) hk h1 h2 hc
  refine OpOk.still hs (.bool (negB neg c)) ?_ (.bool _)
  have e : isNeq op = neg := by rcases hop with ⟨rfl, rfl⟩ | ⟨rfl, rfl⟩ <;> rfl
  rw [e] at r2
  simp only [execOp, ho, Sem.run_bind, r1, Result.andThen_ok, r2, Sem.run_pure]
end
end Go.AM
