/-
  THE ABSTRACT MACHINE: numbers and comparisons. Plain lemmas.
-/
import Derived.Test.YtnnbibnobmegpaaAMOps3
import Derived.Laws.Strings
import Derived.IntWalk
set_option linter.unusedVariables false
set_option linter.unusedSimpArgs false
namespace Go.AM

theorem kCode_inj {a b : IntKind} (h : eqK a b = true) : a = b := by
  cases a <;> cases b <;> first | rfl | cases h
theorem eqI_eq (a b : Int) : eqI a b = (a == b) := by
  cases a with
  | ofNat a => cases b with
    | ofNat b => show Nat.beq a b = _; rw [Bool.eq_iff_iff, Nat.beq_eq]; simp; omega
    | negSucc b => show false = _; rw [eq_comm, beq_eq_false_iff_ne]; simp
  | negSucc a => cases b with
    | ofNat b => show false = _; rw [eq_comm, beq_eq_false_iff_ne]; simp
    | negSucc b => show Nat.beq a b = _; rw [Bool.eq_iff_iff, Nat.beq_eq]; simp
theorem ltI_eq (a b : Int) : ltI a b = decide (a < b) := by
  cases a with
  | ofNat a => cases b with
    | ofNat b => show Nat.blt a b = _; rw [Bool.eq_iff_iff, Nat.blt_eq]; simp
    | negSucc b => show false = _; rw [eq_comm, decide_eq_false_iff_not]; simp; omega
  | negSucc a => cases b with
    | ofNat b => show true = _; rw [eq_comm, decide_eq_true_iff]; simp; omega
    | negSucc b => show Nat.blt b a = _; rw [Bool.eq_iff_iff, Nat.blt_eq]; simp; omega
theorem addI_eq (a b : Int) : addI a b = a + b := by
  cases a <;> cases b <;> rfl
theorem mulI_eq (a b : Int) : mulI a b = a * b := by
  cases a <;> cases b <;> rfl
theorem subI_eq (a b : Int) : subI a b = a - b := by
  cases a with
  | ofNat a => cases b with
    | ofNat b =>
      show (Bool.rec (Int.sub (.ofNat a) (.ofNat b)) (.ofNat (Nat.sub a b)) (Nat.ble b a) : Int) = _
      cases hb : Nat.ble b a with
      | false => rfl
      | true => have := Nat.le_of_ble_eq_true hb; show ((a - b : Nat) : Int) = (a : Int) - (b : Int); omega
    | negSucc b => rfl
  | negSucc a => rfl
theorem wrapQ_eq (k : IntKind) (n : Int) : wrapQ k n = k.wrap n := by
  cases n with
  | ofNat m =>
    show wrapN k m = k.wrap (m : Int)
    cases k <;> try rfl
    show (Bool.rec (IntKind.i64.wrap m) (.ofNat m) (Nat.blt m 9223372036854775808) : Int) = _
    cases hb : Nat.blt m 9223372036854775808 with
    | false => rfl
    | true =>
      rw [Nat.blt_eq] at hb
      exact (IntWalk.i64_in (m : Int) ⟨by omega, by omega⟩).symm
  | negSucc m =>
    show (Bool.rec (k.wrap (.negSucc m)) (Bool.rec (k.wrap (.negSucc m)) (.negSucc m) (Nat.blt m 9223372036854775808)) (Nat.beq (kCode k) 3) : Int) = _
    have h3 : k = .i64 ∨ Nat.beq (kCode k) 3 = false := by cases k <;> first | exact .inl rfl | exact .inr rfl
    rcases h3 with rfl | h3
    · show (Bool.rec (IntKind.i64.wrap (.negSucc m)) (.negSucc m) (Nat.blt m 9223372036854775808) : Int) = _
      cases hb : Nat.blt m 9223372036854775808 with
      | false => rfl
      | true =>
        rw [Nat.blt_eq] at hb
        exact (IntWalk.i64_in (Int.negSucc m) ⟨by omega, by omega⟩).symm
    · rw [h3]
theorem bitsQ_eq {f : Nat → Nat → Nat} {g : (n : Nat) → BitVec n → BitVec n → BitVec n} (hf : ∀ n x y, (g n x y).toNat = f x.toNat y.toNat) (k : IntKind) (a b : Int) : bitsQ f g k a b = bitsS g k a b := by
  cases a with
  | ofNat x => cases b with
    | ofNat y =>
      show bitsN f g k x y = _
      cases k <;> try rfl
      · show ((f (x % 256) (y % 256) : Nat) : Int) = _
        have e : f (x % 256) (y % 256) = (g 8 (BitVec.ofInt 8 x) (BitVec.ofInt 8 y)).toNat := by
          rw [hf]; simp
        rw [e]
        have hlt := (g 8 (BitVec.ofInt 8 x) (BitVec.ofInt 8 y)).isLt
        simp only [bitsS, IntKind.wrap, IntKind.bits, IntKind.signed]
        simp
        omega
      · show ((f (x % 4294967296) (y % 4294967296) : Nat) : Int) = _
        have e : f (x % 4294967296) (y % 4294967296) = (g 32 (BitVec.ofInt 32 x) (BitVec.ofInt 32 y)).toNat := by
          rw [hf]; simp
        rw [e]
        have hlt := (g 32 (BitVec.ofInt 32 x) (BitVec.ofInt 32 y)).isLt
        simp only [bitsS, IntKind.wrap, IntKind.bits, IntKind.signed]
        simp
        omega
    | negSucc y => rfl
  | negSucc x => rfl

theorem eqNs_eq (a : List Nat) : ∀ b, eqNs a b = (a == b) := by
  induction a with
  | nil => intro b; cases b <;> rfl
  | cons x a ih => intro b; cases b with
    | nil => rfl
    | cons y b =>
      show (Bool.rec false (eqNs a b) (Nat.beq x y) : Bool) = _
      rw [ih]
      cases hb : Nat.beq x y with
      | false => have := Nat.ne_of_beq_eq_false hb; simp [this]
      | true => have := Nat.eq_of_beq_eq_true hb; simp [this]

section
variable {P : Program} {γ : Gam} {s : St} {w : World} {t : AT} {ρ : Operand → Value}

theorem ar_some {f : IntKind → Int → Int → Int} {x y v : AV} (h : ar f x y = .some v) : ∃ k a b, x = .int k a ∧ y = .int k b ∧ v = .int k (f k a b) := by
  unfold ar at h
  cases hx : asInt x with
  | no => rw [hx] at h; cases h
  | int k a =>
    rw [hx] at h
    cases hy : asInt y with
    | no => rw [hy] at h; cases h
    | int k' b =>
      rw [hy] at h
      dsimp only at h
      cases hk : eqK k k' with
      | false => rw [hk] at h; cases h
      | true => rw [hk] at h; cases h; cases kCode_inj hk; exact ⟨k, a, b, asInt_eq hx, asInt_eq hy, rfl⟩
theorem cmp_some {f : Int → Int → Bool} {x y v : AV} (h : cmp f x y = .some v) : ∃ k a b, x = .int k a ∧ y = .int k b ∧ v = .bool (f a b) := by
  unfold cmp at h
  cases hx : asInt x with
  | no => rw [hx] at h; cases h
  | int k a =>
    rw [hx] at h
    cases hy : asInt y with
    | no => rw [hy] at h; cases h
    | int k' b =>
      rw [hy] at h
      dsimp only at h
      cases hk : eqK k k' with
      | false => rw [hk] at h; cases h
      | true => rw [hk] at h; cases h; cases kCode_inj hk; exact ⟨k, a, b, asInt_eq hx, asInt_eq hy, rfl⟩
theorem dvd_some {f : IntKind → Int → Int → Int} {x y v : AV} (h : dvd f x y = .some v) : ∃ k a b, x = .int k a ∧ y = .int k b ∧ b ≠ 0 ∧ v = .int k (f k a b) := by
  unfold dvd at h
  cases hx : asInt x with
  | no => rw [hx] at h; cases h
  | int k a =>
    rw [hx] at h
    cases hy : asInt y with
    | no => rw [hy] at h; cases h
    | int k' b =>
      rw [hy] at h
      dsimp only at h
      cases hk : eqK k k' with
      | false => rw [hk] at h; cases h
      | true =>
        rw [hk] at h
        dsimp only at h
        cases hb : eqI b 0 with
        | true => rw [hb] at h; cases h
        | false =>
          rw [hb] at h; cases h; cases kCode_inj hk
          exact ⟨k, a, b, asInt_eq hx, asInt_eq hy, by rw [eqI_eq] at hb; simpa using hb, rfl⟩
theorem sh_some {f : IntKind → Int → Nat → Int} {x y v : AV} (h : sh f x y = .some v) : ∃ k a k' b, x = .int k a ∧ y = .int k' (.ofNat b) ∧ v = .int k (f k a b) := by
  unfold sh at h
  cases hx : asInt x with
  | no => rw [hx] at h; cases h
  | int k a =>
    rw [hx] at h
    cases hy : asNat y with
    | no => rw [hy] at h; cases h
    | n b => rw [hy] at h; cases h; obtain ⟨k', rfl⟩ := asNat_eq hy; exact ⟨k, a, k', b, asInt_eq hx, rfl, rfl⟩
theorem strs_some {f : List Nat → List Nat → AV} {x y v : AV} (h : strs f x y = .some v) : ∃ a b, x = .str a ∧ y = .str b ∧ v = f a b := by
  unfold strs at h
  cases hx : asStr x with
  | no => rw [hx] at h; cases h
  | s a =>
    rw [hx] at h
    cases hy : asStr y with
    | no => rw [hy] at h; cases h
    | s b => rw [hy] at h; cases h; exact ⟨a, b, asStr_eq hx, asStr_eq hy, rfl⟩
theorem strAdd_some {x y v : AV} (h : strAdd x y = .some v) : ∃ a b, x = .str a ∧ y = .str b ∧ a.length + b.length ≤ 1000000 ∧ v = .str (appL a b) := by
  unfold strAdd at h
  cases hx : asStr x with
  | no => rw [hx] at h; cases h
  | s a =>
    rw [hx] at h
    cases hy : asStr y with
    | no => rw [hy] at h; cases h
    | s b =>
      rw [hy] at h
      dsimp only at h
      cases hb : Nat.ble (lenL a + lenL b) 1000000 with
      | false => rw [hb] at h; cases h
      | true =>
        rw [hb] at h; cases h
        have := Nat.le_of_ble_eq_true hb
        rw [lenL_eq, lenL_eq] at this
        exact ⟨a, b, asStr_eq hx, asStr_eq hy, this, rfl⟩
theorem orE_some {x y : OV} {v : AV} (h : orE x y = .some v) : x = .some v ∨ y = .some v := by
  cases x with
  | none => exact .inr h
  | some a => exact .inl h

/-- what two values come to -/
def BinOk (P : Program) (w : World) (γ : Gam) (op : BinOp) (ty : TypeId) (x y : Value) (v : AV) : Prop := ∃ v', (binOp op ty x y).run P w = .ok v' w ∧ VR γ v v'

theorem tdivQ_eq (a b : Int) : tdivQ a b = a.tdiv b := by cases a <;> cases b <;> rfl
theorem tmodQ_eq (a b : Int) : tmodQ a b = a.tmod b := by
  cases a with
  | ofNat a => cases b with
    | ofNat b => rfl
    | negSucc b => rfl
  | negSucc a => rfl
theorem fdivQ_eq (a : Int) (m : Nat) : fdivQ a m = a.fdiv m := by
  cases a with
  | ofNat a => show ((a / m : Nat) : Int) = _; simp [Int.fdiv_eq_ediv_of_nonneg]
  | negSucc a => rfl

theorem str_eq {a b : List Nat} {x y : ByteArray} (hx : x.data.toList.map UInt8.toNat = a) (hy : y.data.toList.map UInt8.toNat = b) : (x.toList == y.toList) = (a == b) := by
  have key : ∀ z : ByteArray, z.toList = z.data.toList := ByteArray.toList_eq
  rw [Bool.eq_iff_iff, beq_iff_eq, beq_iff_eq, ← hx, ← hy, key, key]
  constructor
  · intro h; rw [h]
  · intro h
    exact (List.map_inj_right (fun p q e => UInt8.toNat_inj.1 e)).1 h

theorem binA_sound {op : BinOp} {ty : TypeId} {x y v : AV} {x' y' : Value} (hx : VR γ x x') (hy : VR γ y y') (h : binA op x y = .some v) : BinOk P w γ op ty x' y' v := by
  cases op with
  | add =>
    rcases orE_some h with h | h
    · obtain ⟨k, a, b, rfl, rfl, rfl⟩ := ar_some h
      rw [intV hx, intV hy, wrapQ_eq, addI_eq]
      exact ⟨_, by simp [binOp, Op.intArith], .int _ _⟩
    · obtain ⟨a, b, rfl, rfl, hl, rfl⟩ := strAdd_some h
      cases hx with
      | str _ sx e1 => cases hy with
        | str _ sy e2 =>
          have l1 : a.length = sx.size := by rw [← e1, List.length_map, Array.length_toList]; rfl
          have l2 : b.length = sy.size := by rw [← e2, List.length_map, Array.length_toList]; rfl
          refine ⟨.string (sx ++ sy), ?_, .str _ _ ?_⟩
          · have hlt : ¬ (((sx.size + sy.size : Nat) : Int) > IntKind.i64.max) := by
              have : IntKind.i64.max = 9223372036854775807 := rfl
              omega
            simp only [binOp, Op.stringOp, if_neg hlt]
            rfl
          · rw [appL_eq, ← e1, ← e2]; simp [ByteArray.data_append]
  | sub =>
    obtain ⟨k, a, b, rfl, rfl, rfl⟩ := ar_some h
    rw [intV hx, intV hy, wrapQ_eq, subI_eq]
    exact ⟨_, by simp [binOp, Op.intArith], .int _ _⟩
  | mul =>
    obtain ⟨k, a, b, rfl, rfl, rfl⟩ := ar_some h
    rw [intV hx, intV hy, wrapQ_eq, mulI_eq]
    exact ⟨_, by simp [binOp, Op.intArith], .int _ _⟩
  | quo =>
    obtain ⟨k, a, b, rfl, rfl, hb, rfl⟩ := dvd_some h
    rw [intV hx, intV hy, wrapQ_eq, tdivQ_eq]
    exact ⟨_, by simp [binOp, Op.intDiv, hb], .int _ _⟩
  | rem =>
    obtain ⟨k, a, b, rfl, rfl, hb, rfl⟩ := dvd_some h
    rw [intV hx, intV hy, tmodQ_eq]
    exact ⟨_, by simp [binOp, Op.intDiv, hb], .int _ _⟩
  | and =>
    obtain ⟨k, a, b, rfl, rfl, rfl⟩ := ar_some h
    rw [intV hx, intV hy, bitsQ_eq (by intro n x y; rfl)]
    exact ⟨_, by simp [binOp, Op.intBits]; rfl, .int _ _⟩
  | or =>
    obtain ⟨k, a, b, rfl, rfl, rfl⟩ := ar_some h
    rw [intV hx, intV hy, bitsQ_eq (by intro n x y; rfl)]
    exact ⟨_, by simp [binOp, Op.intBits]; rfl, .int _ _⟩
  | xor =>
    obtain ⟨k, a, b, rfl, rfl, rfl⟩ := ar_some h
    rw [intV hx, intV hy, bitsQ_eq (by intro n x y; rfl)]
    exact ⟨_, by simp [binOp, Op.intBits]; rfl, .int _ _⟩
  | andNot => cases h
  | shl =>
    obtain ⟨k, a, k', b, rfl, rfl, rfl⟩ := sh_some h
    rw [intV hx, intV hy, wrapQ_eq, mulI_eq]
    refine ⟨_, ?_, .int _ _⟩
    have hb0 : ¬ ((b : Int) < 0) := by omega
    simp [binOp, Op.shift, Nat.min_def, hb0]
  | shr =>
    obtain ⟨k, a, k', b, rfl, rfl, rfl⟩ := sh_some h
    rw [intV hx, intV hy, fdivQ_eq]
    refine ⟨_, ?_, .int _ _⟩
    have hb0 : ¬ ((b : Int) < 0) := by omega
    simp [binOp, Op.shift, Nat.min_def, hb0]
  | eql =>
    rcases orE_some h with h | h
    · obtain ⟨k, a, b, rfl, rfl, rfl⟩ := cmp_some h
      rw [intV hx, intV hy, eqI_eq]
      exact ⟨_, by simp [binOp, Op.intCmp], .bool _⟩
    · obtain ⟨a, b, rfl, rfl, rfl⟩ := strs_some h
      cases hx with
      | str _ sx e1 => cases hy with
        | str _ sy e2 =>
          rw [eqNs_eq, ← str_eq e1 e2]
          exact ⟨_, by simp only [binOp, Op.stringOp]; rfl, .bool _⟩
  | neq =>
    rcases orE_some h with h | h
    · obtain ⟨k, a, b, rfl, rfl, rfl⟩ := cmp_some h
      rw [intV hx, intV hy, eqI_eq]
      exact ⟨_, by simp [binOp, Op.intCmp]; rfl, .bool _⟩
    · obtain ⟨a, b, rfl, rfl, rfl⟩ := strs_some h
      cases hx with
      | str _ sx e1 => cases hy with
        | str _ sy e2 =>
          rw [eqNs_eq, ← str_eq e1 e2]
          exact ⟨_, by simp only [binOp, Op.stringOp]; rfl, .bool _⟩
  | lss =>
    obtain ⟨k, a, b, rfl, rfl, rfl⟩ := cmp_some h
    rw [intV hx, intV hy, ltI_eq]
    exact ⟨_, by simp [binOp, Op.intCmp], .bool _⟩
  | leq =>
    obtain ⟨k, a, b, rfl, rfl, rfl⟩ := cmp_some h
    rw [intV hx, intV hy, ltI_eq]
    exact ⟨.bool (decide (a ≤ b)), by simp [binOp, Op.intCmp], by rw [show (!decide (b < a)) = decide (a ≤ b) by rw [Bool.eq_iff_iff]; simp]; exact .bool _⟩
  | gtr =>
    obtain ⟨k, a, b, rfl, rfl, rfl⟩ := cmp_some h
    rw [intV hx, intV hy, ltI_eq]
    exact ⟨_, by simp [binOp, Op.intCmp], .bool _⟩
  | geq =>
    obtain ⟨k, a, b, rfl, rfl, rfl⟩ := cmp_some h
    rw [intV hx, intV hy, ltI_eq]
    exact ⟨.bool (decide (b ≤ a)), by simp [binOp, Op.intCmp], by rw [show (!decide (a < b)) = decide (b ≤ a) by rw [Bool.eq_iff_iff]; simp]; exact .bool _⟩
end
end Go.AM
