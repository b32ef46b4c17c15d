/-
  THE ABSTRACT MACHINE: how its states stand to the model's worlds. Definitions and plain lemmas.
-/
import Derived.Test.YtnnbibnobmegpaaAMComp
import Derived.Laws.AppendOwn
import Derived.Laws.CopyRow
import Derived.Laws.Cells
set_option linter.unusedVariables false
set_option linter.unusedSimpArgs false
namespace Go.AM

theorem T.get_sing {α : Type} {x : α} : ∀ {n k j : Nat} {y : α}, (T.sing x n k).get j = some y → j = k ∧ y = x := by
  intro n
  induction n with
  | zero => intro k j y h; cases h
  | succ n ih =>
    intro k j y h
    cases k with
    | zero =>
      cases j with
      | zero => cases h; exact ⟨rfl, rfl⟩
      | succ j =>
        change (Bool.rec (T.get T.lf (Nat.div j 2)) (T.get T.lf (Nat.div j 2)) (Nat.beq (Nat.mod j 2) 0) : Option α) = some y at h
        cases hb : Nat.beq (Nat.mod j 2) 0 <;> rw [hb] at h <;> cases h
    | succ k =>
      change T.get (Bool.rec (T.nd none .lf (T.sing x n (Nat.div k 2))) (T.nd none (T.sing x n (Nat.div k 2)) .lf) (Nat.beq (Nat.mod k 2) 0)) j = some y at h
      cases hb : Nat.beq (Nat.mod k 2) 0 <;> rw [hb] at h
      · cases j with
        | zero => cases h
        | succ j =>
          change (Bool.rec (T.get (T.sing x n (Nat.div k 2)) (Nat.div j 2)) (T.get T.lf (Nat.div j 2)) (Nat.beq (Nat.mod j 2) 0) : Option α) = some y at h
          cases hc : Nat.beq (Nat.mod j 2) 0 <;> rw [hc] at h
          · obtain ⟨e, rfl⟩ := ih h
            refine ⟨?_, rfl⟩
            have h1 := Nat.ne_of_beq_eq_false hb
            have h2 := Nat.ne_of_beq_eq_false hc
            have e' : j / 2 = k / 2 := e
            have h1' : k % 2 ≠ 0 := h1
            have h2' : j % 2 ≠ 0 := h2
            omega
          · cases h
      · cases j with
        | zero => cases h
        | succ j =>
          change (Bool.rec (T.get T.lf (Nat.div j 2)) (T.get (T.sing x n (Nat.div k 2)) (Nat.div j 2)) (Nat.beq (Nat.mod j 2) 0) : Option α) = some y at h
          cases hc : Nat.beq (Nat.mod j 2) 0 <;> rw [hc] at h
          · cases h
          · obtain ⟨e, rfl⟩ := ih h
            refine ⟨?_, rfl⟩
            have h1 := Nat.eq_of_beq_eq_true hb
            have h2 := Nat.eq_of_beq_eq_true hc
            have e' : j / 2 = k / 2 := e
            have h1' : k % 2 = 0 := h1
            have h2' : j % 2 = 0 := h2
            omega

theorem T.get_set {α : Type} {x : α} : ∀ {t : T α} {k j : Nat} {y : α}, (t.set x k).get j = some y → (j = k ∧ y = x) ∨ (j ≠ k ∧ t.get j = some y) := by
  intro t
  induction t with
  | lf => intro k j y h; exact .inl (T.get_sing (n := 64) h)
  | nd v l r il ir =>
    intro k j y h
    cases k with
    | zero =>
      cases j with
      | zero => cases h; exact .inl ⟨rfl, rfl⟩
      | succ j => exact .inr ⟨by omega, h⟩
    | succ k =>
      change T.get (Bool.rec (T.nd v l (r.set x (Nat.div k 2))) (T.nd v (l.set x (Nat.div k 2)) r) (Nat.beq (Nat.mod k 2) 0)) j = some y at h
      cases j with
      | zero =>
        refine .inr ⟨by omega, ?_⟩
        cases hb : Nat.beq (Nat.mod k 2) 0 <;> rw [hb] at h <;> exact h
      | succ j =>
        change _ ∨ (_ ∧ (Bool.rec (T.get r (Nat.div j 2)) (T.get l (Nat.div j 2)) (Nat.beq (Nat.mod j 2) 0) : Option α) = some y)
        cases hb : Nat.beq (Nat.mod k 2) 0 <;> rw [hb] at h
        · change (Bool.rec (T.get (r.set x (Nat.div k 2)) (Nat.div j 2)) (T.get l (Nat.div j 2)) (Nat.beq (Nat.mod j 2) 0) : Option α) = some y at h
          have h1' : k % 2 ≠ 0 := Nat.ne_of_beq_eq_false hb
          cases hc : Nat.beq (Nat.mod j 2) 0 <;> rw [hc] at h
          · have h2' : j % 2 ≠ 0 := Nat.ne_of_beq_eq_false hc
            rcases ir h with ⟨e, rfl⟩ | ⟨e, h⟩
            · have e' : j / 2 = k / 2 := e
              exact .inl ⟨by omega, rfl⟩
            · exact .inr ⟨fun e2 => e (by have e3 : j = k := by omega
                                          rw [e3]), h⟩
          · have h2' : j % 2 = 0 := Nat.eq_of_beq_eq_true hc
            exact .inr ⟨by omega, h⟩
        · change (Bool.rec (T.get r (Nat.div j 2)) (T.get (l.set x (Nat.div k 2)) (Nat.div j 2)) (Nat.beq (Nat.mod j 2) 0) : Option α) = some y at h
          have h1' : k % 2 = 0 := Nat.eq_of_beq_eq_true hb
          cases hc : Nat.beq (Nat.mod j 2) 0 <;> rw [hc] at h
          · have h2' : j % 2 ≠ 0 := Nat.ne_of_beq_eq_false hc
            exact .inr ⟨by omega, h⟩
          · have h2' : j % 2 = 0 := Nat.eq_of_beq_eq_true hc
            rcases il h with ⟨e, rfl⟩ | ⟨e, h⟩
            · have e' : j / 2 = k / 2 := e
              exact .inl ⟨by omega, rfl⟩
            · exact .inr ⟨fun e2 => e (by have e3 : j = k := by omega
                                          rw [e3]), h⟩

theorem T.get_set_ne {α : Type} {x : α} : ∀ {t : T α} {k j : Nat} {y : α}, j ≠ k → t.get j = some y → (t.set x k).get j = some y := by
  intro t
  induction t with
  | lf => intro k j y _ h; cases h
  | nd v l r il ir =>
    intro k j y hne h
    cases k with
    | zero =>
      cases j with
      | zero => exact absurd rfl hne
      | succ j => exact h
    | succ k =>
      change T.get (Bool.rec (T.nd v l (r.set x (Nat.div k 2))) (T.nd v (l.set x (Nat.div k 2)) r) (Nat.beq (Nat.mod k 2) 0)) j = some y
      cases j with
      | zero => cases hb : Nat.beq (Nat.mod k 2) 0 <;> exact h
      | succ j =>
        change (Bool.rec (T.get r (Nat.div j 2)) (T.get l (Nat.div j 2)) (Nat.beq (Nat.mod j 2) 0) : Option α) = some y at h
        cases hb : Nat.beq (Nat.mod k 2) 0 <;> cases hc : Nat.beq (Nat.mod j 2) 0 <;> rw [hc] at h
        · change (Bool.rec (T.get (r.set x (Nat.div k 2)) (Nat.div j 2)) (T.get l (Nat.div j 2)) (Nat.beq (Nat.mod j 2) 0) : Option α) = some y
          rw [hc]
          refine ir (fun e => hne ?_) h
          have e' : j / 2 = k / 2 := e
          have h1' : k % 2 ≠ 0 := Nat.ne_of_beq_eq_false hb
          have h2' : j % 2 ≠ 0 := Nat.ne_of_beq_eq_false hc
          omega
        · change (Bool.rec (T.get (r.set x (Nat.div k 2)) (Nat.div j 2)) (T.get l (Nat.div j 2)) (Nat.beq (Nat.mod j 2) 0) : Option α) = some y
          rw [hc]; exact h
        · change (Bool.rec (T.get r (Nat.div j 2)) (T.get (l.set x (Nat.div k 2)) (Nat.div j 2)) (Nat.beq (Nat.mod j 2) 0) : Option α) = some y
          rw [hc]; exact h
        · change (Bool.rec (T.get r (Nat.div j 2)) (T.get (l.set x (Nat.div k 2)) (Nat.div j 2)) (Nat.beq (Nat.mod j 2) 0) : Option α) = some y
          rw [hc]
          refine il (fun e => hne ?_) h
          have e' : j / 2 = k / 2 := e
          have h1' : k % 2 = 0 := Nat.eq_of_beq_eq_true hb
          have h2' : j % 2 = 0 := Nat.eq_of_beq_eq_true hc
          omega

theorem T.get_set_eq {α : Type} {x : α} {t : T α} {k j : Nat} (hne : j ≠ k) : (t.set x k).get j = t.get j := by
  cases h : t.get j with
  | some y => exact T.get_set_ne hne h
  | none =>
    cases h' : (t.set x k).get j with
    | none => rfl
    | some y =>
      rcases T.get_set h' with ⟨e, _⟩ | ⟨_, e⟩
      · exact absurd e hne
      · rw [h] at e; cases e

structure Loc where
  b : Nat
  o : Nat
  sz : Nat
  es : Nat
/-- where rows lie, and which blocks stay as they are -/
structure Gam where
  loc : Nat → Option Loc
  fz : Nat → Option (Array Value)
instance : CoeFun Gam (fun _ => Nat → Option Loc) := ⟨Gam.loc⟩

inductive All2 {α β : Type} (R : α → β → Prop) : List α → List β → Prop
  | nil : All2 R [] []
  | cons {a b l m} : R a b → All2 R l m → All2 R (a :: l) (b :: m)

theorem All2.length {α β : Type} {R : α → β → Prop} {l : List α} {m : List β} (h : All2 R l m) : l.length = m.length := by
  induction h with
  | nil => rfl
  | cons _ _ ih => simp [ih]
theorem All2.imp {α β : Type} {R S : α → β → Prop} (hi : ∀ a b, R a b → S a b) {l : List α} {m : List β} (h : All2 R l m) : All2 S l m := by
  induction h with
  | nil => exact .nil
  | cons h _ ih => exact .cons (hi _ _ h) ih
theorem All2.get {α β : Type} {R : α → β → Prop} {l : List α} {m : List β} (h : All2 R l m) : ∀ {i : Nat} {a : α}, l[i]? = some a → ∃ b, m[i]? = some b ∧ R a b := by
  induction h with
  | nil => intro i a h; simp at h
  | @cons a b l m h _ ih =>
    intro i x hx
    cases i with
    | zero => simp at hx; subst hx; exact ⟨b, by simp, h⟩
    | succ i => simpa using ih (by simpa using hx)
theorem All2.of_get {α β : Type} {R : α → β → Prop} : ∀ {l : List α} {m : List β}, l.length = m.length → (∀ (i : Nat) (a : α) (b : β), l[i]? = some a → m[i]? = some b → R a b) → All2 R l m
  | [], [], _, _ => .nil
  | [], _ :: _, h, _ => by simp at h
  | _ :: _, [], h, _ => by simp at h
  | a :: l, b :: m, h, hr => .cons (hr 0 a b (by simp) (by simp)) (All2.of_get (by simpa using h) fun i x y hx hy => hr (i + 1) x y (by simpa using hx) (by simpa using hy))
theorem All2.append {α β : Type} {R : α → β → Prop} {l l' : List α} {m m' : List β} (h : All2 R l m) (h' : All2 R l' m') : All2 R (l ++ l') (m ++ m') := by
  induction h with
  | nil => exact h'
  | cons h _ ih => exact .cons h ih
theorem All2.take {α β : Type} {R : α → β → Prop} {l : List α} {m : List β} (h : All2 R l m) : ∀ n, All2 R (l.take n) (m.take n) := by
  induction h with
  | nil => intro n; simp; exact .nil
  | cons h _ ih => intro n; cases n with
    | zero => exact .nil
    | succ n => exact .cons h (ih n)
theorem All2.drop {α β : Type} {R : α → β → Prop} {l : List α} {m : List β} (h : All2 R l m) : ∀ n, All2 R (l.drop n) (m.drop n) := by
  induction h with
  | nil => intro n; simp; exact .nil
  | cons h t ih => intro n; cases n with
    | zero => exact .cons h t
    | succ n => exact ih n

mutual
/-- a value that names no row -/
def hf : AV → Bool
  | .ptr .. | .sl .. | .map .. | .yld .. => false
  | .fn _ a b => hfs a && hfs b
  | .iface _ v => hf v
  | .agg l | .tup l => hfs l
  | _ => true
def hfs : List AV → Bool
  | [] => true
  | v :: l => hf v && hfs l
end
theorem hfs_iff : ∀ {l : List AV}, hfs l = true ↔ ∀ v ∈ l, hf v = true
  | [] => by simp [hfs]
  | x :: l => by simp [hfs, hfs_iff (l := l)]
theorem hfs_drop {l : List AV} (h : hfs l = true) (k : Nat) : hfs (l.drop k) = true := hfs_iff.2 fun v hv => hfs_iff.1 h v (List.mem_of_mem_drop hv)
theorem hfs_take {l : List AV} (h : hfs l = true) (k : Nat) : hfs (l.take k) = true := hfs_iff.2 fun v hv => hfs_iff.1 h v (List.mem_of_mem_take hv)

inductive VR (γ : Gam) : AV → Value → Prop
  | bool (b : Bool) : VR γ (.bool b) (.bool b)
  | int (k : IntKind) (n : Int) : VR γ (.int k n) (.int k n)
  | str (l : List Nat) (s : ByteArray) : s.data.toList.map UInt8.toNat = l → VR γ (.str l) (.string s)
  | ptr (r o : Nat) (L : Loc) : γ r = some L → VR γ (.ptr r o) (.pointer (some ⟨L.b, L.o + o, none⟩))
  | nilp : VR γ .nilp (.pointer none)
  | sl (r o n c : Nat) (L : Loc) : γ r = some L → n ≤ c → VR γ (.sl r o n (some c)) (.slice (some ⟨L.b, L.o + o, none⟩) n c)
  | slu (r o n c : Nat) (L : Loc) : γ r = some L → n ≤ c → c ≤ maxLen → (o = 0 → c * L.es ≤ L.sz) → VR γ (.sl r o n none) (.slice (some ⟨L.b, L.o + o, none⟩) n c)
  | nils : VR γ .nils (.slice none 0 0)
  | es (a : Addr) (c : Nat) : VR γ .es (.slice (some a) 0 c)
  | map (r : Nat) (L : Loc) : γ r = some L → VR γ (.map r) (.map (some L.b))
  | nilm : VR γ .nilm (.map none)
  | fn (f : Nat) (xs ys : List AV) (as bs : Array Value) : All2 (VR γ) xs as.toList → All2 (VR γ) ys bs.toList → VR γ (.fn f xs ys) (.func (.func f) as bs)
  | yld (l : Nat) (L : Loc) : γ l = some L → VR γ (.yld l) (.func (.yield L.b) #[] #[])
  | nilf : VR γ .nilf .nilFunc
  | iface (t : Nat) (v : AV) (v' : Value) : VR γ v v' → VR γ (.iface t v) (.iface t v')
  | nili : VR γ .nili .nilIface
  | agg (l : List AV) (a : Array Value) : All2 (VR γ) l a.toList → (∀ v ∈ a.toList, v.oneCell' = true) → VR γ (.agg l) (.agg a)
  | tup (l : List AV) (a : Array Value) : All2 (VR γ) l a.toList → VR γ (.tup l) (.tuple a)
  | any (v : Value) : v.oneCell' = true → VR γ .any v
  | fz (n : Nat) (cap : Option Nat) (l : List AV) (vs : List Value) (b o c : Nat) (cs : Array Value) : γ.fz b = some cs → (∀ (j : Nat) (u : Value), vs[j]? = some u → cs[o + j]? = some u) → (∀ u ∈ vs, u.oneCell' = true) → All2 (VR γ) l vs → n ≤ c → (∀ k, cap = some k → c = k) → hfs l = true → VR γ (.fz n cap l) (.slice (some ⟨b, o, none⟩) n c)
  | fp (l : List AV) (vs : List Value) (b o : Nat) (cs : Array Value) : γ.fz b = some cs → (∀ (j : Nat) (u : Value), vs[j]? = some u → cs[o + j]? = some u) → (∀ u ∈ vs, u.oneCell' = true) → All2 (VR γ) l vs → hfs l = true → VR γ (.fp l) (.pointer (some ⟨b, o, none⟩))

structure Le (γ γ' : Gam) : Prop where
  loc : ∀ r L, γ r = some L → γ' r = some L
  fz : ∀ b c, γ.fz b = some c → γ'.fz b = some c
theorem Le.refl (γ : Gam) : Le γ γ := ⟨fun _ _ h => h, fun _ _ h => h⟩
theorem Le.trans {γ γ1 γ2 : Gam} (h : Le γ γ1) (k : Le γ1 γ2) : Le γ γ2 := ⟨fun r L e => k.loc r L (h.loc r L e), fun b c e => k.fz b c (h.fz b c e)⟩
mutual
theorem VR.mono {γ γ' : Gam} (h : Le γ γ') : ∀ {v : AV} {v' : Value}, VR γ v v' → VR γ' v v'
  | _, _, .bool b => .bool b
  | _, _, .int k n => .int k n
  | _, _, .str l s e => .str l s e
  | _, _, .ptr r o L e => .ptr r o L (h.loc _ _ e)
  | _, _, .nilp => .nilp
  | _, _, .sl r o n c L e a => .sl r o n c L (h.loc _ _ e) a
  | _, _, .slu r o n c L e a b d => .slu r o n c L (h.loc _ _ e) a b d
  | _, _, .nils => .nils
  | _, _, .es a c => .es a c
  | _, _, .map r L e => .map r L (h.loc _ _ e)
  | _, _, .nilm => .nilm
  | _, _, .fn f xs ys as bs a b => .fn f xs ys as bs (VR.monoL h a) (VR.monoL h b)
  | _, _, .yld l L e => .yld l L (h.loc _ _ e)
  | _, _, .nilf => .nilf
  | _, _, .iface t v v' e => .iface t v v' (VR.mono h e)
  | _, _, .nili => .nili
  | _, _, .agg l a e o => .agg l a (VR.monoL h e) o
  | _, _, .tup l a e => .tup l a (VR.monoL h e)
  | _, _, .any v e => .any v e
  | _, _, .fz n cap l vs b o c cs e1 e2 e3 e4 e5 e6 e7 => .fz n cap l vs b o c cs (h.fz _ _ e1) e2 e3 (VR.monoL h e4) e5 e6 e7
  | _, _, .fp l vs b o cs e1 e2 e3 e4 e5 => .fp l vs b o cs (h.fz _ _ e1) e2 e3 (VR.monoL h e4) e5
theorem VR.monoL {γ γ' : Gam} (h : Le γ γ') : ∀ {l : List AV} {m : List Value}, All2 (VR γ) l m → All2 (VR γ') l m
  | _, _, .nil => .nil
  | _, _, .cons a b => .cons (VR.mono h a) (VR.monoL h b)
end

/-- the temporaries -/
def TR (γ : Gam) (t : AT) (tm : Array Value) : Prop := ∀ i v, t.get i = some v → ∃ v', tm[i]? = some v' ∧ VR γ v v'
theorem TR.mono {γ γ' : Gam} (h : Le γ γ') {t : AT} {tm : Array Value} (ht : TR γ t tm) : TR γ' t tm := fun i v hv => let ⟨v', a, b⟩ := ht i v hv; ⟨v', a, b.mono h⟩

def pendR (p : Option Nat) (c : Option Code) : Prop := match p with
  | none => c = none
  | some 0 => c = some .ret
  | some (id + 1) => c = some (.exit id)

def alive : AObj → Bool
  | .dead => false
  | _ => true

/-- how a thing stands in the heap -/
def ObjR (P : Program) (γ : Gam) (L : Loc) (o : AObj) (hp : Array Obj) : Prop := match o with
  | .row e cs => ∃ c : Array Value, hp[L.b]? = some (.cells c e (0, 0)) ∧ L.o = 0 ∧ c.size = L.sz ∧ szOf P e = some L.es ∧
      cs.length ≤ c.size ∧ (∀ (i : Nat) v, cs[i]? = some v → ∃ v', c[i]? = some v' ∧ VR γ v v' ∧ v'.oneCell' = true) ∧ ∀ v' ∈ c.toList, v'.oneCell' = true
  | .dead => True
  | .map es clock => ∃ ms : Array MapEntry, hp[L.b]? = some (.map ms clock) ∧ All2 (fun (x : AV × AV × Nat) (m : MapEntry) => VR γ x.1 m.key ∧ VR γ x.2.1 m.val ∧ m.born = x.2.2) es ms.toList
  | .loop st pend fn tm ps asg body d => ∃ lp : Loop, hp[L.b]? = some (.loop lp) ∧ lp.state = st ∧ pendR pend lp.pending ∧ TR γ tm lp.tmps ∧ lp.params.toList = ps ∧
      (∃ N, N ≤ lp.tmps.size ∧ comp P N lp.assign = some asg ∧ comp P N lp.body = some body ∧ ∀ p ∈ ps, p < N) ∧ ∃ D, γ d = some D ∧ lp.defers = D.b
  | .defd => hp[L.b]? = some (.deferred (some []))

theorem ObjR.mono {P : Program} {γ γ' : Gam} (h : Le γ γ') {L : Loc} {o : AObj} {hp : Array Obj} (ho : ObjR P γ L o hp) : ObjR P γ' L o hp := by
  cases o with
  | row e cs => obtain ⟨c, h1, h2, h3, h4, h5, h6, h7⟩ := ho; exact ⟨c, h1, h2, h3, h4, h5, fun i v hv => (let ⟨v', a, b, d⟩ := h6 i v hv; ⟨v', a, b.mono h, d⟩), h7⟩
  | dead => trivial
  | map es clock => obtain ⟨ms, h1, h2⟩ := ho; exact ⟨ms, h1, h2.imp fun _ _ ⟨a, b, c⟩ => ⟨a.mono h, b.mono h, c⟩⟩
  | loop st pend fn tm ps asg body d => obtain ⟨lp, h1, h2, h3, h4, h5, h6, D, h8, h10⟩ := ho; exact ⟨lp, h1, h2, h3, h4.mono h, h5, h6, D, h.loc _ _ h8, h10⟩
  | defd => exact ho

/-- it hangs on one block alone -/
theorem ObjR.heap {P : Program} {γ : Gam} {L : Loc} {o : AObj} {hp hp' : Array Obj} (ho : ObjR P γ L o hp) (e : hp'[L.b]? = hp[L.b]?) : ObjR P γ L o hp' := by
  cases o with
  | row e' cs => obtain ⟨c, h1, h2⟩ := ho; exact ⟨c, e.trans h1, h2⟩
  | dead => trivial
  | map es clock => obtain ⟨ms, h1, h2⟩ := ho; exact ⟨ms, e.trans h1, h2⟩
  | loop st pend fn tm ps asg body d => obtain ⟨lp, h1, h2⟩ := ho; exact ⟨lp, e.trans h1, h2⟩
  | defd => exact e.trans ho

structure Sim (P : Program) (γ : Gam) (s : St) (w : World) : Prop where
  obj : ∀ r o L, s.get r = some o → γ r = some L → ObjR P γ L o w.heap
  inj : ∀ r r' o o' L L', s.get r = some o → s.get r' = some o' → alive o = true → alive o' = true → γ r = some L → γ r' = some L' → r ≠ r' → L.b ≠ L'.b
  lt : ∀ r L, γ r = some L → L.b < w.heap.size
  nx : ∀ r, s.next ≤ r → γ r = none
  dom : ∀ r o, s.get r = some o → r < s.next
  fzc : ∀ b c, γ.fz b = some c → ∃ e fr, w.heap[b]? = some (.cells c e fr)
  fzr : ∀ r o L, s.get r = some o → alive o = true → γ r = some L → γ.fz L.b = none

theorem Sim.fzlt {P : Program} {γ : Gam} {s : St} {w : World} (h : Sim P γ s w) {b : Nat} {c : Array Value} (hb : γ.fz b = some c) : b < w.heap.size := by
  obtain ⟨e, fr, h1⟩ := h.fzc b c hb
  exact (Array.getElem?_eq_some_iff.1 h1).1
theorem Sim.fzout {P : Program} {γ : Gam} {s : St} {w : World} (h : Sim P γ s w) {b : Nat} (hb : w.heap.size ≤ b) : γ.fz b = none := by
  cases hc : γ.fz b with
  | none => rfl
  | some c => exact absurd (h.fzlt hc) (by omega)

/-- a step of a run, seen from outside -/
structure Stp (γ : Gam) (s : St) (w : World) (γ' : Gam) (s' : St) (w' : World) : Prop where
  le : Le γ γ'
  new : ∀ r L, γ' r = some L → γ r = none → s.next ≤ r ∧ (w.heap.size ≤ L.b ∨ ∃ r0 L0, γ r0 = some L0 ∧ L0.b = L.b)
  next : s.next ≤ s'.next
  size : w.heap.size ≤ w'.heap.size
  os : w'.os = w.os
  tape : w'.tape = w.tape
  output : w'.output = w.output
  blk : ∀ b, b < w.heap.size → (∀ r L, γ r = some L → L.b ≠ b) → w'.heap[b]? = w.heap[b]?
  keep : ∀ r, γ r = none → r < s.next → s'.get r = s.get r
  fzn : ∀ b c, γ'.fz b = some c → γ.fz b = none → w.heap.size ≤ b

theorem Stp.refl (γ : Gam) (s : St) (w : World) : Stp γ s w γ s w :=
  ⟨Le.refl γ, fun r L h h' => (by rw [h] at h'; cases h'), Nat.le_refl _, Nat.le_refl _, rfl, rfl, rfl, fun _ _ _ => rfl, fun _ _ _ => rfl, fun b c h h' => (by rw [h] at h'; cases h')⟩

theorem Stp.trans {γ γ1 γ2 : Gam} {s s1 s2 : St} {w w1 w2 : World} (h : Stp γ s w γ1 s1 w1) (k : Stp γ1 s1 w1 γ2 s2 w2) : Stp γ s w γ2 s2 w2 := by
  have step : ∀ r L, γ1 r = some L → (w.heap.size ≤ L.b ∨ ∃ r0 L0, γ r0 = some L0 ∧ L0.b = L.b) := by
    intro r L h1
    cases hg : γ r with
    | none => exact (h.new r L h1 hg).2
    | some L' => exact .inr ⟨r, L', hg, by rw [Option.some.inj ((h.le.loc r L' hg).symm.trans h1)]⟩
  refine ⟨h.le.trans k.le, ?_, Nat.le_trans h.next k.next, Nat.le_trans h.size k.size, k.os.trans h.os, k.tape.trans h.tape, k.output.trans h.output, ?_, ?_, ?_⟩
  · intro r L h2 h0
    cases h1 : γ1 r with
    | some L1 => have e := Option.some.inj ((k.le.loc r L1 h1).symm.trans h2); rw [← e]; exact h.new r L1 h1 h0
    | none =>
      obtain ⟨a, b⟩ := k.new r L h2 h1
      refine ⟨Nat.le_trans h.next a, ?_⟩
      rcases b with b | ⟨r0, L0, e0, e1⟩
      · exact .inl (Nat.le_trans h.size b)
      · rw [← e1]; exact step r0 L0 e0
  · intro b hb hn
    rw [k.blk b (Nat.lt_of_lt_of_le hb h.size) ?_, h.blk b hb hn]
    intro r L h1 e
    rcases step r L h1 with a | ⟨r0, L0, e0, e1⟩
    · omega
    · exact hn r0 L0 e0 (e1.trans e)
  · intro r h0 hr
    refine (k.keep r ?_ (Nat.lt_of_lt_of_le hr h.next)).trans (h.keep r h0 hr)
    cases h1 : γ1 r with
    | none => rfl
    | some L1 => exact absurd (h.new r L1 h1 h0).1 (by omega)
  · intro b c hb h0
    cases h1 : γ1.fz b with
    | none => exact Nat.le_trans h.size (k.fzn b c hb h1)
    | some c1 => exact h.fzn b c1 h1 h0

/-! ### the state's own steps -/
theorem St.get_alloc {s : St} {o x : AObj} {r : Nat} (h : (s.alloc o).get r = some x) : (r = s.next ∧ x = o) ∨ (r ≠ s.next ∧ s.get r = some x) := by
  cases s; exact T.get_set h
theorem St.get_put {s : St} {o x : AObj} {r k : Nat} (h : (s.put k o).get r = some x) : (r = k ∧ x = o) ∨ (r ≠ k ∧ s.get r = some x) := by
  cases s; exact T.get_set h
theorem St.get_alloc_ne {s : St} {o : AObj} {r : Nat} (hne : r ≠ s.next) : (s.alloc o).get r = s.get r := by
  cases s; exact T.get_set_eq hne
theorem St.get_put_ne {s : St} {o : AObj} {r k : Nat} (hne : r ≠ k) : (s.put k o).get r = s.get r := by
  cases s; exact T.get_set_eq hne
theorem St.next_alloc (s : St) (o : AObj) : (s.alloc o).next = s.next + 1 := by cases s; rfl
theorem St.next_put (s : St) (r : Nat) (o : AObj) : (s.put r o).next = s.next := by cases s; rfl

def ext (γ : Gam) (r : Nat) (L : Loc) : Gam := ⟨fun k => if k = r then some L else γ k, γ.fz⟩
theorem ext_fz (γ : Gam) (r : Nat) (L : Loc) : (ext γ r L).fz = γ.fz := rfl
theorem ext_le {γ : Gam} {r : Nat} {L : Loc} (h : γ r = none) : Le γ (ext γ r L) := by
  refine ⟨fun k M hk => ?_, fun _ _ h => h⟩
  show (if k = r then some L else γ k) = some M
  by_cases e : k = r
  · subst e; rw [h] at hk; cases hk
  · rw [if_neg e]; exact hk
theorem ext_same (γ : Gam) (r : Nat) (L : Loc) : ext γ r L r = some L := by show (if r = r then some L else γ r) = some L; rw [if_pos rfl]
theorem ext_other (γ : Gam) {r k : Nat} (L : Loc) (h : k ≠ r) : ext γ r L k = γ k := by show (if k = r then some L else γ k) = γ k; rw [if_neg h]

/-- a new thing in a new block -/
theorem Sim.alloc {P : Program} {γ : Gam} {s : St} {w : World} (h : Sim P γ s w) (o : AObj) (O : Obj) (sz es : Nat)
    (ho : ObjR P (ext γ s.next ⟨w.heap.size, 0, sz, es⟩) ⟨w.heap.size, 0, sz, es⟩ o (w.alloc O).heap) :
    Stp γ s w (ext γ s.next ⟨w.heap.size, 0, sz, es⟩) (s.alloc o) (w.alloc O) ∧ Sim P (ext γ s.next ⟨w.heap.size, 0, sz, es⟩) (s.alloc o) (w.alloc O) := by
  have hn := h.nx s.next (Nat.le_refl _)
  have hle := ext_le (L := ⟨w.heap.size, 0, sz, es⟩) hn
  have hold : ∀ b, b < w.heap.size → (w.alloc O).heap[b]? = w.heap[b]? := fun b hb => by
    show (w.heap.push O)[b]? = _
    rw [Array.getElem?_push, if_neg (by omega)]
  have hsz : (w.alloc O).heap.size = w.heap.size + 1 := by show (w.heap.push O).size = _; simp
  refine ⟨⟨hle, ?_, by rw [St.next_alloc]; omega, by omega, rfl, rfl, rfl, fun b hb _ => hold b hb, fun r _ hr => St.get_alloc_ne (by omega), fun b c h h' => (by rw [show γ.fz b = some c from h] at h'; cases h')⟩, ⟨?_, ?_, ?_, ?_, ?_, ?_, ?_⟩⟩
  · intro r L h1 h2
    by_cases e : r = s.next
    · subst e; rw [ext_same] at h1; cases h1; exact ⟨Nat.le_refl _, .inl (Nat.le_refl _)⟩
    · rw [ext_other _ _ e, h2] at h1; cases h1
  · intro r x L hx hL
    rcases St.get_alloc hx with ⟨rfl, rfl⟩ | ⟨e, hx⟩
    · rw [ext_same] at hL; cases hL; exact ho
    · rw [ext_other _ _ e] at hL
      exact ((h.obj r x L hx hL).mono hle).heap (hold _ (h.lt r L hL))
  · intro r r' x x' L L' hx hx' ha ha' hL hL' hne
    rcases St.get_alloc hx with ⟨rfl, rfl⟩ | ⟨e, hx⟩ <;> rcases St.get_alloc hx' with ⟨rfl, rfl⟩ | ⟨e', hx'⟩
    · exact absurd rfl hne
    · rw [ext_same] at hL; rw [ext_other _ _ e'] at hL'; cases hL
      have := h.lt _ _ hL'; show w.heap.size ≠ L'.b; omega
    · rw [ext_same] at hL'; rw [ext_other _ _ e] at hL; cases hL'
      have := h.lt _ _ hL; show L.b ≠ w.heap.size; omega
    · rw [ext_other _ _ e] at hL; rw [ext_other _ _ e'] at hL'
      exact h.inj r r' x x' L L' hx hx' ha ha' hL hL' hne
  · intro r L hL
    by_cases e : r = s.next
    · subst e; rw [ext_same] at hL; cases hL; rw [hsz]; exact Nat.lt_succ_self _
    · rw [ext_other _ _ e] at hL; have := h.lt r L hL; omega
  · intro r hr
    rw [St.next_alloc] at hr
    rw [ext_other _ _ (by omega)]
    exact h.nx r (by omega)
  · intro r x hx
    rw [St.next_alloc]
    rcases St.get_alloc hx with ⟨rfl, _⟩ | ⟨_, hx⟩
    · omega
    · have := h.dom r x hx; omega
  · intro b c hb
    obtain ⟨e, fr, h1⟩ := h.fzc b c hb
    exact ⟨e, fr, (hold b (h.fzlt hb)).trans h1⟩
  · intro r x L hx ha hL
    rcases St.get_alloc hx with ⟨rfl, rfl⟩ | ⟨e, hx⟩
    · rw [ext_same] at hL; cases hL; exact h.fzout (Nat.le_refl _)
    · rw [ext_other _ _ e] at hL; exact h.fzr r x L hx ha hL

/-- a living thing is turned -/
theorem Sim.turn {P : Program} {γ : Gam} {s : St} {w w' : World} (h : Sim P γ s w) {r : Nat} {x o : AObj} {L : Loc} (hx : s.get r = some x) (hL : γ r = some L) (ha : alive x = true)
    (hother : ∀ b, b ≠ L.b → w'.heap[b]? = w.heap[b]?) (hsize : w'.heap.size = w.heap.size) (h1 : w'.os = w.os) (h2 : w'.tape = w.tape) (h3 : w'.output = w.output)
    (ho : ObjR P γ L o w'.heap) : Stp γ s w γ (s.put r o) w' ∧ Sim P γ (s.put r o) w' := by
  refine ⟨⟨Le.refl γ, fun r L h h' => (by rw [h] at h'; cases h'), by rw [St.next_put]; exact Nat.le_refl _, by omega, h1, h2, h3, fun b _ hn => hother b (fun e => hn r L hL e.symm), fun k hk _ => St.get_put_ne (fun e => by rw [e, hL] at hk; cases hk), fun b c h h' => (by rw [h] at h'; cases h')⟩, ⟨?_, ?_, ?_, ?_, ?_, ?_, ?_⟩⟩
  · intro k y M hy hM
    rcases St.get_put hy with ⟨rfl, rfl⟩ | ⟨e, hy⟩
    · rw [hL] at hM; cases hM; exact ho
    · cases hd : alive y with
      | false => cases y <;> simp [alive] at hd; trivial
      | true => exact (h.obj k y M hy hM).heap (hother _ (h.inj k r y x M L hy hx hd ha hM hL e))
  · intro k k' y y' M M' hy hy' ha1 ha2 hM hM' hne
    have back : ∀ {j : Nat} {z : AObj}, (s.put r o).get j = some z → alive z = true → ∃ z', s.get j = some z' ∧ alive z' = true := by
      intro j z hz hza
      rcases St.get_put hz with ⟨rfl, rfl⟩ | ⟨e, hz⟩
      · exact ⟨x, hx, ha⟩
      · exact ⟨z, hz, hza⟩
    obtain ⟨z, hz, hza⟩ := back hy ha1
    obtain ⟨z', hz', hza'⟩ := back hy' ha2
    exact h.inj k k' z z' M M' hz hz' hza hza' hM hM' hne
  · intro k M hM; rw [hsize]; exact h.lt k M hM
  · intro k hk; rw [St.next_put] at hk; exact h.nx k hk
  · intro k y hy
    rw [St.next_put]
    rcases St.get_put hy with ⟨rfl, _⟩ | ⟨_, hy⟩
    · exact h.dom k x hx
    · exact h.dom k y hy
  · intro b c hb
    obtain ⟨e, fr, h1⟩ := h.fzc b c hb
    exact ⟨e, fr, (hother b (fun q => by rw [q, h.fzr r x L hx ha hL] at hb; cases hb)).trans h1⟩
  · intro k y M hy hya hM
    rcases St.get_put hy with ⟨rfl, rfl⟩ | ⟨e, hy⟩
    · exact h.fzr k x M hx ha hM
    · exact h.fzr k y M hy hya hM

/-- a living thing that is given up, another one in its own block -/
theorem Sim.move {P : Program} {γ : Gam} {s : St} {w w' : World} (h : Sim P γ s w) {r : Nat} {x o : AObj} {L : Loc} (hx : s.get r = some x) (hL : γ r = some L) (ha : alive x = true)
    (hother : ∀ b, b ≠ L.b → w'.heap[b]? = w.heap[b]?) (hsize : w'.heap.size = w.heap.size) (h1 : w'.os = w.os) (h2 : w'.tape = w.tape) (h3 : w'.output = w.output)
    (ho : ObjR P (ext γ s.next L) L o w'.heap) : Stp γ s w (ext γ s.next L) ((s.put r .dead).alloc o) w' ∧ Sim P (ext γ s.next L) ((s.put r .dead).alloc o) w' := by
  have hn := h.nx s.next (Nat.le_refl _)
  have hle := ext_le (L := L) hn
  have hnr : r ≠ s.next := fun e => by rw [e, hn] at hL; cases hL
  have get2 : ∀ {k : Nat} {y : AObj}, ((s.put r .dead).alloc o).get k = some y → (k = s.next ∧ y = o) ∨ (k = r ∧ y = .dead) ∨ (k ≠ s.next ∧ k ≠ r ∧ s.get k = some y) := by
    intro k y hy
    rcases St.get_alloc hy with ⟨e, e2⟩ | ⟨e, hy⟩
    · rw [St.next_put] at e; exact .inl ⟨e, e2⟩
    · rw [St.next_put] at e
      rcases St.get_put hy with ⟨e', e2⟩ | ⟨e', hy⟩
      · exact .inr (.inl ⟨e', e2⟩)
      · exact .inr (.inr ⟨e, e', hy⟩)
  refine ⟨⟨hle, ?_, by rw [St.next_alloc, St.next_put]; omega, by omega, h1, h2, h3, fun b _ hn => hother b (fun e => hn r L hL e.symm), fun k hk hlt => (St.get_alloc_ne (by rw [St.next_put]; omega)).trans (St.get_put_ne (fun e => by rw [e, hL] at hk; cases hk)), fun b c h h' => (by rw [show γ.fz b = some c from h] at h'; cases h')⟩, ⟨?_, ?_, ?_, ?_, ?_, ?_, ?_⟩⟩
  · intro k M hM hk
    by_cases e : k = s.next
    · subst e; rw [ext_same] at hM; cases hM; exact ⟨Nat.le_refl _, .inr ⟨r, L, hL, rfl⟩⟩
    · rw [ext_other _ _ e, hk] at hM; cases hM
  · intro k y M hy hM
    rcases get2 hy with ⟨rfl, rfl⟩ | ⟨rfl, rfl⟩ | ⟨e, e', hy⟩
    · rw [ext_same] at hM; cases hM; exact ho
    · trivial
    · rw [ext_other _ _ e] at hM
      cases hd : alive y with
      | false => cases y <;> simp [alive] at hd; trivial
      | true => exact ((h.obj k y M hy hM).mono hle).heap (hother _ (h.inj k r y x M L hy hx hd ha hM hL e'))
  · intro k k' y y' M M' hy hy' ha1 ha2 hM hM' hne
    rcases get2 hy with ⟨rfl, rfl⟩ | ⟨rfl, rfl⟩ | ⟨e, e', hyy⟩
    · rcases get2 hy' with ⟨rfl, rfl⟩ | ⟨rfl, rfl⟩ | ⟨g, g', hy'⟩
      · exact absurd rfl hne
      · simp [alive] at ha2
      · rw [ext_same] at hM; cases hM; rw [ext_other _ _ g] at hM'
        exact fun q => h.inj k' r y' x M' L hy' hx ha2 ha hM' hL g' q.symm
    · simp [alive] at ha1
    · rw [ext_other _ _ e] at hM
      have hy0 := hyy
      rcases get2 hy' with ⟨rfl, rfl⟩ | ⟨rfl, rfl⟩ | ⟨g, g', hy'⟩
      · rw [ext_same] at hM'; cases hM'
        exact h.inj k r y x M L hy0 hx ha1 ha hM hL e'
      · simp [alive] at ha2
      · rw [ext_other _ _ g] at hM'
        exact h.inj k k' y y' M M' hyy hy' ha1 ha2 hM hM' hne
  · intro k M hM
    rw [hsize]
    by_cases e : k = s.next
    · subst e; rw [ext_same] at hM; cases hM; exact h.lt r L hL
    · rw [ext_other _ _ e] at hM; exact h.lt k M hM
  · intro k hk
    rw [St.next_alloc, St.next_put] at hk
    rw [ext_other _ _ (by omega)]
    exact h.nx k (by omega)
  · intro k y hy
    rw [St.next_alloc, St.next_put]
    rcases get2 hy with ⟨rfl, _⟩ | ⟨rfl, _⟩ | ⟨_, _, hy⟩
    · omega
    · have := h.dom k x hx; omega
    · have := h.dom k y hy; omega
  · intro b c hb
    obtain ⟨e, fr, h1⟩ := h.fzc b c hb
    exact ⟨e, fr, (hother b (fun q => by have hb' : γ.fz b = some c := hb; rw [q, h.fzr r x L hx ha hL] at hb'; cases hb')).trans h1⟩
  · intro k y M hy hya hM
    rcases get2 hy with ⟨rfl, rfl⟩ | ⟨rfl, rfl⟩ | ⟨e, e', hy⟩
    · rw [ext_same] at hM; cases hM; exact h.fzr r x L hx ha hL
    · simp [alive] at hya
    · rw [ext_other _ _ e] at hM; exact h.fzr k y M hy hya hM

/-- a draw turns nothing -/
theorem Sim.drew {P : Program} {γ : Gam} {s : St} {w : World} (h : Sim P γ s w) : Sim P γ s w.drew := ⟨h.obj, h.inj, h.lt, h.nx, h.dom, h.fzc, h.fzr⟩
theorem Stp.drew {γ : Gam} {s : St} {w : World} : Stp γ s w γ s w.drew :=
  ⟨Le.refl γ, fun r L h h' => (by rw [h] at h'; cases h'), Nat.le_refl _, Nat.le_refl _, rfl, rfl, rfl, fun _ _ _ => rfl, fun _ _ _ => rfl, fun b c h h' => (by rw [h] at h'; cases h')⟩
end Go.AM
