/-
  THE ABSTRACT MACHINE: rows by names that are not numerals. Plain lemmas.
-/
import Derived.Test.YtnnbibnobmegpaaAMView
set_option linter.unusedVariables false
set_option linter.unusedSimpArgs false
namespace Go.AM
theorem T.get_sing_same {α : Type} {x : α} : ∀ (n k : Nat), k + 1 < 2 ^ n → (T.sing x n k).get k = some x := by
  intro n
  induction n with
  | zero => intro k h; simp at h
  | succ n ih =>
    intro k h
    cases k with
    | zero => rfl
    | succ k =>
      have hk : k / 2 + 1 < 2 ^ n := by rw [Nat.pow_succ] at h; omega
      show T.get (Bool.rec (T.nd none .lf (T.sing x n (Nat.div k 2))) (T.nd none (T.sing x n (Nat.div k 2)) .lf) (Nat.beq (Nat.mod k 2) 0)) (k + 1) = some x
      cases hb : Nat.beq (Nat.mod k 2) 0
      · show (Bool.rec (T.get (T.sing x n (Nat.div k 2)) (Nat.div k 2)) _ (Nat.beq (Nat.mod k 2) 0) : Option α) = some x
        rw [hb]; exact ih _ hk
      · show (Bool.rec _ (T.get (T.sing x n (Nat.div k 2)) (Nat.div k 2)) (Nat.beq (Nat.mod k 2) 0) : Option α) = some x
        rw [hb]; exact ih _ hk
theorem T.get_set_same {α : Type} {x : α} : ∀ (t : T α) (k : Nat), k < 1000000000 → (t.set x k).get k = some x := by
  intro t
  induction t with
  | lf => intro k h; exact T.get_sing_same 64 k (by omega)
  | nd v l r il ir =>
    intro k h
    cases k with
    | zero => rfl
    | succ k =>
      have hk : k / 2 < 1000000000 := by omega
      show T.get (Bool.rec (T.nd v l (r.set x (Nat.div k 2))) (T.nd v (l.set x (Nat.div k 2)) r) (Nat.beq (Nat.mod k 2) 0)) (k + 1) = some x
      cases hb : Nat.beq (Nat.mod k 2) 0
      · show (Bool.rec (T.get (r.set x (Nat.div k 2)) (Nat.div k 2)) _ (Nat.beq (Nat.mod k 2) 0) : Option α) = some x
        rw [hb]; exact ir _ hk
      · show (Bool.rec _ (T.get (l.set x (Nat.div k 2)) (Nat.div k 2)) (Nat.beq (Nat.mod k 2) 0) : Option α) = some x
        rw [hb]; exact il _ hk
theorem St.get_alloc_same {s : St} {o : AObj} (h : s.next < 1000000000) : (s.alloc o).get s.next = some o := by
  cases s; exact T.get_set_same _ _ h
theorem St.get_put_same {s : St} {o : AObj} {r : Nat} (h : r < 1000000000) : (s.put r o).get r = some o := by
  cases s; exact T.get_set_same _ _ h
theorem rowAt_of {s : St} {r e : Nat} {cs : List AV} (h : s.get r = some (.row e cs)) : rowAt r s = .row e cs := by
  unfold rowAt; rw [h]; rfl
theorem load_of {s : St} {r e o n : Nat} {cs : List AV} (h : s.get r = some (.row e cs)) (hl : o + n ≤ cs.length) : load r o n s = some ((cs.drop o).take n) := by
  unfold load; rw [rowAt_of h]
  show takeL n (dropL o cs) = _
  rw [dropL_eq]; exact takeL_of (by simp; omega)
theorem upd_of : ∀ {vs : List AV} {o : Nat} {l : List AV}, o + vs.length ≤ l.length → upd vs o l = some (l.take o ++ vs ++ l.drop (o + vs.length)) := by
  have hH : ∀ {vs l : List AV}, vs.length ≤ l.length → updH vs l = some (vs ++ l.drop vs.length) := by
    intro vs
    induction vs with
    | nil => intro l _; rfl
    | cons v vs ih => intro l h; cases l with
      | nil => simp at h
      | cons x l =>
        show (Option.rec none (fun r => some (v :: r)) (updH vs l) : Option (List AV)) = _
        rw [ih (by simpa using h)]; rfl
  intro vs o
  induction o with
  | zero => intro l h; show updH vs l = _; rw [hH (by omega)]; simp
  | succ o ih => intro l h; cases l with
    | nil => simp at h
    | cons x l =>
      show (Option.rec none (fun r => some (x :: r)) (upd vs o l) : Option (List AV)) = _
      rw [ih (by simp at h; omega), show o + 1 + vs.length = (o + vs.length) + 1 by omega]; rfl
theorem store_of {s : St} {r e o : Nat} {cs vs : List AV} (h : s.get r = some (.row e cs)) (hl : o + vs.length ≤ cs.length) : storeAt r o vs s = some (s.put r (.row e (cs.take o ++ vs ++ cs.drop (o + vs.length)))) := by
  unfold storeAt; rw [rowAt_of h]
  show (Option.rec none (fun cs' => some (s.put r (.row e cs'))) (upd vs o cs) : Option St) = _
  rw [upd_of hl]
section
variable {t : AT} {s : St} {k : AV → St → Prop} {x y : AO}
theorem EPrim.slcK {es r o n c l h : Nat} {lo hi : Option AO} (hx : ev x t = .some (.sl r o n (some c))) (hlo : optNat t lo 0 = .n l) (hhi : optNat t hi n = .n h) (h1 : l ≤ h) (h2 : h ≤ c) (h3 : l < c) (hk : k (.sl r (o + l * es) (h - l) (some (c - l))) s) : EPrim (.slc es x lo hi none) t s k := by
  refine EPrim.mk (fun e rec => ?_) hk
  show wth x t _ = _; unfold wth; rw [hx]
  show (NR.rec .fail _ (optNat t lo 0) : RV) = _; rw [hlo]
  show (NR.rec .fail _ (optNat t hi n) : RV) = _; rw [hhi]
  show gd (Nat.ble l h && Nat.ble h c) (.ok (.sl r (Bool.rec (o + l * es) o (Nat.beq c l)) (h - l) (some (c - l))) s) = _
  rw [Nat.ble_eq_true_of_le h1, Nat.ble_eq_true_of_le h2, show Nat.beq c l = false by rw [← Bool.not_eq_true]; intro e; have := Nat.eq_of_beq_eq_true e; omega]; rfl
theorem EPrim.slcU {es r o n l h : Nat} {lo hi : Option AO} (hx : ev x t = .some (.sl r o n none)) (hlo : optNat t lo 0 = .n l) (hhi : optNat t hi n = .n h) (h1 : l ≤ h) (h2 : h ≤ n) (h3 : l < n) (hk : k (.sl r (o + l * es) (h - l) none) s) : EPrim (.slc es x lo hi none) t s k := by
  refine EPrim.mk (fun e rec => ?_) hk
  show wth x t _ = _; unfold wth; rw [hx]
  show (NR.rec .fail _ (optNat t lo 0) : RV) = _; rw [hlo]
  show (NR.rec .fail _ (optNat t hi n) : RV) = _; rw [hhi]
  show gd (Nat.ble l h && Nat.ble h n) (Bool.rec (.ok .es s) (.ok (.sl r (o + l * es) (h - l) none) s) (Nat.blt l n)) = _
  rw [Nat.ble_eq_true_of_le h1, Nat.ble_eq_true_of_le h2, show Nat.blt l n = true by simpa using h3]; rfl
theorem EPrim.capK {r o n c : Nat} (hx : ev x t = .some (.sl r o n (some c))) (hk : k (.int .i64 (Int.ofNat c)) s) : EPrim (.capo x) t s k := by
  refine EPrim.mk (v := .int .i64 (Int.ofNat c)) (s' := s) (fun e rec => ?_) hk
  show wth x t _ = _; unfold wth; rw [hx]; rfl
theorem EPrim.copyP {es r o n r' o' n' : Nat} {c c' : Option Nat} {cs : List AV} {s' : St} (hx : ev x t = .some (.sl r o n c)) (hy : ev y t = .some (.sl r' o' n' c')) (hl : load r' o' (Nat.min n' n * es) s = some cs) (hst : storeAt r o cs s = some s') (hk : k (.int .i64 (Int.ofNat (Nat.min n' n))) s') : EPrim (.copy es x y) t s k := by
  refine EPrim.mk (v := .int .i64 (Int.ofNat (Nat.min n' n))) (s' := s') (fun e rec => ?_) hk
  show wth x t _ = _; unfold wth; rw [hx]
  show wth y t _ = _; unfold wth; rw [hy]
  show (Option.rec .fail (fun cs => retS (intN (Nat.min n' n)) (storeAt r o cs s)) (load r' o' (Nat.mul (Nat.min n' n) es) s) : RV) = _
  rw [show load r' o' (Nat.mul (Nat.min n' n) es) s = some cs from hl]
  show retS _ (storeAt r o cs s) = _; rw [hst]; rfl
theorem EPrim.app0K {el es r o n c m : Nat} {q : IntKind} {z old : List AV} (hx : ev x t = .some (.sl r o n (some c))) (hy : ev y t = .some (.int q (Int.ofNat m))) (hl : load r o (n * es) s = some old) (h1 : c < n + m) (h2 : 0 < m) (h3 : n + m ≤ 1000000) (hk : k (.sl s.next 0 (n + m) none) (s.alloc (.row el (old ++ repL z m)))) : EPrim (.app0 el es z x y) t s k := by
  refine EPrim.mk (v := .sl s.next 0 (n + m) none) (s' := s.alloc (.row el (old ++ repL z m))) (fun e rec => ?_) hk
  show wth x t _ = _; unfold wth; rw [hx]
  show wth y t _ = _; unfold wth; rw [hy]
  show (Option.rec .fail _ (load r o (Nat.mul n es) s) : RV) = _
  rw [show load r o (Nat.mul n es) s = some old from hl]
  show (Bool.rec (gd (Nat.blt 0 m) (appNew el (n + m) (appL old (rep z m)) s)) .fail (Nat.ble (n + m) c) : RV) = _
  rw [show Nat.ble (n + m) c = false by rw [← Bool.not_eq_true]; intro e; have := Nat.le_of_ble_eq_true e; omega]
  show gd (Nat.blt 0 m) (gd (Nat.ble (n + m) 1000000) _) = _
  rw [show Nat.blt 0 m = true by simpa using h2, Nat.ble_eq_true_of_le h3, appL_eq, rep_eq]; rfl
theorem EPrim.addN {a b : Nat} (hx : ev x t = .some (.int .i64 (Int.ofNat a))) (hy : ev y t = .some (.int .i64 (Int.ofNat b))) (h : a + b < 9223372036854775807) (hk : k (.int .i64 (Int.ofNat (a + b))) s) : EPrim (.bin .add x y) t s k :=
  EPrim.addS hx hy (by have e1 : Int.ofNat a = (a : Int) := rfl; have e2 : Int.ofNat b = (b : Int) := rfl; omega) hk
theorem EPrim.subN {a b : Nat} (hx : ev x t = .some (.int .i64 (Int.ofNat a))) (hy : ev y t = .some (.int .i64 (Int.ofNat b))) (h : b ≤ a) (h' : a < 9223372036854775807) (hk : k (.int .i64 (Int.ofNat (a - b))) s) : EPrim (.bin .sub x y) t s k :=
  EPrim.subS hx hy (by have e1 : Int.ofNat a = (a : Int) := rfl; have e2 : Int.ofNat b = (b : Int) := rfl; omega) (by rw [show Int.ofNat a - Int.ofNat b = Int.ofNat (a - b) by have e1 : Int.ofNat a = (a : Int) := rfl; have e2 : Int.ofNat b = (b : Int) := rfl; have e3 : Int.ofNat (a - b) = ((a - b : Nat) : Int) := rfl; omega]; exact hk)
theorem EPrim.eqlN {q : IntKind} {a b : Nat} (hx : ev x t = .some (.int q (Int.ofNat a))) (hy : ev y t = .some (.int q (Int.ofNat b))) (h1 : a = b → k (.bool true) s) (h2 : a ≠ b → k (.bool false) s) : EPrim (.bin .eql x y) t s k :=
  EPrim.eql2 hx hy (fun h => h1 (by injection h)) (fun h => h2 (fun e => h (by rw [e])))
theorem EPrim.gtrN {q : IntKind} {a b : Nat} (hx : ev x t = .some (.int q (Int.ofNat a))) (hy : ev y t = .some (.int q (Int.ofNat b))) (h1 : b < a → k (.bool true) s) (h2 : a ≤ b → k (.bool false) s) : EPrim (.bin .gtr x y) t s k :=
  EPrim.gtr2 hx hy (fun h => h1 (by have e1 : Int.ofNat a = (a : Int) := rfl; have e2 : Int.ofNat b = (b : Int) := rfl; omega)) (fun h => h2 (by have e1 : Int.ofNat a = (a : Int) := rfl; have e2 : Int.ofNat b = (b : Int) := rfl; omega))
end
section
variable {P : Program} {γ γ0 : Gam} {s s0 S : St} {w w0 : World}
/-- a state that tells less by the same names -/
theorem Sim.same (h : Sim P γ s w) (hn : S.next = s.next) (hg : ∀ k o, S.get k = some o → (o = .dead ∧ k < s.next) ∨ s.get k = some o) : Sim P γ S w := by
  have hd : ∀ k o, S.get k = some o → alive o = true → s.get k = some o := fun k o hk ha => by
    rcases hg k o hk with ⟨rfl, _⟩ | e
    · cases ha
    · exact e
  refine ⟨fun k o L hk hL => ?_, fun k k' o o' L L' hk hk' ha ha' hL hL' hne => h.inj k k' o o' L L' (hd k o hk ha) (hd k' o' hk' ha') ha ha' hL hL' hne, h.lt, fun r hr => h.nx r (by omega), fun k o hk => ?_, h.fzc, fun k o L hk ha hL => h.fzr k o L (hd k o hk ha) ha hL⟩
  · rcases hg k o hk with ⟨rfl, _⟩ | e
    · trivial
    · exact h.obj k o L e hL
  · rcases hg k o hk with ⟨rfl, e⟩ | e
    · omega
    · have := h.dom k o e; omega
theorem Stp.same (h : Stp γ0 s0 w0 γ s w) (hn : S.next = s.next) (hk : ∀ r, γ0 r = none → r < s0.next → S.get r = s0.get r) : Stp γ0 s0 w0 γ S w :=
  ⟨h.le, h.new, by rw [hn]; exact h.next, h.size, h.os, h.tape, h.output, h.blk, hk, h.fzn⟩
end
end Go.AM
