/-
  THE ABSTRACT MACHINE: lists, destructors, reading and writing rows. Plain lemmas.
-/
import Derived.Test.YtnnbibnobmegpaaAMRel
set_option linter.unusedVariables false
set_option linter.unusedSimpArgs false
namespace Go.AM

theorem lenL_eq {α : Type} (l : List α) : lenL l = l.length := by
  induction l with
  | nil => rfl
  | cons x l ih => show Nat.succ (lenL l) = _; rw [ih]; rfl
theorem getL_eq {α : Type} (l : List α) : ∀ i, getL l i = l[i]? := by
  induction l with
  | nil => intro i; rfl
  | cons x l ih => intro i; cases i with
    | zero => rfl
    | succ i => show getL l i = _; rw [ih]; simp
theorem dropL_eq {α : Type} (n : Nat) : ∀ l : List α, dropL n l = l.drop n := by
  induction n with
  | zero => intro l; rfl
  | succ n ih => intro l; cases l with
    | nil => rfl
    | cons x l => show dropL n l = _; rw [ih]; rfl
theorem takeL_some {α : Type} (n : Nat) : ∀ {l r : List α}, takeL n l = some r → r = l.take n ∧ n ≤ l.length := by
  induction n with
  | zero => intro l r h; cases h; exact ⟨rfl, Nat.zero_le _⟩
  | succ n ih => intro l r h; cases l with
    | nil => cases h
    | cons x l =>
      change (Option.rec none (fun r => some (x :: r)) (takeL n l) : Option (List α)) = some r at h
      cases ht : takeL n l with
      | none => rw [ht] at h; cases h
      | some q => rw [ht] at h; cases h; obtain ⟨e, hl⟩ := ih ht; exact ⟨by rw [e]; rfl, by simp; omega⟩
theorem appL_eq {α : Type} (a b : List α) : appL a b = a ++ b := by
  induction a with
  | nil => rfl
  | cons x a ih => show x :: appL a b = _; rw [ih]; rfl
theorem updH_some (vs : List AV) : ∀ {l r : List AV}, updH vs l = some r → r = vs ++ l.drop vs.length ∧ vs.length ≤ l.length := by
  induction vs with
  | nil => intro l r h; cases h; exact ⟨rfl, Nat.zero_le _⟩
  | cons v vs ih => intro l r h; cases l with
    | nil => cases h
    | cons x l =>
      change (Option.rec none (fun r => some (v :: r)) (updH vs l) : Option (List AV)) = some r at h
      cases ht : updH vs l with
      | none => rw [ht] at h; cases h
      | some q => rw [ht] at h; cases h; obtain ⟨e, hl⟩ := ih ht; exact ⟨by rw [e]; simp, by simp; omega⟩
theorem upd_some (vs : List AV) (o : Nat) : ∀ {l r : List AV}, upd vs o l = some r → r = l.take o ++ vs ++ l.drop (o + vs.length) ∧ o + vs.length ≤ l.length := by
  induction o with
  | zero => intro l r h; obtain ⟨e, hl⟩ := updH_some vs h; exact ⟨by simpa using e, by omega⟩
  | succ o ih => intro l r h; cases l with
    | nil => cases h
    | cons x l =>
      change (Option.rec none (fun r => some (x :: r)) (upd vs o l) : Option (List AV)) = some r at h
      cases ht : upd vs o l with
      | none => rw [ht] at h; cases h
      | some q =>
        rw [ht] at h; cases h; obtain ⟨e, hl⟩ := ih ht
        exact ⟨by rw [e, show o + 1 + vs.length = (o + vs.length) + 1 by omega]; simp, by simp; omega⟩
theorem rep_eq (z : List AV) (n : Nat) : rep z n = repL z n := by
  induction n with
  | zero => rfl
  | succ n ih => show appL z (rep z n) = _; rw [appL_eq, ih]; rfl

/-! ### destructors -/
theorem asPtr_eq {v : AV} {r o : Nat} (h : asPtr v = .ptr r o) : v = .ptr r o := by
  cases v <;> first | (cases h; rfl) | cases h
theorem asPtr_fp {v : AV} {l : List AV} (h : asPtr v = .fp l) : v = .fp l := by
  cases v <;> first | (cases h; rfl) | cases h
theorem asSl_fz {v : AV} {n : Nat} {c : Option Nat} {l : List AV} (h : asSl v = .fz n c l) : v = .fz n c l := by
  cases v <;> first | (cases h; rfl) | cases h
theorem asIf_x {v u : AV} {t : Nat} (h : asIf v = .x t u) : v = .iface t u := by
  cases v <;> first | (cases h; rfl) | cases h
theorem asInt_eq {v : AV} {k : IntKind} {n : Int} (h : asInt v = .int k n) : v = .int k n := by
  cases v <;> first | (cases h; rfl) | cases h
theorem asAgg_eq {v : AV} {l : List AV} (h : asAgg v = .l l) : v = .agg l := by
  cases v <;> first | (cases h; rfl) | cases h
theorem asTup_eq {v : AV} {l : List AV} (h : asTup v = .l l) : v = .tup l := by
  cases v <;> first | (cases h; rfl) | cases h
theorem asStr_eq {v : AV} {l : List Nat} (h : asStr v = .s l) : v = .str l := by
  cases v <;> first | (cases h; rfl) | cases h
theorem asSl_sl {v : AV} {r o n : Nat} {c : Option Nat} (h : asSl v = .sl r o n c) : v = .sl r o n c := by
  cases v <;> first | (cases h; rfl) | cases h
theorem asSl_nils {v : AV} (h : asSl v = .nils) : v = .nils := by
  cases v <;> first | rfl | cases h
theorem asSl_es {v : AV} (h : asSl v = .es) : v = .es := by
  cases v <;> first | rfl | cases h
theorem asMap_m {v : AV} {r : Nat} (h : asMap v = .m r) : v = .map r := by
  cases v <;> first | (cases h; rfl) | cases h
theorem asMap_nil {v : AV} (h : asMap v = .nil) : v = .nilm := by
  cases v <;> first | rfl | cases h
theorem asNat_eq {v : AV} {n : Nat} (h : asNat v = .n n) : ∃ k, v = .int k (.ofNat n) := by
  cases v with
  | int k i => cases i with
    | ofNat m => cases h; exact ⟨k, rfl⟩
    | negSucc m => cases h
  | _ => cases h
theorem asBool_tt {v : AV} (h : asBool v = .tt) : v = .bool true := by
  cases v with
  | bool b => cases b with
    | true => rfl
    | false => cases h
  | _ => cases h
theorem asBool_ff {v : AV} (h : asBool v = .ff) : v = .bool false := by
  cases v with
  | bool b => cases b with
    | false => rfl
    | true => cases h
  | _ => cases h
theorem asFn_fn {v : AV} {f : Nat} {a b : List AV} (h : asFn v = .fn f a b) : v = .fn f a b := by
  cases v <;> first | (cases h; rfl) | cases h
theorem asFn_yld {v : AV} {l : Nat} (h : asFn v = .yld l) : v = .yld l := by
  cases v <;> first | (cases h; rfl) | cases h

/-! ### what a result that is no failure tells -/
theorem wth_ok {x : AO} {t : AT} {k : AV → RV} {v : AV} {s : St} (h : wth x t k = .ok v s) : ∃ a, ev x t = .some a ∧ k a = .ok v s := by
  unfold wth at h
  cases hx : ev x t with
  | none => rw [hx] at h; cases h
  | some a => rw [hx] at h; exact ⟨a, rfl, h⟩
theorem ptr_ok {a : AV} {k : Nat → Nat → RV} {v : AV} {s : St} (h : (PR.rec .fail k (fun _ => .fail) (asPtr a) : RV) = .ok v s) : ∃ r o, a = .ptr r o ∧ k r o = .ok v s := by
  cases hx : asPtr a with
  | no => rw [hx] at h; cases h
  | ptr r o => rw [hx] at h; exact ⟨r, o, asPtr_eq hx, h⟩
  | fp l => rw [hx] at h; cases h
theorem ptr_ok2 {a : AV} {k : Nat → Nat → RV} {kf : List AV → RV} {v : AV} {s : St} (h : (PR.rec .fail k kf (asPtr a) : RV) = .ok v s) : (∃ r o, a = .ptr r o ∧ k r o = .ok v s) ∨ ∃ l, a = .fp l ∧ kf l = .ok v s := by
  cases hx : asPtr a with
  | no => rw [hx] at h; cases h
  | ptr r o => rw [hx] at h; exact .inl ⟨r, o, asPtr_eq hx, h⟩
  | fp l => rw [hx] at h; exact .inr ⟨l, asPtr_fp hx, h⟩
theorem int_ok {a : AV} {k : IntKind → Int → RV} {v : AV} {s : St} (h : (IR.rec .fail k (asInt a) : RV) = .ok v s) : ∃ r o, a = .int r o ∧ k r o = .ok v s := by
  cases hx : asInt a with
  | no => rw [hx] at h; cases h
  | int r o => rw [hx] at h; exact ⟨r, o, asInt_eq hx, h⟩
theorem agg_ok {a : AV} {k : List AV → RV} {v : AV} {s : St} (h : (LR.rec .fail k (asAgg a) : RV) = .ok v s) : ∃ l, a = .agg l ∧ k l = .ok v s := by
  cases hx : asAgg a with
  | no => rw [hx] at h; cases h
  | l l => rw [hx] at h; exact ⟨l, asAgg_eq hx, h⟩
theorem tup_ok {a : AV} {k : List AV → RV} {v : AV} {s : St} (h : (LR.rec .fail k (asTup a) : RV) = .ok v s) : ∃ l, a = .tup l ∧ k l = .ok v s := by
  cases hx : asTup a with
  | no => rw [hx] at h; cases h
  | l l => rw [hx] at h; exact ⟨l, asTup_eq hx, h⟩
theorem sl_ok {a : AV} {k : Nat → Nat → Nat → Option Nat → RV} {x y : RV} {v : AV} {s : St} (h : (SR.rec .fail k x y (fun _ _ _ => .fail) (asSl a) : RV) = .ok v s) :
    (∃ r o n c, a = .sl r o n c ∧ k r o n c = .ok v s) ∨ (a = .nils ∧ x = .ok v s) ∨ (a = .es ∧ y = .ok v s) := by
  cases hx : asSl a with
  | no => rw [hx] at h; cases h
  | sl r o n c => rw [hx] at h; exact .inl ⟨r, o, n, c, asSl_sl hx, h⟩
  | nils => rw [hx] at h; exact .inr (.inl ⟨asSl_nils hx, h⟩)
  | es => rw [hx] at h; exact .inr (.inr ⟨asSl_es hx, h⟩)
  | fz n c l => rw [hx] at h; cases h
theorem sl_ok2 {a : AV} {k : Nat → Nat → Nat → Option Nat → RV} {x y : RV} {kf : Nat → Option Nat → List AV → RV} {v : AV} {s : St} (h : (SR.rec .fail k x y kf (asSl a) : RV) = .ok v s) :
    (∃ r o n c, a = .sl r o n c ∧ k r o n c = .ok v s) ∨ (a = .nils ∧ x = .ok v s) ∨ (a = .es ∧ y = .ok v s) ∨ ∃ n c l, a = .fz n c l ∧ kf n c l = .ok v s := by
  cases hx : asSl a with
  | no => rw [hx] at h; cases h
  | sl r o n c => rw [hx] at h; exact .inl ⟨r, o, n, c, asSl_sl hx, h⟩
  | nils => rw [hx] at h; exact .inr (.inl ⟨asSl_nils hx, h⟩)
  | es => rw [hx] at h; exact .inr (.inr (.inl ⟨asSl_es hx, h⟩))
  | fz n c l => rw [hx] at h; exact .inr (.inr (.inr ⟨n, c, l, asSl_fz hx, h⟩))
theorem map_ok {a : AV} {k : Nat → RV} {x : RV} {v : AV} {s : St} (h : (MR.rec .fail k x (asMap a) : RV) = .ok v s) : (∃ r, a = .map r ∧ k r = .ok v s) ∨ (a = .nilm ∧ x = .ok v s) := by
  cases hx : asMap a with
  | no => rw [hx] at h; cases h
  | m r => rw [hx] at h; exact .inl ⟨r, asMap_m hx, h⟩
  | nil => rw [hx] at h; exact .inr ⟨asMap_nil hx, h⟩
theorem nat_ok {a : NR} {k : Nat → RV} {v : AV} {s : St} (h : (NR.rec .fail k a : RV) = .ok v s) : ∃ n, a = .n n ∧ k n = .ok v s := by
  cases a with
  | no => cases h
  | n n => exact ⟨n, rfl, h⟩
theorem opt_ok {α : Type} {a : Option α} {k : α → RV} {v : AV} {s : St} (h : (Option.rec .fail k a : RV) = .ok v s) : ∃ x, a = some x ∧ k x = .ok v s := by
  cases a with
  | none => cases h
  | some x => exact ⟨x, rfl, h⟩
theorem gd_ok {b : Bool} {r : RV} {v : AV} {s : St} (h : gd b r = .ok v s) : b = true ∧ r = .ok v s := by
  cases b with
  | false => cases h
  | true => exact ⟨rfl, h⟩
theorem ret_ok {x : OV} {s' : St} {v : AV} {s : St} (h : ret x s' = .ok v s) : x = .some v ∧ s' = s := by
  cases x with
  | none => cases h
  | some a => cases h; exact ⟨rfl, rfl⟩
theorem retO_ok {x : Option AV} {s' : St} {v : AV} {s : St} (h : retO x s' = .ok v s) : x = some v ∧ s' = s := by
  cases x with
  | none => cases h
  | some a => cases h; exact ⟨rfl, rfl⟩
theorem retS_ok {x : Option St} {u v : AV} {s : St} (h : retS u x = .ok v s) : x = some s ∧ u = v := by
  cases x with
  | none => cases h
  | some a => cases h; exact ⟨rfl, rfl⟩
theorem natO_n {x : OV} {n : Nat} (h : natO x = .n n) : ∃ k, x = .some (.int k (.ofNat n)) := by
  cases x with
  | none => cases h
  | some v => obtain ⟨k, rfl⟩ := asNat_eq h; exact ⟨k, rfl⟩

/-! ### rows -/
section
variable {P : Program} {γ : Gam} {s : St} {w : World}

theorem rowAt_some {r e : Nat} {cs : List AV} (h : rowAt r s = .row e cs) : s.get r = some (.row e cs) := by
  unfold rowAt at h
  cases hg : s.get r with
  | none => rw [hg] at h; cases h
  | some o => rw [hg] at h; cases o <;> first | (cases h; rfl) | cases h

theorem Sim.row (h : Sim P γ s w) {r e : Nat} {cs : List AV} {L : Loc} (hr : s.get r = some (.row e cs)) (hL : γ r = some L) :
    ∃ c : Array Value, w.heap[L.b]? = some (.cells c e (0, 0)) ∧ L.o = 0 ∧ c.size = L.sz ∧ szOf P e = some L.es ∧ cs.length ≤ c.size ∧
      ∀ (i : Nat) v, cs[i]? = some v → ∃ v', c[i]? = some v' ∧ VR γ v v' ∧ v'.oneCell' = true := by
  obtain ⟨c, h1, h2, h3, h4, h5, h6, h7⟩ := h.obj r _ L hr hL
  exact ⟨c, h1, h2, h3, h4, h5, h6⟩
theorem Sim.rowA (h : Sim P γ s w) {r e : Nat} {cs : List AV} {L : Loc} (hr : s.get r = some (.row e cs)) (hL : γ r = some L) :
    ∃ c : Array Value, w.heap[L.b]? = some (.cells c e (0, 0)) ∧ L.o = 0 ∧ c.size = L.sz ∧ szOf P e = some L.es ∧ cs.length ≤ c.size ∧
      (∀ (i : Nat) v, cs[i]? = some v → ∃ v', c[i]? = some v' ∧ VR γ v v' ∧ v'.oneCell' = true) ∧ ∀ v' ∈ c.toList, v'.oneCell' = true := h.obj r _ L hr hL

theorem load1_sound (h : Sim P γ s w) {r o : Nat} {v : AV} {L : Loc} (hl : load1 r o s = some v) (hL : γ r = some L) :
    ∃ v', w.cell? ⟨L.b, L.o + o, none⟩ = some v' ∧ VR γ v v' ∧ v'.oneCell' = true := by
  unfold load1 at hl
  cases hr : rowAt r s with
  | no => rw [hr] at hl; cases hl
  | row e cs =>
    rw [hr] at hl
    change getL cs o = some v at hl
    rw [getL_eq] at hl
    obtain ⟨c, hc, ho, _, _, _, hv⟩ := h.row (rowAt_some hr) hL
    obtain ⟨v', hv', hR, h1⟩ := hv o v hl
    refine ⟨v', ?_, hR, h1⟩
    rw [ho, Nat.zero_add]
    simp [World.cell?, hc, hv']

/-- what stays is there -/
theorem fz_cell (h : Sim P γ s w) {b : Nat} {cs : Array Value} (hb : γ.fz b = some cs) {o : Nat} {u : Value} (hu : cs[o]? = some u) : w.cell? ⟨b, o, none⟩ = some u := by
  obtain ⟨e, fr, h1⟩ := h.fzc b cs hb
  simp [World.cell?, h1, hu]
theorem fzV {n : Nat} {cap : Option Nat} {l : List AV} {v' : Value} (h : VR γ (.fz n cap l) v') : ∃ b o c cs vs, v' = .slice (some ⟨b, o, none⟩) n c ∧ γ.fz b = some cs ∧ (∀ (j : Nat) (u : Value), vs[j]? = some u → cs[o + j]? = some u) ∧ (∀ u ∈ vs, u.oneCell' = true) ∧ All2 (VR γ) l vs ∧ n ≤ c ∧ (∀ k, cap = some k → c = k) ∧ hfs l = true := by
  cases h with
  | fz n cap l vs b o c cs h1 h2 h3 h4 h5 h6 h7 => exact ⟨b, o, c, cs, vs, rfl, h1, h2, h3, h4, h5, h6, h7⟩
theorem fpV {l : List AV} {v' : Value} (h : VR γ (.fp l) v') : ∃ b o cs vs, v' = .pointer (some ⟨b, o, none⟩) ∧ γ.fz b = some cs ∧ (∀ (j : Nat) (u : Value), vs[j]? = some u → cs[o + j]? = some u) ∧ (∀ u ∈ vs, u.oneCell' = true) ∧ All2 (VR γ) l vs ∧ hfs l = true := by
  cases h with
  | fp l vs b o cs h1 h2 h3 h4 h5 => exact ⟨b, o, cs, vs, rfl, h1, h2, h3, h4, h5⟩

theorem addr_add (b o j : Nat) : (⟨b, o, none⟩ : Addr).add j = ⟨b, o + j, none⟩ := by unfold Addr.add; split <;> simp_all

theorem load_sound (h : Sim P γ s w) {r o n : Nat} {cs : List AV} {L : Loc} (hl : load r o n s = some cs) (hL : γ r = some L) :
    ∃ vs : List Value, vs.length = n ∧ (∀ j u, vs[j]? = some u → w.cell? ((⟨L.b, L.o + o, none⟩ : Addr).add j) = some u) ∧ All2 (VR γ) cs vs ∧ (∀ v ∈ vs, v.oneCell' = true) := by
  unfold load at hl
  cases hr : rowAt r s with
  | no => rw [hr] at hl; cases hl
  | row e rs =>
    rw [hr] at hl
    change takeL n (dropL o rs) = some cs at hl
    obtain ⟨e1, hn⟩ := takeL_some n hl
    rw [dropL_eq] at e1 hn
    subst e1
    obtain ⟨c, hc, ho, _, _, hlen, hv⟩ := h.row (rowAt_some hr) hL
    simp at hn
    refine ⟨(c.toList.drop o).take n, ?_, ?_, ?_, ?_⟩
    · simp; omega
    · intro j u hu
      rw [addr_add, ho, Nat.zero_add]
      rw [List.getElem?_take] at hu
      split at hu
      · rw [List.getElem?_drop] at hu
        simp [World.cell?, hc]
        simpa using hu
      · cases hu
    · refine All2.of_get (by simp; omega) ?_
      intro i a b ha hb
      rw [List.getElem?_take] at ha hb
      split at ha
      · rw [if_pos ‹_›] at hb
        rw [List.getElem?_drop] at ha hb
        obtain ⟨v', hv', hR, _⟩ := hv _ _ ha
        have : c[o + i]? = some b := by simpa using hb
        rw [this] at hv'; cases hv'; exact hR
      · cases ha
    · intro v hv'
      obtain ⟨i, hi⟩ := List.getElem?_of_mem hv'
      rw [List.getElem?_take] at hi
      split at hi
      · rw [List.getElem?_drop] at hi
        have hci : c[o + i]? = some v := by simpa using hi
        obtain ⟨u, _, hu⟩ : ∃ u, rs[o + i]? = some u ∧ True := ⟨rs[o + i]'(by omega), by rw [List.getElem?_eq_getElem], trivial⟩
        obtain ⟨v', hv', _, h1⟩ := hv (o + i) (rs[o + i]'(by omega)) (List.getElem?_eq_getElem _)
        rw [hci] at hv'; cases hv'; exact h1
      · cases hi

/-- a part of what stays -/
theorem fz_take (h : Sim P γ s w) {b o k n : Nat} {cs : Array Value} {l cs' : List AV} {vs : List Value} (hb : γ.fz b = some cs) (h2 : ∀ (j : Nat) (u : Value), vs[j]? = some u → cs[o + j]? = some u) (h3 : ∀ u ∈ vs, u.oneCell' = true) (h4 : All2 (VR γ) l vs) (ht : takeL n (dropL k l) = some cs') :
    ∃ us : List Value, us.length = n ∧ (∀ (j : Nat) (u : Value), us[j]? = some u → cs[o + k + j]? = some u) ∧ All2 (VR γ) cs' us ∧ (∀ v ∈ us, v.oneCell' = true) := by
  obtain ⟨e1, hn⟩ := takeL_some n ht
  rw [dropL_eq] at e1 hn
  subst e1
  have hl := h4.length
  refine ⟨(vs.drop k).take n, ?_, ?_, (h4.drop k).take n, fun v hv => h3 v (List.mem_of_mem_drop (List.mem_of_mem_take hv))⟩
  · simp at hn ⊢; omega
  · intro j u hj
    rw [List.getElem?_take] at hj
    split at hj
    · rw [List.getElem?_drop] at hj; rw [Nat.add_assoc]; exact h2 _ _ hj
    · cases hj
theorem fz_hfs {k n : Nat} {l cs' : List AV} (h : hfs l = true) (ht : takeL n (dropL k l) = some cs') : hfs cs' = true := by
  obtain ⟨e1, _⟩ := takeL_some n ht
  rw [dropL_eq] at e1; subst e1
  exact hfs_take (hfs_drop h k) n
theorem fz_cells (h : Sim P γ s w) {b o : Nat} {cs : Array Value} {us : List Value} (hb : γ.fz b = some cs) (h2 : ∀ (j : Nat) (u : Value), us[j]? = some u → cs[o + j]? = some u) : ∀ j u, us[j]? = some u → w.cell? ((⟨b, o, none⟩ : Addr).add j) = some u := by
  intro j u hj
  rw [addr_add]
  exact fz_cell h hb (h2 j u hj)
theorem fp_drop {b o k : Nat} {cs : Array Value} {l : List AV} {vs : List Value} (hb : γ.fz b = some cs) (h2 : ∀ (j : Nat) (u : Value), vs[j]? = some u → cs[o + j]? = some u) (h3 : ∀ u ∈ vs, u.oneCell' = true) (h4 : All2 (VR γ) l vs) (h5 : hfs l = true) : VR γ (.fp (dropL k l)) (.pointer (some ⟨b, o + k, none⟩)) := by
  rw [dropL_eq]
  refine .fp _ (vs.drop k) b (o + k) cs hb (fun j u hj => ?_) (fun u hu => h3 u (List.mem_of_mem_drop hu)) (h4.drop k) (hfs_drop h5 k)
  rw [List.getElem?_drop] at hj
  rw [Nat.add_assoc]; exact h2 _ _ hj

theorem setRow_size (w : World) (g : Nat) (cs : Array Value) : (w.setRow g cs).heap.size = w.heap.size := by simp [World.setRow]

theorem store_sound (h : Sim P γ s w) {r o : Nat} {cs : List AV} {vs : List Value} {s' : St} {L : Loc} (hs : storeAt r o cs s = some s') (hL : γ r = some L) (hR : All2 (VR γ) cs vs) (h1 : ∀ v ∈ vs, v.oneCell' = true) :
    ∃ w', (storeCells ⟨L.b, L.o + o, none⟩ vs).run P w = .ok () w' ∧ Stp γ s w γ s' w' ∧ Sim P γ s' w' := by
  unfold storeAt at hs
  cases hr : rowAt r s with
  | no => rw [hr] at hs; cases hs
  | row e rs =>
    rw [hr] at hs
    change (Option.rec none (fun cs' => some (s.put r (.row e cs'))) (upd cs o rs) : Option St) = some s' at hs
    cases hu : upd cs o rs with
    | none => rw [hu] at hs; cases hs
    | some rs' =>
      rw [hu] at hs
      cases hs
      obtain ⟨e1, hn⟩ := upd_some cs o hu
      have hg := rowAt_some hr
      obtain ⟨c, hc, ho, hsz, hes, hlen, hv, hall⟩ := h.rowA hg hL
      have hl := hR.length
      have hrun := run_storeCells_at (P := P) L.b o e vs 0 c w hc (by omega) h1
      simp only [Nat.add_zero] at hrun
      refine ⟨_, by rw [ho, Nat.zero_add]; exact hrun, ?_⟩
      refine h.turn hg hL rfl (fun b hb => setRow_other w L.b b _ hb) (setRow_size _ _ _) rfl rfl rfl ?_
      refine ⟨_, setRow_heap w L.b c _ e _ hc, ho, ?_, hes, ?_, ?_, fun v' hv' => ?_⟩
      rotate_right
      · simp only [List.append_assoc, List.mem_append] at hv'
        rcases hv' with hv' | hv' | hv'
        · exact hall _ (List.mem_of_mem_take hv')
        · exact h1 _ hv'
        · exact hall _ (List.mem_of_mem_drop hv')
      · simp; omega
      · subst e1; simp; omega
      · intro i v hi
        subst e1
        by_cases hi1 : i < o
        · rw [List.append_assoc, List.getElem?_append_left (by simp; omega), List.getElem?_take, if_pos hi1] at hi
          obtain ⟨v', hv', hRv, hone⟩ := hv i v hi
          refine ⟨v', ?_, hRv, hone⟩
          rw [List.getElem?_toArray, List.append_assoc, List.getElem?_append_left (by simp; omega), List.getElem?_take, if_pos hi1]
          simpa using hv'
        · by_cases hi2 : i < o + cs.length
          · rw [List.append_assoc, List.getElem?_append_right (by simp; omega), List.getElem?_append_left (by simp; omega)] at hi
            simp only [List.length_take, Nat.min_eq_left (show o ≤ rs.length by omega)] at hi
            obtain ⟨v', hv', hRv⟩ := hR.get hi
            refine ⟨v', ?_, hRv, h1 v' (List.mem_of_getElem? hv')⟩
            rw [List.getElem?_toArray, List.append_assoc, List.getElem?_append_right (by simp; omega), List.getElem?_append_left (by simp; omega)]
            simp only [List.length_take, Array.length_toList, Nat.min_eq_left (show o ≤ c.size by omega)]
            exact hv'
          · rw [List.getElem?_append_right (by simp; omega), List.getElem?_drop] at hi
            simp only [List.length_append, List.length_take, Nat.min_eq_left (show o ≤ rs.length by omega)] at hi
            rw [show o + cs.length + (i - (o + cs.length)) = i by omega] at hi
            obtain ⟨v', hv', hRv, hone⟩ := hv i v hi
            refine ⟨v', ?_, hRv, hone⟩
            rw [List.getElem?_toArray, List.getElem?_append_right (by simp; omega), List.getElem?_drop]
            simp only [List.length_append, List.length_take, Array.length_toList, Nat.min_eq_left (show o ≤ c.size by omega)]
            rw [show o + vs.length + (i - (o + vs.length)) = i by omega]
            simpa using hv'

/-- a new row -/
theorem rowObj {e es : Nat} {cs : List AV} {vs : Array Value} (hes : szOf P e = some es) (hR : All2 (VR γ) cs vs.toList) (h1 : ∀ v ∈ vs.toList, v.oneCell' = true) {γ' : Gam} (hle : Le γ γ') :
    ObjR P γ' ⟨w.heap.size, 0, vs.size, es⟩ (.row e cs) (w.alloc (.cells vs e)).heap := by
  have hl := hR.length
  refine ⟨vs, ?_, rfl, rfl, hes, by simpa using Nat.le_of_eq hl, ?_, h1⟩
  · show (w.heap.push _)[w.heap.size]? = _; simp
  · intro i v hi
    obtain ⟨v', hv', hr⟩ := hR.get hi
    exact ⟨v', by simpa using hv', hr.mono hle, h1 v' (List.mem_of_getElem? hv')⟩
theorem newRow_sound (h : Sim P γ s w) (e : Nat) (cs : List AV) (vs : Array Value) (es : Nat) (hes : szOf P e = some es) (hR : All2 (VR γ) cs vs.toList) (h1 : ∀ v ∈ vs.toList, v.oneCell' = true) :
    Stp γ s w (ext γ s.next ⟨w.heap.size, 0, vs.size, es⟩) (s.alloc (.row e cs)) (w.alloc (.cells vs e)) ∧ Sim P (ext γ s.next ⟨w.heap.size, 0, vs.size, es⟩) (s.alloc (.row e cs)) (w.alloc (.cells vs e)) :=
  h.alloc _ _ _ _ (rowObj hes hR h1 (ext_le (h.nx _ (Nat.le_refl _))))
end
end Go.AM
