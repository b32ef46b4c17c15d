/-
  THE ABSTRACT MACHINE: rules of single operations. Plain lemmas.
-/
import Derived.Test.YtnnbibnobmegpaaAMEval
set_option linter.unusedVariables false
set_option linter.unusedSimpArgs false
namespace Go.AM
section
variable {t : AT} {s : St} {k : AV → St → Prop} {x y : AO}
theorem eqK_self (q : IntKind) : eqK q q = true := by cases q <;> rfl
theorem cmp_run {f : Int → Int → Bool} {q : IntKind} {a b : Int} : cmp f (.int q a) (.int q b) = .some (.bool (f a b)) := by
  show (Bool.rec .none (.some (.bool (f a b))) (eqK q q) : OV) = _; rw [eqK_self]
theorem ar_run {f : IntKind → Int → Int → Int} {q : IntKind} {a b : Int} : ar f (.int q a) (.int q b) = .some (.int q (f q a b)) := by
  show (Bool.rec .none (.some (.int q (f q a b))) (eqK q q) : OV) = _; rw [eqK_self]
theorem bin_of {op : BinOp} {a b v : AV} (hx : ev x t = .some a) (hy : ev y t = .some b) (h : binA op a b = .some v) (hk : k v s) : EPrim (.bin op x y) t s k := by
  refine EPrim.mk (fun e rec => ?_) hk
  show wth x t _ = _; unfold wth; rw [hx]
  show wth y t _ = _; unfold wth; rw [hy]
  show ret _ s = _; rw [h]; rfl
theorem EPrim.lss {q : IntKind} {a b : Int} (hx : ev x t = .some (.int q a)) (hy : ev y t = .some (.int q b)) (hk : ∀ c : Bool, (c = true ↔ a < b) → k (.bool c) s) : EPrim (.bin .lss x y) t s k :=
  bin_of hx hy cmp_run (hk _ (by rw [ltI_eq]; simp))
theorem EPrim.leq {q : IntKind} {a b : Int} (hx : ev x t = .some (.int q a)) (hy : ev y t = .some (.int q b)) (hk : ∀ c : Bool, (c = true ↔ a ≤ b) → k (.bool c) s) : EPrim (.bin .leq x y) t s k :=
  bin_of hx hy (cmp_run (f := fun a b => !ltI b a)) (hk _ (by rw [ltI_eq]; simp))
theorem EPrim.gtr {q : IntKind} {a b : Int} (hx : ev x t = .some (.int q a)) (hy : ev y t = .some (.int q b)) (hk : ∀ c : Bool, (c = true ↔ b < a) → k (.bool c) s) : EPrim (.bin .gtr x y) t s k :=
  bin_of hx hy (cmp_run (f := fun a b => ltI b a)) (hk _ (by rw [ltI_eq]; simp))
theorem EPrim.geq {q : IntKind} {a b : Int} (hx : ev x t = .some (.int q a)) (hy : ev y t = .some (.int q b)) (hk : ∀ c : Bool, (c = true ↔ b ≤ a) → k (.bool c) s) : EPrim (.bin .geq x y) t s k :=
  bin_of hx hy (cmp_run (f := fun a b => !ltI a b)) (hk _ (by rw [ltI_eq]; simp))
theorem EPrim.eql {q : IntKind} {a b : Int} (hx : ev x t = .some (.int q a)) (hy : ev y t = .some (.int q b)) (hk : ∀ c : Bool, (c = true ↔ a = b) → k (.bool c) s) : EPrim (.bin .eql x y) t s k :=
  bin_of hx hy (by show orE (cmp eqI _ _) _ = _; rw [cmp_run]; rfl) (hk _ (by rw [eqI_eq]; simp))
theorem EPrim.neq {q : IntKind} {a b : Int} (hx : ev x t = .some (.int q a)) (hy : ev y t = .some (.int q b)) (hk : ∀ c : Bool, (c = true ↔ a ≠ b) → k (.bool c) s) : EPrim (.bin .neq x y) t s k :=
  bin_of hx hy (by show orE (cmp (fun a b => !eqI a b) _ _) _ = _; rw [cmp_run]; rfl) (hk _ (by rw [eqI_eq]; simp))
theorem EPrim.lss2 {q : IntKind} {a b : Int} (hx : ev x t = .some (.int q a)) (hy : ev y t = .some (.int q b)) (h1 : a < b → k (.bool true) s) (h2 : b ≤ a → k (.bool false) s) : EPrim (.bin .lss x y) t s k :=
  EPrim.lss hx hy fun c hc => by cases c with | true => exact h1 (hc.1 rfl) | false => exact h2 (by simp at hc; omega)
theorem EPrim.leq2 {q : IntKind} {a b : Int} (hx : ev x t = .some (.int q a)) (hy : ev y t = .some (.int q b)) (h1 : a ≤ b → k (.bool true) s) (h2 : b < a → k (.bool false) s) : EPrim (.bin .leq x y) t s k :=
  EPrim.leq hx hy fun c hc => by cases c with | true => exact h1 (hc.1 rfl) | false => exact h2 (by simp at hc; omega)
theorem EPrim.gtr2 {q : IntKind} {a b : Int} (hx : ev x t = .some (.int q a)) (hy : ev y t = .some (.int q b)) (h1 : b < a → k (.bool true) s) (h2 : a ≤ b → k (.bool false) s) : EPrim (.bin .gtr x y) t s k :=
  EPrim.gtr hx hy fun c hc => by cases c with | true => exact h1 (hc.1 rfl) | false => exact h2 (by simp at hc; omega)
theorem EPrim.geq2 {q : IntKind} {a b : Int} (hx : ev x t = .some (.int q a)) (hy : ev y t = .some (.int q b)) (h1 : b ≤ a → k (.bool true) s) (h2 : a < b → k (.bool false) s) : EPrim (.bin .geq x y) t s k :=
  EPrim.geq hx hy fun c hc => by cases c with | true => exact h1 (hc.1 rfl) | false => exact h2 (by simp at hc; omega)
theorem EPrim.eql2 {q : IntKind} {a b : Int} (hx : ev x t = .some (.int q a)) (hy : ev y t = .some (.int q b)) (h1 : a = b → k (.bool true) s) (h2 : a ≠ b → k (.bool false) s) : EPrim (.bin .eql x y) t s k :=
  EPrim.eql hx hy fun c hc => by cases c with | true => exact h1 (hc.1 rfl) | false => exact h2 (by simpa using hc)
theorem EPrim.neq2 {q : IntKind} {a b : Int} (hx : ev x t = .some (.int q a)) (hy : ev y t = .some (.int q b)) (h1 : a ≠ b → k (.bool true) s) (h2 : a = b → k (.bool false) s) : EPrim (.bin .neq x y) t s k :=
  EPrim.neq hx hy fun c hc => by cases c with | true => exact h1 (hc.1 rfl) | false => exact h2 (by simpa using hc)
theorem EPrim.add {q : IntKind} {a b : Int} (hx : ev x t = .some (.int q a)) (hy : ev y t = .some (.int q b)) (hk : k (.int q (q.wrap (a + b))) s) : EPrim (.bin .add x y) t s k :=
  bin_of hx hy (by show orE (ar _ _ _) _ = _; rw [ar_run]; rfl) (by rw [wrapQ_eq, addI_eq]; exact hk)
theorem EPrim.sub {q : IntKind} {a b : Int} (hx : ev x t = .some (.int q a)) (hy : ev y t = .some (.int q b)) (hk : k (.int q (q.wrap (a - b))) s) : EPrim (.bin .sub x y) t s k :=
  bin_of hx hy (ar_run (f := fun k a b => wrapQ k (subI a b))) (by rw [wrapQ_eq, subI_eq]; exact hk)
theorem EPrim.mul {q : IntKind} {a b : Int} (hx : ev x t = .some (.int q a)) (hy : ev y t = .some (.int q b)) (hk : k (.int q (q.wrap (a * b))) s) : EPrim (.bin .mul x y) t s k :=
  bin_of hx hy (ar_run (f := fun k a b => wrapQ k (mulI a b))) (by rw [wrapQ_eq, mulI_eq]; exact hk)
theorem i64_in {n : Int} (h : -9223372036854775808 ≤ n ∧ n ≤ 9223372036854775807) : IntKind.i64.wrap n = n := IntWalk.i64_in n h
theorem EPrim.addS {a b : Int} (hx : ev x t = .some (.int .i64 a)) (hy : ev y t = .some (.int .i64 b)) (h : -9223372036854775808 ≤ a + b ∧ a + b ≤ 9223372036854775807) (hk : k (.int .i64 (a + b)) s) : EPrim (.bin .add x y) t s k :=
  EPrim.add hx hy (by rw [i64_in h]; exact hk)
theorem EPrim.subS {a b : Int} (hx : ev x t = .some (.int .i64 a)) (hy : ev y t = .some (.int .i64 b)) (h : -9223372036854775808 ≤ a - b ∧ a - b ≤ 9223372036854775807) (hk : k (.int .i64 (a - b)) s) : EPrim (.bin .sub x y) t s k :=
  EPrim.sub hx hy (by rw [i64_in h]; exact hk)
theorem EPrim.mulS {a b : Int} (hx : ev x t = .some (.int .i64 a)) (hy : ev y t = .some (.int .i64 b)) (h : -9223372036854775808 ≤ a * b ∧ a * b ≤ 9223372036854775807) (hk : k (.int .i64 (a * b)) s) : EPrim (.bin .mul x y) t s k :=
  EPrim.mul hx hy (by rw [i64_in h]; exact hk)
theorem EPrim.rem {q : IntKind} {a b : Int} (hx : ev x t = .some (.int q a)) (hy : ev y t = .some (.int q b)) (h : b ≠ 0) (hk : k (.int q (a.tmod b)) s) : EPrim (.bin .rem x y) t s k := by
  refine bin_of hx hy (v := .int q (a.tmod b)) ?_ hk
  show (Bool.rec .none (Bool.rec (.some (.int q (tmodQ a b))) .none (eqI b 0)) (eqK q q) : OV) = _
  rw [eqK_self, eqI_eq, show (b == 0) = false by simpa using h, tmodQ_eq]
theorem EPrim.remN {q : IntKind} {a b : Int} (hx : ev x t = .some (.int q a)) (hy : ev y t = .some (.int q b)) (h : 0 ≤ a ∧ 0 < b) (hk : k (.int q (a % b)) s) : EPrim (.bin .rem x y) t s k :=
  EPrim.rem hx hy (by omega) (by rw [Int.tmod_eq_emod_of_nonneg h.1]; exact hk)
theorem EPrim.not {a : Bool} (hx : ev x t = .some (.bool a)) (hk : ∀ c : Bool, (c = true ↔ a = false) → k (.bool c) s) : EPrim (.un .not x) t s k := by
  refine EPrim.mk (v := .bool (!a)) (s' := s) (fun e rec => ?_) (hk _ (by cases a <;> simp))
  show wth x t _ = _; unfold wth; rw [hx]; cases a <;> rfl
theorem EPrim.notT (hx : ev x t = .some (.bool true)) (hk : k (.bool false) s) : EPrim (.un .not x) t s k := by
  refine EPrim.mk (v := .bool false) (s' := s) (fun e rec => ?_) hk
  show wth x t _ = _; unfold wth; rw [hx]; rfl
theorem EPrim.notF (hx : ev x t = .some (.bool false)) (hk : k (.bool true) s) : EPrim (.un .not x) t s k := by
  refine EPrim.mk (v := .bool true) (s' := s) (fun e rec => ?_) hk
  show wth x t _ = _; unfold wth; rw [hx]; rfl
theorem EPrim.max2 {q : IntKind} {a b : Int} {l : List AO} (hx : evs t l = some [.int q a, .int q b]) (hk : k (.int q (max a b)) s) : EPrim (.mn true l) t s k := by
  refine EPrim.mk (v := .int q (max a b)) (s' := s) (fun e rec => ?_) hk
  show (Option.rec .fail (fun l => List.rec .fail (fun x l _ => ret (mm true l x) s) l) (evs t l) : RV) = _
  rw [hx]
  show ret (Bool.rec .none (.some (.int q (Bool.rec a b (ltI a b)))) (eqK q q) : OV) s = _
  rw [eqK_self, ltI_eq]
  by_cases h : a < b
  · rw [decide_eq_true h, show max a b = b by omega]; rfl
  · rw [decide_eq_false h, show max a b = a by omega]; rfl
theorem EPrim.min2 {q : IntKind} {a b : Int} {l : List AO} (hx : evs t l = some [.int q a, .int q b]) (hk : k (.int q (min a b)) s) : EPrim (.mn false l) t s k := by
  refine EPrim.mk (v := .int q (min a b)) (s' := s) (fun e rec => ?_) hk
  show (Option.rec .fail (fun l => List.rec .fail (fun x l _ => ret (mm false l x) s) l) (evs t l) : RV) = _
  rw [hx]
  show ret (Bool.rec .none (.some (.int q (Bool.rec a b (ltI b a)))) (eqK q q) : OV) s = _
  rw [eqK_self, ltI_eq]
  by_cases h : b < a
  · rw [decide_eq_true h, show min a b = b by omega]; rfl
  · rw [decide_eq_false h, show min a b = a by omega]; rfl
end
end Go.AM
