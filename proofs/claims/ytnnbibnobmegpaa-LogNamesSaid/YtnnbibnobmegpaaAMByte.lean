/-
  THE ABSTRACT MACHINE: more rules of single operations; bytes. Plain lemmas.
-/
import Derived.Test.YtnnbibnobmegpaaAMLoop
set_option linter.unusedVariables false
set_option linter.unusedSimpArgs false
namespace Go.AM
theorem stuckO {α : Type} {x : Option α} {K : α → Prop} (v : α) (h : x = some v) (hk : K v) : (Option.rec (motive := fun _ => Prop) False K x) := by rw [h]; exact hk
section
variable {t : AT} {s : St} {k : AV → St → Prop} {x y : AO}
theorem EPrim.ixaP {r o n es i : Nat} {q : IntKind} (hx : ev x t = .some (.ptr r o)) (hy : ev y t = .some (.int q (Int.ofNat i))) (h : i < n) (hk : k (.ptr r (o + i * es)) s) : EPrim (.ixa n es x y) t s k := by
  refine EPrim.mk (fun e rec => ?_) hk
  show wth x t _ = _; unfold wth; rw [hx]
  show wth y t _ = _; unfold wth; rw [hy]
  show gd (Nat.blt i n) _ = _
  rw [show Nat.blt i n = true by simpa using h]; rfl
theorem EPrim.ixsP {r o n es i : Nat} {c : Option Nat} {q : IntKind} (hx : ev x t = .some (.sl r o n c)) (hy : ev y t = .some (.int q (Int.ofNat i))) (h : i < n) (hk : k (.ptr r (o + i * es)) s) : EPrim (.ixs es x y) t s k := by
  refine EPrim.mk (fun e rec => ?_) hk
  show wth x t _ = _; unfold wth; rw [hx]
  show wth y t _ = _; unfold wth; rw [hy]
  show gd (Nat.blt i n) _ = _
  rw [show Nat.blt i n = true by simpa using h]; rfl
theorem EPrim.ixsF {n es i : Nat} {c : Option Nat} {l : List AV} {q : IntKind} (hx : ev x t = .some (.fz n c l)) (hy : ev y t = .some (.int q (Int.ofNat i))) (h : i < n) (hk : k (.fp (l.drop (i * es))) s) : EPrim (.ixs es x y) t s k := by
  rw [← dropL_eq] at hk
  refine EPrim.mk (fun e rec => ?_) hk
  show wth x t _ = _; unfold wth; rw [hx]
  show wth y t _ = _; unfold wth; rw [hy]
  show gd (Nat.blt i n) _ = _
  rw [show Nat.blt i n = true by simpa using h]; rfl
/-- a slice that stays, or none -/
def Sl (es n : Nat) (l : List AV) (v : AV) : Prop := (v = .nils ∧ n = 0 ∧ l = []) ∨ (v = .es ∧ n = 0 ∧ l = []) ∨ (∃ c, v = .fz n c l ∧ l.length = n * es)
theorem Sl.hf {es n : Nat} {l : List AV} {v : AV} (h : Sl es n l v) : hf v = true := by
  rcases h with ⟨rfl, _⟩ | ⟨rfl, _⟩ | ⟨c, rfl, _⟩ <;> rfl
theorem EPrim.lenS {es n : Nat} {l : List AV} {v : AV} (hx : ev x t = .some v) (h : Sl es n l v) (hk : k (.int .i64 (Int.ofNat n)) s) : EPrim (.len x) t s k := by
  refine EPrim.mk (v := .int .i64 (Int.ofNat n)) (s' := s) (fun e rec => ?_) hk
  show wth x t _ = _; unfold wth; rw [hx]
  rcases h with ⟨rfl, rfl, _⟩ | ⟨rfl, rfl, _⟩ | ⟨c, rfl, _⟩ <;> rfl
theorem EPrim.ixsS {es n i : Nat} {l : List AV} {v : AV} {q : IntKind} (hx : ev x t = .some v) (hs : Sl es n l v) (hy : ev y t = .some (.int q (Int.ofNat i))) (h : i < n) (hk : k (.fp (l.drop (i * es))) s) : EPrim (.ixs es x y) t s k := by
  rcases hs with ⟨rfl, rfl, _⟩ | ⟨rfl, rfl, _⟩ | ⟨c, rfl, _⟩
  · omega
  · omega
  · exact EPrim.ixsF hx hy h hk
theorem EPrim.lenP {r o n : Nat} {c : Option Nat} (hx : ev x t = .some (.sl r o n c)) (hk : k (.int .i64 (Int.ofNat n)) s) : EPrim (.len x) t s k := by
  refine EPrim.mk (v := .int .i64 (Int.ofNat n)) (s' := s) (fun e rec => ?_) hk
  show wth x t _ = _; unfold wth; rw [hx]; rfl
theorem EPrim.xor32 {a b : Nat} (hx : ev x t = .some (.int .u32 (Int.ofNat a))) (hy : ev y t = .some (.int .u32 (Int.ofNat b))) (ha : a < 4294967296) (hb : b < 4294967296) (hk : k (.int .u32 (Int.ofNat (a ^^^ b))) s) : EPrim (.bin .xor x y) t s k := by
  refine bin_of hx hy (v := .int .u32 (Int.ofNat (a ^^^ b))) ?_ hk
  show OV.some (.int .u32 (Int.ofNat (Nat.xor (a % 4294967296) (b % 4294967296)))) = _
  rw [Nat.mod_eq_of_lt ha, Nat.mod_eq_of_lt hb]; rfl
theorem EPrim.and32 {a b : Nat} (hx : ev x t = .some (.int .u32 (Int.ofNat a))) (hy : ev y t = .some (.int .u32 (Int.ofNat b))) (ha : a < 4294967296) (hb : b < 4294967296) (hk : k (.int .u32 (Int.ofNat (a &&& b))) s) : EPrim (.bin .and x y) t s k := by
  refine bin_of hx hy (v := .int .u32 (Int.ofNat (a &&& b))) ?_ hk
  show OV.some (.int .u32 (Int.ofNat (Nat.land (a % 4294967296) (b % 4294967296)))) = _
  rw [Nat.mod_eq_of_lt ha, Nat.mod_eq_of_lt hb]; rfl
theorem EPrim.cpl32 {a : Nat} (hx : ev x t = .some (.int .u32 (Int.ofNat a))) (ha : a < 4294967296) (hk : k (.int .u32 (Int.ofNat (a ^^^ 4294967295))) s) : EPrim (.un .xor x) t s k := by
  refine EPrim.mk (v := .int .u32 (Int.ofNat (a ^^^ 4294967295))) (s' := s) (fun e rec => ?_) hk
  show wth x t _ = _; unfold wth; rw [hx]
  show RV.ok (.int .u32 (Int.ofNat (Nat.xor (4294967295 % 4294967296) (a % 4294967296)))) s = _
  rw [Nat.mod_eq_of_lt ha, Nat.mod_eq_of_lt (by omega)]
  show RV.ok (.int .u32 (Int.ofNat (4294967295 ^^^ a))) s = _
  rw [Nat.xor_comm]
theorem EPrim.shrN {q r : IntKind} {a n : Nat} (hx : ev x t = .some (.int q (Int.ofNat a))) (hy : ev y t = .some (.int r (Int.ofNat n))) (hn : n ≤ q.bits) (hk : k (.int q (Int.ofNat (a / 2 ^ n))) s) : EPrim (.bin .shr x y) t s k := by
  refine bin_of hx hy (v := .int q (Int.ofNat (a / 2 ^ n))) ?_ hk
  show OV.some (.int q (Int.ofNat (a / 2 ^ (Nat.min n q.bits)))) = _
  rw [show Nat.min n q.bits = n from Nat.min_eq_left hn]
theorem wrapN_u32 {a : Nat} (ha : a < 4294967296) : wrapQ .u32 (Int.ofNat a) = Int.ofNat a := by
  show Int.ofNat (a % 4294967296) = _; rw [Nat.mod_eq_of_lt ha]
theorem EPrim.cviU32 {q : IntKind} {a : Nat} (hx : ev x t = .some (.int q (Int.ofNat a))) (ha : a < 4294967296) (hk : k (.int .u32 (Int.ofNat a)) s) : EPrim (.cvi .u32 x) t s k := by
  refine EPrim.mk (v := .int .u32 (Int.ofNat a)) (s' := s) (fun e rec => ?_) hk
  show wth x t _ = _; unfold wth; rw [hx]
  show RV.ok (.int .u32 (wrapQ .u32 (Int.ofNat a))) s = _
  rw [wrapN_u32 ha]
theorem EPrim.incN {a : Nat} {b : Int} (hx : ev x t = .some (.int .i64 (Int.ofNat a))) (hy : ev y t = .some (.int .i64 b)) (hb : b = 1) (h : a < 9223372036854775807) (hk : k (.int .i64 (Int.ofNat (a + 1))) s) : EPrim (.bin .add x y) t s k := by
  subst hb
  refine EPrim.addS hx hy ?_ ?_
  · have : Int.ofNat a = (a : Int) := rfl
    omega
  · exact hk
theorem EPrim.lssN {q : IntKind} {a b : Nat} (hx : ev x t = .some (.int q (Int.ofNat a))) (hy : ev y t = .some (.int q (Int.ofNat b))) (h1 : a < b → k (.bool true) s) (h2 : b ≤ a → k (.bool false) s) : EPrim (.bin .lss x y) t s k :=
  EPrim.lss2 hx hy (fun h => h1 (by have e1 : Int.ofNat a = (a : Int) := rfl; have e2 : Int.ofNat b = (b : Int) := rfl; omega)) (fun h => h2 (by have e1 : Int.ofNat a = (a : Int) := rfl; have e2 : Int.ofNat b = (b : Int) := rfl; omega))
end
/-- bytes as cells -/
def byV (b : Nat) : AV := .int .u8 (Int.ofNat b)
def bys (l : List Nat) : List AV := l.map byV
theorem bys_drop_get {l : List Nat} {i : Nat} (h : i < l.length) : ((bys l).drop (i * 1))[0]? = some (.int .u8 (Int.ofNat l[i])) := by
  rw [List.getElem?_drop]; simp [bys, byV, h]
end Go.AM
