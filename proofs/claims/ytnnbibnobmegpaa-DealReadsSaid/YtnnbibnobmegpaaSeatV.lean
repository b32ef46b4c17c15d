/-
 Functions of the program as the abstract machine reads them, and what is stated of them, checked by the kernel. No conditions.
-/
import Derived.Test.YtnnbibnobmegpaaSeatP
import Derived.Test.YtnnbibnobmegpaaSeatU
import Derived.Test.YtnnbibnobmegpaaSeatT
set_option linter.unusedVariables false
set_option linter.unusedSimpArgs false
set_option maxRecDepth 100000
namespace Go.AM
theorem noteI_succ {x : Nt} {k : Nat} (h : k < x.recs.length) : noteI x (k + 1) = noteS (noteI x k) k x.recs[k] := by
 show (match x.recs[k]? with | some r => noteS (noteI x k) k r | none => noteI x k) = _
 rw [List.getElem?_eq_getElem h]
theorem noteI_head {x : Nt} {a w : Nat} (h : a + w ≤ 15) : ∀ k, num (noteI x k) a w = num (noteH x) a w
 | 0 => rfl
 | k + 1 => by
  by_cases hk : k < x.recs.length
  ·rw [noteI_succ hk]
   unfold noteS
   rw [num_skip (by omega), num_skip (by omega), num_skip (by omega), noteI_head h k]
  ·show num (match x.recs[k]? with | some r => noteS (noteI x k) k r | none => noteI x k) a w = _
   rw [List.getElem?_eq_none (by omega)]
   exact noteI_head h k
theorem num_noteBk {x : Nt} {a w : Nat} (h : a + w ≤ 124) : num (noteBk x) a w = num (noteI x x.recs.length) a w := by
 unfold noteBk
 rw [num_skip (by omega)]
theorem noteBk_length (x : Nt) : (noteBk x).length = 128 := by unfold noteBk; rw [putN_length]; exact noteI_length _ _
theorem noteBk_lt (x : Nt) : ∀ b ∈ noteBk x, b < 256 := by unfold noteBk; exact putN_lt (noteI_lt _ _) _
theorem noteI_get0 {x : Nt} : ∀ k, (noteI x k).getD 0 0 = 78
 | 0 => by
  show (noteH x).getD 0 0 = 78
  unfold noteH
  rw [putN_getD, if_neg (by omega), putN_getD, if_neg (by omega), putN_getD, if_neg (by omega), putN_getD, if_neg (by omega), putN_getD, if_neg (by omega), putN_getD, if_pos (by simp)]
 | k + 1 => by
  by_cases hk : k < x.recs.length
  ·rw [noteI_succ hk]
   unfold noteS
   rw [putN_getD, if_neg (by omega), putN_getD, if_neg (by omega), putN_getD, if_neg (by omega)]
   exact noteI_get0 k
  ·show (match x.recs[k]? with | some r => noteS (noteI x k) k r | none => noteI x k).getD 0 0 = _
   rw [List.getElem?_eq_none (by omega)]
   exact noteI_get0 k
theorem noteBk_get0 (x : Nt) : (noteBk x).getD 0 0 = 78 := by
 unfold noteBk
 rw [putN_getD, if_neg (by omega)]
 exact noteI_get0 _
end Go.AM
set_option maxRecDepth 100000
namespace Go.AM
attribute [local irreducible] W
open X
def sltB : Nat → Int → List Rc → Bool
 | _, _, [] => true
 | i, la, x :: l => decide (la < x.slot ∧ (x.slot ≤ 14 ∨ (x.slot = 255 ∧ 0 < i))) && sltB (i + 1) x.slot l
theorem sltB_rec {n : Nat} : ∀ {R : List Rc} {i : Nat} {la : Int}, n = i + R.length → (∀ r ∈ R, r.ok) → sltB i la R = recB n i la R
 | [], _, _, _, _ => rfl
 | x :: l, i, la, hn, hr => by
  have hx := (hr x (by simp)).1
  have ih := sltB_rec (n := n) (R := l) (i := i + 1) (la := x.slot) (by rw [hn, List.length_cons]; omega) (fun r h => hr r (by simp [h]))
  show (decide (la < x.slot ∧ (x.slot ≤ 14 ∨ (x.slot = 255 ∧ 0 < i))) && sltB (i + 1) x.slot l) = (decide (la < x.slot ∧ ((x.slot = 255 ∧ 0 < i ∧ i + 1 = n) ∨ x.slot ≤ 14)) && recB n (i + 1) x.slot l)
  rw [← ih]
  cases l with
  | nil =>
   have : i + 1 = n := by rw [hn]; rfl
   congr 1
   refine decide_eq_decide.2 ?_
   constructor
   ·rintro ⟨h1, h2⟩; exact ⟨h1, by omega⟩
   ·rintro ⟨h1, h2⟩; exact ⟨h1, by omega⟩
  | cons y l =>
   have hy := (hr y (by simp)).1
   by_cases h : x.slot = 255
   ·have : sltB (i + 1) x.slot (y :: l) = false := by
     show (decide (x.slot < y.slot ∧ _) && _) = false
     rw [decide_eq_false (by omega)]; rfl
    rw [this, Bool.and_false, Bool.and_false]
   ·congr 1
    refine decide_eq_decide.2 ?_
    constructor
    ·rintro ⟨h1, h2⟩; exact ⟨h1, by omega⟩
    ·rintro ⟨h1, h2⟩; exact ⟨h1, by omega⟩
structure RL where
 v : AV
 R : List Rc
structure RL.ok (x : RL) : Prop where
 s : Sl 3 x.R.length (rcs x.R) x.v
 r : ∀ r ∈ x.R, r.ok
 n : x.R.length < 1000
def sltF : Fam RL := ⟨RL.ok, fun x => [x.v], fun x => .bool (sltB 0 (-1) x.R), fun x y hx hy h => by
 obtain ⟨v, R⟩ := x
 obtain ⟨v', R'⟩ := y
 have e : v = v' := (List.cons.inj h).1
 subst e
 have := rcs_inj (hx.s.l_inj hy.s)
 dsimp only at this ⊢
 rw [this]⟩
def lastS (R : List Rc) (i : Nat) : Int := match i with
 | 0 => -1
 | i + 1 => match R[i]? with
  | some r => r.slot
  | none => -1
theorem sltF_ok {P : Program} {e : Env} {fn : Func} (hE : EnvOk P e) (hm : P.follows .mixedOrders = true) (hf : P.funcs[165]? = some fn) (hc : compF P fn = some a165) (hb : HasBody P 165) : OvOk P 165 sltF.O := by
 refine Fam.ok_of hb fun x hx => ?_
 obtain ⟨v, R⟩ := x
 obtain ⟨hs, hr, hn⟩ := hx
 dsimp only at hs hr hn
 have hvf := hs.hf
 refine ⟨by show (AM.hf v && true) = true; rw [hvf]; rfl, rfl, C.of_V hE hm hf hc ?_⟩
 show VW P e 0 (match a165 with | .mk c _ => c) (initT [v] 0 .lf) St0 none [] (EEnd [.tmp 2] (fun w s' => Frz s' w (.bool (sltB 0 (-1) R))))
 have fin : ∀ s (b : Bool), b = sltB 0 (-1) R → Frz s (.bool b) (.bool (sltB 0 (-1) R)) := by rintro s b rfl; exact .plain _ rfl
 generalize hO : AV.bool (sltB 0 (-1) R) = O at fin ⊢
 clear hO
 conv => whnf
 refine W.loopT (α := Nat) (fun i => [(0, v), (3, .int .i64 (i : Int))]) (fun _ => []) (fun i => R.length - i) (fun i => i ≤ R.length ∧ sltB 0 (-1) R = sltB i (lastS R i) (R.drop i)) 0 ⟨Nat.zero_le _, rfl⟩
  (Abs.tells (rs := []) ⟨by decide, ⟨⟨hf_bd _ hvf, by rw [hf_mapV _ hvf]; rfl⟩, ⟨rfl, rfl⟩, trivial⟩, trivial⟩) ?_
 rintro i ⟨hi, hI⟩
 refine vw_sound hE hm ?_
 by_cases hlt : i < R.length
 ·have hro := (hr _ (List.getElem_mem hlt)).1
  have hd : (rcs R).drop (i * 3) = R[i].c ++ rcs (R.drop (i + 1)) := by rw [rcs_drop, List.drop_eq_getElem_cons hlt, rcs_cons]
  have hla : lastS R (i + 1) = R[i].slot := by show (match R[i]? with | some r => r.slot | none => -1) = _; rw [List.getElem?_eq_getElem hlt]
  rw [List.drop_eq_getElem_cons hlt] at hI
  have hall := And.intro hro (And.intro hd (And.intro hla hI))
  clear hro hd hla hI
  revert hall
  generalize R[i] = r
  obtain ⟨sl, ba, su⟩ := r
  rintro ⟨hsl, hd, hla, hI⟩
  dsimp only at hsl hla
  have hd : (rcs R).drop (i * 3) = [.int .u8 sl, .bool ba, .int .u32 su] ++ rcs (R.drop (i + 1)) := hd
  have hI : sltB 0 (-1) R = (decide (lastS R i < sl ∧ (sl ≤ 14 ∨ (sl = 255 ∧ 0 < i))) && sltB (i + 1) sl (R.drop (i + 1))) := hI
  have no : ¬ (lastS R i < sl ∧ (sl ≤ 14 ∨ (sl = 255 ∧ 0 < i))) → ∀ s, Frz s (.bool false) O := fun h s => fin s false (by rw [hI, decide_eq_false h]; rfl)
  have yes : (lastS R i < sl ∧ (sl ≤ 14 ∨ (sl = 255 ∧ 0 < i))) → sltB 0 (-1) R = sltB (i + 1) (lastS R (i + 1)) (R.drop (i + 1)) := fun h => by rw [hI, decide_eq_true h, hla]; rfl
  clear hI fin
  have hend : (lastS R i < sl ∧ (sl ≤ 14 ∨ (sl = 255 ∧ 0 < i))) → ∀ t s, t.get 0 = some v → t.get 3 = some (.int .i64 ((i : Int) + 1)) →
   ∃ x', (x' ≤ R.length ∧ sltB 0 (-1) R = sltB x' (lastS R x') (R.drop x')) ∧ R.length - x' < R.length - i ∧ Tells P 0 t s [] (ofL [(0, v), (3, .int .i64 (x' : Int))]) (allocs St0 []) [] := fun h0 t s g0 g3 =>
   ⟨i + 1, ⟨hlt, yes h0⟩, by omega, Abs.tells (rs := []) ⟨by decide, ⟨⟨hf_bd _ hvf, by rw [hf_mapV _ hvf]; exact g0⟩, ⟨rfl, g3⟩, trivial⟩, trivial⟩⟩
  rcases i with _ | j
  ·have hl0 : lastS R 0 = -1 := rfl
   conv => whnf
   refine EPrim.lenZ rfl hs ?_; conv => whnf
   refine EPrim.lss2 (a := ((0 : Nat) : Int)) (b := (R.length : Int)) rfl rfl (fun _ => ?_) (fun h => by omega); conv => whnf
   refine EPrim.ixsS rfl hs rfl hlt ?_
   rw [hd]
   conv => whnf
   refine EHead.mk (v := .int .u8 sl) rfl ?_; conv => whnf
   refine EPrim.cviZ (q' := .i64) (a := sl) rfl (i64_in (by omega)) ?_; conv => whnf
   refine EPrim.gtr2 (a := ((0 : Nat) : Int)) (b := 0) rfl rfl (fun h => by omega) (fun _ => ?_); conv => whnf
   repeat' (first | ((first | refine w3 rfl rfl ?_ ?_ | refine w5 rfl rfl ?_ ?_ | refine w6 rfl rfl ?_ ?_) <;> intro _ <;> first | (exfalso; omega) | (conv => whnf)) | ((first | refine w7 rfl rfl (by omega) ?_ | refine ⟨rfl, ?_⟩); conv => whnf) | fail)
   all_goals first
    | exact hend (by omega) _ _ rfl rfl
    | exact no (by omega) _
  ·have hlj : j < R.length := by omega
   have hlaj : lastS R (j + 1) = R[j].slot := by show (match R[j]? with | some r => r.slot | none => -1) = _; rw [List.getElem?_eq_getElem hlj]
   have hdj : (rcs R).drop (j * 3) = R[j].c ++ rcs (R.drop (j + 1)) := by rw [rcs_drop, List.drop_eq_getElem_cons hlj, rcs_cons]
   have hrj := (hr _ (List.getElem_mem hlj)).1
   have hall := And.intro hlaj (And.intro hdj hrj)
   clear hlaj hdj hrj
   revert hall
   generalize R[j] = r
   obtain ⟨sl', ba', su'⟩ := r
   rintro ⟨hlaj, hdj, hrj⟩
   dsimp only at hlaj hrj
   have hdj : (rcs R).drop (j * 3) = [.int .u8 sl', .bool ba', .int .u32 su'] ++ rcs (R.drop (j + 1)) := hdj
   conv => whnf
   refine EPrim.lenZ rfl hs ?_; conv => whnf
   refine EPrim.lss2 (a := ((j + 1 : Nat) : Int)) (b := (R.length : Int)) rfl rfl (fun _ => ?_) (fun h => by omega); conv => whnf
   refine EPrim.ixsS rfl hs rfl hlt ?_
   rw [hd]
   conv => whnf
   refine EHead.mk (v := .int .u8 sl) rfl ?_; conv => whnf
   refine EPrim.cviZ (q' := .i64) (a := sl) rfl (i64_in (by omega)) ?_; conv => whnf
   refine EPrim.gtr2 (a := ((j + 1 : Nat) : Int)) (b := 0) rfl rfl (fun _ => ?_) (fun h => by omega); conv => whnf
   refine EPrim.subS (a := ((j + 1 : Nat) : Int)) (b := 1) rfl rfl (by omega) ?_
   rw [show ((j + 1 : Nat) : Int) - 1 = (j : Int) by omega]
   conv => whnf
   refine EPrim.ixsS rfl hs rfl hlj ?_
   rw [hdj]
   conv => whnf
   refine EHead.mk (v := .int .u8 sl') rfl ?_; conv => whnf
   refine EPrim.cviZ (q' := .i64) (a := sl') rfl (i64_in (by omega)) ?_; conv => whnf
   repeat' (first | ((first | refine w2 rfl rfl ?_ ?_ | refine w3 rfl rfl ?_ ?_ | refine w5 rfl rfl ?_ ?_ | refine w6 rfl rfl ?_ ?_) <;> intro _ <;> first | (exfalso; omega) | (conv => whnf)) | ((first | refine w7 rfl rfl (by omega) ?_ | refine ⟨rfl, ?_⟩); conv => whnf) | fail)
   all_goals first
    | exact hend (by omega) _ _ rfl rfl
    | exact no (by omega) _
 ·rw [List.drop_eq_nil_of_le (by omega)] at hI
  conv => whnf
  refine EPrim.lenZ rfl hs ?_; conv => whnf
  refine EPrim.lss2 (a := (i : Int)) (b := (R.length : Int)) rfl rfl (fun _ => by omega) (fun h => ?_); conv => whnf
  exact fin _ true (by rw [hI]; rfl)
def nmayF : Fam Nt := ⟨Nt.ok, fun x => [x.a], fun x => .bool (noteB x), fun x y hx hy h => by rw [Nt.inj hx hy h]⟩
theorem nmayF_ok {P : Program} {e : Env} {fn : Func} (hE : EnvOk P e) (hm : P.follows .mixedOrders = true) (h165 : Con e 165 sltF.O) (hf : P.funcs[151]? = some fn) (hc : compF P fn = some a151) (hb : HasBody P 151) : OvOk P 151 nmayF.O := by
 refine Fam.ok_of hb fun x hx => ?_
 have hnb : noteB x = (headB x && sltB 0 (-1) x.recs) := by unfold noteB; rw [sltB_rec (n := x.recs.length) (by omega) hx.rc]
 obtain ⟨id, ag, sq, st, v, R⟩ := x
 obtain ⟨h1, h2, h3, h4, hs, hr, hl⟩ := hx
 unfold u32B at h1 h2 h3
 unfold i64B at h4
 dsimp only at h1 h2 h3 h4 hs hr hl
 refine ⟨by show (((true && (true && (true && (true && (AM.hf v && true))))) : Bool) && true) = true; rw [hs.hf]; rfl, rfl, C.of_V hE hm hf hc ?_⟩
 have fin : ∀ s (b : Bool), b = noteB ⟨id, ag, sq, st, v, R⟩ → Frz s (.bool b) (nmayF.out ⟨id, ag, sq, st, v, R⟩) := by rintro s b rfl; exact .plain _ rfl
 rw [hnb] at fin
 unfold headB at fin
 dsimp only at fin
 generalize nmayF.out ⟨id, ag, sq, st, v, R⟩ = O at fin ⊢
 have hvf := hs.hf
 show VW P e 0 (match a151 with | .mk c _ => c) (initT [.agg [.int .u32 id, .int .u32 ag, .int .u32 sq, .int .i64 st, v]] 0 .lf) St0 none [] _
 conv => whnf
 by_cases hT : (1 ≤ R.length ∧ R.length ≤ 16) ∧ (1 ≤ ag ∧ ag ≤ 2147483648) ∧ (1 ≤ sq ∧ sq ≤ 2147483648) ∧ (0 ≤ st ∧ st < 64)
 ·rw [decide_eq_true hT] at fin
  repeat' (first | (refine EPrim.lenZ rfl hs ?_; conv => whnf) | ((first | refine w1 rfl rfl ?_ ?_ | refine w2 rfl rfl ?_ ?_ | refine w4 rfl rfl ?_ ?_) <;> intro _ <;> first | (exfalso; omega) | (conv => whnf)) | fail)
  refine ESc.fam sltF h165 ⟨v, R⟩ ⟨hs, hr, by dsimp only; omega⟩ (u := .bool (sltB 0 (-1) R)) rfl ?_; conv => whnf
  exact fin _ _ rfl
 ·rw [decide_eq_false hT] at fin
  repeat' (first | (refine EPrim.lenZ rfl hs ?_; conv => whnf) | ((first | refine w1 rfl rfl ?_ ?_ | refine w2 rfl rfl ?_ ?_ | refine w4 rfl rfl ?_ ?_) <;> intro _ <;> first | (exfalso; omega) | (conv => whnf)) | fail)
  all_goals first
   | (exfalso; omega)
   | exact fin _ false rfl
end Go.AM
set_option maxRecDepth 100000
namespace Go.AM
attribute [local irreducible] W
open X
section
variable {t : AT} {s : St} {k : AV → St → Prop} {x y : AO}
theorem EPrim.appK {el es r n m : Nat} {v c : AV} {cs old : List AV} (hx : ev x t = .some (.sl r 0 n (some n))) (hy : ev y t = .some v) (hv : srcOf es v s = some (c :: cs)) (hr : s.get r = some (.row el old)) (ho : old.length = n * es) (hm' : (c :: cs).length = m * es) (he : 0 < es) (h0 : 0 < m) (h1 : n + m ≤ 1000000)
 (hk : k (.sl s.next 0 (n + m) none) (s.alloc (.row el (old ++ (c :: cs))))) : EPrim (.app el es x y) t s k := by
 have hm : (c :: cs).length / es = m := by rw [hm']; exact Nat.mul_div_cancel m he
 refine EPrim.mk (fun e rec => ?_) hk
 show wth x t _ = _; unfold wth; rw [hx]
 show wth y t _ = _; unfold wth; rw [hy]
 show (Option.rec .fail _ (srcOf es v s) : RV) = _
 rw [hv]
 show AM.app1 el es (c :: cs) (Nat.div (lenL (c :: cs)) es) r 0 n (some n) s = _
 unfold AM.app1
 rw [lenL_eq, show Nat.div (c :: cs).length es = m from hm, load_of hr (by show 0 + n * es ≤ _; omega)]
 have e1 : List.take (Nat.mul n es) (List.drop 0 old) = old := by rw [List.drop_zero]; exact List.take_of_length_le (by show _ ≤ n * es; omega)
 rw [e1]
 show (Bool.rec (appNew el (n + m) (appL old (c :: cs)) s) _ (Nat.ble (n + m) n) : RV) = _
 rw [show Nat.ble (n + m) n = false by rw [← Bool.not_eq_true]; intro e; have := Nat.le_of_ble_eq_true e; omega]
 show appNew el (n + m) (appL old (c :: cs)) s = _
 unfold appNew
 show gd (Nat.ble (n + m) 1000000) _ = _
 rw [Nat.ble_eq_true_of_le h1, appL_eq]; rfl
theorem bys_cons {bs : List Nat} {m : Nat} (h : bs.length = m) (h0 : 0 < m) : ∃ c cs, bys bs = c :: cs ∧ (c :: cs).length = m * 1 := by
 cases bs with
 | nil => simp at h; omega
 | cons b bs => exact ⟨_, _, rfl, by show (bys (b :: bs)).length = _; rw [bys_length, Nat.mul_one, h]⟩
theorem EPrim.appBK {r n m : Nat} {v : AV} {old bs : List Nat} (hx : ev x t = .some (.sl r 0 n (some n))) (hy : ev y t = .some v) (hv : srcOf 1 v s = some (bys bs)) (hr : s.get r = some (.row 5 (bys old))) (ho : old.length = n) (hm' : bs.length = m) (h0 : 0 < m) (h1 : n + m ≤ 1000000)
 (hk : k (.sl s.next 0 (n + m) none) (s.alloc (.row 5 (bys (old ++ bs))))) : EPrim (.app 5 1 x y) t s k := by
 obtain ⟨c, cs, e1, e2⟩ := bys_cons hm' h0
 rw [bys_app, e1] at hk
 rw [e1] at hv
 exact EPrim.appK hx hy hv hr (by rw [bys_length, Nat.mul_one, ho]) e2 (by decide) h0 h1 hk
theorem EPrim.appBU {r n m : Nat} {v : AV} {old bs : List Nat} (hx : ev x t = .some (.sl r 0 n none)) (hy : ev y t = .some v) (hv : srcOf 1 v s = some (bys bs)) (hr : s.get r = some (.row 5 (bys old))) (ho : old.length = n) (hm' : bs.length = m) (h0 : 0 < m) (h1 : n + m ≤ 1000000)
 (hk : k (.sl s.next 0 (n + m) none) ((s.put r .dead).alloc (.row 5 (bys (old ++ bs))))) : EPrim (.app 5 1 x y) t s k := by
 obtain ⟨c, cs, e1, e2⟩ := bys_cons hm' h0
 rw [bys_app, e1] at hk
 rw [e1] at hv
 exact EPrim.appU hx hy hv hr (by rw [bys_length, Nat.mul_one, ho]) e2 (by decide) h1 hk
end
def rawH (x : Nt) : List Nat := [78] ++ le x.id.toNat 4 ++ le x.age.toNat 4 ++ le x.seq.toNat 4 ++ [x.stripe.toNat, x.recs.length]
def rawR (r : Rc) : List Nat := [r.slot.toNat, bareN r.bare] ++ le r.sum.toNat 4
def rawN (x : Nt) : Nat → List Nat
 | 0 => rawH x
 | i + 1 => match x.recs[i]? with
  | some r => rawN x i ++ rawR r
  | none => rawN x i
theorem rawH_length (x : Nt) : (rawH x).length = 15 := by unfold rawH; simp [le_length]
theorem rawN_length {x : Nt} : ∀ {i : Nat}, i ≤ x.recs.length → (rawN x i).length = 15 + 6 * i
 | 0, _ => rawH_length x
 | i + 1, h => by
  show (match x.recs[i]? with | some r => rawN x i ++ rawR r | none => rawN x i).length = _
  rw [List.getElem?_eq_getElem (by omega)]
  show (rawN x i ++ rawR x.recs[i]).length = _
  rw [List.length_append, rawN_length (by omega)]
  unfold rawR
  simp [le_length]; omega
theorem le1 {n : Nat} (h : n < 256) : le n 1 = [n] := by show [] ++ [n / 2 ^ (8 * 0) % 256] = _; simp; omega
theorem padr_nil : padr [] = List.replicate 128 0 := rfl
theorem put1 {b : List Nat} {a n : Nat} (ha : b.length = a) (h : a < 128) (hn : n < 256) : putN (padr b) a n 1 = padr (b ++ [n]) := by
 subst ha
 rw [put_padr (by omega), le1 hn]
theorem put4 {b : List Nat} {a n : Nat} (ha : b.length = a) (h : a + 4 ≤ 128) : putN (padr b) a n 4 = padr (b ++ le n 4) := by
 subst ha
 rw [put_padr h]
theorem rawH_pad {x : Nt} (h1 : x.stripe.toNat < 256) (h2 : x.recs.length < 256) : padr (rawH x) = noteH x := by
 unfold noteH
 rw [← padr_nil, put1 (b := []) (a := 0) rfl (by decide) (by decide), put4 (b := [] ++ [78]) (a := 1) rfl (by decide), put4 (a := 5) (by simp [le_length]) (by decide), put4 (a := 9) (by simp [le_length]) (by decide), put1 (a := 13) (by simp [le_length]) (by decide) h1, put1 (a := 14) (by simp [le_length]) (by decide) h2]
 unfold rawH
 simp
theorem rawN_pad {x : Nt} (h1 : x.stripe.toNat < 256) (h2 : x.recs.length ≤ 16) (hr : ∀ r ∈ x.recs, r.ok) : ∀ {i : Nat}, i ≤ x.recs.length → padr (rawN x i) = noteI x i
 | 0, _ => rawH_pad h1 (by omega)
 | i + 1, h => by
  have hi : i < x.recs.length := by omega
  have ih := rawN_pad h1 h2 hr (i := i) (by omega)
  have hl := rawN_length (x := x) (i := i) (by omega)
  have hro := hr _ (List.getElem_mem hi)
  rw [noteI_succ hi, ← ih]
  show padr (match x.recs[i]? with | some r => rawN x i ++ rawR r | none => rawN x i) = _
  rw [List.getElem?_eq_getElem hi]
  show padr (rawN x i ++ rawR x.recs[i]) = _
  unfold noteS rawR
  rw [put1 hl (by omega) (by have := hro.1; omega), put1 (by rw [List.length_append, hl]; show 15 + 6 * i + 1 = _; omega) (by omega) (by unfold bareN; split <;> decide), put4 (by rw [List.length_append, List.length_append, hl]; show 15 + 6 * i + 1 + 1 = _; omega) (by omega)]
  simp
structure Nt.may (x : Nt) : Prop where
 ok : x.ok
 b : noteB x = true
def code152 : AC := match a152 with | .mk c _ => c
def nbkF : Fam Nt := ⟨Nt.may, fun x => [x.a], fun x => fzB (noteBk x), fun x y hx hy h => by rw [Nt.inj hx.ok hy.ok h]⟩
theorem nbkF_ok {P : Program} {e : Env} {fn : Func} (hE : EnvOk P e) (hm : P.follows .mixedOrders = true) (h166 : Con e 166 fourF.O) (h167 : Con e 167 sealRF.O) (hf : P.funcs[152]? = some fn) (hc : compF P fn = some a152) (hb : HasBody P 152) : OvOk P 152 nbkF.O := by
 refine Fam.ok_of hb fun x hx => ?_
 obtain ⟨hx, hnb⟩ := hx
 have hh := hnb
 unfold noteB headB at hh
 rw [Bool.and_eq_true] at hh
 obtain ⟨⟨c1, c2⟩, ⟨a1, a2⟩, ⟨s1, s2⟩, ⟨t1, t2⟩⟩ := of_decide_eq_true hh.1
 clear hh hnb
 have hpad := fun i h => rawN_pad (x := x) (by omega) c2 hx.rc (i := i) h
 have hlen := fun i h => rawN_length (x := x) (i := i) h
 have hsl : sealN (rawN x x.recs.length) = noteBk x := by unfold sealN noteBk; rw [hpad _ (Nat.le_refl _)]
 have hlt : ∀ i, i ≤ x.recs.length → ∀ y ∈ rawN x i, y < 256 := by
  intro i h y hy
  have : y ∈ padr (rawN x i) := List.mem_append_left _ hy
  rw [hpad i h] at this
  exact noteI_lt x i y this
 refine ⟨by show (((true && (true && (true && (true && (AM.hf x.v && true))))) : Bool) && true) = true; rw [hx.sl.hf]; rfl, rfl, C.of_W hf hc ?_⟩
 have hfin : ∀ s, Frz s (fzB (noteBk x)) (fzB (noteBk x)) := fun s => .plain _ rfl
 show W P 0 none code152 (initT [x.a] 0 .lf) St0 [] (Ends [.tmp 2] (fun w s' => Frz s' w (fzB (noteBk x))))
 rw [← hsl]
 have hend := fun (K : AV → St → Prop) (s : St) (hk : K (fzB (sealN (rawN x x.recs.length))) s) => ESc.fam (k := K) (s := s) sealRF h167 ⟨.fz (15 + 6 * x.recs.length) none (bys (rawN x x.recs.length)), rawN x x.recs.length⟩ ⟨⟨.inr (.inr ⟨none, by show AV.fz _ _ _ = .fz (rawN x x.recs.length).length _ _; rw [hlen _ (Nat.le_refl _)], by rw [bys_length, Nat.mul_one]⟩), hlt _ (Nat.le_refl _)⟩, by show (rawN x x.recs.length).length ≤ 128; rw [hlen _ (Nat.le_refl _)]; omega⟩ (u := fzB (sealN (rawN x x.recs.length))) rfl hk
 clear hsl hfin hpad
 have hstep : ∀ i (h : i < x.recs.length), rawN x (i + 1) = rawN x i ++ [x.recs[i].slot.toNat, bareN x.recs[i].bare] ++ le x.recs[i].sum.toNat 4 := by
  intro i h
  show (match x.recs[i]? with | some r => rawN x i ++ rawR r | none => rawN x i) = _
  rw [List.getElem?_eq_getElem h]
  show rawN x i ++ rawR x.recs[i] = _
  unfold rawR
  rw [List.append_assoc]
 have h00 : rawN x 0 = rawH x := rfl
 obtain ⟨N, hN⟩ : ∃ N, N = rawN x := ⟨_, rfl⟩
 rw [← hN] at hend hstep hlen hlt h00 ⊢
 unfold rawH at h00
 clear hN
 obtain ⟨id, ag, sq, st, v, R⟩ := x
 obtain ⟨h1, h2, h3, h4, hs, hr, hl⟩ := hx
 unfold u32B at h1 h2 h3
 dsimp only at h1 h2 h3 h4 hs hr hl c1 c2 a1 a2 s1 s2 t1 t2 hend hstep hlen hlt h00 ⊢
 obtain ⟨id, rfl⟩ : ∃ n : Nat, id = (n : Int) := ⟨id.toNat, by omega⟩
 obtain ⟨ag, rfl⟩ : ∃ n : Nat, ag = (n : Int) := ⟨ag.toNat, by omega⟩
 obtain ⟨sq, rfl⟩ : ∃ n : Nat, sq = (n : Int) := ⟨sq.toNat, by omega⟩
 obtain ⟨st, rfl⟩ : ∃ n : Nat, st = (n : Int) := ⟨st.toNat, by omega⟩
 rw [show (id : Int).toNat = id by omega, show (ag : Int).toNat = ag by omega, show (sq : Int).toNat = sq by omega, show (st : Int).toNat = st by omega] at h00
 have hvf := hs.hf
 have hnf : hfs [.int .u32 (id : Int), .int .u32 (ag : Int), .int .u32 (sq : Int), .int .i64 (st : Int), v] = true := by
  show (true && (true && (true && (true && (AM.hf v && true))))) = true
  rw [hvf]; rfl
 have hfour : ∀ n : Nat, n < 4294967296 → ∀ (K : AV → St → Prop) (s : St), K (.fz 4 none (bys (le n 4))) s → ESc e 166 [.int .u32 (n : Int)] s K := fun n hn K s hk => ESc.fam fourF h166 n hn (u := .fz 4 none (bys (le n 4))) rfl hk
 have hsrc : ∀ (n : Nat) (s : St), srcOf 1 (.fz 4 none (bys (le n 4))) s = some (bys (le n 4)) := fun n s => src_fz (by rw [bys_length, le_length]) s
 show W P 0 none code152 (initT [.agg [.int .u32 (id : Int), .int .u32 (ag : Int), .int .u32 (sq : Int), .int .i64 (st : Int), v]] 0 .lf) St0 [] _
 refine W.seqV hE hm ?_; conv => whnf
 refine W.seqV hE hm ?_; conv => whnf
 refine hfour id (by omega) _ _ ?_; conv => whnf
 refine EPrim.appBK (old := [78]) (bs := le id 4) (m := 4) rfl rfl (hsrc _ _) rfl rfl (le_length _ _) (by decide) (by decide) ?_; conv => whnf
 refine W.seqV hE hm ?_; conv => whnf
 refine hfour ag (by omega) _ _ ?_; conv => whnf
 refine EPrim.appBU (old := [78] ++ le id 4) (bs := le ag 4) (m := 4) rfl rfl (hsrc _ _) rfl rfl (le_length _ _) (by decide) (by decide) ?_; conv => whnf
 refine W.seqV hE hm ?_; conv => whnf
 refine hfour sq (by omega) _ _ ?_; conv => whnf
 refine EPrim.appBU (old := [78] ++ le id 4 ++ le ag 4) (bs := le sq 4) (m := 4) rfl rfl (hsrc _ _) rfl rfl (le_length _ _) (by decide) (by decide) ?_; conv => whnf
 refine W.seqV hE hm ?_; conv => whnf
 refine EPrim.cviZ (q' := .u8) (a := (st : Int)) rfl (u8_in (by omega)) ?_; conv => whnf
 refine EPrim.lenZ rfl hs ?_; conv => whnf
 refine EPrim.cviZ (q' := .u8) (a := (R.length : Int)) rfl (u8_in (by omega)) ?_; conv => whnf
 refine EPrim.appBU (old := [78] ++ le id 4 ++ le ag 4 ++ le sq 4) (bs := [st, R.length]) (m := 2) rfl rfl rfl rfl rfl rfl (by decide) (by decide) ?_
 rw [← h00]
 conv => whnf
 refine W.seqV hE hm ?_; conv => whnf
 refine W.loopT (α := Nat) (fun i => [(1, .ptr 0 0), (3, .sl 1 0 (15 + 6 * i) none), (4, .int .i64 (i : Int))]) (fun i => [.row 101 [.int .u32 (id : Int), .int .u32 (ag : Int), .int .u32 (sq : Int), .int .i64 (st : Int), v], .row 5 (bys (N i))]) (fun i => R.length - i) (fun i => i ≤ R.length) 0 (Nat.zero_le _)
  (Abs.tells (rs := [0, 6]) ⟨by decide, ⟨⟨rfl, rfl⟩, ⟨rfl, rfl⟩, ⟨rfl, rfl⟩, trivial⟩, ⟨⟨rowH hnf, by rw [mapRowH hnf]; rfl⟩, ⟨rowH (scs_hfs_bys _), by rw [mapRowH (scs_hfs_bys _)]; rfl⟩, trivial⟩⟩) ?_
 intro i hi
 refine vw_sound hE hm ?_
 by_cases hlt : i < R.length
 ·have hro := hr _ (List.getElem_mem hlt)
  have hd : (rcs R).drop (i * 3) = R[i].c ++ rcs (R.drop (i + 1)) := by rw [rcs_drop, List.drop_eq_getElem_cons hlt, rcs_cons]
  have hst := hstep i hlt
  have hNl := hlen i hi
  have hall := And.intro hro (And.intro hd hst)
  clear hro hd hst hstep h00 hend
  revert hall
  generalize R[i] = r
  obtain ⟨sl, ba, su⟩ := r
  rintro ⟨⟨hsl, hsu⟩, hd, hst⟩
  unfold u32B at hsu
  dsimp only at hsl hsu hst
  have hd : (rcs R).drop (i * 3) = [.int .u8 sl, .bool ba, .int .u32 su] ++ rcs (R.drop (i + 1)) := hd
  obtain ⟨sl, rfl⟩ : ∃ n : Nat, sl = (n : Int) := ⟨sl.toNat, by omega⟩
  obtain ⟨su, rfl⟩ : ∃ n : Nat, su = (n : Int) := ⟨su.toNat, by omega⟩
  rw [show (sl : Int).toNat = sl by omega, show (su : Int).toNat = su by omega] at hst
  have hNl2 : (N i ++ [sl, bareN ba]).length = 15 + 6 * i + 2 := by rw [List.length_append, hNl]; rfl
  generalize N i = B at hst hNl hNl2 ⊢
  conv => whnf
  refine EPrim.lenZ rfl hs ?_; conv => whnf
  refine EPrim.lss2 (a := (i : Int)) (b := (R.length : Int)) rfl rfl (fun _ => ?_) (fun h => by omega); conv => whnf
  refine EPrim.ixsS rfl hs rfl hlt ?_
  rw [hd]
  conv => whnf
  refine EHead.mk (v := .bool ba) rfl ?_; conv => whnf
  cases ba
  ·skip
   refine EPrim.ixsS rfl hs rfl hlt ?_
   rw [hd]
   conv => whnf
   refine EHead.mk (v := .int .u8 (sl : Int)) rfl ?_; conv => whnf
   refine EPrim.appBU (old := B) (bs := [sl, 0]) (m := 2) rfl rfl rfl rfl hNl rfl (by decide) (by omega) ?_; conv => whnf
   refine EPrim.ixsS rfl hs rfl hlt ?_
   rw [hd]
   conv => whnf
   refine EHead.mk (v := .int .u32 (su : Int)) rfl ?_; conv => whnf
   refine hfour su (by omega) _ _ ?_; conv => whnf
   refine EPrim.appBU (old := B ++ [sl, 0]) (bs := le su 4) (m := 4) rfl rfl (hsrc _ _) rfl hNl2 (le_length _ _) (by decide) (by omega) ?_
   rw [show B ++ [sl, 0] ++ le su 4 = N (i + 1) from hst.symm]
   conv => whnf
   repeat' (first | ((first | refine w7 rfl rfl (by omega) ?_ | refine ⟨rfl, ?_⟩); conv => whnf) | fail)
   exact ⟨i + 1, hlt, by omega, Abs.tells (rs := [0, 4]) ⟨by decide, ⟨⟨rfl, rfl⟩, ⟨rfl, rfl⟩, ⟨rfl, rfl⟩, trivial⟩, ⟨⟨rowH hnf, by rw [mapRowH hnf]; rfl⟩, ⟨rowH (scs_hfs_bys _), by rw [mapRowH (scs_hfs_bys _)]; rfl⟩, trivial⟩⟩⟩
  ·skip
   refine EPrim.ixsS rfl hs rfl hlt ?_
   rw [hd]
   conv => whnf
   refine EHead.mk (v := .int .u8 (sl : Int)) rfl ?_; conv => whnf
   refine EPrim.appBU (old := B) (bs := [sl, 1]) (m := 2) rfl rfl rfl rfl hNl rfl (by decide) (by omega) ?_; conv => whnf
   refine EPrim.ixsS rfl hs rfl hlt ?_
   rw [hd]
   conv => whnf
   refine EHead.mk (v := .int .u32 (su : Int)) rfl ?_; conv => whnf
   refine hfour su (by omega) _ _ ?_; conv => whnf
   refine EPrim.appBU (old := B ++ [sl, 1]) (bs := le su 4) (m := 4) rfl rfl (hsrc _ _) rfl hNl2 (le_length _ _) (by decide) (by omega) ?_
   rw [show B ++ [sl, 1] ++ le su 4 = N (i + 1) from hst.symm]
   conv => whnf
   repeat' (first | ((first | refine w7 rfl rfl (by omega) ?_ | refine ⟨rfl, ?_⟩); conv => whnf) | fail)
   exact ⟨i + 1, hlt, by omega, Abs.tells (rs := [0, 4]) ⟨by decide, ⟨⟨rfl, rfl⟩, ⟨rfl, rfl⟩, ⟨rfl, rfl⟩, trivial⟩, ⟨⟨rowH hnf, by rw [mapRowH hnf]; rfl⟩, ⟨rowH (scs_hfs_bys _), by rw [mapRowH (scs_hfs_bys _)]; rfl⟩, trivial⟩⟩⟩
 ·obtain rfl : i = R.length := by omega
  have hNl := hlen _ hi
  conv => whnf
  refine EPrim.lenZ rfl hs ?_; conv => whnf
  refine EPrim.lss2 (a := (R.length : Int)) (b := (R.length : Int)) rfl rfl (fun _ => by omega) (fun h => ?_); conv => whnf
  refine W.tells (AbsK.frz (k := 0) (n := 1) (e := 5) (cs := bys (N R.length)) (tl := [(3, .sl 1 0 (15 + 6 * R.length) none)]) (tl2 := [(3, .fz (15 + 6 * R.length) none (bys (N R.length)))]) (os := [.row 101 [.int .u32 (id : Int), .int .u32 (ag : Int), .int .u32 (sq : Int), .int .i64 (st : Int), v]]) (os2 := [.row 101 [.int .u32 (id : Int), .int .u32 (ag : Int), .int .u32 (sq : Int), .int .i64 (st : Int), v]]) (rs := [0, 1])
   ⟨rfl, by decide, ⟨⟨rfl, rfl⟩, trivial⟩, ⟨⟨rowH hnf, by rw [mapRowH hnf]; rfl⟩, ⟨rowH (scs_hfs_bys _), by rw [mapRowH (scs_hfs_bys _)]; rfl⟩, trivial⟩⟩ rfl (scs_hfs_bys _) rfl rfl rfl rfl rfl (by show [frzO 1 _ (.row 101 _)] = _; rw [frzRowH hnf])) ?_
  refine W.endV hE hm ?_; conv => whnf
  refine hend _ _ ?_; conv => whnf
  exact .plain _ rfl
end Go.AM
set_option maxRecDepth 100000
namespace Go.AM
attribute [local irreducible] W
open X
theorem num1 (bs : List Nat) (a : Nat) : num bs a 1 = bs.getD a 0 := by
 show 0 ||| bs.getD (a + 0) 0 * 1 = _
 rw [Nat.zero_or, Nat.mul_one]; rfl
def cnt16 (B : List Nat) : Nat := min (num B 14 1) 16
def nt16 (B : List Nat) (v : AV) : Nt := ⟨(num B 1 4 : Int), (num B 5 4 : Int), (num B 9 4 : Int), (num B 13 1 : Int), v, rdRecs B (cnt16 B)⟩
theorem num_noteBk14 {x : Nt} (h : x.recs.length < 256) : num (noteBk x) 14 1 = x.recs.length := by
 rw [num_noteBk (by omega), noteI_head (by omega)]
 unfold noteH
 rw [num_put (by simp only [putN_length]; simp) (by show _ < 256; omega)]
theorem good16 {b : List Nat} (hl : b.length = 0 ∨ b.length = 128) (v : AV) : (noteB (nt16 (pad b) v) = true ∧ noteBk (nt16 (pad b) v) = pad b) ↔ rdGood b = true := by
 have hrl : (nt16 (pad b) v).recs.length = cnt16 (pad b) := by show ((List.range _).map _).length = _; simp
 have hrl2 : (rdNote (pad b)).recs.length = rdCnt (pad b) := by show ((List.range _).map _).length = _; simp
 have same : num (pad b) 14 1 ≤ 16 → noteB (nt16 (pad b) v) = noteB (rdNote (pad b)) ∧ noteBk (nt16 (pad b) v) = noteBk (rdNote (pad b)) := by
  intro h
  have e : cnt16 (pad b) = rdCnt (pad b) := by unfold cnt16 rdCnt; omega
  unfold nt16 rdNote
  rw [e]
  exact ⟨rfl, noteBk_v _ _ _ _ _ _ _⟩
 unfold rdGood
 rw [Bool.and_eq_true, decide_eq_true_eq]
 constructor
 ·rintro ⟨h1, h2⟩
  have h3 := num_noteBk14 (x := nt16 (pad b) v) (by rw [hrl]; unfold cnt16; omega)
  rw [h2, hrl] at h3
  obtain ⟨e1, e2⟩ := same (by unfold cnt16 at h3; omega)
  refine ⟨by rw [← e1]; exact h1, ?_⟩
  rw [← e2, h2]
  rcases hl with h | h
  ·exfalso
   have h4 := noteBk_get0 (nt16 (pad b) v)
   rw [h2, List.length_eq_zero_iff.1 h] at h4
   exact absurd h4 (by decide)
  ·exact pad_of h
 ·rintro ⟨h1, h2⟩
  have hb : b.length = 128 := by rw [← h2]; exact noteBk_length _
  have hp : pad b = b := pad_of hb
  have h3 : rdCnt (pad b) ≤ 16 := by
   unfold noteB headB at h1
   rw [Bool.and_eq_true] at h1
   have := (of_decide_eq_true h1.1).1.2
   rw [hrl2] at this; exact this
  obtain ⟨e1, e2⟩ := same (by unfold rdCnt at h3; omega)
  exact ⟨by rw [e1]; exact h1, by rw [e2, h2, hp]⟩
def code112 : AC := match a112 with | .mk c _ => c
def rest112 : AC := match code112 with
 | .seq _ (.seq _ (.seq _ (.seq _ (.seq _ r)))) => r
 | _ => .skip
theorem nr_rest {P : Program} {e : Env} (hE : EnvOk P e) (hm : P.follows .mixedOrders = true) (h151 : Con e 151 nmayF.O) (h152 : Con e 152 nbkF.O) {B : List Nat} (l1 : B.length = 128) (p1 : ∀ y ∈ B, y < 256) {n : Nt} (hn : n.ok) {K : AV → St → Prop}
 (k1 : noteB n = true → noteBk n = B → ∀ s, K (.tup [.agg n.c, .int .i64 0]) s) (k0 : ¬ (noteB n = true ∧ noteBk n = B) → ∀ s, K (.tup [.agg zNote, .int .i64 90]) s) :
 W P 0 none rest112 (ofL [(2, .ptr 0 0), (4, fzB B), (5, .ptr 1 0)]) (allocs St0 [.row 101 zNote, .row 101 n.c]) [] (Ends [.cells 2 5, .tmp 3] K) := by
 have hM := fun (K : AV → St → Prop) (s : St) (hk : K (.bool (noteB n)) s) => ESc.fam (k := K) (s := s) nmayF h151 n hn rfl hk
 have hK := fun (hb : noteB n = true) (K : AV → St → Prop) (s : St) (hk : K (fzB (noteBk n)) s) => ESc.fam (k := K) (s := s) nbkF h152 n ⟨hn, hb⟩ rfl hk
 have hbk := noteBk_length n
 have hbl := noteBk_lt n
 have hB := (fzB_at ⟨l1, p1⟩).1
 have hC := (fzB_at ⟨hbk, hbl⟩).1
 have hvf := hn.sl.hf
 refine W.endV hE hm ?_
 generalize noteBk n = C at *
 generalize noteB n = q at *
 obtain ⟨id, ag, sq, st, v, R⟩ := n
 dsimp only at hvf
 show VW P e 0 rest112 (ofL [(2, .ptr 0 0), (4, fzB B), (5, .ptr 1 0)]) (allocs St0 [.row 101 zNote, .row 101 [.int .u32 id, .int .u32 ag, .int .u32 sq, .int .i64 st, v]]) none [] _
 conv => whnf
 refine hM _ _ ?_
 cases q
 ·conv => whnf
  repeat' (first | (refine w13 rfl ?_; conv => whnf) | fail)
  exact k0 (fun h => by cases h.1) _
 ·conv => whnf
  refine EPrim.notT rfl ?_; conv => whnf
  refine EPrim.b2sS (bs := B) rfl hB p1 ?_; conv => whnf
  refine hK rfl _ _ ?_; conv => whnf
  refine EPrim.b2sS (bs := B) rfl hB p1 ?_; conv => whnf
  refine ⟨rfl, ?_⟩; conv => whnf
  refine EPrim.b2sS (bs := C) rfl hC hbl ?_; conv => whnf
  refine EPrim.neqStr rfl rfl (fun h => ?_) (fun h => ?_)
  ·conv => whnf
   skip
   exact k0 (fun h' => h h'.2) _
  ·conv => whnf
   skip
   exact k1 rfl h _
def osN (B : List Nat) : Nat → List AObj
 | 0 => [.row 101 zNote, .row 101 [.int .u32 (num B 1 4 : Int), .int .u32 (num B 5 4 : Int), .int .u32 (num B 9 4 : Int), .int .i64 (num B 13 1 : Int), .nils]]
 | i + 1 => [.row 101 zNote, .row 101 [.int .u32 (num B 1 4 : Int), .int .u32 (num B 5 4 : Int), .int .u32 (num B 9 4 : Int), .int .i64 (num B 13 1 : Int), .sl 2 0 (i + 1) none], .row 123 (rcs (rdRecs B (i + 1)))]
theorem nreadF_ok {P : Program} {e : Env} {fn : Func} (hE : EnvOk P e) (hm : P.follows .mixedOrders = true) (h149 : Con e 149 sizF.O) (h114 : Con e 114 wholeF.O) (h150 : Con e 150 numRF.O) (h151 : Con e 151 nmayF.O) (h152 : Con e 152 nbkF.O) (hf : P.funcs[112]? = some fn) (hc : compF P fn = some a112) (hb : HasBody P 112) : OvOk P 112 ndF.O := by
 refine Fam.ok_of hb fun x hx => ?_
 obtain ⟨u, b⟩ := x
 obtain ⟨hbt, hl⟩ := hx
 dsimp only at hbt hl
 have huf := hbt.1.hf
 refine ⟨by show (AM.hf u && true) = true; rw [huf]; rfl, hf_ndOut _, C.of_W hf hc ?_⟩
 have l1 := pad_len128 hl
 have p1 := pad_lt hbt.2
 have fin : ∀ s w, w = ndOut ⟨u, b⟩ → Frz s w (ndF.out ⟨u, b⟩) := by rintro s w rfl; exact .plain _ (hf_ndOut _)
 have n4 : ∀ a, num (pad b) a 4 < 4294967296 := fun a => num_lt p1 4
 have n1 : ∀ a, num (pad b) a 1 < 256 := fun a => num_lt p1 1
 have hok : ∀ v, Sl 3 (cnt16 (pad b)) (rcs (rdRecs (pad b) (cnt16 (pad b)))) v → (nt16 (pad b) v).ok := by
  intro v hv
  have hrl : (rdRecs (pad b) (cnt16 (pad b))).length = cnt16 (pad b) := by unfold rdRecs; simp
  refine ⟨⟨Int.natCast_nonneg _, Int.ofNat_lt.2 (n4 1)⟩, ⟨Int.natCast_nonneg _, Int.ofNat_lt.2 (n4 5)⟩, ⟨Int.natCast_nonneg _, Int.ofNat_lt.2 (n4 9)⟩, ?_, ?_, ?_, ?_⟩
  ·have := n1 13
   show i64B ((num (pad b) 13 1 : Nat) : Int)
   unfold i64B; omega
  ·show Sl 3 (rdRecs (pad b) (cnt16 (pad b))).length _ v
   rw [hrl]; exact hv
  ·intro r hr
   obtain ⟨i, _, rfl⟩ := List.mem_map.1 (show r ∈ (List.range (cnt16 (pad b))).map (rdRec (pad b)) from hr)
   exact ⟨⟨Int.natCast_nonneg _, Int.ofNat_lt.2 (n1 _)⟩, ⟨Int.natCast_nonneg _, Int.ofNat_lt.2 (n4 _)⟩⟩
  ·show (rdRecs (pad b) (cnt16 (pad b))).length < _
   rw [hrl]; unfold cnt16; omega
 have hres : ∀ v, v = recV (cnt16 (pad b)) (rdRecs (pad b) (cnt16 (pad b))) → W P 0 none rest112 (ofL [(2, .ptr 0 0), (4, fzB (pad b)), (5, .ptr 1 0)]) (allocs St0 [.row 101 zNote, .row 101 (nt16 (pad b) v).c]) [] (Ends [.cells 2 5, .tmp 3] fun w s' => Frz s' w (ndF.out ⟨u, b⟩)) := by
  intro v hv
  have hrl : (rdRecs (pad b) (cnt16 (pad b))).length = cnt16 (pad b) := by unfold rdRecs; simp
  have hs : Sl 3 (cnt16 (pad b)) (rcs (rdRecs (pad b) (cnt16 (pad b)))) v := by
   rw [hv]
   cases hq : cnt16 (pad b) with
   | zero => exact .inl ⟨rfl, rfl, rfl⟩
   | succ n => rw [hq] at hrl; exact .inr (.inr ⟨none, rfl, by rw [rcs_length, hrl]⟩)
  refine nr_rest hE hm h151 h152 l1 p1 (hok v hs) (fun h1 h2 s => fin s _ ?_) (fun h s => fin s _ ?_)
  ·have hg := (good16 hl v).1 ⟨h1, h2⟩
   unfold ndOut
   rw [if_pos hg]
   have h3 : 1 ≤ cnt16 (pad b) := by
    unfold noteB headB at h1
    rw [Bool.and_eq_true] at h1
    have := (of_decide_eq_true h1.1).1.1
    rw [← hrl]; exact this
   have h4 : cnt16 (pad b) = rdCnt (pad b) := by
    have h5 := num_noteBk14 (x := nt16 (pad b) v) (by show (rdRecs (pad b) (cnt16 (pad b))).length < 256; rw [hrl]; unfold cnt16; omega)
    rw [h2, show (nt16 (pad b) v).recs.length = cnt16 (pad b) from hrl] at h5
    unfold cnt16 rdCnt at *; omega
   show AV.tup [.agg [_, _, _, _, v], _] = .tup [.agg (ntC _ (.fz (rdCnt (pad b)) none (rcs (rdRecs (pad b) (rdCnt (pad b)))))), _]
   rw [hv, ← h4]
   cases hq : cnt16 (pad b) with
   | zero => omega
   | succ n => rfl
  ·have hg : ¬ rdGood b = true := fun hg => h ((good16 hl v).2 hg)
   unfold ndOut
   rw [if_neg hg]
 clear hok fin
 have hw : ∀ (K : AV → St → Prop) (s : St), K (fzB (pad b)) s → ESc e 114 [u] s K := fun K s hk => ESc.fam wholeF h114 ⟨u, b⟩ ⟨hbt, by show b.length ≤ 128; omega⟩ (u := fzB (pad b)) (by show fzB (padr b) = _; rw [padr_of hl]) hk
 have hsz : ∀ (K : AV → St → Prop) (s : St), K (.bool true) s → ESc e 149 [u] s K := fun K s hk => ESc.fam sizF h149 ⟨u, b.length⟩ ⟨⟨_, hbt.1⟩, by dsimp only; omega⟩ (u := .bool true) (by show AV.bool (!oddB b.length) = _; unfold oddB; rcases hl with h | h <;> rw [h] <;> rfl) hk
 generalize ndF.out ⟨u, b⟩ = O at hres ⊢
 generalize pad b = B at *
 have hpB : pad B = B := pad_of l1
 have hB := (fzB_at ⟨l1, p1⟩).1
 rw [l1] at hB
 have hnum : ∀ a, a + 4 ≤ 128 → ∀ (K : AV → St → Prop) (s : St), K (.int .u32 ((num B a 4 : Nat) : Int)) s → ESc e 150 [fzB B, .int .i64 (a : Int)] s K := fun a ha K s hk => ESc.fam numRF h150 ⟨⟨fzB B, B⟩, a⟩ ⟨⟨fzB_at ⟨l1, p1⟩, .inr l1⟩, ha⟩ (u := .int .u32 ((num B a 4 : Nat) : Int)) (by show AV.int .u32 ((num (pad B) a 4 : Nat) : Int) = _; rw [hpB]) hk
 show W P 0 none code112 (initT [u] 0 .lf) St0 [] (Ends [.cells 2 5, .tmp 3] _)
 refine W.seqV hE hm ?_; conv => whnf
 refine W.seqV hE hm ?_; conv => whnf
 refine hsz _ _ ?_; conv => whnf
 refine EPrim.notT rfl ?_; conv => whnf
 refine W.seqV hE hm ?_; conv => whnf
 refine hw _ _ ?_; conv => whnf
 refine W.seqV hE hm ?_; conv => whnf
 have h13 : B.getD 13 0 = num B 13 1 := (num1 B 13).symm
 refine EPrim.ixsS (i := 13) rfl hB rfl (by decide) ?_; conv => whnf
 refine EHead.mk (v := .int .u8 ((B.getD 13 0 : Nat) : Int)) (byte_head (i := 13) (by omega)) ?_; conv => whnf
 rw [h13]
 have h13l := n1 13
 refine EPrim.cviZ (q' := .i64) (a := ((num B 13 1 : Nat) : Int)) rfl (i64_in (by omega)) ?_; conv => whnf
 have hh13 : ((bys B).drop (13 * 1))[0]? = some (.int .u8 ((num B 13 1 : Nat) : Int)) := by rw [← h13]; exact byte_head (by omega)
 refine hnum 1 (by decide) _ _ ?_; conv => whnf
 refine EHead.mk (v := .int .u8 ((num B 13 1 : Nat) : Int)) hh13 ?_; conv => whnf
 refine ⟨rfl, ?_⟩; conv => whnf
 refine hnum 5 (by decide) _ _ ?_; conv => whnf
 refine EHead.mk (v := .int .u8 ((num B 13 1 : Nat) : Int)) hh13 ?_; conv => whnf
 refine ⟨rfl, ?_⟩; conv => whnf
 refine hnum 9 (by decide) _ _ ?_; conv => whnf
 refine EHead.mk (v := .int .u8 ((num B 13 1 : Nat) : Int)) hh13 ?_; conv => whnf
 refine ⟨rfl, ?_⟩; conv => whnf
 refine W.seqV hE hm ?_; conv => whnf
 refine W.loopT (α := Nat) (fun i => [(2, .ptr 0 0), (4, fzB B), (5, .ptr 1 0), (6, .int .i64 (i : Int))]) (osN B) (fun i => cnt16 B - i) (fun i => i ≤ cnt16 B) 0 (Nat.zero_le _)
  (Abs.tells (rs := [0, 1]) ⟨by decide, ⟨⟨rfl, rfl⟩, ⟨rfl, rfl⟩, ⟨rfl, rfl⟩, ⟨rfl, rfl⟩, trivial⟩, ⟨⟨rfl, rfl⟩, ⟨rfl, rfl⟩, trivial⟩⟩) ?_
 intro i hi
 refine vw_sound hE hm ?_
 have h14 : B.getD 14 0 = num B 14 1 := (num1 B 14).symm
 have hc16 : cnt16 B = min (B.getD 14 0) 16 := by unfold cnt16; rw [h14]
 have h14l := n1 14
 rw [← h14] at h14l
 clear h14 h13 h13l hh13
 by_cases hlt : i < cnt16 B
 ·have hrs : rdRecs B (i + 1) = rdRecs B i ++ [⟨((B.getD (15 + 6 * i) 0 : Nat) : Int), decide (((B.getD (16 + 6 * i) 0 : Nat) : Int) = 1), ((num B (17 + 6 * i) 4 : Nat) : Int)⟩] := by
   unfold rdRecs; rw [List.range_succ, List.map_append]
   show _ ++ [rdRec B i] = _
   unfold rdRec
   rw [num1, num1]
  have hrl : (rdRecs B i).length = i := by unfold rdRecs; simp
  rcases i with _ | i
  ·conv => whnf
   refine EPrim.ixsS (i := 14) rfl hB rfl (by decide) ?_; conv => whnf
   refine EHead.mk (v := .int .u8 ((B.getD 14 0 : Nat) : Int)) (byte_head (i := 14) (by omega)) ?_; conv => whnf
   refine EPrim.cviZ (q' := .i64) (a := ((B.getD 14 0 : Nat) : Int)) rfl (i64_in (by omega)) ?_; conv => whnf
   refine EPrim.lss2 (a := ((0 : Nat) : Int)) (b := ((B.getD 14 0 : Nat) : Int)) rfl rfl (fun _ => ?_) (fun h => by omega); conv => whnf
   refine EPrim.lss2 (a := ((0 : Nat) : Int)) (b := 16) rfl rfl (fun _ => ?_) (fun h => by omega); conv => whnf
   refine EPrim.mulS (a := 6) (b := ((0 : Nat) : Int)) rfl rfl (by omega) ?_; conv => whnf
   refine EPrim.addS (a := 15) (b := 6 * ((0 : Nat) : Int)) rfl rfl (by omega) ?_
   rw [show (15 : Int) + 6 * ((0 : Nat) : Int) = ((15 + 6 * (0) : Nat) : Int) by omega]
   conv => whnf
   refine EPrim.ixsS rfl hB rfl (by omega) ?_; conv => whnf
   refine EHead.mk (v := .int .u8 ((B.getD (15 + 6 * (0)) 0 : Nat) : Int)) (byte_head (by omega)) ?_; conv => whnf
   refine EPrim.mulS (a := 6) (b := ((0 : Nat) : Int)) rfl rfl (by omega) ?_; conv => whnf
   refine EPrim.addS (a := 16) (b := 6 * ((0 : Nat) : Int)) rfl rfl (by omega) ?_
   rw [show (16 : Int) + 6 * ((0 : Nat) : Int) = ((16 + 6 * (0) : Nat) : Int) by omega]
   conv => whnf
   refine EPrim.ixsS rfl hB rfl (by omega) ?_; conv => whnf
   refine EHead.mk (v := .int .u8 ((B.getD (16 + 6 * (0)) 0 : Nat) : Int)) (byte_head (by omega)) ?_; conv => whnf
   refine EPrim.eql (a := ((B.getD (16 + 6 * (0)) 0 : Nat) : Int)) (b := 1) rfl rfl (fun q hq => ?_)
   obtain rfl : decide (((B.getD (16 + 6 * (0)) 0 : Nat) : Int) = 1) = q := by
    cases q with
    | true => exact decide_eq_true (hq.1 rfl)
    | false => exact decide_eq_false (fun h => by have := hq.2 h; cases this)
   conv => whnf
   refine EPrim.mulS (a := 6) (b := ((0 : Nat) : Int)) rfl rfl (by omega) ?_; conv => whnf
   refine EPrim.addS (a := 17) (b := 6 * ((0 : Nat) : Int)) rfl rfl (by omega) ?_
   rw [show (17 : Int) + 6 * ((0 : Nat) : Int) = ((17 + 6 * (0) : Nat) : Int) by omega]
   conv => whnf
   refine hnum (17 + 6 * (0)) (by omega) _ _ ?_; conv => whnf
   repeat' (first | (refine ⟨rfl, ?_⟩; conv => whnf) | fail)
   refine EHead.mk (v := .int .u8 ((B.getD (15 + 6 * (0)) 0 : Nat) : Int)) (byte_head (by omega)) ?_; conv => whnf
   refine ⟨rfl, ?_⟩; conv => whnf
   refine EHead.mk (v := .int .u8 ((B.getD (16 + 6 * (0)) 0 : Nat) : Int)) (byte_head (by omega)) ?_; conv => whnf
   refine ⟨rfl, ?_⟩; conv => whnf
   refine EPrim.appNil (m := 1) rfl rfl rfl rfl (by decide) (by decide) ?_; conv => whnf
   repeat' (first | ((first | refine w7 rfl rfl (by omega) ?_ | refine ⟨rfl, ?_⟩); conv => whnf) | fail)
   refine ⟨0 + 1, by omega, by omega, Abs.tells (rs := [0, 1, 3]) ⟨by decide, ⟨⟨rfl, rfl⟩, ⟨rfl, rfl⟩, ⟨rfl, rfl⟩, ⟨rfl, rfl⟩, trivial⟩, ⟨⟨rfl, rfl⟩, ⟨rfl, rfl⟩, ⟨rowH (hfs_rcs _), ?_⟩, trivial⟩⟩⟩
   rw [mapRowH (hfs_rcs _), hrs, rcs_append]; rfl
  ·conv => whnf
   refine EPrim.ixsS (i := 14) rfl hB rfl (by decide) ?_; conv => whnf
   refine EHead.mk (v := .int .u8 ((B.getD 14 0 : Nat) : Int)) (byte_head (i := 14) (by omega)) ?_; conv => whnf
   refine EPrim.cviZ (q' := .i64) (a := ((B.getD 14 0 : Nat) : Int)) rfl (i64_in (by omega)) ?_; conv => whnf
   refine EPrim.lss2 (a := ((i + 1 : Nat) : Int)) (b := ((B.getD 14 0 : Nat) : Int)) rfl rfl (fun _ => ?_) (fun h => by omega); conv => whnf
   refine EPrim.lss2 (a := ((i + 1 : Nat) : Int)) (b := 16) rfl rfl (fun _ => ?_) (fun h => by omega); conv => whnf
   refine EPrim.mulS (a := 6) (b := ((i + 1 : Nat) : Int)) rfl rfl (by omega) ?_; conv => whnf
   refine EPrim.addS (a := 15) (b := 6 * ((i + 1 : Nat) : Int)) rfl rfl (by omega) ?_
   rw [show (15 : Int) + 6 * ((i + 1 : Nat) : Int) = ((15 + 6 * (i + 1) : Nat) : Int) by omega]
   conv => whnf
   refine EPrim.ixsS rfl hB rfl (by omega) ?_; conv => whnf
   refine EHead.mk (v := .int .u8 ((B.getD (15 + 6 * (i + 1)) 0 : Nat) : Int)) (byte_head (by omega)) ?_; conv => whnf
   refine EPrim.mulS (a := 6) (b := ((i + 1 : Nat) : Int)) rfl rfl (by omega) ?_; conv => whnf
   refine EPrim.addS (a := 16) (b := 6 * ((i + 1 : Nat) : Int)) rfl rfl (by omega) ?_
   rw [show (16 : Int) + 6 * ((i + 1 : Nat) : Int) = ((16 + 6 * (i + 1) : Nat) : Int) by omega]
   conv => whnf
   refine EPrim.ixsS rfl hB rfl (by omega) ?_; conv => whnf
   refine EHead.mk (v := .int .u8 ((B.getD (16 + 6 * (i + 1)) 0 : Nat) : Int)) (byte_head (by omega)) ?_; conv => whnf
   refine EPrim.eql (a := ((B.getD (16 + 6 * (i + 1)) 0 : Nat) : Int)) (b := 1) rfl rfl (fun q hq => ?_)
   obtain rfl : decide (((B.getD (16 + 6 * (i + 1)) 0 : Nat) : Int) = 1) = q := by
    cases q with
    | true => exact decide_eq_true (hq.1 rfl)
    | false => exact decide_eq_false (fun h => by have := hq.2 h; cases this)
   conv => whnf
   refine EPrim.mulS (a := 6) (b := ((i + 1 : Nat) : Int)) rfl rfl (by omega) ?_; conv => whnf
   refine EPrim.addS (a := 17) (b := 6 * ((i + 1 : Nat) : Int)) rfl rfl (by omega) ?_
   rw [show (17 : Int) + 6 * ((i + 1 : Nat) : Int) = ((17 + 6 * (i + 1) : Nat) : Int) by omega]
   conv => whnf
   refine hnum (17 + 6 * (i + 1)) (by omega) _ _ ?_; conv => whnf
   repeat' (first | (refine ⟨rfl, ?_⟩; conv => whnf) | fail)
   refine EHead.mk (v := .int .u8 ((B.getD (15 + 6 * (i + 1)) 0 : Nat) : Int)) (byte_head (by omega)) ?_; conv => whnf
   refine ⟨rfl, ?_⟩; conv => whnf
   refine EHead.mk (v := .int .u8 ((B.getD (16 + 6 * (i + 1)) 0 : Nat) : Int)) (byte_head (by omega)) ?_; conv => whnf
   refine ⟨rfl, ?_⟩; conv => whnf
   refine EPrim.appU (m := 1) rfl rfl rfl rfl (by rw [rcs_length, hrl]) rfl (by decide) (by omega) ?_; conv => whnf
   repeat' (first | ((first | refine w7 rfl rfl (by omega) ?_ | refine ⟨rfl, ?_⟩); conv => whnf) | fail)
   refine ⟨i + 1 + 1, by omega, by omega, Abs.tells (rs := [0, 1, 4]) ⟨by decide, ⟨⟨rfl, rfl⟩, ⟨rfl, rfl⟩, ⟨rfl, rfl⟩, ⟨rfl, rfl⟩, trivial⟩, ⟨⟨rfl, rfl⟩, ⟨rfl, rfl⟩, ⟨rowH (hfs_rcs _), ?_⟩, trivial⟩⟩⟩
   rw [mapRowH (hfs_rcs _), hrs, rcs_append]; rfl
 ·have hie : i = cnt16 B := by omega
  rcases i with _ | i
  ·conv => whnf
   refine EPrim.ixsS (i := 14) rfl hB rfl (by decide) ?_; conv => whnf
   refine EHead.mk (v := .int .u8 ((B.getD 14 0 : Nat) : Int)) (byte_head (i := 14) (by omega)) ?_; conv => whnf
   refine EPrim.cviZ (q' := .i64) (a := ((B.getD 14 0 : Nat) : Int)) rfl (i64_in (by omega)) ?_; conv => whnf
   refine EPrim.lss2 (a := ((0 : Nat) : Int)) (b := ((B.getD 14 0 : Nat) : Int)) rfl rfl (fun h => by omega) (fun _ => ?_); conv => whnf
   refine W.tells (Abs.tells (tl := [(2, .ptr 0 0), (4, fzB B), (5, .ptr 1 0)]) (os := [.row 101 zNote, .row 101 (nt16 B .nils).c]) (rs := [0, 1]) ⟨by decide, ⟨⟨rfl, rfl⟩, ⟨rfl, rfl⟩, ⟨rfl, rfl⟩, trivial⟩, ⟨⟨rfl, rfl⟩, ⟨rfl, rfl⟩, trivial⟩⟩) (hres .nils (by rw [← hie]; rfl))
  ·conv => whnf
   refine EPrim.ixsS (i := 14) rfl hB rfl (by decide) ?_; conv => whnf
   refine EHead.mk (v := .int .u8 ((B.getD 14 0 : Nat) : Int)) (byte_head (i := 14) (by omega)) ?_; conv => whnf
   refine EPrim.cviZ (q' := .i64) (a := ((B.getD 14 0 : Nat) : Int)) rfl (i64_in (by omega)) ?_; conv => whnf
   refine EPrim.lss2 (a := ((i + 1 : Nat) : Int)) (b := ((B.getD 14 0 : Nat) : Int)) rfl rfl (fun _ => ?_) (fun _ => ?_)
   ·conv => whnf
    refine EPrim.lss2 (a := ((i + 1 : Nat) : Int)) (b := 16) rfl rfl (fun h => by omega) (fun _ => ?_); conv => whnf
    refine W.tells (AbsK.frz (k := 0) (n := 2) (e := 123) (cs := rcs (rdRecs B (i + 1))) (tl := [(2, .ptr 0 0), (4, fzB B), (5, .ptr 1 0)]) (tl2 := [(2, .ptr 0 0), (4, fzB B), (5, .ptr 1 0)]) (os := [.row 101 zNote, .row 101 (nt16 B (.sl 2 0 (i + 1) none)).c]) (os2 := [.row 101 zNote, .row 101 (nt16 B (.fz (i + 1) none (rcs (rdRecs B (i + 1))))).c]) (rs := [0, 1, 2])
     ⟨rfl, by decide, ⟨⟨rfl, rfl⟩, ⟨rfl, rfl⟩, ⟨rfl, rfl⟩, trivial⟩, ⟨⟨rfl, rfl⟩, ⟨rfl, rfl⟩, ⟨rowH (hfs_rcs _), by rw [mapRowH (hfs_rcs _)]; rfl⟩, trivial⟩⟩ rfl (hfs_rcs _) rfl rfl rfl rfl rfl rfl) (hres _ (by rw [← hie]; rfl))
   ·conv => whnf
    refine W.tells (AbsK.frz (k := 0) (n := 2) (e := 123) (cs := rcs (rdRecs B (i + 1))) (tl := [(2, .ptr 0 0), (4, fzB B), (5, .ptr 1 0)]) (tl2 := [(2, .ptr 0 0), (4, fzB B), (5, .ptr 1 0)]) (os := [.row 101 zNote, .row 101 (nt16 B (.sl 2 0 (i + 1) none)).c]) (os2 := [.row 101 zNote, .row 101 (nt16 B (.fz (i + 1) none (rcs (rdRecs B (i + 1))))).c]) (rs := [0, 1, 2])
     ⟨rfl, by decide, ⟨⟨rfl, rfl⟩, ⟨rfl, rfl⟩, ⟨rfl, rfl⟩, trivial⟩, ⟨⟨rfl, rfl⟩, ⟨rfl, rfl⟩, ⟨rowH (hfs_rcs _), by rw [mapRowH (hfs_rcs _)]; rfl⟩, trivial⟩⟩ rfl (hfs_rcs _) rfl rfl rfl rfl rfl rfl) (hres _ (by rw [← hie]; rfl))
end Go.AM
set_option maxRecDepth 100000
namespace Go.AM
attribute [local irreducible] W
open X
def lastI (l : List Int) (i : Nat) : Int := match i with
 | 0 => -1
 | i + 1 => match l[i]? with
  | some s => s
  | none => -1
theorem ints_at {l : List Int} {i : Nat} (h : i < l.length) : ((ints l).drop (i * 1))[0]? = some (.int .i64 l[i]) := by
 rw [Nat.mul_one, List.getElem?_drop, Nat.add_zero]
 unfold ints
 rw [List.getElem?_map, List.getElem?_eq_getElem h]; rfl
theorem slotsRF_ok {P : Program} {e : Env} {fn : Func} (hE : EnvOk P e) (hm : P.follows .mixedOrders = true) (hf : P.funcs[155]? = some fn) (hc : compF P fn = some a155) (hb : HasBody P 155) : OvOk P 155 slotsF.O := by
 refine Fam.ok_of hb fun x hx => ?_
 obtain ⟨⟨id, mb, ch, ro, lo, he⟩, v, l⟩ := x
 obtain ⟨hco, hM, hs, hbd, hln⟩ := hx
 unfold Cfg.may at hM
 dsimp only at hs hbd hln hM
 have hvf := hs.hf
 refine ⟨by show (true && (AM.hf v && true)) = true; rw [hs.hf]; rfl, rfl, C.of_V hE hm hf hc ?_⟩
 have fin : ∀ s (b : Bool), b = (slotB (mb - 2) (-1) l && decide (0 < l.length)) → Frz s (.bool b) (.bool (slotsOk (mb - 2) l)) := by
  rintro s b rfl; exact .plain _ rfl
 show VW P e 0 (match a155 with | .mk c _ => c) (initT [AV.agg [.int .u32 id, .int .i64 mb, .int .i64 ch, .int .i64 ro, .int .i64 lo, .int .i64 he], v] 0 .lf) St0 none [] (EEnd [.tmp 4] (fun w s' => Frz s' w (.bool (slotsOk (mb - 2) l))))
 generalize AV.bool (slotsOk (mb - 2) l) = O at fin ⊢
 conv => whnf
 refine W.loopT (α := Nat) (fun i => [(1, v), (2, .ptr 0 0), (5, .int .i64 (i : Int))]) (fun _ => [.row 24 [.int .u32 id, .int .i64 mb, .int .i64 ch, .int .i64 ro, .int .i64 lo, .int .i64 he]]) (fun i => l.length - i) (fun i => i ≤ l.length ∧ slotB (mb - 2) (-1) l = slotB (mb - 2) (lastI l i) (l.drop i) ∧ -1 ≤ lastI l i ∧ (0 < i → 0 ≤ lastI l i)) 0 ⟨Nat.zero_le _, rfl, Int.le_refl _, fun h => by omega⟩
  (Abs.tells (rs := [0]) ⟨by decide, ⟨⟨hf_bd _ hvf, by rw [hf_mapV _ hvf]; rfl⟩, ⟨rfl, rfl⟩, ⟨rfl, rfl⟩, trivial⟩, ⟨⟨rfl, rfl⟩, trivial⟩⟩) ?_
 rintro i ⟨hi, hI, hla, hla0⟩
 refine vw_sound hE hm ?_
 by_cases hlt : i < l.length
 ·have hro := hbd _ (List.getElem_mem hlt)
  have hd := ints_at hlt
  have hln1 : lastI l (i + 1) = l[i] := by show (match l[i]? with | some s => s | none => -1) = _; rw [List.getElem?_eq_getElem hlt]
  rw [List.drop_eq_getElem_cons hlt] at hI
  have hall := And.intro hro (And.intro hd (And.intro hln1 hI))
  clear hro hd hln1 hI
  revert hall
  generalize l[i] = s
  rintro ⟨hsb, hd, hln1, hI⟩
  unfold i64B at hsb
  have hI : slotB (mb - 2) (-1) l = (decide (lastI l i < s ∧ s ≤ mb - 2) && slotB (mb - 2) s (l.drop (i + 1))) := hI
  have no : ¬ (lastI l i < s ∧ s ≤ mb - 2) → ∀ S, Frz S (.bool false) O := fun h S => fin S false (by rw [hI, decide_eq_false h]; rfl)
  have yes : (lastI l i < s ∧ s ≤ mb - 2) → slotB (mb - 2) (-1) l = slotB (mb - 2) (lastI l (i + 1)) (l.drop (i + 1)) ∧ -1 ≤ lastI l (i + 1) ∧ (0 < i + 1 → 0 ≤ lastI l (i + 1)) := fun h => ⟨by rw [hI, decide_eq_true h, hln1]; rfl, by rw [hln1]; omega, fun _ => by rw [hln1]; omega⟩
  clear hI fin
  have hend : (lastI l i < s ∧ s ≤ mb - 2) → ∀ t S, t.get 1 = some v → t.get 2 = some (.ptr 0 0) → t.get 5 = some (.int .i64 ((i : Int) + 1)) → S.get 0 = some (.row 24 [.int .u32 id, .int .i64 mb, .int .i64 ch, .int .i64 ro, .int .i64 lo, .int .i64 he]) →
   ∃ x', (x' ≤ l.length ∧ slotB (mb - 2) (-1) l = slotB (mb - 2) (lastI l x') (l.drop x') ∧ -1 ≤ lastI l x' ∧ (0 < x' → 0 ≤ lastI l x')) ∧ l.length - x' < l.length - i ∧ Tells P 0 t S [] (ofL [(1, v), (2, .ptr 0 0), (5, .int .i64 (x' : Int))]) (allocs St0 [.row 24 [.int .u32 id, .int .i64 mb, .int .i64 ch, .int .i64 ro, .int .i64 lo, .int .i64 he]]) [] := fun h0 t S g1 g2 g5 gr =>
   ⟨i + 1, ⟨hlt, yes h0⟩, by omega, Abs.tells (rs := [0]) ⟨by decide, ⟨⟨hf_bd _ hvf, by rw [hf_mapV _ hvf]; exact g1⟩, ⟨rfl, g2⟩, ⟨rfl, g5⟩, trivial⟩, ⟨⟨rfl, gr⟩, trivial⟩⟩⟩
  conv => whnf
  refine EPrim.lenZ rfl hs ?_; conv => whnf
  refine EPrim.lss2 (a := (i : Int)) (b := (l.length : Int)) rfl rfl (fun _ => ?_) (fun h => by omega); conv => whnf
  refine EPrim.ixsS rfl hs rfl hlt ?_; conv => whnf
  refine EHead.mk (v := .int .i64 s) hd ?_; conv => whnf
  refine EPrim.lss2 (a := s) (b := 0) rfl rfl (fun h1 => ?_) (fun h1 => ?_)
  ·conv => whnf
   skip
   exact no (by omega) _
  conv => whnf
  refine EPrim.ixsS rfl hs rfl hlt ?_; conv => whnf
  refine EHead.mk (v := .int .i64 s) hd ?_; conv => whnf
  refine EPrim.subS (a := mb) (b := 2) rfl rfl (by omega) ?_; conv => whnf
  refine EPrim.gtr2 (a := s) (b := mb - 2) rfl rfl (fun h2 => ?_) (fun h2 => ?_)
  ·conv => whnf
   skip
   exact no (by omega) _
  conv => whnf
  rcases i with _ | j
  ·have hl0 : lastI l 0 = -1 := rfl
   refine EPrim.gtr2 (a := ((0 : Nat) : Int)) (b := 0) rfl rfl (fun h => by omega) (fun _ => ?_); conv => whnf
   repeat' (first | ((first | refine w7 rfl rfl (by omega) ?_ | refine ⟨rfl, ?_⟩); conv => whnf) | fail)
   exact hend (by omega) _ _ rfl rfl rfl rfl
  ·have hlj : j < l.length := by omega
   have hlaj : lastI l (j + 1) = l[j] := by show (match l[j]? with | some s => s | none => -1) = _; rw [List.getElem?_eq_getElem hlj]
   have hdj := ints_at hlj
   have hrj := hbd _ (List.getElem_mem hlj)
   have hall := And.intro hlaj (And.intro hdj hrj)
   clear hlaj hdj hrj
   revert hall
   generalize l[j] = s'
   rintro ⟨hlaj, hdj, hrj⟩
   refine EPrim.gtr2 (a := ((j + 1 : Nat) : Int)) (b := 0) rfl rfl (fun _ => ?_) (fun h => by omega); conv => whnf
   refine EPrim.ixsS rfl hs rfl hlt ?_; conv => whnf
   refine EHead.mk (v := .int .i64 s) hd ?_; conv => whnf
   refine EPrim.subS (a := ((j + 1 : Nat) : Int)) (b := 1) rfl rfl (by omega) ?_
   rw [show ((j + 1 : Nat) : Int) - 1 = (j : Int) by omega]
   conv => whnf
   refine EPrim.ixsS rfl hs rfl hlj ?_; conv => whnf
   refine EHead.mk (v := .int .i64 s') hdj ?_; conv => whnf
   repeat' (first | ((refine w2 rfl rfl ?_ ?_) <;> intro _ <;> first | (exfalso; omega) | (conv => whnf)) | ((first | refine w7 rfl rfl (by omega) ?_ | refine ⟨rfl, ?_⟩); conv => whnf) | fail)
   all_goals first
    | exact hend (by omega) _ _ rfl rfl rfl rfl
    | exact no (by omega) _
 ·rw [List.drop_eq_nil_of_le (by omega)] at hI
  have hI : slotB (mb - 2) (-1) l = true := hI
  conv => whnf
  refine EPrim.lenZ rfl hs ?_; conv => whnf
  refine EPrim.lss2 (a := (i : Int)) (b := (l.length : Int)) rfl rfl (fun _ => by omega) (fun h => ?_); conv => whnf
  refine EPrim.lenZ rfl hs ?_; conv => whnf
  refine EPrim.geq2 (a := (l.length : Int)) (b := 1) rfl rfl (fun h => ?_) (fun h => ?_) <;> conv => whnf
  ·exact fin _ _ (by rw [hI, decide_eq_true (by omega)]; rfl)
  ·exact fin _ _ (by rw [hI, decide_eq_false (by omega)]; rfl)
structure CD.m (x : CD) : Prop where
 ok : x.ok
 m : x.c.may
def dlmF : Fam CD := ⟨CD.m, fun x => [x.c.v, x.d.v], fun x => .bool (dealB x.c x.d), fun x y hx hy h => by
 obtain ⟨c, d⟩ := x
 obtain ⟨c', d'⟩ := y
 have h1 : c = c' := Cfg.injv (List.cons.inj h).1
 have h2 : d = d' := Dl.inj hx.ok.d hy.ok.d (List.cons.inj (List.cons.inj h).2).1
 subst h1 h2; rfl⟩
theorem dealB_iff (c : Cfg) (d : Dl) : dealB c d = true ↔ (0 ≤ d.stripe ∧ d.stripe < c.chunk * c.rows) ∧ slotsOk (c.members - 2) d.sl = true ∧ d.b.ns.length = d.sl.length ∧ (∀ n ∈ d.b.ns, oddB n = false) ∧ oddB d.pn = false := by
 unfold dealB
 simp only [Bool.and_eq_true, Bool.not_eq_true', decide_eq_true_eq, List.any_eq_false]
 constructor
 ·rintro ⟨⟨⟨⟨h1, h2⟩, h3⟩, h4⟩, h5⟩
  exact ⟨h2, h3, h4, fun n hn => by simpa using h1 n hn, h5⟩
 ·rintro ⟨h2, h3, h4, h1, h5⟩
  exact ⟨⟨⟨⟨fun n hn => by simpa using h1 n hn, h2⟩, h3⟩, h4⟩, h5⟩
def code116 : AC := match a116 with | .mk c _ => c
theorem dlmF_ok {P : Program} {e : Env} {fn : Func} (hE : EnvOk P e) (hm : P.follows .mixedOrders = true) (h154 : Inl e 154 code154 [.tmp 2]) (h155 : Con e 155 slotsF.O) (h149 : Con e 149 sizF.O) (hf : P.funcs[116]? = some fn) (hc : compF P fn = some a116) (hb : HasBody P 116) : OvOk P 116 dlmF.O := by
 refine Fam.ok_of hb fun x hx => ?_
 obtain ⟨c, d⟩ := x
 obtain ⟨⟨hc0, hd0⟩, hM⟩ := hx
 dsimp only at hc0 hd0 hM
 refine ⟨by show (AM.hf c.v && (AM.hf d.v && true)) = true; rw [Dl.hf hd0]; rfl, rfl, C.of_V hE hm hf hc ?_⟩
 have fin1 : dealB c d = true → ∀ s, Frz s (.bool true) (dlmF.out ⟨c, d⟩) := by intro h s; show Frz s _ (.bool (dealB c d)); rw [h]; exact .plain _ rfl
 have fin0 : ¬ dealB c d = true → ∀ s, Frz s (.bool false) (dlmF.out ⟨c, d⟩) := by intro h s; show Frz s _ (.bool (dealB c d)); rw [Bool.eq_false_iff.2 h]; exact .plain _ rfl
 rw [dealB_iff] at fin0 fin1
 generalize dlmF.out ⟨c, d⟩ = O at fin0 fin1 ⊢
 have hcf : hfs c.c = true := rfl
 have hdf : hfs d.c = true := Dl.hf hd0
 obtain ⟨hst, hsl, hsb, hsn, hbl, hp⟩ := hd0
 obtain ⟨st, sv, sl, ⟨bv, us, ns⟩, pv, pn⟩ := d
 obtain ⟨hbs, hbn, hbc⟩ := hbl
 obtain ⟨⟨pl, hpl⟩, hpn⟩ := hp
 dsimp only at hst hsl hsb hsn hbs hbn hbc hpl hpn fin0 fin1
 have hbu := hbn.length
 have hSl := fun (K : AV → St → Prop) (s : St) (hk : K (.bool (slotsOk (c.members - 2) sl)) s) => ESc.fam (k := K) (s := s) slotsF h155 ⟨c, sv, sl⟩ ⟨hc0, hM, hsl, hsb, hsn⟩ rfl hk
 have hPp := fun (K : AV → St → Prop) (s : St) (hk : K (.bool (!oddB pn)) s) => ESc.fam (k := K) (s := s) sizF h149 ⟨pv, pn⟩ ⟨⟨pl, hpl⟩, hpn⟩ rfl hk
 have hM' := hM
 unfold Cfg.may at hM'
 have hmul := mul_small (a := c.chunk) (b := c.rows) (by omega) (by omega)
 obtain ⟨id, mb, ch, ro, lo, he⟩ := c
 dsimp only at hM' hmul fin0 fin1 hSl
 unfold i64B at hst
 have hcf : hfs [.int .u32 id, .int .i64 mb, .int .i64 ch, .int .i64 ro, .int .i64 lo, .int .i64 he] = true := rfl
 have hdf : hfs [.int .i64 st, sv, bv, pv] = true := hdf
 show VW P e 0 code116 (initT [.agg [.int .u32 id, .int .i64 mb, .int .i64 ch, .int .i64 ro, .int .i64 lo, .int .i64 he], .agg [.int .i64 st, sv, bv, pv]] 0 .lf) St0 none [] _
 conv => whnf
 refine EPrim.lss2 (a := st) (b := 0) rfl rfl (fun h1 => ?_) (fun h1 => ?_)
 ·conv => whnf
  skip
  exact fin0 (by rintro ⟨h, _⟩; omega) _
 conv => whnf
 refine ESc.inl h154 ?_; conv => whnf
 refine EPrim.mulS (a := ch) (b := ro) rfl rfl hmul ?_; conv => whnf
 refine ⟨rfl, ?_⟩; conv => whnf
 refine EPrim.geq2 (a := st) (b := ch * ro) rfl rfl (fun h2 => ?_) (fun h2 => ?_)
 ·conv => whnf
  skip
  exact fin0 (by rintro ⟨h, _⟩; omega) _
 conv => whnf
 refine hSl _ _ ?_
 cases hq : slotsOk (mb - 2) sl
 ·conv => whnf
  refine EPrim.notF rfl ?_; conv => whnf
  skip
  exact fin0 (by rintro ⟨_, h, _⟩; rw [hq] at h; cases h) _
 conv => whnf
 refine EPrim.notT rfl ?_; conv => whnf
 refine EPrim.lenZ rfl hbs ?_; conv => whnf
 refine EPrim.lenZ rfl hsl ?_; conv => whnf
 refine EPrim.neq2 (a := (us.length : Int)) (b := (sl.length : Int)) rfl rfl (fun h3 => ?_) (fun h3 => ?_)
 ·conv => whnf
  skip
  exact fin0 (by rintro ⟨_, _, h, _⟩; omega) _
 conv => whnf
 refine W.loopT (α := Nat) (fun i => [(2, .ptr 0 0), (3, .ptr 1 0), (5, .int .i64 (i : Int))]) (fun _ => [.row 24 [.int .u32 id, .int .i64 mb, .int .i64 ch, .int .i64 ro, .int .i64 lo, .int .i64 he], .row 34 [.int .i64 st, sv, bv, pv]]) (fun i => us.length - i) (fun i => i ≤ us.length ∧ ∀ n ∈ ns.take i, oddB n = false) 0 ⟨Nat.zero_le _, fun b hb => by simp at hb⟩
  (Abs.tells (rs := [0, 1]) ⟨by decide, ⟨⟨rfl, rfl⟩, ⟨rfl, rfl⟩, ⟨rfl, rfl⟩, trivial⟩, ⟨⟨rowH hcf, by rw [mapRowH hcf]; rfl⟩, ⟨rowH hdf, by rw [mapRowH hdf]; rfl⟩, trivial⟩⟩) ?_
 rintro i ⟨hi, hI⟩
 refine vw_sound hE hm ?_
 by_cases hlt : i < us.length
 ·obtain ⟨n, hn1, hn2⟩ := hbn.get (List.getElem?_eq_getElem hlt)
  have hnm := List.mem_of_getElem? hn1
  have q1 : ((us.drop (i * 1)))[0]? = some us[i] := by rw [Nat.mul_one, List.getElem?_drop, Nat.add_zero, List.getElem?_eq_getElem hlt]
  have hall := And.intro q1 hn2
  clear q1 hn2
  revert hall
  generalize us[i] = u
  rintro ⟨q1, hn2⟩
  conv => whnf
  refine EPrim.lenZ rfl hbs ?_; conv => whnf
  refine EPrim.lss2 (a := (i : Int)) (b := (us.length : Int)) rfl rfl (fun _ => ?_) (fun h => by omega); conv => whnf
  refine EPrim.ixsS rfl hbs rfl hlt ?_; conv => whnf
  refine EHead.mk (v := u) q1 ?_; conv => whnf
  refine ESc.fam sizF h149 ⟨u, n⟩ hn2 (u := .bool (!oddB n)) rfl ?_
  cases ho : oddB n
  ·conv => whnf
   refine EPrim.notT rfl ?_; conv => whnf
   repeat' (first | ((first | refine w7 rfl rfl (by omega) ?_ | refine ⟨rfl, ?_⟩); conv => whnf) | fail)
   refine ⟨i + 1, ⟨hlt, fun m hm => ?_⟩, by omega, Abs.tells (rs := [0, 1]) ⟨by decide, ⟨⟨rfl, rfl⟩, ⟨rfl, rfl⟩, ⟨rfl, rfl⟩, trivial⟩, ⟨⟨rowH hcf, by rw [mapRowH hcf]; rfl⟩, ⟨rowH hdf, by rw [mapRowH hdf]; rfl⟩, trivial⟩⟩⟩
   rcases mem_take_succ hn1 hm with hm | rfl
   ·exact hI m hm
   ·exact ho
  ·conv => whnf
   refine EPrim.notF rfl ?_; conv => whnf
   skip
   exact fin0 (by rintro ⟨_, _, _, h, _⟩; rw [h n hnm] at ho; cases ho) _
 ·have hI' : ∀ n ∈ ns, oddB n = false := by rw [List.take_of_length_le (by omega)] at hI; exact hI
  conv => whnf
  refine EPrim.lenZ rfl hbs ?_; conv => whnf
  refine EPrim.lss2 (a := (i : Int)) (b := (us.length : Int)) rfl rfl (fun _ => by omega) (fun h => ?_); conv => whnf
  refine hPp _ _ ?_
  cases ho : oddB pn
  ·conv => whnf
   exact fin1 ⟨by omega, hq, by omega, hI', ho⟩ _
  ·conv => whnf
   exact fin0 (by rintro ⟨_, _, _, _, h⟩; rw [h] at ho; cases ho) _
end Go.AM
set_option maxRecDepth 100000
namespace Go.AM
attribute [local irreducible] W
open X
noncomputable def sumVO (args : List AV) (s : St) : RV := match args with
 | [v] => Option.rec .fail (fun bs => gd (Nat.blt (lenL bs) 1000000) (.ok (.int .u32 ((sumN bs : Nat) : Int)) s)) (bytesAt s v)
 | _ => .fail
theorem sumVO_ok {P : Program} (hO : OvOk P 115 sumRF.O) : OvOk P 115 sumVO := by
 refine ⟨hO.1, fun args s v s' h => ?_⟩
 unfold sumVO at h
 split at h
 ·rename_i u
  obtain ⟨bs, hbs, h⟩ := opt_ok h
  obtain ⟨h2, h⟩ := gd_ok h
  obtain ⟨rfl, rfl⟩ := ok_inj h
  rw [Nat.blt_eq, lenL_eq] at h2
  obtain ⟨v2, hF, hSl, hlt⟩ := bytesAt_view hbs
  exact C.view (args2 := [v2]) (.cons hF .nil) rfl (hO.2 [v2] St0 _ _ (Fam.O_run sumRF (x := ⟨v2, bs⟩) ⟨⟨hSl, hlt⟩, h2⟩ St0))
 ·cases h
theorem sumVO_row {s : St} {r e : Nat} {c : Option Nat} {bs : List Nat} (h : s.get r = some (.row e (bys bs))) (hn : bs.length = 128) (hb : ∀ b ∈ bs, b < 256) : sumVO [.sl r 0 128 c] s = .ok (.int .u32 ((sumN bs : Nat) : Int)) s := by
 show (Option.rec .fail (fun bs => gd (Nat.blt (lenL bs) 1000000) (.ok (.int .u32 ((sumN bs : Nat) : Int)) s)) (bytesAt s (.sl r 0 128 c)) : RV) = _
 rw [bytesAt_row h hn hb]
 show gd (Nat.blt (lenL bs) 1000000) _ = _
 rw [lenL_eq, hn]; rfl
def tlU (a : Int) (i : Nat) : List (Nat × AV) := [(2, .int .i64 a), (3, .ptr 0 0), (4, .ptr 1 0), (6, .ptr 2 0), (8, .ptr 3 0), (10, .ptr 4 0), (11, .int .i64 (i : Int))]
def osT (C D : List AV) (F N : List AV) : List AObj := [.row 24 C, .row 28 D, .row 36 zFc, .row 101 N, .row 36 F]
def osU (C D : List AV) (n : Nt) (x : RdS) : List AObj := osT C D (fG n 5 x) (ntC n n.v) ++ rwG x
theorem st_app {P : Program} {t : AT} {s : St} {C D : List AV} (hC : hfs C = true) (hD : hfs D = true) {a sl : Int} {n : Nt} (hn : AM.hf n.v = true) {S : List (Int × List Nat)} {p : Option (List Nat)} {see : List Nat} {cp : Option Nat} {i : Nat} {rs : List Nat}
 (h : AbsK 0 t s (tlU a i) (osT C D [.int .u32 n.age, .int .u32 n.seq, .int .i64 n.stripe, .sl 5 0 (S.length + 1) none, .sl 6 0 (S.length + 1) none, rpaV p] (ntC n n.v) ++ [.row 3 (ints (S.map Prod.fst) ++ [.int .i64 sl]), .row 32 ((S.map fun p => fzN p.2) ++ [.sl 7 0 128 cp])] ++ [.row 5 (bys see)]) rs) :
 Tells P 0 t s [] (ofL (tlU a i)) (allocs St0 (osU C D n ⟨S ++ [(sl, see)], p⟩)) [] := by
 have hnc : hfs (ntC n n.v) = true := by
  show (true && (true && (true && (true && (AM.hf n.v && true))))) = true
  rw [hn]; rfl
 refine AbsK.frn (n := 7) (e := 5) (cs := bys see) h rfl (scs_hfs_bys _) rfl rfl rfl rfl rfl ?_
 have e1 : osU C D n ⟨S ++ [(sl, see)], p⟩ = osT C D [.int .u32 n.age, .int .u32 n.seq, .int .i64 n.stripe, .sl 5 0 (S.length + 1) none, .sl 6 0 (S.length + 1) none, rpaV p] (ntC n n.v) ++ [.row 3 (ints (S.map Prod.fst) ++ [.int .i64 sl]), .row 32 ((S.map fun p => fzN p.2) ++ [fzN see])] := by
  cases S with
  | nil => rfl
  | cons q S =>
   show osT C D [_, _, _, .sl 5 0 ((S ++ [(sl, see)]).length + 1) none, .sl 6 0 ((S ++ [(sl, see)]).length + 1) none, rpaV p] (ntC n n.v) ++ [.row 3 (ints ((q :: (S ++ [(sl, see)])).map Prod.fst)), .row 32 ((q :: (S ++ [(sl, see)])).map fun p => fzN p.2)] = _
   rw [List.length_append]
   unfold ints
   simp
 rw [e1]
 show [frnO 7 _ (.row 24 C), frnO 7 _ (.row 28 D), _, frnO 7 _ (.row 101 (ntC n n.v)), AObj.row 36 [_, _, _, _, _, frnV 7 _ (rpaV p)], AObj.row 3 (frnVs 7 _ (ints (S.map Prod.fst) ++ [.int .i64 sl])), AObj.row 32 (frnVs 7 _ ((S.map fun p => fzN p.2) ++ [.sl 7 0 128 cp]))] = _
 rw [frnRowH hC, frnRowH hD, frnRowH hnc, hf_frnV _ (hf_rpaV p), frnVs_append, frnVs_append, hfs_frnVs _ (hfs_ints _), hfs_frnVs _ (hfs_fzBs _)]
 rfl
theorem st_par {P : Program} {t : AT} {s : St} {C D : List AV} (hC : hfs C = true) (hD : hfs D = true) {a : Int} {n : Nt} (hn : AM.hf n.v = true) {S : List (Int × List Nat)} {p' : Option (List Nat)} {see : List Nat} {cp : Option Nat} {i : Nat} {rs : List Nat}
 (h : AbsK 0 t s (tlU a i) ((osT C D (fH n 5 (match S with | [] => 5 | _ => 7) S cp) (ntC n n.v) ++ rwG ⟨S, p'⟩) ++ [.row 5 (bys see)]) rs) :
 Tells P 0 t s [] (ofL (tlU a i)) (allocs St0 (osU C D n ⟨S, some see⟩)) [] := by
 have hnc : hfs (ntC n n.v) = true := by
  show (true && (true && (true && (true && (AM.hf n.v && true))))) = true
  rw [hn]; rfl
 cases S with
 | nil =>
  refine AbsK.frz (n := 5) (e := 5) (cs := bys see) h rfl (scs_hfs_bys _) rfl rfl rfl rfl rfl ?_
  show [frzO 5 _ (.row 24 C), frzO 5 _ (.row 28 D), _, frzO 5 _ (.row 101 (ntC n n.v)), _] = _
  rw [frzRowH hC, frzRowH hD, frzRowH hnc]
  rfl
 | cons q S =>
  refine AbsK.frz (n := 7) (e := 5) (cs := bys see) h rfl (scs_hfs_bys _) rfl rfl rfl rfl rfl ?_
  show [frzO 7 _ (.row 24 C), frzO 7 _ (.row 28 D), _, frzO 7 _ (.row 101 (ntC n n.v)), _, frzO 7 _ (.row 3 (ints ((q :: S).map Prod.fst))), frzO 7 _ (.row 32 ((q :: S).map fun p => fzN p.2))] = _
  rw [frzRowH hC, frzRowH hD, frzRowH hnc, frzRowH (hfs_ints _), frzRowH (hfs_fzBs _)]
  rfl
def code70 : AC := match a70 with | .mk c _ => c
def loop70 : AC := match code70 with
 | .seq _ (.seq _ (.seq _ (.seq _ (.seq r _)))) => r
 | _ => .skip
def rest70 : AC := match code70 with
 | .seq _ (.seq _ (.seq _ (.seq _ (.seq _ r)))) => r
 | _ => .skip
def stNo : AV := .tup [zF, .int .i64 0]
theorem st_loop {P : Program} {e : Env} (hE : EnvOk P e) (hm : P.follows .mixedOrders = true) (h113 : Con e 113 atF.O) (h114 : Con e 114 wholeRO) (h115 : Con e 115 sumVO) {x : CDA} (hx : x.ok) (hk : askE x = 0)
 {n : Nt} (hn : n.ok) (hs : n.v = .fz n.recs.length none (rcs n.recs)) (hn17 : n.recs.length ≤ 17) {K : AV → St → Prop}
 (k2 : rdGo (rbk x) n.recs n.recs.length 1 ⟨[], none⟩ = none → ∀ s, K stNo s)
 (k3 : ∀ y, y.ok → rdGo (rbk x) n.recs n.recs.length 1 ⟨[], none⟩ = some y → W P 0 none rest70 (ofL (tlU x.a n.recs.length)) (allocs St0 (osU x.c.c x.d.c n y)) [] (Ends [.cells 6 6, .tmp 7] K)) :
 W P 0 none (.seq loop70 rest70) (ofL [(2, .int .i64 x.a), (3, .ptr 0 0), (4, .ptr 1 0), (6, .ptr 2 0), (8, .ptr 3 0), (10, .ptr 4 0)]) (allocs St0 (osT x.c.c x.d.c [.int .u32 n.age, .int .u32 n.seq, .int .i64 n.stripe, .nils, .nils, .nils] (ntC n n.v))) [] (Ends [.cells 6 6, .tmp 7] K) := by
 have hnv : AM.hf n.v = true := by rw [hs]; rfl
 have hnsl : Sl 3 n.recs.length (rcs n.recs) n.v := hn.sl
 have hBb := fun i => rbk_ok hx hk i
 have hdf : hfs x.d.c = true := DKhf hx.d.a.wl hx.d.a.bl
 have hnc : hfs (ntC n n.v) = true := by
  show (true && (true && (true && (true && (AM.hf n.v && true))))) = true
  rw [hnv]; rfl
 obtain ⟨nid, nag, nsq, nst, nv, R⟩ := n
 dsimp only at hs hn17 hnsl k2 k3
 subst hs
 have hatF := fun (i : Nat) (hi : i < 1000) (K : AV → St → Prop) (s : St) (hk' : K (fzB (rbk x i)) s) => ESc.fam (k := K) (s := s) atF h113 ⟨x, i⟩ ⟨hx, hk, hi⟩ rfl hk'
 have hcf' : hfs x.c.c = true := rfl
 obtain ⟨c, d, a⟩ := x
 obtain ⟨id, mb, ch, rw', lg, hdd⟩ := c
 obtain ⟨bv, us, bs, wv, ws, dd⟩ := d
 generalize rbk ⟨⟨id, mb, ch, rw', lg, hdd⟩, ⟨bv, us, bs, wv, ws, dd⟩, a⟩ = B at *
 have hcf' : hfs [.int .u32 id, .int .i64 mb, .int .i64 ch, .int .i64 rw', .int .i64 lg, .int .i64 hdd] = true := rfl
 have hdf : hfs [bv, wv, .bool dd] = true := hdf
 have k3 : ∀ y, y.ok → rdGo B R R.length 1 ⟨[], none⟩ = some y → W P 0 none rest70 (ofL (tlU a R.length)) (allocs St0 (osU [.int .u32 id, .int .i64 mb, .int .i64 ch, .int .i64 rw', .int .i64 lg, .int .i64 hdd] [bv, wv, .bool dd] ⟨nid, nag, nsq, nst, .fz R.length none (rcs R), R⟩ y)) [] (Ends [.cells 6 6, .tmp 7] K) := k3
 refine W.seqV hE hm ?_
 show VW P e 0 loop70 (ofL [(2, .int .i64 a), (3, .ptr 0 0), (4, .ptr 1 0), (6, .ptr 2 0), (8, .ptr 3 0), (10, .ptr 4 0)]) (allocs St0 (osT [.int .u32 id, .int .i64 mb, .int .i64 ch, .int .i64 rw', .int .i64 lg, .int .i64 hdd] [bv, wv, .bool dd] [.int .u32 nag, .int .u32 nsq, .int .i64 nst, .nils, .nils, .nils] (ntC ⟨nid, nag, nsq, nst, .fz R.length none (rcs R), R⟩ (.fz R.length none (rcs R))))) none [] _
 conv => whnf
 refine W.loopT (α := Nat × RdS) (fun y => tlU a y.1) (fun y => osU [.int .u32 id, .int .i64 mb, .int .i64 ch, .int .i64 rw', .int .i64 lg, .int .i64 hdd] [bv, wv, .bool dd] ⟨nid, nag, nsq, nst, .fz R.length none (rcs R), R⟩ y.2) (fun y => R.length - y.1)
  (fun y => y.1 ≤ R.length ∧ y.2.ok ∧ y.2.S.length ≤ y.1 ∧ rdGo B R R.length 1 ⟨[], none⟩ = rdGo B (R.drop y.1) (R.length - y.1) (y.1 + 1) y.2) (0, ⟨[], none⟩) ⟨Nat.zero_le _, rdS0_ok, Nat.le_refl 0, rfl⟩
    (Abs.tells (rs := [0, 1, 2, 3, 4]) ⟨by decide, ⟨⟨rfl, rfl⟩, ⟨rfl, rfl⟩, ⟨rfl, rfl⟩, ⟨rfl, rfl⟩, ⟨rfl, rfl⟩, ⟨rfl, rfl⟩, ⟨rfl, rfl⟩, trivial⟩, ⟨⟨rfl, rfl⟩, ⟨rowH hdf, by rw [mapRowH hdf]; rfl⟩, ⟨rfl, rfl⟩, ⟨rfl, rfl⟩, ⟨rfl, rfl⟩, trivial⟩⟩) ?_
 rintro ⟨i, x⟩ ⟨hi, hx, hxl, hG⟩
 dsimp only at hi hx hxl hG ⊢
 refine vw_sound hE hm ?_
 by_cases hlt : i < R.length
 ·have hb1 := hBb (i + 1)
  have hat := hatF (i + 1) (by omega)
  obtain ⟨b0, bt, hBe⟩ : ∃ b0 bt, B (i + 1) = b0 :: bt := by
   cases hq : B (i + 1) with
   | nil => rw [hq] at hb1; exact absurd hb1.1 (by decide)
   | cons x y => exact ⟨x, y, rfl⟩
  have hdR := (rcs_drop R i).trans (congrArg rcs (List.drop_eq_getElem_cons hlt))
  have hro := hn.rc _ (List.getElem_mem hlt)
  rw [List.drop_eq_getElem_cons hlt, show R.length - i = (R.length - (i + 1)) + 1 by omega] at hG
  have hall := And.intro hdR (And.intro hro hG)
  clear hdR hro hG
  revert hall
  generalize R[i] = r
  obtain ⟨sl, ba, su⟩ := r
  rintro ⟨hdR, ⟨hsl, hsu⟩, hG⟩
  dsimp only at hsl hsu
  have hdR : (rcs R).drop (i * 3) = [.int .u8 sl, .bool ba, .int .u32 su] ++ rcs (R.drop (i + 1)) := hdR
  obtain ⟨S, p⟩ := x
  have hxl : S.length ≤ i := hxl
  have hG : rdGo B R R.length 1 ⟨[], none⟩ = if rdBad ⟨sl, ba, su⟩ (B (i + 1)) = true then none else rdGo B (R.drop (i + 1)) (R.length - (i + 1)) (i + 1 + 1) (rdPut ⟨sl, ba, su⟩ (B (i + 1)) ⟨S, p⟩) := hG
  rw [hBe] at hG hb1 hat
  have hbad : rdBad ⟨sl, ba, su⟩ (b0 :: bt) = true → ∀ s, K stNo s := fun h => k2 (by rw [hG, if_pos h])
  have hrb : rdBad ⟨sl, ba, su⟩ (b0 :: bt) = (decide ((sumN (b0 :: bt) : Int) ≠ su) || (decide (b0 = 78) || (ba && decide (b0 ≠ 0)))) := rfl
  have hb78 : (78 :: bt).length = 128 ∧ ∀ y ∈ 78 :: bt, y < 256 := ⟨hb1.1, fun y hy => by
   rcases List.mem_cons.1 hy with rfl | hy
   ·decide
   ·exact hb1.2 y (by simp [hy])⟩
  have hgo : ∀ x', rdBad ⟨sl, ba, su⟩ (b0 :: bt) = false → rdPut ⟨sl, ba, su⟩ (b0 :: bt) ⟨S, p⟩ = x' → rdGo B R R.length 1 ⟨[], none⟩ = rdGo B (R.drop (i + 1)) (R.length - (i + 1)) (i + 1 + 1) x' := fun x' h1 h2 => by
   rw [hG, if_neg (by rw [h1]; decide), h2]
  have hpr : padr (b0 :: bt) = b0 :: bt := by rw [padr_of (.inr hb1.1), pad_of hb1.1]
  have hwh := fun s => wholeRO_run (x := ⟨fzB (b0 :: bt), b0 :: bt⟩) ⟨fzB_at hb1, by show (b0 :: bt).length ≤ 128; omega⟩ s
  have hwh : ∀ s, wholeRO [fzB (b0 :: bt)] s = .ok (.sl (0 + s.next) 0 128 (some 128)) (s.alloc (.row 5 (bys (b0 :: bt)))) := fun s => by have := hwh s; rw [show padr (⟨fzB (b0 :: bt), b0 :: bt⟩ : UB).b = b0 :: bt from hpr] at this; exact this
  have hwh := fun {s} => hwh s
  rcases S with _ | ⟨q, S⟩
  ·conv => whnf
   refine EPrim.lenZ rfl hnsl ?_; conv => whnf
   refine EPrim.lss2 (a := (i : Int)) (b := (R.length : Int)) rfl rfl (fun _ => ?_) (fun h => by omega); conv => whnf
   refine EPrim.addS (a := (i : Int)) (b := 1) rfl rfl (by omega) ?_
   rw [show (i : Int) + 1 = ((i + 1 : Nat) : Int) by omega]
   conv => whnf
   refine hat _ _ ?_; conv => whnf
   refine ESc.ov h114 hwh ?_; conv => whnf
   refine EPrim.ixsS rfl hnsl rfl hlt ?_
   rw [hdR]
   conv => whnf
   refine EHead.mk (v := .bool ba) rfl ?_; conv => whnf
   refine EPrim.ixsS rfl hnsl rfl hlt ?_
   rw [hdR]
   conv => whnf
   refine EHead.mk (v := .int .u32 su) rfl ?_; conv => whnf
   refine ESc.ov h115 (sumVO_row rfl hb1.1 hb1.2) ?_; conv => whnf
   refine ⟨rfl, ?_⟩; conv => whnf
   refine EHead.mk (v := .int .u32 su) rfl ?_; conv => whnf
   refine ⟨rfl, ?_⟩; conv => whnf
   refine EPrim.neq2 (a := ((sumN (b0 :: bt) : Nat) : Int)) (b := su) rfl rfl (fun h1 => ?_) (fun h1 => ?_)
   ·conv => whnf
    skip
    exact ⟨.inr rfl, _, _, rfl, rfl, hbad (by rw [hrb, decide_eq_true h1]; rfl) _⟩
   conv => whnf
   refine EPrim.ixsPZ rfl rfl (by omega) (by omega) ?_; conv => whnf
   refine EPrim.eql2 (a := ((b0 : Nat) : Int)) (b := 78) rfl rfl (fun h2 => ?_) (fun h2 => ?_)
   ·conv => whnf
    skip
    exact ⟨.inr rfl, _, _, rfl, rfl, hbad (by rw [hrb, decide_eq_true (show b0 = 78 by omega)]; simp) _⟩
   cases ba
   ·have hnb : rdBad ⟨sl, false, su⟩ (b0 :: bt) = false := by rw [hrb, decide_eq_false (by simpa using h1), decide_eq_false (show ¬ b0 = 78 by omega)]; rfl
    conv => whnf
    refine EPrim.ixsS rfl hnsl rfl hlt ?_
    rw [hdR]
    conv => whnf
    refine EHead.mk (v := .int .u8 sl) rfl ?_; conv => whnf
    refine EPrim.eql2 (a := sl) (b := 255) rfl rfl (fun h255 => ?_) (fun h255 => ?_)
    ·conv => whnf
     repeat' (first | ((first | refine w7 rfl rfl (by omega) ?_ | refine ⟨rfl, ?_⟩); conv => whnf) | fail)
     refine ⟨(i + 1, ⟨([] : List (Int × List Nat)), some (b0 :: bt)⟩), ⟨hlt, RdS.par_ok hx (by first | exact hb78 | exact hb1), by show (([] : List (Int × List Nat))).length ≤ i + 1; omega, hgo _ hnb (by unfold rdPut rdSee; rw [if_pos h255]; rfl)⟩, by show R.length - (i + 1) < R.length - i; omega, st_par (S := ([] : List (Int × List Nat))) (i := i + 1) (a := a) (see := b0 :: bt) (cp := some 128) (p' := p) (rs := [0, 1, 2, 3, 4, 5]) (n := ⟨nid, nag, nsq, nst, .fz R.length none (rcs R), R⟩) hcf' hdf rfl ?_⟩
     exact ⟨rfl, by decide, ⟨⟨rfl, rfl⟩, ⟨rfl, rfl⟩, ⟨rfl, rfl⟩, ⟨rfl, rfl⟩, ⟨rfl, rfl⟩, ⟨rfl, rfl⟩, ⟨rfl, rfl⟩, trivial⟩, ⟨⟨rfl, rfl⟩, ⟨rowH hdf, by rw [mapRowH hdf]; rfl⟩, ⟨rfl, rfl⟩, ⟨rfl, rfl⟩, ⟨rfl, rfl⟩, ⟨rowH (scs_hfs_bys _), by rw [mapRowH (scs_hfs_bys _)]; rfl⟩, trivial⟩⟩
    ·conv => whnf
     repeat' (first | (refine EPrim.ixsS rfl hnsl rfl hlt ?_; rw [hdR]; conv => whnf) | (refine EHead.mk (v := .int .u8 sl) rfl ?_; conv => whnf) | (refine EPrim.cviZ (q' := .i64) rfl (i64_in (by omega)) ?_; conv => whnf) | (refine EPrim.appNil (m := 1) rfl rfl rfl rfl (by decide) (by decide) ?_; conv => whnf) | ((first | refine w7 rfl rfl (by omega) ?_ | refine ⟨rfl, ?_⟩); conv => whnf) | fail)
     refine ⟨(i + 1, ⟨([] : List (Int × List Nat)) ++ [(sl, b0 :: bt)], p⟩), ⟨hlt, RdS.app_ok hx (by omega) hsl (by first | exact hb78 | exact hb1), by show (([] : List (Int × List Nat)) ++ [(sl, b0 :: bt)]).length ≤ i + 1; rw [List.length_append]; show _ + 1 ≤ i + 1; omega, hgo _ hnb (by unfold rdPut rdSee; rw [if_neg h255]; rfl)⟩, by show R.length - (i + 1) < R.length - i; omega, st_app (S := ([] : List (Int × List Nat))) (i := i + 1) (a := a) (sl := sl) (see := b0 :: bt) (cp := some 128) (p := p) (rs := [0, 1, 2, 3, 4, 7, 9, 5]) (n := ⟨nid, nag, nsq, nst, .fz R.length none (rcs R), R⟩) hcf' hdf rfl ?_⟩
     exact ⟨rfl, by decide, ⟨⟨rfl, rfl⟩, ⟨rfl, rfl⟩, ⟨rfl, rfl⟩, ⟨rfl, rfl⟩, ⟨rfl, rfl⟩, ⟨rfl, rfl⟩, ⟨rfl, rfl⟩, trivial⟩, ⟨⟨rfl, rfl⟩, ⟨rowH hdf, by rw [mapRowH hdf]; rfl⟩, ⟨rfl, rfl⟩, ⟨rfl, rfl⟩, ⟨by show (true && (true && (true && (_ && (_ && (bd _ (rpaV p) && true)))))) = true; rw [hf_bd _ (hf_rpaV p)]; rfl, by show _ = some (AObj.row 36 [_, _, _, _, _, mapV _ (rpaV p)]); rw [hf_mapV _ (hf_rpaV p)]; rfl⟩, ⟨by show bds _ (ints _ ++ [_]) = true; rw [bds_app (hfs_ints _)]; rfl, by show _ = some (AObj.row 3 (mapVs _ (ints _ ++ [_]))); rw [mapVs_app (hfs_ints _)]; rfl⟩, ⟨by show bds _ (List.map _ _ ++ [_]) = true; rw [bds_app (hfs_fzBs _)]; rfl, by show _ = some (AObj.row 32 (mapVs _ (List.map _ _ ++ [_]))); rw [mapVs_app (hfs_fzBs _)]; rfl⟩, ⟨rowH (scs_hfs_bys _), by rw [mapRowH (scs_hfs_bys _)]; rfl⟩, trivial⟩⟩
   ·conv => whnf
    refine EPrim.ixsPZ rfl rfl (by omega) (by omega) ?_; conv => whnf
    refine EPrim.neq2 (a := ((b0 : Nat) : Int)) (b := 0) rfl rfl (fun h3 => ?_) (fun h3 => ?_)
    ·conv => whnf
     skip
     exact ⟨.inr rfl, _, _, rfl, rfl, hbad (by rw [hrb, decide_eq_true (show b0 ≠ 0 by omega)]; simp) _⟩
    ·have hnb : rdBad ⟨sl, true, su⟩ (b0 :: bt) = false := by rw [hrb, decide_eq_false (by simpa using h1), decide_eq_false (show ¬ b0 = 78 by omega), decide_eq_false (show ¬ b0 ≠ 0 by omega)]; rfl
     conv => whnf
     refine EPrim.ixsPZ rfl rfl (by omega) (by omega) ?_; conv => whnf
     refine EPrim.ixsS rfl hnsl rfl hlt ?_
     rw [hdR]
     conv => whnf
     refine EHead.mk (v := .int .u8 sl) rfl ?_; conv => whnf
     refine EPrim.eql2 (a := sl) (b := 255) rfl rfl (fun h255 => ?_) (fun h255 => ?_)
     ·conv => whnf
      repeat' (first | ((first | refine w7 rfl rfl (by omega) ?_ | refine ⟨rfl, ?_⟩); conv => whnf) | fail)
      refine ⟨(i + 1, ⟨([] : List (Int × List Nat)), some (78 :: bt)⟩), ⟨hlt, RdS.par_ok hx (by first | exact hb78 | exact hb1), by show (([] : List (Int × List Nat))).length ≤ i + 1; omega, hgo _ hnb (by unfold rdPut rdSee; rw [if_pos h255]; rfl)⟩, by show R.length - (i + 1) < R.length - i; omega, st_par (S := ([] : List (Int × List Nat))) (i := i + 1) (a := a) (see := 78 :: bt) (cp := some 128) (p' := p) (rs := [0, 1, 2, 3, 4, 5]) (n := ⟨nid, nag, nsq, nst, .fz R.length none (rcs R), R⟩) hcf' hdf rfl ?_⟩
      exact ⟨rfl, by decide, ⟨⟨rfl, rfl⟩, ⟨rfl, rfl⟩, ⟨rfl, rfl⟩, ⟨rfl, rfl⟩, ⟨rfl, rfl⟩, ⟨rfl, rfl⟩, ⟨rfl, rfl⟩, trivial⟩, ⟨⟨rfl, rfl⟩, ⟨rowH hdf, by rw [mapRowH hdf]; rfl⟩, ⟨rfl, rfl⟩, ⟨rfl, rfl⟩, ⟨rfl, rfl⟩, ⟨rowH (scs_hfs_bys _), by rw [mapRowH (scs_hfs_bys _)]; rfl⟩, trivial⟩⟩
     ·conv => whnf
      repeat' (first | (refine EPrim.ixsS rfl hnsl rfl hlt ?_; rw [hdR]; conv => whnf) | (refine EHead.mk (v := .int .u8 sl) rfl ?_; conv => whnf) | (refine EPrim.cviZ (q' := .i64) rfl (i64_in (by omega)) ?_; conv => whnf) | (refine EPrim.appNil (m := 1) rfl rfl rfl rfl (by decide) (by decide) ?_; conv => whnf) | ((first | refine w7 rfl rfl (by omega) ?_ | refine ⟨rfl, ?_⟩); conv => whnf) | fail)
      refine ⟨(i + 1, ⟨([] : List (Int × List Nat)) ++ [(sl, 78 :: bt)], p⟩), ⟨hlt, RdS.app_ok hx (by omega) hsl (by first | exact hb78 | exact hb1), by show (([] : List (Int × List Nat)) ++ [(sl, 78 :: bt)]).length ≤ i + 1; rw [List.length_append]; show _ + 1 ≤ i + 1; omega, hgo _ hnb (by unfold rdPut rdSee; rw [if_neg h255]; rfl)⟩, by show R.length - (i + 1) < R.length - i; omega, st_app (S := ([] : List (Int × List Nat))) (i := i + 1) (a := a) (sl := sl) (see := 78 :: bt) (cp := some 128) (p := p) (rs := [0, 1, 2, 3, 4, 7, 9, 5]) (n := ⟨nid, nag, nsq, nst, .fz R.length none (rcs R), R⟩) hcf' hdf rfl ?_⟩
      exact ⟨rfl, by decide, ⟨⟨rfl, rfl⟩, ⟨rfl, rfl⟩, ⟨rfl, rfl⟩, ⟨rfl, rfl⟩, ⟨rfl, rfl⟩, ⟨rfl, rfl⟩, ⟨rfl, rfl⟩, trivial⟩, ⟨⟨rfl, rfl⟩, ⟨rowH hdf, by rw [mapRowH hdf]; rfl⟩, ⟨rfl, rfl⟩, ⟨rfl, rfl⟩, ⟨by show (true && (true && (true && (_ && (_ && (bd _ (rpaV p) && true)))))) = true; rw [hf_bd _ (hf_rpaV p)]; rfl, by show _ = some (AObj.row 36 [_, _, _, _, _, mapV _ (rpaV p)]); rw [hf_mapV _ (hf_rpaV p)]; rfl⟩, ⟨by show bds _ (ints _ ++ [_]) = true; rw [bds_app (hfs_ints _)]; rfl, by show _ = some (AObj.row 3 (mapVs _ (ints _ ++ [_]))); rw [mapVs_app (hfs_ints _)]; rfl⟩, ⟨by show bds _ (List.map _ _ ++ [_]) = true; rw [bds_app (hfs_fzBs _)]; rfl, by show _ = some (AObj.row 32 (mapVs _ (List.map _ _ ++ [_]))); rw [mapVs_app (hfs_fzBs _)]; rfl⟩, ⟨rowH (scs_hfs_bys _), by rw [mapRowH (scs_hfs_bys _)]; rfl⟩, trivial⟩⟩
  ·conv => whnf
   refine EPrim.lenZ rfl hnsl ?_; conv => whnf
   refine EPrim.lss2 (a := (i : Int)) (b := (R.length : Int)) rfl rfl (fun _ => ?_) (fun h => by omega); conv => whnf
   refine EPrim.addS (a := (i : Int)) (b := 1) rfl rfl (by omega) ?_
   rw [show (i : Int) + 1 = ((i + 1 : Nat) : Int) by omega]
   conv => whnf
   refine hat _ _ ?_; conv => whnf
   refine ESc.ov h114 hwh ?_; conv => whnf
   refine EPrim.ixsS rfl hnsl rfl hlt ?_
   rw [hdR]
   conv => whnf
   refine EHead.mk (v := .bool ba) rfl ?_; conv => whnf
   refine EPrim.ixsS rfl hnsl rfl hlt ?_
   rw [hdR]
   conv => whnf
   refine EHead.mk (v := .int .u32 su) rfl ?_; conv => whnf
   refine ESc.ov h115 (sumVO_row rfl hb1.1 hb1.2) ?_; conv => whnf
   refine ⟨rfl, ?_⟩; conv => whnf
   refine EHead.mk (v := .int .u32 su) rfl ?_; conv => whnf
   refine ⟨rfl, ?_⟩; conv => whnf
   refine EPrim.neq2 (a := ((sumN (b0 :: bt) : Nat) : Int)) (b := su) rfl rfl (fun h1 => ?_) (fun h1 => ?_)
   ·conv => whnf
    skip
    exact ⟨.inr rfl, _, _, rfl, rfl, hbad (by rw [hrb, decide_eq_true h1]; rfl) _⟩
   conv => whnf
   refine EPrim.ixsPZ rfl rfl (by omega) (by omega) ?_; conv => whnf
   refine EPrim.eql2 (a := ((b0 : Nat) : Int)) (b := 78) rfl rfl (fun h2 => ?_) (fun h2 => ?_)
   ·conv => whnf
    skip
    exact ⟨.inr rfl, _, _, rfl, rfl, hbad (by rw [hrb, decide_eq_true (show b0 = 78 by omega)]; simp) _⟩
   cases ba
   ·have hnb : rdBad ⟨sl, false, su⟩ (b0 :: bt) = false := by rw [hrb, decide_eq_false (by simpa using h1), decide_eq_false (show ¬ b0 = 78 by omega)]; rfl
    conv => whnf
    refine EPrim.ixsS rfl hnsl rfl hlt ?_
    rw [hdR]
    conv => whnf
    refine EHead.mk (v := .int .u8 sl) rfl ?_; conv => whnf
    refine EPrim.eql2 (a := sl) (b := 255) rfl rfl (fun h255 => ?_) (fun h255 => ?_)
    ·conv => whnf
     repeat' (first | ((first | refine w7 rfl rfl (by omega) ?_ | refine ⟨rfl, ?_⟩); conv => whnf) | fail)
     refine ⟨(i + 1, ⟨(q :: S), some (b0 :: bt)⟩), ⟨hlt, RdS.par_ok hx (by first | exact hb78 | exact hb1), by show ((q :: S)).length ≤ i + 1; omega, hgo _ hnb (by unfold rdPut rdSee; rw [if_pos h255]; rfl)⟩, by show R.length - (i + 1) < R.length - i; omega, st_par (S := (q :: S)) (i := i + 1) (a := a) (see := b0 :: bt) (cp := some 128) (p' := p) (rs := [0, 1, 2, 3, 4, 5, 6, 7]) (n := ⟨nid, nag, nsq, nst, .fz R.length none (rcs R), R⟩) hcf' hdf rfl ?_⟩
     exact ⟨rfl, by decide, ⟨⟨rfl, rfl⟩, ⟨rfl, rfl⟩, ⟨rfl, rfl⟩, ⟨rfl, rfl⟩, ⟨rfl, rfl⟩, ⟨rfl, rfl⟩, ⟨rfl, rfl⟩, trivial⟩, ⟨⟨rfl, rfl⟩, ⟨rowH hdf, by rw [mapRowH hdf]; rfl⟩, ⟨rfl, rfl⟩, ⟨rfl, rfl⟩, ⟨rfl, rfl⟩, ⟨rowH (hfs_ints _), by rw [mapRowH (hfs_ints _)]; rfl⟩, ⟨rowH (hfs_fzBs _), by rw [mapRowH (hfs_fzBs _)]; rfl⟩,⟨rowH (scs_hfs_bys _), by rw [mapRowH (scs_hfs_bys _)]; rfl⟩, trivial⟩⟩
    ·conv => whnf
     repeat' (first | (refine EPrim.ixsS rfl hnsl rfl hlt ?_; rw [hdR]; conv => whnf) | (refine EHead.mk (v := .int .u8 sl) rfl ?_; conv => whnf) | (refine EPrim.cviZ (q' := .i64) rfl (i64_in (by omega)) ?_; conv => whnf) | (refine EPrim.appU (m := 1) rfl rfl rfl rfl (by simp [ints]) rfl (by decide) (by simp at hxl; omega) ?_; conv => whnf) | ((first | refine w7 rfl rfl (by omega) ?_ | refine ⟨rfl, ?_⟩); conv => whnf) | fail)
     refine ⟨(i + 1, ⟨(q :: S) ++ [(sl, b0 :: bt)], p⟩), ⟨hlt, RdS.app_ok hx (by omega) hsl (by first | exact hb78 | exact hb1), by show ((q :: S) ++ [(sl, b0 :: bt)]).length ≤ i + 1; rw [List.length_append]; show _ + 1 ≤ i + 1; omega, hgo _ hnb (by unfold rdPut rdSee; rw [if_neg h255]; rfl)⟩, by show R.length - (i + 1) < R.length - i; omega, st_app (S := (q :: S)) (i := i + 1) (a := a) (sl := sl) (see := b0 :: bt) (cp := some 128) (p := p) (rs := [0, 1, 2, 3, 4, 9, 11, 7]) (n := ⟨nid, nag, nsq, nst, .fz R.length none (rcs R), R⟩) hcf' hdf rfl ?_⟩
     exact ⟨rfl, by decide, ⟨⟨rfl, rfl⟩, ⟨rfl, rfl⟩, ⟨rfl, rfl⟩, ⟨rfl, rfl⟩, ⟨rfl, rfl⟩, ⟨rfl, rfl⟩, ⟨rfl, rfl⟩, trivial⟩, ⟨⟨rfl, rfl⟩, ⟨rowH hdf, by rw [mapRowH hdf]; rfl⟩, ⟨rfl, rfl⟩, ⟨rfl, rfl⟩, ⟨by show (true && (true && (true && (_ && (_ && (bd _ (rpaV p) && true)))))) = true; rw [hf_bd _ (hf_rpaV p)]; rfl, by show _ = some (AObj.row 36 [_, _, _, _, _, mapV _ (rpaV p)]); rw [hf_mapV _ (hf_rpaV p)]; rfl⟩, ⟨by show bds _ (ints _ ++ [_]) = true; rw [bds_app (hfs_ints _)]; rfl, by show _ = some (AObj.row 3 (mapVs _ (ints _ ++ [_]))); rw [mapVs_app (hfs_ints _)]; rfl⟩, ⟨by show bds _ (List.map _ _ ++ [_]) = true; rw [bds_app (hfs_fzBs _)]; rfl, by show _ = some (AObj.row 32 (mapVs _ (List.map _ _ ++ [_]))); rw [mapVs_app (hfs_fzBs _)]; rfl⟩, ⟨rowH (scs_hfs_bys _), by rw [mapRowH (scs_hfs_bys _)]; rfl⟩, trivial⟩⟩
   ·conv => whnf
    refine EPrim.ixsPZ rfl rfl (by omega) (by omega) ?_; conv => whnf
    refine EPrim.neq2 (a := ((b0 : Nat) : Int)) (b := 0) rfl rfl (fun h3 => ?_) (fun h3 => ?_)
    ·conv => whnf
     skip
     exact ⟨.inr rfl, _, _, rfl, rfl, hbad (by rw [hrb, decide_eq_true (show b0 ≠ 0 by omega)]; simp) _⟩
    ·have hnb : rdBad ⟨sl, true, su⟩ (b0 :: bt) = false := by rw [hrb, decide_eq_false (by simpa using h1), decide_eq_false (show ¬ b0 = 78 by omega), decide_eq_false (show ¬ b0 ≠ 0 by omega)]; rfl
     conv => whnf
     refine EPrim.ixsPZ rfl rfl (by omega) (by omega) ?_; conv => whnf
     refine EPrim.ixsS rfl hnsl rfl hlt ?_
     rw [hdR]
     conv => whnf
     refine EHead.mk (v := .int .u8 sl) rfl ?_; conv => whnf
     refine EPrim.eql2 (a := sl) (b := 255) rfl rfl (fun h255 => ?_) (fun h255 => ?_)
     ·conv => whnf
      repeat' (first | ((first | refine w7 rfl rfl (by omega) ?_ | refine ⟨rfl, ?_⟩); conv => whnf) | fail)
      refine ⟨(i + 1, ⟨(q :: S), some (78 :: bt)⟩), ⟨hlt, RdS.par_ok hx (by first | exact hb78 | exact hb1), by show ((q :: S)).length ≤ i + 1; omega, hgo _ hnb (by unfold rdPut rdSee; rw [if_pos h255]; rfl)⟩, by show R.length - (i + 1) < R.length - i; omega, st_par (S := (q :: S)) (i := i + 1) (a := a) (see := 78 :: bt) (cp := some 128) (p' := p) (rs := [0, 1, 2, 3, 4, 5, 6, 7]) (n := ⟨nid, nag, nsq, nst, .fz R.length none (rcs R), R⟩) hcf' hdf rfl ?_⟩
      exact ⟨rfl, by decide, ⟨⟨rfl, rfl⟩, ⟨rfl, rfl⟩, ⟨rfl, rfl⟩, ⟨rfl, rfl⟩, ⟨rfl, rfl⟩, ⟨rfl, rfl⟩, ⟨rfl, rfl⟩, trivial⟩, ⟨⟨rfl, rfl⟩, ⟨rowH hdf, by rw [mapRowH hdf]; rfl⟩, ⟨rfl, rfl⟩, ⟨rfl, rfl⟩, ⟨rfl, rfl⟩, ⟨rowH (hfs_ints _), by rw [mapRowH (hfs_ints _)]; rfl⟩, ⟨rowH (hfs_fzBs _), by rw [mapRowH (hfs_fzBs _)]; rfl⟩,⟨rowH (scs_hfs_bys _), by rw [mapRowH (scs_hfs_bys _)]; rfl⟩, trivial⟩⟩
     ·conv => whnf
      repeat' (first | (refine EPrim.ixsS rfl hnsl rfl hlt ?_; rw [hdR]; conv => whnf) | (refine EHead.mk (v := .int .u8 sl) rfl ?_; conv => whnf) | (refine EPrim.cviZ (q' := .i64) rfl (i64_in (by omega)) ?_; conv => whnf) | (refine EPrim.appU (m := 1) rfl rfl rfl rfl (by simp [ints]) rfl (by decide) (by simp at hxl; omega) ?_; conv => whnf) | ((first | refine w7 rfl rfl (by omega) ?_ | refine ⟨rfl, ?_⟩); conv => whnf) | fail)
      refine ⟨(i + 1, ⟨(q :: S) ++ [(sl, 78 :: bt)], p⟩), ⟨hlt, RdS.app_ok hx (by omega) hsl (by first | exact hb78 | exact hb1), by show ((q :: S) ++ [(sl, 78 :: bt)]).length ≤ i + 1; rw [List.length_append]; show _ + 1 ≤ i + 1; omega, hgo _ hnb (by unfold rdPut rdSee; rw [if_neg h255]; rfl)⟩, by show R.length - (i + 1) < R.length - i; omega, st_app (S := (q :: S)) (i := i + 1) (a := a) (sl := sl) (see := 78 :: bt) (cp := some 128) (p := p) (rs := [0, 1, 2, 3, 4, 9, 11, 7]) (n := ⟨nid, nag, nsq, nst, .fz R.length none (rcs R), R⟩) hcf' hdf rfl ?_⟩
      exact ⟨rfl, by decide, ⟨⟨rfl, rfl⟩, ⟨rfl, rfl⟩, ⟨rfl, rfl⟩, ⟨rfl, rfl⟩, ⟨rfl, rfl⟩, ⟨rfl, rfl⟩, ⟨rfl, rfl⟩, trivial⟩, ⟨⟨rfl, rfl⟩, ⟨rowH hdf, by rw [mapRowH hdf]; rfl⟩, ⟨rfl, rfl⟩, ⟨rfl, rfl⟩, ⟨by show (true && (true && (true && (_ && (_ && (bd _ (rpaV p) && true)))))) = true; rw [hf_bd _ (hf_rpaV p)]; rfl, by show _ = some (AObj.row 36 [_, _, _, _, _, mapV _ (rpaV p)]); rw [hf_mapV _ (hf_rpaV p)]; rfl⟩, ⟨by show bds _ (ints _ ++ [_]) = true; rw [bds_app (hfs_ints _)]; rfl, by show _ = some (AObj.row 3 (mapVs _ (ints _ ++ [_]))); rw [mapVs_app (hfs_ints _)]; rfl⟩, ⟨by show bds _ (List.map _ _ ++ [_]) = true; rw [bds_app (hfs_fzBs _)]; rfl, by show _ = some (AObj.row 32 (mapVs _ (List.map _ _ ++ [_]))); rw [mapVs_app (hfs_fzBs _)]; rfl⟩, ⟨rowH (scs_hfs_bys _), by rw [mapRowH (scs_hfs_bys _)]; rfl⟩, trivial⟩⟩
 ·obtain rfl : i = R.length := by omega
  have hG' : rdGo B R R.length 1 ⟨[], none⟩ = some x := by rw [hG, List.drop_eq_nil_of_le (Nat.le_refl _)]; cases (R.length - R.length) <;> rfl
  have hk3 := k3 x hx hG'
  obtain ⟨S, p⟩ := x
  clear hG hG' k2 k3
  rcases S with _ | ⟨q, S⟩
  ·conv => whnf
   refine EPrim.lenZ rfl hnsl ?_; conv => whnf
   refine EPrim.lss2 (a := (R.length : Int)) (b := (R.length : Int)) rfl rfl (fun _ => by omega) (fun _ => ?_); conv => whnf
   refine W.tells (Abs.tells (tl := tlU a R.length) (os := osU [.int .u32 id, .int .i64 mb, .int .i64 ch, .int .i64 rw', .int .i64 lg, .int .i64 hdd] [bv, wv, .bool dd] ⟨nid, nag, nsq, nst, .fz R.length none (rcs R), R⟩ ⟨[], p⟩) (rs := [0, 1, 2, 3, 4]) ⟨by decide, ⟨⟨rfl, rfl⟩, ⟨rfl, rfl⟩, ⟨rfl, rfl⟩, ⟨rfl, rfl⟩, ⟨rfl, rfl⟩, ⟨rfl, rfl⟩, ⟨rfl, rfl⟩, trivial⟩, ⟨⟨rfl, rfl⟩, ⟨rowH hdf, by rw [mapRowH hdf]; rfl⟩, ⟨rfl, rfl⟩, ⟨rfl, rfl⟩, ⟨by show (true && (true && (true && (_ && (_ && (bd _ (rpaV p) && true)))))) = true; rw [hf_bd _ (hf_rpaV p)]; rfl, by show _ = some (AObj.row 36 [_, _, _, _, _, mapV _ (rpaV p)]); rw [hf_mapV _ (hf_rpaV p)]; rfl⟩, trivial⟩⟩) hk3
  ·conv => whnf
   refine EPrim.lenZ rfl hnsl ?_; conv => whnf
   refine EPrim.lss2 (a := (R.length : Int)) (b := (R.length : Int)) rfl rfl (fun _ => by omega) (fun _ => ?_); conv => whnf
   refine W.tells (Abs.tells (tl := tlU a R.length) (os := osU [.int .u32 id, .int .i64 mb, .int .i64 ch, .int .i64 rw', .int .i64 lg, .int .i64 hdd] [bv, wv, .bool dd] ⟨nid, nag, nsq, nst, .fz R.length none (rcs R), R⟩ ⟨q :: S, p⟩) (rs := [0, 1, 2, 3, 4, 5, 6]) ⟨by decide, ⟨⟨rfl, rfl⟩, ⟨rfl, rfl⟩, ⟨rfl, rfl⟩, ⟨rfl, rfl⟩, ⟨rfl, rfl⟩, ⟨rfl, rfl⟩, ⟨rfl, rfl⟩, trivial⟩, ⟨⟨rfl, rfl⟩, ⟨rowH hdf, by rw [mapRowH hdf]; rfl⟩, ⟨rfl, rfl⟩, ⟨rfl, rfl⟩, ⟨by show (true && (true && (true && (_ && (_ && (bd _ (rpaV p) && true)))))) = true; rw [hf_bd _ (hf_rpaV p)]; rfl, by show _ = some (AObj.row 36 [_, _, _, _, _, mapV _ (rpaV p)]); rw [hf_mapV _ (hf_rpaV p)]; rfl⟩, ⟨rowH (hfs_ints _), by rw [mapRowH (hfs_ints _)]; rfl⟩, ⟨rowH (hfs_fzBs _), by rw [mapRowH (hfs_fzBs _)]; rfl⟩,trivial⟩⟩) hk3
end Go.AM
set_option maxRecDepth 100000
namespace Go.AM
attribute [local irreducible] W
open X
theorem st_rest {P : Program} {e : Env} (hE : EnvOk P e) (hm : P.follows .mixedOrders = true) (h116 : Con e 116 dlmF.O) {c : Cfg} (hc : c.ok) (hM : c.may) {D : List AV} (hdf : hfs D = true) (hdl : ∃ a b d, D = [a, b, d]) {n : Nt} (hn : n.ok) (hs : n.v = .fz n.recs.length none (rcs n.recs)) {y : RdS} (hy : y.ok) {a : Int} {K : AV → St → Prop}
 (k1 : dealB c (rdDB n.stripe y).d = true → ∀ s, K (.tup [.agg (fC n.age n.seq n.stripe y), .int .i64 (1 + (n.recs.length : Int))]) s) (k0 : dealB c (rdDB n.stripe y).d = false → ∀ s, K stNo s) :
 W P 0 none rest70 (ofL (tlU a n.recs.length)) (allocs St0 (osU c.c D n y)) [] (Ends [.cells 6 6, .tmp 7] K) := by
 have hnv : AM.hf n.v = true := by rw [hs]; rfl
 have hnc : hfs (ntC n n.v) = true := by
  show (true && (true && (true && (true && (AM.hf n.v && true))))) = true
  rw [hnv]; rfl
 have hnsl : Sl 3 n.recs.length (rcs n.recs) n.v := hn.sl
 have hok : CD.m ⟨c, (rdDB n.stripe y).d⟩ := ⟨⟨hc, (rdDB_ok hy hn.stripe).d⟩, hM⟩
 have hMy := fun (K : AV → St → Prop) (s : St) (hk : K (.bool (dealB c (rdDB n.stripe y).d)) s) => ESc.fam (k := K) (s := s) dlmF h116 ⟨c, (rdDB n.stripe y).d⟩ hok rfl hk
 have hMy : ∀ (K : AV → St → Prop) (s : St), K (.bool (dealB c (rdDB n.stripe y).d)) s → ESc e 116 [c.v, .agg [.int .i64 n.stripe, rslV y.S, rblV y.S, rpaV y.p]] s K := hMy
 have hnl := hn.len
 have f1 := hf_rslV y.S
 have f2 := hf_rblV y.S
 have f3 := hf_rpaV y.p
 have main : W P 0 none rest70 (ofL (tlU a n.recs.length)) (allocs St0 (osT c.c D (fC n.age n.seq n.stripe y) (ntC n n.v))) [] (Ends [.cells 6 6, .tmp 7] K) := by
  refine W.endV hE hm ?_
  generalize dealB c (rdDB n.stripe y).d = q at *
  obtain ⟨nid, nag, nsq, nst, nv, R⟩ := n
  obtain ⟨id, mb, ch, rw', lg, hdd⟩ := c
  obtain ⟨d1, d2, d3, rfl⟩ := hdl
  dsimp only at hnsl hnl
  show VW P e 0 rest70 (ofL [(2, .int .i64 a), (3, .ptr 0 0), (4, .ptr 1 0), (6, .ptr 2 0), (8, .ptr 3 0), (10, .ptr 4 0), (11, .int .i64 (R.length : Int))]) (allocs St0 [.row 24 [.int .u32 id, .int .i64 mb, .int .i64 ch, .int .i64 rw', .int .i64 lg, .int .i64 hdd], .row 28 [d1, d2, d3], .row 36 zFc, .row 101 [.int .u32 nid, .int .u32 nag, .int .u32 nsq, .int .i64 nst, nv], .row 36 [.int .u32 nag, .int .u32 nsq, .int .i64 nst, rslV y.S, rblV y.S, rpaV y.p]]) none [] _
  conv => whnf
  refine hMy _ _ ?_
  cases q
  ·conv => whnf
   repeat' (first | (refine w13 rfl ?_; conv => whnf) | fail)
   exact k0 rfl _
  ·conv => whnf
   repeat' (first | (refine EPrim.lenZ rfl hnsl ?_; conv => whnf) | ((first | refine w7 rfl rfl (by omega) ?_ | refine w12 rfl ?_ | refine ⟨rfl, ?_⟩); conv => whnf) | fail)
   exact k1 rfl _
 obtain ⟨S, p⟩ := y
 cases S with
 | nil => exact main
 | cons q S =>
  have hpv : ∀ m cs, frnV m cs (rpaV p) = rpaV p := fun m cs => hf_frnV _ (hf_rpaV p)
  have hcf : hfs c.c = true := rfl
  have h1 := AbsK.frn (P := P) (k := 0) (n := 6) (e := 32) (cs := (q :: S).map fun p : Int × List Nat => fzN p.2) (t := ofL (tlU a n.recs.length)) (s := allocs St0 (osU c.c D n ⟨q :: S, p⟩)) (tl := tlU a n.recs.length) (tl2 := tlU a n.recs.length) (rs := [0, 1, 2, 3, 4, 5, 6])
   (os := [.row 24 c.c, .row 28 D, .row 36 zFc, .row 101 (ntC n n.v), .row 36 [.int .u32 n.age, .int .u32 n.seq, .int .i64 n.stripe, .sl 5 0 (S.length + 1) none, .sl 6 0 (S.length + 1) none, rpaV p], .row 3 (ints ((q :: S).map Prod.fst))])
   (os2 := [.row 24 c.c, .row 28 D, .row 36 zFc, .row 101 (ntC n n.v), .row 36 [.int .u32 n.age, .int .u32 n.seq, .int .i64 n.stripe, .sl 5 0 (S.length + 1) none, rblV (q :: S), rpaV p], .row 3 (ints ((q :: S).map Prod.fst))])
   ⟨rfl, by decide, ⟨⟨rfl, rfl⟩, ⟨rfl, rfl⟩, ⟨rfl, rfl⟩, ⟨rfl, rfl⟩, ⟨rfl, rfl⟩, ⟨rfl, rfl⟩, ⟨rfl, rfl⟩, trivial⟩, ⟨⟨rfl, rfl⟩, ⟨rowH hdf, by rw [mapRowH hdf]; rfl⟩, ⟨rfl, rfl⟩, ⟨rowH hnc, by rw [mapRowH hnc]; rfl⟩, ⟨by show (true && (true && (true && (_ && (_ && (bd _ (rpaV p) && true)))))) = true; rw [hf_bd _ (hf_rpaV p)]; rfl, by show _ = some (AObj.row 36 [_, _, _, _, _, mapV _ (rpaV p)]); rw [hf_mapV _ (hf_rpaV p)]; rfl⟩, ⟨rowH (hfs_ints _), by rw [mapRowH (hfs_ints _)]; rfl⟩, ⟨rowH (hfs_fzBs _), by rw [mapRowH (hfs_fzBs _)]; rfl⟩, trivial⟩⟩ rfl (hfs_fzBs _) rfl rfl rfl rfl rfl (by
     show [frnO 6 _ (.row 24 c.c), frnO 6 _ (.row 28 D), _, frnO 6 _ (.row 101 (ntC n n.v)), AObj.row 36 [_, _, _, _, _, frnV 6 _ (rpaV p)], frnO 6 _ (.row 3 (ints ((q :: S).map Prod.fst)))] = _
     rw [hpv, frnRowH hcf, frnRowH hdf, frnRowH hnc, frnRowH (hfs_ints _)]; rfl)
  have h2 := AbsK.frz (P := P) (k := 0) (n := 5) (e := 3) (cs := ints ((q :: S).map Prod.fst)) (t := ofL (tlU a n.recs.length)) (s := allocs St0 ([.row 24 c.c, .row 28 D, .row 36 zFc, .row 101 (ntC n n.v), .row 36 [.int .u32 n.age, .int .u32 n.seq, .int .i64 n.stripe, .sl 5 0 (S.length + 1) none, rblV (q :: S), rpaV p], .row 3 (ints ((q :: S).map Prod.fst))])) (tl := tlU a n.recs.length) (tl2 := tlU a n.recs.length) (rs := [0, 1, 2, 3, 4, 5])
   (os := [.row 24 c.c, .row 28 D, .row 36 zFc, .row 101 (ntC n n.v), .row 36 [.int .u32 n.age, .int .u32 n.seq, .int .i64 n.stripe, .sl 5 0 (S.length + 1) none, rblV (q :: S), rpaV p]])
   (os2 := [.row 24 c.c, .row 28 D, .row 36 zFc, .row 101 (ntC n n.v), .row 36 (fC n.age n.seq n.stripe ⟨q :: S, p⟩)])
   ⟨rfl, by decide, ⟨⟨rfl, rfl⟩, ⟨rfl, rfl⟩, ⟨rfl, rfl⟩, ⟨rfl, rfl⟩, ⟨rfl, rfl⟩, ⟨rfl, rfl⟩, ⟨rfl, rfl⟩, trivial⟩, ⟨⟨rfl, rfl⟩, ⟨rowH hdf, by rw [mapRowH hdf]; rfl⟩, ⟨rfl, rfl⟩, ⟨rowH hnc, by rw [mapRowH hnc]; rfl⟩, ⟨by show (true && (true && (true && (true && (bd 6 (rblV (q :: S)) && (bd 6 (rpaV p) && true)))))) = true; rw [hf_bd _ (hf_rblV _), hf_bd _ (hf_rpaV p)]; rfl, by show _ = some (AObj.row 36 [_, _, _, _, mapV _ (rblV (q :: S)), mapV _ (rpaV p)]); rw [hf_mapV _ (hf_rblV _), hf_mapV _ (hf_rpaV p)]; rfl⟩, ⟨rowH (hfs_ints _), by rw [mapRowH (hfs_ints _)]; rfl⟩, trivial⟩⟩ rfl (hfs_ints _) rfl rfl rfl rfl rfl (by
     show [frzO 5 _ (.row 24 c.c), frzO 5 _ (.row 28 D), _, frzO 5 _ (.row 101 (ntC n n.v)), AObj.row 36 [_, _, _, _, frzV 5 _ (rblV (q :: S)), frzV 5 _ (rpaV p)]] = _
     rw [hf_frzV _ (hf_rblV _), hf_frzV _ (hf_rpaV p), frzRowH hcf, frzRowH hdf, frzRowH hnc]; rfl)
  exact W.tells (h1.trans h2) main
theorem rdGo_fuel (B : Nat → List Nat) : ∀ (R : List Rc) (n i : Nat) (x : RdS), R.length ≤ n → rdGo B R n i x = rdGo B R R.length i x
 | [], n, i, x, _ => by cases n <;> rfl
 | r :: R, 0, i, x, h => by simp at h
 | r :: R, n + 1, i, x, h => by
  show (if rdBad r (B i) = true then none else rdGo B R n (i + 1) (rdPut r (B i) x)) = if rdBad r (B i) = true then none else rdGo B R R.length (i + 1) (rdPut r (B i) x)
  rw [rdGo_fuel B R n (i + 1) _ (by simpa using h)]
theorem rdF_ref {x : CDA} (hx : x.ok) (hk : askE x = 0) (hg : rdGood (rbk x 0) = true) (hid : (rdNote (rbk x 0)).id = x.c.id) :
 rdF x = match rdGo (rbk x) (rdNote (rbk x 0)).recs (rdNote (rbk x 0)).recs.length 1 ⟨[], none⟩ with
  | none => none
  | some y => if dealB x.c (rdDB (rdNote (rbk x 0)).stripe y).d = true then some ⟨rdNote (rbk x 0), y⟩ else none := by
 have hM := (ask0 hk).1
 have hgood : ∀ y : RdS, CD.good ⟨x.c, (rdDB (rdNote (rbk x 0)).stripe y).d⟩ ↔ dealB x.c (rdDB (rdNote (rbk x 0)).stripe y).d = true := fun y => ⟨fun h => h.2, fun h => ⟨hM, h⟩⟩
 have h1 : rdF x = match rdGo (rbk x) (rdNote (rbk x 0)).recs (x.c.log.toNat - 1) 1 ⟨[], none⟩ with
  | none => none
  | some y => if dealB x.c (rdDB (rdNote (rbk x 0)).stripe y).d = true then some ⟨rdNote (rbk x 0), y⟩ else none := by
  unfold rdF
  rw [if_pos hk, if_pos ⟨hg, hid⟩]
  cases rdGo (rbk x) (rdNote (rbk x 0)).recs (x.c.log.toNat - 1) 1 ⟨[], none⟩ with
  | none => rfl
  | some y =>
   dsimp only
   by_cases h : dealB x.c (rdDB (rdNote (rbk x 0)).stripe y).d = true
   ·rw [if_pos h, if_pos ((hgood y).2 h)]
   ·rw [if_neg h, if_neg (fun h' => h ((hgood y).1 h'))]
 rcases Nat.lt_or_ge (x.c.log.toNat - 1) (rdNote (rbk x 0)).recs.length with hq | hq
 ·have hL : rdF x = none := by
   cases hc : rdF x with
   | none => rfl
   | some f =>
    exfalso
    have hF := rdF_some hc
    have e1 := hF.n
    have e2 := hF.go
    have e3 := hF.cd
    rw [e1] at e2 e3
    have hd := (drg_of hx hF.ask hF.good hF.id e2 e3).n
    omega
  rw [hL]
  cases hG : rdGo (rbk x) (rdNote (rbk x 0)).recs (rdNote (rbk x 0)).recs.length 1 ⟨[], none⟩ with
  | none => rfl
  | some y =>
   dsimp only
   rw [if_neg]
   intro hD
   have hp : pad (rbk x 0) = rbk x 0 := pad_of (rbk_ok hx hk 0).1
   have hg' := hg
   unfold rdGood at hg'
   rw [Bool.and_eq_true, decide_eq_true_eq, hp] at hg'
   have hnb := hg'.1
   unfold noteB at hnb
   rw [Bool.and_eq_true] at hnb
   obtain ⟨hh, hrb⟩ := hnb
   unfold headB at hh
   have hh := of_decide_eq_true hh
   have hso : ∀ r ∈ (rdNote (rbk x 0)).recs, 0 ≤ r.slot ∧ r.slot < 256 := fun r hr => ((ntB_ok (rbk_ok hx hk 0).2).rc r hr).1
   obtain ⟨⟨L, g1, g2, g3⟩, g4, _⟩ := rdGo_all (rdNote (rbk x 0)).recs.length (rdNote (rbk x 0)).recs _ 1 0 (-1) ⟨[], none⟩ y (fun k _ => rbk_ok hx hk k) hG rfl hrb (by omega) rdS0_ok (by show 0 + _ ≤ 17; omega) hso
   have g1 : prsS y = L := g1
   have hLl : L.length = (rdNote (rbk x 0)).recs.length := by
    have := congrArg List.length g2
    rwa [List.length_map, List.length_take, Nat.min_self] at this
   have hSl : (rdNote (rbk x 0)).recs.length ≤ y.S.length + 1 := by
    rw [← hLl, ← g1]
    unfold prsS
    rw [List.length_append]
    cases y.p <;> simp
   have hsl := ((dealB_iff _ _).1 hD).2.1
   have h6 := slotsOk_len hsl
   have h6 : ((y.S.map Prod.fst).length : Int) ≤ x.c.members - 2 + 1 := h6
   rw [List.length_map] at h6
   have hM' := hM
   unfold Cfg.may at hM'
   have h7 : (x.c.members + 1) * (x.c.heads + 1) ≥ (x.c.members + 1) * 3 := Int.mul_le_mul_of_nonneg_left (by omega) (by omega)
   omega
 ·rw [h1, rdGo_fuel _ _ _ _ _ hq]
structure CDA.st (x : CDA) : Prop where
 ok : x.ok
 k : askE x = 0
def stOut (x : CDA) : AV := match rdF x with
 | some f => .tup [.agg f.c, .int .i64 (1 + (f.n.recs.length : Int))]
 | none => stNo
def stdF : Fam CDA := ⟨CDA.st, CDA.args, stOut, fun x y hx hy h => by rw [CDA.inja hx.ok hy.ok h]⟩
theorem hf_stOut (x : CDA) : AM.hf (stOut x) = true := by
 unfold stOut
 split
 ·rename_i f _
  show (hfs f.c && (true && true)) = true
  rw [show hfs f.c = true from hfs_fC _ _ _ _]; rfl
 ·rfl
theorem stdF_ok {P : Program} {e : Env} {fn : Func} (hE : EnvOk P e) (hm : P.follows .mixedOrders = true) (h113 : Con e 113 atF.O) (h112 : Con e 112 ndF.O) (h114 : Con e 114 wholeRO) (h115 : Con e 115 sumVO) (h116 : Con e 116 dlmF.O) (hf : P.funcs[70]? = some fn) (hc : compF P fn = some a70) (hb : HasBody P 70) : OvOk P 70 stdF.O := by
 refine Fam.ok_of hb fun x hx => ?_
 obtain ⟨hx, hk⟩ := hx
 refine ⟨CDA.hfa hx, hf_stOut x, C.of_W hf hc ?_⟩
 have fin : ∀ s w, w = stOut x → Frz s w (stdF.out x) := by rintro s w rfl; exact .plain _ (hf_stOut x)
 have hB0 := rbk_ok hx hk 0
 have hM := (ask0 hk).1
 have hlog : x.c.log ≤ 255 := by unfold Cfg.may at hM; omega
 have hn := ntB_ok hB0.2
 have hlen := ntB_len (rbk x 0)
 have hat := fun (K : AV → St → Prop) (s : St) (hk' : K (fzB (rbk x 0)) s) => ESc.fam (k := K) (s := s) atF h113 ⟨x, 0⟩ ⟨hx, hk, (show 0 < 1000 by decide)⟩ rfl hk'
 have hnd := fun (K : AV → St → Prop) (s : St) (u : AV) (hu : ndOut ⟨fzB (rbk x 0), rbk x 0⟩ = u) (hk' : K u s) => ESc.fam (k := K) (s := s) ndF h112 ⟨fzB (rbk x 0), rbk x 0⟩ ⟨fzB_at hB0, .inr hB0.1⟩ hu hk'
 rw [ndOut_B hB0.1] at hnd
 have hgo := fun (hg : rdGood (rbk x 0) = true) (hid : (ntB (rbk x 0)).id = x.c.id) => st_loop (K := fun w s' => Frz s' w (stdF.out x)) hE hm h113 h114 h115 hx hk hn rfl (by rw [show (ntB (rbk x 0)).recs.length = rdCnt (rbk x 0) from hlen]; exact Nat.min_le_right _ _)
  (fun h s => fin s _ (by unfold stOut; rw [rdF_ref hx hk hg hid]; rw [show rdGo (rbk x) (rdNote (rbk x 0)).recs (rdNote (rbk x 0)).recs.length 1 ⟨[], none⟩ = none from h]))
  (fun y hy h => st_rest hE hm h116 hx.c hM (DKhf hx.d.a.wl hx.d.a.bl) ⟨_, _, _, rfl⟩ hn rfl hy
    (fun hD s => fin s _ (by unfold stOut; rw [rdF_ref hx hk hg hid, show rdGo (rbk x) (rdNote (rbk x 0)).recs (rdNote (rbk x 0)).recs.length 1 ⟨[], none⟩ = some y from h]; dsimp only; rw [if_pos (show dealB x.c (rdDB (rdNote (rbk x 0)).stripe y).d = true from hD)]; rfl))
    (fun hD s => fin s _ (by unfold stOut; rw [rdF_ref hx hk hg hid, show rdGo (rbk x) (rdNote (rbk x 0)).recs (rdNote (rbk x 0)).recs.length 1 ⟨[], none⟩ = some y from h]; dsimp only; rw [if_neg (by rw [show dealB x.c (rdDB (rdNote (rbk x 0)).stripe y).d = false from hD]; simp)])))
 have hno : ¬ (rdGood (rbk x 0) = true ∧ (ntB (rbk x 0)).id = x.c.id) → ∀ s, Frz s stNo (stdF.out x) := fun h s => fin s _ (by
  unfold stOut rdF
  rw [if_pos hk, if_neg (show ¬ (rdGood (rbk x 0) = true ∧ (rdNote (rbk x 0)).id = x.c.id) from h)])
 have hnv : AM.hf (ntB (rbk x 0)).v = true := rfl
 have hdf := DKhf hx.d.a.wl hx.d.a.bl (d := x.d.dead)
 clear fin
 generalize stdF.out x = O at hgo hno ⊢
 have hlen' : (ntB (rbk x 0)).recs.length = rdCnt (rbk x 0) := hlen
 generalize ntB (rbk x 0) = n at *
 generalize rdGood (rbk x 0) = g at *
 generalize fzB (rbk x 0) = b0 at *
 obtain ⟨c, d, a⟩ := x
 obtain ⟨id, mb, ch, rw', lg, hdd⟩ := c
 obtain ⟨bv, us, bs, wv, ws, dd⟩ := d
 obtain ⟨nid, nag, nsq, nst, nv, R⟩ := n
 dsimp only at hdf hnv hno hgo
 have hnc : hfs [.int .u32 nid, .int .u32 nag, .int .u32 nsq, .int .i64 nst, nv] = true := by
  show (true && (true && (true && (true && (AM.hf nv && true))))) = true
  rw [hnv]; rfl
 show W P 0 none code70 (initT [.agg [.int .u32 id, .int .i64 mb, .int .i64 ch, .int .i64 rw', .int .i64 lg, .int .i64 hdd], .agg [bv, wv, .bool dd], .int .i64 a] 0 .lf) St0 [] _
 refine W.seqV hE hm ?_; conv => whnf
 refine W.seqV hE hm ?_; conv => whnf
 refine hat _ _ ?_; conv => whnf
 cases g
 ·refine hnd _ _ _ (by rw [if_neg (by simp)]) ?_; conv => whnf
  refine W.seqV hE hm ?_; conv => whnf
  repeat' (first | ((refine w6 rfl rfl ?_ ?_) <;> intro _ <;> first | (exfalso; omega) | (conv => whnf)) | fail)
  exact ⟨.inr rfl, _, _, rfl, rfl, hno (fun h => by cases h.1) _⟩
 ·refine hnd _ _ _ (by rw [if_pos rfl]) ?_; conv => whnf
  refine W.seqV hE hm ?_; conv => whnf
  repeat' (first | ((refine w6 rfl rfl ?_ ?_) <;> intro _ <;> first | (exfalso; omega) | (conv => whnf)) | fail)
  ·rename_i h
   exact ⟨.inr rfl, _, _, rfl, rfl, hno (fun h' => h h'.2) _⟩
  ·rename_i h
   refine W.seqV hE hm ?_; conv => whnf
   refine W.tells (Abs.tells (tl := [(2, .int .i64 a), (3, .ptr 0 0), (4, .ptr 1 0), (6, .ptr 2 0), (8, .ptr 3 0), (10, .ptr 4 0)]) (os := [.row 24 [.int .u32 id, .int .i64 mb, .int .i64 ch, .int .i64 rw', .int .i64 lg, .int .i64 hdd], .row 28 [bv, wv, .bool dd], .row 36 zFc, .row 101 [.int .u32 nid, .int .u32 nag, .int .u32 nsq, .int .i64 nst, nv], .row 36 [.int .u32 nag, .int .u32 nsq, .int .i64 nst, .nils, .nils, .nils]]) (rs := [0, 1, 2, 3, 4])
    ⟨by decide, ⟨⟨rfl, rfl⟩, ⟨rfl, rfl⟩, ⟨rfl, rfl⟩, ⟨rfl, rfl⟩, ⟨rfl, rfl⟩, ⟨rfl, rfl⟩, trivial⟩, ⟨⟨rfl, rfl⟩, ⟨rowH hdf, by rw [mapRowH hdf]; rfl⟩, ⟨rfl, rfl⟩, ⟨rowH hnc, by rw [mapRowH hnc]; rfl⟩, ⟨rfl, rfl⟩, trivial⟩⟩) (hgo rfl h)
end Go.AM
set_option maxRecDepth 100000
namespace Go.AM
attribute [local irreducible] W
open X
theorem rreadF_ok {P : Program} {e : Env} {fn : Func} (hE : EnvOk P e) (hm : P.follows .mixedOrders = true) (h68 : Con e 68 mayRF.O) (h69 : Con e 69 jnlF.O) (h70 : Con e 70 stdF.O) (hf : P.funcs[24]? = some fn) (hc : compF P fn = some a24) (hb : HasBody P 24) : OvOk P 24 drF.O := by
 refine Fam.ok_of hb fun x hx => ?_
 refine ⟨CDA.hfa hx, hf_drOut x, C.of_V hE hm hf hc ?_⟩
 have fin : ∀ s w, w = drOut x → Frz s w (drF.out x) := by rintro s w rfl; exact .plain _ (hf_drOut x)
 have hc0 := hx.c
 have hd0 := hx.d
 have ha0 := hx.a
 have h1 := fun (K : AV → St → Prop) (s : St) (hk : K (.bool (decide x.c.may)) s) => ESc.fam (k := K) (s := s) mayRF h68 x.c hc0 rfl hk
 have h2 := fun (hM : x.c.may) (K : AV → St → Prop) (s : St) (hk : K (.bool (jnlB ⟨x.c, x.d⟩)) s) => ESc.fam (k := K) (s := s) jnlF h69 ⟨x.c, x.d⟩ ⟨hc0, hd0, by unfold Cfg.may at hM; have := Cfg.may_log hM; dsimp only; omega⟩ rfl hk
 have h3 := fun (hk : askE x = 0) (K : AV → St → Prop) (s : St) (hk' : K (stOut x) s) => ESc.fam (k := K) (s := s) stdF h70 x ⟨hx, hk⟩ rfl hk'
 have hst : stOut x = match rdF x with
  | some f => .tup [.agg f.c, .int .i64 (1 + (f.n.recs.length : Int))]
  | none => stNo := rfl
 have hou := drOut_F x
 have hln : ∀ f, rdF x = some f → f.n.recs.length ≤ 17 := fun f h => (rdF_some h).recs
 have hff : ∀ f, rdF x = some f → hfs f.c = true := fun f _ => hfs_fC _ _ _ _
 have hA : askE x = if x.c.may then (if jnlB ⟨x.c, x.d⟩ = true then (if 0 ≤ x.a ∧ x.a < x.c.log then (if x.d.dead = true then 40 else 0) else 2) else 8) else 8 := by
  unfold askE jnlB
  simp only [Bool.and_eq_true, decide_eq_true_eq]
 have hE1 : askE x ≠ 0 → drOut x = drErr (askE x) := fun h => by
  rw [hou]
  have : rdF x = none := by unfold rdF; rw [if_neg h]
  rw [this]; show drErr (errF x) = _; unfold errF; rw [if_neg h]
 have hE0 : askE x = 0 → rdF x = none → drOut x = drErr 130 := fun h h' => by rw [hou, h']; show drErr (errF x) = _; unfold errF; rw [if_pos h]
 have hE2 : ∀ f, rdF x = some f → drOut x = .tup [.agg f.c, .int .i64 (1 + (f.n.recs.length : Int)), .int .i64 0] := fun f h => by rw [hou, h]
 rw [hst] at h3
 clear hst hou
 generalize drOut x = D at fin hE0 hE1 hE2
 generalize drF.out x = O at fin ⊢
 generalize rdF x = F at h3 hln hff hE0 hE2
 generalize askE x = A at h3 hA hE0 hE1
 generalize jnlB ⟨x.c, x.d⟩ = J at h2 hA
 obtain ⟨c, d, a⟩ := x
 obtain ⟨id, mb, ch, rw', lg, hdd⟩ := c
 obtain ⟨bv, us, bs, wv, ws, dd⟩ := d
 dsimp only at hA ha0
 unfold i64B at ha0
 show VW P e 0 (match a24 with | .mk c _ => c) (initT [.agg [.int .u32 id, .int .i64 mb, .int .i64 ch, .int .i64 rw', .int .i64 lg, .int .i64 hdd], .agg [bv, wv, .bool dd], .int .i64 a] 0 .lf) St0 none [] _
 by_cases hM : Cfg.may ⟨id, mb, ch, rw', lg, hdd⟩
 ·rw [if_pos hM] at hA
  have h1' : ∀ (K : AV → St → Prop) (s : St), K (.bool true) s → ESc e 68 [.agg [.int .u32 id, .int .i64 mb, .int .i64 ch, .int .i64 rw', .int .i64 lg, .int .i64 hdd]] s K := fun K s hk => h1 K s (by rw [decide_eq_true hM]; exact hk)
  have h2' := h2 hM
  conv => whnf
  refine h1' _ _ ?_; conv => whnf
  refine EPrim.notT rfl ?_; conv => whnf
  refine h2' _ _ ?_
  cases J
  ·rw [if_neg (by simp)] at hA
   conv => whnf
   refine EPrim.notF rfl ?_; conv => whnf
   skip
   exact fin _ _ (by rw [hE1 (by omega), hA]; rfl)
  ·rw [if_pos rfl] at hA
   conv => whnf
   refine EPrim.notT rfl ?_; conv => whnf
   refine EPrim.lss2 (a := a) (b := 0) rfl rfl (fun g1 => ?_) (fun g1 => ?_)
   ·rw [if_neg (by omega)] at hA
    conv => whnf
    skip
    exact fin _ _ (by rw [hE1 (by omega), hA]; rfl)
   conv => whnf
   refine EPrim.geq2 (a := a) (b := lg) rfl rfl (fun g2 => ?_) (fun g2 => ?_)
   ·rw [if_neg (by omega)] at hA
    conv => whnf
    skip
    exact fin _ _ (by rw [hE1 (by omega), hA]; rfl)
   rw [if_pos ⟨by omega, g2⟩] at hA
   conv => whnf
   cases dd
   ·rw [if_neg (by simp)] at hA
    have h3' := h3 hA
    conv => whnf
    refine h3' _ _ ?_
    cases F with
    | none =>
     conv => whnf
     refine EPrim.eql2 (a := 0) (b := 0) rfl rfl (fun _ => ?_) (fun h => absurd rfl h); conv => whnf
     skip
     exact fin _ _ (by rw [hE0 hA rfl]; rfl)
    | some f =>
     have hl := hln f rfl
     have ho := hE2 f rfl
     have hfc := hff f rfl
     obtain ⟨n, y⟩ := f
     dsimp only at hl ho
     conv => whnf
     refine EPrim.eql2 (a := 1 + (n.recs.length : Int)) (b := 0) rfl rfl (fun h => by omega) (fun _ => ?_); conv => whnf
     skip
     exact fin _ _ (by rw [ho]; rfl)
   ·rw [if_pos rfl] at hA
    conv => whnf
    skip
    exact fin _ _ (by rw [hE1 (by omega), hA]; rfl)
 ·rw [if_neg hM] at hA
  have h1' : ∀ (K : AV → St → Prop) (s : St), K (.bool false) s → ESc e 68 [.agg [.int .u32 id, .int .i64 mb, .int .i64 ch, .int .i64 rw', .int .i64 lg, .int .i64 hdd]] s K := fun K s hk => h1 K s (by rw [decide_eq_false hM]; exact hk)
  conv => whnf
  refine h1' _ _ ?_; conv => whnf
  refine EPrim.notF rfl ?_; conv => whnf
  skip
  exact fin _ _ (by rw [hE1 (by omega), hA]; rfl)
end Go.AM
