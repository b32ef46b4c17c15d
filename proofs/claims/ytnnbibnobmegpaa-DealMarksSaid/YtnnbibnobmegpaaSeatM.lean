/-
  Functions of the program as the abstract machine reads them, and what is stated of them, checked by the kernel. No conditions.
-/
import Derived.Test.YtnnbibnobmegpaaSeatL
set_option linter.unusedVariables false
set_option linter.unusedSimpArgs false

set_option linter.unusedVariables false
set_option maxRecDepth 100000
namespace Go.AM
attribute [local irreducible] W
open X
def code126 : AC := match a126 with | .mk c _ => c
def code82 : AC := match a82 with | .mk c _ => c
def hasB (r a : Int) : Bool := decide (1 ≤ r ∧ r ≤ 255 ∧ 0 ≤ a ∧ a < r)
theorem has_run (e : Env) (s : St) (r a : Int) (K : AV → St → Prop) (h : K (.bool (hasB r a)) s) : VE e code126 (initT [.int .i64 r, .int .i64 a] 0 .lf) s none [] (EEnd [.tmp 4] K) := by
  unfold hasB at h
  conv => whnf
  repeat' (first | ((first | refine w1 rfl rfl ?_ ?_ | refine w2 rfl rfl ?_ ?_ | refine w3 rfl rfl ?_ ?_ | refine w4 rfl rfl ?_ ?_ | refine w5 rfl rfl ?_ ?_ | refine w6 rfl rfl ?_ ?_) <;> intro _ <;> first | (exfalso; omega) | (conv => whnf)) | ((first | refine w7 rfl rfl (by omega) ?_ | refine w8 rfl rfl (by omega) ?_ | refine w9 rfl rfl (by omega) ?_ | refine w10 rfl rfl ?_ | refine w11 rfl rfl ?_ | refine w12 rfl ?_ | refine w13 rfl ?_ | refine w14 (q' := .i64) rfl (i64_in (by omega)) ?_ | refine w14 (q' := .u32) rfl (u32_in (by omega)) ?_ | refine w14 (q' := .u8) rfl (u8_in (by omega)) ?_ | refine w15 rfl rfl ?_ | refine w16 rfl ?_ | refine w17 rfl ?_ | refine w18 rfl ?_ | refine ⟨rfl, ?_⟩); conv => whnf) | (refine w19 rfl ?_ ?_ <;> intro hc <;> (try subst hc) <;> conv => whnf))
  all_goals first
    | (rw [decide_eq_true (by omega)] at h; exact h)
    | (rw [decide_eq_false (by omega)] at h; exact h)
structure I3 where
  a : Int
  b : Int
  c : Int
def I3.ok (x : I3) : Prop := i64B x.a ∧ i64B x.b ∧ i64B x.c
def I3.args (x : I3) : List AV := [.int .i64 x.a, .int .i64 x.b, .int .i64 x.c]
theorem I3.inja {x y : I3} (h : x.args = y.args) : x = y := by
  obtain ⟨a, b, c⟩ := x
  obtain ⟨a', b', c'⟩ := y
  simp [I3.args] at h
  obtain ⟨rfl, rfl, rfl⟩ := h; rfl
def onOk (x : I3) : Bool := decide (0 ≤ x.c) && hasB x.a x.b && hasB x.a (max (x.c - 1) 0)
def onF : Fam I3 := ⟨I3.ok, I3.args, fun x => if onOk x then .tup [.int .i64 ((x.b + x.c) % x.a), .int .i64 0] else .tup [.int .i64 0, .int .i64 2], fun x y _ _ h => by rw [I3.inja h]⟩
theorem onF_ok {P : Program} {e : Env} {fn : Func} (hE : EnvOk P e) (hm : P.follows .mixedOrders = true) (h82 : Inl e 82 code82 [.tmp 8, .tmp 9]) (h126 : Inl e 126 code126 [.tmp 4]) (hf : P.funcs[35]? = some fn) (hc : compF P fn = some a35) (hb : HasBody P 35) : OvOk P 35 onF.O := by
  refine Fam.ok_of hb ?_
  rintro ⟨a, b, c⟩ ⟨h1, h2, h3⟩
  unfold i64B at h1 h2 h3
  dsimp only at h1 h2 h3
  refine ⟨rfl, by unfold onF; dsimp only; split <;> rfl, C.of_V hE hm hf hc ?_⟩
  have no : onOk ⟨a, b, c⟩ = false → onF.out ⟨a, b, c⟩ = .tup [.int .i64 0, .int .i64 2] := fun h => by simp [onF, h]
  have yes : onOk ⟨a, b, c⟩ = true → onF.out ⟨a, b, c⟩ = .tup [.int .i64 ((b + c) % a), .int .i64 0] := fun h => by simp [onF, h]
  unfold onOk at no yes
  dsimp only at no yes
  show VW P e 0 (match a35 with | .mk c _ => c) (initT [.int .i64 a, .int .i64 b, .int .i64 c] 0 .lf) St0 none [] _
  conv => whnf
  refine ESc.inl h82 ?_
  conv => whnf
  by_cases hc0 : c < 0
  · rw [no (by rw [decide_eq_false (by omega)]; rfl)]
    repeat' (first | (refine EPrim.sub (q := .i64) rfl rfl ?_; conv => whnf) | (refine EPrim.max2 rfl ?_; conv => whnf) | ((first | refine w1 rfl rfl ?_ ?_ | refine w2 rfl rfl ?_ ?_ | refine w3 rfl rfl ?_ ?_ | refine w4 rfl rfl ?_ ?_ | refine w5 rfl rfl ?_ ?_ | refine w6 rfl rfl ?_ ?_) <;> intro _ <;> first | (exfalso; omega) | (conv => whnf)) | ((first | refine w7 rfl rfl (by omega) ?_ | refine w8 rfl rfl (by omega) ?_ | refine w9 rfl rfl (by omega) ?_ | refine w10 rfl rfl ?_ | refine w11 rfl rfl ?_ | refine w12 rfl ?_ | refine w13 rfl ?_ | refine w14 (q' := .i64) rfl (i64_in (by omega)) ?_ | refine w14 (q' := .u32) rfl (u32_in (by omega)) ?_ | refine w14 (q' := .u8) rfl (u8_in (by omega)) ?_ | refine w15 rfl rfl ?_ | refine w16 rfl ?_ | refine w17 rfl ?_ | refine w18 rfl ?_ | refine ⟨rfl, ?_⟩); conv => whnf) | (refine w19 rfl ?_ ?_ <;> intro hc <;> (try subst hc) <;> conv => whnf))
    exact .plain _ rfl
  · repeat' (first | (refine EPrim.max2 rfl ?_; conv => whnf) | ((first | refine w1 rfl rfl ?_ ?_ | refine w2 rfl rfl ?_ ?_ | refine w3 rfl rfl ?_ ?_ | refine w4 rfl rfl ?_ ?_ | refine w5 rfl rfl ?_ ?_ | refine w6 rfl rfl ?_ ?_) <;> intro _ <;> first | (exfalso; omega) | (conv => whnf)) | ((first | refine w7 rfl rfl (by omega) ?_ | refine w8 rfl rfl (by omega) ?_ | refine w9 rfl rfl (by omega) ?_ | refine w10 rfl rfl ?_ | refine w11 rfl rfl ?_ | refine w12 rfl ?_ | refine w13 rfl ?_ | refine w14 (q' := .i64) rfl (i64_in (by omega)) ?_ | refine w14 (q' := .u32) rfl (u32_in (by omega)) ?_ | refine w14 (q' := .u8) rfl (u8_in (by omega)) ?_ | refine w15 rfl rfl ?_ | refine w16 rfl ?_ | refine w17 rfl ?_ | refine w18 rfl ?_ | refine ⟨rfl, ?_⟩); conv => whnf) | (refine w19 rfl ?_ ?_ <;> intro hc <;> (try subst hc) <;> conv => whnf))
    refine ESc.inl h126 (has_run e _ a b _ ?_)
    cases hA : hasB a b
    · conv => whnf
      repeat' (first | ((first | refine w1 rfl rfl ?_ ?_ | refine w2 rfl rfl ?_ ?_ | refine w3 rfl rfl ?_ ?_ | refine w4 rfl rfl ?_ ?_ | refine w5 rfl rfl ?_ ?_ | refine w6 rfl rfl ?_ ?_) <;> intro _ <;> first | (exfalso; omega) | (conv => whnf)) | ((first | refine w7 rfl rfl (by omega) ?_ | refine w8 rfl rfl (by omega) ?_ | refine w9 rfl rfl (by omega) ?_ | refine w10 rfl rfl ?_ | refine w11 rfl rfl ?_ | refine w12 rfl ?_ | refine w13 rfl ?_ | refine w14 (q' := .i64) rfl (i64_in (by omega)) ?_ | refine w14 (q' := .u32) rfl (u32_in (by omega)) ?_ | refine w14 (q' := .u8) rfl (u8_in (by omega)) ?_ | refine w15 rfl rfl ?_ | refine w16 rfl ?_ | refine w17 rfl ?_ | refine w18 rfl ?_ | refine ⟨rfl, ?_⟩); conv => whnf) | (refine w19 rfl ?_ ?_ <;> intro hc <;> (try subst hc) <;> conv => whnf))
      rw [no (by rw [hA]; simp)]
      exact .plain _ rfl
    · conv => whnf
      repeat' (first | ((first | refine w1 rfl rfl ?_ ?_ | refine w2 rfl rfl ?_ ?_ | refine w3 rfl rfl ?_ ?_ | refine w4 rfl rfl ?_ ?_ | refine w5 rfl rfl ?_ ?_ | refine w6 rfl rfl ?_ ?_) <;> intro _ <;> first | (exfalso; omega) | (conv => whnf)) | ((first | refine w7 rfl rfl (by omega) ?_ | refine w8 rfl rfl (by omega) ?_ | refine w9 rfl rfl (by omega) ?_ | refine w10 rfl rfl ?_ | refine w11 rfl rfl ?_ | refine w12 rfl ?_ | refine w13 rfl ?_ | refine w14 (q' := .i64) rfl (i64_in (by omega)) ?_ | refine w14 (q' := .u32) rfl (u32_in (by omega)) ?_ | refine w14 (q' := .u8) rfl (u8_in (by omega)) ?_ | refine w15 rfl rfl ?_ | refine w16 rfl ?_ | refine w17 rfl ?_ | refine w18 rfl ?_ | refine ⟨rfl, ?_⟩); conv => whnf) | (refine w19 rfl ?_ ?_ <;> intro hc <;> (try subst hc) <;> conv => whnf))
      refine ESc.inl h126 (has_run e _ a (max (c - 1) 0) _ ?_)
      cases hB : hasB a (max (c - 1) 0)
      · conv => whnf
        repeat' (first | ((first | refine w1 rfl rfl ?_ ?_ | refine w2 rfl rfl ?_ ?_ | refine w3 rfl rfl ?_ ?_ | refine w4 rfl rfl ?_ ?_ | refine w5 rfl rfl ?_ ?_ | refine w6 rfl rfl ?_ ?_) <;> intro _ <;> first | (exfalso; omega) | (conv => whnf)) | ((first | refine w7 rfl rfl (by omega) ?_ | refine w8 rfl rfl (by omega) ?_ | refine w9 rfl rfl (by omega) ?_ | refine w10 rfl rfl ?_ | refine w11 rfl rfl ?_ | refine w12 rfl ?_ | refine w13 rfl ?_ | refine w14 (q' := .i64) rfl (i64_in (by omega)) ?_ | refine w14 (q' := .u32) rfl (u32_in (by omega)) ?_ | refine w14 (q' := .u8) rfl (u8_in (by omega)) ?_ | refine w15 rfl rfl ?_ | refine w16 rfl ?_ | refine w17 rfl ?_ | refine w18 rfl ?_ | refine ⟨rfl, ?_⟩); conv => whnf) | (refine w19 rfl ?_ ?_ <;> intro hc <;> (try subst hc) <;> conv => whnf))
        rw [no (by rw [hB]; simp)]
        exact .plain _ rfl
      · have e1 := of_decide_eq_true hA
        have e2 := of_decide_eq_true hB
        conv => whnf
        repeat' (first | (refine EPrim.remN rfl rfl (by omega) ?_; conv => whnf) | ((first | refine w1 rfl rfl ?_ ?_ | refine w2 rfl rfl ?_ ?_ | refine w3 rfl rfl ?_ ?_ | refine w4 rfl rfl ?_ ?_ | refine w5 rfl rfl ?_ ?_ | refine w6 rfl rfl ?_ ?_) <;> intro _ <;> first | (exfalso; omega) | (conv => whnf)) | ((first | refine w7 rfl rfl (by omega) ?_ | refine w8 rfl rfl (by omega) ?_ | refine w9 rfl rfl (by omega) ?_ | refine w10 rfl rfl ?_ | refine w11 rfl rfl ?_ | refine w12 rfl ?_ | refine w13 rfl ?_ | refine w14 (q' := .i64) rfl (i64_in (by omega)) ?_ | refine w14 (q' := .u32) rfl (u32_in (by omega)) ?_ | refine w14 (q' := .u8) rfl (u8_in (by omega)) ?_ | refine w15 rfl rfl ?_ | refine w16 rfl ?_ | refine w17 rfl ?_ | refine w18 rfl ?_ | refine ⟨rfl, ?_⟩); conv => whnf) | (refine w19 rfl ?_ ?_ <;> intro hc <;> (try subst hc) <;> conv => whnf))
        rw [yes (by rw [hA, hB, decide_eq_true (by omega)]; rfl)]
        exact .plain _ rfl
end Go.AM

set_option linter.unusedVariables false
set_option maxRecDepth 100000
namespace Go.AM
/-- what a log that may be tells -/
def sumB (L : List Lv) : Int := (L.map Lv.blocks).foldr (· + ·) 0
theorem sumB_cons (x : Lv) (L : List Lv) : sumB (x :: L) = x.blocks + sumB L := rfl
theorem rightL_some {r : Ring} : ∀ {l : List Lv} {i : Nat} {u : Int} {s : Bool} {u' : Int}, rightL r i u s l = some u' →
    u' = u + sumB l ∧ ∀ (k : Nat) (x : Lv), l[k]? = some x → ∃ s', ¬ lvBad r (i + k) s' x ∧ s' = (if k = 0 then s else (l[k - 1]?.map Lv.sure).getD s)
  | [], i, u, s, u', h => by
    injection h with h
    exact ⟨by rw [← h]; show u = u + 0; omega, fun k x hk => by simp at hk⟩
  | y :: l, i, u, s, u', h => by
    unfold rightL at h
    split at h
    · cases h
    · rename_i hb
      obtain ⟨h1, h2⟩ := rightL_some h
      refine ⟨by rw [h1, sumB_cons]; omega, fun k x hk => ?_⟩
      cases k with
      | zero => simp at hk; subst hk; exact ⟨s, hb, by simp⟩
      | succ k =>
        obtain ⟨s', g1, g2⟩ := h2 k x (by simpa using hk)
        refine ⟨s', by rw [show i + (k + 1) = i + 1 + k by omega]; exact g1, ?_⟩
        rw [g2]
        cases k with
        | zero => simp
        | succ k =>
          have hlt : k + 1 < l.length := (List.getElem?_eq_some_iff.1 (show l[k + 1]? = some x by simpa using hk)).1
          have hz : l[k]? = some l[k] := List.getElem?_eq_getElem (by omega)
          show (if k + 1 = 0 then y.sure else (l[k]?.map Lv.sure).getD y.sure) = if k + 1 + 1 = 0 then s else (l[k]?.map Lv.sure).getD s
          rw [hz, if_neg (by omega), if_neg (by omega)]; rfl
structure GoodR (r : Ring) : Prop where
  age : 1 ≤ r.l.age ∧ r.l.age ≤ 2147483648
  seq : 1 ≤ r.l.seq ∧ r.l.seq ≤ 2147483648
  tail : 0 ≤ r.l.tail ∧ r.l.tail < r.c.log
  len : (r.l.live.length : Int) ≤ r.c.log
  used : r.l.used ≤ r.c.log
  sum : r.l.used = sumB r.l.live
  more : (r.l.live.length : Int) < r.l.seq
  homes : homesB r.l.live = true
  room : roomB r = true
  lv : ∀ (k : Nat) (x : Lv), r.l.live[k]? = some x → (0 ≤ x.stripe ∧ x.stripe < r.c.chunk * r.c.rows) ∧ (2 ≤ x.blocks ∧ x.blocks ≤ r.c.members + 1) ∧ x.seq = r.l.seq - ((r.l.live.length : Int) - k) ∧
    (x.sure = true → k = 0 ∨ ∃ y, r.l.live[k - 1]? = some y ∧ y.sure = true)
theorem good_iff {r : Ring} (h : rightB r = true) : GoodR r := by
  unfold rightB at h
  rw [Bool.and_eq_true] at h
  obtain ⟨hT, h⟩ := h
  have hT := of_decide_eq_true hT
  unfold topB numB at hT
  simp only [decide_eq_true_eq] at hT
  split at h
  · cases h
  · rename_i u hu
    simp only [Bool.and_eq_true, decide_eq_true_eq] at h
    obtain ⟨⟨⟨h1, h2⟩, h3⟩, h4⟩ := h
    obtain ⟨g1, g2⟩ := rightL_some hu
    refine ⟨hT.1, hT.2.1, ⟨hT.2.2.1, hT.2.2.2.1⟩, hT.2.2.2.2.1, hT.2.2.2.2.2, by omega, h2, h3, h4, fun k x hk => ?_⟩
    obtain ⟨s', b1, b2⟩ := g2 k x hk
    unfold lvBad at b1
    have hkl := (List.getElem?_eq_some_iff.1 hk).1
    rw [Nat.zero_add] at b1
    have hm : (r.l.seq - ((r.l.live.length : Int) - k)) % 4294967296 = r.l.seq - ((r.l.live.length : Int) - k) := Int.emod_eq_of_lt (by omega) (by omega)
    rw [hm] at b1
    refine ⟨by omega, by omega, by omega, fun hs => ?_⟩
    by_cases hk0 : k = 0
    · exact .inl hk0
    · rw [if_neg hk0] at b2
      right
      cases hq : r.l.live[k - 1]? with
      | none => rw [List.getElem?_eq_none_iff] at hq; omega
      | some y =>
        rw [hq] at b2
        refine ⟨y, rfl, ?_⟩
        cases hy : y.sure with
        | true => rfl
        | false => exfalso; apply b1; simp [hs, b2, hy]
theorem rightL_of {r : Ring} : ∀ {l : List Lv} {i : Nat} {u : Int} {s : Bool}, (∀ (k : Nat) (x : Lv), l[k]? = some x → ¬ lvBad r (i + k) (if k = 0 then s else (l[k - 1]?.map Lv.sure).getD s) x) → rightL r i u s l = some (u + sumB l)
  | [], i, u, s, _ => by show some u = some (u + 0); rw [Int.add_zero]
  | y :: l, i, u, s, h => by
    unfold rightL
    rw [if_neg (by simpa using h 0 y rfl), rightL_of (fun k x hk => ?_), sumB_cons, Int.add_assoc]
    have := h (k + 1) x (by simpa using hk)
    rw [show i + 1 + k = i + (k + 1) by omega]
    cases k with
    | zero => simpa using this
    | succ k =>
      have hlt : k + 1 < l.length := (List.getElem?_eq_some_iff.1 hk).1
      have hz : l[k]? = some l[k] := List.getElem?_eq_getElem (by omega)
      have e1 : (if k + 1 + 1 = 0 then s else (l[k]?.map Lv.sure).getD s) = (if k + 1 = 0 then y.sure else (l[k]?.map Lv.sure).getD y.sure) := by
        rw [hz, if_neg (by omega), if_neg (by omega)]; rfl
      have this : ¬ lvBad r (i + (k + 1 + 1)) (if k + 1 + 1 = 0 then s else (l[k]?.map Lv.sure).getD s) x := this
      rw [e1] at this
      exact this
theorem of_good {r : Ring} (h : GoodR r) : rightB r = true := by
  have hT : topB r := by
    unfold topB numB
    exact ⟨decide_eq_true h.age, decide_eq_true h.seq, h.tail.1, h.tail.2, h.len, h.used⟩
  have hm := h.more
  have hsq := h.seq
  have hR : rightL r 0 0 true r.l.live = some (0 + sumB r.l.live) := by
    refine rightL_of fun k x hk => ?_
    obtain ⟨h1, h2, h3, h4⟩ := h.lv k x hk
    have hkl := (List.getElem?_eq_some_iff.1 hk).1
    unfold lvBad
    rw [Nat.zero_add]
    have hmod : (r.l.seq - ((r.l.live.length : Int) - k)) % 4294967296 = r.l.seq - ((r.l.live.length : Int) - k) := Int.emod_eq_of_lt (by omega) (by omega)
    rw [hmod]
    rintro (a | a | a | a | a | a | ⟨a, b⟩)
    · omega
    · omega
    · omega
    · omega
    · omega
    · exact a h3
    · rcases h4 a with h0 | ⟨y, hy, hys⟩
      · rw [if_pos h0] at b; cases b
      · by_cases hk0 : k = 0
        · rw [if_pos hk0] at b; cases b
        · rw [if_neg hk0, hy] at b; simp [hys] at b
  unfold rightB
  rw [decide_eq_true hT, hR]
  simp only [Int.zero_add, Bool.true_and, Bool.and_eq_true, decide_eq_true_eq]
  exact ⟨⟨⟨h.sum.symm, h.more⟩, h.homes⟩, h.room⟩
end Go.AM
