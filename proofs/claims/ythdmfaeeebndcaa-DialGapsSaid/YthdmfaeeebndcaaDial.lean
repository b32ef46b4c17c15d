/-
  CONTRACTS OF LAYER 12 (dial): what dial.On and dial.Gap return, for all integers.
-/
import Derived.Test.YthdmfaeeebndcaaProg
import Derived.WalkKit
import Derived.Lib.Hide
import Derived.BigQuiet
import Derived.Deep.QuietTactic
import Derived.WalkLawsBesides
namespace Go.Proofs.Ythdmfaeeebndcaa
open Go.RowKit
set_option linter.unusedVariables false

def DOk (s a : Int) : Prop := 1 ≤ s ∧ s ≤ 255 ∧ 0 ≤ a ∧ a < s

theorem has_yes (s a : Int) (w : World) (h : DOk s a) :
    Calls Try.prog 19 #[.int .i64 s, .int .i64 a] w fun e w' => e = .returned (.bool true) ∧ w = w' := by
  obtain ⟨h1, h2, h3, h4⟩ := h
  go_enter Try.func19, Try.ntmps19
  go_wp2
  go_ret
  exact ⟨rfl, rfl⟩

theorem has_no (s a : Int) (w : World) (h : ¬ DOk s a) :
    Calls Try.prog 19 #[.int .i64 s, .int .i64 a] w fun e w' => e = .returned (.bool false) ∧ w = w' := by
  unfold DOk at h
  by_cases h1 : 1 ≤ s
  · by_cases h2 : s ≤ 255
    · by_cases h3 : 0 ≤ a
      · have h4 : decide (a < s) = false := by simp; omega
        clear h
        go_enter Try.func19, Try.ntmps19
        go_wp2
        go_ret
        exact ⟨rfl, rfl⟩
      · have h4 : decide (0 ≤ a) = false := by simp; omega
        clear h
        go_enter Try.func19, Try.ntmps19
        go_wp2
        go_ret
        exact ⟨rfl, rfl⟩
    · have h4 : decide (s ≤ 255) = false := by simp; omega
      clear h
      go_enter Try.func19, Try.ntmps19
      go_wp2
      go_ret
      exact ⟨rfl, rfl⟩
  · have h4 : decide (1 ≤ s) = false := by simp; omega
    clear h
    go_enter Try.func19, Try.ntmps19
    go_wp2
    go_ret
    exact ⟨rfl, rfl⟩


theorem tellOn_zero (s a n : Int) (w : World) (h : DOk s a) (hn : n = 0) :
    Calls Try.prog 15 #[.int .i64 s, .int .u8 0, .int .i64 a, .int .i64 n] w fun e w' => e = .returned (.tuple #[.int .i64 (a % s), .int .i64 0]) ∧ w = w' := by
  subst hn
  obtain ⟨h1, h2, h3, h4⟩ := h
  go_enter Try.func15, Try.ntmps15
  go_wp2_with fail
  refine (has_yes _ _ _ (by exact ⟨h1, h2, h3, h4⟩)).mono ?_
  rintro e w1 ⟨rfl, rfl⟩
  go_wp2_with fail
  refine (has_yes _ _ _ (by unfold DOk; omega)).mono ?_
  rintro e w1 ⟨rfl, rfl⟩
  go_wp2_with fail
  go_ret2
  exact ⟨rfl, rfl⟩

theorem tellOn_pos (s a n : Int) (w : World) (h : DOk s a) (hn : 1 ≤ n) (hm : n ≤ s) :
    Calls Try.prog 15 #[.int .i64 s, .int .u8 0, .int .i64 a, .int .i64 n] w fun e w' => e = .returned (.tuple #[.int .i64 ((a + n) % s), .int .i64 0]) ∧ w = w' := by
  obtain ⟨h1, h2, h3, h4⟩ := h
  go_enter Try.func15, Try.ntmps15
  go_wp2_with fail
  refine (has_yes _ _ _ (by exact ⟨h1, h2, h3, h4⟩)).mono ?_
  rintro e w1 ⟨rfl, rfl⟩
  go_wp2_with fail
  refine (has_yes _ _ _ (by unfold DOk; omega)).mono ?_
  rintro e w1 ⟨rfl, rfl⟩
  go_wp2_with fail
  go_ret2
  exact ⟨rfl, rfl⟩

theorem tellOn_no (s a n : Int) (w : World) (h : ¬ DOk s a) (hn : 1 ≤ n) (hm : n ≤ 9223372036854775807) :
    Calls Try.prog 15 #[.int .i64 s, .int .u8 0, .int .i64 a, .int .i64 n] w fun e w' => e = .returned (.tuple #[.int .i64 0, .int .i64 2]) ∧ w = w' := by
  go_enter Try.func15, Try.ntmps15
  go_wp2_with fail
  refine (has_no _ _ _ (by exact h)).mono ?_
  rintro e w1 ⟨rfl, rfl⟩
  go_wp2_with fail
  go_ret2
  exact ⟨rfl, rfl⟩

theorem tellOn_no0 (s a n : Int) (w : World) (h : ¬ DOk s a) (hn : n = 0) :
    Calls Try.prog 15 #[.int .i64 s, .int .u8 0, .int .i64 a, .int .i64 n] w fun e w' => e = .returned (.tuple #[.int .i64 0, .int .i64 2]) ∧ w = w' := by
  subst hn
  go_enter Try.func15, Try.ntmps15
  go_wp2_with fail
  refine (has_no _ _ _ (by exact h)).mono ?_
  rintro e w1 ⟨rfl, rfl⟩
  go_wp2_with fail
  go_ret2
  exact ⟨rfl, rfl⟩

theorem tellOn_big (s a n : Int) (w : World) (h : DOk s a) (hn : s < n) (hm : n ≤ 9223372036854775807) :
    Calls Try.prog 15 #[.int .i64 s, .int .u8 0, .int .i64 a, .int .i64 n] w fun e w' => e = .returned (.tuple #[.int .i64 0, .int .i64 2]) ∧ w = w' := by
  obtain ⟨h1, h2, h3, h4⟩ := h
  go_enter Try.func15, Try.ntmps15
  go_wp2_with fail
  refine (has_yes _ _ _ (by exact ⟨h1, h2, h3, h4⟩)).mono ?_
  rintro e w1 ⟨rfl, rfl⟩
  go_wp2_with fail
  refine (has_no _ _ _ (by unfold DOk; omega)).mono ?_
  rintro e w1 ⟨rfl, rfl⟩
  go_wp2_with fail
  go_ret2
  exact ⟨rfl, rfl⟩

theorem tellOn_neg (s a n : Int) (w : World) (hn : n < 0) :
    Calls Try.prog 15 #[.int .i64 s, .int .u8 0, .int .i64 a, .int .i64 n] w fun e w' => e = .returned (.tuple #[.int .i64 0, .int .i64 2]) ∧ w = w' := by
  go_enter Try.func15, Try.ntmps15
  go_wp2_with fail
  all_goals (go_ret2; exact ⟨rfl, rfl⟩)

theorem tellGap_ok (s a n : Int) (w : World) (h : DOk s a) (hn : DOk s n) :
    Calls Try.prog 15 #[.int .i64 s, .int .u8 1, .int .i64 a, .int .i64 n] w fun e w' => e = .returned (.tuple #[.int .i64 ((n - a + s) % s), .int .i64 0]) ∧ w = w' := by
  obtain ⟨h1, h2, h3, h4⟩ := h
  obtain ⟨g1, g2, g3, g4⟩ := hn
  go_enter Try.func15, Try.ntmps15
  go_wp2_with fail
  refine (has_yes _ _ _ (by exact ⟨h1, h2, h3, h4⟩)).mono ?_
  rintro e w1 ⟨rfl, rfl⟩
  go_wp2_with fail
  refine (has_yes _ _ _ (by exact ⟨g1, g2, g3, g4⟩)).mono ?_
  rintro e w1 ⟨rfl, rfl⟩
  go_wp2_with fail
  go_ret2
  exact ⟨rfl, rfl⟩

theorem tellGap_no1 (s a n : Int) (w : World) (h : ¬ DOk s a) :
    Calls Try.prog 15 #[.int .i64 s, .int .u8 1, .int .i64 a, .int .i64 n] w fun e w' => e = .returned (.tuple #[.int .i64 0, .int .i64 2]) ∧ w = w' := by
  go_enter Try.func15, Try.ntmps15
  go_wp2_with fail
  refine (has_no _ _ _ (by exact h)).mono ?_
  rintro e w1 ⟨rfl, rfl⟩
  go_wp2_with fail
  go_ret2
  exact ⟨rfl, rfl⟩

theorem tellGap_no2 (s a n : Int) (w : World) (h : DOk s a) (hn : ¬ DOk s n) :
    Calls Try.prog 15 #[.int .i64 s, .int .u8 1, .int .i64 a, .int .i64 n] w fun e w' => e = .returned (.tuple #[.int .i64 0, .int .i64 2]) ∧ w = w' := by
  go_enter Try.func15, Try.ntmps15
  go_wp2_with fail
  refine (has_yes _ _ _ (by exact h)).mono ?_
  rintro e w1 ⟨rfl, rfl⟩
  go_wp2_with fail
  refine (has_no _ _ _ (by exact hn)).mono ?_
  rintro e w1 ⟨rfl, rfl⟩
  go_wp2_with fail
  go_ret2
  exact ⟨rfl, rfl⟩

theorem on_wrap (s a n x e : Int) (w : World) (h : Calls Try.prog 15 #[.int .i64 s, .int .u8 0, .int .i64 a, .int .i64 n] w fun e' w' => e' = .returned (.tuple #[.int .i64 x, .int .i64 e]) ∧ w = w') :
    Calls Try.prog 9 #[.int .i64 s, .int .i64 a, .int .i64 n] w fun e' w' => e' = .returned (.tuple #[.int .i64 x, .int .i64 e]) ∧ w = w' := by
  have H := Lib.hid h
  clear h
  go_enter Try.func9, Try.ntmps9
  go_wp2_with fail
  refine H.out.mono ?_
  rintro e w1 ⟨rfl, rfl⟩
  go_wp2_with fail
  go_ret2
  exact ⟨rfl, rfl⟩

theorem gap_wrap (s a n x e : Int) (w : World) (h : Calls Try.prog 15 #[.int .i64 s, .int .u8 1, .int .i64 a, .int .i64 n] w fun e' w' => e' = .returned (.tuple #[.int .i64 x, .int .i64 e]) ∧ w = w') :
    Calls Try.prog 10 #[.int .i64 s, .int .i64 a, .int .i64 n] w fun e' w' => e' = .returned (.tuple #[.int .i64 x, .int .i64 e]) ∧ w = w' := by
  have H := Lib.hid h
  clear h
  go_enter Try.func10, Try.ntmps10
  go_wp2_with fail
  refine H.out.mono ?_
  rintro e w1 ⟨rfl, rfl⟩
  go_wp2_with fail
  go_ret2
  exact ⟨rfl, rfl⟩

instance (s a : Int) : Decidable (DOk s a) := by unfold DOk; exact inferInstance
def onX (s a n : Int) : Int := if DOk s a ∧ 0 ≤ n ∧ n ≤ s then (a + n) % s else 0
def onE (s a n : Int) : Int := if DOk s a ∧ 0 ≤ n ∧ n ≤ s then 0 else 2
def gapX (s a n : Int) : Int := if DOk s a ∧ DOk s n then (n - a + s) % s else 0
def gapE (s a n : Int) : Int := if DOk s a ∧ DOk s n then 0 else 2

theorem on_any (s a n : Int) (w : World) (hm : n ≤ 9223372036854775807) :
    Calls Try.prog 9 #[.int .i64 s, .int .i64 a, .int .i64 n] w fun e w' => e = .returned (.tuple #[.int .i64 (onX s a n), .int .i64 (onE s a n)]) ∧ w = w' := by
  refine on_wrap s a n _ _ w ?_
  unfold onX onE
  by_cases h : DOk s a
  · by_cases h0 : n < 0
    · rw [if_neg (by omega), if_neg (by omega)]; exact tellOn_neg s a n w h0
    · by_cases h1 : n ≤ s
      · rw [if_pos ⟨h, by omega, h1⟩, if_pos ⟨h, by omega, h1⟩]
        by_cases h2 : n = 0
        · subst h2; rw [Int.add_zero]; exact tellOn_zero s a 0 w h rfl
        · exact tellOn_pos s a n w h (by omega) h1
      · rw [if_neg (by omega), if_neg (by omega)]; exact tellOn_big s a n w h (by omega) hm
  · rw [if_neg (fun x => h x.1), if_neg (fun x => h x.1)]
    by_cases h0 : n < 0
    · exact tellOn_neg s a n w h0
    · by_cases h2 : n = 0
      · exact tellOn_no0 s a n w h h2
      · exact tellOn_no s a n w h (by omega) hm

theorem gap_any (s a n : Int) (w : World) :
    Calls Try.prog 10 #[.int .i64 s, .int .i64 a, .int .i64 n] w fun e w' => e = .returned (.tuple #[.int .i64 (gapX s a n), .int .i64 (gapE s a n)]) ∧ w = w' := by
  refine gap_wrap s a n _ _ w ?_
  unfold gapX gapE
  by_cases h : DOk s a
  · by_cases g : DOk s n
    · rw [if_pos ⟨h, g⟩, if_pos ⟨h, g⟩]; exact tellGap_ok s a n w h g
    · rw [if_neg (fun x => g x.2), if_neg (fun x => g x.2)]; exact tellGap_no2 s a n w h g
  · rw [if_neg (fun x => h x.1), if_neg (fun x => h x.1)]; exact tellGap_no1 s a n w h

def OnR (s a n x e : Int) : Prop := (DOk s a ∧ 0 ≤ n ∧ n ≤ s ∧ e = 0 ∧ ((a + n < s ∧ x = a + n) ∨ (s ≤ a + n ∧ x = a + n - s))) ∨ (¬ (DOk s a ∧ 0 ≤ n ∧ n ≤ s) ∧ x = 0 ∧ e = 2)
def GapR (s a n x e : Int) : Prop := (DOk s a ∧ DOk s n ∧ e = 0 ∧ ((n < a ∧ x = n - a + s) ∨ (a ≤ n ∧ x = n - a))) ∨ (¬ (DOk s a ∧ DOk s n) ∧ x = 0 ∧ e = 2)
theorem mod_small {x s : Int} (h0 : 0 ≤ x) (h1 : x < s) : x % s = x := Int.emod_eq_of_lt h0 h1
theorem mod_once {x s : Int} (h0 : s ≤ x) (h1 : x < s + s) : x % s = x - s := by
  rw [← Int.emod_eq_of_lt (a := x - s) (b := s) (by omega) (by omega), Int.sub_emod_right]
theorem mod_twice {x s : Int} (h : 1 ≤ s) (h0 : 0 ≤ x) (h1 : x ≤ s + s) : (x % s = x ∧ x < s) ∨ (x % s = x - s ∧ s ≤ x ∧ x < s + s) ∨ (x % s = 0 ∧ x = s + s) := by
  by_cases a : x < s
  · exact Or.inl ⟨mod_small h0 a, a⟩
  · by_cases b : x < s + s
    · exact Or.inr (Or.inl ⟨mod_once (by omega) b, by omega, b⟩)
    · obtain rfl : x = s + s := by omega
      exact Or.inr (Or.inr ⟨by simp, rfl⟩)
theorem onR_of (s a n : Int) : OnR s a n (onX s a n) (onE s a n) := by
  unfold OnR onX onE
  by_cases h : DOk s a ∧ 0 ≤ n ∧ n ≤ s
  · rw [if_pos h, if_pos h]
    left
    obtain ⟨hd, h0, h1⟩ := h
    have ⟨g1, g2, g3, g4⟩ := hd
    refine ⟨hd, h0, h1, rfl, ?_⟩
    by_cases hc : a + n < s
    · exact Or.inl ⟨hc, mod_small (by omega) hc⟩
    · exact Or.inr ⟨by omega, mod_once (by omega) (by omega)⟩
  · rw [if_neg h, if_neg h]; exact Or.inr ⟨h, rfl, rfl⟩
theorem gapR_of (s a n : Int) : GapR s a n (gapX s a n) (gapE s a n) := by
  unfold GapR gapX gapE
  by_cases h : DOk s a ∧ DOk s n
  · rw [if_pos h, if_pos h]
    left
    obtain ⟨hd, hn⟩ := h
    have ⟨g1, g2, g3, g4⟩ := hd
    have ⟨k1, k2, k3, k4⟩ := hn
    refine ⟨hd, hn, rfl, ?_⟩
    by_cases hc : n < a
    · exact Or.inl ⟨hc, mod_small (by omega) (by omega)⟩
    · exact Or.inr ⟨by omega, by rw [mod_once (by omega) (by omega)]; omega⟩
  · rw [if_neg h, if_neg h]; exact Or.inr ⟨h, rfl, rfl⟩
theorem onR_det {s a n x e : Int} (h : OnR s a n x e) : onX s a n = x ∧ onE s a n = e := by
  have g := onR_of s a n
  unfold OnR DOk at h g
  omega
theorem gapR_det {s a n x e : Int} (h : GapR s a n x e) : gapX s a n = x ∧ gapE s a n = e := by
  have g := gapR_of s a n
  unfold GapR DOk at h g
  omega
theorem on_is (s a n x e : Int) (w : World) (h : OnR s a n x e) (hm : n ≤ 9223372036854775807) :
    Calls Try.prog 9 #[.int .i64 s, .int .i64 a, .int .i64 n] w fun e' w' => e' = .returned (.tuple #[.int .i64 x, .int .i64 e]) ∧ w = w' := by
  have := on_any s a n w hm
  rw [(onR_det h).1, (onR_det h).2] at this
  exact this
theorem gap_is (s a n x e : Int) (w : World) (h : GapR s a n x e) :
    Calls Try.prog 10 #[.int .i64 s, .int .i64 a, .int .i64 n] w fun e' w' => e' = .returned (.tuple #[.int .i64 x, .int .i64 e]) ∧ w = w' := by
  have := gap_any s a n w
  rw [(gapR_det h).1, (gapR_det h).2] at this
  exact this

theorem alive_any (w : World) : Calls Try.prog 11 #[] w fun e w' => e = .returned (.bool true) ∧ w = w' := by
  go_enter Try.func11, Try.ntmps11
  go_wp2
  go_ret
  exact ⟨rfl, rfl⟩
end Go.Proofs.Ythdmfaeeebndcaa
