/-
  CONTRACTS OF THE REFERENCE OF LAYER 12: freeboardref12's On and Gap return what dial's return.
-/
import Derived.Test.YthdmfaeeebndcaaDial
namespace Go.Proofs.Ythdmfaeeebndcaa
open Go.RowKit
set_option linter.unusedVariables false

theorem place_yes (s a : Int) (w : World) (h : DOk s a) :
    Calls Try.prog 16 #[.int .i64 s, .int .i64 a] w fun e w' => e = .returned (.bool true) ∧ w = w' := by
  obtain ⟨h1, h2, h3, h4⟩ := h
  go_enter Try.func16, Try.ntmps16
  go_wp2
  go_ret
  exact ⟨rfl, rfl⟩

theorem place_no (s a : Int) (w : World) (h : ¬ DOk s a) :
    Calls Try.prog 16 #[.int .i64 s, .int .i64 a] w fun e w' => e = .returned (.bool false) ∧ w = w' := by
  unfold DOk at h
  by_cases h1 : 1 ≤ s
  · by_cases h2 : s ≤ 255
    · by_cases h3 : 0 ≤ a
      · have h4 : decide (a < s) = false := by simp; omega
        clear h
        go_enter Try.func16, Try.ntmps16
        go_wp2
        go_ret
        exact ⟨rfl, rfl⟩
      · have h4 : decide (0 ≤ a) = false := by simp; omega
        clear h
        go_enter Try.func16, Try.ntmps16
        go_wp2
        go_ret
        exact ⟨rfl, rfl⟩
    · have h4 : decide (s ≤ 255) = false := by simp; omega
      clear h
      go_enter Try.func16, Try.ntmps16
      go_wp2
      go_ret
      exact ⟨rfl, rfl⟩
  · have h4 : decide (1 ≤ s) = false := by simp; omega
    clear h
    go_enter Try.func16, Try.ntmps16
    go_wp2
    go_ret
    exact ⟨rfl, rfl⟩

set_option maxHeartbeats 1000000 in
theorem further_any (s a n x : Int) (w : World) (h : OnR s a n x 0) :
    Calls Try.prog 17 #[.int .i64 s, .int .i64 a, .int .i64 n] w fun e w' => e = .returned (.int .i64 x) ∧ w = w' := by
  have hh := h
  unfold OnR DOk at hh
  have hb : 1 ≤ s ∧ s ≤ 255 ∧ 0 ≤ a ∧ a < s ∧ 0 ≤ n ∧ n ≤ s := by omega
  have hX : (a + n < s ∧ x = a + n) ∨ (s ≤ a + n ∧ x = a + n - s) := by omega
  have HX := Lib.hid hX
  clear hX hh h
  obtain ⟨c1, c2, c3, c4, c5, c6⟩ := hb
  go_enter Try.func17, Try.ntmps17
  go_wp2
  go_loop [1, 7] (fun t i => ∃ k y : Int, 0 ≤ k ∧ k ≤ n ∧ Hid ((a + k < s ∧ y = a + k) ∨ (s ≤ a + k ∧ y = a + k - s)) ∧ 0 ≤ y ∧ y < s ∧ i = .int .i64 k ∧ t = .int .i64 y) (fun _ i => (n - intOf i).toNat)
  case atStart => exact ⟨0, a, by omega, by omega, Lib.hid (by omega), by omega, by omega, rfl, rfl⟩
  case round =>
    obtain ⟨k, y, k0, k1, HY, y0, y1, rfl, rfl⟩ := hrel
    by_cases hlt : k < n
    · by_cases hs : y + 1 = s
      · have t1 : (y + 1 == s) = true := by simp; omega
        have H2 := Lib.hid hs
        clear hs
        go_wp2
        go_round
        case rel => exact ⟨k + 1, 0, by omega, by omega, Lib.hid (by have := HY.out; have := H2.out; omega), by omega, by omega, rfl, rfl⟩
        case measure => simp [intOf]; omega
      · have t1 : (y + 1 == s) = false := by simp; omega
        go_wp2
        go_round
        case rel => exact ⟨k + 1, y + 1, by omega, by omega, Lib.hid (by have := HY.out; omega), by omega, by omega, rfl, rfl⟩
        case measure => simp [intOf]; omega
    · go_wp2
      go_ret
      have e : x = y := by have := HX.out; have := HY.out; omega
      exact ⟨congrArg (fun z => Ending.returned (.int .i64 z)) e.symm, rfl⟩

set_option maxHeartbeats 1000000 in
theorem steps_any (s a b x : Int) (w : World) (h : GapR s a b x 0) :
    Calls Try.prog 18 #[.int .i64 s, .int .i64 a, .int .i64 b] w fun e w' => e = .returned (.int .i64 x) ∧ w = w' := by
  have hh := h
  unfold GapR DOk at hh
  have hb : 1 ≤ s ∧ s ≤ 255 ∧ 0 ≤ a ∧ a < s ∧ 0 ≤ b ∧ b < s ∧ 0 ≤ x ∧ x < s := by omega
  have hX : (b < a ∧ x = b - a + s) ∨ (a ≤ b ∧ x = b - a) := by omega
  have HX := Lib.hid hX
  clear hX hh h
  obtain ⟨c1, c2, c3, c4, c5, c6, c7, c8⟩ := hb
  go_enter Try.func18, Try.ntmps18
  go_wp2
  go_loop [1, 7, 8] (fun t m i => ∃ k y : Int, 0 ≤ k ∧ k ≤ x ∧ Hid ((a + k < s ∧ y = a + k) ∨ (s ≤ a + k ∧ y = a + k - s)) ∧ 0 ≤ y ∧ y < s ∧ i = .int .i64 k ∧ m = .int .i64 k ∧ t = .int .i64 y) (fun _ _ i => (x - intOf i).toNat)
  case atStart => exact ⟨0, a, by omega, by omega, Lib.hid (by omega), by omega, by omega, rfl, rfl, rfl⟩
  case round =>
    obtain ⟨k, y, k0, k1, HY, y0, y1, rfl, rfl, rfl⟩ := hrel
    by_cases hlt : k < x
    · have t1 : (y != b) = true := by have := HX.out; have := HY.out; simp; omega
      by_cases hs : y + 1 < s
      · go_wp2_with fail
        refine (further_any s y 1 (y + 1) _ (by unfold OnR DOk; omega)).mono ?_
        rintro e w1 ⟨rfl, rfl⟩
        go_wp2_with fail
        go_round
        case rel => exact ⟨k + 1, y + 1, by omega, by omega, Lib.hid (by have := HY.out; omega), by omega, by omega, rfl, rfl, rfl⟩
        case measure => simp [intOf]; omega
      · go_wp2_with fail
        refine (further_any s y 1 0 _ (by unfold OnR DOk; omega)).mono ?_
        rintro e w1 ⟨rfl, rfl⟩
        go_wp2_with fail
        go_round
        case rel => exact ⟨k + 1, 0, by omega, by omega, Lib.hid (by have := HY.out; omega), by omega, by omega, rfl, rfl, rfl⟩
        case measure => simp [intOf]; omega
    · have t1 : (y != b) = false := by have := HX.out; have := HY.out; simp; omega
      have e : x = k := by omega
      have E := Lib.hid e
      clear e
      go_wp2
      go_ret
      exact ⟨congrArg (fun z => Ending.returned (.int .i64 z)) E.out.symm, rfl⟩

set_option maxHeartbeats 1000000 in
theorem refOn_any (s a n x e : Int) (w : World) (h : OnR s a n x e) :
    Calls Try.prog 13 #[.int .i64 s, .int .i64 a, .int .i64 n] w fun e' w' => e' = .returned (.tuple #[.int .i64 x, .int .i64 e]) ∧ w = w' := by
  have H := Lib.hid h
  by_cases hd : DOk s a
  · by_cases n0 : n < 0
    · obtain ⟨rfl, rfl⟩ : x = 0 ∧ e = 2 := by unfold OnR at h; omega
      clear h
      go_enter Try.func13, Try.ntmps13
      go_wp2_with fail
      refine (place_yes _ _ _ hd).mono ?_
      rintro e w1 ⟨rfl, rfl⟩
      go_wp2_with fail
      go_ret2
      exact ⟨rfl, rfl⟩
    · by_cases n1 : s < n
      · obtain ⟨rfl, rfl⟩ : x = 0 ∧ e = 2 := by unfold OnR at h; omega
        clear h
        go_enter Try.func13, Try.ntmps13
        go_wp2_with fail
        refine (place_yes _ _ _ hd).mono ?_
        rintro e w1 ⟨rfl, rfl⟩
        go_wp2_with fail
        go_ret2
        exact ⟨rfl, rfl⟩
      · obtain rfl : e = 0 := by unfold OnR DOk at h; unfold DOk at hd; omega
        clear h
        go_enter Try.func13, Try.ntmps13
        go_wp2_with fail
        refine (place_yes _ _ _ hd).mono ?_
        rintro e w1 ⟨rfl, rfl⟩
        go_wp2_with fail
        refine (further_any _ _ _ x _ H.out).mono ?_
        rintro e w1 ⟨rfl, rfl⟩
        go_wp2_with fail
        go_ret2
        exact ⟨rfl, rfl⟩
  · obtain ⟨rfl, rfl⟩ : x = 0 ∧ e = 2 := by
      unfold OnR at h
      rcases h with h | h
      · exact absurd h.1 hd
      · exact h.2
    clear h
    go_enter Try.func13, Try.ntmps13
    go_wp2_with fail
    refine (place_no _ _ _ hd).mono ?_
    rintro e w1 ⟨rfl, rfl⟩
    go_wp2_with fail
    go_ret2
    exact ⟨rfl, rfl⟩

set_option maxHeartbeats 1000000 in
theorem refGap_any (s a n x e : Int) (w : World) (h : GapR s a n x e) :
    Calls Try.prog 14 #[.int .i64 s, .int .i64 a, .int .i64 n] w fun e' w' => e' = .returned (.tuple #[.int .i64 x, .int .i64 e]) ∧ w = w' := by
  have H := Lib.hid h
  by_cases hd : DOk s a
  · by_cases hn : DOk s n
    · obtain rfl : e = 0 := by unfold GapR DOk at h; unfold DOk at hd hn; omega
      clear h
      go_enter Try.func14, Try.ntmps14
      go_wp2_with fail
      refine (place_yes _ _ _ hd).mono ?_
      rintro e w1 ⟨rfl, rfl⟩
      go_wp2_with fail
      refine (place_yes _ _ _ hn).mono ?_
      rintro e w1 ⟨rfl, rfl⟩
      go_wp2_with fail
      refine (steps_any _ _ _ x _ H.out).mono ?_
      rintro e w1 ⟨rfl, rfl⟩
      go_wp2_with fail
      go_ret2
      exact ⟨rfl, rfl⟩
    · obtain ⟨rfl, rfl⟩ : x = 0 ∧ e = 2 := by
        unfold GapR at h
        rcases h with h | h
        · exact absurd h.2.1 hn
        · exact h.2
      clear h
      go_enter Try.func14, Try.ntmps14
      go_wp2_with fail
      refine (place_yes _ _ _ hd).mono ?_
      rintro e w1 ⟨rfl, rfl⟩
      go_wp2_with fail
      refine (place_no _ _ _ hn).mono ?_
      rintro e w1 ⟨rfl, rfl⟩
      go_wp2_with fail
      go_ret2
      exact ⟨rfl, rfl⟩
  · obtain ⟨rfl, rfl⟩ : x = 0 ∧ e = 2 := by
      unfold GapR at h
      rcases h with h | h
      · exact absurd h.1 hd
      · exact h.2
    clear h
    go_enter Try.func14, Try.ntmps14
    go_wp2_with fail
    refine (place_no _ _ _ hd).mono ?_
    rintro e w1 ⟨rfl, rfl⟩
    go_wp2_with fail
    go_ret2
    exact ⟨rfl, rfl⟩
end Go.Proofs.Ythdmfaeeebndcaa
