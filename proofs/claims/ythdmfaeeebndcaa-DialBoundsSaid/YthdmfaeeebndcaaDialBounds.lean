/-
  'DialBounds' returns true for every input, and leaves its arguments as they were. No conditions.
-/
import Derived.Test.YthdmfaeeebndcaaRows
import Derived.WalkKit
import Derived.Test.YthdmfaeeebndcaaDial
import Derived.Lib.Hide
import Derived.ProofKit
import Derived.OpenShut
import Derived.ShutString
namespace Go.Proofs.Ythdmfaeeebndcaa.dialBounds
open Go.ChangeShapes Go.WideShapes Go.ChangeAt Go.RowKit
open Go.ChangeMaps (open_string shut_string)
set_option linter.unusedVariables false      -- a walk need not use every 'w<i>' (that an integer argument fits its kind)

theorem own : ownKnob Try.prog.godebug = none := by kernel_rfl

set_option maxHeartbeats 4000000 in
theorem walk (a0 : Int) (a1 : Int) (a2 : Int) (w0 : (Lit.int .i64 a0).wf = true) (w1 : (Lit.int .i64 a1).wf = true) (w2 : (Lit.int .i64 a2).wf = true) (w : World) :
    Calls Try.prog 8 #[.int .i64 a0, .int .i64 a1, .int .i64 a2] w fun e w' => e = .returned (.bool true) ∧ Grown w w' := by
  have b0 := bounds_i64 w0
  have b1 := bounds_i64 w1
  have b2 := bounds_i64 w2
  clear w0 w1 w2
  obtain ⟨x, e, h1⟩ : ∃ x e, OnR a0 a1 a2 x e := ⟨_, _, onR_of a0 a1 a2⟩
  obtain ⟨y, f, h2⟩ : ∃ x e, GapR a0 a1 a2 x e := ⟨_, _, gapR_of a0 a1 a2⟩
  have H1 := Lib.hid h1
  have H2 := Lib.hid h2
  by_cases hd : DOk a0 a1
  · have hd' := hd
    obtain ⟨c1, c2, c3, c4⟩ := hd'
    by_cases n0 : 0 ≤ a2
    · by_cases n1 : a2 < a0
      · obtain ⟨rfl, rfl⟩ : e = 0 ∧ f = 0 := by unfold OnR DOk at h1; unfold GapR DOk at h2; omega
        clear h1 h2 hd
        go_enter Try.func8, Try.ntmps8
        go_wp2_with fail
        refine (alive_any _).mono ?_
        rintro e w1 ⟨rfl, rfl⟩
        go_wp2_with fail
        refine (on_is _ _ _ x 0 _ H1.out (by omega)).mono ?_
        rintro e w1 ⟨rfl, rfl⟩
        go_wp2_with fail
        refine (gap_is _ _ _ y 0 _ H2.out).mono ?_
        rintro e w1 ⟨rfl, rfl⟩
        go_wp2_with fail
        go_ret
        exact ⟨rfl, Grown.refl _⟩
      · by_cases n2 : a2 ≤ a0
        · obtain ⟨rfl, rfl, rfl⟩ : e = 0 ∧ f = 2 ∧ y = 0 := by unfold OnR DOk at h1; unfold GapR DOk at h2; omega
          have k1 : decide (a2 < a0) = false := by simp; omega
          clear h1 h2 hd
          go_enter Try.func8, Try.ntmps8
          go_wp2_with fail
          refine (alive_any _).mono ?_
          rintro e w1 ⟨rfl, rfl⟩
          go_wp2_with fail
          refine (on_is _ _ _ x 0 _ H1.out (by omega)).mono ?_
          rintro e w1 ⟨rfl, rfl⟩
          go_wp2_with fail
          refine (gap_is _ _ _ 0 2 _ H2.out).mono ?_
          rintro e w1 ⟨rfl, rfl⟩
          go_wp2_with fail
          go_ret
          exact ⟨rfl, Grown.refl _⟩
        · obtain ⟨rfl, rfl, rfl, rfl⟩ : e = 2 ∧ f = 2 ∧ y = 0 ∧ x = 0 := by unfold OnR DOk at h1; unfold GapR DOk at h2; omega
          have k1 : decide (a2 < a0) = false := by simp; omega
          have k2 : decide (a2 ≤ a0) = false := by simp; omega
          clear h1 h2 hd
          go_enter Try.func8, Try.ntmps8
          go_wp2_with fail
          refine (alive_any _).mono ?_
          rintro e w1 ⟨rfl, rfl⟩
          go_wp2_with fail
          refine (on_is _ _ _ 0 2 _ H1.out (by omega)).mono ?_
          rintro e w1 ⟨rfl, rfl⟩
          go_wp2_with fail
          refine (gap_is _ _ _ 0 2 _ H2.out).mono ?_
          rintro e w1 ⟨rfl, rfl⟩
          go_wp2_with fail
          go_ret
          exact ⟨rfl, Grown.refl _⟩
    · obtain ⟨rfl, rfl, rfl, rfl⟩ : e = 2 ∧ f = 2 ∧ y = 0 ∧ x = 0 := by unfold OnR DOk at h1; unfold GapR DOk at h2; omega
      have k1 : decide (0 ≤ a2) = false := by simp; omega
      clear h1 h2 hd
      go_enter Try.func8, Try.ntmps8
      go_wp2_with fail
      refine (alive_any _).mono ?_
      rintro e w1 ⟨rfl, rfl⟩
      go_wp2_with fail
      refine (on_is _ _ _ 0 2 _ H1.out (by omega)).mono ?_
      rintro e w1 ⟨rfl, rfl⟩
      go_wp2_with fail
      refine (gap_is _ _ _ 0 2 _ H2.out).mono ?_
      rintro e w1 ⟨rfl, rfl⟩
      go_wp2_with fail
      go_ret
      exact ⟨rfl, Grown.refl _⟩
  · obtain ⟨rfl, rfl, rfl, rfl⟩ : e = 2 ∧ f = 2 ∧ y = 0 ∧ x = 0 := by unfold OnR at h1; unfold GapR at h2; rcases h1 with h1 | h1 <;> rcases h2 with h2 | h2 <;> first | exact absurd h1.1 hd | exact absurd h2.1 hd | exact ⟨h1.2.2, h2.2.2, h2.2.1, h1.2.1⟩
    clear h1 h2
    unfold DOk at hd
    by_cases q1 : 1 ≤ a0
    · by_cases q2 : a0 ≤ 255
      · by_cases q3 : 0 ≤ a1
        · have q4 : decide (a1 < a0) = false := by simp; omega
          clear hd
          go_enter Try.func8, Try.ntmps8
          go_wp2_with fail
          refine (alive_any _).mono ?_
          rintro e w1 ⟨rfl, rfl⟩
          go_wp2_with fail
          refine (on_is _ _ _ 0 2 _ H1.out (by omega)).mono ?_
          rintro e w1 ⟨rfl, rfl⟩
          go_wp2_with fail
          refine (gap_is _ _ _ 0 2 _ H2.out).mono ?_
          rintro e w1 ⟨rfl, rfl⟩
          go_wp2_with fail
          go_ret
          exact ⟨rfl, Grown.refl _⟩
        · have q4 : decide (0 ≤ a1) = false := by simp; omega
          clear hd
          go_enter Try.func8, Try.ntmps8
          go_wp2_with fail
          refine (alive_any _).mono ?_
          rintro e w1 ⟨rfl, rfl⟩
          go_wp2_with fail
          refine (on_is _ _ _ 0 2 _ H1.out (by omega)).mono ?_
          rintro e w1 ⟨rfl, rfl⟩
          go_wp2_with fail
          refine (gap_is _ _ _ 0 2 _ H2.out).mono ?_
          rintro e w1 ⟨rfl, rfl⟩
          go_wp2_with fail
          go_ret
          exact ⟨rfl, Grown.refl _⟩
      · have q4 : decide (a0 ≤ 255) = false := by simp; omega
        clear hd
        go_enter Try.func8, Try.ntmps8
        go_wp2_with fail
        refine (alive_any _).mono ?_
        rintro e w1 ⟨rfl, rfl⟩
        go_wp2_with fail
        refine (on_is _ _ _ 0 2 _ H1.out (by omega)).mono ?_
        rintro e w1 ⟨rfl, rfl⟩
        go_wp2_with fail
        refine (gap_is _ _ _ 0 2 _ H2.out).mono ?_
        rintro e w1 ⟨rfl, rfl⟩
        go_wp2_with fail
        go_ret
        exact ⟨rfl, Grown.refl _⟩
    · have q4 : decide (1 ≤ a0) = false := by simp; omega
      clear hd
      go_enter Try.func8, Try.ntmps8
      go_wp2_with fail
      refine (alive_any _).mono ?_
      rintro e w1 ⟨rfl, rfl⟩
      go_wp2_with fail
      refine (on_is _ _ _ 0 2 _ H1.out (by omega)).mono ?_
      rintro e w1 ⟨rfl, rfl⟩
      go_wp2_with fail
      refine (gap_is _ _ _ 0 2 _ H2.out).mono ?_
      rintro e w1 ⟨rfl, rfl⟩
      go_wp2_with fail
      go_ret
      exact ⟨rfl, Grown.refl _⟩

/-! ### THE ROW's STEP: WRITTEN OUT: LEAVE IT -/
set_option maxRecDepth 100000 in
theorem lifted (os : Os) (started : os.Started) (H : Type) (enc : TypeId × Value → H) :
    ReturnsInHanded {} Try.checked os 8 .any (Rows.dialBoundsSpec.pre6 enc Try.prog Try.f8 Rows.dialBoundsRow.domain false) (Rows.dialBoundsSpec.post enc Try.prog Try.f8 false true false false) := by
  refine returnsInHanded_of_change (C := Try.checked) own started (by kernel_rfl) Try.func8
    (ChangeSpec.witness6 (enc := enc) (C := Try.checked) false ⟨#[], #[.int .i64 0, .int .i64 0, .int .i64 0], []⟩ 8 (by kernel_rfl) (by kernel_rfl) (by kernel_rfl) (by kernel_rfl)) ?_
  intro W base args ds gs before hval0 hW hcnd _
  have hval : ∀ (j : Nat) t v, Try.f8.params[j]? = some t → args[j]? = some v → Value.okWide Try.prog W .any base t v := hval0
  have hW' := hW
  obtain ⟨p, q, hA0, hV, rfl, hfz, hnd⟩ := hW
  have hA : DataW.TrodAll enc Try.prog W 0 (fun _ => true) true Try.f8.params.toList args.toList ds p := hA0
  rw [Try.params8] at hA hval
  obtain ⟨v0, vs0, d0, ds0, p0, q0, hargs, rfl, rfl, h0, r0⟩ := trodAll_cons hA
  obtain ⟨v1, vs1, d1, ds1, p1, q1, rfl, rfl, rfl, h1, r1⟩ := trodAll_cons r0
  obtain ⟨v2, vs2, d2, ds2, p2, q2, rfl, rfl, rfl, h2, r2⟩ := trodAll_cons r1
  obtain ⟨rfl, rfl, rfl⟩ := trodAll_nil r2
  obtain rfl : args = #[v0, v1, v2] := by cases args; simp_all
  obtain ⟨rfl, rfl⟩ := trodVars_none hV
  obtain ⟨a0, rfl, rfl, rfl, w0⟩ := open_int Try.underlying3 (hval 0 3 v0 rfl rfl) h0
  obtain ⟨a1, rfl, rfl, rfl, w1⟩ := open_int Try.underlying3 (hval 1 3 v1 rfl rfl) h1
  obtain ⟨a2, rfl, rfl, rfl, w2⟩ := open_int Try.underlying3 (hval 2 3 v2 rfl rfl) h2
  clear hA0 hval0
  simp only [List.append_nil] at hW'
  refine (walk a0 a1 a2 w0 w1 w2 W).mono fun e W' ⟨he, hg⟩ => ?_
  subst he
  exact ⟨_, rfl, post_of_same (pa := []) (pv := []) hW' (fun _ _ _ => (trodAll_cons_mk (shut_bool Try.underlying4 _) trodAll_mk0)) (fun sp _ => (trodAll_cons_mk (shut_int Try.underlying3 w0) (trodAll_cons_mk (shut_int Try.underlying3 w1) (trodAll_cons_mk (shut_int Try.underlying3 w2) trodAll_mk0)))) (fun _ _ => rfl) rfl
    (hg.frame _) hg.2.1 (ok_one (by kernel_rfl) rfl (okWide_bool_mk Try.underlying4 _))⟩

theorem over : Rows.dialBoundsRow.holds Try.pinned (OpenSpec.ofChange Rows.dialBoundsSpec) :=
  OpenClaim.holds_of_wide 8 Try.f8 rfl rfl rfl rfl rfl rfl rfl ⟨rfl, rfl, rfl, rfl, rfl⟩ rfl rfl rfl rfl rfl (by kernel_rfl) Try.func8 (by kernel_rfl)
    (of_decide_eq_true (by kernel_rfl)) (by unfold Func.isWrapper; first | (rw [if_pos (by decide +kernel)]; kernel_rfl) | (rw [if_neg (by decide +kernel)]; exact ⟨rfl, rfl⟩))
    (fun os started H enc _ => lifted os started H enc)

/-- ████ THE STATEMENT ████ -/
theorem proved : Rows.DialBoundsSaid :=
  over
#print axioms proved
end Go.Proofs.Ythdmfaeeebndcaa.dialBounds
