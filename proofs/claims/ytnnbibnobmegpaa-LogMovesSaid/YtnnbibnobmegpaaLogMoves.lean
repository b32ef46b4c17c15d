/-
  'LogMoves' returns true, whatever the config and the log; the input reads as it did. No conditions: every input. By contracts of log's functions over the abstract machine.
-/
import Derived.Test.YtnnbibnobmegpaaRows
import Derived.WalkKit
import Derived.Test.YtnnbibnobmegpaaAM5
import Derived.Test.YtnnbibnobmegpaaSeatEnv2
import Derived.ProofKit
import Derived.OpenShut
import Derived.ShutString
namespace Go.Proofs.Ytnnbibnobmegpaa.logMoves
open Go.ChangeShapes Go.WideShapes Go.ChangeAt Go.RowKit
set_option linter.unusedVariables false

theorem own : ownKnob Try.prog.godebug = none := by kernel_rfl
theorem laid : laidOutB Try.prog = true := by kernel_rfl
theorem pars : (Try.f8.params.toList.all fun t => Try.prog.readableRec t && decide (t < Try.prog.types.size)) = true := by kernel_rfl
theorem ty24 : AM.TyOf Try.prog 24 (.st AM.tCfg) 6 := .st 24 _ _ 6 Try.underlying24 (by kernel_rfl) (.cons _ _ 0 _ 1 _ _ rfl (by kernel_rfl) (.int 22 .u32 Try.underlying22) (.cons _ _ 1 _ 1 _ _ rfl (by kernel_rfl) (.int 3 .i64 Try.underlying3) (.cons _ _ 2 _ 1 _ _ rfl (by kernel_rfl) (.int 3 .i64 Try.underlying3) (.cons _ _ 3 _ 1 _ _ rfl (by kernel_rfl) (.int 3 .i64 Try.underlying3) (.cons _ _ 4 _ 1 _ _ rfl (by kernel_rfl) (.int 3 .i64 Try.underlying3) (.cons _ _ 5 _ 1 _ _ rfl (by kernel_rfl) (.int 3 .i64 Try.underlying3) (.nil 6)))))))
theorem ty62 : AM.TyOf Try.prog 62 (.st AM.tLv) 6 := .st 62 _ _ 6 Try.underlying62 (by kernel_rfl) (.cons _ _ 0 _ 1 _ _ rfl (by kernel_rfl) (.int 22 .u32 Try.underlying22) (.cons _ _ 1 _ 1 _ _ rfl (by kernel_rfl) (.int 3 .i64 Try.underlying3) (.cons _ _ 2 _ 1 _ _ rfl (by kernel_rfl) (.int 3 .i64 Try.underlying3) (.cons _ _ 3 _ 1 _ _ rfl (by kernel_rfl) (.bool 4 Try.underlying4) (.cons _ _ 4 _ 1 _ _ rfl (by kernel_rfl) (.bool 4 Try.underlying4) (.cons _ _ 5 _ 1 _ _ rfl (by kernel_rfl) (.bool 4 Try.underlying4) (.nil 6)))))))
theorem ty56 : AM.TyOf Try.prog 56 (.st AM.tLog) 5 := .st 56 _ _ 5 Try.underlying56 (by kernel_rfl) (.cons _ _ 0 _ 1 _ _ rfl (by kernel_rfl) (.int 22 .u32 Try.underlying22) (.cons _ _ 1 _ 1 _ _ rfl (by kernel_rfl) (.int 22 .u32 Try.underlying22) (.cons _ _ 2 _ 1 _ _ rfl (by kernel_rfl) (.int 3 .i64 Try.underlying3) (.cons _ _ 3 _ 1 _ _ rfl (by kernel_rfl) (.int 3 .i64 Try.underlying3) (.cons _ _ 4 _ 1 _ _ rfl (by kernel_rfl) (.sl 54 62 _ 6 Try.underlying54 (by kernel_rfl) (by decide) ty62) (.nil 5))))))

set_option maxRecDepth 100000 in
theorem lifted (os : Os) (started : os.Started) (H : Type) (enc : TypeId × Value → H) :
    ReturnsInHanded {} Try.checked os 8 .any (Rows.logMovesSpec.pre6 enc Try.prog Try.f8 Rows.logMovesRow.domain false) (Rows.logMovesSpec.post enc Try.prog Try.f8 false true false false) := by
  refine returnsInHanded_of_change (C := Try.checked) own started (by kernel_rfl) Try.func8
    (ChangeSpec.witness6 (enc := enc) (C := Try.checked) false ⟨#[], #[.agg #[.int .u32 0, .int .i64 0, .int .i64 0, .int .i64 0, .int .i64 0, .int .i64 0], .agg #[.int .u32 0, .int .u32 0, .int .i64 0, .int .i64 0, .slice none 0 0]], []⟩ 8 (by kernel_rfl) (by kernel_rfl) (by kernel_rfl) (by kernel_rfl)) ?_
  intro W base args ds gs before hval0 hW hcnd _
  have hval : ∀ (j : Nat) t v, Try.f8.params[j]? = some t → args[j]? = some v → Value.okWide Try.prog W .any base t v := hval0
  have hW' := hW
  obtain ⟨p, q, hA0, hV, rfl, hfz, hnd⟩ := hW
  have hA : DataW.TrodAll enc Try.prog W 0 (fun _ => true) true Try.f8.params.toList args.toList ds p := hA0
  have hlt : ∀ x ∈ p, x.block < W.heap.size := fun x hx => hW'.lt x (List.mem_append.2 (.inl hx))
  rw [Try.params8] at hA hval
  obtain ⟨v0, vs0, d0, ds0, p0, q0, hargs, rfl, rfl, h0, r0⟩ := trodAll_cons hA
  obtain ⟨v1, vs1, d1, ds1, p1, q1, rfl, rfl, rfl, h1, r1⟩ := trodAll_cons r0
  obtain ⟨rfl, rfl, rfl⟩ := trodAll_nil r1
  obtain rfl : args = #[v0, v1] := by cases args; simp_all
  obtain ⟨rfl, rfl⟩ := trodVars_none hV
  obtain ⟨l0, s0, V0⟩ := AM.arg_struct Try.underlying24 ty24 (hval 0 24 v0 rfl rfl) h0
  obtain ⟨c, hc, rfl⟩ := AM.cfg_of s0
  obtain ⟨l1, s1, V1⟩ := AM.arg_struct Try.underlying56 ty56 (hval 1 56 v1 rfl rfl) h1
  obtain ⟨ag, sq, tl, us, v, L, rfl, g1, g2, g3, g4, g5, g6⟩ := AM.log_of s1
  clear hval0
  refine (AM.law_args (vals := [v0, v1]) (.cons V0 (.cons V1 .nil)) (AM.logMoves_C c ag sq tl us L v hc g1 g2 g3 g4 g5 g6)).mono fun e W' ⟨he, hg⟩ => ?_
  subst he
  refine ⟨_, rfl, AM.post_new (pa := _) (pv := []) hW' hg rfl (fun _ _ _ => (trodAll_cons_mk (shut_bool Try.underlying4 _) trodAll_mk0)) (fun sp hsp => ?_) (fun _ _ => rfl)
    (ok_one (by kernel_rfl) rfl (okWide_bool_mk Try.underlying4 _))⟩
  exact AM.trodAll_below laid hg sp pars hA0 hlt (fun x hx => hsp x (List.mem_append.2 (.inl hx)))

theorem bt {a b : Bool} (ha : a = true) (hb : b = true) : (a && b) = true := by rw [ha, hb]; rfl
theorem k0 : (Rows.logMovesRow.wf (OpenSpec.ofChange Rows.logMovesSpec)) = true := by kernel_rfl
theorem k1 : (laidOutB Try.prog) = true := by kernel_rfl
theorem k2 : (mapsRowed Try.prog) = true := by kernel_rfl
theorem k3 : (Try.f8.params.all (Try.prog.readableRec ·)) = true := by kernel_rfl
theorem k4 : (namedTie Try.prog Rows.logMovesRow.named Rows.logMovesSpec.vars) = true := by kernel_rfl
theorem k5 : ((Rows.logMovesRow.stops == [])) = true := by kernel_rfl
theorem k6 : ((Try.prog.stops == [])) = true := by kernel_rfl
theorem k7 : ((Rows.logMovesRow.knobs == [])) = true := by kernel_rfl
theorem k8 : ((Try.prog.stopKnobs == [])) = true := by kernel_rfl
theorem k9 : ((Rows.logMovesRow.inPlace == Try.prog.inPlace 8)) = true := by kernel_rfl
theorem k10 : ((Rows.logMovesRow.unfollowed == Try.prog.unfollowed 8)) = true := by kernel_rfl
theorem k11 : ((Rows.logMovesRow.recurses == Try.prog.recurses 8)) = true := by kernel_rfl
theorem k12 : ((Rows.logMovesRow.named == Try.prog.varsNamed 8)) = true := by kernel_rfl
theorem k13 : ((Rows.logMovesRow.maps == (Try.f8.params.toList ++ Rows.logMovesSpec.plain.varTypes Try.prog).any (Try.prog.mapsRec ·))) = true := by kernel_rfl
theorem k14 : ((Rows.logMovesRow.ifaces == (Try.f8.params.toList ++ Rows.logMovesSpec.plain.varTypes Try.prog).any (Try.prog.ifacesRec ·))) = true := by kernel_rfl
theorem k15 : ((Rows.logMovesRow.mapsOut == Try.prog.mapsAmong Try.f8.resultTypes.toList)) = true := by kernel_rfl
theorem k16 : ((Rows.logMovesRow.loops == (Try.f8.params.toList ++ Rows.logMovesSpec.plain.varTypes Try.prog).any (Try.prog.loopsFrom ·))) = true := by kernel_rfl
theorem k17 : ((Rows.logMovesRow.wideKeys == (Try.f8.params.toList ++ Rows.logMovesSpec.plain.varTypes Try.prog ++ Try.f8.resultTypes.toList).any (Try.prog.wideKeysFrom ·))) = true := by kernel_rfl
theorem k18 : (Rows.logMovesSpec.vars.all (Try.prog.varReadable ·)) = true := by kernel_rfl
theorem k19 : (Try.f8.resultTypes.all (fun t => Try.prog.readableRec t && decide (t < Try.prog.types.size))) = true := by kernel_rfl
theorem k20 : ((Rows.logMovesRow.ifacesOut == Try.f8.resultTypes.toList.any (Try.prog.ifacesRec ·))) = true := by kernel_rfl
theorem k21 : ((Rows.logMovesRow.loopsOut == Try.f8.resultTypes.toList.any (Try.prog.loopsFrom ·))) = true := by kernel_rfl
theorem k22 : ((Rows.logMovesRow.plainKeys == Try.prog.plainKeys)) = true := by kernel_rfl
theorem k23 : (Rows.logMovesRow.shortTexts.isNone) = true := by kernel_rfl
theorem k24 : (Try.prog.stopsHeard) = true := by kernel_rfl
theorem k25 : (Try.prog.mayEnter) = true := by kernel_rfl
theorem k26 : ((Rows.logMovesRow.lifted == Try.prog.liftsFinal)) = true := by kernel_rfl
theorem k27 : ((Try.prog.make == some Rows.logMovesRow.make)) = true := by kernel_rfl
theorem k29 : ((Rows.logMovesRow.pinned == Rows.logMovesRow.pinnedBy)) = true := by kernel_rfl
theorem k30 : ((Rows.logMovesRow.veiled == (Try.f8.params.toList ++ Rows.logMovesSpec.plain.varTypes Try.prog ++ Try.f8.resultTypes.toList).any (Try.prog.veiledRec ·))) = true := by kernel_rfl
theorem k31 : (Rows.logMovesRow.veiledFits Try.prog Try.f8.params.toList (Try.f8.params.toList ++ Rows.logMovesSpec.plain.varTypes Try.prog ++ Try.f8.resultTypes.toList)) = true := by kernel_rfl
set_option maxRecDepth 100000 in
theorem closed : joinedFacts Try.prog 8 Try.f8 Rows.logMovesSpec Rows.logMovesRow = true := by
  unfold joinedFacts
  exact bt (bt (bt (bt (bt (bt (bt (bt (bt (bt (bt (bt (bt (bt (bt (bt (bt (bt (bt (bt (bt (bt (bt (bt (bt (bt (bt (bt (bt (bt (bt k0 k1) k2) k3) k4) k5) k6) k7) k8) k9) k10) k11) k12) k13) k14) k15) k16) k17) k18) k19) k20) k21) k22) k23) k24) k25) k26) k27) (by kernel_rfl)) k29) k30) k31

theorem over : Rows.logMovesRow.holds Try.pinned (OpenSpec.ofChange Rows.logMovesSpec) :=
  OpenClaim.holds_of_wide 8 Try.f8 rfl rfl rfl rfl rfl rfl rfl ⟨rfl, rfl, rfl, rfl, rfl⟩ rfl rfl rfl rfl rfl (by kernel_rfl) Try.func8 closed
    (of_decide_eq_true (by kernel_rfl)) (by unfold Func.isWrapper; first | (rw [if_pos (by decide +kernel)]; kernel_rfl) | (rw [if_neg (by decide +kernel)]; exact ⟨rfl, rfl⟩))
    (fun os started H enc _ => lifted os started H enc)

/-- ████ THE STATEMENT ████ -/
theorem proved : Rows.LogMovesSaid :=
  over
#print axioms proved
end Go.Proofs.Ytnnbibnobmegpaa.logMoves
