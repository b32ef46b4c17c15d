/-
  'DealOthers' returns true, whatever the config, the other number, the journal, the place, the deal, the block and the bytes; the input reads as it did. No conditions: every input. By contracts of the functions it calls over the abstract machine.
-/
import Derived.Test.YtnnbibnobmegpaaRows
import Derived.WalkKit
import Derived.Test.YtnnbibnobmegpaaAM5
import Derived.Test.YtnnbibnobmegpaaSeatEnv2
import Derived.ProofKit
import Derived.OpenShut
import Derived.ShutString
namespace Go.Proofs.Ytnnbibnobmegpaa.dealOthers
open Go.ChangeShapes Go.WideShapes Go.ChangeAt Go.RowKit
set_option linter.unusedVariables false

theorem own : ownKnob Try.prog.godebug = none := by kernel_rfl
theorem laid : laidOutB Try.prog = true := by kernel_rfl
theorem pars : (Try.f16.params.toList.all fun t => Try.prog.readableRec t && decide (t < Try.prog.types.size)) = true := by kernel_rfl
theorem ty24 : AM.TyOf Try.prog 24 (.st AM.tCfg) 6 := .st 24 _ _ 6 Try.underlying24 (by kernel_rfl) (.cons _ _ 0 _ 1 _ _ rfl (by kernel_rfl) (.int 22 .u32 Try.underlying22) (.cons _ _ 1 _ 1 _ _ rfl (by kernel_rfl) (.int 3 .i64 Try.underlying3) (.cons _ _ 2 _ 1 _ _ rfl (by kernel_rfl) (.int 3 .i64 Try.underlying3) (.cons _ _ 3 _ 1 _ _ rfl (by kernel_rfl) (.int 3 .i64 Try.underlying3) (.cons _ _ 4 _ 1 _ _ rfl (by kernel_rfl) (.int 3 .i64 Try.underlying3) (.cons _ _ 5 _ 1 _ _ rfl (by kernel_rfl) (.int 3 .i64 Try.underlying3) (.nil 6)))))))
theorem ty116 : AM.TyOf Try.prog 116 (.st AM.tWr) 2 := .st 116 _ _ 2 Try.underlying116 (by kernel_rfl) (.cons _ _ 0 _ 1 _ _ rfl (by kernel_rfl) (.int 3 .i64 Try.underlying3) (.cons _ _ 1 _ 1 _ _ rfl (by kernel_rfl) (.sl 32 5 _ 1 Try.underlying32 (by kernel_rfl) (by decide) (.int 5 .u8 Try.underlying5)) (.nil 2)))
theorem ty28 : AM.TyOf Try.prog 28 (.st AM.tDisk) 3 := .st 28 _ _ 3 Try.underlying28 (by kernel_rfl) (.cons _ _ 0 _ 1 _ _ rfl (by kernel_rfl) (.sl 25 32 _ 1 Try.underlying25 (by kernel_rfl) (by decide) (.sl 32 5 _ 1 Try.underlying32 (by kernel_rfl) (by decide) (.int 5 .u8 Try.underlying5))) (.cons _ _ 1 _ 1 _ _ rfl (by kernel_rfl) (.sl 26 116 _ 2 Try.underlying26 (by kernel_rfl) (by decide) ty116) (.cons _ _ 2 _ 1 _ _ rfl (by kernel_rfl) (.bool 4 Try.underlying4) (.nil 3))))
theorem ty34 : AM.TyOf Try.prog 34 (.st AM.tDeal) 4 := .st 34 _ _ 4 Try.underlying34 (by kernel_rfl) (.cons _ _ 0 _ 1 _ _ rfl (by kernel_rfl) (.int 3 .i64 Try.underlying3) (.cons _ _ 1 _ 1 _ _ rfl (by kernel_rfl) (.sl 31 3 _ 1 Try.underlying31 (by kernel_rfl) (by decide) (.int 3 .i64 Try.underlying3)) (.cons _ _ 2 _ 1 _ _ rfl (by kernel_rfl) (.sl 25 32 _ 1 Try.underlying25 (by kernel_rfl) (by decide) (.sl 32 5 _ 1 Try.underlying32 (by kernel_rfl) (by decide) (.int 5 .u8 Try.underlying5))) (.cons _ _ 3 _ 1 _ _ rfl (by kernel_rfl) (.sl 32 5 _ 1 Try.underlying32 (by kernel_rfl) (by decide) (.int 5 .u8 Try.underlying5)) (.nil 4)))))

set_option maxRecDepth 100000 in
theorem lifted (os : Os) (started : os.Started) (H : Type) (enc : TypeId × Value → H) :
    ReturnsInHanded {} Try.checked os 16 .any (Rows.dealOthersSpec.pre6 enc Try.prog Try.f16 Rows.dealOthersRow.domain false) (Rows.dealOthersSpec.post enc Try.prog Try.f16 false true false false) := by
  refine returnsInHanded_of_change (C := Try.checked) own started (by kernel_rfl) Try.func16
    (ChangeSpec.witness6 (enc := enc) (C := Try.checked) false ⟨#[], #[.agg #[.int .u32 0, .int .i64 0, .int .i64 0, .int .i64 0, .int .i64 0, .int .i64 0], .int .u32 0, .agg #[.slice none 0 0, .slice none 0 0, .bool false], .int .i64 0, .agg #[.int .i64 0, .slice none 0 0, .slice none 0 0, .slice none 0 0], .int .i64 0, .slice none 0 0], []⟩ 8 (by kernel_rfl) (by kernel_rfl) (by kernel_rfl) (by kernel_rfl)) ?_
  intro W base args ds gs before hval0 hW hcnd _
  have hval : ∀ (j : Nat) t v, Try.f16.params[j]? = some t → args[j]? = some v → Value.okWide Try.prog W .any base t v := hval0
  have hW' := hW
  obtain ⟨p, q, hA0, hV, rfl, hfz, hnd⟩ := hW
  have hA : DataW.TrodAll enc Try.prog W 0 (fun _ => true) true Try.f16.params.toList args.toList ds p := hA0
  have hlt : ∀ x ∈ p, x.block < W.heap.size := fun x hx => hW'.lt x (List.mem_append.2 (.inl hx))
  rw [Try.params16] at hA hval
  obtain ⟨v0, vs0, d0, ds0, p0, q0, hargs, rfl, rfl, h0, r0⟩ := trodAll_cons hA
  obtain ⟨v1, vs1, d1, ds1, p1, q1, rfl, rfl, rfl, h1, r1⟩ := trodAll_cons r0
  obtain ⟨v2, vs2, d2, ds2, p2, q2, rfl, rfl, rfl, h2, r2⟩ := trodAll_cons r1
  obtain ⟨v3, vs3, d3, ds3, p3, q3, rfl, rfl, rfl, h3, r3⟩ := trodAll_cons r2
  obtain ⟨v4, vs4, d4, ds4, p4, q4, rfl, rfl, rfl, h4, r4⟩ := trodAll_cons r3
  obtain ⟨v5, vs5, d5, ds5, p5, q5, rfl, rfl, rfl, h5, r5⟩ := trodAll_cons r4
  obtain ⟨v6, vs6, d6, ds6, p6, q6, rfl, rfl, rfl, h6, r6⟩ := trodAll_cons r5
  obtain ⟨rfl, rfl, rfl⟩ := trodAll_nil r6
  obtain rfl : args = #[v0, v1, v2, v3, v4, v5, v6] := by cases args; simp_all
  obtain ⟨rfl, rfl⟩ := trodVars_none hV
  obtain ⟨l0, s0, V0⟩ := AM.arg_struct Try.underlying24 ty24 (hval 0 24 v0 rfl rfl) h0
  obtain ⟨c, hc, rfl⟩ := AM.cfg_of s0
  obtain ⟨a1, rfl, rfl, rfl, w1⟩ := open_int Try.underlying22 (hval 1 22 v1 rfl rfl) h1
  obtain ⟨l2, s2, V2⟩ := AM.arg_struct Try.underlying28 ty28 (hval 2 28 v2 rfl rfl) h2
  obtain ⟨j, hj, rfl⟩ := AM.disk_of s2
  obtain ⟨a3, rfl, rfl, rfl, w3⟩ := open_int Try.underlying3 (hval 3 3 v3 rfl rfl) h3
  obtain ⟨l4, s4, V4⟩ := AM.arg_struct Try.underlying34 ty34 (hval 4 34 v4 rfl rfl) h4
  obtain ⟨d, hd, rfl⟩ := AM.deal_of s4
  obtain ⟨a5, rfl, rfl, rfl, w5⟩ := open_int Try.underlying3 (hval 5 3 v5 rfl rfl) h5
  obtain ⟨u6, b6, V6, hb6⟩ := AM.bytes_arg Try.underlying32 (.sl 32 5 _ 1 Try.underlying32 (by kernel_rfl) (by decide) (.int 5 .u8 Try.underlying5)) (hval 6 32 v6 rfl rfl) h6
  clear hval0
  refine (AM.law_args (vals := [v0, .int .u32 a1, v2, .int .i64 a3, v4, .int .i64 a5, v6]) (.cons V0 (.cons (.int _ _) (.cons V2 (.cons (.int _ _) (.cons V4 (.cons (.int _ _) (.cons V6 .nil))))))) (AM.dealOthers_C c a1 j a3 d a5 u6 b6 hc (AM.wf_u32 w1) hj (AM.wf_i64 w3) hd (AM.wf_i64 w5) hb6)).mono fun e W' ⟨he, hg⟩ => ?_
  subst he
  refine ⟨_, rfl, AM.post_new (pa := _) (pv := []) hW' hg rfl (fun _ _ _ => (trodAll_cons_mk (shut_bool Try.underlying4 _) trodAll_mk0)) (fun sp hsp => ?_) (fun _ _ => rfl)
    (ok_one (by kernel_rfl) rfl (okWide_bool_mk Try.underlying4 _))⟩
  exact AM.trodAll_below laid hg sp pars hA0 hlt (fun x hx => hsp x (List.mem_append.2 (.inl hx)))

theorem bt {a b : Bool} (ha : a = true) (hb : b = true) : (a && b) = true := by rw [ha, hb]; rfl
theorem k0 : (Rows.dealOthersRow.wf (OpenSpec.ofChange Rows.dealOthersSpec)) = true := by kernel_rfl
theorem k1 : (laidOutB Try.prog) = true := by kernel_rfl
theorem k2 : (mapsRowed Try.prog) = true := by kernel_rfl
theorem k3 : (Try.f16.params.all (Try.prog.readableRec ·)) = true := by kernel_rfl
theorem k4 : (namedTie Try.prog Rows.dealOthersRow.named Rows.dealOthersSpec.vars) = true := by kernel_rfl
theorem k5 : ((Rows.dealOthersRow.stops == [])) = true := by kernel_rfl
theorem k6 : ((Try.prog.stops == [])) = true := by kernel_rfl
theorem k7 : ((Rows.dealOthersRow.knobs == [])) = true := by kernel_rfl
theorem k8 : ((Try.prog.stopKnobs == [])) = true := by kernel_rfl
theorem k9 : ((Rows.dealOthersRow.inPlace == Try.prog.inPlace 16)) = true := by kernel_rfl
theorem k10 : ((Rows.dealOthersRow.unfollowed == Try.prog.unfollowed 16)) = true := by kernel_rfl
theorem k11 : ((Rows.dealOthersRow.recurses == Try.prog.recurses 16)) = true := by kernel_rfl
theorem k12 : ((Rows.dealOthersRow.named == Try.prog.varsNamed 16)) = true := by kernel_rfl
theorem k13 : ((Rows.dealOthersRow.maps == (Try.f16.params.toList ++ Rows.dealOthersSpec.plain.varTypes Try.prog).any (Try.prog.mapsRec ·))) = true := by kernel_rfl
theorem k14 : ((Rows.dealOthersRow.ifaces == (Try.f16.params.toList ++ Rows.dealOthersSpec.plain.varTypes Try.prog).any (Try.prog.ifacesRec ·))) = true := by kernel_rfl
theorem k15 : ((Rows.dealOthersRow.mapsOut == Try.prog.mapsAmong Try.f16.resultTypes.toList)) = true := by kernel_rfl
theorem k16 : ((Rows.dealOthersRow.loops == (Try.f16.params.toList ++ Rows.dealOthersSpec.plain.varTypes Try.prog).any (Try.prog.loopsFrom ·))) = true := by kernel_rfl
theorem k17 : ((Rows.dealOthersRow.wideKeys == (Try.f16.params.toList ++ Rows.dealOthersSpec.plain.varTypes Try.prog ++ Try.f16.resultTypes.toList).any (Try.prog.wideKeysFrom ·))) = true := by kernel_rfl
theorem k18 : (Rows.dealOthersSpec.vars.all (Try.prog.varReadable ·)) = true := by kernel_rfl
theorem k19 : (Try.f16.resultTypes.all (fun t => Try.prog.readableRec t && decide (t < Try.prog.types.size))) = true := by kernel_rfl
theorem k20 : ((Rows.dealOthersRow.ifacesOut == Try.f16.resultTypes.toList.any (Try.prog.ifacesRec ·))) = true := by kernel_rfl
theorem k21 : ((Rows.dealOthersRow.loopsOut == Try.f16.resultTypes.toList.any (Try.prog.loopsFrom ·))) = true := by kernel_rfl
theorem k22 : ((Rows.dealOthersRow.plainKeys == Try.prog.plainKeys)) = true := by kernel_rfl
theorem k23 : (Rows.dealOthersRow.shortTexts.isNone) = true := by kernel_rfl
theorem k24 : (Try.prog.stopsHeard) = true := by kernel_rfl
theorem k25 : (Try.prog.mayEnter) = true := by kernel_rfl
theorem k26 : ((Rows.dealOthersRow.lifted == Try.prog.liftsFinal)) = true := by kernel_rfl
theorem k27 : ((Try.prog.make == some Rows.dealOthersRow.make)) = true := by kernel_rfl
theorem k29 : ((Rows.dealOthersRow.pinned == Rows.dealOthersRow.pinnedBy)) = true := by kernel_rfl
theorem k30 : ((Rows.dealOthersRow.veiled == (Try.f16.params.toList ++ Rows.dealOthersSpec.plain.varTypes Try.prog ++ Try.f16.resultTypes.toList).any (Try.prog.veiledRec ·))) = true := by kernel_rfl
theorem k31 : (Rows.dealOthersRow.veiledFits Try.prog Try.f16.params.toList (Try.f16.params.toList ++ Rows.dealOthersSpec.plain.varTypes Try.prog ++ Try.f16.resultTypes.toList)) = true := by kernel_rfl
set_option maxRecDepth 100000 in
theorem closed : joinedFacts Try.prog 16 Try.f16 Rows.dealOthersSpec Rows.dealOthersRow = true := by
  unfold joinedFacts
  exact bt (bt (bt (bt (bt (bt (bt (bt (bt (bt (bt (bt (bt (bt (bt (bt (bt (bt (bt (bt (bt (bt (bt (bt (bt (bt (bt (bt (bt (bt (bt k0 k1) k2) k3) k4) k5) k6) k7) k8) k9) k10) k11) k12) k13) k14) k15) k16) k17) k18) k19) k20) k21) k22) k23) k24) k25) k26) k27) (by kernel_rfl)) k29) k30) k31

theorem over : Rows.dealOthersRow.holds Try.pinned (OpenSpec.ofChange Rows.dealOthersSpec) :=
  OpenClaim.holds_of_wide 16 Try.f16 rfl rfl rfl rfl rfl rfl rfl ⟨rfl, rfl, rfl, rfl, rfl⟩ rfl rfl rfl rfl rfl (by kernel_rfl) Try.func16 closed
    (of_decide_eq_true (by kernel_rfl)) (by unfold Func.isWrapper; first | (rw [if_pos (by decide +kernel)]; kernel_rfl) | (rw [if_neg (by decide +kernel)]; exact ⟨rfl, rfl⟩))
    (fun os started H enc _ => lifted os started H enc)

/-- ████ THE STATEMENT ████ -/
theorem proved : Rows.DealOthersSaid :=
  over
#print axioms proved
end Go.Proofs.Ytnnbibnobmegpaa.dealOthers
