/-
 'ScanTells' returns true, whatever the config and the journal; the input reads as it did. No conditions: every input. By contracts of the functions it calls over the abstract machine.
-/
import Derived.Test.YtnnbibnobmegpaaRows
import Derived.WalkKit
import Derived.Test.YtnnbibnobmegpaaAM5
import Derived.Test.YtnnbibnobmegpaaSeatEnv2
import Derived.ProofKit
import Derived.OpenShut
import Derived.ShutString
namespace Go.Proofs.Ytnnbibnobmegpaa.scanTells
open Go.ChangeShapes Go.WideShapes Go.ChangeAt Go.RowKit
set_option linter.unusedVariables false
theorem own:ownKnob Try.prog.godebug=none:=by kernel_rfl
theorem laid:laidOutB Try.prog=true:=by kernel_rfl
theorem pars:(Try.f4.params.toList.all fun t=>Try.prog.readableRec t && decide (t<Try.prog.types.size))=true:=by kernel_rfl
theorem ty24:AM.TyOf Try.prog 24 (.st AM.tCfg) 6:=.st 24 _ _ 6 Try.underlying24 (by kernel_rfl) (.cons _ _ 0 _ 1 _ _ rfl (by kernel_rfl) (.int 22 .u32 Try.underlying22) (.cons _ _ 1 _ 1 _ _ rfl (by kernel_rfl) (.int 3 .i64 Try.underlying3) (.cons _ _ 2 _ 1 _ _ rfl (by kernel_rfl) (.int 3 .i64 Try.underlying3) (.cons _ _ 3 _ 1 _ _ rfl (by kernel_rfl) (.int 3 .i64 Try.underlying3) (.cons _ _ 4 _ 1 _ _ rfl (by kernel_rfl) (.int 3 .i64 Try.underlying3) (.cons _ _ 5 _ 1 _ _ rfl (by kernel_rfl) (.int 3 .i64 Try.underlying3) (.nil 6)))))))
theorem ty116:AM.TyOf Try.prog 116 (.st AM.tWr) 2:=.st 116 _ _ 2 Try.underlying116 (by kernel_rfl) (.cons _ _ 0 _ 1 _ _ rfl (by kernel_rfl) (.int 3 .i64 Try.underlying3) (.cons _ _ 1 _ 1 _ _ rfl (by kernel_rfl) (.sl 32 5 _ 1 Try.underlying32 (by kernel_rfl) (by decide) (.int 5 .u8 Try.underlying5)) (.nil 2)))
theorem ty28:AM.TyOf Try.prog 28 (.st AM.tDisk) 3:=.st 28 _ _ 3 Try.underlying28 (by kernel_rfl) (.cons _ _ 0 _ 1 _ _ rfl (by kernel_rfl) (.sl 25 32 _ 1 Try.underlying25 (by kernel_rfl) (by decide) (.sl 32 5 _ 1 Try.underlying32 (by kernel_rfl) (by decide) (.int 5 .u8 Try.underlying5))) (.cons _ _ 1 _ 1 _ _ rfl (by kernel_rfl) (.sl 26 116 _ 2 Try.underlying26 (by kernel_rfl) (by decide) ty116) (.cons _ _ 2 _ 1 _ _ rfl (by kernel_rfl) (.bool 4 Try.underlying4) (.nil 3))))
set_option maxRecDepth 100000 in
theorem lifted (os:Os) (started:os.Started) (H:Type) (enc:TypeId×Value→H):
 ReturnsInHanded {} Try.checked os 4 .any (Rows.scanTellsSpec.pre6 enc Try.prog Try.f4 Rows.scanTellsRow.domain false) (Rows.scanTellsSpec.post enc Try.prog Try.f4 false true false false):=by
 refine returnsInHanded_of_change (C:=Try.checked) own started (by kernel_rfl) Try.func4
  (ChangeSpec.witness6 (enc:=enc) (C:=Try.checked) false ⟨#[],#[.agg #[.int .u32 0,.int .i64 0,.int .i64 0,.int .i64 0,.int .i64 0,.int .i64 0],.agg #[.slice none 0 0,.slice none 0 0,.bool false]],[]⟩ 8 (by kernel_rfl) (by kernel_rfl) (by kernel_rfl) (by kernel_rfl)) ?_
 intro W base args ds gs before hval0 hW hcnd _
 have hval:∀ (j:Nat) t v,Try.f4.params[j]?=some t→args[j]?=some v→Value.okWide Try.prog W .any base t v:=hval0
 have hW':=hW
 obtain ⟨p,q,hA0,hV,rfl,hfz,hnd⟩:=hW
 have hA:DataW.TrodAll enc Try.prog W 0 (fun _=>true) true Try.f4.params.toList args.toList ds p:=hA0
 have hlt:∀ x ∈ p,x.block<W.heap.size:=fun x hx=>hW'.lt x (List.mem_append.2 (.inl hx))
 rw [Try.params4] at hA hval
 obtain ⟨v0,vs0,d0,ds0,p0,q0,hargs,rfl,rfl,h0,r0⟩:=trodAll_cons hA
 obtain ⟨v1,vs1,d1,ds1,p1,q1,rfl,rfl,rfl,h1,r1⟩:=trodAll_cons r0
 obtain ⟨rfl,rfl,rfl⟩:=trodAll_nil r1
 obtain rfl:args=#[v0,v1]:=by cases args;simp_all
 obtain ⟨rfl,rfl⟩:=trodVars_none hV
 obtain ⟨l0,s0,V0⟩:=AM.arg_struct Try.underlying24 ty24 (hval 0 24 v0 rfl rfl) h0
 obtain ⟨c,hc,rfl⟩:=AM.cfg_of s0
 obtain ⟨l1,s1,V1⟩:=AM.arg_struct Try.underlying28 ty28 (hval 1 28 v1 rfl rfl) h1
 obtain ⟨j,hj,rfl,hu⟩:=AM.disk_ofU2 s1
 clear hval0
 refine (AM.law_argsO (vals:=[v0,v1]) (.cons V0 (.cons V1 .nil)) (AM.scanTells_C c j hc hj hu)).mono fun e W' ⟨he,hg⟩=>?_
 subst he
 refine ⟨_,rfl,AM.post_new (pa:=_) (pv:=[]) hW' hg rfl (fun _ _ _=>(trodAll_cons_mk (shut_bool Try.underlying4 _) trodAll_mk0)) (fun sp hsp=>?_) (fun _ _=>rfl)
  (ok_one (by kernel_rfl) rfl (okWide_bool_mk Try.underlying4 _))⟩
 exact AM.trodAll_below laid hg sp pars hA0 hlt (fun x hx=>hsp x (List.mem_append.2 (.inl hx)))
theorem bt {a b:Bool}(ha:a=true) (hb:b=true):(a && b)=true:=by rw [ha,hb];rfl
theorem k0:(Rows.scanTellsRow.wf (OpenSpec.ofChange Rows.scanTellsSpec))=true:=by kernel_rfl
theorem k1:(laidOutB Try.prog)=true:=by kernel_rfl
theorem k2:(mapsRowed Try.prog)=true:=by kernel_rfl
theorem k3:(Try.f4.params.all (Try.prog.readableRec ·))=true:=by kernel_rfl
theorem k4:(namedTie Try.prog Rows.scanTellsRow.named Rows.scanTellsSpec.vars)=true:=by kernel_rfl
theorem k5:((Rows.scanTellsRow.stops == []))=true:=by kernel_rfl
theorem k6:((Try.prog.stops == []))=true:=by kernel_rfl
theorem k7:((Rows.scanTellsRow.knobs == []))=true:=by kernel_rfl
theorem k8:((Try.prog.stopKnobs == []))=true:=by kernel_rfl
theorem k9:((Rows.scanTellsRow.inPlace == Try.prog.inPlace 4))=true:=by kernel_rfl
theorem k10:((Rows.scanTellsRow.unfollowed == Try.prog.unfollowed 4))=true:=by kernel_rfl
theorem k11:((Rows.scanTellsRow.recurses == Try.prog.recurses 4))=true:=by kernel_rfl
theorem k12:((Rows.scanTellsRow.named == Try.prog.varsNamed 4))=true:=by kernel_rfl
theorem k13:((Rows.scanTellsRow.maps == (Try.f4.params.toList++Rows.scanTellsSpec.plain.varTypes Try.prog).any (Try.prog.mapsRec ·)))=true:=by kernel_rfl
theorem k14:((Rows.scanTellsRow.ifaces == (Try.f4.params.toList++Rows.scanTellsSpec.plain.varTypes Try.prog).any (Try.prog.ifacesRec ·)))=true:=by kernel_rfl
theorem k15:((Rows.scanTellsRow.mapsOut == Try.prog.mapsAmong Try.f4.resultTypes.toList))=true:=by kernel_rfl
theorem k16:((Rows.scanTellsRow.loops == (Try.f4.params.toList++Rows.scanTellsSpec.plain.varTypes Try.prog).any (Try.prog.loopsFrom ·)))=true:=by kernel_rfl
theorem k17:((Rows.scanTellsRow.wideKeys == (Try.f4.params.toList++Rows.scanTellsSpec.plain.varTypes Try.prog++Try.f4.resultTypes.toList).any (Try.prog.wideKeysFrom ·)))=true:=by kernel_rfl
theorem k18:(Rows.scanTellsSpec.vars.all (Try.prog.varReadable ·))=true:=by kernel_rfl
theorem k19:(Try.f4.resultTypes.all (fun t=>Try.prog.readableRec t && decide (t<Try.prog.types.size)))=true:=by kernel_rfl
theorem k20:((Rows.scanTellsRow.ifacesOut == Try.f4.resultTypes.toList.any (Try.prog.ifacesRec ·)))=true:=by kernel_rfl
theorem k21:((Rows.scanTellsRow.loopsOut == Try.f4.resultTypes.toList.any (Try.prog.loopsFrom ·)))=true:=by kernel_rfl
theorem k22:((Rows.scanTellsRow.plainKeys == Try.prog.plainKeys))=true:=by kernel_rfl
theorem k23:(Rows.scanTellsRow.shortTexts.isNone)=true:=by kernel_rfl
theorem k24:(Try.prog.stopsHeard)=true:=by kernel_rfl
theorem k25:(Try.prog.mayEnter)=true:=by kernel_rfl
theorem k26:((Rows.scanTellsRow.lifted == Try.prog.liftsFinal))=true:=by kernel_rfl
theorem k27:((Try.prog.make == some Rows.scanTellsRow.make))=true:=by kernel_rfl
theorem k29:((Rows.scanTellsRow.pinned == Rows.scanTellsRow.pinnedBy))=true:=by kernel_rfl
theorem k30:((Rows.scanTellsRow.veiled == (Try.f4.params.toList++Rows.scanTellsSpec.plain.varTypes Try.prog++Try.f4.resultTypes.toList).any (Try.prog.veiledRec ·)))=true:=by kernel_rfl
theorem k31:(Rows.scanTellsRow.veiledFits Try.prog Try.f4.params.toList (Try.f4.params.toList++Rows.scanTellsSpec.plain.varTypes Try.prog++Try.f4.resultTypes.toList))=true:=by kernel_rfl
set_option maxRecDepth 100000 in
theorem closed:joinedFacts Try.prog 4 Try.f4 Rows.scanTellsSpec Rows.scanTellsRow=true:=by
 unfold joinedFacts
 exact bt (bt (bt (bt (bt (bt (bt (bt (bt (bt (bt (bt (bt (bt (bt (bt (bt (bt (bt (bt (bt (bt (bt (bt (bt (bt (bt (bt (bt (bt (bt k0 k1) k2) k3) k4) k5) k6) k7) k8) k9) k10) k11) k12) k13) k14) k15) k16) k17) k18) k19) k20) k21) k22) k23) k24) k25) k26) k27) (by kernel_rfl)) k29) k30) k31
theorem over:Rows.scanTellsRow.holds Try.pinned (OpenSpec.ofChange Rows.scanTellsSpec):=
 OpenClaim.holds_of_wide 4 Try.f4 rfl rfl rfl rfl rfl rfl rfl ⟨rfl,rfl,rfl,rfl,rfl⟩ rfl rfl rfl rfl rfl (by kernel_rfl) Try.func4 closed
  (of_decide_eq_true (by kernel_rfl)) (by unfold Func.isWrapper;first|(rw [if_pos (by decide +kernel)];kernel_rfl)|(rw [if_neg (by decide +kernel)];exact ⟨rfl,rfl⟩))
  (fun os started H enc _=>lifted os started H enc)
/-- ████ THE STATEMENT ████ -/
theorem proved:Rows.ScanTellsSaid:=
 over
#print axioms proved
end Go.Proofs.Ytnnbibnobmegpaa.scanTells
