/-
 'WakeNew' returns true, whatever the config, whether it is back, and the member; the input reads as it did. No conditions: every input. By contracts of the functions it calls over the abstract machine.
-/
import Derived.Test.YtblggmblcjoalaaGreatRows
import Derived.WalkKit
import Derived.Test.YtblggmblcjoalaaGreatAM5
import Derived.Test.YtblggmblcjoalaaGreatSeatEnvN
import Derived.Test.YtblggmblcjoalaaGreatStH
import Derived.ProofKit
import Derived.OpenShut
import Derived.ShutString
namespace Go.Proofs.YtblggmblcjoalaaGreat.wakeNew
open Go.ChangeShapes Go.WideShapes Go.ChangeAt Go.RowKit
set_option linter.unusedVariables false
theorem own:ownKnob Tryz.prog.godebug=none:=by kernel_rfl
theorem laid:laidOutB Tryz.prog=true:=by kernel_rfl
theorem pars:(Tryz.f7.params.toList.all fun t=>Tryz.prog.readableRec t && decide (t<Tryz.prog.types.size))=true:=by kernel_rfl
theorem ty24:AM.TyOf Tryz.prog 24 (.st AM.tCfg) 6:=.st 24 _ _ 6 Tryz.underlying24 (by kernel_rfl) (.cons _ _ 0 _ 1 _ _ rfl (by kernel_rfl) (.int 22 .u32 Tryz.underlying22) (.cons _ _ 1 _ 1 _ _ rfl (by kernel_rfl) (.int 3 .i64 Tryz.underlying3) (.cons _ _ 2 _ 1 _ _ rfl (by kernel_rfl) (.int 3 .i64 Tryz.underlying3) (.cons _ _ 3 _ 1 _ _ rfl (by kernel_rfl) (.int 3 .i64 Tryz.underlying3) (.cons _ _ 4 _ 1 _ _ rfl (by kernel_rfl) (.int 3 .i64 Tryz.underlying3) (.cons _ _ 5 _ 1 _ _ rfl (by kernel_rfl) (.int 3 .i64 Tryz.underlying3) (.nil 6)))))))
set_option maxRecDepth 100000 in
theorem lifted (os:Os) (started:os.Started) (H:Type) (enc:TypeId×Value→H):
 ReturnsInHanded {} Tryz.checked os 7 .any (Rows.wakeNewSpec.pre6 enc Tryz.prog Tryz.f7 Rows.wakeNewRow.domain false) (Rows.wakeNewSpec.post enc Tryz.prog Tryz.f7 false true false false):=by
 refine returnsInHanded_of_change (C:=Tryz.checked) own started (by kernel_rfl) Tryz.func7
  (ChangeSpec.witness6 (enc:=enc) (C:=Tryz.checked) false ⟨#[],#[.agg #[.int .u32 0,.int .i64 0,.int .i64 0,.int .i64 0,.int .i64 0,.int .i64 0],.bool false,.int .i64 0],[]⟩ 8 (by kernel_rfl) (by kernel_rfl) (by kernel_rfl) (by kernel_rfl)) ?_
 intro W base args ds gs before hval0 hW hcnd _
 have hval:∀ (j:Nat) t v,Tryz.f7.params[j]?=some t→args[j]?=some v→Value.okWide Tryz.prog W .any base t v:=hval0
 have hW':=hW
 obtain ⟨p,q,hA0,hV,rfl,hfz,hnd⟩:=hW
 have hA:DataW.TrodAll enc Tryz.prog W 0 (fun _=>true) true Tryz.f7.params.toList args.toList ds p:=hA0
 have hlt:∀ x ∈ p,x.block<W.heap.size:=fun x hx=>hW'.lt x (List.mem_append.2 (.inl hx))
 rw [Tryz.params7] at hA hval
 obtain ⟨v0,vs0,d0,ds0,p0,q0,hargs,rfl,rfl,h0,r0⟩:=trodAll_cons hA
 obtain ⟨v1,vs1,d1,ds1,p1,q1,rfl,rfl,rfl,h1,r1⟩:=trodAll_cons r0
 obtain ⟨v2,vs2,d2,ds2,p2,q2,rfl,rfl,rfl,h2,r2⟩:=trodAll_cons r1
 obtain ⟨rfl,rfl,rfl⟩:=trodAll_nil r2
 obtain rfl:args=#[v0,v1,v2]:=by cases args;simp_all
 obtain ⟨rfl,rfl⟩:=trodVars_none hV
 obtain ⟨l0,s0,V0⟩:=AM.arg_struct Tryz.underlying24 ty24 (hval 0 24 v0 rfl rfl) h0
 obtain ⟨c,hc,rfl⟩:=AM.cfg_of s0
 obtain ⟨b1,rfl,rfl,rfl⟩:=open_bool Tryz.underlying4 (hval 1 4 v1 rfl rfl) h1
 obtain ⟨a2,rfl,rfl,rfl,w2⟩:=open_int Tryz.underlying3 (hval 2 3 v2 rfl rfl) h2
 clear hval0
 refine (AM.law_args (vals:=[v0,.bool b1,.int .i64 a2]) (.cons V0 (.cons (.bool _) (.cons (.int _ _) .nil))) (AM.wakeNew_C hc (AM.wf_i64 w2))).mono fun e W' ⟨he,hg⟩=>?_
 subst he
 refine ⟨_,rfl,AM.post_new (pa:=_) (pv:=[]) hW' hg rfl (fun _ _ _=>(trodAll_cons_mk (shut_bool Tryz.underlying4 _) trodAll_mk0)) (fun sp hsp=>?_) (fun _ _=>rfl)
  (ok_one (by kernel_rfl) rfl (okWide_bool_mk Tryz.underlying4 _))⟩
 exact AM.trodAll_below laid hg sp pars hA0 hlt (fun x hx=>hsp x (List.mem_append.2 (.inl hx)))
theorem bt {a b:Bool}(ha:a=true) (hb:b=true):(a && b)=true:=by rw [ha,hb];rfl
theorem k0:(Rows.wakeNewRow.wf (OpenSpec.ofChange Rows.wakeNewSpec))=true:=by kernel_rfl
theorem k1:(laidOutB Tryz.prog)=true:=by kernel_rfl
theorem k2:(mapsRowed Tryz.prog)=true:=by kernel_rfl
theorem k3:(Tryz.f7.params.all (Tryz.prog.readableRec ·))=true:=by kernel_rfl
theorem k4:(namedTie Tryz.prog Rows.wakeNewRow.named Rows.wakeNewSpec.vars)=true:=by kernel_rfl
theorem k5:((Rows.wakeNewRow.stops == []))=true:=by kernel_rfl
theorem k6:((Tryz.prog.stops == []))=true:=by kernel_rfl
theorem k7:((Rows.wakeNewRow.knobs == []))=true:=by kernel_rfl
theorem k8:((Tryz.prog.stopKnobs == []))=true:=by kernel_rfl
theorem k9:((Rows.wakeNewRow.inPlace == Tryz.prog.inPlace 7))=true:=by kernel_rfl
theorem k10:((Rows.wakeNewRow.unfollowed == Tryz.prog.unfollowed 7))=true:=by kernel_rfl
theorem k11:((Rows.wakeNewRow.recurses == Tryz.prog.recurses 7))=true:=by kernel_rfl
theorem k12:((Rows.wakeNewRow.named == Tryz.prog.varsNamed 7))=true:=by kernel_rfl
theorem k13:((Rows.wakeNewRow.maps == (Tryz.f7.params.toList++Rows.wakeNewSpec.plain.varTypes Tryz.prog).any (Tryz.prog.mapsRec ·)))=true:=by kernel_rfl
theorem k14:((Rows.wakeNewRow.ifaces == (Tryz.f7.params.toList++Rows.wakeNewSpec.plain.varTypes Tryz.prog).any (Tryz.prog.ifacesRec ·)))=true:=by kernel_rfl
theorem k15:((Rows.wakeNewRow.mapsOut == Tryz.prog.mapsAmong Tryz.f7.resultTypes.toList))=true:=by kernel_rfl
theorem k16:((Rows.wakeNewRow.loops == (Tryz.f7.params.toList++Rows.wakeNewSpec.plain.varTypes Tryz.prog).any (Tryz.prog.loopsFrom ·)))=true:=by kernel_rfl
theorem k17:((Rows.wakeNewRow.wideKeys == (Tryz.f7.params.toList++Rows.wakeNewSpec.plain.varTypes Tryz.prog++Tryz.f7.resultTypes.toList).any (Tryz.prog.wideKeysFrom ·)))=true:=by kernel_rfl
theorem k18:(Rows.wakeNewSpec.vars.all (Tryz.prog.varReadable ·))=true:=by kernel_rfl
theorem k19:(Tryz.f7.resultTypes.all (fun t=>Tryz.prog.readableRec t && decide (t<Tryz.prog.types.size)))=true:=by kernel_rfl
theorem k20:((Rows.wakeNewRow.ifacesOut == Tryz.f7.resultTypes.toList.any (Tryz.prog.ifacesRec ·)))=true:=by kernel_rfl
theorem k21:((Rows.wakeNewRow.loopsOut == Tryz.f7.resultTypes.toList.any (Tryz.prog.loopsFrom ·)))=true:=by kernel_rfl
theorem k22:((Rows.wakeNewRow.plainKeys == Tryz.prog.plainKeys))=true:=by kernel_rfl
theorem k23:(Rows.wakeNewRow.shortTexts.isNone)=true:=by kernel_rfl
theorem k24:(Tryz.prog.stopsHeard)=true:=by kernel_rfl
theorem k25:(Tryz.prog.mayEnter)=true:=by kernel_rfl
theorem k26:((Rows.wakeNewRow.lifted == Tryz.prog.liftsFinal))=true:=by kernel_rfl
theorem k27:((Tryz.prog.make == some Rows.wakeNewRow.make))=true:=by kernel_rfl
theorem k29:((Rows.wakeNewRow.pinned == Rows.wakeNewRow.pinnedBy))=true:=by kernel_rfl
theorem k30:((Rows.wakeNewRow.veiled == (Tryz.f7.params.toList++Rows.wakeNewSpec.plain.varTypes Tryz.prog++Tryz.f7.resultTypes.toList).any (Tryz.prog.veiledRec ·)))=true:=by kernel_rfl
theorem k31:(Rows.wakeNewRow.veiledFits Tryz.prog Tryz.f7.params.toList (Tryz.f7.params.toList++Rows.wakeNewSpec.plain.varTypes Tryz.prog++Tryz.f7.resultTypes.toList))=true:=by kernel_rfl
set_option maxRecDepth 100000 in
theorem closed:joinedFacts Tryz.prog 7 Tryz.f7 Rows.wakeNewSpec Rows.wakeNewRow=true:=by
 unfold joinedFacts
 exact bt (bt (bt (bt (bt (bt (bt (bt (bt (bt (bt (bt (bt (bt (bt (bt (bt (bt (bt (bt (bt (bt (bt (bt (bt (bt (bt (bt (bt (bt (bt k0 k1) k2) k3) k4) k5) k6) k7) k8) k9) k10) k11) k12) k13) k14) k15) k16) k17) k18) k19) k20) k21) k22) k23) k24) k25) k26) k27) (by kernel_rfl)) k29) k30) k31
theorem over:Rows.wakeNewRow.holds Tryz.pinned (OpenSpec.ofChange Rows.wakeNewSpec):=
 OpenClaim.holds_of_wide 7 Tryz.f7 rfl rfl rfl rfl rfl rfl rfl ⟨rfl,rfl,rfl,rfl,rfl⟩ rfl rfl rfl rfl rfl (by kernel_rfl) Tryz.func7 closed
  (of_decide_eq_true (by kernel_rfl)) (by unfold Func.isWrapper;first|(rw [if_pos (by decide +kernel)];kernel_rfl)|(rw [if_neg (by decide +kernel)];exact ⟨rfl,rfl⟩))
  (fun os started H enc _=>lifted os started H enc)
/-- ████ THE STATEMENT ████ -/
theorem proved:Rows.WakeNewSaid:=
 over
#print axioms proved
end Go.Proofs.YtblggmblcjoalaaGreat.wakeNew
