/-
 'ScanAll' returns true, whatever the config, the journal, the log, the things done and the marks; the input reads as it did. No conditions: every input. By contracts of the functions it calls over the abstract machine.
-/
import Derived.Test.YtnnbibnobmegpaaGreatRows
import Derived.WalkKit
import Derived.Test.YtnnbibnobmegpaaGreatAM5
import Derived.Test.YtnnbibnobmegpaaGreatSeatEnv2
import Derived.ProofKit
import Derived.OpenShut
import Derived.ShutString
namespace Go.Proofs.YtnnbibnobmegpaaGreat.scanAll
open Go.ChangeShapes Go.WideShapes Go.ChangeAt Go.RowKit
set_option linter.unusedVariables false
theorem own:ownKnob Tryz.prog.godebug=none:=by kernel_rfl
theorem laid:laidOutB Tryz.prog=true:=by kernel_rfl
theorem pars:(Tryz.f3.params.toList.all fun t=>Tryz.prog.readableRec t && decide (t<Tryz.prog.types.size))=true:=by kernel_rfl
theorem ty24:AM.TyOf Tryz.prog 24 (.st AM.tCfg) 6:=.st 24 _ _ 6 Tryz.underlying24 (by kernel_rfl) (.cons _ _ 0 _ 1 _ _ rfl (by kernel_rfl) (.int 22 .u32 Tryz.underlying22) (.cons _ _ 1 _ 1 _ _ rfl (by kernel_rfl) (.int 3 .i64 Tryz.underlying3) (.cons _ _ 2 _ 1 _ _ rfl (by kernel_rfl) (.int 3 .i64 Tryz.underlying3) (.cons _ _ 3 _ 1 _ _ rfl (by kernel_rfl) (.int 3 .i64 Tryz.underlying3) (.cons _ _ 4 _ 1 _ _ rfl (by kernel_rfl) (.int 3 .i64 Tryz.underlying3) (.cons _ _ 5 _ 1 _ _ rfl (by kernel_rfl) (.int 3 .i64 Tryz.underlying3) (.nil 6)))))))
theorem ty77:AM.TyOf Tryz.prog 77 (.st AM.tWr) 2:=.st 77 _ _ 2 Tryz.underlying77 (by kernel_rfl) (.cons _ _ 0 _ 1 _ _ rfl (by kernel_rfl) (.int 3 .i64 Tryz.underlying3) (.cons _ _ 1 _ 1 _ _ rfl (by kernel_rfl) (.sl 41 5 _ 1 Tryz.underlying41 (by kernel_rfl) (by decide) (.int 5 .u8 Tryz.underlying5)) (.nil 2)))
theorem ty28:AM.TyOf Tryz.prog 28 (.st AM.tDisk) 3:=.st 28 _ _ 3 Tryz.underlying28 (by kernel_rfl) (.cons _ _ 0 _ 1 _ _ rfl (by kernel_rfl) (.sl 25 41 _ 1 Tryz.underlying25 (by kernel_rfl) (by decide) (.sl 41 5 _ 1 Tryz.underlying41 (by kernel_rfl) (by decide) (.int 5 .u8 Tryz.underlying5))) (.cons _ _ 1 _ 1 _ _ rfl (by kernel_rfl) (.sl 26 77 _ 2 Tryz.underlying26 (by kernel_rfl) (by decide) ty77) (.cons _ _ 2 _ 1 _ _ rfl (by kernel_rfl) (.bool 4 Tryz.underlying4) (.nil 3))))
theorem ty66:AM.TyOf Tryz.prog 66 (.st AM.tLv) 6:=.st 66 _ _ 6 Tryz.underlying66 (by kernel_rfl) (.cons _ _ 0 _ 1 _ _ rfl (by kernel_rfl) (.int 22 .u32 Tryz.underlying22) (.cons _ _ 1 _ 1 _ _ rfl (by kernel_rfl) (.int 3 .i64 Tryz.underlying3) (.cons _ _ 2 _ 1 _ _ rfl (by kernel_rfl) (.int 3 .i64 Tryz.underlying3) (.cons _ _ 3 _ 1 _ _ rfl (by kernel_rfl) (.bool 4 Tryz.underlying4) (.cons _ _ 4 _ 1 _ _ rfl (by kernel_rfl) (.bool 4 Tryz.underlying4) (.cons _ _ 5 _ 1 _ _ rfl (by kernel_rfl) (.bool 4 Tryz.underlying4) (.nil 6)))))))
theorem ty31:AM.TyOf Tryz.prog 31 (.st AM.tLog) 5:=.st 31 _ _ 5 Tryz.underlying31 (by kernel_rfl) (.cons _ _ 0 _ 1 _ _ rfl (by kernel_rfl) (.int 22 .u32 Tryz.underlying22) (.cons _ _ 1 _ 1 _ _ rfl (by kernel_rfl) (.int 22 .u32 Tryz.underlying22) (.cons _ _ 2 _ 1 _ _ rfl (by kernel_rfl) (.int 3 .i64 Tryz.underlying3) (.cons _ _ 3 _ 1 _ _ rfl (by kernel_rfl) (.int 3 .i64 Tryz.underlying3) (.cons _ _ 4 _ 1 _ _ rfl (by kernel_rfl) (.sl 29 66 _ 6 Tryz.underlying29 (by kernel_rfl) (by decide) ty66) (.nil 5))))))
theorem ty53:AM.TyOf Tryz.prog 53 (.st AM.tDeal) 4:=.st 53 _ _ 4 Tryz.underlying53 (by kernel_rfl) (.cons _ _ 0 _ 1 _ _ rfl (by kernel_rfl) (.int 3 .i64 Tryz.underlying3) (.cons _ _ 1 _ 1 _ _ rfl (by kernel_rfl) (.sl 51 3 _ 1 Tryz.underlying51 (by kernel_rfl) (by decide) (.int 3 .i64 Tryz.underlying3)) (.cons _ _ 2 _ 1 _ _ rfl (by kernel_rfl) (.sl 25 41 _ 1 Tryz.underlying25 (by kernel_rfl) (by decide) (.sl 41 5 _ 1 Tryz.underlying41 (by kernel_rfl) (by decide) (.int 5 .u8 Tryz.underlying5))) (.cons _ _ 3 _ 1 _ _ rfl (by kernel_rfl) (.sl 41 5 _ 1 Tryz.underlying41 (by kernel_rfl) (by decide) (.int 5 .u8 Tryz.underlying5)) (.nil 4)))))
theorem ty55:AM.TyOf Tryz.prog 55 (.st AM.tOp) 6:=.st 55 _ _ 6 Tryz.underlying55 (by kernel_rfl) (.cons _ _ 0 _ 1 _ _ rfl (by kernel_rfl) (.int 5 .u8 Tryz.underlying5) (.cons _ _ 1 _ 1 _ _ rfl (by kernel_rfl) (.int 3 .i64 Tryz.underlying3) (.cons _ _ 2 _ 4 _ _ rfl (by kernel_rfl) ty53 (.nil 6))))
theorem ty32:AM.TyOf Tryz.prog 32 (.sl (.st AM.tOp)) 1:=.sl 32 55 _ 6 Tryz.underlying32 (by kernel_rfl) (by decide) ty55
set_option maxRecDepth 100000 in
theorem lifted (os:Os) (started:os.Started) (H:Type) (enc:TypeId×Value→H):
 ReturnsInHanded {} Tryz.checked os 3 .any (Rows.scanAllSpec.pre6 enc Tryz.prog Tryz.f3 Rows.scanAllRow.domain false) (Rows.scanAllSpec.post enc Tryz.prog Tryz.f3 false true false false):=by
 refine returnsInHanded_of_change (C:=Tryz.checked) own started (by kernel_rfl) Tryz.func3
  (ChangeSpec.witness6 (enc:=enc) (C:=Tryz.checked) false ⟨#[],#[.agg #[.int .u32 0,.int .i64 0,.int .i64 0,.int .i64 0,.int .i64 0,.int .i64 0],.agg #[.slice none 0 0,.slice none 0 0,.bool false],.agg #[.int .u32 0,.int .u32 0,.int .i64 0,.int .i64 0,.slice none 0 0],.slice none 0 0,.slice none 0 0],[]⟩ 8 (by kernel_rfl) (by kernel_rfl) (by kernel_rfl) (by kernel_rfl)) ?_
 intro W base args ds gs before hval0 hW hcnd _
 have hval:∀ (j:Nat) t v,Tryz.f3.params[j]?=some t→args[j]?=some v→Value.okWide Tryz.prog W .any base t v:=hval0
 have hW':=hW
 obtain ⟨p,q,hA0,hV,rfl,hfz,hnd⟩:=hW
 have hA:DataW.TrodAll enc Tryz.prog W 0 (fun _=>true) true Tryz.f3.params.toList args.toList ds p:=hA0
 have hlt:∀ x ∈ p,x.block<W.heap.size:=fun x hx=>hW'.lt x (List.mem_append.2 (.inl hx))
 rw [Tryz.params3] at hA hval
 obtain ⟨v0,vs0,d0,ds0,p0,q0,hargs,rfl,rfl,h0,r0⟩:=trodAll_cons hA
 obtain ⟨v1,vs1,d1,ds1,p1,q1,rfl,rfl,rfl,h1,r1⟩:=trodAll_cons r0
 obtain ⟨v2,vs2,d2,ds2,p2,q2,rfl,rfl,rfl,h2,r2⟩:=trodAll_cons r1
 obtain ⟨v3,vs3,d3,ds3,p3,q3,rfl,rfl,rfl,h3,r3⟩:=trodAll_cons r2
 obtain ⟨v4,vs4,d4,ds4,p4,q4,rfl,rfl,rfl,h4,r4⟩:=trodAll_cons r3
 obtain ⟨rfl,rfl,rfl⟩:=trodAll_nil r4
 obtain rfl:args=#[v0,v1,v2,v3,v4]:=by cases args;simp_all
 obtain ⟨rfl,rfl⟩:=trodVars_none hV
 obtain ⟨l0,s0,V0⟩:=AM.arg_struct Tryz.underlying24 ty24 (hval 0 24 v0 rfl rfl) h0
 obtain ⟨c,hc,rfl⟩:=AM.cfg_of s0
 obtain ⟨l1,s1,V1⟩:=AM.arg_struct Tryz.underlying28 ty28 (hval 1 28 v1 rfl rfl) h1
 obtain ⟨j,hj,rfl⟩:=AM.disk_of s1
 obtain ⟨l2,s2,V2⟩:=AM.arg_struct Tryz.underlying31 ty31 (hval 2 31 v2 rfl rfl) h2
 obtain ⟨ag,sq,tl,us,v,L,rfl,g1,g2,g3,g4,g5,g6⟩:=AM.log_of s2
 obtain ⟨u3,ops,V3,ho⟩:=AM.ops_arg Tryz.underlying32 ty32 (hval 3 32 v3 rfl rfl) h3
 obtain ⟨kv,ks,V4,hks⟩:=AM.bools_arg Tryz.underlying33 (.sl 33 4 _ 1 Tryz.underlying33 (by kernel_rfl) (by decide) (.bool 4 Tryz.underlying4)) (hval 4 33 v4 rfl rfl) h4
 clear hval0
 refine (AM.law_args (vals:=[v0,v1,v2,v3,v4]) (.cons V0 (.cons V1 (.cons V2 (.cons V3 (.cons V4 .nil))))) (AM.scanAll_C c j ag sq tl us L v u3 kv ops ks hc hj g1 g2 g3 g4 g5 g6 ho hks)).mono fun e W' ⟨he,hg⟩=>?_
 subst he
 refine ⟨_,rfl,AM.post_new (pa:=_) (pv:=[]) hW' hg rfl (fun _ _ _=>(trodAll_cons_mk (shut_bool Tryz.underlying4 _) trodAll_mk0)) (fun sp hsp=>?_) (fun _ _=>rfl)
  (ok_one (by kernel_rfl) rfl (okWide_bool_mk Tryz.underlying4 _))⟩
 exact AM.trodAll_below laid hg sp pars hA0 hlt (fun x hx=>hsp x (List.mem_append.2 (.inl hx)))
theorem bt {a b:Bool}(ha:a=true) (hb:b=true):(a && b)=true:=by rw [ha,hb];rfl
theorem k0:(Rows.scanAllRow.wf (OpenSpec.ofChange Rows.scanAllSpec))=true:=by kernel_rfl
theorem k1:(laidOutB Tryz.prog)=true:=by kernel_rfl
theorem k2:(mapsRowed Tryz.prog)=true:=by kernel_rfl
theorem k3:(Tryz.f3.params.all (Tryz.prog.readableRec ·))=true:=by kernel_rfl
theorem k4:(namedTie Tryz.prog Rows.scanAllRow.named Rows.scanAllSpec.vars)=true:=by kernel_rfl
theorem k5:((Rows.scanAllRow.stops == []))=true:=by kernel_rfl
theorem k6:((Tryz.prog.stops == []))=true:=by kernel_rfl
theorem k7:((Rows.scanAllRow.knobs == []))=true:=by kernel_rfl
theorem k8:((Tryz.prog.stopKnobs == []))=true:=by kernel_rfl
theorem k9:((Rows.scanAllRow.inPlace == Tryz.prog.inPlace 3))=true:=by kernel_rfl
theorem k10:((Rows.scanAllRow.unfollowed == Tryz.prog.unfollowed 3))=true:=by kernel_rfl
theorem k11:((Rows.scanAllRow.recurses == Tryz.prog.recurses 3))=true:=by kernel_rfl
theorem k12:((Rows.scanAllRow.named == Tryz.prog.varsNamed 3))=true:=by kernel_rfl
theorem k13:((Rows.scanAllRow.maps == (Tryz.f3.params.toList++Rows.scanAllSpec.plain.varTypes Tryz.prog).any (Tryz.prog.mapsRec ·)))=true:=by kernel_rfl
theorem k14:((Rows.scanAllRow.ifaces == (Tryz.f3.params.toList++Rows.scanAllSpec.plain.varTypes Tryz.prog).any (Tryz.prog.ifacesRec ·)))=true:=by kernel_rfl
theorem k15:((Rows.scanAllRow.mapsOut == Tryz.prog.mapsAmong Tryz.f3.resultTypes.toList))=true:=by kernel_rfl
theorem k16:((Rows.scanAllRow.loops == (Tryz.f3.params.toList++Rows.scanAllSpec.plain.varTypes Tryz.prog).any (Tryz.prog.loopsFrom ·)))=true:=by kernel_rfl
theorem k17:((Rows.scanAllRow.wideKeys == (Tryz.f3.params.toList++Rows.scanAllSpec.plain.varTypes Tryz.prog++Tryz.f3.resultTypes.toList).any (Tryz.prog.wideKeysFrom ·)))=true:=by kernel_rfl
theorem k18:(Rows.scanAllSpec.vars.all (Tryz.prog.varReadable ·))=true:=by kernel_rfl
theorem k19:(Tryz.f3.resultTypes.all (fun t=>Tryz.prog.readableRec t && decide (t<Tryz.prog.types.size)))=true:=by kernel_rfl
theorem k20:((Rows.scanAllRow.ifacesOut == Tryz.f3.resultTypes.toList.any (Tryz.prog.ifacesRec ·)))=true:=by kernel_rfl
theorem k21:((Rows.scanAllRow.loopsOut == Tryz.f3.resultTypes.toList.any (Tryz.prog.loopsFrom ·)))=true:=by kernel_rfl
theorem k22:((Rows.scanAllRow.plainKeys == Tryz.prog.plainKeys))=true:=by kernel_rfl
theorem k23:(Rows.scanAllRow.shortTexts.isNone)=true:=by kernel_rfl
theorem k24:(Tryz.prog.stopsHeard)=true:=by kernel_rfl
theorem k25:(Tryz.prog.mayEnter)=true:=by kernel_rfl
theorem k26:((Rows.scanAllRow.lifted == Tryz.prog.liftsFinal))=true:=by kernel_rfl
theorem k27:((Tryz.prog.make == some Rows.scanAllRow.make))=true:=by kernel_rfl
theorem k29:((Rows.scanAllRow.pinned == Rows.scanAllRow.pinnedBy))=true:=by kernel_rfl
theorem k30:((Rows.scanAllRow.veiled == (Tryz.f3.params.toList++Rows.scanAllSpec.plain.varTypes Tryz.prog++Tryz.f3.resultTypes.toList).any (Tryz.prog.veiledRec ·)))=true:=by kernel_rfl
theorem k31:(Rows.scanAllRow.veiledFits Tryz.prog Tryz.f3.params.toList (Tryz.f3.params.toList++Rows.scanAllSpec.plain.varTypes Tryz.prog++Tryz.f3.resultTypes.toList))=true:=by kernel_rfl
set_option maxRecDepth 100000 in
theorem closed:joinedFacts Tryz.prog 3 Tryz.f3 Rows.scanAllSpec Rows.scanAllRow=true:=by
 unfold joinedFacts
 exact bt (bt (bt (bt (bt (bt (bt (bt (bt (bt (bt (bt (bt (bt (bt (bt (bt (bt (bt (bt (bt (bt (bt (bt (bt (bt (bt (bt (bt (bt (bt k0 k1) k2) k3) k4) k5) k6) k7) k8) k9) k10) k11) k12) k13) k14) k15) k16) k17) k18) k19) k20) k21) k22) k23) k24) k25) k26) k27) (by kernel_rfl)) k29) k30) k31
theorem over:Rows.scanAllRow.holds Tryz.pinned (OpenSpec.ofChange Rows.scanAllSpec):=
 OpenClaim.holds_of_wide 3 Tryz.f3 rfl rfl rfl rfl rfl rfl rfl ⟨rfl,rfl,rfl,rfl,rfl⟩ rfl rfl rfl rfl rfl (by kernel_rfl) Tryz.func3 closed
  (of_decide_eq_true (by kernel_rfl)) (by unfold Func.isWrapper;first|(rw [if_pos (by decide +kernel)];kernel_rfl)|(rw [if_neg (by decide +kernel)];exact ⟨rfl,rfl⟩))
  (fun os started H enc _=>lifted os started H enc)
/-- ████ THE STATEMENT ████ -/
theorem proved:Rows.ScanAllSaid:=
 over
#print axioms proved
end Go.Proofs.YtnnbibnobmegpaaGreat.scanAll
