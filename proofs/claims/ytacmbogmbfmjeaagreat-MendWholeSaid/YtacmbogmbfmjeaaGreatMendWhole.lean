/-
 'MendWhole' returns true, whatever the array, the devices and the member; the input reads as it did. No conditions: every input. By contracts of the functions it calls over the abstract machine.
-/
import Derived.Test.YtacmbogmbfmjeaaGreatRows
import Derived.WalkKit
import Derived.Test.YtacmbogmbfmjeaaGreatAM5
import Derived.Test.YtacmbogmbfmjeaaGreatSeatEnvW
import Derived.Test.YtacmbogmbfmjeaaGreatStH
import Derived.ProofKit
import Derived.OpenShut
import Derived.ShutString
namespace Go.Proofs.YtacmbogmbfmjeaaGreat.mendWhole
open Go.ChangeShapes Go.WideShapes Go.ChangeAt Go.RowKit
set_option linter.unusedVariables false
theorem own:ownKnob Tryz.prog.godebug=none:=by kernel_rfl
theorem laid:laidOutB Tryz.prog=true:=by kernel_rfl
theorem pars:(Tryz.f4.params.toList.all fun t=>Tryz.prog.readableRec t && decide (t<Tryz.prog.types.size))=true:=by kernel_rfl
theorem tbyt:AM.TyOf Tryz.prog 76 AM.tByt 1:=.sl 76 5 _ 1 Tryz.underlying76 (by kernel_rfl) (by decide) (.int 5 .u8 Tryz.underlying5)
theorem tbs:AM.TyOf Tryz.prog 52 AM.tBs 1:=.sl 52 76 _ 1 Tryz.underlying52 (by kernel_rfl) (by decide) tbyt
theorem ty24:AM.TyOf Tryz.prog 24 (.st AM.tCfg) 6:=.st 24 _ _ 6 Tryz.underlying24 (by kernel_rfl) (.cons _ _ 0 _ 1 _ _ rfl (by kernel_rfl) (.int 22 .u32 Tryz.underlying22) (.cons _ _ 1 _ 1 _ _ rfl (by kernel_rfl) (.int 3 .i64 Tryz.underlying3) (.cons _ _ 2 _ 1 _ _ rfl (by kernel_rfl) (.int 3 .i64 Tryz.underlying3) (.cons _ _ 3 _ 1 _ _ rfl (by kernel_rfl) (.int 3 .i64 Tryz.underlying3) (.cons _ _ 4 _ 1 _ _ rfl (by kernel_rfl) (.int 3 .i64 Tryz.underlying3) (.cons _ _ 5 _ 1 _ _ rfl (by kernel_rfl) (.int 3 .i64 Tryz.underlying3) (.nil 6)))))))
theorem ty26:AM.TyOf Tryz.prog 26 (.st AM.tLo) 7:=.st 26 _ _ 7 Tryz.underlying26 (by kernel_rfl) (.cons _ _ 0 _ 1 _ _ rfl (by kernel_rfl) (.int 22 .u32 Tryz.underlying22) (.cons _ _ 1 _ 1 _ _ rfl (by kernel_rfl) (.int 3 .i64 Tryz.underlying3) (.cons _ _ 2 _ 1 _ _ rfl (by kernel_rfl) (.bool 4 Tryz.underlying4) (.cons _ _ 3 _ 1 _ _ rfl (by kernel_rfl) (.int 3 .i64 Tryz.underlying3) (.cons _ _ 4 _ 1 _ _ rfl (by kernel_rfl) (.int 3 .i64 Tryz.underlying3) (.cons _ _ 5 _ 1 _ _ rfl (by kernel_rfl) (.bool 4 Tryz.underlying4) (.cons _ _ 6 _ 1 _ _ rfl (by kernel_rfl) (.bool 4 Tryz.underlying4) (.nil 7))))))))
theorem ty128:AM.TyOf Tryz.prog 128 (.st AM.tLv) 6:=.st 128 _ _ 6 Tryz.underlying128 (by kernel_rfl) (.cons _ _ 0 _ 1 _ _ rfl (by kernel_rfl) (.int 22 .u32 Tryz.underlying22) (.cons _ _ 1 _ 1 _ _ rfl (by kernel_rfl) (.int 3 .i64 Tryz.underlying3) (.cons _ _ 2 _ 1 _ _ rfl (by kernel_rfl) (.int 3 .i64 Tryz.underlying3) (.cons _ _ 3 _ 1 _ _ rfl (by kernel_rfl) (.bool 4 Tryz.underlying4) (.cons _ _ 4 _ 1 _ _ rfl (by kernel_rfl) (.bool 4 Tryz.underlying4) (.cons _ _ 5 _ 1 _ _ rfl (by kernel_rfl) (.bool 4 Tryz.underlying4) (.nil 6)))))))
theorem ty30:AM.TyOf Tryz.prog 30 (.st AM.tLog) 5:=.st 30 _ _ 5 Tryz.underlying30 (by kernel_rfl) (.cons _ _ 0 _ 1 _ _ rfl (by kernel_rfl) (.int 22 .u32 Tryz.underlying22) (.cons _ _ 1 _ 1 _ _ rfl (by kernel_rfl) (.int 22 .u32 Tryz.underlying22) (.cons _ _ 2 _ 1 _ _ rfl (by kernel_rfl) (.int 3 .i64 Tryz.underlying3) (.cons _ _ 3 _ 1 _ _ rfl (by kernel_rfl) (.int 3 .i64 Tryz.underlying3) (.cons _ _ 4 _ 1 _ _ rfl (by kernel_rfl) (.sl 28 128 _ 6 Tryz.underlying28 (by kernel_rfl) (by decide) ty128) (.nil 5))))))
theorem ty55:AM.TyOf Tryz.prog 55 (.st AM.tHd) 6:=.st 55 _ _ 6 Tryz.underlying55 (by kernel_rfl) (.cons _ _ 0 _ 1 _ _ rfl (by kernel_rfl) (.int 3 .i64 Tryz.underlying3) (.cons _ _ 1 _ 1 _ _ rfl (by kernel_rfl) tbs (.cons _ _ 2 _ 1 _ _ rfl (by kernel_rfl) (.sl 53 4 _ 1 Tryz.underlying53 (by kernel_rfl) (by decide) (.bool 4 Tryz.underlying4)) (.cons _ _ 3 _ 1 _ _ rfl (by kernel_rfl) (.int 5 .u8 Tryz.underlying5) (.cons _ _ 4 _ 1 _ _ rfl (by kernel_rfl) (.bool 4 Tryz.underlying4) (.cons _ _ 5 _ 1 _ _ rfl (by kernel_rfl) (.int 22 .u32 Tryz.underlying22) (.nil 6)))))))
theorem ty140:AM.TyOf Tryz.prog 140 (.st AM.tAk) 4:=.st 140 _ _ 4 Tryz.underlying140 (by kernel_rfl) (.cons _ _ 0 _ 1 _ _ rfl (by kernel_rfl) (.int 5 .u8 Tryz.underlying5) (.cons _ _ 1 _ 1 _ _ rfl (by kernel_rfl) (.int 3 .i64 Tryz.underlying3) (.cons _ _ 2 _ 1 _ _ rfl (by kernel_rfl) (.int 3 .i64 Tryz.underlying3) (.cons _ _ 3 _ 1 _ _ rfl (by kernel_rfl) tbyt (.nil 4)))))
theorem ty143:AM.TyOf Tryz.prog 143 (.st AM.tFl) 8:=.st 143 _ _ 8 Tryz.underlying143 (by kernel_rfl) (.cons _ _ 0 _ 1 _ _ rfl (by kernel_rfl) (.int 3 .i64 Tryz.underlying3) (.cons _ _ 1 _ 4 _ _ rfl (by kernel_rfl) ty140 (.cons _ _ 5 _ 1 _ _ rfl (by kernel_rfl) tbyt (.cons _ _ 6 _ 1 _ _ rfl (by kernel_rfl) (.sl 141 22 _ 1 Tryz.underlying141 (by kernel_rfl) (by decide) (.int 22 .u32 Tryz.underlying22)) (.cons _ _ 7 _ 1 _ _ rfl (by kernel_rfl) tbs (.nil 8))))))
theorem ty33:AM.TyOf Tryz.prog 33 (.st AM.tDv) 23:=.st 33 _ _ 23 Tryz.underlying33 (by kernel_rfl) (.cons _ _ 0 _ 6 _ _ rfl (by kernel_rfl) ty24 (.cons _ _ 6 _ 1 _ _ rfl (by kernel_rfl) (.bool 4 Tryz.underlying4) (.cons _ _ 7 _ 7 _ _ rfl (by kernel_rfl) ty26 (.cons _ _ 14 _ 1 _ _ rfl (by kernel_rfl) (.sl 27 55 _ 6 Tryz.underlying27 (by kernel_rfl) (by decide) ty55) (.cons _ _ 15 _ 5 _ _ rfl (by kernel_rfl) ty30 (.cons _ _ 20 _ 1 _ _ rfl (by kernel_rfl) (.sl 31 143 _ 8 Tryz.underlying31 (by kernel_rfl) (by decide) ty143) (.cons _ _ 21 _ 1 _ _ rfl (by kernel_rfl) (.int 3 .i64 Tryz.underlying3) (.cons _ _ 22 _ 1 _ _ rfl (by kernel_rfl) (.bool 4 Tryz.underlying4) (.nil 23)))))))))
theorem ty146:AM.TyOf Tryz.prog 146 (.st [.int .i64,AM.tByt]) 2:=.st 146 _ _ 2 Tryz.underlying146 (by kernel_rfl) (.cons _ _ 0 _ 1 _ _ rfl (by kernel_rfl) (.int 3 .i64 Tryz.underlying3) (.cons _ _ 1 _ 1 _ _ rfl (by kernel_rfl) tbyt (.nil 2)))
theorem ty60:AM.TyOf Tryz.prog 60 (.st AM.tDk) 3:=.st 60 _ _ 3 Tryz.underlying60 (by kernel_rfl) (.cons _ _ 0 _ 1 _ _ rfl (by kernel_rfl) tbs (.cons _ _ 1 _ 1 _ _ rfl (by kernel_rfl) (.sl 58 146 _ 2 Tryz.underlying58 (by kernel_rfl) (by decide) ty146) (.cons _ _ 2 _ 1 _ _ rfl (by kernel_rfl) (.bool 4 Tryz.underlying4) (.nil 3))))
theorem ty34:AM.TyOf Tryz.prog 34 (.sl (.st AM.tDk)) 1:=.sl 34 60 _ 3 Tryz.underlying34 (by kernel_rfl) (by decide) ty60
set_option maxRecDepth 100000 in
theorem lifted (os:Os) (started:os.Started) (H:Type) (enc:TypeId×Value→H):
 ReturnsInHanded {} Tryz.checked os 4 .any (Rows.mendWholeSpec.pre6 enc Tryz.prog Tryz.f4 Rows.mendWholeRow.domain false) (Rows.mendWholeSpec.post enc Tryz.prog Tryz.f4 false true false false):=by
 refine returnsInHanded_of_change (C:=Tryz.checked) own started (by kernel_rfl) Tryz.func4
  (ChangeSpec.witness6 (enc:=enc) (C:=Tryz.checked) false ⟨#[],#[.agg #[.int .u32 0,.int .i64 0,.int .i64 0,.int .i64 0,.int .i64 0,.int .i64 0,.bool false,.int .u32 0,.int .i64 0,.bool false,.int .i64 0,.int .i64 0,.bool false,.bool false,.slice none 0 0,.int .u32 0,.int .u32 0,.int .i64 0,.int .i64 0,.slice none 0 0,.slice none 0 0,.int .i64 0,.bool false],.slice none 0 0,.int .i64 0],[]⟩ 8 (by kernel_rfl) (by kernel_rfl) (by kernel_rfl) (by kernel_rfl)) ?_
 intro W base args ds gs before hval0 hW hcnd _
 have hval:∀ (j:Nat) t v,Tryz.f4.params[j]?=some t→args[j]?=some v→Value.okWide Tryz.prog W .any base t v:=hval0
 have hW':=hW
 obtain ⟨p,q,hA0,hV,rfl,hfz,hnd⟩:=hW
 have hA:DataW.TrodAll enc Tryz.prog W 0 (fun _=>true) true Tryz.f4.params.toList args.toList ds p:=hA0
 have hlt:∀ x ∈ p,x.block<W.heap.size:=fun x hx=>hW'.lt x (List.mem_append.2 (.inl hx))
 rw [Tryz.params4] at hA hval
 obtain ⟨v0,vs0,d0,ds0,p0,q0,hargs,rfl,rfl,h0,r0⟩:=trodAll_cons hA
 obtain ⟨v1,vs1,d1,ds1,p1,q1,rfl,rfl,rfl,h1,r1⟩:=trodAll_cons r0
 obtain ⟨v2,vs2,d2,ds2,p2,q2,rfl,rfl,rfl,h2,r2⟩:=trodAll_cons r1
 obtain ⟨rfl,rfl,rfl⟩:=trodAll_nil r2
 obtain rfl:args=#[v0,v1,v2]:=by cases args;simp_all
 obtain ⟨rfl,rfl⟩:=trodVars_none hV
 obtain ⟨l0,s0,V0⟩:=AM.arg_struct Tryz.underlying33 ty33 (hval 0 33 v0 rfl rfl) h0
 obtain ⟨dv,hdv⟩:=AM.of_dv l0 s0
 obtain ⟨u1,D,V1,hD⟩:=AM.disks_arg Tryz.underlying34 ty34 (hval 1 34 v1 rfl rfl) h1
 obtain ⟨a2,rfl,rfl,rfl,w2⟩:=open_int Tryz.underlying3 (hval 2 3 v2 rfl rfl) h2
 clear hval0
 refine (AM.law_args (vals:=[v0,v1,.int .i64 a2]) (.cons V0 (.cons V1 (.cons (.int _ _) .nil))) (AM.mendWhole_C hdv hD (AM.wf_i64 w2))).mono fun e W' ⟨he,hg⟩=>?_
 subst he
 refine ⟨_,rfl,AM.post_new (pa:=_) (pv:=[]) hW' hg rfl (fun _ _ _=>(trodAll_cons_mk (shut_bool Tryz.underlying4 _) trodAll_mk0)) (fun sp hsp=>?_) (fun _ _=>rfl)
  (ok_one (by kernel_rfl) rfl (okWide_bool_mk Tryz.underlying4 _))⟩
 exact AM.trodAll_below laid hg sp pars hA0 hlt (fun x hx=>hsp x (List.mem_append.2 (.inl hx)))
theorem bt {a b:Bool}(ha:a=true) (hb:b=true):(a && b)=true:=by rw [ha,hb];rfl
theorem k0:(Rows.mendWholeRow.wf (OpenSpec.ofChange Rows.mendWholeSpec))=true:=by kernel_rfl
theorem k1:(laidOutB Tryz.prog)=true:=by kernel_rfl
theorem k2:(mapsRowed Tryz.prog)=true:=by kernel_rfl
theorem k3:(Tryz.f4.params.all (Tryz.prog.readableRec ·))=true:=by kernel_rfl
theorem k4:(namedTie Tryz.prog Rows.mendWholeRow.named Rows.mendWholeSpec.vars)=true:=by kernel_rfl
theorem k5:((Rows.mendWholeRow.stops == []))=true:=by kernel_rfl
theorem k6:((Tryz.prog.stops == []))=true:=by kernel_rfl
theorem k7:((Rows.mendWholeRow.knobs == []))=true:=by kernel_rfl
theorem k8:((Tryz.prog.stopKnobs == []))=true:=by kernel_rfl
theorem k9:((Rows.mendWholeRow.inPlace == Tryz.prog.inPlace 4))=true:=by kernel_rfl
theorem k10:((Rows.mendWholeRow.unfollowed == Tryz.prog.unfollowed 4))=true:=by kernel_rfl
theorem k11:((Rows.mendWholeRow.recurses == Tryz.prog.recurses 4))=true:=by kernel_rfl
theorem k12:((Rows.mendWholeRow.named == Tryz.prog.varsNamed 4))=true:=by kernel_rfl
theorem k13:((Rows.mendWholeRow.maps == (Tryz.f4.params.toList++Rows.mendWholeSpec.plain.varTypes Tryz.prog).any (Tryz.prog.mapsRec ·)))=true:=by kernel_rfl
theorem k14:((Rows.mendWholeRow.ifaces == (Tryz.f4.params.toList++Rows.mendWholeSpec.plain.varTypes Tryz.prog).any (Tryz.prog.ifacesRec ·)))=true:=by kernel_rfl
theorem k15:((Rows.mendWholeRow.mapsOut == Tryz.prog.mapsAmong Tryz.f4.resultTypes.toList))=true:=by kernel_rfl
theorem k16:((Rows.mendWholeRow.loops == (Tryz.f4.params.toList++Rows.mendWholeSpec.plain.varTypes Tryz.prog).any (Tryz.prog.loopsFrom ·)))=true:=by kernel_rfl
theorem k17:((Rows.mendWholeRow.wideKeys == (Tryz.f4.params.toList++Rows.mendWholeSpec.plain.varTypes Tryz.prog++Tryz.f4.resultTypes.toList).any (Tryz.prog.wideKeysFrom ·)))=true:=by kernel_rfl
theorem k18:(Rows.mendWholeSpec.vars.all (Tryz.prog.varReadable ·))=true:=by kernel_rfl
theorem k19:(Tryz.f4.resultTypes.all (fun t=>Tryz.prog.readableRec t && decide (t<Tryz.prog.types.size)))=true:=by kernel_rfl
theorem k20:((Rows.mendWholeRow.ifacesOut == Tryz.f4.resultTypes.toList.any (Tryz.prog.ifacesRec ·)))=true:=by kernel_rfl
theorem k21:((Rows.mendWholeRow.loopsOut == Tryz.f4.resultTypes.toList.any (Tryz.prog.loopsFrom ·)))=true:=by kernel_rfl
theorem k22:((Rows.mendWholeRow.plainKeys == Tryz.prog.plainKeys))=true:=by kernel_rfl
theorem k23:(Rows.mendWholeRow.shortTexts.isNone)=true:=by kernel_rfl
theorem k24:(Tryz.prog.stopsHeard)=true:=by kernel_rfl
theorem k25:(Tryz.prog.mayEnter)=true:=by kernel_rfl
theorem k26:((Rows.mendWholeRow.lifted == Tryz.prog.liftsFinal))=true:=by kernel_rfl
theorem k27:((Tryz.prog.make == some Rows.mendWholeRow.make))=true:=by kernel_rfl
theorem k29:((Rows.mendWholeRow.pinned == Rows.mendWholeRow.pinnedBy))=true:=by kernel_rfl
theorem k30:((Rows.mendWholeRow.veiled == (Tryz.f4.params.toList++Rows.mendWholeSpec.plain.varTypes Tryz.prog++Tryz.f4.resultTypes.toList).any (Tryz.prog.veiledRec ·)))=true:=by kernel_rfl
theorem k31:(Rows.mendWholeRow.veiledFits Tryz.prog Tryz.f4.params.toList (Tryz.f4.params.toList++Rows.mendWholeSpec.plain.varTypes Tryz.prog++Tryz.f4.resultTypes.toList))=true:=by kernel_rfl
set_option maxRecDepth 100000 in
theorem closed:joinedFacts Tryz.prog 4 Tryz.f4 Rows.mendWholeSpec Rows.mendWholeRow=true:=by
 unfold joinedFacts
 exact bt (bt (bt (bt (bt (bt (bt (bt (bt (bt (bt (bt (bt (bt (bt (bt (bt (bt (bt (bt (bt (bt (bt (bt (bt (bt (bt (bt (bt (bt (bt k0 k1) k2) k3) k4) k5) k6) k7) k8) k9) k10) k11) k12) k13) k14) k15) k16) k17) k18) k19) k20) k21) k22) k23) k24) k25) k26) k27) (by kernel_rfl)) k29) k30) k31
theorem over:Rows.mendWholeRow.holds Tryz.pinned (OpenSpec.ofChange Rows.mendWholeSpec):=
 OpenClaim.holds_of_wide 4 Tryz.f4 rfl rfl rfl rfl rfl rfl rfl ⟨rfl,rfl,rfl,rfl,rfl⟩ rfl rfl rfl rfl rfl (by kernel_rfl) Tryz.func4 closed
  (of_decide_eq_true (by kernel_rfl)) (by unfold Func.isWrapper;first|(rw [if_pos (by decide +kernel)];kernel_rfl)|(rw [if_neg (by decide +kernel)];exact ⟨rfl,rfl⟩))
  (fun os started H enc _=>lifted os started H enc)
/-- ████ THE STATEMENT ████ -/
theorem proved:Rows.MendWholeSaid:=
 over
#print axioms proved
end Go.Proofs.YtacmbogmbfmjeaaGreat.mendWhole
