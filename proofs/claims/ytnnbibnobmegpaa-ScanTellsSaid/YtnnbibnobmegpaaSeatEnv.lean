/-
 Functions of the program as the abstract machine reads them, and what is stated of them, checked by the kernel. No conditions.
-/
import Derived.Test.YtnnbibnobmegpaaSeatC
import Derived.Test.YtnnbibnobmegpaaSeatS
import Derived.WalkKit
set_option linter.unusedVariables false
set_option linter.unusedSimpArgs false
set_option maxRecDepth 1000000
namespace Go.AM
open Go.Proofs Go.AM.X
theorem Zbi:Try.prog.follows .mixedOrders=true:=by kernel_rfl
theorem Zrg:tbl=ofT gl:=by kernel_rfl
theorem gOk:All (GOk Try.prog) gl:=by
 exact ⟨⟨Try.f41,Try.func41,c41,by kernel_rfl⟩,⟨Try.f67,Try.func67,c67,by kernel_rfl⟩,⟨Try.f84,Try.func84,c84,by kernel_rfl⟩,⟨Try.f86,Try.func86,c86,by kernel_rfl⟩,⟨Try.f107,Try.func107,c107,by kernel_rfl⟩,⟨Try.f127,Try.func127,c127,by kernel_rfl⟩,⟨Try.f128,Try.func128,c128,by kernel_rfl⟩,⟨Try.f129,Try.func129,c129,by kernel_rfl⟩,⟨Try.f130,Try.func130,c130,by kernel_rfl⟩,⟨Try.f131,Try.func131,c131,by kernel_rfl⟩,⟨Try.f147,Try.func147,c147,by kernel_rfl⟩,⟨Try.f160,Try.func160,c160,by kernel_rfl⟩,⟨Try.f161,Try.func161,c161,by kernel_rfl⟩,trivial⟩
theorem xOk:All (XOk Try.prog) [(134,Zfr)]:=
 ⟨ovlO_ok (tS:=25) (tR:=4) (el:=32) (sz:=1) Try.func134 (by kernel_rfl) (by kernel_rfl) (by kernel_rfl) (by kernel_rfl) Try.underlying25 (by kernel_rfl),trivial⟩
noncomputable def e0:Env:=⟨tbl,.lf,ofT [(134,Zfr)]⟩
theorem Yg9:EnvOk Try.prog e0:=Zci (ol:=[]) Zrg rfl rfl gOk trivial xOk
theorem hasB107:Zaf Try.prog 107:=⟨Try.f107,_,Try.func107,rfl,by kernel_rfl⟩
theorem hasB86:Zaf Try.prog 86:=⟨Try.f86,_,Try.func86,rfl,by kernel_rfl⟩
theorem hasB161:Zaf Try.prog 161:=⟨Try.f161,_,Try.func161,rfl,by kernel_rfl⟩
theorem hasB128:Zaf Try.prog 128:=⟨Try.f128,_,Try.func128,rfl,by kernel_rfl⟩
theorem hasB129:Zaf Try.prog 129:=⟨Try.f129,_,Try.func129,rfl,by kernel_rfl⟩
theorem hasB127:Zaf Try.prog 127:=⟨Try.f127,_,Try.func127,rfl,by kernel_rfl⟩
theorem hasB84:Zaf Try.prog 84:=⟨Try.f84,_,Try.func84,rfl,by kernel_rfl⟩
theorem hasB41:Zaf Try.prog 41:=⟨Try.f41,_,Try.func41,rfl,by kernel_rfl⟩
theorem Zqi:OvOk Try.prog 107 Zjh:=Yfz Yg9 Zbi ⟨rfl,rfl,by kernel_rfl⟩ Try.func107 c107 hasB107
theorem i130:Inl e0 130 Zlh [.cells 2 128,.tmp 3]:=⟨rfl,rfl,by kernel_rfl⟩
theorem i131:Inl e0 131 Zlg [.tmp 4]:=⟨rfl,rfl,by kernel_rfl⟩
theorem Zmz:OvOk Try.prog 86 Zjv:=Ye1 Yg9 Zbi i130 i131 Try.func86 c86 hasB86
theorem Zv1:OvOk Try.prog 161 Zt7:=putO_ok Yg9 Zbi i130 i131 Try.func161 c161 hasB161
theorem Yi1:OvOk Try.prog 127 chkF.O:=chkF_ok Yg9 Zbi ⟨rfl,rfl,by kernel_rfl⟩ Try.func127 c127 hasB127
noncomputable def eA:Env:=⟨tbl,ofT [(161,Zt7),(107,Zjh),(86,Zjv)],ofT [(134,Zfr)]⟩
theorem eA_ok:EnvOk Try.prog eA:=Zci Zrg rfl rfl gOk ⟨Zv1,Zqi,Zmz,trivial⟩ xOk
theorem Zw5:OvOk Try.prog 128 Zo1:=Yhj eA_ok Zbi ⟨rfl,rfl⟩ Try.func128 c128 hasB128
noncomputable def eB:Env:=⟨tbl,ofT [(161,Zt7),(107,Zjh),(86,Zjv),(128,Zo1),(127,chkF.O)],ofT [(134,Zfr)]⟩
theorem eB_ok:EnvOk Try.prog eB:=Zci Zrg rfl rfl gOk ⟨Zv1,Zqi,Zmz,Zw5,Yi1,trivial⟩ xOk
theorem seal_ok:OvOk Try.prog 129 Zxu:=Yfh eB_ok Zbi ⟨rfl,rfl,by kernel_rfl⟩ ⟨rfl,rfl⟩ ⟨rfl,rfl⟩ Try.func129 c129 hasB129
noncomputable def eC:Env:=⟨tbl,ofT [(161,Zt7),(107,Zjh),(86,Zjv),(128,Zo1),(127,chkF.O),(129,Zxu)],ofT [(134,Zfr)]⟩
theorem eC_ok:EnvOk Try.prog eC:=Zci Zrg rfl rfl gOk ⟨Zv1,Zqi,Zmz,Zw5,Yi1,seal_ok,trivial⟩ xOk
theorem wr_ok:OvOk Try.prog 84 wrF.O:=wrF_ok eC_ok Zbi ⟨rfl,rfl⟩ ⟨rfl,rfl⟩ ⟨rfl,rfl⟩ Try.func84 c84 hasB84
noncomputable def eD:Env:=⟨tbl,ofT [(86,Zjv),(84,wrF.O)],ofT [(134,Zfr)]⟩
theorem eD_ok:EnvOk Try.prog eD:=Zci Zrg rfl rfl gOk ⟨Zmz,wr_ok,trivial⟩ xOk
noncomputable def c0_41:Code:=match Try.f41.body with|some (.seq c _)=>c|_=>.skip
noncomputable def c2_41:Code:=match Try.f41.body with|some (.seq _ (.seq _ c))=>c|_=>.skip
noncomputable def Yic:Array Oper:=match Try.f41.body with|some (.seq _ (.seq (.region _ o _) _))=>o|_=>#[]
theorem body_41:Try.f41.body=some (.seq c0_41 (.seq (.region 1 Yic true) c2_41)):=rfl
theorem reg_41:MapReg Try.prog Try.f41.ntmps Yic where
 size:=by kernel_rfl
 back:=by kernel_rfl
 op:=by
  have chk:∀ (o:Oper) (pre:List Nat),(pre.all fun j=>o.after.toList.any fun e=>Region.binds .any e && e.on == j)=true→∀ j ∈ pre,∃ e ∈ o.after.toList,Region.binds .any e=true∧e.on=j:=by
   intro o pre h j hj
   have:=List.all_eq_true.1 h j hj
   obtain ⟨e,he,h⟩:=List.any_eq_true.1 this
   simp only [Bool.and_eq_true,beq_iff_eq] at h
   exact ⟨e,he,h⟩
  intro i d p pre h
  rcases i with _|_|_|_|_|_|_|_|_|i
  ·cases h;exact ⟨_,rfl,by kernel_rfl,by kernel_rfl,by kernel_rfl,chk _ _ (by kernel_rfl)⟩
  ·cases h;exact ⟨_,rfl,by kernel_rfl,by kernel_rfl,by kernel_rfl,chk _ _ (by kernel_rfl)⟩
  ·cases h;exact ⟨_,rfl,by kernel_rfl,by kernel_rfl,by kernel_rfl,chk _ _ (by kernel_rfl)⟩
  ·cases h;exact ⟨_,rfl,by kernel_rfl,by kernel_rfl,by kernel_rfl,chk _ _ (by kernel_rfl)⟩
  ·cases h;exact ⟨_,rfl,by kernel_rfl,by kernel_rfl,by kernel_rfl,chk _ _ (by kernel_rfl)⟩
  ·cases h;exact ⟨_,rfl,by kernel_rfl,by kernel_rfl,by kernel_rfl,chk _ _ (by kernel_rfl)⟩
  ·cases h;exact ⟨_,rfl,by kernel_rfl,by kernel_rfl,by kernel_rfl,chk _ _ (by kernel_rfl)⟩
  ·cases h;exact ⟨_,rfl,by kernel_rfl,by kernel_rfl,by kernel_rfl,chk _ _ (by kernel_rfl)⟩
  ·cases h;exact ⟨_,rfl,by kernel_rfl,by kernel_rfl,by kernel_rfl,chk _ _ (by kernel_rfl)⟩
  ·cases h
theorem read_ok:OvOk Try.prog 41 Zrv:=Yfr eD_ok Zbi ⟨rfl,rfl⟩ ⟨rfl,rfl⟩ Try.func41 body_41 (by kernel_rfl) (by kernel_rfl) reg_41 (by kernel_rfl) hasB41
end Go.AM
