/-
 Functions of the program as the abstract machine reads them, and what is stated of them, checked by the kernel. No conditions.
-/
import Derived.WalkKit
import Derived.Test.YtnnbibnobmegpaaGreatXN
import Derived.Test.YtnnbibnobmegpaaGreatStA
import Derived.Test.YtnnbibnobmegpaaGreatStB
import Derived.Test.YtnnbibnobmegpaaGreatStE
set_option linter.unusedVariables false
set_option linter.unusedSimpArgs false
set_option linter.unnecessarySimpa false
set_option maxRecDepth 1000000
namespace Go.AM
open Go.Proofs Go.AM.X
end Go.AM
namespace Go.AM
open Go.Proofs Go.AM.X
theorem KK:JY=Al gl:=by kernel_rfl
theorem Kb:All (GOk P) gl:=by
 exact ⟨g4.g,g9.g,g10.g,g14.g,g16.g,g17.g,g18.g,g19.g,g20.g,g22.g,g24.g,g25.g,g26.g,g27.g,g28.g,g29.g,g30.g,g31.g,g32.g,g33.g,g34.g,g40.g,g43.g,g44.g,g45.g,g47.g,g48.g,g49.g,g50.g,g51.g,g56.g,g57.g,g58.g,g59.g,g60.g,g61.g,g62.g,g63.g,g64.g,g65.g,g66.g,g67.g,g68.g,g69.g,g70.g,g71.g,g73.g,g74.g,g78.g,g79.g,g80.g,g81.g,g82.g,g84.g,g85.g,g86.g,g89.g,g90.g,g91.g,g92.g,g93.g,g94.g,g95.g,g97.g,g98.g,g99.g,g101.g,g102.g,g103.g,g104.g,g107.g,g109.g,g110.g,g111.g,g112.g,g113.g,g114.g,g115.g,trivial⟩
theorem Bn:All (XOk P) [(106,AW)]:=
 ⟨Zhz (tS:=25) (tR:=4) (el:=41) (sz:=1) Tryz.func106 (by kernel_rfl) (by kernel_rfl) (by kernel_rfl) (by kernel_rfl) Tryz.underlying25 (by kernel_rfl),trivial⟩
noncomputable def e0:Env:=⟨JY,.lf,Al [(106,AW)]⟩
theorem MF:EM P e0:=⟨Bm (ol:=[]) KK rfl rfl Kb trivial Bn,Bl⟩
theorem Xd:OvOk P 86 If:=Zie (fn:=Tryz.f86) MF rfl rfl (by kernel_rfl) g86.b (by kernel_rfl)
theorem Mh:OvOk P 95 DO:=Zez MF .k
theorem Yz:Inl e0 90 KG [.cells 2 128,.tmp 3]:=.k
theorem Yy:Inl e0 91 KF [.tmp 4]:=.k
theorem Ma:OvOk P 62 EZ:=Zea MF Yz Yy
theorem OP:OvOk P 67 EH:=Zhr MF Yz Yy
theorem Xo:OvOk P 27 chkF.O:=Zkz MF .k
noncomputable def eA:Env:=⟨JY,Al [(67,EH),(95,DO),(62,EZ)],Al [(106,AW)]⟩
theorem Zn2:EM P eA:=⟨Bm KK rfl rfl Kb ⟨OP,Mh,Ma,trivial⟩ Bn,Bl⟩
theorem Vj:OvOk P 28 Ht:=Zgo Zn2 .k
noncomputable def eB:Env:=⟨JY,Al [(67,EH),(95,DO),(62,EZ),(28,Ht),(27,chkF.O)],Al [(106,AW)]⟩
theorem Zn1:EM P eB:=⟨Bm KK rfl rfl Kb ⟨OP,Mh,Ma,Vj,Xo,trivial⟩ Bn,Bl⟩
theorem Zhk:OvOk P 29 KZ:=Zem Zn1 .k .k .k
noncomputable def eC:Env:=⟨JY,Al [(67,EH),(95,DO),(62,EZ),(28,Ht),(27,chkF.O),(29,KZ)],Al [(106,AW)]⟩
theorem Zn0:EM P eC:=⟨Bm KK rfl rfl Kb ⟨OP,Mh,Ma,Vj,Xo,Zhk,trivial⟩ Bn,Bl⟩
theorem X2:OvOk P 9 wrF.O:=Zlk Zn0 .k .k .k
noncomputable def eD:Env:=⟨JY,Al [(62,EZ),(9,wrF.O)],Al [(106,AW)]⟩
theorem Znz:EM P eD:=⟨Bm KK rfl rfl Kb ⟨Ma,X2,trivial⟩ Bn,Bl⟩
noncomputable def Zn7:Code:=match Tryz.f79.body with|some (.seq c _)=>c|_=>.skip
noncomputable def Zn6:Code:=match Tryz.f79.body with|some (.seq _ (.seq _ c))=>c|_=>.skip
noncomputable def WT:Array Oper:=match Tryz.f79.body with|some (.seq _ (.seq (.region _ o _) _))=>o|_=>#[]
theorem Zk2:Tryz.f79.body=some (.seq Zn7 (.seq (.region 1 WT true) Zn6)):=rfl
theorem Zlt:MapReg Tryz.f79.ntmps WT where
 size:=by kernel_rfl
 back:=by kernel_rfl
 op:=by
  have chk:∀ (o:Oper) (pre:List Nat),(pre.all fun j=>o.after.toList.any fun e=>Region.binds .any e && e.on == j)=true→∀ j ∈ pre,∃ e ∈ o.after.toList,Region.binds .any e=true∧e.on=j:=by
   intro o pre h j hj
   have:=Zqf.1 h j hj
   obtain ⟨e,he,h⟩:=List.any_eq_true.1 this
   simp only [Zoh,beq_iff_eq] at h
   exact ⟨e,he,h⟩
  intro i d p pre h
  rcases i with _|_|_|_|_|_|_|_|_|i
  ·cases h;exact ⟨_,rfl,by kernel_rfl,by kernel_rfl,by kernel_rfl,chk _ _ (by kernel_rfl)⟩
  ·cases h;exact ⟨_,rfl,by kernel_rfl,by kernel_rfl,by kernel_rfl,chk _ _ (by kernel_rfl)⟩
  ·cases h;exact ⟨_,rfl,by kernel_rfl,by kernel_rfl,by kernel_rfl,chk _ _ (by kernel_rfl)⟩
  ·cases h;exact ⟨_,rfl,by kernel_rfl,by kernel_rfl,by kernel_rfl,chk _ _ (by kernel_rfl)⟩
  ·cases h;exact ⟨_,rfl,by kernel_rfl,by kernel_rfl,by kernel_rfl,chk _ _ (by kernel_rfl)⟩
  ·cases h;exact ⟨_,rfl,by kernel_rfl,by kernel_rfl,by kernel_rfl,chk _ _ (by kernel_rfl)⟩
  ·cases h;exact ⟨_,rfl,by kernel_rfl,by kernel_rfl,by kernel_rfl,chk _ _ (by kernel_rfl)⟩
  ·cases h;exact ⟨_,rfl,by kernel_rfl,by kernel_rfl,by kernel_rfl,chk _ _ (by kernel_rfl)⟩
  ·cases h;exact ⟨_,rfl,by kernel_rfl,by kernel_rfl,by kernel_rfl,chk _ _ (by kernel_rfl)⟩
  ·cases h
theorem VA:OvOk P 79 HS:=Zev Znz .k .k Tryz.func79 Zk2 (by kernel_rfl) (by kernel_rfl) Zlt (by kernel_rfl) g79.b
noncomputable def e1:Env:=⟨JY,Al [(95,DO),(86,If),(79,HS)],Al [(106,AW)]⟩
theorem Zn3:EM P e1:=⟨Bm KK rfl rfl Kb ⟨Mh,Xd,VA,trivial⟩ Bn,Bl⟩
end Go.AM
