/-
  Functions of the program as the abstract machine reads them, and what is stated of them, checked by the kernel. No conditions.
-/
import Derived.Test.YtkijbbolpegneaaGreatSeatM2
set_option linter.unusedVariables false
set_option linter.unusedSimpArgs false

set_option linter.unusedVariables false
set_option maxRecDepth 1000000
namespace Go.AM
open Go.Proofs Go.AM.X
noncomputable def t14_2 : List (List AV × AV) := [(as0, u0), (as69, u69)]
theorem t14_2_ok : OvOk Tryz.prog 14 (memoO t14_2) := memoO_ok hasM14 ⟨m0, m69, trivial⟩
noncomputable def t5_2 : List (List AV × AV) := [(as1, u1)]
theorem t5_2_ok : OvOk Tryz.prog 5 (memoO t5_2) := memoO_ok hasM5 ⟨m1, trivial⟩
noncomputable def t6_2 : List (List AV × AV) := [(as2, u2)]
theorem t6_2_ok : OvOk Tryz.prog 6 (memoO t6_2) := memoO_ok hasM6 ⟨m2, trivial⟩
noncomputable def t13_2 : List (List AV × AV) := [(as3, u3)]
theorem t13_2_ok : OvOk Tryz.prog 13 (memoO t13_2) := memoO_ok hasM13 ⟨m3, trivial⟩
noncomputable def t12_2 : List (List AV × AV) := [(as4, u4)]
theorem t12_2_ok : OvOk Tryz.prog 12 (memoO t12_2) := memoO_ok hasM12 ⟨m4, trivial⟩
noncomputable def t28_2 : List (List AV × AV) := [(as5, u5), (as9, u9), (as15, u15), (as19, u19), (as24, u24), (as29, u29), (as34, u34), (as39, u39), (as44, u44), (as57, u57), (as60, u60), (as66, u66)]
theorem t28_2_ok : OvOk Tryz.prog 28 (memoO t28_2) := memoO_ok hasM28 ⟨m5, m9, m15, m19, m24, m29, m34, m39, m44, m57, m60, m66, trivial⟩
noncomputable def t23_2 : List (List AV × AV) := [(as6, u6), (as10, u10), (as48, u48), (as52, u52), (as58, u58)]
theorem t23_2_ok : OvOk Tryz.prog 23 (memoO t23_2) := memoO_ok hasM23 ⟨m6, m10, m48, m52, m58, trivial⟩
noncomputable def t81_2 : List (List AV × AV) := [(as7, u7)]
theorem t81_2_ok : OvOk Tryz.prog 81 (memoO t81_2) := memoO_ok hasM81 ⟨m7, trivial⟩
noncomputable def t8_2 : List (List AV × AV) := [(as55, u55), (as56, u56), (as59, u59), (as65, u65), (as73, u73), (as74, u74), (as75, u75)]
theorem t8_2_ok : OvOk Tryz.prog 8 (memoO t8_2) := memoO_ok hasM8 ⟨m55, m56, m59, m65, m73, m74, m75, trivial⟩
noncomputable def t129_2 : List (List AV × AV) := [(as11, u11), (as16, u16), (as20, u20), (as25, u25), (as30, u30), (as35, u35), (as40, u40), (as45, u45), (as62, u62)]
theorem t129_2_ok : OvOk Tryz.prog 129 (memoO t129_2) := memoO_ok hasM129 ⟨m11, m16, m20, m25, m30, m35, m40, m45, m62, trivial⟩
noncomputable def t130_2 : List (List AV × AV) := [(as12, u12), (as17, u17), (as21, u21), (as26, u26), (as31, u31), (as36, u36), (as41, u41), (as46, u46), (as63, u63)]
theorem t130_2_ok : OvOk Tryz.prog 130 (memoO t130_2) := memoO_ok hasM130 ⟨m12, m17, m21, m26, m31, m36, m41, m46, m63, trivial⟩
noncomputable def t131_2 : List (List AV × AV) := [(as13, u13), (as18, u18), (as22, u22), (as27, u27), (as32, u32), (as37, u37), (as42, u42)]
theorem t131_2_ok : OvOk Tryz.prog 131 (memoO t131_2) := memoO_ok hasM131 ⟨m13, m18, m22, m27, m32, m37, m42, trivial⟩
noncomputable def t133_2 : List (List AV × AV) := [(as14, u14), (as23, u23), (as28, u28), (as33, u33), (as38, u38), (as43, u43), (as54, u54)]
theorem t133_2_ok : OvOk Tryz.prog 133 (memoO t133_2) := memoO_ok hasM133 ⟨m14, m23, m28, m33, m38, m43, m54, trivial⟩
noncomputable def t134_2 : List (List AV × AV) := [(as49, u49)]
theorem t134_2_ok : OvOk Tryz.prog 134 (memoO t134_2) := memoO_ok hasM134 ⟨m49, trivial⟩
noncomputable def t135_2 : List (List AV × AV) := [(as50, u50)]
theorem t135_2_ok : OvOk Tryz.prog 135 (memoO t135_2) := memoO_ok hasM135 ⟨m50, trivial⟩
noncomputable def t111_2 : List (List AV × AV) := [(as53, u53)]
theorem t111_2_ok : OvOk Tryz.prog 111 (memoO t111_2) := memoO_ok hasM111 ⟨m53, trivial⟩
noncomputable def t7_2 : List (List AV × AV) := [(as61, u61), (as67, u67), (as68, u68), (as70, u70), (as71, u71)]
theorem t7_2_ok : OvOk Tryz.prog 7 (memoO t7_2) := memoO_ok hasM7 ⟨m61, m67, m68, m70, m71, trivial⟩
noncomputable def em2 : Env := ⟨tbl, ofT [(153, overO), (246, insO), (287, delO), (235, readO), (14, memoO t14_2), (5, memoO t5_2), (6, memoO t6_2), (13, memoO t13_2), (12, memoO t12_2), (28, memoO t28_2), (23, memoO t23_2), (81, memoO t81_2), (8, memoO t8_2), (129, memoO t129_2), (130, memoO t130_2), (131, memoO t131_2), (133, memoO t133_2), (134, memoO t134_2), (135, memoO t135_2), (111, memoO t111_2), (7, memoO t7_2)], ofT [(280, ovlO)]⟩
theorem em2_ok : EnvOk Tryz.prog em2 := envOk tbl_eq rfl rfl gOk ⟨over_ok, ins_ok, del_ok, read_ok, t14_2_ok, t5_2_ok, t6_2_ok, t13_2_ok, t12_2_ok, t28_2_ok, t23_2_ok, t81_2_ok, t8_2_ok, t129_2_ok, t130_2_ok, t131_2_ok, t133_2_ok, t134_2_ok, t135_2_ok, t111_2_ok, t7_2_ok, trivial⟩ xOk
end Go.AM

set_option linter.unusedVariables false
set_option maxRecDepth 1000000
namespace Go.AM
open Go.Proofs Go.AM.X
theorem m8 : ∀ s, C Tryz.prog 8 as8 s (fun v s' => v = u8 ∧ s' = s) := memo_C em2_ok mixed (n := 100000) (k := 24) (by kernel_rfl) (by kernel_rfl) (by kernel_rfl : memoB em2 100000 24 8 as8 u8 = true)
theorem m47 : ∀ s, C Tryz.prog 8 as47 s (fun v s' => v = u47 ∧ s' = s) := memo_C em2_ok mixed (n := 100000) (k := 24) (by kernel_rfl) (by kernel_rfl) (by kernel_rfl : memoB em2 100000 24 8 as47 u47 = true)
theorem m51 : ∀ s, C Tryz.prog 8 as51 s (fun v s' => v = u51 ∧ s' = s) := memo_C em2_ok mixed (n := 100000) (k := 24) (by kernel_rfl) (by kernel_rfl) (by kernel_rfl : memoB em2 100000 24 8 as51 u51 = true)
theorem m64 : ∀ s, C Tryz.prog 8 as64 s (fun v s' => v = u64 ∧ s' = s) := memo_C em2_ok mixed (n := 100000) (k := 24) (by kernel_rfl) (by kernel_rfl) (by kernel_rfl : memoB em2 100000 24 8 as64 u64 = true)
theorem m72 : ∀ s, C Tryz.prog 8 as72 s (fun v s' => v = u72 ∧ s' = s) := memo_C em2_ok mixed (n := 100000) (k := 24) (by kernel_rfl) (by kernel_rfl) (by kernel_rfl : memoB em2 100000 24 8 as72 u72 = true)
end Go.AM

set_option linter.unusedVariables false
set_option maxRecDepth 1000000
namespace Go.AM
open Go.Proofs Go.AM.X
noncomputable def t14_3 : List (List AV × AV) := [(as0, u0), (as69, u69)]
theorem t14_3_ok : OvOk Tryz.prog 14 (memoO t14_3) := memoO_ok hasM14 ⟨m0, m69, trivial⟩
noncomputable def t5_3 : List (List AV × AV) := [(as1, u1)]
theorem t5_3_ok : OvOk Tryz.prog 5 (memoO t5_3) := memoO_ok hasM5 ⟨m1, trivial⟩
noncomputable def t6_3 : List (List AV × AV) := [(as2, u2)]
theorem t6_3_ok : OvOk Tryz.prog 6 (memoO t6_3) := memoO_ok hasM6 ⟨m2, trivial⟩
noncomputable def t13_3 : List (List AV × AV) := [(as3, u3)]
theorem t13_3_ok : OvOk Tryz.prog 13 (memoO t13_3) := memoO_ok hasM13 ⟨m3, trivial⟩
noncomputable def t12_3 : List (List AV × AV) := [(as4, u4)]
theorem t12_3_ok : OvOk Tryz.prog 12 (memoO t12_3) := memoO_ok hasM12 ⟨m4, trivial⟩
noncomputable def t28_3 : List (List AV × AV) := [(as5, u5), (as9, u9), (as15, u15), (as19, u19), (as24, u24), (as29, u29), (as34, u34), (as39, u39), (as44, u44), (as57, u57), (as60, u60), (as66, u66)]
theorem t28_3_ok : OvOk Tryz.prog 28 (memoO t28_3) := memoO_ok hasM28 ⟨m5, m9, m15, m19, m24, m29, m34, m39, m44, m57, m60, m66, trivial⟩
noncomputable def t23_3 : List (List AV × AV) := [(as6, u6), (as10, u10), (as48, u48), (as52, u52), (as58, u58)]
theorem t23_3_ok : OvOk Tryz.prog 23 (memoO t23_3) := memoO_ok hasM23 ⟨m6, m10, m48, m52, m58, trivial⟩
noncomputable def t81_3 : List (List AV × AV) := [(as7, u7)]
theorem t81_3_ok : OvOk Tryz.prog 81 (memoO t81_3) := memoO_ok hasM81 ⟨m7, trivial⟩
noncomputable def t8_3 : List (List AV × AV) := [(as8, u8), (as47, u47), (as51, u51), (as55, u55), (as56, u56), (as59, u59), (as64, u64), (as65, u65), (as72, u72), (as73, u73), (as74, u74), (as75, u75)]
theorem t8_3_ok : OvOk Tryz.prog 8 (memoO t8_3) := memoO_ok hasM8 ⟨m8, m47, m51, m55, m56, m59, m64, m65, m72, m73, m74, m75, trivial⟩
noncomputable def t129_3 : List (List AV × AV) := [(as11, u11), (as16, u16), (as20, u20), (as25, u25), (as30, u30), (as35, u35), (as40, u40), (as45, u45), (as62, u62)]
theorem t129_3_ok : OvOk Tryz.prog 129 (memoO t129_3) := memoO_ok hasM129 ⟨m11, m16, m20, m25, m30, m35, m40, m45, m62, trivial⟩
noncomputable def t130_3 : List (List AV × AV) := [(as12, u12), (as17, u17), (as21, u21), (as26, u26), (as31, u31), (as36, u36), (as41, u41), (as46, u46), (as63, u63)]
theorem t130_3_ok : OvOk Tryz.prog 130 (memoO t130_3) := memoO_ok hasM130 ⟨m12, m17, m21, m26, m31, m36, m41, m46, m63, trivial⟩
noncomputable def t131_3 : List (List AV × AV) := [(as13, u13), (as18, u18), (as22, u22), (as27, u27), (as32, u32), (as37, u37), (as42, u42)]
theorem t131_3_ok : OvOk Tryz.prog 131 (memoO t131_3) := memoO_ok hasM131 ⟨m13, m18, m22, m27, m32, m37, m42, trivial⟩
noncomputable def t133_3 : List (List AV × AV) := [(as14, u14), (as23, u23), (as28, u28), (as33, u33), (as38, u38), (as43, u43), (as54, u54)]
theorem t133_3_ok : OvOk Tryz.prog 133 (memoO t133_3) := memoO_ok hasM133 ⟨m14, m23, m28, m33, m38, m43, m54, trivial⟩
noncomputable def t134_3 : List (List AV × AV) := [(as49, u49)]
theorem t134_3_ok : OvOk Tryz.prog 134 (memoO t134_3) := memoO_ok hasM134 ⟨m49, trivial⟩
noncomputable def t135_3 : List (List AV × AV) := [(as50, u50)]
theorem t135_3_ok : OvOk Tryz.prog 135 (memoO t135_3) := memoO_ok hasM135 ⟨m50, trivial⟩
noncomputable def t111_3 : List (List AV × AV) := [(as53, u53)]
theorem t111_3_ok : OvOk Tryz.prog 111 (memoO t111_3) := memoO_ok hasM111 ⟨m53, trivial⟩
noncomputable def t7_3 : List (List AV × AV) := [(as61, u61), (as67, u67), (as68, u68), (as70, u70), (as71, u71)]
theorem t7_3_ok : OvOk Tryz.prog 7 (memoO t7_3) := memoO_ok hasM7 ⟨m61, m67, m68, m70, m71, trivial⟩
noncomputable def em3 : Env := ⟨tbl, ofT [(153, overO), (246, insO), (287, delO), (235, readO), (14, memoO t14_3), (5, memoO t5_3), (6, memoO t6_3), (13, memoO t13_3), (12, memoO t12_3), (28, memoO t28_3), (23, memoO t23_3), (81, memoO t81_3), (8, memoO t8_3), (129, memoO t129_3), (130, memoO t130_3), (131, memoO t131_3), (133, memoO t133_3), (134, memoO t134_3), (135, memoO t135_3), (111, memoO t111_3), (7, memoO t7_3)], ofT [(280, ovlO)]⟩
theorem em3_ok : EnvOk Tryz.prog em3 := envOk tbl_eq rfl rfl gOk ⟨over_ok, ins_ok, del_ok, read_ok, t14_3_ok, t5_3_ok, t6_3_ok, t13_3_ok, t12_3_ok, t28_3_ok, t23_3_ok, t81_3_ok, t8_3_ok, t129_3_ok, t130_3_ok, t131_3_ok, t133_3_ok, t134_3_ok, t135_3_ok, t111_3_ok, t7_3_ok, trivial⟩ xOk
theorem runPlay : isTrue (callA em3 (exec em3 100000) 3 [] St0) = true := by kernel_rfl
end Go.AM
