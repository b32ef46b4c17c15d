/-
  Functions of the program as the abstract machine reads them, and what is stated of them, checked by the kernel. No conditions.
-/
import Derived.Test.YtkijbbolpegneaaGreatSeatM1
set_option linter.unusedVariables false
set_option linter.unusedSimpArgs false

set_option linter.unusedVariables false
set_option maxRecDepth 1000000
namespace Go.AM
open Go.Proofs Go.AM.X
noncomputable def t14_1 : List (List AV × AV) := [(as0, u0), (as69, u69)]
theorem t14_1_ok : OvOk Tryz.prog 14 (memoO t14_1) := memoO_ok hasM14 ⟨m0, m69, trivial⟩
noncomputable def t6_1 : List (List AV × AV) := [(as2, u2)]
theorem t6_1_ok : OvOk Tryz.prog 6 (memoO t6_1) := memoO_ok hasM6 ⟨m2, trivial⟩
noncomputable def t13_1 : List (List AV × AV) := [(as3, u3)]
theorem t13_1_ok : OvOk Tryz.prog 13 (memoO t13_1) := memoO_ok hasM13 ⟨m3, trivial⟩
noncomputable def t12_1 : List (List AV × AV) := [(as4, u4)]
theorem t12_1_ok : OvOk Tryz.prog 12 (memoO t12_1) := memoO_ok hasM12 ⟨m4, trivial⟩
noncomputable def t28_1 : List (List AV × AV) := [(as5, u5), (as9, u9), (as15, u15), (as19, u19), (as24, u24), (as29, u29), (as34, u34), (as39, u39), (as44, u44), (as57, u57), (as60, u60), (as66, u66)]
theorem t28_1_ok : OvOk Tryz.prog 28 (memoO t28_1) := memoO_ok hasM28 ⟨m5, m9, m15, m19, m24, m29, m34, m39, m44, m57, m60, m66, trivial⟩
noncomputable def t23_1 : List (List AV × AV) := [(as6, u6), (as10, u10), (as48, u48), (as52, u52), (as58, u58)]
theorem t23_1_ok : OvOk Tryz.prog 23 (memoO t23_1) := memoO_ok hasM23 ⟨m6, m10, m48, m52, m58, trivial⟩
noncomputable def t8_1 : List (List AV × AV) := [(as56, u56), (as59, u59), (as65, u65)]
theorem t8_1_ok : OvOk Tryz.prog 8 (memoO t8_1) := memoO_ok hasM8 ⟨m56, m59, m65, trivial⟩
noncomputable def t133_1 : List (List AV × AV) := [(as14, u14), (as23, u23), (as28, u28), (as33, u33), (as38, u38), (as43, u43), (as54, u54)]
theorem t133_1_ok : OvOk Tryz.prog 133 (memoO t133_1) := memoO_ok hasM133 ⟨m14, m23, m28, m33, m38, m43, m54, trivial⟩
noncomputable def t134_1 : List (List AV × AV) := [(as49, u49)]
theorem t134_1_ok : OvOk Tryz.prog 134 (memoO t134_1) := memoO_ok hasM134 ⟨m49, trivial⟩
noncomputable def t111_1 : List (List AV × AV) := [(as53, u53)]
theorem t111_1_ok : OvOk Tryz.prog 111 (memoO t111_1) := memoO_ok hasM111 ⟨m53, trivial⟩
noncomputable def em1 : Env := ⟨tbl, ofT [(153, overO), (246, insO), (287, delO), (235, readO), (14, memoO t14_1), (6, memoO t6_1), (13, memoO t13_1), (12, memoO t12_1), (28, memoO t28_1), (23, memoO t23_1), (8, memoO t8_1), (133, memoO t133_1), (134, memoO t134_1), (111, memoO t111_1)], ofT [(280, ovlO)]⟩
theorem em1_ok : EnvOk Tryz.prog em1 := envOk tbl_eq rfl rfl gOk ⟨over_ok, ins_ok, del_ok, read_ok, t14_1_ok, t6_1_ok, t13_1_ok, t12_1_ok, t28_1_ok, t23_1_ok, t8_1_ok, t133_1_ok, t134_1_ok, t111_1_ok, trivial⟩ xOk
end Go.AM

set_option linter.unusedVariables false
set_option maxRecDepth 1000000
namespace Go.AM
open Go.Proofs Go.AM.X
theorem m22 : ∀ s, C Tryz.prog 131 as22 s (fun v s' => v = u22 ∧ s' = s) := memo_C em1_ok mixed (n := 100000) (k := 24) (by kernel_rfl) (by kernel_rfl) (by kernel_rfl : memoB em1 100000 24 131 as22 u22 = true)
theorem m41 : ∀ s, C Tryz.prog 130 as41 s (fun v s' => v = u41 ∧ s' = s) := memo_C em1_ok mixed (n := 100000) (k := 24) (by kernel_rfl) (by kernel_rfl) (by kernel_rfl : memoB em1 100000 24 130 as41 u41 = true)
theorem m50 : ∀ s, C Tryz.prog 135 as50 s (fun v s' => v = u50 ∧ s' = s) := memo_C em1_ok mixed (n := 100000) (k := 24) (by kernel_rfl) (by kernel_rfl) (by kernel_rfl : memoB em1 100000 24 135 as50 u50 = true)
theorem m75 : ∀ s, C Tryz.prog 8 as75 s (fun v s' => v = u75 ∧ s' = s) := memo_C em1_ok mixed (n := 100000) (k := 24) (by kernel_rfl) (by kernel_rfl) (by kernel_rfl : memoB em1 100000 24 8 as75 u75 = true)
end Go.AM

set_option linter.unusedVariables false
set_option maxRecDepth 1000000
namespace Go.AM
open Go.Proofs Go.AM.X
theorem m7 : ∀ s, C Tryz.prog 81 as7 s (fun v s' => v = u7 ∧ s' = s) := memo_C em1_ok mixed (n := 100000) (k := 24) (by kernel_rfl) (by kernel_rfl) (by kernel_rfl : memoB em1 100000 24 81 as7 u7 = true)
theorem m17 : ∀ s, C Tryz.prog 130 as17 s (fun v s' => v = u17 ∧ s' = s) := memo_C em1_ok mixed (n := 100000) (k := 24) (by kernel_rfl) (by kernel_rfl) (by kernel_rfl : memoB em1 100000 24 130 as17 u17 = true)
theorem m18 : ∀ s, C Tryz.prog 131 as18 s (fun v s' => v = u18 ∧ s' = s) := memo_C em1_ok mixed (n := 100000) (k := 24) (by kernel_rfl) (by kernel_rfl) (by kernel_rfl : memoB em1 100000 24 131 as18 u18 = true)
theorem m35 : ∀ s, C Tryz.prog 129 as35 s (fun v s' => v = u35 ∧ s' = s) := memo_C em1_ok mixed (n := 100000) (k := 24) (by kernel_rfl) (by kernel_rfl) (by kernel_rfl : memoB em1 100000 24 129 as35 u35 = true)
theorem m46 : ∀ s, C Tryz.prog 130 as46 s (fun v s' => v = u46 ∧ s' = s) := memo_C em1_ok mixed (n := 100000) (k := 24) (by kernel_rfl) (by kernel_rfl) (by kernel_rfl : memoB em1 100000 24 130 as46 u46 = true)
theorem m62 : ∀ s, C Tryz.prog 129 as62 s (fun v s' => v = u62 ∧ s' = s) := memo_C em1_ok mixed (n := 100000) (k := 24) (by kernel_rfl) (by kernel_rfl) (by kernel_rfl : memoB em1 100000 24 129 as62 u62 = true)
theorem m70 : ∀ s, C Tryz.prog 7 as70 s (fun v s' => v = u70 ∧ s' = s) := memo_C em1_ok mixed (n := 100000) (k := 24) (by kernel_rfl) (by kernel_rfl) (by kernel_rfl : memoB em1 100000 24 7 as70 u70 = true)
end Go.AM

set_option linter.unusedVariables false
set_option maxRecDepth 1000000
namespace Go.AM
open Go.Proofs Go.AM.X
theorem m16 : ∀ s, C Tryz.prog 129 as16 s (fun v s' => v = u16 ∧ s' = s) := memo_C em1_ok mixed (n := 100000) (k := 24) (by kernel_rfl) (by kernel_rfl) (by kernel_rfl : memoB em1 100000 24 129 as16 u16 = true)
theorem m27 : ∀ s, C Tryz.prog 131 as27 s (fun v s' => v = u27 ∧ s' = s) := memo_C em1_ok mixed (n := 100000) (k := 24) (by kernel_rfl) (by kernel_rfl) (by kernel_rfl : memoB em1 100000 24 131 as27 u27 = true)
theorem m30 : ∀ s, C Tryz.prog 129 as30 s (fun v s' => v = u30 ∧ s' = s) := memo_C em1_ok mixed (n := 100000) (k := 24) (by kernel_rfl) (by kernel_rfl) (by kernel_rfl : memoB em1 100000 24 129 as30 u30 = true)
theorem m36 : ∀ s, C Tryz.prog 130 as36 s (fun v s' => v = u36 ∧ s' = s) := memo_C em1_ok mixed (n := 100000) (k := 24) (by kernel_rfl) (by kernel_rfl) (by kernel_rfl : memoB em1 100000 24 130 as36 u36 = true)
theorem m68 : ∀ s, C Tryz.prog 7 as68 s (fun v s' => v = u68 ∧ s' = s) := memo_C em1_ok mixed (n := 100000) (k := 24) (by kernel_rfl) (by kernel_rfl) (by kernel_rfl : memoB em1 100000 24 7 as68 u68 = true)
theorem m74 : ∀ s, C Tryz.prog 8 as74 s (fun v s' => v = u74 ∧ s' = s) := memo_C em1_ok mixed (n := 100000) (k := 24) (by kernel_rfl) (by kernel_rfl) (by kernel_rfl : memoB em1 100000 24 8 as74 u74 = true)
end Go.AM

set_option linter.unusedVariables false
set_option maxRecDepth 1000000
namespace Go.AM
open Go.Proofs Go.AM.X
theorem m20 : ∀ s, C Tryz.prog 129 as20 s (fun v s' => v = u20 ∧ s' = s) := memo_C em1_ok mixed (n := 100000) (k := 24) (by kernel_rfl) (by kernel_rfl) (by kernel_rfl : memoB em1 100000 24 129 as20 u20 = true)
theorem m25 : ∀ s, C Tryz.prog 129 as25 s (fun v s' => v = u25 ∧ s' = s) := memo_C em1_ok mixed (n := 100000) (k := 24) (by kernel_rfl) (by kernel_rfl) (by kernel_rfl : memoB em1 100000 24 129 as25 u25 = true)
theorem m31 : ∀ s, C Tryz.prog 130 as31 s (fun v s' => v = u31 ∧ s' = s) := memo_C em1_ok mixed (n := 100000) (k := 24) (by kernel_rfl) (by kernel_rfl) (by kernel_rfl : memoB em1 100000 24 130 as31 u31 = true)
theorem m40 : ∀ s, C Tryz.prog 129 as40 s (fun v s' => v = u40 ∧ s' = s) := memo_C em1_ok mixed (n := 100000) (k := 24) (by kernel_rfl) (by kernel_rfl) (by kernel_rfl : memoB em1 100000 24 129 as40 u40 = true)
theorem m67 : ∀ s, C Tryz.prog 7 as67 s (fun v s' => v = u67 ∧ s' = s) := memo_C em1_ok mixed (n := 100000) (k := 24) (by kernel_rfl) (by kernel_rfl) (by kernel_rfl : memoB em1 100000 24 7 as67 u67 = true)
theorem m73 : ∀ s, C Tryz.prog 8 as73 s (fun v s' => v = u73 ∧ s' = s) := memo_C em1_ok mixed (n := 100000) (k := 24) (by kernel_rfl) (by kernel_rfl) (by kernel_rfl : memoB em1 100000 24 8 as73 u73 = true)
end Go.AM

set_option linter.unusedVariables false
set_option maxRecDepth 1000000
namespace Go.AM
open Go.Proofs Go.AM.X
theorem m1 : ∀ s, C Tryz.prog 5 as1 s (fun v s' => v = u1 ∧ s' = s) := memo_C em1_ok mixed (n := 100000) (k := 24) (by kernel_rfl) (by kernel_rfl) (by kernel_rfl : memoB em1 100000 24 5 as1 u1 = true)
theorem m26 : ∀ s, C Tryz.prog 130 as26 s (fun v s' => v = u26 ∧ s' = s) := memo_C em1_ok mixed (n := 100000) (k := 24) (by kernel_rfl) (by kernel_rfl) (by kernel_rfl : memoB em1 100000 24 130 as26 u26 = true)
theorem m32 : ∀ s, C Tryz.prog 131 as32 s (fun v s' => v = u32 ∧ s' = s) := memo_C em1_ok mixed (n := 100000) (k := 24) (by kernel_rfl) (by kernel_rfl) (by kernel_rfl : memoB em1 100000 24 131 as32 u32 = true)
theorem m42 : ∀ s, C Tryz.prog 131 as42 s (fun v s' => v = u42 ∧ s' = s) := memo_C em1_ok mixed (n := 100000) (k := 24) (by kernel_rfl) (by kernel_rfl) (by kernel_rfl : memoB em1 100000 24 131 as42 u42 = true)
theorem m55 : ∀ s, C Tryz.prog 8 as55 s (fun v s' => v = u55 ∧ s' = s) := memo_C em1_ok mixed (n := 100000) (k := 24) (by kernel_rfl) (by kernel_rfl) (by kernel_rfl : memoB em1 100000 24 8 as55 u55 = true)
theorem m61 : ∀ s, C Tryz.prog 7 as61 s (fun v s' => v = u61 ∧ s' = s) := memo_C em1_ok mixed (n := 100000) (k := 24) (by kernel_rfl) (by kernel_rfl) (by kernel_rfl : memoB em1 100000 24 7 as61 u61 = true)
theorem m71 : ∀ s, C Tryz.prog 7 as71 s (fun v s' => v = u71 ∧ s' = s) := memo_C em1_ok mixed (n := 100000) (k := 24) (by kernel_rfl) (by kernel_rfl) (by kernel_rfl : memoB em1 100000 24 7 as71 u71 = true)
end Go.AM

set_option linter.unusedVariables false
set_option maxRecDepth 1000000
namespace Go.AM
open Go.Proofs Go.AM.X
theorem m11 : ∀ s, C Tryz.prog 129 as11 s (fun v s' => v = u11 ∧ s' = s) := memo_C em1_ok mixed (n := 100000) (k := 24) (by kernel_rfl) (by kernel_rfl) (by kernel_rfl : memoB em1 100000 24 129 as11 u11 = true)
theorem m12 : ∀ s, C Tryz.prog 130 as12 s (fun v s' => v = u12 ∧ s' = s) := memo_C em1_ok mixed (n := 100000) (k := 24) (by kernel_rfl) (by kernel_rfl) (by kernel_rfl : memoB em1 100000 24 130 as12 u12 = true)
theorem m13 : ∀ s, C Tryz.prog 131 as13 s (fun v s' => v = u13 ∧ s' = s) := memo_C em1_ok mixed (n := 100000) (k := 24) (by kernel_rfl) (by kernel_rfl) (by kernel_rfl : memoB em1 100000 24 131 as13 u13 = true)
theorem m21 : ∀ s, C Tryz.prog 130 as21 s (fun v s' => v = u21 ∧ s' = s) := memo_C em1_ok mixed (n := 100000) (k := 24) (by kernel_rfl) (by kernel_rfl) (by kernel_rfl : memoB em1 100000 24 130 as21 u21 = true)
theorem m37 : ∀ s, C Tryz.prog 131 as37 s (fun v s' => v = u37 ∧ s' = s) := memo_C em1_ok mixed (n := 100000) (k := 24) (by kernel_rfl) (by kernel_rfl) (by kernel_rfl : memoB em1 100000 24 131 as37 u37 = true)
theorem m45 : ∀ s, C Tryz.prog 129 as45 s (fun v s' => v = u45 ∧ s' = s) := memo_C em1_ok mixed (n := 100000) (k := 24) (by kernel_rfl) (by kernel_rfl) (by kernel_rfl : memoB em1 100000 24 129 as45 u45 = true)
theorem m63 : ∀ s, C Tryz.prog 130 as63 s (fun v s' => v = u63 ∧ s' = s) := memo_C em1_ok mixed (n := 100000) (k := 24) (by kernel_rfl) (by kernel_rfl) (by kernel_rfl : memoB em1 100000 24 130 as63 u63 = true)
end Go.AM
