/-
  Functions of the program as the abstract machine reads them, and what is stated of them, checked by the kernel. No conditions.
-/
import Derived.Test.YtkijbbolpegneaaGreatAM5
import Derived.Test.YtkijbbolpegneaaGreatSeatEnv
set_option linter.unusedVariables false
set_option linter.unusedSimpArgs false

set_option linter.unusedVariables false
set_option maxRecDepth 1000000
namespace Go.AM
noncomputable def b (n : Nat) : AV := .int .u8 (.ofNat n)
noncomputable def i (n : Nat) : AV := .int .i64 (.ofNat n)
noncomputable def w (n : Nat) : AV := .int .u32 (.ofNat n)
noncomputable def rp (n : Nat) (v : AV) : List AV := Nat.rec [] (fun _ ih => v :: ih) n
noncomputable def v0 : AV := .fz 128 none (rp 128 (b 5))
noncomputable def as0 : List AV := [b 5]
noncomputable def u0 : AV := v0
noncomputable def v1 : AV := .agg [b 1, b 2, i 0, i 1, v0, i 0, i 0, .bool false, .nils]
noncomputable def as1 : List AV := []
noncomputable def u1 : AV := v1
noncomputable def v2 : AV := .agg [b 3, b 0, i 0, i 0, .nils, i 0, i 9, .bool false, .nils]
noncomputable def as2 : List AV := []
noncomputable def u2 : AV := v2
noncomputable def v3 : AV := .agg [w 0, i 3, i 1, i 2, i 12, i 2]
noncomputable def as3 : List AV := []
noncomputable def u3 : AV := v3
noncomputable def v4 : AV := .fz 128 none (appL [b 76, b 0, b 0, b 0, b 0, b 2, b 0, b 0, b 0, b 3, b 1, b 2, b 12, b 0, b 255, b 0, b 1] (appL (rp 107 (b 0)) ([b 64, b 139, b 188, b 179])))
noncomputable def v5 : AV := .fz 3 none [v4, .nils, .nils]
noncomputable def v6 : AV := .fz 3 none [(.fz 128 none (appL [b 76, b 0, b 0, b 0, b 0, b 2, b 0, b 0, b 0, b 3, b 1, b 2, b 12, b 1, b 255, b 0, b 1] (appL (rp 107 (b 0)) ([b 10, b 63, b 149, b 243])))), .nils, .nils]
noncomputable def v7 : AV := .fz 128 none (appL [b 76, b 0, b 0, b 0, b 0, b 2, b 0, b 0, b 0, b 3, b 1, b 2, b 12, b 2, b 255, b 0, b 1] (appL (rp 107 (b 0)) ([b 212, b 227, b 239, b 51])))
noncomputable def v8 : AV := .fz 3 none [v7, .nils, .nils]
noncomputable def v9 : AV := .fz 128 none (appL [b 83, b 0, b 0, b 0, b 0, b 2, b 0, b 0, b 0, b 1] (appL (rp 114 (b 0)) ([b 35, b 59, b 139, b 175])))
noncomputable def v10 : AV := .fz 13 none (appL [v9] (rp 12 (.nils)))
noncomputable def v11 : AV := .fz 4 none [v5, .nils, .bool false, v6, .nils, .bool false, v8, .nils, .bool false, v10, .nils, .bool false]
noncomputable def v12 : AV := .agg [w 0, i 3, i 1, i 2, i 12, i 2, .bool false, w 2, .int .i64 (.negSucc 0), .bool false, i 0, i 0, .bool false, .bool false, .nils, w 2, w 1, i 0, i 0, .nils, .nils, i 1, .bool false, v11, .bool true]
noncomputable def as4 : List AV := [v3, .bool false]
noncomputable def u4 : AV := (.tup [v12, i 0])
noncomputable def v13 : AV := .agg [w 0, i 3, i 1, i 2, i 12, i 2, .bool false, w 2, .int .i64 (.negSucc 0), .bool false, i 0, i 0, .bool false, .bool false, .nils, w 2, w 1, i 0, i 0, .nils, .nils, i 1, .bool false]
noncomputable def as5 : List AV := [v13]
noncomputable def u5 : AV := i 0
noncomputable def as6 : List AV := [v12]
noncomputable def u6 : AV := v12
noncomputable def v14 : AV := .fz 1 none [i 1, b 2, i 0, i 1, v0, (.fz 1 none [b 0]), (.fz 1 none [w 0]), (.fz 1 none [.nils])]
noncomputable def v15 : AV := .agg [w 0, i 3, i 1, i 2, i 12, i 2, .bool false, w 2, .int .i64 (.negSucc 0), .bool false, i 0, i 0, .bool false, .bool false, .nils, w 2, w 1, i 0, i 0, .nils, v14, i 2, .bool false]
noncomputable def as7 : List AV := [v13, (.agg [b 2, i 0, i 1, v0])]
noncomputable def u7 : AV := (.tup [v15, i 1, .nils, i 0])
noncomputable def v16 : AV := .agg [w 0, i 3, i 1, i 2, i 12, i 2, .bool false, w 2, .int .i64 (.negSucc 0), .bool false, i 0, i 0, .bool false, .bool false, .nils, w 2, w 1, i 0, i 0, .nils, v14, i 2, .bool false, v11, .bool true]
noncomputable def as8 : List AV := [v12, v1]
noncomputable def u8 : AV := (.tup [v16, .nils, i 0])
noncomputable def as9 : List AV := [v15]
noncomputable def u9 : AV := i 0
noncomputable def as10 : List AV := [v16]
noncomputable def u10 : AV := v16
noncomputable def as11 : List AV := [v15]
noncomputable def u11 : AV := (.tup [(.fz 1 none [b 1, i 1, i 0, i 0]), i 0])
noncomputable def as12 : List AV := [v15]
noncomputable def u12 : AV := (.tup [.nils, i 0])
noncomputable def v17 : AV := .fz 3 none [v0, .nils, .nils]
noncomputable def v18 : AV := .fz 1 none [i 1, b 2, i 0, i 1, v0, (.fz 1 none [b 1]), (.fz 1 none [w 0]), (.fz 1 none [.nils])]
noncomputable def v19 : AV := .agg [w 0, i 3, i 1, i 2, i 12, i 2, .bool false, w 2, .int .i64 (.negSucc 0), .bool false, i 0, i 0, .bool false, .bool false, (.fz 1 none [i 0, v17, (.fz 2 none [.bool true, .bool false]), b 0, .bool false, w 0]), w 2, w 1, i 0, i 0, .nils, v18, i 2, .bool false]
noncomputable def as13 : List AV := [v15, v11, (.agg [b 1, i 1, i 0, i 0])]
noncomputable def u13 : AV := (.tup [v19, .nils, .nils, i 0])
noncomputable def as14 : List AV := [v11, .nils, i 0]
noncomputable def u14 : AV := (.tup [v11, i 0])
noncomputable def as15 : List AV := [v19]
noncomputable def u15 : AV := i 0
noncomputable def as16 : List AV := [v19]
noncomputable def u16 : AV := (.tup [(.fz 1 none [b 2, i 0, i 0, i 0]), i 0])
noncomputable def as17 : List AV := [v19]
noncomputable def u17 : AV := (.tup [.nils, i 0])
noncomputable def v20 : AV := .fz 3 none [v0, .nils, v0]
noncomputable def v21 : AV := .agg [w 0, i 3, i 1, i 2, i 12, i 2, .bool false, w 2, .int .i64 (.negSucc 0), .bool false, i 0, i 0, .bool false, .bool false, (.fz 1 none [i 0, v20, (.fz 2 none [.bool true, .bool false]), b 1, .bool false, w 0]), w 2, w 1, i 0, i 0, .nils, v18, i 2, .bool false]
noncomputable def as18 : List AV := [v19, v11, (.agg [b 2, i 0, i 0, i 0])]
noncomputable def u18 : AV := (.tup [v21, .nils, .nils, i 0])
noncomputable def as19 : List AV := [v21]
noncomputable def u19 : AV := i 0
noncomputable def as20 : List AV := [v21]
noncomputable def u20 : AV := (.tup [(.fz 1 none [b 3, i 0, i 0, i 0]), i 0])
noncomputable def as21 : List AV := [v21]
noncomputable def u21 : AV := (.tup [.nils, i 0])
noncomputable def v22 : AV := .agg [w 0, i 3, i 1, i 2, i 12, i 2, .bool false, w 2, .int .i64 (.negSucc 0), .bool false, i 0, i 0, .bool false, .bool false, (.fz 1 none [i 0, v20, (.fz 2 none [.bool true, .bool false]), b 2, .bool false, w 1]), w 2, w 2, i 0, i 3, (.fz 1 none [w 1, i 0, i 3, .bool true, .bool false, .bool false]), (.fz 1 none [i 1, b 2, i 0, i 1, v0, (.fz 1 none [b 2]), (.fz 1 none [w 1]), (.fz 1 none [.nils])]), i 2, .bool false]
noncomputable def v23 : AV := .fz 128 none (appL [b 78, b 0, b 0, b 0, b 0, b 2, b 0, b 0, b 0, b 1, b 0, b 0, b 0, b 0, b 2, b 0, b 0, b 252, b 120, b 186, b 131, b 255, b 0, b 252, b 120, b 186, b 131] (appL (rp 97 (b 0)) ([b 232, b 221, b 182, b 245])))
noncomputable def v24 : AV := .fz 3 none [i 3, b 1, i 1, v23, i 3, b 1, i 2, v0, i 3, b 1, i 3, v0]
noncomputable def as22 : List AV := [v21, v11, (.agg [b 3, i 0, i 0, i 0])]
noncomputable def u22 : AV := (.tup [v22, v24, .nils, i 0])
noncomputable def v25 : AV := .fz 4 none [v5, .nils, .bool false, v6, .nils, .bool false, v8, .nils, .bool false, v10, (.fz 3 none [i 1, v23, i 2, v0, i 3, v0]), .bool false]
noncomputable def as23 : List AV := [v11, v24, i 3]
noncomputable def u23 : AV := (.tup [v25, i 0])
noncomputable def as24 : List AV := [v22]
noncomputable def u24 : AV := i 0
noncomputable def as25 : List AV := [v22]
noncomputable def u25 : AV := (.tup [(.fz 1 none [b 4, i 0, i 0, i 0]), i 0])
noncomputable def as26 : List AV := [v22]
noncomputable def u26 : AV := (.tup [.nils, i 0])
noncomputable def v26 : AV := .fz 1 none [w 1, i 0, i 3, .bool true, .bool true, .bool false]
noncomputable def v27 : AV := .agg [w 0, i 3, i 1, i 2, i 12, i 2, .bool false, w 2, .int .i64 (.negSucc 0), .bool false, i 0, i 0, .bool false, .bool false, (.fz 1 none [i 0, v20, (.fz 2 none [.bool true, .bool false]), b 3, .bool false, w 1]), w 2, w 2, i 0, i 3, v26, .nils, i 2, .bool false]
noncomputable def v28 : AV := .fz 1 none [i 3, b 3, i 0, .nils]
noncomputable def v29 : AV := .fz 1 none [i 1, i 0, .nils, i 1]
noncomputable def as27 : List AV := [v22, v25, (.agg [b 4, i 0, i 0, i 0])]
noncomputable def u27 : AV := (.tup [v27, v28, v29, i 0])
noncomputable def v30 : AV := .fz 13 none (appL [v9, v23, v0, v0] (rp 9 (.nils)))
noncomputable def v31 : AV := .fz 4 none [v5, .nils, .bool false, v6, .nils, .bool false, v8, .nils, .bool false, v30, .nils, .bool false]
noncomputable def as28 : List AV := [v25, v28, i 1]
noncomputable def u28 : AV := (.tup [v31, i 0])
noncomputable def as29 : List AV := [v27]
noncomputable def u29 : AV := i 0
noncomputable def as30 : List AV := [v27]
noncomputable def u30 : AV := (.tup [(.fz 1 none [b 5, i 0, i 0, i 0]), i 0])
noncomputable def as31 : List AV := [v27]
noncomputable def u31 : AV := (.tup [.nils, i 0])
noncomputable def v32 : AV := .agg [w 0, i 3, i 1, i 2, i 12, i 2, .bool false, w 2, .int .i64 (.negSucc 0), .bool false, i 0, i 0, .bool false, .bool false, (.fz 1 none [i 0, v20, (.fz 2 none [.bool true, .bool false]), b 4, .bool false, w 1]), w 2, w 2, i 0, i 3, v26, .nils, i 2, .bool false]
noncomputable def v33 : AV := .fz 2 none [i 0, b 1, i 1, v0, i 2, b 1, i 1, v0]
noncomputable def as32 : List AV := [v27, v31, (.agg [b 5, i 0, i 0, i 0])]
noncomputable def u32 : AV := (.tup [v32, v33, .nils, i 0])
noncomputable def v34 : AV := .fz 1 none [i 1, v0]
noncomputable def v35 : AV := .fz 4 none [v5, v34, .bool false, v6, .nils, .bool false, v8, v34, .bool false, v30, .nils, .bool false]
noncomputable def as33 : List AV := [v31, v33, i 2]
noncomputable def u33 : AV := (.tup [v35, i 0])
noncomputable def as34 : List AV := [v32]
noncomputable def u34 : AV := i 0
noncomputable def as35 : List AV := [v32]
noncomputable def u35 : AV := (.tup [(.fz 1 none [b 6, i 0, i 0, i 0]), i 0])
noncomputable def as36 : List AV := [v32]
noncomputable def u36 : AV := (.tup [.nils, i 0])
noncomputable def v36 : AV := .fz 1 none [i 0, v17, (.fz 2 none [.bool false, .bool false]), b 0, .bool false, w 0]
noncomputable def v37 : AV := .agg [w 0, i 3, i 1, i 2, i 12, i 2, .bool false, w 2, .int .i64 (.negSucc 0), .bool false, i 0, i 0, .bool false, .bool false, v36, w 2, w 2, i 0, i 3, (.fz 1 none [w 1, i 0, i 3, .bool true, .bool true, .bool true]), .nils, i 2, .bool false]
noncomputable def v38 : AV := .fz 3 none [i 0, b 3, i 0, .nils, i 1, b 3, i 0, .nils, i 2, b 3, i 0, .nils]
noncomputable def as37 : List AV := [v32, v35, (.agg [b 6, i 0, i 0, i 0])]
noncomputable def u37 : AV := (.tup [v37, v38, .nils, i 0])
noncomputable def v39 : AV := .fz 3 none [v4, v0, .nils]
noncomputable def v40 : AV := .fz 3 none [v7, v0, .nils]
noncomputable def v41 : AV := .fz 4 none [v39, .nils, .bool false, v6, .nils, .bool false, v40, .nils, .bool false, v30, .nils, .bool false]
noncomputable def as38 : List AV := [v35, v38, i 3]
noncomputable def u38 : AV := (.tup [v41, i 0])
noncomputable def as39 : List AV := [v37]
noncomputable def u39 : AV := i 0
noncomputable def as40 : List AV := [v37]
noncomputable def u40 : AV := (.tup [(.fz 1 none [b 7, i 0, i 0, i 0]), i 0])
noncomputable def as41 : List AV := [v37]
noncomputable def u41 : AV := (.tup [.nils, i 0])
noncomputable def v42 : AV := .agg [w 0, i 3, i 1, i 2, i 12, i 2, .bool false, w 2, .int .i64 (.negSucc 0), .bool false, i 0, i 0, .bool false, .bool false, v36, w 2, w 2, i 3, i 0, (.fz 0 none []), .nils, i 2, .bool false]
noncomputable def v43 : AV := .fz 128 none (appL [b 83, b 0, b 0, b 0, b 0, b 2, b 0, b 0, b 0, b 2, b 0, b 0, b 0, b 3] (appL (rp 110 (b 0)) ([b 86, b 160, b 120, b 17])))
noncomputable def v44 : AV := .fz 1 none [i 3, b 2, i 0, v43]
noncomputable def as42 : List AV := [v37, v41, (.agg [b 7, i 0, i 0, i 0])]
noncomputable def u42 : AV := (.tup [v42, v44, .nils, i 0])
noncomputable def v45 : AV := .fz 4 none [v39, .nils, .bool false, v6, .nils, .bool false, v40, .nils, .bool false, (.fz 13 none (appL [v43, v23, v0, v0] (rp 9 (.nils)))), .nils, .bool false]
noncomputable def v46 : AV := .tup [v45, i 0]
noncomputable def as43 : List AV := [v41, v44, i 1]
noncomputable def u43 : AV := v46
noncomputable def as44 : List AV := [v42]
noncomputable def u44 : AV := i 0
noncomputable def as45 : List AV := [v42]
noncomputable def u45 : AV := (.tup [.nils, i 0])
noncomputable def as46 : List AV := [v42]
noncomputable def u46 : AV := (.tup [.nils, i 0])
noncomputable def v47 : AV := .agg [w 0, i 3, i 1, i 2, i 12, i 2, .bool false, w 2, .int .i64 (.negSucc 0), .bool false, i 0, i 0, .bool false, .bool false, v36, w 2, w 2, i 3, i 0, (.fz 0 none []), .nils, i 2, .bool false, v45, .bool true]
noncomputable def as47 : List AV := [v16, v2]
noncomputable def u47 : AV := (.tup [v47, v29, i 0])
noncomputable def as48 : List AV := [v47]
noncomputable def u48 : AV := v47
noncomputable def as49 : List AV := [v45]
noncomputable def u49 : AV := (.tup [i 0, i 0])
noncomputable def as50 : List AV := [v45, .nils]
noncomputable def u50 : AV := v46
noncomputable def v48 : AV := .agg [w 0, i 3, i 1, i 2, i 12, i 2, .bool false, w 0, i 0, .bool false, i 0, i 0, .bool false, .bool false, .nils, w 0, w 0, i 0, i 0, .nils, .nils, i 2, .bool false, v45, .bool false]
noncomputable def as51 : List AV := [v47, (.agg [b 4, b 0, i 0, i 0, .nils, .int .i64 (.negSucc 0), i 0, .bool false, .nils])]
noncomputable def u51 : AV := (.tup [v48, .nils, i 0])
noncomputable def as52 : List AV := [v48]
noncomputable def u52 : AV := v48
noncomputable def v49 : AV := .fz 128 none (appL [b 83, b 0, b 0, b 0, b 0, b 3, b 0, b 0, b 0, b 2, b 0, b 0, b 0, b 3] (appL (rp 110 (b 0)) ([b 235, b 40, b 38, b 23])))
noncomputable def v50 : AV := .fz 128 none (appL [b 76, b 0, b 0, b 0, b 0, b 3, b 0, b 0, b 0, b 3, b 1, b 2, b 12, b 0, b 255, b 0, b 1] (appL (rp 107 (b 0)) ([b 253, b 3, b 226, b 181])))
noncomputable def v51 : AV := .fz 128 none (appL [b 76, b 0, b 0, b 0, b 0, b 3, b 0, b 0, b 0, b 3, b 1, b 2, b 12, b 1, b 255, b 0, b 1] (appL (rp 107 (b 0)) ([b 183, b 183, b 203, b 245])))
noncomputable def v52 : AV := .fz 128 none (appL [b 76, b 0, b 0, b 0, b 0, b 3, b 0, b 0, b 0, b 3, b 1, b 2, b 12, b 2, b 255, b 0, b 1] (appL (rp 107 (b 0)) ([b 105, b 107, b 177, b 53])))
noncomputable def v53 : AV := .fz 4 none [i 3, b 2, i 0, v49, i 0, b 2, i 0, v50, i 1, b 2, i 0, v51, i 2, b 2, i 0, v52]
noncomputable def as53 : List AV := [v45, i 2, .bool false]
noncomputable def u53 : AV := (.tup [(.agg [w 0, i 3, i 1, i 2, i 12, i 2, .bool false, w 3, .int .i64 (.negSucc 0), .bool false, i 0, i 0, .bool false, .bool false, .nils, w 3, w 2, i 3, i 0, .nils, .nils, i 1, .bool false]), v53, i 0])
noncomputable def v54 : AV := .fz 4 none [(.fz 3 none [v50, v0, .nils]), .nils, .bool false, (.fz 3 none [v51, .nils, .nils]), .nils, .bool false, (.fz 3 none [v52, v0, .nils]), .nils, .bool false, (.fz 13 none (appL [v49, v23, v0, v0] (rp 9 (.nils)))), .nils, .bool false]
noncomputable def as54 : List AV := [v45, v53, i 4]
noncomputable def u54 : AV := (.tup [v54, i 0])
noncomputable def v55 : AV := .agg [b 5, b 0, i 0, i 0, .nils, i 0, i 0, .bool false, .nils]
noncomputable def v56 : AV := .agg [w 0, i 3, i 1, i 2, i 12, i 2, .bool false, w 3, .int .i64 (.negSucc 0), .bool false, i 0, i 0, .bool false, .bool false, .nils, w 3, w 2, i 3, i 0, .nils, .nils, i 2, .bool false, v54, .bool true]
noncomputable def as55 : List AV := [v48, v55]
noncomputable def u55 : AV := (.tup [v56, .nils, i 0])
noncomputable def v57 : AV := .fz 3 none [.nils, .nils, .nils]
noncomputable def v58 : AV := .agg [w 0, i 3, i 1, i 2, i 12, i 2, .bool false, w 2, i 1, .bool false, i 0, i 0, .bool false, .bool false, .nils, w 2, w 1, i 0, i 0, .nils, .nils, i 1, .bool false, (.fz 4 none [v5, .nils, .bool false, v57, .nils, .bool true, v8, .nils, .bool false, v10, .nils, .bool false]), .bool true]
noncomputable def as56 : List AV := [v12, (.agg [b 7, b 0, i 0, i 0, .nils, i 1, i 0, .bool false, .nils])]
noncomputable def u56 : AV := (.tup [v58, .nils, i 0])
noncomputable def as57 : List AV := [(.agg [w 0, i 3, i 1, i 2, i 12, i 2, .bool false, w 2, i 1, .bool false, i 0, i 0, .bool false, .bool false, .nils, w 2, w 1, i 0, i 0, .nils, .nils, i 1, .bool false])]
noncomputable def u57 : AV := i 0
noncomputable def as58 : List AV := [v58]
noncomputable def u58 : AV := v58
noncomputable def v59 : AV := .agg [w 0, i 3, i 1, i 2, i 12, i 2, .bool false, w 2, i 1, .bool false, i 0, i 0, .bool false, .bool true, .nils, w 2, w 1, i 0, i 0, .nils, .nils, i 1, .bool false, (.fz 4 none [v5, .nils, .bool false, v57, .nils, .bool true, v57, .nils, .bool true, v10, .nils, .bool false]), .bool true]
noncomputable def as59 : List AV := [v58, (.agg [b 7, b 0, i 0, i 0, .nils, i 2, i 0, .bool false, .nils])]
noncomputable def u59 : AV := (.tup [v59, .nils, i 0])
noncomputable def as60 : List AV := [(.agg [w 0, i 3, i 1, i 2, i 12, i 2, .bool false, w 2, i 1, .bool false, i 0, i 0, .bool false, .bool true, .nils, w 2, w 1, i 0, i 0, .nils, .nils, i 1, .bool false])]
noncomputable def u60 : AV := i 0
noncomputable def as61 : List AV := [v59, i 0]
noncomputable def u61 : AV := (.tup [.nils, i 230])
noncomputable def as62 : List AV := [v13]
noncomputable def u62 : AV := (.tup [.nils, i 0])
noncomputable def as63 : List AV := [v13]
noncomputable def u63 : AV := (.tup [.nils, i 0])
noncomputable def v60 : AV := .agg [b 10, b 0, i 0, i 0, .nils, i 0, i 0, .bool false, .nils]
noncomputable def v61 : AV := .agg [w 0, i 3, i 1, i 2, i 12, i 2, .bool false, w 0, i 0, .bool false, i 0, i 0, .bool false, .bool false, .nils, w 0, w 0, i 0, i 0, .nils, .nils, i 1, .bool false, (.fz 4 none [(.fz 3 none [(.fz 128 none (appL [b 76, b 0, b 0, b 0, b 0, b 3, b 0, b 0, b 0, b 3, b 1, b 2, b 12, b 0, b 255] (appL (rp 109 (b 0)) ([b 48, b 98, b 220, b 35])))), .nils, .nils]), .nils, .bool false, (.fz 3 none [(.fz 128 none (appL [b 76, b 0, b 0, b 0, b 0, b 3, b 0, b 0, b 0, b 3, b 1, b 2, b 12, b 1, b 255] (appL (rp 109 (b 0)) ([b 122, b 214, b 245, b 99])))), .nils, .nils]), .nils, .bool false, (.fz 3 none [(.fz 128 none (appL [b 76, b 0, b 0, b 0, b 0, b 3, b 0, b 0, b 0, b 3, b 1, b 2, b 12, b 2, b 255] (appL (rp 109 (b 0)) ([b 164, b 10, b 143, b 163])))), .nils, .nils]), .nils, .bool false, v10, .nils, .bool false]), .bool false]
noncomputable def as64 : List AV := [v12, v60]
noncomputable def u64 : AV := (.tup [v61, .nils, i 0])
noncomputable def v62 : AV := .agg [w 0, i 0, i 0, i 0, i 0, i 0, .bool false, w 0, i 0, .bool false, i 0, i 0, .bool false, .bool false, .nils, w 0, w 0, i 0, i 0, .nils, .nils, i 0, .bool false, .nils, .bool false]
noncomputable def as65 : List AV := [v61, v60]
noncomputable def u65 : AV := (.tup [v62, .nils, i 310])
noncomputable def as66 : List AV := [(.agg [w 0, i 3, i 1, i 2, i 12, i 2, .bool false, w 3, .int .i64 (.negSucc 0), .bool false, i 0, i 0, .bool false, .bool false, .nils, w 3, w 2, i 3, i 0, .nils, .nils, i 2, .bool false])]
noncomputable def u66 : AV := i 0
noncomputable def v63 : AV := .tup [v0, i 0]
noncomputable def as67 : List AV := [v56, i 0]
noncomputable def u67 : AV := v63
noncomputable def v64 : AV := .fz 128 none (rp 128 (b 0))
noncomputable def v65 : AV := .tup [v64, i 0]
noncomputable def as68 : List AV := [v12, i 0]
noncomputable def u68 : AV := v65
noncomputable def as69 : List AV := [b 0]
noncomputable def u69 : AV := v64
noncomputable def as70 : List AV := [v47, i 0]
noncomputable def u70 : AV := v63
noncomputable def as71 : List AV := [v47, i 1]
noncomputable def u71 : AV := v65
noncomputable def as72 : List AV := [v12, (.agg [b 2, b 0, i 0, i 0, .nils, i 0, i 0, .bool false, .nils])]
noncomputable def u72 : AV := (.tup [v62, .nils, i 6])
noncomputable def v66 : AV := .tup [v62, .nils, i 2]
noncomputable def as73 : List AV := [v12, v55]
noncomputable def u73 : AV := v66
noncomputable def as74 : List AV := [v12, (.agg [b 7, b 0, i 0, i 0, .nils, i 4, i 0, .bool false, .nils])]
noncomputable def u74 : AV := v66
noncomputable def as75 : List AV := [v12, (.agg [b 0, b 0, i 0, i 0, .nils, i 0, i 0, .bool false, .nils])]
noncomputable def u75 : AV := v66
end Go.AM

set_option linter.unusedVariables false
set_option maxRecDepth 1000000
namespace Go.AM
open Go.Proofs Go.AM.X
theorem hasM14 : HasBody Tryz.prog 14 := ⟨Tryz.f14, _, Tryz.func14, rfl, by kernel_rfl⟩
theorem hasM5 : HasBody Tryz.prog 5 := ⟨Tryz.f5, _, Tryz.func5, rfl, by kernel_rfl⟩
theorem hasM6 : HasBody Tryz.prog 6 := ⟨Tryz.f6, _, Tryz.func6, rfl, by kernel_rfl⟩
theorem hasM13 : HasBody Tryz.prog 13 := ⟨Tryz.f13, _, Tryz.func13, rfl, by kernel_rfl⟩
theorem hasM12 : HasBody Tryz.prog 12 := ⟨Tryz.f12, _, Tryz.func12, rfl, by kernel_rfl⟩
theorem hasM28 : HasBody Tryz.prog 28 := ⟨Tryz.f28, _, Tryz.func28, rfl, by kernel_rfl⟩
theorem hasM23 : HasBody Tryz.prog 23 := ⟨Tryz.f23, _, Tryz.func23, rfl, by kernel_rfl⟩
theorem hasM81 : HasBody Tryz.prog 81 := ⟨Tryz.f81, _, Tryz.func81, rfl, by kernel_rfl⟩
theorem hasM8 : HasBody Tryz.prog 8 := ⟨Tryz.f8, _, Tryz.func8, rfl, by kernel_rfl⟩
theorem hasM129 : HasBody Tryz.prog 129 := ⟨Tryz.f129, _, Tryz.func129, rfl, by kernel_rfl⟩
theorem hasM130 : HasBody Tryz.prog 130 := ⟨Tryz.f130, _, Tryz.func130, rfl, by kernel_rfl⟩
theorem hasM131 : HasBody Tryz.prog 131 := ⟨Tryz.f131, _, Tryz.func131, rfl, by kernel_rfl⟩
theorem hasM133 : HasBody Tryz.prog 133 := ⟨Tryz.f133, _, Tryz.func133, rfl, by kernel_rfl⟩
theorem hasM134 : HasBody Tryz.prog 134 := ⟨Tryz.f134, _, Tryz.func134, rfl, by kernel_rfl⟩
theorem hasM135 : HasBody Tryz.prog 135 := ⟨Tryz.f135, _, Tryz.func135, rfl, by kernel_rfl⟩
theorem hasM111 : HasBody Tryz.prog 111 := ⟨Tryz.f111, _, Tryz.func111, rfl, by kernel_rfl⟩
theorem hasM7 : HasBody Tryz.prog 7 := ⟨Tryz.f7, _, Tryz.func7, rfl, by kernel_rfl⟩
end Go.AM

set_option linter.unusedVariables false
set_option maxRecDepth 1000000
namespace Go.AM
open Go.Proofs Go.AM.X
theorem m4 : ∀ s, C Tryz.prog 12 as4 s (fun v s' => v = u4 ∧ s' = s) := memo_C e1_ok mixed (n := 100000) (k := 24) (by kernel_rfl) (by kernel_rfl) (by kernel_rfl : memoB e1 100000 24 12 as4 u4 = true)
end Go.AM

set_option linter.unusedVariables false
set_option maxRecDepth 1000000
namespace Go.AM
open Go.Proofs Go.AM.X
theorem m2 : ∀ s, C Tryz.prog 6 as2 s (fun v s' => v = u2 ∧ s' = s) := memo_C e1_ok mixed (n := 100000) (k := 24) (by kernel_rfl) (by kernel_rfl) (by kernel_rfl : memoB e1 100000 24 6 as2 u2 = true)
theorem m52 : ∀ s, C Tryz.prog 23 as52 s (fun v s' => v = u52 ∧ s' = s) := memo_C e1_ok mixed (n := 100000) (k := 24) (by kernel_rfl) (by kernel_rfl) (by kernel_rfl : memoB e1 100000 24 23 as52 u52 = true)
theorem m53 : ∀ s, C Tryz.prog 111 as53 s (fun v s' => v = u53 ∧ s' = s) := memo_C e1_ok mixed (n := 100000) (k := 24) (by kernel_rfl) (by kernel_rfl) (by kernel_rfl : memoB e1 100000 24 111 as53 u53 = true)
end Go.AM

set_option linter.unusedVariables false
set_option maxRecDepth 1000000
namespace Go.AM
open Go.Proofs Go.AM.X
theorem m0 : ∀ s, C Tryz.prog 14 as0 s (fun v s' => v = u0 ∧ s' = s) := memo_C e1_ok mixed (n := 100000) (k := 24) (by kernel_rfl) (by kernel_rfl) (by kernel_rfl : memoB e1 100000 24 14 as0 u0 = true)
theorem m6 : ∀ s, C Tryz.prog 23 as6 s (fun v s' => v = u6 ∧ s' = s) := memo_C e1_ok mixed (n := 100000) (k := 24) (by kernel_rfl) (by kernel_rfl) (by kernel_rfl : memoB e1 100000 24 23 as6 u6 = true)
theorem m9 : ∀ s, C Tryz.prog 28 as9 s (fun v s' => v = u9 ∧ s' = s) := memo_C e1_ok mixed (n := 100000) (k := 24) (by kernel_rfl) (by kernel_rfl) (by kernel_rfl : memoB e1 100000 24 28 as9 u9 = true)
theorem m15 : ∀ s, C Tryz.prog 28 as15 s (fun v s' => v = u15 ∧ s' = s) := memo_C e1_ok mixed (n := 100000) (k := 24) (by kernel_rfl) (by kernel_rfl) (by kernel_rfl : memoB e1 100000 24 28 as15 u15 = true)
theorem m44 : ∀ s, C Tryz.prog 28 as44 s (fun v s' => v = u44 ∧ s' = s) := memo_C e1_ok mixed (n := 100000) (k := 24) (by kernel_rfl) (by kernel_rfl) (by kernel_rfl : memoB e1 100000 24 28 as44 u44 = true)
theorem m56 : ∀ s, C Tryz.prog 8 as56 s (fun v s' => v = u56 ∧ s' = s) := memo_C e1_ok mixed (n := 100000) (k := 24) (by kernel_rfl) (by kernel_rfl) (by kernel_rfl : memoB e1 100000 24 8 as56 u56 = true)
theorem m60 : ∀ s, C Tryz.prog 28 as60 s (fun v s' => v = u60 ∧ s' = s) := memo_C e1_ok mixed (n := 100000) (k := 24) (by kernel_rfl) (by kernel_rfl) (by kernel_rfl : memoB e1 100000 24 28 as60 u60 = true)
end Go.AM

set_option linter.unusedVariables false
set_option maxRecDepth 1000000
namespace Go.AM
open Go.Proofs Go.AM.X
theorem m19 : ∀ s, C Tryz.prog 28 as19 s (fun v s' => v = u19 ∧ s' = s) := memo_C e1_ok mixed (n := 100000) (k := 24) (by kernel_rfl) (by kernel_rfl) (by kernel_rfl : memoB e1 100000 24 28 as19 u19 = true)
theorem m23 : ∀ s, C Tryz.prog 133 as23 s (fun v s' => v = u23 ∧ s' = s) := memo_C e1_ok mixed (n := 100000) (k := 24) (by kernel_rfl) (by kernel_rfl) (by kernel_rfl : memoB e1 100000 24 133 as23 u23 = true)
theorem m24 : ∀ s, C Tryz.prog 28 as24 s (fun v s' => v = u24 ∧ s' = s) := memo_C e1_ok mixed (n := 100000) (k := 24) (by kernel_rfl) (by kernel_rfl) (by kernel_rfl : memoB e1 100000 24 28 as24 u24 = true)
theorem m29 : ∀ s, C Tryz.prog 28 as29 s (fun v s' => v = u29 ∧ s' = s) := memo_C e1_ok mixed (n := 100000) (k := 24) (by kernel_rfl) (by kernel_rfl) (by kernel_rfl : memoB e1 100000 24 28 as29 u29 = true)
theorem m48 : ∀ s, C Tryz.prog 23 as48 s (fun v s' => v = u48 ∧ s' = s) := memo_C e1_ok mixed (n := 100000) (k := 24) (by kernel_rfl) (by kernel_rfl) (by kernel_rfl : memoB e1 100000 24 23 as48 u48 = true)
theorem m58 : ∀ s, C Tryz.prog 23 as58 s (fun v s' => v = u58 ∧ s' = s) := memo_C e1_ok mixed (n := 100000) (k := 24) (by kernel_rfl) (by kernel_rfl) (by kernel_rfl : memoB e1 100000 24 23 as58 u58 = true)
theorem m66 : ∀ s, C Tryz.prog 28 as66 s (fun v s' => v = u66 ∧ s' = s) := memo_C e1_ok mixed (n := 100000) (k := 24) (by kernel_rfl) (by kernel_rfl) (by kernel_rfl : memoB e1 100000 24 28 as66 u66 = true)
end Go.AM

set_option linter.unusedVariables false
set_option maxRecDepth 1000000
namespace Go.AM
open Go.Proofs Go.AM.X
theorem m5 : ∀ s, C Tryz.prog 28 as5 s (fun v s' => v = u5 ∧ s' = s) := memo_C e1_ok mixed (n := 100000) (k := 24) (by kernel_rfl) (by kernel_rfl) (by kernel_rfl : memoB e1 100000 24 28 as5 u5 = true)
theorem m14 : ∀ s, C Tryz.prog 133 as14 s (fun v s' => v = u14 ∧ s' = s) := memo_C e1_ok mixed (n := 100000) (k := 24) (by kernel_rfl) (by kernel_rfl) (by kernel_rfl : memoB e1 100000 24 133 as14 u14 = true)
theorem m28 : ∀ s, C Tryz.prog 133 as28 s (fun v s' => v = u28 ∧ s' = s) := memo_C e1_ok mixed (n := 100000) (k := 24) (by kernel_rfl) (by kernel_rfl) (by kernel_rfl : memoB e1 100000 24 133 as28 u28 = true)
theorem m33 : ∀ s, C Tryz.prog 133 as33 s (fun v s' => v = u33 ∧ s' = s) := memo_C e1_ok mixed (n := 100000) (k := 24) (by kernel_rfl) (by kernel_rfl) (by kernel_rfl : memoB e1 100000 24 133 as33 u33 = true)
theorem m34 : ∀ s, C Tryz.prog 28 as34 s (fun v s' => v = u34 ∧ s' = s) := memo_C e1_ok mixed (n := 100000) (k := 24) (by kernel_rfl) (by kernel_rfl) (by kernel_rfl : memoB e1 100000 24 28 as34 u34 = true)
theorem m54 : ∀ s, C Tryz.prog 133 as54 s (fun v s' => v = u54 ∧ s' = s) := memo_C e1_ok mixed (n := 100000) (k := 24) (by kernel_rfl) (by kernel_rfl) (by kernel_rfl : memoB e1 100000 24 133 as54 u54 = true)
theorem m65 : ∀ s, C Tryz.prog 8 as65 s (fun v s' => v = u65 ∧ s' = s) := memo_C e1_ok mixed (n := 100000) (k := 24) (by kernel_rfl) (by kernel_rfl) (by kernel_rfl : memoB e1 100000 24 8 as65 u65 = true)
theorem m69 : ∀ s, C Tryz.prog 14 as69 s (fun v s' => v = u69 ∧ s' = s) := memo_C e1_ok mixed (n := 100000) (k := 24) (by kernel_rfl) (by kernel_rfl) (by kernel_rfl : memoB e1 100000 24 14 as69 u69 = true)
end Go.AM

set_option linter.unusedVariables false
set_option maxRecDepth 1000000
namespace Go.AM
open Go.Proofs Go.AM.X
theorem m3 : ∀ s, C Tryz.prog 13 as3 s (fun v s' => v = u3 ∧ s' = s) := memo_C e1_ok mixed (n := 100000) (k := 24) (by kernel_rfl) (by kernel_rfl) (by kernel_rfl : memoB e1 100000 24 13 as3 u3 = true)
theorem m10 : ∀ s, C Tryz.prog 23 as10 s (fun v s' => v = u10 ∧ s' = s) := memo_C e1_ok mixed (n := 100000) (k := 24) (by kernel_rfl) (by kernel_rfl) (by kernel_rfl : memoB e1 100000 24 23 as10 u10 = true)
theorem m38 : ∀ s, C Tryz.prog 133 as38 s (fun v s' => v = u38 ∧ s' = s) := memo_C e1_ok mixed (n := 100000) (k := 24) (by kernel_rfl) (by kernel_rfl) (by kernel_rfl : memoB e1 100000 24 133 as38 u38 = true)
theorem m39 : ∀ s, C Tryz.prog 28 as39 s (fun v s' => v = u39 ∧ s' = s) := memo_C e1_ok mixed (n := 100000) (k := 24) (by kernel_rfl) (by kernel_rfl) (by kernel_rfl : memoB e1 100000 24 28 as39 u39 = true)
theorem m43 : ∀ s, C Tryz.prog 133 as43 s (fun v s' => v = u43 ∧ s' = s) := memo_C e1_ok mixed (n := 100000) (k := 24) (by kernel_rfl) (by kernel_rfl) (by kernel_rfl : memoB e1 100000 24 133 as43 u43 = true)
theorem m49 : ∀ s, C Tryz.prog 134 as49 s (fun v s' => v = u49 ∧ s' = s) := memo_C e1_ok mixed (n := 100000) (k := 24) (by kernel_rfl) (by kernel_rfl) (by kernel_rfl : memoB e1 100000 24 134 as49 u49 = true)
theorem m57 : ∀ s, C Tryz.prog 28 as57 s (fun v s' => v = u57 ∧ s' = s) := memo_C e1_ok mixed (n := 100000) (k := 24) (by kernel_rfl) (by kernel_rfl) (by kernel_rfl : memoB e1 100000 24 28 as57 u57 = true)
theorem m59 : ∀ s, C Tryz.prog 8 as59 s (fun v s' => v = u59 ∧ s' = s) := memo_C e1_ok mixed (n := 100000) (k := 24) (by kernel_rfl) (by kernel_rfl) (by kernel_rfl : memoB e1 100000 24 8 as59 u59 = true)
end Go.AM
