/-
 Functions of the program as the abstract machine reads them, and what is stated of them, checked by the kernel. No conditions.
-/
import Derived.Test.YtnnbibnobmegpaaSeatD
import Derived.Test.YtnnbibnobmegpaaAM5
import Derived.Test.YtnnbibnobmegpaaSeatA
import Derived.Test.YtnnbibnobmegpaaSeatU
set_option linter.unusedVariables false
set_option linter.unusedSimpArgs false

set_option maxRecDepth 100000
namespace Go.AM
attribute [local irreducible] W
open X
def PutLike (O : Ov) : Prop := ∀ (v : AV) (a z n : Int) (s : St), ¬ (a = 124 ∧ z = 4) → O [v, .int .i64 a, .int .i64 z, .int .i64 n] s = putO [v, .int .i64 a, .int .i64 z, .int .i64 n] s
theorem PutLike.run {O : Ov} (hO : PutLike O) {v : AV} {bs : List Nat} {a z n : Int} {s : St} (hne : ¬ (a = 124 ∧ z = 4)) (hv : bytesAt St0 v = some bs) (hl : bs.length = 0 ∨ bs.length = 128) (h : putOk a z n = true) :
   O [v, .int .i64 a, .int .i64 z, .int .i64 n] s = .ok (.tup [.fz 128 (some 128) (bys (putN (pad bs) a.toNat n.toNat z.toNat)), .int .i64 0]) s := (hO v a z n s hne).trans (putO_run hv hl h)
def putRB (v : AV) (bs : List Nat) (n : Int) : Prop := bytesAt St0 v = some bs ∧ (bs.length = 0 ∨ bs.length = 128) ∧ putOk 124 4 n = true
open Classical in
noncomputable def putRO (args : List AV) (s : St) : RV := match args with
 | [v, .int .i64 a, .int .i64 z, .int .i64 n] => if a = 124 ∧ z = 4 then (match bytesAt St0 v with
     | some bs => if putRB v bs n then .ok (.tup [.sl s.next 0 128 (some 128), .int .i64 0]) (s.alloc (.row 197 (bys (putN (pad bs) 124 n.toNat 4)))) else .fail
     | none => .fail) else putO args s
 | _ => .fail
theorem putRO_like : PutLike putRO := fun v a z n s h => by
 unfold putRO
 dsimp only
 rw [if_neg h]
theorem putRO_run {v : AV} {bs : List Nat} {n : Int} {s : St} (hv : bytesAt St0 v = some bs) (hl : bs.length = 0 ∨ bs.length = 128) (h : putOk 124 4 n = true) :
   putRO [v, .int .i64 124, .int .i64 4, .int .i64 n] s = .ok (.tup [.sl s.next 0 128 (some 128), .int .i64 0]) (s.alloc (.row 197 (bys (putN (pad bs) 124 n.toNat 4)))) := by
 unfold putRO
 dsimp only
 rw [if_pos ⟨rfl, rfl⟩, hv]
 dsimp only
 rw [if_pos ⟨hv, hl, h⟩]
theorem plain_bys (e : Nat) (l : List Nat) : ∀ o ∈ [AObj.row e (bys l)], plainO o = true := by
 intro o ho; rw [List.mem_singleton] at ho; subst ho; rfl
theorem putRO_ok {P : Program} {e : Env} {fn : Func} (hE : EnvOk P e) (hm : P.follows .mixedOrders = true) (h130 : Inl e 130 code130 [.cells 2 128, .tmp 3]) (h131 : Inl e 131 code131 [.tmp 4]) (hf : P.funcs[161]? = some fn) (hc : compF P fn = some a161) (hb : HasBody P 161) : OvOk P 161 putRO := by
 have h0 := putO_ok hE hm h130 h131 hf hc hb
 refine ⟨hb, fun args s v s' h => ?_⟩
 have hh := h
 unfold putRO at h
 split at h
 · rename_i u a z n
   split at h
   · rename_i haz
     obtain ⟨rfl, rfl⟩ := haz
     split at h
     · rename_i bs hbs
       split at h
       · rename_i hB
         obtain ⟨-, hl, hok⟩ := hB
         obtain ⟨rfl, rfl⟩ := ok_inj h
         obtain ⟨hSl, hlt⟩ := bytes0 hbs
         have hfs2 : hfs [u, .int .i64 124, .int .i64 4, .int .i64 n] = true := by simp [hfs, hSl.hf]; exact ⟨rfl, rfl, rfl⟩
         have hC : C P 161 [u, .int .i64 124, .int .i64 4, .int .i64 n] St0 (fun v s => v = .tup [.sl 0 0 128 (some 128), .int .i64 0] ∧ s = allocs St0 [.row 197 (bys (putN (pad bs) 124 n.toNat 4))]) := by
           refine C.tells (C.of_V (Q := fun v s => Tells P 0 (ofL [(0, v)]) s [] (ofL [(0, .tup [.sl 0 0 128 (some 128), .int .i64 0])]) (allocs St0 [.row 197 (bys (putN (pad bs) 124 n.toNat 4))]) []) hE hm hf hc (put_run P e hE hm h130 h131 u bs hSl 124 4 n _ (fun h1 h2 s => ?_) (fun h0 h1 s => ?_) (fun h0 h1 s r hr => ?_))) (fun v s h => h)
           · omega
           · rw [hok] at h1; cases h1
           · exact Abs.tells (rs := [r]) ⟨by simp, ⟨⟨rfl, rfl⟩, trivial⟩, ⟨⟨rowH (scs_hfs_bys _), by rw [mapRowH (scs_hfs_bys _)]; exact hr⟩, trivial⟩⟩
         have hF := C.frame (l := [.row 197 (bys (putN (pad bs) 124 n.toNat 4))]) hfs2 (plain_bys _ _) (.inl (by simp)) hC (fun i o h => by
           rcases i with _ | i
           · cases h; rfl
           · simp at h) s
         refine hF.mono fun v s' hq => ?_
         obtain ⟨rfl, rfl⟩ := hq
         refine ⟨?_, ?_⟩
         · show AV.tup [.sl (0 + s.next) 0 128 (some 128), .int .i64 0] = _
           rw [Nat.zero_add]
         · show s.alloc (mapO _ (.row 197 (bys _))) = _
           rw [mapRowH (scs_hfs_bys _)]
       · cases h
     · cases h
   · exact h0.2 _ _ _ _ h
 · cases h
theorem nput1O (e : Env) {O : Ov} (h161 : Con e 161 O) (hO : PutLike O) (s : St) (r : Nat) (v : AV) (bs : List Nat) (hv : bytesAt St0 v = some bs) (hl : bs.length = 0 ∨ bs.length = 128) (hb : ∀ b ∈ bs, b < 256) (a z n0 : Int) (hz : 1 ≤ z ∧ z ≤ 4) (ha : 0 ≤ a ∧ a + 1 * z ≤ 124) (h0 : 0 ≤ n0 ∧ n0.toNat < 2 ^ (8 * z.toNat))
   (hr : s.get r = some (.row 3 [.int .i64 n0])) (K : AV → St → Prop) (res : List Nat) (hres : res = (putN (pad bs) (a + (0 : Int) * z).toNat n0.toNat z.toNat)) (hk : K (blkV res) s) :
   VE e code133 (initT [v, .int .i64 a, .int .i64 z, .sl r 0 1 (some 1)] 0 .lf) s none [] (EEnd [.tmp 8] K) := by
 have hp := pad_len128 hl
 have hpb := padn_lt hb
 have l0 : load1 r (0 + (0 : Int).toNat * 1) s = some (.int .i64 n0) := by unfold load1; rw [rowAt_of hr]; rfl
 conv => whnf
 refine EPrim.lenPZ rfl ?_; conv => whnf
 refine EExec.loop ?_; conv => whnf
 refine EPrim.lss2 rfl rfl (fun h => ?_) (fun h => by omega); conv => whnf
 refine EPrim.ixsPZ rfl rfl (by omega) (by omega) ?_; conv => whnf
 refine stuckO _ l0 ?_; conv => whnf
 refine EPrim.mulS rfl rfl (by omega) ?_; conv => whnf
 refine EPrim.addS rfl rfl (by omega) ?_; conv => whnf
 refine ESc.ov h161 (hO.run (by omega) hv hl (putOk_of hz (by omega) h0.1 h0.2)) ?_; conv => whnf
 refine EPrim.addS rfl rfl (by omega) ?_; conv => whnf
 refine EExec.loop ?_; conv => whnf
 refine EPrim.lss2 rfl rfl (fun h => by omega) (fun h => ?_); conv => whnf
 rw [hres] at hk; exact hk
theorem nput2O (e : Env) {O : Ov} (h161 : Con e 161 O) (hO : PutLike O) (s : St) (r : Nat) (v : AV) (bs : List Nat) (hv : bytesAt St0 v = some bs) (hl : bs.length = 0 ∨ bs.length = 128) (hb : ∀ b ∈ bs, b < 256) (a z n0 n1 : Int) (hz : 1 ≤ z ∧ z ≤ 4) (ha : 0 ≤ a ∧ a + 2 * z ≤ 124) (h0 : 0 ≤ n0 ∧ n0.toNat < 2 ^ (8 * z.toNat)) (h1 : 0 ≤ n1 ∧ n1.toNat < 2 ^ (8 * z.toNat))
   (hr : s.get r = some (.row 3 [.int .i64 n0, .int .i64 n1])) (K : AV → St → Prop) (res : List Nat) (hres : res = (putN (putN (pad bs) (a + (0 : Int) * z).toNat n0.toNat z.toNat) (a + (0 + 1 : Int) * z).toNat n1.toNat z.toNat)) (hk : K (blkV res) s) :
   VE e code133 (initT [v, .int .i64 a, .int .i64 z, .sl r 0 2 (some 2)] 0 .lf) s none [] (EEnd [.tmp 8] K) := by
 have hp := pad_len128 hl
 have hpb := padn_lt hb
 have l0 : load1 r (0 + (0 : Int).toNat * 1) s = some (.int .i64 n0) := by unfold load1; rw [rowAt_of hr]; rfl
 have l1 : load1 r (0 + (0 + 1  : Int).toNat * 1) s = some (.int .i64 n1) := by unfold load1; rw [rowAt_of hr]; rfl
 conv => whnf
 refine EPrim.lenPZ rfl ?_; conv => whnf
 refine EExec.loop ?_; conv => whnf
 refine EPrim.lss2 rfl rfl (fun h => ?_) (fun h => by omega); conv => whnf
 refine EPrim.ixsPZ rfl rfl (by omega) (by omega) ?_; conv => whnf
 refine stuckO _ l0 ?_; conv => whnf
 refine EPrim.mulS rfl rfl (by omega) ?_; conv => whnf
 refine EPrim.addS rfl rfl (by omega) ?_; conv => whnf
 refine ESc.ov h161 (hO.run (by omega) hv hl (putOk_of hz (by omega) h0.1 h0.2)) ?_; conv => whnf
 refine EPrim.addS rfl rfl (by omega) ?_; conv => whnf
 refine EExec.loop ?_; conv => whnf
 refine EPrim.lss2 rfl rfl (fun h => ?_) (fun h => by omega); conv => whnf
 refine EPrim.ixsPZ rfl rfl (by omega) (by omega) ?_; conv => whnf
 refine stuckO _ l1 ?_; conv => whnf
 refine EPrim.mulS rfl rfl (by omega) ?_; conv => whnf
 refine EPrim.addS rfl rfl (by omega) ?_; conv => whnf
 refine ESc.ov h161 (hO.run (by omega) (bs := (putN (pad bs) (a + (0 : Int) * z).toNat n0.toNat z.toNat)) (blkV_at (by simp only [putN_length]; exact hp) (putN_lt hpb _)) (.inr (by simp only [putN_length]; exact hp)) (putOk_of hz (by omega) h1.1 h1.2)) ?_
 rw [pad_of (by simp only [putN_length]; exact hp)]
 conv => whnf
 refine EPrim.addS rfl rfl (by omega) ?_; conv => whnf
 refine EExec.loop ?_; conv => whnf
 refine EPrim.lss2 rfl rfl (fun h => by omega) (fun h => ?_); conv => whnf
 rw [hres] at hk; exact hk
theorem nput3O (e : Env) {O : Ov} (h161 : Con e 161 O) (hO : PutLike O) (s : St) (r : Nat) (v : AV) (bs : List Nat) (hv : bytesAt St0 v = some bs) (hl : bs.length = 0 ∨ bs.length = 128) (hb : ∀ b ∈ bs, b < 256) (a z n0 n1 n2 : Int) (hz : 1 ≤ z ∧ z ≤ 4) (ha : 0 ≤ a ∧ a + 3 * z ≤ 124) (h0 : 0 ≤ n0 ∧ n0.toNat < 2 ^ (8 * z.toNat)) (h1 : 0 ≤ n1 ∧ n1.toNat < 2 ^ (8 * z.toNat)) (h2 : 0 ≤ n2 ∧ n2.toNat < 2 ^ (8 * z.toNat))
   (hr : s.get r = some (.row 3 [.int .i64 n0, .int .i64 n1, .int .i64 n2])) (K : AV → St → Prop) (res : List Nat) (hres : res = (putN (putN (putN (pad bs) (a + (0 : Int) * z).toNat n0.toNat z.toNat) (a + (0 + 1 : Int) * z).toNat n1.toNat z.toNat) (a + (0 + 1 + 1 : Int) * z).toNat n2.toNat z.toNat)) (hk : K (blkV res) s) :
   VE e code133 (initT [v, .int .i64 a, .int .i64 z, .sl r 0 3 (some 3)] 0 .lf) s none [] (EEnd [.tmp 8] K) := by
 have hp := pad_len128 hl
 have hpb := padn_lt hb
 have l0 : load1 r (0 + (0 : Int).toNat * 1) s = some (.int .i64 n0) := by unfold load1; rw [rowAt_of hr]; rfl
 have l1 : load1 r (0 + (0 + 1  : Int).toNat * 1) s = some (.int .i64 n1) := by unfold load1; rw [rowAt_of hr]; rfl
 have l2 : load1 r (0 + (0 + 1 + 1  : Int).toNat * 1) s = some (.int .i64 n2) := by unfold load1; rw [rowAt_of hr]; rfl
 conv => whnf
 refine EPrim.lenPZ rfl ?_; conv => whnf
 refine EExec.loop ?_; conv => whnf
 refine EPrim.lss2 rfl rfl (fun h => ?_) (fun h => by omega); conv => whnf
 refine EPrim.ixsPZ rfl rfl (by omega) (by omega) ?_; conv => whnf
 refine stuckO _ l0 ?_; conv => whnf
 refine EPrim.mulS rfl rfl (by omega) ?_; conv => whnf
 refine EPrim.addS rfl rfl (by omega) ?_; conv => whnf
 refine ESc.ov h161 (hO.run (by omega) hv hl (putOk_of hz (by omega) h0.1 h0.2)) ?_; conv => whnf
 refine EPrim.addS rfl rfl (by omega) ?_; conv => whnf
 refine EExec.loop ?_; conv => whnf
 refine EPrim.lss2 rfl rfl (fun h => ?_) (fun h => by omega); conv => whnf
 refine EPrim.ixsPZ rfl rfl (by omega) (by omega) ?_; conv => whnf
 refine stuckO _ l1 ?_; conv => whnf
 refine EPrim.mulS rfl rfl (by omega) ?_; conv => whnf
 refine EPrim.addS rfl rfl (by omega) ?_; conv => whnf
 refine ESc.ov h161 (hO.run (by omega) (bs := (putN (pad bs) (a + (0 : Int) * z).toNat n0.toNat z.toNat)) (blkV_at (by simp only [putN_length]; exact hp) (putN_lt hpb _)) (.inr (by simp only [putN_length]; exact hp)) (putOk_of hz (by omega) h1.1 h1.2)) ?_
 rw [pad_of (by simp only [putN_length]; exact hp)]
 conv => whnf
 refine EPrim.addS rfl rfl (by omega) ?_; conv => whnf
 refine EExec.loop ?_; conv => whnf
 refine EPrim.lss2 rfl rfl (fun h => ?_) (fun h => by omega); conv => whnf
 refine EPrim.ixsPZ rfl rfl (by omega) (by omega) ?_; conv => whnf
 refine stuckO _ l2 ?_; conv => whnf
 refine EPrim.mulS rfl rfl (by omega) ?_; conv => whnf
 refine EPrim.addS rfl rfl (by omega) ?_; conv => whnf
 refine ESc.ov h161 (hO.run (by omega) (bs := (putN (putN (pad bs) (a + (0 : Int) * z).toNat n0.toNat z.toNat) (a + (0 + 1 : Int) * z).toNat n1.toNat z.toNat)) (blkV_at (by simp only [putN_length]; exact hp) (putN_lt (putN_lt hpb _) _)) (.inr (by simp only [putN_length]; exact hp)) (putOk_of hz (by omega) h2.1 h2.2)) ?_
 rw [pad_of (by simp only [putN_length]; exact hp)]
 conv => whnf
 refine EPrim.addS rfl rfl (by omega) ?_; conv => whnf
 refine EExec.loop ?_; conv => whnf
 refine EPrim.lss2 rfl rfl (fun h => by omega) (fun h => ?_); conv => whnf
 rw [hres] at hk; exact hk
theorem nput1R (e : Env) (h161 : Con e 161 putRO) (s : St) (r : Nat) (v : AV) (bs : List Nat) (hv : bytesAt St0 v = some bs) (hl : bs.length = 0 ∨ bs.length = 128) (hb : ∀ b ∈ bs, b < 256) (n0 : Int) (h0 : 0 ≤ n0 ∧ n0.toNat < 4294967296)
   (hr : s.get r = some (.row 3 [.int .i64 n0])) (K : AV → St → Prop) (res : List Nat) (hres : res = putN (pad bs) 124 n0.toNat 4) (hk : K (.sl s.next 0 128 (some 128)) (s.alloc (.row 197 (bys res)))) :
   VE e code133 (initT [v, .int .i64 124, .int .i64 4, .sl r 0 1 (some 1)] 0 .lf) s none [] (EEnd [.tmp 8] K) := by
 have hp := pad_len128 hl
 have hpb := padn_lt hb
 have l0 : load1 r (0 + (0 : Int).toNat * 1) s = some (.int .i64 n0) := by unfold load1; rw [rowAt_of hr]; rfl
 conv => whnf
 refine EPrim.lenPZ rfl ?_; conv => whnf
 refine EExec.loop ?_; conv => whnf
 refine EPrim.lss2 rfl rfl (fun h => ?_) (fun h => by omega); conv => whnf
 refine EPrim.ixsPZ rfl rfl (by omega) (by omega) ?_; conv => whnf
 refine stuckO _ l0 ?_; conv => whnf
 refine EPrim.mulS rfl rfl (by omega) ?_; conv => whnf
 refine EPrim.addS rfl rfl (by omega) ?_; conv => whnf
 refine ESc.ov h161 (putRO_run hv hl (putOk_of (by omega) (by omega) h0.1 h0.2)) ?_; conv => whnf
 refine EPrim.addS rfl rfl (by omega) ?_; conv => whnf
 refine EExec.loop ?_; conv => whnf
 refine EPrim.lss2 rfl rfl (fun h => by omega) (fun h => ?_); conv => whnf
 rw [hres] at hk; exact hk
end Go.AM

set_option maxRecDepth 100000
namespace Go.AM
attribute [local irreducible] W
open X
theorem nwR_C {P : Program} {e : Env} {fn fn' : Func} (hE : EnvOk P e) (hm : P.follows .mixedOrders = true) (h132 : Con e 132 nchkF.O) (h133 : Inl e 133 code133 [.tmp 8]) (h161 : Con e 161 putRO) (h100 : Inl e 100 code100 [.tmp 2]) (h67 : Inl e 67 code67 [.tmp 2]) (h107 : Con e 107 overO)
   (hf' : P.funcs[142]? = some fn') (hc' : compF P fn' = some a142) (hb' : HasBody P 142) (hf : P.funcs[90]? = some fn) (hc : compF P fn = some a90) {x : Nt} (hx : x.ok) (hN0 : noteB x = true) :
   C P 90 (nwF.enc x) St0 (fun v s => v = .tup [.sl 0 0 128 (some 128), .int .i64 0] ∧ s = allocs St0 [.row 197 (bys (putN (noteI x x.recs.length) 124 (sumN ((noteI x x.recs.length).take 124)) 4))]) := by
 have hxx := hx
 obtain ⟨id, ag, sq, st, v, R⟩ := x
 obtain ⟨h1, h2, h3, h4, hs, hr, hl⟩ := hx
 unfold u32B at h1 h2 h3
 dsimp only at h1 h2 h3 h4 hs hr hl
 obtain ⟨X, hX⟩ : ∃ X : Nt, X = ⟨id, ag, sq, st, v, R⟩ := ⟨_, rfl⟩
 rw [← hX] at hxx hN0 ⊢
 obtain ⟨out, hout⟩ : ∃ out, out = putN (noteI X X.recs.length) 124 (sumN ((noteI X X.recs.length).take 124)) 4 := ⟨_, rfl⟩
 rw [← hout]
 refine C.tells (C.of_V (Q := fun v s => Tells P 0 (ofL [(0, v)]) s [] (ofL [(0, .tup [.sl 0 0 128 (some 128), .int .i64 0])]) (allocs St0 [.row 197 (bys out)]) []) hE hm hf hc ?_) (fun v s h => h)
 rw [show nwF.enc X = [AV.agg [.int .u32 id, .int .u32 ag, .int .u32 sq, .int .i64 st, v]] by rw [hX]; rfl]
 show VW P e 0 code90 (initT [AV.agg [.int .u32 id, .int .u32 ag, .int .u32 sq, .int .i64 st, v]] 0 .lf) St0 none [] (EEnd [.tmp 2, .tmp 3] _)
 have hchk : ∀ (K : AV → St → Prop) (s : St) (u : AV), nchkF.out X = u → K u s → ESc e 132 [AV.agg [.int .u32 id, .int .u32 ag, .int .u32 sq, .int .i64 st, v]] s K := fun K s u hu hk => by
   have := ESc.fam nchkF h132 X hxx hu hk
   rw [show nchkF.enc X = [AV.agg [.int .u32 id, .int .u32 ag, .int .u32 sq, .int .i64 st, v]] by rw [hX]; rfl] at this
   exact this
 · have hN := hN0
   have hH : headB X = true := by unfold noteB at hN; rw [Bool.and_eq_true] at hN; exact hN.1
   unfold headB at hH
   have hH := of_decide_eq_true hH
   rw [hX] at hH
   dsimp only at hH
   conv => whnf
   refine hchk _ _ (.int .i64 0) (by simp [nchkF, hN]) ?_; conv => whnf
   repeat' (first | ((refine w6 rfl rfl ?_ ?_) <;> intro _ <;> first | (exfalso; omega) | (conv => whnf)) | fail)
   refine ESc.inl h133 (nput1O e h161 putRO_like _ _ .nils [] rfl (.inl rfl) (by simp) 0 1 78 (by omega) (by omega) ⟨by decide, by decide⟩ rfl _ (putN (List.replicate 128 0) 0 78 1) rfl ?_); conv => whnf
   have p4 : (2 : Nat) ^ (8 * (4 : Int).toNat) = 4294967296 := rfl
   have p1 : (2 : Nat) ^ (8 * (1 : Int).toNat) = 256 := rfl
   have q0 : (putN (List.replicate 128 0) 0 78 1).length = 128 := by simp only [putN_length]; simp
   have q1 : ∀ b ∈ putN (List.replicate 128 0) 0 78 1, b < 256 := putN_lt (by intro b h; rw [List.eq_of_mem_replicate h]; decide) _
   repeat' (first | (refine w14 (q' := .i64) rfl (i64_in (by omega)) ?_; conv => whnf) | fail)
   refine ESc.inl h133 (nput3O e h161 putRO_like _ _ (blkV (putN (List.replicate 128 0) 0 78 1)) (putN (List.replicate 128 0) 0 78 1) (blkV_at q0 q1) (.inr q0) q1 1 4 id ag sq (by omega) (by omega) ⟨by omega, by omega⟩ ⟨by omega, by omega⟩ ⟨by omega, by omega⟩ rfl _ (putN (putN (putN (putN (List.replicate 128 0) 0 78 1) 1 id.toNat 4) 5 ag.toNat 4) 9 sq.toNat 4) (by rw [pad_of q0]; rfl) ?_)
   obtain ⟨B1, hB1⟩ : ∃ B, B = putN (putN (putN (putN (List.replicate 128 0) 0 78 1) 1 id.toNat 4) 5 ag.toNat 4) 9 sq.toNat 4 := ⟨_, rfl⟩
   have r0 : B1.length = 128 := by rw [hB1]; simp only [putN_length]; simp
   have r1 : ∀ b ∈ B1, b < 256 := by rw [hB1]; exact putN_lt (putN_lt (putN_lt q1 _) _) _
   rw [← hB1]
   conv => whnf
   repeat' (first | (refine EPrim.lenZ rfl hs ?_; conv => whnf) | fail)
   refine ESc.inl h133 (nput2O e h161 putRO_like _ _ (blkV B1) B1 (blkV_at r0 r1) (.inr r0) r1 13 1 st (R.length : Int) (by omega) (by omega) ⟨by omega, by omega⟩ ⟨by omega, by omega⟩ rfl _ (noteH X) (by rw [pad_of r0, hX, hB1]; rfl) ?_); conv => whnf
   repeat' (first | (refine EPrim.lenZ rfl hs ?_; conv => whnf) | fail)
   refine ESc.inl h100 ?_; conv => whnf
   refine W.abs [(1, .ptr 0 0), (5, .ptr 1 0), (40, .fn 142 [] [.ptr 2 0])] (rowsW id ag sq st v R.length (noteH X)) [0, 2, 5] ⟨by decide, ⟨⟨rfl, rfl⟩, ⟨rfl, rfl⟩, ⟨rfl, rfl⟩, trivial⟩, ⟨⟨?_, ?_⟩, ⟨hfs_bds _ rfl, rfl⟩, ⟨rfl, rfl⟩, trivial⟩⟩ ?_
   · show (true && (true && (true && (true && (bd _ v && true))))) = true; rw [hf_bd _ hs.hf]; rfl
   · show _ = some (AObj.row 101 [_, _, _, _, mapV _ v]); rw [hf_mapV _ hs.hf]; rfl
   refine W.rngI (f := 142) (first := []) (cap := [.ptr 2 0]) hb' rfl ?_ ?_
   · intro q hq
     have hq : q < 3 := hq
     rcases q with _ | _ | _ | q
     · exact .tmp 1 (.ptr 0 0) rfl rfl
     · exact .tmp 5 (.ptr 1 0) rfl rfl
     · exact .tmp 40 (.fn 142 [] [.ptr 2 0]) rfl rfl
     · omega
   show C1 P 142 [.yld 4, .ptr 2 0] (allocs St0 (rowsW id ag sq st v R.length (noteH X) ++ [.defd, .loop .ready none 0 tmW [41, 42] asgW bodyW 3])) (fun _ s' => RngOut 4 [3] tmW s' _)
   refine C1.of_V hE hm hf' hc' ?_; conv => whnf
   have hXR : X.recs = R := by rw [hX]
   have hv1 : (true && (true && (true && (true && (bd 5 v && true))))) = true := by rw [hf_bd _ hs.hf]; rfl
   have hv2 : ∀ ρ, mapO ρ (.row 101 [.int .u32 id, .int .u32 ag, .int .u32 sq, .int .i64 st, v]) = .row 101 [.int .u32 id, .int .u32 ag, .int .u32 sq, .int .i64 st, v] := fun ρ => by show AObj.row 101 [_, _, _, _, mapV _ v] = _; rw [hf_mapV _ hs.hf]; rfl
   have hB1 : ∀ (ρ : Nat → Nat) (B : List Nat), mapO ρ (.row 32 [blkV B]) = .row 32 [blkV B] := fun _ _ => rfl
   refine W.loopK (α := Nat) (fun i => [(0, .yld 4), (1, .ptr 2 0), (3, .int .i64 (i : Int))]) (fun i => rowsW id ag sq st v R.length (noteI X i) ++ [.defd, .loop .ready none 0 tmW [41, 42] asgW bodyW 3]) (fun i => R.length - i)
     (fun i => i ≤ R.length) 0 [0, 1, 2, 3, 4] (Nat.zero_le _) ?_ ?_
   · exact ⟨rfl, by decide, ⟨⟨rfl, rfl⟩, ⟨rfl, rfl⟩, ⟨rfl, rfl⟩, trivial⟩, ⟨⟨hv1, by rw [hv2]; rfl⟩, ⟨rfl, rfl⟩, ⟨rfl, rfl⟩, ⟨rfl, rfl⟩, ⟨rfl, rfl⟩, trivial⟩⟩
   intro i hi
   refine vw_sound hE hm ?_; conv => whnf
   refine EPrim.lss2 rfl rfl (fun h => ?_) (fun h => ?_) <;> conv => whnf
   · have hlt : i < R.length := by omega
     refine EPrim.mulS rfl rfl (by omega) ?_; conv => whnf
     refine EPrim.addS rfl rfl (by omega) ?_; conv => whnf
     refine ERound.mk ?_; conv => whnf
     refine EPrim.ixsS rfl hs rfl hlt ?_; conv => whnf
     have hst : noteI X (i + 1) = noteS (noteI X i) i R[i] := by
       show (match X.recs[i]? with | some r => noteS (noteI X i) i r | none => noteI X i) = _
       rw [hXR, List.getElem?_eq_getElem hlt]
     have hx3 := rcs_take hlt
     have hxr := hr R[i] (List.getElem_mem hlt)
     have hI0 := noteI_length X i
     have hI1 := noteI_lt X i
     revert hst hx3 hxr
     generalize R[i] = x
     obtain ⟨sl, ba, su⟩ := x
     rintro hst hx3 ⟨hsl, hsu⟩
     unfold u32B at hsu
     dsimp only at hsl hsu
     refine ETake.eq (cs := [.int .u8 sl, .bool ba, .int .u32 su]) hx3 ?_
     cases ba
     · conv => whnf
       repeat' (first | ((first | refine w7 rfl rfl (by omega) ?_ | refine w14 (q' := .i64) rfl (i64_in (by omega)) ?_); conv => whnf) | fail)
       refine ESc.inl h133 (nput2O e h161 putRO_like _ _ (blkV (noteI X i)) (noteI X i) (blkV_at hI0 hI1) (.inr hI0) hI1 (15 + 6 * (i : Int)) 1 sl 0 (by omega) (by omega) ⟨by omega, by omega⟩ ⟨by omega, by omega⟩ rfl _ (putN (putN (noteI X i) (15 + 6 * i) sl.toNat 1) (16 + 6 * i) (bareN false) 1) (by rw [pad_of hI0, show (15 + 6 * (i : Int) + 0 * 1).toNat = 15 + 6 * i by omega, show (15 + 6 * (i : Int) + (0 + 1) * 1).toNat = 16 + 6 * i by omega]; rfl) ?_); conv => whnf
       refine ⟨rfl, ?_⟩; conv => whnf
       have hJ0 : (putN (putN (noteI X i) (15 + 6 * i) sl.toNat 1) (16 + 6 * i) (bareN false) 1).length = 128 := by simp only [putN_length]; exact hI0
       refine ESc.inl h133 (nput1O e h161 putRO_like _ _ (blkV (putN (putN (noteI X i) (15 + 6 * i) sl.toNat 1) (16 + 6 * i) (bareN false) 1)) _ (blkV_at hJ0 (putN_lt (putN_lt hI1 _) _)) (.inr hJ0) (putN_lt (putN_lt hI1 _) _) (15 + 6 * (i : Int) + 2) 4 su (by omega) (by omega) ⟨by omega, by omega⟩ rfl _ (noteS (noteI X i) i ⟨sl, false, su⟩) (by rw [pad_of hJ0, show (15 + 6 * (i : Int) + 2 + 0 * 4).toNat = 17 + 6 * i by omega]; rfl) ?_)
       rw [← hst]
       conv => whnf
       refine EPrim.addS rfl rfl (by omega) ?_; conv => whnf
       refine ⟨rfl, i + 1, hlt, by omega, [0, 1, 2, 3, 4], ⟨rfl, by decide, ⟨⟨rfl, rfl⟩, ⟨rfl, rfl⟩, ⟨rfl, rfl⟩, trivial⟩, ⟨⟨hv1, by rw [hv2]; rfl⟩, ⟨rfl, rfl⟩, ⟨rfl, rfl⟩, ⟨rfl, rfl⟩, ⟨rfl, rfl⟩, trivial⟩⟩⟩
     · conv => whnf
       repeat' (first | ((first | refine w7 rfl rfl (by omega) ?_ | refine w14 (q' := .i64) rfl (i64_in (by omega)) ?_); conv => whnf) | fail)
       refine ESc.inl h133 (nput2O e h161 putRO_like _ _ (blkV (noteI X i)) (noteI X i) (blkV_at hI0 hI1) (.inr hI0) hI1 (15 + 6 * (i : Int)) 1 sl 1 (by omega) (by omega) ⟨by omega, by omega⟩ ⟨by omega, by omega⟩ rfl _ (putN (putN (noteI X i) (15 + 6 * i) sl.toNat 1) (16 + 6 * i) (bareN true) 1) (by rw [pad_of hI0, show (15 + 6 * (i : Int) + 0 * 1).toNat = 15 + 6 * i by omega, show (15 + 6 * (i : Int) + (0 + 1) * 1).toNat = 16 + 6 * i by omega]; rfl) ?_); conv => whnf
       refine ⟨rfl, ?_⟩; conv => whnf
       have hJ0 : (putN (putN (noteI X i) (15 + 6 * i) sl.toNat 1) (16 + 6 * i) (bareN true) 1).length = 128 := by simp only [putN_length]; exact hI0
       refine ESc.inl h133 (nput1O e h161 putRO_like _ _ (blkV (putN (putN (noteI X i) (15 + 6 * i) sl.toNat 1) (16 + 6 * i) (bareN true) 1)) _ (blkV_at hJ0 (putN_lt (putN_lt hI1 _) _)) (.inr hJ0) (putN_lt (putN_lt hI1 _) _) (15 + 6 * (i : Int) + 2) 4 su (by omega) (by omega) ⟨by omega, by omega⟩ rfl _ (noteS (noteI X i) i ⟨sl, true, su⟩) (by rw [pad_of hJ0, show (15 + 6 * (i : Int) + 2 + 0 * 4).toNat = 17 + 6 * i by omega]; rfl) ?_)
       rw [← hst]
       conv => whnf
       refine EPrim.addS rfl rfl (by omega) ?_; conv => whnf
       refine ⟨rfl, i + 1, hlt, by omega, [0, 1, 2, 3, 4], ⟨rfl, by decide, ⟨⟨rfl, rfl⟩, ⟨rfl, rfl⟩, ⟨rfl, rfl⟩, trivial⟩, ⟨⟨hv1, by rw [hv2]; rfl⟩, ⟨rfl, rfl⟩, ⟨rfl, rfl⟩, ⟨rfl, rfl⟩, ⟨rfl, rfl⟩, trivial⟩⟩⟩
   · have hiR : i = X.recs.length := by rw [hXR]; omega
     have hI0 := noteI_length X i
     have hI1 := noteI_lt X i
     rw [← hiR] at hout
     revert hout
     generalize noteI X i = B at hI0 hI1
     intro hout
     refine EPrim.slcFz (l := 0) (h := 124) rfl rfl rfl (by omega) (by omega) (by omega) (by rw [bys_length]; omega) ?_; conv => whnf
     refine ESc.inl h67 ?_; conv => whnf
     have htk : ∀ b ∈ B.take 124, b < 256 := fun b hb' => hI1 b (List.mem_of_mem_take hb')
     have htl : (B.take 124).length = 124 := by rw [List.length_take]; omega
     have hsum : sumN (B.take 124) < 4294967296 := Nat.xor_lt_two_pow (n := 32) (crcGo_lt htk (by decide)) (by decide)
     refine ESc.ov h107 (v := .int .u32 (Int.ofNat (sumN (B.take 124)))) (s' := _) (by
       show (Option.rec .fail (fun bs => gd (Nat.blt (lenL bs) 1000000) (.ok (.int .u32 (.ofNat (Nat.xor (crcGo bs (Nat.xor 0 4294967295)) 4294967295))) _)) (bytesAt _ (.fz 124 _ ((bys B).take 124))) : RV) = _
       rw [bys_take, bytesAt_fz htl htk]
       show gd (Nat.blt (lenL (B.take 124)) 1000000) _ = _
       rw [lenL_eq, htl]; rfl) ?_
     conv => whnf
     refine ⟨rfl, ?_⟩; conv => whnf
     refine EPrim.cviI64 rfl (by omega) ?_; conv => whnf
     refine ESc.inl h133 (nput1R e h161 _ _ (blkV B) B (blkV_at hI0 hI1) (.inr hI0) hI1 (Int.ofNat (sumN (B.take 124))) ⟨Int.natCast_nonneg _, by show sumN (B.take 124) < _; omega⟩ rfl _ (putN B 124 (sumN (B.take 124)) 4) (by rw [pad_of hI0]; rfl) ?_); conv => whnf
     exact Abs.tells (rs := [_]) ⟨by simp, ⟨⟨rfl, rfl⟩, trivial⟩, ⟨⟨rowH (scs_hfs_bys _), by rw [mapRowH (scs_hfs_bys _), hout]; rfl⟩, trivial⟩⟩
end Go.AM

set_option maxRecDepth 100000
namespace Go.AM
attribute [local irreducible] W
open X
def LL (k r : Nat) (M : List (Int × List Nat)) : List AV := (M.map stoodV).set k (.sl r 0 128 (some 128))
theorem LL_length (k r : Nat) (M : List (Int × List Nat)) : (LL k r M).length = M.length := by unfold LL; rw [List.length_set, List.length_map]
theorem LL_app {k r : Nat} {M : List (Int × List Nat)} {p : Int × List Nat} (h : k < M.length) : LL k r (M ++ [p]) = LL k r M ++ [stoodV p] := by
 unfold LL; rw [List.map_append, List.set_append_left _ _ (by rw [List.length_map]; exact h)]; rfl
theorem LL_at {k r : Nat} {M : List (Int × List Nat)} {p : Int × List Nat} (h : M.length = k) : LL k r (M ++ [p]) = M.map stoodV ++ [.sl r 0 128 (some 128)] := by
 unfold LL; rw [List.map_append, List.set_append_right _ _ (by rw [List.length_map]; omega), List.length_map, h, Nat.sub_self]; rfl
theorem map_idB {f : AV → AV} {l : List AV} (h : ∀ v ∈ l, f v = v) : l.map f = l := by
 induction l with
 | nil => rfl
 | cons v l ih => rw [List.map_cons, h v (by simp), ih (fun u hu => h u (by simp [hu]))]
theorem mapVs_LL (ρ : Nat → Nat) (k r : Nat) (M : List (Int × List Nat)) : mapVs ρ (LL k r M) = LL k (ρ r) M := by
 rw [mapVs_map]; unfold LL
 rw [List.map_set, map_idB (l := M.map stoodV)]
 · rfl
 · intro v hv; obtain ⟨p, _, rfl⟩ := List.mem_map.1 hv; rfl
theorem bds_LL {n k r : Nat} (M : List (Int × List Nat)) (h : r < n) : bds n (LL k r M) = true := by
 rw [bds_all, List.all_eq_true]
 intro v hv
 unfold LL at hv
 rcases List.mem_or_eq_of_mem_set hv with hv | rfl
 · obtain ⟨p, _, rfl⟩ := List.mem_map.1 hv; rfl
 · show Nat.blt r n = true
   rw [Nat.blt_eq]; exact h
theorem frzVs_LL {n k r : Nat} (cs : List AV) (M : List (Int × List Nat)) (h : r ≠ n) : frzVs n cs (LL k r M) = LL k r M := by
 rw [frzVs_map]
 refine map_idB fun v hv => ?_
 unfold LL at hv
 rcases List.mem_or_eq_of_mem_set hv with hv | rfl
 · obtain ⟨p, _, rfl⟩ := List.mem_map.1 hv; rfl
 · show cond (Nat.beq r n) _ _ = _
   have e : Nat.beq r n = false := by
     cases hq : Nat.beq r n with
     | false => rfl
     | true => exact absurd (Nat.eq_of_beq_eq_true hq) h
   rw [e]; rfl
theorem mapVs_appB (ρ : Nat → Nat) (L : List AV) (x : AV) : mapVs ρ (L ++ [x]) = mapVs ρ L ++ [mapV ρ x] := by simp only [mapVs_map, List.map_append, List.map_cons, List.map_nil]
theorem bds_appB {n : Nat} {L : List AV} {x : AV} (h1 : bds n L = true) (h2 : bd n x = true) : bds n (L ++ [x]) = true := by
 rw [bds_all] at h1 ⊢
 rw [List.all_append, h1]; show (true && (bd n x && true)) = true
 rw [h2]; rfl
def osK (C D : List AV) (id ag sq st : Int) (k0 : Nat) (m : List Nat) (M : List (Int × List Nat)) (i : Nat) : List AObj :=
 if k0 < i then osB C D id ag sq st ((M.take i).map recN) (LL k0 6 (M.take i)) i ++ [.row 5 (bys m)] else osB C D id ag sq st ((M.take i).map recN) ((M.take i).map stoodV) i
theorem osK_gt {C D : List AV} {id ag sq st : Int} {k0 : Nat} {m : List Nat} {M : List (Int × List Nat)} {i : Nat} (h : k0 < i) : osK C D id ag sq st k0 m M i = osB C D id ag sq st ((M.take i).map recN) (LL k0 6 (M.take i)) i ++ [.row 5 (bys m)] := if_pos h
theorem osK_le {C D : List AV} {id ag sq st : Int} {k0 : Nat} {m : List Nat} {M : List (Int × List Nat)} {i : Nat} (h : i ≤ k0) : osK C D id ag sq st k0 m M i = osB C D id ag sq st ((M.take i).map recN) ((M.take i).map stoodV) i := if_neg (by omega)
theorem blk_stepC {P : Program} {t : AT} {s : St} {C D : List AV} {id ag sq st : Int} {R : List Rc} {k0 : Nat} {M : List (Int × List Nat)} {m : List Nat} {p : Int × List Nat} {tl : List (Nat × AV)} {i : Nat} {rs : List Nat} (htb : tmpsB tl = true) (htl : frzT 7 (bys (stoodN p.2)) tl = tl) (hC : hfs C = true) (hD : hfs D = true)
   (h : Abs t s tl ((osB C D id ag sq st (R ++ [recN p]) (LL k0 6 M ++ [.sl 7 0 128 (some 128)]) (i + 1) ++ [.row 5 (bys m)]) ++ [.row 5 (bys (stoodN p.2))]) rs) :
   Tells P 0 t s [] (ofL tl) (allocs St0 (osB C D id ag sq st (R ++ [recN p]) (LL k0 6 M ++ [stoodV p]) (i + 1) ++ [.row 5 (bys m)])) [] := by
 refine AbsK.frz (n := 7) h.toK rfl (scs_hfs_bys _) rfl rfl rfl htb htl ?_
 show [frzO 7 (bys (stoodN p.2)) (.row 24 C), frzO 7 (bys (stoodN p.2)) (.row 34 D), _, _, frzO 7 (bys (stoodN p.2)) (.row 123 (rcs (R ++ [recN p]))), AObj.row 32 (frzVs 7 (bys (stoodN p.2)) (LL k0 6 M ++ [.sl 7 0 128 (some 128)])), frzO 7 (bys (stoodN p.2)) (.row 5 (bys m))] = _
 rw [frzRowH hC, frzRowH hD, frzRowH (hfs_rcs _), frzRowH (scs_hfs_bys m), frzVs_append, frzVs_LL _ _ (by decide)]
 rfl
theorem frz_tlB7 {bv : AV} {n i : Nat} {cs : List AV} (hbv : AM.hf bv = true) : frzT 7 cs (tlB bv n i) = tlB bv n i := by
 show [_, _, _, _, (33, frzV 7 _ bv), _, _] = _
 rw [hf_frzV bv hbv]; rfl
def osCR (C D : List AV) (id ag sq st : Int) (R : List Rc) (L : List AV) (m : List Nat) (n : Nat) : List AObj :=
 [.row 24 C, .row 34 D, .row 101 [.int .u32 id, .int .u32 ag, .int .u32 sq, .int .i64 st, .fz n none (rcs R)], .row 25 [.sl 4 0 n none], .row 32 L, .row 5 (bys m)]
theorem osCR_tells {P : Program} {C D : List AV} {id ag sq st : Int} {R : List Rc} {k0 : Nat} {M : List (Int × List Nat)} {m : List Nat} {t : AT} {i : Nat} (hC : hfs C = true) (hD : hfs D = true) (h1 : t.get 11 = some (.ptr 2 0)) (h2 : t.get 12 = some (.ptr 3 0)) :
   Tells P 0 t (allocs St0 (osB C D id ag sq st R (LL k0 6 M) (i + 1) ++ [.row 5 (bys m)])) [] (ofL tlC) (allocs St0 (osCR C D id ag sq st R (LL k0 5 M) m (i + 1))) [] := by
 refine AbsK.frz (k := 0) (tl := tlC) (os := [.row 24 C, .row 34 D, .row 101 [.int .u32 id, .int .u32 ag, .int .u32 sq, .int .i64 st, .sl 6 0 (i + 1) none], .row 25 [.sl 4 0 (i + 1) none], .row 32 (LL k0 5 M), .row 5 (bys m)]) (e := 123) (cs := rcs R) (rs := [0, 1, 2, 3, 5, 6, 4]) (n := 6) (Abs.toK ⟨by decide, ⟨⟨rfl, h1⟩, ⟨rfl, h2⟩, trivial⟩, ⟨⟨rowH hC, by rw [mapRowH hC]; rfl⟩, ⟨rowH hD, by rw [mapRowH hD]; rfl⟩, ⟨rfl, rfl⟩, ⟨rfl, rfl⟩, ⟨bds_LL _ (by show (5 : Nat) < 7; decide), ?_⟩, ⟨rowH (scs_hfs_bys m), by rw [mapRowH (scs_hfs_bys m)]; rfl⟩, ⟨rowH (hfs_rcs R), by rw [mapRowH (hfs_rcs R)]; rfl⟩, trivial⟩⟩) rfl (hfs_rcs R) rfl rfl rfl rfl rfl ?_
 · show _ = some (AObj.row 32 (mapVs _ (LL k0 5 M)))
   rw [mapVs_LL]; rfl
 · show [frzO 6 (rcs R) (.row 24 C), frzO 6 (rcs R) (.row 34 D), _, _, AObj.row 32 (frzVs 6 (rcs R) (LL k0 5 M)), frzO 6 (rcs R) (.row 5 (bys m))] = _
   rw [frzRowH hC, frzRowH hD, frzRowH (scs_hfs_bys m), frzVs_LL _ _ (by decide)]; rfl
def osRB (hd : AV) (k0 : Nat) (M : List (Int × List Nat)) (m : List Nat) : List AObj := [.row 5 (bys m), .row 32 (hd :: LL k0 0 M)]
theorem rest_runR {P : Program} {e : Env} (hE : EnvOk P e) (hm : P.follows .mixedOrders = true) (h90 : Con e 90 nwF.O) (h91 : Con e 91 insO) {C D : List AV} {id ag sq st : Int} {R : List Rc} {k0 : Nat} {M : List (Int × List Nat)} {m : List Nat} {n : Nat} (hx : Nt.ok ⟨id, ag, sq, st, .fz n none (rcs R), R⟩) (hN : noteB ⟨id, ag, sq, st, .nils, R⟩ = true) (hn : R.length = n) (hl : M.length = n) (h0 : 0 < n) (h1 : n < 100000) (K : AV → St → Prop)
   (hk : ∀ s v, Tells P 0 (ofL [(0, v)]) s [] (ofL [(0, .tup [.sl 1 0 (n + 1) none, .int .i64 0])]) (allocs St0 (osRB (blkV (noteBk ⟨id, ag, sq, st, .nils, R⟩)) k0 M m)) [] → K v s) :
   W P 0 none rest48 (ofL tlC) (allocs St0 (osCR C D id ag sq st R (LL k0 5 M) m n)) [] (Ends [.tmp 8, .tmp 9] K) := by
 refine W.endV hE hm ?_; conv => whnf
 have hN' : noteB ⟨id, ag, sq, st, .fz n none (rcs R), R⟩ = true := hN
 refine ESc.fam nwF h90 ⟨id, ag, sq, st, .fz n none (rcs R), R⟩ hx (u := .tup [blkV (noteBk ⟨id, ag, sq, st, .nils, R⟩), .int .i64 0]) (by show (if noteB _ then _ else _) = _; rw [hN', if_pos rfl, ← noteBk_v id ag sq st (.fz n none (rcs R))]; rfl) ?_; conv => whnf
 repeat' (first | ((refine w6 rfl rfl ?_ ?_) <;> intro _ <;> first | (exfalso; omega) | (conv => whnf)) | fail)
 refine ESc.ov h91 (insO_at rfl rfl (by rw [LL_length]; exact hl) h0 h1 (by show (4 : Nat) ≠ 6; decide) (by show (7 : Nat) < 1000000000; decide)) ?_; conv => whnf
 refine hk _ _ (Abs.tells (rs := [5, 7]) ⟨by decide, ⟨⟨rfl, rfl⟩, trivial⟩, ⟨⟨rowH (scs_hfs_bys m), by rw [mapRowH (scs_hfs_bys m)]; rfl⟩, ⟨?_, ?_⟩, trivial⟩⟩)
 · show (true && bds 2 (LL k0 0 M)) = true
   rw [bds_LL _ (by decide)]; rfl
 · show _ = some (AObj.row 32 (blkV _ :: mapVs _ (LL k0 0 M)))
   rw [mapVs_LL]; rfl
end Go.AM

set_option maxRecDepth 100000
namespace Go.AM
attribute [local irreducible] W
open X
set_option maxHeartbeats 4000000 in
theorem blk_walk {P : Program} {e : Env} (hE : EnvOk P e) (hm : P.follows .mixedOrders = true) (h50 : Con e 50 dchkF.O) (h88 : Inl e 88 code88 []) (h89 : Inl e 89 code89 [.tmp 2]) (h67 : Inl e 67 code67 [.tmp 2]) (h107 : Con e 107 overO)
   {x : BD} (hx : x.ok) (hG : CD.good ⟨x.c, x.d.d⟩) {k0 : Nat} {m : List Nat} (hm0 : ∀ p0, x.d.prs[k0]? = some p0 → m = stoodN p0.2) (K : AV → St → Prop)
   (hR : k0 < x.d.prs.length → W P 0 none rest48 (ofL tlC) (allocs St0 (osCR (Cfg.c x.c) (Dl.c x.d.d) x.c.id x.age x.seq x.d.st (x.d.prs.map recN) (LL k0 5 x.d.prs) m x.d.prs.length)) [] (Ends [.tmp 8, .tmp 9] K))
   (hF : x.d.prs.length ≤ k0 → W P 0 none rest48 (ofL tlC) (allocs St0 (osC (Cfg.c x.c) (Dl.c x.d.d) x.c.id x.age x.seq x.d.st (x.d.prs.map recN) (x.d.prs.map stoodV) x.d.prs.length)) [] (Ends [.tmp 8, .tmp 9] K)) :
   W P 0 none code48 (initT x.enc 0 .lf) St0 [] (Ends [.tmp 8, .tmp 9] K) := by
 obtain ⟨X, hX⟩ : ∃ X : BD, X = x := ⟨_, rfl⟩
 obtain ⟨⟨id, mb, ch, ro, lo, he⟩, ag, sq, ⟨st, sv, sl, bv, us, bs, pv, pb⟩⟩ := x
 have hxx := hx
 obtain ⟨hco, ha, hq, hd⟩ := hx
 have hd0 := hd.d
 obtain ⟨hst, hsl, hsb, hsn, hbl, ⟨pl, hp⟩, hpn⟩ := hd.d
 have hbs := hd.bs
 have hpb := hd.pb
 dsimp only [DB.d] at hst hsl hsb hsn hbl hp hpn hco hbs hpb ha hq
 rw [← hX] at hm0 hR hF ⊢
 have henc : X.enc = [AV.agg (Cfg.c ⟨id, mb, ch, ro, lo, he⟩), .int .u32 ag, .int .u32 sq, AV.agg [.int .i64 st, sv, bv, pv]] := by rw [hX]; rfl
 rw [henc]
 refine W.seqV hE hm ?_; conv => whnf
 refine W.seqV hE hm ?_; conv => whnf
 refine ESc.fam dchkF h50 ⟨⟨id, mb, ch, ro, lo, he⟩, DB.d ⟨st, sv, sl, bv, us, bs, pv, pb⟩⟩ ⟨hco, hd0⟩ (u := .int .i64 (if CD.good ⟨⟨id, mb, ch, ro, lo, he⟩, DB.d ⟨st, sv, sl, bv, us, bs, pv, pb⟩⟩ then 0 else 8)) rfl ?_
 · rw [if_pos hG]
   have hgd := hG.2
   have hmay := hG.1
   unfold Cfg.may at hmay
   unfold dealB at hgd
   simp only [Bool.and_eq_true, decide_eq_true_eq, Bool.not_eq_true', DB.d, List.length_map] at hgd
   obtain ⟨⟨⟨⟨hodd, hstr⟩, hslot⟩, hbn⟩, hpo⟩ := hgd
   dsimp only at hmay hstr hslot hbn hpo hodd
   have hslo : ∀ s ∈ sl, 0 ≤ s ∧ s ≤ 14 := slotsOk_bd hslot (by omega)
   have hsl0 : 0 < sl.length := slotsOk_pos hslot
   have hsl1 := slotsOk_len hslot
   have hodl := odd_all hodd
   have hbs2 := hbs.length
   have hpo2 : pb.length = 0 ∨ pb.length = 128 := by
     unfold oddB at hpo
     simp only [Bool.and_eq_false_iff, decide_eq_false_iff_not, Decidable.not_not] at hpo
     exact hpo
   conv => whnf
   repeat' (first | ((refine w6 rfl rfl ?_ ?_) <;> intro _ <;> first | (exfalso; omega) | (conv => whnf)) | fail)
   iterate 4
     refine W.seqV hE hm ?_; conv => whnf
   repeat' (first | (refine EPrim.lenZ rfl hbl.sl ?_; conv => whnf) | fail)
   obtain ⟨C, hC⟩ : ∃ C : Cfg, C = ⟨id, mb, ch, ro, lo, he⟩ := ⟨_, rfl⟩
   have hDf : hfs [.int .i64 st, sv, bv, pv] = true := by
     show (true && (AM.hf sv && (AM.hf bv && (AM.hf pv && true)))) = true
     rw [hsl.hf, hbl.sl.hf, hp.hf]; rfl
   have hCf : hfs [.int .u32 id, .int .i64 mb, .int .i64 ch, .int .i64 ro, .int .i64 lo, .int .i64 he] = true := rfl
   obtain ⟨Z, hZ⟩ : ∃ Z, Z = sl.zip bs := ⟨_, rfl⟩
   have hZl : Z.length = us.length := by rw [hZ, List.length_zip]; omega
   have hbv := hbl.sl.hf
   dsimp only at hbv
   have hprs : X.d.prs = Z ++ (if pb.length = 0 then [] else [(255, pb)]) := by rw [hX, hZ]; rfl
   refine W.loopT (α := Nat) (fun i => tlB bv us.length i)
     (fun i => osK [.int .u32 id, .int .i64 mb, .int .i64 ch, .int .i64 ro, .int .i64 lo, .int .i64 he] [.int .i64 st, sv, bv, pv] id ag sq st k0 m Z i) (fun i => us.length - i) (fun i => i ≤ us.length) 0 (Nat.zero_le _)
     (by rw [osK_le (Nat.zero_le _)]; exact Abs.tells (rs := [0, 1, 2, 3]) ⟨by decide, ⟨⟨rfl, rfl⟩, ⟨rfl, rfl⟩, ⟨rfl, rfl⟩, ⟨rfl, rfl⟩, ⟨hf_bd _ hbv, by rw [hf_mapV _ hbv]; rfl⟩, ⟨rfl, rfl⟩, ⟨rfl, rfl⟩, trivial⟩, ⟨⟨rfl, rfl⟩, ⟨rowH hDf, by rw [mapRowH hDf]; rfl⟩, ⟨rfl, rfl⟩, ⟨rfl, rfl⟩, trivial⟩⟩) ?_
   intro i hi
   refine vw_sound hE hm ?_
   by_cases hlt : i < us.length
   · have hlz : i < Z.length := by omega
     have hlb : i < bs.length := by omega
     have hls : i < sl.length := by omega
     have hzi : Z[i] = (sl[i], bs[i]) := by simp only [hZ]; rw [List.getElem_zip]
     have htk : Z.take (i + 1) = Z.take i ++ [(sl[i], bs[i])] := by rw [List.take_succ_eq_append_getElem hlz, hzi]
     have hsi := hslo sl[i] (List.getElem_mem hls)
     have hbi := hodl bs[i] (List.getElem_mem hlb)
     obtain ⟨b', hb1, hb2⟩ := hbs.get (List.getElem?_eq_getElem hlt)
     rw [List.getElem?_eq_getElem hlb] at hb1
     have hb1 := Option.some.inj hb1
     subst hb1
     have hslv : ints sl = ints sl := rfl
     have hsget : (ints sl)[i]? = some (.int .i64 sl[i]) := by unfold ints; rw [List.getElem?_map, List.getElem?_eq_getElem hls]; rfl
     have huget : us[i]? = some us[i] := List.getElem?_eq_getElem hlt
     have hmk : i = k0 → m = stoodN bs[i] := by
       intro hik
       exact hm0 _ (by rw [← hik, hprs, List.getElem?_append_left hlz, List.getElem?_eq_getElem hlz, hzi])
     revert htk hsi hbi hb2 hsget huget hmk
     generalize sl[i] = s
     generalize bs[i] = b
     generalize us[i] = u
     intro htk hsi hbi hb2 hsget huget hmk
     obtain ⟨w0, wt, hw⟩ : ∃ w0 wt, wholeN b = w0 :: wt := by
       have := wholeN_length (b := b) (by omega)
       cases hq : wholeN b with
       | nil => rw [hq] at this; simp at this
       | cons a l => exact ⟨a, l, rfl⟩
     have hwl : wt.length = 127 := by have := wholeN_length (b := b) (by omega); rw [hw] at this; simpa using this
     have hwb := wholeN_lt hb2.2
     rw [hw] at hwb
     by_cases hki : k0 < i
     · rw [osK_gt hki]
       obtain ⟨i, rfl⟩ : ∃ j, i = j + 1 := ⟨i - 1, by omega⟩
       have hRl : ((Z.take (i + 1)).map recN).length = i + 1 := by simp; omega
       have hLl : (LL k0 6 (Z.take (i + 1))).length = i + 1 := by rw [LL_length]; simp; omega
       have hlk : k0 < (Z.take (i + 1)).length := by simp; omega
       have hul := hbl.len
       dsimp only at hul
       conv => whnf
       refine EPrim.lss2 rfl rfl (fun h => ?_) (fun h => by omega); conv => whnf
       refine EPrim.ixsS rfl hbl.sl rfl hlt ?_; conv => whnf
       refine EHead.mk (v := u) (by rw [Nat.mul_one, List.getElem?_drop, Nat.add_zero]; exact huget) ?_; conv => whnf
       refine EPrim.ixsS rfl hsl rfl hls ?_; conv => whnf
       refine EHead.mk (v := .int .i64 s) (by rw [Nat.mul_one, List.getElem?_drop, Nat.add_zero]; exact hsget) ?_; conv => whnf
       refine ECall.inl h88.O h88.G ?_; conv => whnf
       refine ESc.inl h89 ?_; conv => whnf
       refine EPrim.mksB (n := 127) rfl rfl (by decide) ?_; conv => whnf
       refine EPrim.copyS (l := bys b) (n := b.length) rfl rfl hb2.1 (by omega) (store_whole rfl (by omega)) (fun S hS => ?_)
       rcases hS with ⟨rfl, h0⟩ | rfl
       · have hb0 : b = [] := List.map_eq_nil_iff.1 h0
         have h00 : 0 = w0 ∧ List.replicate 127 0 = wt := by
           rw [hb0] at hw
           have hw : (0 :: List.replicate 127 0 : List Nat) = w0 :: wt := hw
           injection hw with q1 q2
           exact ⟨q1, q2⟩
         obtain ⟨rfl, rfl⟩ := h00
         conv => whnf
         refine EPrim.ixsPZ rfl rfl (by omega) (by omega) ?_; conv => whnf
         refine EPrim.eql2 rfl rfl (fun hc => absurd hc (by decide)) (fun hc => ?_)
         have hbq : bareQ b = false := by rw [hb0]; rfl
         have hsw : stoodN b = 0 :: List.replicate 127 0 := by rw [hb0]; rfl
         conv => whnf
         repeat' (first | (refine w14 (q' := .u8) rfl (u8_in (by omega)) ?_; conv => whnf) | fail)
         refine ESc.inl h67 ?_; conv => whnf
         refine ESc.ov h107 (over_row (e := 5) (bs := stoodN b) (by rw [hsw]; rfl) (stoodN_length (by omega)) (stoodN_lt hb2.2)) ?_; conv => whnf
         repeat' (first | (refine EPrim.appNil (m := 1) rfl rfl rfl rfl (by decide) (by decide) ?_; conv => whnf) | (refine EPrim.appU (m := 1) rfl rfl rfl rfl (by first | (rw [rcs_length, hRl]) | (rw [hLl]; omega)) rfl (by decide) (by omega) ?_; conv => whnf) | ((first | refine w7 rfl rfl (by omega) ?_ | refine ⟨rfl, ?_⟩); conv => whnf) | fail)
         refine ⟨i + 1 + 1, by omega, by omega, ?_⟩
         rw [osK_gt (by omega), htk, List.map_append, LL_app hlk]
         refine blk_stepC (i := i + 1) (R := (List.map recN (Z.take (i + 1)))) (M := Z.take (i + 1)) (p := (s, b)) (rs := [0, 1, 2, 3, 10, 11, 6, 7]) rfl (frz_tlB7 hbv) hCf hDf ⟨by decide, ⟨⟨rfl, rfl⟩, ⟨rfl, rfl⟩, ⟨rfl, rfl⟩, ⟨rfl, rfl⟩, ⟨hf_bd _ hbv, by rw [hf_mapV _ hbv]; rfl⟩, ⟨rfl, rfl⟩, ⟨rfl, rfl⟩, trivial⟩, ⟨⟨rowH hCf, by rw [mapRowH hCf]; rfl⟩, ⟨rowH hDf, by rw [mapRowH hDf]; rfl⟩, ⟨rfl, rfl⟩, ⟨rfl, rfl⟩, ⟨rowH (hfs_rcs _), ?_⟩, ⟨?_, ?_⟩, ⟨rowH (scs_hfs_bys _), by rw [mapRowH (scs_hfs_bys _)]; rfl⟩, ⟨rowH (scs_hfs_bys _), by rw [mapRowH (scs_hfs_bys _), hsw]; rfl⟩, trivial⟩⟩
         · rw [mapRowH (hfs_rcs _), rcs_append]
           show _ = some (AObj.row 123 (rcs (List.map recN (Z.take (i + 1))) ++ [.int .u8 s, .bool (bareQ b), .int .u32 _]))
           rw [hbq]; rfl
         · show bds _ (LL k0 6 (Z.take (i + 1)) ++ [_]) = true
           exact bds_appB (bds_LL _ (by show (6 : Nat) < 8; decide)) rfl
         · show _ = some (AObj.row 32 (mapVs _ (LL k0 6 (Z.take (i + 1)) ++ [_])))
           rw [mapVs_appB, mapVs_LL]; rfl
       · rw [hw]
         conv => whnf
         refine EPrim.ixsPZ rfl rfl (by omega) (by omega) ?_; conv => whnf
         refine EPrim.eql2 rfl rfl (fun hc => ?_) (fun hc => ?_)
         · have hw78 : w0 = 78 := by have : ((w0 : Nat) : Int) = 78 := hc
                                     omega
           have hbq : bareQ b = true := by unfold bareQ; rw [hw]; simp [hw78]
           have hsw : stoodN b = 0 :: wt := by unfold stoodN; rw [if_pos hbq, hw]; rfl
           conv => whnf
           refine EPrim.ixsPZ rfl rfl (by omega) (by omega) ?_; conv => whnf
           repeat' (first | (refine w14 (q' := .u8) rfl (u8_in (by omega)) ?_; conv => whnf) | fail)
           refine ESc.inl h67 ?_; conv => whnf
           refine ESc.ov h107 (over_row (e := 5) (bs := stoodN b) (by rw [hsw]; rfl) (stoodN_length (by omega)) (stoodN_lt hb2.2)) ?_; conv => whnf
           repeat' (first | (refine EPrim.appNil (m := 1) rfl rfl rfl rfl (by decide) (by decide) ?_; conv => whnf) | (refine EPrim.appU (m := 1) rfl rfl rfl rfl (by first | (rw [rcs_length, hRl]) | (rw [hLl]; omega)) rfl (by decide) (by omega) ?_; conv => whnf) | ((first | refine w7 rfl rfl (by omega) ?_ | refine ⟨rfl, ?_⟩); conv => whnf) | fail)
           refine ⟨i + 1 + 1, by omega, by omega, ?_⟩
           rw [osK_gt (by omega), htk, List.map_append, LL_app hlk]
           refine blk_stepC (i := i + 1) (R := (List.map recN (Z.take (i + 1)))) (M := Z.take (i + 1)) (p := (s, b)) (rs := [0, 1, 2, 3, 10, 11, 6, 7]) rfl (frz_tlB7 hbv) hCf hDf ⟨by decide, ⟨⟨rfl, rfl⟩, ⟨rfl, rfl⟩, ⟨rfl, rfl⟩, ⟨rfl, rfl⟩, ⟨hf_bd _ hbv, by rw [hf_mapV _ hbv]; rfl⟩, ⟨rfl, rfl⟩, ⟨rfl, rfl⟩, trivial⟩, ⟨⟨rowH hCf, by rw [mapRowH hCf]; rfl⟩, ⟨rowH hDf, by rw [mapRowH hDf]; rfl⟩, ⟨rfl, rfl⟩, ⟨rfl, rfl⟩, ⟨rowH (hfs_rcs _), ?_⟩, ⟨?_, ?_⟩, ⟨rowH (scs_hfs_bys _), by rw [mapRowH (scs_hfs_bys _)]; rfl⟩, ⟨rowH (scs_hfs_bys _), by rw [mapRowH (scs_hfs_bys _), hsw]; rfl⟩, trivial⟩⟩
           · rw [mapRowH (hfs_rcs _), rcs_append]
             show _ = some (AObj.row 123 (rcs (List.map recN (Z.take (i + 1))) ++ [.int .u8 s, .bool (bareQ b), .int .u32 _]))
             rw [hbq]; rfl
           · show bds _ (LL k0 6 (Z.take (i + 1)) ++ [_]) = true
             exact bds_appB (bds_LL _ (by show (6 : Nat) < 8; decide)) rfl
           · show _ = some (AObj.row 32 (mapVs _ (LL k0 6 (Z.take (i + 1)) ++ [_])))
             rw [mapVs_appB, mapVs_LL]; rfl
         · have hw78 : w0 ≠ 78 := by have : ¬ ((w0 : Nat) : Int) = 78 := hc
                                     omega
           have hbq : bareQ b = false := by unfold bareQ; rw [hw]; simp [hw78]
           have hsw : stoodN b = w0 :: wt := by unfold stoodN; rw [hbq, hw]; rfl
           conv => whnf
           repeat' (first | (refine w14 (q' := .u8) rfl (u8_in (by omega)) ?_; conv => whnf) | fail)
           refine ESc.inl h67 ?_; conv => whnf
           refine ESc.ov h107 (over_row (e := 5) (bs := stoodN b) (by rw [hsw]; rfl) (stoodN_length (by omega)) (stoodN_lt hb2.2)) ?_; conv => whnf
           repeat' (first | (refine EPrim.appNil (m := 1) rfl rfl rfl rfl (by decide) (by decide) ?_; conv => whnf) | (refine EPrim.appU (m := 1) rfl rfl rfl rfl (by first | (rw [rcs_length, hRl]) | (rw [hLl]; omega)) rfl (by decide) (by omega) ?_; conv => whnf) | ((first | refine w7 rfl rfl (by omega) ?_ | refine ⟨rfl, ?_⟩); conv => whnf) | fail)
           refine ⟨i + 1 + 1, by omega, by omega, ?_⟩
           rw [osK_gt (by omega), htk, List.map_append, LL_app hlk]
           refine blk_stepC (i := i + 1) (R := (List.map recN (Z.take (i + 1)))) (M := Z.take (i + 1)) (p := (s, b)) (rs := [0, 1, 2, 3, 10, 11, 6, 7]) rfl (frz_tlB7 hbv) hCf hDf ⟨by decide, ⟨⟨rfl, rfl⟩, ⟨rfl, rfl⟩, ⟨rfl, rfl⟩, ⟨rfl, rfl⟩, ⟨hf_bd _ hbv, by rw [hf_mapV _ hbv]; rfl⟩, ⟨rfl, rfl⟩, ⟨rfl, rfl⟩, trivial⟩, ⟨⟨rowH hCf, by rw [mapRowH hCf]; rfl⟩, ⟨rowH hDf, by rw [mapRowH hDf]; rfl⟩, ⟨rfl, rfl⟩, ⟨rfl, rfl⟩, ⟨rowH (hfs_rcs _), ?_⟩, ⟨?_, ?_⟩, ⟨rowH (scs_hfs_bys _), by rw [mapRowH (scs_hfs_bys _)]; rfl⟩, ⟨rowH (scs_hfs_bys _), by rw [mapRowH (scs_hfs_bys _), hsw]; rfl⟩, trivial⟩⟩
           · rw [mapRowH (hfs_rcs _), rcs_append]
             show _ = some (AObj.row 123 (rcs (List.map recN (Z.take (i + 1))) ++ [.int .u8 s, .bool (bareQ b), .int .u32 _]))
             rw [hbq]; rfl
           · show bds _ (LL k0 6 (Z.take (i + 1)) ++ [_]) = true
             exact bds_appB (bds_LL _ (by show (6 : Nat) < 8; decide)) rfl
           · show _ = some (AObj.row 32 (mapVs _ (LL k0 6 (Z.take (i + 1)) ++ [_])))
             rw [mapVs_appB, mapVs_LL]; rfl
     · rw [osK_le (by omega)]
       by_cases hik : i = k0
       · have hmb := hmk hik
         have hlk : (Z.take i).length = k0 := by simp; omega
         rcases i with _ | i
         · conv => whnf
           refine EPrim.lss2 rfl rfl (fun h => ?_) (fun h => by omega); conv => whnf
           refine EPrim.ixsS rfl hbl.sl rfl hlt ?_; conv => whnf
           refine EHead.mk (v := u) (by rw [Nat.mul_one, List.getElem?_drop, Nat.add_zero]; exact huget) ?_; conv => whnf
           refine EPrim.ixsS rfl hsl rfl hls ?_; conv => whnf
           refine EHead.mk (v := .int .i64 s) (by rw [Nat.mul_one, List.getElem?_drop, Nat.add_zero]; exact hsget) ?_; conv => whnf
           refine ECall.inl h88.O h88.G ?_; conv => whnf
           refine ESc.inl h89 ?_; conv => whnf
           refine EPrim.mksB (n := 127) rfl rfl (by decide) ?_; conv => whnf
           refine EPrim.copyS (l := bys b) (n := b.length) rfl rfl hb2.1 (by omega) (store_whole rfl (by omega)) (fun S hS => ?_)
           rcases hS with ⟨rfl, h0⟩ | rfl
           · have hb0 : b = [] := List.map_eq_nil_iff.1 h0
             have h00 : 0 = w0 ∧ List.replicate 127 0 = wt := by
               rw [hb0] at hw
               have hw : (0 :: List.replicate 127 0 : List Nat) = w0 :: wt := hw
               injection hw with q1 q2
               exact ⟨q1, q2⟩
             obtain ⟨rfl, rfl⟩ := h00
             conv => whnf
             refine EPrim.ixsPZ rfl rfl (by omega) (by omega) ?_; conv => whnf
             refine EPrim.eql2 rfl rfl (fun hc => absurd hc (by decide)) (fun hc => ?_)
             have hbq : bareQ b = false := by rw [hb0]; rfl
             have hsw : stoodN b = 0 :: List.replicate 127 0 := by rw [hb0]; rfl
             conv => whnf
             repeat' (first | (refine w14 (q' := .u8) rfl (u8_in (by omega)) ?_; conv => whnf) | fail)
             refine ESc.inl h67 ?_; conv => whnf
             refine ESc.ov h107 (over_row (e := 5) (bs := stoodN b) (by rw [hsw]; rfl) (stoodN_length (by omega)) (stoodN_lt hb2.2)) ?_; conv => whnf
             repeat' (first | (refine EPrim.appNil (m := 1) rfl rfl rfl rfl (by decide) (by decide) ?_; conv => whnf) | (refine EPrim.appU (m := 1) rfl rfl rfl rfl (by first | (rw [rcs_length, hRl]) | (rw [hLl]; omega)) rfl (by decide) (by omega) ?_; conv => whnf) | ((first | refine w7 rfl rfl (by omega) ?_ | refine ⟨rfl, ?_⟩); conv => whnf) | fail)
             refine ⟨0 + 1, by omega, by omega, ?_⟩
             rw [osK_gt (by omega), htk, List.map_append, LL_at hlk]
             refine Abs.tells (rs := [0, 1, 2, 3, 7, 8, 4]) ⟨by decide, ⟨⟨rfl, rfl⟩, ⟨rfl, rfl⟩, ⟨rfl, rfl⟩, ⟨rfl, rfl⟩, ⟨hf_bd _ hbv, by rw [hf_mapV _ hbv]; rfl⟩, ⟨rfl, rfl⟩, ⟨rfl, rfl⟩, trivial⟩, ⟨⟨rowH hCf, by rw [mapRowH hCf]; rfl⟩, ⟨rowH hDf, by rw [mapRowH hDf]; rfl⟩, ⟨rfl, rfl⟩, ⟨rfl, rfl⟩, ⟨rowH (hfs_rcs _), ?_⟩, ⟨?_, ?_⟩, ⟨rowH (scs_hfs_bys _), by rw [mapRowH (scs_hfs_bys _), hmb, hsw]; rfl⟩, trivial⟩⟩
             · rw [mapRowH (hfs_rcs _), rcs_append]
               show _ = some (AObj.row 123 (rcs (List.map recN (Z.take 0)) ++ [.int .u8 s, .bool (bareQ b), .int .u32 _]))
               rw [hbq]; rfl
             · show bds _ ((List.map stoodV (Z.take 0)) ++ [_]) = true
               rw [bds_app (hfs_stood _)]; rfl
             · show _ = some (AObj.row 32 (mapVs _ ((List.map stoodV (Z.take 0)) ++ [_])))
               rw [mapVs_app (hfs_stood _)]; rfl
           · rw [hw]
             conv => whnf
             refine EPrim.ixsPZ rfl rfl (by omega) (by omega) ?_; conv => whnf
             refine EPrim.eql2 rfl rfl (fun hc => ?_) (fun hc => ?_)
             · have hw78 : w0 = 78 := by have : ((w0 : Nat) : Int) = 78 := hc
                                         omega
               have hbq : bareQ b = true := by unfold bareQ; rw [hw]; simp [hw78]
               have hsw : stoodN b = 0 :: wt := by unfold stoodN; rw [if_pos hbq, hw]; rfl
               conv => whnf
               refine EPrim.ixsPZ rfl rfl (by omega) (by omega) ?_; conv => whnf
               repeat' (first | (refine w14 (q' := .u8) rfl (u8_in (by omega)) ?_; conv => whnf) | fail)
               refine ESc.inl h67 ?_; conv => whnf
               refine ESc.ov h107 (over_row (e := 5) (bs := stoodN b) (by rw [hsw]; rfl) (stoodN_length (by omega)) (stoodN_lt hb2.2)) ?_; conv => whnf
               repeat' (first | (refine EPrim.appNil (m := 1) rfl rfl rfl rfl (by decide) (by decide) ?_; conv => whnf) | (refine EPrim.appU (m := 1) rfl rfl rfl rfl (by first | (rw [rcs_length, hRl]) | (rw [hLl]; omega)) rfl (by decide) (by omega) ?_; conv => whnf) | ((first | refine w7 rfl rfl (by omega) ?_ | refine ⟨rfl, ?_⟩); conv => whnf) | fail)
               refine ⟨0 + 1, by omega, by omega, ?_⟩
               rw [osK_gt (by omega), htk, List.map_append, LL_at hlk]
               refine Abs.tells (rs := [0, 1, 2, 3, 7, 8, 4]) ⟨by decide, ⟨⟨rfl, rfl⟩, ⟨rfl, rfl⟩, ⟨rfl, rfl⟩, ⟨rfl, rfl⟩, ⟨hf_bd _ hbv, by rw [hf_mapV _ hbv]; rfl⟩, ⟨rfl, rfl⟩, ⟨rfl, rfl⟩, trivial⟩, ⟨⟨rowH hCf, by rw [mapRowH hCf]; rfl⟩, ⟨rowH hDf, by rw [mapRowH hDf]; rfl⟩, ⟨rfl, rfl⟩, ⟨rfl, rfl⟩, ⟨rowH (hfs_rcs _), ?_⟩, ⟨?_, ?_⟩, ⟨rowH (scs_hfs_bys _), by rw [mapRowH (scs_hfs_bys _), hmb, hsw]; rfl⟩, trivial⟩⟩
               · rw [mapRowH (hfs_rcs _), rcs_append]
                 show _ = some (AObj.row 123 (rcs (List.map recN (Z.take 0)) ++ [.int .u8 s, .bool (bareQ b), .int .u32 _]))
                 rw [hbq]; rfl
               · show bds _ ((List.map stoodV (Z.take 0)) ++ [_]) = true
                 rw [bds_app (hfs_stood _)]; rfl
               · show _ = some (AObj.row 32 (mapVs _ ((List.map stoodV (Z.take 0)) ++ [_])))
                 rw [mapVs_app (hfs_stood _)]; rfl
             · have hw78 : w0 ≠ 78 := by have : ¬ ((w0 : Nat) : Int) = 78 := hc
                                         omega
               have hbq : bareQ b = false := by unfold bareQ; rw [hw]; simp [hw78]
               have hsw : stoodN b = w0 :: wt := by unfold stoodN; rw [hbq, hw]; rfl
               conv => whnf
               repeat' (first | (refine w14 (q' := .u8) rfl (u8_in (by omega)) ?_; conv => whnf) | fail)
               refine ESc.inl h67 ?_; conv => whnf
               refine ESc.ov h107 (over_row (e := 5) (bs := stoodN b) (by rw [hsw]; rfl) (stoodN_length (by omega)) (stoodN_lt hb2.2)) ?_; conv => whnf
               repeat' (first | (refine EPrim.appNil (m := 1) rfl rfl rfl rfl (by decide) (by decide) ?_; conv => whnf) | (refine EPrim.appU (m := 1) rfl rfl rfl rfl (by first | (rw [rcs_length, hRl]) | (rw [hLl]; omega)) rfl (by decide) (by omega) ?_; conv => whnf) | ((first | refine w7 rfl rfl (by omega) ?_ | refine ⟨rfl, ?_⟩); conv => whnf) | fail)
               refine ⟨0 + 1, by omega, by omega, ?_⟩
               rw [osK_gt (by omega), htk, List.map_append, LL_at hlk]
               refine Abs.tells (rs := [0, 1, 2, 3, 7, 8, 4]) ⟨by decide, ⟨⟨rfl, rfl⟩, ⟨rfl, rfl⟩, ⟨rfl, rfl⟩, ⟨rfl, rfl⟩, ⟨hf_bd _ hbv, by rw [hf_mapV _ hbv]; rfl⟩, ⟨rfl, rfl⟩, ⟨rfl, rfl⟩, trivial⟩, ⟨⟨rowH hCf, by rw [mapRowH hCf]; rfl⟩, ⟨rowH hDf, by rw [mapRowH hDf]; rfl⟩, ⟨rfl, rfl⟩, ⟨rfl, rfl⟩, ⟨rowH (hfs_rcs _), ?_⟩, ⟨?_, ?_⟩, ⟨rowH (scs_hfs_bys _), by rw [mapRowH (scs_hfs_bys _), hmb, hsw]; rfl⟩, trivial⟩⟩
               · rw [mapRowH (hfs_rcs _), rcs_append]
                 show _ = some (AObj.row 123 (rcs (List.map recN (Z.take 0)) ++ [.int .u8 s, .bool (bareQ b), .int .u32 _]))
                 rw [hbq]; rfl
               · show bds _ ((List.map stoodV (Z.take 0)) ++ [_]) = true
                 rw [bds_app (hfs_stood _)]; rfl
               · show _ = some (AObj.row 32 (mapVs _ ((List.map stoodV (Z.take 0)) ++ [_])))
                 rw [mapVs_app (hfs_stood _)]; rfl
         · have hRl : ((Z.take (i + 1)).map recN).length = i + 1 := by simp; omega
           have hLl : ((Z.take (i + 1)).map stoodV).length = i + 1 := by simp; omega
           have hul := hbl.len
           dsimp only at hul
           conv => whnf
           refine EPrim.lss2 rfl rfl (fun h => ?_) (fun h => by omega); conv => whnf
           refine EPrim.ixsS rfl hbl.sl rfl hlt ?_; conv => whnf
           refine EHead.mk (v := u) (by rw [Nat.mul_one, List.getElem?_drop, Nat.add_zero]; exact huget) ?_; conv => whnf
           refine EPrim.ixsS rfl hsl rfl hls ?_; conv => whnf
           refine EHead.mk (v := .int .i64 s) (by rw [Nat.mul_one, List.getElem?_drop, Nat.add_zero]; exact hsget) ?_; conv => whnf
           refine ECall.inl h88.O h88.G ?_; conv => whnf
           refine ESc.inl h89 ?_; conv => whnf
           refine EPrim.mksB (n := 127) rfl rfl (by decide) ?_; conv => whnf
           refine EPrim.copyS (l := bys b) (n := b.length) rfl rfl hb2.1 (by omega) (store_whole rfl (by omega)) (fun S hS => ?_)
           rcases hS with ⟨rfl, h0⟩ | rfl
           · have hb0 : b = [] := List.map_eq_nil_iff.1 h0
             have h00 : 0 = w0 ∧ List.replicate 127 0 = wt := by
               rw [hb0] at hw
               have hw : (0 :: List.replicate 127 0 : List Nat) = w0 :: wt := hw
               injection hw with q1 q2
               exact ⟨q1, q2⟩
             obtain ⟨rfl, rfl⟩ := h00
             conv => whnf
             refine EPrim.ixsPZ rfl rfl (by omega) (by omega) ?_; conv => whnf
             refine EPrim.eql2 rfl rfl (fun hc => absurd hc (by decide)) (fun hc => ?_)
             have hbq : bareQ b = false := by rw [hb0]; rfl
             have hsw : stoodN b = 0 :: List.replicate 127 0 := by rw [hb0]; rfl
             conv => whnf
             repeat' (first | (refine w14 (q' := .u8) rfl (u8_in (by omega)) ?_; conv => whnf) | fail)
             refine ESc.inl h67 ?_; conv => whnf
             refine ESc.ov h107 (over_row (e := 5) (bs := stoodN b) (by rw [hsw]; rfl) (stoodN_length (by omega)) (stoodN_lt hb2.2)) ?_; conv => whnf
             repeat' (first | (refine EPrim.appNil (m := 1) rfl rfl rfl rfl (by decide) (by decide) ?_; conv => whnf) | (refine EPrim.appU (m := 1) rfl rfl rfl rfl (by first | (rw [rcs_length, hRl]) | (rw [hLl]; omega)) rfl (by decide) (by omega) ?_; conv => whnf) | ((first | refine w7 rfl rfl (by omega) ?_ | refine ⟨rfl, ?_⟩); conv => whnf) | fail)
             refine ⟨i + 1 + 1, by omega, by omega, ?_⟩
             rw [osK_gt (by omega), htk, List.map_append, LL_at hlk]
             refine Abs.tells (rs := [0, 1, 2, 3, 9, 10, 6]) ⟨by decide, ⟨⟨rfl, rfl⟩, ⟨rfl, rfl⟩, ⟨rfl, rfl⟩, ⟨rfl, rfl⟩, ⟨hf_bd _ hbv, by rw [hf_mapV _ hbv]; rfl⟩, ⟨rfl, rfl⟩, ⟨rfl, rfl⟩, trivial⟩, ⟨⟨rowH hCf, by rw [mapRowH hCf]; rfl⟩, ⟨rowH hDf, by rw [mapRowH hDf]; rfl⟩, ⟨rfl, rfl⟩, ⟨rfl, rfl⟩, ⟨rowH (hfs_rcs _), ?_⟩, ⟨?_, ?_⟩, ⟨rowH (scs_hfs_bys _), by rw [mapRowH (scs_hfs_bys _), hmb, hsw]; rfl⟩, trivial⟩⟩
             · rw [mapRowH (hfs_rcs _), rcs_append]
               show _ = some (AObj.row 123 (rcs (List.map recN (Z.take (i + 1))) ++ [.int .u8 s, .bool (bareQ b), .int .u32 _]))
               rw [hbq]; rfl
             · show bds _ ((List.map stoodV (Z.take (i + 1))) ++ [_]) = true
               rw [bds_app (hfs_stood _)]; rfl
             · show _ = some (AObj.row 32 (mapVs _ ((List.map stoodV (Z.take (i + 1))) ++ [_])))
               rw [mapVs_app (hfs_stood _)]; rfl
           · rw [hw]
             conv => whnf
             refine EPrim.ixsPZ rfl rfl (by omega) (by omega) ?_; conv => whnf
             refine EPrim.eql2 rfl rfl (fun hc => ?_) (fun hc => ?_)
             · have hw78 : w0 = 78 := by have : ((w0 : Nat) : Int) = 78 := hc
                                         omega
               have hbq : bareQ b = true := by unfold bareQ; rw [hw]; simp [hw78]
               have hsw : stoodN b = 0 :: wt := by unfold stoodN; rw [if_pos hbq, hw]; rfl
               conv => whnf
               refine EPrim.ixsPZ rfl rfl (by omega) (by omega) ?_; conv => whnf
               repeat' (first | (refine w14 (q' := .u8) rfl (u8_in (by omega)) ?_; conv => whnf) | fail)
               refine ESc.inl h67 ?_; conv => whnf
               refine ESc.ov h107 (over_row (e := 5) (bs := stoodN b) (by rw [hsw]; rfl) (stoodN_length (by omega)) (stoodN_lt hb2.2)) ?_; conv => whnf
               repeat' (first | (refine EPrim.appNil (m := 1) rfl rfl rfl rfl (by decide) (by decide) ?_; conv => whnf) | (refine EPrim.appU (m := 1) rfl rfl rfl rfl (by first | (rw [rcs_length, hRl]) | (rw [hLl]; omega)) rfl (by decide) (by omega) ?_; conv => whnf) | ((first | refine w7 rfl rfl (by omega) ?_ | refine ⟨rfl, ?_⟩); conv => whnf) | fail)
               refine ⟨i + 1 + 1, by omega, by omega, ?_⟩
               rw [osK_gt (by omega), htk, List.map_append, LL_at hlk]
               refine Abs.tells (rs := [0, 1, 2, 3, 9, 10, 6]) ⟨by decide, ⟨⟨rfl, rfl⟩, ⟨rfl, rfl⟩, ⟨rfl, rfl⟩, ⟨rfl, rfl⟩, ⟨hf_bd _ hbv, by rw [hf_mapV _ hbv]; rfl⟩, ⟨rfl, rfl⟩, ⟨rfl, rfl⟩, trivial⟩, ⟨⟨rowH hCf, by rw [mapRowH hCf]; rfl⟩, ⟨rowH hDf, by rw [mapRowH hDf]; rfl⟩, ⟨rfl, rfl⟩, ⟨rfl, rfl⟩, ⟨rowH (hfs_rcs _), ?_⟩, ⟨?_, ?_⟩, ⟨rowH (scs_hfs_bys _), by rw [mapRowH (scs_hfs_bys _), hmb, hsw]; rfl⟩, trivial⟩⟩
               · rw [mapRowH (hfs_rcs _), rcs_append]
                 show _ = some (AObj.row 123 (rcs (List.map recN (Z.take (i + 1))) ++ [.int .u8 s, .bool (bareQ b), .int .u32 _]))
                 rw [hbq]; rfl
               · show bds _ ((List.map stoodV (Z.take (i + 1))) ++ [_]) = true
                 rw [bds_app (hfs_stood _)]; rfl
               · show _ = some (AObj.row 32 (mapVs _ ((List.map stoodV (Z.take (i + 1))) ++ [_])))
                 rw [mapVs_app (hfs_stood _)]; rfl
             · have hw78 : w0 ≠ 78 := by have : ¬ ((w0 : Nat) : Int) = 78 := hc
                                         omega
               have hbq : bareQ b = false := by unfold bareQ; rw [hw]; simp [hw78]
               have hsw : stoodN b = w0 :: wt := by unfold stoodN; rw [hbq, hw]; rfl
               conv => whnf
               repeat' (first | (refine w14 (q' := .u8) rfl (u8_in (by omega)) ?_; conv => whnf) | fail)
               refine ESc.inl h67 ?_; conv => whnf
               refine ESc.ov h107 (over_row (e := 5) (bs := stoodN b) (by rw [hsw]; rfl) (stoodN_length (by omega)) (stoodN_lt hb2.2)) ?_; conv => whnf
               repeat' (first | (refine EPrim.appNil (m := 1) rfl rfl rfl rfl (by decide) (by decide) ?_; conv => whnf) | (refine EPrim.appU (m := 1) rfl rfl rfl rfl (by first | (rw [rcs_length, hRl]) | (rw [hLl]; omega)) rfl (by decide) (by omega) ?_; conv => whnf) | ((first | refine w7 rfl rfl (by omega) ?_ | refine ⟨rfl, ?_⟩); conv => whnf) | fail)
               refine ⟨i + 1 + 1, by omega, by omega, ?_⟩
               rw [osK_gt (by omega), htk, List.map_append, LL_at hlk]
               refine Abs.tells (rs := [0, 1, 2, 3, 9, 10, 6]) ⟨by decide, ⟨⟨rfl, rfl⟩, ⟨rfl, rfl⟩, ⟨rfl, rfl⟩, ⟨rfl, rfl⟩, ⟨hf_bd _ hbv, by rw [hf_mapV _ hbv]; rfl⟩, ⟨rfl, rfl⟩, ⟨rfl, rfl⟩, trivial⟩, ⟨⟨rowH hCf, by rw [mapRowH hCf]; rfl⟩, ⟨rowH hDf, by rw [mapRowH hDf]; rfl⟩, ⟨rfl, rfl⟩, ⟨rfl, rfl⟩, ⟨rowH (hfs_rcs _), ?_⟩, ⟨?_, ?_⟩, ⟨rowH (scs_hfs_bys _), by rw [mapRowH (scs_hfs_bys _), hmb, hsw]; rfl⟩, trivial⟩⟩
               · rw [mapRowH (hfs_rcs _), rcs_append]
                 show _ = some (AObj.row 123 (rcs (List.map recN (Z.take (i + 1))) ++ [.int .u8 s, .bool (bareQ b), .int .u32 _]))
                 rw [hbq]; rfl
               · show bds _ ((List.map stoodV (Z.take (i + 1))) ++ [_]) = true
                 rw [bds_app (hfs_stood _)]; rfl
               · show _ = some (AObj.row 32 (mapVs _ ((List.map stoodV (Z.take (i + 1))) ++ [_])))
                 rw [mapVs_app (hfs_stood _)]; rfl
       · rcases i with _ | i
         · conv => whnf
           refine EPrim.lss2 rfl rfl (fun h => ?_) (fun h => by omega); conv => whnf
           refine EPrim.ixsS rfl hbl.sl rfl hlt ?_; conv => whnf
           refine EHead.mk (v := u) (by rw [Nat.mul_one, List.getElem?_drop, Nat.add_zero]; exact huget) ?_; conv => whnf
           refine EPrim.ixsS rfl hsl rfl hls ?_; conv => whnf
           refine EHead.mk (v := .int .i64 s) (by rw [Nat.mul_one, List.getElem?_drop, Nat.add_zero]; exact hsget) ?_; conv => whnf
           refine ECall.inl h88.O h88.G ?_; conv => whnf
           refine ESc.inl h89 ?_; conv => whnf
           refine EPrim.mksB (n := 127) rfl rfl (by decide) ?_; conv => whnf
           refine EPrim.copyS (l := bys b) (n := b.length) rfl rfl hb2.1 (by omega) (store_whole rfl (by omega)) (fun S hS => ?_)
           rcases hS with ⟨rfl, h0⟩ | rfl
           · have hb0 : b = [] := List.map_eq_nil_iff.1 h0
             have h00 : 0 = w0 ∧ List.replicate 127 0 = wt := by
               rw [hb0] at hw
               have hw : (0 :: List.replicate 127 0 : List Nat) = w0 :: wt := hw
               injection hw with q1 q2
               exact ⟨q1, q2⟩
             obtain ⟨rfl, rfl⟩ := h00
             conv => whnf
             refine EPrim.ixsPZ rfl rfl (by omega) (by omega) ?_; conv => whnf
             refine EPrim.eql2 rfl rfl (fun hc => absurd hc (by decide)) (fun hc => ?_)
             have hbq : bareQ b = false := by rw [hb0]; rfl
             have hsw : stoodN b = 0 :: List.replicate 127 0 := by rw [hb0]; rfl
             conv => whnf
             repeat' (first | (refine w14 (q' := .u8) rfl (u8_in (by omega)) ?_; conv => whnf) | fail)
             refine ESc.inl h67 ?_; conv => whnf
             refine ESc.ov h107 (over_row (e := 5) (bs := stoodN b) (by rw [hsw]; rfl) (stoodN_length (by omega)) (stoodN_lt hb2.2)) ?_; conv => whnf
             repeat' (first | (refine EPrim.appNil (m := 1) rfl rfl rfl rfl (by decide) (by decide) ?_; conv => whnf) | (refine EPrim.appU (m := 1) rfl rfl rfl rfl (by first | (rw [rcs_length, hRl]) | (rw [hLl]; omega)) rfl (by decide) (by omega) ?_; conv => whnf) | ((first | refine w7 rfl rfl (by omega) ?_ | refine ⟨rfl, ?_⟩); conv => whnf) | fail)
             refine ⟨0 + 1, by omega, by omega, ?_⟩
             rw [osK_le (by omega), htk, List.map_append, List.map_append]
             refine blk_step (i := 0) (R := (List.map recN (Z.take 0))) (L := (List.map stoodV (Z.take 0))) (p := (s, b)) (rs := [0, 1, 2, 3, 7, 8, 4]) rfl (frz_tlB hbv) hCf hDf (hfs_stood _) ⟨by decide, ⟨⟨rfl, rfl⟩, ⟨rfl, rfl⟩, ⟨rfl, rfl⟩, ⟨rfl, rfl⟩, ⟨hf_bd _ hbv, by rw [hf_mapV _ hbv]; rfl⟩, ⟨rfl, rfl⟩, ⟨rfl, rfl⟩, trivial⟩, ⟨⟨rowH hCf, by rw [mapRowH hCf]; rfl⟩, ⟨rowH hDf, by rw [mapRowH hDf]; rfl⟩, ⟨rfl, rfl⟩, ⟨rfl, rfl⟩, ⟨rowH (hfs_rcs _), ?_⟩, ⟨?_, ?_⟩, ⟨rowH (scs_hfs_bys _), by rw [mapRowH (scs_hfs_bys _), hsw]; rfl⟩, trivial⟩⟩
             · rw [mapRowH (hfs_rcs _), rcs_append]
               show _ = some (AObj.row 123 (rcs (List.map recN (Z.take 0)) ++ [.int .u8 s, .bool (bareQ b), .int .u32 _]))
               rw [hbq]; rfl
             · show bds _ ((List.map stoodV (Z.take 0)) ++ [_]) = true
               rw [bds_app (hfs_stood _)]; rfl
             · show _ = some (AObj.row 32 (mapVs _ ((List.map stoodV (Z.take 0)) ++ [_])))
               rw [mapVs_app (hfs_stood _)]; rfl
           · rw [hw]
             conv => whnf
             refine EPrim.ixsPZ rfl rfl (by omega) (by omega) ?_; conv => whnf
             refine EPrim.eql2 rfl rfl (fun hc => ?_) (fun hc => ?_)
             · have hw78 : w0 = 78 := by have : ((w0 : Nat) : Int) = 78 := hc
                                         omega
               have hbq : bareQ b = true := by unfold bareQ; rw [hw]; simp [hw78]
               have hsw : stoodN b = 0 :: wt := by unfold stoodN; rw [if_pos hbq, hw]; rfl
               conv => whnf
               refine EPrim.ixsPZ rfl rfl (by omega) (by omega) ?_; conv => whnf
               repeat' (first | (refine w14 (q' := .u8) rfl (u8_in (by omega)) ?_; conv => whnf) | fail)
               refine ESc.inl h67 ?_; conv => whnf
               refine ESc.ov h107 (over_row (e := 5) (bs := stoodN b) (by rw [hsw]; rfl) (stoodN_length (by omega)) (stoodN_lt hb2.2)) ?_; conv => whnf
               repeat' (first | (refine EPrim.appNil (m := 1) rfl rfl rfl rfl (by decide) (by decide) ?_; conv => whnf) | (refine EPrim.appU (m := 1) rfl rfl rfl rfl (by first | (rw [rcs_length, hRl]) | (rw [hLl]; omega)) rfl (by decide) (by omega) ?_; conv => whnf) | ((first | refine w7 rfl rfl (by omega) ?_ | refine ⟨rfl, ?_⟩); conv => whnf) | fail)
               refine ⟨0 + 1, by omega, by omega, ?_⟩
               rw [osK_le (by omega), htk, List.map_append, List.map_append]
               refine blk_step (i := 0) (R := (List.map recN (Z.take 0))) (L := (List.map stoodV (Z.take 0))) (p := (s, b)) (rs := [0, 1, 2, 3, 7, 8, 4]) rfl (frz_tlB hbv) hCf hDf (hfs_stood _) ⟨by decide, ⟨⟨rfl, rfl⟩, ⟨rfl, rfl⟩, ⟨rfl, rfl⟩, ⟨rfl, rfl⟩, ⟨hf_bd _ hbv, by rw [hf_mapV _ hbv]; rfl⟩, ⟨rfl, rfl⟩, ⟨rfl, rfl⟩, trivial⟩, ⟨⟨rowH hCf, by rw [mapRowH hCf]; rfl⟩, ⟨rowH hDf, by rw [mapRowH hDf]; rfl⟩, ⟨rfl, rfl⟩, ⟨rfl, rfl⟩, ⟨rowH (hfs_rcs _), ?_⟩, ⟨?_, ?_⟩, ⟨rowH (scs_hfs_bys _), by rw [mapRowH (scs_hfs_bys _), hsw]; rfl⟩, trivial⟩⟩
               · rw [mapRowH (hfs_rcs _), rcs_append]
                 show _ = some (AObj.row 123 (rcs (List.map recN (Z.take 0)) ++ [.int .u8 s, .bool (bareQ b), .int .u32 _]))
                 rw [hbq]; rfl
               · show bds _ ((List.map stoodV (Z.take 0)) ++ [_]) = true
                 rw [bds_app (hfs_stood _)]; rfl
               · show _ = some (AObj.row 32 (mapVs _ ((List.map stoodV (Z.take 0)) ++ [_])))
                 rw [mapVs_app (hfs_stood _)]; rfl
             · have hw78 : w0 ≠ 78 := by have : ¬ ((w0 : Nat) : Int) = 78 := hc
                                         omega
               have hbq : bareQ b = false := by unfold bareQ; rw [hw]; simp [hw78]
               have hsw : stoodN b = w0 :: wt := by unfold stoodN; rw [hbq, hw]; rfl
               conv => whnf
               repeat' (first | (refine w14 (q' := .u8) rfl (u8_in (by omega)) ?_; conv => whnf) | fail)
               refine ESc.inl h67 ?_; conv => whnf
               refine ESc.ov h107 (over_row (e := 5) (bs := stoodN b) (by rw [hsw]; rfl) (stoodN_length (by omega)) (stoodN_lt hb2.2)) ?_; conv => whnf
               repeat' (first | (refine EPrim.appNil (m := 1) rfl rfl rfl rfl (by decide) (by decide) ?_; conv => whnf) | (refine EPrim.appU (m := 1) rfl rfl rfl rfl (by first | (rw [rcs_length, hRl]) | (rw [hLl]; omega)) rfl (by decide) (by omega) ?_; conv => whnf) | ((first | refine w7 rfl rfl (by omega) ?_ | refine ⟨rfl, ?_⟩); conv => whnf) | fail)
               refine ⟨0 + 1, by omega, by omega, ?_⟩
               rw [osK_le (by omega), htk, List.map_append, List.map_append]
               refine blk_step (i := 0) (R := (List.map recN (Z.take 0))) (L := (List.map stoodV (Z.take 0))) (p := (s, b)) (rs := [0, 1, 2, 3, 7, 8, 4]) rfl (frz_tlB hbv) hCf hDf (hfs_stood _) ⟨by decide, ⟨⟨rfl, rfl⟩, ⟨rfl, rfl⟩, ⟨rfl, rfl⟩, ⟨rfl, rfl⟩, ⟨hf_bd _ hbv, by rw [hf_mapV _ hbv]; rfl⟩, ⟨rfl, rfl⟩, ⟨rfl, rfl⟩, trivial⟩, ⟨⟨rowH hCf, by rw [mapRowH hCf]; rfl⟩, ⟨rowH hDf, by rw [mapRowH hDf]; rfl⟩, ⟨rfl, rfl⟩, ⟨rfl, rfl⟩, ⟨rowH (hfs_rcs _), ?_⟩, ⟨?_, ?_⟩, ⟨rowH (scs_hfs_bys _), by rw [mapRowH (scs_hfs_bys _), hsw]; rfl⟩, trivial⟩⟩
               · rw [mapRowH (hfs_rcs _), rcs_append]
                 show _ = some (AObj.row 123 (rcs (List.map recN (Z.take 0)) ++ [.int .u8 s, .bool (bareQ b), .int .u32 _]))
                 rw [hbq]; rfl
               · show bds _ ((List.map stoodV (Z.take 0)) ++ [_]) = true
                 rw [bds_app (hfs_stood _)]; rfl
               · show _ = some (AObj.row 32 (mapVs _ ((List.map stoodV (Z.take 0)) ++ [_])))
                 rw [mapVs_app (hfs_stood _)]; rfl
         · have hRl : ((Z.take (i + 1)).map recN).length = i + 1 := by simp; omega
           have hLl : ((Z.take (i + 1)).map stoodV).length = i + 1 := by simp; omega
           have hul := hbl.len
           dsimp only at hul
           conv => whnf
           refine EPrim.lss2 rfl rfl (fun h => ?_) (fun h => by omega); conv => whnf
           refine EPrim.ixsS rfl hbl.sl rfl hlt ?_; conv => whnf
           refine EHead.mk (v := u) (by rw [Nat.mul_one, List.getElem?_drop, Nat.add_zero]; exact huget) ?_; conv => whnf
           refine EPrim.ixsS rfl hsl rfl hls ?_; conv => whnf
           refine EHead.mk (v := .int .i64 s) (by rw [Nat.mul_one, List.getElem?_drop, Nat.add_zero]; exact hsget) ?_; conv => whnf
           refine ECall.inl h88.O h88.G ?_; conv => whnf
           refine ESc.inl h89 ?_; conv => whnf
           refine EPrim.mksB (n := 127) rfl rfl (by decide) ?_; conv => whnf
           refine EPrim.copyS (l := bys b) (n := b.length) rfl rfl hb2.1 (by omega) (store_whole rfl (by omega)) (fun S hS => ?_)
           rcases hS with ⟨rfl, h0⟩ | rfl
           · have hb0 : b = [] := List.map_eq_nil_iff.1 h0
             have h00 : 0 = w0 ∧ List.replicate 127 0 = wt := by
               rw [hb0] at hw
               have hw : (0 :: List.replicate 127 0 : List Nat) = w0 :: wt := hw
               injection hw with q1 q2
               exact ⟨q1, q2⟩
             obtain ⟨rfl, rfl⟩ := h00
             conv => whnf
             refine EPrim.ixsPZ rfl rfl (by omega) (by omega) ?_; conv => whnf
             refine EPrim.eql2 rfl rfl (fun hc => absurd hc (by decide)) (fun hc => ?_)
             have hbq : bareQ b = false := by rw [hb0]; rfl
             have hsw : stoodN b = 0 :: List.replicate 127 0 := by rw [hb0]; rfl
             conv => whnf
             repeat' (first | (refine w14 (q' := .u8) rfl (u8_in (by omega)) ?_; conv => whnf) | fail)
             refine ESc.inl h67 ?_; conv => whnf
             refine ESc.ov h107 (over_row (e := 5) (bs := stoodN b) (by rw [hsw]; rfl) (stoodN_length (by omega)) (stoodN_lt hb2.2)) ?_; conv => whnf
             repeat' (first | (refine EPrim.appNil (m := 1) rfl rfl rfl rfl (by decide) (by decide) ?_; conv => whnf) | (refine EPrim.appU (m := 1) rfl rfl rfl rfl (by first | (rw [rcs_length, hRl]) | (rw [hLl]; omega)) rfl (by decide) (by omega) ?_; conv => whnf) | ((first | refine w7 rfl rfl (by omega) ?_ | refine ⟨rfl, ?_⟩); conv => whnf) | fail)
             refine ⟨i + 1 + 1, by omega, by omega, ?_⟩
             rw [osK_le (by omega), htk, List.map_append, List.map_append]
             refine blk_step (i := i + 1) (R := (List.map recN (Z.take (i + 1)))) (L := (List.map stoodV (Z.take (i + 1)))) (p := (s, b)) (rs := [0, 1, 2, 3, 9, 10, 6]) rfl (frz_tlB hbv) hCf hDf (hfs_stood _) ⟨by decide, ⟨⟨rfl, rfl⟩, ⟨rfl, rfl⟩, ⟨rfl, rfl⟩, ⟨rfl, rfl⟩, ⟨hf_bd _ hbv, by rw [hf_mapV _ hbv]; rfl⟩, ⟨rfl, rfl⟩, ⟨rfl, rfl⟩, trivial⟩, ⟨⟨rowH hCf, by rw [mapRowH hCf]; rfl⟩, ⟨rowH hDf, by rw [mapRowH hDf]; rfl⟩, ⟨rfl, rfl⟩, ⟨rfl, rfl⟩, ⟨rowH (hfs_rcs _), ?_⟩, ⟨?_, ?_⟩, ⟨rowH (scs_hfs_bys _), by rw [mapRowH (scs_hfs_bys _), hsw]; rfl⟩, trivial⟩⟩
             · rw [mapRowH (hfs_rcs _), rcs_append]
               show _ = some (AObj.row 123 (rcs (List.map recN (Z.take (i + 1))) ++ [.int .u8 s, .bool (bareQ b), .int .u32 _]))
               rw [hbq]; rfl
             · show bds _ ((List.map stoodV (Z.take (i + 1))) ++ [_]) = true
               rw [bds_app (hfs_stood _)]; rfl
             · show _ = some (AObj.row 32 (mapVs _ ((List.map stoodV (Z.take (i + 1))) ++ [_])))
               rw [mapVs_app (hfs_stood _)]; rfl
           · rw [hw]
             conv => whnf
             refine EPrim.ixsPZ rfl rfl (by omega) (by omega) ?_; conv => whnf
             refine EPrim.eql2 rfl rfl (fun hc => ?_) (fun hc => ?_)
             · have hw78 : w0 = 78 := by have : ((w0 : Nat) : Int) = 78 := hc
                                         omega
               have hbq : bareQ b = true := by unfold bareQ; rw [hw]; simp [hw78]
               have hsw : stoodN b = 0 :: wt := by unfold stoodN; rw [if_pos hbq, hw]; rfl
               conv => whnf
               refine EPrim.ixsPZ rfl rfl (by omega) (by omega) ?_; conv => whnf
               repeat' (first | (refine w14 (q' := .u8) rfl (u8_in (by omega)) ?_; conv => whnf) | fail)
               refine ESc.inl h67 ?_; conv => whnf
               refine ESc.ov h107 (over_row (e := 5) (bs := stoodN b) (by rw [hsw]; rfl) (stoodN_length (by omega)) (stoodN_lt hb2.2)) ?_; conv => whnf
               repeat' (first | (refine EPrim.appNil (m := 1) rfl rfl rfl rfl (by decide) (by decide) ?_; conv => whnf) | (refine EPrim.appU (m := 1) rfl rfl rfl rfl (by first | (rw [rcs_length, hRl]) | (rw [hLl]; omega)) rfl (by decide) (by omega) ?_; conv => whnf) | ((first | refine w7 rfl rfl (by omega) ?_ | refine ⟨rfl, ?_⟩); conv => whnf) | fail)
               refine ⟨i + 1 + 1, by omega, by omega, ?_⟩
               rw [osK_le (by omega), htk, List.map_append, List.map_append]
               refine blk_step (i := i + 1) (R := (List.map recN (Z.take (i + 1)))) (L := (List.map stoodV (Z.take (i + 1)))) (p := (s, b)) (rs := [0, 1, 2, 3, 9, 10, 6]) rfl (frz_tlB hbv) hCf hDf (hfs_stood _) ⟨by decide, ⟨⟨rfl, rfl⟩, ⟨rfl, rfl⟩, ⟨rfl, rfl⟩, ⟨rfl, rfl⟩, ⟨hf_bd _ hbv, by rw [hf_mapV _ hbv]; rfl⟩, ⟨rfl, rfl⟩, ⟨rfl, rfl⟩, trivial⟩, ⟨⟨rowH hCf, by rw [mapRowH hCf]; rfl⟩, ⟨rowH hDf, by rw [mapRowH hDf]; rfl⟩, ⟨rfl, rfl⟩, ⟨rfl, rfl⟩, ⟨rowH (hfs_rcs _), ?_⟩, ⟨?_, ?_⟩, ⟨rowH (scs_hfs_bys _), by rw [mapRowH (scs_hfs_bys _), hsw]; rfl⟩, trivial⟩⟩
               · rw [mapRowH (hfs_rcs _), rcs_append]
                 show _ = some (AObj.row 123 (rcs (List.map recN (Z.take (i + 1))) ++ [.int .u8 s, .bool (bareQ b), .int .u32 _]))
                 rw [hbq]; rfl
               · show bds _ ((List.map stoodV (Z.take (i + 1))) ++ [_]) = true
                 rw [bds_app (hfs_stood _)]; rfl
               · show _ = some (AObj.row 32 (mapVs _ ((List.map stoodV (Z.take (i + 1))) ++ [_])))
                 rw [mapVs_app (hfs_stood _)]; rfl
             · have hw78 : w0 ≠ 78 := by have : ¬ ((w0 : Nat) : Int) = 78 := hc
                                         omega
               have hbq : bareQ b = false := by unfold bareQ; rw [hw]; simp [hw78]
               have hsw : stoodN b = w0 :: wt := by unfold stoodN; rw [hbq, hw]; rfl
               conv => whnf
               repeat' (first | (refine w14 (q' := .u8) rfl (u8_in (by omega)) ?_; conv => whnf) | fail)
               refine ESc.inl h67 ?_; conv => whnf
               refine ESc.ov h107 (over_row (e := 5) (bs := stoodN b) (by rw [hsw]; rfl) (stoodN_length (by omega)) (stoodN_lt hb2.2)) ?_; conv => whnf
               repeat' (first | (refine EPrim.appNil (m := 1) rfl rfl rfl rfl (by decide) (by decide) ?_; conv => whnf) | (refine EPrim.appU (m := 1) rfl rfl rfl rfl (by first | (rw [rcs_length, hRl]) | (rw [hLl]; omega)) rfl (by decide) (by omega) ?_; conv => whnf) | ((first | refine w7 rfl rfl (by omega) ?_ | refine ⟨rfl, ?_⟩); conv => whnf) | fail)
               refine ⟨i + 1 + 1, by omega, by omega, ?_⟩
               rw [osK_le (by omega), htk, List.map_append, List.map_append]
               refine blk_step (i := i + 1) (R := (List.map recN (Z.take (i + 1)))) (L := (List.map stoodV (Z.take (i + 1)))) (p := (s, b)) (rs := [0, 1, 2, 3, 9, 10, 6]) rfl (frz_tlB hbv) hCf hDf (hfs_stood _) ⟨by decide, ⟨⟨rfl, rfl⟩, ⟨rfl, rfl⟩, ⟨rfl, rfl⟩, ⟨rfl, rfl⟩, ⟨hf_bd _ hbv, by rw [hf_mapV _ hbv]; rfl⟩, ⟨rfl, rfl⟩, ⟨rfl, rfl⟩, trivial⟩, ⟨⟨rowH hCf, by rw [mapRowH hCf]; rfl⟩, ⟨rowH hDf, by rw [mapRowH hDf]; rfl⟩, ⟨rfl, rfl⟩, ⟨rfl, rfl⟩, ⟨rowH (hfs_rcs _), ?_⟩, ⟨?_, ?_⟩, ⟨rowH (scs_hfs_bys _), by rw [mapRowH (scs_hfs_bys _), hsw]; rfl⟩, trivial⟩⟩
               · rw [mapRowH (hfs_rcs _), rcs_append]
                 show _ = some (AObj.row 123 (rcs (List.map recN (Z.take (i + 1))) ++ [.int .u8 s, .bool (bareQ b), .int .u32 _]))
                 rw [hbq]; rfl
               · show bds _ ((List.map stoodV (Z.take (i + 1))) ++ [_]) = true
                 rw [bds_app (hfs_stood _)]; rfl
               · show _ = some (AObj.row 32 (mapVs _ ((List.map stoodV (Z.take (i + 1))) ++ [_])))
                 rw [mapVs_app (hfs_stood _)]; rfl
   · have htZ : Z.take i = Z := List.take_of_length_le (by omega)
     have fin2 : ∀ (M : List (Int × List Nat)) (n : Nat), X.d.prs = M → M.length = n → k0 < n → W P 0 none rest48 (ofL tlC) (allocs St0 (osCR [.int .u32 id, .int .i64 mb, .int .i64 ch, .int .i64 ro, .int .i64 lo, .int .i64 he] [.int .i64 st, sv, bv, pv] id ag sq st (M.map recN) (LL k0 5 M) m n)) [] (Ends [.tmp 8, .tmp 9] K) := by
       intro M n hM hn hk
       have := hR (by rw [hM, hn]; exact hk)
       rw [hM, hn, hX] at this
       exact this
     have fin2F : ∀ (M : List (Int × List Nat)) (n : Nat), X.d.prs = M → M.length = n → n ≤ k0 → W P 0 none rest48 (ofL tlC) (allocs St0 (osC [.int .u32 id, .int .i64 mb, .int .i64 ch, .int .i64 ro, .int .i64 lo, .int .i64 he] [.int .i64 st, sv, bv, pv] id ag sq st (M.map recN) (M.map stoodV) n)) [] (Ends [.tmp 8, .tmp 9] K) := by
       intro M n hM hn hk
       have := hF (by rw [hM, hn]; exact hk)
       rw [hM, hn, hX] at this
       exact this
     obtain ⟨j, rfl⟩ : ∃ j, i = j + 1 := ⟨i - 1, by omega⟩
     by_cases hki : k0 < j + 1
     · rw [osK_gt hki, htZ]
       have hkZ : k0 < Z.length := by omega
       have hRl : (Z.map recN).length = j + 1 := by simp; omega
       have hLl : (LL k0 6 Z).length = j + 1 := by rw [LL_length]; omega
       conv => whnf
       refine EPrim.lss2 rfl rfl (fun h => by omega) (fun h => ?_); conv => whnf
       refine W.seqV hE hm ?_; conv => whnf
       refine EPrim.lenZ rfl hp ?_; conv => whnf
       refine EPrim.gtr2 rfl rfl (fun h => ?_) (fun h => ?_)
       · have hpl : pb.length = 128 := by omega
         have hb2 := hpb
         have hpr : X.d.prs = Z ++ [(255, pb)] := by rw [hprs, if_neg (by omega)]
         obtain ⟨w0, wt, hw⟩ : ∃ w0 wt, wholeN pb = w0 :: wt := by
           have := wholeN_length (b := pb) (by omega)
           cases hq : wholeN pb with
           | nil => rw [hq] at this; simp at this
           | cons a l => exact ⟨a, l, rfl⟩
         have hwl : wt.length = 127 := by have := wholeN_length (b := pb) (by omega); rw [hw] at this; simpa using this
         have hwb := wholeN_lt hb2.2
         rw [hw] at hwb
         conv => whnf
         refine ECall.inl h88.O h88.G ?_; conv => whnf
         refine ESc.inl h89 ?_; conv => whnf
         refine EPrim.mksB (n := 127) rfl rfl (by decide) ?_; conv => whnf
         refine EPrim.copyS (l := bys pb) (n := pb.length) rfl rfl hb2.1 (by omega) (store_whole rfl (by omega)) (fun S hS => ?_)
         rcases hS with ⟨rfl, h0⟩ | rfl
         · have hb0 : pb = [] := List.map_eq_nil_iff.1 h0
           have h00 : 0 = w0 ∧ List.replicate 127 0 = wt := by
             rw [hb0] at hw
             have hw : (0 :: List.replicate 127 0 : List Nat) = w0 :: wt := hw
             injection hw with q1 q2
             exact ⟨q1, q2⟩
           obtain ⟨rfl, rfl⟩ := h00
           conv => whnf
           refine EPrim.ixsPZ rfl rfl (by omega) (by omega) ?_; conv => whnf
           refine EPrim.eql2 rfl rfl (fun hc => absurd hc (by decide)) (fun hc => ?_)
           have hbq : bareQ pb = false := by rw [hb0]; rfl
           have hsw : stoodN pb = 0 :: List.replicate 127 0 := by rw [hb0]; rfl
           conv => whnf
           repeat' (first | (refine w14 (q' := .u8) rfl (u8_in (by omega)) ?_; conv => whnf) | fail)
           refine ESc.inl h67 ?_; conv => whnf
           refine ESc.ov h107 (over_row (e := 5) (bs := stoodN pb) (by rw [hsw]; rfl) (stoodN_length (by omega)) (stoodN_lt hb2.2)) ?_; conv => whnf
           repeat' (first | (refine EPrim.appNil (m := 1) rfl rfl rfl rfl (by decide) (by decide) ?_; conv => whnf) | (refine EPrim.appU (m := 1) rfl rfl rfl rfl (by first | (rw [rcs_length, hRl]) | (rw [hLl]; omega)) rfl (by decide) (by omega) ?_; conv => whnf) | (refine ⟨rfl, ?_⟩; conv => whnf) | fail)
           refine W.tells (Tells.trans (t2 := ofL tlC) (s2 := allocs St0 (osB [.int .u32 id, .int .i64 mb, .int .i64 ch, .int .i64 ro, .int .i64 lo, .int .i64 he] [.int .i64 st, sv, bv, pv] id ag sq st (Z.map recN ++ [recN (255, pb)]) (LL k0 6 (Z ++ [(255, pb)])) (j + 1 + 1) ++ [.row 5 (bys m)])) (ds2 := []) ?_ (osCR_tells hCf hDf rfl rfl)) (by have := fin2 _ (j + 1 + 1) hpr (by simp; omega) (by omega); rwa [List.map_append] at this)
           rw [LL_app hkZ]
           refine blk_stepC (tl := tlC) (i := j + 1) (R := Z.map recN) (M := Z) (p := (255, pb)) (m := m) (k0 := k0) (rs := [0, 1, 2, 3, 10, 11, 6, 7]) rfl rfl hCf hDf ⟨by decide, ⟨⟨rfl, rfl⟩, ⟨rfl, rfl⟩, trivial⟩, ⟨⟨rowH hCf, by rw [mapRowH hCf]; rfl⟩, ⟨rowH hDf, by rw [mapRowH hDf]; rfl⟩, ⟨rfl, rfl⟩, ⟨rfl, rfl⟩, ⟨rowH (hfs_rcs _), ?_⟩, ⟨?_, ?_⟩, ⟨rowH (scs_hfs_bys _), by rw [mapRowH (scs_hfs_bys _)]; rfl⟩, ⟨rowH (scs_hfs_bys _), by rw [mapRowH (scs_hfs_bys _), hsw]; rfl⟩, trivial⟩⟩
           · rw [mapRowH (hfs_rcs _), rcs_append]
             show _ = some (AObj.row 123 (rcs (Z.map recN) ++ [.int .u8 255, .bool (bareQ pb), .int .u32 _]))
             rw [hbq]; rfl
           · show bds _ (LL k0 6 Z ++ [_]) = true
             exact bds_appB (bds_LL _ (by show (6 : Nat) < 8; decide)) rfl
           · show _ = some (AObj.row 32 (mapVs _ (LL k0 6 Z ++ [_])))
             rw [mapVs_appB, mapVs_LL]; rfl
         · rw [hw]
           conv => whnf
           refine EPrim.ixsPZ rfl rfl (by omega) (by omega) ?_; conv => whnf
           refine EPrim.eql2 rfl rfl (fun hc => ?_) (fun hc => ?_)
           · have hw78 : w0 = 78 := by have : ((w0 : Nat) : Int) = 78 := hc
                                       omega
             have hbq : bareQ pb = true := by unfold bareQ; rw [hw]; simp [hw78]
             have hsw : stoodN pb = 0 :: wt := by unfold stoodN; rw [if_pos hbq, hw]; rfl
             conv => whnf
             refine EPrim.ixsPZ rfl rfl (by omega) (by omega) ?_; conv => whnf
             repeat' (first | (refine w14 (q' := .u8) rfl (u8_in (by omega)) ?_; conv => whnf) | fail)
             refine ESc.inl h67 ?_; conv => whnf
             refine ESc.ov h107 (over_row (e := 5) (bs := stoodN pb) (by rw [hsw]; rfl) (stoodN_length (by omega)) (stoodN_lt hb2.2)) ?_; conv => whnf
             repeat' (first | (refine EPrim.appNil (m := 1) rfl rfl rfl rfl (by decide) (by decide) ?_; conv => whnf) | (refine EPrim.appU (m := 1) rfl rfl rfl rfl (by first | (rw [rcs_length, hRl]) | (rw [hLl]; omega)) rfl (by decide) (by omega) ?_; conv => whnf) | (refine ⟨rfl, ?_⟩; conv => whnf) | fail)
             refine W.tells (Tells.trans (t2 := ofL tlC) (s2 := allocs St0 (osB [.int .u32 id, .int .i64 mb, .int .i64 ch, .int .i64 ro, .int .i64 lo, .int .i64 he] [.int .i64 st, sv, bv, pv] id ag sq st (Z.map recN ++ [recN (255, pb)]) (LL k0 6 (Z ++ [(255, pb)])) (j + 1 + 1) ++ [.row 5 (bys m)])) (ds2 := []) ?_ (osCR_tells hCf hDf rfl rfl)) (by have := fin2 _ (j + 1 + 1) hpr (by simp; omega) (by omega); rwa [List.map_append] at this)
             rw [LL_app hkZ]
             refine blk_stepC (tl := tlC) (i := j + 1) (R := Z.map recN) (M := Z) (p := (255, pb)) (m := m) (k0 := k0) (rs := [0, 1, 2, 3, 10, 11, 6, 7]) rfl rfl hCf hDf ⟨by decide, ⟨⟨rfl, rfl⟩, ⟨rfl, rfl⟩, trivial⟩, ⟨⟨rowH hCf, by rw [mapRowH hCf]; rfl⟩, ⟨rowH hDf, by rw [mapRowH hDf]; rfl⟩, ⟨rfl, rfl⟩, ⟨rfl, rfl⟩, ⟨rowH (hfs_rcs _), ?_⟩, ⟨?_, ?_⟩, ⟨rowH (scs_hfs_bys _), by rw [mapRowH (scs_hfs_bys _)]; rfl⟩, ⟨rowH (scs_hfs_bys _), by rw [mapRowH (scs_hfs_bys _), hsw]; rfl⟩, trivial⟩⟩
             · rw [mapRowH (hfs_rcs _), rcs_append]
               show _ = some (AObj.row 123 (rcs (Z.map recN) ++ [.int .u8 255, .bool (bareQ pb), .int .u32 _]))
               rw [hbq]; rfl
             · show bds _ (LL k0 6 Z ++ [_]) = true
               exact bds_appB (bds_LL _ (by show (6 : Nat) < 8; decide)) rfl
             · show _ = some (AObj.row 32 (mapVs _ (LL k0 6 Z ++ [_])))
               rw [mapVs_appB, mapVs_LL]; rfl
           · have hw78 : w0 ≠ 78 := by have : ¬ ((w0 : Nat) : Int) = 78 := hc
                                       omega
             have hbq : bareQ pb = false := by unfold bareQ; rw [hw]; simp [hw78]
             have hsw : stoodN pb = w0 :: wt := by unfold stoodN; rw [hbq, hw]; rfl
             conv => whnf
             repeat' (first | (refine w14 (q' := .u8) rfl (u8_in (by omega)) ?_; conv => whnf) | fail)
             refine ESc.inl h67 ?_; conv => whnf
             refine ESc.ov h107 (over_row (e := 5) (bs := stoodN pb) (by rw [hsw]; rfl) (stoodN_length (by omega)) (stoodN_lt hb2.2)) ?_; conv => whnf
             repeat' (first | (refine EPrim.appNil (m := 1) rfl rfl rfl rfl (by decide) (by decide) ?_; conv => whnf) | (refine EPrim.appU (m := 1) rfl rfl rfl rfl (by first | (rw [rcs_length, hRl]) | (rw [hLl]; omega)) rfl (by decide) (by omega) ?_; conv => whnf) | (refine ⟨rfl, ?_⟩; conv => whnf) | fail)
             refine W.tells (Tells.trans (t2 := ofL tlC) (s2 := allocs St0 (osB [.int .u32 id, .int .i64 mb, .int .i64 ch, .int .i64 ro, .int .i64 lo, .int .i64 he] [.int .i64 st, sv, bv, pv] id ag sq st (Z.map recN ++ [recN (255, pb)]) (LL k0 6 (Z ++ [(255, pb)])) (j + 1 + 1) ++ [.row 5 (bys m)])) (ds2 := []) ?_ (osCR_tells hCf hDf rfl rfl)) (by have := fin2 _ (j + 1 + 1) hpr (by simp; omega) (by omega); rwa [List.map_append] at this)
             rw [LL_app hkZ]
             refine blk_stepC (tl := tlC) (i := j + 1) (R := Z.map recN) (M := Z) (p := (255, pb)) (m := m) (k0 := k0) (rs := [0, 1, 2, 3, 10, 11, 6, 7]) rfl rfl hCf hDf ⟨by decide, ⟨⟨rfl, rfl⟩, ⟨rfl, rfl⟩, trivial⟩, ⟨⟨rowH hCf, by rw [mapRowH hCf]; rfl⟩, ⟨rowH hDf, by rw [mapRowH hDf]; rfl⟩, ⟨rfl, rfl⟩, ⟨rfl, rfl⟩, ⟨rowH (hfs_rcs _), ?_⟩, ⟨?_, ?_⟩, ⟨rowH (scs_hfs_bys _), by rw [mapRowH (scs_hfs_bys _)]; rfl⟩, ⟨rowH (scs_hfs_bys _), by rw [mapRowH (scs_hfs_bys _), hsw]; rfl⟩, trivial⟩⟩
             · rw [mapRowH (hfs_rcs _), rcs_append]
               show _ = some (AObj.row 123 (rcs (Z.map recN) ++ [.int .u8 255, .bool (bareQ pb), .int .u32 _]))
               rw [hbq]; rfl
             · show bds _ (LL k0 6 Z ++ [_]) = true
               exact bds_appB (bds_LL _ (by show (6 : Nat) < 8; decide)) rfl
             · show _ = some (AObj.row 32 (mapVs _ (LL k0 6 Z ++ [_])))
               rw [mapVs_appB, mapVs_LL]; rfl
       · have hpr : X.d.prs = Z := by rw [hprs, if_pos (by omega), List.append_nil]
         conv => whnf
         exact W.tells (osCR_tells hCf hDf rfl rfl) (fin2 _ _ hpr (by omega) hki)
     · rw [osK_le (by omega), htZ]
       have hRl : (Z.map recN).length = j + 1 := by simp; omega
       have hLl : (Z.map stoodV).length = j + 1 := by simp; omega
       conv => whnf
       refine EPrim.lss2 rfl rfl (fun h => by omega) (fun h => ?_); conv => whnf
       refine W.seqV hE hm ?_; conv => whnf
       refine EPrim.lenZ rfl hp ?_; conv => whnf
       refine EPrim.gtr2 rfl rfl (fun h => ?_) (fun h => ?_)
       · have hpl : pb.length = 128 := by omega
         have hb2 := hpb
         have hpr : X.d.prs = Z ++ [(255, pb)] := by rw [hprs, if_neg (by omega)]
         obtain ⟨w0, wt, hw⟩ : ∃ w0 wt, wholeN pb = w0 :: wt := by
           have := wholeN_length (b := pb) (by omega)
           cases hq : wholeN pb with
           | nil => rw [hq] at this; simp at this
           | cons a l => exact ⟨a, l, rfl⟩
         have hwl : wt.length = 127 := by have := wholeN_length (b := pb) (by omega); rw [hw] at this; simpa using this
         have hwb := wholeN_lt hb2.2
         rw [hw] at hwb
         by_cases hZk : Z.length = k0
         · have hmb : m = stoodN pb := hm0 (255, pb) (by rw [hpr, List.getElem?_append_right (by omega), hZk, Nat.sub_self]; rfl)
           conv => whnf
           refine ECall.inl h88.O h88.G ?_; conv => whnf
           refine ESc.inl h89 ?_; conv => whnf
           refine EPrim.mksB (n := 127) rfl rfl (by decide) ?_; conv => whnf
           refine EPrim.copyS (l := bys pb) (n := pb.length) rfl rfl hb2.1 (by omega) (store_whole rfl (by omega)) (fun S hS => ?_)
           rcases hS with ⟨rfl, h0⟩ | rfl
           · have hb0 : pb = [] := List.map_eq_nil_iff.1 h0
             have h00 : 0 = w0 ∧ List.replicate 127 0 = wt := by
               rw [hb0] at hw
               have hw : (0 :: List.replicate 127 0 : List Nat) = w0 :: wt := hw
               injection hw with q1 q2
               exact ⟨q1, q2⟩
             obtain ⟨rfl, rfl⟩ := h00
             conv => whnf
             refine EPrim.ixsPZ rfl rfl (by omega) (by omega) ?_; conv => whnf
             refine EPrim.eql2 rfl rfl (fun hc => absurd hc (by decide)) (fun hc => ?_)
             have hbq : bareQ pb = false := by rw [hb0]; rfl
             have hsw : stoodN pb = 0 :: List.replicate 127 0 := by rw [hb0]; rfl
             conv => whnf
             repeat' (first | (refine w14 (q' := .u8) rfl (u8_in (by omega)) ?_; conv => whnf) | fail)
             refine ESc.inl h67 ?_; conv => whnf
             refine ESc.ov h107 (over_row (e := 5) (bs := stoodN pb) (by rw [hsw]; rfl) (stoodN_length (by omega)) (stoodN_lt hb2.2)) ?_; conv => whnf
             repeat' (first | (refine EPrim.appNil (m := 1) rfl rfl rfl rfl (by decide) (by decide) ?_; conv => whnf) | (refine EPrim.appU (m := 1) rfl rfl rfl rfl (by first | (rw [rcs_length, hRl]) | (rw [hLl]; omega)) rfl (by decide) (by omega) ?_; conv => whnf) | (refine ⟨rfl, ?_⟩; conv => whnf) | fail)
             refine W.tells (Tells.trans (t2 := ofL tlC) (s2 := allocs St0 (osB [.int .u32 id, .int .i64 mb, .int .i64 ch, .int .i64 ro, .int .i64 lo, .int .i64 he] [.int .i64 st, sv, bv, pv] id ag sq st (Z.map recN ++ [recN (255, pb)]) (LL k0 6 (Z ++ [(255, pb)])) (j + 1 + 1) ++ [.row 5 (bys m)])) (ds2 := []) ?_ (osCR_tells hCf hDf rfl rfl)) (by have := fin2 _ (j + 1 + 1) hpr (by simp; omega) (by omega); rwa [List.map_append] at this)
             rw [LL_at hZk]
             refine Abs.tells (rs := [0, 1, 2, 3, 9, 10, 6]) ⟨by decide, ⟨⟨rfl, rfl⟩, ⟨rfl, rfl⟩, trivial⟩, ⟨⟨rowH hCf, by rw [mapRowH hCf]; rfl⟩, ⟨rowH hDf, by rw [mapRowH hDf]; rfl⟩, ⟨rfl, rfl⟩, ⟨rfl, rfl⟩, ⟨rowH (hfs_rcs _), ?_⟩, ⟨?_, ?_⟩, ⟨rowH (scs_hfs_bys _), by rw [mapRowH (scs_hfs_bys _), hmb, hsw]; rfl⟩, trivial⟩⟩
             · rw [mapRowH (hfs_rcs _), rcs_append]
               show _ = some (AObj.row 123 (rcs (Z.map recN) ++ [.int .u8 255, .bool (bareQ pb), .int .u32 _]))
               rw [hbq]; rfl
             · show bds _ (Z.map stoodV ++ [_]) = true
               rw [bds_app (hfs_stood _)]; rfl
             · show _ = some (AObj.row 32 (mapVs _ (Z.map stoodV ++ [_])))
               rw [mapVs_app (hfs_stood _)]; rfl
           · rw [hw]
             conv => whnf
             refine EPrim.ixsPZ rfl rfl (by omega) (by omega) ?_; conv => whnf
             refine EPrim.eql2 rfl rfl (fun hc => ?_) (fun hc => ?_)
             · have hw78 : w0 = 78 := by have : ((w0 : Nat) : Int) = 78 := hc
                                         omega
               have hbq : bareQ pb = true := by unfold bareQ; rw [hw]; simp [hw78]
               have hsw : stoodN pb = 0 :: wt := by unfold stoodN; rw [if_pos hbq, hw]; rfl
               conv => whnf
               refine EPrim.ixsPZ rfl rfl (by omega) (by omega) ?_; conv => whnf
               repeat' (first | (refine w14 (q' := .u8) rfl (u8_in (by omega)) ?_; conv => whnf) | fail)
               refine ESc.inl h67 ?_; conv => whnf
               refine ESc.ov h107 (over_row (e := 5) (bs := stoodN pb) (by rw [hsw]; rfl) (stoodN_length (by omega)) (stoodN_lt hb2.2)) ?_; conv => whnf
               repeat' (first | (refine EPrim.appNil (m := 1) rfl rfl rfl rfl (by decide) (by decide) ?_; conv => whnf) | (refine EPrim.appU (m := 1) rfl rfl rfl rfl (by first | (rw [rcs_length, hRl]) | (rw [hLl]; omega)) rfl (by decide) (by omega) ?_; conv => whnf) | (refine ⟨rfl, ?_⟩; conv => whnf) | fail)
               refine W.tells (Tells.trans (t2 := ofL tlC) (s2 := allocs St0 (osB [.int .u32 id, .int .i64 mb, .int .i64 ch, .int .i64 ro, .int .i64 lo, .int .i64 he] [.int .i64 st, sv, bv, pv] id ag sq st (Z.map recN ++ [recN (255, pb)]) (LL k0 6 (Z ++ [(255, pb)])) (j + 1 + 1) ++ [.row 5 (bys m)])) (ds2 := []) ?_ (osCR_tells hCf hDf rfl rfl)) (by have := fin2 _ (j + 1 + 1) hpr (by simp; omega) (by omega); rwa [List.map_append] at this)
               rw [LL_at hZk]
               refine Abs.tells (rs := [0, 1, 2, 3, 9, 10, 6]) ⟨by decide, ⟨⟨rfl, rfl⟩, ⟨rfl, rfl⟩, trivial⟩, ⟨⟨rowH hCf, by rw [mapRowH hCf]; rfl⟩, ⟨rowH hDf, by rw [mapRowH hDf]; rfl⟩, ⟨rfl, rfl⟩, ⟨rfl, rfl⟩, ⟨rowH (hfs_rcs _), ?_⟩, ⟨?_, ?_⟩, ⟨rowH (scs_hfs_bys _), by rw [mapRowH (scs_hfs_bys _), hmb, hsw]; rfl⟩, trivial⟩⟩
               · rw [mapRowH (hfs_rcs _), rcs_append]
                 show _ = some (AObj.row 123 (rcs (Z.map recN) ++ [.int .u8 255, .bool (bareQ pb), .int .u32 _]))
                 rw [hbq]; rfl
               · show bds _ (Z.map stoodV ++ [_]) = true
                 rw [bds_app (hfs_stood _)]; rfl
               · show _ = some (AObj.row 32 (mapVs _ (Z.map stoodV ++ [_])))
                 rw [mapVs_app (hfs_stood _)]; rfl
             · have hw78 : w0 ≠ 78 := by have : ¬ ((w0 : Nat) : Int) = 78 := hc
                                         omega
               have hbq : bareQ pb = false := by unfold bareQ; rw [hw]; simp [hw78]
               have hsw : stoodN pb = w0 :: wt := by unfold stoodN; rw [hbq, hw]; rfl
               conv => whnf
               repeat' (first | (refine w14 (q' := .u8) rfl (u8_in (by omega)) ?_; conv => whnf) | fail)
               refine ESc.inl h67 ?_; conv => whnf
               refine ESc.ov h107 (over_row (e := 5) (bs := stoodN pb) (by rw [hsw]; rfl) (stoodN_length (by omega)) (stoodN_lt hb2.2)) ?_; conv => whnf
               repeat' (first | (refine EPrim.appNil (m := 1) rfl rfl rfl rfl (by decide) (by decide) ?_; conv => whnf) | (refine EPrim.appU (m := 1) rfl rfl rfl rfl (by first | (rw [rcs_length, hRl]) | (rw [hLl]; omega)) rfl (by decide) (by omega) ?_; conv => whnf) | (refine ⟨rfl, ?_⟩; conv => whnf) | fail)
               refine W.tells (Tells.trans (t2 := ofL tlC) (s2 := allocs St0 (osB [.int .u32 id, .int .i64 mb, .int .i64 ch, .int .i64 ro, .int .i64 lo, .int .i64 he] [.int .i64 st, sv, bv, pv] id ag sq st (Z.map recN ++ [recN (255, pb)]) (LL k0 6 (Z ++ [(255, pb)])) (j + 1 + 1) ++ [.row 5 (bys m)])) (ds2 := []) ?_ (osCR_tells hCf hDf rfl rfl)) (by have := fin2 _ (j + 1 + 1) hpr (by simp; omega) (by omega); rwa [List.map_append] at this)
               rw [LL_at hZk]
               refine Abs.tells (rs := [0, 1, 2, 3, 9, 10, 6]) ⟨by decide, ⟨⟨rfl, rfl⟩, ⟨rfl, rfl⟩, trivial⟩, ⟨⟨rowH hCf, by rw [mapRowH hCf]; rfl⟩, ⟨rowH hDf, by rw [mapRowH hDf]; rfl⟩, ⟨rfl, rfl⟩, ⟨rfl, rfl⟩, ⟨rowH (hfs_rcs _), ?_⟩, ⟨?_, ?_⟩, ⟨rowH (scs_hfs_bys _), by rw [mapRowH (scs_hfs_bys _), hmb, hsw]; rfl⟩, trivial⟩⟩
               · rw [mapRowH (hfs_rcs _), rcs_append]
                 show _ = some (AObj.row 123 (rcs (Z.map recN) ++ [.int .u8 255, .bool (bareQ pb), .int .u32 _]))
                 rw [hbq]; rfl
               · show bds _ (Z.map stoodV ++ [_]) = true
                 rw [bds_app (hfs_stood _)]; rfl
               · show _ = some (AObj.row 32 (mapVs _ (Z.map stoodV ++ [_])))
                 rw [mapVs_app (hfs_stood _)]; rfl
         · have hfl2 : hfs (Z.map stoodV ++ [stoodV (255, pb)]) = true := by
             have := hfs_stood (Z ++ [(255, pb)])
             rwa [List.map_append] at this
           conv => whnf
           refine ECall.inl h88.O h88.G ?_; conv => whnf
           refine ESc.inl h89 ?_; conv => whnf
           refine EPrim.mksB (n := 127) rfl rfl (by decide) ?_; conv => whnf
           refine EPrim.copyS (l := bys pb) (n := pb.length) rfl rfl hb2.1 (by omega) (store_whole rfl (by omega)) (fun S hS => ?_)
           rcases hS with ⟨rfl, h0⟩ | rfl
           · have hb0 : pb = [] := List.map_eq_nil_iff.1 h0
             have h00 : 0 = w0 ∧ List.replicate 127 0 = wt := by
               rw [hb0] at hw
               have hw : (0 :: List.replicate 127 0 : List Nat) = w0 :: wt := hw
               injection hw with q1 q2
               exact ⟨q1, q2⟩
             obtain ⟨rfl, rfl⟩ := h00
             conv => whnf
             refine EPrim.ixsPZ rfl rfl (by omega) (by omega) ?_; conv => whnf
             refine EPrim.eql2 rfl rfl (fun hc => absurd hc (by decide)) (fun hc => ?_)
             have hbq : bareQ pb = false := by rw [hb0]; rfl
             have hsw : stoodN pb = 0 :: List.replicate 127 0 := by rw [hb0]; rfl
             conv => whnf
             repeat' (first | (refine w14 (q' := .u8) rfl (u8_in (by omega)) ?_; conv => whnf) | fail)
             refine ESc.inl h67 ?_; conv => whnf
             refine ESc.ov h107 (over_row (e := 5) (bs := stoodN pb) (by rw [hsw]; rfl) (stoodN_length (by omega)) (stoodN_lt hb2.2)) ?_; conv => whnf
             repeat' (first | (refine EPrim.appNil (m := 1) rfl rfl rfl rfl (by decide) (by decide) ?_; conv => whnf) | (refine EPrim.appU (m := 1) rfl rfl rfl rfl (by first | (rw [rcs_length, hRl]) | (rw [hLl]; omega)) rfl (by decide) (by omega) ?_; conv => whnf) | (refine ⟨rfl, ?_⟩; conv => whnf) | fail)
             refine W.tells ((blk_step (tl := tlC) (i := j + 1) (R := Z.map recN) (L := Z.map stoodV) (p := (255, pb)) (rs := [0, 1, 2, 3, 9, 10, 6]) rfl rfl hCf hDf (hfs_stood _) ⟨by decide, ⟨⟨rfl, rfl⟩, ⟨rfl, rfl⟩, trivial⟩, ⟨⟨rowH hCf, by rw [mapRowH hCf]; rfl⟩, ⟨rowH hDf, by rw [mapRowH hDf]; rfl⟩, ⟨rfl, rfl⟩, ⟨rfl, rfl⟩, ⟨rowH (hfs_rcs _), ?_⟩, ⟨?_, ?_⟩, ⟨rowH (scs_hfs_bys _), by rw [mapRowH (scs_hfs_bys _), hsw]; rfl⟩, trivial⟩⟩).trans (osC_tells hCf hDf hfl2 rfl rfl)) (by have := fin2F _ (j + 1 + 1) hpr (by simp; omega) (by omega); rwa [List.map_append, List.map_append] at this)
             · rw [mapRowH (hfs_rcs _), rcs_append]
               show _ = some (AObj.row 123 (rcs (Z.map recN) ++ [.int .u8 255, .bool (bareQ pb), .int .u32 _]))
               rw [hbq]; rfl
             · show bds _ (Z.map stoodV ++ [_]) = true
               rw [bds_app (hfs_stood _)]; rfl
             · show _ = some (AObj.row 32 (mapVs _ (Z.map stoodV ++ [_])))
               rw [mapVs_app (hfs_stood _)]; rfl
           · rw [hw]
             conv => whnf
             refine EPrim.ixsPZ rfl rfl (by omega) (by omega) ?_; conv => whnf
             refine EPrim.eql2 rfl rfl (fun hc => ?_) (fun hc => ?_)
             · have hw78 : w0 = 78 := by have : ((w0 : Nat) : Int) = 78 := hc
                                         omega
               have hbq : bareQ pb = true := by unfold bareQ; rw [hw]; simp [hw78]
               have hsw : stoodN pb = 0 :: wt := by unfold stoodN; rw [if_pos hbq, hw]; rfl
               conv => whnf
               refine EPrim.ixsPZ rfl rfl (by omega) (by omega) ?_; conv => whnf
               repeat' (first | (refine w14 (q' := .u8) rfl (u8_in (by omega)) ?_; conv => whnf) | fail)
               refine ESc.inl h67 ?_; conv => whnf
               refine ESc.ov h107 (over_row (e := 5) (bs := stoodN pb) (by rw [hsw]; rfl) (stoodN_length (by omega)) (stoodN_lt hb2.2)) ?_; conv => whnf
               repeat' (first | (refine EPrim.appNil (m := 1) rfl rfl rfl rfl (by decide) (by decide) ?_; conv => whnf) | (refine EPrim.appU (m := 1) rfl rfl rfl rfl (by first | (rw [rcs_length, hRl]) | (rw [hLl]; omega)) rfl (by decide) (by omega) ?_; conv => whnf) | (refine ⟨rfl, ?_⟩; conv => whnf) | fail)
               refine W.tells ((blk_step (tl := tlC) (i := j + 1) (R := Z.map recN) (L := Z.map stoodV) (p := (255, pb)) (rs := [0, 1, 2, 3, 9, 10, 6]) rfl rfl hCf hDf (hfs_stood _) ⟨by decide, ⟨⟨rfl, rfl⟩, ⟨rfl, rfl⟩, trivial⟩, ⟨⟨rowH hCf, by rw [mapRowH hCf]; rfl⟩, ⟨rowH hDf, by rw [mapRowH hDf]; rfl⟩, ⟨rfl, rfl⟩, ⟨rfl, rfl⟩, ⟨rowH (hfs_rcs _), ?_⟩, ⟨?_, ?_⟩, ⟨rowH (scs_hfs_bys _), by rw [mapRowH (scs_hfs_bys _), hsw]; rfl⟩, trivial⟩⟩).trans (osC_tells hCf hDf hfl2 rfl rfl)) (by have := fin2F _ (j + 1 + 1) hpr (by simp; omega) (by omega); rwa [List.map_append, List.map_append] at this)
               · rw [mapRowH (hfs_rcs _), rcs_append]
                 show _ = some (AObj.row 123 (rcs (Z.map recN) ++ [.int .u8 255, .bool (bareQ pb), .int .u32 _]))
                 rw [hbq]; rfl
               · show bds _ (Z.map stoodV ++ [_]) = true
                 rw [bds_app (hfs_stood _)]; rfl
               · show _ = some (AObj.row 32 (mapVs _ (Z.map stoodV ++ [_])))
                 rw [mapVs_app (hfs_stood _)]; rfl
             · have hw78 : w0 ≠ 78 := by have : ¬ ((w0 : Nat) : Int) = 78 := hc
                                         omega
               have hbq : bareQ pb = false := by unfold bareQ; rw [hw]; simp [hw78]
               have hsw : stoodN pb = w0 :: wt := by unfold stoodN; rw [hbq, hw]; rfl
               conv => whnf
               repeat' (first | (refine w14 (q' := .u8) rfl (u8_in (by omega)) ?_; conv => whnf) | fail)
               refine ESc.inl h67 ?_; conv => whnf
               refine ESc.ov h107 (over_row (e := 5) (bs := stoodN pb) (by rw [hsw]; rfl) (stoodN_length (by omega)) (stoodN_lt hb2.2)) ?_; conv => whnf
               repeat' (first | (refine EPrim.appNil (m := 1) rfl rfl rfl rfl (by decide) (by decide) ?_; conv => whnf) | (refine EPrim.appU (m := 1) rfl rfl rfl rfl (by first | (rw [rcs_length, hRl]) | (rw [hLl]; omega)) rfl (by decide) (by omega) ?_; conv => whnf) | (refine ⟨rfl, ?_⟩; conv => whnf) | fail)
               refine W.tells ((blk_step (tl := tlC) (i := j + 1) (R := Z.map recN) (L := Z.map stoodV) (p := (255, pb)) (rs := [0, 1, 2, 3, 9, 10, 6]) rfl rfl hCf hDf (hfs_stood _) ⟨by decide, ⟨⟨rfl, rfl⟩, ⟨rfl, rfl⟩, trivial⟩, ⟨⟨rowH hCf, by rw [mapRowH hCf]; rfl⟩, ⟨rowH hDf, by rw [mapRowH hDf]; rfl⟩, ⟨rfl, rfl⟩, ⟨rfl, rfl⟩, ⟨rowH (hfs_rcs _), ?_⟩, ⟨?_, ?_⟩, ⟨rowH (scs_hfs_bys _), by rw [mapRowH (scs_hfs_bys _), hsw]; rfl⟩, trivial⟩⟩).trans (osC_tells hCf hDf hfl2 rfl rfl)) (by have := fin2F _ (j + 1 + 1) hpr (by simp; omega) (by omega); rwa [List.map_append, List.map_append] at this)
               · rw [mapRowH (hfs_rcs _), rcs_append]
                 show _ = some (AObj.row 123 (rcs (Z.map recN) ++ [.int .u8 255, .bool (bareQ pb), .int .u32 _]))
                 rw [hbq]; rfl
               · show bds _ (Z.map stoodV ++ [_]) = true
                 rw [bds_app (hfs_stood _)]; rfl
               · show _ = some (AObj.row 32 (mapVs _ (Z.map stoodV ++ [_])))
                 rw [mapVs_app (hfs_stood _)]; rfl
       · have hpr : X.d.prs = Z := by rw [hprs, if_pos (by omega), List.append_nil]
         conv => whnf
         exact W.tells (osC_tells hCf hDf (hfs_stood _) rfl rfl) (fin2F _ _ hpr (by omega) (by omega))
end Go.AM

set_option maxRecDepth 100000
namespace Go.AM
attribute [local irreducible] W
open X
def blkUR (x : BD) : AV := .tup [.sl 1 0 (x.d.prs.length + 1) none, .int .i64 0]
def nwRF : FamR Nt := ⟨fun x => x.ok ∧ noteB x = true, nwF.enc, fun _ => .tup [.sl 0 0 128 (some 128), .int .i64 0], fun x => [.row 197 (bys (noteBk x))], fun x y hx hy h => ⟨rfl, by rw [Nt.inj hx.1 hy.1 h]⟩⟩
theorem nwRF_ok {P : Program} {e : Env} {fn fn' : Func} (hE : EnvOk P e) (hm : P.follows .mixedOrders = true) (h132 : Con e 132 nchkF.O) (h133 : Inl e 133 code133 [.tmp 8]) (h161 : Con e 161 putRO) (h100 : Inl e 100 code100 [.tmp 2]) (h67 : Inl e 67 code67 [.tmp 2]) (h107 : Con e 107 overO)
   (hf' : P.funcs[142]? = some fn') (hc' : compF P fn' = some a142) (hb' : HasBody P 142) (hf : P.funcs[90]? = some fn) (hc : compF P fn = some a90) (hb : HasBody P 90) : OvOk P 90 nwRF.O := by
 refine FamR.ok_of hb fun x hx => ⟨?_, plain_bys _ _, by show 0 < 1; decide, by show 1 < 1000; decide, nwR_C hE hm h132 h133 h161 h100 h67 h107 hf' hc' hb' hf hc hx.1 hx.2⟩
 obtain ⟨⟨_, _, _, _, hs, _, _⟩, _⟩ := hx
 show ((true && (true && (true && (true && (AM.hf x.v && true))))) && true) = true
 rw [hs.hf]; rfl
def osHB (m : List Nat) (L : List AV) : List AObj := [.row 197 (bys m), .row 32 (.sl 0 0 128 (some 128) :: L)]
theorem rest_runH {P : Program} {e : Env} (hE : EnvOk P e) (hm : P.follows .mixedOrders = true) (h90 : Con e 90 nwRF.O) (h91 : Con e 91 insO) {C D : List AV} {id ag sq st : Int} {R : List Rc} {L : List AV} {n : Nat} (hx : Nt.ok ⟨id, ag, sq, st, .fz n none (rcs R), R⟩) (hN : noteB ⟨id, ag, sq, st, .nils, R⟩ = true) (hn : R.length = n) (hl : L.length = n) (h0 : 0 < n) (h1 : n < 100000) (hL : hfs L = true) (K : AV → St → Prop)
   (hk : ∀ s v, Tells P 0 (ofL [(0, v)]) s [] (ofL [(0, .tup [.sl 1 0 (n + 1) none, .int .i64 0])]) (allocs St0 (osHB (noteBk ⟨id, ag, sq, st, .nils, R⟩) L)) [] → K v s) :
   W P 0 none rest48 (ofL tlC) (allocs St0 (osC C D id ag sq st R L n)) [] (Ends [.tmp 8, .tmp 9] K) := by
 refine W.endV hE hm ?_; conv => whnf
 have hN' : noteB ⟨id, ag, sq, st, .fz n none (rcs R), R⟩ = true := hN
 refine ESc.ov h90 (nwRF.run (x := ⟨id, ag, sq, st, .fz n none (rcs R), R⟩) ⟨hx, hN'⟩ _) ?_
 have e0 : nwRF.rows ⟨id, ag, sq, st, .fz n none (rcs R), R⟩ = [.row 197 (bys (noteBk ⟨id, ag, sq, st, .nils, R⟩))] := by
   show [AObj.row 197 (bys (noteBk _))] = _
   rw [noteBk_v id ag sq st (.fz n none (rcs R)) .nils R]
 rw [e0]
 generalize noteBk ⟨id, ag, sq, st, .nils, R⟩ = B at hk ⊢
 have e1 : ∀ σ : Nat → Nat, [AObj.row 197 (bys B)].map (mapO σ) = [.row 197 (bys B)] := fun σ => by rw [List.map_cons, List.map_nil, mapRowH (scs_hfs_bys _)]
 rw [e1]
 have e2 : mapV (fun x => x + (allocs St0 (osC C D id ag sq st R L n)).next) (nwRF.out ⟨id, ag, sq, st, .fz n none (rcs R), R⟩) = .tup [.sl 5 0 128 (some 128), .int .i64 0] := rfl
 rw [e2]
 conv => whnf
 repeat' (first | ((first | refine w1 rfl rfl ?_ ?_ | refine w2 rfl rfl ?_ ?_ | refine w3 rfl rfl ?_ ?_ | refine w4 rfl rfl ?_ ?_ | refine w5 rfl rfl ?_ ?_ | refine w6 rfl rfl ?_ ?_) <;> intro _ <;> first | (exfalso; omega) | (conv => whnf)) | ((first | refine w7 rfl rfl (by omega) ?_ | refine w8 rfl rfl (by omega) ?_ | refine w9 rfl rfl (by omega) ?_ | refine w10 rfl rfl ?_ | refine w11 rfl rfl ?_ | refine w12 rfl ?_ | refine w13 rfl ?_ | refine w14 (q' := .i64) rfl (i64_in (by omega)) ?_ | refine w14 (q' := .u32) rfl (u32_in (by omega)) ?_ | refine w14 (q' := .u8) rfl (u8_in (by omega)) ?_ | refine w15 rfl rfl ?_ | refine w16 rfl ?_ | refine w17 rfl ?_ | refine w18 rfl ?_ | refine ⟨rfl, ?_⟩); conv => whnf) | (refine w19 rfl ?_ ?_ <;> intro hc <;> (try subst hc) <;> conv => whnf))
 refine ESc.ov h91 (insO_at rfl rfl hl h0 h1 (by show (4 : Nat) ≠ 6; decide) (by show (7 : Nat) < 1000000000; decide)) ?_; conv => whnf
 refine hk _ _ (Abs.tells (rs := [5, 7]) ⟨by decide, ⟨⟨rfl, rfl⟩, trivial⟩, ⟨⟨rowH (scs_hfs_bys B), by rw [mapRowH (scs_hfs_bys B)]; rfl⟩, ⟨?_, ?_⟩, trivial⟩⟩)
 · show (true && bds 2 L) = true
   rw [hfs_bds _ hL]; rfl
 · show _ = some (AObj.row 32 (.sl 5 0 128 (some 128) :: mapVs _ L))
   rw [hfs_mapVs _ hL]; rfl
theorem BD.encf {x : BD} (hx : x.ok) : hfs x.enc = true := by
 show (true && (true && (true && (AM.hf (Dl.v _) && true)))) = true
 rw [Dl.hf hx.d.d]; rfl
theorem blk_nt {x : BD} (hx : x.ok) (hG : CD.good ⟨x.c, x.d.d⟩) : Nt.ok ⟨x.c.id, x.age, x.seq, x.d.st, .fz x.d.prs.length none (rcs (x.d.prs.map recN)), x.d.prs.map recN⟩ ∧ 0 < x.d.prs.length ∧ x.d.prs.length < 100 := by
 have hp := deal_prs hG.1 hx.d hG.2
 have hl := prs_len (dgood_of hG)
 have hM := hG.1
 unfold Cfg.may at hM
 dsimp only at hM
 obtain ⟨hst, _⟩ := hx.d.d
 refine ⟨⟨hx.c.id, hx.age, hx.seq, hst, .inr (.inr ⟨none, by rw [List.length_map], rcs_length _⟩), fun r hr => ?_, by rw [List.length_map]; omega⟩, by omega, by omega⟩
 obtain ⟨p, hp', rfl⟩ := List.mem_map.1 hr
 exact recN_ok (hp p hp').1
theorem blkF_ok2 {P : Program} {e : Env} {fn : Func} (hE : EnvOk P e) (hm : P.follows .mixedOrders = true) (h50 : Con e 50 dchkF.O) (h88 : Inl e 88 code88 []) (h89 : Inl e 89 code89 [.tmp 2]) (h67 : Inl e 67 code67 [.tmp 2]) (h107 : Con e 107 overO) (h90 : Con e 90 nwF.O) (h91 : Con e 91 insO) (hf : P.funcs[48]? = some fn) (hc : compF P fn = some a48) (hb : HasBody P 48) : OvOk P 48 blkF.O := by
 refine Fam.ok_of hb fun x hx => ⟨BD.encf hx, hf_blkOut _, C.of_W hf hc ?_⟩
 by_cases hG : CD.good ⟨x.c, x.d.d⟩
 · have hnt := blk_nt hx hG
   refine blk_walk hE hm h50 h88 h89 h67 h107 hx hG (k0 := x.d.prs.length) (m := []) (fun p h => by rw [List.getElem?_eq_none (Nat.le_refl _)] at h; cases h) _ (fun h => absurd h (Nat.lt_irrefl _)) (fun _ => rest_run hE hm h90 h91 hnt.1 (List.length_map _) (List.length_map _) hnt.2.1 (by omega) (hfs_stood _) _ (fun s v hv => ?_))
   show Frz s v (blkOut x)
   unfold blkOut
   rw [if_pos hG]
   exact hv
 · have hxx := hx
   have hout : blkF.out x = .tup [.nils, .int .i64 8] := by show blkOut x = _; unfold blkOut; rw [if_neg hG]
   rw [hout]
   obtain ⟨⟨id, mb, ch, ro, lo, he⟩, ag, sq, ⟨st, sv, sl, bv, us, bs, pv, pb⟩⟩ := x
   show W P 0 none code48 (initT [AV.agg (Cfg.c ⟨id, mb, ch, ro, lo, he⟩), .int .u32 ag, .int .u32 sq, AV.agg [.int .i64 st, sv, bv, pv]] 0 .lf) St0 [] (Ends [.tmp 8, .tmp 9] _)
   refine W.seqV hE hm ?_; conv => whnf
   refine W.seqV hE hm ?_; conv => whnf
   refine ESc.fam dchkF h50 ⟨⟨id, mb, ch, ro, lo, he⟩, DB.d ⟨st, sv, sl, bv, us, bs, pv, pb⟩⟩ ⟨hxx.c, hxx.d.d⟩ (u := .int .i64 (if CD.good ⟨⟨id, mb, ch, ro, lo, he⟩, DB.d ⟨st, sv, sl, bv, us, bs, pv, pb⟩⟩ then 0 else 8)) rfl ?_
   rw [if_neg hG]
   conv => whnf
   repeat' (first | ((first | refine w1 rfl rfl ?_ ?_ | refine w2 rfl rfl ?_ ?_ | refine w3 rfl rfl ?_ ?_ | refine w4 rfl rfl ?_ ?_ | refine w5 rfl rfl ?_ ?_ | refine w6 rfl rfl ?_ ?_) <;> intro _ <;> first | (exfalso; omega) | (conv => whnf)) | ((first | refine w7 rfl rfl (by omega) ?_ | refine w8 rfl rfl (by omega) ?_ | refine w9 rfl rfl (by omega) ?_ | refine w10 rfl rfl ?_ | refine w11 rfl rfl ?_ | refine w12 rfl ?_ | refine w13 rfl ?_ | refine w14 (q' := .i64) rfl (i64_in (by omega)) ?_ | refine w14 (q' := .u32) rfl (u32_in (by omega)) ?_ | refine w14 (q' := .u8) rfl (u8_in (by omega)) ?_ | refine w15 rfl rfl ?_ | refine w16 rfl ?_ | refine w17 rfl ?_ | refine w18 rfl ?_ | refine ⟨rfl, ?_⟩); conv => whnf) | (refine w19 rfl ?_ ?_ <;> intro hc <;> (try subst hc) <;> conv => whnf))
   exact ⟨.inr rfl, _, _, rfl, rfl, .plain _ rfl⟩
theorem blkR_C {P : Program} {e : Env} {fn : Func} (hE : EnvOk P e) (hm : P.follows .mixedOrders = true) (h50 : Con e 50 dchkF.O) (h88 : Inl e 88 code88 []) (h89 : Inl e 89 code89 [.tmp 2]) (h67 : Inl e 67 code67 [.tmp 2]) (h107 : Con e 107 overO) (h90 : Con e 90 nwF.O) (h91 : Con e 91 insO) (hf : P.funcs[48]? = some fn) (hc : compF P fn = some a48)
   {x : BD} (hx : x.ok) (hG : CD.good ⟨x.c, x.d.d⟩) (hNt : noteB x.note = true) {k0 : Nat} {p0 : Int × List Nat} (hp0 : x.d.prs[k0]? = some p0) {m : List Nat} (hm0 : m = stoodN p0.2) :
   C P 48 x.enc St0 (fun v s => v = blkUR x ∧ s = allocs St0 (osRB (blkV (noteBk x.note)) k0 x.d.prs m)) := by
 have hnt := blk_nt hx hG
 have hk := (List.getElem?_eq_some_iff.1 hp0).1
 exact C.tells (C.of_W (Q := fun v s => Tells P 0 (ofL [(0, v)]) s [] (ofL [(0, blkUR x)]) (allocs St0 (osRB (blkV (noteBk x.note)) k0 x.d.prs m)) []) hf hc
   (blk_walk hE hm h50 h88 h89 h67 h107 hx hG (fun p h => by rw [hp0] at h; rw [hm0, Option.some.inj h]) _ (fun _ => rest_runR hE hm h90 h91 hnt.1 hNt (List.length_map _) rfl hnt.2.1 (by omega) _ (fun s v hv => hv)) (fun h => by omega))) (fun v s h => h)
theorem blkH_C {P : Program} {e : Env} {fn : Func} (hE : EnvOk P e) (hm : P.follows .mixedOrders = true) (h50 : Con e 50 dchkF.O) (h88 : Inl e 88 code88 []) (h89 : Inl e 89 code89 [.tmp 2]) (h67 : Inl e 67 code67 [.tmp 2]) (h107 : Con e 107 overO) (h90 : Con e 90 nwRF.O) (h91 : Con e 91 insO) (hf : P.funcs[48]? = some fn) (hc : compF P fn = some a48)
   {x : BD} (hx : x.ok) (hG : CD.good ⟨x.c, x.d.d⟩) (hNt : noteB x.note = true) :
   C P 48 x.enc St0 (fun v s => v = blkUR x ∧ s = allocs St0 (osHB (noteBk x.note) (x.d.prs.map stoodV))) := by
 have hnt := blk_nt hx hG
 exact C.tells (C.of_W (Q := fun v s => Tells P 0 (ofL [(0, v)]) s [] (ofL [(0, blkUR x)]) (allocs St0 (osHB (noteBk x.note) (x.d.prs.map stoodV))) []) hf hc
   (blk_walk hE hm h50 h88 h89 h67 h107 hx hG (k0 := x.d.prs.length) (m := []) (fun p h => by rw [List.getElem?_eq_none (Nat.le_refl _)] at h; cases h) _ (fun h => absurd h (Nat.lt_irrefl _)) (fun _ => rest_runH hE hm h90 h91 hnt.1 hNt (List.length_map _) (List.length_map _) hnt.2.1 (by omega) (hfs_stood _) _ (fun s v hv => hv)))) (fun v s h => h)
end Go.AM
