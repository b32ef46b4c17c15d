/-
 Functions of the program as the abstract machine reads them, and what is stated of them, checked by the kernel. No conditions.
-/
import Derived.Test.YtnnbibnobmegpaaAM5
import Derived.Test.YtnnbibnobmegpaaXN
set_option linter.unusedVariables false
set_option linter.unusedSimpArgs false
set_option maxRecDepth 100000
namespace Go.AM
attribute [local irreducible] W
open X
def crcT : List Nat := [0x00000000, 0x105ec76f, 0x20bd8ede, 0x30e349b1, 0x417b1dbc, 0x5125dad3, 0x61c69362, 0x7198540d, 0x82f63b78, 0x92a8fc17, 0xa24bb5a6, 0xb21572c9, 0xc38d26c4, 0xd3d3e1ab, 0xe330a81a, 0xf36e6f75]
def nth0 : List Nat → Nat → Nat
 | [], _ => 0
 | x :: _, 0 => x
 | _ :: l, n + 1 => nth0 l n
def half (s : Nat) : Nat := Nat.xor (Nat.div s 16) (nth0 crcT (Nat.mod s 16))
def crcStep (s b : Nat) : Nat := half (half (Nat.xor s b))
def crcGo (l : List Nat) (s : Nat) : Nat := l.foldl crcStep s
def crcCells : List AV := crcT.map fun n => .int .u32 (Int.ofNat n)
theorem nth0_lt {m : Nat} (h0 : 0 < m) : ∀ {l : List Nat} {n : Nat}, (∀ x ∈ l, x < m) → nth0 l n < m := by
 intro l
 induction l with
 | nil => intro n _; exact h0
 | cons x l ih => intro n h; cases n with
  | zero => exact h x (by simp)
  | succ n => exact ih fun y hy => h y (by simp [hy])
theorem half_lt {s : Nat} (h : s < 4294967296) : half s < 4294967296 :=
 Nat.xor_lt_two_pow (n := 32) (by show s / 16 < _; omega) (nth0_lt (by decide) (by decide))
theorem getL_crc : ∀ {i : Nat} {l : List Nat}, i < l.length → getL (l.map fun n => AV.int .u32 (Int.ofNat n)) i = some (.int .u32 (Int.ofNat (nth0 l i))) := by
 intro i l
 induction l generalizing i with
 | nil => intro h; simp at h
 | cons x l ih => intro h; cases i with
  | zero => rfl
  | succ i => exact ih (by simpa using h)
theorem crc_cells {i : Nat} (h : i < 16) : load1 0 (0 + i * 1) (allocs St0 [.row 211 crcCells]) = some (.int .u32 (Int.ofNat (nth0 crcT i))) := by
 rw [Nat.zero_add, Nat.mul_one]
 exact getL_crc (l := crcT) h
theorem and15 (a : Nat) : a &&& 15 = a % 16 := Nat.and_two_pow_sub_one_eq_mod a 4
theorem over_body (P : Program) (e : Env) (hE : EnvOk P e) (hm : P.follows .mixedOrders = true) (hW : Inl e 147 (match a147 with | .mk c _ => c) (match a147 with | .mk _ r => r)) (s0 : Nat) (h0 : s0 < 4294967296) (bs : List Nat) (hb : ∀ b ∈ bs, b < 256) (hlen : bs.length < 9223372036854775807) (v : AV) (hv : Sl 1 bs.length (bys bs) v) (Q : AV → St → Prop)
 (hQ : ∀ s, Q (.int .u32 (Int.ofNat (crcGo bs (s0 ^^^ 4294967295) ^^^ 4294967295))) s) :
 VW P e 0 (match a107 with | .mk c _ => c) (initT [.int .u32 (Int.ofNat s0), v] 0 .lf) St0 none [] (EEnd [.tmp 4] Q) := by
 conv => whnf
 refine ESc.inl hW ?_; conv => whnf
 refine EPrim.cpl32 rfl h0 ?_; conv => whnf
 refine EPrim.lenS rfl hv ?_; conv => whnf
 refine W.loopS (α := Nat × Nat) (fun x => [(0, .int .u32 (Int.ofNat x.2)), (5, .ptr 0 0), (11, v), (12, .int .i64 (Int.ofNat bs.length)), (13, .int .i64 (Int.ofNat x.1))]) (fun _ => [.row 211 crcCells]) (fun x => bs.length - x.1)
  (fun x => x.1 ≤ bs.length ∧ x.2 = crcGo (bs.take x.1) (s0 ^^^ 4294967295) ∧ x.2 < 4294967296) (0, s0 ^^^ 4294967295) [1] ⟨Nat.zero_le _, rfl, Nat.xor_lt_two_pow (n := 32) h0 (by decide)⟩
  ⟨by decide, ⟨⟨rfl, rfl⟩, ⟨rfl, rfl⟩, ⟨hf_bd _ hv.hf, by rw [hf_mapV _ hv.hf]; rfl⟩, ⟨rfl, rfl⟩, ⟨rfl, rfl⟩, trivial⟩, ⟨⟨rfl, rfl⟩, trivial⟩⟩ ?_
 rintro ⟨i, a⟩ ⟨hi, ha, hlt⟩
 dsimp only at hi ha hlt ⊢
 refine vw_sound hE hm ?_; conv => whnf
 refine EPrim.lssN rfl rfl (fun h => ?_) (fun h => ?_)
 ·have hbi : bs[i] < 256 := hb bs[i] (List.getElem_mem h)
  have hx : a ^^^ bs[i] < 4294967296 := Nat.xor_lt_two_pow (n := 32) hlt (by omega)
  have hy : half (a ^^^ bs[i]) < 4294967296 := half_lt hx
  conv => whnf
  refine EPrim.ixsS rfl hv rfl h ?_; conv => whnf
  refine EHead.mk (bys_drop_get h) ?_; conv => whnf
  refine EPrim.cviU32 rfl (by omega) ?_; conv => whnf
  refine EPrim.xor32 rfl rfl hlt (by omega) ?_; conv => whnf
  refine EPrim.shrN (n := 4) rfl rfl (by decide) ?_; conv => whnf
  refine EPrim.and32 rfl rfl hx (by decide) ?_; conv => whnf
  rw [and15]
  refine EPrim.ixaP rfl rfl (Nat.mod_lt _ (by decide)) ?_; conv => whnf
  refine stuckO _ (crc_cells (Nat.mod_lt _ (by decide))) ?_; conv => whnf
  refine EPrim.xor32 rfl rfl (by show (a ^^^ bs[i]) / 16 < _; omega) (nth0_lt (by decide) (by decide)) ?_; conv => whnf
  refine EPrim.shrN (n := 4) rfl rfl (by decide) ?_; conv => whnf
  refine EPrim.and32 rfl rfl hy (by decide) ?_; conv => whnf
  rw [and15]
  refine EPrim.ixaP rfl rfl (Nat.mod_lt _ (by decide)) ?_; conv => whnf
  refine stuckO _ (crc_cells (Nat.mod_lt _ (by decide))) ?_; conv => whnf
  refine EPrim.xor32 rfl rfl (by have : half (a ^^^ bs[i]) / 16 < 4294967296 := by omega
                                 exact this) (nth0_lt (by decide) (by decide)) ?_
  conv => whnf
  refine EPrim.incN rfl rfl rfl (by omega) ?_; conv => whnf
  refine ⟨rfl, (i + 1, crcStep a bs[i]), ⟨by simp; omega, ?_, half_lt (half_lt hx)⟩, by simp; omega, [0], ⟨by decide, ⟨⟨rfl, rfl⟩, ⟨rfl, rfl⟩, ⟨hf_bd _ hv.hf, by rw [hf_mapV _ hv.hf]; rfl⟩, ⟨rfl, rfl⟩, ⟨rfl, rfl⟩, trivial⟩, ⟨⟨rfl, rfl⟩, trivial⟩⟩⟩
  show crcStep a bs[i] = crcGo (bs.take (i + 1)) _
  rw [List.take_succ_eq_append_getElem h, crcGo, List.foldl_append, ha]; rfl
 ·conv => whnf
  refine EPrim.cpl32 rfl hlt ?_; conv => whnf
  have : bs.take i = bs := List.take_of_length_le h
  rw [ha, this]
  exact hQ _
noncomputable def overO (args : List AV) (s : St) : RV := match args with
 | [.int .u32 (.ofNat s0), v] => gd (Nat.blt s0 4294967296) (Option.rec .fail (fun bs => gd (Nat.blt (lenL bs) 1000000) (.ok (.int .u32 (.ofNat (Nat.xor (crcGo bs (Nat.xor s0 4294967295)) 4294967295))) s)) (bytesAt s v))
 | _ => .fail
theorem overO_ok {P : Program} {e : Env} {fn : Func} (hE : EnvOk P e) (hm : P.follows .mixedOrders = true) (hW : Inl e 147 (match a147 with | .mk c _ => c) (match a147 with | .mk _ r => r)) (hf : P.funcs[107]? = some fn) (hc : compF P fn = some a107) (hb : HasBody P 107) : OvOk P 107 overO := by
 refine ⟨hb, fun args s v s' h => ?_⟩
 unfold overO at h
 split at h
 ·rename_i s0 u
  obtain ⟨h1, h⟩ := gd_ok h
  obtain ⟨bs, hbs, h⟩ := opt_ok h
  obtain ⟨h2, h⟩ := gd_ok h
  obtain ⟨rfl, rfl⟩ := ok_inj h
  rw [Nat.blt_eq] at h1 h2
  rw [lenL_eq] at h2
  obtain ⟨v2, hF, hSl, hlt⟩ := bytesAt_view hbs
  have hfs2 : hfs [.int .u32 (.ofNat s0), v2] = true := by simp [hfs, hSl.hf]; rfl
  refine C.view (args2 := [.int .u32 (.ofNat s0), v2]) (.cons (.plain _ rfl) (.cons hF .nil)) rfl (C.freeze hfs2 ?_)
  exact C.of_V hE hm hf hc (over_body P e hE hm hW s0 h1 bs hlt (by omega) v2 hSl _ (fun s => .plain _ rfl))
 ·cases h
end Go.AM
set_option maxRecDepth 100000
namespace Go.AM
attribute [local irreducible] W
open X
end Go.AM
set_option maxRecDepth 100000
namespace Go.AM
attribute [local irreducible] W
open X
theorem stuckB {b : Bool} {y z : Prop} (h : b = true) (hy : y) : (Bool.rec (motive := fun _ => Prop) z y b) := by rw [h]; exact hy
section
variable {t : AT} {s : St} {k : AV → St → Prop} {x y : AO}
theorem EPrim.copyS {es r o m n : Nat} {c : Option Nat} {l : List AV} {v : AV} {s1 : St} (hx : ev x t = .some (.sl r o m c)) (hy : ev y t = .some v) (hv : Sl es n l v) (hn : n ≤ m) (hst : storeAt r o l s = some s1) (hk : ∀ s', (s' = s ∧ l = []) ∨ s' = s1 → k (.int .i64 (Int.ofNat n)) s') : EPrim (.copy es x y) t s k := by
 rcases hv with ⟨rfl, rfl, h0⟩ | ⟨rfl, rfl, h0⟩ | ⟨c', rfl, hl⟩
 ·refine EPrim.mk (v := .int .i64 (Int.ofNat 0)) (s' := s) (fun e rec => ?_) (hk s (.inl ⟨rfl, h0⟩))
  show wth x t _ = _; unfold wth; rw [hx]
  show wth y t _ = _; unfold wth; rw [hy]
  rfl
 ·refine EPrim.mk (v := .int .i64 (Int.ofNat 0)) (s' := s) (fun e rec => ?_) (hk s (.inl ⟨rfl, h0⟩))
  show wth x t _ = _; unfold wth; rw [hx]
  show wth y t _ = _; unfold wth; rw [hy]
  rfl
 ·refine EPrim.mk (v := .int .i64 (Int.ofNat n)) (s' := s1) (fun e rec => ?_) (hk s1 (.inr rfl))
  show wth x t _ = _; unfold wth; rw [hx]
  show wth y t _ = _; unfold wth; rw [hy]
  show (Option.rec .fail (fun cs => retS (intN (Nat.min n m)) (storeAt r o cs s)) (takeL (Nat.mul (Nat.min n m) es) l) : RV) = _
  have hmin : Nat.min n m = n := by show min n m = n; omega
  rw [hmin]
  have ht : takeL (Nat.mul n es) l = some l := by
   have := takeL_of (l := l) (n := n * es) (by omega)
   rw [List.take_of_length_le (by omega)] at this
   exact this
  rw [ht]
  show retS _ (storeAt r o l s) = _
  rw [hst]; rfl
theorem EPrim.neqN {q : IntKind} {a b : Nat} (hx : ev x t = .some (.int q (Int.ofNat a))) (hy : ev y t = .some (.int q (Int.ofNat b))) (h1 : a ≠ b → k (.bool true) s) (h2 : a = b → k (.bool false) s) : EPrim (.bin .neq x y) t s k :=
 EPrim.neq2 hx hy (fun h => h1 (fun e => h (by rw [e]))) (fun h => h2 (Int.ofNat.inj h))
end
def code130 : AC := match a130 with | .mk c _ => c
def pad (bs : List Nat) : List Nat := if bs = [] then List.replicate 128 0 else bs
def z128 : List AV := bys (List.replicate 128 0)
theorem load_full {s : St} {r e n : Nat} {cs : List AV} (h : s.get r = some (.row e cs)) (hl : cs.length = n) : load r 0 n s = some cs := by
 rw [load_of h (by omega), List.drop_zero, List.take_of_length_le (by omega)]
theorem store_full {s : St} {r e : Nat} {cs old : List AV} (h : s.get r = some (.row e old)) (hl : cs.length = old.length) : storeAt r 0 cs s = some (s.put r (.row e cs)) := by
 rw [store_of h (by omega), List.take_zero, List.nil_append, List.drop_eq_nil_of_le (by omega), List.append_nil]
theorem res_cells {t : AT} {s : St} {i n r : Nat} {cs vs : List AV} {l : List ARes} (ht : t.get i = some (.ptr r 0)) (hl : load r 0 n s = some cs) (h : resA t s l = some vs) : resA t s (.cells i n :: l) = some (.agg cs :: vs) := by
 show (Option.rec none (fun v => Option.rec none (fun vs => some (v :: vs)) (resA t s l)) (Option.rec none (fun v => PR.rec none (fun r o => Option.rec none (fun cs => some (.agg cs)) (load r o n s)) (fun _ => none) (asPtr v)) (t.get i)) : Option (List AV)) = _
 rw [ht, h]
 show (Option.rec none (fun v => some (v :: vs)) (Option.rec none (fun cs => some (.agg cs)) (load r 0 n s)) : Option (List AV)) = _
 rw [hl]
theorem whole_run (e : Env) (s : St) (v : AV) (bs : List Nat) (hv : Sl 1 bs.length (bys bs) v) (hN : s.next < 1000000000) (K : AV → St → Prop)
 (k1 : bs.length ≠ 0 → bs.length ≠ 128 → ∀ s', s'.next = s.next + 1 → (∀ i, i < s.next → s'.get i = s.get i) → K (.tup [.agg (bys (List.replicate 128 0)), .int .i64 3]) s')
 (k2 : (pad bs).length = 128 → ∀ s', s'.next = s.next + 1 → (∀ i, i < s.next → s'.get i = s.get i) → K (.tup [.agg (bys (pad bs)), .int .i64 0]) s') :
 VE e code130 (initT [v] 0 .lf) s none [] (EEnd [.cells 2 128, .tmp 3] K) := by
 obtain ⟨s1, hs1⟩ : ∃ s1, s.alloc (.row 197 z128) = s1 := ⟨_, rfl⟩
 have g1 : s1.get s.next = some (.row 197 z128) := by rw [← hs1]; exact St.get_alloc_same hN
 have g2 : ∀ i, i < s.next → s1.get i = s.get i := fun i hi => by rw [← hs1]; exact St.get_alloc_ne (by omega)
 have g3 : s1.next = s.next + 1 := by rw [← hs1]; exact St.next_alloc _ _
 have hz : (z128).length = 128 := by simp [z128, bys_length]
 conv => whnf
 refine EPrim.lenS rfl hv ?_; conv => whnf
 have main : bs.length = 0 ∨ bs.length = 128 → (pad bs).length = 128 := by
  intro h
  unfold pad
  split
  ·simp
  ·rename_i hne
   rcases h with h | h
   ·exact absurd (List.length_eq_zero_iff.1 h) hne
   ·exact h
 have hcopy : bs.length = 0 ∨ bs.length = 128 → ∃ sc, storeAt s.next 0 (bys bs) s1 = some sc ∧ ∀ s', (s' = s1 ∧ bys bs = []) ∨ s' = sc → s'.next = s.next + 1 ∧ (∀ i, i < s.next → s'.get i = s.get i) ∧ s'.get s.next = some (.row 197 (bys (pad bs))) := by
  intro h
  refine ⟨_, store_of g1 (by rw [bys_length, hz]; omega), ?_⟩
  rintro s' (⟨rfl, h0⟩ | rfl)
  ·refine ⟨g3, g2, ?_⟩
   have : bs = [] := List.map_eq_nil_iff.1 h0
   rw [g1]; unfold pad; rw [if_pos this]; rfl
  ·refine ⟨by rw [St.next_put]; exact g3, fun i hi => by rw [St.get_put_ne (by omega)]; exact g2 i hi, ?_⟩
   rw [St.get_put_same (by omega)]
   rcases h with h | h
   ·have : bs = [] := List.length_eq_zero_iff.1 h
    subst this; simp [bys, pad, z128]
   ·have hne : bs ≠ [] := fun e => by subst e; cases h
    unfold pad; rw [if_neg hne, List.take_zero, List.nil_append, List.drop_eq_nil_of_le (by rw [bys_length, hz]; omega), List.append_nil]
 refine EPrim.neqN (b := 0) rfl rfl (fun h => ?_) (fun h => ?_)
 ·conv => whnf
  refine EPrim.lenS rfl hv ?_; conv => whnf
  refine EPrim.neqN (b := 128) rfl rfl (fun h' => ?_) (fun h' => ?_)
  ·conv => whnf
   refine stuckO z128 (by show load s.next 0 128 (s.alloc (.row 197 z128)) = _; rw [hs1]; exact load_full g1 hz) ?_; conv => whnf
   refine stuckO (s1.put s.next (.row 197 z128)) (by show storeAt s.next 0 z128 (s.alloc (.row 197 z128)) = _; rw [hs1]; exact store_full g1 rfl) ?_
   obtain ⟨s2, hs2⟩ : ∃ s2, s1.put s.next (.row 197 z128) = s2 := ⟨_, rfl⟩
   have g4 : s2.get s.next = some (.row 197 z128) := by rw [← hs2, St.get_put_same (by omega)]
   have g5 : ∀ i, i < s.next → s2.get i = s.get i := fun i hi => by rw [← hs2, St.get_put_ne (by omega)]; exact g2 i hi
   have g6 : s2.next = s.next + 1 := by rw [← hs2, St.next_put]; exact g3
   rw [hs2]
   conv => whnf
   refine stuckO _ (res_cells rfl (load_full g4 hz) rfl) ?_
   exact k1 h h' s2 g6 g5
  ·have hn : bs.length = 0 ∨ bs.length = 128 := .inr h'
   conv => whnf
   refine EPrim.mk (v := .sl s.next 0 128 (some 128)) (s' := s.alloc (.row 197 z128)) (fun e rec => rfl) ?_; conv => whnf
   obtain ⟨sc, hsc, hall⟩ := hcopy hn
   refine EPrim.copyS (s1 := sc) rfl rfl hv (by omega) (by show storeAt s.next 0 (bys bs) (s.alloc (.row 197 z128)) = _; rw [hs1]; exact hsc) (fun s2 hs2 => ?_)
   have hs2' : (s2 = s1 ∧ bys bs = []) ∨ s2 = sc := by rw [← hs1]; exact hs2
   obtain ⟨a1, a2, a3⟩ := hall s2 hs2'
   have hp := main hn
   conv => whnf
   refine stuckO (bys (pad bs)) (load_full a3 (by rw [bys_length]; exact hp)) ?_; conv => whnf
   refine stuckB (by show Nat.beq (lenL (bys (pad bs))) 128 = true; rw [lenL_eq, bys_length, hp]; rfl) ?_; conv => whnf
   refine stuckO (s2.put s.next (.row 197 (bys (pad bs)))) (store_full a3 rfl) ?_
   obtain ⟨s3, hs3⟩ : ∃ s3, s2.put s.next (.row 197 (bys (pad bs))) = s3 := ⟨_, rfl⟩
   have g4 : s3.get s.next = some (.row 197 (bys (pad bs))) := by rw [← hs3, St.get_put_same (by omega)]
   have g5 : ∀ i, i < s.next → s3.get i = s.get i := fun i hi => by rw [← hs3, St.get_put_ne (by omega)]; exact a2 i hi
   have g6 : s3.next = s.next + 1 := by rw [← hs3, St.next_put]; exact a1
   rw [hs3]
   conv => whnf
   refine stuckO _ (res_cells rfl (load_full g4 (by rw [bys_length]; exact hp)) rfl) ?_
   exact k2 hp s3 g6 g5
 ·have hn : bs.length = 0 ∨ bs.length = 128 := .inl h
  conv => whnf
  refine EPrim.mk (v := .sl s.next 0 128 (some 128)) (s' := s.alloc (.row 197 z128)) (fun e rec => rfl) ?_; conv => whnf
  obtain ⟨sc, hsc, hall⟩ := hcopy hn
  refine EPrim.copyS (s1 := sc) rfl rfl hv (by omega) (by show storeAt s.next 0 (bys bs) (s.alloc (.row 197 z128)) = _; rw [hs1]; exact hsc) (fun s2 hs2 => ?_)
  have hs2' : (s2 = s1 ∧ bys bs = []) ∨ s2 = sc := by rw [← hs1]; exact hs2
  obtain ⟨a1, a2, a3⟩ := hall s2 hs2'
  have hp := main hn
  conv => whnf
  refine stuckO (bys (pad bs)) (load_full a3 (by rw [bys_length]; exact hp)) ?_; conv => whnf
  refine stuckB (by show Nat.beq (lenL (bys (pad bs))) 128 = true; rw [lenL_eq, bys_length, hp]; rfl) ?_; conv => whnf
  refine stuckO (s2.put s.next (.row 197 (bys (pad bs)))) (store_full a3 rfl) ?_
  obtain ⟨s3, hs3⟩ : ∃ s3, s2.put s.next (.row 197 (bys (pad bs))) = s3 := ⟨_, rfl⟩
  have g4 : s3.get s.next = some (.row 197 (bys (pad bs))) := by rw [← hs3, St.get_put_same (by omega)]
  have g5 : ∀ i, i < s.next → s3.get i = s.get i := fun i hi => by rw [← hs3, St.get_put_ne (by omega)]; exact a2 i hi
  have g6 : s3.next = s.next + 1 := by rw [← hs3, St.next_put]; exact a1
  rw [hs3]
  conv => whnf
  refine stuckO _ (res_cells rfl (load_full g4 (by rw [bys_length]; exact hp)) rfl) ?_
  exact k2 hp s3 g6 g5
def code131 : AC := match a131 with | .mk c _ => c
def fitsB (a z : Int) : Bool := decide (1 ≤ z ∧ z ≤ 4 ∧ 0 ≤ a ∧ a ≤ 128 - z)
theorem fits_run (e : Env) (s : St) (a z : Int) (K : AV → St → Prop) (h : K (.bool (fitsB a z)) s) : VE e code131 (initT [.int .i64 a, .int .i64 z] 0 .lf) s none [] (EEnd [.tmp 4] K) := by
 unfold fitsB at h
 conv => whnf
 refine EPrim.geq2 rfl rfl (fun h1 => ?_) (fun h1 => ?_)
 ·conv => whnf
  refine EPrim.leq2 rfl rfl (fun h2 => ?_) (fun h2 => ?_)
  ·conv => whnf
   refine EPrim.geq2 rfl rfl (fun h3 => ?_) (fun h3 => ?_)
   ·conv => whnf
    refine EPrim.subS rfl rfl (by omega) ?_; conv => whnf
    refine EPrim.leq2 rfl rfl (fun h4 => ?_) (fun h4 => ?_)
    ·conv => whnf
     rw [decide_eq_true ⟨h1, h2, h3, h4⟩] at h; exact h
    ·conv => whnf
     rw [decide_eq_false (by omega)] at h; exact h
   ·conv => whnf
    rw [decide_eq_false (by omega)] at h; exact h
  ·conv => whnf
   rw [decide_eq_false (by omega)] at h; exact h
 ·conv => whnf
  rw [decide_eq_false (by omega)] at h; exact h
section
variable {t : AT} {s : St} {k : AV → St → Prop} {x y : AO}
theorem EPrim.cviI64 {q : IntKind} {a : Nat} (hx : ev x t = .some (.int q (Int.ofNat a))) (ha : a < 9223372036854775808) (hk : k (.int .i64 (Int.ofNat a)) s) : EPrim (.cvi .i64 x) t s k := by
 refine EPrim.mk (v := .int .i64 (Int.ofNat a)) (s' := s) (fun e rec => ?_) hk
 show wth x t _ = _; unfold wth; rw [hx]
 show RV.ok (.int .i64 (wrapQ .i64 (Int.ofNat a))) s = _
 rw [wrapQ_eq, i64_in (by have : Int.ofNat a = (a : Int) := rfl; omega)]
theorem EPrim.shlN {a n : Nat} {r : IntKind} (hx : ev x t = .some (.int .i64 (Int.ofNat a))) (hy : ev y t = .some (.int r (Int.ofNat n))) (hn : n ≤ 64) (h : a * 2 ^ n < 9223372036854775808) (hk : k (.int .i64 (Int.ofNat (a * 2 ^ n))) s) : EPrim (.bin .shl x y) t s k := by
 refine bin_of hx hy (v := .int .i64 (Int.ofNat (a * 2 ^ n))) ?_ hk
 show OV.some (.int .i64 (wrapQ .i64 (mulI (Int.ofNat a) (.ofNat (2 ^ (Nat.min n 64)))))) = _
 rw [show Nat.min n 64 = n from Nat.min_eq_left hn, wrapQ_eq, mulI_eq]
 have e1 : Int.ofNat a * Int.ofNat (2 ^ n) = Int.ofNat (a * 2 ^ n) := rfl
 rw [e1, i64_in (by have : Int.ofNat (a * 2 ^ n) = ((a * 2 ^ n : Nat) : Int) := rfl; omega)]
theorem EPrim.orN {a b : Nat} (hx : ev x t = .some (.int .i64 (Int.ofNat a))) (hy : ev y t = .some (.int .i64 (Int.ofNat b))) (ha : a < 9223372036854775808) (hb : b < 9223372036854775808) (hk : k (.int .i64 (Int.ofNat (a ||| b))) s) : EPrim (.bin .or x y) t s k := by
 refine bin_of hx hy (v := .int .i64 (Int.ofNat (a ||| b))) ?_ hk
 show OV.some (.int .i64 (IntKind.i64.wrap (((BitVec.or (BitVec.ofInt 64 (a : Int)) (BitVec.ofInt 64 (b : Int))).toNat : Nat) : Int))) = _
 have e1 : (BitVec.or (BitVec.ofInt 64 (a : Int)) (BitVec.ofInt 64 (b : Int))).toNat = a ||| b := by
  show (BitVec.ofInt 64 (a : Int) ||| BitVec.ofInt 64 (b : Int)).toNat = _
  rw [BitVec.toNat_or, BitVec.ofInt_natCast, BitVec.ofInt_natCast, BitVec.toNat_ofNat, BitVec.toNat_ofNat, Nat.mod_eq_of_lt (by omega), Nat.mod_eq_of_lt (by omega)]
 have hlt : a ||| b < 2 ^ 63 := Nat.or_lt_two_pow (by omega) (by omega)
 rw [e1, i64_in (by omega)]; rfl
end
def code86 : AC := match a86 with | .mk c _ => c
def num (bs : List Nat) (a : Nat) : Nat → Nat
 | 0 => 0
 | n + 1 => num bs a n ||| bs.getD (a + n) 0 * 2 ^ (8 * n)
theorem take_run (P : Program) (e : Env) (hE : EnvOk P e) (hm : P.follows .mixedOrders = true) (h130 : Inl e 130 code130 [.cells 2 128, .tmp 3]) (h131 : Inl e 131 code131 [.tmp 4]) (v : AV) (bs : List Nat) (hv : Sl 1 bs.length (bys bs) v) (hb : ∀ b ∈ bs, b < 256) (a z : Int) (Q : AV → St → Prop)
 (k1 : bs.length ≠ 0 → bs.length ≠ 128 → ∀ s, Q (.tup [.int .i64 0, .int .i64 3]) s)
 (k2 : (pad bs).length = 128 → fitsB a z = false → ∀ s, Q (.tup [.int .i64 0, .int .i64 2]) s)
 (k3 : (pad bs).length = 128 → fitsB a z = true → ∀ s, Q (.tup [.int .i64 (Int.ofNat (num (pad bs) a.toNat z.toNat)), .int .i64 0]) s) :
 VW P e 0 code86 (initT [v, .int .i64 a, .int .i64 z] 0 .lf) St0 none [] (EEnd [.tmp 6, .tmp 7] Q) := by
 have hpad : ∀ b ∈ pad bs, b < 256 := by
  unfold pad
  split
  ·intro b hb'; rw [List.eq_of_mem_replicate hb']; decide
  ·exact hb
 conv => whnf
 refine ESc.inl h130 (whole_run e _ v bs hv (by decide) _ (fun h1 h2 s' n1 n2 => ?_) (fun h1 s' n1 n2 => ?_))
 ·have hn1 : s'.next = 1 := n1
  conv => whnf
  refine stuckO _ (store_full (e := 197) (old := z128) (St.get_alloc_same (by omega)) rfl) ?_; conv => whnf
  refine EPrim.neqN (a := 3) (b := 0) rfl rfl (fun _ => ?_) (fun h => by cases h); conv => whnf
  exact k1 h1 h2 _
 ·have hn1 : s'.next = 1 := n1
  have hbl : (bys (pad bs)).length = 128 := by rw [bys_length]; exact h1
  obtain ⟨s1, hs1⟩ : ∃ s1, s'.alloc (.row 197 z128) = s1 := ⟨_, rfl⟩
  have g1 : s1.get s'.next = some (.row 197 z128) := by rw [← hs1]; exact St.get_alloc_same (by omega)
  conv => whnf
  refine stuckB (by show Nat.beq (lenL (bys (pad bs))) 128 = true; rw [lenL_eq, hbl]; rfl) ?_; conv => whnf
  refine stuckO (s1.put s'.next (.row 197 (bys (pad bs)))) (by show storeAt s'.next 0 (bys (pad bs)) (s'.alloc (.row 197 z128)) = _; rw [hs1]; exact store_full g1 (by rw [hbl]; rfl)) ?_
  obtain ⟨s2, hs2⟩ : ∃ s2, s1.put s'.next (.row 197 (bys (pad bs))) = s2 := ⟨_, rfl⟩
  have g4 : s2.get s'.next = some (.row 197 (bys (pad bs))) := by rw [← hs2, St.get_put_same (by omega)]
  rw [hs2]
  conv => whnf
  refine EPrim.neqN (a := 0) (b := 0) rfl rfl (fun h => absurd rfl h) (fun _ => ?_); conv => whnf
  refine ESc.inl h131 (fits_run e _ a z _ ?_)
  cases hf : fitsB a z with
  | false =>
   conv => whnf
   refine EPrim.notF rfl ?_; conv => whnf
   exact k2 h1 hf _
  | true =>
   conv => whnf
   refine EPrim.notT rfl ?_; conv => whnf
   have hfz := of_decide_eq_true hf
   obtain ⟨A, rfl⟩ : ∃ A : Nat, a = Int.ofNat A := ⟨a.toNat, by show a = (a.toNat : Int); omega⟩
   obtain ⟨Z, rfl⟩ : ∃ Z : Nat, z = Int.ofNat Z := ⟨z.toNat, by show z = (z.toNat : Int); omega⟩
   have eA : Int.ofNat A = (A : Int) := rfl
   have eZ : Int.ofNat Z = (Z : Int) := rfl
   refine W.loopS (α := Nat) (fun i => [(1, .int .i64 (Int.ofNat A)), (6, .int .i64 (Int.ofNat (num (pad bs) A i))), (8, .ptr 0 0), (22, .int .i64 (Int.ofNat Z)), (23, .int .i64 (Int.ofNat i))]) (fun _ => [.row 197 (bys (pad bs))]) (fun i => Z - i)
    (fun i => i ≤ Z) 0 [s'.next] (Nat.zero_le _) ⟨by simp, ⟨⟨rfl, rfl⟩, ⟨rfl, rfl⟩, ⟨rfl, rfl⟩, ⟨rfl, rfl⟩, ⟨rfl, rfl⟩, trivial⟩, ⟨⟨?_, ?_⟩, trivial⟩⟩ ?_
   ·exact hfs_bds _ (scs_hfs_bys _)
   ·rw [g4]; show _ = some (AObj.row 197 (mapVs _ (bys (pad bs)))); rw [hfs_mapVs _ (scs_hfs_bys _)]
   intro i hi
   have hnum : ∀ j, j ≤ 4 → num (pad bs) A j < 2 ^ (8 * j) := by
    intro j
    induction j with
    | zero => intro _; exact Nat.zero_lt_one
    | succ j ih =>
     intro hj
     have hlt : (pad bs).getD (A + j) 0 < 256 := by
      rw [List.getD_eq_getElem?_getD]
      cases hq : (pad bs)[A + j]? with
      | none => decide
      | some q => exact hpad q (List.mem_of_getElem? hq)
     have e8 : 8 * (j + 1) = 8 * j + 8 := by omega
     refine Nat.or_lt_two_pow (Nat.lt_of_lt_of_le (ih (by omega)) (Nat.pow_le_pow_right (by decide) (by omega))) ?_
     rw [e8, Nat.pow_add, Nat.mul_comm]
     exact Nat.mul_lt_mul_of_pos_left hlt (Nat.two_pow_pos _)
   refine vw_sound hE hm ?_; conv => whnf
   refine EPrim.lssN rfl rfl (fun h => ?_) (fun h => ?_)
   ·have hAi : A + i < (pad bs).length := by omega
    have hbi : (pad bs)[A + i] < 256 := hpad _ (List.getElem_mem hAi)
    have hp8 : (pad bs)[A + i] * 2 ^ (8 * i) < 2 ^ 32 := by
     have : 2 ^ (8 * i) ≤ 2 ^ 24 := Nat.pow_le_pow_right (by decide) (by omega)
     calc _ < 256 * 2 ^ (8 * i) := Nat.mul_lt_mul_of_pos_right hbi (Nat.two_pow_pos _)
      _ ≤ 256 * 2 ^ 24 := Nat.mul_le_mul_left _ this
      _ = 2 ^ 32 := by decide
    have hni : num (pad bs) A i < 2 ^ 32 := Nat.lt_of_lt_of_le (hnum i (by omega)) (Nat.pow_le_pow_right (by decide) (by omega))
    conv => whnf
    refine EPrim.addN rfl rfl (by omega) ?_; conv => whnf
    refine EPrim.ixaP rfl rfl (by omega) ?_; conv => whnf
    refine stuckO (.int .u8 (Int.ofNat (pad bs)[A + i])) (by
     rw [Nat.zero_add, Nat.mul_one]
     show getL (bys (pad bs)) (A + i) = _
     rw [getL_eq]; simp [bys, byV, hAi]) ?_
    conv => whnf
    refine EPrim.cviI64 rfl (by omega) ?_; conv => whnf
    refine EPrim.mulS rfl rfl (by have : Int.ofNat i = (i : Int) := rfl; omega) ?_; conv => whnf
    refine EPrim.shlN (n := 8 * i) rfl rfl (by omega) (by omega) ?_; conv => whnf
    refine EPrim.orN rfl rfl (by omega) (by omega) ?_; conv => whnf
    refine EPrim.incN rfl rfl rfl (by omega) ?_; conv => whnf
    refine ⟨rfl, i + 1, by omega, by omega, [0], ⟨by decide, ⟨⟨rfl, rfl⟩, ⟨rfl, ?_⟩, ⟨rfl, rfl⟩, ⟨rfl, rfl⟩, ⟨rfl, rfl⟩, trivial⟩, ⟨⟨hfs_bds _ (scs_hfs_bys _), ?_⟩, trivial⟩⟩⟩
    ·show _ = some (AV.int .i64 (Int.ofNat (num (pad bs) A i ||| (pad bs).getD (A + i) 0 * 2 ^ (8 * i))))
     rw [List.getD_eq_getElem?_getD, List.getElem?_eq_getElem hAi]
     rfl
    ·show _ = some (AObj.row 197 (mapVs _ (bys (pad bs)))); rw [hfs_mapVs _ (scs_hfs_bys _)]; rfl
   ·conv => whnf
    have : i = Z := by omega
    subst this
    exact k3 h1 hf _
theorem pad_len {bs : List Nat} (h : (pad bs).length = 128) : ¬ (bs.length ≠ 0 ∧ bs.length ≠ 128) := by
 unfold pad at h
 split at h
 ·rename_i e; subst e; simp
 ·rintro ⟨_, h2⟩; exact h2 h
def takeV (bs : List Nat) (a z : Int) : AV :=
 if bs.length ≠ 0 ∧ bs.length ≠ 128 then .tup [.int .i64 0, .int .i64 3] else if fitsB a z = true then .tup [.int .i64 (Int.ofNat (num (pad bs) a.toNat z.toNat)), .int .i64 0] else .tup [.int .i64 0, .int .i64 2]
theorem sc_takeV (bs : List Nat) (a z : Int) : sc (takeV bs a z) = true := by
 unfold takeV
 split
 ·rfl
 ·split <;> rfl
noncomputable def takeO (args : List AV) (s : St) : RV := match args with
 | [v, .int .i64 a, .int .i64 z] => Option.rec .fail (fun bs => .ok (takeV bs a z) s) (bytesAt s v)
 | _ => .fail
theorem takeO_ok {P : Program} {e : Env} {fn : Func} (hE : EnvOk P e) (hm : P.follows .mixedOrders = true) (h130 : Inl e 130 code130 [.cells 2 128, .tmp 3]) (h131 : Inl e 131 code131 [.tmp 4]) (hf : P.funcs[86]? = some fn) (hc : compF P fn = some a86) (hb : HasBody P 86) : OvOk P 86 takeO := by
 refine ⟨hb, fun args s v s' h => ?_⟩
 unfold takeO at h
 split at h
 ·rename_i u a z
  obtain ⟨bs, hbs, h⟩ := opt_ok h
  obtain ⟨rfl, rfl⟩ := ok_inj h
  obtain ⟨v2, hF, hSl, hlt⟩ := bytesAt_view hbs
  have hfs2 : hfs [v2, .int .i64 a, .int .i64 z] = true := by simp [hfs, hSl.hf]; exact ⟨rfl, rfl⟩
  refine C.view (args2 := [v2, .int .i64 a, .int .i64 z]) (.cons hF (.cons (.plain _ rfl) (.cons (.plain _ rfl) .nil))) (sc_takeV bs a z) (C.freeze hfs2 ?_)
  refine C.of_V hE hm hf hc (take_run P e hE hm h130 h131 v2 bs hSl hlt a z _ (fun h1 h2 s => ?_) (fun h0 h1 s => ?_) (fun h0 h1 s => ?_))
  ·have e1 : takeV bs a z = .tup [.int .i64 0, .int .i64 3] := by unfold takeV; rw [if_pos ⟨h1, h2⟩]
   rw [e1]; exact .plain _ rfl
  ·have e1 : takeV bs a z = .tup [.int .i64 0, .int .i64 2] := by unfold takeV; rw [if_neg (pad_len h0), if_neg (by rw [h1]; simp)]
   rw [e1]; exact .plain _ rfl
  ·have e1 : takeV bs a z = .tup [.int .i64 (Int.ofNat (num (pad bs) a.toNat z.toNat)), .int .i64 0] := by unfold takeV; rw [if_neg (pad_len h0), if_pos h1]
   rw [e1]; exact .plain _ rfl
 ·cases h
end Go.AM
set_option maxRecDepth 100000
namespace Go.AM
attribute [local irreducible] W
open X
section
variable {t : AT} {s : St} {k : AV → St → Prop} {x y : AO}
theorem EPrim.cviU8 {q : IntKind} {a : Nat} (hx : ev x t = .some (.int q (Int.ofNat a))) (hk : k (.int .u8 (Int.ofNat (a % 256))) s) : EPrim (.cvi .u8 x) t s k := by
 refine EPrim.mk (v := .int .u8 (Int.ofNat (a % 256))) (s' := s) (fun e rec => ?_) hk
 show wth x t _ = _; unfold wth; rw [hx]
 rfl
end
def code161 : AC := match a161 with | .mk c _ => c
def putN (bs : List Nat) (a n : Nat) : Nat → List Nat
 | 0 => bs
 | i + 1 => (putN bs a n i).set (a + i) (n / 2 ^ (8 * i) % 256)
theorem putN_length (bs : List Nat) (a n : Nat) : ∀ i, (putN bs a n i).length = bs.length
 | 0 => rfl
 | i + 1 => by rw [putN, List.length_set, putN_length bs a n i]
theorem bys_set (bs : List Nat) (i b : Nat) : bys (bs.set i b) = (bys bs).set i (.int .u8 (Int.ofNat b)) := by simp [bys, List.map_set, byV]
def putOk (a z n : Int) : Bool := fitsB a z && decide (0 ≤ n ∧ n.toNat / 2 ^ (8 * z.toNat) = 0)
theorem put_run (P : Program) (e : Env) (hE : EnvOk P e) (hm : P.follows .mixedOrders = true) (h130 : Inl e 130 code130 [.cells 2 128, .tmp 3]) (h131 : Inl e 131 code131 [.tmp 4]) (v : AV) (bs : List Nat) (hv : Sl 1 bs.length (bys bs) v) (a z n : Int) (Q : AV → St → Prop)
 (k1 : bs.length ≠ 0 → bs.length ≠ 128 → ∀ s, Q (.tup [.nils, .int .i64 3]) s)
 (k2 : (pad bs).length = 128 → putOk a z n = false → ∀ s, Q (.tup [.nils, .int .i64 2]) s)
 (k3 : (pad bs).length = 128 → putOk a z n = true → ∀ s r, s.get r = some (.row 197 (bys (putN (pad bs) a.toNat n.toNat z.toNat))) → Q (.tup [.sl r 0 128 (some 128), .int .i64 0]) s) :
 VW P e 0 code161 (initT [v, .int .i64 a, .int .i64 z, .int .i64 n] 0 .lf) St0 none [] (EEnd [.tmp 8, .tmp 9] Q) := by
 conv => whnf
 refine ESc.inl h130 (whole_run e _ v bs hv (by decide) _ (fun h1 h2 s' n1 n2 => ?_) (fun h1 s' n1 n2 => ?_))
 ·have hn1 : s'.next = 1 := n1
  conv => whnf
  refine stuckO _ (store_full (e := 197) (old := z128) (St.get_alloc_same (by omega)) rfl) ?_; conv => whnf
  refine EPrim.neqN (a := 3) (b := 0) rfl rfl (fun _ => ?_) (fun h => by cases h); conv => whnf
  exact k1 h1 h2 _
 ·have hn1 : s'.next = 1 := n1
  have hbl : (bys (pad bs)).length = 128 := by rw [bys_length]; exact h1
  obtain ⟨s1, hs1⟩ : ∃ s1, s'.alloc (.row 197 z128) = s1 := ⟨_, rfl⟩
  have g1 : s1.get s'.next = some (.row 197 z128) := by rw [← hs1]; exact St.get_alloc_same (by omega)
  conv => whnf
  refine stuckB (by show Nat.beq (lenL (bys (pad bs))) 128 = true; rw [lenL_eq, hbl]; rfl) ?_; conv => whnf
  refine stuckO (s1.put s'.next (.row 197 (bys (pad bs)))) (by show storeAt s'.next 0 (bys (pad bs)) (s'.alloc (.row 197 z128)) = _; rw [hs1]; exact store_full g1 (by rw [hbl]; rfl)) ?_
  obtain ⟨s2, hs2⟩ : ∃ s2, s1.put s'.next (.row 197 (bys (pad bs))) = s2 := ⟨_, rfl⟩
  have g4 : s2.get s'.next = some (.row 197 (bys (pad bs))) := by rw [← hs2, St.get_put_same (by omega)]
  rw [hs2]
  conv => whnf
  refine EPrim.neqN (a := 0) (b := 0) rfl rfl (fun h => absurd rfl h) (fun _ => ?_); conv => whnf
  refine ESc.inl h131 (fits_run e _ a z _ ?_)
  cases hf : fitsB a z with
  | false =>
   conv => whnf
   refine EPrim.notF rfl ?_; conv => whnf
   exact k2 h1 (by unfold putOk; rw [hf]; rfl) _
  | true =>
   conv => whnf
   refine EPrim.notT rfl ?_; conv => whnf
   have hfz := of_decide_eq_true hf
   obtain ⟨A, rfl⟩ : ∃ A : Nat, a = Int.ofNat A := ⟨a.toNat, by show a = (a.toNat : Int); omega⟩
   obtain ⟨Z, rfl⟩ : ∃ Z : Nat, z = Int.ofNat Z := ⟨z.toNat, by show z = (z.toNat : Int); omega⟩
   have eA : Int.ofNat A = (A : Int) := rfl
   have eZ : Int.ofNat Z = (Z : Int) := rfl
   refine EPrim.lss2 rfl rfl (fun hneg => ?_) (fun hneg => ?_)
   ·conv => whnf
    exact k2 h1 (by unfold putOk; rw [decide_eq_false (by omega)]; simp) _
   ·obtain ⟨M, rfl⟩ : ∃ M : Nat, n = Int.ofNat M := ⟨n.toNat, by show n = (n.toNat : Int); omega⟩
    conv => whnf
    refine EPrim.mulS rfl rfl (by omega) ?_; conv => whnf
    refine EPrim.shrN (n := 8 * Z) rfl rfl (by show 8 * Z ≤ 64; omega) ?_; conv => whnf
    refine EPrim.neqN (b := 0) rfl rfl (fun h => ?_) (fun h => ?_)
    ·conv => whnf
     exact k2 h1 (by unfold putOk; rw [decide_eq_false (fun hh => h hh.2)]; simp) _
    ·conv => whnf
     have hok : putOk (Int.ofNat A) (Int.ofNat Z) (Int.ofNat M) = true := by
      unfold putOk; rw [hf, decide_eq_true ⟨hneg, h⟩]; rfl
     refine W.loopS (α := Nat) (fun i => [(1, .int .i64 (Int.ofNat A)), (3, .int .i64 (Int.ofNat M)), (10, .ptr 0 0), (36, .int .i64 (Int.ofNat Z)), (37, .int .i64 (Int.ofNat i))]) (fun i => [.row 197 (bys (putN (pad bs) A M i))]) (fun i => Z - i)
      (fun i => i ≤ Z) 0 [s'.next] (Nat.zero_le _) ⟨by simp, ⟨⟨rfl, rfl⟩, ⟨rfl, rfl⟩, ⟨rfl, rfl⟩, ⟨rfl, rfl⟩, ⟨rfl, rfl⟩, trivial⟩, ⟨⟨?_, ?_⟩, trivial⟩⟩ ?_
     ·exact hfs_bds _ (scs_hfs_bys _)
     ·rw [g4]; show _ = some (AObj.row 197 (mapVs _ (bys (pad bs)))); rw [hfs_mapVs _ (scs_hfs_bys _)]
     intro i hi
     have hlen : (bys (putN (pad bs) A M i)).length = 128 := by rw [bys_length, putN_length]; exact h1
     refine vw_sound hE hm ?_; conv => whnf
     refine EPrim.lssN rfl rfl (fun h => ?_) (fun h => ?_)
     ·conv => whnf
      refine EPrim.addN rfl rfl (by omega) ?_; conv => whnf
      refine EPrim.mulS rfl rfl (by have : Int.ofNat i = (i : Int) := rfl; omega) ?_; conv => whnf
      refine EPrim.shrN (n := 8 * i) rfl rfl (by show 8 * i ≤ 64; omega) ?_; conv => whnf
      refine EPrim.cviU8 rfl ?_; conv => whnf
      refine EPrim.ixaP rfl rfl (by omega) ?_; conv => whnf
      refine stuckO ((allocs St0 [.row 197 (bys (putN (pad bs) A M i))]).put 0 (.row 197 (bys (putN (pad bs) A M (i + 1))))) (by
       rw [Nat.zero_add, Nat.mul_one]
       show storeAt 0 (A + i) [AV.int .u8 (Int.ofNat (M / 2 ^ (8 * i) % 256))] (allocs St0 [.row 197 (bys (putN (pad bs) A M i))]) = _
       rw [store_of (e := 197) (cs := bys (putN (pad bs) A M i)) rfl (by rw [hlen]; simp; omega)]
       rw [putN, bys_set, List.set_eq_take_append_cons_drop, if_pos (by rw [hlen]; omega)]
       simp) ?_
      conv => whnf
      refine EPrim.incN rfl rfl rfl (by omega) ?_; conv => whnf
      refine ⟨rfl, i + 1, by omega, by omega, [0], ⟨by decide, ⟨⟨rfl, rfl⟩, ⟨rfl, rfl⟩, ⟨rfl, rfl⟩, ⟨rfl, rfl⟩, ⟨rfl, rfl⟩, trivial⟩, ⟨⟨hfs_bds _ (scs_hfs_bys _), ?_⟩, trivial⟩⟩⟩
      show _ = some (AObj.row 197 (mapVs _ (bys (putN (pad bs) A M (i + 1))))); rw [hfs_mapVs _ (scs_hfs_bys _)]; rfl
     ·have : i = Z := by omega
      subst this
      conv => whnf
      refine EPrim.mk (v := .sl 0 0 128 (some 128)) (s' := allocs St0 [.row 197 (bys (putN (pad bs) A M i))]) (fun e rec => rfl) ?_; conv => whnf
      exact k3 h1 hok _ 0 rfl
theorem bytes0 {v : AV} {bs : List Nat} (h : bytesAt St0 v = some bs) : Sl 1 bs.length (bys bs) v ∧ ∀ b ∈ bs, b < 256 := by
 obtain ⟨v2, hF, hS, hb⟩ := bytesAt_view h
 refine ⟨?_, hb⟩
 cases hF with
 | plain _ _ => exact hS
 | sl r o n cap cap' e cs l us hg _ _ _ => cases hg
 | ptr r o e cs l us hg _ _ => cases hg
 | agg l us _ => rcases hS with ⟨h, _⟩ | ⟨h, _⟩ | ⟨c, h, _⟩ <;> cases h
 | tup l us _ => rcases hS with ⟨h, _⟩ | ⟨h, _⟩ | ⟨c, h, _⟩ <;> cases h
 | fn f xs ys us ws _ _ => rcases hS with ⟨h, _⟩ | ⟨h, _⟩ | ⟨c, h, _⟩ <;> cases h
def putV (bs : List Nat) (a z n : Int) : AV :=
 if bs.length ≠ 0 ∧ bs.length ≠ 128 then .tup [.nils, .int .i64 3] else if putOk a z n = true then .tup [.fz 128 (some 128) (bys (putN (pad bs) a.toNat n.toNat z.toNat)), .int .i64 0] else .tup [.nils, .int .i64 2]
theorem hf_putV (bs : List Nat) (a z n : Int) : hf (putV bs a z n) = true := by
 unfold putV
 split
 ·rfl
 ·split <;> rfl
noncomputable def putO (args : List AV) (s : St) : RV := match args with
 | [v, .int .i64 a, .int .i64 z, .int .i64 n] => Option.rec .fail (fun bs => .ok (putV bs a z n) s) (bytesAt St0 v)
 | _ => .fail
theorem putO_ok {P : Program} {e : Env} {fn : Func} (hE : EnvOk P e) (hm : P.follows .mixedOrders = true) (h130 : Inl e 130 code130 [.cells 2 128, .tmp 3]) (h131 : Inl e 131 code131 [.tmp 4]) (hf : P.funcs[161]? = some fn) (hc : compF P fn = some a161) (hb : HasBody P 161) : OvOk P 161 putO := by
 refine ⟨hb, fun args s v s' h => ?_⟩
 unfold putO at h
 split at h
 ·rename_i u a z n
  obtain ⟨bs, hbs, h⟩ := opt_ok h
  obtain ⟨rfl, rfl⟩ := ok_inj h
  obtain ⟨hSl, hlt⟩ := bytes0 hbs
  have hfs2 : hfs [u, .int .i64 a, .int .i64 z, .int .i64 n] = true := by simp [hfs, hSl.hf]; exact ⟨rfl, rfl, rfl⟩
  refine C.pure hfs2 (hf_putV bs a z n) ?_ s
  refine C.of_V hE hm hf hc (put_run P e hE hm h130 h131 u bs hSl a z n _ (fun h1 h2 s => ?_) (fun h0 h1 s => ?_) (fun h0 h1 s r hr => ?_))
  ·have e1 : putV bs a z n = .tup [.nils, .int .i64 3] := by unfold putV; rw [if_pos ⟨h1, h2⟩]
   rw [e1]; exact .plain _ rfl
  ·have e1 : putV bs a z n = .tup [.nils, .int .i64 2] := by unfold putV; rw [if_neg (pad_len h0), if_neg (by rw [h1]; simp)]
   rw [e1]; exact .plain _ rfl
  ·have e1 : putV bs a z n = .tup [.fz 128 (some 128) (bys (putN (pad bs) a.toNat n.toNat z.toNat)), .int .i64 0] := by unfold putV; rw [if_neg (pad_len h0), if_pos h1]
   rw [e1]
   exact .tup _ _ (.cons (.sl r 0 128 (some 128) (some 128) 197 _ _ _ hr (fun i x hx => by rw [Nat.zero_add]; exact hx) (frz_bys _) (.inr ⟨rfl, by simp⟩)) (.cons (.plain _ rfl) .nil))
 ·cases h
end Go.AM
set_option maxRecDepth 100000
namespace Go.AM
attribute [local irreducible] W
open X
end Go.AM
set_option maxRecDepth 100000
namespace Go.AM
attribute [local irreducible] W
open X
section
variable {t : AT} {s : St} {k : AV → St → Prop} {x y : AO}
theorem EPrim.slcFz {es n h : Nat} {c : Option Nat} {cs : List AV} {lo hi : Option AO} (hx : ev x t = .some (.fz n c cs)) (hlo : optNat t lo 0 = .n 0) (hhi : optNat t hi n = .n h) (h1 : 0 ≤ h) (h2 : h ≤ n) (h3 : 0 < n) (hl : h * es ≤ cs.length)
 (hk : k (.fz (h - 0) (Option.rec none (fun c => some (c - 0)) c) ((cs.drop (0 * es)).take ((h - 0) * es))) s) : EPrim (.slc es x lo hi none) t s k := by
 refine EPrim.mk (fun e rec => ?_) hk
 show wth x t _ = _; unfold wth; rw [hx]
 show (NR.rec .fail _ (optNat t lo 0) : RV) = _; rw [hlo]
 show (NR.rec .fail _ (optNat t hi n) : RV) = _; rw [hhi]
 show gd (Nat.ble 0 h && Nat.ble h n && true) (Bool.rec (.ok .es s) (Option.rec .fail (fun cs' => .ok (.fz (h - 0) (Option.rec none (fun c => some (c - 0)) c) cs') s) (takeL (Nat.mul (h - 0) es) (dropL (Nat.mul 0 es) cs))) (Nat.blt 0 n)) = _
 have ht : takeL (Nat.mul (h - 0) es) (dropL (Nat.mul 0 es) cs) = some ((cs.drop (0 * es)).take ((h - 0) * es)) := by
  rw [dropL_eq]
  refine takeL_of ?_
  rw [List.length_drop]
  show (h - 0) * es ≤ cs.length - 0 * es
  rw [Nat.sub_mul]; omega
 rw [Nat.ble_eq_true_of_le h1, Nat.ble_eq_true_of_le h2, show Nat.blt 0 n = true by simpa using h3, ht]; rfl
end
theorem bytesOf_of : ∀ {bs : List Nat}, (∀ b ∈ bs, b < 256) → bytesOf (bys bs) = some bs
 | [], _ => rfl
 | b :: bs, h => by
  show (Bool.rec none (Option.rec none (fun r => some (b :: r)) (bytesOf (bys bs))) (Nat.blt b 256) : Option (List Nat)) = _
  rw [bytesOf_of (fun x hx => h x (by simp [hx])), show Nat.blt b 256 = true by simpa using h b (by simp)]
theorem bytesAt_fz {s : St} {n : Nat} {c : Option Nat} {bs : List Nat} (hn : bs.length = n) (h : ∀ b ∈ bs, b < 256) : bytesAt s (.fz n c (bys bs)) = some bs := by
 show (Bool.rec none (bytesOf (bys bs)) (Nat.beq (lenL (bys bs)) n) : Option (List Nat)) = _
 rw [bytesOf_of h, lenL_eq, bys_length, hn, Nat.beq_refl]
theorem bys_take (bs : List Nat) (n : Nat) : (bys bs).take n = bys (bs.take n) := by simp [bys, List.map_take]
def code129 : AC := match a129 with | .mk c _ => c
def code67 : AC := match a67 with | .mk c _ => c
theorem crcGo_lt : ∀ {bs : List Nat} {s : Nat}, (∀ b ∈ bs, b < 256) → s < 4294967296 → crcGo bs s < 4294967296
 | [], s, _, h => h
 | b :: bs, s, hb, h => by
  show crcGo bs (crcStep s b) < _
  refine crcGo_lt (fun x hx => hb x (by simp [hx])) (half_lt (half_lt (Nat.xor_lt_two_pow (n := 32) h ?_)))
  have := hb b (by simp); omega
def sumN (bs : List Nat) : Nat := crcGo bs 4294967295 ^^^ 4294967295
end Go.AM
set_option maxRecDepth 100000
namespace Go.AM
attribute [local irreducible] W
open X
end Go.AM
set_option maxRecDepth 100000
namespace Go.AM
attribute [local irreducible] W
open X
def numB (n : Int) : Bool := decide (1 ≤ n ∧ n ≤ 2147483648)
def supB (age seq tail : Int) : Bool := numB age && numB seq && decide (0 ≤ tail ∧ tail < 255)
structure Sup where
 id : Int
 age : Int
 seq : Int
 tail : Int
def Sup.ok (x : Sup) : Prop := (0 ≤ x.id ∧ x.id < 4294967296) ∧ (0 ≤ x.age ∧ x.age < 4294967296) ∧ (0 ≤ x.seq ∧ x.seq < 4294967296)
def Sup.v (x : Sup) : AV := .agg [.int .u32 x.id, .int .u32 x.age, .int .u32 x.seq, .int .i64 x.tail]
def Sup.b (x : Sup) : Bool := supB x.age x.seq x.tail
theorem pad_of {bs : List Nat} (h : bs.length = 128) : pad bs = bs := by
 unfold pad; rw [if_neg]; intro e; subst e; cases h
theorem putN_lt {bs : List Nat} {a n : Nat} (hb : ∀ b ∈ bs, b < 256) : ∀ i, ∀ b ∈ putN bs a n i, b < 256
 | 0 => hb
 | i + 1 => fun b h => by
  rcases List.mem_or_eq_of_mem_set h with h | rfl
  ·exact putN_lt hb i b h
  ·exact Nat.mod_lt _ (by decide)
end Go.AM
