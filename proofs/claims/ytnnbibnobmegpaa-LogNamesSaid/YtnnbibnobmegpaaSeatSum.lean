/-
  Functions of the program as the abstract machine reads them, printed by program; what is stated of them is checked by the kernel. No conditions.
-/
import Derived.Test.YtnnbibnobmegpaaAMEnv
import Derived.Test.YtnnbibnobmegpaaXN
set_option linter.unusedVariables false
set_option linter.unusedSimpArgs false
set_option maxRecDepth 100000
namespace Go.AM
attribute [local irreducible] W
open X
def crcT : List Nat := [0x00000000, 0x105ec76f, 0x20bd8ede, 0x30e349b1, 0x417b1dbc, 0x5125dad3, 0x61c69362, 0x7198540d, 0x82f63b78, 0x92a8fc17, 0xa24bb5a6, 0xb21572c9, 0xc38d26c4, 0xd3d3e1ab, 0xe330a81a, 0xf36e6f75]
def nth0 : List Nat → Nat → Nat
  | [], _ => 0
  | x :: _, 0 => x
  | _ :: l, n + 1 => nth0 l n
def half (s : Nat) : Nat := Nat.xor (Nat.div s 16) (nth0 crcT (Nat.mod s 16))
def crcStep (s b : Nat) : Nat := half (half (Nat.xor s b))
def crcGo (l : List Nat) (s : Nat) : Nat := l.foldl crcStep s
def crcCells : List AV := crcT.map fun n => .int .u32 (Int.ofNat n)
theorem nth0_lt {m : Nat} (h0 : 0 < m) : ∀ {l : List Nat} {n : Nat}, (∀ x ∈ l, x < m) → nth0 l n < m := by
  intro l
  induction l with
  | nil => intro n _; exact h0
  | cons x l ih => intro n h; cases n with
    | zero => exact h x (by simp)
    | succ n => exact ih fun y hy => h y (by simp [hy])
theorem half_lt {s : Nat} (h : s < 4294967296) : half s < 4294967296 :=
  Nat.xor_lt_two_pow (n := 32) (by show s / 16 < _; omega) (nth0_lt (by decide) (by decide))
theorem getL_crc : ∀ {i : Nat} {l : List Nat}, i < l.length → getL (l.map fun n => AV.int .u32 (Int.ofNat n)) i = some (.int .u32 (Int.ofNat (nth0 l i))) := by
  intro i l
  induction l generalizing i with
  | nil => intro h; simp at h
  | cons x l ih => intro h; cases i with
    | zero => rfl
    | succ i => exact ih (by simpa using h)
theorem crc_cells {i : Nat} (h : i < 16) : load1 0 (0 + i * 1) (allocs St0 [.row 211 crcCells]) = some (.int .u32 (Int.ofNat (nth0 crcT i))) := by
  rw [Nat.zero_add, Nat.mul_one]
  exact getL_crc (l := crcT) h
theorem and15 (a : Nat) : a &&& 15 = a % 16 := Nat.and_two_pow_sub_one_eq_mod a 4
theorem over_body (P : Program) (e : Env) (hE : EnvOk P e) (hm : P.follows .mixedOrders = true) (hW : Inl e 147 (match a147 with | .mk c _ => c) (match a147 with | .mk _ r => r)) (s0 : Nat) (h0 : s0 < 4294967296) (bs : List Nat) (hb : ∀ b ∈ bs, b < 256) (hlen : bs.length < 9223372036854775807) (v : AV) (hv : Sl 1 bs.length (bys bs) v) (Q : AV → St → Prop)
    (hQ : ∀ s, Q (.int .u32 (Int.ofNat (crcGo bs (s0 ^^^ 4294967295) ^^^ 4294967295))) s) :
    VW P e 0 (match a107 with | .mk c _ => c) (initT [.int .u32 (Int.ofNat s0), v] 0 .lf) St0 none [] (EEnd [.tmp 4] Q) := by
  conv => whnf
  refine ESc.inl hW ?_
  conv => whnf
  refine EPrim.cpl32 rfl h0 ?_
  conv => whnf
  refine EPrim.lenS rfl hv ?_
  conv => whnf
  refine W.loopS (α := Nat × Nat) (fun x => [(0, .int .u32 (Int.ofNat x.2)), (5, .ptr 0 0), (11, v), (12, .int .i64 (Int.ofNat bs.length)), (13, .int .i64 (Int.ofNat x.1))]) (fun _ => [.row 211 crcCells]) (fun x => bs.length - x.1)
    (fun x => x.1 ≤ bs.length ∧ x.2 = crcGo (bs.take x.1) (s0 ^^^ 4294967295) ∧ x.2 < 4294967296) (0, s0 ^^^ 4294967295) [1] ⟨Nat.zero_le _, rfl, Nat.xor_lt_two_pow (n := 32) h0 (by decide)⟩
    ⟨by decide, ⟨⟨rfl, rfl⟩, ⟨rfl, rfl⟩, ⟨hf_bd _ hv.hf, by rw [hf_mapV _ hv.hf]; rfl⟩, ⟨rfl, rfl⟩, ⟨rfl, rfl⟩, trivial⟩, ⟨⟨rfl, rfl⟩, trivial⟩⟩ ?_
  rintro ⟨i, a⟩ ⟨hi, ha, hlt⟩
  dsimp only at hi ha hlt ⊢
  refine vw_sound hE hm ?_
  conv => whnf
  refine EPrim.lssN rfl rfl (fun h => ?_) (fun h => ?_)
  · have hbi : bs[i] < 256 := hb bs[i] (List.getElem_mem h)
    have hx : a ^^^ bs[i] < 4294967296 := Nat.xor_lt_two_pow (n := 32) hlt (by omega)
    have hy : half (a ^^^ bs[i]) < 4294967296 := half_lt hx
    conv => whnf
    refine EPrim.ixsS rfl hv rfl h ?_
    conv => whnf
    refine EHead.mk (bys_drop_get h) ?_
    conv => whnf
    refine EPrim.cviU32 rfl (by omega) ?_
    conv => whnf
    refine EPrim.xor32 rfl rfl hlt (by omega) ?_
    conv => whnf
    refine EPrim.shrN (n := 4) rfl rfl (by decide) ?_
    conv => whnf
    refine EPrim.and32 rfl rfl hx (by decide) ?_
    conv => whnf
    rw [and15]
    refine EPrim.ixaP rfl rfl (Nat.mod_lt _ (by decide)) ?_
    conv => whnf
    refine stuckO _ (crc_cells (Nat.mod_lt _ (by decide))) ?_
    conv => whnf
    refine EPrim.xor32 rfl rfl (by show (a ^^^ bs[i]) / 16 < _; omega) (nth0_lt (by decide) (by decide)) ?_
    conv => whnf
    refine EPrim.shrN (n := 4) rfl rfl (by decide) ?_
    conv => whnf
    refine EPrim.and32 rfl rfl hy (by decide) ?_
    conv => whnf
    rw [and15]
    refine EPrim.ixaP rfl rfl (Nat.mod_lt _ (by decide)) ?_
    conv => whnf
    refine stuckO _ (crc_cells (Nat.mod_lt _ (by decide))) ?_
    conv => whnf
    refine EPrim.xor32 rfl rfl (by have : half (a ^^^ bs[i]) / 16 < 4294967296 := by omega
                                   exact this) (nth0_lt (by decide) (by decide)) ?_
    conv => whnf
    refine EPrim.incN rfl rfl rfl (by omega) ?_
    conv => whnf
    refine ⟨rfl, (i + 1, crcStep a bs[i]), ⟨by simp; omega, ?_, half_lt (half_lt hx)⟩, by simp; omega, [0], ⟨by decide, ⟨⟨rfl, rfl⟩, ⟨rfl, rfl⟩, ⟨hf_bd _ hv.hf, by rw [hf_mapV _ hv.hf]; rfl⟩, ⟨rfl, rfl⟩, ⟨rfl, rfl⟩, trivial⟩, ⟨⟨rfl, rfl⟩, trivial⟩⟩⟩
    show crcStep a bs[i] = crcGo (bs.take (i + 1)) _
    rw [List.take_succ_eq_append_getElem h, crcGo, List.foldl_append, ha]; rfl
  · conv => whnf
    refine EPrim.cpl32 rfl hlt ?_
    conv => whnf
    have : bs.take i = bs := List.take_of_length_le h
    rw [ha, this]
    exact hQ _

noncomputable def overO (args : List AV) (s : St) : RV := match args with
  | [.int .u32 (.ofNat s0), v] => gd (Nat.blt s0 4294967296) (Option.rec .fail (fun bs => gd (Nat.blt (lenL bs) 1000000) (.ok (.int .u32 (.ofNat (Nat.xor (crcGo bs (Nat.xor s0 4294967295)) 4294967295))) s)) (bytesAt s v))
  | _ => .fail
theorem overO_ok {P : Program} {e : Env} {fn : Func} (hE : EnvOk P e) (hm : P.follows .mixedOrders = true) (hW : Inl e 147 (match a147 with | .mk c _ => c) (match a147 with | .mk _ r => r)) (hf : P.funcs[107]? = some fn) (hc : compF P fn = some a107) (hb : HasBody P 107) : OvOk P 107 overO := by
  refine ⟨hb, fun args s v s' h => ?_⟩
  unfold overO at h
  split at h
  · rename_i s0 u
    obtain ⟨h1, h⟩ := gd_ok h
    obtain ⟨bs, hbs, h⟩ := opt_ok h
    obtain ⟨h2, h⟩ := gd_ok h
    obtain ⟨rfl, rfl⟩ := ok_inj h
    rw [Nat.blt_eq] at h1 h2
    rw [lenL_eq] at h2
    obtain ⟨v2, hF, hSl, hlt⟩ := bytesAt_view hbs
    have hfs2 : hfs [.int .u32 (.ofNat s0), v2] = true := by simp [hfs, hSl.hf]; rfl
    refine C.view (args2 := [.int .u32 (.ofNat s0), v2]) (.cons (.plain _ rfl) (.cons hF .nil)) rfl (C.freeze hfs2 ?_)
    exact C.of_V hE hm hf hc (over_body P e hE hm hW s0 h1 bs hlt (by omega) v2 hSl _ (fun s => .plain _ rfl))
  · cases h
end Go.AM
