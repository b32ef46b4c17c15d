/-
  Functions of the program as the abstract machine reads them, and what is stated of them, checked by the kernel. No conditions.
-/
import Derived.Test.YtkijbbolpegneaaGreatAM5
import Derived.Test.YtkijbbolpegneaaGreatXN
set_option linter.unusedVariables false
set_option linter.unusedSimpArgs false

set_option linter.unusedVariables false
set_option maxRecDepth 100000
namespace Go.AM
attribute [local irreducible] W
open X
def crcT : List Nat := [0x00000000, 0x105ec76f, 0x20bd8ede, 0x30e349b1, 0x417b1dbc, 0x5125dad3, 0x61c69362, 0x7198540d, 0x82f63b78, 0x92a8fc17, 0xa24bb5a6, 0xb21572c9, 0xc38d26c4, 0xd3d3e1ab, 0xe330a81a, 0xf36e6f75]
def nth0 : List Nat → Nat → Nat
  | [], _ => 0
  | x :: _, 0 => x
  | _ :: l, n + 1 => nth0 l n
def half (s : Nat) : Nat := Nat.xor (Nat.div s 16) (nth0 crcT (Nat.mod s 16))
def crcStep (s b : Nat) : Nat := half (half (Nat.xor s b))
def crcGo (l : List Nat) (s : Nat) : Nat := l.foldl crcStep s
def crcCells : List AV := crcT.map fun n => .int .u32 (Int.ofNat n)
theorem nth0_lt {m : Nat} (h0 : 0 < m) : ∀ {l : List Nat} {n : Nat}, (∀ x ∈ l, x < m) → nth0 l n < m := by
  intro l
  induction l with
  | nil => intro n _; exact h0
  | cons x l ih => intro n h; cases n with
    | zero => exact h x (by simp)
    | succ n => exact ih fun y hy => h y (by simp [hy])
theorem half_lt {s : Nat} (h : s < 4294967296) : half s < 4294967296 :=
  Nat.xor_lt_two_pow (n := 32) (by show s / 16 < _; omega) (nth0_lt (by decide) (by decide))
theorem getL_crc : ∀ {i : Nat} {l : List Nat}, i < l.length → getL (l.map fun n => AV.int .u32 (Int.ofNat n)) i = some (.int .u32 (Int.ofNat (nth0 l i))) := by
  intro i l
  induction l generalizing i with
  | nil => intro h; simp at h
  | cons x l ih => intro h; cases i with
    | zero => rfl
    | succ i => exact ih (by simpa using h)
theorem crc_cells {i : Nat} (h : i < 16) : load1 0 (0 + i * 1) (allocs St0 [.row 306 crcCells]) = some (.int .u32 (Int.ofNat (nth0 crcT i))) := by
  rw [Nat.zero_add, Nat.mul_one]
  exact getL_crc (l := crcT) h
theorem and15 (a : Nat) : a &&& 15 = a % 16 := Nat.and_two_pow_sub_one_eq_mod a 4
theorem over_body (P : Program) (e : Env) (hE : EnvOk P e) (hm : P.follows .mixedOrders = true) (hW : Inl e 192 (match a192 with | .mk c _ => c) (match a192 with | .mk _ r => r)) (s0 : Nat) (h0 : s0 < 4294967296) (bs : List Nat) (hb : ∀ b ∈ bs, b < 256) (hlen : bs.length < 9223372036854775807) (v : AV) (hv : Sl 1 bs.length (bys bs) v) (Q : AV → St → Prop)
    (hQ : ∀ s, Q (.int .u32 (Int.ofNat (crcGo bs (s0 ^^^ 4294967295) ^^^ 4294967295))) s) :
    VW P e 0 (match a153 with | .mk c _ => c) (initT [.int .u32 (Int.ofNat s0), v] 0 .lf) St0 none [] (EEnd [.tmp 4] Q) := by
  conv => whnf
  refine ESc.inl hW ?_
  conv => whnf
  refine EPrim.cpl32 rfl h0 ?_
  conv => whnf
  refine EPrim.lenS rfl hv ?_
  conv => whnf
  refine W.loopS (α := Nat × Nat) (fun x => [(0, .int .u32 (Int.ofNat x.2)), (5, .ptr 0 0), (11, v), (12, .int .i64 (Int.ofNat bs.length)), (13, .int .i64 (Int.ofNat x.1))]) (fun _ => [.row 306 crcCells]) (fun x => bs.length - x.1)
    (fun x => x.1 ≤ bs.length ∧ x.2 = crcGo (bs.take x.1) (s0 ^^^ 4294967295) ∧ x.2 < 4294967296) (0, s0 ^^^ 4294967295) [1] ⟨Nat.zero_le _, rfl, Nat.xor_lt_two_pow (n := 32) h0 (by decide)⟩
    ⟨by decide, ⟨⟨rfl, rfl⟩, ⟨rfl, rfl⟩, ⟨hf_bd _ hv.hf, by rw [hf_mapV _ hv.hf]; rfl⟩, ⟨rfl, rfl⟩, ⟨rfl, rfl⟩, trivial⟩, ⟨⟨rfl, rfl⟩, trivial⟩⟩ ?_
  rintro ⟨i, a⟩ ⟨hi, ha, hlt⟩
  dsimp only at hi ha hlt ⊢
  refine vw_sound hE hm ?_
  conv => whnf
  refine EPrim.lssN rfl rfl (fun h => ?_) (fun h => ?_)
  · have hbi : bs[i] < 256 := hb bs[i] (List.getElem_mem h)
    have hx : a ^^^ bs[i] < 4294967296 := Nat.xor_lt_two_pow (n := 32) hlt (by omega)
    have hy : half (a ^^^ bs[i]) < 4294967296 := half_lt hx
    conv => whnf
    refine EPrim.ixsS rfl hv rfl h ?_
    conv => whnf
    refine EHead.mk (bys_drop_get h) ?_
    conv => whnf
    refine EPrim.cviU32 rfl (by omega) ?_
    conv => whnf
    refine EPrim.xor32 rfl rfl hlt (by omega) ?_
    conv => whnf
    refine EPrim.shrN (n := 4) rfl rfl (by decide) ?_
    conv => whnf
    refine EPrim.and32 rfl rfl hx (by decide) ?_
    conv => whnf
    rw [and15]
    refine EPrim.ixaP rfl rfl (Nat.mod_lt _ (by decide)) ?_
    conv => whnf
    refine stuckO _ (crc_cells (Nat.mod_lt _ (by decide))) ?_
    conv => whnf
    refine EPrim.xor32 rfl rfl (by show (a ^^^ bs[i]) / 16 < _; omega) (nth0_lt (by decide) (by decide)) ?_
    conv => whnf
    refine EPrim.shrN (n := 4) rfl rfl (by decide) ?_
    conv => whnf
    refine EPrim.and32 rfl rfl hy (by decide) ?_
    conv => whnf
    rw [and15]
    refine EPrim.ixaP rfl rfl (Nat.mod_lt _ (by decide)) ?_
    conv => whnf
    refine stuckO _ (crc_cells (Nat.mod_lt _ (by decide))) ?_
    conv => whnf
    refine EPrim.xor32 rfl rfl (by have : half (a ^^^ bs[i]) / 16 < 4294967296 := by omega
                                   exact this) (nth0_lt (by decide) (by decide)) ?_
    conv => whnf
    refine EPrim.incN rfl rfl rfl (by omega) ?_
    conv => whnf
    refine ⟨rfl, (i + 1, crcStep a bs[i]), ⟨by simp; omega, ?_, half_lt (half_lt hx)⟩, by simp; omega, [0], ⟨by decide, ⟨⟨rfl, rfl⟩, ⟨rfl, rfl⟩, ⟨hf_bd _ hv.hf, by rw [hf_mapV _ hv.hf]; rfl⟩, ⟨rfl, rfl⟩, ⟨rfl, rfl⟩, trivial⟩, ⟨⟨rfl, rfl⟩, trivial⟩⟩⟩
    show crcStep a bs[i] = crcGo (bs.take (i + 1)) _
    rw [List.take_succ_eq_append_getElem h, crcGo, List.foldl_append, ha]; rfl
  · conv => whnf
    refine EPrim.cpl32 rfl hlt ?_
    conv => whnf
    have : bs.take i = bs := List.take_of_length_le h
    rw [ha, this]
    exact hQ _
noncomputable def overO (args : List AV) (s : St) : RV := match args with
  | [.int .u32 (.ofNat s0), v] => gd (Nat.blt s0 4294967296) (Option.rec .fail (fun bs => gd (Nat.blt (lenL bs) 1000000) (.ok (.int .u32 (.ofNat (Nat.xor (crcGo bs (Nat.xor s0 4294967295)) 4294967295))) s)) (bytesAt s v))
  | _ => .fail
theorem overO_ok {P : Program} {e : Env} {fn : Func} (hE : EnvOk P e) (hm : P.follows .mixedOrders = true) (hW : Inl e 192 (match a192 with | .mk c _ => c) (match a192 with | .mk _ r => r)) (hf : P.funcs[153]? = some fn) (hc : compF P fn = some a153) (hb : HasBody P 153) : OvOk P 153 overO := by
  refine ⟨hb, fun args s v s' h => ?_⟩
  unfold overO at h
  split at h
  · rename_i s0 u
    obtain ⟨h1, h⟩ := gd_ok h
    obtain ⟨bs, hbs, h⟩ := opt_ok h
    obtain ⟨h2, h⟩ := gd_ok h
    obtain ⟨rfl, rfl⟩ := ok_inj h
    rw [Nat.blt_eq] at h1 h2
    rw [lenL_eq] at h2
    obtain ⟨v2, hF, hSl, hlt⟩ := bytesAt_view hbs
    have hfs2 : hfs [.int .u32 (.ofNat s0), v2] = true := by simp [hfs, hSl.hf]; rfl
    refine C.view (args2 := [.int .u32 (.ofNat s0), v2]) (.cons (.plain _ rfl) (.cons hF .nil)) rfl (C.freeze hfs2 ?_)
    exact C.of_V hE hm hf hc (over_body P e hE hm hW s0 h1 bs hlt (by omega) v2 hSl _ (fun s => .plain _ rfl))
  · cases h
end Go.AM

set_option linter.unusedVariables false
set_option maxRecDepth 100000
namespace Go.AM
attribute [local irreducible] W
open X
def code246 : AC := match a246 with | .mk c _ => c
theorem ins_run (e : Env) (hX : e.X.get 280 = some ovlO) (r r2 o2 n cc el : Nat) (c2 : Option Nat) (s : St) (cells sp : List AV) (y : AV) (K : AV → St → Prop)
    (hr : s.get r = some (.row el (cells ++ sp))) (hcl : cells.length = n) (hsp : sp.length = cc - n) (hn : 0 < n) (hnb : n < 100000) (hncc : n ≤ cc) (hccb : cc ≤ 9223372036854775807) (h2 : load r2 o2 1 s = some [y]) (hr2 : r2 ≠ r) (hN : s.next < 1000000000) (hrN : r < s.next) (hr2N : r2 < s.next)
    (k1 : cc < n + 1 → ∀ s', s'.next = s.next + 1 → (∀ i, i < s.next → s'.get i = s.get i) → s'.get s.next = some (.row 39 (y :: cells)) → K (.sl s.next 0 (n + 1) none) s')
    (k2 : n + 1 ≤ cc → ∀ s', s'.next = s.next → (∀ i, i ≠ r → s'.get i = s.get i) → s'.get r = some (.row el (y :: cells ++ sp.drop 1)) → K (.sl r 0 (n + 1) (some cc)) s') :
    VE e code246 (initT [.sl r 0 n (some cc), .int .i64 (Int.ofNat 0), .sl r2 o2 1 c2] 0 .lf) s none [] (EEnd [.tmp 6] K) := by
  conv => whnf
  refine EPrim.slcK rfl rfl rfl (Nat.zero_le _) hncc (by omega) ?_
  conv => whnf
  refine EPrim.lenP rfl ?_
  conv => whnf
  refine EPrim.eqlN (b := 0) rfl rfl (fun h => by cases h) (fun _ => ?_)
  conv => whnf
  refine EPrim.lenP rfl ?_
  conv => whnf
  refine EPrim.eqlN rfl rfl (fun h => by omega) (fun _ => ?_)
  conv => whnf
  refine EPrim.addN rfl rfl (by omega) ?_
  conv => whnf
  refine EPrim.capK rfl ?_
  conv => whnf
  refine EPrim.gtrN rfl rfl (fun hc => ?_) (fun hc => ?_)
  · conv => whnf
    refine EPrim.slcK rfl rfl rfl (Nat.zero_le _) (Nat.zero_le _) (by omega) ?_
    conv => whnf
    refine EPrim.addN rfl rfl (by omega) ?_
    conv => whnf
    refine EPrim.subN rfl rfl (Nat.zero_le _) (by omega) ?_
    conv => whnf
    refine EPrim.app0K (old := []) rfl rfl (by rw [load_of hr (by simp)]; simp) (by omega) (by omega) (by omega) ?_
    obtain ⟨s1, hs1⟩ : ∃ s1, s.alloc (.row 39 ([] ++ repL [AV.nils] (n + 1 - 0))) = s1 := ⟨_, rfl⟩
    rw [hs1]
    have hz : 0 - 0 + (n + 1 - 0) = n + 1 := by omega
    rw [hz]
    have hrep : ∀ m, (repL [AV.nils] m).length = m := by
      intro m
      induction m with
      | zero => rfl
      | succ m ih => simp [repL, ih]
    have g1 : s1.get s.next = some (.row 39 (repL [AV.nils] (n + 1))) := by rw [← hs1]; exact St.get_alloc_same hN
    have g2 : ∀ i, i < s.next → s1.get i = s.get i := fun i hi => by rw [← hs1]; exact St.get_alloc_ne (by omega)
    have g3 : s1.next = s.next + 1 := by rw [← hs1]; exact St.next_alloc _ _
    have h2' : load r2 o2 1 s1 = some [y] := by rw [← h2]; unfold load rowAt; rw [g2 r2 hr2N]
    conv => whnf
    refine EPrim.slcU rfl rfl rfl (Nat.zero_le _) (Nat.le_refl _) (by omega) ?_
    conv => whnf
    have hmin : Nat.min 1 (n + 1 - 0) * 1 = 1 := by show min 1 (n + 1 - 0) * 1 = 1; omega
    refine EPrim.copyP (cs := [y]) (s' := s1.put s.next (.row 39 ([] ++ [y] ++ (repL [AV.nils] (n + 1)).drop (0 + 1)))) rfl rfl (by rw [hmin]; exact h2') (store_of g1 (by simp [hrep])) ?_
    obtain ⟨s2, hs2⟩ : ∃ s2, s1.put s.next (.row 39 ([] ++ [y] ++ (repL [AV.nils] (n + 1)).drop (0 + 1))) = s2 := ⟨_, rfl⟩
    rw [hs2]
    have g4 : s2.get s.next = some (.row 39 (y :: repL [AV.nils] n)) := by rw [← hs2, St.get_put_same (by omega)]; simp [repL]
    have g5 : ∀ i, i < s.next → s2.get i = s.get i := fun i hi => by rw [← hs2, St.get_put_ne (by omega)]; exact g2 i hi
    have g6 : s2.next = s.next + 1 := by rw [← hs2, St.next_put]; exact g3
    conv => whnf
    refine EPrim.addN rfl rfl (by omega) ?_
    conv => whnf
    refine EPrim.slcU (l := 1) rfl rfl rfl (by omega) (Nat.le_refl _) (by omega) ?_
    conv => whnf
    refine EPrim.slcK rfl rfl rfl (Nat.zero_le _) hncc (by omega) ?_
    conv => whnf
    have hmin2 : Nat.min (n - 0) (n + 1 - 1) * 1 = n := by show min (n - 0) (n + 1 - 1) * 1 = n; omega
    refine EPrim.copyP (cs := cells) (s' := s2.put s.next (.row 39 ((y :: repL [AV.nils] n).take 1 ++ cells ++ (y :: repL [AV.nils] n).drop (1 + cells.length)))) rfl rfl (by rw [hmin2, load_of ((g5 r hrN).trans hr) (by simp; omega)]; simp [← hcl]) (store_of g4 (by simp [hrep, hcl]; omega)) ?_
    obtain ⟨s3, hs3⟩ : ∃ s3, s2.put s.next (.row 39 ((y :: repL [AV.nils] n).take 1 ++ cells ++ (y :: repL [AV.nils] n).drop (1 + cells.length))) = s3 := ⟨_, rfl⟩
    rw [hs3]
    conv => whnf
    refine k1 hc s3 (by rw [← hs3, St.next_put]; exact g6) (fun i hi => by rw [← hs3, St.get_put_ne (by omega)]; exact g5 i hi) ?_
    rw [← hs3, St.get_put_same (by omega)]
    have : ((y :: repL [AV.nils] n).drop (1 + cells.length)) = [] := List.drop_eq_nil_of_le (by simp [hrep, hcl]; omega)
    rw [this]; simp
  · conv => whnf
    refine EPrim.addN rfl rfl (by omega) ?_
    conv => whnf
    refine EPrim.slcK (h := n + 1) rfl rfl rfl (Nat.zero_le _) hc (by omega) ?_
    conv => whnf
    refine EPrim.addN rfl rfl (by omega) ?_
    conv => whnf
    refine EPrim.slcK (l := 1) rfl rfl rfl (by omega) (by omega) (by omega) ?_
    conv => whnf
    obtain ⟨e2, rs2, hrow2⟩ : ∃ e2 rs2, rowAt r2 s = .row e2 rs2 := by
      unfold load at h2
      cases hq : rowAt r2 s with
      | no => rw [hq] at h2; cases h2
      | row e2 rs2 => exact ⟨e2, rs2, rfl⟩
    refine ESc.ext hX (v := .bool false) (s' := s) ?_ ?_
    · show gd (Bool.rec true false (Nat.beq r2 r)) (RW.rec .fail (fun _ _ => RW.rec .fail (fun _ cs => List.rec .fail (fun _ _ _ => .ok (.bool false) s) cs) (rowAt r s)) (rowAt r2 s)) = _
      rw [show Nat.beq r2 r = false by rw [← Bool.not_eq_true]; intro e; exact hr2 (Nat.eq_of_beq_eq_true e), hrow2, rowAt_of hr]
      cases hcs : cells with
      | nil => rw [hcs] at hcl; simp at hcl; omega
      | cons a b => rfl
    conv => whnf
    refine EPrim.notF rfl ?_
    conv => whnf
    refine EPrim.addN rfl rfl (by omega) ?_
    conv => whnf
    refine EPrim.slcK (l := 1) rfl rfl rfl (by omega) (by omega) (by omega) ?_
    conv => whnf
    refine EPrim.slcK rfl rfl rfl (Nat.zero_le _) (by omega) (by omega) ?_
    conv => whnf
    have hmin : Nat.min (n + 1 - 0 - 0) (n + 1 - 0 - 1) * 1 = n := by show min (n + 1 - 0 - 0) (n + 1 - 0 - 1) * 1 = n; omega
    refine EPrim.copyP (cs := cells) (s' := s.put r (.row el ((cells ++ sp).take 1 ++ cells ++ (cells ++ sp).drop (1 + cells.length)))) rfl rfl (by rw [hmin, load_of hr (by simp; omega)]; simp [← hcl]) (store_of hr (by simp; omega)) ?_
    obtain ⟨s1, hs1⟩ : ∃ s1, s.put r (.row el ((cells ++ sp).take 1 ++ cells ++ (cells ++ sp).drop (1 + cells.length))) = s1 := ⟨_, rfl⟩
    rw [hs1]
    have g1 : s1.get r = some (.row el ((cells ++ sp).take 1 ++ (cells ++ sp.drop 1))) := by
      rw [← hs1, St.get_put_same (by omega), List.append_assoc, List.drop_append]
      congr 4
      rw [List.drop_eq_nil_of_le (by omega)]; simp
    have g2 : ∀ i, i ≠ r → s1.get i = s.get i := fun i hi => by rw [← hs1]; exact St.get_put_ne hi
    have g3 : s1.next = s.next := by rw [← hs1]; exact St.next_put _ _ _
    have h2' : load r2 o2 1 s1 = some [y] := by rw [← h2]; unfold load rowAt; rw [g2 r2 hr2]
    have ht1 : ((cells ++ sp).take 1).length = 1 := by simp; omega
    conv => whnf
    refine EPrim.slcK rfl rfl rfl (Nat.zero_le _) (by omega) (by omega) ?_
    conv => whnf
    have hmin2 : Nat.min 1 (n + 1 - 0 - 0) * 1 = 1 := by show min 1 (n + 1 - 0 - 0) * 1 = 1; omega
    refine EPrim.copyP (cs := [y]) (s' := s1.put r (.row el (((cells ++ sp).take 1 ++ (cells ++ sp.drop 1)).take 0 ++ [y] ++ ((cells ++ sp).take 1 ++ (cells ++ sp.drop 1)).drop (0 + [y].length)))) rfl rfl (by rw [hmin2]; exact h2') (store_of g1 (by simp; omega)) ?_
    conv => whnf
    refine k2 hc _ (by rw [St.next_put]; exact g3) (fun i hi => by rw [St.get_put_ne hi]; exact g2 i hi) ?_
    rw [St.get_put_same (by omega)]
    have : ((cells ++ sp).take 1 ++ (cells ++ sp.drop 1)).drop (0 + [y].length) = cells ++ sp.drop 1 := by
      rw [show 0 + [y].length = ((cells ++ sp).take 1).length by rw [ht1]; rfl, List.drop_left]
    rw [this]; simp
noncomputable def insO (args : List AV) (s : St) : RV := match args with
  | [.sl r 0 n none, .int .i64 (.ofNat 0), .sl r2 o2 1 c2] =>
    (match load r2 o2 1 s with
      | some [y] => (match rowAt r s with
        | .row el cells => gd (Nat.beq el 39 && Nat.beq (lenL cells) n && Nat.blt 0 n && Nat.blt n 100000 && !Nat.beq r r2 && Nat.blt s.next 1000000000) (.ok (.sl s.next 0 (n + 1) none) ((s.put r .dead).alloc (.row 39 (y :: cells))))
        | .no => .fail)
      | _ => .fail)
  | _ => .fail
theorem insO_ok {P : Program} {e : Env} {fn : Func} (hE : EnvOk P e) (hm : P.follows .mixedOrders = true) (hX : e.X.get 280 = some ovlO) (hO : e.O.get 246 = none) (hG : e.G.get 246 = some a246) (hb : HasBody P 246) (hsz : szOf P 39 = some 1) : OvOk P 246 insO := by
  refine ⟨hb, fun args s v s' h => ?_⟩
  unfold insO at h
  split at h
  · rename_i r n r2 o2 c2
    split at h
    · rename_i y hy
      split at h
      · rename_i el cells hrow
        obtain ⟨hc, h⟩ := gd_ok h
        obtain ⟨rfl, rfl⟩ := ok_inj h
        simp only [Bool.and_eq_true, Bool.not_eq_true', Nat.blt_eq] at hc
        obtain ⟨⟨⟨⟨⟨q1, q2⟩, q3⟩, q4⟩, q5⟩, q6⟩ := hc
        have q1 := Nat.eq_of_beq_eq_true q1
        subst q1
        have q2 := Nat.eq_of_beq_eq_true q2
        rw [lenL_eq] at q2
        have q5 : r ≠ r2 := Nat.ne_of_beq_eq_false q5
        have hg := rowAt_some hrow
        intro γ vals w m hA hs
        cases hA with
        | @cons _ v1 _ vs1 a1 hA => cases hA with
          | @cons _ v2 _ vs2 a2 hA => cases hA with
            | @cons _ v3 _ vs3 a3 hA =>
              cases hA
              obtain ⟨L, cc, hL, hv1, hncc, hccm, hcs⟩ := sluV a1
              obtain ⟨c, e1, e2, e3, e4, e5, e6, e7⟩ := hs.rowA hg hL
              have hes : L.es = 1 := by rw [hsz] at e4; exact (Option.some.inj e4).symm
              have hcap : cc ≤ c.size := by have := hcs rfl; rw [hes, Nat.mul_one] at this; omega
              have hrN := hs.dom r _ hg
              obtain ⟨o2', hr2row⟩ : ∃ x, s.get r2 = some x := by
                unfold load at hy
                cases hq : rowAt r2 s with
                | no => rw [hq] at hy; cases hy
                | row a b => exact ⟨_, rowAt_some hq⟩
              have hr2N := hs.dom r2 _ hr2row
              obtain ⟨hst1, hs1⟩ := hs.turn (w' := w) (o := .row 39 (cells ++ List.replicate (cc - n) .any)) hg hL rfl (fun _ _ => rfl) rfl rfl rfl rfl (by
                refine ⟨c, e1, e2, e3, e4, by simp; omega, fun i u hi => ?_, e7⟩
                by_cases hin : i < n
                · rw [List.getElem?_append_left (by omega)] at hi; exact e6 i u hi
                · have hil := (List.getElem?_eq_some_iff.1 hi).1
                  simp at hil
                  rw [List.getElem?_append_right (by omega), List.getElem?_replicate] at hi
                  split at hi
                  · cases hi
                    have hcz : i < c.size := by omega
                    exact ⟨c[i], by simp [hcz], .any _ (e7 _ (by simp)), e7 _ (by simp)⟩
                  · cases hi)
              obtain ⟨S1, hS1⟩ : ∃ S1, s.put r (.row 39 (cells ++ List.replicate (cc - n) .any)) = S1 := ⟨_, rfl⟩
              rw [hS1] at hst1 hs1
              have p1 : S1.get r = some (.row 39 (cells ++ List.replicate (cc - n) .any)) := by rw [← hS1]; exact St.get_put_same (by omega)
              have p2 : ∀ i, i ≠ r → S1.get i = s.get i := fun i hi => by rw [← hS1]; exact St.get_put_ne hi
              have p3 : S1.next = s.next := by rw [← hS1]; exact St.next_put _ _ _
              have hy1 : load r2 o2 1 S1 = some [y] := by rw [← hy]; unfold load rowAt; rw [p2 r2 (fun e => q5 e.symm)]
              have hA1 : All2 (VR γ) [.sl r 0 n (some cc), .int .i64 (.ofNat 0), .sl r2 o2 1 c2] [v1, v2, v3] := .cons (by rw [hv1]; exact .sl r 0 n cc L hL hncc) (.cons a2 (.cons a3 .nil))
              have hrun := ins_run e hX r r2 o2 n cc 39 c2 S1 cells (List.replicate (cc - n) .any) y
                (fun v s' => (v = .sl s.next 0 (n + 1) none ∧ s'.next = s.next + 1 ∧ (∀ i, i < s.next → s'.get i = S1.get i) ∧ s'.get s.next = some (.row 39 (y :: cells))) ∨
                  (n + 1 ≤ cc ∧ v = .sl r 0 (n + 1) (some cc) ∧ s'.next = s.next ∧ (∀ i, i ≠ r → s'.get i = S1.get i) ∧ s'.get r = some (.row 39 (y :: cells ++ (List.replicate (cc - n) .any).drop 1))))
                p1 q2 (by simp) q3 q4 hncc (by unfold maxLen at hccm; omega) hy1 (fun e => q5 e.symm) (by omega) (by omega) (by omega)
                (fun _ s' h1 h2 h3 => .inl ⟨by rw [p3], by rw [h1, p3], fun i hi => h2 i (by omega), by rw [← p3]; exact h3⟩)
                (fun hle s' h1 h2 h3 => .inr ⟨hle, rfl, by rw [h1, p3], h2, h3⟩)
              obtain ⟨nn, v', s', hcall, hR⟩ := (ECall.inl (vs := [.sl r 0 n (some cc), .int .i64 (.ofNat 0), .sl r2 o2 1 c2]) hO hG hrun).elim
              refine CallsIn.mono ((callA_sound (exec_good hE hm nn) hE hA1 hs1 hcall).2 m) ?_
              rintro ee w' ⟨x', γ', rfl, hst', hsim', hv'⟩
              refine ⟨_, _, ⟨rfl, rfl⟩, ?_⟩
              have hnd : (s.put r .dead).next = s.next := St.next_put _ _ _
              have hSn : ((s.put r .dead).alloc (.row 39 (y :: cells))).next = s.next + 1 := by rw [St.next_alloc, hnd]
              have hkeep : ∀ k, γ k = none → k < s.next → ((s.put r .dead).alloc (.row 39 (y :: cells))).get k = s.get k := fun k hk hlt => by
                rw [St.get_alloc_ne (by rw [hnd]; omega), St.get_put_ne (fun e => by rw [e, hL] at hk; cases hk)]
              have hget : ∀ k o, ((s.put r .dead).alloc (.row 39 (y :: cells))).get k = some o → (k = s.next ∧ o = .row 39 (y :: cells)) ∨ (k = r ∧ o = .dead) ∨ (k ≠ r ∧ k < s.next ∧ s.get k = some o) := by
                intro k o hk
                rcases St.get_alloc hk with ⟨e1, e2⟩ | ⟨e1, hk⟩
                · exact .inl ⟨by rw [e1, hnd], e2⟩
                · rcases St.get_put hk with ⟨e3, e4⟩ | ⟨e3, hk⟩
                  · exact .inr (.inl ⟨e3, e4⟩)
                  · exact .inr (.inr ⟨e3, hs.dom k o hk, hk⟩)
              rcases hR with ⟨rfl, r1, r2', r3⟩ | ⟨hle, rfl, r1, r2', r3⟩
              · refine ⟨x', γ', rfl, (hst1.trans hst').same (by rw [hSn, r1]) hkeep, hsim'.same (by rw [hSn, r1]) (fun k o hk => ?_), hv'⟩
                rcases hget k o hk with ⟨rfl, rfl⟩ | ⟨rfl, rfl⟩ | ⟨h1, h2, h3⟩
                · exact .inr r3
                · exact .inl ⟨rfl, by omega⟩
                · exact .inr (by rw [r2' k h2, p2 k h1]; exact h3)
              · have hL' := hst'.le.loc r L hL
                obtain ⟨c', d1, d2, d3, d4, d5, d6, d7⟩ := hsim'.rowA r3 hL'
                have hsn : s'.next = s.next := r1
                obtain ⟨hst2, hsim2⟩ := hsim'.move (w' := w') (o := .row 39 (y :: cells)) r3 hL' rfl (fun _ _ => rfl) rfl rfl rfl rfl (by
                  refine ⟨c', d1, d2, d3, d4, by simp at d5 ⊢; omega, fun i u hi => ?_, d7⟩
                  have hil := (List.getElem?_eq_some_iff.1 hi).1
                  obtain ⟨u', f1, f2, f3⟩ := d6 i u (by rw [List.getElem?_append_left hil]; exact hi)
                  exact ⟨u', f1, f2.mono (ext_le (hsim'.nx _ (Nat.le_refl _))), f3⟩)
                rw [hsn] at hst2 hsim2
                have hn2 : ((s'.put r .dead).alloc (.row 39 (y :: cells))).next = s.next + 1 := by rw [St.next_alloc, St.next_put, hsn]
                refine ⟨x', _, rfl, ((hst1.trans hst').trans hst2).same (by rw [hSn, hn2]) hkeep, hsim2.same (by rw [hSn, hn2]) (fun k o hk => ?_), ?_⟩
                · rcases hget k o hk with ⟨rfl, rfl⟩ | ⟨rfl, rfl⟩ | ⟨h1, h2, h3⟩
                  · refine .inr ?_
                    have := St.get_alloc_same (s := s'.put r .dead) (o := .row 39 (y :: cells)) (by rw [St.next_put, hsn]; omega)
                    rw [St.next_put, hsn] at this; exact this
                  · exact .inl ⟨rfl, by omega⟩
                  · refine .inr ?_
                    rw [St.get_alloc_ne (by rw [St.next_put, hsn]; omega), St.get_put_ne h1, r2' k h1, p2 k h1]; exact h3
                · obtain ⟨L2, cc2, hL2, hx2, hck⟩ := slV hv'
                  rw [hL'] at hL2; cases hL2
                  have := hck cc rfl
                  subst this
                  rw [hx2]
                  exact .slu s.next 0 (n + 1) cc2 L (ext_same _ _ _) hle hccm (fun _ => hcs rfl)
      · cases h
    · cases h
  · cases h
end Go.AM

set_option linter.unusedVariables false
set_option maxRecDepth 100000
namespace Go.AM
attribute [local irreducible] W
open X
section
variable {t : AT} {s : St} {k : AV → St → Prop} {x y : AO}
theorem EPrim.slcG {es r o n c l h : Nat} {lo hi : Option AO} (hx : ev x t = .some (.sl r o n (some c))) (hlo : optNat t lo 0 = .n l) (hhi : optNat t hi n = .n h) (h1 : l ≤ h) (h2 : h ≤ c) (hk : k (.sl r (Bool.rec (o + l * es) o (Nat.beq c l)) (h - l) (some (c - l))) s) : EPrim (.slc es x lo hi none) t s k := by
  refine EPrim.mk (fun e rec => ?_) hk
  show wth x t _ = _; unfold wth; rw [hx]
  show (NR.rec .fail _ (optNat t lo 0) : RV) = _; rw [hlo]
  show (NR.rec .fail _ (optNat t hi n) : RV) = _; rw [hhi]
  show gd (Nat.ble l h && Nat.ble h c) _ = _
  rw [Nat.ble_eq_true_of_le h1, Nat.ble_eq_true_of_le h2]; rfl
theorem EPrim.slcG3 {es r o n c l h m : Nat} {lo hi : Option AO} {mx : AO} (hx : ev x t = .some (.sl r o n (some c))) (hlo : optNat t lo 0 = .n l) (hhi : optNat t hi n = .n h) (hmx : natO (ev mx t) = .n m) (h1 : l ≤ h) (h2 : h ≤ m) (h3 : m ≤ c) (hk : k (.sl r (Bool.rec (o + l * es) o (Nat.beq m l)) (h - l) (some (m - l))) s) : EPrim (.slc es x lo hi (some mx)) t s k := by
  refine EPrim.mk (fun e rec => ?_) hk
  show wth x t _ = _; unfold wth; rw [hx]
  show (NR.rec .fail _ (optNat t lo 0) : RV) = _; rw [hlo]
  show (NR.rec .fail _ (optNat t hi n) : RV) = _; rw [hhi]
  show (NR.rec .fail _ (natO (ev mx t)) : RV) = _; rw [hmx]
  show gd (Nat.ble l h && Nat.ble h m && Nat.ble m c) _ = _
  rw [Nat.ble_eq_true_of_le h1, Nat.ble_eq_true_of_le h2, Nat.ble_eq_true_of_le h3]; rfl
theorem EPrim.appNone {el es r o n : Nat} {c : Option Nat} {v : AV} (hx : ev x t = .some (.sl r o n c)) (hy : ev y t = .some v) (hv : srcOf es v s = some []) (hk : k (.sl r o n c) s) : EPrim (.app el es x y) t s k := by
  refine EPrim.mk (fun e rec => ?_) hk
  show wth x t _ = _; unfold wth; rw [hx]
  show wth y t _ = _; unfold wth; rw [hy]
  show (Option.rec .fail _ (srcOf es v s) : RV) = _
  rw [hv]; rfl
theorem EPrim.clrP {z : List AV} {r o n : Nat} {c : Option Nat} {s' : St} (hx : ev x t = .some (.sl r o n c)) (hs : storeAt r o (rep z n) s = some s') (hk : k (.tup []) s') : EPrim (.clr z x) t s k := by
  refine EPrim.mk (fun e rec => ?_) hk
  show wth x t _ = _; unfold wth; rw [hx]
  show retS (.tup []) (storeAt r o (rep z n) s) = _; rw [hs]; rfl
end
def code287 : AC := match a287 with | .mk c _ => c
def zHead : List AV := [.int .i64 0, .nils, .nils, .int .u8 0, .bool false, .int .u32 0]
theorem del_run (e : Env) (r cc : Nat) (s : St) (cells : List AV) (K : AV → St → Prop) (hr : s.get r = some (.row 69 cells)) (hcl : cells.length = 6) (hcc : 1 ≤ cc) (hb : r < 1000000000)
    (k1 : ∀ s', s'.next = s.next → (∀ i, i ≠ r → s'.get i = s.get i) → s'.get r = some (.row 69 zHead) → K (.sl r 0 0 (some cc)) s') :
    VE e code287 (initT [.sl r 0 1 (some cc), .int .i64 (Int.ofNat 0), .int .i64 (Int.ofNat 1)] 0 .lf) s none [] (EEnd [.tmp 6] K) := by
  conv => whnf
  refine EPrim.lenP rfl ?_
  conv => whnf
  refine EPrim.slcG3 (l := 0) (h := 1) (m := 1) rfl rfl rfl rfl (by omega) (by omega) hcc ?_
  conv => whnf
  refine EPrim.eqlN (b := 1) rfl rfl (fun h => by cases h) (fun _ => ?_)
  conv => whnf
  refine EPrim.lenP rfl ?_
  conv => whnf
  refine EPrim.slcG (l := 0) (h := 0) rfl rfl rfl (by omega) (by omega) ?_
  conv => whnf
  refine EPrim.slcG (l := 1) (h := 1) rfl rfl rfl (by omega) hcc ?_
  conv => whnf
  have hz : Nat.beq cc 0 = false := by rw [← Bool.not_eq_true]; intro e; have := Nat.eq_of_beq_eq_true e; omega
  refine EPrim.appNone rfl rfl ?_ ?_
  · show load r _ ((1 - 1) * 6) s = _
    unfold load; rw [rowAt_of hr]; rfl
  conv => whnf
  refine EPrim.lenP rfl ?_
  conv => whnf
  refine EPrim.slcG (l := 0) (h := 1) rfl rfl rfl (by omega) (by omega) ?_
  conv => whnf
  refine EPrim.clrP (s' := s.put r (.row 69 zHead)) rfl ?_ ?_
  · have ho : ∀ (a b : Nat) (q : Bool), q = false ∨ a = b → (Bool.rec (motive := fun _ => Nat) a b q) = a := by
      rintro a b q (rfl | rfl)
      · rfl
      · cases q <;> rfl
    have e1 : (Bool.rec (motive := fun _ => Nat) (0 + 0 * 6) 0 (Nat.beq cc 0) : Nat) = 0 := by rw [hz]
    have e2 : (Bool.rec (motive := fun _ => Nat) ((Bool.rec (motive := fun _ => Nat) (0 + 0 * 6) 0 (Nat.beq cc 0) : Nat) + 0 * 6) (Bool.rec (motive := fun _ => Nat) (0 + 0 * 6) 0 (Nat.beq cc 0)) (Nat.beq (cc - 0) 0) : Nat) = 0 := by rw [Nat.sub_zero, hz]
    show storeAt r _ (rep zHead (1 - 0)) s = _
    rw [e2, store_of hr (by rw [hcl]; exact Nat.le_refl 6)]
    have : (rep zHead (1 - 0)) = zHead := rfl
    rw [this, List.take_zero, List.nil_append, show (0 + zHead.length) = cells.length by rw [hcl]; rfl, List.drop_length, List.append_nil]
  conv => whnf
  have hv : (Bool.rec (motive := fun _ => Nat) (0 + 0 * 6) 0 (Nat.beq cc 0) : Nat) = 0 := by rw [hz]
  have hfin := k1 (s.put r (.row 69 zHead)) (St.next_put _ _ _) (fun i hi => St.get_put_ne hi) (St.get_put_same hb)
  show K (.sl r (Bool.rec (motive := fun _ => Nat) (0 + 0 * 6) 0 (Nat.beq cc 0)) (0 - 0) (some (cc - 0))) _
  rw [hv]; exact hfin
noncomputable def delO (args : List AV) (s : St) : RV := match args with
  | [.sl r 0 1 none, .int .i64 (.ofNat 0), .int .i64 (.ofNat 1)] =>
    (match rowAt r s with
      | .row el cells => gd (Nat.beq el 69 && Nat.beq (lenL cells) 6 && Nat.blt s.next 1000000000) (.ok (.sl s.next 0 0 none) ((s.put r .dead).alloc (.row 69 [])))
      | .no => .fail)
  | _ => .fail
theorem delO_ok {P : Program} {e : Env} {fn : Func} (hE : EnvOk P e) (hm : P.follows .mixedOrders = true) (hO : e.O.get 287 = none) (hG : e.G.get 287 = some a287) (hb : HasBody P 287) (hsz : szOf P 69 = some 6) : OvOk P 287 delO := by
  refine ⟨hb, fun args s v s' h => ?_⟩
  unfold delO at h
  split at h
  · rename_i r
    split at h
    · rename_i el cells hrow
      obtain ⟨hc, h⟩ := gd_ok h
      obtain ⟨rfl, rfl⟩ := ok_inj h
      simp only [Bool.and_eq_true, Nat.blt_eq] at hc
      obtain ⟨⟨q1, q2⟩, q6⟩ := hc
      have q1 := Nat.eq_of_beq_eq_true q1
      subst q1
      have q2 := Nat.eq_of_beq_eq_true q2
      rw [lenL_eq] at q2
      have hg := rowAt_some hrow
      intro γ vals w m hA hs
      cases hA with
      | @cons _ v1 _ vs1 a1 hA => cases hA with
        | @cons _ v2 _ vs2 a2 hA => cases hA with
          | @cons _ v3 _ vs3 a3 hA =>
            cases hA
            obtain ⟨L, cc, hL, hv1, hncc, hccm, hcs⟩ := sluV a1
            have hrN := hs.dom r _ hg
            have hA1 : All2 (VR γ) [.sl r 0 1 (some cc), .int .i64 (.ofNat 0), .int .i64 (.ofNat 1)] [v1, v2, v3] := .cons (by rw [hv1]; exact .sl r 0 1 cc L hL hncc) (.cons a2 (.cons a3 .nil))
            have hrun := del_run e r cc s cells
              (fun v s' => v = .sl r 0 0 (some cc) ∧ s'.next = s.next ∧ (∀ i, i ≠ r → s'.get i = s.get i) ∧ s'.get r = some (.row 69 zHead))
              hg q2 hncc (by omega) (fun s' h1 h2 h3 => ⟨rfl, h1, h2, h3⟩)
            obtain ⟨nn, v', s', hcall, hR⟩ := (ECall.inl (vs := [.sl r 0 1 (some cc), .int .i64 (.ofNat 0), .int .i64 (.ofNat 1)]) hO hG hrun).elim
            refine CallsIn.mono ((callA_sound (exec_good hE hm nn) hE hA1 hs hcall).2 m) ?_
            rintro ee w' ⟨x', γ', rfl, hst', hsim', hv'⟩
            obtain ⟨rfl, r1, r2', r3⟩ := hR
            refine ⟨_, _, ⟨rfl, rfl⟩, ?_⟩
            have hnd : (s.put r .dead).next = s.next := St.next_put _ _ _
            have hSn : ((s.put r .dead).alloc (.row 69 [])).next = s.next + 1 := by rw [St.next_alloc, hnd]
            have hkeep : ∀ k, γ k = none → k < s.next → ((s.put r .dead).alloc (.row 69 [])).get k = s.get k := fun k hk hlt => by
              rw [St.get_alloc_ne (by rw [hnd]; omega), St.get_put_ne (fun e => by rw [e, hL] at hk; cases hk)]
            have hget : ∀ k o, ((s.put r .dead).alloc (.row 69 [])).get k = some o → (k = s.next ∧ o = .row 69 []) ∨ (k = r ∧ o = .dead) ∨ (k ≠ r ∧ k < s.next ∧ s.get k = some o) := by
              intro k o hk
              rcases St.get_alloc hk with ⟨e1, e2⟩ | ⟨e1, hk⟩
              · exact .inl ⟨by rw [e1, hnd], e2⟩
              · rcases St.get_put hk with ⟨e3, e4⟩ | ⟨e3, hk⟩
                · exact .inr (.inl ⟨e3, e4⟩)
                · exact .inr (.inr ⟨e3, hs.dom k o hk, hk⟩)
            have hL' := hst'.le.loc r L hL
            obtain ⟨c', d1, d2, d3, d4, d5, d6, d7⟩ := hsim'.rowA r3 hL'
            have hsn : s'.next = s.next := r1
            obtain ⟨hst2, hsim2⟩ := hsim'.move (w' := w') (o := .row 69 []) r3 hL' rfl (fun _ _ => rfl) rfl rfl rfl rfl (by
              exact ⟨c', d1, d2, d3, d4, by simp, fun i u hi => by simp at hi, d7⟩)
            rw [hsn] at hst2 hsim2
            have hn2 : ((s'.put r .dead).alloc (.row 69 [])).next = s.next + 1 := by rw [St.next_alloc, St.next_put, hsn]
            refine ⟨x', _, rfl, (hst'.trans hst2).same (by rw [hSn, hn2]) hkeep, hsim2.same (by rw [hSn, hn2]) (fun k o hk => ?_), ?_⟩
            · rcases hget k o hk with ⟨rfl, rfl⟩ | ⟨rfl, rfl⟩ | ⟨h1, h2, h3⟩
              · refine .inr ?_
                have := St.get_alloc_same (s := s'.put r .dead) (o := .row 69 []) (by rw [St.next_put, hsn]; omega)
                rw [St.next_put, hsn] at this; exact this
              · exact .inl ⟨rfl, by omega⟩
              · refine .inr ?_
                rw [St.get_alloc_ne (by rw [St.next_put, hsn]; omega), St.get_put_ne h1, r2' k h1]; exact h3
            · obtain ⟨L2, cc2, hL2, hx2, hck⟩ := slV hv'
              rw [hL'] at hL2; cases hL2
              have := hck cc rfl
              subst this
              rw [hx2]
              exact .slu s.next 0 0 cc2 L (ext_same _ _ _) (Nat.zero_le _) hccm (fun _ => hcs rfl)
    · cases h
  · cases h
end Go.AM

set_option linter.unusedVariables false
set_option maxRecDepth 100000
namespace Go.AM
attribute [local irreducible] W
open X
theorem stuckB {b : Bool} {y z : Prop} (h : b = true) (hy : y) : (Bool.rec (motive := fun _ => Prop) z y b) := by rw [h]; exact hy
section
variable {t : AT} {s : St} {k : AV → St → Prop} {x y : AO}
theorem EPrim.copyS {es r o m n : Nat} {c : Option Nat} {l : List AV} {v : AV} {s1 : St} (hx : ev x t = .some (.sl r o m c)) (hy : ev y t = .some v) (hv : Sl es n l v) (hn : n ≤ m) (hst : storeAt r o l s = some s1) (hk : ∀ s', (s' = s ∧ l = []) ∨ s' = s1 → k (.int .i64 (Int.ofNat n)) s') : EPrim (.copy es x y) t s k := by
  rcases hv with ⟨rfl, rfl, h0⟩ | ⟨rfl, rfl, h0⟩ | ⟨c', rfl, hl⟩
  · refine EPrim.mk (v := .int .i64 (Int.ofNat 0)) (s' := s) (fun e rec => ?_) (hk s (.inl ⟨rfl, h0⟩))
    show wth x t _ = _; unfold wth; rw [hx]
    show wth y t _ = _; unfold wth; rw [hy]
    rfl
  · refine EPrim.mk (v := .int .i64 (Int.ofNat 0)) (s' := s) (fun e rec => ?_) (hk s (.inl ⟨rfl, h0⟩))
    show wth x t _ = _; unfold wth; rw [hx]
    show wth y t _ = _; unfold wth; rw [hy]
    rfl
  · refine EPrim.mk (v := .int .i64 (Int.ofNat n)) (s' := s1) (fun e rec => ?_) (hk s1 (.inr rfl))
    show wth x t _ = _; unfold wth; rw [hx]
    show wth y t _ = _; unfold wth; rw [hy]
    show (Option.rec .fail (fun cs => retS (intN (Nat.min n m)) (storeAt r o cs s)) (takeL (Nat.mul (Nat.min n m) es) l) : RV) = _
    have hmin : Nat.min n m = n := by show min n m = n; omega
    rw [hmin]
    have ht : takeL (Nat.mul n es) l = some l := by
      have := takeL_of (l := l) (n := n * es) (by omega)
      rw [List.take_of_length_le (by omega)] at this
      exact this
    rw [ht]
    show retS _ (storeAt r o l s) = _
    rw [hst]; rfl
theorem EPrim.neqN {q : IntKind} {a b : Nat} (hx : ev x t = .some (.int q (Int.ofNat a))) (hy : ev y t = .some (.int q (Int.ofNat b))) (h1 : a ≠ b → k (.bool true) s) (h2 : a = b → k (.bool false) s) : EPrim (.bin .neq x y) t s k :=
  EPrim.neq2 hx hy (fun h => h1 (fun e => h (by rw [e]))) (fun h => h2 (Int.ofNat.inj h))
end
def code151 : AC := match a151 with | .mk c _ => c
def pad (bs : List Nat) : List Nat := if bs = [] then List.replicate 128 0 else bs
def z128 : List AV := bys (List.replicate 128 0)
theorem load_full {s : St} {r e n : Nat} {cs : List AV} (h : s.get r = some (.row e cs)) (hl : cs.length = n) : load r 0 n s = some cs := by
  rw [load_of h (by omega), List.drop_zero, List.take_of_length_le (by omega)]
theorem store_full {s : St} {r e : Nat} {cs old : List AV} (h : s.get r = some (.row e old)) (hl : cs.length = old.length) : storeAt r 0 cs s = some (s.put r (.row e cs)) := by
  rw [store_of h (by omega), List.take_zero, List.nil_append, List.drop_eq_nil_of_le (by omega), List.append_nil]
theorem res_cells {t : AT} {s : St} {i n r : Nat} {cs vs : List AV} {l : List ARes} (ht : t.get i = some (.ptr r 0)) (hl : load r 0 n s = some cs) (h : resA t s l = some vs) : resA t s (.cells i n :: l) = some (.agg cs :: vs) := by
  show (Option.rec none (fun v => Option.rec none (fun vs => some (v :: vs)) (resA t s l)) (Option.rec none (fun v => PR.rec none (fun r o => Option.rec none (fun cs => some (.agg cs)) (load r o n s)) (fun _ => none) (asPtr v)) (t.get i)) : Option (List AV)) = _
  rw [ht, h]
  show (Option.rec none (fun v => some (v :: vs)) (Option.rec none (fun cs => some (.agg cs)) (load r 0 n s)) : Option (List AV)) = _
  rw [hl]
theorem whole_run (e : Env) (s : St) (v : AV) (bs : List Nat) (hv : Sl 1 bs.length (bys bs) v) (hN : s.next < 1000000000) (K : AV → St → Prop)
    (k1 : bs.length ≠ 0 → bs.length ≠ 128 → ∀ s', s'.next = s.next + 1 → (∀ i, i < s.next → s'.get i = s.get i) → K (.tup [.agg (bys (List.replicate 128 0)), .int .i64 3]) s')
    (k2 : (pad bs).length = 128 → ∀ s', s'.next = s.next + 1 → (∀ i, i < s.next → s'.get i = s.get i) → K (.tup [.agg (bys (pad bs)), .int .i64 0]) s') :
    VE e code151 (initT [v] 0 .lf) s none [] (EEnd [.cells 2 128, .tmp 3] K) := by
  obtain ⟨s1, hs1⟩ : ∃ s1, s.alloc (.row 148 z128) = s1 := ⟨_, rfl⟩
  have g1 : s1.get s.next = some (.row 148 z128) := by rw [← hs1]; exact St.get_alloc_same hN
  have g2 : ∀ i, i < s.next → s1.get i = s.get i := fun i hi => by rw [← hs1]; exact St.get_alloc_ne (by omega)
  have g3 : s1.next = s.next + 1 := by rw [← hs1]; exact St.next_alloc _ _
  have hz : (z128).length = 128 := by simp [z128, bys_length]
  conv => whnf
  refine EPrim.lenS rfl hv ?_
  conv => whnf
  have main : bs.length = 0 ∨ bs.length = 128 → (pad bs).length = 128 := by
    intro h
    unfold pad
    split
    · simp
    · rename_i hne
      rcases h with h | h
      · exact absurd (List.length_eq_zero_iff.1 h) hne
      · exact h
  have hcopy : bs.length = 0 ∨ bs.length = 128 → ∃ sc, storeAt s.next 0 (bys bs) s1 = some sc ∧ ∀ s', (s' = s1 ∧ bys bs = []) ∨ s' = sc → s'.next = s.next + 1 ∧ (∀ i, i < s.next → s'.get i = s.get i) ∧ s'.get s.next = some (.row 148 (bys (pad bs))) := by
    intro h
    refine ⟨_, store_of g1 (by rw [bys_length, hz]; omega), ?_⟩
    rintro s' (⟨rfl, h0⟩ | rfl)
    · refine ⟨g3, g2, ?_⟩
      have : bs = [] := List.map_eq_nil_iff.1 h0
      rw [g1]; unfold pad; rw [if_pos this]; rfl
    · refine ⟨by rw [St.next_put]; exact g3, fun i hi => by rw [St.get_put_ne (by omega)]; exact g2 i hi, ?_⟩
      rw [St.get_put_same (by omega)]
      rcases h with h | h
      · have : bs = [] := List.length_eq_zero_iff.1 h
        subst this; simp [bys, pad, z128]
      · have hne : bs ≠ [] := fun e => by subst e; cases h
        unfold pad; rw [if_neg hne, List.take_zero, List.nil_append, List.drop_eq_nil_of_le (by rw [bys_length, hz]; omega), List.append_nil]
  refine EPrim.neqN (b := 0) rfl rfl (fun h => ?_) (fun h => ?_)
  · conv => whnf
    refine EPrim.lenS rfl hv ?_
    conv => whnf
    refine EPrim.neqN (b := 128) rfl rfl (fun h' => ?_) (fun h' => ?_)
    · conv => whnf
      refine stuckO z128 (by show load s.next 0 128 (s.alloc (.row 148 z128)) = _; rw [hs1]; exact load_full g1 hz) ?_
      conv => whnf
      refine stuckO (s1.put s.next (.row 148 z128)) (by show storeAt s.next 0 z128 (s.alloc (.row 148 z128)) = _; rw [hs1]; exact store_full g1 rfl) ?_
      obtain ⟨s2, hs2⟩ : ∃ s2, s1.put s.next (.row 148 z128) = s2 := ⟨_, rfl⟩
      have g4 : s2.get s.next = some (.row 148 z128) := by rw [← hs2, St.get_put_same (by omega)]
      have g5 : ∀ i, i < s.next → s2.get i = s.get i := fun i hi => by rw [← hs2, St.get_put_ne (by omega)]; exact g2 i hi
      have g6 : s2.next = s.next + 1 := by rw [← hs2, St.next_put]; exact g3
      rw [hs2]
      conv => whnf
      refine stuckO _ (res_cells rfl (load_full g4 hz) rfl) ?_
      exact k1 h h' s2 g6 g5
    · have hn : bs.length = 0 ∨ bs.length = 128 := .inr h'
      conv => whnf
      refine EPrim.mk (v := .sl s.next 0 128 (some 128)) (s' := s.alloc (.row 148 z128)) (fun e rec => rfl) ?_
      conv => whnf
      obtain ⟨sc, hsc, hall⟩ := hcopy hn
      refine EPrim.copyS (s1 := sc) rfl rfl hv (by omega) (by show storeAt s.next 0 (bys bs) (s.alloc (.row 148 z128)) = _; rw [hs1]; exact hsc) (fun s2 hs2 => ?_)
      have hs2' : (s2 = s1 ∧ bys bs = []) ∨ s2 = sc := by rw [← hs1]; exact hs2
      obtain ⟨a1, a2, a3⟩ := hall s2 hs2'
      have hp := main hn
      conv => whnf
      refine stuckO (bys (pad bs)) (load_full a3 (by rw [bys_length]; exact hp)) ?_
      conv => whnf
      refine stuckB (by show Nat.beq (lenL (bys (pad bs))) 128 = true; rw [lenL_eq, bys_length, hp]; rfl) ?_
      conv => whnf
      refine stuckO (s2.put s.next (.row 148 (bys (pad bs)))) (store_full a3 rfl) ?_
      obtain ⟨s3, hs3⟩ : ∃ s3, s2.put s.next (.row 148 (bys (pad bs))) = s3 := ⟨_, rfl⟩
      have g4 : s3.get s.next = some (.row 148 (bys (pad bs))) := by rw [← hs3, St.get_put_same (by omega)]
      have g5 : ∀ i, i < s.next → s3.get i = s.get i := fun i hi => by rw [← hs3, St.get_put_ne (by omega)]; exact a2 i hi
      have g6 : s3.next = s.next + 1 := by rw [← hs3, St.next_put]; exact a1
      rw [hs3]
      conv => whnf
      refine stuckO _ (res_cells rfl (load_full g4 (by rw [bys_length]; exact hp)) rfl) ?_
      exact k2 hp s3 g6 g5
  · have hn : bs.length = 0 ∨ bs.length = 128 := .inl h
    conv => whnf
    refine EPrim.mk (v := .sl s.next 0 128 (some 128)) (s' := s.alloc (.row 148 z128)) (fun e rec => rfl) ?_
    conv => whnf
    obtain ⟨sc, hsc, hall⟩ := hcopy hn
    refine EPrim.copyS (s1 := sc) rfl rfl hv (by omega) (by show storeAt s.next 0 (bys bs) (s.alloc (.row 148 z128)) = _; rw [hs1]; exact hsc) (fun s2 hs2 => ?_)
    have hs2' : (s2 = s1 ∧ bys bs = []) ∨ s2 = sc := by rw [← hs1]; exact hs2
    obtain ⟨a1, a2, a3⟩ := hall s2 hs2'
    have hp := main hn
    conv => whnf
    refine stuckO (bys (pad bs)) (load_full a3 (by rw [bys_length]; exact hp)) ?_
    conv => whnf
    refine stuckB (by show Nat.beq (lenL (bys (pad bs))) 128 = true; rw [lenL_eq, bys_length, hp]; rfl) ?_
    conv => whnf
    refine stuckO (s2.put s.next (.row 148 (bys (pad bs)))) (store_full a3 rfl) ?_
    obtain ⟨s3, hs3⟩ : ∃ s3, s2.put s.next (.row 148 (bys (pad bs))) = s3 := ⟨_, rfl⟩
    have g4 : s3.get s.next = some (.row 148 (bys (pad bs))) := by rw [← hs3, St.get_put_same (by omega)]
    have g5 : ∀ i, i < s.next → s3.get i = s.get i := fun i hi => by rw [← hs3, St.get_put_ne (by omega)]; exact a2 i hi
    have g6 : s3.next = s.next + 1 := by rw [← hs3, St.next_put]; exact a1
    rw [hs3]
    conv => whnf
    refine stuckO _ (res_cells rfl (load_full g4 (by rw [bys_length]; exact hp)) rfl) ?_
    exact k2 hp s3 g6 g5
def code152 : AC := match a152 with | .mk c _ => c
def fitsB (a z : Int) : Bool := decide (1 ≤ z ∧ z ≤ 4 ∧ 0 ≤ a ∧ a ≤ 128 - z)
theorem fits_run (e : Env) (s : St) (a z : Int) (K : AV → St → Prop) (h : K (.bool (fitsB a z)) s) : VE e code152 (initT [.int .i64 a, .int .i64 z] 0 .lf) s none [] (EEnd [.tmp 4] K) := by
  unfold fitsB at h
  conv => whnf
  refine EPrim.geq2 rfl rfl (fun h1 => ?_) (fun h1 => ?_)
  · conv => whnf
    refine EPrim.leq2 rfl rfl (fun h2 => ?_) (fun h2 => ?_)
    · conv => whnf
      refine EPrim.geq2 rfl rfl (fun h3 => ?_) (fun h3 => ?_)
      · conv => whnf
        refine EPrim.subS rfl rfl (by omega) ?_
        conv => whnf
        refine EPrim.leq2 rfl rfl (fun h4 => ?_) (fun h4 => ?_)
        · conv => whnf
          rw [decide_eq_true ⟨h1, h2, h3, h4⟩] at h; exact h
        · conv => whnf
          rw [decide_eq_false (by omega)] at h; exact h
      · conv => whnf
        rw [decide_eq_false (by omega)] at h; exact h
    · conv => whnf
      rw [decide_eq_false (by omega)] at h; exact h
  · conv => whnf
    rw [decide_eq_false (by omega)] at h; exact h
section
variable {t : AT} {s : St} {k : AV → St → Prop} {x y : AO}
theorem EPrim.cviI64 {q : IntKind} {a : Nat} (hx : ev x t = .some (.int q (Int.ofNat a))) (ha : a < 9223372036854775808) (hk : k (.int .i64 (Int.ofNat a)) s) : EPrim (.cvi .i64 x) t s k := by
  refine EPrim.mk (v := .int .i64 (Int.ofNat a)) (s' := s) (fun e rec => ?_) hk
  show wth x t _ = _; unfold wth; rw [hx]
  show RV.ok (.int .i64 (wrapQ .i64 (Int.ofNat a))) s = _
  rw [wrapQ_eq, i64_in (by have : Int.ofNat a = (a : Int) := rfl; omega)]
theorem EPrim.shlN {a n : Nat} {r : IntKind} (hx : ev x t = .some (.int .i64 (Int.ofNat a))) (hy : ev y t = .some (.int r (Int.ofNat n))) (hn : n ≤ 64) (h : a * 2 ^ n < 9223372036854775808) (hk : k (.int .i64 (Int.ofNat (a * 2 ^ n))) s) : EPrim (.bin .shl x y) t s k := by
  refine bin_of hx hy (v := .int .i64 (Int.ofNat (a * 2 ^ n))) ?_ hk
  show OV.some (.int .i64 (wrapQ .i64 (mulI (Int.ofNat a) (.ofNat (2 ^ (Nat.min n 64)))))) = _
  rw [show Nat.min n 64 = n from Nat.min_eq_left hn, wrapQ_eq, mulI_eq]
  have e1 : Int.ofNat a * Int.ofNat (2 ^ n) = Int.ofNat (a * 2 ^ n) := rfl
  rw [e1, i64_in (by have : Int.ofNat (a * 2 ^ n) = ((a * 2 ^ n : Nat) : Int) := rfl; omega)]
theorem EPrim.orN {a b : Nat} (hx : ev x t = .some (.int .i64 (Int.ofNat a))) (hy : ev y t = .some (.int .i64 (Int.ofNat b))) (ha : a < 9223372036854775808) (hb : b < 9223372036854775808) (hk : k (.int .i64 (Int.ofNat (a ||| b))) s) : EPrim (.bin .or x y) t s k := by
  refine bin_of hx hy (v := .int .i64 (Int.ofNat (a ||| b))) ?_ hk
  show OV.some (.int .i64 (IntKind.i64.wrap (((BitVec.or (BitVec.ofInt 64 (a : Int)) (BitVec.ofInt 64 (b : Int))).toNat : Nat) : Int))) = _
  have e1 : (BitVec.or (BitVec.ofInt 64 (a : Int)) (BitVec.ofInt 64 (b : Int))).toNat = a ||| b := by
    show (BitVec.ofInt 64 (a : Int) ||| BitVec.ofInt 64 (b : Int)).toNat = _
    rw [BitVec.toNat_or, BitVec.ofInt_natCast, BitVec.ofInt_natCast, BitVec.toNat_ofNat, BitVec.toNat_ofNat, Nat.mod_eq_of_lt (by omega), Nat.mod_eq_of_lt (by omega)]
  have hlt : a ||| b < 2 ^ 63 := Nat.or_lt_two_pow (by omega) (by omega)
  rw [e1, i64_in (by omega)]; rfl
end
def code270 : AC := match a270 with | .mk c _ => c
def num (bs : List Nat) (a : Nat) : Nat → Nat
  | 0 => 0
  | n + 1 => num bs a n ||| bs.getD (a + n) 0 * 2 ^ (8 * n)
theorem take_run (P : Program) (e : Env) (hE : EnvOk P e) (hm : P.follows .mixedOrders = true) (h130 : Inl e 151 code151 [.cells 2 128, .tmp 3]) (h131 : Inl e 152 code152 [.tmp 4]) (v : AV) (bs : List Nat) (hv : Sl 1 bs.length (bys bs) v) (hb : ∀ b ∈ bs, b < 256) (a z : Int) (Q : AV → St → Prop)
    (k1 : bs.length ≠ 0 → bs.length ≠ 128 → ∀ s, Q (.tup [.int .i64 0, .int .i64 3]) s)
    (k2 : (pad bs).length = 128 → fitsB a z = false → ∀ s, Q (.tup [.int .i64 0, .int .i64 2]) s)
    (k3 : (pad bs).length = 128 → fitsB a z = true → ∀ s, Q (.tup [.int .i64 (Int.ofNat (num (pad bs) a.toNat z.toNat)), .int .i64 0]) s) :
    VW P e 0 code270 (initT [v, .int .i64 a, .int .i64 z] 0 .lf) St0 none [] (EEnd [.tmp 6, .tmp 7] Q) := by
  have hpad : ∀ b ∈ pad bs, b < 256 := by
    unfold pad
    split
    · intro b hb'; rw [List.eq_of_mem_replicate hb']; decide
    · exact hb
  conv => whnf
  refine ESc.inl h130 (whole_run e _ v bs hv (by decide) _ (fun h1 h2 s' n1 n2 => ?_) (fun h1 s' n1 n2 => ?_))
  · have hn1 : s'.next = 1 := n1
    conv => whnf
    refine stuckO _ (store_full (e := 148) (old := z128) (St.get_alloc_same (by omega)) rfl) ?_
    conv => whnf
    refine EPrim.neqN (a := 3) (b := 0) rfl rfl (fun _ => ?_) (fun h => by cases h)
    conv => whnf
    exact k1 h1 h2 _
  · have hn1 : s'.next = 1 := n1
    have hbl : (bys (pad bs)).length = 128 := by rw [bys_length]; exact h1
    obtain ⟨s1, hs1⟩ : ∃ s1, s'.alloc (.row 148 z128) = s1 := ⟨_, rfl⟩
    have g1 : s1.get s'.next = some (.row 148 z128) := by rw [← hs1]; exact St.get_alloc_same (by omega)
    conv => whnf
    refine stuckB (by show Nat.beq (lenL (bys (pad bs))) 128 = true; rw [lenL_eq, hbl]; rfl) ?_
    conv => whnf
    refine stuckO (s1.put s'.next (.row 148 (bys (pad bs)))) (by show storeAt s'.next 0 (bys (pad bs)) (s'.alloc (.row 148 z128)) = _; rw [hs1]; exact store_full g1 (by rw [hbl]; rfl)) ?_
    obtain ⟨s2, hs2⟩ : ∃ s2, s1.put s'.next (.row 148 (bys (pad bs))) = s2 := ⟨_, rfl⟩
    have g4 : s2.get s'.next = some (.row 148 (bys (pad bs))) := by rw [← hs2, St.get_put_same (by omega)]
    rw [hs2]
    conv => whnf
    refine EPrim.neqN (a := 0) (b := 0) rfl rfl (fun h => absurd rfl h) (fun _ => ?_)
    conv => whnf
    refine ESc.inl h131 (fits_run e _ a z _ ?_)
    cases hf : fitsB a z with
    | false =>
      conv => whnf
      refine EPrim.notF rfl ?_
      conv => whnf
      exact k2 h1 hf _
    | true =>
      conv => whnf
      refine EPrim.notT rfl ?_
      conv => whnf
      have hfz := of_decide_eq_true hf
      obtain ⟨A, rfl⟩ : ∃ A : Nat, a = Int.ofNat A := ⟨a.toNat, by show a = (a.toNat : Int); omega⟩
      obtain ⟨Z, rfl⟩ : ∃ Z : Nat, z = Int.ofNat Z := ⟨z.toNat, by show z = (z.toNat : Int); omega⟩
      have eA : Int.ofNat A = (A : Int) := rfl
      have eZ : Int.ofNat Z = (Z : Int) := rfl
      refine W.loopS (α := Nat) (fun i => [(1, .int .i64 (Int.ofNat A)), (6, .int .i64 (Int.ofNat (num (pad bs) A i))), (8, .ptr 0 0), (22, .int .i64 (Int.ofNat Z)), (23, .int .i64 (Int.ofNat i))]) (fun _ => [.row 148 (bys (pad bs))]) (fun i => Z - i)
        (fun i => i ≤ Z) 0 [s'.next] (Nat.zero_le _) ⟨by simp, ⟨⟨rfl, rfl⟩, ⟨rfl, rfl⟩, ⟨rfl, rfl⟩, ⟨rfl, rfl⟩, ⟨rfl, rfl⟩, trivial⟩, ⟨⟨?_, ?_⟩, trivial⟩⟩ ?_
      · exact hfs_bds _ (scs_hfs_bys _)
      · rw [g4]; show _ = some (AObj.row 148 (mapVs _ (bys (pad bs)))); rw [hfs_mapVs _ (scs_hfs_bys _)]
      intro i hi
      have hnum : ∀ j, j ≤ 4 → num (pad bs) A j < 2 ^ (8 * j) := by
        intro j
        induction j with
        | zero => intro _; exact Nat.zero_lt_one
        | succ j ih =>
          intro hj
          have hlt : (pad bs).getD (A + j) 0 < 256 := by
            rw [List.getD_eq_getElem?_getD]
            cases hq : (pad bs)[A + j]? with
            | none => decide
            | some q => exact hpad q (List.mem_of_getElem? hq)
          have e8 : 8 * (j + 1) = 8 * j + 8 := by omega
          refine Nat.or_lt_two_pow (Nat.lt_of_lt_of_le (ih (by omega)) (Nat.pow_le_pow_right (by decide) (by omega))) ?_
          rw [e8, Nat.pow_add, Nat.mul_comm]
          exact Nat.mul_lt_mul_of_pos_left hlt (Nat.two_pow_pos _)
      refine vw_sound hE hm ?_
      conv => whnf
      refine EPrim.lssN rfl rfl (fun h => ?_) (fun h => ?_)
      · have hAi : A + i < (pad bs).length := by omega
        have hbi : (pad bs)[A + i] < 256 := hpad _ (List.getElem_mem hAi)
        have hp8 : (pad bs)[A + i] * 2 ^ (8 * i) < 2 ^ 32 := by
          have : 2 ^ (8 * i) ≤ 2 ^ 24 := Nat.pow_le_pow_right (by decide) (by omega)
          calc _ < 256 * 2 ^ (8 * i) := Nat.mul_lt_mul_of_pos_right hbi (Nat.two_pow_pos _)
            _ ≤ 256 * 2 ^ 24 := Nat.mul_le_mul_left _ this
            _ = 2 ^ 32 := by decide
        have hni : num (pad bs) A i < 2 ^ 32 := Nat.lt_of_lt_of_le (hnum i (by omega)) (Nat.pow_le_pow_right (by decide) (by omega))
        conv => whnf
        refine EPrim.addN rfl rfl (by omega) ?_
        conv => whnf
        refine EPrim.ixaP rfl rfl (by omega) ?_
        conv => whnf
        refine stuckO (.int .u8 (Int.ofNat (pad bs)[A + i])) (by
          rw [Nat.zero_add, Nat.mul_one]
          show getL (bys (pad bs)) (A + i) = _
          rw [getL_eq]; simp [bys, byV, hAi]) ?_
        conv => whnf
        refine EPrim.cviI64 rfl (by omega) ?_
        conv => whnf
        refine EPrim.mulS rfl rfl (by have : Int.ofNat i = (i : Int) := rfl; omega) ?_
        conv => whnf
        refine EPrim.shlN (n := 8 * i) rfl rfl (by omega) (by omega) ?_
        conv => whnf
        refine EPrim.orN rfl rfl (by omega) (by omega) ?_
        conv => whnf
        refine EPrim.incN rfl rfl rfl (by omega) ?_
        conv => whnf
        refine ⟨rfl, i + 1, by omega, by omega, [0], ⟨by decide, ⟨⟨rfl, rfl⟩, ⟨rfl, ?_⟩, ⟨rfl, rfl⟩, ⟨rfl, rfl⟩, ⟨rfl, rfl⟩, trivial⟩, ⟨⟨hfs_bds _ (scs_hfs_bys _), ?_⟩, trivial⟩⟩⟩
        · show _ = some (AV.int .i64 (Int.ofNat (num (pad bs) A i ||| (pad bs).getD (A + i) 0 * 2 ^ (8 * i))))
          rw [List.getD_eq_getElem?_getD, List.getElem?_eq_getElem hAi]
          rfl
        · show _ = some (AObj.row 148 (mapVs _ (bys (pad bs)))); rw [hfs_mapVs _ (scs_hfs_bys _)]; rfl
      · conv => whnf
        have : i = Z := by omega
        subst this
        exact k3 h1 hf _
theorem pad_len {bs : List Nat} (h : (pad bs).length = 128) : ¬ (bs.length ≠ 0 ∧ bs.length ≠ 128) := by
  unfold pad at h
  split at h
  · rename_i e; subst e; simp
  · rintro ⟨_, h2⟩; exact h2 h
def takeV (bs : List Nat) (a z : Int) : AV :=
  if bs.length ≠ 0 ∧ bs.length ≠ 128 then .tup [.int .i64 0, .int .i64 3] else if fitsB a z = true then .tup [.int .i64 (Int.ofNat (num (pad bs) a.toNat z.toNat)), .int .i64 0] else .tup [.int .i64 0, .int .i64 2]
theorem sc_takeV (bs : List Nat) (a z : Int) : sc (takeV bs a z) = true := by
  unfold takeV
  split
  · rfl
  · split <;> rfl
noncomputable def takeO (args : List AV) (s : St) : RV := match args with
  | [v, .int .i64 a, .int .i64 z] => Option.rec .fail (fun bs => .ok (takeV bs a z) s) (bytesAt s v)
  | _ => .fail
theorem takeO_ok {P : Program} {e : Env} {fn : Func} (hE : EnvOk P e) (hm : P.follows .mixedOrders = true) (h130 : Inl e 151 code151 [.cells 2 128, .tmp 3]) (h131 : Inl e 152 code152 [.tmp 4]) (hf : P.funcs[270]? = some fn) (hc : compF P fn = some a270) (hb : HasBody P 270) : OvOk P 270 takeO := by
  refine ⟨hb, fun args s v s' h => ?_⟩
  unfold takeO at h
  split at h
  · rename_i u a z
    obtain ⟨bs, hbs, h⟩ := opt_ok h
    obtain ⟨rfl, rfl⟩ := ok_inj h
    obtain ⟨v2, hF, hSl, hlt⟩ := bytesAt_view hbs
    have hfs2 : hfs [v2, .int .i64 a, .int .i64 z] = true := by simp [hfs, hSl.hf]; exact ⟨rfl, rfl⟩
    refine C.view (args2 := [v2, .int .i64 a, .int .i64 z]) (.cons hF (.cons (.plain _ rfl) (.cons (.plain _ rfl) .nil))) (sc_takeV bs a z) (C.freeze hfs2 ?_)
    refine C.of_V hE hm hf hc (take_run P e hE hm h130 h131 v2 bs hSl hlt a z _ (fun h1 h2 s => ?_) (fun h0 h1 s => ?_) (fun h0 h1 s => ?_))
    · have e1 : takeV bs a z = .tup [.int .i64 0, .int .i64 3] := by unfold takeV; rw [if_pos ⟨h1, h2⟩]
      rw [e1]; exact .plain _ rfl
    · have e1 : takeV bs a z = .tup [.int .i64 0, .int .i64 2] := by unfold takeV; rw [if_neg (pad_len h0), if_neg (by rw [h1]; simp)]
      rw [e1]; exact .plain _ rfl
    · have e1 : takeV bs a z = .tup [.int .i64 (Int.ofNat (num (pad bs) a.toNat z.toNat)), .int .i64 0] := by unfold takeV; rw [if_neg (pad_len h0), if_pos h1]
      rw [e1]; exact .plain _ rfl
  · cases h
end Go.AM

set_option linter.unusedVariables false
set_option maxRecDepth 100000
namespace Go.AM
attribute [local irreducible] W
open X
section
variable {t : AT} {s : St} {k : AV → St → Prop} {x y : AO}
theorem EPrim.cviU8 {q : IntKind} {a : Nat} (hx : ev x t = .some (.int q (Int.ofNat a))) (hk : k (.int .u8 (Int.ofNat (a % 256))) s) : EPrim (.cvi .u8 x) t s k := by
  refine EPrim.mk (v := .int .u8 (Int.ofNat (a % 256))) (s' := s) (fun e rec => ?_) hk
  show wth x t _ = _; unfold wth; rw [hx]
  rfl
end
def code103 : AC := match a103 with | .mk c _ => c
def putN (bs : List Nat) (a n : Nat) : Nat → List Nat
  | 0 => bs
  | i + 1 => (putN bs a n i).set (a + i) (n / 2 ^ (8 * i) % 256)
theorem putN_length (bs : List Nat) (a n : Nat) : ∀ i, (putN bs a n i).length = bs.length
  | 0 => rfl
  | i + 1 => by rw [putN, List.length_set, putN_length bs a n i]
theorem bys_set (bs : List Nat) (i b : Nat) : bys (bs.set i b) = (bys bs).set i (.int .u8 (Int.ofNat b)) := by simp [bys, List.map_set, byV]
def putOk (a z n : Int) : Bool := fitsB a z && decide (0 ≤ n ∧ n.toNat / 2 ^ (8 * z.toNat) = 0)
theorem put_run (P : Program) (e : Env) (hE : EnvOk P e) (hm : P.follows .mixedOrders = true) (h130 : Inl e 151 code151 [.cells 2 128, .tmp 3]) (h131 : Inl e 152 code152 [.tmp 4]) (v : AV) (bs : List Nat) (hv : Sl 1 bs.length (bys bs) v) (a z n : Int) (Q : AV → St → Prop)
    (k1 : bs.length ≠ 0 → bs.length ≠ 128 → ∀ s, Q (.tup [.nils, .int .i64 3]) s)
    (k2 : (pad bs).length = 128 → putOk a z n = false → ∀ s, Q (.tup [.nils, .int .i64 2]) s)
    (k3 : (pad bs).length = 128 → putOk a z n = true → ∀ s r, s.get r = some (.row 148 (bys (putN (pad bs) a.toNat n.toNat z.toNat))) → Q (.tup [.sl r 0 128 (some 128), .int .i64 0]) s) :
    VW P e 0 code103 (initT [v, .int .i64 a, .int .i64 z, .int .i64 n] 0 .lf) St0 none [] (EEnd [.tmp 8, .tmp 9] Q) := by
  conv => whnf
  refine ESc.inl h130 (whole_run e _ v bs hv (by decide) _ (fun h1 h2 s' n1 n2 => ?_) (fun h1 s' n1 n2 => ?_))
  · have hn1 : s'.next = 1 := n1
    conv => whnf
    refine stuckO _ (store_full (e := 148) (old := z128) (St.get_alloc_same (by omega)) rfl) ?_
    conv => whnf
    refine EPrim.neqN (a := 3) (b := 0) rfl rfl (fun _ => ?_) (fun h => by cases h)
    conv => whnf
    exact k1 h1 h2 _
  · have hn1 : s'.next = 1 := n1
    have hbl : (bys (pad bs)).length = 128 := by rw [bys_length]; exact h1
    obtain ⟨s1, hs1⟩ : ∃ s1, s'.alloc (.row 148 z128) = s1 := ⟨_, rfl⟩
    have g1 : s1.get s'.next = some (.row 148 z128) := by rw [← hs1]; exact St.get_alloc_same (by omega)
    conv => whnf
    refine stuckB (by show Nat.beq (lenL (bys (pad bs))) 128 = true; rw [lenL_eq, hbl]; rfl) ?_
    conv => whnf
    refine stuckO (s1.put s'.next (.row 148 (bys (pad bs)))) (by show storeAt s'.next 0 (bys (pad bs)) (s'.alloc (.row 148 z128)) = _; rw [hs1]; exact store_full g1 (by rw [hbl]; rfl)) ?_
    obtain ⟨s2, hs2⟩ : ∃ s2, s1.put s'.next (.row 148 (bys (pad bs))) = s2 := ⟨_, rfl⟩
    have g4 : s2.get s'.next = some (.row 148 (bys (pad bs))) := by rw [← hs2, St.get_put_same (by omega)]
    rw [hs2]
    conv => whnf
    refine EPrim.neqN (a := 0) (b := 0) rfl rfl (fun h => absurd rfl h) (fun _ => ?_)
    conv => whnf
    refine ESc.inl h131 (fits_run e _ a z _ ?_)
    cases hf : fitsB a z with
    | false =>
      conv => whnf
      refine EPrim.notF rfl ?_
      conv => whnf
      exact k2 h1 (by unfold putOk; rw [hf]; rfl) _
    | true =>
      conv => whnf
      refine EPrim.notT rfl ?_
      conv => whnf
      have hfz := of_decide_eq_true hf
      obtain ⟨A, rfl⟩ : ∃ A : Nat, a = Int.ofNat A := ⟨a.toNat, by show a = (a.toNat : Int); omega⟩
      obtain ⟨Z, rfl⟩ : ∃ Z : Nat, z = Int.ofNat Z := ⟨z.toNat, by show z = (z.toNat : Int); omega⟩
      have eA : Int.ofNat A = (A : Int) := rfl
      have eZ : Int.ofNat Z = (Z : Int) := rfl
      refine EPrim.lss2 rfl rfl (fun hneg => ?_) (fun hneg => ?_)
      · conv => whnf
        exact k2 h1 (by unfold putOk; rw [decide_eq_false (by omega)]; simp) _
      · obtain ⟨M, rfl⟩ : ∃ M : Nat, n = Int.ofNat M := ⟨n.toNat, by show n = (n.toNat : Int); omega⟩
        conv => whnf
        refine EPrim.mulS rfl rfl (by omega) ?_
        conv => whnf
        refine EPrim.shrN (n := 8 * Z) rfl rfl (by show 8 * Z ≤ 64; omega) ?_
        conv => whnf
        refine EPrim.neqN (b := 0) rfl rfl (fun h => ?_) (fun h => ?_)
        · conv => whnf
          exact k2 h1 (by unfold putOk; rw [decide_eq_false (fun hh => h hh.2)]; simp) _
        · conv => whnf
          have hok : putOk (Int.ofNat A) (Int.ofNat Z) (Int.ofNat M) = true := by
            unfold putOk; rw [hf, decide_eq_true ⟨hneg, h⟩]; rfl
          refine W.loopS (α := Nat) (fun i => [(1, .int .i64 (Int.ofNat A)), (3, .int .i64 (Int.ofNat M)), (10, .ptr 0 0), (36, .int .i64 (Int.ofNat Z)), (37, .int .i64 (Int.ofNat i))]) (fun i => [.row 148 (bys (putN (pad bs) A M i))]) (fun i => Z - i)
            (fun i => i ≤ Z) 0 [s'.next] (Nat.zero_le _) ⟨by simp, ⟨⟨rfl, rfl⟩, ⟨rfl, rfl⟩, ⟨rfl, rfl⟩, ⟨rfl, rfl⟩, ⟨rfl, rfl⟩, trivial⟩, ⟨⟨?_, ?_⟩, trivial⟩⟩ ?_
          · exact hfs_bds _ (scs_hfs_bys _)
          · rw [g4]; show _ = some (AObj.row 148 (mapVs _ (bys (pad bs)))); rw [hfs_mapVs _ (scs_hfs_bys _)]
          intro i hi
          have hlen : (bys (putN (pad bs) A M i)).length = 128 := by rw [bys_length, putN_length]; exact h1
          refine vw_sound hE hm ?_
          conv => whnf
          refine EPrim.lssN rfl rfl (fun h => ?_) (fun h => ?_)
          · conv => whnf
            refine EPrim.addN rfl rfl (by omega) ?_
            conv => whnf
            refine EPrim.mulS rfl rfl (by have : Int.ofNat i = (i : Int) := rfl; omega) ?_
            conv => whnf
            refine EPrim.shrN (n := 8 * i) rfl rfl (by show 8 * i ≤ 64; omega) ?_
            conv => whnf
            refine EPrim.cviU8 rfl ?_
            conv => whnf
            refine EPrim.ixaP rfl rfl (by omega) ?_
            conv => whnf
            refine stuckO ((allocs St0 [.row 148 (bys (putN (pad bs) A M i))]).put 0 (.row 148 (bys (putN (pad bs) A M (i + 1))))) (by
              rw [Nat.zero_add, Nat.mul_one]
              show storeAt 0 (A + i) [AV.int .u8 (Int.ofNat (M / 2 ^ (8 * i) % 256))] (allocs St0 [.row 148 (bys (putN (pad bs) A M i))]) = _
              rw [store_of (e := 148) (cs := bys (putN (pad bs) A M i)) rfl (by rw [hlen]; simp; omega)]
              rw [putN, bys_set, List.set_eq_take_append_cons_drop, if_pos (by rw [hlen]; omega)]
              simp) ?_
            conv => whnf
            refine EPrim.incN rfl rfl rfl (by omega) ?_
            conv => whnf
            refine ⟨rfl, i + 1, by omega, by omega, [0], ⟨by decide, ⟨⟨rfl, rfl⟩, ⟨rfl, rfl⟩, ⟨rfl, rfl⟩, ⟨rfl, rfl⟩, ⟨rfl, rfl⟩, trivial⟩, ⟨⟨hfs_bds _ (scs_hfs_bys _), ?_⟩, trivial⟩⟩⟩
            show _ = some (AObj.row 148 (mapVs _ (bys (putN (pad bs) A M (i + 1))))); rw [hfs_mapVs _ (scs_hfs_bys _)]; rfl
          · have : i = Z := by omega
            subst this
            conv => whnf
            refine EPrim.mk (v := .sl 0 0 128 (some 128)) (s' := allocs St0 [.row 148 (bys (putN (pad bs) A M i))]) (fun e rec => rfl) ?_
            conv => whnf
            exact k3 h1 hok _ 0 rfl
theorem bytes0 {v : AV} {bs : List Nat} (h : bytesAt St0 v = some bs) : Sl 1 bs.length (bys bs) v ∧ ∀ b ∈ bs, b < 256 := by
  obtain ⟨v2, hF, hS, hb⟩ := bytesAt_view h
  refine ⟨?_, hb⟩
  cases hF with
  | plain _ _ => exact hS
  | sl r o n cap cap' e cs l us hg _ _ _ => cases hg
  | ptr r o e cs l us hg _ _ => cases hg
  | agg l us _ => rcases hS with ⟨h, _⟩ | ⟨h, _⟩ | ⟨c, h, _⟩ <;> cases h
  | tup l us _ => rcases hS with ⟨h, _⟩ | ⟨h, _⟩ | ⟨c, h, _⟩ <;> cases h
  | fn f xs ys us ws _ _ => rcases hS with ⟨h, _⟩ | ⟨h, _⟩ | ⟨c, h, _⟩ <;> cases h
def putV (bs : List Nat) (a z n : Int) : AV :=
  if bs.length ≠ 0 ∧ bs.length ≠ 128 then .tup [.nils, .int .i64 3] else if putOk a z n = true then .tup [.fz 128 (some 128) (bys (putN (pad bs) a.toNat n.toNat z.toNat)), .int .i64 0] else .tup [.nils, .int .i64 2]
theorem hf_putV (bs : List Nat) (a z n : Int) : hf (putV bs a z n) = true := by
  unfold putV
  split
  · rfl
  · split <;> rfl
noncomputable def putO (args : List AV) (s : St) : RV := match args with
  | [v, .int .i64 a, .int .i64 z, .int .i64 n] => Option.rec .fail (fun bs => .ok (putV bs a z n) s) (bytesAt St0 v)
  | _ => .fail
theorem putO_ok {P : Program} {e : Env} {fn : Func} (hE : EnvOk P e) (hm : P.follows .mixedOrders = true) (h130 : Inl e 151 code151 [.cells 2 128, .tmp 3]) (h131 : Inl e 152 code152 [.tmp 4]) (hf : P.funcs[103]? = some fn) (hc : compF P fn = some a103) (hb : HasBody P 103) : OvOk P 103 putO := by
  refine ⟨hb, fun args s v s' h => ?_⟩
  unfold putO at h
  split at h
  · rename_i u a z n
    obtain ⟨bs, hbs, h⟩ := opt_ok h
    obtain ⟨rfl, rfl⟩ := ok_inj h
    obtain ⟨hSl, hlt⟩ := bytes0 hbs
    have hfs2 : hfs [u, .int .i64 a, .int .i64 z, .int .i64 n] = true := by simp [hfs, hSl.hf]; exact ⟨rfl, rfl, rfl⟩
    refine C.pure hfs2 (hf_putV bs a z n) ?_ s
    refine C.of_V hE hm hf hc (put_run P e hE hm h130 h131 u bs hSl a z n _ (fun h1 h2 s => ?_) (fun h0 h1 s => ?_) (fun h0 h1 s r hr => ?_))
    · have e1 : putV bs a z n = .tup [.nils, .int .i64 3] := by unfold putV; rw [if_pos ⟨h1, h2⟩]
      rw [e1]; exact .plain _ rfl
    · have e1 : putV bs a z n = .tup [.nils, .int .i64 2] := by unfold putV; rw [if_neg (pad_len h0), if_neg (by rw [h1]; simp)]
      rw [e1]; exact .plain _ rfl
    · have e1 : putV bs a z n = .tup [.fz 128 (some 128) (bys (putN (pad bs) a.toNat n.toNat z.toNat)), .int .i64 0] := by unfold putV; rw [if_neg (pad_len h0), if_pos h1]
      rw [e1]
      exact .tup _ _ (.cons (.sl r 0 128 (some 128) (some 128) 148 _ _ _ hr (fun i x hx => by rw [Nat.zero_add]; exact hx) (frz_bys _) (.inr rfl)) (.cons (.plain _ rfl) .nil))
  · cases h
end Go.AM

set_option linter.unusedVariables false
set_option maxRecDepth 100000
namespace Go.AM
attribute [local irreducible] W
open X
def code109 : AC := match a109 with | .mk c _ => c
def putB (bs : List Nat) (a z n : Int) : AV := if bs.length ≠ 0 ∧ bs.length ≠ 128 then .nils else if putOk a z n = true then .fz 128 (some 128) (bys (putN (pad bs) a.toNat n.toNat z.toNat)) else .nils
def putE (bs : List Nat) (a z n : Int) : Int := if bs.length ≠ 0 ∧ bs.length ≠ 128 then 3 else if putOk a z n = true then 0 else 2
theorem putV_eq (bs : List Nat) (a z n : Int) : putV bs a z n = .tup [putB bs a z n, .int .i64 (putE bs a z n)] := by
  unfold putV putB putE
  split
  · rfl
  · split <;> rfl
theorem putB_cases (bs : List Nat) (a z n : Int) : putB bs a z n = .nils ∨ ∃ m c l, putB bs a z n = .fz m c l := by
  unfold putB
  split
  · exact .inl rfl
  · split
    · exact .inr ⟨_, _, _, rfl⟩
    · exact .inl rfl
theorem cput_run (P : Program) (e : Env) (hE : EnvOk P e) (hm : P.follows .mixedOrders = true) (h161 : Con e 103 putO) (v : AV) (bs : List Nat) (hv : bytesAt St0 v = some bs) (a z n : Int) (haz : -9223372036854775808 ≤ a + z ∧ a + z ≤ 9223372036854775807) (Q : AV → St → Prop)
    (k : ∀ s, Q (.agg [putB bs a z n, .int .i64 (a + z), .int .i64 (putE bs a z n)]) s) :
    VW P e 0 code109 (initT [.agg [v, .int .i64 a, .int .i64 0], .int .i64 n, .int .i64 z] 0 .lf) St0 none [] (EEnd [.cells 6 3] Q) := by
  conv => whnf
  refine EPrim.neqN (a := 0) (b := 0) rfl rfl (fun h => absurd rfl h) (fun _ => ?_)
  conv => whnf
  refine ESc.ov h161 (v := putV bs a z n) (s' := _) (by
    show (Option.rec .fail (fun bs => .ok (putV bs a z n) _) (bytesAt St0 v) : RV) = _
    rw [hv]) ?_
  rw [putV_eq]
  have hB := putB_cases bs a z n
  revert k
  generalize putB bs a z n = B at hB ⊢
  intro k
  rcases hB with rfl | ⟨m, c, l, rfl⟩
  · conv => whnf
    refine EPrim.addS rfl rfl haz ?_
    conv => whnf
    exact k _
  · conv => whnf
    refine EPrim.addS rfl rfl haz ?_
    conv => whnf
    exact k _
noncomputable def cputO (args : List AV) (s : St) : RV := match args with
  | [.agg [v, .int .i64 a, .int .i64 er], .int .i64 n, .int .i64 z] => if er = 0 ∧ (-9223372036854775808 ≤ a + z ∧ a + z ≤ 9223372036854775807) then
      Option.rec .fail (fun bs => .ok (.agg [putB bs a z n, .int .i64 (a + z), .int .i64 (putE bs a z n)]) s) (bytesAt St0 v) else .fail
  | _ => .fail
theorem cputO_ok {P : Program} {e : Env} {fn : Func} (hE : EnvOk P e) (hm : P.follows .mixedOrders = true) (h161 : Con e 103 putO) (hf : P.funcs[109]? = some fn) (hc : compF P fn = some a109) (hb : HasBody P 109) : OvOk P 109 cputO := by
  refine ⟨hb, fun args s v s' h => ?_⟩
  unfold cputO at h
  split at h
  · rename_i u a er n z
    split at h
    · rename_i hcnd
      obtain ⟨rfl, haz⟩ := hcnd
      obtain ⟨bs, hbs, h⟩ := opt_ok h
      obtain ⟨rfl, rfl⟩ := ok_inj h
      obtain ⟨hSl, hlt⟩ := bytes0 hbs
      have hfs2 : hfs [.agg [u, .int .i64 a, .int .i64 0], .int .i64 n, .int .i64 z] = true := by
        show (AM.hf (.agg [u, .int .i64 a, .int .i64 0]) && _) = true
        have : AM.hf (.agg [u, .int .i64 a, .int .i64 0]) = true := by show (AM.hf u && _) = true; rw [hSl.hf]; rfl
        rw [this]; rfl
      have hu : AM.hf (.agg [putB bs a z n, .int .i64 (a + z), .int .i64 (putE bs a z n)]) = true := by
        show (AM.hf (putB bs a z n) && _) = true
        rcases putB_cases bs a z n with h | ⟨m, c, l, h⟩ <;> rw [h] <;> rfl
      refine C.pure hfs2 hu ?_ s
      exact C.of_V hE hm hf hc (cput_run P e hE hm h161 u bs hbs a z n haz _ (fun s => .plain _ hu))
    · cases h
  · cases h
end Go.AM

set_option linter.unusedVariables false
set_option maxRecDepth 100000
namespace Go.AM
attribute [local irreducible] W
open X
section
variable {t : AT} {s : St} {k : AV → St → Prop} {x y : AO}
theorem EPrim.slcFz {es n l h : Nat} {c : Option Nat} {cs : List AV} {lo hi : Option AO} (hx : ev x t = .some (.fz n c cs)) (hlo : optNat t lo 0 = .n l) (hhi : optNat t hi n = .n h) (h1 : l ≤ h) (h2 : h ≤ n) (h3 : l < n) (hl : h * es ≤ cs.length)
    (hk : k (.fz (h - l) (Option.rec none (fun c => some (c - l)) c) ((cs.drop (l * es)).take ((h - l) * es))) s) : EPrim (.slc es x lo hi none) t s k := by
  refine EPrim.mk (fun e rec => ?_) hk
  show wth x t _ = _; unfold wth; rw [hx]
  show (NR.rec .fail _ (optNat t lo 0) : RV) = _; rw [hlo]
  show (NR.rec .fail _ (optNat t hi n) : RV) = _; rw [hhi]
  show gd (Nat.ble l h && Nat.ble h n) (Bool.rec (.ok .es s) (Option.rec .fail (fun cs' => .ok (.fz (h - l) (Option.rec none (fun c => some (c - l)) c) cs') s) (takeL (Nat.mul (h - l) es) (dropL (Nat.mul l es) cs))) (Nat.blt l n)) = _
  have ht : takeL (Nat.mul (h - l) es) (dropL (Nat.mul l es) cs) = some ((cs.drop (l * es)).take ((h - l) * es)) := by
    rw [dropL_eq]
    refine takeL_of ?_
    rw [List.length_drop]
    show (h - l) * es ≤ cs.length - l * es
    rw [Nat.sub_mul]; omega
  rw [Nat.ble_eq_true_of_le h1, Nat.ble_eq_true_of_le h2, show Nat.blt l n = true by simpa using h3, ht]; rfl
end
theorem bytesOf_of : ∀ {bs : List Nat}, (∀ b ∈ bs, b < 256) → bytesOf (bys bs) = some bs
  | [], _ => rfl
  | b :: bs, h => by
    show (Bool.rec none (Option.rec none (fun r => some (b :: r)) (bytesOf (bys bs))) (Nat.blt b 256) : Option (List Nat)) = _
    rw [bytesOf_of (fun x hx => h x (by simp [hx])), show Nat.blt b 256 = true by simpa using h b (by simp)]
theorem bytesAt_fz {s : St} {n : Nat} {c : Option Nat} {bs : List Nat} (hn : bs.length = n) (h : ∀ b ∈ bs, b < 256) : bytesAt s (.fz n c (bys bs)) = some bs := by
  show (Bool.rec none (bytesOf (bys bs)) (Nat.beq (lenL (bys bs)) n) : Option (List Nat)) = _
  rw [bytesOf_of h, lenL_eq, bys_length, hn, Nat.beq_refl]
theorem bys_take (bs : List Nat) (n : Nat) : (bys bs).take n = bys (bs.take n) := by simp [bys, List.map_take]
def code110 : AC := match a110 with | .mk c _ => c
def code104 : AC := match a104 with | .mk c _ => c
theorem crcGo_lt : ∀ {bs : List Nat} {s : Nat}, (∀ b ∈ bs, b < 256) → s < 4294967296 → crcGo bs s < 4294967296
  | [], s, _, h => h
  | b :: bs, s, hb, h => by
    show crcGo bs (crcStep s b) < _
    refine crcGo_lt (fun x hx => hb x (by simp [hx])) (half_lt (half_lt (Nat.xor_lt_two_pow (n := 32) h ?_)))
    have := hb b (by simp); omega
def sumN (bs : List Nat) : Nat := crcGo bs 4294967295 ^^^ 4294967295
theorem seal_run (P : Program) (e : Env) (hE : EnvOk P e) (hm : P.follows .mixedOrders = true) (h67 : Inl e 104 code104 [.tmp 2]) (h107 : Con e 153 overO) (h128 : Con e 109 cputO) (bs : List Nat) (hl : bs.length = 128) (hb : ∀ b ∈ bs, b < 256) (c : Option Nat) (a : Int) (Q : AV → St → Prop)
    (k : ∀ s, Q (.tup [putB bs 124 4 (Int.ofNat (sumN (bs.take 124))), .int .i64 (putE bs 124 4 (Int.ofNat (sumN (bs.take 124))))]) s) :
    VW P e 0 code110 (initT [.agg [.fz 128 c (bys bs), .int .i64 a, .int .i64 0]] 0 .lf) St0 none [] (EEnd [.tmp 2, .tmp 3] Q) := by
  conv => whnf
  refine EPrim.neqN (a := 0) (b := 0) rfl rfl (fun h => absurd rfl h) (fun _ => ?_)
  conv => whnf
  refine EPrim.slcFz (l := 0) (h := 124) rfl rfl rfl (by omega) (by omega) (by omega) (by rw [bys_length]; omega) ?_
  conv => whnf
  refine ESc.inl h67 ?_
  conv => whnf
  have htk : ∀ b ∈ bs.take 124, b < 256 := fun b hb' => hb b (List.mem_of_mem_take hb')
  have htl : (bs.take 124).length = 124 := by rw [List.length_take]; omega
  have hsum : sumN (bs.take 124) < 4294967296 := Nat.xor_lt_two_pow (n := 32) (crcGo_lt htk (by decide)) (by decide)
  refine ESc.ov h107 (v := .int .u32 (Int.ofNat (sumN (bs.take 124)))) (s' := _) (by
    show (Option.rec .fail (fun bs => gd (Nat.blt (lenL bs) 1000000) (.ok (.int .u32 (.ofNat (Nat.xor (crcGo bs (Nat.xor 0 4294967295)) 4294967295))) _)) (bytesAt _ (.fz 124 _ ((bys bs).take 124))) : RV) = _
    rw [bys_take, bytesAt_fz htl htk]
    show gd (Nat.blt (lenL (bs.take 124)) 1000000) _ = _
    rw [lenL_eq, htl]; rfl) ?_
  conv => whnf
  refine ⟨rfl, ?_⟩
  conv => whnf
  refine EPrim.cviI64 rfl (by omega) ?_
  conv => whnf
  refine ESc.ov h128 (v := .agg [putB bs 124 4 (Int.ofNat (sumN (bs.take 124))), .int .i64 (124 + 4), .int .i64 (putE bs 124 4 (Int.ofNat (sumN (bs.take 124))))]) (s' := _) (by
    show (if (0 : Int) = 0 ∧ (-9223372036854775808 ≤ (124 : Int) + 4 ∧ (124 : Int) + 4 ≤ 9223372036854775807) then (Option.rec .fail (fun bs => .ok (.agg [putB bs 124 4 (Int.ofNat (sumN _)), .int .i64 (124 + 4), .int .i64 (putE bs 124 4 _)]) _) (bytesAt St0 (.fz 128 c (bys bs))) : RV) else .fail) = _
    rw [if_pos (by decide), bytesAt_fz hl hb]) ?_
  conv => whnf
  exact k _
end Go.AM

set_option linter.unusedVariables false
set_option maxRecDepth 100000
namespace Go.AM
attribute [local irreducible] W
open X
theorem putB_ok {bs : List Nat} {a z n : Int} (h1 : ¬ (bs.length ≠ 0 ∧ bs.length ≠ 128)) (h2 : putOk a z n = true) : putB bs a z n = .fz 128 (some 128) (bys (putN (pad bs) a.toNat n.toNat z.toNat)) ∧ putE bs a z n = 0 := by
  unfold putB putE
  rw [if_neg h1, if_pos h2, if_neg h1, if_pos h2]; exact ⟨rfl, rfl⟩
noncomputable def sealO (args : List AV) (s : St) : RV := match args with
  | [.agg [.fz 128 c l, .int .i64 a, .int .i64 er]] => if er = 0 then Option.rec .fail (fun bs => if bs.length = 128 then .ok (.tup [putB bs 124 4 (Int.ofNat (sumN (bs.take 124))), .int .i64 (putE bs 124 4 (Int.ofNat (sumN (bs.take 124))))]) s else .fail) (bytesOf l) else .fail
  | _ => .fail
theorem sealO_ok {P : Program} {e : Env} {fn : Func} (hE : EnvOk P e) (hm : P.follows .mixedOrders = true) (h67 : Inl e 104 code104 [.tmp 2]) (h107 : Con e 153 overO) (h128 : Con e 109 cputO) (hf : P.funcs[110]? = some fn) (hc : compF P fn = some a110) (hb : HasBody P 110) : OvOk P 110 sealO := by
  refine ⟨hb, fun args s v s' h => ?_⟩
  unfold sealO at h
  split at h
  · rename_i c l a er
    split at h
    · rename_i hcnd
      subst hcnd
      obtain ⟨bs, hbs, h⟩ := opt_ok h
      split at h
      · rename_i hlen
        obtain ⟨rfl, rfl⟩ := ok_inj h
        obtain ⟨rfl, hlt⟩ := bytesOf_bys hbs
        have hu : AM.hf (.tup [putB bs 124 4 (Int.ofNat (sumN (bs.take 124))), .int .i64 (putE bs 124 4 (Int.ofNat (sumN (bs.take 124))))]) = true := by
          show (AM.hf (putB _ _ _ _) && _) = true
          rcases putB_cases bs 124 4 (Int.ofNat (sumN (bs.take 124))) with h | ⟨m, c, l, h⟩ <;> rw [h] <;> rfl
        refine C.pure rfl hu ?_ s
        exact C.of_V hE hm hf hc (seal_run P e hE hm h67 h107 h128 bs hlen hlt c a _ (fun s => .plain _ hu))
      · cases h
    · cases h
  · cases h
end Go.AM

set_option linter.unusedVariables false
set_option maxRecDepth 100000
namespace Go.AM
attribute [local irreducible] W
open X
def code155 : AC := match a155 with | .mk c _ => c
def code108 : AC := match a108 with | .mk c _ => c
def code59 : AC := match a59 with | .mk c _ => c
def numB (n : Int) : Bool := decide (1 ≤ n ∧ n ≤ 2147483648)
def supB (age seq tail : Int) : Bool := numB age && numB seq && decide (0 ≤ tail ∧ tail < 255)
theorem num_run (e : Env) (s : St) (n : Int) (h0 : 0 ≤ n ∧ n < 4294967296) (K : AV → St → Prop) (h : K (.bool (numB n)) s) : VE e code155 (initT [.int .u32 n] 0 .lf) s none [] (EEnd [.tmp 2] K) := by
  unfold numB at h
  conv => whnf
  repeat' (first | ((first | refine w1 rfl rfl ?_ ?_ | refine w2 rfl rfl ?_ ?_ | refine w3 rfl rfl ?_ ?_ | refine w4 rfl rfl ?_ ?_ | refine w5 rfl rfl ?_ ?_ | refine w6 rfl rfl ?_ ?_) <;> intro _ <;> first | (exfalso; omega) | (conv => whnf)) | ((first | refine w7 rfl rfl (by omega) ?_ | refine w8 rfl rfl (by omega) ?_ | refine w9 rfl rfl (by omega) ?_ | refine w10 rfl rfl ?_ | refine w11 rfl rfl ?_ | refine w12 rfl ?_ | refine w13 rfl ?_ | refine w14 (q' := .i64) rfl (i64_in (by omega)) ?_ | refine w14 (q' := .u32) rfl (u32_in (by omega)) ?_ | refine w14 (q' := .u8) rfl (u8_in (by omega)) ?_ | refine w15 rfl rfl ?_ | refine w16 rfl ?_ | refine w17 rfl ?_ | refine w18 rfl ?_ | refine ⟨rfl, ?_⟩); conv => whnf) | (refine w19 rfl ?_ ?_ <;> intro hc <;> (try subst hc) <;> conv => whnf))
  · rw [decide_eq_true (by omega)] at h; exact h
  · rw [decide_eq_false (by omega)] at h; exact h
structure Sup where
  id : Int
  age : Int
  seq : Int
  tail : Int
def Sup.ok (x : Sup) : Prop := (0 ≤ x.id ∧ x.id < 4294967296) ∧ (0 ≤ x.age ∧ x.age < 4294967296) ∧ (0 ≤ x.seq ∧ x.seq < 4294967296)
def Sup.v (x : Sup) : AV := .agg [.int .u32 x.id, .int .u32 x.age, .int .u32 x.seq, .int .i64 x.tail]
def Sup.b (x : Sup) : Bool := supB x.age x.seq x.tail
theorem Sup.inj {x y : Sup} (h : x.v = y.v) : x = y := by
  obtain ⟨a, b, c, d⟩ := x
  obtain ⟨a', b', c', d'⟩ := y
  simp [Sup.v] at h
  obtain ⟨rfl, rfl, rfl, rfl⟩ := h; rfl
def chkF : Fam Sup := ⟨Sup.ok, fun x => [x.v], fun x => .int .i64 (if x.b then 0 else 8), fun x y _ _ h => by rw [Sup.inj (List.cons.inj h).1]⟩
theorem chkF_ok {P : Program} {e : Env} {fn : Func} (hE : EnvOk P e) (hm : P.follows .mixedOrders = true) (h160 : Inl e 155 code155 [.tmp 2]) (hf : P.funcs[108]? = some fn) (hc : compF P fn = some a108) (hb : HasBody P 108) : OvOk P 108 chkF.O := by
  refine Fam.ok_of hb ?_
  rintro ⟨id, age, seq, tail⟩ ⟨hi, ha, hq⟩
  dsimp only at hi ha hq
  refine ⟨rfl, rfl, C.of_V hE hm hf hc ?_⟩
  have fin : ∀ s (b : Bool), b = supB age seq tail → Frz s (.int .i64 (if b then 0 else 8)) (chkF.out ⟨id, age, seq, tail⟩) := by
    rintro s b rfl; exact .plain _ rfl
  unfold supB at fin
  show VW P e 0 code108 (initT [AV.agg [.int .u32 id, .int .u32 age, .int .u32 seq, .int .i64 tail]] 0 .lf) St0 none [] _
  conv => whnf
  refine ESc.inl h160 (num_run e _ age ha _ ?_)
  cases h1 : numB age <;> rw [h1] at fin <;> conv => whnf
  · exact fin _ false rfl
  refine ESc.inl h160 (num_run e _ seq hq _ ?_)
  cases h2 : numB seq <;> rw [h2] at fin <;> conv => whnf
  · exact fin _ false rfl
  repeat' (first | ((first | refine w1 rfl rfl ?_ ?_ | refine w2 rfl rfl ?_ ?_ | refine w3 rfl rfl ?_ ?_ | refine w4 rfl rfl ?_ ?_ | refine w5 rfl rfl ?_ ?_ | refine w6 rfl rfl ?_ ?_) <;> intro _ <;> first | (exfalso; omega) | (conv => whnf)) | ((first | refine w7 rfl rfl (by omega) ?_ | refine w8 rfl rfl (by omega) ?_ | refine w9 rfl rfl (by omega) ?_ | refine w10 rfl rfl ?_ | refine w11 rfl rfl ?_ | refine w12 rfl ?_ | refine w13 rfl ?_ | refine w14 (q' := .i64) rfl (i64_in (by omega)) ?_ | refine w14 (q' := .u32) rfl (u32_in (by omega)) ?_ | refine w14 (q' := .u8) rfl (u8_in (by omega)) ?_ | refine w15 rfl rfl ?_ | refine w16 rfl ?_ | refine w17 rfl ?_ | refine w18 rfl ?_ | refine ⟨rfl, ?_⟩); conv => whnf) | (refine w19 rfl ?_ ?_ <;> intro hc <;> (try subst hc) <;> conv => whnf))
  · exact fin _ true (by rw [decide_eq_true (by omega)]; rfl)
  · exact fin _ false (by rw [decide_eq_false (by omega)]; rfl)
  · exact fin _ false (by rw [decide_eq_false (by omega)]; rfl)
theorem putOkN {a z : Int} {n : Nat} (h : fitsB a z = true) (h1 : n < 2 ^ (8 * z.toNat)) : putOk a z n = true := by
  unfold putOk
  rw [h, decide_eq_true]; rfl
  exact ⟨by omega, Nat.div_eq_of_lt h1⟩
theorem pad_of {bs : List Nat} (h : bs.length = 128) : pad bs = bs := by
  unfold pad; rw [if_neg]; intro e; subst e; cases h
theorem cput_ok {bs : List Nat} {a z n : Int} (hl : bs.length = 128) (h : putOk a z n = true) : putB bs a z n = .fz 128 (some 128) (bys (putN bs a.toNat n.toNat z.toNat)) ∧ putE bs a z n = 0 := by
  have := putB_ok (bs := bs) (a := a) (z := z) (n := n) (by omega) h
  rw [pad_of hl] at this; exact this
def supB5 (id age seq tail : Nat) : List Nat := putN (putN (putN (putN (putN (List.replicate 128 0) 0 83 1) 1 id 4) 5 age 4) 9 seq 4) 13 tail 1
def supBlk (id age seq tail : Nat) : List Nat := putN (supB5 id age seq tail) 124 (sumN ((supB5 id age seq tail).take 124)) 4
theorem putN_lt {bs : List Nat} {a n : Nat} (hb : ∀ b ∈ bs, b < 256) : ∀ i, ∀ b ∈ putN bs a n i, b < 256
  | 0 => hb
  | i + 1 => fun b h => by
    rcases List.mem_or_eq_of_mem_set h with h | rfl
    · exact putN_lt hb i b h
    · exact Nat.mod_lt _ (by decide)
theorem cputO_run {bs : List Nat} {a z n : Int} {s : St} {v : AV} (hv : bytesAt St0 v = some bs) (hl : bs.length = 128) (ha : 0 ≤ a ∧ a < 200 ∧ 0 ≤ z ∧ z < 10) (h : putOk a z n = true) :
    cputO [.agg [v, .int .i64 a, .int .i64 0], .int .i64 n, .int .i64 z] s = .ok (.agg [.fz 128 (some 128) (bys (putN bs a.toNat n.toNat z.toNat)), .int .i64 (a + z), .int .i64 0]) s := by
  show (if (0 : Int) = 0 ∧ (-9223372036854775808 ≤ a + z ∧ a + z ≤ 9223372036854775807) then (Option.rec .fail (fun bs => .ok (.agg [putB bs a z n, .int .i64 (a + z), .int .i64 (putE bs a z n)]) s) (bytesAt St0 v) : RV) else .fail) = _
  rw [if_pos ⟨rfl, by omega⟩, hv]
  obtain ⟨e1, e2⟩ := cput_ok hl h
  show RV.ok (.agg [putB bs a z n, .int .i64 (a + z), .int .i64 (putE bs a z n)]) s = _
  rw [e1, e2]
theorem cputO_run0 {n : Int} {s : St} (h : putOk 0 1 n = true) :
    cputO [.agg [.nils, .int .i64 0, .int .i64 0], .int .i64 n, .int .i64 1] s = .ok (.agg [.fz 128 (some 128) (bys (putN (List.replicate 128 0) 0 n.toNat 1)), .int .i64 1, .int .i64 0]) s := by
  show (if (0 : Int) = 0 ∧ (-9223372036854775808 ≤ (0 : Int) + 1 ∧ (0 : Int) + 1 ≤ 9223372036854775807) then (Option.rec .fail (fun bs => .ok (.agg [putB bs 0 1 n, .int .i64 (0 + 1), .int .i64 (putE bs 0 1 n)]) s) (bytesAt St0 .nils) : RV) else .fail) = _
  rw [if_pos (by decide)]
  show RV.ok (.agg [putB [] 0 1 n, .int .i64 (0 + 1), .int .i64 (putE [] 0 1 n)]) s = _
  obtain ⟨e1, e2⟩ := putB_ok (bs := []) (a := 0) (z := 1) (n := n) (by simp) h
  rw [e1, e2]; rfl
theorem sealO_run {bs : List Nat} {s : St} {c : Option Nat} {a : Int} (hl : bs.length = 128) (hb : ∀ b ∈ bs, b < 256) :
    sealO [.agg [.fz 128 c (bys bs), .int .i64 a, .int .i64 0]] s = .ok (.tup [.fz 128 (some 128) (bys (putN bs 124 (sumN (bs.take 124)) 4)), .int .i64 0]) s := by
  show (if (0 : Int) = 0 then (Option.rec .fail (fun bs => if bs.length = 128 then .ok (.tup [putB bs 124 4 (Int.ofNat (sumN (bs.take 124))), .int .i64 (putE bs 124 4 (Int.ofNat (sumN (bs.take 124))))]) s else .fail) (bytesOf (bys bs)) : RV) else .fail) = _
  rw [if_pos rfl, bytesOf_of hb]
  show (if bs.length = 128 then RV.ok (.tup [putB bs 124 4 (Int.ofNat (sumN (bs.take 124))), .int .i64 (putE bs 124 4 (Int.ofNat (sumN (bs.take 124))))]) s else .fail) = _
  rw [if_pos hl]
  have hs : sumN (bs.take 124) < 4294967296 := Nat.xor_lt_two_pow (n := 32) (crcGo_lt (fun b hb' => hb b (List.mem_of_mem_take hb')) (by decide)) (by decide)
  obtain ⟨e1, e2⟩ := cput_ok (a := 124) (z := 4) (n := Int.ofNat (sumN (bs.take 124))) hl (putOkN (by decide) hs)
  rw [e1, e2]; rfl
def wrF : Fam Sup := ⟨Sup.ok, fun x => [x.v], fun x => if x.b then .tup [.fz 128 (some 128) (bys (supBlk x.id.toNat x.age.toNat x.seq.toNat x.tail.toNat)), .int .i64 0] else .tup [.nils, .int .i64 8], fun x y _ _ h => by rw [Sup.inj (List.cons.inj h).1]⟩
theorem wrF_ok {P : Program} {e : Env} {fn : Func} (hE : EnvOk P e) (hm : P.follows .mixedOrders = true) (h127 : Con e 108 chkF.O) (h128 : Con e 109 cputO) (h129 : Con e 110 sealO) (hf : P.funcs[59]? = some fn) (hc : compF P fn = some a59) (hb : HasBody P 59) : OvOk P 59 wrF.O := by
  refine Fam.ok_of hb ?_
  rintro ⟨id, age, seq, tail⟩ ⟨hi, ha, hq⟩
  dsimp only at hi ha hq
  refine ⟨rfl, by unfold wrF; dsimp only; split <;> rfl, C.of_V hE hm hf hc ?_⟩
  cases hB : supB age seq tail
  · rw [show wrF.out ⟨id, age, seq, tail⟩ = .tup [.nils, .int .i64 8] by simp [wrF, Sup.b, hB]]
    conv => whnf
    refine ESc.fam chkF h127 ⟨id, age, seq, tail⟩ ⟨hi, ha, hq⟩ (u := .int .i64 8) (by simp [chkF, Sup.b, hB]) ?_
    conv => whnf
    repeat' (first | ((first | refine w1 rfl rfl ?_ ?_ | refine w2 rfl rfl ?_ ?_ | refine w3 rfl rfl ?_ ?_ | refine w4 rfl rfl ?_ ?_ | refine w5 rfl rfl ?_ ?_ | refine w6 rfl rfl ?_ ?_) <;> intro _ <;> first | (exfalso; omega) | (conv => whnf)) | ((first | refine w7 rfl rfl (by omega) ?_ | refine w8 rfl rfl (by omega) ?_ | refine w9 rfl rfl (by omega) ?_ | refine w10 rfl rfl ?_ | refine w11 rfl rfl ?_ | refine w12 rfl ?_ | refine w13 rfl ?_ | refine w14 (q' := .i64) rfl (i64_in (by omega)) ?_ | refine w14 (q' := .u32) rfl (u32_in (by omega)) ?_ | refine w14 (q' := .u8) rfl (u8_in (by omega)) ?_ | refine w15 rfl rfl ?_ | refine w16 rfl ?_ | refine w17 rfl ?_ | refine w18 rfl ?_ | refine ⟨rfl, ?_⟩); conv => whnf) | (refine w19 rfl ?_ ?_ <;> intro hc <;> (try subst hc) <;> conv => whnf))
    exact .plain _ rfl
  · rw [show wrF.out ⟨id, age, seq, tail⟩ = .tup [.fz 128 (some 128) (bys (supBlk id.toNat age.toNat seq.toNat tail.toNat)), .int .i64 0] by simp [wrF, Sup.b, hB]]
    have ht : 0 ≤ tail ∧ tail < 255 := by
      unfold supB at hB; simp at hB; omega
    obtain ⟨I, rfl⟩ : ∃ I : Nat, id = I := ⟨id.toNat, by omega⟩
    obtain ⟨A, rfl⟩ : ∃ I : Nat, age = I := ⟨age.toNat, by omega⟩
    obtain ⟨Q, rfl⟩ : ∃ I : Nat, seq = I := ⟨seq.toNat, by omega⟩
    obtain ⟨T, rfl⟩ : ∃ I : Nat, tail = I := ⟨tail.toNat, by omega⟩
    simp only [Int.toNat_natCast]
    have l0 : (List.replicate 128 0 : List Nat).length = 128 := by simp
    have b0 : ∀ b ∈ (List.replicate 128 0 : List Nat), b < 256 := fun b h => by rw [List.eq_of_mem_replicate h]; decide
    show VW P e 0 code59 (initT [AV.agg [.int .u32 (I : Int), .int .u32 (A : Int), .int .u32 (Q : Int), .int .i64 (T : Int)]] 0 .lf) St0 none [] _
    conv => whnf
    refine ESc.fam chkF h127 ⟨I, A, Q, T⟩ ⟨hi, ha, hq⟩ (u := .int .i64 0) (by simp [chkF, Sup.b, hB]) ?_
    conv => whnf
    repeat' (first | ((first | refine w1 rfl rfl ?_ ?_ | refine w2 rfl rfl ?_ ?_ | refine w3 rfl rfl ?_ ?_ | refine w4 rfl rfl ?_ ?_ | refine w5 rfl rfl ?_ ?_ | refine w6 rfl rfl ?_ ?_) <;> intro _ <;> first | (exfalso; omega) | (conv => whnf)) | ((first | refine w7 rfl rfl (by omega) ?_ | refine w8 rfl rfl (by omega) ?_ | refine w9 rfl rfl (by omega) ?_ | refine w10 rfl rfl ?_ | refine w11 rfl rfl ?_ | refine w12 rfl ?_ | refine w13 rfl ?_ | refine w14 (q' := .i64) rfl (i64_in (by omega)) ?_ | refine w14 (q' := .u32) rfl (u32_in (by omega)) ?_ | refine w14 (q' := .u8) rfl (u8_in (by omega)) ?_ | refine w15 rfl rfl ?_ | refine w16 rfl ?_ | refine w17 rfl ?_ | refine w18 rfl ?_ | refine ⟨rfl, ?_⟩); conv => whnf) | (refine w19 rfl ?_ ?_ <;> intro hc <;> (try subst hc) <;> conv => whnf))
    refine ESc.ov h128 (cputO_run0 (n := 83) (by decide)) ?_
    conv => whnf
    repeat' (first | ((first | refine w1 rfl rfl ?_ ?_ | refine w2 rfl rfl ?_ ?_ | refine w3 rfl rfl ?_ ?_ | refine w4 rfl rfl ?_ ?_ | refine w5 rfl rfl ?_ ?_ | refine w6 rfl rfl ?_ ?_) <;> intro _ <;> first | (exfalso; omega) | (conv => whnf)) | ((first | refine w7 rfl rfl (by omega) ?_ | refine w8 rfl rfl (by omega) ?_ | refine w9 rfl rfl (by omega) ?_ | refine w10 rfl rfl ?_ | refine w11 rfl rfl ?_ | refine w12 rfl ?_ | refine w13 rfl ?_ | refine w14 (q' := .i64) rfl (i64_in (by omega)) ?_ | refine w14 (q' := .u32) rfl (u32_in (by omega)) ?_ | refine w14 (q' := .u8) rfl (u8_in (by omega)) ?_ | refine w15 rfl rfl ?_ | refine w16 rfl ?_ | refine w17 rfl ?_ | refine w18 rfl ?_ | refine ⟨rfl, ?_⟩); conv => whnf) | (refine w19 rfl ?_ ?_ <;> intro hc <;> (try subst hc) <;> conv => whnf))
    refine ESc.ov h128 (cputO_run (bytesAt_fz (by rw [putN_length]; exact l0) (putN_lt b0 _)) (by rw [putN_length]; exact l0) (by decide) (putOkN (by decide) (by show I < 4294967296; omega))) ?_
    conv => whnf
    repeat' (first | ((first | refine w1 rfl rfl ?_ ?_ | refine w2 rfl rfl ?_ ?_ | refine w3 rfl rfl ?_ ?_ | refine w4 rfl rfl ?_ ?_ | refine w5 rfl rfl ?_ ?_ | refine w6 rfl rfl ?_ ?_) <;> intro _ <;> first | (exfalso; omega) | (conv => whnf)) | ((first | refine w7 rfl rfl (by omega) ?_ | refine w8 rfl rfl (by omega) ?_ | refine w9 rfl rfl (by omega) ?_ | refine w10 rfl rfl ?_ | refine w11 rfl rfl ?_ | refine w12 rfl ?_ | refine w13 rfl ?_ | refine w14 (q' := .i64) rfl (i64_in (by omega)) ?_ | refine w14 (q' := .u32) rfl (u32_in (by omega)) ?_ | refine w14 (q' := .u8) rfl (u8_in (by omega)) ?_ | refine w15 rfl rfl ?_ | refine w16 rfl ?_ | refine w17 rfl ?_ | refine w18 rfl ?_ | refine ⟨rfl, ?_⟩); conv => whnf) | (refine w19 rfl ?_ ?_ <;> intro hc <;> (try subst hc) <;> conv => whnf))
    refine ESc.ov h128 (cputO_run (bytesAt_fz (by simp only [putN_length]; exact l0) (putN_lt (putN_lt b0 _) _)) (by simp only [putN_length]; exact l0) (by decide) (putOkN (by decide) (by show A < 4294967296; omega))) ?_
    conv => whnf
    repeat' (first | ((first | refine w1 rfl rfl ?_ ?_ | refine w2 rfl rfl ?_ ?_ | refine w3 rfl rfl ?_ ?_ | refine w4 rfl rfl ?_ ?_ | refine w5 rfl rfl ?_ ?_ | refine w6 rfl rfl ?_ ?_) <;> intro _ <;> first | (exfalso; omega) | (conv => whnf)) | ((first | refine w7 rfl rfl (by omega) ?_ | refine w8 rfl rfl (by omega) ?_ | refine w9 rfl rfl (by omega) ?_ | refine w10 rfl rfl ?_ | refine w11 rfl rfl ?_ | refine w12 rfl ?_ | refine w13 rfl ?_ | refine w14 (q' := .i64) rfl (i64_in (by omega)) ?_ | refine w14 (q' := .u32) rfl (u32_in (by omega)) ?_ | refine w14 (q' := .u8) rfl (u8_in (by omega)) ?_ | refine w15 rfl rfl ?_ | refine w16 rfl ?_ | refine w17 rfl ?_ | refine w18 rfl ?_ | refine ⟨rfl, ?_⟩); conv => whnf) | (refine w19 rfl ?_ ?_ <;> intro hc <;> (try subst hc) <;> conv => whnf))
    refine ESc.ov h128 (cputO_run (bytesAt_fz (by simp only [putN_length]; exact l0) (putN_lt (putN_lt (putN_lt b0 _) _) _)) (by simp only [putN_length]; exact l0) (by decide) (putOkN (by decide) (by show Q < 4294967296; omega))) ?_
    conv => whnf
    repeat' (first | ((first | refine w1 rfl rfl ?_ ?_ | refine w2 rfl rfl ?_ ?_ | refine w3 rfl rfl ?_ ?_ | refine w4 rfl rfl ?_ ?_ | refine w5 rfl rfl ?_ ?_ | refine w6 rfl rfl ?_ ?_) <;> intro _ <;> first | (exfalso; omega) | (conv => whnf)) | ((first | refine w7 rfl rfl (by omega) ?_ | refine w8 rfl rfl (by omega) ?_ | refine w9 rfl rfl (by omega) ?_ | refine w10 rfl rfl ?_ | refine w11 rfl rfl ?_ | refine w12 rfl ?_ | refine w13 rfl ?_ | refine w14 (q' := .i64) rfl (i64_in (by omega)) ?_ | refine w14 (q' := .u32) rfl (u32_in (by omega)) ?_ | refine w14 (q' := .u8) rfl (u8_in (by omega)) ?_ | refine w15 rfl rfl ?_ | refine w16 rfl ?_ | refine w17 rfl ?_ | refine w18 rfl ?_ | refine ⟨rfl, ?_⟩); conv => whnf) | (refine w19 rfl ?_ ?_ <;> intro hc <;> (try subst hc) <;> conv => whnf))
    refine ESc.ov h128 (cputO_run (bytesAt_fz (by simp only [putN_length]; exact l0) (putN_lt (putN_lt (putN_lt (putN_lt b0 _) _) _) _)) (by simp only [putN_length]; exact l0) (by decide) (putOkN (by decide) (by show T < 256; omega))) ?_
    conv => whnf
    refine ESc.ov h129 (sealO_run (by simp only [putN_length]; exact l0) (putN_lt (putN_lt (putN_lt (putN_lt (putN_lt b0 _) _) _) _) _)) ?_
    conv => whnf
    exact .plain _ rfl
end Go.AM

set_option linter.unusedVariables false
set_option maxRecDepth 100000
namespace Go.AM
open X
theorem bytesAt_S {s : St} {v : AV} {bs : List Nat} (h : Sl 1 bs.length (bys bs) v) (hb : ∀ b ∈ bs, b < 256) : bytesAt s v = some bs := by
  rcases h with ⟨rfl, h0, _⟩ | ⟨rfl, h0, _⟩ | ⟨c, rfl, _⟩
  · rw [List.length_eq_zero_iff.1 h0]; rfl
  · rw [List.length_eq_zero_iff.1 h0]; rfl
  · exact bytesAt_fz rfl hb
theorem takeO_good {s : St} {v : AV} {bs : List Nat} {a z : Int} (h : bytesAt s v = some bs) (hl : ¬ (bs.length ≠ 0 ∧ bs.length ≠ 128)) (hf : fitsB a z = true) : takeO [v, .int .i64 a, .int .i64 z] s = .ok (.tup [.int .i64 (num (pad bs) a.toNat z.toNat : Nat), .int .i64 0]) s := by
  show (Option.rec .fail (fun bs => .ok (takeV bs a z) s) (bytesAt s v) : RV) = _
  rw [h]
  show RV.ok (takeV bs a z) s = _
  unfold takeV; rw [if_neg hl, if_pos hf]; rfl
theorem num_lt {bs : List Nat} {a : Nat} (hb : ∀ b ∈ bs, b < 256) : ∀ j, num bs a j < 2 ^ (8 * j)
  | 0 => Nat.zero_lt_one
  | j + 1 => by
    have hlt : bs.getD (a + j) 0 < 256 := by
      rw [List.getD_eq_getElem?_getD]
      cases hq : bs[a + j]? with
      | none => decide
      | some q => exact hb q (List.mem_of_getElem? hq)
    have e8 : 8 * (j + 1) = 8 * j + 8 := by omega
    refine Nat.or_lt_two_pow (Nat.lt_of_lt_of_le (num_lt hb j) (Nat.pow_le_pow_right (by decide) (by omega))) ?_
    rw [e8, Nat.pow_add, Nat.mul_comm]
    exact Nat.mul_lt_mul_of_pos_left hlt (Nat.two_pow_pos _)
theorem pad_lt {bs : List Nat} (hb : ∀ b ∈ bs, b < 256) : ∀ b ∈ pad bs, b < 256 := by
  unfold pad
  split
  · intro b hb'; rw [List.eq_of_mem_replicate hb']; decide
  · exact hb
end Go.AM

set_option linter.unusedVariables false
set_option maxRecDepth 100000
namespace Go.AM
attribute [local irreducible] W
open X
def rest41 : AC := match a235 with | .mk (.seq _ (.seq _ r)) _ => r | _ => .skip
def z4 : List AV := [.int .u32 0, .int .u32 0, .int .u32 0, .int .i64 0]
def pl : Nat → Int
  | 0 => 1
  | 1 => 5
  | _ => 9
def ent (i j : Nat) : AV × AV × Nat := (.ptr 0 i, .int .i64 (pl i), j)
def ents : List Nat → Nat → List (AV × AV × Nat)
  | [], _ => []
  | i :: L, n => ent i n :: ents L (n + 1)
theorem ents_append : ∀ (L : List Nat) (i n : Nat), ents (L ++ [i]) n = ents L n ++ [ent i (n + L.length)]
  | [], i, n => rfl
  | x :: L, i, n => by
    show ent x n :: ents (L ++ [i]) (n + 1) = ent x n :: (ents L (n + 1) ++ _)
    rw [ents_append L i (n + 1), List.length_cons, Nat.add_assoc, Nat.add_comm 1]
theorem mem_ents : ∀ {L : List Nat} {n : Nat} {e : AV × AV × Nat}, e ∈ ents L n ↔ ∃ j i, L[j]? = some i ∧ e = ent i (n + j)
  | [], n, e => by simp [ents]
  | x :: L, n, e => by
    show e ∈ ent x n :: ents L (n + 1) ↔ _
    rw [List.mem_cons, mem_ents]
    constructor
    · rintro (rfl | ⟨j, i, h, rfl⟩)
      · exact ⟨0, x, rfl, rfl⟩
      · exact ⟨j + 1, i, by simpa using h, by rw [Nat.add_assoc, Nat.add_comm 1]⟩
    · rintro ⟨j, i, h, rfl⟩
      cases j with
      | zero => simp at h; subst h; exact .inl rfl
      | succ j => exact .inr ⟨j, i, by simpa using h, by rw [Nat.add_assoc, Nat.add_comm 1]⟩
def hasI (L seen : List Nat) (i : Nat) : Bool := seen.any fun j => decide (L[j]? = some i)
theorem takeO_bad {s : St} {v : AV} {bs : List Nat} {a z : Int} (h : bytesAt s v = some bs) (hl : bs.length ≠ 0 ∧ bs.length ≠ 128) : takeO [v, .int .i64 a, .int .i64 z] s = .ok (.tup [.int .i64 0, .int .i64 3]) s := by
  show (Option.rec .fail (fun bs => .ok (takeV bs a z) s) (bytesAt s v) : RV) = _
  rw [h]
  show RV.ok (takeV bs a z) s = _
  unfold takeV; rw [if_pos hl]
def rdSup (bs : List Nat) : Nat × Nat × Nat × Nat := (num (pad bs) 1 4, num (pad bs) 5 4, num (pad bs) 9 4, num (pad bs) 13 1)
def rdOk (bs : List Nat) : Bool := supB (rdSup bs).2.1 (rdSup bs).2.2.1 (rdSup bs).2.2.2 && decide (supBlk (rdSup bs).1 (rdSup bs).2.1 (rdSup bs).2.2.1 (rdSup bs).2.2.2 = bs)
def readV (bs : List Nat) : AV :=
  if bs.length ≠ 0 ∧ bs.length ≠ 128 then .tup [.agg z4, .int .i64 3]
  else if rdOk bs = true then .tup [.agg [.int .u32 ((rdSup bs).1 : Int), .int .u32 ((rdSup bs).2.1 : Int), .int .u32 ((rdSup bs).2.2.1 : Int), .int .i64 ((rdSup bs).2.2.2 : Int)], .int .i64 0]
  else .tup [.agg z4, .int .i64 90]
theorem supBlk_length (a b c d : Nat) : (supBlk a b c d).length = 128 := by
  unfold supBlk supB5; simp only [putN_length]; simp
theorem supBlk_lt (a b c d : Nat) : ∀ x ∈ supBlk a b c d, x < 256 := by
  unfold supBlk supB5
  refine putN_lt (putN_lt (putN_lt (putN_lt (putN_lt (putN_lt ?_ _) _) _) _) _) _
  intro b h; rw [List.eq_of_mem_replicate h]; decide
theorem nodup_le : ∀ (n : Nat) (l : List Nat), l.Nodup → (∀ x ∈ l, x < n) → l.length ≤ n
  | 0, l, _, h => by
    cases l with
    | nil => simp
    | cons x l => have := h x (by simp); omega
  | n + 1, l, hn, h => by
    by_cases hm : n ∈ l
    · have h1 := nodup_le n (l.erase n) (hn.erase n) (fun x hx => by
        have := (hn.mem_erase_iff).1 hx
        have := h x this.2
        omega)
      rw [List.length_erase_of_mem hm] at h1; omega
    · have := nodup_le n l hn (fun x hx => by
        have := h x hx
        have : x ≠ n := fun e => hm (e ▸ hx)
        omega)
      omega
theorem bdE_ents {n : Nat} (h : 0 < n) : ∀ (L : List Nat) (m : Nat), bdE n (ents L m) = true
  | [], m => rfl
  | i :: L, m => by
    show (Nat.blt 0 n && true && bdE n (ents L (m + 1))) = true
    rw [bdE_ents h L (m + 1), show Nat.blt 0 n = true by simpa using h]; rfl
theorem mapE_ents {ρ : Nat → Nat} (h : ρ 0 = 0) : ∀ (L : List Nat) (m : Nat), mapE ρ (ents L m) = ents L m
  | [], m => rfl
  | i :: L, m => by
    show (AV.ptr (ρ 0) i, AV.int .i64 (pl i), m) :: mapE ρ (ents L (m + 1)) = _
    rw [mapE_ents h L (m + 1), h]; rfl
theorem bornK_ents {L : List Nat} {j i : Nat} (h : L[j]? = some i) : ∀ m, bornK (m + j) (ents L m) = some (ent i (m + j)) := by
  intro m
  induction L generalizing j m with
  | nil => simp at h
  | cons x L ih =>
    show (Bool.rec (bornK (m + j) (ents L (m + 1))) (some (ent x m)) (Nat.beq m (m + j)) : Option (AV × AV × Nat)) = _
    cases j with
    | zero => simp at h; subst h; rw [Nat.add_zero, Nat.beq_refl]
    | succ j =>
      rw [show Nat.beq m (m + (j + 1)) = false by rw [← Bool.not_eq_true]; intro e; have := Nat.eq_of_beq_eq_true e; omega]
      have := ih (j := j) (by simpa using h) (m + 1)
      rw [show m + 1 + j = m + (j + 1) by omega] at this
      exact this
theorem lastL_app : ∀ (l : List Nat) (x : Nat), lastL (l ++ [x]) = some x
  | [], x => rfl
  | y :: l, x => by
    show (Option.rec (some y) (fun z => some z) (lastL (l ++ [x])) : Option Nat) = some x
    rw [lastL_app l x]
theorem EPrim.entS {t : AT} {s : St} {k : AV → St → Prop} {x : AO} {ri m since last j : Nat} {seen : List Nat} {es : List (AV × AV × Nat)} {en : AV × AV × Nat} (hx : ev x t = .some (.ptr ri 0)) (hi : s.get ri = some (.iter m since (seen ++ [j]) last)) (hm : s.get m = some (.map es last)) (hb : bornK j es = some en) (hk : k (.tup [en.1, en.2.1]) s) : EPrim (.entm x) t s k := by
  refine EPrim.mk (fun e rec => ?_) hk
  show wth x t _ = _; unfold wth; rw [hx]
  show (IT.rec .fail _ (iterAt ri s) : RV) = _
  unfold iterAt; rw [hi]
  show (Option.rec .fail _ (lastL (seen ++ [j])) : RV) = _
  rw [lastL_app]
  show (Option.rec .fail _ (mapAt m s) : RV) = _
  unfold mapAt; rw [hm]
  show gd (Nat.beq last last) (Option.rec .fail _ (bornK j es) : RV) = _
  rw [Nat.beq_refl, hb]; rfl
theorem hasI_app {L seen : List Nat} {j i i' : Nat} (h : L[j]? = some i) : hasI L (seen ++ [j]) i' = (hasI L seen i' || decide (i = i')) := by
  unfold hasI
  rw [List.any_append]; simp [h]
theorem read_rest (P : Program) (e : Env) (hE : EnvOk P e) (hm : P.follows .mixedOrders = true) (h86 : Con e 270 takeO) (h84 : Con e 59 wrF.O) (v : AV) (bs : List Nat) (hv : Sl 1 bs.length (bys bs) v) (hb : ∀ b ∈ bs, b < 256) (L : List Nat) (hL : ∀ i, i ∈ L ↔ i < 3) (hn : L.length = 3) (hnd : L.Nodup) :
    W P 0 none rest41 (ofL [(0, v), (2, .ptr 0 0), (3, .int .i64 0), (4, .map 1)]) (allocs St0 [.row 117 z4, .map (ents L 0) 3]) [] (EEnd [.cells 2 4, .tmp 3] (fun u s => Frz s u (readV bs))) := by
  obtain ⟨x, hx⟩ : ∃ x : Nat → Nat, x = fun i => num (pad bs) (pl i).toNat 4 := ⟨_, rfl⟩
  have hxl : ∀ i, x i < 4294967296 := fun i => by rw [hx]; exact num_lt (pad_lt hb) 4
  obtain ⟨cel, hcel⟩ : ∃ cel : List Nat → Nat → Int, cel = fun seen i => if hasI L seen i then (x i : Int) else 0 := ⟨_, rfl⟩
  refine vw_sound hE hm ?_
  conv => whnf
  refine EPrim.mk (v := .ptr 2 0) (s' := allocs St0 [.row 117 z4, .map (ents L 0) 3, .iter 1 3 [] 3]) (fun e rec => rfl) ?_
  conv => whnf
  refine W.loopS (α := List Nat) (fun seen => [(0, v), (2, .ptr 0 0), (3, .int .i64 0), (17, .ptr 2 0)]) (fun seen => [.row 117 [.int .u32 (cel seen 0), .int .u32 (cel seen 1), .int .u32 (cel seen 2), .int .i64 0], .map (ents L 0) 3, .iter 1 3 seen 3])
    (fun seen => 3 - seen.length) (fun seen => seen.Nodup ∧ (∀ j ∈ seen, j < 3) ∧ ((bs.length ≠ 0 ∧ bs.length ≠ 128) → seen = [])) [] [0, 1, 2] ⟨by simp, by simp, fun _ => rfl⟩ ⟨by decide, ⟨⟨hf_bd _ hv.hf, by rw [hf_mapV _ hv.hf]; rfl⟩, ⟨rfl, rfl⟩, ⟨rfl, rfl⟩, ⟨rfl, rfl⟩, trivial⟩, ⟨⟨rfl, ?_⟩, ⟨?_, ?_⟩, ⟨rfl, rfl⟩, trivial⟩⟩ ?_
  · rw [hcel]; rfl
  · exact bdE_ents (Nat.succ_pos _) L 0
  · show _ = some (AObj.map (mapE _ (ents L 0)) 3); rw [mapE_ents rfl]; rfl
  rintro seen ⟨hsn, hs3, hbad⟩
  refine W.seq (W.next (e := e) (since := 3) (last := 3) (cl := 3) (seen := seen) (es := ents L 0) (ri := 2) (m := 1) hE hm rfl rfl rfl ?_ (Nat.le_refl _) ?_)
  · intro en he
    obtain ⟨j, i, hj, rfl⟩ := mem_ents.1 he
    have := (List.getElem?_eq_some_iff.1 hj).1
    show 0 + j < 3; omega
  rintro vv s' (⟨hall, rfl, rfl⟩ | ⟨en, hen, hns, rfl, rfl⟩)
  · conv => whnf
    refine vw_sound hE hm ?_
    conv => whnf
    have hc : ∀ i, i < 3 → cel seen i = x i := by
      intro i hi
      obtain ⟨j, hj⟩ := List.getElem?_of_mem ((hL i).2 hi)
      have hj' := hall _ (mem_ents.2 ⟨j, i, hj, rfl⟩)
      have h1 : hasI L seen i = true := by
        unfold hasI
        rw [List.any_eq_true]
        exact ⟨j, by simpa [ent] using hj', by simpa using hj⟩
      rw [hcel]; simp only [h1]; rfl
    rw [hc 0 (by omega), hc 1 (by omega), hc 2 (by omega)]
    have hgood : ¬ (bs.length ≠ 0 ∧ bs.length ≠ 128) := by
      intro h
      have h0 := hbad h
      subst h0
      obtain ⟨j, hj⟩ := List.getElem?_of_mem ((hL 0).2 (by decide))
      have := hall _ (mem_ents.2 ⟨j, 0, hj, rfl⟩)
      simp at this
    refine ESc.ov h86 (takeO_good (bytesAt_S hv hb) hgood (by decide)) ?_
    have h13 : num (pad bs) 13 1 < 256 := num_lt (pad_lt hb) 1
    have e0 : x 0 = (rdSup bs).1 := by rw [hx]; rfl
    have e1 : x 1 = (rdSup bs).2.1 := by rw [hx]; rfl
    have e2 : x 2 = (rdSup bs).2.2.1 := by rw [hx]; rfl
    have e3 : num (pad bs) (13 : Int).toNat (1 : Int).toNat = (rdSup bs).2.2.2 := rfl
    have b0 := hxl 0
    have b1 := hxl 1
    have b2 := hxl 2
    rw [e3, e0, e1, e2]
    rw [e0] at b0; rw [e1] at b1; rw [e2] at b2
    have b3 : (rdSup bs).2.2.2 < 256 := h13
    have hV : readV bs = if rdOk bs = true then .tup [.agg [.int .u32 ((rdSup bs).1 : Int), .int .u32 ((rdSup bs).2.1 : Int), .int .u32 ((rdSup bs).2.2.1 : Int), .int .i64 ((rdSup bs).2.2.2 : Int)], .int .i64 0] else .tup [.agg z4, .int .i64 90] := by unfold readV; rw [if_neg hgood]
    rw [hV]
    unfold rdOk
    revert b0 b1 b2 b3
    generalize (rdSup bs).1 = I
    generalize (rdSup bs).2.1 = A
    generalize (rdSup bs).2.2.1 = Q
    generalize (rdSup bs).2.2.2 = T
    intro b0 b1 b2 b3
    conv => whnf
    cases hB : supB A Q T
    · refine ESc.fam wrF h84 ⟨I, A, Q, T⟩ ⟨by simp; omega, by simp; omega, by simp; omega⟩ (u := .tup [.nils, .int .i64 8]) (by simp [wrF, Sup.b, hB]) ?_
      conv => whnf
      repeat' (first | ((first | refine w1 rfl rfl ?_ ?_ | refine w2 rfl rfl ?_ ?_ | refine w3 rfl rfl ?_ ?_ | refine w4 rfl rfl ?_ ?_ | refine w5 rfl rfl ?_ ?_ | refine w6 rfl rfl ?_ ?_) <;> intro _ <;> first | (exfalso; omega) | (conv => whnf)) | ((first | refine w7 rfl rfl (by omega) ?_ | refine w8 rfl rfl (by omega) ?_ | refine w9 rfl rfl (by omega) ?_ | refine w10 rfl rfl ?_ | refine w11 rfl rfl ?_ | refine w12 rfl ?_ | refine w13 rfl ?_ | refine w14 (q' := .i64) rfl (i64_in (by omega)) ?_ | refine w14 (q' := .u32) rfl (u32_in (by omega)) ?_ | refine w14 (q' := .u8) rfl (u8_in (by omega)) ?_ | refine w15 rfl rfl ?_ | refine w16 rfl ?_ | refine w17 rfl ?_ | refine w18 rfl ?_ | refine ⟨rfl, ?_⟩); conv => whnf) | (refine w19 rfl ?_ ?_ <;> intro hc <;> (try subst hc) <;> conv => whnf))
      exact .plain _ rfl
    · refine ESc.fam wrF h84 ⟨I, A, Q, T⟩ ⟨by simp; omega, by simp; omega, by simp; omega⟩ (u := .tup [.fz 128 (some 128) (bys (supBlk I A Q T)), .int .i64 0]) (by simp [wrF, Sup.b, hB]) ?_
      conv => whnf
      repeat' (first | ((first | refine w1 rfl rfl ?_ ?_ | refine w2 rfl rfl ?_ ?_ | refine w3 rfl rfl ?_ ?_ | refine w4 rfl rfl ?_ ?_ | refine w5 rfl rfl ?_ ?_ | refine w6 rfl rfl ?_ ?_) <;> intro _ <;> first | (exfalso; omega) | (conv => whnf)) | ((first | refine w7 rfl rfl (by omega) ?_ | refine w8 rfl rfl (by omega) ?_ | refine w9 rfl rfl (by omega) ?_ | refine w10 rfl rfl ?_ | refine w11 rfl rfl ?_ | refine w12 rfl ?_ | refine w13 rfl ?_ | refine w14 (q' := .i64) rfl (i64_in (by omega)) ?_ | refine w14 (q' := .u32) rfl (u32_in (by omega)) ?_ | refine w14 (q' := .u8) rfl (u8_in (by omega)) ?_ | refine w15 rfl rfl ?_ | refine w16 rfl ?_ | refine w17 rfl ?_ | refine w18 rfl ?_ | refine ⟨rfl, ?_⟩); conv => whnf) | (refine w19 rfl ?_ ?_ <;> intro hc <;> (try subst hc) <;> conv => whnf))
      refine EPrim.b2sS (n := 128) rfl (.inr (.inr ⟨_, rfl, by rw [bys_length, supBlk_length]⟩)) (supBlk_lt _ _ _ _) ?_
      conv => whnf
      refine EPrim.b2sS rfl hv hb ?_
      conv => whnf
      refine EPrim.neqStr rfl rfl (fun hne => ?_) (fun heq => ?_) <;> conv => whnf
      · rw [if_neg (by simp [hne])]
        exact .plain _ rfl
      · rw [if_pos (by simp [heq])]
        exact .plain _ rfl
  · obtain ⟨j, i, hj, rfl⟩ := mem_ents.1 hen
    have hj3 := (List.getElem?_eq_some_iff.1 hj).1
    have hi3 : i < 3 := (hL i).1 (List.mem_of_getElem? hj)
    have hns : j ∉ seen := by simpa [ent] using hns
    conv => whnf
    refine vw_sound hE hm ?_
    conv => whnf
    refine EPrim.entS (seen := seen) (j := 0 + j) (en := ent i (0 + j)) rfl rfl rfl (bornK_ents hj 0) ?_
    conv => whnf
    have hfit : fitsB (pl i) 4 = true := by
      rcases i with _ | _ | _ | i <;> first | rfl | omega
    by_cases hlen : bs.length ≠ 0 ∧ bs.length ≠ 128
    · refine ESc.ov h86 (takeO_bad (bytesAt_S hv hb) hlen) ?_
      conv => whnf
      repeat' (first | ((first | refine w1 rfl rfl ?_ ?_ | refine w2 rfl rfl ?_ ?_ | refine w3 rfl rfl ?_ ?_ | refine w4 rfl rfl ?_ ?_ | refine w5 rfl rfl ?_ ?_ | refine w6 rfl rfl ?_ ?_) <;> intro _ <;> first | (exfalso; omega) | (conv => whnf)) | ((first | refine w7 rfl rfl (by omega) ?_ | refine w8 rfl rfl (by omega) ?_ | refine w9 rfl rfl (by omega) ?_ | refine w10 rfl rfl ?_ | refine w11 rfl rfl ?_ | refine w12 rfl ?_ | refine w13 rfl ?_ | refine w14 (q' := .i64) rfl (i64_in (by omega)) ?_ | refine w14 (q' := .u32) rfl (u32_in (by omega)) ?_ | refine w14 (q' := .u8) rfl (u8_in (by omega)) ?_ | refine w15 rfl rfl ?_ | refine w16 rfl ?_ | refine w17 rfl ?_ | refine w18 rfl ?_ | refine ⟨rfl, ?_⟩); conv => whnf) | (refine w19 rfl ?_ ?_ <;> intro hc <;> (try subst hc) <;> conv => whnf))
      unfold readV
      rw [if_pos hlen]
      exact .plain _ rfl
    · refine ESc.ov h86 (takeO_good (bytesAt_S hv hb) hlen hfit) ?_
      rw [show num (pad bs) (pl i).toNat (4 : Int).toNat = x i by rw [hx]; rfl]
      have hxi := hxl i
      conv => whnf
      repeat' (first | ((first | refine w1 rfl rfl ?_ ?_ | refine w2 rfl rfl ?_ ?_ | refine w3 rfl rfl ?_ ?_ | refine w4 rfl rfl ?_ ?_ | refine w5 rfl rfl ?_ ?_ | refine w6 rfl rfl ?_ ?_) <;> intro _ <;> first | (exfalso; omega) | (conv => whnf)) | ((first | refine w7 rfl rfl (by omega) ?_ | refine w8 rfl rfl (by omega) ?_ | refine w9 rfl rfl (by omega) ?_ | refine w10 rfl rfl ?_ | refine w11 rfl rfl ?_ | refine w12 rfl ?_ | refine w13 rfl ?_ | refine w14 (q' := .i64) rfl (i64_in (by omega)) ?_ | refine w14 (q' := .u32) rfl (u32_in (by omega)) ?_ | refine w14 (q' := .u8) rfl (u8_in (by omega)) ?_ | refine w15 rfl rfl ?_ | refine w16 rfl ?_ | refine w17 rfl ?_ | refine w18 rfl ?_ | refine ⟨rfl, ?_⟩); conv => whnf) | (refine w19 rfl ?_ ?_ <;> intro hc <;> (try subst hc) <;> conv => whnf))
      have hn2 : seen.length + 1 = (seen ++ [0 + j]).length := by simp
      have key : ∀ i', cel (seen ++ [0 + j]) i' = if i = i' then (x i' : Int) else cel seen i' := by
        intro i'
        rw [hcel]; dsimp only
        rw [Nat.zero_add, hasI_app hj]
        by_cases h : i = i' <;> simp [h]
      have hI : (seen ++ [0 + j]).Nodup ∧ (∀ j' ∈ seen ++ [0 + j], j' < 3) ∧ ((bs.length ≠ 0 ∧ bs.length ≠ 128) → seen ++ [0 + j] = []) := by
        refine ⟨?_, ?_, fun h => absurd h hlen⟩
        · rw [Nat.zero_add, List.nodup_append]
          exact ⟨hsn, by simp, by rintro a ha b hb rfl; simp at hb; subst hb; exact hns ha⟩
        · intro j' hj'
          rcases List.mem_append.1 hj' with h | h
          · exact hs3 j' h
          · simp at h; omega
      have hlen3 : seen.length < 3 := by
        have := nodup_le 3 _ hI.1 hI.2.1
        simp at this; omega
      have hab : ∀ t s, t.get 0 = some v → t.get 2 = some (.ptr 0 0) → t.get 3 = some (.int .i64 0) → t.get 17 = some (.ptr 2 0) → s.get 0 = some (.row 117 [.int .u32 (cel (seen ++ [0 + j]) 0), .int .u32 (cel (seen ++ [0 + j]) 1), .int .u32 (cel (seen ++ [0 + j]) 2), .int .i64 0]) → s.get 1 = some (.map (ents L 0) 3) → s.get 2 = some (.iter 1 3 (seen ++ [0 + j]) 3) →
          Abs t s [(0, v), (2, .ptr 0 0), (3, .int .i64 0), (17, .ptr 2 0)] [.row 117 [.int .u32 (cel (seen ++ [0 + j]) 0), .int .u32 (cel (seen ++ [0 + j]) 1), .int .u32 (cel (seen ++ [0 + j]) 2), .int .i64 0], .map (ents L 0) 3, .iter 1 3 (seen ++ [0 + j]) 3] [0, 1, 2] := by
        intro t s h0 h2 h3 h17 g0 g1 g2
        refine ⟨by decide, ⟨⟨hf_bd _ hv.hf, by rw [hf_mapV _ hv.hf]; exact h0⟩, ⟨rfl, h2⟩, ⟨rfl, h3⟩, ⟨rfl, h17⟩, trivial⟩, ⟨⟨rfl, g0⟩, ⟨bdE_ents (Nat.succ_pos _) L 0, ?_⟩, ⟨rfl, g2⟩, trivial⟩⟩
        show _ = some (AObj.map (mapE _ (ents L 0)) 3); rw [mapE_ents rfl]; exact g1
      rcases i with _ | _ | _ | i
      · conv => whnf
        refine ⟨rfl, seen ++ [0 + j], hI, by omega, [0, 1, 2], hab _ _ rfl rfl rfl rfl ?_ rfl rfl⟩
        rw [key 0, key 1, key 2]; rfl
      · conv => whnf
        refine ⟨rfl, seen ++ [0 + j], hI, by omega, [0, 1, 2], hab _ _ rfl rfl rfl rfl ?_ rfl rfl⟩
        rw [key 0, key 1, key 2]; rfl
      · conv => whnf
        refine ⟨rfl, seen ++ [0 + j], hI, by omega, [0, 1, 2], hab _ _ rfl rfl rfl rfl ?_ rfl rfl⟩
        rw [key 0, key 1, key 2]; rfl
      · omega
structure MapReg (P : Program) (N : Nat) (ops : Array Oper) : Prop where
  size : ops.size = 9
  back : backOk ops.toList 0 = true
  op : ∀ (i d : Nat) (p : AOp) (pre : List Nat), [(12, AOp.mkmap, []), (13, .fa 0 (.t 2), []), (0, .msetp (.t 11) (.t 12) (.c (.int .i64 1)), [0, 1]), (14, .fa 1 (.t 2), []), (0, .msetp (.t 11) (.t 13) (.c (.int .i64 5)), [0, 3]), (15, .fa 2 (.t 2), []), (0, .msetp (.t 11) (.t 14) (.c (.int .i64 9)), [0, 5]), (16, .mv (.t 11), [0, 1, 2, 3, 4, 5, 6]), (5, .mv (.t 15), [7])][i]? = some (d, p, pre) →
    ∃ o, ops[i]? = some o ∧ compDst N o.dst = some d ∧ compOp P o = some p ∧ o.guard = none ∧ ∀ j ∈ pre, ∃ e ∈ o.after.toList, Region.binds .any e = true ∧ e.on = j
structure MapJ (v : AV) (D : Nat → Prop) (t : AT) (s : St) : Prop where
  t0 : t.get 0 = some v
  t2 : t.get 2 = some (.ptr 0 0)
  t3 : t.get 3 = some (.int .i64 0)
  r0 : s.get 0 = some (.row 117 z4)
  m0 : ¬ D 0 → s.next = 1 ∧ ¬ D 2 ∧ ¬ D 4 ∧ ¬ D 6
  m1 : D 0 → t.get 11 = some (.map 1) ∧ s.next = 2 ∧ ∃ L : List Nat, L.Nodup ∧ (∀ i, i ∈ L ↔ i < 3 ∧ D (2 + 2 * i)) ∧ s.get 1 = some (.map (ents L 0) L.length)
  f0 : D 1 → t.get 12 = some (.ptr 0 0)
  f1 : D 3 → t.get 13 = some (.ptr 0 1)
  f2 : D 5 → t.get 14 = some (.ptr 0 2)
  m7 : D 7 → t.get 15 = some (.map 1)
  m8 : D 8 → t.get 4 = some (.map 1)
theorem othK_ents {i : Nat} : ∀ {L : List Nat} {n : Nat}, i ∉ L → othK 0 i (ents L n) = true
  | [], n, _ => rfl
  | x :: L, n, h => by
    show (Bool.rec (othK 0 i (ents L (n + 1))) false (Nat.beq i x) : Bool) = true
    rw [show Nat.beq i x = false by rw [← Bool.not_eq_true]; intro e; exact h (by rw [Nat.eq_of_beq_eq_true e]; simp)]
    exact othK_ents (fun e => h (by simp [e]))
theorem EPrim.msetpP {t : AT} {s : St} {k : AV → St → Prop} {m x y : AO} {rm r o c : Nat} {es : List (AV × AV × Nat)} {v : AV} (hm : ev m t = .some (.map rm)) (hx : ev x t = .some (.ptr r o)) (hy : ev y t = .some v) (hs : s.get rm = some (.map es c)) (ho : othK r o es = true) (hk : k (.tup []) (s.put rm (.map (es ++ [(.ptr r o, v, c)]) (c + 1)))) : EPrim (.msetp m x y) t s k := by
  refine EPrim.mk (fun e rec => ?_) hk
  show wth m t _ = _; unfold wth; rw [hm]
  show wth x t _ = _; unfold wth; rw [hx]
  show wth y t _ = _; unfold wth; rw [hy]
  show (Option.rec .fail _ (mapAt rm s) : RV) = _
  unfold mapAt; rw [hs]
  show gd (othK r o es) (.ok (.tup []) (s.put rm (.map (appL es [(.ptr r o, v, c)]) (c + 1)))) = _
  rw [ho, appL_eq]; rfl
theorem evT_of {t : AT} {i : Nat} {v : AV} (h : t.get i = some v) : ev (.t i) t = .some v := by
  show (Option.rec .none (fun v => .some v) (t.get i) : OV) = _; rw [h]
theorem MapJ.tmp {v : AV} {D D' : Nat → Prop} {t : AT} {s : St} (h : MapJ v D t s) {d : Nat} {u : AV} (hd : d ≠ 0 ∧ d ≠ 2 ∧ d ≠ 3 ∧ d < 1000)
    (h0 : D' 0 ↔ D 0) (h2 : D' 2 ↔ D 2) (h4 : D' 4 ↔ D 4) (h6 : D' 6 ↔ D 6) (e11 : d ≠ 11)
    (g1 : D' 1 → (D 1 ∧ d ≠ 12) ∨ (d = 12 ∧ u = .ptr 0 0)) (g3 : D' 3 → (D 3 ∧ d ≠ 13) ∨ (d = 13 ∧ u = .ptr 0 1)) (g5 : D' 5 → (D 5 ∧ d ≠ 14) ∨ (d = 14 ∧ u = .ptr 0 2))
    (g7 : D' 7 → (D 7 ∧ d ≠ 15) ∨ (d = 15 ∧ u = .map 1)) (g8 : D' 8 → (D 8 ∧ d ≠ 4) ∨ (d = 4 ∧ u = .map 1)) : MapJ v D' (t.set u d) s := by
  have key : ∀ (i : Nat) (A B : Prop) (w : AV), (A → (B ∧ d ≠ i) ∨ (d = i ∧ u = w)) → (B → t.get i = some w) → A → (t.set u d).get i = some w := by
    intro i A B w hg hb ha
    rcases hg ha with ⟨hB, hne⟩ | ⟨rfl, rfl⟩
    · exact T.get_set_ne (fun e => hne e.symm) (hb hB)
    · exact T.get_set_same _ _ (by omega)
  refine ⟨T.get_set_ne (by omega) h.t0, T.get_set_ne (by omega) h.t2, T.get_set_ne (by omega) h.t3, h.r0, ?_, ?_, key 12 _ _ _ g1 h.f0, key 13 _ _ _ g3 h.f1, key 14 _ _ _ g5 h.f2, key 15 _ _ _ g7 h.m7, key 4 _ _ _ g8 h.m8⟩
  · intro hn; rw [h2, h4, h6]; exact h.m0 (fun e => hn (h0.2 e))
  · intro hD
    obtain ⟨a, b, L, c1, c2, c3⟩ := h.m1 (h0.1 hD)
    refine ⟨T.get_set_ne (by omega) a, b, L, c1, fun i => ?_, c3⟩
    rw [c2]
    rcases i with _ | _ | _ | i
    · rw [show 2 + 2 * 0 = 2 from rfl, h2]
    · rw [show 2 + 2 * (0 + 1) = 4 from rfl, h4]
    · rw [show 2 + 2 * (0 + 1 + 1) = 6 from rfl, h6]
    · constructor <;> intro h <;> omega
theorem MapJ.set {v : AV} {D D' : Nat → Prop} {t : AT} {s : St} (h : MapJ v D t s) (hD : D 0) {q : Nat} (hq : q < 3) (hn : ¬ D (2 + 2 * q)) (hD' : ∀ j, D' j ↔ D j ∨ j = 2 + 2 * q) {L : List Nat} (c1 : L.Nodup) (c2 : ∀ i, i ∈ L ↔ i < 3 ∧ D (2 + 2 * i)) (hs : s.next = 2) (ht : t.get 11 = some (.map 1)) :
    MapJ v D' t (s.put 1 (.map (ents L 0 ++ [(.ptr 0 q, .int .i64 (pl q), L.length)]) (L.length + 1))) := by
  have odd : ∀ j, j % 2 = 1 ∨ j = 0 ∨ j = 8 → (D' j ↔ D j) := fun j hj => by
    rw [hD']; constructor
    · rintro (h | h)
      · exact h
      · omega
    · exact .inl
  refine ⟨h.t0, h.t2, h.t3, by rw [St.get_put_ne (by decide)]; exact h.r0, fun hn => absurd ((odd 0 (by omega)).2 hD) hn, fun _ => ⟨ht, by rw [St.next_put]; exact hs, L ++ [q], ?_, ?_, ?_⟩, fun e => h.f0 ((odd 1 (by omega)).1 e), fun e => h.f1 ((odd 3 (by omega)).1 e), fun e => h.f2 ((odd 5 (by omega)).1 e), fun e => h.m7 ((odd 7 (by omega)).1 e), fun e => h.m8 ((odd 8 (by omega)).1 e)⟩
  · rw [List.nodup_append]
    exact ⟨c1, by simp, by rintro a ha b hb rfl; simp at hb; subst hb; exact hn ((c2 _).1 ha).2⟩
  · intro i
    rw [List.mem_append, c2, hD']
    constructor
    · rintro (h | h)
      · exact ⟨h.1, .inl h.2⟩
      · simp at h; subst h; exact ⟨hq, .inr rfl⟩
    · rintro ⟨h1, h2 | h2⟩
      · exact .inl ⟨h1, h2⟩
      · exact .inr (by simp; omega)
  · rw [St.get_put_same (by decide), ents_append, List.length_append]
    simp [ent]
theorem read_any (P : Program) (e : Env) (hE : EnvOk P e) (hm : P.follows .mixedOrders = true) {N id : Nat} {ops : Array Oper} (hR : MapReg P N ops) (v : AV) (t : AT) (s : St) (hJ : MapJ v (fun _ => False) t s) (Q : EQ)
    (hQ : ∀ t s, MapJ v (fun i => i < 9) t s → Q .normal t s []) : WC P 0 none N (.region id ops true) t s [] Q := by
  refine WC.any hE hm hR.back (MapJ v) hJ ?_ ?_
  · intro D t s i o hJ ho hD hpre
    have hi : i < 9 := by have := (Array.getElem?_eq_some_iff.1 ho).1; rw [hR.size] at this; exact this
    have get : ∀ d p pre, [(12, AOp.mkmap, []), (13, .fa 0 (.t 2), []), (0, .msetp (.t 11) (.t 12) (.c (.int .i64 1)), [0, 1]), (14, .fa 1 (.t 2), []), (0, .msetp (.t 11) (.t 13) (.c (.int .i64 5)), [0, 3]), (15, .fa 2 (.t 2), []), (0, .msetp (.t 11) (.t 14) (.c (.int .i64 9)), [0, 5]), (16, .mv (.t 11), [0, 1, 2, 3, 4, 5, 6]), (5, .mv (.t 15), [7])][i]? = some (d, p, pre) →
        compDst N o.dst = some d ∧ compOp P o = some p ∧ o.guard = none ∧ ∀ j ∈ pre, D j := by
      intro d p pre h
      obtain ⟨o', h1, h2, h3, h4, h5⟩ := hR.op i d p pre h
      rw [ho] at h1; cases h1
      refine ⟨h2, h3, h4, fun j hj => ?_⟩
      obtain ⟨ed, he1, he2, rfl⟩ := h5 j hj
      exact hpre ed he1 he2
    rcases i with _ | _ | _ | _ | _ | _ | _ | _ | _ | i
    · obtain ⟨a, b, c, _⟩ := get 12 .mkmap [] rfl
      refine ⟨12, .mkmap, a, b, c, ?_⟩
      obtain ⟨n1, n2, n4, n6⟩ := hJ.m0 hD
      show MapJ v _ (t.set (.map s.next) 11) (s.alloc (.map [] 0))
      rw [n1]
      refine ⟨T.get_set_ne (by decide) hJ.t0, T.get_set_ne (by decide) hJ.t2, T.get_set_ne (by decide) hJ.t3, by rw [St.get_alloc_ne (by omega)]; exact hJ.r0, fun h => absurd (.inr rfl) h, fun _ => ⟨T.get_set_same _ _ (by decide), by rw [St.next_alloc, n1], [], by simp, fun i => ?_, ?_⟩, fun h => ?_, fun h => ?_, fun h => ?_, fun h => ?_, fun h => ?_⟩
      · constructor
        · intro h; simp at h
        · rintro ⟨h1, h2 | h2⟩
          · rcases i with _ | _ | _ | i
            · exact absurd h2 n2
            · exact absurd h2 n4
            · exact absurd h2 n6
            · omega
          · omega
      · have := St.get_alloc_same (s := s) (o := .map [] 0) (by omega)
        rw [n1] at this; exact this
      · exact T.get_set_ne (by decide) (hJ.f0 (h.resolve_right (by decide)))
      · exact T.get_set_ne (by decide) (hJ.f1 (h.resolve_right (by decide)))
      · exact T.get_set_ne (by decide) (hJ.f2 (h.resolve_right (by decide)))
      · exact T.get_set_ne (by decide) (hJ.m7 (h.resolve_right (by decide)))
      · exact T.get_set_ne (by decide) (hJ.m8 (h.resolve_right (by decide)))
    · obtain ⟨a, b, c, _⟩ := get 13 (.fa 0 (.t 2)) [] rfl
      refine ⟨13, .fa 0 (.t 2), a, b, c, ?_⟩
      show wV (ev (.t 2) t) _
      rw [evT_of hJ.t2]
      refine hJ.tmp (d := 12) (u := .ptr 0 0) (by omega) (by simp) (by simp) (by simp) (by simp) (by omega) ?_ ?_ ?_ ?_ ?_ <;> intro h <;> first | exact .inr ⟨rfl, rfl⟩ | exact .inl ⟨h.resolve_right (by omega), by omega⟩
    · obtain ⟨a, b, c, hp⟩ := get 0 (.msetp (.t 11) (.t 12) (.c (.int .i64 1))) [0, 1] rfl
      refine ⟨0, .msetp (.t 11) (.t 12) (.c (.int .i64 1)), a, b, c, ?_⟩
      have h0 := hp 0 (by simp)
      obtain ⟨g1, g2, L, c1, c2, c3⟩ := hJ.m1 h0
      have hq : 0 ∉ L := fun h => hD ((c2 0).1 h).2
      show EPrim (.msetp (.t 11) (.t 12) (.c (.int .i64 1))) t s _
      refine EPrim.msetpP (evT_of g1) (evT_of (hJ.f0 (hp 1 (by simp)))) rfl c3 (othK_ents hq) ?_
      exact hJ.set h0 (q := 0) (by decide) hD (fun j => Iff.rfl) c1 c2 g2 g1
    · obtain ⟨a, b, c, _⟩ := get 14 (.fa 1 (.t 2)) [] rfl
      refine ⟨14, .fa 1 (.t 2), a, b, c, ?_⟩
      show wV (ev (.t 2) t) _
      rw [evT_of hJ.t2]
      refine hJ.tmp (d := 13) (u := .ptr 0 1) (by omega) (by simp) (by simp) (by simp) (by simp) (by omega) ?_ ?_ ?_ ?_ ?_ <;> intro h <;> first | exact .inr ⟨rfl, rfl⟩ | exact .inl ⟨h.resolve_right (by omega), by omega⟩
    · obtain ⟨a, b, c, hp⟩ := get 0 (.msetp (.t 11) (.t 13) (.c (.int .i64 5))) [0, 3] rfl
      refine ⟨0, .msetp (.t 11) (.t 13) (.c (.int .i64 5)), a, b, c, ?_⟩
      have h0 := hp 0 (by simp)
      obtain ⟨g1, g2, L, c1, c2, c3⟩ := hJ.m1 h0
      have hq : 1 ∉ L := fun h => hD ((c2 1).1 h).2
      show EPrim (.msetp (.t 11) (.t 13) (.c (.int .i64 5))) t s _
      refine EPrim.msetpP (evT_of g1) (evT_of (hJ.f1 (hp 3 (by simp)))) rfl c3 (othK_ents hq) ?_
      exact hJ.set h0 (q := 1) (by decide) hD (fun j => Iff.rfl) c1 c2 g2 g1
    · obtain ⟨a, b, c, _⟩ := get 15 (.fa 2 (.t 2)) [] rfl
      refine ⟨15, .fa 2 (.t 2), a, b, c, ?_⟩
      show wV (ev (.t 2) t) _
      rw [evT_of hJ.t2]
      refine hJ.tmp (d := 14) (u := .ptr 0 2) (by omega) (by simp) (by simp) (by simp) (by simp) (by omega) ?_ ?_ ?_ ?_ ?_ <;> intro h <;> first | exact .inr ⟨rfl, rfl⟩ | exact .inl ⟨h.resolve_right (by omega), by omega⟩
    · obtain ⟨a, b, c, hp⟩ := get 0 (.msetp (.t 11) (.t 14) (.c (.int .i64 9))) [0, 5] rfl
      refine ⟨0, .msetp (.t 11) (.t 14) (.c (.int .i64 9)), a, b, c, ?_⟩
      have h0 := hp 0 (by simp)
      obtain ⟨g1, g2, L, c1, c2, c3⟩ := hJ.m1 h0
      have hq : 2 ∉ L := fun h => hD ((c2 2).1 h).2
      show EPrim (.msetp (.t 11) (.t 14) (.c (.int .i64 9))) t s _
      refine EPrim.msetpP (evT_of g1) (evT_of (hJ.f2 (hp 5 (by simp)))) rfl c3 (othK_ents hq) ?_
      exact hJ.set h0 (q := 2) (by decide) hD (fun j => Iff.rfl) c1 c2 g2 g1
    · obtain ⟨a, b, c, hp⟩ := get 16 (.mv (.t 11)) [0, 1, 2, 3, 4, 5, 6] rfl
      refine ⟨16, .mv (.t 11), a, b, c, ?_⟩
      obtain ⟨g1, _⟩ := hJ.m1 (hp 0 (by simp))
      show wV (ev (.t 11) t) _
      rw [evT_of g1]
      refine hJ.tmp (d := 15) (u := .map 1) (by omega) (by simp) (by simp) (by simp) (by simp) (by omega) ?_ ?_ ?_ ?_ ?_ <;> intro h <;> first | exact .inr ⟨rfl, rfl⟩ | exact .inl ⟨h.resolve_right (by omega), by omega⟩
    · obtain ⟨a, b, c, hp⟩ := get 5 (.mv (.t 15)) [7] rfl
      refine ⟨5, .mv (.t 15), a, b, c, ?_⟩
      have g1 := hJ.m7 (hp 7 (by simp))
      show wV (ev (.t 15) t) _
      rw [evT_of g1]
      refine hJ.tmp (d := 4) (u := .map 1) (by omega) (by simp) (by simp) (by simp) (by simp) (by omega) ?_ ?_ ?_ ?_ ?_ <;> intro h <;> first | exact .inr ⟨rfl, rfl⟩ | exact .inl ⟨h.resolve_right (by omega), by omega⟩
    · omega
  · intro D t s hJ hall
    rw [hR.size] at hall
    refine hQ t s ⟨hJ.t0, hJ.t2, hJ.t3, hJ.r0, fun h => absurd (by decide) h, fun _ => ?_, fun _ => hJ.f0 (hall 1 (by decide)), fun _ => hJ.f1 (hall 3 (by decide)), fun _ => hJ.f2 (hall 5 (by decide)), fun _ => hJ.m7 (hall 7 (by decide)), fun _ => hJ.m8 (hall 8 (by decide))⟩
    obtain ⟨a, b, L, c1, c2, c3⟩ := hJ.m1 (hall 0 (by decide))
    refine ⟨a, b, L, c1, fun i => ?_, c3⟩
    rw [c2]
    constructor
    · rintro ⟨h, _⟩; exact ⟨h, by omega⟩
    · rintro ⟨h, _⟩; exact ⟨h, hall _ (by omega)⟩
theorem three_le : ∀ {L : List Nat}, 0 ∈ L → 1 ∈ L → 2 ∈ L → 3 ≤ L.length
  | [], h, _, _ => by simp at h
  | [a], h0, h1, h2 => by simp at h0 h1; omega
  | [a, b], h0, h1, h2 => by simp at h0 h1 h2; omega
  | _ :: _ :: _ :: _, _, _, _ => by simp
noncomputable def readO (args : List AV) (s : St) : RV := match args with
  | [v] => Option.rec .fail (fun bs => .ok (readV bs) s) (bytesAt s v)
  | _ => .fail
theorem sc_readV (bs : List Nat) : sc (readV bs) = true := by
  unfold readV
  split
  · rfl
  · split <;> rfl
def reg41 : AC := match a235 with | .mk (.seq r _) _ => r | _ => .skip
theorem readO_ok {P : Program} {e : Env} {fn : Func} {c0 c2 : Code} {id : Nat} {ops : Array Oper} (hE : EnvOk P e) (hm : P.follows .mixedOrders = true) (h86 : Con e 270 takeO) (h84 : Con e 59 wrF.O) (hf : P.funcs[235]? = some fn) (hbody : fn.body = some (.seq c0 (.seq (.region id ops true) c2)))
    (hc0 : comp P fn.ntmps c0 = some reg41) (hc2 : comp P fn.ntmps c2 = some rest41) (hR : MapReg P fn.ntmps ops) (hrs : compRes P fn.results.toList = some [.cells 2 4, .tmp 3]) (hb : HasBody P 235) : OvOk P 235 readO := by
  refine ⟨hb, fun args s v s' h => ?_⟩
  unfold readO at h
  split at h
  · rename_i u
    obtain ⟨bs, hbs, h⟩ := opt_ok h
    obtain ⟨rfl, rfl⟩ := ok_inj h
    obtain ⟨v2, hF, hSl, hlt⟩ := bytesAt_view hbs
    have hfs2 : hfs [v2] = true := by simp [hfs, hSl.hf]
    refine C.view (args2 := [v2]) (.cons hF .nil) (sc_readV bs) (C.freeze hfs2 ?_)
    refine C.of_WC hf hbody hrs (WC.seq (W.code hc0 (vw_sound hE hm (e := e) ?_)))
    conv => whnf
    refine WC.seq (read_any P e hE hm hR v2 _ _ ⟨rfl, rfl, rfl, rfl, fun _ => ⟨rfl, by simp, by simp, by simp⟩, fun h => h.elim, fun h => h.elim, fun h => h.elim, fun h => h.elim, fun h => h.elim, fun h => h.elim⟩ _ ?_)
    intro t s hJ
    obtain ⟨g1, g2, L, c1, c2', c3⟩ := hJ.m1 (by decide)
    have hL : ∀ i, i ∈ L ↔ i < 3 := fun i => by rw [c2']; constructor <;> intro h <;> first | exact h.1 | exact ⟨h, by omega⟩
    have hlen : L.length = 3 := by
      have h1 := nodup_le 3 L c1 (fun x hx => (hL x).1 hx)
      have m0 := (hL 0).2 (by decide)
      have m1 := (hL 1).2 (by decide)
      have m2 := (hL 2).2 (by decide)
      have h2 := three_le m0 m1 m2
      omega
    rw [hlen] at c3
    show WC P 0 none fn.ntmps c2 t s [] _
    refine W.code hc2 (W.abs [(0, v2), (2, .ptr 0 0), (3, .int .i64 0), (4, .map 1)] [.row 117 z4, .map (ents L 0) 3] [0, 1] ⟨by decide, ⟨⟨hf_bd _ hSl.hf, by rw [hf_mapV _ hSl.hf]; exact hJ.t0⟩, ⟨rfl, hJ.t2⟩, ⟨rfl, hJ.t3⟩, ⟨rfl, hJ.m8 (by decide)⟩, trivial⟩, ⟨⟨rfl, hJ.r0⟩, ⟨bdE_ents (Nat.succ_pos _) L 0, ?_⟩, trivial⟩⟩ ((read_rest P e hE hm h86 h84 v2 bs hSl hlt L hL hlen c1).mono fun _ _ _ _ h => eend_ends h))
    show _ = some (AObj.map (mapE _ (ents L 0)) 3); rw [mapE_ents rfl]; exact c3
  · cases h
end Go.AM
