/-
  Functions of the program as the abstract machine reads them, and what is stated of them, checked by the kernel. No conditions.
-/
import Derived.Test.YtnnbibnobmegpaaSeatA
import Derived.Test.YtnnbibnobmegpaaSeatLH
set_option linter.unusedVariables false
set_option linter.unusedSimpArgs false

set_option linter.unusedVariables false
set_option maxRecDepth 100000
namespace Go.AM
attribute [local irreducible] W
open X
def code6 : AC := match a6 with | .mk c _ => c
structure LPIn (e : Env) : Prop where
  h30 : Con e 30 trueO
  h31 : Inl e 31 code31 [.tmp 2]
  h32 : Con e 32 grtF.O
  h34 : Con e 34 addF.O
  h35 : Con e 35 onF.O
  h36 : Con e 36 gapF.O
theorem actsL_drop (c : Cfg) (tl us : Int) : ∀ (i k : Nat) (B : List AV), (actsL c tl us k B).drop (i * 4) = actsL c tl us (k + i) (B.drop i)
  | 0, k, B => by simp
  | i + 1, k, [] => by simp [actsL]
  | i + 1, k, b :: B => by
    show List.drop ((i + 1) * 4) (actV c tl us k b ++ actsL c tl us (k + 1) B) = _
    rw [show (i + 1) * 4 = (actV c tl us k b).length + i * 4 by show _ = 4 + i * 4; omega, List.drop_append, List.drop_eq_nil_of_le (by omega), List.nil_append, show (actV c tl us k b).length + i * 4 - (actV c tl us k b).length = i * 4 by omega, actsL_drop c tl us i (k + 1) B, List.drop_succ_cons, show k + 1 + i = k + (i + 1) by omega]
theorem gap_ge {log tl us i q : Int} (h1 : 0 ≤ tl ∧ tl < log) (h2 : 0 ≤ us) (h3 : 0 ≤ i) (h4 : us + i < log) (hq : q = ((tl + us) % log + i) % log) : us ≤ (q - tl + log) % log := by
  rw [Int.emod_add_emod] at hq
  by_cases h : tl + us + i < log
  · rw [Int.emod_eq_of_lt (by omega) h] at hq
    have e : q - tl + log = (us + i) + log := by omega
    rw [e, Int.add_emod_right, Int.emod_eq_of_lt (by omega) (by omega)]; omega
  · have e : (tl + us + i) % log = tl + us + i - log := by
      rw [← Int.sub_emod_right, Int.emod_eq_of_lt (by omega) (by omega)]
    rw [e] at hq
    have e : q - tl + log = us + i := by omega
    rw [e, Int.emod_eq_of_lt (by omega) (by omega)]; omega
/-- log.Add, as a call -/
theorem add_call {e : Env} (h34 : Con e 34 addF.O) {c : Cfg} {ag sq tl us : Int} {L : List Lv} {v : AV} {d : DB} (hx : CL.ok ⟨c, ⟨ag, sq, tl, us, L⟩, v⟩) (hd : d.ok) (K : AV → St → Prop) (s : St)
    (k1 : (CL.good ⟨c, ⟨ag, sq, tl, us, L⟩, v⟩ ∧ dealB c d.d = true) → ∀ (n : Nat) (B : List AV) (p : Bool), n = d.n → p = decide (0 < d.pb.length) → B.length = n → (∀ b ∈ B, ∃ c l, b = AV.fz 128 c l) → sq ≠ 2147483648 → noteB (AI.bd ⟨⟨c, ⟨ag, sq, tl, us, L⟩, v⟩, d⟩).note = true → roomB ⟨⟨ag, sq + 1, tl, us + (n : Int), L ++ [newLv sq d.st (n : Int) p]⟩, c⟩ = true →
      K (.tup [.agg [.int .u32 ag, .int .u32 (sq + 1), .int .i64 tl, .int .i64 (us + (n : Int)), .fz (L.length + 1) none (lvs (L ++ [newLv sq d.st (n : Int) p]))], .fz n none (actsL c tl us 0 B), .int .i64 0]) s)
    (k2 : (CL.good ⟨c, ⟨ag, sq, tl, us, L⟩, v⟩ ∧ dealB c d.d = true) → ¬ ((noteB (AI.bd ⟨⟨c, ⟨ag, sq, tl, us, L⟩, v⟩, d⟩).note = true ∧ sq ≠ 2147483648) ∧ roomB ⟨⟨ag, sq + 1, tl, us + (d.n : Int), L ++ [newLv sq d.st (d.n : Int) (decide (0 < d.pb.length))]⟩, c⟩ = true) → K (.tup [.agg zLog, .nils, .int .i64 9]) s)
    (k3 : ¬ (CL.good ⟨c, ⟨ag, sq, tl, us, L⟩, v⟩ ∧ dealB c d.d = true) → K (.tup [.agg zLog, .nils, .int .i64 8]) s) :
    ESc e 34 [c.v, .agg [.int .u32 ag, .int .u32 sq, .int .i64 tl, .int .i64 us, v], d.d.v] s K := by
  refine ESc.fam addF h34 ⟨⟨c, ⟨ag, sq, tl, us, L⟩, v⟩, d⟩ ⟨hx, hd⟩ rfl ?_
  show K (addOut _) s
  unfold addOut
  by_cases h : CL.good ⟨c, ⟨ag, sq, tl, us, L⟩, v⟩ ∧ dealB c d.d = true
  · rw [if_pos h]
    by_cases h2 : (noteB (AI.bd ⟨⟨c, ⟨ag, sq, tl, us, L⟩, v⟩, d⟩).note = true ∧ sq ≠ 2147483648) ∧ roomB (AI.ring ⟨⟨c, ⟨ag, sq, tl, us, L⟩, v⟩, d⟩) = true
    · rw [if_pos h2]
      refine k1 h d.n (AI.blks ⟨⟨c, ⟨ag, sq, tl, us, L⟩, v⟩, d⟩) _ rfl rfl ?_ ?_ h2.1.2 h2.1.1 h2.2
      · show (_ :: d.prs.map stoodV).length = _; rw [List.length_cons, List.length_map]; rfl
      · intro b hb
        rcases List.mem_cons.1 (show b ∈ blkV _ :: d.prs.map stoodV from hb) with rfl | hb
        · exact ⟨_, _, rfl⟩
        · obtain ⟨q, _, rfl⟩ := List.mem_map.1 hb
          exact ⟨_, _, rfl⟩
    · rw [if_neg h2]; exact k2 h h2
  · rw [if_neg h]; exact k3 h
theorem places_law (P : Program) (e : Env) (hE : EnvOk P e) (hm : P.follows .mixedOrders = true) (hI : LPIn e) (c : Cfg) (ag sq tl us : Int) (L : List Lv) (v : AV) (hv : LSl L v) (d : DB) (hd : d.any)
    (hok : L.length ≤ 1000 → CL.ok ⟨c, ⟨ag, sq, tl, us, L⟩, v⟩) :
    VW P e 0 code6 (initT [c.v, .agg [.int .u32 ag, .int .u32 sq, .int .i64 tl, .int .i64 us, v], d.d.v] 0 .lf) St0 none [] (EEnd [.tmp 6] (fun u s => u = .bool true)) := by
  have hgr : ∀ (K : AV → St → Prop) (s : St), (grtB d = true → K (.bool true) s) → (grtB d = false → K (.bool false) s) → ESc e 32 [d.d.v] s K := fun K s k1 k2 => by
    cases hq : grtB d
    · exact ESc.fam grtF hI.h32 d hd (by show AV.bool _ = _; rw [hq]) (k2 hq)
    · exact ESc.fam grtF hI.h32 d hd (by show AV.bool _ = _; rw [hq]) (k1 hq)
  have hadd := fun (hx : L.length ≤ 1000) (hg : grtB d = false) => add_call hI.h34 (hok hx) (small_ok hd hg)
  obtain ⟨st, sv, sl, bv, uz, bs, pv, pb⟩ := d
  conv => whnf
  refine ESc.ov hI.h30 rfl ?_
  conv => whnf
  refine ESc.inl hI.h31 ?_
  conv => whnf
  refine EPrim.lenZ rfl hv ?_
  conv => whnf
  refine EPrim.gtr2 rfl rfl (fun hgg => ?_) (fun hgg => ?_) <;> conv => whnf
  · repeat' (first | ((first | refine w1 rfl rfl ?_ ?_ | refine w2 rfl rfl ?_ ?_ | refine w3 rfl rfl ?_ ?_ | refine w4 rfl rfl ?_ ?_ | refine w5 rfl rfl ?_ ?_ | refine w6 rfl rfl ?_ ?_) <;> intro _ <;> first | (exfalso; omega) | (conv => whnf)) | ((first | refine w7 rfl rfl (by omega) ?_ | refine w8 rfl rfl (by omega) ?_ | refine w9 rfl rfl (by omega) ?_ | refine w10 rfl rfl ?_ | refine w11 rfl rfl ?_ | refine w12 rfl ?_ | refine w13 rfl ?_ | refine w14 (q' := .i64) rfl (i64_in (by omega)) ?_ | refine w14 (q' := .u32) rfl (u32_in (by omega)) ?_ | refine w14 (q' := .u8) rfl (u8_in (by omega)) ?_ | refine w15 rfl rfl ?_ | refine w16 rfl ?_ | refine w17 rfl ?_ | refine w18 rfl ?_ | refine ⟨rfl, ?_⟩); conv => whnf) | (refine w19 rfl ?_ ?_ <;> intro hc <;> (try subst hc) <;> conv => whnf))
    rfl
  refine hgr _ _ (fun hg => ?_) (fun hg => ?_)
  · conv => whnf
    repeat' (first | ((first | refine w1 rfl rfl ?_ ?_ | refine w2 rfl rfl ?_ ?_ | refine w3 rfl rfl ?_ ?_ | refine w4 rfl rfl ?_ ?_ | refine w5 rfl rfl ?_ ?_ | refine w6 rfl rfl ?_ ?_) <;> intro _ <;> first | (exfalso; omega) | (conv => whnf)) | ((first | refine w7 rfl rfl (by omega) ?_ | refine w8 rfl rfl (by omega) ?_ | refine w9 rfl rfl (by omega) ?_ | refine w10 rfl rfl ?_ | refine w11 rfl rfl ?_ | refine w12 rfl ?_ | refine w13 rfl ?_ | refine w14 (q' := .i64) rfl (i64_in (by omega)) ?_ | refine w14 (q' := .u32) rfl (u32_in (by omega)) ?_ | refine w14 (q' := .u8) rfl (u8_in (by omega)) ?_ | refine w15 rfl rfl ?_ | refine w16 rfl ?_ | refine w17 rfl ?_ | refine w18 rfl ?_ | refine ⟨rfl, ?_⟩); conv => whnf) | (refine w19 rfl ?_ ?_ <;> intro hc <;> (try subst hc) <;> conv => whnf))
    rfl
  have hx := hok (by omega)
  conv => whnf
  repeat' (first | ((first | refine w1 rfl rfl ?_ ?_ | refine w2 rfl rfl ?_ ?_ | refine w3 rfl rfl ?_ ?_ | refine w4 rfl rfl ?_ ?_ | refine w5 rfl rfl ?_ ?_ | refine w6 rfl rfl ?_ ?_) <;> intro _ <;> first | (exfalso; omega) | (conv => whnf)) | ((first | refine w7 rfl rfl (by omega) ?_ | refine w8 rfl rfl (by omega) ?_ | refine w9 rfl rfl (by omega) ?_ | refine w10 rfl rfl ?_ | refine w11 rfl rfl ?_ | refine w12 rfl ?_ | refine w13 rfl ?_ | refine w14 (q' := .i64) rfl (i64_in (by omega)) ?_ | refine w14 (q' := .u32) rfl (u32_in (by omega)) ?_ | refine w14 (q' := .u8) rfl (u8_in (by omega)) ?_ | refine w15 rfl rfl ?_ | refine w16 rfl ?_ | refine w17 rfl ?_ | refine w18 rfl ?_ | refine ⟨rfl, ?_⟩); conv => whnf) | (refine w19 rfl ?_ ?_ <;> intro hc <;> (try subst hc) <;> conv => whnf))
  refine hadd (by omega) hg _ _ ?_ ?_ ?_
  rotate_left
  · intro _ _
    conv => whnf
    repeat' (first | ((first | refine w1 rfl rfl ?_ ?_ | refine w2 rfl rfl ?_ ?_ | refine w3 rfl rfl ?_ ?_ | refine w4 rfl rfl ?_ ?_ | refine w5 rfl rfl ?_ ?_ | refine w6 rfl rfl ?_ ?_) <;> intro _ <;> first | (exfalso; omega) | (conv => whnf)) | ((first | refine w7 rfl rfl (by omega) ?_ | refine w8 rfl rfl (by omega) ?_ | refine w9 rfl rfl (by omega) ?_ | refine w10 rfl rfl ?_ | refine w11 rfl rfl ?_ | refine w12 rfl ?_ | refine w13 rfl ?_ | refine w14 (q' := .i64) rfl (i64_in (by omega)) ?_ | refine w14 (q' := .u32) rfl (u32_in (by omega)) ?_ | refine w14 (q' := .u8) rfl (u8_in (by omega)) ?_ | refine w15 rfl rfl ?_ | refine w16 rfl ?_ | refine w17 rfl ?_ | refine w18 rfl ?_ | refine ⟨rfl, ?_⟩); conv => whnf) | (refine w19 rfl ?_ ?_ <;> intro hc <;> (try subst hc) <;> conv => whnf))
    rfl
  · intro _
    conv => whnf
    repeat' (first | ((first | refine w1 rfl rfl ?_ ?_ | refine w2 rfl rfl ?_ ?_ | refine w3 rfl rfl ?_ ?_ | refine w4 rfl rfl ?_ ?_ | refine w5 rfl rfl ?_ ?_ | refine w6 rfl rfl ?_ ?_) <;> intro _ <;> first | (exfalso; omega) | (conv => whnf)) | ((first | refine w7 rfl rfl (by omega) ?_ | refine w8 rfl rfl (by omega) ?_ | refine w9 rfl rfl (by omega) ?_ | refine w10 rfl rfl ?_ | refine w11 rfl rfl ?_ | refine w12 rfl ?_ | refine w13 rfl ?_ | refine w14 (q' := .i64) rfl (i64_in (by omega)) ?_ | refine w14 (q' := .u32) rfl (u32_in (by omega)) ?_ | refine w14 (q' := .u8) rfl (u8_in (by omega)) ?_ | refine w15 rfl rfl ?_ | refine w16 rfl ?_ | refine w17 rfl ?_ | refine w18 rfl ?_ | refine ⟨rfl, ?_⟩); conv => whnf) | (refine w19 rfl ?_ ?_ <;> intro hc <;> (try subst hc) <;> conv => whnf))
    rfl
  intro hG n B p hn hp hBl hBz hsq hN hR
  have hM := hG.1.1
  have hgd := good_iff hG.1.2
  have hn2 := deal_n hM hG.2
  rw [← hn] at hn2
  have hun := room_used hR
  dsimp only at hun
  have hmay := hM
  unfold Cfg.may at hmay
  have hsum : us = sumB L := hgd.sum
  have hbb := sumB_bd (A := L) (good_bd hM hgd)
  have htl : 0 ≤ tl ∧ tl < c.log := hgd.tail
  dsimp only at hmay
  clear hadd hok hgr hgd hG
  conv => whnf
  repeat' (first | (refine EPrim.subS (a := us + (n : Int)) (b := us) rfl rfl (by omega) ?_; conv => whnf) | (refine EPrim.gtr2 (a := us + (n : Int)) (b := c.log) rfl rfl (fun _ => ?_) (fun _ => ?_) <;> first | (exfalso; omega) | (conv => whnf)) | ((first | refine w1 rfl rfl ?_ ?_ | refine w2 rfl rfl ?_ ?_ | refine w3 rfl rfl ?_ ?_ | refine w4 rfl rfl ?_ ?_ | refine w5 rfl rfl ?_ ?_ | refine w6 rfl rfl ?_ ?_) <;> intro _ <;> first | (exfalso; omega) | (conv => whnf)) | ((first | refine w7 rfl rfl (by omega) ?_ | refine w8 rfl rfl (by omega) ?_ | refine w9 rfl rfl (by omega) ?_ | refine w10 rfl rfl ?_ | refine w11 rfl rfl ?_ | refine w12 rfl ?_ | refine w13 rfl ?_ | refine w14 (q' := .i64) rfl (i64_in (by omega)) ?_ | refine w14 (q' := .u32) rfl (u32_in (by omega)) ?_ | refine w14 (q' := .u8) rfl (u8_in (by omega)) ?_ | refine w15 rfl rfl ?_ | refine w16 rfl ?_ | refine w17 rfl ?_ | refine w18 rfl ?_ | refine ⟨rfl, ?_⟩); conv => whnf) | (refine w19 rfl ?_ ?_ <;> intro hc <;> (try subst hc) <;> conv => whnf))
  have hSl : Sl 4 n (actsL c tl us 0 B) (.fz n none (actsL c tl us 0 B)) := .inr (.inr ⟨none, rfl, by rw [actsL_length, hBl]⟩)
  have hgf : hfs [.int .u32 ag, .int .u32 sq, .int .i64 tl, .int .i64 us, v] = true := by show (true && (true && (true && (true && (AM.hf v && true))))) = true; rw [hv.hf]; rfl
  have hcm := hx.c.members
  have hP : 0 ≤ (tl + us) % c.log ∧ (tl + us) % c.log < c.log := ⟨Int.emod_nonneg _ (by omega), Int.emod_lt_of_pos _ (by omega)⟩
  have hOn1 : 0 < n → ∀ (K : AV → St → Prop) (s : St), K (.tup [.int .i64 ((tl + us) % c.log), .int .i64 0]) s → ESc e 35 [.int .i64 c.log, .int .i64 tl, .int .i64 us] s K := fun hn K s hk =>
    ESc.fam onF hI.h35 ⟨c.log, tl, us⟩ ⟨by unfold i64B; dsimp only; omega, by unfold i64B; dsimp only; omega, by unfold i64B; dsimp only; omega⟩ (by
      have : onOk ⟨c.log, tl, us⟩ = true := by unfold onOk hasB; dsimp only; rw [decide_eq_true (by omega), decide_eq_true (by omega), decide_eq_true (by omega)]; rfl
      show (if onOk _ then _ else _) = _; rw [if_pos this]) hk
  have hOn2 : ∀ (i : Nat), i < n → ∀ (K : AV → St → Prop) (s : St), (∀ q : Int, q = ((tl + us) % c.log + (i : Int)) % c.log → 0 ≤ q → q < c.log → K (.tup [.int .i64 q, .int .i64 0]) s) → ESc e 35 [.int .i64 c.log, .int .i64 ((tl + us) % c.log), .int .i64 (i : Int)] s K := fun i hi K s hk =>
    ESc.fam onF hI.h35 ⟨c.log, (tl + us) % c.log, (i : Int)⟩ ⟨by unfold i64B; dsimp only; omega, by unfold i64B; dsimp only; omega, by unfold i64B; dsimp only; omega⟩ (by
      have : onOk ⟨c.log, (tl + us) % c.log, (i : Int)⟩ = true := by unfold onOk hasB; dsimp only; rw [decide_eq_true (by omega), decide_eq_true (by omega), decide_eq_true (by omega)]; rfl
      show (if onOk _ then _ else _) = _; rw [if_pos this]) (hk _ rfl (Int.emod_nonneg _ (by omega)) (Int.emod_lt_of_pos _ (by omega)))
  have hGap : ∀ (q : Int), 0 ≤ q ∧ q < c.log → ∀ (K : AV → St → Prop) (s : St), K (.tup [.int .i64 ((q - tl + c.log) % c.log), .int .i64 0]) s → ESc e 36 [.int .i64 c.log, .int .i64 tl, .int .i64 q] s K := fun q hq K s hk =>
    ESc.fam gapF hI.h36 ⟨c.log, tl, q⟩ ⟨by unfold i64B; dsimp only; omega, by unfold i64B; dsimp only; omega, by unfold i64B; dsimp only; omega⟩ (by
      have : gapOk ⟨c.log, tl, q⟩ = true := by unfold gapOk hasB; dsimp only; rw [decide_eq_true (by omega), decide_eq_true (by omega)]; rfl
      show (if gapOk _ then _ else _) = _; rw [if_pos this]) hk
  refine W.loopT (α := Nat) (fun i => [(3, .ptr 0 0), (4, .ptr 1 0), (7, .bool true), (9, .fz n none (actsL c tl us 0 B)), (11, .int .i64 (i : Int))]) (fun _ => [.row 24 [.int .u32 c.id, .int .i64 c.members, .int .i64 c.chunk, .int .i64 c.rows, .int .i64 c.log, .int .i64 c.heads], .row 56 [.int .u32 ag, .int .u32 sq, .int .i64 tl, .int .i64 us, v]]) (fun i => n - i) (fun i => i ≤ n) 0 (Nat.zero_le _)
    (Abs.tells (rs := [0, 1]) ⟨by decide, ⟨⟨rfl, rfl⟩, ⟨rfl, rfl⟩, ⟨rfl, rfl⟩, ⟨rfl, rfl⟩, ⟨rfl, rfl⟩, trivial⟩, ⟨⟨rfl, rfl⟩, ⟨rowH hgf, by rw [mapRowH hgf]; rfl⟩, trivial⟩⟩) ?_
  intro i hi
  refine vw_sound hE hm ?_
  by_cases hlt : i < n
  · have hlb : i < B.length := by omega
    obtain ⟨b2, b3, hb⟩ := hBz _ (List.getElem_mem hlb)
    have hdrop : (actsL c tl us 0 B).drop (i * 4) = .int .i64 c.members :: .int .u8 1 :: .int .i64 (1 + ((tl + us) % c.log + (i : Int)) % c.log) :: .fz 128 b2 b3 :: actsL c tl us (i + 1) (B.drop (i + 1)) := by
      rw [actsL_drop, List.drop_eq_getElem_cons hlb, hb, Nat.zero_add]; rfl
    conv => whnf
    repeat' (first | ((first | refine w1 rfl rfl ?_ ?_ | refine w2 rfl rfl ?_ ?_ | refine w3 rfl rfl ?_ ?_ | refine w4 rfl rfl ?_ ?_ | refine w5 rfl rfl ?_ ?_ | refine w6 rfl rfl ?_ ?_) <;> intro _ <;> first | (exfalso; omega) | (conv => whnf)) | ((first | refine w7 rfl rfl (by omega) ?_ | refine w8 rfl rfl (by omega) ?_ | refine w9 rfl rfl (by omega) ?_ | refine w10 rfl rfl ?_ | refine w11 rfl rfl ?_ | refine w12 rfl ?_ | refine w13 rfl ?_ | refine w14 (q' := .i64) rfl (i64_in (by omega)) ?_ | refine w14 (q' := .u32) rfl (u32_in (by omega)) ?_ | refine w14 (q' := .u8) rfl (u8_in (by omega)) ?_ | refine w15 rfl rfl ?_ | refine w16 rfl ?_ | refine w17 rfl ?_ | refine w18 rfl ?_ | refine ⟨rfl, ?_⟩); conv => whnf) | (refine w19 rfl ?_ ?_ <;> intro hc <;> (try subst hc) <;> conv => whnf))
    refine hOn1 (by omega) _ _ ?_
    conv => whnf
    refine hOn2 i hlt _ _ (fun q hq hq0 hq1 => ?_)
    have hge := gap_ge htl (by omega) (Int.natCast_nonneg i) (by omega) hq
    rw [← hq] at hdrop
    conv => whnf
    repeat' (first | (refine EPrim.ixsS rfl hSl rfl hlt ?_; rw [hdrop]; conv => whnf) | (refine EHead.mk rfl ?_; conv => whnf) | (refine EPrim.neq2 (a := c.members) (b := c.members) rfl rfl (fun h => absurd rfl h) (fun _ => ?_); conv => whnf) | (refine EPrim.addS (a := 1) (b := q) rfl rfl (by omega) ?_; conv => whnf) | (refine EPrim.neq2 (a := 1 + q) (b := 1 + q) rfl rfl (fun h => absurd rfl h) (fun _ => ?_); conv => whnf) | ((first | refine w1 rfl rfl ?_ ?_ | refine w2 rfl rfl ?_ ?_ | refine w3 rfl rfl ?_ ?_ | refine w4 rfl rfl ?_ ?_ | refine w5 rfl rfl ?_ ?_ | refine w6 rfl rfl ?_ ?_) <;> intro _ <;> first | (exfalso; omega) | (conv => whnf)) | ((first | refine w7 rfl rfl (by omega) ?_ | refine w8 rfl rfl (by omega) ?_ | refine w9 rfl rfl (by omega) ?_ | refine w10 rfl rfl ?_ | refine w11 rfl rfl ?_ | refine w12 rfl ?_ | refine w13 rfl ?_ | refine w14 (q' := .i64) rfl (i64_in (by omega)) ?_ | refine w14 (q' := .u32) rfl (u32_in (by omega)) ?_ | refine w14 (q' := .u8) rfl (u8_in (by omega)) ?_ | refine w15 rfl rfl ?_ | refine w16 rfl ?_ | refine w17 rfl ?_ | refine w18 rfl ?_ | refine ⟨rfl, ?_⟩); conv => whnf) | (refine w19 rfl ?_ ?_ <;> intro hc <;> (try subst hc) <;> conv => whnf))
    refine hGap q ⟨hq0, hq1⟩ _ _ ?_
    conv => whnf
    repeat' (first | (refine EPrim.lss2 (a := (q - tl + c.log) % c.log) (b := us) rfl rfl (fun h => by omega) (fun _ => ?_); conv => whnf) | ((first | refine w1 rfl rfl ?_ ?_ | refine w2 rfl rfl ?_ ?_ | refine w3 rfl rfl ?_ ?_ | refine w4 rfl rfl ?_ ?_ | refine w5 rfl rfl ?_ ?_ | refine w6 rfl rfl ?_ ?_) <;> intro _ <;> first | (exfalso; omega) | (conv => whnf)) | ((first | refine w7 rfl rfl (by omega) ?_ | refine w8 rfl rfl (by omega) ?_ | refine w9 rfl rfl (by omega) ?_ | refine w10 rfl rfl ?_ | refine w11 rfl rfl ?_ | refine w12 rfl ?_ | refine w13 rfl ?_ | refine w14 (q' := .i64) rfl (i64_in (by omega)) ?_ | refine w14 (q' := .u32) rfl (u32_in (by omega)) ?_ | refine w14 (q' := .u8) rfl (u8_in (by omega)) ?_ | refine w15 rfl rfl ?_ | refine w16 rfl ?_ | refine w17 rfl ?_ | refine w18 rfl ?_ | refine ⟨rfl, ?_⟩); conv => whnf) | (refine w19 rfl ?_ ?_ <;> intro hc <;> (try subst hc) <;> conv => whnf))
    refine ⟨i + 1, by omega, by omega, Abs.tells (rs := [0, 1]) ⟨by decide, ⟨⟨rfl, rfl⟩, ⟨rfl, rfl⟩, ⟨rfl, rfl⟩, ⟨rfl, rfl⟩, ⟨rfl, rfl⟩, trivial⟩, ⟨⟨rfl, rfl⟩, ⟨rowH hgf, by rw [mapRowH hgf]; rfl⟩, trivial⟩⟩⟩
  · conv => whnf
    repeat' (first | ((first | refine w1 rfl rfl ?_ ?_ | refine w2 rfl rfl ?_ ?_ | refine w3 rfl rfl ?_ ?_ | refine w4 rfl rfl ?_ ?_ | refine w5 rfl rfl ?_ ?_ | refine w6 rfl rfl ?_ ?_) <;> intro _ <;> first | (exfalso; omega) | (conv => whnf)) | ((first | refine w7 rfl rfl (by omega) ?_ | refine w8 rfl rfl (by omega) ?_ | refine w9 rfl rfl (by omega) ?_ | refine w10 rfl rfl ?_ | refine w11 rfl rfl ?_ | refine w12 rfl ?_ | refine w13 rfl ?_ | refine w14 (q' := .i64) rfl (i64_in (by omega)) ?_ | refine w14 (q' := .u32) rfl (u32_in (by omega)) ?_ | refine w14 (q' := .u8) rfl (u8_in (by omega)) ?_ | refine w15 rfl rfl ?_ | refine w16 rfl ?_ | refine w17 rfl ?_ | refine w18 rfl ?_ | refine ⟨rfl, ?_⟩); conv => whnf) | (refine w19 rfl ?_ ?_ <;> intro hc <;> (try subst hc) <;> conv => whnf))
    rfl
end Go.AM

set_option linter.unusedVariables false
set_option maxRecDepth 100000
namespace Go.AM
attribute [local irreducible] W
open X
/-! a deal that may be has a note that may be -/
theorem recB_zip {n : Nat} {top : Int} (ht : top ≤ 14) (T : List Rc) : ∀ (sl : List Int) (bs : List (List Nat)) (i : Nat) (la : Int), bs.length = sl.length → la ≤ 14 → slotB top la sl = true → (∀ la' : Int, la' ≤ 14 → recB n (i + sl.length) la' T = true) → recB n i la ((sl.zip bs).map recN ++ T) = true
  | [], bs, i, la, hb, hl, hs, hT => by simpa using hT la hl
  | s :: sl, [], i, la, hb, hl, hs, hT => by simp at hb
  | s :: sl, b :: bs, i, la, hb, hl, hs, hT => by
    have hs : (decide (la < s ∧ s ≤ top) && slotB top s sl) = true := hs
    rw [Bool.and_eq_true, decide_eq_true_eq] at hs
    show (decide (la < s ∧ ((s = 255 ∧ 0 < i ∧ i + 1 = n) ∨ s ≤ 14)) && recB n (i + 1) s ((sl.zip bs).map recN ++ T)) = true
    rw [decide_eq_true (by omega), Bool.true_and]
    exact recB_zip ht T sl bs (i + 1) s (by simpa using hb) (by omega) hs.2 (fun la' h => by rw [show i + 1 + sl.length = i + (s :: sl).length by rw [List.length_cons]; omega]; exact hT la' h)
theorem noteB_deal {c : Cfg} {ag sq : Int} {d : DB} (hM : c.may) (hD : dealB c d.d = true) (ha : 1 ≤ ag ∧ ag ≤ 2147483648) (hs : 1 ≤ sq ∧ sq ≤ 2147483648) : noteB (BD.note ⟨c, ag, sq, d⟩) = true := by
  have hn := deal_n hM hD
  have hM' := hM
  unfold Cfg.may at hM'
  unfold dealB at hD
  simp only [Bool.and_eq_true, decide_eq_true_eq, Bool.not_eq_true'] at hD
  obtain ⟨⟨⟨⟨_, hst⟩, hsl⟩, hb⟩, _⟩ := hD
  have hb : d.bs.length = d.sl.length := by simpa [DB.d] using hb
  have hst : 0 ≤ d.st ∧ d.st < c.chunk * c.rows := hst
  have hsl : slotsOk (c.members - 2) d.sl = true := hsl
  have h0 := slotsOk_pos hsl
  unfold DB.n at hn
  have h64 : c.chunk * c.rows ≤ 64 := by
    have h1 : c.chunk * c.rows ≤ 8 * c.rows := Int.mul_le_mul_of_nonneg_right (by omega) (by omega)
    omega
  unfold noteB
  have hh : headB (BD.note ⟨c, ag, sq, d⟩) = true := by
    unfold headB
    refine decide_eq_true ⟨⟨?_, ?_⟩, ha, hs, ?_⟩
    · show 1 ≤ (d.prs.map recN).length; rw [List.length_map]; omega
    · show (d.prs.map recN).length ≤ 16; rw [List.length_map]; omega
    · show 0 ≤ d.st ∧ d.st < 64; omega
  rw [hh, Bool.true_and]
  show recB (d.prs.map recN).length 0 (-1) (d.prs.map recN) = true
  rw [List.length_map]
  have hz : (d.sl.zip d.bs).length = d.sl.length := by rw [List.length_zip]; omega
  unfold slotsOk at hsl
  rw [Bool.and_eq_true] at hsl
  unfold DB.prs
  rw [List.map_append, List.length_append, hz]
  refine recB_zip (by omega) _ _ _ 0 (-1) hb (by omega) hsl.1 (fun la' hl => ?_)
  split
  · rfl
  · show (decide (la' < 255 ∧ (((255 : Int) = 255 ∧ 0 < 0 + d.sl.length ∧ 0 + d.sl.length + 1 = d.sl.length + [(255, d.pb)].length) ∨ (255 : Int) ≤ 14)) && true) = true
    rw [decide_eq_true ⟨by omega, .inl ⟨rfl, by omega, by rw [List.length_singleton]; omega⟩⟩]; rfl
/-! LogRoom -/
def code5 : AC := match a5 with | .mk c _ => c
structure LRIn (e : Env) : Prop where
  h30 : Con e 30 trueO
  h31 : Inl e 31 code31 [.tmp 2]
  h32 : Con e 32 grtF.O
  h33 : Con e 33 lchkF.O
  h34 : Con e 34 addF.O
def dtyB (s : Int) (L : List Lv) : Bool := match lastPar s L with
  | some b => !b
  | none => false
theorem dtyB_snoc (s : Int) (L : List Lv) (x : Lv) : dtyB s (L ++ [x]) = if x.stripe = s then !x.par else dtyB s L := by
  unfold dtyB
  rw [lastPar_snoc]
  by_cases h : x.stripe = s
  · rw [if_pos h, if_pos h]
  · rw [if_neg h, if_neg h]
theorem dtyB_mem {s : Int} {L : List Lv} (h : dtyB s L = true) : s ∈ dirtyL L := by
  rw [(dirtyL_spec L).2]
  unfold dtyB at h
  cases hq : lastPar s L with
  | none => rw [hq] at h; cases h
  | some b => rw [hq] at h; cases b with
    | false => rfl
    | true => cases h
theorem lvs_drop_cons {L : List Lv} {i : Nat} (h : i < L.length) : (lvs L).drop (i * 6) = L[i].c ++ lvs (L.drop (i + 1)) := by
  rw [lvs_drop, List.drop_eq_getElem_cons h, lvs_cons]
theorem room_law (P : Program) (e : Env) (hE : EnvOk P e) (hm : P.follows .mixedOrders = true) (hI : LRIn e) (c : Cfg) (ag sq tl us : Int) (L : List Lv) (v : AV) (hv : LSl L v) (d : DB) (hd : d.any)
    (hok : L.length ≤ 1000 → CL.ok ⟨c, ⟨ag, sq, tl, us, L⟩, v⟩) :
    VW P e 0 code5 (initT [c.v, .agg [.int .u32 ag, .int .u32 sq, .int .i64 tl, .int .i64 us, v], d.d.v] 0 .lf) St0 none [] (EEnd [.tmp 6] (fun u s => u = .bool true)) := by
  have hgr : ∀ (K : AV → St → Prop) (s : St), (grtB d = true → K (.bool true) s) → (grtB d = false → K (.bool false) s) → ESc e 32 [d.d.v] s K := fun K s k1 k2 => by
    cases hq : grtB d
    · exact ESc.fam grtF hI.h32 d hd (by show AV.bool _ = _; rw [hq]) (k2 hq)
    · exact ESc.fam grtF hI.h32 d hd (by show AV.bool _ = _; rw [hq]) (k1 hq)
  have hadd := fun (hx : L.length ≤ 1000) (hg : grtB d = false) => add_call hI.h34 (hok hx) (small_ok hd hg)
  have hnt := fun (hM : c.may) (hD : dealB c d.d = true) => noteB_deal (ag := ag) (sq := sq) hM hD
  have hdn := fun (hM : c.may) (hD : dealB c d.d = true) => deal_n hM hD
  have hDf := DB.anyhf hd
  have hpb := hd.pb.1
  obtain ⟨st, sv, sl, bv, uz, bs, pv, pb⟩ := d
  have hDf : hfs [.int .i64 st, sv, bv, pv] = true := hDf
  dsimp only at hpb
  conv => whnf
  refine ESc.ov hI.h30 rfl ?_
  conv => whnf
  refine ESc.inl hI.h31 ?_
  conv => whnf
  refine EPrim.lenZ rfl hv ?_
  conv => whnf
  refine EPrim.gtr2 rfl rfl (fun hgg => ?_) (fun hgg => ?_) <;> conv => whnf
  · repeat' (first | ((first | refine w1 rfl rfl ?_ ?_ | refine w2 rfl rfl ?_ ?_ | refine w3 rfl rfl ?_ ?_ | refine w4 rfl rfl ?_ ?_ | refine w5 rfl rfl ?_ ?_ | refine w6 rfl rfl ?_ ?_) <;> intro _ <;> first | (exfalso; omega) | (conv => whnf)) | ((first | refine w7 rfl rfl (by omega) ?_ | refine w8 rfl rfl (by omega) ?_ | refine w9 rfl rfl (by omega) ?_ | refine w10 rfl rfl ?_ | refine w11 rfl rfl ?_ | refine w12 rfl ?_ | refine w13 rfl ?_ | refine w14 (q' := .i64) rfl (i64_in (by omega)) ?_ | refine w14 (q' := .u32) rfl (u32_in (by omega)) ?_ | refine w14 (q' := .u8) rfl (u8_in (by omega)) ?_ | refine w15 rfl rfl ?_ | refine w16 rfl ?_ | refine w17 rfl ?_ | refine w18 rfl ?_ | refine ⟨rfl, ?_⟩); conv => whnf) | (refine w19 rfl ?_ ?_ <;> intro hc <;> (try subst hc) <;> conv => whnf))
    rfl
  refine hgr _ _ (fun hg => ?_) (fun hg => ?_)
  · conv => whnf
    repeat' (first | ((first | refine w1 rfl rfl ?_ ?_ | refine w2 rfl rfl ?_ ?_ | refine w3 rfl rfl ?_ ?_ | refine w4 rfl rfl ?_ ?_ | refine w5 rfl rfl ?_ ?_ | refine w6 rfl rfl ?_ ?_) <;> intro _ <;> first | (exfalso; omega) | (conv => whnf)) | ((first | refine w7 rfl rfl (by omega) ?_ | refine w8 rfl rfl (by omega) ?_ | refine w9 rfl rfl (by omega) ?_ | refine w10 rfl rfl ?_ | refine w11 rfl rfl ?_ | refine w12 rfl ?_ | refine w13 rfl ?_ | refine w14 (q' := .i64) rfl (i64_in (by omega)) ?_ | refine w14 (q' := .u32) rfl (u32_in (by omega)) ?_ | refine w14 (q' := .u8) rfl (u8_in (by omega)) ?_ | refine w15 rfl rfl ?_ | refine w16 rfl ?_ | refine w17 rfl ?_ | refine w18 rfl ?_ | refine ⟨rfl, ?_⟩); conv => whnf) | (refine w19 rfl ?_ ?_ <;> intro hc <;> (try subst hc) <;> conv => whnf))
    rfl
  have hx := hok (by omega)
  have hadd := hadd (by omega) hg
  conv => whnf
  repeat' (first | ((first | refine w1 rfl rfl ?_ ?_ | refine w2 rfl rfl ?_ ?_ | refine w3 rfl rfl ?_ ?_ | refine w4 rfl rfl ?_ ?_ | refine w5 rfl rfl ?_ ?_ | refine w6 rfl rfl ?_ ?_) <;> intro _ <;> first | (exfalso; omega) | (conv => whnf)) | ((first | refine w7 rfl rfl (by omega) ?_ | refine w8 rfl rfl (by omega) ?_ | refine w9 rfl rfl (by omega) ?_ | refine w10 rfl rfl ?_ | refine w11 rfl rfl ?_ | refine w12 rfl ?_ | refine w13 rfl ?_ | refine w14 (q' := .i64) rfl (i64_in (by omega)) ?_ | refine w14 (q' := .u32) rfl (u32_in (by omega)) ?_ | refine w14 (q' := .u8) rfl (u8_in (by omega)) ?_ | refine w15 rfl rfl ?_ | refine w16 rfl ?_ | refine w17 rfl ?_ | refine w18 rfl ?_ | refine ⟨rfl, ?_⟩); conv => whnf) | (refine w19 rfl ?_ ?_ <;> intro hc <;> (try subst hc) <;> conv => whnf))
  by_cases hG : (⟨c, ⟨ag, sq, tl, us, L⟩, v⟩ : CL).good
  · have hM : c.may := hG.1
    have hgd := good_iff hG.2
    have hsq1 : 1 ≤ sq ∧ sq ≤ 2147483648 := hgd.seq
    have hag1 : 1 ≤ ag ∧ ag ≤ 2147483648 := hgd.age
    refine ESc.fam lchkF hI.h33 ⟨c, ⟨ag, sq, tl, us, L⟩, v⟩ hx (u := .int .i64 0) (by simp [lchkF, hG]) ?_
    conv => whnf
    repeat' (first | (refine EPrim.lenZ rfl hpb ?_; conv => whnf) | ((first | refine w1 rfl rfl ?_ ?_ | refine w2 rfl rfl ?_ ?_ | refine w3 rfl rfl ?_ ?_ | refine w4 rfl rfl ?_ ?_ | refine w5 rfl rfl ?_ ?_ | refine w6 rfl rfl ?_ ?_) <;> intro _ <;> first | (exfalso; omega) | (conv => whnf)) | ((first | refine w7 rfl rfl (by omega) ?_ | refine w8 rfl rfl (by omega) ?_ | refine w9 rfl rfl (by omega) ?_ | refine w10 rfl rfl ?_ | refine w11 rfl rfl ?_ | refine w12 rfl ?_ | refine w13 rfl ?_ | refine w14 (q' := .i64) rfl (i64_in (by omega)) ?_ | refine w14 (q' := .u32) rfl (u32_in (by omega)) ?_ | refine w14 (q' := .u8) rfl (u8_in (by omega)) ?_ | refine w15 rfl rfl ?_ | refine w16 rfl ?_ | refine w17 rfl ?_ | refine w18 rfl ?_ | refine ⟨rfl, ?_⟩); conv => whnf) | (refine w19 rfl ?_ ?_ <;> intro hc <;> (try subst hc) <;> conv => whnf))
    all_goals try rfl
    rename_i hpz hsq2
    have hpp : 0 < pb.length := by omega
    have hgf : hfs [.int .u32 ag, .int .u32 sq, .int .i64 tl, .int .i64 us, v] = true := by show (true && (true && (true && (true && (AM.hf v && true))))) = true; rw [hv.hf]; rfl
    refine W.loopT (α := Nat) (fun i => [(3, .ptr 0 0), (4, .ptr 1 0), (5, .ptr 2 0), (7, .bool true), (8, .bool (dtyB st (L.take i))), (9, .int .i64 (i : Int))]) (fun _ => [.row 24 [.int .u32 c.id, .int .i64 c.members, .int .i64 c.chunk, .int .i64 c.rows, .int .i64 c.log, .int .i64 c.heads], .row 56 [.int .u32 ag, .int .u32 sq, .int .i64 tl, .int .i64 us, v], .row 34 [.int .i64 st, sv, bv, pv]]) (fun i => L.length - i) (fun i => i ≤ L.length) 0 (Nat.zero_le _)
      (Abs.tells (rs := [0, 1, 2]) ⟨by decide, ⟨⟨rfl, rfl⟩, ⟨rfl, rfl⟩, ⟨rfl, rfl⟩, ⟨rfl, rfl⟩, ⟨rfl, rfl⟩, ⟨rfl, rfl⟩, trivial⟩, ⟨⟨rfl, rfl⟩, ⟨rowH hgf, by rw [mapRowH hgf]; rfl⟩, ⟨rowH hDf, by rw [mapRowH hDf]; rfl⟩, trivial⟩⟩) ?_
    intro i hi
    refine vw_sound hE hm ?_
    by_cases hlt : i < L.length
    · have hdrop := lvs_drop_cons hlt
      have hst : dtyB st (L.take (i + 1)) = if L[i].stripe = st then !L[i].par else dtyB st (L.take i) := by rw [List.take_succ_eq_append_getElem hlt, dtyB_snoc]
      revert hdrop hst
      generalize L[i] = x
      obtain ⟨x1, x2, x3, x4, x5, x6⟩ := x
      intro hdrop hst
      have hdrop : (lvs L).drop (i * 6) = [.int .u32 x1, .int .i64 x2, .int .i64 x3, .bool x4, .bool x5, .bool x6] ++ lvs (L.drop (i + 1)) := hdrop
      dsimp only at hst
      conv => whnf
      refine EPrim.lenZ rfl hv ?_
      conv => whnf
      refine EPrim.lss2 rfl rfl (fun _ => ?_) (fun h => by omega)
      conv => whnf
      refine EPrim.ixsS rfl hv rfl hlt ?_
      rw [hdrop]
      conv => whnf
      refine EHead.mk rfl ?_
      conv => whnf
      refine EPrim.eql2 (a := x2) (b := st) rfl rfl (fun h => ?_) (fun h => ?_)
      · rw [if_pos h] at hst
        conv => whnf
        refine EPrim.ixsS rfl hv rfl hlt ?_
        rw [hdrop]
        conv => whnf
        refine EHead.mk rfl ?_
        cases x4
        · conv => whnf
          repeat' (first | ((first | refine w1 rfl rfl ?_ ?_ | refine w2 rfl rfl ?_ ?_ | refine w3 rfl rfl ?_ ?_ | refine w4 rfl rfl ?_ ?_ | refine w5 rfl rfl ?_ ?_ | refine w6 rfl rfl ?_ ?_) <;> intro _ <;> first | (exfalso; omega) | (conv => whnf)) | ((first | refine w7 rfl rfl (by omega) ?_ | refine w8 rfl rfl (by omega) ?_ | refine w9 rfl rfl (by omega) ?_ | refine w10 rfl rfl ?_ | refine w11 rfl rfl ?_ | refine w12 rfl ?_ | refine w13 rfl ?_ | refine w14 (q' := .i64) rfl (i64_in (by omega)) ?_ | refine w14 (q' := .u32) rfl (u32_in (by omega)) ?_ | refine w14 (q' := .u8) rfl (u8_in (by omega)) ?_ | refine w15 rfl rfl ?_ | refine w16 rfl ?_ | refine w17 rfl ?_ | refine w18 rfl ?_ | refine ⟨rfl, ?_⟩); conv => whnf) | (refine w19 rfl ?_ ?_ <;> intro hc <;> (try subst hc) <;> conv => whnf))
          refine ⟨i + 1, by omega, by omega, Abs.tells (rs := [0, 1, 2]) ⟨by decide, ⟨⟨rfl, rfl⟩, ⟨rfl, rfl⟩, ⟨rfl, rfl⟩, ⟨rfl, rfl⟩, ⟨rfl, by rw [hst]; rfl⟩, ⟨rfl, rfl⟩, trivial⟩, ⟨⟨rfl, rfl⟩, ⟨rowH hgf, by rw [mapRowH hgf]; rfl⟩, ⟨rowH hDf, by rw [mapRowH hDf]; rfl⟩, trivial⟩⟩⟩
        · conv => whnf
          repeat' (first | ((first | refine w1 rfl rfl ?_ ?_ | refine w2 rfl rfl ?_ ?_ | refine w3 rfl rfl ?_ ?_ | refine w4 rfl rfl ?_ ?_ | refine w5 rfl rfl ?_ ?_ | refine w6 rfl rfl ?_ ?_) <;> intro _ <;> first | (exfalso; omega) | (conv => whnf)) | ((first | refine w7 rfl rfl (by omega) ?_ | refine w8 rfl rfl (by omega) ?_ | refine w9 rfl rfl (by omega) ?_ | refine w10 rfl rfl ?_ | refine w11 rfl rfl ?_ | refine w12 rfl ?_ | refine w13 rfl ?_ | refine w14 (q' := .i64) rfl (i64_in (by omega)) ?_ | refine w14 (q' := .u32) rfl (u32_in (by omega)) ?_ | refine w14 (q' := .u8) rfl (u8_in (by omega)) ?_ | refine w15 rfl rfl ?_ | refine w16 rfl ?_ | refine w17 rfl ?_ | refine w18 rfl ?_ | refine ⟨rfl, ?_⟩); conv => whnf) | (refine w19 rfl ?_ ?_ <;> intro hc <;> (try subst hc) <;> conv => whnf))
          refine ⟨i + 1, by omega, by omega, Abs.tells (rs := [0, 1, 2]) ⟨by decide, ⟨⟨rfl, rfl⟩, ⟨rfl, rfl⟩, ⟨rfl, rfl⟩, ⟨rfl, rfl⟩, ⟨rfl, by rw [hst]; rfl⟩, ⟨rfl, rfl⟩, trivial⟩, ⟨⟨rfl, rfl⟩, ⟨rowH hgf, by rw [mapRowH hgf]; rfl⟩, ⟨rowH hDf, by rw [mapRowH hDf]; rfl⟩, trivial⟩⟩⟩
      · rw [if_neg h] at hst
        conv => whnf
        repeat' (first | ((first | refine w1 rfl rfl ?_ ?_ | refine w2 rfl rfl ?_ ?_ | refine w3 rfl rfl ?_ ?_ | refine w4 rfl rfl ?_ ?_ | refine w5 rfl rfl ?_ ?_ | refine w6 rfl rfl ?_ ?_) <;> intro _ <;> first | (exfalso; omega) | (conv => whnf)) | ((first | refine w7 rfl rfl (by omega) ?_ | refine w8 rfl rfl (by omega) ?_ | refine w9 rfl rfl (by omega) ?_ | refine w10 rfl rfl ?_ | refine w11 rfl rfl ?_ | refine w12 rfl ?_ | refine w13 rfl ?_ | refine w14 (q' := .i64) rfl (i64_in (by omega)) ?_ | refine w14 (q' := .u32) rfl (u32_in (by omega)) ?_ | refine w14 (q' := .u8) rfl (u8_in (by omega)) ?_ | refine w15 rfl rfl ?_ | refine w16 rfl ?_ | refine w17 rfl ?_ | refine w18 rfl ?_ | refine ⟨rfl, ?_⟩); conv => whnf) | (refine w19 rfl ?_ ?_ <;> intro hc <;> (try subst hc) <;> conv => whnf))
        refine ⟨i + 1, by omega, by omega, Abs.tells (rs := [0, 1, 2]) ⟨by decide, ⟨⟨rfl, rfl⟩, ⟨rfl, rfl⟩, ⟨rfl, rfl⟩, ⟨rfl, rfl⟩, ⟨rfl, by rw [hst]; rfl⟩, ⟨rfl, rfl⟩, trivial⟩, ⟨⟨rfl, rfl⟩, ⟨rowH hgf, by rw [mapRowH hgf]; rfl⟩, ⟨rowH hDf, by rw [mapRowH hDf]; rfl⟩, trivial⟩⟩⟩
    · have hit : L.take i = L := List.take_of_length_le (by omega)
      rw [hit]
      conv => whnf
      refine EPrim.lenZ rfl hv ?_
      conv => whnf
      refine EPrim.lss2 rfl rfl (fun h => by omega) (fun _ => ?_)
      conv => whnf
      refine hadd _ _ ?_ ?_ ?_
      · intro _ n B p _ _ _ _ _ _ _
        cases dtyB st L <;> conv => whnf
        · repeat' (first | ((first | refine w1 rfl rfl ?_ ?_ | refine w2 rfl rfl ?_ ?_ | refine w3 rfl rfl ?_ ?_ | refine w4 rfl rfl ?_ ?_ | refine w5 rfl rfl ?_ ?_ | refine w6 rfl rfl ?_ ?_) <;> intro _ <;> first | (exfalso; omega) | (conv => whnf)) | ((first | refine w7 rfl rfl (by omega) ?_ | refine w8 rfl rfl (by omega) ?_ | refine w9 rfl rfl (by omega) ?_ | refine w10 rfl rfl ?_ | refine w11 rfl rfl ?_ | refine w12 rfl ?_ | refine w13 rfl ?_ | refine w14 (q' := .i64) rfl (i64_in (by omega)) ?_ | refine w14 (q' := .u32) rfl (u32_in (by omega)) ?_ | refine w14 (q' := .u8) rfl (u8_in (by omega)) ?_ | refine w15 rfl rfl ?_ | refine w16 rfl ?_ | refine w17 rfl ?_ | refine w18 rfl ?_ | refine ⟨rfl, ?_⟩); conv => whnf) | (refine w19 rfl ?_ ?_ <;> intro hc <;> (try subst hc) <;> conv => whnf))
          rfl
        · repeat' (first | ((first | refine w1 rfl rfl ?_ ?_ | refine w2 rfl rfl ?_ ?_ | refine w3 rfl rfl ?_ ?_ | refine w4 rfl rfl ?_ ?_ | refine w5 rfl rfl ?_ ?_ | refine w6 rfl rfl ?_ ?_) <;> intro _ <;> first | (exfalso; omega) | (conv => whnf)) | ((first | refine w7 rfl rfl (by omega) ?_ | refine w8 rfl rfl (by omega) ?_ | refine w9 rfl rfl (by omega) ?_ | refine w10 rfl rfl ?_ | refine w11 rfl rfl ?_ | refine w12 rfl ?_ | refine w13 rfl ?_ | refine w14 (q' := .i64) rfl (i64_in (by omega)) ?_ | refine w14 (q' := .u32) rfl (u32_in (by omega)) ?_ | refine w14 (q' := .u8) rfl (u8_in (by omega)) ?_ | refine w15 rfl rfl ?_ | refine w16 rfl ?_ | refine w17 rfl ?_ | refine w18 rfl ?_ | refine ⟨rfl, ?_⟩); conv => whnf) | (refine w19 rfl ?_ ?_ <;> intro hc <;> (try subst hc) <;> conv => whnf))
          rfl
      · intro hGD hno
        have hD0 : dtyB st L = false := by
          cases hq : dtyB st L with
          | false => rfl
          | true =>
            exfalso
            refine hno ⟨⟨hnt hM hGD.2 hag1 hsq1, hsq2⟩, ?_⟩
            have hn2 := hdn hM hGD.2
            refine room_par hM hgd st _ (dtyB_mem hq) ⟨by omega, hn2.2⟩ (sq + 1) _ rfl ?_
            exact decide_eq_true hpp
        rw [hD0]
        conv => whnf
        repeat' (first | ((first | refine w1 rfl rfl ?_ ?_ | refine w2 rfl rfl ?_ ?_ | refine w3 rfl rfl ?_ ?_ | refine w4 rfl rfl ?_ ?_ | refine w5 rfl rfl ?_ ?_ | refine w6 rfl rfl ?_ ?_) <;> intro _ <;> first | (exfalso; omega) | (conv => whnf)) | ((first | refine w7 rfl rfl (by omega) ?_ | refine w8 rfl rfl (by omega) ?_ | refine w9 rfl rfl (by omega) ?_ | refine w10 rfl rfl ?_ | refine w11 rfl rfl ?_ | refine w12 rfl ?_ | refine w13 rfl ?_ | refine w14 (q' := .i64) rfl (i64_in (by omega)) ?_ | refine w14 (q' := .u32) rfl (u32_in (by omega)) ?_ | refine w14 (q' := .u8) rfl (u8_in (by omega)) ?_ | refine w15 rfl rfl ?_ | refine w16 rfl ?_ | refine w17 rfl ?_ | refine w18 rfl ?_ | refine ⟨rfl, ?_⟩); conv => whnf) | (refine w19 rfl ?_ ?_ <;> intro hc <;> (try subst hc) <;> conv => whnf))
        rfl
      · intro _
        cases dtyB st L <;> conv => whnf
        · repeat' (first | ((first | refine w1 rfl rfl ?_ ?_ | refine w2 rfl rfl ?_ ?_ | refine w3 rfl rfl ?_ ?_ | refine w4 rfl rfl ?_ ?_ | refine w5 rfl rfl ?_ ?_ | refine w6 rfl rfl ?_ ?_) <;> intro _ <;> first | (exfalso; omega) | (conv => whnf)) | ((first | refine w7 rfl rfl (by omega) ?_ | refine w8 rfl rfl (by omega) ?_ | refine w9 rfl rfl (by omega) ?_ | refine w10 rfl rfl ?_ | refine w11 rfl rfl ?_ | refine w12 rfl ?_ | refine w13 rfl ?_ | refine w14 (q' := .i64) rfl (i64_in (by omega)) ?_ | refine w14 (q' := .u32) rfl (u32_in (by omega)) ?_ | refine w14 (q' := .u8) rfl (u8_in (by omega)) ?_ | refine w15 rfl rfl ?_ | refine w16 rfl ?_ | refine w17 rfl ?_ | refine w18 rfl ?_ | refine ⟨rfl, ?_⟩); conv => whnf) | (refine w19 rfl ?_ ?_ <;> intro hc <;> (try subst hc) <;> conv => whnf))
          rfl
        · repeat' (first | ((first | refine w1 rfl rfl ?_ ?_ | refine w2 rfl rfl ?_ ?_ | refine w3 rfl rfl ?_ ?_ | refine w4 rfl rfl ?_ ?_ | refine w5 rfl rfl ?_ ?_ | refine w6 rfl rfl ?_ ?_) <;> intro _ <;> first | (exfalso; omega) | (conv => whnf)) | ((first | refine w7 rfl rfl (by omega) ?_ | refine w8 rfl rfl (by omega) ?_ | refine w9 rfl rfl (by omega) ?_ | refine w10 rfl rfl ?_ | refine w11 rfl rfl ?_ | refine w12 rfl ?_ | refine w13 rfl ?_ | refine w14 (q' := .i64) rfl (i64_in (by omega)) ?_ | refine w14 (q' := .u32) rfl (u32_in (by omega)) ?_ | refine w14 (q' := .u8) rfl (u8_in (by omega)) ?_ | refine w15 rfl rfl ?_ | refine w16 rfl ?_ | refine w17 rfl ?_ | refine w18 rfl ?_ | refine ⟨rfl, ?_⟩); conv => whnf) | (refine w19 rfl ?_ ?_ <;> intro hc <;> (try subst hc) <;> conv => whnf))
          rfl
  · refine ESc.fam lchkF hI.h33 ⟨c, ⟨ag, sq, tl, us, L⟩, v⟩ hx (u := .int .i64 8) (by simp [lchkF, hG]) ?_
    conv => whnf
    repeat' (first | ((first | refine w1 rfl rfl ?_ ?_ | refine w2 rfl rfl ?_ ?_ | refine w3 rfl rfl ?_ ?_ | refine w4 rfl rfl ?_ ?_ | refine w5 rfl rfl ?_ ?_ | refine w6 rfl rfl ?_ ?_) <;> intro _ <;> first | (exfalso; omega) | (conv => whnf)) | ((first | refine w7 rfl rfl (by omega) ?_ | refine w8 rfl rfl (by omega) ?_ | refine w9 rfl rfl (by omega) ?_ | refine w10 rfl rfl ?_ | refine w11 rfl rfl ?_ | refine w12 rfl ?_ | refine w13 rfl ?_ | refine w14 (q' := .i64) rfl (i64_in (by omega)) ?_ | refine w14 (q' := .u32) rfl (u32_in (by omega)) ?_ | refine w14 (q' := .u8) rfl (u8_in (by omega)) ?_ | refine w15 rfl rfl ?_ | refine w16 rfl ?_ | refine w17 rfl ?_ | refine w18 rfl ?_ | refine ⟨rfl, ?_⟩); conv => whnf) | (refine w19 rfl ?_ ?_ <;> intro hc <;> (try subst hc) <;> conv => whnf))
    rfl
end Go.AM

set_option linter.unusedVariables false
set_option maxRecDepth 100000
namespace Go.AM
open Go.RowKit
/-! deals that are handed in -/
def tInts : Ty := .sl (.int .i64)
def tByt : Ty := .sl (.int .u8)
def tDeal : List Ty := [.int .i64, tInts, .sl tByt, tByt]
theorem wf_u8 {n : Int} (h : (Lit.int .u8 n).wf = true) : 0 ≤ n ∧ n < 256 := by
  simp [Lit.wf, IntKind.min, IntKind.max, IntKind.bits, IntKind.signed] at h
  omega
theorem ints_of {l : List AV} (h : Shape tInts l) : ∃ (v : AV) (L : List Int), l = [v] ∧ Sl 1 L.length (ints L) v ∧ ∀ s ∈ L, i64B s := by
  cases h with
  | nil _ => exact ⟨.nils, [], rfl, .inl ⟨rfl, rfl, rfl⟩, by simp⟩
  | es _ => exact ⟨.es, [], rfl, .inr (.inl ⟨rfl, rfl, rfl⟩), by simp⟩
  | fz _ n m c ls h1 h2 h3 h4 h5 =>
    have : ∀ ls : List (List AV), (∀ l ∈ ls, Shape (.int .i64) l) → ∃ L : List Int, ls.flatten = ints L ∧ L.length = ls.length ∧ ∀ s ∈ L, i64B s := by
      intro ls
      induction ls with
      | nil => intro _; exact ⟨[], rfl, rfl, by simp⟩
      | cons l ls ih =>
        intro h
        obtain ⟨L, a, b, c⟩ := ih (fun m hm => h m (by simp [hm]))
        obtain ⟨n, rfl, hw⟩ := shape_int (h l (by simp))
        exact ⟨n :: L, by rw [List.flatten_cons, a]; rfl, by simp [b], fun s hs => by
          rcases List.mem_cons.1 hs with rfl | hs
          · exact wf_i64 hw
          · exact c s hs⟩
    obtain ⟨L, a, b, d⟩ := this ls h4
    exact ⟨_, L, rfl, .inr (.inr ⟨c, by rw [a, b, h1], by rw [Nat.mul_one]; unfold ints; rw [List.length_map]⟩), d⟩
theorem bytes_of {l : List AV} (h : Shape tByt l) : ∃ (v : AV) (b : List Nat), l = [v] ∧ BAt v b := by
  cases h with
  | nil _ => exact ⟨.nils, [], rfl, .inl ⟨rfl, rfl, rfl⟩, by simp⟩
  | es _ => exact ⟨.es, [], rfl, .inr (.inl ⟨rfl, rfl, rfl⟩), by simp⟩
  | fz _ n m c ls h1 h2 h3 h4 h5 =>
    have : ∀ ls : List (List AV), (∀ l ∈ ls, Shape (.int .u8) l) → ∃ L : List Nat, ls.flatten = bys L ∧ L.length = ls.length ∧ ∀ s ∈ L, s < 256 := by
      intro ls
      induction ls with
      | nil => intro _; exact ⟨[], rfl, rfl, by simp⟩
      | cons l ls ih =>
        intro h
        obtain ⟨L, a, b, c⟩ := ih (fun m hm => h m (by simp [hm]))
        obtain ⟨n, rfl, hw⟩ := shape_int (h l (by simp))
        have hw := wf_u8 hw
        refine ⟨n.toNat :: L, ?_, by simp [b], fun s hs => ?_⟩
        · rw [List.flatten_cons, a]
          show AV.int .u8 n :: bys L = .int .u8 (Int.ofNat n.toNat) :: bys L
          rw [show Int.ofNat n.toNat = n from Int.toNat_of_nonneg hw.1]
        · rcases List.mem_cons.1 hs with rfl | hs
          · omega
          · exact c s hs
    obtain ⟨L, a, b, d⟩ := this ls h4
    exact ⟨_, L, rfl, .inr (.inr ⟨c, by rw [a, b, h1], by rw [Nat.mul_one, bys_length]⟩), d⟩
theorem blocks_of {l : List AV} (h : Shape (.sl tByt) l) : ∃ (v : AV) (us : List AV) (bs : List (List Nat)), l = [v] ∧ Sl 1 us.length us v ∧ All2 BAt us bs := by
  cases h with
  | nil _ => exact ⟨.nils, [], [], rfl, .inl ⟨rfl, rfl, rfl⟩, .nil⟩
  | es _ => exact ⟨.es, [], [], rfl, .inr (.inl ⟨rfl, rfl, rfl⟩), .nil⟩
  | fz _ n m c ls h1 h2 h3 h4 h5 =>
    have : ∀ ls : List (List AV), (∀ l ∈ ls, Shape tByt l) → ∃ (us : List AV) (bs : List (List Nat)), ls.flatten = us ∧ us.length = ls.length ∧ All2 BAt us bs := by
      intro ls
      induction ls with
      | nil => intro _; exact ⟨[], [], rfl, rfl, .nil⟩
      | cons l ls ih =>
        intro h
        obtain ⟨us, bs, a, b, c⟩ := ih (fun m hm => h m (by simp [hm]))
        obtain ⟨v, by_, rfl, hv⟩ := bytes_of (h l (by simp))
        exact ⟨v :: us, by_ :: bs, by rw [List.flatten_cons, a]; rfl, by simp [b], .cons hv c⟩
    obtain ⟨us, bs, a, b, d⟩ := this ls h4
    exact ⟨_, us, bs, rfl, .inr (.inr ⟨c, by rw [a, b, h1], by rw [Nat.mul_one]⟩), d⟩
theorem deal_of {l : List AV} (h : Shapes tDeal l) : ∃ d : DB, d.any ∧ l = d.d.c := by
  obtain ⟨st, b1, rfl, w1, g1⟩ := shapes_int h
  obtain ⟨a2, b2, rfl, s2, g2⟩ := shapes_cons g1
  obtain ⟨a3, b3, rfl, s3, g3⟩ := shapes_cons g2
  obtain ⟨a4, b4, rfl, s4, g4⟩ := shapes_cons g3
  rw [shapes_nil g4]
  obtain ⟨sv, sl, rfl, q1, q2⟩ := ints_of s2
  obtain ⟨bv, us, bs, rfl, q3, q4⟩ := blocks_of s3
  obtain ⟨pv, pb, rfl, q5⟩ := bytes_of s4
  exact ⟨⟨st, sv, sl, bv, us, bs, pv, pb⟩, ⟨wf_i64 w1, q1, q2, q3, q4, q5⟩, rfl⟩
end Go.AM
