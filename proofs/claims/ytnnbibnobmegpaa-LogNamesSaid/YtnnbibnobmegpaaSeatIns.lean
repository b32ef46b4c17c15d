/-
  Functions of the program as the abstract machine reads them, printed by program; what is stated of them is checked by the kernel. No conditions.
-/
import Derived.Test.YtnnbibnobmegpaaAMEnv
import Derived.Test.YtnnbibnobmegpaaXN
set_option linter.unusedVariables false
set_option linter.unusedSimpArgs false
set_option maxRecDepth 100000
namespace Go.AM
attribute [local irreducible] W
open X
def code91 : AC := match a91 with | .mk c _ => c
theorem ins_run (e : Env) (hX : e.X.get 134 = some ovlO) (r r2 o2 n cc el : Nat) (c2 : Option Nat) (s : St) (cells sp : List AV) (y : AV) (K : AV → St → Prop)
    (hr : s.get r = some (.row el (cells ++ sp))) (hcl : cells.length = n) (hsp : sp.length = cc - n) (hn : 0 < n) (hnb : n < 100000) (hncc : n ≤ cc) (hccb : cc ≤ 9223372036854775807) (h2 : load r2 o2 1 s = some [y]) (hr2 : r2 ≠ r) (hN : s.next < 1000000000) (hrN : r < s.next) (hr2N : r2 < s.next)
    (k1 : cc < n + 1 → ∀ s', s'.next = s.next + 1 → (∀ i, i < s.next → s'.get i = s.get i) → s'.get s.next = some (.row 32 (y :: cells)) → K (.sl s.next 0 (n + 1) none) s')
    (k2 : n + 1 ≤ cc → ∀ s', s'.next = s.next → (∀ i, i ≠ r → s'.get i = s.get i) → s'.get r = some (.row el (y :: cells ++ sp.drop 1)) → K (.sl r 0 (n + 1) (some cc)) s') :
    VE e code91 (initT [.sl r 0 n (some cc), .int .i64 (Int.ofNat 0), .sl r2 o2 1 c2] 0 .lf) s none [] (EEnd [.tmp 6] K) := by
  conv => whnf
  refine EPrim.slcK rfl rfl rfl (Nat.zero_le _) hncc (by omega) ?_
  conv => whnf
  refine EPrim.lenP rfl ?_
  conv => whnf
  refine EPrim.eqlN (b := 0) rfl rfl (fun h => by cases h) (fun _ => ?_)
  conv => whnf
  refine EPrim.lenP rfl ?_
  conv => whnf
  refine EPrim.eqlN rfl rfl (fun h => by omega) (fun _ => ?_)
  conv => whnf
  refine EPrim.addN rfl rfl (by omega) ?_
  conv => whnf
  refine EPrim.capK rfl ?_
  conv => whnf
  refine EPrim.gtrN rfl rfl (fun hc => ?_) (fun hc => ?_)
  · conv => whnf
    refine EPrim.slcK rfl rfl rfl (Nat.zero_le _) (Nat.zero_le _) (by omega) ?_
    conv => whnf
    refine EPrim.addN rfl rfl (by omega) ?_
    conv => whnf
    refine EPrim.subN rfl rfl (Nat.zero_le _) (by omega) ?_
    conv => whnf
    refine EPrim.app0K (old := []) rfl rfl (by rw [load_of hr (by simp)]; simp) (by omega) (by omega) (by omega) ?_
    obtain ⟨s1, hs1⟩ : ∃ s1, s.alloc (.row 32 ([] ++ repL [AV.nils] (n + 1 - 0))) = s1 := ⟨_, rfl⟩
    rw [hs1]
    have hz : 0 - 0 + (n + 1 - 0) = n + 1 := by omega
    rw [hz]
    have hrep : ∀ m, (repL [AV.nils] m).length = m := by
      intro m
      induction m with
      | zero => rfl
      | succ m ih => simp [repL, ih]
    have g1 : s1.get s.next = some (.row 32 (repL [AV.nils] (n + 1))) := by rw [← hs1]; exact St.get_alloc_same hN
    have g2 : ∀ i, i < s.next → s1.get i = s.get i := fun i hi => by rw [← hs1]; exact St.get_alloc_ne (by omega)
    have g3 : s1.next = s.next + 1 := by rw [← hs1]; exact St.next_alloc _ _
    have h2' : load r2 o2 1 s1 = some [y] := by rw [← h2]; unfold load rowAt; rw [g2 r2 hr2N]
    conv => whnf
    refine EPrim.slcU rfl rfl rfl (Nat.zero_le _) (Nat.le_refl _) (by omega) ?_
    conv => whnf
    have hmin : Nat.min 1 (n + 1 - 0) * 1 = 1 := by show min 1 (n + 1 - 0) * 1 = 1; omega
    refine EPrim.copyP (cs := [y]) (s' := s1.put s.next (.row 32 ([] ++ [y] ++ (repL [AV.nils] (n + 1)).drop (0 + 1)))) rfl rfl (by rw [hmin]; exact h2') (store_of g1 (by simp [hrep])) ?_
    obtain ⟨s2, hs2⟩ : ∃ s2, s1.put s.next (.row 32 ([] ++ [y] ++ (repL [AV.nils] (n + 1)).drop (0 + 1))) = s2 := ⟨_, rfl⟩
    rw [hs2]
    have g4 : s2.get s.next = some (.row 32 (y :: repL [AV.nils] n)) := by rw [← hs2, St.get_put_same (by omega)]; simp [repL]
    have g5 : ∀ i, i < s.next → s2.get i = s.get i := fun i hi => by rw [← hs2, St.get_put_ne (by omega)]; exact g2 i hi
    have g6 : s2.next = s.next + 1 := by rw [← hs2, St.next_put]; exact g3
    conv => whnf
    refine EPrim.addN rfl rfl (by omega) ?_
    conv => whnf
    refine EPrim.slcU (l := 1) rfl rfl rfl (by omega) (Nat.le_refl _) (by omega) ?_
    conv => whnf
    refine EPrim.slcK rfl rfl rfl (Nat.zero_le _) hncc (by omega) ?_
    conv => whnf
    have hmin2 : Nat.min (n - 0) (n + 1 - 1) * 1 = n := by show min (n - 0) (n + 1 - 1) * 1 = n; omega
    refine EPrim.copyP (cs := cells) (s' := s2.put s.next (.row 32 ((y :: repL [AV.nils] n).take 1 ++ cells ++ (y :: repL [AV.nils] n).drop (1 + cells.length)))) rfl rfl (by rw [hmin2, load_of ((g5 r hrN).trans hr) (by simp; omega)]; simp [← hcl]) (store_of g4 (by simp [hrep, hcl]; omega)) ?_
    obtain ⟨s3, hs3⟩ : ∃ s3, s2.put s.next (.row 32 ((y :: repL [AV.nils] n).take 1 ++ cells ++ (y :: repL [AV.nils] n).drop (1 + cells.length))) = s3 := ⟨_, rfl⟩
    rw [hs3]
    conv => whnf
    refine k1 hc s3 (by rw [← hs3, St.next_put]; exact g6) (fun i hi => by rw [← hs3, St.get_put_ne (by omega)]; exact g5 i hi) ?_
    rw [← hs3, St.get_put_same (by omega)]
    have : ((y :: repL [AV.nils] n).drop (1 + cells.length)) = [] := List.drop_eq_nil_of_le (by simp [hrep, hcl]; omega)
    rw [this]; simp
  · conv => whnf
    refine EPrim.addN rfl rfl (by omega) ?_
    conv => whnf
    refine EPrim.slcK (h := n + 1) rfl rfl rfl (Nat.zero_le _) hc (by omega) ?_
    conv => whnf
    refine EPrim.addN rfl rfl (by omega) ?_
    conv => whnf
    refine EPrim.slcK (l := 1) rfl rfl rfl (by omega) (by omega) (by omega) ?_
    conv => whnf
    obtain ⟨e2, rs2, hrow2⟩ : ∃ e2 rs2, rowAt r2 s = .row e2 rs2 := by
      unfold load at h2
      cases hq : rowAt r2 s with
      | no => rw [hq] at h2; cases h2
      | row e2 rs2 => exact ⟨e2, rs2, rfl⟩
    refine ESc.ext hX (v := .bool false) (s' := s) ?_ ?_
    · show gd (Bool.rec true false (Nat.beq r2 r)) (RW.rec .fail (fun _ _ => RW.rec .fail (fun _ cs => List.rec .fail (fun _ _ _ => .ok (.bool false) s) cs) (rowAt r s)) (rowAt r2 s)) = _
      rw [show Nat.beq r2 r = false by rw [← Bool.not_eq_true]; intro e; exact hr2 (Nat.eq_of_beq_eq_true e), hrow2, rowAt_of hr]
      cases hcs : cells with
      | nil => rw [hcs] at hcl; simp at hcl; omega
      | cons a b => rfl
    conv => whnf
    refine EPrim.notF rfl ?_
    conv => whnf
    refine EPrim.addN rfl rfl (by omega) ?_
    conv => whnf
    refine EPrim.slcK (l := 1) rfl rfl rfl (by omega) (by omega) (by omega) ?_
    conv => whnf
    refine EPrim.slcK rfl rfl rfl (Nat.zero_le _) (by omega) (by omega) ?_
    conv => whnf
    have hmin : Nat.min (n + 1 - 0 - 0) (n + 1 - 0 - 1) * 1 = n := by show min (n + 1 - 0 - 0) (n + 1 - 0 - 1) * 1 = n; omega
    refine EPrim.copyP (cs := cells) (s' := s.put r (.row el ((cells ++ sp).take 1 ++ cells ++ (cells ++ sp).drop (1 + cells.length)))) rfl rfl (by rw [hmin, load_of hr (by simp; omega)]; simp [← hcl]) (store_of hr (by simp; omega)) ?_
    obtain ⟨s1, hs1⟩ : ∃ s1, s.put r (.row el ((cells ++ sp).take 1 ++ cells ++ (cells ++ sp).drop (1 + cells.length))) = s1 := ⟨_, rfl⟩
    rw [hs1]
    have g1 : s1.get r = some (.row el ((cells ++ sp).take 1 ++ (cells ++ sp.drop 1))) := by
      rw [← hs1, St.get_put_same (by omega), List.append_assoc, List.drop_append]
      congr 4
      rw [List.drop_eq_nil_of_le (by omega)]; simp
    have g2 : ∀ i, i ≠ r → s1.get i = s.get i := fun i hi => by rw [← hs1]; exact St.get_put_ne hi
    have g3 : s1.next = s.next := by rw [← hs1]; exact St.next_put _ _ _
    have h2' : load r2 o2 1 s1 = some [y] := by rw [← h2]; unfold load rowAt; rw [g2 r2 hr2]
    have ht1 : ((cells ++ sp).take 1).length = 1 := by simp; omega
    conv => whnf
    refine EPrim.slcK rfl rfl rfl (Nat.zero_le _) (by omega) (by omega) ?_
    conv => whnf
    have hmin2 : Nat.min 1 (n + 1 - 0 - 0) * 1 = 1 := by show min 1 (n + 1 - 0 - 0) * 1 = 1; omega
    refine EPrim.copyP (cs := [y]) (s' := s1.put r (.row el (((cells ++ sp).take 1 ++ (cells ++ sp.drop 1)).take 0 ++ [y] ++ ((cells ++ sp).take 1 ++ (cells ++ sp.drop 1)).drop (0 + [y].length)))) rfl rfl (by rw [hmin2]; exact h2') (store_of g1 (by simp; omega)) ?_
    conv => whnf
    refine k2 hc _ (by rw [St.next_put]; exact g3) (fun i hi => by rw [St.get_put_ne hi]; exact g2 i hi) ?_
    rw [St.get_put_same (by omega)]
    have : ((cells ++ sp).take 1 ++ (cells ++ sp.drop 1)).drop (0 + [y].length) = cells ++ sp.drop 1 := by
      rw [show 0 + [y].length = ((cells ++ sp).take 1).length by rw [ht1]; rfl, List.drop_left]
    rw [this]; simp

noncomputable def insO (args : List AV) (s : St) : RV := match args with
  | [.sl r 0 n none, .int .i64 (.ofNat 0), .sl r2 o2 1 c2] =>
    (match load r2 o2 1 s with
      | some [y] => (match rowAt r s with
        | .row el cells => gd (Nat.beq el 32 && Nat.beq (lenL cells) n && Nat.blt 0 n && Nat.blt n 100000 && !Nat.beq r r2 && Nat.blt s.next 1000000000) (.ok (.sl s.next 0 (n + 1) none) ((s.put r .dead).alloc (.row 32 (y :: cells))))
        | .no => .fail)
      | _ => .fail)
  | _ => .fail
theorem insO_ok {P : Program} {e : Env} {fn : Func} (hE : EnvOk P e) (hm : P.follows .mixedOrders = true) (hX : e.X.get 134 = some ovlO) (hO : e.O.get 91 = none) (hG : e.G.get 91 = some a91) (hb : HasBody P 91) (hsz : szOf P 32 = some 1) : OvOk P 91 insO := by
  refine ⟨hb, fun args s v s' h => ?_⟩
  unfold insO at h
  split at h
  · rename_i r n r2 o2 c2
    split at h
    · rename_i y hy
      split at h
      · rename_i el cells hrow
        obtain ⟨hc, h⟩ := gd_ok h
        obtain ⟨rfl, rfl⟩ := ok_inj h
        simp only [Bool.and_eq_true, Bool.not_eq_true', Nat.blt_eq] at hc
        obtain ⟨⟨⟨⟨⟨q1, q2⟩, q3⟩, q4⟩, q5⟩, q6⟩ := hc
        have q1 := Nat.eq_of_beq_eq_true q1
        subst q1
        have q2 := Nat.eq_of_beq_eq_true q2
        rw [lenL_eq] at q2
        have q5 : r ≠ r2 := Nat.ne_of_beq_eq_false q5
        have hg := rowAt_some hrow
        intro γ vals w m hA hs
        cases hA with
        | @cons _ v1 _ vs1 a1 hA => cases hA with
          | @cons _ v2 _ vs2 a2 hA => cases hA with
            | @cons _ v3 _ vs3 a3 hA =>
              cases hA
              obtain ⟨L, cc, hL, hv1, hncc, hccm, hcs⟩ := sluV a1
              obtain ⟨c, e1, e2, e3, e4, e5, e6, e7⟩ := hs.rowA hg hL
              have hes : L.es = 1 := by rw [hsz] at e4; exact (Option.some.inj e4).symm
              have hcap : cc ≤ c.size := by have := hcs rfl; rw [hes, Nat.mul_one] at this; omega
              have hrN := hs.dom r _ hg
              obtain ⟨o2', hr2row⟩ : ∃ x, s.get r2 = some x := by
                unfold load at hy
                cases hq : rowAt r2 s with
                | no => rw [hq] at hy; cases hy
                | row a b => exact ⟨_, rowAt_some hq⟩
              have hr2N := hs.dom r2 _ hr2row
              obtain ⟨hst1, hs1⟩ := hs.turn (w' := w) (o := .row 32 (cells ++ List.replicate (cc - n) .any)) hg hL rfl (fun _ _ => rfl) rfl rfl rfl rfl (by
                refine ⟨c, e1, e2, e3, e4, by simp; omega, fun i u hi => ?_, e7⟩
                by_cases hin : i < n
                · rw [List.getElem?_append_left (by omega)] at hi; exact e6 i u hi
                · have hil := (List.getElem?_eq_some_iff.1 hi).1
                  simp at hil
                  rw [List.getElem?_append_right (by omega), List.getElem?_replicate] at hi
                  split at hi
                  · cases hi
                    have hcz : i < c.size := by omega
                    exact ⟨c[i], by simp [hcz], .any _ (e7 _ (by simp)), e7 _ (by simp)⟩
                  · cases hi)
              obtain ⟨S1, hS1⟩ : ∃ S1, s.put r (.row 32 (cells ++ List.replicate (cc - n) .any)) = S1 := ⟨_, rfl⟩
              rw [hS1] at hst1 hs1
              have p1 : S1.get r = some (.row 32 (cells ++ List.replicate (cc - n) .any)) := by rw [← hS1]; exact St.get_put_same (by omega)
              have p2 : ∀ i, i ≠ r → S1.get i = s.get i := fun i hi => by rw [← hS1]; exact St.get_put_ne hi
              have p3 : S1.next = s.next := by rw [← hS1]; exact St.next_put _ _ _
              have hy1 : load r2 o2 1 S1 = some [y] := by rw [← hy]; unfold load rowAt; rw [p2 r2 (fun e => q5 e.symm)]
              have hA1 : All2 (VR γ) [.sl r 0 n (some cc), .int .i64 (.ofNat 0), .sl r2 o2 1 c2] [v1, v2, v3] := .cons (by rw [hv1]; exact .sl r 0 n cc L hL hncc) (.cons a2 (.cons a3 .nil))
              have hrun := ins_run e hX r r2 o2 n cc 32 c2 S1 cells (List.replicate (cc - n) .any) y
                (fun v s' => (v = .sl s.next 0 (n + 1) none ∧ s'.next = s.next + 1 ∧ (∀ i, i < s.next → s'.get i = S1.get i) ∧ s'.get s.next = some (.row 32 (y :: cells))) ∨
                  (n + 1 ≤ cc ∧ v = .sl r 0 (n + 1) (some cc) ∧ s'.next = s.next ∧ (∀ i, i ≠ r → s'.get i = S1.get i) ∧ s'.get r = some (.row 32 (y :: cells ++ (List.replicate (cc - n) .any).drop 1))))
                p1 q2 (by simp) q3 q4 hncc (by unfold maxLen at hccm; omega) hy1 (fun e => q5 e.symm) (by omega) (by omega) (by omega)
                (fun _ s' h1 h2 h3 => .inl ⟨by rw [p3], by rw [h1, p3], fun i hi => h2 i (by omega), by rw [← p3]; exact h3⟩)
                (fun hle s' h1 h2 h3 => .inr ⟨hle, rfl, by rw [h1, p3], h2, h3⟩)
              obtain ⟨nn, v', s', hcall, hR⟩ := (ECall.inl (vs := [.sl r 0 n (some cc), .int .i64 (.ofNat 0), .sl r2 o2 1 c2]) hO hG hrun).elim
              refine CallsIn.mono ((callA_sound (exec_good hE hm nn) hE hA1 hs1 hcall).2 m) ?_
              rintro ee w' ⟨x', γ', rfl, hst', hsim', hv'⟩
              refine ⟨_, _, ⟨rfl, rfl⟩, ?_⟩
              have hnd : (s.put r .dead).next = s.next := St.next_put _ _ _
              have hSn : ((s.put r .dead).alloc (.row 32 (y :: cells))).next = s.next + 1 := by rw [St.next_alloc, hnd]
              have hkeep : ∀ k, γ k = none → k < s.next → ((s.put r .dead).alloc (.row 32 (y :: cells))).get k = s.get k := fun k hk hlt => by
                rw [St.get_alloc_ne (by rw [hnd]; omega), St.get_put_ne (fun e => by rw [e, hL] at hk; cases hk)]
              have hget : ∀ k o, ((s.put r .dead).alloc (.row 32 (y :: cells))).get k = some o → (k = s.next ∧ o = .row 32 (y :: cells)) ∨ (k = r ∧ o = .dead) ∨ (k ≠ r ∧ k < s.next ∧ s.get k = some o) := by
                intro k o hk
                rcases St.get_alloc hk with ⟨e1, e2⟩ | ⟨e1, hk⟩
                · exact .inl ⟨by rw [e1, hnd], e2⟩
                · rcases St.get_put hk with ⟨e3, e4⟩ | ⟨e3, hk⟩
                  · exact .inr (.inl ⟨e3, e4⟩)
                  · exact .inr (.inr ⟨e3, hs.dom k o hk, hk⟩)
              rcases hR with ⟨rfl, r1, r2', r3⟩ | ⟨hle, rfl, r1, r2', r3⟩
              · refine ⟨x', γ', rfl, (hst1.trans hst').same (by rw [hSn, r1]) hkeep, hsim'.same (by rw [hSn, r1]) (fun k o hk => ?_), hv'⟩
                rcases hget k o hk with ⟨rfl, rfl⟩ | ⟨rfl, rfl⟩ | ⟨h1, h2, h3⟩
                · exact .inr r3
                · exact .inl ⟨rfl, by omega⟩
                · exact .inr (by rw [r2' k h2, p2 k h1]; exact h3)
              · have hL' := hst'.le.loc r L hL
                obtain ⟨c', d1, d2, d3, d4, d5, d6, d7⟩ := hsim'.rowA r3 hL'
                have hsn : s'.next = s.next := r1
                obtain ⟨hst2, hsim2⟩ := hsim'.move (w' := w') (o := .row 32 (y :: cells)) r3 hL' rfl (fun _ _ => rfl) rfl rfl rfl rfl (by
                  refine ⟨c', d1, d2, d3, d4, by simp at d5 ⊢; omega, fun i u hi => ?_, d7⟩
                  have hil := (List.getElem?_eq_some_iff.1 hi).1
                  obtain ⟨u', f1, f2, f3⟩ := d6 i u (by rw [List.getElem?_append_left hil]; exact hi)
                  exact ⟨u', f1, f2.mono (ext_le (hsim'.nx _ (Nat.le_refl _))), f3⟩)
                rw [hsn] at hst2 hsim2
                have hn2 : ((s'.put r .dead).alloc (.row 32 (y :: cells))).next = s.next + 1 := by rw [St.next_alloc, St.next_put, hsn]
                refine ⟨x', _, rfl, ((hst1.trans hst').trans hst2).same (by rw [hSn, hn2]) hkeep, hsim2.same (by rw [hSn, hn2]) (fun k o hk => ?_), ?_⟩
                · rcases hget k o hk with ⟨rfl, rfl⟩ | ⟨rfl, rfl⟩ | ⟨h1, h2, h3⟩
                  · refine .inr ?_
                    have := St.get_alloc_same (s := s'.put r .dead) (o := .row 32 (y :: cells)) (by rw [St.next_put, hsn]; omega)
                    rw [St.next_put, hsn] at this; exact this
                  · exact .inl ⟨rfl, by omega⟩
                  · refine .inr ?_
                    rw [St.get_alloc_ne (by rw [St.next_put, hsn]; omega), St.get_put_ne h1, r2' k h1, p2 k h1]; exact h3
                · obtain ⟨L2, cc2, hL2, hx2, hck⟩ := slV hv'
                  rw [hL'] at hL2; cases hL2
                  have := hck cc rfl
                  subst this
                  rw [hx2]
                  exact .slu s.next 0 (n + 1) cc2 L (ext_same _ _ _) hle hccm (fun _ => hcs rfl)
      · cases h
    · cases h
  · cases h
end Go.AM
