/-
  THE ABSTRACT MACHINE: a function that hands back plain values may be handed rows. Definitions and plain lemmas.
-/
import Derived.Test.YtnnbibnobmegpaaAMByte
set_option linter.unusedVariables false
set_option linter.unusedSimpArgs false
namespace Go.AM
mutual
/-- a value that names no memory -/
def sc : AV → Bool
  | .ptr .. | .sl .. | .map .. | .yld .. | .fz .. | .fp .. => false
  | .fn _ a b => scs a && scs b
  | .iface _ v => sc v
  | .agg l | .tup l => scs l
  | _ => true
def scs : List AV → Bool
  | [] => true
  | v :: l => sc v && scs l
end
section
variable {P : Program} {γ γ2 : Gam}
mutual
theorem VR_sc : ∀ (v : AV) {v' : Value}, sc v = true → VR γ v v' → VR γ2 v v'
  | .bool b, _, _, .bool _ => .bool _
  | .int k n, _, _, .int _ _ => .int _ _
  | .str l, _, _, .str _ s e => .str _ s e
  | .ptr _ _, _, h, _ => by cases h
  | .nilp, _, _, .nilp => .nilp
  | .sl .., _, h, _ => by cases h
  | .nils, _, _, .nils => .nils
  | .es, _, _, .es a c => .es a c
  | .map _, _, h, _ => by cases h
  | .nilm, _, _, .nilm => .nilm
  | .fn f xs ys, _, h, .fn _ _ _ as bs a b => by
    simp only [sc, Bool.and_eq_true] at h
    exact .fn f xs ys as bs (VR_scs xs h.1 a) (VR_scs ys h.2 b)
  | .yld _, _, h, _ => by cases h
  | .nilf, _, _, .nilf => .nilf
  | .iface t v, _, h, .iface _ _ v' e => .iface t v v' (VR_sc v h e)
  | .nili, _, _, .nili => .nili
  | .agg l, _, h, .agg _ a e o => .agg l a (VR_scs l h e) o
  | .tup l, _, h, .tup _ a e => .tup l a (VR_scs l h e)
  | .any, _, _, .any v e => .any v e
  | .fz .., _, h, _ => by cases h
  | .fp _, _, h, _ => by cases h
theorem VR_scs : ∀ (l : List AV) {m : List Value}, scs l = true → All2 (VR γ) l m → All2 (VR γ2) l m
  | [], _, _, .nil => .nil
  | v :: l, _, h, .cons a b => by
    simp only [scs, Bool.and_eq_true] at h
    exact .cons (VR_sc v h.1 a) (VR_scs l h.2 b)
end
/-- a contract over cells that stay is one over rows, where what is handed back names no memory -/
theorem C.view {f : Nat} {args args2 : List AV} {u : AV} {s : St} (hF : All2 (Frz s) args args2) (hu : sc u = true) (h : C P f args2 St0 (fun v s' => v = u ∧ s' = allocs St0 [])) : C P f args s (fun v s' => v = u ∧ s' = s) := by
  intro γ vals w m hA hs
  let φ : Nat → Option (Array Value) := fun b => match w.heap[b]? with | some (.cells c _ _) => some c | _ => none
  have hφ : ∀ b c, φ b = some c → ∃ e fr, w.heap[b]? = some (.cells c e fr) := by
    intro b c hc
    have hc : (match w.heap[b]? with | some (.cells c _ _) => some c | _ => none) = some c := hc
    split at hc
    · rename_i c' e fr hh; cases hc; exact ⟨e, fr, hh⟩
    · cases hc
  have hφ2 : ∀ b c e fr, w.heap[b]? = some (.cells c e fr) → φ b = some c := by
    intro b c e fr hc
    show (match w.heap[b]? with | some (.cells c _ _) => some c | _ => none) = some c
    rw [hc]
  have hA2 : All2 (VR ⟨fun _ => none, φ⟩) args2 vals := Frz.VRs hs (fun b c e => by obtain ⟨t, fr, hh⟩ := hs.fzc b c e; exact hφ2 b c t fr hh) (fun r e cs L c _ _ hh => hφ2 L.b c e (0, 0) hh) hF hA
  refine CallsIn.mono (h ⟨fun _ => none, φ⟩ vals w m hA2 (sim0 hφ)) ?_
  rintro e w' ⟨v, s', ⟨rfl, rfl⟩, v', γ', rfl, hst, hsim, hv⟩
  have hblk : ∀ b, b < w.heap.size → w'.heap[b]? = w.heap[b]? := fun b hb => hst.blk b hb (fun r L e => by cases e)
  refine ⟨_, _, ⟨rfl, rfl⟩, v', γ, rfl, ?_, ?_, VR_sc v hu hv⟩
  · exact ⟨Le.refl γ, fun r L h h' => (by rw [h] at h'; cases h'), Nat.le_refl _, hst.size, hst.os, hst.tape, hst.output, fun b hb _ => hblk b hb, fun _ _ _ => rfl, fun b c h h' => (by rw [h] at h'; cases h')⟩
  · refine ⟨fun r o L ho hL => (hs.obj r o L ho hL).heap (hblk _ (hs.lt r L hL)), hs.inj, fun r L hL => Nat.lt_of_lt_of_le (hs.lt r L hL) hst.size, hs.nx, hs.dom, fun b c e => ?_, hs.fzr⟩
    obtain ⟨t, fr, hh⟩ := hs.fzc b c e
    exact ⟨t, fr, (hblk b (hs.fzlt e)).trans hh⟩
/-- bytes, wherever they lie -/
noncomputable def bytesAt (s : St) (v : AV) : Option (List Nat) :=
  SR.rec none (fun r o n _ => Option.rec none bytesOf (load r o n s)) (some []) (some []) (fun n _ l => Bool.rec none (bytesOf l) (Nat.beq (lenL l) n)) (asSl v)
theorem bytesOf_bys : ∀ {l : List AV} {bs : List Nat}, bytesOf l = some bs → l = bys bs ∧ ∀ b ∈ bs, b < 256 := by
  intro l
  induction l with
  | nil => intro bs h; cases h; exact ⟨rfl, by simp⟩
  | cons x l ih =>
    intro bs h
    change (IR.rec none (fun k n => Bool.rec none (Int.rec (fun a => Bool.rec none (Option.rec none (fun r => some (a :: r)) (bytesOf l)) (Nat.blt a 256)) (fun _ => none) n) (Nat.beq (kCode k) 4)) (asInt x) : Option (List Nat)) = some bs at h
    cases hc : asInt x with
    | no => rw [hc] at h; cases h
    | int k n =>
      rw [hc] at h
      dsimp only at h
      cases hk : Nat.beq (kCode k) 4 with
      | false => rw [hk] at h; cases h
      | true =>
        rw [hk] at h
        have hku : k = .u8 := by cases k <;> first | rfl | cases hk
        subst hku
        cases n with
        | negSucc n => cases h
        | ofNat a =>
          dsimp only at h
          cases hb : Nat.blt a 256 with
          | false => rw [hb] at h; cases h
          | true =>
            rw [hb] at h
            rw [Nat.blt_eq] at hb
            cases hbo : bytesOf l with
            | none => rw [hbo] at h; cases h
            | some r =>
              rw [hbo] at h; cases h
              obtain ⟨e1, e2⟩ := ih hbo
              refine ⟨by rw [asInt_eq hc, e1]; rfl, ?_⟩
              intro b hb'
              rcases List.mem_cons.1 hb' with rfl | hb'
              · exact hb
              · exact e2 b hb'
theorem scs_hfs_bys (bs : List Nat) : hfs (bys bs) = true := hfs_iff.2 fun v hv => by
  obtain ⟨b, _, rfl⟩ := List.mem_map.1 hv; rfl
theorem frz_bys {s : St} : ∀ (bs : List Nat), All2 (Frz s) (bys bs) (bys bs)
  | [] => .nil
  | b :: bs => .cons (.plain _ rfl) (frz_bys bs)
theorem bys_length (bs : List Nat) : (bys bs).length = bs.length := List.length_map ..
theorem bytesAt_view {s : St} {v : AV} {bs : List Nat} (h : bytesAt s v = some bs) : ∃ v2, Frz s v v2 ∧ Sl 1 bs.length (bys bs) v2 ∧ ∀ b ∈ bs, b < 256 := by
  unfold bytesAt at h
  cases hq : asSl v with
  | no => rw [hq] at h; cases h
  | nils => rw [hq] at h; cases h; rw [asSl_nils hq]; exact ⟨.nils, .plain _ rfl, .inl ⟨rfl, rfl, rfl⟩, by simp⟩
  | es => rw [hq] at h; cases h; rw [asSl_es hq]; exact ⟨.es, .plain _ rfl, .inr (.inl ⟨rfl, rfl, rfl⟩), by simp⟩
  | sl r o n c =>
    rw [hq] at h
    change (Option.rec none bytesOf (load r o n s) : Option (List Nat)) = some bs at h
    cases hl : load r o n s with
    | none => rw [hl] at h; cases h
    | some cs =>
      rw [hl] at h
      obtain ⟨rfl, hb⟩ := bytesOf_bys (show bytesOf cs = some bs from h)
      rw [asSl_sl hq]
      unfold load at hl
      cases hr : rowAt r s with
      | no => rw [hr] at hl; cases hl
      | row e rs =>
        rw [hr] at hl
        change takeL n (dropL o rs) = some (bys bs) at hl
        obtain ⟨e1, e2⟩ := takeL_some n hl
        rw [dropL_eq] at e1 e2
        have hn : bs.length = n := by
          have := congrArg List.length e1
          rw [bys_length, List.length_take] at this
          omega
        refine ⟨.fz n none (bys bs), .sl r o n c none e rs (bys bs) (bys bs) (rowAt_some hr) ?_ (frz_bys bs) (.inl rfl), .inr (.inr ⟨none, by rw [hn], by rw [bys_length, Nat.mul_one]⟩), hb⟩
        intro i x hx
        rw [e1, List.getElem?_take] at hx
        split at hx
        · rwa [List.getElem?_drop] at hx
        · cases hx
  | fz n c l =>
    rw [hq] at h
    change (Bool.rec none (bytesOf l) (Nat.beq (lenL l) n) : Option (List Nat)) = some bs at h
    cases hl : Nat.beq (lenL l) n with
    | false => rw [hl] at h; cases h
    | true =>
      rw [hl] at h
      obtain ⟨rfl, hb⟩ := bytesOf_bys (show bytesOf l = some bs from h)
      rw [asSl_fz hq]
      have hn : bs.length = n := by
        have := Nat.eq_of_beq_eq_true hl
        rw [lenL_eq, bys_length] at this
        exact this
      exact ⟨_, .plain _ rfl, .inr (.inr ⟨c, by rw [hn], by rw [bys_length, Nat.mul_one]⟩), hb⟩
end
end Go.AM
