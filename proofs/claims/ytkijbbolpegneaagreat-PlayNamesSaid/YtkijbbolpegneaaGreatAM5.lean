/-
  Functions of the program as the abstract machine reads them, and what is stated of them, checked by the kernel. No conditions.
-/
import Derived.Test.YtkijbbolpegneaaGreatAM4
import Derived.Below
import Derived.Lib.Overlaps
import Derived.Laws.Externs
import Derived.ChangeSame
import Derived.Carry
set_option linter.unusedVariables false
set_option linter.unusedSimpArgs false

set_option linter.unusedVariables false
namespace Go.AM
theorem stuckO {α : Type} {x : Option α} {K : α → Prop} (v : α) (h : x = some v) (hk : K v) : (Option.rec (motive := fun _ => Prop) False K x) := by rw [h]; exact hk
section
variable {t : AT} {s : St} {k : AV → St → Prop} {x y : AO}
theorem EPrim.ixaP {r o n es i : Nat} {q : IntKind} (hx : ev x t = .some (.ptr r o)) (hy : ev y t = .some (.int q (Int.ofNat i))) (h : i < n) (hk : k (.ptr r (o + i * es)) s) : EPrim (.ixa n es x y) t s k := by
  refine EPrim.mk (fun e rec => ?_) hk
  show wth x t _ = _; unfold wth; rw [hx]
  show wth y t _ = _; unfold wth; rw [hy]
  show gd (Nat.blt i n) _ = _
  rw [show Nat.blt i n = true by simpa using h]; rfl
theorem EPrim.ixsF {n es i : Nat} {c : Option Nat} {l : List AV} {q : IntKind} (hx : ev x t = .some (.fz n c l)) (hy : ev y t = .some (.int q (Int.ofNat i))) (h : i < n) (hk : k (.fp (l.drop (i * es))) s) : EPrim (.ixs es x y) t s k := by
  rw [← dropL_eq] at hk
  refine EPrim.mk (fun e rec => ?_) hk
  show wth x t _ = _; unfold wth; rw [hx]
  show wth y t _ = _; unfold wth; rw [hy]
  show gd (Nat.blt i n) _ = _
  rw [show Nat.blt i n = true by simpa using h]; rfl
def Sl (es n : Nat) (l : List AV) (v : AV) : Prop := (v = .nils ∧ n = 0 ∧ l = []) ∨ (v = .es ∧ n = 0 ∧ l = []) ∨ (∃ c, v = .fz n c l ∧ l.length = n * es)
theorem Sl.hf {es n : Nat} {l : List AV} {v : AV} (h : Sl es n l v) : hf v = true := by
  rcases h with ⟨rfl, _⟩ | ⟨rfl, _⟩ | ⟨c, rfl, _⟩ <;> rfl
theorem EPrim.lenS {es n : Nat} {l : List AV} {v : AV} (hx : ev x t = .some v) (h : Sl es n l v) (hk : k (.int .i64 (Int.ofNat n)) s) : EPrim (.len x) t s k := by
  refine EPrim.mk (v := .int .i64 (Int.ofNat n)) (s' := s) (fun e rec => ?_) hk
  show wth x t _ = _; unfold wth; rw [hx]
  rcases h with ⟨rfl, rfl, _⟩ | ⟨rfl, rfl, _⟩ | ⟨c, rfl, _⟩ <;> rfl
theorem EPrim.ixsS {es n i : Nat} {l : List AV} {v : AV} {q : IntKind} (hx : ev x t = .some v) (hs : Sl es n l v) (hy : ev y t = .some (.int q (Int.ofNat i))) (h : i < n) (hk : k (.fp (l.drop (i * es))) s) : EPrim (.ixs es x y) t s k := by
  rcases hs with ⟨rfl, rfl, _⟩ | ⟨rfl, rfl, _⟩ | ⟨c, rfl, _⟩
  · omega
  · omega
  · exact EPrim.ixsF hx hy h hk
theorem EPrim.lenP {r o n : Nat} {c : Option Nat} (hx : ev x t = .some (.sl r o n c)) (hk : k (.int .i64 (Int.ofNat n)) s) : EPrim (.len x) t s k := by
  refine EPrim.mk (v := .int .i64 (Int.ofNat n)) (s' := s) (fun e rec => ?_) hk
  show wth x t _ = _; unfold wth; rw [hx]; rfl
theorem EPrim.xor32 {a b : Nat} (hx : ev x t = .some (.int .u32 (Int.ofNat a))) (hy : ev y t = .some (.int .u32 (Int.ofNat b))) (ha : a < 4294967296) (hb : b < 4294967296) (hk : k (.int .u32 (Int.ofNat (a ^^^ b))) s) : EPrim (.bin .xor x y) t s k := by
  refine bin_of hx hy (v := .int .u32 (Int.ofNat (a ^^^ b))) ?_ hk
  show OV.some (.int .u32 (Int.ofNat (Nat.xor (a % 4294967296) (b % 4294967296)))) = _
  rw [Nat.mod_eq_of_lt ha, Nat.mod_eq_of_lt hb]; rfl
theorem EPrim.and32 {a b : Nat} (hx : ev x t = .some (.int .u32 (Int.ofNat a))) (hy : ev y t = .some (.int .u32 (Int.ofNat b))) (ha : a < 4294967296) (hb : b < 4294967296) (hk : k (.int .u32 (Int.ofNat (a &&& b))) s) : EPrim (.bin .and x y) t s k := by
  refine bin_of hx hy (v := .int .u32 (Int.ofNat (a &&& b))) ?_ hk
  show OV.some (.int .u32 (Int.ofNat (Nat.land (a % 4294967296) (b % 4294967296)))) = _
  rw [Nat.mod_eq_of_lt ha, Nat.mod_eq_of_lt hb]; rfl
theorem EPrim.cpl32 {a : Nat} (hx : ev x t = .some (.int .u32 (Int.ofNat a))) (ha : a < 4294967296) (hk : k (.int .u32 (Int.ofNat (a ^^^ 4294967295))) s) : EPrim (.un .xor x) t s k := by
  refine EPrim.mk (v := .int .u32 (Int.ofNat (a ^^^ 4294967295))) (s' := s) (fun e rec => ?_) hk
  show wth x t _ = _; unfold wth; rw [hx]
  show RV.ok (.int .u32 (Int.ofNat (Nat.xor (4294967295 % 4294967296) (a % 4294967296)))) s = _
  rw [Nat.mod_eq_of_lt ha, Nat.mod_eq_of_lt (by omega)]
  show RV.ok (.int .u32 (Int.ofNat (4294967295 ^^^ a))) s = _
  rw [Nat.xor_comm]
theorem EPrim.shrN {q r : IntKind} {a n : Nat} (hx : ev x t = .some (.int q (Int.ofNat a))) (hy : ev y t = .some (.int r (Int.ofNat n))) (hn : n ≤ q.bits) (hk : k (.int q (Int.ofNat (a / 2 ^ n))) s) : EPrim (.bin .shr x y) t s k := by
  refine bin_of hx hy (v := .int q (Int.ofNat (a / 2 ^ n))) ?_ hk
  show OV.some (.int q (Int.ofNat (a / 2 ^ (Nat.min n q.bits)))) = _
  rw [show Nat.min n q.bits = n from Nat.min_eq_left hn]
theorem wrapN_u32 {a : Nat} (ha : a < 4294967296) : wrapQ .u32 (Int.ofNat a) = Int.ofNat a := by
  show Int.ofNat (a % 4294967296) = _; rw [Nat.mod_eq_of_lt ha]
theorem EPrim.cviU32 {q : IntKind} {a : Nat} (hx : ev x t = .some (.int q (Int.ofNat a))) (ha : a < 4294967296) (hk : k (.int .u32 (Int.ofNat a)) s) : EPrim (.cvi .u32 x) t s k := by
  refine EPrim.mk (v := .int .u32 (Int.ofNat a)) (s' := s) (fun e rec => ?_) hk
  show wth x t _ = _; unfold wth; rw [hx]
  show RV.ok (.int .u32 (wrapQ .u32 (Int.ofNat a))) s = _
  rw [wrapN_u32 ha]
theorem EPrim.incN {a : Nat} {b : Int} (hx : ev x t = .some (.int .i64 (Int.ofNat a))) (hy : ev y t = .some (.int .i64 b)) (hb : b = 1) (h : a < 9223372036854775807) (hk : k (.int .i64 (Int.ofNat (a + 1))) s) : EPrim (.bin .add x y) t s k := by
  subst hb
  refine EPrim.addS hx hy ?_ ?_
  · have : Int.ofNat a = (a : Int) := rfl
    omega
  · exact hk
theorem EPrim.lssN {q : IntKind} {a b : Nat} (hx : ev x t = .some (.int q (Int.ofNat a))) (hy : ev y t = .some (.int q (Int.ofNat b))) (h1 : a < b → k (.bool true) s) (h2 : b ≤ a → k (.bool false) s) : EPrim (.bin .lss x y) t s k :=
  EPrim.lss2 hx hy (fun h => h1 (by have e1 : Int.ofNat a = (a : Int) := rfl; have e2 : Int.ofNat b = (b : Int) := rfl; omega)) (fun h => h2 (by have e1 : Int.ofNat a = (a : Int) := rfl; have e2 : Int.ofNat b = (b : Int) := rfl; omega))
end
def byV (b : Nat) : AV := .int .u8 (Int.ofNat b)
def bys (l : List Nat) : List AV := l.map byV
theorem bys_drop_get {l : List Nat} {i : Nat} (h : i < l.length) : ((bys l).drop (i * 1))[0]? = some (.int .u8 (Int.ofNat l[i])) := by
  rw [List.getElem?_drop]; simp [bys, byV, h]
end Go.AM

set_option linter.unusedVariables false
namespace Go.AM
mutual
def sc : AV → Bool
  | .ptr .. | .sl .. | .map .. | .yld .. | .fz .. | .fp .. => false
  | .fn _ a b => scs a && scs b
  | .iface _ v => sc v
  | .agg l | .tup l => scs l
  | _ => true
def scs : List AV → Bool
  | [] => true
  | v :: l => sc v && scs l
end
section
variable {P : Program} {γ γ2 : Gam}
mutual
theorem VR_sc : ∀ (v : AV) {v' : Value}, sc v = true → VR γ v v' → VR γ2 v v'
  | .bool b, _, _, .bool _ => .bool _
  | .int k n, _, _, .int _ _ => .int _ _
  | .str l, _, _, .str _ s e => .str _ s e
  | .ptr _ _, _, h, _ => by cases h
  | .nilp, _, _, .nilp => .nilp
  | .sl .., _, h, _ => by cases h
  | .nils, _, _, .nils => .nils
  | .es, _, _, .es a c => .es a c
  | .map _, _, h, _ => by cases h
  | .nilm, _, _, .nilm => .nilm
  | .fn f xs ys, _, h, .fn _ _ _ as bs a b => by
    simp only [sc, Bool.and_eq_true] at h
    exact .fn f xs ys as bs (VR_scs xs h.1 a) (VR_scs ys h.2 b)
  | .yld _, _, h, _ => by cases h
  | .nilf, _, _, .nilf => .nilf
  | .iface t v, _, h, .iface _ _ v' e => .iface t v v' (VR_sc v h e)
  | .nili, _, _, .nili => .nili
  | .agg l, _, h, .agg _ a e o => .agg l a (VR_scs l h e) o
  | .tup l, _, h, .tup _ a e => .tup l a (VR_scs l h e)
  | .any, _, _, .any v e => .any v e
  | .fz .., _, h, _ => by cases h
  | .fp _, _, h, _ => by cases h
theorem VR_scs : ∀ (l : List AV) {m : List Value}, scs l = true → All2 (VR γ) l m → All2 (VR γ2) l m
  | [], _, _, .nil => .nil
  | v :: l, _, h, .cons a b => by
    simp only [scs, Bool.and_eq_true] at h
    exact .cons (VR_sc v h.1 a) (VR_scs l h.2 b)
end
theorem C.view {f : Nat} {args args2 : List AV} {u : AV} {s : St} (hF : All2 (Frz s) args args2) (hu : sc u = true) (h : C P f args2 St0 (fun v s' => v = u ∧ s' = allocs St0 [])) : C P f args s (fun v s' => v = u ∧ s' = s) := by
  intro γ vals w m hA hs
  let φ : Nat → Option (Array Value) := fun b => match w.heap[b]? with | some (.cells c _ _) => some c | _ => none
  have hφ : ∀ b c, φ b = some c → ∃ e fr, w.heap[b]? = some (.cells c e fr) := by
    intro b c hc
    have hc : (match w.heap[b]? with | some (.cells c _ _) => some c | _ => none) = some c := hc
    split at hc
    · rename_i c' e fr hh; cases hc; exact ⟨e, fr, hh⟩
    · cases hc
  have hφ2 : ∀ b c e fr, w.heap[b]? = some (.cells c e fr) → φ b = some c := by
    intro b c e fr hc
    show (match w.heap[b]? with | some (.cells c _ _) => some c | _ => none) = some c
    rw [hc]
  have hA2 : All2 (VR ⟨fun _ => none, φ⟩) args2 vals := Frz.VRs hs (fun b c e => by obtain ⟨t, fr, hh⟩ := hs.fzc b c e; exact hφ2 b c t fr hh) (fun r e cs L c _ _ hh => hφ2 L.b c e (0, 0) hh) hF hA
  refine CallsIn.mono (h ⟨fun _ => none, φ⟩ vals w m hA2 (sim0 hφ)) ?_
  rintro e w' ⟨v, s', ⟨rfl, rfl⟩, v', γ', rfl, hst, hsim, hv⟩
  have hblk : ∀ b, b < w.heap.size → w'.heap[b]? = w.heap[b]? := fun b hb => hst.blk b hb (fun r L e => by cases e)
  refine ⟨_, _, ⟨rfl, rfl⟩, v', γ, rfl, ?_, ?_, VR_sc v hu hv⟩
  · exact ⟨Le.refl γ, fun r L h h' => (by rw [h] at h'; cases h'), Nat.le_refl _, hst.size, hst.os, hst.tape, hst.output, fun b hb _ => hblk b hb, fun _ _ _ => rfl, fun b c h h' => (by rw [h] at h'; cases h')⟩
  · refine ⟨fun r o L ho hL => (hs.obj r o L ho hL).heap (hblk _ (hs.lt r L hL)), hs.inj, fun r L hL => Nat.lt_of_lt_of_le (hs.lt r L hL) hst.size, hs.nx, hs.dom, fun b c e => ?_, hs.fzr⟩
    obtain ⟨t, fr, hh⟩ := hs.fzc b c e
    exact ⟨t, fr, (hblk b (hs.fzlt e)).trans hh⟩
noncomputable def bytesAt (s : St) (v : AV) : Option (List Nat) :=
  SR.rec none (fun r o n _ => Option.rec none bytesOf (load r o n s)) (some []) (some []) (fun n _ l => Bool.rec none (bytesOf l) (Nat.beq (lenL l) n)) (asSl v)
theorem bytesOf_bys : ∀ {l : List AV} {bs : List Nat}, bytesOf l = some bs → l = bys bs ∧ ∀ b ∈ bs, b < 256 := by
  intro l
  induction l with
  | nil => intro bs h; cases h; exact ⟨rfl, by simp⟩
  | cons x l ih =>
    intro bs h
    change (IR.rec none (fun k n => Bool.rec none (Int.rec (fun a => Bool.rec none (Option.rec none (fun r => some (a :: r)) (bytesOf l)) (Nat.blt a 256)) (fun _ => none) n) (Nat.beq (kCode k) 4)) (asInt x) : Option (List Nat)) = some bs at h
    cases hc : asInt x with
    | no => rw [hc] at h; cases h
    | int k n =>
      rw [hc] at h
      dsimp only at h
      cases hk : Nat.beq (kCode k) 4 with
      | false => rw [hk] at h; cases h
      | true =>
        rw [hk] at h
        have hku : k = .u8 := by cases k <;> first | rfl | cases hk
        subst hku
        cases n with
        | negSucc n => cases h
        | ofNat a =>
          dsimp only at h
          cases hb : Nat.blt a 256 with
          | false => rw [hb] at h; cases h
          | true =>
            rw [hb] at h
            rw [Nat.blt_eq] at hb
            cases hbo : bytesOf l with
            | none => rw [hbo] at h; cases h
            | some r =>
              rw [hbo] at h; cases h
              obtain ⟨e1, e2⟩ := ih hbo
              refine ⟨by rw [asInt_eq hc, e1]; rfl, ?_⟩
              intro b hb'
              rcases List.mem_cons.1 hb' with rfl | hb'
              · exact hb
              · exact e2 b hb'
theorem scs_hfs_bys (bs : List Nat) : hfs (bys bs) = true := hfs_iff.2 fun v hv => by
  obtain ⟨b, _, rfl⟩ := List.mem_map.1 hv; rfl
theorem frz_bys {s : St} : ∀ (bs : List Nat), All2 (Frz s) (bys bs) (bys bs)
  | [] => .nil
  | b :: bs => .cons (.plain _ rfl) (frz_bys bs)
theorem bys_length (bs : List Nat) : (bys bs).length = bs.length := List.length_map ..
theorem bytesAt_view {s : St} {v : AV} {bs : List Nat} (h : bytesAt s v = some bs) : ∃ v2, Frz s v v2 ∧ Sl 1 bs.length (bys bs) v2 ∧ ∀ b ∈ bs, b < 256 := by
  unfold bytesAt at h
  cases hq : asSl v with
  | no => rw [hq] at h; cases h
  | nils => rw [hq] at h; cases h; rw [asSl_nils hq]; exact ⟨.nils, .plain _ rfl, .inl ⟨rfl, rfl, rfl⟩, by simp⟩
  | es => rw [hq] at h; cases h; rw [asSl_es hq]; exact ⟨.es, .plain _ rfl, .inr (.inl ⟨rfl, rfl, rfl⟩), by simp⟩
  | sl r o n c =>
    rw [hq] at h
    change (Option.rec none bytesOf (load r o n s) : Option (List Nat)) = some bs at h
    cases hl : load r o n s with
    | none => rw [hl] at h; cases h
    | some cs =>
      rw [hl] at h
      obtain ⟨rfl, hb⟩ := bytesOf_bys (show bytesOf cs = some bs from h)
      rw [asSl_sl hq]
      unfold load at hl
      cases hr : rowAt r s with
      | no => rw [hr] at hl; cases hl
      | row e rs =>
        rw [hr] at hl
        change takeL n (dropL o rs) = some (bys bs) at hl
        obtain ⟨e1, e2⟩ := takeL_some n hl
        rw [dropL_eq] at e1 e2
        have hn : bs.length = n := by
          have := congrArg List.length e1
          rw [bys_length, List.length_take] at this
          omega
        refine ⟨.fz n none (bys bs), .sl r o n c none e rs (bys bs) (bys bs) (rowAt_some hr) ?_ (frz_bys bs) (.inl rfl), .inr (.inr ⟨none, by rw [hn], by rw [bys_length, Nat.mul_one]⟩), hb⟩
        intro i x hx
        rw [e1, List.getElem?_take] at hx
        split at hx
        · rwa [List.getElem?_drop] at hx
        · cases hx
  | fz n c l =>
    rw [hq] at h
    change (Bool.rec none (bytesOf l) (Nat.beq (lenL l) n) : Option (List Nat)) = some bs at h
    cases hl : Nat.beq (lenL l) n with
    | false => rw [hl] at h; cases h
    | true =>
      rw [hl] at h
      obtain ⟨rfl, hb⟩ := bytesOf_bys (show bytesOf l = some bs from h)
      rw [asSl_fz hq]
      have hn : bs.length = n := by
        have := Nat.eq_of_beq_eq_true hl
        rw [lenL_eq, bys_length] at this
        exact this
      exact ⟨_, .plain _ rfl, .inr (.inr ⟨c, by rw [hn], by rw [bys_length, Nat.mul_one]⟩), hb⟩
end
end Go.AM

set_option linter.unusedVariables false
namespace Go.AM
theorem T.get_sing_same {α : Type} {x : α} : ∀ (n k : Nat), k + 1 < 2 ^ n → (T.sing x n k).get k = some x := by
  intro n
  induction n with
  | zero => intro k h; simp at h
  | succ n ih =>
    intro k h
    cases k with
    | zero => rfl
    | succ k =>
      have hk : k / 2 + 1 < 2 ^ n := by rw [Nat.pow_succ] at h; omega
      show T.get (Bool.rec (T.nd none .lf (T.sing x n (Nat.div k 2))) (T.nd none (T.sing x n (Nat.div k 2)) .lf) (Nat.beq (Nat.mod k 2) 0)) (k + 1) = some x
      cases hb : Nat.beq (Nat.mod k 2) 0
      · show (Bool.rec (T.get (T.sing x n (Nat.div k 2)) (Nat.div k 2)) _ (Nat.beq (Nat.mod k 2) 0) : Option α) = some x
        rw [hb]; exact ih _ hk
      · show (Bool.rec _ (T.get (T.sing x n (Nat.div k 2)) (Nat.div k 2)) (Nat.beq (Nat.mod k 2) 0) : Option α) = some x
        rw [hb]; exact ih _ hk
theorem T.get_set_same {α : Type} {x : α} : ∀ (t : T α) (k : Nat), k < 1000000000 → (t.set x k).get k = some x := by
  intro t
  induction t with
  | lf => intro k h; exact T.get_sing_same 64 k (by omega)
  | nd v l r il ir =>
    intro k h
    cases k with
    | zero => rfl
    | succ k =>
      have hk : k / 2 < 1000000000 := by omega
      show T.get (Bool.rec (T.nd v l (r.set x (Nat.div k 2))) (T.nd v (l.set x (Nat.div k 2)) r) (Nat.beq (Nat.mod k 2) 0)) (k + 1) = some x
      cases hb : Nat.beq (Nat.mod k 2) 0
      · show (Bool.rec (T.get (r.set x (Nat.div k 2)) (Nat.div k 2)) _ (Nat.beq (Nat.mod k 2) 0) : Option α) = some x
        rw [hb]; exact ir _ hk
      · show (Bool.rec _ (T.get (l.set x (Nat.div k 2)) (Nat.div k 2)) (Nat.beq (Nat.mod k 2) 0) : Option α) = some x
        rw [hb]; exact il _ hk
theorem St.get_alloc_same {s : St} {o : AObj} (h : s.next < 1000000000) : (s.alloc o).get s.next = some o := by
  cases s; exact T.get_set_same _ _ h
theorem St.get_put_same {s : St} {o : AObj} {r : Nat} (h : r < 1000000000) : (s.put r o).get r = some o := by
  cases s; exact T.get_set_same _ _ h
theorem rowAt_of {s : St} {r e : Nat} {cs : List AV} (h : s.get r = some (.row e cs)) : rowAt r s = .row e cs := by
  unfold rowAt; rw [h]; rfl
theorem load_of {s : St} {r e o n : Nat} {cs : List AV} (h : s.get r = some (.row e cs)) (hl : o + n ≤ cs.length) : load r o n s = some ((cs.drop o).take n) := by
  unfold load; rw [rowAt_of h]
  show takeL n (dropL o cs) = _
  rw [dropL_eq]; exact takeL_of (by simp; omega)
theorem upd_of : ∀ {vs : List AV} {o : Nat} {l : List AV}, o + vs.length ≤ l.length → upd vs o l = some (l.take o ++ vs ++ l.drop (o + vs.length)) := by
  have hH : ∀ {vs l : List AV}, vs.length ≤ l.length → updH vs l = some (vs ++ l.drop vs.length) := by
    intro vs
    induction vs with
    | nil => intro l _; rfl
    | cons v vs ih => intro l h; cases l with
      | nil => simp at h
      | cons x l =>
        show (Option.rec none (fun r => some (v :: r)) (updH vs l) : Option (List AV)) = _
        rw [ih (by simpa using h)]; rfl
  intro vs o
  induction o with
  | zero => intro l h; show updH vs l = _; rw [hH (by omega)]; simp
  | succ o ih => intro l h; cases l with
    | nil => simp at h
    | cons x l =>
      show (Option.rec none (fun r => some (x :: r)) (upd vs o l) : Option (List AV)) = _
      rw [ih (by simp at h; omega), show o + 1 + vs.length = (o + vs.length) + 1 by omega]; rfl
theorem store_of {s : St} {r e o : Nat} {cs vs : List AV} (h : s.get r = some (.row e cs)) (hl : o + vs.length ≤ cs.length) : storeAt r o vs s = some (s.put r (.row e (cs.take o ++ vs ++ cs.drop (o + vs.length)))) := by
  unfold storeAt; rw [rowAt_of h]
  show (Option.rec none (fun cs' => some (s.put r (.row e cs'))) (upd vs o cs) : Option St) = _
  rw [upd_of hl]
section
variable {t : AT} {s : St} {k : AV → St → Prop} {x y : AO}
theorem EPrim.slcK {es r o n c l h : Nat} {lo hi : Option AO} (hx : ev x t = .some (.sl r o n (some c))) (hlo : optNat t lo 0 = .n l) (hhi : optNat t hi n = .n h) (h1 : l ≤ h) (h2 : h ≤ c) (h3 : l < c) (hk : k (.sl r (o + l * es) (h - l) (some (c - l))) s) : EPrim (.slc es x lo hi none) t s k := by
  refine EPrim.mk (fun e rec => ?_) hk
  show wth x t _ = _; unfold wth; rw [hx]
  show (NR.rec .fail _ (optNat t lo 0) : RV) = _; rw [hlo]
  show (NR.rec .fail _ (optNat t hi n) : RV) = _; rw [hhi]
  show gd (Nat.ble l h && Nat.ble h c) (.ok (.sl r (Bool.rec (o + l * es) o (Nat.beq c l)) (h - l) (some (c - l))) s) = _
  rw [Nat.ble_eq_true_of_le h1, Nat.ble_eq_true_of_le h2, show Nat.beq c l = false by rw [← Bool.not_eq_true]; intro e; have := Nat.eq_of_beq_eq_true e; omega]; rfl
theorem EPrim.slcU {es r o n l h : Nat} {lo hi : Option AO} (hx : ev x t = .some (.sl r o n none)) (hlo : optNat t lo 0 = .n l) (hhi : optNat t hi n = .n h) (h1 : l ≤ h) (h2 : h ≤ n) (h3 : l < n) (hk : k (.sl r (o + l * es) (h - l) none) s) : EPrim (.slc es x lo hi none) t s k := by
  refine EPrim.mk (fun e rec => ?_) hk
  show wth x t _ = _; unfold wth; rw [hx]
  show (NR.rec .fail _ (optNat t lo 0) : RV) = _; rw [hlo]
  show (NR.rec .fail _ (optNat t hi n) : RV) = _; rw [hhi]
  show gd (Nat.ble l h && Nat.ble h n) (Bool.rec (.ok .es s) (.ok (.sl r (o + l * es) (h - l) none) s) (Nat.blt l n)) = _
  rw [Nat.ble_eq_true_of_le h1, Nat.ble_eq_true_of_le h2, show Nat.blt l n = true by simpa using h3]; rfl
theorem EPrim.capK {r o n c : Nat} (hx : ev x t = .some (.sl r o n (some c))) (hk : k (.int .i64 (Int.ofNat c)) s) : EPrim (.capo x) t s k := by
  refine EPrim.mk (v := .int .i64 (Int.ofNat c)) (s' := s) (fun e rec => ?_) hk
  show wth x t _ = _; unfold wth; rw [hx]; rfl
theorem EPrim.copyP {es r o n r' o' n' : Nat} {c c' : Option Nat} {cs : List AV} {s' : St} (hx : ev x t = .some (.sl r o n c)) (hy : ev y t = .some (.sl r' o' n' c')) (hl : load r' o' (Nat.min n' n * es) s = some cs) (hst : storeAt r o cs s = some s') (hk : k (.int .i64 (Int.ofNat (Nat.min n' n))) s') : EPrim (.copy es x y) t s k := by
  refine EPrim.mk (v := .int .i64 (Int.ofNat (Nat.min n' n))) (s' := s') (fun e rec => ?_) hk
  show wth x t _ = _; unfold wth; rw [hx]
  show wth y t _ = _; unfold wth; rw [hy]
  show (Option.rec .fail (fun cs => retS (intN (Nat.min n' n)) (storeAt r o cs s)) (load r' o' (Nat.mul (Nat.min n' n) es) s) : RV) = _
  rw [show load r' o' (Nat.mul (Nat.min n' n) es) s = some cs from hl]
  show retS _ (storeAt r o cs s) = _; rw [hst]; rfl
theorem EPrim.app0K {el es r o n c m : Nat} {q : IntKind} {z old : List AV} (hx : ev x t = .some (.sl r o n (some c))) (hy : ev y t = .some (.int q (Int.ofNat m))) (hl : load r o (n * es) s = some old) (h1 : c < n + m) (h2 : 0 < m) (h3 : n + m ≤ 1000000) (hk : k (.sl s.next 0 (n + m) none) (s.alloc (.row el (old ++ repL z m)))) : EPrim (.app0 el es z x y) t s k := by
  refine EPrim.mk (v := .sl s.next 0 (n + m) none) (s' := s.alloc (.row el (old ++ repL z m))) (fun e rec => ?_) hk
  show wth x t _ = _; unfold wth; rw [hx]
  show wth y t _ = _; unfold wth; rw [hy]
  show (Option.rec .fail _ (load r o (Nat.mul n es) s) : RV) = _
  rw [show load r o (Nat.mul n es) s = some old from hl]
  show (Bool.rec (gd (Nat.blt 0 m) (appNew el (n + m) (appL old (rep z m)) s)) .fail (Nat.ble (n + m) c) : RV) = _
  rw [show Nat.ble (n + m) c = false by rw [← Bool.not_eq_true]; intro e; have := Nat.le_of_ble_eq_true e; omega]
  show gd (Nat.blt 0 m) (gd (Nat.ble (n + m) 1000000) _) = _
  rw [show Nat.blt 0 m = true by simpa using h2, Nat.ble_eq_true_of_le h3, appL_eq, rep_eq]; rfl
theorem EPrim.addN {a b : Nat} (hx : ev x t = .some (.int .i64 (Int.ofNat a))) (hy : ev y t = .some (.int .i64 (Int.ofNat b))) (h : a + b < 9223372036854775807) (hk : k (.int .i64 (Int.ofNat (a + b))) s) : EPrim (.bin .add x y) t s k :=
  EPrim.addS hx hy (by have e1 : Int.ofNat a = (a : Int) := rfl; have e2 : Int.ofNat b = (b : Int) := rfl; omega) hk
theorem EPrim.subN {a b : Nat} (hx : ev x t = .some (.int .i64 (Int.ofNat a))) (hy : ev y t = .some (.int .i64 (Int.ofNat b))) (h : b ≤ a) (h' : a < 9223372036854775807) (hk : k (.int .i64 (Int.ofNat (a - b))) s) : EPrim (.bin .sub x y) t s k :=
  EPrim.subS hx hy (by have e1 : Int.ofNat a = (a : Int) := rfl; have e2 : Int.ofNat b = (b : Int) := rfl; omega) (by rw [show Int.ofNat a - Int.ofNat b = Int.ofNat (a - b) by have e1 : Int.ofNat a = (a : Int) := rfl; have e2 : Int.ofNat b = (b : Int) := rfl; have e3 : Int.ofNat (a - b) = ((a - b : Nat) : Int) := rfl; omega]; exact hk)
theorem EPrim.eqlN {q : IntKind} {a b : Nat} (hx : ev x t = .some (.int q (Int.ofNat a))) (hy : ev y t = .some (.int q (Int.ofNat b))) (h1 : a = b → k (.bool true) s) (h2 : a ≠ b → k (.bool false) s) : EPrim (.bin .eql x y) t s k :=
  EPrim.eql2 hx hy (fun h => h1 (by injection h)) (fun h => h2 (fun e => h (by rw [e])))
theorem EPrim.gtrN {q : IntKind} {a b : Nat} (hx : ev x t = .some (.int q (Int.ofNat a))) (hy : ev y t = .some (.int q (Int.ofNat b))) (h1 : b < a → k (.bool true) s) (h2 : a ≤ b → k (.bool false) s) : EPrim (.bin .gtr x y) t s k :=
  EPrim.gtr2 hx hy (fun h => h1 (by have e1 : Int.ofNat a = (a : Int) := rfl; have e2 : Int.ofNat b = (b : Int) := rfl; omega)) (fun h => h2 (by have e1 : Int.ofNat a = (a : Int) := rfl; have e2 : Int.ofNat b = (b : Int) := rfl; omega))
end
section
variable {P : Program} {γ γ0 : Gam} {s s0 S : St} {w w0 : World}
theorem Sim.same (h : Sim P γ s w) (hn : S.next = s.next) (hg : ∀ k o, S.get k = some o → (o = .dead ∧ k < s.next) ∨ s.get k = some o) : Sim P γ S w := by
  have hd : ∀ k o, S.get k = some o → alive o = true → s.get k = some o := fun k o hk ha => by
    rcases hg k o hk with ⟨rfl, _⟩ | e
    · cases ha
    · exact e
  refine ⟨fun k o L hk hL => ?_, fun k k' o o' L L' hk hk' ha ha' hL hL' hne => h.inj k k' o o' L L' (hd k o hk ha) (hd k' o' hk' ha') ha ha' hL hL' hne, h.lt, fun r hr => h.nx r (by omega), fun k o hk => ?_, h.fzc, fun k o L hk ha hL => h.fzr k o L (hd k o hk ha) ha hL⟩
  · rcases hg k o hk with ⟨rfl, _⟩ | e
    · trivial
    · exact h.obj k o L e hL
  · rcases hg k o hk with ⟨rfl, e⟩ | e
    · omega
    · have := h.dom k o e; omega
theorem Stp.same (h : Stp γ0 s0 w0 γ s w) (hn : S.next = s.next) (hk : ∀ r, γ0 r = none → r < s0.next → S.get r = s0.get r) : Stp γ0 s0 w0 γ S w :=
  ⟨h.le, h.new, by rw [hn]; exact h.next, h.size, h.os, h.tape, h.output, h.blk, hk, h.fzn⟩
end
end Go.AM

set_option linter.unusedVariables false
namespace Go.AM
open Go.RowKit
noncomputable def ofT {α : Type} : List (Nat × α) → T α
  | [] => .lf
  | p :: l => (ofT l).set p.2 p.1
theorem ofT_get {α : Type} : ∀ {l : List (Nat × α)} {f : Nat} {a : α}, (ofT l).get f = some a → ∃ p ∈ l, p.1 = f ∧ p.2 = a
  | [], _, _, h => by cases h
  | p :: l, f, a, h => by
    rcases T.get_set h with ⟨rfl, rfl⟩ | ⟨_, h⟩
    · exact ⟨p, by simp, rfl, rfl⟩
    · obtain ⟨q, hq, e⟩ := ofT_get h
      exact ⟨q, by simp [hq], e⟩
def GOk (P : Program) (p : Nat × AFn) : Prop := ∃ fn, P.funcs[p.1]? = some fn ∧ compF P fn = some p.2 ∧ (fn.name == "runtime.NumGoroutine") = false
def OOk (P : Program) (p : Nat × Ov) : Prop := OvOk P p.1 p.2
def XOk (P : Program) (p : Nat × Ov) : Prop := ∀ γ args vals s w v s', All2 (VR γ) args vals → Sim P γ s w → p.2 args s = .ok v s' →
    ∃ v' γ' w', (callFunc p.1 vals.toArray).run P w = .ok (.value v') w' ∧ Stp γ s w γ' s' w' ∧ Sim P γ' s' w' ∧ VR γ' v v'
def All {α : Type} (p : α → Prop) : List α → Prop
  | [] => True
  | x :: l => p x ∧ All p l
theorem All.get {α : Type} {p : α → Prop} : ∀ {l : List α}, All p l → ∀ x ∈ l, p x
  | [], _, x, h => by simp at h
  | y :: l, h, x, hx => by
    rcases List.mem_cons.1 hx with rfl | hx
    · exact h.1
    · exact All.get h.2 x hx
theorem envOk {P : Program} {e : Env} {gl : List (Nat × AFn)} {ol xl : List (Nat × Ov)} (hG : e.G = ofT gl) (hO : e.O = ofT ol) (hX : e.X = ofT xl) (g : All (GOk P) gl) (o : All (OOk P) ol) (x : All (XOk P) xl) : EnvOk P e := by
  refine ⟨fun f af h => ?_, fun f h hh => ?_, fun f h hh => ?_⟩
  · rw [hG] at h
    obtain ⟨p, hp, rfl, rfl⟩ := ofT_get h
    exact g.get p hp
  · rw [hO] at hh
    obtain ⟨p, hp, rfl, rfl⟩ := ofT_get hh
    exact OvOk.env (o.get p hp)
  · rw [hX] at hh
    obtain ⟨p, hp, rfl, rfl⟩ := ofT_get hh
    exact x.get p hp
theorem ovlO_ok {P : Program} {f tS tR el : Nat} {fn : Func} (hf : P.funcs[f]? = some fn) (hname : (fn.name == "runtime.NumGoroutine") = false) (hb : fn.body.isNone = true) (hn : Extern.findNext fn = none) (he : Extern.find fn = some (Extern.SlicesOverlaps.overlaps #[tS, tS] #[tR]))
    (hu : P.underlying tS = some (.slice el)) {sz : Nat} (hsz : szOf P el = some sz) : XOk P (f, ovlO) := by
  intro γ args vals s w v s' hA hs h
  have h : ovlO args s = .ok v s' := h
  unfold ovlO at h
  split at h
  · rename_i a b
    cases hA with
    | @cons _ va _ vs1 a1 hA => cases hA with
      | @cons _ vb _ vs2 a2 hA =>
        cases hA
        rcases sl_ok h with ⟨r, o, n, c, rfl, h⟩ | ⟨_, h⟩ | ⟨_, h⟩
        · rcases sl_ok h with ⟨r', o', n', c', rfl, h⟩ | ⟨_, h⟩ | ⟨_, h⟩
          · obtain ⟨hne, h⟩ := gd_ok h
            have hne : r ≠ r' := fun e => by rw [e, Nat.beq_refl] at hne; cases hne
            cases h1 : rowAt r s with
            | no => rw [h1] at h; cases h
            | row e1 cs1 =>
              rw [h1] at h
              cases h2 : rowAt r' s with
              | no => rw [h2] at h; cases h
              | row e2 cs2 =>
                rw [h2] at h
                cases cs2 with
                | nil => cases h
                | cons x cs2 =>
                  obtain ⟨rfl, rfl⟩ := ok_inj h
                  obtain ⟨L, cc, hL, hv1, _⟩ := slV a1
                  obtain ⟨L', cc', hL', hv2, _⟩ := slV a2
                  have g1 := rowAt_some h1
                  have g2 := rowAt_some h2
                  obtain ⟨c1, p1, p2, p3, p4, p5, _⟩ := hs.row g1 hL
                  obtain ⟨c2, q1, q2, q3, q4, q5, _⟩ := hs.row g2 hL'
                  have hbb := hs.inj r r' _ _ L L' g1 g2 rfl rfl hL hL' hne
                  refine ⟨.bool false, γ, w, ?_, .refl _ _ _, hs, .bool _⟩
                  rw [run_callFunc_extern hf hname hb hn he]
                  have := Lib.run_overlaps_apart (P := P) w tS tR el hu sz (run_sizeOf hsz) ⟨L.b, L.o + o, none⟩ ⟨L'.b, L'.o + o', none⟩ n cc n' cc' hbb e1 e2 c1.size c2.size
                    (by simp [World.shape?, p1]) (by simp [World.shape?, q1]) (by simp at q5; omega) (by simp [World.frozen?, p1]) (by simp [World.frozen?, p1])
                  rw [hv1, hv2, this]; rfl
          · cases h
          · cases h
        · cases h
        · cases h
  · cases h
noncomputable def isTrue (r : RV) : Bool := RV.rec false (fun v _ => BR.rec false true false (asBool v)) r
theorem isTrue_ok {r : RV} (h : isTrue r = true) : ∃ s', r = .ok (.bool true) s' := by
  cases r with
  | fail => cases h
  | ok v s =>
    have h : (BR.rec false true false (asBool v) : Bool) = true := h
    cases hb : asBool v with
    | no => rw [hb] at h; cases h
    | tt => rw [asBool_tt hb]; exact ⟨s, rfl⟩
    | ff => rw [hb] at h; cases h
theorem law_below {P : Program} {e : Env} (hE : EnvOk P e) (hm : P.follows .mixedOrders = true) {k f : Nat} (h : isTrue (callA e (exec e k) f [] St0) = true) (w : World) :
    Calls P f #[] w fun x w' => x = .returned (.bool true) ∧ Below w.heap.size w w' := by
  obtain ⟨s', h⟩ := isTrue_ok h
  have hc := (callA_sound (γ := ⟨fun _ => none, fun _ => none⟩) (vals := []) (exec_good hE hm k) hE .nil (sim0 (w := w) (fun b c h => by cases h)) h).2 0
  refine callsIn_wide.1 (CallsIn.mono hc ?_)
  rintro x w' ⟨v', γ', rfl, hst, _, hv⟩
  cases hv
  exact ⟨rfl, hst.os, hst.tape, hst.output, hst.size, fun b hb => hst.blk b hb (fun r L hL => by cases hL)⟩
end Go.AM

set_option linter.unusedVariables false
namespace Go.AM
open Go.RowKit Go.WideShapes Go.ChangeShapes
section
variable {H : Type} {enc : TypeId × Value → H} {P : Program}
theorem post_new {f : Func} {s : ChangeSpec} {apart fresh handsOn again : Bool} {W W' : World} {args : Array Value} {v : Value} {ds gs : List (DataW H)} {before pa pv : List MemPlace}
    (hW : DataW.Whole enc P f.params.toList s.vars apart W args.toList ds gs before) (hb : Below W.heap.size W W') (hps : before = pa ++ pv)
    (hres : ∀ (b : Nat) (sp : Nat → Bool) (hd : Bool), DataW.TrodAll enc P W' b sp hd f.resultTypes.toList (v.resultList f.resultTypes.size) (s.fn H (ds ++ gs)).results [])
    (hargs : ∀ sp : Nat → Bool, (∀ p ∈ before, sp p.block = true) → DataW.TrodAll enc P W' 0 sp true f.params.toList args.toList (s.fn H (ds ++ gs)).args pa)
    (hvars : ∀ sp : Nat → Bool, (∀ p ∈ before, sp p.block = true) → DataW.TrodVars enc P W' sp s.vars (s.fn H (ds ++ gs)).vars pv)
    (hok : ∀ (j : Nat) (t : TypeId) (r : Value), f.resultTypes[j]? = some t → (v.resultList f.resultTypes.size)[j]? = some r → Value.okWide P W' .any 0 t r) :
    s.post enc P f apart fresh handsOn again W args v W' := by
  have old : ∀ p ∈ before, p.block < W.heap.size := fun p hp => hW.lt p hp
  have oldB : ∀ p ∈ before, (fun b => decide (b < W.heap.size)) p.block = true := fun p hp => decide_eq_true (old p hp)
  have hmem : ∀ p, p ∈ pa ++ pv ↔ p ∈ before := fun p => by rw [hps]
  have hkept : W.keptBut W' (· ∈ before) := hb.frame (· ∈ before)
  refine ⟨ds, gs, before, [], pa, pv, hW, hres _ _ _, hargs _ oldB, hvars _ oldB, World.keptBut_mono ?_ hkept, ?_⟩
  · intro p hp
    refine ⟨hp, .inr ?_⟩
    exact List.mem_append.1 ((hmem p).2 hp)
  · intro _
    obtain ⟨_, _, _, _, _, notFrozen, once⟩ := hW
    refine ⟨hok, _, _, ([] ++ pa) ++ pv, ⟨[] ++ pa, pv, trodAll_append (hargs _ (fun _ _ => rfl)) (hres _ _ _), hvars _ (fun _ _ => rfl), rfl, fun b off hp => ?_, fun ha => ?_⟩, fun p hp _ => ?_⟩
    · have hin : MemPlace.cell b off ∈ before := (hmem _).1 hp
      rw [hb.frozen (old _ hin)]
      exact notFrozen b off hin
    · have h1 := once ha
      rw [hps] at h1
      exact h1
    · exact (hmem p).1 hp
end
end Go.AM
namespace Go.AM
open Go.RowKit
end Go.AM

set_option linter.unusedVariables false
namespace Go.AM
open Go.ChangeMaps (setBlock)
section
variable {P : Program} {γ : Gam} {s : St} {w : World} {t : AT} {ρ : Operand → Value}
theorem mkItems_mem {cs : List AOper} : ∀ {its : List It} {al : List AOper}, mkItems cs its = some al → ∀ a ∈ al, ∃ x, mkItem cs x = some a
  | [], al, h, a, ha => by cases h; cases ha
  | x :: its, al, h, a, ha => by
    simp only [mkItems] at h
    split at h
    · rename_i b r h1 h2
      cases h
      rcases List.mem_cons.1 ha with rfl | ha
      · exact ⟨x, h1⟩
      · exact mkItems_mem h2 a ha
    · cases h
theorem draw_noNx {N : Nat} {ops : Array Oper} {al : List AOper} (h : compDraw P N ops = some al) : ∀ a ∈ al, isNx (opOf a) = false := by
  unfold compDraw at h
  split at h
  · cases h
  · rename_i cs hcs
    simp only at h
    split at h
    · rename_i hok
      simp only [drawOk, Bool.and_eq_true] at hok
      have hall := hok.2
      intro a ha
      obtain ⟨x, hx⟩ := mkItems_mem h a ha
      cases x with
      | op i =>
        have := List.all_eq_true.1 hall a (List.mem_of_getElem? hx)
        simpa using this
      | chk i =>
        simp only [mkItem] at hx
        split at hx
        · rename_i d p g hc
          split at hx
          · cases hx
            have := List.all_eq_true.1 hall _ (List.mem_of_getElem? hc)
            simpa [opOf] using this
          · cases hx
        · cases hx
    · cases h
def NxOut (ri m since : Nat) (seen : List Nat) (es : List (AV × AV × Nat)) (cl : Nat) (s : St) (v : AV) (s' : St) : Prop :=
  ((∀ e ∈ es, e.2.2 ∈ seen) ∧ v = .tup [.bool false] ∧ s' = s) ∨
  ∃ e ∈ es, e.2.2 ∉ seen ∧ v = .tup [.bool true, e.1, e.2.1] ∧ s' = s.put ri (.iter m since (seen ++ [e.2.2]) cl)
theorem All2.mem_left {α β : Type} {R : α → β → Prop} : ∀ {l : List α} {m : List β}, All2 R l m → ∀ x ∈ l, ∃ y ∈ m, R x y
  | _, _, .nil, x, hx => by cases hx
  | _, _, .cons h1 h2, x, hx => by
    rcases List.mem_cons.1 hx with rfl | hx
    · exact ⟨_, by simp, h1⟩
    · obtain ⟨y, hy, hR⟩ := All2.mem_left h2 x hx; exact ⟨y, by simp [hy], hR⟩
theorem All2.mem_right {α β : Type} {R : α → β → Prop} : ∀ {l : List α} {m : List β}, All2 R l m → ∀ y ∈ m, ∃ x ∈ l, R x y
  | _, _, .nil, x, hx => by cases hx
  | _, _, .cons h1 h2, x, hx => by
    rcases List.mem_cons.1 hx with rfl | hx
    · exact ⟨_, by simp, h1⟩
    · obtain ⟨y, hy, hR⟩ := All2.mem_right h2 x hx; exact ⟨y, by simp [hy], hR⟩
theorem next_ok (hs : Sim P γ s w) {o : Oper} {x : Operand} {a : AO} {ri m since last cl : Nat} {seen : List Nat} {es : List (AV × AV × Nat)} (ho : o.op = .next x false) (hx : aop x = some a) (he : Evs γ t ρ [x])
    (hv : ev a t = .some (.ptr ri 0)) (hi : s.get ri = some (.iter m since seen last)) (hm : s.get m = some (.map es cl)) (hold : ∀ e ∈ es, e.2.2 < since) (hsl : since ≤ last) :
    ∃ v s', NxOut ri m since seen es cl s v s' ∧ OpOk P γ s w ρ o v s' := by
  have h1 := he x (by simp) a _ hx hv
  obtain ⟨I, hI, hxv⟩ : ∃ I, γ ri = some I ∧ ρ x = .pointer (some ⟨I.b, I.o + 0, none⟩) := by
    generalize ρ x = vx at h1
    cases h1 with
    | ptr _ _ I hI => exact ⟨I, hI, rfl⟩
  obtain ⟨hIo, M, hM, hitr⟩ := hs.obj ri _ I hi hI
  obtain ⟨ms, hms, hR⟩ := hs.obj m _ M hm hM
  rw [hIo] at hxv
  have hold' : ∀ y ∈ ms.toList, y.born < since := fun y hy => by
    obtain ⟨e, he, hE⟩ := All2.mem_right hR y hy
    rw [hE.2.2]; exact hold e he
  have hrunE : ∀ (v' : Value) (w' : World), (∀ ty, (Instr.next (.pointer (some ⟨I.b, 0, none⟩)) false ty).run P w = .ok v' w') → (execOp ρ o).run P w = .ok (.value v') w' := by
    intro v' w' h
    simp only [execOp, ho, hxv, Sem.run_bind, h, Result.andThen_ok, Sem.run_pure]
  have hlt := hs.lt ri I hI
  rcases run_next_at (P := P) w o.type I.b M.b since last seen.toArray ms cl hitr hms hold' hsl with ⟨h0, hr⟩ | ⟨e, he, w1, hw1, hr⟩
  · refine ⟨_, _, .inl ⟨?_, rfl, rfl⟩, γ, w, .refl _ _ _, hs, .inl ⟨_, ?_, .tup _ _ (.cons (.bool _) .nil)⟩⟩
    · intro e he
      obtain ⟨y, hy, hE⟩ := All2.mem_left hR e he
      refine Classical.byContradiction fun hns => ?_
      have : y ∈ (leftOf ms seen.toArray) := by
        unfold leftOf
        rw [Array.mem_filter]
        refine ⟨by simpa using hy, ?_⟩
        rw [hE.2.2]; simpa using hns
      have hz : leftOf ms seen.toArray = #[] := Array.eq_empty_of_size_eq_zero h0
      rw [hz] at this
      simp at this
    · simp only [execOp, ho, hxv, Sem.run_bind]
      rw [hr]; rfl
  · have hem : e ∈ ms.toList ∧ e.born ∉ seen := by
      have he' : e ∈ leftOf ms seen.toArray := by simpa using he
      unfold leftOf at he'
      rw [Array.mem_filter] at he'
      exact ⟨by simpa using he'.1, by simpa using he'.2⟩
    obtain ⟨e0, he0, hE⟩ := All2.mem_right hR e hem.1
    have hb := hE.2.2
    have key : ∀ w1 : World, w1.heap = w.heap → Sim P γ s w1 → Stp γ s w1 γ (s.put ri (.iter m since (seen ++ [e0.2.2]) cl)) (setBlock w1 I.b (.mapIter (some M.b) since (seen.toArray.push e.born) cl)) ∧ Sim P γ (s.put ri (.iter m since (seen ++ [e0.2.2]) cl)) (setBlock w1 I.b (.mapIter (some M.b) since (seen.toArray.push e.born) cl)) := by
      intro w1 hh hs1
      refine turnObj (O := .mapIter (some M.b) since (seen.toArray.push e.born) cl) hs1 hi hI rfl ⟨hIo, M, hM, ?_⟩
      rw [Array.getElem?_setIfInBounds, if_pos rfl, if_pos (by rw [hh]; exact hlt), hb]
      simp
    refine ⟨_, _, .inr ⟨e0, he0, by rw [← hb]; exact hem.2, rfl, rfl⟩, γ, setBlock w1 I.b (.mapIter (some M.b) since (seen.toArray.push e.born) cl), ?_, ?_, .inl ⟨_, ?_, .tup _ _ (.cons (.bool _) (.cons hE.1 (.cons hE.2.1 .nil)))⟩⟩
    · rcases hw1 with rfl | rfl
      · exact (key _ rfl hs).1
      · exact Stp.drew.trans (key w.drew rfl hs.drew).1
    · rcases hw1 with rfl | rfl
      · exact (key _ rfl hs).2
      · exact (key w.drew rfl hs.drew).2
    · simp only [execOp, ho, hxv, Sem.run_bind]
      rw [hr]; rfl
end
section
variable {P : Program} {e : Env} {k : Nat} {rd : Option Nat} {t : AT} {s : St} {ds : List Nat} {Q : EQ}
theorem list_soundQ {rec : Rec} {n : Nat} (hG : Good P n rec) (hE : EnvOk P e) {N m : Nat} {b : Option Nat} {ops : Array Oper} {γ0 : Gam} {s0 : St} {w0 : World} {t' : AT} {s' : St} {ds : List Nat} {R : Exit → Act → World → Prop}
    (hR : ∀ ex a w, Post P γ0 s0 w0 N .normal t' s' ds ex a w → R ex a w) : ∀ (l : List Oper) (al : List AOper) (γ : Gam) (t : AT) (s : St) (w : World) (a : Act),
    compOpers P N ops l = some al → N ≤ a.tmps.size → TR γ t a.tmps → Sim P γ s w → DR γ ds a.defers → Stp γ0 s0 w0 γ s w → opsA e rec al t s = .ok t' s' →
    wpListIn (fen b) m P ops R l a w := by
  intro l
  induction l with
  | nil =>
    intro al γ t s w a hc hN ht hs hd hst h
    cases hc; cases h
    exact hR _ _ _ ⟨rfl, hN, γ, hst, hs, ht, hd⟩
  | cons o l ih =>
    intro al γ t s w a hc hN ht hs hd hst h
    simp only [compOpers] at hc
    split at hc
    · rename_i d p g r h1 h2 h3 h4
      cases hc
      obtain ⟨hw2, hw1⟩ := wanted_sound ht h3
      simp only [wpListIn]
      rcases opsA_cons h with ⟨hw, h⟩ | ⟨hw, v, s1, hop, h⟩
      · rw [if_neg (by rw [hw1 hw]; simp)]
        refine ⟨fun f _ => fen_fn b f, ?_⟩
        exact ih r γ _ s w _ h4 (by rw [put_size]; exact hN) (ht.put hN h1 (.inl undef_VR)) hs (by rw [put_defers]; exact hd) hst h
      · rw [if_pos (hw2 hw)]
        refine oper_sound hG hE h2 (Evs.of_TR ht _) hs hop ?_
        intro γ' w' v' hst' hs' hv
        exact ih r γ' _ s1 w' _ h4 (by rw [put_size]; exact hN) ((ht.mono hst'.le).put hN h1 hv) hs' (by rw [put_defers]; exact hd.mono hst'.le) (hst.trans hst') h
    · cases hc
theorem W.next {d ri m since last cl : Nat} {seen : List Nat} {es : List (AV × AV × Nat)} {x : AO} {l : List AOper} (hE : EnvOk P e) (hmix : P.follows .mixedOrders = true)
    (hv : ev x t = .some (.ptr ri 0)) (hi : s.get ri = some (.iter m since seen last)) (hm : s.get m = some (.map es cl)) (hold : ∀ e ∈ es, e.2.2 < since) (hsl : since ≤ last)
    (h : ∀ v s', NxOut ri m since seen es cl s v s' → EOps e l (putT d v t) s' fun t' s' => Q .normal t' s' ds) : W P k rd (.reg (.mk d (.nextm x) none :: l)) t s ds Q := by
  intro N c γ w a b γ0 s0 w0 mm h1 h2 h3 h4 h5 h6 h7 h8 h9 h10
  have hcode : ∃ id ops, c = .region id ops false ∧ compOpers P N ops ops.toList = some (.mk d (.nextm x) none :: l) := by
    cases c with
    | region id ops dr =>
      cases dr with
      | false =>
        obtain ⟨al, hal, e1⟩ := map_some (show (compOpers P N ops ops.toList).map AC.reg = some _ from h1)
        cases e1
        exact ⟨id, ops, rfl, hal⟩
      | true =>
        exfalso
        have h' : some (((compDraw P N ops).map AC.reg).getD badC) = some (AC.reg (.mk d (.nextm x) none :: l)) := h1
        cases hal : compDraw P N ops with
        | none => rw [hal] at h'; cases h'
        | some al =>
          rw [hal] at h'; cases h'
          have := draw_noNx hal _ (List.mem_cons_self ..)
          cases this
    | seq c1 c2 => simp only [comp] at h1; split at h1 <;> cases h1
    | cond y c1 c2 => simp only [comp] at h1; split at h1 <;> cases h1
    | block id c1 => obtain ⟨_, _, e1⟩ := map_some (show (comp P N c1).map (AC.block id) = some _ from h1); cases e1
    | scope c1 => obtain ⟨_, _, e1⟩ := map_some (show (comp P N c1).map AC.scope = some _ from h1); cases e1
    | loop c1 => obtain ⟨_, _, e1⟩ := map_some (show (comp P N c1).map AC.loop = some _ from h1); cases e1
    | rangeFunc f ps asg body =>
      simp only [comp] at h1
      split at h1
      · split at h1 <;> cases h1
      · cases h1
    | _ => cases h1
  obtain ⟨id, ops, rfl, hal⟩ := hcode
  refine wpIn_region_list ?_
  cases hl : ops.toList with
  | nil => rw [hl] at hal; cases hal
  | cons o ol =>
    rw [hl] at hal
    simp only [compOpers] at hal
    split at hal
    · rename_i d' p' g' r' e1 e2 e3 e4
      cases hal
      obtain ⟨hw2, _⟩ := wanted_sound h3 e3
      simp only [wpListIn]
      rw [if_pos (hw2 rfl)]
      have hop : ∃ y, o.op = .next y false ∧ aop y = some x := by
        rcases compOp_cases e2 with hc | hc
        · cases hq : o.op with
          | next y str =>
            cases str with
            | true => simp only [compOp0, hq] at hc; cases hc
            | false =>
              simp only [compOp0, hq] at hc
              obtain ⟨z, hz, e⟩ := map_some hc
              cases e
              exact ⟨y, rfl, hz⟩
          | call c =>
            exfalso
            obtain ⟨cal, args, ts⟩ := c
            simp only [compOp0, hq] at hc
            cases cal with
            | builtin bi =>
              simp only at hc
              unfold compBuiltin at hc
              repeat' split at hc
              all_goals first
                | (cases hc; done)
                | (obtain ⟨_, _, hh⟩ := map_some hc; cases hh; done)
            | value f =>
              repeat' split at hc
              all_goals first
                | (cases hc; done)
                | (obtain ⟨_, _, hh⟩ := map_some hc; cases hh; done)
                | (rename_i hqq; cases hqq; done)
            | invoke r mth =>
              simp only at hc
              split at hc <;> cases hc
          | makeFunc f as bs =>
            exfalso
            cases f with
            | func f =>
              simp only [compOp0, hq] at hc
              split at hc <;> cases hc
            | _ => simp only [compOp0, hq] at hc; cases hc
          | makeMap ty r =>
            exfalso
            cases r with
            | none => simp only [compOp0, hq] at hc; cases hc
            | some r => simp only [compOp0, hq] at hc; cases hc
          | typeAssert x' xt ty ok =>
            exfalso
            cases ok with
            | false => simp only [compOp0, hq] at hc; cases hc
            | true =>
              simp only [compOp0, hq] at hc
              repeat' split at hc
              all_goals (cases hc; done)
          | _ =>
            exfalso
            simp only [compOp0, hq] at hc
            repeat' split at hc
            all_goals first
              | (cases hc; done)
              | (obtain ⟨_, _, hh⟩ := map_some hc; cases hh; done)
        · cases hc
      obtain ⟨y, hop, hy⟩ := hop
      have hops : o.op.operands.toList = [y] := by rw [hop]; rfl
      obtain ⟨v, s', hN, hok⟩ := next_ok (ρ := a.eval) h4 hop hy (Evs.of_TR h3 [y]) hv hi hm hold hsl
      refine plain_oper (fun c hc => by rw [hop] at hc; cases hc) hok ?_
      intro γ' w' v' hst' hs' hvv
      obtain ⟨n, t', s'', hrun, hq⟩ := eops_sound (h v s' hN)
      exact list_soundQ (n := n) (exec_good hE hmix n) hE (fun ex a w hp => ⟨_, _, _, _, hq, hp⟩) ol l γ' _ s' w' _ e4 (by rw [put_size]; exact h2) ((h3.mono hst'.le).put h2 e1 hvv) hs' (by rw [put_defers]; exact h6.mono hst'.le) (h7.trans hst') hrun
    · cases hal
end
end Go.AM

set_option linter.unusedVariables false
namespace Go.AM
def WC (P : Program) (k : Nat) (rd : Option Nat) (N : Nat) (c : Code) (t : AT) (s : St) (ds : List Nat) (Q : Ex → AT → St → List Nat → Prop) : Prop :=
  ∀ (γ : Gam) (w : World) (a : Act) (b : Option Nat) (γ0 : Gam) (s0 : St) (w0 : World) (m : Nat),
    N ≤ a.tmps.size → TR γ t a.tmps → Sim P γ s w → RD γ0 rd b → DR γ ds a.defers → Stp γ0 s0 w0 γ s w → s0.next = k → (∀ r, k ≤ r → γ0 r = none) → (∀ r, r < k → ∃ L, γ0 r = some L) →
    c.wpIn (fen b) m P (fun ex a' w' => ∃ x t' s' ds', Q x t' s' ds' ∧ Post P γ0 s0 w0 N x t' s' ds' ex a' w') a w
section
variable {P : Program} {e : Env} {k N : Nat} {rd : Option Nat} {t : AT} {s : St} {ds : List Nat} {Q : EQ}
theorem W.code {ac : AC} {c : Code} (hc : comp P N c = some ac) (h : W P k rd ac t s ds Q) : WC P k rd N c t s ds Q :=
  fun γ w a b γ0 s0 w0 m h2 h3 h4 h5 h6 h7 h8 h9 h10 => h N c γ w a b γ0 s0 w0 m hc h2 h3 h4 h5 h6 h7 h8 h9 h10
theorem WC.seq {c1 c2 : Code} (h : WC P k rd N c1 t s ds (Then (fun t s ds => WC P k rd N c2 t s ds Q) Q)) : WC P k rd N (.seq c1 c2) t s ds Q := by
  intro γ w a b γ0 s0 w0 m h2 h3 h4 h5 h6 h7 h8 h9 h10
  refine wpIn_seq (wpIn_mono (h γ w a b γ0 s0 w0 m h2 h3 h4 h5 h6 h7 h8 h9 h10) (then_post ?_))
  intro t1 s1 ds1 γ1 a1 w1 hk q1 q2 q3 q4 q5
  exact hk γ1 w1 a1 b γ0 s0 w0 m q1 q2 q3 h5 q4 q5 h8 h9 h10
theorem WC.any {id : Nat} {ops : Array Oper} (hE : EnvOk P e) (hmix : P.follows .mixedOrders = true) (hback : backOk ops.toList 0 = true) (J : (Nat → Prop) → AT → St → Prop) (h0 : J (fun _ => False) t s)
    (hstep : ∀ (D : Nat → Prop) (t : AT) (s : St) (i : Nat) (o : Oper), J D t s → ops[i]? = some o → ¬ D i → (∀ e ∈ o.after.toList, Region.binds .any e = true → D e.on) →
      ∃ d p, compDst N o.dst = some d ∧ compOp P o = some p ∧ o.guard = none ∧ EOp e p t s fun v s' => J (fun j => D j ∨ j = i) (putT d v t) s')
    (hend : ∀ (D : Nat → Prop) (t : AT) (s : St), J D t s → (∀ i, i < ops.size → D i) → Q .normal t s ds) : WC P k rd N (.region id ops true) t s ds Q := by
  intro γ w a b γ0 s0 w0 m h2 h3 h4 h5 h6 h7 h8 h9 h10
  refine wpIn_region_any hmix ?_
  have key : ∀ (fuel : Nat) (listed : Array Bool) (t : AT) (s : St) (γ : Gam) (a : Act) (w : World), listed.size = ops.size → listed.toList.count false ≤ fuel → J (Dn listed) t s → N ≤ a.tmps.size → TR γ t a.tmps → Sim P γ s w → DR γ ds a.defers → Stp γ0 s0 w0 γ s w →
      wpAnyIn (fen b) m P .any ops (fun ex a' w' => ∃ x t' s' ds', Q x t' s' ds' ∧ Post P γ0 s0 w0 N x t' s' ds' ex a' w') fuel listed a w := by
    intro fuel
    induction fuel with
    | zero =>
      intro listed t s γ a w hsz hcnt hJ q1 q2 q3 q4 q5
      have hall : ∀ i, i < ops.size → Dn listed i := by
        intro i hi
        unfold Dn
        cases hd : listed.getD i false with
        | true => rfl
        | false =>
          exfalso
          have h0 : listed.toList.count false = 0 := by omega
          rw [List.count_eq_zero] at h0
          apply h0
          have : listed[i]? = some (listed[i]'(by omega)) := by simp [hsz, hi]
          rw [Array.getD_eq_getD_getElem?, this] at hd
          simp at hd
          rw [← hd]; simp
      refine ⟨?_, _, _, _, _, hend _ t s hJ hall, rfl, q1, γ, q5, q3, q2, q4⟩
      cases hrd : Region.ready .any ops listed with
      | nil => rfl
      | cons i l =>
        obtain ⟨o, ho, hi, _⟩ := mem_ready (show i ∈ Region.ready .any ops listed by rw [hrd]; simp)
        have hil : i < ops.size := (Array.getElem?_eq_some_iff.1 ho).1
        have h1 := hall i hil
        unfold Dn at h1
        have : listed[i]? = some (listed[i]'(by omega)) := by simp [hsz, hil]
        rw [Array.getD_eq_getD_getElem?, this] at h1 hi
        simp at h1 hi
        rw [h1] at hi; cases hi
    | succ fuel ih =>
      intro listed t s γ a w hsz hcnt hJ q1 q2 q3 q4 q5
      refine ⟨fun hrd => ⟨_, _, _, _, hend _ t s hJ (all_listed hback hsz hrd), rfl, q1, γ, q5, q3, q2, q4⟩, fun i hi => ?_⟩
      obtain ⟨o, ho, hd, hpre⟩ := mem_ready hi
      have hil : i < ops.size := (Array.getElem?_eq_some_iff.1 ho).1
      have hget : listed[i]? = some (listed[i]'(by omega)) := by simp [hsz, hil]
      have hfalse : listed[i]'(by omega) = false := by
        rw [Array.getD_eq_getD_getElem?, hget] at hd; simpa using hd
      have hni : ¬ Dn listed i := by unfold Dn; rw [Array.getD_eq_getD_getElem?, hget]; simp [hfalse]
      obtain ⟨d, p, hcd, hcp, hg, hop⟩ := hstep (Dn listed) t s i o hJ ho hni hpre
      obtain ⟨n, v, s', hrun, hJ'⟩ := eop_sound hop
      unfold wpOpIn
      simp only [ho]
      rw [if_pos (by unfold Region.wanted; rw [hg])]
      refine oper_sound (exec_good hE hmix n) hE hcp (Evs.of_TR q2 _) q3 hrun ?_
      intro γ' w' v' hst' hs' hv
      have hJ2 : J (Dn (listed.setIfInBounds i true)) (putT d v t) s' := by rw [Dn_set (by omega)]; exact hJ'
      refine ih _ _ s' γ' _ w' (by simp [hsz]) ?_ hJ2 (by rw [put_size]; exact q1) ((q2.mono hst'.le).put q1 hcd hv) hs' (by rw [put_defers]; exact q4.mono hst'.le) (q5.trans hst')
      rw [Array.toList_setIfInBounds, List.count_set (by simpa [hsz] using hil)]
      simp [hfalse]
      have hpos : 0 < listed.toList.count false := List.count_pos_iff.2 (by rw [← hfalse]; simp)
      simp at hpos hcnt
      omega
  have hno : Dn (Array.replicate ops.size false) = fun _ => False := by
    funext i
    unfold Dn
    rw [Array.getD_eq_getD_getElem?, Array.getElem?_replicate]
    split <;> simp
  exact key ops.size _ t s γ a _ (by simp) (by simp) (by rw [hno]; exact h0) h2 h3 h4.drew h6 (h7.trans Stp.drew)
theorem C.of_WC {f : Nat} {fn : Func} {b : Code} {res : List ARes} {args : List AV} {Q : AV → St → Prop} (hf : P.funcs[f]? = some fn) (hb : fn.body = some b) (hrs : compRes P fn.results.toList = some res)
    (h : WC P 0 none fn.ntmps b (initT args 0 .lf) St0 [] (Ends res Q)) : C P f args St0 Q := by
  intro γ vals w m hA hs
  refine callsIn_of_wp_marks hf hb trivial ?_
  have hTR : TR γ (initT args 0 .lf) (vals.toArray ++ Array.replicate (fn.ntmps - vals.toArray.size) undef) := by
    refine initT_TR args vals _ 0 .lf hA (TR_lf _) ?_
    intro j u hj
    rw [Nat.zero_add, Array.getElem?_append]
    have hlt := (List.getElem?_eq_some_iff.1 hj).1
    rw [if_pos (by simpa using hlt)]
    simpa using hj
  have hsz : fn.ntmps ≤ (vals.toArray ++ Array.replicate (fn.ntmps - vals.toArray.size) undef).size := by simp; omega
  have hw := h γ w { tmps := vals.toArray ++ Array.replicate (fn.ntmps - vals.toArray.size) undef, defers := [] } none γ St0 w m hsz hTR hs rfl .nil (.refl _ _ _) rfl hs.nx (fun r hr => absurd hr (Nat.not_lt_zero r))
  refine wpIn_mono hw ?_
  rintro ex a' w' ⟨x, t', s', ds', ⟨hx, s2, l, hq, hl, hQ⟩, rfl, _, γ', hst, hsim, ht, hd⟩
  have fin : LeavesInM Fence.wide m P fn a'.tmps (fun e w' => ∃ v s', Q v s' ∧ CallPost P γ St0 w v s' e w') a'.defers .returning w' := by
    exact leaves_sound (s2 := s2) hrs (fun e w' hp => ⟨_, _, hQ, hp⟩) m ds' a'.defers s' w' hd hq hsim hst ht hl
  rcases hx with rfl | rfl
  · exact fin
  · exact fin
end
end Go.AM

set_option linter.unusedVariables false
namespace Go.AM
section
variable {P : Program} {e : Env}
end
section
variable {P : Program} {γ : Gam}
end
section
variable {P : Program} {γ : Gam} {s : St} {w : World} {t : AT}
end
section
variable {P : Program} {rd : Option Nat} {ac : AC} {t : AT} {s : St} {Q : EQ} {k : Nat}
end
noncomputable def relO (R : List AV → AV → Prop) : Ov := fun args s => open Classical in if h : ∃ u, R args u then .ok (Classical.choose h) s else .fail
theorem relO_ok {P : Program} {f : Nat} {R : List AV → AV → Prop} (hb : HasBody P f) (h : ∀ args u, R args u → ∀ s, C P f args s (fun v s' => v = u ∧ s' = s)) : OvOk P f (relO R) := by
  refine ⟨hb, fun args s v s' hh => ?_⟩
  unfold relO at hh
  split at hh
  · rename_i hx
    cases hh
    exact h args _ (Classical.choose_spec hx) s
  · cases hh
theorem ESc.rel {e : Env} {f : Nat} {R : List AV → AV → Prop} {vs : List AV} {s : St} {k : AV → St → Prop} (hi : Con e f (relO R)) (hx : ∃ u, R vs u) (hk : ∀ u, R vs u → k u s) : ESc e f vs s k := by
  refine ESc.ov hi (v := Classical.choose hx) (s' := s) ?_ (hk _ (Classical.choose_spec hx))
  unfold relO
  rw [dif_pos hx]
end Go.AM

set_option linter.unusedVariables false
namespace Go.AM
theorem u32_in {n : Int} (h : 0 ≤ n ∧ n < 4294967296) : IntKind.u32.wrap n = n := by
  rw [← wrapQ_eq]
  obtain ⟨m, rfl⟩ : ∃ m : Nat, n = Int.ofNat m := ⟨n.toNat, by show n = (n.toNat : Int); omega⟩
  have hm : m < 4294967296 := by have : Int.ofNat m = (m : Int) := rfl; omega
  show Int.ofNat (m % 4294967296) = _
  rw [Nat.mod_eq_of_lt hm]
theorem u32_wrap (n : Int) : IntKind.u32.wrap n = n % 4294967296 := by
  show IntKind.wrap .u32 n = _
  simp [IntKind.wrap, IntKind.bits, IntKind.signed]
theorem u8_in {n : Int} (h : 0 ≤ n ∧ n < 256) : IntKind.u8.wrap n = n := by
  rw [← wrapQ_eq]
  obtain ⟨m, rfl⟩ : ∃ m : Nat, n = Int.ofNat m := ⟨n.toNat, by show n = (n.toNat : Int); omega⟩
  have hm : m < 256 := by have : Int.ofNat m = (m : Int) := rfl; omega
  show Int.ofNat (m % 256) = _
  rw [Nat.mod_eq_of_lt hm]
theorem stuckC {v : AV} {b : Bool} {x y z : Prop} (hv : v = .bool b) (h1 : b = true → y) (h2 : b = false → z) : (BR.rec (motive := fun _ => Prop) x y z (asBool v)) := by
  subst hv
  cases b with
  | true => exact h1 rfl
  | false => exact h2 rfl
section
variable {t : AT} {s : St} {k : AV → St → Prop} {x y : AO}
theorem EPrim.lenPZ {r o n : Nat} {c : Option Nat} (hx : ev x t = .some (.sl r o n c)) (hk : k (.int .i64 (n : Int)) s) : EPrim (.len x) t s k := EPrim.lenP hx hk
theorem EPrim.lenF {n : Nat} {c : Option Nat} {l : List AV} (hx : ev x t = .some (.fz n c l)) (hk : k (.int .i64 (n : Int)) s) : EPrim (.len x) t s k := by
  refine EPrim.mk (v := .int .i64 (n : Int)) (s' := s) (fun e rec => ?_) hk
  show wth x t _ = _; unfold wth; rw [hx]; rfl
theorem EPrim.lenNil (hx : ev x t = .some .nils) (hk : k (.int .i64 0) s) : EPrim (.len x) t s k := by
  refine EPrim.mk (v := .int .i64 0) (s' := s) (fun e rec => ?_) hk
  show wth x t _ = _; unfold wth; rw [hx]; rfl
theorem EPrim.cviZ {q q' : IntKind} {a : Int} (hx : ev x t = .some (.int q a)) (hw : q'.wrap a = a) (hk : k (.int q' a) s) : EPrim (.cvi q' x) t s k := by
  refine EPrim.mk (v := .int q' a) (s' := s) (fun e rec => ?_) hk
  show wth x t _ = _; unfold wth; rw [hx]
  show RV.ok (.int q' (wrapQ q' a)) s = _
  rw [wrapQ_eq, hw]
theorem EPrim.addU32 {a b : Int} (hx : ev x t = .some (.int .u32 a)) (hy : ev y t = .some (.int .u32 b)) (hk : k (.int .u32 ((a + b) % 4294967296)) s) : EPrim (.bin .add x y) t s k :=
  EPrim.add hx hy (by rw [u32_wrap]; exact hk)
theorem EPrim.subU32 {a b : Int} (hx : ev x t = .some (.int .u32 a)) (hy : ev y t = .some (.int .u32 b)) (hk : k (.int .u32 ((a - b) % 4294967296)) s) : EPrim (.bin .sub x y) t s k :=
  EPrim.sub hx hy (by rw [u32_wrap]; exact hk)
theorem EPrim.eqb0 {neg a b : Bool} (hx : ev x t = .some (.bool a)) (hy : ev y t = .some (.bool b)) (hk : k (.bool (negB neg (a == b))) s) : EPrim (.eqb 0 neg x y) t s k := by
  refine EPrim.mk (v := .bool (negB neg (a == b))) (s' := s) (fun e rec => ?_) hk
  show wth x t _ = _; unfold wth; rw [hx]
  show wth y t _ = _; unfold wth; rw [hy]; rfl
theorem EPrim.b2sS {n : Nat} {bs : List Nat} {v : AV} (hx : ev x t = .some v) (h : Sl 1 n (bys bs) v) (hb : ∀ b ∈ bs, b < 256) (hk : k (.str bs) s) : EPrim (.b2s x) t s k := by
  have hbo : ∀ {bs : List Nat}, (∀ b ∈ bs, b < 256) → bytesOf (bys bs) = some bs := by
    intro bs
    induction bs with
    | nil => intro _; rfl
    | cons b bs ih =>
      intro h
      show (Bool.rec none (Option.rec none (fun r => some (b :: r)) (bytesOf (bys bs))) (Nat.blt b 256) : Option (List Nat)) = _
      rw [ih (fun x hx => h x (by simp [hx])), show Nat.blt b 256 = true by simpa using h b (by simp)]
  refine EPrim.mk (v := .str bs) (s' := s) (fun e rec => ?_) hk
  show wth x t _ = _; unfold wth; rw [hx]
  rcases h with ⟨rfl, rfl, h⟩ | ⟨rfl, rfl, h⟩ | ⟨c, rfl, hl⟩
  · have : bs = [] := List.map_eq_nil_iff.1 h
    subst this; rfl
  · have : bs = [] := List.map_eq_nil_iff.1 h
    subst this; rfl
  · show (Option.rec .fail (fun cs => Option.rec .fail (fun b => .ok (.str b) s) (bytesOf cs)) (takeL n (bys bs)) : RV) = _
    rw [takeL_of (by omega), List.take_of_length_le (by omega)]
    show (Option.rec .fail (fun b => .ok (.str b) s) (bytesOf (bys bs)) : RV) = _
    rw [hbo hb]
theorem EPrim.neqStr {a b : List Nat} (hx : ev x t = .some (.str a)) (hy : ev y t = .some (.str b)) (h1 : a ≠ b → k (.bool true) s) (h2 : a = b → k (.bool false) s) : EPrim (.bin .neq x y) t s k := by
  refine bin_of hx hy (v := .bool (!eqNs a b)) rfl ?_
  rw [eqNs_eq]
  by_cases h : a = b
  · rw [show (a == b) = true by simpa using h]; exact h2 h
  · rw [show (a == b) = false by simpa using h]; exact h1 h
end
end Go.AM
namespace Go.AM
theorem relO_of {P : Program} {f : Nat} {R : List AV → AV → Prop} (hb : HasBody P f) (h : ∀ args u, R args u → hfs args = true ∧ AM.hf u = true ∧ C P f args St0 (fun v s' => Frz s' v u)) : OvOk P f (relO R) :=
  relO_ok hb fun args u hR s => (h args u hR).elim fun ha h => C.pure ha h.1 h.2 s
end Go.AM
namespace Go.AM
structure Fam (α : Type) where
  ok : α → Prop
  enc : α → List AV
  out : α → AV
  inj : ∀ x y, ok x → ok y → enc x = enc y → out x = out y
noncomputable def Fam.O {α : Type} (F : Fam α) : Ov := relO (fun args u => ∃ x, F.ok x ∧ args = F.enc x ∧ u = F.out x)
theorem ESc.fam {α : Type} {e : Env} {f : Nat} {s : St} {k : AV → St → Prop} {u : AV} (F : Fam α) (hi : Con e f F.O) (x : α) (hx : F.ok x) (hu : F.out x = u) (hk : k u s) : ESc e f (F.enc x) s k := by
  refine ESc.rel hi ⟨_, x, hx, rfl, rfl⟩ ?_
  rintro u' ⟨y, hy, e, rfl⟩
  rw [← F.inj x y hx hy e, hu]; exact hk
theorem Fam.ok_of {α : Type} {P : Program} {f : Nat} {F : Fam α} (hb : HasBody P f) (h : ∀ x, F.ok x → hfs (F.enc x) = true ∧ AM.hf (F.out x) = true ∧ C P f (F.enc x) St0 (fun v s' => Frz s' v (F.out x))) : OvOk P f F.O := by
  refine relO_of hb ?_
  rintro args u ⟨x, hx, rfl, rfl⟩
  exact h x hx
end Go.AM
namespace Go.AM
theorem w7 {t : AT} {s : St} {k : AV → St → Prop} {x y : AO} {a b : Int} (hx : ev x t = .some (.int .i64 a)) (hy : ev y t = .some (.int .i64 b)) (h : -9223372036854775808 ≤ a + b ∧ a + b ≤ 9223372036854775807) (hk : k (.int .i64 (a + b)) s) : EPrim (.bin .add x y) t s k := EPrim.addS hx hy h hk
abbrev w1 := @EPrim.lss2
abbrev w2 := @EPrim.leq2
abbrev w3 := @EPrim.gtr2
abbrev w4 := @EPrim.geq2
abbrev w5 := @EPrim.eql2
abbrev w6 := @EPrim.neq2
abbrev w8 := @EPrim.subS
abbrev w9 := @EPrim.mulS
abbrev w10 := @EPrim.addU32
abbrev w11 := @EPrim.subU32
abbrev w12 := @EPrim.notT
abbrev w13 := @EPrim.notF
abbrev w14 := @EPrim.cviZ
abbrev w15 := @EPrim.eqb0
abbrev w16 := @EPrim.lenNil
abbrev w17 := @EPrim.lenF
abbrev w18 := @EPrim.lenPZ
abbrev w19 := @stuckC
end Go.AM

set_option linter.unusedVariables false
namespace Go.AM
noncomputable section
def frzL (f : AV → AV → Bool) (us : List AV) : List AV → Bool :=
  List.rec (motive := fun _ => List AV → Bool) (fun _ => true) (fun u _ ih cs => List.rec false (fun c cs _ => Bool.rec false (ih cs) (f c u)) cs) us
def frzE (f : AV → AV → Bool) (us : List AV) : List AV → Bool :=
  List.rec (motive := fun _ => List AV → Bool) (fun cs => List.rec true (fun _ _ _ => false) cs) (fun u _ ih cs => List.rec false (fun c cs _ => Bool.rec false (ih cs) (f c u)) cs) us
def frzR (f : AV → AV → Bool) (o : Nat) (us : List AV) (w : RW) : Bool := RW.rec false (fun _ cs => frzL f us (dropL o cs)) w
def frzN (f : AV → AV → Bool) (s : St) (v u : AV) : Bool := match v with
  | .agg l => LR.rec false (fun us => frzE f us l) (asAgg u)
  | .tup l => LR.rec false (fun us => frzE f us l) (asTup u)
  | .sl r o n _ => SR.rec false (fun _ _ _ _ => false) false false (fun n' c us => Option.rec (Bool.rec false (frzR f o us (rowAt r s)) (Nat.beq n n')) (fun _ => false) c) (asSl u)
  | .ptr r o => PR.rec false (fun _ _ => false) (fun us => frzR f o us (rowAt r s)) (asPtr u)
  | .map _ | .yld _ | .fn .. | .iface .. => false
  | v => eqV v u
def frzB (s : St) (k : Nat) : AV → AV → Bool := Nat.rec (motive := fun _ => AV → AV → Bool) (fun _ _ => false) (fun _ ih v u => frzN ih s v u) k
def memoB (e : Env) (n k f : Nat) (args : List AV) (u : AV) : Bool := RV.rec false (fun v s => frzB s k v u) (callA e (exec e n) f args St0)
def memoO (tab : List (List AV × AV)) : Ov := fun args s => List.rec .fail (fun p _ ih => Bool.rec ih (.ok p.2 s) (eqAs p.1 args)) tab
end
theorem frzL_ok {s : St} {f : AV → AV → Bool} (hf : ∀ v u, f v u = true → Frz s v u) : ∀ {us cs : List AV}, frzL f us cs = true → All2 (Frz s) (cs.take us.length) us
  | [], cs, _ => by rw [List.length_nil, List.take_zero]; exact .nil
  | u :: us, [], h => by cases h
  | u :: us, c :: cs, h => by
    change (Bool.rec false (frzL f us cs) (f c u) : Bool) = true at h
    cases hc : f c u with
    | false => rw [hc] at h; cases h
    | true => rw [hc] at h; exact .cons (hf c u hc) (frzL_ok hf h)
theorem frzE_ok {s : St} {f : AV → AV → Bool} (hf : ∀ v u, f v u = true → Frz s v u) : ∀ {us cs : List AV}, frzE f us cs = true → All2 (Frz s) cs us
  | [], [], _ => .nil
  | [], c :: cs, h => by cases h
  | u :: us, [], h => by cases h
  | u :: us, c :: cs, h => by
    change (Bool.rec false (frzE f us cs) (f c u) : Bool) = true at h
    cases hc : f c u with
    | false => rw [hc] at h; cases h
    | true => rw [hc] at h; exact .cons (hf c u hc) (frzE_ok hf h)
theorem frzR_ok {s : St} {f : AV → AV → Bool} (hf : ∀ v u, f v u = true → Frz s v u) {o r : Nat} {us : List AV} (h : frzR f o us (rowAt r s) = true) : ∃ e cs l, s.get r = some (.row e cs) ∧ (∀ (i : Nat) x, l[i]? = some x → cs[o + i]? = some x) ∧ All2 (Frz s) l us := by
  cases hr : rowAt r s with
  | no => rw [hr] at h; cases h
  | row e cs =>
    rw [hr] at h
    change frzL f us (dropL o cs) = true at h
    rw [dropL_eq] at h
    refine ⟨e, cs, _, rowAt_some hr, fun i x hx => ?_, frzL_ok hf h⟩
    rw [List.getElem?_take] at hx
    split at hx
    · rwa [List.getElem?_drop] at hx
    · cases hx
theorem frzN_ok {s : St} {f : AV → AV → Bool} (hf : ∀ v u, f v u = true → Frz s v u) {v u : AV} (h : frzN f s v u = true) : Frz s v u := by
  have plain : AM.hf v = true → eqV v u = true → Frz s v u := fun h1 h2 => by
    have : v = u := eqV_eq h2
    subst this; exact .plain _ h1
  cases v with
  | agg l =>
    change (LR.rec false (fun us => frzE f us l) (asAgg u) : Bool) = true at h
    cases hq : asAgg u with
    | no => rw [hq] at h; cases h
    | l us => rw [hq] at h; rw [asAgg_eq hq]; exact .agg _ _ (frzE_ok hf h)
  | tup l =>
    change (LR.rec false (fun us => frzE f us l) (asTup u) : Bool) = true at h
    cases hq : asTup u with
    | no => rw [hq] at h; cases h
    | l us => rw [hq] at h; rw [asTup_eq hq]; exact .tup _ _ (frzE_ok hf h)
  | sl r o n cap =>
    change (SR.rec false (fun _ _ _ _ => false) false false (fun n' c us => Option.rec (Bool.rec false (frzR f o us (rowAt r s)) (Nat.beq n n')) (fun _ => false) c) (asSl u) : Bool) = true at h
    cases hq : asSl u with
    | no => rw [hq] at h; cases h
    | sl a b c d => rw [hq] at h; cases h
    | nils => rw [hq] at h; cases h
    | es => rw [hq] at h; cases h
    | fz n' c us =>
      rw [hq] at h
      cases c with
      | some c => cases h
      | none =>
        change (Bool.rec false (frzR f o us (rowAt r s)) (Nat.beq n n') : Bool) = true at h
        cases hb : Nat.beq n n' with
        | false => rw [hb] at h; cases h
        | true =>
          rw [hb] at h
          obtain ⟨e, cs, l, h1, h2, h3⟩ := frzR_ok hf h
          have := Nat.eq_of_beq_eq_true hb
          subst this
          rw [asSl_fz hq]
          exact .sl r o n cap none e cs l us h1 h2 h3 (.inl rfl)
  | ptr r o =>
    change (PR.rec false (fun _ _ => false) (fun us => frzR f o us (rowAt r s)) (asPtr u) : Bool) = true at h
    cases hq : asPtr u with
    | no => rw [hq] at h; cases h
    | ptr a b => rw [hq] at h; cases h
    | fp us =>
      rw [hq] at h
      obtain ⟨e, cs, l, h1, h2, h3⟩ := frzR_ok hf h
      rw [asPtr_fp hq]
      exact .ptr r o e cs l us h1 h2 h3
  | map r => cases h
  | yld r => cases h
  | fn a b c => cases h
  | iface a b => cases h
  | bool b => exact plain rfl h
  | int a b => exact plain rfl h
  | str a => exact plain rfl h
  | nilp => exact plain rfl h
  | nils => exact plain rfl h
  | es => exact plain rfl h
  | nilm => exact plain rfl h
  | nilf => exact plain rfl h
  | nili => exact plain rfl h
  | any => exact plain rfl h
  | fz a b c => exact plain rfl h
  | fp a => exact plain rfl h
theorem frzB_ok {s : St} : ∀ {k : Nat} {v u : AV}, frzB s k v u = true → Frz s v u
  | 0, v, u, h => by cases h
  | k + 1, v, u, h => frzN_ok (fun v u h => frzB_ok (k := k) h) h
section
variable {P : Program} {e : Env}
theorem memo_C (hE : EnvOk P e) (hm : P.follows .mixedOrders = true) {n k f : Nat} {args : List AV} {u : AV} (ha : hfs args = true) (hu : AM.hf u = true) (h : memoB e n k f args u = true) (s : St) : C P f args s (fun v s' => v = u ∧ s' = s) := by
  unfold memoB at h
  cases hc : callA e (exec e n) f args St0 with
  | fail => rw [hc] at h; cases h
  | ok v s1 =>
    rw [hc] at h
    refine C.pure ha hu ?_ s
    intro γ vals w m hA hs
    exact CallsIn.mono ((callA_sound (exec_good hE hm n) hE hA hs hc).2 m) fun e w' hp => ⟨_, _, frzB_ok h, hp⟩
def MemoOk (P : Program) (f : Nat) : List (List AV × AV) → Prop
  | [] => True
  | p :: l => (∀ s, C P f p.1 s (fun v s' => v = p.2 ∧ s' = s)) ∧ MemoOk P f l
theorem memoO_ok {f : Nat} (hb : HasBody P f) : ∀ {tab : List (List AV × AV)}, MemoOk P f tab → OvOk P f (memoO tab)
  | [], _ => ⟨hb, fun args s v s' h => by cases h⟩
  | p :: tab, h => by
    refine ⟨hb, fun args s v s' hh => ?_⟩
    change (Bool.rec (memoO tab args s) (.ok p.2 s) (eqAs p.1 args) : RV) = .ok v s' at hh
    cases hq : eqAs p.1 args with
    | false => rw [hq] at hh; exact (memoO_ok hb h.2).2 args s v s' hh
    | true =>
      rw [hq] at hh
      cases hh
      rw [← eqAs_eq _ hq]
      exact h.1 s
end
end Go.AM
