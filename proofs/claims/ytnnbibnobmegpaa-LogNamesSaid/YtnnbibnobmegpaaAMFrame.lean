/-
  THE ABSTRACT MACHINE: a contract at no rows is one at any rows; what is handed back stays as it is. Definitions and plain lemmas.
-/
import Derived.Test.YtnnbibnobmegpaaAMCall
set_option linter.unusedVariables false
set_option linter.unusedSimpArgs false
namespace Go.AM
section
variable {P : Program} {γ γ2 : Gam} {σ : Nat → Nat}

mutual
theorem VR_map (hz : ∀ b c, γ.fz b = some c → γ2.fz b = some c) (hl : ∀ r L, γ r = some L → γ2 (σ r) = some L) : ∀ (v : AV) {v' : Value}, VR γ v v' → VR γ2 (mapV σ v) v'
  | .bool b, _, h => by cases h; exact .bool _
  | .int k n, _, h => by cases h; exact .int _ _
  | .str l, _, h => by cases h; rename_i s e; exact .str _ s e
  | .ptr r o, _, h => by
    cases h with
    | ptr _ _ L e => exact .ptr _ o L (hl r L e)
  | .nilp, _, h => by cases h; exact .nilp
  | .sl r o m c, _, h => by
    cases h with
    | sl _ _ _ c L e a => exact .sl _ o m c L (hl r L e) a
    | slu _ _ _ c L e a b d => exact .slu _ o m c L (hl r L e) a b d
  | .nils, _, h => by cases h; exact .nils
  | .es, _, h => by cases h; exact .es _ _
  | .map r, _, h => by
    cases h with
    | map _ L e => exact .map _ L (hl r L e)
  | .nilm, _, h => by cases h; exact .nilm
  | .fn f xs ys, _, h => by
    cases h with
    | fn _ _ _ as bs a b => exact .fn f _ _ as bs (VR_maps hz hl xs a) (VR_maps hz hl ys b)
  | .yld l, _, h => by
    cases h with
    | yld _ L e => exact .yld _ L (hl l L e)
  | .nilf, _, h => by cases h; exact .nilf
  | .iface t v, _, h => by
    cases h with
    | iface _ _ v' e => exact .iface t _ v' (VR_map hz hl v e)
  | .nili, _, h => by cases h; exact .nili
  | .agg l, _, h => by
    cases h with
    | agg _ a e o => exact .agg _ a (VR_maps hz hl l e) o
  | .tup l, _, h => by
    cases h with
    | tup _ a e => exact .tup _ a (VR_maps hz hl l e)
  | .any, _, h => by cases h; rename_i e; exact .any _ e
  | .fz m c l, _, h => VR_hf hz (.fz m c l) rfl h
  | .fp l, _, h => VR_hf hz (.fp l) rfl h
theorem VR_maps (hz : ∀ b c, γ.fz b = some c → γ2.fz b = some c) (hl : ∀ r L, γ r = some L → γ2 (σ r) = some L) : ∀ (l : List AV) {m : List Value}, All2 (VR γ) l m → All2 (VR γ2) (mapVs σ l) m
  | [], _, h => by cases h; exact .nil
  | v :: l, _, h => by
    cases h with
    | cons a b => exact .cons (VR_map hz hl v a) (VR_maps hz hl l b)
end
theorem mapVs_back : ∀ {l : List AV} {i : Nat} {v : AV}, (mapVs σ l)[i]? = some v → ∃ u, l[i]? = some u ∧ v = mapV σ u
  | [], i, v, h => by simp [mapVs] at h
  | x :: l, i, v, h => by
    simp only [mapVs] at h
    cases i with
    | zero => simp at h; exact ⟨x, by simp, h.symm⟩
    | succ i => simpa using mapVs_back (l := l) (by simpa using h)
/-- no record of a loop -/
def plainO : AObj → Bool
  | .loop .. => false
  | _ => true
theorem objR_map (hz : ∀ b c, γ.fz b = some c → γ2.fz b = some c) (hl : ∀ r L, γ r = some L → γ2 (σ r) = some L) {L : Loc} {o : AObj} {hp : Array Obj} (hb : plainO o = true) (h : ObjR P γ L o hp) : ObjR P γ2 L (mapO σ o) hp := by
  cases o with
  | row e cs =>
    obtain ⟨c, h1, h2, h3, h4, h5, h6, h7⟩ := h
    refine ⟨c, h1, h2, h3, h4, by rw [mapVs_length]; exact h5, fun i v hv => ?_, h7⟩
    obtain ⟨u, hu, rfl⟩ := mapVs_back hv
    obtain ⟨v', a, b, d⟩ := h6 i u hu
    exact ⟨v', a, VR_map hz hl u b, d⟩
  | dead => trivial
  | map es clock =>
    obtain ⟨ms, h1, h2⟩ := h
    refine ⟨ms, h1, ?_⟩
    have : ∀ (es : List (AV × AV × Nat)) (ms : List MapEntry), All2 (fun (x : AV × AV × Nat) (m : MapEntry) => VR γ x.1 m.key ∧ VR γ x.2.1 m.val ∧ m.born = x.2.2) es ms → All2 (fun (x : AV × AV × Nat) (m : MapEntry) => VR γ2 x.1 m.key ∧ VR γ2 x.2.1 m.val ∧ m.born = x.2.2) (mapE σ es) ms := by
      intro es
      induction es with
      | nil => intro ms h; cases h; exact .nil
      | cons x es ih =>
        intro ms h
        obtain ⟨a, b, c⟩ := x
        cases h with
        | cons h1 h2 => exact .cons ⟨VR_map hz hl a h1.1, VR_map hz hl b h1.2.1, h1.2.2⟩ (ih _ h2)
    exact this es _ h2
  | loop st pend fn tm ps asg body d => cases hb
  | defd => exact h

/-- rows, one behind the other -/
noncomputable def allocs (s : St) : List AObj → St
  | [] => s
  | o :: l => allocs (s.alloc o) l
theorem allocs_next : ∀ (l : List AObj) (s : St), (allocs s l).next = s.next + l.length
  | [], s => rfl
  | o :: l, s => by rw [allocs, allocs_next l, St.next_alloc, List.length_cons]; omega
theorem allocs_lt : ∀ (l : List AObj) (s : St) {r : Nat}, r < s.next → (allocs s l).get r = s.get r
  | [], s, r, _ => rfl
  | o :: l, s, r, h => by rw [allocs, allocs_lt l _ (by rw [St.next_alloc]; omega), St.get_alloc_ne (by omega)]
theorem allocs_ge : ∀ (l : List AObj) (s : St) {r : Nat} {o : AObj}, s.next ≤ r → (∀ r, s.next ≤ r → s.get r = none) → (allocs s l).get r = some o → l[r - s.next]? = some o
  | [], s, r, o, h, hn, hg => by
    have e : s.get r = some o := hg
    rw [hn r h] at e; cases e
  | x :: l, s, r, o, h, hn, hg => by
    rw [allocs] at hg
    by_cases e : r = s.next
    · subst e
      rw [allocs_lt l _ (by rw [St.next_alloc]; omega)] at hg
      rcases St.get_alloc hg with ⟨_, rfl⟩ | ⟨e, _⟩
      · simp
      · exact absurd rfl e
    · have := allocs_ge l (s.alloc x) (r := r) (by rw [St.next_alloc]; omega) (fun r hr => by rw [St.next_alloc] at hr; rw [St.get_alloc_ne (by omega)]; exact hn r (by omega)) hg
      rw [St.next_alloc] at this
      rw [show r - s.next = (r - (s.next + 1)) + 1 by omega]
      simpa using this

abbrev St0 : St := .mk 0 .lf
theorem St0_get (r : Nat) : St0.get r = none := rfl
theorem sim0 {w : World} {φ : Nat → Option (Array Value)} (h : ∀ b c, φ b = some c → ∃ e fr, w.heap[b]? = some (.cells c e fr)) : Sim P ⟨fun _ => none, φ⟩ St0 w :=
  ⟨fun r o L h => (by cases h), fun r r' o o' L L' h => (by cases h), fun r L h => (by cases h), fun r _ => rfl, fun r o h => (by cases h), h, fun r o L h => (by cases h)⟩

/-- a contract at no rows is one at any rows -/
theorem C.frame {f : Nat} {args : List AV} {u : AV} {l : List AObj} (ha : hfs args = true) (hl : ∀ o ∈ l, plainO o = true) (hlen : 0 < l.length ∨ l = [])
    (h : C P f args St0 (fun v s' => v = u ∧ s' = allocs St0 l)) (hall : ∀ i o, l[i]? = some o → (allocs St0 l).get i = some o) (s : St) : C P f args s (fun v s' => v = mapV (· + s.next) u ∧ s' = allocs s (l.map (mapO (· + s.next)))) := by
  intro γ vals w m hA hs
  have hA' := VR_hfs (γ := γ) (γ2 := ⟨fun _ => none, γ.fz⟩) (fun _ _ e => e) args ha hA
  refine CallsIn.mono (h ⟨fun _ => none, γ.fz⟩ vals w m hA' (sim0 hs.fzc)) ?_
  rintro e w' ⟨v, s', ⟨rfl, rfl⟩, v', γ', rfl, hst, hsim, hv⟩
  refine ⟨_, _, ⟨rfl, rfl⟩, v', ⟨fun r => if r < s.next then γ r else γ' (r - s.next), γ'.fz⟩, rfl, ?_, ?_, ?_⟩
  rotate_right
  · refine VR_map (γ := γ') (γ2 := ⟨fun r => if r < s.next then γ r else γ' (r - s.next), γ'.fz⟩) (fun _ _ e => e) (fun r L e => ?_) v hv
    show (if r + s.next < s.next then γ (r + s.next) else γ' (r + s.next - s.next)) = some L
    rw [if_neg (by omega), Nat.add_sub_cancel]; exact e
  all_goals
    have g1 : ∀ r, r < s.next → (⟨fun r => if r < s.next then γ r else γ' (r - s.next), γ'.fz⟩ : Gam) r = γ r := fun r hr => if_pos hr
    have g2 : ∀ r, ¬ r < s.next → (⟨fun r => if r < s.next then γ r else γ' (r - s.next), γ'.fz⟩ : Gam) r = γ' (r - s.next) := fun r hr => if_neg hr
    have glt : ∀ r L, γ r = some L → r < s.next := fun r L e => Nat.lt_of_not_le fun hle => by rw [hs.nx r hle] at e; cases e
    have hnew : ∀ r L, γ' r = some L → w.heap.size ≤ L.b := fun r L e => by
      rcases (hst.new r L e rfl).2 with h | ⟨_, _, h, _⟩
      · exact h
      · cases h
    have hblk : ∀ b, b < w.heap.size → w'.heap[b]? = w.heap[b]? := fun b hb => hst.blk b hb (fun r L e => by cases e)
    have hle : Le γ ⟨fun r => if r < s.next then γ r else γ' (r - s.next), γ'.fz⟩ := ⟨fun r L e => (g1 r (glt r L e)).trans e, fun b c e => hst.le.fz b c e⟩
  · refine ⟨hle, ?_, by rw [allocs_next]; omega, hst.size, hst.os, hst.tape, hst.output, fun b hb _ => hblk b hb, fun r _ hr => allocs_lt _ _ hr, fun b c e e0 => hst.fzn b c e e0⟩
    intro r L e e0
    by_cases hr : r < s.next
    · rw [g1 r hr, e0] at e; cases e
    · rw [g2 r hr] at e; exact ⟨by omega, .inl (hnew _ L e)⟩
  · have hnone : ∀ r, s.next ≤ r → s.get r = none := fun r hr => by
      cases hg : s.get r with
      | none => rfl
      | some o => exact absurd (hs.dom r o hg) (by omega)
    have back : ∀ r o, (allocs s (l.map (mapO (· + s.next)))).get r = some o → (r < s.next ∧ s.get r = some o) ∨ (s.next ≤ r ∧ ∃ o', l[r - s.next]? = some o' ∧ o = mapO (· + s.next) o') := by
      intro r o hg
      by_cases hr : r < s.next
      · rw [allocs_lt _ _ hr] at hg; exact .inl ⟨hr, hg⟩
      · have := allocs_ge _ s (by omega) hnone hg
        rw [List.getElem?_map] at this
        cases hl' : l[r - s.next]? with
        | none => rw [hl'] at this; cases this
        | some o' => rw [hl'] at this; exact .inr ⟨by omega, o', rfl, (Option.some.inj this).symm⟩
    refine ⟨?_, ?_, ?_, ?_, ?_, hsim.fzc, ?_⟩
    · intro r o L ho hL
      rcases back r o ho with ⟨hr, hg⟩ | ⟨hr, o', hg, rfl⟩
      · rw [g1 r hr] at hL
        exact ((hs.obj r o L hg hL).mono hle).heap (hblk _ (hs.lt r L hL))
      · rw [g2 r (by omega)] at hL
        refine objR_map (γ := γ') (γ2 := ⟨fun r => if r < s.next then γ r else γ' (r - s.next), γ'.fz⟩) (fun _ _ e => e) (fun q M e => ?_) (hl o' (List.mem_of_getElem? hg)) (hsim.obj _ _ L (hall _ _ hg) hL)
        show (if q + s.next < s.next then γ (q + s.next) else γ' (q + s.next - s.next)) = some M
        rw [if_neg (by omega), Nat.add_sub_cancel]; exact e
    · intro r r' o o' L L' ho ho' ha1 ha2 hL hL' hne
      rcases back r o ho with ⟨hr, hg⟩ | ⟨hr, p, hg, rfl⟩ <;> rcases back r' o' ho' with ⟨hr', hg'⟩ | ⟨hr', p', hg', rfl⟩
      · rw [g1 r hr] at hL; rw [g1 r' hr'] at hL'
        exact hs.inj r r' o o' L L' hg hg' ha1 ha2 hL hL' hne
      · rw [g1 r hr] at hL; rw [g2 r' (by omega)] at hL'
        have := hs.lt r L hL; have := hnew _ L' hL'; omega
      · rw [g2 r (by omega)] at hL; rw [g1 r' hr'] at hL'
        have := hs.lt r' L' hL'; have := hnew _ L hL; omega
      · rw [g2 r (by omega)] at hL; rw [g2 r' (by omega)] at hL'
        rw [alive_mapO] at ha1 ha2
        exact hsim.inj _ _ p p' L L' (hall _ _ hg) (hall _ _ hg') ha1 ha2 hL hL' (by omega)
    · intro r L hL
      by_cases hr : r < s.next
      · rw [g1 r hr] at hL; have := hs.lt r L hL; have := hst.size; omega
      · rw [g2 r hr] at hL; exact hsim.lt _ L hL
    · intro r hr
      rw [allocs_next, List.length_map] at hr
      rw [g2 r (by omega)]
      refine hsim.nx _ ?_
      rw [allocs_next]
      show 0 + l.length ≤ _
      omega
    · intro r o ho
      rw [allocs_next, List.length_map]
      rcases back r o ho with ⟨hr, hg⟩ | ⟨hr, p, hg, rfl⟩
      · omega
      · have := (List.getElem?_eq_some_iff.1 hg).1; omega
    · intro r o L ho ha1 hL
      rcases back r o ho with ⟨hr, hg⟩ | ⟨hr, p, hg, rfl⟩
      · rw [g1 r hr] at hL
        have h0 := hs.fzr r o L hg ha1 hL
        show γ'.fz L.b = none
        cases hc : γ'.fz L.b with
        | none => rfl
        | some c => exact absurd (hst.fzn L.b c hc h0) (by have := hs.lt r L hL; omega)
      · rw [g2 r (by omega)] at hL
        rw [alive_mapO] at ha1
        exact hsim.fzr _ p L (hall _ _ hg) ha1 hL
end
end Go.AM
