/-
  THE ABSTRACT MACHINE: rows that are named anew, and what is forgotten. Definitions and plain lemmas.
-/
import Derived.Test.YtnnbibnobmegpaaAMW
set_option linter.unusedVariables false
set_option linter.unusedSimpArgs false
namespace Go.AM

mutual
def mapV (ρ : Nat → Nat) : AV → AV
  | .ptr r o => .ptr (ρ r) o
  | .sl r o n c => .sl (ρ r) o n c
  | .map r => .map (ρ r)
  | .yld l => .yld (ρ l)
  | .fn f a b => .fn f (mapVs ρ a) (mapVs ρ b)
  | .iface t v => .iface t (mapV ρ v)
  | .agg l => .agg (mapVs ρ l)
  | .tup l => .tup (mapVs ρ l)
  | v => v
def mapVs (ρ : Nat → Nat) : List AV → List AV
  | [] => []
  | v :: l => mapV ρ v :: mapVs ρ l
end
mutual
/-- all rows that it names are below -/
def bd (n : Nat) : AV → Bool
  | .ptr r _ => Nat.blt r n
  | .sl r _ _ _ => Nat.blt r n
  | .map r => Nat.blt r n
  | .yld l => Nat.blt l n
  | .fn _ a b => bds n a && bds n b
  | .iface _ v => bd n v
  | .agg l => bds n l
  | .tup l => bds n l
  | _ => true
def bds (n : Nat) : List AV → Bool
  | [] => true
  | v :: l => bd n v && bds n l
end

section
variable {P : Program} {γ γ2 : Gam} {ρ : Nat → Nat} {n : Nat}

mutual
theorem VR_hf (hz : ∀ b c, γ.fz b = some c → γ2.fz b = some c) : ∀ (v : AV) {v' : Value}, hf v = true → VR γ v v' → VR γ2 v v'
  | .bool b, _, _, .bool _ => .bool _
  | .int k n, _, _, .int _ _ => .int _ _
  | .str l, _, _, .str _ s e => .str _ s e
  | .ptr _ _, _, h, _ => by cases h
  | .nilp, _, _, .nilp => .nilp
  | .sl .., _, h, _ => by cases h
  | .nils, _, _, .nils => .nils
  | .es, _, _, .es a c => .es a c
  | .map _, _, h, _ => by cases h
  | .nilm, _, _, .nilm => .nilm
  | .fn f xs ys, _, h, .fn _ _ _ as bs a b => by
    simp only [hf, Bool.and_eq_true] at h
    exact .fn f xs ys as bs (VR_hfs hz xs h.1 a) (VR_hfs hz ys h.2 b)
  | .yld _, _, h, _ => by cases h
  | .nilf, _, _, .nilf => .nilf
  | .iface t v, _, h, .iface _ _ v' e => .iface t v v' (VR_hf hz v h e)
  | .nili, _, _, .nili => .nili
  | .agg l, _, h, .agg _ a e o => .agg l a (VR_hfs hz l h e) o
  | .tup l, _, h, .tup _ a e => .tup l a (VR_hfs hz l h e)
  | .any, _, _, .any v e => .any v e
  | .fz n c l, _, _, .fz _ _ _ vs b o cc cs e1 e2 e3 e4 e5 e6 e7 => .fz n c l vs b o cc cs (hz _ _ e1) e2 e3 (VR_hfs hz l e7 e4) e5 e6 e7
  | .fp l, _, _, .fp _ vs b o cs e1 e2 e3 e4 e5 => .fp l vs b o cs (hz _ _ e1) e2 e3 (VR_hfs hz l e5 e4) e5
theorem VR_hfs (hz : ∀ b c, γ.fz b = some c → γ2.fz b = some c) : ∀ (l : List AV) {m : List Value}, hfs l = true → All2 (VR γ) l m → All2 (VR γ2) l m
  | [], _, _, .nil => .nil
  | v :: l, _, h, .cons a b => by
    simp only [hfs, Bool.and_eq_true] at h
    exact .cons (VR_hf hz v h.1 a) (VR_hfs hz l h.2 b)
end

mutual
theorem VR_ren (hz : ∀ b c, γ.fz b = some c → γ2.fz b = some c) (hl : ∀ r, r < n → ∀ L, γ (ρ r) = some L → γ2 r = some L) : ∀ (v : AV) {v' : Value}, bd n v = true → VR γ (mapV ρ v) v' → VR γ2 v v'
  | .bool b, _, _, h => by cases h; exact .bool _
  | .int k n, _, _, h => by cases h; exact .int _ _
  | .str l, _, _, h => by cases h; rename_i s e; exact .str _ s e
  | .ptr r o, _, hb, h => by
    cases h with
    | ptr _ _ L e => exact .ptr r o L (hl r (by simpa [bd] using hb) L e)
  | .nilp, _, _, h => by cases h; exact .nilp
  | .sl r o m c, _, hb, h => by
    cases h with
    | sl _ _ _ c L e a => exact .sl r o m c L (hl r (by simpa [bd] using hb) L e) a
    | slu _ _ _ c L e a b d => exact .slu r o m c L (hl r (by simpa [bd] using hb) L e) a b d
  | .nils, _, _, h => by cases h; exact .nils
  | .es, _, _, h => by cases h; exact .es _ _
  | .map r, _, hb, h => by
    cases h with
    | map _ L e => exact .map r L (hl r (by simpa [bd] using hb) L e)
  | .nilm, _, _, h => by cases h; exact .nilm
  | .fn f xs ys, _, hb, h => by
    simp only [bd, Bool.and_eq_true] at hb
    cases h with
    | fn _ _ _ as bs a b => exact .fn f xs ys as bs (VR_rens hz hl xs hb.1 a) (VR_rens hz hl ys hb.2 b)
  | .yld l, _, hb, h => by
    cases h with
    | yld _ L e => exact .yld l L (hl l (by simpa [bd] using hb) L e)
  | .nilf, _, _, h => by cases h; exact .nilf
  | .iface t v, _, hb, h => by
    cases h with
    | iface _ _ v' e => exact .iface t v v' (VR_ren hz hl v hb e)
  | .nili, _, _, h => by cases h; exact .nili
  | .agg l, _, hb, h => by
    cases h with
    | agg _ a e o => exact .agg l a (VR_rens hz hl l hb e) o
  | .tup l, _, hb, h => by
    cases h with
    | tup _ a e => exact .tup l a (VR_rens hz hl l hb e)
  | .any, _, _, h => by cases h; rename_i e; exact .any _ e
  | .fz m c l, _, _, h => VR_hf hz (.fz m c l) rfl h
  | .fp l, _, _, h => VR_hf hz (.fp l) rfl h
theorem VR_rens (hz : ∀ b c, γ.fz b = some c → γ2.fz b = some c) (hl : ∀ r, r < n → ∀ L, γ (ρ r) = some L → γ2 r = some L) : ∀ (l : List AV) {m : List Value}, bds n l = true → All2 (VR γ) (mapVs ρ l) m → All2 (VR γ2) l m
  | [], _, _, h => by cases h; exact .nil
  | v :: l, _, hb, h => by
    simp only [bds, Bool.and_eq_true] at hb
    cases h with
    | cons a b => exact .cons (VR_ren hz hl v hb.1 a) (VR_rens hz hl l hb.2 b)
end
mutual
theorem mapV_id (hρ : ∀ r, r < n → ρ r = r) : ∀ (v : AV), bd n v = true → mapV ρ v = v
  | .ptr r o, h => by simp only [mapV]; rw [hρ r (by simpa [bd] using h)]
  | .sl r o m c, h => by simp only [mapV]; rw [hρ r (by simpa [bd] using h)]
  | .map r, h => by simp only [mapV]; rw [hρ r (by simpa [bd] using h)]
  | .yld r, h => by simp only [mapV]; rw [hρ r (by simpa [bd] using h)]
  | .fn f a b, h => by simp only [bd, Bool.and_eq_true] at h; simp only [mapV]; rw [mapVs_id hρ a h.1, mapVs_id hρ b h.2]
  | .iface t v, h => by simp only [mapV]; rw [mapV_id hρ v h]
  | .agg l, h => by simp only [mapV]; rw [mapVs_id hρ l h]
  | .tup l, h => by simp only [mapV]; rw [mapVs_id hρ l h]
  | .bool _, _ | .int _ _, _ | .str _, _ | .nilp, _ | .nils, _ | .es, _ | .nilm, _ | .nilf, _ | .nili, _ | .any, _ | .fz _ _ _, _ | .fp _, _ => rfl
theorem mapVs_id (hρ : ∀ r, r < n → ρ r = r) : ∀ (l : List AV), bds n l = true → mapVs ρ l = l
  | [], _ => rfl
  | v :: l, h => by simp only [bds, Bool.and_eq_true] at h; simp only [mapVs]; rw [mapV_id hρ v h.1, mapVs_id hρ l h.2]
end
mutual
theorem hf_bd : ∀ (v : AV), hf v = true → bd n v = true
  | .ptr .., h => by cases h
  | .sl .., h => by cases h
  | .map .., h => by cases h
  | .yld .., h => by cases h
  | .fn f a b, h => by simp only [hf, Bool.and_eq_true] at h; simp only [bd, Bool.and_eq_true]; exact ⟨hfs_bds a h.1, hfs_bds b h.2⟩
  | .iface t v, h => hf_bd v h
  | .agg l, h => hfs_bds l h
  | .tup l, h => hfs_bds l h
  | .bool _, _ | .int _ _, _ | .str _, _ | .nilp, _ | .nils, _ | .es, _ | .nilm, _ | .nilf, _ | .nili, _ | .any, _ | .fz _ _ _, _ | .fp _, _ => rfl
theorem hfs_bds : ∀ (l : List AV), hfs l = true → bds n l = true
  | [], _ => rfl
  | v :: l, h => by simp only [hfs, Bool.and_eq_true] at h; simp only [bds, Bool.and_eq_true]; exact ⟨hf_bd v h.1, hfs_bds l h.2⟩
end
mutual
theorem hf_mapV : ∀ (v : AV), hf v = true → mapV ρ v = v
  | .ptr .., h => by cases h
  | .sl .., h => by cases h
  | .map .., h => by cases h
  | .yld .., h => by cases h
  | .fn f a b, h => by simp only [hf, Bool.and_eq_true] at h; simp only [mapV]; rw [hfs_mapVs a h.1, hfs_mapVs b h.2]
  | .iface t v, h => by simp only [mapV]; rw [hf_mapV v h]
  | .agg l, h => by simp only [mapV]; rw [hfs_mapVs l h]
  | .tup l, h => by simp only [mapV]; rw [hfs_mapVs l h]
  | .bool _, _ | .int _ _, _ | .str _, _ | .nilp, _ | .nils, _ | .es, _ | .nilm, _ | .nilf, _ | .nili, _ | .any, _ | .fz _ _ _, _ | .fp _, _ => rfl
theorem hfs_mapVs : ∀ (l : List AV), hfs l = true → mapVs ρ l = l
  | [], _ => rfl
  | v :: l, h => by simp only [hfs, Bool.and_eq_true] at h; simp only [mapVs]; rw [hf_mapV v h.1, hfs_mapVs l h.2]
end

def mapE (ρ : Nat → Nat) : List (AV × AV × Nat) → List (AV × AV × Nat)
  | [] => []
  | (a, b, c) :: l => (mapV ρ a, mapV ρ b, c) :: mapE ρ l
def bdE (n : Nat) : List (AV × AV × Nat) → Bool
  | [] => true
  | (a, b, _) :: l => bd n a && bd n b && bdE n l
def bdT (n : Nat) : T AV → Bool
  | .lf => true
  | .nd v l r => (match v with | none => true | some v => bd n v) && bdT n l && bdT n r
theorem bdT_get {n : Nat} : ∀ {t : T AV} {i : Nat} {v : AV}, bdT n t = true → t.get i = some v → bd n v = true := by
  intro t
  induction t with
  | lf => intro i v _ h; cases h
  | nd x l r il ir =>
    intro i v hb h
    simp only [bdT, Bool.and_eq_true] at hb
    cases i with
    | zero => change x = some v at h; subst h; exact hb.1.1
    | succ i =>
      change (Bool.rec (T.get r (Nat.div i 2)) (T.get l (Nat.div i 2)) (Nat.beq (Nat.mod i 2) 0) : Option AV) = some v at h
      cases hc : Nat.beq (Nat.mod i 2) 0 <;> rw [hc] at h
      · exact ir hb.2 h
      · exact il hb.1.2 h
def mapO (ρ : Nat → Nat) : AObj → AObj
  | .row e cs => .row e (mapVs ρ cs)
  | .map es c => .map (mapE ρ es) c
  | o => o
def bdO (k n : Nat) : AObj → Bool
  | .row _ cs => bds n cs
  | .map es _ => bdE n es
  | .loop _ _ _ tm _ _ _ d => bdT k tm && Nat.blt d k
  | _ => true
theorem bds_get {n : Nat} : ∀ {l : List AV} {i : Nat} {v : AV}, bds n l = true → l[i]? = some v → bd n v = true
  | [], i, v, _, h => by simp at h
  | x :: l, i, v, hb, h => by
    simp only [bds, Bool.and_eq_true] at hb
    cases i with
    | zero => simp at h; subst h; exact hb.1
    | succ i => exact bds_get hb.2 (by simpa using h)
theorem mapVs_get : ∀ {l : List AV} {i : Nat} {v : AV}, l[i]? = some v → (mapVs ρ l)[i]? = some (mapV ρ v)
  | [], i, v, h => by simp at h
  | x :: l, i, v, h => by
    cases i with
    | zero => simp at h; subst h; rfl
    | succ i => simp only [mapVs]; simpa using mapVs_get (l := l) (by simpa using h)
theorem mapVs_length : ∀ (l : List AV), (mapVs ρ l).length = l.length
  | [] => rfl
  | x :: l => by simp [mapVs, mapVs_length l]

theorem objR_ren {k : Nat} (hz : ∀ b c, γ.fz b = some c → γ2.fz b = some c) (hl : ∀ r, r < n → ∀ L, γ (ρ r) = some L → γ2 r = some L) (hk : ∀ r, r < k → ρ r = r) (hkn : k ≤ n) {L : Loc} {o : AObj} {hp : Array Obj} (hb : bdO k n o = true) (h : ObjR P γ L (mapO ρ o) hp) : ObjR P γ2 L o hp := by
  have hlk : ∀ r, r < k → ∀ L, γ r = some L → γ2 r = some L := fun r hr L e => hl r (by omega) L (by rw [hk r hr]; exact e)
  have hid : ∀ v, bd k v = true → ∀ {v' : Value}, VR γ v v' → VR γ2 v v' := fun v hv v' e => VR_ren (ρ := fun r => r) hz hlk v hv (by rw [mapV_id (n := k) (fun _ _ => rfl) v hv]; exact e)
  cases o with
  | row e cs =>
    obtain ⟨c, h1, h2, h3, h4, h5, h6, h7⟩ := h
    rw [mapVs_length] at h5
    refine ⟨c, h1, h2, h3, h4, h5, fun i v hv => ?_, h7⟩
    obtain ⟨v', a, b, d⟩ := h6 i _ (mapVs_get hv)
    exact ⟨v', a, VR_ren hz hl v (bds_get hb hv) b, d⟩
  | dead => trivial
  | map es clock =>
    obtain ⟨ms, h1, h2⟩ := h
    refine ⟨ms, h1, ?_⟩
    have : ∀ (es : List (AV × AV × Nat)) (ms : List MapEntry), bdE n es = true → All2 (fun (x : AV × AV × Nat) (m : MapEntry) => VR γ x.1 m.key ∧ VR γ x.2.1 m.val ∧ m.born = x.2.2) (mapE ρ es) ms → All2 (fun (x : AV × AV × Nat) (m : MapEntry) => VR γ2 x.1 m.key ∧ VR γ2 x.2.1 m.val ∧ m.born = x.2.2) es ms := by
      intro es
      induction es with
      | nil => intro ms _ h; cases h; exact .nil
      | cons x es ih =>
        intro ms hb h
        obtain ⟨a, b, c⟩ := x
        simp only [bdE, Bool.and_eq_true] at hb
        cases h with
        | cons h1 h2 => exact .cons ⟨VR_ren hz hl a hb.1.1 h1.1, VR_ren hz hl b hb.1.2 h1.2.1, h1.2.2⟩ (ih _ hb.2 h2)
    exact this es _ hb h2
  | loop st pend fn tm ps asg body d =>
    obtain ⟨lp, h1, h2, h3, h4, h5, h6, D, h8, h10⟩ := h
    simp only [bdO, Bool.and_eq_true] at hb
    exact ⟨lp, h1, h2, h3, fun i v hv => (let ⟨v', a, b⟩ := h4 i v hv; ⟨v', a, hid v (bdT_get hb.1 hv) b⟩), h5, h6, D, hlk d (by simpa using hb.2) D h8, h10⟩
  | defd => exact h

/-- a state that tells less, its rows named anew -/
structure Ren (k : Nat) (ρ : Nat → Nat) (t : AT) (s : St) (ds : List Nat) (t2 : AT) (s2 : St) (ds2 : List Nat) : Prop where
  id : ∀ r, r < k → ρ r = r
  le : k ≤ s2.next
  inj : ∀ r r', r < s2.next → r' < s2.next → ρ r = ρ r' → r = r'
  tmp : ∀ i v, t2.get i = some v → bd s2.next v = true ∧ t.get i = some (mapV ρ v)
  obj : ∀ r o, s2.get r = some o → r < s2.next ∧ bdO k s2.next o = true ∧ s.get (ρ r) = some (mapO ρ o)
  keep : ∀ r, r < k → s2.get r = s.get r
  ds : ds = ds2.map ρ ∧ ∀ d ∈ ds2, d < s2.next

theorem alive_mapO (o : AObj) : alive (mapO ρ o) = alive o := by cases o <;> rfl

theorem W.ren {k : Nat} {rd : Option Nat} {t : AT} {s : St} {ds : List Nat} {Q : Ex → AT → St → List Nat → Prop} {ac : AC} {t2 : AT} {s2 : St} {ds2 : List Nat} (hR : Ren k ρ t s ds t2 s2 ds2) (h : W P k rd ac t2 s2 ds2 Q) : W P k rd ac t s ds Q := by
  intro N c γ w a b γ0 s0 w0 m h1 h2 h3 h4 h5 h6 h7 h8 h9
  let γ2 : Gam := ⟨fun r => if r < s2.next then γ (ρ r) else none, γ.fz⟩
  have g2 : ∀ r, r < s2.next → γ2 r = γ (ρ r) := fun r hr => by show (if r < s2.next then γ (ρ r) else none) = _; rw [if_pos hr]
  have g2n : ∀ r, ¬ r < s2.next → γ2 r = none := fun r hr => by show (if r < s2.next then γ (ρ r) else none) = _; rw [if_neg hr]
  have g2s : ∀ r L, γ2 r = some L → r < s2.next ∧ γ (ρ r) = some L := fun r L e => by
    by_cases hr : r < s2.next
    · rw [g2 r hr] at e; exact ⟨hr, e⟩
    · rw [g2n r hr] at e; cases e
  have hz : ∀ b c, γ.fz b = some c → γ2.fz b = some c := fun _ _ e => e
  have hl : ∀ r, r < s2.next → ∀ L, γ (ρ r) = some L → γ2 r = some L := fun r hr L e => by rw [g2 r hr]; exact e
  have hT : TR γ2 t2 a.tmps := by
    intro i v hv
    obtain ⟨hb, ht⟩ := hR.tmp i v hv
    obtain ⟨v', e1, e2⟩ := h3 i _ ht
    exact ⟨v', e1, VR_ren hz hl v hb e2⟩
  have hS : Sim P γ2 s2 w := by
    refine ⟨?_, ?_, ?_, ?_, ?_, ?_, ?_⟩
    · intro r o L ho hL
      obtain ⟨hr, hb, hs⟩ := hR.obj r o ho
      obtain ⟨_, hL⟩ := g2s r L hL
      exact objR_ren hz hl hR.id hR.le hb (h4.obj _ _ L hs hL)
    · intro r r' o o' L L' ho ho' ha ha' hL hL' hne
      obtain ⟨hr, hb, hs⟩ := hR.obj r o ho
      obtain ⟨hr', hb', hs'⟩ := hR.obj r' o' ho'
      exact h4.inj _ _ _ _ L L' hs hs' (by rw [alive_mapO]; exact ha) (by rw [alive_mapO]; exact ha') (g2s r L hL).2 (g2s r' L' hL').2 (fun e => hne (hR.inj r r' hr hr' e))
    · intro r L hL; exact h4.lt _ L (g2s r L hL).2
    · intro r hr; exact g2n r (by omega)
    · intro r o ho; exact (hR.obj r o ho).1
    · exact h4.fzc
    · intro r o L ho ha hL
      obtain ⟨hr, hb, hs⟩ := hR.obj r o ho
      exact h4.fzr _ _ L hs (by rw [alive_mapO]; exact ha) (g2s r L hL).2
  have hD : DR γ2 ds2 a.defers := by
    obtain ⟨e, hd⟩ := hR.ds
    rw [e] at h6
    have : ∀ (l : List Nat) (D : List Deferred), (∀ d ∈ l, d < s2.next) → DR γ (l.map ρ) D → DR γ2 l D := by
      intro l
      induction l with
      | nil => intro D _ h; cases h; exact .nil
      | cons d l ih =>
        intro D hd h
        cases h with
        | cons h1 h2 =>
          obtain ⟨L, e1, e2⟩ := h1
          exact .cons ⟨L, hl d (hd d (by simp)) L e1, e2⟩ (ih _ (fun x hx => hd x (by simp [hx])) h2)
    exact this ds2 _ hd h6
  have hlt0 : ∀ r L, γ0 r = some L → r < k := fun r L e => by
    refine Nat.lt_of_not_le fun hk => ?_
    rw [h9 r hk] at e; cases e
  have hP : Stp γ0 s0 w0 γ2 s2 w := by
    refine ⟨⟨?_, h7.le.fz⟩, ?_, by rw [h8]; exact hR.le, h7.size, h7.os, h7.tape, h7.output, h7.blk, ?_, h7.fzn⟩
    · intro r L e
      have hr := hlt0 r L e
      rw [g2 r (Nat.lt_of_lt_of_le hr hR.le), hR.id r hr]
      exact h7.le.loc r L e
    · intro r L e e0
      obtain ⟨hr, e⟩ := g2s r L e
      by_cases hk : r < k
      · rw [hR.id r hk] at e
        exact h7.new r L e e0
      · refine ⟨by omega, ?_⟩
        cases hq : γ0 (ρ r) with
        | none => exact (h7.new _ L e hq).2
        | some L' =>
          have := h7.le.loc _ L' hq
          rw [e] at this; cases this
          exact .inr ⟨_, _, hq, rfl⟩
    · intro r e0 hr
      rw [hR.keep r (by omega)]
      exact h7.keep r e0 hr
  exact h N c γ2 w a b γ0 s0 w0 m h1 h2 hT hS h5 hD hP h8 h9
end
end Go.AM
