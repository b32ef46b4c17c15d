/-
  Functions of the program as the abstract machine reads them, and what is stated of them, checked by the kernel. No conditions.
-/
import Derived.Test.YtnnbibnobmegpaaSeatCfg
import Derived.Test.YtnnbibnobmegpaaXN
set_option linter.unusedVariables false
set_option linter.unusedSimpArgs false

set_option linter.unusedVariables false
set_option maxRecDepth 100000
namespace Go.AM
attribute [local irreducible] W
open X
structure Lv where
  seq : Int
  stripe : Int
  blocks : Int
  par : Bool
  sure : Bool
  home : Bool
def Lv.c (x : Lv) : List AV := [.int .u32 x.seq, .int .i64 x.stripe, .int .i64 x.blocks, .bool x.par, .bool x.sure, .bool x.home]
structure Lv.ok (x : Lv) : Prop where
  seq : u32B x.seq
  stripe : i64B x.stripe
  blocks : i64B x.blocks
def lvs (L : List Lv) : List AV := L.flatMap Lv.c
theorem lvs_cons (x : Lv) (L : List Lv) : lvs (x :: L) = x.c ++ lvs L := rfl
theorem lvs_length : ∀ (L : List Lv), (lvs L).length = L.length * 6
  | [] => rfl
  | x :: L => by rw [lvs_cons, List.length_append, lvs_length L, List.length_cons]; show 6 + _ = _; omega
theorem lvs_drop : ∀ (L : List Lv) (i : Nat), (lvs L).drop (i * 6) = lvs (L.drop i)
  | L, 0 => by simp
  | [], i + 1 => by simp [lvs]
  | x :: L, i + 1 => by
    rw [List.drop_succ_cons, ← lvs_drop L i, lvs_cons, show (i + 1) * 6 = x.c.length + i * 6 by show (i + 1) * 6 = 6 + i * 6; omega, List.drop_append, List.drop_eq_nil_of_le (by omega), List.nil_append]
    congr 1; omega
theorem lvs_take {L : List Lv} {i : Nat} (h : i < L.length) : takeL 6 ((lvs L).drop (i * 6)) = some L[i].c := by
  rw [lvs_drop, List.drop_eq_getElem_cons h, lvs_cons]; rfl
theorem lvs_inj : ∀ {L M : List Lv}, lvs L = lvs M → L = M
  | [], [], _ => rfl
  | [], y :: M, h => by cases h
  | x :: L, [], h => by cases h
  | x :: L, y :: M, h => by
    obtain ⟨a, b, c, d, e, f⟩ := x
    obtain ⟨a', b', c', d', e', f'⟩ := y
    rw [lvs_cons, lvs_cons] at h
    simp [Lv.c] at h
    obtain ⟨rfl, rfl, rfl, rfl, rfl, rfl, h⟩ := h
    rw [lvs_inj h]
theorem hfs_lvs : ∀ (L : List Lv), hfs (lvs L) = true
  | [] => rfl
  | x :: L => by
    show (true && (true && (true && (true && (true && (true && hfs (lvs L))))))) = true
    rw [hfs_lvs L]; rfl
structure Log where
  age : Int
  seq : Int
  tail : Int
  used : Int
  live : List Lv
structure Log.ok (l : Log) : Prop where
  age : u32B l.age
  seq : u32B l.seq
  tail : i64B l.tail
  used : i64B l.used
  live : ∀ x ∈ l.live, x.ok
  len : l.live.length ≤ 1000
def Log.c (l : Log) (v : AV) : List AV := [.int .u32 l.age, .int .u32 l.seq, .int .i64 l.tail, .int .i64 l.used, v]
def LSl (L : List Lv) (v : AV) : Prop := Sl 6 L.length (lvs L) v
theorem LSl.inj {L M : List Lv} {v : AV} (h : LSl L v) (k : LSl M v) : L = M := by
  refine lvs_inj ?_
  rcases h with ⟨rfl, _, h⟩ | ⟨rfl, _, h⟩ | ⟨c, rfl, h⟩
  · rcases k with ⟨_, _, k⟩ | ⟨e, _⟩ | ⟨c, e, _⟩
    · rw [h, k]
    · cases e
    · cases e
  · rcases k with ⟨e, _⟩ | ⟨_, _, k⟩ | ⟨c, e, _⟩
    · cases e
    · rw [h, k]
    · cases e
  · rcases k with ⟨e, _⟩ | ⟨e, _⟩ | ⟨c, e, _⟩
    · cases e
    · cases e
    · injection e with _ _ e
structure Ring where
  l : Log
  c : Cfg
structure Ring.ok (r : Ring) : Prop where
  l : r.l.ok
  c : r.c.ok
def Ring.cs (r : Ring) (v : AV) : List AV := r.l.c v ++ r.c.c
def KM (c : AV) (es : List (AV × AV × Nat)) (ks : List Int) : Prop := es.map (fun e => (e.1, e.2.1)) = ks.map (fun k => (AV.int .i64 k, c))
theorem KM.nil (c : AV) : KM c [] [] := rfl
theorem KM.cons {c : AV} {e : AV × AV × Nat} {es : List (AV × AV × Nat)} {ks : List Int} (h : KM c (e :: es) ks) : ∃ k l, ks = k :: l ∧ e.1 = .int .i64 k ∧ e.2.1 = c ∧ KM c es l := by
  cases ks with
  | nil => cases h
  | cons k l =>
    unfold KM at h
    simp at h
    exact ⟨k, l, rfl, h.1.1, h.1.2, h.2⟩
theorem KM.length {c : AV} : ∀ {es : List (AV × AV × Nat)} {ks : List Int}, KM c es ks → es.length = ks.length := fun h => by
  have := congrArg List.length h; simpa using this
theorem eqKey_int (a b : Int) : eqKey (.int .i64 a) (.int .i64 b) = some (a == b) := by
  show cond (eqK .i64 .i64) (some (eqI a b)) none = _
  rw [eqI_eq]; rfl
theorem KM.find {c : AV} {k : Int} : ∀ {es : List (AV × AV × Nat)} {ks : List Int}, KM c es ks → findK (.int .i64 k) es = some (if k ∈ ks then some c else none)
  | [], ks, h => by
    have := h.length; simp at this
    have : ks = [] := List.length_eq_zero_iff.1 this.symm
    subst this; rfl
  | (a, b, n) :: es, ks, h => by
    obtain ⟨k', l, rfl, e1, e2, h'⟩ := h.cons
    dsimp only at e1 e2
    subst e1 e2
    show (match eqKey (.int .i64 k) (.int .i64 k') with | some true => some (some b) | some false => findK (.int .i64 k) es | none => none) = _
    rw [eqKey_int]
    by_cases hk : k = k'
    · subst hk; simp
    · rw [show (k == k') = false by simpa using hk]
      simp only
      rw [KM.find h']; simp [hk]
theorem KM.set {c : AV} {k : Int} : ∀ {es : List (AV × AV × Nat)} {ks : List Int}, KM c es ks → KM c (setK (.int .i64 k) c es) ks
  | [], ks, h => h
  | (a, b, n) :: es, ks, h => by
    obtain ⟨k', l, rfl, e1, e2, h'⟩ := h.cons
    dsimp only at e1 e2
    subst e1 e2
    show KM b (match eqKey (.int .i64 k) (.int .i64 k') with | some true => (.int .i64 k, b, n) :: es | _ => (.int .i64 k', b, n) :: setK (.int .i64 k) b es) _
    rw [eqKey_int]
    by_cases hk : k = k'
    · subst hk; simp; exact h
    · rw [show (k == k') = false by simpa using hk]
      simp only
      have := KM.set (k := k) h'
      unfold KM at this ⊢
      simp [this]
theorem KM.app {c : AV} {k : Int} {n : Nat} {es : List (AV × AV × Nat)} {ks : List Int} (h : KM c es ks) : KM c (es ++ [(.int .i64 k, c, n)]) (ks ++ [k]) := by
  unfold KM at h ⊢; simp [h]
theorem KM.del {c : AV} {k : Int} : ∀ {es : List (AV × AV × Nat)} {ks : List Int}, KM c es ks → KM c (delK (.int .i64 k) es) (ks.erase k)
  | [], ks, h => by
    have := h.length; simp at this
    have : ks = [] := List.length_eq_zero_iff.1 this.symm
    subst this; exact KM.nil c
  | (a, b, n) :: es, ks, h => by
    obtain ⟨k', l, rfl, e1, e2, h'⟩ := h.cons
    dsimp only at e1 e2
    subst e1 e2
    show KM b (match eqKey (.int .i64 k) (.int .i64 k') with | some true => es | _ => (.int .i64 k', b, n) :: delK (.int .i64 k) es) _
    rw [eqKey_int, List.erase_cons]
    by_cases hk : k = k'
    · subst hk; simp; exact h'
    · rw [show (k == k') = false by simpa using hk, show (k' == k) = false by simpa using fun e => hk e.symm]
      simp only
      have := KM.del (k := k) h'
      unfold KM at this ⊢
      simp [this]
def dAdd (k : Int) (l : List Int) : List Int := if k ∈ l then l else l ++ [k]
section
variable {t : AT} {s : St} {q : AV → St → Prop} {x y z : AO}
theorem EPrim.msetK {c : AV} {r n : Nat} {k : Int} {es : List (AV × AV × Nat)} {ks : List Int} (hx : ev x t = .some (.map r)) (hy : ev y t = .some (.int .i64 k)) (hz : ev z t = .some c) (hs : s.get r = some (.map es n)) (hk : KM c es ks)
    (h : ∀ es' n', KM c es' (dAdd k ks) → q (.tup []) (s.put r (.map es' n'))) : EPrim (.mset x y z) t s q := by
  by_cases hm : k ∈ ks
  · refine EPrim.mk (v := .tup []) (s' := s.put r (.map (setK (.int .i64 k) c es) n)) (fun e rec => ?_) (h _ _ (by unfold dAdd; rw [if_pos hm]; exact hk.set))
    show wth x t _ = _; unfold wth; rw [hx]
    show wth y t _ = _; unfold wth; rw [hy]
    show wth z t _ = _; unfold wth; rw [hz]
    show (Option.rec .fail _ (mapAt r s) : RV) = _
    unfold mapAt; rw [hs]
    show (Option.rec .fail _ (findK (.int .i64 k) es) : RV) = _
    rw [hk.find, if_pos hm]
  · refine EPrim.mk (v := .tup []) (s' := s.put r (.map (es ++ [(.int .i64 k, c, n)]) (n + 1))) (fun e rec => ?_) (h _ _ (by unfold dAdd; rw [if_neg hm]; exact hk.app))
    show wth x t _ = _; unfold wth; rw [hx]
    show wth y t _ = _; unfold wth; rw [hy]
    show wth z t _ = _; unfold wth; rw [hz]
    show (Option.rec .fail _ (mapAt r s) : RV) = _
    unfold mapAt; rw [hs]
    show (Option.rec .fail _ (findK (.int .i64 k) es) : RV) = _
    rw [hk.find, if_neg hm]
    show RV.ok _ (s.put r (.map (appL es [(.int .i64 k, c, n)]) (n + 1))) = _
    rw [appL_eq]
theorem EPrim.mdelK {c : AV} {r n : Nat} {k : Int} {es : List (AV × AV × Nat)} {ks : List Int} (hx : ev x t = .some (.map r)) (hy : ev y t = .some (.int .i64 k)) (hs : s.get r = some (.map es n)) (hk : KM c es ks)
    (h : ∀ es' n', KM c es' (ks.erase k) → q (.tup []) (s.put r (.map es' n'))) : EPrim (.mdel x y) t s q := by
  refine EPrim.mk (v := .tup []) (s' := s.put r (.map (delK (.int .i64 k) es) n)) (fun e rec => ?_) (h _ _ hk.del)
  show wth x t _ = _; unfold wth; rw [hx]
  show wth y t _ = _; unfold wth; rw [hy]
  show (Option.rec .fail _ (mapAt r s) : RV) = _
  unfold mapAt; rw [hs]
  show (Option.rec .fail _ (findK (.int .i64 k) es) : RV) = _
  rw [hk.find]
theorem EPrim.mgetK {c zv : AV} {r n : Nat} {k : Int} {es : List (AV × AV × Nat)} {ks : List Int} (hx : ev x t = .some (.map r)) (hy : ev y t = .some (.int .i64 k)) (hs : s.get r = some (.map es n)) (hk : KM c es ks)
    (h1 : k ∈ ks → q c s) (h2 : k ∉ ks → q zv s) : EPrim (.mget zv false x y) t s q := by
  by_cases hm : k ∈ ks
  · refine EPrim.mk (v := c) (s' := s) (fun e rec => ?_) (h1 hm)
    show wth x t _ = _; unfold wth; rw [hx]
    show wth y t _ = _; unfold wth; rw [hy]
    show (Option.rec .fail _ (mapAt r s) : RV) = _
    unfold mapAt; rw [hs]
    show (Option.rec .fail _ (findK (.int .i64 k) es) : RV) = _
    rw [hk.find, if_pos hm]; rfl
  · refine EPrim.mk (v := zv) (s' := s) (fun e rec => ?_) (h2 hm)
    show wth x t _ = _; unfold wth; rw [hx]
    show wth y t _ = _; unfold wth; rw [hy]
    show (Option.rec .fail _ (mapAt r s) : RV) = _
    unfold mapAt; rw [hs]
    show (Option.rec .fail _ (findK (.int .i64 k) es) : RV) = _
    rw [hk.find, if_neg hm]; rfl
theorem EPrim.lenmK {c : AV} {r n : Nat} {es : List (AV × AV × Nat)} {ks : List Int} (hx : ev x t = .some (.map r)) (hs : s.get r = some (.map es n)) (hk : KM c es ks)
    (h : q (.int .i64 (ks.length : Int)) s) : EPrim (.lenm x) t s q := by
  refine EPrim.mk (v := .int .i64 (ks.length : Int)) (s' := s) (fun e rec => ?_) h
  show wth x t _ = _; unfold wth; rw [hx]
  show (Option.rec .fail _ (mapAt r s) : RV) = _
  unfold mapAt; rw [hs]
  show RV.ok (intN (lenL es)) s = _
  rw [lenL_eq, hk.length]; rfl
end
theorem bdE_KM {c : AV} {n : Nat} (hc : bd n c = true) : ∀ {es : List (AV × AV × Nat)} {ks : List Int}, KM c es ks → bdE n es = true
  | [], ks, h => rfl
  | (a, b, m) :: es, ks, h => by
    obtain ⟨k', l, rfl, e1, e2, h'⟩ := h.cons
    dsimp only at e1 e2
    subst e1 e2
    show (true && bd n b && bdE n es) = true
    rw [hc, bdE_KM hc h']; rfl
theorem mapE_KM {c : AV} {ρ : Nat → Nat} (hc : mapV ρ c = c) : ∀ {es : List (AV × AV × Nat)} {ks : List Int}, KM c es ks → mapE ρ es = es
  | [], ks, h => rfl
  | (a, b, m) :: es, ks, h => by
    obtain ⟨k', l, rfl, e1, e2, h'⟩ := h.cons
    dsimp only at e1 e2
    subst e1 e2
    show (AV.int .i64 k', mapV ρ b, m) :: mapE ρ es = _
    rw [mapE_KM hc h', hc]
def dStep (l : List Int) (x : Lv) : List Int := if x.par then (dAdd x.stripe l).erase x.stripe else dAdd x.stripe l
def dirtyL (L : List Lv) : List Int := L.foldl dStep []
def code125 : AC := match a125 with | .mk c _ => c
theorem ETake.eq {n : Nat} {l cs : List AV} {k : List AV → Prop} (h : takeL n l = some cs) (hk : k cs) : ETake n l k := by
  unfold ETake; exact ⟨cs, h, hk⟩
theorem dirty_run (P : Program) (e : Env) (hE : EnvOk P e) (hm : P.follows .mixedOrders = true) (r : Ring) (hr : r.ok) (v : AV) (hv : LSl r.l.live v) (Q : AV → St → Prop) (k : ∀ s, Q (.int .i64 ((dirtyL r.l.live).length : Int)) s) :
    VW P e 0 code125 (initT [.fp (r.cs v)] 0 .lf) St0 none [] (EEnd [.tmp 2] Q) := by
  obtain ⟨L, hL⟩ : ∃ L, L = r.l.live := ⟨_, rfl⟩
  rw [← hL] at hv k
  have hlen : L.length ≤ 1000 := by rw [hL]; exact hr.l.len
  conv => whnf
  refine EHead.mk rfl ?_
  conv => whnf
  refine EPrim.lenZ rfl hv ?_
  conv => whnf
  refine W.loopS (α := Nat × List (AV × AV × Nat) × Nat) (fun x => [(3, .map 0), (11, v), (12, .int .i64 (L.length : Int)), (13, .int .i64 (x.1 : Int))]) (fun x => [.map x.2.1 x.2.2]) (fun x => L.length - x.1)
    (fun x => x.1 ≤ L.length ∧ KM (.bool true) x.2.1 (dirtyL (L.take x.1))) (0, [], 0) [0] ⟨Nat.zero_le _, KM.nil _⟩ ⟨by decide, ⟨⟨rfl, rfl⟩, ⟨hf_bd _ hv.hf, by rw [hf_mapV _ hv.hf]; rfl⟩, ⟨rfl, rfl⟩, ⟨rfl, rfl⟩, trivial⟩, ⟨⟨rfl, rfl⟩, trivial⟩⟩ ?_
  rintro ⟨i, es, n⟩ ⟨hi, hK⟩
  dsimp only at hi hK ⊢
  refine vw_sound hE hm ?_
  conv => whnf
  refine EPrim.lss2 rfl rfl (fun h => ?_) (fun h => ?_) <;> conv => whnf
  · have hlt : i < L.length := by omega
    refine EPrim.ixsS rfl hv rfl hlt ?_
    conv => whnf
    refine ETake.eq (lvs_take hlt) ?_
    have hst : dirtyL (L.take (i + 1)) = dStep (dirtyL (L.take i)) L[i] := by
      rw [List.take_succ_eq_append_getElem hlt]; unfold dirtyL; rw [List.foldl_append]; rfl
    revert hst
    generalize L[i] = x
    obtain ⟨sq, st, bl, pa, su, ho⟩ := x
    intro hst
    have fin : ∀ t s es' n', KM (.bool true) es' (dirtyL (L.take (i + 1))) → t.get 3 = some (.map 0) → t.get 11 = some v → t.get 12 = some (.int .i64 (L.length : Int)) → t.get 13 = some (.int .i64 ((i : Int) + 1)) → s.get 0 = some (.map es' n') →
        ([] : List Nat) = [] ∧ ∃ x' : Nat × List (AV × AV × Nat) × Nat, (x'.1 ≤ L.length ∧ KM (.bool true) x'.2.1 (dirtyL (L.take x'.1))) ∧ L.length - x'.1 < L.length - i ∧ ∃ rs, Abs t s [(3, .map 0), (11, v), (12, .int .i64 (L.length : Int)), (13, .int .i64 (x'.1 : Int))] [.map x'.2.1 x'.2.2] rs := by
      intro t s es' n' hK h3 h11 h12 h13 g0
      refine ⟨rfl, (i + 1, es', n'), ⟨hlt, hK⟩, by simp; omega, [0], ⟨by decide, ⟨⟨rfl, h3⟩, ⟨hf_bd _ hv.hf, by rw [hf_mapV _ hv.hf]; exact h11⟩, ⟨rfl, h12⟩, ⟨rfl, h13⟩, trivial⟩, ⟨⟨bdE_KM rfl hK, ?_⟩, trivial⟩⟩⟩
      show _ = some (AObj.map (mapE _ es') n'); rw [mapE_KM rfl hK]; exact g0
    conv => whnf
    refine EPrim.msetK rfl rfl rfl rfl hK (fun es' n' hK' => ?_)
    cases pa with
    | true =>
      conv => whnf
      refine EPrim.mdelK rfl rfl rfl hK' (fun es'' n'' hK'' => ?_)
      conv => whnf
      repeat' (first | ((first | refine w1 rfl rfl ?_ ?_ | refine w2 rfl rfl ?_ ?_ | refine w3 rfl rfl ?_ ?_ | refine w4 rfl rfl ?_ ?_ | refine w5 rfl rfl ?_ ?_ | refine w6 rfl rfl ?_ ?_) <;> intro _ <;> first | (exfalso; omega) | (conv => whnf)) | ((first | refine w7 rfl rfl (by omega) ?_ | refine w8 rfl rfl (by omega) ?_ | refine w9 rfl rfl (by omega) ?_ | refine w10 rfl rfl ?_ | refine w11 rfl rfl ?_ | refine w12 rfl ?_ | refine w13 rfl ?_ | refine w14 (q' := .i64) rfl (i64_in (by omega)) ?_ | refine w14 (q' := .u32) rfl (u32_in (by omega)) ?_ | refine w14 (q' := .u8) rfl (u8_in (by omega)) ?_ | refine w15 rfl rfl ?_ | refine w16 rfl ?_ | refine w17 rfl ?_ | refine w18 rfl ?_ | refine ⟨rfl, ?_⟩); conv => whnf) | (refine w19 rfl ?_ ?_ <;> intro hc <;> (try subst hc) <;> conv => whnf))
      refine (fin _ _ es'' n'' (by rw [hst]; exact hK'') ?_ ?_ ?_ ?_ ?_).2 <;> rfl
    | false =>
      conv => whnf
      repeat' (first | ((first | refine w1 rfl rfl ?_ ?_ | refine w2 rfl rfl ?_ ?_ | refine w3 rfl rfl ?_ ?_ | refine w4 rfl rfl ?_ ?_ | refine w5 rfl rfl ?_ ?_ | refine w6 rfl rfl ?_ ?_) <;> intro _ <;> first | (exfalso; omega) | (conv => whnf)) | ((first | refine w7 rfl rfl (by omega) ?_ | refine w8 rfl rfl (by omega) ?_ | refine w9 rfl rfl (by omega) ?_ | refine w10 rfl rfl ?_ | refine w11 rfl rfl ?_ | refine w12 rfl ?_ | refine w13 rfl ?_ | refine w14 (q' := .i64) rfl (i64_in (by omega)) ?_ | refine w14 (q' := .u32) rfl (u32_in (by omega)) ?_ | refine w14 (q' := .u8) rfl (u8_in (by omega)) ?_ | refine w15 rfl rfl ?_ | refine w16 rfl ?_ | refine w17 rfl ?_ | refine w18 rfl ?_ | refine ⟨rfl, ?_⟩); conv => whnf) | (refine w19 rfl ?_ ?_ <;> intro hc <;> (try subst hc) <;> conv => whnf))
      refine (fin _ _ es' n' (by rw [hst]; exact hK') ?_ ?_ ?_ ?_ ?_).2 <;> rfl
  · have : L.take i = L := List.take_of_length_le (by omega)
    rw [this] at hK
    refine EPrim.lenmK rfl rfl hK ?_
    conv => whnf
    exact k _
structure RAt (s : St) (a : AV) (r : Ring) (v : AV) : Prop where
  frz : Frz s a (.fp (r.cs v))
  sl : LSl r.l.live v
  ok : r.ok
def atom : AV → Bool
  | .int .. => true
  | .bool _ => true
  | _ => false
theorem Frz.atom {s : St} {x u : AV} (h : Frz s x u) (ha : atom u = true) : x = u := by
  cases h with
  | plain _ _ => rfl
  | sl _ _ _ _ _ _ _ _ _ => cases ha
  | ptr _ _ _ _ _ _ => cases ha
  | agg _ _ _ => cases ha
  | tup _ _ _ => cases ha
  | fn _ _ _ _ _ _ _ => cases ha
theorem Frz.atoms {s : St} : ∀ {l us : List AV}, All2 (Frz s) l us → (∀ u ∈ us, AM.atom u = true) → l = us
  | _, _, .nil, _ => rfl
  | _, _, .cons a b, h => by rw [a.atom (h _ (by simp)), Frz.atoms b (fun u hu => h u (by simp [hu]))]
theorem Frz.of_hf {s : St} {x u : AV} (h : Frz s x u) (hx : AM.hf x = true) : (∀ l, x ≠ .agg l) → (∀ l, x ≠ .tup l) → (∀ f a b, x ≠ .fn f a b) → u = x := by
  cases h with
  | plain _ _ => intros; rfl
  | sl _ _ _ _ _ _ _ _ _ => cases hx
  | ptr _ _ _ _ _ _ => cases hx
  | agg l _ _ => intro h; exact absurd rfl (h l)
  | tup l _ _ => intro _ h; exact absurd rfl (h l)
  | fn f a b _ _ _ _ => intro _ _ h; exact absurd rfl (h f a b)
theorem atom_lvs {L : List Lv} : ∀ u ∈ lvs L, atom u = true := by
  induction L with
  | nil => intro u h; cases h
  | cons x L ih =>
    intro u h
    rcases List.mem_append.1 (show u ∈ x.c ++ lvs L from h) with h | h
    · simp [Lv.c] at h
      rcases h with rfl | rfl | rfl | rfl | rfl | rfl <;> rfl
    · exact ih u h
theorem row_same {l l' cs : List AV} {o : Nat} (h : ∀ (i : Nat) x, l[i]? = some x → cs[o + i]? = some x) (h' : ∀ (i : Nat) x, l'[i]? = some x → cs[o + i]? = some x) (hl : l.length = l'.length) : l = l' := by
  refine List.ext_getElem? fun i => ?_
  by_cases hi : i < l.length
  · have h1 := h i _ (List.getElem?_eq_getElem hi)
    have h2 := h' i _ (List.getElem?_eq_getElem (l := l') (i := i) (by omega))
    rw [List.getElem?_eq_getElem hi, List.getElem?_eq_getElem (l := l') (i := i) (by omega), ← h1, ← h2]
  · rw [List.getElem?_eq_none (by omega), List.getElem?_eq_none (by omega)]
theorem Frz.live {s : St} {x v v' : AV} {L L' : List Lv} (h : Frz s x v) (h' : Frz s x v') (hv : LSl L v) (hv' : LSl L' v') : L = L' := by
  rcases hv with ⟨rfl, e1, e2⟩ | ⟨rfl, e1, e2⟩ | ⟨c, rfl, e2⟩
  · have hx : x = .nils := by cases h; rfl
    subst hx
    have := h'.of_hf rfl (by simp) (by simp) (by simp)
    subst this
    exact LSl.inj (.inl ⟨rfl, e1, e2⟩) hv'
  · have hx : x = .es := by cases h; rfl
    subst hx
    have := h'.of_hf rfl (by simp) (by simp) (by simp)
    subst this
    exact LSl.inj (.inr (.inl ⟨rfl, e1, e2⟩)) hv'
  · cases h with
    | plain _ hh =>
      have := h'.of_hf rfl (by simp) (by simp) (by simp)
      subst this
      exact LSl.inj (.inr (.inr ⟨c, rfl, e2⟩)) hv'
    | sl r o n cap cap' e cs l us h1 h2 h3 h4 =>
      have hl1 := Frz.atoms h3 atom_lvs
      cases h' with
      | plain _ hh => cases hh
      | sl _ _ _ _ cap2 e2' cs2 l2 us2 g1 g2 g3 g4 =>
        rw [h1] at g1; cases g1
        rcases hv' with ⟨q, _⟩ | ⟨q, _⟩ | ⟨c2, q, q2⟩
        · cases q
        · cases q
        · injection q with q0 _ q3
          subst q3
          have hl2 := Frz.atoms g3 atom_lvs
          rw [hl1] at h2; rw [hl2] at g2
          refine lvs_inj (row_same h2 g2 ?_)
          rw [lvs_length, lvs_length, q0]
theorem frz_self {s : St} : ∀ {l : List AV}, hfs l = true → All2 (Frz s) l l
  | [], _ => .nil
  | x :: l, h => by
    simp only [hfs, Bool.and_eq_true] at h
    exact .cons (.plain _ h.1) (frz_self h.2)
theorem hfs_ring (r : Ring) {v : AV} (h : LSl r.l.live v) : hfs (r.cs v) = true := by
  show (true && (true && (true && (true && (AM.hf v && (true && (true && (true && (true && (true && (true && true))))))))))) = true
  rw [h.hf]; rfl
theorem RAt.inj {s : St} {a : AV} {r r' : Ring} {v v' : AV} (h : RAt s a r v) (h' : RAt s a r' v') : r = r' := by
  have key : ∀ (l : List AV), All2 (Frz s) l (r.cs v) → All2 (Frz s) l (r'.cs v') → r = r' := by
    intro l g g'
    obtain ⟨⟨ag, sq, tl, us, lv⟩, ⟨i1, i2, i3, i4, i5, i6⟩⟩ := r
    obtain ⟨⟨ag', sq', tl', us', lv'⟩, ⟨j1, j2, j3, j4, j5, j6⟩⟩ := r'
    cases g with | cons a1 g => cases g with | cons a2 g => cases g with | cons a3 g => cases g with | cons a4 g => cases g with | cons a5 g => cases g with | cons a6 g => cases g with | cons a7 g => cases g with | cons a8 g => cases g with | cons a9 g => cases g with | cons a10 g => cases g with | cons a11 g =>
    cases g' with | cons b1 g' => cases g' with | cons b2 g' => cases g' with | cons b3 g' => cases g' with | cons b4 g' => cases g' with | cons b5 g' => cases g' with | cons b6 g' => cases g' with | cons b7 g' => cases g' with | cons b8 g' => cases g' with | cons b9 g' => cases g' with | cons b10 g' => cases g' with | cons b11 g' =>
    have c1 := (a1.atom rfl).symm.trans (b1.atom rfl)
    have c2 := (a2.atom rfl).symm.trans (b2.atom rfl)
    have c3 := (a3.atom rfl).symm.trans (b3.atom rfl)
    have c4 := (a4.atom rfl).symm.trans (b4.atom rfl)
    have c5 := a5.live b5 h.sl h'.sl
    have c6 := (a6.atom rfl).symm.trans (b6.atom rfl)
    have c7 := (a7.atom rfl).symm.trans (b7.atom rfl)
    have c8 := (a8.atom rfl).symm.trans (b8.atom rfl)
    have c9 := (a9.atom rfl).symm.trans (b9.atom rfl)
    have c10 := (a10.atom rfl).symm.trans (b10.atom rfl)
    have c11 := (a11.atom rfl).symm.trans (b11.atom rfl)
    injection c1 with _ c1; injection c2 with _ c2; injection c3 with _ c3; injection c4 with _ c4; injection c6 with _ c6; injection c7 with _ c7; injection c8 with _ c8; injection c9 with _ c9; injection c10 with _ c10; injection c11 with _ c11
    dsimp only at c1 c2 c3 c4 c5 c6 c7 c8 c9 c10 c11
    subst c1 c2 c3 c4 c5 c6 c7 c8 c9 c10 c11; rfl
  have hf1 := h.frz
  have hf2 := h'.frz
  generalize hu : r.cs v = us at hf1
  generalize hu' : r'.cs v' = us' at hf2
  cases hf1 with
  | plain _ hh =>
    have := hf2.of_hf rfl (by simp) (by simp) (by simp)
    injection this with this
    subst this
    have H := hfs_ring r h.sl
    refine key (r.cs v) (frz_self H) ?_
    rw [hu', ← hu]
    exact frz_self H
  | ptr q o e cs l us h1 h2 h3 =>
    cases hf2 with
    | ptr _ _ e2 cs2 l2 us2 g1 g2 g3 =>
      rw [h1] at g1; cases g1
      subst hu hu'
      have : l = l2 := row_same h2 g2 (by rw [h3.length, g3.length]; rfl)
      subst this
      exact key l h3 g3
mutual
theorem sc_hf : ∀ (v : AV), sc v = true → AM.hf v = true
  | .ptr .., h => by cases h
  | .sl .., h => by cases h
  | .map .., h => by cases h
  | .yld .., h => by cases h
  | .fz .., h => by cases h
  | .fp .., h => by cases h
  | .fn f a b, h => by
    simp only [sc, Bool.and_eq_true] at h
    simp only [AM.hf, Bool.and_eq_true]
    exact ⟨scs_hfs a h.1, scs_hfs b h.2⟩
  | .iface t v, h => sc_hf v h
  | .agg l, h => scs_hfs l h
  | .tup l, h => scs_hfs l h
  | .bool _, _ | .int _ _, _ | .str _, _ | .nilp, _ | .nils, _ | .es, _ | .nilm, _ | .nilf, _ | .nili, _ | .any, _ => rfl
theorem scs_hfs : ∀ (l : List AV), scs l = true → AM.hfs l = true
  | [], _ => rfl
  | v :: l, h => by
    simp only [scs, Bool.and_eq_true] at h
    simp only [AM.hfs, Bool.and_eq_true]
    exact ⟨sc_hf v h.1, scs_hfs l h.2⟩
end
noncomputable def ringO (p : Ring → Prop) (g : Ring → AV) : Ov := fun args s => open Classical in if h : ∃ r a v, args = [a] ∧ RAt s a r v ∧ p r then .ok (g (Classical.choose h)) s else .fail
theorem ringO_run {p : Ring → Prop} {g : Ring → AV} {a v : AV} {s : St} {r : Ring} (h : RAt s a r v) (hp : p r) : ringO p g [a] s = .ok (g r) s := by
  have hx : ∃ r a' v, [a] = [a'] ∧ RAt s a' r v ∧ p r := ⟨r, a, v, rfl, h, hp⟩
  unfold ringO
  rw [dif_pos hx]
  obtain ⟨a', v', e, h', _⟩ := Classical.choose_spec hx
  injection e with e
  subst e
  rw [RAt.inj h h']
theorem ringO_ok {P : Program} {f : Nat} {p : Ring → Prop} {g : Ring → AV} (hb : HasBody P f) (hg : ∀ r, sc (g r) = true) (h : ∀ r v, r.ok → p r → LSl r.l.live v → C P f [.fp (r.cs v)] St0 (fun u s' => u = g r)) : OvOk P f (ringO p g) := by
  refine ⟨hb, fun args s u s' hh => ?_⟩
  unfold ringO at hh
  split at hh
  · rename_i hx
    cases hh
    obtain ⟨a, v, rfl, hr, hp⟩ := Classical.choose_spec hx
    have H2 : hfs [AV.fp (Ring.cs (Classical.choose hx) v)] = true := rfl
    exact C.view (.cons hr.frz .nil) (hg _) (C.freeze H2 ((h _ v hr.ok hp hr.sl).mono fun u s' e => by
      rw [e]; exact Frz.plain _ (sc_hf _ (hg (Classical.choose hx)))))
  · cases hh
theorem RAt.fp {s : St} {r : Ring} {v : AV} (hv : LSl r.l.live v) (hr : r.ok) : RAt s (.fp (r.cs v)) r v := ⟨.plain _ rfl, hv, hr⟩
def hTake (tk : List Int) (x : Lv) : List Int := if x.home && x.par then dAdd x.stripe tk else tk
def hBad (tk : List Int) (x : Lv) : Bool := x.home && (!x.sure || !decide (x.stripe ∈ hTake tk x))
def homesG : List Lv → List Int → Bool
  | [], _ => true
  | x :: l, tk => !hBad tk x && homesG l (hTake tk x)
def homesB (L : List Lv) : Bool := homesG L.reverse []
def code123 : AC := match a123 with | .mk c _ => c
def rngIn : AC → Option (AC × AC)
  | .rng _ _ a b => some (a, b)
  | .seq a b => match rngIn a with | some x => some x | none => rngIn b
  | .block _ b => rngIn b
  | .loop b => rngIn b
  | _ => none
def asg123 : AC := match rngIn code123 with | some (a, _) => a | none => .skip
def body123 : AC := match rngIn code123 with | some (_, b) => b | none => .skip
noncomputable def tm123 : AT := ofL [(2, .ptr 0 0), (3, .ptr 2 0), (12, .fn 169 [] [.ptr 3 0])]
def code159 : AC := match a159 with | .mk c _ => c
def code169 : AC := match a169 with | .mk c _ => c
theorem Sl.cells {es n : Nat} {l : List AV} {v : AV} (h : Sl es n l v) : cellsOf v = [v] := by
  rcases h with ⟨rfl, _⟩ | ⟨rfl, _⟩ | ⟨c, rfl, _⟩ <;> rfl
theorem homes_run (P : Program) (e : Env) {fn : Func} (hE : EnvOk P e) (hm : P.follows .mixedOrders = true) (h159 : Inl e 159 code159 [.tmp 2]) (hf : P.funcs[169]? = some fn) (hc : compF P fn = some a169) (hb : HasBody P 169) (r : Ring) (hr : r.ok) (v : AV) (hv : LSl r.l.live v) (Q : AV → St → Prop) (k : ∀ s, Q (.bool (homesB r.l.live)) s) :
    VW P e 0 code123 (initT [.fp (r.cs v)] 0 .lf) St0 none [] (EEnd [.cell 2] Q) := by
  obtain ⟨L, hL⟩ : ∃ L, L = r.l.live := ⟨_, rfl⟩
  rw [← hL] at hv k
  have hlen : L.length ≤ 1000 := by rw [hL]; exact hr.l.len
  conv => whnf
  refine EHead.mk rfl ?_
  conv => whnf
  refine ESc.inl h159 ?_
  conv => whnf
  refine stuckB (by show Nat.beq (lenL (cellsOf v)) 1 = true; rw [hv.cells]; rfl) ?_
  rw [hv.cells]
  conv => whnf
  refine W.abs [(2, .ptr 0 0), (3, .ptr 2 0), (12, .fn 169 [] [.ptr 3 0])] [.row 4 [.bool false], .map [] 0, .row 220 [.map 1], .row 54 [v]] [0, 1, 2, 3] ⟨by decide, ⟨⟨rfl, rfl⟩, ⟨rfl, rfl⟩, ⟨rfl, rfl⟩, trivial⟩, ⟨⟨rfl, rfl⟩, ⟨rfl, rfl⟩, ⟨rfl, rfl⟩, ⟨?_, ?_⟩, trivial⟩⟩ ?_
  · show (bd _ v && true) = true; rw [hf_bd _ hv.hf]; rfl
  · show _ = some (AObj.row 54 [mapV _ v]); rw [hf_mapV _ hv.hf]; rfl
  refine W.rngI (f := 169) (first := []) (cap := [.ptr 3 0]) hb rfl ?_ ?_
  · intro q hq
    have hq : q < 4 := hq
    have n2 : Named (ofL [(2, .ptr 0 0), (3, .ptr 2 0), (12, .fn 169 [] [.ptr 3 0])]) (allocs St0 [.row 4 [.bool false], .map [] 0, .row 220 [.map 1], .row 54 [v]]) 2 := .tmp 3 (.ptr 2 0) rfl rfl
    rcases q with _ | _ | _ | _ | q
    · exact .tmp 2 (.ptr 0 0) rfl rfl
    · exact .cell 2 220 [.map 1] 0 (.map 1) n2 rfl rfl rfl
    · exact n2
    · exact .tmp 12 (.fn 169 [] [.ptr 3 0]) rfl rfl
    · omega
  show C1 P 169 [.yld 5, .ptr 3 0] (allocs St0 [.row 4 [.bool false], .map [] 0, .row 220 [.map 1], .row 54 [v], .defd, .loop .ready none 0 tm123 [13, 14] asg123 body123 4]) (fun _ s' => RngOut 5 [4] tm123 s' _)
  refine C1.of_V hE hm hf hc ?_
  conv => whnf
  refine EPrim.lenZ rfl hv ?_
  conv => whnf
  repeat' (first | ((first | refine w1 rfl rfl ?_ ?_ | refine w2 rfl rfl ?_ ?_ | refine w3 rfl rfl ?_ ?_ | refine w4 rfl rfl ?_ ?_ | refine w5 rfl rfl ?_ ?_ | refine w6 rfl rfl ?_ ?_) <;> intro _ <;> first | (exfalso; omega) | (conv => whnf)) | ((first | refine w7 rfl rfl (by omega) ?_ | refine w8 rfl rfl (by omega) ?_ | refine w9 rfl rfl (by omega) ?_ | refine w10 rfl rfl ?_ | refine w11 rfl rfl ?_ | refine w12 rfl ?_ | refine w13 rfl ?_ | refine w14 (q' := .i64) rfl (i64_in (by omega)) ?_ | refine w14 (q' := .u32) rfl (u32_in (by omega)) ?_ | refine w14 (q' := .u8) rfl (u8_in (by omega)) ?_ | refine w15 rfl rfl ?_ | refine w16 rfl ?_ | refine w17 rfl ?_ | refine w18 rfl ?_ | refine ⟨rfl, ?_⟩); conv => whnf) | (refine w19 rfl ?_ ?_ <;> intro hc <;> (try subst hc) <;> conv => whnf))
  refine W.loopK (α := Nat × List Int × List (AV × AV × Nat) × Nat) (fun x => [(0, .yld 5), (1, .ptr 3 0), (3, .int .i64 ((x.1 : Int) - 1))]) (fun x => [.row 4 [.bool false], .map x.2.2.1 x.2.2.2, .row 220 [.map 1], .row 54 [v], .defd, .loop .ready none 0 tm123 [13, 14] asg123 body123 4]) (fun x => x.1)
    (fun x => x.1 ≤ L.length ∧ KM (.int .i64 1) x.2.2.1 x.2.1 ∧ homesB L = homesG (L.take x.1).reverse x.2.1) (L.length, [], [], 0) [0, 1, 2, 3, 4, 5] ⟨Nat.le_refl _, KM.nil _, by rw [List.take_length]; rfl⟩ ?_ ?_
  · refine ⟨rfl, by decide, ⟨⟨rfl, rfl⟩, ⟨rfl, rfl⟩, ⟨rfl, rfl⟩, trivial⟩, ⟨⟨rfl, rfl⟩, ⟨rfl, rfl⟩, ⟨rfl, rfl⟩, ⟨?_, ?_⟩, ⟨rfl, rfl⟩, ⟨rfl, rfl⟩, trivial⟩⟩
    · show (bd _ v && true) = true; rw [hf_bd _ hv.hf]; rfl
    · show _ = some (AObj.row 54 [mapV _ v]); rw [hf_mapV _ hv.hf]; rfl
  rintro ⟨j, tk, es, n⟩ ⟨hj, hK, hh⟩
  dsimp only at hj hK hh ⊢
  refine vw_sound hE hm ?_
  conv => whnf
  refine EPrim.geq2 rfl rfl (fun h => ?_) (fun h => ?_) <;> conv => whnf
  · obtain ⟨i, rfl⟩ : ∃ i, j = i + 1 := ⟨j - 1, by omega⟩
    have hlt : i < L.length := by omega
    rw [show ((i + 1 : Nat) : Int) - 1 = (i : Int) by omega]
    refine EPrim.ixsS rfl hv rfl hlt ?_
    conv => whnf
    refine ETake.eq (lvs_take hlt) ?_
    have hst : homesB L = (!hBad tk L[i] && homesG (L.take i).reverse (hTake tk L[i])) := by
      rw [hh, List.take_succ_eq_append_getElem hlt, List.reverse_append]; rfl
    revert hst
    generalize L[i] = x
    obtain ⟨sq, st, bl, pa, su, ho⟩ := x
    intro hst
    conv => whnf
    refine ERound.mk ?_
    have fin : ∀ t s tk' es' n', homesB L = homesG (L.take i).reverse tk' → KM (.int .i64 1) es' tk' → t.get 0 = some (.yld 5) → t.get 1 = some (.ptr 3 0) → t.get 3 = some (.int .i64 ((i : Int) - 1)) → s.get 0 = some (.row 4 [.bool false]) → s.get 1 = some (.map es' n') → s.get 2 = some (.row 220 [.map 1]) → s.get 3 = some (.row 54 [v]) → s.get 4 = some .defd → s.get 5 = some (.loop .ready none 0 tm123 [13, 14] asg123 body123 4) →
        ∃ x' : Nat × List Int × List (AV × AV × Nat) × Nat, (x'.1 ≤ L.length ∧ KM (.int .i64 1) x'.2.2.1 x'.2.1 ∧ homesB L = homesG (L.take x'.1).reverse x'.2.1) ∧ x'.1 < i + 1 ∧ ∃ rs, AbsK 6 t s [(0, .yld 5), (1, .ptr 3 0), (3, .int .i64 ((x'.1 : Int) - 1))] [.row 4 [.bool false], .map x'.2.2.1 x'.2.2.2, .row 220 [.map 1], .row 54 [v], .defd, .loop .ready none 0 tm123 [13, 14] asg123 body123 4] rs := by
      intro t s tk' es' n' hh hK h0 h1 h3 g0 g1 g2 g3 g4 g5
      refine ⟨(i, tk', es', n'), ⟨by simp; omega, hK, hh⟩, by simp, [0, 1, 2, 3, 4, 5], rfl, by decide, ⟨⟨rfl, h0⟩, ⟨rfl, h1⟩, ⟨rfl, h3⟩, trivial⟩, ⟨⟨rfl, g0⟩, ⟨bdE_KM rfl hK, ?_⟩, ⟨rfl, g2⟩, ⟨?_, ?_⟩, ⟨rfl, g4⟩, ⟨rfl, g5⟩, trivial⟩⟩
      · show _ = some (AObj.map (mapE _ es') n'); rw [mapE_KM rfl hK]; exact g1
      · show (bd _ v && true) = true; rw [hf_bd _ hv.hf]; rfl
      · show _ = some (AObj.row 54 [mapV _ v]); rw [hf_mapV _ hv.hf]; exact g3
    cases ho <;> cases pa <;> cases su
    all_goals
      conv => whnf
      repeat' (first | (refine EPrim.msetK rfl rfl rfl rfl hK (fun es' n' hK' => ?_); conv => whnf) | (refine EPrim.mgetK rfl rfl rfl hK (fun hin => ?_) (fun hin => ?_) <;> conv => whnf) | (refine EPrim.mgetK rfl rfl rfl hK' (fun hin => ?_) (fun hin => ?_) <;> conv => whnf) | ((first | refine w1 rfl rfl ?_ ?_ | refine w2 rfl rfl ?_ ?_ | refine w3 rfl rfl ?_ ?_ | refine w4 rfl rfl ?_ ?_ | refine w5 rfl rfl ?_ ?_ | refine w6 rfl rfl ?_ ?_) <;> intro _ <;> first | (exfalso; omega) | (conv => whnf)) | ((first | refine w7 rfl rfl (by omega) ?_ | refine w8 rfl rfl (by omega) ?_ | refine w9 rfl rfl (by omega) ?_ | refine w10 rfl rfl ?_ | refine w11 rfl rfl ?_ | refine w12 rfl ?_ | refine w13 rfl ?_ | refine w14 (q' := .i64) rfl (i64_in (by omega)) ?_ | refine w14 (q' := .u32) rfl (u32_in (by omega)) ?_ | refine w14 (q' := .u8) rfl (u8_in (by omega)) ?_ | refine w15 rfl rfl ?_ | refine w16 rfl ?_ | refine w17 rfl ?_ | refine w18 rfl ?_ | refine ⟨rfl, ?_⟩); conv => whnf) | (refine w19 rfl ?_ ?_ <;> intro hc <;> (try subst hc) <;> conv => whnf))
    all_goals first
      | (refine fin _ _ tk es n ?_ hK ?_ ?_ ?_ ?_ ?_ ?_ ?_ ?_ ?_ <;> first | rfl | (rw [hst]; simp [hBad, hTake]; done))
      | (refine fin _ _ tk es n ?_ hK ?_ ?_ ?_ ?_ ?_ ?_ ?_ ?_ ?_ <;> first | rfl | (rw [hst]; simp [hBad, hTake, hin]; done))
      | (refine fin _ _ _ es' n' ?_ hK' ?_ ?_ ?_ ?_ ?_ ?_ ?_ ?_ ?_ <;> first | rfl | (rw [hst]; simp [hBad, hTake, hin]; done))
      | ((suffices hF : homesB L = false by (rw [hF] at k; exact k _)); rw [hst]; simp [hBad, hTake]; done)
      | ((suffices hF : homesB L = false by (rw [hF] at k; exact k _)); rw [hst]; simp [hBad, hTake, hin]; done)
  · have : j = 0 := by omega
    subst this
    conv => whnf
    have hT : homesB L = true := by rw [hh]; rfl
    rw [hT] at k
    exact k _
def anyR (_ : Ring) : Prop := True
def mayR (r : Ring) : Prop := r.c.may
def dirtyG (r : Ring) : AV := .int .i64 ((dirtyL r.l.live).length : Int)
def homesGv (r : Ring) : AV := .bool (homesB r.l.live)
theorem dirtyO_ok {P : Program} {e : Env} {fn : Func} (hE : EnvOk P e) (hm : P.follows .mixedOrders = true) (hf : P.funcs[125]? = some fn) (hc : compF P fn = some a125) (hb : HasBody P 125) : OvOk P 125 (ringO anyR dirtyG) :=
  ringO_ok hb (fun r => rfl) fun r v hr _ hv => C.of_V hE hm hf hc (dirty_run P e hE hm r hr v hv _ (fun s => rfl))
theorem homesO_ok {P : Program} {e : Env} {fn fn' : Func} (hE : EnvOk P e) (hm : P.follows .mixedOrders = true) (h159 : Inl e 159 code159 [.tmp 2]) (hf' : P.funcs[169]? = some fn') (hc' : compF P fn' = some a169) (hb' : HasBody P 169) (hf : P.funcs[123]? = some fn) (hc : compF P fn = some a123) (hb : HasBody P 123) : OvOk P 123 (ringO anyR homesGv) :=
  ringO_ok hb (fun r => rfl) fun r v hr _ hv => C.of_V hE hm hf hc (homes_run P e hE hm h159 hf' hc' hb' r hr v hv _ (fun s => rfl))
theorem dAdd_length (k : Int) (l : List Int) : (dAdd k l).length ≤ l.length + 1 := by
  unfold dAdd; split <;> simp
theorem dStep_length (l : List Int) (x : Lv) : (dStep l x).length ≤ l.length + 1 := by
  unfold dStep
  have := dAdd_length x.stripe l
  split
  · have h2 := List.length_erase_le (a := x.stripe) (l := dAdd x.stripe l); omega
  · exact this
theorem dirtyL_length (L : List Lv) : (dirtyL L).length ≤ L.length := by
  unfold dirtyL
  have : ∀ (L : List Lv) (l : List Int), (L.foldl dStep l).length ≤ l.length + L.length := by
    intro L
    induction L with
    | nil => intro l; simp
    | cons x L ih => intro l; have := ih (dStep l x); have := dStep_length l x; simp at *; omega
  simpa using this L []
def roomB (r : Ring) : Bool := decide (r.l.used ≤ r.c.log) && decide ((r.c.members + 1) * ((dirtyL r.l.live).length : Int) ≤ IntKind.i64.wrap (r.c.log - r.l.used))
theorem roomO_ok {P : Program} {e : Env} {fn : Func} (hE : EnvOk P e) (hm : P.follows .mixedOrders = true) (h53 : Con e 53 needF.O) (h125 : Con e 125 (ringO anyR dirtyG)) (hf : P.funcs[81]? = some fn) (hc : compF P fn = some a81) (hb : HasBody P 81) : OvOk P 81 (ringO mayR (fun r => .bool (roomB r))) := by
  refine ringO_ok hb (fun r => rfl) fun r v hr hp hv => C.of_V hE hm hf hc ?_
  have hd : (dirtyL r.l.live).length ≤ 1000 := Nat.le_trans (dirtyL_length _) hr.l.len
  have hM : r.c.may := hp
  unfold mayR Cfg.may at hp
  have hv' := hr.c
  conv => whnf
  refine ETake.eq rfl ?_
  conv => whnf
  refine ESc.fam needF h53 r.c hv' (u := .tup [.int .i64 (r.c.members + 1), .int .i64 0]) (by simp [needF, hM]) ?_
  conv => whnf
  repeat' (first | (refine EHead.mk rfl ?_; conv => whnf) | (refine EPrim.sub (q := .i64) rfl rfl ?_; conv => whnf) | (refine ESc.ov h125 (ringO_run (RAt.fp hv hr) trivial) ?_; conv => whnf) | (refine EPrim.mulS rfl rfl (mul_small (by omega) (by omega)) ?_; conv => whnf) | ((first | refine w1 rfl rfl ?_ ?_ | refine w2 rfl rfl ?_ ?_ | refine w3 rfl rfl ?_ ?_ | refine w4 rfl rfl ?_ ?_ | refine w5 rfl rfl ?_ ?_ | refine w6 rfl rfl ?_ ?_) <;> intro _ <;> first | (exfalso; omega) | (conv => whnf)) | ((first | refine w7 rfl rfl (by omega) ?_ | refine w8 rfl rfl (by omega) ?_ | refine w9 rfl rfl (by omega) ?_ | refine w10 rfl rfl ?_ | refine w11 rfl rfl ?_ | refine w12 rfl ?_ | refine w13 rfl ?_ | refine w14 (q' := .i64) rfl (i64_in (by omega)) ?_ | refine w14 (q' := .u32) rfl (u32_in (by omega)) ?_ | refine w14 (q' := .u8) rfl (u8_in (by omega)) ?_ | refine w15 rfl rfl ?_ | refine w16 rfl ?_ | refine w17 rfl ?_ | refine w18 rfl ?_ | refine ⟨rfl, ?_⟩); conv => whnf) | (refine w19 rfl ?_ ?_ <;> intro hc <;> (try subst hc) <;> conv => whnf))
  all_goals
    show AV.bool _ = AV.bool (roomB r)
    unfold roomB
    congr 1
    symm
    simp only [Bool.and_eq_true, Bool.and_eq_false_iff, decide_eq_true_eq, decide_eq_false_iff_not]
    omega
end Go.AM

set_option linter.unusedVariables false
set_option maxRecDepth 100000
namespace Go.AM
attribute [local irreducible] W
open X
def code122 : AC := match a122 with | .mk c _ => c
def code79 : AC := match a79 with | .mk c _ => c
theorem number_run (e : Env) (s : St) (n : Int) (K : AV → St → Prop) (h : K (.bool (numB n)) s) : VE e code122 (initT [.int .u32 n] 0 .lf) s none [] (EEnd [.tmp 2] K) := by
  unfold numB at h
  conv => whnf
  repeat' (first | ((first | refine w1 rfl rfl ?_ ?_ | refine w2 rfl rfl ?_ ?_ | refine w3 rfl rfl ?_ ?_ | refine w4 rfl rfl ?_ ?_ | refine w5 rfl rfl ?_ ?_ | refine w6 rfl rfl ?_ ?_) <;> intro _ <;> first | (exfalso; omega) | (conv => whnf)) | ((first | refine w7 rfl rfl (by omega) ?_ | refine w8 rfl rfl (by omega) ?_ | refine w9 rfl rfl (by omega) ?_ | refine w10 rfl rfl ?_ | refine w11 rfl rfl ?_ | refine w12 rfl ?_ | refine w13 rfl ?_ | refine w14 (q' := .i64) rfl (i64_in (by omega)) ?_ | refine w14 (q' := .u32) rfl (u32_in (by omega)) ?_ | refine w14 (q' := .u8) rfl (u8_in (by omega)) ?_ | refine w15 rfl rfl ?_ | refine w16 rfl ?_ | refine w17 rfl ?_ | refine w18 rfl ?_ | refine ⟨rfl, ?_⟩); conv => whnf) | (refine w19 rfl ?_ ?_ <;> intro hc <;> (try subst hc) <;> conv => whnf))
  · rw [decide_eq_true (by omega)] at h; exact h
  · rw [decide_eq_false (by omega)] at h; exact h
  · rw [decide_eq_false (by omega)] at h; exact h
def lvBad (r : Ring) (i : Nat) (sure : Bool) (x : Lv) : Prop :=
  x.stripe < 0 ∨ r.c.chunk * r.c.rows ≤ x.stripe ∨ x.blocks < 2 ∨ r.c.members + 1 < x.blocks ∨ x.seq = 0 ∨ x.seq ≠ (r.l.seq - ((r.l.live.length : Int) - i)) % 4294967296 ∨ (x.sure = true ∧ sure = false)
instance (r : Ring) (i : Nat) (sure : Bool) (x : Lv) : Decidable (lvBad r i sure x) := by unfold lvBad; infer_instance
def rightL (r : Ring) : Nat → Int → Bool → List Lv → Option Int
  | _, u, _, [] => some u
  | i, u, s, x :: l => if lvBad r i s x then none else rightL r (i + 1) (u + x.blocks) x.sure l
def topB (r : Ring) : Prop := numB r.l.age = true ∧ numB r.l.seq = true ∧ 0 ≤ r.l.tail ∧ r.l.tail < r.c.log ∧ (r.l.live.length : Int) ≤ r.c.log ∧ r.l.used ≤ r.c.log
instance (r : Ring) : Decidable (topB r) := by unfold topB; infer_instance
def rightB (r : Ring) : Bool := decide (topB r) && (match rightL r 0 0 true r.l.live with
  | none => false
  | some u => decide (u = r.l.used) && decide ((r.l.live.length : Int) < r.l.seq) && homesB r.l.live && roomB r)
theorem right_run (P : Program) (e : Env) (hE : EnvOk P e) (hm : P.follows .mixedOrders = true) (h38 : Con e 38 stripesF.O) (h53 : Con e 53 needF.O) (h122 : Inl e 122 code122 [.tmp 2]) (h123 : Con e 123 (ringO anyR homesGv)) (h81 : Con e 81 (ringO mayR (fun r => .bool (roomB r)))) (r : Ring) (hr : r.ok) (hM : r.c.may) (v : AV) (hv : LSl r.l.live v) (Q : AV → St → Prop) (k : ∀ s, Q (.bool (rightB r)) s) :
    VW P e 0 code79 (initT [.fp (r.cs v)] 0 .lf) St0 none [] (EEnd [.tmp 2] Q) := by
  have hp := hM
  unfold Cfg.may at hp
  have hlog := Cfg.may_log hM
  have hlen := hr.l.len
  have kF : rightB r = false → ∀ s, Q (.bool false) s := fun h s => by have := k s; rw [h] at this; exact this
  have topF : ¬ topB r → ∀ s, Q (.bool false) s := fun h => kF (by unfold rightB; rw [decide_eq_false h]; rfl)
  conv => whnf
  refine ETake.eq rfl ?_
  conv => whnf
  refine ESc.fam stripesF h38 r.c hr.c (u := .tup [.int .i64 (r.c.chunk * r.c.rows), .int .i64 0]) (by simp [stripesF, hM]) ?_
  conv => whnf
  refine ETake.eq rfl ?_
  conv => whnf
  refine ESc.fam needF h53 r.c hr.c (u := .tup [.int .i64 (r.c.members + 1), .int .i64 0]) (by simp [needF, hM]) ?_
  conv => whnf
  refine EHead.mk rfl ?_
  conv => whnf
  refine ESc.inl h122 (number_run e _ r.l.age _ ?_)
  cases hA : numB r.l.age <;> conv => whnf
  · repeat' (first | ((first | refine w1 rfl rfl ?_ ?_ | refine w2 rfl rfl ?_ ?_ | refine w3 rfl rfl ?_ ?_ | refine w4 rfl rfl ?_ ?_ | refine w5 rfl rfl ?_ ?_ | refine w6 rfl rfl ?_ ?_) <;> intro _ <;> first | (exfalso; omega) | (conv => whnf)) | ((first | refine w7 rfl rfl (by omega) ?_ | refine w8 rfl rfl (by omega) ?_ | refine w9 rfl rfl (by omega) ?_ | refine w10 rfl rfl ?_ | refine w11 rfl rfl ?_ | refine w12 rfl ?_ | refine w13 rfl ?_ | refine w14 (q' := .i64) rfl (i64_in (by omega)) ?_ | refine w14 (q' := .u32) rfl (u32_in (by omega)) ?_ | refine w14 (q' := .u8) rfl (u8_in (by omega)) ?_ | refine w15 rfl rfl ?_ | refine w16 rfl ?_ | refine w17 rfl ?_ | refine w18 rfl ?_ | refine ⟨rfl, ?_⟩); conv => whnf) | (refine w19 rfl ?_ ?_ <;> intro hc <;> (try subst hc) <;> conv => whnf))
    exact topF (by unfold topB; rw [hA]; simp) _
  repeat' (first | (refine EHead.mk rfl ?_; conv => whnf) | ((first | refine w1 rfl rfl ?_ ?_ | refine w2 rfl rfl ?_ ?_ | refine w3 rfl rfl ?_ ?_ | refine w4 rfl rfl ?_ ?_ | refine w5 rfl rfl ?_ ?_ | refine w6 rfl rfl ?_ ?_) <;> intro _ <;> first | (exfalso; omega) | (conv => whnf)) | ((first | refine w7 rfl rfl (by omega) ?_ | refine w8 rfl rfl (by omega) ?_ | refine w9 rfl rfl (by omega) ?_ | refine w10 rfl rfl ?_ | refine w11 rfl rfl ?_ | refine w12 rfl ?_ | refine w13 rfl ?_ | refine w14 (q' := .i64) rfl (i64_in (by omega)) ?_ | refine w14 (q' := .u32) rfl (u32_in (by omega)) ?_ | refine w14 (q' := .u8) rfl (u8_in (by omega)) ?_ | refine w15 rfl rfl ?_ | refine w16 rfl ?_ | refine w17 rfl ?_ | refine w18 rfl ?_ | refine ⟨rfl, ?_⟩); conv => whnf) | (refine w19 rfl ?_ ?_ <;> intro hc <;> (try subst hc) <;> conv => whnf))
  refine ESc.inl h122 (number_run e _ r.l.seq _ ?_)
  cases hS : numB r.l.seq <;> conv => whnf
  · repeat' (first | ((first | refine w1 rfl rfl ?_ ?_ | refine w2 rfl rfl ?_ ?_ | refine w3 rfl rfl ?_ ?_ | refine w4 rfl rfl ?_ ?_ | refine w5 rfl rfl ?_ ?_ | refine w6 rfl rfl ?_ ?_) <;> intro _ <;> first | (exfalso; omega) | (conv => whnf)) | ((first | refine w7 rfl rfl (by omega) ?_ | refine w8 rfl rfl (by omega) ?_ | refine w9 rfl rfl (by omega) ?_ | refine w10 rfl rfl ?_ | refine w11 rfl rfl ?_ | refine w12 rfl ?_ | refine w13 rfl ?_ | refine w14 (q' := .i64) rfl (i64_in (by omega)) ?_ | refine w14 (q' := .u32) rfl (u32_in (by omega)) ?_ | refine w14 (q' := .u8) rfl (u8_in (by omega)) ?_ | refine w15 rfl rfl ?_ | refine w16 rfl ?_ | refine w17 rfl ?_ | refine w18 rfl ?_ | refine ⟨rfl, ?_⟩); conv => whnf) | (refine w19 rfl ?_ ?_ <;> intro hc <;> (try subst hc) <;> conv => whnf))
    exact topF (by unfold topB; rw [hS]; simp) _
  repeat' (first | (refine EHead.mk rfl ?_; conv => whnf) | (refine EPrim.lenZ rfl hv ?_; conv => whnf) | ((first | refine w1 rfl rfl ?_ ?_ | refine w2 rfl rfl ?_ ?_ | refine w3 rfl rfl ?_ ?_ | refine w4 rfl rfl ?_ ?_ | refine w5 rfl rfl ?_ ?_ | refine w6 rfl rfl ?_ ?_) <;> intro _ <;> first | (exfalso; omega) | (conv => whnf)) | ((first | refine w7 rfl rfl (by omega) ?_ | refine w8 rfl rfl (by omega) ?_ | refine w9 rfl rfl (by omega) ?_ | refine w10 rfl rfl ?_ | refine w11 rfl rfl ?_ | refine w12 rfl ?_ | refine w13 rfl ?_ | refine w14 (q' := .i64) rfl (i64_in (by omega)) ?_ | refine w14 (q' := .u32) rfl (u32_in (by omega)) ?_ | refine w14 (q' := .u8) rfl (u8_in (by omega)) ?_ | refine w15 rfl rfl ?_ | refine w16 rfl ?_ | refine w17 rfl ?_ | refine w18 rfl ?_ | refine ⟨rfl, ?_⟩); conv => whnf) | (refine w19 rfl ?_ ?_ <;> intro hc <;> (try subst hc) <;> conv => whnf))
  iterate 4 (exact topF (by unfold topB; omega) _)
  have hT : topB r := by unfold topB; rw [hA, hS]; exact ⟨rfl, rfl, by omega, by omega, by omega, by omega⟩
  obtain ⟨L, hL⟩ : ∃ L, L = r.l.live := ⟨_, rfl⟩
  have hokL := hr.l.live
  have hB : rightB r = (match rightL r 0 0 true L with | none => false | some u => decide (u = r.l.used) && decide ((L.length : Int) < r.l.seq) && homesB L && roomB r) := by
    unfold rightB; rw [decide_eq_true hT, hL]; rfl
  rw [← hL] at hlen hv hokL
  refine W.loopS (α := Nat × Int × Bool) (fun x => [(0, .fp (r.cs v)), (3, .int .i64 (r.c.chunk * r.c.rows)), (5, .int .i64 (r.c.members + 1)), (7, .int .i64 x.2.1), (8, .bool x.2.2), (95, v), (96, .int .i64 (L.length : Int)), (97, .int .i64 (x.1 : Int))]) (fun x => []) (fun x => L.length - x.1)
    (fun x => x.1 ≤ L.length ∧ rightL r 0 0 true L = rightL r x.1 x.2.1 x.2.2 (L.drop x.1) ∧ 0 ≤ x.2.1 ∧ x.2.1 ≤ 17 * (x.1 : Int)) (0, 0, true) [] ⟨Nat.zero_le _, rfl, Int.le_refl _, Int.le_refl _⟩ ⟨by decide, ⟨⟨rfl, rfl⟩, ⟨rfl, rfl⟩, ⟨rfl, rfl⟩, ⟨rfl, rfl⟩, ⟨rfl, rfl⟩, ⟨hf_bd _ hv.hf, by rw [hf_mapV _ hv.hf]; rfl⟩, ⟨rfl, by rw [hL]; rfl⟩, ⟨rfl, rfl⟩, trivial⟩, trivial⟩ ?_
  rintro ⟨i, u, sr⟩ ⟨hi, hI, hu0, hu1⟩
  dsimp only at hi hI hu0 hu1 ⊢
  refine vw_sound hE hm ?_
  conv => whnf
  refine EPrim.lss2 rfl rfl (fun h => ?_) (fun h => ?_) <;> conv => whnf
  · have hlt : i < L.length := by omega
    refine EPrim.ixsS rfl hv rfl hlt ?_
    conv => whnf
    have hx6 := lvs_take hlt
    have hx := hokL L[i] (List.getElem_mem hlt)
    rw [List.drop_eq_getElem_cons hlt] at hI
    revert hI hx hx6
    generalize L[i] = x
    obtain ⟨sq, st, bl, pa, su, ho⟩ := x
    intro hI hx6 hx
    refine ETake.eq (cs := [.int .u32 sq, .int .i64 st, .int .i64 bl, .bool pa, .bool su, .bool ho]) hx6 ?_
    have bad : lvBad r i sr ⟨sq, st, bl, pa, su, ho⟩ → ∀ s, Q (.bool false) s := fun h => kF (by rw [hB, hI]; unfold rightL; rw [if_pos h])
    have go : ¬ lvBad r i sr ⟨sq, st, bl, pa, su, ho⟩ → rightL r 0 0 true L = rightL r (i + 1) (u + bl) su (L.drop (i + 1)) := fun h => by rw [hI]; conv => lhs; unfold rightL; rw [if_neg h]
    have fin : ¬ lvBad r i sr ⟨sq, st, bl, pa, su, ho⟩ → ∀ t s, t.get 0 = some (.fp (r.cs v)) → t.get 3 = some (.int .i64 (r.c.chunk * r.c.rows)) → t.get 5 = some (.int .i64 (r.c.members + 1)) → t.get 7 = some (.int .i64 (u + bl)) → t.get 8 = some (.bool su) → t.get 95 = some v → t.get 96 = some (.int .i64 (L.length : Int)) → t.get 97 = some (.int .i64 ((i : Int) + 1)) →
        ∃ x' : Nat × Int × Bool, (x'.1 ≤ L.length ∧ rightL r 0 0 true L = rightL r x'.1 x'.2.1 x'.2.2 (L.drop x'.1) ∧ 0 ≤ x'.2.1 ∧ x'.2.1 ≤ 17 * (x'.1 : Int)) ∧ L.length - x'.1 < L.length - i ∧ ∃ rs, Abs t s [(0, .fp (r.cs v)), (3, .int .i64 (r.c.chunk * r.c.rows)), (5, .int .i64 (r.c.members + 1)), (7, .int .i64 x'.2.1), (8, .bool x'.2.2), (95, v), (96, .int .i64 (L.length : Int)), (97, .int .i64 (x'.1 : Int))] [] rs := by
      intro hnb t s h0 h3 h5 h7 h8 h95 h96 h97
      have hnb' := hnb
      unfold lvBad at hnb'
      dsimp only at hnb'
      refine ⟨(i + 1, u + bl, su), ⟨hlt, go hnb, by simp; omega, by simp; omega⟩, by simp; omega, [], ⟨by decide, ⟨⟨rfl, h0⟩, ⟨rfl, h3⟩, ⟨rfl, h5⟩, ⟨rfl, h7⟩, ⟨rfl, h8⟩, ⟨hf_bd _ hv.hf, by rw [hf_mapV _ hv.hf]; exact h95⟩, ⟨rfl, h96⟩, ⟨rfl, h97⟩, trivial⟩, trivial⟩⟩
    have hsq : 0 ≤ sq ∧ sq < 4294967296 := hx.seq
    have hLL : L.length = r.l.live.length := by rw [hL]
    rw [hL] at hlen hlt hi h
    have hv' := hv
    rw [hL] at hv'
    unfold lvBad at bad fin
    dsimp only at bad fin
    conv => whnf
    repeat' (first | (refine EHead.mk rfl ?_; conv => whnf) | (refine EPrim.lenZ rfl hv' ?_; conv => whnf) | ((first | refine w1 rfl rfl ?_ ?_ | refine w2 rfl rfl ?_ ?_ | refine w3 rfl rfl ?_ ?_ | refine w4 rfl rfl ?_ ?_ | refine w5 rfl rfl ?_ ?_ | refine w6 rfl rfl ?_ ?_) <;> intro _ <;> first | (exfalso; omega) | (conv => whnf)) | ((first | refine w7 rfl rfl (by omega) ?_ | refine w8 rfl rfl (by omega) ?_ | refine w9 rfl rfl (by omega) ?_ | refine w10 rfl rfl ?_ | refine w11 rfl rfl ?_ | refine w12 rfl ?_ | refine w13 rfl ?_ | refine w14 (q' := .i64) rfl (i64_in (by omega)) ?_ | refine w14 (q' := .u32) rfl (u32_in (by omega)) ?_ | refine w14 (q' := .u8) rfl (u8_in (by omega)) ?_ | refine w15 rfl rfl ?_ | refine w16 rfl ?_ | refine w17 rfl ?_ | refine w18 rfl ?_ | refine ⟨rfl, ?_⟩); conv => whnf) | (refine w19 rfl ?_ ?_ <;> intro hc <;> (try subst hc) <;> conv => whnf))
    iterate 6 (refine bad ?_ _; omega)
    · cases sr
      · repeat' (first | ((first | refine w1 rfl rfl ?_ ?_ | refine w2 rfl rfl ?_ ?_ | refine w3 rfl rfl ?_ ?_ | refine w4 rfl rfl ?_ ?_ | refine w5 rfl rfl ?_ ?_ | refine w6 rfl rfl ?_ ?_) <;> intro _ <;> first | (exfalso; omega) | (conv => whnf)) | ((first | refine w7 rfl rfl (by omega) ?_ | refine w8 rfl rfl (by omega) ?_ | refine w9 rfl rfl (by omega) ?_ | refine w10 rfl rfl ?_ | refine w11 rfl rfl ?_ | refine w12 rfl ?_ | refine w13 rfl ?_ | refine w14 (q' := .i64) rfl (i64_in (by omega)) ?_ | refine w14 (q' := .u32) rfl (u32_in (by omega)) ?_ | refine w14 (q' := .u8) rfl (u8_in (by omega)) ?_ | refine w15 rfl rfl ?_ | refine w16 rfl ?_ | refine w17 rfl ?_ | refine w18 rfl ?_ | refine ⟨rfl, ?_⟩); conv => whnf) | (refine w19 rfl ?_ ?_ <;> intro hc <;> (try subst hc) <;> conv => whnf))
        refine bad ?_ _; simp
      · repeat' (first | ((first | refine w1 rfl rfl ?_ ?_ | refine w2 rfl rfl ?_ ?_ | refine w3 rfl rfl ?_ ?_ | refine w4 rfl rfl ?_ ?_ | refine w5 rfl rfl ?_ ?_ | refine w6 rfl rfl ?_ ?_) <;> intro _ <;> first | (exfalso; omega) | (conv => whnf)) | ((first | refine w7 rfl rfl (by omega) ?_ | refine w8 rfl rfl (by omega) ?_ | refine w9 rfl rfl (by omega) ?_ | refine w10 rfl rfl ?_ | refine w11 rfl rfl ?_ | refine w12 rfl ?_ | refine w13 rfl ?_ | refine w14 (q' := .i64) rfl (i64_in (by omega)) ?_ | refine w14 (q' := .u32) rfl (u32_in (by omega)) ?_ | refine w14 (q' := .u8) rfl (u8_in (by omega)) ?_ | refine w15 rfl rfl ?_ | refine w16 rfl ?_ | refine w17 rfl ?_ | refine w18 rfl ?_ | refine ⟨rfl, ?_⟩); conv => whnf) | (refine w19 rfl ?_ ?_ <;> intro hc <;> (try subst hc) <;> conv => whnf))
        refine fin ?_ _ _ ?_ ?_ ?_ ?_ ?_ ?_ ?_ ?_ <;> first | rfl | (simp; omega)
    · refine fin ?_ _ _ ?_ ?_ ?_ ?_ ?_ ?_ ?_ ?_ <;> first | rfl | (simp; omega)
  · have hd : L.drop i = [] := List.drop_eq_nil_of_le (by omega)
    rw [hd] at hI
    rw [hI] at hB
    have hBu : rightB r = (decide (u = r.l.used) && decide ((L.length : Int) < r.l.seq) && homesB L && roomB r) := by rw [hB]; rfl
    have hseq : 0 ≤ r.l.seq ∧ r.l.seq < 4294967296 := hr.l.seq
    have hRA : ∀ s, RAt s (.fp (r.cs v)) r v := fun s => RAt.fp (by rw [← hL]; exact hv) hr
    repeat' (first | (refine EHead.mk rfl ?_; conv => whnf) | (refine EPrim.lenZ rfl hv ?_; conv => whnf) | ((first | refine w1 rfl rfl ?_ ?_ | refine w2 rfl rfl ?_ ?_ | refine w3 rfl rfl ?_ ?_ | refine w4 rfl rfl ?_ ?_ | refine w5 rfl rfl ?_ ?_ | refine w6 rfl rfl ?_ ?_) <;> intro _ <;> first | (exfalso; omega) | (conv => whnf)) | ((first | refine w7 rfl rfl (by omega) ?_ | refine w8 rfl rfl (by omega) ?_ | refine w9 rfl rfl (by omega) ?_ | refine w10 rfl rfl ?_ | refine w11 rfl rfl ?_ | refine w12 rfl ?_ | refine w13 rfl ?_ | refine w14 (q' := .i64) rfl (i64_in (by omega)) ?_ | refine w14 (q' := .u32) rfl (u32_in (by omega)) ?_ | refine w14 (q' := .u8) rfl (u8_in (by omega)) ?_ | refine w15 rfl rfl ?_ | refine w16 rfl ?_ | refine w17 rfl ?_ | refine w18 rfl ?_ | refine ⟨rfl, ?_⟩); conv => whnf) | (refine w19 rfl ?_ ?_ <;> intro hc <;> (try subst hc) <;> conv => whnf))
    · refine ESc.ov h123 (ringO_run (hRA _) trivial) ?_
      have hg : homesGv r = .bool (homesB L) := by rw [hL]; rfl
      rw [hg]
      cases hH : homesB L
      · conv => whnf
        exact kF (by rw [hBu, hH]; simp) _
      · conv => whnf
        refine ESc.ov h81 (ringO_run (hRA _) hM) ?_
        cases hR : roomB r
        · conv => whnf
          exact kF (by rw [hBu, hR]; simp) _
        · conv => whnf
          have hT : rightB r = true := by rw [hBu, hH, hR, decide_eq_true (by omega), decide_eq_true (by omega)]; rfl
          rw [hT] at k; exact k _
    · exact kF (by rw [hBu, decide_eq_false (p := (L.length : Int) < r.l.seq) (by omega)]; simp) _
    · exact kF (by rw [hBu, decide_eq_false (p := u = r.l.used) (by omega)]; simp) _
theorem rightO_ok {P : Program} {e : Env} {fn : Func} (hE : EnvOk P e) (hm : P.follows .mixedOrders = true) (h38 : Con e 38 stripesF.O) (h53 : Con e 53 needF.O) (h122 : Inl e 122 code122 [.tmp 2]) (h123 : Con e 123 (ringO anyR homesGv)) (h81 : Con e 81 (ringO mayR (fun r => .bool (roomB r)))) (hf : P.funcs[79]? = some fn) (hc : compF P fn = some a79) (hb : HasBody P 79) : OvOk P 79 (ringO mayR (fun r => .bool (rightB r))) :=
  ringO_ok hb (fun r => rfl) fun r v hr hp hv => C.of_V hE hm hf hc (right_run P e hE hm h38 h53 h122 h123 h81 r hr hp v hv _ (fun s => rfl))
structure CL where
  c : Cfg
  l : Log
  v : AV
structure CL.ok (x : CL) : Prop where
  c : x.c.ok
  l : x.l.ok
  v : LSl x.l.live x.v
def CL.lv (x : CL) : AV := .agg (x.l.c x.v)
theorem CL.inj {x y : CL} (hx : x.ok) (hy : y.ok) (h1 : x.c.v = y.c.v) (h2 : x.lv = y.lv) : x = y := by
  obtain ⟨c, ⟨a1, a2, a3, a4, a5⟩, v⟩ := x
  obtain ⟨c', ⟨b1, b2, b3, b4, b5⟩, v'⟩ := y
  have e1 := Cfg.injv h1
  dsimp only at e1
  subst e1
  simp [CL.lv, Log.c] at h2
  obtain ⟨rfl, rfl, rfl, rfl, rfl⟩ := h2
  have := LSl.inj hx.v hy.v
  dsimp only at this
  subst this; rfl
def CL.ring (x : CL) : Ring := ⟨x.l, x.c⟩
def CL.good (x : CL) : Prop := x.c.may ∧ rightB x.ring = true
instance (x : CL) : Decidable x.good := by unfold CL.good; infer_instance
theorem CL.ringOk {x : CL} (h : x.ok) : x.ring.ok := ⟨h.l, h.c⟩
def CL.args (x : CL) : List AV := [x.c.v, x.lv]
theorem CL.inja {x y : CL} (hx : x.ok) (hy : y.ok) (h : x.args = y.args) : x = y := CL.inj hx hy (List.cons.inj h).1 (List.cons.inj (List.cons.inj h).2).1
def lchkF : Fam CL := ⟨CL.ok, CL.args, fun x => .int .i64 (if x.good then 0 else 8), fun x y hx hy h => by rw [CL.inja hx hy h]⟩
theorem CL.hfa {x : CL} (h : x.ok) : hfs x.args = true := by
  show (true && ((true && (true && (true && (true && (AM.hf x.v && true))))) && true)) = true
  rw [h.v.hf]; rfl
theorem lchkF_ok {P : Program} {e : Env} {fn : Func} (hE : EnvOk P e) (hm : P.follows .mixedOrders = true) (h78 : Con e 78 cfgF.O) (h79 : Con e 79 (ringO mayR (fun r => .bool (rightB r)))) (hf : P.funcs[33]? = some fn) (hc : compF P fn = some a33) (hb : HasBody P 33) : OvOk P 33 lchkF.O := by
  refine Fam.ok_of hb ?_
  intro x hx
  refine ⟨CL.hfa hx, rfl, C.of_V hE hm hf hc ?_⟩
  by_cases hM : x.c.may
  · have hR : ∀ (s : St) (q : Nat), s.get q = some (.row 141 (x.ring.cs x.v)) → RAt s (.ptr q 0) x.ring x.v := fun s q h =>
      ⟨.ptr q 0 141 _ _ _ h (fun i y hy => by rw [Nat.zero_add]; exact hy) (frz_self (hfs_ring _ hx.v)), hx.v, CL.ringOk hx⟩
    conv => whnf
    refine ESc.fam cfgF h78 x.c hx.c (u := .int .i64 0) (by simp [cfgF, hM]) ?_
    conv => whnf
    repeat' (first | ((first | refine w1 rfl rfl ?_ ?_ | refine w2 rfl rfl ?_ ?_ | refine w3 rfl rfl ?_ ?_ | refine w4 rfl rfl ?_ ?_ | refine w5 rfl rfl ?_ ?_ | refine w6 rfl rfl ?_ ?_) <;> intro _ <;> first | (exfalso; omega) | (conv => whnf)) | ((first | refine w7 rfl rfl (by omega) ?_ | refine w8 rfl rfl (by omega) ?_ | refine w9 rfl rfl (by omega) ?_ | refine w10 rfl rfl ?_ | refine w11 rfl rfl ?_ | refine w12 rfl ?_ | refine w13 rfl ?_ | refine w14 (q' := .i64) rfl (i64_in (by omega)) ?_ | refine w14 (q' := .u32) rfl (u32_in (by omega)) ?_ | refine w14 (q' := .u8) rfl (u8_in (by omega)) ?_ | refine w15 rfl rfl ?_ | refine w16 rfl ?_ | refine w17 rfl ?_ | refine w18 rfl ?_ | refine ⟨rfl, ?_⟩); conv => whnf) | (refine w19 rfl ?_ ?_ <;> intro hc <;> (try subst hc) <;> conv => whnf))
    refine ESc.ov h79 (ringO_run (hR _ _ rfl) hM) ?_
    cases hB : rightB x.ring
    · conv => whnf
      repeat' (first | ((first | refine w1 rfl rfl ?_ ?_ | refine w2 rfl rfl ?_ ?_ | refine w3 rfl rfl ?_ ?_ | refine w4 rfl rfl ?_ ?_ | refine w5 rfl rfl ?_ ?_ | refine w6 rfl rfl ?_ ?_) <;> intro _ <;> first | (exfalso; omega) | (conv => whnf)) | ((first | refine w7 rfl rfl (by omega) ?_ | refine w8 rfl rfl (by omega) ?_ | refine w9 rfl rfl (by omega) ?_ | refine w10 rfl rfl ?_ | refine w11 rfl rfl ?_ | refine w12 rfl ?_ | refine w13 rfl ?_ | refine w14 (q' := .i64) rfl (i64_in (by omega)) ?_ | refine w14 (q' := .u32) rfl (u32_in (by omega)) ?_ | refine w14 (q' := .u8) rfl (u8_in (by omega)) ?_ | refine w15 rfl rfl ?_ | refine w16 rfl ?_ | refine w17 rfl ?_ | refine w18 rfl ?_ | refine ⟨rfl, ?_⟩); conv => whnf) | (refine w19 rfl ?_ ?_ <;> intro hc <;> (try subst hc) <;> conv => whnf))
      rw [show lchkF.out x = .int .i64 8 by simp [lchkF, CL.good, hB]]
      exact .plain _ rfl
    · conv => whnf
      repeat' (first | ((first | refine w1 rfl rfl ?_ ?_ | refine w2 rfl rfl ?_ ?_ | refine w3 rfl rfl ?_ ?_ | refine w4 rfl rfl ?_ ?_ | refine w5 rfl rfl ?_ ?_ | refine w6 rfl rfl ?_ ?_) <;> intro _ <;> first | (exfalso; omega) | (conv => whnf)) | ((first | refine w7 rfl rfl (by omega) ?_ | refine w8 rfl rfl (by omega) ?_ | refine w9 rfl rfl (by omega) ?_ | refine w10 rfl rfl ?_ | refine w11 rfl rfl ?_ | refine w12 rfl ?_ | refine w13 rfl ?_ | refine w14 (q' := .i64) rfl (i64_in (by omega)) ?_ | refine w14 (q' := .u32) rfl (u32_in (by omega)) ?_ | refine w14 (q' := .u8) rfl (u8_in (by omega)) ?_ | refine w15 rfl rfl ?_ | refine w16 rfl ?_ | refine w17 rfl ?_ | refine w18 rfl ?_ | refine ⟨rfl, ?_⟩); conv => whnf) | (refine w19 rfl ?_ ?_ <;> intro hc <;> (try subst hc) <;> conv => whnf))
      rw [show lchkF.out x = .int .i64 0 by simp [lchkF, CL.good, hB, hM]]
      exact .plain _ rfl
  · rw [show lchkF.out x = .int .i64 8 by simp [lchkF, CL.good, hM]]
    conv => whnf
    refine ESc.fam cfgF h78 x.c hx.c (u := .int .i64 8) (by simp [cfgF, hM]) ?_
    conv => whnf
    repeat' (first | ((first | refine w1 rfl rfl ?_ ?_ | refine w2 rfl rfl ?_ ?_ | refine w3 rfl rfl ?_ ?_ | refine w4 rfl rfl ?_ ?_ | refine w5 rfl rfl ?_ ?_ | refine w6 rfl rfl ?_ ?_) <;> intro _ <;> first | (exfalso; omega) | (conv => whnf)) | ((first | refine w7 rfl rfl (by omega) ?_ | refine w8 rfl rfl (by omega) ?_ | refine w9 rfl rfl (by omega) ?_ | refine w10 rfl rfl ?_ | refine w11 rfl rfl ?_ | refine w12 rfl ?_ | refine w13 rfl ?_ | refine w14 (q' := .i64) rfl (i64_in (by omega)) ?_ | refine w14 (q' := .u32) rfl (u32_in (by omega)) ?_ | refine w14 (q' := .u8) rfl (u8_in (by omega)) ?_ | refine w15 rfl rfl ?_ | refine w16 rfl ?_ | refine w17 rfl ?_ | refine w18 rfl ?_ | refine ⟨rfl, ?_⟩); conv => whnf) | (refine w19 rfl ?_ ?_ <;> intro hc <;> (try subst hc) <;> conv => whnf))
    exact .plain _ rfl
end Go.AM

set_option linter.unusedVariables false
set_option maxRecDepth 100000
namespace Go.AM
attribute [local irreducible] W
open X
theorem W.loop0 {P : Program} {e : Env} (hE : EnvOk P e) (hm : P.follows .mixedOrders = true) {k : Nat} {rd : Option Nat} {a : AC} {t : AT} {s : St} {ds : List Nat} {Q : EQ} (h : VW P e k a t s rd ds (Bhd (fun _ _ _ => False) Q)) : W P k rd (.loop a) t s ds Q := by
  refine W.loop (fun n t' s' ds' => n = 0 ∧ t' = t ∧ s' = s ∧ ds' = ds) 0 ⟨rfl, rfl, rfl, rfl⟩ ?_
  rintro n t' s' ds' ⟨rfl, rfl, rfl, rfl⟩
  refine (vw_sound hE hm h).mono ?_
  intro x t s ds hq
  cases x with
  | normal => exact (show False from hq).elim
  | exit id => exact hq
  | ret => exact hq
theorem lvs_set : ∀ {L : List Lv} {i j : Nat} {w : AV} {y : Lv} (h : i < L.length), j < 6 → y.c = L[i].c.set j w → (lvs L).set (i * 6 + j) w = lvs (L.set i y)
  | [], i, j, w, y, h, _, _ => by simp at h
  | x :: L, 0, j, w, y, h, hj, hy => by
    rw [List.set_cons_zero, lvs_cons, lvs_cons, List.set_append, if_pos (by show 0 * 6 + j < 6; omega), Nat.zero_mul, Nat.zero_add]
    rw [hy]; rfl
  | x :: L, i + 1, j, w, y, h, hj, hy => by
    rw [List.set_cons_succ, lvs_cons, lvs_cons, List.set_append, if_neg (by show ¬ (i + 1) * 6 + j < 6; omega)]
    rw [← lvs_set (L := L) (i := i) (j := j) (w := w) (y := y) (by simpa using h) hj hy]
    congr 2
    show (i + 1) * 6 + j - 6 = _; omega
theorem lvs_get {L : List Lv} {i j : Nat} (h : i < L.length) (hj : j < 6) : (lvs L)[i * 6 + j]? = L[i].c[j]? := by
  have h1 : ((lvs L).drop (i * 6))[j]? = (lvs L)[i * 6 + j]? := by rw [List.getElem?_drop]
  rw [← h1, lvs_drop, List.drop_eq_getElem_cons h, lvs_cons, List.getElem?_append_left (by exact hj)]
theorem store_lvs {s : St} {r e : Nat} {L : List Lv} {i j : Nat} {w : AV} {y : Lv} (hs : s.get r = some (.row e (lvs L))) (h : i < L.length) (hj : j < 6) (hy : y.c = L[i].c.set j w) : storeAt r (i * 6 + j) [w] s = some (s.put r (.row e (lvs (L.set i y)))) := by
  rw [store_of hs (by rw [lvs_length]; simp; omega), ← lvs_set h hj hy, List.set_eq_take_append_cons_drop, if_pos (by rw [lvs_length]; omega)]
  simp
theorem load_lvs {s : St} {r e : Nat} {L : List Lv} {i j : Nat} (hs : s.get r = some (.row e (lvs L))) (h : i < L.length) (hj : j < 6) : load1 r (i * 6 + j) s = L[i].c[j]? := by
  unfold load1; rw [rowAt_of hs]
  show getL (lvs L) (i * 6 + j) = _
  rw [getL_eq, lvs_get h hj]
def lvV (v : AV) (L : List Lv) : AV := match v, L with
  | .nils, _ => .nils
  | _, [] => .fz 0 (some 0) []
  | _, x :: L => .fz (x :: L).length none (lvs (x :: L))
theorem lvV_sl {L M : List Lv} {v : AV} (h : LSl L v) (hl : M.length = L.length) : LSl M (lvV v M) := by
  rcases h with ⟨rfl, h0, _⟩ | ⟨rfl, h0, _⟩ | ⟨c, rfl, h0⟩
  · have : M = [] := List.length_eq_zero_iff.1 (by omega)
    subst this; exact .inl ⟨rfl, rfl, rfl⟩
  · have : M = [] := List.length_eq_zero_iff.1 (by omega)
    subst this; exact .inr (.inr ⟨_, rfl, rfl⟩)
  · cases M with
    | nil => exact .inr (.inr ⟨_, rfl, rfl⟩)
    | cons x M => exact .inr (.inr ⟨_, rfl, lvs_length _⟩)
theorem lvV_hf {M : List Lv} {v : AV} : AM.hf (lvV v M) = true := by
  unfold lvV; split <;> rfl
theorem LSl.cases {L : List Lv} {v : AV} (h : LSl L v) : (L = [] ∧ v = .nils) ∨ (L = [] ∧ v = .es) ∨ (L = [] ∧ ∃ c, v = .fz 0 c []) ∨ (∃ x M c, L = x :: M ∧ v = .fz (M.length + 1) c (lvs (x :: M))) := by
  rcases h with ⟨rfl, h0, _⟩ | ⟨rfl, h0, _⟩ | ⟨c, rfl, h0⟩
  · exact .inl ⟨List.length_eq_zero_iff.1 h0, rfl⟩
  · exact .inr (.inl ⟨List.length_eq_zero_iff.1 h0, rfl⟩)
  · cases L with
    | nil => exact .inr (.inr (.inl ⟨rfl, c, rfl⟩))
    | cons x M => exact .inr (.inr (.inr ⟨x, M, c, rfl, rfl⟩))
section
variable {t : AT} {s : St} {k : AV → St → Prop} {x y : AO}
theorem EPrim.app0 {el es r : Nat} {v : AV} (hx : ev x t = .some (.sl r 0 0 (some 0))) (hy : ev y t = .some v) (hv : srcOf es v s = some []) (hk : k (.sl r 0 0 (some 0)) s) : EPrim (.app el es x y) t s k := by
  refine EPrim.mk (fun e rec => ?_) hk
  show wth x t _ = _; unfold wth; rw [hx]
  show wth y t _ = _; unfold wth; rw [hy]
  show (Option.rec .fail _ (srcOf es v s) : RV) = _
  rw [hv]; rfl
theorem EPrim.app1 {el es r m : Nat} {v : AV} {c : AV} {cs : List AV} (hx : ev x t = .some (.sl r 0 0 (some 0))) (hy : ev y t = .some v) (hv : srcOf es v s = some (c :: cs)) (hr : s.get r = some (.row el [])) (hm : (c :: cs).length / es = m) (h0 : 0 < m) (h1 : m ≤ 1000000) (hk : k (.sl s.next 0 m none) (s.alloc (.row el (c :: cs)))) : EPrim (.app el es x y) t s k := by
  refine EPrim.mk (fun e rec => ?_) hk
  show wth x t _ = _; unfold wth; rw [hx]
  show wth y t _ = _; unfold wth; rw [hy]
  show (Option.rec .fail _ (srcOf es v s) : RV) = _
  rw [hv]
  show AM.app1 el es (c :: cs) (Nat.div (lenL (c :: cs)) es) r 0 0 (some 0) s = _
  unfold AM.app1
  rw [lenL_eq, show Nat.div (c :: cs).length es = m from hm, show Nat.mul 0 es = 0 from Nat.zero_mul es, load_of hr (by simp)]
  show (Bool.rec (appNew el (0 + m) (appL [] (c :: cs)) s) _ (Nat.ble (0 + m) 0) : RV) = _
  rw [Nat.zero_add, show Nat.ble m 0 = false by rw [← Bool.not_eq_true]; intro e; have := Nat.le_of_ble_eq_true e; omega]
  show gd (Nat.ble m 1000000) _ = _
  rw [Nat.ble_eq_true_of_le h1]; rfl
end
def code124 : AC := match a124 with | .mk c _ => c
def code85 : AC := match a85 with | .mk c _ => c
def onL (n : Nat) (x : CL) : List AObj := match x.v, x.l.live with
  | .nils, _ => [.row 141 (x.ring.cs .nils)]
  | _, [] => [.row 141 (x.ring.cs (.sl (1 + n) 0 0 (some 0))), .row 62 []]
  | _, y :: M => [.row 141 (x.ring.cs (.sl (1 + n) 0 (M.length + 1) none)), .row 62 (lvs (y :: M))]
noncomputable def onO : Ov := fun args s => open Classical in if h : ∃ x : CL, x.ok ∧ args = x.args then (if (Classical.choose h).good then .ok (.tup [.ptr (0 + s.next) 0, .int .i64 0]) (allocs s (onL s.next (Classical.choose h))) else .ok (.tup [.nilp, .int .i64 8]) s) else .fail
theorem onO_run {x : CL} (hx : x.ok) (s : St) : onO x.args s = if x.good then .ok (.tup [.ptr (0 + s.next) 0, .int .i64 0]) (allocs s (onL s.next x)) else .ok (.tup [.nilp, .int .i64 8]) s := by
  have h : ∃ y : CL, y.ok ∧ x.args = y.args := ⟨x, hx, rfl⟩
  unfold onO
  rw [dif_pos h]
  obtain ⟨h1, h2⟩ := Classical.choose_spec h
  rw [← CL.inja hx h1 h2]
theorem eqbNil {t : AT} {s : St} {k : AV → St → Prop} {x y : AO} {v : AV} (hx : ev x t = .some v) (hy : ev y t = .some .nils) (h : v = .es ∨ ∃ n c l, v = .fz n c l) (hk : k (.bool false) s) : EPrim (.eqb 2 false x y) t s k := by
  refine EPrim.mk (v := .bool false) (s' := s) (fun e rec => ?_) hk
  show wth x t _ = _; unfold wth; rw [hx]
  show wth y t _ = _; unfold wth; rw [hy]
  rcases h with rfl | ⟨n, c, l, rfl⟩ <;> rfl
theorem eqbNil0 {t : AT} {s : St} {k : AV → St → Prop} {x y : AO} (hx : ev x t = .some .nils) (hy : ev y t = .some .nils) (hk : k (.bool true) s) : EPrim (.eqb 2 false x y) t s k := by
  refine EPrim.mk (v := .bool true) (s' := s) (fun e rec => ?_) hk
  show wth x t _ = _; unfold wth; rw [hx]
  show wth y t _ = _; unfold wth; rw [hy]; rfl
theorem onO_ok {P : Program} {e : Env} {fn : Func} (hE : EnvOk P e) (hm : P.follows .mixedOrders = true) (h33 : Con e 33 lchkF.O) (h124 : Inl e 124 code124 [.cells 2 5]) (h85 : Inl e 85 code85 [.tmp 2]) (hf : P.funcs[80]? = some fn) (hc : compF P fn = some a80) (hb : HasBody P 80) : OvOk P 80 onO := by
  refine ⟨hb, fun args s v s' hh => ?_⟩
  have hx0 : ∃ x : CL, x.ok ∧ args = x.args := by
    unfold onO at hh
    split at hh
    · rename_i h; exact h
    · cases hh
  obtain ⟨x, hx, rfl⟩ := hx0
  rw [onO_run hx] at hh
  have hlen := hx.l.len
  by_cases hG : x.good
  · rw [if_pos hG] at hh
    cases hh
    have key : C P 80 x.args St0 (fun v s' => v = .tup [.ptr 0 0, .int .i64 0] ∧ s' = allocs St0 (onL 0 x)) := by
      refine C.abs (C.of_V hE hm hf hc ?_)
      obtain ⟨c, ⟨ag, sq, tl, us, L⟩, v⟩ := x
      have hv := hx.v
      dsimp only at hv hlen
      conv => whnf
      refine ESc.fam lchkF h33 ⟨c, ⟨ag, sq, tl, us, L⟩, v⟩ hx (u := .int .i64 0) (by simp [lchkF, hG]) ?_
      conv => whnf
      repeat' (first | (refine ESc.inl h124 ?_; conv => whnf) | (refine ESc.inl h85 ?_; conv => whnf) | ((first | refine w1 rfl rfl ?_ ?_ | refine w2 rfl rfl ?_ ?_ | refine w3 rfl rfl ?_ ?_ | refine w4 rfl rfl ?_ ?_ | refine w5 rfl rfl ?_ ?_ | refine w6 rfl rfl ?_ ?_) <;> intro _ <;> first | (exfalso; omega) | (conv => whnf)) | ((first | refine w7 rfl rfl (by omega) ?_ | refine w8 rfl rfl (by omega) ?_ | refine w9 rfl rfl (by omega) ?_ | refine w10 rfl rfl ?_ | refine w11 rfl rfl ?_ | refine w12 rfl ?_ | refine w13 rfl ?_ | refine w14 (q' := .i64) rfl (i64_in (by omega)) ?_ | refine w14 (q' := .u32) rfl (u32_in (by omega)) ?_ | refine w14 (q' := .u8) rfl (u8_in (by omega)) ?_ | refine w15 rfl rfl ?_ | refine w16 rfl ?_ | refine w17 rfl ?_ | refine w18 rfl ?_ | refine ⟨rfl, ?_⟩); conv => whnf) | (refine w19 rfl ?_ ?_ <;> intro hc <;> (try subst hc) <;> conv => whnf))
      rcases hv.cases with ⟨rfl, rfl⟩ | ⟨rfl, rfl⟩ | ⟨rfl, cp, rfl⟩ | ⟨y, M, cp, rfl, rfl⟩
      · refine eqbNil0 rfl rfl ?_
        conv => whnf
        refine ⟨rfl, ?_⟩
        conv => whnf
        refine ⟨[4], ⟨by decide, ⟨⟨rfl, rfl⟩, trivial⟩, ⟨⟨rfl, rfl⟩, trivial⟩⟩⟩
      · refine eqbNil rfl rfl (.inl rfl) ?_
        conv => whnf
        refine EPrim.app0 rfl rfl rfl ?_
        conv => whnf
        refine ⟨rfl, ?_⟩
        conv => whnf
        refine ⟨[5, 4], ⟨by decide, ⟨⟨rfl, rfl⟩, trivial⟩, ⟨⟨rfl, rfl⟩, ⟨rfl, rfl⟩, trivial⟩⟩⟩
      · refine eqbNil rfl rfl (.inr ⟨_, _, _, rfl⟩) ?_
        conv => whnf
        refine EPrim.app0 rfl rfl rfl ?_
        conv => whnf
        refine ⟨rfl, ?_⟩
        conv => whnf
        refine ⟨[5, 4], ⟨by decide, ⟨⟨rfl, rfl⟩, trivial⟩, ⟨⟨rfl, rfl⟩, ⟨rfl, rfl⟩, trivial⟩⟩⟩
      · refine eqbNil rfl rfl (.inr ⟨_, _, _, rfl⟩) ?_
        conv => whnf
        have hl1 : (lvs (y :: M)).length = (M.length + 1) * 6 := lvs_length (y :: M)
        refine EPrim.app1 (c := .int .u32 y.seq) (cs := (lvs (y :: M)).tail) (m := M.length + 1) rfl rfl ?_ rfl ?_ (by omega) (by simp at hlen; omega) ?_
        · show takeL ((M.length + 1) * 6) (lvs (y :: M)) = _
          rw [takeL_of (by omega), List.take_of_length_le (by omega)]; rfl
        · show (lvs (y :: M)).length / 6 = _
          rw [hl1]; omega
        conv => whnf
        refine ⟨rfl, ?_⟩
        conv => whnf
        refine ⟨[6, 5], ⟨by decide, ⟨⟨rfl, rfl⟩, trivial⟩, ⟨⟨rfl, rfl⟩, ⟨?_, ?_⟩, trivial⟩⟩⟩
        · exact hfs_bds _ (hfs_lvs (y :: M))
        · show _ = some (AObj.row 62 (mapVs _ (lvs (y :: M)))); rw [hfs_mapVs _ (hfs_lvs (y :: M))]; rfl
    have hfr := C.frame (l := onL 0 x) (u := .tup [.ptr 0 0, .int .i64 0]) (CL.hfa hx) ?_ ?_ key ?_ s
    · refine hfr.mono ?_
      rintro v s' ⟨rfl, rfl⟩
      refine ⟨rfl, ?_⟩
      congr 1
      unfold onL
      split
      · rfl
      · rfl
      · show [_, AObj.row 62 (mapVs _ (lvs (_ :: _)))] = _
        rw [hfs_mapVs _ (hfs_lvs _)]; rfl
    · unfold onL
      split
      · intro o ho; simp at ho; subst ho; rfl
      · intro o ho; simp at ho; rcases ho with rfl | rfl <;> rfl
      · intro o ho; simp at ho; rcases ho with rfl | rfl <;> rfl
    · unfold onL; split <;> exact .inl (by simp)
    · unfold onL
      split <;> intro i o h <;> rcases i with _ | _ | i <;> simp at h <;> first | (subst h; rfl) | omega
  · rw [if_neg hG] at hh
    cases hh
    refine C.pure (CL.hfa hx) rfl (C.of_V hE hm hf hc ?_) s
    conv => whnf
    refine ESc.fam lchkF h33 x hx (u := .int .i64 8) (by simp [lchkF, hG]) ?_
    conv => whnf
    repeat' (first | ((first | refine w1 rfl rfl ?_ ?_ | refine w2 rfl rfl ?_ ?_ | refine w3 rfl rfl ?_ ?_ | refine w4 rfl rfl ?_ ?_ | refine w5 rfl rfl ?_ ?_ | refine w6 rfl rfl ?_ ?_) <;> intro _ <;> first | (exfalso; omega) | (conv => whnf)) | ((first | refine w7 rfl rfl (by omega) ?_ | refine w8 rfl rfl (by omega) ?_ | refine w9 rfl rfl (by omega) ?_ | refine w10 rfl rfl ?_ | refine w11 rfl rfl ?_ | refine w12 rfl ?_ | refine w13 rfl ?_ | refine w14 (q' := .i64) rfl (i64_in (by omega)) ?_ | refine w14 (q' := .u32) rfl (u32_in (by omega)) ?_ | refine w14 (q' := .u8) rfl (u8_in (by omega)) ?_ | refine w15 rfl rfl ?_ | refine w16 rfl ?_ | refine w17 rfl ?_ | refine w18 rfl ?_ | refine ⟨rfl, ?_⟩); conv => whnf) | (refine w19 rfl ?_ ?_ <;> intro hc <;> (try subst hc) <;> conv => whnf))
    exact .plain _ rfl
end Go.AM
