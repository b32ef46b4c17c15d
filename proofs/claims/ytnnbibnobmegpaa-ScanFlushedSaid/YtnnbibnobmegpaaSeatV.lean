/-
  Functions of the program as the abstract machine reads them, and what is stated of them, checked by the kernel. No conditions.
-/
import Derived.Test.YtnnbibnobmegpaaSeatR
import Derived.Test.YtnnbibnobmegpaaSeatT
import Derived.Test.YtnnbibnobmegpaaSeatU
set_option linter.unusedVariables false
set_option linter.unusedSimpArgs false

set_option linter.unusedVariables false
set_option linter.unusedSimpArgs false
set_option maxRecDepth 100000
namespace Go.AM
attribute [local irreducible] W
open X
theorem all2_cln {us : List AV} {bs : List (List Nat)} (h : All2 BAt us bs) : All2 BAt (us.map clnV) bs := by
  induction h with
  | nil => exact .nil
  | cons a b ih => exact .cons (clnV_at a) ih
theorem dskB_iff {x : DK} : dskB x = true ↔ (1 ≤ x.us.length ∧ x.us.length ≤ 256 ∧ x.ws.length ≤ 1024) ∧ (∀ b ∈ x.bs, oddB b.length = false) ∧ (∀ w ∈ x.ws, wBad x.us.length w = false) ∧ (x.dead = true → x.ws.length = 0 ∧ ∀ b ∈ x.bs, posB b.length = false) := by
  unfold dskB
  simp only [Bool.and_eq_true, decide_eq_true_eq, Bool.not_eq_true', List.any_eq_false, List.mem_map, forall_exists_index, and_imp, forall_apply_eq_imp_iff₂, Bool.not_eq_true, Bool.and_eq_false_iff, Bool.or_eq_false_iff, decide_eq_false_iff_not]
  constructor
  · rintro ⟨⟨⟨h1, h2⟩, h3⟩, h4⟩
    refine ⟨h1, h2, h3, fun hd => ?_⟩
    rcases h4 with h4 | ⟨h4, h5⟩
    · rw [hd] at h4; cases h4
    · exact ⟨by omega, h5⟩
  · rintro ⟨h1, h2, h3, h4⟩
    refine ⟨⟨⟨h1, h2⟩, h3⟩, ?_⟩
    cases hd : x.dead
    · exact .inl rfl
    · obtain ⟨h5, h6⟩ := h4 hd
      exact .inr ⟨by omega, h6⟩
end Go.AM

set_option linter.unusedVariables false
set_option linter.unusedSimpArgs false
set_option maxRecDepth 100000
namespace Go.AM
attribute [local irreducible] W
open X
def flC (cs : List AV) (L : List WR) : List AV := L.foldl (fun cs w => cs.set w.at_.toNat w.u) cs
def flB (bs : List (List Nat)) (L : List WR) : List (List Nat) := L.foldl (fun bs w => bs.set w.at_.toNat w.b) bs
theorem flC_len : ∀ (L : List WR) (cs : List AV), (flC cs L).length = cs.length
  | [], _ => rfl
  | w :: L, cs => by show (flC (cs.set _ _) L).length = _; rw [flC_len L, List.length_set]
theorem flC_app (cs : List AV) (L M : List WR) : flC cs (L ++ M) = flC (flC cs L) M := by unfold flC; rw [List.foldl_append]
theorem flC_at : ∀ (L : List WR) {cs : List AV} {bs : List (List Nat)}, All2 BAt cs bs → (∀ w ∈ L, BAt w.u w.b) → All2 BAt (flC cs L) (flB bs L)
  | [], _, _, h, _ => h
  | w :: L, cs, bs, h, hw => flC_at L (all2_set (hw w (by simp)) h _) (fun v hv => hw v (by simp [hv]))
theorem hfs_BAt {us : List AV} {bs : List (List Nat)} (h : All2 BAt us bs) : hfs us = true := by
  induction h with
  | nil => rfl
  | cons a b ih => show (AM.hf _ && hfs _) = true; rw [a.1.hf, ih]; rfl
theorem flB_get : ∀ (L : List WR) (bs : List (List Nat)) {p : Int}, 0 ≤ p → (∀ w ∈ L, 0 ≤ w.at_ ∧ w.at_ < bs.length) → (flB bs L).getD p.toNat [] = (lastW p L.reverse).getD (bs.getD p.toNat [])
  | [], bs, p, _, _ => rfl
  | w :: L, bs, p, hp, h => by
    show (flB (bs.set w.at_.toNat w.b) L).getD p.toNat [] = _
    obtain ⟨h1, h2⟩ := h w (by simp)
    rw [flB_get L _ hp (fun v hv => by rw [List.length_set]; exact h v (by simp [hv])), List.reverse_cons]
    have hl : ∀ M : List WR, lastW p (M ++ [w]) = match lastW p M with | some b => some b | none => if w.at_ = p then some w.b else none := fun M => by
      induction M with
      | nil => show (if w.at_ = p then some w.b else none) = _; rfl
      | cons v M ih =>
        show (if v.at_ = p then some v.b else lastW p (M ++ [w])) = _
        rw [ih]
        show _ = match (if v.at_ = p then some v.b else lastW p M : Option (List Nat)) with | some b => some b | none => _
        split <;> rfl
    rw [hl]
    cases lastW p L.reverse with
    | some b => rfl
    | none =>
      show (bs.set w.at_.toNat w.b).getD p.toNat [] = (if w.at_ = p then some w.b else none : Option (List Nat)).getD _
      by_cases e : w.at_ = p
      · rw [if_pos e, e, List.getD_eq_getElem?_getD, List.getElem?_set_self (by omega)]; rfl
      · rw [if_neg e, List.getD_eq_getElem?_getD, List.getElem?_set_ne (by omega)]; rfl
def flM (x : DK) : DK := ⟨.fz x.us.length none (flC (x.us.map clnV) (x.ws.map clnW)), flC (x.us.map clnV) (x.ws.map clnW), flB x.bs x.ws, .nils, [], false⟩
def flD (x : DK) : DK := ⟨.fz x.us.length none ((flC (x.us.map clnV) (x.ws.map clnW)).map clnV), (flC (x.us.map clnV) (x.ws.map clnW)).map clnV, flB x.bs x.ws, .nils, [], false⟩
theorem flB_map (bs : List (List Nat)) : ∀ (L : List WR), flB bs (L.map clnW) = flB bs L := fun L => by
  unfold flB
  rw [List.foldl_map]; rfl
theorem flB_mem : ∀ (L : List WR) (bs : List (List Nat)) {b : List Nat}, b ∈ flB bs L → b ∈ bs ∨ ∃ w ∈ L, w.b = b
  | [], _, _, h => .inl h
  | w :: L, bs, b, h => by
    rcases flB_mem L (bs.set w.at_.toNat w.b) h with h | ⟨v, hv, e⟩
    · rcases List.mem_or_eq_of_mem_set h with h | rfl
      · exact .inl h
      · exact .inr ⟨w, by simp, rfl⟩
    · exact .inr ⟨v, by simp [hv], e⟩
theorem flAt {x : DK} (hx : x.ok) : All2 BAt (flC (x.us.map clnV) (x.ws.map clnW)) (flB x.bs x.ws) := by
  have := flC_at (x.ws.map clnW) (all2_cln hx.a.bs) (fun w hw => by
    obtain ⟨v, hv, rfl⟩ := List.mem_map.1 hw
    exact (clnW_any (hx.a.ws v hv)).b)
  rwa [flB_map] at this
theorem flM_ok {x : DK} (hx : x.ok) : (flM x).ok := by
  have hl : (flC (x.us.map clnV) (x.ws.map clnW)).length = x.us.length := by rw [flC_len, List.length_map]
  refine ⟨⟨.inr (.inr ⟨none, by show AV.fz x.us.length none _ = .fz (flC _ _).length none _; rw [hl]; rfl, by rw [Nat.mul_one]⟩), flAt hx, .inl ⟨rfl, rfl, rfl⟩, fun w hw => by cases hw⟩, by show (flC _ _).length < _; rw [hl]; exact hx.n, by show 0 < _; decide, fun b hb => ?_, fun w hw => by cases hw⟩
  rcases flB_mem _ _ hb with h | ⟨w, hw, rfl⟩
  · exact hx.b b h
  · exact hx.w w hw
theorem flD_ok {x : DK} (hx : x.ok) : (flD x).ok := by
  have hl : ((flC (x.us.map clnV) (x.ws.map clnW)).map clnV).length = x.us.length := by rw [List.length_map, flC_len, List.length_map]
  have hm := flM_ok hx
  exact ⟨⟨.inr (.inr ⟨none, by show AV.fz x.us.length none _ = .fz (List.map clnV _).length none _; rw [hl]; rfl, by rw [Nat.mul_one]⟩), all2_cln hm.a.bs, .inl ⟨rfl, rfl, rfl⟩, fun w hw => by cases hw⟩, by show (List.map clnV _).length < _; rw [hl]; exact hx.n, hm.m, hm.b, fun w hw => by cases hw⟩
theorem flD_len (x : DK) : (flD x).us.length = x.us.length := by show ((flC _ _).map clnV).length = _; rw [List.length_map, flC_len, List.length_map]
theorem flD_dsk {x : DK} (hx : x.ok) (h : dskB x = true) : dskB (flD x) = true := by
  obtain ⟨d1, d2, d3, d4⟩ := dskB_iff.1 h
  refine dskB_iff.2 ⟨?_, fun b hb => ?_, (fun w hw => by cases hw), (fun hd => by cases hd)⟩
  · rw [flD_len]; exact ⟨d1.1, d1.2.1, by show 0 ≤ _; omega⟩
  · rcases flB_mem _ _ hb with h | ⟨w, hw, rfl⟩
    · exact d2 b h
    · have := d3 w hw
      unfold wBad at this
      simp only [Bool.or_eq_false_iff] at this
      exact this.2
theorem drdB_fl {x : DK} (hx : x.ok) (h : dskB x = true) {p : Int} (hp : 0 ≤ p) : drdB (flD x) p = drdB x p := by
  obtain ⟨d1, d2, d3, d4⟩ := dskB_iff.1 h
  have hl := hx.a.bs.length
  show (none : Option (List Nat)).getD ((flB x.bs x.ws).getD p.toNat []) = _
  unfold drdB drdL
  rw [flB_get _ _ hp (fun w hw => by
    have := d3 w hw
    unfold wBad at this
    simp only [Bool.or_eq_false_iff, decide_eq_false_iff_not] at this
    omega)]
  rfl
def flE (x : DK) : Int := if dskB x = true then (if x.dead then 40 else 0) else 8
def flOut (x : DK) : AV := if flE x = 0 then .tup [(flD x).v, .int .i64 0] else .tup [.agg zDk, .int .i64 (flE x)]
def fluF : Fam DK := ⟨DK.ok, fun x => [x.v], flOut, fun x y hx hy h => by rw [DK.inj hx.a hy.a (List.cons.inj h).1]⟩
theorem hf_flOut (x : DK) : AM.hf (flOut x) = true := by unfold flOut; split <;> rfl
def code64 : AC := match a64 with | .mk c _ => c
def rest64 : AC := match code64 with
  | .seq _ (.seq _ (.seq _ (.seq _ (.seq _ r)))) => r
  | _ => .skip
def tlK : List (Nat × AV) := [(1, .ptr 0 0), (2, .ptr 1 0)]
theorem flu_rest {P : Program} {e : Env} (hE : EnvOk P e) (hm : P.follows .mixedOrders = true) (h103 : Con e 103 twO) {x : DK} (hx : x.ok) (h1 : 1 ≤ x.us.length) (wv : AV) (hwv : AM.hf wv = true) (K : AV → St → Prop)
    (hk : ∀ s, s.get 2 = some (.row 32 (flD x).us) → K (.tup [.agg [.sl 2 0 x.us.length none, .nils, .bool false], .int .i64 0]) s) :
    W P 0 none rest64 (ofL tlK) (allocs St0 [.row 28 [(flM x).bv, wv, .bool false], .row 28 zDk]) [] (Ends [.cells 2 3, .tmp 3] K) := by
  have hmo := flM_ok hx
  have hlen : (flM x).us.length = x.us.length := by show (flC _ _).length = _; rw [flC_len, List.length_map]
  have htw := twO_run (x := flM x) ⟨hmo, by rw [hlen]; exact h1⟩
  have hv : (flM x).v = .agg [(flM x).bv, .nils, .bool false] := rfl
  have htw : ∀ s, twO [.agg [(flM x).bv, .nils, .bool false]] s = .ok (.agg [.sl (0 + s.next) 0 x.us.length none, .nils, .bool false]) (allocs s [.row 32 (flD x).us]) := fun s => by
    have := htw s
    rw [hv] at this
    rw [this, ← hlen]; rfl
  refine W.endV hE hm ?_
  generalize (flM x).bv = B at *
  conv => whnf
  repeat' (first | (refine ESc.ov h103 (htw _) ?_; conv => whnf) | fail)
  exact hk _ rfl
def loop64 : AC := match code64 with
  | .seq _ (.seq _ (.seq _ (.seq _ (.seq l _)))) => l
  | _ => .skip
theorem flu_loop {P : Program} {e : Env} (hE : EnvOk P e) (hm : P.follows .mixedOrders = true) (h103 : Con e 103 twO) {x : DK} (hx : x.ok) (hD : dskB x = true) (K : AV → St → Prop)
    (hk : ∀ s, s.get 2 = some (.row 32 (flD x).us) → K (.tup [.agg [.sl 2 0 x.us.length none, .nils, .bool false], .int .i64 0]) s) (h0 : 1 ≤ x.ws.length) :
    VW P e 0 loop64 (ofL tlK) (allocs St0 [.row 28 [.sl 2 0 x.us.length none, .sl 3 0 x.ws.length none, .bool false], .row 28 zDk, .row 32 (x.us.map clnV), .row 116 (wrs (x.ws.map clnW))]) none [] (Bhd (fun t s ds => W P 0 none rest64 t s ds (Ends [.cells 2 3, .tmp 3] K)) (Ends [.cells 2 3, .tmp 3] K)) := by
  obtain ⟨d1, d2, d3, d4⟩ := dskB_iff.1 hD
  have hr := fun wv hwv => flu_rest hE hm h103 hx d1.1 wv hwv K hk
  have hUf := hfs_clnU hx.a
  obtain ⟨W1, hW1⟩ : ∃ W1, W1 = x.ws.map clnW := ⟨_, rfl⟩
  have hW1l : W1.length = x.ws.length := by rw [hW1, List.length_map]
  have hWa : ∀ w ∈ W1, w.any ∧ 0 ≤ w.at_ ∧ w.at_ < x.us.length := fun w hw => by
    rw [hW1] at hw
    obtain ⟨v, hv, rfl⟩ := List.mem_map.1 hw
    have := d3 v hv
    unfold wBad at this
    simp only [Bool.or_eq_false_iff, decide_eq_false_iff_not] at this
    exact ⟨clnW_any (hx.a.ws v hv), by show 0 ≤ v.at_; omega, by show v.at_ < _; omega⟩
  have hwf : hfs (wrs W1) = true := hfs_wrs fun w hw => (hWa w hw).1.b.1.hf
  have hm1 : (flM x).bv = .fz x.us.length none (flC (x.us.map clnV) W1) := by rw [hW1]; rfl
  rw [hm1] at hr
  have hcf : ∀ i, hfs (flC (x.us.map clnV) (W1.take i)) = true := fun i => hfs_BAt (flC_at (W1.take i) (all2_cln hx.a.bs) (fun w hw => (hWa w (List.mem_of_mem_take hw)).1.b))
  have hcl : ∀ i, (flC (x.us.map clnV) (W1.take i)).length = x.us.length := fun i => by rw [flC_len, List.length_map]
  have hwn := hx.m
  rw [← hW1]
  rw [← hW1l] at h0 hwn ⊢
  generalize x.us.length = n at *
  generalize hU0 : x.us.map clnV = U at *
  clear hk hx hD d1 d2 d3 d4 hU0
  obtain ⟨m, hmm⟩ : ∃ m, m = W1.length := ⟨_, rfl⟩
  rw [← hmm] at h0 hwn ⊢
  conv => whnf
  refine EPrim.lenPZ rfl ?_
  conv => whnf
  refine W.loopT (α := Nat) (fun i => [(1, .ptr 0 0), (2, .ptr 1 0), (19, .sl 2 0 m none), (20, .int .i64 (m : Int)), (21, .int .i64 (i : Int))]) (fun i => [.row 28 [.sl 3 0 n none, .sl 2 0 m none, .bool false], .row 28 zDk, .row 116 (wrs W1), .row 32 (flC U (W1.take i))]) (fun i => m - i) (fun i => i ≤ m) 0 (Nat.zero_le _)
    (Abs.tells (rs := [0, 1, 3, 2]) ⟨by decide, ⟨⟨rfl, rfl⟩, ⟨rfl, rfl⟩, ⟨rfl, rfl⟩, ⟨rfl, rfl⟩, ⟨rfl, rfl⟩, trivial⟩, ⟨⟨rfl, rfl⟩, ⟨rfl, rfl⟩, ⟨rowH hwf, by rw [mapRowH hwf]; rfl⟩, ⟨rowH (hcf 0), by rw [mapRowH (hcf 0)]; rfl⟩, trivial⟩⟩) ?_
  intro i hi
  refine vw_sound hE hm ?_
  by_cases hlt : i < m
  · have hWi := List.getElem?_eq_getElem (l := W1) (i := i) (by omega)
    have hwi := hWa _ (List.getElem_mem (l := W1) (n := i) (by omega))
    have htk : flC U (W1.take (i + 1)) = (flC U (W1.take i)).set (W1[i]'(by omega)).at_.toNat (W1[i]'(by omega)).u := by
      rw [List.take_succ_eq_append_getElem (by omega), flC_app]; rfl
    have hall := And.intro hWi (And.intro hwi htk)
    clear hWi hwi htk
    revert hall
    generalize W1[i]'(by omega) = w
    rintro ⟨hWi, ⟨hwa, hw0, hwn'⟩, htk⟩
    obtain ⟨wa, wu, wb⟩ := w
    have hwu : AM.hf wu = true := hwa.b.1.hf
    dsimp only at hw0 hwn' htk
    obtain ⟨a, rfl⟩ : ∃ a : Nat, wa = (a : Int) := ⟨wa.toNat, by omega⟩
    have ha : a < n := by omega
    have htk : flC U (W1.take (i + 1)) = (flC U (W1.take i)).set a wu := htk
    have hld : ∀ s : St, s.get 2 = some (.row 116 (wrs W1)) → load 2 (0 + i * 2) 2 s = some [.int .i64 (a : Int), wu] := fun s h => load_wr h hWi
    have hst : ∀ s : St, s.get 3 = some (.row 32 (flC U (W1.take i))) → storeAt 3 (0 + a * 1) [wu] s = some (s.put 3 (.row 32 ((flC U (W1.take i)).set a wu))) := fun s h => store_set h (by rw [hcl]; exact ha)
    have hc1 := hcf (i + 1)
    rw [htk] at hc1
    have hc1 : hfs ((flC U (W1.take i)).set a wu) = true := hc1
    have hcw : ∀ (K : Prop), K → wB (Nat.beq (lenL (cellsOf wu)) 1) K False := fun K hK => by
      have : cellsOf wu = [wu] := by
        rcases hwa.b.1 with ⟨h, _⟩ | ⟨h, _⟩ | ⟨c, h, _⟩ <;> (dsimp only at h; rw [h]; rfl)
      rw [this]; exact hK
    conv => whnf
    refine EPrim.lss2 (a := (i : Int)) (b := (m : Int)) rfl rfl (fun _ => ?_) (fun h => by omega)
    conv => whnf
    refine EPrim.ixsP (i := i) rfl rfl hlt ?_
    conv => whnf
    refine stuckO _ (hld _ rfl) ?_
    conv => whnf
    refine EPrim.ixsP (i := a) rfl rfl ha ?_
    conv => whnf
    refine hcw _ ?_
    have hcu : cellsOf wu = [wu] := by
      rcases hwa.b.1 with ⟨h, _⟩ | ⟨h, _⟩ | ⟨c, h, _⟩ <;> (dsimp only at h; rw [h]; rfl)
    rw [hcu]
    refine stuckO _ (hst _ rfl) ?_
    conv => whnf
    repeat' (first | ((first | refine w7 rfl rfl (by omega) ?_ | refine ⟨rfl, ?_⟩); conv => whnf) | fail)
    refine ⟨i + 1, hlt, by omega, ?_⟩
    rw [htk]
    exact Abs.tells (rs := [0, 1, 2, 3]) ⟨by decide, ⟨⟨rfl, rfl⟩, ⟨rfl, rfl⟩, ⟨rfl, rfl⟩, ⟨rfl, rfl⟩, ⟨rfl, rfl⟩, trivial⟩, ⟨⟨rfl, rfl⟩, ⟨rfl, rfl⟩, ⟨rowH hwf, by rw [mapRowH hwf]; rfl⟩, ⟨rowH hc1, by rw [mapRowH hc1]; rfl⟩, trivial⟩⟩
  · have hie : i = m := by omega
    subst hie
    have hte : W1.take i = W1 := List.take_of_length_le (by omega)
    have hcf' := hcf i
    rw [hte] at hcf' ⊢
    conv => whnf
    refine EPrim.lss2 (a := (i : Int)) (b := (i : Int)) rfl rfl (fun h => by omega) (fun _ => ?_)
    conv => whnf
    have q1 := AbsK.frz (P := P) (k := 0) (n := 3) (e := 32) (cs := flC U W1) (t := putT 23 (AV.bool false) (ofL [(1, .ptr 0 0), (2, .ptr 1 0), (19, .sl 2 0 i none), (20, .int .i64 (i : Int)), (21, .int .i64 (i : Int))])) (s := allocs St0 [.row 28 [.sl 3 0 n none, .sl 2 0 i none, .bool false], .row 28 zDk, .row 116 (wrs W1), .row 32 (flC U W1)]) (tl := tlK) (tl2 := tlK) (os := [.row 28 [.sl 3 0 n none, .sl 2 0 i none, .bool false], .row 28 zDk, .row 116 (wrs W1)]) (os2 := [.row 28 [.fz n none (flC U W1), .sl 2 0 i none, .bool false], .row 28 zDk, .row 116 (wrs W1)]) (rs := [0, 1, 2, 3])
      ⟨rfl, by decide, ⟨⟨rfl, rfl⟩, ⟨rfl, rfl⟩, trivial⟩, ⟨⟨rfl, rfl⟩, ⟨rfl, rfl⟩, ⟨rowH hwf, by rw [mapRowH hwf]; rfl⟩, ⟨rowH hcf', by rw [mapRowH hcf']; rfl⟩, trivial⟩⟩ rfl hcf' rfl rfl rfl rfl rfl (by
        show [_, _, frzO 3 _ (.row 116 (wrs W1))] = _
        rw [frzRowH hwf]; rfl)
    have q2 := AbsK.frz (P := P) (k := 0) (n := 2) (e := 116) (cs := wrs W1) (t := ofL tlK) (s := allocs St0 [.row 28 [.fz n none (flC U W1), .sl 2 0 i none, .bool false], .row 28 zDk, .row 116 (wrs W1)]) (tl := tlK) (tl2 := tlK) (os := [.row 28 [.fz n none (flC U W1), .sl 2 0 i none, .bool false], .row 28 zDk]) (os2 := [.row 28 [.fz n none (flC U W1), .fz i none (wrs W1), .bool false], .row 28 zDk]) (rs := [0, 1, 2])
      ⟨rfl, by decide, ⟨⟨rfl, rfl⟩, ⟨rfl, rfl⟩, trivial⟩, ⟨⟨rfl, rfl⟩, ⟨rfl, rfl⟩, ⟨rowH hwf, by rw [mapRowH hwf]; rfl⟩, trivial⟩⟩ rfl hwf rfl rfl rfl rfl rfl rfl
    exact W.tells (q1.trans q2) (hr _ rfl)
theorem fluF_ok {P : Program} {e : Env} {fn : Func} (hE : EnvOk P e) (hm : P.follows .mixedOrders = true) (h101 : Con e 101 dskF.O) (h103 : Con e 103 twO) (hf : P.funcs[64]? = some fn) (hc : compF P fn = some a64) (hb : HasBody P 64) : OvOk P 64 fluF.O := by
  refine Fam.ok_of hb fun x hx => ?_
  refine ⟨by show (AM.hf x.v && true) = true; rw [DK.hf hx.a]; rfl, hf_flOut x, C.of_W hf hc ?_⟩
  have hout : fluF.out x = flOut x := rfl
  rw [hout]
  have hO0 : dskB x = true → x.dead = false → flOut x = .tup [(flD x).v, .int .i64 0] := fun h1 h2 => by unfold flOut flE; rw [if_pos h1, h2]; rfl
  have hO1 : dskB x = true → x.dead = true → flOut x = .tup [.agg zDk, .int .i64 40] := fun h1 h2 => by unfold flOut flE; rw [if_pos h1, h2]; rfl
  have hO2 : dskB x ≠ true → flOut x = .tup [.agg zDk, .int .i64 8] := fun h1 => by unfold flOut flE; rw [if_neg h1]; rfl
  by_cases hD : dskB x = true
  · have hD1 := (dskB_iff.1 hD).1
    have hDo : dskF.out x = .int .i64 0 := by show AV.int .i64 (if _ then _ else _) = _; rw [if_pos hD]
    have htw := twO_run (x := x) ⟨hx, hD1.1⟩
    have hfin : ∀ s : St, s.get 2 = some (.row 32 (flD x).us) → Frz s (.tup [.agg [.sl 2 0 x.us.length none, .nils, .bool false], .int .i64 0]) (.tup [(flD x).v, .int .i64 0]) := fun s h =>
      .tup _ _ (.cons (.agg _ _ (.cons (.sl 2 0 _ none none 32 _ (flD x).us _ h (fun i x h => by rw [Nat.zero_add]; exact h) (frz_hfs (hfs_BAt (flD_ok hx).a.bs)) (.inl rfl)) (.cons (.plain _ rfl) (.cons (.plain _ rfl) .nil)))) (.cons (.plain _ rfl) .nil))
    have hloop := fun h0 => flu_loop hE hm h103 hx hD (fun v s => Frz s v (.tup [(flD x).v, .int .i64 0])) hfin h0
    have hrest := flu_rest hE hm h103 hx hD1.1 .nils rfl (fun v s => Frz s v (.tup [(flD x).v, .int .i64 0])) hfin
    have hUf := hfs_clnU hx.a
    have hO0 := hO0 hD
    have hO1 := hO1 hD
    obtain ⟨bv, us, bs, wv, ws, dd⟩ := x
    show W P 0 none code64 (initT [.agg [bv, wv, .bool dd]] 0 .lf) St0 [] _
    cases dd
    · rw [hO0 rfl]
      refine W.seqV hE hm ?_
      conv => whnf
      refine W.seqV hE hm ?_
      conv => whnf
      refine ESc.fam dskF h101 _ hx (u := .int .i64 0) hDo ?_
      conv => whnf
      repeat' (first | ((refine w6 rfl rfl ?_ ?_) <;> intro _ <;> first | (exfalso; omega) | (conv => whnf)) | fail)
      refine W.seqV hE hm ?_
      conv => whnf
      skip
      rcases ws with _ | ⟨w0, ws⟩
      · have htw : ∀ s, twO [.agg [bv, wv, .bool false]] s = .ok (.agg [.sl (0 + s.next) 0 us.length none, .nils, .bool false]) (allocs s [.row 32 (us.map clnV)]) := htw
        refine W.seqV hE hm ?_
        conv => whnf
        refine ESc.ov h103 (htw _) ?_
        conv => whnf
        refine W.seqV hE hm ?_
        conv => whnf
        repeat' (first | (refine w16 rfl ?_; conv => whnf) | fail)
        refine W.loop0 hE hm ?_
        conv => whnf
        repeat' (first | ((refine w1 rfl rfl ?_ ?_) <;> intro _ <;> first | (exfalso; omega) | (conv => whnf)) | fail)
        have hm1 : (flM ⟨bv, us, bs, wv, [], false⟩).bv = .fz us.length none (us.map clnV) := rfl
        rw [hm1] at hrest
        exact W.tells (AbsK.frz (P := P) (k := 0) (n := 2) (e := 32) (cs := us.map clnV) (tl := tlK) (tl2 := tlK) (os := [.row 28 [.sl 2 0 us.length none, .nils, .bool false], .row 28 zDk]) (os2 := [.row 28 [.fz us.length none (us.map clnV), .nils, .bool false], .row 28 zDk]) (rs := [0, 1, 2])
          ⟨rfl, by decide, ⟨⟨rfl, rfl⟩, ⟨rfl, rfl⟩, trivial⟩, ⟨⟨rfl, rfl⟩, ⟨rfl, rfl⟩, ⟨rowH hUf, by rw [mapRowH hUf]; rfl⟩, trivial⟩⟩ rfl hUf rfl rfl rfl rfl rfl rfl) hrest
      · have htw : ∀ s, twO [.agg [bv, wv, .bool false]] s = .ok (.agg [.sl (0 + s.next) 0 us.length none, .sl (1 + s.next) 0 (ws.length + 1) none, .bool false]) (allocs s [.row 32 (us.map clnV), .row 116 (wrs ((w0 :: ws).map clnW))]) := htw
        have hWf : hfs (wrs ((w0 :: ws).map clnW)) = true := hfs_wrs fun w hw => by
          obtain ⟨v, hv, rfl⟩ := List.mem_map.1 hw
          exact (clnW_any (hx.a.ws v hv)).b.1.hf
        refine W.seqV hE hm ?_
        conv => whnf
        refine ESc.ov h103 (htw _) ?_
        conv => whnf
        refine W.tells (Abs.tells (tl := tlK) (os := [.row 28 [.sl 2 0 us.length none, .sl 3 0 (ws.length + 1) none, .bool false], .row 28 zDk, .row 32 (us.map clnV), .row 116 (wrs ((w0 :: ws).map clnW))]) (rs := [0, 1, 2, 3])
          ⟨by decide, ⟨⟨rfl, rfl⟩, ⟨rfl, rfl⟩, trivial⟩, ⟨⟨rfl, rfl⟩, ⟨rfl, rfl⟩, ⟨rowH hUf, by rw [mapRowH hUf]; rfl⟩, ⟨rowH hWf, by rw [mapRowH hWf]; rfl⟩, trivial⟩⟩) ?_
        exact W.seqV hE hm (hloop (by simp))
    · rw [hO1 rfl]
      refine W.endV hE hm ?_
      conv => whnf
      refine ESc.fam dskF h101 _ hx (u := .int .i64 0) hDo ?_
      conv => whnf
      repeat' (first | ((refine w6 rfl rfl ?_ ?_) <;> intro _ <;> first | (exfalso; omega) | (conv => whnf)) | fail)
      exact .plain _ rfl
  · have hDo : dskF.out x = .int .i64 8 := by show AV.int .i64 (if _ then _ else _) = _; rw [if_neg hD]
    rw [hO2 hD]
    refine W.endV hE hm ?_
    obtain ⟨bv, us, bs, wv, ws, dd⟩ := x
    show VW P e 0 code64 (initT [.agg [bv, wv, .bool dd]] 0 .lf) St0 none [] _
    conv => whnf
    refine ESc.fam dskF h101 _ hx (u := .int .i64 8) hDo ?_
    conv => whnf
    repeat' (first | ((refine w6 rfl rfl ?_ ?_) <;> intro _ <;> first | (exfalso; omega) | (conv => whnf)) | fail)
    exact .plain _ rfl
end Go.AM

set_option linter.unusedVariables false
set_option linter.unusedSimpArgs false
set_option maxRecDepth 100000
namespace Go.AM
attribute [local irreducible] W
open X
theorem rdF_fl {c : Cfg} {d : DK} (hd : d.ok) (hD : dskB d = true) (hdd : d.dead = false) (a : Int) : rdF ⟨c, flD d, a⟩ = rdF ⟨c, d, a⟩ := by
  have hA : askE ⟨c, flD d, a⟩ = askE ⟨c, d, a⟩ := by
    unfold askE
    dsimp only
    rw [flD_dsk hd hD, hD, flD_len, hdd]; rfl
  by_cases h0 : askE ⟨c, d, a⟩ = 0
  · have h0' := ask0 h0
    have hM : c.may := h0'.1
    have hlg := Cfg.may_log hM
    have hrb : rbk ⟨c, flD d, a⟩ = rbk ⟨c, d, a⟩ := funext fun i => by
      have h1 := Int.emod_nonneg (a + (i : Int)) (b := c.log) (by omega)
      show pad (drdB (flD d) (1 + (a + (i : Int)) % c.log)) = pad (drdB d (1 + (a + (i : Int)) % c.log))
      rw [drdB_fl hd hD (by omega)]
    unfold rdF
    rw [hA, hrb]
  · unfold rdF
    rw [hA, if_neg h0, if_neg h0]
theorem all_fl {c : Cfg} {d : DK} (hd : d.ok) (hD : dskB d = true) (hdd : d.dead = false) : allOut ⟨c, flD d⟩ = allOut ⟨c, d⟩ := by
  have hb : fstB (flD d) = fstB d := by
    unfold fstB
    rw [drdB_fl hd hD (Int.le_refl 0)]
  have hE : fstE ⟨c, flD d⟩ = fstE ⟨c, d⟩ := by
    unfold fstE
    dsimp only
    rw [flD_dsk hd hD, hD, flD_len, hdd, hb]; rfl
  have hL : allL ⟨c, flD d⟩ = allL ⟨c, d⟩ := by
    unfold allL
    dsimp only
    rw [hb]
    have : (fun u : Nat => rdF ⟨c, flD d, (supTl (fstB d) + (u : Int)) % c.log⟩) = (fun u : Nat => rdF ⟨c, d, (supTl (fstB d) + (u : Int)) % c.log⟩) := funext fun u => rdF_fl hd hD hdd _
    rw [this]
  unfold allOut
  rw [hE, hL]
  dsimp only
  rw [hb]
structure FdL (L : List Fd) : Prop where
  n : L.length < 1000000
  f : ∀ f ∈ L, i64B f.n.stripe ∧ f.y.ok
def sfF : Fam (List Fd) := ⟨FdL, fun L => [lsV L, lsV L], fun _ => .bool true, fun _ _ _ _ _ => rfl⟩
theorem sfF_ok {P : Program} {e : Env} {fn : Func} (hE : EnvOk P e) (hm : P.follows .mixedOrders = true) (h25 : Con e 25 sameF.O) (hf : P.funcs[29]? = some fn) (hc : compF P fn = some a29) (hb : HasBody P 29) : OvOk P 29 sfF.O := by
  refine Fam.ok_of hb fun L hL => ?_
  refine ⟨by show (AM.hf (lsV L) && (AM.hf (lsV L) && true)) = true; rw [hf_lsV]; rfl, rfl, C.of_V hE hm hf hc ?_⟩
  have hSl := sl_fds L
  have hss := fun (i : Nat) (h : i < L.length) => same_self h25 (hL.f _ (List.getElem_mem h)).1 (hL.f _ (List.getElem_mem h)).2
  obtain ⟨hn, _⟩ := hL
  show VW P e 0 (match a29 with | .mk c _ => c) (initT [lsV L, lsV L] 0 .lf) St0 none [] (EEnd [.tmp 4] (fun v s' => Frz s' v (.bool true)))
  generalize lsV L = lv at *
  have hlf := hSl.hf
  conv => whnf
  refine EPrim.lenZ rfl hSl ?_
  conv => whnf
  refine EPrim.lenZ rfl hSl ?_
  conv => whnf
  refine EPrim.neq2 (a := (L.length : Int)) (b := (L.length : Int)) rfl rfl (fun h => absurd rfl h) (fun _ => ?_)
  conv => whnf
  refine W.loopT (α := Nat) (fun i => [(0, lv), (1, lv), (5, .int .i64 (i : Int))]) (fun _ => []) (fun i => L.length - i) (fun i => i ≤ L.length) 0 (Nat.zero_le _)
    (Abs.tells (rs := []) ⟨by decide, ⟨⟨hf_bd _ hlf, by rw [hf_mapV _ hlf]; rfl⟩, ⟨hf_bd _ hlf, by rw [hf_mapV _ hlf]; rfl⟩, ⟨rfl, rfl⟩, trivial⟩, trivial⟩) ?_
  intro i hi
  refine vw_sound hE hm ?_
  by_cases hlt : i < L.length
  · have hdr := fds_drop_cons hlt
    have hss := hss i hlt
    have hall := And.intro hdr hss
    clear hdr hss
    revert hall
    generalize L[i] = f
    obtain ⟨⟨nid, nag, nsq, nst, nv, nr⟩, ⟨S, p⟩⟩ := f
    rintro ⟨hdr, hss⟩
    have hdr : (fdsV L).drop (i * 6) = [.int .u32 nag, .int .u32 nsq, .int .i64 nst, rslV S, rblV S, rpaV p] ++ fdsV (L.drop (i + 1)) := hdr
    dsimp only at hss
    conv => whnf
    refine EPrim.lenZ rfl hSl ?_
    conv => whnf
    refine EPrim.lss2 (a := (i : Int)) (b := (L.length : Int)) rfl rfl (fun _ => ?_) (fun h => by omega)
    conv => whnf
    repeat' (first | (refine EPrim.ixsS rfl hSl rfl hlt ?_; rw [hdr]; conv => whnf) | (refine EHead.mk rfl ?_; conv => whnf) | (refine ETake.eq rfl ?_; conv => whnf) | (refine hss _ _ ?_; conv => whnf) | ((refine w6 rfl rfl ?_ ?_) <;> intro _ <;> first | (exfalso; omega) | (conv => whnf)) | ((first | refine w7 rfl rfl (by omega) ?_ | refine w12 rfl ?_ | refine ⟨rfl, ?_⟩); conv => whnf) | fail)
    exact ⟨i + 1, hlt, by omega, Abs.tells (rs := []) ⟨by decide, ⟨⟨hf_bd _ hlf, by rw [hf_mapV _ hlf]; rfl⟩, ⟨hf_bd _ hlf, by rw [hf_mapV _ hlf]; rfl⟩, ⟨rfl, rfl⟩, trivial⟩, trivial⟩⟩
  · conv => whnf
    refine EPrim.lenZ rfl hSl ?_
    conv => whnf
    refine EPrim.lss2 (a := (i : Int)) (b := (L.length : Int)) rfl rfl (fun h => by omega) (fun _ => ?_)
    conv => whnf
    exact .plain _ rfl
def code20 : AC := match a20 with | .mk c _ => c
structure SFIn (e : Env) : Prop where
  h59 : Con e 59 trueO
  h21 : Con e 21 grt4F.O
  h27 : Con e 27 allF.O
  h64 : Con e 64 fluF.O
  h29 : Con e 29 sfF.O
theorem eqI_self (a : Int) : eqI a a = true := by
  cases a with
  | ofNat n => exact Nat.beq_refl n
  | negSucc n => exact Nat.beq_refl n
theorem eqf4 (a b c d : Int) : eqfA [0, 0, 0, 0] [.int .u32 a, .int .u32 b, .int .u32 c, .int .i64 d] [.int .u32 a, .int .u32 b, .int .u32 c, .int .i64 d] = some true := by
  have h : ∀ k (n : Int), eq1 0 (.int k n) (.int k n) = some true := fun k n => by
    show cond (eqK k k) (some (eqI n n)) none = _
    rw [eqI_self, show eqK k k = true by cases k <;> rfl]; rfl
  unfold eqfA
  rw [h]
  dsimp only
  unfold eqfA
  rw [h]
  dsimp only
  unfold eqfA
  rw [h]
  dsimp only
  unfold eqfA
  rw [h]
  rfl
theorem flushed_main (P : Program) (e : Env) (hE : EnvOk P e) (hm : P.follows .mixedOrders = true) {id mb ch rw' lg hdd : Int} {bv wv y1 y2 lv : AV} {dd y3 : Bool} (h59 : Con e 59 trueO) {r1 r2 r3 r4 n : Int}
    (hgr : ∀ (K : AV → St → Prop) (s : St), K (.bool false) s → ESc e 21 [.agg [bv, wv, .bool dd]] s K)
    (h1 : ∀ (K : AV → St → Prop) (s : St), K (.tup [.agg [.int .u32 r1, .int .u32 r2, .int .u32 r3, .int .i64 r4], lv, .int .i64 n]) s → ESc e 27 [.agg [.int .u32 id, .int .i64 mb, .int .i64 ch, .int .i64 rw', .int .i64 lg, .int .i64 hdd], .agg [bv, wv, .bool dd]] s K)
    (h2 : ∀ (K : AV → St → Prop) (s : St), K (.tup [.agg [y1, y2, .bool y3], .int .i64 0]) s → ESc e 64 [.agg [bv, wv, .bool dd]] s K)
    (h3 : ∀ (K : AV → St → Prop) (s : St), K (.tup [.agg [.int .u32 r1, .int .u32 r2, .int .u32 r3, .int .i64 r4], lv, .int .i64 n]) s → ESc e 27 [.agg [.int .u32 id, .int .i64 mb, .int .i64 ch, .int .i64 rw', .int .i64 lg, .int .i64 hdd], .agg [y1, y2, .bool y3]] s K)
    (h4 : ∀ (K : AV → St → Prop) (s : St), K (.bool true) s → ESc e 29 [lv, lv] s K) :
    VW P e 0 code20 (initT [.agg [.int .u32 id, .int .i64 mb, .int .i64 ch, .int .i64 rw', .int .i64 lg, .int .i64 hdd], .agg [bv, wv, .bool dd]] 0 .lf) St0 none [] (EEnd [.tmp 4] (fun u s => u = .bool true)) := by
  conv => whnf
  refine ESc.ov h59 rfl ?_
  conv => whnf
  refine hgr _ _ ?_
  conv => whnf
  repeat' (first | (refine w12 rfl ?_; conv => whnf) | fail)
  refine h1 _ _ ?_
  conv => whnf
  refine h2 _ _ ?_
  conv => whnf
  repeat' (first | ((refine w6 rfl rfl ?_ ?_) <;> intro _ <;> first | (exfalso; omega) | (conv => whnf)) | fail)
  refine h3 _ _ ?_
  conv => whnf
  repeat' (first | (refine EPrim.eqf2 rfl rfl (eqf4 _ _ _ _) ?_; conv => whnf) | (refine h4 _ _ ?_; conv => whnf) | ((refine w5 rfl rfl ?_ ?_) <;> intro _ <;> first | (exfalso; omega) | (conv => whnf)) | fail)
  rfl
theorem flushed_law (P : Program) (e : Env) (hE : EnvOk P e) (hm : P.follows .mixedOrders = true) (hI : SFIn e) (c : Cfg) (hc : c.ok) (d : DK) (hd : d.any) :
    VW P e 0 code20 (initT [c.v, d.v] 0 .lf) St0 none [] (EEnd [.tmp 4] (fun u s => u = .bool true)) := by
  by_cases hG : grt4B d = true
  · have hgr : ∀ (K : AV → St → Prop) (s : St), K (.bool true) s → ESc e 21 [d.v] s K := fun K s hk => ESc.fam grt4F hI.h21 d hd (by show AV.bool _ = _; rw [hG]) hk
    obtain ⟨id, mb, ch, rw', lg, hdd⟩ := c
    obtain ⟨bv, us, bs, wv, ws, dd⟩ := d
    show VW P e 0 code20 (initT [.agg [.int .u32 id, .int .i64 mb, .int .i64 ch, .int .i64 rw', .int .i64 lg, .int .i64 hdd], .agg [bv, wv, .bool dd]] 0 .lf) St0 none [] _
    conv => whnf
    refine ESc.ov hI.h59 rfl ?_
    conv => whnf
    refine hgr _ _ ?_
    conv => whnf
    skip
    rfl
  have hG : grt4B d = false := by simpa using hG
  have hgr : ∀ (K : AV → St → Prop) (s : St), K (.bool false) s → ESc e 21 [d.v] s K := fun K s hk => ESc.fam grt4F hI.h21 d hd (by show AV.bool _ = _; rw [hG]) hk
  have hdk := grt4_ok hd hG
  have hx : CK.ok ⟨c, d⟩ := ⟨hc, hdk⟩
  have hfl := fun (K : AV → St → Prop) (s : St) (hk : K (flOut d) s) => ESc.fam fluF hI.h64 d hdk rfl hk
  have hal := fun (K : AV → St → Prop) (s : St) (hk : K (allOut ⟨c, d⟩) s) => ESc.fam allF hI.h27 ⟨c, d⟩ hx rfl hk
  by_cases h0 : dskB d = true ∧ d.dead = false
  · have hfo : flOut d = .tup [(flD d).v, .int .i64 0] := by
      unfold flOut flE
      rw [if_pos h0.1, h0.2]; rfl
    rw [hfo] at hfl
    have hx2 : CK.ok ⟨c, flD d⟩ := ⟨hc, flD_ok hdk⟩
    have hal2 := fun (K : AV → St → Prop) (s : St) (hk : K (allOut ⟨c, d⟩) s) => ESc.fam allF hI.h27 ⟨c, flD d⟩ hx2 (all_fl hdk h0.1 h0.2) hk
    unfold allOut at hal hal2
    have hFd : fstE ⟨c, d⟩ = 0 → FdL (allL ⟨c, d⟩) := fun hz => by
      have hJ := allL_G ⟨c, d⟩
      obtain ⟨hM, _, _, _, _⟩ := fst0 hz
      have hM' := hM
      unfold Cfg.may at hM'
      refine ⟨by have := usedN_le (allL ⟨c, d⟩); have := hJ.le; omega, fun f hf => ?_⟩
      obtain ⟨i, hi⟩ := List.mem_iff_getElem?.1 hf
      have h1 := (hJ.get i f hi).1
      have hg := rdF_some h1
      have hl := hg.len (jrd_ok hx hz _)
      have := (ntB_ok (rbk_ok (jrd_ok hx hz _) hg.ask 0).2).stripe
      exact ⟨by rw [hg.n]; exact this, hl.1⟩
    have hsf := fun (hz : fstE ⟨c, d⟩ = 0) (K : AV → St → Prop) (s : St) (hk : K (.bool true) s) => ESc.fam sfF hI.h29 (allL ⟨c, d⟩) (hFd hz) (u := .bool true) rfl hk
    have hsn := fun (K : AV → St → Prop) (s : St) (hk : K (.bool true) s) => ESc.fam sfF hI.h29 [] ⟨by show 0 < _; decide, fun f h => by cases h⟩ (u := .bool true) rfl hk
    by_cases hz : fstE ⟨c, d⟩ = 0
    · have hsf := hsf hz
      rw [if_pos hz] at hal hal2
      obtain ⟨id, mb, ch, rw', lg, hdd⟩ := c
      obtain ⟨bv, us, bs, wv, ws, dd⟩ := d
      exact flushed_main P e hE hm hI.h59 hgr hal hfl hal2 hsf
    · rw [if_neg hz] at hal hal2
      obtain ⟨id, mb, ch, rw', lg, hdd⟩ := c
      obtain ⟨bv, us, bs, wv, ws, dd⟩ := d
      exact flushed_main P e hE hm hI.h59 hgr hal hfl hal2 hsn
  · have hfo : ∃ n : Int, n ≠ 0 ∧ flOut d = .tup [.agg zDk, .int .i64 n] := by
      unfold flOut flE
      by_cases h1 : dskB d = true
      · have : d.dead = true := by
          cases hq : d.dead
          · exact absurd ⟨h1, hq⟩ h0
          · rfl
        rw [if_pos h1, this]; exact ⟨40, by decide, rfl⟩
      · rw [if_neg h1]; exact ⟨8, by decide, rfl⟩
    have hfe : fstE ⟨c, d⟩ ≠ 0 := fun h => by
      obtain ⟨_, q1, _, q2, _⟩ := fst0 h
      exact h0 ⟨q1, q2⟩
    obtain ⟨m, hm0, hfo⟩ := hfo
    rw [hfo] at hfl
    unfold allOut at hal
    rw [if_neg hfe] at hal
    obtain ⟨E, hE'⟩ : ∃ E, E = fstE ⟨c, d⟩ := ⟨_, rfl⟩
    rw [← hE'] at hal hfe
    obtain ⟨id, mb, ch, rw', lg, hdd⟩ := c
    obtain ⟨bv, us, bs, wv, ws, dd⟩ := d
    show VW P e 0 code20 (initT [.agg [.int .u32 id, .int .i64 mb, .int .i64 ch, .int .i64 rw', .int .i64 lg, .int .i64 hdd], .agg [bv, wv, .bool dd]] 0 .lf) St0 none [] _
    conv => whnf
    refine ESc.ov hI.h59 rfl ?_
    conv => whnf
    refine hgr _ _ ?_
    conv => whnf
    repeat' (first | (refine w12 rfl ?_; conv => whnf) | fail)
    refine hal _ _ ?_
    conv => whnf
    refine hfl _ _ ?_
    conv => whnf
    repeat' (first | ((refine w6 rfl rfl ?_ ?_) <;> intro _ <;> first | (exfalso; omega) | (conv => whnf)) | fail)
    rfl
end Go.AM
