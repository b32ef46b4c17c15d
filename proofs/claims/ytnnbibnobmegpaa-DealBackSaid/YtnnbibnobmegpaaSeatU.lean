/-
  Functions of the program as the abstract machine reads them, and what is stated of them, checked by the kernel. No conditions.
-/
import Derived.Test.YtnnbibnobmegpaaSeatR
import Derived.Test.YtnnbibnobmegpaaSeatT
import Derived.Test.YtnnbibnobmegpaaSeatP
import Derived.Test.YtnnbibnobmegpaaSeatLH
set_option linter.unusedVariables false
set_option linter.unusedSimpArgs false

set_option linter.unusedVariables false
set_option linter.unusedSimpArgs false
set_option maxRecDepth 100000
namespace Go.AM
attribute [local irreducible] W
open X
theorem pad_at {b : List Nat} (h : b.length = 0 ∨ b.length = 128) (hb : ∀ y ∈ b, y < 256) : BAt (fzB (pad b)) (pad b) ∧ (pad b).length = 128 := by
  have hl := pad_len128 h
  exact ⟨fzB_at ⟨hl, pad_lt hb⟩, hl⟩
theorem all2_cln {us : List AV} {bs : List (List Nat)} (h : All2 BAt us bs) : All2 BAt (us.map clnV) bs := by
  induction h with
  | nil => exact .nil
  | cons a b ih => exact .cons (clnV_at a) ih
theorem keepW_mem {a : Int} {L : List WR} {w : WR} (h : w ∈ keepW a (L.map clnW)) : ∃ v ∈ L, w = clnW v ∧ v.at_ ≠ a := by
  obtain ⟨h1, h2⟩ := List.mem_filter.1 h
  obtain ⟨v, hv, rfl⟩ := List.mem_map.1 h1
  refine ⟨v, hv, rfl, fun e => ?_⟩
  unfold wAt at h2
  simp at h2
  exact h2 e
theorem wvF_sl (n : Nat) (L : List WR) (h : L.length ≤ n) : Sl 2 L.length (wrs L) (wvF n L) := by
  cases n with
  | zero =>
    have : L = [] := List.length_eq_zero_iff.1 (by omega)
    subst this; exact .inl ⟨rfl, rfl, rfl⟩
  | succ n => exact .inr (.inr ⟨none, rfl, wrs_length L⟩)
theorem fuaD_ok {x : DKW} (hx : x.ok) (h : wrtE x.d x.a x.b = 0) : (fuaD x).ok := by
  obtain ⟨q1, q2, q3, q4⟩ := wrt0 h
  have hbl := oddB_no q3
  obtain ⟨p1, p2⟩ := pad_at hbl hx.b.2
  have hkl := keepW_le x.a (x.d.ws.map clnW)
  rw [List.length_map] at hkl
  have hm := hx.d.m
  refine ⟨⟨?_, all2_set p1 (all2_cln hx.d.a.bs) _, wvF_sl _ _ hkl, fun w hw => ?_⟩, ?_, ?_, fun b hb => ?_, fun w hw => ?_⟩
  · refine .inr (.inr ⟨none, ?_, by rw [Nat.mul_one]⟩)
    show AV.fz x.d.us.length none _ = .fz ((x.d.us.map clnV).set _ _).length none _
    rw [List.length_set, List.length_map]; rfl
  · obtain ⟨v, hv, rfl, _⟩ := keepW_mem hw
    exact clnW_any (hx.d.a.ws v hv)
  · show ((x.d.us.map clnV).set _ _).length < _
    rw [List.length_set, List.length_map]; exact hx.d.n
  · show (keepW x.a (x.d.ws.map clnW)).length < _; omega
  · rcases List.mem_or_eq_of_mem_set hb with h | rfl
    · exact hx.d.b b h
    · omega
  · obtain ⟨v, hv, rfl, _⟩ := keepW_mem hw
    exact hx.d.w v hv
theorem fuaD_len (x : DKW) : (fuaD x).us.length = x.d.us.length := by
  show ((x.d.us.map clnV).set _ _).length = _
  rw [List.length_set, List.length_map]
theorem dskB_iff {x : DK} : dskB x = true ↔ (1 ≤ x.us.length ∧ x.us.length ≤ 256 ∧ x.ws.length ≤ 1024) ∧ (∀ b ∈ x.bs, oddB b.length = false) ∧ (∀ w ∈ x.ws, wBad x.us.length w = false) ∧ (x.dead = true → x.ws.length = 0 ∧ ∀ b ∈ x.bs, posB b.length = false) := by
  unfold dskB
  simp only [Bool.and_eq_true, decide_eq_true_eq, Bool.not_eq_true', List.any_eq_false, List.mem_map, forall_exists_index, and_imp, forall_apply_eq_imp_iff₂, Bool.not_eq_true, Bool.and_eq_false_iff, Bool.or_eq_false_iff, decide_eq_false_iff_not]
  constructor
  · rintro ⟨⟨⟨h1, h2⟩, h3⟩, h4⟩
    refine ⟨h1, h2, h3, fun hd => ?_⟩
    rcases h4 with h4 | ⟨h4, h5⟩
    · rw [hd] at h4; cases h4
    · exact ⟨by omega, h5⟩
  · rintro ⟨h1, h2, h3, h4⟩
    refine ⟨⟨⟨h1, h2⟩, h3⟩, ?_⟩
    cases hd : x.dead
    · exact .inl rfl
    · obtain ⟨h5, h6⟩ := h4 hd
      exact .inr ⟨by omega, h6⟩
theorem fuaD_dsk {x : DKW} (hx : x.ok) (h : wrtE x.d x.a x.b = 0) : dskB (fuaD x) = true := by
  obtain ⟨q1, q2, q3, q4⟩ := wrt0 h
  obtain ⟨d1, d2, d3, d4⟩ := dskB_iff.1 q1
  have hbl := oddB_no q3
  obtain ⟨p1, p2⟩ := pad_at hbl hx.b.2
  have hkl := keepW_le x.a (x.d.ws.map clnW)
  rw [List.length_map] at hkl
  refine dskB_iff.2 ⟨?_, fun b hb => ?_, fun w hw => ?_, fun hd => ?_⟩
  · rw [fuaD_len]
    have : (fuaD x).ws.length ≤ x.d.ws.length := hkl
    omega
  · rcases List.mem_or_eq_of_mem_set hb with h | rfl
    · exact d2 b h
    · rw [p2]; rfl
  · rw [fuaD_len]
    obtain ⟨v, hv, rfl, _⟩ := keepW_mem hw
    exact d3 v hv
  · have hd : x.d.dead = true := hd
    rw [q4] at hd; cases hd
theorem lastW_keep {p a : Int} (hp : p ≠ a) (L : List WR) : lastW p (keepW a (L.map clnW)).reverse = lastW p L.reverse := by
  have h1 : (keepW a (L.map clnW)).reverse = keepW a (L.reverse.map clnW) := by unfold keepW; rw [← List.filter_reverse, ← List.map_reverse]
  rw [h1]
  generalize L.reverse = M
  induction M with
  | nil => rfl
  | cons w M ih =>
    rw [List.map_cons]
    by_cases ha : w.at_ = a
    · have e : keepW a (clnW w :: M.map clnW) = keepW a (M.map clnW) := by
        unfold keepW wAt; rw [List.filter_cons_of_neg]; show ¬ (!decide (w.at_ = a)) = true; simp [ha]
      rw [e, ih]
      show _ = if w.at_ = p then _ else _
      rw [if_neg (fun e : w.at_ = p => hp (by rw [← e, ha]))]
    · have e : keepW a (clnW w :: M.map clnW) = clnW w :: keepW a (M.map clnW) := by
        unfold keepW wAt; rw [List.filter_cons_of_pos]; show (!decide (w.at_ = a)) = true; simp [ha]
      rw [e]
      show (if w.at_ = p then some w.b else _) = if w.at_ = p then some w.b else _
      rw [ih]
theorem lastW_none {p a : Int} (hp : p = a) (L : List WR) : lastW p (keepW a (L.map clnW)).reverse = none := by
  have hno : ∀ M : List WR, (∀ w ∈ M, w.at_ ≠ p) → lastW p M = none := fun M => by
    induction M with
    | nil => intro _; rfl
    | cons w M ih =>
      intro h
      show (if w.at_ = p then _ else _) = _
      rw [if_neg (h w (by simp)), ih fun v hv => h v (by simp [hv])]
  refine hno _ fun w hw => ?_
  obtain ⟨v, _, rfl, hv⟩ := keepW_mem (List.mem_reverse.1 hw)
  rw [hp]; exact hv
theorem drdB_fua {x : DKW} (hx : x.ok) (h : wrtE x.d x.a x.b = 0) {p : Int} (hp : 0 ≤ p) : drdB (fuaD x) p = if p = x.a then pad x.b else drdB x.d p := by
  obtain ⟨q1, q2, q3, q4⟩ := wrt0 h
  have hl := hx.d.a.bs.length
  unfold drdB drdL
  by_cases hpa : p = x.a
  · rw [if_pos hpa]
    show (lastW p (keepW x.a (x.d.ws.map clnW)).reverse).getD ((x.d.bs.set x.a.toNat (pad x.b)).getD p.toNat []) = _
    rw [lastW_none hpa, hpa]
    show (x.d.bs.set x.a.toNat (pad x.b)).getD x.a.toNat [] = _
    rw [List.getD_eq_getElem?_getD, List.getElem?_set_self (by omega)]; rfl
  · rw [if_neg hpa]
    show (lastW p (keepW x.a (x.d.ws.map clnW)).reverse).getD ((x.d.bs.set x.a.toNat (pad x.b)).getD p.toNat []) = _
    rw [lastW_keep hpa]
    congr 1
    rw [List.getD_eq_getElem?_getD, List.getD_eq_getElem?_getD, List.getElem?_set_ne (by omega)]
def laidD (lg a : Int) : DK → List (AV × List Nat) → Nat → DK
  | d, [], _ => d
  | d, p :: l, i => laidD lg a (fuaD ⟨d, 1 + (a + (i : Int)) % lg, p.1, p.2⟩) l (i + 1)
structure RDK (lg : Int) (d : DK) : Prop where
  ok : d.ok
  dsk : dskB d = true
  len : (d.us.length : Int) = lg + 1
  dead : d.dead = false
  lo : 1 ≤ lg ∧ lg ≤ 255
theorem RDK.place {lg a : Int} {d : DK} (h : RDK lg d) (i : Nat) : 0 ≤ (a + (i : Int)) % lg ∧ (a + (i : Int)) % lg < lg := by
  have := h.lo
  exact ⟨Int.emod_nonneg _ (by omega), Int.emod_lt_of_pos _ (by omega)⟩
theorem RDK.wrt {lg a : Int} {d : DK} (h : RDK lg d) (i : Nat) {b : List Nat} (hb : b.length = 0 ∨ b.length = 128) : wrtE d (1 + (a + (i : Int)) % lg) b = 0 := by
  have hp := h.place (a := a) i
  have hl := h.len
  unfold wrtE plcE
  rw [if_pos h.dsk, if_pos (show 0 ≤ 1 + (a + (i : Int)) % lg ∧ 1 + (a + (i : Int)) % lg < d.us.length by omega)]
  have ho : oddB b.length = false := by rcases hb with h | h <;> rw [h] <;> rfl
  simp [ho, h.dead]
theorem RDK.wok {lg a : Int} {d : DK} (h : RDK lg d) (i : Nat) {u : AV} {b : List Nat} (hu : BAt u b) (hb : b.length = 0 ∨ b.length = 128) : DKW.ok ⟨d, 1 + (a + (i : Int)) % lg, u, b⟩ := by
  have hp := h.place (a := a) i
  have hl := h.lo
  exact ⟨h.ok, by unfold i64B; dsimp only; omega, hu, by dsimp only; omega⟩
theorem RDK.next {lg a : Int} {d : DK} (h : RDK lg d) (i : Nat) {u : AV} {b : List Nat} (hu : BAt u b) (hb : b.length = 0 ∨ b.length = 128) : RDK lg (fuaD ⟨d, 1 + (a + (i : Int)) % lg, u, b⟩) :=
  ⟨fuaD_ok (h.wok i hu hb) (h.wrt i hb), fuaD_dsk (h.wok i hu hb) (h.wrt i hb), by rw [fuaD_len]; exact h.len, h.dead, h.lo⟩
theorem place_ne {lg a : Int} {i j : Nat} (hij : i < j) (hj : (j : Int) < lg + (i : Int)) (hl : 1 ≤ lg) : (a + (i : Int)) % lg ≠ (a + (j : Int)) % lg := by
  intro e
  have h1 := Int.emod_emod_of_dvd (a + (j : Int)) (Int.dvd_refl lg)
  have h2 : (a + (j : Int) - (a + (i : Int))) % lg = 0 := Int.emod_eq_emod_iff_emod_sub_eq_zero.1 e.symm
  rw [show a + (j : Int) - (a + (i : Int)) = (j : Int) - (i : Int) by omega, Int.emod_eq_of_lt (by omega) (by omega)] at h2
  omega
theorem laidD_spec {lg a : Int} : ∀ (l : List (AV × List Nat)) (d : DK) (i : Nat), RDK lg d → (∀ p ∈ l, BAt p.1 p.2 ∧ (p.2.length = 0 ∨ p.2.length = 128)) → (l.length : Int) ≤ lg →
    RDK lg (laidD lg a d l i) ∧ (∀ p : Int, 0 ≤ p → (∀ j, j < l.length → p ≠ 1 + (a + ((i + j : Nat) : Int)) % lg) → drdB (laidD lg a d l i) p = drdB d p) ∧
    (∀ (j : Nat) q, l[j]? = some q → drdB (laidD lg a d l i) (1 + (a + ((i + j : Nat) : Int)) % lg) = pad q.2)
  | [], d, i, h, _, _ => ⟨h, fun _ _ _ => rfl, fun j q h => by simp at h⟩
  | p :: l, d, i, h, hl, hn => by
    obtain ⟨hu, hb⟩ := hl p (by simp)
    have hnx := h.next (a := a) i hu hb
    have hlo := h.lo
    rw [List.length_cons] at hn
    obtain ⟨s1, s2, s3⟩ := laidD_spec l _ (i + 1) hnx (fun q hq => hl q (by simp [hq])) (by omega)
    have hrd := fun {q : Int} (hq : 0 ≤ q) => drdB_fua (h.wok i hu hb) (h.wrt (a := a) i hb) hq
    refine ⟨s1, fun q hq0 hq => ?_, fun j q hj => ?_⟩
    · show drdB (laidD lg a _ l (i + 1)) q = _
      rw [s2 q hq0 (fun j hj => by
        have := hq (j + 1) (by rw [List.length_cons]; omega)
        rwa [show i + (j + 1) = i + 1 + j by omega] at this), hrd hq0, if_neg]
      have := hq 0 (by rw [List.length_cons]; omega)
      rwa [Nat.add_zero] at this
    · show drdB (laidD lg a _ l (i + 1)) _ = _
      cases j with
      | zero =>
        simp at hj; subst hj
        have hp := h.place (a := a) i
        rw [show ((i + 0 : Nat) : Int) = (i : Int) by omega]
        rw [s2 _ (by omega) (fun j hj e => ?_), hrd (by omega), if_pos rfl]
        exact place_ne (lg := lg) (a := a) (i := i) (j := i + 1 + j) (by omega) (by omega) (by omega) (by omega)
      | succ j =>
        have := s3 j q (by simpa using hj)
        rwa [show i + 1 + j = i + (j + 1) by omega] at this
end Go.AM

set_option linter.unusedVariables false
set_option linter.unusedSimpArgs false
set_option maxRecDepth 100000
namespace Go.AM
attribute [local irreducible] W
open X
structure LD where
  c : Cfg
  d : DK
  a : Int
  v : AV
  l : List (AV × List Nat)
structure LD.ok (x : LD) : Prop where
  c : x.c.ok
  r : RDK x.c.log x.d
  a : 0 ≤ x.a ∧ x.a < x.c.log
  v : Sl 1 x.l.length (x.l.map Prod.fst) x.v
  l : ∀ p ∈ x.l, BAt p.1 p.2 ∧ (p.2.length = 0 ∨ p.2.length = 128)
  n : (x.l.length : Int) ≤ x.c.log
def LD.args (x : LD) : List AV := [x.c.v, x.d.v, .int .i64 x.a, x.v]
def LD.out (x : LD) : AV := .tup [(laidD x.c.log x.a x.d x.l 0).v, .bool true]
theorem l_inj : ∀ {l m : List (AV × List Nat)}, (∀ p ∈ l, BAt p.1 p.2) → (∀ p ∈ m, BAt p.1 p.2) → l.map Prod.fst = m.map Prod.fst → l = m
  | [], [], _, _, _ => rfl
  | [], _ :: _, _, _, h => by cases h
  | _ :: _, [], _, _, h => by cases h
  | (u, b) :: l, (u', b') :: m, hl, hm, h => by
    rw [List.map_cons, List.map_cons] at h
    obtain ⟨h1, h2⟩ := List.cons.inj h
    dsimp only at h1
    subst h1
    have h3 := (hl (u, b) (by simp)).inj (hm (u, b') (by simp))
    dsimp only at h3
    rw [h3, l_inj (fun p hp => hl p (by simp [hp])) (fun p hp => hm p (by simp [hp])) h2]
theorem LD.inja {x y : LD} (hx : x.ok) (hy : y.ok) (h : x.args = y.args) : x = y := by
  obtain ⟨c, d, a, v, l⟩ := x
  obtain ⟨c', d', a', v', l'⟩ := y
  have h0 := Cfg.injv (List.cons.inj h).1
  have h1 := DK.inj hx.r.ok.a hy.r.ok.a (List.cons.inj (List.cons.inj h).2).1
  have h2 := (List.cons.inj (List.cons.inj (List.cons.inj h).2).2).1
  have h3 := (List.cons.inj (List.cons.inj (List.cons.inj (List.cons.inj h).2).2).2).1
  injection h2 with _ h2
  dsimp only at h0 h1 h2 h3
  subst h0 h1 h2 h3
  have h4 := hx.v.l_inj hy.v
  have h5 := l_inj (fun p hp => (hx.l p hp).1) (fun p hp => (hy.l p hp).1) h4
  dsimp only at h5
  rw [h5]
theorem LD.hfa {x : LD} (hx : x.ok) : hfs x.args = true := by
  show (AM.hf x.c.v && (AM.hf x.d.v && (true && (AM.hf x.v && true)))) = true
  rw [DK.hf hx.r.ok.a, hx.v.hf]; rfl
theorem laidD_ok {x : LD} (hx : x.ok) : RDK x.c.log (laidD x.c.log x.a x.d x.l 0) := (laidD_spec x.l x.d 0 hx.r hx.l hx.n).1
theorem LD.hfo {x : LD} (hx : x.ok) : AM.hf x.out = true := by
  show (AM.hf (DK.v _) && (true && true)) = true
  rw [DK.hf (laidD_ok hx).ok.a]; rfl
def ldF : Fam LD := ⟨LD.ok, LD.args, LD.out, fun x y hx hy h => by rw [LD.inja hx hy h]⟩
def code49 : AC := match a49 with | .mk c _ => c
theorem laidD_step {lg a : Int} : ∀ (l : List (AV × List Nat)) (d : DK) (i j : Nat) (p : AV × List Nat), l[j]? = some p → laidD lg a d (l.take (j + 1)) i = fuaD ⟨laidD lg a d (l.take j) i, 1 + (a + ((i + j : Nat) : Int)) % lg, p.1, p.2⟩
  | [], d, i, j, p, h => by simp at h
  | q :: l, d, i, 0, p, h => by simp at h; subst h; rfl
  | q :: l, d, i, j + 1, p, h => by
    have := laidD_step (lg := lg) (a := a) l (fuaD ⟨d, 1 + (a + (i : Int)) % lg, q.1, q.2⟩) (i + 1) j p (by simpa using h)
    rw [show i + 1 + j = i + (j + 1) by omega] at this
    exact this
theorem ldF_ok {P : Program} {e : Env} {fn : Func} (hE : EnvOk P e) (hm : P.follows .mixedOrders = true) (h35 : Con e 35 onF.O) (h92 : Con e 92 fuaF.O) (hf : P.funcs[49]? = some fn) (hc : compF P fn = some a49) (hb : HasBody P 49) : OvOk P 49 ldF.O := by
  refine Fam.ok_of hb fun x hx => ?_
  refine ⟨LD.hfa hx, LD.hfo hx, C.of_V hE hm hf hc ?_⟩
  have hstep := fun i => laidD_spec (lg := x.c.log) (a := x.a) (x.l.take i) x.d 0 hx.r (fun p hp => hx.l p (List.mem_of_mem_take hp)) (by have := hx.n; rw [List.length_take]; omega)
  have hDok : ∀ i, RDK x.c.log (laidD x.c.log x.a x.d (x.l.take i) 0) := fun i => (hstep i).1
  have hfua : ∀ (i : Nat) p, x.l[i]? = some p → ∀ (K : AV → St → Prop) (s : St), K (.tup [(laidD x.c.log x.a x.d (x.l.take (i + 1)) 0).v, .int .i64 0]) s → ESc e 92 [(laidD x.c.log x.a x.d (x.l.take i) 0).v, .int .i64 (1 + (x.a + (i : Int)) % x.c.log), p.1] s K := fun i p hp K s hk => by
    have hpo := hx.l p (List.mem_of_getElem? hp)
    have hw := (hDok i).wok (a := x.a) i hpo.1 hpo.2
    have hz := (hDok i).wrt (a := x.a) i hpo.2
    refine ESc.fam fuaF h92 ⟨laidD x.c.log x.a x.d (x.l.take i) 0, 1 + (x.a + (i : Int)) % x.c.log, p.1, p.2⟩ hw ?_ hk
    show fuaOut _ = _
    unfold fuaOut
    rw [if_pos hz, laidD_step x.l x.d 0 i p hp, Nat.zero_add]
  have hpl := fun i : Nat => hx.r.place (a := x.a) i
  have hend : laidD x.c.log x.a x.d (x.l.take x.l.length) 0 = laidD x.c.log x.a x.d x.l 0 := by rw [List.take_length]
  have h00 : laidD x.c.log x.a x.d (x.l.take 0) 0 = x.d := by rw [List.take_zero]; rfl
  have hdfs : ∀ i, hfs (laidD x.c.log x.a x.d (x.l.take i) 0).c = true := fun i => DKhf (hDok i).ok.a.wl (hDok i).ok.a.bl
  have hvc : ∀ i, (laidD x.c.log x.a x.d (x.l.take i) 0).v = .agg (laidD x.c.log x.a x.d (x.l.take i) 0).c := fun i => rfl
  have hout : ldF.out x = .tup [.agg (laidD x.c.log x.a x.d (x.l.take x.l.length) 0).c, .bool true] := by rw [hend]; rfl
  rw [hout]
  generalize hDg : (fun i => (laidD x.c.log x.a x.d (x.l.take i) 0).c) = D at *
  have hDi : ∀ i, (laidD x.c.log x.a x.d (x.l.take i) 0).c = D i := fun i => by rw [← hDg]
  have hcl : ∀ i, ∃ a b c, D i = [a, b, c] := fun i => ⟨_, _, _, (hDi i).symm⟩
  simp only [hDi, hvc] at hfua hdfs ⊢
  have hd0 : x.d.v = .agg (D 0) := by rw [← hDi, h00]; rfl
  have hlo := hx.r.lo
  have hn := hx.n
  have ha := hx.a
  have hsl := hx.v
  have hlf := hsl.hf
  obtain ⟨⟨id, mb, ch, rw', lg, hdd⟩, d, a, v, l⟩ := x
  dsimp only at hd0 hlo hn ha hsl hlf hfua hpl
  show VW P e 0 code49 (initT [.agg [.int .u32 id, .int .i64 mb, .int .i64 ch, .int .i64 rw', .int .i64 lg, .int .i64 hdd], d.v, .int .i64 a, v] 0 .lf) St0 none [] _
  rw [hd0]
  obtain ⟨n, hnl⟩ : ∃ n, n = l.length := ⟨_, rfl⟩
  dsimp only
  rw [← hnl] at hn hsl ⊢
  clear hDg hDi hvc hend h00 hout hDok hstep hx hd0
  obtain ⟨a0, b0, c0, hD0⟩ := hcl 0
  have hD0f := hdfs 0
  rw [hD0] at hD0f ⊢
  conv => whnf
  refine W.loopT (α := Nat) (fun i => [(2, .int .i64 a), (3, v), (4, .ptr 0 0), (5, .ptr 1 0), (8, .ptr 2 0), (10, .int .i64 (i : Int))]) (fun i => [.row 24 [.int .u32 id, .int .i64 mb, .int .i64 ch, .int .i64 rw', .int .i64 lg, .int .i64 hdd], .row 28 (D i), .row 28 zDk]) (fun i => n - i) (fun i => i ≤ n) 0 (Nat.zero_le _)
    (Abs.tells (rs := [0, 1, 2]) ⟨by decide, ⟨⟨rfl, rfl⟩, ⟨hf_bd _ hlf, by rw [hf_mapV _ hlf]; rfl⟩, ⟨rfl, rfl⟩, ⟨rfl, rfl⟩, ⟨rfl, rfl⟩, ⟨rfl, rfl⟩, trivial⟩, ⟨⟨rfl, rfl⟩, ⟨by rw [hD0]; exact rowH hD0f, by rw [hD0, mapRowH hD0f]; rfl⟩, ⟨rfl, rfl⟩, trivial⟩⟩) ?_
  intro i hi
  dsimp only at hi ⊢
  refine vw_sound hE hm ?_
  by_cases hlt : i < n
  · obtain ⟨p, hp⟩ : ∃ p, l[i]? = some p := ⟨_, List.getElem?_eq_getElem (by omega)⟩
    have hF := hfua i p hp
    have hpi := hpl i
    obtain ⟨a1, b1, c1, hD1⟩ := hcl i
    obtain ⟨a2, b2, c2, hD2⟩ := hcl (i + 1)
    have hD1f := hdfs i
    have hD2f := hdfs (i + 1)
    rw [hD2] at hD2f
    rw [hD1] at hD1f ⊢
    rw [hD1, hD2] at hF
    have hget : ((l.map Prod.fst).drop (i * 1))[0]? = some p.1 := by rw [Nat.mul_one, List.getElem?_drop, Nat.add_zero, List.getElem?_map, hp]; rfl
    have honk : onF.ok ⟨lg, a, (i : Int)⟩ := ⟨by unfold i64B; dsimp only; omega, by unfold i64B; dsimp only; omega, by unfold i64B; dsimp only; omega⟩
    have hon : onF.out ⟨lg, a, (i : Int)⟩ = .tup [.int .i64 ((a + (i : Int)) % lg), .int .i64 0] := by
      have : onOk ⟨lg, a, (i : Int)⟩ = true := by unfold onOk hasB; dsimp only; rw [decide_eq_true (by omega), decide_eq_true (by omega), decide_eq_true (by omega)]; rfl
      show (if onOk _ then _ else _) = _; rw [if_pos this]
    conv => whnf
    refine EPrim.lenZ rfl hsl ?_
    conv => whnf
    refine EPrim.lss2 (a := (i : Int)) (b := (n : Int)) rfl rfl (fun _ => ?_) (fun h => by omega)
    conv => whnf
    refine ESc.fam onF h35 ⟨lg, a, (i : Int)⟩ honk hon ?_
    conv => whnf
    repeat' (first | (refine EPrim.ixsS rfl hsl rfl hlt ?_; conv => whnf) | (refine EHead.mk (v := p.1) hget ?_; conv => whnf) | (refine hF _ _ ?_; conv => whnf) | ((refine w6 rfl rfl ?_ ?_) <;> intro _ <;> first | (exfalso; omega) | (conv => whnf)) | ((first | refine w7 rfl rfl (by omega) ?_ | refine ⟨rfl, ?_⟩); conv => whnf) | fail)
    refine ⟨i + 1, hlt, by omega, ?_⟩
    rw [hD2]
    exact Abs.tells (rs := [0, 1, 2]) ⟨by decide, ⟨⟨rfl, rfl⟩, ⟨hf_bd _ hlf, by rw [hf_mapV _ hlf]; rfl⟩, ⟨rfl, rfl⟩, ⟨rfl, rfl⟩, ⟨rfl, rfl⟩, ⟨rfl, rfl⟩, trivial⟩, ⟨⟨rfl, rfl⟩, ⟨rowH hD2f, by rw [mapRowH hD2f]; rfl⟩, ⟨rfl, rfl⟩, trivial⟩⟩
  · have hie : i = n := by omega
    subst hie
    obtain ⟨a1, b1, c1, hD1⟩ := hcl i
    have hD1f := hdfs i
    rw [hD1] at hD1f ⊢
    conv => whnf
    refine EPrim.lenZ rfl hsl ?_
    conv => whnf
    refine EPrim.lss2 (a := (i : Int)) (b := (i : Int)) rfl rfl (fun h => by omega) (fun _ => ?_)
    conv => whnf
    refine .plain _ ?_
    show (hfs [a1, b1, c1] && (true && true)) = true
    rw [hD1f]; rfl
end Go.AM

set_option linter.unusedVariables false
set_option linter.unusedSimpArgs false
set_option maxRecDepth 100000
namespace Go.AM
attribute [local irreducible] W
open X
theorem wholeN_head {b : List Nat} (h : b.length ≤ 128) : ∃ x l, wholeN b = x :: l := by
  have := wholeN_length h
  cases hw : wholeN b with
  | nil => rw [hw] at this; cases this
  | cons x l => exact ⟨x, l, rfl⟩
theorem see_put (q : Int × List Nat) (h : q.2.length ≤ 128) : rdBad (recN q) (stoodN q.2) = false ∧ rdSee (recN q) (stoodN q.2) = wholeN q.2 := by
  obtain ⟨sl, b⟩ := q
  obtain ⟨x, l, hw⟩ := wholeN_head h
  dsimp only
  have hb : bareQ b = (x == 78) := by unfold bareQ; rw [hw]; rfl
  unfold rdBad rdSee recN
  dsimp only
  have hs : stoodN b = if (x == 78) = true then 0 :: l else x :: l := by unfold stoodN; rw [hb, hw]; rfl
  rw [hb]
  by_cases hx : x = 78
  · subst hx
    have hs : stoodN b = 0 :: l := hs
    rw [hs, hw]
    exact ⟨by simp, rfl⟩
  · have hx' : (x == 78) = false := by simpa using hx
    rw [hx'] at hs ⊢
    have hs : stoodN b = x :: l := hs
    rw [hs, hw]
    exact ⟨by simp [hx], rfl⟩
def putP (st : RdS) (q : Int × List Nat) : RdS := if q.1 = 255 then ⟨st.S, some (wholeN q.2)⟩ else ⟨st.S ++ [(q.1, wholeN q.2)], st.p⟩
theorem rdGo_put {B : Nat → List Nat} : ∀ (L : List (Int × List Nat)) (n i : Nat) (st : RdS), L.length ≤ n → (∀ (t : Nat) q, L[t]? = some q → B (i + t) = stoodN q.2 ∧ q.2.length ≤ 128) → rdGo B (L.map recN) n i st = some (L.foldl putP st)
  | [], n, i, st, _, _ => by cases n <;> rfl
  | q :: L, 0, i, st, h, _ => by simp at h
  | q :: L, n + 1, i, st, h, hB => by
    obtain ⟨h1, h2⟩ := hB 0 q rfl
    rw [Nat.add_zero] at h1
    obtain ⟨e1, e2⟩ := see_put q h2
    show (if rdBad (recN q) (B i) = true then none else rdGo B (L.map recN) n (i + 1) (rdPut (recN q) (B i) st)) = _
    rw [h1, e1, if_neg (by decide)]
    have hp : rdPut (recN q) (stoodN q.2) st = putP st q := by
      unfold rdPut putP
      rw [e2]; rfl
    rw [hp, rdGo_put L n (i + 1) _ (by simpa using h) (fun t p hp => by
      have := hB (t + 1) p (by simpa using hp)
      rwa [show i + (t + 1) = i + 1 + t by omega] at this)]
    rfl
theorem fold_put : ∀ (L : List (Int × List Nat)) (st : RdS), (∀ q ∈ L, q.1 ≠ 255) → L.foldl putP st = ⟨st.S ++ L.map (fun q => (q.1, wholeN q.2)), st.p⟩
  | [], st, _ => by simp
  | q :: L, st, h => by
    rw [List.foldl_cons]
    have : putP st q = ⟨st.S ++ [(q.1, wholeN q.2)], st.p⟩ := by unfold putP; rw [if_neg (h q (by simp))]
    rw [this, fold_put L _ (fun p hp => h p (by simp [hp]))]
    simp
def yOf (d : DB) : RdS := ⟨(d.sl.zip d.bs).map (fun q => (q.1, wholeN q.2)), if d.pb.length = 0 then none else some (wholeN d.pb)⟩
structure DGood (c : Cfg) (d : DB) : Prop where
  may : c.may
  odd : ∀ b ∈ d.bs, b.length = 0 ∨ b.length = 128
  st : 0 ≤ d.st ∧ d.st < c.chunk * c.rows
  sl : slotsOk (c.members - 2) d.sl = true
  n : d.bs.length = d.sl.length
  pb : d.pb.length = 0 ∨ d.pb.length = 128
theorem dgood_of {c : Cfg} {d : DB} (h : CD.good ⟨c, d.d⟩) : DGood c d := by
  obtain ⟨hM, hD⟩ := h
  unfold dealB at hD
  simp only [Bool.and_eq_true, decide_eq_true_eq, Bool.not_eq_true'] at hD
  obtain ⟨⟨⟨⟨hod, hst⟩, hsl⟩, hnl⟩, hpo⟩ := hD
  have hnl : (d.bs.map List.length).length = d.sl.length := hnl
  rw [List.length_map] at hnl
  exact ⟨hM, odd_all hod, hst, hsl, hnl, oddB_no hpo⟩
theorem DGood.s14 {c : Cfg} {d : DB} (h : DGood c d) : ∀ s ∈ d.sl, 0 ≤ s ∧ s ≤ 14 := by
  have hM := h.may
  unfold Cfg.may at hM
  exact slotsOk_bd h.sl (by omega)
theorem DGood.fold {c : Cfg} {d : DB} (h : DGood c d) : d.prs.foldl putP ⟨[], none⟩ = yOf d := by
  unfold DB.prs yOf
  rw [List.foldl_append, fold_put (d.sl.zip d.bs) _ (fun q hq => by
    have := h.s14 q.1 (List.of_mem_zip (show (q.1, q.2) ∈ _ from hq)).1
    omega)]
  by_cases hp : d.pb.length = 0
  · rw [if_pos hp, if_pos hp]
    show (⟨[] ++ _, none⟩ : RdS) = _
    rw [List.nil_append]
  · rw [if_neg hp, if_neg hp]
    show putP _ (255, d.pb) = _
    unfold putP
    rw [if_pos rfl]
    show (⟨[] ++ _, _⟩ : RdS) = _
    rw [List.nil_append]
theorem DGood.fst {c : Cfg} {d : DB} (h : DGood c d) : (yOf d).S.map Prod.fst = d.sl := by
  show ((d.sl.zip d.bs).map _).map Prod.fst = _
  rw [List.map_map]
  exact List.map_fst_zip (by rw [h.n]; exact Nat.le_refl _)
theorem DGood.snd {c : Cfg} {d : DB} (h : DGood c d) : (yOf d).S.map Prod.snd = d.bs.map wholeN := by
  show ((d.sl.zip d.bs).map _).map Prod.snd = _
  rw [List.map_map]
  have : (Prod.snd ∘ fun q : Int × List Nat => (q.1, wholeN q.2)) = wholeN ∘ Prod.snd := rfl
  rw [this, ← List.map_map, List.map_snd_zip (by rw [h.n]; exact Nat.le_refl _)]
theorem whole_pad {b : List Nat} (h : b.length = 0 ∨ b.length = 128) : pad (wholeN b) = pad b ∧ (wholeN b).length = 128 := by
  rcases h with h | h
  · have := List.length_eq_zero_iff.1 h
    subst this
    exact ⟨rfl, rfl⟩
  · rw [wholeN_128 h]; exact ⟨rfl, h⟩
theorem DGood.cd {c : Cfg} {d : DB} (h : DGood c d) : CD.good ⟨c, (rdDB d.st (yOf d)).d⟩ := by
  refine ⟨h.may, ?_⟩
  have e1 := h.fst
  have e2 := h.snd
  unfold dealB
  simp only [Bool.and_eq_true, decide_eq_true_eq, Bool.not_eq_true']
  refine ⟨⟨⟨⟨?_, h.st⟩, ?_⟩, ?_⟩, ?_⟩
  · show (((yOf d).S.map Prod.snd).map List.length).any oddB = false
    rw [e2, List.any_eq_false]
    intro n hn
    obtain ⟨b, hb, rfl⟩ := List.mem_map.1 hn
    obtain ⟨b', hb', rfl⟩ := List.mem_map.1 hb
    rw [(whole_pad (h.odd b' hb')).2]; decide
  · show slotsOk (c.members - 2) ((yOf d).S.map Prod.fst) = true
    rw [e1]; exact h.sl
  · show (((yOf d).S.map Prod.snd).map List.length).length = ((yOf d).S.map Prod.fst).length
    rw [e1, e2, List.length_map, List.length_map]; exact h.n
  · show oddB ((yOf d).p.getD []).length = false
    unfold yOf
    dsimp only
    by_cases hp : d.pb.length = 0
    · rw [if_pos hp]; rfl
    · rw [if_neg hp]
      show oddB (wholeN d.pb).length = false
      rw [(whole_pad h.pb).2]; rfl
theorem DGood.same {c : Cfg} {d : DB} (h : DGood c d) (hu : d.us.length = d.bs.length) : sameB (rdDB d.st (yOf d)) d = true := by
  have e1 := h.fst
  have e2 := h.snd
  have e3 : (rdDB d.st (yOf d)).us.length = d.us.length := by
    show ((yOf d).S.map _).length = _
    have := congrArg List.length e2
    rw [List.length_map, List.length_map] at this
    rw [List.length_map, this, hu]
  have e4 : (rdDB d.st (yOf d)).pb = d.pb := by
    show (yOf d).p.getD [] = _
    unfold yOf
    dsimp only
    by_cases hp : d.pb.length = 0
    · rw [if_pos hp]
      exact (List.length_eq_zero_iff.1 hp).symm
    · rw [if_neg hp]
      exact wholeN_128 (by have := h.pb; omega)
  have e5 : (rdDB d.st (yOf d)).bs.map pad = d.bs.map pad := by
    show ((yOf d).S.map Prod.snd).map pad = _
    rw [e2, List.map_map]
    refine List.map_congr_left fun b hb => ?_
    exact (whole_pad (h.odd b hb)).1
  have e6 : (rdDB d.st (yOf d)).sl = d.sl := e1
  unfold sameB
  rw [e3, e4, e5, e6]
  simp
  rfl
theorem DGood.yok {c : Cfg} {d : DB} (h : DGood c d) (hb : ∀ b ∈ d.bs, ∀ y ∈ b, y < 256) (hp : ∀ y ∈ d.pb, y < 256) : (yOf d).ok := by
  have hM := h.may
  unfold Cfg.may at hM
  have hl := slotsOk_len h.sl
  have e1 := congrArg List.length h.fst
  rw [List.length_map] at e1
  refine ⟨by omega, fun q hq => ?_, fun b hb' => ?_⟩
  · obtain ⟨p, hp, rfl⟩ := List.mem_map.1 (show q ∈ (d.sl.zip d.bs).map _ from hq)
    have hz := List.of_mem_zip (show (p.1, p.2) ∈ _ from hp)
    have := h.s14 p.1 hz.1
    exact ⟨by dsimp only; omega, (whole_pad (h.odd p.2 hz.2)).2, wholeN_lt (hb p.2 hz.2)⟩
  · have hb' : (if d.pb.length = 0 then none else some (wholeN d.pb)) = some b := hb'
    by_cases hq : d.pb.length = 0
    · rw [if_pos hq] at hb'; cases hb'
    · rw [if_neg hq] at hb'
      cases hb'
      exact ⟨(whole_pad h.pb).2, wholeN_lt hp⟩
theorem prs_len {c : Cfg} {d : DB} (h : DGood c d) : 1 ≤ d.prs.length ∧ (d.prs.length : Int) ≤ c.members ∧ (d.prs.length : Int) + 1 ≤ c.log := by
  have hM := h.may
  unfold Cfg.may at hM
  have h1 := slotsOk_pos h.sl
  have h2 := slotsOk_len h.sl
  have h7 : (c.members + 1) * (c.heads + 1) ≥ (c.members + 1) * 3 := Int.mul_le_mul_of_nonneg_left (by omega) (by omega)
  have h3 : d.prs.length = d.sl.length + (if d.pb.length = 0 then 0 else 1) := by
    unfold DB.prs
    rw [List.length_append, List.length_zip, h.n, Nat.min_self]
    split <;> rfl
  split at h3 <;> omega
theorem back_of {x : BD} (hx : x.ok) (hG : CD.good ⟨x.c, x.d.d⟩) (hN : noteB x.note = true) {c : Cfg} (hc : c = { x.c with id := c.id }) {X : DK} {a : Int} (hA : askE ⟨c, X, a⟩ = 0) (hB : ∀ (i : Nat) b, x.bb[i]? = some b → rbk ⟨c, X, a⟩ i = b) :
    rdF ⟨c, X, a⟩ = if x.c.id = c.id then some ⟨x.note, yOf x.d⟩ else none := by
  have hD := dgood_of hG
  have hp := deal_prs hG.1 hx.d hG.2
  have hr : ∀ r ∈ x.note.recs, r.ok := fun r hr => by
    obtain ⟨p, hp', rfl⟩ := List.mem_map.1 (show r ∈ x.d.prs.map recN from hr)
    exact recN_ok (hp p hp').1
  have h0 : rbk ⟨c, X, a⟩ 0 = noteBk x.note := hB 0 _ rfl
  have hnote : rdNote (noteBk x.note) = x.note := (rd_note hN hx.c.id hr).trans rfl
  have hgood := rdGood_noteBk hN hx.c.id hr
  have hl := prs_len hD
  have hlog : x.c.log = c.log := by rw [hc]
  have hgo : rdGo (rbk ⟨c, X, a⟩) x.note.recs (c.log.toNat - 1) 1 ⟨[], none⟩ = some (yOf x.d) := by
    rw [← hD.fold]
    refine rdGo_put x.d.prs _ 1 _ (by omega) fun t q hq => ?_
    refine ⟨?_, (hp q (List.mem_of_getElem? hq)).2⟩
    have := hB (t + 1) (stoodN q.2) (by show (x.d.prs.map _)[t]? = _; rw [List.getElem?_map, hq]; rfl)
    rwa [Nat.add_comm] at this
  have hcd : CD.good ⟨c, (rdDB x.note.stripe (yOf x.d)).d⟩ := by
    have := hD.cd
    obtain ⟨h1, h2⟩ := this
    rw [hc]
    exact ⟨h1, h2⟩
  unfold rdF
  rw [if_pos hA, h0, hnote]
  dsimp only
  by_cases hid : x.c.id = c.id
  · rw [if_pos ⟨hgood, hid⟩, if_pos hid, hgo]
    dsimp only
    rw [if_pos hcd]
  · rw [if_neg (fun h => hid h.2), if_neg hid]
end Go.AM

set_option linter.unusedVariables false
set_option linter.unusedSimpArgs false
set_option maxRecDepth 100000
namespace Go.AM
attribute [local irreducible] W
open X
def code14 : AC := match a14 with | .mk c _ => c
structure DBIn (e : Env) : Prop where
  h47 : Con e 47 trueO
  h32 : Con e 32 grtF.O
  h21 : Con e 21 grt4F.O
  h48 : Con e 48 blkF.O
  h23 : Con e 23 drF.O
  h53 : Con e 53 needF.O
  h49 : Con e 49 ldF.O
  h25 : Con e 25 sameF.O
theorem back_main (P : Program) (e : Env) (hE : EnvOk P e) (hm : P.follows .mixedOrders = true) {id mb ch rw' lg hdd a ag sq st : Int} {bv wv sv dv pv x1 x2 r1 r2 r3 : AV} {dd x3 : Bool} (hdf : hfs [bv, wv, .bool dd] = true) {k : Nat} {BL : List AV} (hk2 : 2 ≤ k) (hkm : (k : Int) ≤ mb + 1)
    (h47 : Con e 47 trueO)
    (hg1 : ∀ (K : AV → St → Prop) (s : St), K (.bool false) s → ESc e 32 [.agg [.int .i64 st, sv, dv, pv]] s K)
    (hg2 : ∀ (K : AV → St → Prop) (s : St), K (.bool false) s → ESc e 21 [.agg [bv, wv, .bool dd]] s K)
    (hbl : ∀ (K : AV → St → Prop) (s : St), K (.tup [.fz k none BL, .int .i64 0]) s → ESc e 48 [.agg [.int .u32 id, .int .i64 mb, .int .i64 ch, .int .i64 rw', .int .i64 lg, .int .i64 hdd], .int .u32 ag, .int .u32 sq, .agg [.int .i64 st, sv, dv, pv]] s K)
    (hr0 : ∀ (K : AV → St → Prop) (s : St), K (drErr 130) s → (∀ f : Fd, K (.tup [.agg f.c, .int .i64 (1 + (f.n.recs.length : Int)), .int .i64 0]) s) → ESc e 23 [.agg [.int .u32 id, .int .i64 mb, .int .i64 ch, .int .i64 rw', .int .i64 lg, .int .i64 hdd], .agg [bv, wv, .bool dd], .int .i64 a] s K)
    (hneed : ∀ (K : AV → St → Prop) (s : St), K (.tup [.int .i64 (mb + 1), .int .i64 0]) s → ESc e 53 [.agg [.int .u32 id, .int .i64 mb, .int .i64 ch, .int .i64 rw', .int .i64 lg, .int .i64 hdd]] s K)
    (hld : ∀ (K : AV → St → Prop) (s : St), K (.tup [.agg [x1, x2, .bool x3], .bool true]) s → ESc e 49 [.agg [.int .u32 id, .int .i64 mb, .int .i64 ch, .int .i64 rw', .int .i64 lg, .int .i64 hdd], .agg [bv, wv, .bool dd], .int .i64 a, .fz k none BL] s K)
    (hr1 : ∀ (K : AV → St → Prop) (s : St), K (.tup [.agg [.int .u32 ag, .int .u32 sq, .int .i64 st, r1, r2, r3], .int .i64 (k : Int), .int .i64 0]) s → ESc e 23 [.agg [.int .u32 id, .int .i64 mb, .int .i64 ch, .int .i64 rw', .int .i64 lg, .int .i64 hdd], .agg [x1, x2, .bool x3], .int .i64 a] s K)
    (hsame : ∀ (K : AV → St → Prop) (s : St), K (.bool true) s → ESc e 25 [.agg [.int .i64 st, r1, r2, r3], .agg [.int .i64 st, sv, dv, pv]] s K) :
    VW P e 0 code14 (initT [.agg [.int .u32 id, .int .i64 mb, .int .i64 ch, .int .i64 rw', .int .i64 lg, .int .i64 hdd], .agg [bv, wv, .bool dd], .int .i64 a, .int .u32 ag, .int .u32 sq, .agg [.int .i64 st, sv, dv, pv]] 0 .lf) St0 none [] (EEnd [.tmp 12] (fun u s => u = .bool true)) := by
  conv => whnf
  refine ESc.ov h47 rfl ?_
  conv => whnf
  refine hg1 _ _ ?_
  conv => whnf
  refine hg2 _ _ ?_
  conv => whnf
  repeat' (first | (refine w12 rfl ?_; conv => whnf) | fail)
  refine hbl _ _ ?_
  conv => whnf
  refine hr0 _ _ ?_ (fun f => ?_)
  · conv => whnf
    repeat' (first | (refine hneed _ _ ?_; conv => whnf) | (refine hld _ _ ?_; conv => whnf) | (refine hr1 _ _ ?_; conv => whnf) | (refine hsame _ _ ?_; conv => whnf) | ((first | refine w2 rfl rfl ?_ ?_ | refine w4 rfl rfl ?_ ?_ | refine w5 rfl rfl ?_ ?_ | refine w6 rfl rfl ?_ ?_) <;> intro _ <;> first | (exfalso; omega) | (conv => whnf)) | (refine w17 rfl ?_; conv => whnf) | fail)
    rfl
  · conv => whnf
    repeat' (first | (refine hneed _ _ ?_; conv => whnf) | (refine hld _ _ ?_; conv => whnf) | (refine hr1 _ _ ?_; conv => whnf) | (refine hsame _ _ ?_; conv => whnf) | ((first | refine w2 rfl rfl ?_ ?_ | refine w4 rfl rfl ?_ ?_ | refine w5 rfl rfl ?_ ?_ | refine w6 rfl rfl ?_ ?_) <;> intro _ <;> first | (exfalso; omega) | (conv => whnf)) | (refine w17 rfl ?_; conv => whnf) | fail)
    rfl
theorem back_law (P : Program) (e : Env) (hE : EnvOk P e) (hm : P.follows .mixedOrders = true) (hI : DBIn e) (c : Cfg) (hc : c.ok) (j : DK) (hj : j.any) (a : Int) (ha : i64B a) (ag sq : Int) (hag : u32B ag) (hsq : u32B sq) (d : DB) (hd : d.any) :
    VW P e 0 code14 (initT [c.v, j.v, .int .i64 a, .int .u32 ag, .int .u32 sq, d.d.v] 0 .lf) St0 none [] (EEnd [.tmp 12] (fun u s => u = .bool true)) := by
  have hjf := DKhf hj.wl hj.bl (d := j.dead)
  have hg1 := grt_call hI.h32 hd
  by_cases hq1 : grtB d = true
  · have hg1 : ∀ (K : AV → St → Prop) (s : St), K (.bool true) s → ESc e 32 [d.d.v] s K := fun K s hk => hg1 K s (fun _ => hk) (fun h => by rw [hq1] at h; cases h)
    obtain ⟨id, mb, ch, rw', lg, hdd⟩ := c
    obtain ⟨bv, us, bs, wv, ws, dd⟩ := j
    obtain ⟨st, sv, sl, dv, dus, dbs, pv, pb⟩ := d
    show VW P e 0 code14 (initT [.agg [.int .u32 id, .int .i64 mb, .int .i64 ch, .int .i64 rw', .int .i64 lg, .int .i64 hdd], .agg [bv, wv, .bool dd], .int .i64 a, .int .u32 ag, .int .u32 sq, .agg [.int .i64 st, sv, dv, pv]] 0 .lf) St0 none [] _
    conv => whnf
    refine ESc.ov hI.h47 rfl ?_
    conv => whnf
    refine hg1 _ _ ?_
    conv => whnf
    skip
    rfl
  have hq1 : grtB d = false := by simpa using hq1
  have hg1 : ∀ (K : AV → St → Prop) (s : St), K (.bool false) s → ESc e 32 [d.d.v] s K := fun K s hk => hg1 K s (fun h => by rw [hq1] at h; cases h) (fun _ => hk)
  by_cases hq2 : grt4B j = true
  · have hg2 : ∀ (K : AV → St → Prop) (s : St), K (.bool true) s → ESc e 21 [j.v] s K := fun K s hk => ESc.fam grt4F hI.h21 j hj (by show AV.bool _ = _; rw [hq2]) hk
    obtain ⟨id, mb, ch, rw', lg, hdd⟩ := c
    obtain ⟨bv, us, bs, wv, ws, dd⟩ := j
    obtain ⟨st, sv, sl, dv, dus, dbs, pv, pb⟩ := d
    show VW P e 0 code14 (initT [.agg [.int .u32 id, .int .i64 mb, .int .i64 ch, .int .i64 rw', .int .i64 lg, .int .i64 hdd], .agg [bv, wv, .bool dd], .int .i64 a, .int .u32 ag, .int .u32 sq, .agg [.int .i64 st, sv, dv, pv]] 0 .lf) St0 none [] _
    conv => whnf
    refine ESc.ov hI.h47 rfl ?_
    conv => whnf
    refine hg1 _ _ ?_
    conv => whnf
    refine hg2 _ _ ?_
    conv => whnf
    skip
    rfl
  have hq2 : grt4B j = false := by simpa using hq2
  have hg2 : ∀ (K : AV → St → Prop) (s : St), K (.bool false) s → ESc e 21 [j.v] s K := fun K s hk => ESc.fam grt4F hI.h21 j hj (by show AV.bool _ = _; rw [hq2]) hk
  have hjk := grt4_ok hj hq2
  have hdk := small_ok hd hq1
  have hBD : BD.ok ⟨c, ag, sq, d⟩ := ⟨hc, hag, hsq, hdk⟩
  have hblk := fun (K : AV → St → Prop) (s : St) (hk : K (blkOut ⟨c, ag, sq, d⟩) s) => ESc.fam blkF hI.h48 ⟨c, ag, sq, d⟩ hBD rfl hk
  have hCA : CDA.ok ⟨c, j, a⟩ := ⟨hc, hjk, ha⟩
  have hrd := rd_call hI.h23 hCA
  by_cases hG : CD.good ⟨c, d.d⟩ ∧ noteB (BD.note ⟨c, ag, sq, d⟩) = true
  · have hbo : blkOut ⟨c, ag, sq, d⟩ = .tup [.fz (d.prs.length + 1) none (blkV (noteBk (BD.note ⟨c, ag, sq, d⟩)) :: d.prs.map stoodV), .int .i64 0] := by
      unfold blkOut
      rw [if_pos hG.1, if_pos hG.2]
    rw [hbo] at hblk
    by_cases hA : askE ⟨c, j, a⟩ = 0
    · obtain ⟨hM, a2, a3, a4, a5⟩ := ask0 hA
      have hM : c.may := hM
      have a3 : (j.us.length : Int) = c.log + 1 := a3
      have a4 : 0 ≤ a ∧ a < c.log := a4
      have hDG := dgood_of hG.1
      have hpl := prs_len hDG
      have hM' := hM
      unfold Cfg.may at hM'
      have hR : RDK c.log j := ⟨hjk, a2, a3, a5, by have := Cfg.may_log hM; omega⟩
      obtain ⟨l, hl⟩ : ∃ l : List (AV × List Nat), l = (blkV (noteBk (BD.note ⟨c, ag, sq, d⟩)), noteBk (BD.note ⟨c, ag, sq, d⟩)) :: d.prs.map (fun p => (stoodV p, stoodN p.2)) := ⟨_, rfl⟩
      have hp := deal_prs hG.1.1 hdk hG.1.2
      have hl1 : l.map Prod.fst = blkV (noteBk (BD.note ⟨c, ag, sq, d⟩)) :: d.prs.map stoodV := by rw [hl, List.map_cons, List.map_map]; rfl
      have hl2 : l.map Prod.snd = BD.bb ⟨c, ag, sq, d⟩ := by rw [hl, List.map_cons, List.map_map]; rfl
      have hll : l.length = d.prs.length + 1 := by rw [hl, List.length_cons, List.length_map]
      have hlo : ∀ p ∈ l, BAt p.1 p.2 ∧ (p.2.length = 0 ∨ p.2.length = 128) := fun p hpm => by
        rw [hl] at hpm
        rcases List.mem_cons.1 hpm with rfl | hpm
        · exact ⟨⟨.inr (.inr ⟨some 128, by show blkV _ = .fz (noteBk _).length _ _; rw [noteBk_length]; rfl, by rw [bys_length]; omega⟩), noteBk_lt _⟩, .inr (noteBk_length _)⟩
        · obtain ⟨q, hq, rfl⟩ := List.mem_map.1 hpm
          have h1 := hp q hq
          exact ⟨fzB_at ⟨stoodN_length h1.2, stoodN_lt h1.1.2⟩, .inr (stoodN_length h1.2)⟩
      have hLD : LD.ok ⟨c, j, a, .fz (d.prs.length + 1) none (blkV (noteBk (BD.note ⟨c, ag, sq, d⟩)) :: d.prs.map stoodV), l⟩ := ⟨hc, hR, a4, by dsimp only; rw [hl1]; exact .inr (.inr ⟨none, by rw [hll], by rw [List.length_cons, List.length_map, hll, Nat.mul_one]⟩), hlo, by dsimp only; rw [hll]; omega⟩
      obtain ⟨s1, s2, s3⟩ := laidD_spec (a := a) l j 0 hR hlo (by rw [hll]; omega)
      obtain ⟨X, hX⟩ : ∃ X, X = laidD c.log a j l 0 := ⟨_, rfl⟩
      rw [← hX] at s1 s2 s3
      have hld : ∀ (K : AV → St → Prop) (s : St), K (.tup [X.v, .bool true]) s → ESc e 49 [c.v, j.v, .int .i64 a, .fz (d.prs.length + 1) none (blkV (noteBk (BD.note ⟨c, ag, sq, d⟩)) :: d.prs.map stoodV)] s K := fun K s hk => ESc.fam ldF hI.h49 _ hLD (by show AV.tup [(laidD c.log a j l 0).v, _] = _; rw [← hX]) hk
      have hAX : askE ⟨c, X, a⟩ = 0 := by
        unfold askE
        dsimp only
        rw [if_pos hM, if_pos ⟨s1.dsk, s1.len⟩, if_pos a4, s1.dead]; rfl
      have hrb : ∀ (i : Nat) b, (BD.bb ⟨c, ag, sq, d⟩)[i]? = some b → rbk ⟨c, X, a⟩ i = b := fun i b hb => by
        rw [← hl2, List.getElem?_map] at hb
        cases hq : l[i]? with
        | none => rw [hq] at hb; cases hb
        | some q =>
          rw [hq] at hb
          have := s3 i q hq
          rw [Nat.zero_add] at this
          have hqo := hlo q (List.mem_of_getElem? hq)
          have hb : q.2 = b := Option.some.inj hb
          show pad (drdB X (1 + (a + (i : Int)) % c.log)) = b
          rw [this, ← hb]
          have h128 : q.2.length = 128 := by
            have hqm := List.mem_of_getElem? hq
            rw [hl] at hqm
            rcases List.mem_cons.1 hqm with rfl | hqm
            · exact noteBk_length _
            · obtain ⟨p, hp', rfl⟩ := List.mem_map.1 hqm
              exact stoodN_length (hp p hp').2
          rw [pad_of h128, pad_of h128]
      have hF := back_of (c := c) hBD hG.1 hG.2 rfl hAX hrb
      rw [if_pos rfl] at hF
      have hCX : CDA.ok ⟨c, X, a⟩ := ⟨hc, s1.ok, ha⟩
      have hr1 : ∀ (K : AV → St → Prop) (s : St), K (.tup [.agg [.int .u32 ag, .int .u32 sq, .int .i64 d.st, rslV (yOf d).S, rblV (yOf d).S, rpaV (yOf d).p], .int .i64 ((d.prs.length + 1 : Nat) : Int), .int .i64 0]) s → ESc e 23 [c.v, X.v, .int .i64 a] s K := fun K s hk => rd_call hI.h23 hCX K s (fun h => by rw [hF] at h; cases h) (fun f hf => by
        rw [hF] at hf
        cases hf
        have : (1 + (((BD.note ⟨c, ag, sq, d⟩).recs.length : Nat) : Int)) = ((d.prs.length + 1 : Nat) : Int) := by
          show 1 + (((d.prs.map recN).length : Nat) : Int) = _
          rw [List.length_map]; omega
        rw [this]; exact hk)
      have hyo : (yOf d).ok := hDG.yok (fun b hb => by
        obtain ⟨u, hu⟩ := hdk.bs.memR b hb
        exact hu.2) hdk.pb.2
      have hda := rdDB_ok hyo (st := d.st) hd.st
      have hsame : ∀ (K : AV → St → Prop) (s : St), K (.bool true) s → ESc e 25 [.agg [.int .i64 d.st, rslV (yOf d).S, rblV (yOf d).S, rpaV (yOf d).p], d.d.v] s K := fun K s hk => by
        have ha' : (rdDB d.st (yOf d)).any := by
          obtain ⟨⟨a, b, c, n, ⟨bl, _, bn⟩, _⟩, bs, pb⟩ := hda
          exact ⟨a, b, c, bl, bs, pb⟩
        have hn1 := hyo.n
        refine ESc.fam sameF hI.h25 ⟨rdDB d.st (yOf d), d⟩ ⟨ha', hd, fun b hb => ?_, hDG.odd, ?_⟩ (u := .bool true) ?_ hk
        · obtain ⟨q, hq, rfl⟩ := List.mem_map.1 (show b ∈ (yOf d).S.map Prod.snd from hb)
          exact .inr (hyo.s q hq).2.1
        · show ((yOf d).S.map Prod.fst).length < _ ∧ ((yOf d).S.map _).length < _
          rw [List.length_map, List.length_map]; omega
        · show AV.bool (sameB _ _) = _
          rw [hDG.same hdk.bs.length]
      have hneed : ∀ (K : AV → St → Prop) (s : St), K (.tup [.int .i64 (c.members + 1), .int .i64 0]) s → ESc e 53 [c.v] s K := fun K s hk => ESc.fam needF hI.h53 c hc (by show AV.tup [.int .i64 (if _ then _ else _), .int .i64 (if _ then _ else _)] = _; rw [if_pos hM, if_pos hM]) hk
      have hr0 : ∀ (K : AV → St → Prop) (s : St), K (drErr 130) s → (∀ f : Fd, K (.tup [.agg f.c, .int .i64 (1 + (f.n.recs.length : Int)), .int .i64 0]) s) → ESc e 23 [c.v, j.v, .int .i64 a] s K := fun K s k1 k2 => hrd K s (fun _ => by rw [show errF ⟨c, j, a⟩ = 130 by unfold errF; rw [if_pos hA]]; exact k1) (fun f _ => k2 f)
      have hmb : ((d.prs.length + 1 : Nat) : Int) ≤ c.members + 1 := by omega
      have hk2 : 2 ≤ d.prs.length + 1 := by omega
      obtain ⟨id, mb, ch, rw', lg, hdd⟩ := c
      obtain ⟨bv, us, bs, wv, ws, dd⟩ := j
      obtain ⟨x1, xu, xb, x2, xw, x3⟩ := X
      generalize d.prs.length + 1 = k at *
      generalize rslV (yOf d).S = r1 at *
      generalize rblV (yOf d).S = r2 at *
      generalize rpaV (yOf d).p = r3 at *
      obtain ⟨st, sv, sl, dv, dus, dbs, pv, pb⟩ := d
      exact back_main P e hE hm hjf hk2 hmb hI.h47 hg1 hg2 hblk hr0 hneed hld hr1 hsame
    · have hrd : ∀ (K : AV → St → Prop) (s : St), (∀ n, n ≠ 0 → n ≠ 130 → K (drErr n) s) → ESc e 23 [c.v, j.v, .int .i64 a] s K := fun K s k1 => hrd K s (fun _ => by
        rw [show errF ⟨c, j, a⟩ = askE ⟨c, j, a⟩ by unfold errF; rw [if_neg hA]]
        refine k1 _ hA ?_
        unfold askE
        split
        · split
          · split
            · split <;> decide
            · decide
          · decide
        · decide) (fun f hf => by
        unfold rdF at hf
        rw [if_neg hA] at hf; cases hf)
      obtain ⟨id, mb, ch, rw', lg, hdd⟩ := c
      obtain ⟨bv, us, bs, wv, ws, dd⟩ := j
      generalize d.prs.length + 1 = k at *
      generalize (blkV (noteBk (BD.note ⟨⟨id, mb, ch, rw', lg, hdd⟩, ag, sq, d⟩)) :: d.prs.map stoodV) = BL at *
      obtain ⟨st, sv, sl, dv, dus, dbs, pv, pb⟩ := d
      show VW P e 0 code14 (initT [.agg [.int .u32 id, .int .i64 mb, .int .i64 ch, .int .i64 rw', .int .i64 lg, .int .i64 hdd], .agg [bv, wv, .bool dd], .int .i64 a, .int .u32 ag, .int .u32 sq, .agg [.int .i64 st, sv, dv, pv]] 0 .lf) St0 none [] _
      conv => whnf
      refine ESc.ov hI.h47 rfl ?_
      conv => whnf
      refine hg1 _ _ ?_
      conv => whnf
      refine hg2 _ _ ?_
      conv => whnf
      repeat' (first | (refine w12 rfl ?_; conv => whnf) | fail)
      refine hblk _ _ ?_
      conv => whnf
      refine hrd _ _ (fun n hn hn' => ?_)
      conv => whnf
      repeat' (first | ((first | refine w5 rfl rfl ?_ ?_ | refine w6 rfl rfl ?_ ?_) <;> intro _ <;> first | (exfalso; omega) | (conv => whnf)) | fail)
      rfl
  · have hbo : ∃ er : Int, er ≠ 0 ∧ blkOut ⟨c, ag, sq, d⟩ = .tup [.nils, .int .i64 er] := by
      unfold blkOut
      by_cases h1 : CD.good ⟨c, d.d⟩
      · rw [if_pos h1, if_neg (fun h2 => hG ⟨h1, h2⟩)]; exact ⟨2, by decide, rfl⟩
      · rw [if_neg h1]; exact ⟨8, by decide, rfl⟩
    obtain ⟨er, her, hbo⟩ := hbo
    rw [hbo] at hblk
    have hrd : ∀ (K : AV → St → Prop) (s : St), (∀ n, K (drErr n) s) → (∀ f : Fd, K (.tup [.agg f.c, .int .i64 (1 + (f.n.recs.length : Int)), .int .i64 0]) s) → ESc e 23 [c.v, j.v, .int .i64 a] s K := fun K s k1 k2 => hrd K s (fun _ => k1 _) (fun f _ => k2 f)
    obtain ⟨id, mb, ch, rw', lg, hdd⟩ := c
    obtain ⟨bv, us, bs, wv, ws, dd⟩ := j
    obtain ⟨st, sv, sl, dv, dus, dbs, pv, pb⟩ := d
    show VW P e 0 code14 (initT [.agg [.int .u32 id, .int .i64 mb, .int .i64 ch, .int .i64 rw', .int .i64 lg, .int .i64 hdd], .agg [bv, wv, .bool dd], .int .i64 a, .int .u32 ag, .int .u32 sq, .agg [.int .i64 st, sv, dv, pv]] 0 .lf) St0 none [] _
    conv => whnf
    refine ESc.ov hI.h47 rfl ?_
    conv => whnf
    refine hg1 _ _ ?_
    conv => whnf
    refine hg2 _ _ ?_
    conv => whnf
    repeat' (first | (refine w12 rfl ?_; conv => whnf) | fail)
    refine hblk _ _ ?_
    conv => whnf
    refine hrd _ _ (fun n => ?_) (fun f => ?_)
    · conv => whnf
      repeat' (first | ((first | refine w5 rfl rfl ?_ ?_ | refine w6 rfl rfl ?_ ?_) <;> intro _ <;> first | (exfalso; omega) | (conv => whnf)) | (refine w16 rfl ?_; conv => whnf) | fail)
      rfl
    · conv => whnf
      repeat' (first | ((first | refine w5 rfl rfl ?_ ?_ | refine w6 rfl rfl ?_ ?_) <;> intro _ <;> first | (exfalso; omega) | (conv => whnf)) | (refine w16 rfl ?_; conv => whnf) | fail)
      rfl
end Go.AM
