/-
  Functions of the program as the abstract machine reads them, and what is stated of them, checked by the kernel. No conditions.
-/
import Derived.Test.YtnnbibnobmegpaaSeatR
import Derived.Test.YtnnbibnobmegpaaSeatT
import Derived.Test.YtnnbibnobmegpaaSeatP
import Derived.Test.YtnnbibnobmegpaaSeatLH
set_option linter.unusedVariables false
set_option linter.unusedSimpArgs false

set_option linter.unusedVariables false
set_option linter.unusedSimpArgs false
set_option maxRecDepth 100000
namespace Go.AM
attribute [local irreducible] W
open X
theorem pad_at {b : List Nat} (h : b.length = 0 ∨ b.length = 128) (hb : ∀ y ∈ b, y < 256) : BAt (fzB (pad b)) (pad b) ∧ (pad b).length = 128 := by
  have hl := pad_len128 h
  exact ⟨fzB_at ⟨hl, pad_lt hb⟩, hl⟩
theorem all2_cln {us : List AV} {bs : List (List Nat)} (h : All2 BAt us bs) : All2 BAt (us.map clnV) bs := by
  induction h with
  | nil => exact .nil
  | cons a b ih => exact .cons (clnV_at a) ih
theorem keepW_mem {a : Int} {L : List WR} {w : WR} (h : w ∈ keepW a (L.map clnW)) : ∃ v ∈ L, w = clnW v ∧ v.at_ ≠ a := by
  obtain ⟨h1, h2⟩ := List.mem_filter.1 h
  obtain ⟨v, hv, rfl⟩ := List.mem_map.1 h1
  refine ⟨v, hv, rfl, fun e => ?_⟩
  unfold wAt at h2
  simp at h2
  exact h2 e
theorem wvF_sl (n : Nat) (L : List WR) (h : L.length ≤ n) : Sl 2 L.length (wrs L) (wvF n L) := by
  cases n with
  | zero =>
    have : L = [] := List.length_eq_zero_iff.1 (by omega)
    subst this; exact .inl ⟨rfl, rfl, rfl⟩
  | succ n => exact .inr (.inr ⟨none, rfl, wrs_length L⟩)
theorem fuaD_ok {x : DKW} (hx : x.ok) (h : wrtE x.d x.a x.b = 0) : (fuaD x).ok := by
  obtain ⟨q1, q2, q3, q4⟩ := wrt0 h
  have hbl := oddB_no q3
  obtain ⟨p1, p2⟩ := pad_at hbl hx.b.2
  have hkl := keepW_le x.a (x.d.ws.map clnW)
  rw [List.length_map] at hkl
  have hm := hx.d.m
  refine ⟨⟨?_, all2_set p1 (all2_cln hx.d.a.bs) _, wvF_sl _ _ hkl, fun w hw => ?_⟩, ?_, ?_, fun b hb => ?_, fun w hw => ?_⟩
  · refine .inr (.inr ⟨none, ?_, by rw [Nat.mul_one]⟩)
    show AV.fz x.d.us.length none _ = .fz ((x.d.us.map clnV).set _ _).length none _
    rw [List.length_set, List.length_map]; rfl
  · obtain ⟨v, hv, rfl, _⟩ := keepW_mem hw
    exact clnW_any (hx.d.a.ws v hv)
  · show ((x.d.us.map clnV).set _ _).length < _
    rw [List.length_set, List.length_map]; exact hx.d.n
  · show (keepW x.a (x.d.ws.map clnW)).length < _; omega
  · rcases List.mem_or_eq_of_mem_set hb with h | rfl
    · exact hx.d.b b h
    · omega
  · obtain ⟨v, hv, rfl, _⟩ := keepW_mem hw
    exact hx.d.w v hv
theorem fuaD_len (x : DKW) : (fuaD x).us.length = x.d.us.length := by
  show ((x.d.us.map clnV).set _ _).length = _
  rw [List.length_set, List.length_map]
theorem dskB_iff {x : DK} : dskB x = true ↔ (1 ≤ x.us.length ∧ x.us.length ≤ 256 ∧ x.ws.length ≤ 1024) ∧ (∀ b ∈ x.bs, oddB b.length = false) ∧ (∀ w ∈ x.ws, wBad x.us.length w = false) ∧ (x.dead = true → x.ws.length = 0 ∧ ∀ b ∈ x.bs, posB b.length = false) := by
  unfold dskB
  simp only [Bool.and_eq_true, decide_eq_true_eq, Bool.not_eq_true', List.any_eq_false, List.mem_map, forall_exists_index, and_imp, forall_apply_eq_imp_iff₂, Bool.not_eq_true, Bool.and_eq_false_iff, Bool.or_eq_false_iff, decide_eq_false_iff_not]
  constructor
  · rintro ⟨⟨⟨h1, h2⟩, h3⟩, h4⟩
    refine ⟨h1, h2, h3, fun hd => ?_⟩
    rcases h4 with h4 | ⟨h4, h5⟩
    · rw [hd] at h4; cases h4
    · exact ⟨by omega, h5⟩
  · rintro ⟨h1, h2, h3, h4⟩
    refine ⟨⟨⟨h1, h2⟩, h3⟩, ?_⟩
    cases hd : x.dead
    · exact .inl rfl
    · obtain ⟨h5, h6⟩ := h4 hd
      exact .inr ⟨by omega, h6⟩
theorem fuaD_dsk {x : DKW} (hx : x.ok) (h : wrtE x.d x.a x.b = 0) : dskB (fuaD x) = true := by
  obtain ⟨q1, q2, q3, q4⟩ := wrt0 h
  obtain ⟨d1, d2, d3, d4⟩ := dskB_iff.1 q1
  have hbl := oddB_no q3
  obtain ⟨p1, p2⟩ := pad_at hbl hx.b.2
  have hkl := keepW_le x.a (x.d.ws.map clnW)
  rw [List.length_map] at hkl
  refine dskB_iff.2 ⟨?_, fun b hb => ?_, fun w hw => ?_, fun hd => ?_⟩
  · rw [fuaD_len]
    have : (fuaD x).ws.length ≤ x.d.ws.length := hkl
    omega
  · rcases List.mem_or_eq_of_mem_set hb with h | rfl
    · exact d2 b h
    · rw [p2]; rfl
  · rw [fuaD_len]
    obtain ⟨v, hv, rfl, _⟩ := keepW_mem hw
    exact d3 v hv
  · have hd : x.d.dead = true := hd
    rw [q4] at hd; cases hd
theorem lastW_keep {p a : Int} (hp : p ≠ a) (L : List WR) : lastW p (keepW a (L.map clnW)).reverse = lastW p L.reverse := by
  have h1 : (keepW a (L.map clnW)).reverse = keepW a (L.reverse.map clnW) := by unfold keepW; rw [← List.filter_reverse, ← List.map_reverse]
  rw [h1]
  generalize L.reverse = M
  induction M with
  | nil => rfl
  | cons w M ih =>
    rw [List.map_cons]
    by_cases ha : w.at_ = a
    · have e : keepW a (clnW w :: M.map clnW) = keepW a (M.map clnW) := by
        unfold keepW wAt; rw [List.filter_cons_of_neg]; show ¬ (!decide (w.at_ = a)) = true; simp [ha]
      rw [e, ih]
      show _ = if w.at_ = p then _ else _
      rw [if_neg (fun e : w.at_ = p => hp (by rw [← e, ha]))]
    · have e : keepW a (clnW w :: M.map clnW) = clnW w :: keepW a (M.map clnW) := by
        unfold keepW wAt; rw [List.filter_cons_of_pos]; show (!decide (w.at_ = a)) = true; simp [ha]
      rw [e]
      show (if w.at_ = p then some w.b else _) = if w.at_ = p then some w.b else _
      rw [ih]
theorem lastW_none {p a : Int} (hp : p = a) (L : List WR) : lastW p (keepW a (L.map clnW)).reverse = none := by
  have hno : ∀ M : List WR, (∀ w ∈ M, w.at_ ≠ p) → lastW p M = none := fun M => by
    induction M with
    | nil => intro _; rfl
    | cons w M ih =>
      intro h
      show (if w.at_ = p then _ else _) = _
      rw [if_neg (h w (by simp)), ih fun v hv => h v (by simp [hv])]
  refine hno _ fun w hw => ?_
  obtain ⟨v, _, rfl, hv⟩ := keepW_mem (List.mem_reverse.1 hw)
  rw [hp]; exact hv
theorem drdB_fua {x : DKW} (hx : x.ok) (h : wrtE x.d x.a x.b = 0) {p : Int} (hp : 0 ≤ p) : drdB (fuaD x) p = if p = x.a then pad x.b else drdB x.d p := by
  obtain ⟨q1, q2, q3, q4⟩ := wrt0 h
  have hl := hx.d.a.bs.length
  unfold drdB drdL
  by_cases hpa : p = x.a
  · rw [if_pos hpa]
    show (lastW p (keepW x.a (x.d.ws.map clnW)).reverse).getD ((x.d.bs.set x.a.toNat (pad x.b)).getD p.toNat []) = _
    rw [lastW_none hpa, hpa]
    show (x.d.bs.set x.a.toNat (pad x.b)).getD x.a.toNat [] = _
    rw [List.getD_eq_getElem?_getD, List.getElem?_set_self (by omega)]; rfl
  · rw [if_neg hpa]
    show (lastW p (keepW x.a (x.d.ws.map clnW)).reverse).getD ((x.d.bs.set x.a.toNat (pad x.b)).getD p.toNat []) = _
    rw [lastW_keep hpa]
    congr 1
    rw [List.getD_eq_getElem?_getD, List.getD_eq_getElem?_getD, List.getElem?_set_ne (by omega)]
def laidD (lg a : Int) : DK → List (AV × List Nat) → Nat → DK
  | d, [], _ => d
  | d, p :: l, i => laidD lg a (fuaD ⟨d, 1 + (a + (i : Int)) % lg, p.1, p.2⟩) l (i + 1)
structure RDK (lg : Int) (d : DK) : Prop where
  ok : d.ok
  dsk : dskB d = true
  len : (d.us.length : Int) = lg + 1
  dead : d.dead = false
  lo : 1 ≤ lg ∧ lg ≤ 255
theorem RDK.place {lg a : Int} {d : DK} (h : RDK lg d) (i : Nat) : 0 ≤ (a + (i : Int)) % lg ∧ (a + (i : Int)) % lg < lg := by
  have := h.lo
  exact ⟨Int.emod_nonneg _ (by omega), Int.emod_lt_of_pos _ (by omega)⟩
theorem RDK.wrt {lg a : Int} {d : DK} (h : RDK lg d) (i : Nat) {b : List Nat} (hb : b.length = 0 ∨ b.length = 128) : wrtE d (1 + (a + (i : Int)) % lg) b = 0 := by
  have hp := h.place (a := a) i
  have hl := h.len
  unfold wrtE plcE
  rw [if_pos h.dsk, if_pos (show 0 ≤ 1 + (a + (i : Int)) % lg ∧ 1 + (a + (i : Int)) % lg < d.us.length by omega)]
  have ho : oddB b.length = false := by rcases hb with h | h <;> rw [h] <;> rfl
  simp [ho, h.dead]
theorem RDK.wok {lg a : Int} {d : DK} (h : RDK lg d) (i : Nat) {u : AV} {b : List Nat} (hu : BAt u b) (hb : b.length = 0 ∨ b.length = 128) : DKW.ok ⟨d, 1 + (a + (i : Int)) % lg, u, b⟩ := by
  have hp := h.place (a := a) i
  have hl := h.lo
  exact ⟨h.ok, by unfold i64B; dsimp only; omega, hu, by dsimp only; omega⟩
theorem RDK.next {lg a : Int} {d : DK} (h : RDK lg d) (i : Nat) {u : AV} {b : List Nat} (hu : BAt u b) (hb : b.length = 0 ∨ b.length = 128) : RDK lg (fuaD ⟨d, 1 + (a + (i : Int)) % lg, u, b⟩) :=
  ⟨fuaD_ok (h.wok i hu hb) (h.wrt i hb), fuaD_dsk (h.wok i hu hb) (h.wrt i hb), by rw [fuaD_len]; exact h.len, h.dead, h.lo⟩
theorem place_ne {lg a : Int} {i j : Nat} (hij : i < j) (hj : (j : Int) < lg + (i : Int)) (hl : 1 ≤ lg) : (a + (i : Int)) % lg ≠ (a + (j : Int)) % lg := by
  intro e
  have h1 := Int.emod_emod_of_dvd (a + (j : Int)) (Int.dvd_refl lg)
  have h2 : (a + (j : Int) - (a + (i : Int))) % lg = 0 := Int.emod_eq_emod_iff_emod_sub_eq_zero.1 e.symm
  rw [show a + (j : Int) - (a + (i : Int)) = (j : Int) - (i : Int) by omega, Int.emod_eq_of_lt (by omega) (by omega)] at h2
  omega
theorem laidD_spec {lg a : Int} : ∀ (l : List (AV × List Nat)) (d : DK) (i : Nat), RDK lg d → (∀ p ∈ l, BAt p.1 p.2 ∧ (p.2.length = 0 ∨ p.2.length = 128)) → (l.length : Int) ≤ lg →
    RDK lg (laidD lg a d l i) ∧ (∀ p : Int, 0 ≤ p → (∀ j, j < l.length → p ≠ 1 + (a + ((i + j : Nat) : Int)) % lg) → drdB (laidD lg a d l i) p = drdB d p) ∧
    (∀ (j : Nat) q, l[j]? = some q → drdB (laidD lg a d l i) (1 + (a + ((i + j : Nat) : Int)) % lg) = pad q.2)
  | [], d, i, h, _, _ => ⟨h, fun _ _ _ => rfl, fun j q h => by simp at h⟩
  | p :: l, d, i, h, hl, hn => by
    obtain ⟨hu, hb⟩ := hl p (by simp)
    have hnx := h.next (a := a) i hu hb
    have hlo := h.lo
    rw [List.length_cons] at hn
    obtain ⟨s1, s2, s3⟩ := laidD_spec l _ (i + 1) hnx (fun q hq => hl q (by simp [hq])) (by omega)
    have hrd := fun {q : Int} (hq : 0 ≤ q) => drdB_fua (h.wok i hu hb) (h.wrt (a := a) i hb) hq
    refine ⟨s1, fun q hq0 hq => ?_, fun j q hj => ?_⟩
    · show drdB (laidD lg a _ l (i + 1)) q = _
      rw [s2 q hq0 (fun j hj => by
        have := hq (j + 1) (by rw [List.length_cons]; omega)
        rwa [show i + (j + 1) = i + 1 + j by omega] at this), hrd hq0, if_neg]
      have := hq 0 (by rw [List.length_cons]; omega)
      rwa [Nat.add_zero] at this
    · show drdB (laidD lg a _ l (i + 1)) _ = _
      cases j with
      | zero =>
        simp at hj; subst hj
        have hp := h.place (a := a) i
        rw [show ((i + 0 : Nat) : Int) = (i : Int) by omega]
        rw [s2 _ (by omega) (fun j hj e => ?_), hrd (by omega), if_pos rfl]
        exact place_ne (lg := lg) (a := a) (i := i) (j := i + 1 + j) (by omega) (by omega) (by omega) (by omega)
      | succ j =>
        have := s3 j q (by simpa using hj)
        rwa [show i + 1 + j = i + (j + 1) by omega] at this
end Go.AM

set_option linter.unusedVariables false
set_option linter.unusedSimpArgs false
set_option maxRecDepth 100000
namespace Go.AM
attribute [local irreducible] W
open X
structure LD where
  c : Cfg
  d : DK
  a : Int
  v : AV
  l : List (AV × List Nat)
structure LD.ok (x : LD) : Prop where
  c : x.c.ok
  r : RDK x.c.log x.d
  a : 0 ≤ x.a ∧ x.a < x.c.log
  v : Sl 1 x.l.length (x.l.map Prod.fst) x.v
  l : ∀ p ∈ x.l, BAt p.1 p.2 ∧ (p.2.length = 0 ∨ p.2.length = 128)
  n : (x.l.length : Int) ≤ x.c.log
def LD.args (x : LD) : List AV := [x.c.v, x.d.v, .int .i64 x.a, x.v]
def LD.out (x : LD) : AV := .tup [(laidD x.c.log x.a x.d x.l 0).v, .bool true]
theorem l_inj : ∀ {l m : List (AV × List Nat)}, (∀ p ∈ l, BAt p.1 p.2) → (∀ p ∈ m, BAt p.1 p.2) → l.map Prod.fst = m.map Prod.fst → l = m
  | [], [], _, _, _ => rfl
  | [], _ :: _, _, _, h => by cases h
  | _ :: _, [], _, _, h => by cases h
  | (u, b) :: l, (u', b') :: m, hl, hm, h => by
    rw [List.map_cons, List.map_cons] at h
    obtain ⟨h1, h2⟩ := List.cons.inj h
    dsimp only at h1
    subst h1
    have h3 := (hl (u, b) (by simp)).inj (hm (u, b') (by simp))
    dsimp only at h3
    rw [h3, l_inj (fun p hp => hl p (by simp [hp])) (fun p hp => hm p (by simp [hp])) h2]
theorem LD.inja {x y : LD} (hx : x.ok) (hy : y.ok) (h : x.args = y.args) : x = y := by
  obtain ⟨c, d, a, v, l⟩ := x
  obtain ⟨c', d', a', v', l'⟩ := y
  have h0 := Cfg.injv (List.cons.inj h).1
  have h1 := DK.inj hx.r.ok.a hy.r.ok.a (List.cons.inj (List.cons.inj h).2).1
  have h2 := (List.cons.inj (List.cons.inj (List.cons.inj h).2).2).1
  have h3 := (List.cons.inj (List.cons.inj (List.cons.inj (List.cons.inj h).2).2).2).1
  injection h2 with _ h2
  dsimp only at h0 h1 h2 h3
  subst h0 h1 h2 h3
  have h4 := hx.v.l_inj hy.v
  have h5 := l_inj (fun p hp => (hx.l p hp).1) (fun p hp => (hy.l p hp).1) h4
  dsimp only at h5
  rw [h5]
theorem LD.hfa {x : LD} (hx : x.ok) : hfs x.args = true := by
  show (AM.hf x.c.v && (AM.hf x.d.v && (true && (AM.hf x.v && true)))) = true
  rw [DK.hf hx.r.ok.a, hx.v.hf]; rfl
theorem laidD_ok {x : LD} (hx : x.ok) : RDK x.c.log (laidD x.c.log x.a x.d x.l 0) := (laidD_spec x.l x.d 0 hx.r hx.l hx.n).1
theorem LD.hfo {x : LD} (hx : x.ok) : AM.hf x.out = true := by
  show (AM.hf (DK.v _) && (true && true)) = true
  rw [DK.hf (laidD_ok hx).ok.a]; rfl
def ldF : Fam LD := ⟨LD.ok, LD.args, LD.out, fun x y hx hy h => by rw [LD.inja hx hy h]⟩
def code49 : AC := match a49 with | .mk c _ => c
theorem laidD_step {lg a : Int} : ∀ (l : List (AV × List Nat)) (d : DK) (i j : Nat) (p : AV × List Nat), l[j]? = some p → laidD lg a d (l.take (j + 1)) i = fuaD ⟨laidD lg a d (l.take j) i, 1 + (a + ((i + j : Nat) : Int)) % lg, p.1, p.2⟩
  | [], d, i, j, p, h => by simp at h
  | q :: l, d, i, 0, p, h => by simp at h; subst h; rfl
  | q :: l, d, i, j + 1, p, h => by
    have := laidD_step (lg := lg) (a := a) l (fuaD ⟨d, 1 + (a + (i : Int)) % lg, q.1, q.2⟩) (i + 1) j p (by simpa using h)
    rw [show i + 1 + j = i + (j + 1) by omega] at this
    exact this
theorem ldF_ok {P : Program} {e : Env} {fn : Func} (hE : EnvOk P e) (hm : P.follows .mixedOrders = true) (h35 : Con e 35 onF.O) (h92 : Con e 92 fuaF.O) (hf : P.funcs[49]? = some fn) (hc : compF P fn = some a49) (hb : HasBody P 49) : OvOk P 49 ldF.O := by
  refine Fam.ok_of hb fun x hx => ?_
  refine ⟨LD.hfa hx, LD.hfo hx, C.of_V hE hm hf hc ?_⟩
  have hstep := fun i => laidD_spec (lg := x.c.log) (a := x.a) (x.l.take i) x.d 0 hx.r (fun p hp => hx.l p (List.mem_of_mem_take hp)) (by have := hx.n; rw [List.length_take]; omega)
  have hDok : ∀ i, RDK x.c.log (laidD x.c.log x.a x.d (x.l.take i) 0) := fun i => (hstep i).1
  have hfua : ∀ (i : Nat) p, x.l[i]? = some p → ∀ (K : AV → St → Prop) (s : St), K (.tup [(laidD x.c.log x.a x.d (x.l.take (i + 1)) 0).v, .int .i64 0]) s → ESc e 92 [(laidD x.c.log x.a x.d (x.l.take i) 0).v, .int .i64 (1 + (x.a + (i : Int)) % x.c.log), p.1] s K := fun i p hp K s hk => by
    have hpo := hx.l p (List.mem_of_getElem? hp)
    have hw := (hDok i).wok (a := x.a) i hpo.1 hpo.2
    have hz := (hDok i).wrt (a := x.a) i hpo.2
    refine ESc.fam fuaF h92 ⟨laidD x.c.log x.a x.d (x.l.take i) 0, 1 + (x.a + (i : Int)) % x.c.log, p.1, p.2⟩ hw ?_ hk
    show fuaOut _ = _
    unfold fuaOut
    rw [if_pos hz, laidD_step x.l x.d 0 i p hp, Nat.zero_add]
  have hpl := fun i : Nat => hx.r.place (a := x.a) i
  have hend : laidD x.c.log x.a x.d (x.l.take x.l.length) 0 = laidD x.c.log x.a x.d x.l 0 := by rw [List.take_length]
  have h00 : laidD x.c.log x.a x.d (x.l.take 0) 0 = x.d := by rw [List.take_zero]; rfl
  have hdfs : ∀ i, hfs (laidD x.c.log x.a x.d (x.l.take i) 0).c = true := fun i => DKhf (hDok i).ok.a.wl (hDok i).ok.a.bl
  have hvc : ∀ i, (laidD x.c.log x.a x.d (x.l.take i) 0).v = .agg (laidD x.c.log x.a x.d (x.l.take i) 0).c := fun i => rfl
  have hout : ldF.out x = .tup [.agg (laidD x.c.log x.a x.d (x.l.take x.l.length) 0).c, .bool true] := by rw [hend]; rfl
  rw [hout]
  generalize hDg : (fun i => (laidD x.c.log x.a x.d (x.l.take i) 0).c) = D at *
  have hDi : ∀ i, (laidD x.c.log x.a x.d (x.l.take i) 0).c = D i := fun i => by rw [← hDg]
  have hcl : ∀ i, ∃ a b c, D i = [a, b, c] := fun i => ⟨_, _, _, (hDi i).symm⟩
  simp only [hDi, hvc] at hfua hdfs ⊢
  have hd0 : x.d.v = .agg (D 0) := by rw [← hDi, h00]; rfl
  have hlo := hx.r.lo
  have hn := hx.n
  have ha := hx.a
  have hsl := hx.v
  have hlf := hsl.hf
  obtain ⟨⟨id, mb, ch, rw', lg, hdd⟩, d, a, v, l⟩ := x
  dsimp only at hd0 hlo hn ha hsl hlf hfua hpl
  show VW P e 0 code49 (initT [.agg [.int .u32 id, .int .i64 mb, .int .i64 ch, .int .i64 rw', .int .i64 lg, .int .i64 hdd], d.v, .int .i64 a, v] 0 .lf) St0 none [] _
  rw [hd0]
  obtain ⟨n, hnl⟩ : ∃ n, n = l.length := ⟨_, rfl⟩
  dsimp only
  rw [← hnl] at hn hsl ⊢
  clear hDg hDi hvc hend h00 hout hDok hstep hx hd0
  obtain ⟨a0, b0, c0, hD0⟩ := hcl 0
  have hD0f := hdfs 0
  rw [hD0] at hD0f ⊢
  conv => whnf
  refine W.loopT (α := Nat) (fun i => [(2, .int .i64 a), (3, v), (4, .ptr 0 0), (5, .ptr 1 0), (8, .ptr 2 0), (10, .int .i64 (i : Int))]) (fun i => [.row 24 [.int .u32 id, .int .i64 mb, .int .i64 ch, .int .i64 rw', .int .i64 lg, .int .i64 hdd], .row 28 (D i), .row 28 zDk]) (fun i => n - i) (fun i => i ≤ n) 0 (Nat.zero_le _)
    (Abs.tells (rs := [0, 1, 2]) ⟨by decide, ⟨⟨rfl, rfl⟩, ⟨hf_bd _ hlf, by rw [hf_mapV _ hlf]; rfl⟩, ⟨rfl, rfl⟩, ⟨rfl, rfl⟩, ⟨rfl, rfl⟩, ⟨rfl, rfl⟩, trivial⟩, ⟨⟨rfl, rfl⟩, ⟨by rw [hD0]; exact rowH hD0f, by rw [hD0, mapRowH hD0f]; rfl⟩, ⟨rfl, rfl⟩, trivial⟩⟩) ?_
  intro i hi
  dsimp only at hi ⊢
  refine vw_sound hE hm ?_
  by_cases hlt : i < n
  · obtain ⟨p, hp⟩ : ∃ p, l[i]? = some p := ⟨_, List.getElem?_eq_getElem (by omega)⟩
    have hF := hfua i p hp
    have hpi := hpl i
    obtain ⟨a1, b1, c1, hD1⟩ := hcl i
    obtain ⟨a2, b2, c2, hD2⟩ := hcl (i + 1)
    have hD1f := hdfs i
    have hD2f := hdfs (i + 1)
    rw [hD2] at hD2f
    rw [hD1] at hD1f ⊢
    rw [hD1, hD2] at hF
    have hget : ((l.map Prod.fst).drop (i * 1))[0]? = some p.1 := by rw [Nat.mul_one, List.getElem?_drop, Nat.add_zero, List.getElem?_map, hp]; rfl
    have honk : onF.ok ⟨lg, a, (i : Int)⟩ := ⟨by unfold i64B; dsimp only; omega, by unfold i64B; dsimp only; omega, by unfold i64B; dsimp only; omega⟩
    have hon : onF.out ⟨lg, a, (i : Int)⟩ = .tup [.int .i64 ((a + (i : Int)) % lg), .int .i64 0] := by
      have : onOk ⟨lg, a, (i : Int)⟩ = true := by unfold onOk hasB; dsimp only; rw [decide_eq_true (by omega), decide_eq_true (by omega), decide_eq_true (by omega)]; rfl
      show (if onOk _ then _ else _) = _; rw [if_pos this]
    conv => whnf
    refine EPrim.lenZ rfl hsl ?_
    conv => whnf
    refine EPrim.lss2 (a := (i : Int)) (b := (n : Int)) rfl rfl (fun _ => ?_) (fun h => by omega)
    conv => whnf
    refine ESc.fam onF h35 ⟨lg, a, (i : Int)⟩ honk hon ?_
    conv => whnf
    repeat' (first | (refine EPrim.ixsS rfl hsl rfl hlt ?_; conv => whnf) | (refine EHead.mk (v := p.1) hget ?_; conv => whnf) | (refine hF _ _ ?_; conv => whnf) | ((refine w6 rfl rfl ?_ ?_) <;> intro _ <;> first | (exfalso; omega) | (conv => whnf)) | ((first | refine w7 rfl rfl (by omega) ?_ | refine ⟨rfl, ?_⟩); conv => whnf) | fail)
    refine ⟨i + 1, hlt, by omega, ?_⟩
    rw [hD2]
    exact Abs.tells (rs := [0, 1, 2]) ⟨by decide, ⟨⟨rfl, rfl⟩, ⟨hf_bd _ hlf, by rw [hf_mapV _ hlf]; rfl⟩, ⟨rfl, rfl⟩, ⟨rfl, rfl⟩, ⟨rfl, rfl⟩, ⟨rfl, rfl⟩, trivial⟩, ⟨⟨rfl, rfl⟩, ⟨rowH hD2f, by rw [mapRowH hD2f]; rfl⟩, ⟨rfl, rfl⟩, trivial⟩⟩
  · have hie : i = n := by omega
    subst hie
    obtain ⟨a1, b1, c1, hD1⟩ := hcl i
    have hD1f := hdfs i
    rw [hD1] at hD1f ⊢
    conv => whnf
    refine EPrim.lenZ rfl hsl ?_
    conv => whnf
    refine EPrim.lss2 (a := (i : Int)) (b := (i : Int)) rfl rfl (fun h => by omega) (fun _ => ?_)
    conv => whnf
    refine .plain _ ?_
    show (hfs [a1, b1, c1] && (true && true)) = true
    rw [hD1f]; rfl
end Go.AM

set_option linter.unusedVariables false
set_option linter.unusedSimpArgs false
set_option maxRecDepth 100000
namespace Go.AM
attribute [local irreducible] W
open X
theorem wholeN_head {b : List Nat} (h : b.length ≤ 128) : ∃ x l, wholeN b = x :: l := by
  have := wholeN_length h
  cases hw : wholeN b with
  | nil => rw [hw] at this; cases this
  | cons x l => exact ⟨x, l, rfl⟩
theorem see_put (q : Int × List Nat) (h : q.2.length ≤ 128) : rdBad (recN q) (stoodN q.2) = false ∧ rdSee (recN q) (stoodN q.2) = wholeN q.2 := by
  obtain ⟨sl, b⟩ := q
  obtain ⟨x, l, hw⟩ := wholeN_head h
  dsimp only
  have hb : bareQ b = (x == 78) := by unfold bareQ; rw [hw]; rfl
  unfold rdBad rdSee recN
  dsimp only
  have hs : stoodN b = if (x == 78) = true then 0 :: l else x :: l := by unfold stoodN; rw [hb, hw]; rfl
  rw [hb]
  by_cases hx : x = 78
  · subst hx
    have hs : stoodN b = 0 :: l := hs
    rw [hs, hw]
    exact ⟨by simp, rfl⟩
  · have hx' : (x == 78) = false := by simpa using hx
    rw [hx'] at hs ⊢
    have hs : stoodN b = x :: l := hs
    rw [hs, hw]
    exact ⟨by simp [hx], rfl⟩
def putP (st : RdS) (q : Int × List Nat) : RdS := if q.1 = 255 then ⟨st.S, some (wholeN q.2)⟩ else ⟨st.S ++ [(q.1, wholeN q.2)], st.p⟩
theorem rdGo_put {B : Nat → List Nat} : ∀ (L : List (Int × List Nat)) (n i : Nat) (st : RdS), L.length ≤ n → (∀ (t : Nat) q, L[t]? = some q → B (i + t) = stoodN q.2 ∧ q.2.length ≤ 128) → rdGo B (L.map recN) n i st = some (L.foldl putP st)
  | [], n, i, st, _, _ => by cases n <;> rfl
  | q :: L, 0, i, st, h, _ => by simp at h
  | q :: L, n + 1, i, st, h, hB => by
    obtain ⟨h1, h2⟩ := hB 0 q rfl
    rw [Nat.add_zero] at h1
    obtain ⟨e1, e2⟩ := see_put q h2
    show (if rdBad (recN q) (B i) = true then none else rdGo B (L.map recN) n (i + 1) (rdPut (recN q) (B i) st)) = _
    rw [h1, e1, if_neg (by decide)]
    have hp : rdPut (recN q) (stoodN q.2) st = putP st q := by
      unfold rdPut putP
      rw [e2]; rfl
    rw [hp, rdGo_put L n (i + 1) _ (by simpa using h) (fun t p hp => by
      have := hB (t + 1) p (by simpa using hp)
      rwa [show i + (t + 1) = i + 1 + t by omega] at this)]
    rfl
theorem fold_put : ∀ (L : List (Int × List Nat)) (st : RdS), (∀ q ∈ L, q.1 ≠ 255) → L.foldl putP st = ⟨st.S ++ L.map (fun q => (q.1, wholeN q.2)), st.p⟩
  | [], st, _ => by simp
  | q :: L, st, h => by
    rw [List.foldl_cons]
    have : putP st q = ⟨st.S ++ [(q.1, wholeN q.2)], st.p⟩ := by unfold putP; rw [if_neg (h q (by simp))]
    rw [this, fold_put L _ (fun p hp => h p (by simp [hp]))]
    simp
def yOf (d : DB) : RdS := ⟨(d.sl.zip d.bs).map (fun q => (q.1, wholeN q.2)), if d.pb.length = 0 then none else some (wholeN d.pb)⟩
structure DGood (c : Cfg) (d : DB) : Prop where
  may : c.may
  odd : ∀ b ∈ d.bs, b.length = 0 ∨ b.length = 128
  st : 0 ≤ d.st ∧ d.st < c.chunk * c.rows
  sl : slotsOk (c.members - 2) d.sl = true
  n : d.bs.length = d.sl.length
  pb : d.pb.length = 0 ∨ d.pb.length = 128
theorem dgood_of {c : Cfg} {d : DB} (h : CD.good ⟨c, d.d⟩) : DGood c d := by
  obtain ⟨hM, hD⟩ := h
  unfold dealB at hD
  simp only [Bool.and_eq_true, decide_eq_true_eq, Bool.not_eq_true'] at hD
  obtain ⟨⟨⟨⟨hod, hst⟩, hsl⟩, hnl⟩, hpo⟩ := hD
  have hnl : (d.bs.map List.length).length = d.sl.length := hnl
  rw [List.length_map] at hnl
  exact ⟨hM, odd_all hod, hst, hsl, hnl, oddB_no hpo⟩
theorem DGood.s14 {c : Cfg} {d : DB} (h : DGood c d) : ∀ s ∈ d.sl, 0 ≤ s ∧ s ≤ 14 := by
  have hM := h.may
  unfold Cfg.may at hM
  exact slotsOk_bd h.sl (by omega)
theorem DGood.fold {c : Cfg} {d : DB} (h : DGood c d) : d.prs.foldl putP ⟨[], none⟩ = yOf d := by
  unfold DB.prs yOf
  rw [List.foldl_append, fold_put (d.sl.zip d.bs) _ (fun q hq => by
    have := h.s14 q.1 (List.of_mem_zip (show (q.1, q.2) ∈ _ from hq)).1
    omega)]
  by_cases hp : d.pb.length = 0
  · rw [if_pos hp, if_pos hp]
    show (⟨[] ++ _, none⟩ : RdS) = _
    rw [List.nil_append]
  · rw [if_neg hp, if_neg hp]
    show putP _ (255, d.pb) = _
    unfold putP
    rw [if_pos rfl]
    show (⟨[] ++ _, _⟩ : RdS) = _
    rw [List.nil_append]
theorem DGood.fst {c : Cfg} {d : DB} (h : DGood c d) : (yOf d).S.map Prod.fst = d.sl := by
  show ((d.sl.zip d.bs).map _).map Prod.fst = _
  rw [List.map_map]
  exact List.map_fst_zip (by rw [h.n]; exact Nat.le_refl _)
theorem DGood.snd {c : Cfg} {d : DB} (h : DGood c d) : (yOf d).S.map Prod.snd = d.bs.map wholeN := by
  show ((d.sl.zip d.bs).map _).map Prod.snd = _
  rw [List.map_map]
  have : (Prod.snd ∘ fun q : Int × List Nat => (q.1, wholeN q.2)) = wholeN ∘ Prod.snd := rfl
  rw [this, ← List.map_map, List.map_snd_zip (by rw [h.n]; exact Nat.le_refl _)]
theorem whole_pad {b : List Nat} (h : b.length = 0 ∨ b.length = 128) : pad (wholeN b) = pad b ∧ (wholeN b).length = 128 := by
  rcases h with h | h
  · have := List.length_eq_zero_iff.1 h
    subst this
    exact ⟨rfl, rfl⟩
  · rw [wholeN_128 h]; exact ⟨rfl, h⟩
theorem DGood.cd {c : Cfg} {d : DB} (h : DGood c d) : CD.good ⟨c, (rdDB d.st (yOf d)).d⟩ := by
  refine ⟨h.may, ?_⟩
  have e1 := h.fst
  have e2 := h.snd
  unfold dealB
  simp only [Bool.and_eq_true, decide_eq_true_eq, Bool.not_eq_true']
  refine ⟨⟨⟨⟨?_, h.st⟩, ?_⟩, ?_⟩, ?_⟩
  · show (((yOf d).S.map Prod.snd).map List.length).any oddB = false
    rw [e2, List.any_eq_false]
    intro n hn
    obtain ⟨b, hb, rfl⟩ := List.mem_map.1 hn
    obtain ⟨b', hb', rfl⟩ := List.mem_map.1 hb
    rw [(whole_pad (h.odd b' hb')).2]; decide
  · show slotsOk (c.members - 2) ((yOf d).S.map Prod.fst) = true
    rw [e1]; exact h.sl
  · show (((yOf d).S.map Prod.snd).map List.length).length = ((yOf d).S.map Prod.fst).length
    rw [e1, e2, List.length_map, List.length_map]; exact h.n
  · show oddB ((yOf d).p.getD []).length = false
    unfold yOf
    dsimp only
    by_cases hp : d.pb.length = 0
    · rw [if_pos hp]; rfl
    · rw [if_neg hp]
      show oddB (wholeN d.pb).length = false
      rw [(whole_pad h.pb).2]; rfl
theorem DGood.same {c : Cfg} {d : DB} (h : DGood c d) (hu : d.us.length = d.bs.length) : sameB (rdDB d.st (yOf d)) d = true := by
  have e1 := h.fst
  have e2 := h.snd
  have e3 : (rdDB d.st (yOf d)).us.length = d.us.length := by
    show ((yOf d).S.map _).length = _
    have := congrArg List.length e2
    rw [List.length_map, List.length_map] at this
    rw [List.length_map, this, hu]
  have e4 : (rdDB d.st (yOf d)).pb = d.pb := by
    show (yOf d).p.getD [] = _
    unfold yOf
    dsimp only
    by_cases hp : d.pb.length = 0
    · rw [if_pos hp]
      exact (List.length_eq_zero_iff.1 hp).symm
    · rw [if_neg hp]
      exact wholeN_128 (by have := h.pb; omega)
  have e5 : (rdDB d.st (yOf d)).bs.map pad = d.bs.map pad := by
    show ((yOf d).S.map Prod.snd).map pad = _
    rw [e2, List.map_map]
    refine List.map_congr_left fun b hb => ?_
    exact (whole_pad (h.odd b hb)).1
  have e6 : (rdDB d.st (yOf d)).sl = d.sl := e1
  unfold sameB
  rw [e3, e4, e5, e6]
  simp
  rfl
theorem DGood.yok {c : Cfg} {d : DB} (h : DGood c d) (hb : ∀ b ∈ d.bs, ∀ y ∈ b, y < 256) (hp : ∀ y ∈ d.pb, y < 256) : (yOf d).ok := by
  have hM := h.may
  unfold Cfg.may at hM
  have hl := slotsOk_len h.sl
  have e1 := congrArg List.length h.fst
  rw [List.length_map] at e1
  refine ⟨by omega, fun q hq => ?_, fun b hb' => ?_⟩
  · obtain ⟨p, hp, rfl⟩ := List.mem_map.1 (show q ∈ (d.sl.zip d.bs).map _ from hq)
    have hz := List.of_mem_zip (show (p.1, p.2) ∈ _ from hp)
    have := h.s14 p.1 hz.1
    exact ⟨by dsimp only; omega, (whole_pad (h.odd p.2 hz.2)).2, wholeN_lt (hb p.2 hz.2)⟩
  · have hb' : (if d.pb.length = 0 then none else some (wholeN d.pb)) = some b := hb'
    by_cases hq : d.pb.length = 0
    · rw [if_pos hq] at hb'; cases hb'
    · rw [if_neg hq] at hb'
      cases hb'
      exact ⟨(whole_pad h.pb).2, wholeN_lt hp⟩
theorem prs_len {c : Cfg} {d : DB} (h : DGood c d) : 1 ≤ d.prs.length ∧ (d.prs.length : Int) ≤ c.members ∧ (d.prs.length : Int) + 1 ≤ c.log := by
  have hM := h.may
  unfold Cfg.may at hM
  have h1 := slotsOk_pos h.sl
  have h2 := slotsOk_len h.sl
  have h7 : (c.members + 1) * (c.heads + 1) ≥ (c.members + 1) * 3 := Int.mul_le_mul_of_nonneg_left (by omega) (by omega)
  have h3 : d.prs.length = d.sl.length + (if d.pb.length = 0 then 0 else 1) := by
    unfold DB.prs
    rw [List.length_append, List.length_zip, h.n, Nat.min_self]
    split <;> rfl
  split at h3 <;> omega
theorem back_of {x : BD} (hx : x.ok) (hG : CD.good ⟨x.c, x.d.d⟩) (hN : noteB x.note = true) {c : Cfg} (hc : c = { x.c with id := c.id }) {X : DK} {a : Int} (hA : askE ⟨c, X, a⟩ = 0) (hB : ∀ (i : Nat) b, x.bb[i]? = some b → rbk ⟨c, X, a⟩ i = b) :
    rdF ⟨c, X, a⟩ = if x.c.id = c.id then some ⟨x.note, yOf x.d⟩ else none := by
  have hD := dgood_of hG
  have hp := deal_prs hG.1 hx.d hG.2
  have hr : ∀ r ∈ x.note.recs, r.ok := fun r hr => by
    obtain ⟨p, hp', rfl⟩ := List.mem_map.1 (show r ∈ x.d.prs.map recN from hr)
    exact recN_ok (hp p hp').1
  have h0 : rbk ⟨c, X, a⟩ 0 = noteBk x.note := hB 0 _ rfl
  have hnote : rdNote (noteBk x.note) = x.note := (rd_note hN hx.c.id hr).trans rfl
  have hgood := rdGood_noteBk hN hx.c.id hr
  have hl := prs_len hD
  have hlog : x.c.log = c.log := by rw [hc]
  have hgo : rdGo (rbk ⟨c, X, a⟩) x.note.recs (c.log.toNat - 1) 1 ⟨[], none⟩ = some (yOf x.d) := by
    rw [← hD.fold]
    refine rdGo_put x.d.prs _ 1 _ (by omega) fun t q hq => ?_
    refine ⟨?_, (hp q (List.mem_of_getElem? hq)).2⟩
    have := hB (t + 1) (stoodN q.2) (by show (x.d.prs.map _)[t]? = _; rw [List.getElem?_map, hq]; rfl)
    rwa [Nat.add_comm] at this
  have hcd : CD.good ⟨c, (rdDB x.note.stripe (yOf x.d)).d⟩ := by
    have := hD.cd
    obtain ⟨h1, h2⟩ := this
    rw [hc]
    exact ⟨h1, h2⟩
  unfold rdF
  rw [if_pos hA, h0, hnote]
  dsimp only
  by_cases hid : x.c.id = c.id
  · rw [if_pos ⟨hgood, hid⟩, if_pos hid, hgo]
    dsimp only
    rw [if_pos hcd]
  · rw [if_neg (fun h => hid h.2), if_neg hid]
end Go.AM

set_option linter.unusedVariables false
set_option linter.unusedSimpArgs false
set_option maxRecDepth 100000
namespace Go.AM
attribute [local irreducible] W
open X
def dwE (x : DKW) : Int := if wrtE x.d x.a x.b = 0 then (if x.d.ws.length = 1024 then 9 else 0) else wrtE x.d x.a x.b
def dwW (x : DKW) : List WR := x.d.ws.map clnW ++ [⟨x.a, fzB (pad x.b), pad x.b⟩]
def dwD (x : DKW) : DK := ⟨.fz x.d.us.length none (x.d.us.map clnV), x.d.us.map clnV, x.d.bs, .fz (x.d.ws.length + 1) none (wrs (dwW x)), dwW x, x.d.dead⟩
def dwOut (x : DKW) : AV := if dwE x = 0 then .tup [(dwD x).v, .int .i64 0] else .tup [.agg zDk, .int .i64 (dwE x)]
theorem hf_dwOut (x : DKW) : AM.hf (dwOut x) = true := by unfold dwOut; split <;> rfl
def dwF : Fam DKW := ⟨DKW.ok, DKW.args, dwOut, fun x y hx hy h => by rw [DKW.inja hx hy h]⟩
theorem wrs_app (L M : List WR) : wrs (L ++ M) = wrs L ++ wrs M := by unfold wrs; rw [List.flatMap_append]
theorem dwF_ok {P : Program} {e : Env} {fn : Func} (hE : EnvOk P e) (hm : P.follows .mixedOrders = true) (h102 : Con e 102 wrtF.O) (h103 : Con e 103 twO) (h98 : Inl e 98 code98 [.tmp 2]) (h141 : Inl e 141 code141 [.tmp 2]) (hf : P.funcs[58]? = some fn) (hc : compF P fn = some a58) (hb : HasBody P 58) : OvOk P 58 dwF.O := by
  refine Fam.ok_of hb fun x hx => ?_
  refine ⟨DKW.hfa hx, hf_dwOut x, C.of_V hE hm hf hc ?_⟩
  have hfam := fun (s : St) (K : AV → St → Prop) (hk : K (.int .i64 (wrtE x.d x.a x.b)) s) => ESc.fam wrtF h102 x hx (u := .int .i64 (wrtE x.d x.a x.b)) rfl hk
  by_cases h0 : wrtE x.d x.a x.b = 0
  · obtain ⟨q1, q2, q3, q4⟩ := wrt0 h0
    have hbl : x.b.length = 0 ∨ x.b.length = 128 := oddB_no q3
    have hdk1 : DK1 x.d := ⟨hx.d, by omega⟩
    have htw := twO_run hdk1
    have hUf := hfs_clnU hx.d.a
    have hw1024 : x.d.ws.length ≤ 1024 := (dskB_of hx.d.a q1).1
    have hWf : hfs (wrs (x.d.ws.map clnW)) = true := hfs_wrs fun w hw => by
      obtain ⟨v, hv, rfl⟩ := List.mem_map.1 hw
      exact (clnW_any (hx.d.a.ws v hv)).b.1.hf
    have hout : dwF.out x = if x.d.ws.length = 1024 then .tup [.agg zDk, .int .i64 9] else .tup [(dwD x).v, .int .i64 0] := by
      show dwOut x = _
      unfold dwOut dwE
      rw [if_pos h0]
      split <;> rfl
    rw [h0] at hfam
    rw [hout]
    have hwsl := hx.d.a.wl
    obtain ⟨⟨bv, us, bs, wv, ws, dd⟩, a, u, b⟩ := x
    obtain ⟨hd, ha, hbt, hbn⟩ := hx
    dsimp only at q2 q4 hbl htw hUf hWf ha hbt hbn hw1024 hwsl ⊢
    subst q4
    have hfB : ∀ (s : St) r cp, s.get r = some (.row 5 (bys (pad b))) → Frz s (.sl r 0 128 cp) (fzB (pad b)) := fun s r cp h => .sl r 0 128 cp none 5 _ (bys (pad b)) _ h (fun i x h => by rw [Nat.zero_add]; exact h) (frz_bys _) (.inl rfl)
    have hbk : ∀ (s : St), s.get 2 = some (.row 32 (us.map clnV)) → Frz s (.sl 2 0 us.length none) (.fz us.length none (us.map clnV)) := fun s h1 =>
      .sl 2 0 us.length none none 32 _ (us.map clnV) _ h1 (fun i x h => by rw [Nat.zero_add]; exact h) (frz_hfs hUf) (.inl rfl)
    have hwk : ∀ (s : St) r q cp, s.get r = some (.row 116 (wrs (ws.map clnW) ++ [.int .i64 a, .sl q 0 128 cp])) → s.get q = some (.row 5 (bys (pad b))) → Frz s (.sl r 0 (ws.length + 1) none) (.fz (ws.length + 1) none (wrs (dwW ⟨⟨bv, us, bs, wv, ws, false⟩, a, u, b⟩))) := fun s r q cp h1 h2 => by
      refine .sl r 0 _ none none 116 _ (wrs (ws.map clnW) ++ [.int .i64 a, .sl q 0 128 cp]) _ h1 (fun i x h => by rw [Nat.zero_add]; exact h) ?_ (.inl rfl)
      unfold dwW
      rw [wrs_app]
      exact (frz_hfs hWf).append (.cons (.plain _ rfl) (.cons (hfB s q cp h2) .nil))
    clear q1 q3 hout
    show VW P e 0 (match a58 with | .mk c _ => c) (initT [.agg [bv, wv, .bool false], .int .i64 a, u] 0 .lf) St0 none [] _
    have hfam : ∀ (s : St) (K : AV → St → Prop), K (.int .i64 0) s → ESc e 102 [.agg [bv, wv, .bool false], .int .i64 a, u] s K := hfam
    have hdd : (dwD ⟨⟨bv, us, bs, wv, ws, false⟩, a, u, b⟩).v = .agg [.fz us.length none (us.map clnV), .fz (ws.length + 1) none (wrs (dwW ⟨⟨bv, us, bs, wv, ws, false⟩, a, u, b⟩)), .bool false] := rfl
    by_cases h1024 : ws.length = 1024
    · rw [if_pos h1024]
      conv => whnf
      refine hfam _ _ ?_
      conv => whnf
      repeat' (first | (refine EPrim.lenZ rfl hwsl ?_; conv => whnf) | ((first | refine w5 rfl rfl ?_ ?_ | refine w6 rfl rfl ?_ ?_) <;> intro _ <;> first | (exfalso; omega) | (conv => whnf)) | fail)
      exact .plain _ rfl
    · rw [if_neg h1024, hdd]
      rcases ws with _ | ⟨w0, ws⟩
      · have htw : ∀ s, twO [.agg [bv, wv, .bool false]] s = .ok (.agg [.sl (0 + s.next) 0 us.length none, .nils, .bool false]) (allocs s [.row 32 (us.map clnV)]) := htw
        have fin : ∀ (s : St) r q cp, s.get 2 = some (.row 32 (us.map clnV)) → s.get r = some (.row 116 [.int .i64 a, .sl q 0 128 cp]) → s.get q = some (.row 5 (bys (pad b))) → Frz s (.tup [.agg [.sl 2 0 us.length none, .sl r 0 1 none, .bool false], .int .i64 0]) (.tup [.agg [.fz us.length none (us.map clnV), .fz (0 + 1) none (wrs (dwW ⟨⟨bv, us, bs, wv, [], false⟩, a, u, b⟩)), .bool false], .int .i64 0]) := fun s r q cp h1 h2 h3 =>
          .tup _ _ (.cons (.agg _ _ (.cons (hbk s h1) (.cons (hwk s r q cp h2 h3) (.cons (.plain _ rfl) .nil)))) (.cons (.plain _ rfl) .nil))
        conv => whnf
        refine hfam _ _ ?_
        conv => whnf
        repeat' (first | (refine EPrim.lenZ rfl hwsl ?_; conv => whnf) | ((first | refine w5 rfl rfl ?_ ?_ | refine w6 rfl rfl ?_ ?_) <;> intro _ <;> first | (exfalso; omega) | (conv => whnf)) | fail)
        refine ESc.ov h103 (htw _) ?_
        conv => whnf
        refine blkD_run h98 h141 hbt hbl (by show 3 < 1000000; decide) (fun h0 => ?_) (fun h1 => ?_)
        · conv => whnf
          repeat' (first | (refine EPrim.appNil (m := 1) rfl rfl rfl rfl (by decide) (by decide) ?_; conv => whnf) | (refine ⟨rfl, ?_⟩; conv => whnf) | fail)
          exact fin _ _ _ _ rfl rfl rfl
        · conv => whnf
          repeat' (first | (refine EPrim.appNil (m := 1) rfl rfl rfl rfl (by decide) (by decide) ?_; conv => whnf) | (refine ⟨rfl, ?_⟩; conv => whnf) | fail)
          exact fin _ _ _ _ rfl rfl rfl
      · have htw : ∀ s, twO [.agg [bv, wv, .bool false]] s = .ok (.agg [.sl (0 + s.next) 0 us.length none, .sl (1 + s.next) 0 (ws.length + 1) none, .bool false]) (allocs s [.row 32 (us.map clnV), .row 116 (wrs ((w0 :: ws).map clnW))]) := htw
        have fin : ∀ (s : St) r q cp, s.get 2 = some (.row 32 (us.map clnV)) → s.get r = some (.row 116 (wrs ((w0 :: ws).map clnW) ++ [.int .i64 a, .sl q 0 128 cp])) → s.get q = some (.row 5 (bys (pad b))) → Frz s (.tup [.agg [.sl 2 0 us.length none, .sl r 0 (ws.length + 1 + 1) none, .bool false], .int .i64 0]) (.tup [.agg [.fz us.length none (us.map clnV), .fz ((w0 :: ws).length + 1) none (wrs (dwW ⟨⟨bv, us, bs, wv, w0 :: ws, false⟩, a, u, b⟩)), .bool false], .int .i64 0]) := fun s r q cp h1 h2 h3 =>
          .tup _ _ (.cons (.agg _ _ (.cons (hbk s h1) (.cons (hwk s r q cp h2 h3) (.cons (.plain _ rfl) .nil)))) (.cons (.plain _ rfl) .nil))
        have hw1025 : ws.length + 1 ≤ 1024 := hw1024
        conv => whnf
        refine hfam _ _ ?_
        conv => whnf
        repeat' (first | (refine EPrim.lenZ rfl hwsl ?_; conv => whnf) | ((first | refine w5 rfl rfl ?_ ?_ | refine w6 rfl rfl ?_ ?_) <;> intro _ <;> first | (exfalso; omega) | (conv => whnf)) | fail)
        refine ESc.ov h103 (htw _) ?_
        conv => whnf
        refine blkD_run h98 h141 hbt hbl (by show 4 < 1000000; decide) (fun h0 => ?_) (fun h1 => ?_)
        · conv => whnf
          repeat' (first | (refine EPrim.appU (m := 1) rfl rfl rfl rfl (by rw [wrs_length, List.length_map]; rfl) rfl (by decide) (by omega) ?_; conv => whnf) | (refine ⟨rfl, ?_⟩; conv => whnf) | fail)
          exact fin _ _ _ _ rfl rfl rfl
        · conv => whnf
          repeat' (first | (refine EPrim.appU (m := 1) rfl rfl rfl rfl (by rw [wrs_length, List.length_map]; rfl) rfl (by decide) (by omega) ?_; conv => whnf) | (refine ⟨rfl, ?_⟩; conv => whnf) | fail)
          exact fin _ _ _ _ rfl rfl rfl
  · have hout : dwF.out x = .tup [.agg zDk, .int .i64 (wrtE x.d x.a x.b)] := by
      show dwOut x = _
      unfold dwOut dwE
      rw [if_neg h0, if_neg h0]
    rw [hout]
    obtain ⟨E, hE'⟩ : ∃ E, E = wrtE x.d x.a x.b := ⟨_, rfl⟩
    rw [← hE'] at h0 hfam ⊢
    obtain ⟨⟨bv, us, bs, wv, ws, dd⟩, a, u, b⟩ := x
    have hfam : ∀ (s : St) (K : AV → St → Prop), K (.int .i64 E) s → ESc e 102 [.agg [bv, wv, .bool dd], .int .i64 a, u] s K := hfam
    show VW P e 0 (match a58 with | .mk c _ => c) (initT [.agg [bv, wv, .bool dd], .int .i64 a, u] 0 .lf) St0 none [] _
    conv => whnf
    refine hfam _ _ ?_
    conv => whnf
    refine EPrim.neq2 (a := E) (b := 0) rfl rfl (fun _ => ?_) (fun h => absurd h h0)
    conv => whnf
    skip
    exact .plain _ rfl
end Go.AM

set_option linter.unusedVariables false
set_option linter.unusedSimpArgs false
set_option maxRecDepth 100000
namespace Go.AM
attribute [local irreducible] W
open X
theorem dw0 {x : DKW} (h : dwE x = 0) : wrtE x.d x.a x.b = 0 ∧ x.d.ws.length ≠ 1024 := by
  unfold dwE at h
  by_cases h1 : wrtE x.d x.a x.b = 0
  · rw [if_pos h1] at h
    by_cases h2 : x.d.ws.length = 1024
    · rw [if_pos h2] at h; cases h
    · exact ⟨h1, h2⟩
  · rw [if_neg h1] at h; exact absurd h h1
theorem dwD_len (x : DKW) : (dwD x).us.length = x.d.us.length := List.length_map ..
theorem dwW_len (x : DKW) : (dwW x).length = x.d.ws.length + 1 := by unfold dwW; simp
theorem dwD_ok {x : DKW} (hx : x.ok) (h : dwE x = 0) : (dwD x).ok := by
  obtain ⟨h0, h1⟩ := dw0 h
  obtain ⟨q1, q2, q3, q4⟩ := wrt0 h0
  have hbl := oddB_no q3
  obtain ⟨p1, p2⟩ := pad_at hbl hx.b.2
  have hm := (dskB_of hx.d.a q1).1
  have hwa : ∀ w ∈ dwW x, w.any ∧ w.b.length < 1000000 := fun w hw => by
    rcases List.mem_append.1 hw with hw | hw
    · obtain ⟨v, hv, rfl⟩ := List.mem_map.1 hw
      exact ⟨clnW_any (hx.d.a.ws v hv), hx.d.w v hv⟩
    · have : w = ⟨x.a, fzB (pad x.b), pad x.b⟩ := by simpa using hw
      subst this
      exact ⟨⟨hx.a, p1⟩, by show (pad x.b).length < _; omega⟩
  refine ⟨⟨?_, all2_cln hx.d.a.bs, ?_, fun w hw => (hwa w hw).1⟩, ?_, ?_, hx.d.b, fun w hw => (hwa w hw).2⟩
  · exact .inr (.inr ⟨none, by rw [dwD_len]; rfl, by rw [Nat.mul_one]⟩)
  · refine .inr (.inr ⟨none, ?_, wrs_length _⟩)
    show AV.fz (x.d.ws.length + 1) none (wrs (dwW x)) = .fz (dwW x).length none _
    rw [dwW_len]; rfl
  · rw [dwD_len]; exact hx.d.n
  · show (dwW x).length < _; rw [dwW_len]; omega
theorem dwD_dsk {x : DKW} (hx : x.ok) (h : dwE x = 0) : dskB (dwD x) = true := by
  obtain ⟨h0, h1⟩ := dw0 h
  obtain ⟨q1, q2, q3, q4⟩ := wrt0 h0
  obtain ⟨d1, d2, d3, d4⟩ := dskB_iff.1 q1
  have hbl := oddB_no q3
  obtain ⟨p1, p2⟩ := pad_at hbl hx.b.2
  refine dskB_iff.2 ⟨?_, d2, fun w hw => ?_, fun hd => ?_⟩
  · rw [dwD_len]
    have : (dwD x).ws.length = x.d.ws.length + 1 := dwW_len x
    omega
  · rw [dwD_len]
    rcases List.mem_append.1 (show w ∈ dwW x from hw) with hw | hw
    · obtain ⟨v, hv, rfl⟩ := List.mem_map.1 hw
      exact d3 v hv
    · have : w = ⟨x.a, fzB (pad x.b), pad x.b⟩ := by simpa using hw
      subst this
      unfold wBad
      dsimp only
      rw [p2, decide_eq_false (by omega), decide_eq_false (by omega)]; rfl
  · have hd : x.d.dead = true := hd
    rw [q4] at hd; cases hd
theorem lastW_app {p : Int} (L : List WR) (w : WR) : lastW p (L.map clnW ++ [w]).reverse = if w.at_ = p then some w.b else lastW p L.reverse := by
  rw [List.reverse_append]
  show (if w.at_ = p then some w.b else lastW p (L.map clnW).reverse) = _
  congr 1
  rw [← List.map_reverse]
  generalize L.reverse = M
  induction M with
  | nil => rfl
  | cons v M ih =>
    show (if v.at_ = p then some v.b else _) = if v.at_ = p then some v.b else _
    rw [ih]
theorem drdB_dw (x : DKW) (p : Int) : drdB (dwD x) p = if x.a = p then pad x.b else drdB x.d p := by
  unfold drdB drdL
  show (lastW p (x.d.ws.map clnW ++ [_]).reverse).getD (x.d.bs.getD p.toNat []) = _
  rw [lastW_app]
  by_cases h : x.a = p
  · rw [if_pos h, if_pos h]; rfl
  · rw [if_neg h, if_neg h]
theorem RDK.dw {lg : Int} {d : DK} (h : RDK lg d) {x : DKW} (hx : x.ok) (hd : x.d = d) (h0 : dwE x = 0) : RDK lg (dwD x) := by
  subst hd
  exact ⟨dwD_ok hx h0, dwD_dsk hx h0, by rw [dwD_len]; exact h.len, h.dead, h.lo⟩
end Go.AM

set_option linter.unusedVariables false
set_option linter.unusedSimpArgs false
set_option maxRecDepth 100000
namespace Go.AM
attribute [local irreducible] W
open X
def code16 : AC := match a16 with | .mk c _ => c
structure DTIn (e : Env) : Prop where
  h47 : Con e 47 trueO
  h32 : Con e 32 grtF.O
  h21 : Con e 21 grt4F.O
  h48 : Con e 48 blkF.O
  h23 : Con e 23 drF.O
  h35 : Con e 35 onF.O
  h49 : Con e 49 ldF.O
  h58 : Con e 58 dwF.O
  h25 : Con e 25 sameF.O
theorem oth_main (P : Program) (e : Env) (hE : EnvOk P e) (hm : P.follows .mixedOrders = true) {id id' mb ch rw' lg hdd a st bk : Int} {bv wv sv dv pv x1 x2 r1 r2 r3 dt : AV} {dd x3 : Bool} {db : List Nat} (hdf : hfs [bv, wv, .bool dd] = true) (hddf : hfs [.int .i64 st, sv, dv, pv] = true) (hxf : hfs [x1, x2, .bool x3] = true) {k : Nat} {BL : List AV} (hk2 : 2 ≤ k) (hkm : (k : Int) ≤ lg)
    (hlg : 1 ≤ lg ∧ lg ≤ 255) (ha : 0 ≤ a ∧ a < lg) (hbk : i64B bk) (hdt : Sl 1 db.length (bys db) dt) (hdl : db.length ≤ 1000)
    (h47 : Con e 47 trueO) (h35 : Con e 35 onF.O)
    (hg1 : ∀ (K : AV → St → Prop) (s : St), K (.bool false) s → ESc e 32 [.agg [.int .i64 st, sv, dv, pv]] s K)
    (hg2 : ∀ (K : AV → St → Prop) (s : St), K (.bool false) s → ESc e 21 [.agg [bv, wv, .bool dd]] s K)
    (hbl : ∀ (K : AV → St → Prop) (s : St), K (.tup [.fz k none BL, .int .i64 0]) s → ESc e 48 [.agg [.int .u32 id, .int .i64 mb, .int .i64 ch, .int .i64 rw', .int .i64 lg, .int .i64 hdd], .int .u32 5, .int .u32 6, .agg [.int .i64 st, sv, dv, pv]] s K)
    (hr0 : ∀ (K : AV → St → Prop) (s : St), K (drErr 130) s → (∀ f : Fd, K (.tup [.agg f.c, .int .i64 (1 + (f.n.recs.length : Int)), .int .i64 0]) s) → ESc e 23 [.agg [.int .u32 id, .int .i64 mb, .int .i64 ch, .int .i64 rw', .int .i64 lg, .int .i64 hdd], .agg [bv, wv, .bool dd], .int .i64 a] s K)
    (hld : ∀ (K : AV → St → Prop) (s : St), K (.tup [.agg [x1, x2, .bool x3], .bool true]) s → ESc e 49 [.agg [.int .u32 id, .int .i64 mb, .int .i64 ch, .int .i64 rw', .int .i64 lg, .int .i64 hdd], .agg [bv, wv, .bool dd], .int .i64 a, .fz k none BL] s K)
    (hoth : (id' = id ∧ ∀ (K : AV → St → Prop) (s : St), K (.tup [.agg [.int .u32 5, .int .u32 6, .int .i64 st, r1, r2, r3], .int .i64 (k : Int), .int .i64 0]) s → ESc e 23 [.agg [.int .u32 id', .int .i64 mb, .int .i64 ch, .int .i64 rw', .int .i64 lg, .int .i64 hdd], .agg [x1, x2, .bool x3], .int .i64 a] s K) ∨
      (id' ≠ id ∧ ∀ (K : AV → St → Prop) (s : St), K (drErr 130) s → ESc e 23 [.agg [.int .u32 id', .int .i64 mb, .int .i64 ch, .int .i64 rw', .int .i64 lg, .int .i64 hdd], .agg [x1, x2, .bool x3], .int .i64 a] s K))
    (hw : (∃ n : Int, n ≠ 0 ∧ ∀ (K : AV → St → Prop) (s : St), K (.tup [.agg zDk, .int .i64 n]) s → ESc e 58 [.agg [x1, x2, .bool x3], .int .i64 bk, dt] s K) ∨
      (∃ (y1 y2 : AV) (y3 : Bool), (∀ (K : AV → St → Prop) (s : St), K (.tup [.agg [y1, y2, .bool y3], .int .i64 0]) s → ESc e 58 [.agg [x1, x2, .bool x3], .int .i64 bk, dt] s K) ∧
        ((∀ j : Nat, j < k → bk ≠ 1 + (a + (j : Int)) % lg) → ∀ (K : AV → St → Prop) (s : St), K (.tup [.agg [.int .u32 5, .int .u32 6, .int .i64 st, r1, r2, r3], .int .i64 (k : Int), .int .i64 0]) s → ESc e 23 [.agg [.int .u32 id, .int .i64 mb, .int .i64 ch, .int .i64 rw', .int .i64 lg, .int .i64 hdd], .agg [y1, y2, .bool y3], .int .i64 a] s K)))
    (hsame : ∀ (K : AV → St → Prop) (s : St), K (.bool true) s → ESc e 25 [.agg [.int .i64 st, r1, r2, r3], .agg [.int .i64 st, sv, dv, pv]] s K) :
    VW P e 0 code16 (initT [.agg [.int .u32 id, .int .i64 mb, .int .i64 ch, .int .i64 rw', .int .i64 lg, .int .i64 hdd], .int .u32 id', .agg [bv, wv, .bool dd], .int .i64 a, .agg [.int .i64 st, sv, dv, pv], .int .i64 bk, dt] 0 .lf) St0 none [] (EEnd [.tmp 14] (fun u s => u = .bool true)) := by
  have hdtf := hdt.hf
  unfold i64B at hbk
  conv => whnf
  refine ESc.ov h47 rfl ?_
  conv => whnf
  refine hg1 _ _ ?_
  conv => whnf
  refine hg2 _ _ ?_
  conv => whnf
  repeat' (first | (refine EPrim.lenZ rfl hdt ?_; conv => whnf) | ((refine w3 rfl rfl ?_ ?_) <;> intro _ <;> first | (exfalso; omega) | (conv => whnf)) | (refine w12 rfl ?_; conv => whnf) | fail)
  refine hbl _ _ ?_
  conv => whnf
  refine hr0 _ _ ?_ (fun f => ?_)
  · conv => whnf
    repeat' (first | (refine hld _ _ ?_; conv => whnf) | ((refine w6 rfl rfl ?_ ?_) <;> intro _ <;> first | (exfalso; omega) | (conv => whnf)) | fail)
    rcases hoth with ⟨hid, hoth⟩ | ⟨hid, hoth⟩
    · refine hoth _ _ ?_
      conv => whnf
      repeat' (first | ((first | refine w5 rfl rfl ?_ ?_ | refine w6 rfl rfl ?_ ?_) <;> intro _ <;> first | (exfalso; omega) | (conv => whnf)) | (refine w12 rfl ?_; conv => whnf) | fail)
      refine W.loopT (α := Nat) (fun i => [(3, .int .i64 a), (5, .int .i64 bk), (6, dt), (7, .ptr 0 0), (11, .ptr 1 0), (15, .bool true), (16, .fz k none BL), (21, .ptr 2 0), (27, .int .i64 (i : Int))]) (fun _ => [.row 24 [.int .u32 id, .int .i64 mb, .int .i64 ch, .int .i64 rw', .int .i64 lg, .int .i64 hdd], .row 34 [.int .i64 st, sv, dv, pv], .row 28 [x1, x2, .bool x3]]) (fun i => k - i) (fun i => i ≤ k ∧ ∀ j : Nat, j < i → bk ≠ 1 + (a + (j : Int)) % lg) 0 ⟨Nat.zero_le _, fun j h => absurd h (Nat.not_lt_zero j)⟩
        (Abs.tells (rs := [0, 2, 4]) ⟨by decide, ⟨⟨rfl, rfl⟩, ⟨rfl, rfl⟩, ⟨hf_bd _ hdtf, by rw [hf_mapV _ hdtf]; rfl⟩, ⟨rfl, rfl⟩, ⟨rfl, rfl⟩, ⟨rfl, rfl⟩, ⟨rfl, rfl⟩, ⟨rfl, rfl⟩, ⟨rfl, rfl⟩, trivial⟩, ⟨⟨rfl, rfl⟩, ⟨rowH hddf, by rw [mapRowH hddf]; rfl⟩, ⟨rowH hxf, by rw [mapRowH hxf]; rfl⟩, trivial⟩⟩) ?_
      rintro i ⟨hi, hI⟩
      dsimp only at hi hI ⊢
      refine vw_sound hE hm ?_
      by_cases hlt : i < k
      · have h00 : 0 ≤ (a + (i : Int)) % lg := Int.emod_nonneg _ (by omega)
        have h01 : (a + (i : Int)) % lg < lg := Int.emod_lt_of_pos _ (by omega)
        have honk : onF.ok ⟨lg, a, (i : Int)⟩ := ⟨by unfold i64B; dsimp only; omega, by unfold i64B; dsimp only; omega, by unfold i64B; dsimp only; omega⟩
        have hon : onF.out ⟨lg, a, (i : Int)⟩ = .tup [.int .i64 ((a + (i : Int)) % lg), .int .i64 0] := by
          have : onOk ⟨lg, a, (i : Int)⟩ = true := by unfold onOk hasB; dsimp only; rw [decide_eq_true (by omega), decide_eq_true (by omega), decide_eq_true (by omega)]; rfl
          show (if onOk _ then _ else _) = _; rw [if_pos this]
        conv => whnf
        refine EPrim.lenF rfl ?_
        conv => whnf
        refine EPrim.lss2 (a := (i : Int)) (b := (k : Int)) rfl rfl (fun _ => ?_) (fun h => by omega)
        conv => whnf
        refine ESc.fam onF h35 ⟨lg, a, (i : Int)⟩ honk hon ?_
        conv => whnf
        refine EPrim.addS (a := 1) (b := (a + (i : Int)) % lg) rfl rfl (by omega) ?_
        conv => whnf
        refine EPrim.eql2 (a := bk) (b := 1 + (a + (i : Int)) % lg) rfl rfl (fun _ => ?_) (fun hne => ?_)
        · conv => whnf
          skip
          rfl
        · conv => whnf
          repeat' (first | ((first | refine w7 rfl rfl (by omega) ?_ | refine ⟨rfl, ?_⟩); conv => whnf) | fail)
          refine ⟨i + 1, ⟨hlt, fun j hj => ?_⟩, by omega, Abs.tells (rs := [0, 1, 2]) ⟨by decide, ⟨⟨rfl, rfl⟩, ⟨rfl, rfl⟩, ⟨hf_bd _ hdtf, by rw [hf_mapV _ hdtf]; rfl⟩, ⟨rfl, rfl⟩, ⟨rfl, rfl⟩, ⟨rfl, rfl⟩, ⟨rfl, rfl⟩, ⟨rfl, rfl⟩, ⟨rfl, rfl⟩, trivial⟩, ⟨⟨rfl, rfl⟩, ⟨rowH hddf, by rw [mapRowH hddf]; rfl⟩, ⟨rowH hxf, by rw [mapRowH hxf]; rfl⟩, trivial⟩⟩⟩
          rcases Nat.lt_or_ge j i with h | h
          · exact hI j h
          · have : j = i := by omega
            subst this; exact hne
      · have hie : i = k := by omega
        subst hie
        conv => whnf
        refine EPrim.lenF rfl ?_
        conv => whnf
        refine EPrim.lss2 (a := (i : Int)) (b := (i : Int)) rfl rfl (fun h => by omega) (fun _ => ?_)
        conv => whnf
        rcases hw with ⟨n, hn, hw⟩ | ⟨y1, y2, y3, hw, hr2⟩
        · refine hw _ _ ?_
          conv => whnf
          repeat' (first | ((refine w6 rfl rfl ?_ ?_) <;> intro _ <;> first | (exfalso; omega) | (conv => whnf)) | fail)
          rfl
        · have hr2 := hr2 hI
          refine hw _ _ ?_
          conv => whnf
          repeat' (first | (refine hr2 _ _ ?_; conv => whnf) | (refine EPrim.lenF rfl ?_; conv => whnf) | (refine hsame _ _ ?_; conv => whnf) | ((first | refine w5 rfl rfl ?_ ?_ | refine w6 rfl rfl ?_ ?_) <;> intro _ <;> first | (exfalso; omega) | (conv => whnf)) | fail)
          rfl
    · refine hoth _ _ ?_
      conv => whnf
      repeat' (first | ((first | refine w5 rfl rfl ?_ ?_ | refine w6 rfl rfl ?_ ?_) <;> intro _ <;> first | (exfalso; omega) | (conv => whnf)) | (refine w12 rfl ?_; conv => whnf) | fail)
      refine W.loopT (α := Nat) (fun i => [(3, .int .i64 a), (5, .int .i64 bk), (6, dt), (7, .ptr 0 0), (11, .ptr 1 0), (15, .bool true), (16, .fz k none BL), (21, .ptr 2 0), (27, .int .i64 (i : Int))]) (fun _ => [.row 24 [.int .u32 id, .int .i64 mb, .int .i64 ch, .int .i64 rw', .int .i64 lg, .int .i64 hdd], .row 34 [.int .i64 st, sv, dv, pv], .row 28 [x1, x2, .bool x3]]) (fun i => k - i) (fun i => i ≤ k ∧ ∀ j : Nat, j < i → bk ≠ 1 + (a + (j : Int)) % lg) 0 ⟨Nat.zero_le _, fun j h => absurd h (Nat.not_lt_zero j)⟩
        (Abs.tells (rs := [0, 2, 4]) ⟨by decide, ⟨⟨rfl, rfl⟩, ⟨rfl, rfl⟩, ⟨hf_bd _ hdtf, by rw [hf_mapV _ hdtf]; rfl⟩, ⟨rfl, rfl⟩, ⟨rfl, rfl⟩, ⟨rfl, rfl⟩, ⟨rfl, rfl⟩, ⟨rfl, rfl⟩, ⟨rfl, rfl⟩, trivial⟩, ⟨⟨rfl, rfl⟩, ⟨rowH hddf, by rw [mapRowH hddf]; rfl⟩, ⟨rowH hxf, by rw [mapRowH hxf]; rfl⟩, trivial⟩⟩) ?_
      rintro i ⟨hi, hI⟩
      dsimp only at hi hI ⊢
      refine vw_sound hE hm ?_
      by_cases hlt : i < k
      · have h00 : 0 ≤ (a + (i : Int)) % lg := Int.emod_nonneg _ (by omega)
        have h01 : (a + (i : Int)) % lg < lg := Int.emod_lt_of_pos _ (by omega)
        have honk : onF.ok ⟨lg, a, (i : Int)⟩ := ⟨by unfold i64B; dsimp only; omega, by unfold i64B; dsimp only; omega, by unfold i64B; dsimp only; omega⟩
        have hon : onF.out ⟨lg, a, (i : Int)⟩ = .tup [.int .i64 ((a + (i : Int)) % lg), .int .i64 0] := by
          have : onOk ⟨lg, a, (i : Int)⟩ = true := by unfold onOk hasB; dsimp only; rw [decide_eq_true (by omega), decide_eq_true (by omega), decide_eq_true (by omega)]; rfl
          show (if onOk _ then _ else _) = _; rw [if_pos this]
        conv => whnf
        refine EPrim.lenF rfl ?_
        conv => whnf
        refine EPrim.lss2 (a := (i : Int)) (b := (k : Int)) rfl rfl (fun _ => ?_) (fun h => by omega)
        conv => whnf
        refine ESc.fam onF h35 ⟨lg, a, (i : Int)⟩ honk hon ?_
        conv => whnf
        refine EPrim.addS (a := 1) (b := (a + (i : Int)) % lg) rfl rfl (by omega) ?_
        conv => whnf
        refine EPrim.eql2 (a := bk) (b := 1 + (a + (i : Int)) % lg) rfl rfl (fun _ => ?_) (fun hne => ?_)
        · conv => whnf
          skip
          rfl
        · conv => whnf
          repeat' (first | ((first | refine w7 rfl rfl (by omega) ?_ | refine ⟨rfl, ?_⟩); conv => whnf) | fail)
          refine ⟨i + 1, ⟨hlt, fun j hj => ?_⟩, by omega, Abs.tells (rs := [0, 1, 2]) ⟨by decide, ⟨⟨rfl, rfl⟩, ⟨rfl, rfl⟩, ⟨hf_bd _ hdtf, by rw [hf_mapV _ hdtf]; rfl⟩, ⟨rfl, rfl⟩, ⟨rfl, rfl⟩, ⟨rfl, rfl⟩, ⟨rfl, rfl⟩, ⟨rfl, rfl⟩, ⟨rfl, rfl⟩, trivial⟩, ⟨⟨rfl, rfl⟩, ⟨rowH hddf, by rw [mapRowH hddf]; rfl⟩, ⟨rowH hxf, by rw [mapRowH hxf]; rfl⟩, trivial⟩⟩⟩
          rcases Nat.lt_or_ge j i with h | h
          · exact hI j h
          · have : j = i := by omega
            subst this; exact hne
      · have hie : i = k := by omega
        subst hie
        conv => whnf
        refine EPrim.lenF rfl ?_
        conv => whnf
        refine EPrim.lss2 (a := (i : Int)) (b := (i : Int)) rfl rfl (fun h => by omega) (fun _ => ?_)
        conv => whnf
        rcases hw with ⟨n, hn, hw⟩ | ⟨y1, y2, y3, hw, hr2⟩
        · refine hw _ _ ?_
          conv => whnf
          repeat' (first | ((refine w6 rfl rfl ?_ ?_) <;> intro _ <;> first | (exfalso; omega) | (conv => whnf)) | fail)
          rfl
        · have hr2 := hr2 hI
          refine hw _ _ ?_
          conv => whnf
          repeat' (first | (refine hr2 _ _ ?_; conv => whnf) | (refine EPrim.lenF rfl ?_; conv => whnf) | (refine hsame _ _ ?_; conv => whnf) | ((first | refine w5 rfl rfl ?_ ?_ | refine w6 rfl rfl ?_ ?_) <;> intro _ <;> first | (exfalso; omega) | (conv => whnf)) | fail)
          rfl
  · conv => whnf
    repeat' (first | (refine hld _ _ ?_; conv => whnf) | ((refine w6 rfl rfl ?_ ?_) <;> intro _ <;> first | (exfalso; omega) | (conv => whnf)) | fail)
    rcases hoth with ⟨hid, hoth⟩ | ⟨hid, hoth⟩
    · refine hoth _ _ ?_
      conv => whnf
      repeat' (first | ((first | refine w5 rfl rfl ?_ ?_ | refine w6 rfl rfl ?_ ?_) <;> intro _ <;> first | (exfalso; omega) | (conv => whnf)) | (refine w12 rfl ?_; conv => whnf) | fail)
      refine W.loopT (α := Nat) (fun i => [(3, .int .i64 a), (5, .int .i64 bk), (6, dt), (7, .ptr 0 0), (11, .ptr 1 0), (15, .bool true), (16, .fz k none BL), (21, .ptr 2 0), (27, .int .i64 (i : Int))]) (fun _ => [.row 24 [.int .u32 id, .int .i64 mb, .int .i64 ch, .int .i64 rw', .int .i64 lg, .int .i64 hdd], .row 34 [.int .i64 st, sv, dv, pv], .row 28 [x1, x2, .bool x3]]) (fun i => k - i) (fun i => i ≤ k ∧ ∀ j : Nat, j < i → bk ≠ 1 + (a + (j : Int)) % lg) 0 ⟨Nat.zero_le _, fun j h => absurd h (Nat.not_lt_zero j)⟩
        (Abs.tells (rs := [0, 2, 4]) ⟨by decide, ⟨⟨rfl, rfl⟩, ⟨rfl, rfl⟩, ⟨hf_bd _ hdtf, by rw [hf_mapV _ hdtf]; rfl⟩, ⟨rfl, rfl⟩, ⟨rfl, rfl⟩, ⟨rfl, rfl⟩, ⟨rfl, rfl⟩, ⟨rfl, rfl⟩, ⟨rfl, rfl⟩, trivial⟩, ⟨⟨rfl, rfl⟩, ⟨rowH hddf, by rw [mapRowH hddf]; rfl⟩, ⟨rowH hxf, by rw [mapRowH hxf]; rfl⟩, trivial⟩⟩) ?_
      rintro i ⟨hi, hI⟩
      dsimp only at hi hI ⊢
      refine vw_sound hE hm ?_
      by_cases hlt : i < k
      · have h00 : 0 ≤ (a + (i : Int)) % lg := Int.emod_nonneg _ (by omega)
        have h01 : (a + (i : Int)) % lg < lg := Int.emod_lt_of_pos _ (by omega)
        have honk : onF.ok ⟨lg, a, (i : Int)⟩ := ⟨by unfold i64B; dsimp only; omega, by unfold i64B; dsimp only; omega, by unfold i64B; dsimp only; omega⟩
        have hon : onF.out ⟨lg, a, (i : Int)⟩ = .tup [.int .i64 ((a + (i : Int)) % lg), .int .i64 0] := by
          have : onOk ⟨lg, a, (i : Int)⟩ = true := by unfold onOk hasB; dsimp only; rw [decide_eq_true (by omega), decide_eq_true (by omega), decide_eq_true (by omega)]; rfl
          show (if onOk _ then _ else _) = _; rw [if_pos this]
        conv => whnf
        refine EPrim.lenF rfl ?_
        conv => whnf
        refine EPrim.lss2 (a := (i : Int)) (b := (k : Int)) rfl rfl (fun _ => ?_) (fun h => by omega)
        conv => whnf
        refine ESc.fam onF h35 ⟨lg, a, (i : Int)⟩ honk hon ?_
        conv => whnf
        refine EPrim.addS (a := 1) (b := (a + (i : Int)) % lg) rfl rfl (by omega) ?_
        conv => whnf
        refine EPrim.eql2 (a := bk) (b := 1 + (a + (i : Int)) % lg) rfl rfl (fun _ => ?_) (fun hne => ?_)
        · conv => whnf
          skip
          rfl
        · conv => whnf
          repeat' (first | ((first | refine w7 rfl rfl (by omega) ?_ | refine ⟨rfl, ?_⟩); conv => whnf) | fail)
          refine ⟨i + 1, ⟨hlt, fun j hj => ?_⟩, by omega, Abs.tells (rs := [0, 1, 2]) ⟨by decide, ⟨⟨rfl, rfl⟩, ⟨rfl, rfl⟩, ⟨hf_bd _ hdtf, by rw [hf_mapV _ hdtf]; rfl⟩, ⟨rfl, rfl⟩, ⟨rfl, rfl⟩, ⟨rfl, rfl⟩, ⟨rfl, rfl⟩, ⟨rfl, rfl⟩, ⟨rfl, rfl⟩, trivial⟩, ⟨⟨rfl, rfl⟩, ⟨rowH hddf, by rw [mapRowH hddf]; rfl⟩, ⟨rowH hxf, by rw [mapRowH hxf]; rfl⟩, trivial⟩⟩⟩
          rcases Nat.lt_or_ge j i with h | h
          · exact hI j h
          · have : j = i := by omega
            subst this; exact hne
      · have hie : i = k := by omega
        subst hie
        conv => whnf
        refine EPrim.lenF rfl ?_
        conv => whnf
        refine EPrim.lss2 (a := (i : Int)) (b := (i : Int)) rfl rfl (fun h => by omega) (fun _ => ?_)
        conv => whnf
        rcases hw with ⟨n, hn, hw⟩ | ⟨y1, y2, y3, hw, hr2⟩
        · refine hw _ _ ?_
          conv => whnf
          repeat' (first | ((refine w6 rfl rfl ?_ ?_) <;> intro _ <;> first | (exfalso; omega) | (conv => whnf)) | fail)
          rfl
        · have hr2 := hr2 hI
          refine hw _ _ ?_
          conv => whnf
          repeat' (first | (refine hr2 _ _ ?_; conv => whnf) | (refine EPrim.lenF rfl ?_; conv => whnf) | (refine hsame _ _ ?_; conv => whnf) | ((first | refine w5 rfl rfl ?_ ?_ | refine w6 rfl rfl ?_ ?_) <;> intro _ <;> first | (exfalso; omega) | (conv => whnf)) | fail)
          rfl
    · refine hoth _ _ ?_
      conv => whnf
      repeat' (first | ((first | refine w5 rfl rfl ?_ ?_ | refine w6 rfl rfl ?_ ?_) <;> intro _ <;> first | (exfalso; omega) | (conv => whnf)) | (refine w12 rfl ?_; conv => whnf) | fail)
      refine W.loopT (α := Nat) (fun i => [(3, .int .i64 a), (5, .int .i64 bk), (6, dt), (7, .ptr 0 0), (11, .ptr 1 0), (15, .bool true), (16, .fz k none BL), (21, .ptr 2 0), (27, .int .i64 (i : Int))]) (fun _ => [.row 24 [.int .u32 id, .int .i64 mb, .int .i64 ch, .int .i64 rw', .int .i64 lg, .int .i64 hdd], .row 34 [.int .i64 st, sv, dv, pv], .row 28 [x1, x2, .bool x3]]) (fun i => k - i) (fun i => i ≤ k ∧ ∀ j : Nat, j < i → bk ≠ 1 + (a + (j : Int)) % lg) 0 ⟨Nat.zero_le _, fun j h => absurd h (Nat.not_lt_zero j)⟩
        (Abs.tells (rs := [0, 2, 4]) ⟨by decide, ⟨⟨rfl, rfl⟩, ⟨rfl, rfl⟩, ⟨hf_bd _ hdtf, by rw [hf_mapV _ hdtf]; rfl⟩, ⟨rfl, rfl⟩, ⟨rfl, rfl⟩, ⟨rfl, rfl⟩, ⟨rfl, rfl⟩, ⟨rfl, rfl⟩, ⟨rfl, rfl⟩, trivial⟩, ⟨⟨rfl, rfl⟩, ⟨rowH hddf, by rw [mapRowH hddf]; rfl⟩, ⟨rowH hxf, by rw [mapRowH hxf]; rfl⟩, trivial⟩⟩) ?_
      rintro i ⟨hi, hI⟩
      dsimp only at hi hI ⊢
      refine vw_sound hE hm ?_
      by_cases hlt : i < k
      · have h00 : 0 ≤ (a + (i : Int)) % lg := Int.emod_nonneg _ (by omega)
        have h01 : (a + (i : Int)) % lg < lg := Int.emod_lt_of_pos _ (by omega)
        have honk : onF.ok ⟨lg, a, (i : Int)⟩ := ⟨by unfold i64B; dsimp only; omega, by unfold i64B; dsimp only; omega, by unfold i64B; dsimp only; omega⟩
        have hon : onF.out ⟨lg, a, (i : Int)⟩ = .tup [.int .i64 ((a + (i : Int)) % lg), .int .i64 0] := by
          have : onOk ⟨lg, a, (i : Int)⟩ = true := by unfold onOk hasB; dsimp only; rw [decide_eq_true (by omega), decide_eq_true (by omega), decide_eq_true (by omega)]; rfl
          show (if onOk _ then _ else _) = _; rw [if_pos this]
        conv => whnf
        refine EPrim.lenF rfl ?_
        conv => whnf
        refine EPrim.lss2 (a := (i : Int)) (b := (k : Int)) rfl rfl (fun _ => ?_) (fun h => by omega)
        conv => whnf
        refine ESc.fam onF h35 ⟨lg, a, (i : Int)⟩ honk hon ?_
        conv => whnf
        refine EPrim.addS (a := 1) (b := (a + (i : Int)) % lg) rfl rfl (by omega) ?_
        conv => whnf
        refine EPrim.eql2 (a := bk) (b := 1 + (a + (i : Int)) % lg) rfl rfl (fun _ => ?_) (fun hne => ?_)
        · conv => whnf
          skip
          rfl
        · conv => whnf
          repeat' (first | ((first | refine w7 rfl rfl (by omega) ?_ | refine ⟨rfl, ?_⟩); conv => whnf) | fail)
          refine ⟨i + 1, ⟨hlt, fun j hj => ?_⟩, by omega, Abs.tells (rs := [0, 1, 2]) ⟨by decide, ⟨⟨rfl, rfl⟩, ⟨rfl, rfl⟩, ⟨hf_bd _ hdtf, by rw [hf_mapV _ hdtf]; rfl⟩, ⟨rfl, rfl⟩, ⟨rfl, rfl⟩, ⟨rfl, rfl⟩, ⟨rfl, rfl⟩, ⟨rfl, rfl⟩, ⟨rfl, rfl⟩, trivial⟩, ⟨⟨rfl, rfl⟩, ⟨rowH hddf, by rw [mapRowH hddf]; rfl⟩, ⟨rowH hxf, by rw [mapRowH hxf]; rfl⟩, trivial⟩⟩⟩
          rcases Nat.lt_or_ge j i with h | h
          · exact hI j h
          · have : j = i := by omega
            subst this; exact hne
      · have hie : i = k := by omega
        subst hie
        conv => whnf
        refine EPrim.lenF rfl ?_
        conv => whnf
        refine EPrim.lss2 (a := (i : Int)) (b := (i : Int)) rfl rfl (fun h => by omega) (fun _ => ?_)
        conv => whnf
        rcases hw with ⟨n, hn, hw⟩ | ⟨y1, y2, y3, hw, hr2⟩
        · refine hw _ _ ?_
          conv => whnf
          repeat' (first | ((refine w6 rfl rfl ?_ ?_) <;> intro _ <;> first | (exfalso; omega) | (conv => whnf)) | fail)
          rfl
        · have hr2 := hr2 hI
          refine hw _ _ ?_
          conv => whnf
          repeat' (first | (refine hr2 _ _ ?_; conv => whnf) | (refine EPrim.lenF rfl ?_; conv => whnf) | (refine hsame _ _ ?_; conv => whnf) | ((first | refine w5 rfl rfl ?_ ?_ | refine w6 rfl rfl ?_ ?_) <;> intro _ <;> first | (exfalso; omega) | (conv => whnf)) | fail)
          rfl
theorem ring_laid {e : Env} (h49 : Con e 49 ldF.O) {ag sq : Int} {c : Cfg} {d : DB} {j : DK} {a : Int} (hBD : BD.ok ⟨c, ag, sq, d⟩) (hjk : j.ok) (hG : CD.good ⟨c, d.d⟩) (hA : askE ⟨c, j, a⟩ = 0) :
    ∃ X : DK, RDK c.log X ∧ (∀ (K : AV → St → Prop) (s : St), K (.tup [X.v, .bool true]) s → ESc e 49 [c.v, j.v, .int .i64 a, .fz (d.prs.length + 1) none (blkV (noteBk (BD.note ⟨c, ag, sq, d⟩)) :: d.prs.map stoodV)] s K) ∧
      (∀ (i : Nat) b, (BD.bb ⟨c, ag, sq, d⟩)[i]? = some b → rbk ⟨c, X, a⟩ i = b) := by
  obtain ⟨hM, a2, a3, a4, a5⟩ := ask0 hA
  have hM : c.may := hM
  have a3 : (j.us.length : Int) = c.log + 1 := a3
  have a4 : 0 ≤ a ∧ a < c.log := a4
  have hdk := hBD.d
  have hDG := dgood_of hG
  have hpl := prs_len hDG
  have hM' := hM
  unfold Cfg.may at hM'
  have hR : RDK c.log j := ⟨hjk, a2, a3, a5, by have := Cfg.may_log hM; omega⟩
  obtain ⟨l, hl⟩ : ∃ l : List (AV × List Nat), l = (blkV (noteBk (BD.note ⟨c, ag, sq, d⟩)), noteBk (BD.note ⟨c, ag, sq, d⟩)) :: d.prs.map (fun p => (stoodV p, stoodN p.2)) := ⟨_, rfl⟩
  have hp := deal_prs hG.1 hdk hG.2
  have hl1 : l.map Prod.fst = blkV (noteBk (BD.note ⟨c, ag, sq, d⟩)) :: d.prs.map stoodV := by rw [hl, List.map_cons, List.map_map]; rfl
  have hl2 : l.map Prod.snd = BD.bb ⟨c, ag, sq, d⟩ := by rw [hl, List.map_cons, List.map_map]; rfl
  have hll : l.length = d.prs.length + 1 := by rw [hl, List.length_cons, List.length_map]
  have hlo : ∀ p ∈ l, BAt p.1 p.2 ∧ p.2.length = 128 := fun p hpm => by
    rw [hl] at hpm
    rcases List.mem_cons.1 hpm with rfl | hpm
    · exact ⟨⟨.inr (.inr ⟨some 128, by show blkV _ = .fz (noteBk _).length _ _; rw [noteBk_length]; rfl, by rw [bys_length]; omega⟩), noteBk_lt _⟩, noteBk_length _⟩
    · obtain ⟨q, hq, rfl⟩ := List.mem_map.1 hpm
      have h1 := hp q hq
      exact ⟨fzB_at ⟨stoodN_length h1.2, stoodN_lt h1.1.2⟩, stoodN_length h1.2⟩
  have hLD : LD.ok ⟨c, j, a, .fz (d.prs.length + 1) none (blkV (noteBk (BD.note ⟨c, ag, sq, d⟩)) :: d.prs.map stoodV), l⟩ := ⟨hBD.c, hR, a4, by dsimp only; rw [hl1]; exact .inr (.inr ⟨none, by rw [hll], by rw [List.length_cons, List.length_map, hll, Nat.mul_one]⟩), fun p hp => ⟨(hlo p hp).1, .inr (hlo p hp).2⟩, by dsimp only; rw [hll]; omega⟩
  obtain ⟨s1, s2, s3⟩ := laidD_spec (a := a) l j 0 hR (fun p hp => ⟨(hlo p hp).1, .inr (hlo p hp).2⟩) (by rw [hll]; omega)
  refine ⟨laidD c.log a j l 0, s1, fun K s hk => ESc.fam ldF h49 _ hLD rfl hk, fun i b hb => ?_⟩
  rw [← hl2, List.getElem?_map] at hb
  cases hq : l[i]? with
  | none => rw [hq] at hb; cases hb
  | some q =>
    rw [hq] at hb
    have := s3 i q hq
    rw [Nat.zero_add] at this
    have hqo := hlo q (List.mem_of_getElem? hq)
    have hb : q.2 = b := Option.some.inj hb
    show pad (drdB _ (1 + (a + (i : Int)) % c.log)) = b
    rw [this, ← hb, pad_of hqo.2, pad_of hqo.2]
theorem ask_rdk {c : Cfg} {X : DK} {a : Int} (hM : c.may) (h : RDK c.log X) (ha : 0 ≤ a ∧ a < c.log) : askE ⟨c, X, a⟩ = 0 := by
  unfold askE
  dsimp only
  rw [if_pos hM, if_pos ⟨h.dsk, h.len⟩, if_pos ha, h.dead]; rfl
theorem back_call {e : Env} (h23 : Con e 23 drF.O) {x : BD} (hx : x.ok) (hG : CD.good ⟨x.c, x.d.d⟩) (hN : noteB x.note = true) {c : Cfg} (hcok : c.ok) (hc : c = { x.c with id := c.id }) {X : DK} {a : Int} (hR : RDK c.log X) (ha : 0 ≤ a ∧ a < c.log) (hB : ∀ (i : Nat) b, x.bb[i]? = some b → rbk ⟨c, X, a⟩ i = b) (K : AV → St → Prop) (s : St)
    (k1 : x.c.id = c.id → K (.tup [.agg [.int .u32 x.age, .int .u32 x.seq, .int .i64 x.d.st, rslV (yOf x.d).S, rblV (yOf x.d).S, rpaV (yOf x.d).p], .int .i64 ((x.d.prs.length + 1 : Nat) : Int), .int .i64 0]) s) (k2 : x.c.id ≠ c.id → K (drErr 130) s) : ESc e 23 [c.v, X.v, .int .i64 a] s K := by
  have hM : c.may := by
    have := hG.1
    rw [hc]; exact this
  have hlo := hR.lo
  have hA := ask_rdk hM hR ha
  have hF := back_of hx hG hN hc hA hB
  refine rd_call h23 (x := ⟨c, X, a⟩) ⟨hcok, hR.ok, by unfold i64B; dsimp only; omega⟩ K s (fun h => ?_) (fun f hf => ?_)
  · rw [show errF ⟨c, X, a⟩ = 130 by unfold errF; rw [if_pos hA]]
    refine k2 fun hid => ?_
    rw [if_pos hid, h] at hF; cases hF
  · by_cases hid : x.c.id = c.id
    · rw [if_pos hid, hf] at hF
      cases hF
      have : (1 + ((x.note.recs.length : Nat) : Int)) = ((x.d.prs.length + 1 : Nat) : Int) := by
        show 1 + (((x.d.prs.map recN).length : Nat) : Int) = _
        rw [List.length_map]; omega
      rw [this]; exact k1 hid
    · rw [if_neg hid, hf] at hF; cases hF
theorem same_call {e : Env} (h25 : Con e 25 sameF.O) {c : Cfg} {d : DB} (hd : d.any) (hdk : d.ok) (hDG : DGood c d) (K : AV → St → Prop) (s : St) (hk : K (.bool true) s) : ESc e 25 [.agg [.int .i64 d.st, rslV (yOf d).S, rblV (yOf d).S, rpaV (yOf d).p], d.d.v] s K := by
  have hyo : (yOf d).ok := hDG.yok (fun b hb => by
    obtain ⟨u, hu⟩ := hdk.bs.memR b hb
    exact hu.2) hdk.pb.2
  have hda := rdDB_ok hyo (st := d.st) hd.st
  have ha' : (rdDB d.st (yOf d)).any := by
    obtain ⟨⟨a, b, c, n, ⟨bl, _, bn⟩, _⟩, bs, pb⟩ := hda
    exact ⟨a, b, c, bl, bs, pb⟩
  have hn1 := hyo.n
  refine ESc.fam sameF h25 ⟨rdDB d.st (yOf d), d⟩ ⟨ha', hd, fun b hb => ?_, hDG.odd, ?_⟩ (u := .bool true) ?_ hk
  · obtain ⟨q, hq, rfl⟩ := List.mem_map.1 (show b ∈ (yOf d).S.map Prod.snd from hb)
    exact .inr (hyo.s q hq).2.1
  · show ((yOf d).S.map Prod.fst).length < _ ∧ ((yOf d).S.map _).length < _
    rw [List.length_map, List.length_map]; omega
  · show AV.bool (sameB _ _) = _
    rw [hDG.same hdk.bs.length]
theorem ask_err {c : Cfg} {j : DK} {a : Int} (hA : askE ⟨c, j, a⟩ ≠ 0) : errF ⟨c, j, a⟩ ≠ 0 ∧ errF ⟨c, j, a⟩ ≠ 130 := by
  rw [show errF ⟨c, j, a⟩ = askE ⟨c, j, a⟩ by unfold errF; rw [if_neg hA]]
  refine ⟨hA, ?_⟩
  unfold askE
  split
  · split
    · split
      · split <;> decide
      · decide
    · decide
  · decide
theorem oth_law (P : Program) (e : Env) (hE : EnvOk P e) (hm : P.follows .mixedOrders = true) (hI : DTIn e) (c : Cfg) (hc : c.ok) (id' : Int) (hid' : u32B id') (j : DK) (hj : j.any) (a : Int) (ha : i64B a) (d : DB) (hd : d.any) (bk : Int) (hbk : i64B bk) (dt : AV) (db : List Nat) (hdt : BAt dt db) :
    VW P e 0 code16 (initT [c.v, .int .u32 id', j.v, .int .i64 a, d.d.v, .int .i64 bk, dt] 0 .lf) St0 none [] (EEnd [.tmp 14] (fun u s => u = .bool true)) := by
  have hjf := DKhf hj.wl hj.bl (d := j.dead)
  have hg1 := grt_call hI.h32 hd
  have hdsl := hdt.1
  by_cases hq1 : grtB d = true
  · have hg1 : ∀ (K : AV → St → Prop) (s : St), K (.bool true) s → ESc e 32 [d.d.v] s K := fun K s hk => hg1 K s (fun _ => hk) (fun h => by rw [hq1] at h; cases h)
    obtain ⟨id, mb, ch, rw', lg, hdd⟩ := c
    obtain ⟨bv, us, bs, wv, ws, dd⟩ := j
    obtain ⟨st, sv, sl, dv, dus, dbs, pv, pb⟩ := d
    show VW P e 0 code16 (initT [.agg [.int .u32 id, .int .i64 mb, .int .i64 ch, .int .i64 rw', .int .i64 lg, .int .i64 hdd], .int .u32 id', .agg [bv, wv, .bool dd], .int .i64 a, .agg [.int .i64 st, sv, dv, pv], .int .i64 bk, dt] 0 .lf) St0 none [] _
    conv => whnf
    refine ESc.ov hI.h47 rfl ?_
    conv => whnf
    refine hg1 _ _ ?_
    conv => whnf
    skip
    rfl
  have hq1 : grtB d = false := by simpa using hq1
  have hg1 : ∀ (K : AV → St → Prop) (s : St), K (.bool false) s → ESc e 32 [d.d.v] s K := fun K s hk => hg1 K s (fun h => by rw [hq1] at h; cases h) (fun _ => hk)
  by_cases hq2 : grt4B j = true
  · have hg2 : ∀ (K : AV → St → Prop) (s : St), K (.bool true) s → ESc e 21 [j.v] s K := fun K s hk => ESc.fam grt4F hI.h21 j hj (by show AV.bool _ = _; rw [hq2]) hk
    obtain ⟨id, mb, ch, rw', lg, hdd⟩ := c
    obtain ⟨bv, us, bs, wv, ws, dd⟩ := j
    obtain ⟨st, sv, sl, dv, dus, dbs, pv, pb⟩ := d
    show VW P e 0 code16 (initT [.agg [.int .u32 id, .int .i64 mb, .int .i64 ch, .int .i64 rw', .int .i64 lg, .int .i64 hdd], .int .u32 id', .agg [bv, wv, .bool dd], .int .i64 a, .agg [.int .i64 st, sv, dv, pv], .int .i64 bk, dt] 0 .lf) St0 none [] _
    conv => whnf
    refine ESc.ov hI.h47 rfl ?_
    conv => whnf
    refine hg1 _ _ ?_
    conv => whnf
    refine hg2 _ _ ?_
    conv => whnf
    skip
    rfl
  have hq2 : grt4B j = false := by simpa using hq2
  have hg2 : ∀ (K : AV → St → Prop) (s : St), K (.bool false) s → ESc e 21 [j.v] s K := fun K s hk => ESc.fam grt4F hI.h21 j hj (by show AV.bool _ = _; rw [hq2]) hk
  have hjk := grt4_ok hj hq2
  have hdk := small_ok hd hq1
  by_cases hdl : db.length ≤ 1000
  · have hBD : BD.ok ⟨c, 5, 6, d⟩ := ⟨hc, by unfold u32B; dsimp only; omega, by unfold u32B; dsimp only; omega, hdk⟩
    have hblk := fun (K : AV → St → Prop) (s : St) (hk : K (blkOut ⟨c, 5, 6, d⟩) s) => ESc.fam blkF hI.h48 ⟨c, 5, 6, d⟩ hBD rfl hk
    have hCA : CDA.ok ⟨c, j, a⟩ := ⟨hc, hjk, ha⟩
    have hrd := rd_call hI.h23 hCA
    by_cases hG : CD.good ⟨c, d.d⟩ ∧ noteB (BD.note ⟨c, 5, 6, d⟩) = true
    · have hbo : blkOut ⟨c, 5, 6, d⟩ = .tup [.fz (d.prs.length + 1) none (blkV (noteBk (BD.note ⟨c, 5, 6, d⟩)) :: d.prs.map stoodV), .int .i64 0] := by
        unfold blkOut
        rw [if_pos hG.1, if_pos hG.2]
      rw [hbo] at hblk
      by_cases hA : askE ⟨c, j, a⟩ = 0
      · obtain ⟨hM, a2, a3, a4, a5⟩ := ask0 hA
        have hM : c.may := hM
        have a4 : 0 ≤ a ∧ a < c.log := a4
        have hDG := dgood_of hG.1
        have hpl := prs_len hDG
        have hM' := hM
        unfold Cfg.may at hM'
        have hl12 := Cfg.may_log hM
        obtain ⟨X, hRX, hld, hrb⟩ := ring_laid hI.h49 hBD hjk hG.1 hA
        have hbc := back_call hI.h23 hBD hG.1 hG.2 (c := { c with id := id' }) ⟨hid', hc.members, hc.chunk, hc.rows, hc.log, hc.heads⟩ rfl (X := X) (a := a) hRX a4 hrb
        have hoth : (id' = c.id ∧ ∀ (K : AV → St → Prop) (s : St), K (.tup [.agg [.int .u32 5, .int .u32 6, .int .i64 d.st, rslV (yOf d).S, rblV (yOf d).S, rpaV (yOf d).p], .int .i64 ((d.prs.length + 1 : Nat) : Int), .int .i64 0]) s → ESc e 23 [(Cfg.v { c with id := id' }), X.v, .int .i64 a] s K) ∨
            (id' ≠ c.id ∧ ∀ (K : AV → St → Prop) (s : St), K (drErr 130) s → ESc e 23 [(Cfg.v { c with id := id' }), X.v, .int .i64 a] s K) := by
          by_cases hid : id' = c.id
          · exact .inl ⟨hid, fun K s hk => hbc K s (fun _ => hk) (fun h => absurd hid.symm h)⟩
          · exact .inr ⟨hid, fun K s hk => hbc K s (fun h => absurd h.symm hid) (fun _ => hk)⟩
        have hw : (∃ n : Int, n ≠ 0 ∧ ∀ (K : AV → St → Prop) (s : St), K (.tup [.agg zDk, .int .i64 n]) s → ESc e 58 [X.v, .int .i64 bk, dt] s K) ∨
            (∃ (y1 y2 : AV) (y3 : Bool), (∀ (K : AV → St → Prop) (s : St), K (.tup [.agg [y1, y2, .bool y3], .int .i64 0]) s → ESc e 58 [X.v, .int .i64 bk, dt] s K) ∧
              ((∀ j : Nat, j < d.prs.length + 1 → bk ≠ 1 + (a + (j : Int)) % c.log) → ∀ (K : AV → St → Prop) (s : St), K (.tup [.agg [.int .u32 5, .int .u32 6, .int .i64 d.st, rslV (yOf d).S, rblV (yOf d).S, rpaV (yOf d).p], .int .i64 ((d.prs.length + 1 : Nat) : Int), .int .i64 0]) s → ESc e 23 [c.v, .agg [y1, y2, .bool y3], .int .i64 a] s K)) := by
          have hxo : DKW.ok ⟨X, bk, dt, db⟩ := ⟨hRX.ok, hbk, hdt, by dsimp only; omega⟩
          have hwf := fun (K : AV → St → Prop) (s : St) (hk : K (dwOut ⟨X, bk, dt, db⟩) s) => ESc.fam dwF hI.h58 ⟨X, bk, dt, db⟩ hxo rfl hk
          unfold dwOut at hwf
          by_cases h0 : dwE ⟨X, bk, dt, db⟩ = 0
          · rw [if_pos h0] at hwf
            refine .inr ⟨(dwD ⟨X, bk, dt, db⟩).bv, (dwD ⟨X, bk, dt, db⟩).wv, (dwD ⟨X, bk, dt, db⟩).dead, hwf, fun hne K s hk => ?_⟩
            have hRY := hRX.dw hxo rfl h0
            refine back_call hI.h23 hBD hG.1 hG.2 (c := c) hc rfl (X := dwD ⟨X, bk, dt, db⟩) (a := a) hRY a4 (fun i b hb => ?_) K s (fun _ => hk) (fun h => absurd rfl h)
            have h1 := hrb i b hb
            have hil : i < d.prs.length + 1 := by
              have := (List.getElem?_eq_some_iff.1 hb).1
              unfold BD.bb at this
              rw [List.length_cons, List.length_map] at this
              exact this
            rw [← h1]
            show pad (drdB (dwD ⟨X, bk, dt, db⟩) (1 + (a + (i : Int)) % c.log)) = pad (drdB X (1 + (a + (i : Int)) % c.log))
            rw [drdB_dw, if_neg (hne i hil)]
          · rw [if_neg h0] at hwf
            exact .inl ⟨_, h0, hwf⟩
        have hsame := same_call hI.h25 hd hdk hDG
        have hr0 : ∀ (K : AV → St → Prop) (s : St), K (drErr 130) s → (∀ f : Fd, K (.tup [.agg f.c, .int .i64 (1 + (f.n.recs.length : Int)), .int .i64 0]) s) → ESc e 23 [c.v, j.v, .int .i64 a] s K := fun K s k1 k2 => hrd K s (fun _ => by rw [show errF ⟨c, j, a⟩ = 130 by unfold errF; rw [if_pos hA]]; exact k1) (fun f _ => k2 f)
        have hk2 : 2 ≤ d.prs.length + 1 := by omega
        have hkl : ((d.prs.length + 1 : Nat) : Int) ≤ c.log := by omega
        have hddf : hfs d.d.c = true := by
          have h : AM.hf d.d.v = true := DB.anyhf hd
          exact h
        have hXf : hfs X.c = true := DKhf hRX.ok.a.wl hRX.ok.a.bl
        have hlo : 1 ≤ c.log ∧ c.log ≤ 255 := by omega
        obtain ⟨id, mb, ch, rw', lg, hdd⟩ := c
        obtain ⟨bv, us, bs, wv, ws, dd⟩ := j
        obtain ⟨x1, xu, xb, x2, xw, x3⟩ := X
        generalize d.prs.length + 1 = k at *
        generalize rslV (yOf d).S = r1 at *
        generalize rblV (yOf d).S = r2 at *
        generalize rpaV (yOf d).p = r3 at *
        obtain ⟨st, sv, sl, dv, dus, dbs, pv, pb⟩ := d
        exact oth_main P e hE hm hjf hddf hXf hk2 hkl hlo a4 hbk hdsl hdl hI.h47 hI.h35 hg1 hg2 hblk hr0 hld hoth hw hsame
      · have hrd : ∀ (K : AV → St → Prop) (s : St), (∀ n, n ≠ 0 → n ≠ 130 → K (drErr n) s) → ESc e 23 [c.v, j.v, .int .i64 a] s K := fun K s k1 => hrd K s (fun _ => k1 _ (ask_err hA).1 (ask_err hA).2) (fun f hf => by
          unfold rdF at hf
          rw [if_neg hA] at hf; cases hf)
        obtain ⟨id, mb, ch, rw', lg, hdd⟩ := c
        obtain ⟨bv, us, bs, wv, ws, dd⟩ := j
        generalize d.prs.length + 1 = k at *
        generalize (blkV (noteBk (BD.note ⟨⟨id, mb, ch, rw', lg, hdd⟩, 5, 6, d⟩)) :: d.prs.map stoodV) = BL at *
        obtain ⟨st, sv, sl, dv, dus, dbs, pv, pb⟩ := d
        show VW P e 0 code16 (initT [.agg [.int .u32 id, .int .i64 mb, .int .i64 ch, .int .i64 rw', .int .i64 lg, .int .i64 hdd], .int .u32 id', .agg [bv, wv, .bool dd], .int .i64 a, .agg [.int .i64 st, sv, dv, pv], .int .i64 bk, dt] 0 .lf) St0 none [] _
        conv => whnf
        refine ESc.ov hI.h47 rfl ?_
        conv => whnf
        refine hg1 _ _ ?_
        conv => whnf
        refine hg2 _ _ ?_
        conv => whnf
        repeat' (first | (refine EPrim.lenZ rfl hdsl ?_; conv => whnf) | ((refine w3 rfl rfl ?_ ?_) <;> intro _ <;> first | (exfalso; omega) | (conv => whnf)) | (refine w12 rfl ?_; conv => whnf) | fail)
        refine hblk _ _ ?_
        conv => whnf
        refine hrd _ _ (fun n hn hn' => ?_)
        conv => whnf
        repeat' (first | ((refine w6 rfl rfl ?_ ?_) <;> intro _ <;> first | (exfalso; omega) | (conv => whnf)) | fail)
        rfl
    · have hbo : ∃ er : Int, er ≠ 0 ∧ blkOut ⟨c, 5, 6, d⟩ = .tup [.nils, .int .i64 er] := by
        unfold blkOut
        by_cases h1 : CD.good ⟨c, d.d⟩
        · rw [if_pos h1, if_neg (fun h2 => hG ⟨h1, h2⟩)]; exact ⟨2, by decide, rfl⟩
        · rw [if_neg h1]; exact ⟨8, by decide, rfl⟩
      obtain ⟨er, her, hbo⟩ := hbo
      rw [hbo] at hblk
      have hrd : ∀ (K : AV → St → Prop) (s : St), (∀ n, K (drErr n) s) → (∀ f : Fd, K (.tup [.agg f.c, .int .i64 (1 + (f.n.recs.length : Int)), .int .i64 0]) s) → ESc e 23 [c.v, j.v, .int .i64 a] s K := fun K s k1 k2 => hrd K s (fun _ => k1 _) (fun f _ => k2 f)
      obtain ⟨id, mb, ch, rw', lg, hdd⟩ := c
      obtain ⟨bv, us, bs, wv, ws, dd⟩ := j
      obtain ⟨st, sv, sl, dv, dus, dbs, pv, pb⟩ := d
      show VW P e 0 code16 (initT [.agg [.int .u32 id, .int .i64 mb, .int .i64 ch, .int .i64 rw', .int .i64 lg, .int .i64 hdd], .int .u32 id', .agg [bv, wv, .bool dd], .int .i64 a, .agg [.int .i64 st, sv, dv, pv], .int .i64 bk, dt] 0 .lf) St0 none [] _
      conv => whnf
      refine ESc.ov hI.h47 rfl ?_
      conv => whnf
      refine hg1 _ _ ?_
      conv => whnf
      refine hg2 _ _ ?_
      conv => whnf
      repeat' (first | (refine EPrim.lenZ rfl hdsl ?_; conv => whnf) | ((refine w3 rfl rfl ?_ ?_) <;> intro _ <;> first | (exfalso; omega) | (conv => whnf)) | (refine w12 rfl ?_; conv => whnf) | fail)
      refine hblk _ _ ?_
      conv => whnf
      refine hrd _ _ (fun n => ?_) (fun f => ?_)
      · conv => whnf
        repeat' (first | ((refine w6 rfl rfl ?_ ?_) <;> intro _ <;> first | (exfalso; omega) | (conv => whnf)) | fail)
        rfl
      · conv => whnf
        repeat' (first | ((refine w6 rfl rfl ?_ ?_) <;> intro _ <;> first | (exfalso; omega) | (conv => whnf)) | fail)
        rfl
  · obtain ⟨id, mb, ch, rw', lg, hdd⟩ := c
    obtain ⟨bv, us, bs, wv, ws, dd⟩ := j
    obtain ⟨st, sv, sl, dv, dus, dbs, pv, pb⟩ := d
    show VW P e 0 code16 (initT [.agg [.int .u32 id, .int .i64 mb, .int .i64 ch, .int .i64 rw', .int .i64 lg, .int .i64 hdd], .int .u32 id', .agg [bv, wv, .bool dd], .int .i64 a, .agg [.int .i64 st, sv, dv, pv], .int .i64 bk, dt] 0 .lf) St0 none [] _
    conv => whnf
    refine ESc.ov hI.h47 rfl ?_
    conv => whnf
    refine hg1 _ _ ?_
    conv => whnf
    refine hg2 _ _ ?_
    conv => whnf
    repeat' (first | (refine EPrim.lenZ rfl hdsl ?_; conv => whnf) | ((refine w3 rfl rfl ?_ ?_) <;> intro _ <;> first | (exfalso; omega) | (conv => whnf)) | (refine w12 rfl ?_; conv => whnf) | fail)
    rfl
end Go.AM
