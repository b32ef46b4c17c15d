/-
 Functions of the program as the abstract machine reads them, and what is stated of them, checked by the kernel. No conditions.
-/
import Derived.Test.YtnnbibnobmegpaaSeatR
import Derived.Test.YtnnbibnobmegpaaSeatT
import Derived.Test.YtnnbibnobmegpaaSeatP
import Derived.Test.YtnnbibnobmegpaaSeatLH
set_option linter.unusedVariables false
set_option linter.unusedSimpArgs false

set_option maxRecDepth 100000
namespace Go.AM
attribute [local irreducible] W
open X
theorem pad_at {b : List Nat} (h : b.length = 0 ∨ b.length = 128) (hb : ∀ y ∈ b, y < 256) : BAt (fzB (pad b)) (pad b) ∧ (pad b).length = 128 := by
 have hl := pad_len128 h
 exact ⟨fzB_at ⟨hl, pad_lt hb⟩, hl⟩
theorem all2_cln {us : List AV} {bs : List (List Nat)} (h : All2 BAt us bs) : All2 BAt (us.map clnV) bs := by
 induction h with
 | nil => exact .nil
 | cons a b ih => exact .cons (clnV_at a) ih
theorem keepW_mem {a : Int} {L : List WR} {w : WR} (h : w ∈ keepW a (L.map clnW)) : ∃ v ∈ L, w = clnW v ∧ v.at_ ≠ a := by
 obtain ⟨h1, h2⟩ := List.mem_filter.1 h
 obtain ⟨v, hv, rfl⟩ := List.mem_map.1 h1
 refine ⟨v, hv, rfl, fun e => ?_⟩
 unfold wAt at h2
 simp at h2
 exact h2 e
theorem wvF_sl (n : Nat) (L : List WR) (h : L.length ≤ n) : Sl 2 L.length (wrs L) (wvF n L) := by
 cases n with
 | zero =>
   have : L = [] := List.length_eq_zero_iff.1 (by omega)
   subst this; exact .inl ⟨rfl, rfl, rfl⟩
 | succ n => exact .inr (.inr ⟨none, rfl, wrs_length L⟩)
theorem fuaD_ok {x : DKW} (hx : x.ok) (h : wrtE x.d x.a x.b = 0) : (fuaD x).ok := by
 obtain ⟨q1, q2, q3, q4⟩ := wrt0 h
 have hbl := oddB_no q3
 obtain ⟨p1, p2⟩ := pad_at hbl hx.b.2
 have hkl := keepW_le x.a (x.d.ws.map clnW)
 rw [List.length_map] at hkl
 have hm := hx.d.m
 refine ⟨⟨?_, all2_set p1 (all2_cln hx.d.a.bs) _, wvF_sl _ _ hkl, fun w hw => ?_⟩, ?_, ?_, fun b hb => ?_, fun w hw => ?_⟩
 · refine .inr (.inr ⟨none, ?_, by rw [Nat.mul_one]⟩)
   show AV.fz x.d.us.length none _ = .fz ((x.d.us.map clnV).set _ _).length none _
   rw [List.length_set, List.length_map]; rfl
 · obtain ⟨v, hv, rfl, _⟩ := keepW_mem hw
   exact clnW_any (hx.d.a.ws v hv)
 · show ((x.d.us.map clnV).set _ _).length < _
   rw [List.length_set, List.length_map]; exact hx.d.n
 · show (keepW x.a (x.d.ws.map clnW)).length < _; omega
 · rcases List.mem_or_eq_of_mem_set hb with h | rfl
   · exact hx.d.b b h
   · omega
 · obtain ⟨v, hv, rfl, _⟩ := keepW_mem hw
   exact hx.d.w v hv
theorem fuaD_len (x : DKW) : (fuaD x).us.length = x.d.us.length := by
 show ((x.d.us.map clnV).set _ _).length = _
 rw [List.length_set, List.length_map]
theorem dskB_iff {x : DK} : dskB x = true ↔ (1 ≤ x.us.length ∧ x.us.length ≤ 256 ∧ x.ws.length ≤ 1024) ∧ (∀ b ∈ x.bs, oddB b.length = false) ∧ (∀ w ∈ x.ws, wBad x.us.length w = false) ∧ (x.dead = true → x.ws.length = 0 ∧ ∀ b ∈ x.bs, posB b.length = false) := by
 unfold dskB
 simp only [Bool.and_eq_true, decide_eq_true_eq, Bool.not_eq_true', List.any_eq_false, List.mem_map, forall_exists_index, and_imp, forall_apply_eq_imp_iff₂, Bool.not_eq_true, Bool.and_eq_false_iff, Bool.or_eq_false_iff, decide_eq_false_iff_not]
 constructor
 · rintro ⟨⟨⟨h1, h2⟩, h3⟩, h4⟩
   refine ⟨h1, h2, h3, fun hd => ?_⟩
   rcases h4 with h4 | ⟨h4, h5⟩
   · rw [hd] at h4; cases h4
   · exact ⟨by omega, h5⟩
 · rintro ⟨h1, h2, h3, h4⟩
   refine ⟨⟨⟨h1, h2⟩, h3⟩, ?_⟩
   cases hd : x.dead
   · exact .inl rfl
   · obtain ⟨h5, h6⟩ := h4 hd
     exact .inr ⟨by omega, h6⟩
theorem fuaD_dsk {x : DKW} (hx : x.ok) (h : wrtE x.d x.a x.b = 0) : dskB (fuaD x) = true := by
 obtain ⟨q1, q2, q3, q4⟩ := wrt0 h
 obtain ⟨d1, d2, d3, d4⟩ := dskB_iff.1 q1
 have hbl := oddB_no q3
 obtain ⟨p1, p2⟩ := pad_at hbl hx.b.2
 have hkl := keepW_le x.a (x.d.ws.map clnW)
 rw [List.length_map] at hkl
 refine dskB_iff.2 ⟨?_, fun b hb => ?_, fun w hw => ?_, fun hd => ?_⟩
 · rw [fuaD_len]
   have : (fuaD x).ws.length ≤ x.d.ws.length := hkl
   omega
 · rcases List.mem_or_eq_of_mem_set hb with h | rfl
   · exact d2 b h
   · rw [p2]; rfl
 · rw [fuaD_len]
   obtain ⟨v, hv, rfl, _⟩ := keepW_mem hw
   exact d3 v hv
 · have hd : x.d.dead = true := hd
   rw [q4] at hd; cases hd
theorem lastW_keep {p a : Int} (hp : p ≠ a) (L : List WR) : lastW p (keepW a (L.map clnW)).reverse = lastW p L.reverse := by
 have h1 : (keepW a (L.map clnW)).reverse = keepW a (L.reverse.map clnW) := by unfold keepW; rw [← List.filter_reverse, ← List.map_reverse]
 rw [h1]
 generalize L.reverse = M
 induction M with
 | nil => rfl
 | cons w M ih =>
   rw [List.map_cons]
   by_cases ha : w.at_ = a
   · have e : keepW a (clnW w :: M.map clnW) = keepW a (M.map clnW) := by
       unfold keepW wAt; rw [List.filter_cons_of_neg]; show ¬ (!decide (w.at_ = a)) = true; simp [ha]
     rw [e, ih]
     show _ = if w.at_ = p then _ else _
     rw [if_neg (fun e : w.at_ = p => hp (by rw [← e, ha]))]
   · have e : keepW a (clnW w :: M.map clnW) = clnW w :: keepW a (M.map clnW) := by
       unfold keepW wAt; rw [List.filter_cons_of_pos]; show (!decide (w.at_ = a)) = true; simp [ha]
     rw [e]
     show (if w.at_ = p then some w.b else _) = if w.at_ = p then some w.b else _
     rw [ih]
theorem lastW_none {p a : Int} (hp : p = a) (L : List WR) : lastW p (keepW a (L.map clnW)).reverse = none := by
 have hno : ∀ M : List WR, (∀ w ∈ M, w.at_ ≠ p) → lastW p M = none := fun M => by
   induction M with
   | nil => intro _; rfl
   | cons w M ih =>
     intro h
     show (if w.at_ = p then _ else _) = _
     rw [if_neg (h w (by simp)), ih fun v hv => h v (by simp [hv])]
 refine hno _ fun w hw => ?_
 obtain ⟨v, _, rfl, hv⟩ := keepW_mem (List.mem_reverse.1 hw)
 rw [hp]; exact hv
theorem drdB_fua {x : DKW} (hx : x.ok) (h : wrtE x.d x.a x.b = 0) {p : Int} (hp : 0 ≤ p) : drdB (fuaD x) p = if p = x.a then pad x.b else drdB x.d p := by
 obtain ⟨q1, q2, q3, q4⟩ := wrt0 h
 have hl := hx.d.a.bs.length
 unfold drdB drdL
 by_cases hpa : p = x.a
 · rw [if_pos hpa]
   show (lastW p (keepW x.a (x.d.ws.map clnW)).reverse).getD ((x.d.bs.set x.a.toNat (pad x.b)).getD p.toNat []) = _
   rw [lastW_none hpa, hpa]
   show (x.d.bs.set x.a.toNat (pad x.b)).getD x.a.toNat [] = _
   rw [List.getD_eq_getElem?_getD, List.getElem?_set_self (by omega)]; rfl
 · rw [if_neg hpa]
   show (lastW p (keepW x.a (x.d.ws.map clnW)).reverse).getD ((x.d.bs.set x.a.toNat (pad x.b)).getD p.toNat []) = _
   rw [lastW_keep hpa]
   congr 1
   rw [List.getD_eq_getElem?_getD, List.getD_eq_getElem?_getD, List.getElem?_set_ne (by omega)]
def laidD (lg a : Int) : DK → List (AV × List Nat) → Nat → DK
 | d, [], _ => d
 | d, p :: l, i => laidD lg a (fuaD ⟨d, 1 + (a + (i : Int)) % lg, p.1, p.2⟩) l (i + 1)
structure RDK (lg : Int) (d : DK) : Prop where
 ok : d.ok
 dsk : dskB d = true
 len : (d.us.length : Int) = lg + 1
 dead : d.dead = false
 lo : 1 ≤ lg ∧ lg ≤ 255
theorem RDK.place {lg a : Int} {d : DK} (h : RDK lg d) (i : Nat) : 0 ≤ (a + (i : Int)) % lg ∧ (a + (i : Int)) % lg < lg := by
 have := h.lo
 exact ⟨Int.emod_nonneg _ (by omega), Int.emod_lt_of_pos _ (by omega)⟩
theorem RDK.wrt {lg a : Int} {d : DK} (h : RDK lg d) (i : Nat) {b : List Nat} (hb : b.length = 0 ∨ b.length = 128) : wrtE d (1 + (a + (i : Int)) % lg) b = 0 := by
 have hp := h.place (a := a) i
 have hl := h.len
 unfold wrtE plcE
 rw [if_pos h.dsk, if_pos (show 0 ≤ 1 + (a + (i : Int)) % lg ∧ 1 + (a + (i : Int)) % lg < d.us.length by omega)]
 have ho : oddB b.length = false := by rcases hb with h | h <;> rw [h] <;> rfl
 simp [ho, h.dead]
theorem RDK.wok {lg a : Int} {d : DK} (h : RDK lg d) (i : Nat) {u : AV} {b : List Nat} (hu : BAt u b) (hb : b.length = 0 ∨ b.length = 128) : DKW.ok ⟨d, 1 + (a + (i : Int)) % lg, u, b⟩ := by
 have hp := h.place (a := a) i
 have hl := h.lo
 exact ⟨h.ok, by unfold i64B; dsimp only; omega, hu, by dsimp only; omega⟩
theorem RDK.next {lg a : Int} {d : DK} (h : RDK lg d) (i : Nat) {u : AV} {b : List Nat} (hu : BAt u b) (hb : b.length = 0 ∨ b.length = 128) : RDK lg (fuaD ⟨d, 1 + (a + (i : Int)) % lg, u, b⟩) :=
 ⟨fuaD_ok (h.wok i hu hb) (h.wrt i hb), fuaD_dsk (h.wok i hu hb) (h.wrt i hb), by rw [fuaD_len]; exact h.len, h.dead, h.lo⟩
theorem place_ne {lg a : Int} {i j : Nat} (hij : i < j) (hj : (j : Int) < lg + (i : Int)) (hl : 1 ≤ lg) : (a + (i : Int)) % lg ≠ (a + (j : Int)) % lg := by
 intro e
 have h1 := Int.emod_emod_of_dvd (a + (j : Int)) (Int.dvd_refl lg)
 have h2 : (a + (j : Int) - (a + (i : Int))) % lg = 0 := Int.emod_eq_emod_iff_emod_sub_eq_zero.1 e.symm
 rw [show a + (j : Int) - (a + (i : Int)) = (j : Int) - (i : Int) by omega, Int.emod_eq_of_lt (by omega) (by omega)] at h2
 omega
theorem laidD_spec {lg a : Int} : ∀ (l : List (AV × List Nat)) (d : DK) (i : Nat), RDK lg d → (∀ p ∈ l, BAt p.1 p.2 ∧ (p.2.length = 0 ∨ p.2.length = 128)) → (l.length : Int) ≤ lg →
   RDK lg (laidD lg a d l i) ∧ (∀ p : Int, 0 ≤ p → (∀ j, j < l.length → p ≠ 1 + (a + ((i + j : Nat) : Int)) % lg) → drdB (laidD lg a d l i) p = drdB d p) ∧
   (∀ (j : Nat) q, l[j]? = some q → drdB (laidD lg a d l i) (1 + (a + ((i + j : Nat) : Int)) % lg) = pad q.2)
 | [], d, i, h, _, _ => ⟨h, fun _ _ _ => rfl, fun j q h => by simp at h⟩
 | p :: l, d, i, h, hl, hn => by
   obtain ⟨hu, hb⟩ := hl p (by simp)
   have hnx := h.next (a := a) i hu hb
   have hlo := h.lo
   rw [List.length_cons] at hn
   obtain ⟨s1, s2, s3⟩ := laidD_spec l _ (i + 1) hnx (fun q hq => hl q (by simp [hq])) (by omega)
   have hrd := fun {q : Int} (hq : 0 ≤ q) => drdB_fua (h.wok i hu hb) (h.wrt (a := a) i hb) hq
   refine ⟨s1, fun q hq0 hq => ?_, fun j q hj => ?_⟩
   · show drdB (laidD lg a _ l (i + 1)) q = _
     rw [s2 q hq0 (fun j hj => by
       have := hq (j + 1) (by rw [List.length_cons]; omega)
       rwa [show i + (j + 1) = i + 1 + j by omega] at this), hrd hq0, if_neg]
     have := hq 0 (by rw [List.length_cons]; omega)
     rwa [Nat.add_zero] at this
   · show drdB (laidD lg a _ l (i + 1)) _ = _
     cases j with
     | zero =>
       simp at hj; subst hj
       have hp := h.place (a := a) i
       rw [show ((i + 0 : Nat) : Int) = (i : Int) by omega]
       rw [s2 _ (by omega) (fun j hj e => ?_), hrd (by omega), if_pos rfl]
       exact place_ne (lg := lg) (a := a) (i := i) (j := i + 1 + j) (by omega) (by omega) (by omega) (by omega)
     | succ j =>
       have := s3 j q (by simpa using hj)
       rwa [show i + 1 + j = i + (j + 1) by omega] at this
end Go.AM

set_option maxRecDepth 100000
namespace Go.AM
attribute [local irreducible] W
open X
structure LD where
 c : Cfg
 d : DK
 a : Int
 v : AV
 l : List (AV × List Nat)
structure LD.ok (x : LD) : Prop where
 c : x.c.ok
 r : RDK x.c.log x.d
 a : 0 ≤ x.a ∧ x.a < x.c.log
 v : Sl 1 x.l.length (x.l.map Prod.fst) x.v
 l : ∀ p ∈ x.l, BAt p.1 p.2 ∧ (p.2.length = 0 ∨ p.2.length = 128)
 n : (x.l.length : Int) ≤ x.c.log
def LD.args (x : LD) : List AV := [x.c.v, x.d.v, .int .i64 x.a, x.v]
def LD.out (x : LD) : AV := .tup [(laidD x.c.log x.a x.d x.l 0).v, .bool true]
theorem l_inj : ∀ {l m : List (AV × List Nat)}, (∀ p ∈ l, BAt p.1 p.2) → (∀ p ∈ m, BAt p.1 p.2) → l.map Prod.fst = m.map Prod.fst → l = m
 | [], [], _, _, _ => rfl
 | [], _ :: _, _, _, h => by cases h
 | _ :: _, [], _, _, h => by cases h
 | (u, b) :: l, (u', b') :: m, hl, hm, h => by
   rw [List.map_cons, List.map_cons] at h
   obtain ⟨h1, h2⟩ := List.cons.inj h
   dsimp only at h1
   subst h1
   have h3 := (hl (u, b) (by simp)).inj (hm (u, b') (by simp))
   dsimp only at h3
   rw [h3, l_inj (fun p hp => hl p (by simp [hp])) (fun p hp => hm p (by simp [hp])) h2]
theorem LD.inja {x y : LD} (hx : x.ok) (hy : y.ok) (h : x.args = y.args) : x = y := by
 obtain ⟨c, d, a, v, l⟩ := x
 obtain ⟨c', d', a', v', l'⟩ := y
 have h0 := Cfg.injv (List.cons.inj h).1
 have h1 := DK.inj hx.r.ok.a hy.r.ok.a (List.cons.inj (List.cons.inj h).2).1
 have h2 := (List.cons.inj (List.cons.inj (List.cons.inj h).2).2).1
 have h3 := (List.cons.inj (List.cons.inj (List.cons.inj (List.cons.inj h).2).2).2).1
 injection h2 with _ h2
 dsimp only at h0 h1 h2 h3
 subst h0 h1 h2 h3
 have h4 := hx.v.l_inj hy.v
 have h5 := l_inj (fun p hp => (hx.l p hp).1) (fun p hp => (hy.l p hp).1) h4
 dsimp only at h5
 rw [h5]
theorem LD.hfa {x : LD} (hx : x.ok) : hfs x.args = true := by
 show (AM.hf x.c.v && (AM.hf x.d.v && (true && (AM.hf x.v && true)))) = true
 rw [DK.hf hx.r.ok.a, hx.v.hf]; rfl
theorem laidD_ok {x : LD} (hx : x.ok) : RDK x.c.log (laidD x.c.log x.a x.d x.l 0) := (laidD_spec x.l x.d 0 hx.r hx.l hx.n).1
theorem LD.hfo {x : LD} (hx : x.ok) : AM.hf x.out = true := by
 show (AM.hf (DK.v _) && (true && true)) = true
 rw [DK.hf (laidD_ok hx).ok.a]; rfl
def ldF : Fam LD := ⟨LD.ok, LD.args, LD.out, fun x y hx hy h => by rw [LD.inja hx hy h]⟩
def code49 : AC := match a49 with | .mk c _ => c
theorem laidD_step {lg a : Int} : ∀ (l : List (AV × List Nat)) (d : DK) (i j : Nat) (p : AV × List Nat), l[j]? = some p → laidD lg a d (l.take (j + 1)) i = fuaD ⟨laidD lg a d (l.take j) i, 1 + (a + ((i + j : Nat) : Int)) % lg, p.1, p.2⟩
 | [], d, i, j, p, h => by simp at h
 | q :: l, d, i, 0, p, h => by simp at h; subst h; rfl
 | q :: l, d, i, j + 1, p, h => by
   have := laidD_step (lg := lg) (a := a) l (fuaD ⟨d, 1 + (a + (i : Int)) % lg, q.1, q.2⟩) (i + 1) j p (by simpa using h)
   rw [show i + 1 + j = i + (j + 1) by omega] at this
   exact this
theorem ldF_ok {P : Program} {e : Env} {fn : Func} (hE : EnvOk P e) (hm : P.follows .mixedOrders = true) (h35 : Con e 35 onF.O) (h92 : Con e 92 fuaF.O) (hf : P.funcs[49]? = some fn) (hc : compF P fn = some a49) (hb : HasBody P 49) : OvOk P 49 ldF.O := by
 refine Fam.ok_of hb fun x hx => ?_
 refine ⟨LD.hfa hx, LD.hfo hx, C.of_V hE hm hf hc ?_⟩
 have hstep := fun i => laidD_spec (lg := x.c.log) (a := x.a) (x.l.take i) x.d 0 hx.r (fun p hp => hx.l p (List.mem_of_mem_take hp)) (by have := hx.n; rw [List.length_take]; omega)
 have hDok : ∀ i, RDK x.c.log (laidD x.c.log x.a x.d (x.l.take i) 0) := fun i => (hstep i).1
 have hfua : ∀ (i : Nat) p, x.l[i]? = some p → ∀ (K : AV → St → Prop) (s : St), K (.tup [(laidD x.c.log x.a x.d (x.l.take (i + 1)) 0).v, .int .i64 0]) s → ESc e 92 [(laidD x.c.log x.a x.d (x.l.take i) 0).v, .int .i64 (1 + (x.a + (i : Int)) % x.c.log), p.1] s K := fun i p hp K s hk => by
   have hpo := hx.l p (List.mem_of_getElem? hp)
   have hw := (hDok i).wok (a := x.a) i hpo.1 hpo.2
   have hz := (hDok i).wrt (a := x.a) i hpo.2
   refine ESc.fam fuaF h92 ⟨laidD x.c.log x.a x.d (x.l.take i) 0, 1 + (x.a + (i : Int)) % x.c.log, p.1, p.2⟩ hw ?_ hk
   show fuaOut _ = _
   unfold fuaOut
   rw [if_pos hz, laidD_step x.l x.d 0 i p hp, Nat.zero_add]
 have hpl := fun i : Nat => hx.r.place (a := x.a) i
 have hend : laidD x.c.log x.a x.d (x.l.take x.l.length) 0 = laidD x.c.log x.a x.d x.l 0 := by rw [List.take_length]
 have h00 : laidD x.c.log x.a x.d (x.l.take 0) 0 = x.d := by rw [List.take_zero]; rfl
 have hdfs : ∀ i, hfs (laidD x.c.log x.a x.d (x.l.take i) 0).c = true := fun i => DKhf (hDok i).ok.a.wl (hDok i).ok.a.bl
 have hvc : ∀ i, (laidD x.c.log x.a x.d (x.l.take i) 0).v = .agg (laidD x.c.log x.a x.d (x.l.take i) 0).c := fun i => rfl
 have hout : ldF.out x = .tup [.agg (laidD x.c.log x.a x.d (x.l.take x.l.length) 0).c, .bool true] := by rw [hend]; rfl
 rw [hout]
 generalize hDg : (fun i => (laidD x.c.log x.a x.d (x.l.take i) 0).c) = D at *
 have hDi : ∀ i, (laidD x.c.log x.a x.d (x.l.take i) 0).c = D i := fun i => by rw [← hDg]
 have hcl : ∀ i, ∃ a b c, D i = [a, b, c] := fun i => ⟨_, _, _, (hDi i).symm⟩
 simp only [hDi, hvc] at hfua hdfs ⊢
 have hd0 : x.d.v = .agg (D 0) := by rw [← hDi, h00]; rfl
 have hlo := hx.r.lo
 have hn := hx.n
 have ha := hx.a
 have hsl := hx.v
 have hlf := hsl.hf
 obtain ⟨⟨id, mb, ch, rw', lg, hdd⟩, d, a, v, l⟩ := x
 dsimp only at hd0 hlo hn ha hsl hlf hfua hpl
 show VW P e 0 code49 (initT [.agg [.int .u32 id, .int .i64 mb, .int .i64 ch, .int .i64 rw', .int .i64 lg, .int .i64 hdd], d.v, .int .i64 a, v] 0 .lf) St0 none [] _
 rw [hd0]
 obtain ⟨n, hnl⟩ : ∃ n, n = l.length := ⟨_, rfl⟩
 dsimp only
 rw [← hnl] at hn hsl ⊢
 clear hDg hDi hvc hend h00 hout hDok hstep hx hd0
 obtain ⟨a0, b0, c0, hD0⟩ := hcl 0
 have hD0f := hdfs 0
 rw [hD0] at hD0f ⊢
 conv => whnf
 refine W.loopT (α := Nat) (fun i => [(2, .int .i64 a), (3, v), (4, .ptr 0 0), (5, .ptr 1 0), (8, .ptr 2 0), (10, .int .i64 (i : Int))]) (fun i => [.row 24 [.int .u32 id, .int .i64 mb, .int .i64 ch, .int .i64 rw', .int .i64 lg, .int .i64 hdd], .row 28 (D i), .row 28 zDk]) (fun i => n - i) (fun i => i ≤ n) 0 (Nat.zero_le _)
   (Abs.tells (rs := [0, 1, 2]) ⟨by decide, ⟨⟨rfl, rfl⟩, ⟨hf_bd _ hlf, by rw [hf_mapV _ hlf]; rfl⟩, ⟨rfl, rfl⟩, ⟨rfl, rfl⟩, ⟨rfl, rfl⟩, ⟨rfl, rfl⟩, trivial⟩, ⟨⟨rfl, rfl⟩, ⟨by rw [hD0]; exact rowH hD0f, by rw [hD0, mapRowH hD0f]; rfl⟩, ⟨rfl, rfl⟩, trivial⟩⟩) ?_
 intro i hi
 dsimp only at hi ⊢
 refine vw_sound hE hm ?_
 by_cases hlt : i < n
 · obtain ⟨p, hp⟩ : ∃ p, l[i]? = some p := ⟨_, List.getElem?_eq_getElem (by omega)⟩
   have hF := hfua i p hp
   have hpi := hpl i
   obtain ⟨a1, b1, c1, hD1⟩ := hcl i
   obtain ⟨a2, b2, c2, hD2⟩ := hcl (i + 1)
   have hD1f := hdfs i
   have hD2f := hdfs (i + 1)
   rw [hD2] at hD2f
   rw [hD1] at hD1f ⊢
   rw [hD1, hD2] at hF
   have hget : ((l.map Prod.fst).drop (i * 1))[0]? = some p.1 := by rw [Nat.mul_one, List.getElem?_drop, Nat.add_zero, List.getElem?_map, hp]; rfl
   have honk : onF.ok ⟨lg, a, (i : Int)⟩ := ⟨by unfold i64B; dsimp only; omega, by unfold i64B; dsimp only; omega, by unfold i64B; dsimp only; omega⟩
   have hon : onF.out ⟨lg, a, (i : Int)⟩ = .tup [.int .i64 ((a + (i : Int)) % lg), .int .i64 0] := by
     have : onOk ⟨lg, a, (i : Int)⟩ = true := by unfold onOk hasB; dsimp only; rw [decide_eq_true (by omega), decide_eq_true (by omega), decide_eq_true (by omega)]; rfl
     show (if onOk _ then _ else _) = _; rw [if_pos this]
   conv => whnf
   refine EPrim.lenZ rfl hsl ?_; conv => whnf
   refine EPrim.lss2 (a := (i : Int)) (b := (n : Int)) rfl rfl (fun _ => ?_) (fun h => by omega); conv => whnf
   refine ESc.fam onF h35 ⟨lg, a, (i : Int)⟩ honk hon ?_; conv => whnf
   repeat' (first | (refine EPrim.ixsS rfl hsl rfl hlt ?_; conv => whnf) | (refine EHead.mk (v := p.1) hget ?_; conv => whnf) | (refine hF _ _ ?_; conv => whnf) | ((refine w6 rfl rfl ?_ ?_) <;> intro _ <;> first | (exfalso; omega) | (conv => whnf)) | ((first | refine w7 rfl rfl (by omega) ?_ | refine ⟨rfl, ?_⟩); conv => whnf) | fail)
   refine ⟨i + 1, hlt, by omega, ?_⟩
   rw [hD2]
   exact Abs.tells (rs := [0, 1, 2]) ⟨by decide, ⟨⟨rfl, rfl⟩, ⟨hf_bd _ hlf, by rw [hf_mapV _ hlf]; rfl⟩, ⟨rfl, rfl⟩, ⟨rfl, rfl⟩, ⟨rfl, rfl⟩, ⟨rfl, rfl⟩, trivial⟩, ⟨⟨rfl, rfl⟩, ⟨rowH hD2f, by rw [mapRowH hD2f]; rfl⟩, ⟨rfl, rfl⟩, trivial⟩⟩
 · have hie : i = n := by omega
   subst hie
   obtain ⟨a1, b1, c1, hD1⟩ := hcl i
   have hD1f := hdfs i
   rw [hD1] at hD1f ⊢
   conv => whnf
   refine EPrim.lenZ rfl hsl ?_; conv => whnf
   refine EPrim.lss2 (a := (i : Int)) (b := (i : Int)) rfl rfl (fun h => by omega) (fun _ => ?_); conv => whnf
   refine .plain _ ?_
   show (hfs [a1, b1, c1] && (true && true)) = true
   rw [hD1f]; rfl
end Go.AM

set_option maxRecDepth 100000
namespace Go.AM
attribute [local irreducible] W
open X
structure DGood (c : Cfg) (d : DB) : Prop where
 may : c.may
 odd : ∀ b ∈ d.bs, b.length = 0 ∨ b.length = 128
 st : 0 ≤ d.st ∧ d.st < c.chunk * c.rows
 sl : slotsOk (c.members - 2) d.sl = true
 n : d.bs.length = d.sl.length
 pb : d.pb.length = 0 ∨ d.pb.length = 128
theorem dgood_of {c : Cfg} {d : DB} (h : CD.good ⟨c, d.d⟩) : DGood c d := by
 obtain ⟨hM, hD⟩ := h
 unfold dealB at hD
 simp only [Bool.and_eq_true, decide_eq_true_eq, Bool.not_eq_true'] at hD
 obtain ⟨⟨⟨⟨hod, hst⟩, hsl⟩, hnl⟩, hpo⟩ := hD
 have hnl : (d.bs.map List.length).length = d.sl.length := hnl
 rw [List.length_map] at hnl
 exact ⟨hM, odd_all hod, hst, hsl, hnl, oddB_no hpo⟩
theorem prs_len {c : Cfg} {d : DB} (h : DGood c d) : 1 ≤ d.prs.length ∧ (d.prs.length : Int) ≤ c.members ∧ (d.prs.length : Int) + 1 ≤ c.log := by
 have hM := h.may
 unfold Cfg.may at hM
 have h1 := slotsOk_pos h.sl
 have h2 := slotsOk_len h.sl
 have h7 : (c.members + 1) * (c.heads + 1) ≥ (c.members + 1) * 3 := Int.mul_le_mul_of_nonneg_left (by omega) (by omega)
 have h3 : d.prs.length = d.sl.length + (if d.pb.length = 0 then 0 else 1) := by
   unfold DB.prs
   rw [List.length_append, List.length_zip, h.n, Nat.min_self]
   split <;> rfl
 split at h3 <;> omega
end Go.AM

set_option maxRecDepth 100000
namespace Go.AM
attribute [local irreducible] W
open X
end Go.AM

set_option maxRecDepth 100000
namespace Go.AM
attribute [local irreducible] W
open X
end Go.AM

set_option maxRecDepth 100000
namespace Go.AM
attribute [local irreducible] W
open X
theorem ask_rdk {c : Cfg} {X : DK} {a : Int} (hM : c.may) (h : RDK c.log X) (ha : 0 ≤ a ∧ a < c.log) : askE ⟨c, X, a⟩ = 0 := by
 unfold askE
 dsimp only
 rw [if_pos hM, if_pos ⟨h.dsk, h.len⟩, if_pos ha, h.dead]; rfl
theorem ask_err {c : Cfg} {j : DK} {a : Int} (hA : askE ⟨c, j, a⟩ ≠ 0) : errF ⟨c, j, a⟩ ≠ 0 ∧ errF ⟨c, j, a⟩ ≠ 130 := by
 rw [show errF ⟨c, j, a⟩ = askE ⟨c, j, a⟩ by unfold errF; rw [if_neg hA]]
 refine ⟨hA, ?_⟩
 unfold askE
 split
 · split
   · split
     · split <;> decide
     · decide
   · decide
 · decide
end Go.AM
