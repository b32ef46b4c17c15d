/-
 Functions of the program as the abstract machine reads them, and what is stated of them, checked by the kernel. No conditions.
-/
import Derived.Test.YtnnbibnobmegpaaSeatS
import Derived.Test.YtnnbibnobmegpaaSeatU
import Derived.Test.YtnnbibnobmegpaaSeatW
import Derived.Test.YtnnbibnobmegpaaAM5
import Derived.Test.YtnnbibnobmegpaaSeatLH
import Derived.Test.YtnnbibnobmegpaaSeatP
import Derived.WideKeyArr2
set_option linter.unusedVariables false
set_option linter.unusedSimpArgs false

namespace Go.AM
theorem crcT_top : ∀ i, i < 16 → nth0 crcT i >>> 28 = i := by decide
theorem xor_cancel_right {a b c : Nat} (h : a ^^^ c = b ^^^ c) : a = b := by
 have := congrArg (· ^^^ c) h
 simpa [Nat.xor_assoc] using this
theorem xor_cancel_left {a b c : Nat} (h : c ^^^ a = c ^^^ b) : a = b := by
 rw [Nat.xor_comm c a, Nat.xor_comm c b] at h
 exact xor_cancel_right h
theorem half_eq (s : Nat) : half s = (s >>> 4) ^^^ nth0 crcT (s % 16) := by
 show Nat.div s 16 ^^^ nth0 crcT (Nat.mod s 16) = _
 rw [Nat.shiftRight_eq_div_pow]; rfl
theorem half_inj {s t : Nat} (hs : s < 4294967296) (ht : t < 4294967296) (h : half s = half t) : s = t := by
 rw [half_eq, half_eq] at h
 have top : ∀ s, s < 4294967296 → ((s >>> 4) ^^^ nth0 crcT (s % 16)) >>> 28 = s % 16 := by
   intro s hs
   rw [Nat.shiftRight_xor_distrib, crcT_top _ (Nat.mod_lt _ (by decide)), ← Nat.shiftRight_add, Nat.shiftRight_eq_div_pow, Nat.div_eq_of_lt (by omega), Nat.zero_xor]
 have e1 : s % 16 = t % 16 := by rw [← top s hs, ← top t ht, h]
 rw [e1] at h
 have e2 := xor_cancel_right h
 rw [Nat.shiftRight_eq_div_pow, Nat.shiftRight_eq_div_pow] at e2
 omega
theorem xor_mul_mod (s z k : Nat) : (s ^^^ z * 2 ^ k) % 2 ^ k = s % 2 ^ k := by
 rw [← Nat.and_two_pow_sub_one_eq_mod, ← Nat.and_two_pow_sub_one_eq_mod, Nat.and_xor_distrib_right, Nat.and_two_pow_sub_one_eq_mod (z * 2 ^ k), Nat.mul_mod_left, Nat.xor_zero]
theorem xor_mul_div (s z k : Nat) : (s ^^^ z * 2 ^ k) / 2 ^ k = s / 2 ^ k ^^^ z := by
 rw [← Nat.shiftRight_eq_div_pow, Nat.shiftRight_xor_distrib, Nat.shiftRight_eq_div_pow, Nat.shiftRight_eq_div_pow, Nat.mul_div_cancel _ (Nat.two_pow_pos k)]
theorem half_shl (s z : Nat) : half (s ^^^ z * 16) = half s ^^^ z := by
 have e1 := xor_mul_mod s z 4
 have e2 := xor_mul_div s z 4
 rw [half_eq, half_eq, Nat.shiftRight_eq_div_pow, Nat.shiftRight_eq_div_pow]
 rw [show (2 : Nat) ^ 4 = 16 from rfl] at *
 rw [e1, e2, Nat.xor_assoc, Nat.xor_assoc, Nat.xor_comm z]
def hlv (s : Nat) : Nat := half (half s)
theorem hlv_shl (s z : Nat) : hlv (s ^^^ z * 256) = hlv s ^^^ z := by
 unfold hlv
 rw [show z * 256 = (z * 16) * 16 by omega, half_shl, half_shl]
theorem hlv_inj {s t : Nat} (hs : s < 4294967296) (ht : t < 4294967296) (h : hlv s = hlv t) : s = t := half_inj hs ht (half_inj (half_lt hs) (half_lt ht) h)
theorem hlv_lt {s : Nat} (hs : s < 4294967296) : hlv s < 4294967296 := half_lt (half_lt hs)
theorem crcGo_inj : ∀ {l : List Nat} {s t : Nat}, (∀ b ∈ l, b < 256) → s < 4294967296 → t < 4294967296 → crcGo l s = crcGo l t → s = t
 | [], s, t, _, _, _, h => h
 | b :: l, s, t, hb, hs, ht, h => by
   have hb0 : b < 4294967296 := by have := hb b (by simp); omega
   have h1 : s ^^^ b < 4294967296 := Nat.xor_lt_two_pow (n := 32) hs hb0
   have hlv' : t ^^^ b < 4294967296 := Nat.xor_lt_two_pow (n := 32) ht hb0
   exact xor_cancel_right (hlv_inj h1 hlv' (crcGo_inj (fun x hx => hb x (by simp [hx])) (hlv_lt h1) (hlv_lt hlv') h))
def wrd4 (a b c d : Nat) : Nat := a ^^^ (b ^^^ (c ^^^ d * 256) * 256) * 256
theorem wrd4_lt {a b c d : Nat} (ha : a < 256) (hb : b < 256) (hc : c < 256) (hd : d < 256) : wrd4 a b c d < 4294967296 := by
 have e1 : c ^^^ d * 256 < 2 ^ 16 := Nat.xor_lt_two_pow (by omega) (by omega)
 have e2 : b ^^^ (c ^^^ d * 256) * 256 < 2 ^ 24 := Nat.xor_lt_two_pow (by omega) (by omega)
 exact Nat.xor_lt_two_pow (n := 32) (by omega) (by omega)
theorem split256 {a z a' z' : Nat} (ha : a < 256) (ha' : a' < 256) (h : a ^^^ z * 256 = a' ^^^ z' * 256) : a = a' ∧ z = z' := by
 have m := xor_mul_mod a z 8
 have m' := xor_mul_mod a' z' 8
 have d := xor_mul_div a z 8
 have d' := xor_mul_div a' z' 8
 rw [show (2 : Nat) ^ 8 = 256 from rfl] at *
 rw [h, m', Nat.mod_eq_of_lt ha, Nat.mod_eq_of_lt ha'] at m
 rw [h, d', Nat.div_eq_of_lt ha, Nat.div_eq_of_lt ha', Nat.zero_xor, Nat.zero_xor] at d
 exact ⟨m.symm, d.symm⟩
theorem wrd4_inj {a b c d a' b' c' d' : Nat} (ha : a < 256) (hb : b < 256) (hc : c < 256) (hd : d < 256) (ha' : a' < 256) (hb' : b' < 256) (hc' : c' < 256) (hd' : d' < 256) (h : wrd4 a b c d = wrd4 a' b' c' d') : a = a' ∧ b = b' ∧ c = c' ∧ d = d' := by
 obtain ⟨e1, h⟩ := split256 ha ha' h
 obtain ⟨e2, h⟩ := split256 hb hb' h
 obtain ⟨e3, e4⟩ := split256 hc hc' h
 exact ⟨e1, e2, e3, e4⟩
theorem crc4 (s a b c d : Nat) (l : List Nat) : crcGo (a :: b :: c :: d :: l) s = crcGo l (hlv (hlv (hlv (hlv (s ^^^ wrd4 a b c d))))) := by
 show crcGo l (hlv (hlv (hlv (hlv (s ^^^ a) ^^^ b) ^^^ c) ^^^ d)) = _
 congr 1
 have e1 : hlv (s ^^^ wrd4 a b c d) = hlv (s ^^^ a) ^^^ (b ^^^ (c ^^^ d * 256) * 256) := by unfold wrd4; rw [← Nat.xor_assoc, hlv_shl]
 have e2 : hlv (hlv (s ^^^ wrd4 a b c d)) = hlv (hlv (s ^^^ a) ^^^ b) ^^^ (c ^^^ d * 256) := by rw [e1, ← Nat.xor_assoc, hlv_shl]
 have e3 : hlv (hlv (hlv (s ^^^ wrd4 a b c d))) = hlv (hlv (hlv (s ^^^ a) ^^^ b) ^^^ c) ^^^ d := by rw [e2, ← Nat.xor_assoc, hlv_shl]
 rw [e3]
theorem crc_burst {pre post : List Nat} {s a b c d a' b' c' d' : Nat} (hs : s < 4294967296) (hpre : ∀ x ∈ pre, x < 256) (hpost : ∀ x ∈ post, x < 256) (ha : a < 256) (hb : b < 256) (hc : c < 256) (hd : d < 256) (ha' : a' < 256) (hb' : b' < 256) (hc' : c' < 256) (hd' : d' < 256)
   (h : crcGo (pre ++ a :: b :: c :: d :: post) s = crcGo (pre ++ a' :: b' :: c' :: d' :: post) s) : a = a' ∧ b = b' ∧ c = c' ∧ d = d' := by
 have ap : ∀ l m : List Nat, crcGo (l ++ m) s = crcGo m (crcGo l s) := fun l m => by unfold crcGo; rw [List.foldl_append]
 rw [ap, ap, crc4, crc4] at h
 have ht := crcGo_lt hpre hs
 generalize crcGo pre s = t at h ht
 have x1 : t ^^^ wrd4 a b c d < 4294967296 := Nat.xor_lt_two_pow (n := 32) ht (wrd4_lt ha hb hc hd)
 have x2 : t ^^^ wrd4 a' b' c' d' < 4294967296 := Nat.xor_lt_two_pow (n := 32) ht (wrd4_lt ha' hb' hc' hd')
 have h := crcGo_inj hpost (hlv_lt (hlv_lt (hlv_lt (hlv_lt x1)))) (hlv_lt (hlv_lt (hlv_lt (hlv_lt x2)))) h
 have h := hlv_inj x1 x2 (hlv_inj (hlv_lt x1) (hlv_lt x2) (hlv_inj (hlv_lt (hlv_lt x1)) (hlv_lt (hlv_lt x2)) (hlv_inj (hlv_lt (hlv_lt (hlv_lt x1))) (hlv_lt (hlv_lt (hlv_lt x2))) h)))
 exact wrd4_inj ha hb hc hd ha' hb' hc' hd' (xor_cancel_left h)
end Go.AM

set_option maxRecDepth 100000
namespace Go.AM
open X
def turnN (b : List Nat) (k : Nat) (ys : List Nat) : Nat → List Nat
 | 0 => b
 | n + 1 => (turnN b k ys n).set (k + n) ((turnN b k ys n).getD (k + n) 0 ^^^ ys.getD n 0)
theorem turnN_length (b : List Nat) (k : Nat) (ys : List Nat) : ∀ n, (turnN b k ys n).length = b.length
 | 0 => rfl
 | n + 1 => by show ((turnN b k ys n).set _ _).length = _; rw [List.length_set, turnN_length b k ys n]
theorem parts4 {b : List Nat} {k : Nat} (h : k + 4 ≤ b.length) : ∃ pre a0 a1 a2 a3 post, b = pre ++ a0 :: a1 :: a2 :: a3 :: post ∧ pre.length = k := by
 refine ⟨b.take k, b[k], b[k + 1], b[k + 2], b[k + 3], b.drop (k + 4), ?_, by simp; omega⟩
 rw [← List.drop_eq_getElem_cons (by omega), ← List.drop_eq_getElem_cons (by omega), ← List.drop_eq_getElem_cons (by omega), ← List.drop_eq_getElem_cons (by omega), List.take_append_drop]
theorem turn4 (pre : List Nat) (a0 a1 a2 a3 : Nat) (post : List Nat) (y0 y1 y2 y3 : Nat) :
   turnN (pre ++ a0 :: a1 :: a2 :: a3 :: post) pre.length [y0, y1, y2, y3] 4 = pre ++ (a0 ^^^ y0) :: (a1 ^^^ y1) :: (a2 ^^^ y2) :: (a3 ^^^ y3) :: post := by
 simp [turnN, List.getD_eq_getElem?_getD]
theorem xor_zero_of {a y : Nat} (h : a = a ^^^ y) : y = 0 := by
 have : a ^^^ 0 = a ^^^ y := by rw [Nat.xor_zero]; exact h
 exact (xor_cancel_left this).symm
theorem xor_byte {a b : Nat} (ha : a < 256) (hb : b < 256) : a ^^^ b < 256 := Nat.xor_lt_two_pow (n := 8) ha hb
theorem sumN_inj {l m : List Nat} (h : sumN l = sumN m) : crcGo l 4294967295 = crcGo m 4294967295 := xor_cancel_right h
theorem turn_sum {b : List Nat} {k y0 y1 y2 y3 : Nat} (hb : ∀ x ∈ b, x < 256) (hk : k + 4 ≤ b.length) (hy : y0 < 256 ∧ y1 < 256 ∧ y2 < 256 ∧ y3 < 256) (hne : ¬ (y0 = 0 ∧ y1 = 0 ∧ y2 = 0 ∧ y3 = 0)) : sumN (turnN b k [y0, y1, y2, y3] 4) ≠ sumN b := by
 intro h
 obtain ⟨pre, a0, a1, a2, a3, post, rfl, rfl⟩ := parts4 hk
 rw [turn4] at h
 have hb' := fun x hx => hb x hx
 simp only [List.mem_append, List.mem_cons] at hb'
 have c0 := hb' a0 (by simp); have c1 := hb' a1 (by simp); have c2 := hb' a2 (by simp); have c3 := hb' a3 (by simp)
 obtain ⟨e0, e1, e2, e3⟩ := crc_burst (by decide) (fun x hx => hb' x (by simp [hx])) (fun x hx => hb' x (by simp [hx])) c0 c1 c2 c3 (xor_byte c0 hy.1) (xor_byte c1 hy.2.1) (xor_byte c2 hy.2.2.1) (xor_byte c3 hy.2.2.2) (sumN_inj h).symm
 exact hne ⟨xor_zero_of e0, xor_zero_of e1, xor_zero_of e2, xor_zero_of e3⟩
theorem turn_take {b : List Nat} {k y0 y1 y2 y3 : Nat} (hk : k ≤ 120) (hl : b.length = 128) : (turnN b k [y0, y1, y2, y3] 4).take 124 = turnN (b.take 124) k [y0, y1, y2, y3] 4 ∧ (turnN b k [y0, y1, y2, y3] 4).drop 124 = b.drop 124 := by
 obtain ⟨pre, a0, a1, a2, a3, post, rfl, rfl⟩ := parts4 (b := b) (k := k) (by omega)
 rw [turn4]
 have e : ∀ c0 c1 c2 c3 : Nat, (pre ++ c0 :: c1 :: c2 :: c3 :: post).take 124 = pre ++ c0 :: c1 :: c2 :: c3 :: post.take (120 - pre.length) ∧ (pre ++ c0 :: c1 :: c2 :: c3 :: post).drop 124 = post.drop (120 - pre.length) := by
   intro c0 c1 c2 c3
   have h1 : pre ++ c0 :: c1 :: c2 :: c3 :: post = (pre ++ [c0, c1, c2, c3]) ++ post := by simp
   have h2 : (pre ++ [c0, c1, c2, c3]).length = pre.length + 4 := by simp
   rw [h1, List.take_append, List.drop_append, h2, List.take_of_length_le (by omega), List.drop_eq_nil_of_le (by omega), show 124 - (pre.length + 4) = 120 - pre.length by omega]
   exact ⟨by simp, by simp⟩
 rw [(e a0 a1 a2 a3).1, turn4]
 exact ⟨(e _ _ _ _).1, by rw [(e _ _ _ _).2, (e _ _ _ _).2]⟩
theorem putN4 (bs : List Nat) (n : Nat) (hl : bs.length = 128) : (putN bs 124 n 4).take 124 = bs.take 124 ∧ (putN bs 124 n 4).drop 124 = [n % 256, n / 256 % 256, n / 65536 % 256, n / 16777216 % 256] := by
 have e : bs = bs.take 124 ++ [bs[124], bs[125], bs[126], bs[127]] := by
   have h : [bs[124], bs[125], bs[126], bs[127]] = bs.drop 124 := by
     rw [List.drop_eq_getElem_cons (by omega), List.drop_eq_getElem_cons (by omega), List.drop_eq_getElem_cons (by omega), List.drop_eq_getElem_cons (by omega), List.drop_eq_nil_of_le (by omega)]
   rw [h, List.take_append_drop]
 have hp : (bs.take 124).length = 124 := by simp; omega
 generalize bs.take 124 = p at e hp
 generalize bs[124] = x0 at e
 generalize bs[125] = x1 at e
 generalize bs[126] = x2 at e
 generalize bs[127] = x3 at e
 subst e
 have : putN (p ++ [x0, x1, x2, x3]) 124 n 4 = p ++ [n % 256, n / 256 % 256, n / 65536 % 256, n / 16777216 % 256] := by
   simp [putN, hp]
 rw [this, ← hp]
 exact ⟨by simp, by simp⟩
theorem noteBk_tail (n : Nt) : (noteBk n).drop 124 = [sumN ((noteBk n).take 124) % 256, sumN ((noteBk n).take 124) / 256 % 256, sumN ((noteBk n).take 124) / 65536 % 256, sumN ((noteBk n).take 124) / 16777216 % 256] := by
 obtain ⟨e1, e2⟩ := putN4 (noteI n n.recs.length) (sumN ((noteI n n.recs.length).take 124)) (noteI_length _ _)
 unfold noteBk
 rw [e1, e2]
theorem note_turned {n m : Nt} {k y0 y1 y2 y3 : Nat} (hk : k ≤ 120) (hy : y0 < 256 ∧ y1 < 256 ∧ y2 < 256 ∧ y3 < 256) (hne : ¬ (y0 = 0 ∧ y1 = 0 ∧ y2 = 0 ∧ y3 = 0)) : noteBk m ≠ turnN (noteBk n) k [y0, y1, y2, y3] 4 := by
 intro h
 obtain ⟨t1, t2⟩ := turn_take (b := noteBk n) (y0 := y0) (y1 := y1) (y2 := y2) (y3 := y3) hk (noteBk_length _)
 rw [← h] at t1 t2
 rw [noteBk_tail, noteBk_tail, t1] at t2
 have hb : ∀ x ∈ (noteBk n).take 124, x < 256 := fun x hx => noteBk_lt _ x (List.mem_of_mem_take hx)
 have hl : ((noteBk n).take 124).length = 124 := by rw [List.length_take, noteBk_length]; rfl
 have ne := turn_sum (k := k) hb (by omega) hy hne
 have l1 : sumN ((noteBk n).take 124) < 4294967296 := sumN_lt hb
 have l2 : sumN (turnN ((noteBk n).take 124) k [y0, y1, y2, y3] 4) < 4294967296 := by
   rw [← t1]
   exact sumN_lt fun x hx => noteBk_lt _ x (List.mem_of_mem_take hx)
 injection t2 with q0 t2
 injection t2 with q1 t2
 injection t2 with q2 t2
 injection t2 with q3 _
 omega
theorem rdGo_bad {B : Nat → List Nat} : ∀ (L : List (Int × List Nat)) (n i j : Nat) (st : RdS) (q : Int × List Nat), L.length ≤ n → L[j]? = some q → (∀ (t : Nat) p, t < j → L[t]? = some p → B (i + t) = stoodN p.2 ∧ p.2.length ≤ 128) → rdBad (recN q) (B (i + j)) = true → rdGo B (L.map recN) n i st = none
 | [], n, i, j, st, q, _, hq, _, _ => by simp at hq
 | p :: L, 0, i, j, st, q, h, _, _, _ => by simp at h
 | p :: L, n + 1, i, 0, st, q, h, hq, hB, hbad => by
   have hq : some p = some q := hq
   cases hq
   show (if rdBad (recN p) (B i) = true then none else _) = _
   rw [Nat.add_zero] at hbad
   rw [if_pos hbad]
 | p :: L, n + 1, i, j + 1, st, q, h, hq, hB, hbad => by
   show (if rdBad (recN p) (B i) = true then none else rdGo B (L.map recN) n (i + 1) (rdPut (recN p) (B i) st)) = _
   split
   · rfl
   · exact rdGo_bad L n (i + 1) j _ q (by simpa using h) (by simpa using hq) (fun t r ht hr => by
       have := hB (t + 1) r (by omega) (by simpa using hr)
       rwa [show i + (t + 1) = i + 1 + t by omega] at this) (by rwa [show i + (j + 1) = i + 1 + j by omega] at hbad)
theorem short_of {x : BD} (hx : x.ok) (hG : CD.good ⟨x.c, x.d.d⟩) (hN : noteB x.note = true) {X : DK} {a : Int} (hA : askE ⟨x.c, X, a⟩ = 0) {i0 k y0 y1 y2 y3 : Nat} (hk : k ≤ 120) (hy : y0 < 256 ∧ y1 < 256 ∧ y2 < 256 ∧ y3 < 256) (hne : ¬ (y0 = 0 ∧ y1 = 0 ∧ y2 = 0 ∧ y3 = 0))
   {b0 : List Nat} (hi : x.bb[i0]? = some b0) (hB : ∀ (i : Nat) b, (x.bb.set i0 (turnN b0 k [y0, y1, y2, y3] 4))[i]? = some b → rbk ⟨x.c, X, a⟩ i = b) : drOut ⟨x.c, X, a⟩ = drErr 130 := by
 have hD := dgood_of hG
 have hp := deal_prs hG.1 hx.d hG.2
 have hr : ∀ r ∈ x.note.recs, r.ok := fun r hr => by
   obtain ⟨p, hp', rfl⟩ := List.mem_map.1 (show r ∈ x.d.prs.map recN from hr)
   exact recN_ok (hp p hp').1
 have hlt : i0 < x.bb.length := (List.getElem?_eq_some_iff.1 hi).1
 have hat : rbk ⟨x.c, X, a⟩ i0 = turnN b0 k [y0, y1, y2, y3] 4 := hB i0 _ (by rw [List.getElem?_set_self hlt])
 have hoth : ∀ (i : Nat) b, i ≠ i0 → x.bb[i]? = some b → rbk ⟨x.c, X, a⟩ i = b := fun i b hne' hb => hB i b (by rw [List.getElem?_set_ne (fun h => hne' h.symm)]; exact hb)
 unfold drOut
 rw [if_pos hA]
 rcases i0 with _ | j
 · have hi : some (noteBk x.note) = some b0 := hi
   cases hi
   rw [if_neg]
   rintro ⟨h, -⟩
   rw [hat] at h
   unfold rdGood at h
   rw [pad_of (by rw [turnN_length]; exact noteBk_length _), Bool.and_eq_true, decide_eq_true_eq] at h
   exact note_turned hk hy hne h.2
 · have h0 : rbk ⟨x.c, X, a⟩ 0 = noteBk x.note := hoth 0 _ (by omega) rfl
   have hi : (x.d.prs.map fun p => stoodN p.2)[j]? = some b0 := hi
   rw [List.getElem?_map] at hi
   cases hq : x.d.prs[j]? with
   | none => rw [hq] at hi; cases hi
   | some q =>
   rw [hq] at hi
   have hi : some (stoodN q.2) = some b0 := hi
   cases hi
   have hq' := hp q (List.mem_of_getElem? hq)
   have hnote : rdNote (noteBk x.note) = x.note := (rd_note hN hx.c.id hr).trans rfl
   have hl := prs_len hD
   have hgo : rdGo (rbk ⟨x.c, X, a⟩) x.note.recs (x.c.log.toNat - 1) 1 ⟨[], none⟩ = none := by
     refine rdGo_bad x.d.prs _ 1 j _ q (by omega) hq (fun t p ht hpt => ⟨?_, (hp p (List.mem_of_getElem? hpt)).2⟩) ?_
     · refine hoth (1 + t) _ (by omega) ?_
       show (noteBk x.note :: x.d.prs.map fun p => stoodN p.2)[1 + t]? = _
       rw [Nat.add_comm, List.getElem?_cons_succ, List.getElem?_map, hpt]; rfl
     · rw [Nat.add_comm, hat]
       unfold rdBad recN
       dsimp only
       have := turn_sum (b := stoodN q.2) (k := k) (stoodN_lt hq'.1.2) (by rw [stoodN_length hq'.2]; omega) hy hne
       rw [decide_eq_true (by omega)]; rfl
   split
   · rw [h0, hnote, hgo]
   · rfl
end Go.AM

set_option maxRecDepth 100000
namespace Go.AM
attribute [local irreducible] W
open X
def code11 : AC := match a11 with | .mk c _ => c
section
variable {t : AT} {s : St} {k : AV → St → Prop} {x y : AO}
theorem EPrim.xor8 {a b : Nat} (hx : ev x t = .some (.int .u8 (Int.ofNat a))) (hy : ev y t = .some (.int .u8 (Int.ofNat b))) (ha : a < 256) (hb : b < 256) (hk : k (.int .u8 (Int.ofNat (a ^^^ b))) s) : EPrim (.bin .xor x y) t s k := by
 refine bin_of hx hy (v := .int .u8 (Int.ofNat (a ^^^ b))) ?_ hk
 show OV.some (.int .u8 (Int.ofNat (Nat.xor (a % 256) (b % 256)))) = _
 rw [Nat.mod_eq_of_lt ha, Nat.mod_eq_of_lt hb]; rfl
end
theorem load1_at {s : St} {r e i : Nat} {cs : List AV} {v : AV} (h : s.get r = some (.row e cs)) (hv : cs[i]? = some v) : load1 r i s = some v := by
 unfold load1; rw [rowAt_of h]
 show getL cs i = _
 rw [getL_eq]; exact hv
theorem getD_lt {l : List Nat} (h : ∀ b ∈ l, b < 256) (i : Nat) : l.getD i 0 < 256 := by
 rw [List.getD_eq_getElem?_getD]
 cases hq : l[i]? with
 | none => decide
 | some b => exact h b (List.mem_of_getElem? hq)
theorem turnN_lt {b : List Nat} {k : Nat} {ys : List Nat} (hb : ∀ x ∈ b, x < 256) (hy : ∀ x ∈ ys, x < 256) : ∀ n, ∀ x ∈ turnN b k ys n, x < 256
 | 0, x, hx => hb x hx
 | n + 1, x, hx => by
   rcases List.mem_or_eq_of_mem_set (show x ∈ (turnN b k ys n).set _ _ from hx) with hx | rfl
   · exact turnN_lt hb hy n x hx
   · exact xor_byte (getD_lt (turnN_lt hb hy n) _) (getD_lt hy _)
theorem bys_getD {l : List Nat} {i : Nat} (h : i < l.length) : (bys l)[i]? = some (.int .u8 (Int.ofNat (l.getD i 0))) := by
 unfold bys
 rw [List.getElem?_map, List.getD_eq_getElem?_getD, List.getElem?_eq_getElem h]; rfl
def yv (y0 y1 y2 y3 : Nat) : List AV := bys [y0, y1, y2, y3]
theorem eq1_u8 (y : Nat) : eq1 0 (.int .u8 (Int.ofNat y)) (.int .u8 0) = some (decide (y = 0)) := by
 show some (eqI (Int.ofNat y) 0) = _
 rw [eqI_eq]
 congr 1
 rw [Bool.eq_iff_iff]
 simp
theorem eqf_yv {y0 y1 y2 y3 : Nat} (hne : ¬ (y0 = 0 ∧ y1 = 0 ∧ y2 = 0 ∧ y3 = 0)) : (eqfA [0, 0, 0, 0] (yv y0 y1 y2 y3) [.int .u8 0, .int .u8 0, .int .u8 0, .int .u8 0]) = some false := by
 show eqfA [0, 0, 0, 0] [.int .u8 (Int.ofNat y0), .int .u8 (Int.ofNat y1), .int .u8 (Int.ofNat y2), .int .u8 (Int.ofNat y3)] _ = _
 simp only [eqfA, eq1_u8]
 by_cases h0 : y0 = 0 <;> by_cases h1 : y1 = 0 <;> by_cases h2 : y2 = 0 <;> by_cases h3 : y3 = 0 <;> simp_all
theorem sho_main (P : Program) (e : Env) (hE : EnvOk P e) (hm : P.follows .mixedOrders = true) {id mb ch rw' lg hdd a st wi wh : Int} {bv wv sv dv pv x1 x2 : AV} {dd x3 : Bool} (hdf : hfs [bv, wv, .bool dd] = true) (hddf : hfs [.int .i64 st, sv, dv, pv] = true)
   {k i0 ty : Nat} {BL : List AV} {b0 : List Nat} (hk2 : 2 ≤ k) (hk255 : k ≤ 300) (hBL : hfs BL = true) (hBl : BL.length = k) (hwi : 0 ≤ wi ∧ wi < 256) (hwh : 0 ≤ wh ∧ wh < 256) (hi0 : wi % (k : Int) = (i0 : Int)) {kk : Nat} (hkk : wh % 121 = (kk : Int)) {y0 y1 y2 y3 : Nat} (hy : y0 < 256 ∧ y1 < 256 ∧ y2 < 256 ∧ y3 < 256) (hb0 : b0.length = 128) (hb1 : ∀ b ∈ b0, b < 256)
   (hne : ¬ (y0 = 0 ∧ y1 = 0 ∧ y2 = 0 ∧ y3 = 0))
   (h47 : Con e 47 trueO)
   (hg1 : ∀ (K : AV → St → Prop) (s : St), K (.bool false) s → ESc e 32 [.agg [.int .i64 st, sv, dv, pv]] s K)
   (hg2 : ∀ (K : AV → St → Prop) (s : St), K (.bool false) s → ESc e 21 [.agg [bv, wv, .bool dd]] s K)
   (hbl : ∀ (K : AV → St → Prop) (s : St), s.next = 4 → K (.tup [.sl 5 0 k none, .int .i64 0]) (allocs s [.row ty (bys b0), .row 32 (BL.set i0 (.sl 4 0 128 (some 128)))]) → ESc e 48 [.agg [.int .u32 id, .int .i64 mb, .int .i64 ch, .int .i64 rw', .int .i64 lg, .int .i64 hdd], .int .u32 3, .int .u32 4, .agg [.int .i64 st, sv, dv, pv]] s K)
   (hr0 : ∀ (K : AV → St → Prop) (s : St), K (drErr 130) s → (∀ f : Fd, K (.tup [.agg f.c, .int .i64 (1 + (f.n.recs.length : Int)), .int .i64 0]) s) → ESc e 23 [.agg [.int .u32 id, .int .i64 mb, .int .i64 ch, .int .i64 rw', .int .i64 lg, .int .i64 hdd], .agg [bv, wv, .bool dd], .int .i64 a] s K)
   (hld : ∀ (K : AV → St → Prop) (s : St), K (.tup [.agg [x1, x2, .bool x3], .bool true]) s → ESc e 49 [.agg [.int .u32 id, .int .i64 mb, .int .i64 ch, .int .i64 rw', .int .i64 lg, .int .i64 hdd], .agg [bv, wv, .bool dd], .int .i64 a, .fz k none (BL.set i0 (fzB (turnN b0 kk [y0, y1, y2, y3] 4)))] s K)
   (hr1 : ∀ (K : AV → St → Prop) (s : St), K (drErr 130) s → ESc e 23 [.agg [.int .u32 id, .int .i64 mb, .int .i64 ch, .int .i64 rw', .int .i64 lg, .int .i64 hdd], .agg [x1, x2, .bool x3], .int .i64 a] s K) :
   W P 0 none code11 (initT [.agg [.int .u32 id, .int .i64 mb, .int .i64 ch, .int .i64 rw', .int .i64 lg, .int .i64 hdd], .agg [bv, wv, .bool dd], .int .i64 a, .agg [.int .i64 st, sv, dv, pv], .int .u8 wi, .int .u8 wh, .agg (yv y0 y1 y2 y3)] 0 .lf) St0 [] (Ends [.tmp 14] (fun u s => u = .bool true)) := by
 have hq0 : (eqfA [0, 0, 0, 0] (yv y0 y1 y2 y3) [.int .u8 0, .int .u8 0, .int .u8 0, .int .u8 0]) = some false := eqf_yv hne
 refine W.seqV hE hm ?_; conv => whnf
 refine W.seqV hE hm ?_; conv => whnf
 refine ESc.ov h47 rfl ?_; conv => whnf
 refine W.seqV hE hm ?_; conv => whnf
 refine hg1 _ _ ?_; conv => whnf
 refine hg2 _ _ ?_; conv => whnf
 repeat' (first | (refine EPrim.eqf2 rfl rfl hq0 ?_; conv => whnf) | (refine w12 rfl ?_; conv => whnf) | fail)
 refine W.seqV hE hm ?_; conv => whnf
 refine hbl _ _ rfl ?_
 obtain ⟨y, hyv⟩ : ∃ y, y = yv y0 y1 y2 y3 := ⟨_, rfl⟩
 rw [← hyv]
 have hyf : hfs y = true := by rw [hyv]; exact scs_hfs_bys _
 have hys : ∀ x ∈ [y0, y1, y2, y3], x < 256 := by intro x hx; simp at hx; omega
 have hLb : ∀ m, 3 < m → bds m (BL.set i0 (.sl 3 0 128 (some 128))) = true := by
   intro m hm3
   rw [bds_all, List.all_eq_true]
   intro v hv
   rcases List.mem_or_eq_of_mem_set hv with hv | rfl
   · exact hf_bd _ (hfs_iff.1 hBL v hv)
   · show Nat.blt 3 m = true
     rw [Nat.blt_eq]; exact hm3
 have hLm : ∀ ρ : Nat → Nat, mapO ρ (.row 32 (BL.set i0 (.sl 3 0 128 (some 128)))) = .row 32 (BL.set i0 (.sl (ρ 3) 0 128 (some 128))) := by
   intro ρ
   show AObj.row 32 (mapVs ρ _) = _
   rw [mapVs_map, List.map_set, map_idB (fun v hv => hf_mapV v (hfs_iff.1 hBL v hv))]; rfl
 conv => whnf
 refine W.seqV hE hm ?_; conv => whnf
 have hkl : kk < 121 := by have := Int.emod_lt_of_pos wh (show (0 : Int) < 121 by decide); omega
 have hil : i0 < k := by have := Int.emod_lt_of_pos wi (show (0 : Int) < (k : Int) by omega); omega
 refine hr0 _ _ ?_ (fun f => ?_)
 · conv => whnf
   refine W.seqV hE hm ?_; conv => whnf
   repeat' (first | ((first | refine w5 rfl rfl ?_ ?_ | refine w6 rfl rfl ?_ ?_) <;> intro _ <;> first | (exfalso; omega) | (conv => whnf)) | (refine w18 rfl ?_; conv => whnf) | fail)
   refine W.seqV hE hm ?_; conv => whnf
   repeat' (first | ((first | refine w14 (q' := .i64) rfl (i64_in (by omega)) ?_ | refine w18 rfl ?_); conv => whnf) | fail)
   refine EPrim.remN rfl rfl (by omega) ?_
   rw [hi0]
   conv => whnf
   repeat' (first | (refine w14 (q' := .i64) rfl (i64_in (by omega)) ?_; conv => whnf) | fail)
   refine EPrim.remN rfl rfl (by omega) ?_
   rw [hkk]
   conv => whnf
   refine W.seqV hE hm ?_; conv => whnf
   refine EPrim.ixsPZ rfl rfl (by omega) (by omega) ?_; conv => whnf
   refine stuckO (.sl 4 0 128 (some 128)) (load1_at (e := 32) (cs := BL.set i0 (.sl 4 0 128 (some 128))) rfl (by rw [Nat.zero_add, Nat.mul_one]; exact List.getElem?_set_self (by omega))) ?_; conv => whnf
   repeat' (first | ((refine w6 rfl rfl ?_ ?_) <;> intro _ <;> first | (exfalso; omega) | (conv => whnf)) | (refine w18 rfl ?_; conv => whnf) | fail)
   refine W.seqV hE hm ?_; conv => whnf
   refine W.loopT (α := Nat) (fun n => [(2, .int .i64 a), (7, .ptr 0 0), (8, .ptr 1 0), (13, .ptr 2 0), (15, .bool true), (16, .sl 4 0 k none), (21, .int .i64 (i0 : Int)), (22, .int .i64 (kk : Int)), (23, .int .i64 (n : Int))])
     (fun n => [.row 24 [.int .u32 id, .int .i64 mb, .int .i64 ch, .int .i64 rw', .int .i64 lg, .int .i64 hdd], .row 28 [bv, wv, .bool dd], .row 90 y, .row ty (bys (turnN b0 kk [y0, y1, y2, y3] n)), .row 32 (BL.set i0 (.sl 3 0 128 (some 128)))]) (fun n => 4 - n) (fun n => n ≤ 4) 0 (Nat.zero_le _)
     (Abs.tells (rs := [0, 1, 3, 4, 5]) ⟨by decide, ⟨⟨rfl, rfl⟩, ⟨rfl, rfl⟩, ⟨rfl, rfl⟩, ⟨rfl, rfl⟩, ⟨rfl, rfl⟩, ⟨rfl, rfl⟩, ⟨rfl, rfl⟩, ⟨rfl, rfl⟩, ⟨rfl, rfl⟩, trivial⟩, ⟨⟨rfl, rfl⟩, ⟨rowH hdf, by rw [mapRowH hdf]; rfl⟩, ⟨rowH hyf, by rw [mapRowH hyf]; rfl⟩, ⟨rowH (scs_hfs_bys _), by rw [mapRowH (scs_hfs_bys _)]; rfl⟩, ⟨hLb 5 (by decide), by rw [hLm]; rfl⟩, trivial⟩⟩) ?_
   intro n hn
   refine vw_sound hE hm ?_
   have hBn := turnN_length b0 kk [y0, y1, y2, y3] n
   have hBb : (turnN b0 kk [y0, y1, y2, y3] n).getD (kk + n) 0 < 256 := getD_lt (turnN_lt hb1 hys n) _
   have hyn : [y0, y1, y2, y3].getD n 0 < 256 := getD_lt hys _
   have hst : turnN b0 kk [y0, y1, y2, y3] (n + 1) = (turnN b0 kk [y0, y1, y2, y3] n).set (kk + n) ((turnN b0 kk [y0, y1, y2, y3] n).getD (kk + n) 0 ^^^ [y0, y1, y2, y3].getD n 0) := rfl
   revert hBn hBb hst
   generalize hBe : turnN b0 kk [y0, y1, y2, y3] n = B
   intro hBn hBb hst
   conv => whnf
   refine EPrim.lss2 (a := (n : Int)) (b := 4) rfl rfl (fun hlt => ?_) (fun hlt => ?_)
   · conv => whnf
     refine EPrim.ixsPZ rfl rfl (by omega) (by omega) ?_; conv => whnf
     refine stuckO (.sl 3 0 128 (some 128)) (load1_at (e := 32) (cs := BL.set i0 (.sl 3 0 128 (some 128))) rfl (by rw [Nat.zero_add, Nat.mul_one]; exact List.getElem?_set_self (by omega))) ?_; conv => whnf
     refine EPrim.addS rfl rfl (by omega) ?_; conv => whnf
     refine EPrim.ixsPZ rfl rfl (by omega) (by omega) ?_; conv => whnf
     refine stuckO (.sl 3 0 128 (some 128)) (load1_at (e := 32) (cs := BL.set i0 (.sl 3 0 128 (some 128))) rfl (by rw [Nat.zero_add, Nat.mul_one]; exact List.getElem?_set_self (by omega))) ?_; conv => whnf
     refine EPrim.addS rfl rfl (by omega) ?_; conv => whnf
     refine EPrim.ixsPZ rfl rfl (by omega) (by omega) ?_; conv => whnf
     refine stuckO (.int .u8 (Int.ofNat (B.getD (kk + n) 0))) (load1_at (e := ty) (cs := bys B) rfl (by rw [Nat.zero_add, Nat.mul_one, show ((kk : Int) + (n : Int)).toNat = kk + n by omega]; exact bys_getD (by omega))) ?_; conv => whnf
     refine EPrim.ixaZ rfl rfl (by omega) (by omega) ?_; conv => whnf
     refine stuckO (.int .u8 (Int.ofNat ([y0, y1, y2, y3].getD n 0))) (load1_at (e := 90) (cs := y) rfl (by rw [Nat.zero_add, Nat.mul_one, hyv]; exact bys_getD (l := [y0, y1, y2, y3]) (by show n < 4; omega))) ?_; conv => whnf
     refine EPrim.xor8 rfl rfl hBb hyn ?_; conv => whnf
     refine EPrim.ixsPZ rfl rfl (by omega) (by omega) ?_; conv => whnf
     refine stuckO _ (store_of (e := ty) (cs := bys B) rfl (by rw [bys_length]; show 0 + ((kk : Int) + (n : Int)).toNat * 1 + 1 ≤ _; omega)) ?_; conv => whnf
     refine EPrim.addS rfl rfl (by omega) ?_; conv => whnf
     refine ⟨rfl, n + 1, by omega, by omega, Abs.tells (rs := [0, 1, 2, 3, 4]) ⟨by decide, ⟨⟨rfl, rfl⟩, ⟨rfl, rfl⟩, ⟨rfl, rfl⟩, ⟨rfl, rfl⟩, ⟨rfl, rfl⟩, ⟨rfl, rfl⟩, ⟨rfl, rfl⟩, ⟨rfl, rfl⟩, ⟨rfl, rfl⟩, trivial⟩, ⟨⟨rfl, rfl⟩, ⟨rowH hdf, by rw [mapRowH hdf]; rfl⟩, ⟨rowH hyf, by rw [mapRowH hyf]; rfl⟩, ⟨rowH (scs_hfs_bys _), ?_⟩, ⟨hLb 5 (by decide), by rw [hLm]; rfl⟩, trivial⟩⟩⟩
     rw [mapRowH (scs_hfs_bys _), hst, bys_set]
     have hix : 0 + ((kk : Int) + (n : Int)).toNat * 1 = kk + n := by omega
     show some (AObj.row ty (List.take (0 + ((kk : Int) + (n : Int)).toNat * 1) (bys B) ++ [.int .u8 (Int.ofNat (B.getD (kk + n) 0 ^^^ [y0, y1, y2, y3].getD n 0))] ++ List.drop (0 + ((kk : Int) + (n : Int)).toNat * 1 + 1) (bys B))) = _
     rw [hix, List.set_eq_take_append_cons_drop, if_pos (by rw [bys_length]; omega)]
     simp
   · have : n = 4 := by omega
     subst this
     rw [hBe] at hld
     conv => whnf
     have hL' : hfs (BL.set i0 (fzB B)) = true := hfs_iff.2 fun v hv => by
       rcases List.mem_or_eq_of_mem_set hv with hv | rfl
       · exact hfs_iff.1 hBL v hv
       · rfl
     refine W.tells (AbsK.frz (k := 0) (tl := [(2, .int .i64 a), (7, .ptr 0 0), (8, .ptr 1 0), (15, .bool true), (16, .sl 2 0 k none)]) (os := [.row 24 [.int .u32 id, .int .i64 mb, .int .i64 ch, .int .i64 rw', .int .i64 lg, .int .i64 hdd], .row 28 [bv, wv, .bool dd], .row 32 (BL.set i0 (.sl 3 0 128 (some 128)))]) (os2 := [.row 24 [.int .u32 id, .int .i64 mb, .int .i64 ch, .int .i64 rw', .int .i64 lg, .int .i64 hdd], .row 28 [bv, wv, .bool dd], .row 32 (BL.set i0 (fzB B))]) (e := ty) (cs := bys B) (rs := [0, 1, 4, 3]) (n := 3) (Abs.toK ⟨by decide, ⟨⟨rfl, rfl⟩, ⟨rfl, rfl⟩, ⟨rfl, rfl⟩, ⟨rfl, rfl⟩, ⟨rfl, rfl⟩, trivial⟩, ⟨⟨rfl, rfl⟩, ⟨rowH hdf, by rw [mapRowH hdf]; rfl⟩, ⟨hLb 4 (by decide), by rw [hLm]; rfl⟩, ⟨rowH (scs_hfs_bys _), by rw [mapRowH (scs_hfs_bys _)]; rfl⟩, trivial⟩⟩) rfl (scs_hfs_bys _) rfl rfl rfl rfl rfl ?_) ?_
     · show [frzO 3 (bys B) (.row 24 [.int .u32 id, .int .i64 mb, .int .i64 ch, .int .i64 rw', .int .i64 lg, .int .i64 hdd]), frzO 3 (bys B) (.row 28 [bv, wv, .bool dd]), AObj.row 32 (frzVs 3 (bys B) (BL.set i0 (.sl 3 0 128 (some 128))))] = _
       rw [frzRowH rfl, frzRowH hdf, frzVs_map, List.map_set, map_idB (fun v hv => hf_frzV v (hfs_iff.1 hBL v hv))]; rfl
     refine W.tells (AbsK.frz (k := 0) (tl := [(2, .int .i64 a), (7, .ptr 0 0), (8, .ptr 1 0), (15, .bool true), (16, .sl 2 0 k none)]) (tl2 := [(2, .int .i64 a), (7, .ptr 0 0), (8, .ptr 1 0), (15, .bool true), (16, .fz k none (BL.set i0 (fzB B)))]) (os := [.row 24 [.int .u32 id, .int .i64 mb, .int .i64 ch, .int .i64 rw', .int .i64 lg, .int .i64 hdd], .row 28 [bv, wv, .bool dd]]) (os2 := [.row 24 [.int .u32 id, .int .i64 mb, .int .i64 ch, .int .i64 rw', .int .i64 lg, .int .i64 hdd], .row 28 [bv, wv, .bool dd]]) (e := 32) (cs := BL.set i0 (fzB B)) (rs := [0, 1, 2]) (n := 2) (Abs.toK ⟨by decide, ⟨⟨rfl, rfl⟩, ⟨rfl, rfl⟩, ⟨rfl, rfl⟩, ⟨rfl, rfl⟩, ⟨rfl, rfl⟩, trivial⟩, ⟨⟨rfl, rfl⟩, ⟨rowH hdf, by rw [mapRowH hdf]; rfl⟩, ⟨rowH hL', by rw [mapRowH hL']; rfl⟩, trivial⟩⟩) rfl hL' rfl rfl rfl rfl rfl ?_) ?_
     · show [frzO 2 (BL.set i0 (fzB B)) (.row 24 [.int .u32 id, .int .i64 mb, .int .i64 ch, .int .i64 rw', .int .i64 lg, .int .i64 hdd]), frzO 2 (BL.set i0 (fzB B)) (.row 28 [bv, wv, .bool dd])] = _
       rw [frzRowH rfl, frzRowH hdf]
     refine W.seqV hE hm ?_; conv => whnf
     refine hld _ _ ?_; conv => whnf
     refine W.seqV hE hm ?_; conv => whnf
     refine hr1 _ _ ?_; conv => whnf
     refine W.endV hE hm ?_; conv => whnf
     repeat' (first | ((refine w5 rfl rfl ?_ ?_) <;> intro _ <;> first | (exfalso; omega) | (conv => whnf)) | (refine w16 rfl ?_; conv => whnf) | fail)
     rfl
 · conv => whnf
   refine W.seqV hE hm ?_; conv => whnf
   repeat' (first | ((first | refine w5 rfl rfl ?_ ?_ | refine w6 rfl rfl ?_ ?_) <;> intro _ <;> first | (exfalso; omega) | (conv => whnf)) | (refine w18 rfl ?_; conv => whnf) | fail)
   refine W.seqV hE hm ?_; conv => whnf
   repeat' (first | ((first | refine w14 (q' := .i64) rfl (i64_in (by omega)) ?_ | refine w18 rfl ?_); conv => whnf) | fail)
   refine EPrim.remN rfl rfl (by omega) ?_
   rw [hi0]
   conv => whnf
   repeat' (first | (refine w14 (q' := .i64) rfl (i64_in (by omega)) ?_; conv => whnf) | fail)
   refine EPrim.remN rfl rfl (by omega) ?_
   rw [hkk]
   conv => whnf
   refine W.seqV hE hm ?_; conv => whnf
   refine EPrim.ixsPZ rfl rfl (by omega) (by omega) ?_; conv => whnf
   refine stuckO (.sl 4 0 128 (some 128)) (load1_at (e := 32) (cs := BL.set i0 (.sl 4 0 128 (some 128))) rfl (by rw [Nat.zero_add, Nat.mul_one]; exact List.getElem?_set_self (by omega))) ?_; conv => whnf
   repeat' (first | ((refine w6 rfl rfl ?_ ?_) <;> intro _ <;> first | (exfalso; omega) | (conv => whnf)) | (refine w18 rfl ?_; conv => whnf) | fail)
   refine W.seqV hE hm ?_; conv => whnf
   refine W.loopT (α := Nat) (fun n => [(2, .int .i64 a), (7, .ptr 0 0), (8, .ptr 1 0), (13, .ptr 2 0), (15, .bool true), (16, .sl 4 0 k none), (21, .int .i64 (i0 : Int)), (22, .int .i64 (kk : Int)), (23, .int .i64 (n : Int))])
     (fun n => [.row 24 [.int .u32 id, .int .i64 mb, .int .i64 ch, .int .i64 rw', .int .i64 lg, .int .i64 hdd], .row 28 [bv, wv, .bool dd], .row 90 y, .row ty (bys (turnN b0 kk [y0, y1, y2, y3] n)), .row 32 (BL.set i0 (.sl 3 0 128 (some 128)))]) (fun n => 4 - n) (fun n => n ≤ 4) 0 (Nat.zero_le _)
     (Abs.tells (rs := [0, 1, 3, 4, 5]) ⟨by decide, ⟨⟨rfl, rfl⟩, ⟨rfl, rfl⟩, ⟨rfl, rfl⟩, ⟨rfl, rfl⟩, ⟨rfl, rfl⟩, ⟨rfl, rfl⟩, ⟨rfl, rfl⟩, ⟨rfl, rfl⟩, ⟨rfl, rfl⟩, trivial⟩, ⟨⟨rfl, rfl⟩, ⟨rowH hdf, by rw [mapRowH hdf]; rfl⟩, ⟨rowH hyf, by rw [mapRowH hyf]; rfl⟩, ⟨rowH (scs_hfs_bys _), by rw [mapRowH (scs_hfs_bys _)]; rfl⟩, ⟨hLb 5 (by decide), by rw [hLm]; rfl⟩, trivial⟩⟩) ?_
   intro n hn
   refine vw_sound hE hm ?_
   have hBn := turnN_length b0 kk [y0, y1, y2, y3] n
   have hBb : (turnN b0 kk [y0, y1, y2, y3] n).getD (kk + n) 0 < 256 := getD_lt (turnN_lt hb1 hys n) _
   have hyn : [y0, y1, y2, y3].getD n 0 < 256 := getD_lt hys _
   have hst : turnN b0 kk [y0, y1, y2, y3] (n + 1) = (turnN b0 kk [y0, y1, y2, y3] n).set (kk + n) ((turnN b0 kk [y0, y1, y2, y3] n).getD (kk + n) 0 ^^^ [y0, y1, y2, y3].getD n 0) := rfl
   revert hBn hBb hst
   generalize hBe : turnN b0 kk [y0, y1, y2, y3] n = B
   intro hBn hBb hst
   conv => whnf
   refine EPrim.lss2 (a := (n : Int)) (b := 4) rfl rfl (fun hlt => ?_) (fun hlt => ?_)
   · conv => whnf
     refine EPrim.ixsPZ rfl rfl (by omega) (by omega) ?_; conv => whnf
     refine stuckO (.sl 3 0 128 (some 128)) (load1_at (e := 32) (cs := BL.set i0 (.sl 3 0 128 (some 128))) rfl (by rw [Nat.zero_add, Nat.mul_one]; exact List.getElem?_set_self (by omega))) ?_; conv => whnf
     refine EPrim.addS rfl rfl (by omega) ?_; conv => whnf
     refine EPrim.ixsPZ rfl rfl (by omega) (by omega) ?_; conv => whnf
     refine stuckO (.sl 3 0 128 (some 128)) (load1_at (e := 32) (cs := BL.set i0 (.sl 3 0 128 (some 128))) rfl (by rw [Nat.zero_add, Nat.mul_one]; exact List.getElem?_set_self (by omega))) ?_; conv => whnf
     refine EPrim.addS rfl rfl (by omega) ?_; conv => whnf
     refine EPrim.ixsPZ rfl rfl (by omega) (by omega) ?_; conv => whnf
     refine stuckO (.int .u8 (Int.ofNat (B.getD (kk + n) 0))) (load1_at (e := ty) (cs := bys B) rfl (by rw [Nat.zero_add, Nat.mul_one, show ((kk : Int) + (n : Int)).toNat = kk + n by omega]; exact bys_getD (by omega))) ?_; conv => whnf
     refine EPrim.ixaZ rfl rfl (by omega) (by omega) ?_; conv => whnf
     refine stuckO (.int .u8 (Int.ofNat ([y0, y1, y2, y3].getD n 0))) (load1_at (e := 90) (cs := y) rfl (by rw [Nat.zero_add, Nat.mul_one, hyv]; exact bys_getD (l := [y0, y1, y2, y3]) (by show n < 4; omega))) ?_; conv => whnf
     refine EPrim.xor8 rfl rfl hBb hyn ?_; conv => whnf
     refine EPrim.ixsPZ rfl rfl (by omega) (by omega) ?_; conv => whnf
     refine stuckO _ (store_of (e := ty) (cs := bys B) rfl (by rw [bys_length]; show 0 + ((kk : Int) + (n : Int)).toNat * 1 + 1 ≤ _; omega)) ?_; conv => whnf
     refine EPrim.addS rfl rfl (by omega) ?_; conv => whnf
     refine ⟨rfl, n + 1, by omega, by omega, Abs.tells (rs := [0, 1, 2, 3, 4]) ⟨by decide, ⟨⟨rfl, rfl⟩, ⟨rfl, rfl⟩, ⟨rfl, rfl⟩, ⟨rfl, rfl⟩, ⟨rfl, rfl⟩, ⟨rfl, rfl⟩, ⟨rfl, rfl⟩, ⟨rfl, rfl⟩, ⟨rfl, rfl⟩, trivial⟩, ⟨⟨rfl, rfl⟩, ⟨rowH hdf, by rw [mapRowH hdf]; rfl⟩, ⟨rowH hyf, by rw [mapRowH hyf]; rfl⟩, ⟨rowH (scs_hfs_bys _), ?_⟩, ⟨hLb 5 (by decide), by rw [hLm]; rfl⟩, trivial⟩⟩⟩
     rw [mapRowH (scs_hfs_bys _), hst, bys_set]
     have hix : 0 + ((kk : Int) + (n : Int)).toNat * 1 = kk + n := by omega
     show some (AObj.row ty (List.take (0 + ((kk : Int) + (n : Int)).toNat * 1) (bys B) ++ [.int .u8 (Int.ofNat (B.getD (kk + n) 0 ^^^ [y0, y1, y2, y3].getD n 0))] ++ List.drop (0 + ((kk : Int) + (n : Int)).toNat * 1 + 1) (bys B))) = _
     rw [hix, List.set_eq_take_append_cons_drop, if_pos (by rw [bys_length]; omega)]
     simp
   · have : n = 4 := by omega
     subst this
     rw [hBe] at hld
     conv => whnf
     have hL' : hfs (BL.set i0 (fzB B)) = true := hfs_iff.2 fun v hv => by
       rcases List.mem_or_eq_of_mem_set hv with hv | rfl
       · exact hfs_iff.1 hBL v hv
       · rfl
     refine W.tells (AbsK.frz (k := 0) (tl := [(2, .int .i64 a), (7, .ptr 0 0), (8, .ptr 1 0), (15, .bool true), (16, .sl 2 0 k none)]) (os := [.row 24 [.int .u32 id, .int .i64 mb, .int .i64 ch, .int .i64 rw', .int .i64 lg, .int .i64 hdd], .row 28 [bv, wv, .bool dd], .row 32 (BL.set i0 (.sl 3 0 128 (some 128)))]) (os2 := [.row 24 [.int .u32 id, .int .i64 mb, .int .i64 ch, .int .i64 rw', .int .i64 lg, .int .i64 hdd], .row 28 [bv, wv, .bool dd], .row 32 (BL.set i0 (fzB B))]) (e := ty) (cs := bys B) (rs := [0, 1, 4, 3]) (n := 3) (Abs.toK ⟨by decide, ⟨⟨rfl, rfl⟩, ⟨rfl, rfl⟩, ⟨rfl, rfl⟩, ⟨rfl, rfl⟩, ⟨rfl, rfl⟩, trivial⟩, ⟨⟨rfl, rfl⟩, ⟨rowH hdf, by rw [mapRowH hdf]; rfl⟩, ⟨hLb 4 (by decide), by rw [hLm]; rfl⟩, ⟨rowH (scs_hfs_bys _), by rw [mapRowH (scs_hfs_bys _)]; rfl⟩, trivial⟩⟩) rfl (scs_hfs_bys _) rfl rfl rfl rfl rfl ?_) ?_
     · show [frzO 3 (bys B) (.row 24 [.int .u32 id, .int .i64 mb, .int .i64 ch, .int .i64 rw', .int .i64 lg, .int .i64 hdd]), frzO 3 (bys B) (.row 28 [bv, wv, .bool dd]), AObj.row 32 (frzVs 3 (bys B) (BL.set i0 (.sl 3 0 128 (some 128))))] = _
       rw [frzRowH rfl, frzRowH hdf, frzVs_map, List.map_set, map_idB (fun v hv => hf_frzV v (hfs_iff.1 hBL v hv))]; rfl
     refine W.tells (AbsK.frz (k := 0) (tl := [(2, .int .i64 a), (7, .ptr 0 0), (8, .ptr 1 0), (15, .bool true), (16, .sl 2 0 k none)]) (tl2 := [(2, .int .i64 a), (7, .ptr 0 0), (8, .ptr 1 0), (15, .bool true), (16, .fz k none (BL.set i0 (fzB B)))]) (os := [.row 24 [.int .u32 id, .int .i64 mb, .int .i64 ch, .int .i64 rw', .int .i64 lg, .int .i64 hdd], .row 28 [bv, wv, .bool dd]]) (os2 := [.row 24 [.int .u32 id, .int .i64 mb, .int .i64 ch, .int .i64 rw', .int .i64 lg, .int .i64 hdd], .row 28 [bv, wv, .bool dd]]) (e := 32) (cs := BL.set i0 (fzB B)) (rs := [0, 1, 2]) (n := 2) (Abs.toK ⟨by decide, ⟨⟨rfl, rfl⟩, ⟨rfl, rfl⟩, ⟨rfl, rfl⟩, ⟨rfl, rfl⟩, ⟨rfl, rfl⟩, trivial⟩, ⟨⟨rfl, rfl⟩, ⟨rowH hdf, by rw [mapRowH hdf]; rfl⟩, ⟨rowH hL', by rw [mapRowH hL']; rfl⟩, trivial⟩⟩) rfl hL' rfl rfl rfl rfl rfl ?_) ?_
     · show [frzO 2 (BL.set i0 (fzB B)) (.row 24 [.int .u32 id, .int .i64 mb, .int .i64 ch, .int .i64 rw', .int .i64 lg, .int .i64 hdd]), frzO 2 (BL.set i0 (fzB B)) (.row 28 [bv, wv, .bool dd])] = _
       rw [frzRowH rfl, frzRowH hdf]
     refine W.seqV hE hm ?_; conv => whnf
     refine hld _ _ ?_; conv => whnf
     refine W.seqV hE hm ?_; conv => whnf
     refine hr1 _ _ ?_; conv => whnf
     refine W.endV hE hm ?_; conv => whnf
     repeat' (first | ((refine w5 rfl rfl ?_ ?_) <;> intro _ <;> first | (exfalso; omega) | (conv => whnf)) | (refine w16 rfl ?_; conv => whnf) | fail)
     rfl
end Go.AM

set_option maxRecDepth 100000
namespace Go.AM
attribute [local irreducible] W
open X
def rowsI (x : BD) : Nat → List AObj
 | 0 => osHB (noteBk x.note) (x.d.prs.map stoodV)
 | j + 1 => osRB (blkV (noteBk x.note)) j x.d.prs (stoodN (x.d.prs.getD j (0, [])).2)
def blkRF (i0 : Nat) : FamR BD := ⟨fun x => x.ok ∧ CD.good ⟨x.c, x.d.d⟩ ∧ noteB x.note = true ∧ i0 < x.d.prs.length + 1, BD.enc, blkUR, fun x => rowsI x i0, fun x y hx hy h => by rw [BD.inj hx.1 hy.1 h]; exact ⟨rfl, rfl⟩⟩
theorem blkRH_ok {P : Program} {e : Env} {fn : Func} (hE : EnvOk P e) (hm : P.follows .mixedOrders = true) (h50 : Con e 50 dchkF.O) (h88 : Inl e 88 code88 []) (h89 : Inl e 89 code89 [.tmp 2]) (h67 : Inl e 67 code67 [.tmp 2]) (h107 : Con e 107 overO) (h90 : Con e 90 nwRF.O) (h91 : Con e 91 insO) (hf : P.funcs[48]? = some fn) (hc : compF P fn = some a48) (hb : HasBody P 48) : OvOk P 48 (blkRF 0).O := by
 refine FamR.ok_of hb fun x hx => ⟨BD.encf hx.1, ?_, by show 0 < 2; decide, by show 2 < 1000; decide, blkH_C hE hm h50 h88 h89 h67 h107 h90 h91 hf hc hx.1 hx.2.1 hx.2.2.1⟩
 intro o ho
 rcases List.mem_cons.1 (show o ∈ [AObj.row 197 _, AObj.row 32 _] from ho) with rfl | ho
 · rfl
 · rw [List.mem_singleton.1 ho]; rfl
theorem blkRK_ok {P : Program} {e : Env} {fn : Func} (j : Nat) (hE : EnvOk P e) (hm : P.follows .mixedOrders = true) (h50 : Con e 50 dchkF.O) (h88 : Inl e 88 code88 []) (h89 : Inl e 89 code89 [.tmp 2]) (h67 : Inl e 67 code67 [.tmp 2]) (h107 : Con e 107 overO) (h90 : Con e 90 nwF.O) (h91 : Con e 91 insO) (hf : P.funcs[48]? = some fn) (hc : compF P fn = some a48) (hb : HasBody P 48) : OvOk P 48 (blkRF (j + 1)).O := by
 refine FamR.ok_of hb fun x hx => ⟨BD.encf hx.1, ?_, by show 0 < 2; decide, by show 2 < 1000; decide, ?_⟩
 · intro o ho
   rcases List.mem_cons.1 (show o ∈ [AObj.row 5 _, AObj.row 32 _] from ho) with rfl | ho
   · rfl
   · rw [List.mem_singleton.1 ho]; rfl
 · have hj : j < x.d.prs.length := by have := hx.2.2.2; omega
   exact blkR_C hE hm h50 h88 h89 h67 h107 h90 h91 hf hc hx.1 hx.2.1 hx.2.2.1 (List.getElem?_eq_getElem hj) (by rw [List.getD_eq_getElem?_getD, List.getElem?_eq_getElem hj]; rfl)
def BLof (x : BD) : List AV := blkV (noteBk x.note) :: x.d.prs.map stoodV
theorem blkR_call {e : Env} {i0 : Nat} (h48 : Con e 48 (blkRF i0).O) {x : BD} (hx : (blkRF i0).ok x) {b0 : List Nat} (hb0 : x.bb[i0]? = some b0) : ∃ ty, ∀ (K : AV → St → Prop) (s : St), s.next = 4 → K (.tup [.sl 5 0 (x.d.prs.length + 1) none, .int .i64 0]) (allocs s [.row ty (bys b0), .row 32 ((BLof x).set i0 (.sl 4 0 128 (some 128)))]) → ESc e 48 x.enc s K := by
 have hLf : ∀ ρ : Nat → Nat, mapVs ρ (BLof x) = BLof x := fun ρ => hfs_mapVs _ (by show (true && hfs _) = true; rw [hfs_stood]; rfl)
 have hset : ∀ ρ : Nat → Nat, mapO ρ (.row 32 ((BLof x).set i0 (.sl 0 0 128 (some 128)))) = .row 32 ((BLof x).set i0 (.sl (ρ 0) 0 128 (some 128))) := fun ρ => by
   show AObj.row 32 (mapVs ρ _) = _
   rw [mapVs_map, List.map_set, ← mapVs_map, hLf]; rfl
 have hrows : ∃ ty, rowsI x i0 = [.row ty (bys b0), .row 32 ((BLof x).set i0 (.sl 0 0 128 (some 128)))] := by
   rcases i0 with _ | j
   · have e : noteBk x.note = b0 := Option.some.inj hb0
     exact ⟨197, by show osHB _ _ = _; rw [e]; unfold osHB BLof; rfl⟩
   · refine ⟨5, ?_⟩
     have hb0 : (x.d.prs.map fun p => stoodN p.2)[j]? = some b0 := hb0
     rw [List.getElem?_map] at hb0
     cases hq : x.d.prs[j]? with
     | none => rw [hq] at hb0; cases hb0
     | some q =>
       rw [hq] at hb0
       have hb0 : stoodN q.2 = b0 := Option.some.inj hb0
       show osRB _ _ _ (stoodN (x.d.prs.getD j (0, [])).2) = _
       rw [List.getD_eq_getElem?_getD, hq]
       show osRB _ _ _ (stoodN q.2) = _
       rw [hb0]; rfl
 obtain ⟨ty, hrows⟩ := hrows
 refine ⟨ty, fun K s hs hk => ?_⟩
 have h := (blkRF i0).run hx s
 have e1 : mapV (fun y => y + s.next) ((blkRF i0).out x) = .tup [.sl 5 0 (x.d.prs.length + 1) none, .int .i64 0] := by
   rw [hs]; rfl
 have e2 : ((blkRF i0).rows x).map (mapO (fun y => y + s.next)) = [.row ty (bys b0), .row 32 ((BLof x).set i0 (.sl 4 0 128 (some 128)))] := by
   show (rowsI x i0).map _ = _
   rw [hrows, List.map_cons, List.map_cons, List.map_nil, mapRowH (scs_hfs_bys _), hset, hs]
 rw [e1, e2] at h
 exact ESc.ov h48 h hk
theorem laid_any {e : Env} (h49 : Con e 49 ldF.O) {c : Cfg} {j : DK} {a : Int} (hc : c.ok) (hjk : j.ok) (hA : askE ⟨c, j, a⟩ = 0) (l : List (AV × List Nat)) (hlo : ∀ p ∈ l, BAt p.1 p.2 ∧ p.2.length = 128) (hll : (l.length : Int) ≤ c.log) :
   ∃ X : DK, RDK c.log X ∧ (∀ (K : AV → St → Prop) (s : St), K (.tup [X.v, .bool true]) s → ESc e 49 [c.v, j.v, .int .i64 a, .fz l.length none (l.map Prod.fst)] s K) ∧
     (∀ (i : Nat) b, (l.map Prod.snd)[i]? = some b → rbk ⟨c, X, a⟩ i = b) := by
 obtain ⟨hM, a2, a3, a4, a5⟩ := ask0 hA
 have hM : c.may := hM
 have a3 : (j.us.length : Int) = c.log + 1 := a3
 have a4 : 0 ≤ a ∧ a < c.log := a4
 have hM' := hM
 unfold Cfg.may at hM'
 have hR : RDK c.log j := ⟨hjk, a2, a3, a5, by have := Cfg.may_log hM; omega⟩
 have hLD : LD.ok ⟨c, j, a, .fz l.length none (l.map Prod.fst), l⟩ := ⟨hc, hR, a4, .inr (.inr ⟨none, rfl, by rw [List.length_map, Nat.mul_one]⟩), fun p hp => ⟨(hlo p hp).1, .inr (hlo p hp).2⟩, by dsimp only; omega⟩
 obtain ⟨s1, s2, s3⟩ := laidD_spec (a := a) l j 0 hR (fun p hp => ⟨(hlo p hp).1, .inr (hlo p hp).2⟩) (by omega)
 refine ⟨laidD c.log a j l 0, s1, fun K s hk => ESc.fam ldF h49 _ hLD rfl hk, fun i b hb => ?_⟩
 rw [List.getElem?_map] at hb
 cases hq : l[i]? with
 | none => rw [hq] at hb; cases hb
 | some q =>
   rw [hq] at hb
   have := s3 i q hq
   rw [Nat.zero_add] at this
   have hqo := hlo q (List.mem_of_getElem? hq)
   have hb : q.2 = b := Option.some.inj hb
   show pad (drdB _ (1 + (a + (i : Int)) % c.log)) = b
   rw [this, ← hb, pad_of hqo.2, pad_of hqo.2]
def lof (x : BD) : List (AV × List Nat) := (blkV (noteBk x.note), noteBk x.note) :: x.d.prs.map (fun p => (stoodV p, stoodN p.2))
theorem lof_fst (x : BD) : (lof x).map Prod.fst = BLof x := by unfold lof BLof; rw [List.map_cons, List.map_map]; rfl
theorem lof_snd (x : BD) : (lof x).map Prod.snd = x.bb := by unfold lof BD.bb; rw [List.map_cons, List.map_map]; rfl
theorem lof_ok {x : BD} (hx : x.ok) (hG : CD.good ⟨x.c, x.d.d⟩) : ∀ p ∈ lof x, BAt p.1 p.2 ∧ p.2.length = 128 := fun p hpm => by
 have hp := deal_prs hG.1 hx.d hG.2
 rcases List.mem_cons.1 hpm with rfl | hpm
 · exact ⟨⟨.inr (.inr ⟨some 128, by show blkV _ = .fz (noteBk _).length _ _; rw [noteBk_length]; rfl, by rw [bys_length]; omega⟩), noteBk_lt _⟩, noteBk_length _⟩
 · obtain ⟨q, hq, rfl⟩ := List.mem_map.1 hpm
   have h1 := hp q hq
   exact ⟨fzB_at ⟨stoodN_length h1.2, stoodN_lt h1.1.2⟩, stoodN_length h1.2⟩
theorem sho_good (P : Program) (e : Env) (hE : EnvOk P e) (hm : P.follows .mixedOrders = true) (h47 : Con e 47 trueO) (h32 : Con e 32 grtF.O) (h21 : Con e 21 grt4F.O) (h23 : Con e 23 drF.O) (h49 : Con e 49 ldF.O) {i0 : Nat} (h48 : Con e 48 (blkRF i0).O) (c : Cfg) (hc : c.ok) (j : DK) (hj : j.any) (a : Int) (ha : i64B a) (d : DB) (hd : d.any) (wi wh : Int) (hwi : 0 ≤ wi ∧ wi < 256) (hwh : 0 ≤ wh ∧ wh < 256) {y0 y1 y2 y3 : Nat} (hy : y0 < 256 ∧ y1 < 256 ∧ y2 < 256 ∧ y3 < 256)
   (hq1 : grtB d = false) (hq2 : grt4B j = false) (hne : ¬ (y0 = 0 ∧ y1 = 0 ∧ y2 = 0 ∧ y3 = 0)) (hG : CD.good ⟨c, d.d⟩) (hN : noteB (BD.note ⟨c, 3, 4, d⟩) = true) (hA : askE ⟨c, j, a⟩ = 0) (hi0 : wi % ((d.prs.length + 1 : Nat) : Int) = (i0 : Int)) :
   W P 0 none code11 (initT [c.v, j.v, .int .i64 a, d.d.v, .int .u8 wi, .int .u8 wh, .agg (yv y0 y1 y2 y3)] 0 .lf) St0 [] (Ends [.tmp 14] (fun u s => u = .bool true)) := by
 have hjf := DKhf hj.wl hj.bl (d := j.dead)
 have hg1 : ∀ (K : AV → St → Prop) (s : St), K (.bool false) s → ESc e 32 [d.d.v] s K := fun K s hk => grt_call h32 hd K s (fun h => by rw [hq1] at h; cases h) (fun _ => hk)
 have hg2 : ∀ (K : AV → St → Prop) (s : St), K (.bool false) s → ESc e 21 [j.v] s K := fun K s hk => ESc.fam grt4F h21 j hj (by show AV.bool _ = _; rw [hq2]) hk
 have hjk := grt4_ok hj hq2
 have hdk := small_ok hd hq1
 have hBD : BD.ok ⟨c, 3, 4, d⟩ := ⟨hc, by unfold u32B; dsimp only; omega, by unfold u32B; dsimp only; omega, hdk⟩
 have hCA : CDA.ok ⟨c, j, a⟩ := ⟨hc, hjk, ha⟩
 have hrd := rd_call h23 hCA
 obtain ⟨hM, a2, a3, a4, a5⟩ := ask0 hA
 have hM : c.may := hM
 have a4 : 0 ≤ a ∧ a < c.log := a4
 have hDG := dgood_of hG
 have hpl := prs_len hDG
 have hM' := hM
 unfold Cfg.may at hM'
 have hil : i0 < d.prs.length + 1 := by have := Int.emod_lt_of_pos wi (show (0 : Int) < ((d.prs.length + 1 : Nat) : Int) by omega); omega
 obtain ⟨X0, hX0⟩ : ∃ X0 : BD, X0 = ⟨c, 3, 4, d⟩ := ⟨_, rfl⟩
 have hbbl : (BD.bb ⟨c, 3, 4, d⟩).length = d.prs.length + 1 := by unfold BD.bb; rw [List.length_cons, List.length_map]
 obtain ⟨b0, hb0⟩ : ∃ b0, (BD.bb ⟨c, 3, 4, d⟩)[i0]? = some b0 := ⟨_, List.getElem?_eq_getElem (by rw [hbbl]; exact hil)⟩
 have hb0p : b0.length = 128 ∧ ∀ x ∈ b0, x < 256 := by
   rw [← lof_snd, List.getElem?_map] at hb0
   cases hq : (lof ⟨c, 3, 4, d⟩)[i0]? with
   | none => rw [hq] at hb0; cases hb0
   | some q =>
     rw [hq] at hb0
     have hb0 : q.2 = b0 := Option.some.inj hb0
     have := lof_ok hBD hG q (List.mem_of_getElem? hq)
     rw [← hb0]; exact ⟨this.2, this.1.2⟩
 obtain ⟨kk, hkk⟩ : ∃ kk : Nat, wh % 121 = (kk : Int) := ⟨(wh % 121).toNat, by have := Int.emod_nonneg wh (show (121 : Int) ≠ 0 by decide); omega⟩
 have hkl : kk < 121 := by have := Int.emod_lt_of_pos wh (show (0 : Int) < 121 by decide); omega
 have hys : ∀ x ∈ [y0, y1, y2, y3], x < 256 := by intro x hx; simp at hx; omega
 have hB1 : (turnN b0 kk [y0, y1, y2, y3] 4).length = 128 := by rw [turnN_length]; exact hb0p.1
 obtain ⟨X, hRX, hld, hrb⟩ := laid_any h49 hc hjk hA ((lof ⟨c, 3, 4, d⟩).set i0 (fzB (turnN b0 kk [y0, y1, y2, y3] 4), turnN b0 kk [y0, y1, y2, y3] 4)) (fun p hp => by
   rcases List.mem_or_eq_of_mem_set hp with hp | rfl
   · exact lof_ok hBD hG p hp
   · exact ⟨fzB_at ⟨hB1, turnN_lt hb0p.2 hys 4⟩, hB1⟩) (by rw [List.length_set]; unfold lof; rw [List.length_cons, List.length_map]; dsimp only; omega)
 rw [List.map_set, lof_fst, List.length_set, show (lof ⟨c, 3, 4, d⟩).length = d.prs.length + 1 by unfold lof; rw [List.length_cons, List.length_map]] at hld
 rw [List.map_set, lof_snd] at hrb
 have hAX := ask_rdk hM hRX a4
 have hsh := short_of (x := ⟨c, 3, 4, d⟩) hBD hG hN hAX (k := kk) (by omega) hy hne hb0 hrb
 have hr1 : ∀ (K : AV → St → Prop) (s : St), K (drErr 130) s → ESc e 23 [c.v, X.v, .int .i64 a] s K := fun K s hk => ESc.fam drF h23 ⟨c, X, a⟩ ⟨hc, hRX.ok, ha⟩ hsh hk
 have hr0 : ∀ (K : AV → St → Prop) (s : St), K (drErr 130) s → (∀ f : Fd, K (.tup [.agg f.c, .int .i64 (1 + (f.n.recs.length : Int)), .int .i64 0]) s) → ESc e 23 [c.v, j.v, .int .i64 a] s K := fun K s k1 k2 => hrd K s (fun _ => by rw [show errF ⟨c, j, a⟩ = 130 by unfold errF; rw [if_pos hA]]; exact k1) (fun f _ => k2 f)
 obtain ⟨ty, hbl⟩ := blkR_call h48 (x := ⟨c, 3, 4, d⟩) ⟨hBD, hG, hN, hil⟩ hb0
 have hddf : hfs d.d.c = true := by
   have h : AM.hf d.d.v = true := DB.anyhf hd
   exact h
 have hBLf : hfs (BLof ⟨c, 3, 4, d⟩) = true := by show (true && hfs _) = true; rw [hfs_stood]; rfl
 have hBLl : (BLof ⟨c, 3, 4, d⟩).length = d.prs.length + 1 := by unfold BLof; rw [List.length_cons, List.length_map]
 have hk2 : 2 ≤ d.prs.length + 1 := by omega
 have hk3 : d.prs.length + 1 ≤ 300 := by omega
 have hbl : ∀ (K : AV → St → Prop) (s : St), s.next = 4 → K (.tup [.sl 5 0 (d.prs.length + 1) none, .int .i64 0]) (allocs s [.row ty (bys b0), .row 32 ((BLof ⟨c, 3, 4, d⟩).set i0 (.sl 4 0 128 (some 128)))]) → ESc e 48 [c.v, .int .u32 3, .int .u32 4, d.d.v] s K := hbl
 generalize BLof ⟨c, 3, 4, d⟩ = BL at *
 obtain ⟨id, mb, ch, rw', lg, hdd⟩ := c
 obtain ⟨bv, us, bs, wv, ws, dd⟩ := j
 obtain ⟨x1, xu, xb, x2, xw, x3⟩ := X
 generalize d.prs.length + 1 = k at *
 obtain ⟨st, sv, sl, dv, dus, dbs, pv, pb⟩ := d
 exact sho_main P e hE hm hjf hddf hk2 hk3 hBLf hBLl hwi hwh hi0 hkk hy hb0p.1 hb0p.2 hne h47 hg1 hg2 hbl hr0 hld hr1
end Go.AM

set_option maxRecDepth 100000
namespace Go.AM
attribute [local irreducible] W
open X
structure SHIn (e : Env) : Prop where
 h47 : Con e 47 trueO
 h32 : Con e 32 grtF.O
 h21 : Con e 21 grt4F.O
 h48 : Con e 48 blkF.O
 h23 : Con e 23 drF.O
 h49 : Con e 49 ldF.O
theorem eqf_y0 {y0 y1 y2 y3 : Nat} (h : y0 = 0 ∧ y1 = 0 ∧ y2 = 0 ∧ y3 = 0) : (eqfA [0, 0, 0, 0] (yv y0 y1 y2 y3) [.int .u8 0, .int .u8 0, .int .u8 0, .int .u8 0]) = some true := by
 obtain ⟨rfl, rfl, rfl, rfl⟩ := h; rfl
theorem sho_early (P : Program) (e : Env) (hE : EnvOk P e) (hm : P.follows .mixedOrders = true) (h47 : Con e 47 trueO) (h32 : Con e 32 grtF.O) (h21 : Con e 21 grt4F.O) (h23 : Con e 23 drF.O) (h48 : Con e 48 blkF.O) (c : Cfg) (hc : c.ok) (j : DK) (hj : j.any) (a : Int) (ha : i64B a) (d : DB) (hd : d.any) (wi wh : Int) {y0 y1 y2 y3 : Nat}
   (hcase : ¬ (grtB d = false ∧ grt4B j = false ∧ ¬ (y0 = 0 ∧ y1 = 0 ∧ y2 = 0 ∧ y3 = 0) ∧ (CD.good ⟨c, d.d⟩ ∧ noteB (BD.note ⟨c, 3, 4, d⟩) = true) ∧ askE ⟨c, j, a⟩ = 0)) :
   VW P e 0 code11 (initT [c.v, j.v, .int .i64 a, d.d.v, .int .u8 wi, .int .u8 wh, .agg (yv y0 y1 y2 y3)] 0 .lf) St0 none [] (EEnd [.tmp 14] (fun u s => u = .bool true)) := by
 have hg1 := grt_call h32 hd
 by_cases hq1 : grtB d = true
 · have hg1 : ∀ (K : AV → St → Prop) (s : St), K (.bool true) s → ESc e 32 [d.d.v] s K := fun K s hk => hg1 K s (fun _ => hk) (fun h => by rw [hq1] at h; cases h)
   obtain ⟨id, mb, ch, rw', lg, hdd⟩ := c
   obtain ⟨bv, us, bs, wv, ws, dd⟩ := j
   obtain ⟨st, sv, sl, dv, dus, dbs, pv, pb⟩ := d
   show VW P e 0 code11 (initT [.agg [.int .u32 id, .int .i64 mb, .int .i64 ch, .int .i64 rw', .int .i64 lg, .int .i64 hdd], .agg [bv, wv, .bool dd], .int .i64 a, .agg [.int .i64 st, sv, dv, pv], .int .u8 wi, .int .u8 wh, .agg (yv y0 y1 y2 y3)] 0 .lf) St0 none [] _
   conv => whnf
   refine ESc.ov h47 rfl ?_; conv => whnf
   refine hg1 _ _ ?_; conv => whnf
   skip
   rfl
 have hq1 : grtB d = false := by simpa using hq1
 have hg1 : ∀ (K : AV → St → Prop) (s : St), K (.bool false) s → ESc e 32 [d.d.v] s K := fun K s hk => hg1 K s (fun h => by rw [hq1] at h; cases h) (fun _ => hk)
 by_cases hq2 : grt4B j = true
 · have hg2 : ∀ (K : AV → St → Prop) (s : St), K (.bool true) s → ESc e 21 [j.v] s K := fun K s hk => ESc.fam grt4F h21 j hj (by show AV.bool _ = _; rw [hq2]) hk
   obtain ⟨id, mb, ch, rw', lg, hdd⟩ := c
   obtain ⟨bv, us, bs, wv, ws, dd⟩ := j
   obtain ⟨st, sv, sl, dv, dus, dbs, pv, pb⟩ := d
   show VW P e 0 code11 (initT [.agg [.int .u32 id, .int .i64 mb, .int .i64 ch, .int .i64 rw', .int .i64 lg, .int .i64 hdd], .agg [bv, wv, .bool dd], .int .i64 a, .agg [.int .i64 st, sv, dv, pv], .int .u8 wi, .int .u8 wh, .agg (yv y0 y1 y2 y3)] 0 .lf) St0 none [] _
   conv => whnf
   refine ESc.ov h47 rfl ?_; conv => whnf
   refine hg1 _ _ ?_; conv => whnf
   refine hg2 _ _ ?_; conv => whnf
   skip
   rfl
 have hq2 : grt4B j = false := by simpa using hq2
 have hg2 : ∀ (K : AV → St → Prop) (s : St), K (.bool false) s → ESc e 21 [j.v] s K := fun K s hk => ESc.fam grt4F h21 j hj (by show AV.bool _ = _; rw [hq2]) hk
 by_cases hz : y0 = 0 ∧ y1 = 0 ∧ y2 = 0 ∧ y3 = 0
 · have hq0 := eqf_y0 hz
   obtain ⟨id, mb, ch, rw', lg, hdd⟩ := c
   obtain ⟨bv, us, bs, wv, ws, dd⟩ := j
   obtain ⟨st, sv, sl, dv, dus, dbs, pv, pb⟩ := d
   show VW P e 0 code11 (initT [.agg [.int .u32 id, .int .i64 mb, .int .i64 ch, .int .i64 rw', .int .i64 lg, .int .i64 hdd], .agg [bv, wv, .bool dd], .int .i64 a, .agg [.int .i64 st, sv, dv, pv], .int .u8 wi, .int .u8 wh, .agg (yv y0 y1 y2 y3)] 0 .lf) St0 none [] _
   conv => whnf
   refine ESc.ov h47 rfl ?_; conv => whnf
   refine hg1 _ _ ?_; conv => whnf
   refine hg2 _ _ ?_; conv => whnf
   repeat' (first | (refine EPrim.eqf2 rfl rfl hq0 ?_; conv => whnf) | (refine w12 rfl ?_; conv => whnf) | fail)
   rfl
 have hq0 := eqf_yv hz
 have hjk := grt4_ok hj hq2
 have hdk := small_ok hd hq1
 have hBD : BD.ok ⟨c, 3, 4, d⟩ := ⟨hc, by unfold u32B; dsimp only; omega, by unfold u32B; dsimp only; omega, hdk⟩
 have hblk := fun (K : AV → St → Prop) (s : St) (hk : K (blkOut ⟨c, 3, 4, d⟩) s) => ESc.fam blkF h48 ⟨c, 3, 4, d⟩ hBD rfl hk
 have hCA : CDA.ok ⟨c, j, a⟩ := ⟨hc, hjk, ha⟩
 have hrd := rd_call h23 hCA
 by_cases hG : CD.good ⟨c, d.d⟩ ∧ noteB (BD.note ⟨c, 3, 4, d⟩) = true
 · have hbo : blkOut ⟨c, 3, 4, d⟩ = .tup [.fz (d.prs.length + 1) none (blkV (noteBk (BD.note ⟨c, 3, 4, d⟩)) :: d.prs.map stoodV), .int .i64 0] := by
     unfold blkOut
     rw [if_pos hG.1, if_pos hG.2]
   rw [hbo] at hblk
   have hA : askE ⟨c, j, a⟩ ≠ 0 := fun hA => hcase ⟨hq1, hq2, hz, hG, hA⟩
   have hrd : ∀ (K : AV → St → Prop) (s : St), (∀ n, n ≠ 0 → n ≠ 130 → K (drErr n) s) → ESc e 23 [c.v, j.v, .int .i64 a] s K := fun K s k1 => hrd K s (fun _ => k1 _ (ask_err hA).1 (ask_err hA).2) (fun f hf => by
     unfold rdF at hf
     rw [if_neg hA] at hf; cases hf)
   generalize (blkV (noteBk (BD.note ⟨c, 3, 4, d⟩)) :: d.prs.map stoodV) = BL at *
   generalize d.prs.length + 1 = k at *
   obtain ⟨id, mb, ch, rw', lg, hdd⟩ := c
   obtain ⟨bv, us, bs, wv, ws, dd⟩ := j
   obtain ⟨st, sv, sl, dv, dus, dbs, pv, pb⟩ := d
   show VW P e 0 code11 (initT [.agg [.int .u32 id, .int .i64 mb, .int .i64 ch, .int .i64 rw', .int .i64 lg, .int .i64 hdd], .agg [bv, wv, .bool dd], .int .i64 a, .agg [.int .i64 st, sv, dv, pv], .int .u8 wi, .int .u8 wh, .agg (yv y0 y1 y2 y3)] 0 .lf) St0 none [] _
   conv => whnf
   refine ESc.ov h47 rfl ?_; conv => whnf
   refine hg1 _ _ ?_; conv => whnf
   refine hg2 _ _ ?_; conv => whnf
   repeat' (first | (refine EPrim.eqf2 rfl rfl hq0 ?_; conv => whnf) | (refine w12 rfl ?_; conv => whnf) | fail)
   refine hblk _ _ ?_; conv => whnf
   refine hrd _ _ (fun n hn hn' => ?_); conv => whnf
   repeat' (first | ((refine w6 rfl rfl ?_ ?_) <;> intro _ <;> first | (exfalso; omega) | (conv => whnf)) | fail)
   rfl
 · have hbo : ∃ er : Int, er ≠ 0 ∧ blkOut ⟨c, 3, 4, d⟩ = .tup [.nils, .int .i64 er] := by
     unfold blkOut
     by_cases h1 : CD.good ⟨c, d.d⟩
     · rw [if_pos h1, if_neg (fun h2 => hG ⟨h1, h2⟩)]; exact ⟨2, by decide, rfl⟩
     · rw [if_neg h1]; exact ⟨8, by decide, rfl⟩
   obtain ⟨er, her, hbo⟩ := hbo
   rw [hbo] at hblk
   have hrd : ∀ (K : AV → St → Prop) (s : St), (∀ n, K (drErr n) s) → (∀ f : Fd, K (.tup [.agg f.c, .int .i64 (1 + (f.n.recs.length : Int)), .int .i64 0]) s) → ESc e 23 [c.v, j.v, .int .i64 a] s K := fun K s k1 k2 => hrd K s (fun _ => k1 _) (fun f _ => k2 f)
   obtain ⟨id, mb, ch, rw', lg, hdd⟩ := c
   obtain ⟨bv, us, bs, wv, ws, dd⟩ := j
   obtain ⟨st, sv, sl, dv, dus, dbs, pv, pb⟩ := d
   show VW P e 0 code11 (initT [.agg [.int .u32 id, .int .i64 mb, .int .i64 ch, .int .i64 rw', .int .i64 lg, .int .i64 hdd], .agg [bv, wv, .bool dd], .int .i64 a, .agg [.int .i64 st, sv, dv, pv], .int .u8 wi, .int .u8 wh, .agg (yv y0 y1 y2 y3)] 0 .lf) St0 none [] _
   conv => whnf
   refine ESc.ov h47 rfl ?_; conv => whnf
   refine hg1 _ _ ?_; conv => whnf
   refine hg2 _ _ ?_; conv => whnf
   repeat' (first | (refine EPrim.eqf2 rfl rfl hq0 ?_; conv => whnf) | (refine w12 rfl ?_; conv => whnf) | fail)
   refine hblk _ _ ?_; conv => whnf
   refine hrd _ _ (fun n => ?_) (fun f => ?_)
   · conv => whnf
     repeat' (first | ((refine w6 rfl rfl ?_ ?_) <;> intro _ <;> first | (exfalso; omega) | (conv => whnf)) | fail)
     rfl
   · conv => whnf
     repeat' (first | ((refine w6 rfl rfl ?_ ?_) <;> intro _ <;> first | (exfalso; omega) | (conv => whnf)) | fail)
     rfl
end Go.AM

namespace Go.AM
open Go.ChangeShapes Go.WideShapes
theorem arr4_arg {H : Type} {enc : TypeId × Value → H} {P : Program} {W : World} {t e : TypeId} {v : Value} {d : DataW H} {ps : List MemPlace} {r : Reach} {base : Nat} (hu : P.underlying t = some (.array 4 e)) (he : P.underlying e = some (.int .u8)) (h1 : P.cellsOf e = 1) (h4 : P.cellsOf t = 4) (hval : Value.okWide P W r base t v) (h : DataW.Trod enc P W 0 (fun _ => true) true t v d ps) :
   ∃ y0 y1 y2 y3 : Nat, (y0 < 256 ∧ y1 < 256 ∧ y2 < 256 ∧ y3 < 256) ∧ VR (gamW W) (.agg (yv y0 y1 y2 y3)) v := by
 simp only [Value.okWide, hu] at hval
 obtain ⟨cs, rfl, hn, _⟩ := hval
 rw [h4] at hn
 obtain ⟨fuel, hf⟩ := h
 cases fuel with
 | zero => simp [DataW.trod] at hf
 | succ m =>
   rw [DataW.trod_step] at hf
   unfold DataW.trodStep at hf
   simp only [hu, Value.cells] at hf
   rw [if_pos (by rw [h4]; simpa using hn)] at hf
   simp only [Option.map_eq_some_iff] at hf
   obtain ⟨ys, hy, _⟩ := hf
   obtain ⟨l, hl⟩ : ∃ l, l = cs.toList := ⟨_, rfl⟩
   rw [← hl, h1] at hy
   have hln : l.length = 4 := by rw [hl]; simpa using hn
   rcases l with _ | ⟨c0, _ | ⟨c1, _ | ⟨c2, _ | ⟨c3, _ | ⟨c4, l⟩⟩⟩⟩⟩ <;> simp at hln
   simp only [show List.range 4 = [0, 1, 2, 3] from rfl, List.mapM_cons, bind, Option.bind_eq_some_iff, pure, Option.some.injEq] at hy
   obtain ⟨x0, e0, z0, ⟨x1, e1, z1, ⟨x2, e2, z2, ⟨x3, e3, z3, _, _⟩, _⟩, _⟩, _⟩ := hy
   obtain ⟨a0, q0, _, w0⟩ := DataW.trod_int he e0
   obtain ⟨a1, q1, _, w1⟩ := DataW.trod_int he e1
   obtain ⟨a2, q2, _, w2⟩ := DataW.trod_int he e2
   obtain ⟨a3, q3, _, w3⟩ := DataW.trod_int he e3
   simp at q0 q1 q2 q3
   have b0 := wf_u8 w0
   have b1 := wf_u8 w1
   have b2 := wf_u8 w2
   have b3 := wf_u8 w3
   refine ⟨a0.toNat, a1.toNat, a2.toNat, a3.toNat, by omega, .agg _ cs ?_ ?_⟩
   · rw [← hl, q0, q1, q2, q3]
     have f : ∀ a : Int, 0 ≤ a → VR (gamW W) (.int .u8 (Int.ofNat a.toNat)) (.int .u8 a) := fun a ha => by
       rw [show Int.ofNat a.toNat = a by show ((a.toNat : Nat) : Int) = a; omega]; exact .int _ _
     exact .cons (f a0 (by omega)) (.cons (f a1 (by omega)) (.cons (f a2 (by omega)) (.cons (f a3 (by omega)) .nil)))
   · intro v hv
     rw [← hl, q0, q1, q2, q3] at hv
     simp at hv
     rcases hv with rfl | rfl | rfl | rfl <;> rfl
end Go.AM
