/-
 Functions of the program as the abstract machine reads them, and what is stated of them, checked by the kernel. No conditions.
-/
import Derived.Test.YtnnbibnobmegpaaSeatLH
import Derived.Test.YtnnbibnobmegpaaSeatA
import Derived.Test.YtnnbibnobmegpaaSeatS
set_option linter.unusedVariables false
set_option linter.unusedSimpArgs false
set_option maxRecDepth 100000
namespace Go.AM
open Go.RowKit
def tInts : Ty := .sl (.int .i64)
def tByt : Ty := .sl (.int .u8)
def tDeal : List Ty := [.int .i64, tInts, .sl tByt, tByt]
theorem wf_u8 {n : Int} (h : (Lit.int .u8 n).wf = true) : 0 ≤ n ∧ n < 256 := by
 simp [Lit.wf, IntKind.min, IntKind.max, IntKind.bits, IntKind.signed] at h
 omega
theorem ints_of {l : List AV} (h : Shape tInts l) : ∃ (v : AV) (L : List Int), l = [v] ∧ Sl 1 L.length (ints L) v ∧ ∀ s ∈ L, i64B s := by
 cases h with
 | nil _ => exact ⟨.nils, [], rfl, .inl ⟨rfl, rfl, rfl⟩, by simp⟩
 | es _ => exact ⟨.es, [], rfl, .inr (.inl ⟨rfl, rfl, rfl⟩), by simp⟩
 | fz _ n m c ls h1 h2 h3 h4 h5 _ =>
  have : ∀ ls : List (List AV), (∀ l ∈ ls, Shape (.int .i64) l) → ∃ L : List Int, ls.flatten = ints L ∧ L.length = ls.length ∧ ∀ s ∈ L, i64B s := by
   intro ls
   induction ls with
   | nil => intro _; exact ⟨[], rfl, rfl, by simp⟩
   | cons l ls ih =>
    intro h
    obtain ⟨L, a, b, c⟩ := ih (fun m hm => h m (by simp [hm]))
    obtain ⟨n, rfl, hw⟩ := shape_int (h l (by simp))
    exact ⟨n :: L, by rw [List.flatten_cons, a]; rfl, by simp [b], fun s hs => by
     rcases List.mem_cons.1 hs with rfl | hs
     ·exact wf_i64 hw
     ·exact c s hs⟩
  obtain ⟨L, a, b, d⟩ := this ls h4
  exact ⟨_, L, rfl, .inr (.inr ⟨c, by rw [a, b, h1], by rw [Nat.mul_one]; unfold ints; rw [List.length_map]⟩), d⟩
theorem bytes_of {l : List AV} (h : Shape tByt l) : ∃ (v : AV) (b : List Nat), l = [v] ∧ BAt v b := by
 cases h with
 | nil _ => exact ⟨.nils, [], rfl, .inl ⟨rfl, rfl, rfl⟩, by simp⟩
 | es _ => exact ⟨.es, [], rfl, .inr (.inl ⟨rfl, rfl, rfl⟩), by simp⟩
 | fz _ n m c ls h1 h2 h3 h4 h5 _ =>
  have : ∀ ls : List (List AV), (∀ l ∈ ls, Shape (.int .u8) l) → ∃ L : List Nat, ls.flatten = bys L ∧ L.length = ls.length ∧ ∀ s ∈ L, s < 256 := by
   intro ls
   induction ls with
   | nil => intro _; exact ⟨[], rfl, rfl, by simp⟩
   | cons l ls ih =>
    intro h
    obtain ⟨L, a, b, c⟩ := ih (fun m hm => h m (by simp [hm]))
    obtain ⟨n, rfl, hw⟩ := shape_int (h l (by simp))
    have hw := wf_u8 hw
    refine ⟨n.toNat :: L, ?_, by simp [b], fun s hs => ?_⟩
    ·rw [List.flatten_cons, a]
     show AV.int .u8 n :: bys L = .int .u8 (Int.ofNat n.toNat) :: bys L
     rw [show Int.ofNat n.toNat = n from Int.toNat_of_nonneg hw.1]
    ·rcases List.mem_cons.1 hs with rfl | hs
     ·omega
     ·exact c s hs
  obtain ⟨L, a, b, d⟩ := this ls h4
  exact ⟨_, L, rfl, .inr (.inr ⟨c, by rw [a, b, h1], by rw [Nat.mul_one, bys_length]⟩), d⟩
theorem blocks_of {l : List AV} (h : Shape (.sl tByt) l) : ∃ (v : AV) (us : List AV) (bs : List (List Nat)), l = [v] ∧ Sl 1 us.length us v ∧ All2 BAt us bs := by
 cases h with
 | nil _ => exact ⟨.nils, [], [], rfl, .inl ⟨rfl, rfl, rfl⟩, .nil⟩
 | es _ => exact ⟨.es, [], [], rfl, .inr (.inl ⟨rfl, rfl, rfl⟩), .nil⟩
 | fz _ n m c ls h1 h2 h3 h4 h5 _ =>
  have : ∀ ls : List (List AV), (∀ l ∈ ls, Shape tByt l) → ∃ (us : List AV) (bs : List (List Nat)), ls.flatten = us ∧ us.length = ls.length ∧ All2 BAt us bs := by
   intro ls
   induction ls with
   | nil => intro _; exact ⟨[], [], rfl, rfl, .nil⟩
   | cons l ls ih =>
    intro h
    obtain ⟨us, bs, a, b, c⟩ := ih (fun m hm => h m (by simp [hm]))
    obtain ⟨v, by_, rfl, hv⟩ := bytes_of (h l (by simp))
    exact ⟨v :: us, by_ :: bs, by rw [List.flatten_cons, a]; rfl, by simp [b], .cons hv c⟩
  obtain ⟨us, bs, a, b, d⟩ := this ls h4
  exact ⟨_, us, bs, rfl, .inr (.inr ⟨c, by rw [a, b, h1], by rw [Nat.mul_one]⟩), d⟩
theorem deal_of {l : List AV} (h : Shapes tDeal l) : ∃ d : DB, d.any ∧ l = d.d.c := by
 obtain ⟨st, b1, rfl, w1, g1⟩ := shapes_int h
 obtain ⟨a2, b2, rfl, s2, g2⟩ := shapes_cons g1
 obtain ⟨a3, b3, rfl, s3, g3⟩ := shapes_cons g2
 obtain ⟨a4, b4, rfl, s4, g4⟩ := shapes_cons g3
 rw [shapes_nil g4]
 obtain ⟨sv, sl, rfl, q1, q2⟩ := ints_of s2
 obtain ⟨bv, us, bs, rfl, q3, q4⟩ := blocks_of s3
 obtain ⟨pv, pb, rfl, q5⟩ := bytes_of s4
 exact ⟨⟨st, sv, sl, bv, us, bs, pv, pb⟩, ⟨wf_i64 w1, q1, q2, q3, q4, q5⟩, rfl⟩
end Go.AM
set_option maxRecDepth 100000
namespace Go.AM
open X
theorem bytesAt_S {s : St} {v : AV} {bs : List Nat} (h : Sl 1 bs.length (bys bs) v) (hb : ∀ b ∈ bs, b < 256) : bytesAt s v = some bs := by
 rcases h with ⟨rfl, h0, _⟩ | ⟨rfl, h0, _⟩ | ⟨c, rfl, _⟩
 ·rw [List.length_eq_zero_iff.1 h0]; rfl
 ·rw [List.length_eq_zero_iff.1 h0]; rfl
 ·exact bytesAt_fz rfl hb
theorem takeO_good {s : St} {v : AV} {bs : List Nat} {a z : Int} (h : bytesAt s v = some bs) (hl : ¬ (bs.length ≠ 0 ∧ bs.length ≠ 128)) (hf : fitsB a z = true) : takeO [v, .int .i64 a, .int .i64 z] s = .ok (.tup [.int .i64 (num (pad bs) a.toNat z.toNat : Nat), .int .i64 0]) s := by
 show (Option.rec .fail (fun bs => .ok (takeV bs a z) s) (bytesAt s v) : RV) = _
 rw [h]
 show RV.ok (takeV bs a z) s = _
 unfold takeV; rw [if_neg hl, if_pos hf]; rfl
theorem num_lt {bs : List Nat} {a : Nat} (hb : ∀ b ∈ bs, b < 256) : ∀ j, num bs a j < 2 ^ (8 * j)
 | 0 => Nat.zero_lt_one
 | j + 1 => by
  have hlt : bs.getD (a + j) 0 < 256 := by
   rw [List.getD_eq_getElem?_getD]
   cases hq : bs[a + j]? with
   | none => decide
   | some q => exact hb q (List.mem_of_getElem? hq)
  have e8 : 8 * (j + 1) = 8 * j + 8 := by omega
  refine Nat.or_lt_two_pow (Nat.lt_of_lt_of_le (num_lt hb j) (Nat.pow_le_pow_right (by decide) (by omega))) ?_
  rw [e8, Nat.pow_add, Nat.mul_comm]
  exact Nat.mul_lt_mul_of_pos_left hlt (Nat.two_pow_pos _)
theorem pad_lt {bs : List Nat} (hb : ∀ b ∈ bs, b < 256) : ∀ b ∈ pad bs, b < 256 := by
 unfold pad
 split
 ·intro b hb'; rw [List.eq_of_mem_replicate hb']; decide
 ·exact hb
theorem putN_getD (bs : List Nat) (a n : Nat) : ∀ (k i : Nat), (putN bs a n k).getD i 0 = if a ≤ i ∧ i < a + k ∧ i < bs.length then n / 2 ^ (8 * (i - a)) % 256 else bs.getD i 0
 | 0, i => by rw [if_neg (by omega)]; rfl
 | k + 1, i => by
  have ih := putN_getD bs a n k i
  show ((putN bs a n k).set (a + k) (n / 2 ^ (8 * k) % 256)).getD i 0 = _
  rw [List.getD_eq_getElem?_getD, List.getElem?_set, putN_length]
  by_cases h : a + k = i
  ·subst h
   rw [if_pos rfl]
   by_cases hl : a + k < bs.length
   ·rw [if_pos hl, if_pos ⟨by omega, by omega, hl⟩, show a + k - a = k by omega]; rfl
   ·rw [if_neg hl, if_neg (by omega), List.getD_eq_getElem?_getD, List.getElem?_eq_none (by omega)]
  ·rw [if_neg h, ← List.getD_eq_getElem?_getD, ih]
   by_cases h2 : a ≤ i ∧ i < a + k ∧ i < bs.length
   ·rw [if_pos h2, if_pos ⟨h2.1, by omega, h2.2.2⟩]
   ·rw [if_neg h2, if_neg (by omega)]
theorem num_bytes {bs : List Nat} {a n : Nat} : ∀ (k : Nat), (∀ j, j < k → bs.getD (a + j) 0 = n / 2 ^ (8 * j) % 256) → num bs a k = n % 2 ^ (8 * k)
 | 0, _ => by rw [Nat.mul_zero, Nat.pow_zero, Nat.mod_one]; rfl
 | k + 1, h => by
  show num bs a k ||| bs.getD (a + k) 0 * 2 ^ (8 * k) = _
  rw [num_bytes k (fun j hj => h j (by omega)), h k (by omega), Nat.or_comm, Nat.mul_comm (n / 2 ^ (8 * k) % 256), ← Nat.two_pow_add_eq_or_of_lt (Nat.mod_lt _ (Nat.two_pow_pos _)), show 8 * (k + 1) = 8 * k + 8 by omega, Nat.pow_add, Nat.mod_mul, Nat.add_comm]
theorem num_put {bs : List Nat} {a n k : Nat} (hl : a + k ≤ bs.length) (hn : n < 2 ^ (8 * k)) : num (putN bs a n k) a k = n := by
 rw [num_bytes (n := n) k (fun j hj => ?_), Nat.mod_eq_of_lt hn]
 rw [putN_getD, if_pos ⟨by omega, by omega, by omega⟩, show a + j - a = j by omega]
theorem num_congr {bs cs : List Nat} {a : Nat} : ∀ (k : Nat), (∀ j, j < k → bs.getD (a + j) 0 = cs.getD (a + j) 0) → num bs a k = num cs a k
 | 0, _ => rfl
 | k + 1, h => by
  show num bs a k ||| bs.getD (a + k) 0 * 2 ^ (8 * k) = num cs a k ||| cs.getD (a + k) 0 * 2 ^ (8 * k)
  rw [num_congr k (fun j hj => h j (by omega)), h k (by omega)]
theorem num_skip {bs : List Nat} {a b n k m : Nat} (h : b + m ≤ a ∨ a + k ≤ b) : num (putN bs a n k) b m = num bs b m :=
 num_congr m fun j hj => by rw [putN_getD, if_neg (by omega)]
end Go.AM
set_option maxRecDepth 100000
namespace Go.AM
attribute [local irreducible] W
open X
structure UB where
 u : AV
 b : List Nat
structure UB.ok (x : UB) : Prop where
 b : BAt x.u x.b
 l : x.b.length = 0 ∨ x.b.length = 128
def rdCnt (B : List Nat) : Nat := min (num B 14 1) 17
def rdRec (B : List Nat) (i : Nat) : Rc := ⟨(num B (15 + 6 * i) 1 : Int), decide ((num B (16 + 6 * i) 1 : Int) = 1), (num B (17 + 6 * i) 4 : Int)⟩
def rdRecs (B : List Nat) (n : Nat) : List Rc := (List.range n).map (rdRec B)
def rdNote (B : List Nat) : Nt := ⟨(num B 1 4 : Int), (num B 5 4 : Int), (num B 9 4 : Int), (num B 13 1 : Int), .nils, rdRecs B (rdCnt B)⟩
def rdGood (b : List Nat) : Bool := noteB (rdNote (pad b)) && decide (noteBk (rdNote (pad b)) = b)
def zNote : List AV := [.int .u32 0, .int .u32 0, .int .u32 0, .int .i64 0, .nils]
def ntC (n : Nt) (v : AV) : List AV := [.int .u32 n.id, .int .u32 n.age, .int .u32 n.seq, .int .i64 n.stripe, v]
def ndOut (x : UB) : AV := if rdGood x.b = true then .tup [.agg (ntC (rdNote (pad x.b)) (.fz (rdCnt (pad x.b)) none (rcs (rdNote (pad x.b)).recs))), .int .i64 0] else .tup [.agg zNote, .int .i64 90]
def ndF : Fam UB := ⟨UB.ok, fun x => [x.u], ndOut, fun x y hx hy h => by
 obtain ⟨u, b⟩ := x
 obtain ⟨u', b'⟩ := y
 have e : u = u' := (List.cons.inj h).1
 subst e
 have := hx.b.inj hy.b
 dsimp only at this
 rw [this]⟩
theorem hf_ndOut (x : UB) : AM.hf (ndOut x) = true := by unfold ndOut; split <;> rfl
def code52 : AC := match a52 with | .mk c _ => c
def code99 : AC := match a99 with | .mk c _ => c
def asgR : AC := match rngIn code52 with | some (a, _) => a | none => .skip
def bodyR : AC := match rngIn code52 with | some (_, b) => b | none => .skip
def rest52 : AC := match code52 with
 | .seq _ (.seq _ (.seq _ (.seq _ (.seq _ (.seq _ (.seq _ (.seq _ (.seq _ r)))))))) => r
 | _ => .skip
def tlR (u : AV) : List (Nat × AV) := [(0, u), (2, .ptr 0 0), (6, .ptr 2 0), (7, .ptr 3 0), (43, .fn 142 [] [.ptr 4 0])]
noncomputable def osR (u : AV) (at_ : Int) (id ag sq st : Int) (n : Nat) (R : List Rc) : Nat → List AObj
 | 0 => [.row 101 zNote, .row 167 [u, .int .i64 at_], .row 164 [.fn 99 [.ptr 1 0] []], .row 101 [.int .u32 id, .int .u32 ag, .int .u32 sq, .int .i64 st, .nils], .row 3 [.int .i64 (n : Int)], .defd, .loop .ready none 0 (ofL (tlR u)) [44, 45] asgR bodyR 5]
 | i + 1 => [.row 101 zNote, .row 167 [u, .int .i64 at_], .row 164 [.fn 99 [.ptr 1 0] []], .row 101 [.int .u32 id, .int .u32 ag, .int .u32 sq, .int .i64 st, .sl 7 0 (i + 1) none], .row 3 [.int .i64 (n : Int)], .defd, .loop .ready none 0 (ofL (tlR u)) [44, 45] asgR bodyR 5, .row 123 (rcs R)]
def recV (n : Nat) (R : List Rc) : AV := match n with
 | 0 => .nils
 | n + 1 => .fz (n + 1) none (rcs R)
theorem nd_rest {P : Program} {e : Env} (hE : EnvOk P e) (hm : P.follows .mixedOrders = true) (h90 : Con e 90 nwF.O) {u : AV} {b : List Nat} (hb : BAt u b) (hl : b.length = 0 ∨ b.length = 128) (K : AV → St → Prop) (hk : ∀ s, K (ndOut ⟨u, b⟩) s) :
 W P 0 none rest52 (ofL [(0, u), (2, .ptr 0 0), (7, .ptr 1 0)]) (allocs St0 [.row 101 zNote, .row 101 (ntC (rdNote (pad b)) (recV (rdCnt (pad b)) (rdNote (pad b)).recs)), .defd]) [2] (Ends [.cells 2 5, .tmp 3] K) := by
 have hpl := pad_lt hb.2
 have n4 : ∀ a, num (pad b) a 4 < 4294967296 := fun a => num_lt hpl 4
 have n1 : ∀ a, num (pad b) a 1 < 256 := fun a => num_lt hpl 1
 obtain ⟨R, hR⟩ : ∃ R, R = (rdNote (pad b)).recs := ⟨_, rfl⟩
 have hRl : R.length = rdCnt (pad b) := by rw [hR]; show ((List.range _).map _).length = _; simp
 have hcnt : rdCnt (pad b) ≤ 17 := Nat.min_le_right _ _
 obtain ⟨v, hv⟩ : ∃ v, v = recV (rdCnt (pad b)) R := ⟨_, rfl⟩
 have hvs : Sl 3 R.length (rcs R) v := by
  rw [hv, ← hRl]
  cases hq : R with
  | nil => exact .inl ⟨rfl, rfl, rfl⟩
  | cons r R' => exact .inr (.inr ⟨none, rfl, rcs_length _⟩)
 have hok : Nt.ok ⟨(rdNote (pad b)).id, (rdNote (pad b)).age, (rdNote (pad b)).seq, (rdNote (pad b)).stripe, v, R⟩ := by
  refine ⟨⟨Int.natCast_nonneg _, Int.ofNat_lt.2 (n4 1)⟩, ⟨Int.natCast_nonneg _, Int.ofNat_lt.2 (n4 5)⟩, ⟨Int.natCast_nonneg _, Int.ofNat_lt.2 (n4 9)⟩, ?_, hvs, ?_, by dsimp only; omega⟩
  ·have := n1 13
   show i64B ((num (pad b) 13 1 : Nat) : Int)
   unfold i64B; omega
  ·intro r hr
   dsimp only at hr
   rw [hR] at hr
   obtain ⟨i, _, rfl⟩ := List.mem_map.1 (show r ∈ (List.range (rdCnt (pad b))).map (rdRec (pad b)) from hr)
   exact ⟨⟨Int.natCast_nonneg _, Int.ofNat_lt.2 (n1 _)⟩, ⟨Int.natCast_nonneg _, Int.ofNat_lt.2 (n4 _)⟩⟩
 have hnb : noteB ⟨(rdNote (pad b)).id, (rdNote (pad b)).age, (rdNote (pad b)).seq, (rdNote (pad b)).stripe, v, R⟩ = noteB (rdNote (pad b)) := by rw [hR]; rfl
 have hnk : noteBk ⟨(rdNote (pad b)).id, (rdNote (pad b)).age, (rdNote (pad b)).seq, (rdNote (pad b)).stripe, v, R⟩ = noteBk (rdNote (pad b)) := by
  rw [hR]
  exact noteBk_v _ _ _ _ _ _ _
 have hvf := hvs.hf
 have hbk : (noteBk (rdNote (pad b))).length = 128 ∧ ∀ x ∈ noteBk (rdNote (pad b)), x < 256 := by
  unfold noteBk
  exact ⟨by rw [putN_length]; exact noteI_length _ _, putN_lt (noteI_lt _ _) _⟩
 rw [← hR, ← hv]
 have hO1 : noteB (rdNote (pad b)) = true → noteBk (rdNote (pad b)) = b → ndOut ⟨u, b⟩ = .tup [.agg (ntC (rdNote (pad b)) v), .int .i64 0] := fun h1 h2 => by
  have : rdGood b = true := by unfold rdGood; rw [h1, decide_eq_true h2]; rfl
  unfold ndOut; rw [if_pos this]
  show AV.tup [.agg (ntC (rdNote (pad b)) (.fz (rdCnt (pad b)) none (rcs (rdNote (pad b)).recs))), _] = _
  rw [hv, ← hR]
  have h3 : 1 ≤ rdCnt (pad b) := by
   unfold noteB headB at h1
   rw [Bool.and_eq_true] at h1
   have := (of_decide_eq_true h1.1).1.1
   rw [← hR, hRl] at this; exact this
  cases hq : rdCnt (pad b) with
  | zero => omega
  | succ n => rfl
 have hO2 : (noteB (rdNote (pad b)) = true → noteBk (rdNote (pad b)) ≠ b) → ndOut ⟨u, b⟩ = .tup [.agg zNote, .int .i64 90] := fun h1 => by
  have : ¬ rdGood b = true := by
   unfold rdGood
   rw [Bool.and_eq_true]
   rintro ⟨h2, h3⟩
   exact h1 h2 (of_decide_eq_true h3)
  unfold ndOut; rw [if_neg this]
 clear hv hR
 refine W.endV hE hm ?_; conv => whnf
 cases hN : noteB (rdNote (pad b))
 ·refine ESc.fam nwF h90 ⟨(rdNote (pad b)).id, (rdNote (pad b)).age, (rdNote (pad b)).seq, (rdNote (pad b)).stripe, v, R⟩ hok (u := .tup [.nils, .int .i64 8]) (by show (if noteB _ then _ else _) = _; rw [hnb, hN]; rfl) ?_
  rw [hO2 (fun h => by rw [hN] at h; cases h)] at hk
  conv => whnf
  repeat' (first | ((refine w6 rfl rfl ?_ ?_) <;> intro _ <;> first | (exfalso; omega) | (conv => whnf)) | fail)
  exact hk _
 ·refine ESc.fam nwF h90 ⟨(rdNote (pad b)).id, (rdNote (pad b)).age, (rdNote (pad b)).seq, (rdNote (pad b)).stripe, v, R⟩ hok (u := .tup [blkV (noteBk (rdNote (pad b))), .int .i64 0]) (by show (if noteB _ then _ else _) = _; rw [hnb, hN, if_pos rfl, ← hnk]; rfl) ?_; conv => whnf
  repeat' (first | ((refine w6 rfl rfl ?_ ?_) <;> intro _ <;> first | (exfalso; omega) | (conv => whnf)) | fail)
  refine EPrim.b2sS (bs := noteBk (rdNote (pad b))) rfl (.inr (.inr ⟨some 128, rfl, by rw [bys_length, hbk.1]⟩)) hbk.2 ?_; conv => whnf
  refine EPrim.b2sS (bs := b) rfl hb.1 hb.2 ?_; conv => whnf
  refine EPrim.neqStr rfl rfl (fun h => ?_) (fun h => ?_)
  ·rw [hO2 (fun _ => h)] at hk
   conv => whnf
   skip
   exact hk _
  ·rw [hO1 hN h] at hk
   conv => whnf
   skip
   exact hk _
theorem ndF_ok {P : Program} {e : Env} {fn fn' : Func} (hE : EnvOk P e) (hm : P.follows .mixedOrders = true) (h86 : Con e 86 takeO) (h99 : Inl e 99 code99 [.tmp 4]) (h100 : Inl e 100 code100 [.tmp 2]) (h90 : Con e 90 nwF.O)
 (hf' : P.funcs[142]? = some fn') (hc' : compF P fn' = some a142) (hb' : HasBody P 142) (hf : P.funcs[52]? = some fn) (hc : compF P fn = some a52) (hb0 : HasBody P 52) : OvOk P 52 ndF.O := by
 refine Fam.ok_of hb0 fun x hx => ?_
 obtain ⟨u, b⟩ := x
 obtain ⟨hb, hl⟩ := hx
 dsimp only at hb hl
 have huf := hb.1.hf
 have hl' : ¬ (b.length ≠ 0 ∧ b.length ≠ 128) := by omega
 refine ⟨by show (AM.hf u && true) = true; rw [huf]; rfl, hf_ndOut _, C.of_W hf hc ?_⟩
 have hpl := pad_lt hb.2
 have n4 : ∀ a, num (pad b) a 4 < 4294967296 := fun a => num_lt hpl 4
 have n1 : ∀ a, num (pad b) a 1 < 256 := fun a => num_lt hpl 1
 obtain ⟨O, hO⟩ : ∃ O, O = ndOut ⟨u, b⟩ := ⟨_, rfl⟩
 show W P 0 none code52 (initT [u] 0 .lf) St0 [] (Ends [.cells 2 5, .tmp 3] (fun v s' => Frz s' v (ndOut ⟨u, b⟩)))
 have hres := nd_rest hE hm h90 hb hl (fun v s' => Frz s' v (ndOut ⟨u, b⟩)) (fun s => .plain _ (hf_ndOut _))
 refine W.seqV hE hm ?_; conv => whnf
 refine W.seqV hE hm ?_; conv => whnf
 refine ESc.ov h86 (takeO_good (a := 0) (z := 1) (bytesAt_S hb.1 hb.2) hl' (by decide)) ?_; conv => whnf
 repeat' (first | ((refine w6 rfl rfl ?_ ?_) <;> intro _ <;> first | (exfalso; omega) | (conv => whnf)) | fail)
 refine W.seqV hE hm ?_; conv => whnf
 refine stuckO [u, .int .i64 1] (by rcases hb.1 with ⟨rfl, _⟩ | ⟨rfl, _⟩ | ⟨c, rfl, _⟩ <;> rfl) ?_
 conv => whnf
 refine W.seqV hE hm ?_; conv => whnf
 refine W.seqV hE hm ?_; conv => whnf
 refine ECall.inl h99.O h99.G ?_; conv => whnf
 refine ESc.ov h86 (takeO_good (a := 1) (z := 4) (bytesAt_S hb.1 hb.2) hl' (by unfold fitsB; exact decide_eq_true (by omega))) ?_; conv => whnf
 refine EPrim.addS (a := 1) (b := 4) rfl rfl (by omega) ?_; conv => whnf
 repeat' (first | (refine EPrim.cviZ (q' := .u32) rfl (u32_in ⟨Int.natCast_nonneg _, by have := n4 (1 : Int).toNat; exact Int.ofNat_lt.2 this⟩) ?_; conv => whnf) | fail)
 refine W.seqV hE hm ?_; conv => whnf
 refine ECall.inl h99.O h99.G ?_; conv => whnf
 refine ESc.ov h86 (takeO_good (a := 1 + 4) (z := 4) (bytesAt_S hb.1 hb.2) hl' (by unfold fitsB; exact decide_eq_true (by omega))) ?_; conv => whnf
 refine EPrim.addS (a := 1 + 4) (b := 4) rfl rfl (by omega) ?_; conv => whnf
 repeat' (first | (refine EPrim.cviZ (q' := .u32) rfl (u32_in ⟨Int.natCast_nonneg _, by have := n4 (1 + 4 : Int).toNat; exact Int.ofNat_lt.2 this⟩) ?_; conv => whnf) | fail)
 refine W.seqV hE hm ?_; conv => whnf
 refine ECall.inl h99.O h99.G ?_; conv => whnf
 refine ESc.ov h86 (takeO_good (a := 1 + 4 + 4) (z := 4) (bytesAt_S hb.1 hb.2) hl' (by unfold fitsB; exact decide_eq_true (by omega))) ?_; conv => whnf
 refine EPrim.addS (a := 1 + 4 + 4) (b := 4) rfl rfl (by omega) ?_; conv => whnf
 repeat' (first | (refine EPrim.cviZ (q' := .u32) rfl (u32_in ⟨Int.natCast_nonneg _, by have := n4 (1 + 4 + 4 : Int).toNat; exact Int.ofNat_lt.2 this⟩) ?_; conv => whnf) | fail)
 refine W.seqV hE hm ?_; conv => whnf
 refine ECall.inl h99.O h99.G ?_; conv => whnf
 refine ESc.ov h86 (takeO_good (a := 1 + 4 + 4 + 4) (z := 1) (bytesAt_S hb.1 hb.2) hl' (by unfold fitsB; exact decide_eq_true (by omega))) ?_; conv => whnf
 refine EPrim.addS (a := 1 + 4 + 4 + 4) (b := 1) rfl rfl (by omega) ?_; conv => whnf
 skip
 refine W.seqV hE hm ?_; conv => whnf
 refine ECall.inl h99.O h99.G ?_; conv => whnf
 refine ESc.ov h86 (takeO_good (a := 1 + 4 + 4 + 4 + 1) (z := 1) (bytesAt_S hb.1 hb.2) hl' (by unfold fitsB; exact decide_eq_true (by omega))) ?_; conv => whnf
 refine EPrim.addS (a := 1 + 4 + 4 + 4 + 1) (b := 1) rfl rfl (by omega) ?_; conv => whnf
 obtain ⟨B, hB⟩ : ∃ B, B = pad b := ⟨_, rfl⟩
 have hmin : min ((num (pad b) (1 + 4 + 4 + 4 + 1 : Int).toNat (1 : Int).toNat : Nat) : Int) 17 = ((rdCnt (pad b) : Nat) : Int) := by
  show min ((num (pad b) 14 1 : Nat) : Int) 17 = ((min (num (pad b) 14 1) 17 : Nat) : Int)
  omega
 repeat' (first | (refine EPrim.min2 rfl ?_; rw [hmin]; conv => whnf) | fail)
 have hcnt : rdCnt (pad b) ≤ 17 := Nat.min_le_right _ _
 refine ESc.inl h100 ?_; conv => whnf
 have hrf : ∀ a : Int, hfs [u, .int .i64 a] = true := fun a => by show (AM.hf u && true) = true; rw [huf]; rfl
 refine W.tells (Abs.tells (tl := tlR u) (os := [.row 101 zNote, .row 167 [u, .int .i64 15], .row 164 [.fn 99 [.ptr 1 0] []], .row 101 [.int .u32 (num (pad b) 1 4 : Int), .int .u32 (num (pad b) 5 4 : Int), .int .u32 (num (pad b) 9 4 : Int), .int .i64 (num (pad b) 13 1 : Int), .nils], .row 3 [.int .i64 (rdCnt (pad b) : Int)]]) (rs := [0, 1, 2, 3, 4])
  ⟨by decide, ⟨⟨hf_bd _ huf, by rw [hf_mapV _ huf]; rfl⟩, ⟨rfl, rfl⟩, ⟨rfl, rfl⟩, ⟨rfl, rfl⟩, ⟨rfl, rfl⟩, trivial⟩, ⟨⟨rfl, rfl⟩, ⟨rowH (hrf _), by rw [mapRowH (hrf _)]; rfl⟩, ⟨rfl, rfl⟩, ⟨rfl, rfl⟩, ⟨rfl, rfl⟩, trivial⟩⟩) ?_
 refine W.rngI (f := 142) (first := []) (cap := [.ptr 4 0]) hb' rfl ?_ ?_
 ·intro q hq
  have hq : q < 5 := hq
  rcases q with _ | _ | _ | _ | _ | q
  ·exact .tmp 2 (.ptr 0 0) rfl rfl
  ·exact .cell 2 164 [.fn 99 [.ptr 1 0] []] 0 (.fn 99 [.ptr 1 0] []) (.tmp 6 (.ptr 2 0) rfl rfl) rfl rfl rfl
  ·exact .tmp 6 (.ptr 2 0) rfl rfl
  ·exact .tmp 7 (.ptr 3 0) rfl rfl
  ·exact .tmp 43 (.fn 142 [] [.ptr 4 0]) rfl rfl
  ·omega
 show C1 P 142 [.yld 6, .ptr 4 0] (allocs St0 (osR u 15 (num (pad b) 1 4 : Int) (num (pad b) 5 4 : Int) (num (pad b) 9 4 : Int) (num (pad b) 13 1 : Int) (rdCnt (pad b)) [] 0)) (fun _ s' => RngOut 6 [5] (ofL (tlR u)) s' _)
 refine C1.of_V hE hm hf' hc' ?_; conv => whnf
 have hlb : ∀ n, bdO 7 n (.loop .ready none 0 (ofL (tlR u)) [44, 45] asgR bodyR 5) = true := fun n => by rcases hb.1 with ⟨rfl, _⟩ | ⟨rfl, _⟩ | ⟨c, rfl, _⟩ <;> rfl
 refine W.loopT (k := 7) (α := Nat) (fun i => [(0, .yld 6), (1, .ptr 4 0), (3, .int .i64 (i : Int))]) (fun i => osR u (15 + 6 * (i : Int)) (num (pad b) 1 4 : Int) (num (pad b) 5 4 : Int) (num (pad b) 9 4 : Int) (num (pad b) 13 1 : Int) (rdCnt (pad b)) (rdRecs (pad b) i) i) (fun i => rdCnt (pad b) - i) (fun i => i ≤ rdCnt (pad b)) 0 (Nat.zero_le _)
  (AbsK.tells (rs := [0, 1, 2, 3, 4, 5, 6]) ⟨rfl, by decide, ⟨⟨rfl, rfl⟩, ⟨rfl, rfl⟩, ⟨rfl, rfl⟩, trivial⟩, ⟨⟨rfl, rfl⟩, ⟨rowH (hrf _), by rw [mapRowH (hrf _)]; rfl⟩, ⟨rfl, rfl⟩, ⟨rfl, rfl⟩, ⟨rfl, rfl⟩, ⟨rfl, rfl⟩, ⟨hlb _, rfl⟩, trivial⟩⟩) ?_
 intro i hi
 refine vw_sound hE hm ?_
 by_cases hlt : i < rdCnt (pad b)
 ·have t1 : (15 + 6 * (i : Int)).toNat = 15 + 6 * i := by omega
  have t2 : (15 + 6 * (i : Int) + 1).toNat = 16 + 6 * i := by omega
  have t3 : (15 + 6 * (i : Int) + 1 + 1).toNat = 17 + 6 * i := by omega
  have hrs : rdRecs (pad b) (i + 1) = rdRecs (pad b) i ++ [rdRec (pad b) i] := by unfold rdRecs; rw [List.range_succ, List.map_append]; rfl
  have hrl : (rdRecs (pad b) i).length = i := by unfold rdRecs; simp
  have u1 := n1 (15 + 6 * i)
  have u2 := n1 (16 + 6 * i)
  have u3 := n4 (17 + 6 * i)
  rcases i with _ | i
  ·conv => whnf
   refine EPrim.lss2 rfl rfl (fun _ => ?_) (fun h => by omega); conv => whnf
   refine EPrim.mulS (a := 6) (b := ((0 : Nat) : Int)) rfl rfl (by omega) ?_; conv => whnf
   refine EPrim.addS (a := 15) (b := 6 * ((0 : Nat) : Int)) rfl rfl (by omega) ?_; conv => whnf
   refine ERound.mk ?_; conv => whnf
   refine ECall.inl h99.O h99.G ?_; conv => whnf
   refine ESc.ov h86 (takeO_good (a := 15 + 6 * ((0 : Nat) : Int)) (z := 1) (bytesAt_S hb.1 hb.2) hl' (by unfold fitsB; exact decide_eq_true (by omega))) ?_; conv => whnf
   refine EPrim.addS (a := 15 + 6 * ((0 : Nat) : Int)) (b := 1) rfl rfl (by omega) ?_; conv => whnf
   refine ECall.inl h99.O h99.G ?_; conv => whnf
   refine ESc.ov h86 (takeO_good (a := 15 + 6 * ((0 : Nat) : Int) + 1) (z := 1) (bytesAt_S hb.1 hb.2) hl' (by unfold fitsB; exact decide_eq_true (by omega))) ?_; conv => whnf
   refine EPrim.addS (a := 15 + 6 * ((0 : Nat) : Int) + 1) (b := 1) rfl rfl (by omega) ?_; conv => whnf
   rw [t1, t2]
   skip
   refine EPrim.cviZ (q' := .u8) (a := ((num (pad b) (15 + 6 * (0)) 1 : Nat) : Int)) rfl (u8_in (by omega)) ?_; conv => whnf
   refine EPrim.eql (a := ((num (pad b) (16 + 6 * (0)) 1 : Nat) : Int)) (b := 1) rfl rfl (fun q hq => ?_)
   obtain rfl : decide (((num (pad b) (16 + 6 * (0)) 1 : Nat) : Int) = 1) = q := by
    cases q with
    | true => exact decide_eq_true (hq.1 rfl)
    | false => exact decide_eq_false (fun h => by have := hq.2 h; cases this)
   conv => whnf
   refine ECall.inl h99.O h99.G ?_; conv => whnf
   refine ESc.ov h86 (takeO_good (a := 15 + 6 * ((0 : Nat) : Int) + 1 + 1) (z := 4) (bytesAt_S hb.1 hb.2) hl' (by unfold fitsB; exact decide_eq_true (by omega))) ?_; conv => whnf
   refine EPrim.addS (a := 15 + 6 * ((0 : Nat) : Int) + 1 + 1) (b := 4) rfl rfl (by omega) ?_; conv => whnf
   rw [t3]
   repeat' (first | (refine ⟨rfl, ?_⟩; conv => whnf) | fail)
   refine EPrim.cviZ (q' := .u32) (a := ((num (pad b) (17 + 6 * (0)) 4 : Nat) : Int)) rfl (u32_in (by omega)) ?_; conv => whnf
   refine EPrim.appNil (m := 1) rfl rfl rfl rfl (by decide) (by decide) ?_; conv => whnf
   repeat' (first | ((first | refine w7 rfl rfl (by omega) ?_ | refine ⟨rfl, ?_⟩); conv => whnf) | fail)
   refine ⟨0 + 1, by omega, by omega, AbsK.tells (rs := [0, 1, 2, 3, 4, 5, 6, 8]) ⟨rfl, by decide, ⟨⟨rfl, rfl⟩, ⟨rfl, rfl⟩, ⟨rfl, rfl⟩, trivial⟩, ⟨⟨rfl, rfl⟩, ⟨rowH (hrf _), ?_⟩, ⟨rfl, rfl⟩, ⟨rfl, rfl⟩, ⟨rfl, rfl⟩, ⟨rfl, rfl⟩, ⟨hlb _, rfl⟩, ⟨rowH (hfs_rcs _), ?_⟩, trivial⟩⟩⟩
   ·rw [mapRowH (hrf _)]
    show _ = some (AObj.row 167 [u, .int .i64 (15 + 6 * ((0 + 1 : Nat) : Int))])
    rw [show (15 + 6 * ((0 + 1 : Nat) : Int)) = 15 + 6 * ((0 : Nat) : Int) + 1 + 1 + 4 by omega]; rfl
   ·rw [mapRowH (hfs_rcs _), hrs, rcs_append]; rfl
  ·conv => whnf
   refine EPrim.lss2 rfl rfl (fun _ => ?_) (fun h => by omega); conv => whnf
   refine EPrim.mulS (a := 6) (b := ((i + 1 : Nat) : Int)) rfl rfl (by omega) ?_; conv => whnf
   refine EPrim.addS (a := 15) (b := 6 * ((i + 1 : Nat) : Int)) rfl rfl (by omega) ?_; conv => whnf
   refine ERound.mk ?_; conv => whnf
   refine ECall.inl h99.O h99.G ?_; conv => whnf
   refine ESc.ov h86 (takeO_good (a := 15 + 6 * ((i + 1 : Nat) : Int)) (z := 1) (bytesAt_S hb.1 hb.2) hl' (by unfold fitsB; exact decide_eq_true (by omega))) ?_; conv => whnf
   refine EPrim.addS (a := 15 + 6 * ((i + 1 : Nat) : Int)) (b := 1) rfl rfl (by omega) ?_; conv => whnf
   refine ECall.inl h99.O h99.G ?_; conv => whnf
   refine ESc.ov h86 (takeO_good (a := 15 + 6 * ((i + 1 : Nat) : Int) + 1) (z := 1) (bytesAt_S hb.1 hb.2) hl' (by unfold fitsB; exact decide_eq_true (by omega))) ?_; conv => whnf
   refine EPrim.addS (a := 15 + 6 * ((i + 1 : Nat) : Int) + 1) (b := 1) rfl rfl (by omega) ?_; conv => whnf
   rw [t1, t2]
   skip
   refine EPrim.cviZ (q' := .u8) (a := ((num (pad b) (15 + 6 * (i + 1)) 1 : Nat) : Int)) rfl (u8_in (by omega)) ?_; conv => whnf
   refine EPrim.eql (a := ((num (pad b) (16 + 6 * (i + 1)) 1 : Nat) : Int)) (b := 1) rfl rfl (fun q hq => ?_)
   obtain rfl : decide (((num (pad b) (16 + 6 * (i + 1)) 1 : Nat) : Int) = 1) = q := by
    cases q with
    | true => exact decide_eq_true (hq.1 rfl)
    | false => exact decide_eq_false (fun h => by have := hq.2 h; cases this)
   conv => whnf
   refine ECall.inl h99.O h99.G ?_; conv => whnf
   refine ESc.ov h86 (takeO_good (a := 15 + 6 * ((i + 1 : Nat) : Int) + 1 + 1) (z := 4) (bytesAt_S hb.1 hb.2) hl' (by unfold fitsB; exact decide_eq_true (by omega))) ?_; conv => whnf
   refine EPrim.addS (a := 15 + 6 * ((i + 1 : Nat) : Int) + 1 + 1) (b := 4) rfl rfl (by omega) ?_; conv => whnf
   rw [t3]
   repeat' (first | (refine ⟨rfl, ?_⟩; conv => whnf) | fail)
   refine EPrim.cviZ (q' := .u32) (a := ((num (pad b) (17 + 6 * (i + 1)) 4 : Nat) : Int)) rfl (u32_in (by omega)) ?_; conv => whnf
   refine EPrim.appU (m := 1) rfl rfl rfl rfl (by rw [rcs_length, hrl]) rfl (by decide) (by omega) ?_; conv => whnf
   repeat' (first | ((first | refine w7 rfl rfl (by omega) ?_ | refine ⟨rfl, ?_⟩); conv => whnf) | fail)
   refine ⟨i + 1 + 1, by omega, by omega, AbsK.tells (rs := [0, 1, 2, 3, 4, 5, 6, 9]) ⟨rfl, by decide, ⟨⟨rfl, rfl⟩, ⟨rfl, rfl⟩, ⟨rfl, rfl⟩, trivial⟩, ⟨⟨rfl, rfl⟩, ⟨rowH (hrf _), ?_⟩, ⟨rfl, rfl⟩, ⟨rfl, rfl⟩, ⟨rfl, rfl⟩, ⟨rfl, rfl⟩, ⟨hlb _, rfl⟩, ⟨rowH (hfs_rcs _), ?_⟩, trivial⟩⟩⟩
   ·rw [mapRowH (hrf _)]
    show _ = some (AObj.row 167 [u, .int .i64 (15 + 6 * ((i + 1 + 1 : Nat) : Int))])
    rw [show (15 + 6 * ((i + 1 + 1 : Nat) : Int)) = 15 + 6 * ((i + 1 : Nat) : Int) + 1 + 1 + 4 by omega]; rfl
   ·rw [mapRowH (hfs_rcs _), hrs, rcs_append]; rfl
 ·have hie : i = rdCnt (pad b) := by omega
  have hN : rdNote (pad b) = ⟨(num (pad b) 1 4 : Int), (num (pad b) 5 4 : Int), (num (pad b) 9 4 : Int), (num (pad b) 13 1 : Int), .nils, rdRecs (pad b) (rdCnt (pad b))⟩ := rfl
  rcases i with _ | i
  ·rw [hN, ← hie] at hres
   conv => whnf
   refine EPrim.lss2 rfl rfl (fun h => by omega) (fun _ => ?_); conv => whnf
   refine W.tells (AbsD.tells (tl := [(0, u), (2, .ptr 0 0), (7, .ptr 1 0)]) (os := [.row 101 zNote, .row 101 [.int .u32 (num (pad b) 1 4 : Int), .int .u32 (num (pad b) 5 4 : Int), .int .u32 (num (pad b) 9 4 : Int), .int .i64 (num (pad b) 13 1 : Int), .nils], .defd]) (rs := [0, 3, 5]) (ds2 := [2]) ⟨⟨rfl, by decide, ⟨⟨hf_bd _ huf, by rw [hf_mapV _ huf]; rfl⟩, ⟨rfl, rfl⟩, ⟨rfl, rfl⟩, trivial⟩, ⟨⟨rfl, rfl⟩, ⟨rfl, rfl⟩, ⟨rfl, rfl⟩, trivial⟩⟩, rfl, by intro d hd; simp at hd; subst hd; show 2 < 3; decide⟩) hres
  ·rw [hN, ← hie] at hres
   conv => whnf
   refine EPrim.lss2 rfl rfl (fun h => by omega) (fun _ => ?_); conv => whnf
   refine W.tells (AbsD.frz (k := 0) (n := 3) (e := 123) (cs := rcs (rdRecs (pad b) (i + 1))) (os := [.row 101 zNote, .row 101 [.int .u32 (num (pad b) 1 4 : Int), .int .u32 (num (pad b) 5 4 : Int), .int .u32 (num (pad b) 9 4 : Int), .int .i64 (num (pad b) 13 1 : Int), .sl 3 0 (i + 1) none], .defd]) (tl := [(0, u), (2, .ptr 0 0), (7, .ptr 1 0)]) (rs := [0, 3, 5, 7]) (ds2 := [2])
    ⟨⟨rfl, by decide, ⟨⟨hf_bd _ huf, by rw [hf_mapV _ huf]; rfl⟩, ⟨rfl, rfl⟩, ⟨rfl, rfl⟩, trivial⟩, ⟨⟨rfl, rfl⟩, ⟨rfl, rfl⟩, ⟨rfl, rfl⟩, ⟨rowH (hfs_rcs _), by rw [mapRowH (hfs_rcs _)]; rfl⟩, trivial⟩⟩, rfl, by intro d hd; simp at hd; subst hd; show 2 < 4; decide⟩ rfl (by intro d hd; simp at hd; subst hd; decide) (hfs_rcs _) rfl rfl rfl rfl (by show [(0, frzV 3 _ u), _, _] = _; rw [hf_frzV u huf]; rfl) rfl) hres
end Go.AM
