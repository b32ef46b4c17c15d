/-
  Functions of the program as the abstract machine reads them, and what is stated of them, checked by the kernel. No conditions.
-/
import Derived.Test.YtnnbibnobmegpaaSeatLH
import Derived.Test.YtnnbibnobmegpaaSeatA
import Derived.Test.YtnnbibnobmegpaaSeatM
set_option linter.unusedVariables false
set_option linter.unusedSimpArgs false

set_option linter.unusedVariables false
set_option maxRecDepth 100000
namespace Go.AM
open Go.RowKit
/-! deals that are handed in -/
def tInts : Ty := .sl (.int .i64)
def tByt : Ty := .sl (.int .u8)
def tDeal : List Ty := [.int .i64, tInts, .sl tByt, tByt]
theorem wf_u8 {n : Int} (h : (Lit.int .u8 n).wf = true) : 0 ≤ n ∧ n < 256 := by
  simp [Lit.wf, IntKind.min, IntKind.max, IntKind.bits, IntKind.signed] at h
  omega
theorem ints_of {l : List AV} (h : Shape tInts l) : ∃ (v : AV) (L : List Int), l = [v] ∧ Sl 1 L.length (ints L) v ∧ ∀ s ∈ L, i64B s := by
  cases h with
  | nil _ => exact ⟨.nils, [], rfl, .inl ⟨rfl, rfl, rfl⟩, by simp⟩
  | es _ => exact ⟨.es, [], rfl, .inr (.inl ⟨rfl, rfl, rfl⟩), by simp⟩
  | fz _ n m c ls h1 h2 h3 h4 h5 =>
    have : ∀ ls : List (List AV), (∀ l ∈ ls, Shape (.int .i64) l) → ∃ L : List Int, ls.flatten = ints L ∧ L.length = ls.length ∧ ∀ s ∈ L, i64B s := by
      intro ls
      induction ls with
      | nil => intro _; exact ⟨[], rfl, rfl, by simp⟩
      | cons l ls ih =>
        intro h
        obtain ⟨L, a, b, c⟩ := ih (fun m hm => h m (by simp [hm]))
        obtain ⟨n, rfl, hw⟩ := shape_int (h l (by simp))
        exact ⟨n :: L, by rw [List.flatten_cons, a]; rfl, by simp [b], fun s hs => by
          rcases List.mem_cons.1 hs with rfl | hs
          · exact wf_i64 hw
          · exact c s hs⟩
    obtain ⟨L, a, b, d⟩ := this ls h4
    exact ⟨_, L, rfl, .inr (.inr ⟨c, by rw [a, b, h1], by rw [Nat.mul_one]; unfold ints; rw [List.length_map]⟩), d⟩
theorem bytes_of {l : List AV} (h : Shape tByt l) : ∃ (v : AV) (b : List Nat), l = [v] ∧ BAt v b := by
  cases h with
  | nil _ => exact ⟨.nils, [], rfl, .inl ⟨rfl, rfl, rfl⟩, by simp⟩
  | es _ => exact ⟨.es, [], rfl, .inr (.inl ⟨rfl, rfl, rfl⟩), by simp⟩
  | fz _ n m c ls h1 h2 h3 h4 h5 =>
    have : ∀ ls : List (List AV), (∀ l ∈ ls, Shape (.int .u8) l) → ∃ L : List Nat, ls.flatten = bys L ∧ L.length = ls.length ∧ ∀ s ∈ L, s < 256 := by
      intro ls
      induction ls with
      | nil => intro _; exact ⟨[], rfl, rfl, by simp⟩
      | cons l ls ih =>
        intro h
        obtain ⟨L, a, b, c⟩ := ih (fun m hm => h m (by simp [hm]))
        obtain ⟨n, rfl, hw⟩ := shape_int (h l (by simp))
        have hw := wf_u8 hw
        refine ⟨n.toNat :: L, ?_, by simp [b], fun s hs => ?_⟩
        · rw [List.flatten_cons, a]
          show AV.int .u8 n :: bys L = .int .u8 (Int.ofNat n.toNat) :: bys L
          rw [show Int.ofNat n.toNat = n from Int.toNat_of_nonneg hw.1]
        · rcases List.mem_cons.1 hs with rfl | hs
          · omega
          · exact c s hs
    obtain ⟨L, a, b, d⟩ := this ls h4
    exact ⟨_, L, rfl, .inr (.inr ⟨c, by rw [a, b, h1], by rw [Nat.mul_one, bys_length]⟩), d⟩
theorem blocks_of {l : List AV} (h : Shape (.sl tByt) l) : ∃ (v : AV) (us : List AV) (bs : List (List Nat)), l = [v] ∧ Sl 1 us.length us v ∧ All2 BAt us bs := by
  cases h with
  | nil _ => exact ⟨.nils, [], [], rfl, .inl ⟨rfl, rfl, rfl⟩, .nil⟩
  | es _ => exact ⟨.es, [], [], rfl, .inr (.inl ⟨rfl, rfl, rfl⟩), .nil⟩
  | fz _ n m c ls h1 h2 h3 h4 h5 =>
    have : ∀ ls : List (List AV), (∀ l ∈ ls, Shape tByt l) → ∃ (us : List AV) (bs : List (List Nat)), ls.flatten = us ∧ us.length = ls.length ∧ All2 BAt us bs := by
      intro ls
      induction ls with
      | nil => intro _; exact ⟨[], [], rfl, rfl, .nil⟩
      | cons l ls ih =>
        intro h
        obtain ⟨us, bs, a, b, c⟩ := ih (fun m hm => h m (by simp [hm]))
        obtain ⟨v, by_, rfl, hv⟩ := bytes_of (h l (by simp))
        exact ⟨v :: us, by_ :: bs, by rw [List.flatten_cons, a]; rfl, by simp [b], .cons hv c⟩
    obtain ⟨us, bs, a, b, d⟩ := this ls h4
    exact ⟨_, us, bs, rfl, .inr (.inr ⟨c, by rw [a, b, h1], by rw [Nat.mul_one]⟩), d⟩
theorem deal_of {l : List AV} (h : Shapes tDeal l) : ∃ d : DB, d.any ∧ l = d.d.c := by
  obtain ⟨st, b1, rfl, w1, g1⟩ := shapes_int h
  obtain ⟨a2, b2, rfl, s2, g2⟩ := shapes_cons g1
  obtain ⟨a3, b3, rfl, s3, g3⟩ := shapes_cons g2
  obtain ⟨a4, b4, rfl, s4, g4⟩ := shapes_cons g3
  rw [shapes_nil g4]
  obtain ⟨sv, sl, rfl, q1, q2⟩ := ints_of s2
  obtain ⟨bv, us, bs, rfl, q3, q4⟩ := blocks_of s3
  obtain ⟨pv, pb, rfl, q5⟩ := bytes_of s4
  exact ⟨⟨st, sv, sl, bv, us, bs, pv, pb⟩, ⟨wf_i64 w1, q1, q2, q3, q4, q5⟩, rfl⟩
end Go.AM

set_option linter.unusedVariables false
set_option maxRecDepth 100000
namespace Go.AM
attribute [local irreducible] W
open X
/-! things that are done to a log -/
structure Op where
  k : Int
  st : Int
  d : DB
def Op.c (o : Op) : List AV := .int .u8 o.k :: .int .i64 o.st :: o.d.d.c
structure Op.any (o : Op) : Prop where
  k : 0 ≤ o.k ∧ o.k < 256
  st : i64B o.st
  d : o.d.any
def opsC (l : List Op) : List AV := l.flatMap Op.c
theorem opsC_cons (o : Op) (l : List Op) : opsC (o :: l) = o.c ++ opsC l := rfl
theorem opsC_length : ∀ (L : List Op), (opsC L).length = L.length * 6
  | [] => rfl
  | x :: L => by rw [opsC_cons, List.length_append, opsC_length L, List.length_cons]; show 6 + _ = _; omega
theorem opsC_drop : ∀ (L : List Op) (i : Nat), (opsC L).drop (i * 6) = opsC (L.drop i)
  | L, 0 => by simp
  | [], i + 1 => by simp [opsC]
  | x :: L, i + 1 => by
    rw [List.drop_succ_cons, ← opsC_drop L i, opsC_cons, show (i + 1) * 6 = x.c.length + i * 6 by show (i + 1) * 6 = 6 + i * 6; omega, List.drop_append, List.drop_eq_nil_of_le (by omega), List.nil_append]
    congr 1; omega
theorem opsC_drop_cons {L : List Op} {i : Nat} (h : i < L.length) : (opsC L).drop (i * 6) = L[i].c ++ opsC (L.drop (i + 1)) := by
  rw [opsC_drop, List.drop_eq_getElem_cons h, opsC_cons]
theorem Op.inj {x y : Op} (hx : x.any) (hy : y.any) (h : x.c = y.c) : x = y := by
  obtain ⟨a, b, d⟩ := x
  obtain ⟨a', b', d'⟩ := y
  unfold Op.c at h
  injection h with e1 h
  injection h with e2 h
  injection e1 with _ e1
  injection e2 with _ e2
  have e3 := DB.inja hx.d hy.d (congrArg AV.agg h)
  dsimp only at e1 e2 e3
  subst e1 e2 e3; rfl
theorem opsC_inj : ∀ {L M : List Op}, (∀ o ∈ L, o.any) → (∀ o ∈ M, o.any) → opsC L = opsC M → L = M
  | [], [], _, _, _ => rfl
  | [], y :: M, _, _, h => by have := congrArg List.length h; rw [opsC_length, opsC_length] at this; simp at this
  | x :: L, [], _, _, h => by have := congrArg List.length h; rw [opsC_length, opsC_length] at this; simp at this
  | x :: L, y :: M, hx, hy, h => by
    rw [opsC_cons, opsC_cons] at h
    obtain ⟨h1, h2⟩ := List.append_inj h rfl
    rw [Op.inj (hx x (by simp)) (hy y (by simp)) h1, opsC_inj (fun o ho => hx o (by simp [ho])) (fun o ho => hy o (by simp [ho])) h2]
structure OL where
  v : AV
  l : List Op
structure OL.ok (x : OL) : Prop where
  sl : Sl 6 x.l.length (opsC x.l) x.v
  o : ∀ o ∈ x.l, o.any
def longB (l : List Op) : Bool := (l.take 100).any (fun o => grtB o.d) || decide (60 < l.length)
def longF : Fam OL := ⟨OL.ok, fun x => [x.v], fun x => .bool (longB x.l), fun x y hx hy h => by
  obtain ⟨v, l⟩ := x
  obtain ⟨v', l'⟩ := y
  have e : v = v' := (List.cons.inj h).1
  subst e
  have := opsC_inj hx.o hy.o (hx.sl.l_inj hy.sl)
  dsimp only at this
  rw [this]⟩
theorem long_small {l : List Op} (h : longB l = false) : l.length ≤ 60 ∧ ∀ o ∈ l, grtB o.d = false := by
  unfold longB at h
  simp only [Bool.or_eq_false_iff, decide_eq_false_iff_not] at h
  obtain ⟨h1, h2⟩ := h
  rw [List.take_of_length_le (by omega), List.any_eq_false] at h1
  exact ⟨by omega, fun o ho => by simpa using h1 o ho⟩
theorem longF_ok {P : Program} {e : Env} {fn : Func} (hE : EnvOk P e) (hm : P.follows .mixedOrders = true) (h32 : Con e 32 grtF.O) (hf : P.funcs[45]? = some fn) (hc : compF P fn = some a45) (hb : HasBody P 45) : OvOk P 45 longF.O := by
  refine Fam.ok_of hb fun x hx => ?_
  obtain ⟨v, l⟩ := x
  obtain ⟨hv, ho⟩ := hx
  dsimp only at hv ho
  refine ⟨by show (AM.hf v && true) = true; rw [hv.hf]; rfl, rfl, C.of_V hE hm hf hc ?_⟩
  have fin : ∀ s (b : Bool), b = longB l → Frz s (.bool b) (.bool (longB l)) := by rintro s b rfl; exact .plain _ rfl
  show VW P e 0 (match a45 with | .mk c _ => c) (initT [v] 0 .lf) St0 none [] (EEnd [.tmp 2] (fun w s' => Frz s' w (.bool (longB l))))
  conv => whnf
  refine W.loopT (α := Nat) (fun i => [(0, v), (3, .int .i64 (i : Int))]) (fun _ => []) (fun i => l.length - i) (fun i => i ≤ l.length ∧ i ≤ 100 ∧ (l.take i).any (fun o => grtB o.d) = false) 0 ⟨Nat.zero_le _, Nat.zero_le _, rfl⟩
    (Abs.tells (rs := []) ⟨by decide, ⟨⟨hf_bd _ hv.hf, by rw [hf_mapV _ hv.hf]; rfl⟩, ⟨rfl, rfl⟩, trivial⟩, trivial⟩) ?_
  rintro i ⟨hi, hi2, hI⟩
  refine vw_sound hE hm ?_
  have ending : ¬ (i < l.length ∧ i < 100) → longB l = decide (60 < l.length) := by
    intro h
    unfold longB
    have : l.take 100 = l.take i := by
      by_cases h1 : i < l.length
      · have : i = 100 := by omega
        rw [this]
      · rw [List.take_of_length_le (by omega), List.take_of_length_le (l := l) (i := i) (by omega)]
    rw [this, hI, Bool.false_or]
  conv => whnf
  refine EPrim.lenZ rfl hv ?_
  conv => whnf
  refine EPrim.lss2 rfl rfl (fun h => ?_) (fun h => ?_)
  · conv => whnf
    refine EPrim.lss2 rfl rfl (fun h' => ?_) (fun h' => ?_)
    · have hlt : i < l.length := by omega
      have hoi := ho _ (List.getElem_mem hlt)
      have hdrop := opsC_drop_cons hlt
      have hgr : ∀ (K : AV → St → Prop) (s : St), (grtB l[i].d = true → K (.bool true) s) → (grtB l[i].d = false → K (.bool false) s) → ESc e 32 [l[i].d.d.v] s K := fun K s k1 k2 => by
        cases hq : grtB l[i].d
        · exact ESc.fam grtF h32 l[i].d hoi.d (by show AV.bool _ = _; rw [hq]) (k2 hq)
        · exact ESc.fam grtF h32 l[i].d hoi.d (by show AV.bool _ = _; rw [hq]) (k1 hq)
      have htk : (l.take (i + 1)).any (fun o => grtB o.d) = grtB l[i].d := by rw [List.take_succ_eq_append_getElem hlt, List.any_append, hI]; simp
      have hall : grtB l[i].d = true → longB l = true := fun h => by
        unfold longB
        rw [Bool.or_eq_true]
        left
        refine List.any_eq_true.2 ⟨l[i], ?_, h⟩
        exact List.mem_iff_getElem?.2 ⟨i, by rw [List.getElem?_take, if_pos (by omega)]; exact List.getElem?_eq_getElem hlt⟩
      revert hdrop hgr htk hall hoi
      generalize l[i] = o
      intro hoi hdrop hgr htk hall
      obtain ⟨ok, ost, ⟨st, sv, sl, bv, us, bs, pv, pb⟩⟩ := o
      conv => whnf
      refine EPrim.ixsS rfl hv rfl hlt ?_
      rw [hdrop]
      conv => whnf
      refine ETake.eq (cs := [.int .i64 st, sv, bv, pv]) rfl ?_
      conv => whnf
      refine hgr _ _ (fun hg => ?_) (fun hg => ?_)
      · conv => whnf
        exact fin _ _ (hall hg).symm
      · conv => whnf
        repeat' (first | ((first | refine w1 rfl rfl ?_ ?_ | refine w2 rfl rfl ?_ ?_ | refine w3 rfl rfl ?_ ?_ | refine w4 rfl rfl ?_ ?_ | refine w5 rfl rfl ?_ ?_ | refine w6 rfl rfl ?_ ?_) <;> intro _ <;> first | (exfalso; omega) | (conv => whnf)) | ((first | refine w7 rfl rfl (by omega) ?_ | refine w8 rfl rfl (by omega) ?_ | refine w9 rfl rfl (by omega) ?_ | refine w10 rfl rfl ?_ | refine w11 rfl rfl ?_ | refine w12 rfl ?_ | refine w13 rfl ?_ | refine w14 (q' := .i64) rfl (i64_in (by omega)) ?_ | refine w14 (q' := .u32) rfl (u32_in (by omega)) ?_ | refine w14 (q' := .u8) rfl (u8_in (by omega)) ?_ | refine w15 rfl rfl ?_ | refine w16 rfl ?_ | refine w17 rfl ?_ | refine w18 rfl ?_ | refine ⟨rfl, ?_⟩); conv => whnf) | (refine w19 rfl ?_ ?_ <;> intro hc <;> (try subst hc) <;> conv => whnf))
        refine ⟨i + 1, ⟨hlt, by omega, by rw [htk]; exact hg⟩, by omega, Abs.tells (rs := []) ⟨by decide, ⟨⟨hf_bd _ hv.hf, by rw [hf_mapV _ hv.hf]; rfl⟩, ⟨rfl, rfl⟩, trivial⟩, trivial⟩⟩
    · have he := ending (by omega)
      conv => whnf
      refine EPrim.lenZ rfl hv ?_
      conv => whnf
      refine EPrim.gtr2 rfl rfl (fun h => ?_) (fun h => ?_)
      · conv => whnf
        exact fin _ _ (by rw [he]; exact (decide_eq_true (by omega)).symm)
      · conv => whnf
        exact fin _ _ (by rw [he]; exact (decide_eq_false (by omega)).symm)
  · have he := ending (by omega)
    conv => whnf
    refine EPrim.lenZ rfl hv ?_
    conv => whnf
    refine EPrim.gtr2 rfl rfl (fun h => ?_) (fun h => ?_)
    · conv => whnf
      exact fin _ _ (by rw [he]; exact (decide_eq_true (by omega)).symm)
    · conv => whnf
      exact fin _ _ (by rw [he]; exact (decide_eq_false (by omega)).symm)
/-! one thing done -/
structure DI where
  x : CL
  o : Op
structure DI.ok (a : DI) : Prop where
  x : a.x.ok
  g : a.x.good
  o : a.o.any
  s : grtB a.o.d = false
def DI.args (a : DI) : List AV := [a.x.c.v, a.x.lv, .agg a.o.c]
theorem DI.inja {a b : DI} (ha : a.ok) (hb : b.ok) (h : a.args = b.args) : a = b := by
  obtain ⟨x, o⟩ := a
  obtain ⟨x', o'⟩ := b
  have h1 := CL.inj ha.x hb.x (List.cons.inj h).1 (List.cons.inj (List.cons.inj h).2).1
  have h2 := Op.inj ha.o hb.o (AV.agg.inj (List.cons.inj (List.cons.inj (List.cons.inj h).2).2).1)
  dsimp only at h1 h2
  subst h1 h2; rfl
def addC (a : AI) : Prop := dealB a.x.c a.d.d = true ∧ (noteB a.bd.note = true ∧ a.x.l.seq ≠ 2147483648) ∧ roomB a.ring = true
instance (a : AI) : Decidable (addC a) := by unfold addC; infer_instance
def doRes (a : DI) : Option (Log × AV × AV) :=
  if a.o.k % 4 = 0 then (if addC ⟨a.x, a.o.d⟩ then some (⟨a.x.l.age, a.x.l.seq + 1, a.x.l.tail, a.x.l.used + (a.o.d.n : Int), AI.live ⟨a.x, a.o.d⟩⟩, .fz (a.x.l.live.length + 1) none (lvs (AI.live ⟨a.x, a.o.d⟩)), .fz a.o.d.n none (actsL a.x.c a.x.l.tail a.x.l.used 0 (AI.blks ⟨a.x, a.o.d⟩))) else none)
  else if a.o.k % 4 = 1 then some (a.x.l.with (a.x.l.live.map Lv.flush), lvV a.x.v (a.x.l.live.map Lv.flush), .nils)
  else if a.o.k % 4 = 2 then (if CLS.in ⟨a.x, a.o.st⟩ then (if hF a.o.st a.x.l.live 0 then some (a.x.l.with (homeL a.o.st a.x.l.live), lvV a.x.v (homeL a.o.st a.x.l.live), .nils) else none) else none)
  else (if mvK a.x.l.live = 0 then none else some (⟨a.x.l.age, a.x.l.seq, mvT a.x.c.log a.x.l.tail a.x.l.live (mvK a.x.l.live), mvU a.x.l.used a.x.l.live (mvK a.x.l.live), a.x.l.live.drop (mvK a.x.l.live)⟩, lvV .es (a.x.l.live.drop (mvK a.x.l.live)),
    .fz 1 (some 1) [.int .i64 a.x.c.members, .int .u8 2, .int .i64 0, .fz 128 (some 128) (bys (supBlk a.x.mvSup.id.toNat a.x.mvSup.age.toNat a.x.mvSup.seq.toNat a.x.mvSup.tail.toNat))]))
def doErr (a : DI) : Int := if a.o.k % 4 = 0 then (if dealB a.x.c a.o.d.d = true then 9 else 8) else if a.o.k % 4 = 2 then (if CLS.in ⟨a.x, a.o.st⟩ then 6 else 2) else 6
def doOut (a : DI) : AV := match doRes a with
  | some (l, v, b) => .tup [.agg (l.c v), b, .int .i64 0]
  | none => .tup [.agg (a.x.l.c a.x.v), .nils, .int .i64 (doErr a)]
def doF : Fam DI := ⟨DI.ok, DI.args, doOut, fun x y hx hy h => by rw [DI.inja hx hy h]⟩
end Go.AM

set_option linter.unusedVariables false
set_option maxRecDepth 100000
namespace Go.AM
open Go.RowKit
/-! lists of things done, handed in -/
def tOp : List Ty := [.int .u8, .int .i64, .st tDeal]
theorem op_of {l : List AV} (h : Shapes tOp l) : ∃ o : Op, o.any ∧ l = o.c := by
  obtain ⟨k, b1, rfl, w1, g1⟩ := shapes_int h
  obtain ⟨st, b2, rfl, w2, g2⟩ := shapes_int g1
  obtain ⟨a3, b3, rfl, s3, g3⟩ := shapes_cons g2
  rw [shapes_nil g3]
  cases s3 with
  | st _ _ s3 =>
    obtain ⟨d, hd, rfl⟩ := deal_of s3
    exact ⟨⟨k, st, d⟩, ⟨wf_u8 w1, wf_i64 w2, hd⟩, by rw [List.append_nil]; rfl⟩
theorem ops_of {l : List AV} (h : Shape (.sl (.st tOp)) l) : ∃ (v : AV) (L : List Op), l = [v] ∧ OL.ok ⟨v, L⟩ := by
  cases h with
  | nil _ => exact ⟨.nils, [], rfl, ⟨.inl ⟨rfl, rfl, rfl⟩, by simp⟩⟩
  | es _ => exact ⟨.es, [], rfl, ⟨.inr (.inl ⟨rfl, rfl, rfl⟩), by simp⟩⟩
  | fz _ n m c ls h1 h2 h3 h4 h5 =>
    have : ∀ ls : List (List AV), (∀ l ∈ ls, Shape (.st tOp) l) → ∃ L : List Op, ls.flatten = opsC L ∧ L.length = ls.length ∧ ∀ o ∈ L, o.any := by
      intro ls
      induction ls with
      | nil => intro _; exact ⟨[], rfl, rfl, by simp⟩
      | cons l ls ih =>
        intro h
        obtain ⟨L, a, b, c⟩ := ih (fun m hm => h m (by simp [hm]))
        obtain ⟨o, ho, rfl⟩ := op_of (by have := h l (by simp); cases this with | st _ _ hs => exact hs)
        exact ⟨o :: L, by rw [List.flatten_cons, a]; rfl, by simp [b], fun q hq => by
          rcases List.mem_cons.1 hq with rfl | hq
          · exact ho
          · exact c q hq⟩
    obtain ⟨L, a, b, d⟩ := this ls h4
    exact ⟨_, L, rfl, ⟨.inr (.inr ⟨c, by rw [a, b, h1], opsC_length L⟩), d⟩⟩
/-- an argument that is a slice -/
theorem arg_slice {H : Type} {enc : TypeId × Value → H} {P : Program} {W : World} {t e : TypeId} {T : Ty} {v : Value} {d : DataW H} {ps : List MemPlace} {r : Reach} {base : Nat} (hu : P.underlying t = some (.slice e)) (hT : TyOf P t (.sl T) 1) (hval : Value.okWide P W r base t v) (h : DataW.Trod enc P W 0 (fun _ => true) true t v d ps) :
    ∃ u, Shape (.sl T) [u] ∧ VR (gamW W) u v := by
  obtain ⟨a, len, cap, rfl⟩ := WideShapes.okWide_slice hu hval
  obtain ⟨fuel, hf⟩ := h
  obtain ⟨l, h1, h2, h3, h4⟩ := trod_shape fuel hT hf
  cases l with
  | nil => simp at h2
  | cons u l =>
    have : l = [] := by simp at h2; exact h2
    subst this
    cases h3 with
    | cons p q => exact ⟨u, h1, p⟩
theorem ops_arg {H : Type} {enc : TypeId × Value → H} {P : Program} {W : World} {t e : TypeId} {v : Value} {d : DataW H} {ps : List MemPlace} {r : Reach} {base : Nat} (hu : P.underlying t = some (.slice e)) (hT : TyOf P t (.sl (.st tOp)) 1) (hval : Value.okWide P W r base t v) (h : DataW.Trod enc P W 0 (fun _ => true) true t v d ps) :
    ∃ u L, VR (gamW W) u v ∧ OL.ok ⟨u, L⟩ := by
  obtain ⟨u, h1, h2⟩ := arg_slice hu hT hval h
  obtain ⟨v', L, e, hL⟩ := ops_of h1
  cases e
  exact ⟨_, L, h2, hL⟩
end Go.AM

set_option linter.unusedVariables false
set_option maxRecDepth 100000
namespace Go.AM
attribute [local irreducible] W
open X
theorem hf_doOut {a : DI} (h : a.ok) : AM.hf (doOut a) = true := by
  have hv : AM.hf a.x.v = true := h.x.v.hf
  have key : ∀ (l : Log) (v b : AV) (n : Int), AM.hf v = true → AM.hf b = true → AM.hf (.tup [.agg (l.c v), b, .int .i64 n]) = true := by
    intro l v b n h1 h2
    show ((true && (true && (true && (true && (AM.hf v && true))))) && (AM.hf b && true)) = true
    rw [h1, h2]; rfl
  unfold doOut
  split
  · rename_i l v b hq
    have : AM.hf v = true ∧ AM.hf b = true := by
      unfold doRes at hq
      split at hq
      · split at hq
        · cases hq; exact ⟨rfl, rfl⟩
        · cases hq
      · split at hq
        · cases hq; exact ⟨lvV_hf, rfl⟩
        · split at hq
          · split at hq
            · split at hq
              · cases hq; exact ⟨lvV_hf, rfl⟩
              · cases hq
            · cases hq
          · split at hq
            · cases hq
            · cases hq; exact ⟨lvV_hf, rfl⟩
    exact key _ _ _ _ this.1 this.2
  · exact key _ _ _ _ hv rfl
def code46 : AC := match a46 with | .mk c _ => c
theorem doF_ok {P : Program} {e : Env} {fn : Func} (hE : EnvOk P e) (hm : P.follows .mixedOrders = true) (h34 : Con e 34 addF.O) (h37 : Con e 37 flushF.O) (h39 : Con e 39 homeFm.O) (h40 : Con e 40 moveF.O) (hf : P.funcs[46]? = some fn) (hc : compF P fn = some a46) (hb : HasBody P 46) : OvOk P 46 doF.O := by
  refine Fam.ok_of hb fun a ha => ?_
  have hof : hfs a.o.c = true := by
    show (true && (true && AM.hf a.o.d.d.v)) = true; rw [DB.anyhf ha.o.d]; rfl
  refine ⟨by show (true && ((true && (true && (true && (true && (AM.hf a.x.v && true))))) && (hfs a.o.c && true))) = true; rw [ha.x.v.hf, hof]; rfl, hf_doOut ha, C.of_V hE hm hf hc ?_⟩
  obtain ⟨O, hO⟩ : ∃ O, O = doOut a := ⟨_, rfl⟩
  show VW P e 0 code46 (initT a.args 0 .lf) St0 none [] (EEnd [.cells 6 5, .tmp 7, .tmp 8] (fun v s' => Frz s' v (doOut a)))
  rw [← hO]
  obtain ⟨x, o⟩ := a
  obtain ⟨hx, hg, ho, hs⟩ := ha
  dsimp only at hx hg ho hs hof
  have hds := small_ok ho.d hs
  have hk := ho.k
  have hv : AM.hf x.v = true := hx.v.hf
  have hno : ∀ n : Int, doRes ⟨x, o⟩ = none → doErr ⟨x, o⟩ = n → O = .tup [.agg (x.l.c x.v), .nils, .int .i64 n] := fun n h1 h2 => by
    rw [hO]; unfold doOut; rw [h1, h2]
  have hyes : ∀ l v b, doRes ⟨x, o⟩ = some (l, v, b) → O = .tup [.agg (l.c v), b, .int .i64 0] := fun l v b h1 => by
    rw [hO]; unfold doOut; rw [h1]
  clear hO
  have fno : ∀ (s : St) (n : Int), doRes ⟨x, o⟩ = none → doErr ⟨x, o⟩ = n → Frz s (.tup [.agg (x.l.c x.v), .nils, .int .i64 n]) O := fun s n h1 h2 => by
    rw [hno n h1 h2]
    exact .plain _ (by show ((true && (true && (true && (true && (AM.hf x.v && true))))) && _) = true; rw [hv]; rfl)
  have fyes : ∀ (s : St) l v b, doRes ⟨x, o⟩ = some (l, v, b) → AM.hf v = true → AM.hf b = true → Frz s (.tup [.agg (l.c v), b, .int .i64 0]) O := fun s l v b h1 h2 h3 => by
    rw [hyes l v b h1]
    exact .plain _ (by show ((true && (true && (true && (true && (AM.hf v && true))))) && (AM.hf b && true)) = true; rw [h2, h3]; rfl)
  have hadd : ∀ (K : AV → St → Prop) (s : St), K (addOut ⟨x, o.d⟩) s → ESc e 34 [x.c.v, x.lv, o.d.d.v] s K := fun K s hk => ESc.fam addF h34 ⟨x, o.d⟩ ⟨hx, hds⟩ rfl hk
  have hfl : ∀ (K : AV → St → Prop) (s : St), K (.tup [.agg (x.l.c (lvV x.v (x.l.live.map Lv.flush))), .int .i64 0]) s → ESc e 37 [x.c.v, x.lv] s K := fun K s hk => ESc.fam flushF h37 x hx (by simp [flushF, hg]) hk
  have hhm : ∀ (K : AV → St → Prop) (s : St), K (homeOut ⟨x, o.st⟩) s → ESc e 39 [x.c.v, x.lv, .int .i64 o.st] s K := fun K s hk => ESc.fam homeFm h39 ⟨x, o.st⟩ ⟨hx, ho.st⟩ rfl hk
  have hmv : ∀ (K : AV → St → Prop) (s : St), K (mvOut x) s → ESc e 40 [x.c.v, x.lv] s K := fun K s hk => ESc.fam moveF h40 x hx rfl hk
  have hr0 : o.k % 4 = 0 → doRes ⟨x, o⟩ = if addC ⟨x, o.d⟩ then some (⟨x.l.age, x.l.seq + 1, x.l.tail, x.l.used + (o.d.n : Int), AI.live ⟨x, o.d⟩⟩, .fz (x.l.live.length + 1) none (lvs (AI.live ⟨x, o.d⟩)), .fz o.d.n none (actsL x.c x.l.tail x.l.used 0 (AI.blks ⟨x, o.d⟩))) else none := fun h => by unfold doRes; rw [if_pos h]
  have hr1 : o.k % 4 = 1 → doRes ⟨x, o⟩ = some (x.l.with (x.l.live.map Lv.flush), lvV x.v (x.l.live.map Lv.flush), .nils) := fun h => by unfold doRes; rw [if_neg (by dsimp only; omega), if_pos h]
  have hr2 : o.k % 4 = 2 → doRes ⟨x, o⟩ = if CLS.in ⟨x, o.st⟩ then (if hF o.st x.l.live 0 then some (x.l.with (homeL o.st x.l.live), lvV x.v (homeL o.st x.l.live), .nils) else none) else none := fun h => by unfold doRes; rw [if_neg (by dsimp only; omega), if_neg (by dsimp only; omega), if_pos h]
  have hr3 : o.k % 4 = 3 → doRes ⟨x, o⟩ = if mvK x.l.live = 0 then none else some (⟨x.l.age, x.l.seq, mvT x.c.log x.l.tail x.l.live (mvK x.l.live), mvU x.l.used x.l.live (mvK x.l.live), x.l.live.drop (mvK x.l.live)⟩, lvV .es (x.l.live.drop (mvK x.l.live)),
    .fz 1 (some 1) [.int .i64 x.c.members, .int .u8 2, .int .i64 0, .fz 128 (some 128) (bys (supBlk x.mvSup.id.toNat x.mvSup.age.toNat x.mvSup.seq.toNat x.mvSup.tail.toNat))]) := fun h => by unfold doRes; rw [if_neg (by dsimp only; omega), if_neg (by dsimp only; omega), if_neg (by dsimp only; omega)]
  have he0 : o.k % 4 = 0 → doErr ⟨x, o⟩ = if dealB x.c o.d.d = true then 9 else 8 := fun h => by unfold doErr; rw [if_pos h]
  have he2 : o.k % 4 = 2 → doErr ⟨x, o⟩ = if CLS.in ⟨x, o.st⟩ then 6 else 2 := fun h => by unfold doErr; rw [if_neg (by dsimp only; omega), if_pos h]
  have he3 : o.k % 4 = 3 → doErr ⟨x, o⟩ = 6 := fun h => by unfold doErr; rw [if_neg (by dsimp only; omega), if_neg (by dsimp only; omega)]
  have hlv : ∀ l : Log, l = x.l → x.lv = .agg (l.c x.v) := fun l h => by rw [h]; rfl
  obtain ⟨c, ⟨ag, sq, tl, us, L⟩, v⟩ := x
  obtain ⟨k, ost, ⟨st, sv, sl, bv, uz, bs, pv, pb⟩⟩ := o
  dsimp only at hk hv
  have hm4 : 0 ≤ k % 4 ∧ k % 4 < 4 := by omega
  conv => whnf
  refine EPrim.remN (a := k) (b := 4) rfl rfl (by omega) ?_
  conv => whnf
  refine EPrim.eql2 (a := k % 4) (b := 0) rfl rfl (fun h => ?_) (fun h0 => ?_)
  · have hr := hr0 h
    have he := he0 h
    conv => whnf
    refine hadd _ _ ?_
    unfold addOut
    by_cases hD : dealB c (DB.d ⟨st, sv, sl, bv, uz, bs, pv, pb⟩) = true
    · rw [if_pos ⟨hg, hD⟩]
      rw [if_pos hD] at he
      by_cases hC : addC ⟨⟨c, ⟨ag, sq, tl, us, L⟩, v⟩, ⟨st, sv, sl, bv, uz, bs, pv, pb⟩⟩
      · rw [if_pos hC] at hr
        rw [if_pos hC.2]
        conv => whnf
        repeat' (first | ((first | refine w1 rfl rfl ?_ ?_ | refine w2 rfl rfl ?_ ?_ | refine w3 rfl rfl ?_ ?_ | refine w4 rfl rfl ?_ ?_ | refine w5 rfl rfl ?_ ?_ | refine w6 rfl rfl ?_ ?_) <;> intro _ <;> first | (exfalso; omega) | (conv => whnf)) | ((first | refine w7 rfl rfl (by omega) ?_ | refine w8 rfl rfl (by omega) ?_ | refine w9 rfl rfl (by omega) ?_ | refine w10 rfl rfl ?_ | refine w11 rfl rfl ?_ | refine w12 rfl ?_ | refine w13 rfl ?_ | refine w14 (q' := .i64) rfl (i64_in (by omega)) ?_ | refine w14 (q' := .u32) rfl (u32_in (by omega)) ?_ | refine w14 (q' := .u8) rfl (u8_in (by omega)) ?_ | refine w15 rfl rfl ?_ | refine w16 rfl ?_ | refine w17 rfl ?_ | refine w18 rfl ?_ | refine ⟨rfl, ?_⟩); conv => whnf) | (refine w19 rfl ?_ ?_ <;> intro hc <;> (try subst hc) <;> conv => whnf))
        exact (fun s => fyes s _ _ _ hr rfl rfl) _
      · rw [if_neg hC] at hr
        rw [if_neg (fun h => hC ⟨hD, h⟩)]
        conv => whnf
        repeat' (first | ((first | refine w1 rfl rfl ?_ ?_ | refine w2 rfl rfl ?_ ?_ | refine w3 rfl rfl ?_ ?_ | refine w4 rfl rfl ?_ ?_ | refine w5 rfl rfl ?_ ?_ | refine w6 rfl rfl ?_ ?_) <;> intro _ <;> first | (exfalso; omega) | (conv => whnf)) | ((first | refine w7 rfl rfl (by omega) ?_ | refine w8 rfl rfl (by omega) ?_ | refine w9 rfl rfl (by omega) ?_ | refine w10 rfl rfl ?_ | refine w11 rfl rfl ?_ | refine w12 rfl ?_ | refine w13 rfl ?_ | refine w14 (q' := .i64) rfl (i64_in (by omega)) ?_ | refine w14 (q' := .u32) rfl (u32_in (by omega)) ?_ | refine w14 (q' := .u8) rfl (u8_in (by omega)) ?_ | refine w15 rfl rfl ?_ | refine w16 rfl ?_ | refine w17 rfl ?_ | refine w18 rfl ?_ | refine ⟨rfl, ?_⟩); conv => whnf) | (refine w19 rfl ?_ ?_ <;> intro hc <;> (try subst hc) <;> conv => whnf))
        exact fno _ 9 hr he
    · rw [if_neg hD] at he
      rw [if_neg (fun h : addC _ => hD h.1)] at hr
      rw [if_neg (fun h => hD h.2)]
      conv => whnf
      repeat' (first | ((first | refine w1 rfl rfl ?_ ?_ | refine w2 rfl rfl ?_ ?_ | refine w3 rfl rfl ?_ ?_ | refine w4 rfl rfl ?_ ?_ | refine w5 rfl rfl ?_ ?_ | refine w6 rfl rfl ?_ ?_) <;> intro _ <;> first | (exfalso; omega) | (conv => whnf)) | ((first | refine w7 rfl rfl (by omega) ?_ | refine w8 rfl rfl (by omega) ?_ | refine w9 rfl rfl (by omega) ?_ | refine w10 rfl rfl ?_ | refine w11 rfl rfl ?_ | refine w12 rfl ?_ | refine w13 rfl ?_ | refine w14 (q' := .i64) rfl (i64_in (by omega)) ?_ | refine w14 (q' := .u32) rfl (u32_in (by omega)) ?_ | refine w14 (q' := .u8) rfl (u8_in (by omega)) ?_ | refine w15 rfl rfl ?_ | refine w16 rfl ?_ | refine w17 rfl ?_ | refine w18 rfl ?_ | refine ⟨rfl, ?_⟩); conv => whnf) | (refine w19 rfl ?_ ?_ <;> intro hc <;> (try subst hc) <;> conv => whnf))
      exact fno _ 8 hr he
  conv => whnf
  refine EPrim.eql2 (a := k % 4) (b := 1) rfl rfl (fun h => ?_) (fun h1 => ?_)
  · have hr := hr1 h
    conv => whnf
    refine hfl _ _ ?_
    conv => whnf
    repeat' (first | ((first | refine w1 rfl rfl ?_ ?_ | refine w2 rfl rfl ?_ ?_ | refine w3 rfl rfl ?_ ?_ | refine w4 rfl rfl ?_ ?_ | refine w5 rfl rfl ?_ ?_ | refine w6 rfl rfl ?_ ?_) <;> intro _ <;> first | (exfalso; omega) | (conv => whnf)) | ((first | refine w7 rfl rfl (by omega) ?_ | refine w8 rfl rfl (by omega) ?_ | refine w9 rfl rfl (by omega) ?_ | refine w10 rfl rfl ?_ | refine w11 rfl rfl ?_ | refine w12 rfl ?_ | refine w13 rfl ?_ | refine w14 (q' := .i64) rfl (i64_in (by omega)) ?_ | refine w14 (q' := .u32) rfl (u32_in (by omega)) ?_ | refine w14 (q' := .u8) rfl (u8_in (by omega)) ?_ | refine w15 rfl rfl ?_ | refine w16 rfl ?_ | refine w17 rfl ?_ | refine w18 rfl ?_ | refine ⟨rfl, ?_⟩); conv => whnf) | (refine w19 rfl ?_ ?_ <;> intro hc <;> (try subst hc) <;> conv => whnf))
    exact (fun s => fyes s _ _ _ hr lvV_hf rfl) _
  conv => whnf
  refine EPrim.eql2 (a := k % 4) (b := 2) rfl rfl (fun h => ?_) (fun h2 => ?_)
  · have hr := hr2 h
    have he := he2 h
    conv => whnf
    refine hhm _ _ ?_
    unfold homeOut
    rw [if_pos hg]
    by_cases hIn : CLS.in ⟨⟨c, ⟨ag, sq, tl, us, L⟩, v⟩, ost⟩
    · rw [if_pos hIn] at hr he ⊢
      by_cases hH : hF ost L 0 = true
      · rw [if_pos hH] at hr ⊢
        conv => whnf
        repeat' (first | ((first | refine w1 rfl rfl ?_ ?_ | refine w2 rfl rfl ?_ ?_ | refine w3 rfl rfl ?_ ?_ | refine w4 rfl rfl ?_ ?_ | refine w5 rfl rfl ?_ ?_ | refine w6 rfl rfl ?_ ?_) <;> intro _ <;> first | (exfalso; omega) | (conv => whnf)) | ((first | refine w7 rfl rfl (by omega) ?_ | refine w8 rfl rfl (by omega) ?_ | refine w9 rfl rfl (by omega) ?_ | refine w10 rfl rfl ?_ | refine w11 rfl rfl ?_ | refine w12 rfl ?_ | refine w13 rfl ?_ | refine w14 (q' := .i64) rfl (i64_in (by omega)) ?_ | refine w14 (q' := .u32) rfl (u32_in (by omega)) ?_ | refine w14 (q' := .u8) rfl (u8_in (by omega)) ?_ | refine w15 rfl rfl ?_ | refine w16 rfl ?_ | refine w17 rfl ?_ | refine w18 rfl ?_ | refine ⟨rfl, ?_⟩); conv => whnf) | (refine w19 rfl ?_ ?_ <;> intro hc <;> (try subst hc) <;> conv => whnf))
        exact (fun s => fyes s _ _ _ hr lvV_hf rfl) _
      · rw [if_neg hH] at hr ⊢
        conv => whnf
        repeat' (first | ((first | refine w1 rfl rfl ?_ ?_ | refine w2 rfl rfl ?_ ?_ | refine w3 rfl rfl ?_ ?_ | refine w4 rfl rfl ?_ ?_ | refine w5 rfl rfl ?_ ?_ | refine w6 rfl rfl ?_ ?_) <;> intro _ <;> first | (exfalso; omega) | (conv => whnf)) | ((first | refine w7 rfl rfl (by omega) ?_ | refine w8 rfl rfl (by omega) ?_ | refine w9 rfl rfl (by omega) ?_ | refine w10 rfl rfl ?_ | refine w11 rfl rfl ?_ | refine w12 rfl ?_ | refine w13 rfl ?_ | refine w14 (q' := .i64) rfl (i64_in (by omega)) ?_ | refine w14 (q' := .u32) rfl (u32_in (by omega)) ?_ | refine w14 (q' := .u8) rfl (u8_in (by omega)) ?_ | refine w15 rfl rfl ?_ | refine w16 rfl ?_ | refine w17 rfl ?_ | refine w18 rfl ?_ | refine ⟨rfl, ?_⟩); conv => whnf) | (refine w19 rfl ?_ ?_ <;> intro hc <;> (try subst hc) <;> conv => whnf))
        exact fno _ 6 hr he
    · rw [if_neg hIn] at hr he ⊢
      conv => whnf
      repeat' (first | ((first | refine w1 rfl rfl ?_ ?_ | refine w2 rfl rfl ?_ ?_ | refine w3 rfl rfl ?_ ?_ | refine w4 rfl rfl ?_ ?_ | refine w5 rfl rfl ?_ ?_ | refine w6 rfl rfl ?_ ?_) <;> intro _ <;> first | (exfalso; omega) | (conv => whnf)) | ((first | refine w7 rfl rfl (by omega) ?_ | refine w8 rfl rfl (by omega) ?_ | refine w9 rfl rfl (by omega) ?_ | refine w10 rfl rfl ?_ | refine w11 rfl rfl ?_ | refine w12 rfl ?_ | refine w13 rfl ?_ | refine w14 (q' := .i64) rfl (i64_in (by omega)) ?_ | refine w14 (q' := .u32) rfl (u32_in (by omega)) ?_ | refine w14 (q' := .u8) rfl (u8_in (by omega)) ?_ | refine w15 rfl rfl ?_ | refine w16 rfl ?_ | refine w17 rfl ?_ | refine w18 rfl ?_ | refine ⟨rfl, ?_⟩); conv => whnf) | (refine w19 rfl ?_ ?_ <;> intro hc <;> (try subst hc) <;> conv => whnf))
      exact fno _ 2 hr he
  · have h3 : k % 4 = 3 := by omega
    have hr := hr3 h3
    have he := he3 h3
    conv => whnf
    refine hmv _ _ ?_
    unfold mvOut
    rw [if_pos hg]
    by_cases hK : mvK L = 0
    · rw [if_pos hK] at hr ⊢
      conv => whnf
      repeat' (first | ((first | refine w1 rfl rfl ?_ ?_ | refine w2 rfl rfl ?_ ?_ | refine w3 rfl rfl ?_ ?_ | refine w4 rfl rfl ?_ ?_ | refine w5 rfl rfl ?_ ?_ | refine w6 rfl rfl ?_ ?_) <;> intro _ <;> first | (exfalso; omega) | (conv => whnf)) | ((first | refine w7 rfl rfl (by omega) ?_ | refine w8 rfl rfl (by omega) ?_ | refine w9 rfl rfl (by omega) ?_ | refine w10 rfl rfl ?_ | refine w11 rfl rfl ?_ | refine w12 rfl ?_ | refine w13 rfl ?_ | refine w14 (q' := .i64) rfl (i64_in (by omega)) ?_ | refine w14 (q' := .u32) rfl (u32_in (by omega)) ?_ | refine w14 (q' := .u8) rfl (u8_in (by omega)) ?_ | refine w15 rfl rfl ?_ | refine w16 rfl ?_ | refine w17 rfl ?_ | refine w18 rfl ?_ | refine ⟨rfl, ?_⟩); conv => whnf) | (refine w19 rfl ?_ ?_ <;> intro hc <;> (try subst hc) <;> conv => whnf))
      exact fno _ 6 hr he
    · rw [if_neg hK] at hr ⊢
      conv => whnf
      repeat' (first | ((first | refine w1 rfl rfl ?_ ?_ | refine w2 rfl rfl ?_ ?_ | refine w3 rfl rfl ?_ ?_ | refine w4 rfl rfl ?_ ?_ | refine w5 rfl rfl ?_ ?_ | refine w6 rfl rfl ?_ ?_) <;> intro _ <;> first | (exfalso; omega) | (conv => whnf)) | ((first | refine w7 rfl rfl (by omega) ?_ | refine w8 rfl rfl (by omega) ?_ | refine w9 rfl rfl (by omega) ?_ | refine w10 rfl rfl ?_ | refine w11 rfl rfl ?_ | refine w12 rfl ?_ | refine w13 rfl ?_ | refine w14 (q' := .i64) rfl (i64_in (by omega)) ?_ | refine w14 (q' := .u32) rfl (u32_in (by omega)) ?_ | refine w14 (q' := .u8) rfl (u8_in (by omega)) ?_ | refine w15 rfl rfl ?_ | refine w16 rfl ?_ | refine w17 rfl ?_ | refine w18 rfl ?_ | refine ⟨rfl, ?_⟩); conv => whnf) | (refine w19 rfl ?_ ?_ <;> intro hc <;> (try subst hc) <;> conv => whnf))
      exact (fun s => fyes s _ _ _ hr lvV_hf rfl) _
end Go.AM

set_option linter.unusedVariables false
namespace Go.AM
/-! what one thing does to a log -/
structure StepR (c : Cfg) (l m : Log) (g : Nat) : Prop where
  age : m.age = l.age
  seq : (m.seq = l.seq ∧ m.live.length + g = l.live.length) ∨ (m.seq = l.seq + 1 ∧ m.live.length + g = l.live.length + 1)
  le : g ≤ l.live.length
  home : ∀ (k : Nat) (x : Lv), k < g → l.live[k]? = some x → x.home = true
  tail : m.tail = (l.tail + sumB (l.live.take g)) % c.log
  at_ : ∀ (k : Nat) (x : Lv), g ≤ k → l.live[k]? = some x → ∃ y, m.live[k - g]? = some y ∧ y.seq = x.seq ∧ y.stripe = x.stripe ∧ y.blocks = x.blocks ∧ y.par = x.par ∧ (x.sure = true → y.sure = true) ∧ (x.home = true → y.home = true)
theorem mvT_eq {log tl : Int} (ht : 0 ≤ tl ∧ tl < log) {L : List Lv} : ∀ (j : Nat), j ≤ L.length → mvT log tl L j = (tl + sumB (L.take j)) % log
  | 0, _ => by show tl = (tl + 0) % log; rw [Int.add_zero, Int.emod_eq_of_lt ht.1 ht.2]
  | j + 1, h => by
    have hj : j < L.length := by omega
    show (mvT log tl L j + ((L[j]?.map Lv.blocks).getD 0)) % log = _
    rw [mvT_eq ht j (by omega), List.getElem?_eq_getElem hj, List.take_succ_eq_append_getElem hj, sumB_append]
    show ((tl + sumB (L.take j)) % log + L[j].blocks) % log = (tl + (sumB (L.take j) + (L[j].blocks + 0))) % log
    rw [Int.emod_add_emod, Int.add_zero, Int.add_assoc]
theorem homeX_sure (st : Int) (L : List Lv) (k : Nat) (x : Lv) : (x.home = true → (homeX st L k x).home = true) := by
  intro h
  unfold homeX
  split
  · show (x.home || _) = true; rw [h]; rfl
  · exact h
theorem mvK_home {L : List Lv} : ∀ (k : Nat) (x : Lv), k < mvK L → L[k]? = some x → x.home = true := by
  intro k x hk hx
  obtain ⟨hlt, he⟩ := List.getElem?_eq_some_iff.1 hx
  rw [← he]
  exact (mvK_step hlt (by omega)).2 hk
theorem step_alike {c : Cfg} {ag sq tl us : Int} {L M : List Lv} (ht : 0 ≤ tl ∧ tl < c.log) (hA : Alike L M) (hs : ∀ (k : Nat) (x y : Lv), L[k]? = some x → M[k]? = some y → (x.sure = true → y.sure = true) ∧ (x.home = true → y.home = true)) : StepR c ⟨ag, sq, tl, us, L⟩ ⟨ag, sq, tl, us, M⟩ 0 := by
  refine ⟨rfl, .inl ⟨rfl, hA.len⟩, Nat.zero_le _, fun k x h => absurd h (Nat.not_lt_zero k), ?_, ?_⟩
  · show tl = (tl + sumB (L.take 0)) % c.log
    rw [List.take_zero]
    show tl = (tl + 0) % c.log
    rw [Int.add_zero, Int.emod_eq_of_lt ht.1 ht.2]
  · intro k x _ hx
    have hx : L[k]? = some x := hx
    have hk := (List.getElem?_eq_some_iff.1 hx).1
    have hy := List.getElem?_eq_getElem (l := M) (i := k) (by rw [hA.len]; exact hk)
    obtain ⟨h1, h2, h3, h4⟩ := hA.at_ k x _ hx hy
    obtain ⟨h5, h6⟩ := hs k x _ hx hy
    exact ⟨_, hy, h1, h2, h3, h4, h5, h6⟩
theorem do_spec {a : DI} (ha : a.ok) {m : Log} {v b : AV} (h : doRes a = some (m, v, b)) : GoodR ⟨m, a.x.c⟩ ∧ CL.ok ⟨a.x.c, m, v⟩ ∧ ∃ g, StepR a.x.c a.x.l m g := by
  obtain ⟨x, o⟩ := a
  obtain ⟨hx, hg, ho, hs⟩ := ha
  dsimp only at hx hg ho hs
  have hM := hg.1
  have hgd := good_iff hg.2
  have hxl := hx.l
  have hxc := hx.c
  have hxv := hx.v
  obtain ⟨c, ⟨ag, sq, tl, us, L⟩, v0⟩ := x
  dsimp only at hM hxc hxv hxl
  have hgd : GoodR ⟨⟨ag, sq, tl, us, L⟩, c⟩ := hgd
  have htl : 0 ≤ tl ∧ tl < c.log := hgd.tail
  have hsq : 1 ≤ sq ∧ sq ≤ 2147483648 := hgd.seq
  have hlog : (L.length : Int) ≤ c.log := hgd.len
  have hll : L.length ≤ 1000 := hxl.len
  have hus : us ≤ c.log := hgd.used
  have hsum : us = sumB L := hgd.sum
  have hbb := sumB_bd (A := L) (good_bd hM hgd)
  have hmay := hM
  unfold Cfg.may at hmay
  dsimp only
  unfold doRes at h
  dsimp only at h
  split at h
  · split at h
    · rename_i hC
      cases h
      obtain ⟨hD, ⟨hN, hq⟩, hR⟩ := hC
      dsimp only at hD hq
      have hn := deal_n hM hD
      have hD' := hD
      unfold dealB at hD'
      simp only [Bool.and_eq_true, decide_eq_true_eq, Bool.not_eq_true'] at hD'
      have hst : 0 ≤ o.d.st ∧ o.d.st < c.chunk * c.rows := hD'.1.1.1.2
      have hun := room_used hR
      have hun : us + (o.d.n : Int) ≤ c.log := hun
      refine ⟨good_add hM hgd _ _ _ hst ⟨by omega, hn.2⟩ (by omega) hR, ⟨hxc, ⟨hxl.age, by unfold u32B; dsimp only; omega, hxl.tail, by unfold i64B; dsimp only; omega, ?_, ?_⟩, ?_⟩, 0, ?_⟩
      · intro z hz
        rcases List.mem_append.1 hz with hz | hz
        · exact hxl.live z hz
        · simp at hz; subst hz
          exact ⟨by unfold u32B; show 0 ≤ sq ∧ sq < _; omega, ho.d.st, by unfold i64B; show _ ≤ (o.d.n : Int) ∧ (o.d.n : Int) ≤ _; omega⟩
      · show (L ++ [_]).length ≤ 1000
        rw [List.length_append]; show L.length + 1 ≤ 1000; omega
      · refine .inr (.inr ⟨none, ?_, lvs_length _⟩)
        show AV.fz (L.length + 1) none _ = .fz (L ++ [_]).length none _
        rw [List.length_append]; rfl
      · refine ⟨rfl, .inr ⟨rfl, ?_⟩, Nat.zero_le _, fun k x h => absurd h (Nat.not_lt_zero k), ?_, ?_⟩
        · show (L ++ [_]).length + 0 = L.length + 1
          rw [List.length_append]; rfl
        · show tl = (tl + sumB (L.take 0)) % c.log
          rw [List.take_zero]
          show tl = (tl + 0) % c.log
          rw [Int.add_zero, Int.emod_eq_of_lt htl.1 htl.2]
        · intro k x _ hx
          have hx : L[k]? = some x := hx
          exact ⟨x, by show (L ++ [_])[k - 0]? = _; rw [Nat.sub_zero, List.getElem?_append_left (List.getElem?_eq_some_iff.1 hx).1]; exact hx, rfl, rfl, rfl, rfl, id, id⟩
    · cases h
  · split at h
    · cases h
      refine ⟨good_flush hgd, ⟨hxc, ⟨hxl.age, hxl.seq, hxl.tail, hxl.used, ?_, by show (L.map _).length ≤ 1000; rw [List.length_map]; exact hll⟩, lvV_sl hxv (List.length_map ..)⟩, 0, step_alike htl (alike_flush L) ?_⟩
      · intro z hz
        obtain ⟨y, hy, rfl⟩ := List.mem_map.1 hz
        have := hxl.live y hy
        exact ⟨this.seq, this.stripe, this.blocks⟩
      · intro k x y hx hy
        rw [List.getElem?_map, hx] at hy
        cases hy
        exact ⟨fun _ => rfl, id⟩
    · split at h
      · split at h
        · split at h
          · cases h
            have hlen : (homeL o.st L).length = L.length := hmI_length _ _ _
            refine ⟨good_home o.st hgd, ⟨hxc, ⟨hxl.age, hxl.seq, hxl.tail, hxl.used, ?_, by show (homeL o.st L).length ≤ 1000; rw [hlen]; exact hll⟩, lvV_sl hxv hlen⟩, 0, step_alike htl (alike_home o.st L) ?_⟩
            · intro z hz
              obtain ⟨k, hk⟩ := List.getElem?_of_mem (show z ∈ homeL o.st L from hz)
              rw [homeL_get] at hk
              cases hq : L[k]? with
              | none => rw [hq] at hk; cases hk
              | some y =>
                rw [hq] at hk; cases hk
                have := hxl.live y (List.mem_of_getElem? hq)
                have hs := homeX_same o.st L k y
                exact ⟨by rw [hs.1]; exact this.seq, by rw [hs.2.1]; exact this.stripe, by rw [hs.2.2.1]; exact this.blocks⟩
            · intro k x y hx hy
              rw [homeL_get, hx] at hy
              cases hy
              exact ⟨fun h => by rw [(homeX_same o.st L k x).2.2.2.2]; exact h, homeX_sure _ _ _ _⟩
          · cases h
        · cases h
      · split at h
        · cases h
        · cases h
          have hkl := mvK_le L
          have hT : 0 ≤ mvT c.log tl L (mvK L) ∧ mvT c.log tl L (mvK L) < c.log := by
            rw [mvT_eq htl _ hkl]
            exact ⟨Int.emod_nonneg _ (by omega), Int.emod_lt_of_pos _ (by omega)⟩
          have hg2 := good_drop hM hgd (mvK L) hkl _ hT
          have hu2 : mvU us L (mvK L) ≤ c.log := hg2.used
          have hu3 : mvU us L (mvK L) = sumB (L.drop (mvK L)) := hg2.sum
          have hu4 := sumB_bd (A := L.drop (mvK L)) (good_bd hM hg2)
          refine ⟨hg2, ⟨hxc, ⟨hxl.age, hxl.seq, by unfold i64B; dsimp only; omega, by unfold i64B; dsimp only; omega, fun z hz => hxl.live z (List.mem_of_mem_drop hz), by show (L.drop _).length ≤ 1000; rw [List.length_drop]; omega⟩, ?_⟩, mvK L, rfl, .inl ⟨rfl, ?_⟩, hkl, mvK_home, mvT_eq htl _ hkl, ?_⟩
          · generalize L.drop (mvK L) = N
            cases N with
            | nil => exact .inr (.inr ⟨_, rfl, rfl⟩)
            | cons z N => exact .inr (.inr ⟨_, rfl, lvs_length _⟩)
          · show (L.drop (mvK L)).length + mvK L = L.length
            rw [List.length_drop]; omega
          · intro k x hk hx
            have hx : L[k]? = some x := hx
            exact ⟨x, by show (L.drop (mvK L))[k - mvK L]? = _; rw [List.getElem?_drop, show mvK L + (k - mvK L) = k by omega]; exact hx, rfl, rfl, rfl, rfl, id, id⟩
end Go.AM

set_option linter.unusedVariables false
set_option maxRecDepth 100000
namespace Go.AM
attribute [local irreducible] W
open X
def code10 : AC := match a10 with | .mk c _ => c
structure LSIn (e : Env) : Prop where
  h30 : Con e 30 trueO
  h31 : Inl e 31 code31 [.tmp 2]
  h33 : Con e 33 lchkF.O
  h35 : Con e 35 onF.O
  h45 : Con e 45 longF.O
  h46 : Con e 46 doF.O
theorem doErr_ne (a : DI) : doErr a ≠ 0 := by
  unfold doErr
  split
  · split <;> decide
  · split
    · split <;> decide
    · decide
theorem lvs_drop_consS {L : List Lv} {i : Nat} (h : i < L.length) : (lvs L).drop (i * 6) = L[i].c ++ lvs (L.drop (i + 1)) := by
  rw [lvs_drop, List.drop_eq_getElem_cons h, lvs_cons]
theorem lvs_drop6 {L : List Lv} {i : Nat} (h : i < L.length) : takeL 6 ((lvs L).drop (i * 6)) = some L[i].c := lvs_take h
def osS (c : Cfg) (l : Log) (v : AV) : List AObj := [.row 24 [.int .u32 c.id, .int .i64 c.members, .int .i64 c.chunk, .int .i64 c.rows, .int .i64 c.log, .int .i64 c.heads], .row 56 [.int .u32 l.age, .int .u32 l.seq, .int .i64 l.tail, .int .i64 l.used, v]]
def osS3 (c : Cfg) (l : Log) (v : AV) (m : Log) (mv : AV) : List AObj := [.row 24 [.int .u32 c.id, .int .i64 c.members, .int .i64 c.chunk, .int .i64 c.rows, .int .i64 c.log, .int .i64 c.heads], .row 56 [.int .u32 l.age, .int .u32 l.seq, .int .i64 l.tail, .int .i64 l.used, v], .row 56 [.int .u32 m.age, .int .u32 m.seq, .int .i64 m.tail, .int .i64 m.used, mv]]
theorem hf_logc {l : Log} {v : AV} (h : AM.hf v = true) : hfs [.int .u32 l.age, .int .u32 l.seq, .int .i64 l.tail, .int .i64 l.used, v] = true := by
  show (true && (true && (true && (true && (AM.hf v && true))))) = true
  rw [h]; rfl
def loopsIn : AC → List AC
  | .loop b => b :: loopsIn b
  | .seq a b => loopsIn a ++ loopsIn b
  | .block _ b => loopsIn b
  | .cond _ a b => loopsIn a ++ loopsIn b
  | _ => []
def lp10 (n : Nat) : AC := ((loopsIn code10)[n]?).getD .skip
def tlS3 (ov : AV) (i k j : Nat) : List (Nat × AV) := [(2, ov), (3, .ptr 0 0), (4, .ptr 1 0), (7, .bool true), (8, .int .i64 (i : Int)), (9, .ptr 2 0), (12, .int .i64 (k : Int)), (17, .int .i64 (j : Int))]
theorem cmp_loop {P : Program} {e : Env} (hE : EnvOk P e) (hm : P.follows .mixedOrders = true) {c : Cfg} {mag lsq ltl lus msq mtl mus : Int} {L M : List Lv} {v mv ov : AV} {i k : Nat} (hov : AM.hf ov = true) (hv : LSl L v) (hmv : LSl M mv) (hl1 : L.length ≤ 1000) (hkL : k ≤ L.length)
    (s6 : ∀ (q : Nat) (x : Lv), k ≤ q → L[q]? = some x → ∃ y, M[q - k]? = some y ∧ y.seq = x.seq ∧ y.stripe = x.stripe ∧ y.blocks = x.blocks ∧ y.par = x.par ∧ (x.sure = true → y.sure = true) ∧ (x.home = true → y.home = true)) {Q : EQ}
    (hQ : Q (.exit 4) (putT 149 (.bool false) (putT 148 (.int .i64 (L.length : Int)) (putT 147 v (putT 146 (.ptr 1 (Nat.add 0 4)) (putT 145 (.int .i64 (L.length : Int)) (ofL (tlS3 ov i k L.length))))))) (allocs St0 (osS3 c ⟨mag, lsq, ltl, lus, L⟩ v ⟨mag, msq, mtl, mus, M⟩ mv)) []) :
    W P 0 none (.loop (lp10 2)) (ofL (tlS3 ov i k k)) (allocs St0 (osS3 c ⟨mag, lsq, ltl, lus, L⟩ v ⟨mag, msq, mtl, mus, M⟩ mv)) [] Q := by
  have hLf : hfs [.int .u32 mag, .int .u32 lsq, .int .i64 ltl, .int .i64 lus, v] = true := hf_logc (l := ⟨mag, lsq, ltl, lus, L⟩) hv.hf
  have hMf : hfs [.int .u32 mag, .int .u32 msq, .int .i64 mtl, .int .i64 mus, mv] = true := hf_logc (l := ⟨mag, msq, mtl, mus, M⟩) hmv.hf
  refine W.loopT (α := Nat) (fun j => tlS3 ov i k j) (fun _ => osS3 c ⟨mag, lsq, ltl, lus, L⟩ v ⟨mag, msq, mtl, mus, M⟩ mv) (fun j => L.length - j) (fun j => k ≤ j ∧ j ≤ L.length) k ⟨Nat.le_refl _, hkL⟩ Tells.refl ?_
  rintro j ⟨hj1, hj2⟩
  refine vw_sound hE hm ?_
  by_cases hjl : j < L.length
  · have hd6 := lvs_drop_consS hjl
    obtain ⟨y, hy, y1, y2, y3, y4, y5, y6⟩ := s6 j _ hj1 (List.getElem?_eq_getElem hjl)
    obtain ⟨hjm, hye⟩ := List.getElem?_eq_some_iff.1 hy
    have hdm : (lvs M).drop (((j : Int) - (k : Int)).toNat * 6) = y.c ++ lvs (M.drop (j - k + 1)) := by
      rw [show ((j : Int) - (k : Int)).toNat = j - k by omega, lvs_drop_consS hjm, hye]
    revert hd6 y1 y2 y3 y4 y5 y6
    generalize L[j] = x
    obtain ⟨x1, x2, x3, x4, x5, x6⟩ := x
    obtain ⟨z1, z2, z3, z4, z5, z6⟩ := y
    intro hd6 y1 y2 y3 y4 y5 y6
    dsimp only at y1 y2 y3 y4 y5 y6
    subst y1 y2 y3 y4
    have hd6 : (lvs L).drop (j * 6) = [.int .u32 z1, .int .i64 z2, .int .i64 z3, .bool z4, .bool x5, .bool x6] ++ lvs (L.drop (j + 1)) := hd6
    have hdm : (lvs M).drop (((j : Int) - (k : Int)).toNat * 6) = [.int .u32 z1, .int .i64 z2, .int .i64 z3, .bool z4, .bool z5, .bool z6] ++ lvs (M.drop (j - k + 1)) := hdm
    conv => whnf
    refine EPrim.lenZ rfl hv ?_
    conv => whnf
    refine EPrim.lss2 rfl rfl (fun _ => ?_) (fun h => by omega)
    conv => whnf
    refine EPrim.ixsS rfl hv rfl hjl ?_
    rw [hd6]
    conv => whnf
    refine ETake.eq (cs := [.int .u32 z1, .int .i64 z2, .int .i64 z3, .bool z4, .bool x5, .bool x6]) rfl ?_
    conv => whnf
    refine EPrim.subS (a := (j : Int)) (b := (k : Int)) rfl rfl (by omega) ?_
    conv => whnf
    refine EPrim.ixsZ (a := (j : Int) - (k : Int)) rfl hmv rfl (by omega) (by omega) ?_
    rw [hdm]
    conv => whnf
    refine ETake.eq (cs := [.int .u32 z1, .int .i64 z2, .int .i64 z3, .bool z4, .bool z5, .bool z6]) rfl ?_
    rcases (show x5 = false ∨ (x5 = true ∧ z5 = true) by cases x5 <;> simp_all) with rfl | ⟨rfl, rfl⟩ <;> rcases (show x6 = false ∨ (x6 = true ∧ z6 = true) by cases x6 <;> simp_all) with rfl | ⟨rfl, rfl⟩
    all_goals
      conv => whnf
      repeat' (first | (refine ETake.eq rfl ?_; conv => whnf) | (refine EPrim.eqb0 (a := z4) (b := z4) rfl rfl ?_; rw [beq_self_eq_true]; conv => whnf) | (refine EPrim.neq2 (a := z1) (b := z1) rfl rfl (fun h => absurd rfl h) (fun _ => ?_); conv => whnf) | (refine EPrim.neq2 (a := z2) (b := z2) rfl rfl (fun h => absurd rfl h) (fun _ => ?_); conv => whnf) | (refine EPrim.neq2 (a := z3) (b := z3) rfl rfl (fun h => absurd rfl h) (fun _ => ?_); conv => whnf) | ((first | refine w1 rfl rfl ?_ ?_ | refine w2 rfl rfl ?_ ?_ | refine w3 rfl rfl ?_ ?_ | refine w4 rfl rfl ?_ ?_ | refine w5 rfl rfl ?_ ?_ | refine w6 rfl rfl ?_ ?_) <;> intro _ <;> first | (exfalso; omega) | (conv => whnf)) | ((first | refine w7 rfl rfl (by omega) ?_ | refine w8 rfl rfl (by omega) ?_ | refine w9 rfl rfl (by omega) ?_ | refine w10 rfl rfl ?_ | refine w11 rfl rfl ?_ | refine w12 rfl ?_ | refine w13 rfl ?_ | refine w14 (q' := .i64) rfl (i64_in (by omega)) ?_ | refine w14 (q' := .u32) rfl (u32_in (by omega)) ?_ | refine w14 (q' := .u8) rfl (u8_in (by omega)) ?_ | refine w15 rfl rfl ?_ | refine w16 rfl ?_ | refine w17 rfl ?_ | refine w18 rfl ?_ | refine ⟨rfl, ?_⟩); conv => whnf) | (refine w19 rfl ?_ ?_ <;> intro hc <;> (try subst hc) <;> conv => whnf))
      refine ⟨j + 1, by omega, by omega, Abs.tells (rs := [0, 1, 2]) ⟨by decide, ⟨⟨hf_bd _ hov, by rw [hf_mapV _ hov]; rfl⟩, ⟨rfl, rfl⟩, ⟨rfl, rfl⟩, ⟨rfl, rfl⟩, ⟨rfl, rfl⟩, ⟨rfl, rfl⟩, ⟨rfl, rfl⟩, ⟨rfl, rfl⟩, trivial⟩, ⟨⟨rfl, rfl⟩, ⟨rowH hLf, by rw [mapRowH hLf]; rfl⟩, ⟨rowH hMf, by rw [mapRowH hMf]; rfl⟩, trivial⟩⟩⟩

  · have hjL : j = L.length := by omega
    subst hjL
    conv => whnf
    refine EPrim.lenZ rfl hv ?_
    conv => whnf
    refine EPrim.lss2 rfl rfl (fun h => by omega) (fun _ => ?_)
    conv => whnf
    exact hQ
theorem steps_law (P : Program) (e : Env) (hE : EnvOk P e) (hm : P.follows .mixedOrders = true) (hI : LSIn e) (c : Cfg) (ag sq tl us : Int) (L : List Lv) (v : AV) (hv : LSl L v) (ov : AV) (ops : List Op) (ho : OL.ok ⟨ov, ops⟩)
    (hok : L.length ≤ 1000 → CL.ok ⟨c, ⟨ag, sq, tl, us, L⟩, v⟩) :
    VW P e 0 code10 (initT [c.v, .agg [.int .u32 ag, .int .u32 sq, .int .i64 tl, .int .i64 us, v], ov] 0 .lf) St0 none [] (EEnd [.tmp 6] (fun u s => u = .bool true)) := by
  have hlg : ∀ (K : AV → St → Prop) (s : St), (longB ops = true → K (.bool true) s) → (longB ops = false → K (.bool false) s) → ESc e 45 [ov] s K := fun K s k1 k2 => by
    cases hq : longB ops
    · exact ESc.fam longF hI.h45 ⟨ov, ops⟩ ho (by show AV.bool _ = _; rw [hq]) (k2 hq)
    · exact ESc.fam longF hI.h45 ⟨ov, ops⟩ ho (by show AV.bool _ = _; rw [hq]) (k1 hq)
  have hov : AM.hf ov = true := ho.sl.hf
  have hos := ho.sl
  dsimp only at hos
  conv => whnf
  refine ESc.ov hI.h30 rfl ?_
  conv => whnf
  refine ESc.inl hI.h31 ?_
  conv => whnf
  refine EPrim.lenZ rfl hv ?_
  conv => whnf
  refine EPrim.gtr2 rfl rfl (fun hgg => ?_) (fun hgg => ?_) <;> conv => whnf
  · repeat' (first | ((first | refine w1 rfl rfl ?_ ?_ | refine w2 rfl rfl ?_ ?_ | refine w3 rfl rfl ?_ ?_ | refine w4 rfl rfl ?_ ?_ | refine w5 rfl rfl ?_ ?_ | refine w6 rfl rfl ?_ ?_) <;> intro _ <;> first | (exfalso; omega) | (conv => whnf)) | ((first | refine w7 rfl rfl (by omega) ?_ | refine w8 rfl rfl (by omega) ?_ | refine w9 rfl rfl (by omega) ?_ | refine w10 rfl rfl ?_ | refine w11 rfl rfl ?_ | refine w12 rfl ?_ | refine w13 rfl ?_ | refine w14 (q' := .i64) rfl (i64_in (by omega)) ?_ | refine w14 (q' := .u32) rfl (u32_in (by omega)) ?_ | refine w14 (q' := .u8) rfl (u8_in (by omega)) ?_ | refine w15 rfl rfl ?_ | refine w16 rfl ?_ | refine w17 rfl ?_ | refine w18 rfl ?_ | refine ⟨rfl, ?_⟩); conv => whnf) | (refine w19 rfl ?_ ?_ <;> intro hc <;> (try subst hc) <;> conv => whnf))
    rfl
  refine hlg _ _ (fun hg => ?_) (fun hg => ?_)
  · conv => whnf
    repeat' (first | ((first | refine w1 rfl rfl ?_ ?_ | refine w2 rfl rfl ?_ ?_ | refine w3 rfl rfl ?_ ?_ | refine w4 rfl rfl ?_ ?_ | refine w5 rfl rfl ?_ ?_ | refine w6 rfl rfl ?_ ?_) <;> intro _ <;> first | (exfalso; omega) | (conv => whnf)) | ((first | refine w7 rfl rfl (by omega) ?_ | refine w8 rfl rfl (by omega) ?_ | refine w9 rfl rfl (by omega) ?_ | refine w10 rfl rfl ?_ | refine w11 rfl rfl ?_ | refine w12 rfl ?_ | refine w13 rfl ?_ | refine w14 (q' := .i64) rfl (i64_in (by omega)) ?_ | refine w14 (q' := .u32) rfl (u32_in (by omega)) ?_ | refine w14 (q' := .u8) rfl (u8_in (by omega)) ?_ | refine w15 rfl rfl ?_ | refine w16 rfl ?_ | refine w17 rfl ?_ | refine w18 rfl ?_ | refine ⟨rfl, ?_⟩); conv => whnf) | (refine w19 rfl ?_ ?_ <;> intro hc <;> (try subst hc) <;> conv => whnf))
    rfl
  obtain ⟨hol, hog⟩ := long_small hg
  have hx := hok (by omega)
  conv => whnf
  repeat' (first | ((first | refine w1 rfl rfl ?_ ?_ | refine w2 rfl rfl ?_ ?_ | refine w3 rfl rfl ?_ ?_ | refine w4 rfl rfl ?_ ?_ | refine w5 rfl rfl ?_ ?_ | refine w6 rfl rfl ?_ ?_) <;> intro _ <;> first | (exfalso; omega) | (conv => whnf)) | ((first | refine w7 rfl rfl (by omega) ?_ | refine w8 rfl rfl (by omega) ?_ | refine w9 rfl rfl (by omega) ?_ | refine w10 rfl rfl ?_ | refine w11 rfl rfl ?_ | refine w12 rfl ?_ | refine w13 rfl ?_ | refine w14 (q' := .i64) rfl (i64_in (by omega)) ?_ | refine w14 (q' := .u32) rfl (u32_in (by omega)) ?_ | refine w14 (q' := .u8) rfl (u8_in (by omega)) ?_ | refine w15 rfl rfl ?_ | refine w16 rfl ?_ | refine w17 rfl ?_ | refine w18 rfl ?_ | refine ⟨rfl, ?_⟩); conv => whnf) | (refine w19 rfl ?_ ?_ <;> intro hc <;> (try subst hc) <;> conv => whnf))
  by_cases hG : (⟨c, ⟨ag, sq, tl, us, L⟩, v⟩ : CL).good
  · have hM : c.may := hG.1
    refine ESc.fam lchkF hI.h33 ⟨c, ⟨ag, sq, tl, us, L⟩, v⟩ hx (u := .int .i64 0) (by simp [lchkF, hG]) ?_
    conv => whnf
    repeat' (first | ((first | refine w1 rfl rfl ?_ ?_ | refine w2 rfl rfl ?_ ?_ | refine w3 rfl rfl ?_ ?_ | refine w4 rfl rfl ?_ ?_ | refine w5 rfl rfl ?_ ?_ | refine w6 rfl rfl ?_ ?_) <;> intro _ <;> first | (exfalso; omega) | (conv => whnf)) | ((first | refine w7 rfl rfl (by omega) ?_ | refine w8 rfl rfl (by omega) ?_ | refine w9 rfl rfl (by omega) ?_ | refine w10 rfl rfl ?_ | refine w11 rfl rfl ?_ | refine w12 rfl ?_ | refine w13 rfl ?_ | refine w14 (q' := .i64) rfl (i64_in (by omega)) ?_ | refine w14 (q' := .u32) rfl (u32_in (by omega)) ?_ | refine w14 (q' := .u8) rfl (u8_in (by omega)) ?_ | refine w15 rfl rfl ?_ | refine w16 rfl ?_ | refine w17 rfl ?_ | refine w18 rfl ?_ | refine ⟨rfl, ?_⟩); conv => whnf) | (refine w19 rfl ?_ ?_ <;> intro hc <;> (try subst hc) <;> conv => whnf))
    refine W.loopT (α := Nat × Log × AV) (fun x => [(2, ov), (3, .ptr 0 0), (4, .ptr 1 0), (7, .bool true), (8, .int .i64 (x.1 : Int))]) (fun x => osS c x.2.1 x.2.2) (fun x => ops.length - x.1)
      (fun x => x.1 ≤ ops.length ∧ CL.ok ⟨c, x.2.1, x.2.2⟩ ∧ GoodR ⟨x.2.1, c⟩) (0, ⟨ag, sq, tl, us, L⟩, v) ⟨Nat.zero_le _, hx, good_iff hG.2⟩
      (Abs.tells (rs := [0, 1]) ⟨by decide, ⟨⟨hf_bd _ hov, by rw [hf_mapV _ hov]; rfl⟩, ⟨rfl, rfl⟩, ⟨rfl, rfl⟩, ⟨rfl, rfl⟩, ⟨rfl, rfl⟩, trivial⟩, ⟨⟨rfl, rfl⟩, ⟨rowH (hf_logc hv.hf), by rw [mapRowH (hf_logc hv.hf)]; rfl⟩, trivial⟩⟩) ?_
    clear hx hG hok hgg hv hlg
    rintro ⟨i, l, v⟩ ⟨hi, hx, hgd⟩
    dsimp only at hi hx hgd ⊢
    refine vw_sound hE hm ?_
    by_cases hlt : i < ops.length
    · have hoi := ho.o _ (List.getElem_mem hlt)
      have hgi := hog _ (List.getElem_mem hlt)
      have hdrop := opsC_drop_cons hlt
      revert hoi hgi hdrop
      generalize ops[i] = o
      intro hoi hgi hdrop
      have hDI : DI.ok ⟨⟨c, l, v⟩, o⟩ := ⟨hx, ⟨hM, of_good hgd⟩, hoi, hgi⟩
      have hdo : ∀ (K : AV → St → Prop) (s : St), (∀ er : Int, er ≠ 0 → K (.tup [.agg (l.c v), .nils, .int .i64 er]) s) → (∀ m mv b, GoodR ⟨m, c⟩ → CL.ok ⟨c, m, mv⟩ → (∃ g, StepR c l m g) → K (.tup [.agg (m.c mv), b, .int .i64 0]) s) → ESc e 46 [c.v, .agg (l.c v), .agg o.c] s K := fun K s k1 k2 => by
        cases hq : doRes ⟨⟨c, l, v⟩, o⟩ with
        | none => exact ESc.fam doF hI.h46 ⟨⟨c, l, v⟩, o⟩ hDI (by show doOut _ = _; unfold doOut; rw [hq]) (k1 _ (doErr_ne _))
        | some r =>
          obtain ⟨m, mv, b⟩ := r
          obtain ⟨q1, q2, q3⟩ := do_spec hDI hq
          exact ESc.fam doF hI.h46 ⟨⟨c, l, v⟩, o⟩ hDI (by show doOut _ = _; unfold doOut; rw [hq]) (k2 m mv b q1 q2 q3)
      obtain ⟨ok, ost, ⟨st, sv, sl, bv, uz, bs, pv, pb⟩⟩ := o
      have hlvf : AM.hf v = true := hx.v.hf
      conv => whnf
      refine EPrim.lenZ rfl hos ?_
      conv => whnf
      refine EPrim.lss2 rfl rfl (fun _ => ?_) (fun h => by omega)
      conv => whnf
      refine EPrim.ixsS rfl hos rfl hlt ?_
      rw [hdrop]
      conv => whnf
      refine ETake.eq (cs := [.int .u8 ok, .int .i64 ost, .int .i64 st, sv, bv, pv]) rfl ?_
      conv => whnf
      refine hdo _ _ (fun er her => ?_) (fun m mv b hmg hmo hst => ?_)
      · conv => whnf
        repeat' (first | ((first | refine w1 rfl rfl ?_ ?_ | refine w2 rfl rfl ?_ ?_ | refine w3 rfl rfl ?_ ?_ | refine w4 rfl rfl ?_ ?_ | refine w5 rfl rfl ?_ ?_ | refine w6 rfl rfl ?_ ?_) <;> intro _ <;> first | (exfalso; omega) | (conv => whnf)) | ((first | refine w7 rfl rfl (by omega) ?_ | refine w8 rfl rfl (by omega) ?_ | refine w9 rfl rfl (by omega) ?_ | refine w10 rfl rfl ?_ | refine w11 rfl rfl ?_ | refine w12 rfl ?_ | refine w13 rfl ?_ | refine w14 (q' := .i64) rfl (i64_in (by omega)) ?_ | refine w14 (q' := .u32) rfl (u32_in (by omega)) ?_ | refine w14 (q' := .u8) rfl (u8_in (by omega)) ?_ | refine w15 rfl rfl ?_ | refine w16 rfl ?_ | refine w17 rfl ?_ | refine w18 rfl ?_ | refine ⟨rfl, ?_⟩); conv => whnf) | (refine w19 rfl ?_ ?_ <;> intro hc <;> (try subst hc) <;> conv => whnf))
        refine ⟨(i + 1, l, v), ⟨by dsimp only; omega, hx, hgd⟩, by dsimp only; omega, Abs.tells (rs := [0, 1]) ⟨by decide, ⟨⟨hf_bd _ hov, by rw [hf_mapV _ hov]; rfl⟩, ⟨rfl, rfl⟩, ⟨rfl, rfl⟩, ⟨rfl, rfl⟩, ⟨rfl, rfl⟩, trivial⟩, ⟨⟨rfl, rfl⟩, ⟨rowH (hf_logc hlvf), by rw [mapRowH (hf_logc hlvf)]; rfl⟩, trivial⟩⟩⟩
      · obtain ⟨g, hS⟩ := hst
        obtain ⟨lag, lsq, ltl, lus, L⟩ := l
        obtain ⟨mag, msq, mtl, mus, M⟩ := m
        obtain ⟨s1, s2, s3, s4, s5, s6⟩ := hS
        dsimp only at s1 s2 s3 s4 s5 s6
        subst s1
        have hv := hx.v
        have hmv := hmo.v
        have hmvf : AM.hf mv = true := hmv.hf
        dsimp only at hv hmv
        have hl1 : L.length ≤ 1000 := hx.l.len
        have hl2 : M.length ≤ 1000 := hmo.l.len
        have hq1 : 1 ≤ lsq ∧ lsq ≤ 2147483648 := hgd.seq
        have hq2 : 1 ≤ msq ∧ msq ≤ 2147483648 := hmg.seq
        have htl : 0 ≤ ltl ∧ ltl < c.log := hgd.tail
        have hlus : lus ≤ c.log := hgd.used
        have hsum : lus = sumB L := hgd.sum
        have hmay := hM
        unfold Cfg.may at hmay
        have hgone : (L.length : Int) + (msq - lsq) - (M.length : Int) = (g : Int) := by omega
        have hmG : (⟨c, ⟨mag, msq, mtl, mus, M⟩, mv⟩ : CL).good := ⟨hM, of_good hmg⟩
        have hgl : (g : Int) ≤ L.length := by omega
        conv => whnf
        repeat' (first | ((first | refine w1 rfl rfl ?_ ?_ | refine w2 rfl rfl ?_ ?_ | refine w3 rfl rfl ?_ ?_ | refine w4 rfl rfl ?_ ?_ | refine w5 rfl rfl ?_ ?_ | refine w6 rfl rfl ?_ ?_) <;> intro _ <;> first | (exfalso; omega) | (conv => whnf)) | ((first | refine w7 rfl rfl (by omega) ?_ | refine w8 rfl rfl (by omega) ?_ | refine w9 rfl rfl (by omega) ?_ | refine w10 rfl rfl ?_ | refine w11 rfl rfl ?_ | refine w12 rfl ?_ | refine w13 rfl ?_ | refine w14 (q' := .i64) rfl (i64_in (by omega)) ?_ | refine w14 (q' := .u32) rfl (u32_in (by omega)) ?_ | refine w14 (q' := .u8) rfl (u8_in (by omega)) ?_ | refine w15 rfl rfl ?_ | refine w16 rfl ?_ | refine w17 rfl ?_ | refine w18 rfl ?_ | refine ⟨rfl, ?_⟩); conv => whnf) | (refine w19 rfl ?_ ?_ <;> intro hc <;> (try subst hc) <;> conv => whnf))
        refine ESc.fam lchkF hI.h33 ⟨c, ⟨mag, msq, mtl, mus, M⟩, mv⟩ hmo (u := .int .i64 0) (by simp [lchkF, hmG]) ?_
        conv => whnf
        repeat' (first | (refine EPrim.neq2 (a := mag) (b := mag) rfl rfl (fun h => absurd rfl h) (fun _ => ?_); conv => whnf) | (refine EPrim.lss2 (a := msq) (b := lsq) rfl rfl (fun h => by omega) (fun _ => ?_); conv => whnf) | (refine EPrim.addU32S (a := lsq) (b := 1) rfl rfl (by omega) ?_; conv => whnf) | (refine EPrim.gtr2 (a := msq) (b := lsq + 1) rfl rfl (fun h => by omega) (fun _ => ?_); conv => whnf) | (refine EPrim.lenZ rfl hv ?_; conv => whnf) | (refine EPrim.subU32S (a := msq) (b := lsq) rfl rfl (by omega) ?_; conv => whnf) | (refine EPrim.addS (a := (L.length : Int)) (b := msq - lsq) rfl rfl (by omega) ?_; conv => whnf) | (refine EPrim.lenZ rfl hmv ?_; conv => whnf) | (refine EPrim.subS (a := (L.length : Int) + (msq - lsq)) (b := (M.length : Int)) rfl rfl (by omega) ?_; rw [hgone]; conv => whnf) | (refine EPrim.lss2 (a := (g : Int)) (b := 0) rfl rfl (fun h => by omega) (fun _ => ?_); conv => whnf) | (refine EPrim.gtr2 (a := (g : Int)) (b := (L.length : Int)) rfl rfl (fun h => by omega) (fun _ => ?_); conv => whnf) | ((first | refine w1 rfl rfl ?_ ?_ | refine w2 rfl rfl ?_ ?_ | refine w3 rfl rfl ?_ ?_ | refine w4 rfl rfl ?_ ?_ | refine w5 rfl rfl ?_ ?_ | refine w6 rfl rfl ?_ ?_) <;> intro _ <;> first | (exfalso; omega) | (conv => whnf)) | ((first | refine w7 rfl rfl (by omega) ?_ | refine w8 rfl rfl (by omega) ?_ | refine w9 rfl rfl (by omega) ?_ | refine w10 rfl rfl ?_ | refine w11 rfl rfl ?_ | refine w12 rfl ?_ | refine w13 rfl ?_ | refine w14 (q' := .i64) rfl (i64_in (by omega)) ?_ | refine w14 (q' := .u32) rfl (u32_in (by omega)) ?_ | refine w14 (q' := .u8) rfl (u8_in (by omega)) ?_ | refine w15 rfl rfl ?_ | refine w16 rfl ?_ | refine w17 rfl ?_ | refine w18 rfl ?_ | refine ⟨rfl, ?_⟩); conv => whnf) | (refine w19 rfl ?_ ?_ <;> intro hc <;> (try subst hc) <;> conv => whnf))
        have hbdL := good_bd hM hgd
        dsimp only at hbdL
        have hsb : ∀ k, 0 ≤ sumB (L.take k) ∧ sumB (L.take k) ≤ lus := fun k => by
          have h1 := sumB_bd (A := L.take k) (fun x hx => hbdL x (List.mem_of_mem_take hx))
          have h2 := sumB_bd (A := L.drop k) (fun x hx => hbdL x (List.mem_of_mem_drop hx))
          have h3 : sumB (L.take k) + sumB (L.drop k) = sumB L := by rw [← sumB_append, List.take_append_drop]
          omega
        have hLf : hfs [.int .u32 mag, .int .u32 lsq, .int .i64 ltl, .int .i64 lus, v] = true := hf_logc (l := ⟨mag, lsq, ltl, lus, L⟩) hlvf
        have hMf : hfs [.int .u32 mag, .int .u32 msq, .int .i64 mtl, .int .i64 mus, mv] = true := hf_logc (l := ⟨mag, msq, mtl, mus, M⟩) hmvf
        refine W.loopT (α := Nat) (fun k => [(2, ov), (3, .ptr 0 0), (4, .ptr 1 0), (7, .bool true), (8, .int .i64 (i : Int)), (9, .ptr 2 0), (12, .int .i64 (g : Int)), (13, .int .i64 (sumB (L.take k))), (14, .int .i64 (k : Int))]) (fun _ => osS3 c ⟨mag, lsq, ltl, lus, L⟩ v ⟨mag, msq, mtl, mus, M⟩ mv) (fun k => g - k) (fun k => k ≤ g) 0 (Nat.zero_le _)
          (Abs.tells (rs := [0, 1, 2]) ⟨by decide, ⟨⟨hf_bd _ hov, by rw [hf_mapV _ hov]; rfl⟩, ⟨rfl, rfl⟩, ⟨rfl, rfl⟩, ⟨rfl, rfl⟩, ⟨rfl, rfl⟩, ⟨rfl, rfl⟩, ⟨rfl, rfl⟩, ⟨rfl, rfl⟩, ⟨rfl, rfl⟩, trivial⟩, ⟨⟨rfl, rfl⟩, ⟨rowH hLf, by rw [mapRowH hLf]; rfl⟩, ⟨rowH hMf, by rw [mapRowH hMf]; rfl⟩, trivial⟩⟩) ?_
        intro k hk
        refine vw_sound hE hm ?_
        by_cases hkg : k < g
        · have hkl : k < L.length := by omega
          have hd6 := lvs_drop_consS hkl
          have hho := s4 k _ hkg (List.getElem?_eq_getElem hkl)
          have hbx := hbdL _ (List.getElem_mem hkl)
          have hst : sumB (L.take (k + 1)) = sumB (L.take k) + L[k].blocks := by
            rw [List.take_succ_eq_append_getElem hkl, sumB_append]
            show _ + (L[k].blocks + 0) = _
            rw [Int.add_zero]
          have hs0 := hsb k
          revert hd6 hho hst hbx
          generalize L[k] = x
          obtain ⟨x1, x2, x3, x4, x5, x6⟩ := x
          intro hd6 hho hbx hst
          have hd6 : (lvs L).drop (k * 6) = [.int .u32 x1, .int .i64 x2, .int .i64 x3, .bool x4, .bool x5, .bool x6] ++ lvs (L.drop (k + 1)) := hd6
          have hho : x6 = true := hho
          subst hho
          dsimp only at hst hbx
          conv => whnf
          refine EPrim.lss2 rfl rfl (fun _ => ?_) (fun h => by omega)
          conv => whnf
          refine EPrim.ixsS rfl hv rfl hkl ?_
          rw [hd6]
          conv => whnf
          refine EHead.mk rfl ?_
          conv => whnf
          refine EPrim.addS (a := sumB (L.take k)) (b := x3) rfl rfl (by omega) ?_
          conv => whnf
          refine EPrim.ixsS rfl hv rfl hkl ?_
          rw [hd6]
          conv => whnf
          refine EHead.mk rfl ?_
          conv => whnf
          repeat' (first | ((first | refine w1 rfl rfl ?_ ?_ | refine w2 rfl rfl ?_ ?_ | refine w3 rfl rfl ?_ ?_ | refine w4 rfl rfl ?_ ?_ | refine w5 rfl rfl ?_ ?_ | refine w6 rfl rfl ?_ ?_) <;> intro _ <;> first | (exfalso; omega) | (conv => whnf)) | ((first | refine w7 rfl rfl (by omega) ?_ | refine w8 rfl rfl (by omega) ?_ | refine w9 rfl rfl (by omega) ?_ | refine w10 rfl rfl ?_ | refine w11 rfl rfl ?_ | refine w12 rfl ?_ | refine w13 rfl ?_ | refine w14 (q' := .i64) rfl (i64_in (by omega)) ?_ | refine w14 (q' := .u32) rfl (u32_in (by omega)) ?_ | refine w14 (q' := .u8) rfl (u8_in (by omega)) ?_ | refine w15 rfl rfl ?_ | refine w16 rfl ?_ | refine w17 rfl ?_ | refine w18 rfl ?_ | refine ⟨rfl, ?_⟩); conv => whnf) | (refine w19 rfl ?_ ?_ <;> intro hc <;> (try subst hc) <;> conv => whnf))
          refine ⟨k + 1, by omega, by omega, Abs.tells (rs := [0, 1, 2]) ⟨by decide, ⟨⟨hf_bd _ hov, by rw [hf_mapV _ hov]; rfl⟩, ⟨rfl, rfl⟩, ⟨rfl, rfl⟩, ⟨rfl, rfl⟩, ⟨rfl, rfl⟩, ⟨rfl, rfl⟩, ⟨rfl, rfl⟩, ⟨rfl, by rw [hst]; rfl⟩, ⟨rfl, rfl⟩, trivial⟩, ⟨⟨rfl, rfl⟩, ⟨rowH hLf, by rw [mapRowH hLf]; rfl⟩, ⟨rowH hMf, by rw [mapRowH hMf]; rfl⟩, trivial⟩⟩⟩
        · have hkg : k = g := by omega
          subst hkg
          have hs0 := hsb k
          conv => whnf
          refine EPrim.lss2 rfl rfl (fun h => by omega) (fun _ => ?_)
          conv => whnf
          refine ESc.fam onF hI.h35 ⟨c.log, ltl, sumB (L.take k)⟩ ⟨by unfold i64B; dsimp only; omega, by unfold i64B; dsimp only; omega, by unfold i64B; dsimp only; omega⟩ (u := .tup [.int .i64 mtl, .int .i64 0]) (by
            have : onOk ⟨c.log, ltl, sumB (L.take k)⟩ = true := by unfold onOk hasB; dsimp only; rw [decide_eq_true (by omega), decide_eq_true (by omega), decide_eq_true (by omega)]; rfl
            show (if onOk _ then _ else _) = _; rw [if_pos this, s5]) ?_
          conv => whnf
          repeat' (first | (refine EPrim.neq2 (a := mtl) (b := mtl) rfl rfl (fun h => absurd rfl h) (fun _ => ?_); conv => whnf) | ((first | refine w1 rfl rfl ?_ ?_ | refine w2 rfl rfl ?_ ?_ | refine w3 rfl rfl ?_ ?_ | refine w4 rfl rfl ?_ ?_ | refine w5 rfl rfl ?_ ?_ | refine w6 rfl rfl ?_ ?_) <;> intro _ <;> first | (exfalso; omega) | (conv => whnf)) | ((first | refine w7 rfl rfl (by omega) ?_ | refine w8 rfl rfl (by omega) ?_ | refine w9 rfl rfl (by omega) ?_ | refine w10 rfl rfl ?_ | refine w11 rfl rfl ?_ | refine w12 rfl ?_ | refine w13 rfl ?_ | refine w14 (q' := .i64) rfl (i64_in (by omega)) ?_ | refine w14 (q' := .u32) rfl (u32_in (by omega)) ?_ | refine w14 (q' := .u8) rfl (u8_in (by omega)) ?_ | refine w15 rfl rfl ?_ | refine w16 rfl ?_ | refine w17 rfl ?_ | refine w18 rfl ?_ | refine ⟨rfl, ?_⟩); conv => whnf) | (refine w19 rfl ?_ ?_ <;> intro hc <;> (try subst hc) <;> conv => whnf))
          refine W.tells (Abs.tells (tl := tlS3 ov i k k) (os := osS3 c ⟨mag, lsq, ltl, lus, L⟩ v ⟨mag, msq, mtl, mus, M⟩ mv) (rs := [0, 1, 2]) ⟨by decide, ⟨⟨hf_bd _ hov, by rw [hf_mapV _ hov]; rfl⟩, ⟨rfl, rfl⟩, ⟨rfl, rfl⟩, ⟨rfl, rfl⟩, ⟨rfl, rfl⟩, ⟨rfl, rfl⟩, ⟨rfl, rfl⟩, ⟨rfl, rfl⟩, trivial⟩, ⟨⟨rfl, rfl⟩, ⟨rowH hLf, by rw [mapRowH hLf]; rfl⟩, ⟨rowH hMf, by rw [mapRowH hMf]; rfl⟩, trivial⟩⟩) (cmp_loop hE hm hov hv hmv hl1 (by omega) s6 ?_)
          conv => whnf
          repeat' (first | ((first | refine w1 rfl rfl ?_ ?_ | refine w2 rfl rfl ?_ ?_ | refine w3 rfl rfl ?_ ?_ | refine w4 rfl rfl ?_ ?_ | refine w5 rfl rfl ?_ ?_ | refine w6 rfl rfl ?_ ?_) <;> intro _ <;> first | (exfalso; omega) | (conv => whnf)) | ((first | refine w7 rfl rfl (by omega) ?_ | refine w8 rfl rfl (by omega) ?_ | refine w9 rfl rfl (by omega) ?_ | refine w10 rfl rfl ?_ | refine w11 rfl rfl ?_ | refine w12 rfl ?_ | refine w13 rfl ?_ | refine w14 (q' := .i64) rfl (i64_in (by omega)) ?_ | refine w14 (q' := .u32) rfl (u32_in (by omega)) ?_ | refine w14 (q' := .u8) rfl (u8_in (by omega)) ?_ | refine w15 rfl rfl ?_ | refine w16 rfl ?_ | refine w17 rfl ?_ | refine w18 rfl ?_ | refine ⟨rfl, ?_⟩); conv => whnf) | (refine w19 rfl ?_ ?_ <;> intro hc <;> (try subst hc) <;> conv => whnf))
          refine ⟨(i + 1, ⟨mag, msq, mtl, mus, M⟩, mv), ⟨by dsimp only; omega, hmo, hmg⟩, by dsimp only; omega, Abs.tells (rs := [0, 1]) ⟨by decide, ⟨⟨hf_bd _ hov, by rw [hf_mapV _ hov]; rfl⟩, ⟨rfl, rfl⟩, ⟨rfl, rfl⟩, ⟨rfl, rfl⟩, ⟨rfl, rfl⟩, trivial⟩, ⟨⟨rfl, rfl⟩, ⟨rowH hMf, by rw [mapRowH hMf]; rfl⟩, trivial⟩⟩⟩
    · conv => whnf
      refine EPrim.lenZ rfl hos ?_
      conv => whnf
      refine EPrim.lss2 rfl rfl (fun h => by omega) (fun _ => ?_)
      conv => whnf
      rfl
  · refine ESc.fam lchkF hI.h33 ⟨c, ⟨ag, sq, tl, us, L⟩, v⟩ hx (u := .int .i64 8) (by simp [lchkF, hG]) ?_
    conv => whnf
    repeat' (first | ((first | refine w1 rfl rfl ?_ ?_ | refine w2 rfl rfl ?_ ?_ | refine w3 rfl rfl ?_ ?_ | refine w4 rfl rfl ?_ ?_ | refine w5 rfl rfl ?_ ?_ | refine w6 rfl rfl ?_ ?_) <;> intro _ <;> first | (exfalso; omega) | (conv => whnf)) | ((first | refine w7 rfl rfl (by omega) ?_ | refine w8 rfl rfl (by omega) ?_ | refine w9 rfl rfl (by omega) ?_ | refine w10 rfl rfl ?_ | refine w11 rfl rfl ?_ | refine w12 rfl ?_ | refine w13 rfl ?_ | refine w14 (q' := .i64) rfl (i64_in (by omega)) ?_ | refine w14 (q' := .u32) rfl (u32_in (by omega)) ?_ | refine w14 (q' := .u8) rfl (u8_in (by omega)) ?_ | refine w15 rfl rfl ?_ | refine w16 rfl ?_ | refine w17 rfl ?_ | refine w18 rfl ?_ | refine ⟨rfl, ?_⟩); conv => whnf) | (refine w19 rfl ?_ ?_ <;> intro hc <;> (try subst hc) <;> conv => whnf))
    rfl
end Go.AM
