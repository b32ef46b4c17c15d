/-
  Functions of the program as the abstract machine reads them, and what is stated of them, checked by the kernel. No conditions.
-/
import Derived.Test.YtnnbibnobmegpaaSeatT
import Derived.Test.YtnnbibnobmegpaaSeatS
import Derived.Test.YtnnbibnobmegpaaSeatR
import Derived.Test.YtnnbibnobmegpaaSeatLH
set_option linter.unusedVariables false
set_option linter.unusedSimpArgs false

set_option linter.unusedVariables false
set_option linter.unusedSimpArgs false
set_option maxRecDepth 100000
namespace Go.AM
attribute [local irreducible] W
open X
structure Fd where
  n : Nt
  y : RdS
def Fd.c (f : Fd) : List AV := fC f.n.age f.n.seq f.n.stripe f.y
def Fd.m (f : Fd) : Nat := f.n.recs.length + 1
def fdsV (L : List Fd) : List AV := L.flatMap Fd.c
theorem fdsV_cons (f : Fd) (L : List Fd) : fdsV (f :: L) = f.c ++ fdsV L := rfl
theorem fdsV_app (L : List Fd) (f : Fd) : fdsV (L ++ [f]) = fdsV L ++ f.c := by
  unfold fdsV; rw [List.flatMap_append]; simp
theorem fdsV_length : ∀ (L : List Fd), (fdsV L).length = L.length * 6
  | [] => rfl
  | f :: L => by rw [fdsV_cons, List.length_append, fdsV_length L, List.length_cons]; show 6 + _ = _; omega
theorem hfs_fds : ∀ (L : List Fd), hfs (fdsV L) = true
  | [] => rfl
  | f :: L => by
    rw [fdsV_cons]
    have h1 : hfs f.c = true := hfs_fC _ _ _ _
    have h2 := hfs_fds L
    revert h1 h2
    generalize f.c = a
    generalize fdsV L = b
    induction a with
    | nil => intro _ h; exact h
    | cons x a ih =>
      intro h1 h2
      simp only [hfs, Bool.and_eq_true] at h1
      show (AM.hf x && hfs (a ++ b)) = true
      rw [h1.1, ih h1.2 h2]; rfl
def rdF (x : CDA) : Option Fd :=
  if askE x = 0 then
    (if rdGood (rbk x 0) = true ∧ (rdNote (rbk x 0)).id = x.c.id then
      (match rdGo (rbk x) (rdNote (rbk x 0)).recs (x.c.log.toNat - 1) 1 ⟨[], none⟩ with
        | none => none
        | some y => if CD.good ⟨x.c, (rdDB (rdNote (rbk x 0)).stripe y).d⟩ then some ⟨rdNote (rbk x 0), y⟩ else none)
    else none)
  else none
def errF (x : CDA) : Int := if askE x = 0 then 130 else askE x
theorem errF_ne (x : CDA) : errF x ≠ 0 := by unfold errF; split <;> simp [*]
theorem drOut_F (x : CDA) : drOut x = match rdF x with
    | some f => .tup [.agg f.c, .int .i64 (1 + (f.n.recs.length : Int)), .int .i64 0]
    | none => drErr (errF x) := by
  unfold drOut rdF errF
  by_cases h1 : askE x = 0
  · rw [if_pos h1, if_pos h1, if_pos h1]
    by_cases h2 : rdGood (rbk x 0) = true ∧ (rdNote (rbk x 0)).id = x.c.id
    · rw [if_pos h2, if_pos h2]
      cases h3 : rdGo (rbk x) (rdNote (rbk x 0)).recs (x.c.log.toNat - 1) 1 ⟨[], none⟩ with
      | none => rfl
      | some y =>
        show drEnd _ _ _ = match (if _ then some _ else none : Option Fd) with | some f => _ | none => _
        unfold drEnd
        by_cases h4 : CD.good ⟨x.c, (rdDB (rdNote (rbk x 0)).stripe y).d⟩
        · rw [if_pos h4, if_pos h4]; rfl
        · rw [if_neg h4, if_neg h4]
    · rw [if_neg h2, if_neg h2]
  · rw [if_neg h1, if_neg h1, if_neg h1]
theorem rd_call {e : Env} (h23 : Con e 23 drF.O) {x : CDA} (hx : x.ok) (K : AV → St → Prop) (s : St) (k1 : rdF x = none → K (drErr (errF x)) s)
    (k2 : ∀ f, rdF x = some f → K (.tup [.agg f.c, .int .i64 (1 + (f.n.recs.length : Int)), .int .i64 0]) s) : ESc e 23 x.args s K := by
  refine ESc.fam drF h23 x hx rfl ?_
  show K (drOut x) s
  rw [drOut_F]
  cases h : rdF x with
  | none => exact k1 h
  | some f => exact k2 f h
structure FdG (x : CDA) (f : Fd) : Prop where
  ask : askE x = 0
  good : rdGood (rbk x 0) = true
  id : (rdNote (rbk x 0)).id = x.c.id
  n : f.n = rdNote (rbk x 0)
  go : rdGo (rbk x) f.n.recs (x.c.log.toNat - 1) 1 ⟨[], none⟩ = some f.y
  cd : CD.good ⟨x.c, (rdDB f.n.stripe f.y).d⟩
theorem rdF_some {x : CDA} {f : Fd} (h : rdF x = some f) : FdG x f := by
  unfold rdF at h
  split at h
  · rename_i h1
    split at h
    · rename_i h2
      split at h
      · cases h
      · rename_i y h3
        split at h
        · rename_i h4
          cases h
          exact ⟨h1, h2.1, h2.2, rfl, h3, h4⟩
        · cases h
    · cases h
  · cases h
theorem FdG.recs {x : CDA} {f : Fd} (h : FdG x f) : f.n.recs.length ≤ 17 := by
  rw [h.n]
  have : (rdNote (rbk x 0)).recs.length = rdCnt (rbk x 0) := ntB_len (rbk x 0)
  rw [this]; exact Nat.min_le_right _ _
end Go.AM

set_option linter.unusedVariables false
set_option linter.unusedSimpArgs false
set_option maxRecDepth 100000
namespace Go.AM
attribute [local irreducible] W
open X
structure CK where
  c : Cfg
  d : DK
structure CK.ok (x : CK) : Prop where
  c : x.c.ok
  d : x.d.ok
def CK.args (x : CK) : List AV := [x.c.v, x.d.v]
theorem CK.inja {x y : CK} (hx : x.ok) (hy : y.ok) (h : x.args = y.args) : x = y := by
  obtain ⟨c, d⟩ := x
  obtain ⟨c', d'⟩ := y
  have h0 := Cfg.injv (List.cons.inj h).1
  have h1 := DK.inj hx.d.a hy.d.a (List.cons.inj (List.cons.inj h).2).1
  dsimp only at h0 h1
  rw [h0, h1]
theorem CK.hfa {x : CK} (hx : x.ok) : hfs x.args = true := by
  show (AM.hf x.c.v && (AM.hf x.d.v && true)) = true
  rw [DK.hf hx.d.a]; rfl
def fstB (x : DK) : List Nat := pad (drdB x 0)
def supC (b : List Nat) : List AV := [.int .u32 ((rdSup b).1 : Int), .int .u32 ((rdSup b).2.1 : Int), .int .u32 ((rdSup b).2.2.1 : Int), .int .i64 ((rdSup b).2.2.2 : Int)]
def fstG (c : Cfg) (b : List Nat) : Bool := rdOk b && (decide (((rdSup b).1 : Int) = c.id) && decide (((rdSup b).2.2.2 : Int) < c.log))
def fstE (x : CK) : Int := if x.c.may then (if dskB x.d = true ∧ (x.d.us.length : Int) = x.c.log + 1 then (if x.d.dead then 40 else if fstG x.c (fstB x.d) = true then 0 else 90) else 8) else 8
def fstOut (x : CK) : AV := if fstE x = 0 then .tup [.agg (supC (fstB x.d)), .int .i64 0] else .tup [.agg z4, .int .i64 (fstE x)]
theorem hf_fstOut (x : CK) : AM.hf (fstOut x) = true := by unfold fstOut; split <;> rfl
def fstF : Fam CK := ⟨CK.ok, CK.args, fstOut, fun x y hx hy h => by rw [CK.inja hx hy h]⟩
theorem readO_row {s : St} {r n e : Nat} {c : Option Nat} {bs : List Nat} (h : s.get r = some (.row e (bys bs))) (hn : bs.length = n) (hb : ∀ b ∈ bs, b < 256) : readO [.sl r 0 n c] s = .ok (readV bs) s := by
  have hbo : ∀ {bs : List Nat}, (∀ b ∈ bs, b < 256) → bytesOf (bys bs) = some bs := by
    intro bs
    induction bs with
    | nil => intro _; rfl
    | cons b bs ih =>
      intro h
      show (Bool.rec none (Option.rec none (fun r => some (b :: r)) (bytesOf (bys bs))) (Nat.blt b 256) : Option (List Nat)) = _
      rw [ih (fun x hx => h x (by simp [hx])), show Nat.blt b 256 = true by simpa using h b (by simp)]
  show (Option.rec .fail (fun bs => .ok (readV bs) s) (bytesAt s (.sl r 0 n c)) : RV) = _
  have : bytesAt s (.sl r 0 n c) = some bs := by
    show (Option.rec none bytesOf (load r 0 n s) : Option (List Nat)) = _
    rw [load_full h (by rw [bys_length]; exact hn)]
    exact hbo hb
  rw [this]
theorem fstF_ok {P : Program} {e : Env} {fn : Func} (hE : EnvOk P e) (hm : P.follows .mixedOrders = true) (h104 : Con e 104 journalF.O) (h101 : Con e 101 dskF.O) (h51 : Con e 51 drdV) (h41 : Con e 41 readO) (hf : P.funcs[73]? = some fn) (hc : compF P fn = some a73) (hb : HasBody P 73) : OvOk P 73 fstF.O := by
  refine Fam.ok_of hb fun x hx => ?_
  refine ⟨CK.hfa hx, hf_fstOut x, C.of_V hE hm hf hc ?_⟩
  have fin0 : ∀ s a b c d, fstE x = 0 → rdSup (fstB x.d) = (a, b, c, d) → Frz s (.tup [.agg [.int .u32 (a : Int), .int .u32 (b : Int), .int .u32 (c : Int), .int .i64 (d : Int)], .int .i64 0]) (fstF.out x) := fun s a b c d h hs => by
    show Frz s _ (if fstE x = 0 then _ else _); rw [if_pos h]
    unfold supC; rw [hs]; exact .plain _ rfl
  have fin1 : ∀ s n, fstE x = n → n ≠ 0 → Frz s (.tup [.agg [.int .u32 0, .int .u32 0, .int .u32 0, .int .i64 0], .int .i64 n]) (fstF.out x) := fun s n h hn => by
    show Frz s _ (if fstE x = 0 then _ else _); rw [if_neg (by rw [h]; exact hn), h]; exact .plain _ rfl
  have hdk := hx.d
  have hcok := hx.c
  have hbl := hx.d.a.bl
  have hwl := hx.d.a.wl
  have hun := hx.d.n
  have hdr : ∀ s, zB (s.get 4) = false → dskB x.d = true → 1 ≤ x.d.us.length → drdV [x.d.v, .int .i64 0] s = if x.d.dead = true then .ok (.tup [.nils, .int .i64 40]) s else .ok (.tup [.sl (0 + s.next) 0 128 (cpD (drdB x.d 0)), .int .i64 0]) (s.alloc (.row 5 (bys (fstB x.d)))) := fun s hz hD hl => by
    have hok : DKA.ok ⟨x.d, 0⟩ := ⟨hx.d, by unfold i64B; dsimp only; omega⟩
    have he : DKA.e ⟨x.d, 0⟩ = if x.d.dead = true then 40 else 0 := by
      show drdE x.d 0 = _
      unfold drdE
      rw [if_pos hD, if_pos (by omega)]
    have := drdO_run hok s
    show drdV (DKA.args ⟨x.d, 0⟩) s = _
    unfold drdV
    rw [if_neg (by rw [hz]; decide), this, he]
    cases x.d.dead <;> rfl
  have hpb : dskB x.d = true → 1 ≤ x.d.us.length → (fstB x.d).length = 128 ∧ ∀ y ∈ fstB x.d, y < 256 := fun hD hl => by
    obtain ⟨b1, b2⟩ := drdB_ok hx.d hD (p := 0) (by omega)
    exact ⟨pad_len128 b1, pad_lt b2⟩
  obtain ⟨c, d⟩ := x
  obtain ⟨id, mb, ch, rw', lg, hd⟩ := c
  dsimp only at hdk hcok hbl hwl hun hdr hpb
  have hlg := hcok.log
  have hidb := hcok.id
  dsimp only at hlg hidb
  unfold fstE at fin0 fin1
  unfold fstG at fin0 fin1
  dsimp only at fin0 fin1
  obtain ⟨D, hD⟩ : ∃ D, D = dskB d := ⟨_, rfl⟩
  have hDo : dskF.out d = .int .i64 (if D = true then 0 else 8) := by rw [hD]; rfl
  rw [← hD] at fin0 fin1 hdr hpb
  unfold i64B at hlg
  obtain ⟨cp, hcp⟩ : ∃ cp, cp = cpD (drdB d 0) := ⟨_, rfl⟩
  rw [← hcp] at hdr
  obtain ⟨B, hB⟩ : ∃ B, B = fstB d := ⟨_, rfl⟩
  rw [← hB] at fin0 fin1 hdr hpb
  obtain ⟨⟨si, sa, sq, st⟩, hS⟩ : ∃ q, q = rdSup B := ⟨_, rfl⟩
  rw [← hS] at fin0 fin1
  dsimp only at fin0 fin1
  obtain ⟨G, hG⟩ : ∃ G, G = rdOk B := ⟨_, rfl⟩
  rw [← hG] at fin0 fin1
  obtain ⟨bv, us, bs, wv, ws, dd⟩ := d
  dsimp only at hbl hwl hun fin0 fin1 hdr hpb
  have hdr : ∀ s, zB (s.get 4) = false → D = true → 1 ≤ us.length → drdV [.agg [bv, wv, .bool dd], .int .i64 0] s = if dd = true then .ok (.tup [.nils, .int .i64 40]) s else .ok (.tup [.sl (0 + s.next) 0 128 cp, .int .i64 0]) (s.alloc (.row 5 (bys B))) := hdr
  have hro : ∀ s r, s.get r = some (.row 5 (bys B)) → D = true → 1 ≤ us.length → readO [.sl r 0 128 cp] s = .ok (if G = true then .tup [.agg [.int .u32 (si : Int), .int .u32 (sa : Int), .int .u32 (sq : Int), .int .i64 (st : Int)], .int .i64 0] else .tup [.agg z4, .int .i64 90]) s := fun s r hg hDD hl => by
    obtain ⟨p1, p2⟩ := hpb hDD hl
    rw [readO_row hg p1 p2]
    unfold readV
    rw [if_neg (by omega), ← hG, ← hS]
  clear hB hcp hD hpb
  show VW P e 0 (match a73 with | .mk c _ => c) (initT [.agg [.int .u32 id, .int .i64 mb, .int .i64 ch, .int .i64 rw', .int .i64 lg, .int .i64 hd], .agg [bv, wv, .bool dd]] 0 .lf) St0 none [] _
  conv => whnf
  by_cases hM : Cfg.may ⟨id, mb, ch, rw', lg, hd⟩
  · rw [if_pos hM] at fin0 fin1
    have hJ : journalF.out ⟨id, mb, ch, rw', lg, hd⟩ = .tup [.int .i64 (lg + 1), .int .i64 0] := by
      show AV.tup [.int .i64 (if _ then _ else _), .int .i64 (if _ then _ else _)] = _
      rw [if_pos hM, if_pos hM]
    have hlg2 := Cfg.may_log hM
    dsimp only at hlg2
    refine ESc.fam journalF h104 ⟨id, mb, ch, rw', lg, hd⟩ hcok (u := .tup [.int .i64 (lg + 1), .int .i64 0]) hJ ?_
    conv => whnf
    refine EPrim.neq2 (a := 0) (b := 0) rfl rfl (fun h => absurd rfl h) (fun _ => ?_)
    conv => whnf
    cases D
    · refine ESc.fam dskF h101 ⟨bv, us, bs, wv, ws, dd⟩ hdk (u := .int .i64 8) hDo ?_
      conv => whnf
      repeat' (first | ((refine w6 rfl rfl ?_ ?_) <;> intro _ <;> first | (exfalso; omega) | (conv => whnf)) | fail)
      exact fin1 _ 8 (by rw [if_neg (by simp)]) (by decide)
    · refine ESc.fam dskF h101 ⟨bv, us, bs, wv, ws, dd⟩ hdk (u := .int .i64 0) hDo ?_
      conv => whnf
      refine EPrim.neq2 (a := 0) (b := 0) rfl rfl (fun h => absurd rfl h) (fun _ => ?_)
      conv => whnf
      refine EPrim.lenZ rfl hbl ?_
      conv => whnf
      refine EPrim.neq2 (a := (us.length : Int)) (b := lg + 1) rfl rfl (fun hne => ?_) (fun heq => ?_)
      · conv => whnf
        skip
        exact fin1 _ 8 (by rw [if_neg (fun h => hne h.2)]) (by decide)
      · rw [if_pos ⟨rfl, heq⟩] at fin0 fin1
        have hl1 : 1 ≤ us.length := by omega
        conv => whnf
        cases dd
        · refine ESc.ov h51 (hdr _ rfl rfl hl1) ?_
          conv => whnf
          refine EPrim.neq2 (a := 0) (b := 0) rfl rfl (fun h => absurd rfl h) (fun _ => ?_)
          conv => whnf
          cases G
          · refine ESc.ov h41 (hro _ _ rfl rfl hl1) ?_
            conv => whnf
            repeat' (first | ((refine w6 rfl rfl ?_ ?_) <;> intro _ <;> first | (exfalso; omega) | (conv => whnf)) | fail)
            exact fin1 _ 90 (by simp) (by decide)
          · refine ESc.ov h41 (hro _ _ rfl rfl hl1) ?_
            conv => whnf
            refine EPrim.neq2 (a := 0) (b := 0) rfl rfl (fun h => absurd rfl h) (fun _ => ?_)
            conv => whnf
            refine EPrim.neq2 (a := (si : Int)) (b := id) rfl rfl (fun hne => ?_) (fun hid => ?_)
            · conv => whnf
              skip
              exact fin1 _ 90 (by simp [hne]) (by decide)
            · conv => whnf
              refine EPrim.geq2 (a := (st : Int)) (b := lg) rfl rfl (fun hge => ?_) (fun hlt => ?_)
              · conv => whnf
                skip
                exact fin1 _ 90 (by simp [hid]; omega) (by decide)
              · conv => whnf
                skip
                exact fin0 _ _ _ _ _ (by simp [hid]; omega) rfl
        · refine ESc.ov h51 (hdr _ rfl rfl hl1) ?_
          conv => whnf
          repeat' (first | ((refine w6 rfl rfl ?_ ?_) <;> intro _ <;> first | (exfalso; omega) | (conv => whnf)) | fail)
          exact fin1 _ 40 (by simp) (by decide)
  · rw [if_neg hM] at fin0 fin1
    have hJ : journalF.out ⟨id, mb, ch, rw', lg, hd⟩ = .tup [.int .i64 0, .int .i64 8] := by
      show AV.tup [.int .i64 (if _ then _ else _), .int .i64 (if _ then _ else _)] = _
      rw [if_neg hM, if_neg hM]
    refine ESc.fam journalF h104 ⟨id, mb, ch, rw', lg, hd⟩ hcok (u := .tup [.int .i64 0, .int .i64 8]) hJ ?_
    conv => whnf
    repeat' (first | ((refine w6 rfl rfl ?_ ?_) <;> intro _ <;> first | (exfalso; omega) | (conv => whnf)) | fail)
    exact fin1 _ 8 rfl (by decide)
end Go.AM

set_option linter.unusedVariables false
set_option linter.unusedSimpArgs false
set_option maxRecDepth 100000
namespace Go.AM
attribute [local irreducible] W
open X
def scG (rd : Nat → Option Fd) (m : Nat) (ag sq : Int) : Nat → Nat → Nat → List Fd
  | 0, _, _ => []
  | k + 1, u, i => if u < m then (match rd u with
    | none => []
    | some f => if u + f.n.recs.length + 1 ≤ m ∧ f.n.seq = (sq + (i : Int)) % 4294967296 ∧ f.n.age = ag then f :: scG rd m ag sq k (u + f.n.recs.length + 1) (i + 1) else []) else []
theorem scG_fuel (rd : Nat → Option Fd) (m : Nat) (ag sq : Int) : ∀ (k k' u i : Nat), m < u + k → m < u + k' → scG rd m ag sq k u i = scG rd m ag sq k' u i
  | 0, 0, _, _, _, _ => rfl
  | 0, k' + 1, u, i, h, _ => by
    show [] = if u < m then _ else _
    rw [if_neg (by omega)]
  | k + 1, 0, u, i, _, h => by
    show (if u < m then _ else _) = []
    rw [if_neg (by omega)]
  | k + 1, k' + 1, u, i, h, h' => by
    show (if u < m then _ else _) = (if u < m then _ else _)
    by_cases hu : u < m
    · rw [if_pos hu, if_pos hu]
      cases rd u with
      | none => rfl
      | some f =>
        show (if _ then _ else _) = (if _ then _ else _)
        split
        · rw [scG_fuel rd m ag sq k k' _ _ (by omega) (by omega)]
        · rfl
    · rw [if_neg hu, if_neg hu]
def scL (rd : Nat → Option Fd) (m : Nat) (ag sq : Int) (u i : Nat) : List Fd := scG rd m ag sq (m + 1) u i
theorem scL_end {rd : Nat → Option Fd} {m : Nat} {ag sq : Int} {u i : Nat} (h : ¬ u < m) : scL rd m ag sq u i = [] := by
  show (if u < m then _ else _) = _; rw [if_neg h]
theorem scL_none {rd : Nat → Option Fd} {m : Nat} {ag sq : Int} {u i : Nat} (h : rd u = none) : scL rd m ag sq u i = [] := by
  show (if u < m then _ else _) = _
  split
  · rw [h]
  · rfl
theorem scL_no {rd : Nat → Option Fd} {m : Nat} {ag sq : Int} {u i : Nat} {f : Fd} (h : rd u = some f) (hn : ¬ (u + f.n.recs.length + 1 ≤ m ∧ f.n.seq = (sq + (i : Int)) % 4294967296 ∧ f.n.age = ag)) : scL rd m ag sq u i = [] := by
  show (if u < m then _ else _) = _
  split
  · rw [h]
    show (if _ then _ else _) = _
    rw [if_neg hn]
  · rfl
theorem scL_yes {rd : Nat → Option Fd} {m : Nat} {ag sq : Int} {u i : Nat} {f : Fd} (h : rd u = some f) (hu : u < m) (hn : u + f.n.recs.length + 1 ≤ m ∧ f.n.seq = (sq + (i : Int)) % 4294967296 ∧ f.n.age = ag) : scL rd m ag sq u i = f :: scL rd m ag sq (u + f.n.recs.length + 1) (i + 1) := by
  show (if u < m then _ else _) = _
  rw [if_pos hu, h]
  show (if _ then _ else _) = _
  rw [if_pos hn]
  congr 1
  exact scG_fuel rd m ag sq _ _ _ _ (by omega) (by omega)
def lsV (L : List Fd) : AV := match L with
  | [] => .nils
  | f :: L => .fz (L.length + 1) none (fdsV (f :: L))
def supAg (b : List Nat) : Int := ((rdSup b).2.1 : Int)
def supSq (b : List Nat) : Int := ((rdSup b).2.2.1 : Int)
def supTl (b : List Nat) : Int := ((rdSup b).2.2.2 : Int)
def allL (x : CK) : List Fd := scL (fun u => rdF ⟨x.c, x.d, (supTl (fstB x.d) + (u : Int)) % x.c.log⟩) x.c.log.toNat (supAg (fstB x.d)) (supSq (fstB x.d)) 0 0
def allOut (x : CK) : AV := if fstE x = 0 then .tup [.agg (supC (fstB x.d)), lsV (allL x), .int .i64 0] else .tup [.agg z4, .nils, .int .i64 (fstE x)]
theorem hf_lsV (L : List Fd) : AM.hf (lsV L) = true := by cases L <;> rfl
theorem hf_allOut (x : CK) : AM.hf (allOut x) = true := by
  unfold allOut; split
  · show (true && (AM.hf (lsV _) && (true && true))) = true
    rw [hf_lsV]; rfl
  · rfl
def allF : Fam CK := ⟨CK.ok, CK.args, allOut, fun x y hx hy h => by rw [CK.inja hx hy h]⟩
def code27 : AC := match a27 with | .mk c _ => c
def code74 : AC := match a74 with | .mk c _ => c
def code118 : AC := match a118 with | .mk c _ => c
def asg27 : AC := match rngIn code27 with | some (a, _) => a | none => .skip
def body27 : AC := match rngIn code27 with | some (_, b) => b | none => .skip
def tlA : List (Nat × AV) := [(2, .ptr 0 0), (3, .ptr 1 0), (4, .ptr 2 0), (5, .ptr 3 0), (6, .int .i64 0), (23, .fn 117 [] [.ptr 4 0, .ptr 6 0, .ptr 5 0])]
noncomputable def osA0 (C D S : List AV) (lv : AV) (tl : Int) : List AObj := [.row 24 C, .row 28 D, .row 46 S, .row 47 [lv], .row 24 C, .row 28 D, .row 3 [.int .i64 tl], .defd, .loop .ready none 0 (ofL tlA) [24, 25] asg27 body27 7]
noncomputable def osA (C D S : List AV) (tl : Int) (u : Nat) : List Fd → List AObj
  | [] => osA0 C D S .nils tl ++ [.row 182 [.yld 8], .row 3 [.int .i64 (u : Int)]]
  | f :: L => osA0 C D S (.sl 11 0 (L.length + 1) none) tl ++ [.row 182 [.yld 8], .row 3 [.int .i64 (u : Int)], .row 36 (fdsV (f :: L))]
def tlQ : List (Nat × AV) := [(0, .yld 8), (1, .ptr 4 0), (2, .ptr 6 0), (3, .ptr 5 0), (4, .ptr 9 0), (5, .ptr 10 0), (6, .fn 118 [] [.ptr 4 0, .ptr 6 0, .ptr 10 0, .ptr 5 0, .ptr 9 0])]
def slA (r : Nat) (L : List Fd) : AV := match L with
  | [] => .nils
  | f :: L => .sl r 0 (L.length + 1) none
theorem osA_app {C D S : List AV} {tl : Int} {u : Nat} (L : List Fd) (f : Fd) : osA C D S tl u (L ++ [f]) = osA0 C D S (.sl 11 0 (L.length + 1) none) tl ++ [.row 182 [.yld 8], .row 3 [.int .i64 (u : Int)], .row 36 (fdsV L ++ f.c)] := by
  rw [← fdsV_app]
  cases L with
  | nil => rfl
  | cons q L => show osA0 C D S (.sl 11 0 ((L ++ [f]).length + 1) none) tl ++ _ = _; rw [List.length_append]; rfl
theorem all_main {P : Program} {e : Env} {fn : Func} (hE : EnvOk P e) (hm : P.follows .mixedOrders = true) (h35 : Con e 35 onF.O) (h74 : Inl e 74 code74 [.tmp 6]) (h118 : Inl e 118 code118 [.tmp 5])
    (hf : P.funcs[117]? = some fn) (hcf : compF P fn = some a117) (hb : HasBody P 117) {id mb ch rw' lg hdd : Int} {bv wv : AV} {dd : Bool} (hdf : hfs [bv, wv, .bool dd] = true) {si ag sq tl : Int} {m : Nat} (hlg : lg = (m : Int)) (hm255 : 12 ≤ m ∧ m ≤ 255) (htl : 0 ≤ tl ∧ tl < lg) (hag : u32B ag) (hsq : u32B sq)
    (hfst : ∀ (s : St) (K : AV → St → Prop), K (.tup [.agg [.int .u32 si, .int .u32 ag, .int .u32 sq, .int .i64 tl], .int .i64 0]) s → ESc e 73 [.agg [.int .u32 id, .int .i64 mb, .int .i64 ch, .int .i64 rw', .int .i64 lg, .int .i64 hdd], .agg [bv, wv, .bool dd]] s K)
    (rd : Nat → Option Fd) (hrd : ∀ u, u < m → (rd u = none → ∃ n, n ≠ 0 ∧ ∀ (s : St) (K : AV → St → Prop), K (drErr n) s → ESc e 23 [.agg [.int .u32 id, .int .i64 mb, .int .i64 ch, .int .i64 rw', .int .i64 lg, .int .i64 hdd], .agg [bv, wv, .bool dd], .int .i64 ((tl + (u : Int)) % lg)] s K) ∧
      (∀ f, rd u = some f → f.n.recs.length ≤ 17 ∧ u32B f.n.age ∧ u32B f.n.seq ∧ ∀ (s : St) (K : AV → St → Prop), K (.tup [.agg f.c, .int .i64 (1 + (f.n.recs.length : Int)), .int .i64 0]) s → ESc e 23 [.agg [.int .u32 id, .int .i64 mb, .int .i64 ch, .int .i64 rw', .int .i64 lg, .int .i64 hdd], .agg [bv, wv, .bool dd], .int .i64 ((tl + (u : Int)) % lg)] s K))
    {K : AV → St → Prop} (hk : ∀ s L, scL rd m ag sq 0 0 = L → (∀ f M, L = f :: M → s.get 11 = some (.row 36 (fdsV L))) → K (.tup [.agg [.int .u32 si, .int .u32 ag, .int .u32 sq, .int .i64 tl], slA 11 L, .int .i64 0]) s) :
    VW P e 0 code27 (initT [.agg [.int .u32 id, .int .i64 mb, .int .i64 ch, .int .i64 rw', .int .i64 lg, .int .i64 hdd], .agg [bv, wv, .bool dd]] 0 .lf) St0 none [] (EEnd [.cells 4 4, .cell 5, .tmp 6] K) := by
  conv => whnf
  refine hfst _ _ ?_
  conv => whnf
  repeat' (first | (refine ESc.inl h74 ?_; conv => whnf) | ((refine w6 rfl rfl ?_ ?_) <;> intro _ <;> first | (exfalso; omega) | (conv => whnf)) | fail)
  refine W.tells (Abs.tells (tl := tlA) (os := [.row 24 [.int .u32 id, .int .i64 mb, .int .i64 ch, .int .i64 rw', .int .i64 lg, .int .i64 hdd], .row 28 [bv, wv, .bool dd], .row 46 [.int .u32 si, .int .u32 ag, .int .u32 sq, .int .i64 tl], .row 47 [.nils], .row 24 [.int .u32 id, .int .i64 mb, .int .i64 ch, .int .i64 rw', .int .i64 lg, .int .i64 hdd], .row 28 [bv, wv, .bool dd], .row 3 [.int .i64 tl]]) (rs := [0, 1, 2, 3, 4, 5, 6])
    ⟨by decide, ⟨⟨rfl, rfl⟩, ⟨rfl, rfl⟩, ⟨rfl, rfl⟩, ⟨rfl, rfl⟩, ⟨rfl, rfl⟩, ⟨rfl, rfl⟩, trivial⟩, ⟨⟨rfl, rfl⟩, ⟨rowH hdf, by rw [mapRowH hdf]; rfl⟩, ⟨rfl, rfl⟩, ⟨rfl, rfl⟩, ⟨rfl, rfl⟩, ⟨rowH hdf, by rw [mapRowH hdf]; rfl⟩, ⟨rfl, rfl⟩, trivial⟩⟩) ?_
  refine W.rngI (f := 117) (first := []) (cap := [.ptr 4 0, .ptr 6 0, .ptr 5 0]) hb rfl ?_ ?_
  · intro q hq
    have hq : q < 7 := hq
    rcases q with _ | _ | _ | _ | _ | _ | _ | q
    · exact .tmp 2 (.ptr 0 0) rfl rfl
    · exact .tmp 3 (.ptr 1 0) rfl rfl
    · exact .tmp 4 (.ptr 2 0) rfl rfl
    · exact .tmp 5 (.ptr 3 0) rfl rfl
    · exact .tmp 23 (.fn 117 [] [.ptr 4 0, .ptr 6 0, .ptr 5 0]) rfl rfl
    · exact .tmp 23 (.fn 117 [] [.ptr 4 0, .ptr 6 0, .ptr 5 0]) rfl rfl
    · exact .tmp 23 (.fn 117 [] [.ptr 4 0, .ptr 6 0, .ptr 5 0]) rfl rfl
    · omega
  show C1 P 117 [.yld 8, .ptr 4 0, .ptr 6 0, .ptr 5 0] (allocs St0 (osA0 [.int .u32 id, .int .i64 mb, .int .i64 ch, .int .i64 rw', .int .i64 lg, .int .i64 hdd] [bv, wv, .bool dd] [.int .u32 si, .int .u32 ag, .int .u32 sq, .int .i64 tl] .nils tl)) (fun _ s' => RngOut 8 [7] (ofL tlA) s' _)
  refine C1.of_V hE hm hf hcf ?_
  conv => whnf
  have hlb : ∀ n, bdO 9 n (.loop .ready none 0 (ofL tlA) [24, 25] asg27 body27 7) = true := fun _ => rfl
  refine W.loopT (k := 9) (α := Nat × List Fd) (fun x => tlQ) (fun x => osA [.int .u32 id, .int .i64 mb, .int .i64 ch, .int .i64 rw', .int .i64 lg, .int .i64 hdd] [bv, wv, .bool dd] [.int .u32 si, .int .u32 ag, .int .u32 sq, .int .i64 tl] tl x.1 x.2) (fun x => m - x.1)
    (fun x => x.1 ≤ m ∧ x.2.length ≤ x.1 ∧ scL rd m ag sq 0 0 = x.2 ++ scL rd m ag sq x.1 x.2.length) (0, []) ⟨Nat.zero_le _, Nat.le_refl _, rfl⟩
    (AbsK.tells (rs := [0, 1, 2, 3, 4, 5, 6, 7, 8, 9, 10]) ⟨rfl, by decide, ⟨⟨rfl, rfl⟩, ⟨rfl, rfl⟩, ⟨rfl, rfl⟩, ⟨rfl, rfl⟩, ⟨rfl, rfl⟩, ⟨rfl, rfl⟩, ⟨rfl, rfl⟩, trivial⟩, ⟨⟨rfl, rfl⟩, ⟨rowH hdf, by rw [mapRowH hdf]; rfl⟩, ⟨rfl, rfl⟩, ⟨rfl, rfl⟩, ⟨rfl, rfl⟩, ⟨rowH hdf, by rw [mapRowH hdf]; rfl⟩, ⟨rfl, rfl⟩, ⟨rfl, rfl⟩, ⟨hlb _, rfl⟩, ⟨rfl, rfl⟩, ⟨rfl, rfl⟩, trivial⟩⟩) ?_
  rintro ⟨u, L⟩ ⟨hu, hl, hI⟩
  dsimp only at hu hl hI ⊢
  refine vw_sound hE hm ?_
  unfold u32B at hag hsq
  by_cases hlt : u < m
  · have h00 : 0 ≤ (tl + (u : Int)) % lg := Int.emod_nonneg _ (by omega)
    have h01 : (tl + (u : Int)) % lg < lg := Int.emod_lt_of_pos _ (by omega)
    have honk : onF.ok ⟨lg, tl, (u : Int)⟩ := ⟨by unfold i64B; dsimp only; omega, by unfold i64B; dsimp only; omega, by unfold i64B; dsimp only; omega⟩
    have hon : onF.out ⟨lg, tl, (u : Int)⟩ = .tup [.int .i64 ((tl + (u : Int)) % lg), .int .i64 0] := by
      have : onOk ⟨lg, tl, (u : Int)⟩ = true := by unfold onOk hasB; dsimp only; rw [decide_eq_true (by omega), decide_eq_true (by omega), decide_eq_true (by omega)]; rfl
      show (if onOk _ then _ else _) = _; rw [if_pos this]
    obtain ⟨hr0, hr1⟩ := hrd u hlt
    rcases L with _ | ⟨q, L⟩
    · conv => whnf
      refine EPrim.lss2 (a := (u : Int)) (b := lg) rfl rfl (fun _ => ?_) (fun h => by omega)
      conv => whnf
      refine ECall.inl h118.O h118.G ?_
      conv => whnf
      refine ESc.fam onF h35 ⟨lg, tl, (u : Int)⟩ honk hon ?_
      conv => whnf
      cases hru : rd u with
      | none =>
        obtain ⟨n, hn, hcall⟩ := hr0 hru
        clear hr1 hr0 hrd hfst
        refine hcall _ _ ?_
        conv => whnf
        repeat' (first | ((refine w5 rfl rfl ?_ ?_) <;> intro _ <;> first | (exfalso; omega) | (conv => whnf)) | ((first | refine w7 rfl rfl (by omega) ?_ | refine ⟨rfl, ?_⟩); conv => whnf) | fail)
        refine hk _ (([] : List Fd)) (hI.trans (by rw [scL_none hru, List.append_nil])) (fun f M h => by first | rfl | cases h)
      | some f =>
        obtain ⟨hf17, hfa, hfs', hcall⟩ := hr1 f hru
        clear hr1 hr0 hrd hfst
        have hno : ¬ (u + f.n.recs.length + 1 ≤ m ∧ f.n.seq = (sq + ((0 : Nat) : Int)) % 4294967296 ∧ f.n.age = ag) → scL rd m ag sq u (([] : List Fd)).length = [] := fun h => scL_no (i := 0) hru h
        have hyes : (u + f.n.recs.length + 1 ≤ m ∧ f.n.seq = (sq + ((0 : Nat) : Int)) % 4294967296 ∧ f.n.age = ag) → scL rd m ag sq u (([] : List Fd)).length = f :: scL rd m ag sq (u + f.n.recs.length + 1) ((([] : List Fd)).length + 1) := fun h => scL_yes (i := 0) hru hlt h
        have hff := hfs_fds ((([] : List Fd)) ++ [f])
        rw [fdsV_app] at hff
        refine hcall _ _ ?_
        unfold u32B at hfa hfs'
        conv => whnf
        refine EPrim.addS (a := (u : Int)) (b := 1 + (f.n.recs.length : Int)) rfl rfl (by omega) ?_
        conv => whnf
        refine EPrim.eql2 (a := 0) (b := 0) rfl rfl (fun _ => ?_) (fun h => absurd rfl h)
        conv => whnf
        refine ERound.mk ?_
        conv => whnf
        refine EPrim.gtr2 (a := (u : Int) + (1 + (f.n.recs.length : Int))) (b := lg) rfl rfl (fun hgt => ?_) (fun hle => ?_)
        · conv => whnf
          repeat' (first | (refine ⟨rfl, ?_⟩; conv => whnf) | fail)
          refine hk _ (([] : List Fd)) (hI.trans (by rw [hno (by omega), List.append_nil])) (fun f M h => by first | rfl | cases h)
        conv => whnf
        refine EPrim.lenNil rfl ?_
        conv => whnf
        refine EPrim.cviZ (q' := .u32) rfl (u32_in (by omega)) ?_
        conv => whnf
        refine EPrim.addU32 (a := sq) (b := ((0 : Nat) : Int)) rfl rfl ?_
        conv => whnf
        refine EPrim.neq2 (a := f.n.seq) (b := (sq + ((0 : Nat) : Int)) % 4294967296) rfl rfl (fun hne => ?_) (fun heq => ?_)
        · conv => whnf
          repeat' (first | (refine ⟨rfl, ?_⟩; conv => whnf) | fail)
          refine hk _ (([] : List Fd)) (hI.trans (by rw [hno (fun h => hne h.2.1), List.append_nil])) (fun f M h => by first | rfl | cases h)
        conv => whnf
        refine EPrim.neq2 (a := f.n.age) (b := ag) rfl rfl (fun hne => ?_) (fun heq2 => ?_)
        · conv => whnf
          repeat' (first | (refine ⟨rfl, ?_⟩; conv => whnf) | fail)
          refine hk _ (([] : List Fd)) (hI.trans (by rw [hno (fun h => hne h.2.2), List.append_nil])) (fun f M h => by first | rfl | cases h)
        conv => whnf
        (refine EPrim.appNil (m := 1) rfl rfl rfl rfl (by decide) (by decide) ?_; conv => whnf)
        repeat' (first | (refine ⟨rfl, ?_⟩; conv => whnf) | fail)
        have hY := hyes ⟨by omega, heq, heq2⟩
        refine ⟨(u + f.n.recs.length + 1, ([] : List Fd) ++ [f]), ⟨by dsimp only; omega, by dsimp only; rw [List.length_append]; show (([] : List Fd)).length + 1 ≤ _; simp only [List.length_cons, List.length_nil] at hl ⊢; omega, ?_⟩, by show m - (u + f.n.recs.length + 1) < m - u; omega, ?_⟩
        · dsimp only
          rw [hI, hY, List.append_assoc, List.length_append]; rfl
        · dsimp only
          rw [osA_app, show ((u + f.n.recs.length + 1 : Nat) : Int) = (u : Int) + (1 + (f.n.recs.length : Int)) by omega]
          exact AbsK.tells (rs := [0, 1, 2, 3, 4, 5, 6, 7, 8, 9, 10, 14]) ⟨rfl, by decide, ⟨⟨rfl, rfl⟩, ⟨rfl, rfl⟩, ⟨rfl, rfl⟩, ⟨rfl, rfl⟩, ⟨rfl, rfl⟩, ⟨rfl, rfl⟩, ⟨rfl, rfl⟩, trivial⟩, ⟨⟨rfl, rfl⟩, ⟨rowH hdf, by rw [mapRowH hdf]; rfl⟩, ⟨rfl, rfl⟩, ⟨rfl, rfl⟩, ⟨rfl, rfl⟩, ⟨rowH hdf, by rw [mapRowH hdf]; rfl⟩, ⟨rfl, rfl⟩, ⟨rfl, rfl⟩, ⟨hlb _, rfl⟩, ⟨rfl, rfl⟩, ⟨rfl, rfl⟩, ⟨rowH hff, by rw [mapRowH hff]; rfl⟩, trivial⟩⟩
    · rw [List.length_cons] at hl
      conv => whnf
      refine EPrim.lss2 (a := (u : Int)) (b := lg) rfl rfl (fun _ => ?_) (fun h => by omega)
      conv => whnf
      refine ECall.inl h118.O h118.G ?_
      conv => whnf
      refine ESc.fam onF h35 ⟨lg, tl, (u : Int)⟩ honk hon ?_
      conv => whnf
      cases hru : rd u with
      | none =>
        obtain ⟨n, hn, hcall⟩ := hr0 hru
        clear hr1 hr0 hrd hfst
        refine hcall _ _ ?_
        conv => whnf
        repeat' (first | ((refine w5 rfl rfl ?_ ?_) <;> intro _ <;> first | (exfalso; omega) | (conv => whnf)) | ((first | refine w7 rfl rfl (by omega) ?_ | refine ⟨rfl, ?_⟩); conv => whnf) | fail)
        refine hk _ ((q :: L)) (hI.trans (by rw [scL_none hru, List.append_nil])) (fun f M h => by first | rfl | cases h)
      | some f =>
        obtain ⟨hf17, hfa, hfs', hcall⟩ := hr1 f hru
        clear hr1 hr0 hrd hfst
        have hno : ¬ (u + f.n.recs.length + 1 ≤ m ∧ f.n.seq = (sq + ((L.length + 1 : Nat) : Int)) % 4294967296 ∧ f.n.age = ag) → scL rd m ag sq u ((q :: L)).length = [] := fun h => scL_no (i := L.length + 1) hru h
        have hyes : (u + f.n.recs.length + 1 ≤ m ∧ f.n.seq = (sq + ((L.length + 1 : Nat) : Int)) % 4294967296 ∧ f.n.age = ag) → scL rd m ag sq u ((q :: L)).length = f :: scL rd m ag sq (u + f.n.recs.length + 1) (((q :: L)).length + 1) := fun h => scL_yes (i := L.length + 1) hru hlt h
        have hff := hfs_fds (((q :: L)) ++ [f])
        rw [fdsV_app] at hff
        refine hcall _ _ ?_
        unfold u32B at hfa hfs'
        conv => whnf
        refine EPrim.addS (a := (u : Int)) (b := 1 + (f.n.recs.length : Int)) rfl rfl (by omega) ?_
        conv => whnf
        refine EPrim.eql2 (a := 0) (b := 0) rfl rfl (fun _ => ?_) (fun h => absurd rfl h)
        conv => whnf
        refine ERound.mk ?_
        conv => whnf
        refine EPrim.gtr2 (a := (u : Int) + (1 + (f.n.recs.length : Int))) (b := lg) rfl rfl (fun hgt => ?_) (fun hle => ?_)
        · conv => whnf
          repeat' (first | (refine ⟨rfl, ?_⟩; conv => whnf) | fail)
          refine hk _ ((q :: L)) (hI.trans (by rw [hno (by omega), List.append_nil])) (fun f M h => by first | rfl | cases h)
        conv => whnf
        refine EPrim.lenPZ rfl ?_
        conv => whnf
        refine EPrim.cviZ (q' := .u32) rfl (u32_in (by omega)) ?_
        conv => whnf
        refine EPrim.addU32 (a := sq) (b := ((L.length + 1 : Nat) : Int)) rfl rfl ?_
        conv => whnf
        refine EPrim.neq2 (a := f.n.seq) (b := (sq + ((L.length + 1 : Nat) : Int)) % 4294967296) rfl rfl (fun hne => ?_) (fun heq => ?_)
        · conv => whnf
          repeat' (first | (refine ⟨rfl, ?_⟩; conv => whnf) | fail)
          refine hk _ ((q :: L)) (hI.trans (by rw [hno (fun h => hne h.2.1), List.append_nil])) (fun f M h => by first | rfl | cases h)
        conv => whnf
        refine EPrim.neq2 (a := f.n.age) (b := ag) rfl rfl (fun hne => ?_) (fun heq2 => ?_)
        · conv => whnf
          repeat' (first | (refine ⟨rfl, ?_⟩; conv => whnf) | fail)
          refine hk _ ((q :: L)) (hI.trans (by rw [hno (fun h => hne h.2.2), List.append_nil])) (fun f M h => by first | rfl | cases h)
        conv => whnf
        (refine EPrim.appU (m := 1) rfl rfl rfl rfl (fdsV_length _) rfl (by decide) (by simp; omega) ?_; conv => whnf)
        repeat' (first | (refine ⟨rfl, ?_⟩; conv => whnf) | fail)
        have hY := hyes ⟨by omega, heq, heq2⟩
        refine ⟨(u + f.n.recs.length + 1, (q :: L) ++ [f]), ⟨by dsimp only; omega, by dsimp only; rw [List.length_append]; show ((q :: L)).length + 1 ≤ _; simp only [List.length_cons, List.length_nil] at hl ⊢; omega, ?_⟩, by show m - (u + f.n.recs.length + 1) < m - u; omega, ?_⟩
        · dsimp only
          rw [hI, hY, List.append_assoc, List.length_append]; rfl
        · dsimp only
          rw [osA_app, show ((u + f.n.recs.length + 1 : Nat) : Int) = (u : Int) + (1 + (f.n.recs.length : Int)) by omega]
          exact AbsK.tells (rs := [0, 1, 2, 3, 4, 5, 6, 7, 8, 9, 10, 15]) ⟨rfl, by decide, ⟨⟨rfl, rfl⟩, ⟨rfl, rfl⟩, ⟨rfl, rfl⟩, ⟨rfl, rfl⟩, ⟨rfl, rfl⟩, ⟨rfl, rfl⟩, ⟨rfl, rfl⟩, trivial⟩, ⟨⟨rfl, rfl⟩, ⟨rowH hdf, by rw [mapRowH hdf]; rfl⟩, ⟨rfl, rfl⟩, ⟨rfl, rfl⟩, ⟨rfl, rfl⟩, ⟨rowH hdf, by rw [mapRowH hdf]; rfl⟩, ⟨rfl, rfl⟩, ⟨rfl, rfl⟩, ⟨hlb _, rfl⟩, ⟨rfl, rfl⟩, ⟨rfl, rfl⟩, ⟨rowH hff, by rw [mapRowH hff]; rfl⟩, trivial⟩⟩
  · have hs := scL_end (rd := rd) (ag := ag) (sq := sq) (i := L.length) hlt
    rw [hs, List.append_nil] at hI
    rcases L with _ | ⟨q, L⟩
    · conv => whnf
      refine EPrim.lss2 (a := (u : Int)) (b := lg) rfl rfl (fun _ => by omega) (fun h => ?_)
      conv => whnf
      repeat' (first | (refine ⟨rfl, ?_⟩; conv => whnf) | fail)
      exact hk _ [] hI (fun f M h => by cases h)
    · conv => whnf
      refine EPrim.lss2 (a := (u : Int)) (b := lg) rfl rfl (fun _ => by omega) (fun h => ?_)
      conv => whnf
      repeat' (first | (refine ⟨rfl, ?_⟩; conv => whnf) | fail)
      exact hk _ (q :: L) hI (fun f M h => rfl)
end Go.AM

set_option linter.unusedVariables false
set_option linter.unusedSimpArgs false
set_option maxRecDepth 100000
namespace Go.AM
attribute [local irreducible] W
open X
theorem fst0 {x : CK} (h : fstE x = 0) : x.c.may ∧ dskB x.d = true ∧ (x.d.us.length : Int) = x.c.log + 1 ∧ x.d.dead = false ∧ fstG x.c (fstB x.d) = true := by
  unfold fstE at h
  split at h
  · split at h
    · split at h
      · cases h
      · split at h
        · rename_i h1 h2 h3 h4
          exact ⟨h1, h2.1, h2.2, by simpa using h3, h4⟩
        · cases h
    · cases h
  · cases h
theorem fstG_of {c : Cfg} {b : List Nat} (h : fstG c b = true) : rdOk b = true ∧ ((rdSup b).1 : Int) = c.id ∧ (1 ≤ supAg b ∧ supAg b ≤ 2147483648) ∧ (1 ≤ supSq b ∧ supSq b ≤ 2147483648) ∧ 0 ≤ supTl b ∧ supTl b < c.log := by
  unfold fstG at h
  simp only [Bool.and_eq_true, decide_eq_true_eq] at h
  obtain ⟨h1, h2, h3⟩ := h
  have h1' := h1
  unfold rdOk supB numB at h1'
  simp only [Bool.and_eq_true, decide_eq_true_eq] at h1'
  exact ⟨h1, h2, h1'.1.1.1, h1'.1.1.2, Int.natCast_nonneg _, h3⟩
theorem FdG.u32 {x : CDA} (hx : x.ok) {f : Fd} (h : FdG x f) : u32B f.n.age ∧ u32B f.n.seq := by
  have := ntB_ok (rbk_ok hx h.ask 0).2
  rw [h.n]
  exact ⟨this.age, this.seq⟩
theorem frz_fds {s : St} {r : Nat} : ∀ {L : List Fd}, (∀ f M, L = f :: M → s.get r = some (.row 36 (fdsV L))) → Frz s (slA r L) (lsV L)
  | [], _ => .plain _ rfl
  | f :: L, h => by
    refine .sl r 0 (L.length + 1) none none 36 _ (fdsV (f :: L)) _ (h f L rfl) (fun i x hx => by rw [Nat.zero_add]; exact hx) ?_ (.inl rfl)
    have := hfs_fds (f :: L)
    revert this
    generalize fdsV (f :: L) = l
    induction l with
    | nil => intro _; exact .nil
    | cons v l ih =>
      intro h
      simp only [hfs, Bool.and_eq_true] at h
      exact .cons (.plain _ h.1) (ih h.2)
theorem allF_ok {P : Program} {e : Env} {fn fn' : Func} (hE : EnvOk P e) (hm : P.follows .mixedOrders = true) (h73 : Con e 73 fstF.O) (h35 : Con e 35 onF.O) (h23 : Con e 23 drF.O) (h74 : Inl e 74 code74 [.tmp 6]) (h118 : Inl e 118 code118 [.tmp 5])
    (hf' : P.funcs[117]? = some fn') (hc' : compF P fn' = some a117) (hb' : HasBody P 117) (hf : P.funcs[27]? = some fn) (hc : compF P fn = some a27) (hb : HasBody P 27) : OvOk P 27 allF.O := by
  refine Fam.ok_of hb fun x hx => ?_
  refine ⟨CK.hfa hx, hf_allOut x, C.of_V hE hm hf hc ?_⟩
  have hdf := DKhf hx.d.a.wl hx.d.a.bl (d := x.d.dead)
  by_cases h0 : fstE x = 0
  · obtain ⟨q1, q2, q3, q4, q5⟩ := fst0 h0
    obtain ⟨g1, g2, g3, g4, g5, g6⟩ := fstG_of q5
    have hlg := Cfg.may_log q1
    have hlg2 : x.c.log ≤ 255 := by unfold Cfg.may at q1; omega
    have hok : ∀ u : Nat, CDA.ok ⟨x.c, x.d, (supTl (fstB x.d) + (u : Int)) % x.c.log⟩ := fun u => ⟨hx.c, hx.d, by
      have h1 := Int.emod_nonneg (supTl (fstB x.d) + (u : Int)) (b := x.c.log) (by omega)
      have h2 := Int.emod_lt_of_pos (supTl (fstB x.d) + (u : Int)) (b := x.c.log) (by omega)
      unfold i64B; dsimp only; omega⟩
    have hfst : ∀ (s : St) (K : AV → St → Prop), K (.tup [.agg (supC (fstB x.d)), .int .i64 0]) s → ESc e 73 x.args s K := fun s K hk => ESc.fam fstF h73 x hx (by show fstOut x = _; unfold fstOut; rw [if_pos h0]) hk
    have hcall := fun (u : Nat) => rd_call h23 (hok u)
    have hfd := fun (u : Nat) (f : Fd) (h : rdF ⟨x.c, x.d, (supTl (fstB x.d) + (u : Int)) % x.c.log⟩ = some f) => And.intro (rdF_some h).recs ((rdF_some h).u32 (hok u))
    have hout : ∀ s L, allL x = L → (∀ f M, L = f :: M → s.get 11 = some (.row 36 (fdsV L))) → Frz s (.tup [.agg (supC (fstB x.d)), slA 11 L, .int .i64 0]) (allF.out x) := fun s L hL h => by
      show Frz s _ (allOut x)
      unfold allOut
      rw [if_pos h0, hL]
      exact .tup _ _ (.cons (.plain _ rfl) (.cons (frz_fds h) (.cons (.plain _ rfl) .nil)))
    have hua : u32B (supAg (fstB x.d)) := by unfold u32B; omega
    have hus : u32B (supSq (fstB x.d)) := by unfold u32B; omega
    unfold allL at hout
    obtain ⟨c, d⟩ := x
    obtain ⟨id, mb, ch, rw', lg, hdd⟩ := c
    obtain ⟨bv, us, bs, wv, ws, dd⟩ := d
    dsimp only at hdf hlg hlg2 g5 g6 hcall hfd hout
    exact all_main (P := P) (e := e) hE hm h35 h74 h118 hf' hc' hb' hdf (m := lg.toNat) (by omega) (by omega) ⟨g5, g6⟩ hua hus hfst (fun u => rdF ⟨⟨id, mb, ch, rw', lg, hdd⟩, ⟨bv, us, bs, wv, ws, dd⟩, (supTl (fstB ⟨bv, us, bs, wv, ws, dd⟩) + (u : Int)) % lg⟩)
      (fun u _ => ⟨fun h => ⟨_, errF_ne _, fun s K hk => hcall u K s (fun _ => hk) (fun f hf => by rw [h] at hf; cases hf)⟩, fun f h => ⟨(hfd u f h).1, (hfd u f h).2.1, (hfd u f h).2.2, fun s K hk => hcall u K s (fun hn => by rw [h] at hn; cases hn) (fun f' hf => by rw [h] at hf; cases hf; exact hk)⟩⟩) hout
  · have hfst : ∀ (s : St) (K : AV → St → Prop), K (.tup [.agg z4, .int .i64 (fstE x)]) s → ESc e 73 x.args s K := fun s K hk => ESc.fam fstF h73 x hx (by show fstOut x = _; unfold fstOut; rw [if_neg h0]) hk
    have hout : ∀ s, Frz s (.tup [.agg z4, .nils, .int .i64 (fstE x)]) (allF.out x) := fun s => by
      show Frz s _ (allOut x)
      unfold allOut
      rw [if_neg h0]
      exact .plain _ rfl
    obtain ⟨E, hE'⟩ : ∃ E, E = fstE x := ⟨_, rfl⟩
    rw [← hE'] at h0 hfst hout
    obtain ⟨c, d⟩ := x
    obtain ⟨id, mb, ch, rw', lg, hdd⟩ := c
    obtain ⟨bv, us, bs, wv, ws, dd⟩ := d
    have hfst : ∀ (s : St) (K : AV → St → Prop), K (.tup [.agg z4, .int .i64 E]) s → ESc e 73 [.agg [.int .u32 id, .int .i64 mb, .int .i64 ch, .int .i64 rw', .int .i64 lg, .int .i64 hdd], .agg [bv, wv, .bool dd]] s K := hfst
    show VW P e 0 code27 (initT [.agg [.int .u32 id, .int .i64 mb, .int .i64 ch, .int .i64 rw', .int .i64 lg, .int .i64 hdd], .agg [bv, wv, .bool dd]] 0 .lf) St0 none [] _
    conv => whnf
    refine hfst _ _ ?_
    conv => whnf
    refine EPrim.neq2 (a := E) (b := 0) rfl rfl (fun _ => ?_) (fun h => absurd h h0)
    conv => whnf
    skip
    exact hout _
end Go.AM

set_option linter.unusedVariables false
set_option linter.unusedSimpArgs false
set_option maxRecDepth 100000
namespace Go.AM
attribute [local irreducible] W
open X
def usedN (L : List Fd) : Nat := (L.map Fd.m).sum
theorem usedN_cons (f : Fd) (L : List Fd) : usedN (f :: L) = f.m + usedN L := by unfold usedN; simp
theorem usedN_le : ∀ M : List Fd, M.length ≤ usedN M
  | [] => Nat.zero_le _
  | f :: M => by rw [usedN_cons, List.length_cons]; have := usedN_le M; show _ ≤ f.n.recs.length + 1 + _; omega
theorem scG_chain (rd : Nat → Option Fd) (m : Nat) (ag sq : Int) : ∀ (k u i : Nat), m < u + k → u ≤ m →
    (∀ (j : Nat) f, (scG rd m ag sq k u i)[j]? = some f → rd (u + usedN ((scG rd m ag sq k u i).take j)) = some f ∧ u + usedN ((scG rd m ag sq k u i).take j) < m ∧ u + usedN ((scG rd m ag sq k u i).take j) + f.m ≤ m ∧ f.n.seq = (sq + ((i + j : Nat) : Int)) % 4294967296 ∧ f.n.age = ag) ∧
    u + usedN (scG rd m ag sq k u i) ≤ m ∧
    (u + usedN (scG rd m ag sq k u i) = m ∨ rd (u + usedN (scG rd m ag sq k u i)) = none ∨ ∃ f, rd (u + usedN (scG rd m ag sq k u i)) = some f ∧ ¬ (u + usedN (scG rd m ag sq k u i) + f.m ≤ m ∧ f.n.seq = (sq + ((i + (scG rd m ag sq k u i).length : Nat) : Int)) % 4294967296 ∧ f.n.age = ag))
  | 0, u, i, h, hu => by omega
  | k + 1, u, i, h, hu => by
    have hz : usedN ([] : List Fd) = 0 := rfl
    by_cases hlt : u < m
    · cases hr : rd u with
      | none =>
        have e : scG rd m ag sq (k + 1) u i = [] := by
          show (if u < m then _ else _) = _
          rw [if_pos hlt, hr]
        rw [e]
        exact ⟨fun j f h => by simp at h, by rw [hz]; omega, .inr (.inl (by rw [hz]; exact hr))⟩
      | some f =>
        by_cases hc : u + f.n.recs.length + 1 ≤ m ∧ f.n.seq = (sq + (i : Int)) % 4294967296 ∧ f.n.age = ag
        · have e : scG rd m ag sq (k + 1) u i = f :: scG rd m ag sq k (u + f.n.recs.length + 1) (i + 1) := by
            show (if u < m then _ else _) = _
            rw [if_pos hlt, hr]
            show (if _ then _ else _) = _
            rw [if_pos hc]
          obtain ⟨h1, h2, h3⟩ := scG_chain rd m ag sq k (u + f.n.recs.length + 1) (i + 1) (by omega) (by omega)
          rw [e]
          have hm : f.m = f.n.recs.length + 1 := rfl
          generalize scG rd m ag sq k (u + f.n.recs.length + 1) (i + 1) = L at h1 h2 h3
          have eu : ∀ M : List Fd, u + usedN (f :: M) = u + f.n.recs.length + 1 + usedN M := fun M => by rw [usedN_cons]; omega
          refine ⟨fun j g hj => ?_, by rw [eu]; exact h2, ?_⟩
          · cases j with
            | zero =>
              simp at hj; subst hj
              rw [List.take_zero, hz]
              exact ⟨hr, hlt, by omega, by rw [hc.2.1]; rfl, hc.2.2⟩
            | succ j =>
              have := h1 j g (by simpa using hj)
              rw [List.take_succ_cons, eu, show i + (j + 1) = i + 1 + j by omega]
              exact this
          · rw [eu, List.length_cons, show i + (L.length + 1) = i + 1 + L.length by omega]
            exact h3
        · have e : scG rd m ag sq (k + 1) u i = [] := by
            show (if u < m then _ else _) = _
            rw [if_pos hlt, hr]
            show (if _ then _ else _) = _
            rw [if_neg hc]
          rw [e]
          refine ⟨fun j f h => by simp at h, by rw [hz]; omega, .inr (.inr ⟨f, by rw [hz]; exact hr, ?_⟩)⟩
          rw [hz]
          exact hc
    · have e : scG rd m ag sq (k + 1) u i = [] := by
        show (if u < m then _ else _) = _
        rw [if_neg hlt]
      rw [e]
      exact ⟨fun j f h => by simp at h, by rw [hz]; omega, .inl (by rw [hz]; omega)⟩
def jrd (x : CK) (u : Nat) : CDA := ⟨x.c, x.d, (supTl (fstB x.d) + (u : Int)) % x.c.log⟩
structure AllG (x : CK) (L : List Fd) : Prop where
  get : ∀ (j : Nat) f, L[j]? = some f → rdF (jrd x (usedN (L.take j))) = some f ∧ usedN (L.take j) < x.c.log.toNat ∧ usedN (L.take j) + f.m ≤ x.c.log.toNat ∧ f.n.seq = (supSq (fstB x.d) + (j : Int)) % 4294967296 ∧ f.n.age = supAg (fstB x.d)
  le : usedN L ≤ x.c.log.toNat
  fin : usedN L = x.c.log.toNat ∨ rdF (jrd x (usedN L)) = none ∨ ∃ f, rdF (jrd x (usedN L)) = some f ∧ ¬ (usedN L + f.m ≤ x.c.log.toNat ∧ f.n.seq = (supSq (fstB x.d) + (L.length : Int)) % 4294967296 ∧ f.n.age = supAg (fstB x.d))
theorem allL_G (x : CK) : AllG x (allL x) := by
  obtain ⟨h1, h2, h3⟩ := scG_chain (fun u => rdF (jrd x u)) x.c.log.toNat (supAg (fstB x.d)) (supSq (fstB x.d)) (x.c.log.toNat + 1) 0 0 (by omega) (Nat.zero_le _)
  refine ⟨fun j f hj => ?_, ?_, ?_⟩
  · have := h1 j f hj
    simp only [Nat.zero_add] at this
    exact this
  · simp only [Nat.zero_add] at h2
    exact h2
  · simp only [Nat.zero_add] at h3
    exact h3
theorem jrd_ok {x : CK} (hx : x.ok) (h : fstE x = 0) (u : Nat) : (jrd x u).ok := by
  obtain ⟨q1, q2, q3, q4, q5⟩ := fst0 h
  have hlg := Cfg.may_log q1
  have hlg2 : x.c.log ≤ 255 := by unfold Cfg.may at q1; omega
  have h1 := Int.emod_nonneg (supTl (fstB x.d) + (u : Int)) (b := x.c.log) (by omega)
  have h2 := Int.emod_lt_of_pos (supTl (fstB x.d) + (u : Int)) (b := x.c.log) (by omega)
  exact ⟨hx.c, hx.d, by unfold i64B jrd; dsimp only; omega⟩
theorem FdG.drg {x : CDA} (hx : x.ok) {f : Fd} (h : FdG x f) : DRG x f.y := by
  have hn := h.n
  have hgo := h.go
  have hcd := h.cd
  rw [hn] at hgo hcd
  exact drg_of hx h.ask h.good h.id hgo hcd
theorem FdG.len {x : CDA} (hx : x.ok) {f : Fd} (h : FdG x f) : f.y.ok ∧ f.n.recs.length = f.y.S.length + (match f.y.p with | none => 0 | some _ => 1) := by
  have hd := h.drg hx
  refine ⟨hd.ok, ?_⟩
  have h1 := congrArg (fun n : Nt => n.recs.length) hd.note
  rw [h.n]
  have h2 : ((rdDB (rdNote (rbk x 0)).stripe f.y).prs.map recN).length = (rdNote (rbk x 0)).recs.length := h1
  rw [List.length_map, prs_rdDB hd.ok] at h2
  rw [← h2]
  unfold prsS
  rw [List.length_append]
  cases f.y.p <;> rfl
theorem sl_fds (L : List Fd) : Sl 6 L.length (fdsV L) (lsV L) := by
  cases L with
  | nil => exact .inl ⟨rfl, rfl, rfl⟩
  | cons f L => exact .inr (.inr ⟨none, rfl, fdsV_length _⟩)
theorem fds_drop : ∀ (L : List Fd) (i : Nat), (fdsV L).drop (i * 6) = fdsV (L.drop i)
  | L, 0 => by simp
  | [], i + 1 => by simp [fdsV]
  | x :: L, i + 1 => by
    have hl : x.c.length = 6 := rfl
    rw [List.drop_succ_cons, ← fds_drop L i, fdsV_cons, show (i + 1) * 6 = x.c.length + i * 6 by omega, List.drop_append, List.drop_eq_nil_of_le (by omega), List.nil_append]
    congr 1; omega
theorem fds_drop_cons {L : List Fd} {i : Nat} (h : i < L.length) : (fdsV L).drop (i * 6) = L[i].c ++ fdsV (L.drop (i + 1)) := by
  rw [fds_drop, List.drop_eq_getElem_cons h, fdsV_cons]
end Go.AM

set_option linter.unusedVariables false
set_option linter.unusedSimpArgs false
set_option maxRecDepth 100000
namespace Go.AM
attribute [local irreducible] W
open X
end Go.AM

set_option linter.unusedVariables false
set_option linter.unusedSimpArgs false
set_option maxRecDepth 100000
namespace Go.AM
attribute [local irreducible] W
open X
theorem same_self {e : Env} (h25 : Con e 25 sameF.O) {st : Int} {y : RdS} (hst : i64B st) (hy : y.ok) (K : AV → St → Prop) (s : St) (hk : K (.bool true) s) : ESc e 25 [.agg [.int .i64 st, rslV y.S, rblV y.S, rpaV y.p], .agg [.int .i64 st, rslV y.S, rblV y.S, rpaV y.p]] s K := by
  have hd := rdDB_ok hy hst
  have hb : ∀ b ∈ (rdDB st y).bs, b.length = 0 ∨ b.length = 128 := fun b hb => by
    obtain ⟨q, hq, rfl⟩ := List.mem_map.1 (show b ∈ y.S.map Prod.snd from hb)
    exact .inr (hy.s q hq).2.1
  have ha : (rdDB st y).any := by
    obtain ⟨⟨a, b, c, n, ⟨bl, _, bn⟩, _⟩, bs, pb⟩ := hd
    exact ⟨a, b, c, bl, bs, pb⟩
  have hn := hy.n
  refine ESc.fam sameF h25 ⟨rdDB st y, rdDB st y⟩ ⟨ha, ha, hb, hb, ?_⟩ (u := .bool true) ?_ hk
  · show (y.S.map Prod.fst).length < _ ∧ (y.S.map _).length < _
    rw [List.length_map, List.length_map]; omega
  · show AV.bool (sameB _ _) = _
    unfold sameB
    simp
end Go.AM
