/-
 Functions of the program as the abstract machine reads them, and what is stated of them, checked by the kernel. No conditions.
-/
import Derived.Test.YtnnbibnobmegpaaSeatD
import Derived.Test.YtnnbibnobmegpaaAM5
import Derived.Test.YtnnbibnobmegpaaSeatS
set_option linter.unusedVariables false
set_option linter.unusedSimpArgs false

set_option maxRecDepth 100000
namespace Go.AM
attribute [local irreducible] W
open X
theorem bys_inj : ∀ {l m : List Nat}, bys l = bys m → l = m
 | [], [], _ => rfl
 | [], _ :: _, h => by cases h
 | _ :: _, [], h => by cases h
 | a :: l, b :: m, h => by
   have h : AV.int .u8 (Int.ofNat a) :: bys l = .int .u8 (Int.ofNat b) :: bys m := h
   injection h with h1 h2
   injection h1 with _ h1
   injection h1 with h1
   rw [h1, bys_inj h2]
def BAt (u : AV) (b : List Nat) : Prop := Sl 1 b.length (bys b) u ∧ ∀ x ∈ b, x < 256
theorem BAt.inj {u : AV} {b c : List Nat} (h : BAt u b) (h' : BAt u c) : b = c := bys_inj (h.1.l_inj h'.1)
structure DB where
 st : Int
 sv : AV
 sl : List Int
 bv : AV
 us : List AV
 bs : List (List Nat)
 pv : AV
 pb : List Nat
def DB.d (x : DB) : Dl := ⟨x.st, x.sv, x.sl, ⟨x.bv, x.us, x.bs.map List.length⟩, x.pv, x.pb.length⟩
structure DB.ok (x : DB) : Prop where
 d : x.d.ok
 bs : All2 BAt x.us x.bs
 pb : BAt x.pv x.pb
theorem DB.inj {x y : DB} (hx : x.ok) (hy : y.ok) (h : x.d.v = y.d.v) : x = y := by
 have hd := Dl.inj hx.d hy.d h
 obtain ⟨st, sv, sl, bv, us, bs, pv, pb⟩ := x
 obtain ⟨st', sv', sl', bv', us', bs', pv', pb'⟩ := y
 unfold DB.d at hd
 injection hd with e1 e2 e3 e4 e5 e6
 injection e4 with e7 e8 e9
 dsimp only at e1 e2 e3 e5 e6 e7 e8 e9
 subst e1 e2 e3 e5 e7 e8
 have e10 := hx.pb.inj hy.pb
 dsimp only at e10
 subst e10
 have : ∀ {us : List AV} {bs bs' : List (List Nat)}, All2 BAt us bs → All2 BAt us bs' → bs = bs' := by
   intro us
   induction us with
   | nil => intro _ _ a b; cases a; cases b; rfl
   | cons u us ih =>
     intro _ _ a b
     cases a with
     | cons a1 a2 => cases b with
       | cons b1 b2 => rw [a1.inj b1, ih a2 b2]
 have e11 := this hx.bs hy.bs
 dsimp only at e11
 subst e11; rfl
def wholeN (b : List Nat) : List Nat := b ++ List.replicate (128 - b.length) 0
def bareQ (b : List Nat) : Bool := (wholeN b).headD 0 == 78
def stoodN (b : List Nat) : List Nat := if bareQ b then (wholeN b).set 0 0 else wholeN b
def recN (p : Int × List Nat) : Rc := ⟨p.1, bareQ p.2, (sumN (stoodN p.2) : Int)⟩
def fzB (b : List Nat) : AV := .fz 128 none (bys b)
def stoodV (p : Int × List Nat) : AV := fzB (stoodN p.2)
def DB.prs (x : DB) : List (Int × List Nat) := x.sl.zip x.bs ++ (if x.pb.length = 0 then [] else [(255, x.pb)])
theorem wholeN_length {b : List Nat} (h : b.length ≤ 128) : (wholeN b).length = 128 := by unfold wholeN; simp; omega
theorem wholeN_lt {b : List Nat} (h : ∀ x ∈ b, x < 256) : ∀ x ∈ wholeN b, x < 256 := by
 intro x hx
 rcases List.mem_append.1 hx with hx | hx
 · exact h x hx
 · rw [List.eq_of_mem_replicate hx]; decide
theorem stoodN_length {b : List Nat} (h : b.length ≤ 128) : (stoodN b).length = 128 := by
 unfold stoodN; split
 · rw [List.length_set]; exact wholeN_length h
 · exact wholeN_length h
theorem stoodN_lt {b : List Nat} (h : ∀ x ∈ b, x < 256) : ∀ x ∈ stoodN b, x < 256 := by
 unfold stoodN; split
 · intro x hx
   rcases List.mem_or_eq_of_mem_set hx with hx | rfl
   · exact wholeN_lt h x hx
   · decide
 · exact wholeN_lt h
theorem hfs_rcs : ∀ (L : List Rc), hfs (rcs L) = true
 | [] => rfl
 | x :: L => by
   show (true && (true && (true && hfs (rcs L)))) = true
   rw [hfs_rcs L]; rfl
theorem rcs_append (L M : List Rc) : rcs (L ++ M) = rcs L ++ rcs M := by unfold rcs; rw [List.flatMap_append]
theorem hfs_stood (l : List (Int × List Nat)) : hfs (l.map stoodV) = true := hfs_iff.2 fun v hv => by
 obtain ⟨p, _, rfl⟩ := List.mem_map.1 hv; rfl
theorem bytesAt_row {s : St} {r e n : Nat} {c : Option Nat} {bs : List Nat} (h : s.get r = some (.row e (bys bs))) (hn : bs.length = n) (hb : ∀ b ∈ bs, b < 256) : bytesAt s (.sl r 0 n c) = some bs := by
 have h1 : load r 0 n s = some (bys bs) := load_full h (by rw [bys_length]; exact hn)
 show (Option.rec none bytesOf (load r 0 n s) : Option (List Nat)) = some bs
 rw [h1]
 have hbo : ∀ {bs : List Nat}, (∀ b ∈ bs, b < 256) → bytesOf (bys bs) = some bs := by
   intro bs
   induction bs with
   | nil => intro _; rfl
   | cons b bs ih =>
     intro h
     show (Bool.rec none (Option.rec none (fun r => some (b :: r)) (bytesOf (bys bs))) (Nat.blt b 256) : Option (List Nat)) = _
     rw [ih (fun x hx => h x (by simp [hx])), show Nat.blt b 256 = true by simpa using h b (by simp)]
 exact hbo hb
theorem over_row {s : St} {r e : Nat} {c : Option Nat} {bs : List Nat} (h : s.get r = some (.row e (bys bs))) (hn : bs.length = 128) (hb : ∀ b ∈ bs, b < 256) : overO [.int .u32 0, .sl r 0 128 c] s = .ok (.int .u32 ((sumN bs : Nat) : Int)) s := by
 show (Option.rec .fail (fun bs => gd (Nat.blt (lenL bs) 1000000) (.ok (.int .u32 (.ofNat (Nat.xor (crcGo bs (Nat.xor 0 4294967295)) 4294967295))) s)) (bytesAt s (.sl r 0 128 c)) : RV) = _
 rw [bytesAt_row h hn hb]
 show gd (Nat.blt (lenL bs) 1000000) _ = _
 rw [lenL_eq, hn]; rfl
structure BD where
 c : Cfg
 age : Int
 seq : Int
 d : DB
structure BD.ok (x : BD) : Prop where
 c : x.c.ok
 age : u32B x.age
 seq : u32B x.seq
 d : x.d.ok
def BD.enc (x : BD) : List AV := [x.c.v, .int .u32 x.age, .int .u32 x.seq, x.d.d.v]
theorem BD.inj {x y : BD} (hx : x.ok) (hy : y.ok) (h : x.enc = y.enc) : x = y := by
 obtain ⟨c, ag, sq, d⟩ := x
 obtain ⟨c', ag', sq', d'⟩ := y
 unfold BD.enc at h
 injection h with e1 h
 injection h with e2 h
 injection h with e3 h
 injection h with e4 h
 have h1 : c = c' := Cfg.injv e1
 have h2 : d = d' := DB.inj hx.d hy.d e4
 injection e2 with _ e2
 injection e3 with _ e3
 dsimp only at e2 e3
 subst h1 h2 e2 e3; rfl
def BD.note (x : BD) : Nt := ⟨x.c.id, x.age, x.seq, x.d.st, .nils, x.d.prs.map recN⟩
def noteBk (n : Nt) : List Nat := putN (noteI n n.recs.length) 124 (sumN ((noteI n n.recs.length).take 124)) 4
theorem noteI_v (id ag sq st : Int) (v v' : AV) (R : List Rc) : ∀ i, noteI ⟨id, ag, sq, st, v, R⟩ i = noteI ⟨id, ag, sq, st, v', R⟩ i
 | 0 => rfl
 | i + 1 => by
   have h := noteI_v id ag sq st v v' R i
   show (match R[i]? with | some r => noteS (noteI ⟨id, ag, sq, st, v, R⟩ i) i r | none => noteI ⟨id, ag, sq, st, v, R⟩ i) = (match R[i]? with | some r => noteS (noteI ⟨id, ag, sq, st, v', R⟩ i) i r | none => noteI ⟨id, ag, sq, st, v', R⟩ i)
   rw [h]
theorem noteBk_v (id ag sq st : Int) (v v' : AV) (R : List Rc) : noteBk ⟨id, ag, sq, st, v, R⟩ = noteBk ⟨id, ag, sq, st, v', R⟩ := by
 unfold noteBk
 rw [noteI_v id ag sq st v v' R]
def blkOut (x : BD) : AV := if CD.good ⟨x.c, x.d.d⟩ then (if noteB x.note then .tup [.fz (x.d.prs.length + 1) none (blkV (noteBk x.note) :: x.d.prs.map stoodV), .int .i64 0] else .tup [.nils, .int .i64 2]) else .tup [.nils, .int .i64 8]
def blkF : Fam BD := ⟨BD.ok, BD.enc, blkOut, fun x y hx hy h => by rw [BD.inj hx hy h]⟩
def osB (C D : List AV) (id ag sq st : Int) (R : List Rc) (L : List AV) : Nat → List AObj
 | 0 => [.row 24 C, .row 34 D, .row 101 [.int .u32 id, .int .u32 ag, .int .u32 sq, .int .i64 st, .nils], .row 25 [.nils]]
 | i + 1 => [.row 24 C, .row 34 D, .row 101 [.int .u32 id, .int .u32 ag, .int .u32 sq, .int .i64 st, .sl 4 0 (i + 1) none], .row 25 [.sl 5 0 (i + 1) none], .row 123 (rcs R), .row 32 L]
def code48 : AC := match a48 with | .mk c _ => c
def code88 : AC := match a88 with | .mk c _ => c
def code89 : AC := match a89 with | .mk c _ => c
theorem slotB_bd {top : Int} (ht : top ≤ 14) : ∀ {l : List Int} {la : Int}, -1 ≤ la → slotB top la l = true → ∀ s ∈ l, 0 ≤ s ∧ s ≤ 14
 | [], la, _, _, s, hs => by simp at hs
 | x :: l, la, hla, h, s, hs => by
   have h : (decide (la < x ∧ x ≤ top) && slotB top x l) = true := h
   rw [Bool.and_eq_true, decide_eq_true_eq] at h
   rcases List.mem_cons.1 hs with rfl | hs
   · omega
   · exact slotB_bd ht (by omega) h.2 s hs
theorem slotsOk_bd {top : Int} {l : List Int} (h : slotsOk top l = true) (ht : top ≤ 14) : ∀ s ∈ l, 0 ≤ s ∧ s ≤ 14 := by
 unfold slotsOk at h
 rw [Bool.and_eq_true] at h
 exact slotB_bd ht (by omega) h.1
theorem slotsOk_pos {top : Int} {l : List Int} (h : slotsOk top l = true) : 0 < l.length := by
 unfold slotsOk at h
 rw [Bool.and_eq_true] at h
 exact of_decide_eq_true h.2
theorem odd_all {bs : List (List Nat)} (h : (bs.map List.length).any oddB = false) : ∀ b ∈ bs, b.length = 0 ∨ b.length = 128 := by
 intro b hb
 rw [List.any_eq_false] at h
 have := h b.length (List.mem_map.2 ⟨b, hb, rfl⟩)
 unfold oddB at this
 simp only [Bool.and_eq_true, decide_eq_true_eq] at this
 omega
theorem hf_blkOut (x : BD) : AM.hf (blkOut x) = true := by
 unfold blkOut
 split
 · split <;> rfl
 · rfl
theorem store_whole {s : St} {r e : Nat} {b : List Nat} (h : s.get r = some (.row e (bys (0 :: List.replicate 127 0)))) (hb : b.length ≤ 128) : storeAt r 0 (bys b) s = some (s.put r (.row e (bys (wholeN b)))) := by
 rw [store_of h (by rw [bys_length, bys_length]; simp; omega)]
 congr 4
 unfold wholeN
 have e1 : (0 :: List.replicate 127 0 : List Nat) = List.replicate 128 0 := rfl
 rw [e1, List.take_zero, List.nil_append]
 show bys b ++ List.drop (0 + (bys b).length) (bys (List.replicate 128 0)) = bys (b ++ List.replicate (128 - b.length) 0)
 rw [bys_length, Nat.zero_add]
 unfold bys
 rw [List.map_append, ← List.map_drop, List.drop_replicate]
theorem mapVs_app {ρ : Nat → Nat} {L : List AV} {x : AV} (h : hfs L = true) : mapVs ρ (L ++ [x]) = L ++ [mapV ρ x] := by
 induction L with
 | nil => rfl
 | cons y L ih =>
   simp only [hfs, Bool.and_eq_true] at h
   show mapV ρ y :: mapVs ρ (L ++ [x]) = _
   rw [hf_mapV y h.1, ih h.2]; rfl
theorem bds_app {n : Nat} {L : List AV} {x : AV} (h : hfs L = true) : bds n (L ++ [x]) = bd n x := by
 induction L with
 | nil => show (bd n x && true) = _; rw [Bool.and_true]
 | cons y L ih =>
   simp only [hfs, Bool.and_eq_true] at h
   show (bd n y && bds n (L ++ [x])) = _
   rw [hf_bd y h.1, ih h.2]; rfl
def tlB (bv : AV) (n i : Nat) : List (Nat × AV) := [(7, .ptr 1 0), (11, .ptr 2 0), (12, .ptr 3 0), (13, .fn 88 [] [.ptr 2 0, .ptr 3 0]), (33, bv), (34, .int .i64 (n : Int)), (35, .int .i64 (i : Int))]
theorem frz_osB {C D : List AV} {id ag sq st : Int} {R : List Rc} {L : List AV} {m : List Nat} {i : Nat} (hC : hfs C = true) (hD : hfs D = true) (hL : hfs L = true) :
   frzOs 6 (bys m) (osB C D id ag sq st R (L ++ [.sl 6 0 128 (some 128)]) (i + 1)) = osB C D id ag sq st R (L ++ [fzB m]) (i + 1) := by
 show [frzO 6 (bys m) (.row 24 C), frzO 6 (bys m) (.row 34 D), _, _, frzO 6 (bys m) (.row 123 (rcs R)), AObj.row 32 (frzVs 6 (bys m) (L ++ [.sl 6 0 128 (some 128)]))] = _
 rw [frzRowH hC, frzRowH hD, frzRowH (hfs_rcs R), frzVs_append, hfs_frzVs L hL]
 rfl
theorem blk_step {P : Program} {t : AT} {s : St} {C D : List AV} {id ag sq st : Int} {R : List Rc} {L : List AV} {p : Int × List Nat} {tl : List (Nat × AV)} {i : Nat} {rs : List Nat} (htb : tmpsB tl = true) (htl : frzT 6 (bys (stoodN p.2)) tl = tl) (hC : hfs C = true) (hD : hfs D = true) (hL : hfs L = true)
   (h : Abs t s tl (osB C D id ag sq st (R ++ [recN p]) (L ++ [.sl 6 0 128 (some 128)]) (i + 1) ++ [.row 5 (bys (stoodN p.2))]) rs) :
   Tells P 0 t s [] (ofL tl) (allocs St0 (osB C D id ag sq st (R ++ [recN p]) (L ++ [stoodV p]) (i + 1))) [] := by
 refine AbsK.frz (n := 6) h.toK rfl (scs_hfs_bys _) rfl rfl rfl htb htl ?_
 exact frz_osB hC hD hL
theorem frz_tlB {bv : AV} {n i : Nat} {cs : List AV} (hbv : AM.hf bv = true) : frzT 6 cs (tlB bv n i) = tlB bv n i := by
 show [_, _, _, _, (33, frzV 6 _ bv), _, _] = _
 rw [hf_frzV bv hbv]; rfl
theorem slotB_len {top : Int} : ∀ {l : List Int} {la : Int}, slotB top la l = true → l = [] ∨ la + l.length ≤ top
 | [], la, _ => .inl rfl
 | x :: l, la, h => by
   have h : (decide (la < x ∧ x ≤ top) && slotB top x l) = true := h
   rw [Bool.and_eq_true, decide_eq_true_eq] at h
   right
   rw [List.length_cons]
   push_cast
   rcases slotB_len h.2 with rfl | g
   · simp; omega
   · omega
theorem slotsOk_len {top : Int} {l : List Int} (h : slotsOk top l = true) : (l.length : Int) ≤ top + 1 := by
 have h0 := slotsOk_pos h
 unfold slotsOk at h
 rw [Bool.and_eq_true] at h
 rcases slotB_len h.1 with rfl | g
 · simp at h0
 · omega
theorem insO_at {s : St} {r r2 n : Nat} {c2 : Option Nat} {L : List AV} {y : AV} (h1 : s.get r = some (.row 32 L)) (h2 : s.get r2 = some (.row 32 [y])) (hn : L.length = n) (h0 : 0 < n) (h3 : n < 100000) (hr : r ≠ r2) (hs : s.next < 1000000000) :
   insO [.sl r 0 n none, .int .i64 0, .sl r2 0 1 c2] s = .ok (.sl s.next 0 (n + 1) none) ((s.put r .dead).alloc (.row 32 (y :: L))) := by
 show (match load r2 0 1 s with
     | some [y] => (match rowAt r s with
       | .row el cells => gd (Nat.beq el 32 && Nat.beq (lenL cells) n && Nat.blt 0 n && Nat.blt n 100000 && !Nat.beq r r2 && Nat.blt s.next 1000000000) (.ok (.sl s.next 0 (n + 1) none) ((s.put r .dead).alloc (.row 32 (y :: cells))))
       | .no => .fail)
     | _ => .fail) = _
 rw [show load r2 0 1 s = some [y] from load_full h2 rfl, rowAt_of h1]
 have e1 : Nat.beq (lenL L) n = true := by rw [lenL_eq, hn]; exact Nat.beq_refl n
 have e2 : Nat.beq r r2 = false := by
   cases hq : Nat.beq r r2 with
   | false => rfl
   | true => exact absurd (Nat.eq_of_beq_eq_true hq) hr
 have e3 : Nat.blt 0 n = true := by rw [Nat.blt_eq]; exact h0
 have e4 : Nat.blt n 100000 = true := by rw [Nat.blt_eq]; exact h3
 have e5 : Nat.blt s.next 1000000000 = true := by rw [Nat.blt_eq]; exact hs
 show gd (Nat.beq 32 32 && Nat.beq (lenL L) n && Nat.blt 0 n && Nat.blt n 100000 && !Nat.beq r r2 && Nat.blt s.next 1000000000) _ = _
 rw [e1, e2, e3, e4, e5]; rfl
def osC (C D : List AV) (id ag sq st : Int) (R : List Rc) (L : List AV) (n : Nat) : List AObj :=
 [.row 24 C, .row 34 D, .row 101 [.int .u32 id, .int .u32 ag, .int .u32 sq, .int .i64 st, .fz n none (rcs R)], .row 25 [.sl 4 0 n none], .row 32 L]
def tlC : List (Nat × AV) := [(11, .ptr 2 0), (12, .ptr 3 0)]
theorem osC_tells {P : Program} {C D : List AV} {id ag sq st : Int} {R : List Rc} {L : List AV} {t : AT} {i : Nat} (hC : hfs C = true) (hD : hfs D = true) (hL : hfs L = true) (h1 : t.get 11 = some (.ptr 2 0)) (h2 : t.get 12 = some (.ptr 3 0)) :
   Tells P 0 t (allocs St0 (osB C D id ag sq st R L (i + 1))) [] (ofL tlC) (allocs St0 (osC C D id ag sq st R L (i + 1))) [] := by
 refine AbsK.frz (k := 0) (tl := tlC) (os := [.row 24 C, .row 34 D, .row 101 [.int .u32 id, .int .u32 ag, .int .u32 sq, .int .i64 st, .sl 5 0 (i + 1) none], .row 25 [.sl 4 0 (i + 1) none], .row 32 L]) (e := 123) (cs := rcs R) (rs := [0, 1, 2, 3, 5, 4]) (n := 5) (Abs.toK ⟨by decide, ⟨⟨rfl, h1⟩, ⟨rfl, h2⟩, trivial⟩, ⟨⟨rowH hC, by rw [mapRowH hC]; rfl⟩, ⟨rowH hD, by rw [mapRowH hD]; rfl⟩, ⟨rfl, rfl⟩, ⟨rfl, rfl⟩, ⟨rowH hL, by rw [mapRowH hL]; rfl⟩, ⟨rowH (hfs_rcs R), by rw [mapRowH (hfs_rcs R)]; rfl⟩, trivial⟩⟩) rfl (hfs_rcs R) rfl rfl rfl rfl rfl ?_
 show [frzO 5 (rcs R) (.row 24 C), frzO 5 (rcs R) (.row 34 D), _, _, frzO 5 (rcs R) (.row 32 L)] = _
 rw [frzRowH hC, frzRowH hD, frzRowH hL]; rfl
def rest48 : AC := match code48 with
 | .seq _ (.seq _ (.seq _ (.seq _ (.seq _ (.seq _ (.seq _ r)))))) => r
 | _ => .skip
theorem rest_run {P : Program} {e : Env} (hE : EnvOk P e) (hm : P.follows .mixedOrders = true) (h90 : Con e 90 nwF.O) (h91 : Con e 91 insO) {C D : List AV} {id ag sq st : Int} {R : List Rc} {L : List AV} {n : Nat} (hx : Nt.ok ⟨id, ag, sq, st, .fz n none (rcs R), R⟩) (hn : R.length = n) (hl : L.length = n) (h0 : 0 < n) (h1 : n < 100000) (hL : hfs L = true) (K : AV → St → Prop)
   (hk : ∀ s v, Frz s v (if noteB ⟨id, ag, sq, st, .nils, R⟩ then .tup [.fz (n + 1) none (blkV (noteBk ⟨id, ag, sq, st, .nils, R⟩) :: L), .int .i64 0] else .tup [.nils, .int .i64 2]) → K v s) :
   W P 0 none rest48 (ofL tlC) (allocs St0 (osC C D id ag sq st R L n)) [] (Ends [.tmp 8, .tmp 9] K) := by
 refine W.endV hE hm ?_; conv => whnf
 cases hN : noteB ⟨id, ag, sq, st, .fz n none (rcs R), R⟩
 · have hN' : noteB ⟨id, ag, sq, st, .nils, R⟩ = false := hN
   rw [hN'] at hk
   refine ESc.fam nwF h90 ⟨id, ag, sq, st, .fz n none (rcs R), R⟩ hx (u := .tup [.nils, .int .i64 8]) (by show (if noteB _ then _ else _) = _; rw [hN]; rfl) ?_; conv => whnf
   repeat' (first | ((refine w6 rfl rfl ?_ ?_) <;> intro _ <;> first | (exfalso; omega) | (conv => whnf)) | fail)
   exact hk _ _ (.plain _ rfl)
 · have hN' : noteB ⟨id, ag, sq, st, .nils, R⟩ = true := hN
   rw [hN'] at hk
   refine ESc.fam nwF h90 ⟨id, ag, sq, st, .fz n none (rcs R), R⟩ hx (u := .tup [blkV (noteBk ⟨id, ag, sq, st, .nils, R⟩), .int .i64 0]) (by show (if noteB _ then _ else _) = _; rw [hN, if_pos rfl, ← noteBk_v id ag sq st (.fz n none (rcs R))]; rfl) ?_; conv => whnf
   repeat' (first | ((refine w6 rfl rfl ?_ ?_) <;> intro _ <;> first | (exfalso; omega) | (conv => whnf)) | fail)
   refine ESc.ov h91 (insO_at rfl rfl hl h0 h1 (by show (4 : Nat) ≠ 5; decide) (by show (6 : Nat) < 1000000000; decide)) ?_; conv => whnf
   refine hk _ _ (.tup _ _ (.cons (.sl _ 0 _ none none 32 _ _ _ rfl (fun i x h => by rw [Nat.zero_add]; exact h) (frz_self (l := blkV (noteBk ⟨id, ag, sq, st, .nils, R⟩) :: L) hL) (.inl rfl)) (.cons (.plain _ rfl) .nil)))
theorem sumN_lt {bs : List Nat} (h : ∀ b ∈ bs, b < 256) : sumN bs < 4294967296 := Nat.xor_lt_two_pow (n := 32) (crcGo_lt h (by decide)) (by decide)
theorem All2.memR {α β : Type} {R : α → β → Prop} {l : List α} {m : List β} (h : All2 R l m) : ∀ b ∈ m, ∃ a, R a b := by
 induction h with
 | nil => intro b hb; simp at hb
 | cons h _ ih =>
   intro b hb
   rcases List.mem_cons.1 hb with rfl | hb
   · exact ⟨_, h⟩
   · exact ih b hb
theorem prs_ok {x : DB} (hx : x.ok) (hs : ∀ s ∈ x.sl, 0 ≤ s ∧ s ≤ 14) : ∀ p ∈ x.prs, (0 ≤ p.1 ∧ p.1 < 256) ∧ ∀ b ∈ p.2, b < 256 := by
 rintro ⟨s, b⟩ hp
 unfold DB.prs at hp
 rcases List.mem_append.1 hp with hp | hp
 · obtain ⟨h1, h2⟩ := List.of_mem_zip hp
   obtain ⟨u, hu⟩ := hx.bs.memR b h2
   have := hs s h1
   exact ⟨by dsimp only; omega, hu.2⟩
 · split at hp
   · simp at hp
   · simp at hp
     obtain ⟨rfl, rfl⟩ := hp
     exact ⟨by dsimp only; omega, hx.pb.2⟩
theorem recN_ok {p : Int × List Nat} (h : (0 ≤ p.1 ∧ p.1 < 256) ∧ ∀ b ∈ p.2, b < 256) : (recN p).ok := by
 refine ⟨h.1, ?_⟩
 have := sumN_lt (stoodN_lt h.2)
 unfold u32B
 show 0 ≤ ((sumN (stoodN p.2) : Nat) : Int) ∧ ((sumN (stoodN p.2) : Nat) : Int) < 4294967296
 omega
def DB.n (d : DB) : Nat := d.prs.length + 1
end Go.AM

set_option maxRecDepth 100000
namespace Go.AM
attribute [local irreducible] W
open X
structure DB.any (x : DB) : Prop where
 st : i64B x.st
 sl : Sl 1 x.sl.length (ints x.sl) x.sv
 sb : ∀ s ∈ x.sl, i64B s
 bl : Sl 1 x.us.length x.us x.bv
 bs : All2 BAt x.us x.bs
 pb : BAt x.pv x.pb
theorem DB.inja {x y : DB} (hx : x.any) (hy : y.any) (h : x.d.v = y.d.v) : x = y := by
 obtain ⟨st, sv, sl, bv, us, bs, pv, pb⟩ := x
 obtain ⟨st', sv', sl', bv', us', bs', pv', pb'⟩ := y
 have h := AV.agg.inj h
 unfold DB.d Dl.c at h
 injection h with e1 h
 injection h with e2 h
 injection h with e3 h
 injection h with e4 h
 injection e1 with _ e1
 dsimp only at e1 e2 e3 e4
 subst e1 e2 e3 e4
 have e5 := ints_inj (hx.sl.l_inj hy.sl)
 have e6 := hx.bl.l_inj hy.bl
 have e7 := hx.pb.inj hy.pb
 dsimp only at e5 e6 e7
 subst e5 e6 e7
 have : ∀ {us : List AV} {bs bs' : List (List Nat)}, All2 BAt us bs → All2 BAt us bs' → bs = bs' := by
   intro us
   induction us with
   | nil => intro _ _ a b; cases a; cases b; rfl
   | cons u us ih =>
     intro _ _ a b
     cases a with
     | cons a1 a2 => cases b with
       | cons b1 b2 => rw [a1.inj b1, ih a2 b2]
 have e11 := this hx.bs hy.bs
 dsimp only at e11
 subst e11; rfl
theorem DB.anyhf {x : DB} (h : x.any) : AM.hf x.d.v = true := by
 show (true && (AM.hf x.sv && (AM.hf x.bv && (AM.hf x.pv && true)))) = true
 rw [h.sl.hf, h.bl.hf, h.pb.1.hf]; rfl
def bigB (b : List Nat) : Bool := decide (1000 < b.length)
def grtB (x : DB) : Bool := decide (100 < x.sl.length ∨ 100 < x.us.length ∨ 1000 < x.pb.length) || x.bs.any bigB
theorem all2_map {us : List AV} {bs : List (List Nat)} (h : All2 BAt us bs) (hs : ∀ b ∈ bs, b.length < 1000000000) : All2 (fun u n => BN.ok ⟨u, n⟩) us (bs.map List.length) := by
 induction h with
 | nil => exact .nil
 | @cons u b us bs a _ ih => exact .cons ⟨⟨_, a.1⟩, hs b (by simp)⟩ (ih fun c hc => hs c (by simp [hc]))
theorem small_ok {x : DB} (h : x.any) (hg : grtB x = false) : x.ok := by
 unfold grtB at hg
 simp only [Bool.or_eq_false_iff, decide_eq_false_iff_not] at hg
 obtain ⟨h1, h2⟩ := hg
 rw [List.any_eq_false] at h2
 have h3 : ∀ b ∈ x.bs, b.length < 1000000000 := by
   intro b hb
   have := h2 b hb
   unfold bigB at this
   simp only [decide_eq_true_eq] at this
   omega
 refine ⟨⟨h.st, h.sl, h.sb, ?_, ⟨h.bl, all2_map h.bs h3, ?_⟩, ⟨⟨_, h.pb.1⟩, ?_⟩⟩, h.bs, h.pb⟩
 · show x.sl.length < _; omega
 · show x.us.length < _; omega
 · show x.pb.length < _; omega
def grtF : Fam DB := ⟨DB.any, fun x => [x.d.v], fun x => .bool (grtB x), fun x y hx hy h => by rw [DB.inja hx hy (List.cons.inj h).1]⟩
theorem grtF_ok {P : Program} {e : Env} {fn : Func} (hE : EnvOk P e) (hm : P.follows .mixedOrders = true) (hf : P.funcs[32]? = some fn) (hc : compF P fn = some a32) (hb : HasBody P 32) : OvOk P 32 grtF.O := by
 refine Fam.ok_of hb fun x hx => ?_
 refine ⟨by show (AM.hf x.d.v && true) = true; rw [DB.anyhf hx]; rfl, rfl, C.of_V hE hm hf hc ?_⟩
 have hx0 := hx
 obtain ⟨st, sv, sl, bv, us, bs, pv, pb⟩ := x
 obtain ⟨h1, h2, h3, h4, h5, h6⟩ := hx
 dsimp only at h1 h2 h3 h4 h5 h6
 have h7 := h5.length
 have h8 := h6.1
 have fin : ∀ s (b : Bool), b = grtB ⟨st, sv, sl, bv, us, bs, pv, pb⟩ → Frz s (.bool b) (.bool (grtB ⟨st, sv, sl, bv, us, bs, pv, pb⟩)) := by rintro s b rfl; exact .plain _ rfl
 show VW P e 0 (match a32 with | .mk c _ => c) (initT [AV.agg [.int .i64 st, sv, bv, pv]] 0 .lf) St0 none [] (EEnd [.tmp 2] (fun w s' => Frz s' w (.bool (grtB ⟨st, sv, sl, bv, us, bs, pv, pb⟩))))
 have hDf : hfs [.int .i64 st, sv, bv, pv] = true := by
   show (true && (AM.hf sv && (AM.hf bv && (AM.hf pv && true)))) = true
   rw [h2.hf, h4.hf, h8.hf]; rfl
 by_cases hT : 100 < sl.length ∨ 100 < us.length ∨ 1000 < pb.length
 · have hg : grtB ⟨st, sv, sl, bv, us, bs, pv, pb⟩ = true := by unfold grtB; rw [decide_eq_true hT]; rfl
   conv => whnf
   repeat' (first | (refine EPrim.lenZ rfl h2 ?_; conv => whnf) | (refine EPrim.lenZ rfl h4 ?_; conv => whnf) | (refine EPrim.lenZ rfl h8 ?_; conv => whnf) | ((refine w3 rfl rfl ?_ ?_) <;> intro _ <;> first | (exfalso; omega) | (conv => whnf)) | fail)
   all_goals first | exact fin _ _ hg.symm | (exfalso; omega)
 · have hg : grtB ⟨st, sv, sl, bv, us, bs, pv, pb⟩ = bs.any bigB := by unfold grtB; rw [decide_eq_false hT]; rfl
   conv => whnf
   repeat' (first | (refine EPrim.lenZ rfl h2 ?_; conv => whnf) | (refine EPrim.lenZ rfl h4 ?_; conv => whnf) | (refine EPrim.lenZ rfl h8 ?_; conv => whnf) | ((refine w3 rfl rfl ?_ ?_) <;> intro _ <;> first | (exfalso; omega) | (conv => whnf)) | fail)
   refine W.loopT (α := Nat) (fun i => [(1, .ptr 0 0), (3, .int .i64 (i : Int))]) (fun _ => [.row 34 [.int .i64 st, sv, bv, pv]]) (fun i => us.length - i) (fun i => i ≤ us.length ∧ (bs.take i).any bigB = false) 0 ⟨Nat.zero_le _, rfl⟩
     (Abs.tells (rs := [0]) ⟨by decide, ⟨⟨rfl, rfl⟩, ⟨rfl, rfl⟩, trivial⟩, ⟨⟨rowH hDf, by rw [mapRowH hDf]; rfl⟩, trivial⟩⟩) ?_
   rintro i ⟨hi, hI⟩
   refine vw_sound hE hm ?_; conv => whnf
   refine EPrim.lenZ rfl h4 ?_; conv => whnf
   refine EPrim.lss2 rfl rfl (fun h => ?_) (fun h => ?_)
   · have hlt : i < us.length := by omega
     have hlb : i < bs.length := by omega
     obtain ⟨b, hb1, hb2⟩ := h5.get (List.getElem?_eq_getElem hlt)
     have hug : us[i]? = some us[i] := List.getElem?_eq_getElem hlt
     rw [List.getElem?_eq_getElem hlb] at hb1
     have hb1 := Option.some.inj hb1
     subst hb1
     have htk : (bs.take (i + 1)).any bigB = bigB bs[i] := by rw [List.take_succ_eq_append_getElem hlb, List.any_append, hI]; simp
     have hall : bigB bs[i] = true → bs.any bigB = true := fun h => List.any_eq_true.2 ⟨_, List.getElem_mem hlb, h⟩
     revert htk hb2 hug hall
     generalize us[i] = u
     generalize bs[i] = b
     intro hug hb2 htk hall
     have hbl := hb2.1
     conv => whnf
     refine EPrim.ixsS rfl h4 rfl hlt ?_; conv => whnf
     refine EHead.mk (v := u) (by rw [Nat.mul_one, List.getElem?_drop, Nat.add_zero]; exact hug) ?_; conv => whnf
     refine EPrim.lenZ rfl hbl ?_; conv => whnf
     refine EPrim.gtr2 rfl rfl (fun h => ?_) (fun h => ?_)
     · conv => whnf
       exact fin _ _ (by rw [hg]; exact (hall (by unfold bigB; exact decide_eq_true (by omega))).symm)
     · conv => whnf
       repeat' (first | ((first | refine w7 rfl rfl (by omega) ?_ | refine ⟨rfl, ?_⟩); conv => whnf) | fail)
       refine ⟨i + 1, ⟨hlt, by rw [htk]; unfold bigB; exact decide_eq_false (by omega)⟩, by omega, Abs.tells (rs := [0]) ⟨by decide, ⟨⟨rfl, rfl⟩, ⟨rfl, rfl⟩, trivial⟩, ⟨⟨rowH hDf, by rw [mapRowH hDf]; rfl⟩, trivial⟩⟩⟩
   · have hin : bs.take i = bs := List.take_of_length_le (by omega)
     rw [hin] at hI
     conv => whnf
     exact fin _ _ (by rw [hg, hI])
end Go.AM
