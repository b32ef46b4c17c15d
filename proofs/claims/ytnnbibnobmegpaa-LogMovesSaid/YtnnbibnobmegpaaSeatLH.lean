/-
  Functions of the program as the abstract machine reads them, and what is stated of them, checked by the kernel. No conditions.
-/
import Derived.Test.YtnnbibnobmegpaaSeatL
import Derived.Test.YtnnbibnobmegpaaAM5
set_option linter.unusedVariables false
set_option linter.unusedSimpArgs false

set_option linter.unusedVariables false
set_option maxRecDepth 100000
namespace Go.AM
attribute [local irreducible] W
open X
/-- a function without parameters that answers true -/
def trueO : Ov := fun args s => match args with
  | [] => .ok (.bool true) s
  | _ => .fail
theorem trueO_ok {P : Program} {e : Env} {f k : Nat} (hE : EnvOk P e) (hm : P.follows .mixedOrders = true) (hb : HasBody P f) (h : isTrue (callA e (exec e k) f [] St0) = true) : OvOk P f trueO := by
  refine ⟨hb, fun args s v s' hh => ?_⟩
  unfold trueO at hh
  split at hh
  · cases hh
    refine C.pure rfl rfl ?_ s
    obtain ⟨s1, h⟩ := isTrue_ok h
    intro γ vals w m hA hs
    have hc := (callA_sound (exec_good hE hm k) hE hA hs h).2 m
    exact CallsIn.mono hc fun e w' hp => ⟨_, _, .plain _ rfl, hp⟩
  · cases hh
def code31 : AC := match a31 with | .mk c _ => c
def code7 : AC := match a7 with | .mk c _ => c
theorem eqf_lv (x : Lv) : eqfA [0, 0, 0, 1, 1, 1] x.c x.c = some true := by
  have e1 : ∀ (k : IntKind) (n : Int), eq1 0 (.int k n) (.int k n) = some true := fun k n => by
    show cond (eqK k k) (some (eqI n n)) none = _
    rw [eqK_self, eqI_eq]; simp
  have e2 : ∀ b : Bool, eq1 1 (.bool b) (.bool b) = some true := fun b => by
    show some (b == b) = _; simp
  unfold Lv.c
  simp only [eqfA, e1, e2]
/-- the last place ahead of another one -/
def uptoI (st : Int) (L : List Lv) : Nat → Int
  | 0 => -1
  | i + 1 => if (L[i]?.map (hCond st)).getD false then (i : Int) else uptoI st L i
theorem uptoI_lt (st : Int) (L : List Lv) : ∀ i, -1 ≤ uptoI st L i ∧ uptoI st L i < i
  | 0 => by simp [uptoI]
  | i + 1 => by
    have := uptoI_lt st L i
    unfold uptoI; split <;> omega
theorem uptoI_get {st : Int} {L : List Lv} {i : Nat} (h : i < L.length) : uptoI st L (i + 1) = if hCond st L[i] then (i : Int) else uptoI st L i := by
  show (if (L[i]?.map (hCond st)).getD false then (i : Int) else uptoI st L i) = _
  rw [List.getElem?_eq_getElem h]; rfl
theorem hF_upto (st : Int) (L : List Lv) : ∀ (n : Nat), n ≤ L.length → ∀ k, k ≤ n → (((L.take n).drop k).any (hCond st) = true ↔ (k : Int) ≤ uptoI st L n)
  | 0, _, k, hk => by
    have : k = 0 := by omega
    subst this; simp [uptoI]
  | n + 1, hn, k, hk => by
    have hlt : n < L.length := by omega
    rw [uptoI_get hlt, List.take_succ_eq_append_getElem hlt]
    have hb := uptoI_lt st L n
    by_cases hkn : k ≤ n
    · rw [List.drop_append_of_le_length (by simp; omega), List.any_append, Bool.or_eq_true, hF_upto st L n (by omega) k hkn]
      cases hq : hCond st L[n] <;> simp [hq] <;> omega
    · have : k = n + 1 := by omega
      subst this
      rw [List.drop_eq_nil_of_le (by simp; omega)]
      simp only [List.any_nil, Bool.false_eq_true, false_iff]
      split <;> omega
theorem hF_iff {st : Int} {L : List Lv} {k : Nat} (hk : k ≤ L.length) : hF st L k = true ↔ (k : Int) ≤ uptoI st L L.length := by
  have := hF_upto st L L.length (Nat.le_refl _) k hk
  rw [List.take_length] at this
  exact this
theorem box5 {t : AT} : True := trivial
structure LHIn (e : Env) : Prop where
  h30 : Con e 30 trueO
  h31 : Inl e 31 code31 [.tmp 2]
  h33 : Con e 33 lchkF.O
  h37 : Con e 37 flushF.O
  h38 : Con e 38 stripesF.O
  h39 : Con e 39 homeFm.O
theorem homes_law (P : Program) (e : Env) (hE : EnvOk P e) (hm : P.follows .mixedOrders = true) (hI : LHIn e) (c : Cfg) (ag sq tl us : Int) (L : List Lv) (v : AV) (st : Int) (hv : LSl L v) (hst : i64B st)
    (hok : L.length ≤ 1000 → CL.ok ⟨c, ⟨ag, sq, tl, us, L⟩, v⟩) :
    VW P e 0 code7 (initT [c.v, .agg [.int .u32 ag, .int .u32 sq, .int .i64 tl, .int .i64 us, v], .int .i64 st] 0 .lf) St0 none [] (EEnd [.tmp 6] (fun u s => u = .bool true)) := by
  conv => whnf
  refine ESc.ov hI.h30 rfl ?_
  conv => whnf
  refine ESc.inl hI.h31 ?_
  conv => whnf
  refine EPrim.lenZ rfl hv ?_
  conv => whnf
  refine EPrim.gtr2 rfl rfl (fun hgr => ?_) (fun hgr => ?_) <;> conv => whnf
  · rfl
  have hx := hok (by omega)
  by_cases hG : (⟨c, ⟨ag, sq, tl, us, L⟩, v⟩ : CL).good
  · have hM : c.may := hG.1
    have hp := hM
    unfold Cfg.may at hp
    refine ESc.fam lchkF hI.h33 ⟨c, ⟨ag, sq, tl, us, L⟩, v⟩ hx (u := .int .i64 0) (by simp [lchkF, hG]) ?_
    conv => whnf
    repeat' (first
      | (refine EPrim.lss2 rfl rfl (fun _ => ?_) (fun _ => ?_) <;> first | (exfalso; omega) | (conv => whnf))
      | (refine EPrim.leq2 rfl rfl (fun _ => ?_) (fun _ => ?_) <;> first | (exfalso; omega) | (conv => whnf))
      | (refine EPrim.gtr2 rfl rfl (fun _ => ?_) (fun _ => ?_) <;> first | (exfalso; omega) | (conv => whnf))
      | (refine EPrim.geq2 rfl rfl (fun _ => ?_) (fun _ => ?_) <;> first | (exfalso; omega) | (conv => whnf))
      | (refine EPrim.eql2 rfl rfl (fun _ => ?_) (fun _ => ?_) <;> first | (exfalso; omega) | (conv => whnf))
      | (refine EPrim.neq2 rfl rfl (fun _ => ?_) (fun _ => ?_) <;> first | (exfalso; omega) | (conv => whnf))
      | (refine EPrim.addS rfl rfl (by omega) ?_; conv => whnf)
      | (refine EPrim.subS rfl rfl (by omega) ?_; conv => whnf)
      | (refine EPrim.mulS rfl rfl (by omega) ?_; conv => whnf)
      | (refine EPrim.addU32 rfl rfl ?_; conv => whnf)
      | (refine EPrim.subU32 rfl rfl ?_; conv => whnf)
      | (refine EPrim.notT rfl ?_; conv => whnf)
      | (refine EPrim.notF rfl ?_; conv => whnf)
      | (refine EPrim.cviZ (q' := .i64) rfl (i64_in (by omega)) ?_; conv => whnf)
      | (refine EPrim.cviZ (q' := .u32) rfl (u32_in (by omega)) ?_; conv => whnf)
      | (refine EPrim.cviZ (q' := .u8) rfl (u8_in (by omega)) ?_; conv => whnf)
      | (refine EPrim.eqb0 rfl rfl ?_; conv => whnf)
      | (refine EPrim.lenNil rfl ?_; conv => whnf)
      | (refine EPrim.lenF rfl ?_; conv => whnf)
      | (refine EPrim.lenPZ rfl ?_; conv => whnf)
      | (refine ⟨rfl, ?_⟩; conv => whnf)
      | (refine stuckC rfl (fun hc => ?_) (fun hc => ?_) <;> (try subst hc) <;> conv => whnf))
    have hv1 := lvV_sl (M := L.map Lv.flush) hv (by simp)
    refine ESc.fam flushF hI.h37 ⟨c, ⟨ag, sq, tl, us, L⟩, v⟩ hx (u := .tup [.agg [.int .u32 ag, .int .u32 sq, .int .i64 tl, .int .i64 us, lvV v (L.map Lv.flush)], .int .i64 0]) (by simp only [flushF, if_pos hG]; rfl) ?_
    revert hv1
    generalize lvV v (L.map Lv.flush) = v1
    intro hv1
    have hl1 : (L.map Lv.flush).length = L.length := by simp
    conv => whnf
    repeat' (first
      | (refine EPrim.lenZ rfl hv1 ?_; conv => whnf)
      | (refine EPrim.lenZ rfl hv ?_; conv => whnf)
      | (refine EPrim.lss2 rfl rfl (fun _ => ?_) (fun _ => ?_) <;> first | (exfalso; omega) | (conv => whnf))
      | (refine EPrim.leq2 rfl rfl (fun _ => ?_) (fun _ => ?_) <;> first | (exfalso; omega) | (conv => whnf))
      | (refine EPrim.gtr2 rfl rfl (fun _ => ?_) (fun _ => ?_) <;> first | (exfalso; omega) | (conv => whnf))
      | (refine EPrim.geq2 rfl rfl (fun _ => ?_) (fun _ => ?_) <;> first | (exfalso; omega) | (conv => whnf))
      | (refine EPrim.eql2 rfl rfl (fun _ => ?_) (fun _ => ?_) <;> first | (exfalso; omega) | (conv => whnf))
      | (refine EPrim.neq2 rfl rfl (fun _ => ?_) (fun _ => ?_) <;> first | (exfalso; omega) | (conv => whnf))
      | (refine EPrim.addS rfl rfl (by omega) ?_; conv => whnf)
      | (refine EPrim.subS rfl rfl (by omega) ?_; conv => whnf)
      | (refine EPrim.mulS rfl rfl (by omega) ?_; conv => whnf)
      | (refine EPrim.addU32 rfl rfl ?_; conv => whnf)
      | (refine EPrim.subU32 rfl rfl ?_; conv => whnf)
      | (refine EPrim.notT rfl ?_; conv => whnf)
      | (refine EPrim.notF rfl ?_; conv => whnf)
      | (refine EPrim.cviZ (q' := .i64) rfl (i64_in (by omega)) ?_; conv => whnf)
      | (refine EPrim.cviZ (q' := .u32) rfl (u32_in (by omega)) ?_; conv => whnf)
      | (refine EPrim.cviZ (q' := .u8) rfl (u8_in (by omega)) ?_; conv => whnf)
      | (refine EPrim.eqb0 rfl rfl ?_; conv => whnf)
      | (refine EPrim.lenNil rfl ?_; conv => whnf)
      | (refine EPrim.lenF rfl ?_; conv => whnf)
      | (refine EPrim.lenPZ rfl ?_; conv => whnf)
      | (refine ⟨rfl, ?_⟩; conv => whnf)
      | (refine stuckC rfl (fun hc => ?_) (fun hc => ?_) <;> (try subst hc) <;> conv => whnf))
    refine W.loopS (α := Nat) (fun i => [(2, .int .i64 st), (3, .ptr 0 0), (4, .ptr 1 0), (7, .bool true), (8, .ptr 2 0), (10, .int .i64 (i : Int))]) (fun i => [.row 24 c.c, .row 56 [.int .u32 ag, .int .u32 sq, .int .i64 tl, .int .i64 us, v], .row 56 [.int .u32 ag, .int .u32 sq, .int .i64 tl, .int .i64 us, v1]]) (fun i => L.length - i)
      (fun i => i ≤ L.length) 0 [0, 1, 3] (Nat.zero_le _) ⟨by decide, ⟨⟨rfl, rfl⟩, ⟨rfl, rfl⟩, ⟨rfl, rfl⟩, ⟨rfl, rfl⟩, ⟨rfl, rfl⟩, ⟨rfl, rfl⟩, trivial⟩, ⟨⟨rfl, rfl⟩, ⟨?_, ?_⟩, ⟨?_, ?_⟩, trivial⟩⟩ ?_
    · show (true && (true && (true && (true && (bd _ v && true))))) = true; rw [hf_bd _ hv.hf]; rfl
    · show _ = some (AObj.row 56 [_, _, _, _, mapV _ v]); rw [hf_mapV _ hv.hf]; rfl
    · show (true && (true && (true && (true && (bd _ v1 && true))))) = true; rw [hf_bd _ hv1.hf]; rfl
    · show _ = some (AObj.row 56 [_, _, _, _, mapV _ v1]); rw [hf_mapV _ hv1.hf]; rfl
    intro i hi
    refine vw_sound hE hm ?_
    conv => whnf
    refine EPrim.lenZ rfl hv1 ?_
    conv => whnf
    rw [hl1]
    refine EPrim.lss2 rfl rfl (fun h => ?_) (fun h => ?_) <;> conv => whnf
    · have hlt : i < L.length := by omega
      have hlt1 : i < (L.map Lv.flush).length := by omega
      have t1 := lvs_take hlt
      have t2 := lvs_take hlt1
      rw [List.getElem_map] at t2
      refine EPrim.ixsS rfl hv rfl hlt ?_
      conv => whnf
      refine ETake.eq t1 ?_
      conv => whnf
      refine EPrim.ixsS rfl hv1 rfl hlt1 ?_
      conv => whnf
      refine ETake.eq t2 ?_
      conv => whnf
      refine EPrim.eqf2 (c := true) rfl rfl (eqf_lv L[i].flush) ?_
      conv => whnf
      repeat' (first
        | (refine EPrim.lss2 rfl rfl (fun _ => ?_) (fun _ => ?_) <;> first | (exfalso; omega) | (conv => whnf))
        | (refine EPrim.leq2 rfl rfl (fun _ => ?_) (fun _ => ?_) <;> first | (exfalso; omega) | (conv => whnf))
        | (refine EPrim.gtr2 rfl rfl (fun _ => ?_) (fun _ => ?_) <;> first | (exfalso; omega) | (conv => whnf))
        | (refine EPrim.geq2 rfl rfl (fun _ => ?_) (fun _ => ?_) <;> first | (exfalso; omega) | (conv => whnf))
        | (refine EPrim.eql2 rfl rfl (fun _ => ?_) (fun _ => ?_) <;> first | (exfalso; omega) | (conv => whnf))
        | (refine EPrim.neq2 rfl rfl (fun _ => ?_) (fun _ => ?_) <;> first | (exfalso; omega) | (conv => whnf))
        | (refine EPrim.addS rfl rfl (by omega) ?_; conv => whnf)
        | (refine EPrim.subS rfl rfl (by omega) ?_; conv => whnf)
        | (refine EPrim.mulS rfl rfl (by omega) ?_; conv => whnf)
        | (refine EPrim.addU32 rfl rfl ?_; conv => whnf)
        | (refine EPrim.subU32 rfl rfl ?_; conv => whnf)
        | (refine EPrim.notT rfl ?_; conv => whnf)
        | (refine EPrim.notF rfl ?_; conv => whnf)
        | (refine EPrim.cviZ (q' := .i64) rfl (i64_in (by omega)) ?_; conv => whnf)
        | (refine EPrim.cviZ (q' := .u32) rfl (u32_in (by omega)) ?_; conv => whnf)
        | (refine EPrim.cviZ (q' := .u8) rfl (u8_in (by omega)) ?_; conv => whnf)
        | (refine EPrim.eqb0 rfl rfl ?_; conv => whnf)
        | (refine EPrim.lenNil rfl ?_; conv => whnf)
        | (refine EPrim.lenF rfl ?_; conv => whnf)
        | (refine EPrim.lenPZ rfl ?_; conv => whnf)
        | (refine ⟨rfl, ?_⟩; conv => whnf)
        | (refine stuckC rfl (fun hc => ?_) (fun hc => ?_) <;> (try subst hc) <;> conv => whnf))
      refine ⟨i + 1, by omega, by omega, [0, 1, 2], ⟨by decide, ⟨⟨rfl, rfl⟩, ⟨rfl, rfl⟩, ⟨rfl, rfl⟩, ⟨rfl, rfl⟩, ⟨rfl, rfl⟩, ⟨rfl, rfl⟩, trivial⟩, ⟨⟨rfl, rfl⟩, ⟨?_, ?_⟩, ⟨?_, ?_⟩, trivial⟩⟩⟩
      · show (true && (true && (true && (true && (bd _ v && true))))) = true; rw [hf_bd _ hv.hf]; rfl
      · show _ = some (AObj.row 56 [_, _, _, _, mapV _ v]); rw [hf_mapV _ hv.hf]; rfl
      · show (true && (true && (true && (true && (bd _ v1 && true))))) = true; rw [hf_bd _ hv1.hf]; rfl
      · show _ = some (AObj.row 56 [_, _, _, _, mapV _ v1]); rw [hf_mapV _ hv1.hf]; rfl
    · refine ESc.fam stripesF hI.h38 c hx.c (u := .tup [.int .i64 (c.chunk * c.rows), .int .i64 0]) (by simp [stripesF, hM]) ?_
      conv => whnf
      by_cases hIn : (⟨⟨c, ⟨ag, sq, tl, us, L⟩, v⟩, st⟩ : CLS).in
      · have hIn' : 0 ≤ st ∧ st < c.chunk * c.rows := hIn
        have hv2 := lvV_sl (M := homeL st L) hv (by unfold homeL; rw [hmI_length])
        obtain ⟨ya, yb, yc, yd, vy, er, hu, hcase⟩ : ∃ (ya yb yc yd : Int) (vy : AV) (er : Int), homeOut ⟨⟨c, ⟨ag, sq, tl, us, L⟩, v⟩, st⟩ = .tup [.agg [.int .u32 ya, .int .u32 yb, .int .i64 yc, .int .i64 yd, vy], .int .i64 er] ∧ ((hF st L 0 = true ∧ er = 0 ∧ LSl (homeL st L) vy) ∨ (hF st L 0 = false ∧ er = 6 ∧ vy = .nils)) := by
          cases hh : hF st L 0
          · exact ⟨0, 0, 0, 0, .nils, 6, by unfold homeOut; rw [if_pos hG, if_pos hIn, if_neg (by dsimp only; rw [hh]; simp)]; rfl, .inr ⟨rfl, rfl, rfl⟩⟩
          · exact ⟨ag, sq, tl, us, _, 0, by unfold homeOut; rw [if_pos hG, if_pos hIn, if_pos (by dsimp only; rw [hh])]; rfl, .inl ⟨rfl, rfl, hv2⟩⟩
        have hyf : AM.hf vy = true := by
          rcases hcase with ⟨_, _, h⟩ | ⟨_, _, rfl⟩
          · exact h.hf
          · rfl
        refine ESc.fam homeFm hI.h39 ⟨⟨c, ⟨ag, sq, tl, us, L⟩, v⟩, st⟩ ⟨hx, hst⟩ hu ?_
        conv => whnf
        repeat' (first
          | (refine EPrim.lss2 rfl rfl (fun _ => ?_) (fun _ => ?_) <;> first | (exfalso; omega) | (conv => whnf))
          | (refine EPrim.leq2 rfl rfl (fun _ => ?_) (fun _ => ?_) <;> first | (exfalso; omega) | (conv => whnf))
          | (refine EPrim.gtr2 rfl rfl (fun _ => ?_) (fun _ => ?_) <;> first | (exfalso; omega) | (conv => whnf))
          | (refine EPrim.geq2 rfl rfl (fun _ => ?_) (fun _ => ?_) <;> first | (exfalso; omega) | (conv => whnf))
          | (refine EPrim.eql2 rfl rfl (fun _ => ?_) (fun _ => ?_) <;> first | (exfalso; omega) | (conv => whnf))
          | (refine EPrim.neq2 rfl rfl (fun _ => ?_) (fun _ => ?_) <;> first | (exfalso; omega) | (conv => whnf))
          | (refine EPrim.addS rfl rfl (by omega) ?_; conv => whnf)
          | (refine EPrim.subS rfl rfl (by omega) ?_; conv => whnf)
          | (refine EPrim.mulS rfl rfl (by omega) ?_; conv => whnf)
          | (refine EPrim.addU32 rfl rfl ?_; conv => whnf)
          | (refine EPrim.subU32 rfl rfl ?_; conv => whnf)
          | (refine EPrim.notT rfl ?_; conv => whnf)
          | (refine EPrim.notF rfl ?_; conv => whnf)
          | (refine EPrim.cviZ (q' := .i64) rfl (i64_in (by omega)) ?_; conv => whnf)
          | (refine EPrim.cviZ (q' := .u32) rfl (u32_in (by omega)) ?_; conv => whnf)
          | (refine EPrim.cviZ (q' := .u8) rfl (u8_in (by omega)) ?_; conv => whnf)
          | (refine EPrim.eqb0 rfl rfl ?_; conv => whnf)
          | (refine EPrim.lenNil rfl ?_; conv => whnf)
          | (refine EPrim.lenF rfl ?_; conv => whnf)
          | (refine EPrim.lenPZ rfl ?_; conv => whnf)
          | (refine ⟨rfl, ?_⟩; conv => whnf)
          | (refine stuckC rfl (fun hc => ?_) (fun hc => ?_) <;> (try subst hc) <;> conv => whnf))
        refine W.loopS (α := Nat) (fun i => [(2, .int .i64 st), (4, .ptr 0 0), (7, .bool true), (14, .ptr 1 0), (15, .int .i64 er), (16, .int .i64 (uptoI st L i)), (17, .int .i64 (i : Int))]) (fun i => [.row 56 [.int .u32 ag, .int .u32 sq, .int .i64 tl, .int .i64 us, v], .row 56 [.int .u32 ya, .int .u32 yb, .int .i64 yc, .int .i64 yd, vy]]) (fun i => L.length - i)
          (fun i => i ≤ L.length) 0 [1, 3] (Nat.zero_le _) ⟨by decide, ⟨⟨rfl, rfl⟩, ⟨rfl, rfl⟩, ⟨rfl, rfl⟩, ⟨rfl, rfl⟩, ⟨rfl, rfl⟩, ⟨rfl, rfl⟩, ⟨rfl, rfl⟩, trivial⟩, ⟨⟨?_, ?_⟩, ⟨?_, ?_⟩, trivial⟩⟩ ?_
        · show (true && (true && (true && (true && (bd _ v && true))))) = true; rw [hf_bd _ hv.hf]; rfl
        · show _ = some (AObj.row 56 [_, _, _, _, mapV _ v]); rw [hf_mapV _ hv.hf]; rfl
        · show (true && (true && (true && (true && (bd _ vy && true))))) = true; rw [hf_bd _ hyf]; rfl
        · show _ = some (AObj.row 56 [_, _, _, _, mapV _ vy]); rw [hf_mapV _ hyf]; rfl
        clear i hi h
        intro i hi
        refine vw_sound hE hm ?_
        conv => whnf
        refine EPrim.lenZ rfl hv ?_
        conv => whnf
        refine EPrim.lss2 rfl rfl (fun h => ?_) (fun h => ?_) <;> conv => whnf
        · have hlt : i < L.length := by omega
          have t1 := lvs_take hlt
          have hu1 := uptoI_get (st := st) hlt
          have fin : ∀ t s, t.get 2 = some (.int .i64 st) → t.get 4 = some (.ptr 0 0) → t.get 7 = some (.bool true) → t.get 14 = some (.ptr 1 0) → t.get 15 = some (.int .i64 er) → t.get 16 = some (.int .i64 (uptoI st L (i + 1))) → t.get 17 = some (.int .i64 ((i : Int) + 1)) → s.get 0 = some (.row 56 [.int .u32 ag, .int .u32 sq, .int .i64 tl, .int .i64 us, v]) → s.get 1 = some (.row 56 [.int .u32 ya, .int .u32 yb, .int .i64 yc, .int .i64 yd, vy]) →
              ∃ i', i' ≤ L.length ∧ L.length - i' < L.length - i ∧ ∃ rs, Abs t s [(2, .int .i64 st), (4, .ptr 0 0), (7, .bool true), (14, .ptr 1 0), (15, .int .i64 er), (16, .int .i64 (uptoI st L i')), (17, .int .i64 (i' : Int))] [.row 56 [.int .u32 ag, .int .u32 sq, .int .i64 tl, .int .i64 us, v], .row 56 [.int .u32 ya, .int .u32 yb, .int .i64 yc, .int .i64 yd, vy]] rs := by
            intro t s h2 h4 h7 h14 h15 h16 h17 g0 g1
            refine ⟨i + 1, by omega, by omega, [0, 1], ⟨by decide, ⟨⟨rfl, h2⟩, ⟨rfl, h4⟩, ⟨rfl, h7⟩, ⟨rfl, h14⟩, ⟨rfl, h15⟩, ⟨rfl, h16⟩, ⟨rfl, h17⟩, trivial⟩, ⟨⟨?_, ?_⟩, ⟨?_, ?_⟩, trivial⟩⟩⟩
            · show (true && (true && (true && (true && (bd _ v && true))))) = true; rw [hf_bd _ hv.hf]; rfl
            · show _ = some (AObj.row 56 [_, _, _, _, mapV _ v]); rw [hf_mapV _ hv.hf]; exact g0
            · show (true && (true && (true && (true && (bd _ vy && true))))) = true; rw [hf_bd _ hyf]; rfl
            · show _ = some (AObj.row 56 [_, _, _, _, mapV _ vy]); rw [hf_mapV _ hyf]; exact g1
          refine EPrim.ixsS rfl hv rfl hlt ?_
          conv => whnf
          revert t1 hu1
          generalize L[i] = x
          obtain ⟨xq, xs, xb, pa, su, ho⟩ := x
          intro t1 hu1
          refine ETake.eq (cs := [.int .u32 xq, .int .i64 xs, .int .i64 xb, .bool pa, .bool su, .bool ho]) t1 ?_
          unfold hCond at hu1
          dsimp only at hu1
          cases ho
          all_goals
            conv => whnf
            repeat' (first
              | (refine EPrim.lss2 rfl rfl (fun _ => ?_) (fun _ => ?_) <;> first | (exfalso; omega) | (conv => whnf))
              | (refine EPrim.leq2 rfl rfl (fun _ => ?_) (fun _ => ?_) <;> first | (exfalso; omega) | (conv => whnf))
              | (refine EPrim.gtr2 rfl rfl (fun _ => ?_) (fun _ => ?_) <;> first | (exfalso; omega) | (conv => whnf))
              | (refine EPrim.geq2 rfl rfl (fun _ => ?_) (fun _ => ?_) <;> first | (exfalso; omega) | (conv => whnf))
              | (refine EPrim.eql2 rfl rfl (fun _ => ?_) (fun _ => ?_) <;> first | (exfalso; omega) | (conv => whnf))
              | (refine EPrim.neq2 rfl rfl (fun _ => ?_) (fun _ => ?_) <;> first | (exfalso; omega) | (conv => whnf))
              | (refine EPrim.addS rfl rfl (by omega) ?_; conv => whnf)
              | (refine EPrim.subS rfl rfl (by omega) ?_; conv => whnf)
              | (refine EPrim.mulS rfl rfl (by omega) ?_; conv => whnf)
              | (refine EPrim.addU32 rfl rfl ?_; conv => whnf)
              | (refine EPrim.subU32 rfl rfl ?_; conv => whnf)
              | (refine EPrim.notT rfl ?_; conv => whnf)
              | (refine EPrim.notF rfl ?_; conv => whnf)
              | (refine EPrim.cviZ (q' := .i64) rfl (i64_in (by omega)) ?_; conv => whnf)
              | (refine EPrim.cviZ (q' := .u32) rfl (u32_in (by omega)) ?_; conv => whnf)
              | (refine EPrim.cviZ (q' := .u8) rfl (u8_in (by omega)) ?_; conv => whnf)
              | (refine EPrim.eqb0 rfl rfl ?_; conv => whnf)
              | (refine EPrim.lenNil rfl ?_; conv => whnf)
              | (refine EPrim.lenF rfl ?_; conv => whnf)
              | (refine EPrim.lenPZ rfl ?_; conv => whnf)
              | (refine ⟨rfl, ?_⟩; conv => whnf)
              | (refine stuckC rfl (fun hc => ?_) (fun hc => ?_) <;> (try subst hc) <;> conv => whnf))
          all_goals
            refine fin _ _ ?_ ?_ ?_ ?_ ?_ ?_ ?_ ?_ ?_ <;> first | rfl | (show some (AV.int .i64 (i : Int)) = _; rw [hu1]; split <;> first | rfl | (exfalso; rename_i hq; revert hq; simp; done) | (exfalso; rename_i hq; revert hq; simp; omega)) | (show some (AV.int .i64 (uptoI st L i)) = _; rw [hu1]; split <;> first | rfl | (exfalso; rename_i hq; revert hq; simp; done) | (exfalso; rename_i hq; revert hq; simp; omega))
        · have hiL : i = L.length := by omega
          subst hiL
          have hup := uptoI_lt st L L.length
          have hF0 := hF_iff (st := st) (L := L) (k := 0) (Nat.zero_le _)
          rcases hcase with ⟨hh, rfl, hvy⟩ | ⟨hh, rfl, rfl⟩
          · have hu0 : 0 ≤ uptoI st L L.length := by have := hF0.1 hh; omega
            have hl2 : (homeL st L).length = L.length := by unfold homeL; rw [hmI_length]
            repeat' (first
              | (refine EPrim.lenZ rfl hvy ?_; conv => whnf)
              | (refine EPrim.lenZ rfl hv ?_; conv => whnf)
              | (refine EPrim.lss2 rfl rfl (fun _ => ?_) (fun _ => ?_) <;> first | (exfalso; omega) | (conv => whnf))
              | (refine EPrim.leq2 rfl rfl (fun _ => ?_) (fun _ => ?_) <;> first | (exfalso; omega) | (conv => whnf))
              | (refine EPrim.gtr2 rfl rfl (fun _ => ?_) (fun _ => ?_) <;> first | (exfalso; omega) | (conv => whnf))
              | (refine EPrim.geq2 rfl rfl (fun _ => ?_) (fun _ => ?_) <;> first | (exfalso; omega) | (conv => whnf))
              | (refine EPrim.eql2 rfl rfl (fun _ => ?_) (fun _ => ?_) <;> first | (exfalso; omega) | (conv => whnf))
              | (refine EPrim.neq2 rfl rfl (fun _ => ?_) (fun _ => ?_) <;> first | (exfalso; omega) | (conv => whnf))
              | (refine EPrim.addS rfl rfl (by omega) ?_; conv => whnf)
              | (refine EPrim.subS rfl rfl (by omega) ?_; conv => whnf)
              | (refine EPrim.mulS rfl rfl (by omega) ?_; conv => whnf)
              | (refine EPrim.addU32 rfl rfl ?_; conv => whnf)
              | (refine EPrim.subU32 rfl rfl ?_; conv => whnf)
              | (refine EPrim.notT rfl ?_; conv => whnf)
              | (refine EPrim.notF rfl ?_; conv => whnf)
              | (refine EPrim.cviZ (q' := .i64) rfl (i64_in (by omega)) ?_; conv => whnf)
              | (refine EPrim.cviZ (q' := .u32) rfl (u32_in (by omega)) ?_; conv => whnf)
              | (refine EPrim.cviZ (q' := .u8) rfl (u8_in (by omega)) ?_; conv => whnf)
              | (refine EPrim.eqb0 rfl rfl ?_; conv => whnf)
              | (refine EPrim.lenNil rfl ?_; conv => whnf)
              | (refine EPrim.lenF rfl ?_; conv => whnf)
              | (refine EPrim.lenPZ rfl ?_; conv => whnf)
              | (refine ⟨rfl, ?_⟩; conv => whnf)
              | (refine stuckC rfl (fun hc => ?_) (fun hc => ?_) <;> (try subst hc) <;> conv => whnf))
            refine W.loopS (α := Nat) (fun i => [(2, .int .i64 st), (4, .ptr 0 0), (7, .bool true), (14, .ptr 1 0), (16, .int .i64 (uptoI st L L.length)), (19, .int .i64 (i : Int))]) (fun i => [.row 56 [.int .u32 ag, .int .u32 sq, .int .i64 tl, .int .i64 us, v], .row 56 [.int .u32 ya, .int .u32 yb, .int .i64 yc, .int .i64 yd, vy]]) (fun i => L.length - i)
              (fun i => i ≤ L.length) 0 [0, 1] (Nat.zero_le _) ⟨by decide, ⟨⟨rfl, rfl⟩, ⟨rfl, rfl⟩, ⟨rfl, rfl⟩, ⟨rfl, rfl⟩, ⟨rfl, rfl⟩, ⟨rfl, rfl⟩, trivial⟩, ⟨⟨?_, ?_⟩, ⟨?_, ?_⟩, trivial⟩⟩ ?_
            · show (true && (true && (true && (true && (bd _ v && true))))) = true; rw [hf_bd _ hv.hf]; rfl
            · show _ = some (AObj.row 56 [_, _, _, _, mapV _ v]); rw [hf_mapV _ hv.hf]; rfl
            · show (true && (true && (true && (true && (bd _ vy && true))))) = true; rw [hf_bd _ hyf]; rfl
            · show _ = some (AObj.row 56 [_, _, _, _, mapV _ vy]); rw [hf_mapV _ hyf]; rfl
            intro i hi
            refine vw_sound hE hm ?_
            conv => whnf
            refine EPrim.lenZ rfl hvy ?_
            conv => whnf
            rw [hl2]
            refine EPrim.lss2 rfl rfl (fun h => ?_) (fun h => ?_) <;> conv => whnf
            · have hlt : i < L.length := by omega
              have hlt2 : i < (homeL st L).length := by omega
              have t1 := lvs_take hlt
              have t2 := lvs_take hlt2
              have hgx : (homeL st L)[i] = homeX st L i L[i] := by unfold homeL hmI; simp
              rw [hgx] at t2
              have hFi := hF_iff (st := st) (L := L) (k := i) (by omega)
              have fin : ∀ t s, t.get 2 = some (.int .i64 st) → t.get 4 = some (.ptr 0 0) → t.get 7 = some (.bool true) → t.get 14 = some (.ptr 1 0) → t.get 16 = some (.int .i64 (uptoI st L L.length)) → t.get 19 = some (.int .i64 ((i : Int) + 1)) → s.get 0 = some (.row 56 [.int .u32 ag, .int .u32 sq, .int .i64 tl, .int .i64 us, v]) → s.get 1 = some (.row 56 [.int .u32 ya, .int .u32 yb, .int .i64 yc, .int .i64 yd, vy]) →
                  ∃ i', i' ≤ L.length ∧ L.length - i' < L.length - i ∧ ∃ rs, Abs t s [(2, .int .i64 st), (4, .ptr 0 0), (7, .bool true), (14, .ptr 1 0), (16, .int .i64 (uptoI st L L.length)), (19, .int .i64 (i' : Int))] [.row 56 [.int .u32 ag, .int .u32 sq, .int .i64 tl, .int .i64 us, v], .row 56 [.int .u32 ya, .int .u32 yb, .int .i64 yc, .int .i64 yd, vy]] rs := by
                intro t s h2 h4 h7 h14 h16 h19 g0 g1
                refine ⟨i + 1, by omega, by omega, [0, 1], ⟨by decide, ⟨⟨rfl, h2⟩, ⟨rfl, h4⟩, ⟨rfl, h7⟩, ⟨rfl, h14⟩, ⟨rfl, h16⟩, ⟨rfl, h19⟩, trivial⟩, ⟨⟨?_, ?_⟩, ⟨?_, ?_⟩, trivial⟩⟩⟩
                · show (true && (true && (true && (true && (bd _ v && true))))) = true; rw [hf_bd _ hv.hf]; rfl
                · show _ = some (AObj.row 56 [_, _, _, _, mapV _ v]); rw [hf_mapV _ hv.hf]; exact g0
                · show (true && (true && (true && (true && (bd _ vy && true))))) = true; rw [hf_bd _ hyf]; rfl
                · show _ = some (AObj.row 56 [_, _, _, _, mapV _ vy]); rw [hf_mapV _ hyf]; exact g1
              revert t1 t2
              generalize L[i] = x
              obtain ⟨xq, xs, xb, pa, su, ho⟩ := x
              intro t1 t2
              obtain ⟨b, hb⟩ : ∃ b, b = (ho || (decide (xs = st) && decide ((i : Int) ≤ uptoI st L L.length))) := ⟨_, rfl⟩
              have hX : homeX st L i ⟨xq, xs, xb, pa, su, ho⟩ = ⟨xq, xs, xb, pa, su, b⟩ := by
                unfold homeX
                rw [hb]
                by_cases h1 : xs = st
                · rw [if_pos h1, decide_eq_true h1]
                  cases hq : hF st L i
                  · rw [decide_eq_false (fun h2 => by have := hFi.2 h2; rw [hq] at this; cases this)]; simp
                  · rw [decide_eq_true (hFi.1 hq)]; simp
                · rw [if_neg h1, decide_eq_false h1]; simp
              rw [hX] at t2
              have t1' : takeL 6 ((lvs L).drop (i * 6)) = some [.int .u32 xq, .int .i64 xs, .int .i64 xb, .bool pa, .bool su, .bool ho] := t1
              have t2' : takeL 6 ((lvs (homeL st L)).drop (i * 6)) = some [.int .u32 xq, .int .i64 xs, .int .i64 xb, .bool pa, .bool su, .bool b] := t2
              refine EPrim.ixsS rfl hv rfl hlt ?_
              conv => whnf
              refine ETake.eq t1' ?_
              conv => whnf
              repeat' (first
                | (refine EPrim.ixsS rfl hvy rfl hlt2 ?_; conv => whnf)
                | (refine ETake.eq t2' ?_; conv => whnf)
                | (refine EPrim.lss2 rfl rfl (fun _ => ?_) (fun _ => ?_) <;> first | (exfalso; omega) | (conv => whnf))
                | (refine EPrim.leq2 rfl rfl (fun _ => ?_) (fun _ => ?_) <;> first | (exfalso; omega) | (conv => whnf))
                | (refine EPrim.gtr2 rfl rfl (fun _ => ?_) (fun _ => ?_) <;> first | (exfalso; omega) | (conv => whnf))
                | (refine EPrim.geq2 rfl rfl (fun _ => ?_) (fun _ => ?_) <;> first | (exfalso; omega) | (conv => whnf))
                | (refine EPrim.eql2 rfl rfl (fun _ => ?_) (fun _ => ?_) <;> first | (exfalso; omega) | (conv => whnf))
                | (refine EPrim.neq2 rfl rfl (fun _ => ?_) (fun _ => ?_) <;> first | (exfalso; omega) | (conv => whnf))
                | (refine EPrim.addS rfl rfl (by omega) ?_; conv => whnf)
                | (refine EPrim.subS rfl rfl (by omega) ?_; conv => whnf)
                | (refine EPrim.mulS rfl rfl (by omega) ?_; conv => whnf)
                | (refine EPrim.addU32 rfl rfl ?_; conv => whnf)
                | (refine EPrim.subU32 rfl rfl ?_; conv => whnf)
                | (refine EPrim.notT rfl ?_; conv => whnf)
                | (refine EPrim.notF rfl ?_; conv => whnf)
                | (refine EPrim.cviZ (q' := .i64) rfl (i64_in (by omega)) ?_; conv => whnf)
                | (refine EPrim.cviZ (q' := .u32) rfl (u32_in (by omega)) ?_; conv => whnf)
                | (refine EPrim.cviZ (q' := .u8) rfl (u8_in (by omega)) ?_; conv => whnf)
                | (refine EPrim.eqb0 rfl rfl ?_; conv => whnf)
                | (refine EPrim.lenNil rfl ?_; conv => whnf)
                | (refine EPrim.lenF rfl ?_; conv => whnf)
                | (refine EPrim.lenPZ rfl ?_; conv => whnf)
                | (refine ⟨rfl, ?_⟩; conv => whnf)
                | (refine stuckC rfl (fun hc => ?_) (fun hc => ?_) <;> (try subst hc) <;> conv => whnf))
              · rw [show b = true by rw [hb]; simp]
                refine EPrim.eqf2 (c := true) rfl rfl (eqf_lv ⟨xq, xs, xb, pa, su, true⟩) ?_
                conv => whnf
                repeat' (first
                  | (refine EPrim.lss2 rfl rfl (fun _ => ?_) (fun _ => ?_) <;> first | (exfalso; omega) | (conv => whnf))
                  | (refine EPrim.leq2 rfl rfl (fun _ => ?_) (fun _ => ?_) <;> first | (exfalso; omega) | (conv => whnf))
                  | (refine EPrim.gtr2 rfl rfl (fun _ => ?_) (fun _ => ?_) <;> first | (exfalso; omega) | (conv => whnf))
                  | (refine EPrim.geq2 rfl rfl (fun _ => ?_) (fun _ => ?_) <;> first | (exfalso; omega) | (conv => whnf))
                  | (refine EPrim.eql2 rfl rfl (fun _ => ?_) (fun _ => ?_) <;> first | (exfalso; omega) | (conv => whnf))
                  | (refine EPrim.neq2 rfl rfl (fun _ => ?_) (fun _ => ?_) <;> first | (exfalso; omega) | (conv => whnf))
                  | (refine EPrim.addS rfl rfl (by omega) ?_; conv => whnf)
                  | (refine EPrim.subS rfl rfl (by omega) ?_; conv => whnf)
                  | (refine EPrim.mulS rfl rfl (by omega) ?_; conv => whnf)
                  | (refine EPrim.addU32 rfl rfl ?_; conv => whnf)
                  | (refine EPrim.subU32 rfl rfl ?_; conv => whnf)
                  | (refine EPrim.notT rfl ?_; conv => whnf)
                  | (refine EPrim.notF rfl ?_; conv => whnf)
                  | (refine EPrim.cviZ (q' := .i64) rfl (i64_in (by omega)) ?_; conv => whnf)
                  | (refine EPrim.cviZ (q' := .u32) rfl (u32_in (by omega)) ?_; conv => whnf)
                  | (refine EPrim.cviZ (q' := .u8) rfl (u8_in (by omega)) ?_; conv => whnf)
                  | (refine EPrim.eqb0 rfl rfl ?_; conv => whnf)
                  | (refine EPrim.lenNil rfl ?_; conv => whnf)
                  | (refine EPrim.lenF rfl ?_; conv => whnf)
                  | (refine EPrim.lenPZ rfl ?_; conv => whnf)
                  | (refine ⟨rfl, ?_⟩; conv => whnf)
                  | (refine stuckC rfl (fun hc => ?_) (fun hc => ?_) <;> (try subst hc) <;> conv => whnf))
                refine fin _ _ ?_ ?_ ?_ ?_ ?_ ?_ ?_ ?_ <;> rfl
              · rw [show b = true by rw [hb, decide_eq_true (p := xs = st) (by omega), decide_eq_true (p := (i : Int) ≤ _) (by omega)]; simp]
                refine EPrim.eqf2 (c := true) rfl rfl (eqf_lv ⟨xq, xs, xb, pa, su, true⟩) ?_
                conv => whnf
                repeat' (first
                  | (refine EPrim.lss2 rfl rfl (fun _ => ?_) (fun _ => ?_) <;> first | (exfalso; omega) | (conv => whnf))
                  | (refine EPrim.leq2 rfl rfl (fun _ => ?_) (fun _ => ?_) <;> first | (exfalso; omega) | (conv => whnf))
                  | (refine EPrim.gtr2 rfl rfl (fun _ => ?_) (fun _ => ?_) <;> first | (exfalso; omega) | (conv => whnf))
                  | (refine EPrim.geq2 rfl rfl (fun _ => ?_) (fun _ => ?_) <;> first | (exfalso; omega) | (conv => whnf))
                  | (refine EPrim.eql2 rfl rfl (fun _ => ?_) (fun _ => ?_) <;> first | (exfalso; omega) | (conv => whnf))
                  | (refine EPrim.neq2 rfl rfl (fun _ => ?_) (fun _ => ?_) <;> first | (exfalso; omega) | (conv => whnf))
                  | (refine EPrim.addS rfl rfl (by omega) ?_; conv => whnf)
                  | (refine EPrim.subS rfl rfl (by omega) ?_; conv => whnf)
                  | (refine EPrim.mulS rfl rfl (by omega) ?_; conv => whnf)
                  | (refine EPrim.addU32 rfl rfl ?_; conv => whnf)
                  | (refine EPrim.subU32 rfl rfl ?_; conv => whnf)
                  | (refine EPrim.notT rfl ?_; conv => whnf)
                  | (refine EPrim.notF rfl ?_; conv => whnf)
                  | (refine EPrim.cviZ (q' := .i64) rfl (i64_in (by omega)) ?_; conv => whnf)
                  | (refine EPrim.cviZ (q' := .u32) rfl (u32_in (by omega)) ?_; conv => whnf)
                  | (refine EPrim.cviZ (q' := .u8) rfl (u8_in (by omega)) ?_; conv => whnf)
                  | (refine EPrim.eqb0 rfl rfl ?_; conv => whnf)
                  | (refine EPrim.lenNil rfl ?_; conv => whnf)
                  | (refine EPrim.lenF rfl ?_; conv => whnf)
                  | (refine EPrim.lenPZ rfl ?_; conv => whnf)
                  | (refine ⟨rfl, ?_⟩; conv => whnf)
                  | (refine stuckC rfl (fun hc => ?_) (fun hc => ?_) <;> (try subst hc) <;> conv => whnf))
                refine fin _ _ ?_ ?_ ?_ ?_ ?_ ?_ ?_ ?_ <;> rfl
              · rw [show b = false by rw [hb, decide_eq_false (p := (i : Int) ≤ _) (by omega)]; simp]
                refine EPrim.eqf2 (c := true) rfl rfl (eqf_lv ⟨xq, xs, xb, pa, su, false⟩) ?_
                conv => whnf
                repeat' (first
                  | (refine EPrim.lss2 rfl rfl (fun _ => ?_) (fun _ => ?_) <;> first | (exfalso; omega) | (conv => whnf))
                  | (refine EPrim.leq2 rfl rfl (fun _ => ?_) (fun _ => ?_) <;> first | (exfalso; omega) | (conv => whnf))
                  | (refine EPrim.gtr2 rfl rfl (fun _ => ?_) (fun _ => ?_) <;> first | (exfalso; omega) | (conv => whnf))
                  | (refine EPrim.geq2 rfl rfl (fun _ => ?_) (fun _ => ?_) <;> first | (exfalso; omega) | (conv => whnf))
                  | (refine EPrim.eql2 rfl rfl (fun _ => ?_) (fun _ => ?_) <;> first | (exfalso; omega) | (conv => whnf))
                  | (refine EPrim.neq2 rfl rfl (fun _ => ?_) (fun _ => ?_) <;> first | (exfalso; omega) | (conv => whnf))
                  | (refine EPrim.addS rfl rfl (by omega) ?_; conv => whnf)
                  | (refine EPrim.subS rfl rfl (by omega) ?_; conv => whnf)
                  | (refine EPrim.mulS rfl rfl (by omega) ?_; conv => whnf)
                  | (refine EPrim.addU32 rfl rfl ?_; conv => whnf)
                  | (refine EPrim.subU32 rfl rfl ?_; conv => whnf)
                  | (refine EPrim.notT rfl ?_; conv => whnf)
                  | (refine EPrim.notF rfl ?_; conv => whnf)
                  | (refine EPrim.cviZ (q' := .i64) rfl (i64_in (by omega)) ?_; conv => whnf)
                  | (refine EPrim.cviZ (q' := .u32) rfl (u32_in (by omega)) ?_; conv => whnf)
                  | (refine EPrim.cviZ (q' := .u8) rfl (u8_in (by omega)) ?_; conv => whnf)
                  | (refine EPrim.eqb0 rfl rfl ?_; conv => whnf)
                  | (refine EPrim.lenNil rfl ?_; conv => whnf)
                  | (refine EPrim.lenF rfl ?_; conv => whnf)
                  | (refine EPrim.lenPZ rfl ?_; conv => whnf)
                  | (refine ⟨rfl, ?_⟩; conv => whnf)
                  | (refine stuckC rfl (fun hc => ?_) (fun hc => ?_) <;> (try subst hc) <;> conv => whnf))
                refine fin _ _ ?_ ?_ ?_ ?_ ?_ ?_ ?_ ?_ <;> rfl
              · rw [show b = false by rw [hb, decide_eq_false (p := xs = st) (by omega)]; simp]
                refine EPrim.eqf2 (c := true) rfl rfl (eqf_lv ⟨xq, xs, xb, pa, su, false⟩) ?_
                conv => whnf
                repeat' (first
                  | (refine EPrim.lss2 rfl rfl (fun _ => ?_) (fun _ => ?_) <;> first | (exfalso; omega) | (conv => whnf))
                  | (refine EPrim.leq2 rfl rfl (fun _ => ?_) (fun _ => ?_) <;> first | (exfalso; omega) | (conv => whnf))
                  | (refine EPrim.gtr2 rfl rfl (fun _ => ?_) (fun _ => ?_) <;> first | (exfalso; omega) | (conv => whnf))
                  | (refine EPrim.geq2 rfl rfl (fun _ => ?_) (fun _ => ?_) <;> first | (exfalso; omega) | (conv => whnf))
                  | (refine EPrim.eql2 rfl rfl (fun _ => ?_) (fun _ => ?_) <;> first | (exfalso; omega) | (conv => whnf))
                  | (refine EPrim.neq2 rfl rfl (fun _ => ?_) (fun _ => ?_) <;> first | (exfalso; omega) | (conv => whnf))
                  | (refine EPrim.addS rfl rfl (by omega) ?_; conv => whnf)
                  | (refine EPrim.subS rfl rfl (by omega) ?_; conv => whnf)
                  | (refine EPrim.mulS rfl rfl (by omega) ?_; conv => whnf)
                  | (refine EPrim.addU32 rfl rfl ?_; conv => whnf)
                  | (refine EPrim.subU32 rfl rfl ?_; conv => whnf)
                  | (refine EPrim.notT rfl ?_; conv => whnf)
                  | (refine EPrim.notF rfl ?_; conv => whnf)
                  | (refine EPrim.cviZ (q' := .i64) rfl (i64_in (by omega)) ?_; conv => whnf)
                  | (refine EPrim.cviZ (q' := .u32) rfl (u32_in (by omega)) ?_; conv => whnf)
                  | (refine EPrim.cviZ (q' := .u8) rfl (u8_in (by omega)) ?_; conv => whnf)
                  | (refine EPrim.eqb0 rfl rfl ?_; conv => whnf)
                  | (refine EPrim.lenNil rfl ?_; conv => whnf)
                  | (refine EPrim.lenF rfl ?_; conv => whnf)
                  | (refine EPrim.lenPZ rfl ?_; conv => whnf)
                  | (refine ⟨rfl, ?_⟩; conv => whnf)
                  | (refine stuckC rfl (fun hc => ?_) (fun hc => ?_) <;> (try subst hc) <;> conv => whnf))
                refine fin _ _ ?_ ?_ ?_ ?_ ?_ ?_ ?_ ?_ <;> rfl
            · rfl
          · have hu0 : uptoI st L L.length < 0 := by
              rcases Int.lt_or_le (uptoI st L L.length) 0 with h | h
              · exact h
              · have := hF0.2 (by omega); rw [hh] at this; cases this
            repeat' (first
              | (refine EPrim.lss2 rfl rfl (fun _ => ?_) (fun _ => ?_) <;> first | (exfalso; omega) | (conv => whnf))
              | (refine EPrim.leq2 rfl rfl (fun _ => ?_) (fun _ => ?_) <;> first | (exfalso; omega) | (conv => whnf))
              | (refine EPrim.gtr2 rfl rfl (fun _ => ?_) (fun _ => ?_) <;> first | (exfalso; omega) | (conv => whnf))
              | (refine EPrim.geq2 rfl rfl (fun _ => ?_) (fun _ => ?_) <;> first | (exfalso; omega) | (conv => whnf))
              | (refine EPrim.eql2 rfl rfl (fun _ => ?_) (fun _ => ?_) <;> first | (exfalso; omega) | (conv => whnf))
              | (refine EPrim.neq2 rfl rfl (fun _ => ?_) (fun _ => ?_) <;> first | (exfalso; omega) | (conv => whnf))
              | (refine EPrim.addS rfl rfl (by omega) ?_; conv => whnf)
              | (refine EPrim.subS rfl rfl (by omega) ?_; conv => whnf)
              | (refine EPrim.mulS rfl rfl (by omega) ?_; conv => whnf)
              | (refine EPrim.addU32 rfl rfl ?_; conv => whnf)
              | (refine EPrim.subU32 rfl rfl ?_; conv => whnf)
              | (refine EPrim.notT rfl ?_; conv => whnf)
              | (refine EPrim.notF rfl ?_; conv => whnf)
              | (refine EPrim.cviZ (q' := .i64) rfl (i64_in (by omega)) ?_; conv => whnf)
              | (refine EPrim.cviZ (q' := .u32) rfl (u32_in (by omega)) ?_; conv => whnf)
              | (refine EPrim.cviZ (q' := .u8) rfl (u8_in (by omega)) ?_; conv => whnf)
              | (refine EPrim.eqb0 rfl rfl ?_; conv => whnf)
              | (refine EPrim.lenNil rfl ?_; conv => whnf)
              | (refine EPrim.lenF rfl ?_; conv => whnf)
              | (refine EPrim.lenPZ rfl ?_; conv => whnf)
              | (refine ⟨rfl, ?_⟩; conv => whnf)
              | (refine stuckC rfl (fun hc => ?_) (fun hc => ?_) <;> (try subst hc) <;> conv => whnf))
            rfl
      · have hIn' : ¬ (0 ≤ st ∧ st < c.chunk * c.rows) := hIn
        refine ESc.fam homeFm hI.h39 ⟨⟨c, ⟨ag, sq, tl, us, L⟩, v⟩, st⟩ ⟨hx, hst⟩ (u := .tup [.agg zLog, .int .i64 2]) (by show homeOut _ = _; unfold homeOut; rw [if_pos hG, if_neg hIn]) ?_
        conv => whnf
        repeat' (first
          | (refine EPrim.lss2 rfl rfl (fun _ => ?_) (fun _ => ?_) <;> first | (exfalso; omega) | (conv => whnf))
          | (refine EPrim.leq2 rfl rfl (fun _ => ?_) (fun _ => ?_) <;> first | (exfalso; omega) | (conv => whnf))
          | (refine EPrim.gtr2 rfl rfl (fun _ => ?_) (fun _ => ?_) <;> first | (exfalso; omega) | (conv => whnf))
          | (refine EPrim.geq2 rfl rfl (fun _ => ?_) (fun _ => ?_) <;> first | (exfalso; omega) | (conv => whnf))
          | (refine EPrim.eql2 rfl rfl (fun _ => ?_) (fun _ => ?_) <;> first | (exfalso; omega) | (conv => whnf))
          | (refine EPrim.neq2 rfl rfl (fun _ => ?_) (fun _ => ?_) <;> first | (exfalso; omega) | (conv => whnf))
          | (refine EPrim.addS rfl rfl (by omega) ?_; conv => whnf)
          | (refine EPrim.subS rfl rfl (by omega) ?_; conv => whnf)
          | (refine EPrim.mulS rfl rfl (by omega) ?_; conv => whnf)
          | (refine EPrim.addU32 rfl rfl ?_; conv => whnf)
          | (refine EPrim.subU32 rfl rfl ?_; conv => whnf)
          | (refine EPrim.notT rfl ?_; conv => whnf)
          | (refine EPrim.notF rfl ?_; conv => whnf)
          | (refine EPrim.cviZ (q' := .i64) rfl (i64_in (by omega)) ?_; conv => whnf)
          | (refine EPrim.cviZ (q' := .u32) rfl (u32_in (by omega)) ?_; conv => whnf)
          | (refine EPrim.cviZ (q' := .u8) rfl (u8_in (by omega)) ?_; conv => whnf)
          | (refine EPrim.eqb0 rfl rfl ?_; conv => whnf)
          | (refine EPrim.lenNil rfl ?_; conv => whnf)
          | (refine EPrim.lenF rfl ?_; conv => whnf)
          | (refine EPrim.lenPZ rfl ?_; conv => whnf)
          | (refine ⟨rfl, ?_⟩; conv => whnf)
          | (refine stuckC rfl (fun hc => ?_) (fun hc => ?_) <;> (try subst hc) <;> conv => whnf))
        all_goals rfl
  · refine ESc.fam lchkF hI.h33 ⟨c, ⟨ag, sq, tl, us, L⟩, v⟩ hx (u := .int .i64 8) (by simp [lchkF, hG]) ?_
    conv => whnf
    repeat' (first
      | (refine EPrim.lss2 rfl rfl (fun _ => ?_) (fun _ => ?_) <;> first | (exfalso; omega) | (conv => whnf))
      | (refine EPrim.leq2 rfl rfl (fun _ => ?_) (fun _ => ?_) <;> first | (exfalso; omega) | (conv => whnf))
      | (refine EPrim.gtr2 rfl rfl (fun _ => ?_) (fun _ => ?_) <;> first | (exfalso; omega) | (conv => whnf))
      | (refine EPrim.geq2 rfl rfl (fun _ => ?_) (fun _ => ?_) <;> first | (exfalso; omega) | (conv => whnf))
      | (refine EPrim.eql2 rfl rfl (fun _ => ?_) (fun _ => ?_) <;> first | (exfalso; omega) | (conv => whnf))
      | (refine EPrim.neq2 rfl rfl (fun _ => ?_) (fun _ => ?_) <;> first | (exfalso; omega) | (conv => whnf))
      | (refine EPrim.addS rfl rfl (by omega) ?_; conv => whnf)
      | (refine EPrim.subS rfl rfl (by omega) ?_; conv => whnf)
      | (refine EPrim.mulS rfl rfl (by omega) ?_; conv => whnf)
      | (refine EPrim.addU32 rfl rfl ?_; conv => whnf)
      | (refine EPrim.subU32 rfl rfl ?_; conv => whnf)
      | (refine EPrim.notT rfl ?_; conv => whnf)
      | (refine EPrim.notF rfl ?_; conv => whnf)
      | (refine EPrim.cviZ (q' := .i64) rfl (i64_in (by omega)) ?_; conv => whnf)
      | (refine EPrim.cviZ (q' := .u32) rfl (u32_in (by omega)) ?_; conv => whnf)
      | (refine EPrim.cviZ (q' := .u8) rfl (u8_in (by omega)) ?_; conv => whnf)
      | (refine EPrim.eqb0 rfl rfl ?_; conv => whnf)
      | (refine EPrim.lenNil rfl ?_; conv => whnf)
      | (refine EPrim.lenF rfl ?_; conv => whnf)
      | (refine EPrim.lenPZ rfl ?_; conv => whnf)
      | (refine ⟨rfl, ?_⟩; conv => whnf)
      | (refine stuckC rfl (fun hc => ?_) (fun hc => ?_) <;> (try subst hc) <;> conv => whnf))
    rfl
end Go.AM

set_option linter.unusedVariables false
set_option maxRecDepth 100000
namespace Go.AM
open Go.RowKit
theorem wf_i64 {n : Int} (h : (Lit.int .i64 n).wf = true) : i64B n := by
  unfold i64B
  simp [Lit.wf, IntKind.min, IntKind.max, IntKind.bits, IntKind.signed] at h
  omega
theorem wf_u32 {n : Int} (h : (Lit.int .u32 n).wf = true) : u32B n := by
  unfold u32B
  simp [Lit.wf, IntKind.min, IntKind.max, IntKind.bits, IntKind.signed] at h
  omega
def tCfg : List Ty := [.int .u32, .int .i64, .int .i64, .int .i64, .int .i64, .int .i64]
def tLv : List Ty := [.int .u32, .int .i64, .int .i64, .bool, .bool, .bool]
def tLog : List Ty := [.int .u32, .int .u32, .int .i64, .int .i64, .sl (.st tLv)]
theorem shape_int {k : IntKind} {l : List AV} (h : Shape (.int k) l) : ∃ n, l = [.int k n] ∧ (Lit.int k n).wf = true := by
  cases h with | int _ n h => exact ⟨n, rfl, h⟩
theorem shape_bool {l : List AV} (h : Shape .bool l) : ∃ b, l = [.bool b] := by
  cases h with | bool b => exact ⟨b, rfl⟩
theorem shapes_cons {T : Ty} {Ts : List Ty} {l : List AV} (h : Shapes (T :: Ts) l) : ∃ a b, l = a ++ b ∧ Shape T a ∧ Shapes Ts b := by
  cases h with | cons _ _ a b h1 h2 => exact ⟨a, b, rfl, h1, h2⟩
theorem shapes_nil {l : List AV} (h : Shapes [] l) : l = [] := by cases h; rfl
theorem shapes_int {k : IntKind} {Ts : List Ty} {l : List AV} (h : Shapes (.int k :: Ts) l) : ∃ n b, l = .int k n :: b ∧ (Lit.int k n).wf = true ∧ Shapes Ts b := by
  obtain ⟨a, b, rfl, h1, h2⟩ := shapes_cons h
  obtain ⟨n, rfl, hw⟩ := shape_int h1
  exact ⟨n, b, rfl, hw, h2⟩
theorem shapes_bool {Ts : List Ty} {l : List AV} (h : Shapes (.bool :: Ts) l) : ∃ x b, l = .bool x :: b ∧ Shapes Ts b := by
  obtain ⟨a, b, rfl, h1, h2⟩ := shapes_cons h
  obtain ⟨n, rfl⟩ := shape_bool h1
  exact ⟨n, b, rfl, h2⟩
theorem cfg_of {l : List AV} (h : Shapes tCfg l) : ∃ c : Cfg, c.ok ∧ l = c.c := by
  obtain ⟨a1, b1, rfl, w1, g1⟩ := shapes_int h
  obtain ⟨a2, b2, rfl, w2, g2⟩ := shapes_int g1
  obtain ⟨a3, b3, rfl, w3, g3⟩ := shapes_int g2
  obtain ⟨a4, b4, rfl, w4, g4⟩ := shapes_int g3
  obtain ⟨a5, b5, rfl, w5, g5⟩ := shapes_int g4
  obtain ⟨a6, b6, rfl, w6, g6⟩ := shapes_int g5
  rw [shapes_nil g6]
  exact ⟨⟨a1, a2, a3, a4, a5, a6⟩, ⟨wf_u32 w1, wf_i64 w2, wf_i64 w3, wf_i64 w4, wf_i64 w5, wf_i64 w6⟩, rfl⟩
theorem lv_of {l : List AV} (h : Shapes tLv l) : ∃ x : Lv, x.ok ∧ l = x.c := by
  obtain ⟨a1, b1, rfl, w1, g1⟩ := shapes_int h
  obtain ⟨a2, b2, rfl, w2, g2⟩ := shapes_int g1
  obtain ⟨a3, b3, rfl, w3, g3⟩ := shapes_int g2
  obtain ⟨a4, b4, rfl, g4⟩ := shapes_bool g3
  obtain ⟨a5, b5, rfl, g5⟩ := shapes_bool g4
  obtain ⟨a6, b6, rfl, g6⟩ := shapes_bool g5
  rw [shapes_nil g6]
  exact ⟨⟨a1, a2, a3, a4, a5, a6⟩, ⟨wf_u32 w1, wf_i64 w2, wf_i64 w3⟩, rfl⟩
theorem lvs_of {ls : List (List AV)} (h : ∀ l ∈ ls, Shape (.st tLv) l) : ∃ L : List Lv, (∀ x ∈ L, x.ok) ∧ ls.flatten = lvs L ∧ L.length = ls.length := by
  induction ls with
  | nil => exact ⟨[], by simp, rfl, rfl⟩
  | cons l ls ih =>
    obtain ⟨L, h1, h2, h3⟩ := ih (fun m hm => h m (by simp [hm]))
    obtain ⟨x, hx, rfl⟩ := lv_of (by have := h l (by simp); cases this with | st _ _ hs => exact hs)
    refine ⟨x :: L, ?_, ?_, by simp [h3]⟩
    · intro y hy
      rcases List.mem_cons.1 hy with rfl | hy
      · exact hx
      · exact h1 y hy
    · rw [List.flatten_cons, h2]; rfl
theorem live_of {l : List AV} (h : Shape (.sl (.st tLv)) l) : ∃ (v : AV) (L : List Lv), l = [v] ∧ LSl L v ∧ ∀ x ∈ L, x.ok := by
  cases h with
  | nil _ => exact ⟨.nils, [], rfl, .inl ⟨rfl, rfl, rfl⟩, by simp⟩
  | es _ => exact ⟨.es, [], rfl, .inr (.inl ⟨rfl, rfl, rfl⟩), by simp⟩
  | fz _ n m c ls h1 h2 h3 h4 h5 =>
    obtain ⟨L, g1, g2, g3⟩ := lvs_of h4
    refine ⟨_, L, rfl, .inr (.inr ⟨c, by rw [g2, g3, h1], lvs_length L⟩), g1⟩
theorem log_of {l : List AV} (h : Shapes tLog l) : ∃ (ag sq tl us : Int) (v : AV) (L : List Lv), l = [.int .u32 ag, .int .u32 sq, .int .i64 tl, .int .i64 us, v] ∧ u32B ag ∧ u32B sq ∧ i64B tl ∧ i64B us ∧ LSl L v ∧ ∀ x ∈ L, x.ok := by
  obtain ⟨a1, b1, rfl, w1, g1⟩ := shapes_int h
  obtain ⟨a2, b2, rfl, w2, g2⟩ := shapes_int g1
  obtain ⟨a3, b3, rfl, w3, g3⟩ := shapes_int g2
  obtain ⟨a4, b4, rfl, w4, g4⟩ := shapes_int g3
  obtain ⟨a, b, rfl, h1, h2⟩ := shapes_cons g4
  obtain ⟨v, L, rfl, h3, h4⟩ := live_of h1
  rw [shapes_nil h2]
  exact ⟨a1, a2, a3, a4, v, L, rfl, wf_u32 w1, wf_u32 w2, wf_i64 w3, wf_i64 w4, h3, h4⟩
/-- an argument that is a struct -/
theorem arg_struct {H : Type} {enc : TypeId × Value → H} {P : Program} {W : World} {t : TypeId} {Fs : List Ty} {n : Nat} {v : Value} {d : DataW H} {ps : List MemPlace} {fs : Array Field} {r : Reach} {base : Nat} (hu : P.underlying t = some (.struct fs)) (hT : TyOf P t (.st Fs) n) (hval : Value.okWide P W r base t v) (h : DataW.Trod enc P W 0 (fun _ => true) true t v d ps) :
    ∃ l, Shapes Fs l ∧ VR (gamW W) (.agg l) v := by
  obtain ⟨cs, rfl, _⟩ := WideShapes.okWide_struct hu hval
  obtain ⟨fuel, hf⟩ := h
  obtain ⟨l, h1, h2, h3, h4⟩ := trod_shape fuel hT hf
  cases h1 with
  | st _ _ hs => exact ⟨l, hs, .agg l cs h3 h4⟩
/-- a law with arguments, from a contract -/
theorem law_args {P : Program} {f : Nat} {args : List AV} {vals : List Value} {w : World} (hA : All2 (VR (gamW w)) args vals) (hC : C P f args St0 (fun v _ => v = .bool true)) :
    Calls P f vals.toArray w fun x w' => x = .returned (.bool true) ∧ Below w.heap.size w w' := by
  have hc := hC (gamW w) vals w 0 hA (gamW_sim w)
  refine callsIn_wide.1 (CallsIn.mono hc ?_)
  rintro x w' ⟨v, s', rfl, v', γ', rfl, hst, _, hv⟩
  cases hv
  exact ⟨rfl, hst.os, hst.tape, hst.output, hst.size, fun b hb => hst.blk b hb (fun r L hL => by cases hL)⟩
end Go.AM
