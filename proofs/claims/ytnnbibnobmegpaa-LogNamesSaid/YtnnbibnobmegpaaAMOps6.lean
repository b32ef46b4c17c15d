/-
  THE ABSTRACT MACHINE: slices, indexes, lengths, copies. Plain lemmas.
-/
import Derived.Test.YtnnbibnobmegpaaAMOps5
import Derived.Laws.BytesString
set_option linter.unusedVariables false
set_option linter.unusedSimpArgs false
namespace Go.AM
section
variable {P : Program} {γ : Gam} {s : St} {w : World} {t : AT} {ρ : Operand → Value}

theorem eq1_run {kd ty : Nat} {x y : AV} {x' y' : Value} {c : Bool} (hk : plainK P ty = some kd) (hx : VR γ x x') (hy : VR γ y y') (h : eq1 kd x y = some c) (d : Nat) : (Op.equalIn (d + 1) ty x' y').run P w = .ok c w := by
  have hu : (kd = 0 → ∃ k, P.underlying ty = some (.int k)) ∧ (kd = 1 → P.underlying ty = some .bool) ∧ (kd = 2 → P.underlying ty = some .string) := by
    unfold plainK at hk
    split at hk <;> first | (cases hk; simp_all; done) | cases hk
  obtain ⟨u0, u1, u2⟩ := hu
  unfold eq1 at h
  split at h
  · rename_i k a k' b
    obtain ⟨kk, hu⟩ := u0 rfl
    rw [intV hx, intV hy]
    cases hkk : eqK k k' with
    | false => rw [hkk] at h; cases h
    | true => rw [hkk] at h; cases h; cases kCode_inj hkk; rw [eqI_eq]; exact run_equalIn_int w d ty k kk a b hu
  · cases h
    rw [boolV hx, boolV hy]
    exact run_equalIn_bool' w d ty _ _ (u1 rfl)
  · cases h
    cases hx with
    | str _ sx e1 => cases hy with
      | str _ sy e2 =>
        rw [eqNs_eq, ← str_eq e1 e2]
        exact run_equalIn_string w d ty _ _ (u2 rfl)
  · cases h

theorem flat_run {xs ys : Array Value} (d : Nat) : ∀ (fs : List Field) (i : Nat) (ks : List Nat) (l m : List AV) (c : Bool), flatFields P fs i = some ks → eqfA ks l m = some c →
    All2 (VR γ) l (xs.toList.drop i) → All2 (VR γ) m (ys.toList.drop i) → (Op.eqFields (d + 1) xs ys fs).run P w = .ok c w := by
  intro fs
  induction fs with
  | nil =>
    intro i ks l m c hf he h1 h2
    cases hf
    cases l <;> cases m <;> first | (cases he; simp [Op.eqFields]) | cases he
  | cons f fs ih =>
    intro i ks l m c hf he h1 h2
    unfold flatFields at hf
    split at hf
    · cases hf
    · rename_i hn
      split at hf
      · rename_i k r hk hr
        cases hf
        have hname : f.name ≠ "_" := fun e => hn (.inl e)
        have hoff : f.offset = i := Classical.byContradiction fun e => hn (.inr e)
        cases l with
        | nil => cases he
        | cons x l => cases m with
          | nil => cases he
          | cons y m =>
            have hpl : aggT P f.type = some false := by
              unfold plainK at hk
              unfold aggT
              split at hk <;> first | (rename_i hu; rw [hu]) | cases hk
            obtain ⟨x', hx', hRx⟩ := h1.get (i := 0) (a := x) (by simp)
            obtain ⟨y', hy', hRy⟩ := h2.get (i := 0) (a := y) (by simp)
            rw [List.getElem?_drop] at hx' hy'
            have ex : xs[i]? = some x' := by simpa using hx'
            have ey : ys[i]? = some y' := by simpa using hy'
            have t1 : All2 (VR γ) l (xs.toList.drop (i + 1)) := by have := h1.drop 1; simpa [List.drop_drop] using this
            have t2 : All2 (VR γ) m (ys.toList.drop (i + 1)) := by have := h2.drop 1; simpa [List.drop_drop] using this
            simp only [eqfA] at he
            simp only [Op.eqFields, hname, ne_eq, not_false_eq_true, if_true, hoff, Sem.run_bind, part1 hpl ex, part1 hpl ey, Result.andThen_ok]
            cases hq : eq1 k x y with
            | none => rw [hq] at he; cases he
            | some b =>
              rw [hq] at he
              rw [eq1_run hk hRx hRy hq d]
              cases b with
              | true => simpa using ih (i + 1) r l m c hr he t1 t2
              | false => cases he; simp
      · cases hf

theorem eqf_sound (hs : Sim P γ s w) {o : Oper} {op : BinOp} {ty yt : Nat} {ks : List Nat} {neg : Bool} {x y : Operand} {a b : AO} {v : AV} {s' : St} (hop : (op = .eql ∧ neg = false) ∨ (op = .neq ∧ neg = true)) (hk : flatT P ty = some ks) (hx : aop x = some a) (hy : aop y = some b)
    (ho : o.op = .binOp op ty x y yt) (he : Evs γ t ρ [x, y]) (h : eqf'A ks neg a b t s = .ok v s') : OpOk P γ s w ρ o v s' := by
  obtain ⟨u1, hu1, h⟩ := wth_ok h
  obtain ⟨u2, hu2, h⟩ := wth_ok h
  obtain ⟨l, rfl, h⟩ := agg_ok h
  obtain ⟨m, rfl, h⟩ := agg_ok h
  obtain ⟨c, hc, h⟩ := opt_ok h
  obtain ⟨rfl, rfl⟩ := ok_inj h
  obtain ⟨xs, e1, r1, _⟩ := aggV (he x (by simp) a _ hx hu1)
  obtain ⟨ys, e2, r2, _⟩ := aggV (he y (by simp) b _ hy hu2)
  unfold flatT at hk
  split at hk
  · rename_i fs hu
    split at hk
    · rename_i hcond
      have hf : P.fieldsOf ty = fs := by simp [Program.fieldsOf, hu]
      have hrun : (Op.equalIn 10000 ty (.agg xs) (.agg ys)).run P w = .ok c w := by
        rw [run_equalIn_struct w 9999 ty xs ys (by rw [hf]; exact hu) hcond.1, hf]
        exact flat_run 9998 fs.toList 0 ks l m c hk hc (by simpa using r1) (by simpa using r2)
      refine OpOk.still hs (.bool (negB neg c)) ?_ (.bool _)
      rcases hop with ⟨rfl, rfl⟩ | ⟨rfl, rfl⟩
      · simp only [execOp, ho, Sem.run_bind, e1, e2, run_eqGuard_agg w _ _ _ _ _ _ hcond.2, Result.andThen_ok, run_eql_struct, hrun, Sem.run_pure]; rfl
      · simp only [execOp, ho, Sem.run_bind, e1, e2, run_eqGuard_agg w _ _ _ _ _ _ hcond.2, Result.andThen_ok, run_neq_struct, hrun, Sem.run_pure]; rfl
    · cases hk
  · cases hk

/-- bytes -/
theorem bytes_run : ∀ (cs : List AV) (vs : List Value) (l : List Nat) (acc : ByteArray), bytesOf cs = some l → All2 (VR γ) cs vs →
    ∃ bs : List UInt8, bs.map UInt8.toNat = l ∧ vs = bs.map (fun b => Value.int .u8 b.toNat) := by
  intro cs
  induction cs with
  | nil => intro vs l acc h hr; cases h; cases hr; exact ⟨[], rfl, rfl⟩
  | cons c cs ih =>
    intro vs l acc h hr
    cases hr with
    | @cons _ v _ vs' h1 h2 =>
      change (IR.rec none (fun k n => Bool.rec none (Int.rec (fun a => Bool.rec none (Option.rec none (fun r => some (a :: r)) (bytesOf cs)) (Nat.blt a 256)) (fun _ => none) n) (Nat.beq (kCode k) 4)) (asInt c) : Option (List Nat)) = some l at h
      cases hc : asInt c with
      | no => rw [hc] at h; cases h
      | int k n =>
        rw [hc] at h
        dsimp only at h
        cases hk : Nat.beq (kCode k) 4 with
        | false => rw [hk] at h; cases h
        | true =>
          rw [hk] at h
          have hku : k = .u8 := by cases k <;> first | rfl | cases hk
          subst hku
          cases n with
          | negSucc n => cases h
          | ofNat a =>
            dsimp only at h
            cases hb : Nat.blt a 256 with
            | false => rw [hb] at h; cases h
            | true =>
              rw [hb] at h
              rw [Nat.blt_eq] at hb
              cases hbo : bytesOf cs with
              | none => rw [hbo] at h; cases h
              | some r =>
                rw [hbo] at h; cases h
                obtain ⟨bs, e1, e2⟩ := ih vs' r acc hbo h2
                rw [asInt_eq hc] at h1
                refine ⟨UInt8.ofNat a :: bs, ?_, ?_⟩
                · simp [e1]; omega
                · rw [intV h1, e2]
                  simp
                  omega

theorem push_bytes : ∀ (bs : List UInt8) (acc : ByteArray), ((bs.map (fun b => (b.toNat : Int))).foldl (fun r n => r.push (UInt8.ofNat n.toNat)) acc).data.toList = acc.data.toList ++ bs
  | [], acc => by simp
  | b :: bs, acc => by rw [List.map_cons, List.foldl_cons, push_bytes bs]; simp [ByteArray.push]

theorem b2s_sound (hs : Sim P γ s w) {o : Oper} {sr ds e : Nat} {x : Operand} {a : AO} {v : AV} {s' : St} (hsr : P.underlying sr = some (.slice e)) (hd : P.underlying ds = some .string) (hu8 : P.underlying e = some (.int .u8)) (hx : aop x = some a) (ho : o.op = .convert sr ds x) (he : Evs γ t ρ [x])
    (h : b2sA a t s = .ok v s') : OpOk P γ s w ρ o v s' := by
  obtain ⟨u, hu', h⟩ := wth_ok h
  have hv := he x (by simp) a u hx hu'
  have hconv : ∀ (p : Option Addr) (m c : Nat), (convert sr ds (.slice p m c)).run P w = (Conv.bytesToString (.slice p m c)).run P w := by
    intro p m c; simp [convert, run_underlying hsr, run_underlying hd, run_underlying hu8]
  rcases sl_ok2 h with ⟨r, i, n, c, rfl, h⟩ | ⟨rfl, h⟩ | ⟨rfl, h⟩ | ⟨n, c, l0, rfl, h⟩
  · obtain ⟨cs, hl, h⟩ := opt_ok h
    obtain ⟨l, hb, h⟩ := opt_ok h
    obtain ⟨rfl, rfl⟩ := ok_inj h
    obtain ⟨L, cc, hL, hval⟩ : ∃ L cc, γ r = some L ∧ ρ x = .slice (some ⟨L.b, L.o + i, none⟩) n cc := by
      generalize ρ x = vx at hv
      cases hv with
      | sl _ _ _ c L hL => exact ⟨L, _, hL, rfl⟩
      | slu _ _ _ c L hL => exact ⟨L, _, hL, rfl⟩
    obtain ⟨vs, e1, hc, hR, h1⟩ := load_sound hs hl hL
    obtain ⟨bs, e2, e3⟩ := bytes_run cs vs l ByteArray.empty hb hR
    have hrun := run_loadCells_list (P := P) w _ vs hc
    rw [e1] at hrun
    have hb := run_bytesToString (P := P) w ⟨L.b, L.o + i, none⟩ n cc (bs.map (fun b => (b.toNat : Int))) (by rw [hrun, e3]; simp)
    refine OpOk.still hs (.string ((bs.map (fun b => (b.toNat : Int))).foldl (fun r n => r.push (UInt8.ofNat n.toNat)) ByteArray.empty)) (by simp only [execOp, ho, Sem.run_bind, hval]; rw [hconv, hb]; simp only [Result.andThen_ok, Sem.run_pure]) (.str _ _ ?_)
    rw [push_bytes]; show List.map UInt8.toNat ([] ++ bs) = l; exact e2
  · obtain ⟨rfl, rfl⟩ := ok_inj h
    generalize hxx : ρ x = vx at hv
    cases hv
    refine OpOk.still hs (.string .empty) (by simp only [execOp, ho, Sem.run_bind, hxx]; rw [hconv]; simp [Conv.bytesToString]) (.str _ _ rfl)
  · obtain ⟨rfl, rfl⟩ := ok_inj h
    generalize hxx : ρ x = vx at hv
    cases hv with
    | es ad c =>
      have hb := run_bytesToString (P := P) w ad 0 c [] (by simp [loadCells, loadCellsFrom])
      refine OpOk.still hs (.string .empty) (by simp only [execOp, ho, Sem.run_bind, hxx]; rw [hconv, hb]; simp only [Result.andThen_ok, Sem.run_pure, List.foldl_nil]) (.str _ _ rfl)
  · obtain ⟨cs, hl, h⟩ := opt_ok h
    obtain ⟨l, hb, h⟩ := opt_ok h
    obtain ⟨rfl, rfl⟩ := ok_inj h
    obtain ⟨b, i, cc, cz, vs, hval, hbz, h2, h3, h4, _, _, h5⟩ := fzV hv
    obtain ⟨us, e1, g2, hR, h1⟩ := fz_take (k := 0) hs hbz h2 h3 h4 hl
    obtain ⟨bs, e2, e3⟩ := bytes_run cs us l ByteArray.empty hb hR
    rw [Nat.add_zero] at g2
    have hrun := run_loadCells_list (P := P) w _ us (fz_cells hs hbz g2)
    rw [e1] at hrun
    have hb := run_bytesToString (P := P) w ⟨b, i, none⟩ n cc (bs.map (fun b => (b.toNat : Int))) (by rw [hrun, e3]; simp)
    refine OpOk.still hs (.string ((bs.map (fun b => (b.toNat : Int))).foldl (fun r n => r.push (UInt8.ofNat n.toNat)) ByteArray.empty)) (by simp only [execOp, ho, Sem.run_bind, hval]; rw [hconv, hb]; simp only [Result.andThen_ok, Sem.run_pure]) (.str _ _ ?_)
    rw [push_bytes]; show List.map UInt8.toNat ([] ++ bs) = l; exact e2

theorem slV {r i n : Nat} {c : Option Nat} {v' : Value} (h : VR γ (.sl r i n c) v') : ∃ L cc, γ r = some L ∧ v' = .slice (some ⟨L.b, L.o + i, none⟩) n cc ∧ (∀ k, c = some k → cc = k) := by
  cases h with
  | sl _ _ _ c L hL => exact ⟨L, _, hL, rfl, fun k e => Option.some.inj e⟩
  | slu _ _ _ c L hL => exact ⟨L, _, hL, rfl, fun k e => by cases e⟩

theorem mks_fresh {o : Oper} {ty e n by_ : Nat} {z : List AV} {x y : Operand} {a b : AO} {v : AV} {s' : St} (hu : P.underlying ty = some (.slice e)) (hn : szOf P e = some n) (hby : byOf P e = some by_) (hz : zeroOf P e = some z) (h1n : 1 ≤ n) (hbl : by_ ≤ 4096) (hzl : z.length = n)
    (hx : aop x = some a) (hy : aop y = some b) (ho : o.op = .makeSlice ty x y) (he : Evs γ t ρ [x, y]) (h : mksA e n z a b t s = .ok v s') : Fresh P γ w ρ o s v s' := by
  obtain ⟨l, hl, h⟩ := nat_ok h
  obtain ⟨c, hc, h⟩ := nat_ok h
  obtain ⟨hcond, h⟩ := gd_ok h
  obtain ⟨rfl, rfl⟩ := ok_inj h
  obtain ⟨k1, h1⟩ := natO_n hl
  obtain ⟨k2, h2⟩ := natO_n hc
  have v1 : ρ x = .int k1 (l : Int) := intV (he x (by simp) a _ hx h1)
  have v2 : ρ y = .int k2 (c : Int) := intV (he y (by simp) b _ hy h2)
  simp only [Bool.and_eq_true] at hcond
  have hlc := Nat.le_of_ble_eq_true hcond.1
  have hcm := Nat.le_of_ble_eq_true hcond.2
  obtain ⟨i, zv, hi, hzz, ha⟩ := zeroOf_some hz
  obtain ⟨y1, y2⟩ := avs_VR (γ := γ) ha
  have hzs : zv.cells.size = n := by rw [← hzl]; simpa using y1.length.symm
  obtain ⟨q1, q2⟩ := zeros_VR y1 y2 (by omega) c
  rw [hzs] at q1 q2
  rw [rep_eq]
  refine ⟨.row e (repL z c), fun r => .sl r 0 l (some c), .cells _ e, _, n, .slice (some ⟨w.heap.size, 0, none⟩) l c, rfl, rfl, ?_, fun γ' r hle hr => ⟨rowObj hn q1 q2 hle, .sl r 0 l c _ hr hlc⟩⟩
  have hib : i.bytes = by_ := by simp [byOf, hi] at hby; exact hby
  have hw1 : IntKind.i64.wrap (l : Int) = (l : Int) := IntWalk.i64_in (l : Int) ⟨by omega, by omega⟩
  have hw2 : IntKind.i64.wrap (c : Int) = (c : Int) := IntWalk.i64_in (c : Int) ⟨by omega, by omega⟩
  have hbc : i.bytes * c ≤ 4096 * 1000000 := by rw [hib]; exact Nat.mul_le_mul hbl hcm
  have hroom : ¬ (c * i.bytes > roomBytes) := by rw [Nat.mul_comm]; simp only [roomBytes]; omega
  have hlarge : ((decide ((c : Int) < 0) || decide ((i.bytes : Int) * (c : Int) > 2 ^ 48)) || decide ((l : Int) < 0) || decide ((l : Int) > (c : Int))) = false := by
    have : (i.bytes : Int) * (c : Int) = ((i.bytes * c : Nat) : Int) := by simp
    rw [this]
    simp
    omega
  simp only [execOp, ho, Instr.makeSlice, Sem.run_bind, run_underlying hu, Result.andThen_ok, Go.asInt, asIntOf, v1, v2, Sem.run_pure, typeInfo, run_program, hi, hw1, hw2, hlarge]
  rw [if_neg (by simp)]
  have hroom' : (askRoom (c * i.bytes)).run P w = .ok () w := by unfold askRoom; rw [if_neg hroom]; rfl
  simp only [Int.toNat_natCast, Sem.run_bind, hroom', Result.andThen_ok, run_sizeOf hn]
  by_cases h0 : c * n = 0
  · have hrow : (Array.range (c * n)).map (fun x => (#[] : Array Value)[x % (#[] : Array Value).size]!) = (Array.range (c * n)).map (fun i => zv.cells[i % n]!) := by
      rw [h0]; simp
    simp only [if_pos h0, Sem.run_bind, Sem.run_pure, Result.andThen_ok, hrow, newRow, run_new']
  · simp only [if_neg h0, Sem.run_bind, Sem.run_pure, run_zeroValue hi hzz, Result.andThen_ok, hzs, newRow, run_new']

/-! slicing -/
theorem optNat_n {x : Option AO} {d n : Nat} (h : optNat t x d = .n n) : (x = none ∧ n = d) ∨ ∃ a k, x = some a ∧ ev a t = .some (.int k (.ofNat n)) := by
  cases x with
  | none => cases h; exact .inl ⟨rfl, rfl⟩
  | some a => obtain ⟨k, hk⟩ := natO_n h; exact .inr ⟨a, k, rfl, hk⟩
theorem run_sliceBound (k : IntKind) (i y : Nat) (code : BoundsCode) (h : i ≤ y) : (Instr.sliceBound (.int k (i : Int)) y code).run P w = .ok i w := by
  simp [Instr.sliceBound, asIntOf, h]
/-- an optional bound, as the model has it -/
def BoundIs (ρ : Operand → Value) (x : Option Operand) (d n : Nat) : Prop := (x = none ∧ n = d) ∨ ∃ y k, x = some y ∧ ρ y = .int k (n : Int)
theorem boundIs {x : Option Operand} {a : Option AO} {d n : Nat} (hx : optO x = some a) (he : ∀ y, x = some y → Evs γ t ρ [y]) (h : optNat t a d = .n n) : BoundIs ρ x d n := by
  cases x with
  | none => cases hx; rcases optNat_n h with ⟨_, e⟩ | ⟨a, k, e, _⟩
            · exact .inl ⟨rfl, e⟩
            · cases e
  | some y =>
    simp only [optO] at hx
    cases ha : aop y with
    | none => rw [ha] at hx; cases hx
    | some b =>
      rw [ha] at hx; cases hx
      rcases optNat_n h with ⟨e, _⟩ | ⟨b', k, e, hk⟩
      · cases e
      · cases e; exact .inr ⟨y, k, rfl, intV (he y rfl y (by simp) b _ ha hk)⟩
theorem run_sliceBounds (sl : Bool) {len cap : Nat} {lo hi mx : Option Operand} {l h m : Nat} (h1 : BoundIs ρ lo 0 l) (h2 : BoundIs ρ hi len h) (h3 : BoundIs ρ mx cap m) (hm : mx.isSome = true → hi.isSome = true) (hlh : l ≤ h) (hhm : h ≤ m) (hmc : m ≤ cap) :
    (Instr.sliceBounds sl len cap (lo.map ρ) (hi.map ρ) (mx.map ρ)).run P w = .ok (l, h, m) w := by
  rcases h1 with ⟨rfl, rfl⟩ | ⟨y1, k1, rfl, hy1⟩ <;> rcases h2 with ⟨rfl, rfl⟩ | ⟨y2, k2, rfl, hy2⟩ <;> rcases h3 with ⟨rfl, rfl⟩ | ⟨y3, k3, rfl, hy3⟩ <;>
    first
    | (simp [Instr.sliceBounds, *, run_sliceBound]; done)
    | exact absurd (hm rfl) (by simp)

theorem slc_sound (hs : Sim P γ s w) {o : Oper} {ty e es : Nat} {x : Operand} {a : AO} {lo hi mx : Option Operand} {alo ahi amx : Option AO} {v : AV} {s' : St} (hu : P.underlying ty = some (.slice e)) (hes : szOf P e = some es)
    (hx : aop x = some a) (hlo : optO lo = some alo) (hhi : optO hi = some ahi) (hmx : optO mx = some amx) (hm : amx.isSome = true → ahi.isSome = true) (ho : o.op = .slice ty x lo hi mx)
    (he : Evs γ t ρ ([x] ++ lo.toList ++ hi.toList ++ mx.toList)) (h : slcA es a alo ahi amx t s = .ok v s') : OpOk P γ s w ρ o v s' := by
  obtain ⟨u, hu', h⟩ := wth_ok h
  have hv := he x (by simp) a u hx hu'
  have hlo' : ∀ y, lo = some y → Evs γ t ρ [y] := fun y hy z hz => he z (by simp at hz; subst hz; simp [hy])
  have hhi' : ∀ y, hi = some y → Evs γ t ρ [y] := fun y hy z hz => he z (by simp at hz; subst hz; simp [hy])
  have hmx' : ∀ y, mx = some y → Evs γ t ρ [y] := fun y hy z hz => he z (by simp at hz; subst hz; simp [hy])
  have hms : mx.isSome = true → hi.isSome = true := by
    intro hq
    cases mx with
    | none => cases hq
    | some y => cases hi with
      | some z => rfl
      | none =>
        simp only [optO] at hmx hhi
        cases hhi
        cases hay : aop y with
        | none => rw [hay] at hmx; cases hmx
        | some b => rw [hay] at hmx; cases hmx; exact absurd (hm rfl) (by simp)
  have hfin : ∀ {ad : Option Addr} {n c l h m : Nat}, ρ x = .slice ad n c → BoundIs ρ lo 0 l → BoundIs ρ hi n h → BoundIs ρ mx c m → l ≤ h → h ≤ m → m ≤ c →
      (execOp ρ o).run P w = .ok (.value (.slice (if m = l then ad else ad.map (·.add (l * es))) (h - l) (m - l))) w := by
    intro ad n c l h m e1 e2 e3 e4 e5 e6 e7
    simp only [execOp, ho, Instr.sliceAt, Sem.run_bind, run_underlying hu, Result.andThen_ok, e1, Instr.slice, run_sliceBounds (P := P) (w := w) true e2 e3 e4 hms e5 e6 e7, run_sizeOf hes, Sem.run_pure]
  rcases sl_ok2 h with ⟨r, i, n, c, rfl, h⟩ | ⟨rfl, h⟩ | ⟨rfl, h⟩ | ⟨n, cap, l0, rfl, h⟩
  · obtain ⟨l, hl, h⟩ := nat_ok h
    obtain ⟨q, hq, h⟩ := nat_ok h
    have b1 := boundIs hlo hlo' hl
    have b2 := boundIs hhi hhi' hq
    cases amx with
    | none =>
      have hmn : mx = none := by
        cases mx with
        | none => rfl
        | some y => simp only [optO] at hmx; cases hay : aop y <;> rw [hay] at hmx <;> cases hmx
      subst hmn
      change slc1 es r i n c l q s = .ok v s' at h
      cases c with
      | some c =>
        obtain ⟨hc, h⟩ := gd_ok h
        obtain ⟨rfl, rfl⟩ := ok_inj h
        simp only [Bool.and_eq_true] at hc
        have c1 := Nat.le_of_ble_eq_true hc.1
        have c2 := Nat.le_of_ble_eq_true hc.2
        generalize hxx : ρ x = vx at hv
        cases hv with
        | sl _ _ _ _ L hL =>
          have hr := hfin hxx b1 b2 (.inl ⟨rfl, rfl⟩) c1 c2 (Nat.le_refl _)
          refine OpOk.still hs _ hr ?_
          cases hcl : Nat.beq c l with
          | true =>
            have := Nat.eq_of_beq_eq_true hcl
            rw [if_pos this]; exact .sl _ _ _ _ L hL (by omega)
          | false =>
            have := Nat.ne_of_beq_eq_false hcl
            rw [if_neg this]
            simp only [Option.map_some, addr_add, Nat.add_assoc]; exact .sl _ _ _ _ L hL (by omega)
      | none =>
        obtain ⟨hc, h⟩ := gd_ok h
        simp only [Bool.and_eq_true] at hc
        have c1 := Nat.le_of_ble_eq_true hc.1
        have c2 := Nat.le_of_ble_eq_true hc.2
        generalize hxx : ρ x = vx at hv
        cases hv with
        | slu _ _ _ c L hL hnc hcm hcs =>
          have hr := hfin hxx b1 b2 (.inl ⟨rfl, rfl⟩) c1 (Nat.le_trans c2 hnc) (Nat.le_refl _)
          cases hln : Nat.blt l n with
          | true =>
            rw [hln] at h
            obtain ⟨rfl, rfl⟩ := ok_inj h
            rw [Nat.blt_eq] at hln
            refine OpOk.still hs _ hr ?_
            rw [if_neg (by omega)]
            simp only [Option.map_some, addr_add, Nat.add_assoc]
            refine .slu _ _ _ _ L hL (by omega) (by omega) (fun e => ?_)
            have := hcs (by omega)
            exact Nat.le_trans (Nat.mul_le_mul_right _ (Nat.sub_le _ _)) this
          | false =>
            rw [hln] at h
            obtain ⟨rfl, rfl⟩ := ok_inj h
            have : ¬ l < n := fun e => by rw [← Nat.blt_eq, hln] at e; cases e
            have hq0 : q - l = 0 := by omega
            refine OpOk.still hs _ hr ?_
            rw [hq0]
            by_cases e : c = l
            · rw [if_pos e]; exact .es _ _
            · rw [if_neg e]; exact .es _ _
    | some m =>
      obtain ⟨mm, hmm, h⟩ := nat_ok h
      obtain ⟨hc, h⟩ := gd_ok h
      obtain ⟨rfl, rfl⟩ := ok_inj h
      simp only [Bool.and_eq_true] at hc
      have c1 := Nat.le_of_ble_eq_true hc.1.1
      have c2 := Nat.le_of_ble_eq_true hc.1.2
      have c3 := Nat.le_of_ble_eq_true hc.2
      obtain ⟨k, hmm⟩ := natO_n hmm
      obtain ⟨cc, hbm, hval, hle⟩ : ∃ L cc, γ r = some L ∧ ρ x = .slice (some ⟨L.b, L.o + i, none⟩) n cc ∧ mm ≤ cc := by
        generalize ρ x = vx at hv
        cases hv with
        | sl _ _ _ c L hL => exact ⟨L, c, hL, rfl, c3⟩
        | slu _ _ _ c L hL hnc => exact ⟨L, c, hL, rfl, Nat.le_trans c3 hnc⟩
      have b3 : BoundIs ρ mx hbm mm := by
        cases mx with
        | none => cases hmx
        | some y =>
          simp only [optO] at hmx
          cases hay : aop y with
          | none => rw [hay] at hmx; cases hmx
          | some b =>
            rw [hay] at hmx
            obtain rfl : b = m := by simpa using hmx
            exact .inr ⟨y, k, rfl, intV (hmx' y rfl y (by simp) b _ hay hmm)⟩
      have hr := hfin hle.1 b1 b2 b3 c1 c2 hle.2
      refine OpOk.still hs _ hr ?_
      cases hcl : Nat.beq mm l with
      | true =>
        have := Nat.eq_of_beq_eq_true hcl
        rw [if_pos this]; exact .sl _ _ _ _ cc hval (by omega)
      | false =>
        have := Nat.ne_of_beq_eq_false hcl
        rw [if_neg this]
        simp only [Option.map_some, addr_add, Nat.add_assoc]; exact .sl _ _ _ _ cc hval (by omega)
  · obtain ⟨l, hl, h⟩ := nat_ok h
    obtain ⟨q, hq, h⟩ := nat_ok h
    obtain ⟨m, hmq, h⟩ := nat_ok h
    obtain ⟨hc, h⟩ := gd_ok h
    obtain ⟨rfl, rfl⟩ := ok_inj h
    have hc := Nat.eq_of_beq_eq_true hc
    have b1 := boundIs hlo hlo' hl
    have b2 := boundIs hhi hhi' hq
    have b3 := boundIs hmx hmx' hmq
    obtain rfl : l = 0 := by omega
    obtain rfl : q = 0 := by omega
    obtain rfl : m = 0 := by omega
    generalize hxx : ρ x = vx at hv
    cases hv
    refine OpOk.still hs _ (hfin hxx b1 b2 b3 (Nat.le_refl _) (Nat.le_refl _) (Nat.le_refl _)) ?_
    exact .nils
  · obtain ⟨l, hl, h⟩ := nat_ok h
    obtain ⟨q, hq, h⟩ := nat_ok h
    obtain ⟨m, hmq, h⟩ := nat_ok h
    obtain ⟨hc, h⟩ := gd_ok h
    obtain ⟨rfl, rfl⟩ := ok_inj h
    have hc := Nat.eq_of_beq_eq_true hc
    have b1 := boundIs hlo hlo' hl
    have b2 := boundIs hhi hhi' hq
    have b3 := boundIs hmx hmx' hmq
    obtain rfl : l = 0 := by omega
    obtain rfl : q = 0 := by omega
    obtain rfl : m = 0 := by omega
    generalize hxx : ρ x = vx at hv
    cases hv with
    | es ad c =>
      rcases b3 with ⟨rfl, _⟩ | ⟨y, k, rfl, hy⟩
      · refine OpOk.still hs _ (hfin hxx b1 b2 (.inl ⟨rfl, rfl⟩) (Nat.le_refl _) (Nat.zero_le _) (Nat.le_refl _)) ?_
        by_cases e : c = 0
        · rw [if_pos e]; exact .es _ _
        · rw [if_neg e]; exact .es _ _
      · refine OpOk.still hs _ (hfin hxx b1 b2 (.inr ⟨y, k, rfl, hy⟩) (Nat.le_refl _) (Nat.le_refl _) (Nat.zero_le _)) ?_
        exact .es _ _
  · obtain ⟨l, hl, h⟩ := nat_ok h
    obtain ⟨q, hq, h⟩ := nat_ok h
    have b1 := boundIs hlo hlo' hl
    have b2 := boundIs hhi hhi' hq
    obtain ⟨b, i, cc, cz, vs, hval, hbz, h2, h3, h4, hnc, hck, h5⟩ := fzV hv
    cases amx with
    | none =>
      have hmn : mx = none := by
        cases mx with
        | none => rfl
        | some y => simp only [optO] at hmx; cases hay : aop y <;> rw [hay] at hmx <;> cases hmx
      subst hmn
      change slcF es n cap l0 l q s = .ok v s' at h
      obtain ⟨hc, h⟩ := gd_ok h
      simp only [Bool.and_eq_true] at hc
      have c1 := Nat.le_of_ble_eq_true hc.1
      have c2 := Nat.le_of_ble_eq_true hc.2
      have hr := hfin hval b1 b2 (.inl ⟨rfl, rfl⟩) c1 (Nat.le_trans c2 hnc) (Nat.le_refl _)
      cases hln : Nat.blt l n with
      | true =>
        rw [hln] at h
        obtain ⟨cs', ht, h⟩ := opt_ok h
        obtain ⟨rfl, rfl⟩ := ok_inj h
        rw [Nat.blt_eq] at hln
        refine OpOk.still hs _ hr ?_
        rw [if_neg (by omega)]
        simp only [Option.map_some, addr_add]
        obtain ⟨us, e1, g2, hR, h1⟩ := fz_take hs hbz h2 h3 h4 ht
        refine .fz _ _ _ us b _ _ cz hbz g2 h1 hR (by omega) ?_ (fz_hfs h5 ht)
        intro k hk
        cases cap with
        | none => cases hk
        | some c => cases hk; rw [hck c rfl]
      | false =>
        rw [hln] at h
        obtain ⟨rfl, rfl⟩ := ok_inj h
        have : ¬ l < n := fun e => by rw [← Nat.blt_eq, hln] at e; cases e
        have hq0 : q - l = 0 := by omega
        refine OpOk.still hs _ hr ?_
        rw [hq0]
        by_cases e : cc = l
        · rw [if_pos e]; exact .es _ _
        · rw [if_neg e]; exact .es _ _
    | some m =>
      obtain ⟨mm, hmm, h⟩ := nat_ok h
      obtain ⟨hc, h⟩ := gd_ok h
      simp only [Bool.and_eq_true] at hc
      have c1 := Nat.le_of_ble_eq_true hc.1.1
      have c2 := Nat.le_of_ble_eq_true hc.1.2
      have c3 := Nat.le_of_ble_eq_true hc.2
      obtain ⟨k, hmm⟩ := natO_n hmm
      have b3 : BoundIs ρ mx cc mm := by
        cases mx with
        | none => cases hmx
        | some y =>
          simp only [optO] at hmx
          cases hay : aop y with
          | none => rw [hay] at hmx; cases hmx
          | some b =>
            rw [hay] at hmx
            obtain rfl : b = m := by simpa using hmx
            exact .inr ⟨y, k, rfl, intV (hmx' y rfl y (by simp) b _ hay hmm)⟩
      have hr := hfin hval b1 b2 b3 c1 c2 (Nat.le_trans c3 hnc)
      cases hln : Nat.blt l mm with
      | true =>
        rw [hln] at h
        obtain ⟨cs', ht, h⟩ := opt_ok h
        obtain ⟨rfl, rfl⟩ := ok_inj h
        rw [Nat.blt_eq] at hln
        refine OpOk.still hs _ hr ?_
        rw [if_neg (by omega)]
        simp only [Option.map_some, addr_add]
        obtain ⟨us, e1, g2, hR, h1⟩ := fz_take hs hbz h2 h3 h4 ht
        exact .fz _ _ _ us b _ _ cz hbz g2 h1 hR (by omega) (fun k hk => by cases hk; rfl) (fz_hfs h5 ht)
      | false =>
        rw [hln] at h
        obtain ⟨rfl, rfl⟩ := ok_inj h
        have : ¬ l < mm := fun e => by rw [← Nat.blt_eq, hln] at e; cases e
        have hq0 : q - l = 0 := by omega
        refine OpOk.still hs _ hr ?_
        rw [hq0]
        by_cases e : mm = l
        · rw [if_pos e]; exact .es _ _
        · rw [if_neg e]; exact .es _ _

theorem sla_sound (hs : Sim P γ s w) {o : Oper} {ty e n es : Nat} {x : Operand} {a : AO} {lo hi mx : Option Operand} {alo ahi amx : Option AO} {v : AV} {s' : St} (hu : P.underlying ty = some (.array n e)) (hes : szOf P e = some es)
    (hx : aop x = some a) (hlo : optO lo = some alo) (hhi : optO hi = some ahi) (hmx : optO mx = some amx) (hms : mx.isSome = true → hi.isSome = true) (ho : o.op = .slice ty x lo hi mx)
    (he : Evs γ t ρ ([x] ++ lo.toList ++ hi.toList ++ mx.toList)) (h : slaA es n a alo ahi amx t s = .ok v s') : OpOk P γ s w ρ o v s' := by
  obtain ⟨u, hu', h⟩ := wth_ok h
  have hlo' : ∀ y, lo = some y → Evs γ t ρ [y] := fun y hy z hz => he z (by simp at hz; subst hz; simp [hy])
  have hhi' : ∀ y, hi = some y → Evs γ t ρ [y] := fun y hy z hz => he z (by simp at hz; subst hz; simp [hy])
  have hmx' : ∀ y, mx = some y → Evs γ t ρ [y] := fun y hy z hz => he z (by simp at hz; subst hz; simp [hy])
  obtain ⟨r, i, rfl, h⟩ := ptr_ok h
  obtain ⟨L, hL, hv⟩ := ptrV (he x (by simp) a _ hx hu')
  obtain ⟨l, hl, h⟩ := nat_ok h
  obtain ⟨q, hq, h⟩ := nat_ok h
  obtain ⟨m, hmq, h⟩ := nat_ok h
  obtain ⟨hc, h⟩ := gd_ok h
  obtain ⟨rfl, rfl⟩ := ok_inj h
  simp only [Bool.and_eq_true] at hc
  have c1 := Nat.le_of_ble_eq_true hc.1.1
  have c2 := Nat.le_of_ble_eq_true hc.1.2
  have c3 := Nat.le_of_ble_eq_true hc.2
  have b1 := boundIs hlo hlo' hl
  have b2 := boundIs hhi hhi' hq
  have b3 := boundIs hmx hmx' hmq
  refine OpOk.still hs (.slice (some (if m = l then ⟨L.b, L.o + i, none⟩ else (⟨L.b, L.o + i, none⟩ : Addr).add (l * es))) (q - l) (m - l)) ?_ ?_
  · simp only [execOp, ho, Instr.sliceAt, Sem.run_bind, run_underlying hu, Result.andThen_ok, hv, Instr.sureAddr, run_sliceBounds (P := P) (w := w) false b1 b2 b3 hms c1 c2 c3, run_sizeOf hes, Sem.run_pure]
  · cases hcl : Nat.beq m l with
    | true =>
      have := Nat.eq_of_beq_eq_true hcl
      rw [if_pos this]; exact .sl _ _ _ _ L hL (by omega)
    | false =>
      have := Nat.ne_of_beq_eq_false hcl
      rw [if_neg this]
      simp only [addr_add, Nat.add_assoc]; exact .sl _ _ _ _ L hL (by omega)

theorem ixs_sound (hs : Sim P γ s w) {o : Oper} {ty e es : Nat} {x y : Operand} {a b : AO} {v : AV} {s' : St} (hu : P.underlying ty = some (.slice e)) (hes : szOf P e = some es) (hx : aop x = some a) (hy : aop y = some b) (ho : o.op = .indexAddr ty x y) (he : Evs γ t ρ [x, y])
    (h : ixsA es a b t s = .ok v s') : OpOk P γ s w ρ o v s' := by
  obtain ⟨u1, hu1, h⟩ := wth_ok h
  obtain ⟨u2, hu2, h⟩ := wth_ok h
  obtain ⟨i, hi, h⟩ := nat_ok h
  obtain ⟨k, rfl⟩ := asNat_eq hi
  rcases sl_ok2 h with ⟨r, o', n, c, rfl, h⟩ | ⟨rfl, h⟩ | ⟨rfl, h⟩ | ⟨n, c, l, rfl, h⟩
  · obtain ⟨hc, h⟩ := gd_ok h
    obtain ⟨rfl, rfl⟩ := ok_inj h
    rw [Nat.blt_eq] at hc
    obtain ⟨L, cc, hL, hv, _⟩ := slV (he x (by simp) a _ hx hu1)
    have hv2 : ρ y = .int k (i : Int) := intV (he y (by simp) b _ hy hu2)
    refine OpOk.still hs (.pointer (some ⟨L.b, L.o + (o' + i * es), none⟩)) ?_ (.ptr _ _ L hL)
    simp [execOp, ho, Instr.indexAt, hv, hv2, asIntOf, run_underlying hu, hc, run_sizeOf hes, addr_add, Nat.add_assoc]
  · cases h
  · cases h
  · obtain ⟨hc, h⟩ := gd_ok h
    obtain ⟨rfl, rfl⟩ := ok_inj h
    rw [Nat.blt_eq] at hc
    obtain ⟨bb, o', cc, cz, vs, hv, hbz, h2, h3, h4, _, _, h5⟩ := fzV (he x (by simp) a _ hx hu1)
    have hv2 : ρ y = .int k (i : Int) := intV (he y (by simp) b _ hy hu2)
    refine OpOk.still hs (.pointer (some ⟨bb, o' + i * es, none⟩)) ?_ (fp_drop hbz h2 h3 h4 h5)
    simp [execOp, ho, Instr.indexAt, hv, hv2, asIntOf, run_underlying hu, hc, run_sizeOf hes, addr_add]

theorem ixa_sound (hs : Sim P γ s w) {o : Oper} {ty n e es : Nat} {x y : Operand} {a b : AO} {v : AV} {s' : St} (hu : P.underlying ty = some (.array n e)) (hes : szOf P e = some es) (hx : aop x = some a) (hy : aop y = some b) (ho : o.op = .indexAddr ty x y) (he : Evs γ t ρ [x, y])
    (h : ixaA n es a b t s = .ok v s') : OpOk P γ s w ρ o v s' := by
  obtain ⟨u1, hu1, h⟩ := wth_ok h
  obtain ⟨u2, hu2, h⟩ := wth_ok h
  obtain ⟨i, hi, h⟩ := nat_ok h
  obtain ⟨k, rfl⟩ := asNat_eq hi
  have hv2 : ρ y = .int k (i : Int) := intV (he y (by simp) b _ hy hu2)
  rcases ptr_ok2 h with ⟨r, o', rfl, h⟩ | ⟨l, rfl, h⟩
  · obtain ⟨hc, h⟩ := gd_ok h
    obtain ⟨rfl, rfl⟩ := ok_inj h
    rw [Nat.blt_eq] at hc
    obtain ⟨L, hL, hv⟩ := ptrV (he x (by simp) a _ hx hu1)
    refine OpOk.still hs (.pointer (some ⟨L.b, L.o + (o' + i * es), none⟩)) ?_ (.ptr _ _ L hL)
    simp [execOp, ho, Instr.indexAt, hv, hv2, asIntOf, run_underlying hu, hc, run_sizeOf hes, addr_add, Nat.add_assoc, Instr.sureAddr]
  · obtain ⟨hc, h⟩ := gd_ok h
    obtain ⟨rfl, rfl⟩ := ok_inj h
    rw [Nat.blt_eq] at hc
    obtain ⟨bb, o', cz, vs, hv, hbz, h2, h3, h4, h5⟩ := fpV (he x (by simp) a _ hx hu1)
    refine OpOk.still hs (.pointer (some ⟨bb, o' + i * es, none⟩)) ?_ (fp_drop hbz h2 h3 h4 h5)
    simp [execOp, ho, Instr.indexAt, hv, hv2, asIntOf, run_underlying hu, hc, run_sizeOf hes, addr_add, Instr.sureAddr]

theorem ixv_sound (hs : Sim P γ s w) {o : Oper} {ty n e : Nat} {x y : Operand} {a b : AO} {v : AV} {s' : St} (hu : P.underlying ty = some (.array n e)) (hes : szOf P e = some 1) (hag : aggT P e = some false) (hx : aop x = some a) (hy : aop y = some b) (ho : o.op = .index ty x y) (he : Evs γ t ρ [x, y])
    (h : ixvA n a b t s = .ok v s') : OpOk P γ s w ρ o v s' := by
  obtain ⟨u1, hu1, h⟩ := wth_ok h
  obtain ⟨u2, hu2, h⟩ := wth_ok h
  obtain ⟨i, hi, h⟩ := nat_ok h
  obtain ⟨k, rfl⟩ := asNat_eq hi
  obtain ⟨l, rfl, h⟩ := agg_ok h
  obtain ⟨hc, h⟩ := gd_ok h
  obtain ⟨hk, rfl⟩ := retO_ok h
  rw [getL_eq] at hk
  rw [Nat.blt_eq] at hc
  obtain ⟨cs, hv, hR, _⟩ := aggV (he x (by simp) a _ hx hu1)
  have hv2 : ρ y = .int k (i : Int) := intV (he y (by simp) b _ hy hu2)
  obtain ⟨v', hv', hRv⟩ := hR.get hk
  refine OpOk.still hs v' ?_ hRv
  have hp := part1 (P := P) (w := w) hag (show cs[i]? = some v' by simpa using hv')
  simp [execOp, ho, Instr.index, hv, hv2, asIntOf, run_underlying hu, hc, run_sizeOf hes, hp]

theorem run_call_builtin {o : Oper} {b : Builtin} {args : Array Operand} {ts : Array TypeId} (ho : o.op = .call { callee := .builtin b, args := args, argTypes := ts }) :
    (execOp ρ o).run P w = (builtin b ts o.type (args.map fun | .const _ => true | _ => false) (args.map ρ)).run P w := by
  simp only [execOp, ho, resolve, Sem.run_bind, Sem.run_pure, Result.andThen_ok, invoke]
  rfl

theorem len_sound (hs : Sim P γ s w) {o : Oper} {T e : Nat} {x : Operand} {a : AO} {v : AV} {s' : St} (hu : P.underlying T = some (.slice e)) (hx : aop x = some a) (ho : o.op = .call { callee := .builtin .len, args := #[x], argTypes := #[T] }) (he : Evs γ t ρ [x])
    (h : lenA a t s = .ok v s') : OpOk P γ s w ρ o v s' := by
  obtain ⟨u, hu', h⟩ := wth_ok h
  have hv := he x (by simp) a u hx hu'
  have hrun : ∀ (p : Option Addr) (n c : Nat), ρ x = .slice p n c → (execOp ρ o).run P w = .ok (.value (.int .i64 n)) w := by
    intro p n c e1
    rw [run_call_builtin ho]
    have hl : ∀ ty, (Builtin.len_ #[T] ty #[.slice p n c]).run P w = .ok (goInt n) w := fun ty => by simp [Builtin.len_, run_underlying hu]
    simp only [builtin, List.map_toArray, List.map_cons, List.map_nil, e1, Sem.run_bind, hl, Result.andThen_ok, Sem.run_pure]
    rfl
  rcases sl_ok2 h with ⟨r, i, n, c, rfl, h⟩ | ⟨rfl, h⟩ | ⟨rfl, h⟩ | ⟨n, c, l, rfl, h⟩
  · obtain ⟨rfl, rfl⟩ := ok_inj h
    obtain ⟨L, cc, hL, hval, _⟩ := slV hv
    exact OpOk.still hs _ (hrun _ _ _ hval) (.int _ _)
  · obtain ⟨rfl, rfl⟩ := ok_inj h
    generalize hxx : ρ x = vx at hv
    cases hv
    exact OpOk.still hs _ (hrun _ _ _ hxx) (.int _ _)
  · obtain ⟨rfl, rfl⟩ := ok_inj h
    generalize hxx : ρ x = vx at hv
    cases hv
    exact OpOk.still hs _ (hrun _ _ _ hxx) (.int _ _)
  · obtain ⟨rfl, rfl⟩ := ok_inj h
    obtain ⟨bb, o', cc, cz, vs, hval, _⟩ := fzV hv
    exact OpOk.still hs _ (hrun _ _ _ hval) (.int _ _)

theorem alen_sound (hs : Sim P γ s w) {o : Oper} {T n e : Nat} {x : Operand} {v : AV} {s' : St} (hu : P.underlying T = some (.array n e)) (ho : o.op = .call { callee := .builtin .len, args := #[x], argTypes := #[T] })
    (h : alenA n t s = .ok v s') : OpOk P γ s w ρ o v s' := by
  obtain ⟨rfl, rfl⟩ := ok_inj h
  refine OpOk.still hs (.int .i64 n) ?_ (.int _ _)
  rw [run_call_builtin ho]
  have hl : ∀ ty u, (Builtin.len_ #[T] ty #[u]).run P w = .ok (goInt n) w := fun ty u => by simp [Builtin.len_, run_underlying hu]
  simp only [builtin, List.map_toArray, List.map_cons, List.map_nil, Sem.run_bind, hl, Result.andThen_ok, Sem.run_pure]
  rfl
end
end Go.AM
