/-
  THE ABSTRACT MACHINE: min, max, append, copy, clear, maps. Plain lemmas.
-/
import Derived.Test.YtnnbibnobmegpaaAMOps6
set_option linter.unusedVariables false
set_option linter.unusedSimpArgs false
namespace Go.AM
section
variable {P : Program} {γ : Gam} {s : St} {w : World} {t : AT} {ρ : Operand → Value}

theorem mm_run (mx : Bool) : ∀ (l : List AV) (x v : AV) (x' : Value) (l' : List Value), mm mx l x = .some v → VR γ x x' → All2 (VR γ) l l' →
    ∃ v', (l'.foldlM (if mx then Builtin.max2 else Builtin.min2) x').run P w = .ok v' w ∧ VR γ v v' := by
  intro l
  induction l with
  | nil => intro x v x' l' h hx hl; cases hl; cases h; exact ⟨x', rfl, hx⟩
  | cons y l ih =>
    intro x v x' l' h hx hl
    cases hl with
    | @cons _ y' _ l'' hy hl =>
      change (IR.rec .none (fun k a => IR.rec .none (fun k' b => Bool.rec .none (mm mx l (.int k (Bool.rec a b (Bool.rec (ltI b a) (ltI a b) mx)))) (eqK k k')) (asInt y)) (asInt x) : OV) = .some v at h
      cases hx1 : asInt x with
      | no => rw [hx1] at h; cases h
      | int k a =>
        rw [hx1] at h
        cases hy1 : asInt y with
        | no => rw [hy1] at h; cases h
        | int k' b =>
          rw [hy1] at h
          dsimp only at h
          cases hk : eqK k k' with
          | false => rw [hk] at h; cases h
          | true =>
            rw [hk] at h
            dsimp only at h
            rw [asInt_eq hx1] at hx
            rw [asInt_eq hy1] at hy
            rw [intV hx, intV hy]
            obtain ⟨v', r1, r2⟩ := ih _ v (.int k (Bool.rec a b (Bool.rec (ltI b a) (ltI a b) mx))) l'' h (.int _ _) hl
            refine ⟨v', ?_, r2⟩
            rw [← r1]
            simp only [List.foldlM_cons, Sem.run_bind]
            cases mx with
            | true =>
              simp only [if_true, Builtin.max2, Sem.run_pure, Result.andThen_ok, ltI_eq]
              by_cases hab : a < b <;> simp [hab]
            | false =>
              simp only [Bool.false_eq_true, if_false, Builtin.min2, Sem.run_pure, Result.andThen_ok, ltI_eq]
              by_cases hab : b < a <;> simp [hab]

theorem mn_sound (hs : Sim P γ s w) {o : Oper} {mx : Bool} {ts : Array TypeId} {xs : Array Operand} {as : List AO} {v : AV} {s' : St} (hx : aops xs.toList = some as) (ho : o.op = .call { callee := .builtin (if mx then .max else .min), args := xs, argTypes := ts }) (he : Evs γ t ρ xs.toList)
    (h : mnA mx as t s = .ok v s') : OpOk P γ s w ρ o v s' := by
  obtain ⟨l, hl, h⟩ := opt_ok h
  have hR := aops_evs (γ := γ) (ρ := ρ) hx hl he
  cases l with
  | nil => cases h
  | cons x l =>
    obtain ⟨hm, rfl⟩ := ret_ok h
    generalize hvs : xs.toList.map ρ = vs at hR
    cases hR with
    | @cons _ x' _ l' h1 h2 =>
      obtain ⟨v', r1, r2⟩ := mm_run (P := P) (w := w) mx l x v x' l' hm h1 h2
      refine OpOk.still hs v' ?_ r2
      rw [run_call_builtin ho]
      cases mx with
      | true =>
        simp only [if_true] at r1 ⊢
        simp only [builtin, Builtin.max_, Array.toList_map, hvs, Sem.run_bind, r1, Result.andThen_ok, Sem.run_pure]
      | false =>
        simp only [Bool.false_eq_true, if_false] at r1 ⊢
        simp only [builtin, Builtin.min_, Array.toList_map, hvs, Sem.run_bind, r1, Result.andThen_ok, Sem.run_pure]

/-- what a slice that is read from holds -/
theorem src_sound (hs : Sim P γ s w) {es : Nat} {x : AV} {x' : Value} {cs : List AV} (hx : VR γ x x') (h : srcOf es x s = some cs) :
    ∃ p n c vs, x' = .slice p n c ∧ All2 (VR γ) cs vs ∧ (∀ v ∈ vs, v.oneCell' = true) ∧ vs.length = n * es ∧ (p = none → n = 0) ∧ ∀ a, p = some a → ∀ j u, vs[j]? = some u → w.cell? (a.add j) = some u := by
  unfold srcOf at h
  cases hsl : asSl x with
  | no => rw [hsl] at h; cases h
  | sl r i n c =>
    rw [hsl] at h
    rw [asSl_sl hsl] at hx
    obtain ⟨L, cc, hL, rfl, _⟩ := slV hx
    obtain ⟨vs, e1, hc, hR, h1⟩ := load_sound hs h hL
    exact ⟨_, n, cc, vs, rfl, hR, h1, e1, (fun e => by cases e), (fun a e => by cases e; exact hc)⟩
  | nils =>
    rw [hsl] at h; cases h
    rw [asSl_nils hsl] at hx
    cases hx
    exact ⟨none, 0, 0, [], rfl, .nil, by simp, by simp, fun _ => rfl, (fun a e => by cases e)⟩
  | es =>
    rw [hsl] at h; cases h
    rw [asSl_es hsl] at hx
    cases hx with
    | es a c => exact ⟨some a, 0, c, [], rfl, .nil, by simp, by simp, fun _ => rfl, fun a _ j u hu => by simp at hu⟩
  | fz n c l =>
    rw [hsl] at h
    rw [asSl_fz hsl] at hx
    obtain ⟨b, o, cc, cz, vs, rfl, hbz, h2, h3, h4, _, _, h5⟩ := fzV hx
    obtain ⟨us, e1, g2, hR, h1⟩ := fz_take (k := 0) hs hbz h2 h3 h4 h
    rw [Nat.add_zero] at g2
    exact ⟨_, n, cc, us, rfl, hR, h1, e1, (fun e => by cases e), (fun a e => by cases e; exact fz_cells hs hbz g2)⟩

theorem copy_sound (hs : Sim P γ s w) {o : Oper} {T U e es : Nat} {x y : Operand} {a b : AO} {v : AV} {s' : St} (hu : P.underlying T = some (.slice e)) (hes : szOf P e = some es) (hx : aop x = some a) (hy : aop y = some b) (ho : o.op = .call { callee := .builtin .copy, args := #[x, y], argTypes := #[T, U] }) (he : Evs γ t ρ [x, y])
    (h : copyA es a b t s = .ok v s') : OpOk P γ s w ρ o v s' := by
  obtain ⟨u1, hu1, h⟩ := wth_ok h
  obtain ⟨u2, hu2, h⟩ := wth_ok h
  have h1 := he x (by simp) a u1 hx hu1
  have h2 := he y (by simp) b u2 hy hu2
  have hzero : ∀ (p q : Option Addr) (n n' c c' : Nat), ρ x = .slice p n c → ρ y = .slice q n' c' → Nat.min n' n = 0 → (execOp ρ o).run P w = .ok (.value (.int .i64 (0 : Nat))) w := by
    intro p q n n' c c' e1 e2 e3
    rw [run_call_builtin ho]
    have hf : (Builtin.firstCells es 0 (.slice q n' c')).run P w = .ok #[] w := by cases q <;> simp [Builtin.firstCells, loadCells, loadCellsFrom]
    have hl : ∀ ty, (Builtin.copy_ #[T, U] ty #[.slice p n c, .slice q n' c']).run P w = .ok (goInt (0 : Nat)) w := by
      intro ty
      simp only [Builtin.copy_, List.getElem?_toArray, List.getElem?_cons_zero, List.getElem?_cons_succ, Sem.run_bind, run_underlying hu, Result.andThen_ok, Builtin.lenOf, Sem.run_pure, run_sizeOf hes, e3, hf]
      cases p <;> simp [storeCells]
    simp only [builtin, List.map_toArray, List.map_cons, List.map_nil, e1, e2, Sem.run_bind, hl, Result.andThen_ok, Sem.run_pure]
    rfl
  rcases sl_ok h with ⟨r, i, n, c, rfl, h⟩ | ⟨rfl, h⟩ | ⟨rfl, h⟩
  · obtain ⟨L, cc, hL, hv1, _⟩ := slV h1
    rcases sl_ok2 h with ⟨r', i', n', c', rfl, h⟩ | ⟨rfl, h⟩ | ⟨rfl, h⟩ | ⟨n', c', l', rfl, h⟩
    · obtain ⟨cs, hl, h⟩ := opt_ok h
      obtain ⟨hst, rfl⟩ := retS_ok h
      obtain ⟨L', cc', hL', hv2, _⟩ := slV h2
      obtain ⟨vs, e1, hc, hR, h1'⟩ := load_sound hs hl hL'
      obtain ⟨w', hrun, hstp, hsim⟩ := store_sound hs hst hL hR h1'
      refine ⟨γ, w', hstp, hsim, .inl ⟨.int .i64 (Nat.min n' n : Nat), ?_, .int _ _⟩⟩
      rw [run_call_builtin ho]
      have hlc := run_loadCells_list (P := P) w _ vs hc
      rw [e1] at hlc
      have hf : (Builtin.firstCells es (Nat.min n' n) (.slice (some ⟨L'.b, L'.o + i', none⟩) n' cc')).run P w = .ok vs.toArray w := by
        simp only [Builtin.firstCells]; exact hlc
      have hll : ∀ ty, (Builtin.copy_ #[T, U] ty #[.slice (some ⟨L.b, L.o + i, none⟩) n cc, .slice (some ⟨L'.b, L'.o + i', none⟩) n' cc']).run P w = .ok (goInt (Nat.min n' n : Nat)) w' := by
        intro ty
        simp only [Builtin.copy_, List.getElem?_toArray, List.getElem?_cons_zero, List.getElem?_cons_succ, Sem.run_bind, run_underlying hu, Result.andThen_ok, Builtin.lenOf, Sem.run_pure, run_sizeOf hes, hf, hrun]
      simp only [builtin, List.map_toArray, List.map_cons, List.map_nil, hv1, hv2, Sem.run_bind, hll, Result.andThen_ok, Sem.run_pure]
      rfl
    · obtain ⟨rfl, rfl⟩ := ok_inj h
      generalize hyy : ρ y = vy at h2
      cases h2
      exact OpOk.still hs _ (hzero _ _ _ _ _ _ hv1 hyy (by simp)) (.int _ _)
    · obtain ⟨rfl, rfl⟩ := ok_inj h
      generalize hyy : ρ y = vy at h2
      cases h2
      exact OpOk.still hs _ (hzero _ _ _ _ _ _ hv1 hyy (by simp)) (.int _ _)
    · obtain ⟨cs, hl, h⟩ := opt_ok h
      obtain ⟨hst, rfl⟩ := retS_ok h
      obtain ⟨bz, oz, cc', cz, zs, hv2, hbz, g1, g3, g4, _, _, g5⟩ := fzV h2
      obtain ⟨vs, e1, g2, hR, h1'⟩ := fz_take (k := 0) hs hbz g1 g3 g4 hl
      rw [Nat.add_zero] at g2
      obtain ⟨w', hrun, hstp, hsim⟩ := store_sound hs hst hL hR h1'
      refine ⟨γ, w', hstp, hsim, .inl ⟨.int .i64 (Nat.min n' n : Nat), ?_, .int _ _⟩⟩
      rw [run_call_builtin ho]
      have hlc := run_loadCells_list (P := P) w _ vs (fz_cells hs hbz g2)
      rw [e1] at hlc
      have hf : (Builtin.firstCells es (Nat.min n' n) (.slice (some ⟨bz, oz, none⟩) n' cc')).run P w = .ok vs.toArray w := by
        simp only [Builtin.firstCells]; exact hlc
      have hll : ∀ ty, (Builtin.copy_ #[T, U] ty #[.slice (some ⟨L.b, L.o + i, none⟩) n cc, .slice (some ⟨bz, oz, none⟩) n' cc']).run P w = .ok (goInt (Nat.min n' n : Nat)) w' := by
        intro ty
        simp only [Builtin.copy_, List.getElem?_toArray, List.getElem?_cons_zero, List.getElem?_cons_succ, Sem.run_bind, run_underlying hu, Result.andThen_ok, Builtin.lenOf, Sem.run_pure, run_sizeOf hes, hf, hrun]
      simp only [builtin, List.map_toArray, List.map_cons, List.map_nil, hv1, hv2, Sem.run_bind, hll, Result.andThen_ok, Sem.run_pure]
      rfl
  all_goals
    obtain ⟨q, n', c', hyv⟩ : ∃ q n' c', ρ y = .slice q n' c' := by
      rcases sl_ok2 h with ⟨r', i', n', c', rfl, h⟩ | ⟨rfl, h⟩ | ⟨rfl, h⟩ | ⟨n', c', l', rfl, h⟩
      · obtain ⟨L', cc', hL', hv2, _⟩ := slV h2; exact ⟨_, _, _, hv2⟩
      · generalize ρ y = vy at h2; cases h2; exact ⟨_, _, _, rfl⟩
      · generalize ρ y = vy at h2; cases h2; exact ⟨_, _, _, rfl⟩
      · obtain ⟨bz, oz, cc', cz, zs, hv2, _⟩ := fzV h2; exact ⟨_, _, _, hv2⟩
    obtain ⟨rfl, rfl⟩ : v = intN 0 ∧ s' = s := by
      rcases sl_ok2 h with ⟨r', i', n', c', rfl, h⟩ | ⟨rfl, h⟩ | ⟨rfl, h⟩ | ⟨n', c', l', rfl, h⟩ <;> (cases h; exact ⟨rfl, rfl⟩)
    generalize hxx : ρ x = vx at h1
    cases h1
    exact OpOk.still hs _ (hzero _ _ _ _ _ _ hxx hyv (by simp)) (.int _ _)

theorem clr_sound (hs : Sim P γ s w) {o : Oper} {T e n : Nat} {z : List AV} {x : Operand} {a : AO} {v : AV} {s' : St} (hu : P.underlying T = some (.slice e)) (hn : szOf P e = some n) (hz : zeroOf P e = some z) (h1n : 1 ≤ n) (hzl : z.length = n) (hx : aop x = some a)
    (ho : o.op = .call { callee := .builtin .clear, args := #[x], argTypes := #[T] }) (he : Evs γ t ρ [x]) (h : clrA z a t s = .ok v s') : OpOk P γ s w ρ o v s' := by
  obtain ⟨u, hu', h⟩ := wth_ok h
  have hv := he x (by simp) a u hx hu'
  obtain ⟨i, zv, hi, hzz, ha⟩ := zeroOf_some hz
  obtain ⟨y1, y2⟩ := avs_VR (γ := γ) ha
  have hzs : zv.cells.size = n := by rw [← hzl]; simpa using y1.length.symm
  rcases sl_ok h with ⟨r, o', k, c, rfl, h⟩ | ⟨rfl, h⟩ | ⟨rfl, h⟩
  · obtain ⟨hst, rfl⟩ := retS_ok h
    obtain ⟨L, cc, hL, hv1, _⟩ := slV hv
    obtain ⟨q1, q2⟩ := zeros_VR y1 y2 (by omega) k
    rw [rep_eq] at hst
    obtain ⟨w', hrun, hstp, hsim⟩ := store_sound hs hst hL q1 q2
    refine ⟨γ, w', hstp, hsim, .inl ⟨.tuple #[], ?_, .tup _ _ .nil⟩⟩
    rw [run_call_builtin ho]
    have hzc : Builtin.zeroCells zv.cells k = (Array.range (k * zv.cells.size)).map (fun i => zv.cells[i % zv.cells.size]!) := rfl
    have hl : ∀ ty, (Builtin.clear_ #[T] ty #[.slice (some ⟨L.b, L.o + o', none⟩) k cc]).run P w = .ok (.tuple #[]) w' := by
      intro ty
      cases k with
      | zero =>
        have : w' = w := by simp [storeCells] at hrun; exact hrun.symm
        subst this
        simp [Builtin.clear_, run_underlying hu]
      | succ k =>
        simp only [Builtin.clear_, List.getElem?_toArray, List.getElem?_cons_zero, Sem.run_bind, run_underlying hu, Result.andThen_ok, run_zeroValue hi hzz, hzc, hrun, Sem.run_pure]
    simp only [builtin, List.map_toArray, List.map_cons, List.map_nil, hv1, Sem.run_bind, hl, Result.andThen_ok, Sem.run_pure]
  · obtain ⟨rfl, rfl⟩ := ok_inj h
    generalize hxx : ρ x = vx at hv
    cases hv
    refine OpOk.still hs (.tuple #[]) ?_ (.tup _ _ .nil)
    rw [run_call_builtin ho]
    have hl : ∀ ty, (Builtin.clear_ #[T] ty #[.slice none 0 0]).run P w = .ok (.tuple #[]) w := by
      intro ty; simp [Builtin.clear_, run_underlying hu]
    simp only [builtin, List.map_toArray, List.map_cons, List.map_nil, hxx, Sem.run_bind, hl, Result.andThen_ok, Sem.run_pure]
  · obtain ⟨rfl, rfl⟩ := ok_inj h
    generalize hxx : ρ x = vx at hv
    cases hv with
    | es ad c =>
      refine OpOk.still hs (.tuple #[]) ?_ (.tup _ _ .nil)
      rw [run_call_builtin ho]
      have hl : ∀ ty, (Builtin.clear_ #[T] ty #[.slice (some ad) 0 c]).run P w = .ok (.tuple #[]) w := by
        intro ty; simp [Builtin.clear_, run_underlying hu]
      simp only [builtin, List.map_toArray, List.map_cons, List.map_nil, hxx, Sem.run_bind, hl, Result.andThen_ok, Sem.run_pure]
end
end Go.AM
