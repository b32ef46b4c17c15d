/-
  THE ABSTRACT MACHINE: cap, and append of zero values. Plain lemmas.
-/
import Derived.Test.YtnnbibnobmegpaaAMOps9
import Derived.Lib.AppendZerosOnto
set_option linter.unusedVariables false
set_option linter.unusedSimpArgs false
namespace Go.AM
section
variable {P : Program} {γ : Gam} {s : St} {w : World} {t : AT} {ρ : Operand → Value}

theorem cap_sound (hs : Sim P γ s w) {o : Oper} {T e : Nat} {x : Operand} {a : AO} {v : AV} {s' : St} (hu : P.underlying T = some (.slice e)) (hx : aop x = some a) (ho : o.op = .call { callee := .builtin .cap, args := #[x], argTypes := #[T] }) (he : Evs γ t ρ [x])
    (h : capA a t s = .ok v s') : OpOk P γ s w ρ o v s' := by
  obtain ⟨u, hu', h⟩ := wth_ok h
  have hv := he x (by simp) a u hx hu'
  rcases sl_ok2 h with ⟨r, i, n, c, rfl, h⟩ | ⟨rfl, h⟩ | ⟨rfl, h⟩ | ⟨n, c, l0, rfl, h⟩
  rotate_right
  · obtain ⟨c, rfl, h⟩ := opt_ok h
    obtain ⟨rfl, rfl⟩ := ok_inj h
    obtain ⟨bz, oz, cc, cz, zs, hval, _, _, _, _, _, hck, _⟩ := fzV hv
    have := hck c rfl
    subst this
    refine OpOk.still hs (.int .i64 cc) ?_ (.int _ _)
    rw [run_call_builtin ho]
    have hl : ∀ ty, (Builtin.cap_ #[T] ty #[.slice (some ⟨bz, oz, none⟩) n cc]).run P w = .ok (goInt cc) w := fun ty => by simp [Builtin.cap_, run_underlying hu]
    simp only [builtin, List.map_toArray, List.map_cons, List.map_nil, hval, Sem.run_bind, hl, Result.andThen_ok, Sem.run_pure]
    rfl
  · obtain ⟨c, rfl, h⟩ := opt_ok h
    obtain ⟨rfl, rfl⟩ := ok_inj h
    obtain ⟨L, cc, hL, hval, hcc⟩ := slV hv
    have := hcc c rfl
    subst this
    refine OpOk.still hs (.int .i64 cc) ?_ (.int _ _)
    rw [run_call_builtin ho]
    have hl : ∀ ty, (Builtin.cap_ #[T] ty #[.slice (some ⟨L.b, L.o + i, none⟩) n cc]).run P w = .ok (goInt cc) w := fun ty => by simp [Builtin.cap_, run_underlying hu]
    simp only [builtin, List.map_toArray, List.map_cons, List.map_nil, hval, Sem.run_bind, hl, Result.andThen_ok, Sem.run_pure]
    rfl
  · cases h
  · cases h

theorem app0_sound (hs : Sim P γ s w) {o : Oper} {T U e es by_ : Nat} {kn : IntKind} {z : List AV} {x y : Operand} {a b : AO} {v : AV} {s' : St} (hu : P.underlying T = some (.slice e)) (hU : P.underlying U = some (.int kn)) (hes : szOf P e = some es) (hby : byOf P e = some by_) (hz : zeroOf P e = some z) (h1es : 1 ≤ es) (hbl : by_ ≤ 4096) (hzl : z.length = es)
    (hx : aop x = some a) (hy : aop y = some b) (ho : o.op = .call { callee := .builtin .append, args := #[x, y], argTypes := #[T, U] }) (he : Evs γ t ρ [x, y]) (h : app0A e es z a b t s = .ok v s') : OpOk P γ s w ρ o v s' := by
  obtain ⟨u1, hu1, h⟩ := wth_ok h
  obtain ⟨u2, hu2, h⟩ := wth_ok h
  have h1 := he x (by simp) a u1 hx hu1
  have h2 := he y (by simp) b u2 hy hu2
  obtain ⟨k, hk, h⟩ := nat_ok h
  obtain ⟨kk, rfl⟩ := asNat_eq hk
  obtain ⟨i, zv, hi, hzz, ha⟩ := zeroOf_some hz
  obtain ⟨y1, y2⟩ := avs_VR (γ := γ) ha
  have his : i.size = es := by simp [szOf, hi] at hes; exact hes
  have hib : i.bytes = by_ := by simp [byOf, hi] at hby; exact hby
  have hzs : zv.cells.size = es := by rw [← hzl]; simpa using y1.length.symm
  have hkv : ρ y = .int kk k := by generalize ρ y = q at h2; cases h2; rfl
  rcases sl_ok h with ⟨r, j, n, c, rfl, h⟩ | ⟨rfl, h⟩ | ⟨rfl, h⟩
  · obtain ⟨old, hold, h⟩ := opt_ok h
    obtain ⟨c, rfl, h⟩ := opt_ok h
    obtain ⟨L, cc, hL, hxv, hck⟩ := slV h1
    have hcc := hck c rfl
    subst hcc
    obtain ⟨olds, e1, hco, hRo, h1o⟩ := load_sound hs hold hL
    have e1' : olds.length = n * i.size := by rw [his]; exact e1
    change (Bool.rec (gd (Nat.blt 0 k) (appNew e (n + k) (appL old (rep z k)) s)) .fail (Nat.ble (n + k) cc) : RV) = .ok v s' at h
    cases hb : Nat.ble (n + k) cc with
    | true => rw [hb] at h; cases h
    | false =>
      rw [hb] at h
      obtain ⟨hk0, h⟩ := gd_ok h
      obtain ⟨hbd, h⟩ := gd_ok h
      have hnle : ¬ (n + k ≤ cc) := fun e => by rw [Nat.ble_eq_true_of_le e] at hb; cases hb
      have hbm := Nat.le_of_ble_eq_true hbd
      have hkp : 0 < k := by
        rcases Nat.eq_zero_or_pos k with e | e
        · subst e; cases hk0
        · exact e
      obtain ⟨rfl, rfl⟩ := ok_inj h
      obtain ⟨q1, q2⟩ := zeros_VR y1 y2 (by omega) k
      have hzc : Builtin.zeroCells zv.cells k = (Array.range (k * zv.cells.size)).map (fun i => zv.cells[i % zv.cells.size]!) := rfl
      rw [← hzc] at q1 q2
      have hmb : (n + k) * i.bytes ≤ 1000000 * 4096 := by rw [hib]; exact Nat.mul_le_mul hbm hbl
      have hmb' : k * i.bytes ≤ 1000000 * 4096 := by rw [hib]; exact Nat.mul_le_mul (by omega) hbl
      have hold' : (Builtin.firstCells i.size n (.slice (some ⟨L.b, L.o + j, none⟩) n cc)).run P w.drew = .ok olds.toArray w.drew :=
        run_firstCells_some w.drew i.size n ⟨L.b, L.o + j, none⟩ n cc olds e1' (fun jj u hj => hco jj u hj)
      have hrun := fun ty => Lib.run_append_grow_zeros (P := P) w T U ty e i zv kk kn hu hU hi hzz (some ⟨L.b, L.o + j, none⟩) n cc olds hold' k hkp (by omega) (by omega) (by omega) (by omega) (growslice_fits (by omega) (by omega))
      have hRa : All2 (VR γ) (appL old (rep z k)) (olds ++ (Builtin.zeroCells zv.cells k).toList) := by rw [appL_eq, rep_eq]; exact hRo.append q1
      obtain ⟨hst, hsim⟩ := newRow_pre hs.drew e (appL old (rep z k)) (olds.toArray ++ Builtin.zeroCells zv.cells k ++ Builtin.zeroCells zv.cells (grownCap w (n + k) cc e - (n + k))) (olds ++ (Builtin.zeroCells zv.cells k).toList) es hes hRa
        (by intro u hu; rcases List.mem_append.1 hu with hu | hu; exact h1o u hu; exact q2 u hu)
        (fun j u hj => by
          rw [Array.getElem?_append_left (by have := (List.getElem?_eq_some_iff.1 hj).1; simpa using this)]
          rw [← Array.getElem?_toList]; simpa using hj) (by simp) (by
            intro u hu
            simp only [Array.toList_append, List.append_assoc, List.mem_append] at hu
            rcases hu with hu | hu | hu
            · exact h1o u hu
            · exact q2 u hu
            · exact (zeros_VR y1 y2 (by omega) _).2 u hu)
      refine ⟨_, _, (Stp.drew).trans hst, hsim, .inl ⟨.slice (some ⟨w.heap.size, 0, none⟩) (n + k) (grownCap w (n + k) cc e), ?_, ?_⟩⟩
      · rw [run_call_builtin ho]
        simp only [builtin, List.map_toArray, List.map_cons, List.map_nil, hxv, hkv, Sem.run_bind, hrun, Result.andThen_ok, Sem.run_pure]
      · refine .slu s.next 0 (n + k) _ _ (ext_same _ _ _) (grownCap_ge _ _ _ _) (grownCap_le_maxLen _ _ _ _ (by unfold maxLen; omega)) (fun _ => ?_)
        have hge := grownCap_ge w (n + k) cc e
        simp only [Array.size_append, List.size_toArray, size_zeroCells, e1', his, hzs]
        rw [← Nat.add_mul, ← Nat.add_mul]
        exact Nat.mul_le_mul_right _ (by omega)
  · cases h
  · cases h
end
end Go.AM
