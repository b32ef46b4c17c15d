/-
  THE ABSTRACT MACHINE: append. Plain lemmas.
-/
import Derived.Test.YtnnbibnobmegpaaAMOps7
set_option linter.unusedVariables false
set_option linter.unusedSimpArgs false
namespace Go.AM
section
variable {P : Program} {γ : Gam} {s : St} {w : World} {t : AT} {ρ : Operand → Value}

theorem sluV {r i n : Nat} {v' : Value} (h : VR γ (.sl r i n none) v') : ∃ L cc, γ r = some L ∧ v' = .slice (some ⟨L.b, L.o + i, none⟩) n cc ∧ n ≤ cc ∧ cc ≤ maxLen ∧ (i = 0 → cc * L.es ≤ L.sz) := by
  cases h with
  | slu _ _ _ c L hL a b d => exact ⟨L, c, hL, rfl, a, b, d⟩
/-- a row is given up -/
theorem Sim.kill (h : Sim P γ s w) {r : Nat} {L : Loc} (hL : γ r = some L) : Stp γ s w γ (s.put r .dead) w ∧ Sim P γ (s.put r .dead) w := by
  refine ⟨⟨Le.refl γ, fun r L h h' => (by rw [h] at h'; cases h'), by rw [St.next_put]; exact Nat.le_refl _, Nat.le_refl _, rfl, rfl, rfl, fun _ _ _ => rfl, fun k hk _ => St.get_put_ne (fun e => by rw [e, hL] at hk; cases hk), fun b c h h' => (by rw [h] at h'; cases h')⟩, ⟨?_, ?_, h.lt, ?_, ?_, h.fzc, fun k y M hy hya hM => ?_⟩⟩
  rotate_right
  · rcases St.get_put hy with ⟨rfl, rfl⟩ | ⟨e, hy⟩
    · simp [alive] at hya
    · exact h.fzr k y M hy hya hM
  · intro k y M hy hM
    rcases St.get_put hy with ⟨rfl, rfl⟩ | ⟨e, hy⟩
    · trivial
    · exact h.obj k y M hy hM
  · intro k k' y y' M M' hy hy' ha1 ha2 hM hM' hne
    rcases St.get_put hy with ⟨rfl, rfl⟩ | ⟨e, hy⟩
    · simp [alive] at ha1
    · rcases St.get_put hy' with ⟨rfl, rfl⟩ | ⟨e', hy'⟩
      · simp [alive] at ha2
      · exact h.inj k k' y y' M M' hy hy' ha1 ha2 hM hM' hne
  · intro k hk; rw [St.next_put] at hk; exact h.nx k hk
  · intro k y hy
    rw [St.next_put]
    rcases St.get_put hy with ⟨rfl, _⟩ | ⟨_, hy⟩
    · refine Nat.lt_of_not_le fun hle => ?_
      rw [h.nx k hle] at hL; cases hL
    · exact h.dom k y hy

/-- a new row of which the first cells are told -/
theorem newRow_pre (h : Sim P γ s w) (e : Nat) (cs : List AV) (vs : Array Value) (us : List Value) (es : Nat) (hes : szOf P e = some es) (hR : All2 (VR γ) cs us) (h1 : ∀ v ∈ us, v.oneCell' = true) (hpre : ∀ (i : Nat) v, us[i]? = some v → vs[i]? = some v) (hle : us.length ≤ vs.size) (hall : ∀ v ∈ vs.toList, v.oneCell' = true) :
    Stp γ s w (ext γ s.next ⟨w.heap.size, 0, vs.size, es⟩) (s.alloc (.row e cs)) (w.alloc (.cells vs e)) ∧ Sim P (ext γ s.next ⟨w.heap.size, 0, vs.size, es⟩) (s.alloc (.row e cs)) (w.alloc (.cells vs e)) := by
  refine h.alloc _ _ _ _ ?_
  have hl := hR.length
  refine ⟨vs, ?_, rfl, rfl, hes, by omega, ?_, hall⟩
  · show (w.heap.push _)[w.heap.size]? = _; simp
  · intro i v hi
    obtain ⟨v', hv', hr⟩ := hR.get hi
    exact ⟨v', hpre i v' hv', hr.mono (ext_le (h.nx _ (Nat.le_refl _))), h1 v' (List.mem_of_getElem? hv')⟩

theorem run_append_none {T ty e : Nat} {i : TypeInfo} (ht : P.underlying T = some (.slice e)) (hi : P.info? e = some i) (p q : Option Addr) (n c c' : Nat) (hnc : n ≤ c) :
    (Builtin.append_ #[T, T] ty #[.slice p n c, .slice q 0 c']).run P w = .ok (.slice p n c) w := by
  have hf : (Builtin.firstCells i.size 0 (.slice q 0 c')).run P w = .ok #[] w := by cases q <;> simp [Builtin.firstCells, loadCells, loadCellsFrom]
  cases p <;> simp [Builtin.append_, run_underlying ht, Go.sizeOf, typeInfo, hi, Builtin.lenOf, hnc, hf, storeCells]

theorem run_append_put {T ty e : Nat} {i : TypeInfo} (ht : P.underlying T = some (.slice e)) (hi : P.info? e = some i) (b a : Addr) (n c m c' : Nat) (news : List Value) (hl : news.length = m * i.size) (hnews : ∀ j u, news[j]? = some u → w.cell? (a.add j) = some u)
    (hroom : n + m ≤ c) {w' : World} (hst : (storeCells (b.add (n * i.size)) news).run P w = .ok () w') :
    (Builtin.append_ #[T, T] ty #[.slice (some b) n c, .slice (some a) m c']).run P w = .ok (.slice (some b) (n + m) c) w' := by
  have hlc := run_loadCells_list (P := P) w a news hnews
  rw [hl] at hlc
  have hf : (Builtin.firstCells i.size m (.slice (some a) m c')).run P w = .ok news.toArray w := by simp only [Builtin.firstCells]; exact hlc
  simp [Builtin.append_, run_underlying ht, Go.sizeOf, typeInfo, hi, Builtin.lenOf, hroom, hf, hst]

theorem app_sound (hs : Sim P γ s w) {o : Oper} {T e es by_ : Nat} {z : List AV} {x y : Operand} {a b : AO} {v : AV} {s' : St} (hu : P.underlying T = some (.slice e)) (hes : szOf P e = some es) (hby : byOf P e = some by_) (hz : zeroOf P e = some z) (h1es : 1 ≤ es) (hbl : by_ ≤ 4096) (hzl : z.length = es)
    (hx : aop x = some a) (hy : aop y = some b) (ho : o.op = .call { callee := .builtin .append, args := #[x, y], argTypes := #[T, T] }) (he : Evs γ t ρ [x, y]) (h : appA e es a b t s = .ok v s') : OpOk P γ s w ρ o v s' := by
  obtain ⟨u1, hu1, h⟩ := wth_ok h
  obtain ⟨u2, hu2, h⟩ := wth_ok h
  obtain ⟨cs, hsrc, h⟩ := opt_ok h
  have h1 := he x (by simp) a u1 hx hu1
  have h2 := he y (by simp) b u2 hy hu2
  obtain ⟨q, m, c', news, hyv, hRn, h1n, hln, hqn, hcn⟩ := src_sound hs h2 hsrc
  obtain ⟨i, zv, hi, hzz, ha⟩ := zeroOf_some hz
  obtain ⟨y1, y2⟩ := avs_VR (γ := γ) ha
  have his : i.size = es := by simp [szOf, hi] at hes; exact hes
  have hib : i.bytes = by_ := by simp [byOf, hi] at hby; exact hby
  have hzs : zv.cells.size = es := by rw [← hzl]; simpa using y1.length.symm
  have hz1 : ∀ k, ∀ v ∈ (Builtin.zeroCells zv.cells k).toList, v.oneCell' = true := fun k => (zeros_VR y1 y2 (by omega) k).2
  have hrunb : ∀ {xv : Value} {r : Value} {w' : World}, ρ x = xv → (∀ ty, (Builtin.append_ #[T, T] ty #[xv, .slice q m c']).run P w = .ok r w') → (execOp ρ o).run P w = .ok (.value r) w' := by
    intro xv r w' e1 hr
    rw [run_call_builtin ho]
    simp only [builtin, List.map_toArray, List.map_cons, List.map_nil, e1, hyv, Sem.run_bind, hr, Result.andThen_ok, Sem.run_pure]
  have hcl := hRn.length
  cases cs with
  | nil =>
    have hm : m = 0 := by
      have e0 : news.length = 0 := by simpa using hcl.symm
      rcases Nat.mul_eq_zero.1 (hln.symm.trans e0) with e | e <;> omega
    subst hm
    rcases sl_ok2 h with ⟨r, j, n, c, rfl, h⟩ | ⟨rfl, h⟩ | ⟨rfl, h⟩ | ⟨n, c, l0, rfl, h⟩
    rotate_right
    · obtain ⟨rfl, rfl⟩ := ok_inj h
      obtain ⟨bz, oz, cc, cz, zs, hxx, _, _, _, _, hnc, _, _⟩ := fzV h1
      exact OpOk.still hs _ (hrunb hxx fun ty => run_append_none hu hi _ _ _ _ _ hnc) (by rw [← hxx]; exact h1)
    · obtain ⟨rfl, rfl⟩ := ok_inj h
      generalize hxx : ρ x = vx at h1
      have h1' := h1
      cases h1 with
      | sl _ _ _ c L hL hnc => exact OpOk.still hs _ (hrunb hxx fun ty => run_append_none hu hi _ _ _ _ _ hnc) h1'
      | slu _ _ _ c L hL hnc => exact OpOk.still hs _ (hrunb hxx fun ty => run_append_none hu hi _ _ _ _ _ hnc) h1'
    · obtain ⟨rfl, rfl⟩ := ok_inj h
      generalize hxx : ρ x = vx at h1
      cases h1
      exact OpOk.still hs _ (hrunb hxx fun ty => run_append_none hu hi _ _ _ _ _ (Nat.le_refl _)) .nils
    · obtain ⟨rfl, rfl⟩ := ok_inj h
      generalize hxx : ρ x = vx at h1
      cases h1 with
      | es ad c => exact OpOk.still hs _ (hrunb hxx fun ty => run_append_none hu hi _ _ _ _ _ (Nat.zero_le _)) (.es _ _)
  | cons c0 cs0 =>
    have hh : (SR.rec .fail (fun r o n c => app1 e es (c0 :: cs0) (Nat.div (lenL (c0 :: cs0)) es) r o n c s) (appNew e (Nat.div (lenL (c0 :: cs0)) es) (c0 :: cs0) s) .fail (fun n c l => appF e es (c0 :: cs0) (Nat.div (lenL (c0 :: cs0)) es) n c l s) (asSl u1) : RV) = .ok v s' := h
    clear h
    have hcpos : 1 ≤ (c0 :: cs0).length := by simp
    generalize c0 :: cs0 = cs at *
    have hm0 : 1 ≤ m := by
      rcases Nat.eq_zero_or_pos m with e | e
      · subst e; simp at hln; rw [hln] at hcl; simp at hcl; rw [hcl] at hcpos; simp at hcpos
      · exact e
    obtain ⟨ad, rfl⟩ : ∃ ad, q = some ad := by
      cases q with
      | none => have := hqn rfl; omega
      | some ad => exact ⟨ad, rfl⟩
    have hcell := hcn ad rfl
    have hlm : lenL cs / es = m := by rw [lenL_eq, hcl, hln]; exact Nat.mul_div_cancel _ (by omega)
    have hlm' : Nat.div (lenL cs) es = m := hlm
    rw [← his] at hln
    rw [hlm'] at hh
    -- a new array
    have grow : ∀ (ad0 : Addr) (n cc : Nat) (old : List AV) (olds : List Value), ρ x = .slice (some ad0) n cc → olds.length = n * i.size → (∀ j u, olds[j]? = some u → w.cell? (ad0.add j) = some u) → All2 (VR γ) old olds → (∀ v ∈ olds, v.oneCell' = true) → cc < n + m → n + m ≤ 1000000 → ∀ s1, Sim P γ s1 w → Stp γ s w γ s1 w → fresh (.row e (appL old cs)) (fun r => .sl r 0 (n + m) none) s1 = .ok v s' → OpOk P γ s w ρ o v s' := by
      intro ad0 n cc old olds hxv e1' hco hRo h1o hlt hbm s1 hs1 hst1 hok
      obtain ⟨rfl, rfl⟩ := ok_inj hok
      have hmb : (n + m) * i.bytes ≤ 1000000 * 4096 := by rw [hib]; exact Nat.mul_le_mul hbm hbl
      have hrun := fun ty => run_append_grow (P := P) w T ty e i zv hu hi hzz ad0 n cc olds e1' hco ad m c' news hln hcell hlt (by omega) (growslice_fits hlt (by omega))
      have hRa : All2 (VR γ) (appL old cs) (olds ++ news) := by rw [appL_eq]; exact hRo.append hRn
      obtain ⟨hst, hsim⟩ := newRow_pre hs1.drew e (appL old cs) (olds.toArray ++ news.toArray ++ Builtin.zeroCells zv.cells (grownCap w (n + m) cc e - (n + m))) (olds ++ news) es hes hRa
        (by intro u hu; rcases List.mem_append.1 hu with hu | hu; exact h1o u hu; exact h1n u hu)
        (fun k u hk => by
          rw [Array.getElem?_append_left (by have := (List.getElem?_eq_some_iff.1 hk).1; simpa using this)]
          simpa using hk) (by simp) (by
          intro u hu
          simp only [Array.toList_append, List.append_assoc, List.mem_append] at hu
          rcases hu with hu | hu | hu
          · exact h1o u hu
          · exact h1n u hu
          · exact hz1 _ u hu)
      refine ⟨_, _, (hst1.trans Stp.drew).trans hst, hsim, .inl ⟨_, hrunb hxv hrun, ?_⟩⟩
      refine .slu s1.next 0 (n + m) _ _ (ext_same _ _ _) (grownCap_ge _ _ _ _) (grownCap_le_maxLen _ _ _ _ (by unfold maxLen; omega)) (fun _ => ?_)
      have hge := grownCap_ge w (n + m) cc e
      simp only [Array.size_append, List.size_toArray, size_zeroCells, hln, e1', his, hzs]
      rw [← Nat.add_mul, ← Nat.add_mul]
      exact Nat.mul_le_mul_right _ (by omega)
    rcases sl_ok2 hh with ⟨r, j, n, c, rfl, hk⟩ | ⟨rfl, hk⟩ | ⟨rfl, hk⟩ | ⟨n, c, l0, rfl, hk⟩
    · obtain ⟨old, hold, hk⟩ := opt_ok hk
      obtain ⟨L, cc, hL, hxv, hck⟩ := slV h1
      obtain ⟨olds, e1, hco, hRo, h1o⟩ := load_sound hs hold hL
      have e1' : olds.length = n * i.size := by rw [his]; exact e1
      have grow := grow _ n cc old olds hxv e1' hco hRo h1o
      cases c with
      | some c =>
        have hcc := hck c rfl
        subst hcc
        change (Bool.rec (appNew e (n + m) (appL old cs) s) (retS (.sl r j (n + m) (some cc)) (storeAt r (j + n * es) cs s)) (Nat.ble (n + m) cc) : RV) = .ok v s' at hk
        cases hb : Nat.ble (n + m) cc with
        | true =>
          rw [hb] at hk
          obtain ⟨hst, rfl⟩ := retS_ok hk
          have hle := Nat.le_of_ble_eq_true hb
          obtain ⟨w', hrun, hstp, hsim⟩ := store_sound hs hst hL hRn h1n
          refine ⟨γ, w', hstp, hsim, .inl ⟨_, hrunb hxv fun ty => run_append_put hu hi ⟨L.b, L.o + j, none⟩ ad n cc m c' news hln hcell hle (by rw [addr_add, his, Nat.add_assoc]; exact hrun), .sl _ _ _ _ L hL hle⟩⟩
        | false =>
          rw [hb] at hk
          obtain ⟨hbd, hk⟩ := gd_ok hk
          have hnle : ¬ (n + m ≤ cc) := fun e => by rw [Nat.ble_eq_true_of_le e] at hb; cases hb
          exact grow (by omega) (Nat.le_of_ble_eq_true hbd) s hs (.refl _ _ _) hk
      | none =>
        obtain ⟨hcond, hk1⟩ := gd_ok hk
        obtain ⟨hbd, hk2⟩ := gd_ok hk1
        have hbm := Nat.le_of_ble_eq_true hbd
        simp only [Bool.and_eq_true] at hcond
        have hj := Nat.eq_of_beq_eq_true hcond.1
        by_cases hroom : n + m ≤ cc
        · -- in its own array
          have hcs : cc * L.es ≤ L.sz ∧ cc ≤ maxLen := by
            obtain ⟨L', c2, hL', hx2, _, hcm, hcs⟩ := sluV h1
            rw [hL] at hL'; cases hL'
            rw [hxv] at hx2
            cases hx2
            exact ⟨hcs hj, hcm⟩
          have a1 : old.length = n * es := hRo.length.trans e1
          obtain ⟨rs, hrow⟩ : ∃ rs, s.get r = some (.row e rs) := by
            have he2 := hcond.2
            unfold elemIs at he2
            cases hra : rowAt r s with
            | no => rw [hra] at he2; cases he2
            | row e' rs =>
              rw [hra] at he2
              have : e' = e := Nat.eq_of_beq_eq_true he2
              subst this
              exact ⟨rs, rowAt_some hra⟩
          obtain ⟨cur, hc, ho0, hsz, hes', hlen, hv, hall⟩ := hs.rowA hrow hL
          have hees : L.es = es := by rw [hes] at hes'; exact (Option.some.inj hes').symm
          have hfit : n * es + news.length ≤ cur.size := by
            rw [hln, his, ← Nat.add_mul, hsz]
            refine Nat.le_trans (Nat.mul_le_mul_right _ hroom) ?_
            rw [← hees]; exact hcs.1
          have hst := run_storeCells_at (P := P) L.b (n * es) e news 0 cur w hc (by omega) h1n
          simp only [Nat.add_zero] at hst
          have hrun := fun ty => run_append_put (ty := ty) hu hi ⟨L.b, L.o + j, none⟩ ad n cc m c' news hln hcell hroom (by rw [addr_add, ho0, hj, his, Nat.zero_add]; exact hst)
          obtain ⟨rfl, rfl⟩ := ok_inj hk2
          have hle2 := ext_le (γ := γ) (L := L) (hs.nx s.next (Nat.le_refl _))
          obtain ⟨hstp, hsim⟩ := hs.move (w' := w.setRow L.b (cur.toList.take (n * es) ++ news ++ cur.toList.drop (n * es + news.length)).toArray) hrow hL rfl
            (o := .row e (appL old cs)) (fun b hb => setRow_other w L.b b _ hb) (setRow_size _ _ _) rfl rfl rfl (by
              refine ⟨_, setRow_heap w L.b cur _ e _ hc, ho0, ?_, hes', ?_, ?_, fun v' hv' => ?_⟩
              rotate_right
              · simp only [List.append_assoc, List.mem_append] at hv'
                rcases hv' with hv' | hv' | hv'
                · exact hall _ (List.mem_of_mem_take hv')
                · exact h1n _ hv'
                · exact hall _ (List.mem_of_mem_drop hv')
              · simp; omega
              · rw [appL_eq, List.length_append, a1]
                simp only [List.size_toArray, List.length_append, List.length_take, List.length_drop, Array.length_toList]
                omega
              · intro k u hku
                rw [appL_eq] at hku
                obtain ⟨u', hu', hRu⟩ := (hRo.append hRn).get hku
                have hone : u'.oneCell' = true := by
                  rcases List.mem_append.1 (List.mem_of_getElem? hu') with hm | hm
                  · exact h1o _ hm
                  · exact h1n _ hm
                refine ⟨u', ?_, hRu.mono hle2, hone⟩
                rw [List.getElem?_toArray]
                by_cases hkn : k < n * es
                · rw [List.getElem?_append_left (by rw [e1]; exact hkn)] at hu'
                  have hcu := hco k u' hu'
                  rw [addr_add, ho0, hj] at hcu
                  simp [World.cell?, hc] at hcu
                  rw [List.append_assoc, List.getElem?_append_left (by simp; omega), List.getElem?_take, if_pos hkn]
                  simpa using hcu
                · rw [List.getElem?_append_right (by rw [e1]; exact Nat.le_of_not_lt hkn), e1] at hu'
                  have hkl : k - n * es < news.length := (List.getElem?_eq_some_iff.1 hu').1
                  have htl : (cur.toList.take (n * es)).length = n * es := by rw [List.length_take, Array.length_toList]; exact Nat.min_eq_left (by omega)
                  rw [List.append_assoc, List.getElem?_append_right (by rw [htl]; omega), htl, List.getElem?_append_left hkl]
                  exact hu')
          refine ⟨_, _, hstp, hsim, .inl ⟨_, hrunb hxv hrun, ?_⟩⟩
          rw [hj]
          have hnx : (s.put r .dead).next = s.next := St.next_put _ _ _
          rw [hnx]
          exact .slu s.next 0 (n + m) cc L (ext_same _ _ _) hroom hcs.2 (fun _ => hcs.1)
        · obtain ⟨hq1, hq2⟩ := hs.kill (r := r) (by assumption)
          exact grow (by omega) hbm _ hq2 hq1 hk2
    · obtain ⟨hbound, hk⟩ := gd_ok hk
      obtain ⟨rfl, rfl⟩ := ok_inj hk
      have hbm := Nat.le_of_ble_eq_true hbound
      generalize hxx : ρ x = vx at h1
      cases h1
      have hmb : m * i.bytes ≤ 1000000 * 4096 := by rw [hib]; exact Nat.mul_le_mul hbm hbl
      have hrun := fun ty => run_append_nil (P := P) w T ty e i zv hu hi hzz ad m c' news hln hcell (by omega) (by omega) (by omega)
      obtain ⟨hst, hsim⟩ := newRow_pre hs.drew e cs (news.toArray ++ Builtin.zeroCells zv.cells (grownCap w m 0 e - m)) news es hes hRn h1n
        (fun k u hk => by rw [Array.getElem?_append_left (by have := (List.getElem?_eq_some_iff.1 hk).1; simpa using this)]; simpa using hk) (by simp) (by
            intro u hu
            simp only [Array.toList_append, List.mem_append] at hu
            rcases hu with hu | hu
            · exact h1n u hu
            · exact hz1 _ u hu)
      refine ⟨_, _, Stp.drew.trans hst, hsim, .inl ⟨_, hrunb hxx hrun, ?_⟩⟩
      refine .slu s.next 0 m _ _ (ext_same _ _ _) (grownCap_ge _ _ _ _) (grownCap_le_maxLen _ _ _ _ (by unfold maxLen; omega)) (fun _ => ?_)
      have hge := grownCap_ge w m 0 e
      simp only [Array.size_append, List.size_toArray, size_zeroCells, hln, his, hzs]
      rw [← Nat.add_mul]
      exact Nat.mul_le_mul_right _ (by omega)
    · cases hk
    · obtain ⟨c, rfl, hk⟩ := opt_ok hk
      obtain ⟨bz, oz, cc, cz, zs, hxx, hbz, g1, g3, g4, hnc, hck, g5⟩ := fzV h1
      have hcc := hck c rfl
      subst hcc
      change (Bool.rec (Option.rec .fail (fun old => appNew e (n + m) (appL old cs) s) (takeL (Nat.mul n es) l0)) .fail (Nat.ble (n + m) cc) : RV) = .ok v s' at hk
      cases hb : Nat.ble (n + m) cc with
      | true => rw [hb] at hk; cases hk
      | false =>
        rw [hb] at hk
        obtain ⟨old, hold, hk⟩ := opt_ok hk
        obtain ⟨olds, e1, g2, hRo, h1o⟩ := fz_take (k := 0) hs hbz g1 g3 g4 hold
        rw [Nat.add_zero] at g2
        obtain ⟨hbd, hk⟩ := gd_ok hk
        have hnle : ¬ (n + m ≤ cc) := fun e => by rw [Nat.ble_eq_true_of_le e] at hb; cases hb
        exact grow _ n cc old olds hxx (by rw [his]; exact e1) (fz_cells hs hbz g2) hRo h1o (by omega) (Nat.le_of_ble_eq_true hbd) s hs (.refl _ _ _) hk
end
end Go.AM
