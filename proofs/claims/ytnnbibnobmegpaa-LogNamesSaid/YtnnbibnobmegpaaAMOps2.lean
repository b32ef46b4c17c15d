/-
  THE ABSTRACT MACHINE: each operation of the model does what the machine's does (second part). Plain lemmas.
-/
import Derived.Test.YtnnbibnobmegpaaAMOps1
set_option linter.unusedVariables false
set_option linter.unusedSimpArgs false
namespace Go.AM
section
variable {P : Program} {γ : Gam} {s : St} {w : World} {t : AT} {ρ : Operand → Value}

/-! literals -/
theorem fold_set : ∀ (vs : List Value) (off : Nat) (cells : Array Value) (k : Nat), off + k + vs.length ≤ cells.size →
    (vs.zipIdx k).foldl (fun (cs : Array Value) (x : Value × Nat) => cs.setIfInBounds (off + x.2) x.1) cells = (cells.toList.take (off + k) ++ vs ++ cells.toList.drop (off + k + vs.length)).toArray
  | [], off, cells, k, _ => by simp
  | v :: vs, off, cells, k, h => by
    simp only [List.zipIdx_cons, List.foldl_cons]
    rw [fold_set vs off _ (k + 1) (by simp at h ⊢; omega)]
    congr 1
    simp only [List.length_cons] at h
    apply List.ext_getElem?
    intro i
    simp only [Array.toList_setIfInBounds]
    by_cases h1 : i < off + k
    · rw [List.append_assoc, List.append_assoc, List.getElem?_append_left (by simp; omega), List.getElem?_append_left (by simp; omega), List.getElem?_take, List.getElem?_take, if_pos (by omega), if_pos h1, List.getElem?_set]
      rw [if_neg (by omega)]
    · by_cases h2 : i = off + k
      · subst h2
        rw [List.append_assoc, List.getElem?_append_left (by simp; omega), List.getElem?_take, if_pos (by omega), List.getElem?_set]
        rw [List.append_assoc, List.getElem?_append_right (by simp; omega), if_pos rfl]
        simp only [List.length_take, Array.length_toList]
        rw [Nat.min_eq_left (by omega), if_pos (by omega)]
        simp
      · by_cases h3 : i < off + k + 1 + vs.length
        · rw [List.append_assoc, List.getElem?_append_right (by simp; omega), List.getElem?_append_left (by simp; omega)]
          rw [List.append_assoc, List.getElem?_append_right (by simp; omega), List.getElem?_append_left (by simp; omega)]
          simp only [List.length_take, List.length_set, Array.length_toList]
          rw [Nat.min_eq_left (by omega), Nat.min_eq_left (by omega), show i - (off + k) = (i - (off + (k + 1))) + 1 by omega]
          simp
        · rw [List.getElem?_append_right (by simp; omega), List.getElem?_append_right (by simp; omega), List.getElem?_drop, List.getElem?_drop, List.getElem?_set]
          simp only [List.length_append, List.length_take, List.length_set, Array.length_toList, List.length_cons]
          rw [if_neg (by omega)]
          congr 1
          omega

/-- the model's 'fill' does what the machine's does -/
theorem fill_sound (place : Nat → Option (Nat × Nat)) (ps : List (Nat × Operand)) : ∀ (as : List (Nat × Nat × AO)) (z z' : List AV) (zv : Array Value),
    (∀ x ∈ ps.map (·.2), ∀ a v, aop x = some a → ev a t = .some v → VR γ v (ρ x)) →
    All2 (fun (p : Nat × Operand) (q : Nat × Nat × AO) => aop p.2 = some q.2.2 ∧ place p.1 = some (q.1, q.2.1) ∧ 1 ≤ q.2.1) ps as →
    fill t as z = some z' → All2 (VR γ) z zv.toList → (∀ v ∈ zv.toList, v.oneCell' = true) →
    ∃ zv' : Array Value, Instr.fill place zv (ps.map fun (p : Nat × Operand) => (p.1, ρ p.2)) = some zv' ∧ All2 (VR γ) z' zv'.toList ∧ (∀ v ∈ zv'.toList, v.oneCell' = true) := by
  induction ps with
  | nil => intro as z z' zv _ ha hf hz h1; cases ha; cases hf; exact ⟨zv, rfl, hz, h1⟩
  | cons p ps ih =>
    intro as z z' zv hev ha hf hz h1
    cases ha with
    | @cons _ q _ qs hq hqs =>
      obtain ⟨hq1, hq2, hq3⟩ := hq
      change (OV.rec none (fun v => Bool.rec none (Option.rec none (fun z' => fill t qs z') (upd (cellsOf v) q.1 z)) (Nat.beq (lenL (cellsOf v)) q.2.1)) (ev q.2.2 t) : Option (List AV)) = some z' at hf
      cases hv : ev q.2.2 t with
      | none => rw [hv] at hf; cases hf
      | some v =>
        rw [hv] at hf
        dsimp only at hf
        cases hb : Nat.beq (lenL (cellsOf v)) q.2.1 with
        | false => rw [hb] at hf; cases hf
        | true =>
          rw [hb] at hf
          dsimp only at hf
          cases hu : upd (cellsOf v) q.1 z with
          | none => rw [hu] at hf; cases hf
          | some z1 =>
            rw [hu] at hf
            dsimp only at hf
            have hvr := hev p.2 (by simp) _ _ hq1 hv
            obtain ⟨n, hn⟩ : ∃ n, q.2.1 = n + 1 := ⟨q.2.1 - 1, by omega⟩
            obtain ⟨c1, c2⟩ := cellsOf_VR (n := n) hvr (by rw [← hn]; exact hb)
            obtain ⟨e1, hle⟩ := upd_some _ _ hu
            have hlen := c1.length
            have hl2 : (cellsOf v).length = q.2.1 := by have := Nat.eq_of_beq_eq_true hb; rwa [lenL_eq] at this
            have hzl := hz.length
            simp only [Array.length_toList] at hlen hzl
            have hfold := fold_set (ρ p.2).cells.toList q.1 zv 0 (by simp; omega)
            obtain ⟨zv', r1, r2, r3⟩ := ih qs z1 z' (zv.toList.take q.1 ++ (ρ p.2).cells.toList ++ zv.toList.drop (q.1 + (ρ p.2).cells.toList.length)).toArray
              (fun x hx => hev x (by simp at hx ⊢; exact .inr hx)) hqs hf
              (by subst e1; show All2 _ _ (_ ++ _ ++ _); rw [← c1.length]; exact ((hz.take _).append c1).append (hz.drop _))
              (by
                intro u hu
                simp only [List.mem_append] at hu
                rcases hu with (hu | hu) | hu
                · exact h1 u (List.mem_of_mem_take hu)
                · exact c2 u hu
                · exact h1 u (List.mem_of_mem_drop hu))
            refine ⟨zv', ?_, r2, r3⟩
            simp only [List.map_cons, Instr.fill, hq2]
            rw [if_neg (by simp; omega)]
            rw [← r1]
            congr 1
            have hz0 : (ρ p.2).cells.zipIdx = (((ρ p.2).cells.toList.zipIdx 0).toArray) := by
              apply Array.ext'; simp
            rw [hz0, List.foldl_toArray]
            simpa using hfold

theorem partsS_all {fs : Array Field} : ∀ {ps : List (Nat × Operand)} {as : List (Nat × Nat × AO)}, partsS P fs ps = some as →
    All2 (fun (p : Nat × Operand) (q : Nat × Nat × AO) => aop p.2 = some q.2.2 ∧ (∃ f, fs[p.1]? = some f ∧ q.1 = f.offset ∧ szOf P f.type = some q.2.1) ∧ 1 ≤ q.2.1) ps as
  | [], as, h => by cases h; exact .nil
  | (i, x) :: l, as, h => by
    simp only [partsS] at h
    split at h
    · rename_i f a r h1 h2 h3
      split at h
      · rename_i n h4
        cases h
        exact .cons ⟨h2, ⟨f, h1, rfl, h4⟩, by simp⟩ (partsS_all h3)
      · cases h
    · cases h
theorem partsA_all {es : Nat} (hes : 1 ≤ es) : ∀ {ps : List (Nat × Operand)} {as : List (Nat × Nat × AO)}, partsA es ps = some as →
    All2 (fun (p : Nat × Operand) (q : Nat × Nat × AO) => aop p.2 = some q.2.2 ∧ some (p.1 * es, es) = some (q.1, q.2.1) ∧ 1 ≤ q.2.1) ps as
  | [], as, h => by cases h; exact .nil
  | (i, x) :: l, as, h => by
    simp only [partsA] at h
    split at h
    · rename_i a r h1 h2
      cases h
      exact .cons ⟨h1, rfl, hes⟩ (partsA_all hes h2)
    · cases h

theorem run_places {fs : List Field} : ∀ (w : World), (∀ f ∈ fs, ∃ n, szOf P f.type = some n) →
    (fs.mapM (m := Sem) fun f => do pure (f.offset, ← Go.sizeOf f.type)).run P w = .ok (fs.map fun f => (f.offset, (szOf P f.type).getD 0)) w := by
  induction fs with
  | nil => intro w _; simp
  | cons f fs ih =>
    intro w h
    obtain ⟨n, hn⟩ := h f (by simp)
    simp only [List.mapM_cons, Sem.run_bind, Sem.run_pure, Result.andThen_ok, run_sizeOf hn, ih w (fun g hg => h g (by simp [hg])), hn, List.map_cons, Option.getD_some]

theorem All2.imp2 {α β : Type} {R S : α → β → Prop} {l : List α} {m : List β} (h : All2 R l m) (hi : ∀ a b, R a b → S a b) : All2 S l m := h.imp hi

theorem build_sound (hs : Sim P γ s w) {o : Oper} {ty : Nat} {parts : Array (Nat × Operand)} {z : List AV} {as : List (Nat × Nat × AO)} {v : AV} {s' : St} (hz : zeroOf P ty = some z)
    (hu : (∃ fs, P.underlying ty = some (.struct fs) ∧ (∀ f ∈ fs.toList, ∃ n, szOf P f.type = some n) ∧ partsS P fs parts.toList = some as) ∨
      (∃ n e m, P.underlying ty = some (.array n e) ∧ szOf P e = some (m + 1) ∧ partsA (m + 1) parts.toList = some as))
    (ho : o.op = .build ty parts) (he : Evs γ t ρ (parts.toList.map (·.2))) (h : buildA z as t s = .ok v s') : OpOk P γ s w ρ o v s' := by
  obtain ⟨z', hf, h⟩ := opt_ok h
  obtain ⟨rfl, rfl⟩ := ok_inj h
  obtain ⟨i, zv, hi, hzz, ha⟩ := zeroOf_some hz
  obtain ⟨h1, h2⟩ := avs_VR (γ := γ) ha
  rcases hu with ⟨fs, hu, hsz, hp⟩ | ⟨n, e, m, hu, hm, hp⟩
  · have hall := partsS_all hp
    obtain ⟨zv', r1, r2, r3⟩ := fill_sound (γ := γ) (t := t) (ρ := ρ) (fun i => (fs.map fun f => (f.offset, (szOf P f.type).getD 0))[i]?) parts.toList as z z' zv.cells he
      (hall.imp fun p q ⟨a, ⟨f, b1, b2, b3⟩, c⟩ => ⟨a, by simp [b1, b2, b3], c⟩) hf h1 h2
    refine OpOk.still hs (.agg zv') ?_ (.agg _ _ r2 r3)
    have hpl : (fs.mapM (m := Sem) fun f => do pure (f.offset, ← Go.sizeOf f.type)).run P w = .ok (fs.map fun f => (f.offset, (szOf P f.type).getD 0)) w := by
      rw [Array.mapM_eq_mapM_toList]
      have := run_places (P := P) (fs := fs.toList) w hsz
      simp only [map_eq_pure_bind, Sem.run_bind, this, Result.andThen_ok, Sem.run_pure]
      congr 1
      apply Array.ext'; simp
    simp only [execOp, ho, Instr.build, Sem.run_bind, run_zeroValue hi hzz, run_underlying hu, Result.andThen_ok, hpl, Sem.run_pure, Array.toList_map, r1]
  · have hall := partsA_all (Nat.le_add_left 1 m) hp
    obtain ⟨zv', r1, r2, r3⟩ := fill_sound (γ := γ) (t := t) (ρ := ρ) (fun i => some (i * (m + 1), m + 1)) parts.toList as z z' zv.cells he hall hf h1 h2
    refine OpOk.still hs (.agg zv') ?_ (.agg _ _ r2 r3)
    simp only [execOp, ho, Instr.build, Sem.run_bind, run_zeroValue hi hzz, run_underlying hu, Result.andThen_ok, run_sizeOf hm, Sem.run_pure, Array.toList_map, r1]

theorem run_new' (P : Program) (w : World) (o : Obj) : (newObj o).run P w = .ok w.heap.size (w.alloc o) := rfl
theorem repL_length (z : List AV) : ∀ n, (repL z n).length = n * z.length
  | 0 => by simp [repL]
  | n + 1 => by simp [repL, repL_length z n, Nat.add_mul]; omega

/-- a row of n zero elements, as the model lays it -/
theorem zeros_VR {z : List AV} {zc : Array Value} (h1 : All2 (VR γ) z zc.toList) (h2 : ∀ v ∈ zc.toList, v.oneCell' = true) (hpos : 1 ≤ zc.size) : ∀ n,
    All2 (VR γ) (repL z n) ((Array.range (n * zc.size)).map (fun i => zc[i % zc.size]!)).toList ∧ ∀ v ∈ ((Array.range (n * zc.size)).map (fun i => zc[i % zc.size]!)).toList, v.oneCell' = true := by
  intro n
  have hl : z.length = zc.size := by simpa using h1.length
  have key : ∀ n i, (repL z n)[i]? = if i < n * z.length then z[i % z.length]? else none := by
    intro n
    induction n with
    | zero => intro i; simp [repL]
    | succ n ih =>
      intro i
      simp only [repL]
      by_cases hi : i < z.length
      · rw [List.getElem?_append_left hi, if_pos (by rw [Nat.add_mul]; omega), Nat.mod_eq_of_lt hi]
      · rw [List.getElem?_append_right (by omega), ih]
        by_cases hi2 : i < (n + 1) * z.length
        · rw [if_pos (by rw [Nat.add_mul] at hi2; omega), if_pos hi2]
          rw [Nat.mod_eq_sub_mod (a := i) (by omega)]
        · rw [if_neg (by rw [Nat.add_mul] at hi2; omega), if_neg hi2]
  refine ⟨All2.of_get (by simp [repL_length, hl]) ?_, ?_⟩
  · intro i a b ha hb
    rw [key] at ha
    split at ha
    · rename_i hi
      obtain ⟨b', hb', hR⟩ := h1.get ha
      simp only [Array.toList_map, Array.toList_range, List.getElem?_map] at hb
      rw [List.getElem?_range (by rw [← hl]; exact hi)] at hb
      simp only [Option.map_some, Option.some.injEq] at hb
      subst hb
      rw [← hl]
      have hlt : i % z.length < zc.size := by rw [← hl]; exact Nat.mod_lt _ (by omega)
      rw [getElem!_pos zc (i % z.length) hlt]
      have : zc[i % z.length]? = some b' := by simpa using hb'
      rw [Array.getElem?_eq_getElem hlt] at this
      cases this; exact hR
    · cases ha
  · intro v hv
    simp only [Array.toList_map, Array.toList_range, List.mem_map, List.mem_range] at hv
    obtain ⟨i, hi, rfl⟩ := hv
    have hlt : i % zc.size < zc.size := Nat.mod_lt _ (by omega)
    rw [getElem!_pos zc (i % zc.size) hlt]
    exact h2 _ (by simp)

theorem bsl_fresh {o : Oper} {ty e m n : Nat} {parts : Array (Nat × Operand)} {z : List AV} {as : List (Nat × Nat × AO)} {v : AV} {s' : St} (hu : P.underlying ty = some (.slice e))
    (hm : szOf P e = some m) (hz : zeroOf P e = some z) (h1m : 1 ≤ m) (hzl : z.length = m) (hn : n * m ≤ 16777216) (hp : partsA m parts.toList = some as)
    (ho : o.op = .buildSlice ty n parts) (he : Evs γ t ρ (parts.toList.map (·.2))) (h : bslA e m n (repL z n) as t s = .ok v s') : Fresh P γ w ρ o s v s' := by
  obtain ⟨z', hf, h⟩ := opt_ok h
  obtain ⟨rfl, rfl⟩ := ok_inj h
  obtain ⟨i, zv, hi, hzz, ha⟩ := zeroOf_some hz
  obtain ⟨h1, h2⟩ := avs_VR (γ := γ) ha
  have hzs : zv.cells.size = m := by rw [← hzl]; simpa using h1.length.symm
  obtain ⟨y1, y2⟩ := zeros_VR h1 h2 (by omega) n
  have hall := partsA_all h1m hp
  obtain ⟨zv', r1, r2, r3⟩ := fill_sound (γ := γ) (t := t) (ρ := ρ) (fun i => some (i * m, m)) parts.toList as _ z' _ he hall hf y1 y2
  refine ⟨.row e z', fun r => .sl r 0 n (some n), .cells zv' e, zv'.size, m, .slice (some ⟨w.heap.size, 0, none⟩) n n, rfl, rfl, ?_, fun γ' r hle hr => ⟨rowObj hm r2 r3 hle, .sl r 0 n n _ hr (Nat.le_refl _)⟩⟩
  simp only [execOp, ho, Instr.buildSlice, Sem.run_bind, run_underlying hu, Result.andThen_ok, run_sizeOf hm]
  rw [if_neg (by omega)]
  by_cases h0 : n * m = 0
  · have hrow : (Array.range (n * m)).map (fun x => (#[] : Array Value)[x % (#[] : Array Value).size]!) = (Array.range (n * zv.cells.size)).map (fun i => zv.cells[i % zv.cells.size]!) := by
      rw [hzs, h0]; simp
    simp only [if_pos h0, Sem.run_bind, Sem.run_pure, Result.andThen_ok, hrow, Array.toList_map, r1, newRow, run_new']
  · have hrow : (Array.range (n * m)).map (fun x => zv.cells[x % zv.cells.size]!) = (Array.range (n * zv.cells.size)).map (fun i => zv.cells[i % zv.cells.size]!) := by
      rw [hzs]
    simp only [if_neg h0, Sem.run_bind, Sem.run_pure, run_zeroValue hi hzz, Result.andThen_ok, hrow, Array.toList_map, r1, newRow, run_new']
end
end Go.AM
