/-
  THE ABSTRACT MACHINE: maps with numbers for keys. Plain lemmas.
-/
import Derived.Test.YtnnbibnobmegpaaAMOps8
set_option linter.unusedVariables false
set_option linter.unusedSimpArgs false
namespace Go.AM
section
variable {P : Program} {γ : Gam} {s : St} {w : World} {t : AT} {ρ : Operand → Value}

abbrev EntR (γ : Gam) (x : AV × AV × Nat) (m : MapEntry) : Prop := VR γ x.1 m.key ∧ VR γ x.2.1 m.val ∧ m.born = x.2.2

theorem eqKey_some {a b : AV} {c : Bool} (h : eqKey a b = some c) : ∃ k x y, a = .int k x ∧ b = .int k y ∧ c = (x == y) := by
  unfold eqKey at h
  split at h
  · rename_i k x k' y
    cases hk : eqK k k' with
    | false => rw [hk] at h; cases h
    | true => rw [hk] at h; cases h; cases kCode_inj hk; exact ⟨k, x, y, rfl, rfl, eqI_eq _ _⟩
  · cases h

theorem find_none {kk : IntKind} {k : AV} {k' : Value} (hk : VR γ k k') : ∀ {es : List (AV × AV × Nat)} {ms : List MapEntry} (i : Nat), All2 (EntR γ) es ms → findK k es = some none → Instr.findNow (.int kk) k' ms i = some none := by
  intro es
  induction es with
  | nil => intro ms i h _; cases h; rfl
  | cons x es ih =>
    intro ms i h hf
    cases h with
    | @cons _ m _ ms' h1 h2 =>
      obtain ⟨xk, xv, xb⟩ := x
      simp only [findK] at hf
      cases he : eqKey k xk with
      | none => rw [he] at hf; cases hf
      | some c =>
        rw [he] at hf
        obtain ⟨q, a, b, rfl, rfl, hc⟩ := eqKey_some he
        have e1 := intV hk
        have e2 := intV h1.1
        cases c with
        | true => cases hf
        | false =>
          simp only [Instr.findNow, e1, e2, Instr.sameNow, if_true, ← hc]
          rw [← e1]; exact ih (i + 1) h2 hf

theorem find_some {kk : IntKind} {k v : AV} {k' : Value} (hk : VR γ k k') : ∀ {es : List (AV × AV × Nat)} {ms : List MapEntry} (i : Nat), All2 (EntR γ) es ms → findK k es = some (some v) →
    ∃ j m, Instr.findNow (.int kk) k' ms i = some (some (i + j, m.val)) ∧ ms[j]? = some m ∧ m.key = k' ∧ (∃ q a, k' = .int q a) ∧ VR γ v m.val ∧
      (∀ x x' , VR γ x x' → All2 (EntR γ) (setK k x es) (ms.set j { m with key := k', val := x' })) ∧ All2 (EntR γ) (delK k es) (ms.eraseIdx j) := by
  intro es
  induction es with
  | nil => intro ms i _ hf; cases hf
  | cons x es ih =>
    intro ms i h hf
    cases h with
    | @cons _ m _ ms' h1 h2 =>
      obtain ⟨xk, xv, xb⟩ := x
      simp only [findK] at hf
      cases he : eqKey k xk with
      | none => rw [he] at hf; cases hf
      | some c =>
        rw [he] at hf
        obtain ⟨q, a, b, rfl, rfl, hc⟩ := eqKey_some he
        have e1 := intV hk
        have e2 := intV h1.1
        cases c with
        | true =>
          cases hf
          have hab : a = b := by simpa using hc.symm
          subst hab
          refine ⟨0, m, ?_, by simp, by rw [e1, e2], ⟨q, a, e1⟩, h1.2.1, ?_, ?_⟩
          · simp [Instr.findNow, e1, e2, Instr.sameNow]
          · intro x x' hx
            simp only [setK, he, List.set_cons_zero]
            exact .cons ⟨hk, hx, h1.2.2⟩ h2
          · simp only [delK, he, List.eraseIdx_cons_zero]; exact h2
        | false =>
          obtain ⟨j, m', r1, r2, r3, r4, r5, r6, r7⟩ := ih (i + 1) h2 hf
          refine ⟨j + 1, m', ?_, by simpa using r2, r3, r4, r5, ?_, ?_⟩
          · simp only [Instr.findNow, e1, e2, Instr.sameNow, if_true, ← hc]
            rw [← e1, r1]
            congr 3
            omega
          · intro x x' hx
            simp only [setK, he, List.set_cons_succ]
            exact .cons h1 (r6 x x' hx)
          · simp only [delK, he, List.eraseIdx_cons_succ]
            exact .cons h1 r7

theorem mapAt_some {r c : Nat} {es : List (AV × AV × Nat)} (h : mapAt r s = some (es, c)) : s.get r = some (.map es c) := by
  unfold mapAt at h
  cases hg : s.get r with
  | none => rw [hg] at h; cases h
  | some o => rw [hg] at h; cases o <;> first | (cases h; rfl) | cases h

theorem run_checkKey {kt : Nat} {kk : IntKind} (hu : P.underlying kt = some (.int kk)) (b : Bool) (v : Value) : (Instr.checkKey b 10000 kt v).run P w = .ok () w := by
  show (Instr.checkKey b (9999 + 1) kt v).run P w = _
  unfold Instr.checkKey
  simp only [Sem.run_bind, run_underlying hu, Result.andThen_ok]
  rfl
theorem run_findKey {kt : Nat} {kk : IntKind} (hu : P.underlying kt = some (.int kk)) {k : Value} {ms : List MapEntry} {r : Option (Nat × Value)} (h : Instr.findNow (.int kk) k ms 0 = some r) : (Instr.findKey kt k ms).run P w = .ok r w := by
  simp only [Instr.findKey, Sem.run_bind, run_underlying hu, Result.andThen_ok, h, Sem.run_pure]
theorem run_getObj_map {r c : Nat} {ms : Array MapEntry} (h : w.heap[r]? = some (.map ms c)) : (getObj r).run P w = .ok (.map ms c) w := by
  simp [getObj, Sem.run, h]
theorem run_setObj_map {r c : Nat} {ms : Array MapEntry} (o : Obj) (h : w.heap[r]? = some (.map ms c)) : (setObj r o).run P w = .ok () { w with heap := w.heap.setIfInBounds r o } := by
  simp [setObj, Sem.run, h]

theorem turnObj (hs : Sim P γ s w) {r : Nat} {L : Loc} {x o : AObj} {O : Obj} (hx : s.get r = some x) (hL : γ r = some L) (ha : alive x = true) (ho : ObjR P γ L o (w.heap.setIfInBounds L.b O)) :
    Stp γ s w γ (s.put r o) { w with heap := w.heap.setIfInBounds L.b O } ∧ Sim P γ (s.put r o) { w with heap := w.heap.setIfInBounds L.b O } :=
  hs.turn hx hL ha (fun b hb => by show (w.heap.setIfInBounds L.b O)[b]? = _; rw [Array.getElem?_setIfInBounds, if_neg (fun e => hb e.symm)]) (by simp) rfl rfl rfl ho

theorem mkmap_fresh {o : Oper} {ty : Nat} {v : AV} {s' : St} (ho : o.op = .makeMap ty none) (h : mkmapA t s = .ok v s') : Fresh P γ w ρ o s v s' := by
  obtain ⟨rfl, rfl⟩ := ok_inj h
  refine ⟨.map [] 0, .map, .map #[] 0, 0, 0, .map (some w.heap.size), rfl, rfl, ?_, fun γ' r hle hr => ⟨⟨#[], by show (w.heap.push _)[w.heap.size]? = _; simp, .nil⟩, .map r _ hr⟩⟩
  simp only [execOp, ho, Instr.makeMap, Option.map_none, Sem.run_bind, run_new', Result.andThen_ok, Sem.run_pure]

theorem lenm_sound (hs : Sim P γ s w) {o : Oper} {T kt e : Nat} {x : Operand} {a : AO} {v : AV} {s' : St} (hu : P.underlying T = some (.map kt e)) (hx : aop x = some a) (ho : o.op = .call { callee := .builtin .len, args := #[x], argTypes := #[T] }) (he : Evs γ t ρ [x])
    (h : lenmA a t s = .ok v s') : OpOk P γ s w ρ o v s' := by
  obtain ⟨u, hu', h⟩ := wth_ok h
  have hv := he x (by simp) a u hx hu'
  rcases map_ok h with ⟨r, rfl, hk⟩ | ⟨rfl, hk⟩
  · obtain ⟨⟨es, c⟩, hm, hk⟩ := opt_ok hk
    obtain ⟨rfl, rfl⟩ := ok_inj hk
    generalize hxx : ρ x = vx at hv
    cases hv with
    | map _ L hL =>
      obtain ⟨ms, hms, hR⟩ := hs.obj r _ L (mapAt_some hm) hL
      refine OpOk.still hs (.int .i64 ms.size) ?_ ?_
      · rw [run_call_builtin ho]
        have hl : ∀ ty, (Builtin.len_ #[T] ty #[.map (some L.b)]).run P w = .ok (goInt ms.size) w := fun ty => by simp [Builtin.len_, run_underlying hu, run_getObj_map hms]
        simp only [builtin, List.map_toArray, List.map_cons, List.map_nil, hxx, Sem.run_bind, hl, Result.andThen_ok, Sem.run_pure]
        rfl
      · have := hR.length
        simp at this
        rw [lenL_eq, this]; exact .int _ _
  · obtain ⟨rfl, rfl⟩ := ok_inj hk
    generalize hxx : ρ x = vx at hv
    cases hv
    refine OpOk.still hs (.int .i64 (0 : Nat)) ?_ (.int _ _)
    rw [run_call_builtin ho]
    have hl : ∀ ty, (Builtin.len_ #[T] ty #[.map none]).run P w = .ok (goInt (0 : Nat)) w := fun ty => by simp [Builtin.len_, run_underlying hu]
    simp only [builtin, List.map_toArray, List.map_cons, List.map_nil, hxx, Sem.run_bind, hl, Result.andThen_ok, Sem.run_pure]
    rfl

theorem sameBits_int (q : IntKind) (a : Int) : Instr.sameBits 10000 (.int q a) (.int q a) = true := by simp [Instr.sameBits]

theorem mset_sound (hs : Sim P γ s w) {o : Oper} {ty kt e : Nat} {kk : IntKind} {x y z : Operand} {a b c : AO} {v : AV} {s' : St} (hd : o.dst = none) (hu : P.underlying ty = some (.map kt e)) (hku : P.underlying kt = some (.int kk)) (hx : aop x = some a) (hy : aop y = some b) (hz : aop z = some c)
    (ho : o.op = .mapUpdate ty x y z ∨ o.op = .insert ty x y z) (he : Evs γ t ρ [x, y, z]) (h : msetA a b c t s = .ok v s') : OpOk P γ s w ρ o v s' := by
  obtain ⟨u1, hu1, h⟩ := wth_ok h
  obtain ⟨u2, hu2, h⟩ := wth_ok h
  obtain ⟨u3, hu3, h⟩ := wth_ok h
  have h1 := he x (by simp) a u1 hx hu1
  have h2 := he y (by simp) b u2 hy hu2
  have h3 := he z (by simp) c u3 hz hu3
  rcases map_ok h with ⟨r, rfl, hk⟩ | ⟨rfl, hk⟩
  · obtain ⟨⟨es, cl⟩, hm, hk⟩ := opt_ok hk
    obtain ⟨f, hf, hk⟩ := opt_ok hk
    have hg := mapAt_some hm
    obtain ⟨L, hL, hxv⟩ : ∃ L, γ r = some L ∧ ρ x = .map (some L.b) := by
      generalize ρ x = vx at h1
      cases h1 with
      | map _ L hL => exact ⟨L, hL, rfl⟩
    obtain ⟨ms, hms, hR⟩ := hs.obj r _ L hg hL
    have hlt := hs.lt r L hL
    cases f with
    | none =>
      obtain ⟨rfl, rfl⟩ := ok_inj hk
      have hfn := find_none (kk := kk) h2 0 hR hf
      obtain ⟨hst, hsim⟩ := turnObj (O := .map (ms.push { key := ρ y, val := ρ z, born := cl }) (cl + 1)) (o := .map (appL es [(u2, u3, cl)]) (cl + 1)) hs hg hL rfl
        ⟨_, by rw [Array.getElem?_setIfInBounds, if_pos rfl, if_pos hlt], by rw [appL_eq, Array.toList_push]; exact hR.append (.cons ⟨h2, h3, rfl⟩ .nil)⟩
      refine ⟨γ, _, hst, hsim, .inr ⟨?_, hd⟩⟩
      rcases ho with ho | ho <;>
        simp only [execOp, ho, Instr.mapUpdate, Sem.run_bind, run_underlying hu, Result.andThen_ok, hxv, run_getObj_map hms, run_checkKey hku, run_findKey hku hfn, run_setObj_map _ hms, Sem.run_pure]
    | some w0 =>
      obtain ⟨rfl, rfl⟩ := ok_inj hk
      obtain ⟨j, m, r1, r2, r3, ⟨q, n, r4⟩, r5, r6, r7⟩ := find_some (kk := kk) h2 0 hR hf
      rw [Nat.zero_add] at r1
      have hjl : j < ms.size := by have := (List.getElem?_eq_some_iff.1 r2).1; simpa using this
      have hjm : ms[j]? = some m := by simpa using r2
      obtain ⟨hst, hsim⟩ := turnObj (O := .map (ms.modify j fun e => { e with key := ρ y, val := ρ z }) cl) (o := .map (setK u2 u3 es) cl) hs hg hL rfl
        ⟨_, by rw [Array.getElem?_setIfInBounds, if_pos rfl, if_pos hlt], by
          have e1 : (ms.modify j fun e => { e with key := ρ y, val := ρ z }).toList = ms.toList.set j { m with key := ρ y, val := ρ z } := by
            apply List.ext_getElem?
            intro k
            rw [Array.getElem?_toList, Array.getElem?_modify, List.getElem?_set]
            by_cases hjk : j = k
            · subst hjk
              have hmj : ms[j] = m := by
                have h0 := hjm
                rw [Array.getElem?_eq_getElem hjl] at h0
                exact Option.some.inj h0
              simp [hjl, hmj]
            · simp [hjk]
          rw [e1]; exact r6 _ _ h3⟩
      refine ⟨γ, _, hst, hsim, .inr ⟨?_, hd⟩⟩
      have hks : (Instr.keyThatStays (((ms[j]?).map (·.key)).getD (ρ y)) (ρ y)).run P w = .ok (ρ y) w := by
        simp only [hjm, Option.map_some, Option.getD_some, r3, Instr.keyThatStays, r4, sameBits_int, if_true, Sem.run_pure]
      rcases ho with ho | ho <;>
        simp only [execOp, ho, Instr.mapUpdate, Sem.run_bind, run_underlying hu, Result.andThen_ok, hxv, run_getObj_map hms, run_checkKey hku, run_findKey hku r1, hks, run_setObj_map _ hms, Sem.run_pure]
  · cases hk

theorem mget_sound (hs : Sim P γ s w) {o : Oper} {ty kt e : Nat} {kk : IntKind} {x y : Operand} {a b : AO} {i : TypeInfo} {zv : Value} {z v : AV} {ok : Bool} {s' : St} (hu : P.underlying ty = some (.map kt e)) (hku : P.underlying kt = some (.int kk)) (hi : P.info? e = some i) (hzz : i.zero = some zv) (hz : av1 zv = some z)
    (hx : aop x = some a) (hy : aop y = some b) (ho : o.op = .lookup ty x y ok) (he : Evs γ t ρ [x, y]) (h : mgetA z ok a b t s = .ok v s') : OpOk P γ s w ρ o v s' := by
  obtain ⟨u1, hu1, h⟩ := wth_ok h
  obtain ⟨u2, hu2, h⟩ := wth_ok h
  have h1 := he x (by simp) a u1 hx hu1
  have h2 := he y (by simp) b u2 hy hu2
  have hzR := (av1_VR (γ := γ) hz).1
  rcases map_ok h with ⟨r, rfl, hk⟩ | ⟨rfl, hk⟩
  · obtain ⟨⟨es, cl⟩, hm, hk⟩ := opt_ok hk
    obtain ⟨f, hf, hk⟩ := opt_ok hk
    have hg := mapAt_some hm
    obtain ⟨L, hL, hxv⟩ : ∃ L, γ r = some L ∧ ρ x = .map (some L.b) := by
      generalize ρ x = vx at h1
      cases h1 with
      | map _ L hL => exact ⟨L, hL, rfl⟩
    obtain ⟨ms, hms, hR⟩ := hs.obj r _ L hg hL
    cases f with
    | none =>
      obtain ⟨rfl, rfl⟩ := ok_inj hk
      have hfn := find_none (kk := kk) h2 0 hR hf
      refine OpOk.still hs (if ok then .tuple #[zv, .bool false] else zv) ?_ ?_
      · simp only [execOp, ho, Instr.lookup, Sem.run_bind, run_underlying hu, Result.andThen_ok, hxv, run_getObj_map hms, Sem.run_pure, run_checkKey hku, run_findKey hku hfn, run_zeroValue hi hzz]
      · cases ok
        · exact hzR
        · exact .tup _ _ (.cons hzR (.cons (.bool _) .nil))
    | some w0 =>
      obtain ⟨rfl, rfl⟩ := ok_inj hk
      obtain ⟨j, m, r1, r2, r3, _, r5, _, _⟩ := find_some (kk := kk) h2 0 hR hf
      refine OpOk.still hs (if ok then .tuple #[m.val, .bool true] else m.val) ?_ ?_
      · simp only [execOp, ho, Instr.lookup, Sem.run_bind, run_underlying hu, Result.andThen_ok, hxv, run_getObj_map hms, Sem.run_pure, run_checkKey hku, run_findKey hku r1]
      · cases ok
        · exact r5
        · exact .tup _ _ (.cons r5 (.cons (.bool _) .nil))
  · obtain ⟨rfl, rfl⟩ := ok_inj hk
    generalize hxx : ρ x = vx at h1
    cases h1
    refine OpOk.still hs (if ok then .tuple #[zv, .bool false] else zv) ?_ ?_
    · have hfn : Instr.findNow (.int kk) (ρ y) [] 0 = some none := rfl
      simp only [execOp, ho, Instr.lookup, Sem.run_bind, run_underlying hu, Result.andThen_ok, hxx, Sem.run_pure, run_checkKey hku, run_findKey hku hfn, run_zeroValue hi hzz]
    · cases ok
      · exact hzR
      · exact .tup _ _ (.cons hzR (.cons (.bool _) .nil))

theorem mdel_sound (hs : Sim P γ s w) {o : Oper} {T U kt e : Nat} {kk : IntKind} {x y : Operand} {a b : AO} {v : AV} {s' : St} (hu : P.underlying T = some (.map kt e)) (hku : P.underlying kt = some (.int kk)) (hx : aop x = some a) (hy : aop y = some b)
    (ho : o.op = .call { callee := .builtin .delete, args := #[x, y], argTypes := #[T, U] }) (he : Evs γ t ρ [x, y]) (h : mdelA a b t s = .ok v s') : OpOk P γ s w ρ o v s' := by
  obtain ⟨u1, hu1, h⟩ := wth_ok h
  obtain ⟨u2, hu2, h⟩ := wth_ok h
  have h1 := he x (by simp) a u1 hx hu1
  have h2 := he y (by simp) b u2 hy hu2
  rcases map_ok h with ⟨r, rfl, hk⟩ | ⟨rfl, hk⟩
  · obtain ⟨⟨es, cl⟩, hm, hk⟩ := opt_ok hk
    obtain ⟨f, hf, hk⟩ := opt_ok hk
    obtain ⟨rfl, rfl⟩ := ok_inj hk
    have hg := mapAt_some hm
    obtain ⟨L, hL, hxv⟩ : ∃ L, γ r = some L ∧ ρ x = .map (some L.b) := by
      generalize ρ x = vx at h1
      cases h1 with
      | map _ L hL => exact ⟨L, hL, rfl⟩
    obtain ⟨ms, hms, hR⟩ := hs.obj r _ L hg hL
    have hlt := hs.lt r L hL
    have fin : ∀ (ms' : Array MapEntry), All2 (EntR γ) (delK u2 es) ms'.toList → (∀ ty, (Builtin.delete_ #[T, U] ty #[.map (some L.b), ρ y]).run P w = .ok (.tuple #[]) { w with heap := w.heap.setIfInBounds L.b (.map ms' cl) }) → OpOk P γ s w ρ o (.tup []) (s.put r (.map (delK u2 es) cl)) := by
      intro ms' hR' hrun
      obtain ⟨hst, hsim⟩ := turnObj (O := .map ms' cl) (o := .map (delK u2 es) cl) hs hg hL rfl ⟨_, by rw [Array.getElem?_setIfInBounds, if_pos rfl, if_pos hlt], hR'⟩
      refine ⟨γ, _, hst, hsim, .inl ⟨.tuple #[], ?_, .tup _ _ .nil⟩⟩
      rw [run_call_builtin ho]
      simp only [builtin, List.map_toArray, List.map_cons, List.map_nil, hxv, Sem.run_bind, hrun, Result.andThen_ok, Sem.run_pure]
    cases f with
    | none =>
      have hfn := find_none (kk := kk) h2 0 hR hf
      have hdel : ∀ {es : List (AV × AV × Nat)}, findK u2 es = some none → delK u2 es = es := by
        intro es
        induction es with
        | nil => intro _; rfl
        | cons x es ih =>
          intro hf
          obtain ⟨xk, xv, xb⟩ := x
          simp only [findK] at hf
          simp only [delK]
          cases he : eqKey u2 xk with
          | none => rw [he] at hf; cases hf
          | some c => cases c with
            | true => rw [he] at hf; cases hf
            | false => rw [he] at hf; simp [ih hf]
      refine fin ms (by rw [hdel hf]; exact hR) fun ty => ?_
      simp only [Builtin.delete_, List.getElem?_toArray, List.getElem?_cons_zero, List.getElem?_cons_succ, Sem.run_bind, run_underlying hu, Result.andThen_ok, run_getObj_map hms, run_checkKey hku, run_findKey hku hfn, run_setObj_map _ hms, Sem.run_pure]
    | some w0 =>
      obtain ⟨j, m, r1, r2, r3, _, r5, _, r7⟩ := find_some (kk := kk) h2 0 hR hf
      rw [Nat.zero_add] at r1
      refine fin (ms.eraseIdxIfInBounds j) (by simpa using r7) fun ty => ?_
      simp only [Builtin.delete_, List.getElem?_toArray, List.getElem?_cons_zero, List.getElem?_cons_succ, Sem.run_bind, run_underlying hu, Result.andThen_ok, run_getObj_map hms, run_checkKey hku, run_findKey hku r1, run_setObj_map _ hms, Sem.run_pure]
  · cases hk
end
end Go.AM
