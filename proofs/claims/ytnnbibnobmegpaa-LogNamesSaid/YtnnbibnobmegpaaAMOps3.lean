/-
  THE ABSTRACT MACHINE: each operation of the model does what the machine's does (third part). Plain lemmas.
-/
import Derived.Test.YtnnbibnobmegpaaAMOps2
set_option linter.unusedVariables false
set_option linter.unusedSimpArgs false
namespace Go.AM
section
variable {P : Program} {γ : Gam} {s : St} {w : World} {t : AT} {ρ : Operand → Value}

theorem ptrV {r o : Nat} {v' : Value} (h : VR γ (.ptr r o) v') : ∃ L, γ r = some L ∧ v' = .pointer (some ⟨L.b, L.o + o, none⟩) := by
  cases h with
  | ptr _ _ L hL => exact ⟨L, hL, rfl⟩
theorem intV {k : IntKind} {n : Int} {v' : Value} (h : VR γ (.int k n) v') : v' = .int k n := by cases h; rfl
theorem boolV {b : Bool} {v' : Value} (h : VR γ (.bool b) v') : v' = .bool b := by cases h; rfl

theorem ld1_sound (hs : Sim P γ s w) {o : Oper} {ty : Nat} {x : Operand} {a : AO} {v : AV} {s' : St} (hag : aggT P ty = some false) (hx : aop x = some a) (ho : o.op = .load ty x) (he : Evs γ t ρ [x])
    (h : ld1A a t s = .ok v s') : OpOk P γ s w ρ o v s' := by
  obtain ⟨u, hu, h⟩ := wth_ok h
  rcases ptr_ok2 h with ⟨r, i, rfl, h⟩ | ⟨l, rfl, h⟩
  · obtain ⟨hl, rfl⟩ := retO_ok h
    obtain ⟨L, hL, hv⟩ := ptrV (he x (by simp) a _ hx hu)
    obtain ⟨v', hc, hR, _⟩ := load1_sound hs hl hL
    refine OpOk.still hs v' ?_ hR
    simp only [execOp, ho, Instr.loadAt, hv, Instr.sureAddr, Sem.run_bind, Sem.run_pure, Result.andThen_ok, loadVar, run_isAgg hag]
    simp [run_load, hc]
  · obtain ⟨hl, rfl⟩ := retO_ok h
    obtain ⟨b, i, cs, vs, hv, hb, h2, h3, h4, h5⟩ := fpV (he x (by simp) a _ hx hu)
    rw [getL_eq] at hl
    obtain ⟨v', hv', hR⟩ := h4.get hl
    have hc := fz_cell hs hb (h2 0 v' hv')
    refine OpOk.still hs v' ?_ hR
    simp only [execOp, ho, Instr.loadAt, hv, Instr.sureAddr, Sem.run_bind, Sem.run_pure, Result.andThen_ok, loadVar, run_isAgg hag]
    rw [Nat.add_zero] at hc
    simp [run_load, hc]

theorem ldn_sound (hs : Sim P γ s w) {o : Oper} {ty n : Nat} {x : Operand} {a : AO} {v : AV} {s' : St} (hag : aggT P ty = some true) (hn : szOf P ty = some n) (hx : aop x = some a) (ho : o.op = .load ty x) (he : Evs γ t ρ [x])
    (h : ldnA n a t s = .ok v s') : OpOk P γ s w ρ o v s' := by
  obtain ⟨u, hu, h⟩ := wth_ok h
  rcases ptr_ok2 h with ⟨r, i, rfl, h⟩ | ⟨l, rfl, h⟩
  · obtain ⟨cs, hl, h⟩ := opt_ok h
    obtain ⟨rfl, rfl⟩ := ok_inj h
    obtain ⟨L, hL, hv⟩ := ptrV (he x (by simp) a _ hx hu)
    obtain ⟨vs, e1, hc, hR, h1⟩ := load_sound hs hl hL
    have hrun := run_loadCells_list (P := P) w _ vs hc
    rw [e1] at hrun
    refine OpOk.still hs (.agg vs.toArray) ?_ (.agg _ _ hR h1)
    simp only [execOp, ho, Instr.loadAt, hv, Instr.sureAddr, Sem.run_bind, Sem.run_pure, Result.andThen_ok, loadVar, run_isAgg hag, run_sizeOf hn, hrun, if_true]
  · obtain ⟨cs, hl, h⟩ := opt_ok h
    obtain ⟨rfl, rfl⟩ := ok_inj h
    obtain ⟨b, i, cc, vs, hv, hb, h2, h3, h4, h5⟩ := fpV (he x (by simp) a _ hx hu)
    obtain ⟨us, e1, g2, hR, h1⟩ := fz_take (k := 0) hs hb h2 h3 h4 hl
    have hrun := run_loadCells_list (P := P) w _ us (fz_cells hs hb g2)
    rw [e1] at hrun
    refine OpOk.still hs (.agg us.toArray) ?_ (.agg _ _ hR h1)
    rw [Nat.add_zero] at hrun
    simp only [execOp, ho, Instr.loadAt, hv, Instr.sureAddr, Sem.run_bind, Sem.run_pure, Result.andThen_ok, loadVar, run_isAgg hag, run_sizeOf hn, hrun, if_true]

theorem st_sound (hs : Sim P γ s w) {o : Oper} {ty n : Nat} {x y : Operand} {a b : AO} {v : AV} {s' : St} (hd : o.dst = none) (hn : szOf P ty = some (n + 1)) (hx : aop x = some a) (hy : aop y = some b) (ho : o.op = .store ty x y) (he : Evs γ t ρ [x, y])
    (h : stA (n + 1) a b t s = .ok v s') : OpOk P γ s w ρ o v s' := by
  obtain ⟨p, hp, h⟩ := wth_ok h
  obtain ⟨u, hu, h⟩ := wth_ok h
  obtain ⟨r, i, rfl, h⟩ := ptr_ok h
  obtain ⟨hl, h⟩ := gd_ok h
  obtain ⟨hk, rfl⟩ := retS_ok h
  obtain ⟨L, hL, hv⟩ := ptrV (he x (by simp) a _ hx hp)
  obtain ⟨c1, c2⟩ := cellsOf_VR (he y (by simp) b _ hy hu) hl
  obtain ⟨w', hrun, hst, hsim⟩ := store_sound hs hk hL c1 c2
  refine ⟨γ, w', hst, hsim, .inr ⟨?_, hd⟩⟩
  have hsz : (ρ y).cells.size = n + 1 := by
    have e1 := Nat.eq_of_beq_eq_true hl
    rw [lenL_eq] at e1
    have := c1.length
    simp at this
    omega
  simp only [execOp, ho, Instr.storeAt, hv, Instr.sureAddr, Sem.run_bind, Sem.run_pure, Result.andThen_ok, storeVar, run_sizeOf hn, hsz]
  simp [hrun]

theorem nilck_sound (hs : Sim P γ s w) {o : Oper} {x : Operand} {a : AO} {v : AV} {s' : St} (hx : aop x = some a) (ho : o.op = .nilCheck x) (he : Evs γ t ρ [x])
    (h : nilckA a t s = .ok v s') : OpOk P γ s w ρ o v s' := by
  obtain ⟨u, hu, h⟩ := wth_ok h
  have hv := he x (by simp) a u hx hu
  cases hn : isNilV u with
  | true => rw [hn] at h; cases h
  | false =>
    rw [hn] at h
    obtain ⟨rfl, rfl⟩ := ok_inj h
    refine OpOk.still hs (ρ x) ?_ hv
    simp only [execOp, ho]
    generalize ρ x = vx at hv
    cases hv <;> first | rfl | (cases hn)

theorem fa_sound (hs : Sim P γ s w) {o : Oper} {ty f n : Nat} {fs : Array Field} {fd : Field} {x : Operand} {a : AO} {v : AV} {s' : St} (hu : P.underlying ty = some (.struct fs)) (hf : fs[f]? = some fd) (hn : szOf P fd.type = some (n + 1))
    (hx : aop x = some a) (ho : o.op = .fieldAddr ty x f) (he : Evs γ t ρ [x]) (h : faA fd.offset a t s = .ok v s') : OpOk P γ s w ρ o v s' := by
  obtain ⟨u, hu', h⟩ := wth_ok h
  rcases ptr_ok2 h with ⟨r, i, rfl, h⟩ | ⟨l, rfl, h⟩
  · obtain ⟨rfl, rfl⟩ := ok_inj h
    obtain ⟨L, hL, hv⟩ := ptrV (he x (by simp) a _ hx hu')
    refine OpOk.still hs (.pointer (some ⟨L.b, L.o + (i + fd.offset), none⟩)) ?_ (.ptr r _ L hL)
    simp only [execOp, ho, Instr.fieldAt, hv, Instr.sureAddr, Sem.run_bind, Sem.run_pure, Result.andThen_ok, run_underlying hu, hf, fieldPlace, run_sizeOf hn]
    simp [addr_add, Nat.add_assoc]
  · obtain ⟨rfl, rfl⟩ := ok_inj h
    obtain ⟨b, i, cc, vs, hv, hb, h2, h3, h4, h5⟩ := fpV (he x (by simp) a _ hx hu')
    refine OpOk.still hs (.pointer (some ⟨b, i + fd.offset, none⟩)) ?_ (fp_drop hb h2 h3 h4 h5)
    simp only [execOp, ho, Instr.fieldAt, hv, Instr.sureAddr, Sem.run_bind, Sem.run_pure, Result.andThen_ok, run_underlying hu, hf, fieldPlace, run_sizeOf hn]
    simp [addr_add]

theorem part1 {cs : Array Value} {ty off : Nat} {v : Value} (hag : aggT P ty = some false) (h : cs[off]? = some v) : (part ty cs off).run P w = .ok v w := by
  simp [part, run_isAgg hag, h]
theorem partn {cs : Array Value} {ty off n : Nat} (hag : aggT P ty = some true) (hn : szOf P ty = some n) : (part ty cs off).run P w = .ok (.agg (cs.extract off (off + n))) w := by
  simp [part, run_isAgg hag, run_sizeOf hn]

theorem aggV {l : List AV} {v' : Value} (h : VR γ (.agg l) v') : ∃ a, v' = .agg a ∧ All2 (VR γ) l a.toList ∧ ∀ v ∈ a.toList, v.oneCell' = true := by
  cases h with
  | agg _ a h1 h2 => exact ⟨a, rfl, h1, h2⟩

theorem fld1_sound (hs : Sim P γ s w) {o : Oper} {ty f : Nat} {fs : Array Field} {fd : Field} {x : Operand} {a : AO} {v : AV} {s' : St} (hu : P.underlying ty = some (.struct fs)) (hf : fs[f]? = some fd) (hag : aggT P fd.type = some false)
    (hx : aop x = some a) (ho : o.op = .field ty x f) (he : Evs γ t ρ [x]) (h : fld1A fd.offset a t s = .ok v s') : OpOk P γ s w ρ o v s' := by
  obtain ⟨u, hu', h⟩ := wth_ok h
  obtain ⟨l, rfl, h⟩ := agg_ok h
  obtain ⟨hk, rfl⟩ := retO_ok h
  rw [getL_eq] at hk
  obtain ⟨c, hv, hR, _⟩ := aggV (he x (by simp) a _ hx hu')
  obtain ⟨v', hv', hRv⟩ := hR.get hk
  refine OpOk.still hs v' ?_ hRv
  simp only [execOp, ho, Instr.field, hv, Sem.run_bind, Sem.run_pure, Result.andThen_ok, run_underlying hu, hf, asAgg, part1 hag (show c[fd.offset]? = some v' by simpa using hv')]
  simp [part1 hag (show c[fd.offset]? = some v' by simpa using hv'), Go.asAgg]

theorem fldn_sound (hs : Sim P γ s w) {o : Oper} {ty f n : Nat} {fs : Array Field} {fd : Field} {x : Operand} {a : AO} {v : AV} {s' : St} (hu : P.underlying ty = some (.struct fs)) (hf : fs[f]? = some fd) (hag : aggT P fd.type = some true) (hn : szOf P fd.type = some n)
    (hx : aop x = some a) (ho : o.op = .field ty x f) (he : Evs γ t ρ [x]) (h : fldnA fd.offset n a t s = .ok v s') : OpOk P γ s w ρ o v s' := by
  obtain ⟨u, hu', h⟩ := wth_ok h
  obtain ⟨l, rfl, h⟩ := agg_ok h
  obtain ⟨cs, hk, h'⟩ := opt_ok h
  obtain ⟨rfl, rfl⟩ := ok_inj h'
  obtain ⟨e1, hle⟩ := takeL_some _ hk
  rw [dropL_eq] at e1 hle
  subst e1
  obtain ⟨c, hv, hR, h1⟩ := aggV (he x (by simp) a _ hx hu')
  have e2 : (c.extract fd.offset (fd.offset + n)).toList = (c.toList.drop fd.offset).take n := by simp [Array.toList_extract, List.extract_eq_take_drop]
  refine OpOk.still hs (.agg (c.extract fd.offset (fd.offset + n))) ?_ (.agg _ _ (by rw [e2]; exact (hR.drop _).take _) (by rw [e2]; exact fun v hv => h1 v (List.mem_of_mem_drop (List.mem_of_mem_take hv))))
  simp [execOp, ho, Instr.field, hv, run_underlying hu, hf, Go.asAgg, partn hag hn]

theorem ext_sound (hs : Sim P γ s w) {o : Oper} {i : Nat} {x : Operand} {a : AO} {v : AV} {s' : St} (hx : aop x = some a) (ho : o.op = .extract x i) (he : Evs γ t ρ [x])
    (h : extA a i t s = .ok v s') : OpOk P γ s w ρ o v s' := by
  obtain ⟨u, hu', h⟩ := wth_ok h
  obtain ⟨l, rfl, h⟩ := tup_ok h
  obtain ⟨hk, rfl⟩ := retO_ok h
  rw [getL_eq] at hk
  have hv := he x (by simp) a _ hx hu'
  generalize hxx : ρ x = vx at hv
  cases hv with
  | tup _ c hR =>
    obtain ⟨v', hv', hRv⟩ := hR.get hk
    refine OpOk.still hs v' ?_ hRv
    have : c[i]? = some v' := by simpa using hv'
    simp [execOp, ho, Instr.extract, hxx, this]

theorem cvi_sound (hs : Sim P γ s w) {o : Oper} {sr ds : Nat} {k : IntKind} {sd : TypeDesc} {x : Operand} {a : AO} {v : AV} {s' : St} (hsr : P.underlying sr = some sd) (hd : P.underlying ds = some (.int k)) (hx : aop x = some a) (ho : o.op = .convert sr ds x) (he : Evs γ t ρ [x])
    (hq : ∀ k n, wrapQ k n = k.wrap n) (h : cviA k a t s = .ok v s') : OpOk P γ s w ρ o v s' := by
  obtain ⟨u, hu', h⟩ := wth_ok h
  obtain ⟨k', n, rfl, h⟩ := int_ok h
  obtain ⟨rfl, rfl⟩ := ok_inj h
  have hv := intV (he x (by simp) a _ hx hu')
  refine OpOk.still hs (.int k (k.wrap n)) ?_ (by rw [hq]; exact .int _ _)
  simp [execOp, ho, convert, hv, run_underlying hsr, run_underlying hd, Conv.intToInt]

theorem mkfn_sound (hs : Sim P γ s w) {o : Oper} {f : Nat} {as bs : Array Operand} {xs ys : List AO} {v : AV} {s' : St} (hx : aops as.toList = some xs) (hy : aops bs.toList = some ys) (ho : o.op = .makeFunc (.func f) as bs) (he : Evs γ t ρ (as.toList ++ bs.toList))
    (h : mkfnA f xs ys t s = .ok v s') : OpOk P γ s w ρ o v s' := by
  obtain ⟨p, hp, h⟩ := opt_ok h
  obtain ⟨q, hq, h⟩ := opt_ok h
  obtain ⟨rfl, rfl⟩ := ok_inj h
  have h1 := aops_evs (γ := γ) (ρ := ρ) hx hp (fun x hx => he x (by simp at hx ⊢; exact .inl hx))
  have h2 := aops_evs (γ := γ) (ρ := ρ) hy hq (fun x hx => he x (by simp at hx ⊢; exact .inr hx))
  refine OpOk.still hs (.func (.func f) (as.map ρ) (bs.map ρ)) ?_ (.fn _ _ _ _ _ (by simpa using h1) (by simpa using h2))
  simp [execOp, ho, Instr.makeFunc]
end
end Go.AM
