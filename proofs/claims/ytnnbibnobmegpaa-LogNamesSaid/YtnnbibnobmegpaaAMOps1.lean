/-
  THE ABSTRACT MACHINE: each operation of the model does what the machine's does (first part). Plain lemmas.
-/
import Derived.Test.YtnnbibnobmegpaaAMMem
set_option linter.unusedVariables false
set_option linter.unusedSimpArgs false
namespace Go.AM
section
variable {P : Program} {γ : Gam} {s : St} {w : World} {t : AT} {ρ : Operand → Value}

theorem av1_VR {v : Value} {a : AV} (h : av1 v = some a) : VR γ a v ∧ v.oneCell' = true := by
  unfold av1 at h
  split at h
  case h_9 f as bs =>
    split at h
    · rename_i h1 h2
      cases h
      refine ⟨.fn _ _ _ _ _ (by rw [h1]; exact .nil) (by rw [h2]; exact .nil), rfl⟩
    · cases h
  all_goals first
    | (cases h; first
        | exact ⟨.bool _, rfl⟩ | exact ⟨.int _ _, rfl⟩ | exact ⟨.str _ _ rfl, rfl⟩ | exact ⟨.nilp, rfl⟩ | exact ⟨.nils, rfl⟩ | exact ⟨.nilm, rfl⟩ | exact ⟨.nilf, rfl⟩ | exact ⟨.nili, rfl⟩)
    | cases h
theorem avs_VR : ∀ {l : List Value} {m : List AV}, avs l = some m → All2 (VR γ) m l ∧ ∀ v ∈ l, v.oneCell' = true
  | [], m, h => by cases h; exact ⟨.nil, by simp⟩
  | v :: l, m, h => by
    simp only [avs] at h
    split at h
    · rename_i x y h1 h2
      cases h
      obtain ⟨a, b⟩ := av1_VR (γ := γ) h1
      obtain ⟨c, d⟩ := avs_VR h2
      exact ⟨.cons a c, by simp [b]; exact d⟩
    · cases h
theorem av_VR {v : Value} {a : AV} (h : av v = some a) : VR γ a v := by
  unfold av at h
  split at h
  · rename_i cs
    cases ha : avs cs.toList with
    | none => rw [ha] at h; cases h
    | some l => rw [ha] at h; cases h; obtain ⟨x, y⟩ := avs_VR (γ := γ) ha; exact .agg _ _ x y
  · rename_i cs
    cases ha : avs cs.toList with
    | none => rw [ha] at h; cases h
    | some l => rw [ha] at h; cases h; exact .tup _ _ (avs_VR ha).1
  · exact (av1_VR h).1

/-- what an operation reads of its operands -/
def Evs (γ : Gam) (t : AT) (ρ : Operand → Value) (xs : List Operand) : Prop := ∀ x ∈ xs, ∀ a v, aop x = some a → ev a t = .some v → VR γ v (ρ x)

theorem aops_evs {xs : List Operand} : ∀ {as : List AO} {vs : List AV}, aops xs = some as → evs t as = some vs → Evs γ t ρ xs → All2 (VR γ) vs (xs.map ρ) := by
  induction xs with
  | nil => intro as vs h1 h2 _; cases h1; cases h2; exact .nil
  | cons x xs ih =>
    intro as vs h1 h2 he
    simp only [aops] at h1
    split at h1
    · rename_i a b ha hb
      cases h1
      change (OV.rec none (fun v => Option.rec none (fun vs => some (v :: vs)) (evs t b)) (ev a t) : Option (List AV)) = some vs at h2
      cases hv : ev a t with
      | none => rw [hv] at h2; cases h2
      | some v =>
        rw [hv] at h2
        cases hw : evs t b with
        | none => rw [hw] at h2; cases h2
        | some ws =>
          rw [hw] at h2
          cases h2
          exact .cons (he x (by simp) a v ha hv) (ih hb hw fun y hy => he y (by simp [hy]))
    · cases h1

/-- what is shown of each operation -/
def OpOk (P : Program) (γ : Gam) (s : St) (w : World) (ρ : Operand → Value) (o : Oper) (v : AV) (s' : St) : Prop :=
  ∃ γ' w', Stp γ s w γ' s' w' ∧ Sim P γ' s' w' ∧ ((∃ v', (execOp ρ o).run P w = .ok (.value v') w' ∧ VR γ' v v') ∨ ((execOp ρ o).run P w = .ok .skip w' ∧ o.dst = none))

theorem OpOk.still (h : Sim P γ s w) {o : Oper} {v : AV} (v' : Value) (hr : (execOp ρ o).run P w = .ok (.value v') w) (hv : VR γ v v') : OpOk P γ s w ρ o v s :=
  ⟨γ, w, .refl _ _ _, h, .inl ⟨v', hr, hv⟩⟩

theorem cellsOf_VR {v : AV} {v' : Value} {n : Nat} (h : VR γ v v') (hone : Nat.beq (lenL (cellsOf v)) (n + 1) = true) : All2 (VR γ) (cellsOf v) v'.cells.toList ∧ ∀ u ∈ v'.cells.toList, u.oneCell' = true := by
  cases h with
  | agg l a h1 h2 => exact ⟨h1, h2⟩
  | tup l a h1 => cases hone
  | any _ ho => cases v' <;> first | (exfalso; simp [Value.oneCell'] at ho; done) | exact ⟨.cons (.any _ ho) .nil, by simp [Value.cells, Value.oneCell']⟩
  | _ => exact ⟨.cons (by constructor <;> assumption) .nil, by simp [Value.cells, Value.oneCell']⟩

theorem ok_inj {a v : AV} {s s' : St} (h : RV.ok a s = RV.ok v s') : a = v ∧ s = s' := by cases h; exact ⟨rfl, rfl⟩
/-- what is shown of an operation that makes a thing -/
def Fresh (P : Program) (γ : Gam) (w : World) (ρ : Operand → Value) (o : Oper) (s : St) (v : AV) (s' : St) : Prop :=
  ∃ (obj : AObj) (mkv : Nat → AV) (O : Obj) (sz es : Nat) (v' : Value), v = mkv s.next ∧ s' = s.alloc obj ∧ (execOp ρ o).run P w = .ok (.value v') (w.alloc O) ∧
    ∀ (γ' : Gam) (r : Nat), Le γ γ' → γ' r = some ⟨w.heap.size, 0, sz, es⟩ → ObjR P γ' ⟨w.heap.size, 0, sz, es⟩ obj (w.alloc O).heap ∧ VR γ' (mkv r) v'
theorem Fresh.ok (hs : Sim P γ s w) {o : Oper} {v : AV} {s' : St} (h : Fresh P γ w ρ o s v s') : OpOk P γ s w ρ o v s' := by
  obtain ⟨obj, mkv, O, sz, es, v', rfl, rfl, hr, hk⟩ := h
  have hle := ext_le (L := ⟨w.heap.size, 0, sz, es⟩) (hs.nx s.next (Nat.le_refl _))
  obtain ⟨h1, h2⟩ := hk _ s.next hle (ext_same _ _ _)
  obtain ⟨hst, hsim⟩ := hs.alloc obj O sz es h1
  exact ⟨_, _, hst, hsim, .inl ⟨v', hr, h2⟩⟩
/-! moves -/
theorem mv_sound (hs : Sim P γ s w) {o : Oper} {x : Operand} {a : AO} {v : AV} {s' : St} (hx : aop x = some a) (ho : o.op = .move x ∨ o.op = .assign x) (he : Evs γ t ρ [x])
    (h : mvA a t s = .ok v s') : OpOk P γ s w ρ o v s' := by
  obtain ⟨u, hu, h⟩ := wth_ok h
  obtain ⟨rfl, rfl⟩ := ok_inj h
  have hv := he x (by simp) a u hx hu
  refine OpOk.still hs (ρ x) ?_ hv
  rcases ho with ho | ho <;> simp [execOp, ho]

theorem pick_sound (hs : Sim P γ s w) {o : Oper} {c x y : Operand} {ac ax ay : AO} {v : AV} {s' : St} (hc : aop c = some ac) (hx : aop x = some ax) (hy : aop y = some ay) (ho : o.op = .pick c x y) (he : Evs γ t ρ [c, x, y])
    (h : pickA ac ax ay t s = .ok v s') : OpOk P γ s w ρ o v s' := by
  obtain ⟨u, hu, h⟩ := wth_ok h
  have hcv := he c (by simp) ac u hc hu
  cases hb : asBool u with
  | no => rw [hb] at h; cases h
  | tt =>
    rw [hb] at h
    obtain ⟨e1, rfl⟩ := ret_ok h
    rw [asBool_tt hb] at hcv
    generalize hcc : ρ c = cv at hcv
    cases hcv
    exact OpOk.still hs (ρ x) (by simp [execOp, ho, hcc, Go.asBool]) (he x (by simp) ax v hx e1)
  | ff =>
    rw [hb] at h
    obtain ⟨e1, rfl⟩ := ret_ok h
    rw [asBool_ff hb] at hcv
    generalize hcc : ρ c = cv at hcv
    cases hcv
    exact OpOk.still hs (ρ y) (by simp [execOp, ho, hcc, Go.asBool]) (he y (by simp) ay v hy e1)

theorem run_zeroValue {P : Program} {t : TypeId} {i : TypeInfo} {z : Value} (hi : P.info? t = some i) (hz : i.zero = some z) (w : World) : (zeroValue t).run P w = .ok z w := by
  simp [zeroValue, typeInfo, hi, hz]
theorem run_sizeOf {P : Program} {t : TypeId} {n : Nat} (h : szOf P t = some n) (w : World) : (Go.sizeOf t).run P w = .ok n w := by
  unfold szOf at h
  cases hi : P.info? t with
  | none => rw [hi] at h; cases h
  | some i => rw [hi] at h; cases h; simp [Go.sizeOf, typeInfo, hi]
theorem run_isAgg {P : Program} {t : TypeId} {b : Bool} (h : aggT P t = some b) (w : World) : (isAgg t).run P w = .ok b w := by
  unfold aggT at h
  cases hu : P.underlying t with
  | none => rw [hu] at h; cases h
  | some d => rw [hu] at h; cases d <;> cases h <;> simp [isAgg, run_underlying hu]
theorem zeroOf_some {P : Program} {t : TypeId} {z : List AV} (h : zeroOf P t = some z) : ∃ i zv, P.info? t = some i ∧ i.zero = some zv ∧ avs zv.cells.toList = some z := by
  unfold zeroOf at h
  split at h
  · rename_i i hi
    split at h
    · rename_i zv hz; exact ⟨i, zv, hi, hz, h⟩
    · cases h
  · cases h

theorem new_fresh {o : Oper} {ty n : Nat} {z : List AV} {v : AV} {s' : St} (hn : szOf P ty = some n) (hz : zeroOf P ty = some z) (ho : o.op = .alloc ty)
    (h : newA ty n z t s = .ok v s') : Fresh P γ w ρ o s v s' := by
  cases h
  obtain ⟨i, zv, hi, hzz, ha⟩ := zeroOf_some hz
  obtain ⟨h1, h2⟩ := avs_VR (γ := γ) ha
  refine ⟨.row ty z, fun r => .ptr r 0, .cells zv.cells ty, zv.cells.size, n, .pointer (some ⟨w.heap.size, 0, none⟩), rfl, rfl, ?_, fun γ' r hle hr => ⟨rowObj hn h1 h2 hle, .ptr r 0 _ hr⟩⟩
  simp [execOp, ho, Instr.alloc, run_zeroValue hi hzz, newVar, newRow]

theorem box_fresh {o : Oper} {ty n : Nat} {x : Operand} {a : AO} {v : AV} {s' : St} (hn : szOf P ty = some (n + 1)) (hx : aop x = some a) (ho : o.op = .box ty x) (he : Evs γ t ρ [x])
    (h : boxA ty (n + 1) a t s = .ok v s') : Fresh P γ w ρ o s v s' := by
  obtain ⟨u, hu, h⟩ := wth_ok h
  obtain ⟨hl, h⟩ := gd_ok h
  obtain ⟨rfl, rfl⟩ := ok_inj h
  have hv := he x (by simp) a u hx hu
  obtain ⟨h1, h2⟩ := cellsOf_VR hv hl
  refine ⟨.row ty (cellsOf u), fun r => .ptr r 0, .cells (ρ x).cells ty, (ρ x).cells.size, n + 1, .pointer (some ⟨w.heap.size, 0, none⟩), rfl, rfl, ?_, fun γ' r hle hr => ⟨rowObj hn h1 h2 hle, .ptr r 0 _ hr⟩⟩
  simp [execOp, ho, Instr.box, newVar, newRow]
end
end Go.AM
