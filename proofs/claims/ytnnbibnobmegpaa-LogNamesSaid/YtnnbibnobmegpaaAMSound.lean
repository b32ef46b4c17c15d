/-
  THE ABSTRACT MACHINE: each operation of the model, as 'compOp' reads it, does what the machine's does. Plain lemmas.
-/
import Derived.Test.YtnnbibnobmegpaaAMOpsA
set_option linter.unusedVariables false
set_option linter.unusedSimpArgs false
namespace Go.AM
section
variable {P : Program} {γ : Gam} {s : St} {w : World} {t : AT} {ρ : Operand → Value}

def isCall : AOp → Bool
  | .call .. | .scall .. => true
  | _ => false
def isMake : AOp → Bool
  | .new .. | .box .. | .bsl .. | .mks .. | .mkmap => true
  | _ => false

theorem map_some {α β : Type} {f : α → β} {x : Option α} {y : β} (h : x.map f = some y) : ∃ a, x = some a ∧ f a = y := by
  cases x with
  | none => cases h
  | some a => exact ⟨a, rfl, Option.some.inj h⟩

/-- what is shown of each operation but calls -/
def Both (P : Program) (γ : Gam) (s : St) (w : World) (ρ : Operand → Value) (o : Oper) (p : AOp) (v : AV) (s' : St) : Prop :=
  (isMake p = true ∧ Fresh P γ w ρ o s v s') ∨ (isMake p = false ∧ (Sim P γ s w → OpOk P γ s w ρ o v s'))

theorem intKey_some {ty : Nat} (h : intKey P ty = true) : ∃ kt e kk, P.underlying ty = some (.map kt e) ∧ P.underlying kt = some (.int kk) := by
  unfold intKey at h
  split at h
  · rename_i kt e hu
    split at h
    · rename_i kk hk; exact ⟨kt, e, kk, hu, hk⟩
    · cases h
  · cases h

theorem op_bin {e : Env} {rec : Rec} {o : Oper} {op : BinOp} {ty yt : Nat} {x y : Operand} {p : AOp} {v : AV} {s' : St} (hop : o.op = .binOp op ty x y yt) (he : Evs γ t ρ [x, y]) (hc : compOp0 P o = some p)
    (h : opA p e rec t s = .ok v s') : Both P γ s w ρ o p v s' := by
  simp only [compOp0, hop] at hc
  split at hc
  · rename_i a b ha hb
    split at hc
    · split at hc
      · cases hc; exact .inr ⟨rfl, fun hs => bin_sound hs ha hb hop he h⟩
      · cases hc; exact .inr ⟨rfl, fun hs => bin_sound hs ha hb hop he h⟩
      · split at hc
        · rename_i k hk
          cases hc; exact .inr ⟨rfl, fun hs => eqb_sound hs (.inl ⟨rfl, rfl⟩) hk ha hb hop he h⟩
        · obtain ⟨ks, hk, rfl⟩ := map_some hc
          exact .inr ⟨rfl, fun hs => eqf_sound hs (.inl ⟨rfl, rfl⟩) hk ha hb hop he h⟩
    · split at hc
      · cases hc; exact .inr ⟨rfl, fun hs => bin_sound hs ha hb hop he h⟩
      · cases hc; exact .inr ⟨rfl, fun hs => bin_sound hs ha hb hop he h⟩
      · split at hc
        · rename_i k hk
          cases hc; exact .inr ⟨rfl, fun hs => eqb_sound hs (.inr ⟨rfl, rfl⟩) hk ha hb hop he h⟩
        · obtain ⟨ks, hk, rfl⟩ := map_some hc
          exact .inr ⟨rfl, fun hs => eqf_sound hs (.inr ⟨rfl, rfl⟩) hk ha hb hop he h⟩
    · cases hc; exact .inr ⟨rfl, fun hs => bin_sound hs ha hb hop he h⟩
  · cases hc

theorem op_builtin {e : Env} {rec : Rec} {o : Oper} {b : Builtin} {args : Array Operand} {ts : Array TypeId} {p : AOp} {v : AV} {s' : St} (hop : o.op = .call { callee := .builtin b, args := args, argTypes := ts }) (he : Evs γ t ρ args.toList)
    (hc : compBuiltin P b ts.toList args.toList = some p) (h : opA p e rec t s = .ok v s') : Both P γ s w ρ o p v s' := by
  unfold compBuiltin at hc
  split at hc
  · -- len
    rename_i x T hal htl
    obtain ⟨al⟩ := args; obtain ⟨tl⟩ := ts; simp only at hal htl; subst hal; subst htl
    split at hc
    · cases hc; rename_i hu; exact .inr ⟨rfl, fun hs => alen_sound (t := t) hs hu hop h⟩
    · obtain ⟨a, ha, rfl⟩ := map_some hc; rename_i hu; exact .inr ⟨rfl, fun hs => len_sound hs hu ha hop he h⟩
    · obtain ⟨a, ha, rfl⟩ := map_some hc; rename_i hu; exact .inr ⟨rfl, fun hs => lenm_sound hs hu ha hop he h⟩
    · cases hc
  · obtain ⟨as, ha, rfl⟩ := map_some hc
    exact .inr ⟨rfl, fun hs => mn_sound (mx := false) hs ha hop he h⟩
  · obtain ⟨as, ha, rfl⟩ := map_some hc
    exact .inr ⟨rfl, fun hs => mn_sound (mx := true) hs ha hop he h⟩
  · -- cap
    rename_i x T hal htl
    obtain ⟨al⟩ := args; obtain ⟨tl⟩ := ts; simp only at hal htl; subst hal; subst htl
    split at hc
    · obtain ⟨a, ha, rfl⟩ := map_some hc; rename_i hu; exact .inr ⟨rfl, fun hs => cap_sound hs hu ha hop he h⟩
    · cases hc
  · -- append
    rename_i x y T U hal htl
    obtain ⟨al⟩ := args; obtain ⟨tl⟩ := ts; simp only at hal htl; subst hal; subst htl
    split at hc
    · split at hc
      · rename_i el kn sx xx hu hU hs' hx'
        split at hc
        · rename_i n b z hn hb hz
          split at hc
          · rename_i hcnd
            cases hc
            exact .inr ⟨rfl, fun hs => app0_sound hs hu hU hn hb hz hcnd.1 hcnd.2.1 hcnd.2.2 hs' hx' hop he h⟩
          · cases hc
        · cases hc
      · cases hc
    · rename_i hTU
      have hTU : T = U := Classical.not_not.1 hTU
      subst hTU
      split at hc
      · rename_i el sx xx hu hs' hx'
        split at hc
        · rename_i n b z hn hb hz
          split at hc
          · rename_i hcnd
            cases hc
            exact .inr ⟨rfl, fun hs => app_sound hs hu hn hb hz hcnd.1 hcnd.2.1 hcnd.2.2 hs' hx' hop he h⟩
          · cases hc
        · cases hc
      · cases hc
  · -- copy
    rename_i x y T U hal htl
    obtain ⟨al⟩ := args; obtain ⟨tl⟩ := ts; simp only at hal htl; subst hal; subst htl
    split at hc
    · rename_i el d sx hu hd hs'
      obtain ⟨n, hn, rfl⟩ := map_some hc
      exact .inr ⟨rfl, fun hs => copy_sound hs hu hn hd hs' hop he h⟩
    · cases hc
  · -- delete
    rename_i x y T U hal htl
    obtain ⟨al⟩ := args; obtain ⟨tl⟩ := ts; simp only at hal htl; subst hal; subst htl
    split at hc
    · rename_i kt ev m k hu hm hk
      split at hc
      · rename_i kk hku
        cases hc
        exact .inr ⟨rfl, fun hs => mdel_sound hs hu hku hm hk hop he h⟩
      · cases hc
    · cases hc
  · -- clear
    rename_i x T hal htl
    obtain ⟨al⟩ := args; obtain ⟨tl⟩ := ts; simp only at hal htl; subst hal; subst htl
    split at hc
    · rename_i el a hu ha
      split at hc
      · rename_i n z hn hz
        split at hc
        · rename_i hcnd
          cases hc
          exact .inr ⟨rfl, fun hs => clr_sound hs hu hn hz hcnd.1 hcnd.2 ha hop he h⟩
        · cases hc
      · cases hc
    · cases hc
  · cases hc

theorem op_sound {e : Env} {rec : Rec} {o : Oper} {p : AOp} {v : AV} {s' : St} (he : Evs γ t ρ o.op.operands.toList) (hc : compOp0 P o = some p) (hp : isCall p = false)
    (h : opA p e rec t s = .ok v s') : Both P γ s w ρ o p v s' := by
  have hc0 := hc
  cases hop : o.op with
  | move x =>
    simp only [compOp0, hop] at hc; rw [hop] at he
    obtain ⟨a, ha, rfl⟩ := map_some hc
    exact .inr ⟨rfl, fun hs => mv_sound hs ha (.inl hop) he h⟩
  | assign x =>
    simp only [compOp0, hop] at hc; rw [hop] at he
    obtain ⟨a, ha, rfl⟩ := map_some hc
    exact .inr ⟨rfl, fun hs => mv_sound hs ha (.inr hop) he h⟩
  | pick c x y =>
    simp only [compOp0, hop] at hc; rw [hop] at he
    split at hc
    · rename_i h1 h2 h3; cases hc; exact .inr ⟨rfl, fun hs => pick_sound hs h1 h2 h3 hop he h⟩
    · cases hc
  | alloc ty =>
    simp only [compOp0, hop] at hc
    split at hc
    · rename_i n z hn hz; cases hc; exact .inl ⟨rfl, new_fresh (t := t) hn hz hop h⟩
    · cases hc
  | box ty x =>
    simp only [compOp0, hop] at hc; rw [hop] at he
    split at hc
    · rename_i n a hn ha; cases hc; exact .inl ⟨rfl, box_fresh hn ha hop he h⟩
    · cases hc
  | build ty parts =>
    simp only [compOp0, hop] at hc; rw [hop] at he
    have he' : Evs γ t ρ (parts.toList.map (·.2)) := he
    split at hc
    · rename_i z fs hz hu
      split at hc
      · rename_i hall
        obtain ⟨as, ha, rfl⟩ := map_some hc
        refine .inr ⟨rfl, fun hs => build_sound hs hz (.inl ⟨fs, hu, fun f hf => ?_, ha⟩) hop he' h⟩
        have := List.all_eq_true.1 hall f hf
        cases hq : szOf P f.type with
        | none => rw [hq] at this; cases this
        | some n => exact ⟨n, rfl⟩
      · cases hc
    · rename_i z n el hz hu
      split at hc
      · rename_i m hm
        obtain ⟨as, ha, rfl⟩ := map_some hc
        exact .inr ⟨rfl, fun hs => build_sound hs hz (.inr ⟨n, el, m, hu, hm, ha⟩) hop he' h⟩
      · cases hc
    · cases hc
  | buildSlice ty n parts =>
    simp only [compOp0, hop] at hc; rw [hop] at he
    have he' : Evs γ t ρ (parts.toList.map (·.2)) := he
    split at hc
    · rename_i el hu
      split at hc
      · rename_i m z hm hz
        split at hc
        · rename_i hcnd
          obtain ⟨as, ha, rfl⟩ := map_some hc
          exact .inl ⟨rfl, bsl_fresh hu hm hz hcnd.1 hcnd.2.1 hcnd.2.2 ha hop he' h⟩
        · cases hc
      · cases hc
    · cases hc
  | load ty x =>
    simp only [compOp0, hop] at hc; rw [hop] at he
    split at hc
    · rename_i n a hag hn ha; cases hc; exact .inr ⟨rfl, fun hs => ldn_sound hs hag hn ha hop he h⟩
    · rename_i a hag ha; cases hc; exact .inr ⟨rfl, fun hs => ld1_sound hs hag ha hop he h⟩
    · cases hc
  | store ty x y =>
    simp only [compOp0, hop] at hc; rw [hop] at he
    split at hc
    · rename_i n a b hd hn ha hb; cases hc; exact .inr ⟨rfl, fun hs => st_sound hs hd hn ha hb hop he h⟩
    · cases hc
  | nilCheck x =>
    simp only [compOp0, hop] at hc; rw [hop] at he
    obtain ⟨a, ha, rfl⟩ := map_some hc
    exact .inr ⟨rfl, fun hs => nilck_sound hs ha hop he h⟩
  | binOp op ty x y yt => rw [hop] at he; exact op_bin hop he hc0 h
  | unOp op ty x =>
    simp only [compOp0, hop] at hc; rw [hop] at he
    obtain ⟨a, ha, rfl⟩ := map_some hc
    exact .inr ⟨rfl, fun hs => un_sound hs ha hop he h⟩
  | convert sr ds x =>
    simp only [compOp0, hop] at hc; rw [hop] at he
    split at hc
    · rename_i a h1 h2 ha; cases hc; exact .inr ⟨rfl, fun hs => cvi_sound hs h1 h2 ha hop he wrapQ_eq h⟩
    · rename_i el a h1 h2 ha
      split at hc
      · rename_i h8; cases hc; exact .inr ⟨rfl, fun hs => b2s_sound hs h1 h2 h8 ha hop he h⟩
      · cases hc
    · cases hc
  | makeFunc f as bs =>
    cases f with
    | func f =>
      simp only [compOp0, hop] at hc; rw [hop] at he
      split at hc
      · rename_i h1 h2; cases hc
        exact .inr ⟨rfl, fun hs => mkfn_sound hs h1 h2 hop (by simpa [Op.operands] using he) h⟩
      · cases hc
    | _ => simp only [compOp0, hop] at hc; cases hc
  | makeMap ty r =>
    cases r with
    | none => simp only [compOp0, hop] at hc; cases hc; exact .inl ⟨rfl, mkmap_fresh (t := t) hop h⟩
    | some r => simp only [compOp0, hop] at hc; cases hc
  | makeSlice ty l c =>
    simp only [compOp0, hop] at hc; rw [hop] at he
    split at hc
    · rename_i el a b hu h1 h2
      split at hc
      · rename_i n by_ z hn hb hz
        split at hc
        · rename_i hcnd; cases hc
          exact .inl ⟨rfl, mks_fresh hu hn hb hz hcnd.1 hcnd.2.1 hcnd.2.2 h1 h2 hop he h⟩
        · cases hc
      · cases hc
    · cases hc
  | slice ty x lo hi mx =>
    simp only [compOp0, hop] at hc; rw [hop] at he
    have he' : Evs γ t ρ ([x] ++ lo.toList ++ hi.toList ++ mx.toList) := by simpa [Op.operands] using he
    split at hc
    · rename_i el a alo ahi amx hu ha h1 h2 h3
      split at hc
      · cases hc
      · rename_i hcnd
        obtain ⟨n, hn, rfl⟩ := map_some hc
        refine .inr ⟨rfl, fun hs => slc_sound hs hu hn ha h1 h2 h3 ?_ hop he' h⟩
        intro hm
        rw [hm] at hcnd
        cases ahi with
        | none => exact absurd rfl hcnd
        | some q => rfl
    · rename_i n el a alo ahi amx hu ha h1 h2 h3
      split at hc
      · cases hc
      · rename_i hcnd
        obtain ⟨m, hm, rfl⟩ := map_some hc
        refine .inr ⟨rfl, fun hs => sla_sound hs hu hm ha h1 h2 h3 ?_ hop he' h⟩
        intro hmx
        cases mx with
        | none => cases hmx
        | some mo =>
          obtain ⟨am, _, ham⟩ := map_some (show (aop mo).map some = some amx from h3)
          subst ham
          cases hi with
          | none => cases h2; simp at hcnd
          | some ho => rfl
    · cases hc
  | fieldAddr ty x f =>
    simp only [compOp0, hop] at hc; rw [hop] at he
    split at hc
    · rename_i fs a hu ha
      split at hc
      · rename_i fd hf
        split at hc
        · rename_i n hn; cases hc; exact .inr ⟨rfl, fun hs => fa_sound hs hu hf hn ha hop he h⟩
        · cases hc
      · cases hc
    · cases hc
  | field ty x f =>
    simp only [compOp0, hop] at hc; rw [hop] at he
    split at hc
    · rename_i fs a hu ha
      split at hc
      · rename_i fd hf
        split at hc
        · rename_i n hag hn; cases hc; exact .inr ⟨rfl, fun hs => fldn_sound hs hu hf hag hn ha hop he h⟩
        · rename_i hag; cases hc; exact .inr ⟨rfl, fun hs => fld1_sound hs hu hf hag ha hop he h⟩
        · cases hc
      · cases hc
    · cases hc
  | indexAddr ty x i =>
    simp only [compOp0, hop] at hc; rw [hop] at he
    split at hc
    · rename_i el a b hu ha hb
      obtain ⟨n, hn, rfl⟩ := map_some hc
      exact .inr ⟨rfl, fun hs => ixs_sound hs hu hn ha hb hop he h⟩
    · rename_i m el a b hu ha hb
      obtain ⟨n, hn, rfl⟩ := map_some hc
      exact .inr ⟨rfl, fun hs => ixa_sound hs hu hn ha hb hop he h⟩
    · cases hc
  | index ty x i =>
    simp only [compOp0, hop] at hc; rw [hop] at he
    split at hc
    · rename_i m el a b hu ha hb
      split at hc
      · rename_i hn hag; cases hc; exact .inr ⟨rfl, fun hs => ixv_sound hs hu hn hag ha hb hop he h⟩
      · cases hc
    · cases hc
  | extract x i =>
    simp only [compOp0, hop] at hc; rw [hop] at he
    obtain ⟨a, ha, rfl⟩ := map_some hc
    exact .inr ⟨rfl, fun hs => ext_sound hs ha hop he h⟩
  | lookup ty m k ok =>
    simp only [compOp0, hop] at hc; rw [hop] at he
    split at hc
    · rename_i kt' el a b hu ha hb
      split at hc
      · rename_i hik
        obtain ⟨kt, e2, kk, hu2, hku⟩ := intKey_some hik
        rw [hu2] at hu; cases hu
        split at hc
        · rename_i i hi
          split at hc
          · rename_i z hz
            obtain ⟨zz, hzz, rfl⟩ := map_some hc
            exact .inr ⟨rfl, fun hs => mget_sound hs hu2 hku hi hz hzz ha hb hop he h⟩
          · cases hc
        · cases hc
      · cases hc
    · cases hc
  | mapUpdate ty m k v' =>
    simp only [compOp0, hop] at hc; rw [hop] at he
    split at hc
    · rename_i a b c hd ha hb hcc
      split at hc
      · rename_i hik
        obtain ⟨kt, e2, kk, hu2, hku⟩ := intKey_some hik
        cases hc
        exact .inr ⟨rfl, fun hs => mset_sound hs hd hu2 hku ha hb hcc (.inl hop) he h⟩
      · cases hc
    · cases hc
  | insert ty m k v' =>
    simp only [compOp0, hop] at hc; rw [hop] at he
    split at hc
    · rename_i a b c hd ha hb hcc
      split at hc
      · rename_i hik
        obtain ⟨kt, e2, kk, hu2, hku⟩ := intKey_some hik
        cases hc
        exact .inr ⟨rfl, fun hs => mset_sound hs hd hu2 hku ha hb hcc (.inr hop) he h⟩
      · cases hc
    · cases hc
  | call c =>
    obtain ⟨cal, args, ts⟩ := c
    cases cal with
    | value f =>
      exfalso
      simp only [compOp0, hop] at hc
      split at hc
      · obtain ⟨as, _, rfl⟩ := map_some hc; cases hp
      · split at hc
        · cases hc; cases hp
        · cases hc
      · rename_i hq; cases hq
      · rename_i hq; cases hq
    | builtin b =>
      simp only [compOp0, hop] at hc; rw [hop] at he
      exact op_builtin hop (by simpa [Op.operands, Call.operands] using he) hc h
    | invoke r m => simp only [compOp0, hop] at hc; cases hc
  | _ => simp only [compOp0, hop] at hc; cases hc
theorem compOp_cases {o : Oper} {p : AOp} (h : compOp P o = some p) : compOp0 P o = some p ∨ p = .bad := by
  unfold compOp at h
  cases hc : compOp0 P o with
  | none => rw [hc] at h; cases h; exact .inr rfl
  | some q => rw [hc] at h; cases h; exact .inl rfl
end
end Go.AM
