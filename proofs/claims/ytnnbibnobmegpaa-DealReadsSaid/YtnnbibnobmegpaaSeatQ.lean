/-
 Functions of the program as the abstract machine reads them, and what is stated of them, checked by the kernel. No conditions.
-/
import Derived.Test.YtnnbibnobmegpaaSeatA
import Derived.Test.YtnnbibnobmegpaaSeatP
set_option linter.unusedVariables false
set_option linter.unusedSimpArgs false
set_option maxRecDepth 100000
namespace Go.AM
attribute [local irreducible] W
open X
structure WR where
 at_ : Int
 u : AV
 b : List Nat
def WR.c (w : WR) : List AV := [.int .i64 w.at_, w.u]
structure WR.any (w : WR) : Prop where
 at_ : i64B w.at_
 b : BAt w.u w.b
def wrs (L : List WR) : List AV := L.flatMap WR.c
theorem wrs_cons (x : WR) (L : List WR) : wrs (x :: L) = x.c ++ wrs L := rfl
theorem wrs_length : ∀ (L : List WR), (wrs L).length = L.length * 2
 | [] => rfl
 | x :: L => by rw [wrs_cons, List.length_append, wrs_length L, List.length_cons]; show 2 + _ = _; omega
theorem wrs_drop : ∀ (L : List WR) (i : Nat), (wrs L).drop (i * 2) = wrs (L.drop i)
 | L, 0 => by simp
 | [], i + 1 => by simp [wrs]
 | x :: L, i + 1 => by
  rw [List.drop_succ_cons, ← wrs_drop L i, wrs_cons, show (i + 1) * 2 = x.c.length + i * 2 by show (i + 1) * 2 = 2 + i * 2; omega, List.drop_append, List.drop_eq_nil_of_le (by omega), List.nil_append]
  congr 1; omega
theorem wrs_drop_cons {L : List WR} {i : Nat} (h : i < L.length) : (wrs L).drop (i * 2) = L[i].c ++ wrs (L.drop (i + 1)) := by
 rw [wrs_drop, List.drop_eq_getElem_cons h, wrs_cons]
theorem WR.inj {x y : WR} (hx : x.any) (hy : y.any) (h : x.c = y.c) : x = y := by
 obtain ⟨a, u, b⟩ := x
 obtain ⟨a', u', b'⟩ := y
 simp [WR.c] at h
 obtain ⟨rfl, rfl⟩ := h
 have := hx.b.inj hy.b
 dsimp only at this
 rw [this]
theorem wrs_inj : ∀ {L M : List WR}, (∀ o ∈ L, o.any) → (∀ o ∈ M, o.any) → wrs L = wrs M → L = M
 | [], [], _, _, _ => rfl
 | [], y :: M, _, _, h => by have := congrArg List.length h; rw [wrs_length, wrs_length] at this; simp at this
 | x :: L, [], _, _, h => by have := congrArg List.length h; rw [wrs_length, wrs_length] at this; simp at this
 | x :: L, y :: M, hx, hy, h => by
  rw [wrs_cons, wrs_cons] at h
  obtain ⟨h1, h2⟩ := List.append_inj h rfl
  rw [WR.inj (hx x (by simp)) (hy y (by simp)) h1, wrs_inj (fun o ho => hx o (by simp [ho])) (fun o ho => hy o (by simp [ho])) h2]
structure DK where
 bv : AV
 us : List AV
 bs : List (List Nat)
 wv : AV
 ws : List WR
 dead : Bool
def DK.c (x : DK) : List AV := [x.bv, x.wv, .bool x.dead]
def DK.v (x : DK) : AV := .agg x.c
structure DK.any (x : DK) : Prop where
 bl : Sl 1 x.us.length x.us x.bv
 bs : All2 BAt x.us x.bs
 wl : Sl 2 x.ws.length (wrs x.ws) x.wv
 ws : ∀ w ∈ x.ws, w.any
structure DK.ok (x : DK) : Prop where
 a : x.any
 n : x.us.length < 1000000
 m : x.ws.length < 1000000
 b : ∀ b ∈ x.bs, b.length < 1000000
 w : ∀ w ∈ x.ws, w.b.length < 1000000
theorem All2.BAt_inj : ∀ {us : List AV} {bs bs' : List (List Nat)}, All2 BAt us bs → All2 BAt us bs' → bs = bs' := by
 intro us
 induction us with
 | nil => intro _ _ a b; cases a; cases b; rfl
 | cons u us ih =>
  intro _ _ a b
  cases a with
  | cons a1 a2 => cases b with
   | cons b1 b2 => rw [a1.inj b1, ih a2 b2]
theorem DK.inj {x y : DK} (hx : x.any) (hy : y.any) (h : x.v = y.v) : x = y := by
 obtain ⟨bv, us, bs, wv, ws, dd⟩ := x
 obtain ⟨bv', us', bs', wv', ws', dd'⟩ := y
 have h := AV.agg.inj h
 simp [DK.c] at h
 obtain ⟨rfl, rfl, rfl⟩ := h
 have e1 := hx.bl.l_inj hy.bl
 have e2 := wrs_inj hx.ws hy.ws (hx.wl.l_inj hy.wl)
 dsimp only at e1 e2
 subst e1 e2
 have e3 := All2.BAt_inj hx.bs hy.bs
 dsimp only at e3
 rw [e3]
theorem DK.hf {x : DK} (h : x.any) : AM.hf x.v = true := by
 show (AM.hf x.bv && (AM.hf x.wv && (true && true))) = true
 rw [h.bl.hf, h.wl.hf]; rfl
def fstI (p : Nat → Bool) : List Nat → Nat → Int
 | [], _ => -1
 | n :: l, i => if p n then (i : Int) else fstI p l (i + 1)
theorem fstI_any (p : Nat → Bool) : ∀ (l : List Nat) (i : Nat), (0 ≤ fstI p l i ↔ l.any p = true)
 | [], i => by simp [fstI]
 | n :: l, i => by
  unfold fstI
  rw [List.any_cons]
  cases h : p n
  ·simp only [Bool.false_or, Bool.false_eq_true, if_false]; exact fstI_any p l (i + 1)
  ·simp
theorem fidx_run (P : Program) (e : Env) (hE : EnvOk P e) (hm : P.follows .mixedOrders = true) (p : Nat → Bool) (g : Nat) (hg : ∀ (x : BN), x.ok → ∀ (s : St) (K : AV → St → Prop), K (.bool (p x.n)) s → ECall e g [x.v] s K) (x : BL) (hx : x.ok) (Q : AV → St → Prop) (k : ∀ s, Q (.int .i64 (fstI p x.ns 0)) s) :
 VW P e 0 code138 (initT [x.v, .fn g [] []] 0 .lf) St0 none [] (EEnd [.tmp 4] Q) := by
 obtain ⟨v, us, ns⟩ := x
 obtain ⟨hs, hb, hl⟩ := hx
 dsimp only at hs hb hl k ⊢
 have hlen := hb.length
 conv => whnf
 refine EPrim.lenZ rfl hs ?_; conv => whnf
 refine W.loopS (α := Nat) (fun i => [(0, v), (1, .fn g [] []), (7, .int .i64 (us.length : Int)), (8, .int .i64 (i : Int))]) (fun i => []) (fun i => us.length - i)
  (fun i => i ≤ us.length ∧ fstI p ns 0 = fstI p (ns.drop i) i) 0 [] ⟨Nat.zero_le _, rfl⟩ ⟨by decide, ⟨⟨hf_bd _ hs.hf, by rw [hf_mapV _ hs.hf]; rfl⟩, ⟨rfl, rfl⟩, ⟨rfl, rfl⟩, ⟨rfl, rfl⟩, trivial⟩, trivial⟩ ?_
 rintro i ⟨hi, hI⟩
 refine vw_sound hE hm ?_; conv => whnf
 refine EPrim.lss2 rfl rfl (fun h => ?_) (fun h => ?_) <;> conv => whnf
 ·have hlt : i < us.length := by omega
  have hln : i < ns.length := by omega
  refine EPrim.ixsS rfl hs rfl hlt ?_; conv => whnf
  refine EHead.mk (v := us[i]) (by rw [Nat.mul_one, List.getElem?_drop, Nat.add_zero, List.getElem?_eq_getElem hlt]) ?_; conv => whnf
  obtain ⟨n, hn, hbn⟩ := hb.get (List.getElem?_eq_getElem hlt)
  have hn' : ns[i] = n := by rw [List.getElem?_eq_getElem hln] at hn; exact Option.some.inj hn
  rw [List.drop_eq_getElem_cons hln, hn'] at hI
  refine hg ⟨us[i], n⟩ hbn _ _ ?_
  rw [show fstI p (n :: ns.drop (i + 1)) i = if p n then (i : Int) else fstI p (ns.drop (i + 1)) (i + 1) from rfl] at hI
  dsimp only
  cases ho : p n
  ·rw [ho, if_neg (by decide)] at hI
   conv => whnf
   repeat' (first | ((first | refine w7 rfl rfl (by omega) ?_ | refine ⟨rfl, ?_⟩); conv => whnf) | fail)
   refine ⟨i + 1, ⟨hlt, hI⟩, by omega, [], ⟨by decide, ⟨⟨hf_bd _ hs.hf, by rw [hf_mapV _ hs.hf]; rfl⟩, ⟨rfl, rfl⟩, ⟨rfl, rfl⟩, ⟨rfl, by simp; rfl⟩, trivial⟩, trivial⟩⟩
  ·rw [ho, if_pos rfl] at hI
   conv => whnf
   rw [hI] at k; exact k _
 ·have hd : ns.drop i = [] := List.drop_eq_nil_of_le (by omega)
  rw [hd] at hI
  have hI : fstI p ns 0 = -1 := hI
  rw [hI] at k; exact k _
def fidxF (p : Nat → Bool) (g : Nat) : Fam BL := ⟨BL.ok, fun x => [x.v, .fn g [] []], fun x => .int .i64 (fstI p x.ns 0), fun x y hx hy h => by rw [BL.inj hx hy (List.cons.inj h).1]⟩
theorem fidxF_ok {P : Program} {e : Env} {fn : Func} (hE : EnvOk P e) (hm : P.follows .mixedOrders = true) (p : Nat → Bool) (g : Nat) (hg : ∀ (x : BN), x.ok → ∀ (s : St) (K : AV → St → Prop), K (.bool (p x.n)) s → ECall e g [x.v] s K) (hf : P.funcs[138]? = some fn) (hc : compF P fn = some a138) (hb : HasBody P 138) : OvOk P 138 (fidxF p g).O := by
 refine Fam.ok_of hb fun x hx => ?_
 refine ⟨by show (AM.hf x.v && (true && true && true)) = true; rw [hx.sl.hf]; rfl, rfl, C.of_V hE hm hf hc (fidx_run P e hE hm p g hg x hx _ fun s => .plain _ rfl)⟩
def orO (h1 h2 : Ov) : Ov := fun args s => match h1 args s with
 | .fail => h2 args s
 | r => r
theorem orO_ok {P : Program} {f : Nat} {h1 h2 : Ov} (q1 : OvOk P f h1) (q2 : OvOk P f h2) : OvOk P f (orO h1 h2) := by
 refine ⟨q1.1, fun args s v s' h => ?_⟩
 unfold orO at h
 cases hq : h1 args s with
 | fail => rw [hq] at h; exact q2.2 args s v s' h
 | ok v1 s1 => rw [hq] at h; cases h; exact q1.2 args s _ _ hq
end Go.AM
set_option maxRecDepth 100000
namespace Go.AM
attribute [local irreducible] W
open X
theorem Fam.O_run {α : Type} (F : Fam α) {x : α} (hx : F.ok x) (s : St) : F.O (F.enc x) s = .ok (F.out x) s := by
 have h : ∃ u, ∃ y, F.ok y ∧ F.enc x = F.enc y ∧ u = F.out y := ⟨_, x, hx, rfl, rfl⟩
 unfold Fam.O relO
 rw [dif_pos h]
 obtain ⟨y, hy, e, hu⟩ := Classical.choose_spec h
 rw [hu, F.inj x y hx hy e]
theorem Fam.O_no {α : Type} (F : Fam α) {args : List AV} (h : ∀ x, F.ok x → args ≠ F.enc x) (s : St) : F.O args s = .fail := by
 unfold Fam.O relO
 rw [dif_neg]
 rintro ⟨u, y, hy, e, _⟩
 exact h y hy e
def posB (n : Nat) : Bool := decide (0 < n)
noncomputable def dskI : Ov := orO (fidxF oddB 143).O (fidxF posB 146).O
theorem dskI_odd {e : Env} (h : Con e 138 dskI) {x : BL} (hx : x.ok) {s : St} {K : AV → St → Prop} (hk : K (.int .i64 (fstI oddB x.ns 0)) s) : ESc e 138 [x.v, .fn 143 [] []] s K := by
 refine ESc.ov h (v := .int .i64 (fstI oddB x.ns 0)) (s' := s) ?_ hk
 unfold dskI orO
 rw [show (fidxF oddB 143).O [x.v, .fn 143 [] []] s = .ok (.int .i64 (fstI oddB x.ns 0)) s from Fam.O_run (fidxF oddB 143) hx s]
theorem dskI_pos {e : Env} (h : Con e 138 dskI) {x : BL} (hx : x.ok) {s : St} {K : AV → St → Prop} (hk : K (.int .i64 (fstI posB x.ns 0)) s) : ESc e 138 [x.v, .fn 146 [] []] s K := by
 refine ESc.ov h (v := .int .i64 (fstI posB x.ns 0)) (s' := s) ?_ hk
 unfold dskI orO
 rw [Fam.O_no (fidxF oddB 143) (fun y hy e => by
  have e := (List.cons.inj (List.cons.inj e).2).1
  injection e with e; cases e) s]
 exact Fam.O_run (fidxF posB 146) hx s
theorem fcon_run {e : Env} (p : Nat → Bool) (g : Nat) (v : AV) (ns : List Nat) (s : St) (hcall : ∀ (K : AV → St → Prop), K (.int .i64 (fstI p ns 0)) s → ESc e 138 [v, .fn g [] []] s K) (Q : AV → St → Prop) (k : Q (.bool (ns.any p)) s) :
 VE e code93 (initT [v, .fn g [] []] 0 .lf) s none [] (EEnd [.tmp 4] Q) := by
 conv => whnf
 refine hcall _ ?_; conv => whnf
 have ha := fstI_any p ns 0
 refine EPrim.geq2 rfl rfl (fun h => ?_) (fun h => ?_) <;> conv => whnf
 ·rw [ha.1 h] at k; exact k
 ·have : ns.any p = false := by
   cases hq : ns.any p
   ·rfl
   ·have := ha.2 hq; omega
  rw [this] at k; exact k
theorem oddF143_ok {P : Program} {e : Env} {fn : Func} (hE : EnvOk P e) (hm : P.follows .mixedOrders = true) (hf : P.funcs[143]? = some fn) (hc : compF P fn = some a143) (hb : HasBody P 143) : OvOk P 143 oddF.O := by
 refine Fam.ok_of hb ?_
 rintro ⟨v, n⟩ hx
 obtain ⟨⟨l, hv⟩, hn⟩ := hx
 dsimp only at hv hn
 refine ⟨by show (AM.hf v && true) = true; rw [hv.hf]; rfl, rfl, C.of_V hE hm hf hc ?_⟩
 have fin : ∀ s (b : Bool), b = oddB n → Frz s (.bool b) (oddF.out ⟨v, n⟩) := by
  rintro s b rfl; exact .plain _ rfl
 unfold oddB at fin
 show VW P e 0 (match a143 with | .mk c _ => c) (initT [v] 0 .lf) St0 none [] _
 conv => whnf
 repeat' (first | (refine EPrim.lenZ rfl hv ?_; conv => whnf) | ((refine w6 rfl rfl ?_ ?_) <;> intro _ <;> first | (exfalso; omega) | (conv => whnf)) | fail)
 all_goals first
  | exact fin _ _ (by rw [decide_eq_true (by omega), decide_eq_true (by omega)]; rfl)
  | exact fin _ _ (by rw [decide_eq_true (by omega), decide_eq_false (by omega)]; rfl)
  | exact fin _ _ (by rw [decide_eq_false (by omega)]; rfl)
def code146 : AC := match a146 with | .mk c _ => c
theorem dskI_ok {P : Program} {e : Env} {fn : Func} (hE : EnvOk P e) (hm : P.follows .mixedOrders = true) (h143 : Con e 143 oddF.O) (h146 : Inl e 146 code146 [.tmp 2]) (hf : P.funcs[138]? = some fn) (hc : compF P fn = some a138) (hb : HasBody P 138) : OvOk P 138 dskI := by
 refine orO_ok (fidxF_ok hE hm oddB 143 (fun x hx s K hk => ?_) hf hc hb) (fidxF_ok hE hm posB 146 (fun x hx s K hk => ?_) hf hc hb)
 ·exact ECall.fam oddF h143 x hx rfl hk
 ·obtain ⟨⟨l, hv⟩, hn⟩ := hx
  refine ECall.inl h146.O h146.G ?_
  unfold posB at hk
  conv => whnf
  repeat' (first | (refine EPrim.lenZ rfl hv ?_; conv => whnf) | ((refine w3 rfl rfl ?_ ?_) <;> intro _ <;> first | (exfalso; omega) | (conv => whnf)) | fail)
  ·rw [decide_eq_true (by omega)] at hk; exact hk
  ·rw [decide_eq_false (by omega)] at hk; exact hk
def wBad (many : Int) (w : WR) : Bool := decide (w.at_ < 0) || decide (many ≤ w.at_) || oddB w.b.length
def fstW (p : WR → Bool) : List WR → Nat → Int
 | [], _ => -1
 | n :: l, i => if p n then (i : Int) else fstW p l (i + 1)
theorem fstW_any (p : WR → Bool) : ∀ (l : List WR) (i : Nat), (0 ≤ fstW p l i ↔ l.any p = true)
 | [], i => by simp [fstW]
 | n :: l, i => by
  unfold fstW
  rw [List.any_cons]
  cases h : p n
  ·simp only [Bool.false_or, Bool.false_eq_true, if_false]; exact fstW_any p l (i + 1)
  ·simp
structure WI where
 v : AV
 ws : List WR
 r : Nat
 many : Int
structure WI.ok (x : WI) (s : St) : Prop where
 sl : Sl 2 x.ws.length (wrs x.ws) x.v
 w : ∀ w ∈ x.ws, w.any ∧ w.b.length < 1000000
 g : s.get x.r = some (.row 3 [.int .i64 x.many])
 m : i64B x.many
 n : x.ws.length < 1000000
def WI.args (x : WI) : List AV := [x.v, .fn 145 [] [.ptr x.r 0]]
def WI.out (x : WI) : AV := .int .i64 (fstW (wBad x.many) x.ws 0)
noncomputable def widxO : Ov := fun args s => open Classical in if h : ∃ x : WI, x.ok s ∧ args = x.args then .ok (Classical.choose h).out s else .fail
theorem widxO_run {x : WI} {s : St} (hx : x.ok s) : widxO x.args s = .ok x.out s := by
 have h : ∃ y : WI, y.ok s ∧ x.args = y.args := ⟨x, hx, rfl⟩
 unfold widxO
 rw [dif_pos h]
 obtain ⟨h1, h2⟩ := Classical.choose_spec h
 generalize Classical.choose h = y at h1 h2 ⊢
 obtain ⟨v, ws, r, m⟩ := x
 obtain ⟨v', ws', r', m'⟩ := y
 simp [WI.args] at h2
 obtain ⟨rfl, rfl⟩ := h2
 have e1 := wrs_inj (fun o ho => (hx.w o ho).1) (fun o ho => (h1.w o ho).1) (hx.sl.l_inj h1.sl)
 have e2 := hx.g.symm.trans h1.g
 dsimp only at e1 e2
 injection e2 with e2
 injection e2 with _ e2
 injection e2 with e2
 injection e2 with _ e2
 subst e1 e2; rfl
def code163 : AC := match a163 with | .mk c _ => c
def code145 : AC := match a145 with | .mk c _ => c
def code144 : AC := match a144 with | .mk c _ => c
theorem widxO_ok {P : Program} {e : Env} {fn : Func} (hE : EnvOk P e) (hm : P.follows .mixedOrders = true) (h143 : Con e 143 oddF.O) (h145 : Inl e 145 code145 [.tmp 3]) (hf : P.funcs[163]? = some fn) (hc : compF P fn = some a163) (hb : HasBody P 163) : OvOk P 163 widxO := by
 refine ⟨hb, fun args s u s' hh => ?_⟩
 unfold widxO at hh
 split at hh
 ·rename_i hx
  cases hh
  obtain ⟨h1, h2⟩ := Classical.choose_spec hx
  generalize Classical.choose hx = y at h1 h2 ⊢
  subst h2
  obtain ⟨v, ws, r, m⟩ := y
  obtain ⟨hs, hw, hg, hmb, hn⟩ := h1
  dsimp only at hs hw hg hmb hn
  have hvf := hs.hf
  refine C.view (args2 := [v, .fn 145 [] [.fp [.int .i64 m]]]) (.cons (.plain _ hvf) (.cons (.fn 145 [] [.ptr r 0] [] [.fp [.int .i64 m]] .nil (.cons (.ptr r 0 3 [.int .i64 m] [.int .i64 m] [.int .i64 m] hg (fun i x h => by rw [Nat.zero_add]; exact h) (.cons (.plain _ rfl) .nil)) .nil)) .nil)) rfl (C.freeze ?_ ?_)
  ·show (AM.hf v && _) = true; rw [hvf]; rfl
  refine C.of_V hE hm hf hc ?_
  show VW P e 0 code163 (initT [v, .fn 145 [] [.fp [.int .i64 m]]] 0 .lf) St0 none [] (EEnd [.tmp 4] (fun w s' => Frz s' w (.int .i64 (fstW (wBad m) ws 0))))
  conv => whnf
  refine EPrim.lenZ rfl hs ?_; conv => whnf
  refine W.loopT (α := Nat) (fun i => [(0, v), (1, .fn 145 [] [.fp [.int .i64 m]]), (7, .int .i64 (ws.length : Int)), (8, .int .i64 (i : Int))]) (fun _ => []) (fun i => ws.length - i) (fun i => i ≤ ws.length ∧ fstW (wBad m) ws 0 = fstW (wBad m) (ws.drop i) i) 0 ⟨Nat.zero_le _, rfl⟩
   (Abs.tells (rs := []) ⟨by decide, ⟨⟨hf_bd _ hvf, by rw [hf_mapV _ hvf]; rfl⟩, ⟨rfl, rfl⟩, ⟨rfl, rfl⟩, ⟨rfl, rfl⟩, trivial⟩, trivial⟩) ?_
  rintro i ⟨hi, hI⟩
  refine vw_sound hE hm ?_
  by_cases hlt : i < ws.length
  ·have hd := wrs_drop_cons hlt
   obtain ⟨⟨hwa, hwb⟩, hwl⟩ := hw _ (List.getElem_mem hlt)
   rw [List.drop_eq_getElem_cons hlt] at hI
   have hall := And.intro hI (And.intro hd (And.intro hwa (And.intro hwb hwl)))
   clear hI hd hwa hwb hwl
   revert hall
   generalize ws[i] = w
   obtain ⟨wa, wu, wb⟩ := w
   rintro ⟨hI, hd, hwa, hwb, hwl⟩
   have hd : (wrs ws).drop (i * 2) = [.int .i64 wa, wu] ++ wrs (ws.drop (i + 1)) := hd
   have hI : fstW (wBad m) ws 0 = if wBad m ⟨wa, wu, wb⟩ then (i : Int) else fstW (wBad m) (ws.drop (i + 1)) (i + 1) := hI
   unfold wBad at hI
   dsimp only at hI hwl hwb
   have yes : ∀ b : Bool, b = true → (decide (wa < 0) || decide (m ≤ wa) || oddB wb.length) = b → fstW (wBad m) ws 0 = (i : Int) := fun b hb he => by
    rw [he, hb, if_pos rfl] at hI; exact hI
   have no : (decide (wa < 0) || decide (m ≤ wa) || oddB wb.length) = false → fstW (wBad m) ws 0 = fstW (wBad m) (ws.drop (i + 1)) (i + 1) := fun he => by
    rw [he, if_neg (by simp)] at hI; exact hI
   clear hI
   have hcell : ∀ (K : List AV → Prop), K [.int .i64 wa, wu] → ETake 2 ([.int .i64 wa, wu] ++ wrs (ws.drop (i + 1))) K := fun K hk => ETake.eq rfl hk
   have hend : ∀ t s, fstW (wBad m) ws 0 = fstW (wBad m) (ws.drop (i + 1)) (i + 1) → t.get 0 = some v → t.get 1 = some (.fn 145 [] [.fp [.int .i64 m]]) → t.get 7 = some (.int .i64 (ws.length : Int)) → t.get 8 = some (.int .i64 ((i : Int) + 1)) →
    ∃ x', (x' ≤ ws.length ∧ fstW (wBad m) ws 0 = fstW (wBad m) (ws.drop x') x') ∧ ws.length - x' < ws.length - i ∧ Tells P 0 t s [] (ofL [(0, v), (1, .fn 145 [] [.fp [.int .i64 m]]), (7, .int .i64 (ws.length : Int)), (8, .int .i64 (x' : Int))]) (allocs St0 []) [] := fun t s h0 g0 g1 g7 g8 =>
    ⟨i + 1, ⟨hlt, h0⟩, by omega, Abs.tells (rs := []) ⟨by decide, ⟨⟨hf_bd _ hvf, by rw [hf_mapV _ hvf]; exact g0⟩, ⟨rfl, g1⟩, ⟨rfl, g7⟩, ⟨rfl, g8⟩, trivial⟩, trivial⟩⟩
   conv => whnf
   refine EPrim.lss2 rfl rfl (fun _ => ?_) (fun h => by omega); conv => whnf
   refine EPrim.ixsS rfl hs rfl hlt ?_
   rw [hd]
   conv => whnf
   refine hcell _ ?_; conv => whnf
   refine ECall.inl h145.O h145.G ?_; conv => whnf
   refine EPrim.lss2 (a := wa) (b := 0) rfl rfl (fun h1 => ?_) (fun h1 => ?_)
   ·conv => whnf
    skip
    rw [yes true rfl (by rw [decide_eq_true h1]; rfl)]; exact .plain _ rfl
   conv => whnf
   refine EHead.mk rfl ?_; conv => whnf
   refine EPrim.geq2 (a := wa) (b := m) rfl rfl (fun h2 => ?_) (fun h2 => ?_)
   ·conv => whnf
    skip
    rw [yes true rfl (by rw [decide_eq_true h2]; simp)]; exact .plain _ rfl
   conv => whnf
   refine ESc.fam oddF h143 ⟨wu, wb.length⟩ ⟨⟨_, hwb.1⟩, by dsimp only; omega⟩ (u := .bool (oddB wb.length)) rfl ?_
   have e1 : (decide (wa < 0) || decide (m ≤ wa) || oddB wb.length) = oddB wb.length := by rw [decide_eq_false (by omega), decide_eq_false (by omega)]; rfl
   cases ho : oddB wb.length
   ·conv => whnf
    repeat' (first | ((first | refine w7 rfl rfl (by omega) ?_ | refine ⟨rfl, ?_⟩); conv => whnf) | fail)
    exact hend _ _ (no (by rw [e1]; exact ho)) rfl rfl rfl rfl
   ·conv => whnf
    skip
    rw [yes true rfl (by rw [e1]; exact ho)]; exact .plain _ rfl
  ·have hd : ws.drop i = [] := List.drop_eq_nil_of_le (by omega)
   rw [hd] at hI
   have hI : fstW (wBad m) ws 0 = -1 := hI
   conv => whnf
   refine EPrim.lss2 rfl rfl (fun h => by omega) (fun _ => ?_); conv => whnf
   rw [hI]; exact .plain _ rfl
 ·cases hh
def dskB (x : DK) : Bool := decide (1 ≤ x.us.length ∧ x.us.length ≤ 256 ∧ x.ws.length ≤ 1024) && !((x.bs.map List.length).any oddB) && !(x.ws.any (wBad x.us.length)) && !(x.dead && (decide (0 < x.ws.length) || (x.bs.map List.length).any posB))
def dskF : Fam DK := ⟨DK.ok, fun x => [x.v], fun x => .int .i64 (if dskB x = true then 0 else 8), fun x y hx hy h => by rw [DK.inj hx.a hy.a (List.cons.inj h).1]⟩
theorem all2_mapD {us : List AV} {bs : List (List Nat)} (h : All2 BAt us bs) (hs : ∀ b ∈ bs, b.length < 1000000) : All2 (fun u n => BN.ok ⟨u, n⟩) us (bs.map List.length) := by
 induction h with
 | nil => exact .nil
 | @cons u b us bs a _ ih => exact .cons ⟨⟨_, a.1⟩, by have := hs b (by simp); dsimp only; omega⟩ (ih fun c hc => hs c (by simp [hc]))
def code101 : AC := match a101 with | .mk c _ => c
theorem dskF_ok {P : Program} {e : Env} {fn : Func} (hE : EnvOk P e) (hm : P.follows .mixedOrders = true) (h93 : Inl e 93 code93 [.tmp 4]) (h138 : Con e 138 dskI) (h144 : Inl e 144 code144 [.tmp 4]) (h163 : Con e 163 widxO) (hf : P.funcs[101]? = some fn) (hc : compF P fn = some a101) (hb : HasBody P 101) : OvOk P 101 dskF.O := by
 refine Fam.ok_of hb fun x hx => ?_
 refine ⟨by show (AM.hf x.v && true) = true; rw [DK.hf hx.a]; rfl, rfl, C.of_V hE hm hf hc ?_⟩
 have fin : ∀ s (n : Int), n = (if dskB x = true then 0 else 8) → Frz s (.int .i64 n) (dskF.out x) := by rintro s n rfl; exact .plain _ rfl
 obtain ⟨⟨hbl, hbs, hwl, hws⟩, hn, hm', hb', hw'⟩ := hx
 obtain ⟨bv, us, bs, wv, ws, dd⟩ := x
 dsimp only at hbl hbs hwl hws hn hm' hb' hw'
 have hBL : BL.ok ⟨bv, us, bs.map List.length⟩ := ⟨hbl, all2_mapD hbs hb', by dsimp only; omega⟩
 have hodd := fun (K : AV → St → Prop) (s : St) => fcon_run (e := e) oddB 143 bv (bs.map List.length) s (fun K hk => dskI_odd h138 hBL hk) K
 have hpos := fun (K : AV → St → Prop) (s : St) => fcon_run (e := e) posB 146 bv (bs.map List.length) s (fun K hk => dskI_pos h138 hBL hk) K
 have hwa := fstW_any (wBad us.length) ws 0
 unfold dskB at fin
 dsimp only at fin
 show VW P e 0 code101 (initT [.agg [bv, wv, .bool dd]] 0 .lf) St0 none [] _
 conv => whnf
 refine EPrim.lenZ rfl hbl ?_; conv => whnf
 by_cases hT : 1 ≤ us.length ∧ us.length ≤ 256 ∧ ws.length ≤ 1024
 ·rw [decide_eq_true hT] at fin
  repeat' (first | (refine EPrim.lenZ rfl hwl ?_; conv => whnf) | ((first | refine w1 rfl rfl ?_ ?_ | refine w3 rfl rfl ?_ ?_) <;> intro _ <;> first | (exfalso; omega) | (conv => whnf)) | fail)
  refine ESc.inl h93 (hodd _ _ ?_)
  cases ho : (bs.map List.length).any oddB
  ·rw [ho] at fin
   conv => whnf
   skip
   refine ESc.inl h144 ?_; conv => whnf
   refine ESc.ov h163 (widxO_run (x := ⟨wv, ws, 1, us.length⟩) ⟨hwl, fun w hw => ⟨hws w hw, hw' w hw⟩, rfl, by unfold i64B; dsimp only; omega, by dsimp only; omega⟩) ?_; conv => whnf
   cases hw : ws.any (wBad us.length)
   ·have hwn : ¬ (0 ≤ fstW (wBad us.length) ws 0) := fun h => by rw [hwa.1 h] at hw; cases hw
    rw [hw] at fin
    refine EPrim.geq2 (a := fstW (wBad us.length) ws 0) (b := 0) rfl rfl (fun h => absurd h hwn) (fun _ => ?_)
    cases dd
    ·conv => whnf
     skip
     exact fin _ 0 (by simp)
    ·conv => whnf
     repeat' (first | (refine EPrim.lenZ rfl hwl ?_; conv => whnf) | ((refine w3 rfl rfl ?_ ?_) <;> intro _ <;> first | (exfalso; omega) | (conv => whnf)) | fail)
     ·exact fin _ 8 (by rw [decide_eq_true (by omega)]; simp)
     ·refine ESc.inl h93 (hpos _ _ ?_)
      rw [decide_eq_false (by omega)] at fin
      cases hp : (bs.map List.length).any posB
      ·rw [hp] at fin
       conv => whnf
       skip
       exact fin _ 0 (by simp)
      ·rw [hp] at fin
       conv => whnf
       skip
       exact fin _ 8 (by simp)
   ·rw [hw] at fin
    refine EPrim.geq2 (a := fstW (wBad us.length) ws 0) (b := 0) rfl rfl (fun _ => ?_) (fun h => absurd (hwa.2 hw) (by omega)); conv => whnf
    skip
    exact fin _ 8 (by simp)
  ·rw [ho] at fin
   conv => whnf
   skip
   exact fin _ 8 (by simp)
 ·rw [decide_eq_false hT] at fin
  repeat' (first | (refine EPrim.lenZ rfl hwl ?_; conv => whnf) | ((first | refine w1 rfl rfl ?_ ?_ | refine w3 rfl rfl ?_ ?_) <;> intro _ <;> first | (exfalso; omega) | (conv => whnf)) | fail)
  all_goals first | exact fin _ 8 (by simp) | (exfalso; omega)
end Go.AM
set_option maxRecDepth 100000
namespace Go.AM
open Go.RowKit
def tWr : List Ty := [.int .i64, tByt]
def tDisk : List Ty := [.sl tByt, .sl (.st tWr), .bool]
theorem wr_of {l : List AV} (h : Shapes tWr l) : ∃ w : WR, w.any ∧ l = w.c := by
 obtain ⟨at_, b1, rfl, w1, g1⟩ := shapes_int h
 obtain ⟨a2, b2, rfl, s2, g2⟩ := shapes_cons g1
 rw [shapes_nil g2]
 obtain ⟨u, b, rfl, q⟩ := bytes_of s2
 exact ⟨⟨at_, u, b⟩, ⟨wf_i64 w1, q⟩, rfl⟩
theorem wrs_of {l : List AV} (h : Shape (.sl (.st tWr)) l) : ∃ (v : AV) (L : List WR), l = [v] ∧ Sl 2 L.length (wrs L) v ∧ ∀ w ∈ L, w.any := by
 cases h with
 | nil _ => exact ⟨.nils, [], rfl, .inl ⟨rfl, rfl, rfl⟩, by simp⟩
 | es _ => exact ⟨.es, [], rfl, .inr (.inl ⟨rfl, rfl, rfl⟩), by simp⟩
 | fz _ n m c ls h1 h2 h3 h4 h5 _ =>
  have : ∀ ls : List (List AV), (∀ l ∈ ls, Shape (.st tWr) l) → ∃ L : List WR, ls.flatten = wrs L ∧ L.length = ls.length ∧ ∀ o ∈ L, o.any := by
   intro ls
   induction ls with
   | nil => intro _; exact ⟨[], rfl, rfl, by simp⟩
   | cons l ls ih =>
    intro h
    obtain ⟨L, a, b, c⟩ := ih (fun m hm => h m (by simp [hm]))
    obtain ⟨o, ho, rfl⟩ := wr_of (by have := h l (by simp); cases this with | st _ _ hs => exact hs)
    exact ⟨o :: L, by rw [List.flatten_cons, a]; rfl, by simp [b], fun q hq => by
     rcases List.mem_cons.1 hq with rfl | hq
     ·exact ho
     ·exact c q hq⟩
  obtain ⟨L, a, b, d⟩ := this ls h4
  exact ⟨_, L, rfl, .inr (.inr ⟨c, by rw [a, b, h1], wrs_length L⟩), d⟩
theorem disk_of {l : List AV} (h : Shapes tDisk l) : ∃ d : DK, d.any ∧ l = d.c := by
 obtain ⟨a1, b1, rfl, s1, g1⟩ := shapes_cons h
 obtain ⟨a2, b2, rfl, s2, g2⟩ := shapes_cons g1
 obtain ⟨x, b3, rfl, g3⟩ := shapes_bool g2
 rw [shapes_nil g3]
 obtain ⟨bv, us, bs, rfl, q1, q2⟩ := blocks_of s1
 obtain ⟨wv, L, rfl, q3, q4⟩ := wrs_of s2
 exact ⟨⟨bv, us, bs, wv, L, x⟩, ⟨q1, q2, q3, q4⟩, rfl⟩
end Go.AM
