/-
 Functions of the program as the abstract machine reads them, and what is stated of them, checked by the kernel. No conditions.
-/
import Derived.Test.YtnnbibnobmegpaaSeatT
import Derived.Test.YtnnbibnobmegpaaSeatU
import Derived.Test.YtnnbibnobmegpaaAM5
import Derived.Test.YtnnbibnobmegpaaSeatV
import Derived.Test.YtnnbibnobmegpaaSeatR
import Derived.Test.YtnnbibnobmegpaaSeatQ
set_option linter.unusedVariables false
set_option linter.unusedSimpArgs false
set_option maxRecDepth 100000
namespace Go.AM
attribute [local irreducible] W
open X
theorem same_self {e : Env} (h25 : Con e 25 sameF.O) {st : Int} {y : RdS} (hst : i64B st) (hy : y.ok) (K : AV → St → Prop) (s : St) (hk : K (.bool true) s) : ESc e 25 [.agg [.int .i64 st, rslV y.S, rblV y.S, rpaV y.p], .agg [.int .i64 st, rslV y.S, rblV y.S, rpaV y.p]] s K := by
 have hd := rdDB_ok hy hst
 have hb : ∀ b ∈ (rdDB st y).bs, b.length = 0 ∨ b.length = 128 := fun b hb => by
  obtain ⟨q, hq, rfl⟩ := List.mem_map.1 (show b ∈ y.S.map Prod.snd from hb)
  exact .inr (hy.s q hq).2.1
 have ha : (rdDB st y).any := by
  obtain ⟨⟨a, b, c, n, ⟨bl, _, bn⟩, _⟩, bs, pb⟩ := hd
  exact ⟨a, b, c, bl, bs, pb⟩
 have hn := hy.n
 refine ESc.fam sameF h25 ⟨rdDB st y, rdDB st y⟩ ⟨ha, ha, hb, hb, ?_⟩ (u := .bool true) ?_ hk
 ·show (y.S.map Prod.fst).length < _ ∧ (y.S.map _).length < _
  rw [List.length_map, List.length_map]; omega
 ·show AV.bool (sameB _ _) = _
  unfold sameB
  simp
end Go.AM
set_option maxRecDepth 100000
namespace Go.AM
attribute [local irreducible] W
open X
def code3 : AC := match a3 with | .mk c _ => c
def loop3 : AC := match code3 with
 | .seq _ (.seq _ (.seq _ (.seq _ (.seq _ (.seq _ (.seq (.seq _ (.block _ (.loop b))) _)))))) => b
 | _ => .skip
def tl3 (i : Int) : List (Nat × AV) := [(3, .ptr 0 0), (4, .ptr 1 0), (7, .ptr 2 0), (8, .ptr 3 0), (14, .int .i64 i)]
def alX (ex L cL : Nat) : List AObj := [.row ex [.any, .any, .any, .any, .sl 4 0 L (some cL)]]
def cel (L i : Nat) (cB : Nat → Nat) : List AV := (List.range L).map fun j => if j = i then .sl 5 0 128 (some (cB j)) else .sl (6 + j) 0 128 (some (cB j))
def alR (ex el eb L cL i : Nat) (cB : Nat → Nat) (n : Int) : List AObj := [.row ex [.any, .any, .any, .any, .sl 4 0 L (some cL)], .row el (cel L i cB), .row eb [.int .u8 n]]
theorem cel_at {L i : Nat} {cB : Nat → Nat} (h : i < L) : getL (cel L i cB) i = some (.sl 5 0 128 (some (cB i))) := by
 rw [getL_eq]; unfold cel
 rw [List.getElem?_map, List.getElem?_range h]; simp
theorem optE {x : Option AV} {v : AV} {F : AV → Prop} (h : x = some v) (hk : F v) : Option.rec (motive := fun _ => Prop) False F x := by subst h; exact hk
theorem EPrim.addU8 {t : AT} {s : St} {k : AV → St → Prop} {x y : AO} {a b : Int} (hx : ev x t = .some (.int .u8 a)) (hy : ev y t = .some (.int .u8 b)) (hk : k (.int .u8 ((a + b) % 256)) s) : EPrim (.bin .add x y) t s k :=
 EPrim.add hx hy hk
theorem rd_exit {P : Program} {e : Env} (hE : EnvOk P e) (hm : P.follows .mixedOrders = true) (o0 o1 o2 : AObj) (ex L cL : Nat) (hL : L < 1000) :
 W P 5 none loop3 (ofL (tl3 (L : Int))) ((allocs St0 ([o0, o1, o2] ++ alX ex L cL)).up 5) [] (fun x t s ds => x = .exit 0 ∧ ds = [] ∧ t.get 3 = some (.ptr 0 0) ∧ t.get 4 = some (.ptr 1 0) ∧ t.get 7 = some (.ptr 2 0) ∧ s.get 0 = some o0 ∧ s.get 1 = some o1 ∧ s.get 2 = some o2) := by
 refine vw_sound hE hm ?_; conv => whnf
 repeat' (first | ((refine w1 rfl rfl ?_ ?_) <;> intro _ <;> first | (exfalso; omega) | (conv => whnf)) | ((first | refine w18 rfl ?_ | refine ⟨rfl, ?_⟩); conv => whnf) | fail)
 rfl
theorem rd_round {P : Program} {e : Env} (hE : EnvOk P e) (hm : P.follows .mixedOrders = true) (o0 o1 o2 : AObj) (ex el eb L cL i : Nat) (cB : Nat → Nat) (n : Int) (hL : L < 1000) (hi : i < L) (hn : 0 ≤ n ∧ n < 256) :
 W P (6 + L) none loop3 (ofL (tl3 (i : Int))) ((allocs St0 ([o0, o1, o2] ++ alR ex el eb L cL i cB n)).up (6 + L)) [] (fun x t s ds => x = .normal ∧ ds = [] ∧ t.get 3 = some (.ptr 0 0) ∧ t.get 4 = some (.ptr 1 0) ∧ t.get 7 = some (.ptr 2 0) ∧ t.get 8 = some (.ptr 3 0) ∧ t.get 14 = some (.int .i64 ((i : Int) + 1)) ∧ s.get 0 = some o0 ∧ s.get 1 = some o1 ∧ s.get 2 = some o2 ∧ s.get 3 = some (.row ex [.any, .any, .any, .any, .sl 4 0 L (some cL)]) ∧ s.get 4 = some (.row el (cel L i cB)) ∧ ∃ n', s.get 5 = some (.row eb [.int .u8 n']) ∧ 0 ≤ n' ∧ n' < 256) := by
 refine vw_sound hE hm ?_
 have hg : getL (cel L i cB) (0 + (i : Int).toNat * 1) = some (.sl 5 0 128 (some (cB i))) := by rw [show 0 + (i : Int).toNat * 1 = i by simp]; exact cel_at hi
 conv => whnf
 repeat' (first | (refine EPrim.ixsPZ rfl rfl (by omega) (by omega) ?_; conv => whnf) | (refine optE hg ?_; conv => whnf) | (refine EPrim.addU8 rfl rfl ?_; conv => whnf) | ((first | refine w1 rfl rfl ?_ ?_ | refine w6 rfl rfl ?_ ?_) <;> intro _ <;> first | (exfalso; omega) | (conv => whnf)) | ((first | refine w7 rfl rfl (by omega) ?_ | refine w18 rfl ?_ | refine ⟨rfl, ?_⟩); conv => whnf) | fail)
 exact ⟨(n + 1) % 256, rfl, by omega, by omega⟩
structure SpR (P : Program) (w : World) (L bx bl cL : Nat) (B cB : Nat → Nat) : Prop where
 x : ∃ c, Spn P w bx c ∧ 5 ≤ c.size ∧ c[4]? = some (.slice (some ⟨bl, 0, none⟩) L cL)
 l : ∃ c, Spn P w bl c ∧ L ≤ c.size ∧ ∀ j, j < L → c[j]? = some (.slice (some ⟨B j, 0, none⟩) 128 (cB j))
 b : ∀ j, j < L → ∃ c n, Spn P w (B j) c ∧ c[0]? = some (.int .u8 n) ∧ 0 ≤ n ∧ n < 256
structure SpF (γ : Gam) (w0 : World) (b : Nat) : Prop where
 fz : γ.fz b = none
 ap : ∀ r L, r < 3 → γ r = some L → L.b ≠ b
 nw : w0.heap.size ≤ b
structure SpI (P : Program) (γ0 : Gam) (w0 : World) (N : Nat) (o0 o1 o2 : AObj) (L bx bl cL : Nat) (B cB : Nat → Nat) (i : Nat) (γ : Gam) (a : Act) (w : World) : Prop where
 hN : N ≤ a.tmps.size
 tr : TR γ (ofL [(3, .ptr 0 0), (4, .ptr 1 0), (7, .ptr 2 0), (14, .int .i64 (i : Int))]) a.tmps
 sm : Sim P γ (allocs St0 [o0, o1, o2]) w
 df : DR γ [] a.defers
 pp : Stp γ0 St0 w0 γ (allocs St0 [o0, o1, o2]) w
 od : ∀ b c, γ.fz b = some c → c.old = true
 kn : ∀ r, r < 3 → ∃ L, γ r = some L
 rt : a.tmps[8]? = some (.pointer (some ⟨bx, 0, none⟩))
 sp : SpR P w L bx bl cL B cB
 fx : SpF γ w0 bx
 fl : SpF γ w0 bl
 fb : ∀ j, j < L → SpF γ w0 (B j)
theorem SpI.exit {P : Program} {e : Env} (hE : EnvOk P e) (hm : P.follows .mixedOrders = true) {γ0 γ : Gam} {w0 w : World} {N L bx bl cL : Nat} {o0 o1 o2 : AObj} {B cB : Nat → Nat} {a : Act} {c1 : Code} {m : Nat} (hL : L < 1000) (hcL : L ≤ cL) (hne : bx ≠ bl)
 (hγ0 : ∀ r, γ0 r = none) (hO : ∀ b c, γ0.fz b = some c → c.old = true) (u0 : unO 3 o0 = true) (u1 : unO 3 o1 = true) (u2 : unO 3 o2 = true) (hc : comp P N c1 = some loop3) (h : SpI P γ0 w0 N o0 o1 o2 L bx bl cL B cB L γ a w) :
 c1.wpIn (fen none) m P (fun ex a' w' => ex = .exit 0 ∧ ∃ t' s', Post P γ0 St0 w0 N (.exit 0) t' s' [] ex a' w' ∧ t' = ofL [(3, .ptr 0 0), (4, .ptr 1 0), (7, .ptr 2 0)] ∧ s' = allocs St0 [o0, o1, o2]) a w := by
 obtain ⟨cx, hx, hx5, hx4⟩ := h.sp.x
 obtain ⟨ex, hxh, esx, hxs⟩ := hx.h
 obtain ⟨cl, hl, _, _⟩ := h.sp.l
 obtain ⟨D, hD⟩ : ∃ D : Nat → Option Loc, D = fun r => if r = 3 then some ⟨bx, 0, cx.size, esx⟩ else if r = 4 then some ⟨bl, 0, 0, 0⟩ else none := ⟨_, rfl⟩
 have d3 : D 3 = some ⟨bx, 0, cx.size, esx⟩ := by rw [hD]; rfl
 have d4 : D 4 = some ⟨bl, 0, 0, 0⟩ := by rw [hD]; rfl
 have dD : ∀ r L', 3 ≤ r → D r = some L' → (r = 3 ∧ L'.b = bx) ∨ (r = 4 ∧ L'.b = bl) := by
  intro r L' hr hd
  rw [hD] at hd
  dsimp only at hd
  split at hd
  ·cases hd; exact .inl ⟨by assumption, rfl⟩
  ·split at hd
   ·cases hd; exact .inr ⟨by assumption, rfl⟩
   ·cases hd
 have hN : Nms P γ 3 5 1 D w0 w := by
  refine ⟨?_, ?_, ?_, ?_, ?_, ?_, ?_⟩
  ·intro r L' hr hd; rcases dD r L' hr hd with ⟨h1, _⟩ | ⟨h1, _⟩ <;> omega
  ·intro r h1 h2
   have : r = 3 ∨ r = 4 := by omega
   rcases this with rfl | rfl
   ·exact ⟨_, d3⟩
   ·exact ⟨_, d4⟩
  ·intro r L' hr hd; rcases dD r L' hr hd with ⟨_, e1⟩ | ⟨_, e1⟩ <;> rw [e1]
   ·exact h.fx.fz
   ·exact h.fl.fz
  ·intro r L' hr hd r' L2 hr' e2; rcases dD r L' hr hd with ⟨_, e1⟩ | ⟨_, e1⟩ <;> rw [e1]
   ·exact h.fx.ap r' L2 hr' e2
   ·exact h.fl.ap r' L2 hr' e2
  ·intro r L' hr hd; rcases dD r L' hr hd with ⟨_, e1⟩ | ⟨_, e1⟩ <;> rw [e1]
   ·exact h.fx.nw
   ·exact h.fl.nw
  ·intro r L' hr hd; rcases dD r L' hr hd with ⟨_, e1⟩ | ⟨_, e1⟩ <;> rw [e1]
   ·exact ⟨_, hx⟩
   ·exact ⟨_, hl⟩
  ·intro i j Li Lj hi hj hij; omega
 have hle := gamA_le (D := D) (m := 1) h.sm rfl
 have g3 : gamA γ 3 D 1 w 3 = some ⟨bx, 0, cx.size, esx⟩ := (gamA_hi (Nat.le_refl 3)).trans d3
 have g4 : gamA γ 3 D 1 w 4 = some ⟨bl, 0, 0, 0⟩ := (gamA_hi (by decide)).trans d4
 have hsA : Sim P (gamA γ 3 D 1 w) ((allocs St0 ([o0, o1, o2] ++ alX ex L cL)).up 5) w := by
  refine Sim.window h.sm rfl rfl (by decide) hN ?_ (by decide)
  intro j o ho
  have hj : j = 0 := by have := (List.getElem?_eq_some_iff.1 ho).1; simp [alX] at this; exact this
  subst hj
  cases ho
  refine ⟨_, d3, cx, hxh, rfl, rfl, hxs, hx5, ?_, hx.o⟩
  intro q v hv
  have hq : q < 5 := (List.getElem?_eq_some_iff.1 hv).1
  obtain ⟨x, hxq⟩ : ∃ x, cx[q]? = some x := ⟨cx[q]'(by omega), Array.getElem?_eq_getElem _⟩
  have h1 : x.oneCell' = true := hx.o x (by rw [Array.mem_toList_iff]; exact Array.mem_of_getElem? hxq)
  rcases q with _ | _ | _ | _ | _ | q
  ·cases hv; exact ⟨x, hxq, .any _ h1, h1⟩
  ·cases hv; exact ⟨x, hxq, .any _ h1, h1⟩
  ·cases hv; exact ⟨x, hxq, .any _ h1, h1⟩
  ·cases hv; exact ⟨x, hxq, .any _ h1, h1⟩
  ·cases hv; exact ⟨_, hx4, .sl 4 0 L cL _ g4 hcL, rfl⟩
  ·omega
 have hTA : TR (gamA γ 3 D 1 w) (ofL (tl3 (L : Int))) a.tmps := by
  intro q v hv
  obtain ⟨p, hp, h1, h2⟩ := ofL_get hv
  simp only [tl3, List.mem_cons, List.not_mem_nil, or_false] at hp
  rcases hp with rfl | rfl | rfl | rfl | rfl <;> subst h1 <;> subst h2
  ·obtain ⟨v', a1, a2⟩ := h.tr 3 _ rfl; exact ⟨v', a1, a2.mono hle⟩
  ·obtain ⟨v', a1, a2⟩ := h.tr 4 _ rfl; exact ⟨v', a1, a2.mono hle⟩
  ·obtain ⟨v', a1, a2⟩ := h.tr 7 _ rfl; exact ⟨v', a1, a2.mono hle⟩
  ·exact ⟨_, h.rt, .ptr 3 0 _ g3⟩
  ·obtain ⟨v', a1, a2⟩ := h.tr 14 _ rfl; exact ⟨v', a1, a2.mono hle⟩
 refine wpIn_mono ((rd_exit hE hm o0 o1 o2 ex L cL hL).use hc h.hN hTA hsA (h.df.mono hle) rfl ?_) ?_
 ·intro r hr
  by_cases h3 : r < 3
  ·obtain ⟨L', e'⟩ := h.kn r h3; exact ⟨L', hle.loc _ _ e'⟩
  ·obtain ⟨L', e'⟩ := hN.all r (by omega) hr; exact ⟨L', (gamA_hi (by omega)).trans e'⟩
 rintro ex' a' w' ⟨x, t', s', ds', ⟨rfl, rfl, q3, q4, q7, r0, r1, r2⟩, rfl, hN', γ', hst, hsim, ht, hd⟩
 obtain ⟨z1, z2, z3, z4, z5⟩ := Sim.unwin (k := 3) hγ0 hO h.od h.sm rfl h.pp h.kn hN hst hsim (os2 := [o0, o1, o2]) rfl (by
  intro r o ho
  have hr : r < 3 := (List.getElem?_eq_some_iff.1 ho).1
  rcases r with _ | _ | _ | r
  ·cases ho; exact ⟨r0, u0⟩
  ·cases ho; exact ⟨r1, u1⟩
  ·cases ho; exact ⟨r2, u2⟩
  ·omega)
 refine ⟨rfl, _, _, ⟨rfl, hN', thaw γ' 3, z2, z1, ?_, ?_⟩, rfl, rfl⟩
 ·intro q v hv
  obtain ⟨p, hp, h1, h2⟩ := ofL_get hv
  simp only [List.mem_cons, List.not_mem_nil, or_false] at hp
  rcases hp with rfl | rfl | rfl <;> subst h1 <;> subst h2
  ·obtain ⟨v', a1, a2⟩ := ht 3 _ q3; exact ⟨v', a1, VR_thaw _ rfl a2⟩
  ·obtain ⟨v', a1, a2⟩ := ht 4 _ q4; exact ⟨v', a1, VR_thaw _ rfl a2⟩
  ·obtain ⟨v', a1, a2⟩ := ht 7 _ q7; exact ⟨v', a1, VR_thaw _ rfl a2⟩
 ·exact hd.nil2
theorem SpI.round {P : Program} {e : Env} (hE : EnvOk P e) (hm : P.follows .mixedOrders = true) {γ0 γ : Gam} {w0 w : World} {N L bx bl cL i : Nat} {o0 o1 o2 : AObj} {B cB : Nat → Nat} {a : Act} {c1 : Code} {m : Nat} (hL : L < 1000) (hcL : L ≤ cL) (hcB : ∀ j, j < L → 128 ≤ cB j) (hi : i < L)
 (hne : bx ≠ bl) (hnx : ∀ j, j < L → B j ≠ bx) (hnl : ∀ j, j < L → B j ≠ bl)
 (hγ0 : ∀ r, γ0 r = none) (hO : ∀ b c, γ0.fz b = some c → c.old = true) (u0 : unO 3 o0 = true) (u1 : unO 3 o1 = true) (u2 : unO 3 o2 = true) (hc : comp P N c1 = some loop3) (h : SpI P γ0 w0 N o0 o1 o2 L bx bl cL B cB i γ a w) :
 c1.wpIn (fen none) m P (fun ex a' w' => ex = .normal ∧ ∃ γ', SpI P γ0 w0 N o0 o1 o2 L bx bl cL B cB (i + 1) γ' a' w') a w := by
 obtain ⟨cx, hx, hx5, hx4⟩ := h.sp.x
 obtain ⟨ex, hxh, esx, hxs⟩ := hx.h
 obtain ⟨cl, hl, hlL, hlc⟩ := h.sp.l
 obtain ⟨el, hlh, esl, hls⟩ := hl.h
 obtain ⟨cb, n, hb, hb0, hn⟩ := h.sp.b i hi
 obtain ⟨eb, hbh, esb, hbs⟩ := hb.h
 obtain ⟨D, hD⟩ : ∃ D : Nat → Option Loc, D = fun r => if r = 3 then some ⟨bx, 0, cx.size, esx⟩ else if r = 4 then some ⟨bl, 0, cl.size, esl⟩ else if r = 5 then some ⟨B i, 0, cb.size, esb⟩ else if r < 6 + L then some ⟨B (r - 6), 0, 0, 0⟩ else none := ⟨_, rfl⟩
 have d3 : D 3 = some ⟨bx, 0, cx.size, esx⟩ := by rw [hD]; rfl
 have d4 : D 4 = some ⟨bl, 0, cl.size, esl⟩ := by rw [hD]; rfl
 have d5 : D 5 = some ⟨B i, 0, cb.size, esb⟩ := by rw [hD]; rfl
 have d6 : ∀ j, j < L → D (6 + j) = some ⟨B j, 0, 0, 0⟩ := by
  intro j hj
  rw [hD]
  dsimp only
  rw [if_neg (by omega), if_neg (by omega), if_neg (by omega), if_pos (by omega), show 6 + j - 6 = j by omega]
 have dD : ∀ r L', 3 ≤ r → D r = some L' → r < 6 + L ∧ (L'.b = bx ∨ L'.b = bl ∨ ∃ j, j < L ∧ L'.b = B j) := by
  intro r L' hr hd
  rw [hD] at hd
  dsimp only at hd
  split at hd
  ·cases hd; exact ⟨by omega, .inl rfl⟩
  ·split at hd
   ·cases hd; exact ⟨by omega, .inr (.inl rfl)⟩
   ·split at hd
    ·cases hd; exact ⟨by omega, .inr (.inr ⟨i, hi, rfl⟩)⟩
    ·split at hd
     ·cases hd; exact ⟨by omega, .inr (.inr ⟨r - 6, by omega, rfl⟩)⟩
     ·cases hd
 have dF : ∀ r L', 3 ≤ r → D r = some L' → SpF γ w0 L'.b ∧ ∃ c, Spn P w L'.b c := by
  intro r L' hr hd
  rcases (dD r L' hr hd).2 with e1 | e1 | ⟨j, hj, e1⟩ <;> rw [e1]
  ·exact ⟨h.fx, _, hx⟩
  ·exact ⟨h.fl, _, hl⟩
  ·obtain ⟨c', _, h1, _⟩ := h.sp.b j hj
   exact ⟨h.fb j hj, _, h1⟩
 have hN : Nms P γ 3 (6 + L) 3 D w0 w := by
  refine ⟨fun r L' hr hd => (dD r L' hr hd).1, ?_, fun r L' hr hd => (dF r L' hr hd).1.fz, fun r L' hr hd r' L2 hr' e2 => (dF r L' hr hd).1.ap r' L2 hr' e2, fun r L' hr hd => (dF r L' hr hd).1.nw, fun r L' hr hd => (dF r L' hr hd).2, ?_⟩
  ·intro r h1 h2
   have : r = 3 ∨ r = 4 ∨ r = 5 ∨ 6 ≤ r := by omega
   rcases this with rfl | rfl | rfl | h6
   ·exact ⟨_, d3⟩
   ·exact ⟨_, d4⟩
   ·exact ⟨_, d5⟩
   ·exact ⟨_, by have := d6 (r - 6) (by omega); rwa [show 6 + (r - 6) = r by omega] at this⟩
  ·intro p q Li Lj hp hq hpq e1 e2
   have hB1 := hnx i hi
   have hB2 := hnl i hi
   rcases p with _ | _ | _ | p
   ·rw [d3] at e1; cases e1
    rcases q with _ | _ | _ | q
    ·omega
    ·rw [d4] at e2; cases e2; exact hne
    ·rw [d5] at e2; cases e2; exact fun e => hB1 e.symm
    ·omega
   ·rw [d4] at e1; cases e1
    rcases q with _ | _ | _ | q
    ·rw [d3] at e2; cases e2; exact fun e => hne e.symm
    ·omega
    ·rw [d5] at e2; cases e2; exact fun e => hB2 e.symm
    ·omega
   ·rw [d5] at e1; cases e1
    rcases q with _ | _ | _ | q
    ·rw [d3] at e2; cases e2; exact hB1
    ·rw [d4] at e2; cases e2; exact hB2
    ·omega
    ·omega
   ·omega
 have hle := gamA_le (D := D) (m := 3) h.sm rfl
 have g3 : gamA γ 3 D 3 w 3 = some ⟨bx, 0, cx.size, esx⟩ := (gamA_hi (Nat.le_refl 3)).trans d3
 have g4 : gamA γ 3 D 3 w 4 = some ⟨bl, 0, cl.size, esl⟩ := (gamA_hi (by decide)).trans d4
 have g5 : gamA γ 3 D 3 w 5 = some ⟨B i, 0, cb.size, esb⟩ := (gamA_hi (by decide)).trans d5
 have g6 : ∀ j, j < L → gamA γ 3 D 3 w (6 + j) = some ⟨B j, 0, 0, 0⟩ := fun j hj => (gamA_hi (by omega)).trans (d6 j hj)
 have one : ∀ {c : Array Value} {b : Nat} {q : Nat} {x : Value}, Spn P w b c → c[q]? = some x → x.oneCell' = true := fun hs hq => hs.o _ (by rw [Array.mem_toList_iff]; exact Array.mem_of_getElem? hq)
 have hsA : Sim P (gamA γ 3 D 3 w) ((allocs St0 ([o0, o1, o2] ++ alR ex el eb L cL i cB n)).up (6 + L)) w := by
  refine Sim.window h.sm rfl rfl (by omega) hN ?_ (by decide)
  intro j o ho
  have hj : j < 3 := (List.getElem?_eq_some_iff.1 ho).1
  rcases j with _ | _ | _ | j
  ·cases ho
   refine ⟨_, d3, cx, hxh, rfl, rfl, hxs, hx5, ?_, hx.o⟩
   intro q v hv
   have hq : q < 5 := (List.getElem?_eq_some_iff.1 hv).1
   obtain ⟨x, hxq⟩ : ∃ x, cx[q]? = some x := ⟨cx[q]'(by omega), Array.getElem?_eq_getElem _⟩
   have h1 := one hx hxq
   rcases q with _ | _ | _ | _ | _ | q
   ·cases hv; exact ⟨x, hxq, .any _ h1, h1⟩
   ·cases hv; exact ⟨x, hxq, .any _ h1, h1⟩
   ·cases hv; exact ⟨x, hxq, .any _ h1, h1⟩
   ·cases hv; exact ⟨x, hxq, .any _ h1, h1⟩
   ·cases hv; exact ⟨_, hx4, .sl 4 0 L cL _ g4 hcL, rfl⟩
   ·omega
  ·cases ho
   refine ⟨_, d4, cl, hlh, rfl, rfl, hls, by unfold cel; simpa using hlL, ?_, hl.o⟩
   intro q v hv
   unfold cel at hv
   have hq : q < L := by have := (List.getElem?_eq_some_iff.1 hv).1; simpa using this
   rw [List.getElem?_map, List.getElem?_range hq] at hv
   have hv : some (if q = i then AV.sl 5 0 128 (some (cB q)) else .sl (6 + q) 0 128 (some (cB q))) = some v := hv
   have hv := Option.some.inj hv
   subst hv
   refine ⟨_, hlc q hq, ?_, rfl⟩
   by_cases e1 : q = i
   ·rw [if_pos e1]; subst e1; exact .sl 5 0 128 _ _ g5 (hcB q hq)
   ·rw [if_neg e1]; exact .sl (6 + q) 0 128 _ _ (g6 q hq) (hcB q hq)
  ·cases ho
   refine ⟨_, d5, cb, hbh, rfl, rfl, hbs, ?_, ?_, hb.o⟩
   ·show 1 ≤ cb.size
    have := (Array.getElem?_eq_some_iff.1 hb0).1; omega
   ·intro q v hv
    have hq : q < 1 := (List.getElem?_eq_some_iff.1 hv).1
    obtain rfl : q = 0 := by omega
    cases hv
    exact ⟨_, hb0, .int _ _, rfl⟩
  ·omega
 have hTA : TR (gamA γ 3 D 3 w) (ofL (tl3 (i : Int))) a.tmps := by
  intro q v hv
  obtain ⟨p, hp, h1, h2⟩ := ofL_get hv
  simp only [tl3, List.mem_cons, List.not_mem_nil, or_false] at hp
  rcases hp with rfl | rfl | rfl | rfl | rfl <;> subst h1 <;> subst h2
  ·obtain ⟨v', a1, a2⟩ := h.tr 3 _ rfl; exact ⟨v', a1, a2.mono hle⟩
  ·obtain ⟨v', a1, a2⟩ := h.tr 4 _ rfl; exact ⟨v', a1, a2.mono hle⟩
  ·obtain ⟨v', a1, a2⟩ := h.tr 7 _ rfl; exact ⟨v', a1, a2.mono hle⟩
  ·exact ⟨_, h.rt, .ptr 3 0 _ g3⟩
  ·obtain ⟨v', a1, a2⟩ := h.tr 14 _ rfl; exact ⟨v', a1, a2.mono hle⟩
 refine wpIn_mono ((rd_round hE hm o0 o1 o2 ex el eb L cL i cB n hL hi hn).use hc h.hN hTA hsA (h.df.mono hle) (St.next_up _ _) ?_) ?_
 ·intro r hr
  by_cases h3 : r < 3
  ·obtain ⟨L', e'⟩ := h.kn r h3; exact ⟨L', hle.loc _ _ e'⟩
  ·obtain ⟨L', e'⟩ := hN.all r (by omega) hr; exact ⟨L', (gamA_hi (by omega)).trans e'⟩
 rintro ex' a' w' ⟨x, t', s', ds', ⟨rfl, rfl, q3, q4, q7, q8, q14, r0, r1, r2, r3, r4, n', r5, hn'⟩, rfl, hN', γ', hst, hsim, ht, hd⟩
 obtain ⟨z1, z2, z3, z4, z5⟩ := Sim.unwin (k := 3) hγ0 hO h.od h.sm rfl h.pp h.kn hN hst hsim (os2 := [o0, o1, o2]) rfl (by
  intro r o ho
  have hr : r < 3 := (List.getElem?_eq_some_iff.1 ho).1
  rcases r with _ | _ | _ | r
  ·cases ho; exact ⟨r0, u0⟩
  ·cases ho; exact ⟨r1, u1⟩
  ·cases ho; exact ⟨r2, u2⟩
  ·omega)
 have y3 := (z5 3 _ (by decide) d3).1
 have y4 := (z5 4 _ (by decide) d4).1
 have y5 := (z5 5 _ (by decide) d5).1
 have y6 := fun j hj => (z5 (6 + j) _ (by omega) (d6 j hj)).1
 have spf : ∀ r L', 3 ≤ r → D r = some L' → SpF (thaw γ' 3) w0 L'.b := fun r L' hr hd => by
  have f := (dF r L' hr hd).1
  exact ⟨(z5 r L' hr hd).2.1, fun r' L2 hr' e2 => f.ap r' L2 hr' (by rw [← z4 r' hr']; exact e2), f.nw⟩
 obtain ⟨cx', k1, _, _, k2, k3, k4, k5⟩ := hsim.obj 3 _ _ r3 y3
 obtain ⟨cl', l1, _, _, l2, l3, l4, l5⟩ := hsim.obj 4 _ _ r4 y4
 obtain ⟨cb', b1, _, _, b2, b3, b4, b5⟩ := hsim.obj 5 _ _ r5 y5
 refine ⟨rfl, thaw γ' 3, ⟨hN', ?_, z1, ?_, z2, z3, ?_, ?_, ⟨?_, ?_, ?_⟩, spf 3 _ (by decide) d3, spf 4 _ (by decide) d4, fun j hj => spf (6 + j) _ (by omega) (d6 j hj)⟩⟩
 ·intro q v hv
  obtain ⟨p, hp, h1, h2⟩ := ofL_get hv
  simp only [List.mem_cons, List.not_mem_nil, or_false] at hp
  rcases hp with rfl | rfl | rfl | rfl <;> subst h1 <;> subst h2
  ·obtain ⟨v', a1, a2⟩ := ht 3 _ q3; exact ⟨v', a1, VR_thaw _ rfl a2⟩
  ·obtain ⟨v', a1, a2⟩ := ht 4 _ q4; exact ⟨v', a1, VR_thaw _ rfl a2⟩
  ·obtain ⟨v', a1, a2⟩ := ht 7 _ q7; exact ⟨v', a1, VR_thaw _ rfl a2⟩
  ·obtain ⟨v', a1, a2⟩ := ht 14 _ q14; exact ⟨v', a1, VR_thaw _ rfl a2⟩
 ·exact hd.nil2
 ·intro r hr
  obtain ⟨L', e'⟩ := h.kn r hr
  exact ⟨L', (z4 r hr).trans e'⟩
 ·obtain ⟨v', a1, a2⟩ := ht 8 _ q8
  cases a2 with
  | ptr _ _ L' e' => rw [y3] at e'; cases e'; exact a1
 ·obtain ⟨v', a1, a2, _⟩ := k4 4 _ rfl
  refine ⟨cx', ⟨⟨_, k1, _, k2⟩, k5⟩, k3, ?_⟩
  cases a2 with
  | sl _ _ _ _ L' e' _ => rw [y4] at e'; cases e'; exact a1
 ·refine ⟨cl', ⟨⟨_, l1, _, l2⟩, l5⟩, by unfold cel at l3; simpa using l3, fun j hj => ?_⟩
  obtain ⟨v', a1, a2, _⟩ := l4 j (if j = i then .sl 5 0 128 (some (cB j)) else .sl (6 + j) 0 128 (some (cB j))) (by unfold cel; rw [List.getElem?_map, List.getElem?_range hj]; rfl)
  by_cases e1 : j = i
  ·rw [if_pos e1] at a2
   cases a2 with
   | sl _ _ _ _ L' e' _ => rw [y5] at e'; cases e'; subst e1; exact a1
  ·rw [if_neg e1] at a2
   cases a2 with
   | sl _ _ _ _ L' e' _ => rw [y6 j hj] at e'; cases e'; exact a1
 ·intro j hj
  by_cases e1 : B j = B i
  ·rw [e1]
   obtain ⟨v', a1, a2, _⟩ := b4 0 _ rfl
   cases a2
   exact ⟨cb', n', ⟨⟨_, b1, _, b2⟩, b5⟩, a1, hn'⟩
  ·obtain ⟨c', n2, f1, f2, f3⟩ := h.sp.b j hj
   refine ⟨c', n2, (z5 (6 + j) _ (by omega) (d6 j hj)).2.2 ?_ c' f1, f2, f3⟩
   rintro ⟨q, L2, hq, e2, e3⟩
   have e3 : L2.b = B j := e3
   rcases q with _ | _ | _ | q
   ·rw [d3] at e2; cases e2; exact hnx j hj e3.symm
   ·rw [d4] at e2; cases e2; exact hnl j hj e3.symm
   ·rw [d5] at e2; cases e2; exact e1 e3.symm
   ·omega
def tlE : List (Nat × AV) := [(3, .ptr 0 0), (4, .ptr 1 0), (7, .ptr 2 0)]
theorem rd_loop {P : Program} {e : Env} (hE : EnvOk P e) (hm : P.follows .mixedOrders = true) {e0 e1 e2 : Nat} {C0 C1 C2 : List AV} (w0 : hfs C0 = true) (w1 : hfs C1 = true) (w2 : hfs C2 = true) (u0 : uns 3 C0 = true) (u1 : uns 3 C1 = true) (u2 : uns 3 C2 = true) (ag sq st : Int) {x : RdS} (hx : x.ok) :
 WO P (.loop loop3) (ofL (tl3 0)) (allocs St0 [.row e0 C0, .row e1 C1, .row e2 C2, .row 36 (fC ag sq st x)]) [] (fun x t s ds => x = .exit 0 ∧ Tells P 0 t s ds (ofL tlE) (allocs St0 [.row e0 C0, .row e1 C1, .row e2 C2]) []) := by
 obtain ⟨o0, h0e⟩ : ∃ o, o = AObj.row e0 C0 := ⟨_, rfl⟩
 obtain ⟨o1, h1e⟩ : ∃ o, o = AObj.row e1 C1 := ⟨_, rfl⟩
 obtain ⟨o2, h2e⟩ : ∃ o, o = AObj.row e2 C2 := ⟨_, rfl⟩
 have u0 : unO 3 o0 = true := by rw [h0e]; exact u0
 have u1 : unO 3 o1 = true := by rw [h1e]; exact u1
 have u2 : unO 3 o2 = true := by rw [h2e]; exact u2
 rw [← h0e, ← h1e, ← h2e]
 obtain ⟨S, p⟩ := x
 cases S with
 | nil =>
  refine WO.of_W ?_
  have hf : AM.hf (rpaV p) = true := hf_rpaV p
  have hw : W P 0 none (.loop loop3) (ofL (tl3 0)) (allocs St0 [o0, o1, o2, .row 36 (fC ag sq st ⟨[], p⟩)]) [] (fun x t s ds => x = .exit 0 ∧ ds = [] ∧ t.get 3 = some (.ptr 0 0) ∧ t.get 4 = some (.ptr 1 0) ∧ t.get 7 = some (.ptr 2 0) ∧ s.get 0 = some o0 ∧ s.get 1 = some o1 ∧ s.get 2 = some o2) := by
   refine W.loop (fun n t s ds => n = 0 ∧ t = ofL (tl3 0) ∧ s = allocs St0 [o0, o1, o2, .row 36 (fC ag sq st ⟨[], p⟩)] ∧ ds = []) 0 ⟨rfl, rfl, rfl, rfl⟩ ?_
   rintro n t s ds ⟨rfl, rfl, rfl, rfl⟩
   refine vw_sound hE hm ?_; conv => whnf
   repeat' (first | (refine EPrim.lss2 (a := 0) (b := 0) rfl rfl (fun h => by omega) (fun _ => ?_); conv => whnf) | ((first | refine w16 rfl ?_ | refine ⟨rfl, ?_⟩); conv => whnf) | fail)
   rfl
  refine hw.mono ?_
  rintro x t s ds ⟨rfl, rfl, q3, q4, q7, r0, r1, r2⟩
  subst h0e h1e h2e
  exact ⟨rfl, Abs.tells (tl := tlE) (os := [.row e0 C0, .row e1 C1, .row e2 C2]) (rs := [0, 1, 2]) ⟨by decide, ⟨⟨rfl, q3⟩, ⟨rfl, q4⟩, ⟨rfl, q7⟩, trivial⟩, ⟨⟨rowH w0, by rw [mapRowH w0]; exact r0⟩, ⟨rowH w1, by rw [mapRowH w1]; exact r1⟩, ⟨rowH w2, by rw [mapRowH w2]; exact r2⟩, trivial⟩⟩⟩
 | cons q0 S =>
 intro N c γ w a γ0 w0 m h1 h2 hT hS hD hP hγ0 hO
 obtain ⟨c1, rfl, e1⟩ := (codeOf h1 : ∃ c1, c = .loop c1 ∧ comp P N c1 = some loop3)
 have old : ∀ b, w.heap.size ≤ b → γ.fz b = none := fun b hb => hS.fzout hb
 -- what is known of the rows
 obtain ⟨v0, t0, t0'⟩ := hT 3 _ rfl
 obtain ⟨v1, t1, t1'⟩ := hT 4 _ rfl
 obtain ⟨v2, t2, t2'⟩ := hT 7 _ rfl
 obtain ⟨v3, t3, t3'⟩ := hT 8 _ rfl
 obtain ⟨L0, y0⟩ : ∃ L, γ 0 = some L := by cases t0' with | ptr _ _ L e => exact ⟨L, e⟩
 obtain ⟨L1, y1⟩ : ∃ L, γ 1 = some L := by cases t1' with | ptr _ _ L e => exact ⟨L, e⟩
 obtain ⟨L2, y2⟩ : ∃ L, γ 2 = some L := by cases t2' with | ptr _ _ L e => exact ⟨L, e⟩
 obtain ⟨L3, y3, hv3⟩ : ∃ L, γ 3 = some L ∧ v3 = .pointer (some ⟨L.b, L.o + 0, none⟩) := by cases t3' with | ptr _ _ L e => exact ⟨L, e, rfl⟩
 have gt : ∀ r o, [o0, o1, o2, AObj.row 36 (fC ag sq st ⟨q0 :: S, p⟩)][r]? = some o → (allocs St0 [o0, o1, o2, AObj.row 36 (fC ag sq st ⟨q0 :: S, p⟩)]).get r = some o := fun r o h => allocs0_at _ (show 4 < 2 ^ 64 by decide) h
 obtain ⟨cx, x1, x2, x3, x4, x5, x6, x7⟩ := hS.obj 3 _ L3 (gt 3 _ rfl) y3
 obtain ⟨vl, xl, xl', _⟩ := x6 4 _ rfl
 have hLn : (q0 :: S).length < 1000 := by have := hx.n; dsimp only at this; omega
 obtain ⟨L, hLe⟩ : ∃ L, L = (q0 :: S).length := ⟨_, rfl⟩
 have xl' : VR γ (.fz L (some 0) ((q0 :: S).map fun p => fzN p.2)) vl := by rw [hLe]; exact xl'
 obtain ⟨bl, ol, cL, fl, ls, rfl, fl1, fl2, fl3, fl4, fl5, fl6, _⟩ := fzV xl'
 obtain ⟨fo, rfl⟩ := fl6
 obtain ⟨el, frl, flh, flk⟩ := hS.fzc bl fl fl1
 obtain ⟨rfl, fls, flo⟩ := flk fo
 have hlen : ls.length = L := by rw [← fl4.length, hLe, List.length_map]
 -- the blocks
 have blk : ∀ j, j < L → ∃ B cB c n, ls[j]? = some (.slice (some ⟨B, 0, none⟩) 128 cB) ∧ 128 ≤ cB ∧ Spn P w B c ∧ c[0]? = some (.int .u8 n) ∧ (0 ≤ n ∧ n < 256) ∧ ∃ f, γ.fz B = some f ∧ f.old = false := by
  intro j hj
  have hj2 : j < (q0 :: S).length := by omega
  obtain ⟨q, hq⟩ : ∃ q, (q0 :: S)[j]? = some q := ⟨_, List.getElem?_eq_getElem hj2⟩
  obtain ⟨u, hu, hu'⟩ := fl4.get (show ((q0 :: S).map fun p => fzN p.2)[j]? = some (fzN q.2) by rw [List.getElem?_map, hq]; rfl)
  obtain ⟨B, oB, cB, f, bs, rfl, f1, f2, f3, f4, f5, f6, _⟩ := fzV (show VR γ (.fz 128 (some 0) (bys q.2)) u from hu')
  obtain ⟨f7, rfl⟩ := f6
  obtain ⟨eB, frB, f8, f9⟩ := hS.fzc B f f1
  obtain ⟨rfl, f10, f11⟩ := f9 f7
  obtain ⟨hb1, hb2⟩ := (hx.s q (List.mem_of_getElem? hq)).2
  obtain ⟨b0, bt, hbe⟩ : ∃ b0 bt, q.2 = b0 :: bt := by
   cases hz : q.2 with
   | nil => rw [hz] at hb1; exact absurd hb1 (by decide)
   | cons x y => exact ⟨x, y, rfl⟩
  rw [hbe] at f4 hb2
  have h0 : b0 < 256 := hb2 b0 (by simp)
  cases f4 with
  | cons g1 g2 =>
   cases g1
   exact ⟨B, cB, f.cs, _, hu, f5, ⟨⟨_, f8, f10⟩, f11⟩, f2 0 _ rfl, ⟨Int.natCast_nonneg _, Int.ofNat_lt.2 h0⟩, f, f1, f7⟩
 have hch : ∃ B cB : Nat → Nat, ∀ j, j < L → ∃ c n, ls[j]? = some (.slice (some ⟨B j, 0, none⟩) 128 (cB j)) ∧ 128 ≤ cB j ∧ Spn P w (B j) c ∧ c[0]? = some (.int .u8 n) ∧ (0 ≤ n ∧ n < 256) ∧ ∃ f, γ.fz (B j) = some f ∧ f.old = false := by
  refine ⟨fun j => if h : j < L then (blk j h).choose else 0, fun j => if h : j < L then (blk j h).choose_spec.choose else 0, fun j hj => ?_⟩
  dsimp only
  rw [dif_pos hj, dif_pos hj]
  exact (blk j hj).choose_spec.choose_spec
 obtain ⟨B, cB, hB⟩ := hch
 have dif : ∀ b f, γ.fz b = some f → f.old = false → SpF (thaw γ 3) w0 b := by
  intro b f hb hf
  refine ⟨?_, ?_, ?_⟩
  ·cases hq : (thaw γ 3).fz b with
   | none => rfl
   | some c =>
    obtain ⟨q1, q2⟩ := thaw_fzs hq
    rw [hb] at q1; cases q1; rw [hf] at q2; cases q2
  ·intro r L' hr e' e''
   obtain ⟨_, e3⟩ := thaw_locs e'
   have : ∃ o, (allocs St0 [o0, o1, o2, AObj.row 36 (fC ag sq st ⟨q0 :: S, p⟩)]).get r = some o ∧ alive o = true := by
    have hal : ∀ {o : AObj}, unO 3 o = true → alive o = true := fun {o} h => by cases o <;> first | rfl | cases h
    rcases r with _ | _ | _ | r
    ·exact ⟨_, gt 0 _ rfl, hal u0⟩
    ·exact ⟨_, gt 1 _ rfl, hal u1⟩
    ·exact ⟨_, gt 2 _ rfl, hal u2⟩
    ·omega
   obtain ⟨o, ho, ha⟩ := this
   have := hS.fzr r o L' ho ha e3
   rw [e'', hb] at this; cases this
  ·cases hq : γ0.fz b with
   | none => exact hP.fzn b f hb hq
   | some c =>
    have := hP.le.fz b c hq
    rw [hb] at this; cases this
    rw [hO b _ hq] at hf; cases hf
 have fx : SpF (thaw γ 3) w0 L3.b := by
  refine ⟨?_, ?_, ?_⟩
  ·cases hq : (thaw γ 3).fz L3.b with
   | none => rfl
   | some c =>
    have := hS.fzr 3 _ L3 (gt 3 _ rfl) rfl y3
    rw [(thaw_fzs hq).1] at this; cases this
  ·intro r L' hr e'
   obtain ⟨_, e3⟩ := thaw_locs e'
   have hal : ∀ {o : AObj}, unO 3 o = true → alive o = true := fun {o} h => by cases o <;> first | rfl | cases h
   rcases r with _ | _ | _ | r
   ·exact hS.inj 0 3 _ _ _ _ (gt 0 _ rfl) (gt 3 _ rfl) (hal u0) rfl e3 y3 (by decide)
   ·exact hS.inj 1 3 _ _ _ _ (gt 1 _ rfl) (gt 3 _ rfl) (hal u1) rfl e3 y3 (by decide)
   ·exact hS.inj 2 3 _ _ _ _ (gt 2 _ rfl) (gt 3 _ rfl) (hal u2) rfl e3 y3 (by decide)
   ·omega
  ·rcases (hP.new 3 L3 y3 (hγ0 3)).2 with g | ⟨_, _, g, _⟩
   ·exact g
   ·rw [hγ0] at g; cases g
 have x3o : L3.o = 0 := x2
 have spn0 : SpI P γ0 w0 N o0 o1 o2 L L3.b bl cL B cB 0 (thaw γ 3) a w := by
  refine ⟨h2, ?_, ?_, hD.nil2, hP.thaw hγ0 hO, fun b c hc => (thaw_fzs hc).2, ?_, ?_, ⟨⟨cx, ⟨⟨_, x1, _, x4⟩, x7⟩, Nat.le_trans (show 5 ≤ 6 by decide) x5, xl⟩, ⟨fl.cs, ⟨⟨_, flh, fls⟩, flo⟩, ?_, fun j hj => ?_⟩, fun j hj => ?_⟩, fx, dif bl fl fl1 fo, fun j hj => ?_⟩
  ·intro q v hv
   obtain ⟨pp, hp, h1, h2⟩ := ofL_get hv
   simp only [List.mem_cons, List.not_mem_nil, or_false] at hp
   rcases hp with rfl | rfl | rfl | rfl <;> subst h1 <;> subst h2
   ·exact ⟨_, t0, VR_thaw _ rfl t0'⟩
   ·exact ⟨_, t1, VR_thaw _ rfl t1'⟩
   ·exact ⟨_, t2, VR_thaw _ rfl t2'⟩
   ·obtain ⟨v', a1, a2⟩ := hT 14 _ rfl; exact ⟨v', a1, VR_thaw _ rfl a2⟩
  ·refine hS.thawS rfl fun r o ho => ?_
   have := allocs_get _ ho
   have hr : r < 3 := (List.getElem?_eq_some_iff.1 this).1
   rcases r with _ | _ | _ | r
   ·cases this; exact ⟨hr, gt 0 _ rfl, u0⟩
   ·cases this; exact ⟨hr, gt 1 _ rfl, u1⟩
   ·cases this; exact ⟨hr, gt 2 _ rfl, u2⟩
   ·omega
  ·intro r hr
   rcases r with _ | _ | _ | r
   ·exact ⟨_, (thaw_loc hr).trans y0⟩
   ·exact ⟨_, (thaw_loc hr).trans y1⟩
   ·exact ⟨_, (thaw_loc hr).trans y2⟩
   ·omega
  ·rw [t3, hv3, x3o]
  ·have : L ≤ fl.cs.size := by
    rcases Nat.eq_zero_or_pos L with h0 | h0
    ·omega
    ·have := fl2 (L - 1) (ls[L - 1]'(by omega)) (List.getElem?_eq_getElem _)
     have := (Array.getElem?_eq_some_iff.1 (show fl.cs[0 + (L - 1)]? = some _ from this)).1
     omega
   exact this
  ·obtain ⟨_, _, g1, _⟩ := hB j hj
   have := fl2 j _ g1
   rwa [Nat.zero_add] at this
  ·obtain ⟨c', n', _, _, g1, g2, g3, _⟩ := hB j hj
   exact ⟨c', n', g1, g2, g3⟩
  ·obtain ⟨_, _, _, _, _, _, _, f, g1, g2⟩ := hB j hj
   exact dif _ f g1 g2
 have hL0 : 0 < L := by rw [hLe]; exact Nat.succ_pos _
 have hne : L3.b ≠ bl := by
  intro e'
  have := hS.fzr 3 _ L3 (gt 3 _ rfl) rfl y3
  rw [e', fl1] at this; cases this
 have hnx : ∀ j, j < L → B j ≠ L3.b := by
  intro j hj e'
  obtain ⟨_, _, _, _, _, _, _, f, g1, _⟩ := hB j hj
  have := hS.fzr 3 _ L3 (gt 3 _ rfl) rfl y3
  rw [← e', g1] at this; cases this
 have hnl : ∀ j, j < L → B j ≠ bl := by
  intro j hj e'
  obtain ⟨c', n', _, _, ⟨⟨e2, g1, _⟩, _⟩, g2, _⟩ := hB j hj
  obtain ⟨_, _, g3, _⟩ := hB 0 hL0
  have g4 := fl2 0 _ g3
  rw [e', flh] at g1
  cases g1
  have g4 : fl.cs[0 + 0]? = some _ := g4
  rw [Nat.zero_add, g2] at g4
  cases g4
 refine wpIn_loopI (I := fun n a w => ∃ i γ, n + i = L ∧ SpI P γ0 w0 N o0 o1 o2 L L3.b bl cL B cB i γ a w) ?_ (n := L) ⟨0, _, rfl, spn0⟩
 rintro n a w ⟨i, γ, hni, hI⟩
 by_cases hi : i < L
 ·refine wpIn_mono (SpI.round hE hm (by omega) fl5 (fun j hj => by obtain ⟨_, _, _, g, _⟩ := hB j hj; exact g) hi hne hnx hnl hγ0 hO u0 u1 u2 e1 hI) ?_
  rintro ex a' w' ⟨rfl, γ', hI'⟩
  exact ⟨n - 1, by omega, i + 1, γ', by omega, hI'⟩
 ·obtain rfl : i = L := by omega
  refine wpIn_mono (SpI.exit hE hm (by omega) fl5 hne hγ0 hO u0 u1 u2 e1 hI) ?_
  rintro ex a' w' ⟨rfl, t', s', hp, rfl, rfl⟩
  exact ⟨_, _, _, _, ⟨rfl, Tells.refl⟩, hp⟩
end Go.AM
set_option maxRecDepth 100000
namespace Go.AM
attribute [local irreducible] W
open X
theorem tw_lastW (a : Int) : ∀ (L : List WR), lastW a (L.map cloW) = lastW a L
 | [] => rfl
 | w :: L => by
  show (if w.at_ = a then some w.b else lastW a (L.map cloW)) = if w.at_ = a then some w.b else lastW a L
  rw [tw_lastW a L]
theorem tw_us {d : DK} (h : d.any) : (twD d).us.length = d.us.length := by
 have := h.bs.length
 show (d.bs.map cloV).length = _; rw [List.length_map]; omega
theorem tw_dskB {d : DK} (h : d.any) : dskB (twD d) = dskB d := by
 have hu := tw_us h
 have hw : (twD d).ws.length = d.ws.length := by show (d.ws.map cloW).length = _; rw [List.length_map]
 rw [Bool.eq_iff_iff, dskB_iff, dskB_iff, hu, hw]
 have hb : (twD d).bs = d.bs := rfl
 have hd : (twD d).dead = d.dead := rfl
 rw [hb, hd]
 have hws : (∀ w ∈ (twD d).ws, wBad d.us.length w = false) ↔ (∀ w ∈ d.ws, wBad d.us.length w = false) := by
  constructor
  ·intro h w hw; exact h (cloW w) (List.mem_map_of_mem hw)
  ·intro h w hw
   obtain ⟨v, hv, rfl⟩ := List.mem_map.1 (show w ∈ d.ws.map cloW from hw)
   exact h v hv
 rw [hws]
theorem tw_ask {c : Cfg} {d : DK} {a : Int} (h : d.any) : askE ⟨c, twD d, a⟩ = askE ⟨c, d, a⟩ := by
 unfold askE
 dsimp only
 rw [tw_dskB h, tw_us h]; rfl
theorem tw_rbk {c : Cfg} {d : DK} {a : Int} : rbk ⟨c, twD d, a⟩ = rbk ⟨c, d, a⟩ := by
 funext i
 unfold rbk drdB drdL
 dsimp only
 have : lastW (1 + (a + (i : Int)) % c.log) (twD d).ws.reverse = lastW (1 + (a + (i : Int)) % c.log) d.ws.reverse := by
  show lastW _ (d.ws.map cloW).reverse = _
  rw [← List.map_reverse]; exact tw_lastW _ _
 rw [this]; rfl
theorem tw_drOut {c : Cfg} {d : DK} {a : Int} (h : d.any) : drOut ⟨c, twD d, a⟩ = drOut ⟨c, d, a⟩ := by
 unfold drOut
 rw [tw_ask h, tw_rbk]
theorem uns_clo {k : Nat} : ∀ (L : List (List Nat)), uns k (L.map cloV) = true
 | [] => rfl
 | b :: L => by
  show (un k (cloV b) && uns k (L.map cloV)) = true
  rw [uns_clo L]
  cases b with
  | nil => rfl
  | cons y l =>
   show ((true && uns k (bys (y :: l))) && true) = true
   have : uns k (bys (y :: l)) = true := uns_iff.2 fun v hv => by
    obtain ⟨b, _, rfl⟩ := List.mem_map.1 (show v ∈ (y :: l).map byV from hv); rfl
   rw [this]; rfl
theorem uns_cloW {k : Nat} : ∀ (L : List WR), uns k (wrs (L.map cloW)) = true
 | [] => rfl
 | w :: L => by
  rw [List.map_cons, wrs_cons]
  show (true && (un k (cloV w.b) && uns k (wrs (L.map cloW)))) = true
  have h1 := uns_clo (k := k) [w.b]
  have h1 : (un k (cloV w.b) && true) = true := h1
  rw [Bool.and_true] at h1
  rw [h1, uns_cloW L]; rfl
theorem twD_un (d : DK) : uns 3 (twD d).c = true := by
 show (un 3 (cloS d.bs) && (un 3 (cloWs d.ws) && (true && true))) = true
 have h1 : un 3 (cloS d.bs) = true := by
  cases d.bs with
  | nil => rfl
  | cons b L => show (true && uns 3 ((b :: L).map cloV)) = true; rw [uns_clo]; rfl
 have h2 : un 3 (cloWs d.ws) = true := by
  cases d.ws with
  | nil => rfl
  | cons w L => show (true && uns 3 (wrs ((w :: L).map cloW))) = true; rw [uns_cloW]; rfl
 rw [h1, h2]; rfl
theorem dr_form {x : CDA} (hx : x.ok) : ∃ (ag sq st m e : Int) (y : RdS), drOut x = .tup [.agg (fC ag sq st y), .int .i64 m, .int .i64 e] ∧ y.ok ∧ i64B st := by
 rw [drOut_F]
 cases h : rdF x with
 | none => exact ⟨0, 0, 0, 0, errF x, ⟨[], none⟩, rfl, rdS0_ok, by unfold i64B; omega⟩
 | some f =>
  have hF := rdF_some h
  have hn := hF.n
  have hB0 := rbk_ok hx hF.ask 0
  refine ⟨f.n.age, f.n.seq, f.n.stripe, 1 + (f.n.recs.length : Int), 0, f.y, rfl, ?_, ?_⟩
  ·have e2 := hF.go
   have e3 := hF.cd
   rw [hn] at e2 e3
   exact (drg_of hx hF.ask hF.good hF.id e2 e3).ok
  ·rw [hn]; exact (ntB_ok hB0.2).stripe
structure DRdIn (e : Env) : Prop where
 h21 : Con e 21 grt4F.O
 h22 : Con e 22 twn4F.O
 h23 : Con e 23 drF.O
 h24 : Con e 24 drF.O
 h25 : Con e 25 sameF.O
 h26 : Con e 26 sam4F.O
def end3 : AC := match code3 with
 | .seq _ (.seq _ (.seq _ (.seq _ (.seq _ (.seq _ (.seq _ r)))))) => r
 | _ => .skip
theorem reads_law (P : Program) (e : Env) (hE : EnvOk P e) (hm : P.follows .mixedOrders = true) (hI : DRdIn e) (c : Cfg) (hc : c.ok) (d : DK) (hd : d.any) (hu : uns 3 d.c = true) (a : Int) (ha : i64B a) :
 WO P code3 (initT [c.v, d.v, .int .i64 a] 0 .lf) St0 [] (Ends [.tmp 6] fun u _ => u = .bool true) := by
 obtain ⟨h21, h22, h23, h24, h25, h26⟩ := hI
 have hG := fun (K : AV → St → Prop) (s : St) (hk : K (.bool (grt4B d)) s) => ESc.fam (k := K) (s := s) grt4F h21 d hd rfl hk
 have hok := fun (h : grt4B d = false) => grt4_ok hd h
 have hT := fun (h : d.ok) (K : AV → St → Prop) (s : St) (hk : K (twD d).v s) => ESc.fam (k := K) (s := s) twn4F h22 d h rfl hk
 have hS := fun (h : d.ok) (K : AV → St → Prop) (s : St) (hk : K (.bool true) s) => ESc.fam (k := K) (s := s) sam4F h26 d h rfl hk
 have hR1 := fun (h : d.ok) (K : AV → St → Prop) (s : St) (hk : K (drOut ⟨c, d, a⟩) s) => ESc.fam (k := K) (s := s) drF h23 ⟨c, twD d, a⟩ ⟨hc, twD_ok h, ha⟩ (u := drOut ⟨c, d, a⟩) (tw_drOut hd) hk
 have hR2 := fun (h : d.ok) (K : AV → St → Prop) (s : St) (hk : K (drOut ⟨c, d, a⟩) s) => ESc.fam (k := K) (s := s) drF h24 ⟨c, d, a⟩ ⟨hc, h, ha⟩ (u := drOut ⟨c, d, a⟩) rfl hk
 have hF := fun (h : d.ok) => dr_form (x := ⟨c, d, a⟩) ⟨hc, h, ha⟩
 have hU2 := twD_un d
 have hdf0 := DKhf hd.wl hd.bl (d := d.dead)
 have hdf2 : d.ok → hfs [(twD d).bv, (twD d).wv, .bool (twD d).dead] = true := fun h => DKhf (twD_ok h).a.wl (twD_ok h).a.bl
 generalize drOut ⟨c, d, a⟩ = D at hR1 hR2 hF
 generalize grt4B d = q at hG hok
 have hcf : hfs c.c = true := rfl
 obtain ⟨id, mb, ch, rw', lg, hdd⟩ := c
 have hR1 : ∀ (h : d.ok) (K : AV → St → Prop) (s : St), K D s → ESc e 23 [.agg [.int .u32 id, .int .i64 mb, .int .i64 ch, .int .i64 rw', .int .i64 lg, .int .i64 hdd], (twD d).v, .int .i64 a] s K := hR1
 have hR2 : ∀ (h : d.ok) (K : AV → St → Prop) (s : St), K D s → ESc e 24 [.agg [.int .u32 id, .int .i64 mb, .int .i64 ch, .int .i64 rw', .int .i64 lg, .int .i64 hdd], d.v, .int .i64 a] s K := hR2
 have hS : ∀ (h : d.ok) (K : AV → St → Prop) (s : St), K (.bool true) s → ESc e 26 [(twD d).v, d.v] s K := hS
 generalize twD d = y at *
 obtain ⟨bv, us, bs, wv, ws, dd⟩ := d
 obtain ⟨bv2, us2, bs2, wv2, ws2, dd2⟩ := y
 dsimp only at hdf0 hdf2
 have hu : uns 3 [bv, wv, .bool dd] = true := hu
 have hU2 : uns 3 [bv2, wv2, .bool dd2] = true := hU2
 show WO P code3 (initT [.agg [.int .u32 id, .int .i64 mb, .int .i64 ch, .int .i64 rw', .int .i64 lg, .int .i64 hdd], .agg [bv, wv, .bool dd], .int .i64 a] 0 .lf) St0 [] _
 refine WO.seqV hE hm ?_; conv => whnf
 refine WO.seqV hE hm ?_; conv => whnf
 refine hG _ _ ?_
 cases q
 ·have hok := hok rfl
  have hdf2 := hdf2 hok
  obtain ⟨ag, sq, st, m, er, y, hD, hy, hst⟩ := hF hok
  have hss := same_self h25 hst hy
  have hyf : hfs (fC ag sq st y) = true := hfs_fC _ _ _ _
  subst hD
  conv => whnf
  refine WO.seqV hE hm ?_; conv => whnf
  refine hT hok _ _ ?_; conv => whnf
  refine WO.seqV hE hm ?_; conv => whnf
  refine hR1 hok _ _ ?_; conv => whnf
  refine WO.seqV hE hm ?_; conv => whnf
  refine hR2 hok _ _ ?_; conv => whnf
  refine WO.seqV hE hm ?_; conv => whnf
  refine EPrim.neq2 (a := ag) (b := ag) rfl rfl (fun h => absurd rfl h) (fun _ => ?_); conv => whnf
  refine EPrim.neq2 (a := sq) (b := sq) rfl rfl (fun h => absurd rfl h) (fun _ => ?_); conv => whnf
  refine hss _ _ ?_; conv => whnf
  refine EPrim.notT rfl ?_; conv => whnf
  refine EPrim.neq2 (a := m) (b := m) rfl rfl (fun h => absurd rfl h) (fun _ => ?_); conv => whnf
  refine EPrim.neq2 (a := er) (b := er) rfl rfl (fun h => absurd rfl h) (fun _ => ?_); conv => whnf
  refine WO.tells (Abs.tells (tl := [(3, .ptr 0 0), (4, .ptr 1 0), (7, .ptr 2 0), (8, .ptr 3 0)]) (os := [.row 24 [.int .u32 id, .int .i64 mb, .int .i64 ch, .int .i64 rw', .int .i64 lg, .int .i64 hdd], .row 28 [bv, wv, .bool dd], .row 28 [bv2, wv2, .bool dd2], .row 36 (fC ag sq st y)]) (rs := [0, 1, 2, 3])
   ⟨by decide, ⟨⟨rfl, rfl⟩, ⟨rfl, rfl⟩, ⟨rfl, rfl⟩, ⟨rfl, rfl⟩, trivial⟩, ⟨⟨rfl, rfl⟩, ⟨rowH hdf0, by rw [mapRowH hdf0]; rfl⟩, ⟨rowH hdf2, by rw [mapRowH hdf2]; rfl⟩, ⟨rowH hyf, by rw [mapRowH hyf]; rfl⟩, trivial⟩⟩) ?_
  refine WO.seq ?_
  refine WO.seqV hE hm ?_; conv => whnf
  refine WO.tells (Abs.tells (tl := tl3 0) (os := [.row 24 [.int .u32 id, .int .i64 mb, .int .i64 ch, .int .i64 rw', .int .i64 lg, .int .i64 hdd], .row 28 [bv, wv, .bool dd], .row 28 [bv2, wv2, .bool dd2], .row 36 (fC ag sq st y)]) (rs := [0, 1, 2, 3])
   ⟨by decide, ⟨⟨rfl, rfl⟩, ⟨rfl, rfl⟩, ⟨rfl, rfl⟩, ⟨rfl, rfl⟩, ⟨rfl, rfl⟩, trivial⟩, ⟨⟨rfl, rfl⟩, ⟨rowH hdf0, by rw [mapRowH hdf0]; rfl⟩, ⟨rowH hdf2, by rw [mapRowH hdf2]; rfl⟩, ⟨rowH hyf, by rw [mapRowH hyf]; rfl⟩, trivial⟩⟩) ?_
  refine WO.block ((rd_loop hE hm rfl hdf0 hdf2 rfl hu hU2 ag sq st hy).mono ?_)
  rintro x t s ds ⟨rfl, hte⟩
  have hnext : WO P end3 t s ds (Ends [.tmp 6] fun u _ => u = .bool true) := by
   refine WO.tells hte (WO.of_W (W.endV hE hm ?_))
   show VW P e 0 end3 (ofL [(3, .ptr 0 0), (4, .ptr 1 0), (7, .ptr 2 0)]) (allocs St0 [.row 24 [.int .u32 id, .int .i64 mb, .int .i64 ch, .int .i64 rw', .int .i64 lg, .int .i64 hdd], .row 28 [bv, wv, .bool dd], .row 28 [bv2, wv2, .bool dd2]]) none [] _
   conv => whnf
   refine hS hok _ _ ?_; conv => whnf
   rfl
  exact hnext
 ·conv => whnf
  skip
  exact ⟨.inr rfl, _, _, rfl, rfl, rfl⟩
end Go.AM
set_option maxRecDepth 100000
namespace Go.AM
mutual
theorem Shape.uns {k : Nat} : ∀ {T : Ty} {l : List AV}, Shape T l → AM.uns k l = true
 | _, _, .bool b => rfl
 | _, _, .int q n _ => rfl
 | _, _, .nil E => rfl
 | _, _, .es E => rfl
 | _, _, .fz E n m c ls _ _ _ h _ hc => by
  have h1 : AM.uns k ls.flatten = true := by
   rw [uns_iff]
   intro v hv
   obtain ⟨l, hl, hv⟩ := List.mem_flatten.1 hv
   exact uns_iff.1 (Shape.uns (h l hl)) v hv
  rcases c with _ | _ | c
  ·show ((true && AM.uns k ls.flatten) && true) = true
   rw [h1]; rfl
  ·exact absurd rfl hc
  ·show ((true && AM.uns k ls.flatten) && true) = true
   rw [h1]; rfl
 | _, _, .st Fs l h => Shapes.uns h
theorem Shapes.uns {k : Nat} : ∀ {Ts : List Ty} {l : List AV}, Shapes Ts l → AM.uns k l = true
 | _, _, .nil => rfl
 | _, _, .cons T Ts l m a b => by
  rw [uns_iff]
  intro v hv
  rcases List.mem_append.1 hv with h | h
  ·exact uns_iff.1 (Shape.uns a) v h
  ·exact uns_iff.1 (Shapes.uns b) v h
end
theorem disk_ofU {l : List AV} (h : Shapes tDisk l) : ∃ d : DK, d.any ∧ l = d.c ∧ uns 3 d.c = true := by
 obtain ⟨d, h1, h2⟩ := disk_of h
 exact ⟨d, h1, h2, by rw [← h2]; exact h.uns⟩
end Go.AM
