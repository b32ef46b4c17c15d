/-
 Functions of the program as the abstract machine reads them, and what is stated of them, checked by the kernel. No conditions.
-/
import Derived.Test.YtnnbibnobmegpaaSeatQ
import Derived.Test.YtnnbibnobmegpaaSeatA
import Derived.Test.YtnnbibnobmegpaaSeatD
import Derived.Test.YtnnbibnobmegpaaAM5
set_option linter.unusedVariables false
set_option linter.unusedSimpArgs false

set_option maxRecDepth 100000
namespace Go.AM
attribute [local irreducible] W
open X
def code98 : AC := match a98 with | .mk c _ => c
def code141 : AC := match a141 with | .mk c _ => c
def code96 : AC := match a96 with | .mk c _ => c
def code139 : AC := match a139 with | .mk c _ => c
def code97 : AC := match a97 with | .mk c _ => c
def code51 : AC := match a51 with | .mk c _ => c
def cpD (b : List Nat) : Option Nat := if b.length = 0 then some 128 else none
theorem blkD_run {e : Env} (h98 : Inl e 98 code98 [.tmp 2]) (h141 : Inl e 141 code141 [.tmp 2]) {u : AV} {b : List Nat} (hb : BAt u b) (hl : b.length = 0 ∨ b.length = 128) {s : St} (hs : s.next < 1000000) {K : AV → St → Prop}
   (k0 : b.length = 0 → K (.sl s.next 0 128 (some 128)) (s.alloc (.row 5 (bys (pad b)))))
   (k1 : b.length = 128 → K (.sl (s.alloc (.row 5 [])).next 0 128 none) ((s.alloc (.row 5 [])).alloc (.row 5 (bys (pad b))))) : ESc e 98 [u] s K := by
 refine ESc.inl h98 ?_; conv => whnf
 refine EPrim.lenZ rfl hb.1 ?_; conv => whnf
 rcases hl with h0 | h1
 · have hb0 : b = [] := List.length_eq_zero_iff.1 h0
   subst hb0
   repeat' (first | (refine EPrim.mksB (n := 127) rfl rfl (by decide) ?_; conv => whnf) | ((refine w5 rfl rfl ?_ ?_) <;> intro _ <;> first | (exfalso; omega) | (conv => whnf)) | fail)
   exact k0 rfl
 · have hp : pad b = b := pad_of h1
   rw [hp] at k1
   obtain ⟨c, rfl⟩ : ∃ c, u = .fz b.length c (bys b) := by
     rcases hb.1 with ⟨_, h, _⟩ | ⟨_, h, _⟩ | ⟨c, h, _⟩
     · omega
     · omega
     · exact ⟨c, h⟩
   have hne : ∃ x l, bys b = x :: l := by
     cases b with
     | nil => simp at h1
     | cons y l => exact ⟨_, _, rfl⟩
   obtain ⟨x, l, hxl⟩ := hne
   have hbl := bys_length b
   repeat' (first | (refine ESc.inl h141 ?_; conv => whnf) | (refine eqbNil rfl rfl (.inr ⟨_, _, _, rfl⟩) ?_; conv => whnf) | ((refine w5 rfl rfl ?_ ?_) <;> intro _ <;> first | (exfalso; omega) | (conv => whnf)) | fail)
   refine EPrim.app1 (c := x) (cs := l) (m := 128) rfl rfl ?_ (St.alloc_self _ _ (by omega)) ?_ (by omega) (by omega) ?_
   · show takeL (b.length * 1) (bys b) = _
     rw [takeL_of (by omega), List.take_of_length_le (by omega), hxl]
   · show (x :: l).length / 1 = _
     rw [← hxl]; omega
   rw [← hxl]
   conv => whnf
   exact k1 h1
def lastW (at_ : Int) : List WR → Option (List Nat)
 | [] => none
 | w :: l => if w.at_ = at_ then some w.b else lastW at_ l
def drdL (ws : List WR) (at_ : Int) (b : List Nat) : List Nat := (lastW at_ ws.reverse).getD b
def asg51 : AC := match rngIn code51 with | some (a, _) => a | none => .skip
def body51 : AC := match rngIn code51 with | some (_, b) => b | none => .skip
def rest51 : AC := match code51 with
 | .seq _ (.seq _ (.seq _ r)) => r
 | _ => .skip
def tlD (cp : Option Nat) : List (Nat × AV) := [(3, .ptr 0 0), (4, .ptr 1 0), (5, .ptr 2 0), (6, .sl 3 0 128 cp), (21, .fn 140 [] [.ptr 4 0])]
def osD (at_ : Int) (b : List Nat) (wv : AV) : List AObj := [.row 3 [.int .i64 at_], .row 32 [.nils], .row 37 [.int .i64 0], .row 5 (bys (pad b)), .row 26 [wv]]
noncomputable def osD2 (at_ : Int) (b : List Nat) (wv : AV) (cp : Option Nat) : List AObj := [.row 3 [.int .i64 at_], .row 32 [.nils], .row 37 [.int .i64 0], .row 5 (bys (pad b)), .row 26 [wv], .defd, .loop .ready none 0 (ofL (tlD cp)) [22, 23] asg51 body51 5]
theorem drd_rest {P : Program} {e : Env} {fn : Func} (hE : EnvOk P e) (hm : P.follows .mixedOrders = true) (h97 : Inl e 97 code97 [.tmp 2]) (h98 : Inl e 98 code98 [.tmp 2]) (h141 : Inl e 141 code141 [.tmp 2])
   (hf : P.funcs[140]? = some fn) (hc : compF P fn = some a140) (hb : HasBody P 140) (x : DK) (hx : x.ok) (at_ : Int) (hat : i64B at_) (hn : x.ws.length ≤ 1024) (hwl : ∀ w ∈ x.ws, w.b.length = 0 ∨ w.b.length = 128) (b0 : List Nat) (K : AV → St → Prop)
   (hk : ∀ s r, s.get r = some (.row 5 (bys (pad (drdL x.ws at_ b0)))) → K (.tup [.sl r 0 128 (cpD (drdL x.ws at_ b0)), .int .i64 0]) s) :
   W P 0 none rest51 (ofL [(2, .ptr 0 0), (3, .ptr 1 0), (4, .ptr 2 0), (5, .ptr 3 0), (6, .sl 4 0 128 (cpD b0))]) (allocs St0 [.row 28 x.c, .row 3 [.int .i64 at_], .row 32 [.nils], .row 37 [.int .i64 0], .row 5 (bys (pad b0))]) [] (Ends [.cell 4, .cell 5] K) := by
 obtain ⟨⟨hbl, hbs, hws, hwa⟩, hun, hwn, hbb, hww⟩ := hx
 obtain ⟨bv, us, bs, wv, ws, dd⟩ := x
 dsimp only at hbl hbs hws hwa hun hwn hbb hww hn hwl hk
 obtain ⟨cp, hcp⟩ : ∃ cp, cp = cpD b0 := ⟨_, rfl⟩
 rw [← hcp]
 show W P 0 none rest51 (ofL [(2, .ptr 0 0), (3, .ptr 1 0), (4, .ptr 2 0), (5, .ptr 3 0), (6, .sl 4 0 128 cp)]) (allocs St0 [.row 28 [bv, wv, .bool dd], .row 3 [.int .i64 at_], .row 32 [.nils], .row 37 [.int .i64 0], .row 5 (bys (pad b0))]) [] (Ends [.cell 4, .cell 5] K)
 refine W.endV hE hm ?_; conv => whnf
 refine ESc.inl h97 ?_; conv => whnf
 refine stuckB (by show Nat.beq (lenL (cellsOf wv)) 1 = true; rw [hws.cells]; rfl) ?_
 rw [hws.cells]
 conv => whnf
 have hwf : hfs [wv] = true := by show (AM.hf wv && true) = true; rw [hws.hf]; rfl
 have hpf : ∀ b, hfs (bys b) = true := fun b => scs_hfs_bys b
 refine W.tells (Abs.tells (tl := tlD cp) (os := osD at_ b0 wv) (rs := [1, 2, 3, 4, 5])
   ⟨by decide, ⟨⟨rfl, rfl⟩, ⟨rfl, rfl⟩, ⟨rfl, rfl⟩, ⟨rfl, rfl⟩, ⟨rfl, rfl⟩, trivial⟩, ⟨⟨rfl, rfl⟩, ⟨rfl, rfl⟩, ⟨rfl, rfl⟩, ⟨rowH (hpf _), by rw [mapRowH (hpf _)]; rfl⟩, ⟨rowH hwf, by rw [mapRowH hwf]; rfl⟩, trivial⟩⟩) ?_
 refine W.rngI (f := 140) (first := []) (cap := [.ptr 4 0]) hb rfl ?_ ?_
 · intro q hq
   have hq : q < 5 := hq
   rcases q with _ | _ | _ | _ | _ | q
   · exact .tmp 3 (.ptr 0 0) rfl rfl
   · exact .tmp 4 (.ptr 1 0) rfl rfl
   · exact .tmp 5 (.ptr 2 0) rfl rfl
   · exact .tmp 6 (.sl 3 0 128 cp) rfl rfl
   · exact .tmp 21 (.fn 140 [] [.ptr 4 0]) rfl rfl
   · omega
 show C1 P 140 [.yld 6, .ptr 4 0] (allocs St0 (osD2 at_ b0 wv cp)) (fun _ s' => RngOut 6 [5] (ofL (tlD cp)) s' _)
 refine C1.of_V hE hm hf hc ?_; conv => whnf
 refine EPrim.lenZ rfl hws ?_; conv => whnf
 repeat' (first | (refine w8 rfl rfl (by omega) ?_; conv => whnf) | fail)
 have hlb : bdO 7 7 (.loop .ready none 0 (ofL (tlD cp)) [22, 23] asg51 body51 5) = true := rfl
 refine W.loopT (k := 7) (α := Nat) (fun i => [(0, .yld 6), (1, .ptr 4 0), (3, .int .i64 ((i : Int) - 1))]) (fun i => osD2 at_ b0 wv cp) (fun i => i) (fun i => i ≤ ws.length ∧ lastW at_ ws.reverse = lastW at_ (ws.take i).reverse) ws.length ⟨Nat.le_refl _, by rw [List.take_length]⟩
     (AbsK.tells (rs := [0, 1, 2, 3, 4, 5, 6]) ⟨rfl, by decide, ⟨⟨rfl, rfl⟩, ⟨rfl, rfl⟩, ⟨rfl, rfl⟩, trivial⟩, ⟨⟨rfl, rfl⟩, ⟨rfl, rfl⟩, ⟨rfl, rfl⟩, ⟨rowH (hpf _), by rw [mapRowH (hpf _)]; rfl⟩, ⟨rowH hwf, by rw [mapRowH hwf]; rfl⟩, ⟨rfl, rfl⟩, ⟨hlb, rfl⟩, trivial⟩⟩) ?_
 rintro j ⟨hj, hh⟩
 refine vw_sound hE hm ?_; conv => whnf
 refine EPrim.geq2 rfl rfl (fun h => ?_) (fun h => ?_) <;> conv => whnf
 · obtain ⟨i, rfl⟩ : ∃ i, j = i + 1 := ⟨j - 1, by omega⟩
   have hlt : i < ws.length := by omega
   rw [show ((i + 1 : Nat) : Int) - 1 = (i : Int) by omega]
   have hd := wrs_drop_cons hlt
   have hwm := List.getElem_mem hlt
   have hwa' := hwa _ hwm
   have hwl' := hwl _ hwm
   have hst : lastW at_ ws.reverse = if ws[i].at_ = at_ then some ws[i].b else lastW at_ (ws.take i).reverse := by
     rw [hh, List.take_succ_eq_append_getElem hlt, List.reverse_append]; rfl
   have hall := And.intro hd (And.intro hwa' (And.intro hwl' hst))
   clear hd hwa' hwl' hst hwm
   revert hall
   generalize ws[i] = w
   obtain ⟨wa, wu, wb⟩ := w
   rintro ⟨hd, ⟨hwa1, hwb⟩, hwl', hst⟩
   have hd : (wrs ws).drop (i * 2) = [.int .i64 wa, wu] ++ wrs (ws.drop (i + 1)) := hd
   dsimp only at hwa1 hwb hwl' hst
   refine EPrim.ixsS rfl hws rfl hlt ?_
   rw [hd]
   conv => whnf
   have hcell : ∀ (K : List AV → Prop), K [.int .i64 wa, wu] → ETake 2 ([.int .i64 wa, wu] ++ wrs (ws.drop (i + 1))) K := fun K hk => ETake.eq rfl hk
   refine hcell _ ?_; conv => whnf
   refine ERound.mk ?_
   have hrun : ∀ b cp', drdL ws at_ b0 = b → cp' = cpD b → ∀ s r, s.get r = some (.row 5 (bys (pad b))) → K (.tup [.sl r 0 128 cp', .int .i64 0]) s := fun b cp' h1 h2 s r h => by
     subst h1 h2; exact hk s r h
   conv => whnf
   refine EPrim.eql2 (a := wa) (b := at_) rfl rfl (fun he => ?_) (fun he => ?_)
   · rw [if_pos he] at hst
     have hL : drdL ws at_ b0 = wb := by unfold drdL; rw [hst]; rfl
     conv => whnf
     refine blkD_run h98 h141 hwb hwl' (by show 8 < 1000000; decide) (fun h0 => ?_) (fun h1 => ?_)
     · conv => whnf
       repeat' (first | (refine w13 rfl ?_; conv => whnf) | fail)
       refine hrun wb (some 128) hL (by unfold cpD; rw [if_pos h0]) _ _ ?_
       rfl
     · conv => whnf
       repeat' (first | (refine w13 rfl ?_; conv => whnf) | fail)
       refine hrun wb none hL (by unfold cpD; rw [if_neg (by omega)]) _ _ ?_
       rfl
   · rw [if_neg he] at hst
     conv => whnf
     repeat' (first | ((first | refine w8 rfl rfl (by omega) ?_ | refine w12 rfl ?_ | refine ⟨rfl, ?_⟩); conv => whnf) | fail)
     refine ⟨i, ⟨by omega, hst⟩, by omega, AbsK.tells (rs := [0, 1, 2, 3, 4, 5, 6]) ⟨rfl, by decide, ⟨⟨rfl, rfl⟩, ⟨rfl, rfl⟩, ⟨rfl, rfl⟩, trivial⟩, ⟨⟨rfl, rfl⟩, ⟨rfl, rfl⟩, ⟨rfl, rfl⟩, ⟨rowH (hpf _), by rw [mapRowH (hpf _)]; rfl⟩, ⟨rowH hwf, by rw [mapRowH hwf]; rfl⟩, ⟨rfl, rfl⟩, ⟨hlb, rfl⟩, trivial⟩⟩⟩
 · have : j = 0 := by omega
   subst this
   have hL : drdL ws at_ b0 = b0 := by unfold drdL; rw [hh]; rfl
   conv => whnf
   rw [hL, ← hcp] at hk
   exact hk _ _ rfl
theorem DKhf {n m : Nat} {l l' : List AV} {u v : AV} (h : Sl 2 m l' v) (h' : Sl 1 n l u) {d : Bool} : hfs [u, v, .bool d] = true := by
 show (AM.hf u && (AM.hf v && (true && true))) = true
 rw [h.hf, h'.hf]; rfl
def drdE (x : DK) (at_ : Int) : Int := if dskB x = true then (if 0 ≤ at_ ∧ at_ < x.us.length then (if x.dead then 40 else 0) else 2) else 8
def drdB (x : DK) (at_ : Int) : List Nat := drdL x.ws at_ (x.bs.getD at_.toNat [])
theorem oddB_no {n : Nat} (h : oddB n = false) : n = 0 ∨ n = 128 := by
 unfold oddB at h
 simp at h
 omega
theorem dskB_of {x : DK} (hx : x.any) (h : dskB x = true) : x.ws.length ≤ 1024 ∧ (∀ b ∈ x.bs, b.length = 0 ∨ b.length = 128) ∧ (∀ w ∈ x.ws, w.b.length = 0 ∨ w.b.length = 128) ∧ x.us.length = x.bs.length ∧ x.us.length ≤ 256 := by
 unfold dskB at h
 simp only [Bool.and_eq_true, Bool.not_eq_true'] at h
 obtain ⟨⟨⟨h1, h2⟩, h3⟩, h4⟩ := h
 have h1 := of_decide_eq_true h1
 rw [List.any_eq_false] at h2 h3
 refine ⟨h1.2.2, fun b hb => oddB_no (by simpa using h2 b.length (List.mem_map_of_mem hb)), fun w hw => ?_, hx.bs.length, h1.2.1⟩
 have := h3 w hw
 unfold wBad at this
 simp only [Bool.or_eq_true, not_or] at this
 exact oddB_no (by simpa using this.2)
theorem drd_main {P : Program} {e : Env} {fn : Func} (hE : EnvOk P e) (hm : P.follows .mixedOrders = true) (h101 : Con e 101 dskF.O) (h96 : Inl e 96 code96 [.tmp 4, .tmp 5]) (h139 : Inl e 139 code139 [.tmp 4]) (h97 : Inl e 97 code97 [.tmp 2]) (h98 : Inl e 98 code98 [.tmp 2]) (h141 : Inl e 141 code141 [.tmp 2])
   (hf : P.funcs[140]? = some fn) (hc : compF P fn = some a140) (hb : HasBody P 140) (x : DK) (hx : x.ok) (at_ : Int) (hat : i64B at_) (K : AV → St → Prop)
   (h0 : drdE x at_ = 0 → ∀ s r, s.get r = some (.row 5 (bys (pad (drdB x at_)))) → K (.tup [.sl r 0 128 (cpD (drdB x at_)), .int .i64 0]) s)
   (h1 : drdE x at_ ≠ 0 → ∀ s, K (.tup [.nils, .int .i64 (drdE x at_)]) s) :
   W P 0 none code51 (initT [x.v, .int .i64 at_] 0 .lf) St0 [] (Ends [.cell 4, .cell 5] K) := by
 have hlt : dskB x = true → 0 ≤ at_ ∧ at_ < x.us.length → ∃ b u, x.us[at_.toNat]? = some u ∧ BAt u b ∧ x.bs.getD at_.toNat [] = b ∧ (b.length = 0 ∨ b.length = 128) := fun hd ⟨ha, hl⟩ => by
   have hn : at_.toNat < x.us.length := by omega
   obtain ⟨b, hbb, hbu⟩ := hx.a.bs.get (List.getElem?_eq_getElem hn)
   refine ⟨b, x.us[at_.toNat], List.getElem?_eq_getElem hn, hbu, by rw [List.getD_eq_getElem?_getD, hbb]; rfl, (dskB_of hx.a hd).2.1 b (List.mem_of_getElem? hbb)⟩
 have hres := fun (hd : dskB x = true) b0 K => drd_rest hE hm h97 h98 h141 hf hc hb x hx at_ hat (dskB_of hx.a hd).1 (dskB_of hx.a hd).2.2.1 b0 K
 have hdk := fun (u : AV) (h : dskF.out x = u) => And.intro hx h
 unfold drdE at h0 h1
 unfold drdB at h0
 obtain ⟨D, hD⟩ : ∃ D, D = dskB x := ⟨_, rfl⟩
 rw [← hD] at h0 h1 hlt hres
 have hDo : dskF.out x = .int .i64 (if D = true then 0 else 8) := by rw [hD]; rfl
 have hul : x.us.length < 1000000 := hx.n
 have hbl := hx.a.bl
 have hwv := hx.a.wl
 obtain ⟨bv, us, bs, wv, ws, dd⟩ := x
 dsimp only at hlt hul h0 h1 hbl hwv
 unfold i64B at hat
 show W P 0 none code51 (initT [.agg [bv, wv, .bool dd], .int .i64 at_] 0 .lf) St0 [] (Ends [.cell 4, .cell 5] K)
 refine W.seqV hE hm ?_; conv => whnf
 refine W.seqV hE hm ?_; conv => whnf
 refine ESc.inl h96 ?_; conv => whnf
 refine ESc.inl h139 ?_; conv => whnf
 cases D
 · refine ESc.fam dskF h101 ⟨bv, us, bs, wv, ws, dd⟩ hx (u := .int .i64 8) hDo ?_; conv => whnf
   repeat' (first | ((refine w6 rfl rfl ?_ ?_) <;> intro _ <;> first | (exfalso; omega) | (conv => whnf)) | fail)
   refine W.seqV hE hm ?_; conv => whnf
   repeat' (first | ((refine w6 rfl rfl ?_ ?_) <;> intro _ <;> first | (exfalso; omega) | (conv => whnf)) | fail)
   refine eend_ends ?_; conv => whnf
   exact h1 (by simp) _
 · refine ESc.fam dskF h101 ⟨bv, us, bs, wv, ws, dd⟩ hx (u := .int .i64 0) hDo ?_; conv => whnf
   have hp : ∀ K : AV → Prop, (at_ < 0 ∨ (us.length : Int) ≤ at_ → K (.int .i64 2)) → (0 ≤ at_ ∧ at_ < us.length → K (.int .i64 0)) → True := fun _ _ _ => trivial
   by_cases hr : 0 ≤ at_ ∧ at_ < (us.length : Int)
   · obtain ⟨b, u, hg, hbu, hbd, hbl'⟩ := hlt rfl hr
     rw [hbd] at h0
     have h0 := fun hdd => h0 (by rw [if_pos rfl, if_pos hr]; exact hdd)
     rw [if_pos rfl, if_pos hr] at h1
     obtain ⟨n, rfl⟩ : ∃ n : Nat, at_ = (n : Int) := ⟨at_.toNat, by omega⟩
     have hlt' : n < us.length := by omega
     rw [show (n : Int).toNat = n by omega] at hg
     have hg' : us[n] = u := by rw [List.getElem?_eq_getElem hlt'] at hg; exact Option.some.inj hg
     clear hg hbd hlt
     repeat' (first | (refine EPrim.lenZ rfl hbl ?_; conv => whnf) | ((first | refine w1 rfl rfl ?_ ?_ | refine w4 rfl rfl ?_ ?_ | refine w6 rfl rfl ?_ ?_) <;> intro _ <;> first | (exfalso; omega) | (conv => whnf)) | (refine w19 rfl ?_ ?_ <;> intro hc <;> (try subst hc) <;> conv => whnf))
     all_goals first | (exfalso; omega) | skip
     · refine W.seqV hE hm ?_; conv => whnf
       repeat' (first | ((refine w6 rfl rfl ?_ ?_) <;> intro _ <;> first | (exfalso; omega) | (conv => whnf)) | fail)
       refine eend_ends ?_; conv => whnf
       exact h1 (by simp) _
     · refine EPrim.ixsS rfl hbl rfl hlt' ?_; conv => whnf
       refine EHead.mk (v := u) (by rw [Nat.mul_one, List.getElem?_drop, Nat.add_zero, List.getElem?_eq_getElem hlt', hg']) ?_; conv => whnf
       have hcf : hfs [bv, wv, .bool false] = true := DKhf hwv hbl
       have hend := fun cp' (hcp : cp' = cpD b) => (hcp ▸ hres rfl b K (fun s r h => h0 rfl s r h) : W P 0 none rest51 (ofL [(2, .ptr 0 0), (3, .ptr 1 0), (4, .ptr 2 0), (5, .ptr 3 0), (6, .sl 4 0 128 cp')]) (allocs St0 [.row 28 [bv, wv, .bool false], .row 3 [.int .i64 (n : Int)], .row 32 [.nils], .row 37 [.int .i64 0], .row 5 (bys (pad b))]) [] (Ends [.cell 4, .cell 5] K))
       refine blkD_run h98 h141 hbu hbl' (by show 6 < 1000000; decide) (fun h0 => ?_) (fun h1 => ?_)
       · conv => whnf
         refine W.seqV hE hm ?_; conv => whnf
         repeat' (first | ((refine w6 rfl rfl ?_ ?_) <;> intro _ <;> first | (exfalso; omega) | (conv => whnf)) | fail)
         refine W.tells (Abs.tells (rs := [0, 1, 2, 3, 6]) ?_) (hend (some 128) (by unfold cpD; rw [if_pos h0]))
         exact ⟨by decide, ⟨⟨rfl, rfl⟩, ⟨rfl, rfl⟩, ⟨rfl, rfl⟩, ⟨rfl, rfl⟩, ⟨rfl, rfl⟩, trivial⟩, ⟨⟨rowH hcf, by rw [mapRowH hcf]; rfl⟩, ⟨rfl, rfl⟩, ⟨rfl, rfl⟩, ⟨rfl, rfl⟩, ⟨rowH (scs_hfs_bys _), by rw [mapRowH (scs_hfs_bys _)]; rfl⟩, trivial⟩⟩
       · conv => whnf
         refine W.seqV hE hm ?_; conv => whnf
         repeat' (first | ((refine w6 rfl rfl ?_ ?_) <;> intro _ <;> first | (exfalso; omega) | (conv => whnf)) | fail)
         refine W.tells (Abs.tells (rs := [0, 1, 2, 3, 7]) ?_) (hend none (by unfold cpD; rw [if_neg (by omega)]))
         exact ⟨by decide, ⟨⟨rfl, rfl⟩, ⟨rfl, rfl⟩, ⟨rfl, rfl⟩, ⟨rfl, rfl⟩, ⟨rfl, rfl⟩, trivial⟩, ⟨⟨rowH hcf, by rw [mapRowH hcf]; rfl⟩, ⟨rfl, rfl⟩, ⟨rfl, rfl⟩, ⟨rfl, rfl⟩, ⟨rowH (scs_hfs_bys _), by rw [mapRowH (scs_hfs_bys _)]; rfl⟩, trivial⟩⟩
   · repeat' (first | (refine EPrim.lenZ rfl hbl ?_; conv => whnf) | ((first | refine w1 rfl rfl ?_ ?_ | refine w4 rfl rfl ?_ ?_ | refine w6 rfl rfl ?_ ?_) <;> intro _ <;> first | (exfalso; omega) | (conv => whnf)) | fail)
     all_goals first | (exfalso; omega) | skip
     all_goals
       refine W.seqV hE hm ?_; conv => whnf
       repeat' (first | ((refine w6 rfl rfl ?_ ?_) <;> intro _ <;> first | (exfalso; omega) | (conv => whnf)) | fail)
       refine eend_ends ?_; conv => whnf
       have h1 := h1 (by rw [if_pos rfl, if_neg hr]; decide)
       rw [if_pos rfl, if_neg hr] at h1
       exact h1 _
structure DKA where
 d : DK
 a : Int
structure DKA.ok (x : DKA) : Prop where
 d : x.d.ok
 a : i64B x.a
def DKA.args (x : DKA) : List AV := [x.d.v, .int .i64 x.a]
theorem DKA.inja {x y : DKA} (hx : x.ok) (hy : y.ok) (h : x.args = y.args) : x = y := by
 obtain ⟨d, a⟩ := x
 obtain ⟨d', a'⟩ := y
 have h1 := DK.inj hx.d.a hy.d.a (List.cons.inj h).1
 have h2 := (List.cons.inj (List.cons.inj h).2).1
 injection h2 with _ h2
 dsimp only at h1 h2
 rw [h1, h2]
theorem DKA.hfa {x : DKA} (hx : x.ok) : hfs x.args = true := by
 show (AM.hf x.d.v && (true && true)) = true
 rw [DK.hf hx.d.a]; rfl
def DKA.e (x : DKA) : Int := drdE x.d x.a
def DKA.b (x : DKA) : List Nat := drdB x.d x.a
noncomputable def drdO : Ov := fun args s => open Classical in if h : ∃ x : DKA, x.ok ∧ args = x.args then (if (Classical.choose h).e = 0 then .ok (.tup [.sl (0 + s.next) 0 128 (cpD (Classical.choose h).b), .int .i64 0]) (s.alloc (.row 5 (bys (pad (Classical.choose h).b)))) else .ok (.tup [.nils, .int .i64 (Classical.choose h).e]) s) else .fail
theorem drdO_run {x : DKA} (hx : x.ok) (s : St) : drdO x.args s = if x.e = 0 then .ok (.tup [.sl (0 + s.next) 0 128 (cpD x.b), .int .i64 0]) (s.alloc (.row 5 (bys (pad x.b)))) else .ok (.tup [.nils, .int .i64 x.e]) s := by
 have h : ∃ y : DKA, y.ok ∧ x.args = y.args := ⟨x, hx, rfl⟩
 unfold drdO
 rw [dif_pos h]
 obtain ⟨h1, h2⟩ := Classical.choose_spec h
 rw [← DKA.inja hx h1 h2]
theorem drdO_ok {P : Program} {e : Env} {fn fn' : Func} (hE : EnvOk P e) (hm : P.follows .mixedOrders = true) (h101 : Con e 101 dskF.O) (h96 : Inl e 96 code96 [.tmp 4, .tmp 5]) (h139 : Inl e 139 code139 [.tmp 4]) (h97 : Inl e 97 code97 [.tmp 2]) (h98 : Inl e 98 code98 [.tmp 2]) (h141 : Inl e 141 code141 [.tmp 2])
   (hf' : P.funcs[140]? = some fn') (hc' : compF P fn' = some a140) (hb' : HasBody P 140) (hf : P.funcs[51]? = some fn) (hc : compF P fn = some a51) (hb : HasBody P 51) : OvOk P 51 drdO := by
 refine ⟨hb, fun args s v s' hh => ?_⟩
 have hx0 : ∃ x : DKA, x.ok ∧ args = x.args := by
   unfold drdO at hh
   split at hh
   · rename_i h; exact h
   · cases hh
 obtain ⟨x, hx, rfl⟩ := hx0
 rw [drdO_run hx] at hh
 have hmain := fun K => drd_main hE hm h101 h96 h139 h97 h98 h141 hf' hc' hb' x.d hx.d x.a hx.a K
 by_cases hG : x.e = 0
 · rw [if_pos hG] at hh
   cases hh
   have key : C P 51 x.args St0 (fun v s' => v = .tup [.sl 0 0 128 (cpD x.b), .int .i64 0] ∧ s' = allocs St0 [.row 5 (bys (pad x.b))]) := by
     refine C.abs (C.of_W hf hc (hmain _ (fun _ s r h => ⟨[r], ⟨by simp, ⟨⟨rfl, rfl⟩, trivial⟩, ⟨⟨rowH (scs_hfs_bys _), by rw [mapRowH (scs_hfs_bys _)]; exact h⟩, trivial⟩⟩⟩) (fun h => absurd hG h)))
   refine (C.frame (l := [.row 5 (bys (pad x.b))]) (u := .tup [.sl 0 0 128 (cpD x.b), .int .i64 0]) (DKA.hfa hx) ?_ ?_ key ?_ s).mono ?_
   · intro o ho; simp at ho; subst ho; rfl
   · exact .inl (by simp)
   · intro i o h
     rcases i with _ | i
     · simp at h; subst h; rfl
     · simp at h
   · rintro v s' ⟨rfl, rfl⟩
     refine ⟨rfl, ?_⟩
     show allocs s [mapO _ (.row 5 (bys (pad x.b)))] = _
     rw [mapRowH (scs_hfs_bys _)]; rfl
 · rw [if_neg hG] at hh
   cases hh
   exact C.pure (DKA.hfa hx) rfl (C.of_W hf hc (hmain _ (fun h => absurd h hG) (fun _ s => .plain _ rfl))) s
theorem frzPl {s : St} : ∀ {l : List AV}, hfs l = true → All2 (Frz s) l l
 | [], _ => .nil
 | v :: l, h => by
   simp only [hfs, Bool.and_eq_true] at h
   exact .cons (.plain _ h.1) (frzPl h.2)
def drdOut (x : DKA) : AV := if x.e = 0 then .tup [.fz 128 none (bys (pad x.b)), .int .i64 0] else .tup [.nils, .int .i64 x.e]
def drdF : Fam DKA := ⟨DKA.ok, DKA.args, drdOut, fun x y hx hy h => by rw [DKA.inja hx hy h]⟩
theorem drdF_ok {P : Program} {e : Env} {fn fn' : Func} (hE : EnvOk P e) (hm : P.follows .mixedOrders = true) (h101 : Con e 101 dskF.O) (h96 : Inl e 96 code96 [.tmp 4, .tmp 5]) (h139 : Inl e 139 code139 [.tmp 4]) (h97 : Inl e 97 code97 [.tmp 2]) (h98 : Inl e 98 code98 [.tmp 2]) (h141 : Inl e 141 code141 [.tmp 2])
   (hf' : P.funcs[140]? = some fn') (hc' : compF P fn' = some a140) (hb' : HasBody P 140) (hf : P.funcs[51]? = some fn) (hc : compF P fn = some a51) (hb : HasBody P 51) : OvOk P 51 drdF.O := by
 refine Fam.ok_of hb fun x hx => ?_
 have h0 : x.e = 0 → drdF.out x = .tup [.fz 128 none (bys (pad x.b)), .int .i64 0] := fun h => by show drdOut x = _; unfold drdOut; rw [if_pos h]
 have h1 : x.e ≠ 0 → drdF.out x = .tup [.nils, .int .i64 x.e] := fun h => by show drdOut x = _; unfold drdOut; rw [if_neg h]
 refine ⟨DKA.hfa hx, by show AM.hf (drdOut x) = true; unfold drdOut; split <;> rfl, C.of_W hf hc (drd_main hE hm h101 h96 h139 h97 h98 h141 hf' hc' hb' x.d hx.d x.a hx.a _ (fun h s r hg => ?_) (fun h s => ?_))⟩
 · rw [h0 h]
   exact .tup _ _ (.cons (.sl r 0 128 _ _ _ _ _ _ hg (fun i x h => by rw [Nat.zero_add]; exact h) (frzPl (scs_hfs_bys _)) (.inl rfl)) (.cons (.plain _ rfl) .nil))
 · rw [h1 h]; exact .plain _ rfl
def zB : Option AObj → Bool
 | some (.row 101 [_, _, _, _, .nils]) => true
 | _ => false
noncomputable def drdV : Ov := fun args s => if zB (s.get 4) = true then drdF.O args s else drdO args s
theorem drdV_ok {P : Program} (h1 : OvOk P 51 drdF.O) (h2 : OvOk P 51 drdO) : OvOk P 51 drdV := by
 refine ⟨h1.1, fun args s v s' hh => ?_⟩
 unfold drdV at hh
 by_cases h : zB (s.get 4) = true
 · rw [if_pos h] at hh; exact h1.2 args s v s' hh
 · rw [if_neg h] at hh; exact h2.2 args s v s' hh
theorem drdV_fz {x : DKA} (hx : x.ok) {s : St} (h : zB (s.get 4) = true) : drdV x.args s = .ok (drdOut x) s := by
 unfold drdV
 rw [if_pos h]
 exact Fam.O_run drdF hx s
theorem drdV_row {x : DKA} (hx : x.ok) {s : St} (h : zB (s.get 4) = false) (he : x.e = 0) : drdV x.args s = .ok (.tup [.sl (0 + s.next) 0 128 (cpD x.b), .int .i64 0]) (s.alloc (.row 5 (bys (pad x.b)))) := by
 unfold drdV
 rw [if_neg (by rw [h]; decide), drdO_run hx, if_pos he]
end Go.AM

set_option maxRecDepth 100000
namespace Go.AM
attribute [local irreducible] W
open X
structure CDA where
 c : Cfg
 d : DK
 a : Int
structure CDA.ok (x : CDA) : Prop where
 c : x.c.ok
 d : x.d.ok
 a : i64B x.a
def CDA.args (x : CDA) : List AV := [x.c.v, x.d.v, .int .i64 x.a]
theorem CDA.inja {x y : CDA} (hx : x.ok) (hy : y.ok) (h : x.args = y.args) : x = y := by
 obtain ⟨c, d, a⟩ := x
 obtain ⟨c', d', a'⟩ := y
 have h0 := Cfg.injv (List.cons.inj h).1
 have h1 := DK.inj hx.d.a hy.d.a (List.cons.inj (List.cons.inj h).2).1
 have h2 := (List.cons.inj (List.cons.inj (List.cons.inj h).2).2).1
 injection h2 with _ h2
 dsimp only at h0 h1 h2
 rw [h0, h1, h2]
theorem CDA.hfa {x : CDA} (hx : x.ok) : hfs x.args = true := by
 show (AM.hf x.c.v && (AM.hf x.d.v && (true && true))) = true
 rw [DK.hf hx.d.a]; rfl
def askE (x : CDA) : Int := if x.c.may then (if dskB x.d = true ∧ (x.d.us.length : Int) = x.c.log + 1 then (if 0 ≤ x.a ∧ x.a < x.c.log then (if x.d.dead then 40 else 0) else 2) else 8) else 8
def askF : Fam CDA := ⟨CDA.ok, CDA.args, fun x => if askE x = 0 then .nilp else .fp [.int .i64 (askE x)], fun x y hx hy h => by rw [CDA.inja hx hy h]⟩
def code105 : AC := match a105 with | .mk c _ => c
theorem askF_ok {P : Program} {e : Env} {fn : Func} (hE : EnvOk P e) (hm : P.follows .mixedOrders = true) (h104 : Con e 104 journalF.O) (h101 : Con e 101 dskF.O) (h105 : Inl e 105 code105 [.tmp 2]) (hf : P.funcs[65]? = some fn) (hc : compF P fn = some a65) (hb : HasBody P 65) : OvOk P 65 askF.O := by
 refine Fam.ok_of hb fun x hx => ?_
 refine ⟨CDA.hfa hx, by show AM.hf (if askE x = 0 then _ else _) = true; split <;> rfl, C.of_V hE hm hf hc ?_⟩
 have fin0 : ∀ s, askE x = 0 → Frz s .nilp (askF.out x) := fun s h => by
   show Frz s .nilp (if askE x = 0 then _ else _); rw [if_pos h]; exact .plain _ rfl
 have fin1 : ∀ s r n, askE x = n → n ≠ 0 → s.get r = some (.row 37 [.int .i64 n]) → Frz s (.ptr r 0) (askF.out x) := fun s r n h hn hg => by
   show Frz s (.ptr r 0) (if askE x = 0 then _ else _); rw [if_neg (by rw [h]; exact hn), h]
   exact .ptr r 0 _ _ _ _ hg (fun i x h => by rw [Nat.zero_add]; exact h) (.cons (.plain _ rfl) .nil)
 have hdk := hx.d
 have hcok := hx.c
 have hbl := hx.d.a.bl
 have hja := hx.a
 have hun := hx.d.n
 obtain ⟨c, d, a⟩ := x
 obtain ⟨id, mb, ch, rw', lg, hd⟩ := c
 dsimp only at hdk hcok hbl hja hun
 have hlg := hcok.log
 dsimp only at hlg
 unfold askE at fin0 fin1
 dsimp only at fin0 fin1
 obtain ⟨D, hD⟩ : ∃ D, D = dskB d := ⟨_, rfl⟩
 have hDo : dskF.out d = .int .i64 (if D = true then 0 else 8) := by rw [hD]; rfl
 rw [← hD] at fin0 fin1
 unfold i64B at hja hlg
 obtain ⟨bv, us, bs, wv, ws, dd⟩ := d
 dsimp only at hbl hun fin0 fin1
 show VW P e 0 (match a65 with | .mk c _ => c) (initT [.agg [.int .u32 id, .int .i64 mb, .int .i64 ch, .int .i64 rw', .int .i64 lg, .int .i64 hd], .agg [bv, wv, .bool dd], .int .i64 a] 0 .lf) St0 none [] _
 conv => whnf
 by_cases hM : Cfg.may ⟨id, mb, ch, rw', lg, hd⟩
 · simp only [if_pos hM] at fin0 fin1
   have hM' := hM
   unfold Cfg.may at hM'
   dsimp only at hM'
   refine ESc.fam journalF h104 ⟨id, mb, ch, rw', lg, hd⟩ hcok (u := .tup [.int .i64 (lg + 1), .int .i64 0]) (by simp [journalF, hM]) ?_; conv => whnf
   repeat' (first | ((refine w6 rfl rfl ?_ ?_) <;> intro _ <;> first | (exfalso; omega) | (conv => whnf)) | fail)
   cases D
   · refine ESc.fam dskF h101 ⟨bv, us, bs, wv, ws, dd⟩ hdk (u := .int .i64 8) hDo ?_; conv => whnf
     repeat' (first | (refine ESc.inl h105 ?_; conv => whnf) | ((first | refine w5 rfl rfl ?_ ?_ | refine w6 rfl rfl ?_ ?_) <;> intro _ <;> first | (exfalso; omega) | (conv => whnf)) | fail)
     refine fin1 _ _ 8 (by simp) (by decide) ?_
     rfl
   · refine ESc.fam dskF h101 ⟨bv, us, bs, wv, ws, dd⟩ hdk (u := .int .i64 0) hDo ?_; conv => whnf
     simp only [eq_self, true_and] at fin0 fin1
     repeat' (first | (refine EPrim.lenZ rfl hbl ?_; conv => whnf) | (refine ESc.inl h105 ?_; conv => whnf) | ((first | refine w1 rfl rfl ?_ ?_ | refine w4 rfl rfl ?_ ?_ | refine w5 rfl rfl ?_ ?_ | refine w6 rfl rfl ?_ ?_) <;> intro _ <;> first | (exfalso; omega) | (conv => whnf)) | (refine w19 rfl ?_ ?_ <;> intro hc <;> (try subst hc) <;> conv => whnf))
     all_goals first | (exfalso; omega) | skip
     · refine fin1 _ _ 8 (by rw [if_neg (by omega)]) (by decide) ?_
       rfl
     · refine fin1 _ _ 2 (by rw [if_pos (by omega), if_neg (by omega)]) (by decide) ?_
       rfl
     · refine fin1 _ _ 2 (by rw [if_pos (by omega), if_neg (by omega)]) (by decide) ?_
       rfl
     · refine fin1 _ _ 40 (by rw [if_pos (by omega), if_pos (by omega)]; rfl) (by decide) ?_
       rfl
     · exact fin0 _ (by rw [if_pos (by omega), if_pos (by omega)]; rfl)
 · simp only [if_neg hM] at fin0 fin1
   refine ESc.fam journalF h104 ⟨id, mb, ch, rw', lg, hd⟩ hcok (u := .tup [.int .i64 0, .int .i64 8]) (by simp [journalF, hM]) ?_; conv => whnf
   repeat' (first | (refine ESc.inl h105 ?_; conv => whnf) | ((first | refine w5 rfl rfl ?_ ?_ | refine w6 rfl rfl ?_ ?_) <;> intro _ <;> first | (exfalso; omega) | (conv => whnf)) | fail)
   refine fin1 _ _ 8 rfl (by decide) ?_
   rfl
end Go.AM

set_option maxRecDepth 100000
namespace Go.AM
attribute [local irreducible] W
open X
def gsum (l : List Nat) : Nat := (l.map fun n => 8 + min n 100000).sum
theorem gsum_snoc (l : List Nat) (n : Nat) : gsum (l ++ [n]) = gsum l + (8 + min n 100000) := by unfold gsum; simp
theorem gsum_le : ∀ (l : List Nat), gsum l ≤ 100008 * l.length
 | [] => Nat.le_refl _
 | n :: l => by
   have := gsum_le l
   show 8 + min n 100000 + gsum l ≤ 100008 * (l.length + 1)
   omega
theorem gsum_mem : ∀ {l : List Nat} {n : Nat}, n ∈ l → min n 100000 ≤ gsum l
 | [], _, h => by cases h
 | m :: l, n, h => by
   show min n 100000 ≤ 8 + min m 100000 + gsum l
   rcases List.mem_cons.1 h with rfl | h
   · omega
   · have := gsum_mem h; omega
def DK.bl (x : DK) : List Nat := x.bs.map List.length
def DK.wl (x : DK) : List Nat := x.ws.map fun w => w.b.length
def grt4B (x : DK) : Bool := decide (300 < x.us.length) || (decide (1100 < x.ws.length) || decide (60000 < gsum (x.bl.take 400) + gsum (x.wl.take 1200)))
theorem grt4_ok {x : DK} (h : x.any) (hg : grt4B x = false) : x.ok := by
 unfold grt4B at hg
 simp only [Bool.or_eq_false_iff, decide_eq_false_iff_not] at hg
 obtain ⟨h1, h2, h3⟩ := hg
 have hb := h.bs.length
 have hbl : x.bl.take 400 = x.bl := List.take_of_length_le (by unfold DK.bl; rw [List.length_map]; omega)
 have hwl : x.wl.take 1200 = x.wl := List.take_of_length_le (by unfold DK.wl; rw [List.length_map]; omega)
 rw [hbl, hwl] at h3
 refine ⟨h, by omega, by omega, fun b hb => ?_, fun w hw => ?_⟩
 · have := gsum_mem (l := x.bl) (n := b.length) (List.mem_map_of_mem hb); omega
 · have := gsum_mem (l := x.wl) (n := w.b.length) (List.mem_map.2 ⟨w, hw, rfl⟩); omega
def grt4F : Fam DK := ⟨DK.any, fun x => [x.v], fun x => .bool (grt4B x), fun x y hx hy h => by rw [DK.inj hx hy (List.cons.inj h).1]⟩
theorem grt4F_ok {P : Program} {e : Env} {fn : Func} (hE : EnvOk P e) (hm : P.follows .mixedOrders = true) (hf : P.funcs[21]? = some fn) (hc : compF P fn = some a21) (hb : HasBody P 21) : OvOk P 21 grt4F.O := by
 refine Fam.ok_of hb fun x hx => ?_
 refine ⟨by show (AM.hf x.v && true) = true; rw [DK.hf hx]; rfl, rfl, C.of_V hE hm hf hc ?_⟩
 have fin : ∀ s (b : Bool), b = grt4B x → Frz s (.bool b) (grt4F.out x) := by rintro s b rfl; exact .plain _ rfl
 have hbl := hx.bl
 have hwl := hx.wl
 have hbs := hx.bs
 have hws := hx.ws
 have hbn := hx.bs.length
 obtain ⟨O, hO⟩ : ∃ O, O = grt4F.out x := ⟨_, rfl⟩
 rw [← hO] at fin ⊢
 clear hO
 obtain ⟨BL, hBL⟩ : ∃ L, L = x.bl := ⟨_, rfl⟩
 obtain ⟨WL, hWL⟩ : ∃ L, L = x.wl := ⟨_, rfl⟩
 have hBn : BL.length = x.bs.length := by rw [hBL]; unfold DK.bl; rw [List.length_map]
 have hWn : WL.length = x.ws.length := by rw [hWL]; unfold DK.wl; rw [List.length_map]
 have hBg : ∀ i (h : i < x.bs.length) (h' : i < BL.length), BL[i] = x.bs[i].length := fun i h h' => by
   have hq : x.bl[i]? = some x.bs[i].length := by unfold DK.bl; rw [List.getElem?_map, List.getElem?_eq_getElem h]; rfl
   rw [← hBL, List.getElem?_eq_getElem h'] at hq; exact Option.some.inj hq
 have hWg : ∀ i (h : i < x.ws.length) (h' : i < WL.length), WL[i] = x.ws[i].b.length := fun i h h' => by
   have hq : x.wl[i]? = some x.ws[i].b.length := by unfold DK.wl; rw [List.getElem?_map, List.getElem?_eq_getElem h]; rfl
   rw [← hWL, List.getElem?_eq_getElem h'] at hq; exact Option.some.inj hq
 unfold grt4B at fin
 rw [← hBL, ← hWL] at fin
 clear hBL hWL hx
 obtain ⟨bv, us, bs, wv, ws, dd⟩ := x
 dsimp only at hbl hwl hbs hws hbn hBn hWn hBg hWg fin
 have hdf : hfs [bv, wv, .bool dd] = true := by
   show (AM.hf bv && (AM.hf wv && (true && true))) = true
   rw [hbl.hf, hwl.hf]; rfl
 show VW P e 0 (match a21 with | .mk c _ => c) (initT [.agg [bv, wv, .bool dd]] 0 .lf) St0 none [] _
 conv => whnf
 refine W.loopT (α := Nat) (fun i => [(1, .ptr 0 0), (3, .int .i64 (gsum (BL.take i) : Nat)), (4, .int .i64 (i : Int))]) (fun _ => [.row 28 [bv, wv, .bool dd]]) (fun i => us.length - i) (fun i => i ≤ us.length ∧ i ≤ 400) 0 ⟨Nat.zero_le _, Nat.zero_le _⟩
     (Abs.tells (rs := [0]) ⟨by decide, ⟨⟨rfl, rfl⟩, ⟨rfl, rfl⟩, ⟨rfl, rfl⟩, trivial⟩, ⟨⟨rowH hdf, by rw [mapRowH hdf]; rfl⟩, trivial⟩⟩) ?_
 rintro i ⟨hi, hi4⟩
 refine vw_sound hE hm ?_
 have hg1 := gsum_le (BL.take i)
 rw [List.length_take] at hg1
 by_cases hlt : i < us.length ∧ i < 400
 · obtain ⟨hl1, hl2⟩ := hlt
   conv => whnf
   refine EPrim.lenZ rfl hbl ?_; conv => whnf
   refine EPrim.lss2 (a := (i : Int)) (b := (us.length : Int)) rfl rfl (fun _ => ?_) (fun h => by omega); conv => whnf
   refine EPrim.lss2 (a := (i : Int)) (b := 400) rfl rfl (fun _ => ?_) (fun h => by omega); conv => whnf
   refine EPrim.ixsS rfl hbl rfl hl1 ?_; conv => whnf
   obtain ⟨b, hb1, hb2⟩ := hbs.get (List.getElem?_eq_getElem hl1)
   have hlb : i < bs.length := by omega
   have hLB : i < BL.length := by omega
   have hbe : bs[i] = b := by rw [List.getElem?_eq_getElem hlb] at hb1; exact Option.some.inj hb1
   have hsucc : ((gsum (BL.take (i + 1)) : Nat) : Int) = (gsum (BL.take i) : Int) + (8 + ((min b.length 100000 : Nat) : Int)) := by
     rw [List.take_succ_eq_append_getElem hLB, gsum_snoc, hBg i hlb hLB, hbe]; omega
   have hug : us[i]? = some us[i] := List.getElem?_eq_getElem hl1
   revert hb2 hug
   generalize us[i] = u
   intro hb2 hug
   refine EHead.mk (v := u) (by rw [Nat.mul_one, List.getElem?_drop, Nat.add_zero]; exact hug) ?_; conv => whnf
   refine EPrim.lenZ rfl hb2.1 ?_; conv => whnf
   refine EPrim.min2 (a := (b.length : Int)) (b := 100000) rfl ?_
   rw [show min (b.length : Int) 100000 = ((min b.length 100000 : Nat) : Int) by omega]
   conv => whnf
   repeat' (first | ((first | refine w7 rfl rfl (by omega) ?_ | refine ⟨rfl, ?_⟩); conv => whnf) | fail)
   exact ⟨i + 1, ⟨hl1, hl2⟩, by omega, Abs.tells (rs := [0]) ⟨by decide, ⟨⟨rfl, rfl⟩, ⟨rfl, by rw [hsucc]; rfl⟩, ⟨rfl, rfl⟩, trivial⟩, ⟨⟨rowH hdf, by rw [mapRowH hdf]; rfl⟩, trivial⟩⟩⟩
 · by_cases hl1 : i < us.length
   · conv => whnf
     refine EPrim.lenZ rfl hbl ?_; conv => whnf
     (refine EPrim.lss2 (a := (i : Int)) (b := (us.length : Int)) rfl rfl (fun _ => ?_) (fun h => by omega); (conv => whnf); refine EPrim.lss2 (a := (i : Int)) (b := 400) rfl rfl (fun _ => by omega) (fun _ => ?_))
     have hBt : BL.take i = BL.take 400 := by
       rcases (show i = us.length ∨ i = 400 by omega) with h | h
       · rw [h, List.take_of_length_le (by omega), List.take_of_length_le (by omega)]
       · rw [h]
     rw [hBt] at hg1 ⊢
     conv => whnf
     refine W.loopT (α := Nat) (fun j => [(1, .ptr 0 0), (3, .int .i64 ((gsum (BL.take 400) : Nat) + (gsum (WL.take j) : Nat))), (5, .int .i64 (j : Int))]) (fun _ => [.row 28 [bv, wv, .bool dd]]) (fun j => ws.length - j) (fun j => j ≤ ws.length ∧ j ≤ 1200) 0 ⟨Nat.zero_le _, Nat.zero_le _⟩
         (Abs.tells (rs := [0]) ⟨by decide, ⟨⟨rfl, rfl⟩, ⟨rfl, by show _ = some (AV.int .i64 ((gsum (BL.take 400) : Int) + 0)); rw [Int.add_zero]; rfl⟩, ⟨rfl, rfl⟩, trivial⟩, ⟨⟨rowH hdf, by rw [mapRowH hdf]; rfl⟩, trivial⟩⟩) ?_
     rintro j ⟨hj, hj4⟩
     refine vw_sound hE hm ?_
     have hg2 := gsum_le (WL.take j)
     rw [List.length_take] at hg2
     by_cases hjlt : j < ws.length ∧ j < 1200
     · obtain ⟨hj1, hj2⟩ := hjlt
       have hd := wrs_drop_cons hj1
       have hwa := hws _ (List.getElem_mem hj1)
       have hLW : j < WL.length := by omega
       have hsucc : ((gsum (WL.take (j + 1)) : Nat) : Int) = (gsum (WL.take j) : Int) + (8 + ((min ws[j].b.length 100000 : Nat) : Int)) := by
         rw [List.take_succ_eq_append_getElem hLW, gsum_snoc, hWg j hj1 hLW]; omega
       have hall := And.intro hd (And.intro hwa hsucc)
       clear hd hwa hsucc
       revert hall
       generalize ws[j] = w
       obtain ⟨wa, wu, wb⟩ := w
       rintro ⟨hd, ⟨hwa, hwb⟩, hsucc⟩
       have hd : (wrs ws).drop (j * 2) = [.int .i64 wa, wu] ++ wrs (ws.drop (j + 1)) := hd
       dsimp only at hwa hwb hsucc
       have hsucc' : ((gsum (BL.take 400) : Nat) : Int) + (gsum (WL.take (j + 1)) : Int) = ((gsum (BL.take 400) : Nat) : Int) + (gsum (WL.take j) : Int) + (8 + ((min wb.length 100000 : Nat) : Int)) := by rw [hsucc]; omega
       conv => whnf
       refine EPrim.lenZ rfl hwl ?_; conv => whnf
       refine EPrim.lss2 (a := (j : Int)) (b := (ws.length : Int)) rfl rfl (fun _ => ?_) (fun h => by omega); conv => whnf
       refine EPrim.lss2 (a := (j : Int)) (b := 1200) rfl rfl (fun _ => ?_) (fun h => by omega); conv => whnf
       refine EPrim.ixsS rfl hwl rfl hj1 ?_
       rw [hd]
       conv => whnf
       repeat' (first | (refine EHead.mk (v := wu) rfl ?_; conv => whnf) | (refine EPrim.lenZ rfl hwb.1 ?_; conv => whnf) | fail)
       refine EPrim.min2 (a := (wb.length : Int)) (b := 100000) rfl ?_
       rw [show min (wb.length : Int) 100000 = ((min wb.length 100000 : Nat) : Int) by omega]
       conv => whnf
       repeat' (first | ((first | refine w7 rfl rfl (by omega) ?_ | refine ⟨rfl, ?_⟩); conv => whnf) | fail)
       exact ⟨j + 1, ⟨hj1, hj2⟩, by omega, Abs.tells (rs := [0]) ⟨by decide, ⟨⟨rfl, rfl⟩, ⟨rfl, by rw [hsucc']; rfl⟩, ⟨rfl, rfl⟩, trivial⟩, ⟨⟨rowH hdf, by rw [mapRowH hdf]; rfl⟩, trivial⟩⟩⟩
     · have hWt : WL.take j = WL.take 1200 := by
         rcases (show j = ws.length ∨ j = 1200 by omega) with h | h
         · rw [h, List.take_of_length_le (by omega), List.take_of_length_le (by omega)]
         · rw [h]
       rw [hWt] at hg2 ⊢
       by_cases hj1 : j < ws.length
       · conv => whnf
         refine EPrim.lenZ rfl hwl ?_; conv => whnf
         (refine EPrim.lss2 (a := (j : Int)) (b := (ws.length : Int)) rfl rfl (fun _ => ?_) (fun h => by omega); (conv => whnf); refine EPrim.lss2 (a := (j : Int)) (b := 1200) rfl rfl (fun _ => by omega) (fun _ => ?_))
         conv => whnf
         repeat' (first | (refine EPrim.lenZ rfl hbl ?_; conv => whnf) | (refine EPrim.lenZ rfl hwl ?_; conv => whnf) | ((refine w3 rfl rfl ?_ ?_) <;> intro _ <;> first | (exfalso; omega) | (conv => whnf)) | fail)
         all_goals exact fin _ _ (by symm; simp only [Bool.or_eq_true, Bool.or_eq_false_iff, decide_eq_true_eq, decide_eq_false_iff_not]; omega)
       · conv => whnf
         refine EPrim.lenZ rfl hwl ?_; conv => whnf
         (refine EPrim.lss2 (a := (j : Int)) (b := (ws.length : Int)) rfl rfl (fun _ => by omega) (fun _ => ?_))
         conv => whnf
         repeat' (first | (refine EPrim.lenZ rfl hbl ?_; conv => whnf) | (refine EPrim.lenZ rfl hwl ?_; conv => whnf) | ((refine w3 rfl rfl ?_ ?_) <;> intro _ <;> first | (exfalso; omega) | (conv => whnf)) | fail)
         all_goals exact fin _ _ (by symm; simp only [Bool.or_eq_true, Bool.or_eq_false_iff, decide_eq_true_eq, decide_eq_false_iff_not]; omega)
   · conv => whnf
     refine EPrim.lenZ rfl hbl ?_; conv => whnf
     (refine EPrim.lss2 (a := (i : Int)) (b := (us.length : Int)) rfl rfl (fun _ => by omega) (fun _ => ?_))
     have hBt : BL.take i = BL.take 400 := by
       rcases (show i = us.length ∨ i = 400 by omega) with h | h
       · rw [h, List.take_of_length_le (by omega), List.take_of_length_le (by omega)]
       · rw [h]
     rw [hBt] at hg1 ⊢
     conv => whnf
     refine W.loopT (α := Nat) (fun j => [(1, .ptr 0 0), (3, .int .i64 ((gsum (BL.take 400) : Nat) + (gsum (WL.take j) : Nat))), (5, .int .i64 (j : Int))]) (fun _ => [.row 28 [bv, wv, .bool dd]]) (fun j => ws.length - j) (fun j => j ≤ ws.length ∧ j ≤ 1200) 0 ⟨Nat.zero_le _, Nat.zero_le _⟩
         (Abs.tells (rs := [0]) ⟨by decide, ⟨⟨rfl, rfl⟩, ⟨rfl, by show _ = some (AV.int .i64 ((gsum (BL.take 400) : Int) + 0)); rw [Int.add_zero]; rfl⟩, ⟨rfl, rfl⟩, trivial⟩, ⟨⟨rowH hdf, by rw [mapRowH hdf]; rfl⟩, trivial⟩⟩) ?_
     rintro j ⟨hj, hj4⟩
     refine vw_sound hE hm ?_
     have hg2 := gsum_le (WL.take j)
     rw [List.length_take] at hg2
     by_cases hjlt : j < ws.length ∧ j < 1200
     · obtain ⟨hj1, hj2⟩ := hjlt
       have hd := wrs_drop_cons hj1
       have hwa := hws _ (List.getElem_mem hj1)
       have hLW : j < WL.length := by omega
       have hsucc : ((gsum (WL.take (j + 1)) : Nat) : Int) = (gsum (WL.take j) : Int) + (8 + ((min ws[j].b.length 100000 : Nat) : Int)) := by
         rw [List.take_succ_eq_append_getElem hLW, gsum_snoc, hWg j hj1 hLW]; omega
       have hall := And.intro hd (And.intro hwa hsucc)
       clear hd hwa hsucc
       revert hall
       generalize ws[j] = w
       obtain ⟨wa, wu, wb⟩ := w
       rintro ⟨hd, ⟨hwa, hwb⟩, hsucc⟩
       have hd : (wrs ws).drop (j * 2) = [.int .i64 wa, wu] ++ wrs (ws.drop (j + 1)) := hd
       dsimp only at hwa hwb hsucc
       have hsucc' : ((gsum (BL.take 400) : Nat) : Int) + (gsum (WL.take (j + 1)) : Int) = ((gsum (BL.take 400) : Nat) : Int) + (gsum (WL.take j) : Int) + (8 + ((min wb.length 100000 : Nat) : Int)) := by rw [hsucc]; omega
       conv => whnf
       refine EPrim.lenZ rfl hwl ?_; conv => whnf
       refine EPrim.lss2 (a := (j : Int)) (b := (ws.length : Int)) rfl rfl (fun _ => ?_) (fun h => by omega); conv => whnf
       refine EPrim.lss2 (a := (j : Int)) (b := 1200) rfl rfl (fun _ => ?_) (fun h => by omega); conv => whnf
       refine EPrim.ixsS rfl hwl rfl hj1 ?_
       rw [hd]
       conv => whnf
       repeat' (first | (refine EHead.mk (v := wu) rfl ?_; conv => whnf) | (refine EPrim.lenZ rfl hwb.1 ?_; conv => whnf) | fail)
       refine EPrim.min2 (a := (wb.length : Int)) (b := 100000) rfl ?_
       rw [show min (wb.length : Int) 100000 = ((min wb.length 100000 : Nat) : Int) by omega]
       conv => whnf
       repeat' (first | ((first | refine w7 rfl rfl (by omega) ?_ | refine ⟨rfl, ?_⟩); conv => whnf) | fail)
       exact ⟨j + 1, ⟨hj1, hj2⟩, by omega, Abs.tells (rs := [0]) ⟨by decide, ⟨⟨rfl, rfl⟩, ⟨rfl, by rw [hsucc']; rfl⟩, ⟨rfl, rfl⟩, trivial⟩, ⟨⟨rowH hdf, by rw [mapRowH hdf]; rfl⟩, trivial⟩⟩⟩
     · have hWt : WL.take j = WL.take 1200 := by
         rcases (show j = ws.length ∨ j = 1200 by omega) with h | h
         · rw [h, List.take_of_length_le (by omega), List.take_of_length_le (by omega)]
         · rw [h]
       rw [hWt] at hg2 ⊢
       by_cases hj1 : j < ws.length
       · conv => whnf
         refine EPrim.lenZ rfl hwl ?_; conv => whnf
         (refine EPrim.lss2 (a := (j : Int)) (b := (ws.length : Int)) rfl rfl (fun _ => ?_) (fun h => by omega); (conv => whnf); refine EPrim.lss2 (a := (j : Int)) (b := 1200) rfl rfl (fun _ => by omega) (fun _ => ?_))
         conv => whnf
         repeat' (first | (refine EPrim.lenZ rfl hbl ?_; conv => whnf) | (refine EPrim.lenZ rfl hwl ?_; conv => whnf) | ((refine w3 rfl rfl ?_ ?_) <;> intro _ <;> first | (exfalso; omega) | (conv => whnf)) | fail)
         all_goals exact fin _ _ (by symm; simp only [Bool.or_eq_true, Bool.or_eq_false_iff, decide_eq_true_eq, decide_eq_false_iff_not]; omega)
       · conv => whnf
         refine EPrim.lenZ rfl hwl ?_; conv => whnf
         (refine EPrim.lss2 (a := (j : Int)) (b := (ws.length : Int)) rfl rfl (fun _ => by omega) (fun _ => ?_))
         conv => whnf
         repeat' (first | (refine EPrim.lenZ rfl hbl ?_; conv => whnf) | (refine EPrim.lenZ rfl hwl ?_; conv => whnf) | ((refine w3 rfl rfl ?_ ?_) <;> intro _ <;> first | (exfalso; omega) | (conv => whnf)) | fail)
         all_goals exact fin _ _ (by symm; simp only [Bool.or_eq_true, Bool.or_eq_false_iff, decide_eq_true_eq, decide_eq_false_iff_not]; omega)
end Go.AM

set_option maxRecDepth 100000
namespace Go.AM
attribute [local irreducible] W
open X
def plcE (x : DK) (a : Int) : Int := if dskB x = true then (if 0 ≤ a ∧ a < x.us.length then 0 else 2) else 8
def plcF : Fam DKA := ⟨DKA.ok, DKA.args, fun x => .int .i64 (plcE x.d x.a), fun x y hx hy h => by rw [DKA.inja hx hy h]⟩
theorem plcF_ok {P : Program} {e : Env} {fn : Func} (hE : EnvOk P e) (hm : P.follows .mixedOrders = true) (h101 : Con e 101 dskF.O) (hf : P.funcs[139]? = some fn) (hc : compF P fn = some a139) (hb : HasBody P 139) : OvOk P 139 plcF.O := by
 refine Fam.ok_of hb fun x hx => ?_
 refine ⟨DKA.hfa hx, rfl, C.of_V hE hm hf hc ?_⟩
 have fin : ∀ s (n : Int), n = plcE x.d x.a → Frz s (.int .i64 n) (plcF.out x) := by rintro s n rfl; exact .plain _ rfl
 obtain ⟨O, hO⟩ : ∃ O, O = plcF.out x := ⟨_, rfl⟩
 rw [← hO] at fin ⊢
 clear hO
 have hbl := hx.d.a.bl
 have hun := hx.d.n
 have ha := hx.a
 have hd := hx.d
 obtain ⟨d, a⟩ := x
 dsimp only at hbl hun ha hd fin
 unfold plcE at fin
 obtain ⟨D, hD⟩ : ∃ D, D = dskB d := ⟨_, rfl⟩
 have hDo : dskF.out d = .int .i64 (if D = true then 0 else 8) := by rw [hD]; rfl
 rw [← hD] at fin
 unfold i64B at ha
 obtain ⟨bv, us, bs, wv, ws, dd⟩ := d
 dsimp only at hbl hun fin
 show VW P e 0 (match a139 with | .mk c _ => c) (initT [.agg [bv, wv, .bool dd], .int .i64 a] 0 .lf) St0 none [] _
 conv => whnf
 cases D
 · refine ESc.fam dskF h101 ⟨bv, us, bs, wv, ws, dd⟩ hd (u := .int .i64 8) hDo ?_; conv => whnf
   repeat' (first | ((refine w6 rfl rfl ?_ ?_) <;> intro _ <;> first | (exfalso; omega) | (conv => whnf)) | fail)
   exact fin _ 8 (by simp)
 · refine ESc.fam dskF h101 ⟨bv, us, bs, wv, ws, dd⟩ hd (u := .int .i64 0) hDo ?_; conv => whnf
   simp only [eq_self, if_true] at fin
   repeat' (first | (refine EPrim.lenZ rfl hbl ?_; conv => whnf) | ((first | refine w1 rfl rfl ?_ ?_ | refine w4 rfl rfl ?_ ?_ | refine w6 rfl rfl ?_ ?_) <;> intro _ <;> first | (exfalso; omega) | (conv => whnf)) | fail)
   · exact fin _ 2 (by rw [if_neg (by omega)])
   · exact fin _ 2 (by rw [if_neg (by omega)])
   · exact fin _ 0 (by rw [if_pos (by omega)])
structure DKW where
 d : DK
 a : Int
 u : AV
 b : List Nat
structure DKW.ok (x : DKW) : Prop where
 d : x.d.ok
 a : i64B x.a
 b : BAt x.u x.b
 n : x.b.length < 1000000
def DKW.args (x : DKW) : List AV := [x.d.v, .int .i64 x.a, x.u]
theorem DKW.inja {x y : DKW} (hx : x.ok) (hy : y.ok) (h : x.args = y.args) : x = y := by
 obtain ⟨d, a, u, b⟩ := x
 obtain ⟨d', a', u', b'⟩ := y
 have h1 := DK.inj hx.d.a hy.d.a (List.cons.inj h).1
 have h2 := (List.cons.inj (List.cons.inj h).2).1
 have h3 := (List.cons.inj (List.cons.inj (List.cons.inj h).2).2).1
 injection h2 with _ h2
 dsimp only at h1 h2 h3
 subst h1 h2 h3
 have := hx.b.inj hy.b
 dsimp only at this
 rw [this]
theorem DKW.hfa {x : DKW} (hx : x.ok) : hfs x.args = true := by
 show (AM.hf x.d.v && (true && (AM.hf x.u && true))) = true
 rw [DK.hf hx.d.a, hx.b.1.hf]; rfl
def wrtE (x : DK) (a : Int) (b : List Nat) : Int := if plcE x a = 0 then (if oddB b.length = true then 3 else if x.dead = true then 40 else 0) else plcE x a
def wrtF : Fam DKW := ⟨DKW.ok, DKW.args, fun x => .int .i64 (wrtE x.d x.a x.b), fun x y hx hy h => by rw [DKW.inja hx hy h]⟩
theorem wrtF_ok {P : Program} {e : Env} {fn : Func} (hE : EnvOk P e) (hm : P.follows .mixedOrders = true) (h139 : Con e 139 plcF.O) (h143 : Con e 143 oddF.O) (hf : P.funcs[102]? = some fn) (hc : compF P fn = some a102) (hb : HasBody P 102) : OvOk P 102 wrtF.O := by
 refine Fam.ok_of hb fun x hx => ?_
 refine ⟨DKW.hfa hx, rfl, C.of_V hE hm hf hc ?_⟩
 have fin : ∀ s (n : Int), n = wrtE x.d x.a x.b → Frz s (.int .i64 n) (wrtF.out x) := by rintro s n rfl; exact .plain _ rfl
 obtain ⟨O, hO⟩ : ∃ O, O = wrtF.out x := ⟨_, rfl⟩
 rw [← hO] at fin ⊢
 clear hO
 obtain ⟨d, a, u, b⟩ := x
 obtain ⟨hd, ha, hbt, hbn⟩ := hx
 dsimp only at hd ha hbt hbn fin
 unfold wrtE at fin
 obtain ⟨pe, hpe⟩ : ∃ pe, pe = plcE d a := ⟨_, rfl⟩
 have hpo : plcF.out ⟨d, a⟩ = .int .i64 pe := by rw [hpe]; rfl
 rw [← hpe] at fin
 obtain ⟨bv, us, bs, wv, ws, dd⟩ := d
 dsimp only at fin
 show VW P e 0 (match a102 with | .mk c _ => c) (initT [.agg [bv, wv, .bool dd], .int .i64 a, u] 0 .lf) St0 none [] _
 conv => whnf
 refine ESc.fam plcF h139 ⟨⟨bv, us, bs, wv, ws, dd⟩, a⟩ ⟨hd, ha⟩ (u := .int .i64 pe) hpo ?_; conv => whnf
 refine EPrim.neq2 (a := pe) (b := 0) rfl rfl (fun e1 => ?_) (fun e1 => ?_)
 · conv => whnf
   skip
   exact fin _ pe (by rw [if_neg e1])
 · rw [if_pos e1] at fin
   conv => whnf
   refine ESc.fam oddF h143 ⟨u, b.length⟩ ⟨⟨_, hbt.1⟩, by dsimp only; omega⟩ (u := .bool (oddB b.length)) rfl ?_
   cases ho : oddB b.length
   · rw [ho] at fin
     simp only [Bool.false_eq_true, if_false] at fin
     cases dd
     · conv => whnf
       skip
       exact fin _ 0 (by simp)
     · conv => whnf
       skip
       exact fin _ 40 (by simp)
   · conv => whnf
     skip
     exact fin _ 3 (by rw [if_pos ho])
end Go.AM

set_option maxRecDepth 100000
namespace Go.AM
attribute [local irreducible] W
open X
def clnV : AV → AV
 | .es => .fz 0 none []
 | .fz n _ l => .fz n none l
 | v => v
theorem hfs_cln (l : List AV) (h : ∀ u ∈ l, AM.hf (clnV u) = true) : hfs (l.map clnV) = true := hfs_iff.2 fun v hv => by
 obtain ⟨u, hu, rfl⟩ := List.mem_map.1 hv; exact h u hu
def osW (D : List AV) (dd : Bool) (L : List AV) : Nat → List AObj
 | 0 => [.row 28 D, .row 28 [.nils, .nils, .bool false], .row 28 [.nils, .nils, .bool dd]]
 | i + 1 => [.row 28 D, .row 28 [.nils, .nils, .bool false], .row 28 [.sl 3 0 (i + 1) none, .nils, .bool dd], .row 32 L]
def tlW (bv : AV) (n i : Nat) : List (Nat × AV) := [(1, .ptr 0 0), (2, .ptr 1 0), (3, .ptr 2 0), (12, bv), (13, .int .i64 (n : Int)), (14, .int .i64 (i : Int))]
theorem tw_step {P : Program} {t : AT} {s : St} {D : List AV} {dd : Bool} {bv : AV} {m i n : Nat} {L cs : List AV} {cp : Option Nat} {rs : List Nat} (hbv : AM.hf bv = true) (hD : hfs D = true) (hL : hfs L = true) (hcs : hfs cs = true)
   (h : Abs t s (tlW bv m (i + 1)) (osW D dd (L ++ [.sl 4 0 n cp]) (i + 1) ++ [.row 5 cs]) rs) :
   Tells P 0 t s [] (ofL (tlW bv m (i + 1))) (allocs St0 (osW D dd (L ++ [.fz n none cs]) (i + 1))) [] := by
 refine AbsK.frz (n := 4) h.toK rfl hcs rfl rfl rfl rfl ?_ ?_
 · show [_, _, _, (12, frzV 4 _ bv), _, _] = _
   rw [hf_frzV bv hbv]; rfl
 · show [frzO 4 cs (.row 28 D), _, _, AObj.row 32 (frzVs 4 cs (L ++ [.sl 4 0 n cp]))] = _
   rw [frzRowH hD, frzVs_append, hfs_frzVs L hL]
   rfl
def clnW (w : WR) : WR := ⟨w.at_, clnV w.u, w.b⟩
theorem wrs_app1 (L : List WR) (w : WR) : wrs (L ++ [w].map clnW) = wrs L ++ [.int .i64 w.at_, clnV w.u] := by
 unfold wrs; rw [List.flatMap_append]; rfl
theorem bds_app2 {n : Nat} {L : List AV} {x y : AV} (h : hfs L = true) : bds n (L ++ [x, y]) = (bd n x && bd n y) := by
 induction L with
 | nil => show (bd n x && (bd n y && true)) = _; rw [Bool.and_true]
 | cons z L ih =>
   simp only [hfs, Bool.and_eq_true] at h
   show (bd n z && bds n (L ++ [x, y])) = _
   rw [hf_bd z h.1, ih h.2]; rfl
theorem mapVs_app2 {ρ : Nat → Nat} {L : List AV} {x y : AV} (h : hfs L = true) : mapVs ρ (L ++ [x, y]) = L ++ [mapV ρ x, mapV ρ y] := by
 induction L with
 | nil => rfl
 | cons z L ih =>
   simp only [hfs, Bool.and_eq_true] at h
   show mapV ρ z :: mapVs ρ (L ++ [x, y]) = _
   rw [hf_mapV z h.1, ih h.2]; rfl
theorem hfs_wrs : ∀ {L : List WR}, (∀ w ∈ L, AM.hf w.u = true) → hfs (wrs L) = true
 | [], _ => rfl
 | w :: L, h => by
   show (true && (AM.hf w.u && hfs (wrs L))) = true
   rw [h w (by simp), hfs_wrs fun v hv => h v (by simp [hv])]; rfl
def osV (D : List AV) (dd : Bool) (L : List AV) (k : Nat) (M : List AV) : Nat → List AObj
 | 0 => [.row 28 D, .row 28 [.nils, .nils, .bool false], .row 28 [.sl 3 0 k none, .nils, .bool dd], .row 32 L]
 | j + 1 => [.row 28 D, .row 28 [.nils, .nils, .bool false], .row 28 [.sl 3 0 k none, .sl 4 0 (j + 1) none, .bool dd], .row 32 L, .row 116 M]
def tlV (wv : AV) (n j : Nat) : List (Nat × AV) := [(2, .ptr 1 0), (3, .ptr 2 0), (27, wv), (28, .int .i64 (n : Int)), (29, .int .i64 (j : Int))]
theorem tv_step {P : Program} {t : AT} {s : St} {D : List AV} {dd : Bool} {wv : AV} {m i n k : Nat} {a : Int} {L M cs : List AV} {cp : Option Nat} {rs : List Nat} (hwv : AM.hf wv = true) (hD : hfs D = true) (hL : hfs L = true) (hM : hfs M = true) (hcs : hfs cs = true)
   (h : Abs t s (tlV wv m (i + 1)) (osV D dd L k (M ++ [.int .i64 a, .sl 5 0 n cp]) (i + 1) ++ [.row 5 cs]) rs) :
   Tells P 0 t s [] (ofL (tlV wv m (i + 1))) (allocs St0 (osV D dd L k (M ++ [.int .i64 a, .fz n none cs]) (i + 1))) [] := by
 refine AbsK.frz (n := 5) h.toK rfl hcs rfl rfl rfl rfl ?_ ?_
 · show [_, _, (27, frzV 5 _ wv), _, _] = _
   rw [hf_frzV wv hwv]; rfl
 · show [frzO 5 cs (.row 28 D), _, _, frzO 5 cs (.row 32 L), AObj.row 116 (frzVs 5 cs (M ++ [.int .i64 a, .sl 5 0 n cp]))] = _
   rw [frzRowH hD, frzRowH hL, frzVs_append, hfs_frzVs M hM]
   rfl
theorem tw_main {P : Program} {e : Env} (hE : EnvOk P e) (hm : P.follows .mixedOrders = true) (h141 : Inl e 141 code141 [.tmp 2]) {d : DK} (hd : d.ok) (h0 : 1 ≤ d.us.length) {K : AV → St → Prop}
   (hk : ∀ s, s.get 3 = some (.row 32 (d.us.map clnV)) → (d.ws.length = 0 → K (.agg [.sl 3 0 d.us.length none, .nils, .bool d.dead]) s) ∧ (1 ≤ d.ws.length → s.get 4 = some (.row 116 (wrs (d.ws.map clnW))) → K (.agg [.sl 3 0 d.us.length none, .sl 4 0 d.ws.length none, .bool d.dead]) s)) :
   VW P e 0 (match a103 with | .mk c _ => c) (initT [d.v] 0 .lf) St0 none [] (EEnd [.cells 2 3] K) := by
 have hbl := hd.a.bl
 have hbs := hd.a.bs
 have hbb := hd.b
 have hun := hd.n
 have hwsl := hd.a.wl
 have hwsa := hd.a.ws
 have hwb := hd.w
 have hwn := hd.m
 have hdf : hfs d.c = true := DKhf hd.a.wl hd.a.bl
 obtain ⟨bv, us, bs, wv, ws, dd⟩ := d
 dsimp only at hbl hbs hbb hun h0 hk hwsl hwsa hwb hwn
 have hdf : hfs [bv, wv, .bool dd] = true := hdf
 have hbv := hbl.hf
 have hcl : ∀ i, hfs ((us.take i).map clnV) = true := fun i => hfs_cln _ fun u hu => by
   obtain ⟨k, hk⟩ := List.mem_iff_getElem?.1 (List.mem_of_mem_take hu)
   obtain ⟨b, _, hb⟩ := hbs.get hk
   rcases hb.1 with ⟨rfl, _⟩ | ⟨rfl, _⟩ | ⟨c, rfl, _⟩ <;> rfl
 show VW P e 0 (match a103 with | .mk c _ => c) (initT [.agg [bv, wv, .bool dd]] 0 .lf) St0 none [] _
 conv => whnf
 refine EPrim.lenZ rfl hbl ?_; conv => whnf
 refine W.loopT (α := Nat) (fun i => tlW bv us.length i) (fun i => osW [bv, wv, .bool dd] dd ((us.take i).map clnV) i) (fun i => us.length - i) (fun i => i ≤ us.length) 0 (Nat.zero_le _)
     (Abs.tells (rs := [0, 1, 2]) ⟨by decide, ⟨⟨rfl, rfl⟩, ⟨rfl, rfl⟩, ⟨rfl, rfl⟩, ⟨hf_bd _ hbv, by rw [hf_mapV _ hbv]; rfl⟩, ⟨rfl, rfl⟩, ⟨rfl, rfl⟩, trivial⟩, ⟨⟨rowH hdf, by rw [mapRowH hdf]; rfl⟩, ⟨rfl, rfl⟩, ⟨rfl, rfl⟩, trivial⟩⟩) ?_
 intro i hi
 refine vw_sound hE hm ?_
 by_cases hlt : i < us.length
 · obtain ⟨b, hb1, hb2⟩ := hbs.get (List.getElem?_eq_getElem hlt)
   have hbn := hbb b (List.mem_of_getElem? hb1)
   have hug : ((us.drop (i * 1)))[0]? = some us[i] := by rw [Nat.mul_one, List.getElem?_drop, Nat.add_zero, List.getElem?_eq_getElem hlt]
   have htk : us.take (i + 1) = us.take i ++ [us[i]] := List.take_succ_eq_append_getElem hlt
   have hub := hb2.1
   have hall := And.intro hug (And.intro htk hub)
   clear hb1 hb2 hug htk hub
   revert hall
   generalize us[i] = u
   rintro ⟨hug, htk, hub⟩
   rcases i with _ | i
   · conv => whnf
     refine EPrim.lss2 (a := ((0 : Nat) : Int)) (b := (us.length : Int)) rfl rfl (fun _ => ?_) (fun h => by omega); conv => whnf
     refine EPrim.ixsS rfl hbl rfl hlt ?_; conv => whnf
     refine EHead.mk (v := u) hug ?_; conv => whnf
     refine ESc.inl h141 ?_; conv => whnf
     rcases hub with ⟨rfl, hn0, hbs0⟩ | ⟨rfl, hn0, hbs0⟩ | ⟨c, rfl, hbl'⟩
     · refine eqbNil0 rfl rfl ?_; conv => whnf
       repeat' (first | (refine EPrim.appNil (m := 1) rfl rfl rfl rfl (by decide) (by decide) ?_; conv => whnf) | ((first | refine w7 rfl rfl (by omega) ?_ | refine ⟨rfl, ?_⟩); conv => whnf) | fail)
       refine ⟨0 + 1, hlt, by omega, ?_⟩
       rw [htk, List.map_append]
       refine Abs.tells (rs := [0, 1, 2, 4]) ⟨by decide, ⟨⟨rfl, rfl⟩, ⟨rfl, rfl⟩, ⟨rfl, rfl⟩, ⟨hf_bd _ hbv, by rw [hf_mapV _ hbv]; rfl⟩, ⟨rfl, rfl⟩, ⟨rfl, rfl⟩, trivial⟩, ⟨⟨rowH hdf, by rw [mapRowH hdf]; rfl⟩, ⟨rfl, rfl⟩, ⟨rfl, rfl⟩, ⟨by show bds _ (List.map _ _ ++ [_]) = true; rw [bds_app (hcl _)]; rfl, by show _ = some (AObj.row 32 (mapVs _ (List.map _ _ ++ [_]))); rw [mapVs_app (hcl _)]; rfl⟩, trivial⟩⟩
     · refine eqbNil rfl rfl (.inl rfl) ?_; conv => whnf
       repeat' (first | (refine EPrim.app0 rfl rfl rfl ?_; conv => whnf) | (refine EPrim.appNil (m := 1) rfl rfl rfl rfl (by decide) (by decide) ?_; conv => whnf) | ((first | refine w7 rfl rfl (by omega) ?_ | refine ⟨rfl, ?_⟩); conv => whnf) | fail)
       refine ⟨0 + 1, hlt, by omega, ?_⟩
       rw [htk, List.map_append]
       refine tw_step (i := 0) (L := (us.take (0)).map clnV) (n := 0) (cs := []) (rs := [0, 1, 2, 5, 3]) hbv hdf (hcl _) rfl ⟨by decide, ⟨⟨rfl, rfl⟩, ⟨rfl, rfl⟩, ⟨rfl, rfl⟩, ⟨hf_bd _ hbv, by rw [hf_mapV _ hbv]; rfl⟩, ⟨rfl, rfl⟩, ⟨rfl, rfl⟩, trivial⟩, ⟨⟨rowH hdf, by rw [mapRowH hdf]; rfl⟩, ⟨rfl, rfl⟩, ⟨rfl, rfl⟩, ⟨by show bds _ (List.map _ _ ++ [_]) = true; rw [bds_app (hcl _)]; rfl, by show _ = some (AObj.row 32 (mapVs _ (List.map _ _ ++ [_]))); rw [mapVs_app (hcl _)]; rfl⟩, ⟨rowH rfl, by rw [mapRowH rfl]; rfl⟩, trivial⟩⟩
     · refine eqbNil rfl rfl (.inr ⟨_, _, _, rfl⟩) ?_; conv => whnf
       cases b with
       | nil =>
         repeat' (first | (refine EPrim.app0 rfl rfl rfl ?_; conv => whnf) | (refine EPrim.appNil (m := 1) rfl rfl rfl rfl (by decide) (by decide) ?_; conv => whnf) | ((first | refine w7 rfl rfl (by omega) ?_ | refine ⟨rfl, ?_⟩); conv => whnf) | fail)
         refine ⟨0 + 1, hlt, by omega, ?_⟩
         rw [htk, List.map_append]
         refine tw_step (i := 0) (L := (us.take (0)).map clnV) (n := 0) (cs := []) (rs := [0, 1, 2, 5, 3]) hbv hdf (hcl _) rfl ⟨by decide, ⟨⟨rfl, rfl⟩, ⟨rfl, rfl⟩, ⟨rfl, rfl⟩, ⟨hf_bd _ hbv, by rw [hf_mapV _ hbv]; rfl⟩, ⟨rfl, rfl⟩, ⟨rfl, rfl⟩, trivial⟩, ⟨⟨rowH hdf, by rw [mapRowH hdf]; rfl⟩, ⟨rfl, rfl⟩, ⟨rfl, rfl⟩, ⟨by show bds _ (List.map _ _ ++ [_]) = true; rw [bds_app (hcl _)]; rfl, by show _ = some (AObj.row 32 (mapVs _ (List.map _ _ ++ [_]))); rw [mapVs_app (hcl _)]; rfl⟩, ⟨rowH rfl, by rw [mapRowH rfl]; rfl⟩, trivial⟩⟩
       | cons x b =>
         refine EPrim.app1 (c := .int .u8 (Int.ofNat x)) (cs := bys b) (m := b.length + 1) rfl rfl ?_ rfl ?_ (by omega) (by have := hbn; simp at this; omega) ?_
         · show takeL ((b.length + 1) * 1) (bys (x :: b)) = _
           rw [takeL_of (by rw [bys_length]; simp), List.take_of_length_le (by rw [bys_length]; simp)]; rfl
         · show (bys (x :: b)).length / 1 = _
           rw [bys_length]; simp
         conv => whnf
         repeat' (first | (refine EPrim.appNil (m := 1) rfl rfl rfl rfl (by decide) (by decide) ?_; conv => whnf) | ((first | refine w7 rfl rfl (by omega) ?_ | refine ⟨rfl, ?_⟩); conv => whnf) | fail)
         refine ⟨0 + 1, hlt, by omega, ?_⟩
         rw [htk, List.map_append]
         refine tw_step (i := 0) (L := (us.take (0)).map clnV) (n := (b.length + 1)) (cs := (bys (x :: b))) (rs := [0, 1, 2, 6, 4]) hbv hdf (hcl _) (scs_hfs_bys _) ⟨by decide, ⟨⟨rfl, rfl⟩, ⟨rfl, rfl⟩, ⟨rfl, rfl⟩, ⟨hf_bd _ hbv, by rw [hf_mapV _ hbv]; rfl⟩, ⟨rfl, rfl⟩, ⟨rfl, rfl⟩, trivial⟩, ⟨⟨rowH hdf, by rw [mapRowH hdf]; rfl⟩, ⟨rfl, rfl⟩, ⟨rfl, rfl⟩, ⟨by show bds _ (List.map _ _ ++ [_]) = true; rw [bds_app (hcl _)]; rfl, by show _ = some (AObj.row 32 (mapVs _ (List.map _ _ ++ [_]))); rw [mapVs_app (hcl _)]; rfl⟩, ⟨rowH (scs_hfs_bys _), by rw [mapRowH (scs_hfs_bys _)]; rfl⟩, trivial⟩⟩
   · conv => whnf
     refine EPrim.lss2 (a := ((i + 1 : Nat) : Int)) (b := (us.length : Int)) rfl rfl (fun _ => ?_) (fun h => by omega); conv => whnf
     refine EPrim.ixsS rfl hbl rfl hlt ?_; conv => whnf
     refine EHead.mk (v := u) hug ?_; conv => whnf
     refine ESc.inl h141 ?_; conv => whnf
     rcases hub with ⟨rfl, hn0, hbs0⟩ | ⟨rfl, hn0, hbs0⟩ | ⟨c, rfl, hbl'⟩
     · refine eqbNil0 rfl rfl ?_; conv => whnf
       repeat' (first | (refine EPrim.appU (m := 1) rfl rfl rfl rfl (by rw [List.length_map, List.length_take]; omega) rfl (by decide) (by omega) ?_; conv => whnf) | ((first | refine w7 rfl rfl (by omega) ?_ | refine ⟨rfl, ?_⟩); conv => whnf) | fail)
       refine ⟨i + 1 + 1, hlt, by omega, ?_⟩
       rw [htk, List.map_append]
       refine Abs.tells (rs := [0, 1, 2, 5]) ⟨by decide, ⟨⟨rfl, rfl⟩, ⟨rfl, rfl⟩, ⟨rfl, rfl⟩, ⟨hf_bd _ hbv, by rw [hf_mapV _ hbv]; rfl⟩, ⟨rfl, rfl⟩, ⟨rfl, rfl⟩, trivial⟩, ⟨⟨rowH hdf, by rw [mapRowH hdf]; rfl⟩, ⟨rfl, rfl⟩, ⟨rfl, rfl⟩, ⟨by show bds _ (List.map _ _ ++ [_]) = true; rw [bds_app (hcl _)]; rfl, by show _ = some (AObj.row 32 (mapVs _ (List.map _ _ ++ [_]))); rw [mapVs_app (hcl _)]; rfl⟩, trivial⟩⟩
     · refine eqbNil rfl rfl (.inl rfl) ?_; conv => whnf
       repeat' (first | (refine EPrim.app0 rfl rfl rfl ?_; conv => whnf) | (refine EPrim.appU (m := 1) rfl rfl rfl rfl (by rw [List.length_map, List.length_take]; omega) rfl (by decide) (by omega) ?_; conv => whnf) | ((first | refine w7 rfl rfl (by omega) ?_ | refine ⟨rfl, ?_⟩); conv => whnf) | fail)
       refine ⟨i + 1 + 1, hlt, by omega, ?_⟩
       rw [htk, List.map_append]
       refine tw_step (i := i + 1) (L := (us.take (i + 1)).map clnV) (n := 0) (cs := []) (rs := [0, 1, 2, 6, 4]) hbv hdf (hcl _) rfl ⟨by decide, ⟨⟨rfl, rfl⟩, ⟨rfl, rfl⟩, ⟨rfl, rfl⟩, ⟨hf_bd _ hbv, by rw [hf_mapV _ hbv]; rfl⟩, ⟨rfl, rfl⟩, ⟨rfl, rfl⟩, trivial⟩, ⟨⟨rowH hdf, by rw [mapRowH hdf]; rfl⟩, ⟨rfl, rfl⟩, ⟨rfl, rfl⟩, ⟨by show bds _ (List.map _ _ ++ [_]) = true; rw [bds_app (hcl _)]; rfl, by show _ = some (AObj.row 32 (mapVs _ (List.map _ _ ++ [_]))); rw [mapVs_app (hcl _)]; rfl⟩, ⟨rowH rfl, by rw [mapRowH rfl]; rfl⟩, trivial⟩⟩
     · refine eqbNil rfl rfl (.inr ⟨_, _, _, rfl⟩) ?_; conv => whnf
       cases b with
       | nil =>
         repeat' (first | (refine EPrim.app0 rfl rfl rfl ?_; conv => whnf) | (refine EPrim.appU (m := 1) rfl rfl rfl rfl (by rw [List.length_map, List.length_take]; omega) rfl (by decide) (by omega) ?_; conv => whnf) | ((first | refine w7 rfl rfl (by omega) ?_ | refine ⟨rfl, ?_⟩); conv => whnf) | fail)
         refine ⟨i + 1 + 1, hlt, by omega, ?_⟩
         rw [htk, List.map_append]
         refine tw_step (i := i + 1) (L := (us.take (i + 1)).map clnV) (n := 0) (cs := []) (rs := [0, 1, 2, 6, 4]) hbv hdf (hcl _) rfl ⟨by decide, ⟨⟨rfl, rfl⟩, ⟨rfl, rfl⟩, ⟨rfl, rfl⟩, ⟨hf_bd _ hbv, by rw [hf_mapV _ hbv]; rfl⟩, ⟨rfl, rfl⟩, ⟨rfl, rfl⟩, trivial⟩, ⟨⟨rowH hdf, by rw [mapRowH hdf]; rfl⟩, ⟨rfl, rfl⟩, ⟨rfl, rfl⟩, ⟨by show bds _ (List.map _ _ ++ [_]) = true; rw [bds_app (hcl _)]; rfl, by show _ = some (AObj.row 32 (mapVs _ (List.map _ _ ++ [_]))); rw [mapVs_app (hcl _)]; rfl⟩, ⟨rowH rfl, by rw [mapRowH rfl]; rfl⟩, trivial⟩⟩
       | cons x b =>
         refine EPrim.app1 (c := .int .u8 (Int.ofNat x)) (cs := bys b) (m := b.length + 1) rfl rfl ?_ rfl ?_ (by omega) (by have := hbn; simp at this; omega) ?_
         · show takeL ((b.length + 1) * 1) (bys (x :: b)) = _
           rw [takeL_of (by rw [bys_length]; simp), List.take_of_length_le (by rw [bys_length]; simp)]; rfl
         · show (bys (x :: b)).length / 1 = _
           rw [bys_length]; simp
         conv => whnf
         repeat' (first | (refine EPrim.appU (m := 1) rfl rfl rfl rfl (by rw [List.length_map, List.length_take]; omega) rfl (by decide) (by omega) ?_; conv => whnf) | ((first | refine w7 rfl rfl (by omega) ?_ | refine ⟨rfl, ?_⟩); conv => whnf) | fail)
         refine ⟨i + 1 + 1, hlt, by omega, ?_⟩
         rw [htk, List.map_append]
         refine tw_step (i := i + 1) (L := (us.take (i + 1)).map clnV) (n := (b.length + 1)) (cs := (bys (x :: b))) (rs := [0, 1, 2, 7, 5]) hbv hdf (hcl _) (scs_hfs_bys _) ⟨by decide, ⟨⟨rfl, rfl⟩, ⟨rfl, rfl⟩, ⟨rfl, rfl⟩, ⟨hf_bd _ hbv, by rw [hf_mapV _ hbv]; rfl⟩, ⟨rfl, rfl⟩, ⟨rfl, rfl⟩, trivial⟩, ⟨⟨rowH hdf, by rw [mapRowH hdf]; rfl⟩, ⟨rfl, rfl⟩, ⟨rfl, rfl⟩, ⟨by show bds _ (List.map _ _ ++ [_]) = true; rw [bds_app (hcl _)]; rfl, by show _ = some (AObj.row 32 (mapVs _ (List.map _ _ ++ [_]))); rw [mapVs_app (hcl _)]; rfl⟩, ⟨rowH (scs_hfs_bys _), by rw [mapRowH (scs_hfs_bys _)]; rfl⟩, trivial⟩⟩
 · obtain ⟨k, rfl⟩ : ∃ k, i = k + 1 := ⟨i - 1, by omega⟩
   have hku : k + 1 = us.length := by omega
   have hLe : (us.take (k + 1)).map clnV = us.map clnV := by rw [List.take_of_length_le (by omega)]
   have hLf := hcl (k + 1)
   rw [hLe] at hLf ⊢
   have hwv := hwsl.hf
   conv => whnf
   refine EPrim.lss2 (a := ((k + 1 : Nat) : Int)) (b := (us.length : Int)) rfl rfl (fun _ => by omega) (fun _ => ?_); conv => whnf
   refine EPrim.lenZ rfl hwsl ?_; conv => whnf
   have hwl : ∀ i, hfs (wrs ((ws.take i).map clnW)) = true := fun i => hfs_wrs fun w hw => by
     obtain ⟨v, hv, rfl⟩ := List.mem_map.1 hw
     rcases (hwsa v (List.mem_of_mem_take hv)).b.1 with ⟨h, _⟩ | ⟨h, _⟩ | ⟨c, h, _⟩ <;> (show AM.hf (clnV v.u) = true; rw [h]; rfl)
   refine W.loopT (α := Nat) (fun j => tlV wv ws.length j) (fun j => osV [bv, wv, .bool dd] dd (us.map clnV) (k + 1) (wrs ((ws.take j).map clnW)) j) (fun j => ws.length - j) (fun j => j ≤ ws.length) 0 (Nat.zero_le _)
       (Abs.tells (rs := [0, 1, 2, 3]) ⟨by decide, ⟨⟨rfl, rfl⟩, ⟨rfl, rfl⟩, ⟨hf_bd _ hwv, by rw [hf_mapV _ hwv]; rfl⟩, ⟨rfl, rfl⟩, ⟨rfl, rfl⟩, trivial⟩, ⟨⟨rowH hdf, by rw [mapRowH hdf]; rfl⟩, ⟨rfl, rfl⟩, ⟨rfl, rfl⟩, ⟨rowH hLf, by rw [mapRowH hLf]; rfl⟩, trivial⟩⟩) ?_
   intro j hj
   refine vw_sound hE hm ?_
   by_cases hlt : j < ws.length
   · have hdr := wrs_drop_cons hlt
     have hwm := List.getElem_mem hlt
     have hwany := hwsa _ hwm
     have hbn := hwb _ hwm
     have htk : ws.take (j + 1) = ws.take j ++ [ws[j]] := List.take_succ_eq_append_getElem hlt
     have hall := And.intro hdr (And.intro hwany (And.intro hbn htk))
     clear hdr hwm hwany hbn htk
     revert hall
     generalize ws[j] = w
     obtain ⟨wa, u, b⟩ := w
     rintro ⟨hdr, ⟨hwai, hub, hub2⟩, hbn, htk⟩
     have hdr : (wrs ws).drop (j * 2) = [.int .i64 wa, u] ++ wrs (ws.drop (j + 1)) := hdr
     dsimp only at hub hbn
     have hcell : ∀ (K : List AV → Prop), K [.int .i64 wa, u] → ETake 2 ([.int .i64 wa, u] ++ wrs (ws.drop (j + 1))) K := fun K hk => ETake.eq rfl hk
     rcases j with _ | j
     · conv => whnf
       refine EPrim.lss2 (a := ((0 : Nat) : Int)) (b := (ws.length : Int)) rfl rfl (fun _ => ?_) (fun h => by omega); conv => whnf
       refine EPrim.ixsS rfl hwsl rfl hlt ?_
       rw [hdr]
       conv => whnf
       refine hcell _ ?_; conv => whnf
       repeat' (first | (refine ESc.inl h141 ?_; conv => whnf) | fail)
       rcases hub with ⟨rfl, hn0, hbs0⟩ | ⟨rfl, hn0, hbs0⟩ | ⟨c, rfl, hbl'⟩
       · refine eqbNil0 rfl rfl ?_; conv => whnf
         repeat' (first | (refine ⟨rfl, ?_⟩; conv => whnf) | (refine EPrim.appNil (m := 1) rfl rfl rfl rfl (by decide) (by decide) ?_; conv => whnf) | (refine w7 rfl rfl (by omega) ?_; conv => whnf) | fail)
         refine ⟨0 + 1, hlt, by omega, ?_⟩
         rw [htk, List.map_append, wrs_app1]
         refine Abs.tells (rs := [0, 1, 2, 3, 6]) ⟨by decide, ⟨⟨rfl, rfl⟩, ⟨rfl, rfl⟩, ⟨hf_bd _ hwv, by rw [hf_mapV _ hwv]; rfl⟩, ⟨rfl, rfl⟩, ⟨rfl, rfl⟩, trivial⟩, ⟨⟨rowH hdf, by rw [mapRowH hdf]; rfl⟩, ⟨rfl, rfl⟩, ⟨rfl, rfl⟩, ⟨rowH hLf, by rw [mapRowH hLf]; rfl⟩, ⟨by show bds _ (wrs _ ++ [.int .i64 _, _]) = true; rw [bds_app2 (hwl _)]; rfl, by show _ = some (AObj.row 116 (mapVs _ (wrs _ ++ [.int .i64 _, _]))); rw [mapVs_app2 (hwl _)]; rfl⟩, trivial⟩⟩
       · refine eqbNil rfl rfl (.inl rfl) ?_; conv => whnf
         repeat' (first | (refine EPrim.app0 rfl rfl rfl ?_; conv => whnf) | (refine ⟨rfl, ?_⟩; conv => whnf) | (refine EPrim.appNil (m := 1) rfl rfl rfl rfl (by decide) (by decide) ?_; conv => whnf) | (refine w7 rfl rfl (by omega) ?_; conv => whnf) | fail)
         refine ⟨0 + 1, hlt, by omega, ?_⟩
         rw [htk, List.map_append, wrs_app1]
         refine tv_step (i := 0) (M := wrs ((ws.take (0)).map clnW)) (a := wa) (n := 0) (cs := []) (rs := [0, 1, 2, 3, 7, 5]) hwv hdf hLf (hwl _) rfl ⟨by decide, ⟨⟨rfl, rfl⟩, ⟨rfl, rfl⟩, ⟨hf_bd _ hwv, by rw [hf_mapV _ hwv]; rfl⟩, ⟨rfl, rfl⟩, ⟨rfl, rfl⟩, trivial⟩, ⟨⟨rowH hdf, by rw [mapRowH hdf]; rfl⟩, ⟨rfl, rfl⟩, ⟨rfl, rfl⟩, ⟨rowH hLf, by rw [mapRowH hLf]; rfl⟩, ⟨by show bds _ (wrs _ ++ [.int .i64 _, _]) = true; rw [bds_app2 (hwl _)]; rfl, by show _ = some (AObj.row 116 (mapVs _ (wrs _ ++ [.int .i64 _, _]))); rw [mapVs_app2 (hwl _)]; rfl⟩, ⟨rowH rfl, by rw [mapRowH rfl]; rfl⟩, trivial⟩⟩
       · refine eqbNil rfl rfl (.inr ⟨_, _, _, rfl⟩) ?_; conv => whnf
         cases b with
         | nil =>
           repeat' (first | (refine EPrim.app0 rfl rfl rfl ?_; conv => whnf) | (refine ⟨rfl, ?_⟩; conv => whnf) | (refine EPrim.appNil (m := 1) rfl rfl rfl rfl (by decide) (by decide) ?_; conv => whnf) | (refine w7 rfl rfl (by omega) ?_; conv => whnf) | fail)
           refine ⟨0 + 1, hlt, by omega, ?_⟩
           rw [htk, List.map_append, wrs_app1]
           refine tv_step (i := 0) (M := wrs ((ws.take (0)).map clnW)) (a := wa) (n := 0) (cs := []) (rs := [0, 1, 2, 3, 7, 5]) hwv hdf hLf (hwl _) rfl ⟨by decide, ⟨⟨rfl, rfl⟩, ⟨rfl, rfl⟩, ⟨hf_bd _ hwv, by rw [hf_mapV _ hwv]; rfl⟩, ⟨rfl, rfl⟩, ⟨rfl, rfl⟩, trivial⟩, ⟨⟨rowH hdf, by rw [mapRowH hdf]; rfl⟩, ⟨rfl, rfl⟩, ⟨rfl, rfl⟩, ⟨rowH hLf, by rw [mapRowH hLf]; rfl⟩, ⟨by show bds _ (wrs _ ++ [.int .i64 _, _]) = true; rw [bds_app2 (hwl _)]; rfl, by show _ = some (AObj.row 116 (mapVs _ (wrs _ ++ [.int .i64 _, _]))); rw [mapVs_app2 (hwl _)]; rfl⟩, ⟨rowH rfl, by rw [mapRowH rfl]; rfl⟩, trivial⟩⟩
         | cons x b =>
           refine EPrim.app1 (c := .int .u8 (Int.ofNat x)) (cs := bys b) (m := b.length + 1) rfl rfl ?_ rfl ?_ (by omega) (by have := hbn; simp at this; omega) ?_
           · show takeL ((b.length + 1) * 1) (bys (x :: b)) = _
             rw [takeL_of (by rw [bys_length]; simp), List.take_of_length_le (by rw [bys_length]; simp)]; rfl
           · show (bys (x :: b)).length / 1 = _
             rw [bys_length]; simp
           conv => whnf
           repeat' (first | (refine ⟨rfl, ?_⟩; conv => whnf) | (refine EPrim.appNil (m := 1) rfl rfl rfl rfl (by decide) (by decide) ?_; conv => whnf) | (refine w7 rfl rfl (by omega) ?_; conv => whnf) | fail)
           refine ⟨0 + 1, hlt, by omega, ?_⟩
           rw [htk, List.map_append, wrs_app1]
           refine tv_step (i := 0) (M := wrs ((ws.take (0)).map clnW)) (a := wa) (n := (b.length + 1)) (cs := (bys (x :: b))) (rs := [0, 1, 2, 3, 8, 6]) hwv hdf hLf (hwl _) (scs_hfs_bys _) ⟨by decide, ⟨⟨rfl, rfl⟩, ⟨rfl, rfl⟩, ⟨hf_bd _ hwv, by rw [hf_mapV _ hwv]; rfl⟩, ⟨rfl, rfl⟩, ⟨rfl, rfl⟩, trivial⟩, ⟨⟨rowH hdf, by rw [mapRowH hdf]; rfl⟩, ⟨rfl, rfl⟩, ⟨rfl, rfl⟩, ⟨rowH hLf, by rw [mapRowH hLf]; rfl⟩, ⟨by show bds _ (wrs _ ++ [.int .i64 _, _]) = true; rw [bds_app2 (hwl _)]; rfl, by show _ = some (AObj.row 116 (mapVs _ (wrs _ ++ [.int .i64 _, _]))); rw [mapVs_app2 (hwl _)]; rfl⟩, ⟨rowH (scs_hfs_bys _), by rw [mapRowH (scs_hfs_bys _)]; rfl⟩, trivial⟩⟩
     · conv => whnf
       refine EPrim.lss2 (a := ((j + 1 : Nat) : Int)) (b := (ws.length : Int)) rfl rfl (fun _ => ?_) (fun h => by omega); conv => whnf
       refine EPrim.ixsS rfl hwsl rfl hlt ?_
       rw [hdr]
       conv => whnf
       refine hcell _ ?_; conv => whnf
       repeat' (first | (refine ESc.inl h141 ?_; conv => whnf) | fail)
       rcases hub with ⟨rfl, hn0, hbs0⟩ | ⟨rfl, hn0, hbs0⟩ | ⟨c, rfl, hbl'⟩
       · refine eqbNil0 rfl rfl ?_; conv => whnf
         repeat' (first | (refine ⟨rfl, ?_⟩; conv => whnf) | (refine EPrim.appU (m := 1) rfl rfl rfl rfl (by rw [wrs_length, List.length_map, List.length_take]; omega) rfl (by decide) (by omega) ?_; conv => whnf) | (refine w7 rfl rfl (by omega) ?_; conv => whnf) | fail)
         refine ⟨j + 1 + 1, hlt, by omega, ?_⟩
         rw [htk, List.map_append, wrs_app1]
         refine Abs.tells (rs := [0, 1, 2, 3, 7]) ⟨by decide, ⟨⟨rfl, rfl⟩, ⟨rfl, rfl⟩, ⟨hf_bd _ hwv, by rw [hf_mapV _ hwv]; rfl⟩, ⟨rfl, rfl⟩, ⟨rfl, rfl⟩, trivial⟩, ⟨⟨rowH hdf, by rw [mapRowH hdf]; rfl⟩, ⟨rfl, rfl⟩, ⟨rfl, rfl⟩, ⟨rowH hLf, by rw [mapRowH hLf]; rfl⟩, ⟨by show bds _ (wrs _ ++ [.int .i64 _, _]) = true; rw [bds_app2 (hwl _)]; rfl, by show _ = some (AObj.row 116 (mapVs _ (wrs _ ++ [.int .i64 _, _]))); rw [mapVs_app2 (hwl _)]; rfl⟩, trivial⟩⟩
       · refine eqbNil rfl rfl (.inl rfl) ?_; conv => whnf
         repeat' (first | (refine EPrim.app0 rfl rfl rfl ?_; conv => whnf) | (refine ⟨rfl, ?_⟩; conv => whnf) | (refine EPrim.appU (m := 1) rfl rfl rfl rfl (by rw [wrs_length, List.length_map, List.length_take]; omega) rfl (by decide) (by omega) ?_; conv => whnf) | (refine w7 rfl rfl (by omega) ?_; conv => whnf) | fail)
         refine ⟨j + 1 + 1, hlt, by omega, ?_⟩
         rw [htk, List.map_append, wrs_app1]
         refine tv_step (i := j + 1) (M := wrs ((ws.take (j + 1)).map clnW)) (a := wa) (n := 0) (cs := []) (rs := [0, 1, 2, 3, 8, 6]) hwv hdf hLf (hwl _) rfl ⟨by decide, ⟨⟨rfl, rfl⟩, ⟨rfl, rfl⟩, ⟨hf_bd _ hwv, by rw [hf_mapV _ hwv]; rfl⟩, ⟨rfl, rfl⟩, ⟨rfl, rfl⟩, trivial⟩, ⟨⟨rowH hdf, by rw [mapRowH hdf]; rfl⟩, ⟨rfl, rfl⟩, ⟨rfl, rfl⟩, ⟨rowH hLf, by rw [mapRowH hLf]; rfl⟩, ⟨by show bds _ (wrs _ ++ [.int .i64 _, _]) = true; rw [bds_app2 (hwl _)]; rfl, by show _ = some (AObj.row 116 (mapVs _ (wrs _ ++ [.int .i64 _, _]))); rw [mapVs_app2 (hwl _)]; rfl⟩, ⟨rowH rfl, by rw [mapRowH rfl]; rfl⟩, trivial⟩⟩
       · refine eqbNil rfl rfl (.inr ⟨_, _, _, rfl⟩) ?_; conv => whnf
         cases b with
         | nil =>
           repeat' (first | (refine EPrim.app0 rfl rfl rfl ?_; conv => whnf) | (refine ⟨rfl, ?_⟩; conv => whnf) | (refine EPrim.appU (m := 1) rfl rfl rfl rfl (by rw [wrs_length, List.length_map, List.length_take]; omega) rfl (by decide) (by omega) ?_; conv => whnf) | (refine w7 rfl rfl (by omega) ?_; conv => whnf) | fail)
           refine ⟨j + 1 + 1, hlt, by omega, ?_⟩
           rw [htk, List.map_append, wrs_app1]
           refine tv_step (i := j + 1) (M := wrs ((ws.take (j + 1)).map clnW)) (a := wa) (n := 0) (cs := []) (rs := [0, 1, 2, 3, 8, 6]) hwv hdf hLf (hwl _) rfl ⟨by decide, ⟨⟨rfl, rfl⟩, ⟨rfl, rfl⟩, ⟨hf_bd _ hwv, by rw [hf_mapV _ hwv]; rfl⟩, ⟨rfl, rfl⟩, ⟨rfl, rfl⟩, trivial⟩, ⟨⟨rowH hdf, by rw [mapRowH hdf]; rfl⟩, ⟨rfl, rfl⟩, ⟨rfl, rfl⟩, ⟨rowH hLf, by rw [mapRowH hLf]; rfl⟩, ⟨by show bds _ (wrs _ ++ [.int .i64 _, _]) = true; rw [bds_app2 (hwl _)]; rfl, by show _ = some (AObj.row 116 (mapVs _ (wrs _ ++ [.int .i64 _, _]))); rw [mapVs_app2 (hwl _)]; rfl⟩, ⟨rowH rfl, by rw [mapRowH rfl]; rfl⟩, trivial⟩⟩
         | cons x b =>
           refine EPrim.app1 (c := .int .u8 (Int.ofNat x)) (cs := bys b) (m := b.length + 1) rfl rfl ?_ rfl ?_ (by omega) (by have := hbn; simp at this; omega) ?_
           · show takeL ((b.length + 1) * 1) (bys (x :: b)) = _
             rw [takeL_of (by rw [bys_length]; simp), List.take_of_length_le (by rw [bys_length]; simp)]; rfl
           · show (bys (x :: b)).length / 1 = _
             rw [bys_length]; simp
           conv => whnf
           repeat' (first | (refine ⟨rfl, ?_⟩; conv => whnf) | (refine EPrim.appU (m := 1) rfl rfl rfl rfl (by rw [wrs_length, List.length_map, List.length_take]; omega) rfl (by decide) (by omega) ?_; conv => whnf) | (refine w7 rfl rfl (by omega) ?_; conv => whnf) | fail)
           refine ⟨j + 1 + 1, hlt, by omega, ?_⟩
           rw [htk, List.map_append, wrs_app1]
           refine tv_step (i := j + 1) (M := wrs ((ws.take (j + 1)).map clnW)) (a := wa) (n := (b.length + 1)) (cs := (bys (x :: b))) (rs := [0, 1, 2, 3, 9, 7]) hwv hdf hLf (hwl _) (scs_hfs_bys _) ⟨by decide, ⟨⟨rfl, rfl⟩, ⟨rfl, rfl⟩, ⟨hf_bd _ hwv, by rw [hf_mapV _ hwv]; rfl⟩, ⟨rfl, rfl⟩, ⟨rfl, rfl⟩, trivial⟩, ⟨⟨rowH hdf, by rw [mapRowH hdf]; rfl⟩, ⟨rfl, rfl⟩, ⟨rfl, rfl⟩, ⟨rowH hLf, by rw [mapRowH hLf]; rfl⟩, ⟨by show bds _ (wrs _ ++ [.int .i64 _, _]) = true; rw [bds_app2 (hwl _)]; rfl, by show _ = some (AObj.row 116 (mapVs _ (wrs _ ++ [.int .i64 _, _]))); rw [mapVs_app2 (hwl _)]; rfl⟩, ⟨rowH (scs_hfs_bys _), by rw [mapRowH (scs_hfs_bys _)]; rfl⟩, trivial⟩⟩
   · have hje : j = ws.length := by omega
     have hMe : ws.take j = ws := List.take_of_length_le (by omega)
     rw [hMe]
     rw [← hku] at hk
     rcases j with _ | j
     · conv => whnf
       refine EPrim.lss2 (a := ((0 : Nat) : Int)) (b := (ws.length : Int)) rfl rfl (fun _ => by omega) (fun _ => ?_); conv => whnf
       skip
       refine (hk _ ?_).1 hje.symm
       rfl
     · conv => whnf
       refine EPrim.lss2 (a := ((j + 1 : Nat) : Int)) (b := (ws.length : Int)) rfl rfl (fun _ => by omega) (fun _ => ?_); conv => whnf
       skip
       rw [← hje] at hk
       refine (hk _ ?_).2 (by omega) ?_
       · rfl
       · rfl
def twL (x : DK) : List AObj := match x.ws.length with
 | 0 => [.row 32 (x.us.map clnV)]
 | _ + 1 => [.row 32 (x.us.map clnV), .row 116 (wrs (x.ws.map clnW))]
def twV (n : Nat) (x : DK) : AV := .agg [.sl (0 + n) 0 x.us.length none, (match x.ws.length with | 0 => .nils | m + 1 => .sl (1 + n) 0 (m + 1) none), .bool x.dead]
structure DK1 (x : DK) : Prop where
 ok : x.ok
 n : 1 ≤ x.us.length
noncomputable def twO : Ov := fun args s => open Classical in if h : ∃ x : DK, DK1 x ∧ args = [x.v] then .ok (twV s.next (Classical.choose h)) (allocs s (twL (Classical.choose h))) else .fail
theorem twO_run {x : DK} (hx : DK1 x) (s : St) : twO [x.v] s = .ok (twV s.next x) (allocs s (twL x)) := by
 have h : ∃ y : DK, DK1 y ∧ [x.v] = [y.v] := ⟨x, hx, rfl⟩
 unfold twO
 rw [dif_pos h]
 obtain ⟨h1, h2⟩ := Classical.choose_spec h
 rw [← DK.inj hx.ok.a h1.ok.a (List.cons.inj h2).1]
theorem twO_ok {P : Program} {e : Env} {fn : Func} (hE : EnvOk P e) (hm : P.follows .mixedOrders = true) (h141 : Inl e 141 code141 [.tmp 2]) (hf : P.funcs[103]? = some fn) (hc : compF P fn = some a103) (hb : HasBody P 103) : OvOk P 103 twO := by
 refine ⟨hb, fun args s v s' hh => ?_⟩
 have hx0 : ∃ x : DK, DK1 x ∧ args = [x.v] := by
   unfold twO at hh
   split at hh
   · rename_i h; exact h
   · cases hh
 obtain ⟨x, hx, rfl⟩ := hx0
 rw [twO_run hx] at hh
 cases hh
 have hfa : hfs [x.v] = true := by show (AM.hf x.v && true) = true; rw [DK.hf hx.ok.a]; rfl
 have hcl : hfs (x.us.map clnV) = true := hfs_cln _ fun u hu => by
   obtain ⟨k, hk⟩ := List.mem_iff_getElem?.1 hu
   obtain ⟨b, _, hb⟩ := hx.ok.a.bs.get hk
   rcases hb.1 with ⟨rfl, _⟩ | ⟨rfl, _⟩ | ⟨c, rfl, _⟩ <;> rfl
 have hwl : hfs (wrs (x.ws.map clnW)) = true := hfs_wrs fun w hw => by
   obtain ⟨v, hv, rfl⟩ := List.mem_map.1 hw
   rcases (hx.ok.a.ws v hv).b.1 with ⟨h, _⟩ | ⟨h, _⟩ | ⟨c, h, _⟩ <;> (show AM.hf (clnV v.u) = true; rw [h]; rfl)
 have key : C P 103 [x.v] St0 (fun v s' => v = twV 0 x ∧ s' = allocs St0 (twL x)) := by
   refine C.abs (C.of_V hE hm hf hc (tw_main hE hm h141 hx.ok hx.n fun s h3 => ⟨fun h0 => ?_, fun h1 h4 => ?_⟩))
   · unfold twV twL
     rw [h0]
     exact ⟨[3], ⟨by decide, ⟨⟨rfl, rfl⟩, trivial⟩, ⟨⟨rowH hcl, by rw [mapRowH hcl]; exact h3⟩, trivial⟩⟩⟩
   · obtain ⟨m, hm'⟩ : ∃ m, x.ws.length = m + 1 := ⟨x.ws.length - 1, by omega⟩
     unfold twV twL
     rw [hm']
     exact ⟨[3, 4], ⟨by decide, ⟨⟨rfl, rfl⟩, trivial⟩, ⟨⟨rowH hcl, by rw [mapRowH hcl]; exact h3⟩, ⟨rowH hwl, by rw [mapRowH hwl]; exact h4⟩, trivial⟩⟩⟩
 refine (C.frame (l := twL x) (u := twV 0 x) hfa ?_ ?_ key ?_ s).mono ?_
 · unfold twL; split
   · intro o ho; simp at ho; subst ho; rfl
   · intro o ho; simp at ho; rcases ho with rfl | rfl <;> rfl
 · unfold twL; split <;> exact .inl (by simp)
 · unfold twL; split <;> intro i o h <;> rcases i with _ | _ | i <;> simp at h <;> first | (subst h; rfl) | omega
 · rintro v s' ⟨rfl, rfl⟩
   refine ⟨?_, ?_⟩
   · unfold twV; cases x.ws.length <;> rfl
   · unfold twL; split
     · show allocs s [mapO _ (.row 32 (x.us.map clnV))] = _
       rw [mapRowH hcl]
     · show allocs s [mapO _ (.row 32 (x.us.map clnV)), mapO _ (.row 116 (wrs (x.ws.map clnW)))] = _
       rw [mapRowH hcl, mapRowH hwl]
end Go.AM

set_option maxRecDepth 100000
namespace Go.AM
attribute [local irreducible] W
open X
def wAt (a : Int) (w : WR) : Bool := decide (w.at_ = a)
def keepW (a : Int) (L : List WR) : List WR := L.filter fun w => !wAt a w
def zW : List AV := [.int .i64 0, .nils]
def code136 : AC := match a136 with | .mk c _ => c
def code137 : AC := match a137 with | .mk c _ => c
theorem load_wr {s : St} {r e j : Nat} {X : List WR} {w : WR} (h : s.get r = some (.row e (wrs X))) (hj : X[j]? = some w) : load r (0 + j * 2) 2 s = some [.int .i64 w.at_, w.u] := by
 have hlt := (List.getElem?_eq_some_iff.1 hj).1
 have hw := (List.getElem?_eq_some_iff.1 hj).2
 rw [load_of h (by rw [wrs_length]; omega), Nat.zero_add, wrs_drop_cons hlt, hw]; rfl
theorem wrs_set : ∀ {X : List WR} {k : Nat} {w : WR}, k < X.length → (wrs X).take (k * 2) ++ [.int .i64 w.at_, w.u] ++ (wrs X).drop (k * 2 + 2) = wrs (X.set k w)
 | [], k, w, h => by simp at h
 | x :: X, 0, w, h => by rw [wrs_cons]; rfl
 | x :: X, k + 1, w, h => by
   have := wrs_set (X := X) (k := k) (w := w) (by simpa using h)
   rw [wrs_cons, List.set_cons_succ, wrs_cons, ← this]
   have hl : x.c.length = 2 := rfl
   rw [show (k + 1) * 2 = x.c.length + k * 2 by omega, List.take_append, List.take_of_length_le (by omega), show x.c.length + k * 2 + 2 = x.c.length + (k * 2 + 2) by omega, List.drop_append, List.drop_eq_nil_of_le (by omega)]
   simp
theorem store_wr {s : St} {r e k : Nat} {X : List WR} {w : WR} (h : s.get r = some (.row e (wrs X))) (hk : k < X.length) : storeAt r (0 + k * 2) [.int .i64 w.at_, w.u] s = some (s.put r (.row e (wrs (X.set k w)))) := by
 rw [store_of h (by rw [wrs_length]; show 0 + k * 2 + 2 ≤ _; omega), Nat.zero_add, ← wrs_set hk]; rfl
theorem EPrim.clrW {t : AT} {s : St} {k : AV → St → Prop} {x : AO} {z : List AV} {r o n : Nat} {c : Option Nat} {s' : St} (hx : ev x t = .some (.sl r o n c)) (hs : storeAt r o (rep z n) s = some s') (hk : k (.tup []) s') : EPrim (.clr z x) t s k := by
 refine EPrim.mk (fun e rec => ?_) hk
 show wth x t _ = _; unfold wth; rw [hx]
 show retS (.tup []) (storeAt r o (rep z n) s) = _; rw [hs]; rfl
theorem rep_length {z : List AV} : ∀ n, (rep z n).length = n * z.length
 | 0 => by show ([] : List AV).length = _; simp
 | n + 1 => by
   have : rep z (n + 1) = z ++ rep z n := by
     show appL z (rep z n) = _; rw [appL_eq]
   rw [this, List.length_append, rep_length n]; simp [Nat.succ_mul]; omega
theorem wrs_take (X : List WR) (k : Nat) : (wrs X).take (k * 2) = wrs (X.take k) := by
 induction X generalizing k with
 | nil => simp [wrs]
 | cons x X ih =>
   cases k with
   | zero => simp [wrs]
   | succ k =>
     have hl : x.c.length = 2 := rfl
     rw [wrs_cons, List.take_succ_cons, wrs_cons, ← ih, show (k + 1) * 2 = x.c.length + k * 2 by omega, List.take_append, List.take_of_length_le (by omega)]
     simp
theorem keepW_le (a : Int) (L : List WR) : (keepW a L).length ≤ L.length := List.length_filter_le _ _
theorem keepW_app (a : Int) (L M : List WR) : keepW a (L ++ M) = keepW a L ++ keepW a M := by unfold keepW; simp
theorem keepW_all {a : Int} {L : List WR} (h : ∀ w ∈ L, wAt a w = false) : keepW a L = L := by
 unfold keepW; rw [List.filter_eq_self]; intro w hw; rw [h w hw]; rfl
theorem fstW_spec (p : WR → Bool) : ∀ (L : List WR) (i : Nat), (fstW p L i = -1 ∧ ∀ w ∈ L, p w = false) ∨ ∃ (m : Nat) (h : m < L.length), fstW p L i = ((i + m : Nat) : Int) ∧ p L[m] = true ∧ ∀ w ∈ L.take m, p w = false
 | [], i => .inl ⟨rfl, by simp⟩
 | x :: L, i => by
   unfold fstW
   cases hx : p x
   · rcases fstW_spec p L (i + 1) with ⟨h1, h2⟩ | ⟨m, h, h1, h2, h3⟩
     · exact .inl ⟨by rw [if_neg (by decide)]; exact h1, fun w hw => by rcases List.mem_cons.1 hw with rfl | hw; exact hx; exact h2 w hw⟩
     · refine .inr ⟨m + 1, by simpa using h, ?_, by simpa using h2, fun w hw => ?_⟩
       · rw [if_neg (by decide), h1]; congr 1; omega
       · rw [List.take_succ_cons] at hw
         rcases List.mem_cons.1 hw with rfl | hw
         · exact hx
         · exact h3 w hw
   · exact .inr ⟨0, by simp, by rw [if_pos rfl]; simp, by simpa using hx, by simp⟩
theorem fidxW_run {P : Program} {e : Env} (hE : EnvOk P e) (hm : P.follows .mixedOrders = true) (h137 : Inl e 137 code137 [.tmp 3]) {v : AV} {W0 : List WR} {a : Int} (hs : Sl 2 W0.length (wrs W0) v) (ha : i64B a) (hw : ∀ w ∈ W0, i64B w.at_) (hn : W0.length < 1000000) (Q : AV → St → Prop) (hk : ∀ s, Q (.int .i64 (fstW (wAt a) W0 0)) s) :
   VW P e 0 code163 (initT [v, .fn 137 [] [.fp [.int .i64 a]]] 0 .lf) St0 none [] (EEnd [.tmp 4] Q) := by
 have hvf := hs.hf
 conv => whnf
 refine EPrim.lenZ rfl hs ?_; conv => whnf
 refine W.loopT (α := Nat) (fun i => [(0, v), (1, .fn 137 [] [.fp [.int .i64 a]]), (7, .int .i64 (W0.length : Int)), (8, .int .i64 (i : Int))]) (fun _ => []) (fun i => W0.length - i) (fun i => i ≤ W0.length ∧ fstW (wAt a) W0 0 = fstW (wAt a) (W0.drop i) i) 0 ⟨Nat.zero_le _, rfl⟩
   (Abs.tells (rs := []) ⟨by decide, ⟨⟨hf_bd _ hvf, by rw [hf_mapV _ hvf]; rfl⟩, ⟨rfl, rfl⟩, ⟨rfl, rfl⟩, ⟨rfl, rfl⟩, trivial⟩, trivial⟩) ?_
 rintro i ⟨hi, hI⟩
 refine vw_sound hE hm ?_
 by_cases hlt : i < W0.length
 · have hd := wrs_drop_cons hlt
   have hwa := hw _ (List.getElem_mem hlt)
   rw [List.drop_eq_getElem_cons hlt] at hI
   have hall := And.intro hI (And.intro hd hwa)
   clear hI hd hwa
   revert hall
   generalize W0[i] = w
   obtain ⟨wa, wu, wb⟩ := w
   rintro ⟨hI, hd, hwa⟩
   have hd : (wrs W0).drop (i * 2) = [.int .i64 wa, wu] ++ wrs (W0.drop (i + 1)) := hd
   have hI : fstW (wAt a) W0 0 = if decide (wa = a) then (i : Int) else fstW (wAt a) (W0.drop (i + 1)) (i + 1) := hI
   unfold i64B at hwa ha
   dsimp only at hwa
   conv => whnf
   refine EPrim.lss2 (a := (i : Int)) (b := (W0.length : Int)) rfl rfl (fun _ => ?_) (fun h => by omega); conv => whnf
   repeat' (first | (refine EPrim.ixsS rfl hs rfl hlt ?_; rw [hd]; conv => whnf) | (refine ETake.eq rfl ?_; conv => whnf) | (refine ECall.inl h137.O h137.G ?_; conv => whnf) | (refine EHead.mk rfl ?_; conv => whnf) | ((refine w5 rfl rfl ?_ ?_) <;> intro _ <;> first | (exfalso; omega) | (conv => whnf)) | ((first | refine w7 rfl rfl (by omega) ?_ | refine ⟨rfl, ?_⟩); conv => whnf) | fail)
   · rename_i he
     rw [if_pos (by simpa using he)] at hI
     rw [hI] at hk
     exact hk _
   · rename_i he
     rw [if_neg (by simpa using he)] at hI
     exact ⟨i + 1, ⟨hlt, hI⟩, by omega, Abs.tells (rs := []) ⟨by decide, ⟨⟨hf_bd _ hvf, by rw [hf_mapV _ hvf]; rfl⟩, ⟨rfl, rfl⟩, ⟨rfl, rfl⟩, ⟨rfl, rfl⟩, trivial⟩, trivial⟩⟩
 · have hd : W0.drop i = [] := List.drop_eq_nil_of_le (by omega)
   rw [hd] at hI
   have hI : fstW (wAt a) W0 0 = -1 := hI
   rw [hI] at hk
   conv => whnf
   refine EPrim.lss2 (a := (i : Int)) (b := (W0.length : Int)) rfl rfl (fun h => by omega) (fun _ => ?_); conv => whnf
   exact hk _
structure WA where
 r : Nat
 q : Nat
 ws : List WR
 a : Int
structure WA.ok (x : WA) (s : St) : Prop where
 g : s.get x.r = some (.row 116 (wrs x.ws))
 q : s.get x.q = some (.row 3 [.int .i64 x.a])
 w : ∀ w ∈ x.ws, w.any
 a : i64B x.a
 n : x.ws.length < 1000000
def WA.args (x : WA) : List AV := [.sl x.r 0 x.ws.length none, .fn 137 [] [.ptr x.q 0]]
theorem WA.inj {x y : WA} {s : St} (hx : x.ok s) (hy : y.ok s) (h : x.args = y.args) : x = y := by
 obtain ⟨r, q, ws, a⟩ := x
 obtain ⟨r', q', ws', a'⟩ := y
 simp [WA.args] at h
 obtain ⟨⟨rfl, _⟩, rfl⟩ := h
 have e1 := hx.g.symm.trans hy.g
 have e2 := hx.q.symm.trans hy.q
 dsimp only at e1 e2
 injection e1 with e1
 injection e1 with _ e1
 injection e2 with e2
 injection e2 with _ e2
 injection e2 with e2
 injection e2 with _ e2
 have e3 := wrs_inj hx.w hy.w e1
 dsimp only at e3
 subst e2 e3; rfl
noncomputable def widxA : Ov := fun args s => open Classical in if h : ∃ x : WA, x.ok s ∧ args = x.args then .ok (.int .i64 (fstW (wAt (Classical.choose h).a) (Classical.choose h).ws 0)) s else .fail
theorem widxA_run {x : WA} {s : St} (hx : x.ok s) : widxA x.args s = .ok (.int .i64 (fstW (wAt x.a) x.ws 0)) s := by
 have h : ∃ y : WA, y.ok s ∧ x.args = y.args := ⟨x, hx, rfl⟩
 unfold widxA
 rw [dif_pos h]
 obtain ⟨h1, h2⟩ := Classical.choose_spec h
 rw [← WA.inj hx h1 h2]
def nilI : Fam Int := ⟨i64B, fun a => [.nils, .fn 137 [] [.fp [.int .i64 a]]], fun a => .int .i64 (-1), fun _ _ _ _ _ => rfl⟩
noncomputable def delI : Ov := orO widxA nilI.O
theorem delI_ok {P : Program} {e : Env} {fn : Func} (hE : EnvOk P e) (hm : P.follows .mixedOrders = true) (h137 : Inl e 137 code137 [.tmp 3]) (hf : P.funcs[163]? = some fn) (hc : compF P fn = some a163) (hb : HasBody P 163) : OvOk P 163 delI := by
 refine orO_ok ⟨hb, fun args s u s' hh => ?_⟩ (Fam.ok_of hb fun a ha => ⟨rfl, rfl, C.of_V hE hm hf hc (fidxW_run (W0 := []) hE hm h137 (.inl ⟨rfl, rfl, rfl⟩) ha (by simp) (by decide) _ fun s => .plain _ rfl)⟩)
 unfold widxA at hh
 split at hh
 · rename_i hx
   cases hh
   obtain ⟨h1, h2⟩ := Classical.choose_spec hx
   generalize Classical.choose hx = y at h1 h2 ⊢
   subst h2
   obtain ⟨r, q, ws, a⟩ := y
   obtain ⟨hg, hq, hw, ha, hn⟩ := h1
   dsimp only at hg hq hw ha hn
   have hwf : hfs (wrs ws) = true := hfs_wrs fun w hwm => (hw w hwm).b.1.hf
   have hfz : ∀ (l : List AV) (s : St), hfs l = true → All2 (Frz s) l l := fun l s => by
     induction l with
     | nil => intro _; exact .nil
     | cons v l ih => intro h; simp only [hfs, Bool.and_eq_true] at h; exact .cons (.plain _ h.1) (ih h.2)
   refine C.view (args2 := [.fz ws.length none (wrs ws), .fn 137 [] [.fp [.int .i64 a]]]) (.cons (.sl r 0 ws.length none none 116 _ (wrs ws) _ hg (fun i x h => by rw [Nat.zero_add]; exact h) (hfz _ _ hwf) (.inl rfl)) (.cons (.fn 137 [] [.ptr q 0] [] [.fp [.int .i64 a]] .nil (.cons (.ptr q 0 3 [.int .i64 a] [.int .i64 a] [.int .i64 a] hq (fun i x h => by rw [Nat.zero_add]; exact h) (.cons (.plain _ rfl) .nil)) .nil)) .nil)) rfl (C.freeze rfl ?_)
   exact C.of_V hE hm hf hc (fidxW_run hE hm h137 (.inr (.inr ⟨none, rfl, wrs_length ws⟩)) ha (fun w hwm => (hw w hwm).at_) hn _ fun s => .plain _ rfl)
 · cases hh
theorem delI_run {e : Env} (h : Con e 163 delI) {x : WA} {s : St} (hx : x.ok s) {K : AV → St → Prop} (hk : K (.int .i64 (fstW (wAt x.a) x.ws 0)) s) : ESc e 163 x.args s K := by
 refine ESc.ov h (v := .int .i64 (fstW (wAt x.a) x.ws 0)) (s' := s) ?_ hk
 unfold delI orO
 rw [widxA_run hx]
theorem delI_nil {e : Env} (h : Con e 163 delI) {a : Int} (ha : i64B a) {s : St} {K : AV → St → Prop} (hk : K (.int .i64 (-1)) s) : ESc e 163 [.nils, .fn 137 [] [.fp [.int .i64 a]]] s K := by
 refine ESc.ov h (v := .int .i64 (-1)) (s' := s) ?_ hk
 have : widxA [.nils, .fn 137 [] [.fp [.int .i64 a]]] s = .fail := by
   unfold widxA
   rw [dif_neg]
   rintro ⟨x, _, h⟩
   have := (List.cons.inj h).1
   cases this
 unfold delI orO
 rw [this]
 exact Fam.O_run nilI ha s
theorem del_main {P : Program} {e : Env} (hE : EnvOk P e) (hm : P.follows .mixedOrders = true) (h163 : Con e 163 delI) (h137 : Inl e 137 code137 [.tmp 3]) {W0 : List WR} {a : Int} (ha : i64B a) (hw : ∀ w ∈ W0, w.any) (hn : W0.length < 1000000) (h1 : 1 ≤ W0.length) (Q : AV → St → Prop)
   (hk : ∀ s, s.get 0 = some (.row 116 (wrs (keepW a W0) ++ rep zW (W0.length - (keepW a W0).length))) → s.get 1 = some (.row 3 [.int .i64 a]) → Q (.sl 0 0 (keepW a W0).length none) s) :
   VW P e 2 code136 (initT [.sl 0 0 W0.length none, .fn 137 [] [.ptr 1 0]] 0 .lf) (allocs St0 [.row 116 (wrs W0), .row 3 [.int .i64 a]]) none [] (EEnd [.tmp 4] Q) := by
 have hwf : ∀ X : List WR, (∀ w ∈ X, w.any) → hfs (wrs X) = true := fun X h => hfs_wrs fun w hwm => (h w hwm).b.1.hf
 have hx : ∀ s : St, s.get 0 = some (.row 116 (wrs W0)) → s.get 1 = some (.row 3 [.int .i64 a]) → ∀ K : AV → St → Prop, K (.int .i64 (fstW (wAt a) W0 0)) s → ESc e 163 [.sl 0 0 W0.length none, .fn 137 [] [.ptr 1 0]] s K := fun s g1 g2 K hk => delI_run h163 (x := ⟨0, 1, W0, a⟩) ⟨g1, g2, hw, ha, hn⟩ hk
 conv => whnf
 refine hx _ rfl rfl _ ?_
 rcases fstW_spec (wAt a) W0 0 with ⟨e1, e2⟩ | ⟨m, hml, e1, e2, e3⟩
 · rw [e1]
   rw [keepW_all e2, Nat.sub_self] at hk
   conv => whnf
   repeat' (first | ((refine w5 rfl rfl ?_ ?_) <;> intro _ <;> first | (exfalso; omega) | (conv => whnf)) | fail)
   refine hk _ ?_ rfl
   show _ = some (AObj.row 116 (wrs W0 ++ []))
   rw [List.append_nil]; rfl
 · rw [e1, Nat.zero_add]
   conv => whnf
   repeat' (first | ((refine w5 rfl rfl ?_ ?_) <;> intro _ <;> first | (exfalso; omega) | (conv => whnf)) | (refine w7 rfl rfl (by omega) ?_; conv => whnf) | fail)
   have htm : keepW a (W0.take m) = W0.take m := keepW_all e3
   have hsm : keepW a (W0.take (m + 1)) = W0.take m := by
     rw [List.take_succ_eq_append_getElem hml, keepW_app, htm]
     have : keepW a [W0[m]] = [] := by unfold keepW; simp [e2]
     rw [this, List.append_nil]
   have hkm : (keepW a (W0.take (m + 1))).length = m := by rw [hsm, List.length_take]; omega
   refine W.loopT (k := 2) (α := Nat × List WR) (fun x => [(0, .sl 0 0 W0.length none), (1, .fn 137 [] [.ptr 1 0]), (5, .int .i64 (((keepW a (W0.take x.1)).length : Nat) : Int)), (6, .int .i64 (x.1 : Int))]) (fun x => [.row 116 (wrs x.2), .row 3 [.int .i64 a]]) (fun x => W0.length - x.1)
     (fun x => x.1 ≤ W0.length ∧ x.2.length = W0.length ∧ (∀ w ∈ x.2, w.any) ∧ (keepW a (W0.take x.1)).length < x.1 ∧ x.2.take (keepW a (W0.take x.1)).length = keepW a (W0.take x.1) ∧ x.2.drop x.1 = W0.drop x.1) (m + 1, W0)
     ⟨by dsimp only; omega, rfl, hw, by dsimp only; omega, by dsimp only; rw [hkm, hsm], rfl⟩
     (AbsK.tells (rs := [0, 1]) ⟨rfl, by decide, ⟨⟨rfl, rfl⟩, ⟨rfl, rfl⟩, ⟨rfl, by dsimp only; rw [hkm]; rfl⟩, ⟨rfl, rfl⟩, trivial⟩, ⟨⟨rowH (hwf _ hw), by rw [mapRowH (hwf _ hw)]; rfl⟩, ⟨rfl, rfl⟩, trivial⟩⟩) ?_
   rintro ⟨j, X⟩ ⟨hj, hXl, hXa, hkj, hXt, hXd⟩
   dsimp only at hj hXl hXa hkj hXt hXd ⊢
   obtain ⟨k, hkd⟩ : ∃ k, k = (keepW a (W0.take j)).length := ⟨_, rfl⟩
   rw [← hkd] at hkj hXt ⊢
   refine vw_sound hE hm ?_
   by_cases hlt : j < W0.length
   · have hXj : X[j]? = some W0[j] := by
       have := congrArg (fun l : List WR => l[0]?) hXd
       simp only [List.getElem?_drop, Nat.add_zero] at this
       rw [this, List.getElem?_eq_getElem hlt]
     have hwj := hw _ (List.getElem_mem hlt)
     have hKs : keepW a (W0.take (j + 1)) = keepW a (W0.take j) ++ keepW a [W0[j]] := by rw [List.take_succ_eq_append_getElem hlt, keepW_app]
     have hXd' : X.drop (j + 1) = W0.drop (j + 1) := by
       have := congrArg (List.drop 1) hXd
       rwa [List.drop_drop, List.drop_drop] at this
     have hall := And.intro hXj (And.intro hwj hKs)
     clear hXj hwj hKs hsm htm hkm e2 e3 hx hXd hml
     revert hall
     generalize W0[j] = w
     rintro ⟨hXj, hwj, hKs⟩
     obtain ⟨wa, wu, wb⟩ := w
     have hwu : AM.hf wu = true := hwj.b.1.hf
     have hwi := hwj.at_
     unfold i64B at hwi ha
     dsimp only at hwi
     have hld : ∀ s : St, s.get 0 = some (.row 116 (wrs X)) → load 0 (0 + j * 2) 2 s = some [.int .i64 wa, wu] := fun s h => load_wr h hXj
     have hst : ∀ s : St, s.get 0 = some (.row 116 (wrs X)) → storeAt 0 (0 + k * 2) [.int .i64 wa, wu] s = some (s.put 0 (.row 116 (wrs (X.set k ⟨wa, wu, wb⟩)))) := fun s h => store_wr (w := ⟨wa, wu, wb⟩) h (by omega)
     conv => whnf
     refine EPrim.lenPZ rfl ?_; conv => whnf
     refine EPrim.lss2 (a := (j : Int)) (b := (W0.length : Int)) rfl rfl (fun _ => ?_) (fun h => by omega); conv => whnf
     refine EPrim.ixsP (i := j) rfl rfl hlt ?_; conv => whnf
     refine stuckO [.int .i64 wa, wu] (hld _ rfl) ?_; conv => whnf
     refine ECall.inl h137.O h137.G ?_; conv => whnf
     refine EPrim.eql2 (a := wa) (b := a) rfl rfl (fun he => ?_) (fun he => ?_)
     · conv => whnf
       repeat' (first | ((first | refine w7 rfl rfl (by omega) ?_ | refine w12 rfl ?_ | refine ⟨rfl, ?_⟩); conv => whnf) | fail)
       have hK1 : keepW a (W0.take (j + 1)) = keepW a (W0.take j) := by
         rw [hKs]
         have : keepW a [⟨wa, wu, wb⟩] = [] := by unfold keepW wAt; simp [he]
         rw [this, List.append_nil]
       refine ⟨(j + 1, X), ⟨by dsimp only; omega, hXl, hXa, by dsimp only; rw [hK1]; omega, by dsimp only; rw [hK1, ← hkd]; exact hXt, hXd'⟩, by show W0.length - (j + 1) < W0.length - j; omega, ?_⟩
       dsimp only
       rw [hK1, ← hkd]
       exact AbsK.tells (rs := [0, 1]) ⟨rfl, by decide, ⟨⟨rfl, rfl⟩, ⟨rfl, rfl⟩, ⟨rfl, rfl⟩, ⟨rfl, rfl⟩, trivial⟩, ⟨⟨rowH (hwf _ hXa), by rw [mapRowH (hwf _ hXa)]; rfl⟩, ⟨rfl, rfl⟩, trivial⟩⟩
     · conv => whnf
       refine EPrim.notF rfl ?_; conv => whnf
       refine EPrim.ixsP (i := k) rfl rfl (by omega) ?_; conv => whnf
       refine stuckO _ (hst _ rfl) ?_; conv => whnf
       repeat' (first | ((first | refine w7 rfl rfl (by omega) ?_ | refine ⟨rfl, ?_⟩); conv => whnf) | fail)
       have hK1 : keepW a (W0.take (j + 1)) = keepW a (W0.take j) ++ [⟨wa, wu, wb⟩] := by
         rw [hKs]
         have : keepW a [⟨wa, wu, wb⟩] = [⟨wa, wu, wb⟩] := by unfold keepW wAt; simp [he]
         rw [this]
       have hK2 : (keepW a (W0.take (j + 1))).length = k + 1 := by rw [hK1, List.length_append, ← hkd]; rfl
       have hXs : ∀ w ∈ X.set k ⟨wa, wu, wb⟩, w.any := fun w hwm => by
         rcases List.mem_or_eq_of_mem_set hwm with h | rfl
         · exact hXa w h
         · exact hwj
       refine ⟨(j + 1, X.set k ⟨wa, wu, wb⟩), ⟨by dsimp only; omega, by dsimp only; rw [List.length_set]; exact hXl, hXs, by dsimp only; rw [hK2]; omega, ?_, ?_⟩, by show W0.length - (j + 1) < W0.length - j; omega, ?_⟩
       · dsimp only
         rw [hK2, hK1, ← hXt]
         have hks : k < X.length := by omega
         rw [List.take_succ_eq_append_getElem (by rw [List.length_set]; exact hks), List.take_set_of_le (Nat.le_refl _), List.getElem_set_self]
       · dsimp only
         rw [List.drop_set_of_lt (by omega)]; exact hXd'
       · dsimp only
         rw [hK2]
         exact AbsK.tells (rs := [0, 1]) ⟨rfl, by decide, ⟨⟨rfl, rfl⟩, ⟨rfl, rfl⟩, ⟨rfl, rfl⟩, ⟨rfl, rfl⟩, trivial⟩, ⟨⟨rowH (hwf _ hXs), by rw [mapRowH (hwf _ hXs)]; rfl⟩, ⟨rfl, rfl⟩, trivial⟩⟩
   · have hje : W0.take j = W0 := List.take_of_length_le (by omega)
     rw [hje] at hkd hXt
     rw [← hkd] at hk
     conv => whnf
     refine EPrim.lenPZ rfl ?_; conv => whnf
     refine EPrim.lss2 (a := (j : Int)) (b := (W0.length : Int)) rfl rfl (fun h => by omega) (fun _ => ?_); conv => whnf
     refine EPrim.slcU (l := k) (h := W0.length) rfl rfl rfl (by omega) (Nat.le_refl _) (by omega) ?_; conv => whnf
     refine EPrim.clrW rfl (store_of (e := 116) (cs := wrs X) rfl (by rw [rep_length, wrs_length]; show 0 + k * 2 + (W0.length - k) * 2 ≤ _; omega)) ?_; conv => whnf
     refine EPrim.slcU (l := 0) (h := k) rfl rfl rfl (Nat.zero_le _) (by omega) (by omega) ?_; conv => whnf
     refine hk _ ?_ rfl
     show some (AObj.row 116 ((wrs X).take (0 + k * 2) ++ rep zW (W0.length - k) ++ (wrs X).drop (0 + k * 2 + (rep zW (W0.length - k)).length))) = _
     rw [rep_length, Nat.zero_add, wrs_take, hXt, List.drop_eq_nil_of_le (by rw [wrs_length]; show _ ≤ k * 2 + (W0.length - k) * 2; omega), List.append_nil]
end Go.AM

set_option maxRecDepth 100000
namespace Go.AM
attribute [local irreducible] W
open X
structure WA1 (x : WA) (s : St) : Prop where
 ok : x.ok s
 n : 1 ≤ x.ws.length
def WA.k (x : WA) : Nat := (keepW x.a x.ws).length
noncomputable def WA.o (x : WA) : AObj := .row 116 (wrs (keepW x.a x.ws) ++ rep zW (x.ws.length - x.k))
noncomputable def delO : Ov := fun args s => open Classical in if h : ∃ x : WA, WA1 x s ∧ args = x.args then .ok (.sl (Classical.choose h).r 0 (Classical.choose h).k none) (putRs s [(Classical.choose h).r, (Classical.choose h).q] [(Classical.choose h).o, .row 3 [.int .i64 (Classical.choose h).a]]) else .fail
theorem delO_run {x : WA} {s : St} (hx : WA1 x s) : delO x.args s = .ok (.sl x.r 0 x.k none) (putRs s [x.r, x.q] [x.o, .row 3 [.int .i64 x.a]]) := by
 have h : ∃ y : WA, WA1 y s ∧ x.args = y.args := ⟨x, hx, rfl⟩
 unfold delO
 rw [dif_pos h]
 obtain ⟨h1, h2⟩ := Classical.choose_spec h
 rw [← WA.inj hx.ok h1.ok h2]
structure QA where
 q : Nat
 a : Int
structure QA.ok (x : QA) (s : St) : Prop where
 q : s.get x.q = some (.row 3 [.int .i64 x.a])
 a : i64B x.a
noncomputable def delN : Ov := fun args s => open Classical in if ∃ x : QA, x.ok s ∧ args = [.nils, .fn 137 [] [.ptr x.q 0]] then .ok .nils s else .fail
noncomputable def delR : Ov := orO delO delN
theorem hfs_app {a b : List AV} (h1 : hfs a = true) (h2 : hfs b = true) : hfs (a ++ b) = true := hfs_iff.2 fun v hv => by
 rcases List.mem_append.1 hv with h | h
 · exact hfs_iff.1 h1 v h
 · exact hfs_iff.1 h2 v h
theorem hfs_rep {z : List AV} (h : hfs z = true) : ∀ n, hfs (rep z n) = true
 | 0 => rfl
 | n + 1 => by
   have : rep z (n + 1) = z ++ rep z n := by show appL z (rep z n) = _; rw [appL_eq]
   rw [this]; exact hfs_app h (hfs_rep h n)
theorem delR_ok {P : Program} {e : Env} {fn : Func} (hE : EnvOk P e) (hm : P.follows .mixedOrders = true) (h163 : Con e 163 delI) (h137 : Inl e 137 code137 [.tmp 3]) (hf : P.funcs[136]? = some fn) (hc : compF P fn = some a136) (hb : HasBody P 136) : OvOk P 136 delR := by
 refine orO_ok ⟨hb, fun args s u s' hh => ?_⟩ ⟨hb, fun args s u s' hh => ?_⟩
 · have hx0 : ∃ x : WA, WA1 x s ∧ args = x.args := by
     unfold delO at hh
     split at hh
     · rename_i h; exact h
     · cases hh
   obtain ⟨x, hx, rfl⟩ := hx0
   rw [delO_run hx] at hh
   cases hh
   obtain ⟨r, q, ws, a⟩ := x
   obtain ⟨⟨hg, hq, hw, ha, hn⟩, h1⟩ := hx
   dsimp only at hg hq hw ha hn h1
   have hrq : r ≠ q := fun e => by
     subst e
     rw [hg] at hq; injection hq with hq; injection hq with hq _; cases hq
   have hwf : hfs (wrs ws) = true := hfs_wrs fun w hwm => (hw w hwm).b.1.hf
   have hkf : hfs (wrs (keepW a ws) ++ rep zW (ws.length - (keepW a ws).length)) = true := hfs_app (hfs_wrs fun w hwm => (hw w (List.mem_filter.1 hwm).1).b.1.hf) (hfs_rep rfl _)
   have key := C1.frameR (P := P) (f := 136) (args0 := [.sl 0 0 ws.length none, .fn 137 [] [.ptr 1 0]]) (u := .sl 0 0 (keepW a ws).length none) (os := [.row 116 (wrs ws), .row 3 [.int .i64 a]]) (os2 := [.row 116 (wrs (keepW a ws) ++ rep zW (ws.length - (keepW a ws).length)), .row 3 [.int .i64 a]]) (rs := [r, q]) (s := s)
     (by simp [hrq]) rfl (fun i o t ho ht => by
       rcases i with _ | _ | i
       · cases ho; cases ht; exact ⟨by rw [mapRowH hwf]; exact hg, rowH hwf, rfl⟩
       · cases ho; cases ht; exact ⟨hq, rfl, rfl⟩
       · cases ho) (fun i hi => by
       rcases i with _ | _ | i
       · rfl
       · rfl
       · exact absurd (show i + 1 + 1 < 2 from hi) (by omega)) rfl (Nat.le_refl _) (by simp) (fun o ho => by
       rcases List.mem_cons.1 ho with rfl | ho
       · rfl
       · rcases List.mem_cons.1 ho with rfl | ho
         · rfl
         · cases ho) (C1.of_V hE hm hf hc (del_main hE hm h163 h137 ha hw hn h1 _ fun s g0 g1 => ⟨[0, 1], ⟨rfl, by decide, ⟨⟨rfl, rfl⟩, trivial⟩, ⟨⟨rowH hkf, by rw [mapRowH hkf]; exact g0⟩, ⟨rfl, g1⟩, trivial⟩⟩⟩))
   refine key.mono ?_
   rintro v s' ⟨rfl, rfl⟩
   refine ⟨rfl, ?_⟩
   show putRs s [r, q] [mapO _ (.row 116 (wrs (keepW a ws) ++ rep zW (ws.length - (keepW a ws).length))), _] = _
   rw [mapRowH hkf]; rfl
 · unfold delN at hh
   split at hh
   · rename_i hx
     cases hh
     obtain ⟨⟨q, a⟩, ⟨hq, ha⟩, rfl⟩ := hx
     dsimp only at hq ha
     refine C.view (args2 := [.nils, .fn 137 [] [.fp [.int .i64 a]]]) (.cons (.plain _ rfl) (.cons (.fn 137 [] [.ptr q 0] [] [.fp [.int .i64 a]] .nil (.cons (.ptr q 0 3 [.int .i64 a] [.int .i64 a] [.int .i64 a] hq (fun i x h => by rw [Nat.zero_add]; exact h) (.cons (.plain _ rfl) .nil)) .nil)) .nil)) rfl (C.freeze rfl ?_)
     refine C.of_V hE hm hf hc ?_; conv => whnf
     refine delI_nil h163 ha ?_; conv => whnf
     refine EPrim.eql2 (a := -1) (b := -1) rfl rfl (fun _ => ?_) (fun h => absurd rfl h); conv => whnf
     exact .plain _ rfl
   · cases hh
theorem delR_row {e : Env} (h : Con e 136 delR) {x : WA} {s : St} (hx : WA1 x s) {K : AV → St → Prop} (hk : K (.sl x.r 0 x.k none) (putRs s [x.r, x.q] [x.o, .row 3 [.int .i64 x.a]])) : ESc e 136 x.args s K := by
 refine ESc.ov h (v := .sl x.r 0 x.k none) (s' := putRs s [x.r, x.q] [x.o, .row 3 [.int .i64 x.a]]) ?_ hk
 unfold delR orO
 rw [delO_run hx]
theorem delR_nil {e : Env} (h : Con e 136 delR) {x : QA} {s : St} (hx : x.ok s) {K : AV → St → Prop} (hk : K .nils s) : ESc e 136 [.nils, .fn 137 [] [.ptr x.q 0]] s K := by
 refine ESc.ov h (v := .nils) (s' := s) ?_ hk
 have : delO [.nils, .fn 137 [] [.ptr x.q 0]] s = .fail := by
   unfold delO
   rw [dif_neg]
   rintro ⟨x, _, h⟩
   have := (List.cons.inj h).1
   cases this
 unfold delR orO
 rw [this]
 show delN _ s = _
 unfold delN
 rw [if_pos ⟨x, hx, rfl⟩]
end Go.AM

set_option maxRecDepth 100000
namespace Go.AM
attribute [local irreducible] W
open X
def wvF (n : Nat) (L : List WR) : AV := match n with
 | 0 => .nils
 | _ + 1 => .fz L.length none (wrs L)
def fuaD (x : DKW) : DK := ⟨.fz x.d.us.length none ((x.d.us.map clnV).set x.a.toNat (fzB (pad x.b))), (x.d.us.map clnV).set x.a.toNat (fzB (pad x.b)), x.d.bs.set x.a.toNat (pad x.b), wvF x.d.ws.length (keepW x.a (x.d.ws.map clnW)), keepW x.a (x.d.ws.map clnW), x.d.dead⟩
def zDk : List AV := [.nils, .nils, .bool false]
def fuaOut (x : DKW) : AV := if wrtE x.d x.a x.b = 0 then .tup [(fuaD x).v, .int .i64 0] else .tup [.agg zDk, .int .i64 (wrtE x.d x.a x.b)]
theorem hf_wvF (n : Nat) (L : List WR) : AM.hf (wvF n L) = true := by cases n <;> rfl
theorem hf_fuaOut (x : DKW) : AM.hf (fuaOut x) = true := by
 unfold fuaOut
 split
 · show ((true && (AM.hf (wvF _ _) && (true && true))) && (true && true)) = true
   rw [hf_wvF]; rfl
 · rfl
def fuaF : Fam DKW := ⟨DKW.ok, DKW.args, fuaOut, fun x y hx hy h => by rw [DKW.inja hx hy h]⟩
theorem store_set {s : St} {r e i : Nat} {cs : List AV} {v : AV} (h : s.get r = some (.row e cs)) (hi : i < cs.length) : storeAt r (0 + i * 1) [v] s = some (s.put r (.row e (cs.set i v))) := by
 rw [store_of h (by show 0 + i * 1 + 1 ≤ _; omega), Nat.zero_add, Nat.mul_one, List.set_eq_take_append_cons_drop, if_pos hi]
 simp
theorem all2_set {α β : Type} {R : α → β → Prop} {a : α} {b : β} (hab : R a b) : ∀ {l : List α} {m : List β}, All2 R l m → ∀ i, All2 R (l.set i a) (m.set i b)
 | _, _, .nil, i => by simp; exact .nil
 | _, _, .cons h1 h2, 0 => .cons hab h2
 | _, _, .cons h1 h2, i + 1 => .cons h1 (all2_set hab h2 i)
theorem frz_hfs {s : St} : ∀ {l : List AV}, hfs l = true → All2 (Frz s) l l
 | [], _ => .nil
 | v :: l, h => by
   simp only [hfs, Bool.and_eq_true] at h
   exact .cons (.plain _ h.1) (frz_hfs h.2)
theorem clnV_at {u : AV} {b : List Nat} (h : BAt u b) : BAt (clnV u) b := by
 obtain ⟨h1, h2⟩ := h
 refine ⟨?_, h2⟩
 rcases h1 with ⟨rfl, e1, e2⟩ | ⟨rfl, e1, e2⟩ | ⟨c, rfl, e⟩
 · exact .inl ⟨rfl, e1, e2⟩
 · exact .inr (.inr ⟨none, by show AV.fz 0 none [] = _; rw [e1, e2], by rw [e2, e1]; rfl⟩)
 · exact .inr (.inr ⟨none, rfl, e⟩)
theorem clnW_any {w : WR} (h : w.any) : (clnW w).any := ⟨h.at_, clnV_at h.b⟩
theorem hfs_clnU {d : DK} (hd : d.any) : hfs (d.us.map clnV) = true := hfs_cln _ fun u hu => by
 obtain ⟨k, hk⟩ := List.mem_iff_getElem?.1 hu
 obtain ⟨b, _, hb⟩ := hd.bs.get hk
 exact (clnV_at hb).1.hf
theorem wrt0 {d : DK} {a : Int} {b : List Nat} (h : wrtE d a b = 0) : dskB d = true ∧ (0 ≤ a ∧ a < d.us.length) ∧ oddB b.length = false ∧ d.dead = false := by
 unfold wrtE plcE at h
 by_cases h1 : dskB d = true
 · rw [if_pos h1] at h
   by_cases h2 : 0 ≤ a ∧ a < d.us.length
   · rw [if_pos h2, if_pos rfl] at h
     by_cases h3 : oddB b.length = true
     · rw [if_pos h3] at h; cases h
     · rw [if_neg h3] at h
       cases h4 : d.dead
       · exact ⟨h1, h2, by simpa using h3, rfl⟩
       · rw [h4] at h; cases h
   · rw [if_neg h2, if_neg (by decide)] at h; cases h
 · rw [if_neg h1, if_neg (by decide)] at h; cases h
theorem fuaF_ok {P : Program} {e : Env} {fn : Func} (hE : EnvOk P e) (hm : P.follows .mixedOrders = true) (h102 : Con e 102 wrtF.O) (h103 : Con e 103 twO) (h98 : Inl e 98 code98 [.tmp 2]) (h141 : Inl e 141 code141 [.tmp 2]) (h136 : Con e 136 delR) (hf : P.funcs[92]? = some fn) (hc : compF P fn = some a92) (hb : HasBody P 92) : OvOk P 92 fuaF.O := by
 refine Fam.ok_of hb fun x hx => ?_
 refine ⟨DKW.hfa hx, hf_fuaOut x, C.of_V hE hm hf hc ?_⟩
 have hfam := fun (s : St) (K : AV → St → Prop) (hk : K (.int .i64 (wrtE x.d x.a x.b)) s) => ESc.fam wrtF h102 x hx (u := .int .i64 (wrtE x.d x.a x.b)) rfl hk
 by_cases h0 : wrtE x.d x.a x.b = 0
 · obtain ⟨q1, q2, q3, q4⟩ := wrt0 h0
   have hbl : x.b.length = 0 ∨ x.b.length = 128 := oddB_no q3
   have hdk1 : DK1 x.d := ⟨hx.d, by omega⟩
   have htw := twO_run hdk1
   have hUf := hfs_clnU hx.d.a
   have hWa : ∀ w ∈ x.d.ws.map clnW, w.any := fun w hw => by
     obtain ⟨v, hv, rfl⟩ := List.mem_map.1 hw
     exact clnW_any (hx.d.a.ws v hv)
   have hout : fuaF.out x = .tup [(fuaD x).v, .int .i64 0] := by show fuaOut x = _; unfold fuaOut; rw [if_pos h0]
   rw [h0] at hfam
   rw [hout]
   obtain ⟨⟨bv, us, bs, wv, ws, dd⟩, a, u, b⟩ := x
   obtain ⟨hd, ha, hbt, hbn⟩ := hx
   dsimp only at q2 q4 hbl htw hUf hWa ha hbt hbn
   subst q4
   obtain ⟨n, rfl⟩ : ∃ n : Nat, a = (n : Int) := ⟨a.toNat, by omega⟩
   have hn : n < us.length := by omega
   have hfB : ∀ (s : St) r cp, s.get r = some (.row 5 (bys (pad b))) → Frz s (.sl r 0 128 cp) (fzB (pad b)) := fun s r cp h => .sl r 0 128 cp none 5 _ (bys (pad b)) _ h (fun i x h => by rw [Nat.zero_add]; exact h) (frz_bys _) (.inl rfl)
   have hbk : ∀ (s : St) r cp, s.get 3 = some (.row 32 ((us.map clnV).set n (.sl r 0 128 cp))) → s.get r = some (.row 5 (bys (pad b))) → Frz s (.sl 3 0 us.length none) (.fz us.length none ((us.map clnV).set n (fzB (pad b)))) := fun s r cp h1 h2 =>
     .sl 3 0 us.length none none 32 _ ((us.map clnV).set n (.sl r 0 128 cp)) _ h1 (fun i x h => by rw [Nat.zero_add]; exact h) (all2_set (hfB s r cp h2) (frz_hfs hUf) n) (.inl rfl)
   have hset : ∀ (s : St) v, s.get 3 = some (.row 32 (us.map clnV)) → storeAt 3 (0 + n * 1) [v] s = some (s.put 3 (.row 32 ((us.map clnV).set n v))) := fun s v h => store_set h (by rw [List.length_map]; exact hn)
   have hwm := hd.m
   clear q1 q3 hout
   show VW P e 0 (match a92 with | .mk c _ => c) (initT [.agg [bv, wv, .bool false], .int .i64 (n : Int), u] 0 .lf) St0 none [] _
   have hfam : ∀ (s : St) (K : AV → St → Prop), K (.int .i64 0) s → ESc e 102 [.agg [bv, wv, .bool false], .int .i64 (n : Int), u] s K := hfam
   rcases ws with _ | ⟨w0, ws⟩
   · have htw : ∀ s, twO [.agg [bv, wv, .bool false]] s = .ok (.agg [.sl (0 + s.next) 0 us.length none, .nils, .bool false]) (allocs s [.row 32 (us.map clnV)]) := htw
     have fin : ∀ (s : St) r cp, s.get 3 = some (.row 32 ((us.map clnV).set n (.sl r 0 128 cp))) → s.get r = some (.row 5 (bys (pad b))) → Frz s (.tup [.agg [.sl 3 0 us.length none, .nils, .bool false], .int .i64 0]) (.tup [(fuaD ⟨⟨bv, us, bs, wv, [], false⟩, (n : Int), u, b⟩).v, .int .i64 0]) := fun s r cp h1 h2 =>
       .tup _ _ (.cons (.agg _ _ (.cons (hbk s r cp h1 h2) (.cons (.plain _ rfl) (.cons (.plain _ rfl) .nil)))) (.cons (.plain _ rfl) .nil))
     have hdel : ∀ (s : St) (K : AV → St → Prop), s.get 1 = some (.row 3 [.int .i64 (n : Int)]) → K .nils s → ESc e 136 [.nils, .fn 137 [] [.ptr 1 0]] s K := fun s K h1 hk => delR_nil h136 (x := ⟨1, (n : Int)⟩) ⟨h1, ha⟩ hk
     conv => whnf
     refine hfam _ _ ?_; conv => whnf
     repeat' (first | ((refine w6 rfl rfl ?_ ?_) <;> intro _ <;> first | (exfalso; omega) | (conv => whnf)) | fail)
     refine ESc.ov h103 (htw _) ?_; conv => whnf
     refine blkD_run h98 h141 hbt hbl (by show 4 < 1000000; decide) (fun h0 => ?_) (fun h1 => ?_)
     · conv => whnf
       repeat' (first | (refine EPrim.ixsP (i := n) rfl rfl hn ?_; conv => whnf) | (refine stuckO _ (hset _ _ rfl) ?_; conv => whnf) | (refine hdel _ _ rfl ?_; conv => whnf) | (refine ⟨rfl, ?_⟩; conv => whnf) | fail)
       exact fin _ _ _ rfl rfl
     · conv => whnf
       repeat' (first | (refine EPrim.ixsP (i := n) rfl rfl hn ?_; conv => whnf) | (refine stuckO _ (hset _ _ rfl) ?_; conv => whnf) | (refine hdel _ _ rfl ?_; conv => whnf) | (refine ⟨rfl, ?_⟩; conv => whnf) | fail)
       exact fin _ _ _ rfl rfl
   · have htw : ∀ s, twO [.agg [bv, wv, .bool false]] s = .ok (.agg [.sl (0 + s.next) 0 us.length none, .sl (1 + s.next) 0 (ws.length + 1) none, .bool false]) (allocs s [.row 32 (us.map clnV), .row 116 (wrs ((w0 :: ws).map clnW))]) := htw
     have hkf : hfs (wrs (keepW (n : Int) ((w0 :: ws).map clnW))) = true := hfs_wrs fun w hw => (hWa w (List.mem_filter.1 hw).1).b.1.hf
     have hkl : (keepW (n : Int) ((w0 :: ws).map clnW)).length ≤ ws.length + 1 := by
       have := keepW_le (n : Int) ((w0 :: ws).map clnW)
       rw [List.length_map] at this; exact this
     have fin : ∀ (s : St) r cp, s.get 3 = some (.row 32 ((us.map clnV).set n (.sl r 0 128 cp))) → s.get r = some (.row 5 (bys (pad b))) → s.get 4 = some (WA.o ⟨4, 1, (w0 :: ws).map clnW, (n : Int)⟩) → Frz s (.tup [.agg [.sl 3 0 us.length none, .sl 4 0 (WA.k ⟨4, 1, (w0 :: ws).map clnW, (n : Int)⟩) none, .bool false], .int .i64 0]) (.tup [(fuaD ⟨⟨bv, us, bs, wv, w0 :: ws, false⟩, (n : Int), u, b⟩).v, .int .i64 0]) := fun s r cp h1 h2 h3 =>
       .tup _ _ (.cons (.agg _ _ (.cons (hbk s r cp h1 h2) (.cons (.sl 4 0 _ none none 116 _ (wrs (keepW (n : Int) ((w0 :: ws).map clnW))) _ h3 (fun i x h => by
         rw [Nat.zero_add, List.getElem?_append_left (List.getElem?_eq_some_iff.1 h).1]; exact h) (frz_hfs hkf) (.inl rfl)) (.cons (.plain _ rfl) .nil)))) (.cons (.plain _ rfl) .nil))
     have hdel : ∀ (s : St) (K : AV → St → Prop), s.get 4 = some (.row 116 (wrs ((w0 :: ws).map clnW))) → s.get 1 = some (.row 3 [.int .i64 (n : Int)]) → K (.sl 4 0 (WA.k ⟨4, 1, (w0 :: ws).map clnW, (n : Int)⟩) none) (putRs s [4, 1] [WA.o ⟨4, 1, (w0 :: ws).map clnW, (n : Int)⟩, .row 3 [.int .i64 (n : Int)]]) → ESc e 136 [.sl 4 0 (ws.length + 1) none, .fn 137 [] [.ptr 1 0]] s K := fun s K h4 h1 hk => by
       have := delR_row h136 (x := ⟨4, 1, (w0 :: ws).map clnW, (n : Int)⟩) ⟨⟨h4, h1, hWa, ha, by dsimp only; rw [List.length_map]; exact hwm⟩, by simp⟩ hk
       have ea : WA.args ⟨4, 1, (w0 :: ws).map clnW, (n : Int)⟩ = [.sl 4 0 (ws.length + 1) none, .fn 137 [] [.ptr 1 0]] := by unfold WA.args; simp
       rw [ea] at this
       exact this
     conv => whnf
     refine hfam _ _ ?_; conv => whnf
     repeat' (first | ((refine w6 rfl rfl ?_ ?_) <;> intro _ <;> first | (exfalso; omega) | (conv => whnf)) | fail)
     refine ESc.ov h103 (htw _) ?_; conv => whnf
     refine blkD_run h98 h141 hbt hbl (by show 5 < 1000000; decide) (fun h0 => ?_) (fun h1 => ?_)
     · conv => whnf
       repeat' (first | (refine EPrim.ixsP (i := n) rfl rfl hn ?_; conv => whnf) | (refine stuckO _ (hset _ _ rfl) ?_; conv => whnf) | (refine hdel _ _ rfl rfl ?_; conv => whnf) | (refine ⟨rfl, ?_⟩; conv => whnf) | fail)
       exact fin _ _ _ rfl rfl rfl
     · conv => whnf
       repeat' (first | (refine EPrim.ixsP (i := n) rfl rfl hn ?_; conv => whnf) | (refine stuckO _ (hset _ _ rfl) ?_; conv => whnf) | (refine hdel _ _ rfl rfl ?_; conv => whnf) | (refine ⟨rfl, ?_⟩; conv => whnf) | fail)
       exact fin _ _ _ rfl rfl rfl
 · have hout : fuaF.out x = .tup [.agg zDk, .int .i64 (wrtE x.d x.a x.b)] := by show fuaOut x = _; unfold fuaOut; rw [if_neg h0]
   rw [hout]
   obtain ⟨E, hE'⟩ : ∃ E, E = wrtE x.d x.a x.b := ⟨_, rfl⟩
   rw [← hE'] at h0 hfam ⊢
   obtain ⟨⟨bv, us, bs, wv, ws, dd⟩, a, u, b⟩ := x
   have hfam : ∀ (s : St) (K : AV → St → Prop), K (.int .i64 E) s → ESc e 102 [.agg [bv, wv, .bool dd], .int .i64 a, u] s K := hfam
   show VW P e 0 (match a92 with | .mk c _ => c) (initT [.agg [bv, wv, .bool dd], .int .i64 a, u] 0 .lf) St0 none [] _
   conv => whnf
   refine hfam _ _ ?_; conv => whnf
   refine EPrim.neq2 (a := E) (b := 0) rfl rfl (fun _ => ?_) (fun h => absurd h h0); conv => whnf
   skip
   exact .plain _ rfl
end Go.AM
