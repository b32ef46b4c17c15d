/-
 Functions of the program as the abstract machine reads them, and what is stated of them, checked by the kernel. No conditions.
-/
import Derived.Test.YtnnbibnobmegpaaAM4
import Derived.Below
import Derived.Lib.Overlaps
import Derived.Laws.Externs
import Derived.ChangeSame
import Derived.Carry
import Derived.ChangeArms
import Derived.DataReads
set_option linter.unusedVariables false
set_option linter.unusedSimpArgs false
namespace Go.AM
theorem Zcq {α:Type}{x:Option α}{K:α→Prop}(v:α) (h:x=some v) (hk:K v):(Option.rec (motive:=fun _=>Prop) False K x):=by rw [h];exact hk
section
variable {t:AT}{s:St}{k:AV→St→Prop}{x y:AO}
theorem Zgw {r o n es i:Nat}{q:IntKind}(hx:ev x t=.some (.ptr r o)) (hy:ev y t=.some (.int q (Int.ofNat i))) (h:i<n) (hk:k (.ptr r (o+i*es)) s):EPrim (.ixa n es x y) t s k:=by
 refine EPrim.mk (fun e rec=>?_) hk
 show wth x t _=_;unfold wth;rw [hx]
 show wth y t _=_;unfold wth;rw [hy]
 show gd (Nat.blt i n) _=_
 rw [show Nat.blt i n=true by simpa using h];rfl
theorem Zzc {r o n es i:Nat}{c:Option Nat}{q:IntKind}(hx:ev x t=.some (.sl r o n c)) (hy:ev y t=.some (.int q (Int.ofNat i))) (h:i<n) (hk:k (.ptr r (o+i*es)) s):EPrim (.ixs es x y) t s k:=by
 refine EPrim.mk (fun e rec=>?_) hk
 show wth x t _=_;unfold wth;rw [hx]
 show wth y t _=_;unfold wth;rw [hy]
 show gd (Nat.blt i n) _=_
 rw [show Nat.blt i n=true by simpa using h];rfl
theorem Zzd {n es i:Nat}{c:Option Nat}{l:List AV}{q:IntKind}(hx:ev x t=.some (.fz n c l)) (hy:ev y t=.some (.int q (Int.ofNat i))) (h:i<n) (hk:k (.fp (l.drop (i*es))) s):EPrim (.ixs es x y) t s k:=by
 rw [← Ze1] at hk
 refine EPrim.mk (fun e rec=>?_) hk
 show wth x t _=_;unfold wth;rw [hx]
 show wth y t _=_;unfold wth;rw [hy]
 show gd (Nat.blt i n) _=_
 rw [show Nat.blt i n=true by simpa using h];rfl
def Sl (es n:Nat) (l:List AV) (v:AV):Prop:=(v=.nils∧n=0∧l=[])∨(v=.es∧n=0∧l=[])∨(∃ c,v=.fz n c l∧l.length=n*es)
theorem Sl.hf {es n:Nat}{l:List AV}{v:AV}(h:Sl es n l v):hf v=true:=by
 rcases h with ⟨rfl,_⟩|⟨rfl,_⟩|⟨c,rfl,_⟩ <;> rfl
theorem Zi1 {es n:Nat}{l:List AV}{v:AV}(hx:ev x t=.some v) (h:Sl es n l v) (hk:k (.int .i64 (Int.ofNat n)) s):EPrim (.len x) t s k:=by
 refine EPrim.mk (v:=.int .i64 (Int.ofNat n)) (s':=s) (fun e rec=>?_) hk
 show wth x t _=_;unfold wth;rw [hx]
 rcases h with ⟨rfl,rfl,_⟩|⟨rfl,rfl,_⟩|⟨c,rfl,_⟩ <;> rfl
theorem Zae {es n i:Nat}{l:List AV}{v:AV}{q:IntKind}(hx:ev x t=.some v) (hs:Sl es n l v) (hy:ev y t=.some (.int q (Int.ofNat i))) (h:i<n) (hk:k (.fp (l.drop (i*es))) s):EPrim (.ixs es x y) t s k:=by
 rcases hs with ⟨rfl,rfl,_⟩|⟨rfl,rfl,_⟩|⟨c,rfl,_⟩
 ·omega
 ·omega
 ·exact Zzd hx hy h hk
theorem Zzb {r o n:Nat}{c:Option Nat}(hx:ev x t=.some (.sl r o n c)) (hk:k (.int .i64 (Int.ofNat n)) s):EPrim (.len x) t s k:=by
 refine EPrim.mk (v:=.int .i64 (Int.ofNat n)) (s':=s) (fun e rec=>?_) hk
 show wth x t _=_;unfold wth;rw [hx];rfl
theorem Zfz {a b:Nat}(hx:ev x t=.some (.int .u32 (Int.ofNat a))) (hy:ev y t=.some (.int .u32 (Int.ofNat b))) (ha:a<4294967296) (hb:b<4294967296) (hk:k (.int .u32 (Int.ofNat (a ^^^ b))) s):EPrim (.bin .xor x y) t s k:=by
 refine Zeq hx hy (v:=.int .u32 (Int.ofNat (a ^^^ b))) ?_ hk
 show OV.some (.int .u32 (Int.ofNat (Nat.xor (a % 4294967296) (b % 4294967296))))=_
 rw [Nat.mod_eq_of_lt ha,Nat.mod_eq_of_lt hb];rfl
theorem Zoq {a b:Nat}(hx:ev x t=.some (.int .u32 (Int.ofNat a))) (hy:ev y t=.some (.int .u32 (Int.ofNat b))) (ha:a<4294967296) (hb:b<4294967296) (hk:k (.int .u32 (Int.ofNat (a &&& b))) s):EPrim (.bin .and x y) t s k:=by
 refine Zeq hx hy (v:=.int .u32 (Int.ofNat (a &&& b))) ?_ hk
 show OV.some (.int .u32 (Int.ofNat (Nat.land (a % 4294967296) (b % 4294967296))))=_
 rw [Nat.mod_eq_of_lt ha,Nat.mod_eq_of_lt hb];rfl
theorem Zon {a:Nat}(hx:ev x t=.some (.int .u32 (Int.ofNat a))) (ha:a<4294967296) (hk:k (.int .u32 (Int.ofNat (a ^^^ 4294967295))) s):EPrim (.un .xor x) t s k:=by
 refine EPrim.mk (v:=.int .u32 (Int.ofNat (a ^^^ 4294967295))) (s':=s) (fun e rec=>?_) hk
 show wth x t _=_;unfold wth;rw [hx]
 show RV.ok (.int .u32 (Int.ofNat (Nat.xor (4294967295 % 4294967296) (a % 4294967296)))) s=_
 rw [Nat.mod_eq_of_lt ha,Nat.mod_eq_of_lt (by omega)]
 show RV.ok (.int .u32 (Int.ofNat (4294967295 ^^^ a))) s=_
 rw [Nat.xor_comm]
theorem Zi0 {q r:IntKind}{a n:Nat}(hx:ev x t=.some (.int q (Int.ofNat a))) (hy:ev y t=.some (.int r (Int.ofNat n))) (hn:n≤q.bits) (hk:k (.int q (Int.ofNat (a / 2^n))) s):EPrim (.bin .shr x y) t s k:=by
 refine Zeq hx hy (v:=.int q (Int.ofNat (a / 2^n))) ?_ hk
 show OV.some (.int q (Int.ofNat (a / 2^(Nat.min n q.bits))))=_
 rw [show Nat.min n q.bits=n from Nat.min_eq_left hn]
theorem Zzp {a:Nat}(ha:a<4294967296):Zhw .u32 (Int.ofNat a)=Int.ofNat a:=by
 show Int.ofNat (a % 4294967296)=_;rw [Nat.mod_eq_of_lt ha]
theorem Ztf {q:IntKind}{a:Nat}(hx:ev x t=.some (.int q (Int.ofNat a))) (ha:a<4294967296) (hk:k (.int .u32 (Int.ofNat a)) s):EPrim (.cvi .u32 x) t s k:=by
 refine EPrim.mk (v:=.int .u32 (Int.ofNat a)) (s':=s) (fun e rec=>?_) hk
 show wth x t _=_;unfold wth;rw [hx]
 show RV.ok (.int .u32 (Zhw .u32 (Int.ofNat a))) s=_
 rw [Zzp ha]
theorem Zlr {a:Nat}{b:Int}(hx:ev x t=.some (.int .i64 (Int.ofNat a))) (hy:ev y t=.some (.int .i64 b)) (hb:b=1) (h:a<9223372036854775807) (hk:k (.int .i64 (Int.ofNat (a+1))) s):EPrim (.bin .add x y) t s k:=by
 subst hb
 refine Zah hx hy ?_ ?_
 ·have:Int.ofNat a=(a:Int):=rfl
  omega
 ·exact hk
theorem Zlp {q:IntKind}{a b:Nat}(hx:ev x t=.some (.int q (Int.ofNat a))) (hy:ev y t=.some (.int q (Int.ofNat b))) (h1:a<b→k (.bool true) s) (h2:b≤a→k (.bool false) s):EPrim (.bin .lss x y) t s k:=
 Zab hx hy (fun h=>h1 (by have e1:Int.ofNat a=(a:Int):=rfl;have e2:Int.ofNat b=(b:Int):=rfl;omega)) (fun h=>h2 (by have e1:Int.ofNat a=(a:Int):=rfl;have e2:Int.ofNat b=(b:Int):=rfl;omega))
end
def byV (b:Nat):AV:=.int .u8 (Int.ofNat b)
def bys (l:List Nat):List AV:=l.map byV
theorem Zs1 {l:List Nat}{i:Nat}(h:i<l.length):((bys l).drop (i*1))[0]?=some (.int .u8 (Int.ofNat l[i])):=by
 rw [List.getElem?_drop];simp [bys,byV,h]
end Go.AM
namespace Go.AM
mutual
def sc:AV→Bool
 | .ptr ..|.sl ..|.map ..|.yld ..|.fz ..|.fp ..=>false
 | .fn _ a b=>scs a && scs b
 | .iface _ v=>sc v
 | .agg l|.tup l=>scs l
 | _=>true
def scs:List AV→Bool
 | []=>true
 | v::l=>sc v && scs l
end
section
variable {P:Program}{γ γ2:Gam}
mutual
theorem Yhw:∀ (v:AV) {v':Value},sc v=true→VR γ v v'→VR γ2 v v'
 | .bool b,_,_,.bool _=>.bool _
 | .int k n,_,_,.int _ _=>.int _ _
 | .str l,_,_,.str _ s e=>.str _ s e
 | .ptr _ _,_,h,_=>by cases h
 | .nilp,_,_,.nilp=>.nilp
 | .sl ..,_,h,_=>by cases h
 | .nils,_,_,.nils=>.nils
 | .es,_,_,.es a c=>.es a c
 | .map _,_,h,_=>by cases h
 | .nilm,_,_,.nilm=>.nilm
 | .fn f xs ys,_,h,.fn _ _ _ as bs a b=>by
  simp only [sc,Bool.and_eq_true] at h
  exact .fn f xs ys as bs (Ztb xs h.1 a) (Ztb ys h.2 b)
 | .yld _,_,h,_=>by cases h
 | .nilf,_,_,.nilf=>.nilf
 | .iface t v,_,h,.iface _ _ v' e=>.iface t v v' (Yhw v h e)
 | .nili,_,_,.nili=>.nili
 | .agg l,_,h,.agg _ a e o=>.agg l a (Ztb l h e) o
 | .tup l,_,h,.tup _ a e=>.tup l a (Ztb l h e)
 | .any,_,_,.any v e=>.any v e
 | .fz ..,_,h,_=>by cases h
 | .fp _,_,h,_=>by cases h
theorem Ztb:∀ (l:List AV) {m:List Value},scs l=true→All2 (VR γ) l m→All2 (VR γ2) l m
 | [],_,_,.nil=>.nil
 | v::l,_,h,.cons a b=>by
  simp only [scs,Bool.and_eq_true] at h
  exact .cons (Yhw v h.1 a) (Ztb l h.2 b)
end
theorem Ztg {f:Nat}{args args2:List AV}{u:AV}{s:St}(hF:All2 (Frz s) args args2) (hu:sc u=true) (h:C P f args2 St0 (fun v s'=>v=u∧s'=Zai St0 [])):C P f args s (fun v s'=>v=u∧s'=s):=by
 intro γ vals w m hA hs
 let φ:Nat→Option FzC:=fun b=>match γ.fz b with|some c=>some c|none=>(match w.heap[b]? with|some (.cells c _ _)=>some ⟨c,true⟩|_=>none)
 have hφ:∀ b c,φ b=some c→∃ e fr,w.heap[b]?=some (.cells c.cs e fr)∧FzOk P c e fr:=by
  intro b c hc
  have hc:(match γ.fz b with|some c=>some c|none=>(match w.heap[b]? with|some (.cells c _ _)=>some ⟨c,true⟩|_=>none))=some c:=hc
  cases hg:γ.fz b with
  | some c'=>rw [hg] at hc;cases hc;exact hs.fzc b _ hg
  | none=>
   rw [hg] at hc
   dsimp only at hc
   split at hc
   ·rename_i c' e fr hh;cases hc;exact ⟨e,fr,hh,fun h=>by cases h⟩
   ·cases hc
 have hφ1:∀ b c,γ.fz b=some c→φ b=some c:=fun b c hg=>by
  show (match γ.fz b with|some c=>some c|none=>_)=some c
  rw [hg]
 have hφ2:∀ b c e fr,γ.fz b=none→w.heap[b]?=some (.cells c e fr)→φ b=some ⟨c,true⟩:=by
  intro b c e fr hg hc
  show (match γ.fz b with|some c=>some c|none=>(match w.heap[b]? with|some (.cells c _ _)=>some (⟨c,true⟩:FzC)|_=>none))=some ⟨c,true⟩
  rw [hg]
  dsimp only
  rw [hc]
 have hA2:All2 (VR ⟨fun _=>none,φ⟩) args2 vals:=Zhf hs hφ1 (fun r e cs L c h1 h2 hh=>hφ2 L.b c e (0,0) (hs.fzr r _ L h1 rfl h2) hh) hF hA
 refine CallsIn.mono (h ⟨fun _=>none,φ⟩ vals w m hA2 (sim0 hφ)) ?_
 rintro e w' ⟨v,s',⟨rfl,rfl⟩,v',γ',rfl,hst,hsim,hv⟩
 have hblk:∀ b,b<w.heap.size→w'.heap[b]?=w.heap[b]?:=fun b hb=>hst.blk b hb (fun r L e=>by cases e)
 refine ⟨_,_,⟨rfl,rfl⟩,v',γ,rfl,?_,?_,Yhw v hu hv⟩
 ·exact ⟨Le.refl γ,fun r L h h'=>(by rw [h] at h';cases h'),Nat.le_refl _,hst.size,hst.os,hst.tape,hst.output,fun b hb _=>hblk b hb,fun _ _ _=>rfl,fun b c h h'=>(by rw [h] at h';cases h')⟩
 ·refine ⟨fun r o L ho hL=>(hs.obj r o L ho hL).heap (hblk _ (hs.lt r L hL)),hs.inj,fun r L hL=>Nat.lt_of_lt_of_le (hs.lt r L hL) hst.size,hs.nx,hs.dom,fun b c e=>?_,hs.fzr⟩
  obtain ⟨t,fr,hh,hh'⟩:=hs.fzc b c e
  exact ⟨t,fr,(hblk b (hs.fzlt e)).trans hh,hh'⟩
noncomputable def Zbf (s:St) (v:AV):Option (List Nat):=
 SR.rec none (fun r o n _=>Option.rec none Zbm (load r o n s)) (some []) (some []) (fun n _ l=>Bool.rec none (Zbm l) (Nat.beq (Zd0 l) n)) (Zi8 v)
theorem Zjq:∀ {l:List AV}{bs:List Nat},Zbm l=some bs→l=bys bs∧∀ b ∈ bs,b<256:=by
 intro l
 induction l with
 | nil=>intro bs h;cases h;exact ⟨rfl,by simp⟩
 | cons x l ih=>
  intro bs h
  change (IR.rec none (fun k n=>Bool.rec none (Int.rec (fun a=>Bool.rec none (Option.rec none (fun r=>some (a::r)) (Zbm l)) (Nat.blt a 256)) (fun _=>none) n) (Nat.beq (Zoy k) 4)) (asInt x):Option (List Nat))=some bs at h
  cases hc:asInt x with
  | no=>rw [hc] at h;cases h
  | int k n=>
   rw [hc] at h
   dsimp only at h
   cases hk:Nat.beq (Zoy k) 4 with
   | false=>rw [hk] at h;cases h
   | true=>
    rw [hk] at h
    have hku:k=.u8:=by cases k <;> first|rfl|cases hk
    subst hku
    cases n with
    | negSucc n=>cases h
    | ofNat a=>
     dsimp only at h
     cases hb:Nat.blt a 256 with
     | false=>rw [hb] at h;cases h
     | true=>
      rw [hb] at h
      rw [Nat.blt_eq] at hb
      cases hbo:Zbm l with
      | none=>rw [hbo] at h;cases h
      | some r=>
       rw [hbo] at h;cases h
       obtain ⟨e1,e2⟩:=ih hbo
       refine ⟨by rw [Zc2 hc,e1];rfl,?_⟩
       intro b hb'
       rcases List.mem_cons.1 hb' with rfl|hb'
       ·exact hb
       ·exact e2 b hb'
theorem Zad (bs:List Nat):hfs (bys bs)=true:=hfs_iff.2 fun v hv=>by
 obtain ⟨b,_,rfl⟩:=List.mem_map.1 hv;rfl
theorem Zuu {s:St}:∀ (bs:List Nat),All2 (Frz s) (bys bs) (bys bs)
 | []=>.nil
 | b::bs=>.cons (.plain _ rfl) (Zuu bs)
theorem Zan (bs:List Nat):(bys bs).length=bs.length:=List.length_map ..
theorem Zea {s:St}{v:AV}{bs:List Nat}(h:Zbf s v=some bs):∃ v2,Frz s v v2∧Sl 1 bs.length (bys bs) v2∧∀ b ∈ bs,b<256:=by
 unfold Zbf at h
 cases hq:Zi8 v with
 | no=>rw [hq] at h;cases h
 | nils=>rw [hq] at h;cases h;rw [Zko hq];exact ⟨.nils,.plain _ rfl,.inl ⟨rfl,rfl,rfl⟩,by simp⟩
 | es=>rw [hq] at h;cases h;rw [Zq5 hq];exact ⟨.es,.plain _ rfl,.inr (.inl ⟨rfl,rfl,rfl⟩),by simp⟩
 | sl r o n c=>
  rw [hq] at h
  change (Option.rec none Zbm (load r o n s):Option (List Nat))=some bs at h
  cases hl:load r o n s with
  | none=>rw [hl] at h;cases h
  | some cs=>
   rw [hl] at h
   obtain ⟨rfl,hb⟩:=Zjq (show Zbm cs=some bs from h)
   rw [Zq4 hq]
   unfold load at hl
   cases hr:Zf1 r s with
   | no=>rw [hr] at hl;cases hl
   | row e rs=>
    rw [hr] at hl
    change Zdf n (Zgs o rs)=some (bys bs) at hl
    obtain ⟨e1,e2⟩:=Zfm n hl
    rw [Ze1] at e1 e2
    have hn:bs.length=n:=by
     have:=congrArg List.length e1
     rw [Zan,List.length_take] at this
     omega
    refine ⟨.fz n none (bys bs),.sl r o n c none e rs (bys bs) (bys bs) (Zd4 hr) ?_ (Zuu bs) (.inl rfl),.inr (.inr ⟨none,by rw [hn],by rw [Zan,Nat.mul_one]⟩),hb⟩
    intro i x hx
    rw [e1,List.getElem?_take] at hx
    split at hx
    ·rwa [List.getElem?_drop] at hx
    ·cases hx
 | fz n c l=>
  rw [hq] at h
  change (Bool.rec none (Zbm l) (Nat.beq (Zd0 l) n):Option (List Nat))=some bs at h
  cases hl:Nat.beq (Zd0 l) n with
  | false=>rw [hl] at h;cases h
  | true=>
   rw [hl] at h
   obtain ⟨rfl,hb⟩:=Zjq (show Zbm l=some bs from h)
   rw [Zu8 hq]
   have hn:bs.length=n:=by
    have:=Nat.eq_of_beq_eq_true hl
    rw [Zbu,Zan] at this
    exact this
   exact ⟨_,.plain _ rfl,.inr (.inr ⟨c,by rw [hn],by rw [Zan,Nat.mul_one]⟩),hb⟩
end
end Go.AM
namespace Go.AM
theorem Zol {α:Type}{x:α}:∀ (n k:Nat),k+1<2^n→(T.sing x n k).get k=some x:=by
 intro n
 induction n with
 | zero=>intro k h;simp at h
 | succ n ih=>
  intro k h
  cases k with
  | zero=>rfl
  | succ k=>
   have hk:k / 2+1<2^n:=by rw [Nat.pow_succ] at h;omega
   show T.get (Bool.rec (T.nd none .lf (T.sing x n (Nat.div k 2))) (T.nd none (T.sing x n (Nat.div k 2)) .lf) (Nat.beq (Nat.mod k 2) 0)) (k+1)=some x
   cases hb:Nat.beq (Nat.mod k 2) 0
   ·show (Bool.rec (T.get (T.sing x n (Nat.div k 2)) (Nat.div k 2)) _ (Nat.beq (Nat.mod k 2) 0):Option α)=some x
    rw [hb];exact ih _ hk
   ·show (Bool.rec _ (T.get (T.sing x n (Nat.div k 2)) (Nat.div k 2)) (Nat.beq (Nat.mod k 2) 0):Option α)=some x
    rw [hb];exact ih _ hk
theorem Ze2 {α:Type}{x:α}:∀ (t:T α) (k:Nat),k<1000000000→(t.set x k).get k=some x:=by
 intro t
 induction t with
 | lf=>intro k h;exact Zol 64 k (by omega)
 | nd v l r il ir=>
  intro k h
  cases k with
  | zero=>rfl
  | succ k=>
   have hk:k / 2<1000000000:=by omega
   show T.get (Bool.rec (T.nd v l (r.set x (Nat.div k 2))) (T.nd v (l.set x (Nat.div k 2)) r) (Nat.beq (Nat.mod k 2) 0)) (k+1)=some x
   cases hb:Nat.beq (Nat.mod k 2) 0
   ·show (Bool.rec (T.get (r.set x (Nat.div k 2)) (Nat.div k 2)) _ (Nat.beq (Nat.mod k 2) 0):Option α)=some x
    rw [hb];exact ir _ hk
   ·show (Bool.rec _ (T.get (l.set x (Nat.div k 2)) (Nat.div k 2)) (Nat.beq (Nat.mod k 2) 0):Option α)=some x
    rw [hb];exact il _ hk
theorem Zb4 {s:St}{o:AObj}(h:s.next<1000000000):(s.alloc o).get s.next=some o:=by
 cases s;exact Ze2 _ _ h
theorem Zca {s:St}{o:AObj}{r:Nat}(h:r<1000000000):(s.put r o).get r=some o:=by
 cases s;exact Ze2 _ _ h
theorem Zfh {s:St}{r e:Nat}{cs:List AV}(h:s.get r=some (.row e cs)):Zf1 r s=.row e cs:=by
 unfold Zf1;rw [h];rfl
theorem Zqo {s:St}{r e o n:Nat}{cs:List AV}(h:s.get r=some (.row e cs)) (hl:o+n≤cs.length):load r o n s=some ((cs.drop o).take n):=by
 unfold load;rw [Zfh h]
 show Zdf n (Zgs o cs)=_
 rw [Ze1];exact Zgy (by simp;omega)
theorem upd_of:∀ {vs:List AV}{o:Nat}{l:List AV},o+vs.length≤l.length→upd vs o l=some (l.take o++vs++l.drop (o+vs.length)):=by
 have hH:∀ {vs l:List AV},vs.length≤l.length→updH vs l=some (vs++l.drop vs.length):=by
  intro vs
  induction vs with
  | nil=>intro l _;rfl
  | cons v vs ih=>intro l h;cases l with
   | nil=>simp at h
   | cons x l=>
    show (Option.rec none (fun r=>some (v::r)) (updH vs l):Option (List AV))=_
    rw [ih (by simpa using h)];rfl
 intro vs o
 induction o with
 | zero=>intro l h;show updH vs l=_;rw [hH (by omega)];simp
 | succ o ih=>intro l h;cases l with
  | nil=>simp at h
  | cons x l=>
   show (Option.rec none (fun r=>some (x::r)) (upd vs o l):Option (List AV))=_
   rw [ih (by simp at h;omega),show o+1+vs.length=(o+vs.length)+1 by omega];rfl
theorem Zmg {s:St}{r e o:Nat}{cs vs:List AV}(h:s.get r=some (.row e cs)) (hl:o+vs.length≤cs.length):storeAt r o vs s=some (s.put r (.row e (cs.take o++vs++cs.drop (o+vs.length)))):=by
 unfold storeAt;rw [Zfh h]
 show (Option.rec none (fun cs'=>some (s.put r (.row e cs'))) (upd vs o cs):Option St)=_
 rw [upd_of hl]
section
variable {t:AT}{s:St}{k:AV→St→Prop}{x y:AO}
theorem Zpz {a b:Nat}(hx:ev x t=.some (.int .i64 (Int.ofNat a))) (hy:ev y t=.some (.int .i64 (Int.ofNat b))) (h:a+b<9223372036854775807) (hk:k (.int .i64 (Int.ofNat (a+b))) s):EPrim (.bin .add x y) t s k:=
 Zah hx hy (by have e1:Int.ofNat a=(a:Int):=rfl;have e2:Int.ofNat b=(b:Int):=rfl;omega) hk
end
section
variable {P:Program}{γ γ0:Gam}{s s0 S:St}{w w0:World}
end
end Go.AM
namespace Go.AM
open Go.RowKit
noncomputable def ofT {α:Type}:List (Nat×α)→T α
 | []=>.lf
 | p::l=>(ofT l).set p.2 p.1
theorem Zqj {α:Type}:∀ {l:List (Nat×α)}{f:Nat}{a:α},(ofT l).get f=some a→∃ p ∈ l,p.1=f∧p.2=a
 | [],_,_,h=>by cases h
 | p::l,f,a,h=>by
  rcases Zds h with ⟨rfl,rfl⟩|⟨_,h⟩
  ·exact ⟨p,by simp,rfl,rfl⟩
  ·obtain ⟨q,hq,e⟩:=Zqj h
   exact ⟨q,by simp [hq],e⟩
def GOk (P : Program) (p : Nat × AFn) : Prop := ∃ fn, P.funcs[p.1]? = some fn ∧ Zaj P fn = some p.2 ∧ (fn.name == "runtime.NumGoroutine") = false
def OOk (P:Program) (p:Nat×Ov):Prop:=OvOk P p.1 p.2
def XOk (P:Program) (p:Nat×Ov):Prop:=∀ γ args vals s w v s',All2 (VR γ) args vals→Sim P γ s w→p.2 args s=.ok v s'→
 ∃ v' γ' w',(callFunc p.1 vals.toArray).run P w=.ok (.value v') w'∧Stp γ s w γ' s' w'∧Sim P γ' s' w'∧VR γ' v v'
def All {α:Type}(p:α→Prop):List α→Prop
 | []=>True
 | x::l=>p x∧All p l
theorem All.get {α:Type}{p:α→Prop}:∀ {l:List α},All p l→∀ x ∈ l,p x
 | [],_,x,h=>by simp at h
 | y::l,h,x,hx=>by
  rcases List.mem_cons.1 hx with rfl|hx
  ·exact h.1
  ·exact All.get h.2 x hx
theorem Zci {P:Program}{e:Env}{gl:List (Nat×AFn)}{ol xl:List (Nat×Ov)}(hG:e.G=ofT gl) (hO:e.O=ofT ol) (hX:e.X=ofT xl) (g:All (GOk P) gl) (o:All (OOk P) ol) (x:All (XOk P) xl):EnvOk P e:=by
 refine ⟨fun f af h=>?_,fun f h hh=>?_,fun f h hh=>?_⟩
 ·rw [hG] at h
  obtain ⟨p,hp,rfl,rfl⟩:=Zqj h
  exact g.get p hp
 ·rw [hO] at hh
  obtain ⟨p,hp,rfl,rfl⟩:=Zqj hh
  exact Yhz (o.get p hp)
 ·rw [hX] at hh
  obtain ⟨p,hp,rfl,rfl⟩:=Zqj hh
  exact x.get p hp
theorem ovlO_ok {P : Program} {f tS tR el : Nat} {fn : Func} (hf : P.funcs[f]? = some fn) (hname : (fn.name == "runtime.NumGoroutine") = false) (hb : fn.body.isNone = true) (hn : Extern.findNext fn = none) (he : Extern.find fn = some (Extern.SlicesOverlaps.overlaps #[tS, tS] #[tR]))
 (hu:P.underlying tS=some (.slice el)) {sz:Nat}(hsz:Zdd P el=some sz):XOk P (f,Zfr):=by
 intro γ args vals s w v s' hA hs h
 have h:Zfr args s=.ok v s':=h
 unfold Zfr at h
 split at h
 ·rename_i a b
  cases hA with
  | @cons _ va _ vs1 a1 hA=>cases hA with
   | @cons _ vb _ vs2 a2 hA=>
    cases hA
    rcases Yaa h with ⟨r,o,n,c,rfl,h⟩|⟨_,h⟩|⟨_,h⟩
    ·rcases Yaa h with ⟨r',o',n',c',rfl,h⟩|⟨_,h⟩|⟨_,h⟩
     ·obtain ⟨hne,h⟩:=Zco h
      have hne:r≠r':=fun e=>by rw [e,Nat.beq_refl] at hne;cases hne
      cases h1:Zf1 r s with
      | no=>rw [h1] at h;cases h
      | row e1 cs1=>
       rw [h1] at h
       cases h2:Zf1 r' s with
       | no=>rw [h2] at h;cases h
       | row e2 cs2=>
        rw [h2] at h
        cases cs2 with
        | nil=>cases h
        | cons x cs2=>
         obtain ⟨rfl,rfl⟩:=Zau h
         obtain ⟨L,cc,hL,hv1,_⟩:=slV a1
         obtain ⟨L',cc',hL',hv2,_⟩:=slV a2
         have g1:=Zd4 h1
         have g2:=Zd4 h2
         obtain ⟨c1,p1,p2,p3,p4,p5,_⟩:=hs.row g1 hL
         obtain ⟨c2,q1,q2,q3,q4,q5,_⟩:=hs.row g2 hL'
         have hbb:=hs.inj r r' _ _ L L' g1 g2 rfl rfl hL hL' hne
         refine ⟨.bool false,γ,w,?_,.refl _ _ _,hs,.bool _⟩
         rw [run_callFunc_extern hf hname hb hn he]
         have:=Lib.run_overlaps_apart (P:=P) w tS tR el hu sz (Za9 hsz) ⟨L.b,L.o+o,none⟩ ⟨L'.b,L'.o+o',none⟩ n cc n' cc' hbb e1 e2 c1.size c2.size
          (by simp [World.shape?,p1]) (by simp [World.shape?,q1]) (by simp at q5;omega) (by simp [World.frozen?,p1]) (by simp [World.frozen?,p1])
         rw [hv1,hv2,this];rfl
     ·cases h
     ·cases h
    ·cases h
    ·cases h
 ·cases h
end Go.AM
namespace Go.AM
open Go.RowKit Go.WideShapes Go.ChangeShapes
section
variable {H:Type}{enc:TypeId×Value→H}{P:Program}
theorem post_new {f:Func}{s:ChangeSpec}{apart Zn1 handsOn again:Bool}{W W':World}{args:Array Value}{v:Value}{ds gs:List (DataW H)}{before pa pv:List MemPlace}
 (hW:DataW.Whole enc P f.params.toList s.vars apart W args.toList ds gs before) (hb:Below W.heap.size W W') (hps:before=pa++pv)
 (hres:∀ (b:Nat) (sp:Nat→Bool) (hd:Bool),DataW.TrodAll enc P W' b sp hd f.resultTypes.toList (v.resultList f.resultTypes.size) (s.fn H (ds++gs)).results [])
 (hargs:∀ sp:Nat→Bool,(∀ p ∈ before,sp p.block=true)→DataW.TrodAll enc P W' 0 sp true f.params.toList args.toList (s.fn H (ds++gs)).args pa)
 (hvars:∀ sp:Nat→Bool,(∀ p ∈ before,sp p.block=true)→DataW.TrodVars enc P W' sp s.vars (s.fn H (ds++gs)).vars pv)
 (hok:∀ (j:Nat) (t:TypeId) (r:Value),f.resultTypes[j]?=some t→(v.resultList f.resultTypes.size)[j]?=some r→Value.okWide P W' .any 0 t r):
 s.post enc P f apart Zn1 handsOn again W args v W':=by
 have old:∀ p ∈ before,p.block<W.heap.size:=fun p hp=>hW.lt p hp
 have oldB:∀ p ∈ before,(fun b=>decide (b<W.heap.size)) p.block=true:=fun p hp=>decide_eq_true (old p hp)
 have hmem:∀ p,p ∈ pa++pv↔p ∈ before:=fun p=>by rw [hps]
 have hkept:W.keptBut W' (· ∈ before):=hb.frame (· ∈ before)
 refine ⟨ds,gs,before,[],pa,pv,hW,hres _ _ _,hargs _ oldB,hvars _ oldB,World.keptBut_mono ?_ hkept,?_⟩
 ·intro p hp
  refine ⟨hp,.inr ?_⟩
  exact List.mem_append.1 ((hmem p).2 hp)
 ·intro _
  obtain ⟨_,_,_,_,_,notFrozen,once⟩:=hW
  refine ⟨hok,_,_,([]++pa)++pv,⟨[]++pa,pv,trodAll_append (hargs _ (fun _ _=>rfl)) (hres _ _ _),hvars _ (fun _ _=>rfl),rfl,fun b off hp=>?_,fun ha=>?_⟩,fun p hp _=>?_⟩
  ·have hin:MemPlace.cell b off ∈ before:=(hmem _).1 hp
   rw [hb.frozen (old _ hin)]
   exact notFrozen b off hin
  ·have h1:=once ha
   rw [hps] at h1
   exact h1
  ·exact (hmem p).1 hp
end
end Go.AM
namespace Go.AM
open Go.RowKit
theorem trodAll_below {H:Type}{enc:TypeId×Value→H}{P:Program}{W W':World}(hl:laidOutB P=true) (hb:Below W.heap.size W W') (sp:Nat→Bool):∀ {ts:List TypeId}{vs:List Value}{ds:List (DataW H)}{ps:List MemPlace},(ts.all fun t=>P.readableRec t && decide (t<P.types.size))=true→
 DataW.TrodAll enc P W 0 (fun _=>true) true ts vs ds ps→(∀ x ∈ ps,x.block<W.heap.size)→(∀ x ∈ ps,sp x.block=true)→DataW.TrodAll enc P W' 0 sp true ts vs ds ps
 | [],[],[],ps,_,h,_,_=>h
 | [],_::_,_,_,_,h,_,_=>h.elim
 | [],[],_::_,_,_,h,_,_=>h.elim
 | _::_,[],_,_,_,h,_,_=>h.elim
 | _::_,_::_,[],_,_,h,_,_=>h.elim
 | t::ts,v::vs,d::ds,ps,hall,h,hlt,hsp=>by
  obtain ⟨p,q,h1,h2,rfl⟩:=h
  rw [List.all_cons,Bool.and_eq_true,Bool.and_eq_true] at hall
  refine ⟨p,q,?_,trodAll_below hl hb sp hall.2 h2 (fun x hx=>hlt x (by simp [hx])) (fun x hx=>hsp x (by simp [hx])),rfl⟩
  exact WideElems.Trod_stays hl hall.1.1 (of_decide_eq_true hall.1.2) h1 (fun x hx=>hb.same (hlt x (by simp [hx]))) (fun x hx=>hsp x (by simp [hx]))
end Go.AM
namespace Go.AM
def Zmc (l:Nat) (s:St) (K:LoopState→Option Nat→Nat→AT→List Nat→AC→AC→Nat→Prop):Prop:=LP.rec False K (Zdq l s)
def RdEnd (l:Nat) (k:AV→St→Prop):EQ:=fun x _ s _=>
 Ex.rec (Zmc l s fun _ _ fn tm ps asg body d=>k (.bool true) (s.put l (.loop .ready none fn tm ps asg body d)))
  (fun id=>Zmc l s fun _ _ fn tm ps asg body d=>k (.bool false) (s.put l (.loop .done (some (id+1)) fn tm ps asg body d)))
  (Zmc l s fun _ _ fn tm ps asg body d=>k (.bool false) (s.put l (.loop .done (some 0) fn tm ps asg body d))) x
def RdGo (e:Env) (l:Nat) (body:AC) (k:AV→St→Prop):EQ:=fun x t s ds=>
 Ex.rec (Zmc l s fun st pend fn tm ps asg b d=>LoopState.rec (VE e body t (s.put l (.loop .busy pend fn tm ps asg b d)) (some l) ds (RdEnd l k)) False False False st) (fun _=>False) False x
def RdAll (e:Env) (l:Nat) (vs:List AV) (s:St) (k:AV→St→Prop):Prop:=
 Zmc l s fun _ _ _ tm ps asg body _=>wB (Nat.beq (Zd0 vs) (Zd0 ps)) (VE e asg (Zxs ps vs tm) s (some l) [] (RdGo e l body k)) False
theorem Ziz {l:Nat}{s:St}{K:LoopState→Option Nat→Nat→AT→List Nat→AC→AC→Nat→Prop}(h:Zmc l s K):∃ a b c d e f g i,Zdq l s=.lp a b c d e f g i∧K a b c d e f g i:=by
 unfold Zmc at h
 cases hq:Zdq l s with
 | no=>rw [hq] at h;exact h.elim
 | lp a b c d e f g i=>rw [hq] at h;exact ⟨a,b,c,d,e,f,g,i,rfl,h⟩
section
variable {P:Program}{e:Env}
theorem EExec.elim {c:AC}{t:AT}{s:St}{rd:Option Nat}{ds:List Nat}{Q:EQ}(h:EExec e c t s rd ds Q):∃ n x t' s' ds',exec e n c t s rd ds=.ok x t' s' ds'∧Q x t' s' ds':=by
 unfold EExec at h;exact h
theorem ERound.mk {l:Nat}{vs:List AV}{s:St}{k:AV→St→Prop}(h:RdAll e l vs s k):ERound e l vs s k:=by
 unfold RdAll at h
 obtain ⟨st,pend,fn,tm,ps,asg,body,d,hl,h⟩:=Ziz h
 have hb:Nat.beq (Zd0 vs) (Zd0 ps)=true:=by
  cases hq:Nat.beq (Zd0 vs) (Zd0 ps) with
  | true=>rfl
  | false=>rw [hq] at h;exact (show False from h).elim
 rw [hb] at h
 have h:VE e asg (Zxs ps vs tm) s (some l) [] (RdGo e l body k):=h
 obtain ⟨n,x,t1,s1,ds1,h1,h⟩:=(Zmf h).elim
 cases x with
 | exit id=>exact (show False from h).elim
 | ret=>exact (show False from h).elim
 | normal=>
  obtain ⟨st1,pend1,fn1,tm1,ps1,asg1,b1,d1,hl1,h⟩:=Ziz (show Zmc l s1 (fun st pend fn tm ps asg b d=>LoopState.rec (VE e body t1 (s1.put l (.loop .busy pend fn tm ps asg b d)) (some l) ds1 (RdEnd l k)) False False False st) from h)
  cases st1 with
  | busy=>exact (show False from h).elim
  | done=>exact (show False from h).elim
  | exhausted=>exact (show False from h).elim
  | ready=>
   obtain ⟨m,x2,t2,s2,ds2,h2,h⟩:=(Zmf (show VE e body t1 (s1.put l (.loop .busy pend1 fn1 tm1 ps1 asg1 b1 d1)) (some l) ds1 (RdEnd l k) from h)).elim
   have key:∃ v s',Zfi l (.ok x2 t2 s2 ds2)=.ok v s'∧k v s':=by
    cases x2 with
    | normal=>
     obtain ⟨a,b,c,dd,ee,f,g,i,hq,hk⟩:=Ziz (show Zmc l s2 (fun _ _ fn tm ps asg body d=>k (.bool true) (s2.put l (.loop .ready none fn tm ps asg body d))) from h)
     refine ⟨_,_,?_,hk⟩
     show Zef l .ready none true s2=_
     unfold Zef;rw [hq]
    | exit id=>
     obtain ⟨a,b,c,dd,ee,f,g,i,hq,hk⟩:=Ziz (show Zmc l s2 (fun _ _ fn tm ps asg body d=>k (.bool false) (s2.put l (.loop .done (some (id+1)) fn tm ps asg body d))) from h)
     refine ⟨_,_,?_,hk⟩
     show Zef l .done (some (id+1)) false s2=_
     unfold Zef;rw [hq]
    | ret=>
     obtain ⟨a,b,c,dd,ee,f,g,i,hq,hk⟩:=Ziz (show Zmc l s2 (fun _ _ fn tm ps asg body d=>k (.bool false) (s2.put l (.loop .done (some 0) fn tm ps asg body d))) from h)
     refine ⟨_,_,?_,hk⟩
     show Zef l .done (some 0) false s2=_
     unfold Zef;rw [hq]
   obtain ⟨v,s',hre,hk⟩:=key
   unfold ERound
   refine ⟨max n m,v,s',?_,hk⟩
   unfold Zlw
   rw [hl]
   show gd (Nat.beq (Zd0 vs) (Zd0 ps)) (Znb (exec e (max n m)) l body (exec e (max n m) asg (Zxs ps vs tm) s (some l) []))=_
   rw [hb,Zgd (Nat.le_max_left n m) _ _ _ _ _ _ _ _ _ h1]
   show (LP.rec .fail (fun st pend fn tm ps asg b d=>LoopState.rec (Zfi l (exec e (max n m) body t1 (s1.put l (.loop .busy pend fn tm ps asg b d)) (some l) ds1)) .fail .fail .fail st) (Zdq l s1):RV)=_
   rw [hl1]
   show Zfi l (exec e (max n m) body t1 (s1.put l (.loop .busy pend1 fn1 tm1 ps1 asg1 b1 d1)) (some l) ds1)=_
   rw [Zgd (Nat.le_max_right n m) _ _ _ _ _ _ _ _ _ h2]
   exact hre
end
mutual
def nmV (r:Nat):AV→Bool
 | .ptr r' _=>Nat.beq r' r
 | .sl r' _ _ _=>Nat.beq r' r
 | .map r'=>Nat.beq r' r
 | .yld r'=>Nat.beq r' r
 | .fn _ a b=>nmVs r a || nmVs r b
 | .iface _ v=>nmV r v
 | .agg l=>nmVs r l
 | .tup l=>nmVs r l
 | _=>false
def nmVs (r:Nat):List AV→Bool
 | []=>false
 | v::l=>nmV r v || nmVs r l
end
section
variable {P:Program}{γ:Gam}
mutual
theorem Zql {r:Nat}:∀ (v:AV) {v':Value},nmV r v=true→VR γ v v'→∃ L,γ r=some L
 | .ptr r' o,_,h,.ptr _ _ L e=>⟨L,by rw [← Nat.eq_of_beq_eq_true (show Nat.beq r' r=true from h)];exact e⟩
 | .sl r' o n (some c),_,h,.sl _ _ _ _ L e _=>⟨L,by rw [← Nat.eq_of_beq_eq_true (show Nat.beq r' r=true from h)];exact e⟩
 | .sl r' o n none,_,h,.slu _ _ _ _ L e _ _ _=>⟨L,by rw [← Nat.eq_of_beq_eq_true (show Nat.beq r' r=true from h)];exact e⟩
 | .map r',_,h,.map _ L e=>⟨L,by rw [← Nat.eq_of_beq_eq_true (show Nat.beq r' r=true from h)];exact e⟩
 | .yld r',_,h,.yld _ L e=>⟨L,by rw [← Nat.eq_of_beq_eq_true (show Nat.beq r' r=true from h)];exact e⟩
 | .fn f xs ys,_,h,.fn _ _ _ as bs a b=>by
  simp only [nmV,Bool.or_eq_true] at h
  rcases h with h|h
  ·exact Zj6 xs h a
  ·exact Zj6 ys h b
 | .iface t v,_,h,.iface _ _ v' e=>Zql v h e
 | .agg l,_,h,.agg _ a e o=>Zj6 l h e
 | .tup l,_,h,.tup _ a e=>Zj6 l h e
 | .bool _,_,h,_=>by cases h
 | .int _ _,_,h,_=>by cases h
 | .str _,_,h,_=>by cases h
 | .nilp,_,h,_=>by cases h
 | .nils,_,h,_=>by cases h
 | .es,_,h,_=>by cases h
 | .nilm,_,h,_=>by cases h
 | .nilf,_,h,_=>by cases h
 | .nili,_,h,_=>by cases h
 | .any,_,h,_=>by cases h
 | .fz ..,_,h,_=>by cases h
 | .fp _,_,h,_=>by cases h
theorem Zj6 {r:Nat}:∀ (l:List AV) {m:List Value},nmVs r l=true→All2 (VR γ) l m→∃ L,γ r=some L
 | [],_,h,_=>by cases h
 | v::l,_,h,.cons a b=>by
  simp only [nmVs,Bool.or_eq_true] at h
  rcases h with h|h
  ·exact Zql v h a
  ·exact Zj6 l h b
end
inductive Named (t:AT) (s:St):Nat→Prop
 | tmp {r:Nat}(i:Nat) (v:AV):t.get i=some v→nmV r v=true→Named t s r
 | cell {r:Nat}(r' e:Nat) (cs:List AV) (i:Nat) (v:AV):Named t s r'→s.get r'=some (.row e cs)→cs[i]?=some v→nmV r v=true→Named t s r
theorem Named.loc {t:AT}{s:St}{w:World}{tm:Array Value}(ht:TR γ t tm) (hs:Sim P γ s w) {r:Nat}(h:Named t s r):∃ L,γ r=some L:=by
 induction h with
 | tmp i v h1 h2=>
  obtain ⟨v',_,hv⟩:=ht i v h1
  exact Zql v h2 hv
 | cell r' e cs i v _ h1 h2 h3 ih=>
  obtain ⟨L,hL⟩:=ih
  obtain ⟨c,e1,_,_,_,_,e6,_⟩:=hs.obj r' _ L h1 hL
  obtain ⟨v',_,hv,_⟩:=e6 i v h2
  exact Zql v h3 hv
end
def Yhy (l fn:Nat) (tm:AT) (ps:List Nat) (asg body:AC) (d:Nat) (pend:Option Nat) (ds:List Nat) (t:AT) (s:St) (Q:EQ):Prop:=
 Option.rec (Q .normal t (s.put l (.loop .exhausted pend fn tm ps asg body d)) ds) (fun i=>Nat.rec (Q .ret t (s.put l (.loop .exhausted pend fn tm ps asg body d)) ds) (fun id _=>Q (.exit id) t (s.put l (.loop .exhausted pend fn tm ps asg body d)) ds) i) pend
def Zom (l:Nat) (ds:List Nat) (t:AT) (s:St) (Q:EQ):Prop:=
 Zmc l s fun st pend fn tm ps asg body d=>LoopState.rec (Yhy l fn tm ps asg body d pend ds t s Q) False (Yhy l fn tm ps asg body d pend ds t s Q) (Yhy l fn tm ps asg body d pend ds t s Q) st
theorem Yaq {l:Nat}{ds:List Nat}{t:AT}{s:St}{Q:EQ}(h:Zom l ds t s Q):∃ x t' s' ds',Znd l ds t s=.ok x t' s' ds'∧Q x t' s' ds':=by
 obtain ⟨st,pend,fn,tm,ps,asg,body,d,hl,h⟩:=Ziz h
 have fin:Yhy l fn tm ps asg body d pend ds t s Q→∃ x t' s' ds',Zk1 l fn tm ps asg body d pend ds t s=.ok x t' s' ds'∧Q x t' s' ds':=by
  intro h
  cases pend with
  | none=>exact ⟨_,_,_,_,rfl,h⟩
  | some i=>cases i with
   | zero=>exact ⟨_,_,_,_,rfl,h⟩
   | succ id=>exact ⟨_,_,_,_,rfl,h⟩
 unfold Znd
 rw [hl]
 cases st with
 | busy=>exact (show False from h).elim
 | ready=>exact fin h
 | done=>exact fin h
 | exhausted=>exact fin h
section
variable {P:Program}{γ:Gam}{s:St}{w:World}{t:AT}
theorem Yfp {N m:Nat}{b:Option Nat}{γ0:Gam}{s0:St}{w0:World}{l:Nat}{L:Loc}{ds:List Nat}{a:Act}{x:Ex}{t':AT}{s':St}{ds':List Nat}{v':Value}{R:Exit→Act→World→Prop}(hR:∀ ex a w,Zmd P γ0 s0 w0 N x t' s' ds' ex a w→R ex a w) (hN:N≤a.tmps.size) (ht:TR γ t a.tmps) (hs:Sim P γ s w) (hL:γ l=some L) (hd:DR γ ds a.defers) (hst:Stp γ0 s0 w0 γ s w)
 (h:Znd l ds t s=.ok x t' s' ds'):rangePost (fen b) m P L.b R a (.returned v') w:=by
 unfold Znd at h
 obtain ⟨st,pend,fn,tm,ps,asg,body,d,hg,h⟩:=Zxh h
 obtain ⟨lp,k1,k2,k3,_⟩:=hs.obj l _ L hg hL
 have hend:st≠.busy→(Instr.endLoop L.b).run P w=.ok lp.pending { w with heap:=w.heap.setIfInBounds L.b (.loop { lp with state:=.exhausted,pending:=lp.pending }) }:=by
  intro hb
  have:(lp.state == LoopState.busy)=false:=by rw [k2];cases st <;> first|rfl|exact absurd rfl hb
  simp only [Instr.endLoop,Sem.run_bind,Zes k1,Result.andThen_ok,this]
  simp only [Bool.false_eq_true,if_false,Sem.run_bind,Sem.run_pure,Result.andThen_ok,Zee _ k1]
 obtain ⟨hst2,hs2⟩:=Zka (st':=.exhausted) (pend':=pend) (pc':=lp.pending) hs hg hL k1 k3
 have fin:st≠.busy→Zk1 l fn tm ps asg body d pend ds t s=.ok x t' s' ds'→rangePost (fen b) m P L.b R a (.returned v') w:=by
  intro hb hk
  refine ⟨_,_,hend hb,?_⟩
  have hpost:Zmd P γ0 s0 w0 N x t (s.put l (.loop .exhausted pend fn tm ps asg body d)) ds (Yit x) a { w with heap:=w.heap.setIfInBounds L.b (.loop { lp with state:=.exhausted,pending:=lp.pending }) }:=
   ⟨rfl,hN,γ,hst.trans hst2,hs2,ht,hd⟩
  cases pend with
  | none=>
   cases hk
   rw [show lp.pending=none from k3] at hpost ⊢
   exact hR _ _ _ hpost
  | some i=>
   cases i with
   | zero=>
    cases hk
    rw [show lp.pending=some .ret from k3] at hpost ⊢
    exact wpIn_ret (hR _ _ _ hpost)
   | succ id=>
    cases hk
    rw [show lp.pending=some (.exit id) from k3] at hpost ⊢
    exact wpIn_exit (hR _ _ _ hpost)
 cases st with
 | ready=>exact fin (by simp) h
 | busy=>cases h
 | done=>exact fin (by simp) h
 | exhausted=>exact fin (by simp) h
theorem Zta {k f:Nat}{first cap:List AV}{g:AO}{ps:List Nat}{asg body:AC}{ds:List Nat}{Q:EQ}(hB:Zaf P f) (hg:ev g t=.some (.fn f first cap)) (hmap:∀ r,r<s.next→Named t s r)
 (hC:C1 P f (first++.yld (s.next+1)::cap) ((s.alloc .defd).alloc (.loop .ready none 0 t ps asg body s.next)) (fun _ s'=>Zom (s.next+1) (s.next::ds) t s' Q)):W P k none (.rng g ps asg body) t s ds Q:=by
 intro N c γ w a b γ0 s0 w0 m h1 h2 h3 h4 h5 h6 h7 h8 h9 h10
 obtain ⟨y,qs,c1,c2,rfl,ey,rfl,e1,e2,hps⟩:=(Zek h1:∃ y qs c1 c2,c=.rangeFunc y qs c1 c2∧aop y=some g∧qs.toList=ps∧Zcs P N c1=some asg∧Zcs P N c2=some body∧∀ p ∈ ps,p<N)
 cases h5
 refine wpIn_rangeFunc fun fn _=>?_
 have hgR:=Yg3 h3 ey hg
 obtain ⟨hst1,hs1⟩:=h4.alloc .defd (.deferred (some [])) 0 0 (by show (w.heap.push _)[w.heap.size]?=_;simp)
 have hn1:(s.alloc .defd).next=s.next+1:=Zar _ _
 have hle1:=hst1.le
 obtain ⟨γ1,hγ1⟩:∃ γ1,γ1=γ1:=⟨γ,rfl⟩
 obtain ⟨hst2,hs2⟩:=hs1.alloc (.loop .ready none 0 t qs.toList asg body s.next) (.loop { state:=.ready,pending:=none,fn:=fn,tmps:=a.tmps,params:=qs,assign:=c1,body:=c2,defers:=w.heap.size }) 0 0
  ⟨{ state:=.ready,pending:=none,fn:=fn,tmps:=a.tmps,params:=qs,assign:=c1,body:=c2,defers:=w.heap.size },by show ((w.heap.push _).push _)[(w.heap.push _).size]?=_;rw [Array.getElem?_push,if_pos rfl],rfl,rfl,(h3.mono hle1).mono (Zgr (hs1.nx _ (Nat.le_refl _))),rfl,⟨N,h2,e1,e2,hps⟩,⟨w.heap.size,0,0,0⟩,(Zgr (hs1.nx _ (Nat.le_refl _))).loc _ _ (Za8 _ _ _),rfl⟩
 have hgR2:=(hgR.mono hle1).mono hst2.le
 rw [hn1] at hst2 hs2 hgR2
 generalize hv:a.eval y=vy at hgR2
 cases hgR2 with
 | fn _ _ _ as bs a1 a2=>
  obtain ⟨fn',cc,f1,f2,f3⟩:=hB
  have f3' : fn'.name ≠ "runtime.NumGoroutine" := by simpa using f3
  have hall:∀ r,r<((s.alloc .defd).alloc (.loop .ready none 0 t qs.toList asg body s.next)).next→∃ L,(ext (ext γ s.next ⟨w.heap.size,0,0,0⟩) (s.next+1) ⟨(w.alloc (.deferred (some []))).heap.size,0,0,0⟩) r=some L:=by
   intro r hr
   rw [Zar,hn1] at hr
   rcases Nat.lt_or_ge r s.next with hlt|hge
   ·obtain ⟨L,hL⟩:=(hmap r hlt).loc h3 h4
    exact ⟨L,hst2.le.loc _ _ (hle1.loc _ _ hL)⟩
   ·rcases Nat.eq_or_lt_of_le hge with rfl|hgt
    ·exact ⟨_,hst2.le.loc _ _ (Za8 _ _ _)⟩
    ·have:r=s.next+1:=by omega
     subst this
     exact ⟨_,Za8 _ _ _⟩
  have hargs:All2 (VR (ext (ext γ s.next ⟨w.heap.size,0,0,0⟩) (s.next+1) ⟨(w.alloc (.deferred (some []))).heap.size,0,0,0⟩)) (first++.yld (s.next+1)::cap) (as.toList++(Value.func (.yield (w.alloc (.deferred (some []))).heap.size) #[] #[]::bs.toList)):=
   a1.append (.cons (.yld _ _ (Za8 _ _ _)) a2)
  have hcalls:=hC _ (as.toList++(Value.func (.yield (w.alloc (.deferred (some []))).heap.size) #[] #[]::bs.toList)) _ (m-1) hall hargs hs2
  have heq:(as.toList++(Value.func (.yield (w.alloc (.deferred (some []))).heap.size) #[] #[]::bs.toList)).toArray=as++#[Value.func (.yield (w.alloc (.deferred (some []))).heap.size) #[] #[]]++bs:=by simp
  rw [heq] at hcalls
  refine ⟨(w.alloc (.deferred (some []))).heap.size,[{ target:=.collected w.heap.size,args:=#[] }],((w.alloc (.deferred (some []))).alloc (.loop { state:=.ready,pending:=none,fn:=fn,tmps:=a.tmps,params:=qs,assign:=c1,body:=c2,defers:=w.heap.size })),{ target:=.fn (.func f) bs,args:=as++#[Value.func (.yield (w.alloc (.deferred (some []))).heap.size) #[] #[]] },((w.alloc (.deferred (some []))).alloc (.loop { state:=.ready,pending:=none,fn:=fn,tmps:=a.tmps,params:=qs,assign:=c1,body:=c2,defers:=w.heap.size })),f,as++#[Value.func (.yield (w.alloc (.deferred (some []))).heap.size) #[] #[]]++bs,_,?_,?_,fun f' _=>Zkg none f',?_,Zh4 none m,Zg8 (CallsIn.mono hcalls ?_)⟩
  ·rw [Zn4]
   simp only [Instr.enterLoop,Sem.run_bind,Zf4,Result.andThen_ok,Sem.run_pure]
  ·have hmp:(#[Operand.const (.func (.yield (w.alloc (.deferred (some []))).heap.size) #[] #[])]:Array Operand).map a.eval=#[.func (.yield (w.alloc (.deferred (some []))).heap.size) #[] #[]]:=by simp [Act.eval]
   show (Deferred.ofValue (a.eval y) ((#[Operand.const (.func (.yield (w.alloc (.deferred (some []))).heap.size) #[] #[])]:Array Operand).map a.eval)).run P _=_
   rw [hmp,hv];rfl
  ·simp [invoke,callFunc,f1,f3',f2]
  ·rintro _ w3 ⟨v,s3,hout,v',γ3,rfl,hst3,hs3,_⟩
   obtain ⟨x,t',s',ds',hgo,hq⟩:=Yaq hout
   refine Yfp (L:=⟨(w.alloc (.deferred (some []))).heap.size,0,0,0⟩) (a:={ a with defers:=[{ target:=.collected w.heap.size,args:=#[] }]++a.defers }) (γ0:=γ0) (s0:=s0) (w0:=w0) (N:=N) (fun ex a w hp=>⟨x,t',s',ds',hq,hp⟩) h2 (((h3.mono hle1).mono hst2.le).mono hst3.le) hs3 (hst3.le.loc _ _ (Za8 _ _ _)) ?_ (((h7.trans hst1).trans hst2).trans hst3) hgo
   have hdr:DR (ext γ s.next ⟨w.heap.size,0,0,0⟩) (s.next::ds) ([{ target:=.collected w.heap.size,args:=#[] }]++a.defers):=.cons ⟨_,Za8 _ _ _,rfl⟩ (h6.mono hle1)
   exact (hdr.mono hst2.le).mono hst3.le
end
@[reducible] def RowOkK (k n:Nat) (all:List Nat) (s:St):List AObj→List Nat→Prop
 | [],[]=>True
 | o::l,r::rs=>(bdO k n o=true∧s.get r=some (Zr9 (nm all) o))∧RowOkK k n all s l rs
 | _,_=>False
structure AbsK (k:Nat) (t:AT) (s:St) (tl:List (Nat×AV)) (os:List AObj) (rs:List Nat):Prop where
 fix:rs.take k=List.range k
 nd:rs.Nodup
 tmp:TmpOk os.length rs t tl
 row:RowOkK k os.length rs s os rs
theorem RowOkK.get {k n:Nat}{all:List Nat}{s:St}:∀ {l:List AObj}{rs:List Nat},RowOkK k n all s l rs→l.length=rs.length∧∀ (j:Nat) o,l[j]?=some o→∃ r,rs[j]?=some r∧bdO k n o=true∧s.get r=some (Zr9 (nm all) o)
 | [],[],_=>⟨rfl,fun j o h=>by simp at h⟩
 | [],_::_,h=>h.elim
 | _::_,[],h=>h.elim
 | o::l,r::rs,h=>by
  obtain ⟨h1,h2⟩:=RowOkK.get h.2
  refine ⟨by simp [h1],fun j o' hj=>?_⟩
  cases j with
  | zero=>simp at hj;subst hj;exact ⟨r,by simp,h.1⟩
  | succ j=>simpa using h2 j o' (by simpa using hj)
theorem AbsK.ren {k:Nat}{t:AT}{s:St}{tl:List (Nat×AV)}{os:List AObj}{rs:List Nat}(h:AbsK k t s tl os rs):Ren k (nm rs) t s [] (ofL tl) (Zai St0 os) []:=by
 obtain ⟨hl,hr⟩:=h.row.get
 have hk:k≤rs.length:=by
  have:=congrArg List.length h.fix
  simp at this;omega
 have hj:∀ j,j<k→rs[j]?=some j:=by
  intro j hj
  have:(rs.take k)[j]?=(List.range k)[j]?:=by rw [h.fix]
  rw [List.getElem?_take,if_pos hj,List.getElem?_range hj] at this
  exact this
 refine ⟨fun r hr=>Znn (hj r hr),by rw [Zbq];omega,?_,?_,?_,⟨rfl,by simp⟩⟩
 ·intro i j hi hj e
  rw [Zbq] at hi hj
  have e1:=Znn (List.getElem?_eq_getElem (l:=rs) (i:=i) (by omega))
  have e2:=Znn (List.getElem?_eq_getElem (l:=rs) (i:=j) (by omega))
  rw [e1,e2] at e
  exact (List.getElem_inj h.nd).1 e
 ·intro i v hv
  obtain ⟨p,hp,rfl,rfl⟩:=Zh0 hv
  rw [Zbq]
  exact h.tmp.get p hp
 ·intro r o ho
  have:=Zid os St0 (Nat.zero_le r) (fun _ _=>rfl) ho
  have hz:r-St0.next=r:=Nat.sub_zero r
  rw [hz] at this
  obtain ⟨q,hq,hb,hg⟩:=hr r o this
  rw [Zbq,Znn hq]
  exact ⟨(List.getElem?_eq_some_iff.1 this).1,hb,hg⟩
section
variable {P:Program}{rd:Option Nat}{ac:AC}{t:AT}{s:St}{Q:EQ}{k:Nat}
theorem W.loopK {α:Type}(tl:α→List (Nat×AV)) (os:α→List AObj) (μ:α→Nat) (I:α→Prop) (x0:α) (rs:List Nat) (h0:I x0) (ha:AbsK k t s (tl x0) (os x0) rs)
 (hr:∀ x,I x→W P k rd ac (ofL (tl x)) (Zai St0 (os x)) [] (Yjc (fun t s ds=>ds=[]∧∃ x',I x'∧μ x'<μ x∧∃ rs,AbsK k t s (tl x') (os x') rs) Q)):W P k rd (.loop ac) t s [] Q:=by
 refine W.loop (fun n t s ds=>ds=[]∧∃ x,n=μ x∧I x∧∃ rs,AbsK k t s (tl x) (os x) rs) (μ x0) ⟨rfl,x0,rfl,h0,rs,ha⟩ ?_
 rintro n t s ds ⟨rfl,x,rfl,hi,rs,ha⟩
 refine W.ren ha.ren ((hr x hi).mono ?_)
 intro y t s ds hq
 cases y with
 | normal=>
  obtain ⟨rfl,x',hi',hm,rs,ha⟩:=(show ds=[]∧∃ x',I x'∧μ x'<μ x∧∃ rs,AbsK k t s (tl x') (os x') rs from hq)
  exact ⟨μ x',hm,rfl,x',rfl,hi',rs,ha⟩
 | exit id=>exact hq
 | ret=>exact hq
end
noncomputable def Yej (R:List AV→AV→Prop):Ov:=fun args s=>open Classical in if h:∃ u,R args u then .ok (Classical.choose h) s else .fail
theorem relO_ok {P:Program}{f:Nat}{R:List AV→AV→Prop}(hb:Zaf P f) (h:∀ args u,R args u→∀ s,C P f args s (fun v s'=>v=u∧s'=s)):OvOk P f (Yej R):=by
 refine ⟨hb,fun args s v s' hh=>?_⟩
 unfold Yej at hh
 split at hh
 ·rename_i hx
  cases hh
  exact h args _ (Classical.choose_spec hx) s
 ·cases hh
theorem ESc.rel {e:Env}{f:Nat}{R:List AV→AV→Prop}{vs:List AV}{s:St}{k:AV→St→Prop}(hi:Con e f (Yej R)) (hx:∃ u,R vs u) (hk:∀ u,R vs u→k u s):ESc e f vs s k:=by
 refine ESc.ov hi (v:=Classical.choose hx) (s':=s) ?_ (hk _ (Classical.choose_spec hx))
 unfold Yej
 rw [dif_pos hx]
theorem ECall.rel {e:Env}{f:Nat}{R:List AV→AV→Prop}{vs:List AV}{s:St}{k:AV→St→Prop}(hi:Con e f (Yej R)) (hx:∃ u,R vs u) (hk:∀ u,R vs u→k u s):ECall e f vs s k:=by
 refine ECall.ov hi.O (v:=Classical.choose hx) (s':=s) ?_ (hk _ (Classical.choose_spec hx))
 unfold Yej
 rw [dif_pos hx]
theorem C.abs {P:Program}{f:Nat}{args:List AV}{u:AV}{l:List AObj}(h:C P f args St0 (fun v s'=>∃ rs,Abs (T.set .lf v 0) s' [(0,u)] l rs)):C P f args St0 (fun v s'=>v=u∧s'=Zai St0 l):=by
 intro γ vals w m hA hs
 refine CallsIn.mono (h γ vals w m hA hs) ?_
 rintro e w' ⟨v,s',⟨rs,hab⟩,v',γ',rfl,hst,hsim,hv⟩
 have hT:TR γ' (T.set .lf v 0) #[v']:=by
  intro i x hx
  rcases Zds hx with ⟨rfl,rfl⟩|⟨_,h⟩
  ·exact ⟨v',rfl,hv⟩
  ·cases h
 obtain ⟨γ2,g1,g2,_,g4⟩:=hab.ren.sim (D:=[]) hT hsim .nil hst rfl hs.nx (fun r hr=>absurd hr (Nat.not_lt_zero r))
 obtain ⟨w2,e1,e2⟩:=g1 0 u rfl
 cases e1
 exact ⟨u,_,⟨rfl,rfl⟩,v',γ2,rfl,g4,g2,e2⟩
end Go.AM
namespace Go.AM
theorem Zf2 {n:Int}(h:0≤n∧n<4294967296):IntKind.u32.wrap n=n:=by
 rw [← Zck]
 obtain ⟨m,rfl⟩:∃ m:Nat,n=Int.ofNat m:=⟨n.toNat,by show n=(n.toNat:Int);omega⟩
 have hm:m<4294967296:=by have:Int.ofNat m=(m:Int):=rfl;omega
 show Int.ofNat (m % 4294967296)=_
 rw [Nat.mod_eq_of_lt hm]
theorem Zvm (n:Int):IntKind.u32.wrap n=n % 4294967296:=by
 show IntKind.wrap .u32 n=_
 simp [IntKind.wrap,IntKind.bits,IntKind.signed]
theorem Zor {n:Int}(h:0≤n∧n<256):IntKind.u8.wrap n=n:=by
 rw [← Zck]
 obtain ⟨m,rfl⟩:∃ m:Nat,n=Int.ofNat m:=⟨n.toNat,by show n=(n.toNat:Int);omega⟩
 have hm:m<256:=by have:Int.ofNat m=(m:Int):=rfl;omega
 show Int.ofNat (m % 256)=_
 rw [Nat.mod_eq_of_lt hm]
theorem stuckC {v:AV}{b:Bool}{x y z:Prop}(hv:v=.bool b) (h1:b=true→y) (h2:b=false→z):(BR.rec (motive:=fun _=>Prop) x y z (asBool v)):=by
 subst hv
 cases b with
 | true=>exact h1 rfl
 | false=>exact h2 rfl
section
variable {t:AT}{s:St}{k:AV→St→Prop}{x y:AO}
theorem Zaa {es n:Nat}{l:List AV}{v:AV}(hx:ev x t=.some v) (h:Sl es n l v) (hk:k (.int .i64 (n:Int)) s):EPrim (.len x) t s k:=Zi1 hx h hk
theorem Ze0 {r o n:Nat}{c:Option Nat}(hx:ev x t=.some (.sl r o n c)) (hk:k (.int .i64 (n:Int)) s):EPrim (.len x) t s k:=Zzb hx hk
theorem Zig (hx:ev x t=.some .nils) (hk:k (.int .i64 0) s):EPrim (.len x) t s k:=by
 refine EPrim.mk (v:=.int .i64 0) (s':=s) (fun e rec=>?_) hk
 show wth x t _=_;unfold wth;rw [hx];rfl
theorem Zam {q q':IntKind}{a:Int}(hx:ev x t=.some (.int q a)) (hw:q'.wrap a=a) (hk:k (.int q' a) s):EPrim (.cvi q' x) t s k:=by
 refine EPrim.mk (v:=.int q' a) (s':=s) (fun e rec=>?_) hk
 show wth x t _=_;unfold wth;rw [hx]
 show RV.ok (.int q' (Zhw q' a)) s=_
 rw [Zck,hw]
theorem Zl6 {a b:Int}(hx:ev x t=.some (.int .u32 a)) (hy:ev y t=.some (.int .u32 b)) (hk:k (.int .u32 ((a+b) % 4294967296)) s):EPrim (.bin .add x y) t s k:=
 EPrim.add hx hy (by rw [Zvm];exact hk)
theorem Zl5 {a b:Int}(hx:ev x t=.some (.int .u32 a)) (hy:ev y t=.some (.int .u32 b)) (hk:k (.int .u32 ((a-b) % 4294967296)) s):EPrim (.bin .sub x y) t s k:=
 EPrim.sub hx hy (by rw [Zvm];exact hk)
theorem EPrim.ixsZ {es n:Nat}{a:Int}{l:List AV}{v:AV}{q:IntKind}(hx:ev x t=.some v) (hs:Sl es n l v) (hy:ev y t=.some (.int q a)) (h0:0≤a) (h:a<n) (hk:k (.fp (l.drop (a.toNat*es))) s):EPrim (.ixs es x y) t s k:=by
 obtain ⟨m,rfl⟩:∃ m:Nat,a=Int.ofNat m:=⟨a.toNat,by show a=(a.toNat:Int);omega⟩
 exact Zae hx hs hy (by have:Int.ofNat m=(m:Int):=rfl;omega) hk
theorem Za0 {r o n es:Nat}{a:Int}{c:Option Nat}{q:IntKind}(hx:ev x t=.some (.sl r o n c)) (hy:ev y t=.some (.int q a)) (h0:0≤a) (h:a<n) (hk:k (.ptr r (o+a.toNat*es)) s):EPrim (.ixs es x y) t s k:=by
 obtain ⟨m,rfl⟩:∃ m:Nat,a=Int.ofNat m:=⟨a.toNat,by show a=(a.toNat:Int);omega⟩
 exact Zzc hx hy (by have:Int.ofNat m=(m:Int):=rfl;omega) hk
theorem Zze {r o n es:Nat}{a:Int}{q:IntKind}(hx:ev x t=.some (.ptr r o)) (hy:ev y t=.some (.int q a)) (h0:0≤a) (h:a<n) (hk:k (.ptr r (o+a.toNat*es)) s):EPrim (.ixa n es x y) t s k:=by
 obtain ⟨m,rfl⟩:∃ m:Nat,a=Int.ofNat m:=⟨a.toNat,by show a=(a.toNat:Int);omega⟩
 exact Zgw hx hy (by have:Int.ofNat m=(m:Int):=rfl;omega) hk
theorem Zzg {neg a b:Bool}(hx:ev x t=.some (.bool a)) (hy:ev y t=.some (.bool b)) (hk:k (.bool (Zwf neg (a == b))) s):EPrim (.eqb 0 neg x y) t s k:=by
 refine EPrim.mk (v:=.bool (Zwf neg (a == b))) (s':=s) (fun e rec=>?_) hk
 show wth x t _=_;unfold wth;rw [hx]
 show wth y t _=_;unfold wth;rw [hy];rfl
theorem Zzf {ks:List Nat}{neg:Bool}{a b:List AV}{c:Bool}(hx:ev x t=.some (.agg a)) (hy:ev y t=.some (.agg b)) (h:Zyq ks a b=some c) (hk:k (.bool (Zwf neg c)) s):EPrim (.eqf ks neg x y) t s k:=by
 refine EPrim.mk (v:=.bool (Zwf neg c)) (s':=s) (fun e rec=>?_) hk
 show wth x t _=_;unfold wth;rw [hx]
 show wth y t _=_;unfold wth;rw [hy]
 show (Option.rec .fail (fun c=>.ok (.bool (Zwf neg c)) s) (Zyq ks a b):RV)=_
 rw [h]
theorem Zbd {n:Nat}{bs:List Nat}{v:AV}(hx:ev x t=.some v) (h:Sl 1 n (bys bs) v) (hb:∀ b ∈ bs,b<256) (hk:k (.str bs) s):EPrim (.b2s x) t s k:=by
 have hbo:∀ {bs:List Nat},(∀ b ∈ bs,b<256)→Zbm (bys bs)=some bs:=by
  intro bs
  induction bs with
  | nil=>intro _;rfl
  | cons b bs ih=>
   intro h
   show (Bool.rec none (Option.rec none (fun r=>some (b::r)) (Zbm (bys bs))) (Nat.blt b 256):Option (List Nat))=_
   rw [ih (fun x hx=>h x (by simp [hx])),show Nat.blt b 256=true by simpa using h b (by simp)]
 refine EPrim.mk (v:=.str bs) (s':=s) (fun e rec=>?_) hk
 show wth x t _=_;unfold wth;rw [hx]
 rcases h with ⟨rfl,rfl,h⟩|⟨rfl,rfl,h⟩|⟨c,rfl,hl⟩
 ·have:bs=[]:=List.map_eq_nil_iff.1 h
  subst this;rfl
 ·have:bs=[]:=List.map_eq_nil_iff.1 h
  subst this;rfl
 ·show (Option.rec .fail (fun cs=>Option.rec .fail (fun b=>.ok (.str b) s) (Zbm cs)) (Zdf n (bys bs)):RV)=_
  rw [Zgy (by omega),List.take_of_length_le (by omega)]
  show (Option.rec .fail (fun b=>.ok (.str b) s) (Zbm (bys bs)):RV)=_
  rw [hbo hb]
theorem Zdb {a b:List Nat}(hx:ev x t=.some (.str a)) (hy:ev y t=.some (.str b)) (h1:a≠b→k (.bool true) s) (h2:a=b→k (.bool false) s):EPrim (.bin .neq x y) t s k:=by
 refine Zeq hx hy (v:=.bool (!Zyr a b)) rfl ?_
 rw [Zn7]
 by_cases h:a=b
 ·rw [show (a == b)=true by simpa using h];exact h2 h
 ·rw [show (a == b)=false by simpa using h];exact h1 h
theorem Zte {a b:List Nat}(hx:ev x t=.some (.str a)) (hy:ev y t=.some (.str b)) (h1:a=b→k (.bool true) s) (h2:a≠b→k (.bool false) s):EPrim (.bin .eql x y) t s k:=by
 refine Zeq hx hy (v:=.bool (Zyr a b)) rfl ?_
 rw [Zn7]
 by_cases h:a=b
 ·rw [show (a == b)=true by simpa using h];exact h1 h
 ·rw [show (a == b)=false by simpa using h];exact h2 h
end
end Go.AM
namespace Go.AM
theorem relO_of {P:Program}{f:Nat}{R:List AV→AV→Prop}(hb:Zaf P f) (h:∀ args u,R args u→hfs args=true∧AM.hf u=true∧C P f args St0 (fun v s'=>Frz s' v u)):OvOk P f (Yej R):=
 relO_ok hb fun args u hR s=>(h args u hR).elim fun ha h=>Zth ha h.1 h.2 s
end Go.AM
namespace Go.AM
structure Fam (α:Type) where
 ok:α→Prop
 enc:α→List AV
 out:α→AV
 inj:∀ x y,ok x→ok y→enc x=enc y→out x=out y
noncomputable def Fam.O {α:Type}(F:Fam α):Ov:=Yej (fun args u=>∃ x,F.ok x∧args=F.enc x∧u=F.out x)
theorem ESc.fam {α:Type}{e:Env}{f:Nat}{s:St}{k:AV→St→Prop}{u:AV}(F:Fam α) (hi:Con e f F.O) (x:α) (hx:F.ok x) (hu:F.out x=u) (hk:k u s):ESc e f (F.enc x) s k:=by
 refine ESc.rel hi ⟨_,x,hx,rfl,rfl⟩ ?_
 rintro u' ⟨y,hy,e,rfl⟩
 rw [← F.inj x y hx hy e,hu];exact hk
theorem ECall.fam {α:Type}{e:Env}{f:Nat}{s:St}{k:AV→St→Prop}{u:AV}(F:Fam α) (hi:Con e f F.O) (x:α) (hx:F.ok x) (hu:F.out x=u) (hk:k u s):ECall e f (F.enc x) s k:=by
 refine ECall.rel hi ⟨_,x,hx,rfl,rfl⟩ ?_
 rintro u' ⟨y,hy,e,rfl⟩
 rw [← F.inj x y hx hy e,hu];exact hk
theorem Zal {α:Type}{P:Program}{f:Nat}{F:Fam α}(hb:Zaf P f) (h:∀ x,F.ok x→hfs (F.enc x)=true∧AM.hf (F.out x)=true∧C P f (F.enc x) St0 (fun v s'=>Frz s' v (F.out x))):OvOk P f F.O:=by
 refine relO_of hb ?_
 rintro args u ⟨x,hx,rfl,rfl⟩
 exact h x hx
end Go.AM
namespace Go.AM
theorem w7 {t:AT}{s:St}{k:AV→St→Prop}{x y:AO}{a b:Int}(hx:ev x t=.some (.int .i64 a)) (hy:ev y t=.some (.int .i64 b)) (h:-9223372036854775808≤a+b∧a+b≤9223372036854775807) (hk:k (.int .i64 (a+b)) s):EPrim (.bin .add x y) t s k:=Zah hx hy h hk
abbrev w1:=@Zab
abbrev w2:=@Zlq
abbrev w3:=@Zb5
abbrev w4:=@Zbj
abbrev w5:=@Za7
abbrev w6:=@Zas
abbrev w8:=@Zcc
abbrev w11:=@Zl5
abbrev w12:=@Zbp
abbrev w13:=@Zeb
abbrev w14:=@Zam
abbrev w15:=@Zzg
abbrev w16:=@Zig
abbrev w18:=@Ze0
abbrev w19:=@stuckC
end Go.AM
namespace Go.AM
def Zyl (w:World):Gam:=⟨fun _=>none,fun b=>match w.heap[b]? with|some (.cells c _ _)=>some ⟨c,true⟩|_=>none⟩
theorem Zwo {w:World}{b:Nat}{c:FzC}(h:(Zyl w).fz b=some c):c.old=true:=by
 have h:(match w.heap[b]? with|some (.cells c _ _)=>some (⟨c,true⟩:FzC)|_=>none)=some c:=h
 split at h
 ·cases h;rfl
 ·cases h
theorem Zwn {P:Program}(w:World):Sim P (Zyl w) St0 w:=by
 refine sim0 (φ:=(Zyl w).fz) fun b c h=>?_
 have h:(match w.heap[b]? with|some (.cells c _ _)=>some (⟨c,true⟩:FzC)|_=>none)=some c:=h
 split at h
 ·rename_i c' e fr hh;cases h;exact ⟨e,fr,hh,fun h=>by cases h⟩
 ·cases h
theorem Ydg {w:World}{a:Addr}{v:Value}(h:w.cell? a=some v):a.spot=none∧∃ c,(Zyl w).fz a.block=some c∧c[a.off]?=some v:=by
 unfold World.cell? at h
 split at h
 ·rename_i c t fr hh
  split at h
  ·cases h
  ·rename_i hs
   refine ⟨by simpa using hs,⟨c,true⟩,?_,h⟩
   show (match w.heap[a.block]? with|some (.cells c _ _)=>some (⟨c,true⟩:FzC)|_=>none)=some ⟨c,true⟩
   rw [hh]
 ·cases h
inductive Ty where
 | bool
 | int (k:IntKind)
 | sl (e:Ty)
 | st (fs:List Ty)
mutual
inductive TyOf (P:Program):TypeId→Ty→Nat→Prop
 | bool (t:TypeId):P.underlying t=some .bool→TyOf P t .bool 1
 | int (t:TypeId) (k:IntKind):P.underlying t=some (.int k)→TyOf P t (.int k) 1
 | sl (t e:TypeId) (E:Ty) (n:Nat):P.underlying t=some (.slice e)→P.cellsOf e=n→0<n→TyOf P e E n→TyOf P t (.sl E) 1
 | st (t:TypeId) (fs:Array Field) (Fs:List Ty) (n:Nat):P.underlying t=some (.struct fs)→P.cellsOf t=n→Flds P fs.toList 0 Fs n→TyOf P t (.st Fs) n
inductive Flds (P:Program):List Field→Nat→List Ty→Nat→Prop
 | nil (o:Nat):Flds P [] o [] o
 | cons (f:Field) (l:List Field) (o:Nat) (T:Ty) (m:Nat) (Ts:List Ty) (n:Nat):f.offset=o→P.cellsOf f.type=m→TyOf P f.type T m→Flds P l (o+m) Ts n→Flds P (f::l) o (T::Ts) n
end
mutual
inductive Shape:Ty→List AV→Prop
 | bool (b:Bool):Shape .bool [.bool b]
 | int (k:IntKind) (n:Int):(Lit.int k n).wf=true→Shape (.int k) [.int k n]
 | nil (E:Ty):Shape (.sl E) [.nils]
 | es (E:Ty):Shape (.sl E) [.es]
 | fz (E:Ty) (n m:Nat) (c:Option Nat) (ls:List (List AV)):ls.length=n→0<n→n≤maxLen→(∀ l ∈ ls,Shape E l)→(∀ l ∈ ls,l.length=m)→c≠some 0→Shape (.sl E) [.fz n c ls.flatten]
 | st (Fs:List Ty) (l:List AV):Shapes Fs l→Shape (.st Fs) l
inductive Shapes:List Ty→List AV→Prop
 | nil:Shapes [] []
 | cons (T:Ty) (Ts:List Ty) (l m:List AV):Shape T l→Shapes Ts m→Shapes (T::Ts) (l++m)
end
mutual
theorem Shape.hfs:∀ {T:Ty}{l:List AV},Shape T l→AM.hfs l=true
 | _,_,.bool b=>rfl
 | _,_,.int k n _=>rfl
 | _,_,.nil E=>rfl
 | _,_,.es E=>rfl
 | _,_,.fz E n m c ls _ _ _ _ _ _=>rfl
 | _,_,.st Fs l h=>Shapes.hfs h
theorem Shapes.hfs:∀ {Ts:List Ty}{l:List AV},Shapes Ts l→AM.hfs l=true
 | _,_,.nil=>rfl
 | _,_,.cons T Ts l m a b=>by
  rw [hfs_iff]
  intro v hv
  rcases List.mem_append.1 hv with h|h
  ·exact hfs_iff.1 (Shape.hfs a) v h
  ·exact hfs_iff.1 (Shapes.hfs b) v h
end
section
variable {H:Type}{enc:TypeId×Value→H}{P:Program}{w:World}{spare:Nat→Bool}
theorem Zxl:∀ (fuel:Nat) {t:TypeId}{T:Ty}{n:Nat}{cs:List Value}{x:DataW H×List MemPlace},TyOf P t T n→DataW.trod enc P w 0 spare true fuel t cs=some x→
 ∃ l,Shape T l∧l.length=n∧All2 (VR (Zyl w)) l cs∧∀ v ∈ cs,v.oneCell'=true:=by
 intro fuel
 induction fuel with
 | zero=>intro t T n cs x _ h;simp [DataW.trod] at h
 | succ fuel ih=>
  intro t T n cs x hT h
  cases hT with
  | bool _ hu=>
   obtain ⟨b,rfl,_⟩:=DataW.trod_bool hu h
   exact ⟨_,.bool b,rfl,.cons (.bool b) .nil,by simp [Value.oneCell']⟩
  | int _ k hu=>
   obtain ⟨m,rfl,_,hw⟩:=DataW.trod_int hu h
   exact ⟨_,.int k m hw,rfl,.cons (.int k m) .nil,by simp [Value.oneCell']⟩
  | st _ fs Fs _ hu hn hF=>
   obtain ⟨xs,n',e1,_,hlen,hxl,hx⟩:=DataW.trod_struct hu h
   cases e1
   rw [hn] at hlen
   have key:∀ (l:List Field) (o:Nat) (Ts:List Ty) (m:Nat),Flds P l o Ts m→(∀ f ∈ l,∃ y,DataW.trod enc P w 0 spare true fuel f.type ((cs.drop f.offset).take (P.cellsOf f.type))=some y)→m≤cs.length→o≤m∧∃ r,Shapes Ts r∧r.length=m-o∧All2 (VR (Zyl w)) r ((cs.drop o).take (m-o))∧∀ v ∈ (cs.drop o).take (m-o),v.oneCell'=true:=by
    intro l
    induction l with
    | nil=>
     intro o Ts m hf _ hm
     cases hf
     refine ⟨Nat.le_refl _,[],.nil,by simp,?_,by simp⟩
     simp;exact .nil
    | cons f l ihl=>
     intro o Ts m hf hall hm
     cases hf with
     | cons _ _ _ T k Ts _ h1 h2 h3 h4=>
      obtain ⟨y,hy⟩:=hall f (by simp)
      obtain ⟨l1,a1,a2,a3,a4⟩:=ih h3 hy
      obtain ⟨hle,r,b1,b2,b3,b4⟩:=ihl (o+k) Ts m h4 (fun g hg=>hall g (by simp [hg])) hm
      rw [h1,h2] at a3 a4
      have hsplit:(cs.drop o).take (m-o)=(cs.drop o).take k++(cs.drop (o+k)).take (m-(o+k)):=by
       rw [show m-o=k+(m-(o+k)) by omega,List.take_add,List.drop_drop]
      refine ⟨by omega,l1++r,.cons T Ts l1 r a1 b1,by rw [List.length_append,a2,b2];omega,?_,?_⟩
      ·rw [hsplit];exact a3.append b3
      ·intro v hv
       rw [hsplit] at hv
       rcases List.mem_append.1 hv with h|h
       ·exact a4 v h
       ·exact b4 v h
   obtain ⟨_,r,b1,b2,b3,b4⟩:=key fs.toList 0 Fs n hF (fun f hf=>by
    obtain ⟨i,hi⟩:=List.getElem?_of_mem hf
    have hi':fs[i]?=some f:=by simpa using hi
    have:=hx i f hi'
    have hlt:i<xs.length:=by rw [hxl];exact (Array.getElem?_eq_some_iff.1 hi').1
    rw [List.getElem?_eq_getElem hlt] at this
    exact ⟨_,this⟩) (by omega)
   rw [List.drop_zero,Nat.sub_zero,List.take_of_length_le (by omega)] at b3 b4
   exact ⟨r,.st Fs r b1,by omega,b3,b4⟩
  | sl _ e E m hu hm hm0 hE=>
   rcases DataW.trod_slice hu h with ⟨rfl,_⟩|⟨a,len,cap,elems,rest,n',e1,rfl,_,_,hlc,hcm,hel,hall,_,_⟩
   ·exact ⟨_,.nil E,rfl,.cons .nils .nil,by simp [Value.oneCell']⟩
   ·cases e1
    rw [hm] at hall
    by_cases h0:len=0
    ·subst h0
     exact ⟨_,.es E,rfl,.cons (.es a cap) .nil,by simp [Value.oneCell']⟩
    ·have hget:∀ i,i<len→∃ ci,w.cells? 0 (a.add (i*m)) m=some ci∧∃ y,DataW.trod enc P w 0 spare true fuel e ci=some y:=by
      intro i hi
      have:=hall i hi
      rw [List.getElem?_eq_getElem (by omega)] at this
      obtain ⟨ci,h1,h2⟩:=Option.bind_eq_some_iff.1 this
      exact ⟨ci,h1,_,h2⟩
     obtain ⟨c0,hc0,_⟩:=hget 0 (by omega)
     rw [Nat.zero_mul] at hc0
     obtain ⟨_,hl0,hcell0⟩:=World.cells?_some hc0
     have hcl:=hcell0 0 hm0
     rw [List.getElem?_eq_getElem (by omega)] at hcl
     obtain ⟨hsp,c,hfz,_⟩:=Ydg hcl
     have haz:(a.add 0).add 0=a:=by simp [Addr.add]
     have key:∀ k,k≤len→∃ (ls:List (List AV)) (vs:List Value),ls.length=k∧(∀ l ∈ ls,Shape E l)∧(∀ l ∈ ls,l.length=m)∧All2 (VR (Zyl w)) ls.flatten vs∧vs.length=k*m∧(∀ u ∈ vs,u.oneCell'=true)∧∀ (j:Nat) u,vs[j]?=some u→c[a.off+j]?=some u:=by
      intro k
      induction k with
      | zero=>intro _;exact ⟨[],[],rfl,by simp,by simp,.nil,by simp,by simp,by simp⟩
      | succ k ihk=>
       intro hk
       obtain ⟨ls,vs,b1,b2,b3,b4,b5,b6,b7⟩:=ihk (by omega)
       obtain ⟨ci,hci,y,hy⟩:=hget k (by omega)
       obtain ⟨l1,a1,a2,a3,a4⟩:=ih hE hy
       obtain ⟨_,hlci,hcell⟩:=World.cells?_some hci
       refine ⟨ls++[l1],vs++ci,by simp [b1],?_,?_,by simpa using b4.append a3,by rw [List.length_append,b5,hlci,Nat.succ_mul],?_,?_⟩
       ·intro l hl
        rcases List.mem_append.1 hl with h|h
        ·exact b2 l h
        ·simp at h;subst h;exact a1
       ·intro l hl
        rcases List.mem_append.1 hl with h|h
        ·exact b3 l h
        ·simp at h;subst h;exact a2
       ·intro u hu'
        rcases List.mem_append.1 hu' with h|h
        ·exact b6 u h
        ·exact a4 u h
       ·intro j u hj
        by_cases hjl:j<vs.length
        ·rw [List.getElem?_append_left hjl] at hj;exact b7 j u hj
        ·rw [List.getElem?_append_right (by omega)] at hj
         have hjr:=(List.getElem?_eq_some_iff.1 hj).1
         have hq:=hcell (j-vs.length) (by omega)
         rw [hj] at hq
         obtain ⟨_,c',hz',hv'⟩:=Ydg hq
         have hblk:((a.add (k*m)).add (j-vs.length)).block=a.block:=by unfold Addr.add;split <;> split <;> rfl
         have hoff:((a.add (k*m)).add (j-vs.length)).off=a.off+j:=by unfold Addr.add;split <;> split <;> simp <;> omega
         have hb0:((a.add 0).add 0).block=a.block:=by rw [haz]
         rw [hblk] at hz'
         rw [hb0] at hfz
         rw [hfz] at hz';cases hz'
         rw [hoff] at hv';exact hv'
     obtain ⟨ls,vs,b1,b2,b3,b4,b5,b6,b7⟩:=key len (Nat.le_refl _)
     have hsp':a.spot=none:=by rw [haz] at hsp;exact hsp
     have hfz':(Zyl w).fz a.block=some c:=by rw [haz] at hfz;exact hfz
     refine ⟨[.fz len (some cap) ls.flatten],.fz E len m (some cap) ls b1 (by omega) (by omega) b2 b3 (by intro h;cases h;omega),rfl,.cons ?_ .nil,by simp [Value.oneCell']⟩
     have hA:a=⟨a.block,a.off,none⟩:=by cases a;simp at hsp';subst hsp';rfl
     rw [hA]
     refine .fz len (some cap) ls.flatten vs a.block a.off cap c hfz' b7 b6 b4 hlc (by
      cases cap with
      | zero=>omega
      | succ k=>exact ⟨rfl,Zwo hfz'⟩) ?_
     rw [hfs_iff]
     intro v hv
     obtain ⟨l,hl,hv⟩:=List.mem_flatten.1 hv
     exact hfs_iff.1 (b2 l hl).hfs v hv
end
end Go.AM
namespace Go.AM
def Tells (P:Program) (k:Nat) (t:AT) (s:St) (ds:List Nat) (t2:AT) (s2:St) (ds2:List Nat):Prop:=
 ∀ (γ:Gam) (w:World) (tm:Array Value) (D:List Deferred) (γ0:Gam) (s0:St) (w0:World),TR γ t tm→Sim P γ s w→DR γ ds D→Stp γ0 s0 w0 γ s w→s0.next=k→(∀ r,k≤r→γ0 r=none)→(∀ r,r<k→∃ L,γ0 r=some L)→
  ∃ γ2,TR γ2 t2 tm∧Sim P γ2 s2 w∧DR γ2 ds2 D∧Stp γ0 s0 w0 γ2 s2 w
section
variable {P:Program}{k:Nat}{rd:Option Nat}{ac:AC}{t:AT}{s:St}{ds:List Nat}{t2:AT}{s2:St}{ds2:List Nat}{Q:EQ}
theorem Tells.refl:Tells P k t s ds t s ds:=fun γ w tm D γ0 s0 w0 h1 h2 h3 h4 _ _ _=>⟨γ,h1,h2,h3,h4⟩
theorem Tells.trans {t3:AT}{s3:St}{ds3:List Nat}(h:Tells P k t s ds t2 s2 ds2) (h':Tells P k t2 s2 ds2 t3 s3 ds3):Tells P k t s ds t3 s3 ds3:=by
 intro γ w tm D γ0 s0 w0 h1 h2 h3 h4 h5 h6 h7
 obtain ⟨γ2,q1,q2,q3,q4⟩:=h γ w tm D γ0 s0 w0 h1 h2 h3 h4 h5 h6 h7
 exact h' γ2 w tm D γ0 s0 w0 q1 q2 q3 q4 h5 h6 h7
theorem Ren.tells {ρ:Nat→Nat}(h:Ren k ρ t s ds t2 s2 ds2):Tells P k t s ds t2 s2 ds2:=fun γ w tm D γ0 s0 w0 h1 h2 h3 h4 h5 h6 h7=>h.sim h1 h2 h3 h4 h5 h6 h7
theorem Abs.tells {tl:List (Nat×AV)}{os:List AObj}{rs:List Nat}(h:Abs t s tl os rs):Tells P 0 t s [] (ofL tl) (Zai St0 os) []:=h.ren.tells
theorem AbsK.tells {tl:List (Nat×AV)}{os:List AObj}{rs:List Nat}(h:AbsK k t s tl os rs):Tells P k t s [] (ofL tl) (Zai St0 os) []:=h.ren.tells
theorem W.tells (h:Tells P k t s ds t2 s2 ds2) (hw:W P k rd ac t2 s2 ds2 Q):W P k rd ac t s ds Q:=by
 intro N c γ w a b γ0 s0 w0 m h1 h2 h3 h4 h5 h6 h7 h8 h9 h10
 obtain ⟨γ2,hT,hS,hD,hP⟩:=h γ w a.tmps a.defers γ0 s0 w0 h3 h4 h6 h7 h8 h9 h10
 exact hw N c γ2 w a b γ0 s0 w0 m h1 h2 hT hS h5 hD hP h8 h9 h10
theorem Zbo {α:Type}(tl:α→List (Nat×AV)) (os:α→List AObj) (μ:α→Nat) (I:α→Prop) (x0:α) (h0:I x0) (ha:Tells P k t s [] (ofL (tl x0)) (Zai St0 (os x0)) [])
 (hr:∀ x,I x→W P k rd ac (ofL (tl x)) (Zai St0 (os x)) [] (Yjc (fun t s ds=>ds=[]∧∃ x',I x'∧μ x'<μ x∧Tells P k t s [] (ofL (tl x')) (Zai St0 (os x')) []) Q)):W P k rd (.loop ac) t s [] Q:=by
 refine W.loop (fun n t s ds=>ds=[]∧∃ x,n=μ x∧I x∧Tells P k t s [] (ofL (tl x)) (Zai St0 (os x)) []) (μ x0) ⟨rfl,x0,rfl,h0,ha⟩ ?_
 rintro n t s ds ⟨rfl,x,rfl,hi,ha⟩
 refine W.tells ha ((hr x hi).mono ?_)
 intro y t s ds hq
 cases y with
 | normal=>
  obtain ⟨rfl,x',hi',hm,ha⟩:=(show ds=[]∧∃ x',I x'∧μ x'<μ x∧Tells P k t s [] (ofL (tl x')) (Zai St0 (os x')) [] from hq)
  exact ⟨μ x',hm,rfl,x',rfl,hi',ha⟩
 | exit id=>exact hq
 | ret=>exact hq
end
mutual
def Zjn (z:Option Nat) (n:Nat) (cs:List AV):AV→AV
 | .ptr r o=>cond (Nat.beq r n) (.fp (cs.drop o)) (.ptr r o)
 | .sl r o m c=>cond (Nat.beq r n) (cond (z.isNone || Nat.beq o 0) (.fz m z (cs.drop o)) .any) (.sl r o m c)
 | .fn f a b=>.fn f (Zd9 z n cs a) (Zd9 z n cs b)
 | .iface t v=>.iface t (Zjn z n cs v)
 | .agg l=>.agg (Zd9 z n cs l)
 | .tup l=>.tup (Zd9 z n cs l)
 | .map r=>cond (Nat.beq r n) .any (.map r)
 | .yld r=>cond (Nat.beq r n) .any (.yld r)
 | v=>v
def Zd9 (z:Option Nat) (n:Nat) (cs:List AV):List AV→List AV
 | []=>[]
 | v::l=>Zjn z n cs v::Zd9 z n cs l
end
mutual
theorem Zmp {z:Option Nat}{n:Nat}{cs:List AV}:∀ (v:AV),hf v=true→Zjn z n cs v=v
 | .ptr ..,h=>by cases h
 | .sl ..,h=>by cases h
 | .map ..,h=>by cases h
 | .yld ..,h=>by cases h
 | .fn f a b,h=>by simp only [hf,Bool.and_eq_true] at h;simp only [Zjn];rw [Zew a h.1,Zew b h.2]
 | .iface t v,h=>by simp only [Zjn];rw [Zmp v h]
 | .agg l,h=>by simp only [Zjn];rw [Zew l h]
 | .tup l,h=>by simp only [Zjn];rw [Zew l h]
 | .bool _,_|.int _ _,_|.str _,_|.nilp,_|.nils,_|.es,_|.nilm,_|.nilf,_|.nili,_|.any,_|.fz _ _ _,_|.fp _,_=>rfl
theorem Zew {z:Option Nat}{n:Nat}{cs:List AV}:∀ (l:List AV),hfs l=true→Zd9 z n cs l=l
 | [],_=>rfl
 | v::l,h=>by simp only [hfs,Bool.and_eq_true] at h;simp only [Zd9];rw [Zmp v h.1,Zew l h.2]
end
theorem Zg6 {z:Option Nat}{n:Nat}{cs:List AV}:∀ (l m:List AV),Zd9 z n cs (l++m)=Zd9 z n cs l++Zd9 z n cs m
 | [],m=>rfl
 | v::l,m=>by simp only [List.cons_append,Zd9];rw [Zg6 l m]
theorem Zke {z:Option Nat}{n:Nat}{cs:List AV}:∀ (l:List AV),(Zd9 z n cs l).length=l.length
 | []=>rfl
 | v::l=>by simp only [Zd9,List.length_cons];rw [Zke l]
theorem Znz {z:Option Nat}{n:Nat}{cs:List AV}:∀ {l:List AV}{i:Nat}{v:AV},(Zd9 z n cs l)[i]?=some v→∃ u,l[i]?=some u∧v=Zjn z n cs u
 | [],i,v,h=>by simp [Zd9] at h
 | x::l,i,v,h=>by
  simp only [Zd9] at h
  cases i with
  | zero=>simp at h;exact ⟨x,by simp,h.symm⟩
  | succ i=>simpa using Znz (l:=l) (by simpa using h)
def frzEZ (z:Option Nat) (n:Nat) (cs:List AV):List (AV×AV×Nat)→List (AV×AV×Nat)
 | []=>[]
 | (a,b,c)::l=>(Zjn z n cs a,Zjn z n cs b,c)::frzEZ z n cs l
def Zuw (z:Option Nat) (n:Nat) (cs:List AV):AObj→AObj
 | .row e l=>.row e (Zd9 z n cs l)
 | .map es c=>.map (frzEZ z n cs es) c
 | .iter m b se l=>cond (Nat.beq m n) .dead (.iter m b se l)
 | o=>o
def Zgp (z:Option Nat) (n:Nat) (cs:List AV):List AObj→List AObj
 | []=>[]
 | o::l=>Zuw z n cs o::Zgp z n cs l
theorem Zkf {z:Option Nat}{n:Nat}{cs:List AV}:∀ (l:List AObj),(Zgp z n cs l).length=l.length
 | []=>rfl
 | v::l=>by simp only [Zgp,List.length_cons];rw [Zkf l]
theorem Zn0 {z:Option Nat}{n:Nat}{cs:List AV}:∀ {l:List AObj}{i:Nat}{v:AObj},(Zgp z n cs l)[i]?=some v→∃ u,l[i]?=some u∧v=Zuw z n cs u
 | [],i,v,h=>by simp [Zgp] at h
 | x::l,i,v,h=>by
  simp only [Zgp] at h
  cases i with
  | zero=>simp at h;exact ⟨x,by simp,h.symm⟩
  | succ i=>simpa using Zn0 (l:=l) (by simpa using h)
def Zuv (z:Option Nat) (n:Nat) (cs:List AV):List (Nat×AV)→List (Nat×AV)
 | []=>[]
 | p::l=>(p.1,Zjn z n cs p.2)::Zuv z n cs l
theorem Zhb {z:Option Nat}{n:Nat}{cs:List AV}(o:AObj) (h:alive (Zuw z n cs o)=true):alive o=true:=by
 cases o <;> first|rfl|exact h
section
variable {P:Program}{γ γ2:Gam}{z:Option Nat}{n:Nat}{cs:List AV}
mutual
theorem Zlm (hzz:∀ k,z=some k→k=0) (hz:∀ b c,γ.fz b=some c→γ2.fz b=some c) (hl:∀ r,r≠n→∀ L,γ r=some L→γ2 r=some L)
 (hc:∀ L,γ n=some L→L.o=0∧∃ c:FzC,γ2.fz L.b=some c∧c.old=z.isNone∧∃ vs:List Value,(∀ (j:Nat) (u:Value),vs[j]?=some u→c[j]?=some u)∧(∀ u ∈ vs,u.oneCell'=true)∧All2 (VR γ2) cs vs) (hf:hfs cs=true)
 (hm:∀ L v,γ n=some L→v=Value.map (some L.b)∨v=Value.func (.yield L.b) #[] #[]→v.oneCell'=true):∀ (v:AV) {v':Value},VR γ v v'→VR γ2 (Zjn z n cs v) v'
 | .bool b,_,h=>by cases h;exact .bool _
 | .int k n,_,h=>by cases h;exact .int _ _
 | .str l,_,h=>by cases h;rename_i s e;exact .str _ s e
 | .ptr r o,_,h=>by
  cases h with
  | ptr _ _ L e=>
   show VR γ2 (cond (Nat.beq r n) (.fp (cs.drop o)) (.ptr r o)) _
   cases hb:Nat.beq r n with
   | false=>exact .ptr r o L (hl r (Nat.ne_of_beq_eq_false hb) L e)
   | true=>
    have:=Nat.eq_of_beq_eq_true hb;subst this
    obtain ⟨h0,c,h1,hold,vs,h2,h3,h4⟩:=hc L e
    rw [h0,Nat.zero_add]
    exact .fp _ (vs.drop o) L.b o c h1 (fun j u hu=>h2 (o+j) u (by rwa [List.getElem?_drop] at hu)) (fun u hu=>h3 u (List.mem_of_mem_drop hu)) (h4.drop o) (Zmn hf o)
 | .nilp,_,h=>by cases h;exact .nilp
 | .sl r o m c,_,h=>by
  show VR γ2 (cond (Nat.beq r n) (cond (z.isNone || Nat.beq o 0) (.fz m z (cs.drop o)) .any) (.sl r o m c)) _
  cases hb:Nat.beq r n with
  | false=>
   have hne:=Nat.ne_of_beq_eq_false hb
   cases h with
   | sl _ _ _ c L e a=>exact .sl r o m c _ (hl r hne _ e) a
   | slu _ _ _ c L e a b d=>exact .slu r o m c _ (hl r hne _ e) a b d
  | true=>
   have:=Nat.eq_of_beq_eq_true hb;subst this
   have key:∀ (L:Loc) (cc:Nat),γ r=some L→m≤cc→VR γ2 (cond (z.isNone || Nat.beq o 0) (.fz m z (cs.drop o)) .any) (.slice (some ⟨L.b,L.o+o,none⟩) m cc):=by
    intro L cc e hnc
    obtain ⟨h0,cl,h1,hold,vs,h2,h3,h4⟩:=hc L e
    rw [h0,Nat.zero_add]
    cases hzo:(z.isNone || Nat.beq o 0) with
    | false=>exact .any _ rfl
    | true=>
    show VR γ2 (.fz m z (cs.drop o)) _
    exact .fz m z _ (vs.drop o) L.b o cc cl h1 (fun j u hu=>h2 (o+j) u (by rwa [List.getElem?_drop] at hu)) (fun u hu=>h3 u (List.mem_of_mem_drop hu)) (h4.drop o) hnc (by
     rcases z with _|_|k
     ·exact hold
     ·exact ⟨hold,Nat.eq_of_beq_eq_true hzo⟩
     ·exact absurd (hzz _ rfl) (Nat.succ_ne_zero k)) (Zmn hf o)
   cases h with
   | sl _ _ _ c L e a=>exact key L c e a
   | slu _ _ _ c L e a b d=>exact key L c e a
 | .nils,_,h=>by cases h;exact .nils
 | .es,_,h=>by cases h;exact .es _ _
 | .map r,_,h=>by
  cases h with
  | map _ L e=>
   show VR γ2 (cond (Nat.beq r n) .any (.map r)) _
   cases hb:Nat.beq r n with
   | false=>exact .map r L (hl r (Nat.ne_of_beq_eq_false hb) L e)
   | true=>
    have:=Nat.eq_of_beq_eq_true hb;subst this
    exact .any _ (hm L _ e (.inl rfl))
 | .nilm,_,h=>by cases h;exact .nilm
 | .fn f xs ys,_,h=>by
  cases h with
  | fn _ _ _ as bs a b=>exact .fn f _ _ as bs (Zku hzz hz hl hc hf hm xs a) (Zku hzz hz hl hc hf hm ys b)
 | .yld l,_,h=>by
  cases h with
  | yld _ L e=>
   show VR γ2 (cond (Nat.beq l n) .any (.yld l)) _
   cases hb:Nat.beq l n with
   | false=>exact .yld l L (hl l (Nat.ne_of_beq_eq_false hb) L e)
   | true=>
    have:=Nat.eq_of_beq_eq_true hb;subst this
    exact .any _ (hm L _ e (.inr rfl))
 | .nilf,_,h=>by cases h;exact .nilf
 | .iface t v,_,h=>by
  cases h with
  | iface _ _ v' e=>exact .iface t _ v' (Zlm hzz hz hl hc hf hm v e)
 | .nili,_,h=>by cases h;exact .nili
 | .agg l,_,h=>by
  cases h with
  | agg _ a e o=>exact .agg _ a (Zku hzz hz hl hc hf hm l e) o
 | .tup l,_,h=>by
  cases h with
  | tup _ a e=>exact .tup _ a (Zku hzz hz hl hc hf hm l e)
 | .any,_,h=>by cases h;rename_i e;exact .any _ e
 | .fz m c l,_,h=>Zq7 hz (.fz m c l) rfl h
 | .fp l,_,h=>Zq7 hz (.fp l) rfl h
theorem Zku (hzz:∀ k,z=some k→k=0) (hz:∀ b c,γ.fz b=some c→γ2.fz b=some c) (hl:∀ r,r≠n→∀ L,γ r=some L→γ2 r=some L)
 (hc:∀ L,γ n=some L→L.o=0∧∃ c:FzC,γ2.fz L.b=some c∧c.old=z.isNone∧∃ vs:List Value,(∀ (j:Nat) (u:Value),vs[j]?=some u→c[j]?=some u)∧(∀ u ∈ vs,u.oneCell'=true)∧All2 (VR γ2) cs vs) (hf:hfs cs=true)
 (hm:∀ L v,γ n=some L→v=Value.map (some L.b)∨v=Value.func (.yield L.b) #[] #[]→v.oneCell'=true):∀ (l:List AV) {m:List Value},All2 (VR γ) l m→All2 (VR γ2) (Zd9 z n cs l) m
 | [],_,h=>by cases h;exact .nil
 | v::l,_,h=>by
  cases h with
  | cons a b=>exact .cons (Zlm hzz hz hl hc hf hm v a) (Zku hzz hz hl hc hf hm l b)
end
theorem Ybd {k:Nat}(hzz:∀ k,z=some k→k=0) (hk:k≤n) (hz:∀ b c,γ.fz b=some c→γ2.fz b=some c) (hl:∀ r,r≠n→∀ L,γ r=some L→γ2 r=some L)
 (hc:∀ L,γ n=some L→L.o=0∧∃ c:FzC,γ2.fz L.b=some c∧c.old=z.isNone∧∃ vs:List Value,(∀ (j:Nat) (u:Value),vs[j]?=some u→c[j]?=some u)∧(∀ u ∈ vs,u.oneCell'=true)∧All2 (VR γ2) cs vs) (hf:hfs cs=true)
 (hm:∀ L v,γ n=some L→v=Value.map (some L.b)∨v=Value.func (.yield L.b) #[] #[]→v.oneCell'=true) {L:Loc}{o:AObj}{hp:Array Obj}(hb:bdO k (n+1) o=true) (h:ObjR P γ L o hp):ObjR P γ2 L (Zuw z n cs o) hp:=by
 cases o with
 | row e l=>
  obtain ⟨c,h1,h2,h3,h4,h5,h6,h7⟩:=h
  refine ⟨c,h1,h2,h3,h4,by rw [Zke];exact h5,fun i v hv=>?_,h7⟩
  obtain ⟨u,hu,rfl⟩:=Znz hv
  obtain ⟨v',a,b,d⟩:=h6 i u hu
  exact ⟨v',a,Zlm hzz hz hl hc hf hm u b,d⟩
 | dead=>trivial
 | map es clock=>
  obtain ⟨ms,h1,h2⟩:=h
  refine ⟨ms,h1,?_⟩
  have:∀ (es:List (AV×AV×Nat)) (ms:List MapEntry),All2 (fun (x:AV×AV×Nat) (m:MapEntry)=>VR γ x.1 m.key∧VR γ x.2.1 m.val∧m.born=x.2.2) es ms→All2 (fun (x:AV×AV×Nat) (m:MapEntry)=>VR γ2 x.1 m.key∧VR γ2 x.2.1 m.val∧m.born=x.2.2) (frzEZ z n cs es) ms:=by
   intro es
   induction es with
   | nil=>intro ms h;cases h;exact .nil
   | cons x es ih=>
    intro ms h
    obtain ⟨a,b,c⟩:=x
    cases h with
    | cons h1 h2=>exact .cons ⟨Zlm hzz hz hl hc hf hm a h1.1,Zlm hzz hz hl hc hf hm b h1.2.1,h1.2.2⟩ (ih _ h2)
  exact this es _ h2
 | loop st pend fn tm ps asg body d=>
  obtain ⟨lp,h1,h2,h3,h4,h5,h6,D,h8,h10⟩:=h
  simp only [bdO,Bool.and_eq_true] at hb
  have hd:d<k:=by simpa using hb.2
  have hlk:∀ r,r<k→∀ L,γ r=some L→γ2 r=some L:=fun r hr L e=>hl r (by omega) L e
  exact ⟨lp,h1,h2,h3,fun i v hv=>(let ⟨v',a,b⟩:=h4 i v hv;⟨v',a,Zl3 (ρ:=fun r=>r) hz hlk v (Zu7 hb.1 hv) (by rw [Zqn (n:=k) (fun _ _=>rfl) v (Zu7 hb.1 hv)];exact b)⟩),h5,h6,D,hl d (by omega) D h8,h10⟩
 | defd=>exact h
 | iter m b se l=>
  obtain ⟨h0,M,h1,h2⟩:=h
  show ObjR P γ2 L (cond (Nat.beq m n) .dead (.iter m b se l)) hp
  cases hb:Nat.beq m n with
  | true=>trivial
  | false=>exact ⟨h0,M,hl m (Nat.ne_of_beq_eq_false hb) M h1,h2⟩
end
theorem Ziw (os:List AObj) {r:Nat}{o:AObj}(h:(Zai St0 os).get r=some o):os[r]?=some o:=by
 have:=Zid os St0 (Nat.zero_le r) (fun _ _=>rfl) h
 have hz:r-St0.next=r:=Nat.sub_zero r
 rwa [hz] at this
theorem Zva {α:Type}{x:α}:∀ {n k:Nat},k<2^n-1→(T.sing x n k).get k=some x:=by
 intro n
 induction n with
 | zero=>intro k h;simp at h
 | succ n ih=>
  intro k h
  cases k with
  | zero=>rfl
  | succ k=>
   have hk:Nat.div k 2<2^n-1:=by
    show k / 2<2^n-1
    rw [Nat.pow_succ] at h;omega
   change T.get (Bool.rec (T.nd none .lf (T.sing x n (Nat.div k 2))) (T.nd none (T.sing x n (Nat.div k 2)) .lf) (Nat.beq (Nat.mod k 2) 0)) (k+1)=some x
   cases hb:Nat.beq (Nat.mod k 2) 0
   ·change (Bool.rec (T.get (T.sing x n (Nat.div k 2)) (Nat.div k 2)) (T.get T.lf (Nat.div k 2)) (Nat.beq (Nat.mod k 2) 0):Option α)=some x
    rw [hb];exact ih hk
   ·change (Bool.rec (T.get T.lf (Nat.div k 2)) (T.get (T.sing x n (Nat.div k 2)) (Nat.div k 2)) (Nat.beq (Nat.mod k 2) 0):Option α)=some x
    rw [hb];exact ih hk
theorem Zpy {α:Type}{x:α}:∀ {t:T α}{k:Nat},k<2^64-1→(t.set x k).get k=some x:=by
 intro t
 induction t with
 | lf=>intro k h;exact Zva h
 | nd v l r il ir=>
  intro k h
  cases k with
  | zero=>rfl
  | succ k=>
   have hk:Nat.div k 2<2^64-1:=by
    show k / 2<2^64-1
    omega
   change T.get (Bool.rec (T.nd v l (r.set x (Nat.div k 2))) (T.nd v (l.set x (Nat.div k 2)) r) (Nat.beq (Nat.mod k 2) 0)) (k+1)=some x
   cases hb:Nat.beq (Nat.mod k 2) 0
   ·change (Bool.rec (T.get (r.set x (Nat.div k 2)) (Nat.div k 2)) (T.get l (Nat.div k 2)) (Nat.beq (Nat.mod k 2) 0):Option α)=some x
    rw [hb];exact ir hk
   ·change (Bool.rec (T.get r (Nat.div k 2)) (T.get (l.set x (Nat.div k 2)) (Nat.div k 2)) (Nat.beq (Nat.mod k 2) 0):Option α)=some x
    rw [hb];exact il hk
theorem Zkv (s:St) (o:AObj) (h:s.next<2^64-1):(s.alloc o).get s.next=some o:=by
 cases s;exact Zpy h
theorem Zs9:∀ (l:List AObj) (s:St) {i:Nat}{o:AObj},s.next+l.length<2^64→l[i]?=some o→(Zai s l).get (s.next+i)=some o
 | [],s,i,o,_,h=>by simp at h
 | x::l,s,i,o,hn,h=>by
  rw [List.length_cons] at hn
  rw [Zai]
  cases i with
  | zero=>
   simp at h;subst h
   rw [Zic l _ (by rw [Zar];omega)]
   exact Zkv s x (by omega)
  | succ i=>
   have:=Zs9 l (s.alloc x) (i:=i) (o:=o) (by rw [Zar];omega) (by simpa using h)
   rw [Zar] at this
   rw [show s.next+(i+1)=s.next+1+i by omega];exact this
theorem Zix (l:List AObj) {i:Nat}{o:AObj}(hn:l.length<2^64) (h:l[i]?=some o):(Zai St0 l).get i=some o:=by
 have:=Zs9 l St0 (i:=i) (o:=o) (by show 0+_<_;omega) h
 rwa [show St0.next+i=i from Nat.zero_add i] at this
def Zmy:List (Nat×AV)→Bool
 | []=>true
 | p::l=>Nat.blt p.1 18446744073709551615 && Zmy l
theorem Zr1 {z:Option Nat}{n:Nat}{cs:List AV}:∀ {l:List (Nat×AV)}{i:Nat}{v:AV},Zmy l=true→(ofL (Zuv z n cs l)).get i=some v→∃ u,(ofL l).get i=some u∧v=Zjn z n cs u
 | [],i,v,_,h=>by cases h
 | p::l,i,v,hb,h=>by
  simp only [Zmy,Bool.and_eq_true] at hb
  rcases Zds h with ⟨rfl,rfl⟩|⟨hne,h⟩
  ·exact ⟨p.2,Zpy (by have:=(Nat.blt_eq (x:=p.1) (y:=18446744073709551615)) ▸ hb.1;omega),rfl⟩
  ·obtain ⟨u,h1,h2⟩:=Zr1 hb.2 h
   exact ⟨u,Zbh hne h1,h2⟩
theorem Zpp {P:Program}{z:Option Nat}(hzz:∀ k,z=some k→k=0) {k e:Nat}{tl:List (Nat×AV)}{os:List AObj}{cs:List AV}{ds:List Nat}(hds:∀ d ∈ ds,d<os.length) (hf:hfs cs=true) (hk:k≤os.length) (hb:∀ o ∈ os,bdO k (os.length+1) o=true)
 (hal:∀ o ∈ os.take k,alive o=true) (hn:os.length+1<2^64) (ht:Zmy tl=true):
 Tells P k (ofL tl) (Zai St0 (os++[.row e cs])) ds (ofL (Zuv z os.length cs tl)) (Zai St0 (Zgp z os.length cs os)) ds:=by
 intro γ w tm D γ0 s0 w0 hT hS hD hP h8 h9 h10
 have hlen:(os++[AObj.row e cs]).length<2^64:=by simpa using hn
 have gn:(Zai St0 (os++[.row e cs])).get os.length=some (.row e cs):=Zix _ hlen (by simp)
 have gr:∀ r o,os[r]?=some o→(Zai St0 (os++[.row e cs])).get r=some o:=fun r o h=>Zix _ hlen (by rw [List.getElem?_append_left (List.getElem?_eq_some_iff.1 h).1];exact h)
 have nx1:(Zai St0 (os++[.row e cs])).next=os.length+1:=by rw [Zbq];simp
 have nx2:(Zai St0 (Zgp z os.length cs os)).next=os.length:=by rw [Zbq,Zkf]
 let fz2:Nat→Option FzC:=fun b=>match γ os.length with
  | some L=>if b=L.b then (match w.heap[b]? with|some (.cells c _ _)=>some ⟨c,z.isNone⟩|_=>none) else γ.fz b
  | none=>γ.fz b
 let γ2:Gam:=⟨fun r=>if r<os.length then γ r else none,fz2⟩
 have g2:∀ r,r<os.length→γ2 r=γ r:=fun r hr=>if_pos hr
 have g2s:∀ r L,γ2 r=some L→r<os.length∧γ r=some L:=fun r L e=>by
  by_cases hr:r<os.length
  ·rw [g2 r hr] at e;exact ⟨hr,e⟩
  ·have:γ2 r=none:=if_neg hr
   rw [this] at e;cases e
 have rowN:∀ L,γ os.length=some L→γ.fz L.b=none:=fun L hL=>hS.fzr _ _ L gn rfl hL
 have fz2e:∀ L,γ os.length=some L→∀ b,fz2 b=if b=L.b then (match w.heap[b]? with|some (.cells c _ _)=>some ⟨c,z.isNone⟩|_=>none) else γ.fz b:=by
  intro L hL b
  show (match γ os.length with
  | some L=>if b=L.b then (match w.heap[b]? with|some (.cells c _ _)=>some (⟨c,z.isNone⟩:FzC)|_=>none) else γ.fz b
  | none=>γ.fz b)=_
  rw [hL]
 have fz2n:γ os.length=none→∀ b,fz2 b=γ.fz b:=by
  intro hL b
  show (match γ os.length with
  | some L=>if b=L.b then (match w.heap[b]? with|some (.cells c _ _)=>some (⟨c,z.isNone⟩:FzC)|_=>none) else γ.fz b
  | none=>γ.fz b)=_
  rw [hL]
 have hz:∀ b c,γ.fz b=some c→γ2.fz b=some c:=by
  intro b c hc
  show fz2 b=some c
  cases hL:γ os.length with
  | none=>rw [fz2n hL];exact hc
  | some L=>
   rw [fz2e L hL]
   by_cases hbl:b=L.b
   ·subst hbl;rw [rowN L hL] at hc;cases hc
   ·rw [if_neg hbl];exact hc
 have hfz2:∀ b c,fz2 b=some c→γ.fz b=some c∨(∃ L,γ os.length=some L∧b=L.b∧∃ e fr,w.heap[b]?=some (.cells c.cs e fr)∧FzOk P c e fr):=by
  intro b c hc
  cases hL:γ os.length with
  | none=>rw [fz2n hL] at hc;exact .inl hc
  | some L=>
   rw [fz2e L hL] at hc
   by_cases hbl:b=L.b
   ·rw [if_pos hbl] at hc
    split at hc
    ·rename_i c' t fr hh
     cases hc
     subst hbl
     obtain ⟨cc,e1,e2,e3,e4,e5,e6,e7⟩:=hS.obj _ _ L gn hL
     rw [hh] at e1
     cases e1
     exact .inr ⟨L,rfl,rfl,_,_,hh,fun _=>⟨rfl,⟨_,e4⟩,e7⟩⟩
    ·cases hc
   ·rw [if_neg hbl] at hc;exact .inl hc
 have hbn:∀ L,γ os.length=some L→w0.heap.size≤L.b:=by
  intro L hL
  have h0:γ0 os.length=none:=h9 _ hk
  rcases (hP.new _ L hL h0).2 with h|⟨r0,L0,e0,e1⟩
  ·exact h
  ·exfalso
   have hr0:r0<k:=Nat.lt_of_not_le fun hle=>by rw [h9 r0 hle] at e0;cases e0
   have hr1:r0<os.length:=by omega
   have hget:=gr r0 _ (List.getElem?_eq_getElem hr1)
   have ha:=hal os[r0] (List.mem_iff_getElem?.2 ⟨r0,by rw [List.getElem?_take,if_pos hr0];exact List.getElem?_eq_getElem hr1⟩)
   exact hS.inj r0 os.length _ _ L0 L hget gn ha rfl (hP.le.loc _ _ e0) hL (by omega) e1
 -- the frozen row
 have hc:∀ L,γ os.length=some L→L.o=0∧∃ c:FzC,γ2.fz L.b=some c∧c.old=z.isNone∧∃ vs:List Value,(∀ (j:Nat) (u:Value),vs[j]?=some u→c[j]?=some u)∧(∀ u ∈ vs,u.oneCell'=true)∧All2 (VR γ2) cs vs:=by
  intro L hL
  obtain ⟨c,e1,e2,e3,e4,e5,e6,e7⟩:=hS.obj _ _ L gn hL
  refine ⟨e2,⟨c,z.isNone⟩,?_,rfl,c.toList.take cs.length,?_,?_,?_⟩
  ·show fz2 L.b=some ⟨c,z.isNone⟩
   rw [fz2e L hL,if_pos rfl,e1]
  ·intro j u hj
   rw [List.getElem?_take] at hj
   split at hj
   ·exact (by simpa using hj:c[j]?=some u)
   ·cases hj
  ·intro u hu;exact e7 u (List.mem_of_mem_take hu)
  ·refine Zi9 hz cs hf (Zhj (by simp;omega) ?_)
   intro i v v' hv hv'
   obtain ⟨v1,h1,h2,_⟩:=e6 i v hv
   rw [List.getElem?_take,if_pos (List.getElem?_eq_some_iff.1 hv).1] at hv'
   have:c[i]?=some v':=by simpa using hv'
   rw [h1] at this;cases this;exact h2
 have hl:∀ r,r≠os.length→∀ L,γ r=some L→γ2 r=some L:=by
  intro r hr L e
  have:r<os.length:=by
   refine Nat.lt_of_not_le fun hle=>?_
   have:=hS.nx r (by rw [nx1];omega)
   rw [this] at e;cases e
  rw [g2 r this];exact e
 have hm:∀ L v,γ os.length=some L→v=Value.map (some L.b)∨v=Value.func (.yield L.b) #[] #[]→v.oneCell'=true:=by
  rintro L v _ (rfl|rfl) <;> rfl
 have bk:∀ r o,(Zai St0 (Zgp z os.length cs os)).get r=some o→r<os.length∧∃ o',(Zai St0 (os++[.row e cs])).get r=some o'∧bdO k (os.length+1) o'=true∧o=Zuw z os.length cs o':=by
  intro r o ho
  obtain ⟨u,h1,h2⟩:=Zn0 (Ziw _ ho)
  exact ⟨(List.getElem?_eq_some_iff.1 h1).1,u,gr r u h1,hb u (List.mem_of_getElem? h1),h2⟩
 have hlt0:∀ r L,γ0 r=some L→r<k:=fun r L e=>Nat.lt_of_not_le fun hk'=>by rw [h9 r hk'] at e;cases e
 refine ⟨γ2,?_,⟨?_,?_,?_,?_,?_,?_,?_⟩,?_,⟨⟨?_,?_⟩,?_,?_,hP.size,hP.os,hP.tape,hP.output,hP.blk,?_,?_⟩⟩
 ·intro i v hv
  obtain ⟨u,h1,rfl⟩:=Zr1 ht hv
  obtain ⟨v',e1,e2⟩:=hT i u h1
  exact ⟨v',e1,Zlm hzz hz hl hc hf hm u e2⟩
 ·intro r o L ho hL
  obtain ⟨hr,o',h1,h2,rfl⟩:=bk r o ho
  exact Ybd hzz hk hz hl hc hf hm h2 (hS.obj r o' L h1 (g2s r L hL).2)
 ·intro r r' o o' L L' ho ho' ha ha' hL hL' hne
  obtain ⟨hr,p,h1,h2,rfl⟩:=bk r o ho
  obtain ⟨hr',p',h1',h2',rfl⟩:=bk r' o' ho'
  exact hS.inj r r' p p' L L' h1 h1' (Zhb _ ha) (Zhb _ ha') (g2s r L hL).2 (g2s r' L' hL').2 hne
 ·intro r L hL;exact hS.lt r L (g2s r L hL).2
 ·intro r hr;rw [nx2] at hr;exact if_neg (by omega)
 ·intro r o ho;rw [nx2];exact (bk r o ho).1
 ·intro b c hbc
  rcases hfz2 b c hbc with h|⟨_,_,_,h⟩
  ·exact hS.fzc b c h
  ·exact h
 ·intro r o L ho ha hL
  obtain ⟨hr,p,h1,h2,rfl⟩:=bk r o ho
  have hL':=(g2s r L hL).2
  show fz2 L.b=none
  cases hq:fz2 L.b with
  | none=>rfl
  | some c=>
   exfalso
   rcases hfz2 _ c hq with h|⟨Ln,hLn,hbe,_⟩
   ·rw [hS.fzr r p L h1 (Zhb _ ha) hL'] at h;cases h
   ·exact hS.inj r os.length p _ L Ln h1 gn (Zhb _ ha) rfl hL' hLn (by omega) hbe
 ·have hD2:∀ (l:List Nat) (D':List Deferred),(∀ d ∈ l,d<os.length)→DR γ l D'→DR γ2 l D':=by
   intro l
   induction l with
   | nil=>intro D' _ h;cases h;exact .nil
   | cons d l ih=>
    intro D' hd h
    cases h with
    | cons h1 h2=>
     obtain ⟨L,e1,e2⟩:=h1
     exact .cons ⟨L,(g2 d (hd d (by simp))).trans e1,e2⟩ (ih _ (fun x hx=>hd x (by simp [hx])) h2)
  exact hD2 ds D hds hD
 ·intro r L e0
  rw [g2 r (by have:=hlt0 r L e0;omega)];exact hP.le.loc r L e0
 ·intro b c e0;exact hz b c (hP.le.fz b c e0)
 ·intro r L e1 e0
  have:=hP.new r L (g2s r L e1).2 e0
  exact this
 ·rw [h8,nx2];exact hk
 ·intro r e0 hr
  obtain ⟨L,hL⟩:=h10 r (by omega)
  rw [hL] at e0;cases e0
 ·intro b c e1 e0
  rcases hfz2 b c e1 with h|⟨L,hL,hbe,_⟩
  ·exact hP.fzn b c h e0
  ·rw [hbe];exact hbn L hL
def Zks:Nat→List AObj→Bool
 | 0,_=>true
 | _+1,[]=>true
 | k+1,o::l=>alive o && Zks k l
theorem Zoi:∀ {k:Nat}{l:List AObj},Zks k l=true→∀ o ∈ l.take k,alive o=true
 | 0,l,_,o,ho=>by simp at ho
 | k+1,[],_,o,ho=>by simp at ho
 | k+1,x::l,h,o,ho=>by
  simp only [Zks,Bool.and_eq_true] at h
  rcases List.mem_cons.1 (by simpa using ho) with rfl|ho
  ·exact h.1
  ·exact Zoi h.2 o ho
abbrev frzV:=Zjn none
abbrev frzVs:=Zd9 none
abbrev frzO:=Zuw none
abbrev frzOs:=Zgp none
abbrev frzT:=Zuv none
abbrev frnV:=Zjn (some 0)
abbrev frnVs:=Zd9 (some 0)
abbrev frnO:=Zuw (some 0)
abbrev frnOs:=Zgp (some 0)
abbrev frnT:=Zuv (some 0)
theorem Zjk {n:Nat}{cs:List AV}(v:AV) (h:hf v=true):frzV n cs v=v:=Zmp v h
theorem Zns {n:Nat}{cs:List AV}(l:List AV) (h:hfs l=true):frzVs n cs l=l:=Zew l h
theorem Zl2 {n:Nat}{cs:List AV}(l m:List AV):frzVs n cs (l++m)=frzVs n cs l++frzVs n cs m:=Zg6 l m
theorem Zqq {n:Nat}{cs:List AV}(v:AV) (h:hf v=true):frnV n cs v=v:=Zmp v h
theorem Zgo {n:Nat}{cs:List AV}(l:List AV) (h:hfs l=true):frnVs n cs l=l:=Zew l h
theorem Zgb {n:Nat}{cs:List AV}(l m:List AV):frnVs n cs (l++m)=frnVs n cs l++frnVs n cs m:=Zg6 l m
theorem AbsK.frzZ {P:Program}{z:Option Nat}(hzz:∀ k,z=some k→k=0) {k e n:Nat}{t:AT}{s:St}{tl tl2:List (Nat×AV)}{os os2:List AObj}{rs:List Nat}{cs:List AV}(h:AbsK k t s tl (os++[.row e cs]) rs) (hn:os.length=n) (hf:hfs cs=true) (hk:Nat.ble k n=true)
 (hal:Zks k os=true) (hl:Nat.blt n 1000000=true) (ht:Zmy tl=true) (e1:Zuv z n cs tl=tl2) (e2:Zgp z n cs os=os2):
 Tells P k t s [] (ofL tl2) (Zai St0 os2) []:=by
 subst hn e1 e2
 refine h.tells.trans (Zpp hzz (fun d hd=>by simp at hd) hf (Nat.le_of_ble_eq_true hk) ?_ (Zoi hal) (by have:=(Nat.blt_eq (x:=os.length) (y:=1000000)) ▸ hl;omega) ht)
 intro o ho
 obtain ⟨i,hi⟩:=List.mem_iff_getElem?.1 ho
 obtain ⟨r,_,hb,_⟩:=h.row.get.2 i o (by rw [List.getElem?_append_left (List.getElem?_eq_some_iff.1 hi).1];exact hi)
 simpa using hb
theorem AbsK.frz {P:Program}{k e n:Nat}{t:AT}{s:St}{tl tl2:List (Nat×AV)}{os os2:List AObj}{rs:List Nat}{cs:List AV}(h:AbsK k t s tl (os++[.row e cs]) rs) (hn:os.length=n) (hf:hfs cs=true) (hk:Nat.ble k n=true)
 (hal:Zks k os=true) (hl:Nat.blt n 1000000=true) (ht:Zmy tl=true) (e1:frzT n cs tl=tl2) (e2:frzOs n cs os=os2):
 Tells P k t s [] (ofL tl2) (Zai St0 os2) []:=h.frzZ (fun k h=>by cases h) hn hf hk hal hl ht e1 e2
theorem AbsK.frn {P:Program}{k e n:Nat}{t:AT}{s:St}{tl tl2:List (Nat×AV)}{os os2:List AObj}{rs:List Nat}{cs:List AV}(h:AbsK k t s tl (os++[.row e cs]) rs) (hn:os.length=n) (hf:hfs cs=true) (hk:Nat.ble k n=true)
 (hal:Zks k os=true) (hl:Nat.blt n 1000000=true) (ht:Zmy tl=true) (e1:frnT n cs tl=tl2) (e2:frnOs n cs os=os2):
 Tells P k t s [] (ofL tl2) (Zai St0 os2) []:=h.frzZ (fun k h=>by cases h;rfl) hn hf hk hal hl ht e1 e2
structure AbsD (k:Nat) (t:AT) (s:St) (ds:List Nat) (tl:List (Nat×AV)) (os:List AObj) (rs:List Nat) (ds2:List Nat):Prop where
 a:AbsK k t s tl os rs
 d:ds=ds2.map (nm rs)
 l:∀ d ∈ ds2,d<os.length
theorem AbsD.tells {P:Program}{k:Nat}{t:AT}{s:St}{ds:List Nat}{tl:List (Nat×AV)}{os:List AObj}{rs ds2:List Nat}(h:AbsD k t s ds tl os rs ds2):Tells P k t s ds (ofL tl) (Zai St0 os) ds2:=by
 have hr:=h.a.ren
 exact Ren.tells ⟨hr.id,hr.le,hr.inj,hr.tmp,hr.obj,⟨h.d,fun d hd=>by rw [Zbq];exact h.l d hd⟩⟩
theorem AbsD.frzZ {P:Program}{z:Option Nat}(hzz:∀ k,z=some k→k=0) {k e n:Nat}{t:AT}{s:St}{ds:List Nat}{tl tl2:List (Nat×AV)}{os os2:List AObj}{rs ds2:List Nat}{cs:List AV}(h:AbsD k t s ds tl (os++[.row e cs]) rs ds2) (hn:os.length=n) (hd:∀ d ∈ ds2,d<n) (hf:hfs cs=true) (hk:Nat.ble k n=true)
 (hal:Zks k os=true) (hl:Nat.blt n 1000000=true) (ht:Zmy tl=true) (e1:Zuv z n cs tl=tl2) (e2:Zgp z n cs os=os2):
 Tells P k t s ds (ofL tl2) (Zai St0 os2) ds2:=by
 subst hn e1 e2
 refine h.tells.trans (Zpp hzz hd hf (Nat.le_of_ble_eq_true hk) ?_ (Zoi hal) (by have:=(Nat.blt_eq (x:=os.length) (y:=1000000)) ▸ hl;omega) ht)
 intro o ho
 obtain ⟨i,hi⟩:=List.mem_iff_getElem?.1 ho
 obtain ⟨r,_,hb,_⟩:=h.a.row.get.2 i o (by rw [List.getElem?_append_left (List.getElem?_eq_some_iff.1 hi).1];exact hi)
 simpa using hb
theorem AbsD.frz {P:Program}{k e n:Nat}{t:AT}{s:St}{ds:List Nat}{tl tl2:List (Nat×AV)}{os os2:List AObj}{rs ds2:List Nat}{cs:List AV}(h:AbsD k t s ds tl (os++[.row e cs]) rs ds2) (hn:os.length=n) (hd:∀ d ∈ ds2,d<n) (hf:hfs cs=true) (hk:Nat.ble k n=true)
 (hal:Zks k os=true) (hl:Nat.blt n 1000000=true) (ht:Zmy tl=true) (e1:frzT n cs tl=tl2) (e2:frzOs n cs os=os2):
 Tells P k t s ds (ofL tl2) (Zai St0 os2) ds2:=h.frzZ (fun k h=>by cases h) hn hd hf hk hal hl ht e1 e2
theorem AbsD.frn {P:Program}{k e n:Nat}{t:AT}{s:St}{ds:List Nat}{tl tl2:List (Nat×AV)}{os os2:List AObj}{rs ds2:List Nat}{cs:List AV}(h:AbsD k t s ds tl (os++[.row e cs]) rs ds2) (hn:os.length=n) (hd:∀ d ∈ ds2,d<n) (hf:hfs cs=true) (hk:Nat.ble k n=true)
 (hal:Zks k os=true) (hl:Nat.blt n 1000000=true) (ht:Zmy tl=true) (e1:frnT n cs tl=tl2) (e2:frnOs n cs os=os2):
 Tells P k t s ds (ofL tl2) (Zai St0 os2) ds2:=h.frzZ (fun k h=>by cases h;rfl) hn hd hf hk hal hl ht e1 e2
end Go.AM
namespace Go.AM
section
variable {t:AT}{s:St}{k:AV→St→Prop}{x y:AO}
theorem Zbb {el es m:Nat}{v c:AV}{cs:List AV}(hx:ev x t=.some .nils) (hy:ev y t=.some v) (hv:Zgl es v s=some (c::cs)) (hm':(c::cs).length=m*es) (he:0<es) (h1:m≤1000000) (hk:k (.sl s.next 0 m none) (s.alloc (.row el (c::cs)))):EPrim (.app el es x y) t s k:=by
 have hm:(c::cs).length / es=m:=by rw [hm'];exact Nat.mul_div_cancel m he
 refine EPrim.mk (fun e rec=>?_) hk
 show wth x t _=_;unfold wth;rw [hx]
 show wth y t _=_;unfold wth;rw [hy]
 show (Option.rec .fail _ (Zgl es v s):RV)=_
 rw [hv]
 show Ze9 el (Nat.div (Zd0 (c::cs)) es) (c::cs) s=_
 unfold Ze9
 rw [Zbu,show Nat.div (c::cs).length es=m from hm]
 show gd (Nat.ble m 1000000) _=_
 rw [Nat.ble_eq_true_of_le h1];rfl
theorem Zb6 {el es r n m:Nat}{v c:AV}{cs old:List AV}(hx:ev x t=.some (.sl r 0 n none)) (hy:ev y t=.some v) (hv:Zgl es v s=some (c::cs)) (hr:s.get r=some (.row el old)) (ho:old.length=n*es) (hm':(c::cs).length=m*es) (he:0<es) (h1:n+m≤1000000)
 (hk:k (.sl s.next 0 (n+m) none) ((s.put r .dead).alloc (.row el (old++(c::cs))))):EPrim (.app el es x y) t s k:=by
 have hm:(c::cs).length / es=m:=by rw [hm'];exact Nat.mul_div_cancel m he
 refine EPrim.mk (fun e rec=>?_) hk
 show wth x t _=_;unfold wth;rw [hx]
 show wth y t _=_;unfold wth;rw [hy]
 show (Option.rec .fail _ (Zgl es v s):RV)=_
 rw [hv]
 show AM.app1 el es (c::cs) (Nat.div (Zd0 (c::cs)) es) r 0 n none s=_
 unfold AM.app1
 rw [Zbu,show Nat.div (c::cs).length es=m from hm,Zqo hr (by show 0+n*es≤_;omega)]
 have e1:List.take (Nat.mul n es) (List.drop 0 old)=old:=by rw [List.drop_zero];exact List.take_of_length_le (by show _≤n*es;omega)
 rw [e1]
 show gd (Nat.beq 0 0 && Zsq r el s) (Ze9 el (n+m) (Zgx old (c::cs)) (s.put r .dead))=_
 have e2:Zsq r el s=true:=by unfold Zsq;rw [Zfh hr];show Nat.beq el el=true;exact Nat.beq_refl el
 rw [e2]
 unfold Ze9
 show gd (Nat.ble (n+m) 1000000) _=_
 rw [Nat.ble_eq_true_of_le h1,Zda]
 show RV.ok (AV.sl (s.put r .dead).next 0 (n+m) none) _=_
 rw [Zbc]
theorem Yed {el es n c:Nat}{z:List AV}{q q':IntKind}(hx:ev x t=.some (.int q (Int.ofNat n))) (hy:ev y t=.some (.int q' (Int.ofNat c))) (h1:n≤c) (h2:c≤1000000) (hk:k (.sl s.next 0 n (some c)) (s.alloc (.row el (rep z c)))):EPrim (.mks el es z x y) t s k:=by
 refine EPrim.mk (fun e rec=>?_) hk
 show (NR.rec .fail (fun l=>NR.rec .fail (fun c=>gd (Nat.ble l c && Nat.ble c 1000000) (Zn1 (.row el (rep z c)) (fun r=>.sl r 0 l (some c)) s)) (Yif (ev y t))) (Yif (ev x t)):RV)=_
 rw [hx,hy]
 show gd (Nat.ble n c && Nat.ble c 1000000) _=_
 rw [Nat.ble_eq_true_of_le h1,Nat.ble_eq_true_of_le h2];rfl
end
theorem Yav:∀ (n:Nat),rep [.int .u8 0] n=bys (List.replicate n 0)
 | 0=>rfl
 | n+1=>by
  show AV.int .u8 0::rep [.int .u8 0] n=_
  rw [Yav n,List.replicate_succ];rfl
end Go.AM
namespace Go.AM
theorem Zlo {el n:Nat}{q q':IntKind}{t:AT}{s:St}{k:AV→St→Prop}{x y:AO}(hx:ev x t=.some (.int q (Int.ofNat (n+1)))) (hy:ev y t=.some (.int q' (Int.ofNat (n+1)))) (h2:n+1≤1000000) (hk:k (.sl s.next 0 (n+1) (some (n+1))) (s.alloc (.row el (bys (0::List.replicate n 0))))):EPrim (.mks el 1 [.int .u8 0] x y) t s k:=by
 refine Yed hx hy (Nat.le_refl _) h2 ?_
 rw [Yav];exact hk
theorem Za6 {k n e:Nat}{cs:List AV}(h:hfs cs=true):bdO k n (.row e cs)=true:=Zex _ h
theorem Zac {ρ:Nat→Nat}{e:Nat}{cs:List AV}(h:hfs cs=true):Zr9 ρ (.row e cs)=.row e cs:=by
 show AObj.row e (Zbx ρ cs)=_;rw [Zcv _ h]
theorem Zby {n e:Nat}{ds cs:List AV}(h:hfs cs=true):frzO n ds (.row e cs)=.row e cs:=by
 show AObj.row e (frzVs n ds cs)=_;rw [Zns _ h]
end Go.AM
namespace Go.AM
theorem Zfb {n e:Nat}{ds cs:List AV}(h:hfs cs=true):frnO n ds (.row e cs)=.row e cs:=by
 show AObj.row e (frnVs n ds cs)=_;rw [Zgo _ h]
end Go.AM
namespace Go.AM
theorem W.seqV {P:Program}{e:Env}{k:Nat}{rd:Option Nat}{t:AT}{s:St}{ds:List Nat}{Q:EQ}{a b:AC}(hE:EnvOk P e) (hm:P.follows .mixedOrders=true) (h:VW P e k a t s rd ds (Bhd (fun t s ds=>W P k rd b t s ds Q) Q)):W P k rd (.seq a b) t s ds Q:=
 W.seq ((Zap hE hm h).mono fun x t s ds h=>by cases x <;> exact h)
theorem Zkt {P:Program}{e:Env}{k:Nat}{rd:Option Nat}{t:AT}{s:St}{ds:List Nat}{res:List ARes}{K:AV→St→Prop}{c:AC}(hE:EnvOk P e) (hm:P.follows .mixedOrders=true) (h:VW P e k c t s rd ds (Zfa res K)):W P k rd c t s ds (Zhv res K):=
 (Zap hE hm h).mono fun _ _ _ _ h=>Zbz h
end Go.AM
namespace Go.AM
section
variable {t:AT}{s:St}{k:AV→St→Prop}{x y:AO}
end
end Go.AM
namespace Go.AM
theorem Zkx {t:AT}{s:St}{k:AV→St→Prop}{x y:AO}{a b:Int}(hx:ev x t=.some (.int .u32 a)) (hy:ev y t=.some (.int .u32 b)) (h:0≤a-b∧a-b<4294967296) (hk:k (.int .u32 (a-b)) s):EPrim (.bin .sub x y) t s k:=
 Zl5 hx hy (by rw [Int.emod_eq_of_lt h.1 h.2];exact hk)
end Go.AM
namespace Go.AM
mutual
def un (k:Nat):AV→Bool
 | .ptr r _=>Nat.blt r k
 | .sl r _ _ _=>Nat.blt r k
 | .map r=>Nat.blt r k
 | .yld r=>Nat.blt r k
 | .fn _ a b=>uns k a && uns k b
 | .iface _ v=>un k v
 | .agg l=>uns k l
 | .tup l=>uns k l
 | .fz _ c l=>(match c with|some 0=>false|_=>true) && uns k l
 | .fp _=>false
 | _=>true
def uns (k:Nat):List AV→Bool
 | []=>true
 | v::l=>un k v && uns k l
end
theorem uns_iff {k:Nat}:∀ {l:List AV},uns k l=true↔∀ v ∈ l,un k v=true
 | []=>by simp [uns]
 | v::l=>by simp [uns,uns_iff (l:=l)]
def unO (k:Nat):AObj→Bool
 | .row _ l=>uns k l
 | _=>false
def thaw (γ:Gam) (k:Nat):Gam:=⟨fun r=>if r<k then γ r else none,fun b=>match γ.fz b with|some c=>if c.old=true then some c else none|none=>none⟩
theorem Zfg {γ:Gam}{k r:Nat}(h:r<k):thaw γ k r=γ r:=if_pos h
theorem Ze4 {γ:Gam}{k r:Nat}{L:Loc}(h:thaw γ k r=some L):r<k∧γ r=some L:=by
 by_cases e:r<k
 ·rw [Zfg e] at h;exact ⟨e,h⟩
 ·have:thaw γ k r=none:=if_neg e
  rw [this] at h;cases h
theorem Ztq {γ:Gam}{k b:Nat}{c:FzC}(h:γ.fz b=some c) (ho:c.old=true):(thaw γ k).fz b=some c:=by
 show (match γ.fz b with|some c=>if c.old=true then some c else none|none=>none)=some c
 rw [h];exact if_pos ho
theorem Zf3 {γ:Gam}{k b:Nat}{c:FzC}(h:(thaw γ k).fz b=some c):γ.fz b=some c∧c.old=true:=by
 have h:(match γ.fz b with|some c=>if c.old=true then some c else none|none=>none)=some c:=h
 cases hc:γ.fz b with
 | none=>rw [hc] at h;cases h
 | some c'=>
  rw [hc] at h
  dsimp only at h
  split at h
  ·rename_i ho;cases h;exact ⟨rfl,ho⟩
  ·cases h
mutual
theorem Zjs {γ:Gam}{k:Nat}:∀ (v:AV) {v':Value},un k v=true→VR γ v v'→VR (thaw γ k) v v'
 | .bool b,_,_,.bool _=>.bool b
 | .int q n,_,_,.int _ _=>.int q n
 | .str l,_,_,.str _ s e=>.str l s e
 | .ptr r o,_,h,.ptr _ _ L e=>.ptr r o L (by rw [Zfg (by simpa [un] using h)];exact e)
 | .nilp,_,_,.nilp=>.nilp
 | .sl r o n (some c),_,h,.sl _ _ _ _ L e a=>.sl r o n c L (by rw [Zfg (by simpa [un] using h)];exact e) a
 | .sl r o n none,_,h,.slu _ _ _ c L e a b d=>.slu r o n c L (by rw [Zfg (by simpa [un] using h)];exact e) a b d
 | .nils,_,_,.nils=>.nils
 | .es,_,_,.es a c=>.es a c
 | .map r,_,h,.map _ L e=>.map r L (by rw [Zfg (by simpa [un] using h)];exact e)
 | .nilm,_,_,.nilm=>.nilm
 | .fn f xs ys,_,h,.fn _ _ _ as bs a b=>by
  simp only [un,Bool.and_eq_true] at h
  exact .fn f xs ys as bs (Ziy xs h.1 a) (Ziy ys h.2 b)
 | .yld r,_,h,.yld _ L e=>.yld r L (by rw [Zfg (by simpa [un] using h)];exact e)
 | .nilf,_,_,.nilf=>.nilf
 | .iface t v,_,h,.iface _ _ v' e=>.iface t v v' (Zjs v (by simpa [un] using h) e)
 | .nili,_,_,.nili=>.nili
 | .agg l,_,h,.agg _ a e o=>.agg l a (Ziy l (by simpa [un] using h) e) o
 | .tup l,_,h,.tup _ a e=>.tup l a (Ziy l (by simpa [un] using h) e)
 | .any,_,_,.any v e=>.any v e
 | .fz n c l,_,h,.fz _ _ _ vs b o cc cs e1 e2 e3 e4 e5 e6 e7=>by
  simp only [un,Bool.and_eq_true] at h
  have ho:cs.old=true:=by
   rcases c with _|_|c
   ·exact e6
   ·cases h.1
   ·exact e6.2
  exact .fz n c l vs b o cc cs (Ztq e1 ho) e2 e3 (Ziy l h.2 e4) e5 e6 e7
 | .fp _,_,h,_=>by cases h
theorem Ziy {γ:Gam}{k:Nat}:∀ (l:List AV) {m:List Value},uns k l=true→All2 (VR γ) l m→All2 (VR (thaw γ k)) l m
 | [],_,_,.nil=>.nil
 | v::l,_,h,.cons a b=>by
  simp only [uns,Bool.and_eq_true] at h
  exact .cons (Zjs v h.1 a) (Ziy l h.2 b)
end
theorem Yd7 {P:Program}{γ:Gam}{k:Nat}{L:Loc}{o:AObj}{hp:Array Obj}(h:unO k o=true) (ho:ObjR P γ L o hp):ObjR P (thaw γ k) L o hp:=by
 cases o with
 | row e cs=>
  obtain ⟨c,h1,h2,h3,h4,h5,h6,h7⟩:=ho
  exact ⟨c,h1,h2,h3,h4,h5,fun i v hv=>(let ⟨v',a,b,d⟩:=h6 i v hv;⟨v',a,Zjs v (uns_iff.1 h v (List.mem_of_getElem? hv)) b,d⟩),h7⟩
 | _=>cases h
theorem Sim.thawS {P:Program}{γ:Gam}{k:Nat}{s s2:St}{w:World}(h:Sim P γ s w) (hk:s2.next=k) (hg:∀ r o,s2.get r=some o→r<k∧s.get r=some o∧unO k o=true):Sim P (thaw γ k) s2 w:=by
 have al:∀ {o:AObj},unO k o=true→AM.alive o=true:=fun {o} h=>by cases o <;> first|rfl|cases h
 refine ⟨?_,?_,?_,?_,?_,?_,?_⟩
 ·intro r o L ho hL
  obtain ⟨h1,h2,h3⟩:=hg r o ho
  exact Yd7 h3 (h.obj r o L h2 (Ze4 hL).2)
 ·intro r r' o o' L L' ho ho' ha ha' hL hL' hne
  exact h.inj r r' o o' L L' (hg r o ho).2.1 (hg r' o' ho').2.1 ha ha' (Ze4 hL).2 (Ze4 hL').2 hne
 ·intro r L hL;exact h.lt r L (Ze4 hL).2
 ·intro r hr;exact if_neg (by omega)
 ·intro r o ho;rw [hk];exact (hg r o ho).1
 ·intro b c hc;exact h.fzc b c (Zf3 hc).1
 ·intro r o L ho ha hL
  cases hq:(thaw γ k).fz L.b with
  | none=>rfl
  | some c=>
   have:=h.fzr r o L (hg r o ho).2.1 ha (Ze4 hL).2
   rw [(Zf3 hq).1] at this;cases this
structure Spn (P:Program) (w:World) (b:Nat) (c:Array Value):Prop where
 h:∃ e,w.heap[b]?=some (.cells c e (0,0))∧∃ es,Zdd P e=some es
 o:∀ v ∈ c.toList,v.oneCell'=true
def St.up:St→Nat→St
 | .mk _ h,n=>.mk n h
theorem Yd3 (s:St) (n r:Nat):(s.up n).get r=s.get r:=by cases s;rfl
theorem Zln (s:St) (n:Nat):(s.up n).next=n:=by cases s;rfl
open Classical in
noncomputable def Zi6 (γ:Gam) (k:Nat) (D:Nat→Option Loc) (m:Nat) (w:World):Gam:=
 ⟨fun r=>if r<k then γ r else D r,fun b=>match γ.fz b with
   | some c=>some c
   | none=>if (∃ r L,k≤r∧D r=some L∧L.b=b)∧¬ (∃ j L,j<m∧D (k+j)=some L∧L.b=b) then (match w.heap[b]? with|some (.cells c _ _)=>some ⟨c,false⟩|_=>none) else none⟩
structure Nms (P:Program) (γ:Gam) (k nx m:Nat) (D:Nat→Option Loc) (w0 w:World):Prop where
 lt:∀ r L,k≤r→D r=some L→r<nx
 all:∀ r,k≤r→r<nx→∃ L,D r=some L
 fz:∀ r L,k≤r→D r=some L→γ.fz L.b=none
 ap:∀ r L,k≤r→D r=some L→∀ r' L',r'<k→γ r'=some L'→L'.b≠L.b
 nw:∀ r L,k≤r→D r=some L→w0.heap.size≤L.b
 sp:∀ r L,k≤r→D r=some L→∃ c,Spn P w L.b c
 ne:∀ i j Li Lj,i<m→j<m→i≠j→D (k+i)=some Li→D (k+j)=some Lj→Li.b≠Lj.b
section
variable {P:Program}{γ:Gam}{k nx m:Nat}{D:Nat→Option Loc}{w0 w:World}{os al:List AObj}
theorem Zut {r:Nat}(h:r<k):Zi6 γ k D m w r=γ r:=if_pos h
theorem Zeh {r:Nat}(h:k≤r):Zi6 γ k D m w r=D r:=if_neg (by omega)
theorem Ygs {b:Nat}{c:FzC}(h:γ.fz b=some c):(Zi6 γ k D m w).fz b=some c:=by
 unfold Zi6;dsimp only;rw [h]
theorem Zkc {b:Nat}{c:FzC}(h:(Zi6 γ k D m w).fz b=some c):γ.fz b=some c∨(γ.fz b=none∧c.old=false∧(∃ r L,k≤r∧D r=some L∧L.b=b)∧¬ (∃ j L,j<m∧D (k+j)=some L∧L.b=b)∧∃ e fr,w.heap[b]?=some (.cells c.cs e fr)):=by
 unfold Zi6 at h
 dsimp only at h
 cases hc:γ.fz b with
 | some c'=>rw [hc] at h;exact .inl h
 | none=>
  rw [hc] at h
  dsimp only at h
  split at h
  ·rename_i hh
   split at h
   ·rename_i c' e fr hw;cases h;exact .inr ⟨rfl,rfl,hh.1,hh.2,e,fr,hw⟩
   ·cases h
  ·cases h
theorem Ygt {r:Nat}{L:Loc}{c:Array Value}(hN:Nms P γ k nx m D w0 w) (hr:k≤r) (hL:D r=some L) (hn:¬ (∃ j L',j<m∧D (k+j)=some L'∧L'.b=L.b)) (hc:Spn P w L.b c):(Zi6 γ k D m w).fz L.b=some ⟨c,false⟩:=by
 obtain ⟨e,h1,_⟩:=hc.h
 unfold Zi6
 dsimp only
 rw [hN.fz r L hr hL]
 dsimp only
 rw [if_pos ⟨⟨r,L,hr,hL,rfl⟩,hn⟩,h1]
theorem Znx (h:Sim P γ (Zai St0 os) w) (hk:os.length=k):Le γ (Zi6 γ k D m w):=by
 refine ⟨fun r L e=>?_,fun b c e=>Ygs e⟩
 have:r<k:=Nat.lt_of_not_le fun hle=>by
  rw [h.nx r (by rw [Zbq,hk];exact hle)] at e;cases e
 rw [Zut this];exact e
theorem Zy8 (h:Sim P γ (Zai St0 os) w) (hk:os.length=k) (hm:al.length=m) (hnx:k+m≤nx) (hN:Nms P γ k nx m D w0 w)
 (hal:∀ j o,al[j]?=some o→∃ L,D (k+j)=some L∧ObjR P (Zi6 γ k D m w) L o w.heap) (hbig:k+m<2^64):Sim P (Zi6 γ k D m w) ((Zai St0 (os++al)).up nx) w:=by
 have hle:=Znx (D:=D) (m:=m) h hk
 have get:∀ r o,((Zai St0 (os++al)).up nx).get r=some o→(r<k∧os[r]?=some o∧(Zai St0 os).get r=some o)∨(k≤r∧r-k<m∧al[r-k]?=some o):=by
  intro r o ho
  rw [Yd3] at ho
  have:=Ziw _ ho
  by_cases hr:r<k
  ·rw [List.getElem?_append_left (by omega)] at this
   exact .inl ⟨hr,this,Zix _ (by omega) this⟩
  ·rw [List.getElem?_append_right (by omega),hk] at this
   have hlt:=(List.getElem?_eq_some_iff.1 this).1
   exact .inr ⟨by omega,by omega,this⟩
 have hiD:∀ r L,k≤r→Zi6 γ k D m w r=some L→D r=some L:=fun r L hr e=>by rwa [Zeh hr] at e
 have loγ:∀ r L,r<k→Zi6 γ k D m w r=some L→γ r=some L:=fun r L hr e=>by rwa [Zut hr] at e
 refine ⟨?_,?_,?_,?_,?_,?_,?_⟩
 ·intro r o L ho hL
  rcases get r o ho with ⟨h1,_,h2⟩|⟨h1,h2,h3⟩
  ·exact (h.obj r o L h2 (loγ r L h1 hL)).mono hle
  ·obtain ⟨L',e1,e2⟩:=hal _ o h3
   rw [show k+(r-k)=r by omega] at e1
   rw [hiD r L h1 hL] at e1;cases e1
   exact e2
 ·intro r r' o o' L L' ho ho' ha ha' hL hL' hne
  rcases get r o ho with ⟨h1,_,h2⟩|⟨h1,h2,h3⟩
  ·rcases get r' o' ho' with ⟨g1,_,g2⟩|⟨g1,g2,g3⟩
   ·exact h.inj r r' o o' L L' h2 g2 ha ha' (loγ r L h1 hL) (loγ r' L' g1 hL') hne
   ·exact hN.ap r' L' g1 (hiD r' L' g1 hL') r L h1 (loγ r L h1 hL)
  ·rcases get r' o' ho' with ⟨g1,_,g2⟩|⟨g1,g2,g3⟩
   ·exact fun e=>hN.ap r L h1 (hiD r L h1 hL) r' L' g1 (loγ r' L' g1 hL') e.symm
   ·have e1:=hiD r L h1 hL
    have e2:=hiD r' L' g1 hL'
    exact hN.ne (r-k) (r'-k) L L' h2 g2 (by omega) (by rw [show k+(r-k)=r by omega];exact e1) (by rw [show k+(r'-k)=r' by omega];exact e2)
 ·intro r L hL
  by_cases hr:r<k
  ·exact h.lt r L (loγ r L hr hL)
  ·obtain ⟨c,hc⟩:=hN.sp r L (by omega) (hiD r L (by omega) hL)
   obtain ⟨e,h1,_⟩:=hc.h
   exact (Array.getElem?_eq_some_iff.1 h1).1
 ·intro r hr
  rw [Zln] at hr
  rw [Zeh (by omega)]
  cases hq:D r with
  | none=>rfl
  | some L=>exact absurd (hN.lt r L (by omega) hq) (by omega)
 ·intro r o ho
  rw [Zln]
  rcases get r o ho with ⟨h1,_,_⟩|⟨h1,h2,_⟩ <;> omega
 ·intro b c hc
  rcases Zkc hc with h1|⟨_,h2,⟨r,L,h3,h4,h5⟩,_,e,fr,h6⟩
  ·exact h.fzc b c h1
  ·obtain ⟨c',hc'⟩:=hN.sp r L h3 h4
   obtain ⟨e',g1,g2⟩:=hc'.h
   rw [h5,h6] at g1
   cases g1
   exact ⟨_,_,h6,fun _=>⟨rfl,g2,hc'.o⟩⟩
 ·intro r o L ho ha hL
  cases hq:(Zi6 γ k D m w).fz L.b with
  | none=>rfl
  | some c=>
   exfalso
   rcases get r o ho with ⟨h1,_,h2⟩|⟨h1,h2,h3⟩
   ·have e1:=loγ r L h1 hL
    have e2:=h.fzr r o L h2 ha e1
    rcases Zkc hq with g|⟨_,_,⟨r',L',g1,g2,g3⟩,_⟩
    ·rw [e2] at g;cases g
    ·exact hN.ap r' L' g1 g2 r L h1 e1 g3.symm
   ·have e1:=hiD r L h1 hL
    rcases Zkc hq with g|⟨_,_,_,g,_⟩
    ·rw [hN.fz r L h1 e1] at g;cases g
    ·exact g ⟨r-k,L,h2,by rw [show k+(r-k)=r by omega];exact e1,rfl⟩
theorem Yd4 {γ0 γ':Gam}{sA s':St}{w':World}{os2:List AObj}(hγ0:∀ r,γ0 r=none) (hO:∀ b c,γ0.fz b=some c→c.old=true) (hγ:∀ b c,γ.fz b=some c→c.old=true)
 (h:Sim P γ (Zai St0 os) w) (hk:os.length=k) (hP:Stp γ0 St0 w0 γ (Zai St0 os) w) (hkn:∀ r,r<k→∃ L,γ r=some L) (hN:Nms P γ k nx m D w0 w)
 (hst:Stp (Zi6 γ k D m w) sA w γ' s' w') (hsim:Sim P γ' s' w') (hk2:os2.length=k) (hos:∀ r o,os2[r]?=some o→s'.get r=some o∧unO k o=true):
 Sim P (thaw γ' k) (Zai St0 os2) w'∧Stp γ0 St0 w0 (thaw γ' k) (Zai St0 os2) w'∧(∀ b c,(thaw γ' k).fz b=some c→c.old=true)∧(∀ r,r<k→thaw γ' k r=γ r)∧
 (∀ r L,k≤r→D r=some L→γ' r=some L∧(thaw γ' k).fz L.b=none∧(¬ (∃ j L',j<m∧D (k+j)=some L'∧L'.b=L.b)→∀ c,Spn P w L.b c→Spn P w' L.b c)):=by
 have hle:=Znx (D:=D) (m:=m) h hk
 have eqs:∀ r,r<k→thaw γ' k r=γ r:=by
  intro r hr
  obtain ⟨L,hL⟩:=hkn r hr
  rw [Zfg hr,hL]
  exact hst.le.loc r L (hle.loc r L hL)
 refine ⟨?_,?_,fun b c hc=>(Zf3 hc).2,eqs,?_⟩
 ·refine hsim.thawS (by rw [Zbq,hk2]) fun r o ho=>?_
  have:=Ziw _ ho
  obtain ⟨h1,h2⟩:=hos r o this
  exact ⟨by have:=(List.getElem?_eq_some_iff.1 this).1;omega,h1,h2⟩
 ·refine ⟨⟨fun r L e=>(by rw [hγ0] at e;cases e),fun b c e=>?_⟩,fun r L e _=>?_,Nat.zero_le _,Nat.le_trans hP.size hst.size,hst.os.trans hP.os,hst.tape.trans hP.tape,hst.output.trans hP.output,fun b hb _=>?_,fun r _ hr=>absurd hr (Nat.not_lt_zero r),fun b c e e0=>?_⟩
  ·exact Ztq (hst.le.fz b c (hle.fz b c (hP.le.fz b c e))) (hO b c e)
  ·have hr:=(Ze4 e).1
   rw [eqs r hr] at e
   exact hP.new r L e (hγ0 r)
  ·rw [hst.blk b (Nat.lt_of_lt_of_le hb hP.size) ?_,hP.blk b hb (fun r L e=>by rw [hγ0] at e;cases e)]
   intro r L e
   by_cases hr:r<k
   ·rw [Zut hr] at e
    rcases (hP.new r L e (hγ0 r)).2 with g|⟨_,_,g,_⟩
    ·omega
    ·rw [hγ0] at g;cases g
   ·rw [Zeh (by omega)] at e
    have:=hN.nw r L (by omega) e
    omega
  ·obtain ⟨e1,e2⟩:=Zf3 e
   cases hq:(Zi6 γ k D m w).fz b with
   | none=>exact Nat.le_trans hP.size (hst.fzn b c e1 hq)
   | some c'=>
    have:=hst.le.fz b c' hq
    rw [e1] at this;cases this
    rcases Zkc hq with g|⟨_,g,_⟩
    ·exact hP.fzn b c g e0
    ·rw [e2] at g;cases g
 ·intro r L hr hL
  have hg:Zi6 γ k D m w r=some L:=by rw [Zeh hr];exact hL
  refine ⟨hst.le.loc r L hg,?_,?_⟩
  ·cases hq:(thaw γ' k).fz L.b with
   | none=>rfl
   | some c=>
    exfalso
    obtain ⟨e1,e2⟩:=Zf3 hq
    cases hz:(Zi6 γ k D m w).fz L.b with
    | none=>
     have h1:=hst.fzn L.b c e1 hz
     obtain ⟨c',hc'⟩:=hN.sp r L hr hL
     obtain ⟨e,h2,_⟩:=hc'.h
     have:=(Array.getElem?_eq_some_iff.1 h2).1
     omega
    | some c'=>
     have:=hst.le.fz _ c' hz
     rw [e1] at this;cases this
     rcases Zkc hz with g|⟨_,g,_⟩
     ·rw [hN.fz r L hr hL] at g;cases g
     ·rw [e2] at g;cases g
  ·intro hn c hc
   have h1:=hst.le.fz _ _ (Ygt hN hr hL hn hc)
   obtain ⟨e,fr,h2,h3⟩:=hsim.fzc _ _ h1
   obtain ⟨h4,h5,h6⟩:=h3 rfl
   subst h4
   exact ⟨⟨e,h2,h5⟩,h6⟩
end
end Go.AM
namespace Go.AM
def WO (P:Program) (ac:AC) (t:AT) (s:St) (ds:List Nat) (Q:Ex→AT→St→List Nat→Prop):Prop:=
 ∀ (N:Nat) (c:Code) (γ:Gam) (w:World) (a:Act) (γ0:Gam) (w0:World) (m:Nat),
  Zcs P N c=some ac→N≤a.tmps.size→TR γ t a.tmps→Sim P γ s w→DR γ ds a.defers→Stp γ0 St0 w0 γ s w→(∀ r,γ0 r=none)→(∀ b c,γ0.fz b=some c→c.old=true)→
  c.wpIn (fen none) m P (fun ex a' w'=>∃ x t' s' ds',Q x t' s' ds'∧Zmd P γ0 St0 w0 N x t' s' ds' ex a' w') a w
section
variable {P:Program}{e:Env}{t:AT}{s:St}{ds:List Nat}{Q:Ex→AT→St→List Nat→Prop}
theorem WO.of_W {ac:AC}(h:W P 0 none ac t s ds Q):WO P ac t s ds Q:=
 fun N c γ w a γ0 w0 m h1 h2 h3 h4 h5 h6 h7 h8=>h N c γ w a none γ0 St0 w0 m h1 h2 h3 h4 rfl h5 h6 rfl (fun r _=>h7 r) (fun r hr=>absurd hr (Nat.not_lt_zero r))
theorem WO.mono {ac:AC}{Q':Ex→AT→St→List Nat→Prop}(h:WO P ac t s ds Q) (hq:∀ x t s ds,Q x t s ds→Q' x t s ds):WO P ac t s ds Q':=
 fun N c γ w a γ0 w0 m h1 h2 h3 h4 h5 h6 h7 h8=>wpIn_mono (h N c γ w a γ0 w0 m h1 h2 h3 h4 h5 h6 h7 h8) fun _ _ _ ⟨x,t',s',ds',hQ,hp⟩=>⟨x,t',s',ds',hq _ _ _ _ hQ,hp⟩
theorem WO.seq {x y:AC}(h:WO P x t s ds (Yjc (fun t s ds=>WO P y t s ds Q) Q)):WO P (.seq x y) t s ds Q:=by
 intro N c γ w a γ0 w0 m h1 h2 h3 h4 h5 h6 h7 h8
 obtain ⟨c1,c2,rfl,e1,e2⟩:=(Zek h1:∃ c1 c2,c=.seq c1 c2∧Zcs P N c1=some x∧Zcs P N c2=some y)
 refine wpIn_seq (wpIn_mono (h N c1 γ w a γ0 w0 m e1 h2 h3 h4 h5 h6 h7 h8) (Zju ?_))
 intro t1 s1 ds1 γ1 a1 w1 hk q1 q2 q3 q4 q5
 exact hk N c2 γ1 w1 a1 γ0 w0 m e2 q1 q2 q3 q4 q5 h7 h8
theorem WO.seqV {x y:AC}(hE:EnvOk P e) (hm:P.follows .mixedOrders=true) (h:VW P e 0 x t s none ds (Bhd (fun t s ds=>WO P y t s ds Q) Q)):WO P (.seq x y) t s ds Q:=
 WO.seq (.of_W ((Zap hE hm h).mono fun x t s ds h=>by cases x <;> exact h))
theorem WO.block {id:Nat}{x:AC}(h:WO P x t s ds (Yh1 id Q)):WO P (.block id x) t s ds Q:=by
 intro N c γ w a γ0 w0 m h1 h2 h3 h4 h5 h6 h7 h8
 obtain ⟨c1,rfl,e1⟩:=(Zek h1:∃ c1,c=.block id c1∧Zcs P N c1=some x)
 refine wpIn_block (wpIn_mono (h N c1 γ w a γ0 w0 m e1 h2 h3 h4 h5 h6 h7 h8) ?_)
 rintro ex a1 w1 ⟨x1,t',s',ds',hq,rfl,q1,γ1,q2,q3,q4,q5⟩
 cases x1 with
 | normal=>exact ⟨_,_,_,_,hq,rfl,q1,γ1,q2,q3,q4,q5⟩
 | ret=>exact ⟨_,_,_,_,hq,rfl,q1,γ1,q2,q3,q4,q5⟩
 | exit id'=>
  show if id'=id then _ else _
  simp only [Yh1] at hq
  split
  ·rename_i e;rw [if_pos e] at hq;exact ⟨_,_,_,_,hq,rfl,q1,γ1,q2,q3,q4,q5⟩
  ·rename_i e;rw [if_neg e] at hq;exact ⟨_,_,_,_,hq,rfl,q1,γ1,q2,q3,q4,q5⟩
theorem WO.tells {ac:AC}{t2:AT}{s2:St}{ds2:List Nat}(h:Tells P 0 t s ds t2 s2 ds2) (hw:WO P ac t2 s2 ds2 Q):WO P ac t s ds Q:=by
 intro N c γ w a γ0 w0 m h1 h2 h3 h4 h5 h6 h7 h8
 obtain ⟨γ2,hT,hS,hD,hP⟩:=h γ w a.tmps a.defers γ0 St0 w0 h3 h4 h5 h6 rfl (fun r _=>h7 r) (fun r hr=>absurd hr (Nat.not_lt_zero r))
 exact hw N c γ2 w a γ0 w0 m h1 h2 hT hS hD hP h7 h8
end
theorem W.use {P:Program}{k:Nat}{ac:AC}{t:AT}{s:St}{Q:Ex→AT→St→List Nat→Prop}(h:W P k none ac t s [] Q) {N:Nat}{c:Code}{γ:Gam}{w:World}{a:Act}{m:Nat}(h1:Zcs P N c=some ac) (h2:N≤a.tmps.size) (h3:TR γ t a.tmps) (h4:Sim P γ s w) (h5:DR γ [] a.defers) (hk:s.next=k)
 (hall:∀ r,r<k→∃ L,γ r=some L):c.wpIn (fen none) m P (fun ex a' w'=>∃ x t' s' ds',Q x t' s' ds'∧Zmd P γ s w N x t' s' ds' ex a' w') a w:=
 h N c γ w a none γ s w m h1 h2 h3 h4 rfl h5 (.refl _ _ _) hk (fun r hr=>h4.nx r (by omega)) hall
theorem Stp.thaw {γ0 γ:Gam}{w0 w:World}{s s2:St}{k:Nat}(h:Stp γ0 St0 w0 γ s w) (hγ0:∀ r,γ0 r=none) (hO:∀ b c,γ0.fz b=some c→c.old=true):Stp γ0 St0 w0 (thaw γ k) s2 w:=by
 refine ⟨⟨fun r L e=>(by rw [hγ0] at e;cases e),fun b c e=>Ztq (h.le.fz b c e) (hO b c e)⟩,fun r L e _=>h.new r L (Ze4 e).2 (hγ0 r),Nat.zero_le _,h.size,h.os,h.tape,h.output,h.blk,fun r _ hr=>absurd hr (Nat.not_lt_zero r),fun b c e e0=>h.fzn b c (Zf3 e).1 e0⟩
theorem DR.nil2 {γ γ2:Gam}{l:List Deferred}(h:DR γ [] l):DR γ2 [] l:=by cases h;exact .nil
def CO (P:Program) (f:Nat) (args:List AV) (Q:AV→St→Prop):Prop:=
 ∀ (γ:Gam) (vals:List Value) (w:World) (m:Nat),(∀ r,γ r=none)→(∀ b c,γ.fz b=some c→c.old=true)→All2 (VR γ) args vals→Sim P γ St0 w→CallsIn Fence.wide m P f vals.toArray w (fun e w'=>∃ v s',Q v s'∧Zch P γ St0 w v s' e w')
theorem Yh3 {P:Program}{f:Nat}{fn:Func}{code:AC}{res:List ARes}{args:List AV}{Q:AV→St→Prop}(hf:P.funcs[f]?=some fn) (hc:Zaj P fn=some (.mk code res))
 (h:WO P code (Zax args 0 .lf) St0 [] (Zhv res Q)):CO P f args Q:=by
 intro γ vals w m hnone hold hA hs
 unfold Zaj at hc
 split at hc
 ·rename_i b hb
  split at hc
  ·rename_i cd rs hcd hrs
   cases hc
   refine callsIn_of_wp_marks hf hb trivial ?_
   have hTR:TR γ (Zax args 0 .lf) (vals.toArray++Array.replicate (fn.ntmps-vals.toArray.size) undef):=by
    refine Zmm args vals _ 0 .lf hA (Yhx _) ?_
    intro j u hj
    rw [Nat.zero_add,Array.getElem?_append]
    have hlt:=(List.getElem?_eq_some_iff.1 hj).1
    rw [if_pos (by simpa using hlt)]
    simpa using hj
   have hsz:fn.ntmps≤(vals.toArray++Array.replicate (fn.ntmps-vals.toArray.size) undef).size:=by simp;omega
   have hw:=h fn.ntmps b γ w { tmps:=vals.toArray++Array.replicate (fn.ntmps-vals.toArray.size) undef,defers:=[] } γ w m hcd hsz hTR hs .nil (.refl _ _ _) hnone hold
   refine wpIn_mono hw ?_
   rintro ex a' w' ⟨x,t',s',ds',⟨hx,s2,l,hq,hl,hQ⟩,rfl,_,γ',hst,hsim,ht,hd⟩
   have fin:LeavesInM Fence.wide m P fn a'.tmps (fun e w'=>∃ v s',Q v s'∧Zch P γ St0 w v s' e w') a'.defers .returning w':=by
    exact Zga (s2:=s2) hrs (fun e w' hp=>⟨_,_,hQ,hp⟩) m ds' a'.defers s' w' hd hq hsim hst ht hl
   rcases hx with rfl|rfl
   ·exact fin
   ·exact fin
  ·cases hc
 ·cases hc
open Go.RowKit in
theorem law_argsO {P:Program}{f:Nat}{args:List AV}{vals:List Value}{w:World}(hA:All2 (VR (Zyl w)) args vals) (hC:CO P f args (fun v _=>v=.bool true)):
 Calls P f vals.toArray w fun x w'=>x=.returned (.bool true)∧Below w.heap.size w w':=by
 have hc:=hC (Zyl w) vals w 0 (fun _=>rfl) (fun b c h=>Zwo h) hA (Zwn w)
 refine callsIn_wide.1 (CallsIn.mono hc ?_)
 rintro x w' ⟨v,s',rfl,v',γ',rfl,hst,_,hv⟩
 cases hv
 exact ⟨rfl,hst.os,hst.tape,hst.output,hst.size,fun b hb=>hst.blk b hb (fun r L hL=>by cases hL)⟩
theorem Zo6 {P:Program}{F:Fence}{m:Nat}{c1:Code}{I:Nat→Act→World→Prop}{J:Exit→Act→World→Prop}
 (hr:∀ n a w,I n a w→c1.wpIn F m P (Exit.then (fun a w=>∃ n',n'<n∧I n' a w) J) a w) {n:Nat}{a:Act}{w:World}(h0:I n a w):(Code.loop c1).wpIn F m P J a w:=by
 have key:∀ (j n:Nat) (a:Act) (w:World),n<j→I n a w→Code.roundsIn F m P c1 J j a w:=by
  intro j
  induction j with
  | zero=>intro n a w hn;omega
  | succ j ih=>
   intro n a w hn hi
   rw [roundsIn_succ]
   refine wpIn_mono (hr n a w hi) ?_
   intro ex a1 w1 hq
   cases ex with
   | normal=>obtain ⟨n',h1,h2⟩:=hq;exact ih n' a1 w1 (by omega) h2
   | _=>exact hq
 exact wpIn_loop_rounds (n+1) (key (n+1) n a w (Nat.lt_succ_self _) h0)
end Go.AM
namespace Go.AM
section
variable {P:Program}
theorem C.tells {f:Nat}{args:List AV}{Q:AV→St→Prop}{v2:AV}{s2:St}(h:C P f args St0 Q) (ht:∀ v s,Q v s→Tells P 0 (ofL [(0,v)]) s [] (ofL [(0,v2)]) s2 []):C P f args St0 (fun v s=>v=v2∧s=s2):=by
 intro γ vals w m hA hs
 refine CallsIn.mono (h γ vals w m hA hs) ?_
 rintro e w' ⟨v,s',q,v',γ',rfl,hst,hsim,hv⟩
 have hT:TR γ' (ofL [(0,v)]) #[v']:=by
  intro i x hx
  obtain ⟨p,hp,h1,h2⟩:=Zh0 hx
  rw [List.mem_singleton] at hp
  subst hp;subst h1;subst h2
  exact ⟨v',rfl,hv⟩
 obtain ⟨γ2,hT2,hS2,_,hP2⟩:=ht v s' q γ' w' #[v'] [] γ St0 w hT hsim .nil hst rfl (fun r _=>hs.nx r (Nat.zero_le _)) (fun r hr=>absurd hr (Nat.not_lt_zero r))
 refine ⟨v2,s2,⟨rfl,rfl⟩,v',γ2,rfl,hP2,hS2,?_⟩
 obtain ⟨x,e1,e2⟩:=hT2 0 v2 rfl
 have e1:some v'=some x:=e1
 cases e1
 exact e2
end
end Go.AM
namespace Go.AM
section
variable {P:Program}
theorem Yh5:∀ {l:List AV},scs l=true→∀ v ∈ l,sc v=true
 | [],_,v,h=>by cases h
 | x::l,hs,v,h=>by
  simp only [scs,Bool.and_eq_true] at hs
  rcases List.mem_cons.1 h with rfl|h
  ·exact hs.1
  ·exact Yh5 hs.2 v h
theorem C.viewB {f:Nat}{args args2:List AV}{n e c:Nat}{cs:List AV}{s:St}(hF:All2 (Frz s) args args2) (hu:scs cs=true) (h:C P f args2 St0 (fun v s'=>v=.sl 0 0 n (some c)∧s'=Zai St0 [.row e cs])):C P f args s (fun v s'=>v=.sl s.next 0 n (some c)∧s'=s.alloc (.row e cs)):=by
 intro γ vals w m hA hs
 let φ:Nat→Option FzC:=fun b=>match γ.fz b with|some c=>some c|none=>(match w.heap[b]? with|some (.cells c _ _)=>some ⟨c,true⟩|_=>none)
 have hφ:∀ b c,φ b=some c→∃ e fr,w.heap[b]?=some (.cells c.cs e fr)∧FzOk P c e fr:=by
  intro b c hc
  have hc:(match γ.fz b with|some c=>some c|none=>(match w.heap[b]? with|some (.cells c _ _)=>some ⟨c,true⟩|_=>none))=some c:=hc
  cases hg:γ.fz b with
  | some c'=>rw [hg] at hc;cases hc;exact hs.fzc b _ hg
  | none=>
   rw [hg] at hc
   dsimp only at hc
   split at hc
   ·rename_i c' e fr hh;cases hc;exact ⟨e,fr,hh,fun h=>by cases h⟩
   ·cases hc
 have hφ1:∀ b c,γ.fz b=some c→φ b=some c:=fun b c hg=>by
  show (match γ.fz b with|some c=>some c|none=>_)=some c
  rw [hg]
 have hφ2:∀ b c e fr,γ.fz b=none→w.heap[b]?=some (.cells c e fr)→φ b=some ⟨c,true⟩:=by
  intro b c e fr hg hc
  show (match γ.fz b with|some c=>some c|none=>(match w.heap[b]? with|some (.cells c _ _)=>some (⟨c,true⟩:FzC)|_=>none))=some ⟨c,true⟩
  rw [hg]
  dsimp only
  rw [hc]
 have hA2:All2 (VR ⟨fun _=>none,φ⟩) args2 vals:=Zhf hs hφ1 (fun r e cs L c h1 h2 hh=>hφ2 L.b c e (0,0) (hs.fzr r _ L h1 rfl h2) hh) hF hA
 refine CallsIn.mono (h ⟨fun _=>none,φ⟩ vals w m hA2 (sim0 hφ)) ?_
 rintro ex w' ⟨v,s',⟨rfl,rfl⟩,v',γ',rfl,hst,hsim,hv⟩
 have hblk:∀ b,b<w.heap.size→w'.heap[b]?=w.heap[b]?:=fun b hb=>hst.blk b hb (fun r L e=>by cases e)
 cases hv with
 | sl _ _ _ _ L hL hn=>
 have hLn:w.heap.size≤L.b:=by
  rcases (hst.new 0 L hL rfl).2 with h|⟨_,_,h,_⟩
  ·exact h
  ·cases h
 have hob:ObjR P γ' L (.row e cs) w'.heap:=hsim.obj 0 _ L rfl hL
 have hgn:=hs.nx s.next (Nat.le_refl _)
 have hle:=Zgr (L:=L) hgn
 have g1:∀ r,r≠s.next→(ext γ s.next L) r=γ r:=fun r hr=>Zba _ _ hr
 have g2:(ext γ s.next L) s.next=some L:=Za8 _ _ _
 have glt:∀ r L,γ r=some L→r<s.next:=fun r L e=>Nat.lt_of_not_le fun hle=>by rw [hs.nx r hle] at e;cases e
 refine ⟨_,_,⟨rfl,rfl⟩,_,ext γ s.next L,rfl,?_,?_,.sl s.next 0 n _ L g2 hn⟩
 ·refine ⟨hle,?_,by rw [Zar];omega,hst.size,hst.os,hst.tape,hst.output,fun b hb _=>hblk b hb,?_,fun b c h h'=>(by rw [show (ext γ s.next L).fz b=γ.fz b from rfl,h'] at h;cases h)⟩
  ·intro r L' h h'
   by_cases hr:r=s.next
   ·subst hr;rw [g2] at h;cases h;exact ⟨Nat.le_refl _,.inl hLn⟩
   ·rw [g1 r hr,h'] at h;cases h
  ·intro r h hr
   rw [Zbl (by omega)]
 ·have back:∀ r o,(s.alloc (.row e cs)).get r=some o→(r≠s.next∧s.get r=some o)∨(r=s.next∧o=.row e cs):=by
   intro r o ho
   rcases Zbv ho with ⟨h1,h2⟩|⟨h1,h2⟩
   ·exact .inr ⟨h1,h2⟩
   ·exact .inl ⟨h1,h2⟩
  refine ⟨?_,?_,?_,?_,?_,?_,?_⟩
  ·intro r o L' ho hL'
   rcases back r o ho with ⟨hr,hg⟩|⟨rfl,rfl⟩
   ·rw [g1 r hr] at hL'
    exact ((hs.obj r o L' hg hL').mono hle).heap (hblk _ (hs.lt r L' hL'))
   ·rw [g2] at hL';cases hL'
    obtain ⟨a,h1,h2,h3,h4,h5,h6,h7⟩:=hob
    refine ⟨a,h1,h2,h3,h4,h5,fun i v hv=>?_,h7⟩
    obtain ⟨v',k1,k2,k3⟩:=h6 i v hv
    exact ⟨v',k1,Yhw v (Yh5 hu _ (List.mem_of_getElem? hv)) k2,k3⟩
  ·intro r r' o o' L1 L2 ho ho' ha1 ha2 h1 h2 hne
   rcases back r o ho with ⟨hr,hg⟩|⟨rfl,rfl⟩ <;> rcases back r' o' ho' with ⟨hr',hg'⟩|⟨rfl,rfl⟩
   ·rw [g1 r hr] at h1;rw [g1 r' hr'] at h2
    exact hs.inj r r' o o' L1 L2 hg hg' ha1 ha2 h1 h2 hne
   ·rw [g1 r hr] at h1;rw [g2] at h2;cases h2
    have:=hs.lt r L1 h1;omega
   ·rw [g2] at h1;rw [g1 r' hr'] at h2;cases h1
    have:=hs.lt r' L2 h2;omega
   ·exact absurd rfl hne
  ·intro r L' h
   by_cases hr:r=s.next
   ·subst hr;rw [g2] at h;cases h;exact hsim.lt 0 L hL
   ·rw [g1 r hr] at h;have:=hs.lt r L' h;have:=hst.size;omega
  ·intro r hr
   rw [Zar] at hr
   rw [g1 r (by omega)];exact hs.nx r (by omega)
  ·intro r o ho
   rw [Zar]
   rcases back r o ho with ⟨hr,hg⟩|⟨rfl,rfl⟩
   ·have:=hs.dom r o hg;omega
   ·omega
  ·intro b c e
   obtain ⟨t,fr,hh,hh'⟩:=hs.fzc b c e
   exact ⟨t,fr,(hblk b (hs.fzlt e)).trans hh,hh'⟩
  ·intro r o L' ho ha h
   show γ.fz L'.b=none
   rcases back r o ho with ⟨hr,hg⟩|⟨rfl,rfl⟩
   ·rw [g1 r hr] at h;exact hs.fzr r o L' hg ha h
   ·rw [g2] at h;cases h;exact hs.fzout hLn
end
end Go.AM
