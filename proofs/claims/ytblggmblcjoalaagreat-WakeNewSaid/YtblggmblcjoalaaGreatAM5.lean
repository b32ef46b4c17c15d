/- Contracts of functions over the abstract machine. No conditions. -/
import Derived.Below
import Derived.Lib.Overlaps
import Derived.Laws.Externs
import Derived.ChangeArms
import Derived.DataReads
import Derived.Carry
import Derived.ChangeSame
import Derived.Test.YtblggmblcjoalaaGreatAM4
set_option linter.unusedVariables false
set_option linter.unusedSimpArgs false
set_option maxRecDepth 100000
namespace Go.AM
mutual
def sc:AV->Bool
 | .ptr ..|.sl ..|.map ..|.yld ..|.fz ..|.fp ..=>false
 | .fn _ a b=>scs a && scs b
 | .iface _ v=>sc v
 | .agg l|.tup l=>scs l
 | _=>true
def scs:List AV->Bool
 | []=>true
 | v::l=>sc v && scs l
end
section
variable {P:Program}{γ γ2:Gam}
mutual
theorem VR_sc:∀ (v:AV) {v':Value},sc v=true->VR γ v v'->VR γ2 v v'
 | .bool b,_,_,.bool _=>.bool _
 | .int k n,_,_,.int _ _=>.int _ _
 | .str l,_,_,.str _ s e=>.str _ s e
 | .ptr _ _,_,h,_=>by cases h
 | .nilp,_,_,.nilp=>.nilp
 | .sl ..,_,h,_=>by cases h
 | .nils,_,_,.nils=>.nils
 | .es,_,_,.es a c=>.es a c
 | .ez,_,_,.ez a=>.ez a
 | .map _,_,h,_=>by cases h
 | .nilm,_,_,.nilm=>.nilm
 | .fn f xs ys,_,h,.fn _ _ _ as bs a b=>by
  simp only [sc,Bool.and_eq_true] at h
  exact .fn f xs ys as bs (VR_scs xs h.1 a) (VR_scs ys h.2 b)
 | .yld _,_,h,_=>by cases h
 | .nilf,_,_,.nilf=>.nilf
 | .iface t v,_,h,.iface _ _ v' e=>.iface t v v' (VR_sc v h e)
 | .nili,_,_,.nili=>.nili
 | .agg l,_,h,.agg _ a e o=>.agg l a (VR_scs l h e) o
 | .tup l,_,h,.tup _ a e=>.tup l a (VR_scs l h e)
 | .any,_,_,.any v e=>.any v e
 | .fz ..,_,h,_=>by cases h
 | .fp _,_,h,_=>by cases h
theorem VR_scs:∀ (l:List AV) {m:List Value},scs l=true->All2 (VR γ) l m->All2 (VR γ2) l m
 | [],_,_,.nil=>.nil
 | v::l,_,h,.cons a b=>by
  simp only [scs,Bool.and_eq_true] at h
  exact .cons (VR_sc v h.1 a) (VR_scs l h.2 b)
end
variable {s:St}
theorem C.view {f:Nat}{args args2:List AV}{u:AV}(hF:All2 (Frz s) args args2) (hu:sc u=true) (h:C P f args2 St0 (fun v s'=>v=u∧s'=allocs St0 [])):C P f args s (fun v s'=>v=u∧s'=s):=by
 intro γ vals w m hA hs
 let φ:Nat->Option (Array Value):=fun b=>match w.heap[b]? with|some (.cells c _ _)=>some c|_=>none
 have hφ:∀ b c,φ b=some c->∃ e fr,w.heap[b]?=some (.cells c e fr):=by
  intro b c hc
  have hc:(match w.heap[b]? with|some (.cells c _ _)=>some c|_=>none)=some c:=hc
  split at hc
  ·rename_i c' e fr hh;cases hc;exact ⟨e,fr,hh⟩
  ·cases hc
 have hφ2:∀ b c e fr,w.heap[b]?=some (.cells c e fr)->φ b=some c:=by
  intro b c e fr hc
  show (match w.heap[b]? with|some (.cells c _ _)=>some c|_=>none)=some c
  rw [hc]
 have hA2:All2 (VR ⟨fun _=>none,φ⟩) args2 vals:=Frz.VRs hs (fun b c e=>by obtain ⟨t,fr,hh⟩:=hs.fzc b c e;exact hφ2 b c t fr hh) (fun r e cs L c _ _ hh=>hφ2 L.b c e (0,0) hh) hF hA
 refine CallsIn.mono (h ⟨fun _=>none,φ⟩ vals w m hA2 (sim0 hφ)) ?_
 rintro e w' ⟨v,s',⟨rfl,rfl⟩,v',γ',rfl,hst,hsim,hv⟩
 have hblk:∀ b,b<w.heap.size->w'.heap[b]?=w.heap[b]?:=fun b hb=>hst.blk b hb (fun r L e=>by cases e)
 refine ⟨_,_,⟨rfl,rfl⟩,v',γ,rfl,?_,?_,VR_sc v hu hv⟩
 ·exact ⟨Le.refl γ,fun r L h h'=>(by rw [h] at h';cases h'),Nat.le_refl _,hst.size,hst.os,hst.tape,hst.output,fun b hb _=>hblk b hb,fun _ _ _=>rfl,fun b c h h'=>(by rw [h] at h';cases h')⟩
 ·refine ⟨fun r o L ho hL=>(hs.obj r o L ho hL).heap (hblk _ (hs.lt r L hL)),hs.inj,fun r L hL=>Nat.lt_of_lt_of_le (hs.lt r L hL) hst.size,hs.nx,hs.dom,fun b c e=>?_,hs.fzr⟩
  obtain ⟨t,fr,hh⟩:=hs.fzc b c e
  exact ⟨t,fr,(hblk b (hs.fzlt e)).trans hh⟩
noncomputable def bytesAt (s:St) (v:AV):Option (List Nat):=
 SR.rec none (fun r o n _=>Option.rec none bytesOf (load r o n s)) (some []) (some []) (fun n _ l=>Bool.rec none (bytesOf l) (Nat.beq (lenL l) n)) (asSl v)
theorem bytesOf_bys:∀ {l:List AV}{bs:List Nat},bytesOf l=some bs->l=bys bs∧∀ b ∈ bs,b<256:=by
 intro l
 induction l with
 | nil=>intro bs h;cases h;exact ⟨rfl,by simp⟩
 | cons x l ih=>
  intro bs h
  change (IR.rec none (fun k n=>Bool.rec none (Int.rec (fun a=>Bool.rec none (Option.rec none (fun r=>some (a::r)) (bytesOf l)) (Nat.blt a 256)) (fun _=>none) n) (Nat.beq (kCode k) 4)) (asInt x):Option (List Nat))=some bs at h
  cases hc:asInt x with
  | no=>rw [hc] at h;cases h
  | int k n=>
   rw [hc] at h
   dsimp only at h
   cases hk:Nat.beq (kCode k) 4 with
   | false=>rw [hk] at h;cases h
   | true=>
    rw [hk] at h
    have hku:k=.u8:=by cases k <;> first|rfl|cases hk
    subst hku
    cases n with
    | negSucc n=>cases h
    | ofNat a=>
     dsimp only at h
     cases hb:Nat.blt a 256 with
     | false=>rw [hb] at h;cases h
     | true=>
      rw [hb] at h
      rw [Nat.blt_eq] at hb
      cases hbo:bytesOf l with
      | none=>rw [hbo] at h;cases h
      | some r=>
       rw [hbo] at h;cases h
       obtain ⟨e1,e2⟩:=ih hbo
       refine ⟨by rw [asInt_eq hc,e1];rfl,?_⟩
       intro b hb'
       rcases List.mem_cons.1 hb' with rfl|hb'
       ·exact hb
       ·exact e2 b hb'
theorem scs_hfs_bys (bs:List Nat):hfs (bys bs)=true:=hfs_iff.2 fun v hv=>by
 obtain ⟨b,_,rfl⟩:=List.mem_map.1 hv;rfl
theorem frz_bys:∀ (bs:List Nat),All2 (Frz s) (bys bs) (bys bs)
 | []=>.nil
 | b::bs=>.cons (.plain _ rfl) (frz_bys bs)
theorem bys_length (bs:List Nat):(bys bs).length=bs.length:=List.length_map ..
theorem bytesAt_view {v:AV}{bs:List Nat}(h:bytesAt s v=some bs):∃ v2,Frz s v v2∧Sl 1 bs.length (bys bs) v2∧∀ b ∈ bs,b<256:=by
 unfold bytesAt at h
 cases hq:asSl v with
 | no=>rw [hq] at h;cases h
 | nils=>rw [hq] at h;cases h;rw [asSl_nils hq];exact ⟨.nils,.plain _ rfl,.inl ⟨rfl,rfl,rfl⟩,by simp⟩
 | es=>rw [hq] at h;cases h;rw [asSl_es hq];exact ⟨.es,.plain _ rfl,.inr (.inl ⟨rfl,rfl,rfl⟩),by simp⟩
 | sl r o n c=>
  rw [hq] at h
  change (Option.rec none bytesOf (load r o n s):Option (List Nat))=some bs at h
  cases hl:load r o n s with
  | none=>rw [hl] at h;cases h
  | some cs=>
   rw [hl] at h
   obtain ⟨rfl,hb⟩:=bytesOf_bys (show bytesOf cs=some bs from h)
   rw [asSl_sl hq]
   unfold load at hl
   cases hr:rowAt r s with
   | no=>rw [hr] at hl;cases hl
   | row e rs=>
    rw [hr] at hl
    change takeL n (dropL o rs)=some (bys bs) at hl
    obtain ⟨e1,e2⟩:=takeL_some n hl
    rw [dropL_eq] at e1 e2
    have hn:bs.length=n:=by
     have:=congrArg List.length e1
     rw [bys_length,List.length_take] at this
     omega
    refine ⟨.fz n none (bys bs),.sl r o n c none e rs (bys bs) (bys bs) (rowAt_some hr) ?_ (frz_bys bs) (.inl rfl),.inr (.inr ⟨none,by rw [hn],by rw [bys_length,Nat.mul_one]⟩),hb⟩
    intro i x hx
    rw [e1,List.getElem?_take] at hx
    split at hx
    ·rwa [List.getElem?_drop] at hx
    ·cases hx
 | fz n c l=>
  rw [hq] at h
  change (Bool.rec none (bytesOf l) (Nat.beq (lenL l) n):Option (List Nat))=some bs at h
  cases hl:Nat.beq (lenL l) n with
  | false=>rw [hl] at h;cases h
  | true=>
   rw [hl] at h
   obtain ⟨rfl,hb⟩:=bytesOf_bys (show bytesOf l=some bs from h)
   rw [asSl_fz hq]
   have hn:bs.length=n:=by
    have:=Nat.eq_of_beq_eq_true hl
    rw [lenL_eq,bys_length] at this
    exact this
   exact ⟨_,.plain _ rfl,.inr (.inr ⟨c,by rw [hn],by rw [bys_length,Nat.mul_one]⟩),hb⟩
end
end Go.AM
namespace Go.AM
theorem T.get_sing_same {α:Type}{x:α}:∀ (n k:Nat),k+1<2^n->(T.sing x n k).get k=some x:=by
 intro n
 induction n with
 | zero=>intro k h;simp at h
 | succ n ih=>
  intro k h
  cases k with
  | zero=>rfl
  | succ k=>
   have hk:k / 2+1<2^n:=by rw [Nat.pow_succ] at h;omega
   show T.get (Bool.rec (T.nd none .lf (T.sing x n (Nat.div k 2))) (T.nd none (T.sing x n (Nat.div k 2)) .lf) (Nat.beq (Nat.mod k 2) 0)) (k+1)=some x
   cases hb:Nat.beq (Nat.mod k 2) 0
   ·show (Bool.rec (T.get (T.sing x n (Nat.div k 2)) (Nat.div k 2)) _ (Nat.beq (Nat.mod k 2) 0):Option α)=some x
    rw [hb];exact ih _ hk
   ·show (Bool.rec _ (T.get (T.sing x n (Nat.div k 2)) (Nat.div k 2)) (Nat.beq (Nat.mod k 2) 0):Option α)=some x
    rw [hb];exact ih _ hk
theorem T.get_set_same {α:Type}{x:α}:∀ (t:T α) (k:Nat),k<1000000000->(t.set x k).get k=some x:=by
 intro t
 induction t with
 | lf=>intro k h;exact T.get_sing_same 64 k (by omega)
 | nd v l r il ir=>
  intro k h
  cases k with
  | zero=>rfl
  | succ k=>
   have hk:k / 2<1000000000:=by omega
   show T.get (Bool.rec (T.nd v l (r.set x (Nat.div k 2))) (T.nd v (l.set x (Nat.div k 2)) r) (Nat.beq (Nat.mod k 2) 0)) (k+1)=some x
   cases hb:Nat.beq (Nat.mod k 2) 0
   ·show (Bool.rec (T.get (r.set x (Nat.div k 2)) (Nat.div k 2)) _ (Nat.beq (Nat.mod k 2) 0):Option α)=some x
    rw [hb];exact ir _ hk
   ·show (Bool.rec _ (T.get (l.set x (Nat.div k 2)) (Nat.div k 2)) (Nat.beq (Nat.mod k 2) 0):Option α)=some x
    rw [hb];exact il _ hk
variable {s:St}{o:AObj}
theorem St.get_alloc_same (h:s.next<1000000000):(s.alloc o).get s.next=some o:=by
 cases s;exact T.get_set_same _ _ h
variable {r:Nat}
theorem St.get_put_same (h:r<1000000000):(s.put r o).get r=some o:=by
 cases s;exact T.get_set_same _ _ h
variable {e:Nat}{cs:List AV}
theorem rowAt_of (h:s.get r=some (.row e cs)):rowAt r s=.row e cs:=by
 unfold rowAt;rw [h];rfl
theorem load_of {o n:Nat}(h:s.get r=some (.row e cs)) (hl:o+n≤cs.length):load r o n s=some ((cs.drop o).take n):=by
 unfold load;rw [rowAt_of h]
 show takeL n (dropL o cs)=_
 rw [dropL_eq];exact takeL_of (by simp;omega)
theorem upd_of:∀ {vs:List AV}{o:Nat}{l:List AV},o+vs.length≤l.length->upd vs o l=some (l.take o++vs++l.drop (o+vs.length)):=by
 have hH:∀ {vs l:List AV},vs.length≤l.length->updH vs l=some (vs++l.drop vs.length):=by
  intro vs
  induction vs with
  | nil=>intro l _;rfl
  | cons v vs ih=>intro l h;cases l with
   | nil=>simp at h
   | cons x l=>
    show (Option.rec none (fun r=>some (v::r)) (updH vs l):Option (List AV))=_
    rw [ih (by simpa using h)];rfl
 intro vs o
 induction o with
 | zero=>intro l h;show updH vs l=_;rw [hH (by omega)];simp
 | succ o ih=>intro l h;cases l with
  | nil=>simp at h
  | cons x l=>
   show (Option.rec none (fun r=>some (x::r)) (upd vs o l):Option (List AV))=_
   rw [ih (by simp at h;omega),show o+1+vs.length=(o+vs.length)+1 by omega];rfl
theorem store_of {o:Nat}{vs:List AV}(h:s.get r=some (.row e cs)) (hl:o+vs.length≤cs.length):storeAt r o vs s=some (s.put r (.row e (cs.take o++vs++cs.drop (o+vs.length)))):=by
 unfold storeAt;rw [rowAt_of h]
 show (Option.rec none (fun cs'=>some (s.put r (.row e cs'))) (upd vs o cs):Option St)=_
 rw [upd_of hl]
section
variable {t:AT}{s:St}{k:AV->St->Prop}{x y:AO}
theorem EPrim.slcU {es r o n l h:Nat}{lo hi:Option AO}(hx:ev x t=.some (.sl r o n none)) (hlo:optNat t lo 0=.n l) (hhi:optNat t hi n=.n h) (h1:l≤h) (h2:h≤n) (h3:l<n) (hk:k (.sl r (o+l*es) (h-l) none) s):EPrim (.slc es x lo hi none) t s k:=by
 refine EPrim.mk (fun e rec=>?_) hk
 show wth x t _=_;unfold wth;rw [hx]
 show (NR.rec .fail _ (optNat t lo 0):RV)=_;rw [hlo]
 show (NR.rec .fail _ (optNat t hi n):RV)=_;rw [hhi]
 show gd (Nat.ble l h && Nat.ble h n) (Bool.rec (.ok .es s) (.ok (.sl r (o+l*es) (h-l) none) s) (Nat.blt l n))=_
 rw [Nat.ble_eq_true_of_le h1,Nat.ble_eq_true_of_le h2,show Nat.blt l n=true by simpa using h3];rfl
theorem EPrim.addN {a b:Nat}(hx:ev x t=.some (.int .i64 (Int.ofNat a))) (hy:ev y t=.some (.int .i64 (Int.ofNat b))) (h:a+b<9223372036854775807) (hk:k (.int .i64 (Int.ofNat (a+b))) s):EPrim (.bin .add x y) t s k:=
 EPrim.addS hx hy (by have e1:Int.ofNat a=(a:Int):=rfl;have e2:Int.ofNat b=(b:Int):=rfl;omega) hk
end
section
variable {P:Program}{γ γ0:Gam}{s s0 S:St}{w w0:World}
end
end Go.AM
namespace Go.AM
open Go.RowKit
noncomputable def ofT {α:Type}:List (Nat×α)->T α
 | []=>.lf
 | p::l=>(ofT l).set p.2 p.1
theorem ofT_get {α:Type}:∀ {l:List (Nat×α)}{f:Nat}{a:α},(ofT l).get f=some a->∃ p ∈ l,p.1=f∧p.2=a
 | [],_,_,h=>by cases h
 | p::l,f,a,h=>by
  rcases T.get_set h with ⟨rfl,rfl⟩|⟨_,h⟩
  ·exact ⟨p,by simp,rfl,rfl⟩
  ·obtain ⟨q,hq,e⟩:=ofT_get h
   exact ⟨q,by simp [hq],e⟩
def GOk (P : Program) (p : Nat × AFn) : Prop := ∃ fn, P.funcs[p.1]? = some fn ∧ compF P fn = some p.2 ∧ (fn.name == "runtime.NumGoroutine") = false
def OOk (P:Program) (p:Nat×Ov):Prop:=OvOk P p.1 p.2
def XOk (P:Program) (p:Nat×Ov):Prop:=∀ γ args vals s w v s',All2 (VR γ) args vals->Sim P γ s w->p.2 args s=.ok v s'->
 ∃ v' γ' w',(callFunc p.1 vals.toArray).run P w=.ok (.value v') w'∧Stp γ s w γ' s' w'∧Sim P γ' s' w'∧VR γ' v v'
def All {α:Type}(p:α->Prop):List α->Prop
 | []=>True
 | x::l=>p x∧All p l
theorem All.get {α:Type}{p:α->Prop}:∀ {l:List α},All p l->∀ x ∈ l,p x
 | [],_,x,h=>by simp at h
 | y::l,h,x,hx=>by
  rcases List.mem_cons.1 hx with rfl|hx
  ·exact h.1
  ·exact All.get h.2 x hx
theorem envOk {P:Program}{e:Env}{gl:List (Nat×AFn)}{ol xl:List (Nat×Ov)}(hG:e.G=ofT gl) (hO:e.O=ofT ol) (hX:e.X=ofT xl) (g:All (GOk P) gl) (o:All (OOk P) ol) (x:All (XOk P) xl):EnvOk P e:=by
 refine ⟨fun f af h=>?_,fun f h hh=>?_,fun f h hh=>?_⟩
 ·rw [hG] at h
  obtain ⟨p,hp,rfl,rfl⟩:=ofT_get h
  exact g.get p hp
 ·rw [hO] at hh
  obtain ⟨p,hp,rfl,rfl⟩:=ofT_get hh
  exact OvOk.env (o.get p hp)
 ·rw [hX] at hh
  obtain ⟨p,hp,rfl,rfl⟩:=ofT_get hh
  exact x.get p hp
noncomputable def isTrue (r:RV):Bool:=RV.rec false (fun v _=>BR.rec false true false (asBool v)) r
theorem isTrue_ok {r:RV}(h:isTrue r=true):∃ s',r=.ok (.bool true) s':=by
 cases r with
 | fail=>cases h
 | ok v s=>
  have h:(BR.rec false true false (asBool v):Bool)=true:=h
  cases hb:asBool v with
  | no=>rw [hb] at h;cases h
  | tt=>rw [asBool_tt hb];exact ⟨s,rfl⟩
  | ff=>rw [hb] at h;cases h
end Go.AM
namespace Go.AM
def RLoop (l:Nat) (s:St) (K:LoopState->Option Nat->Nat->AT->List Nat->AC->AC->Nat->Prop):Prop:=LP.rec False K (loopAt l s)
def RdEnd (l:Nat) (k:AV->St->Prop):EQ:=fun x _ s _=>
 Ex.rec (RLoop l s fun _ _ fn tm ps asg body d=>k (.bool true) (s.put l (.loop .ready none fn tm ps asg body d)))
  (fun id=>RLoop l s fun _ _ fn tm ps asg body d=>k (.bool false) (s.put l (.loop .done (some (id+1)) fn tm ps asg body d)))
  (RLoop l s fun _ _ fn tm ps asg body d=>k (.bool false) (s.put l (.loop .done (some 0) fn tm ps asg body d))) x
def RdGo (e:Env) (l:Nat) (body:AC) (k:AV->St->Prop):EQ:=fun x t s ds=>
 Ex.rec (RLoop l s fun st pend fn tm ps asg b d=>LoopState.rec (VE e body t (s.put l (.loop .busy pend fn tm ps asg b d)) (some l) ds (RdEnd l k)) False False False st) (fun _=>False) False x
def RdAll (e:Env) (l:Nat) (vs:List AV) (s:St) (k:AV->St->Prop):Prop:=
 RLoop l s fun _ _ _ tm ps asg body _=>wB (Nat.beq (lenL vs) (lenL ps)) (VE e asg (setPs ps vs tm) s (some l) [] (RdGo e l body k)) False
theorem RLoop_ok {l:Nat}{s:St}{K:LoopState->Option Nat->Nat->AT->List Nat->AC->AC->Nat->Prop}(h:RLoop l s K):∃ a b c d e f g i,loopAt l s=.lp a b c d e f g i∧K a b c d e f g i:=by
 unfold RLoop at h
 cases hq:loopAt l s with
 | no=>rw [hq] at h;exact h.elim
 | lp a b c d e f g i=>rw [hq] at h;exact ⟨a,b,c,d,e,f,g,i,rfl,h⟩
section
variable {P:Program}{e:Env}
variable {s:St}
theorem EExec.elim {c:AC}{t:AT}{rd:Option Nat}{ds:List Nat}{Q:EQ}(h:EExec e c t s rd ds Q):∃ n x t' s' ds',exec e n c t s rd ds=.ok x t' s' ds'∧Q x t' s' ds':=by
 unfold EExec at h;exact h
theorem ERound.mk {l:Nat}{vs:List AV}{k:AV->St->Prop}(h:RdAll e l vs s k):ERound e l vs s k:=by
 unfold RdAll at h
 obtain ⟨st,pend,fn,tm,ps,asg,body,d,hl,h⟩:=RLoop_ok h
 have hb:Nat.beq (lenL vs) (lenL ps)=true:=by
  cases hq:Nat.beq (lenL vs) (lenL ps) with
  | true=>rfl
  | false=>rw [hq] at h;exact (show False from h).elim
 rw [hb] at h
 have h:VE e asg (setPs ps vs tm) s (some l) [] (RdGo e l body k):=h
 obtain ⟨n,x,t1,s1,ds1,h1,h⟩:=(ve_sound h).elim
 cases x with
 | exit id=>exact (show False from h).elim
 | ret=>exact (show False from h).elim
 | normal=>
  obtain ⟨st1,pend1,fn1,tm1,ps1,asg1,b1,d1,hl1,h⟩:=RLoop_ok (show RLoop l s1 (fun st pend fn tm ps asg b d=>LoopState.rec (VE e body t1 (s1.put l (.loop .busy pend fn tm ps asg b d)) (some l) ds1 (RdEnd l k)) False False False st) from h)
  cases st1 with
  | busy=>exact (show False from h).elim
  | done=>exact (show False from h).elim
  | exhausted=>exact (show False from h).elim
  | ready=>
   obtain ⟨m,x2,t2,s2,ds2,h2,h⟩:=(ve_sound (show VE e body t1 (s1.put l (.loop .busy pend1 fn1 tm1 ps1 asg1 b1 d1)) (some l) ds1 (RdEnd l k) from h)).elim
   have key:∃ v s',roundEnd l (.ok x2 t2 s2 ds2)=.ok v s'∧k v s':=by
    cases x2 with
    | normal=>
     obtain ⟨a,b,c,dd,ee,f,g,i,hq,hk⟩:=RLoop_ok (show RLoop l s2 (fun _ _ fn tm ps asg body d=>k (.bool true) (s2.put l (.loop .ready none fn tm ps asg body d))) from h)
     refine ⟨_,_,?_,hk⟩
     show roundPut l .ready none true s2=_
     unfold roundPut;rw [hq]
    | exit id=>
     obtain ⟨a,b,c,dd,ee,f,g,i,hq,hk⟩:=RLoop_ok (show RLoop l s2 (fun _ _ fn tm ps asg body d=>k (.bool false) (s2.put l (.loop .done (some (id+1)) fn tm ps asg body d))) from h)
     refine ⟨_,_,?_,hk⟩
     show roundPut l .done (some (id+1)) false s2=_
     unfold roundPut;rw [hq]
    | ret=>
     obtain ⟨a,b,c,dd,ee,f,g,i,hq,hk⟩:=RLoop_ok (show RLoop l s2 (fun _ _ fn tm ps asg body d=>k (.bool false) (s2.put l (.loop .done (some 0) fn tm ps asg body d))) from h)
     refine ⟨_,_,?_,hk⟩
     show roundPut l .done (some 0) false s2=_
     unfold roundPut;rw [hq]
   obtain ⟨v,s',hre,hk⟩:=key
   unfold ERound
   refine ⟨max n m,v,s',?_,hk⟩
   unfold roundA
   rw [hl]
   show gd (Nat.beq (lenL vs) (lenL ps)) (roundGo (exec e (max n m)) l body (exec e (max n m) asg (setPs ps vs tm) s (some l) []))=_
   rw [hb,exec_le (Nat.le_max_left n m) _ _ _ _ _ _ _ _ _ h1]
   show (LP.rec .fail (fun st pend fn tm ps asg b d=>LoopState.rec (roundEnd l (exec e (max n m) body t1 (s1.put l (.loop .busy pend fn tm ps asg b d)) (some l) ds1)) .fail .fail .fail st) (loopAt l s1):RV)=_
   rw [hl1]
   show roundEnd l (exec e (max n m) body t1 (s1.put l (.loop .busy pend1 fn1 tm1 ps1 asg1 b1 d1)) (some l) ds1)=_
   rw [exec_le (Nat.le_max_right n m) _ _ _ _ _ _ _ _ _ h2]
   exact hre
end
mutual
def nmV (r:Nat):AV->Bool
 | .ptr r' _=>Nat.beq r' r
 | .sl r' _ _ _=>Nat.beq r' r
 | .map r'=>Nat.beq r' r
 | .yld r'=>Nat.beq r' r
 | .fn _ a b=>nmVs r a || nmVs r b
 | .iface _ v=>nmV r v
 | .agg l=>nmVs r l
 | .tup l=>nmVs r l
 | _=>false
def nmVs (r:Nat):List AV->Bool
 | []=>false
 | v::l=>nmV r v || nmVs r l
end
section
variable {P:Program}{γ:Gam}
mutual
variable {r:Nat}
theorem nmV_loc:∀ (v:AV) {v':Value},nmV r v=true->VR γ v v'->∃ L,γ r=some L
 | .ptr r' o,_,h,.ptr _ _ L e=>⟨L,by rw [← Nat.eq_of_beq_eq_true (show Nat.beq r' r=true from h)];exact e⟩
 | .sl r' o n (some c),_,h,.sl _ _ _ _ L e _=>⟨L,by rw [← Nat.eq_of_beq_eq_true (show Nat.beq r' r=true from h)];exact e⟩
 | .sl r' o n none,_,h,.slu _ _ _ _ L e _ _ _=>⟨L,by rw [← Nat.eq_of_beq_eq_true (show Nat.beq r' r=true from h)];exact e⟩
 | .map r',_,h,.map _ L e=>⟨L,by rw [← Nat.eq_of_beq_eq_true (show Nat.beq r' r=true from h)];exact e⟩
 | .yld r',_,h,.yld _ L e=>⟨L,by rw [← Nat.eq_of_beq_eq_true (show Nat.beq r' r=true from h)];exact e⟩
 | .fn f xs ys,_,h,.fn _ _ _ as bs a b=>by
  simp only [nmV,Bool.or_eq_true] at h
  rcases h with h|h
  ·exact nmVs_loc xs h a
  ·exact nmVs_loc ys h b
 | .iface t v,_,h,.iface _ _ v' e=>nmV_loc v h e
 | .agg l,_,h,.agg _ a e o=>nmVs_loc l h e
 | .tup l,_,h,.tup _ a e=>nmVs_loc l h e
 | .bool _,_,h,_=>by cases h
 | .int _ _,_,h,_=>by cases h
 | .str _,_,h,_=>by cases h
 | .nilp,_,h,_=>by cases h
 | .nils,_,h,_=>by cases h
 | .es,_,h,_=>by cases h
 | .ez,_,h,_=>by cases h
 | .nilm,_,h,_=>by cases h
 | .nilf,_,h,_=>by cases h
 | .nili,_,h,_=>by cases h
 | .any,_,h,_=>by cases h
 | .fz ..,_,h,_=>by cases h
 | .fp _,_,h,_=>by cases h
theorem nmVs_loc:∀ (l:List AV) {m:List Value},nmVs r l=true->All2 (VR γ) l m->∃ L,γ r=some L
 | [],_,h,_=>by cases h
 | v::l,_,h,.cons a b=>by
  simp only [nmVs,Bool.or_eq_true] at h
  rcases h with h|h
  ·exact nmV_loc v h a
  ·exact nmVs_loc l h b
end
inductive Named (t:AT) (s:St):Nat->Prop
 | tmp {r:Nat}(i:Nat) (v:AV):t.get i=some v->nmV r v=true->Named t s r
 | cell {r:Nat}(r' e:Nat) (cs:List AV) (i:Nat) (v:AV):Named t s r'->s.get r'=some (.row e cs)->cs[i]?=some v->nmV r v=true->Named t s r
theorem Named.loc {t:AT}{s:St}{w:World}{tm:Array Value}(ht:TR γ t tm) (hs:Sim P γ s w) {r:Nat}(h:Named t s r):∃ L,γ r=some L:=by
 induction h with
 | tmp i v h1 h2=>
  obtain ⟨v',_,hv⟩:=ht i v h1
  exact nmV_loc v h2 hv
 | cell r' e cs i v _ h1 h2 h3 ih=>
  obtain ⟨L,hL⟩:=ih
  obtain ⟨c,e1,_,_,_,_,e6,_⟩:=hs.obj r' _ L h1 hL
  obtain ⟨v',_,hv,_⟩:=e6 i v h2
  exact nmV_loc v h3 hv
end
def RPend (l fn:Nat) (tm:AT) (ps:List Nat) (asg body:AC) (d:Nat) (pend:Option Nat) (ds:List Nat) (t:AT) (s:St) (Q:EQ):Prop:=
 Option.rec (Q .normal t (s.put l (.loop .exhausted pend fn tm ps asg body d)) ds) (fun i=>Nat.rec (Q .ret t (s.put l (.loop .exhausted pend fn tm ps asg body d)) ds) (fun id _=>Q (.exit id) t (s.put l (.loop .exhausted pend fn tm ps asg body d)) ds) i) pend
def RngOut (l:Nat) (ds:List Nat) (t:AT) (s:St) (Q:EQ):Prop:=
 RLoop l s fun st pend fn tm ps asg body d=>LoopState.rec (RPend l fn tm ps asg body d pend ds t s Q) False (RPend l fn tm ps asg body d pend ds t s Q) (RPend l fn tm ps asg body d pend ds t s Q) st
theorem rngOut_ok {l:Nat}{ds:List Nat}{t:AT}{s:St}{Q:EQ}(h:RngOut l ds t s Q):∃ x t' s' ds',rngEnd l ds t s=.ok x t' s' ds'∧Q x t' s' ds':=by
 obtain ⟨st,pend,fn,tm,ps,asg,body,d,hl,h⟩:=RLoop_ok h
 have fin:RPend l fn tm ps asg body d pend ds t s Q->∃ x t' s' ds',rngPend l fn tm ps asg body d pend ds t s=.ok x t' s' ds'∧Q x t' s' ds':=by
  intro h
  cases pend with
  | none=>exact ⟨_,_,_,_,rfl,h⟩
  | some i=>cases i with
   | zero=>exact ⟨_,_,_,_,rfl,h⟩
   | succ id=>exact ⟨_,_,_,_,rfl,h⟩
 unfold rngEnd
 rw [hl]
 cases st with
 | busy=>exact (show False from h).elim
 | ready=>exact fin h
 | done=>exact fin h
 | exhausted=>exact fin h
section
variable {P:Program}{γ:Gam}{s:St}{w:World}{t:AT}
variable {ds:List Nat}
theorem rng_endQ {N m:Nat}{b:Option Nat}{γ0:Gam}{s0:St}{w0:World}{l:Nat}{L:Loc}{a:Act}{x:Ex}{t':AT}{s':St}{ds':List Nat}{v':Value}{R:Exit->Act->World->Prop}(hR:∀ ex a w,Post P γ0 s0 w0 N x t' s' ds' ex a w->R ex a w) (hN:N≤a.tmps.size) (ht:TR γ t a.tmps) (hs:Sim P γ s w) (hL:γ l=some L) (hd:DR γ ds a.defers) (hst:Stp γ0 s0 w0 γ s w)
 (h:rngEnd l ds t s=.ok x t' s' ds'):rangePost (fen b) m P L.b R a (.returned v') w:=by
 unfold rngEnd at h
 obtain ⟨st,pend,fn,tm,ps,asg,body,d,hg,h⟩:=LPR_ok h
 obtain ⟨lp,k1,k2,k3,_⟩:=hs.obj l _ L hg hL
 have hend:st≠.busy->(Instr.endLoop L.b).run P w=.ok lp.pending { w with heap:=w.heap.setIfInBounds L.b (.loop { lp with state:=.exhausted,pending:=lp.pending }) }:=by
  intro hb
  have:(lp.state == LoopState.busy)=false:=by rw [k2];cases st <;> first|rfl|exact absurd rfl hb
  simp only [Instr.endLoop,Sem.run_bind,run_getLoop k1,Result.andThen_ok,this]
  simp only [Bool.false_eq_true,if_false,Sem.run_bind,Sem.run_pure,Result.andThen_ok,run_setObj_loop _ k1]
 obtain ⟨hst2,hs2⟩:=loop_turn (st':=.exhausted) (pend':=pend) (pc':=lp.pending) hs hg hL k1 k3
 have fin:st≠.busy->rngPend l fn tm ps asg body d pend ds t s=.ok x t' s' ds'->rangePost (fen b) m P L.b R a (.returned v') w:=by
  intro hb hk
  refine ⟨_,_,hend hb,?_⟩
  have hpost:Post P γ0 s0 w0 N x t (s.put l (.loop .exhausted pend fn tm ps asg body d)) ds (exOf x) a { w with heap:=w.heap.setIfInBounds L.b (.loop { lp with state:=.exhausted,pending:=lp.pending }) }:=
   ⟨rfl,hN,γ,hst.trans hst2,hs2,ht,hd⟩
  cases pend with
  | none=>
   cases hk
   rw [show lp.pending=none from k3] at hpost ⊢
   exact hR _ _ _ hpost
  | some i=>
   cases i with
   | zero=>
    cases hk
    rw [show lp.pending=some .ret from k3] at hpost ⊢
    exact wpIn_ret (hR _ _ _ hpost)
   | succ id=>
    cases hk
    rw [show lp.pending=some (.exit id) from k3] at hpost ⊢
    exact wpIn_exit (hR _ _ _ hpost)
 cases st with
 | ready=>exact fin (by simp) h
 | busy=>cases h
 | done=>exact fin (by simp) h
 | exhausted=>exact fin (by simp) h
theorem W.rngI {k f:Nat}{first cap:List AV}{g:AO}{ps:List Nat}{asg body:AC}{Q:EQ}(hB:HasBody P f) (hg:ev g t=.some (.fn f first cap)) (hmap:∀ r,r<s.next->Named t s r)
 (hC:C1 P f (first++.yld (s.next+1)::cap) ((s.alloc .defd).alloc (.loop .ready none 0 t ps asg body s.next)) (fun _ s'=>RngOut (s.next+1) (s.next::ds) t s' Q)):W P k none (.rng g ps asg body) t s ds Q:=by
 intro N c γ w a b γ0 s0 w0 m h1 h2 h3 h4 h5 h6 h7 h8 h9 h10
 obtain ⟨y,qs,c1,c2,rfl,ey,rfl,e1,e2,hps⟩:=(codeOf h1:∃ y qs c1 c2,c=.rangeFunc y qs c1 c2∧aop y=some g∧qs.toList=ps∧comp P N c1=some asg∧comp P N c2=some body∧∀ p ∈ ps,p<N)
 cases h5
 refine wpIn_rangeFunc fun fn _=>?_
 have hgR:=ev_VR h3 ey hg
 obtain ⟨hst1,hs1⟩:=h4.alloc .defd (.deferred (some [])) 0 0 (by show (w.heap.push _)[w.heap.size]?=_;simp)
 have hn1:(s.alloc .defd).next=s.next+1:=St.next_alloc _ _
 have hle1:=hst1.le
 obtain ⟨γ1,hγ1⟩:∃ γ1,γ1=γ1:=⟨γ,rfl⟩
 obtain ⟨hst2,hs2⟩:=hs1.alloc (.loop .ready none 0 t qs.toList asg body s.next) (.loop { state:=.ready,pending:=none,fn:=fn,tmps:=a.tmps,params:=qs,assign:=c1,body:=c2,defers:=w.heap.size }) 0 0
  ⟨{ state:=.ready,pending:=none,fn:=fn,tmps:=a.tmps,params:=qs,assign:=c1,body:=c2,defers:=w.heap.size },by show ((w.heap.push _).push _)[(w.heap.push _).size]?=_;rw [Array.getElem?_push,if_pos rfl],rfl,rfl,(h3.mono hle1).mono (ext_le (hs1.nx _ (Nat.le_refl _))),rfl,⟨N,h2,e1,e2,hps⟩,⟨w.heap.size,0,0,0⟩,(ext_le (hs1.nx _ (Nat.le_refl _))).loc _ _ (ext_same _ _ _),rfl⟩
 have hgR2:=(hgR.mono hle1).mono hst2.le
 rw [hn1] at hst2 hs2 hgR2
 generalize hv:a.eval y=vy at hgR2
 cases hgR2 with
 | fn _ _ _ as bs a1 a2=>
  obtain ⟨fn',cc,f1,f2,f3⟩:=hB
  have f3' : fn'.name ≠ "runtime.NumGoroutine" := by simpa using f3
  have hall:∀ r,r<((s.alloc .defd).alloc (.loop .ready none 0 t qs.toList asg body s.next)).next->∃ L,(ext (ext γ s.next ⟨w.heap.size,0,0,0⟩) (s.next+1) ⟨(w.alloc (.deferred (some []))).heap.size,0,0,0⟩) r=some L:=by
   intro r hr
   rw [St.next_alloc,hn1] at hr
   rcases Nat.lt_or_ge r s.next with hlt|hge
   ·obtain ⟨L,hL⟩:=(hmap r hlt).loc h3 h4
    exact ⟨L,hst2.le.loc _ _ (hle1.loc _ _ hL)⟩
   ·rcases Nat.eq_or_lt_of_le hge with rfl|hgt
    ·exact ⟨_,hst2.le.loc _ _ (ext_same _ _ _)⟩
    ·have:r=s.next+1:=by omega
     subst this
     exact ⟨_,ext_same _ _ _⟩
  have hargs:All2 (VR (ext (ext γ s.next ⟨w.heap.size,0,0,0⟩) (s.next+1) ⟨(w.alloc (.deferred (some []))).heap.size,0,0,0⟩)) (first++.yld (s.next+1)::cap) (as.toList++(Value.func (.yield (w.alloc (.deferred (some []))).heap.size) #[] #[]::bs.toList)):=
   a1.append (.cons (.yld _ _ (ext_same _ _ _)) a2)
  have hcalls:=hC _ (as.toList++(Value.func (.yield (w.alloc (.deferred (some []))).heap.size) #[] #[]::bs.toList)) _ (m-1) hall hargs hs2
  have heq:(as.toList++(Value.func (.yield (w.alloc (.deferred (some []))).heap.size) #[] #[]::bs.toList)).toArray=as++#[Value.func (.yield (w.alloc (.deferred (some []))).heap.size) #[] #[]]++bs:=by simp
  rw [heq] at hcalls
  refine ⟨(w.alloc (.deferred (some []))).heap.size,[{ target:=.collected w.heap.size,args:=#[] }],((w.alloc (.deferred (some []))).alloc (.loop { state:=.ready,pending:=none,fn:=fn,tmps:=a.tmps,params:=qs,assign:=c1,body:=c2,defers:=w.heap.size })),{ target:=.fn (.func f) bs,args:=as++#[Value.func (.yield (w.alloc (.deferred (some []))).heap.size) #[] #[]] },((w.alloc (.deferred (some []))).alloc (.loop { state:=.ready,pending:=none,fn:=fn,tmps:=a.tmps,params:=qs,assign:=c1,body:=c2,defers:=w.heap.size })),f,as++#[Value.func (.yield (w.alloc (.deferred (some []))).heap.size) #[] #[]]++bs,_,?_,?_,fun f' _=>fen_fn none f',?_,fen_depth none m,callsIn_fen (CallsIn.mono hcalls ?_)⟩
  ·rw [fen_round]
   simp only [Instr.enterLoop,Sem.run_bind,run_new',Result.andThen_ok,Sem.run_pure]
  ·have hmp:(#[Operand.const (.func (.yield (w.alloc (.deferred (some []))).heap.size) #[] #[])]:Array Operand).map a.eval=#[.func (.yield (w.alloc (.deferred (some []))).heap.size) #[] #[]]:=by simp [Act.eval]
   show (Deferred.ofValue (a.eval y) ((#[Operand.const (.func (.yield (w.alloc (.deferred (some []))).heap.size) #[] #[])]:Array Operand).map a.eval)).run P _=_
   rw [hmp,hv];rfl
  ·simp [invoke,callFunc,f1,f3',f2]
  ·rintro _ w3 ⟨v,s3,hout,v',γ3,rfl,hst3,hs3,_⟩
   obtain ⟨x,t',s',ds',hgo,hq⟩:=rngOut_ok hout
   refine rng_endQ (L:=⟨(w.alloc (.deferred (some []))).heap.size,0,0,0⟩) (a:={ a with defers:=[{ target:=.collected w.heap.size,args:=#[] }]++a.defers }) (γ0:=γ0) (s0:=s0) (w0:=w0) (N:=N) (fun ex a w hp=>⟨x,t',s',ds',hq,hp⟩) h2 (((h3.mono hle1).mono hst2.le).mono hst3.le) hs3 (hst3.le.loc _ _ (ext_same _ _ _)) ?_ (((h7.trans hst1).trans hst2).trans hst3) hgo
   have hdr:DR (ext γ s.next ⟨w.heap.size,0,0,0⟩) (s.next::ds) ([{ target:=.collected w.heap.size,args:=#[] }]++a.defers):=.cons ⟨_,ext_same _ _ _,rfl⟩ (h6.mono hle1)
   exact (hdr.mono hst2.le).mono hst3.le
end
@[reducible] def RowOkK (k n:Nat) (all:List Nat) (s:St):List AObj->List Nat->Prop
 | [],[]=>True
 | o::l,r::rs=>(bdO k n o=true∧s.get r=some (mapO (nm all) o))∧RowOkK k n all s l rs
 | _,_=>False
structure AbsK (k:Nat) (t:AT) (s:St) (tl:List (Nat×AV)) (os:List AObj) (rs:List Nat):Prop where
 fix:rs.take k=List.range k
 nd:rs.Nodup
 tmp:TmpOk os.length rs t tl
 row:RowOkK k os.length rs s os rs
variable {k:Nat}{s:St}
theorem RowOkK.get {n:Nat}{all:List Nat}:∀ {l:List AObj}{rs:List Nat},RowOkK k n all s l rs->l.length=rs.length∧∀ (j:Nat) o,l[j]?=some o->∃ r,rs[j]?=some r∧bdO k n o=true∧s.get r=some (mapO (nm all) o)
 | [],[],_=>⟨rfl,fun j o h=>by simp at h⟩
 | [],_::_,h=>h.elim
 | _::_,[],h=>h.elim
 | o::l,r::rs,h=>by
  obtain ⟨h1,h2⟩:=RowOkK.get h.2
  refine ⟨by simp [h1],fun j o' hj=>?_⟩
  cases j with
  | zero=>simp at hj;subst hj;exact ⟨r,by simp,h.1⟩
  | succ j=>simpa using h2 j o' (by simpa using hj)
theorem AbsK.ren {t:AT}{tl:List (Nat×AV)}{os:List AObj}{rs:List Nat}(h:AbsK k t s tl os rs):Ren k (nm rs) t s [] (ofL tl) (allocs St0 os) []:=by
 obtain ⟨hl,hr⟩:=h.row.get
 have hk:k≤rs.length:=by
  have:=congrArg List.length h.fix
  simp at this;omega
 have hj:∀ j,j<k->rs[j]?=some j:=by
  intro j hj
  have:(rs.take k)[j]?=(List.range k)[j]?:=by rw [h.fix]
  rw [List.getElem?_take,if_pos hj,List.getElem?_range hj] at this
  exact this
 refine ⟨fun r hr=>nm_get (hj r hr),by rw [allocs0_next];omega,?_,?_,?_,⟨rfl,by simp⟩⟩
 ·intro i j hi hj e
  rw [allocs0_next] at hi hj
  have e1:=nm_get (List.getElem?_eq_getElem (l:=rs) (i:=i) (by omega))
  have e2:=nm_get (List.getElem?_eq_getElem (l:=rs) (i:=j) (by omega))
  rw [e1,e2] at e
  exact (List.getElem_inj h.nd).1 e
 ·intro i v hv
  obtain ⟨p,hp,rfl,rfl⟩:=ofL_get hv
  rw [allocs0_next]
  exact h.tmp.get p hp
 ·intro r o ho
  have:=allocs_ge os St0 (Nat.zero_le r) (fun _ _=>rfl) ho
  have hz:r-St0.next=r:=Nat.sub_zero r
  rw [hz] at this
  obtain ⟨q,hq,hb,hg⟩:=hr r o this
  rw [allocs0_next,nm_get hq]
  exact ⟨(List.getElem?_eq_some_iff.1 this).1,hb,hg⟩
section
variable {P:Program}{rd:Option Nat}{ac:AC}{t:AT}{s:St}{Q:EQ}{k:Nat}
theorem W.loopK {α:Type}(tl:α->List (Nat×AV)) (os:α->List AObj) (μ:α->Nat) (I:α->Prop) (x0:α) (rs:List Nat) (h0:I x0) (ha:AbsK k t s (tl x0) (os x0) rs)
 (hr:∀ x,I x->W P k rd ac (ofL (tl x)) (allocs St0 (os x)) [] (Then (fun t s ds=>ds=[]∧∃ x',I x'∧μ x'<μ x∧∃ rs,AbsK k t s (tl x') (os x') rs) Q)):W P k rd (.loop ac) t s [] Q:=by
 refine W.loop (fun n t s ds=>ds=[]∧∃ x,n=μ x∧I x∧∃ rs,AbsK k t s (tl x) (os x) rs) (μ x0) ⟨rfl,x0,rfl,h0,rs,ha⟩ ?_
 rintro n t s ds ⟨rfl,x,rfl,hi,rs,ha⟩
 refine W.ren ha.ren ((hr x hi).mono ?_)
 intro y t s ds hq
 cases y with
 | normal=>
  obtain ⟨rfl,x',hi',hm,rs,ha⟩:=(show ds=[]∧∃ x',I x'∧μ x'<μ x∧∃ rs,AbsK k t s (tl x') (os x') rs from hq)
  exact ⟨μ x',hm,rfl,x',rfl,hi',rs,ha⟩
 | exit id=>exact hq
 | ret=>exact hq
end
noncomputable def relO (R:List AV->AV->Prop):Ov:=fun args s=>open Classical in if h:∃ u,R args u then .ok (Classical.choose h) s else .fail
variable {P:Program}{f:Nat}
theorem relO_ok {R:List AV->AV->Prop}(hb:HasBody P f) (h:∀ args u,R args u->∀ s,C P f args s (fun v s'=>v=u∧s'=s)):OvOk P f (relO R):=by
 refine ⟨hb,fun args s v s' hh=>?_⟩
 unfold relO at hh
 split at hh
 ·rename_i hx
  cases hh
  exact h args _ (Classical.choose_spec hx) s
 ·cases hh
variable {e:Env}{vs:List AV}{s:St}{k:AV->St->Prop}
theorem ESc.rel {R:List AV->AV->Prop}(hi:Con e f (relO R)) (hx:∃ u,R vs u) (hk:∀ u,R vs u->k u s):ESc e f vs s k:=by
 refine ESc.ov hi (v:=Classical.choose hx) (s':=s) ?_ (hk _ (Classical.choose_spec hx))
 unfold relO
 rw [dif_pos hx]
theorem ECall.rel {R:List AV->AV->Prop}(hi:Con e f (relO R)) (hx:∃ u,R vs u) (hk:∀ u,R vs u->k u s):ECall e f vs s k:=by
 refine ECall.ov hi.O (v:=Classical.choose hx) (s':=s) ?_ (hk _ (Classical.choose_spec hx))
 unfold relO
 rw [dif_pos hx]
theorem C.abs {args:List AV}{u:AV}{l:List AObj}(h:C P f args St0 (fun v s'=>∃ rs,Abs (T.set .lf v 0) s' [(0,u)] l rs)):C P f args St0 (fun v s'=>v=u∧s'=allocs St0 l):=by
 intro γ vals w m hA hs
 refine CallsIn.mono (h γ vals w m hA hs) ?_
 rintro e w' ⟨v,s',⟨rs,hab⟩,v',γ',rfl,hst,hsim,hv⟩
 have hT:TR γ' (T.set .lf v 0) #[v']:=by
  intro i x hx
  rcases T.get_set hx with ⟨rfl,rfl⟩|⟨_,h⟩
  ·exact ⟨v',rfl,hv⟩
  ·cases h
 obtain ⟨γ2,g1,g2,_,g4⟩:=hab.ren.sim (D:=[]) hT hsim .nil hst rfl hs.nx (fun r hr=>absurd hr (Nat.not_lt_zero r))
 obtain ⟨w2,e1,e2⟩:=g1 0 u rfl
 cases e1
 exact ⟨u,_,⟨rfl,rfl⟩,v',γ2,rfl,g4,g2,e2⟩
end Go.AM
namespace Go.AM
def Tells (P:Program) (k:Nat) (t:AT) (s:St) (ds:List Nat) (t2:AT) (s2:St) (ds2:List Nat):Prop:=
 ∀ (γ:Gam) (w:World) (tm:Array Value) (D:List Deferred) (γ0:Gam) (s0:St) (w0:World),TR γ t tm->Sim P γ s w->DR γ ds D->Stp γ0 s0 w0 γ s w->s0.next=k->(∀ r,k≤r->γ0 r=none)->(∀ r,r<k->∃ L,γ0 r=some L)->
  ∃ γ2,TR γ2 t2 tm∧Sim P γ2 s2 w∧DR γ2 ds2 D∧Stp γ0 s0 w0 γ2 s2 w
section
variable {P:Program}{k:Nat}{rd:Option Nat}{ac:AC}{t:AT}{s:St}{ds:List Nat}{t2:AT}{s2:St}{ds2:List Nat}{Q:EQ}
theorem Tells.trans {t3:AT}{s3:St}{ds3:List Nat}(h:Tells P k t s ds t2 s2 ds2) (h':Tells P k t2 s2 ds2 t3 s3 ds3):Tells P k t s ds t3 s3 ds3:=by
 intro γ w tm D γ0 s0 w0 h1 h2 h3 h4 h5 h6 h7
 obtain ⟨γ2,q1,q2,q3,q4⟩:=h γ w tm D γ0 s0 w0 h1 h2 h3 h4 h5 h6 h7
 exact h' γ2 w tm D γ0 s0 w0 q1 q2 q3 q4 h5 h6 h7
theorem Ren.tells {ρ:Nat->Nat}(h:Ren k ρ t s ds t2 s2 ds2):Tells P k t s ds t2 s2 ds2:=fun γ w tm D γ0 s0 w0 h1 h2 h3 h4 h5 h6 h7=>h.sim h1 h2 h3 h4 h5 h6 h7
variable {tl:List (Nat×AV)}{os:List AObj}{rs:List Nat}
theorem Abs.tells (h:Abs t s tl os rs):Tells P 0 t s [] (ofL tl) (allocs St0 os) []:=h.ren.tells
theorem AbsK.tells (h:AbsK k t s tl os rs):Tells P k t s [] (ofL tl) (allocs St0 os) []:=h.ren.tells
theorem W.tells (h:Tells P k t s ds t2 s2 ds2) (hw:W P k rd ac t2 s2 ds2 Q):W P k rd ac t s ds Q:=by
 intro N c γ w a b γ0 s0 w0 m h1 h2 h3 h4 h5 h6 h7 h8 h9 h10
 obtain ⟨γ2,hT,hS,hD,hP⟩:=h γ w a.tmps a.defers γ0 s0 w0 h3 h4 h6 h7 h8 h9 h10
 exact hw N c γ2 w a b γ0 s0 w0 m h1 h2 hT hS h5 hD hP h8 h9 h10
theorem W.loopT {α:Type}(tl:α->List (Nat×AV)) (os:α->List AObj) (μ:α->Nat) (I:α->Prop) (x0:α) (h0:I x0) (ha:Tells P k t s [] (ofL (tl x0)) (allocs St0 (os x0)) [])
 (hr:∀ x,I x->W P k rd ac (ofL (tl x)) (allocs St0 (os x)) [] (Then (fun t s ds=>ds=[]∧∃ x',I x'∧μ x'<μ x∧Tells P k t s [] (ofL (tl x')) (allocs St0 (os x')) []) Q)):W P k rd (.loop ac) t s [] Q:=by
 refine W.loop (fun n t s ds=>ds=[]∧∃ x,n=μ x∧I x∧Tells P k t s [] (ofL (tl x)) (allocs St0 (os x)) []) (μ x0) ⟨rfl,x0,rfl,h0,ha⟩ ?_
 rintro n t s ds ⟨rfl,x,rfl,hi,ha⟩
 refine W.tells ha ((hr x hi).mono ?_)
 intro y t s ds hq
 cases y with
 | normal=>
  obtain ⟨rfl,x',hi',hm,ha⟩:=(show ds=[]∧∃ x',I x'∧μ x'<μ x∧Tells P k t s [] (ofL (tl x')) (allocs St0 (os x')) [] from hq)
  exact ⟨μ x',hm,rfl,x',rfl,hi',ha⟩
 | exit id=>exact hq
 | ret=>exact hq
end
mutual
def frzV (n:Nat) (cs:List AV):AV->AV
 | .ptr r o=>cond (Nat.beq r n) (.fp (cs.drop o)) (.ptr r o)
 | .sl r o m c=>cond (Nat.beq r n) (.fz m none (cs.drop o)) (.sl r o m c)
 | .fn f a b=>.fn f (frzVs n cs a) (frzVs n cs b)
 | .iface t v=>.iface t (frzV n cs v)
 | .agg l=>.agg (frzVs n cs l)
 | .tup l=>.tup (frzVs n cs l)
 | .map r=>cond (Nat.beq r n) .any (.map r)
 | .yld r=>cond (Nat.beq r n) .any (.yld r)
 | v=>v
def frzVs (n:Nat) (cs:List AV):List AV->List AV
 | []=>[]
 | v::l=>frzV n cs v::frzVs n cs l
end
mutual
variable {n:Nat}{cs:List AV}
theorem hf_frzV:∀ (v:AV),hf v=true->frzV n cs v=v
 | .ptr ..,h=>by cases h
 | .sl ..,h=>by cases h
 | .map ..,h=>by cases h
 | .yld ..,h=>by cases h
 | .fn f a b,h=>by simp only [hf,Bool.and_eq_true] at h;simp only [frzV];rw [hfs_frzVs a h.1,hfs_frzVs b h.2]
 | .iface t v,h=>by simp only [frzV];rw [hf_frzV v h]
 | .agg l,h=>by simp only [frzV];rw [hfs_frzVs l h]
 | .tup l,h=>by simp only [frzV];rw [hfs_frzVs l h]
 | .bool _,_|.int _ _,_|.str _,_|.nilp,_|.nils,_|.es,_|.ez,_|.nilm,_|.nilf,_|.nili,_|.any,_|.fz _ _ _,_|.fp _,_=>rfl
theorem hfs_frzVs:∀ (l:List AV),hfs l=true->frzVs n cs l=l
 | [],_=>rfl
 | v::l,h=>by simp only [hfs,Bool.and_eq_true] at h;simp only [frzVs];rw [hf_frzV v h.1,hfs_frzVs l h.2]
end
variable {n:Nat}{cs:List AV}
theorem frzVs_append:∀ (l m:List AV),frzVs n cs (l++m)=frzVs n cs l++frzVs n cs m
 | [],m=>rfl
 | v::l,m=>by simp only [List.cons_append,frzVs];rw [frzVs_append l m]
theorem frzVs_length:∀ (l:List AV),(frzVs n cs l).length=l.length
 | []=>rfl
 | v::l=>by simp only [frzVs,List.length_cons];rw [frzVs_length l]
theorem frzVs_back:∀ {l:List AV}{i:Nat}{v:AV},(frzVs n cs l)[i]?=some v->∃ u,l[i]?=some u∧v=frzV n cs u
 | [],i,v,h=>by simp [frzVs] at h
 | x::l,i,v,h=>by
  simp only [frzVs] at h
  cases i with
  | zero=>simp at h;exact ⟨x,by simp,h.symm⟩
  | succ i=>simpa using frzVs_back (l:=l) (by simpa using h)
def frzE (n:Nat) (cs:List AV):List (AV×AV×Nat)->List (AV×AV×Nat)
 | []=>[]
 | (a,b,c)::l=>(frzV n cs a,frzV n cs b,c)::frzE n cs l
def frzO (n:Nat) (cs:List AV):AObj->AObj
 | .row e l=>.row e (frzVs n cs l)
 | .map es c=>.map (frzE n cs es) c
 | .iter m b se l=>cond (Nat.beq m n) .dead (.iter m b se l)
 | o=>o
def frzOs (n:Nat) (cs:List AV):List AObj->List AObj
 | []=>[]
 | o::l=>frzO n cs o::frzOs n cs l
theorem frzOs_length:∀ (l:List AObj),(frzOs n cs l).length=l.length
 | []=>rfl
 | v::l=>by simp only [frzOs,List.length_cons];rw [frzOs_length l]
theorem frzOs_back:∀ {l:List AObj}{i:Nat}{v:AObj},(frzOs n cs l)[i]?=some v->∃ u,l[i]?=some u∧v=frzO n cs u
 | [],i,v,h=>by simp [frzOs] at h
 | x::l,i,v,h=>by
  simp only [frzOs] at h
  cases i with
  | zero=>simp at h;exact ⟨x,by simp,h.symm⟩
  | succ i=>simpa using frzOs_back (l:=l) (by simpa using h)
def frzT (n:Nat) (cs:List AV):List (Nat×AV)->List (Nat×AV)
 | []=>[]
 | p::l=>(p.1,frzV n cs p.2)::frzT n cs l
theorem alive_frzO (o:AObj) (h:alive (frzO n cs o)=true):alive o=true:=by
 cases o <;> first|rfl|exact h
section
variable {P:Program}{γ γ2:Gam}{n:Nat}{cs:List AV}
mutual
theorem VR_frz (hz:∀ b c,γ.fz b=some c->γ2.fz b=some c) (hl:∀ r,r≠n->∀ L,γ r=some L->γ2 r=some L)
 (hc:∀ L,γ n=some L->L.o=0∧∃ c:Array Value,γ2.fz L.b=some c∧∃ vs:List Value,(∀ (j:Nat) (u:Value),vs[j]?=some u->c[j]?=some u)∧(∀ u ∈ vs,u.oneCell'=true)∧All2 (VR γ2) cs vs) (hf:hfs cs=true)
 (hm:∀ L v,γ n=some L->v=Value.map (some L.b)∨v=Value.func (.yield L.b) #[] #[]->v.oneCell'=true):∀ (v:AV) {v':Value},VR γ v v'->VR γ2 (frzV n cs v) v'
 | .bool b,_,h=>by cases h;exact .bool _
 | .int k n,_,h=>by cases h;exact .int _ _
 | .str l,_,h=>by cases h;rename_i s e;exact .str _ s e
 | .ptr r o,_,h=>by
  cases h with
  | ptr _ _ L e=>
   show VR γ2 (cond (Nat.beq r n) (.fp (cs.drop o)) (.ptr r o)) _
   cases hb:Nat.beq r n with
   | false=>exact .ptr r o L (hl r (Nat.ne_of_beq_eq_false hb) L e)
   | true=>
    have:=Nat.eq_of_beq_eq_true hb;subst this
    obtain ⟨h0,c,h1,vs,h2,h3,h4⟩:=hc L e
    rw [h0,Nat.zero_add]
    exact .fp _ (vs.drop o) L.b o c h1 (fun j u hu=>h2 (o+j) u (by rwa [List.getElem?_drop] at hu)) (fun u hu=>h3 u (List.mem_of_mem_drop hu)) (h4.drop o) (hfs_drop hf o)
 | .nilp,_,h=>by cases h;exact .nilp
 | .sl r o m c,_,h=>by
  show VR γ2 (cond (Nat.beq r n) (.fz m none (cs.drop o)) (.sl r o m c)) _
  cases hb:Nat.beq r n with
  | false=>
   have hne:=Nat.ne_of_beq_eq_false hb
   cases h with
   | sl _ _ _ c L e a=>exact .sl r o m c _ (hl r hne _ e) a
   | slu _ _ _ c L e a b d=>exact .slu r o m c _ (hl r hne _ e) a b d
  | true=>
   have:=Nat.eq_of_beq_eq_true hb;subst this
   have key:∀ (L:Loc) (cc:Nat),γ r=some L->m≤cc->VR γ2 (.fz m none (cs.drop o)) (.slice (some ⟨L.b,L.o+o,none⟩) m cc):=by
    intro L cc e hnc
    obtain ⟨h0,cl,h1,vs,h2,h3,h4⟩:=hc L e
    rw [h0,Nat.zero_add]
    exact .fz m none _ (vs.drop o) L.b o cc cl h1 (fun j u hu=>h2 (o+j) u (by rwa [List.getElem?_drop] at hu)) (fun u hu=>h3 u (List.mem_of_mem_drop hu)) (h4.drop o) hnc (fun k hk=>by cases hk) (hfs_drop hf o)
   cases h with
   | sl _ _ _ c L e a=>exact key L c e a
   | slu _ _ _ c L e a b d=>exact key L c e a
 | .nils,_,h=>by cases h;exact .nils
 | .es,_,h=>by cases h;exact .es _ _
 | .ez,_,h=>by cases h;exact .ez _
 | .map r,_,h=>by
  cases h with
  | map _ L e=>
   show VR γ2 (cond (Nat.beq r n) .any (.map r)) _
   cases hb:Nat.beq r n with
   | false=>exact .map r L (hl r (Nat.ne_of_beq_eq_false hb) L e)
   | true=>
    have:=Nat.eq_of_beq_eq_true hb;subst this
    exact .any _ (hm L _ e (.inl rfl))
 | .nilm,_,h=>by cases h;exact .nilm
 | .fn f xs ys,_,h=>by
  cases h with
  | fn _ _ _ as bs a b=>exact .fn f _ _ as bs (VR_frzs hz hl hc hf hm xs a) (VR_frzs hz hl hc hf hm ys b)
 | .yld l,_,h=>by
  cases h with
  | yld _ L e=>
   show VR γ2 (cond (Nat.beq l n) .any (.yld l)) _
   cases hb:Nat.beq l n with
   | false=>exact .yld l L (hl l (Nat.ne_of_beq_eq_false hb) L e)
   | true=>
    have:=Nat.eq_of_beq_eq_true hb;subst this
    exact .any _ (hm L _ e (.inr rfl))
 | .nilf,_,h=>by cases h;exact .nilf
 | .iface t v,_,h=>by
  cases h with
  | iface _ _ v' e=>exact .iface t _ v' (VR_frz hz hl hc hf hm v e)
 | .nili,_,h=>by cases h;exact .nili
 | .agg l,_,h=>by
  cases h with
  | agg _ a e o=>exact .agg _ a (VR_frzs hz hl hc hf hm l e) o
 | .tup l,_,h=>by
  cases h with
  | tup _ a e=>exact .tup _ a (VR_frzs hz hl hc hf hm l e)
 | .any,_,h=>by cases h;rename_i e;exact .any _ e
 | .fz m c l,_,h=>VR_hf hz (.fz m c l) rfl h
 | .fp l,_,h=>VR_hf hz (.fp l) rfl h
theorem VR_frzs (hz:∀ b c,γ.fz b=some c->γ2.fz b=some c) (hl:∀ r,r≠n->∀ L,γ r=some L->γ2 r=some L)
 (hc:∀ L,γ n=some L->L.o=0∧∃ c:Array Value,γ2.fz L.b=some c∧∃ vs:List Value,(∀ (j:Nat) (u:Value),vs[j]?=some u->c[j]?=some u)∧(∀ u ∈ vs,u.oneCell'=true)∧All2 (VR γ2) cs vs) (hf:hfs cs=true)
 (hm:∀ L v,γ n=some L->v=Value.map (some L.b)∨v=Value.func (.yield L.b) #[] #[]->v.oneCell'=true):∀ (l:List AV) {m:List Value},All2 (VR γ) l m->All2 (VR γ2) (frzVs n cs l) m
 | [],_,h=>by cases h;exact .nil
 | v::l,_,h=>by
  cases h with
  | cons a b=>exact .cons (VR_frz hz hl hc hf hm v a) (VR_frzs hz hl hc hf hm l b)
end
theorem objR_frz {k:Nat}(hk:k≤n) (hz:∀ b c,γ.fz b=some c->γ2.fz b=some c) (hl:∀ r,r≠n->∀ L,γ r=some L->γ2 r=some L)
 (hc:∀ L,γ n=some L->L.o=0∧∃ c:Array Value,γ2.fz L.b=some c∧∃ vs:List Value,(∀ (j:Nat) (u:Value),vs[j]?=some u->c[j]?=some u)∧(∀ u ∈ vs,u.oneCell'=true)∧All2 (VR γ2) cs vs) (hf:hfs cs=true)
 (hm:∀ L v,γ n=some L->v=Value.map (some L.b)∨v=Value.func (.yield L.b) #[] #[]->v.oneCell'=true) {L:Loc}{o:AObj}{hp:Array Obj}(hb:bdO k (n+1) o=true) (h:ObjR P γ L o hp):ObjR P γ2 L (frzO n cs o) hp:=by
 cases o with
 | row e l=>
  obtain ⟨c,h1,h2,h3,h4,h5,h6,h7⟩:=h
  refine ⟨c,h1,h2,h3,h4,by rw [frzVs_length];exact h5,fun i v hv=>?_,h7⟩
  obtain ⟨u,hu,rfl⟩:=frzVs_back hv
  obtain ⟨v',a,b,d⟩:=h6 i u hu
  exact ⟨v',a,VR_frz hz hl hc hf hm u b,d⟩
 | dead=>trivial
 | map es clock=>
  obtain ⟨ms,h1,h2⟩:=h
  refine ⟨ms,h1,?_⟩
  have:∀ (es:List (AV×AV×Nat)) (ms:List MapEntry),All2 (fun (x:AV×AV×Nat) (m:MapEntry)=>VR γ x.1 m.key∧VR γ x.2.1 m.val∧m.born=x.2.2) es ms->All2 (fun (x:AV×AV×Nat) (m:MapEntry)=>VR γ2 x.1 m.key∧VR γ2 x.2.1 m.val∧m.born=x.2.2) (frzE n cs es) ms:=by
   intro es
   induction es with
   | nil=>intro ms h;cases h;exact .nil
   | cons x es ih=>
    intro ms h
    obtain ⟨a,b,c⟩:=x
    cases h with
    | cons h1 h2=>exact .cons ⟨VR_frz hz hl hc hf hm a h1.1,VR_frz hz hl hc hf hm b h1.2.1,h1.2.2⟩ (ih _ h2)
  exact this es _ h2
 | loop st pend fn tm ps asg body d=>
  obtain ⟨lp,h1,h2,h3,h4,h5,h6,D,h8,h10⟩:=h
  simp only [bdO,Bool.and_eq_true] at hb
  have hd:d<k:=by simpa using hb.2
  have hlk:∀ r,r<k->∀ L,γ r=some L->γ2 r=some L:=fun r hr L e=>hl r (by omega) L e
  exact ⟨lp,h1,h2,h3,fun i v hv=>(let ⟨v',a,b⟩:=h4 i v hv;⟨v',a,VR_ren (ρ:=fun r=>r) hz hlk v (bdT_get hb.1 hv) (by rw [mapV_id (n:=k) (fun _ _=>rfl) v (bdT_get hb.1 hv)];exact b)⟩),h5,h6,D,hl d (by omega) D h8,h10⟩
 | defd=>exact h
 | iter m b se l=>
  obtain ⟨h0,M,h1,h2⟩:=h
  show ObjR P γ2 L (cond (Nat.beq m n) .dead (.iter m b se l)) hp
  cases hb:Nat.beq m n with
  | true=>trivial
  | false=>exact ⟨h0,M,hl m (Nat.ne_of_beq_eq_false hb) M h1,h2⟩
end
variable {o:AObj}
theorem allocs_get (os:List AObj) {r:Nat}(h:(allocs St0 os).get r=some o):os[r]?=some o:=by
 have:=allocs_ge os St0 (Nat.zero_le r) (fun _ _=>rfl) h
 have hz:r-St0.next=r:=Nat.sub_zero r
 rwa [hz] at this
theorem T.sing_self {α:Type}{x:α}:∀ {n k:Nat},k<2^n-1->(T.sing x n k).get k=some x:=by
 intro n
 induction n with
 | zero=>intro k h;simp at h
 | succ n ih=>
  intro k h
  cases k with
  | zero=>rfl
  | succ k=>
   have hk:Nat.div k 2<2^n-1:=by
    show k / 2<2^n-1
    rw [Nat.pow_succ] at h;omega
   change T.get (Bool.rec (T.nd none .lf (T.sing x n (Nat.div k 2))) (T.nd none (T.sing x n (Nat.div k 2)) .lf) (Nat.beq (Nat.mod k 2) 0)) (k+1)=some x
   cases hb:Nat.beq (Nat.mod k 2) 0
   ·change (Bool.rec (T.get (T.sing x n (Nat.div k 2)) (Nat.div k 2)) (T.get T.lf (Nat.div k 2)) (Nat.beq (Nat.mod k 2) 0):Option α)=some x
    rw [hb];exact ih hk
   ·change (Bool.rec (T.get T.lf (Nat.div k 2)) (T.get (T.sing x n (Nat.div k 2)) (Nat.div k 2)) (Nat.beq (Nat.mod k 2) 0):Option α)=some x
    rw [hb];exact ih hk
theorem T.set_self {α:Type}{x:α}:∀ {t:T α}{k:Nat},k<2^64-1->(t.set x k).get k=some x:=by
 intro t
 induction t with
 | lf=>intro k h;exact T.sing_self h
 | nd v l r il ir=>
  intro k h
  cases k with
  | zero=>rfl
  | succ k=>
   have hk:Nat.div k 2<2^64-1:=by
    show k / 2<2^64-1
    omega
   change T.get (Bool.rec (T.nd v l (r.set x (Nat.div k 2))) (T.nd v (l.set x (Nat.div k 2)) r) (Nat.beq (Nat.mod k 2) 0)) (k+1)=some x
   cases hb:Nat.beq (Nat.mod k 2) 0
   ·change (Bool.rec (T.get (r.set x (Nat.div k 2)) (Nat.div k 2)) (T.get l (Nat.div k 2)) (Nat.beq (Nat.mod k 2) 0):Option α)=some x
    rw [hb];exact ir hk
   ·change (Bool.rec (T.get r (Nat.div k 2)) (T.get (l.set x (Nat.div k 2)) (Nat.div k 2)) (Nat.beq (Nat.mod k 2) 0):Option α)=some x
    rw [hb];exact il hk
theorem St.alloc_self (s:St) (o:AObj) (h:s.next<2^64-1):(s.alloc o).get s.next=some o:=by
 cases s;exact T.set_self h
theorem allocs_at:∀ (l:List AObj) (s:St) {i:Nat}{o:AObj},s.next+l.length<2^64->l[i]?=some o->(allocs s l).get (s.next+i)=some o
 | [],s,i,o,_,h=>by simp at h
 | x::l,s,i,o,hn,h=>by
  rw [List.length_cons] at hn
  rw [allocs]
  cases i with
  | zero=>
   simp at h;subst h
   rw [allocs_lt l _ (by rw [St.next_alloc];omega)]
   exact St.alloc_self s x (by omega)
  | succ i=>
   have:=allocs_at l (s.alloc x) (i:=i) (o:=o) (by rw [St.next_alloc];omega) (by simpa using h)
   rw [St.next_alloc] at this
   rw [show s.next+(i+1)=s.next+1+i by omega];exact this
theorem allocs0_at (l:List AObj) {i:Nat}(hn:l.length<2^64) (h:l[i]?=some o):(allocs St0 l).get i=some o:=by
 have:=allocs_at l St0 (i:=i) (o:=o) (by show 0+_<_;omega) h
 rwa [show St0.next+i=i from Nat.zero_add i] at this
def tmpsB:List (Nat×AV)->Bool
 | []=>true
 | p::l=>Nat.blt p.1 18446744073709551615 && tmpsB l
variable {n:Nat}{cs:List AV}
theorem ofL_frzT:∀ {l:List (Nat×AV)}{i:Nat}{v:AV},tmpsB l=true->(ofL (frzT n cs l)).get i=some v->∃ u,(ofL l).get i=some u∧v=frzV n cs u
 | [],i,v,_,h=>by cases h
 | p::l,i,v,hb,h=>by
  simp only [tmpsB,Bool.and_eq_true] at hb
  rcases T.get_set h with ⟨rfl,rfl⟩|⟨hne,h⟩
  ·exact ⟨p.2,T.set_self (by have:=(Nat.blt_eq (x:=p.1) (y:=18446744073709551615)) ▸ hb.1;omega),rfl⟩
  ·obtain ⟨u,h1,h2⟩:=ofL_frzT hb.2 h
   exact ⟨u,T.get_set_ne hne h1,h2⟩
variable {P:Program}{k e:Nat}{tl:List (Nat×AV)}{os:List AObj}
theorem frz_tells {ds:List Nat}(hds:∀ d ∈ ds,d<os.length) (hf:hfs cs=true) (hk:k≤os.length) (hb:∀ o ∈ os,bdO k (os.length+1) o=true)
 (hal:∀ o ∈ os.take k,alive o=true) (hn:os.length+1<2^64) (ht:tmpsB tl=true):
 Tells P k (ofL tl) (allocs St0 (os++[.row e cs])) ds (ofL (frzT os.length cs tl)) (allocs St0 (frzOs os.length cs os)) ds:=by
 intro γ w tm D γ0 s0 w0 hT hS hD hP h8 h9 h10
 have hlen:(os++[AObj.row e cs]).length<2^64:=by simpa using hn
 have gn:(allocs St0 (os++[.row e cs])).get os.length=some (.row e cs):=allocs0_at _ hlen (by simp)
 have gr:∀ r o,os[r]?=some o->(allocs St0 (os++[.row e cs])).get r=some o:=fun r o h=>allocs0_at _ hlen (by rw [List.getElem?_append_left (List.getElem?_eq_some_iff.1 h).1];exact h)
 have nx1:(allocs St0 (os++[.row e cs])).next=os.length+1:=by rw [allocs0_next];simp
 have nx2:(allocs St0 (frzOs os.length cs os)).next=os.length:=by rw [allocs0_next,frzOs_length]
 let fz2:Nat->Option (Array Value):=fun b=>match γ os.length with
  | some L=>if b=L.b then (match w.heap[b]? with|some (.cells c _ _)=>some c|_=>none) else γ.fz b
  | none=>γ.fz b
 let γ2:Gam:=⟨fun r=>if r<os.length then γ r else none,fz2⟩
 have g2:∀ r,r<os.length->γ2 r=γ r:=fun r hr=>if_pos hr
 have g2s:∀ r L,γ2 r=some L->r<os.length∧γ r=some L:=fun r L e=>by
  by_cases hr:r<os.length
  ·rw [g2 r hr] at e;exact ⟨hr,e⟩
  ·have:γ2 r=none:=if_neg hr
   rw [this] at e;cases e
 have rowN:∀ L,γ os.length=some L->γ.fz L.b=none:=fun L hL=>hS.fzr _ _ L gn rfl hL
 have fz2e:∀ L,γ os.length=some L->∀ b,fz2 b=if b=L.b then (match w.heap[b]? with|some (.cells c _ _)=>some c|_=>none) else γ.fz b:=by
  intro L hL b
  show (match γ os.length with
  | some L=>if b=L.b then (match w.heap[b]? with|some (.cells c _ _)=>some c|_=>none) else γ.fz b
  | none=>γ.fz b)=_
  rw [hL]
 have fz2n:γ os.length=none->∀ b,fz2 b=γ.fz b:=by
  intro hL b
  show (match γ os.length with
  | some L=>if b=L.b then (match w.heap[b]? with|some (.cells c _ _)=>some c|_=>none) else γ.fz b
  | none=>γ.fz b)=_
  rw [hL]
 have hz:∀ b c,γ.fz b=some c->γ2.fz b=some c:=by
  intro b c hc
  show fz2 b=some c
  cases hL:γ os.length with
  | none=>rw [fz2n hL];exact hc
  | some L=>
   rw [fz2e L hL]
   by_cases hbl:b=L.b
   ·subst hbl;rw [rowN L hL] at hc;cases hc
   ·rw [if_neg hbl];exact hc
 have hfz2:∀ b c,fz2 b=some c->γ.fz b=some c∨(∃ L,γ os.length=some L∧b=L.b∧∃ e fr,w.heap[b]?=some (.cells c e fr)):=by
  intro b c hc
  cases hL:γ os.length with
  | none=>rw [fz2n hL] at hc;exact .inl hc
  | some L=>
   rw [fz2e L hL] at hc
   by_cases hbl:b=L.b
   ·rw [if_pos hbl] at hc
    split at hc
    ·rename_i c' t fr hh;cases hc;exact .inr ⟨L,rfl,hbl,t,fr,hh⟩
    ·cases hc
   ·rw [if_neg hbl] at hc;exact .inl hc
 have hbn:∀ L,γ os.length=some L->w0.heap.size≤L.b:=by
  intro L hL
  have h0:γ0 os.length=none:=h9 _ hk
  rcases (hP.new _ L hL h0).2 with h|⟨r0,L0,e0,e1⟩
  ·exact h
  ·exfalso
   have hr0:r0<k:=Nat.lt_of_not_le fun hle=>by rw [h9 r0 hle] at e0;cases e0
   have hr1:r0<os.length:=by omega
   have hget:=gr r0 _ (List.getElem?_eq_getElem hr1)
   have ha:=hal os[r0] (List.mem_iff_getElem?.2 ⟨r0,by rw [List.getElem?_take,if_pos hr0];exact List.getElem?_eq_getElem hr1⟩)
   exact hS.inj r0 os.length _ _ L0 L hget gn ha rfl (hP.le.loc _ _ e0) hL (by omega) e1
 -- the frozen row
 have hc:∀ L,γ os.length=some L->L.o=0∧∃ c:Array Value,γ2.fz L.b=some c∧∃ vs:List Value,(∀ (j:Nat) (u:Value),vs[j]?=some u->c[j]?=some u)∧(∀ u ∈ vs,u.oneCell'=true)∧All2 (VR γ2) cs vs:=by
  intro L hL
  obtain ⟨c,e1,e2,e3,e4,e5,e6,e7⟩:=hS.obj _ _ L gn hL
  refine ⟨e2,c,?_,c.toList.take cs.length,?_,?_,?_⟩
  ·show fz2 L.b=some c
   rw [fz2e L hL,if_pos rfl,e1]
  ·intro j u hj
   rw [List.getElem?_take] at hj
   split at hj
   ·simpa using hj
   ·cases hj
  ·intro u hu;exact e7 u (List.mem_of_mem_take hu)
  ·refine VR_hfs hz cs hf (All2.of_get (by simp;omega) ?_)
   intro i v v' hv hv'
   obtain ⟨v1,h1,h2,_⟩:=e6 i v hv
   rw [List.getElem?_take,if_pos (List.getElem?_eq_some_iff.1 hv).1] at hv'
   have:c[i]?=some v':=by simpa using hv'
   rw [h1] at this;cases this;exact h2
 have hl:∀ r,r≠os.length->∀ L,γ r=some L->γ2 r=some L:=by
  intro r hr L e
  have:r<os.length:=by
   refine Nat.lt_of_not_le fun hle=>?_
   have:=hS.nx r (by rw [nx1];omega)
   rw [this] at e;cases e
  rw [g2 r this];exact e
 have hm:∀ L v,γ os.length=some L->v=Value.map (some L.b)∨v=Value.func (.yield L.b) #[] #[]->v.oneCell'=true:=by
  rintro L v _ (rfl|rfl) <;> rfl
 have bk:∀ r o,(allocs St0 (frzOs os.length cs os)).get r=some o->r<os.length∧∃ o',(allocs St0 (os++[.row e cs])).get r=some o'∧bdO k (os.length+1) o'=true∧o=frzO os.length cs o':=by
  intro r o ho
  obtain ⟨u,h1,h2⟩:=frzOs_back (allocs_get _ ho)
  exact ⟨(List.getElem?_eq_some_iff.1 h1).1,u,gr r u h1,hb u (List.mem_of_getElem? h1),h2⟩
 have hlt0:∀ r L,γ0 r=some L->r<k:=fun r L e=>Nat.lt_of_not_le fun hk'=>by rw [h9 r hk'] at e;cases e
 refine ⟨γ2,?_,⟨?_,?_,?_,?_,?_,?_,?_⟩,?_,⟨⟨?_,?_⟩,?_,?_,hP.size,hP.os,hP.tape,hP.output,hP.blk,?_,?_⟩⟩
 ·intro i v hv
  obtain ⟨u,h1,rfl⟩:=ofL_frzT ht hv
  obtain ⟨v',e1,e2⟩:=hT i u h1
  exact ⟨v',e1,VR_frz hz hl hc hf hm u e2⟩
 ·intro r o L ho hL
  obtain ⟨hr,o',h1,h2,rfl⟩:=bk r o ho
  exact objR_frz hk hz hl hc hf hm h2 (hS.obj r o' L h1 (g2s r L hL).2)
 ·intro r r' o o' L L' ho ho' ha ha' hL hL' hne
  obtain ⟨hr,p,h1,h2,rfl⟩:=bk r o ho
  obtain ⟨hr',p',h1',h2',rfl⟩:=bk r' o' ho'
  exact hS.inj r r' p p' L L' h1 h1' (alive_frzO _ ha) (alive_frzO _ ha') (g2s r L hL).2 (g2s r' L' hL').2 hne
 ·intro r L hL;exact hS.lt r L (g2s r L hL).2
 ·intro r hr;rw [nx2] at hr;exact if_neg (by omega)
 ·intro r o ho;rw [nx2];exact (bk r o ho).1
 ·intro b c hbc
  rcases hfz2 b c hbc with h|⟨_,_,_,h⟩
  ·exact hS.fzc b c h
  ·exact h
 ·intro r o L ho ha hL
  obtain ⟨hr,p,h1,h2,rfl⟩:=bk r o ho
  have hL':=(g2s r L hL).2
  show fz2 L.b=none
  cases hq:fz2 L.b with
  | none=>rfl
  | some c=>
   exfalso
   rcases hfz2 _ c hq with h|⟨Ln,hLn,hbe,_⟩
   ·rw [hS.fzr r p L h1 (alive_frzO _ ha) hL'] at h;cases h
   ·exact hS.inj r os.length p _ L Ln h1 gn (alive_frzO _ ha) rfl hL' hLn (by omega) hbe
 ·have hD2:∀ (l:List Nat) (D':List Deferred),(∀ d ∈ l,d<os.length)->DR γ l D'->DR γ2 l D':=by
   intro l
   induction l with
   | nil=>intro D' _ h;cases h;exact .nil
   | cons d l ih=>
    intro D' hd h
    cases h with
    | cons h1 h2=>
     obtain ⟨L,e1,e2⟩:=h1
     exact .cons ⟨L,(g2 d (hd d (by simp))).trans e1,e2⟩ (ih _ (fun x hx=>hd x (by simp [hx])) h2)
  exact hD2 ds D hds hD
 ·intro r L e0
  rw [g2 r (by have:=hlt0 r L e0;omega)];exact hP.le.loc r L e0
 ·intro b c e0;exact hz b c (hP.le.fz b c e0)
 ·intro r L e1 e0
  have:=hP.new r L (g2s r L e1).2 e0
  exact this
 ·rw [h8,nx2];exact hk
 ·intro r e0 hr
  obtain ⟨L,hL⟩:=h10 r (by omega)
  rw [hL] at e0;cases e0
 ·intro b c e1 e0
  rcases hfz2 b c e1 with h|⟨L,hL,hbe,_⟩
  ·exact hP.fzn b c h e0
  ·rw [hbe];exact hbn L hL
variable {t:AT}{s:St}{rs:List Nat}
theorem Abs.toK (h:Abs t s tl os rs):AbsK 0 t s tl os rs:=by
 refine ⟨rfl,h.nd,h.tmp,?_⟩
 have:∀ (n:Nat) (all:List Nat) (l:List AObj) (rs:List Nat),RowOk n all s l rs->RowOkK 0 n all s l rs:=by
  intro n all l
  induction l with
  | nil=>intro rs h;cases rs with
   | nil=>trivial
   | cons=>exact h
  | cons o l ih=>intro rs h;cases rs with
   | nil=>exact h
   | cons r rs=>exact ⟨h.1,ih rs h.2⟩
 exact this _ _ _ _ h.row
def alives:Nat->List AObj->Bool
 | 0,_=>true
 | _+1,[]=>true
 | k+1,o::l=>alive o && alives k l
theorem alives_ok:∀ {k:Nat}{l:List AObj},alives k l=true->∀ o ∈ l.take k,alive o=true
 | 0,l,_,o,ho=>by simp at ho
 | k+1,[],_,o,ho=>by simp at ho
 | k+1,x::l,h,o,ho=>by
  simp only [alives,Bool.and_eq_true] at h
  rcases List.mem_cons.1 (by simpa using ho) with rfl|ho
  ·exact h.1
  ·exact alives_ok h.2 o ho
theorem AbsK.frz {tl2:List (Nat×AV)}{os2:List AObj}(h:AbsK k t s tl (os++[.row e cs]) rs) (hn:os.length=n) (hf:hfs cs=true) (hk:Nat.ble k n=true)
 (hal:alives k os=true) (hl:Nat.blt n 1000000=true) (ht:tmpsB tl=true) (e1:frzT n cs tl=tl2) (e2:frzOs n cs os=os2):
 Tells P k t s [] (ofL tl2) (allocs St0 os2) []:=by
 subst hn e1 e2
 refine h.tells.trans (frz_tells (fun d hd=>by simp at hd) hf (Nat.le_of_ble_eq_true hk) ?_ (alives_ok hal) (by have:=(Nat.blt_eq (x:=os.length) (y:=1000000)) ▸ hl;omega) ht)
 intro o ho
 obtain ⟨i,hi⟩:=List.mem_iff_getElem?.1 ho
 obtain ⟨r,_,hb,_⟩:=h.row.get.2 i o (by rw [List.getElem?_append_left (List.getElem?_eq_some_iff.1 hi).1];exact hi)
 simpa using hb
end Go.AM
namespace Go.AM
theorem u32_in {n:Int}(h:0≤n∧n<4294967296):IntKind.u32.wrap n=n:=by
 rw [← wrapQ_eq]
 obtain ⟨m,rfl⟩:∃ m:Nat,n=Int.ofNat m:=⟨n.toNat,by show n=(n.toNat:Int);omega⟩
 have hm:m<4294967296:=by have:Int.ofNat m=(m:Int):=rfl;omega
 show Int.ofNat (m % 4294967296)=_
 rw [Nat.mod_eq_of_lt hm]
theorem u32_wrap (n:Int):IntKind.u32.wrap n=n % 4294967296:=by
 show IntKind.wrap .u32 n=_
 simp [IntKind.wrap,IntKind.bits,IntKind.signed]
theorem stuckC {v:AV}{b:Bool}{x y z:Prop}(hv:v=.bool b) (h1:b=true->y) (h2:b=false->z):(BR.rec (motive:=fun _=>Prop) x y z (asBool v)):=by
 subst hv
 cases b with
 | true=>exact h1 rfl
 | false=>exact h2 rfl
section
variable {t:AT}{s:St}{k:AV->St->Prop}{x y:AO}
variable {es n:Nat}{l:List AV}{v:AV}
theorem EPrim.lenZ (hx:ev x t=.some v) (h:Sl es n l v) (hk:k (.int .i64 (n:Int)) s):EPrim (.len x) t s k:=EPrim.lenS hx h hk
theorem EPrim.lenPZ {r o n:Nat}{c:Option Nat}(hx:ev x t=.some (.sl r o n c)) (hk:k (.int .i64 (n:Int)) s):EPrim (.len x) t s k:=EPrim.lenP hx hk
theorem EPrim.lenNil (hx:ev x t=.some .nils) (hk:k (.int .i64 0) s):EPrim (.len x) t s k:=by
 refine EPrim.mk (v:=.int .i64 0) (s':=s) (fun e rec=>?_) hk
 show wth x t _=_;unfold wth;rw [hx];rfl
theorem EPrim.cviZ {q q':IntKind}{a:Int}(hx:ev x t=.some (.int q a)) (hw:q'.wrap a=a) (hk:k (.int q' a) s):EPrim (.cvi q' x) t s k:=by
 refine EPrim.mk (v:=.int q' a) (s':=s) (fun e rec=>?_) hk
 show wth x t _=_;unfold wth;rw [hx]
 show RV.ok (.int q' (wrapQ q' a)) s=_
 rw [wrapQ_eq,hw]
theorem EPrim.addU32 {a b:Int}(hx:ev x t=.some (.int .u32 a)) (hy:ev y t=.some (.int .u32 b)) (hk:k (.int .u32 ((a+b) % 4294967296)) s):EPrim (.bin .add x y) t s k:=
 EPrim.add hx hy (by rw [u32_wrap];exact hk)
theorem EPrim.subU32 {a b:Int}(hx:ev x t=.some (.int .u32 a)) (hy:ev y t=.some (.int .u32 b)) (hk:k (.int .u32 ((a-b) % 4294967296)) s):EPrim (.bin .sub x y) t s k:=
 EPrim.sub hx hy (by rw [u32_wrap];exact hk)
variable {a:Int}{q:IntKind}
theorem EPrim.ixsZ (hx:ev x t=.some v) (hs:Sl es n l v) (hy:ev y t=.some (.int q a)) (h0:0≤a) (h:a<n) (hk:k (.fp (l.drop (a.toNat*es))) s):EPrim (.ixs es x y) t s k:=by
 obtain ⟨m,rfl⟩:∃ m:Nat,a=Int.ofNat m:=⟨a.toNat,by show a=(a.toNat:Int);omega⟩
 exact EPrim.ixsS hx hs hy (by have:Int.ofNat m=(m:Int):=rfl;omega) hk
variable {r o:Nat}
theorem EPrim.ixsPZ {c:Option Nat}(hx:ev x t=.some (.sl r o n c)) (hy:ev y t=.some (.int q a)) (h0:0≤a) (h:a<n) (hk:k (.ptr r (o+a.toNat*es)) s):EPrim (.ixs es x y) t s k:=by
 obtain ⟨m,rfl⟩:∃ m:Nat,a=Int.ofNat m:=⟨a.toNat,by show a=(a.toNat:Int);omega⟩
 exact EPrim.ixsP hx hy (by have:Int.ofNat m=(m:Int):=rfl;omega) hk
theorem EPrim.ixaZ (hx:ev x t=.some (.ptr r o)) (hy:ev y t=.some (.int q a)) (h0:0≤a) (h:a<n) (hk:k (.ptr r (o+a.toNat*es)) s):EPrim (.ixa n es x y) t s k:=by
 obtain ⟨m,rfl⟩:∃ m:Nat,a=Int.ofNat m:=⟨a.toNat,by show a=(a.toNat:Int);omega⟩
 exact EPrim.ixaP hx hy (by have:Int.ofNat m=(m:Int):=rfl;omega) hk
theorem EPrim.eqb0 {neg a b:Bool}(hx:ev x t=.some (.bool a)) (hy:ev y t=.some (.bool b)) (hk:k (.bool (negB neg (a == b))) s):EPrim (.eqb 0 neg x y) t s k:=by
 refine EPrim.mk (v:=.bool (negB neg (a == b))) (s':=s) (fun e rec=>?_) hk
 show wth x t _=_;unfold wth;rw [hx]
 show wth y t _=_;unfold wth;rw [hy];rfl
theorem EPrim.eqf2 {ks:List Nat}{neg:Bool}{a b:List AV}{c:Bool}(hx:ev x t=.some (.agg a)) (hy:ev y t=.some (.agg b)) (h:eqfA ks a b=some c) (hk:k (.bool (negB neg c)) s):EPrim (.eqf ks neg x y) t s k:=by
 refine EPrim.mk (v:=.bool (negB neg c)) (s':=s) (fun e rec=>?_) hk
 show wth x t _=_;unfold wth;rw [hx]
 show wth y t _=_;unfold wth;rw [hy]
 show (Option.rec .fail (fun c=>.ok (.bool (negB neg c)) s) (eqfA ks a b):RV)=_
 rw [h]
theorem EPrim.b2sS {bs:List Nat}(hx:ev x t=.some v) (h:Sl 1 n (bys bs) v) (hb:∀ b ∈ bs,b<256) (hk:k (.str bs) s):EPrim (.b2s x) t s k:=by
 have hbo:∀ {bs:List Nat},(∀ b ∈ bs,b<256)->bytesOf (bys bs)=some bs:=by
  intro bs
  induction bs with
  | nil=>intro _;rfl
  | cons b bs ih=>
   intro h
   show (Bool.rec none (Option.rec none (fun r=>some (b::r)) (bytesOf (bys bs))) (Nat.blt b 256):Option (List Nat))=_
   rw [ih (fun x hx=>h x (by simp [hx])),show Nat.blt b 256=true by simpa using h b (by simp)]
 refine EPrim.mk (v:=.str bs) (s':=s) (fun e rec=>?_) hk
 show wth x t _=_;unfold wth;rw [hx]
 rcases h with ⟨rfl,rfl,h⟩|⟨rfl,rfl,h⟩|⟨c,rfl,hl⟩
 ·have:bs=[]:=List.map_eq_nil_iff.1 h
  subst this;rfl
 ·have:bs=[]:=List.map_eq_nil_iff.1 h
  subst this;rfl
 ·show (Option.rec .fail (fun cs=>Option.rec .fail (fun b=>.ok (.str b) s) (bytesOf cs)) (takeL n (bys bs)):RV)=_
  rw [takeL_of (by omega),List.take_of_length_le (by omega)]
  show (Option.rec .fail (fun b=>.ok (.str b) s) (bytesOf (bys bs)):RV)=_
  rw [hbo hb]
variable {b:List Nat}
theorem EPrim.neqStr {a:List Nat}(hx:ev x t=.some (.str a)) (hy:ev y t=.some (.str b)) (h1:a≠b->k (.bool true) s) (h2:a=b->k (.bool false) s):EPrim (.bin .neq x y) t s k:=by
 refine bin_of hx hy (v:=.bool (!eqNs a b)) rfl ?_
 rw [eqNs_eq]
 by_cases h:a=b
 ·rw [show (a == b)=true by simpa using h];exact h2 h
 ·rw [show (a == b)=false by simpa using h];exact h1 h
theorem EPrim.eqlStr {a:List Nat}(hx:ev x t=.some (.str a)) (hy:ev y t=.some (.str b)) (h1:a=b->k (.bool true) s) (h2:a≠b->k (.bool false) s):EPrim (.bin .eql x y) t s k:=by
 refine bin_of hx hy (v:=.bool (eqNs a b)) rfl ?_
 rw [eqNs_eq]
 by_cases h:a=b
 ·rw [show (a == b)=true by simpa using h];exact h1 h
 ·rw [show (a == b)=false by simpa using h];exact h2 h
end
end Go.AM
namespace Go.AM
variable {P:Program}{f:Nat}
theorem relO_of {R:List AV->AV->Prop}(hb:HasBody P f) (h:∀ args u,R args u->hfs args=true∧AM.hf u=true∧C P f args St0 (fun v s'=>Frz s' v u)):OvOk P f (relO R):=
 relO_ok hb fun args u hR s=>(h args u hR).elim fun ha h=>C.pure ha h.1 h.2 s
structure Fam (α:Type) where
 ok:α->Prop
 enc:α->List AV
 out:α->AV
 inj:∀ x y,ok x->ok y->enc x=enc y->out x=out y
noncomputable def Fam.O {α:Type}(F:Fam α):Ov:=relO (fun args u=>∃ x,F.ok x∧args=F.enc x∧u=F.out x)
variable {e:Env}{s:St}{k:AV->St->Prop}{u:AV}
theorem ESc.fam {α:Type}(F:Fam α) (hi:Con e f F.O) (x:α) (hx:F.ok x) (hu:F.out x=u) (hk:k u s):ESc e f (F.enc x) s k:=by
 refine ESc.rel hi ⟨_,x,hx,rfl,rfl⟩ ?_
 rintro u' ⟨y,hy,e,rfl⟩
 rw [← F.inj x y hx hy e,hu];exact hk
theorem ECall.fam {α:Type}(F:Fam α) (hi:Con e f F.O) (x:α) (hx:F.ok x) (hu:F.out x=u) (hk:k u s):ECall e f (F.enc x) s k:=by
 refine ECall.rel hi ⟨_,x,hx,rfl,rfl⟩ ?_
 rintro u' ⟨y,hy,e,rfl⟩
 rw [← F.inj x y hx hy e,hu];exact hk
theorem Fam.ok_of {α:Type}{F:Fam α}(hb:HasBody P f) (h:∀ x,F.ok x->hfs (F.enc x)=true∧AM.hf (F.out x)=true∧C P f (F.enc x) St0 (fun v s'=>Frz s' v (F.out x))):OvOk P f F.O:=by
 refine relO_of hb ?_
 rintro args u ⟨x,hx,rfl,rfl⟩
 exact h x hx
variable {t:AT}{x y:AO}{a b:Int}
theorem w7 (hx:ev x t=.some (.int .i64 a)) (hy:ev y t=.some (.int .i64 b)) (h:-9223372036854775808≤a+b∧a+b≤9223372036854775807) (hk:k (.int .i64 (a+b)) s):EPrim (.bin .add x y) t s k:=EPrim.addS hx hy h hk
abbrev w1:=@EPrim.lss2
abbrev w2:=@EPrim.leq2
abbrev w3:=@EPrim.gtr2
abbrev w4:=@EPrim.geq2
abbrev w5:=@EPrim.eql2
abbrev w6:=@EPrim.neq2
abbrev w8:=@EPrim.subS
abbrev w10:=@EPrim.addU32
abbrev w11:=@EPrim.subU32
abbrev w12:=@EPrim.notT
abbrev w13:=@EPrim.notF
abbrev w14:=@EPrim.cviZ
abbrev w15:=@EPrim.eqb0
abbrev w16:=@EPrim.lenNil
abbrev w18:=@EPrim.lenPZ
abbrev w19:=@stuckC
variable {q:IntKind}
theorem nq1 (h1:a<b->k (.bool true) s) (h2:b≤a->k (.bool false) s) (hx:ev x t=.some (.int q a):=by rfl) (hy:ev y t=.some (.int q b):=by rfl):EPrim (.bin .lss x y) t s k:=EPrim.lss2 hx hy h1 h2
theorem nq2 (h1:a≤b->k (.bool true) s) (h2:b<a->k (.bool false) s) (hx:ev x t=.some (.int q a):=by rfl) (hy:ev y t=.some (.int q b):=by rfl):EPrim (.bin .leq x y) t s k:=EPrim.leq2 hx hy h1 h2
theorem nq3 (h1:b<a->k (.bool true) s) (h2:a≤b->k (.bool false) s) (hx:ev x t=.some (.int q a):=by rfl) (hy:ev y t=.some (.int q b):=by rfl):EPrim (.bin .gtr x y) t s k:=EPrim.gtr2 hx hy h1 h2
theorem nq4 (h1:b≤a->k (.bool true) s) (h2:a<b->k (.bool false) s) (hx:ev x t=.some (.int q a):=by rfl) (hy:ev y t=.some (.int q b):=by rfl):EPrim (.bin .geq x y) t s k:=EPrim.geq2 hx hy h1 h2
theorem nq5 (h1:a=b->k (.bool true) s) (h2:a≠b->k (.bool false) s) (hx:ev x t=.some (.int q a):=by rfl) (hy:ev y t=.some (.int q b):=by rfl):EPrim (.bin .eql x y) t s k:=EPrim.eql2 hx hy h1 h2
theorem nq6 (h1:a≠b->k (.bool true) s) (h2:a=b->k (.bool false) s) (hx:ev x t=.some (.int q a):=by rfl) (hy:ev y t=.some (.int q b):=by rfl):EPrim (.bin .neq x y) t s k:=EPrim.neq2 hx hy h1 h2
theorem nq7 (hk:k (.int .i64 (a+b)) s) (hx:ev x t=.some (.int .i64 a):=by rfl) (hy:ev y t=.some (.int .i64 b):=by rfl) (h:-9223372036854775808≤a+b∧a+b≤9223372036854775807:=by omega):EPrim (.bin .add x y) t s k:=EPrim.addS hx hy h hk
theorem nq8 (hk:k (.int .i64 (a-b)) s) (hx:ev x t=.some (.int .i64 a):=by rfl) (hy:ev y t=.some (.int .i64 b):=by rfl) (h:-9223372036854775808≤a-b∧a-b≤9223372036854775807:=by omega):EPrim (.bin .sub x y) t s k:=EPrim.subS hx hy h hk
theorem nq9 (hk:k (.int .i64 (a*b)) s) (hx:ev x t=.some (.int .i64 a):=by rfl) (hy:ev y t=.some (.int .i64 b):=by rfl) (h:-9223372036854775808≤a*b∧a*b≤9223372036854775807:=by omega):EPrim (.bin .mul x y) t s k:=EPrim.mulS hx hy h hk
theorem nq10 (hk:k (.int .u32 ((a+b) % 4294967296)) s) (hx:ev x t=.some (.int .u32 a):=by rfl) (hy:ev y t=.some (.int .u32 b):=by rfl):EPrim (.bin .add x y) t s k:=EPrim.addU32 hx hy hk
theorem nq11 (hk:k (.int .u32 ((a-b) % 4294967296)) s) (hx:ev x t=.some (.int .u32 a):=by rfl) (hy:ev y t=.some (.int .u32 b):=by rfl):EPrim (.bin .sub x y) t s k:=EPrim.subU32 hx hy hk
theorem nq12 (hk:k (.bool false) s) (hx:ev x t=.some (.bool true):=by rfl):EPrim (.un .not x) t s k:=EPrim.notT hx hk
theorem nq13 (hk:k (.bool true) s) (hx:ev x t=.some (.bool false):=by rfl):EPrim (.un .not x) t s k:=EPrim.notF hx hk
theorem nq14 (hk:k (.int .i64 a) s) (hx:ev x t=.some (.int q a):=by rfl) (hw:IntKind.i64.wrap a=a:=by exact i64_in (by omega)):EPrim (.cvi .i64 x) t s k:=EPrim.cviZ hx hw hk
theorem nq14u (hk:k (.int .u32 a) s) (hx:ev x t=.some (.int q a):=by rfl) (hw:IntKind.u32.wrap a=a:=by exact u32_in (by omega)):EPrim (.cvi .u32 x) t s k:=EPrim.cviZ hx hw hk
theorem nq14b (hk:k (.int .u8 a) s) (hx:ev x t=.some (.int q a):=by rfl) (hw:IntKind.u8.wrap a=a:=by exact u8_in (by omega)):EPrim (.cvi .u8 x) t s k:=EPrim.cviZ hx hw hk
theorem nq15 {neg a b:Bool}(hk:k (.bool (negB neg (a == b))) s) (hx:ev x t=.some (.bool a):=by rfl) (hy:ev y t=.some (.bool b):=by rfl):EPrim (.eqb 0 neg x y) t s k:=EPrim.eqb0 hx hy hk
theorem nq16 (hk:k (.int .i64 0) s) (hx:ev x t=.some .nils:=by rfl):EPrim (.len x) t s k:=EPrim.lenNil hx hk
variable {n:Nat}
theorem nq18 {r o:Nat}{c:Option Nat}(hk:k (.int .i64 (n:Int)) s) (hx:ev x t=.some (.sl r o n c):=by rfl):EPrim (.len x) t s k:=EPrim.lenPZ hx hk
variable {l:List AV}{v:AV}
theorem nq21 {es:Nat}(h:Sl es n l v) (hk:k (.int .i64 (n:Int)) s) (hx:ev x t=.some v:=by rfl):EPrim (.len x) t s k:=EPrim.lenZ hx h hk
theorem nq22 {k:AV->Prop}(hk:k v) (h:l[0]?=some v:=by rfl):EHead l k:=EHead.mk h hk
section
variable {t:AT}{s:St}{k:AV->St->Prop}{x y:AO}
variable {el es m:Nat}{v c:AV}{cs:List AV}
theorem EPrim.appNil (hx:ev x t=.some .nils) (hy:ev y t=.some v) (hv:srcOf es v s=some (c::cs)) (hm':(c::cs).length=m*es) (he:0<es) (h1:m≤1000000) (hk:k (.sl s.next 0 m none) (s.alloc (.row el (c::cs)))):EPrim (.app el es x y) t s k:=by
 have hm:(c::cs).length / es=m:=by rw [hm'];exact Nat.mul_div_cancel m he
 refine EPrim.mk (fun e rec=>?_) hk
 show wth x t _=_;unfold wth;rw [hx]
 show wth y t _=_;unfold wth;rw [hy]
 show (Option.rec .fail _ (srcOf es v s):RV)=_
 rw [hv]
 show appNew el (Nat.div (lenL (c::cs)) es) (c::cs) s=_
 unfold appNew
 rw [lenL_eq,show Nat.div (c::cs).length es=m from hm]
 show gd (Nat.ble m 1000000) _=_
 rw [Nat.ble_eq_true_of_le h1];rfl
theorem nq25 (hk:k (.sl s.next 0 m none) (s.alloc (.row el (c::cs)))) (hx:ev x t=.some .nils:=by rfl) (hy:ev y t=.some v:=by rfl) (hv:srcOf es v s=some (c::cs):=by rfl) (hm':(c::cs).length=m*es:=by rfl) (he:0<es:=by decide) (h1:m≤1000000:=by decide):EPrim (.app el es x y) t s k:=EPrim.appNil hx hy hv hm' he h1 hk
variable {n:Nat}
theorem EPrim.appU {r:Nat}{old:List AV}(hx:ev x t=.some (.sl r 0 n none)) (hy:ev y t=.some v) (hv:srcOf es v s=some (c::cs)) (hr:s.get r=some (.row el old)) (ho:old.length=n*es) (hm':(c::cs).length=m*es) (he:0<es) (h1:n+m≤1000000)
 (hk:k (.sl s.next 0 (n+m) none) ((s.put r .dead).alloc (.row el (old++(c::cs))))):EPrim (.app el es x y) t s k:=by
 have hm:(c::cs).length / es=m:=by rw [hm'];exact Nat.mul_div_cancel m he
 refine EPrim.mk (fun e rec=>?_) hk
 show wth x t _=_;unfold wth;rw [hx]
 show wth y t _=_;unfold wth;rw [hy]
 show (Option.rec .fail _ (srcOf es v s):RV)=_
 rw [hv]
 show AM.app1 el es (c::cs) (Nat.div (lenL (c::cs)) es) r 0 n none s=_
 unfold AM.app1
 rw [lenL_eq,show Nat.div (c::cs).length es=m from hm,load_of hr (by show 0+n*es≤_;omega)]
 have e1:List.take (Nat.mul n es) (List.drop 0 old)=old:=by rw [List.drop_zero];exact List.take_of_length_le (by show _≤n*es;omega)
 rw [e1]
 show gd (Nat.beq 0 0 && elemIs r el s) (appNew el (n+m) (appL old (c::cs)) (s.put r .dead))=_
 have e2:elemIs r el s=true:=by unfold elemIs;rw [rowAt_of hr];show Nat.beq el el=true;exact Nat.beq_refl el
 rw [e2]
 unfold appNew
 show gd (Nat.ble (n+m) 1000000) _=_
 rw [Nat.ble_eq_true_of_le h1,appL_eq]
 show RV.ok (AV.sl (s.put r .dead).next 0 (n+m) none) _=_
 rw [St.next_put]
theorem EPrim.mks {c:Nat}{z:List AV}{q q':IntKind}(hx:ev x t=.some (.int q (Int.ofNat n))) (hy:ev y t=.some (.int q' (Int.ofNat c))) (h1:n≤c) (h2:c≤1000000) (hk:k (.sl s.next 0 n (some c)) (s.alloc (.row el (rep z c)))):EPrim (.mks el es z x y) t s k:=by
 refine EPrim.mk (fun e rec=>?_) hk
 show (NR.rec .fail (fun l=>NR.rec .fail (fun c=>gd (Nat.ble l c && Nat.ble c 1000000) (fresh (.row el (rep z c)) (fun r=>.sl r 0 l (some c)) s)) (natO (ev y t))) (natO (ev x t)):RV)=_
 rw [hx,hy]
 show gd (Nat.ble n c && Nat.ble c 1000000) _=_
 rw [Nat.ble_eq_true_of_le h1,Nat.ble_eq_true_of_le h2];rfl
end
theorem rep_bys:∀ (n:Nat),rep [.int .u8 0] n=bys (List.replicate n 0)
 | 0=>rfl
 | n+1=>by
  show AV.int .u8 0::rep [.int .u8 0] n=_
  rw [rep_bys n,List.replicate_succ];rfl
end Go.AM
namespace Go.AM
variable {n:Nat}{t:AT}{s:St}
theorem EPrim.mksB {el:Nat}{q q':IntKind}{k:AV->St->Prop}{x y:AO}(hx:ev x t=.some (.int q (Int.ofNat (n+1)))) (hy:ev y t=.some (.int q' (Int.ofNat (n+1)))) (h2:n+1≤1000000) (hk:k (.sl s.next 0 (n+1) (some (n+1))) (s.alloc (.row el (bys (0::List.replicate n 0))))):EPrim (.mks el 1 [.int .u8 0] x y) t s k:=by
 refine EPrim.mks hx hy (Nat.le_refl _) h2 ?_
 rw [rep_bys];exact hk
variable {k e:Nat}{cs:List AV}
theorem rowH (h:hfs cs=true):bdO k n (.row e cs)=true:=hfs_bds _ h
variable {ρ:Nat->Nat}
theorem mapRowH (h:hfs cs=true):mapO ρ (.row e cs)=.row e cs:=by
 show AObj.row e (mapVs ρ cs)=_;rw [hfs_mapVs _ h]
theorem o9 {x:Option AObj}(h:hfs cs=true:=by assumption) (p:x=some (.row e cs):=by rfl):bdO k n (.row e cs)=true∧x=some (mapO ρ (.row e cs)):=⟨rowH h,by rw [mapRowH h];exact p⟩
theorem frzRowH {ds:List AV}(h:hfs cs=true):frzO n ds (.row e cs)=.row e cs:=by
 show AObj.row e (frzVs n ds cs)=_;rw [hfs_frzVs _ h]
variable {tl:List (Nat×AV)}{os:List AObj}{rs:List Nat}
theorem Abs.a (h:rs.Nodup:=by decide) (h1:TmpOk os.length rs t tl:=by repeat' (first|exact trivial|exact r9|exact t9|exact o9|apply And.intro)) (h2:RowOk os.length rs s os rs:=by repeat' (first|exact trivial|exact r9|exact t9|exact o9|apply And.intro)):Abs t s tl os rs:=⟨h,h1,h2⟩
theorem AbsK.a (h:rs.Nodup:=by decide) (h1:TmpOk os.length rs t tl:=by repeat' (first|exact trivial|exact r9|exact t9|exact o9|apply And.intro)) (h2:RowOkK k os.length rs s os rs:=by repeat' (first|exact trivial|exact r9|exact t9|exact o9|apply And.intro)) (h0:rs.take k=List.range k:=by rfl):AbsK k t s tl os rs:=⟨h0,h,h1,h2⟩
variable {P:Program}{rd:Option Nat}{ds:List Nat}
theorem W.seqV {e:Env}{Q:EQ}{a b:AC}(hE:EM P e) (h:VW P e k a t s rd ds (Bhd (fun t s ds=>W P k rd b t s ds Q) Q)):W P k rd (.seq a b) t s ds Q:=
 W.seq ((vw_sound hE.1 hE.2 h).mono fun x t s ds h=>by cases x <;> exact h)
theorem W.endV {e:Env}{res:List ARes}{K:AV->St->Prop}{c:AC}(hE:EM P e) (h:VW P e k c t s rd ds (EEnd res K)):W P k rd c t s ds (Ends res K):=
 (vw_sound hE.1 hE.2 h).mono fun _ _ _ _ h=>eend_ends h
section
variable {t:AT}{s:St}{k:AV->St->Prop}{x y:AO}
theorem EPrim.appE {el es r m:Nat}{v:AV}{c:AV}{cs:List AV}(hx:ev x t=.some (.sl r 0 0 (some 0))) (hy:ev y t=.some v) (hv:srcOf es v s=some (c::cs)) (hr:s.get r=some (.row el [])) (hm':(c::cs).length=m*es) (he:0<es) (h0:0<m) (h1:m≤1000000) (hk:k (.sl s.next 0 m none) (s.alloc (.row el (c::cs)))):EPrim (.app el es x y) t s k:=by
 have hm:(c::cs).length / es=m:=by rw [hm'];exact Nat.mul_div_cancel m he
 refine EPrim.mk (fun e rec=>?_) hk
 show wth x t _=_;unfold wth;rw [hx]
 show wth y t _=_;unfold wth;rw [hy]
 show (Option.rec .fail _ (srcOf es v s):RV)=_
 rw [hv]
 show AM.app1 el es (c::cs) (Nat.div (lenL (c::cs)) es) r 0 0 (some 0) s=_
 unfold AM.app1
 rw [lenL_eq,show Nat.div (c::cs).length es=m from hm,show Nat.mul 0 es=0 from Nat.zero_mul es,load_of hr (by simp)]
 show (Bool.rec (appNew el (0+m) (appL [] (c::cs)) s) _ (Nat.ble (0+m) 0):RV)=_
 rw [Nat.zero_add,show Nat.ble m 0=false by rw [← Bool.not_eq_true];intro e;have:=Nat.le_of_ble_eq_true e;omega]
 show gd (Nat.ble m 1000000) _=_
 rw [Nat.ble_eq_true_of_le h1];rfl
end
end Go.AM
namespace Go.AM
def gamW (w:World):Gam:=⟨fun _=>none,fun b=>match w.heap[b]? with|some (.cells c _ _)=>some c|_=>none⟩
theorem gamW_sim {P:Program}(w:World):Sim P (gamW w) St0 w:=by
 refine sim0 (φ:=(gamW w).fz) fun b c h=>?_
 have h:(match w.heap[b]? with|some (.cells c _ _)=>some c|_=>none)=some c:=h
 split at h
 ·rename_i c' e fr hh;cases h;exact ⟨e,fr,hh⟩
 ·cases h
theorem cell_fz {w:World}{a:Addr}{v:Value}(h:w.cell? a=some v):a.spot=none∧∃ c,(gamW w).fz a.block=some c∧c[a.off]?=some v:=by
 unfold World.cell? at h
 split at h
 ·rename_i c t fr hh
  split at h
  ·cases h
  ·rename_i hs
   refine ⟨by simpa using hs,c,?_,h⟩
   show (match w.heap[a.block]? with|some (.cells c _ _)=>some c|_=>none)=some c
   rw [hh]
 ·cases h
inductive Ty where
 | bool
 | int (k:IntKind)
 | sl (e:Ty)
 | st (fs:List Ty)
mutual
inductive TyOf (P:Program):TypeId->Ty->Nat->Prop
 | bool (t:TypeId):P.underlying t=some .bool->TyOf P t .bool 1
 | int (t:TypeId) (k:IntKind):P.underlying t=some (.int k)->TyOf P t (.int k) 1
 | sl (t e:TypeId) (E:Ty) (n:Nat):P.underlying t=some (.slice e)->P.cellsOf e=n->0<n->TyOf P e E n->TyOf P t (.sl E) 1
 | st (t:TypeId) (fs:Array Field) (Fs:List Ty) (n:Nat):P.underlying t=some (.struct fs)->P.cellsOf t=n->Flds P fs.toList 0 Fs n->TyOf P t (.st Fs) n
inductive Flds (P:Program):List Field->Nat->List Ty->Nat->Prop
 | nil (o:Nat):Flds P [] o [] o
 | cons (f:Field) (l:List Field) (o:Nat) (T:Ty) (m:Nat) (Ts:List Ty) (n:Nat):f.offset=o->P.cellsOf f.type=m->TyOf P f.type T m->Flds P l (o+m) Ts n->Flds P (f::l) o (T::Ts) n
end
mutual
inductive Shape:Ty->List AV->Prop
 | bool (b:Bool):Shape .bool [.bool b]
 | int (k:IntKind) (n:Int):(Lit.int k n).wf=true->Shape (.int k) [.int k n]
 | nil (E:Ty):Shape (.sl E) [.nils]
 | es (E:Ty):Shape (.sl E) [.es]
 | fz (E:Ty) (n m:Nat) (c:Option Nat) (ls:List (List AV)):ls.length=n->0<n->n≤maxLen->(∀ l ∈ ls,Shape E l)->(∀ l ∈ ls,l.length=m)->Shape (.sl E) [.fz n c ls.flatten]
 | st (Fs:List Ty) (l:List AV):Shapes Fs l->Shape (.st Fs) l
inductive Shapes:List Ty->List AV->Prop
 | nil:Shapes [] []
 | cons (T:Ty) (Ts:List Ty) (l m:List AV):Shape T l->Shapes Ts m->Shapes (T::Ts) (l++m)
end
mutual
theorem Shape.hfs:∀ {T:Ty}{l:List AV},Shape T l->AM.hfs l=true
 | _,_,.bool b=>rfl
 | _,_,.int k n _=>rfl
 | _,_,.nil E=>rfl
 | _,_,.es E=>rfl
 | _,_,.fz E n m c ls _ _ _ _ _=>rfl
 | _,_,.st Fs l h=>Shapes.hfs h
theorem Shapes.hfs:∀ {Ts:List Ty}{l:List AV},Shapes Ts l->AM.hfs l=true
 | _,_,.nil=>rfl
 | _,_,.cons T Ts l m a b=>by
  rw [hfs_iff]
  intro v hv
  rcases List.mem_append.1 hv with h|h
  ·exact hfs_iff.1 (Shape.hfs a) v h
  ·exact hfs_iff.1 (Shapes.hfs b) v h
end
section
variable {H:Type}{enc:TypeId×Value->H}{P:Program}{w:World}{spare:Nat->Bool}
theorem trod_shape:∀ (fuel:Nat) {t:TypeId}{T:Ty}{n:Nat}{cs:List Value}{x:DataW H×List MemPlace},TyOf P t T n->DataW.trod enc P w 0 spare true fuel t cs=some x->
 ∃ l,Shape T l∧l.length=n∧All2 (VR (gamW w)) l cs∧∀ v ∈ cs,v.oneCell'=true:=by
 intro fuel
 induction fuel with
 | zero=>intro t T n cs x _ h;simp [DataW.trod] at h
 | succ fuel ih=>
  intro t T n cs x hT h
  cases hT with
  | bool _ hu=>
   obtain ⟨b,rfl,_⟩:=DataW.trod_bool hu h
   exact ⟨_,.bool b,rfl,.cons (.bool b) .nil,by simp [Value.oneCell']⟩
  | int _ k hu=>
   obtain ⟨m,rfl,_,hw⟩:=DataW.trod_int hu h
   exact ⟨_,.int k m hw,rfl,.cons (.int k m) .nil,by simp [Value.oneCell']⟩
  | st _ fs Fs _ hu hn hF=>
   obtain ⟨xs,n',e1,_,hlen,hxl,hx⟩:=DataW.trod_struct hu h
   cases e1
   rw [hn] at hlen
   have key:∀ (l:List Field) (o:Nat) (Ts:List Ty) (m:Nat),Flds P l o Ts m->(∀ f ∈ l,∃ y,DataW.trod enc P w 0 spare true fuel f.type ((cs.drop f.offset).take (P.cellsOf f.type))=some y)->m≤cs.length->o≤m∧∃ r,Shapes Ts r∧r.length=m-o∧All2 (VR (gamW w)) r ((cs.drop o).take (m-o))∧∀ v ∈ (cs.drop o).take (m-o),v.oneCell'=true:=by
    intro l
    induction l with
    | nil=>
     intro o Ts m hf _ hm
     cases hf
     refine ⟨Nat.le_refl _,[],.nil,by simp,?_,by simp⟩
     simp;exact .nil
    | cons f l ihl=>
     intro o Ts m hf hall hm
     cases hf with
     | cons _ _ _ T k Ts _ h1 h2 h3 h4=>
      obtain ⟨y,hy⟩:=hall f (by simp)
      obtain ⟨l1,a1,a2,a3,a4⟩:=ih h3 hy
      obtain ⟨hle,r,b1,b2,b3,b4⟩:=ihl (o+k) Ts m h4 (fun g hg=>hall g (by simp [hg])) hm
      rw [h1,h2] at a3 a4
      have hsplit:(cs.drop o).take (m-o)=(cs.drop o).take k++(cs.drop (o+k)).take (m-(o+k)):=by
       rw [show m-o=k+(m-(o+k)) by omega,List.take_add,List.drop_drop]
      refine ⟨by omega,l1++r,.cons T Ts l1 r a1 b1,by rw [List.length_append,a2,b2];omega,?_,?_⟩
      ·rw [hsplit];exact a3.append b3
      ·intro v hv
       rw [hsplit] at hv
       rcases List.mem_append.1 hv with h|h
       ·exact a4 v h
       ·exact b4 v h
   obtain ⟨_,r,b1,b2,b3,b4⟩:=key fs.toList 0 Fs n hF (fun f hf=>by
    obtain ⟨i,hi⟩:=List.getElem?_of_mem hf
    have hi':fs[i]?=some f:=by simpa using hi
    have:=hx i f hi'
    have hlt:i<xs.length:=by rw [hxl];exact (Array.getElem?_eq_some_iff.1 hi').1
    rw [List.getElem?_eq_getElem hlt] at this
    exact ⟨_,this⟩) (by omega)
   rw [List.drop_zero,Nat.sub_zero,List.take_of_length_le (by omega)] at b3 b4
   exact ⟨r,.st Fs r b1,by omega,b3,b4⟩
  | sl _ e E m hu hm hm0 hE=>
   rcases DataW.trod_slice hu h with ⟨rfl,_⟩|⟨a,len,cap,elems,rest,n',e1,rfl,_,_,hlc,hcm,hel,hall,_,_⟩
   ·exact ⟨_,.nil E,rfl,.cons .nils .nil,by simp [Value.oneCell']⟩
   ·cases e1
    rw [hm] at hall
    by_cases h0:len=0
    ·subst h0
     exact ⟨_,.es E,rfl,.cons (.es a cap) .nil,by simp [Value.oneCell']⟩
    ·have hget:∀ i,i<len->∃ ci,w.cells? 0 (a.add (i*m)) m=some ci∧∃ y,DataW.trod enc P w 0 spare true fuel e ci=some y:=by
      intro i hi
      have:=hall i hi
      rw [List.getElem?_eq_getElem (by omega)] at this
      obtain ⟨ci,h1,h2⟩:=Option.bind_eq_some_iff.1 this
      exact ⟨ci,h1,_,h2⟩
     obtain ⟨c0,hc0,_⟩:=hget 0 (by omega)
     rw [Nat.zero_mul] at hc0
     obtain ⟨_,hl0,hcell0⟩:=World.cells?_some hc0
     have hcl:=hcell0 0 hm0
     rw [List.getElem?_eq_getElem (by omega)] at hcl
     obtain ⟨hsp,c,hfz,_⟩:=cell_fz hcl
     have haz:(a.add 0).add 0=a:=by simp [Addr.add]
     have key:∀ k,k≤len->∃ (ls:List (List AV)) (vs:List Value),ls.length=k∧(∀ l ∈ ls,Shape E l)∧(∀ l ∈ ls,l.length=m)∧All2 (VR (gamW w)) ls.flatten vs∧vs.length=k*m∧(∀ u ∈ vs,u.oneCell'=true)∧∀ (j:Nat) u,vs[j]?=some u->c[a.off+j]?=some u:=by
      intro k
      induction k with
      | zero=>intro _;exact ⟨[],[],rfl,by simp,by simp,.nil,by simp,by simp,by simp⟩
      | succ k ihk=>
       intro hk
       obtain ⟨ls,vs,b1,b2,b3,b4,b5,b6,b7⟩:=ihk (by omega)
       obtain ⟨ci,hci,y,hy⟩:=hget k (by omega)
       obtain ⟨l1,a1,a2,a3,a4⟩:=ih hE hy
       obtain ⟨_,hlci,hcell⟩:=World.cells?_some hci
       refine ⟨ls++[l1],vs++ci,by simp [b1],?_,?_,by simpa using b4.append a3,by rw [List.length_append,b5,hlci,Nat.succ_mul],?_,?_⟩
       ·intro l hl
        rcases List.mem_append.1 hl with h|h
        ·exact b2 l h
        ·simp at h;subst h;exact a1
       ·intro l hl
        rcases List.mem_append.1 hl with h|h
        ·exact b3 l h
        ·simp at h;subst h;exact a2
       ·intro u hu'
        rcases List.mem_append.1 hu' with h|h
        ·exact b6 u h
        ·exact a4 u h
       ·intro j u hj
        by_cases hjl:j<vs.length
        ·rw [List.getElem?_append_left hjl] at hj;exact b7 j u hj
        ·rw [List.getElem?_append_right (by omega)] at hj
         have hjr:=(List.getElem?_eq_some_iff.1 hj).1
         have hq:=hcell (j-vs.length) (by omega)
         rw [hj] at hq
         obtain ⟨_,c',hz',hv'⟩:=cell_fz hq
         have hblk:((a.add (k*m)).add (j-vs.length)).block=a.block:=by unfold Addr.add;split <;> split <;> rfl
         have hoff:((a.add (k*m)).add (j-vs.length)).off=a.off+j:=by unfold Addr.add;split <;> split <;> simp <;> omega
         have hb0:((a.add 0).add 0).block=a.block:=by rw [haz]
         rw [hblk] at hz'
         rw [hb0] at hfz
         rw [hfz] at hz';cases hz'
         rw [hoff] at hv';exact hv'
     obtain ⟨ls,vs,b1,b2,b3,b4,b5,b6,b7⟩:=key len (Nat.le_refl _)
     have hsp':a.spot=none:=by rw [haz] at hsp;exact hsp
     have hfz':(gamW w).fz a.block=some c:=by rw [haz] at hfz;exact hfz
     refine ⟨[.fz len (some cap) ls.flatten],.fz E len m (some cap) ls b1 (by omega) (by omega) b2 b3,rfl,.cons ?_ .nil,by simp [Value.oneCell']⟩
     have hA:a=⟨a.block,a.off,none⟩:=by cases a;simp at hsp';subst hsp';rfl
     rw [hA]
     refine .fz len (some cap) ls.flatten vs a.block a.off cap c hfz' b7 b6 b4 hlc (fun k hk=>by cases hk;rfl) ?_
     rw [hfs_iff]
     intro v hv
     obtain ⟨l,hl,hv⟩:=List.mem_flatten.1 hv
     exact hfs_iff.1 (b2 l hl).hfs v hv
end
end Go.AM
namespace Go.AM
noncomputable def putRs (s:St):List Nat->List AObj->St
 | r::rs,o::os=>putRs (s.put r o) rs os
 | _,_=>s
theorem putRs_next:∀ (rs:List Nat) (l:List AObj) (s:St),(putRs s rs l).next=s.next
 | [],_,_=>rfl
 | _::_,[],_=>rfl
 | r::rs,o::l,s=>by rw [putRs,putRs_next rs l,St.next_put]
theorem putRs_ne:∀ (rs:List Nat) (l:List AObj) (s:St) {r:Nat},r ∉ rs->(putRs s rs l).get r=s.get r
 | [],_,_,_,_=>rfl
 | _::_,[],_,_,_=>rfl
 | r0::rs,o::l,s,r,h=>by
  rw [putRs,putRs_ne rs l _ (fun e=>h (by simp [e])),St.get_put_ne (fun e=>h (by simp [e]))]
theorem putRs_get:∀ (rs:List Nat) (l:List AObj) (s:St) {r:Nat}{o:AObj},rs.length=l.length->(putRs s rs l).get r=some o->(∃ i:Nat,rs[i]?=some r∧l[i]?=some o)∨(r ∉ rs∧s.get r=some o)
 | [],_,_,_,_,_,h=>.inr ⟨by simp,h⟩
 | _::_,[],_,_,_,hl,_=>by cases hl
 | r0::rs,o0::l,s,r,o,hl,h=>by
  rw [putRs] at h
  rcases putRs_get rs l _ (by simpa using hl) h with ⟨i,h1,h2⟩|⟨h1,h2⟩
  ·exact .inl ⟨i+1,by simpa using h1,by simpa using h2⟩
  ·rcases St.get_put h2 with ⟨rfl,rfl⟩|⟨hne,h2⟩
   ·exact .inl ⟨0,by simp,by simp⟩
   ·exact .inr ⟨by simp [hne,h1],h2⟩
def outR (rs:List Nat) (n r:Nat):Nat:=if r<rs.length then nm rs r else n+(r-rs.length)
variable {P:Program}{f:Nat}{args0:List AV}{u:AV}{os os2:List AObj}{rs:List Nat}{s:St}
theorem C1.frameT (nd:rs.Nodup) (hl:os.length=rs.length)
 (row:∀ (i:Nat) o r,os[i]?=some o->rs[i]?=some r->s.get r=some (mapO (nm rs) o)∧bdO 0 os.length o=true∧alive o=true) (nmd:∀ i,i<os.length->nmVs i args0=true) (hba:bds os.length args0=true)
 (hk:os.length≤os2.length) (hn:os2.length<1000000) (hp:∀ o ∈ os2,plainO o=true)
 (h:C1 P f args0 (allocs St0 os) (fun v s'=>Tells P os.length (ofL [(0,v)]) s' [] (ofL [(0,u)]) (allocs St0 os2) [])):
 C P f (mapVs (nm rs) args0) s (fun v s'=>v=mapV (outR rs s.next) u∧s'=allocs (putRs s rs ((os2.take os.length).map (mapO (outR rs s.next)))) ((os2.drop os.length).map (mapO (outR rs s.next)))):=by
 intro γ vals w m hA hs
 let γ0:Gam:=⟨fun r=>if r<os.length then γ (nm rs r) else none,γ.fz⟩
 have g0:∀ r,r<os.length->γ0 r=γ (nm rs r):=fun r hr=>if_pos hr
 have g0n:∀ r,os.length≤r->γ0 r=none:=fun r hr=>if_neg (by omega)
 have g0s:∀ r L,γ0 r=some L->r<os.length∧γ (nm rs r)=some L:=fun r L e=>by
  by_cases hr:r<os.length
  ·rw [g0 r hr] at e;exact ⟨hr,e⟩
  ·rw [g0n r (by omega)] at e;cases e
 have nmr:∀ r,r<os.length->rs[r]?=some (nm rs r):=fun r hr=>by
  have h1:=List.getElem?_eq_getElem (l:=rs) (i:=r) (by omega)
  rw [nm_get h1];exact h1
 have nmj:∀ r r',r<os.length->r'<os.length->nm rs r=nm rs r'->r=r':=fun r r' hr hr' e=>by
  have e1:=nm_get (List.getElem?_eq_getElem (l:=rs) (i:=r) (by omega))
  have e2:=nm_get (List.getElem?_eq_getElem (l:=rs) (i:=r') (by omega))
  rw [e1,e2] at e
  exact (List.getElem_inj nd).1 e
 have rowN:∀ r,r<os.length->∃ o,os[r]?=some o∧s.get (nm rs r)=some (mapO (nm rs) o)∧bdO 0 os.length o=true∧alive o=true:=fun r hr=>⟨os[r],List.getElem?_eq_getElem hr,row r _ _ (List.getElem?_eq_getElem hr) (nmr r hr)⟩
 have nmlt:∀ r,r<os.length->nm rs r<s.next:=fun r hr=>by
  obtain ⟨o,_,h1,_⟩:=rowN r hr
  exact hs.dom _ _ h1
 have hz:∀ b c,γ.fz b=some c->γ0.fz b=some c:=fun _ _ e=>e
 have hlm:∀ r,r<os.length->∀ L,γ (nm rs r)=some L->γ0 r=some L:=fun r hr L e=>by rw [g0 r hr];exact e
 have hA0:All2 (VR γ0) args0 vals:=VR_rens hz hlm args0 hba hA
 have hall:∀ r,r<os.length->∃ L,γ0 r=some L:=fun r hr=>nmVs_loc args0 (nmd r hr) hA0
 have hs0:Sim P γ0 (allocs St0 os) w:=by
  refine ⟨?_,?_,?_,?_,?_,hs.fzc,?_⟩
  ·intro r o L ho hL
   have ho:=allocs_get os ho
   obtain ⟨hr,hL⟩:=g0s r L hL
   obtain ⟨h1,h2,_⟩:=row r o _ ho (nmr r hr)
   exact objR_ren (k:=0) (n:=os.length) hz hlm (fun r hr=>absurd hr (Nat.not_lt_zero r)) (Nat.zero_le _) h2 (hs.obj _ _ L h1 hL)
  ·intro r r' o o' L L' ho ho' ha ha' hL hL' hne
   have ho:=allocs_get os ho
   have ho':=allocs_get os ho'
   obtain ⟨hr,hL⟩:=g0s r L hL
   obtain ⟨hr',hL'⟩:=g0s r' L' hL'
   exact hs.inj _ _ _ _ L L' (row r o _ ho (nmr r hr)).1 (row r' o' _ ho' (nmr r' hr')).1 (by rw [alive_mapO];exact ha) (by rw [alive_mapO];exact ha') hL hL' (fun e=>hne (nmj r r' hr hr' e))
  ·intro r L hL;exact hs.lt _ L (g0s r L hL).2
  ·intro r hr;rw [allocs0_next] at hr;exact g0n r hr
  ·intro r o ho;rw [allocs0_next];exact (List.getElem?_eq_some_iff.1 (allocs_get os ho)).1
  ·intro r o L ho ha hL
   obtain ⟨hr,hL⟩:=g0s r L hL
   exact hs.fzr _ _ L (row r o _ (allocs_get os ho) (nmr r hr)).1 (by rw [alive_mapO];exact ha) hL
 refine CallsIn.mono (h γ0 vals w m (fun r hr=>hall r (by rwa [allocs0_next] at hr)) hA0 hs0) ?_
 rintro e w' ⟨v,s',hab,v',γ',rfl,hst,hsim,hv⟩
 have hT:TR γ' (ofL [(0,v)]) #[v']:=by
  intro i x hx
  rcases T.get_set hx with ⟨rfl,rfl⟩|⟨_,h⟩
  ·exact ⟨v',rfl,hv⟩
  ·cases h
 obtain ⟨γ2,t2,s2,_,st2⟩:=hab γ' w' #[v'] [] γ0 (allocs St0 os) w hT hsim .nil hst (allocs0_next os) g0n (fun r hr=>hall r hr)
 obtain ⟨w2,e1,e2⟩:=t2 0 u rfl
 cases e1
 have at2:∀ i o,os2[i]?=some o->(allocs St0 os2).get i=some o:=fun i o hi=>allocs0_at os2 (by omega) hi
 have g2:∀ r,r<os.length->γ2 r=γ (nm rs r):=fun r hr=>by
  obtain ⟨L,hL⟩:=hall r hr
  rw [st2.le.loc r L hL,← g0 r hr,hL]
 let γf:Gam:=⟨fun r=>if r<s.next then γ r else γ2 (os.length+(r-s.next)),γ2.fz⟩
 have f1:∀ r,r<s.next->γf r=γ r:=fun r hr=>if_pos hr
 have f2:∀ r,¬ r<s.next->γf r=γ2 (os.length+(r-s.next)):=fun r hr=>if_neg hr
 have hσ:∀ i,γf (outR rs s.next i)=γ2 i:=fun i=>by
  unfold outR
  by_cases hi:i<os.length
  ·rw [if_pos (by omega),f1 _ (nmlt i hi),g2 i hi]
  ·rw [if_neg (by omega),f2 _ (by omega)];congr 1;omega
 have hσl:∀ i L,γ2 i=some L->γf (outR rs s.next i)=some L:=fun i L e=>by rw [hσ];exact e
 have glt:∀ r L,γ r=some L->r<s.next:=fun r L e=>Nat.lt_of_not_le fun hle=>by rw [hs.nx r hle] at e;cases e
 have hle:Le γ γf:=⟨fun r L e=>(f1 r (glt r L e)).trans e,fun b c e=>st2.le.fz b c e⟩
 -- a row that was not handed: its block stays
 have hold:∀ r o L,r ∉ rs->s.get r=some o->alive o=true->γ r=some L->w'.heap[L.b]?=w.heap[L.b]?:=fun r o L hr ho ha hL=>
  st2.blk L.b (hs.lt r L hL) fun r' L' e=>by
   obtain ⟨hr',hL'⟩:=g0s r' L' e
   obtain ⟨o',_,h1,_,h3⟩:=rowN r' hr'
   exact hs.inj _ _ _ _ L' L h1 ho (by rw [alive_mapO];exact h3) ha hL' hL (fun e=>hr (by rw [← e];exact List.mem_of_getElem? (nmr r' hr')))
 have hout:∀ i,i<os.length->outR rs s.next i=nm rs i:=fun i hi=>if_pos (by omega)
 have hnone:∀ r,s.next≤r->s.get r=none:=fun r hr=>by
  cases hg:s.get r with
  | none=>rfl
  | some o=>exact absurd (hs.dom r o hg) (by omega)
 have hS1:(putRs s rs ((os2.take os.length).map (mapO (outR rs s.next)))).next=s.next:=putRs_next _ _ _
 have hlen1:rs.length=((os2.take os.length).map (mapO (outR rs s.next))).length:=by rw [List.length_map,List.length_take];omega
 have back:∀ r o,(allocs (putRs s rs ((os2.take os.length).map (mapO (outR rs s.next)))) ((os2.drop os.length).map (mapO (outR rs s.next)))).get r=some o->(r<s.next∧r ∉ rs∧s.get r=some o)∨(∃ (i:Nat) (o':AObj),os2[i]?=some o'∧r=outR rs s.next i∧o=mapO (outR rs s.next) o'):=by
  intro r o hg
  by_cases hr:r<s.next
  ·rw [allocs_lt _ _ (by rw [hS1];exact hr)] at hg
   rcases putRs_get rs _ s hlen1 hg with ⟨i,h1,h2⟩|⟨h1,h2⟩
   ·rw [List.getElem?_map] at h2
    cases hq:(os2.take os.length)[i]? with
    | none=>rw [hq] at h2;cases h2
    | some o'=>
     rw [hq] at h2
     rw [List.getElem?_take] at hq
     split at hq
     ·rename_i hi
      refine .inr ⟨i,o',hq,?_,(Option.some.inj h2).symm⟩
      rw [hout i hi,nm_get h1]
     ·cases hq
   ·exact .inl ⟨hr,h1,h2⟩
  ·have:=allocs_ge _ _ (by rw [hS1];omega) (fun q hq=>by
    rw [hS1] at hq
    have hq':q ∉ rs:=fun hm=>by
     obtain ⟨i,hi⟩:=List.mem_iff_getElem?.1 hm
     have hi':=(List.getElem?_eq_some_iff.1 hi).1
     have:=nmlt i (by omega)
     rw [nm_get hi] at this;omega
    rw [putRs_ne _ _ _ hq'];exact hnone q hq) hg
   rw [hS1,List.getElem?_map] at this
   cases hq:(os2.drop os.length)[r-s.next]? with
   | none=>rw [hq] at this;cases this
   | some o'=>
    rw [hq] at this
    rw [List.getElem?_drop] at hq
    refine .inr ⟨os.length+(r-s.next),o',hq,?_,(Option.some.inj this).symm⟩
    unfold outR
    rw [if_neg (by omega)];omega
 have hlast:os2.length=(os2.drop os.length).length+os.length:=by rw [List.length_drop];omega
 refine ⟨_,_,⟨rfl,rfl⟩,v',γf,rfl,?_,?_,VR_map (γ:=γ2) (γ2:=γf) (fun _ _ e=>e) hσl u e2⟩
 ·refine ⟨hle,?_,by rw [allocs_next,hS1];omega,st2.size,st2.os,st2.tape,st2.output,?_,?_,?_⟩
  ·intro r L e e0
   by_cases hr:r<s.next
   ·rw [f1 r hr,e0] at e;cases e
   ·rw [f2 r hr] at e
    refine ⟨by omega,?_⟩
    rcases (st2.new _ L e (g0n _ (by omega))).2 with hq|⟨r0,L0,h1,h2⟩
    ·exact .inl hq
    ·exact .inr ⟨_,L0,(g0s r0 L0 h1).2,h2⟩
  ·intro b hb hno
   exact st2.blk b hb fun r L e=>hno _ L (g0s r L e).2
  ·intro r e hr
   rw [allocs_lt _ _ (by rw [hS1];exact hr)]
   refine putRs_ne _ _ _ fun hm=>?_
   obtain ⟨i,hi⟩:=List.mem_iff_getElem?.1 hm
   have hi':=(List.getElem?_eq_some_iff.1 hi).1
   obtain ⟨L,hL⟩:=hall i (by omega)
   have:=(g0s i L hL).2
   rw [nm_get hi,e] at this;cases this
  ·intro b c e e0;exact st2.fzn b c e e0
 ·refine ⟨?_,?_,?_,?_,?_,s2.fzc,?_⟩
  ·intro r o L ho hL
   rcases back r o ho with ⟨hr,hn,hg⟩|⟨i,o',hi,rfl,rfl⟩
   ·rw [f1 r hr] at hL
    cases ha:alive o with
    | true=>exact ((hs.obj r o L hg hL).mono hle).heap (hold r o L hn hg ha hL)
    | false=>cases o <;> first|trivial|cases ha
   ·rw [hσ] at hL
    exact objR_map (γ:=γ2) (γ2:=γf) (fun _ _ e=>e) hσl (hp o' (List.mem_of_getElem? hi)) (s2.obj i o' L (at2 i o' hi) hL)
  ·have cross:∀ r o L i o' L',r<s.next->r ∉ rs->s.get r=some o->alive o=true->γ r=some L->os2[i]?=some o'->γ2 i=some L'->L.b≠L'.b:=by
    intro r o L i o' L' hr hn hg ha hL hi hL'
    have hlt:=hs.lt r L hL
    have key:∀ r0 L0,γ0 r0=some L0->L.b≠L0.b:=fun r0 L0 e=>by
     obtain ⟨h0,h1⟩:=g0s r0 L0 e
     obtain ⟨o1,_,q1,_,q3⟩:=rowN r0 h0
     exact fun hb=>hs.inj _ _ _ _ L0 L q1 hg (by rw [alive_mapO];exact q3) ha h1 hL (fun e=>hn (by rw [← e];exact List.mem_of_getElem? (nmr r0 h0))) hb.symm
    cases hq:γ0 i with
    | some L0=>
     have:=st2.le.loc i L0 hq
     rw [hL'] at this;cases this
     exact key i L' hq
    | none=>
     rcases (st2.new i L' hL' hq).2 with hb|⟨r0,L0,h1,h2⟩
     ·omega
     ·rw [← h2];exact key r0 L0 h1
   intro r r' o o' L L' ho ho' ha ha' hL hL' hne
   rcases back r o ho with ⟨hr,hn,hg⟩|⟨i,p,hi,rfl,rfl⟩ <;> rcases back r' o' ho' with ⟨hr',hn',hg'⟩|⟨i',p',hi',rfl,rfl⟩
   ·rw [f1 r hr] at hL;rw [f1 r' hr'] at hL'
    exact hs.inj r r' o o' L L' hg hg' ha ha' hL hL' hne
   ·rw [f1 r hr] at hL;rw [hσ] at hL'
    exact cross r o L i' p' L' hr hn hg ha hL hi' hL'
   ·rw [hσ] at hL;rw [f1 r' hr'] at hL'
    exact fun e=>cross r' o' L' i p L hr' hn' hg' ha' hL' hi hL e.symm
   ·rw [hσ] at hL hL'
    rw [alive_mapO] at ha ha'
    exact s2.inj i i' p p' L L' (at2 i p hi) (at2 i' p' hi') ha ha' hL hL' (fun e=>hne (by rw [e]))
  ·intro r L hL
   by_cases hr:r<s.next
   ·rw [f1 r hr] at hL;have:=hs.lt r L hL;have:=st2.size;omega
   ·rw [f2 r hr] at hL;exact s2.lt _ L hL
  ·intro r hr
   rw [allocs_next,hS1,List.length_map] at hr
   rw [f2 r (by omega)]
   refine s2.nx _ ?_
   rw [allocs0_next];omega
  ·intro r o ho
   rw [allocs_next,hS1,List.length_map]
   rcases back r o ho with ⟨hr,_,_⟩|⟨i,o',hi,rfl,_⟩
   ·omega
   ·have hi':=(List.getElem?_eq_some_iff.1 hi).1
    unfold outR
    split
    ·have:=nmlt i (by omega);omega
    ·omega
  ·intro r o L ho ha hL
   rcases back r o ho with ⟨hr,hn,hg⟩|⟨i,o',hi,rfl,rfl⟩
   ·rw [f1 r hr] at hL
    have h0:=hs.fzr r o L hg ha hL
    show γ2.fz L.b=none
    cases hc:γ2.fz L.b with
    | none=>rfl
    | some c=>exact absurd (st2.fzn L.b c hc h0) (by have:=hs.lt r L hL;omega)
   ·rw [hσ] at hL
    rw [alive_mapO] at ha
    exact s2.fzr i o' L (at2 i o' hi) ha hL
theorem C1.frameR (nd:rs.Nodup) (hl:os.length=rs.length)
 (row:∀ (i:Nat) o r,os[i]?=some o->rs[i]?=some r->s.get r=some (mapO (nm rs) o)∧bdO 0 os.length o=true∧alive o=true) (nmd:∀ i,i<os.length->nmVs i args0=true) (hba:bds os.length args0=true)
 (hk:os.length≤os2.length) (hn:os2.length<1000000) (hp:∀ o ∈ os2,plainO o=true)
 (h:C1 P f args0 (allocs St0 os) (fun v s'=>∃ qs,AbsK os.length (T.set .lf v 0) s' [(0,u)] os2 qs)):
 C P f (mapVs (nm rs) args0) s (fun v s'=>v=mapV (outR rs s.next) u∧s'=allocs (putRs s rs ((os2.take os.length).map (mapO (outR rs s.next)))) ((os2.drop os.length).map (mapO (outR rs s.next)))):=
 C1.frameT nd hl row nmd hba hk hn hp fun γ vals w m h1 h2 h3=>CallsIn.mono (h γ vals w m h1 h2 h3) fun e w' ⟨v,s',⟨qs,hab⟩,hp⟩=>⟨v,s',hab.tells,hp⟩
open Go.ChangeMaps (setBlock)
section
variable {P:Program}{γ:Gam}{s:St}{w:World}{t:AT}{ρ:Operand->Value}
theorem mkItems_mem {cs:List AOper}:∀ {its:List It}{al:List AOper},mkItems cs its=some al->∀ a ∈ al,∃ x,mkItem cs x=some a
 | [],al,h,a,ha=>by cases h;cases ha
 | x::its,al,h,a,ha=>by
  simp only [mkItems] at h
  split at h
  ·rename_i b r h1 h2
   cases h
   rcases List.mem_cons.1 ha with rfl|ha
   ·exact ⟨x,h1⟩
   ·exact mkItems_mem h2 a ha
  ·cases h
theorem draw_noNx {N:Nat}{ops:Array Oper}{al:List AOper}(h:compDraw P N ops=some al):∀ a ∈ al,isNx (opOf a)=false:=by
 unfold compDraw at h
 split at h
 ·cases h
 ·rename_i cs hcs
  simp only at h
  split at h
  ·rename_i hok
   simp only [drawOk,Bool.and_eq_true] at hok
   have hall:=hok.2
   intro a ha
   obtain ⟨x,hx⟩:=mkItems_mem h a ha
   cases x with
   | op i=>
    have:=List.all_eq_true.1 hall a (List.mem_of_getElem? hx)
    simpa using this
   | chk i=>
    simp only [mkItem] at hx
    split at hx
    ·rename_i d p g hc
     split at hx
     ·cases hx
      have:=List.all_eq_true.1 hall _ (List.mem_of_getElem? hc)
      simpa [opOf] using this
     ·cases hx
    ·cases hx
  ·cases h
def NxOut (ri m since:Nat) (seen:List Nat) (es:List (AV×AV×Nat)) (cl:Nat) (s:St) (v:AV) (s':St):Prop:=
 ((∀ e ∈ es,e.2.2 ∈ seen)∧v=.tup [.bool false]∧s'=s)∨
 ∃ e ∈ es,e.2.2 ∉ seen∧v=.tup [.bool true,e.1,e.2.1]∧s'=s.put ri (.iter m since (seen++[e.2.2]) cl)
theorem All2.mem_left {α β:Type}{R:α->β->Prop}:∀ {l:List α}{m:List β},All2 R l m->∀ x ∈ l,∃ y ∈ m,R x y
 | _,_,.nil,x,hx=>by cases hx
 | _,_,.cons h1 h2,x,hx=>by
  rcases List.mem_cons.1 hx with rfl|hx
  ·exact ⟨_,by simp,h1⟩
  ·obtain ⟨y,hy,hR⟩:=All2.mem_left h2 x hx;exact ⟨y,by simp [hy],hR⟩
theorem All2.mem_right {α β:Type}{R:α->β->Prop}:∀ {l:List α}{m:List β},All2 R l m->∀ y ∈ m,∃ x ∈ l,R x y
 | _,_,.nil,x,hx=>by cases hx
 | _,_,.cons h1 h2,x,hx=>by
  rcases List.mem_cons.1 hx with rfl|hx
  ·exact ⟨_,by simp,h1⟩
  ·obtain ⟨y,hy,hR⟩:=All2.mem_right h2 x hx;exact ⟨y,by simp [hy],hR⟩
theorem next_ok (hs:Sim P γ s w) {o:Oper}{x:Operand}{a:AO}{ri m since last cl:Nat}{seen:List Nat}{es:List (AV×AV×Nat)}(ho:o.op=.next x false) (hx:aop x=some a) (he:Evs γ t ρ [x])
 (hv:ev a t=.some (.ptr ri 0)) (hi:s.get ri=some (.iter m since seen last)) (hm:s.get m=some (.map es cl)) (hold:∀ e ∈ es,e.2.2<since) (hsl:since≤last):
 ∃ v s',NxOut ri m since seen es cl s v s'∧OpOk P γ s w ρ o v s':=by
 have h1:=he x (by simp) a _ hx hv
 obtain ⟨I,hI,hxv⟩:∃ I,γ ri=some I∧ρ x=.pointer (some ⟨I.b,I.o+0,none⟩):=by
  generalize ρ x=vx at h1
  cases h1 with
  | ptr _ _ I hI=>exact ⟨I,hI,rfl⟩
 obtain ⟨hIo,M,hM,hitr⟩:=hs.obj ri _ I hi hI
 obtain ⟨ms,hms,hR⟩:=hs.obj m _ M hm hM
 rw [hIo] at hxv
 have hold':∀ y ∈ ms.toList,y.born<since:=fun y hy=>by
  obtain ⟨e,he,hE⟩:=All2.mem_right hR y hy
  rw [hE.2.2];exact hold e he
 have hrunE:∀ (v':Value) (w':World),(∀ ty,(Instr.next (.pointer (some ⟨I.b,0,none⟩)) false ty).run P w=.ok v' w')->(execOp ρ o).run P w=.ok (.value v') w':=by
  intro v' w' h
  simp only [execOp,ho,hxv,Sem.run_bind,h,Result.andThen_ok,Sem.run_pure]
 have hlt:=hs.lt ri I hI
 rcases run_next_at (P:=P) w o.type I.b M.b since last seen.toArray ms cl hitr hms hold' hsl with ⟨h0,hr⟩|⟨e,he,w1,hw1,hr⟩
 ·refine ⟨_,_,.inl ⟨?_,rfl,rfl⟩,γ,w,.refl _ _ _,hs,.inl ⟨_,?_,.tup _ _ (.cons (.bool _) .nil)⟩⟩
  ·intro e he
   obtain ⟨y,hy,hE⟩:=All2.mem_left hR e he
   refine Classical.byContradiction fun hns=>?_
   have:y ∈ (leftOf ms seen.toArray):=by
    unfold leftOf
    rw [Array.mem_filter]
    refine ⟨by simpa using hy,?_⟩
    rw [hE.2.2];simpa using hns
   have hz:leftOf ms seen.toArray=#[]:=Array.eq_empty_of_size_eq_zero h0
   rw [hz] at this
   simp at this
  ·simp only [execOp,ho,hxv,Sem.run_bind]
   rw [hr];rfl
 ·have hem:e ∈ ms.toList∧e.born ∉ seen:=by
   have he':e ∈ leftOf ms seen.toArray:=by simpa using he
   unfold leftOf at he'
   rw [Array.mem_filter] at he'
   exact ⟨by simpa using he'.1,by simpa using he'.2⟩
  obtain ⟨e0,he0,hE⟩:=All2.mem_right hR e hem.1
  have hb:=hE.2.2
  have key:∀ w1:World,w1.heap=w.heap->Sim P γ s w1->Stp γ s w1 γ (s.put ri (.iter m since (seen++[e0.2.2]) cl)) (setBlock w1 I.b (.mapIter (some M.b) since (seen.toArray.push e.born) cl))∧Sim P γ (s.put ri (.iter m since (seen++[e0.2.2]) cl)) (setBlock w1 I.b (.mapIter (some M.b) since (seen.toArray.push e.born) cl)):=by
   intro w1 hh hs1
   refine turnObj (O:=.mapIter (some M.b) since (seen.toArray.push e.born) cl) hs1 hi hI rfl ⟨hIo,M,hM,?_⟩
   rw [Array.getElem?_setIfInBounds,if_pos rfl,if_pos (by rw [hh];exact hlt),hb]
   simp
  refine ⟨_,_,.inr ⟨e0,he0,by rw [← hb];exact hem.2,rfl,rfl⟩,γ,setBlock w1 I.b (.mapIter (some M.b) since (seen.toArray.push e.born) cl),?_,?_,.inl ⟨_,?_,.tup _ _ (.cons (.bool _) (.cons hE.1 (.cons hE.2.1 .nil)))⟩⟩
  ·rcases hw1 with rfl|rfl
   ·exact (key _ rfl hs).1
   ·exact Stp.drew.trans (key w.drew rfl hs.drew).1
  ·rcases hw1 with rfl|rfl
   ·exact (key _ rfl hs).2
   ·exact (key w.drew rfl hs.drew).2
  ·simp only [execOp,ho,hxv,Sem.run_bind]
   rw [hr];rfl
end
section
variable {P:Program}{e:Env}{k:Nat}{rd:Option Nat}{t:AT}{s:St}{ds:List Nat}{Q:EQ}
variable {m:Nat}
theorem list_soundQ {rec:Rec}{n:Nat}(hG:Good P n rec) (hE:EnvOk P e) {N:Nat}{b:Option Nat}{ops:Array Oper}{γ0:Gam}{s0:St}{w0:World}{t':AT}{s':St}{R:Exit->Act->World->Prop}
 (hR:∀ ex a w,Post P γ0 s0 w0 N .normal t' s' ds ex a w->R ex a w):∀ (l:List Oper) (al:List AOper) (γ:Gam) (t:AT) (s:St) (w:World) (a:Act),
 compOpers P N ops l=some al->N≤a.tmps.size->TR γ t a.tmps->Sim P γ s w->DR γ ds a.defers->Stp γ0 s0 w0 γ s w->opsA e rec al t s=.ok t' s'->
 wpListIn (fen b) m P ops R l a w:=by
 intro l
 induction l with
 | nil=>
  intro al γ t s w a hc hN ht hs hd hst h
  cases hc;cases h
  exact hR _ _ _ ⟨rfl,hN,γ,hst,hs,ht,hd⟩
 | cons o l ih=>
  intro al γ t s w a hc hN ht hs hd hst h
  simp only [compOpers] at hc
  split at hc
  ·rename_i d p g r h1 h2 h3 h4
   cases hc
   obtain ⟨hw2,hw1⟩:=wanted_sound ht h3
   simp only [wpListIn]
   rcases opsA_cons h with ⟨hw,h⟩|⟨hw,v,s1,hop,h⟩
   ·rw [if_neg (by rw [hw1 hw];simp)]
    refine ⟨fun f _=>fen_fn b f,?_⟩
    exact ih r γ _ s w _ h4 (by rw [put_size];exact hN) (ht.put hN h1 (.inl undef_VR)) hs (by rw [put_defers];exact hd) hst h
   ·rw [if_pos (hw2 hw)]
    refine oper_sound hG hE h2 (Evs.of_TR ht _) hs hop ?_
    intro γ' w' v' hst' hs' hv
    exact ih r γ' _ s1 w' _ h4 (by rw [put_size];exact hN) ((ht.mono hst'.le).put hN h1 hv) hs' (by rw [put_defers];exact hd.mono hst'.le) (hst.trans hst') h
  ·cases hc
theorem W.next {d ri since last cl:Nat}{seen:List Nat}{es:List (AV×AV×Nat)}{x:AO}{l:List AOper}(hEM:EM P e)
 (hv:ev x t=.some (.ptr ri 0)) (hi:s.get ri=some (.iter m since seen last)) (hm:s.get m=some (.map es cl)) (hold:∀ e ∈ es,e.2.2<since) (hsl:since≤last)
 (h:∀ v s',NxOut ri m since seen es cl s v s'->EOps e l (putT d v t) s' fun t' s'=>Q .normal t' s' ds):W P k rd (.reg (.mk d (.nextm x) none::l)) t s ds Q:=by
 obtain ⟨hE,hmix⟩:=hEM
 intro N c γ w a b γ0 s0 w0 mm h1 h2 h3 h4 h5 h6 h7 h8 h9 h10
 have hcode:∃ id ops,c=.region id ops false∧compOpers P N ops ops.toList=some (.mk d (.nextm x) none::l):=by
  cases c with
  | region id ops dr=>
   cases dr with
   | false=>
    obtain ⟨al,hal,e1⟩:=map_some (show (compOpers P N ops ops.toList).map AC.reg=some _ from h1)
    cases e1
    exact ⟨id,ops,rfl,hal⟩
   | true=>
    exfalso
    have h':some (((compDraw P N ops).map AC.reg).getD badC)=some (AC.reg (.mk d (.nextm x) none::l)):=h1
    cases hal:compDraw P N ops with
    | none=>rw [hal] at h';cases h'
    | some al=>
     rw [hal] at h';cases h'
     have:=draw_noNx hal _ (List.mem_cons_self ..)
     cases this
  | seq c1 c2=>simp only [comp] at h1;split at h1 <;> cases h1
  | cond y c1 c2=>simp only [comp] at h1;split at h1 <;> cases h1
  | block id c1=>obtain ⟨_,_,e1⟩:=map_some (show (comp P N c1).map (AC.block id)=some _ from h1);cases e1
  | scope c1=>obtain ⟨_,_,e1⟩:=map_some (show (comp P N c1).map AC.scope=some _ from h1);cases e1
  | loop c1=>obtain ⟨_,_,e1⟩:=map_some (show (comp P N c1).map AC.loop=some _ from h1);cases e1
  | rangeFunc f ps asg body=>
   simp only [comp] at h1
   split at h1
   ·split at h1 <;> cases h1
   ·cases h1
  | _=>cases h1
 obtain ⟨id,ops,rfl,hal⟩:=hcode
 refine wpIn_region_list ?_
 cases hl:ops.toList with
 | nil=>rw [hl] at hal;cases hal
 | cons o ol=>
  rw [hl] at hal
  simp only [compOpers] at hal
  split at hal
  ·rename_i d' p' g' r' e1 e2 e3 e4
   cases hal
   obtain ⟨hw2,_⟩:=wanted_sound h3 e3
   simp only [wpListIn]
   rw [if_pos (hw2 rfl)]
   have hop:∃ y,o.op=.next y false∧aop y=some x:=by
    rcases compOp_cases e2 with hc|hc
    ·cases hq:o.op with
     | next y str=>
      cases str with
      | true=>simp only [compOp0,hq] at hc;cases hc
      | false=>
       simp only [compOp0,hq] at hc
       obtain ⟨z,hz,e⟩:=map_some hc
       cases e
       exact ⟨y,rfl,hz⟩
     | call c=>
      exfalso
      obtain ⟨cal,args,ts⟩:=c
      simp only [compOp0,hq] at hc
      cases cal with
      | builtin bi=>
       simp only at hc
       unfold compBuiltin at hc
       repeat' split at hc
       all_goals first
        | (cases hc;done)
        | (obtain ⟨_,_,hh⟩:=map_some hc;cases hh;done)
      | value f=>
       repeat' split at hc
       all_goals first
        | (cases hc;done)
        | (obtain ⟨_,_,hh⟩:=map_some hc;cases hh;done)
        | (rename_i hqq;cases hqq;done)
      | invoke r mth=>
       simp only at hc
       split at hc <;> cases hc
     | makeFunc f as bs=>
      exfalso
      cases f with
      | func f=>
       simp only [compOp0,hq] at hc
       split at hc <;> cases hc
      | _=>simp only [compOp0,hq] at hc;cases hc
     | makeMap ty r=>
      exfalso
      cases r with
      | none=>simp only [compOp0,hq] at hc;cases hc
      | some r=>simp only [compOp0,hq] at hc;cases hc
     | typeAssert x' xt ty ok=>
      exfalso
      cases ok with
      | false=>simp only [compOp0,hq] at hc;cases hc
      | true=>
       simp only [compOp0,hq] at hc
       repeat' split at hc
       all_goals (cases hc;done)
     | _=>
      exfalso
      simp only [compOp0,hq] at hc
      repeat' split at hc
      all_goals first
       | (cases hc;done)
       | (obtain ⟨_,_,hh⟩:=map_some hc;cases hh;done)
    ·cases hc
   obtain ⟨y,hop,hy⟩:=hop
   have hops:o.op.operands.toList=[y]:=by rw [hop];rfl
   obtain ⟨v,s',hN,hok⟩:=next_ok (ρ:=a.eval) h4 hop hy (Evs.of_TR h3 [y]) hv hi hm hold hsl
   refine plain_oper (fun c hc=>by rw [hop] at hc;cases hc) hok ?_
   intro γ' w' v' hst' hs' hvv
   obtain ⟨n,t',s'',hrun,hq⟩:=eops_sound (h v s' hN)
   exact list_soundQ (n:=n) (exec_good hE hmix n) hE (fun ex a w hp=>⟨_,_,_,_,hq,hp⟩) ol l γ' _ s' w' _ e4 (by rw [put_size];exact h2) ((h3.mono hst'.le).put h2 e1 hvv) hs' (by rw [put_defers];exact h6.mono hst'.le) (h7.trans hst') hrun
  ·cases hal
end
end Go.AM
namespace Go.AM
def WC (P:Program) (k:Nat) (rd:Option Nat) (N:Nat) (c:Code) (t:AT) (s:St) (ds:List Nat) (Q:Ex->AT->St->List Nat->Prop):Prop:=
 ∀ (γ:Gam) (w:World) (a:Act) (b:Option Nat) (γ0:Gam) (s0:St) (w0:World) (m:Nat),
  N≤a.tmps.size->TR γ t a.tmps->Sim P γ s w->RD γ0 rd b->DR γ ds a.defers->Stp γ0 s0 w0 γ s w->s0.next=k->(∀ r,k≤r->γ0 r=none)->(∀ r,r<k->∃ L,γ0 r=some L)->
  c.wpIn (fen b) m P (fun ex a' w'=>∃ x t' s' ds',Q x t' s' ds'∧Post P γ0 s0 w0 N x t' s' ds' ex a' w') a w
section
variable {P:Program}{e:Env}{k N:Nat}{rd:Option Nat}{t:AT}{s:St}{ds:List Nat}{Q:EQ}
theorem W.code {ac:AC}{c:Code}(hc:comp P N c=some ac) (h:W P k rd ac t s ds Q):WC P k rd N c t s ds Q:=
 fun γ w a b γ0 s0 w0 m h2 h3 h4 h5 h6 h7 h8 h9 h10=>h N c γ w a b γ0 s0 w0 m hc h2 h3 h4 h5 h6 h7 h8 h9 h10
theorem WC.seq {c1 c2:Code}(h:WC P k rd N c1 t s ds (Then (fun t s ds=>WC P k rd N c2 t s ds Q) Q)):WC P k rd N (.seq c1 c2) t s ds Q:=by
 intro γ w a b γ0 s0 w0 m h2 h3 h4 h5 h6 h7 h8 h9 h10
 refine wpIn_seq (wpIn_mono (h γ w a b γ0 s0 w0 m h2 h3 h4 h5 h6 h7 h8 h9 h10) (then_post ?_))
 intro t1 s1 ds1 γ1 a1 w1 hk q1 q2 q3 q4 q5
 exact hk γ1 w1 a1 b γ0 s0 w0 m q1 q2 q3 h5 q4 q5 h8 h9 h10
theorem WC.any {id:Nat}{ops:Array Oper}(hEM:EM P e) (hback:backOk ops.toList 0=true) (J:(Nat->Prop)->AT->St->Prop) (h0:J (fun _=>False) t s)
 (hstep:∀ (D:Nat->Prop) (t:AT) (s:St) (i:Nat) (o:Oper),J D t s->ops[i]?=some o->¬ D i->(∀ e ∈ o.after.toList,Region.binds .any e=true->D e.on)->
   ∃ d p,compDst N o.dst=some d∧compOp P o=some p∧o.guard=none∧EOp e p t s fun v s'=>J (fun j=>D j∨j=i) (putT d v t) s')
 (hend:∀ (D:Nat->Prop) (t:AT) (s:St),J D t s->(∀ i,i<ops.size->D i)->Q .normal t s ds):WC P k rd N (.region id ops true) t s ds Q:=by
 obtain ⟨hE,hmix⟩:=hEM
 intro γ w a b γ0 s0 w0 m h2 h3 h4 h5 h6 h7 h8 h9 h10
 refine wpIn_region_any hmix ?_
 have key:∀ (fuel:Nat) (listed:Array Bool) (t:AT) (s:St) (γ:Gam) (a:Act) (w:World),listed.size=ops.size->listed.toList.count false≤fuel->J (Dn listed) t s->N≤a.tmps.size->TR γ t a.tmps->Sim P γ s w->DR γ ds a.defers->Stp γ0 s0 w0 γ s w->
  wpAnyIn (fen b) m P .any ops (fun ex a' w'=>∃ x t' s' ds',Q x t' s' ds'∧Post P γ0 s0 w0 N x t' s' ds' ex a' w') fuel listed a w:=by
  intro fuel
  induction fuel with
  | zero=>
   intro listed t s γ a w hsz hcnt hJ q1 q2 q3 q4 q5
   have hall:∀ i,i<ops.size->Dn listed i:=by
    intro i hi
    unfold Dn
    cases hd:listed.getD i false with
    | true=>rfl
    | false=>
     exfalso
     have h0:listed.toList.count false=0:=by omega
     rw [List.count_eq_zero] at h0
     apply h0
     have:listed[i]?=some (listed[i]'(by omega)):=by simp [hsz,hi]
     rw [Array.getD_eq_getD_getElem?,this] at hd
     simp at hd
     rw [← hd];simp
   refine ⟨?_,_,_,_,_,hend _ t s hJ hall,rfl,q1,γ,q5,q3,q2,q4⟩
   cases hrd:Region.ready .any ops listed with
   | nil=>rfl
   | cons i l=>
    obtain ⟨o,ho,hi,_⟩:=mem_ready (show i ∈ Region.ready .any ops listed by rw [hrd];simp)
    have hil:i<ops.size:=(Array.getElem?_eq_some_iff.1 ho).1
    have h1:=hall i hil
    unfold Dn at h1
    have:listed[i]?=some (listed[i]'(by omega)):=by simp [hsz,hil]
    rw [Array.getD_eq_getD_getElem?,this] at h1 hi
    simp at h1 hi
    rw [h1] at hi;cases hi
  | succ fuel ih=>
   intro listed t s γ a w hsz hcnt hJ q1 q2 q3 q4 q5
   refine ⟨fun hrd=>⟨_,_,_,_,hend _ t s hJ (all_listed hback hsz hrd),rfl,q1,γ,q5,q3,q2,q4⟩,fun i hi=>?_⟩
   obtain ⟨o,ho,hd,hpre⟩:=mem_ready hi
   have hil:i<ops.size:=(Array.getElem?_eq_some_iff.1 ho).1
   have hget:listed[i]?=some (listed[i]'(by omega)):=by simp [hsz,hil]
   have hfalse:listed[i]'(by omega)=false:=by
    rw [Array.getD_eq_getD_getElem?,hget] at hd;simpa using hd
   have hni:¬ Dn listed i:=by unfold Dn;rw [Array.getD_eq_getD_getElem?,hget];simp [hfalse]
   obtain ⟨d,p,hcd,hcp,hg,hop⟩:=hstep (Dn listed) t s i o hJ ho hni hpre
   obtain ⟨n,v,s',hrun,hJ'⟩:=eop_sound hop
   unfold wpOpIn
   simp only [ho]
   rw [if_pos (by unfold Region.wanted;rw [hg])]
   refine oper_sound (exec_good hE hmix n) hE hcp (Evs.of_TR q2 _) q3 hrun ?_
   intro γ' w' v' hst' hs' hv
   have hJ2:J (Dn (listed.setIfInBounds i true)) (putT d v t) s':=by rw [Dn_set (by omega)];exact hJ'
   refine ih _ _ s' γ' _ w' (by simp [hsz]) ?_ hJ2 (by rw [put_size];exact q1) ((q2.mono hst'.le).put q1 hcd hv) hs' (by rw [put_defers];exact q4.mono hst'.le) (q5.trans hst')
   rw [Array.toList_setIfInBounds,List.count_set (by simpa [hsz] using hil)]
   simp [hfalse]
   have hpos:0<listed.toList.count false:=List.count_pos_iff.2 (by rw [← hfalse];simp)
   simp at hpos hcnt
   omega
 have hno:Dn (Array.replicate ops.size false)=fun _=>False:=by
  funext i
  unfold Dn
  rw [Array.getD_eq_getD_getElem?,Array.getElem?_replicate]
  split <;> simp
 exact key ops.size _ t s γ a _ (by simp) (by simp) (by rw [hno];exact h0) h2 h3 h4.drew h6 (h7.trans Stp.drew)
theorem C.of_WC {f:Nat}{fn:Func}{b:Code}{res:List ARes}{args:List AV}{Q:AV->St->Prop}(hf:P.funcs[f]?=some fn) (hb:fn.body=some b) (hrs:compRes P fn.results.toList=some res)
 (h:WC P 0 none fn.ntmps b (initT args 0 .lf) St0 [] (Ends res Q)):C P f args St0 Q:=by
 intro γ vals w m hA hs
 refine callsIn_of_wp_marks hf hb trivial ?_
 have hTR:TR γ (initT args 0 .lf) (vals.toArray++Array.replicate (fn.ntmps-vals.toArray.size) undef):=by
  refine initT_TR args vals _ 0 .lf hA (TR_lf _) ?_
  intro j u hj
  rw [Nat.zero_add,Array.getElem?_append]
  have hlt:=(List.getElem?_eq_some_iff.1 hj).1
  rw [if_pos (by simpa using hlt)]
  simpa using hj
 have hsz:fn.ntmps≤(vals.toArray++Array.replicate (fn.ntmps-vals.toArray.size) undef).size:=by simp;omega
 have hw:=h γ w { tmps:=vals.toArray++Array.replicate (fn.ntmps-vals.toArray.size) undef,defers:=[] } none γ St0 w m hsz hTR hs rfl .nil (.refl _ _ _) rfl hs.nx (fun r hr=>absurd hr (Nat.not_lt_zero r))
 refine wpIn_mono hw ?_
 rintro ex a' w' ⟨x,t',s',ds',⟨hx,s2,l,hq,hl,hQ⟩,rfl,_,γ',hst,hsim,ht,hd⟩
 have fin:LeavesInM Fence.wide m P fn a'.tmps (fun e w'=>∃ v s',Q v s'∧CallPost P γ St0 w v s' e w') a'.defers .returning w':=by
  exact leaves_sound (s2:=s2) hrs (fun e w' hp=>⟨_,_,hQ,hp⟩) m ds' a'.defers s' w' hd hq hsim hst ht hl
 rcases hx with rfl|rfl
 ·exact fin
 ·exact fin
end
end Go.AM
namespace Go.AM
noncomputable section
def mmoL (f:AV->AV->Bool) (us:List AV):List AV->Bool:=
 List.rec (motive:=fun _=>List AV->Bool) (fun _=>true) (fun u _ ih cs=>List.rec false (fun c cs _=>Bool.rec false (ih cs) (f c u)) cs) us
def mmoE (f:AV->AV->Bool) (us:List AV):List AV->Bool:=
 List.rec (motive:=fun _=>List AV->Bool) (fun cs=>List.rec true (fun _ _ _=>false) cs) (fun u _ ih cs=>List.rec false (fun c cs _=>Bool.rec false (ih cs) (f c u)) cs) us
def mmoR (f:AV->AV->Bool) (o:Nat) (us:List AV) (w:RW):Bool:=RW.rec false (fun _ cs=>mmoL f us (dropL o cs)) w
def mmoN (f:AV->AV->Bool) (s:St) (v u:AV):Bool:=match v with
 | .agg l=>LR.rec false (fun us=>mmoE f us l) (asAgg u)
 | .tup l=>LR.rec false (fun us=>mmoE f us l) (asTup u)
 | .sl r o n _=>SR.rec false (fun _ _ _ _=>false) false false (fun n' c us=>Option.rec (Bool.rec false (mmoR f o us (rowAt r s)) (Nat.beq n n')) (fun _=>false) c) (asSl u)
 | .ptr r o=>PR.rec false (fun _ _=>false) (fun us=>mmoR f o us (rowAt r s)) (asPtr u)
 | .map _|.yld _|.fn ..|.iface ..=>false
 | v=>eqV v u
def mmoF (s:St) (k:Nat):AV->AV->Bool:=Nat.rec (motive:=fun _=>AV->AV->Bool) (fun _ _=>false) (fun _ ih v u=>mmoN ih s v u) k
def memoB (e:Env) (n k f:Nat) (args:List AV) (u:AV):Bool:=RV.rec false (fun v s=>mmoF s k v u) (callA e (exec e n) f args St0)
end
variable {s:St}{f:AV->AV->Bool}
theorem mmoL_ok (hf:∀ v u,f v u=true->Frz s v u):∀ {us cs:List AV},mmoL f us cs=true->All2 (Frz s) (cs.take us.length) us
 | [],cs,_=>by rw [List.length_nil,List.take_zero];exact .nil
 | u::us,[],h=>by cases h
 | u::us,c::cs,h=>by
  change (Bool.rec false (mmoL f us cs) (f c u):Bool)=true at h
  cases hc:f c u with
  | false=>rw [hc] at h;cases h
  | true=>rw [hc] at h;exact .cons (hf c u hc) (mmoL_ok hf h)
theorem mmoE_ok (hf:∀ v u,f v u=true->Frz s v u):∀ {us cs:List AV},mmoE f us cs=true->All2 (Frz s) cs us
 | [],[],_=>.nil
 | [],c::cs,h=>by cases h
 | u::us,[],h=>by cases h
 | u::us,c::cs,h=>by
  change (Bool.rec false (mmoE f us cs) (f c u):Bool)=true at h
  cases hc:f c u with
  | false=>rw [hc] at h;cases h
  | true=>rw [hc] at h;exact .cons (hf c u hc) (mmoE_ok hf h)
theorem mmoR_ok (hf:∀ v u,f v u=true->Frz s v u) {o r:Nat}{us:List AV}(h:mmoR f o us (rowAt r s)=true):∃ e cs l,s.get r=some (.row e cs)∧(∀ (i:Nat) x,l[i]?=some x->cs[o+i]?=some x)∧All2 (Frz s) l us:=by
 cases hr:rowAt r s with
 | no=>rw [hr] at h;cases h
 | row e cs=>
  rw [hr] at h
  change mmoL f us (dropL o cs)=true at h
  rw [dropL_eq] at h
  refine ⟨e,cs,_,rowAt_some hr,fun i x hx=>?_,mmoL_ok hf h⟩
  rw [List.getElem?_take] at hx
  split at hx
  ·rwa [List.getElem?_drop] at hx
  ·cases hx
theorem mmoN_ok (hf:∀ v u,f v u=true->Frz s v u) {v u:AV}(h:mmoN f s v u=true):Frz s v u:=by
 have plain:AM.hf v=true->eqV v u=true->Frz s v u:=fun h1 h2=>by
  have:v=u:=eqV_eq h2
  subst this;exact .plain _ h1
 cases v with
 | agg l=>
  change (LR.rec false (fun us=>mmoE f us l) (asAgg u):Bool)=true at h
  cases hq:asAgg u with
  | no=>rw [hq] at h;cases h
  | l us=>rw [hq] at h;rw [asAgg_eq hq];exact .agg _ _ (mmoE_ok hf h)
 | tup l=>
  change (LR.rec false (fun us=>mmoE f us l) (asTup u):Bool)=true at h
  cases hq:asTup u with
  | no=>rw [hq] at h;cases h
  | l us=>rw [hq] at h;rw [asTup_eq hq];exact .tup _ _ (mmoE_ok hf h)
 | sl r o n cap=>
  change (SR.rec false (fun _ _ _ _=>false) false false (fun n' c us=>Option.rec (Bool.rec false (mmoR f o us (rowAt r s)) (Nat.beq n n')) (fun _=>false) c) (asSl u):Bool)=true at h
  cases hq:asSl u with
  | no=>rw [hq] at h;cases h
  | sl a b c d=>rw [hq] at h;cases h
  | nils=>rw [hq] at h;cases h
  | es=>rw [hq] at h;cases h
  | fz n' c us=>
   rw [hq] at h
   cases c with
   | some c=>cases h
   | none=>
    change (Bool.rec false (mmoR f o us (rowAt r s)) (Nat.beq n n'):Bool)=true at h
    cases hb:Nat.beq n n' with
    | false=>rw [hb] at h;cases h
    | true=>
     rw [hb] at h
     obtain ⟨e,cs,l,h1,h2,h3⟩:=mmoR_ok hf h
     have:=Nat.eq_of_beq_eq_true hb
     subst this
     rw [asSl_fz hq]
     exact .sl r o n cap none e cs l us h1 h2 h3 (.inl rfl)
 | ptr r o=>
  change (PR.rec false (fun _ _=>false) (fun us=>mmoR f o us (rowAt r s)) (asPtr u):Bool)=true at h
  cases hq:asPtr u with
  | no=>rw [hq] at h;cases h
  | ptr a b=>rw [hq] at h;cases h
  | fp us=>
   rw [hq] at h
   obtain ⟨e,cs,l,h1,h2,h3⟩:=mmoR_ok hf h
   rw [asPtr_fp hq]
   exact .ptr r o e cs l us h1 h2 h3
 | map r=>cases h
 | yld r=>cases h
 | fn a b c=>cases h
 | iface a b=>cases h
 | bool b=>exact plain rfl h
 | int a b=>exact plain rfl h
 | str a=>exact plain rfl h
 | nilp=>exact plain rfl h
 | nils=>exact plain rfl h
 | es=>exact plain rfl h
 | nilm=>exact plain rfl h
 | nilf=>exact plain rfl h
 | nili=>exact plain rfl h
 | any=>exact plain rfl h
 | ez=>exact plain rfl h
 | fz a b c=>exact plain rfl h
 | fp a=>exact plain rfl h
theorem mmoF_ok:∀ {k:Nat}{v u:AV},mmoF s k v u=true->Frz s v u
 | 0,v,u,h=>by cases h
 | k+1,v,u,h=>mmoN_ok (fun v u h=>mmoF_ok (k:=k) h) h
section
variable {P:Program}{e:Env}
theorem memo_C (hE:EnvOk P e) (hm:P.follows .mixedOrders=true) {n k f:Nat}{args:List AV}{u:AV}(ha:hfs args=true) (hu:AM.hf u=true) (h:memoB e n k f args u=true) (s:St):C P f args s (fun v s'=>v=u∧s'=s):=by
 unfold memoB at h
 cases hc:callA e (exec e n) f args St0 with
 | fail=>rw [hc] at h;cases h
 | ok v s1=>
  rw [hc] at h
  refine C.pure ha hu ?_ s
  intro γ vals w m hA hs
  exact CallsIn.mono ((callA_sound (exec_good hE hm n) hE hA hs hc).2 m) fun e w' hp=>⟨_,_,mmoF_ok h,hp⟩
end
end Go.AM
namespace Go.AM
open Go.RowKit Go.WideShapes Go.ChangeShapes
section
variable {H:Type}{enc:TypeId×Value->H}{P:Program}
theorem post_new {f:Func}{s:ChangeSpec}{apart fresh handsOn again:Bool}{W W':World}{args:Array Value}{v:Value}{ds gs:List (DataW H)}{before pa pv:List MemPlace}
 (hW:DataW.Whole enc P f.params.toList s.vars apart W args.toList ds gs before) (hb:Below W.heap.size W W') (hps:before=pa++pv)
 (hres:∀ (b:Nat) (sp:Nat->Bool) (hd:Bool),DataW.TrodAll enc P W' b sp hd f.resultTypes.toList (v.resultList f.resultTypes.size) (s.fn H (ds++gs)).results [])
 (hargs:∀ sp:Nat->Bool,(∀ p ∈ before,sp p.block=true)->DataW.TrodAll enc P W' 0 sp true f.params.toList args.toList (s.fn H (ds++gs)).args pa)
 (hvars:∀ sp:Nat->Bool,(∀ p ∈ before,sp p.block=true)->DataW.TrodVars enc P W' sp s.vars (s.fn H (ds++gs)).vars pv)
 (hok:∀ (j:Nat) (t:TypeId) (r:Value),f.resultTypes[j]?=some t->(v.resultList f.resultTypes.size)[j]?=some r->Value.okWide P W' .any 0 t r):
 s.post enc P f apart fresh handsOn again W args v W':=by
 have old:∀ p ∈ before,p.block<W.heap.size:=fun p hp=>hW.lt p hp
 have oldB:∀ p ∈ before,(fun b=>decide (b<W.heap.size)) p.block=true:=fun p hp=>decide_eq_true (old p hp)
 have hmem:∀ p,p ∈ pa++pv↔p ∈ before:=fun p=>by rw [hps]
 have hkept:W.keptBut W' (· ∈ before):=hb.frame (· ∈ before)
 refine ⟨ds,gs,before,[],pa,pv,hW,hres _ _ _,hargs _ oldB,hvars _ oldB,World.keptBut_mono ?_ hkept,?_⟩
 ·intro p hp
  refine ⟨hp,.inr ?_⟩
  exact List.mem_append.1 ((hmem p).2 hp)
 ·intro _
  obtain ⟨_,_,_,_,_,notFrozen,once⟩:=hW
  refine ⟨hok,_,_,([]++pa)++pv,⟨[]++pa,pv,trodAll_append (hargs _ (fun _ _=>rfl)) (hres _ _ _),hvars _ (fun _ _=>rfl),rfl,fun b off hp=>?_,fun ha=>?_⟩,fun p hp _=>?_⟩
  ·have hin:MemPlace.cell b off ∈ before:=(hmem _).1 hp
   rw [hb.frozen (old _ hin)]
   exact notFrozen b off hin
  ·have h1:=once ha
   rw [hps] at h1
   exact h1
  ·exact (hmem p).1 hp
end
end Go.AM
namespace Go.AM
open Go.RowKit
theorem trodAll_below {H:Type}{enc:TypeId×Value->H}{P:Program}{W W':World}(hl:laidOutB P=true) (hb:Below W.heap.size W W') (sp:Nat->Bool):∀ {ts:List TypeId}{vs:List Value}{ds:List (DataW H)}{ps:List MemPlace},(ts.all fun t=>P.readableRec t && decide (t<P.types.size))=true->
 DataW.TrodAll enc P W 0 (fun _=>true) true ts vs ds ps->(∀ x ∈ ps,x.block<W.heap.size)->(∀ x ∈ ps,sp x.block=true)->DataW.TrodAll enc P W' 0 sp true ts vs ds ps
 | [],[],[],ps,_,h,_,_=>h
 | [],_::_,_,_,_,h,_,_=>h.elim
 | [],[],_::_,_,_,h,_,_=>h.elim
 | _::_,[],_,_,_,h,_,_=>h.elim
 | _::_,_::_,[],_,_,h,_,_=>h.elim
 | t::ts,v::vs,d::ds,ps,hall,h,hlt,hsp=>by
  obtain ⟨p,q,h1,h2,rfl⟩:=h
  rw [List.all_cons,Bool.and_eq_true,Bool.and_eq_true] at hall
  refine ⟨p,q,?_,trodAll_below hl hb sp hall.2 h2 (fun x hx=>hlt x (by simp [hx])) (fun x hx=>hsp x (by simp [hx])),rfl⟩
  exact WideElems.Trod_stays hl hall.1.1 (of_decide_eq_true hall.1.2) h1 (fun x hx=>hb.same (hlt x (by simp [hx]))) (fun x hx=>hsp x (by simp [hx]))
end Go.AM
