/- Contracts of functions over the abstract machine. No conditions. -/
import Derived.Test.YtblggmblcjoalaaGreatStF
import Derived.Test.YtblggmblcjoalaaGreatStA
import Derived.Test.YtblggmblcjoalaaGreatAM5
import Derived.Test.YtblggmblcjoalaaGreatStE
set_option linter.unusedVariables false
set_option linter.unusedSimpArgs false
set_option maxRecDepth 100000
namespace Go.AM
attribute [local irreducible] W
open X
def lb0:List AV:=[.int .u32 0,.int .u32 0,.int .i64 0,.int .i64 0,.int .i64 0,.int .i64 0,.int .i64 0,.int .i64 0,.int .i64 0,.bool false]
def lbP0:List (Int×Int×Int):=[(76,0,1),(0,1,4),(0,5,4),(0,9,1),(0,10,1),(0,11,1),(0,12,1),(0,13,1),(0,14,1),(0,15,1),(0,16,1)]
def lbf0R (args:List AV) (u:AV):Prop:=args=[.agg lb0]∧u=.fz 11 none (lbP0.flatMap fun x=>[.int .i64 x.1,.int .i64 x.2.1,.int .i64 x.2.2])
theorem lbf0_ok {e:Env}(hE:EM P e) (h216:Inl e 185 cd216 [.cells 5 3]):OvOk P 104 (relO lbf0R):=by
 refine relO_of g104.b ?_
 rintro args u ⟨rfl,rfl⟩
 refine ⟨rfl,rfl,C.of_G hE g104 ?_⟩
 unfold lb0
 conv=>whnf
 repeat' (first|((first|refine ECall.inl h216.O h216.G ?_|refine nq7 ?_|refine nq14 ?_|refine ⟨rfl,?_⟩);conv=>whnf)|refine nq5 ?_ ?_|(intro _;first|omega|conv=>whnf))
 exact .sl _ 0 _ _ _ 203 _ _ _ rfl (fun i x hx=>by rw [Nat.zero_add];exact hx) (frz_hfs rfl) (.inl rfl)
def tkN (b:List Nat) (n:Nat):List AV:=(lbP0.take n).map fun x=>.int .i64 (num b x.2.1.toNat x.2.2.toNat:Nat)
def lrdR (args:List AV) (u:AV):Prop:=∃ v c ev me lo dn op,args=[v]∧Ls Ce.u8 (lbX (lbF c ev me lo dn op)) v∧c.ok∧c.may∧lbP c ev me lo dn∧u=.tup [.agg (lbC c ev me lo dn op),.int .i64 0]
section
variable {t:AT}{s:St}{k:AV->St->Prop}{x y:AO}
variable {a:Nat}
theorem EPrim.cviI64 {q:IntKind}(hx:ev x t=.some (.int q (Int.ofNat a))) (ha:a<9223372036854775808) (hk:k (.int .i64 (Int.ofNat a)) s):EPrim (.cvi .i64 x) t s k:=by
 refine EPrim.mk (v:=.int .i64 (Int.ofNat a)) (s':=s) (fun e rec=>?_) hk
 show wth x t _=_;unfold wth;rw [hx]
 show RV.ok (.int .i64 (wrapQ .i64 (Int.ofNat a))) s=_
 rw [wrapQ_eq,i64_in (by have:Int.ofNat a=(a:Int):=rfl;omega)]
theorem EPrim.shlN {n:Nat}{r:IntKind}(hx:ev x t=.some (.int .i64 (Int.ofNat a))) (hy:ev y t=.some (.int r (Int.ofNat n))) (hn:n≤64) (h:a*2^n<9223372036854775808) (hk:k (.int .i64 (Int.ofNat (a*2^n))) s):EPrim (.bin .shl x y) t s k:=by
 refine bin_of hx hy (v:=.int .i64 (Int.ofNat (a*2^n))) ?_ hk
 show OV.some (.int .i64 (wrapQ .i64 (mulI (Int.ofNat a) (.ofNat (2^(Nat.min n 64))))))=_
 rw [show Nat.min n 64=n from Nat.min_eq_left hn,wrapQ_eq,mulI_eq]
 have e1:Int.ofNat a*Int.ofNat (2^n)=Int.ofNat (a*2^n):=rfl
 rw [e1,i64_in (by have:Int.ofNat (a*2^n)=((a*2^n:Nat):Int):=rfl;omega)]
theorem EPrim.orN {b:Nat}(hx:ev x t=.some (.int .i64 (Int.ofNat a))) (hy:ev y t=.some (.int .i64 (Int.ofNat b))) (ha:a<9223372036854775808) (hb:b<9223372036854775808) (hk:k (.int .i64 (Int.ofNat (a ||| b))) s):EPrim (.bin .or x y) t s k:=by
 refine bin_of hx hy (v:=.int .i64 (Int.ofNat (a ||| b))) ?_ hk
 show OV.some (.int .i64 (IntKind.i64.wrap (((BitVec.or (BitVec.ofInt 64 (a:Int)) (BitVec.ofInt 64 (b:Int))).toNat:Nat):Int)))=_
 have e1:(BitVec.or (BitVec.ofInt 64 (a:Int)) (BitVec.ofInt 64 (b:Int))).toNat=a ||| b:=by
  show (BitVec.ofInt 64 (a:Int) ||| BitVec.ofInt 64 (b:Int)).toNat=_
  rw [BitVec.toNat_or,BitVec.ofInt_natCast,BitVec.ofInt_natCast,BitVec.toNat_ofNat,BitVec.toNat_ofNat,Nat.mod_eq_of_lt (by omega),Nat.mod_eq_of_lt (by omega)]
 have hlt:a ||| b<2^63:=Nat.or_lt_two_pow (by omega) (by omega)
 rw [e1,i64_in (by omega)];rfl
end
def code86:AC:=match a165 with|.mk c _=>c
theorem take_run (e:Env) (hE:EM P e) (h130:Inl e 186 code130 [.cells 2 128,.tmp 3]) (h131:Inl e 187 code131 [.tmp 4]) (v:AV) (bs:List Nat) (hv:Sl 1 bs.length (bys bs) v) (hb:∀ b ∈ bs,b<256) (a z:Int) (Q:AV->St->Prop)
 (k1:bs.length≠0->bs.length≠128->∀ s,Q (.tup [.int .i64 0,.int .i64 3]) s)
 (k2:(pad bs).length=128->fitsB a z=false->∀ s,Q (.tup [.int .i64 0,.int .i64 2]) s)
 (k3:(pad bs).length=128->fitsB a z=true->∀ s,Q (.tup [.int .i64 (Int.ofNat (num (pad bs) a.toNat z.toNat)),.int .i64 0]) s):
 VW P e 0 code86 (initT [v,.int .i64 a,.int .i64 z] 0 .lf) St0 none [] (EEnd [.tmp 6,.tmp 7] Q):=by
 have hpad:∀ b ∈ pad bs,b<256:=by
  unfold pad
  split
  ·intro b hb';rw [List.eq_of_mem_replicate hb'];decide
  ·exact hb
 conv=>whnf
 refine ESc.inl h130 (whole_run e _ v bs hv (by decide) _ (fun h1 h2 s' n1 n2=>?_) (fun h1 s' n1 n2=>?_))
 ·have hn1:s'.next=1:=n1
  conv=>whnf
  refine stuckO _ (store_full (e:=300) (old:=z128) (St.get_alloc_same (by omega)) rfl) ?_;conv=>whnf
  refine EPrim.neqN (a:=3) (b:=0) rfl rfl (fun _=>?_) (fun h=>by cases h);conv=>whnf
  exact k1 h1 h2 _
 ·have hn1:s'.next=1:=n1
  have hbl:(bys (pad bs)).length=128:=by rw [bys_length];exact h1
  obtain ⟨s1,hs1⟩:∃ s1,s'.alloc (.row 300 z128)=s1:=⟨_,rfl⟩
  have g1:s1.get s'.next=some (.row 300 z128):=by rw [← hs1];exact St.get_alloc_same (by omega)
  conv=>whnf
  refine stuckB (by show Nat.beq (lenL (bys (pad bs))) 128=true;rw [lenL_eq,hbl];rfl) ?_;conv=>whnf
  refine stuckO (s1.put s'.next (.row 300 (bys (pad bs)))) (by show storeAt s'.next 0 (bys (pad bs)) (s'.alloc (.row 300 z128))=_;rw [hs1];exact store_full g1 (by rw [hbl];rfl)) ?_
  obtain ⟨s2,hs2⟩:∃ s2,s1.put s'.next (.row 300 (bys (pad bs)))=s2:=⟨_,rfl⟩
  have g4:s2.get s'.next=some (.row 300 (bys (pad bs))):=by rw [← hs2,St.get_put_same (by omega)]
  rw [hs2]
  conv=>whnf
  refine EPrim.neqN (a:=0) (b:=0) rfl rfl (fun h=>absurd rfl h) (fun _=>?_);conv=>whnf
  refine ESc.inl h131 (fits_run e _ a z _ ?_)
  cases hf:fitsB a z with
  | false=>
   conv=>whnf
   refine EPrim.notF rfl ?_;conv=>whnf
   exact k2 h1 hf _
  | true=>
   conv=>whnf
   refine EPrim.notT rfl ?_;conv=>whnf
   have hfz:=of_decide_eq_true hf
   obtain ⟨A,rfl⟩:∃ A:Nat,a=Int.ofNat A:=⟨a.toNat,by show a=(a.toNat:Int);omega⟩
   obtain ⟨Z,rfl⟩:∃ Z:Nat,z=Int.ofNat Z:=⟨z.toNat,by show z=(z.toNat:Int);omega⟩
   have eA:Int.ofNat A=(A:Int):=rfl
   have eZ:Int.ofNat Z=(Z:Int):=rfl
   refine W.loopS (α:=Nat) (fun i=>[(1,.int .i64 (Int.ofNat A)),(6,.int .i64 (Int.ofNat (num (pad bs) A i))),(8,.ptr 0 0),(22,.int .i64 (Int.ofNat Z)),(23,.int .i64 (Int.ofNat i))]) (fun _=>[.row 300 (bys (pad bs))]) (fun i=>Z-i)
    (fun i=>i≤Z) 0 [s'.next] (Nat.zero_le _) ⟨by simp,⟨⟨rfl,rfl⟩,⟨rfl,rfl⟩,⟨rfl,rfl⟩,⟨rfl,rfl⟩,⟨rfl,rfl⟩,trivial⟩,⟨⟨?_,?_⟩,trivial⟩⟩ ?_
   ·exact hfs_bds _ (scs_hfs_bys _)
   ·rw [g4];show _=some (AObj.row 300 (mapVs _ (bys (pad bs))));rw [hfs_mapVs _ (scs_hfs_bys _)]
   intro i hi
   have hnum:∀ j,j≤4->num (pad bs) A j<2^(8*j):=by
    intro j
    induction j with
    | zero=>intro _;exact Nat.zero_lt_one
    | succ j ih=>
     intro hj
     have hlt:(pad bs).getD (A+j) 0<256:=by
      rw [List.getD_eq_getElem?_getD]
      cases hq:(pad bs)[A+j]? with
      | none=>decide
      | some q=>exact hpad q (List.mem_of_getElem? hq)
     have e8:8*(j+1)=8*j+8:=by omega
     refine Nat.or_lt_two_pow (Nat.lt_of_lt_of_le (ih (by omega)) (Nat.pow_le_pow_right (by decide) (by omega))) ?_
     rw [e8,Nat.pow_add,Nat.mul_comm]
     exact Nat.mul_lt_mul_of_pos_left hlt (Nat.two_pow_pos _)
   refine vs_sound hE ?_;conv=>whnf
   refine EPrim.lssN rfl rfl (fun h=>?_) (fun h=>?_)
   ·have hAi:A+i<(pad bs).length:=by omega
    have hbi:(pad bs)[A+i]<256:=hpad _ (List.getElem_mem hAi)
    have hp8:(pad bs)[A+i]*2^(8*i)<2^32:=by
     have:2^(8*i)≤2^24:=Nat.pow_le_pow_right (by decide) (by omega)
     calc _<256*2^(8*i):=Nat.mul_lt_mul_of_pos_right hbi (Nat.two_pow_pos _)
      _≤256*2^24:=Nat.mul_le_mul_left _ this
      _=2^32:=by decide
    have hni:num (pad bs) A i<2^32:=Nat.lt_of_lt_of_le (hnum i (by omega)) (Nat.pow_le_pow_right (by decide) (by omega))
    conv=>whnf
    refine EPrim.addN rfl rfl (by omega) ?_;conv=>whnf
    refine EPrim.ixaP rfl rfl (by omega) ?_;conv=>whnf
    refine stuckO (.int .u8 (Int.ofNat (pad bs)[A+i])) (by
     rw [Nat.zero_add,Nat.mul_one]
     show getL (bys (pad bs)) (A+i)=_
     rw [getL_eq];simp [bys,byV,hAi]) ?_
    conv=>whnf
    refine EPrim.cviI64 rfl (by omega) ?_;conv=>whnf
    refine EPrim.mulS rfl rfl (by have:Int.ofNat i=(i:Int):=rfl;omega) ?_;conv=>whnf
    refine EPrim.shlN (n:=8*i) rfl rfl (by omega) (by omega) ?_;conv=>whnf
    refine EPrim.orN rfl rfl (by omega) (by omega) ?_;conv=>whnf
    refine EPrim.incN rfl rfl rfl (by omega) ?_;conv=>whnf
    refine ⟨rfl,i+1,by omega,by omega,[0],⟨by decide,⟨r9,⟨rfl,?_⟩,r9,r9,r9,trivial⟩,⟨⟨hfs_bds _ (scs_hfs_bys _),?_⟩,trivial⟩⟩⟩
    ·show _=some (AV.int .i64 (Int.ofNat (num (pad bs) A i ||| (pad bs).getD (A+i) 0*2^(8*i))))
     rw [List.getD_eq_getElem?_getD,List.getElem?_eq_getElem hAi]
     rfl
    ·show _=some (AObj.row 300 (mapVs _ (bys (pad bs))));rw [hfs_mapVs _ (scs_hfs_bys _)];rfl
   ·conv=>whnf
    have:i=Z:=by omega
    subst this
    exact k3 h1 hf _
def takeV (bs:List Nat) (a z:Int):AV:=
 if bs.length≠0∧bs.length≠128 then .tup [.int .i64 0,.int .i64 3] else if fitsB a z=true then .tup [.int .i64 (Int.ofNat (num (pad bs) a.toNat z.toNat)),.int .i64 0] else .tup [.int .i64 0,.int .i64 2]
theorem sc_takeV (bs:List Nat) (a z:Int):sc (takeV bs a z)=true:=by
 unfold takeV
 split
 ·rfl
 ·split <;> rfl
noncomputable def takeO (args:List AV) (s:St):RV:=match args with
 | [v,.int .i64 a,.int .i64 z]=>Option.rec .fail (fun bs=>.ok (takeV bs a z) s) (bytesAt s v)
 | _=>.fail
theorem takeO_ok {e:Env}(hE:EM P e) (h130:Inl e 186 code130 [.cells 2 128,.tmp 3]) (h131:Inl e 187 code131 [.tmp 4]):OvOk P 165 takeO:=by
 refine ⟨g165.b,fun args s v s' h=>?_⟩
 unfold takeO at h
 split at h
 ·rename_i u a z
  obtain ⟨bs,hbs,h⟩:=opt_ok h
  obtain ⟨rfl,rfl⟩:=ok_inj h
  obtain ⟨v2,hF,hSl,hlt⟩:=bytesAt_view hbs
  have hfs2:hfs [v2,.int .i64 a,.int .i64 z]=true:=by simp [hfs,hSl.hf];exact ⟨rfl,rfl⟩
  refine C.view (args2:=[v2,.int .i64 a,.int .i64 z]) (.cons hF (.cons (.plain _ rfl) (.cons (.plain _ rfl) .nil))) (sc_takeV bs a z) (C.freeze hfs2 ?_)
  refine C.of_G hE g165 (take_run e hE h130 h131 v2 bs hSl hlt a z _ (fun h1 h2 s=>?_) (fun h0 h1 s=>?_) (fun h0 h1 s=>?_))
  ·have e1:takeV bs a z=.tup [.int .i64 0,.int .i64 3]:=by unfold takeV;rw [if_pos ⟨h1,h2⟩]
   rw [e1];exact .plain _ rfl
  ·have e1:takeV bs a z=.tup [.int .i64 0,.int .i64 2]:=by unfold takeV;rw [if_neg (pad_len h0),if_neg (by rw [h1];simp)]
   rw [e1];exact .plain _ rfl
  ·have e1:takeV bs a z=.tup [.int .i64 (Int.ofNat (num (pad bs) a.toNat z.toNat)),.int .i64 0]:=by unfold takeV;rw [if_neg (pad_len h0),if_pos h1]
   rw [e1];exact .plain _ rfl
 ·cases h
end Go.AM
namespace Go.AM
attribute [local irreducible] W
open X
def cdd128:AC:=match a111 with|.mk c _=>c
def putB (bs:List Nat) (a z n:Int):AV:=if bs.length≠0∧bs.length≠128 then .nils else if putOk a z n=true then .fz 128 (some 128) (bys (putN (pad bs) a.toNat n.toNat z.toNat)) else .nils
def putE (bs:List Nat) (a z n:Int):Int:=if bs.length≠0∧bs.length≠128 then 3 else if putOk a z n=true then 0 else 2
theorem putV_eq (bs:List Nat) (a z n:Int):putV bs a z n=.tup [putB bs a z n,.int .i64 (putE bs a z n)]:=by
 unfold putV putB putE
 split
 ·rfl
 ·split <;> rfl
theorem putB_cases (bs:List Nat) (a z n:Int):putB bs a z n=.nils∨∃ m c l,putB bs a z n=.fz m c l:=by
 unfold putB
 split
 ·exact .inl rfl
 ·split
  ·exact .inr ⟨_,_,_,rfl⟩
  ·exact .inl rfl
theorem cput_run (e:Env) (hE:EM P e) (h161:Con e 105 putO) (v:AV) (bs:List Nat) (hv:bytesAt St0 v=some bs) (a z n:Int) (haz:-9223372036854775808≤a+z∧a+z≤9223372036854775807) (Q:AV->St->Prop)
 (k:∀ s,Q (.agg [putB bs a z n,.int .i64 (a+z),.int .i64 (putE bs a z n)]) s):
 VW P e 0 cdd128 (initT [.agg [v,.int .i64 a,.int .i64 0],.int .i64 n,.int .i64 z] 0 .lf) St0 none [] (EEnd [.cells 6 3] Q):=by
 conv=>whnf
 refine EPrim.neqN (a:=0) (b:=0) rfl rfl (fun h=>absurd rfl h) (fun _=>?_);conv=>whnf
 refine ESc.ov h161 (v:=putV bs a z n) (s':=_) (by
  show (Option.rec .fail (fun bs=>.ok (putV bs a z n) _) (bytesAt St0 v):RV)=_
  rw [hv]) ?_
 rw [putV_eq]
 have hB:=putB_cases bs a z n
 revert k
 generalize putB bs a z n=B at hB ⊢
 intro k
 rcases hB with rfl|⟨m,c,l,rfl⟩
 ·conv=>whnf
  refine EPrim.addS rfl rfl haz ?_;conv=>whnf
  exact k _
 ·conv=>whnf
  refine EPrim.addS rfl rfl haz ?_;conv=>whnf
  exact k _
noncomputable def cputO (args:List AV) (s:St):RV:=match args with
 | [.agg [v,.int .i64 a,.int .i64 er],.int .i64 n,.int .i64 z]=>if er=0∧(-9223372036854775808≤a+z∧a+z≤9223372036854775807) then
  Option.rec .fail (fun bs=>.ok (.agg [putB bs a z n,.int .i64 (a+z),.int .i64 (putE bs a z n)]) s) (bytesAt St0 v) else .fail
 | _=>.fail
theorem cputO_ok {e:Env}(hE:EM P e) (h161:Con e 105 putO):OvOk P 111 cputO:=by
 refine ⟨g111.b,fun args s v s' h=>?_⟩
 unfold cputO at h
 split at h
 ·rename_i u a er n z
  split at h
  ·rename_i hcnd
   obtain ⟨rfl,haz⟩:=hcnd
   obtain ⟨bs,hbs,h⟩:=opt_ok h
   obtain ⟨rfl,rfl⟩:=ok_inj h
   obtain ⟨hSl,hlt⟩:=bytes0 hbs
   have hfs2:hfs [.agg [u,.int .i64 a,.int .i64 0],.int .i64 n,.int .i64 z]=true:=by
    show (AM.hf (.agg [u,.int .i64 a,.int .i64 0]) && _)=true
    have:AM.hf (.agg [u,.int .i64 a,.int .i64 0])=true:=by show (AM.hf u && _)=true;rw [hSl.hf];rfl
    rw [this];rfl
   have hu:AM.hf (.agg [putB bs a z n,.int .i64 (a+z),.int .i64 (putE bs a z n)])=true:=by
    show (AM.hf (putB bs a z n) && _)=true
    rcases putB_cases bs a z n with h|⟨m,c,l,h⟩ <;> rw [h] <;> rfl
   refine C.pure hfs2 hu ?_ s
   exact C.of_G hE g111 (cput_run e hE h161 u bs hbs a z n haz _ (fun s=>.plain _ hu))
  ·cases h
 ·cases h
section
variable {t:AT}{s:St}{k:AV->St->Prop}{x y:AO}
theorem EPrim.slcFz {es n l h:Nat}{c:Option Nat}{cs:List AV}{lo hi:Option AO}(hx:ev x t=.some (.fz n c cs)) (hlo:optNat t lo 0=.n l) (hhi:optNat t hi n=.n h) (h1:l≤h) (h2:h≤n) (h3:l<n) (hl:h*es≤cs.length)
 (hk:k (.fz (h-l) (Option.rec none (fun c=>some (c-l)) c) ((cs.drop (l*es)).take ((h-l)*es))) s):EPrim (.slc es x lo hi none) t s k:=by
 refine EPrim.mk (fun e rec=>?_) hk
 show wth x t _=_;unfold wth;rw [hx]
 show (NR.rec .fail _ (optNat t lo 0):RV)=_;rw [hlo]
 show (NR.rec .fail _ (optNat t hi n):RV)=_;rw [hhi]
 show gd (Nat.ble l h && Nat.ble h n) (Bool.rec (.ok .es s) (Option.rec .fail (fun cs'=>.ok (.fz (h-l) (Option.rec none (fun c=>some (c-l)) c) cs') s) (takeL (Nat.mul (h-l) es) (dropL (Nat.mul l es) cs))) (Nat.blt l n))=_
 have ht:takeL (Nat.mul (h-l) es) (dropL (Nat.mul l es) cs)=some ((cs.drop (l*es)).take ((h-l)*es)):=by
  rw [dropL_eq]
  refine takeL_of ?_
  rw [List.length_drop]
  show (h-l)*es≤cs.length-l*es
  rw [Nat.sub_mul];omega
 rw [Nat.ble_eq_true_of_le h1,Nat.ble_eq_true_of_le h2,show Nat.blt l n=true by simpa using h3,ht];rfl
end
theorem bytesOf_of:∀ {bs:List Nat},(∀ b ∈ bs,b<256)->bytesOf (bys bs)=some bs
 | [],_=>rfl
 | b::bs,h=>by
  show (Bool.rec none (Option.rec none (fun r=>some (b::r)) (bytesOf (bys bs))) (Nat.blt b 256):Option (List Nat))=_
  rw [bytesOf_of (fun x hx=>h x (by simp [hx])),show Nat.blt b 256=true by simpa using h b (by simp)]
variable {s:St}{c:Option Nat}{bs:List Nat}
theorem bytesAt_fz {n:Nat}(hn:bs.length=n) (h:∀ b ∈ bs,b<256):bytesAt s (.fz n c (bys bs))=some bs:=by
 show (Bool.rec none (bytesOf (bys bs)) (Nat.beq (lenL (bys bs)) n):Option (List Nat))=_
 rw [bytesOf_of h,lenL_eq,bys_length,hn,Nat.beq_refl]
theorem bys_take (bs:List Nat) (n:Nat):(bys bs).take n=bys (bs.take n):=by simp [bys,List.map_take]
def code129:AC:=match a112 with|.mk c _=>c
def code67:AC:=match a106 with|.mk c _=>c
theorem crcGo_lt:∀ {bs:List Nat}{s:Nat},(∀ b ∈ bs,b<256)->s<4294967296->crcGo bs s<4294967296
 | [],s,_,h=>h
 | b::bs,s,hb,h=>by
  show crcGo bs (crcStep s b)<_
  refine crcGo_lt (fun x hx=>hb x (by simp [hx])) (half_lt (half_lt (Nat.xor_lt_two_pow (n:=32) h ?_)))
  have:=hb b (by simp);omega
def sumN (bs:List Nat):Nat:=crcGo bs 4294967295 ^^^ 4294967295
theorem seal_run (e:Env) (hE:EM P e) (h67:Inl e 106 code67 [.tmp 2]) (h107:Con e 188 overO) (h128:Con e 111 cputO) (bs:List Nat) (hl:bs.length=128) (hb:∀ b ∈ bs,b<256) (c:Option Nat) (a:Int) (Q:AV->St->Prop)
 (k:∀ s,Q (.tup [putB bs 124 4 (Int.ofNat (sumN (bs.take 124))),.int .i64 (putE bs 124 4 (Int.ofNat (sumN (bs.take 124))))]) s):
 VW P e 0 code129 (initT [.agg [.fz 128 c (bys bs),.int .i64 a,.int .i64 0]] 0 .lf) St0 none [] (EEnd [.tmp 2,.tmp 3] Q):=by
 conv=>whnf
 refine EPrim.neqN (a:=0) (b:=0) rfl rfl (fun h=>absurd rfl h) (fun _=>?_);conv=>whnf
 refine EPrim.slcFz (l:=0) (h:=124) rfl rfl rfl (by omega) (by omega) (by omega) (by rw [bys_length];omega) ?_;conv=>whnf
 refine ESc.inl h67 ?_;conv=>whnf
 have htk:∀ b ∈ bs.take 124,b<256:=fun b hb'=>hb b (List.mem_of_mem_take hb')
 have htl:(bs.take 124).length=124:=by rw [List.length_take];omega
 have hsum:sumN (bs.take 124)<4294967296:=Nat.xor_lt_two_pow (n:=32) (crcGo_lt htk (by decide)) (by decide)
 refine ESc.ov h107 (v:=.int .u32 (Int.ofNat (sumN (bs.take 124)))) (s':=_) (by
  show (Option.rec .fail (fun bs=>gd (Nat.blt (lenL bs) 1000000) (.ok (.int .u32 (.ofNat (Nat.xor (crcGo bs (Nat.xor 0 4294967295)) 4294967295))) _)) (bytesAt _ (.fz 124 _ ((bys bs).take 124))):RV)=_
  rw [bys_take,bytesAt_fz htl htk]
  show gd (Nat.blt (lenL (bs.take 124)) 1000000) _=_
  rw [lenL_eq,htl];rfl) ?_
 conv=>whnf
 refine ⟨rfl,?_⟩;conv=>whnf
 refine EPrim.cviI64 rfl (by omega) ?_;conv=>whnf
 refine ESc.ov h128 (v:=.agg [putB bs 124 4 (Int.ofNat (sumN (bs.take 124))),.int .i64 (124+4),.int .i64 (putE bs 124 4 (Int.ofNat (sumN (bs.take 124))))]) (s':=_) (by
  show (if (0:Int)=0∧(-9223372036854775808≤(124:Int)+4∧(124:Int)+4≤9223372036854775807) then (Option.rec .fail (fun bs=>.ok (.agg [putB bs 124 4 (Int.ofNat (sumN _)),.int .i64 (124+4),.int .i64 (putE bs 124 4 _)]) _) (bytesAt St0 (.fz 128 c (bys bs))):RV) else .fail)=_
  rw [if_pos (by decide),bytesAt_fz hl hb]) ?_
 conv=>whnf
 exact k _
variable {a z n:Int}
theorem putB_ok (h1:¬ (bs.length≠0∧bs.length≠128)) (h2:putOk a z n=true):putB bs a z n=.fz 128 (some 128) (bys (putN (pad bs) a.toNat n.toNat z.toNat))∧putE bs a z n=0:=by
 unfold putB putE
 rw [if_neg h1,if_pos h2,if_neg h1,if_pos h2];exact ⟨rfl,rfl⟩
noncomputable def sealO (args:List AV) (s:St):RV:=match args with
 | [.agg [.fz 128 c l,.int .i64 a,.int .i64 er]]=>if er=0 then Option.rec .fail (fun bs=>if bs.length=128 then .ok (.tup [putB bs 124 4 (Int.ofNat (sumN (bs.take 124))),.int .i64 (putE bs 124 4 (Int.ofNat (sumN (bs.take 124))))]) s else .fail) (bytesOf l) else .fail
 | _=>.fail
variable {e:Env}
theorem sealO_ok (hE:EM P e) (h67:Inl e 106 code67 [.tmp 2]) (h107:Con e 188 overO) (h128:Con e 111 cputO):OvOk P 112 sealO:=by
 refine ⟨g112.b,fun args s v s' h=>?_⟩
 unfold sealO at h
 split at h
 ·rename_i c l a er
  split at h
  ·rename_i hcnd
   subst hcnd
   obtain ⟨bs,hbs,h⟩:=opt_ok h
   split at h
   ·rename_i hlen
    obtain ⟨rfl,rfl⟩:=ok_inj h
    obtain ⟨rfl,hlt⟩:=bytesOf_bys hbs
    have hu:AM.hf (.tup [putB bs 124 4 (Int.ofNat (sumN (bs.take 124))),.int .i64 (putE bs 124 4 (Int.ofNat (sumN (bs.take 124))))])=true:=by
     show (AM.hf (putB _ _ _ _) && _)=true
     rcases putB_cases bs 124 4 (Int.ofNat (sumN (bs.take 124))) with h|⟨m,c,l,h⟩ <;> rw [h] <;> rfl
    refine C.pure rfl hu ?_ s
    exact C.of_G hE g112 (seal_run e hE h67 h107 h128 bs hlen hlt c a _ (fun s=>.plain _ hu))
   ·cases h
  ·cases h
 ·cases h
def code160:AC:=match a190 with|.mk c _=>c
def code127:AC:=match a110 with|.mk c _=>c
def code84:AC:=match a45 with|.mk c _=>c
theorem num_run (e:Env) (s:St) (n:Int) (h0:0≤n∧n<4294967296) (K:AV->St->Prop) (h:K (.bool (numB n)) s):VE e code160 (initT [.int .u32 n] 0 .lf) s none [] (EEnd [.tmp 2] K):=by
 unfold numB at h
 conv=>whnf
 repeat' (first|(refine nq11 ?_;conv=>whnf)|refine nq1 ?_ ?_|(intro _;first|omega|conv=>whnf))
 ·rw [decide_eq_true (by omega)] at h;exact h
 ·rw [decide_eq_false (by omega)] at h;exact h
theorem Sup.inj {x y:Sup}(h:x.v=y.v):x=y:=by
 obtain ⟨a,b,c,d⟩:=x
 obtain ⟨a',b',c',d'⟩:=y
 simp [Sup.v] at h
 obtain ⟨rfl,rfl,rfl,rfl⟩:=h;rfl
def chkF:Fam Sup:=⟨Sup.ok,fun x=>[x.v],fun x=>.int .i64 (if x.b then 0 else 8),fun x y _ _ h=>by rw [Sup.inj (List.cons.inj h).1]⟩
theorem chkF_ok (hE:EM P e) (h160:Inl e 190 code160 [.tmp 2]):OvOk P 110 chkF.O:=by
 refine Fam.ok_of g110.b ?_
 rintro ⟨id,age,seq,tail⟩ ⟨hi,ha,hq⟩
 dsimp only at hi ha hq
 refine ⟨rfl,rfl,C.of_G hE g110 ?_⟩
 have fin:∀ s (b:Bool),b=supB age seq tail->Frz s (.int .i64 (if b then 0 else 8)) (chkF.out ⟨id,age,seq,tail⟩):=by
  rintro s b rfl;exact .plain _ rfl
 unfold supB at fin
 show VW P e 0 code127 (initT [AV.agg [.int .u32 id,.int .u32 age,.int .u32 seq,.int .i64 tail]] 0 .lf) St0 none [] _
 conv=>whnf
 refine ESc.inl h160 (num_run e _ age ha _ ?_)
 cases h1:numB age <;> rw [h1] at fin <;> conv=>whnf
 ·exact fin _ false rfl
 refine ESc.inl h160 (num_run e _ seq hq _ ?_)
 cases h2:numB seq <;> rw [h2] at fin <;> conv=>whnf
 ·exact fin _ false rfl
 repeat' (first|refine nq1 ?_ ?_|refine nq4 ?_ ?_|(intro _;first|omega|conv=>whnf))
 ·exact fin _ true (by rw [decide_eq_true (by omega)];rfl)
 ·exact fin _ false (by rw [decide_eq_false (by omega)];rfl)
 ·exact fin _ false (by rw [decide_eq_false (by omega)];rfl)
theorem putOkN {n:Nat}(h:fitsB a z=true) (h1:n<2^(8*z.toNat)):putOk a z n=true:=by
 unfold putOk
 rw [h,decide_eq_true];rfl
 exact ⟨by omega,Nat.div_eq_of_lt h1⟩
theorem cput_ok (hl:bs.length=128) (h:putOk a z n=true):putB bs a z n=.fz 128 (some 128) (bys (putN bs a.toNat n.toNat z.toNat))∧putE bs a z n=0:=by
 have:=putB_ok (bs:=bs) (a:=a) (z:=z) (n:=n) (by omega) h
 rw [pad_of hl] at this;exact this
def supB5 (id age seq tail:Nat):List Nat:=putN (putN (putN (putN (putN (List.replicate 128 0) 0 83 1) 1 id 4) 5 age 4) 9 seq 4) 13 tail 1
def supBlk (id age seq tail:Nat):List Nat:=putN (supB5 id age seq tail) 124 (sumN ((supB5 id age seq tail).take 124)) 4
theorem cputO_run {v:AV}(hv:bytesAt St0 v=some bs) (hl:bs.length=128) (ha:0≤a∧a<200∧0≤z∧z<10) (h:putOk a z n=true):
 cputO [.agg [v,.int .i64 a,.int .i64 0],.int .i64 n,.int .i64 z] s=.ok (.agg [.fz 128 (some 128) (bys (putN bs a.toNat n.toNat z.toNat)),.int .i64 (a+z),.int .i64 0]) s:=by
 show (if (0:Int)=0∧(-9223372036854775808≤a+z∧a+z≤9223372036854775807) then (Option.rec .fail (fun bs=>.ok (.agg [putB bs a z n,.int .i64 (a+z),.int .i64 (putE bs a z n)]) s) (bytesAt St0 v):RV) else .fail)=_
 rw [if_pos ⟨rfl,by omega⟩,hv]
 obtain ⟨e1,e2⟩:=cput_ok hl h
 show RV.ok (.agg [putB bs a z n,.int .i64 (a+z),.int .i64 (putE bs a z n)]) s=_
 rw [e1,e2]
theorem cputO_run0 (h:putOk 0 1 n=true):
 cputO [.agg [.nils,.int .i64 0,.int .i64 0],.int .i64 n,.int .i64 1] s=.ok (.agg [.fz 128 (some 128) (bys (putN (List.replicate 128 0) 0 n.toNat 1)),.int .i64 1,.int .i64 0]) s:=by
 show (if (0:Int)=0∧(-9223372036854775808≤(0:Int)+1∧(0:Int)+1≤9223372036854775807) then (Option.rec .fail (fun bs=>.ok (.agg [putB bs 0 1 n,.int .i64 (0+1),.int .i64 (putE bs 0 1 n)]) s) (bytesAt St0 .nils):RV) else .fail)=_
 rw [if_pos (by decide)]
 show RV.ok (.agg [putB [] 0 1 n,.int .i64 (0+1),.int .i64 (putE [] 0 1 n)]) s=_
 obtain ⟨e1,e2⟩:=putB_ok (bs:=[]) (a:=0) (z:=1) (n:=n) (by simp) h
 rw [e1,e2];rfl
theorem sealO_run (hl:bs.length=128) (hb:∀ b ∈ bs,b<256):
 sealO [.agg [.fz 128 c (bys bs),.int .i64 a,.int .i64 0]] s=.ok (.tup [.fz 128 (some 128) (bys (putN bs 124 (sumN (bs.take 124)) 4)),.int .i64 0]) s:=by
 show (if (0:Int)=0 then (Option.rec .fail (fun bs=>if bs.length=128 then .ok (.tup [putB bs 124 4 (Int.ofNat (sumN (bs.take 124))),.int .i64 (putE bs 124 4 (Int.ofNat (sumN (bs.take 124))))]) s else .fail) (bytesOf (bys bs)):RV) else .fail)=_
 rw [if_pos rfl,bytesOf_of hb]
 show (if bs.length=128 then RV.ok (.tup [putB bs 124 4 (Int.ofNat (sumN (bs.take 124))),.int .i64 (putE bs 124 4 (Int.ofNat (sumN (bs.take 124))))]) s else .fail)=_
 rw [if_pos hl]
 have hs:sumN (bs.take 124)<4294967296:=Nat.xor_lt_two_pow (n:=32) (crcGo_lt (fun b hb'=>hb b (List.mem_of_mem_take hb')) (by decide)) (by decide)
 obtain ⟨e1,e2⟩:=cput_ok (a:=124) (z:=4) (n:=Int.ofNat (sumN (bs.take 124))) hl (putOkN (by decide) hs)
 rw [e1,e2];rfl
def wrF:Fam Sup:=⟨Sup.ok,fun x=>[x.v],fun x=>if x.b then .tup [.fz 128 (some 128) (bys (supBlk x.id.toNat x.age.toNat x.seq.toNat x.tail.toNat)),.int .i64 0] else .tup [.nils,.int .i64 8],fun x y _ _ h=>by rw [Sup.inj (List.cons.inj h).1]⟩
theorem wrF_ok (hE:EM P e) (h127:Con e 110 chkF.O) (h128:Con e 111 cputO) (h129:Con e 112 sealO):OvOk P 45 wrF.O:=by
 refine Fam.ok_of g45.b ?_
 rintro ⟨id,age,seq,tail⟩ ⟨hi,ha,hq⟩
 dsimp only at hi ha hq
 refine ⟨rfl,by unfold wrF;dsimp only;split <;> rfl,C.of_G hE g45 ?_⟩
 cases hB:supB age seq tail
 ·rw [show wrF.out ⟨id,age,seq,tail⟩=.tup [.nils,.int .i64 8] by simp [wrF,Sup.b,hB]]
  conv=>whnf
  refine ESc.fam chkF h127 ⟨id,age,seq,tail⟩ ⟨hi,ha,hq⟩ (u:=.int .i64 8) (by simp [chkF,Sup.b,hB]) ?_;conv=>whnf
  repeat' (first|refine nq6 ?_ ?_|(intro _;first|omega|conv=>whnf))
  exact .plain _ rfl
 ·rw [show wrF.out ⟨id,age,seq,tail⟩=.tup [.fz 128 (some 128) (bys (supBlk id.toNat age.toNat seq.toNat tail.toNat)),.int .i64 0] by simp [wrF,Sup.b,hB]]
  have ht:0≤tail∧tail<255:=by
   unfold supB at hB;simp at hB;omega
  obtain ⟨I,rfl⟩:∃ I:Nat,id=I:=⟨id.toNat,by omega⟩
  obtain ⟨A,rfl⟩:∃ I:Nat,age=I:=⟨age.toNat,by omega⟩
  obtain ⟨Q,rfl⟩:∃ I:Nat,seq=I:=⟨seq.toNat,by omega⟩
  obtain ⟨T,rfl⟩:∃ I:Nat,tail=I:=⟨tail.toNat,by omega⟩
  simp only [Int.toNat_natCast]
  have l0:(List.replicate 128 0:List Nat).length=128:=by simp
  have b0:∀ b ∈ (List.replicate 128 0:List Nat),b<256:=fun b h=>by rw [List.eq_of_mem_replicate h];decide
  show VW P e 0 code84 (initT [AV.agg [.int .u32 (I:Int),.int .u32 (A:Int),.int .u32 (Q:Int),.int .i64 (T:Int)]] 0 .lf) St0 none [] _
  conv=>whnf
  refine ESc.fam chkF h127 ⟨I,A,Q,T⟩ ⟨hi,ha,hq⟩ (u:=.int .i64 0) (by simp [chkF,Sup.b,hB]) ?_;conv=>whnf
  repeat' (first|(refine nq14 ?_;conv=>whnf)|refine nq6 ?_ ?_|(intro _;first|omega|conv=>whnf))
  refine ESc.ov h128 (cputO_run0 (n:=83) (by decide)) ?_;conv=>whnf
  repeat' (first|(refine ⟨rfl,?_⟩;conv=>whnf)|fail)
  refine ESc.ov h128 (cputO_run (bytesAt_fz (by rw [putN_length];exact l0) (putN_lt b0 _)) (by rw [putN_length];exact l0) (by decide) (putOkN (by decide) (by show I<4294967296;omega))) ?_;conv=>whnf
  repeat' (first|(refine ⟨rfl,?_⟩;conv=>whnf)|fail)
  refine ESc.ov h128 (cputO_run (bytesAt_fz (by simp only [putN_length];exact l0) (putN_lt (putN_lt b0 _) _)) (by simp only [putN_length];exact l0) (by decide) (putOkN (by decide) (by show A<4294967296;omega))) ?_;conv=>whnf
  repeat' (first|(refine ⟨rfl,?_⟩;conv=>whnf)|fail)
  refine ESc.ov h128 (cputO_run (bytesAt_fz (by simp only [putN_length];exact l0) (putN_lt (putN_lt (putN_lt b0 _) _) _)) (by simp only [putN_length];exact l0) (by decide) (putOkN (by decide) (by show Q<4294967296;omega))) ?_;conv=>whnf
  repeat' (first|(refine ⟨rfl,?_⟩;conv=>whnf)|fail)
  refine ESc.ov h128 (cputO_run (bytesAt_fz (by simp only [putN_length];exact l0) (putN_lt (putN_lt (putN_lt (putN_lt b0 _) _) _) _)) (by simp only [putN_length];exact l0) (by decide) (putOkN (by decide) (by show T<256;omega))) ?_;conv=>whnf
  refine ESc.ov h129 (sealO_run (by simp only [putN_length];exact l0) (putN_lt (putN_lt (putN_lt (putN_lt (putN_lt b0 _) _) _) _) _)) ?_;conv=>whnf
  exact .plain _ rfl
end Go.AM
namespace Go.AM
attribute [local irreducible] W
open X
variable {s:St}{v:AV}{bs:List Nat}
theorem bytesAt_S (h:Sl 1 bs.length (bys bs) v) (hb:∀ b ∈ bs,b<256):bytesAt s v=some bs:=by
 rcases h with ⟨rfl,h0,_⟩|⟨rfl,h0,_⟩|⟨c,rfl,_⟩
 ·rw [List.length_eq_zero_iff.1 h0];rfl
 ·rw [List.length_eq_zero_iff.1 h0];rfl
 ·exact bytesAt_fz rfl hb
variable {a z:Int}
theorem takeO_good (h:bytesAt s v=some bs) (hl:¬ (bs.length≠0∧bs.length≠128)) (hf:fitsB a z=true):takeO [v,.int .i64 a,.int .i64 z] s=.ok (.tup [.int .i64 (num (pad bs) a.toNat z.toNat:Nat),.int .i64 0]) s:=by
 show (Option.rec .fail (fun bs=>.ok (takeV bs a z) s) (bytesAt s v):RV)=_
 rw [h]
 show RV.ok (takeV bs a z) s=_
 unfold takeV;rw [if_neg hl,if_pos hf];rfl
theorem num_lt {a:Nat}(hb:∀ b ∈ bs,b<256):∀ j,num bs a j<2^(8*j)
 | 0=>Nat.zero_lt_one
 | j+1=>by
  have hlt:bs.getD (a+j) 0<256:=by
   rw [List.getD_eq_getElem?_getD]
   cases hq:bs[a+j]? with
   | none=>decide
   | some q=>exact hb q (List.mem_of_getElem? hq)
  have e8:8*(j+1)=8*j+8:=by omega
  refine Nat.or_lt_two_pow (Nat.lt_of_lt_of_le (num_lt hb j) (Nat.pow_le_pow_right (by decide) (by omega))) ?_
  rw [e8,Nat.pow_add,Nat.mul_comm]
  exact Nat.mul_lt_mul_of_pos_left hlt (Nat.two_pow_pos _)
def rest41:AC:=match a156 with|.mk (.seq _ (.seq _ r)) _=>r|_=>.skip
def z4:List AV:=[.int .u32 0,.int .u32 0,.int .u32 0,.int .i64 0]
def pl:Nat->Int
 | 0=>1
 | 1=>5
 | _=>9
def ent (i j:Nat):AV×AV×Nat:=(.ptr 0 i,.int .i64 (pl i),j)
def ents:List Nat->Nat->List (AV×AV×Nat)
 | [],_=>[]
 | i::L,n=>ent i n::ents L (n+1)
theorem ents_append:∀ (L:List Nat) (i n:Nat),ents (L++[i]) n=ents L n++[ent i (n+L.length)]
 | [],i,n=>rfl
 | x::L,i,n=>by
  show ent x n::ents (L++[i]) (n+1)=ent x n::(ents L (n+1)++_)
  rw [ents_append L i (n+1),List.length_cons,Nat.add_assoc,Nat.add_comm 1]
theorem mem_ents:∀ {L:List Nat}{n:Nat}{e:AV×AV×Nat},e ∈ ents L n↔∃ j i,L[j]?=some i∧e=ent i (n+j)
 | [],n,e=>by simp [ents]
 | x::L,n,e=>by
  show e ∈ ent x n::ents L (n+1)↔_
  rw [List.mem_cons,mem_ents]
  constructor
  ·rintro (rfl|⟨j,i,h,rfl⟩)
   ·exact ⟨0,x,rfl,rfl⟩
   ·exact ⟨j+1,i,by simpa using h,by rw [Nat.add_assoc,Nat.add_comm 1]⟩
  ·rintro ⟨j,i,h,rfl⟩
   cases j with
   | zero=>simp at h;subst h;exact .inl rfl
   | succ j=>exact .inr ⟨j,i,by simpa using h,by rw [Nat.add_assoc,Nat.add_comm 1]⟩
def hasI (L seen:List Nat) (i:Nat):Bool:=seen.any fun j=>decide (L[j]?=some i)
theorem takeO_bad (h:bytesAt s v=some bs) (hl:bs.length≠0∧bs.length≠128):takeO [v,.int .i64 a,.int .i64 z] s=.ok (.tup [.int .i64 0,.int .i64 3]) s:=by
 show (Option.rec .fail (fun bs=>.ok (takeV bs a z) s) (bytesAt s v):RV)=_
 rw [h]
 show RV.ok (takeV bs a z) s=_
 unfold takeV;rw [if_pos hl]
def rdSup (bs:List Nat):Nat×Nat×Nat×Nat:=(num (pad bs) 1 4,num (pad bs) 5 4,num (pad bs) 9 4,num (pad bs) 13 1)
def sudOk (bs:List Nat):Bool:=supB (rdSup bs).2.1 (rdSup bs).2.2.1 (rdSup bs).2.2.2 && decide (supBlk (rdSup bs).1 (rdSup bs).2.1 (rdSup bs).2.2.1 (rdSup bs).2.2.2=bs)
def readV (bs:List Nat):AV:=
 if bs.length≠0∧bs.length≠128 then .tup [.agg z4,.int .i64 3]
 else if sudOk bs=true then .tup [.agg [.int .u32 ((rdSup bs).1:Int),.int .u32 ((rdSup bs).2.1:Int),.int .u32 ((rdSup bs).2.2.1:Int),.int .i64 ((rdSup bs).2.2.2:Int)],.int .i64 0]
 else .tup [.agg z4,.int .i64 90]
theorem supBlk_length (a b c d:Nat):(supBlk a b c d).length=128:=by
 unfold supBlk supB5;simp only [putN_length];simp
theorem supBlk_lt (a b c d:Nat):∀ x ∈ supBlk a b c d,x<256:=by
 unfold supBlk supB5
 refine putN_lt (putN_lt (putN_lt (putN_lt (putN_lt (putN_lt ?_ _) _) _) _) _) _
 intro b h;rw [List.eq_of_mem_replicate h];decide
theorem nodup_le:∀ (n:Nat) (l:List Nat),l.Nodup->(∀ x ∈ l,x<n)->l.length≤n
 | 0,l,_,h=>by
  cases l with
  | nil=>simp
  | cons x l=>have:=h x (by simp);omega
 | n+1,l,hn,h=>by
  by_cases hm:n ∈ l
  ·have h1:=nodup_le n (l.erase n) (hn.erase n) (fun x hx=>by
    have:=(hn.mem_erase_iff).1 hx
    have:=h x this.2
    omega)
   rw [List.length_erase_of_mem hm] at h1;omega
  ·have:=nodup_le n l hn (fun x hx=>by
    have:=h x hx
    have:x≠n:=fun e=>hm (e ▸ hx)
    omega)
   omega
theorem bdE_ents {n:Nat}(h:0<n):∀ (L:List Nat) (m:Nat),bdE n (ents L m)=true
 | [],m=>rfl
 | i::L,m=>by
  show (Nat.blt 0 n && true && bdE n (ents L (m+1)))=true
  rw [bdE_ents h L (m+1),show Nat.blt 0 n=true by simpa using h];rfl
theorem mapE_ents {ρ:Nat->Nat}(h:ρ 0=0):∀ (L:List Nat) (m:Nat),mapE ρ (ents L m)=ents L m
 | [],m=>rfl
 | i::L,m=>by
  show (AV.ptr (ρ 0) i,AV.int .i64 (pl i),m)::mapE ρ (ents L (m+1))=_
  rw [mapE_ents h L (m+1),h];rfl
variable {L:List Nat}{j i:Nat}
theorem bornK_ents (h:L[j]?=some i):∀ m,bornK (m+j) (ents L m)=some (ent i (m+j)):=by
 intro m
 induction L generalizing j m with
 | nil=>simp at h
 | cons x L ih=>
  show (Bool.rec (bornK (m+j) (ents L (m+1))) (some (ent x m)) (Nat.beq m (m+j)):Option (AV×AV×Nat))=_
  cases j with
  | zero=>simp at h;subst h;rw [Nat.add_zero,Nat.beq_refl]
  | succ j=>
   rw [show Nat.beq m (m+(j+1))=false by rw [← Bool.not_eq_true];intro e;have:=Nat.eq_of_beq_eq_true e;omega]
   have:=ih (j:=j) (by simpa using h) (m+1)
   rw [show m+1+j=m+(j+1) by omega] at this
   exact this
theorem lastL_app:∀ (l:List Nat) (x:Nat),lastL (l++[x])=some x
 | [],x=>rfl
 | y::l,x=>by
  show (Option.rec (some y) (fun z=>some z) (lastL (l++[x])):Option Nat)=some x
  rw [lastL_app l x]
variable {t:AT}{k:AV->St->Prop}{x:AO}{seen:List Nat}{es:List (AV×AV×Nat)}
theorem EPrim.entS {ri m since last:Nat}{en:AV×AV×Nat}(hx:ev x t=.some (.ptr ri 0)) (hi:s.get ri=some (.iter m since (seen++[j]) last)) (hm:s.get m=some (.map es last)) (hb:bornK j es=some en) (hk:k (.tup [en.1,en.2.1]) s):EPrim (.entm x) t s k:=by
 refine EPrim.mk (fun e rec=>?_) hk
 show wth x t _=_;unfold wth;rw [hx]
 show (IT.rec .fail _ (iterAt ri s):RV)=_
 unfold iterAt;rw [hi]
 show (Option.rec .fail _ (lastL (seen++[j])):RV)=_
 rw [lastL_app]
 show (Option.rec .fail _ (mapAt m s):RV)=_
 unfold mapAt;rw [hm]
 show gd (Nat.beq last last) (Option.rec .fail _ (bornK j es):RV)=_
 rw [Nat.beq_refl,hb];rfl
theorem hasI_app {i':Nat}(h:L[j]?=some i):hasI L (seen++[j]) i'=(hasI L seen i' || decide (i=i')):=by
 unfold hasI
 rw [List.any_append];simp [h]
theorem read_rest (e:Env) (hE:EM P e) (h86:Con e 165 takeO) (h84:Con e 45 wrF.O) (v:AV) (bs:List Nat) (hv:Sl 1 bs.length (bys bs) v) (hb:∀ b ∈ bs,b<256) (L:List Nat) (hL:∀ i,i ∈ L↔i<3) (hn:L.length=3) (hnd:L.Nodup):
 W P 0 none rest41 (ofL [(0,v),(2,.ptr 0 0),(3,.int .i64 0),(4,.map 1)]) (allocs St0 [.row 76 z4,.map (ents L 0) 3]) [] (EEnd [.cells 2 4,.tmp 3] (fun u s=>Frz s u (readV bs))):=by
 obtain ⟨x,hx⟩:∃ x:Nat->Nat,x=fun i=>num (pad bs) (pl i).toNat 4:=⟨_,rfl⟩
 have hxl:∀ i,x i<4294967296:=fun i=>by rw [hx];exact num_lt (pad_lt hb) 4
 obtain ⟨cel,hcel⟩:∃ cel:List Nat->Nat->Int,cel=fun seen i=>if hasI L seen i then (x i:Int) else 0:=⟨_,rfl⟩
 refine vs_sound hE ?_;conv=>whnf
 refine EPrim.mk (v:=.ptr 2 0) (s':=allocs St0 [.row 76 z4,.map (ents L 0) 3,.iter 1 3 [] 3]) (fun e rec=>rfl) ?_;conv=>whnf
 refine W.loopS (α:=List Nat) (fun seen=>[(0,v),(2,.ptr 0 0),(3,.int .i64 0),(17,.ptr 2 0)]) (fun seen=>[.row 76 [.int .u32 (cel seen 0),.int .u32 (cel seen 1),.int .u32 (cel seen 2),.int .i64 0],.map (ents L 0) 3,.iter 1 3 seen 3])
  (fun seen=>3-seen.length) (fun seen=>seen.Nodup∧(∀ j ∈ seen,j<3)∧((bs.length≠0∧bs.length≠128)->seen=[])) [] [0,1,2] ⟨by simp,by simp,fun _=>rfl⟩ ⟨by decide,⟨t9 hv.hf,r9,r9,r9,trivial⟩,⟨⟨rfl,?_⟩,⟨?_,?_⟩,r9,trivial⟩⟩ ?_
 ·rw [hcel];rfl
 ·exact bdE_ents (Nat.succ_pos _) L 0
 ·show _=some (AObj.map (mapE _ (ents L 0)) 3);rw [mapE_ents rfl];rfl
 rintro seen ⟨hsn,hs3,hbad⟩
 refine W.seq (W.next (e:=e) (since:=3) (last:=3) (cl:=3) (seen:=seen) (es:=ents L 0) (ri:=2) (m:=1) hE rfl rfl rfl ?_ (Nat.le_refl _) ?_)
 ·intro en he
  obtain ⟨j,i,hj,rfl⟩:=mem_ents.1 he
  have:=(List.getElem?_eq_some_iff.1 hj).1
  show 0+j<3;omega
 rintro vv s' (⟨hall,rfl,rfl⟩|⟨en,hen,hns,rfl,rfl⟩)
 ·conv=>whnf
  refine vs_sound hE ?_;conv=>whnf
  have hc:∀ i,i<3->cel seen i=x i:=by
   intro i hi
   obtain ⟨j,hj⟩:=List.getElem?_of_mem ((hL i).2 hi)
   have hj':=hall _ (mem_ents.2 ⟨j,i,hj,rfl⟩)
   have h1:hasI L seen i=true:=by
    unfold hasI
    rw [List.any_eq_true]
    exact ⟨j,by simpa [ent] using hj',by simpa using hj⟩
   rw [hcel];simp only [h1];rfl
  rw [hc 0 (by omega),hc 1 (by omega),hc 2 (by omega)]
  have hgood:¬ (bs.length≠0∧bs.length≠128):=by
   intro h
   have h0:=hbad h
   subst h0
   obtain ⟨j,hj⟩:=List.getElem?_of_mem ((hL 0).2 (by decide))
   have:=hall _ (mem_ents.2 ⟨j,0,hj,rfl⟩)
   simp at this
  refine ESc.ov h86 (takeO_good (bytesAt_S hv hb) hgood (by decide)) ?_
  have h13:num (pad bs) 13 1<256:=num_lt (pad_lt hb) 1
  have e0:x 0=(rdSup bs).1:=by rw [hx];rfl
  have e1:x 1=(rdSup bs).2.1:=by rw [hx];rfl
  have e2:x 2=(rdSup bs).2.2.1:=by rw [hx];rfl
  have e3:num (pad bs) (13:Int).toNat (1:Int).toNat=(rdSup bs).2.2.2:=rfl
  have b0:=hxl 0
  have b1:=hxl 1
  have b2:=hxl 2
  rw [e3,e0,e1,e2]
  rw [e0] at b0;rw [e1] at b1;rw [e2] at b2
  have b3:(rdSup bs).2.2.2<256:=h13
  have hV:readV bs=if sudOk bs=true then .tup [.agg [.int .u32 ((rdSup bs).1:Int),.int .u32 ((rdSup bs).2.1:Int),.int .u32 ((rdSup bs).2.2.1:Int),.int .i64 ((rdSup bs).2.2.2:Int)],.int .i64 0] else .tup [.agg z4,.int .i64 90]:=by unfold readV;rw [if_neg hgood]
  rw [hV]
  unfold sudOk
  revert b0 b1 b2 b3
  generalize (rdSup bs).1=I
  generalize (rdSup bs).2.1=A
  generalize (rdSup bs).2.2.1=Q
  generalize (rdSup bs).2.2.2=T
  intro b0 b1 b2 b3
  conv=>whnf
  cases hB:supB A Q T
  ·refine ESc.fam wrF h84 ⟨I,A,Q,T⟩ ⟨by simp;omega,by simp;omega,by simp;omega⟩ (u:=.tup [.nils,.int .i64 8]) (by simp [wrF,Sup.b,hB]) ?_;conv=>whnf
   repeat' (first|refine nq6 ?_ ?_|(intro _;first|omega|conv=>whnf))
   exact .plain _ rfl
  ·refine ESc.fam wrF h84 ⟨I,A,Q,T⟩ ⟨by simp;omega,by simp;omega,by simp;omega⟩ (u:=.tup [.fz 128 (some 128) (bys (supBlk I A Q T)),.int .i64 0]) (by simp [wrF,Sup.b,hB]) ?_;conv=>whnf
   repeat' (first|refine nq6 ?_ ?_|(intro _;first|omega|conv=>whnf))
   refine EPrim.b2sS (n:=128) rfl (.inr (.inr ⟨_,rfl,by rw [bys_length,supBlk_length]⟩)) (supBlk_lt _ _ _ _) ?_;conv=>whnf
   refine EPrim.b2sS rfl hv hb ?_;conv=>whnf
   refine EPrim.neqStr rfl rfl (fun hne=>?_) (fun heq=>?_) <;> conv=>whnf
   ·rw [if_neg (by simp [hne])]
    exact .plain _ rfl
   ·rw [if_pos (by simp [heq])]
    exact .plain _ rfl
 ·obtain ⟨j,i,hj,rfl⟩:=mem_ents.1 hen
  have hj3:=(List.getElem?_eq_some_iff.1 hj).1
  have hi3:i<3:=(hL i).1 (List.mem_of_getElem? hj)
  have hns:j ∉ seen:=by simpa [ent] using hns
  conv=>whnf
  refine vs_sound hE ?_;conv=>whnf
  refine EPrim.entS (seen:=seen) (j:=0+j) (en:=ent i (0+j)) rfl rfl rfl (bornK_ents hj 0) ?_;conv=>whnf
  have hfit:fitsB (pl i) 4=true:=by
   rcases i with _|_|_|i <;> first|rfl|omega
  by_cases hlen:bs.length≠0∧bs.length≠128
  ·refine ESc.ov h86 (takeO_bad (bytesAt_S hv hb) hlen) ?_;conv=>whnf
   repeat' (first|refine nq6 ?_ ?_|(intro _;first|omega|conv=>whnf))
   unfold readV
   rw [if_pos hlen]
   exact .plain _ rfl
  ·refine ESc.ov h86 (takeO_good (bytesAt_S hv hb) hlen hfit) ?_
   rw [show num (pad bs) (pl i).toNat (4:Int).toNat=x i by rw [hx];rfl]
   have hxi:=hxl i
   conv=>whnf
   repeat' (first|(refine nq14u ?_;conv=>whnf)|refine nq6 ?_ ?_|(intro _;first|omega|conv=>whnf))
   have hn2:seen.length+1=(seen++[0+j]).length:=by simp
   have key:∀ i',cel (seen++[0+j]) i'=if i=i' then (x i':Int) else cel seen i':=by
    intro i'
    rw [hcel];dsimp only
    rw [Nat.zero_add,hasI_app hj]
    by_cases h:i=i' <;> simp [h]
   have hI:(seen++[0+j]).Nodup∧(∀ j' ∈ seen++[0+j],j'<3)∧((bs.length≠0∧bs.length≠128)->seen++[0+j]=[]):=by
    refine ⟨?_,?_,fun h=>absurd h hlen⟩
    ·rw [Nat.zero_add,List.nodup_append]
     exact ⟨hsn,by simp,by rintro a ha b hb rfl;simp at hb;subst hb;exact hns ha⟩
    ·intro j' hj'
     rcases List.mem_append.1 hj' with h|h
     ·exact hs3 j' h
     ·simp at h;omega
   have hlen3:seen.length<3:=by
    have:=nodup_le 3 _ hI.1 hI.2.1
    simp at this;omega
   have hab:∀ t s,t.get 0=some v->t.get 2=some (.ptr 0 0)->t.get 3=some (.int .i64 0)->t.get 17=some (.ptr 2 0)->s.get 0=some (.row 76 [.int .u32 (cel (seen++[0+j]) 0),.int .u32 (cel (seen++[0+j]) 1),.int .u32 (cel (seen++[0+j]) 2),.int .i64 0])->s.get 1=some (.map (ents L 0) 3)->s.get 2=some (.iter 1 3 (seen++[0+j]) 3)->
    Abs t s [(0,v),(2,.ptr 0 0),(3,.int .i64 0),(17,.ptr 2 0)] [.row 76 [.int .u32 (cel (seen++[0+j]) 0),.int .u32 (cel (seen++[0+j]) 1),.int .u32 (cel (seen++[0+j]) 2),.int .i64 0],.map (ents L 0) 3,.iter 1 3 (seen++[0+j]) 3] [0,1,2]:=by
    intro t s h0 h2 h3 h17 g0 g1 g2
    refine ⟨by decide,⟨⟨hf_bd _ hv.hf,by rw [hf_mapV _ hv.hf];exact h0⟩,⟨rfl,h2⟩,⟨rfl,h3⟩,⟨rfl,h17⟩,trivial⟩,⟨⟨rfl,g0⟩,⟨bdE_ents (Nat.succ_pos _) L 0,?_⟩,⟨rfl,g2⟩,trivial⟩⟩
    show _=some (AObj.map (mapE _ (ents L 0)) 3);rw [mapE_ents rfl];exact g1
   rcases i with _|_|_|i
   ·conv=>whnf
    refine ⟨rfl,seen++[0+j],hI,by omega,[0,1,2],hab _ _ rfl rfl rfl rfl ?_ rfl rfl⟩
    rw [key 0,key 1,key 2];rfl
   ·conv=>whnf
    refine ⟨rfl,seen++[0+j],hI,by omega,[0,1,2],hab _ _ rfl rfl rfl rfl ?_ rfl rfl⟩
    rw [key 0,key 1,key 2];rfl
   ·conv=>whnf
    refine ⟨rfl,seen++[0+j],hI,by omega,[0,1,2],hab _ _ rfl rfl rfl rfl ?_ rfl rfl⟩
    rw [key 0,key 1,key 2];rfl
   ·omega
structure MapReg (N:Nat) (ops:Array Oper):Prop where
 size:ops.size=9
 back:backOk ops.toList 0=true
 op:∀ (i d:Nat) (p:AOp) (pre:List Nat),[(12,AOp.mkmap,[]),(13,.fa 0 (.t 2),[]),(0,.msetp (.t 11) (.t 12) (.c (.int .i64 1)),[0,1]),(14,.fa 1 (.t 2),[]),(0,.msetp (.t 11) (.t 13) (.c (.int .i64 5)),[0,3]),(15,.fa 2 (.t 2),[]),(0,.msetp (.t 11) (.t 14) (.c (.int .i64 9)),[0,5]),(16,.mv (.t 11),[0,1,2,3,4,5,6]),(5,.mv (.t 15),[7])][i]?=some (d,p,pre)->
  ∃ o,ops[i]?=some o∧compDst N o.dst=some d∧compOp P o=some p∧o.guard=none∧∀ j ∈ pre,∃ e ∈ o.after.toList,Region.binds .any e=true∧e.on=j
structure MapJ (v:AV) (D:Nat->Prop) (t:AT) (s:St):Prop where
 t0:t.get 0=some v
 t2:t.get 2=some (.ptr 0 0)
 t3:t.get 3=some (.int .i64 0)
 r0:s.get 0=some (.row 76 z4)
 m0:¬ D 0->s.next=1∧¬ D 2∧¬ D 4∧¬ D 6
 m1:D 0->t.get 11=some (.map 1)∧s.next=2∧∃ L:List Nat,L.Nodup∧(∀ i,i ∈ L↔i<3∧D (2+2*i))∧s.get 1=some (.map (ents L 0) L.length)
 f0:D 1->t.get 12=some (.ptr 0 0)
 f1:D 3->t.get 13=some (.ptr 0 1)
 f2:D 5->t.get 14=some (.ptr 0 2)
 m7:D 7->t.get 15=some (.map 1)
 m8:D 8->t.get 4=some (.map 1)
theorem othK_ents {i:Nat}:∀ {L:List Nat}{n:Nat},i ∉ L->othK 0 i (ents L n)=true
 | [],n,_=>rfl
 | x::L,n,h=>by
  show (Bool.rec (othK 0 i (ents L (n+1))) false (Nat.beq i x):Bool)=true
  rw [show Nat.beq i x=false by rw [← Bool.not_eq_true];intro e;exact h (by rw [Nat.eq_of_beq_eq_true e];simp)]
  exact othK_ents (fun e=>h (by simp [e]))
theorem EPrim.msetpP {m y:AO}{rm r o c:Nat}(hm:ev m t=.some (.map rm)) (hx:ev x t=.some (.ptr r o)) (hy:ev y t=.some v) (hs:s.get rm=some (.map es c)) (ho:othK r o es=true) (hk:k (.tup []) (s.put rm (.map (es++[(.ptr r o,v,c)]) (c+1)))):EPrim (.msetp m x y) t s k:=by
 refine EPrim.mk (fun e rec=>?_) hk
 show wth m t _=_;unfold wth;rw [hm]
 show wth x t _=_;unfold wth;rw [hx]
 show wth y t _=_;unfold wth;rw [hy]
 show (Option.rec .fail _ (mapAt rm s):RV)=_
 unfold mapAt;rw [hs]
 show gd (othK r o es) (.ok (.tup []) (s.put rm (.map (appL es [(.ptr r o,v,c)]) (c+1))))=_
 rw [ho,appL_eq];rfl
theorem evT_of (h:t.get i=some v):ev (.t i) t=.some v:=by
 show (Option.rec .none (fun v=>.some v) (t.get i):OV)=_;rw [h]
variable {D D':Nat->Prop}
theorem MapJ.tmp (h:MapJ v D t s) {d:Nat}{u:AV}(hd:d≠0∧d≠2∧d≠3∧d<1000)
 (h0:D' 0↔D 0) (h2:D' 2↔D 2) (h4:D' 4↔D 4) (h6:D' 6↔D 6) (e11:d≠11)
 (g1:D' 1->(D 1∧d≠12)∨(d=12∧u=.ptr 0 0)) (g3:D' 3->(D 3∧d≠13)∨(d=13∧u=.ptr 0 1)) (g5:D' 5->(D 5∧d≠14)∨(d=14∧u=.ptr 0 2))
 (g7:D' 7->(D 7∧d≠15)∨(d=15∧u=.map 1)) (g8:D' 8->(D 8∧d≠4)∨(d=4∧u=.map 1)):MapJ v D' (t.set u d) s:=by
 have key:∀ (i:Nat) (A B:Prop) (w:AV),(A->(B∧d≠i)∨(d=i∧u=w))->(B->t.get i=some w)->A->(t.set u d).get i=some w:=by
  intro i A B w hg hb ha
  rcases hg ha with ⟨hB,hne⟩|⟨rfl,rfl⟩
  ·exact T.get_set_ne (fun e=>hne e.symm) (hb hB)
  ·exact T.get_set_same _ _ (by omega)
 refine ⟨T.get_set_ne (by omega) h.t0,T.get_set_ne (by omega) h.t2,T.get_set_ne (by omega) h.t3,h.r0,?_,?_,key 12 _ _ _ g1 h.f0,key 13 _ _ _ g3 h.f1,key 14 _ _ _ g5 h.f2,key 15 _ _ _ g7 h.m7,key 4 _ _ _ g8 h.m8⟩
 ·intro hn;rw [h2,h4,h6];exact h.m0 (fun e=>hn (h0.2 e))
 ·intro hD
  obtain ⟨a,b,L,c1,c2,c3⟩:=h.m1 (h0.1 hD)
  refine ⟨T.get_set_ne (by omega) a,b,L,c1,fun i=>?_,c3⟩
  rw [c2]
  rcases i with _|_|_|i
  ·rw [show 2+2*0=2 from rfl,h2]
  ·rw [show 2+2*(0+1)=4 from rfl,h4]
  ·rw [show 2+2*(0+1+1)=6 from rfl,h6]
  ·constructor <;> intro h <;> omega
theorem MapJ.set (h:MapJ v D t s) (hD:D 0) {q:Nat}(hq:q<3) (hn:¬ D (2+2*q)) (hD':∀ j,D' j↔D j∨j=2+2*q) (c1:L.Nodup) (c2:∀ i,i ∈ L↔i<3∧D (2+2*i)) (hs:s.next=2) (ht:t.get 11=some (.map 1)):
 MapJ v D' t (s.put 1 (.map (ents L 0++[(.ptr 0 q,.int .i64 (pl q),L.length)]) (L.length+1))):=by
 have odd:∀ j,j % 2=1∨j=0∨j=8->(D' j↔D j):=fun j hj=>by
  rw [hD'];constructor
  ·rintro (h|h)
   ·exact h
   ·omega
  ·exact .inl
 refine ⟨h.t0,h.t2,h.t3,by rw [St.get_put_ne (by decide)];exact h.r0,fun hn=>absurd ((odd 0 (by omega)).2 hD) hn,fun _=>⟨ht,by rw [St.next_put];exact hs,L++[q],?_,?_,?_⟩,fun e=>h.f0 ((odd 1 (by omega)).1 e),fun e=>h.f1 ((odd 3 (by omega)).1 e),fun e=>h.f2 ((odd 5 (by omega)).1 e),fun e=>h.m7 ((odd 7 (by omega)).1 e),fun e=>h.m8 ((odd 8 (by omega)).1 e)⟩
 ·rw [List.nodup_append]
  exact ⟨c1,by simp,by rintro a ha b hb rfl;simp at hb;subst hb;exact hn ((c2 _).1 ha).2⟩
 ·intro i
  rw [List.mem_append,c2,hD']
  constructor
  ·rintro (h|h)
   ·exact ⟨h.1,.inl h.2⟩
   ·simp at h;subst h;exact ⟨hq,.inr rfl⟩
  ·rintro ⟨h1,h2|h2⟩
   ·exact .inl ⟨h1,h2⟩
   ·exact .inr (by simp;omega)
 ·rw [St.get_put_same (by decide),ents_append,List.length_append]
  simp [ent]
variable {ops:Array Oper}
theorem read_any (e:Env) (hE:EM P e) {N id:Nat}(hR:MapReg N ops) (v:AV) (t:AT) (s:St) (hJ:MapJ v (fun _=>False) t s) (Q:EQ)
 (hQ:∀ t s,MapJ v (fun i=>i<9) t s->Q .normal t s []):WC P 0 none N (.region id ops true) t s [] Q:=by
 refine WC.any hE hR.back (MapJ v) hJ ?_ ?_
 ·intro D t s i o hJ ho hD hpre
  have hi:i<9:=by have:=(Array.getElem?_eq_some_iff.1 ho).1;rw [hR.size] at this;exact this
  have get:∀ d p pre,[(12,AOp.mkmap,[]),(13,.fa 0 (.t 2),[]),(0,.msetp (.t 11) (.t 12) (.c (.int .i64 1)),[0,1]),(14,.fa 1 (.t 2),[]),(0,.msetp (.t 11) (.t 13) (.c (.int .i64 5)),[0,3]),(15,.fa 2 (.t 2),[]),(0,.msetp (.t 11) (.t 14) (.c (.int .i64 9)),[0,5]),(16,.mv (.t 11),[0,1,2,3,4,5,6]),(5,.mv (.t 15),[7])][i]?=some (d,p,pre)->
   compDst N o.dst=some d∧compOp P o=some p∧o.guard=none∧∀ j ∈ pre,D j:=by
   intro d p pre h
   obtain ⟨o',h1,h2,h3,h4,h5⟩:=hR.op i d p pre h
   rw [ho] at h1;cases h1
   refine ⟨h2,h3,h4,fun j hj=>?_⟩
   obtain ⟨ed,he1,he2,rfl⟩:=h5 j hj
   exact hpre ed he1 he2
  rcases i with _|_|_|_|_|_|_|_|_|i
  ·obtain ⟨a,b,c,_⟩:=get 12 .mkmap [] rfl
   refine ⟨12,.mkmap,a,b,c,?_⟩
   obtain ⟨n1,n2,n4,n6⟩:=hJ.m0 hD
   show MapJ v _ (t.set (.map s.next) 11) (s.alloc (.map [] 0))
   rw [n1]
   refine ⟨T.get_set_ne (by decide) hJ.t0,T.get_set_ne (by decide) hJ.t2,T.get_set_ne (by decide) hJ.t3,by rw [St.get_alloc_ne (by omega)];exact hJ.r0,fun h=>absurd (.inr rfl) h,fun _=>⟨T.get_set_same _ _ (by decide),by rw [St.next_alloc,n1],[],by simp,fun i=>?_,?_⟩,fun h=>?_,fun h=>?_,fun h=>?_,fun h=>?_,fun h=>?_⟩
   ·constructor
    ·intro h;simp at h
    ·rintro ⟨h1,h2|h2⟩
     ·rcases i with _|_|_|i
      ·exact absurd h2 n2
      ·exact absurd h2 n4
      ·exact absurd h2 n6
      ·omega
     ·omega
   ·have:=St.get_alloc_same (s:=s) (o:=.map [] 0) (by omega)
    rw [n1] at this;exact this
   ·exact T.get_set_ne (by decide) (hJ.f0 (h.resolve_right (by decide)))
   ·exact T.get_set_ne (by decide) (hJ.f1 (h.resolve_right (by decide)))
   ·exact T.get_set_ne (by decide) (hJ.f2 (h.resolve_right (by decide)))
   ·exact T.get_set_ne (by decide) (hJ.m7 (h.resolve_right (by decide)))
   ·exact T.get_set_ne (by decide) (hJ.m8 (h.resolve_right (by decide)))
  ·obtain ⟨a,b,c,_⟩:=get 13 (.fa 0 (.t 2)) [] rfl
   refine ⟨13,.fa 0 (.t 2),a,b,c,?_⟩
   show wV (ev (.t 2) t) _
   rw [evT_of hJ.t2]
   refine hJ.tmp (d:=12) (u:=.ptr 0 0) (by omega) (by simp) (by simp) (by simp) (by simp) (by omega) ?_ ?_ ?_ ?_ ?_ <;> intro h <;> first|exact .inr ⟨rfl,rfl⟩|exact .inl ⟨h.resolve_right (by omega),by omega⟩
  ·obtain ⟨a,b,c,hp⟩:=get 0 (.msetp (.t 11) (.t 12) (.c (.int .i64 1))) [0,1] rfl
   refine ⟨0,.msetp (.t 11) (.t 12) (.c (.int .i64 1)),a,b,c,?_⟩
   have h0:=hp 0 (by simp)
   obtain ⟨g1,g2,L,c1,c2,c3⟩:=hJ.m1 h0
   have hq:0 ∉ L:=fun h=>hD ((c2 0).1 h).2
   show EPrim (.msetp (.t 11) (.t 12) (.c (.int .i64 1))) t s _
   refine EPrim.msetpP (evT_of g1) (evT_of (hJ.f0 (hp 1 (by simp)))) rfl c3 (othK_ents hq) ?_
   exact hJ.set h0 (q:=0) (by decide) hD (fun j=>Iff.rfl) c1 c2 g2 g1
  ·obtain ⟨a,b,c,_⟩:=get 14 (.fa 1 (.t 2)) [] rfl
   refine ⟨14,.fa 1 (.t 2),a,b,c,?_⟩
   show wV (ev (.t 2) t) _
   rw [evT_of hJ.t2]
   refine hJ.tmp (d:=13) (u:=.ptr 0 1) (by omega) (by simp) (by simp) (by simp) (by simp) (by omega) ?_ ?_ ?_ ?_ ?_ <;> intro h <;> first|exact .inr ⟨rfl,rfl⟩|exact .inl ⟨h.resolve_right (by omega),by omega⟩
  ·obtain ⟨a,b,c,hp⟩:=get 0 (.msetp (.t 11) (.t 13) (.c (.int .i64 5))) [0,3] rfl
   refine ⟨0,.msetp (.t 11) (.t 13) (.c (.int .i64 5)),a,b,c,?_⟩
   have h0:=hp 0 (by simp)
   obtain ⟨g1,g2,L,c1,c2,c3⟩:=hJ.m1 h0
   have hq:1 ∉ L:=fun h=>hD ((c2 1).1 h).2
   show EPrim (.msetp (.t 11) (.t 13) (.c (.int .i64 5))) t s _
   refine EPrim.msetpP (evT_of g1) (evT_of (hJ.f1 (hp 3 (by simp)))) rfl c3 (othK_ents hq) ?_
   exact hJ.set h0 (q:=1) (by decide) hD (fun j=>Iff.rfl) c1 c2 g2 g1
  ·obtain ⟨a,b,c,_⟩:=get 15 (.fa 2 (.t 2)) [] rfl
   refine ⟨15,.fa 2 (.t 2),a,b,c,?_⟩
   show wV (ev (.t 2) t) _
   rw [evT_of hJ.t2]
   refine hJ.tmp (d:=14) (u:=.ptr 0 2) (by omega) (by simp) (by simp) (by simp) (by simp) (by omega) ?_ ?_ ?_ ?_ ?_ <;> intro h <;> first|exact .inr ⟨rfl,rfl⟩|exact .inl ⟨h.resolve_right (by omega),by omega⟩
  ·obtain ⟨a,b,c,hp⟩:=get 0 (.msetp (.t 11) (.t 14) (.c (.int .i64 9))) [0,5] rfl
   refine ⟨0,.msetp (.t 11) (.t 14) (.c (.int .i64 9)),a,b,c,?_⟩
   have h0:=hp 0 (by simp)
   obtain ⟨g1,g2,L,c1,c2,c3⟩:=hJ.m1 h0
   have hq:2 ∉ L:=fun h=>hD ((c2 2).1 h).2
   show EPrim (.msetp (.t 11) (.t 14) (.c (.int .i64 9))) t s _
   refine EPrim.msetpP (evT_of g1) (evT_of (hJ.f2 (hp 5 (by simp)))) rfl c3 (othK_ents hq) ?_
   exact hJ.set h0 (q:=2) (by decide) hD (fun j=>Iff.rfl) c1 c2 g2 g1
  ·obtain ⟨a,b,c,hp⟩:=get 16 (.mv (.t 11)) [0,1,2,3,4,5,6] rfl
   refine ⟨16,.mv (.t 11),a,b,c,?_⟩
   obtain ⟨g1,_⟩:=hJ.m1 (hp 0 (by simp))
   show wV (ev (.t 11) t) _
   rw [evT_of g1]
   refine hJ.tmp (d:=15) (u:=.map 1) (by omega) (by simp) (by simp) (by simp) (by simp) (by omega) ?_ ?_ ?_ ?_ ?_ <;> intro h <;> first|exact .inr ⟨rfl,rfl⟩|exact .inl ⟨h.resolve_right (by omega),by omega⟩
  ·obtain ⟨a,b,c,hp⟩:=get 5 (.mv (.t 15)) [7] rfl
   refine ⟨5,.mv (.t 15),a,b,c,?_⟩
   have g1:=hJ.m7 (hp 7 (by simp))
   show wV (ev (.t 15) t) _
   rw [evT_of g1]
   refine hJ.tmp (d:=4) (u:=.map 1) (by omega) (by simp) (by simp) (by simp) (by simp) (by omega) ?_ ?_ ?_ ?_ ?_ <;> intro h <;> first|exact .inr ⟨rfl,rfl⟩|exact .inl ⟨h.resolve_right (by omega),by omega⟩
  ·omega
 ·intro D t s hJ hall
  rw [hR.size] at hall
  refine hQ t s ⟨hJ.t0,hJ.t2,hJ.t3,hJ.r0,fun h=>absurd (by decide) h,fun _=>?_,fun _=>hJ.f0 (hall 1 (by decide)),fun _=>hJ.f1 (hall 3 (by decide)),fun _=>hJ.f2 (hall 5 (by decide)),fun _=>hJ.m7 (hall 7 (by decide)),fun _=>hJ.m8 (hall 8 (by decide))⟩
  obtain ⟨a,b,L,c1,c2,c3⟩:=hJ.m1 (hall 0 (by decide))
  refine ⟨a,b,L,c1,fun i=>?_,c3⟩
  rw [c2]
  constructor
  ·rintro ⟨h,_⟩;exact ⟨h,by omega⟩
  ·rintro ⟨h,_⟩;exact ⟨h,hall _ (by omega)⟩
theorem three_le:∀ {L:List Nat},0 ∈ L->1 ∈ L->2 ∈ L->3≤L.length
 | [],h,_,_=>by simp at h
 | [a],h0,h1,h2=>by simp at h0 h1;omega
 | [a,b],h0,h1,h2=>by simp at h0 h1 h2;omega
 | _::_::_::_,_,_,_=>by simp
noncomputable def readO (args:List AV) (s:St):RV:=match args with
 | [v]=>Option.rec .fail (fun bs=>.ok (readV bs) s) (bytesAt s v)
 | _=>.fail
theorem sc_readV (bs:List Nat):sc (readV bs)=true:=by
 unfold readV
 split
 ·rfl
 ·split <;> rfl
def reg41:AC:=match a156 with|.mk (.seq r _) _=>r|_=>.skip
theorem readO_ok {e:Env}{fn:Func}{c0 c2:Code}{id:Nat}(hE:EM P e) (h86:Con e 165 takeO) (h84:Con e 45 wrF.O) (hf:P.funcs[156]?=some fn) (hbody:fn.body=some (.seq c0 (.seq (.region id ops true) c2)))
 (hc0:comp P fn.ntmps c0=some reg41) (hc2:comp P fn.ntmps c2=some rest41) (hR:MapReg fn.ntmps ops) (hrs:compRes P fn.results.toList=some [.cells 2 4,.tmp 3]) (hb:HasBody P 156):OvOk P 156 readO:=by
 refine ⟨hb,fun args s v s' h=>?_⟩
 unfold readO at h
 split at h
 ·rename_i u
  obtain ⟨bs,hbs,h⟩:=opt_ok h
  obtain ⟨rfl,rfl⟩:=ok_inj h
  obtain ⟨v2,hF,hSl,hlt⟩:=bytesAt_view hbs
  have hfs2:hfs [v2]=true:=by simp [hfs,hSl.hf]
  refine C.view (args2:=[v2]) (.cons hF .nil) (sc_readV bs) (C.freeze hfs2 ?_)
  refine C.of_WC hf hbody hrs (WC.seq (W.code hc0 (vs_sound hE (e:=e) ?_)));conv=>whnf
  refine WC.seq (read_any e hE hR v2 _ _ ⟨rfl,rfl,rfl,rfl,fun _=>⟨rfl,by simp,by simp,by simp⟩,fun h=>h.elim,fun h=>h.elim,fun h=>h.elim,fun h=>h.elim,fun h=>h.elim,fun h=>h.elim⟩ _ ?_)
  intro t s hJ
  obtain ⟨g1,g2,L,c1,c2',c3⟩:=hJ.m1 (by decide)
  have hL:∀ i,i ∈ L↔i<3:=fun i=>by rw [c2'];constructor <;> intro h <;> first|exact h.1|exact ⟨h,by omega⟩
  have hlen:L.length=3:=by
   have h1:=nodup_le 3 L c1 (fun x hx=>(hL x).1 hx)
   have m0:=(hL 0).2 (by decide)
   have m1:=(hL 1).2 (by decide)
   have m2:=(hL 2).2 (by decide)
   have h2:=three_le m0 m1 m2
   omega
  rw [hlen] at c3
  show WC P 0 none fn.ntmps c2 t s [] _
  refine W.code hc2 (W.abs [(0,v2),(2,.ptr 0 0),(3,.int .i64 0),(4,.map 1)] [.row 76 z4,.map (ents L 0) 3] [0,1] ⟨by decide,⟨⟨hf_bd _ hSl.hf,by rw [hf_mapV _ hSl.hf];exact hJ.t0⟩,⟨rfl,hJ.t2⟩,⟨rfl,hJ.t3⟩,⟨rfl,hJ.m8 (by decide)⟩,trivial⟩,⟨⟨rfl,hJ.r0⟩,⟨bdE_ents (Nat.succ_pos _) L 0,?_⟩,trivial⟩⟩ ((read_rest e hE h86 h84 v2 bs hSl hlt L hL hlen c1).mono fun _ _ _ _ h=>eend_ends h))
  show _=some (AObj.map (mapE _ (ents L 0)) 3);rw [mapE_ents rfl];exact c3
 ·cases h
variable {I A Q:Nat}
theorem rdSup_blk {T:Nat}(hI:I<4294967296) (hA:A<4294967296) (hQ:Q<4294967296) (hT:T<256):rdSup (supBlk I A Q T)=(I,A,Q,T):=by
 have hp:pad (supBlk I A Q T)=supBlk I A Q T:=pad_of (supBlk_length I A Q T)
 unfold rdSup
 rw [hp]
 have l0:(List.replicate 128 0:List Nat).length=128:=by simp
 have e1:num (supBlk I A Q T) 1 4=I:=by
  unfold supBlk supB5
  rw [num_skip (by omega),num_skip (by omega),num_skip (by omega),num_skip (by omega),num_put (by simp only [putN_length];omega) hI]
 have e2:num (supBlk I A Q T) 5 4=A:=by
  unfold supBlk supB5
  rw [num_skip (by omega),num_skip (by omega),num_skip (by omega),num_put (by simp only [putN_length];omega) hA]
 have e3:num (supBlk I A Q T) 9 4=Q:=by
  unfold supBlk supB5
  rw [num_skip (by omega),num_skip (by omega),num_put (by simp only [putN_length];omega) hQ]
 have e4:num (supBlk I A Q T) 13 1=T:=by
  unfold supBlk supB5
  rw [num_skip (by omega),num_put (by simp only [putN_length];omega) hT]
 rw [e1,e2,e3,e4]
theorem readV_blk {T:Nat}(hI:I<4294967296) (h:supB A Q T=true):readV (supBlk I A Q T)=.tup [.agg [.int .u32 (I:Int),.int .u32 (A:Int),.int .u32 (Q:Int),.int .i64 (T:Int)],.int .i64 0]:=by
 have hb:=h
 unfold supB numB at hb
 simp only [Bool.and_eq_true,decide_eq_true_eq] at hb
 have hr:=rdSup_blk hI (A:=A) (Q:=Q) (T:=T) (by omega) (by omega) (by omega)
 unfold readV
 rw [if_neg (by rw [supBlk_length];omega),if_pos (by unfold sudOk;rw [hr];simp [h])]
 rw [hr]
end Go.AM
namespace Go.AM
def arL (g:Nat->List AV) (n:Nat):List AV:=(List.range n).flatMap g
def upG (g:Nat->List AV) (i:Nat) (x:List AV):Nat->List AV:=fun j=>if j=i then x else g j
theorem arL_succ (g:Nat->List AV) (n:Nat):arL g (n+1)=arL g n++g n:=by
 unfold arL
 rw [List.range_succ,List.flatMap_append];simp
variable {g:Nat->List AV}{k:Nat}
theorem arL_len (h:∀ i,(g i).length=k):∀ n,(arL g n).length=n*k
 | 0=>(Nat.zero_mul k).symm
 | n+1=>by rw [arL_succ,List.length_append,arL_len h n,h,Nat.succ_mul]
variable {n:Nat}
theorem arL_congr {h:Nat->List AV}(e:∀ i<n,g i=h i):arL g n=arL h n:=by
 induction n with
 | zero=>rfl
 | succ n ih=>rw [arL_succ,arL_succ,ih fun i hi=>e i (by omega),e n (by omega)]
theorem arL_hf (h:∀ i<n,hfs (g i)=true):hfs (arL g n)=true:=hfs_iff.2 fun v hv=>by
 obtain ⟨i,hi,hv⟩:=List.mem_flatMap.1 hv
 exact hfs_iff.1 (h i (List.mem_range.1 hi)) v hv
theorem arL_cut (g:Nat->List AV) (i:Nat):∀ m,arL g (i+(m+1))=arL g i++(g i++arL (fun j=>g (i+1+j)) m)
 | 0=>by
  rw [arL_succ]
  show _=arL g i++(g i++[])
  rw [List.append_nil]
 | m+1=>by
  show arL g (i+(m+1)+1)=_
  rw [arL_succ,arL_cut g i m,arL_succ,show i+1+m=i+(m+1) by omega]
  simp only [List.append_assoc]
variable {i:Nat}{A:List AV}
theorem ar_get {T:List AV}(h:∀ i,(g i).length=k) (hi:i<n):((A++arL g n++T).drop (A.length+i*k)).take k=g i:=by
 obtain ⟨m,rfl⟩:∃ m,n=i+(m+1):=⟨n-i-1,by omega⟩
 have e:A.length+i*k=(A++arL g i).length:=by rw [List.length_append,arL_len h]
 rw [arL_cut,show A++(arL g i++(g i++arL (fun j=>g (i+1+j)) m))++T=(A++arL g i)++(g i++(arL (fun j=>g (i+1+j)) m++T)) by simp,e,List.drop_left,← h i,List.take_left]
theorem ar_put {T x:List AV}(h:∀ i,(g i).length=k) (hi:i<n) (hx:x.length=k):(A++arL g n++T).take (A.length+i*k)++x++(A++arL g n++T).drop (A.length+i*k+x.length)=A++arL (upG g i x) n++T:=by
 obtain ⟨m,rfl⟩:∃ m,n=i+(m+1):=⟨n-i-1,by omega⟩
 have e:A.length+i*k=(A++arL g i).length:=by rw [List.length_append,arL_len h]
 have e2:A.length+i*k+x.length=(A++arL g i++g i).length:=by rw [List.length_append,← e,h,hx]
 have u1:arL (upG g i x) i=arL g i:=arL_congr fun j hj=>by unfold upG;rw [if_neg (by omega)]
 have u2:arL (fun j=>upG g i x (i+1+j)) m=arL (fun j=>g (i+1+j)) m:=arL_congr fun j hj=>by show (if _ then _ else _)=_;rw [if_neg (by omega)]
 have u3:upG g i x i=x:=by unfold upG;rw [if_pos rfl]
 rw [arL_cut g,arL_cut (upG g i x),u1,u2,u3,show A++(arL g i++(g i++arL (fun j=>g (i+1+j)) m))++T=(A++arL g i++g i)++(arL (fun j=>g (i+1+j)) m++T) by simp,e2,List.drop_left]
 rw [show A++arL g i++g i++(arL (fun j=>g (i+1+j)) m++T)=(A++arL g i)++(g i++(arL (fun j=>g (i+1+j)) m++T)) by simp,e,List.take_left]
 simp
attribute [local irreducible] W
open X
def cd256:AC:=match a256 with|.mk c _=>c
def rw2 (x z:AObj):Nat->List AObj
 | 0=>[x]
 | _+1=>[x,z]
theorem tkN_len (b:List Nat) (h:n≤11):(tkN b n).length=n:=by
 unfold tkN
 rw [List.length_map,List.length_take]
 show min n 11=n;omega
theorem tkN_hf (b:List Nat) (n:Nat):hfs (tkN b n)=true:=hfs_iff.2 fun v hv=>by
 obtain ⟨x,_,rfl⟩:=List.mem_map.1 hv;rfl
theorem tkN_succ (b:List Nat) {x:Int×Int×Int}(h:lbP0[n]?=some x):tkN b (n+1)=tkN b n++[.int .i64 (num b x.2.1.toNat x.2.2.toNat:Nat)]:=by
 unfold tkN
 rw [List.take_add_one,h,List.map_append];rfl
theorem tk_all {c:Cfg}{ev me lo dn:Int}{op:Bool}(hc:c.ok) (hM:c.may) (hP:lbP c ev me lo dn):tkN (lbX (lbF c ev me lo dn op)) 11=[.int .i64 76,.int .i64 c.id,.int .i64 ev,.int .i64 c.members,.int .i64 c.chunk,.int .i64 c.rows,.int .i64 c.log,.int .i64 me,.int .i64 (if lo=-1 then 255 else lo),.int .i64 dn,.int .i64 (if op=true then 1 else 0)]:=by
 have g:∀ (i:Nat) (v a k:Int),(lbF c ev me lo dn op)[i]?=some (v,a,k)->(AV.int .i64 ((num (lbX (lbF c ev me lo dn op)) a.toNat k.toNat:Nat):Int))=.int .i64 v:=fun i v a k hx=>by
  obtain ⟨e,h0,-⟩:=lbX_take hc hM hP hx
  rw [e,Int.toNat_of_nonneg h0]
 have cc:∀ {a b:AV}{l m:List AV},a=b->l=m->a::l=b::m:=fun h h'=>by rw [h,h']
 exact cc (g 0 _ 0 1 rfl) (cc (g 1 _ 1 4 rfl) (cc (g 2 _ 5 4 rfl) (cc (g 3 _ 9 1 rfl) (cc (g 4 _ 10 1 rfl) (cc (g 5 _ 11 1 rfl) (cc (g 6 _ 12 1 rfl) (cc (g 7 _ 13 1 rfl) (cc (g 8 _ 14 1 rfl) (cc (g 9 _ 15 1 rfl) (cc (g 10 _ 16 1 rfl) rfl))))))))))
variable {e:Env}
theorem take_use (h165:Con e 165 takeO) {v:AV}{b:List Nat}(h:BAt v b) (hb:b.length=128) {a z:Int}(hz:fitsB a z=true) (Q:AV->St->Prop) (s:St) (q:Q (.tup [.int .i64 (num b a.toNat z.toNat:Nat),.int .i64 0]) s):ESc e 165 [v,.int .i64 a,.int .i64 z] s Q:=by
 refine ESc.ov h165 (takeO_good (bytes_at h) (by omega) hz) ?_
 rw [pad_of hb];exact q
theorem lbP0_fd:∀ x ∈ lbP0,fdP x:=by
 intro x hx
 have key:(∃ n a k:Int,x=(n,a,k)∧(n=76∨n=0)∧(1≤k∧k≤4)∧(0≤a∧a≤16)):=by
  unfold lbP0 at hx
  simp only [List.mem_cons,List.not_mem_nil,or_false] at hx
  rcases hx with rfl|rfl|rfl|rfl|rfl|rfl|rfl|rfl|rfl|rfl|rfl <;> exact ⟨_,_,_,rfl,by omega,by omega,by omega⟩
 obtain ⟨n,a,k,rfl,hn,hk,ha⟩:=key
 have h8:2^8≤2^(8*k.toNat):=Nat.pow_le_pow_right (by decide) (by omega)
 refine ⟨by unfold i64B;dsimp only;omega,by dsimp only;omega,by dsimp only;omega,by dsimp only;omega,?_⟩
 show n.toNat<2^(8*k.toNat)
 have:(2:Nat)^8=256:=rfl
 omega
set_option maxHeartbeats 1000000 in
theorem lrd_ok (hE:EM P e) (h43:Con e 43 (relO lbwR)) (h104:Con e 104 (relO lbf0R)) (h165:Con e 165 takeO) (h256:Inl e 256 cd256 [.tmp 4]):OvOk P 194 (relO lrdR):=by
 refine relO_of g194.b ?_
 rintro args u ⟨v,c,ev,me,lo,dn,op,rfl,hv,hc,hM,hP,rfl⟩
 have hvf:=hv.hf
 refine ⟨by show (AM.hf v && true)=true;rw [hvf];rfl,rfl,C.of_G hE g194 ?_⟩
 have hX:=lbX_ok (lbF c ev me lo dn op)
 have hall:=tk_all (op:=op) hc hM hP
 have hwr:∀ (Q:AV->St->Prop) s,Q (.tup [.fz 128 (some 128) (bys (lbX (lbF c ev me lo dn op))),.int .i64 0]) s->ESc e 43 [.agg (lbC c ev me lo dn op)] s Q:=fun Q s q=>ESc.rel h43 ⟨_,c,ev,me,lo,dn,op,rfl,hc,hM,hP,rfl⟩ (by
  rintro u ⟨c',ev',me',lo',dn',op',e1,-,-,-,hu⟩
  have e3:lbF c' ev' me' lo' dn' op'=lbF c ev me lo dn op:=by
   have e1:=(List.cons.inj e1).1
   injection e1 with e1
   unfold lbC at e1
   simp only [List.cons.injEq,AV.int.injEq,AV.bool.injEq,true_and,and_true] at e1
   obtain ⟨q1,q2,q3,q4,q5,q6,q7,q8,q9,q10⟩:=e1
   unfold lbF
   rw [q1,q2,q3,q4,q5,q6,q7,q8,q9,q10]
  rw [hu,e3];exact q)
 have hfd:∀ (Q:AV->St->Prop) s,Q (.fz 11 none (spV lbP0)) s->ESc e 104 [.agg lb0] s Q:=fun Q s q=>ESc.rel h104 ⟨_,rfl,rfl⟩ (by rintro u ⟨-,rfl⟩;exact q)
 obtain ⟨hid0,hid1⟩:=hc.id
 have hM':=hM
 unfold Cfg.may at hM'
 obtain ⟨p1,p2,p3,p4,p5⟩:=hP
 have htk:=fun {a z:Int}(hz:fitsB a z=true) (Q:AV->St->Prop) s q=>take_use h165 hv.b hX.1 hz Q s q
 have hvb:=hv.b
 generalize hb:lbX (lbF c ev me lo dn op)=b at *
 obtain ⟨cs,hs',hl',hn⟩:=(spV_ls lbP0_fd (by decide)).nth
 have hfin:∀ st,Frz st (.tup [.agg [.int .u32 c.id,.int .u32 ev,.int .i64 c.members,.int .i64 c.chunk,.int .i64 c.rows,.int .i64 c.log,.int .i64 me,.int .i64 lo,.int .i64 dn,.bool op],.int .i64 0]) (.tup [.agg (lbC c ev me lo dn op),.int .i64 0]):=fun st=>.plain _ rfl
 generalize AV.tup [.agg (lbC c ev me lo dn op),.int .i64 0]=O at hfin ⊢
 clear hb
 change VW P e 0 _ (initT [v] 0 .lf) St0 none [] _
 unfold lb0 at hfd
 have hsp:AM.hf (.fz 11 none (spV lbP0))=true:=rfl
 change Sl 3 11 cs (.fz 11 none (spV lbP0)) at hs'
 generalize AV.fz 11 none (spV lbP0)=U at *
 conv=>whnf
 repeat' (first|((first|refine hfd _ _ ?_|refine EPrim.lenZ rfl hs' ?_);conv=>whnf)|fail)
 refine W.up hE 11 (fun i=>[(0,v),(2,.ptr 0 0),(4,slO i 1),(13,U),(14,.int .i64 11),(15,.int .i64 (i:Int))]) (fun i=>rw2 (.row 108 lb0) (.row 3 (tkN b i)) i) (fun _=>True) trivial (Abs.tells (rs:=[0]) ⟨by decide,⟨t9 hvf,r9,r9,t9 hsp,r9,r9,trivial⟩,⟨r9,trivial⟩⟩) ?_
 intro i hi _
 have hfi:=tkN_hf b (i+1)
 by_cases hlt:i<11
 ·obtain ⟨⟨n,a,z⟩,_,r,hx,⟨_,_,rfl,⟨rfl,-⟩,_,_,rfl,⟨rfl,-⟩,rfl,-⟩,hd⟩:=hn i hlt
  obtain ⟨-,f2,f3,-,-⟩:=lbP0_fd _ (List.mem_of_getElem? hx)
  have hfit:fitsB a z=true:=by
   unfold fitsB
   rw [decide_eq_true (by dsimp only at f2 f3;omega)]
  have htk2:=fun Q s q=>htk hfit Q s q
  have hsucc:=tkN_succ b hx
  have hlen:=tkN_len b (n:=i) (by omega)
  generalize ((num b a.toNat z.toNat:Nat):Int)=N at *
  rw [hsucc] at hfi ⊢
  rcases i with _|i
  ·conv=>whnf
   repeat' (first|((first|refine nq23 hs' hlt hd ?_|refine ETake.eq (cs:=[.int .i64 n,.int .i64 a,.int .i64 z]) rfl ?_|refine htk2 _ _ ?_|refine nq25 (m:=1) ?_|refine nq7 ?_|refine ⟨rfl,?_⟩);conv=>whnf)|refine nq1 ?_ ?_|refine nq6 ?_ ?_|(intro _;first|omega|conv=>whnf))
   exact ⟨hlt,trivial,Abs.tells (rs:=[0,3]) ⟨by decide,⟨t9 hvf,r9,r9,t9 hsp,r9,r9,trivial⟩,⟨r9,o9 hfi,trivial⟩⟩⟩
  ·conv=>whnf
   repeat' (first|((first|refine nq23 hs' hlt hd ?_|refine ETake.eq (cs:=[.int .i64 n,.int .i64 a,.int .i64 z]) rfl ?_|refine htk2 _ _ ?_|refine EPrim.appU (m:=1) (n:=i+1) (old:=tkN b (i+1)) rfl rfl rfl rfl (by rw [hlen];omega) rfl (by decide) (by omega) ?_|refine nq7 ?_|refine ⟨rfl,?_⟩);conv=>whnf)|refine nq1 ?_ ?_|refine nq6 ?_ ?_|(intro _;first|omega|conv=>whnf))
   exact ⟨hlt,trivial,Abs.tells (rs:=[0,4]) ⟨by decide,⟨t9 hvf,r9,r9,t9 hsp,r9,r9,trivial⟩,⟨r9,o9 hfi,trivial⟩⟩⟩
 ·obtain rfl:i=11:=by omega
  rw [hall]
  have hbS:Sl 1 128 (bys b) (.fz 128 (some 128) (bys b)):=.inr (.inr ⟨_,rfl,by rw [bys_length,hX.1]⟩)
  unfold lbC at hwr
  by_cases hl:lo=-1
  ·subst hl
   rw [if_pos rfl]
   cases op <;> simp only [if_true,if_false,Bool.false_eq_true,reduceIte]
   all_goals
    conv=>whnf
    repeat' (first|(refine EPrim.eqlStr rfl rfl (fun _=>?_) (fun h=>absurd rfl h);conv=>whnf)|((first|refine EPrim.ixsPZ rfl rfl (by decide) (by decide) ?_|refine hwr _ _ ?_|refine ESc.inl h256 ?_|refine EPrim.b2sS rfl hvb.1 hvb.2 ?_|refine EPrim.b2sS rfl hbS hX.2 ?_|refine nq12 ?_|refine nq14u ?_);conv=>whnf)|refine nq1 ?_ ?_|refine nq5 ?_ ?_|refine nq6 ?_ ?_|(intro _;first|omega|conv=>whnf))
    exact hfin _
  ·rw [if_neg hl]
   cases op <;> simp only [if_true,if_false,Bool.false_eq_true,reduceIte]
   all_goals
    conv=>whnf
    repeat' (first|(refine EPrim.eqlStr rfl rfl (fun _=>?_) (fun h=>absurd rfl h);conv=>whnf)|((first|refine EPrim.ixsPZ rfl rfl (by decide) (by decide) ?_|refine hwr _ _ ?_|refine ESc.inl h256 ?_|refine EPrim.b2sS rfl hvb.1 hvb.2 ?_|refine EPrim.b2sS rfl hbS hX.2 ?_|refine nq12 ?_|refine nq14u ?_);conv=>whnf)|refine nq1 ?_ ?_|refine nq5 ?_ ?_|refine nq6 ?_ ?_|(intro _;first|omega|conv=>whnf))
    exact hfin _
end Go.AM
namespace Go.AM
attribute [local irreducible] W
open X
variable {c c':Cfg}{ev' me lo lo' dn:Int}{op op':Bool}
theorem lbF_inj {ev me' dn':Int}(h:lbX (lbF c ev me lo dn op)=lbX (lbF c' ev' me' lo' dn' op')) (hc:c.ok) (hM:c.may) (hP:lbP c ev me lo dn) (hc':c'.ok) (hM':c'.may) (hP':lbP c' ev' me' lo' dn'):c.id=c'.id∧c.members=c'.members∧c.chunk=c'.chunk∧c.rows=c'.rows∧c.log=c'.log∧ev=ev'∧me=me'∧lo=lo'∧dn=dn'∧op=op':=by
 have a:=tk_all (op:=op) hc hM hP
 have b:=tk_all (op:=op') hc' hM' hP'
 rw [h,b] at a
 simp only [List.cons.injEq,AV.int.injEq,true_and,and_true] at a
 obtain ⟨q1,q2,q3,q4,q5,q6,q7,q8,q9,q10⟩:=a
 obtain ⟨-,-,p3,-⟩:=hP
 obtain ⟨-,-,p3',-⟩:=hP'
 unfold Cfg.may at hM hM'
 refine ⟨by omega,by omega,by omega,by omega,by omega,by omega,by omega,?_,by omega,?_⟩
 ·by_cases h1:lo=-1
  ·by_cases h2:lo'=-1
   ·rw [h1,h2]
   ·rw [if_pos h1,if_neg h2] at q8;omega
  ·by_cases h2:lo'=-1
   ·rw [if_neg h1,if_pos h2] at q8;omega
   ·rw [if_neg h1,if_neg h2] at q8;omega
 ·cases op <;> cases op' <;> first|rfl|(simp at q10)
def sameC (c c':Cfg):Prop:=c.id=c'.id∧c.members=c'.members∧c.chunk=c'.chunk∧c.rows=c'.rows∧c.log=c'.log
variable {D:List Dk}{S:List Nat}{i:Nat}
theorem ar_lb {ev:Int}(h:ArP c D ev op S lo) (he:0≤ev∧ev≤2147483648) (hi:(i:Int)<c.members):lbP c ev (i:Int) (-1) 0:=by
 have hM:=h.m
 have hm:=(may_mul hM).1
 unfold Cfg.may at hM
 exact ⟨he,by omega,by omega,by omega,fun _=>rfl⟩
theorem ar_det {ev:Int}{S':List Nat}(h:ArP c D ev op S lo) (h':ArP c' D ev' op' S' lo') (hc:c.ok) (hc':c'.ok) (he:0≤ev∧ev≤2147483648) (he':0≤ev'∧ev'≤2147483648):sameC c c'∧ev=ev'∧op=op'∧S=S'∧lo=lo':=by
 have hM:=h.m
 have hM':=h'.m
 unfold Cfg.may at hM hM'
 have elo:lo=lo':=by
  have b:=h.b
  have b':=h'.b
  by_cases q:0≤lo
  ·have:=(h'.d lo.toNat).1 ((h.d lo.toNat).2 (by omega))
   omega
  ·by_cases q':0≤lo'
   ·have:=(h.d lo'.toNat).1 ((h'.d lo'.toNat).2 (by omega))
    omega
   ·omega
 subst elo
 obtain ⟨i,hi,hne⟩:∃ i:Nat,(i:Int)<3∧lo≠(i:Int):=by
  by_cases q:lo=0
  ·exact ⟨1,by omega,by omega⟩
  ·exact ⟨0,by omega,by omega⟩
 have e:=(h.l i (by omega) hne).symm.trans (h'.l i (by omega) hne)
 obtain ⟨a1,a2,a3,a4,a5,a6,-,-,-,a10⟩:=lbF_inj e hc h.m (ar_lb h he (by omega)) hc' h'.m (ar_lb h' he' (by omega))
 refine ⟨⟨a1,a2,a3,a4,a5⟩,a6,a10,?_,rfl⟩
 rw [← h.j,← h'.j,a2]
variable {e:Env}{v:AV}
theorem lrd_use (h194:Con e 194 (relO lrdR)) {ev:Int}(hv:BAt v (lbX (lbF c ev me lo dn op))) (hc:c.ok) (hM:c.may) (hP:lbP c ev me lo dn) (Q:AV->St->Prop) (s:St) (q:Q (.tup [.agg (lbC c ev me lo dn op),.int .i64 0]) s):ESc e 194 [v] s Q:=by
 have hl:=hv.ls (by rw [(lbX_ok _).1];decide)
 refine ESc.rel h194 ⟨_,v,c,ev,me,lo,dn,op,rfl,hl,hc,hM,hP,rfl⟩ ?_
 rintro u ⟨v',c',ev',me',lo',dn',op',e1,hl',hc',hM',hP',rfl⟩
 cases e1
 obtain ⟨a1,a2,a3,a4,a5,rfl,rfl,rfl,rfl,rfl⟩:=lbF_inj (hl'.inj hl) hc' hM' hP' hc hM hP
 have:lbC c' ev' me' lo' dn' op'=lbC c ev' me' lo' dn' op':=by unfold lbC;rw [a1,a2,a3,a4,a5]
 rw [this];exact q
def tldV (c:Cfg) (ev:Int) (op:Bool) (lo:Int) (i:Nat):AV:=if lo=(i:Int) then .tup [.agg lb0,.bool false] else .tup [.agg (lbC c ev (i:Int) (-1) 0 op),.bool true]
def tldR (args:List AV) (u:AV):Prop:=∃ c D v ev op S lo,∃ i:Nat,args=[v,.int .i64 (i:Int)]∧Ls dkC D v∧(∀ d ∈ D,smD d)∧c.ok∧ArP c D ev op S lo∧(0≤ev∧ev≤2147483648)∧(i:Int)<c.members∧u=tldV c ev op lo i
theorem tld_use (h119:Con e 119 (relO tldR)) {ev:Int}(hD:Ls dkC D v) (hsm:∀ d ∈ D,smD d) (hc:c.ok) (hA:ArP c D ev op S lo) (he:0≤ev∧ev≤2147483648) (hi:(i:Int)<c.members) (Q:AV->St->Prop) (s:St) (q:Q (tldV c ev op lo i) s):ESc e 119 [v,.int .i64 (i:Int)] s Q:=by
 refine ESc.rel h119 ⟨_,c,D,v,ev,op,S,lo,i,rfl,hD,hsm,hc,hA,he,hi,rfl⟩ ?_
 rintro u ⟨c',D',v',ev',op',S',lo',i',e1,hD',hsm',hc',hA',he',hi',rfl⟩
 simp only [List.cons.injEq,AV.int.injEq,true_and,and_true] at e1
 obtain ⟨rfl,e1⟩:=e1
 obtain rfl:i=i':=by omega
 have:=hD'.inj hD
 subst this
 obtain ⟨⟨a1,a2,a3,a4,a5⟩,rfl,rfl,-,rfl⟩:=ar_det hA' hA hc' hc he' he
 have:tldV c' ev' op' lo' i=tldV c ev' op' lo' i:=by unfold tldV lbC;rw [a1,a2,a3,a4,a5]
 rw [this];exact q
theorem tld_ok (hE:EM P e) (h23:Con e 23 drdF.O) (h194:Con e 194 (relO lrdR)):OvOk P 119 (relO tldR):=by
 refine relO_of g119.b ?_
 rintro args u ⟨c,D,v,ev,op,S,lo,i,rfl,hD,hsm,hc,hA,he,hi,rfl⟩
 have hvf:=hD.hf
 have hM:=hA.m
 have h20:=hA.f
 have hil:i<D.length:=by have:=h20.1;omega
 obtain ⟨cs,hs',hl',hn⟩:=hD.nth
 obtain ⟨x,cl,r,hx,hxr,hd⟩:=hn i hil
 obtain ⟨hlen,hk⟩:=h20.2 i hil x hx
 have hpos:(0:Int)<x.1.length:=by
  obtain ⟨bs,ws,dd⟩:=x
  have:=hk.1.1
  show (0:Int)<bs.length
  omega
 have hdead:x.2.2=true↔lo=(i:Int):=by
  rw [← hA.d i]
  unfold deadC
  rw [hx];exact Iff.rfl
 have huse:=fun Q st k=>drd_use (e:=e) h23 hxr (hsm x (List.mem_of_getElem? hx)) hk (a:=0) ⟨by omega,hpos⟩ Q st k
 have hsee:lo≠(i:Int)->seenC x 0=lbX (lbF c ev (i:Int) (-1) 0 op):=fun h=>by
  rw [← hA.l i hi h]
  unfold seI
  rw [hx];rfl
 refine ⟨by show (AM.hf v && _)=true;rw [hvf];rfl,by unfold tldV;split <;> rfl,C.of_G hE g119 ?_⟩
 obtain ⟨bs,ws,dd⟩:=x
 obtain ⟨bv,wv,rfl,-,-⟩:=dk_of hxr
 dsimp only at hdead huse hsee
 have hm0:(D.length:Int)=c.members+1:=h20.1
 by_cases hlo:lo=(i:Int)
 ·obtain rfl:dd=true:=hdead.2 hlo
  have hfin:∀ st,Frz st (.tup [.agg lb0,.bool false]) (tldV c ev op lo i):=fun st=>by unfold tldV;rw [if_pos hlo];exact .plain _ rfl
  generalize tldV c ev op lo i=O at hfin ⊢
  unfold lb0 at hfin
  replace huse:∀ (Q:AV->St->Prop) st,Q (.tup [.nils,.int .i64 40]) st->ESc e 23 [.agg [bv,wv,.bool true],.int .i64 0] st Q:=huse
  conv=>whnf
  repeat' (first|((first|refine nq23 hs' hil hd ?_|refine ETake.eq (cs:=[bv,wv,.bool true]) rfl ?_|refine huse _ _ ?_);conv=>whnf)|refine nq6 ?_ ?_|(intro _;first|omega|conv=>whnf))
  exact hfin _
 ·obtain rfl:dd=false:=by
   cases dd with
   | false=>rfl
   | true=>exact absurd (hdead.1 rfl) hlo
  have hfin:∀ st,Frz st (.tup [.agg (lbC c ev (i:Int) (-1) 0 op),.bool true]) (tldV c ev op lo i):=fun st=>by unfold tldV;rw [if_neg hlo];exact .plain _ rfl
  have hX:=lbX_ok (lbF c ev (i:Int) (-1) 0 op)
  have hlr:=fun Q s q=>lrd_use (e:=e) h194 (fzB_at hX) hc hM (ar_lb hA he hi) Q s q
  rw [hsee hlo] at huse
  replace huse:∀ (Q:AV->St->Prop) st,Q (.tup [fzB (lbX (lbF c ev (i:Int) (-1) 0 op)),.int .i64 0]) st->ESc e 23 [.agg [bv,wv,.bool false],.int .i64 0] st Q:=huse
  generalize tldV c ev op lo i=O at hfin ⊢
  unfold fzB at huse hlr
  unfold lbC at hfin hlr
  generalize bys (lbX _)=B at *
  conv=>whnf
  repeat' (first|((first|refine nq23 hs' hil hd ?_|refine ETake.eq (cs:=[bv,wv,.bool false]) rfl ?_|refine huse _ _ ?_|refine hlr _ _ ?_|refine EPrim.lenZ rfl hs' ?_|refine nq8 ?_|refine ⟨rfl,?_⟩);conv=>whnf)|refine nq5 ?_ ?_|refine nq6 ?_ ?_|(intro _;first|omega|conv=>whnf))
  exact hfin _
def rowA (ys:List DK) (s:St) (w:AV):Prop:=∃ r,w=.sl r 0 ys.length none∧s.get r=some (.row 74 (dkc ys))
theorem kil_dk {y:DK}(h:y.ok):∃ z:DK,z.ok∧dkO z=kilK (dkO y)∧z.c=kilA (dkO y):=by
 have hs:=smD_of h
 obtain ⟨z,hz,e⟩:=dk_DK (kilK_r hs)
 exact ⟨z,smD_ok hz (kil_smD hs),by show (z.bs,z.ws.map _,z.dead)=_;rw [hz.b,hz.w,hz.d],e.symm⟩
variable {n:Nat}
theorem EPrim.ixvnP {t:AT}{s:St}{k:AV->St->Prop}{x y:AO}{es:Nat}{l c:List AV}{q:IntKind}(hx:ev x t=.some (.agg l)) (hy:ev y t=.some (.int q (Int.ofNat i))) (h:i<n) (hl:i*es+es≤l.length) (hd:(l.drop (i*es)).take es=c) (hk:k (.agg c) s):EPrim (.ixvn n es x y) t s k:=by
 refine EPrim.mk (fun e rec=>?_) hk
 show wth x t _=_;unfold wth;rw [hx]
 show wth y t _=_;unfold wth;rw [hy]
 show gd (Nat.blt i n) (Option.rec .fail (fun cs=>.ok (.agg cs) s) (takeL es (dropL (Nat.mul i es) l)):RV)=_
 rw [show Nat.blt i n=true by simpa using h,dropL_eq]
 have:takeL es (l.drop (i*es))=some c:=by
  rw [takeL_of (by rw [List.length_drop];omega),hd]
 show (Option.rec .fail (fun cs=>.ok (.agg cs) s) (takeL es (l.drop (i*es))):RV)=_
 rw [this]
def cd121:AC:=match a121 with|.mk c _=>c
def cd122:AC:=match a122 with|.mk c _=>c
def cd195:AC:=match a195 with|.mk c _=>c
def skp (lo:Int) (j:Nat):Nat:=if 0≤lo∧lo≤(j:Int) then j+1 else j
def gA (c:Cfg) (ev:Int) (op:Bool) (lo:Int) (j:Nat):List AV:=lbC c ev (skp lo j:Nat) (-1) 0 op
theorem gA_len (c:Cfg) (ev:Int) (op:Bool) (lo:Int) (j:Nat):(gA c ev op lo j).length=10:=rfl
theorem gA_hf (c:Cfg) (ev:Int) (op:Bool) (lo:Int) (n:Nat):hfs (arL (gA c ev op lo) n)=true:=arL_hf fun i _=>rfl
def mxP (k:Nat) (cells:List AV):Prop:=∃ c ev op lo,(0≤ev∧ev≤4294967295)∧cells=arL (gA c ev op lo) (k+1)∧k≤100
theorem gA_drop {ev:Int}(h:i<n):∃ r,(arL (gA c ev op lo) n).drop (i*10)=gA c ev op lo i++r:=by
 have:=ar_get (A:=[]) (T:=[]) (gA_len c ev op lo) h
 rw [List.nil_append,List.append_nil] at this
 have e:i*10=([]:List AV).length+i*10:=by show _=0+_;omega
 rw [← e] at this
 exact ⟨((arL (gA c ev op lo) n).drop (i*10)).drop 10,by rw [← this,List.take_append_drop]⟩
variable {k:Nat}{cells:List AV}
theorem mx_C (hE:EM P e) (h121:Inl e 121 cd121 [.tmp 4]) (h122:Inl e 122 cd122 [.tmp 4]) (h195:Inl e 195 cd195 [.tmp 2]) (h:mxP k cells):C P 120 [.fz (k+1) none cells,.fn 121 [] []] St0 (fun v s'=>Frz s' v (.agg (cells.take 10))):=by
 obtain ⟨c,ev,op,lo,hev,rfl,hk⟩:=h
 refine C.of_G hE g120 ?_
 have h10:(arL (gA c ev op lo) (k+1)).take 10=gA c ev op lo 0:=by
  obtain ⟨r,hr⟩:=gA_drop (c:=c) (ev:=ev) (op:=op) (lo:=lo) (n:=k+1) (i:=0) (by omega)
  rw [Nat.zero_mul,List.drop_zero] at hr
  rw [hr];rfl
 rw [h10]
 have hfin:∀ st,Frz st (.agg [.int .u32 c.id,.int .u32 ev,.int .i64 c.members,.int .i64 c.chunk,.int .i64 c.rows,.int .i64 c.log,.int .i64 (skp lo 0:Nat),.int .i64 (-1),.int .i64 0,.bool op]) (.agg (gA c ev op lo 0)):=fun st=>.plain _ rfl
 generalize AV.agg (gA c ev op lo 0)=O at hfin ⊢
 have hs:Sl 10 (k+1) (arL (gA c ev op lo) (k+1)) (.fz (k+1) none (arL (gA c ev op lo) (k+1))):=.inr (.inr ⟨_,rfl,arL_len (gA_len c ev op lo) _⟩)
 have hd:=fun {i:Nat}(h:i<k+1)=>gA_drop (c:=c) (ev:=ev) (op:=op) (lo:=lo) h
 have hUf:AM.hf (.fz (k+1) none (arL (gA c ev op lo) (k+1)))=true:=rfl
 generalize AV.fz (k+1) none (arL (gA c ev op lo) (k+1))=U at *
 generalize arL (gA c ev op lo) (k+1)=L at *
 obtain ⟨r0,hr0⟩:=hd (i:=0) (by omega)
 change VW P e 0 _ (initT [U,.fn 121 [] []] 0 .lf) St0 none [] _
 unfold gA lbC at hr0
 conv=>whnf
 repeat' (first|((first|refine nq21 hs ?_|refine EPrim.ixsL (i:=0) rfl hs rfl (by omega) hr0 ?_|refine ETake.eq (cs:=lbC c ev (skp lo 0:Nat) (-1) 0 op) rfl ?_);conv=>whnf)|refine nq1 ?_ ?_|(intro _;first|omega|conv=>whnf))
 refine W.up hE k (fun i=>[(0,U),(1,.fn 121 [] []),(4,.ptr 0 0),(5,.ptr 1 0),(6,.int .i64 ((i:Int)+1))]) (fun i=>[.row 108 lb0,.row 108 (lbC c ev (skp lo 0:Nat) (-1) 0 op)]) (fun _=>True) trivial (Abs.tells (rs:=[0,1]) .a) ?_
 intro i hi _
 by_cases hlt:i<k
 ·obtain ⟨r1,hr1⟩:=hd (i:=i+1) (by omega)
  unfold gA lbC at hr1
  unfold lbC
  conv=>whnf
  repeat' (first|((first|refine nq21 hs ?_|refine EPrim.ixsL (i:=i+1) rfl hs rfl (by omega) hr1 ?_|refine ETake.eq (cs:=lbC c ev (skp lo (i+1):Nat) (-1) 0 op) rfl ?_|refine ECall.inl h121.O h121.G ?_|refine ESc.inl h122 ?_|refine ESc.inl h195 ?_|refine nq7 ?_|refine ⟨rfl,?_⟩);conv=>whnf)|refine nq1 ?_ ?_|refine nq3 ?_ ?_|refine nq6 ?_ ?_|(intro _;first|omega|conv=>whnf))
  exact ⟨hlt,trivial,Abs.tells (rs:=[0,1]) .a⟩
 ·obtain rfl:i=k:=by omega
  unfold lbC
  conv=>whnf
  repeat' (first|(refine nq21 hs ?_;conv=>whnf)|refine nq1 ?_ ?_|(intro _;first|omega|conv=>whnf))
  exact hfin _
def mxR (args:List AV) (s:St) (u:AV) (s':St):Prop:=s'=s∧∃ k r cells,args=[.sl r 0 (k+1) none,.fn 121 [] []]∧s.get r=some (.row 108 cells)∧mxP k cells∧u=.agg (cells.take 10)
theorem mx_ok (hE:EM P e) (h121:Inl e 121 cd121 [.tmp 4]) (h122:Inl e 122 cd122 [.tmp 4]) (h195:Inl e 195 cd195 [.tmp 2]):OvOk P 120 (relS mxR):=by
 refine relS_ok g120.b ?_
 rintro args s u s' ⟨rfl,k,r,cells,rfl,hg,hm,rfl⟩
 have h:=mx_C hE h121 h122 h195 hm
 have hcf:hfs cells=true:=by obtain ⟨c,ev,op,lo,-,rfl,-⟩:=hm;exact gA_hf c ev op lo _
 have hu:sc (.agg (cells.take 10))=true:=by
  obtain ⟨c,ev,op,lo,-,rfl,-⟩:=hm
  obtain ⟨r,hr⟩:=gA_drop (c:=c) (ev:=ev) (op:=op) (lo:=lo) (n:=k+1) (i:=0) (by omega)
  rw [Nat.zero_mul,List.drop_zero] at hr
  rw [hr];rfl
 refine C.view (args2:=[.fz (k+1) none cells,.fn 121 [] []]) (.cons (.sl r 0 _ _ _ 108 _ _ _ hg (fun i x hx=>by rw [Nat.zero_add];exact hx) (frz_hfs hcf) (.inl rfl)) (.cons (.plain _ rfl) .nil)) hu ?_
 exact C.freeze rfl h
theorem mx_use (h120:Con e 120 (relS mxR)) {r:Nat}(hm:mxP k cells) (Q:AV->St->Prop) (s:St) (hg:s.get r=some (.row 108 cells)) (q:Q (.agg (cells.take 10)) s):ESc e 120 [.sl r 0 (k+1) none,.fn 121 [] []] s Q:=by
 refine ESc.relS h120 (u:=.agg (cells.take 10)) (s':=s) ⟨rfl,k,r,cells,rfl,hg,hm,rfl⟩ ?_
 rintro u s' ⟨rfl,k',r',cells',e1,hg',-,rfl⟩
 simp only [List.cons.injEq,AV.sl.injEq,true_and,and_true] at e1
 obtain ⟨rfl,-⟩:=e1
 rw [hg] at hg'
 cases hg'
 exact q
def rolC (g h:Nat->List AV) (T:List AV):List AV:=arL g 16++(arL h 16++T)
section
variable {g h:Nat->List AV}{T:List AV}{s:St}{r:Nat}
theorem rol_len (hg:∀ i,(g i).length=10) (hh:∀ i,(h i).length=1) (T:List AV):(rolC g h T).length=176+T.length:=by
 unfold rolC
 rw [List.length_append,List.length_append,arL_len hg,arL_len hh];omega
variable {i:Nat}{x:List AV}
theorem rol_stL (hr:s.get r=some (.row 116 (rolC g h T))) (hg:∀ i,(g i).length=10) (hh:∀ i,(h i).length=1) (hi:i<16) (hx:x.length=10):storeAt r (0+i*10) x s=some (s.put r (.row 116 (rolC (upG g i x) h T))):=by
 have hl:=rol_len hg hh T
 rw [store_of hr (by omega)]
 have:=ar_put (A:=[]) (T:=arL h 16++T) hg hi hx
 rw [List.nil_append] at this
 rw [show ([]:List AV).length=0 from rfl] at this
 unfold rolC
 rw [this];rfl
theorem rol_stR (hr:s.get r=some (.row 116 (rolC g h T))) (hg:∀ i,(g i).length=10) (hh:∀ i,(h i).length=1) (hi:i<16) (hx:x.length=1):storeAt r (160+i*1) x s=some (s.put r (.row 116 (rolC g (upG h i x) T))):=by
 have hl:=rol_len hg hh T
 rw [store_of hr (by omega)]
 have this:=ar_put (A:=arL g 16) (T:=T) hh hi hx
 rw [arL_len hg] at this
 unfold rolC
 rw [← List.append_assoc (arL g 16),← List.append_assoc (arL g 16)]
 exact congrArg (fun l=>some (s.put r (.row 116 l))) this
theorem rol_gtR (hg:∀ i,(g i).length=10) (hh:∀ i,(h i).length=1) {i:Nat}(hi:i<16) {b:AV}(hb:h i=[b]) (T:List AV):getL (rolC g h T) (160+i*1)=some b:=by
 have:=ar_get (A:=arL g 16) (T:=T) hh hi
 rw [arL_len hg,List.append_assoc,hb] at this
 rw [getL_eq]
 unfold rolC
 have e:(arL g 16++(arL h 16++T))[160+i*1]?=(((arL g 16++(arL h 16++T)).drop (160+i*1)).take 1)[0]?:=by
  rw [List.getElem?_take,if_pos (by decide),List.getElem?_drop];rfl
 rw [e]
 exact congrArg (fun l=>l[0]?) this
theorem rol_ldA (hr:s.get r=some (.row 116 (rolC g h T))) (hg:∀ i,(g i).length=10) (hh:∀ i,(h i).length=1):load r 0 160 s=some (arL g 16):=by
 have hl:=rol_len hg hh T
 rw [load_of hr (by omega),List.drop_zero]
 unfold rolC
 rw [show 160=(arL g 16).length from (arL_len hg 16).symm,List.take_left]
theorem rol_stT (hr:s.get r=some (.row 116 (rolC g h T))) (hg:∀ i,(g i).length=10) (hh:∀ i,(h i).length=1) (hx:x.length=T.length):storeAt r 176 x s=some (s.put r (.row 116 (rolC g h x))):=by
 have hl:=rol_len hg hh T
 rw [store_of hr (by omega)]
 have e:rolC g h T=(arL g 16++arL h 16)++T:=by unfold rolC;simp
 have e1:(arL g 16++arL h 16).length=176:=by rw [List.length_append,arL_len hg,arL_len hh]
 rw [e,← e1,List.take_left,List.drop_eq_nil_of_le (by rw [List.length_append,hx];omega)]
 unfold rolC;simp
end
def gL (c:Cfg) (ev:Int) (op:Bool) (lo:Int) (n:Nat) (j:Nat):List AV:=if j<n∧lo≠(j:Int) then lbC c ev (j:Int) (-1) 0 op else lb0
def gR (lo:Int) (n:Nat) (j:Nat):List AV:=[.bool (decide (j<n∧lo≠(j:Int)))]
theorem gL_len (c:Cfg) (ev:Int) (op:Bool) (lo:Int) (n j:Nat):(gL c ev op lo n j).length=10:=by unfold gL;split <;> rfl
theorem gR_len (lo:Int) (n j:Nat):(gR lo n j).length=1:=rfl
theorem gL_hf (c:Cfg) (ev:Int) (op:Bool) (lo:Int) (n j:Nat):hfs (gL c ev op lo n j)=true:=by unfold gL;split <;> rfl
variable {c:Cfg}{op:Bool}{lo:Int}{n:Nat}
theorem gL_up {ev:Int}(h:lo≠(n:Int)):upG (gL c ev op lo n) n (lbC c ev (n:Int) (-1) 0 op)=gL c ev op lo (n+1):=by
 funext j
 unfold upG gL
 by_cases q:j=n
 ·subst q;rw [if_pos rfl,if_pos ⟨by omega,h⟩]
 ·rw [if_neg q]
  by_cases q1:j<n∧lo≠(j:Int)
  ·rw [if_pos q1,if_pos ⟨by omega,q1.2⟩]
  ·rw [if_neg q1,if_neg (by rintro ⟨a,b⟩;exact q1 ⟨by omega,b⟩)]
theorem gL_up0 {ev:Int}(h:lo=(n:Int)):upG (gL c ev op lo n) n lb0=gL c ev op lo (n+1):=by
 funext j
 unfold upG gL
 by_cases q:j=n
 ·subst q;rw [if_pos rfl,if_neg (by rintro ⟨a,b⟩;exact b h)]
 ·rw [if_neg q]
  by_cases q1:j<n∧lo≠(j:Int)
  ·rw [if_pos q1,if_pos ⟨by omega,q1.2⟩]
  ·rw [if_neg q1,if_neg (by rintro ⟨a,b⟩;exact q1 ⟨by omega,b⟩)]
theorem gR_up {b:Bool}(h:b=decide (lo≠(n:Int))):upG (gR lo n) n [.bool b]=gR lo (n+1):=by
 funext j
 unfold upG gR
 by_cases q:j=n
 ·subst q
  rw [if_pos rfl,h]
  by_cases q2:lo=(j:Int)
  ·simp [q2]
  ·simp [q2]
 ·rw [if_neg q,decide_eq_decide.2 (show (j<n∧lo≠(j:Int))↔(j<n+1∧lo≠(j:Int)) from ⟨fun h=>⟨by omega,h.2⟩,fun h=>⟨by omega,h.2⟩⟩)]
variable {i:Nat}
theorem upG_self {g:Nat->List AV}{x:List AV}(h:x=g i):upG g i x=g:=by
 funext j
 unfold upG
 by_cases q:j=i
 ·subst q;rw [if_pos rfl,h]
 ·rw [if_neg q]
def cntL (lo:Int) (n:Nat):Nat:=if 0≤lo∧lo<(n:Int) then n-1 else n
def rolA (c:Cfg) (ev:Int) (op:Bool) (lo:Int):List AV:=rolC (gL c ev op lo c.members.toNat) (gR lo c.members.toNat) (gA c ev op lo 0)
theorem rolA_hf (c:Cfg) (ev:Int) (op:Bool) (lo:Int):hfs (rolA c ev op lo)=true:=hfs_app (arL_hf fun i _=>gL_hf ..) (hfs_app (arL_hf fun i _=>rfl) rfl)
def rolR (args:List AV) (u:AV):Prop:=∃ c D v ev op S lo,args=[v]∧Ls dkC D v∧(∀ d ∈ D,smD d)∧c.ok∧ArP c D ev op S lo∧(0≤ev∧ev≤2147483648)∧u=.tup [.agg (rolA c ev op lo),.bool true]
variable {e:Env}
theorem rol_use (h48:Con e 48 (relO rolR)) {D:List Dk}{v:AV}{ev:Int}{S:List Nat}(hD:Ls dkC D v) (hsm:∀ d ∈ D,smD d) (hc:c.ok) (hA:ArP c D ev op S lo) (he:0≤ev∧ev≤2147483648) (Q:AV->St->Prop) (s:St) (q:Q (.tup [.agg (rolA c ev op lo),.bool true]) s):ESc e 48 [v] s Q:=by
 refine ESc.rel h48 ⟨_,c,D,v,ev,op,S,lo,rfl,hD,hsm,hc,hA,he,rfl⟩ ?_
 rintro u ⟨c',D',v',ev',op',S',lo',e1,hD',hsm',hc',hA',he',rfl⟩
 cases e1
 have:=hD'.inj hD
 subst this
 obtain ⟨⟨a1,a2,a3,a4,a5⟩,rfl,rfl,-,rfl⟩:=ar_det hA' hA hc' hc he' he
 have:rolA c' ev' op' lo'=rolA c ev' op' lo':=by unfold rolA gL gR gA lbC;rw [a1,a2,a3,a4,a5]
 rw [this];exact q
theorem gL0 (c:Cfg) (ev:Int) (op:Bool) (lo:Int):gL c ev op lo 0=fun _=>lb0:=by
 funext j
 unfold gL
 rw [if_neg (by omega)]
theorem gR0 (lo:Int):gR lo 0=fun _=>[.bool false]:=by
 funext j
 unfold gR
 rw [decide_eq_false (by omega)]
theorem cnt_dead (h:lo=(i:Int)):cntL lo (i+1)=cntL lo i:=by
 unfold cntL
 rw [if_pos (by omega),if_neg (by omega)];rfl
theorem cnt_live (h:lo≠(i:Int)):cntL lo (i+1)=cntL lo i+1∧skp lo (cntL lo i)=i:=by
 unfold cntL skp
 by_cases q:0≤lo∧lo<(i:Int)
 ·rw [if_pos q,if_pos (by omega),if_pos (by omega)];omega
 ·rw [if_neg q,if_neg (by omega),if_neg (by omega)];exact ⟨rfl,rfl⟩
set_option maxHeartbeats 2000000 in
theorem rol_ok (hE:EM P e) (h119:Con e 119 (relO tldR)) (h120:Con e 120 (relS mxR)):OvOk P 48 (relO rolR):=by
 refine relO_of g48.b ?_
 rintro args u ⟨c,D,v,ev,op,S,lo,rfl,hD,hsm,hc,hA,he,rfl⟩
 have hvf:=hD.hf
 have hM:=hA.m
 have hM':=hM
 unfold Cfg.may at hM'
 have hl0:=hA.f.1
 have hb:=hA.b
 have hm0:∃ M:Nat,c.members=M∧c.members.toNat=M∧M≤16∧3≤M:=⟨c.members.toNat,by omega,rfl,by omega,by omega⟩
 obtain ⟨M,m1,m2,m3,m4⟩:=hm0
 have hDl:D.length=M+1:=by omega
 refine ⟨by show (AM.hf v && true)=true;rw [hvf];rfl,by show (hfs (rolA c ev op lo) && (true && true))=true;rw [rolA_hf];rfl,C.of_G hE g48 ?_⟩
 have htl:=fun {i:Nat} hi Q s q=>tld_use h119 hD hsm hc hA he (i:=i) hi Q s q
 have hfin:∀ st,Frz st (.tup [.agg (rolC (gL c ev op lo M) (gR lo M) (gA c ev op lo 0)),.bool true]) (.tup [.agg (rolA c ev op lo),.bool true]):=fun st=>by
  have e1:rolA c ev op lo=rolC (gL c ev op lo M) (gR lo M) (gA c ev op lo 0):=by unfold rolA;rw [m2]
  rw [← e1]
  exact .plain _ (by show (hfs (rolA c ev op lo) && (true && true))=true;rw [rolA_hf];rfl)
 generalize AV.tup [.agg (rolA c ev op lo),.bool true]=O at hfin ⊢
 obtain ⟨cs,hs',hl',-⟩:=hD.nth
 rw [hDl] at hs'
 have gl:=fun n=>gL_len c ev op lo n
 have gr:=fun n=>gR_len lo n
 have hrf:∀ n T,hfs T=true->hfs (rolC (gL c ev op lo n) (gR lo n) T)=true:=fun n T hT=>hfs_app (arL_hf fun i _=>gL_hf ..) (hfs_app (arL_hf fun i _=>rfl) hT)
 have hl0f:hfs lb0=true:=rfl
 have hc0:0=cntL lo 0:=by
  unfold cntL
  rw [if_neg (by omega)]
 have haf:=fun n=>gA_hf c ev op lo n
 change VW P e 0 _ (initT [v] 0 .lf) St0 none [] _
 conv=>whnf
 repeat' (first|((first|refine EPrim.lenZ rfl hs' ?_|refine nq8 ?_);conv=>whnf)|fail)
 refine W.upE hE M (fun i (k:Nat)=>[(0,v),(2,.ptr 0 0),(4,slO k 1),(13,.int .i64 (((M+1:Nat):Int)-1)),(14,.int .i64 (i:Int))]) (fun i k=>rw2 (.row 116 (rolC (gL c ev op lo i) (gR lo i) lb0)) (.row 108 (arL (gA c ev op lo) k)) k) (fun i k=>k=cntL lo i) 0 hc0 ?_ ?_
 ·try dsimp only
  rw [gL0,gR0]
  exact Abs.tells (rs:=[0]) .a
 intro i k hi hk
 have hkb:k≤i:=by rw [hk];unfold cntL;split <;> omega
 by_cases hlt:i<M
 ·have ht:=htl (i:=i) (by omega)
  have hr1:=hrf (i+1) lb0 hl0f
  have hak:=haf k
  have hak1:=haf (k+1)
  by_cases hlo:lo=(i:Int)
  ·have e1:=gL_up0 (c:=c) (ev:=ev) (op:=op) hlo
   have e2:=gR_up (lo:=lo) (n:=i) (b:=false) (by simp [hlo])
   have hk2:k=cntL lo (i+1):=by rw [cnt_dead hlo];exact hk
   have hstL:∀ st r,st.get r=some (.row 116 (rolC (gL c ev op lo i) (gR lo i) lb0))->storeAt r (0+i*10) lb0 st=some (st.put r (.row 116 (rolC (gL c ev op lo (i+1)) (gR lo i) lb0))):=fun st r h=>by rw [← e1];exact rol_stL h (gl _) (gr _) (by omega) rfl
   have hstR:∀ st r,st.get r=some (.row 116 (rolC (gL c ev op lo (i+1)) (gR lo i) lb0))->storeAt r (160+i*1) [.bool false] st=some (st.put r (.row 116 (rolC (gL c ev op lo (i+1)) (gR lo (i+1)) lb0))):=fun st r h=>by rw [← e2];exact rol_stR h (gl _) (gr _) (by omega) rfl
   replace ht:∀ (Q:AV->St->Prop) s,Q (.tup [.agg lb0,.bool false]) s->ESc e 119 [v,.int .i64 (i:Int)] s Q:=fun Q s q=>ht Q s (by unfold tldV;rw [if_pos hlo];exact q)
   rcases k with _|k
   ·conv=>whnf
    repeat' (first|((first|refine ht _ _ ?_|refine EPrim.ixaP (i:=i) rfl rfl (by omega) ?_);conv=>whnf)|refine nq1 ?_ ?_|(intro _;first|omega|conv=>whnf))
    refine stuckO _ (by show storeAt 0 (0+i*10) lb0 _=_;exact hstL _ 0 rfl) ?_;conv=>whnf
    repeat' (first|(refine EPrim.ixaP (i:=i) rfl rfl (by omega) ?_;conv=>whnf)|fail)
    refine stuckO _ (by show storeAt 0 (160+i*1) [.bool false] _=_;exact hstR _ 0 rfl) ?_;conv=>whnf
    repeat' (first|((first|refine nq7 ?_|refine ⟨rfl,?_⟩);conv=>whnf)|fail)
    exact ⟨hlt,0,hk2,Abs.tells (rs:=[0]) .a⟩
   ·conv=>whnf
    repeat' (first|((first|refine ht _ _ ?_|refine EPrim.ixaP (i:=i) rfl rfl (by omega) ?_);conv=>whnf)|refine nq1 ?_ ?_|(intro _;first|omega|conv=>whnf))
    refine stuckO _ (by show storeAt 0 (0+i*10) lb0 _=_;exact hstL _ 0 rfl) ?_;conv=>whnf
    repeat' (first|(refine EPrim.ixaP (i:=i) rfl rfl (by omega) ?_;conv=>whnf)|fail)
    refine stuckO _ (by show storeAt 0 (160+i*1) [.bool false] _=_;exact hstR _ 0 rfl) ?_;conv=>whnf
    repeat' (first|((first|refine nq7 ?_|refine ⟨rfl,?_⟩);conv=>whnf)|fail)
    exact ⟨hlt,k+1,hk2,Abs.tells (rs:=[0,1]) .a⟩
  ·have e1:=gL_up (c:=c) (ev:=ev) (op:=op) hlo
   have e2:=gR_up (lo:=lo) (n:=i) (b:=true) (by simp [hlo])
   obtain ⟨k1,k2⟩:=cnt_live hlo
   have hk2:k+1=cntL lo (i+1):=by rw [k1,hk]
   rw [← hk] at k2
   have e3:arL (gA c ev op lo) (k+1)=arL (gA c ev op lo) k++lbC c ev (i:Int) (-1) 0 op:=by
    have:gA c ev op lo k=lbC c ev (i:Int) (-1) 0 op:=by unfold gA;rw [k2]
    rw [arL_succ,this]
   have hstL:∀ st r,st.get r=some (.row 116 (rolC (gL c ev op lo i) (gR lo i) lb0))->storeAt r (0+i*10) (lbC c ev (i:Int) (-1) 0 op) st=some (st.put r (.row 116 (rolC (gL c ev op lo (i+1)) (gR lo i) lb0))):=fun st r h=>by rw [← e1];exact rol_stL h (gl _) (gr _) (by omega) rfl
   have hstR:∀ st r,st.get r=some (.row 116 (rolC (gL c ev op lo (i+1)) (gR lo i) lb0))->storeAt r (160+i*1) [.bool true] st=some (st.put r (.row 116 (rolC (gL c ev op lo (i+1)) (gR lo (i+1)) lb0))):=fun st r h=>by rw [← e2];exact rol_stR h (gl _) (gr _) (by omega) rfl
   replace ht:∀ (Q:AV->St->Prop) s,Q (.tup [.agg (lbC c ev (i:Int) (-1) 0 op),.bool true]) s->ESc e 119 [v,.int .i64 (i:Int)] s Q:=fun Q s q=>ht Q s (by unfold tldV;rw [if_neg hlo];exact q)
   unfold lbC at ht
   have hlen:=arL_len (gA_len c ev op lo) k
   rcases k with _|k
   ·conv=>whnf
    repeat' (first|((first|refine ht _ _ ?_|refine EPrim.ixaP (i:=i) rfl rfl (by omega) ?_);conv=>whnf)|refine nq1 ?_ ?_|(intro _;first|omega|conv=>whnf))
    refine stuckO _ (by show storeAt 0 (0+i*10) (lbC c ev (i:Int) (-1) 0 op) _=_;exact hstL _ 0 rfl) ?_;conv=>whnf
    repeat' (first|(refine EPrim.ixaP (i:=i) rfl rfl (by omega) ?_;conv=>whnf)|fail)
    refine stuckO _ (by show storeAt 0 (160+i*1) [.bool true] _=_;exact hstR _ 0 rfl) ?_;conv=>whnf
    repeat' (first|((first|refine nq25 (m:=1) ?_|refine nq7 ?_|refine ⟨rfl,?_⟩);conv=>whnf)|fail)
    exact ⟨hlt,1,hk2,Abs.tells (rs:=[0,3]) ⟨by decide,⟨t9 hvf,r9,r9,r9,r9,trivial⟩,⟨o9 hr1,o9 hak1 (by rw [e3];rfl),trivial⟩⟩⟩
   ·conv=>whnf
    repeat' (first|((first|refine ht _ _ ?_|refine EPrim.ixaP (i:=i) rfl rfl (by omega) ?_);conv=>whnf)|refine nq1 ?_ ?_|(intro _;first|omega|conv=>whnf))
    refine stuckO _ (by show storeAt 0 (0+i*10) (lbC c ev (i:Int) (-1) 0 op) _=_;exact hstL _ 0 rfl) ?_;conv=>whnf
    repeat' (first|(refine EPrim.ixaP (i:=i) rfl rfl (by omega) ?_;conv=>whnf)|fail)
    refine stuckO _ (by show storeAt 0 (160+i*1) [.bool true] _=_;exact hstR _ 0 rfl) ?_;conv=>whnf
    repeat' (first|((first|refine EPrim.appU (m:=1) (n:=k+1) (old:=arL (gA c ev op lo) (k+1)) rfl rfl rfl rfl hlen rfl (by decide) (by omega) ?_|refine nq7 ?_|refine ⟨rfl,?_⟩);conv=>whnf)|fail)
    exact ⟨hlt,k+2,hk2,Abs.tells (rs:=[0,4]) ⟨by decide,⟨t9 hvf,r9,r9,r9,r9,trivial⟩,⟨o9 hr1,o9 hak1 (by rw [e3];rfl),trivial⟩⟩⟩
 ·have hiM:i=M:=by omega
  subst hiM
  obtain ⟨K,rfl⟩:∃ K,k=K+1:=⟨k-1,by
   have:2≤cntL lo i:=by unfold cntL;split <;> omega
   omega⟩
  have hmp:mxP K (arL (gA c ev op lo) (K+1)):=⟨c,ev,op,lo,by omega,rfl,by omega⟩
  have h10:(arL (gA c ev op lo) (K+1)).take 10=lbC c ev (skp lo 0:Nat) (-1) 0 op:=by
   obtain ⟨r,hr⟩:=gA_drop (c:=c) (ev:=ev) (op:=op) (lo:=lo) (n:=K+1) (i:=0) (by omega)
   rw [Nat.zero_mul,List.drop_zero] at hr
   rw [hr];rfl
  have hmx:∀ (Q:AV->St->Prop) st,st.get 1=some (.row 108 (arL (gA c ev op lo) (K+1)))->Q (.agg (lbC c ev (skp lo 0:Nat) (-1) 0 op)) st->ESc e 120 [.sl 1 0 (K+1) none,.fn 121 [] []] st Q:=fun Q st hg q=>mx_use h120 hmp Q st hg (by rw [h10];exact q)
  unfold lbC at hmx
  conv=>whnf
  repeat' (first|((first|refine hmx _ _ rfl ?_|refine nq18 ?_);conv=>whnf)|refine nq1 ?_ ?_|refine nq5 ?_ ?_|(intro _;first|omega|conv=>whnf))
  refine stuckO (arL (gL c ev op lo i) 16) (by show load 0 0 160 _=_;exact rol_ldA rfl (gl _) (gr _)) ?_;conv=>whnf
  have hgf:AM.hf (.agg (arL (gL c ev op lo i) 16))=true:=arL_hf fun j _=>gL_hf ..
  have hr1:=hrf i lb0 hl0f
  have gl16:=arL_len (gl i) 16
  refine W.up hE 16 (fun j=>[(2,.ptr 0 0),(8,.ptr 1 0),(44,.agg (arL (gL c ev op lo i) 16)),(45,.int .i64 (j:Int))]) (fun _=>[.row 116 (rolC (gL c ev op lo i) (gR lo i) lb0),.row 108 (lbC c ev (skp lo 0:Nat) (-1) 0 op)]) (fun _=>True) trivial (Abs.tells (rs:=[0,2]) ⟨by decide,⟨r9,r9,t9 hgf,r9,trivial⟩,⟨o9 hr1,r9,trivial⟩⟩) ?_
  have hsame:∀ {j:Nat},j<16->∀ st r,st.get r=some (.row 116 (rolC (gL c ev op lo i) (gR lo i) lb0))->storeAt r (160+j*1) (gR lo i j) st=some (st.put r (.row 116 (rolC (gL c ev op lo i) (gR lo i) lb0))):=fun {j} hj st r h=>by
   have:=rol_stR h (gl i) (gr i) hj (gr i j)
   rw [upG_self rfl] at this
   exact this
  intro j hj _
  by_cases hlt:j<16
  ·have hgi:=ar_get (A:=[]) (T:=[]) (gl i) hlt
   rw [List.nil_append,List.append_nil,show ([]:List AV).length+j*10=j*10 by show 0+_=_;omega] at hgi
   by_cases ha:j<i∧lo≠(j:Int)
   ·have eL:gL c ev op lo i j=lbC c ev (j:Int) (-1) 0 op:=by unfold gL;rw [if_pos ha]
    have eR:gR lo i j=[.bool true]:=by unfold gR;rw [decide_eq_true ha]
    have hsm2:∀ st r,st.get r=some (.row 116 (rolC (gL c ev op lo i) (gR lo i) lb0))->storeAt r (160+j*1) [.bool true] st=some (st.put r (.row 116 (rolC (gL c ev op lo i) (gR lo i) lb0))):=fun st r h=>by rw [← eR];exact hsame hlt st r h
    rw [eL] at hgi
    unfold lbC at hgi ⊢
    conv=>whnf
    repeat' (first|((first|refine EPrim.ixvnP (i:=j) rfl rfl hlt (by omega) hgi ?_|refine EPrim.ixaP (i:=j) rfl rfl (by omega) ?_);conv=>whnf)|refine nq1 ?_ ?_|(intro _;first|omega|conv=>whnf))
    refine stuckO (.bool true) (by show getL (rolC (gL c ev op lo i) (gR lo i) lb0) (160+j*1)=_;exact rol_gtR (gl i) (gr i) hlt eR lb0) ?_;conv=>whnf
    repeat' (first|(refine EPrim.ixaP (i:=j) rfl rfl (by omega) ?_;conv=>whnf)|refine nq5 ?_ ?_|(intro _;first|omega|conv=>whnf))
    refine stuckO _ (by show storeAt 0 (160+j*1) [.bool true] _=_;exact hsm2 _ 0 rfl) ?_;conv=>whnf
    repeat' (first|((first|refine nq7 ?_|refine ⟨rfl,?_⟩);conv=>whnf)|fail)
    exact ⟨hlt,trivial,Abs.tells (rs:=[0,1]) ⟨by decide,⟨r9,r9,t9 hgf,r9,trivial⟩,⟨o9 hr1,r9,trivial⟩⟩⟩
   ·have eL:gL c ev op lo i j=lb0:=by unfold gL;rw [if_neg ha]
    have eR:gR lo i j=[.bool false]:=by unfold gR;rw [decide_eq_false ha]
    have hsm2:∀ st r,st.get r=some (.row 116 (rolC (gL c ev op lo i) (gR lo i) lb0))->storeAt r (160+j*1) [.bool false] st=some (st.put r (.row 116 (rolC (gL c ev op lo i) (gR lo i) lb0))):=fun st r h=>by rw [← eR];exact hsame hlt st r h
    rw [eL] at hgi
    unfold lb0 at hgi
    unfold lbC
    conv=>whnf
    repeat' (first|((first|refine EPrim.ixvnP (i:=j) rfl rfl hlt (by omega) hgi ?_|refine EPrim.ixaP (i:=j) rfl rfl (by omega) ?_);conv=>whnf)|refine nq1 ?_ ?_|(intro _;first|omega|conv=>whnf))
    refine stuckO (.bool false) (by show getL (rolC (gL c ev op lo i) (gR lo i) lb0) (160+j*1)=_;exact rol_gtR (gl i) (gr i) hlt eR lb0) ?_;conv=>whnf
    repeat' (first|(refine EPrim.ixaP (i:=j) rfl rfl (by omega) ?_;conv=>whnf)|fail)
    refine stuckO _ (by show storeAt 0 (160+j*1) [.bool false] _=_;exact hsm2 _ 0 rfl) ?_;conv=>whnf
    repeat' (first|((first|refine nq7 ?_|refine ⟨rfl,?_⟩);conv=>whnf)|fail)
    exact ⟨hlt,trivial,Abs.tells (rs:=[0,1]) ⟨by decide,⟨r9,r9,t9 hgf,r9,trivial⟩,⟨o9 hr1,r9,trivial⟩⟩⟩
  ·have hj16:j=16:=by omega
   subst hj16
   unfold lbC
   conv=>whnf
   repeat' (first|refine nq1 ?_ ?_|(intro _;first|omega|conv=>whnf))
   refine stuckO _ (by show storeAt 0 176 (gA c ev op lo 0) _=_;exact rol_stT (T:=lb0) rfl (gl i) (gr i) rfl) ?_;conv=>whnf
   have h186:(rolC (gL c ev op lo i) (gR lo i) (gA c ev op lo 0)).length=186:=rol_len (gl i) (gr i) _
   generalize rolC (gL c ev op lo i) (gR lo i) (gA c ev op lo 0)=R at *
   refine stuckO R (by show load 0 0 186 _=_;exact load_full rfl h186) ?_;conv=>whnf
   refine stuckB (by show Nat.beq (lenL R) 186=true;rw [lenL_eq,h186];rfl) ?_;conv=>whnf
   refine stuckO _ (by show storeAt 0 0 R _=_;exact store_full (e:=116) (old:=R) rfl rfl) ?_;conv=>whnf
   refine stuckO _ (res_cells rfl (load_full rfl h186) rfl) ?_;conv=>whnf
   exact hfin _
end Go.AM
