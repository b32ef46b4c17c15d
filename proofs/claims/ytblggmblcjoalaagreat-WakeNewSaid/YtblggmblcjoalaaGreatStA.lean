/- Contracts of functions over the abstract machine. No conditions. -/
import Derived.Test.YtblggmblcjoalaaGreatXA1
import Derived.Test.YtblggmblcjoalaaGreatXA2
import Derived.Test.YtblggmblcjoalaaGreatXA3
import Derived.Test.YtblggmblcjoalaaGreatXA4
import Derived.Test.YtblggmblcjoalaaGreatXA5
import Derived.Test.YtblggmblcjoalaaGreatXA6
import Derived.Test.YtblggmblcjoalaaGreatAM5
set_option linter.unusedVariables false
set_option linter.unusedSimpArgs false
set_option maxRecDepth 100000
namespace Go.AM
attribute [local irreducible] W
open X
theorem stuckB {b:Bool}{y z:Prop}(h:b=true) (hy:y):(Bool.rec (motive:=fun _=>Prop) z y b):=by rw [h];exact hy
section
variable {t:AT}{s:St}{k:AV->St->Prop}{x y:AO}
theorem EPrim.copyS {es r o m n:Nat}{c:Option Nat}{l:List AV}{v:AV}{s1:St}(hx:ev x t=.some (.sl r o m c)) (hy:ev y t=.some v) (hv:Sl es n l v) (hn:n≤m) (hst:storeAt r o l s=some s1) (hk:∀ s',(s'=s∧l=[])∨s'=s1->k (.int .i64 (Int.ofNat n)) s'):EPrim (.copy es x y) t s k:=by
 rcases hv with ⟨rfl,rfl,h0⟩|⟨rfl,rfl,h0⟩|⟨c',rfl,hl⟩
 ·refine EPrim.mk (v:=.int .i64 (Int.ofNat 0)) (s':=s) (fun e rec=>?_) (hk s (.inl ⟨rfl,h0⟩))
  show wth x t _=_;unfold wth;rw [hx]
  show wth y t _=_;unfold wth;rw [hy]
  rfl
 ·refine EPrim.mk (v:=.int .i64 (Int.ofNat 0)) (s':=s) (fun e rec=>?_) (hk s (.inl ⟨rfl,h0⟩))
  show wth x t _=_;unfold wth;rw [hx]
  show wth y t _=_;unfold wth;rw [hy]
  rfl
 ·refine EPrim.mk (v:=.int .i64 (Int.ofNat n)) (s':=s1) (fun e rec=>?_) (hk s1 (.inr rfl))
  show wth x t _=_;unfold wth;rw [hx]
  show wth y t _=_;unfold wth;rw [hy]
  show (Option.rec .fail (fun cs=>retS (intN (Nat.min n m)) (storeAt r o cs s)) (takeL (Nat.mul (Nat.min n m) es) l):RV)=_
  have hmin:Nat.min n m=n:=by show min n m=n;omega
  rw [hmin]
  have ht:takeL (Nat.mul n es) l=some l:=by
   have:=takeL_of (l:=l) (n:=n*es) (by omega)
   rw [List.take_of_length_le (by omega)] at this
   exact this
  rw [ht]
  show retS _ (storeAt r o l s)=_
  rw [hst];rfl
theorem EPrim.neqN {q:IntKind}{a b:Nat}(hx:ev x t=.some (.int q (Int.ofNat a))) (hy:ev y t=.some (.int q (Int.ofNat b))) (h1:a≠b->k (.bool true) s) (h2:a=b->k (.bool false) s):EPrim (.bin .neq x y) t s k:=
 EPrim.neq2 hx hy (fun h=>h1 (fun e=>h (by rw [e]))) (fun h=>h2 (Int.ofNat.inj h))
end
def code130:AC:=match a186 with|.mk c _=>c
def pad (bs:List Nat):List Nat:=if bs=[] then List.replicate 128 0 else bs
def z128:List AV:=bys (List.replicate 128 0)
variable {s:St}{r e n:Nat}{cs:List AV}
theorem load_full (h:s.get r=some (.row e cs)) (hl:cs.length=n):load r 0 n s=some cs:=by
 rw [load_of h (by omega),List.drop_zero,List.take_of_length_le (by omega)]
theorem store_full {old:List AV}(h:s.get r=some (.row e old)) (hl:cs.length=old.length):storeAt r 0 cs s=some (s.put r (.row e cs)):=by
 rw [store_of h (by omega),List.take_zero,List.nil_append,List.drop_eq_nil_of_le (by omega),List.append_nil]
theorem res_cells {t:AT}{i:Nat}{vs:List AV}{l:List ARes}(ht:t.get i=some (.ptr r 0)) (hl:load r 0 n s=some cs) (h:resA t s l=some vs):resA t s (.cells i n::l)=some (.agg cs::vs):=by
 show (Option.rec none (fun v=>Option.rec none (fun vs=>some (v::vs)) (resA t s l)) (Option.rec none (fun v=>PR.rec none (fun r o=>Option.rec none (fun cs=>some (.agg cs)) (load r o n s)) (fun _=>none) (asPtr v)) (t.get i)):Option (List AV))=_
 rw [ht,h]
 show (Option.rec none (fun v=>some (v::vs)) (Option.rec none (fun cs=>some (.agg cs)) (load r 0 n s)):Option (List AV))=_
 rw [hl]
theorem whole_run (e:Env) (s:St) (v:AV) (bs:List Nat) (hv:Sl 1 bs.length (bys bs) v) (hN:s.next<1000000000) (K:AV->St->Prop)
 (k1:bs.length≠0->bs.length≠128->∀ s',s'.next=s.next+1->(∀ i,i<s.next->s'.get i=s.get i)->K (.tup [.agg (bys (List.replicate 128 0)),.int .i64 3]) s')
 (k2:(pad bs).length=128->∀ s',s'.next=s.next+1->(∀ i,i<s.next->s'.get i=s.get i)->K (.tup [.agg (bys (pad bs)),.int .i64 0]) s'):
 VE e code130 (initT [v] 0 .lf) s none [] (EEnd [.cells 2 128,.tmp 3] K):=by
 obtain ⟨s1,hs1⟩:∃ s1,s.alloc (.row 300 z128)=s1:=⟨_,rfl⟩
 have g1:s1.get s.next=some (.row 300 z128):=by rw [← hs1];exact St.get_alloc_same hN
 have g2:∀ i,i<s.next->s1.get i=s.get i:=fun i hi=>by rw [← hs1];exact St.get_alloc_ne (by omega)
 have g3:s1.next=s.next+1:=by rw [← hs1];exact St.next_alloc _ _
 have hz:(z128).length=128:=by simp [z128,bys_length]
 conv=>whnf
 refine EPrim.lenS rfl hv ?_;conv=>whnf
 have main:bs.length=0∨bs.length=128->(pad bs).length=128:=by
  intro h
  unfold pad
  split
  ·simp
  ·rename_i hne
   rcases h with h|h
   ·exact absurd (List.length_eq_zero_iff.1 h) hne
   ·exact h
 have hcopy:bs.length=0∨bs.length=128->∃ sc,storeAt s.next 0 (bys bs) s1=some sc∧∀ s',(s'=s1∧bys bs=[])∨s'=sc->s'.next=s.next+1∧(∀ i,i<s.next->s'.get i=s.get i)∧s'.get s.next=some (.row 300 (bys (pad bs))):=by
  intro h
  refine ⟨_,store_of g1 (by rw [bys_length,hz];omega),?_⟩
  rintro s' (⟨rfl,h0⟩|rfl)
  ·refine ⟨g3,g2,?_⟩
   have:bs=[]:=List.map_eq_nil_iff.1 h0
   rw [g1];unfold pad;rw [if_pos this];rfl
  ·refine ⟨by rw [St.next_put];exact g3,fun i hi=>by rw [St.get_put_ne (by omega)];exact g2 i hi,?_⟩
   rw [St.get_put_same (by omega)]
   rcases h with h|h
   ·have:bs=[]:=List.length_eq_zero_iff.1 h
    subst this;simp [bys,pad,z128]
   ·have hne:bs≠[]:=fun e=>by subst e;cases h
    unfold pad;rw [if_neg hne,List.take_zero,List.nil_append,List.drop_eq_nil_of_le (by rw [bys_length,hz];omega),List.append_nil]
 refine EPrim.neqN (b:=0) rfl rfl (fun h=>?_) (fun h=>?_)
 ·conv=>whnf
  refine EPrim.lenS rfl hv ?_;conv=>whnf
  refine EPrim.neqN (b:=128) rfl rfl (fun h'=>?_) (fun h'=>?_)
  ·conv=>whnf
   refine stuckO z128 (by show load s.next 0 128 (s.alloc (.row 300 z128))=_;rw [hs1];exact load_full g1 hz) ?_;conv=>whnf
   refine stuckO (s1.put s.next (.row 300 z128)) (by show storeAt s.next 0 z128 (s.alloc (.row 300 z128))=_;rw [hs1];exact store_full g1 rfl) ?_
   obtain ⟨s2,hs2⟩:∃ s2,s1.put s.next (.row 300 z128)=s2:=⟨_,rfl⟩
   have g4:s2.get s.next=some (.row 300 z128):=by rw [← hs2,St.get_put_same (by omega)]
   have g5:∀ i,i<s.next->s2.get i=s.get i:=fun i hi=>by rw [← hs2,St.get_put_ne (by omega)];exact g2 i hi
   have g6:s2.next=s.next+1:=by rw [← hs2,St.next_put];exact g3
   rw [hs2]
   conv=>whnf
   refine stuckO _ (res_cells rfl (load_full g4 hz) rfl) ?_
   exact k1 h h' s2 g6 g5
  ·have hn:bs.length=0∨bs.length=128:=.inr h'
   conv=>whnf
   refine EPrim.mk (v:=.sl s.next 0 128 (some 128)) (s':=s.alloc (.row 300 z128)) (fun e rec=>rfl) ?_;conv=>whnf
   obtain ⟨sc,hsc,hall⟩:=hcopy hn
   refine EPrim.copyS (s1:=sc) rfl rfl hv (by omega) (by show storeAt s.next 0 (bys bs) (s.alloc (.row 300 z128))=_;rw [hs1];exact hsc) (fun s2 hs2=>?_)
   have hs2':(s2=s1∧bys bs=[])∨s2=sc:=by rw [← hs1];exact hs2
   obtain ⟨a1,a2,a3⟩:=hall s2 hs2'
   have hp:=main hn
   conv=>whnf
   refine stuckO (bys (pad bs)) (load_full a3 (by rw [bys_length];exact hp)) ?_;conv=>whnf
   refine stuckB (by show Nat.beq (lenL (bys (pad bs))) 128=true;rw [lenL_eq,bys_length,hp];rfl) ?_;conv=>whnf
   refine stuckO (s2.put s.next (.row 300 (bys (pad bs)))) (store_full a3 rfl) ?_
   obtain ⟨s3,hs3⟩:∃ s3,s2.put s.next (.row 300 (bys (pad bs)))=s3:=⟨_,rfl⟩
   have g4:s3.get s.next=some (.row 300 (bys (pad bs))):=by rw [← hs3,St.get_put_same (by omega)]
   have g5:∀ i,i<s.next->s3.get i=s.get i:=fun i hi=>by rw [← hs3,St.get_put_ne (by omega)];exact a2 i hi
   have g6:s3.next=s.next+1:=by rw [← hs3,St.next_put];exact a1
   rw [hs3]
   conv=>whnf
   refine stuckO _ (res_cells rfl (load_full g4 (by rw [bys_length];exact hp)) rfl) ?_
   exact k2 hp s3 g6 g5
 ·have hn:bs.length=0∨bs.length=128:=.inl h
  conv=>whnf
  refine EPrim.mk (v:=.sl s.next 0 128 (some 128)) (s':=s.alloc (.row 300 z128)) (fun e rec=>rfl) ?_;conv=>whnf
  obtain ⟨sc,hsc,hall⟩:=hcopy hn
  refine EPrim.copyS (s1:=sc) rfl rfl hv (by omega) (by show storeAt s.next 0 (bys bs) (s.alloc (.row 300 z128))=_;rw [hs1];exact hsc) (fun s2 hs2=>?_)
  have hs2':(s2=s1∧bys bs=[])∨s2=sc:=by rw [← hs1];exact hs2
  obtain ⟨a1,a2,a3⟩:=hall s2 hs2'
  have hp:=main hn
  conv=>whnf
  refine stuckO (bys (pad bs)) (load_full a3 (by rw [bys_length];exact hp)) ?_;conv=>whnf
  refine stuckB (by show Nat.beq (lenL (bys (pad bs))) 128=true;rw [lenL_eq,bys_length,hp];rfl) ?_;conv=>whnf
  refine stuckO (s2.put s.next (.row 300 (bys (pad bs)))) (store_full a3 rfl) ?_
  obtain ⟨s3,hs3⟩:∃ s3,s2.put s.next (.row 300 (bys (pad bs)))=s3:=⟨_,rfl⟩
  have g4:s3.get s.next=some (.row 300 (bys (pad bs))):=by rw [← hs3,St.get_put_same (by omega)]
  have g5:∀ i,i<s.next->s3.get i=s.get i:=fun i hi=>by rw [← hs3,St.get_put_ne (by omega)];exact a2 i hi
  have g6:s3.next=s.next+1:=by rw [← hs3,St.next_put];exact a1
  rw [hs3]
  conv=>whnf
  refine stuckO _ (res_cells rfl (load_full g4 (by rw [bys_length];exact hp)) rfl) ?_
  exact k2 hp s3 g6 g5
def code131:AC:=match a187 with|.mk c _=>c
def fitsB (a z:Int):Bool:=decide (1≤z∧z≤4∧0≤a∧a≤128-z)
theorem fits_run (e:Env) (s:St) (a z:Int) (K:AV->St->Prop) (h:K (.bool (fitsB a z)) s):VE e code131 (initT [.int .i64 a,.int .i64 z] 0 .lf) s none [] (EEnd [.tmp 4] K):=by
 unfold fitsB at h
 conv=>whnf
 refine EPrim.geq2 rfl rfl (fun h1=>?_) (fun h1=>?_)
 ·conv=>whnf
  refine EPrim.leq2 rfl rfl (fun h2=>?_) (fun h2=>?_)
  ·conv=>whnf
   refine EPrim.geq2 rfl rfl (fun h3=>?_) (fun h3=>?_)
   ·conv=>whnf
    refine EPrim.subS rfl rfl (by omega) ?_;conv=>whnf
    refine EPrim.leq2 rfl rfl (fun h4=>?_) (fun h4=>?_)
    ·conv=>whnf
     rw [decide_eq_true ⟨h1,h2,h3,h4⟩] at h;exact h
    ·conv=>whnf
     rw [decide_eq_false (by omega)] at h;exact h
   ·conv=>whnf
    rw [decide_eq_false (by omega)] at h;exact h
  ·conv=>whnf
   rw [decide_eq_false (by omega)] at h;exact h
 ·conv=>whnf
  rw [decide_eq_false (by omega)] at h;exact h
section
variable {t:AT}{s:St}{k:AV->St->Prop}{x y:AO}
end
theorem pad_len {bs:List Nat}(h:(pad bs).length=128):¬ (bs.length≠0∧bs.length≠128):=by
 unfold pad at h
 split at h
 ·rename_i e;subst e;simp
 ·rintro ⟨_,h2⟩;exact h2 h
end Go.AM
namespace Go.AM
attribute [local irreducible] W
open X
section
variable {t:AT}{s:St}{k:AV->St->Prop}{x y:AO}
theorem EPrim.cviU8 {q:IntKind}{a:Nat}(hx:ev x t=.some (.int q (Int.ofNat a))) (hk:k (.int .u8 (Int.ofNat (a % 256))) s):EPrim (.cvi .u8 x) t s k:=by
 refine EPrim.mk (v:=.int .u8 (Int.ofNat (a % 256))) (s':=s) (fun e rec=>?_) hk
 show wth x t _=_;unfold wth;rw [hx]
 rfl
end
def code161:AC:=match a105 with|.mk c _=>c
def putN (bs:List Nat) (a n:Nat):Nat->List Nat
 | 0=>bs
 | i+1=>(putN bs a n i).set (a+i) (n / 2^(8*i) % 256)
theorem putN_length (bs:List Nat) (a n:Nat):∀ i,(putN bs a n i).length=bs.length
 | 0=>rfl
 | i+1=>by rw [putN,List.length_set,putN_length bs a n i]
theorem bys_set (bs:List Nat) (i b:Nat):bys (bs.set i b)=(bys bs).set i (.int .u8 (Int.ofNat b)):=by simp [bys,List.map_set,byV]
def putOk (a z n:Int):Bool:=fitsB a z && decide (0≤n∧n.toNat / 2^(8*z.toNat)=0)
theorem put_run (e:Env) (hE:EM P e) (h130:Inl e 186 code130 [.cells 2 128,.tmp 3]) (h131:Inl e 187 code131 [.tmp 4]) (v:AV) (bs:List Nat) (hv:Sl 1 bs.length (bys bs) v) (a z n:Int) (Q:AV->St->Prop)
 (k1:bs.length≠0->bs.length≠128->∀ s,Q (.tup [.nils,.int .i64 3]) s)
 (k2:(pad bs).length=128->putOk a z n=false->∀ s,Q (.tup [.nils,.int .i64 2]) s)
 (k3:(pad bs).length=128->putOk a z n=true->∀ s r,s.get r=some (.row 300 (bys (putN (pad bs) a.toNat n.toNat z.toNat)))->Q (.tup [.sl r 0 128 (some 128),.int .i64 0]) s):
 VW P e 0 code161 (initT [v,.int .i64 a,.int .i64 z,.int .i64 n] 0 .lf) St0 none [] (EEnd [.tmp 8,.tmp 9] Q):=by
 conv=>whnf
 refine ESc.inl h130 (whole_run e _ v bs hv (by decide) _ (fun h1 h2 s' n1 n2=>?_) (fun h1 s' n1 n2=>?_))
 ·have hn1:s'.next=1:=n1
  conv=>whnf
  refine stuckO _ (store_full (e:=300) (old:=z128) (St.get_alloc_same (by omega)) rfl) ?_;conv=>whnf
  refine EPrim.neqN (a:=3) (b:=0) rfl rfl (fun _=>?_) (fun h=>by cases h);conv=>whnf
  exact k1 h1 h2 _
 ·have hn1:s'.next=1:=n1
  have hbl:(bys (pad bs)).length=128:=by rw [bys_length];exact h1
  obtain ⟨s1,hs1⟩:∃ s1,s'.alloc (.row 300 z128)=s1:=⟨_,rfl⟩
  have g1:s1.get s'.next=some (.row 300 z128):=by rw [← hs1];exact St.get_alloc_same (by omega)
  conv=>whnf
  refine stuckB (by show Nat.beq (lenL (bys (pad bs))) 128=true;rw [lenL_eq,hbl];rfl) ?_;conv=>whnf
  refine stuckO (s1.put s'.next (.row 300 (bys (pad bs)))) (by show storeAt s'.next 0 (bys (pad bs)) (s'.alloc (.row 300 z128))=_;rw [hs1];exact store_full g1 (by rw [hbl];rfl)) ?_
  obtain ⟨s2,hs2⟩:∃ s2,s1.put s'.next (.row 300 (bys (pad bs)))=s2:=⟨_,rfl⟩
  have g4:s2.get s'.next=some (.row 300 (bys (pad bs))):=by rw [← hs2,St.get_put_same (by omega)]
  rw [hs2]
  conv=>whnf
  refine EPrim.neqN (a:=0) (b:=0) rfl rfl (fun h=>absurd rfl h) (fun _=>?_);conv=>whnf
  refine ESc.inl h131 (fits_run e _ a z _ ?_)
  cases hf:fitsB a z with
  | false=>
   conv=>whnf
   refine EPrim.notF rfl ?_;conv=>whnf
   exact k2 h1 (by unfold putOk;rw [hf];rfl) _
  | true=>
   conv=>whnf
   refine EPrim.notT rfl ?_;conv=>whnf
   have hfz:=of_decide_eq_true hf
   obtain ⟨A,rfl⟩:∃ A:Nat,a=Int.ofNat A:=⟨a.toNat,by show a=(a.toNat:Int);omega⟩
   obtain ⟨Z,rfl⟩:∃ Z:Nat,z=Int.ofNat Z:=⟨z.toNat,by show z=(z.toNat:Int);omega⟩
   have eA:Int.ofNat A=(A:Int):=rfl
   have eZ:Int.ofNat Z=(Z:Int):=rfl
   refine EPrim.lss2 rfl rfl (fun hneg=>?_) (fun hneg=>?_)
   ·conv=>whnf
    exact k2 h1 (by unfold putOk;rw [decide_eq_false (by omega)];simp) _
   ·obtain ⟨M,rfl⟩:∃ M:Nat,n=Int.ofNat M:=⟨n.toNat,by show n=(n.toNat:Int);omega⟩
    conv=>whnf
    refine EPrim.mulS rfl rfl (by omega) ?_;conv=>whnf
    refine EPrim.shrN (n:=8*Z) rfl rfl (by show 8*Z≤64;omega) ?_;conv=>whnf
    refine EPrim.neqN (b:=0) rfl rfl (fun h=>?_) (fun h=>?_)
    ·conv=>whnf
     exact k2 h1 (by unfold putOk;rw [decide_eq_false (fun hh=>h hh.2)];simp) _
    ·conv=>whnf
     have hok:putOk (Int.ofNat A) (Int.ofNat Z) (Int.ofNat M)=true:=by
      unfold putOk;rw [hf,decide_eq_true ⟨hneg,h⟩];rfl
     refine W.loopS (α:=Nat) (fun i=>[(1,.int .i64 (Int.ofNat A)),(3,.int .i64 (Int.ofNat M)),(10,.ptr 0 0),(36,.int .i64 (Int.ofNat Z)),(37,.int .i64 (Int.ofNat i))]) (fun i=>[.row 300 (bys (putN (pad bs) A M i))]) (fun i=>Z-i)
      (fun i=>i≤Z) 0 [s'.next] (Nat.zero_le _) ⟨by simp,⟨⟨rfl,rfl⟩,⟨rfl,rfl⟩,⟨rfl,rfl⟩,⟨rfl,rfl⟩,⟨rfl,rfl⟩,trivial⟩,⟨⟨?_,?_⟩,trivial⟩⟩ ?_
     ·exact hfs_bds _ (scs_hfs_bys _)
     ·rw [g4];show _=some (AObj.row 300 (mapVs _ (bys (pad bs))));rw [hfs_mapVs _ (scs_hfs_bys _)]
     intro i hi
     have hlen:(bys (putN (pad bs) A M i)).length=128:=by rw [bys_length,putN_length];exact h1
     refine vs_sound hE ?_;conv=>whnf
     refine EPrim.lssN rfl rfl (fun h=>?_) (fun h=>?_)
     ·conv=>whnf
      refine EPrim.addN rfl rfl (by omega) ?_;conv=>whnf
      refine EPrim.mulS rfl rfl (by have:Int.ofNat i=(i:Int):=rfl;omega) ?_;conv=>whnf
      refine EPrim.shrN (n:=8*i) rfl rfl (by show 8*i≤64;omega) ?_;conv=>whnf
      refine EPrim.cviU8 rfl ?_;conv=>whnf
      refine EPrim.ixaP rfl rfl (by omega) ?_;conv=>whnf
      refine stuckO ((allocs St0 [.row 300 (bys (putN (pad bs) A M i))]).put 0 (.row 300 (bys (putN (pad bs) A M (i+1))))) (by
       rw [Nat.zero_add,Nat.mul_one]
       show storeAt 0 (A+i) [AV.int .u8 (Int.ofNat (M / 2^(8*i) % 256))] (allocs St0 [.row 300 (bys (putN (pad bs) A M i))])=_
       rw [store_of (e:=300) (cs:=bys (putN (pad bs) A M i)) rfl (by rw [hlen];simp;omega)]
       rw [putN,bys_set,List.set_eq_take_append_cons_drop,if_pos (by rw [hlen];omega)]
       simp) ?_
      conv=>whnf
      refine EPrim.incN rfl rfl rfl (by omega) ?_;conv=>whnf
      refine ⟨rfl,i+1,by omega,by omega,[0],⟨by decide,⟨r9,r9,r9,r9,r9,trivial⟩,⟨⟨hfs_bds _ (scs_hfs_bys _),?_⟩,trivial⟩⟩⟩
      show _=some (AObj.row 300 (mapVs _ (bys (putN (pad bs) A M (i+1)))));rw [hfs_mapVs _ (scs_hfs_bys _)];rfl
     ·have:i=Z:=by omega
      subst this
      conv=>whnf
      refine EPrim.mk (v:=.sl 0 0 128 (some 128)) (s':=allocs St0 [.row 300 (bys (putN (pad bs) A M i))]) (fun e rec=>rfl) ?_;conv=>whnf
      exact k3 h1 hok _ 0 rfl
theorem bytes0 {v:AV}{bs:List Nat}(h:bytesAt St0 v=some bs):Sl 1 bs.length (bys bs) v∧∀ b ∈ bs,b<256:=by
 obtain ⟨v2,hF,hS,hb⟩:=bytesAt_view h
 refine ⟨?_,hb⟩
 cases hF with
 | plain _ _=>exact hS
 | sl r o n cap cap' e cs l us hg _ _ _=>cases hg
 | ptr r o e cs l us hg _ _=>cases hg
 | agg l us _=>rcases hS with ⟨h,_⟩|⟨h,_⟩|⟨c,h,_⟩ <;> cases h
 | tup l us _=>rcases hS with ⟨h,_⟩|⟨h,_⟩|⟨c,h,_⟩ <;> cases h
 | fn f xs ys us ws _ _=>rcases hS with ⟨h,_⟩|⟨h,_⟩|⟨c,h,_⟩ <;> cases h
def putV (bs:List Nat) (a z n:Int):AV:=
 if bs.length≠0∧bs.length≠128 then .tup [.nils,.int .i64 3] else if putOk a z n=true then .tup [.fz 128 (some 128) (bys (putN (pad bs) a.toNat n.toNat z.toNat)),.int .i64 0] else .tup [.nils,.int .i64 2]
theorem hf_putV (bs:List Nat) (a z n:Int):hf (putV bs a z n)=true:=by
 unfold putV
 split
 ·rfl
 ·split <;> rfl
noncomputable def putO (args:List AV) (s:St):RV:=match args with
 | [v,.int .i64 a,.int .i64 z,.int .i64 n]=>Option.rec .fail (fun bs=>.ok (putV bs a z n) s) (bytesAt St0 v)
 | _=>.fail
theorem putO_ok {e:Env}(hE:EM P e) (h130:Inl e 186 code130 [.cells 2 128,.tmp 3]) (h131:Inl e 187 code131 [.tmp 4]):OvOk P 105 putO:=by
 refine ⟨g105.b,fun args s v s' h=>?_⟩
 unfold putO at h
 split at h
 ·rename_i u a z n
  obtain ⟨bs,hbs,h⟩:=opt_ok h
  obtain ⟨rfl,rfl⟩:=ok_inj h
  obtain ⟨hSl,hlt⟩:=bytes0 hbs
  have hfs2:hfs [u,.int .i64 a,.int .i64 z,.int .i64 n]=true:=by simp [hfs,hSl.hf];exact ⟨rfl,rfl,rfl⟩
  refine C.pure hfs2 (hf_putV bs a z n) ?_ s
  refine C.of_G hE g105 (put_run e hE h130 h131 u bs hSl a z n _ (fun h1 h2 s=>?_) (fun h0 h1 s=>?_) (fun h0 h1 s r hr=>?_))
  ·have e1:putV bs a z n=.tup [.nils,.int .i64 3]:=by unfold putV;rw [if_pos ⟨h1,h2⟩]
   rw [e1];exact .plain _ rfl
  ·have e1:putV bs a z n=.tup [.nils,.int .i64 2]:=by unfold putV;rw [if_neg (pad_len h0),if_neg (by rw [h1];simp)]
   rw [e1];exact .plain _ rfl
  ·have e1:putV bs a z n=.tup [.fz 128 (some 128) (bys (putN (pad bs) a.toNat n.toNat z.toNat)),.int .i64 0]:=by unfold putV;rw [if_neg (pad_len h0),if_pos h1]
   rw [e1]
   exact .tup _ _ (.cons (.sl r 0 128 (some 128) (some 128) 300 _ _ _ hr (fun i x hx=>by rw [Nat.zero_add];exact hx) (frz_bys _) (.inr rfl)) (.cons (.plain _ rfl) .nil))
 ·cases h
end Go.AM
namespace Go.AM
attribute [local irreducible] W
open X
def crcT:List Nat:=[0x00000000,0x105ec76f,0x20bd8ede,0x30e349b1,0x417b1dbc,0x5125dad3,0x61c69362,0x7198540d,0x82f63b78,0x92a8fc17,0xa24bb5a6,0xb21572c9,0xc38d26c4,0xd3d3e1ab,0xe330a81a,0xf36e6f75]
def nth0:List Nat->Nat->Nat
 | [],_=>0
 | x::_,0=>x
 | _::l,n+1=>nth0 l n
def half (s:Nat):Nat:=Nat.xor (Nat.div s 16) (nth0 crcT (Nat.mod s 16))
def crcStep (s b:Nat):Nat:=half (half (Nat.xor s b))
def crcGo (l:List Nat) (s:Nat):Nat:=l.foldl crcStep s
def crcCells:List AV:=crcT.map fun n=>.int .u32 (Int.ofNat n)
theorem nth0_lt {m:Nat}(h0:0<m):∀ {l:List Nat}{n:Nat},(∀ x ∈ l,x<m)->nth0 l n<m:=by
 intro l
 induction l with
 | nil=>intro n _;exact h0
 | cons x l ih=>intro n h;cases n with
  | zero=>exact h x (by simp)
  | succ n=>exact ih fun y hy=>h y (by simp [hy])
theorem half_lt {s:Nat}(h:s<4294967296):half s<4294967296:=
 Nat.xor_lt_two_pow (n:=32) (by show s / 16<_;omega) (nth0_lt (by decide) (by decide))
theorem getL_crc:∀ {i:Nat}{l:List Nat},i<l.length->getL (l.map fun n=>AV.int .u32 (Int.ofNat n)) i=some (.int .u32 (Int.ofNat (nth0 l i))):=by
 intro i l
 induction l generalizing i with
 | nil=>intro h;simp at h
 | cons x l ih=>intro h;cases i with
  | zero=>rfl
  | succ i=>exact ih (by simpa using h)
theorem crc_cells {i:Nat}(h:i<16):load1 0 (0+i*1) (allocs St0 [.row 372 crcCells])=some (.int .u32 (Int.ofNat (nth0 crcT i))):=by
 rw [Nat.zero_add,Nat.mul_one]
 exact getL_crc (l:=crcT) h
theorem and15 (a:Nat):a &&& 15=a % 16:=Nat.and_two_pow_sub_one_eq_mod a 4
theorem over_body (e:Env) (hE:EM P e) (hW:Inl e 254 (match a254 with|.mk c _=>c) (match a254 with|.mk _ r=>r)) (s0:Nat) (h0:s0<4294967296) (bs:List Nat) (hb:∀ b ∈ bs,b<256) (hlen:bs.length<9223372036854775807) (v:AV) (hv:Sl 1 bs.length (bys bs) v) (Q:AV->St->Prop)
 (hQ:∀ s,Q (.int .u32 (Int.ofNat (crcGo bs (s0 ^^^ 4294967295) ^^^ 4294967295))) s):
 VW P e 0 (match a188 with|.mk c _=>c) (initT [.int .u32 (Int.ofNat s0),v] 0 .lf) St0 none [] (EEnd [.tmp 4] Q):=by
 conv=>whnf
 refine ESc.inl hW ?_;conv=>whnf
 refine EPrim.cpl32 rfl h0 ?_;conv=>whnf
 refine EPrim.lenS rfl hv ?_;conv=>whnf
 refine W.loopS (α:=Nat×Nat) (fun x=>[(0,.int .u32 (Int.ofNat x.2)),(5,.ptr 0 0),(11,v),(12,.int .i64 (Int.ofNat bs.length)),(13,.int .i64 (Int.ofNat x.1))]) (fun _=>[.row 372 crcCells]) (fun x=>bs.length-x.1)
  (fun x=>x.1≤bs.length∧x.2=crcGo (bs.take x.1) (s0 ^^^ 4294967295)∧x.2<4294967296) (0,s0 ^^^ 4294967295) [1] ⟨Nat.zero_le _,rfl,Nat.xor_lt_two_pow (n:=32) h0 (by decide)⟩
  ⟨by decide,⟨r9,r9,t9 hv.hf,r9,r9,trivial⟩,⟨r9,trivial⟩⟩ ?_
 rintro ⟨i,a⟩ ⟨hi,ha,hlt⟩
 dsimp only at hi ha hlt ⊢
 refine vs_sound hE ?_;conv=>whnf
 refine EPrim.lssN rfl rfl (fun h=>?_) (fun h=>?_)
 ·have hbi:bs[i]<256:=hb bs[i] (List.getElem_mem h)
  have hx:a ^^^ bs[i]<4294967296:=Nat.xor_lt_two_pow (n:=32) hlt (by omega)
  have hy:half (a ^^^ bs[i])<4294967296:=half_lt hx
  conv=>whnf
  refine EPrim.ixsS rfl hv rfl h ?_;conv=>whnf
  refine EHead.mk (bys_drop_get h) ?_;conv=>whnf
  refine EPrim.cviU32 rfl (by omega) ?_;conv=>whnf
  refine EPrim.xor32 rfl rfl hlt (by omega) ?_;conv=>whnf
  refine EPrim.shrN (n:=4) rfl rfl (by decide) ?_;conv=>whnf
  refine EPrim.and32 rfl rfl hx (by decide) ?_;conv=>whnf
  rw [and15]
  refine EPrim.ixaP rfl rfl (Nat.mod_lt _ (by decide)) ?_;conv=>whnf
  refine stuckO _ (crc_cells (Nat.mod_lt _ (by decide))) ?_;conv=>whnf
  refine EPrim.xor32 rfl rfl (by show (a ^^^ bs[i]) / 16<_;omega) (nth0_lt (by decide) (by decide)) ?_;conv=>whnf
  refine EPrim.shrN (n:=4) rfl rfl (by decide) ?_;conv=>whnf
  refine EPrim.and32 rfl rfl hy (by decide) ?_;conv=>whnf
  rw [and15]
  refine EPrim.ixaP rfl rfl (Nat.mod_lt _ (by decide)) ?_;conv=>whnf
  refine stuckO _ (crc_cells (Nat.mod_lt _ (by decide))) ?_;conv=>whnf
  refine EPrim.xor32 rfl rfl (by have:half (a ^^^ bs[i]) / 16<4294967296:=by omega
                                 exact this) (nth0_lt (by decide) (by decide)) ?_
  conv=>whnf
  refine EPrim.incN rfl rfl rfl (by omega) ?_;conv=>whnf
  refine ⟨rfl,(i+1,crcStep a bs[i]),⟨by simp;omega,?_,half_lt (half_lt hx)⟩,by simp;omega,[0],⟨by decide,⟨r9,r9,t9 hv.hf,r9,r9,trivial⟩,⟨r9,trivial⟩⟩⟩
  show crcStep a bs[i]=crcGo (bs.take (i+1)) _
  rw [List.take_succ_eq_append_getElem h,crcGo,List.foldl_append,ha];rfl
 ·conv=>whnf
  refine EPrim.cpl32 rfl hlt ?_;conv=>whnf
  have:bs.take i=bs:=List.take_of_length_le h
  rw [ha,this]
  exact hQ _
noncomputable def overO (args:List AV) (s:St):RV:=match args with
 | [.int .u32 (.ofNat s0),v]=>gd (Nat.blt s0 4294967296) (Option.rec .fail (fun bs=>gd (Nat.blt (lenL bs) 1000000) (.ok (.int .u32 (.ofNat (Nat.xor (crcGo bs (Nat.xor s0 4294967295)) 4294967295))) s)) (bytesAt s v))
 | _=>.fail
theorem overO_ok {e:Env}(hE:EM P e) (hW:Inl e 254 (match a254 with|.mk c _=>c) (match a254 with|.mk _ r=>r)):OvOk P 188 overO:=by
 refine ⟨g188.b,fun args s v s' h=>?_⟩
 unfold overO at h
 split at h
 ·rename_i s0 u
  obtain ⟨h1,h⟩:=gd_ok h
  obtain ⟨bs,hbs,h⟩:=opt_ok h
  obtain ⟨h2,h⟩:=gd_ok h
  obtain ⟨rfl,rfl⟩:=ok_inj h
  rw [Nat.blt_eq] at h1 h2
  rw [lenL_eq] at h2
  obtain ⟨v2,hF,hSl,hlt⟩:=bytesAt_view hbs
  have hfs2:hfs [.int .u32 (.ofNat s0),v2]=true:=by simp [hfs,hSl.hf];rfl
  refine C.view (args2:=[.int .u32 (.ofNat s0),v2]) (.cons (.plain _ rfl) (.cons hF .nil)) rfl (C.freeze hfs2 ?_)
  exact C.of_G hE g188 (over_body e hE hW s0 h1 bs hlt (by omega) v2 hSl _ (fun s=>.plain _ rfl))
 ·cases h
section
variable {t:AT}{s:St}{k:AV->St->Prop}{x y:AO}
end
end Go.AM
namespace Go.AM
attribute [local irreducible] W
open X
def numB (n:Int):Bool:=decide (1≤n∧n≤2147483648)
def supB (age seq tail:Int):Bool:=numB age && numB seq && decide (0≤tail∧tail<255)
structure Sup where
 id:Int
 age:Int
 seq:Int
 tail:Int
def Sup.ok (x:Sup):Prop:=(0≤x.id∧x.id<4294967296)∧(0≤x.age∧x.age<4294967296)∧(0≤x.seq∧x.seq<4294967296)
def Sup.v (x:Sup):AV:=.agg [.int .u32 x.id,.int .u32 x.age,.int .u32 x.seq,.int .i64 x.tail]
def Sup.b (x:Sup):Bool:=supB x.age x.seq x.tail
theorem pad_of {bs:List Nat}(h:bs.length=128):pad bs=bs:=by
 unfold pad;rw [if_neg];intro e;subst e;cases h
structure Cfg where
 id:Int
 members:Int
 chunk:Int
 rows:Int
 log:Int
 heads:Int
def i64B (n:Int):Prop:=-9223372036854775808≤n∧n≤9223372036854775807
def u32B (n:Int):Prop:=0≤n∧n<4294967296
structure Cfg.ok (c:Cfg):Prop where
 id:u32B c.id
 members:i64B c.members
 chunk:i64B c.chunk
 rows:i64B c.rows
 log:i64B c.log
 heads:i64B c.heads
def Cfg.c (x:Cfg):List AV:=[.int .u32 x.id,.int .i64 x.members,.int .i64 x.chunk,.int .i64 x.rows,.int .i64 x.log,.int .i64 x.heads]
def Cfg.v (x:Cfg):AV:=.agg x.c
variable {x y:Cfg}
theorem Cfg.inj (h:x.c=y.c):x=y:=by
 obtain ⟨a,b,c,d,e,f⟩:=x
 obtain ⟨a',b',c',d',e',f'⟩:=y
 simp [Cfg.c] at h
 obtain ⟨rfl,rfl,rfl,rfl,rfl,rfl⟩:=h;rfl
theorem Cfg.injv (h:x.v=y.v):x=y:=Cfg.inj (AV.agg.inj h)
def Cfg.may (x:Cfg):Prop:=(3≤x.members∧x.members≤16)∧(1≤x.chunk∧x.chunk≤8)∧(1≤x.rows∧x.rows≤8)∧(2≤x.heads∧x.heads≤8)∧(x.members+1)*(x.heads+1)≤x.log∧x.log≤255
instance (x:Cfg):Decidable x.may:=by unfold Cfg.may;infer_instance
theorem Cfg.may_log (h:x.may):12≤x.log:=by
 unfold Cfg.may at h
 have:(4:Int)*3≤(x.members+1)*(x.heads+1):=Int.mul_le_mul (by omega) (by omega) (by decide) (by omega)
 omega
def cfgF:Fam Cfg:=⟨Cfg.ok,fun x=>[x.v],fun x=>.int .i64 (if x.may then 0 else 8),fun x y _ _ h=>by rw [Cfg.injv (List.cons.inj h).1]⟩
def code121:AC:=match a209 with|.mk c _=>c
theorem mul_small {a b:Int}(ha:0≤a∧a≤100000) (hb:0≤b∧b≤100000):-9223372036854775808≤a*b∧a*b≤9223372036854775807:=by
 have h1:0≤a*b:=Int.mul_nonneg ha.1 hb.1
 have h2:a*b≤100000*100000:=Int.mul_le_mul ha.2 hb.2 hb.1 (by decide)
 omega
variable {e:Env}
theorem cfgF_ok (hE:EM P e) (h121:Inl e 209 code121 [.tmp 2]):OvOk P 133 cfgF.O:=by
 refine Fam.ok_of g133.b ?_
 rintro ⟨id,members,chunk,rows,log,heads⟩ ⟨h1,h2,h3,h4,h5,h6⟩
 unfold i64B at h2 h3 h4 h5 h6
 dsimp only at h2 h3 h4 h5 h6
 refine ⟨rfl,rfl,C.of_G hE g133 ?_⟩
 have fin0:∀ s,((3≤members∧members≤16)∧(1≤chunk∧chunk≤8)∧(1≤rows∧rows≤8)∧(2≤heads∧heads≤8)∧(members+1)*(heads+1)≤log∧log≤255)->Frz s (.int .i64 0) (cfgF.out ⟨id,members,chunk,rows,log,heads⟩):=by
  intro s h
  show Frz s _ (.int .i64 (if Cfg.may ⟨id,members,chunk,rows,log,heads⟩ then 0 else 8))
  rw [if_pos (show Cfg.may ⟨id,members,chunk,rows,log,heads⟩ from h)];exact .plain _ rfl
 have fin8:∀ s,¬ ((3≤members∧members≤16)∧(1≤chunk∧chunk≤8)∧(1≤rows∧rows≤8)∧(2≤heads∧heads≤8)∧(members+1)*(heads+1)≤log∧log≤255)->Frz s (.int .i64 8) (cfgF.out ⟨id,members,chunk,rows,log,heads⟩):=by
  intro s h
  show Frz s _ (.int .i64 (if Cfg.may ⟨id,members,chunk,rows,log,heads⟩ then 0 else 8))
  rw [if_neg (show ¬ Cfg.may ⟨id,members,chunk,rows,log,heads⟩ from h)];exact .plain _ rfl
 show VW P e 0 (match a133 with|.mk c _=>c) (initT [AV.agg [.int .u32 id,.int .i64 members,.int .i64 chunk,.int .i64 rows,.int .i64 log,.int .i64 heads]] 0 .lf) St0 none [] _
 conv=>whnf
 repeat' (first|((first|refine ESc.inl h121 ?_|refine EExec.loop ?_|refine EPrim.ixsPZ rfl rfl (by omega) (by omega) ?_|refine EPrim.ixaZ rfl rfl (by omega) (by omega) ?_|refine EPrim.mulS rfl rfl (mul_small (by omega) (by omega)) ?_|refine nq7 ?_|refine nq12 ?_|refine nq13 ?_|refine nq18 ?_);conv=>whnf)|refine nq1 ?_ ?_|refine nq3 ?_ ?_|(intro _;first|omega|conv=>whnf))
 all_goals first
  | exact fin8 _ (by omega)
  | exact fin0 _ (by omega)
def toldF:Fam (Cfg×Int):=⟨fun x=>x.1.ok,fun x=>[x.1.v,.int .i64 x.2],fun x=>.tup [.int .i64 (if x.1.may then x.2 else 0),.int .i64 (if x.1.may then 0 else 8)],fun x y _ _ h=>by
 obtain ⟨c,n⟩:=x
 obtain ⟨c',n'⟩:=y
 have h1:=Cfg.injv (List.cons.inj h).1
 have h2:=(AV.int.inj (List.cons.inj (List.cons.inj h).2).1).2
 dsimp only at h1 h2
 subst h1 h2;rfl⟩
theorem toldF_ok (hE:EM P e) (h78:Con e 133 cfgF.O):OvOk P 102 toldF.O:=by
 refine Fam.ok_of g102.b ?_
 rintro ⟨x,n⟩ hx
 refine ⟨rfl,rfl,C.of_G hE g102 ?_⟩
 by_cases hM:x.may
 ·rw [show toldF.out (x,n)=.tup [.int .i64 n,.int .i64 0] by simp [toldF,hM]]
  show VW P e 0 (match a102 with|.mk c _=>c) (initT [x.v,.int .i64 n] 0 .lf) St0 none [] _
  conv=>whnf
  refine ESc.fam cfgF h78 x hx (u:=.int .i64 0) (by simp [cfgF,hM]) ?_;conv=>whnf
  repeat' (first|refine nq6 ?_ ?_|(intro _;first|omega|conv=>whnf))
  exact .plain _ rfl
 ·rw [show toldF.out (x,n)=.tup [.int .i64 0,.int .i64 8] by simp [toldF,hM]]
  show VW P e 0 (match a102 with|.mk c _=>c) (initT [x.v,.int .i64 n] 0 .lf) St0 none [] _
  conv=>whnf
  refine ESc.fam cfgF h78 x hx (u:=.int .i64 8) (by simp [cfgF,hM]) ?_;conv=>whnf
  repeat' (first|refine nq6 ?_ ?_|(intro _;first|omega|conv=>whnf))
  exact .plain _ rfl
def stripesF:Fam Cfg:=⟨Cfg.ok,fun x=>[x.v],fun x=>.tup [.int .i64 (if x.may then x.chunk*x.rows else 0),.int .i64 (if x.may then 0 else 8)],fun x y _ _ h=>by rw [Cfg.injv (List.cons.inj h).1]⟩
theorem stripesF_ok (hE:EM P e) (h83:Con e 102 toldF.O):OvOk P 77 stripesF.O:=by
 refine Fam.ok_of g77.b ?_
 intro x hx
 refine ⟨rfl,rfl,C.of_G hE g77 ?_⟩
 by_cases hM:x.may
 ·rw [show stripesF.out x=.tup [.int .i64 (x.chunk*x.rows),.int .i64 0] by simp [stripesF,hM]]
  have hM':=hM
  unfold Cfg.may at hM'
  have hl:=Cfg.may_log hM
  obtain ⟨id,members,chunk,rows,log,heads⟩:=x
  dsimp only at hM' hl ⊢
  show VW P e 0 (match a77 with|.mk c _=>c) (initT [AV.agg [.int .u32 id,.int .i64 members,.int .i64 chunk,.int .i64 rows,.int .i64 log,.int .i64 heads]] 0 .lf) St0 none [] _
  conv=>whnf
  repeat' (first|(refine EPrim.mulS rfl rfl (mul_small (by omega) (by omega)) ?_;conv=>whnf)|fail)
  refine ESc.fam toldF h83 (⟨id,members,chunk,rows,log,heads⟩,_) hx (u:=.tup [_,.int .i64 0]) (by simp only [toldF,if_pos hM];rfl) ?_;conv=>whnf
  exact .plain _ rfl
 ·rw [show stripesF.out x=.tup [.int .i64 0,.int .i64 8] by simp [stripesF,hM]]
  obtain ⟨id,members,chunk,rows,log,heads⟩:=x
  show VW P e 0 (match a77 with|.mk c _=>c) (initT [AV.agg [.int .u32 id,.int .i64 members,.int .i64 chunk,.int .i64 rows,.int .i64 log,.int .i64 heads]] 0 .lf) St0 none [] _
  conv=>whnf
  repeat' (first|((first|refine EPrim.mul rfl rfl ?_|refine EPrim.add (q:=.i64) rfl rfl ?_);conv=>whnf)|fail)
  refine ESc.fam toldF h83 (⟨id,members,chunk,rows,log,heads⟩,_) hx (u:=.tup [.int .i64 0,.int .i64 8]) (by simp only [toldF,if_neg hM]) ?_;conv=>whnf
  exact .plain _ rfl
def needF:Fam Cfg:=⟨Cfg.ok,fun x=>[x.v],fun x=>.tup [.int .i64 (if x.may then x.members+1 else 0),.int .i64 (if x.may then 0 else 8)],fun x y _ _ h=>by rw [Cfg.injv (List.cons.inj h).1]⟩
theorem needF_ok (hE:EM P e) (h83:Con e 102 toldF.O):OvOk P 273 needF.O:=by
 refine Fam.ok_of g273.b ?_
 intro x hx
 refine ⟨rfl,rfl,C.of_G hE g273 ?_⟩
 by_cases hM:x.may
 ·rw [show needF.out x=.tup [.int .i64 (x.members+1),.int .i64 0] by simp [needF,hM]]
  have hM':=hM
  unfold Cfg.may at hM'
  have hl:=Cfg.may_log hM
  obtain ⟨id,members,chunk,rows,log,heads⟩:=x
  dsimp only at hM' hl ⊢
  show VW P e 0 (match a273 with|.mk c _=>c) (initT [AV.agg [.int .u32 id,.int .i64 members,.int .i64 chunk,.int .i64 rows,.int .i64 log,.int .i64 heads]] 0 .lf) St0 none [] _
  conv=>whnf
  repeat' (first|(refine nq7 ?_;conv=>whnf)|fail)
  refine ESc.fam toldF h83 (⟨id,members,chunk,rows,log,heads⟩,_) hx (u:=.tup [_,.int .i64 0]) (by simp only [toldF,if_pos hM];rfl) ?_;conv=>whnf
  exact .plain _ rfl
 ·rw [show needF.out x=.tup [.int .i64 0,.int .i64 8] by simp [needF,hM]]
  obtain ⟨id,members,chunk,rows,log,heads⟩:=x
  show VW P e 0 (match a273 with|.mk c _=>c) (initT [AV.agg [.int .u32 id,.int .i64 members,.int .i64 chunk,.int .i64 rows,.int .i64 log,.int .i64 heads]] 0 .lf) St0 none [] _
  conv=>whnf
  repeat' (first|((first|refine EPrim.mul rfl rfl ?_|refine EPrim.add (q:=.i64) rfl rfl ?_);conv=>whnf)|fail)
  refine ESc.fam toldF h83 (⟨id,members,chunk,rows,log,heads⟩,_) hx (u:=.tup [.int .i64 0,.int .i64 8]) (by simp only [toldF,if_neg hM]) ?_;conv=>whnf
  exact .plain _ rfl
def journalF:Fam Cfg:=⟨Cfg.ok,fun x=>[x.v],fun x=>.tup [.int .i64 (if x.may then x.log+1 else 0),.int .i64 (if x.may then 0 else 8)],fun x y _ _ h=>by rw [Cfg.injv (List.cons.inj h).1]⟩
theorem journalF_ok (hE:EM P e) (h83:Con e 102 toldF.O):OvOk P 41 journalF.O:=by
 refine Fam.ok_of g41.b ?_
 intro x hx
 refine ⟨rfl,rfl,C.of_G hE g41 ?_⟩
 by_cases hM:x.may
 ·rw [show journalF.out x=.tup [.int .i64 (x.log+1),.int .i64 0] by simp [journalF,hM]]
  have hM':=hM
  unfold Cfg.may at hM'
  have hl:=Cfg.may_log hM
  obtain ⟨id,members,chunk,rows,log,heads⟩:=x
  dsimp only at hM' hl ⊢
  show VW P e 0 (match a41 with|.mk c _=>c) (initT [AV.agg [.int .u32 id,.int .i64 members,.int .i64 chunk,.int .i64 rows,.int .i64 log,.int .i64 heads]] 0 .lf) St0 none [] _
  conv=>whnf
  repeat' (first|(refine nq7 ?_;conv=>whnf)|fail)
  refine ESc.fam toldF h83 (⟨id,members,chunk,rows,log,heads⟩,_) hx (u:=.tup [_,.int .i64 0]) (by simp only [toldF,if_pos hM];rfl) ?_;conv=>whnf
  exact .plain _ rfl
 ·rw [show journalF.out x=.tup [.int .i64 0,.int .i64 8] by simp [journalF,hM]]
  obtain ⟨id,members,chunk,rows,log,heads⟩:=x
  show VW P e 0 (match a41 with|.mk c _=>c) (initT [AV.agg [.int .u32 id,.int .i64 members,.int .i64 chunk,.int .i64 rows,.int .i64 log,.int .i64 heads]] 0 .lf) St0 none [] _
  conv=>whnf
  repeat' (first|((first|refine EPrim.mul rfl rfl ?_|refine EPrim.add (q:=.i64) rfl rfl ?_);conv=>whnf)|fail)
  refine ESc.fam toldF h83 (⟨id,members,chunk,rows,log,heads⟩,_) hx (u:=.tup [.int .i64 0,.int .i64 8]) (by simp only [toldF,if_neg hM]) ?_;conv=>whnf
  exact .plain _ rfl
structure Lv where
 seq:Int
 stripe:Int
 blocks:Int
 par:Bool
 sure:Bool
 home:Bool
def Lv.c (x:Lv):List AV:=[.int .u32 x.seq,.int .i64 x.stripe,.int .i64 x.blocks,.bool x.par,.bool x.sure,.bool x.home]
structure Lv.ok (x:Lv):Prop where
 seq:u32B x.seq
 stripe:i64B x.stripe
 blocks:i64B x.blocks
def lvs (L:List Lv):List AV:=L.flatMap Lv.c
theorem lvs_cons (x:Lv) (L:List Lv):lvs (x::L)=x.c++lvs L:=rfl
theorem lvs_length:∀ (L:List Lv),(lvs L).length=L.length*6
 | []=>rfl
 | x::L=>by rw [lvs_cons,List.length_append,lvs_length L,List.length_cons];show 6+_=_;omega
theorem lvs_drop:∀ (L:List Lv) (i:Nat),(lvs L).drop (i*6)=lvs (L.drop i)
 | L,0=>by simp
 | [],i+1=>by simp [lvs]
 | x::L,i+1=>by
  rw [List.drop_succ_cons,← lvs_drop L i,lvs_cons,show (i+1)*6=x.c.length+i*6 by show (i+1)*6=6+i*6;omega,List.drop_append,List.drop_eq_nil_of_le (by omega),List.nil_append]
  congr 1;omega
variable {L:List Lv}
theorem lvs_take {i:Nat}(h:i<L.length):takeL 6 ((lvs L).drop (i*6))=some L[i].c:=by
 rw [lvs_drop,List.drop_eq_getElem_cons h,lvs_cons];rfl
theorem lvs_inj:∀ {L M:List Lv},lvs L=lvs M->L=M
 | [],[],_=>rfl
 | [],y::M,h=>by cases h
 | x::L,[],h=>by cases h
 | x::L,y::M,h=>by
  obtain ⟨a,b,c,d,e,f⟩:=x
  obtain ⟨a',b',c',d',e',f'⟩:=y
  rw [lvs_cons,lvs_cons] at h
  simp [Lv.c] at h
  obtain ⟨rfl,rfl,rfl,rfl,rfl,rfl,h⟩:=h
  rw [lvs_inj h]
structure Log where
 age:Int
 seq:Int
 tail:Int
 used:Int
 live:List Lv
structure Log.ok (l:Log):Prop where
 age:u32B l.age
 seq:u32B l.seq
 tail:i64B l.tail
 used:i64B l.used
 live:∀ x ∈ l.live,x.ok
 len:l.live.length≤1000
def Log.c (l:Log) (v:AV):List AV:=[.int .u32 l.age,.int .u32 l.seq,.int .i64 l.tail,.int .i64 l.used,v]
def LSl (L:List Lv) (v:AV):Prop:=Sl 6 L.length (lvs L) v
theorem LSl.inj {M:List Lv}{v:AV}(h:LSl L v) (k:LSl M v):L=M:=by
 refine lvs_inj ?_
 rcases h with ⟨rfl,_,h⟩|⟨rfl,_,h⟩|⟨c,rfl,h⟩
 ·rcases k with ⟨_,_,k⟩|⟨e,_⟩|⟨c,e,_⟩
  ·rw [h,k]
  ·cases e
  ·cases e
 ·rcases k with ⟨e,_⟩|⟨_,_,k⟩|⟨c,e,_⟩
  ·cases e
  ·rw [h,k]
  ·cases e
 ·rcases k with ⟨e,_⟩|⟨e,_⟩|⟨c,e,_⟩
  ·cases e
  ·cases e
  ·injection e with _ _ e
structure Ring where
 l:Log
 c:Cfg
structure Ring.ok (r:Ring):Prop where
 l:r.l.ok
 c:r.c.ok
def Ring.cs (r:Ring) (v:AV):List AV:=r.l.c v++r.c.c
def KM (c:AV) (es:List (AV×AV×Nat)) (ks:List Int):Prop:=es.map (fun e=>(e.1,e.2.1))=ks.map (fun k=>(AV.int .i64 k,c))
theorem KM.nil (c:AV):KM c [] []:=rfl
theorem KM.cons {c:AV}{e:AV×AV×Nat}{es:List (AV×AV×Nat)}{ks:List Int}(h:KM c (e::es) ks):∃ k l,ks=k::l∧e.1=.int .i64 k∧e.2.1=c∧KM c es l:=by
 cases ks with
 | nil=>cases h
 | cons k l=>
  unfold KM at h
  simp at h
  exact ⟨k,l,rfl,h.1.1,h.1.2,h.2⟩
theorem KM.length {c:AV}:∀ {es:List (AV×AV×Nat)}{ks:List Int},KM c es ks->es.length=ks.length:=fun h=>by
 have:=congrArg List.length h;simpa using this
theorem eqKey_int (a b:Int):eqKey (.int .i64 a) (.int .i64 b)=some (a == b):=by
 show cond (eqK .i64 .i64) (some (eqI a b)) none=_
 rw [eqI_eq];rfl
theorem KM.find {c:AV}{k:Int}:∀ {es:List (AV×AV×Nat)}{ks:List Int},KM c es ks->findK (.int .i64 k) es=some (if k ∈ ks then some c else none)
 | [],ks,h=>by
  have:=h.length;simp at this
  have:ks=[]:=List.length_eq_zero_iff.1 this.symm
  subst this;rfl
 | (a,b,n)::es,ks,h=>by
  obtain ⟨k',l,rfl,e1,e2,h'⟩:=h.cons
  dsimp only at e1 e2
  subst e1 e2
  show (match eqKey (.int .i64 k) (.int .i64 k') with|some true=>some (some b)|some false=>findK (.int .i64 k) es|none=>none)=_
  rw [eqKey_int]
  by_cases hk:k=k'
  ·subst hk;simp
  ·rw [show (k == k')=false by simpa using hk]
   simp only
   rw [KM.find h'];simp [hk]
theorem KM.set {c:AV}{k:Int}:∀ {es:List (AV×AV×Nat)}{ks:List Int},KM c es ks->KM c (setK (.int .i64 k) c es) ks
 | [],ks,h=>h
 | (a,b,n)::es,ks,h=>by
  obtain ⟨k',l,rfl,e1,e2,h'⟩:=h.cons
  dsimp only at e1 e2
  subst e1 e2
  show KM b (match eqKey (.int .i64 k) (.int .i64 k') with|some true=>(.int .i64 k,b,n)::es|_=>(.int .i64 k',b,n)::setK (.int .i64 k) b es) _
  rw [eqKey_int]
  by_cases hk:k=k'
  ·subst hk;simp;exact h
  ·rw [show (k == k')=false by simpa using hk]
   simp only
   have:=KM.set (k:=k) h'
   unfold KM at this ⊢
   simp [this]
theorem KM.app {c:AV}{k:Int}{n:Nat}{es:List (AV×AV×Nat)}{ks:List Int}(h:KM c es ks):KM c (es++[(.int .i64 k,c,n)]) (ks++[k]):=by
 unfold KM at h ⊢;simp [h]
theorem KM.del {c:AV}{k:Int}:∀ {es:List (AV×AV×Nat)}{ks:List Int},KM c es ks->KM c (delK (.int .i64 k) es) (ks.erase k)
 | [],ks,h=>by
  have:=h.length;simp at this
  have:ks=[]:=List.length_eq_zero_iff.1 this.symm
  subst this;exact KM.nil c
 | (a,b,n)::es,ks,h=>by
  obtain ⟨k',l,rfl,e1,e2,h'⟩:=h.cons
  dsimp only at e1 e2
  subst e1 e2
  show KM b (match eqKey (.int .i64 k) (.int .i64 k') with|some true=>es|_=>(.int .i64 k',b,n)::delK (.int .i64 k) es) _
  rw [eqKey_int,List.erase_cons]
  by_cases hk:k=k'
  ·subst hk;simp;exact h'
  ·rw [show (k == k')=false by simpa using hk,show (k' == k)=false by simpa using fun e=>hk e.symm]
   simp only
   have:=KM.del (k:=k) h'
   unfold KM at this ⊢
   simp [this]
def dAdd (k:Int) (l:List Int):List Int:=if k ∈ l then l else l++[k]
section
variable {t:AT}{s:St}{q:AV->St->Prop}{x y z:AO}
variable {c:AV}{r n:Nat}{k:Int}{es:List (AV×AV×Nat)}{ks:List Int}
theorem EPrim.msetK (hx:ev x t=.some (.map r)) (hy:ev y t=.some (.int .i64 k)) (hz:ev z t=.some c) (hs:s.get r=some (.map es n)) (hk:KM c es ks)
 (h:∀ es' n',KM c es' (dAdd k ks)->q (.tup []) (s.put r (.map es' n'))):EPrim (.mset x y z) t s q:=by
 by_cases hm:k ∈ ks
 ·refine EPrim.mk (v:=.tup []) (s':=s.put r (.map (setK (.int .i64 k) c es) n)) (fun e rec=>?_) (h _ _ (by unfold dAdd;rw [if_pos hm];exact hk.set))
  show wth x t _=_;unfold wth;rw [hx]
  show wth y t _=_;unfold wth;rw [hy]
  show wth z t _=_;unfold wth;rw [hz]
  show (Option.rec .fail _ (mapAt r s):RV)=_
  unfold mapAt;rw [hs]
  show (Option.rec .fail _ (findK (.int .i64 k) es):RV)=_
  rw [hk.find,if_pos hm]
 ·refine EPrim.mk (v:=.tup []) (s':=s.put r (.map (es++[(.int .i64 k,c,n)]) (n+1))) (fun e rec=>?_) (h _ _ (by unfold dAdd;rw [if_neg hm];exact hk.app))
  show wth x t _=_;unfold wth;rw [hx]
  show wth y t _=_;unfold wth;rw [hy]
  show wth z t _=_;unfold wth;rw [hz]
  show (Option.rec .fail _ (mapAt r s):RV)=_
  unfold mapAt;rw [hs]
  show (Option.rec .fail _ (findK (.int .i64 k) es):RV)=_
  rw [hk.find,if_neg hm]
  show RV.ok _ (s.put r (.map (appL es [(.int .i64 k,c,n)]) (n+1)))=_
  rw [appL_eq]
theorem EPrim.mdelK (hx:ev x t=.some (.map r)) (hy:ev y t=.some (.int .i64 k)) (hs:s.get r=some (.map es n)) (hk:KM c es ks)
 (h:∀ es' n',KM c es' (ks.erase k)->q (.tup []) (s.put r (.map es' n'))):EPrim (.mdel x y) t s q:=by
 refine EPrim.mk (v:=.tup []) (s':=s.put r (.map (delK (.int .i64 k) es) n)) (fun e rec=>?_) (h _ _ hk.del)
 show wth x t _=_;unfold wth;rw [hx]
 show wth y t _=_;unfold wth;rw [hy]
 show (Option.rec .fail _ (mapAt r s):RV)=_
 unfold mapAt;rw [hs]
 show (Option.rec .fail _ (findK (.int .i64 k) es):RV)=_
 rw [hk.find]
theorem EPrim.mgetK {zv:AV}(hx:ev x t=.some (.map r)) (hy:ev y t=.some (.int .i64 k)) (hs:s.get r=some (.map es n)) (hk:KM c es ks)
 (h1:k ∈ ks->q c s) (h2:k ∉ ks->q zv s):EPrim (.mget zv false x y) t s q:=by
 by_cases hm:k ∈ ks
 ·refine EPrim.mk (v:=c) (s':=s) (fun e rec=>?_) (h1 hm)
  show wth x t _=_;unfold wth;rw [hx]
  show wth y t _=_;unfold wth;rw [hy]
  show (Option.rec .fail _ (mapAt r s):RV)=_
  unfold mapAt;rw [hs]
  show (Option.rec .fail _ (findK (.int .i64 k) es):RV)=_
  rw [hk.find,if_pos hm];rfl
 ·refine EPrim.mk (v:=zv) (s':=s) (fun e rec=>?_) (h2 hm)
  show wth x t _=_;unfold wth;rw [hx]
  show wth y t _=_;unfold wth;rw [hy]
  show (Option.rec .fail _ (mapAt r s):RV)=_
  unfold mapAt;rw [hs]
  show (Option.rec .fail _ (findK (.int .i64 k) es):RV)=_
  rw [hk.find,if_neg hm];rfl
theorem EPrim.lenmK (hx:ev x t=.some (.map r)) (hs:s.get r=some (.map es n)) (hk:KM c es ks)
 (h:q (.int .i64 (ks.length:Int)) s):EPrim (.lenm x) t s q:=by
 refine EPrim.mk (v:=.int .i64 (ks.length:Int)) (s':=s) (fun e rec=>?_) h
 show wth x t _=_;unfold wth;rw [hx]
 show (Option.rec .fail _ (mapAt r s):RV)=_
 unfold mapAt;rw [hs]
 show RV.ok (intN (lenL es)) s=_
 rw [lenL_eq,hk.length];rfl
end
theorem bdE_KM {c:AV}{n:Nat}(hc:bd n c=true):∀ {es:List (AV×AV×Nat)}{ks:List Int},KM c es ks->bdE n es=true
 | [],ks,h=>rfl
 | (a,b,m)::es,ks,h=>by
  obtain ⟨k',l,rfl,e1,e2,h'⟩:=h.cons
  dsimp only at e1 e2
  subst e1 e2
  show (true && bd n b && bdE n es)=true
  rw [hc,bdE_KM hc h'];rfl
theorem mapE_KM {c:AV}{ρ:Nat->Nat}(hc:mapV ρ c=c):∀ {es:List (AV×AV×Nat)}{ks:List Int},KM c es ks->mapE ρ es=es
 | [],ks,h=>rfl
 | (a,b,m)::es,ks,h=>by
  obtain ⟨k',l,rfl,e1,e2,h'⟩:=h.cons
  dsimp only at e1 e2
  subst e1 e2
  show (AV.int .i64 k',mapV ρ b,m)::mapE ρ es=_
  rw [mapE_KM hc h',hc]
def dStep (l:List Int) (x:Lv):List Int:=if x.par then (dAdd x.stripe l).erase x.stripe else dAdd x.stripe l
def dirtyL (L:List Lv):List Int:=L.foldl dStep []
def code125:AC:=match a274 with|.mk c _=>c
variable {l cs:List AV}
theorem ETake.eq {n:Nat}{k:List AV->Prop}(h:takeL n l=some cs) (hk:k cs):ETake n l k:=by
 unfold ETake;exact ⟨cs,h,hk⟩
theorem dirty_run (e:Env) (hE:EM P e) (r:Ring) (hr:r.ok) (v:AV) (hv:LSl r.l.live v) (Q:AV->St->Prop) (k:∀ s,Q (.int .i64 ((dirtyL r.l.live).length:Int)) s):
 VW P e 0 code125 (initT [.fp (r.cs v)] 0 .lf) St0 none [] (EEnd [.tmp 2] Q):=by
 obtain ⟨L,hL⟩:∃ L,L=r.l.live:=⟨_,rfl⟩
 rw [← hL] at hv k
 have hlen:L.length≤1000:=by rw [hL];exact hr.l.len
 conv=>whnf
 refine nq22 ?_;conv=>whnf
 refine nq21 hv ?_;conv=>whnf
 refine W.loopS (α:=Nat×List (AV×AV×Nat)×Nat) (fun x=>[(3,.map 0),(11,v),(12,.int .i64 (L.length:Int)),(13,.int .i64 (x.1:Int))]) (fun x=>[.map x.2.1 x.2.2]) (fun x=>L.length-x.1)
  (fun x=>x.1≤L.length∧KM (.bool true) x.2.1 (dirtyL (L.take x.1))) (0,[],0) [0] ⟨Nat.zero_le _,KM.nil _⟩ ⟨by decide,⟨r9,t9 hv.hf,r9,r9,trivial⟩,⟨r9,trivial⟩⟩ ?_
 rintro ⟨i,es,n⟩ ⟨hi,hK⟩
 dsimp only at hi hK ⊢
 refine vs_sound hE ?_;conv=>whnf
 refine EPrim.lss2 rfl rfl (fun h=>?_) (fun h=>?_) <;> conv=>whnf
 ·have hlt:i<L.length:=by omega
  refine EPrim.ixsS rfl hv rfl hlt ?_;conv=>whnf
  refine ETake.eq (lvs_take hlt) ?_
  have hst:dirtyL (L.take (i+1))=dStep (dirtyL (L.take i)) L[i]:=by
   rw [List.take_succ_eq_append_getElem hlt];unfold dirtyL;rw [List.foldl_append];rfl
  revert hst
  generalize L[i]=x
  obtain ⟨sq,st,bl,pa,su,ho⟩:=x
  intro hst
  have fin:∀ t s es' n',KM (.bool true) es' (dirtyL (L.take (i+1)))->t.get 3=some (.map 0)->t.get 11=some v->t.get 12=some (.int .i64 (L.length:Int))->t.get 13=some (.int .i64 ((i:Int)+1))->s.get 0=some (.map es' n')->
   ([]:List Nat)=[]∧∃ x':Nat×List (AV×AV×Nat)×Nat,(x'.1≤L.length∧KM (.bool true) x'.2.1 (dirtyL (L.take x'.1)))∧L.length-x'.1<L.length-i∧∃ rs,Abs t s [(3,.map 0),(11,v),(12,.int .i64 (L.length:Int)),(13,.int .i64 (x'.1:Int))] [.map x'.2.1 x'.2.2] rs:=by
   intro t s es' n' hK h3 h11 h12 h13 g0
   refine ⟨rfl,(i+1,es',n'),⟨hlt,hK⟩,by simp;omega,[0],⟨by decide,⟨⟨rfl,h3⟩,⟨hf_bd _ hv.hf,by rw [hf_mapV _ hv.hf];exact h11⟩,⟨rfl,h12⟩,⟨rfl,h13⟩,trivial⟩,⟨⟨bdE_KM rfl hK,?_⟩,trivial⟩⟩⟩
   show _=some (AObj.map (mapE _ es') n');rw [mapE_KM rfl hK];exact g0
  conv=>whnf
  refine EPrim.msetK rfl rfl rfl rfl hK (fun es' n' hK'=>?_)
  cases pa with
  | true=>
   conv=>whnf
   refine EPrim.mdelK rfl rfl rfl hK' (fun es'' n'' hK''=>?_);conv=>whnf
   repeat' (first|((first|refine nq7 ?_|refine ⟨rfl,?_⟩);conv=>whnf)|fail)
   refine (fin _ _ es'' n'' (by rw [hst];exact hK'') ?_ ?_ ?_ ?_ ?_).2 <;> rfl
  | false=>
   conv=>whnf
   repeat' (first|((first|refine nq7 ?_|refine ⟨rfl,?_⟩);conv=>whnf)|fail)
   refine (fin _ _ es' n' (by rw [hst];exact hK') ?_ ?_ ?_ ?_ ?_).2 <;> rfl
 ·have:L.take i=L:=List.take_of_length_le (by omega)
  rw [this] at hK
  refine EPrim.lenmK rfl rfl hK ?_;conv=>whnf
  exact k _
structure RAt (s:St) (a:AV) (r:Ring) (v:AV):Prop where
 frz:Frz s a (.fp (r.cs v))
 sl:LSl r.l.live v
 ok:r.ok
def atom:AV->Bool
 | .int ..=>true
 | .bool _=>true
 | _=>false
variable {s:St}{x u:AV}
theorem Frz.atom (h:Frz s x u) (ha:atom u=true):x=u:=by
 cases h with
 | plain _ _=>rfl
 | sl _ _ _ _ _ _ _ _ _=>cases ha
 | ptr _ _ _ _ _ _=>cases ha
 | agg _ _ _=>cases ha
 | tup _ _ _=>cases ha
 | fn _ _ _ _ _ _ _=>cases ha
theorem Frz.atoms {s:St}:∀ {l us:List AV},All2 (Frz s) l us->(∀ u ∈ us,AM.atom u=true)->l=us
 | _,_,.nil,_=>rfl
 | _,_,.cons a b,h=>by rw [a.atom (h _ (by simp)),Frz.atoms b (fun u hu=>h u (by simp [hu]))]
theorem Frz.of_hf (h:Frz s x u) (hx:AM.hf x=true):(∀ l,x≠.agg l)->(∀ l,x≠.tup l)->(∀ f a b,x≠.fn f a b)->u=x:=by
 cases h with
 | plain _ _=>intros;rfl
 | sl _ _ _ _ _ _ _ _ _=>cases hx
 | ptr _ _ _ _ _ _=>cases hx
 | agg l _ _=>intro h;exact absurd rfl (h l)
 | tup l _ _=>intro _ h;exact absurd rfl (h l)
 | fn f a b _ _ _ _=>intro _ _ h;exact absurd rfl (h f a b)
variable {L:List Lv}
theorem atom_lvs:∀ u ∈ lvs L,atom u=true:=by
 induction L with
 | nil=>intro u h;cases h
 | cons x L ih=>
  intro u h
  rcases List.mem_append.1 (show u ∈ x.c++lvs L from h) with h|h
  ·simp [Lv.c] at h
   rcases h with rfl|rfl|rfl|rfl|rfl|rfl <;> rfl
  ·exact ih u h
theorem row_same {l':List AV}{o:Nat}(h:∀ (i:Nat) x,l[i]?=some x->cs[o+i]?=some x) (h':∀ (i:Nat) x,l'[i]?=some x->cs[o+i]?=some x) (hl:l.length=l'.length):l=l':=by
 refine List.ext_getElem? fun i=>?_
 by_cases hi:i<l.length
 ·have h1:=h i _ (List.getElem?_eq_getElem hi)
  have h2:=h' i _ (List.getElem?_eq_getElem (l:=l') (i:=i) (by omega))
  rw [List.getElem?_eq_getElem hi,List.getElem?_eq_getElem (l:=l') (i:=i) (by omega),← h1,← h2]
 ·rw [List.getElem?_eq_none (by omega),List.getElem?_eq_none (by omega)]
variable {v v':AV}
theorem Frz.live {L':List Lv}(h:Frz s x v) (h':Frz s x v') (hv:LSl L v) (hv':LSl L' v'):L=L':=by
 rcases hv with ⟨rfl,e1,e2⟩|⟨rfl,e1,e2⟩|⟨c,rfl,e2⟩
 ·have hx:x=.nils:=by cases h;rfl
  subst hx
  have:=h'.of_hf rfl (by simp) (by simp) (by simp)
  subst this
  exact LSl.inj (.inl ⟨rfl,e1,e2⟩) hv'
 ·have hx:x=.es:=by cases h;rfl
  subst hx
  have:=h'.of_hf rfl (by simp) (by simp) (by simp)
  subst this
  exact LSl.inj (.inr (.inl ⟨rfl,e1,e2⟩)) hv'
 ·cases h with
  | plain _ hh=>
   have:=h'.of_hf rfl (by simp) (by simp) (by simp)
   subst this
   exact LSl.inj (.inr (.inr ⟨c,rfl,e2⟩)) hv'
  | sl r o n cap cap' e cs l us h1 h2 h3 h4=>
   have hl1:=Frz.atoms h3 atom_lvs
   cases h' with
   | plain _ hh=>cases hh
   | sl _ _ _ _ cap2 e2' cs2 l2 us2 g1 g2 g3 g4=>
    rw [h1] at g1;cases g1
    rcases hv' with ⟨q,_⟩|⟨q,_⟩|⟨c2,q,q2⟩
    ·cases q
    ·cases q
    ·injection q with q0 _ q3
     subst q3
     have hl2:=Frz.atoms g3 atom_lvs
     rw [hl1] at h2;rw [hl2] at g2
     refine lvs_inj (row_same h2 g2 ?_)
     rw [lvs_length,lvs_length,q0]
theorem frz_self:∀ {l:List AV},hfs l=true->All2 (Frz s) l l
 | [],_=>.nil
 | x::l,h=>by
  simp only [hfs,Bool.and_eq_true] at h
  exact .cons (.plain _ h.1) (frz_self h.2)
theorem hfs_ring (r:Ring) (h:LSl r.l.live v):hfs (r.cs v)=true:=by
 show (true && (true && (true && (true && (AM.hf v && (true && (true && (true && (true && (true && (true && true)))))))))))=true
 rw [h.hf];rfl
theorem RAt.inj {a:AV}{r r':Ring}(h:RAt s a r v) (h':RAt s a r' v'):r=r':=by
 have key:∀ (l:List AV),All2 (Frz s) l (r.cs v)->All2 (Frz s) l (r'.cs v')->r=r':=by
  intro l g g'
  obtain ⟨⟨ag,sq,tl,us,lv⟩,⟨i1,i2,i3,i4,i5,i6⟩⟩:=r
  obtain ⟨⟨ag',sq',tl',us',lv'⟩,⟨j1,j2,j3,j4,j5,j6⟩⟩:=r'
  cases g with|cons a1 g=>cases g with|cons a2 g=>cases g with|cons a3 g=>cases g with|cons a4 g=>cases g with|cons a5 g=>cases g with|cons a6 g=>cases g with|cons a7 g=>cases g with|cons a8 g=>cases g with|cons a9 g=>cases g with|cons a10 g=>cases g with|cons a11 g=>
  cases g' with|cons b1 g'=>cases g' with|cons b2 g'=>cases g' with|cons b3 g'=>cases g' with|cons b4 g'=>cases g' with|cons b5 g'=>cases g' with|cons b6 g'=>cases g' with|cons b7 g'=>cases g' with|cons b8 g'=>cases g' with|cons b9 g'=>cases g' with|cons b10 g'=>cases g' with|cons b11 g'=>
  have c1:=(a1.atom rfl).symm.trans (b1.atom rfl)
  have c2:=(a2.atom rfl).symm.trans (b2.atom rfl)
  have c3:=(a3.atom rfl).symm.trans (b3.atom rfl)
  have c4:=(a4.atom rfl).symm.trans (b4.atom rfl)
  have c5:=a5.live b5 h.sl h'.sl
  have c6:=(a6.atom rfl).symm.trans (b6.atom rfl)
  have c7:=(a7.atom rfl).symm.trans (b7.atom rfl)
  have c8:=(a8.atom rfl).symm.trans (b8.atom rfl)
  have c9:=(a9.atom rfl).symm.trans (b9.atom rfl)
  have c10:=(a10.atom rfl).symm.trans (b10.atom rfl)
  have c11:=(a11.atom rfl).symm.trans (b11.atom rfl)
  injection c1 with _ c1;injection c2 with _ c2;injection c3 with _ c3;injection c4 with _ c4;injection c6 with _ c6;injection c7 with _ c7;injection c8 with _ c8;injection c9 with _ c9;injection c10 with _ c10;injection c11 with _ c11
  dsimp only at c1 c2 c3 c4 c5 c6 c7 c8 c9 c10 c11
  subst c1 c2 c3 c4 c5 c6 c7 c8 c9 c10 c11;rfl
 have hf1:=h.frz
 have hf2:=h'.frz
 generalize hu:r.cs v=us at hf1
 generalize hu':r'.cs v'=us' at hf2
 cases hf1 with
 | plain _ hh=>
  have:=hf2.of_hf rfl (by simp) (by simp) (by simp)
  injection this with this
  subst this
  have H:=hfs_ring r h.sl
  refine key (r.cs v) (frz_self H) ?_
  rw [hu',← hu]
  exact frz_self H
 | ptr q o e cs l us h1 h2 h3=>
  cases hf2 with
  | ptr _ _ e2 cs2 l2 us2 g1 g2 g3=>
   rw [h1] at g1;cases g1
   subst hu hu'
   have:l=l2:=row_same h2 g2 (by rw [h3.length,g3.length];rfl)
   subst this
   exact key l h3 g3
mutual
theorem sc_hf:∀ (v:AV),sc v=true->AM.hf v=true
 | .ptr ..,h=>by cases h
 | .sl ..,h=>by cases h
 | .map ..,h=>by cases h
 | .yld ..,h=>by cases h
 | .fz ..,h=>by cases h
 | .fp ..,h=>by cases h
 | .fn f a b,h=>by
  simp only [sc,Bool.and_eq_true] at h
  simp only [AM.hf,Bool.and_eq_true]
  exact ⟨scs_hfs a h.1,scs_hfs b h.2⟩
 | .iface t v,h=>sc_hf v h
 | .agg l,h=>scs_hfs l h
 | .tup l,h=>scs_hfs l h
 | .bool _,_|.int _ _,_|.str _,_|.nilp,_|.nils,_|.es,_|.ez,_|.nilm,_|.nilf,_|.nili,_|.any,_=>rfl
theorem scs_hfs:∀ (l:List AV),scs l=true->AM.hfs l=true
 | [],_=>rfl
 | v::l,h=>by
  simp only [scs,Bool.and_eq_true] at h
  simp only [AM.hfs,Bool.and_eq_true]
  exact ⟨sc_hf v h.1,scs_hfs l h.2⟩
end
noncomputable def ringO (p:Ring->Prop) (g:Ring->AV):Ov:=fun args s=>open Classical in if h:∃ r a v,args=[a]∧RAt s a r v∧p r then .ok (g (Classical.choose h)) s else .fail
variable {p:Ring->Prop}{g:Ring->AV}{v:AV}{s:St}{r:Ring}
theorem ringO_run {a:AV}(h:RAt s a r v) (hp:p r):ringO p g [a] s=.ok (g r) s:=by
 have hx:∃ r a' v,[a]=[a']∧RAt s a' r v∧p r:=⟨r,a,v,rfl,h,hp⟩
 unfold ringO
 rw [dif_pos hx]
 obtain ⟨a',v',e,h',_⟩:=Classical.choose_spec hx
 injection e with e
 subst e
 rw [RAt.inj h h']
theorem ringO_ok {f:Nat}(hb:HasBody P f) (hg:∀ r,sc (g r)=true) (h:∀ r v,r.ok->p r->LSl r.l.live v->C P f [.fp (r.cs v)] St0 (fun u s'=>u=g r)):OvOk P f (ringO p g):=by
 refine ⟨hb,fun args s u s' hh=>?_⟩
 unfold ringO at hh
 split at hh
 ·rename_i hx
  cases hh
  obtain ⟨a,v,rfl,hr,hp⟩:=Classical.choose_spec hx
  have H2:hfs [AV.fp (Ring.cs (Classical.choose hx) v)]=true:=rfl
  exact C.view (.cons hr.frz .nil) (hg _) (C.freeze H2 ((h _ v hr.ok hp hr.sl).mono fun u s' e=>by
   rw [e];exact Frz.plain _ (sc_hf _ (hg (Classical.choose hx)))))
 ·cases hh
theorem RAt.fp (hv:LSl r.l.live v) (hr:r.ok):RAt s (.fp (r.cs v)) r v:=⟨.plain _ rfl,hv,hr⟩
def hTake (tk:List Int) (x:Lv):List Int:=if x.home && x.par then dAdd x.stripe tk else tk
def hBad (tk:List Int) (x:Lv):Bool:=x.home && (!x.sure || !decide (x.stripe ∈ hTake tk x))
def homesG:List Lv->List Int->Bool
 | [],_=>true
 | x::l,tk=>!hBad tk x && homesG l (hTake tk x)
def homesB (L:List Lv):Bool:=homesG L.reverse []
def code123:AC:=match a293 with|.mk c _=>c
def rngIn:AC->Option (AC×AC)
 | .rng _ _ a b=>some (a,b)
 | .seq a b=>match rngIn a with|some x=>some x|none=>rngIn b
 | .block _ b=>rngIn b
 | .loop b=>rngIn b
 | _=>none
def asg123:AC:=match rngIn code123 with|some (a,_)=>a|none=>.skip
def body123:AC:=match rngIn code123 with|some (_,b)=>b|none=>.skip
noncomputable def tm123:AT:=ofL [(2,.ptr 0 0),(3,.ptr 2 0),(12,.fn 252 [] [.ptr 3 0])]
def code159:AC:=match a177 with|.mk c _=>c
theorem Sl.cells {es n:Nat}{l:List AV}(h:Sl es n l v):cellsOf v=[v]:=by
 rcases h with ⟨rfl,_⟩|⟨rfl,_⟩|⟨c,rfl,_⟩ <;> rfl
theorem homes_run (e:Env) (hE:EM P e) (h159:Inl e 177 code159 [.tmp 2]) (r:Ring) (hr:r.ok) (v:AV) (hv:LSl r.l.live v) (Q:AV->St->Prop) (k:∀ s,Q (.bool (homesB r.l.live)) s):
 VW P e 0 code123 (initT [.fp (r.cs v)] 0 .lf) St0 none [] (EEnd [.cell 2] Q):=by
 obtain ⟨L,hL⟩:∃ L,L=r.l.live:=⟨_,rfl⟩
 rw [← hL] at hv k
 have hlen:L.length≤1000:=by rw [hL];exact hr.l.len
 conv=>whnf
 refine nq22 ?_;conv=>whnf
 refine ESc.inl h159 ?_;conv=>whnf
 refine stuckB (by show Nat.beq (lenL (cellsOf v)) 1=true;rw [hv.cells];rfl) ?_
 rw [hv.cells]
 conv=>whnf
 refine W.abs [(2,.ptr 0 0),(3,.ptr 2 0),(12,.fn 252 [] [.ptr 3 0])] [.row 4 [.bool false],.map [] 0,.row 289 [.map 1],.row 40 [v]] [0,1,2,3] ⟨by decide,⟨r9,r9,r9,trivial⟩,⟨r9,r9,r9,⟨?_,?_⟩,trivial⟩⟩ ?_
 ·show (bd _ v && true)=true;rw [hf_bd _ hv.hf];rfl
 ·show _=some (AObj.row 40 [mapV _ v]);rw [hf_mapV _ hv.hf];rfl
 refine W.rngI (f:=252) (first:=[]) (cap:=[.ptr 3 0]) g252.b rfl ?_ ?_
 ·intro q hq
  have hq:q<4:=hq
  have n2:Named (ofL [(2,.ptr 0 0),(3,.ptr 2 0),(12,.fn 252 [] [.ptr 3 0])]) (allocs St0 [.row 4 [.bool false],.map [] 0,.row 289 [.map 1],.row 40 [v]]) 2:=.tmp 3 (.ptr 2 0) rfl rfl
  rcases q with _|_|_|_|q
  ·exact .tmp 2 (.ptr 0 0) rfl rfl
  ·exact .cell 2 289 [.map 1] 0 (.map 1) n2 rfl rfl rfl
  ·exact n2
  ·exact .tmp 12 (.fn 252 [] [.ptr 3 0]) rfl rfl
  ·omega
 show C1 P 252 [.yld 5,.ptr 3 0] (allocs St0 [.row 4 [.bool false],.map [] 0,.row 289 [.map 1],.row 40 [v],.defd,.loop .ready none 0 tm123 [13,14] asg123 body123 4]) (fun _ s'=>RngOut 5 [4] tm123 s' _)
 refine C1.of_G hE g252 ?_;conv=>whnf
 refine nq21 hv ?_;conv=>whnf
 repeat' (first|(refine nq8 ?_;conv=>whnf)|fail)
 refine W.loopK (α:=Nat×List Int×List (AV×AV×Nat)×Nat) (fun x=>[(0,.yld 5),(1,.ptr 3 0),(3,.int .i64 ((x.1:Int)-1))]) (fun x=>[.row 4 [.bool false],.map x.2.2.1 x.2.2.2,.row 289 [.map 1],.row 40 [v],.defd,.loop .ready none 0 tm123 [13,14] asg123 body123 4]) (fun x=>x.1)
  (fun x=>x.1≤L.length∧KM (.int .i64 1) x.2.2.1 x.2.1∧homesB L=homesG (L.take x.1).reverse x.2.1) (L.length,[],[],0) [0,1,2,3,4,5] ⟨Nat.le_refl _,KM.nil _,by rw [List.take_length];rfl⟩ ?_ ?_
 ·refine ⟨rfl,by decide,⟨r9,r9,r9,trivial⟩,⟨r9,r9,r9,⟨?_,?_⟩,r9,r9,trivial⟩⟩
  ·show (bd _ v && true)=true;rw [hf_bd _ hv.hf];rfl
  ·show _=some (AObj.row 40 [mapV _ v]);rw [hf_mapV _ hv.hf];rfl
 rintro ⟨j,tk,es,n⟩ ⟨hj,hK,hh⟩
 dsimp only at hj hK hh ⊢
 refine vs_sound hE ?_;conv=>whnf
 refine EPrim.geq2 rfl rfl (fun h=>?_) (fun h=>?_) <;> conv=>whnf
 ·obtain ⟨i,rfl⟩:∃ i,j=i+1:=⟨j-1,by omega⟩
  have hlt:i<L.length:=by omega
  rw [show ((i+1:Nat):Int)-1=(i:Int) by omega]
  refine EPrim.ixsS rfl hv rfl hlt ?_;conv=>whnf
  refine ETake.eq (lvs_take hlt) ?_
  have hst:homesB L=(!hBad tk L[i] && homesG (L.take i).reverse (hTake tk L[i])):=by
   rw [hh,List.take_succ_eq_append_getElem hlt,List.reverse_append];rfl
  revert hst
  generalize L[i]=x
  obtain ⟨sq,st,bl,pa,su,ho⟩:=x
  intro hst
  conv=>whnf
  refine ERound.mk ?_
  have fin:∀ t s tk' es' n',homesB L=homesG (L.take i).reverse tk'->KM (.int .i64 1) es' tk'->t.get 0=some (.yld 5)->t.get 1=some (.ptr 3 0)->t.get 3=some (.int .i64 ((i:Int)-1))->s.get 0=some (.row 4 [.bool false])->s.get 1=some (.map es' n')->s.get 2=some (.row 289 [.map 1])->s.get 3=some (.row 40 [v])->s.get 4=some .defd->s.get 5=some (.loop .ready none 0 tm123 [13,14] asg123 body123 4)->
   ∃ x':Nat×List Int×List (AV×AV×Nat)×Nat,(x'.1≤L.length∧KM (.int .i64 1) x'.2.2.1 x'.2.1∧homesB L=homesG (L.take x'.1).reverse x'.2.1)∧x'.1<i+1∧∃ rs,AbsK 6 t s [(0,.yld 5),(1,.ptr 3 0),(3,.int .i64 ((x'.1:Int)-1))] [.row 4 [.bool false],.map x'.2.2.1 x'.2.2.2,.row 289 [.map 1],.row 40 [v],.defd,.loop .ready none 0 tm123 [13,14] asg123 body123 4] rs:=by
   intro t s tk' es' n' hh hK h0 h1 h3 g0 g1 g2 g3 g4 g5
   refine ⟨(i,tk',es',n'),⟨by simp;omega,hK,hh⟩,by simp,[0,1,2,3,4,5],rfl,by decide,⟨⟨rfl,h0⟩,⟨rfl,h1⟩,⟨rfl,h3⟩,trivial⟩,⟨⟨rfl,g0⟩,⟨bdE_KM rfl hK,?_⟩,⟨rfl,g2⟩,⟨?_,?_⟩,⟨rfl,g4⟩,⟨rfl,g5⟩,trivial⟩⟩
   ·show _=some (AObj.map (mapE _ es') n');rw [mapE_KM rfl hK];exact g1
   ·show (bd _ v && true)=true;rw [hf_bd _ hv.hf];rfl
   ·show _=some (AObj.row 40 [mapV _ v]);rw [hf_mapV _ hv.hf];exact g3
  cases ho <;> cases pa <;> cases su
  all_goals
   conv=>whnf
   repeat' (first|(refine EPrim.mgetK rfl rfl rfl hK (fun hin=>?_) (fun hin=>?_) <;> conv=>whnf)|(refine EPrim.mgetK rfl rfl rfl hK' (fun hin=>?_) (fun hin=>?_) <;> conv=>whnf)|((first|refine EPrim.msetK rfl rfl rfl rfl hK (fun es' n' hK'=>?_)|refine nq8 ?_|refine nq12 ?_|refine nq13 ?_|refine ⟨rfl,?_⟩);conv=>whnf)|refine nq5 ?_ ?_|(intro _;first|omega|conv=>whnf))
  all_goals first
   | (refine fin _ _ tk es n ?_ hK ?_ ?_ ?_ ?_ ?_ ?_ ?_ ?_ ?_ <;> first|rfl|(rw [hst];simp [hBad,hTake];done))
   | (refine fin _ _ tk es n ?_ hK ?_ ?_ ?_ ?_ ?_ ?_ ?_ ?_ ?_ <;> first|rfl|(rw [hst];simp [hBad,hTake,hin];done))
   | (refine fin _ _ _ es' n' ?_ hK' ?_ ?_ ?_ ?_ ?_ ?_ ?_ ?_ ?_ <;> first|rfl|(rw [hst];simp [hBad,hTake,hin];done))
   | ((suffices hF:homesB L=false by (rw [hF] at k;exact k _));rw [hst];simp [hBad,hTake];done)
   | ((suffices hF:homesB L=false by (rw [hF] at k;exact k _));rw [hst];simp [hBad,hTake,hin];done)
 ·have:j=0:=by omega
  subst this
  conv=>whnf
  have hT:homesB L=true:=by rw [hh];rfl
  rw [hT] at k
  exact k _
def anyR (_:Ring):Prop:=True
def mayR (r:Ring):Prop:=r.c.may
def dirtyG (r:Ring):AV:=.int .i64 ((dirtyL r.l.live).length:Int)
def homesGv (r:Ring):AV:=.bool (homesB r.l.live)
variable {e:Env}
theorem dirtyO_ok (hE:EM P e):OvOk P 274 (ringO anyR dirtyG):=
 ringO_ok g274.b (fun r=>rfl) fun r v hr _ hv=>C.of_G hE g274 (dirty_run e hE r hr v hv _ (fun s=>rfl))
theorem homesO_ok (hE:EM P e) (h159:Inl e 177 code159 [.tmp 2]):OvOk P 293 (ringO anyR homesGv):=
 ringO_ok g293.b (fun r=>rfl) fun r v hr _ hv=>C.of_G hE g293 (homes_run e hE h159 r hr v hv _ (fun s=>rfl))
theorem dAdd_length (k:Int) (l:List Int):(dAdd k l).length≤l.length+1:=by
 unfold dAdd;split <;> simp
theorem dStep_length (l:List Int) (x:Lv):(dStep l x).length≤l.length+1:=by
 unfold dStep
 have:=dAdd_length x.stripe l
 split
 ·have h2:=List.length_erase_le (a:=x.stripe) (l:=dAdd x.stripe l);omega
 ·exact this
theorem dirtyL_length (L:List Lv):(dirtyL L).length≤L.length:=by
 unfold dirtyL
 have:∀ (L:List Lv) (l:List Int),(L.foldl dStep l).length≤l.length+L.length:=by
  intro L
  induction L with
  | nil=>intro l;simp
  | cons x L ih=>intro l;have:=ih (dStep l x);have:=dStep_length l x;simp at *;omega
 simpa using this L []
def roomB (r:Ring):Bool:=decide (r.l.used≤r.c.log) && decide ((r.c.members+1)*((dirtyL r.l.live).length:Int)≤IntKind.i64.wrap (r.c.log-r.l.used))
theorem roomO_ok (hE:EM P e) (h53:Con e 273 needF.O) (h125:Con e 274 (ringO anyR dirtyG)):OvOk P 213 (ringO mayR (fun r=>.bool (roomB r))):=by
 refine ringO_ok g213.b (fun r=>rfl) fun r v hr hp hv=>C.of_G hE g213 ?_
 have hd:(dirtyL r.l.live).length≤1000:=Nat.le_trans (dirtyL_length _) hr.l.len
 have hM:r.c.may:=hp
 unfold mayR Cfg.may at hp
 have hv':=hr.c
 conv=>whnf
 refine ETake.eq rfl ?_;conv=>whnf
 refine ESc.fam needF h53 r.c hv' (u:=.tup [.int .i64 (r.c.members+1),.int .i64 0]) (by simp [needF,hM]) ?_;conv=>whnf
 repeat' (first|((first|refine nq22 ?_|refine EPrim.sub (q:=.i64) rfl rfl ?_|refine ESc.ov h125 (ringO_run (RAt.fp hv hr) trivial) ?_|refine EPrim.mulS rfl rfl (mul_small (by omega) (by omega)) ?_|refine ⟨rfl,?_⟩);conv=>whnf)|refine nq2 ?_ ?_|refine nq4 ?_ ?_|(intro _;first|omega|conv=>whnf))
 all_goals
  show AV.bool _=AV.bool (roomB r)
  unfold roomB
  congr 1
  symm
  simp only [Bool.and_eq_true,Bool.and_eq_false_iff,decide_eq_true_eq,decide_eq_false_iff_not]
  omega
end Go.AM
namespace Go.AM
attribute [local irreducible] W
open X
def code122:AC:=match a292 with|.mk c _=>c
def code79:AC:=match a246 with|.mk c _=>c
theorem number_run (e:Env) (s:St) (n:Int) (K:AV->St->Prop) (h:K (.bool (numB n)) s):VE e code122 (initT [.int .u32 n] 0 .lf) s none [] (EEnd [.tmp 2] K):=by
 unfold numB at h
 conv=>whnf
 repeat' (first|refine nq2 ?_ ?_|refine nq4 ?_ ?_|(intro _;first|omega|conv=>whnf))
 ·rw [decide_eq_true (by omega)] at h;exact h
 ·rw [decide_eq_false (by omega)] at h;exact h
 ·rw [decide_eq_false (by omega)] at h;exact h
def lvBad (r:Ring) (i:Nat) (sure:Bool) (x:Lv):Prop:=
 x.stripe<0∨r.c.chunk*r.c.rows≤x.stripe∨x.blocks<2∨r.c.members+1<x.blocks∨x.seq=0∨x.seq≠(r.l.seq-((r.l.live.length:Int)-i)) % 4294967296∨(x.sure=true∧sure=false)
instance (r:Ring) (i:Nat) (sure:Bool) (x:Lv):Decidable (lvBad r i sure x):=by unfold lvBad;infer_instance
def rightL (r:Ring):Nat->Int->Bool->List Lv->Option Int
 | _,u,_,[]=>some u
 | i,u,s,x::l=>if lvBad r i s x then none else rightL r (i+1) (u+x.blocks) x.sure l
def topB (r:Ring):Prop:=numB r.l.age=true∧numB r.l.seq=true∧0≤r.l.tail∧r.l.tail<r.c.log∧(r.l.live.length:Int)≤r.c.log∧r.l.used≤r.c.log
instance (r:Ring):Decidable (topB r):=by unfold topB;infer_instance
def rightB (r:Ring):Bool:=decide (topB r) && (match rightL r 0 0 true r.l.live with
 | none=>false
 | some u=>decide (u=r.l.used) && decide ((r.l.live.length:Int)<r.l.seq) && homesB r.l.live && roomB r)
theorem right_run (e:Env) (hE:EM P e) (h38:Con e 77 stripesF.O) (h53:Con e 273 needF.O) (h122:Inl e 292 code122 [.tmp 2]) (h123:Con e 293 (ringO anyR homesGv)) (h81:Con e 213 (ringO mayR (fun r=>.bool (roomB r)))) (r:Ring) (hr:r.ok) (hM:r.c.may) (v:AV) (hv:LSl r.l.live v) (Q:AV->St->Prop) (k:∀ s,Q (.bool (rightB r)) s):
 VW P e 0 code79 (initT [.fp (r.cs v)] 0 .lf) St0 none [] (EEnd [.tmp 2] Q):=by
 have hp:=hM
 unfold Cfg.may at hp
 have hlog:=Cfg.may_log hM
 have hlen:=hr.l.len
 have kF:rightB r=false->∀ s,Q (.bool false) s:=fun h s=>by have:=k s;rw [h] at this;exact this
 have topF:¬ topB r->∀ s,Q (.bool false) s:=fun h=>kF (by unfold rightB;rw [decide_eq_false h];rfl)
 conv=>whnf
 refine ETake.eq rfl ?_;conv=>whnf
 refine ESc.fam stripesF h38 r.c hr.c (u:=.tup [.int .i64 (r.c.chunk*r.c.rows),.int .i64 0]) (by simp [stripesF,hM]) ?_;conv=>whnf
 refine ETake.eq rfl ?_;conv=>whnf
 refine ESc.fam needF h53 r.c hr.c (u:=.tup [.int .i64 (r.c.members+1),.int .i64 0]) (by simp [needF,hM]) ?_;conv=>whnf
 refine nq22 ?_;conv=>whnf
 refine ESc.inl h122 (number_run e _ r.l.age _ ?_)
 cases hA:numB r.l.age <;> conv=>whnf
 ·repeat' (first|(refine nq13 ?_;conv=>whnf)|fail)
  exact topF (by unfold topB;rw [hA];simp) _
 repeat' (first|((first|refine nq22 ?_|refine nq12 ?_);conv=>whnf)|fail)
 refine ESc.inl h122 (number_run e _ r.l.seq _ ?_)
 cases hS:numB r.l.seq <;> conv=>whnf
 ·repeat' (first|(refine nq13 ?_;conv=>whnf)|fail)
  exact topF (by unfold topB;rw [hS];simp) _
 repeat' (first|((first|refine nq22 ?_|refine nq21 hv ?_|refine nq12 ?_);conv=>whnf)|refine nq1 ?_ ?_|refine nq3 ?_ ?_|refine nq4 ?_ ?_|(intro _;first|omega|conv=>whnf))
 iterate 4 (exact topF (by unfold topB;omega) _)
 have hT:topB r:=by unfold topB;rw [hA,hS];exact ⟨rfl,rfl,by omega,by omega,by omega,by omega⟩
 obtain ⟨L,hL⟩:∃ L,L=r.l.live:=⟨_,rfl⟩
 have hokL:=hr.l.live
 have hB:rightB r=(match rightL r 0 0 true L with|none=>false|some u=>decide (u=r.l.used) && decide ((L.length:Int)<r.l.seq) && homesB L && roomB r):=by
  unfold rightB;rw [decide_eq_true hT,hL];rfl
 rw [← hL] at hlen hv hokL
 refine W.loopS (α:=Nat×Int×Bool) (fun x=>[(0,.fp (r.cs v)),(3,.int .i64 (r.c.chunk*r.c.rows)),(5,.int .i64 (r.c.members+1)),(7,.int .i64 x.2.1),(8,.bool x.2.2),(95,v),(96,.int .i64 (L.length:Int)),(97,.int .i64 (x.1:Int))]) (fun x=>[]) (fun x=>L.length-x.1)
  (fun x=>x.1≤L.length∧rightL r 0 0 true L=rightL r x.1 x.2.1 x.2.2 (L.drop x.1)∧0≤x.2.1∧x.2.1≤17*(x.1:Int)) (0,0,true) [] ⟨Nat.zero_le _,rfl,Int.le_refl _,Int.le_refl _⟩ ⟨by decide,⟨r9,r9,r9,r9,r9,t9 hv.hf,⟨rfl,by rw [hL];rfl⟩,r9,trivial⟩,trivial⟩ ?_
 rintro ⟨i,u,sr⟩ ⟨hi,hI,hu0,hu1⟩
 dsimp only at hi hI hu0 hu1 ⊢
 refine vs_sound hE ?_;conv=>whnf
 refine EPrim.lss2 rfl rfl (fun h=>?_) (fun h=>?_) <;> conv=>whnf
 ·have hlt:i<L.length:=by omega
  refine EPrim.ixsS rfl hv rfl hlt ?_;conv=>whnf
  have hx6:=lvs_take hlt
  have hx:=hokL L[i] (List.getElem_mem hlt)
  rw [List.drop_eq_getElem_cons hlt] at hI
  revert hI hx hx6
  generalize L[i]=x
  obtain ⟨sq,st,bl,pa,su,ho⟩:=x
  intro hI hx6 hx
  refine ETake.eq (cs:=[.int .u32 sq,.int .i64 st,.int .i64 bl,.bool pa,.bool su,.bool ho]) hx6 ?_
  have bad:lvBad r i sr ⟨sq,st,bl,pa,su,ho⟩->∀ s,Q (.bool false) s:=fun h=>kF (by rw [hB,hI];unfold rightL;rw [if_pos h])
  have go:¬ lvBad r i sr ⟨sq,st,bl,pa,su,ho⟩->rightL r 0 0 true L=rightL r (i+1) (u+bl) su (L.drop (i+1)):=fun h=>by rw [hI];conv=>lhs;unfold rightL;rw [if_neg h]
  have fin:¬ lvBad r i sr ⟨sq,st,bl,pa,su,ho⟩->∀ t s,t.get 0=some (.fp (r.cs v))->t.get 3=some (.int .i64 (r.c.chunk*r.c.rows))->t.get 5=some (.int .i64 (r.c.members+1))->t.get 7=some (.int .i64 (u+bl))->t.get 8=some (.bool su)->t.get 95=some v->t.get 96=some (.int .i64 (L.length:Int))->t.get 97=some (.int .i64 ((i:Int)+1))->
   ∃ x':Nat×Int×Bool,(x'.1≤L.length∧rightL r 0 0 true L=rightL r x'.1 x'.2.1 x'.2.2 (L.drop x'.1)∧0≤x'.2.1∧x'.2.1≤17*(x'.1:Int))∧L.length-x'.1<L.length-i∧∃ rs,Abs t s [(0,.fp (r.cs v)),(3,.int .i64 (r.c.chunk*r.c.rows)),(5,.int .i64 (r.c.members+1)),(7,.int .i64 x'.2.1),(8,.bool x'.2.2),(95,v),(96,.int .i64 (L.length:Int)),(97,.int .i64 (x'.1:Int))] [] rs:=by
   intro hnb t s h0 h3 h5 h7 h8 h95 h96 h97
   have hnb':=hnb
   unfold lvBad at hnb'
   dsimp only at hnb'
   refine ⟨(i+1,u+bl,su),⟨hlt,go hnb,by simp;omega,by simp;omega⟩,by simp;omega,[],⟨by decide,⟨⟨rfl,h0⟩,⟨rfl,h3⟩,⟨rfl,h5⟩,⟨rfl,h7⟩,⟨rfl,h8⟩,⟨hf_bd _ hv.hf,by rw [hf_mapV _ hv.hf];exact h95⟩,⟨rfl,h96⟩,⟨rfl,h97⟩,trivial⟩,trivial⟩⟩
  have hsq:0≤sq∧sq<4294967296:=hx.seq
  have hLL:L.length=r.l.live.length:=by rw [hL]
  rw [hL] at hlen hlt hi h
  have hv':=hv
  rw [hL] at hv'
  unfold lvBad at bad fin
  dsimp only at bad fin
  conv=>whnf
  repeat' (first|((first|refine nq22 ?_|refine EPrim.lenZ rfl hv' ?_|refine nq7 ?_|refine nq8 ?_|refine nq11 ?_|refine nq14u ?_|refine ⟨rfl,?_⟩);conv=>whnf)|refine nq1 ?_ ?_|refine nq3 ?_ ?_|refine nq4 ?_ ?_|refine nq5 ?_ ?_|refine nq6 ?_ ?_|(refine w19 rfl ?_ ?_ <;> intro hc <;> (try subst hc) <;> conv=>whnf)|(intro _;first|omega|conv=>whnf))
  iterate 6 (refine bad ?_ _;omega)
  ·cases sr
   ·repeat' (first|(refine nq13 ?_;conv=>whnf)|fail)
    refine bad ?_ _;simp
   ·repeat' (first|((first|refine nq7 ?_|refine nq12 ?_|refine ⟨rfl,?_⟩);conv=>whnf)|fail)
    refine fin ?_ _ _ ?_ ?_ ?_ ?_ ?_ ?_ ?_ ?_ <;> first|rfl|(simp;omega)
  ·refine fin ?_ _ _ ?_ ?_ ?_ ?_ ?_ ?_ ?_ ?_ <;> first|rfl|(simp;omega)
 ·have hd:L.drop i=[]:=List.drop_eq_nil_of_le (by omega)
  rw [hd] at hI
  rw [hI] at hB
  have hBu:rightB r=(decide (u=r.l.used) && decide ((L.length:Int)<r.l.seq) && homesB L && roomB r):=by rw [hB];rfl
  have hseq:0≤r.l.seq∧r.l.seq<4294967296:=hr.l.seq
  have hRA:∀ s,RAt s (.fp (r.cs v)) r v:=fun s=>RAt.fp (by rw [← hL];exact hv) hr
  repeat' (first|((first|refine nq22 ?_|refine nq21 hv ?_|refine nq14 ?_);conv=>whnf)|refine nq3 ?_ ?_|refine nq5 ?_ ?_|(intro _;first|omega|conv=>whnf))
  ·refine ESc.ov h123 (ringO_run (hRA _) trivial) ?_
   have hg:homesGv r=.bool (homesB L):=by rw [hL];rfl
   rw [hg]
   cases hH:homesB L
   ·conv=>whnf
    exact kF (by rw [hBu,hH];simp) _
   ·conv=>whnf
    refine ESc.ov h81 (ringO_run (hRA _) hM) ?_
    cases hR:roomB r
    ·conv=>whnf
     exact kF (by rw [hBu,hR];simp) _
    ·conv=>whnf
     have hT:rightB r=true:=by rw [hBu,hH,hR,decide_eq_true (by omega),decide_eq_true (by omega)];rfl
     rw [hT] at k;exact k _
  ·exact kF (by rw [hBu,decide_eq_false (p:=(L.length:Int)<r.l.seq) (by omega)];simp) _
  ·exact kF (by rw [hBu,decide_eq_false (p:=u=r.l.used) (by omega)];simp) _
variable {e:Env}
theorem rightO_ok (hE:EM P e) (h38:Con e 77 stripesF.O) (h53:Con e 273 needF.O) (h122:Inl e 292 code122 [.tmp 2]) (h123:Con e 293 (ringO anyR homesGv)) (h81:Con e 213 (ringO mayR (fun r=>.bool (roomB r)))):OvOk P 246 (ringO mayR (fun r=>.bool (rightB r))):=
 ringO_ok g246.b (fun r=>rfl) fun r v hr hp hv=>C.of_G hE g246 (right_run e hE h38 h53 h122 h123 h81 r hr hp v hv _ (fun s=>rfl))
structure CL where
 c:Cfg
 l:Log
 v:AV
structure CL.ok (x:CL):Prop where
 c:x.c.ok
 l:x.l.ok
 v:LSl x.l.live x.v
def CL.lv (x:CL):AV:=.agg (x.l.c x.v)
variable {x y:CL}
theorem CL.inj (hx:x.ok) (hy:y.ok) (h1:x.c.v=y.c.v) (h2:x.lv=y.lv):x=y:=by
 obtain ⟨c,⟨a1,a2,a3,a4,a5⟩,v⟩:=x
 obtain ⟨c',⟨b1,b2,b3,b4,b5⟩,v'⟩:=y
 have e1:=Cfg.injv h1
 dsimp only at e1
 subst e1
 simp [CL.lv,Log.c] at h2
 obtain ⟨rfl,rfl,rfl,rfl,rfl⟩:=h2
 have:=LSl.inj hx.v hy.v
 dsimp only at this
 subst this;rfl
def CL.ring (x:CL):Ring:=⟨x.l,x.c⟩
def CL.good (x:CL):Prop:=x.c.may∧rightB x.ring=true
instance (x:CL):Decidable x.good:=by unfold CL.good;infer_instance
theorem CL.ringOk (h:x.ok):x.ring.ok:=⟨h.l,h.c⟩
def CL.args (x:CL):List AV:=[x.c.v,x.lv]
theorem CL.inja (hx:x.ok) (hy:y.ok) (h:x.args=y.args):x=y:=CL.inj hx hy (List.cons.inj h).1 (List.cons.inj (List.cons.inj h).2).1
def lchkF:Fam CL:=⟨CL.ok,CL.args,fun x=>.int .i64 (if x.good then 0 else 8),fun x y hx hy h=>by rw [CL.inja hx hy h]⟩
theorem CL.hfa (h:x.ok):hfs x.args=true:=by
 show (true && ((true && (true && (true && (true && (AM.hf x.v && true))))) && true))=true
 rw [h.v.hf];rfl
theorem lchkF_ok (hE:EM P e) (h78:Con e 133 cfgF.O) (h79:Con e 246 (ringO mayR (fun r=>.bool (rightB r)))):OvOk P 171 lchkF.O:=by
 refine Fam.ok_of g171.b ?_
 intro x hx
 refine ⟨CL.hfa hx,rfl,C.of_G hE g171 ?_⟩
 by_cases hM:x.c.may
 ·have hR:∀ (s:St) (q:Nat),s.get q=some (.row 330 (x.ring.cs x.v))->RAt s (.ptr q 0) x.ring x.v:=fun s q h=>
   ⟨.ptr q 0 330 _ _ _ h (fun i y hy=>by rw [Nat.zero_add];exact hy) (frz_self (hfs_ring _ hx.v)),hx.v,CL.ringOk hx⟩
  conv=>whnf
  refine ESc.fam cfgF h78 x.c hx.c (u:=.int .i64 0) (by simp [cfgF,hM]) ?_;conv=>whnf
  repeat' (first|refine nq6 ?_ ?_|(intro _;first|omega|conv=>whnf))
  refine ESc.ov h79 (ringO_run (hR _ _ rfl) hM) ?_
  cases hB:rightB x.ring
  ·conv=>whnf
   repeat' (first|(refine nq13 ?_;conv=>whnf)|fail)
   rw [show lchkF.out x=.int .i64 8 by simp [lchkF,CL.good,hB]]
   exact .plain _ rfl
  ·conv=>whnf
   repeat' (first|(refine nq12 ?_;conv=>whnf)|fail)
   rw [show lchkF.out x=.int .i64 0 by simp [lchkF,CL.good,hB,hM]]
   exact .plain _ rfl
 ·rw [show lchkF.out x=.int .i64 8 by simp [lchkF,CL.good,hM]]
  conv=>whnf
  refine ESc.fam cfgF h78 x.c hx.c (u:=.int .i64 8) (by simp [cfgF,hM]) ?_;conv=>whnf
  repeat' (first|refine nq6 ?_ ?_|(intro _;first|omega|conv=>whnf))
  exact .plain _ rfl
theorem W.loop0 (hE:EM P e) {k:Nat}{rd:Option Nat}{a:AC}{t:AT}{s:St}{ds:List Nat}{Q:EQ}(h:VW P e k a t s rd ds (Bhd (fun _ _ _=>False) Q)):W P k rd (.loop a) t s ds Q:=by
 refine W.loop (fun n t' s' ds'=>n=0∧t'=t∧s'=s∧ds'=ds) 0 ⟨rfl,rfl,rfl,rfl⟩ ?_
 rintro n t' s' ds' ⟨rfl,rfl,rfl,rfl⟩
 refine (vs_sound hE h).mono ?_
 intro x t s ds hq
 cases x with
 | normal=>exact (show False from hq).elim
 | exit id=>exact hq
 | ret=>exact hq
section
variable {t:AT}{s:St}{k:AV->St->Prop}{x y:AO}
variable {el es r:Nat}{v:AV}
theorem EPrim.app0 (hx:ev x t=.some (.sl r 0 0 (some 0))) (hy:ev y t=.some v) (hv:srcOf es v s=some []) (hk:k (.sl r 0 0 (some 0)) s):EPrim (.app el es x y) t s k:=by
 refine EPrim.mk (fun e rec=>?_) hk
 show wth x t _=_;unfold wth;rw [hx]
 show wth y t _=_;unfold wth;rw [hy]
 show (Option.rec .fail _ (srcOf es v s):RV)=_
 rw [hv];rfl
theorem EPrim.app1 {m:Nat}{c:AV}{cs:List AV}(hx:ev x t=.some (.sl r 0 0 (some 0))) (hy:ev y t=.some v) (hv:srcOf es v s=some (c::cs)) (hr:s.get r=some (.row el [])) (hm:(c::cs).length / es=m) (h0:0<m) (h1:m≤1000000) (hk:k (.sl s.next 0 m none) (s.alloc (.row el (c::cs)))):EPrim (.app el es x y) t s k:=by
 refine EPrim.mk (fun e rec=>?_) hk
 show wth x t _=_;unfold wth;rw [hx]
 show wth y t _=_;unfold wth;rw [hy]
 show (Option.rec .fail _ (srcOf es v s):RV)=_
 rw [hv]
 show AM.app1 el es (c::cs) (Nat.div (lenL (c::cs)) es) r 0 0 (some 0) s=_
 unfold AM.app1
 rw [lenL_eq,show Nat.div (c::cs).length es=m from hm,show Nat.mul 0 es=0 from Nat.zero_mul es,load_of hr (by simp)]
 show (Bool.rec (appNew el (0+m) (appL [] (c::cs)) s) _ (Nat.ble (0+m) 0):RV)=_
 rw [Nat.zero_add,show Nat.ble m 0=false by rw [← Bool.not_eq_true];intro e;have:=Nat.le_of_ble_eq_true e;omega]
 show gd (Nat.ble m 1000000) _=_
 rw [Nat.ble_eq_true_of_le h1];rfl
end
variable {t:AT}{s:St}{k:AV->St->Prop}{x y:AO}
theorem eqbNil {v:AV}(hx:ev x t=.some v) (hy:ev y t=.some .nils) (h:v=.es∨∃ n c l,v=.fz n c l) (hk:k (.bool false) s):EPrim (.eqb 2 false x y) t s k:=by
 refine EPrim.mk (v:=.bool false) (s':=s) (fun e rec=>?_) hk
 show wth x t _=_;unfold wth;rw [hx]
 show wth y t _=_;unfold wth;rw [hy]
 rcases h with rfl|⟨n,c,l,rfl⟩ <;> rfl
theorem eqbNil0 (hx:ev x t=.some .nils) (hy:ev y t=.some .nils) (hk:k (.bool true) s):EPrim (.eqb 2 false x y) t s k:=by
 refine EPrim.mk (v:=.bool true) (s':=s) (fun e rec=>?_) hk
 show wth x t _=_;unfold wth;rw [hx]
 show wth y t _=_;unfold wth;rw [hy];rfl
end Go.AM
namespace Go.AM
attribute [local irreducible] W
open X
def trueO:Ov:=fun args s=>match args with
 | []=>.ok (.bool true) s
 | _=>.fail
theorem trueO_ok {e:Env}{f k:Nat}(hE:EM P e) (hb:HasBody P f) (h:isTrue (callA e (exec e k) f [] St0)=true):OvOk P f trueO:=by
 refine ⟨hb,fun args s v s' hh=>?_⟩
 unfold trueO at hh
 split at hh
 ·cases hh
  refine C.pure rfl rfl ?_ s
  obtain ⟨s1,h⟩:=isTrue_ok h
  intro γ vals w m hA hs
  have hc:=(callA_sound (exec_good hE.1 hE.2 k) hE.1 hA hs h).2 m
  exact CallsIn.mono hc fun e w' hp=>⟨_,_,.plain _ rfl,hp⟩
 ·cases hh
end Go.AM
namespace Go.AM
open Go.RowKit
variable {n:Int}
theorem wf_i64 (h:(Lit.int .i64 n).wf=true):i64B n:=by
 unfold i64B
 simp [Lit.wf,IntKind.min,IntKind.max,IntKind.bits,IntKind.signed] at h
 omega
theorem wf_u32 (h:(Lit.int .u32 n).wf=true):u32B n:=by
 unfold u32B
 simp [Lit.wf,IntKind.min,IntKind.max,IntKind.bits,IntKind.signed] at h
 omega
def tCfg:List Ty:=[.int .u32,.int .i64,.int .i64,.int .i64,.int .i64,.int .i64]
variable {k:IntKind}{l:List AV}
theorem shape_int (h:Shape (.int k) l):∃ n,l=[.int k n]∧(Lit.int k n).wf=true:=by
 cases h with|int _ n h=>exact ⟨n,rfl,h⟩
variable {Ts:List Ty}
theorem shapes_cons {T:Ty}(h:Shapes (T::Ts) l):∃ a b,l=a++b∧Shape T a∧Shapes Ts b:=by
 cases h with|cons _ _ a b h1 h2=>exact ⟨a,b,rfl,h1,h2⟩
theorem shapes_nil (h:Shapes [] l):l=[]:=by cases h;rfl
theorem shapes_int (h:Shapes (.int k::Ts) l):∃ n b,l=.int k n::b∧(Lit.int k n).wf=true∧Shapes Ts b:=by
 obtain ⟨a,b,rfl,h1,h2⟩:=shapes_cons h
 obtain ⟨n,rfl,hw⟩:=shape_int h1
 exact ⟨n,b,rfl,hw,h2⟩
theorem cfg_of (h:Shapes tCfg l):∃ c:Cfg,c.ok∧l=c.c:=by
 obtain ⟨a1,b1,rfl,w1,g1⟩:=shapes_int h
 obtain ⟨a2,b2,rfl,w2,g2⟩:=shapes_int g1
 obtain ⟨a3,b3,rfl,w3,g3⟩:=shapes_int g2
 obtain ⟨a4,b4,rfl,w4,g4⟩:=shapes_int g3
 obtain ⟨a5,b5,rfl,w5,g5⟩:=shapes_int g4
 obtain ⟨a6,b6,rfl,w6,g6⟩:=shapes_int g5
 rw [shapes_nil g6]
 exact ⟨⟨a1,a2,a3,a4,a5,a6⟩,⟨wf_u32 w1,wf_i64 w2,wf_i64 w3,wf_i64 w4,wf_i64 w5,wf_i64 w6⟩,rfl⟩
theorem arg_struct {H:Type}{enc:TypeId×Value->H}{W:World}{t:TypeId}{Fs:List Ty}{n:Nat}{v:Value}{d:DataW H}{ps:List MemPlace}{fs:Array Field}{r:Reach}{base:Nat}(hu:P.underlying t=some (.struct fs)) (hT:TyOf P t (.st Fs) n) (hval:Value.okWide P W r base t v) (h:DataW.Trod enc P W 0 (fun _=>true) true t v d ps):
 ∃ l,Shapes Fs l∧VR (gamW W) (.agg l) v:=by
 obtain ⟨cs,rfl,_⟩:=WideShapes.okWide_struct hu hval
 obtain ⟨fuel,hf⟩:=h
 obtain ⟨l,h1,h2,h3,h4⟩:=trod_shape fuel hT hf
 cases h1 with
 | st _ _ hs=>exact ⟨l,hs,.agg l cs h3 h4⟩
theorem law_args {f:Nat}{args:List AV}{vals:List Value}{w:World}(hA:All2 (VR (gamW w)) args vals) (hC:C P f args St0 (fun v _=>v=.bool true)):
 Calls P f vals.toArray w fun x w'=>x=.returned (.bool true)∧Below w.heap.size w w':=by
 have hc:=hC (gamW w) vals w 0 hA (gamW_sim w)
 refine callsIn_wide.1 (CallsIn.mono hc ?_)
 rintro x w' ⟨v,s',rfl,v',γ',rfl,hst,_,hv⟩
 cases hv
 exact ⟨rfl,hst.os,hst.tape,hst.output,hst.size,fun b hb=>hst.blk b hb (fun r L hL=>by cases hL)⟩
end Go.AM
namespace Go.AM
attribute [local irreducible] W
open X
structure I3 where
 a:Int
 b:Int
 c:Int
def I3.ok (x:I3):Prop:=i64B x.a∧i64B x.b∧i64B x.c
def I3.args (x:I3):List AV:=[.int .i64 x.a,.int .i64 x.b,.int .i64 x.c]
def oddB (n:Nat):Bool:=decide (n≠0) && decide (n≠128)
structure BN where
 v:AV
 n:Nat
def BN.ok (x:BN):Prop:=(∃ l,Sl 1 x.n l x.v)∧x.n<1000000000
variable {es m:Nat}{l k:List AV}
theorem Sl.n_inj {n:Nat}{v:AV}(h:Sl es n l v) (h':Sl es m k v):n=m:=by
 rcases h with ⟨rfl,rfl,_⟩|⟨rfl,rfl,_⟩|⟨c,rfl,_⟩
 ·rcases h' with ⟨_,rfl,_⟩|⟨e,_⟩|⟨c,e,_⟩
  ·rfl
  ·cases e
  ·cases e
 ·rcases h' with ⟨e,_⟩|⟨_,rfl,_⟩|⟨c,e,_⟩
  ·cases e
  ·rfl
  ·cases e
 ·rcases h' with ⟨e,_⟩|⟨e,_⟩|⟨c,e,_⟩
  ·cases e
  ·cases e
  ·cases e;rfl
theorem BN.inj {x y:BN}(hx:x.ok) (hy:y.ok) (h:[x.v]=[y.v]):x=y:=by
 obtain ⟨v,n⟩:=x
 obtain ⟨v',n'⟩:=y
 have e:v=v':=(List.cons.inj h).1
 subst e
 obtain ⟨⟨l,h1⟩,_⟩:=hx
 obtain ⟨⟨l',h2⟩,_⟩:=hy
 have:=h1.n_inj h2
 dsimp only at this
 rw [this]
def oddF:Fam BN:=⟨BN.ok,fun x=>[x.v],fun x=>.bool (oddB x.n),fun x y hx hy h=>by rw [BN.inj hx hy h]⟩
structure BL where
 v:AV
 us:List AV
 ns:List Nat
structure BL.ok (x:BL):Prop where
 sl:Sl 1 x.us.length x.us x.v
 bl:All2 (fun u n=>BN.ok ⟨u,n⟩) x.us x.ns
 len:x.us.length<1000000000
theorem BL.inj {x y:BL}(hx:x.ok) (hy:y.ok) (h:x.v=y.v):x=y:=by
 obtain ⟨v,us,ns⟩:=x
 obtain ⟨v',us',ns'⟩:=y
 have e:v=v':=h
 subst e
 have h1:=hx.sl
 have h2:=hy.sl
 have h3:=hx.bl
 have h4:=hy.bl
 dsimp only at h1 h2 h3 h4
 have e2:us=us':=by
  rcases h1 with ⟨rfl,_,h1⟩|⟨rfl,_,h1⟩|⟨c,rfl,_⟩
  ·rcases h2 with ⟨_,_,h2⟩|⟨e,_⟩|⟨c,e,_⟩
   ·rw [h1,h2]
   ·cases e
   ·cases e
  ·rcases h2 with ⟨e,_⟩|⟨_,_,h2⟩|⟨c,e,_⟩
   ·cases e
   ·rw [h1,h2]
   ·cases e
  ·rcases h2 with ⟨e,_⟩|⟨e,_⟩|⟨c,e,_⟩
   ·cases e
   ·cases e
   ·injection e
 subst e2
 have:∀ {us:List AV}{ns ns':List Nat},All2 (fun u n=>BN.ok ⟨u,n⟩) us ns->All2 (fun u n=>BN.ok ⟨u,n⟩) us ns'->ns=ns':=by
  intro us
  induction us with
  | nil=>intro ns ns' a b;cases a;cases b;rfl
  | cons u us ih=>
   intro ns ns' a b
   cases a with
   | cons a1 a2=>cases b with
    | cons b1 b2=>
     obtain ⟨⟨l,q1⟩,_⟩:=a1
     obtain ⟨⟨l',q2⟩,_⟩:=b1
     have e:=q1.n_inj q2
     dsimp only at e
     rw [ih a2 b2,e]
 rw [this h3 h4]
def code138:AC:=match a253 with|.mk c _=>c
def code93:AC:=match a178 with|.mk c _=>c
def ints (l:List Int):List AV:=l.map (AV.int .i64)
def slotB (top:Int):Int->List Int->Bool
 | _,[]=>true
 | last,s::l=>decide (last<s∧s≤top) && slotB top s l
structure SL where
 c:Cfg
 v:AV
 l:List Int
structure SL.ok (x:SL):Prop where
 c:x.c.ok
 m:x.c.may
 sl:Sl 1 x.l.length (ints x.l) x.v
 b:∀ s ∈ x.l,i64B s
 len:x.l.length<1000000000
theorem Sl.l_inj {n:Nat}{v:AV}(h:Sl es n l v) (h':Sl es m k v):l=k:=by
 rcases h with ⟨rfl,_,h⟩|⟨rfl,_,h⟩|⟨c,rfl,_⟩
 ·rcases h' with ⟨_,_,h2⟩|⟨e,_⟩|⟨c,e,_⟩
  ·rw [h,h2]
  ·cases e
  ·cases e
 ·rcases h' with ⟨e,_⟩|⟨_,_,h2⟩|⟨c,e,_⟩
  ·cases e
  ·rw [h,h2]
  ·cases e
 ·rcases h' with ⟨e,_⟩|⟨e,_⟩|⟨c,e,_⟩
  ·cases e
  ·cases e
  ·injection e
def slotsOk (top:Int) (l:List Int):Bool:=slotB top (-1) l && decide (0<l.length)
structure Dl where
 stripe:Int
 sv:AV
 sl:List Int
 b:BL
 pv:AV
 pn:Nat
def Dl.c (d:Dl):List AV:=[.int .i64 d.stripe,d.sv,d.b.v,d.pv]
def Dl.v (d:Dl):AV:=.agg d.c
structure Dl.ok (d:Dl):Prop where
 stripe:i64B d.stripe
 sl:Sl 1 d.sl.length (ints d.sl) d.sv
 sb:∀ s ∈ d.sl,i64B s
 sn:d.sl.length<1000000000
 b:d.b.ok
 p:BN.ok ⟨d.pv,d.pn⟩
def dealB (c:Cfg) (d:Dl):Bool:=!(d.b.ns.any oddB) && decide (0≤d.stripe∧d.stripe<c.chunk*c.rows) && slotsOk (c.members-2) d.sl && decide (d.b.ns.length=d.sl.length) && !(oddB d.pn)
structure CD where
 c:Cfg
 d:Dl
structure CD.ok (x:CD):Prop where
 c:x.c.ok
 d:x.d.ok
def CD.good (x:CD):Prop:=x.c.may∧dealB x.c x.d=true
instance (x:CD):Decidable x.good:=by unfold CD.good;infer_instance
structure Rc where
 slot:Int
 bare:Bool
 sum:Int
def Rc.c (x:Rc):List AV:=[.int .u8 x.slot,.bool x.bare,.int .u32 x.sum]
def Rc.ok (x:Rc):Prop:=(0≤x.slot∧x.slot<256)∧u32B x.sum
def rcs (L:List Rc):List AV:=L.flatMap Rc.c
structure Nt where
 id:Int
 age:Int
 seq:Int
 stripe:Int
 v:AV
 recs:List Rc
def Nt.c (x:Nt):List AV:=[.int .u32 x.id,.int .u32 x.age,.int .u32 x.seq,.int .i64 x.stripe,x.v]
def Nt.a (x:Nt):AV:=.agg x.c
structure Nt.ok (x:Nt):Prop where
 id:u32B x.id
 age:u32B x.age
 seq:u32B x.seq
 stripe:i64B x.stripe
 sl:Sl 3 x.recs.length (rcs x.recs) x.v
 rc:∀ r ∈ x.recs,r.ok
 len:x.recs.length<1000000000
theorem pad_len128 {bs:List Nat}(hl:bs.length=0∨bs.length=128):(pad bs).length=128:=by
 unfold pad
 split
 ·simp
 ·rename_i h
  rcases hl with e|e
  ·exact absurd (List.length_eq_zero_iff.1 e) h
  ·exact e
theorem bys_inj:∀ {l m:List Nat},bys l=bys m->l=m
 | [],[],_=>rfl
 | [],_::_,h=>by cases h
 | _::_,[],h=>by cases h
 | a::l,b::m,h=>by
  have h:AV.int .u8 (Int.ofNat a)::bys l=.int .u8 (Int.ofNat b)::bys m:=h
  injection h with h1 h2
  injection h1 with _ h1
  injection h1 with h1
  rw [h1,bys_inj h2]
def BAt (u:AV) (b:List Nat):Prop:=Sl 1 b.length (bys b) u∧∀ x ∈ b,x<256
theorem BAt.inj {u:AV}{b c:List Nat}(h:BAt u b) (h':BAt u c):b=c:=bys_inj (h.1.l_inj h'.1)
structure DB where
 st:Int
 sv:AV
 sl:List Int
 bv:AV
 us:List AV
 bs:List (List Nat)
 pv:AV
 pb:List Nat
def DB.d (x:DB):Dl:=⟨x.st,x.sv,x.sl,⟨x.bv,x.us,x.bs.map List.length⟩,x.pv,x.pb.length⟩
structure DB.ok (x:DB):Prop where
 d:x.d.ok
 bs:All2 BAt x.us x.bs
 pb:BAt x.pv x.pb
def fzB (b:List Nat):AV:=.fz 128 none (bys b)
def DB.prs (x:DB):List (Int×List Nat):=x.sl.zip x.bs++(if x.pb.length=0 then [] else [(255,x.pb)])
structure BD where
 c:Cfg
 age:Int
 seq:Int
 d:DB
structure BD.ok (x:BD):Prop where
 c:x.c.ok
 age:u32B x.age
 seq:u32B x.seq
 d:x.d.ok
def BD.enc (x:BD):List AV:=[x.c.v,.int .u32 x.age,.int .u32 x.seq,x.d.d.v]
variable {L:List AV}{x:AV}
theorem mapVs_app {ρ:Nat->Nat}(h:hfs L=true):mapVs ρ (L++[x])=L++[mapV ρ x]:=by
 induction L with
 | nil=>rfl
 | cons y L ih=>
  simp only [hfs,Bool.and_eq_true] at h
  show mapV ρ y::mapVs ρ (L++[x])=_
  rw [hf_mapV y h.1,ih h.2];rfl
theorem bds_app {n:Nat}(h:hfs L=true):bds n (L++[x])=bd n x:=by
 induction L with
 | nil=>show (bd n x && true)=_;rw [Bool.and_true]
 | cons y L ih=>
  simp only [hfs,Bool.and_eq_true] at h
  show (bd n y && bds n (L++[x]))=_
  rw [hf_bd y h.1,ih h.2];rfl
def DB.n (d:DB):Nat:=d.prs.length+1
structure DB.any (x:DB):Prop where
 st:i64B x.st
 sl:Sl 1 x.sl.length (ints x.sl) x.sv
 sb:∀ s ∈ x.sl,i64B s
 bl:Sl 1 x.us.length x.us x.bv
 bs:All2 BAt x.us x.bs
 pb:BAt x.pv x.pb
end Go.AM
namespace Go.AM
open Go.RowKit
end Go.AM
namespace Go.AM
open X
variable {l:List AV}
theorem hfs_app {m:List AV}(h:hfs l=true) (h':hfs m=true):hfs (l++m)=true:=hfs_iff.2 fun v hv=>(List.mem_append.1 hv).elim (hfs_iff.1 h v) (hfs_iff.1 h' v)
structure Ce (α:Type) where
 k:Nat
 r:α->List AV->Prop
 len:∀ {x l},r x l->l.length=k
 hf:∀ {x l},r x l->hfs l=true
 inj:∀ {x y l},r x l->r y l->x=y
def Ce.int (q:IntKind):Ce Int:=⟨1,fun n l=>l=[.int q n]∧(Lit.int q n).wf=true,by rintro _ _ ⟨rfl,_⟩;rfl,by rintro _ _ ⟨rfl,_⟩;rfl,by rintro _ _ _ ⟨rfl,_⟩ ⟨h,_⟩;cases h;rfl⟩
def Ce.u8:Ce Nat:=⟨1,fun n l=>l=[.int .u8 (n:Int)]∧n<256,by rintro _ _ ⟨rfl,_⟩;rfl,by rintro _ _ ⟨rfl,_⟩;rfl,by rintro x y _ ⟨rfl,_⟩ ⟨h,_⟩;injection h with h;injection h with _ h;exact Int.ofNat.inj h⟩
def Ce.bool:Ce Bool:=⟨1,fun n l=>l=[.bool n],by rintro _ _ rfl;rfl,by rintro _ _ rfl;rfl,by rintro _ _ _ rfl h;cases h;rfl⟩
theorem flat_len {α:Type}{A:Ce α}:∀ {xs:List α}{ls:List (List AV)},All2 A.r xs ls->ls.flatten.length=xs.length*A.k
 | [],_,h=>by cases h;simp
 | x::xs,_,h=>by
  cases h with
  | cons h1 h2=>rw [List.flatten_cons,List.length_append,A.len h1,flat_len h2,List.length_cons,Nat.add_mul];omega
theorem flat_inj {α:Type}{A:Ce α}:∀ {xs ys:List α}{ls ms:List (List AV)},xs.length=ys.length->All2 A.r xs ls->All2 A.r ys ms->ls.flatten=ms.flatten->xs=ys
 | [],[],_,_,_,_,_,_=>rfl
 | x::xs,y::ys,_,_,hn,h,h',he=>by
  cases h with
  | cons h1 h2=>cases h' with
   | cons h3 h4=>
    rw [List.flatten_cons,List.flatten_cons] at he
    obtain ⟨e1,e2⟩:=List.append_inj he (by rw [A.len h1,A.len h3])
    subst e1
    rw [A.inj h1 h3,flat_inj (Nat.succ.inj hn) h2 h4 e2]
 | [],_::_,_,_,hn,_,_,_=>by cases hn
 | _::_,[],_,_,hn,_,_,_=>by cases hn
def Ls {α:Type}(A:Ce α) (xs:List α) (v:AV):Prop:=∃ ls,All2 A.r xs ls∧Sl A.k xs.length ls.flatten v∧xs.length≤9223372036854775807
theorem Ls.inj {α:Type}{A:Ce α}{xs ys:List α}{v:AV}(h:Ls A xs v) (h':Ls A ys v):xs=ys:=by
 obtain ⟨ls,a,b,_⟩:=h
 obtain ⟨ms,c,d,_⟩:=h'
 exact flat_inj (b.n_inj d) a c (b.l_inj d)
theorem Ls.hf {α:Type}{A:Ce α}{xs:List α}{v:AV}(h:Ls A xs v):AM.hf v=true:=by obtain ⟨_,_,h,_⟩:=h;exact h.hf
theorem Ls.nth {α:Type}{A:Ce α}{xs:List α}{v:AV}(h:Ls A xs v):∃ cs,Sl A.k xs.length cs v∧xs.length≤9223372036854775807∧∀ i,i<xs.length->∃ x c l,xs[i]?=some x∧A.r x c∧cs.drop (i*A.k)=c++l:=by
 obtain ⟨ls,a,b,hb⟩:=h
 refine ⟨_,b,hb,fun i hi=>?_⟩
 obtain ⟨c,h1,h2⟩:=a.get (List.getElem?_eq_getElem hi)
 have ht:=flat_len (a.take i)
 rw [List.length_take,Nat.min_eq_left (Nat.le_of_lt hi)] at ht
 have hl:i<ls.length:=(List.getElem?_eq_some_iff.1 h1).1
 have hc:ls[i]=c:=(List.getElem?_eq_some_iff.1 h1).2
 refine ⟨_,c,(ls.drop (i+1)).flatten,List.getElem?_eq_getElem hi,h2,?_⟩
 conv=>lhs;rw [← List.take_append_drop i ls,List.flatten_append,← ht,List.drop_left,List.drop_eq_getElem_cons hl,List.flatten_cons,hc]
def Ce.sl {α:Type}(A:Ce α):Ce (List α):=⟨1,fun xs l=>∃ v,l=[v]∧Ls A xs v,by rintro _ _ ⟨v,rfl,_⟩;rfl,by rintro _ _ ⟨v,rfl,h⟩;show (AM.hf v && true)=true;rw [h.hf];rfl,by
 rintro x y _ ⟨v,rfl,h⟩ ⟨u,e,h'⟩
 injection e with e _;subst e
 exact h.inj h'⟩
def Ce.pr {α β:Type}(A:Ce α) (B:Ce β):Ce (α×β):=⟨A.k+B.k,fun x l=>∃ a b,l=a++b∧A.r x.1 a∧B.r x.2 b,by rintro _ _ ⟨a,b,rfl,h,h'⟩;rw [List.length_append,A.len h,B.len h'],by rintro _ _ ⟨a,b,rfl,h,h'⟩;exact hfs_app (A.hf h) (B.hf h'),by
 rintro ⟨x,x'⟩ ⟨y,y'⟩ _ ⟨a,b,rfl,h1,h2⟩ ⟨c,d,e,h3,h4⟩
 obtain ⟨rfl,rfl⟩:=List.append_inj e (by rw [A.len h1,A.len h3])
 have e1:=A.inj h1 h3
 have e2:=B.inj h2 h4
 dsimp only at e1 e2
 rw [e1,e2]⟩
structure Sg (γ:Type) where
 r:γ->List AV->Prop
 hf:∀ {x l},r x l->hfs l=true
 inj:∀ {x y l},r x l->r y l->x=y
def Sg.nil:Sg Unit:=⟨fun _ l=>l=[],by rintro _ _ rfl;rfl,fun _ _=>rfl⟩
def Sg.v {α γ:Type}(A:Ce α) (S:Sg γ):Sg (α×γ):=⟨fun x l=>∃ v b,l=v::b∧A.r x.1 [v]∧S.r x.2 b,by
 rintro _ _ ⟨v,b,rfl,h,h'⟩
 have h1:=A.hf h
 show (AM.hf v && hfs b)=true
 rw [S.hf h',show AM.hf v=true by simpa [hfs] using h1];rfl,by
 rintro ⟨x,x'⟩ ⟨y,y'⟩ _ ⟨a,b,rfl,h1,h2⟩ ⟨c,d,e,h3,h4⟩
 cases e
 have e1:=A.inj h1 h3
 have e2:=S.inj h2 h4
 dsimp only at e1 e2
 rw [e1,e2]⟩
def Sg.g {α γ:Type}(A:Ce α) (S:Sg γ):Sg (α×γ):=⟨fun x l=>∃ c b,l=.agg c::b∧A.r x.1 c∧S.r x.2 b,by
 rintro _ _ ⟨v,b,rfl,h,h'⟩
 show (hfs v && hfs b)=true
 rw [S.hf h',A.hf h];rfl,by
 rintro ⟨x,x'⟩ ⟨y,y'⟩ _ ⟨a,b,rfl,h1,h2⟩ ⟨c,d,e,h3,h4⟩
 cases e
 have e1:=A.inj h1 h3
 have e2:=S.inj h2 h4
 dsimp only at e1 e2
 rw [e1,e2]⟩
structure Fn (γ:Type) where
 S:Sg γ
 ok:γ->Prop
 out:γ->AV
def Fn.R {γ:Type}(F:Fn γ) (args:List AV) (u:AV):Prop:=∃ x,F.S.r x args∧F.ok x∧u=F.out x
noncomputable abbrev Fn.O {γ:Type}(F:Fn γ):Ov:=relO F.R
variable {f:Nat}
theorem Fn.mk_ok {γ:Type}{F:Fn γ}(hb:HasBody P f) (h:∀ x args,F.S.r x args->F.ok x->AM.hf (F.out x)=true∧C P f args St0 (fun v s'=>Frz s' v (F.out x))):OvOk P f F.O:=
 relO_of hb fun args u ⟨x,h1,h2,e⟩=>by subst e;exact ⟨F.S.hf h1,h x args h1 h2⟩
theorem Fn.u {γ:Type}{e:Env}{f:Nat}{s:St}{k:AV->St->Prop}{F:Fn γ}{args:List AV}(hi:Con e f F.O) (x:γ) (h1:F.S.r x args) (h2:F.ok x) (hk:k (F.out x) s):ESc e f args s k:=by
 refine ESc.rel hi ⟨_,x,h1,h2,rfl⟩ ?_
 rintro u' ⟨y,g1,_,rfl⟩
 rw [F.S.inj g1 h1];exact hk
noncomputable def pB (p:Prop):AV:=.bool (open Classical in decide p)
variable {p:Prop}{s:St}
theorem pT (h:p):Frz s (.bool true) (pB p):=by classical unfold pB;rw [decide_eq_true h];exact .plain _ rfl
theorem pF (h:¬p):Frz s (.bool false) (pB p):=by classical unfold pB;rw [decide_eq_false h];exact .plain _ rfl
noncomputable def bF {γ:Type}(S:Sg γ) (ok p:γ->Prop):Fn γ:=⟨S,ok,fun x=>pB (p x)⟩
variable {e:Env}
theorem bF_ok {γ:Type}{S:Sg γ}{ok p:γ->Prop}{fn:Func}{code:AC}{res:List ARes}(hE:EM P e) (g:GK f fn (.mk code res)) (h:∀ x args,S.r x args->ok x->∀ K:AV->St->Prop,(p x->∀ s,K (.bool true) s)->(¬p x->∀ s,K (.bool false) s)->VW P e 0 code (initT args 0 .lf) St0 none [] (EEnd res K)):OvOk P f (bF S ok p).O:=
 Fn.mk_ok g.b fun x args h1 h2=>⟨rfl,C.of_G hE g (h x args h1 h2 _ (fun q _=>pT q) fun q _=>pF q)⟩
theorem bF.u {γ:Type}{S:Sg γ}{ok p:γ->Prop}{e:Env}{f:Nat}{s:St}{k:AV->St->Prop}{args:List AV}(hi:Con e f (bF S ok p).O) (x:γ) (h1:S.r x args) (h2:ok x) (ht:p x->k (.bool true) s) (hf:¬p x->k (.bool false) s):ESc e f args s k:=by
 classical
 refine Fn.u hi x h1 h2 ?_
 show k (pB (p x)) s
 unfold pB
 by_cases h:p x
 ·rw [decide_eq_true h];exact ht h
 ·rw [decide_eq_false h];exact hf h
variable {t:AT}
theorem W.up (hE:EM P e) {k:Nat}{rd:Option Nat}{ac:AC}{Q:EQ}(n:Nat) (tl:Nat->List (Nat×AV)) (os:Nat->List AObj) (I:Nat->Prop) (h0:I 0) (ha:Tells P k t s [] (ofL (tl 0)) (allocs St0 (os 0)) [])
 (hr:∀ i,i≤n->I i->VW P e k ac (ofL (tl i)) (allocs St0 (os i)) rd [] (Then (fun t s ds=>ds=[]∧i<n∧I (i+1)∧Tells P k t s [] (ofL (tl (i+1))) (allocs St0 (os (i+1))) []) Q)):W P k rd (.loop ac) t s [] Q:=by
 refine W.loopT tl os (fun i=>n-i) (fun i=>i≤n∧I i) 0 ⟨Nat.zero_le _,h0⟩ ha ?_
 rintro i ⟨hi,hI⟩
 refine (vs_sound hE (hr i hi hI)).mono ?_
 intro x t s ds hq
 cases x with
 | normal=>
  obtain ⟨rfl,h1,h2,h3⟩:=hq
  exact ⟨rfl,i+1,⟨h1,h2⟩,by omega,h3⟩
 | exit id=>exact hq
 | ret=>exact hq
variable {k:AV->St->Prop}{x y:AO}{es n i:Nat}{c:List AV}{q:IntKind}
theorem EPrim.ixsL {v:AV}(hx:ev x t=.some v) (hs:Sl es n l v) (hy:ev y t=.some (.int q (i:Int))) (h:i<n) (hd:l.drop (i*es)=c) (hk:k (.fp c) s):EPrim (.ixs es x y) t s k:=
 EPrim.ixsZ hx hs hy (by omega) (by omega) (by rw [Int.toNat_natCast,hd];exact hk)
variable {a:Int}
theorem EPrim.ixsM {v:AV}(hx:ev x t=.some v) (hs:Sl es n l v) (hy:ev y t=.some (.int q a)) (ha:a=i) (h:i<n) (hd:l.drop (i*es)=c) (hk:k (.fp c) s):EPrim (.ixs es x y) t s k:=
 EPrim.ixsL hx hs (by rw [hy,ha]) h hd hk
theorem nq23 {v:AV}(hs:Sl es n l v) (h:i<n) (hd:l.drop (i*es)=c) (hk:k (.fp c) s) (hx:ev x t=.some v:=by rfl) (hy:ev y t=.some (.int q (i:Int)):=by rfl):EPrim (.ixs es x y) t s k:=EPrim.ixsL hx hs hy h hd hk
theorem nq24 {v:AV}(hs:Sl es n l v) (ha:a=i) (h:i<n) (hd:l.drop (i*es)=c) (hk:k (.fp c) s) (hx:ev x t=.some v:=by rfl) (hy:ev y t=.some (.int q a):=by rfl):EPrim (.ixs es x y) t s k:=EPrim.ixsM hx hs hy ha h hd hk
theorem all_succ {p:Nat->Prop}(h:∀ k<i,p k) (hi:p i):∀ k<i+1,p k:=fun k hk=>by
 rcases Nat.lt_succ_iff_lt_or_eq.1 hk with h'|rfl
 ·exact h k h'
 ·exact hi
theorem mem_at {α:Type}{l:List α}{p:α->Prop}(h:∀ k<l.length,∀ x,l[k]?=some x->p x):∀ x ∈ l,p x:=fun x hx=>by
 obtain ⟨k,hk⟩:=List.getElem?_of_mem hx
 exact h k (List.getElem?_eq_some_iff.1 hk).1 x hk
theorem i64_wf {n:Int}(h:i64B n):(Lit.int .i64 n).wf=true:=by
 unfold i64B at h
 simp [Lit.wf,IntKind.min,IntKind.max,IntKind.bits,IntKind.signed]
 omega
theorem u32_wf {n:Int}(h:u32B n):(Lit.int .u32 n).wf=true:=by
 unfold u32B at h
 simp [Lit.wf,IntKind.min,IntKind.max,IntKind.bits,IntKind.signed]
 omega
end Go.AM
