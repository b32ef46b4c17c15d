/- Contracts of functions over the abstract machine. No conditions. -/
import Derived.Test.YtacmbogmbfmjeaaGreatXA1
import Derived.Test.YtacmbogmbfmjeaaGreatXA2
import Derived.Test.YtacmbogmbfmjeaaGreatXA3
import Derived.Test.YtacmbogmbfmjeaaGreatXA4
import Derived.Test.YtacmbogmbfmjeaaGreatXA5
import Derived.Test.YtacmbogmbfmjeaaGreatXA6
import Derived.Test.YtacmbogmbfmjeaaGreatAM5
set_option linter.unusedVariables false
set_option linter.unusedSimpArgs false
set_option maxRecDepth 100000
namespace Go.AM
attribute [local irreducible] W
open X
theorem DA {b:Bool}{y z:Prop}(h:b=true) (hy:y):(Bool.rec (motive:=fun _=>Prop) z y b):=by rw [h];exact hy
section
variable {t:AT}{s:St}{k:AV->St->Prop}{x y:AO}
theorem UP {es r o m n:Nat}{c:Option Nat}{l:List AV}{v:AV}{s1:St}(hx:ev x t=.some (.sl r o m c)) (hy:ev y t=.some v) (hv:Sl es n l v) (hn:n≤m) (hst:storeAt r o l s=some s1) (hk:∀ s',(s'=s∧l=[])∨s'=s1->k (.int .i64 (Int.ofNat n)) s'):EPrim (.copy es x y) t s k:=by
 rcases hv with ⟨rfl,rfl,h0⟩|⟨rfl,rfl,h0⟩|⟨c',rfl,hl⟩
 ·refine EPrim.mk (v:=.int .i64 (Int.ofNat 0)) (s':=s) (fun e rec=>?_) (hk s (.inl ⟨rfl,h0⟩))
  show wth x t _=_;unfold wth;rw [hx]
  show wth y t _=_;unfold wth;rw [hy]
  rfl
 ·refine EPrim.mk (v:=.int .i64 (Int.ofNat 0)) (s':=s) (fun e rec=>?_) (hk s (.inl ⟨rfl,h0⟩))
  show wth x t _=_;unfold wth;rw [hx]
  show wth y t _=_;unfold wth;rw [hy]
  rfl
 ·refine EPrim.mk (v:=.int .i64 (Int.ofNat n)) (s':=s1) (fun e rec=>?_) (hk s1 (.inr rfl))
  show wth x t _=_;unfold wth;rw [hx]
  show wth y t _=_;unfold wth;rw [hy]
  show (Option.rec .fail (fun cs=>Gm (C4 (Nat.min n m)) (storeAt r o cs s)) (Bo (Nat.mul (Nat.min n m) es) l):RV)=_
  have hmin:Nat.min n m=n:=by show min n m=n;omega
  rw [hmin]
  have ht:Bo (Nat.mul n es) l=some l:=by
   have:=Fz (l:=l) (n:=n*es) (by omega)
   rw [Zps (by omega)] at this
   exact this
  rw [ht]
  show Gm _ (storeAt r o l s)=_
  rw [hst];rfl
theorem LU {q:IntKind}{a b:Nat}(hx:ev x t=.some (.int q (Int.ofNat a))) (hy:ev y t=.some (.int q (Int.ofNat b))) (h1:a≠b->k (.bool true) s) (h2:a=b->k (.bool false) s):EPrim (.bin .neq x y) t s k:=
 Kq hx hy (fun h=>h1 (fun e=>h (by rw [e]))) (fun h=>h2 (Int.ofNat.inj h))
end
def RZ:AC:=match PQ with|.mk c _=>c
def Ah (bs:List Nat):List Nat:=if bs=[] then List.replicate 128 0 else bs
def Dr:List AV:=Ad (List.replicate 128 0)
variable {s:St}{r e n:Nat}{cs:List AV}
theorem Ks (h:s.get r=some (.row e cs)) (hl:cs.length=n):load r 0 n s=some cs:=by
 rw [G8 h (by omega),List.drop_zero,Zps (by omega)]
theorem LS {old:List AV}(h:s.get r=some (.row e old)) (hl:cs.length=old.length):storeAt r 0 cs s=some (s.put r (.row e cs)):=by
 rw [FU h (by omega),List.take_zero,List.nil_append,Zqf (by omega),Zqu]
theorem QX {t:AT}{i:Nat}{vs:List AV}{l:List ARes}(ht:t.get i=some (.ptr r 0)) (hl:load r 0 n s=some cs) (h:Ds t s l=some vs):Ds t s (.cells i n::l)=some (.agg cs::vs):=by
 show (Option.rec none (fun v=>Option.rec none (fun vs=>some (v::vs)) (Ds t s l)) (Option.rec none (fun v=>PR.rec none (fun r o=>Option.rec none (fun cs=>some (.agg cs)) (load r o n s)) (fun _=>none) (Bs v)) (t.get i)):Option (List AV))=_
 rw [ht,h]
 show (Option.rec none (fun v=>some (v::vs)) (Option.rec none (fun cs=>some (.agg cs)) (load r 0 n s)):Option (List AV))=_
 rw [hl]
theorem Zci (e:Env) (s:St) (v:AV) (bs:List Nat) (hv:Sl 1 bs.length (Ad bs) v) (hN:s.next<1000000000) (K:AV->St->Prop)
 (k1:bs.length≠0->bs.length≠128->∀ s',s'.next=s.next+1->(∀ i,i<s.next->s'.get i=s.get i)->K (.tup [.agg (Ad (List.replicate 128 0)),.int .i64 3]) s')
 (k2:(Ah bs).length=128->∀ s',s'.next=s.next+1->(∀ i,i<s.next->s'.get i=s.get i)->K (.tup [.agg (Ad (Ah bs)),.int .i64 0]) s'):
 VE e RZ (An [v] 0 .lf) s none [] (Cq [.cells 2 128,.tmp 3] K):=by
 obtain ⟨s1,hs1⟩:∃ s1,s.alloc (.row 170 Dr)=s1:=⟨_,rfl⟩
 have g1:s1.get s.next=some (.row 170 Dr):=by rw [← hs1];exact QB hN
 have g2:∀ i,i<s.next->s1.get i=s.get i:=fun i hi=>by rw [← hs1];exact Ie (by omega)
 have g3:s1.next=s.next+1:=by rw [← hs1];exact CH _ _
 have hz:(Dr).length=128:=by simp [Dr,B2]
 conv=>whnf
 refine NX rfl hv ?_;conv=>whnf
 have main:bs.length=0∨bs.length=128->(Ah bs).length=128:=by
  intro h
  unfold Ah
  split
  ·simp
  ·rename_i hne
   rcases h with h|h
   ·exact absurd (Zqh.1 h) hne
   ·exact h
 have hcopy:bs.length=0∨bs.length=128->∃ sc,storeAt s.next 0 (Ad bs) s1=some sc∧∀ s',(s'=s1∧Ad bs=[])∨s'=sc->s'.next=s.next+1∧(∀ i,i<s.next->s'.get i=s.get i)∧s'.get s.next=some (.row 170 (Ad (Ah bs))):=by
  intro h
  refine ⟨_,FU g1 (by rw [B2,hz];omega),?_⟩
  rintro s' (⟨rfl,h0⟩|rfl)
  ·refine ⟨g3,g2,?_⟩
   have:bs=[]:=List.map_eq_nil_iff.1 h0
   rw [g1];unfold Ah;rw [Zpn this];rfl
  ·refine ⟨by rw [Dx];exact g3,fun i hi=>by rw [Ig (by omega)];exact g2 i hi,?_⟩
   rw [LK (by omega)]
   rcases h with h|h
   ·have:bs=[]:=Zqh.1 h
    subst this;simp [Ad,Ah,Dr]
   ·have hne:bs≠[]:=fun e=>by subst e;cases h
    unfold Ah;rw [Zpr hne,List.take_zero,List.nil_append,Zqf (by rw [B2,hz];omega),Zqu]
 refine LU (b:=0) rfl rfl (fun h=>?_) (fun h=>?_)
 ·conv=>whnf
  refine NX rfl hv ?_;conv=>whnf
  refine LU (b:=128) rfl rfl (fun h'=>?_) (fun h'=>?_)
  ·conv=>whnf
   refine BE Dr (by show load s.next 0 128 (s.alloc (.row 170 Dr))=_;rw [hs1];exact Ks g1 hz) ?_;conv=>whnf
   refine BE (s1.put s.next (.row 170 Dr)) (by show storeAt s.next 0 Dr (s.alloc (.row 170 Dr))=_;rw [hs1];exact LS g1 rfl) ?_
   obtain ⟨s2,hs2⟩:∃ s2,s1.put s.next (.row 170 Dr)=s2:=⟨_,rfl⟩
   have g4:s2.get s.next=some (.row 170 Dr):=by rw [← hs2,LK (by omega)]
   have g5:∀ i,i<s.next->s2.get i=s.get i:=fun i hi=>by rw [← hs2,Ig (by omega)];exact g2 i hi
   have g6:s2.next=s.next+1:=by rw [← hs2,Dx];exact g3
   rw [hs2]
   conv=>whnf
   refine BE _ (QX rfl (Ks g4 hz) rfl) ?_
   exact k1 h h' s2 g6 g5
  ·have hn:bs.length=0∨bs.length=128:=.inr h'
   conv=>whnf
   refine EPrim.mk (v:=.sl s.next 0 128 (some 128)) (s':=s.alloc (.row 170 Dr)) (fun e rec=>rfl) ?_;conv=>whnf
   obtain ⟨sc,hsc,hall⟩:=hcopy hn
   refine UP (s1:=sc) rfl rfl hv (by omega) (by show storeAt s.next 0 (Ad bs) (s.alloc (.row 170 Dr))=_;rw [hs1];exact hsc) (fun s2 hs2=>?_)
   have hs2':(s2=s1∧Ad bs=[])∨s2=sc:=by rw [← hs1];exact hs2
   obtain ⟨a1,a2,a3⟩:=hall s2 hs2'
   have hp:=main hn
   conv=>whnf
   refine BE (Ad (Ah bs)) (Ks a3 (by rw [B2];exact hp)) ?_;conv=>whnf
   refine DA (by show Nat.beq (A7 (Ad (Ah bs))) 128=true;rw [CY,B2,hp];rfl) ?_;conv=>whnf
   refine BE (s2.put s.next (.row 170 (Ad (Ah bs)))) (LS a3 rfl) ?_
   obtain ⟨s3,hs3⟩:∃ s3,s2.put s.next (.row 170 (Ad (Ah bs)))=s3:=⟨_,rfl⟩
   have g4:s3.get s.next=some (.row 170 (Ad (Ah bs))):=by rw [← hs3,LK (by omega)]
   have g5:∀ i,i<s.next->s3.get i=s.get i:=fun i hi=>by rw [← hs3,Ig (by omega)];exact a2 i hi
   have g6:s3.next=s.next+1:=by rw [← hs3,Dx];exact a1
   rw [hs3]
   conv=>whnf
   refine BE _ (QX rfl (Ks g4 (by rw [B2];exact hp)) rfl) ?_
   exact k2 hp s3 g6 g5
 ·have hn:bs.length=0∨bs.length=128:=.inl h
  conv=>whnf
  refine EPrim.mk (v:=.sl s.next 0 128 (some 128)) (s':=s.alloc (.row 170 Dr)) (fun e rec=>rfl) ?_;conv=>whnf
  obtain ⟨sc,hsc,hall⟩:=hcopy hn
  refine UP (s1:=sc) rfl rfl hv (by omega) (by show storeAt s.next 0 (Ad bs) (s.alloc (.row 170 Dr))=_;rw [hs1];exact hsc) (fun s2 hs2=>?_)
  have hs2':(s2=s1∧Ad bs=[])∨s2=sc:=by rw [← hs1];exact hs2
  obtain ⟨a1,a2,a3⟩:=hall s2 hs2'
  have hp:=main hn
  conv=>whnf
  refine BE (Ad (Ah bs)) (Ks a3 (by rw [B2];exact hp)) ?_;conv=>whnf
  refine DA (by show Nat.beq (A7 (Ad (Ah bs))) 128=true;rw [CY,B2,hp];rfl) ?_;conv=>whnf
  refine BE (s2.put s.next (.row 170 (Ad (Ah bs)))) (LS a3 rfl) ?_
  obtain ⟨s3,hs3⟩:∃ s3,s2.put s.next (.row 170 (Ad (Ah bs)))=s3:=⟨_,rfl⟩
  have g4:s3.get s.next=some (.row 170 (Ad (Ah bs))):=by rw [← hs3,LK (by omega)]
  have g5:∀ i,i<s.next->s3.get i=s.get i:=fun i hi=>by rw [← hs3,Ig (by omega)];exact a2 i hi
  have g6:s3.next=s.next+1:=by rw [← hs3,Dx];exact a1
  rw [hs3]
  conv=>whnf
  refine BE _ (QX rfl (Ks g4 (by rw [B2];exact hp)) rfl) ?_
  exact k2 hp s3 g6 g5
def RY:AC:=match PP with|.mk c _=>c
def Lj (a z:Int):Bool:=decide (1≤z∧z≤4∧0≤a∧a≤128-z)
theorem Zga (e:Env) (s:St) (a z:Int) (K:AV->St->Prop) (h:K (.bool (Lj a z)) s):VE e RY (An [.int .i64 a,.int .i64 z] 0 .lf) s none [] (Cq [.tmp 4] K):=by
 unfold Lj at h
 conv=>whnf
 refine DV rfl rfl (fun h1=>?_) (fun h1=>?_)
 ·conv=>whnf
  refine NW rfl rfl (fun h2=>?_) (fun h2=>?_)
  ·conv=>whnf
   refine DV rfl rfl (fun h3=>?_) (fun h3=>?_)
   ·conv=>whnf
    refine QT rfl rfl (by omega) ?_;conv=>whnf
    refine NW rfl rfl (fun h4=>?_) (fun h4=>?_)
    ·conv=>whnf
     rw [Zpo ⟨h1,h2,h3,h4⟩] at h;exact h
    ·conv=>whnf
     rw [Zp0 (by omega)] at h;exact h
   ·conv=>whnf
    rw [Zp0 (by omega)] at h;exact h
  ·conv=>whnf
   rw [Zp0 (by omega)] at h;exact h
 ·conv=>whnf
  rw [Zp0 (by omega)] at h;exact h
section
variable {t:AT}{s:St}{k:AV->St->Prop}{x y:AO}
end
theorem WX {bs:List Nat}(h:(Ah bs).length=128):¬ (bs.length≠0∧bs.length≠128):=by
 unfold Ah at h
 split at h
 ·rename_i e;subst e;simp
 ·rintro ⟨_,h2⟩;exact h2 h
end Go.AM
namespace Go.AM
attribute [local irreducible] W
open X
section
variable {t:AT}{s:St}{k:AV->St->Prop}{x y:AO}
theorem Zaw {q:IntKind}{a:Nat}(hx:ev x t=.some (.int q (Int.ofNat a))) (hk:k (.int .u8 (Int.ofNat (a % 256))) s):EPrim (.cvi .u8 x) t s k:=by
 refine EPrim.mk (v:=.int .u8 (Int.ofNat (a % 256))) (s':=s) (fun e rec=>?_) hk
 show wth x t _=_;unfold wth;rw [hx]
 rfl
end
def Zkn:AC:=match Qb with|.mk c _=>c
def Co (bs:List Nat) (a n:Nat):Nat->List Nat
 | 0=>bs
 | i+1=>(Co bs a n i).set (a+i) (n / 2^(8*i) % 256)
theorem LO (bs:List Nat) (a n:Nat):∀ i,(Co bs a n i).length=bs.length
 | 0=>rfl
 | i+1=>by rw [Co,List.length_set,LO bs a n i]
theorem Zld (bs:List Nat) (i b:Nat):Ad (bs.set i b)=(Ad bs).set i (.int .u8 (Int.ofNat b)):=by simp [Ad,List.map_set,byV]
def F9 (a z n:Int):Bool:=Lj a z && decide (0≤n∧n.toNat / 2^(8*z.toNat)=0)
theorem Zh4 (e:Env) (hE:EM P e) (h130:Inl e 217 RZ [.cells 2 128,.tmp 3]) (h131:Inl e 218 RY [.tmp 4]) (v:AV) (bs:List Nat) (hv:Sl 1 bs.length (Ad bs) v) (a z n:Int) (Q:AV->St->Prop)
 (k1:bs.length≠0->bs.length≠128->∀ s,Q (.tup [.nils,.int .i64 3]) s)
 (k2:(Ah bs).length=128->F9 a z n=false->∀ s,Q (.tup [.nils,.int .i64 2]) s)
 (k3:(Ah bs).length=128->F9 a z n=true->∀ s r,s.get r=some (.row 170 (Ad (Co (Ah bs) a.toNat n.toNat z.toNat)))->Q (.tup [.sl r 0 128 (some 128),.int .i64 0]) s):
 VW P e 0 Zkn (An [v,.int .i64 a,.int .i64 z,.int .i64 n] 0 .lf) St0 none [] (Cq [.tmp 8,.tmp 9] Q):=by
 conv=>whnf
 refine ESc.inl h130 (Zci e _ v bs hv (by decide) _ (fun h1 h2 s' n1 n2=>?_) (fun h1 s' n1 n2=>?_))
 ·have hn1:s'.next=1:=n1
  conv=>whnf
  refine BE _ (LS (e:=170) (old:=Dr) (QB (by omega)) rfl) ?_;conv=>whnf
  refine LU (a:=3) (b:=0) rfl rfl (fun _=>?_) (fun h=>by cases h);conv=>whnf
  exact k1 h1 h2 _
 ·have hn1:s'.next=1:=n1
  have hbl:(Ad (Ah bs)).length=128:=by rw [B2];exact h1
  obtain ⟨s1,hs1⟩:∃ s1,s'.alloc (.row 170 Dr)=s1:=⟨_,rfl⟩
  have g1:s1.get s'.next=some (.row 170 Dr):=by rw [← hs1];exact QB (by omega)
  conv=>whnf
  refine DA (by show Nat.beq (A7 (Ad (Ah bs))) 128=true;rw [CY,hbl];rfl) ?_;conv=>whnf
  refine BE (s1.put s'.next (.row 170 (Ad (Ah bs)))) (by show storeAt s'.next 0 (Ad (Ah bs)) (s'.alloc (.row 170 Dr))=_;rw [hs1];exact LS g1 (by rw [hbl];rfl)) ?_
  obtain ⟨s2,hs2⟩:∃ s2,s1.put s'.next (.row 170 (Ad (Ah bs)))=s2:=⟨_,rfl⟩
  have g4:s2.get s'.next=some (.row 170 (Ad (Ah bs))):=by rw [← hs2,LK (by omega)]
  rw [hs2]
  conv=>whnf
  refine LU (a:=0) (b:=0) rfl rfl (fun h=>absurd rfl h) (fun _=>?_);conv=>whnf
  refine ESc.inl h131 (Zga e _ a z _ ?_)
  cases hf:Lj a z with
  | false=>
   conv=>whnf
   refine Ik rfl ?_;conv=>whnf
   exact k2 h1 (by unfold F9;rw [hf];rfl) _
  | true=>
   conv=>whnf
   refine Jn rfl ?_;conv=>whnf
   have hfz:=Zq0 hf
   obtain ⟨A,rfl⟩:∃ A:Nat,a=Int.ofNat A:=⟨a.toNat,by show a=(a.toNat:Int);omega⟩
   obtain ⟨Z,rfl⟩:∃ Z:Nat,z=Int.ofNat Z:=⟨z.toNat,by show z=(z.toNat:Int);omega⟩
   have eA:Int.ofNat A=(A:Int):=rfl
   have eZ:Int.ofNat Z=(Z:Int):=rfl
   refine Bl rfl rfl (fun hneg=>?_) (fun hneg=>?_)
   ·conv=>whnf
    exact k2 h1 (by unfold F9;rw [Zp0 (by omega)];simp) _
   ·obtain ⟨M,rfl⟩:∃ M:Nat,n=Int.ofNat M:=⟨n.toNat,by show n=(n.toNat:Int);omega⟩
    conv=>whnf
    refine Cs rfl rfl (by omega) ?_;conv=>whnf
    refine NV (n:=8*Z) rfl rfl (by show 8*Z≤64;omega) ?_;conv=>whnf
    refine LU (b:=0) rfl rfl (fun h=>?_) (fun h=>?_)
    ·conv=>whnf
     exact k2 h1 (by unfold F9;rw [Zp0 (fun hh=>h hh.2)];simp) _
    ·conv=>whnf
     have hok:F9 (Int.ofNat A) (Int.ofNat Z) (Int.ofNat M)=true:=by
      unfold F9;rw [hf,Zpo ⟨hneg,h⟩];rfl
     refine M0 (α:=Nat) (fun i=>[(1,.int .i64 (Int.ofNat A)),(3,.int .i64 (Int.ofNat M)),(10,.ptr 0 0),(36,.int .i64 (Int.ofNat Z)),(37,.int .i64 (Int.ofNat i))]) (fun i=>[.row 170 (Ad (Co (Ah bs) A M i))]) (fun i=>Z-i)
      (fun i=>i≤Z) 0 [s'.next] (Zp2 _) ⟨by simp,⟨⟨rfl,rfl⟩,⟨rfl,rfl⟩,⟨rfl,rfl⟩,⟨rfl,rfl⟩,⟨rfl,rfl⟩,trivial⟩,⟨⟨?_,?_⟩,trivial⟩⟩ ?_
     ·exact Hp _ (BH _)
     ·rw [g4];show _=some (AObj.row 170 (AF _ (Ad (Ah bs))));rw [G6 _ (BH _)]
     intro i hi
     have hlen:(Ad (Co (Ah bs) A M i)).length=128:=by rw [B2,LO];exact h1
     refine Ca hE ?_;conv=>whnf
     refine Vh rfl rfl (fun h=>?_) (fun h=>?_)
     ·conv=>whnf
      refine Zce rfl rfl (by omega) ?_;conv=>whnf
      refine Cs rfl rfl (by have:Int.ofNat i=(i:Int):=rfl;omega) ?_;conv=>whnf
      refine NV (n:=8*i) rfl rfl (by show 8*i≤64;omega) ?_;conv=>whnf
      refine Zaw rfl ?_;conv=>whnf
      refine NZ rfl rfl (by omega) ?_;conv=>whnf
      refine BE ((Aj St0 [.row 170 (Ad (Co (Ah bs) A M i))]).put 0 (.row 170 (Ad (Co (Ah bs) A M (i+1))))) (by
       rw [Zpy,Zqm]
       show storeAt 0 (A+i) [AV.int .u8 (Int.ofNat (M / 2^(8*i) % 256))] (Aj St0 [.row 170 (Ad (Co (Ah bs) A M i))])=_
       rw [FU (e:=170) (cs:=Ad (Co (Ah bs) A M i)) rfl (by rw [hlen];simp;omega)]
       rw [Co,Zld,List.set_eq_take_append_cons_drop,Zpn (by rw [hlen];omega)]
       simp) ?_
      conv=>whnf
      refine Vi rfl rfl rfl (by omega) ?_;conv=>whnf
      refine ⟨rfl,i+1,by omega,by omega,[0],⟨by decide,⟨r9,r9,r9,r9,r9,trivial⟩,⟨⟨Hp _ (BH _),?_⟩,trivial⟩⟩⟩
      show _=some (AObj.row 170 (AF _ (Ad (Co (Ah bs) A M (i+1)))));rw [G6 _ (BH _)];rfl
     ·have:i=Z:=by omega
      subst this
      conv=>whnf
      refine EPrim.mk (v:=.sl 0 0 128 (some 128)) (s':=Aj St0 [.row 170 (Ad (Co (Ah bs) A M i))]) (fun e rec=>rfl) ?_;conv=>whnf
      exact k3 h1 hok _ 0 rfl
theorem Znq {v:AV}{bs:List Nat}(h:I1 St0 v=some bs):Sl 1 bs.length (Ad bs) v∧∀ b ∈ bs,b<256:=by
 obtain ⟨v2,hF,hS,hb⟩:=U2 h
 refine ⟨?_,hb⟩
 cases hF with
 | plain _ _=>exact hS
 | sl r o n cap cap' e cs l us hg _ _ _=>cases hg
 | ptr r o e cs l us hg _ _=>cases hg
 | agg l us _=>rcases hS with ⟨h,_⟩|⟨h,_⟩|⟨c,h,_⟩ <;> cases h
 | tup l us _=>rcases hS with ⟨h,_⟩|⟨h,_⟩|⟨c,h,_⟩ <;> cases h
 | fn f xs ys us ws _ _=>rcases hS with ⟨h,_⟩|⟨h,_⟩|⟨c,h,_⟩ <;> cases h
def FH (bs:List Nat) (a z n:Int):AV:=
 if bs.length≠0∧bs.length≠128 then .tup [.nils,.int .i64 3] else if F9 a z n=true then .tup [.fz 128 (some 128) (Ad (Co (Ah bs) a.toNat n.toNat z.toNat)),.int .i64 0] else .tup [.nils,.int .i64 2]
theorem Zi6 (bs:List Nat) (a z n:Int):hf (FH bs a z n)=true:=by
 unfold FH
 split
 ·rfl
 ·split <;> rfl
noncomputable def Nj (args:List AV) (s:St):RV:=match args with
 | [v,.int .i64 a,.int .i64 z,.int .i64 n]=>Option.rec .fail (fun bs=>.ok (FH bs a z n) s) (I1 St0 v)
 | _=>.fail
theorem Zh5 {e:Env}(hE:EM P e) (h130:Inl e 217 RZ [.cells 2 128,.tmp 3]) (h131:Inl e 218 RY [.tmp 4]):OvOk P 206 Nj:=by
 refine ⟨g206.b,fun args s v s' h=>?_⟩
 unfold Nj at h
 split at h
 ·rename_i u a z n
  obtain ⟨bs,hbs,h⟩:=AJ h
  obtain ⟨rfl,rfl⟩:=A0 h
  obtain ⟨hSl,hlt⟩:=Znq hbs
  have hfs2:hfs [u,.int .i64 a,.int .i64 z,.int .i64 n]=true:=by simp [hfs,hSl.hf];exact ⟨rfl,rfl,rfl⟩
  refine MI hfs2 (Zi6 bs a z n) ?_ s
  refine C.of_G hE g206 (Zh4 e hE h130 h131 u bs hSl a z n _ (fun h1 h2 s=>?_) (fun h0 h1 s=>?_) (fun h0 h1 s r hr=>?_))
  ·have e1:FH bs a z n=.tup [.nils,.int .i64 3]:=by unfold FH;rw [Zpn ⟨h1,h2⟩]
   rw [e1];exact .plain _ rfl
  ·have e1:FH bs a z n=.tup [.nils,.int .i64 2]:=by unfold FH;rw [Zpr (WX h0),Zpr (by rw [h1];simp)]
   rw [e1];exact .plain _ rfl
  ·have e1:FH bs a z n=.tup [.fz 128 (some 128) (Ad (Co (Ah bs) a.toNat n.toNat z.toNat)),.int .i64 0]:=by unfold FH;rw [Zpr (WX h0),Zpn h1]
   rw [e1]
   exact .tup _ _ (.cons (.sl r 0 128 (some 128) (some 128) 170 _ _ _ hr (fun i x hx=>by rw [Zpy];exact hx) (Mw _) (.inr rfl)) (.cons (.plain _ rfl) .nil))
 ·cases h
end Go.AM
namespace Go.AM
attribute [local irreducible] W
open X
def crcT:List Nat:=[0x00000000,0x105ec76f,0x20bd8ede,0x30e349b1,0x417b1dbc,0x5125dad3,0x61c69362,0x7198540d,0x82f63b78,0x92a8fc17,0xa24bb5a6,0xb21572c9,0xc38d26c4,0xd3d3e1ab,0xe330a81a,0xf36e6f75]
def Nk:List Nat->Nat->Nat
 | [],_=>0
 | x::_,0=>x
 | _::l,n+1=>Nk l n
def Nu (s:Nat):Nat:=Nat.xor (Nat.div s 16) (Nk crcT (Nat.mod s 16))
def OH (s b:Nat):Nat:=Nu (Nu (Nat.xor s b))
def HC (l:List Nat) (s:Nat):Nat:=l.foldl OH s
def W7:List AV:=crcT.map fun n=>.int .u32 (Int.ofNat n)
theorem RE {m:Nat}(h0:0<m):∀ {l:List Nat}{n:Nat},(∀ x ∈ l,x<m)->Nk l n<m:=by
 intro l
 induction l with
 | nil=>intro n _;exact h0
 | cons x l ih=>intro n h;cases n with
  | zero=>exact h x (by simp)
  | succ n=>exact ih fun y hy=>h y (by simp [hy])
theorem Mu {s:Nat}(h:s<4294967296):Nu s<4294967296:=
 Zq9 (n:=32) (by show s / 16<_;omega) (RE (by decide) (by decide))
theorem Zf1:∀ {i:Nat}{l:List Nat},i<l.length->FI (l.map fun n=>AV.int .u32 (Int.ofNat n)) i=some (.int .u32 (Int.ofNat (Nk l i))):=by
 intro i l
 induction l generalizing i with
 | nil=>intro h;simp at h
 | cons x l ih=>intro h;cases i with
  | zero=>rfl
  | succ i=>exact ih (by simpa using h)
theorem VF {i:Nat}(h:i<16):load1 0 (0+i*1) (Aj St0 [.row 276 W7])=some (.int .u32 (Int.ofNat (Nk crcT i))):=by
 rw [Zpy,Zqm]
 exact Zf1 (l:=crcT) h
theorem YI (a:Nat):a &&& 15=a % 16:=Nat.and_two_pow_sub_one_eq_mod a 4
theorem Zc6 (e:Env) (hE:EM P e) (hW:Inl e 222 (match JY with|.mk c _=>c) (match JY with|.mk _ r=>r)) (s0:Nat) (h0:s0<4294967296) (bs:List Nat) (hb:∀ b ∈ bs,b<256) (hlen:bs.length<9223372036854775807) (v:AV) (hv:Sl 1 bs.length (Ad bs) v) (Q:AV->St->Prop)
 (hQ:∀ s,Q (.int .u32 (Int.ofNat (HC bs (s0 ^^^ 4294967295) ^^^ 4294967295))) s):
 VW P e 0 (match PO with|.mk c _=>c) (An [.int .u32 (Int.ofNat s0),v] 0 .lf) St0 none [] (Cq [.tmp 4] Q):=by
 conv=>whnf
 refine ESc.inl hW ?_;conv=>whnf
 refine UO rfl h0 ?_;conv=>whnf
 refine NX rfl hv ?_;conv=>whnf
 refine M0 (α:=Nat×Nat) (fun x=>[(0,.int .u32 (Int.ofNat x.2)),(5,.ptr 0 0),(11,v),(12,.int .i64 (Int.ofNat bs.length)),(13,.int .i64 (Int.ofNat x.1))]) (fun _=>[.row 276 W7]) (fun x=>bs.length-x.1)
  (fun x=>x.1≤bs.length∧x.2=HC (bs.take x.1) (s0 ^^^ 4294967295)∧x.2<4294967296) (0,s0 ^^^ 4294967295) [1] ⟨Zp2 _,rfl,Zq9 (n:=32) h0 (by decide)⟩
  ⟨by decide,⟨r9,r9,t9 hv.hf,r9,r9,trivial⟩,⟨r9,trivial⟩⟩ ?_
 rintro ⟨i,a⟩ ⟨hi,ha,hlt⟩
 dsimp only at hi ha hlt ⊢
 refine Ca hE ?_;conv=>whnf
 refine Vh rfl rfl (fun h=>?_) (fun h=>?_)
 ·have hbi:bs[i]<256:=hb bs[i] (Zqk h)
  have hx:a ^^^ bs[i]<4294967296:=Zq9 (n:=32) hlt (by omega)
  have hy:Nu (a ^^^ bs[i])<4294967296:=Mu hx
  conv=>whnf
  refine Cz rfl hv rfl h ?_;conv=>whnf
  refine EHead.mk (ZQ h) ?_;conv=>whnf
  refine ZU rfl (by omega) ?_;conv=>whnf
  refine QF rfl rfl hlt (by omega) ?_;conv=>whnf
  refine NV (n:=4) rfl rfl (by decide) ?_;conv=>whnf
  refine UQ rfl rfl hx (by decide) ?_;conv=>whnf
  rw [YI]
  refine NZ rfl rfl (Nat.mod_lt _ (by decide)) ?_;conv=>whnf
  refine BE _ (VF (Nat.mod_lt _ (by decide))) ?_;conv=>whnf
  refine QF rfl rfl (by show (a ^^^ bs[i]) / 16<_;omega) (RE (by decide) (by decide)) ?_;conv=>whnf
  refine NV (n:=4) rfl rfl (by decide) ?_;conv=>whnf
  refine UQ rfl rfl hy (by decide) ?_;conv=>whnf
  rw [YI]
  refine NZ rfl rfl (Nat.mod_lt _ (by decide)) ?_;conv=>whnf
  refine BE _ (VF (Nat.mod_lt _ (by decide))) ?_;conv=>whnf
  refine QF rfl rfl (by have:Nu (a ^^^ bs[i]) / 16<4294967296:=by omega
                        exact this) (RE (by decide) (by decide)) ?_
  conv=>whnf
  refine Vi rfl rfl rfl (by omega) ?_;conv=>whnf
  refine ⟨rfl,(i+1,OH a bs[i]),⟨by simp;omega,?_,Mu (Mu hx)⟩,by simp;omega,[0],⟨by decide,⟨r9,r9,t9 hv.hf,r9,r9,trivial⟩,⟨r9,trivial⟩⟩⟩
  show OH a bs[i]=HC (bs.take (i+1)) _
  rw [Zpw h,HC,List.foldl_append,ha];rfl
 ·conv=>whnf
  refine UO rfl hlt ?_;conv=>whnf
  have:bs.take i=bs:=Zps h
  rw [ha,this]
  exact hQ _
noncomputable def MN (args:List AV) (s:St):RV:=match args with
 | [.int .u32 (.ofNat s0),v]=>gd (Nat.blt s0 4294967296) (Option.rec .fail (fun bs=>gd (Nat.blt (A7 bs) 1000000) (.ok (.int .u32 (.ofNat (Nat.xor (HC bs (Nat.xor s0 4294967295)) 4294967295))) s)) (I1 s v))
 | _=>.fail
theorem Zfa {e:Env}(hE:EM P e) (hW:Inl e 222 (match JY with|.mk c _=>c) (match JY with|.mk _ r=>r)):OvOk P 219 MN:=by
 refine ⟨g219.b,fun args s v s' h=>?_⟩
 unfold MN at h
 split at h
 ·rename_i s0 u
  obtain ⟨h1,h⟩:=BF h
  obtain ⟨bs,hbs,h⟩:=AJ h
  obtain ⟨h2,h⟩:=BF h
  obtain ⟨rfl,rfl⟩:=A0 h
  rw [Zq1] at h1 h2
  rw [CY] at h2
  obtain ⟨v2,hF,hSl,hlt⟩:=U2 hbs
  have hfs2:hfs [.int .u32 (.ofNat s0),v2]=true:=by simp [hfs,hSl.hf];rfl
  refine IE (args2:=[.int .u32 (.ofNat s0),v2]) (.cons (.plain _ rfl) (.cons hF .nil)) rfl (Ju hfs2 ?_)
  exact C.of_G hE g219 (Zc6 e hE hW s0 h1 bs hlt (by omega) v2 hSl _ (fun s=>.plain _ rfl))
 ·cases h
section
variable {t:AT}{s:St}{k:AV->St->Prop}{x y:AO}
end
end Go.AM
namespace Go.AM
attribute [local irreducible] W
open X
def Gp (n:Int):Bool:=decide (1≤n∧n≤2147483648)
def supB (age seq tail:Int):Bool:=Gp age && Gp seq && decide (0≤tail∧tail<255)
structure Sup where
 id:Int
 age:Int
 seq:Int
 tail:Int
def Sup.ok (x:Sup):Prop:=(0≤x.id∧x.id<4294967296)∧(0≤x.age∧x.age<4294967296)∧(0≤x.seq∧x.seq<4294967296)
def Sup.v (x:Sup):AV:=.agg [.int .u32 x.id,.int .u32 x.age,.int .u32 x.seq,.int .i64 x.tail]
def Sup.b (x:Sup):Bool:=supB x.age x.seq x.tail
theorem Zme {bs:List Nat}(h:bs.length=128):Ah bs=bs:=by
 unfold Ah;rw [Zpr];intro e;subst e;cases h
structure Cfg where
 id:Int
 members:Int
 chunk:Int
 rows:Int
 log:Int
 heads:Int
def Ab (n:Int):Prop:=-9223372036854775808≤n∧n≤9223372036854775807
def Bn (n:Int):Prop:=0≤n∧n<4294967296
structure Cfg.ok (c:Cfg):Prop where
 id:Bn c.id
 members:Ab c.members
 chunk:Ab c.chunk
 rows:Ab c.rows
 log:Ab c.log
 heads:Ab c.heads
def Cfg.c (x:Cfg):List AV:=[.int .u32 x.id,.int .i64 x.members,.int .i64 x.chunk,.int .i64 x.rows,.int .i64 x.log,.int .i64 x.heads]
def Cfg.v (x:Cfg):AV:=.agg x.c
variable {x y:Cfg}
theorem Cfg.inj (h:x.c=y.c):x=y:=by
 obtain ⟨a,b,c,d,e,f⟩:=x
 obtain ⟨a',b',c',d',e',f'⟩:=y
 simp [Cfg.c] at h
 obtain ⟨rfl,rfl,rfl,rfl,rfl,rfl⟩:=h;rfl
theorem Ix (h:x.v=y.v):x=y:=Cfg.inj (AV.agg.inj h)
def Cfg.may (x:Cfg):Prop:=(3≤x.members∧x.members≤16)∧(1≤x.chunk∧x.chunk≤8)∧(1≤x.rows∧x.rows≤8)∧(2≤x.heads∧x.heads≤8)∧(x.members+1)*(x.heads+1)≤x.log∧x.log≤255
instance (x:Cfg):Decidable x.may:=by unfold Cfg.may;infer_instance
theorem Hb (h:x.may):12≤x.log:=by
 unfold Cfg.may at h
 have:(4:Int)*3≤(x.members+1)*(x.heads+1):=Int.mul_le_mul (by omega) (by omega) (by decide) (by omega)
 omega
def cfgF:Fam Cfg:=⟨Cfg.ok,fun x=>[x.v],fun x=>.int .i64 (if x.may then 0 else 8),fun x y _ _ h=>by rw [Ix (Zpv h).1]⟩
def Zkw:AC:=match Qq with|.mk c _=>c
theorem DW {a b:Int}(ha:0≤a∧a≤100000) (hb:0≤b∧b≤100000):-9223372036854775808≤a*b∧a*b≤9223372036854775807:=by
 have h1:0≤a*b:=Int.mul_nonneg ha.1 hb.1
 have h2:a*b≤100000*100000:=Int.mul_le_mul ha.2 hb.2 hb.1 (by decide)
 omega
variable {e:Env}
theorem Zk0 (hE:EM P e) (h121:Inl e 147 Zkw [.tmp 2]):OvOk P 103 cfgF.O:=by
 refine C7 g103.b ?_
 rintro ⟨id,members,chunk,rows,log,heads⟩ ⟨h1,h2,h3,h4,h5,h6⟩
 unfold Ab at h2 h3 h4 h5 h6
 dsimp only at h2 h3 h4 h5 h6
 refine ⟨rfl,rfl,C.of_G hE g103 ?_⟩
 have fin0:∀ s,((3≤members∧members≤16)∧(1≤chunk∧chunk≤8)∧(1≤rows∧rows≤8)∧(2≤heads∧heads≤8)∧(members+1)*(heads+1)≤log∧log≤255)->Frz s (.int .i64 0) (cfgF.out ⟨id,members,chunk,rows,log,heads⟩):=by
  intro s h
  show Frz s _ (.int .i64 (if Cfg.may ⟨id,members,chunk,rows,log,heads⟩ then 0 else 8))
  rw [Zpn (show Cfg.may ⟨id,members,chunk,rows,log,heads⟩ from h)];exact .plain _ rfl
 have fin8:∀ s,¬ ((3≤members∧members≤16)∧(1≤chunk∧chunk≤8)∧(1≤rows∧rows≤8)∧(2≤heads∧heads≤8)∧(members+1)*(heads+1)≤log∧log≤255)->Frz s (.int .i64 8) (cfgF.out ⟨id,members,chunk,rows,log,heads⟩):=by
  intro s h
  show Frz s _ (.int .i64 (if Cfg.may ⟨id,members,chunk,rows,log,heads⟩ then 0 else 8))
  rw [Zpr (show ¬ Cfg.may ⟨id,members,chunk,rows,log,heads⟩ from h)];exact .plain _ rfl
 show VW P e 0 (match Q5 with|.mk c _=>c) (An [AV.agg [.int .u32 id,.int .i64 members,.int .i64 chunk,.int .i64 rows,.int .i64 log,.int .i64 heads]] 0 .lf) St0 none [] _
 conv=>whnf
 repeat' (first|((first|refine ESc.inl h121 ?_|refine EExec.loop ?_|refine G4 rfl rfl (by omega) (by omega) ?_|refine NY rfl rfl (by omega) (by omega) ?_|refine Cs rfl rfl (DW (by omega) (by omega)) ?_|refine Ac ?_|refine Au ?_|refine Av ?_|refine Cw ?_);conv=>whnf)|refine Aa ?_ ?_|refine Ax ?_ ?_|(intro _;first|omega|conv=>whnf))
 all_goals first
  | exact fin8 _ (by omega)
  | exact fin0 _ (by omega)
def toldF:Fam (Cfg×Int):=⟨fun x=>x.1.ok,fun x=>[x.1.v,.int .i64 x.2],fun x=>.tup [.int .i64 (if x.1.may then x.2 else 0),.int .i64 (if x.1.may then 0 else 8)],fun x y _ _ h=>by
 obtain ⟨c,n⟩:=x
 obtain ⟨c',n'⟩:=y
 have h1:=Ix (Zpv h).1
 have h2:=(AV.int.inj (Zpv (Zpv h).2).1).2
 dsimp only at h1 h2
 subst h1 h2;rfl⟩
theorem Zes (hE:EM P e) (h78:Con e 103 cfgF.O):OvOk P 88 toldF.O:=by
 refine C7 g88.b ?_
 rintro ⟨x,n⟩ hx
 refine ⟨rfl,rfl,C.of_G hE g88 ?_⟩
 by_cases hM:x.may
 ·rw [show toldF.out (x,n)=.tup [.int .i64 n,.int .i64 0] by simp [toldF,hM]]
  show VW P e 0 (match NC with|.mk c _=>c) (An [x.v,.int .i64 n] 0 .lf) St0 none [] _
  conv=>whnf
  refine ESc.fam cfgF h78 x hx (u:=.int .i64 0) (by simp [cfgF,hM]) ?_;conv=>whnf
  repeat' (first|refine Al ?_ ?_|(intro _;first|omega|conv=>whnf))
  exact .plain _ rfl
 ·rw [show toldF.out (x,n)=.tup [.int .i64 0,.int .i64 8] by simp [toldF,hM]]
  show VW P e 0 (match NC with|.mk c _=>c) (An [x.v,.int .i64 n] 0 .lf) St0 none [] _
  conv=>whnf
  refine ESc.fam cfgF h78 x hx (u:=.int .i64 8) (by simp [cfgF,hM]) ?_;conv=>whnf
  repeat' (first|refine Al ?_ ?_|(intro _;first|omega|conv=>whnf))
  exact .plain _ rfl
def stripesF:Fam Cfg:=⟨Cfg.ok,fun x=>[x.v],fun x=>.tup [.int .i64 (if x.may then x.chunk*x.rows else 0),.int .i64 (if x.may then 0 else 8)],fun x y _ _ h=>by rw [Ix (Zpv h).1]⟩
theorem ZW (hE:EM P e) (h83:Con e 88 toldF.O):OvOk P 40 stripesF.O:=by
 refine C7 g40.b ?_
 intro x hx
 refine ⟨rfl,rfl,C.of_G hE g40 ?_⟩
 by_cases hM:x.may
 ·rw [show stripesF.out x=.tup [.int .i64 (x.chunk*x.rows),.int .i64 0] by simp [stripesF,hM]]
  have hM':=hM
  unfold Cfg.may at hM'
  have hl:=Hb hM
  obtain ⟨id,members,chunk,rows,log,heads⟩:=x
  dsimp only at hM' hl ⊢
  show VW P e 0 (match NG with|.mk c _=>c) (An [AV.agg [.int .u32 id,.int .i64 members,.int .i64 chunk,.int .i64 rows,.int .i64 log,.int .i64 heads]] 0 .lf) St0 none [] _
  conv=>whnf
  repeat' (first|(refine Cs rfl rfl (DW (by omega) (by omega)) ?_;conv=>whnf)|fail)
  refine ESc.fam toldF h83 (⟨id,members,chunk,rows,log,heads⟩,_) hx (u:=.tup [_,.int .i64 0]) (by simp only [toldF,Zpn hM];rfl) ?_;conv=>whnf
  exact .plain _ rfl
 ·rw [show stripesF.out x=.tup [.int .i64 0,.int .i64 8] by simp [stripesF,hM]]
  obtain ⟨id,members,chunk,rows,log,heads⟩:=x
  show VW P e 0 (match NG with|.mk c _=>c) (An [AV.agg [.int .u32 id,.int .i64 members,.int .i64 chunk,.int .i64 rows,.int .i64 log,.int .i64 heads]] 0 .lf) St0 none [] _
  conv=>whnf
  repeat' (first|((first|refine EPrim.mul rfl rfl ?_|refine EPrim.add (q:=.i64) rfl rfl ?_);conv=>whnf)|fail)
  refine ESc.fam toldF h83 (⟨id,members,chunk,rows,log,heads⟩,_) hx (u:=.tup [.int .i64 0,.int .i64 8]) (by simp only [toldF,Zpr hM]) ?_;conv=>whnf
  exact .plain _ rfl
def needF:Fam Cfg:=⟨Cfg.ok,fun x=>[x.v],fun x=>.tup [.int .i64 (if x.may then x.members+1 else 0),.int .i64 (if x.may then 0 else 8)],fun x y _ _ h=>by rw [Ix (Zpv h).1]⟩
theorem Zfg (hE:EM P e) (h83:Con e 88 toldF.O):OvOk P 185 needF.O:=by
 refine C7 g185.b ?_
 intro x hx
 refine ⟨rfl,rfl,C.of_G hE g185 ?_⟩
 by_cases hM:x.may
 ·rw [show needF.out x=.tup [.int .i64 (x.members+1),.int .i64 0] by simp [needF,hM]]
  have hM':=hM
  unfold Cfg.may at hM'
  have hl:=Hb hM
  obtain ⟨id,members,chunk,rows,log,heads⟩:=x
  dsimp only at hM' hl ⊢
  show VW P e 0 (match Ny with|.mk c _=>c) (An [AV.agg [.int .u32 id,.int .i64 members,.int .i64 chunk,.int .i64 rows,.int .i64 log,.int .i64 heads]] 0 .lf) St0 none [] _
  conv=>whnf
  repeat' (first|(refine Ac ?_;conv=>whnf)|fail)
  refine ESc.fam toldF h83 (⟨id,members,chunk,rows,log,heads⟩,_) hx (u:=.tup [_,.int .i64 0]) (by simp only [toldF,Zpn hM];rfl) ?_;conv=>whnf
  exact .plain _ rfl
 ·rw [show needF.out x=.tup [.int .i64 0,.int .i64 8] by simp [needF,hM]]
  obtain ⟨id,members,chunk,rows,log,heads⟩:=x
  show VW P e 0 (match Ny with|.mk c _=>c) (An [AV.agg [.int .u32 id,.int .i64 members,.int .i64 chunk,.int .i64 rows,.int .i64 log,.int .i64 heads]] 0 .lf) St0 none [] _
  conv=>whnf
  repeat' (first|((first|refine EPrim.mul rfl rfl ?_|refine EPrim.add (q:=.i64) rfl rfl ?_);conv=>whnf)|fail)
  refine ESc.fam toldF h83 (⟨id,members,chunk,rows,log,heads⟩,_) hx (u:=.tup [.int .i64 0,.int .i64 8]) (by simp only [toldF,Zpr hM]) ?_;conv=>whnf
  exact .plain _ rfl
def journalF:Fam Cfg:=⟨Cfg.ok,fun x=>[x.v],fun x=>.tup [.int .i64 (if x.may then x.log+1 else 0),.int .i64 (if x.may then 0 else 8)],fun x y _ _ h=>by rw [Ix (Zpv h).1]⟩
theorem Zai (hE:EM P e) (h83:Con e 88 toldF.O):OvOk P 60 journalF.O:=by
 refine C7 g60.b ?_
 intro x hx
 refine ⟨rfl,rfl,C.of_G hE g60 ?_⟩
 by_cases hM:x.may
 ·rw [show journalF.out x=.tup [.int .i64 (x.log+1),.int .i64 0] by simp [journalF,hM]]
  have hM':=hM
  unfold Cfg.may at hM'
  have hl:=Hb hM
  obtain ⟨id,members,chunk,rows,log,heads⟩:=x
  dsimp only at hM' hl ⊢
  show VW P e 0 (match NF with|.mk c _=>c) (An [AV.agg [.int .u32 id,.int .i64 members,.int .i64 chunk,.int .i64 rows,.int .i64 log,.int .i64 heads]] 0 .lf) St0 none [] _
  conv=>whnf
  repeat' (first|(refine Ac ?_;conv=>whnf)|fail)
  refine ESc.fam toldF h83 (⟨id,members,chunk,rows,log,heads⟩,_) hx (u:=.tup [_,.int .i64 0]) (by simp only [toldF,Zpn hM];rfl) ?_;conv=>whnf
  exact .plain _ rfl
 ·rw [show journalF.out x=.tup [.int .i64 0,.int .i64 8] by simp [journalF,hM]]
  obtain ⟨id,members,chunk,rows,log,heads⟩:=x
  show VW P e 0 (match NF with|.mk c _=>c) (An [AV.agg [.int .u32 id,.int .i64 members,.int .i64 chunk,.int .i64 rows,.int .i64 log,.int .i64 heads]] 0 .lf) St0 none [] _
  conv=>whnf
  repeat' (first|((first|refine EPrim.mul rfl rfl ?_|refine EPrim.add (q:=.i64) rfl rfl ?_);conv=>whnf)|fail)
  refine ESc.fam toldF h83 (⟨id,members,chunk,rows,log,heads⟩,_) hx (u:=.tup [.int .i64 0,.int .i64 8]) (by simp only [toldF,Zpr hM]) ?_;conv=>whnf
  exact .plain _ rfl
structure Lv where
 seq:Int
 stripe:Int
 blocks:Int
 par:Bool
 sure:Bool
 home:Bool
def Lv.c (x:Lv):List AV:=[.int .u32 x.seq,.int .i64 x.stripe,.int .i64 x.blocks,.bool x.par,.bool x.sure,.bool x.home]
structure Lv.ok (x:Lv):Prop where
 seq:Bn x.seq
 stripe:Ab x.stripe
 blocks:Ab x.blocks
def Fb (L:List Lv):List AV:=L.flatMap Lv.c
theorem Mg (x:Lv) (L:List Lv):Fb (x::L)=x.c++Fb L:=rfl
theorem QO:∀ (L:List Lv),(Fb L).length=L.length*6
 | []=>rfl
 | x::L=>by rw [Mg,Zpx,QO L,Zqd];show 6+_=_;omega
theorem Wp:∀ (L:List Lv) (i:Nat),(Fb L).drop (i*6)=Fb (L.drop i)
 | L,0=>by simp
 | [],i+1=>by simp [Fb]
 | x::L,i+1=>by
  rw [List.drop_succ_cons,← Wp L i,Mg,show (i+1)*6=x.c.length+i*6 by show (i+1)*6=6+i*6;omega,List.drop_append,Zqf (by omega),List.nil_append]
  congr 1;omega
variable {L:List Lv}
theorem Rl {i:Nat}(h:i<L.length):Bo 6 ((Fb L).drop (i*6))=some L[i].c:=by
 rw [Wp,Zp6 h,Mg];rfl
theorem RH:∀ {L M:List Lv},Fb L=Fb M->L=M
 | [],[],_=>rfl
 | [],y::M,h=>by cases h
 | x::L,[],h=>by cases h
 | x::L,y::M,h=>by
  obtain ⟨a,b,c,d,e,f⟩:=x
  obtain ⟨a',b',c',d',e',f'⟩:=y
  rw [Mg,Mg] at h
  simp [Lv.c] at h
  obtain ⟨rfl,rfl,rfl,rfl,rfl,rfl,h⟩:=h
  rw [RH h]
structure Log where
 age:Int
 seq:Int
 tail:Int
 used:Int
 live:List Lv
structure Log.ok (l:Log):Prop where
 age:Bn l.age
 seq:Bn l.seq
 tail:Ab l.tail
 used:Ab l.used
 live:∀ x ∈ l.live,x.ok
 len:l.live.length≤1000
def Log.c (l:Log) (v:AV):List AV:=[.int .u32 l.age,.int .u32 l.seq,.int .i64 l.tail,.int .i64 l.used,v]
def LSl (L:List Lv) (v:AV):Prop:=Sl 6 L.length (Fb L) v
theorem LSl.inj {M:List Lv}{v:AV}(h:LSl L v) (k:LSl M v):L=M:=by
 refine RH ?_
 rcases h with ⟨rfl,_,h⟩|⟨rfl,_,h⟩|⟨c,rfl,h⟩
 ·rcases k with ⟨_,_,k⟩|⟨e,_⟩|⟨c,e,_⟩
  ·rw [h,k]
  ·cases e
  ·cases e
 ·rcases k with ⟨e,_⟩|⟨_,_,k⟩|⟨c,e,_⟩
  ·cases e
  ·rw [h,k]
  ·cases e
 ·rcases k with ⟨e,_⟩|⟨e,_⟩|⟨c,e,_⟩
  ·cases e
  ·cases e
  ·injection e with _ _ e
structure Ring where
 l:Log
 c:Cfg
structure Ring.ok (r:Ring):Prop where
 l:r.l.ok
 c:r.c.ok
def Ring.cs (r:Ring) (v:AV):List AV:=r.l.c v++r.c.c
def KM (c:AV) (es:List (AV×AV×Nat)) (ks:List Int):Prop:=es.map (fun e=>(e.1,e.2.1))=ks.map (fun k=>(AV.int .i64 k,c))
theorem KM.nil (c:AV):KM c [] []:=rfl
theorem KM.cons {c:AV}{e:AV×AV×Nat}{es:List (AV×AV×Nat)}{ks:List Int}(h:KM c (e::es) ks):∃ k l,ks=k::l∧e.1=.int .i64 k∧e.2.1=c∧KM c es l:=by
 cases ks with
 | nil=>cases h
 | cons k l=>
  unfold KM at h
  simp at h
  exact ⟨k,l,rfl,h.1.1,h.1.2,h.2⟩
theorem KM.length {c:AV}:∀ {es:List (AV×AV×Nat)}{ks:List Int},KM c es ks->es.length=ks.length:=fun h=>by
 have:=congrArg List.length h;simpa using this
theorem Oj (a b:Int):Fi (.int .i64 a) (.int .i64 b)=some (a == b):=by
 show cond (Ch .i64 .i64) (some (D9 a b)) none=_
 rw [Gc];rfl
theorem KM.find {c:AV}{k:Int}:∀ {es:List (AV×AV×Nat)}{ks:List Int},KM c es ks->CM (.int .i64 k) es=some (if k ∈ ks then some c else none)
 | [],ks,h=>by
  have:=h.length;simp at this
  have:ks=[]:=Zqh.1 this.symm
  subst this;rfl
 | (a,b,n)::es,ks,h=>by
  obtain ⟨k',l,rfl,e1,e2,h'⟩:=h.cons
  dsimp only at e1 e2
  subst e1 e2
  show (match Fi (.int .i64 k) (.int .i64 k') with|some true=>some (some b)|some false=>CM (.int .i64 k) es|none=>none)=_
  rw [Oj]
  by_cases hk:k=k'
  ·subst hk;simp
  ·rw [show (k == k')=false by simpa using hk]
   simp only
   rw [KM.find h'];simp [hk]
theorem KM.set {c:AV}{k:Int}:∀ {es:List (AV×AV×Nat)}{ks:List Int},KM c es ks->KM c (HG (.int .i64 k) c es) ks
 | [],ks,h=>h
 | (a,b,n)::es,ks,h=>by
  obtain ⟨k',l,rfl,e1,e2,h'⟩:=h.cons
  dsimp only at e1 e2
  subst e1 e2
  show KM b (match Fi (.int .i64 k) (.int .i64 k') with|some true=>(.int .i64 k,b,n)::es|_=>(.int .i64 k',b,n)::HG (.int .i64 k) b es) _
  rw [Oj]
  by_cases hk:k=k'
  ·subst hk;simp;exact h
  ·rw [show (k == k')=false by simpa using hk]
   simp only
   have:=KM.set (k:=k) h'
   unfold KM at this ⊢
   simp [this]
theorem KM.app {c:AV}{k:Int}{n:Nat}{es:List (AV×AV×Nat)}{ks:List Int}(h:KM c es ks):KM c (es++[(.int .i64 k,c,n)]) (ks++[k]):=by
 unfold KM at h ⊢;simp [h]
theorem KM.del {c:AV}{k:Int}:∀ {es:List (AV×AV×Nat)}{ks:List Int},KM c es ks->KM c (Fq (.int .i64 k) es) (ks.erase k)
 | [],ks,h=>by
  have:=h.length;simp at this
  have:ks=[]:=Zqh.1 this.symm
  subst this;exact KM.nil c
 | (a,b,n)::es,ks,h=>by
  obtain ⟨k',l,rfl,e1,e2,h'⟩:=h.cons
  dsimp only at e1 e2
  subst e1 e2
  show KM b (match Fi (.int .i64 k) (.int .i64 k') with|some true=>es|_=>(.int .i64 k',b,n)::Fq (.int .i64 k) es) _
  rw [Oj,List.erase_cons]
  by_cases hk:k=k'
  ·subst hk;simp;exact h'
  ·rw [show (k == k')=false by simpa using hk,show (k' == k)=false by simpa using fun e=>hk e.symm]
   simp only
   have:=KM.del (k:=k) h'
   unfold KM at this ⊢
   simp [this]
def Dt (k:Int) (l:List Int):List Int:=if k ∈ l then l else l++[k]
section
variable {t:AT}{s:St}{q:AV->St->Prop}{x y z:AO}
variable {c:AV}{r n:Nat}{k:Int}{es:List (AV×AV×Nat)}{ks:List Int}
theorem Jk (hx:ev x t=.some (.map r)) (hy:ev y t=.some (.int .i64 k)) (hz:ev z t=.some c) (hs:s.get r=some (.map es n)) (hk:KM c es ks)
 (h:∀ es' n',KM c es' (Dt k ks)->q (.tup []) (s.put r (.map es' n'))):EPrim (.mset x y z) t s q:=by
 by_cases hm:k ∈ ks
 ·refine EPrim.mk (v:=.tup []) (s':=s.put r (.map (HG (.int .i64 k) c es) n)) (fun e rec=>?_) (h _ _ (by unfold Dt;rw [Zpn hm];exact hk.set))
  show wth x t _=_;unfold wth;rw [hx]
  show wth y t _=_;unfold wth;rw [hy]
  show wth z t _=_;unfold wth;rw [hz]
  show (Option.rec .fail _ (mapAt r s):RV)=_
  unfold mapAt;rw [hs]
  show (Option.rec .fail _ (CM (.int .i64 k) es):RV)=_
  rw [hk.find,Zpn hm]
 ·refine EPrim.mk (v:=.tup []) (s':=s.put r (.map (es++[(.int .i64 k,c,n)]) (n+1))) (fun e rec=>?_) (h _ _ (by unfold Dt;rw [Zpr hm];exact hk.app))
  show wth x t _=_;unfold wth;rw [hx]
  show wth y t _=_;unfold wth;rw [hy]
  show wth z t _=_;unfold wth;rw [hz]
  show (Option.rec .fail _ (mapAt r s):RV)=_
  unfold mapAt;rw [hs]
  show (Option.rec .fail _ (CM (.int .i64 k) es):RV)=_
  rw [hk.find,Zpr hm]
  show RV.ok _ (s.put r (.map (Be es [(.int .i64 k,c,n)]) (n+1)))=_
  rw [Da]
theorem Zau (hx:ev x t=.some (.map r)) (hy:ev y t=.some (.int .i64 k)) (hs:s.get r=some (.map es n)) (hk:KM c es ks)
 (h:∀ es' n',KM c es' (ks.erase k)->q (.tup []) (s.put r (.map es' n'))):EPrim (.mdel x y) t s q:=by
 refine EPrim.mk (v:=.tup []) (s':=s.put r (.map (Fq (.int .i64 k) es) n)) (fun e rec=>?_) (h _ _ hk.del)
 show wth x t _=_;unfold wth;rw [hx]
 show wth y t _=_;unfold wth;rw [hy]
 show (Option.rec .fail _ (mapAt r s):RV)=_
 unfold mapAt;rw [hs]
 show (Option.rec .fail _ (CM (.int .i64 k) es):RV)=_
 rw [hk.find]
theorem Jl {zv:AV}(hx:ev x t=.some (.map r)) (hy:ev y t=.some (.int .i64 k)) (hs:s.get r=some (.map es n)) (hk:KM c es ks)
 (h1:k ∈ ks->q c s) (h2:k ∉ ks->q zv s):EPrim (.mget zv false x y) t s q:=by
 by_cases hm:k ∈ ks
 ·refine EPrim.mk (v:=c) (s':=s) (fun e rec=>?_) (h1 hm)
  show wth x t _=_;unfold wth;rw [hx]
  show wth y t _=_;unfold wth;rw [hy]
  show (Option.rec .fail _ (mapAt r s):RV)=_
  unfold mapAt;rw [hs]
  show (Option.rec .fail _ (CM (.int .i64 k) es):RV)=_
  rw [hk.find,Zpn hm];rfl
 ·refine EPrim.mk (v:=zv) (s':=s) (fun e rec=>?_) (h2 hm)
  show wth x t _=_;unfold wth;rw [hx]
  show wth y t _=_;unfold wth;rw [hy]
  show (Option.rec .fail _ (mapAt r s):RV)=_
  unfold mapAt;rw [hs]
  show (Option.rec .fail _ (CM (.int .i64 k) es):RV)=_
  rw [hk.find,Zpr hm];rfl
theorem Zav (hx:ev x t=.some (.map r)) (hs:s.get r=some (.map es n)) (hk:KM c es ks)
 (h:q (.int .i64 (ks.length:Int)) s):EPrim (.lenm x) t s q:=by
 refine EPrim.mk (v:=.int .i64 (ks.length:Int)) (s':=s) (fun e rec=>?_) h
 show wth x t _=_;unfold wth;rw [hx]
 show (Option.rec .fail _ (mapAt r s):RV)=_
 unfold mapAt;rw [hs]
 show RV.ok (C4 (A7 es)) s=_
 rw [CY,hk.length];rfl
end
theorem Eb {c:AV}{n:Nat}(hc:bd n c=true):∀ {es:List (AV×AV×Nat)}{ks:List Int},KM c es ks->Jf n es=true
 | [],ks,h=>rfl
 | (a,b,m)::es,ks,h=>by
  obtain ⟨k',l,rfl,e1,e2,h'⟩:=h.cons
  dsimp only at e1 e2
  subst e1 e2
  show (true && bd n b && Jf n es)=true
  rw [hc,Eb hc h'];rfl
theorem DY {c:AV}{ρ:Nat->Nat}(hc:Bg ρ c=c):∀ {es:List (AV×AV×Nat)}{ks:List Int},KM c es ks->Cc ρ es=es
 | [],ks,h=>rfl
 | (a,b,m)::es,ks,h=>by
  obtain ⟨k',l,rfl,e1,e2,h'⟩:=h.cons
  dsimp only at e1 e2
  subst e1 e2
  show (AV.int .i64 k',Bg ρ b,m)::Cc ρ es=_
  rw [DY hc h',hc]
def IL (l:List Int) (x:Lv):List Int:=if x.par then (Dt x.stripe l).erase x.stripe else Dt x.stripe l
def CI (L:List Lv):List Int:=L.foldl IL []
def Zkv:AC:=match PZ with|.mk c _=>c
variable {l cs:List AV}
theorem A8 {n:Nat}{k:List AV->Prop}(h:Bo n l=some cs) (hk:k cs):ETake n l k:=by
 unfold ETake;exact ⟨cs,h,hk⟩
theorem Zdu (e:Env) (hE:EM P e) (r:Ring) (hr:r.ok) (v:AV) (hv:LSl r.l.live v) (Q:AV->St->Prop) (k:∀ s,Q (.int .i64 ((CI r.l.live).length:Int)) s):
 VW P e 0 Zkv (An [.fp (r.cs v)] 0 .lf) St0 none [] (Cq [.tmp 2] Q):=by
 obtain ⟨L,hL⟩:∃ L,L=r.l.live:=⟨_,rfl⟩
 rw [← hL] at hv k
 have hlen:L.length≤1000:=by rw [hL];exact hr.l.len
 conv=>whnf
 refine As ?_;conv=>whnf
 refine Am hv ?_;conv=>whnf
 refine M0 (α:=Nat×List (AV×AV×Nat)×Nat) (fun x=>[(3,.map 0),(11,v),(12,.int .i64 (L.length:Int)),(13,.int .i64 (x.1:Int))]) (fun x=>[.map x.2.1 x.2.2]) (fun x=>L.length-x.1)
  (fun x=>x.1≤L.length∧KM (.bool true) x.2.1 (CI (L.take x.1))) (0,[],0) [0] ⟨Zp2 _,KM.nil _⟩ ⟨by decide,⟨r9,t9 hv.hf,r9,r9,trivial⟩,⟨r9,trivial⟩⟩ ?_
 rintro ⟨i,es,n⟩ ⟨hi,hK⟩
 dsimp only at hi hK ⊢
 refine Ca hE ?_;conv=>whnf
 refine Bl rfl rfl (fun h=>?_) (fun h=>?_) <;> conv=>whnf
 ·have hlt:i<L.length:=by omega
  refine Cz rfl hv rfl hlt ?_;conv=>whnf
  refine A8 (Rl hlt) ?_
  have hst:CI (L.take (i+1))=IL (CI (L.take i)) L[i]:=by
   rw [Zpw hlt];unfold CI;rw [List.foldl_append];rfl
  revert hst
  generalize L[i]=x
  obtain ⟨sq,st,bl,pa,su,ho⟩:=x
  intro hst
  have fin:∀ t s es' n',KM (.bool true) es' (CI (L.take (i+1)))->t.get 3=some (.map 0)->t.get 11=some v->t.get 12=some (.int .i64 (L.length:Int))->t.get 13=some (.int .i64 ((i:Int)+1))->s.get 0=some (.map es' n')->
   ([]:List Nat)=[]∧∃ x':Nat×List (AV×AV×Nat)×Nat,(x'.1≤L.length∧KM (.bool true) x'.2.1 (CI (L.take x'.1)))∧L.length-x'.1<L.length-i∧∃ rs,Abs t s [(3,.map 0),(11,v),(12,.int .i64 (L.length:Int)),(13,.int .i64 (x'.1:Int))] [.map x'.2.1 x'.2.2] rs:=by
   intro t s es' n' hK h3 h11 h12 h13 g0
   refine ⟨rfl,(i+1,es',n'),⟨hlt,hK⟩,by simp;omega,[0],⟨by decide,⟨⟨rfl,h3⟩,⟨Dp _ hv.hf,by rw [CZ _ hv.hf];exact h11⟩,⟨rfl,h12⟩,⟨rfl,h13⟩,trivial⟩,⟨⟨Eb rfl hK,?_⟩,trivial⟩⟩⟩
   show _=some (AObj.map (Cc _ es') n');rw [DY rfl hK];exact g0
  conv=>whnf
  refine Jk rfl rfl rfl rfl hK (fun es' n' hK'=>?_)
  cases pa with
  | true=>
   conv=>whnf
   refine Zau rfl rfl rfl hK' (fun es'' n'' hK''=>?_);conv=>whnf
   repeat' (first|((first|refine Ac ?_|refine ⟨rfl,?_⟩);conv=>whnf)|fail)
   refine (fin _ _ es'' n'' (by rw [hst];exact hK'') ?_ ?_ ?_ ?_ ?_).2 <;> rfl
  | false=>
   conv=>whnf
   repeat' (first|((first|refine Ac ?_|refine ⟨rfl,?_⟩);conv=>whnf)|fail)
   refine (fin _ _ es' n' (by rw [hst];exact hK') ?_ ?_ ?_ ?_ ?_).2 <;> rfl
 ·have:L.take i=L:=Zps (by omega)
  rw [this] at hK
  refine Zav rfl rfl hK ?_;conv=>whnf
  exact k _
structure RAt (s:St) (a:AV) (r:Ring) (v:AV):Prop where
 frz:Frz s a (.fp (r.cs v))
 sl:LSl r.l.live v
 ok:r.ok
def atom:AV->Bool
 | .int ..=>true
 | .bool _=>true
 | _=>false
variable {s:St}{x u:AV}
theorem Frz.atom (h:Frz s x u) (ha:atom u=true):x=u:=by
 cases h with
 | plain _ _=>rfl
 | sl _ _ _ _ _ _ _ _ _=>cases ha
 | ptr _ _ _ _ _ _=>cases ha
 | agg _ _ _=>cases ha
 | tup _ _ _=>cases ha
 | fn _ _ _ _ _ _ _=>cases ha
theorem Re {s:St}:∀ {l us:List AV},All2 (Frz s) l us->(∀ u ∈ us,AM.atom u=true)->l=us
 | _,_,.nil,_=>rfl
 | _,_,.cons a b,h=>by rw [a.atom (h _ (by simp)),Re b (fun u hu=>h u (by simp [hu]))]
theorem Frz.of_hf (h:Frz s x u) (hx:AM.hf x=true):(∀ l,x≠.agg l)->(∀ l,x≠.tup l)->(∀ f a b,x≠.fn f a b)->u=x:=by
 cases h with
 | plain _ _=>intros;rfl
 | sl _ _ _ _ _ _ _ _ _=>cases hx
 | ptr _ _ _ _ _ _=>cases hx
 | agg l _ _=>intro h;exact absurd rfl (h l)
 | tup l _ _=>intro _ h;exact absurd rfl (h l)
 | fn f a b _ _ _ _=>intro _ _ h;exact absurd rfl (h f a b)
variable {L:List Lv}
theorem WB:∀ u ∈ Fb L,atom u=true:=by
 induction L with
 | nil=>intro u h;cases h
 | cons x L ih=>
  intro u h
  rcases Zqb.1 (show u ∈ x.c++Fb L from h) with h|h
  ·simp [Lv.c] at h
   rcases h with rfl|rfl|rfl|rfl|rfl|rfl <;> rfl
  ·exact ih u h
theorem Wc {l':List AV}{o:Nat}(h:∀ (i:Nat) x,l[i]?=some x->cs[o+i]?=some x) (h':∀ (i:Nat) x,l'[i]?=some x->cs[o+i]?=some x) (hl:l.length=l'.length):l=l':=by
 refine List.ext_getElem? fun i=>?_
 by_cases hi:i<l.length
 ·have h1:=h i _ (Zpj hi)
  have h2:=h' i _ (Zpj (l:=l') (i:=i) (by omega))
  rw [Zpj hi,Zpj (l:=l') (i:=i) (by omega),← h1,← h2]
 ·rw [Zrl (by omega),Zrl (by omega)]
variable {v v':AV}
theorem Frz.live {L':List Lv}(h:Frz s x v) (h':Frz s x v') (hv:LSl L v) (hv':LSl L' v'):L=L':=by
 rcases hv with ⟨rfl,e1,e2⟩|⟨rfl,e1,e2⟩|⟨c,rfl,e2⟩
 ·have hx:x=.nils:=by cases h;rfl
  subst hx
  have:=h'.of_hf rfl (by simp) (by simp) (by simp)
  subst this
  exact LSl.inj (.inl ⟨rfl,e1,e2⟩) hv'
 ·have hx:x=.es:=by cases h;rfl
  subst hx
  have:=h'.of_hf rfl (by simp) (by simp) (by simp)
  subst this
  exact LSl.inj (.inr (.inl ⟨rfl,e1,e2⟩)) hv'
 ·cases h with
  | plain _ hh=>
   have:=h'.of_hf rfl (by simp) (by simp) (by simp)
   subst this
   exact LSl.inj (.inr (.inr ⟨c,rfl,e2⟩)) hv'
  | sl r o n cap cap' e cs l us h1 h2 h3 h4=>
   have hl1:=Re h3 WB
   cases h' with
   | plain _ hh=>cases hh
   | sl _ _ _ _ cap2 e2' cs2 l2 us2 g1 g2 g3 g4=>
    rw [h1] at g1;cases g1
    rcases hv' with ⟨q,_⟩|⟨q,_⟩|⟨c2,q,q2⟩
    ·cases q
    ·cases q
    ·injection q with q0 _ q3
     subst q3
     have hl2:=Re g3 WB
     rw [hl1] at h2;rw [hl2] at g2
     refine RH (Wc h2 g2 ?_)
     rw [QO,QO,q0]
theorem Oz:∀ {l:List AV},hfs l=true->All2 (Frz s) l l
 | [],_=>.nil
 | x::l,h=>by
  simp only [hfs,Zpl] at h
  exact .cons (.plain _ h.1) (Oz h.2)
theorem Wu (r:Ring) (h:LSl r.l.live v):hfs (r.cs v)=true:=by
 show (true && (true && (true && (true && (AM.hf v && (true && (true && (true && (true && (true && (true && true)))))))))))=true
 rw [h.hf];rfl
theorem RAt.inj {a:AV}{r r':Ring}(h:RAt s a r v) (h':RAt s a r' v'):r=r':=by
 have key:∀ (l:List AV),All2 (Frz s) l (r.cs v)->All2 (Frz s) l (r'.cs v')->r=r':=by
  intro l g g'
  obtain ⟨⟨ag,sq,tl,us,lv⟩,⟨i1,i2,i3,i4,i5,i6⟩⟩:=r
  obtain ⟨⟨ag',sq',tl',us',lv'⟩,⟨j1,j2,j3,j4,j5,j6⟩⟩:=r'
  cases g with|cons a1 g=>cases g with|cons a2 g=>cases g with|cons a3 g=>cases g with|cons a4 g=>cases g with|cons a5 g=>cases g with|cons a6 g=>cases g with|cons a7 g=>cases g with|cons a8 g=>cases g with|cons a9 g=>cases g with|cons a10 g=>cases g with|cons a11 g=>
  cases g' with|cons b1 g'=>cases g' with|cons b2 g'=>cases g' with|cons b3 g'=>cases g' with|cons b4 g'=>cases g' with|cons b5 g'=>cases g' with|cons b6 g'=>cases g' with|cons b7 g'=>cases g' with|cons b8 g'=>cases g' with|cons b9 g'=>cases g' with|cons b10 g'=>cases g' with|cons b11 g'=>
  have c1:=(a1.atom rfl).symm.trans (b1.atom rfl)
  have c2:=(a2.atom rfl).symm.trans (b2.atom rfl)
  have c3:=(a3.atom rfl).symm.trans (b3.atom rfl)
  have c4:=(a4.atom rfl).symm.trans (b4.atom rfl)
  have c5:=a5.live b5 h.sl h'.sl
  have c6:=(a6.atom rfl).symm.trans (b6.atom rfl)
  have c7:=(a7.atom rfl).symm.trans (b7.atom rfl)
  have c8:=(a8.atom rfl).symm.trans (b8.atom rfl)
  have c9:=(a9.atom rfl).symm.trans (b9.atom rfl)
  have c10:=(a10.atom rfl).symm.trans (b10.atom rfl)
  have c11:=(a11.atom rfl).symm.trans (b11.atom rfl)
  injection c1 with _ c1;injection c2 with _ c2;injection c3 with _ c3;injection c4 with _ c4;injection c6 with _ c6;injection c7 with _ c7;injection c8 with _ c8;injection c9 with _ c9;injection c10 with _ c10;injection c11 with _ c11
  dsimp only at c1 c2 c3 c4 c5 c6 c7 c8 c9 c10 c11
  subst c1 c2 c3 c4 c5 c6 c7 c8 c9 c10 c11;rfl
 have hf1:=h.frz
 have hf2:=h'.frz
 generalize hu:r.cs v=us at hf1
 generalize hu':r'.cs v'=us' at hf2
 cases hf1 with
 | plain _ hh=>
  have:=hf2.of_hf rfl (by simp) (by simp) (by simp)
  injection this with this
  subst this
  have H:=Wu r h.sl
  refine key (r.cs v) (Oz H) ?_
  rw [hu',← hu]
  exact Oz H
 | ptr q o e cs l us h1 h2 h3=>
  cases hf2 with
  | ptr _ _ e2 cs2 l2 us2 g1 g2 g3=>
   rw [h1] at g1;cases g1
   subst hu hu'
   have:l=l2:=Wc h2 g2 (by rw [h3.length,g3.length];rfl)
   subst this
   exact key l h3 g3
mutual
theorem SQ:∀ (v:AV),sc v=true->AM.hf v=true
 | .ptr ..,h=>by cases h
 | .sl ..,h=>by cases h
 | .map ..,h=>by cases h
 | .yld ..,h=>by cases h
 | .fz ..,h=>by cases h
 | .fp ..,h=>by cases h
 | .fn f a b,h=>by
  simp only [sc,Zpl] at h
  simp only [AM.hf,Zpl]
  exact ⟨Mn a h.1,Mn b h.2⟩
 | .iface t v,h=>SQ v h
 | .agg l,h=>Mn l h
 | .tup l,h=>Mn l h
 | .bool _,_|.int _ _,_|.str _,_|.nilp,_|.nils,_|.es,_|.ez,_|.nilm,_|.nilf,_|.nili,_|.any,_=>rfl
theorem Mn:∀ (l:List AV),Jc l=true->AM.hfs l=true
 | [],_=>rfl
 | v::l,h=>by
  simp only [Jc,Zpl] at h
  simp only [AM.hfs,Zpl]
  exact ⟨SQ v h.1,Mn l h.2⟩
end
noncomputable def DD (p:Ring->Prop) (g:Ring->AV):Ov:=fun args s=>open Classical in if h:∃ r a v,args=[a]∧RAt s a r v∧p r then .ok (g (Classical.choose h)) s else .fail
variable {p:Ring->Prop}{g:Ring->AV}{v:AV}{s:St}{r:Ring}
theorem Oe {a:AV}(h:RAt s a r v) (hp:p r):DD p g [a] s=.ok (g r) s:=by
 have hx:∃ r a' v,[a]=[a']∧RAt s a' r v∧p r:=⟨r,a,v,rfl,h,hp⟩
 unfold DD
 rw [dif_pos hx]
 obtain ⟨a',v',e,h',_⟩:=Zqy hx
 injection e with e
 subst e
 rw [RAt.inj h h']
theorem Ou {f:Nat}(hb:Ga P f) (hg:∀ r,sc (g r)=true) (h:∀ r v,r.ok->p r->LSl r.l.live v->C P f [.fp (r.cs v)] St0 (fun u s'=>u=g r)):OvOk P f (DD p g):=by
 refine ⟨hb,fun args s u s' hh=>?_⟩
 unfold DD at hh
 split at hh
 ·rename_i hx
  cases hh
  obtain ⟨a,v,rfl,hr,hp⟩:=Zqy hx
  have H2:hfs [AV.fp (Ring.cs (Classical.choose hx) v)]=true:=rfl
  exact IE (.cons hr.frz .nil) (hg _) (Ju H2 ((h _ v hr.ok hp hr.sl).mono fun u s' e=>by
   rw [e];exact Frz.plain _ (SQ _ (hg (Classical.choose hx)))))
 ·cases hh
theorem RAt.fp (hv:LSl r.l.live v) (hr:r.ok):RAt s (.fp (r.cs v)) r v:=⟨.plain _ rfl,hv,hr⟩
def E2 (tk:List Int) (x:Lv):List Int:=if x.home && x.par then Dt x.stripe tk else tk
def GR (tk:List Int) (x:Lv):Bool:=x.home && (!x.sure || !decide (x.stripe ∈ E2 tk x))
def IA:List Lv->List Int->Bool
 | [],_=>true
 | x::l,tk=>!GR tk x && IA l (E2 tk x)
def Ez (L:List Lv):Bool:=IA L.reverse []
def Sb:AC:=match Qe with|.mk c _=>c
def F8:AC->Option (AC×AC)
 | .rng _ _ a b=>some (a,b)
 | .seq a b=>match F8 a with|some x=>some x|none=>F8 b
 | .block _ b=>F8 b
 | .loop b=>F8 b
 | _=>none
def Pj:AC:=match F8 Sb with|some (a,_)=>a|none=>.skip
def OL:AC:=match F8 Sb with|some (_,b)=>b|none=>.skip
noncomputable def MK:AT:=A6 [(2,.ptr 0 0),(3,.ptr 2 0),(12,.fn 155 [] [.ptr 3 0])]
def RX:AC:=match Q1 with|.mk c _=>c
theorem Sl.cells {es n:Nat}{l:List AV}(h:Sl es n l v):cellsOf v=[v]:=by
 rcases h with ⟨rfl,_⟩|⟨rfl,_⟩|⟨c,rfl,_⟩ <;> rfl
theorem Zdn (e:Env) (hE:EM P e) (h159:Inl e 111 RX [.tmp 2]) (r:Ring) (hr:r.ok) (v:AV) (hv:LSl r.l.live v) (Q:AV->St->Prop) (k:∀ s,Q (.bool (Ez r.l.live)) s):
 VW P e 0 Sb (An [.fp (r.cs v)] 0 .lf) St0 none [] (Cq [.cell 2] Q):=by
 obtain ⟨L,hL⟩:∃ L,L=r.l.live:=⟨_,rfl⟩
 rw [← hL] at hv k
 have hlen:L.length≤1000:=by rw [hL];exact hr.l.len
 conv=>whnf
 refine As ?_;conv=>whnf
 refine ESc.inl h159 ?_;conv=>whnf
 refine DA (by show Nat.beq (A7 (cellsOf v)) 1=true;rw [hv.cells];rfl) ?_
 rw [hv.cells]
 conv=>whnf
 refine W.abs [(2,.ptr 0 0),(3,.ptr 2 0),(12,.fn 155 [] [.ptr 3 0])] [.row 4 [.bool false],.map [] 0,.row 177 [.map 1],.row 28 [v]] [0,1,2,3] ⟨by decide,⟨r9,r9,r9,trivial⟩,⟨r9,r9,r9,⟨?_,?_⟩,trivial⟩⟩ ?_
 ·show (bd _ v && true)=true;rw [Dp _ hv.hf];rfl
 ·show _=some (AObj.row 28 [Bg _ v]);rw [CZ _ hv.hf];rfl
 refine Pl (f:=155) (first:=[]) (cap:=[.ptr 3 0]) g155.b rfl ?_ ?_
 ·intro q hq
  have hq:q<4:=hq
  have n2:Named (A6 [(2,.ptr 0 0),(3,.ptr 2 0),(12,.fn 155 [] [.ptr 3 0])]) (Aj St0 [.row 4 [.bool false],.map [] 0,.row 177 [.map 1],.row 28 [v]]) 2:=.tmp 3 (.ptr 2 0) rfl rfl
  rcases q with _|_|_|_|q
  ·exact .tmp 2 (.ptr 0 0) rfl rfl
  ·exact .cell 2 177 [.map 1] 0 (.map 1) n2 rfl rfl rfl
  ·exact n2
  ·exact .tmp 12 (.fn 155 [] [.ptr 3 0]) rfl rfl
  ·omega
 show C1 P 155 [.yld 5,.ptr 3 0] (Aj St0 [.row 4 [.bool false],.map [] 0,.row 177 [.map 1],.row 28 [v],.defd,.loop .ready none 0 MK [13,14] Pj OL 4]) (fun _ s'=>KX 5 [4] MK s' _)
 refine C1.of_G hE g155 ?_;conv=>whnf
 refine Am hv ?_;conv=>whnf
 repeat' (first|(refine AL ?_;conv=>whnf)|fail)
 refine X9 (α:=Nat×List Int×List (AV×AV×Nat)×Nat) (fun x=>[(0,.yld 5),(1,.ptr 3 0),(3,.int .i64 ((x.1:Int)-1))]) (fun x=>[.row 4 [.bool false],.map x.2.2.1 x.2.2.2,.row 177 [.map 1],.row 28 [v],.defd,.loop .ready none 0 MK [13,14] Pj OL 4]) (fun x=>x.1)
  (fun x=>x.1≤L.length∧KM (.int .i64 1) x.2.2.1 x.2.1∧Ez L=IA (L.take x.1).reverse x.2.1) (L.length,[],[],0) [0,1,2,3,4,5] ⟨Zp4 _,KM.nil _,by rw [List.take_length];rfl⟩ ?_ ?_
 ·refine ⟨rfl,by decide,⟨r9,r9,r9,trivial⟩,⟨r9,r9,r9,⟨?_,?_⟩,r9,r9,trivial⟩⟩
  ·show (bd _ v && true)=true;rw [Dp _ hv.hf];rfl
  ·show _=some (AObj.row 28 [Bg _ v]);rw [CZ _ hv.hf];rfl
 rintro ⟨j,tk,es,n⟩ ⟨hj,hK,hh⟩
 dsimp only at hj hK hh ⊢
 refine Ca hE ?_;conv=>whnf
 refine DV rfl rfl (fun h=>?_) (fun h=>?_) <;> conv=>whnf
 ·obtain ⟨i,rfl⟩:∃ i,j=i+1:=⟨j-1,by omega⟩
  have hlt:i<L.length:=by omega
  rw [show ((i+1:Nat):Int)-1=(i:Int) by omega]
  refine Cz rfl hv rfl hlt ?_;conv=>whnf
  refine A8 (Rl hlt) ?_
  have hst:Ez L=(!GR tk L[i] && IA (L.take i).reverse (E2 tk L[i])):=by
   rw [hh,Zpw hlt,List.reverse_append];rfl
  revert hst
  generalize L[i]=x
  obtain ⟨sq,st,bl,pa,su,ho⟩:=x
  intro hst
  conv=>whnf
  refine ERound.mk ?_
  have fin:∀ t s tk' es' n',Ez L=IA (L.take i).reverse tk'->KM (.int .i64 1) es' tk'->t.get 0=some (.yld 5)->t.get 1=some (.ptr 3 0)->t.get 3=some (.int .i64 ((i:Int)-1))->s.get 0=some (.row 4 [.bool false])->s.get 1=some (.map es' n')->s.get 2=some (.row 177 [.map 1])->s.get 3=some (.row 28 [v])->s.get 4=some .defd->s.get 5=some (.loop .ready none 0 MK [13,14] Pj OL 4)->
   ∃ x':Nat×List Int×List (AV×AV×Nat)×Nat,(x'.1≤L.length∧KM (.int .i64 1) x'.2.2.1 x'.2.1∧Ez L=IA (L.take x'.1).reverse x'.2.1)∧x'.1<i+1∧∃ rs,AbsK 6 t s [(0,.yld 5),(1,.ptr 3 0),(3,.int .i64 ((x'.1:Int)-1))] [.row 4 [.bool false],.map x'.2.2.1 x'.2.2.2,.row 177 [.map 1],.row 28 [v],.defd,.loop .ready none 0 MK [13,14] Pj OL 4] rs:=by
   intro t s tk' es' n' hh hK h0 h1 h3 g0 g1 g2 g3 g4 g5
   refine ⟨(i,tk',es',n'),⟨by simp;omega,hK,hh⟩,by simp,[0,1,2,3,4,5],rfl,by decide,⟨⟨rfl,h0⟩,⟨rfl,h1⟩,⟨rfl,h3⟩,trivial⟩,⟨⟨rfl,g0⟩,⟨Eb rfl hK,?_⟩,⟨rfl,g2⟩,⟨?_,?_⟩,⟨rfl,g4⟩,⟨rfl,g5⟩,trivial⟩⟩
   ·show _=some (AObj.map (Cc _ es') n');rw [DY rfl hK];exact g1
   ·show (bd _ v && true)=true;rw [Dp _ hv.hf];rfl
   ·show _=some (AObj.row 28 [Bg _ v]);rw [CZ _ hv.hf];exact g3
  cases ho <;> cases pa <;> cases su
  all_goals
   conv=>whnf
   repeat' (first|(refine Jl rfl rfl rfl hK (fun hin=>?_) (fun hin=>?_) <;> conv=>whnf)|(refine Jl rfl rfl rfl hK' (fun hin=>?_) (fun hin=>?_) <;> conv=>whnf)|((first|refine Jk rfl rfl rfl rfl hK (fun es' n' hK'=>?_)|refine AL ?_|refine Au ?_|refine Av ?_|refine ⟨rfl,?_⟩);conv=>whnf)|refine Ap ?_ ?_|(intro _;first|omega|conv=>whnf))
  all_goals first
   | (refine fin _ _ tk es n ?_ hK ?_ ?_ ?_ ?_ ?_ ?_ ?_ ?_ ?_ <;> first|rfl|(rw [hst];simp [GR,E2];done))
   | (refine fin _ _ tk es n ?_ hK ?_ ?_ ?_ ?_ ?_ ?_ ?_ ?_ ?_ <;> first|rfl|(rw [hst];simp [GR,E2,hin];done))
   | (refine fin _ _ _ es' n' ?_ hK' ?_ ?_ ?_ ?_ ?_ ?_ ?_ ?_ ?_ <;> first|rfl|(rw [hst];simp [GR,E2,hin];done))
   | ((suffices hF:Ez L=false by (rw [hF] at k;exact k _));rw [hst];simp [GR,E2];done)
   | ((suffices hF:Ez L=false by (rw [hF] at k;exact k _));rw [hst];simp [GR,E2,hin];done)
 ·have:j=0:=by omega
  subst this
  conv=>whnf
  have hT:Ez L=true:=by rw [hh];rfl
  rw [hT] at k
  exact k _
def JX (_:Ring):Prop:=True
def IV (r:Ring):Prop:=r.c.may
def SF (r:Ring):AV:=.int .i64 ((CI r.l.live).length:Int)
def Mt (r:Ring):AV:=.bool (Ez r.l.live)
variable {e:Env}
theorem Zdw (hE:EM P e):OvOk P 208 (DD JX SF):=
 Ou g208.b (fun r=>rfl) fun r v hr _ hv=>C.of_G hE g208 (Zdu e hE r hr v hv _ (fun s=>rfl))
theorem Zdo (hE:EM P e) (h159:Inl e 111 RX [.tmp 2]):OvOk P 187 (DD JX Mt):=
 Ou g187.b (fun r=>rfl) fun r v hr _ hv=>C.of_G hE g187 (Zdn e hE h159 r hr v hv _ (fun s=>rfl))
theorem Zan (k:Int) (l:List Int):(Dt k l).length≤l.length+1:=by
 unfold Dt;split <;> simp
theorem ZP (l:List Int) (x:Lv):(IL l x).length≤l.length+1:=by
 unfold IL
 have:=Zan x.stripe l
 split
 ·have h2:=List.length_erase_le (a:=x.stripe) (l:=Dt x.stripe l);omega
 ·exact this
theorem ZF (L:List Lv):(CI L).length≤L.length:=by
 unfold CI
 have:∀ (L:List Lv) (l:List Int),(L.foldl IL l).length≤l.length+L.length:=by
  intro L
  induction L with
  | nil=>intro l;simp
  | cons x L ih=>intro l;have:=ih (IL l x);have:=ZP l x;simp at *;omega
 simpa using this L []
def F7 (r:Ring):Bool:=decide (r.l.used≤r.c.log) && decide ((r.c.members+1)*((CI r.l.live).length:Int)≤IntKind.i64.wrap (r.c.log-r.l.used))
theorem Ze6 (hE:EM P e) (h53:Con e 185 needF.O) (h125:Con e 208 (DD JX SF)):OvOk P 188 (DD IV (fun r=>.bool (F7 r))):=by
 refine Ou g188.b (fun r=>rfl) fun r v hr hp hv=>C.of_G hE g188 ?_
 have hd:(CI r.l.live).length≤1000:=Nat.le_trans (ZF _) hr.l.len
 have hM:r.c.may:=hp
 unfold IV Cfg.may at hp
 have hv':=hr.c
 conv=>whnf
 refine A8 rfl ?_;conv=>whnf
 refine ESc.fam needF h53 r.c hv' (u:=.tup [.int .i64 (r.c.members+1),.int .i64 0]) (by simp [needF,hM]) ?_;conv=>whnf
 repeat' (first|((first|refine As ?_|refine EPrim.sub (q:=.i64) rfl rfl ?_|refine ESc.ov h125 (Oe (RAt.fp hv hr) trivial) ?_|refine Cs rfl rfl (DW (by omega) (by omega)) ?_|refine ⟨rfl,?_⟩);conv=>whnf)|refine B8 ?_ ?_|refine AR ?_ ?_|(intro _;first|omega|conv=>whnf))
 all_goals
  show AV.bool _=AV.bool (F7 r)
  unfold F7
  congr 1
  symm
  simp only [Zpl,Bool.and_eq_false_iff,Zqg,Zqp]
  omega
end Go.AM
namespace Go.AM
attribute [local irreducible] W
open X
def OJ:AC:=match Qf with|.mk c _=>c
def XW:AC:=match Qp with|.mk c _=>c
theorem NQ (e:Env) (s:St) (n:Int) (K:AV->St->Prop) (h:K (.bool (Gp n)) s):VE e OJ (An [.int .u32 n] 0 .lf) s none [] (Cq [.tmp 2] K):=by
 unfold Gp at h
 conv=>whnf
 repeat' (first|refine B8 ?_ ?_|refine AR ?_ ?_|(intro _;first|omega|conv=>whnf))
 ·rw [Zpo (by omega)] at h;exact h
 ·rw [Zp0 (by omega)] at h;exact h
 ·rw [Zp0 (by omega)] at h;exact h
def Gf (r:Ring) (i:Nat) (sure:Bool) (x:Lv):Prop:=
 x.stripe<0∨r.c.chunk*r.c.rows≤x.stripe∨x.blocks<2∨r.c.members+1<x.blocks∨x.seq=0∨x.seq≠(r.l.seq-((r.l.live.length:Int)-i)) % 4294967296∨(x.sure=true∧sure=false)
instance (r:Ring) (i:Nat) (sure:Bool) (x:Lv):Decidable (Gf r i sure x):=by unfold Gf;infer_instance
def EI (r:Ring):Nat->Int->Bool->List Lv->Option Int
 | _,u,_,[]=>some u
 | i,u,s,x::l=>if Gf r i s x then none else EI r (i+1) (u+x.blocks) x.sure l
def Gk (r:Ring):Prop:=Gp r.l.age=true∧Gp r.l.seq=true∧0≤r.l.tail∧r.l.tail<r.c.log∧(r.l.live.length:Int)≤r.c.log∧r.l.used≤r.c.log
instance (r:Ring):Decidable (Gk r):=by unfold Gk;infer_instance
def EJ (r:Ring):Bool:=decide (Gk r) && (match EI r 0 0 true r.l.live with
 | none=>false
 | some u=>decide (u=r.l.used) && decide ((r.l.live.length:Int)<r.l.seq) && Ez r.l.live && F7 r)
theorem Zc3 (e:Env) (hE:EM P e) (h38:Con e 40 stripesF.O) (h53:Con e 185 needF.O) (h122:Inl e 186 OJ [.tmp 2]) (h123:Con e 187 (DD JX Mt)) (h81:Con e 188 (DD IV (fun r=>.bool (F7 r)))) (r:Ring) (hr:r.ok) (hM:r.c.may) (v:AV) (hv:LSl r.l.live v) (Q:AV->St->Prop) (k:∀ s,Q (.bool (EJ r)) s):
 VW P e 0 XW (An [.fp (r.cs v)] 0 .lf) St0 none [] (Cq [.tmp 2] Q):=by
 have hp:=hM
 unfold Cfg.may at hp
 have hlog:=Hb hM
 have hlen:=hr.l.len
 have kF:EJ r=false->∀ s,Q (.bool false) s:=fun h s=>by have:=k s;rw [h] at this;exact this
 have topF:¬ Gk r->∀ s,Q (.bool false) s:=fun h=>kF (by unfold EJ;rw [Zp0 h];rfl)
 conv=>whnf
 refine A8 rfl ?_;conv=>whnf
 refine ESc.fam stripesF h38 r.c hr.c (u:=.tup [.int .i64 (r.c.chunk*r.c.rows),.int .i64 0]) (by simp [stripesF,hM]) ?_;conv=>whnf
 refine A8 rfl ?_;conv=>whnf
 refine ESc.fam needF h53 r.c hr.c (u:=.tup [.int .i64 (r.c.members+1),.int .i64 0]) (by simp [needF,hM]) ?_;conv=>whnf
 refine As ?_;conv=>whnf
 refine ESc.inl h122 (NQ e _ r.l.age _ ?_)
 cases hA:Gp r.l.age <;> conv=>whnf
 ·repeat' (first|(refine Av ?_;conv=>whnf)|fail)
  exact topF (by unfold Gk;rw [hA];simp) _
 repeat' (first|((first|refine As ?_|refine Au ?_);conv=>whnf)|fail)
 refine ESc.inl h122 (NQ e _ r.l.seq _ ?_)
 cases hS:Gp r.l.seq <;> conv=>whnf
 ·repeat' (first|(refine Av ?_;conv=>whnf)|fail)
  exact topF (by unfold Gk;rw [hS];simp) _
 repeat' (first|((first|refine As ?_|refine Am hv ?_|refine Au ?_);conv=>whnf)|refine Aa ?_ ?_|refine Ax ?_ ?_|refine AR ?_ ?_|(intro _;first|omega|conv=>whnf))
 iterate 4 (exact topF (by unfold Gk;omega) _)
 have hT:Gk r:=by unfold Gk;rw [hA,hS];exact ⟨rfl,rfl,by omega,by omega,by omega,by omega⟩
 obtain ⟨L,hL⟩:∃ L,L=r.l.live:=⟨_,rfl⟩
 have hokL:=hr.l.live
 have hB:EJ r=(match EI r 0 0 true L with|none=>false|some u=>decide (u=r.l.used) && decide ((L.length:Int)<r.l.seq) && Ez L && F7 r):=by
  unfold EJ;rw [Zpo hT,hL];rfl
 rw [← hL] at hlen hv hokL
 refine M0 (α:=Nat×Int×Bool) (fun x=>[(0,.fp (r.cs v)),(3,.int .i64 (r.c.chunk*r.c.rows)),(5,.int .i64 (r.c.members+1)),(7,.int .i64 x.2.1),(8,.bool x.2.2),(95,v),(96,.int .i64 (L.length:Int)),(97,.int .i64 (x.1:Int))]) (fun x=>[]) (fun x=>L.length-x.1)
  (fun x=>x.1≤L.length∧EI r 0 0 true L=EI r x.1 x.2.1 x.2.2 (L.drop x.1)∧0≤x.2.1∧x.2.1≤17*(x.1:Int)) (0,0,true) [] ⟨Zp2 _,rfl,Int.le_refl _,Int.le_refl _⟩ ⟨by decide,⟨r9,r9,r9,r9,r9,t9 hv.hf,⟨rfl,by rw [hL];rfl⟩,r9,trivial⟩,trivial⟩ ?_
 rintro ⟨i,u,sr⟩ ⟨hi,hI,hu0,hu1⟩
 dsimp only at hi hI hu0 hu1 ⊢
 refine Ca hE ?_;conv=>whnf
 refine Bl rfl rfl (fun h=>?_) (fun h=>?_) <;> conv=>whnf
 ·have hlt:i<L.length:=by omega
  refine Cz rfl hv rfl hlt ?_;conv=>whnf
  have hx6:=Rl hlt
  have hx:=hokL L[i] (Zqk hlt)
  rw [Zp6 hlt] at hI
  revert hI hx hx6
  generalize L[i]=x
  obtain ⟨sq,st,bl,pa,su,ho⟩:=x
  intro hI hx6 hx
  refine A8 (cs:=[.int .u32 sq,.int .i64 st,.int .i64 bl,.bool pa,.bool su,.bool ho]) hx6 ?_
  have bad:Gf r i sr ⟨sq,st,bl,pa,su,ho⟩->∀ s,Q (.bool false) s:=fun h=>kF (by rw [hB,hI];unfold EI;rw [Zpn h])
  have go:¬ Gf r i sr ⟨sq,st,bl,pa,su,ho⟩->EI r 0 0 true L=EI r (i+1) (u+bl) su (L.drop (i+1)):=fun h=>by rw [hI];conv=>lhs;unfold EI;rw [Zpr h]
  have fin:¬ Gf r i sr ⟨sq,st,bl,pa,su,ho⟩->∀ t s,t.get 0=some (.fp (r.cs v))->t.get 3=some (.int .i64 (r.c.chunk*r.c.rows))->t.get 5=some (.int .i64 (r.c.members+1))->t.get 7=some (.int .i64 (u+bl))->t.get 8=some (.bool su)->t.get 95=some v->t.get 96=some (.int .i64 (L.length:Int))->t.get 97=some (.int .i64 ((i:Int)+1))->
   ∃ x':Nat×Int×Bool,(x'.1≤L.length∧EI r 0 0 true L=EI r x'.1 x'.2.1 x'.2.2 (L.drop x'.1)∧0≤x'.2.1∧x'.2.1≤17*(x'.1:Int))∧L.length-x'.1<L.length-i∧∃ rs,Abs t s [(0,.fp (r.cs v)),(3,.int .i64 (r.c.chunk*r.c.rows)),(5,.int .i64 (r.c.members+1)),(7,.int .i64 x'.2.1),(8,.bool x'.2.2),(95,v),(96,.int .i64 (L.length:Int)),(97,.int .i64 (x'.1:Int))] [] rs:=by
   intro hnb t s h0 h3 h5 h7 h8 h95 h96 h97
   have hnb':=hnb
   unfold Gf at hnb'
   dsimp only at hnb'
   refine ⟨(i+1,u+bl,su),⟨hlt,go hnb,by simp;omega,by simp;omega⟩,by simp;omega,[],⟨by decide,⟨⟨rfl,h0⟩,⟨rfl,h3⟩,⟨rfl,h5⟩,⟨rfl,h7⟩,⟨rfl,h8⟩,⟨Dp _ hv.hf,by rw [CZ _ hv.hf];exact h95⟩,⟨rfl,h96⟩,⟨rfl,h97⟩,trivial⟩,trivial⟩⟩
  have hsq:0≤sq∧sq<4294967296:=hx.seq
  have hLL:L.length=r.l.live.length:=by rw [hL]
  rw [hL] at hlen hlt hi h
  have hv':=hv
  rw [hL] at hv'
  unfold Gf at bad fin
  dsimp only at bad fin
  conv=>whnf
  repeat' (first|((first|refine As ?_|refine AD rfl hv' ?_|refine Ac ?_|refine AL ?_|refine CQ ?_|refine CJ ?_|refine ⟨rfl,?_⟩);conv=>whnf)|refine Aa ?_ ?_|refine Ax ?_ ?_|refine AR ?_ ?_|refine Ap ?_ ?_|refine Al ?_ ?_|(refine w19 rfl ?_ ?_ <;> intro hc <;> (try subst hc) <;> conv=>whnf)|(intro _;first|omega|conv=>whnf))
  iterate 6 (refine bad ?_ _;omega)
  ·cases sr
   ·repeat' (first|(refine Av ?_;conv=>whnf)|fail)
    refine bad ?_ _;simp
   ·repeat' (first|((first|refine Ac ?_|refine Au ?_|refine ⟨rfl,?_⟩);conv=>whnf)|fail)
    refine fin ?_ _ _ ?_ ?_ ?_ ?_ ?_ ?_ ?_ ?_ <;> first|rfl|(simp;omega)
  ·refine fin ?_ _ _ ?_ ?_ ?_ ?_ ?_ ?_ ?_ ?_ <;> first|rfl|(simp;omega)
 ·have hd:L.drop i=[]:=Zqf (by omega)
  rw [hd] at hI
  rw [hI] at hB
  have hBu:EJ r=(decide (u=r.l.used) && decide ((L.length:Int)<r.l.seq) && Ez L && F7 r):=by rw [hB];rfl
  have hseq:0≤r.l.seq∧r.l.seq<4294967296:=hr.l.seq
  have hRA:∀ s,RAt s (.fp (r.cs v)) r v:=fun s=>RAt.fp (by rw [← hL];exact hv) hr
  repeat' (first|((first|refine As ?_|refine Am hv ?_|refine Cp ?_);conv=>whnf)|refine Ax ?_ ?_|refine Ap ?_ ?_|(intro _;first|omega|conv=>whnf))
  ·refine ESc.ov h123 (Oe (hRA _) trivial) ?_
   have hg:Mt r=.bool (Ez L):=by rw [hL];rfl
   rw [hg]
   cases hH:Ez L
   ·conv=>whnf
    exact kF (by rw [hBu,hH];simp) _
   ·conv=>whnf
    refine ESc.ov h81 (Oe (hRA _) hM) ?_
    cases hR:F7 r
    ·conv=>whnf
     exact kF (by rw [hBu,hR];simp) _
    ·conv=>whnf
     have hT:EJ r=true:=by rw [hBu,hH,hR,Zpo (by omega),Zpo (by omega)];rfl
     rw [hT] at k;exact k _
  ·exact kF (by rw [hBu,Zp0 (p:=(L.length:Int)<r.l.seq) (by omega)];simp) _
  ·exact kF (by rw [hBu,Zp0 (p:=u=r.l.used) (by omega)];simp) _
variable {e:Env}
theorem Zc4 (hE:EM P e) (h38:Con e 40 stripesF.O) (h53:Con e 185 needF.O) (h122:Inl e 186 OJ [.tmp 2]) (h123:Con e 187 (DD JX Mt)) (h81:Con e 188 (DD IV (fun r=>.bool (F7 r)))):OvOk P 149 (DD IV (fun r=>.bool (EJ r))):=
 Ou g149.b (fun r=>rfl) fun r v hr hp hv=>C.of_G hE g149 (Zc3 e hE h38 h53 h122 h123 h81 r hr hp v hv _ (fun s=>rfl))
structure CL where
 c:Cfg
 l:Log
 v:AV
structure CL.ok (x:CL):Prop where
 c:x.c.ok
 l:x.l.ok
 v:LSl x.l.live x.v
def CL.lv (x:CL):AV:=.agg (x.l.c x.v)
variable {x y:CL}
theorem CL.inj (hx:x.ok) (hy:y.ok) (h1:x.c.v=y.c.v) (h2:x.lv=y.lv):x=y:=by
 obtain ⟨c,⟨a1,a2,a3,a4,a5⟩,v⟩:=x
 obtain ⟨c',⟨b1,b2,b3,b4,b5⟩,v'⟩:=y
 have e1:=Ix h1
 dsimp only at e1
 subst e1
 simp [CL.lv,Log.c] at h2
 obtain ⟨rfl,rfl,rfl,rfl,rfl⟩:=h2
 have:=LSl.inj hx.v hy.v
 dsimp only at this
 subst this;rfl
def CL.ring (x:CL):Ring:=⟨x.l,x.c⟩
def CL.good (x:CL):Prop:=x.c.may∧EJ x.ring=true
instance (x:CL):Decidable x.good:=by unfold CL.good;infer_instance
theorem Zek (h:x.ok):x.ring.ok:=⟨h.l,h.c⟩
def CL.args (x:CL):List AV:=[x.c.v,x.lv]
theorem CL.inja (hx:x.ok) (hy:y.ok) (h:x.args=y.args):x=y:=CL.inj hx hy (Zpv h).1 (Zpv (Zpv h).2).1
def lchkF:Fam CL:=⟨CL.ok,CL.args,fun x=>.int .i64 (if x.good then 0 else 8),fun x y hx hy h=>by rw [CL.inja hx hy h]⟩
theorem CL.hfa (h:x.ok):hfs x.args=true:=by
 show (true && ((true && (true && (true && (true && (AM.hf x.v && true))))) && true))=true
 rw [h.v.hf];rfl
theorem Zfr (hE:EM P e) (h78:Con e 103 cfgF.O) (h79:Con e 149 (DD IV (fun r=>.bool (EJ r)))):OvOk P 105 lchkF.O:=by
 refine C7 g105.b ?_
 intro x hx
 refine ⟨CL.hfa hx,rfl,C.of_G hE g105 ?_⟩
 by_cases hM:x.c.may
 ·have hR:∀ (s:St) (q:Nat),s.get q=some (.row 216 (x.ring.cs x.v))->RAt s (.ptr q 0) x.ring x.v:=fun s q h=>
   ⟨.ptr q 0 216 _ _ _ h (fun i y hy=>by rw [Zpy];exact hy) (Oz (Wu _ hx.v)),hx.v,Zek hx⟩
  conv=>whnf
  refine ESc.fam cfgF h78 x.c hx.c (u:=.int .i64 0) (by simp [cfgF,hM]) ?_;conv=>whnf
  repeat' (first|refine Al ?_ ?_|(intro _;first|omega|conv=>whnf))
  refine ESc.ov h79 (Oe (hR _ _ rfl) hM) ?_
  cases hB:EJ x.ring
  ·conv=>whnf
   repeat' (first|(refine Av ?_;conv=>whnf)|fail)
   rw [show lchkF.out x=.int .i64 8 by simp [lchkF,CL.good,hB]]
   exact .plain _ rfl
  ·conv=>whnf
   repeat' (first|(refine Au ?_;conv=>whnf)|fail)
   rw [show lchkF.out x=.int .i64 0 by simp [lchkF,CL.good,hB,hM]]
   exact .plain _ rfl
 ·rw [show lchkF.out x=.int .i64 8 by simp [lchkF,CL.good,hM]]
  conv=>whnf
  refine ESc.fam cfgF h78 x.c hx.c (u:=.int .i64 8) (by simp [cfgF,hM]) ?_;conv=>whnf
  repeat' (first|refine Al ?_ ?_|(intro _;first|omega|conv=>whnf))
  exact .plain _ rfl
theorem Zlk (hE:EM P e) {k:Nat}{rd:Option Nat}{a:AC}{t:AT}{s:St}{ds:List Nat}{Q:EQ}(h:VW P e k a t s rd ds (Jg (fun _ _ _=>False) Q)):W P k rd (.loop a) t s ds Q:=by
 refine W.loop (fun n t' s' ds'=>n=0∧t'=t∧s'=s∧ds'=ds) 0 ⟨rfl,rfl,rfl,rfl⟩ ?_
 rintro n t' s' ds' ⟨rfl,rfl,rfl,rfl⟩
 refine (Ca hE h).mono ?_
 intro x t s ds hq
 cases x with
 | normal=>exact (show False from hq).elim
 | exit id=>exact hq
 | ret=>exact hq
section
variable {t:AT}{s:St}{k:AV->St->Prop}{x y:AO}
variable {el es r:Nat}{v:AV}
theorem Fc (hx:ev x t=.some (.sl r 0 0 (some 0))) (hy:ev y t=.some v) (hv:Dd es v s=some []) (hk:k (.sl r 0 0 (some 0)) s):EPrim (.app el es x y) t s k:=by
 refine EPrim.mk (fun e rec=>?_) hk
 show wth x t _=_;unfold wth;rw [hx]
 show wth y t _=_;unfold wth;rw [hy]
 show (Option.rec .fail _ (Dd es v s):RV)=_
 rw [hv];rfl
theorem EPrim.app1 {m:Nat}{c:AV}{cs:List AV}(hx:ev x t=.some (.sl r 0 0 (some 0))) (hy:ev y t=.some v) (hv:Dd es v s=some (c::cs)) (hr:s.get r=some (.row el [])) (hm:(c::cs).length / es=m) (h0:0<m) (h1:m≤1000000) (hk:k (.sl s.next 0 m none) (s.alloc (.row el (c::cs)))):EPrim (.app el es x y) t s k:=by
 refine EPrim.mk (fun e rec=>?_) hk
 show wth x t _=_;unfold wth;rw [hx]
 show wth y t _=_;unfold wth;rw [hy]
 show (Option.rec .fail _ (Dd es v s):RV)=_
 rw [hv]
 show AM.app1 el es (c::cs) (Nat.div (A7 (c::cs)) es) r 0 0 (some 0) s=_
 unfold AM.app1
 rw [CY,show Nat.div (c::cs).length es=m from hm,show Nat.mul 0 es=0 from Nat.zero_mul es,G8 hr (by simp)]
 show (Bool.rec (C2 el (0+m) (Be [] (c::cs)) s) _ (Nat.ble (0+m) 0):RV)=_
 rw [Zpy,show Nat.ble m 0=false by rw [← Zrj];intro e;have:=Zp7 e;omega]
 show gd (Nat.ble m 1000000) _=_
 rw [Zqa h1];rfl
end
variable {t:AT}{s:St}{k:AV->St->Prop}{x y:AO}
theorem Hv {v:AV}(hx:ev x t=.some v) (hy:ev y t=.some .nils) (h:v=.es∨∃ n c l,v=.fz n c l) (hk:k (.bool false) s):EPrim (.eqb 2 false x y) t s k:=by
 refine EPrim.mk (v:=.bool false) (s':=s) (fun e rec=>?_) hk
 show wth x t _=_;unfold wth;rw [hx]
 show wth y t _=_;unfold wth;rw [hy]
 rcases h with rfl|⟨n,c,l,rfl⟩ <;> rfl
theorem OF (hx:ev x t=.some .nils) (hy:ev y t=.some .nils) (hk:k (.bool true) s):EPrim (.eqb 2 false x y) t s k:=by
 refine EPrim.mk (v:=.bool true) (s':=s) (fun e rec=>?_) hk
 show wth x t _=_;unfold wth;rw [hx]
 show wth y t _=_;unfold wth;rw [hy];rfl
end Go.AM
namespace Go.AM
attribute [local irreducible] W
open X
def MJ:Ov:=fun args s=>match args with
 | []=>.ok (.bool true) s
 | _=>.fail
theorem Zer {e:Env}{f k:Nat}(hE:EM P e) (hb:Ga P f) (h:S2 (Cu e (exec e k) f [] St0)=true):OvOk P f MJ:=by
 refine ⟨hb,fun args s v s' hh=>?_⟩
 unfold MJ at hh
 split at hh
 ·cases hh
  refine MI rfl rfl ?_ s
  obtain ⟨s1,h⟩:=Zdl h
  intro γ vals w m hA hs
  have hc:=(NO (V8 hE.1 hE.2 k) hE.1 hA hs h).2 m
  exact CallsIn.mono hc fun e w' hp=>⟨_,_,.plain _ rfl,hp⟩
 ·cases hh
end Go.AM
namespace Go.AM
open Go.RowKit
variable {n:Int}
theorem wf_i64 (h:(Lit.int .i64 n).wf=true):Ab n:=by
 unfold Ab
 simp [Lit.wf,IntKind.min,IntKind.max,IntKind.bits,IntKind.signed] at h
 omega
theorem Jz (h:(Lit.int .u32 n).wf=true):Bn n:=by
 unfold Bn
 simp [Lit.wf,IntKind.min,IntKind.max,IntKind.bits,IntKind.signed] at h
 omega
def tCfg:List Ty:=[.int .u32,.int .i64,.int .i64,.int .i64,.int .i64,.int .i64]
def tLv:List Ty:=[.int .u32,.int .i64,.int .i64,.bool,.bool,.bool]
def tLog:List Ty:=[.int .u32,.int .u32,.int .i64,.int .i64,.sl (.st tLv)]
variable {k:IntKind}{l:List AV}
theorem Zcy (h:Shape (.int k) l):∃ n,l=[.int k n]∧(Lit.int k n).wf=true:=by
 cases h with|int _ n h=>exact ⟨n,rfl,h⟩
theorem Za1 (h:Shape .bool l):∃ b,l=[.bool b]:=by
 cases h with|bool b=>exact ⟨b,rfl⟩
variable {Ts:List Ty}
theorem NL {T:Ty}(h:Shapes (T::Ts) l):∃ a b,l=a++b∧Shape T a∧Shapes Ts b:=by
 cases h with|cons _ _ a b h1 h2=>exact ⟨a,b,rfl,h1,h2⟩
theorem QH (h:Shapes [] l):l=[]:=by cases h;rfl
theorem Hc (h:Shapes (.int k::Ts) l):∃ n b,l=.int k n::b∧(Lit.int k n).wf=true∧Shapes Ts b:=by
 obtain ⟨a,b,rfl,h1,h2⟩:=NL h
 obtain ⟨n,rfl,hw⟩:=Zcy h1
 exact ⟨n,b,rfl,hw,h2⟩
theorem QD (h:Shapes (.bool::Ts) l):∃ x b,l=.bool x::b∧Shapes Ts b:=by
 obtain ⟨a,b,rfl,h1,h2⟩:=NL h
 obtain ⟨n,rfl⟩:=Za1 h1
 exact ⟨n,b,rfl,h2⟩
theorem Zno (h:Shapes tCfg l):∃ c:Cfg,c.ok∧l=c.c:=by
 obtain ⟨a1,b1,rfl,w1,g1⟩:=Hc h
 obtain ⟨a2,b2,rfl,w2,g2⟩:=Hc g1
 obtain ⟨a3,b3,rfl,w3,g3⟩:=Hc g2
 obtain ⟨a4,b4,rfl,w4,g4⟩:=Hc g3
 obtain ⟨a5,b5,rfl,w5,g5⟩:=Hc g4
 obtain ⟨a6,b6,rfl,w6,g6⟩:=Hc g5
 rw [QH g6]
 exact ⟨⟨a1,a2,a3,a4,a5,a6⟩,⟨Jz w1,wf_i64 w2,wf_i64 w3,wf_i64 w4,wf_i64 w5,wf_i64 w6⟩,rfl⟩
theorem Zok (h:Shapes tLv l):∃ x:Lv,x.ok∧l=x.c:=by
 obtain ⟨a1,b1,rfl,w1,g1⟩:=Hc h
 obtain ⟨a2,b2,rfl,w2,g2⟩:=Hc g1
 obtain ⟨a3,b3,rfl,w3,g3⟩:=Hc g2
 obtain ⟨a4,b4,rfl,g4⟩:=QD g3
 obtain ⟨a5,b5,rfl,g5⟩:=QD g4
 obtain ⟨a6,b6,rfl,g6⟩:=QD g5
 rw [QH g6]
 exact ⟨⟨a1,a2,a3,a4,a5,a6⟩,⟨Jz w1,wf_i64 w2,wf_i64 w3⟩,rfl⟩
theorem arg_struct {H:Type}{enc:TypeId×Value->H}{W:World}{t:TypeId}{Fs:List Ty}{n:Nat}{v:Value}{d:DataW H}{ps:List MemPlace}{fs:Array Field}{r:Reach}{base:Nat}(hu:P.underlying t=some (.struct fs)) (hT:TyOf P t (.st Fs) n) (hval:Value.okWide P W r base t v) (h:DataW.Trod enc P W 0 (fun _=>true) true t v d ps):
 ∃ l,Shapes Fs l∧VR (FJ W) (.agg l) v:=by
 obtain ⟨cs,rfl,_⟩:=WideShapes.okWide_struct hu hval
 obtain ⟨fuel,hf⟩:=h
 obtain ⟨l,h1,h2,h3,h4⟩:=UR fuel hT hf
 cases h1 with
 | st _ _ hs=>exact ⟨l,hs,.agg l cs h3 h4⟩
theorem law_args {f:Nat}{args:List AV}{vals:List Value}{w:World}(hA:All2 (VR (FJ w)) args vals) (hC:C P f args St0 (fun v _=>v=.bool true)):
 Calls P f vals.toArray w fun x w'=>x=.returned (.bool true)∧Below w.heap.size w w':=by
 have hc:=hC (FJ w) vals w 0 hA (Zf2 w)
 refine callsIn_wide.1 (CallsIn.mono hc ?_)
 rintro x w' ⟨v,s',rfl,v',γ',rfl,hst,_,hv⟩
 cases hv
 exact ⟨rfl,hst.os,hst.tape,hst.output,hst.size,fun b hb=>hst.blk b hb (fun r L hL=>by cases hL)⟩
end Go.AM
namespace Go.AM
attribute [local irreducible] W
open X
structure I3 where
 a:Int
 b:Int
 c:Int
def I3.ok (x:I3):Prop:=Ab x.a∧Ab x.b∧Ab x.c
def I3.args (x:I3):List AV:=[.int .i64 x.a,.int .i64 x.b,.int .i64 x.c]
def Ba (n:Nat):Bool:=decide (n≠0) && decide (n≠128)
structure BN where
 v:AV
 n:Nat
def BN.ok (x:BN):Prop:=(∃ l,Sl 1 x.n l x.v)∧x.n<1000000000
variable {es m:Nat}{l k:List AV}
theorem Sl.n_inj {n:Nat}{v:AV}(h:Sl es n l v) (h':Sl es m k v):n=m:=by
 rcases h with ⟨rfl,rfl,_⟩|⟨rfl,rfl,_⟩|⟨c,rfl,_⟩
 ·rcases h' with ⟨_,rfl,_⟩|⟨e,_⟩|⟨c,e,_⟩
  ·rfl
  ·cases e
  ·cases e
 ·rcases h' with ⟨e,_⟩|⟨_,rfl,_⟩|⟨c,e,_⟩
  ·cases e
  ·rfl
  ·cases e
 ·rcases h' with ⟨e,_⟩|⟨e,_⟩|⟨c,e,_⟩
  ·cases e
  ·cases e
  ·cases e;rfl
theorem BN.inj {x y:BN}(hx:x.ok) (hy:y.ok) (h:[x.v]=[y.v]):x=y:=by
 obtain ⟨v,n⟩:=x
 obtain ⟨v',n'⟩:=y
 have e:v=v':=(Zpv h).1
 subst e
 obtain ⟨⟨l,h1⟩,_⟩:=hx
 obtain ⟨⟨l',h2⟩,_⟩:=hy
 have:=h1.n_inj h2
 dsimp only at this
 rw [this]
def oddF:Fam BN:=⟨BN.ok,fun x=>[x.v],fun x=>.bool (Ba x.n),fun x y hx hy h=>by rw [BN.inj hx hy h]⟩
structure BL where
 v:AV
 us:List AV
 ns:List Nat
structure BL.ok (x:BL):Prop where
 sl:Sl 1 x.us.length x.us x.v
 bl:All2 (fun u n=>BN.ok ⟨u,n⟩) x.us x.ns
 len:x.us.length<1000000000
theorem BL.inj {x y:BL}(hx:x.ok) (hy:y.ok) (h:x.v=y.v):x=y:=by
 obtain ⟨v,us,ns⟩:=x
 obtain ⟨v',us',ns'⟩:=y
 have e:v=v':=h
 subst e
 have h1:=hx.sl
 have h2:=hy.sl
 have h3:=hx.bl
 have h4:=hy.bl
 dsimp only at h1 h2 h3 h4
 have e2:us=us':=by
  rcases h1 with ⟨rfl,_,h1⟩|⟨rfl,_,h1⟩|⟨c,rfl,_⟩
  ·rcases h2 with ⟨_,_,h2⟩|⟨e,_⟩|⟨c,e,_⟩
   ·rw [h1,h2]
   ·cases e
   ·cases e
  ·rcases h2 with ⟨e,_⟩|⟨_,_,h2⟩|⟨c,e,_⟩
   ·cases e
   ·rw [h1,h2]
   ·cases e
  ·rcases h2 with ⟨e,_⟩|⟨e,_⟩|⟨c,e,_⟩
   ·cases e
   ·cases e
   ·injection e
 subst e2
 have:∀ {us:List AV}{ns ns':List Nat},All2 (fun u n=>BN.ok ⟨u,n⟩) us ns->All2 (fun u n=>BN.ok ⟨u,n⟩) us ns'->ns=ns':=by
  intro us
  induction us with
  | nil=>intro ns ns' a b;cases a;cases b;rfl
  | cons u us ih=>
   intro ns ns' a b
   cases a with
   | cons a1 a2=>cases b with
    | cons b1 b2=>
     obtain ⟨⟨l,q1⟩,_⟩:=a1
     obtain ⟨⟨l',q2⟩,_⟩:=b1
     have e:=q1.n_inj q2
     dsimp only at e
     rw [ih a2 b2,e]
 rw [this h3 h4]
def Zks:AC:=match Qs with|.mk c _=>c
def XV:AC:=match NA with|.mk c _=>c
def Tx (l:List Int):List AV:=l.map (AV.int .i64)
def Yi (top:Int):Int->List Int->Bool
 | _,[]=>true
 | last,s::l=>decide (last<s∧s≤top) && Yi top s l
structure SL where
 c:Cfg
 v:AV
 l:List Int
structure SL.ok (x:SL):Prop where
 c:x.c.ok
 m:x.c.may
 sl:Sl 1 x.l.length (Tx x.l) x.v
 b:∀ s ∈ x.l,Ab s
 len:x.l.length<1000000000
theorem Sl.l_inj {n:Nat}{v:AV}(h:Sl es n l v) (h':Sl es m k v):l=k:=by
 rcases h with ⟨rfl,_,h⟩|⟨rfl,_,h⟩|⟨c,rfl,_⟩
 ·rcases h' with ⟨_,_,h2⟩|⟨e,_⟩|⟨c,e,_⟩
  ·rw [h,h2]
  ·cases e
  ·cases e
 ·rcases h' with ⟨e,_⟩|⟨_,_,h2⟩|⟨c,e,_⟩
  ·cases e
  ·rw [h,h2]
  ·cases e
 ·rcases h' with ⟨e,_⟩|⟨e,_⟩|⟨c,e,_⟩
  ·cases e
  ·cases e
  ·injection e
def Zht (top:Int) (l:List Int):Bool:=Yi top (-1) l && decide (0<l.length)
structure Dl where
 stripe:Int
 sv:AV
 sl:List Int
 b:BL
 pv:AV
 pn:Nat
def Dl.c (d:Dl):List AV:=[.int .i64 d.stripe,d.sv,d.b.v,d.pv]
def Dl.v (d:Dl):AV:=.agg d.c
structure Dl.ok (d:Dl):Prop where
 stripe:Ab d.stripe
 sl:Sl 1 d.sl.length (Tx d.sl) d.sv
 sb:∀ s ∈ d.sl,Ab s
 sn:d.sl.length<1000000000
 b:d.b.ok
 p:BN.ok ⟨d.pv,d.pn⟩
def Zow (c:Cfg) (d:Dl):Bool:=!(d.b.ns.any Ba) && decide (0≤d.stripe∧d.stripe<c.chunk*c.rows) && Zht (c.members-2) d.sl && decide (d.b.ns.length=d.sl.length) && !(Ba d.pn)
structure CD where
 c:Cfg
 d:Dl
structure CD.ok (x:CD):Prop where
 c:x.c.ok
 d:x.d.ok
def CD.good (x:CD):Prop:=x.c.may∧Zow x.c x.d=true
instance (x:CD):Decidable x.good:=by unfold CD.good;infer_instance
structure Rc where
 slot:Int
 bare:Bool
 sum:Int
def Rc.c (x:Rc):List AV:=[.int .u8 x.slot,.bool x.bare,.int .u32 x.sum]
def Rc.ok (x:Rc):Prop:=(0≤x.slot∧x.slot<256)∧Bn x.sum
def rcs (L:List Rc):List AV:=L.flatMap Rc.c
structure Nt where
 id:Int
 age:Int
 seq:Int
 stripe:Int
 v:AV
 recs:List Rc
def Nt.c (x:Nt):List AV:=[.int .u32 x.id,.int .u32 x.age,.int .u32 x.seq,.int .i64 x.stripe,x.v]
def Nt.a (x:Nt):AV:=.agg x.c
structure Nt.ok (x:Nt):Prop where
 id:Bn x.id
 age:Bn x.age
 seq:Bn x.seq
 stripe:Ab x.stripe
 sl:Sl 3 x.recs.length (rcs x.recs) x.v
 rc:∀ r ∈ x.recs,r.ok
 len:x.recs.length<1000000000
theorem LT {bs:List Nat}(hl:bs.length=0∨bs.length=128):(Ah bs).length=128:=by
 unfold Ah
 split
 ·simp
 ·rename_i h
  rcases hl with e|e
  ·exact absurd (Zqh.1 e) h
  ·exact e
theorem X4:∀ {l m:List Nat},Ad l=Ad m->l=m
 | [],[],_=>rfl
 | [],_::_,h=>by cases h
 | _::_,[],h=>by cases h
 | a::l,b::m,h=>by
  have h:AV.int .u8 (Int.ofNat a)::Ad l=.int .u8 (Int.ofNat b)::Ad m:=h
  injection h with h1 h2
  injection h1 with _ h1
  injection h1 with h1
  rw [h1,X4 h2]
def BAt (u:AV) (b:List Nat):Prop:=Sl 1 b.length (Ad b) u∧∀ x ∈ b,x<256
theorem BAt.inj {u:AV}{b c:List Nat}(h:BAt u b) (h':BAt u c):b=c:=X4 (h.1.l_inj h'.1)
structure DB where
 st:Int
 sv:AV
 sl:List Int
 bv:AV
 us:List AV
 bs:List (List Nat)
 pv:AV
 pb:List Nat
def DB.d (x:DB):Dl:=⟨x.st,x.sv,x.sl,⟨x.bv,x.us,x.bs.map List.length⟩,x.pv,x.pb.length⟩
structure DB.ok (x:DB):Prop where
 d:x.d.ok
 bs:All2 BAt x.us x.bs
 pb:BAt x.pv x.pb
def Az (b:List Nat):AV:=.fz 128 none (Ad b)
def DB.prs (x:DB):List (Int×List Nat):=x.sl.zip x.bs++(if x.pb.length=0 then [] else [(255,x.pb)])
structure BD where
 c:Cfg
 age:Int
 seq:Int
 d:DB
structure BD.ok (x:BD):Prop where
 c:x.c.ok
 age:Bn x.age
 seq:Bn x.seq
 d:x.d.ok
def BD.enc (x:BD):List AV:=[x.c.v,.int .u32 x.age,.int .u32 x.seq,x.d.d.v]
variable {L:List AV}{x:AV}
theorem Ip {ρ:Nat->Nat}(h:hfs L=true):AF ρ (L++[x])=L++[Bg ρ x]:=by
 induction L with
 | nil=>rfl
 | cons y L ih=>
  simp only [hfs,Zpl] at h
  show Bg ρ y::AF ρ (L++[x])=_
  rw [CZ y h.1,ih h.2];rfl
theorem I2 {n:Nat}(h:hfs L=true):Bq n (L++[x])=bd n x:=by
 induction L with
 | nil=>show (bd n x && true)=_;rw [Bool.and_true]
 | cons y L ih=>
  simp only [hfs,Zpl] at h
  show (bd n y && Bq n (L++[x]))=_
  rw [Dp y h.1,ih h.2];rfl
def DB.n (d:DB):Nat:=d.prs.length+1
structure DB.any (x:DB):Prop where
 st:Ab x.st
 sl:Sl 1 x.sl.length (Tx x.sl) x.sv
 sb:∀ s ∈ x.sl,Ab s
 bl:Sl 1 x.us.length x.us x.bv
 bs:All2 BAt x.us x.bs
 pb:BAt x.pv x.pb
end Go.AM
namespace Go.AM
open Go.RowKit
def Zoa:Ty:=.sl (.int .i64)
def tByt:Ty:=.sl (.int .u8)
def tDeal:List Ty:=[.int .i64,Zoa,.sl tByt,tByt]
theorem Zn6 {n:Int}(h:(Lit.int .u8 n).wf=true):0≤n∧n<256:=by
 simp [Lit.wf,IntKind.min,IntKind.max,IntKind.bits,IntKind.signed] at h
 omega
end Go.AM
namespace Go.AM
open X
variable {l:List AV}
theorem EG {m:List AV}(h:hfs l=true) (h':hfs m=true):hfs (l++m)=true:=hfs_iff.2 fun v hv=>(Zqb.1 hv).elim (hfs_iff.1 h v) (hfs_iff.1 h' v)
structure Ce (α:Type) where
 k:Nat
 r:α->List AV->Prop
 len:∀ {x l},r x l->l.length=k
 hf:∀ {x l},r x l->hfs l=true
 inj:∀ {x y l},r x l->r y l->x=y
def Ce.int (q:IntKind):Ce Int:=⟨1,fun n l=>l=[.int q n]∧(Lit.int q n).wf=true,by rintro _ _ ⟨rfl,_⟩;rfl,by rintro _ _ ⟨rfl,_⟩;rfl,by rintro _ _ _ ⟨rfl,_⟩ ⟨h,_⟩;cases h;rfl⟩
def Ce.u8:Ce Nat:=⟨1,fun n l=>l=[.int .u8 (n:Int)]∧n<256,by rintro _ _ ⟨rfl,_⟩;rfl,by rintro _ _ ⟨rfl,_⟩;rfl,by rintro x y _ ⟨rfl,_⟩ ⟨h,_⟩;injection h with h;injection h with _ h;exact Int.ofNat.inj h⟩
def Ce.bool:Ce Bool:=⟨1,fun n l=>l=[.bool n],by rintro _ _ rfl;rfl,by rintro _ _ rfl;rfl,by rintro _ _ _ rfl h;cases h;rfl⟩
theorem FW {α:Type}{A:Ce α}:∀ {xs:List α}{ls:List (List AV)},All2 A.r xs ls->ls.flatten.length=xs.length*A.k
 | [],_,h=>by cases h;simp
 | x::xs,_,h=>by
  cases h with
  | cons h1 h2=>rw [List.flatten_cons,Zpx,A.len h1,FW h2,Zqd,Nat.add_mul];omega
theorem W2 {α:Type}{A:Ce α}:∀ {xs ys:List α}{ls ms:List (List AV)},xs.length=ys.length->All2 A.r xs ls->All2 A.r ys ms->ls.flatten=ms.flatten->xs=ys
 | [],[],_,_,_,_,_,_=>rfl
 | x::xs,y::ys,_,_,hn,h,h',he=>by
  cases h with
  | cons h1 h2=>cases h' with
   | cons h3 h4=>
    rw [List.flatten_cons,List.flatten_cons] at he
    obtain ⟨e1,e2⟩:=List.append_inj he (by rw [A.len h1,A.len h3])
    subst e1
    rw [A.inj h1 h3,W2 (Nat.succ.inj hn) h2 h4 e2]
 | [],_::_,_,_,hn,_,_,_=>by cases hn
 | _::_,[],_,_,hn,_,_,_=>by cases hn
def Ls {α:Type}(A:Ce α) (xs:List α) (v:AV):Prop:=∃ ls,All2 A.r xs ls∧Sl A.k xs.length ls.flatten v∧xs.length≤9223372036854775807
theorem Ls.inj {α:Type}{A:Ce α}{xs ys:List α}{v:AV}(h:Ls A xs v) (h':Ls A ys v):xs=ys:=by
 obtain ⟨ls,a,b,_⟩:=h
 obtain ⟨ms,c,d,_⟩:=h'
 exact W2 (b.n_inj d) a c (b.l_inj d)
theorem Ls.hf {α:Type}{A:Ce α}{xs:List α}{v:AV}(h:Ls A xs v):AM.hf v=true:=by obtain ⟨_,_,h,_⟩:=h;exact h.hf
theorem Ls.nth {α:Type}{A:Ce α}{xs:List α}{v:AV}(h:Ls A xs v):∃ cs,Sl A.k xs.length cs v∧xs.length≤9223372036854775807∧∀ i,i<xs.length->∃ x c l,xs[i]?=some x∧A.r x c∧cs.drop (i*A.k)=c++l:=by
 obtain ⟨ls,a,b,hb⟩:=h
 refine ⟨_,b,hb,fun i hi=>?_⟩
 obtain ⟨c,h1,h2⟩:=a.get (Zpj hi)
 have ht:=FW (a.take i)
 rw [Zp9,Nat.min_eq_left (Nat.le_of_lt hi)] at ht
 have hl:i<ls.length:=(Zpk.1 h1).1
 have hc:ls[i]=c:=(Zpk.1 h1).2
 refine ⟨_,c,(ls.drop (i+1)).flatten,Zpj hi,h2,?_⟩
 conv=>lhs;rw [← List.take_append_drop i ls,List.flatten_append,← ht,List.drop_left,Zp6 hl,List.flatten_cons,hc]
def Ce.sl {α:Type}(A:Ce α):Ce (List α):=⟨1,fun xs l=>∃ v,l=[v]∧Ls A xs v,by rintro _ _ ⟨v,rfl,_⟩;rfl,by rintro _ _ ⟨v,rfl,h⟩;show (AM.hf v && true)=true;rw [h.hf];rfl,by
 rintro x y _ ⟨v,rfl,h⟩ ⟨u,e,h'⟩
 injection e with e _;subst e
 exact h.inj h'⟩
def Ce.pr {α β:Type}(A:Ce α) (B:Ce β):Ce (α×β):=⟨A.k+B.k,fun x l=>∃ a b,l=a++b∧A.r x.1 a∧B.r x.2 b,by rintro _ _ ⟨a,b,rfl,h,h'⟩;rw [Zpx,A.len h,B.len h'],by rintro _ _ ⟨a,b,rfl,h,h'⟩;exact EG (A.hf h) (B.hf h'),by
 rintro ⟨x,x'⟩ ⟨y,y'⟩ _ ⟨a,b,rfl,h1,h2⟩ ⟨c,d,e,h3,h4⟩
 obtain ⟨rfl,rfl⟩:=List.append_inj e (by rw [A.len h1,A.len h3])
 have e1:=A.inj h1 h3
 have e2:=B.inj h2 h4
 dsimp only at e1 e2
 rw [e1,e2]⟩
def Ce.Of {α:Type}(A:Ce α) (T:Ty):Prop:=∀ l,Shape T l->∃ x,A.r x l
theorem Em (q:IntKind):(Ce.int q).Of (.int q):=fun l h=>by cases h with|int _ n h=>exact ⟨n,rfl,h⟩
theorem In:Ce.bool.Of .bool:=fun l h=>by cases h with|bool b=>exact ⟨b,rfl⟩
theorem Rv:Ce.u8.Of (.int .u8):=fun l h=>by
 cases h with|int _ n h=>
  have:=Zn6 h
  exact ⟨n.toNat,by rw [Int.toNat_of_nonneg this.1],by omega⟩
theorem Hm {α:Type}{A:Ce α}{T:Ty}(hA:A.Of T):A.sl.Of (.sl T):=fun l h=>by
 cases h with
 | nil _=>exact ⟨[],_,rfl,[],.nil,.inl ⟨rfl,rfl,rfl⟩,by simp⟩
 | es _=>exact ⟨[],_,rfl,[],.nil,.inr (.inl ⟨rfl,rfl,rfl⟩),by simp⟩
 | fz _ n m c ls h1 h2 h3 h4 h5=>
  have:∀ ls:List (List AV),(∀ l ∈ ls,Shape T l)->∃ xs,All2 A.r xs ls:=by
   intro ls
   induction ls with
   | nil=>intro _;exact ⟨[],.nil⟩
   | cons l ls ih=>
    intro h
    obtain ⟨xs,hx⟩:=ih fun m hm=>h m (by simp [hm])
    obtain ⟨x,h1⟩:=hA l (h l (by simp))
    exact ⟨x::xs,.cons h1 hx⟩
  obtain ⟨xs,hx⟩:=this ls h4
  have:=hx.length
  exact ⟨xs,_,rfl,ls,hx,.inr (.inr ⟨c,by rw [this,h1],FW hx⟩),by rw [this,h1];exact h3⟩
structure Sg (γ:Type) where
 r:γ->List AV->Prop
 hf:∀ {x l},r x l->hfs l=true
 inj:∀ {x y l},r x l->r y l->x=y
def Sg.nil:Sg Unit:=⟨fun _ l=>l=[],by rintro _ _ rfl;rfl,fun _ _=>rfl⟩
def Sg.v {α γ:Type}(A:Ce α) (S:Sg γ):Sg (α×γ):=⟨fun x l=>∃ v b,l=v::b∧A.r x.1 [v]∧S.r x.2 b,by
 rintro _ _ ⟨v,b,rfl,h,h'⟩
 have h1:=A.hf h
 show (AM.hf v && hfs b)=true
 rw [S.hf h',show AM.hf v=true by simpa [hfs] using h1];rfl,by
 rintro ⟨x,x'⟩ ⟨y,y'⟩ _ ⟨a,b,rfl,h1,h2⟩ ⟨c,d,e,h3,h4⟩
 cases e
 have e1:=A.inj h1 h3
 have e2:=S.inj h2 h4
 dsimp only at e1 e2
 rw [e1,e2]⟩
def Sg.g {α γ:Type}(A:Ce α) (S:Sg γ):Sg (α×γ):=⟨fun x l=>∃ c b,l=.agg c::b∧A.r x.1 c∧S.r x.2 b,by
 rintro _ _ ⟨v,b,rfl,h,h'⟩
 show (hfs v && hfs b)=true
 rw [S.hf h',A.hf h];rfl,by
 rintro ⟨x,x'⟩ ⟨y,y'⟩ _ ⟨a,b,rfl,h1,h2⟩ ⟨c,d,e,h3,h4⟩
 cases e
 have e1:=A.inj h1 h3
 have e2:=S.inj h2 h4
 dsimp only at e1 e2
 rw [e1,e2]⟩
structure Fn (γ:Type) where
 S:Sg γ
 ok:γ->Prop
 out:γ->AV
def Fn.R {γ:Type}(F:Fn γ) (args:List AV) (u:AV):Prop:=∃ x,F.S.r x args∧F.ok x∧u=F.out x
noncomputable abbrev Fn.O {γ:Type}(F:Fn γ):Ov:=Ao F.R
variable {f:Nat}
theorem B3 {γ:Type}{F:Fn γ}(hb:Ga P f) (h:∀ x args,F.S.r x args->F.ok x->AM.hf (F.out x)=true∧C P f args St0 (fun v s'=>Frz s' v (F.out x))):OvOk P f F.O:=
 CX hb fun args u ⟨x,h1,h2,e⟩=>by subst e;exact ⟨F.S.hf h1,h x args h1 h2⟩
theorem Fn.u {γ:Type}{e:Env}{f:Nat}{s:St}{k:AV->St->Prop}{F:Fn γ}{args:List AV}(hi:Con e f F.O) (x:γ) (h1:F.S.r x args) (h2:F.ok x) (hk:k (F.out x) s):ESc e f args s k:=by
 refine ESc.rel hi ⟨_,x,h1,h2,rfl⟩ ?_
 rintro u' ⟨y,g1,_,rfl⟩
 rw [F.S.inj g1 h1];exact hk
noncomputable def pB (p:Prop):AV:=.bool (open Classical in decide p)
variable {p:Prop}{s:St}
theorem pT (h:p):Frz s (.bool true) (pB p):=by classical unfold pB;rw [Zpo h];exact .plain _ rfl
theorem pF (h:¬p):Frz s (.bool false) (pB p):=by classical unfold pB;rw [Zp0 h];exact .plain _ rfl
noncomputable def bF {γ:Type}(S:Sg γ) (ok p:γ->Prop):Fn γ:=⟨S,ok,fun x=>pB (p x)⟩
variable {e:Env}
theorem Bv {γ:Type}{S:Sg γ}{ok p:γ->Prop}{fn:Func}{code:AC}{res:List ARes}(hE:EM P e) (g:GK f fn (.mk code res)) (h:∀ x args,S.r x args->ok x->∀ K:AV->St->Prop,(p x->∀ s,K (.bool true) s)->(¬p x->∀ s,K (.bool false) s)->VW P e 0 code (An args 0 .lf) St0 none [] (Cq res K)):OvOk P f (bF S ok p).O:=
 B3 g.b fun x args h1 h2=>⟨rfl,C.of_G hE g (h x args h1 h2 _ (fun q _=>pT q) fun q _=>pF q)⟩
theorem bF.u {γ:Type}{S:Sg γ}{ok p:γ->Prop}{e:Env}{f:Nat}{s:St}{k:AV->St->Prop}{args:List AV}(hi:Con e f (bF S ok p).O) (x:γ) (h1:S.r x args) (h2:ok x) (ht:p x->k (.bool true) s) (hf:¬p x->k (.bool false) s):ESc e f args s k:=by
 classical
 refine Fn.u hi x h1 h2 ?_
 show k (pB (p x)) s
 unfold pB
 by_cases h:p x
 ·rw [Zpo h];exact ht h
 ·rw [Zp0 h];exact hf h
variable {t:AT}
theorem Aw (hE:EM P e) {k:Nat}{rd:Option Nat}{ac:AC}{Q:EQ}(n:Nat) (tl:Nat->List (Nat×AV)) (os:Nat->List AObj) (I:Nat->Prop) (h0:I 0) (ha:Tells P k t s [] (A6 (tl 0)) (Aj St0 (os 0)) [])
 (hr:∀ i,i≤n->I i->VW P e k ac (A6 (tl i)) (Aj St0 (os i)) rd [] (IY (fun t s ds=>ds=[]∧i<n∧I (i+1)∧Tells P k t s [] (A6 (tl (i+1))) (Aj St0 (os (i+1))) []) Q)):W P k rd (.loop ac) t s [] Q:=by
 refine DZ tl os (fun i=>n-i) (fun i=>i≤n∧I i) 0 ⟨Zp2 _,h0⟩ ha ?_
 rintro i ⟨hi,hI⟩
 refine (Ca hE (hr i hi hI)).mono ?_
 intro x t s ds hq
 cases x with
 | normal=>
  obtain ⟨rfl,h1,h2,h3⟩:=hq
  exact ⟨rfl,i+1,⟨h1,h2⟩,by omega,h3⟩
 | exit id=>exact hq
 | ret=>exact hq
variable {k:AV->St->Prop}{x y:AO}{es n i:Nat}{c:List AV}{q:IntKind}
theorem Ew {v:AV}(hx:ev x t=.some v) (hs:Sl es n l v) (hy:ev y t=.some (.int q (i:Int))) (h:i<n) (hd:l.drop (i*es)=c) (hk:k (.fp c) s):EPrim (.ixs es x y) t s k:=
 Zb9 hx hs hy (by omega) (by omega) (by rw [Int.toNat_natCast,hd];exact hk)
variable {a:Int}
theorem Cj {v:AV}(hx:ev x t=.some v) (hs:Sl es n l v) (hy:ev y t=.some (.int q a)) (ha:a=i) (h:i<n) (hd:l.drop (i*es)=c) (hk:k (.fp c) s):EPrim (.ixs es x y) t s k:=
 Ew hx hs (by rw [hy,ha]) h hd hk
theorem Ar {v:AV}(hs:Sl es n l v) (h:i<n) (hd:l.drop (i*es)=c) (hk:k (.fp c) s) (hx:ev x t=.some v:=by rfl) (hy:ev y t=.some (.int q (i:Int)):=by rfl):EPrim (.ixs es x y) t s k:=Ew hx hs hy h hd hk
theorem nq24 {v:AV}(hs:Sl es n l v) (ha:a=i) (h:i<n) (hd:l.drop (i*es)=c) (hk:k (.fp c) s) (hx:ev x t=.some v:=by rfl) (hy:ev y t=.some (.int q a):=by rfl):EPrim (.ixs es x y) t s k:=Cj hx hs hy ha h hd hk
theorem AZ {p:Nat->Prop}(h:∀ k<i,p k) (hi:p i):∀ k<i+1,p k:=fun k hk=>by
 rcases Zrb.1 hk with h'|rfl
 ·exact h k h'
 ·exact hi
theorem XL {α:Type}{l:List α}{p:α->Prop}(h:∀ k<l.length,∀ x,l[k]?=some x->p x):∀ x ∈ l,p x:=fun x hx=>by
 obtain ⟨k,hk⟩:=Zra hx
 exact h k (Zpk.1 hk).1 x hk
theorem Bf {n:Int}(h:Ab n):(Lit.int .i64 n).wf=true:=by
 unfold Ab at h
 simp [Lit.wf,IntKind.min,IntKind.max,IntKind.bits,IntKind.signed]
 omega
theorem Sj {n:Int}(h:Bn n):(Lit.int .u32 n).wf=true:=by
 unfold Bn at h
 simp [Lit.wf,IntKind.min,IntKind.max,IntKind.bits,IntKind.signed]
 omega
theorem Zb7 {t:AT}{s:St}{k:AV->St->Prop}{x:AO}{b:Bool}(hx:ev x t=.some (.bool b)) (h1:b=true->k (.bool false) s) (h2:b=false->k (.bool true) s):EPrim (.un .not x) t s k:=by
 cases b
 ·exact Ik hx (h2 rfl)
 ·exact Jn hx (h1 rfl)
abbrev w20:=@Zb7
end Go.AM
namespace Go.AM
attribute [local irreducible] W
open X
structure WR where
 at_:Int
 u:AV
 b:List Nat
def WR.c (w:WR):List AV:=[.int .i64 w.at_,w.u]
structure WR.any (w:WR):Prop where
 at_:Ab w.at_
 b:BAt w.u w.b
def Ag (L:List WR):List AV:=L.flatMap WR.c
theorem Fy (x:WR) (L:List WR):Ag (x::L)=x.c++Ag L:=rfl
theorem DU:∀ (L:List WR),(Ag L).length=L.length*2
 | []=>rfl
 | x::L=>by rw [Fy,Zpx,DU L,Zqd];show 2+_=_;omega
theorem VS:∀ (L:List WR) (i:Nat),(Ag L).drop (i*2)=Ag (L.drop i)
 | L,0=>by simp
 | [],i+1=>by simp [Ag]
 | x::L,i+1=>by
  rw [List.drop_succ_cons,← VS L i,Fy,show (i+1)*2=x.c.length+i*2 by show (i+1)*2=2+i*2;omega,List.drop_append,Zqf (by omega),List.nil_append]
  congr 1;omega
theorem GY {L:List WR}{i:Nat}(h:i<L.length):(Ag L).drop (i*2)=L[i].c++Ag (L.drop (i+1)):=by
 rw [VS,Zp6 h,Fy]
theorem WR.inj {x y:WR}(hx:x.any) (hy:y.any) (h:x.c=y.c):x=y:=by
 obtain ⟨a,u,b⟩:=x
 obtain ⟨a',u',b'⟩:=y
 simp [WR.c] at h
 obtain ⟨rfl,rfl⟩:=h
 have:=hx.b.inj hy.b
 dsimp only at this
 rw [this]
theorem O6:∀ {L M:List WR},(∀ o ∈ L,o.any)->(∀ o ∈ M,o.any)->Ag L=Ag M->L=M
 | [],[],_,_,_=>rfl
 | [],y::M,_,_,h=>by have:=congrArg List.length h;rw [DU,DU] at this;simp at this
 | x::L,[],_,_,h=>by have:=congrArg List.length h;rw [DU,DU] at this;simp at this
 | x::L,y::M,hx,hy,h=>by
  rw [Fy,Fy] at h
  obtain ⟨h1,h2⟩:=List.append_inj h rfl
  rw [WR.inj (hx x (by simp)) (hy y (by simp)) h1,O6 (fun o ho=>hx o (by simp [ho])) (fun o ho=>hy o (by simp [ho])) h2]
structure DK where
 bv:AV
 us:List AV
 bs:List (List Nat)
 wv:AV
 ws:List WR
 dead:Bool
def DK.c (x:DK):List AV:=[x.bv,x.wv,.bool x.dead]
def DK.v (x:DK):AV:=.agg x.c
structure DK.any (x:DK):Prop where
 bl:Sl 1 x.us.length x.us x.bv
 bs:All2 BAt x.us x.bs
 wl:Sl 2 x.ws.length (Ag x.ws) x.wv
 ws:∀ w ∈ x.ws,w.any
structure DK.ok (x:DK):Prop where
 a:x.any
 n:x.us.length<1000000
 m:x.ws.length<1000000
 b:∀ b ∈ x.bs,b.length<1000000
 w:∀ w ∈ x.ws,w.b.length<1000000
theorem ZV:∀ {us:List AV}{bs bs':List (List Nat)},All2 BAt us bs->All2 BAt us bs'->bs=bs':=by
 intro us
 induction us with
 | nil=>intro _ _ a b;cases a;cases b;rfl
 | cons u us ih=>
  intro _ _ a b
  cases a with
  | cons a1 a2=>cases b with
   | cons b1 b2=>rw [a1.inj b1,ih a2 b2]
variable {x:DK}
theorem DK.inj {y:DK}(hx:x.any) (hy:y.any) (h:x.v=y.v):x=y:=by
 obtain ⟨bv,us,bs,wv,ws,dd⟩:=x
 obtain ⟨bv',us',bs',wv',ws',dd'⟩:=y
 have h:=AV.agg.inj h
 simp [DK.c] at h
 obtain ⟨rfl,rfl,rfl⟩:=h
 have e1:=hx.bl.l_inj hy.bl
 have e2:=O6 hx.ws hy.ws (hx.wl.l_inj hy.wl)
 dsimp only at e1 e2
 subst e1 e2
 have e3:=ZV hx.bs hy.bs
 dsimp only at e3
 rw [e3]
theorem DK.hf (h:x.any):AM.hf x.v=true:=by
 show (AM.hf x.bv && (AM.hf x.wv && (true && true)))=true
 rw [h.bl.hf,h.wl.hf];rfl
def Eh (p:Nat->Bool):List Nat->Nat->Int
 | [],_=>-1
 | n::l,i=>if p n then (i:Int) else Eh p l (i+1)
theorem Wx (p:Nat->Bool):∀ (l:List Nat) (i:Nat),(0≤Eh p l i↔l.any p=true)
 | [],i=>by simp [Eh]
 | n::l,i=>by
  unfold Eh
  rw [List.any_cons]
  cases h:p n
  ·simp only [Bool.false_or,Bool.false_eq_true,if_false];exact Wx p l (i+1)
  ·simp
theorem Zgb (e:Env) (hE:EM P e) (p:Nat->Bool) (g:Nat) (hg:∀ (x:BN),x.ok->∀ (s:St) (K:AV->St->Prop),K (.bool (p x.n)) s->ECall e g [x.v] s K) (x:BL) (hx:x.ok) (Q:AV->St->Prop) (k:∀ s,Q (.int .i64 (Eh p x.ns 0)) s):
 VW P e 0 Zks (An [x.v,.fn g [] []] 0 .lf) St0 none [] (Cq [.tmp 4] Q):=by
 obtain ⟨v,us,ns⟩:=x
 obtain ⟨hs,hb,hl⟩:=hx
 dsimp only at hs hb hl k ⊢
 have hlen:=hb.length
 conv=>whnf
 refine Am hs ?_;conv=>whnf
 refine M0 (α:=Nat) (fun i=>[(0,v),(1,.fn g [] []),(7,.int .i64 (us.length:Int)),(8,.int .i64 (i:Int))]) (fun i=>[]) (fun i=>us.length-i)
  (fun i=>i≤us.length∧Eh p ns 0=Eh p (ns.drop i) i) 0 [] ⟨Zp2 _,rfl⟩ ⟨by decide,⟨t9 hs.hf,r9,r9,r9,trivial⟩,trivial⟩ ?_
 rintro i ⟨hi,hI⟩
 refine Ca hE ?_;conv=>whnf
 refine Bl rfl rfl (fun h=>?_) (fun h=>?_) <;> conv=>whnf
 ·have hlt:i<us.length:=by omega
  have hln:i<ns.length:=by omega
  refine Cz rfl hs rfl hlt ?_;conv=>whnf
  refine EHead.mk (v:=us[i]) (by rw [Zqm,Zpu,Zqs,Zpj hlt]) ?_;conv=>whnf
  obtain ⟨n,hn,hbn⟩:=hb.get (Zpj hlt)
  have hn':ns[i]=n:=by rw [Zpj hln] at hn;exact Zqr hn
  rw [Zp6 hln,hn'] at hI
  refine hg ⟨us[i],n⟩ hbn _ _ ?_
  rw [show Eh p (n::ns.drop (i+1)) i=if p n then (i:Int) else Eh p (ns.drop (i+1)) (i+1) from rfl] at hI
  dsimp only
  cases ho:p n
  ·rw [ho,Zpr (by decide)] at hI
   conv=>whnf
   repeat' (first|((first|refine Ac ?_|refine ⟨rfl,?_⟩);conv=>whnf)|fail)
   refine ⟨i+1,⟨hlt,hI⟩,by omega,[],⟨by decide,⟨t9 hs.hf,r9,r9,⟨rfl,by simp;rfl⟩,trivial⟩,trivial⟩⟩
  ·rw [ho,Zpn rfl] at hI
   conv=>whnf
   rw [hI] at k;exact k _
 ·have hd:ns.drop i=[]:=Zqf (by omega)
  rw [hd] at hI
  have hI:Eh p ns 0=-1:=hI
  rw [hI] at k;exact k _
def JC (p:Nat->Bool) (g:Nat):Fam BL:=⟨BL.ok,fun x=>[x.v,.fn g [] []],fun x=>.int .i64 (Eh p x.ns 0),fun x y hx hy h=>by rw [BL.inj hx hy (Zpv h).1]⟩
theorem W3 {e:Env}(hE:EM P e) (p:Nat->Bool) (g:Nat) (hg:∀ (x:BN),x.ok->∀ (s:St) (K:AV->St->Prop),K (.bool (p x.n)) s->ECall e g [x.v] s K):OvOk P 142 (JC p g).O:=by
 refine C7 g142.b fun x hx=>?_
 refine ⟨by show (AM.hf x.v && (true && true && true))=true;rw [hx.sl.hf];rfl,rfl,C.of_G hE g142 (Zgb e hE p g hg x hx _ fun s=>.plain _ rfl)⟩
def Gx (h1 h2:Ov):Ov:=fun args s=>match h1 args s with
 | .fail=>h2 args s
 | r=>r
theorem Sx {f:Nat}{h1 h2:Ov}(q1:OvOk P f h1) (q2:OvOk P f h2):OvOk P f (Gx h1 h2):=by
 refine ⟨q1.1,fun args s v s' h=>?_⟩
 unfold Gx at h
 cases hq:h1 args s with
 | fail=>rw [hq] at h;exact q2.2 args s v s' h
 | ok v1 s1=>rw [hq] at h;cases h;exact q1.2 args s _ _ hq
end Go.AM
namespace Go.AM
open Go.RowKit
def tWr:List Ty:=[.int .i64,tByt]
def tDisk:List Ty:=[.sl tByt,.sl (.st tWr),.bool]
end Go.AM
namespace Go.AM
open X
def cfgC:Ce Cfg:=⟨6,fun c l=>l=c.c∧c.ok,by rintro _ _ ⟨rfl,_⟩;rfl,by rintro _ _ ⟨rfl,_⟩;rfl,by rintro _ _ _ ⟨rfl,_⟩ ⟨h,_⟩;exact Cfg.inj h⟩
def lvC:Ce Lv:=⟨6,fun c l=>l=c.c∧c.ok,by rintro _ _ ⟨rfl,_⟩;rfl,by rintro _ _ ⟨rfl,_⟩;rfl,by
 rintro ⟨⟩ ⟨⟩ _ ⟨rfl,_⟩ ⟨h,_⟩
 simp [Lv.c] at h
 obtain ⟨rfl,rfl,rfl,rfl,rfl,rfl⟩:=h;rfl⟩
abbrev i64C:=Ce.int .i64
abbrev u32C:=Ce.int .u32
abbrev bytC:=Ce.u8.sl
abbrev blkC:=bytC.sl
abbrev Hd:=Int×List (List Nat)×List Bool×Nat×Bool×Int
def hdC:Ce Hd:=i64C.pr (blkC.pr (Ce.bool.sl.pr (Ce.u8.pr (Ce.bool.pr u32C))))
abbrev Lg:=Int×Int×Int×Int×List Lv
def lgC:Ce Lg:=u32C.pr (u32C.pr (i64C.pr (i64C.pr lvC.sl)))
abbrev Ak:=Nat×Int×Int×List Nat
def akC:Ce Ak:=Ce.u8.pr (i64C.pr (i64C.pr bytC))
abbrev Fl:=Int×Ak×List Nat×List Int×List (List Nat)
def ftC:Ce Fl:=i64C.pr (akC.pr (bytC.pr (u32C.sl.pr blkC)))
abbrev Lo:=Int×Int×Bool×Int×Int×Bool×Bool
def loC:Ce Lo:=u32C.pr (i64C.pr (Ce.bool.pr (i64C.pr (i64C.pr (Ce.bool.pr Ce.bool)))))
abbrev Dv:=Cfg×Bool×Lo×List Hd×Lg×List Fl×Int×Bool
def dvC:Ce Dv:=cfgC.pr (Ce.bool.pr (loC.pr (hdC.sl.pr (lgC.pr (ftC.sl.pr (i64C.pr Ce.bool))))))
abbrev Dk:=List (List Nat)×List (Int×List Nat)×Bool
def wrC:Ce (Int×List Nat):=i64C.pr bytC
def dkC:Ce Dk:=blkC.pr (wrC.sl.pr Ce.bool)
variable {sq:Int}{l:List AV}
theorem Cm {st:Int}{bl:List (List Nat)}{di:List Bool}{ph:Nat}{de:Bool}(h:hdC.r (st,bl,di,ph,de,sq) l):∃ bv dv,l=[.int .i64 st,bv,dv,.int .u8 (ph:Int),.bool de,.int .u32 sq]∧Ab st∧Ls bytC bl bv∧Ls Ce.bool di dv∧ph<256∧Bn sq:=by
 obtain ⟨_,_,rfl,⟨rfl,h1⟩,_,_,rfl,⟨bv,rfl,h2⟩,_,_,rfl,⟨dv,rfl,h3⟩,_,_,rfl,⟨rfl,h4⟩,_,_,rfl,rfl,rfl,h5⟩:=h
 exact ⟨bv,dv,rfl,wf_i64 h1,h2,h3,h4,Jz h5⟩
variable {ag tl us:Int}{L:List Lv}
theorem MT (h:lgC.r (ag,sq,tl,us,L) l):∃ v,l=[.int .u32 ag,.int .u32 sq,.int .i64 tl,.int .i64 us,v]∧Bn ag∧Bn sq∧Ab tl∧Ab us∧Ls lvC L v:=by
 obtain ⟨_,_,rfl,⟨rfl,h1⟩,_,_,rfl,⟨rfl,h2⟩,_,_,rfl,⟨rfl,h3⟩,_,_,rfl,⟨rfl,h4⟩,v,rfl,h5⟩:=h
 exact ⟨v,rfl,Jz h1,Jz h2,wf_i64 h3,wf_i64 h4,h5⟩
variable {k:Nat}{a m:Int}{d:List Nat}
theorem IN (h:akC.r (k,a,m,d) l):∃ v,l=[.int .u8 (k:Int),.int .i64 a,.int .i64 m,v]∧k<256∧Ab a∧Ab m∧Ls Ce.u8 d v:=by
 obtain ⟨_,_,rfl,⟨rfl,h1⟩,_,_,rfl,⟨rfl,h2⟩,_,_,rfl,⟨rfl,h3⟩,v,rfl,h4⟩:=h
 exact ⟨v,rfl,h1,wf_i64 h2,wf_i64 h3,h4⟩
theorem Dq {n:Int}{st:List Nat}{sq:List Int}{da:List (List Nat)}(h:ftC.r (n,(k,a,m,d),st,sq,da) l):∃ dv tv qv av,l=[.int .i64 n,.int .u8 (k:Int),.int .i64 a,.int .i64 m,dv,tv,qv,av]∧Ab n∧k<256∧Ab a∧Ab m∧Ls Ce.u8 d dv∧Ls Ce.u8 st tv∧Ls u32C sq qv∧Ls bytC da av:=by
 obtain ⟨_,_,rfl,⟨rfl,h1⟩,_,_,rfl,h2,_,_,rfl,⟨tv,rfl,h3⟩,_,_,rfl,⟨qv,rfl,h4⟩,av,rfl,h5⟩:=h
 obtain ⟨dv,rfl,g1,g2,g3,g4⟩:=IN h2
 exact ⟨dv,tv,qv,av,rfl,wf_i64 h1,g1,g2,g3,g4,h3,h4,h5⟩
variable {sp:Bool}
theorem GE {ev lo:Int}{po dn:Int}{nl br:Bool}(h:loC.r (ev,lo,sp,po,dn,nl,br) l):l=[.int .u32 ev,.int .i64 lo,.bool sp,.int .i64 po,.int .i64 dn,.bool nl,.bool br]∧Bn ev∧Ab lo∧Ab po∧Ab dn:=by
 obtain ⟨_,_,rfl,⟨rfl,h1⟩,_,_,rfl,⟨rfl,h2⟩,_,_,rfl,rfl,_,_,rfl,⟨rfl,h3⟩,_,_,rfl,⟨rfl,h4⟩,_,_,rfl,rfl,rfl⟩:=h
 exact ⟨rfl,Jz h1,wf_i64 h2,wf_i64 h3,wf_i64 h4⟩
theorem Zou {c:Cfg}{bk:Bool}{o:Lo}{hs:List Hd}{fs:List Fl}{nx:Int}(h:dvC.r (c,bk,o,hs,(ag,sq,tl,us,L),fs,nx,sp) l):∃ ol hv lv fv,l=c.c++([.bool bk]++(ol++[hv,.int .u32 ag,.int .u32 sq,.int .i64 tl,.int .i64 us,lv,fv,.int .i64 nx,.bool sp]))∧c.ok∧loC.r o ol∧Ls hdC hs hv∧Bn ag∧Bn sq∧Ab tl∧Ab us∧Ls lvC L lv∧Ls ftC fs fv∧Ab nx:=by
 obtain ⟨_,_,rfl,⟨rfl,h1⟩,_,_,rfl,rfl,ol,_,rfl,h3,_,_,rfl,⟨hv,rfl,h4⟩,_,_,rfl,h5,_,_,rfl,⟨fv,rfl,h6⟩,_,_,rfl,⟨rfl,h7⟩,rfl⟩:=h
 obtain ⟨lv,rfl,g⟩:=MT h5
 exact ⟨ol,hv,lv,fv,rfl,h1,h3,h4,g.1,g.2.1,g.2.2.1,g.2.2.2.1,g.2.2.2.2,h6,wf_i64 h7⟩
variable {bs:List (List Nat)}
theorem GI {ws:List (Int×List Nat)}{dd:Bool}(h:dkC.r (bs,ws,dd) l):∃ bv wv,l=[bv,wv,.bool dd]∧Ls bytC bs bv∧Ls wrC ws wv:=by
 obtain ⟨_,_,rfl,⟨bv,rfl,h1⟩,_,_,rfl,⟨wv,rfl,h2⟩,rfl⟩:=h
 exact ⟨bv,wv,rfl,h1,h2⟩
theorem RP:∀ {b:List Nat}{ls:List (List AV)},All2 Ce.u8.r b ls->ls.flatten=Ad b∧∀ x ∈ b,x<256
 | [],_,h=>by cases h;exact ⟨rfl,fun x h=>by cases h⟩
 | x::b,_,h=>by
  cases h with
  | cons h1 h2=>
   obtain ⟨e,g⟩:=RP h2
   obtain ⟨rfl,hx⟩:=h1
   refine ⟨by rw [List.flatten_cons,e];rfl,fun y hy=>?_⟩
   rcases Zqt.1 hy with rfl|hy
   ·exact hx
   ·exact g y hy
variable {v:AV}
theorem Ls.b {b:List Nat}(h:Ls Ce.u8 b v):BAt v b:=by
 obtain ⟨ls,a,s,_⟩:=h
 obtain ⟨e,g⟩:=RP a
 rw [e] at s
 exact ⟨s,g⟩
theorem Ls.bl (h:Ls bytC bs v):∃ us,Sl 1 us.length us v∧All2 BAt us bs:=by
 obtain ⟨ls,a,s,_⟩:=h
 have key:∀ {bs:List (List Nat)}{ls:List (List AV)},All2 bytC.r bs ls->All2 BAt ls.flatten bs:=by
  intro bs
  induction bs with
  | nil=>intro _ h;cases h;exact .nil
  | cons b bs ih=>
   intro _ h
   cases h with
   | cons h1 h2=>
    obtain ⟨u,rfl,g⟩:=h1
    exact .cons g.b (ih h2)
 have h1:=key a
 exact ⟨_,by rw [h1.length];exact s,h1⟩
theorem Ls.lv (h:Ls lvC L v):∃ cs,Sl 6 L.length cs v∧L.length≤9223372036854775807∧∀ i,i<L.length->∃ sq st bl pa su ho r,L[i]?=some ⟨sq,st,bl,pa,su,ho⟩∧(Bn sq∧Ab st∧Ab bl)∧cs.drop (i*6)=[.int .u32 sq,.int .i64 st,.int .i64 bl,.bool pa,.bool su,.bool ho]++r:=by
 obtain ⟨cs,h1,h2,hn⟩:=h.nth
 refine ⟨cs,h1,h2,fun i hi=>?_⟩
 obtain ⟨⟨sq,st,bl,pa,su,ho⟩,_,r,hx,⟨rfl,⟨o1,o2,o3⟩⟩,hd⟩:=hn i hi
 exact ⟨sq,st,bl,pa,su,ho,r,hx,⟨o1,o2,o3⟩,hd⟩
theorem Lk (h1:k<256) (h2:Ab a) (h3:Ab m) (h4:Ls Ce.u8 d v):akC.r (k,a,m,d) [.int .u8 (k:Int),.int .i64 a,.int .i64 m,v]:=
 ⟨[_],_,rfl,⟨rfl,h1⟩,[_],_,rfl,⟨rfl,Bf h2⟩,[_],_,rfl,⟨rfl,Bf h3⟩,v,rfl,h4⟩
end Go.AM
namespace Go.AM
attribute [local irreducible] W
open X
theorem Rf {α:Type}(F:Fam α) {x:α}(hx:F.ok x) (s:St):F.O (F.enc x) s=.ok (F.out x) s:=by
 have h:∃ u,∃ y,F.ok y∧F.enc x=F.enc y∧u=F.out y:=⟨_,x,hx,rfl,rfl⟩
 unfold Fam.O Ao
 rw [dif_pos h]
 obtain ⟨y,hy,e,hu⟩:=Zqy h
 rw [hu,F.inj x y hx hy e]
theorem Zg5 {α:Type}(F:Fam α) {args:List AV}(h:∀ x,F.ok x->args≠F.enc x) (s:St):F.O args s=.fail:=by
 unfold Fam.O Ao
 rw [dif_neg]
 rintro ⟨u,y,hy,e,_⟩
 exact h y hy e
def ER (n:Nat):Bool:=decide (0<n)
noncomputable def JS:Ov:=Gx (JC Ba 92).O (JC ER 95).O
variable {e:Env}{x:BL}{s:St}{K:AV->St->Prop}
theorem Zgk (h:Con e 142 JS) (hx:x.ok) (hk:K (.int .i64 (Eh Ba x.ns 0)) s):ESc e 142 [x.v,.fn 92 [] []] s K:=by
 refine ESc.ov h (v:=.int .i64 (Eh Ba x.ns 0)) (s':=s) ?_ hk
 unfold JS Gx
 rw [show (JC Ba 92).O [x.v,.fn 92 [] []] s=.ok (.int .i64 (Eh Ba x.ns 0)) s from Rf (JC Ba 92) hx s]
theorem Zgj (h:Con e 142 JS) (hx:x.ok) (hk:K (.int .i64 (Eh ER x.ns 0)) s):ESc e 142 [x.v,.fn 95 [] []] s K:=by
 refine ESc.ov h (v:=.int .i64 (Eh ER x.ns 0)) (s':=s) ?_ hk
 unfold JS Gx
 rw [Zg5 (JC Ba 92) (fun y hy e=>by
  have e:=(Zpv (Zpv e).2).1
  injection e with e;cases e) s]
 exact Rf (JC ER 95) hx s
theorem W4 (p:Nat->Bool) (g:Nat) (v:AV) (ns:List Nat) (s:St) (hcall:∀ (K:AV->St->Prop),K (.int .i64 (Eh p ns 0)) s->ESc e 142 [v,.fn g [] []] s K) (Q:AV->St->Prop) (k:Q (.bool (ns.any p)) s):
 VE e XV (An [v,.fn g [] []] 0 .lf) s none [] (Cq [.tmp 4] Q):=by
 conv=>whnf
 refine hcall _ ?_;conv=>whnf
 have ha:=Wx p ns 0
 refine DV rfl rfl (fun h=>?_) (fun h=>?_) <;> conv=>whnf
 ·rw [ha.1 h] at k;exact k
 ·have:ns.any p=false:=by
   cases hq:ns.any p
   ·rfl
   ·have:=ha.2 hq;omega
  rw [this] at k;exact k
theorem Zbb (hE:EM P e):OvOk P 92 oddF.O:=by
 refine C7 g92.b ?_
 rintro ⟨v,n⟩ hx
 obtain ⟨⟨l,hv⟩,hn⟩:=hx
 dsimp only at hv hn
 refine ⟨by show (AM.hf v && true)=true;rw [hv.hf];rfl,rfl,C.of_G hE g92 ?_⟩
 have fin:∀ s (b:Bool),b=Ba n->Frz s (.bool b) (oddF.out ⟨v,n⟩):=by
  rintro s b rfl;exact .plain _ rfl
 unfold Ba at fin
 show VW P e 0 (match a92 with|.mk c _=>c) (An [v] 0 .lf) St0 none [] _
 conv=>whnf
 repeat' (first|(refine Am hv ?_;conv=>whnf)|refine Al ?_ ?_|(intro _;first|omega|conv=>whnf))
 all_goals first
  | exact fin _ _ (by rw [Zpo (by omega),Zpo (by omega)];rfl)
  | exact fin _ _ (by rw [Zpo (by omega),Zp0 (by omega)];rfl)
  | exact fin _ _ (by rw [Zp0 (by omega)];rfl)
def Zkp:AC:=match a95 with|.mk c _=>c
theorem Zj6 (hE:EM P e) (h143:Con e 92 oddF.O) (h146:Inl e 95 Zkp [.tmp 2]):OvOk P 142 JS:=by
 refine Sx (W3 hE Ba 92 (fun x hx s K hk=>?_)) (W3 hE ER 95 (fun x hx s K hk=>?_))
 ·exact ECall.fam oddF h143 x hx rfl hk
 ·obtain ⟨⟨l,hv⟩,hn⟩:=hx
  refine ECall.inl h146.O h146.G ?_
  unfold ER at hk
  conv=>whnf
  repeat' (first|(refine Am hv ?_;conv=>whnf)|refine Ax ?_ ?_|(intro _;first|omega|conv=>whnf))
  ·rw [Zpo (by omega)] at hk;exact hk
  ·rw [Zp0 (by omega)] at hk;exact hk
def Bt (many:Int) (w:WR):Bool:=decide (w.at_<0) || decide (many≤w.at_) || Ba w.b.length
def B5 (p:WR->Bool):List WR->Nat->Int
 | [],_=>-1
 | n::l,i=>if p n then (i:Int) else B5 p l (i+1)
theorem Ww (p:WR->Bool):∀ (l:List WR) (i:Nat),(0≤B5 p l i↔l.any p=true)
 | [],i=>by simp [B5]
 | n::l,i=>by
  unfold B5
  rw [List.any_cons]
  cases h:p n
  ·simp only [Bool.false_or,Bool.false_eq_true,if_false];exact Ww p l (i+1)
  ·simp
structure WI where
 v:AV
 ws:List WR
 r:Nat
 many:Int
structure WI.ok (x:WI) (s:St):Prop where
 sl:Sl 2 x.ws.length (Ag x.ws) x.v
 w:∀ w ∈ x.ws,w.any∧w.b.length<1000000
 g:s.get x.r=some (.row 3 [.int .i64 x.many])
 m:Ab x.many
 n:x.ws.length<1000000
def WI.args (x:WI):List AV:=[x.v,.fn 94 [] [.ptr x.r 0]]
def WI.out (x:WI):AV:=.int .i64 (B5 (Bt x.many) x.ws 0)
noncomputable def KZ:Ov:=fun args s=>open Classical in if h:∃ x:WI,x.ok s∧args=x.args then .ok (Classical.choose h).out s else .fail
theorem Zcg {x:WI}(hx:x.ok s):KZ x.args s=.ok x.out s:=by
 have h:∃ y:WI,y.ok s∧x.args=y.args:=⟨x,hx,rfl⟩
 unfold KZ
 rw [dif_pos h]
 obtain ⟨h1,h2⟩:=Zqy h
 generalize Classical.choose h=y at h1 h2 ⊢
 obtain ⟨v,ws,r,m⟩:=x
 obtain ⟨v',ws',r',m'⟩:=y
 simp [WI.args] at h2
 obtain ⟨rfl,rfl⟩:=h2
 have e1:=O6 (fun o ho=>(hx.w o ho).1) (fun o ho=>(h1.w o ho).1) (hx.sl.l_inj h1.sl)
 have e2:=hx.g.symm.trans h1.g
 dsimp only at e1 e2
 injection e2 with e2
 injection e2 with _ e2
 injection e2 with e2
 injection e2 with _ e2
 subst e1 e2;rfl
def X0:AC:=match Qr with|.mk c _=>c
def Zkq:AC:=match a94 with|.mk c _=>c
def Zkr:AC:=match a93 with|.mk c _=>c
theorem Zeo (hE:EM P e) (h143:Con e 92 oddF.O) (h145:Inl e 94 Zkq [.tmp 3]):OvOk P 143 KZ:=by
 refine ⟨g143.b,fun args s u s' hh=>?_⟩
 unfold KZ at hh
 split at hh
 ·rename_i hx
  cases hh
  obtain ⟨h1,h2⟩:=Zqy hx
  generalize Classical.choose hx=y at h1 h2 ⊢
  subst h2
  obtain ⟨v,ws,r,m⟩:=y
  obtain ⟨hs,hw,hg,hmb,hn⟩:=h1
  dsimp only at hs hw hg hmb hn
  have hvf:=hs.hf
  refine IE (args2:=[v,.fn 94 [] [.fp [.int .i64 m]]]) (.cons (.plain _ hvf) (.cons (.fn 94 [] [.ptr r 0] [] [.fp [.int .i64 m]] .nil (.cons (.ptr r 0 3 [.int .i64 m] [.int .i64 m] [.int .i64 m] hg (fun i x h=>by rw [Zpy];exact h) (.cons (.plain _ rfl) .nil)) .nil)) .nil)) rfl (Ju ?_ ?_)
  ·show (AM.hf v && _)=true;rw [hvf];rfl
  refine C.of_G hE g143 ?_
  show VW P e 0 X0 (An [v,.fn 94 [] [.fp [.int .i64 m]]] 0 .lf) St0 none [] (Cq [.tmp 4] (fun w s'=>Frz s' w (.int .i64 (B5 (Bt m) ws 0))))
  conv=>whnf
  refine Am hs ?_;conv=>whnf
  refine DZ (α:=Nat) (fun i=>[(0,v),(1,.fn 94 [] [.fp [.int .i64 m]]),(7,.int .i64 (ws.length:Int)),(8,.int .i64 (i:Int))]) (fun _=>[]) (fun i=>ws.length-i) (fun i=>i≤ws.length∧B5 (Bt m) ws 0=B5 (Bt m) (ws.drop i) i) 0 ⟨Zp2 _,rfl⟩
   (Abs.tells (rs:=[]) .a) ?_
  rintro i ⟨hi,hI⟩
  refine Ca hE ?_
  by_cases hlt:i<ws.length
  ·have hd:=GY hlt
   obtain ⟨⟨hwa,hwb⟩,hwl⟩:=hw _ (Zqk hlt)
   rw [Zp6 hlt] at hI
   have hall:=And.intro hI (And.intro hd (And.intro hwa (And.intro hwb hwl)))
   clear hI hd hwa hwb hwl
   revert hall
   generalize ws[i]=w
   obtain ⟨wa,wu,wb⟩:=w
   rintro ⟨hI,hd,hwa,hwb,hwl⟩
   have hd:(Ag ws).drop (i*2)=[.int .i64 wa,wu]++Ag (ws.drop (i+1)):=hd
   have hI:B5 (Bt m) ws 0=if Bt m ⟨wa,wu,wb⟩ then (i:Int) else B5 (Bt m) (ws.drop (i+1)) (i+1):=hI
   unfold Bt at hI
   dsimp only at hI hwl hwb
   have yes:∀ b:Bool,b=true->(decide (wa<0) || decide (m≤wa) || Ba wb.length)=b->B5 (Bt m) ws 0=(i:Int):=fun b hb he=>by
    rw [he,hb,Zpn rfl] at hI;exact hI
   have no:(decide (wa<0) || decide (m≤wa) || Ba wb.length)=false->B5 (Bt m) ws 0=B5 (Bt m) (ws.drop (i+1)) (i+1):=fun he=>by
    rw [he,Zpr (by simp)] at hI;exact hI
   clear hI
   have hcell:∀ (K:List AV->Prop),K [.int .i64 wa,wu]->ETake 2 ([.int .i64 wa,wu]++Ag (ws.drop (i+1))) K:=fun K hk=>A8 rfl hk
   have hend:∀ t s,B5 (Bt m) ws 0=B5 (Bt m) (ws.drop (i+1)) (i+1)->t.get 0=some v->t.get 1=some (.fn 94 [] [.fp [.int .i64 m]])->t.get 7=some (.int .i64 (ws.length:Int))->t.get 8=some (.int .i64 ((i:Int)+1))->
    ∃ x',(x'≤ws.length∧B5 (Bt m) ws 0=B5 (Bt m) (ws.drop x') x')∧ws.length-x'<ws.length-i∧Tells P 0 t s [] (A6 [(0,v),(1,.fn 94 [] [.fp [.int .i64 m]]),(7,.int .i64 (ws.length:Int)),(8,.int .i64 (x':Int))]) (Aj St0 []) []:=fun t s h0 g0 g1 g7 g8=>
    ⟨i+1,⟨hlt,h0⟩,by omega,Abs.tells (rs:=[]) ⟨by decide,⟨⟨Dp _ hvf,by rw [CZ _ hvf];exact g0⟩,⟨rfl,g1⟩,⟨rfl,g7⟩,⟨rfl,g8⟩,trivial⟩,trivial⟩⟩
   conv=>whnf
   refine Bl rfl rfl (fun _=>?_) (fun h=>by omega);conv=>whnf
   refine Cz rfl hs rfl hlt ?_
   rw [hd]
   conv=>whnf
   refine hcell _ ?_;conv=>whnf
   refine ECall.inl h145.O h145.G ?_;conv=>whnf
   refine Bl (a:=wa) (b:=0) rfl rfl (fun h1=>?_) (fun h1=>?_)
   ·conv=>whnf
    skip
    rw [yes true rfl (by rw [Zpo h1];rfl)];exact .plain _ rfl
   conv=>whnf
   refine As ?_;conv=>whnf
   refine DV (a:=wa) (b:=m) rfl rfl (fun h2=>?_) (fun h2=>?_)
   ·conv=>whnf
    skip
    rw [yes true rfl (by rw [Zpo h2];simp)];exact .plain _ rfl
   conv=>whnf
   refine ESc.fam oddF h143 ⟨wu,wb.length⟩ ⟨⟨_,hwb.1⟩,by dsimp only;omega⟩ (u:=.bool (Ba wb.length)) rfl ?_
   have e1:(decide (wa<0) || decide (m≤wa) || Ba wb.length)=Ba wb.length:=by rw [Zp0 (by omega),Zp0 (by omega)];rfl
   cases ho:Ba wb.length
   ·conv=>whnf
    repeat' (first|((first|refine Ac ?_|refine ⟨rfl,?_⟩);conv=>whnf)|fail)
    exact hend _ _ (no (by rw [e1];exact ho)) rfl rfl rfl rfl
   ·conv=>whnf
    skip
    rw [yes true rfl (by rw [e1];exact ho)];exact .plain _ rfl
  ·have hd:ws.drop i=[]:=Zqf (by omega)
   rw [hd] at hI
   have hI:B5 (Bt m) ws 0=-1:=hI
   conv=>whnf
   refine Bl rfl rfl (fun h=>by omega) (fun _=>?_);conv=>whnf
   rw [hI];exact .plain _ rfl
 ·cases hh
def AX (x:DK):Bool:=decide (1≤x.us.length∧x.us.length≤256∧x.ws.length≤1024) && !((x.bs.map List.length).any Ba) && !(x.ws.any (Bt x.us.length)) && !(x.dead && (decide (0<x.ws.length) || (x.bs.map List.length).any ER))
def dskF:Fam DK:=⟨DK.ok,fun x=>[x.v],fun x=>.int .i64 (if AX x=true then 0 else 8),fun x y hx hy h=>by rw [DK.inj hx.a hy.a (Zpv h).1]⟩
theorem Zec {us:List AV}{bs:List (List Nat)}(h:All2 BAt us bs) (hs:∀ b ∈ bs,b.length<1000000):All2 (fun u n=>BN.ok ⟨u,n⟩) us (bs.map List.length):=by
 induction h with
 | nil=>exact .nil
 | @cons u b us bs a _ ih=>exact .cons ⟨⟨_,a.1⟩,by have:=hs b (by simp);dsimp only;omega⟩ (ih fun c hc=>hs c (by simp [hc]))
def Zkz:AC:=match a44 with|.mk c _=>c
theorem Xu (hE:EM P e) (h93:Inl e 91 XV [.tmp 4]) (h138:Con e 142 JS) (h144:Inl e 93 Zkr [.tmp 4]) (h163:Con e 143 KZ):OvOk P 44 dskF.O:=by
 refine C7 g44.b fun x hx=>?_
 refine ⟨by show (AM.hf x.v && true)=true;rw [DK.hf hx.a];rfl,rfl,C.of_G hE g44 ?_⟩
 have fin:∀ s (n:Int),n=(if AX x=true then 0 else 8)->Frz s (.int .i64 n) (dskF.out x):=by rintro s n rfl;exact .plain _ rfl
 obtain ⟨⟨hbl,hbs,hwl,hws⟩,hn,hm',hb',hw'⟩:=hx
 obtain ⟨bv,us,bs,wv,ws,dd⟩:=x
 dsimp only at hbl hbs hwl hws hn hm' hb' hw'
 have hBL:BL.ok ⟨bv,us,bs.map List.length⟩:=⟨hbl,Zec hbs hb',by dsimp only;omega⟩
 have hodd:=fun (K:AV->St->Prop) (s:St)=>W4 (e:=e) Ba 92 bv (bs.map List.length) s (fun K hk=>Zgk h138 hBL hk) K
 have hpos:=fun (K:AV->St->Prop) (s:St)=>W4 (e:=e) ER 95 bv (bs.map List.length) s (fun K hk=>Zgj h138 hBL hk) K
 have hwa:=Ww (Bt us.length) ws 0
 unfold AX at fin
 dsimp only at fin
 show VW P e 0 Zkz (An [.agg [bv,wv,.bool dd]] 0 .lf) St0 none [] _
 conv=>whnf
 refine Am hbl ?_;conv=>whnf
 by_cases hT:1≤us.length∧us.length≤256∧ws.length≤1024
 ·rw [Zpo hT] at fin
  repeat' (first|(refine Am hwl ?_;conv=>whnf)|refine Aa ?_ ?_|refine Ax ?_ ?_|(intro _;first|omega|conv=>whnf))
  refine ESc.inl h93 (hodd _ _ ?_)
  cases ho:(bs.map List.length).any Ba
  ·rw [ho] at fin
   conv=>whnf
   skip
   refine ESc.inl h144 ?_;conv=>whnf
   refine ESc.ov h163 (Zcg (x:=⟨wv,ws,1,us.length⟩) ⟨hwl,fun w hw=>⟨hws w hw,hw' w hw⟩,rfl,by unfold Ab;dsimp only;omega,by dsimp only;omega⟩) ?_;conv=>whnf
   cases hw:ws.any (Bt us.length)
   ·have hwn:¬ (0≤B5 (Bt us.length) ws 0):=fun h=>by rw [hwa.1 h] at hw;cases hw
    rw [hw] at fin
    refine DV (a:=B5 (Bt us.length) ws 0) (b:=0) rfl rfl (fun h=>absurd h hwn) (fun _=>?_)
    cases dd
    ·conv=>whnf
     skip
     exact fin _ 0 (by simp)
    ·conv=>whnf
     repeat' (first|(refine Am hwl ?_;conv=>whnf)|refine Ax ?_ ?_|(intro _;first|omega|conv=>whnf))
     ·exact fin _ 8 (by rw [Zpo (by omega)];simp)
     ·refine ESc.inl h93 (hpos _ _ ?_)
      rw [Zp0 (by omega)] at fin
      cases hp:(bs.map List.length).any ER
      ·rw [hp] at fin
       conv=>whnf
       skip
       exact fin _ 0 (by simp)
      ·rw [hp] at fin
       conv=>whnf
       skip
       exact fin _ 8 (by simp)
   ·rw [hw] at fin
    refine DV (a:=B5 (Bt us.length) ws 0) (b:=0) rfl rfl (fun _=>?_) (fun h=>absurd (hwa.2 hw) (by omega));conv=>whnf
    skip
    exact fin _ 8 (by simp)
  ·rw [ho] at fin
   conv=>whnf
   skip
   exact fin _ 8 (by simp)
 ·rw [Zp0 hT] at fin
  repeat' (first|(refine Am hwl ?_;conv=>whnf)|refine Aa ?_ ?_|refine Ax ?_ ?_|(intro _;first|omega|conv=>whnf))
  all_goals first|exact fin _ 8 (by simp)|(exfalso;omega)
end Go.AM
