/-
 Functions of the program as the abstract machine reads them, and what is stated of them, checked by the kernel. No conditions.
-/
import Derived.Test.YtacmbogmbfmjeaaGreatXA1
import Derived.Test.YtacmbogmbfmjeaaGreatXA2
import Derived.Test.YtacmbogmbfmjeaaGreatXA3
import Derived.Test.YtacmbogmbfmjeaaGreatXA4
import Derived.Test.YtacmbogmbfmjeaaGreatXA5
import Derived.Test.YtacmbogmbfmjeaaGreatXA6
import Derived.Test.YtacmbogmbfmjeaaGreatAM5
set_option linter.unusedVariables false
set_option linter.unusedSimpArgs false
set_option linter.unnecessarySimpa false
set_option maxRecDepth 100000
namespace Go.AM
attribute [local irreducible] W
open X
theorem Dy {b:Bool}{y z:Prop}(h:b=true) (hy:y):(Bool.rec (motive:=fun _=>Prop) z y b):=by rw [h];exact hy
section
variable {t:AT}{s:St}{k:AV→St→Prop}{x y:AO}
theorem Ud {es r o m n:Nat}{c:Option Nat}{l:List AV}{v:AV}{s1:St}(hx:ev x t=.some (.sl r o m c)) (hy:ev y t=.some v) (hv:Sl es n l v) (hn:n≤m) (hst:storeAt r o l s=some s1) (hk:∀ s',(s'=s∧l=[])∨s'=s1→k (.int .i64 (Int.ofNat n)) s'):EPrim (.copy es x y) t s k:=by
 rcases hv with ⟨rfl,rfl,h0⟩|⟨rfl,rfl,h0⟩|⟨c',rfl,hl⟩
 ·refine EPrim.mk (v:=.int .i64 (Int.ofNat 0)) (s':=s) (fun e rec=>?_) (hk s (.inl ⟨rfl,h0⟩))
  show wth x t _=_;unfold wth;rw [hx]
  show wth y t _=_;unfold wth;rw [hy]
  rfl
 ·refine EPrim.mk (v:=.int .i64 (Int.ofNat 0)) (s':=s) (fun e rec=>?_) (hk s (.inl ⟨rfl,h0⟩))
  show wth x t _=_;unfold wth;rw [hx]
  show wth y t _=_;unfold wth;rw [hy]
  rfl
 ·refine EPrim.mk (v:=.int .i64 (Int.ofNat n)) (s':=s1) (fun e rec=>?_) (hk s1 (.inr rfl))
  show wth x t _=_;unfold wth;rw [hx]
  show wth y t _=_;unfold wth;rw [hy]
  show (Option.rec .fail (fun cs=>FW (Cu (Nat.min n m)) (storeAt r o cs s)) (Bg (Nat.mul (Nat.min n m) es) l):RV)=_
  have hmin:Nat.min n m=n:=by show min n m=n;omega
  rw [hmin]
  have ht:Bg (Nat.mul n es) l=some l:=by
   have:=Fg (l:=l) (n:=n*es) (by omega)
   rw [Zqi (by omega)] at this
   exact this
  rw [ht]
  show FW _ (storeAt r o l s)=_
  rw [hst];rfl
theorem Lr {q:IntKind}{a b:Nat}(hx:ev x t=.some (.int q (Int.ofNat a))) (hy:ev y t=.some (.int q (Int.ofNat b))) (h1:a≠b→k (.bool true) s) (h2:a=b→k (.bool false) s):EPrim (.bin .neq x y) t s k:=
 JI hx hy (fun h=>h1 (fun e=>h (by rw [e]))) (fun h=>h2 (Int.ofNat.inj h))
end
def Ro:AC:=match Pn with|.mk c _=>c
def Ae (bs:List Nat):List Nat:=if bs=[] then List.replicate 128 0 else bs
def Df:List AV:=Ab (List.replicate 128 0)
variable {s:St}{r e n:Nat}{cs:List AV}
theorem JK (h:s.get r=some (.row e cs)) (hl:cs.length=n):load r 0 n s=some cs:=by
 rw [GR h (by omega),List.drop_zero,Zqi (by omega)]
theorem Lp {old:List AV}(h:s.get r=some (.row e old)) (hl:cs.length=old.length):storeAt r 0 cs s=some (s.put r (.row e cs)):=by
 rw [Gm h (by omega),List.take_zero,List.nil_append,Zq5 (by omega),Zrk]
theorem Qv {t:AT}{i:Nat}{vs:List AV}{l:List ARes}(ht:t.get i=some (.ptr r 0)) (hl:load r 0 n s=some cs) (h:Dg t s l=some vs):Dg t s (.cells i n::l)=some (.agg cs::vs):=by
 show (Option.rec none (fun v=>Option.rec none (fun vs=>some (v::vs)) (Dg t s l)) (Option.rec none (fun v=>PR.rec none (fun r o=>Option.rec none (fun cs=>some (.agg cs)) (load r o n s)) (fun _=>none) (Bk v)) (t.get i)):Option (List AV))=_
 rw [ht,h]
 show (Option.rec none (fun v=>some (v::vs)) (Option.rec none (fun cs=>some (.agg cs)) (load r 0 n s)):Option (List AV))=_
 rw [hl]
theorem Za5 (e:Env) (s:St) (v:AV) (bs:List Nat) (hv:Sl 1 bs.length (Ab bs) v) (hN:s.next<1000000000) (K:AV→St→Prop)
 (k1:bs.length≠0→bs.length≠128→∀ s',s'.next=s.next+1→(∀ i,i<s.next→s'.get i=s.get i)→K (.tup [.agg (Ab (List.replicate 128 0)),.int .i64 3]) s')
 (k2:(Ae bs).length=128→∀ s',s'.next=s.next+1→(∀ i,i<s.next→s'.get i=s.get i)→K (.tup [.agg (Ab (Ae bs)),.int .i64 0]) s'):
 VE e Ro (Ah [v] 0 .lf) s none [] (BW [.cells 2 128,.tmp 3] K):=by
 obtain ⟨s1,hs1⟩:∃ s1,s.alloc (.row 170 Df)=s1:=⟨_,rfl⟩
 have g1:s1.get s.next=some (.row 170 Df):=by rw [← hs1];exact PZ hN
 have g2:∀ i,i<s.next→s1.get i=s.get i:=fun i hi=>by rw [← hs1];exact HA (by omega)
 have g3:s1.next=s.next+1:=by rw [← hs1];exact C9 _ _
 have hz:(Df).length=128:=by simp [Df,Bt]
 conv=>whnf
 refine Nx rfl hv ?_;conv=>whnf
 have main:bs.length=0∨bs.length=128→(Ae bs).length=128:=by
  intro h
  unfold Ae
  split
  ·simp
  ·rename_i hne
   rcases h with h|h
   ·exact absurd (Zq7.1 h) hne
   ·exact h
 have hcopy:bs.length=0∨bs.length=128→∃ sc,storeAt s.next 0 (Ab bs) s1=some sc∧∀ s',(s'=s1∧Ab bs=[])∨s'=sc→s'.next=s.next+1∧(∀ i,i<s.next→s'.get i=s.get i)∧s'.get s.next=some (.row 170 (Ab (Ae bs))):=by
  intro h
  refine ⟨_,Gm g1 (by rw [Bt,hz];omega),?_⟩
  rintro s' (⟨rfl,h0⟩|rfl)
  ·refine ⟨g3,g2,?_⟩
   have:bs=[]:=List.map_eq_nil_iff.1 h0
   rw [g1];unfold Ae;rw [Zqd this];rfl
  ·refine ⟨by rw [Do];exact g3,fun i hi=>by rw [HC (by omega)];exact g2 i hi,?_⟩
   rw [Lh (by omega)]
   rcases h with h|h
   ·have:bs=[]:=Zq7.1 h
    subst this;simp [Ab,Ae,Df]
   ·have hne:bs≠[]:=fun e=>by subst e;cases h
    unfold Ae;rw [Zqh hne,List.take_zero,List.nil_append,Zq5 (by rw [Bt,hz];omega),Zrk]
 refine Lr (b:=0) rfl rfl (fun h=>?_) (fun h=>?_)
 ·conv=>whnf
  refine Nx rfl hv ?_;conv=>whnf
  refine Lr (b:=128) rfl rfl (fun h'=>?_) (fun h'=>?_)
  ·conv=>whnf
   refine BA Df (by show load s.next 0 128 (s.alloc (.row 170 Df))=_;rw [hs1];exact JK g1 hz) ?_;conv=>whnf
   refine BA (s1.put s.next (.row 170 Df)) (by show storeAt s.next 0 Df (s.alloc (.row 170 Df))=_;rw [hs1];exact Lp g1 rfl) ?_
   obtain ⟨s2,hs2⟩:∃ s2,s1.put s.next (.row 170 Df)=s2:=⟨_,rfl⟩
   have g4:s2.get s.next=some (.row 170 Df):=by rw [← hs2,Lh (by omega)]
   have g5:∀ i,i<s.next→s2.get i=s.get i:=fun i hi=>by rw [← hs2,HC (by omega)];exact g2 i hi
   have g6:s2.next=s.next+1:=by rw [← hs2,Do];exact g3
   rw [hs2]
   conv=>whnf
   refine BA _ (Qv rfl (JK g4 hz) rfl) ?_
   exact k1 h h' s2 g6 g5
  ·have hn:bs.length=0∨bs.length=128:=.inr h'
   conv=>whnf
   refine EPrim.mk (v:=.sl s.next 0 128 (some 128)) (s':=s.alloc (.row 170 Df)) (fun e rec=>rfl) ?_;conv=>whnf
   obtain ⟨sc,hsc,hall⟩:=hcopy hn
   refine Ud (s1:=sc) rfl rfl hv (by omega) (by show storeAt s.next 0 (Ab bs) (s.alloc (.row 170 Df))=_;rw [hs1];exact hsc) (fun s2 hs2=>?_)
   have hs2':(s2=s1∧Ab bs=[])∨s2=sc:=by rw [← hs1];exact hs2
   obtain ⟨a1,a2,a3⟩:=hall s2 hs2'
   have hp:=main hn
   conv=>whnf
   refine BA (Ab (Ae bs)) (JK a3 (by rw [Bt];exact hp)) ?_;conv=>whnf
   refine Dy (by show Nat.beq (A6 (Ab (Ae bs))) 128=true;rw [CN,Bt,hp];rfl) ?_;conv=>whnf
   refine BA (s2.put s.next (.row 170 (Ab (Ae bs)))) (Lp a3 rfl) ?_
   obtain ⟨s3,hs3⟩:∃ s3,s2.put s.next (.row 170 (Ab (Ae bs)))=s3:=⟨_,rfl⟩
   have g4:s3.get s.next=some (.row 170 (Ab (Ae bs))):=by rw [← hs3,Lh (by omega)]
   have g5:∀ i,i<s.next→s3.get i=s.get i:=fun i hi=>by rw [← hs3,HC (by omega)];exact a2 i hi
   have g6:s3.next=s.next+1:=by rw [← hs3,Do];exact a1
   rw [hs3]
   conv=>whnf
   refine BA _ (Qv rfl (JK g4 (by rw [Bt];exact hp)) rfl) ?_
   exact k2 hp s3 g6 g5
 ·have hn:bs.length=0∨bs.length=128:=.inl h
  conv=>whnf
  refine EPrim.mk (v:=.sl s.next 0 128 (some 128)) (s':=s.alloc (.row 170 Df)) (fun e rec=>rfl) ?_;conv=>whnf
  obtain ⟨sc,hsc,hall⟩:=hcopy hn
  refine Ud (s1:=sc) rfl rfl hv (by omega) (by show storeAt s.next 0 (Ab bs) (s.alloc (.row 170 Df))=_;rw [hs1];exact hsc) (fun s2 hs2=>?_)
  have hs2':(s2=s1∧Ab bs=[])∨s2=sc:=by rw [← hs1];exact hs2
  obtain ⟨a1,a2,a3⟩:=hall s2 hs2'
  have hp:=main hn
  conv=>whnf
  refine BA (Ab (Ae bs)) (JK a3 (by rw [Bt];exact hp)) ?_;conv=>whnf
  refine Dy (by show Nat.beq (A6 (Ab (Ae bs))) 128=true;rw [CN,Bt,hp];rfl) ?_;conv=>whnf
  refine BA (s2.put s.next (.row 170 (Ab (Ae bs)))) (Lp a3 rfl) ?_
  obtain ⟨s3,hs3⟩:∃ s3,s2.put s.next (.row 170 (Ab (Ae bs)))=s3:=⟨_,rfl⟩
  have g4:s3.get s.next=some (.row 170 (Ab (Ae bs))):=by rw [← hs3,Lh (by omega)]
  have g5:∀ i,i<s.next→s3.get i=s.get i:=fun i hi=>by rw [← hs3,HC (by omega)];exact a2 i hi
  have g6:s3.next=s.next+1:=by rw [← hs3,Do];exact a1
  rw [hs3]
  conv=>whnf
  refine BA _ (Qv rfl (JK g4 (by rw [Bt];exact hp)) rfl) ?_
  exact k2 hp s3 g6 g5
def Rn:AC:=match Pm with|.mk c _=>c
def KA (a z:Int):Bool:=decide (1≤z∧z≤4∧0≤a∧a≤128-z)
theorem Ze4 (e:Env) (s:St) (a z:Int) (K:AV→St→Prop) (h:K (.bool (KA a z)) s):VE e Rn (Ah [.int .i64 a,.int .i64 z] 0 .lf) s none [] (BW [.tmp 4] K):=by
 unfold KA at h
 conv=>whnf
 refine DF rfl rfl (fun h1=>?_) (fun h1=>?_)
 ·conv=>whnf
  refine Nw rfl rfl (fun h2=>?_) (fun h2=>?_)
  ·conv=>whnf
   refine DF rfl rfl (fun h3=>?_) (fun h3=>?_)
   ·conv=>whnf
    refine Qr rfl rfl (by omega) ?_;conv=>whnf
    refine Nw rfl rfl (fun h4=>?_) (fun h4=>?_)
    ·conv=>whnf
     rw [Zqe ⟨h1,h2,h3,h4⟩] at h;exact h
    ·conv=>whnf
     rw [Zqq (by omega)] at h;exact h
   ·conv=>whnf
    rw [Zqq (by omega)] at h;exact h
  ·conv=>whnf
   rw [Zqq (by omega)] at h;exact h
 ·conv=>whnf
  rw [Zqq (by omega)] at h;exact h
section
variable {t:AT}{s:St}{k:AV→St→Prop}{x y:AO}
end
theorem Wb {bs:List Nat}(h:(Ae bs).length=128):¬ (bs.length≠0∧bs.length≠128):=by
 unfold Ae at h
 split at h
 ·rename_i e;subst e;simp
 ·rintro ⟨_,h2⟩;exact h2 h
end Go.AM
namespace Go.AM
attribute [local irreducible] W
open X
section
variable {t:AT}{s:St}{k:AV→St→Prop}{x y:AO}
theorem ZA {q:IntKind}{a:Nat}(hx:ev x t=.some (.int q (Int.ofNat a))) (hk:k (.int .u8 (Int.ofNat (a % 256))) s):EPrim (.cvi .u8 x) t s k:=by
 refine EPrim.mk (v:=.int .u8 (Int.ofNat (a % 256))) (s':=s) (fun e rec=>?_) hk
 show wth x t _=_;unfold wth;rw [hx]
 rfl
end
def Zjg:AC:=match Py with|.mk c _=>c
def Ci (bs:List Nat) (a n:Nat):Nat→List Nat
 | 0=>bs
 | i+1=>(Ci bs a n i).set (a+i) (n / 2^(8*i) % 256)
theorem Ll (bs:List Nat) (a n:Nat):∀ i,(Ci bs a n i).length=bs.length
 | 0=>rfl
 | i+1=>by rw [Ci,List.length_set,Ll bs a n i]
theorem Zj6 (bs:List Nat) (i b:Nat):Ab (bs.set i b)=(Ab bs).set i (.int .u8 (Int.ofNat b)):=by simp [Ab,List.map_set,byV]
def Fr (a z n:Int):Bool:=KA a z && decide (0≤n∧n.toNat / 2^(8*z.toNat)=0)
theorem Zgx (e:Env) (hE:EM P e) (h130:Inl e 217 Ro [.cells 2 128,.tmp 3]) (h131:Inl e 218 Rn [.tmp 4]) (v:AV) (bs:List Nat) (hv:Sl 1 bs.length (Ab bs) v) (a z n:Int) (Q:AV→St→Prop)
 (k1:bs.length≠0→bs.length≠128→∀ s,Q (.tup [.nils,.int .i64 3]) s)
 (k2:(Ae bs).length=128→Fr a z n=false→∀ s,Q (.tup [.nils,.int .i64 2]) s)
 (k3:(Ae bs).length=128→Fr a z n=true→∀ s r,s.get r=some (.row 170 (Ab (Ci (Ae bs) a.toNat n.toNat z.toNat)))→Q (.tup [.sl r 0 128 (some 128),.int .i64 0]) s):
 VW P e 0 Zjg (Ah [v,.int .i64 a,.int .i64 z,.int .i64 n] 0 .lf) St0 none [] (BW [.tmp 8,.tmp 9] Q):=by
 conv=>whnf
 refine ESc.inl h130 (Za5 e _ v bs hv (by decide) _ (fun h1 h2 s' n1 n2=>?_) (fun h1 s' n1 n2=>?_))
 ·have hn1:s'.next=1:=n1
  conv=>whnf
  refine BA _ (Lp (e:=170) (old:=Df) (PZ (by omega)) rfl) ?_;conv=>whnf
  refine Lr (a:=3) (b:=0) rfl rfl (fun _=>?_) (fun h=>by cases h);conv=>whnf
  exact k1 h1 h2 _
 ·have hn1:s'.next=1:=n1
  have hbl:(Ab (Ae bs)).length=128:=by rw [Bt];exact h1
  obtain ⟨s1,hs1⟩:∃ s1,s'.alloc (.row 170 Df)=s1:=⟨_,rfl⟩
  have g1:s1.get s'.next=some (.row 170 Df):=by rw [← hs1];exact PZ (by omega)
  conv=>whnf
  refine Dy (by show Nat.beq (A6 (Ab (Ae bs))) 128=true;rw [CN,hbl];rfl) ?_;conv=>whnf
  refine BA (s1.put s'.next (.row 170 (Ab (Ae bs)))) (by show storeAt s'.next 0 (Ab (Ae bs)) (s'.alloc (.row 170 Df))=_;rw [hs1];exact Lp g1 (by rw [hbl];rfl)) ?_
  obtain ⟨s2,hs2⟩:∃ s2,s1.put s'.next (.row 170 (Ab (Ae bs)))=s2:=⟨_,rfl⟩
  have g4:s2.get s'.next=some (.row 170 (Ab (Ae bs))):=by rw [← hs2,Lh (by omega)]
  rw [hs2]
  conv=>whnf
  refine Lr (a:=0) (b:=0) rfl rfl (fun h=>absurd rfl h) (fun _=>?_);conv=>whnf
  refine ESc.inl h131 (Ze4 e _ a z _ ?_)
  cases hf:KA a z with
  | false=>
   conv=>whnf
   refine HH rfl ?_;conv=>whnf
   exact k2 h1 (by unfold Fr;rw [hf];rfl) _
  | true=>
   conv=>whnf
   refine IJ rfl ?_;conv=>whnf
   have hfz:=Zrq hf
   obtain ⟨A,rfl⟩:∃ A:Nat,a=Int.ofNat A:=⟨a.toNat,by show a=(a.toNat:Int);omega⟩
   obtain ⟨Z,rfl⟩:∃ Z:Nat,z=Int.ofNat Z:=⟨z.toNat,by show z=(z.toNat:Int);omega⟩
   have eA:Int.ofNat A=(A:Int):=rfl
   have eZ:Int.ofNat Z=(Z:Int):=rfl
   refine Bb rfl rfl (fun hneg=>?_) (fun hneg=>?_)
   ·conv=>whnf
    exact k2 h1 (by unfold Fr;rw [Zqq (by omega)];simp) _
   ·obtain ⟨M,rfl⟩:∃ M:Nat,n=Int.ofNat M:=⟨n.toNat,by show n=(n.toNat:Int);omega⟩
    conv=>whnf
    refine Cl rfl rfl (by omega) ?_;conv=>whnf
    refine Nv (n:=8*Z) rfl rfl (by show 8*Z≤64;omega) ?_;conv=>whnf
    refine Lr (b:=0) rfl rfl (fun h=>?_) (fun h=>?_)
    ·conv=>whnf
     exact k2 h1 (by unfold Fr;rw [Zqq (fun hh=>h hh.2)];simp) _
    ·conv=>whnf
     have hok:Fr (Int.ofNat A) (Int.ofNat Z) (Int.ofNat M)=true:=by
      unfold Fr;rw [hf,Zqe ⟨hneg,h⟩];rfl
     refine LT (α:=Nat) (fun i=>[(1,.int .i64 (Int.ofNat A)),(3,.int .i64 (Int.ofNat M)),(10,.ptr 0 0),(36,.int .i64 (Int.ofNat Z)),(37,.int .i64 (Int.ofNat i))]) (fun i=>[.row 170 (Ab (Ci (Ae bs) A M i))]) (fun i=>Z-i)
      (fun i=>i≤Z) 0 [s'.next] (Zqs _) ⟨by simp,⟨⟨rfl,rfl⟩,⟨rfl,rfl⟩,⟨rfl,rfl⟩,⟨rfl,rfl⟩,⟨rfl,rfl⟩,trivial⟩,⟨⟨?_,?_⟩,trivial⟩⟩ ?_
     ·exact HW _ (B6 _)
     ·rw [g4];show _=some (AObj.row 170 (AG _ (Ab (Ae bs))));rw [HN _ (B6 _)]
     intro i hi
     have hlen:(Ab (Ci (Ae bs) A M i)).length=128:=by rw [Bt,Ll];exact h1
     refine Cy hE ?_;conv=>whnf
     refine Uv rfl rfl (fun h=>?_) (fun h=>?_)
     ·conv=>whnf
      refine Za1 rfl rfl (by omega) ?_;conv=>whnf
      refine Cl rfl rfl (by have:Int.ofNat i=(i:Int):=rfl;omega) ?_;conv=>whnf
      refine Nv (n:=8*i) rfl rfl (by show 8*i≤64;omega) ?_;conv=>whnf
      refine ZA rfl ?_;conv=>whnf
      refine Nz rfl rfl (by omega) ?_;conv=>whnf
      refine BA ((Al St0 [.row 170 (Ab (Ci (Ae bs) A M i))]).put 0 (.row 170 (Ab (Ci (Ae bs) A M (i+1))))) (by
       rw [Zqo,Zrc]
       show storeAt 0 (A+i) [AV.int .u8 (Int.ofNat (M / 2^(8*i) % 256))] (Al St0 [.row 170 (Ab (Ci (Ae bs) A M i))])=_
       rw [Gm (e:=170) (cs:=Ab (Ci (Ae bs) A M i)) rfl (by rw [hlen];simp;omega)]
       rw [Ci,Zj6,List.set_eq_take_append_cons_drop,Zqd (by rw [hlen];omega)]
       simp) ?_
      conv=>whnf
      refine Uw rfl rfl rfl (by omega) ?_;conv=>whnf
      refine ⟨rfl,i+1,by omega,by omega,[0],⟨by decide,⟨r9,r9,r9,r9,r9,trivial⟩,⟨⟨HW _ (B6 _),?_⟩,trivial⟩⟩⟩
      show _=some (AObj.row 170 (AG _ (Ab (Ci (Ae bs) A M (i+1)))));rw [HN _ (B6 _)];rfl
     ·have:i=Z:=by omega
      subst this
      conv=>whnf
      refine EPrim.mk (v:=.sl 0 0 128 (some 128)) (s':=Al St0 [.row 170 (Ab (Ci (Ae bs) A M i))]) (fun e rec=>rfl) ?_;conv=>whnf
      exact k3 h1 hok _ 0 rfl
theorem Zn9 {v:AV}{bs:List Nat}(h:Ia St0 v=some bs):Sl 1 bs.length (Ab bs) v∧∀ b ∈ bs,b<256:=by
 obtain ⟨v2,hF,hS,hb⟩:=TG h
 refine ⟨?_,hb⟩
 cases hF with
 | plain _ _=>exact hS
 | sl r o n cap cap' e cs l us hg _ _ _=>cases hg
 | ptr r o e cs l us hg _ _=>cases hg
 | agg l us _=>rcases hS with ⟨h,_⟩|⟨h,_⟩|⟨c,h,_⟩ <;> cases h
 | tup l us _=>rcases hS with ⟨h,_⟩|⟨h,_⟩|⟨c,h,_⟩ <;> cases h
 | fn f xs ys us ws _ _=>rcases hS with ⟨h,_⟩|⟨h,_⟩|⟨c,h,_⟩ <;> cases h
def Fz (bs:List Nat) (a z n:Int):AV:=
 if bs.length≠0∧bs.length≠128 then .tup [.nils,.int .i64 3] else if Fr a z n=true then .tup [.fz 128 (some 128) (Ab (Ci (Ae bs) a.toNat n.toNat z.toNat)),.int .i64 0] else .tup [.nils,.int .i64 2]
theorem Zhv (bs:List Nat) (a z n:Int):hf (Fz bs a z n)=true:=by
 unfold Fz
 split
 ·rfl
 ·split <;> rfl
noncomputable def KJ (args:List AV) (s:St):RV:=match args with
 | [v,.int .i64 a,.int .i64 z,.int .i64 n]=>Option.rec .fail (fun bs=>.ok (Fz bs a z n) s) (Ia St0 v)
 | _=>.fail
theorem Zgy {e:Env}(hE:EM P e) (h130:Inl e 217 Ro [.cells 2 128,.tmp 3]) (h131:Inl e 218 Rn [.tmp 4]):OvOk P 206 KJ:=by
 refine ⟨g206.b,fun args s v s' h=>?_⟩
 unfold KJ at h
 split at h
 ·rename_i u a z n
  obtain ⟨bs,hbs,h⟩:=AI h
  obtain ⟨rfl,rfl⟩:=Az h
  obtain ⟨hSl,hlt⟩:=Zn9 hbs
  have hfs2:hfs [u,.int .i64 a,.int .i64 z,.int .i64 n]=true:=by simp [hfs,hSl.hf];exact ⟨rfl,rfl,rfl⟩
  refine RY hfs2 (Zhv bs a z n) ?_ s
  refine C.of_G hE g206 (Zgx e hE h130 h131 u bs hSl a z n _ (fun h1 h2 s=>?_) (fun h0 h1 s=>?_) (fun h0 h1 s r hr=>?_))
  ·have e1:Fz bs a z n=.tup [.nils,.int .i64 3]:=by unfold Fz;rw [Zqd ⟨h1,h2⟩]
   rw [e1];exact .plain _ rfl
  ·have e1:Fz bs a z n=.tup [.nils,.int .i64 2]:=by unfold Fz;rw [Zqh (Wb h0),Zqh (by rw [h1];simp)]
   rw [e1];exact .plain _ rfl
  ·have e1:Fz bs a z n=.tup [.fz 128 (some 128) (Ab (Ci (Ae bs) a.toNat n.toNat z.toNat)),.int .i64 0]:=by unfold Fz;rw [Zqh (Wb h0),Zqd h1]
   rw [e1]
   exact .tup _ _ (.cons (.sl r 0 128 (some 128) (some 128) 170 _ _ _ hr (fun i x hx=>by rw [Zqo];exact hx) (LN _) (.inr rfl)) (.cons (.plain _ rfl) .nil))
 ·cases h
end Go.AM
namespace Go.AM
attribute [local irreducible] W
open X
def crcT:List Nat:=[0x00000000,0x105ec76f,0x20bd8ede,0x30e349b1,0x417b1dbc,0x5125dad3,0x61c69362,0x7198540d,0x82f63b78,0x92a8fc17,0xa24bb5a6,0xb21572c9,0xc38d26c4,0xd3d3e1ab,0xe330a81a,0xf36e6f75]
def M7:List Nat→Nat→Nat
 | [],_=>0
 | x::_,0=>x
 | _::l,n+1=>M7 l n
def MH (s:Nat):Nat:=Nat.xor (Nat.div s 16) (M7 crcT (Nat.mod s 16))
def Oc (s b:Nat):Nat:=MH (MH (Nat.xor s b))
def Hg (l:List Nat) (s:Nat):Nat:=l.foldl Oc s
def VC:List AV:=crcT.map fun n=>.int .u32 (Int.ofNat n)
theorem QW {m:Nat}(h0:0<m):∀ {l:List Nat}{n:Nat},(∀ x ∈ l,x<m)→M7 l n<m:=by
 intro l
 induction l with
 | nil=>intro n _;exact h0
 | cons x l ih=>intro n h;cases n with
  | zero=>exact h x (by simp)
  | succ n=>exact ih fun y hy=>h y (by simp [hy])
theorem LL {s:Nat}(h:s<4294967296):MH s<4294967296:=
 Zrz (n:=32) (by show s / 16<_;omega) (QW (by decide) (by decide))
theorem Zev:∀ {i:Nat}{l:List Nat},i<l.length→F0 (l.map fun n=>AV.int .u32 (Int.ofNat n)) i=some (.int .u32 (Int.ofNat (M7 l i))):=by
 intro i l
 induction l generalizing i with
 | nil=>intro h;simp at h
 | cons x l ih=>intro h;cases i with
  | zero=>rfl
  | succ i=>exact ih (by simpa using h)
theorem UQ {i:Nat}(h:i<16):load1 0 (0+i*1) (Al St0 [.row 276 VC])=some (.int .u32 (Int.ofNat (M7 crcT i))):=by
 rw [Zqo,Zrc]
 exact Zev (l:=crcT) h
theorem XN (a:Nat):a &&& 15=a % 16:=Nat.and_two_pow_sub_one_eq_mod a 4
theorem Zbs (e:Env) (hE:EM P e) (hW:Inl e 222 (match J4 with|.mk c _=>c) (match J4 with|.mk _ r=>r)) (s0:Nat) (h0:s0<4294967296) (bs:List Nat) (hb:∀ b ∈ bs,b<256) (hlen:bs.length<9223372036854775807) (v:AV) (hv:Sl 1 bs.length (Ab bs) v) (Q:AV→St→Prop)
 (hQ:∀ s,Q (.int .u32 (Int.ofNat (Hg bs (s0 ^^^ 4294967295) ^^^ 4294967295))) s):
 VW P e 0 (match Pl with|.mk c _=>c) (Ah [.int .u32 (Int.ofNat s0),v] 0 .lf) St0 none [] (BW [.tmp 4] Q):=by
 conv=>whnf
 refine ESc.inl hW ?_;conv=>whnf
 refine Uc rfl h0 ?_;conv=>whnf
 refine Nx rfl hv ?_;conv=>whnf
 refine LT (α:=Nat×Nat) (fun x=>[(0,.int .u32 (Int.ofNat x.2)),(5,.ptr 0 0),(11,v),(12,.int .i64 (Int.ofNat bs.length)),(13,.int .i64 (Int.ofNat x.1))]) (fun _=>[.row 276 VC]) (fun x=>bs.length-x.1)
  (fun x=>x.1≤bs.length∧x.2=Hg (bs.take x.1) (s0 ^^^ 4294967295)∧x.2<4294967296) (0,s0 ^^^ 4294967295) [1] ⟨Zqs _,rfl,Zrz (n:=32) h0 (by decide)⟩
  ⟨by decide,⟨r9,r9,t9 hv.hf,r9,r9,trivial⟩,⟨r9,trivial⟩⟩ ?_
 rintro ⟨i,a⟩ ⟨hi,ha,hlt⟩
 dsimp only at hi ha hlt ⊢
 refine Cy hE ?_;conv=>whnf
 refine Uv rfl rfl (fun h=>?_) (fun h=>?_)
 ·have hbi:bs[i]<256:=hb bs[i] (Zra h)
  have hx:a ^^^ bs[i]<4294967296:=Zrz (n:=32) hlt (by omega)
  have hy:MH (a ^^^ bs[i])<4294967296:=LL hx
  conv=>whnf
  refine Cr rfl hv rfl h ?_;conv=>whnf
  refine EHead.mk (Ze h) ?_;conv=>whnf
  refine Zi rfl (by omega) ?_;conv=>whnf
  refine Qd rfl rfl hlt (by omega) ?_;conv=>whnf
  refine Nv (n:=4) rfl rfl (by decide) ?_;conv=>whnf
  refine Ue rfl rfl hx (by decide) ?_;conv=>whnf
  rw [XN]
  refine Nz rfl rfl (Nat.mod_lt _ (by decide)) ?_;conv=>whnf
  refine BA _ (UQ (Nat.mod_lt _ (by decide))) ?_;conv=>whnf
  refine Qd rfl rfl (by show (a ^^^ bs[i]) / 16<_;omega) (QW (by decide) (by decide)) ?_;conv=>whnf
  refine Nv (n:=4) rfl rfl (by decide) ?_;conv=>whnf
  refine Ue rfl rfl hy (by decide) ?_;conv=>whnf
  rw [XN]
  refine Nz rfl rfl (Nat.mod_lt _ (by decide)) ?_;conv=>whnf
  refine BA _ (UQ (Nat.mod_lt _ (by decide))) ?_;conv=>whnf
  refine Qd rfl rfl (by have:MH (a ^^^ bs[i]) / 16<4294967296:=by omega
                        exact this) (QW (by decide) (by decide)) ?_
  conv=>whnf
  refine Uw rfl rfl rfl (by omega) ?_;conv=>whnf
  refine ⟨rfl,(i+1,Oc a bs[i]),⟨by simp;omega,?_,LL (LL hx)⟩,by simp;omega,[0],⟨by decide,⟨r9,r9,t9 hv.hf,r9,r9,trivial⟩,⟨r9,trivial⟩⟩⟩
  show Oc a bs[i]=Hg (bs.take (i+1)) _
  rw [Zqm h,Hg,List.foldl_append,ha];rfl
 ·conv=>whnf
  refine Uc rfl hlt ?_;conv=>whnf
  have:bs.take i=bs:=Zqi h
  rw [ha,this]
  exact hQ _
noncomputable def K5 (args:List AV) (s:St):RV:=match args with
 | [.int .u32 (.ofNat s0),v]=>gd (Nat.blt s0 4294967296) (Option.rec .fail (fun bs=>gd (Nat.blt (A6 bs) 1000000) (.ok (.int .u32 (.ofNat (Nat.xor (Hg bs (Nat.xor s0 4294967295)) 4294967295))) s)) (Ia s v))
 | _=>.fail
theorem Zd4 {e:Env}(hE:EM P e) (hW:Inl e 222 (match J4 with|.mk c _=>c) (match J4 with|.mk _ r=>r)):OvOk P 219 K5:=by
 refine ⟨g219.b,fun args s v s' h=>?_⟩
 unfold K5 at h
 split at h
 ·rename_i s0 u
  obtain ⟨h1,h⟩:=B5 h
  obtain ⟨bs,hbs,h⟩:=AI h
  obtain ⟨h2,h⟩:=B5 h
  obtain ⟨rfl,rfl⟩:=Az h
  rw [Zrr] at h1 h2
  rw [CN] at h2
  obtain ⟨v2,hF,hSl,hlt⟩:=TG hbs
  have hfs2:hfs [.int .u32 (.ofNat s0),v2]=true:=by simp [hfs,hSl.hf];rfl
  refine Kz (args2:=[.int .u32 (.ofNat s0),v2]) (.cons (.plain _ rfl) (.cons hF .nil)) rfl (IS hfs2 ?_)
  exact C.of_G hE g219 (Zbs e hE hW s0 h1 bs hlt (by omega) v2 hSl _ (fun s=>.plain _ rfl))
 ·cases h
section
variable {t:AT}{s:St}{k:AV→St→Prop}{x y:AO}
end
end Go.AM
namespace Go.AM
attribute [local irreducible] W
open X
def FY (n:Int):Bool:=decide (1≤n∧n≤2147483648)
def supB (age seq tail:Int):Bool:=FY age && FY seq && decide (0≤tail∧tail<255)
structure Sup where
 id:Int
 age:Int
 seq:Int
 tail:Int
def Sup.ok (x:Sup):Prop:=(0≤x.id∧x.id<4294967296)∧(0≤x.age∧x.age<4294967296)∧(0≤x.seq∧x.seq<4294967296)
def Sup.v (x:Sup):AV:=.agg [.int .u32 x.id,.int .u32 x.age,.int .u32 x.seq,.int .i64 x.tail]
def Sup.b (x:Sup):Bool:=supB x.age x.seq x.tail
theorem Zk5 {bs:List Nat}(h:bs.length=128):Ae bs=bs:=by
 unfold Ae;rw [Zqh];intro e;subst e;cases h
structure Cfg where
 id:Int
 members:Int
 chunk:Int
 rows:Int
 log:Int
 heads:Int
def Aa (n:Int):Prop:=-9223372036854775808≤n∧n≤9223372036854775807
def Be (n:Int):Prop:=0≤n∧n<4294967296
structure Cfg.ok (c:Cfg):Prop where
 id:Be c.id
 members:Aa c.members
 chunk:Aa c.chunk
 rows:Aa c.rows
 log:Aa c.log
 heads:Aa c.heads
def Cfg.c (x:Cfg):List AV:=[.int .u32 x.id,.int .i64 x.members,.int .i64 x.chunk,.int .i64 x.rows,.int .i64 x.log,.int .i64 x.heads]
def Cfg.v (x:Cfg):AV:=.agg x.c
variable {x y:Cfg}
theorem Cfg.inj (h:x.c=y.c):x=y:=by
 obtain ⟨a,b,c,d,e,f⟩:=x
 obtain ⟨a',b',c',d',e',f'⟩:=y
 simp [Cfg.c] at h
 obtain ⟨rfl,rfl,rfl,rfl,rfl,rfl⟩:=h;rfl
theorem HU (h:x.v=y.v):x=y:=Cfg.inj (AV.agg.inj h)
def Cfg.may (x:Cfg):Prop:=(3≤x.members∧x.members≤16)∧(1≤x.chunk∧x.chunk≤8)∧(1≤x.rows∧x.rows≤8)∧(2≤x.heads∧x.heads≤8)∧(x.members+1)*(x.heads+1)≤x.log∧x.log≤255
instance (x:Cfg):Decidable x.may:=by unfold Cfg.may;infer_instance
theorem GF (h:x.may):12≤x.log:=by
 unfold Cfg.may at h
 have:(4:Int)*3≤(x.members+1)*(x.heads+1):=Int.mul_le_mul (by omega) (by omega) (by decide) (by omega)
 omega
def cfgF:Fam Cfg:=⟨Cfg.ok,fun x=>[x.v],fun x=>.int .i64 (if x.may then 0 else 8),fun x y _ _ h=>by rw [HU (Zql h).1]⟩
def Zjp:AC:=match PD with|.mk c _=>c
theorem DG {a b:Int}(ha:0≤a∧a≤100000) (hb:0≤b∧b≤100000):-9223372036854775808≤a*b∧a*b≤9223372036854775807:=by
 have h1:0≤a*b:=Int.mul_nonneg ha.1 hb.1
 have h2:a*b≤100000*100000:=Int.mul_le_mul ha.2 hb.2 hb.1 (by decide)
 omega
variable {e:Env}
theorem Zjt (hE:EM P e) (h121:Inl e 147 Zjp [.tmp 2]):OvOk P 103 cfgF.O:=by
 refine Cx g103.b ?_
 rintro ⟨id,members,chunk,rows,log,heads⟩ ⟨h1,h2,h3,h4,h5,h6⟩
 unfold Aa at h2 h3 h4 h5 h6
 dsimp only at h2 h3 h4 h5 h6
 refine ⟨rfl,rfl,C.of_G hE g103 ?_⟩
 have fin0:∀ s,((3≤members∧members≤16)∧(1≤chunk∧chunk≤8)∧(1≤rows∧rows≤8)∧(2≤heads∧heads≤8)∧(members+1)*(heads+1)≤log∧log≤255)→Frz s (.int .i64 0) (cfgF.out ⟨id,members,chunk,rows,log,heads⟩):=by
  intro s h
  show Frz s _ (.int .i64 (if Cfg.may ⟨id,members,chunk,rows,log,heads⟩ then 0 else 8))
  rw [Zqd (show Cfg.may ⟨id,members,chunk,rows,log,heads⟩ from h)];exact .plain _ rfl
 have fin8:∀ s,¬ ((3≤members∧members≤16)∧(1≤chunk∧chunk≤8)∧(1≤rows∧rows≤8)∧(2≤heads∧heads≤8)∧(members+1)*(heads+1)≤log∧log≤255)→Frz s (.int .i64 8) (cfgF.out ⟨id,members,chunk,rows,log,heads⟩):=by
  intro s h
  show Frz s _ (.int .i64 (if Cfg.may ⟨id,members,chunk,rows,log,heads⟩ then 0 else 8))
  rw [Zqh (show ¬ Cfg.may ⟨id,members,chunk,rows,log,heads⟩ from h)];exact .plain _ rfl
 show VW P e 0 (match PU with|.mk c _=>c) (Ah [AV.agg [.int .u32 id,.int .i64 members,.int .i64 chunk,.int .i64 rows,.int .i64 log,.int .i64 heads]] 0 .lf) St0 none [] _
 conv=>whnf
 repeat' (first|((first|refine ESc.inl h121 ?_|refine EExec.loop ?_|refine HD rfl rfl (by omega) (by omega) ?_|refine Ny rfl rfl (by omega) (by omega) ?_|refine Cl rfl rfl (DG (by omega) (by omega)) ?_|refine v7 ?_|refine An ?_|refine As ?_|refine BY ?_);conv=>whnf)|refine v1 ?_ ?_|refine v3 ?_ ?_|(intro _;first|omega|conv=>whnf))
 all_goals first
  | exact fin8 _ (by omega)
  | exact fin0 _ (by omega)
def toldF:Fam (Cfg×Int):=⟨fun x=>x.1.ok,fun x=>[x.1.v,.int .i64 x.2],fun x=>.tup [.int .i64 (if x.1.may then x.2 else 0),.int .i64 (if x.1.may then 0 else 8)],fun x y _ _ h=>by
 obtain ⟨c,n⟩:=x
 obtain ⟨c',n'⟩:=y
 have h1:=HU (Zql h).1
 have h2:=(AV.int.inj (Zql (Zql h).2).1).2
 dsimp only at h1 h2
 subst h1 h2;rfl⟩
theorem Zdo (hE:EM P e) (h78:Con e 103 cfgF.O):OvOk P 88 toldF.O:=by
 refine Cx g88.b ?_
 rintro ⟨x,n⟩ hx
 refine ⟨rfl,rfl,C.of_G hE g88 ?_⟩
 by_cases hM:x.may
 ·rw [show toldF.out (x,n)=.tup [.int .i64 n,.int .i64 0] by simp [toldF,hM]]
  show VW P e 0 (match Na with|.mk c _=>c) (Ah [x.v,.int .i64 n] 0 .lf) St0 none [] _
  conv=>whnf
  refine ESc.fam cfgF h78 x hx (u:=.int .i64 0) (by simp [cfgF,hM]) ?_;conv=>whnf
  repeat' (first|refine v6 ?_ ?_|(intro _;first|omega|conv=>whnf))
  exact .plain _ rfl
 ·rw [show toldF.out (x,n)=.tup [.int .i64 0,.int .i64 8] by simp [toldF,hM]]
  show VW P e 0 (match Na with|.mk c _=>c) (Ah [x.v,.int .i64 n] 0 .lf) St0 none [] _
  conv=>whnf
  refine ESc.fam cfgF h78 x hx (u:=.int .i64 8) (by simp [cfgF,hM]) ?_;conv=>whnf
  repeat' (first|refine v6 ?_ ?_|(intro _;first|omega|conv=>whnf))
  exact .plain _ rfl
def stripesF:Fam Cfg:=⟨Cfg.ok,fun x=>[x.v],fun x=>.tup [.int .i64 (if x.may then x.chunk*x.rows else 0),.int .i64 (if x.may then 0 else 8)],fun x y _ _ h=>by rw [HU (Zql h).1]⟩
theorem Zk (hE:EM P e) (h83:Con e 88 toldF.O):OvOk P 40 stripesF.O:=by
 refine Cx g40.b ?_
 intro x hx
 refine ⟨rfl,rfl,C.of_G hE g40 ?_⟩
 by_cases hM:x.may
 ·rw [show stripesF.out x=.tup [.int .i64 (x.chunk*x.rows),.int .i64 0] by simp [stripesF,hM]]
  have hM':=hM
  unfold Cfg.may at hM'
  have hl:=GF hM
  obtain ⟨id,members,chunk,rows,log,heads⟩:=x
  dsimp only at hM' hl ⊢
  show VW P e 0 (match Nf with|.mk c _=>c) (Ah [AV.agg [.int .u32 id,.int .i64 members,.int .i64 chunk,.int .i64 rows,.int .i64 log,.int .i64 heads]] 0 .lf) St0 none [] _
  conv=>whnf
  repeat' (first|(refine Cl rfl rfl (DG (by omega) (by omega)) ?_;conv=>whnf)|fail)
  refine ESc.fam toldF h83 (⟨id,members,chunk,rows,log,heads⟩,_) hx (u:=.tup [_,.int .i64 0]) (by simp only [toldF,Zqd hM];rfl) ?_;conv=>whnf
  exact .plain _ rfl
 ·rw [show stripesF.out x=.tup [.int .i64 0,.int .i64 8] by simp [stripesF,hM]]
  obtain ⟨id,members,chunk,rows,log,heads⟩:=x
  show VW P e 0 (match Nf with|.mk c _=>c) (Ah [AV.agg [.int .u32 id,.int .i64 members,.int .i64 chunk,.int .i64 rows,.int .i64 log,.int .i64 heads]] 0 .lf) St0 none [] _
  conv=>whnf
  repeat' (first|((first|refine EPrim.mul rfl rfl ?_|refine EPrim.add (q:=.i64) rfl rfl ?_);conv=>whnf)|fail)
  refine ESc.fam toldF h83 (⟨id,members,chunk,rows,log,heads⟩,_) hx (u:=.tup [.int .i64 0,.int .i64 8]) (by simp only [toldF,Zqh hM]) ?_;conv=>whnf
  exact .plain _ rfl
def needF:Fam Cfg:=⟨Cfg.ok,fun x=>[x.v],fun x=>.tup [.int .i64 (if x.may then x.members+1 else 0),.int .i64 (if x.may then 0 else 8)],fun x y _ _ h=>by rw [HU (Zql h).1]⟩
theorem Zea (hE:EM P e) (h83:Con e 88 toldF.O):OvOk P 185 needF.O:=by
 refine Cx g185.b ?_
 intro x hx
 refine ⟨rfl,rfl,C.of_G hE g185 ?_⟩
 by_cases hM:x.may
 ·rw [show needF.out x=.tup [.int .i64 (x.members+1),.int .i64 0] by simp [needF,hM]]
  have hM':=hM
  unfold Cfg.may at hM'
  have hl:=GF hM
  obtain ⟨id,members,chunk,rows,log,heads⟩:=x
  dsimp only at hM' hl ⊢
  show VW P e 0 (match ML with|.mk c _=>c) (Ah [AV.agg [.int .u32 id,.int .i64 members,.int .i64 chunk,.int .i64 rows,.int .i64 log,.int .i64 heads]] 0 .lf) St0 none [] _
  conv=>whnf
  repeat' (first|(refine v7 ?_;conv=>whnf)|fail)
  refine ESc.fam toldF h83 (⟨id,members,chunk,rows,log,heads⟩,_) hx (u:=.tup [_,.int .i64 0]) (by simp only [toldF,Zqd hM];rfl) ?_;conv=>whnf
  exact .plain _ rfl
 ·rw [show needF.out x=.tup [.int .i64 0,.int .i64 8] by simp [needF,hM]]
  obtain ⟨id,members,chunk,rows,log,heads⟩:=x
  show VW P e 0 (match ML with|.mk c _=>c) (Ah [AV.agg [.int .u32 id,.int .i64 members,.int .i64 chunk,.int .i64 rows,.int .i64 log,.int .i64 heads]] 0 .lf) St0 none [] _
  conv=>whnf
  repeat' (first|((first|refine EPrim.mul rfl rfl ?_|refine EPrim.add (q:=.i64) rfl rfl ?_);conv=>whnf)|fail)
  refine ESc.fam toldF h83 (⟨id,members,chunk,rows,log,heads⟩,_) hx (u:=.tup [.int .i64 0,.int .i64 8]) (by simp only [toldF,Zqh hM]) ?_;conv=>whnf
  exact .plain _ rfl
def journalF:Fam Cfg:=⟨Cfg.ok,fun x=>[x.v],fun x=>.tup [.int .i64 (if x.may then x.log+1 else 0),.int .i64 (if x.may then 0 else 8)],fun x y _ _ h=>by rw [HU (Zql h).1]⟩
theorem Zw (hE:EM P e) (h83:Con e 88 toldF.O):OvOk P 60 journalF.O:=by
 refine Cx g60.b ?_
 intro x hx
 refine ⟨rfl,rfl,C.of_G hE g60 ?_⟩
 by_cases hM:x.may
 ·rw [show journalF.out x=.tup [.int .i64 (x.log+1),.int .i64 0] by simp [journalF,hM]]
  have hM':=hM
  unfold Cfg.may at hM'
  have hl:=GF hM
  obtain ⟨id,members,chunk,rows,log,heads⟩:=x
  dsimp only at hM' hl ⊢
  show VW P e 0 (match Nd with|.mk c _=>c) (Ah [AV.agg [.int .u32 id,.int .i64 members,.int .i64 chunk,.int .i64 rows,.int .i64 log,.int .i64 heads]] 0 .lf) St0 none [] _
  conv=>whnf
  repeat' (first|(refine v7 ?_;conv=>whnf)|fail)
  refine ESc.fam toldF h83 (⟨id,members,chunk,rows,log,heads⟩,_) hx (u:=.tup [_,.int .i64 0]) (by simp only [toldF,Zqd hM];rfl) ?_;conv=>whnf
  exact .plain _ rfl
 ·rw [show journalF.out x=.tup [.int .i64 0,.int .i64 8] by simp [journalF,hM]]
  obtain ⟨id,members,chunk,rows,log,heads⟩:=x
  show VW P e 0 (match Nd with|.mk c _=>c) (Ah [AV.agg [.int .u32 id,.int .i64 members,.int .i64 chunk,.int .i64 rows,.int .i64 log,.int .i64 heads]] 0 .lf) St0 none [] _
  conv=>whnf
  repeat' (first|((first|refine EPrim.mul rfl rfl ?_|refine EPrim.add (q:=.i64) rfl rfl ?_);conv=>whnf)|fail)
  refine ESc.fam toldF h83 (⟨id,members,chunk,rows,log,heads⟩,_) hx (u:=.tup [.int .i64 0,.int .i64 8]) (by simp only [toldF,Zqh hM]) ?_;conv=>whnf
  exact .plain _ rfl
structure Lv where
 seq:Int
 stripe:Int
 blocks:Int
 par:Bool
 sure:Bool
 home:Bool
def Lv.c (x:Lv):List AV:=[.int .u32 x.seq,.int .i64 x.stripe,.int .i64 x.blocks,.bool x.par,.bool x.sure,.bool x.home]
structure Lv.ok (x:Lv):Prop where
 seq:Be x.seq
 stripe:Aa x.stripe
 blocks:Aa x.blocks
def EJ (L:List Lv):List AV:=L.flatMap Lv.c
theorem L8 (x:Lv) (L:List Lv):EJ (x::L)=x.c++EJ L:=rfl
theorem Qm:∀ (L:List Lv),(EJ L).length=L.length*6
 | []=>rfl
 | x::L=>by rw [L8,Zqn,Qm L,Zq3];show 6+_=_;omega
theorem Vt:∀ (L:List Lv) (i:Nat),(EJ L).drop (i*6)=EJ (L.drop i)
 | L,0=>by simp
 | [],i+1=>by simp [EJ]
 | x::L,i+1=>by
  rw [List.drop_succ_cons,← Vt L i,L8,show (i+1)*6=x.c.length+i*6 by show (i+1)*6=6+i*6;omega,List.drop_append,Zq5 (by omega),List.nil_append]
  congr 1;omega
variable {L:List Lv}
theorem Q8 {i:Nat}(h:i<L.length):Bg 6 ((EJ L).drop (i*6))=some L[i].c:=by
 rw [Vt,Zqw h,L8];rfl
theorem Ra:∀ {L M:List Lv},EJ L=EJ M→L=M
 | [],[],_=>rfl
 | [],y::M,h=>by cases h
 | x::L,[],h=>by cases h
 | x::L,y::M,h=>by
  obtain ⟨a,b,c,d,e,f⟩:=x
  obtain ⟨a',b',c',d',e',f'⟩:=y
  rw [L8,L8] at h
  simp [Lv.c] at h
  obtain ⟨rfl,rfl,rfl,rfl,rfl,rfl,h⟩:=h
  rw [Ra h]
structure Log where
 age:Int
 seq:Int
 tail:Int
 used:Int
 live:List Lv
structure Log.ok (l:Log):Prop where
 age:Be l.age
 seq:Be l.seq
 tail:Aa l.tail
 used:Aa l.used
 live:∀ x ∈ l.live,x.ok
 len:l.live.length≤1000
def Log.c (l:Log) (v:AV):List AV:=[.int .u32 l.age,.int .u32 l.seq,.int .i64 l.tail,.int .i64 l.used,v]
def LSl (L:List Lv) (v:AV):Prop:=Sl 6 L.length (EJ L) v
theorem LSl.inj {M:List Lv}{v:AV}(h:LSl L v) (k:LSl M v):L=M:=by
 refine Ra ?_
 rcases h with ⟨rfl,_,h⟩|⟨rfl,_,h⟩|⟨c,rfl,h⟩
 ·rcases k with ⟨_,_,k⟩|⟨e,_⟩|⟨c,e,_⟩
  ·rw [h,k]
  ·cases e
  ·cases e
 ·rcases k with ⟨e,_⟩|⟨_,_,k⟩|⟨c,e,_⟩
  ·cases e
  ·rw [h,k]
  ·cases e
 ·rcases k with ⟨e,_⟩|⟨e,_⟩|⟨c,e,_⟩
  ·cases e
  ·cases e
  ·injection e with _ _ e
structure Ring where
 l:Log
 c:Cfg
structure Ring.ok (r:Ring):Prop where
 l:r.l.ok
 c:r.c.ok
def Ring.cs (r:Ring) (v:AV):List AV:=r.l.c v++r.c.c
def KM (c:AV) (es:List (AV×AV×Nat)) (ks:List Int):Prop:=es.map (fun e=>(e.1,e.2.1))=ks.map (fun k=>(AV.int .i64 k,c))
theorem KM.nil (c:AV):KM c [] []:=rfl
theorem KM.cons {c:AV}{e:AV×AV×Nat}{es:List (AV×AV×Nat)}{ks:List Int}(h:KM c (e::es) ks):∃ k l,ks=k::l∧e.1=.int .i64 k∧e.2.1=c∧KM c es l:=by
 cases ks with
 | nil=>cases h
 | cons k l=>
  unfold KM at h
  simp at h
  exact ⟨k,l,rfl,h.1.1,h.1.2,h.2⟩
theorem KM.length {c:AV}:∀ {es:List (AV×AV×Nat)}{ks:List Int},KM c es ks→es.length=ks.length:=fun h=>by
 have:=congrArg List.length h;simpa using this
theorem N8 (a b:Int):ET (.int .i64 a) (.int .i64 b)=some (a == b):=by
 show cond (Cd .i64 .i64) (some (Dw a b)) none=_
 rw [FI];rfl
theorem KM.find {c:AV}{k:Int}:∀ {es:List (AV×AV×Nat)}{ks:List Int},KM c es ks→CF (.int .i64 k) es=some (if k ∈ ks then some c else none)
 | [],ks,h=>by
  have:=h.length;simp at this
  have:ks=[]:=Zq7.1 this.symm
  subst this;rfl
 | (a,b,n)::es,ks,h=>by
  obtain ⟨k',l,rfl,e1,e2,h'⟩:=h.cons
  dsimp only at e1 e2
  subst e1 e2
  show (match ET (.int .i64 k) (.int .i64 k') with|some true=>some (some b)|some false=>CF (.int .i64 k) es|none=>none)=_
  rw [N8]
  by_cases hk:k=k'
  ·subst hk;simp
  ·rw [show (k == k')=false by simpa using hk]
   simp only
   rw [KM.find h'];simp [hk]
theorem KM.set {c:AV}{k:Int}:∀ {es:List (AV×AV×Nat)}{ks:List Int},KM c es ks→KM c (Hk (.int .i64 k) c es) ks
 | [],ks,h=>h
 | (a,b,n)::es,ks,h=>by
  obtain ⟨k',l,rfl,e1,e2,h'⟩:=h.cons
  dsimp only at e1 e2
  subst e1 e2
  show KM b (match ET (.int .i64 k) (.int .i64 k') with|some true=>(.int .i64 k,b,n)::es|_=>(.int .i64 k',b,n)::Hk (.int .i64 k) b es) _
  rw [N8]
  by_cases hk:k=k'
  ·subst hk;simp;exact h
  ·rw [show (k == k')=false by simpa using hk]
   simp only
   have:=KM.set (k:=k) h'
   unfold KM at this ⊢
   simp [this]
theorem KM.app {c:AV}{k:Int}{n:Nat}{es:List (AV×AV×Nat)}{ks:List Int}(h:KM c es ks):KM c (es++[(.int .i64 k,c,n)]) (ks++[k]):=by
 unfold KM at h ⊢;simp [h]
theorem KM.del {c:AV}{k:Int}:∀ {es:List (AV×AV×Nat)}{ks:List Int},KM c es ks→KM c (EY (.int .i64 k) es) (ks.erase k)
 | [],ks,h=>by
  have:=h.length;simp at this
  have:ks=[]:=Zq7.1 this.symm
  subst this;exact KM.nil c
 | (a,b,n)::es,ks,h=>by
  obtain ⟨k',l,rfl,e1,e2,h'⟩:=h.cons
  dsimp only at e1 e2
  subst e1 e2
  show KM b (match ET (.int .i64 k) (.int .i64 k') with|some true=>es|_=>(.int .i64 k',b,n)::EY (.int .i64 k) es) _
  rw [N8,List.erase_cons]
  by_cases hk:k=k'
  ·subst hk;simp;exact h'
  ·rw [show (k == k')=false by simpa using hk,show (k' == k)=false by simpa using fun e=>hk e.symm]
   simp only
   have:=KM.del (k:=k) h'
   unfold KM at this ⊢
   simp [this]
def Dh (k:Int) (l:List Int):List Int:=if k ∈ l then l else l++[k]
section
variable {t:AT}{s:St}{q:AV→St→Prop}{x y z:AO}
variable {c:AV}{r n:Nat}{k:Int}{es:List (AV×AV×Nat)}{ks:List Int}
theorem IG (hx:ev x t=.some (.map r)) (hy:ev y t=.some (.int .i64 k)) (hz:ev z t=.some c) (hs:s.get r=some (.map es n)) (hk:KM c es ks)
 (h:∀ es' n',KM c es' (Dh k ks)→q (.tup []) (s.put r (.map es' n'))):EPrim (.mset x y z) t s q:=by
 by_cases hm:k ∈ ks
 ·refine EPrim.mk (v:=.tup []) (s':=s.put r (.map (Hk (.int .i64 k) c es) n)) (fun e rec=>?_) (h _ _ (by unfold Dh;rw [Zqd hm];exact hk.set))
  show wth x t _=_;unfold wth;rw [hx]
  show wth y t _=_;unfold wth;rw [hy]
  show wth z t _=_;unfold wth;rw [hz]
  show (Option.rec .fail _ (mapAt r s):RV)=_
  unfold mapAt;rw [hs]
  show (Option.rec .fail _ (CF (.int .i64 k) es):RV)=_
  rw [hk.find,Zqd hm]
 ·refine EPrim.mk (v:=.tup []) (s':=s.put r (.map (es++[(.int .i64 k,c,n)]) (n+1))) (fun e rec=>?_) (h _ _ (by unfold Dh;rw [Zqh hm];exact hk.app))
  show wth x t _=_;unfold wth;rw [hx]
  show wth y t _=_;unfold wth;rw [hy]
  show wth z t _=_;unfold wth;rw [hz]
  show (Option.rec .fail _ (mapAt r s):RV)=_
  unfold mapAt;rw [hs]
  show (Option.rec .fail _ (CF (.int .i64 k) es):RV)=_
  rw [hk.find,Zqh hm]
  show RV.ok _ (s.put r (.map (Ba es [(.int .i64 k,c,n)]) (n+1)))=_
  rw [Db]
theorem Z8 (hx:ev x t=.some (.map r)) (hy:ev y t=.some (.int .i64 k)) (hs:s.get r=some (.map es n)) (hk:KM c es ks)
 (h:∀ es' n',KM c es' (ks.erase k)→q (.tup []) (s.put r (.map es' n'))):EPrim (.mdel x y) t s q:=by
 refine EPrim.mk (v:=.tup []) (s':=s.put r (.map (EY (.int .i64 k) es) n)) (fun e rec=>?_) (h _ _ hk.del)
 show wth x t _=_;unfold wth;rw [hx]
 show wth y t _=_;unfold wth;rw [hy]
 show (Option.rec .fail _ (mapAt r s):RV)=_
 unfold mapAt;rw [hs]
 show (Option.rec .fail _ (CF (.int .i64 k) es):RV)=_
 rw [hk.find]
theorem IH {zv:AV}(hx:ev x t=.some (.map r)) (hy:ev y t=.some (.int .i64 k)) (hs:s.get r=some (.map es n)) (hk:KM c es ks)
 (h1:k ∈ ks→q c s) (h2:k ∉ ks→q zv s):EPrim (.mget zv false x y) t s q:=by
 by_cases hm:k ∈ ks
 ·refine EPrim.mk (v:=c) (s':=s) (fun e rec=>?_) (h1 hm)
  show wth x t _=_;unfold wth;rw [hx]
  show wth y t _=_;unfold wth;rw [hy]
  show (Option.rec .fail _ (mapAt r s):RV)=_
  unfold mapAt;rw [hs]
  show (Option.rec .fail _ (CF (.int .i64 k) es):RV)=_
  rw [hk.find,Zqd hm];rfl
 ·refine EPrim.mk (v:=zv) (s':=s) (fun e rec=>?_) (h2 hm)
  show wth x t _=_;unfold wth;rw [hx]
  show wth y t _=_;unfold wth;rw [hy]
  show (Option.rec .fail _ (mapAt r s):RV)=_
  unfold mapAt;rw [hs]
  show (Option.rec .fail _ (CF (.int .i64 k) es):RV)=_
  rw [hk.find,Zqh hm];rfl
theorem Z9 (hx:ev x t=.some (.map r)) (hs:s.get r=some (.map es n)) (hk:KM c es ks)
 (h:q (.int .i64 (ks.length:Int)) s):EPrim (.lenm x) t s q:=by
 refine EPrim.mk (v:=.int .i64 (ks.length:Int)) (s':=s) (fun e rec=>?_) h
 show wth x t _=_;unfold wth;rw [hx]
 show (Option.rec .fail _ (mapAt r s):RV)=_
 unfold mapAt;rw [hs]
 show RV.ok (Cu (A6 es)) s=_
 rw [CN,hk.length];rfl
end
theorem DL {c:AV}{n:Nat}(hc:bd n c=true):∀ {es:List (AV×AV×Nat)}{ks:List Int},KM c es ks→IB n es=true
 | [],ks,h=>rfl
 | (a,b,m)::es,ks,h=>by
  obtain ⟨k',l,rfl,e1,e2,h'⟩:=h.cons
  dsimp only at e1 e2
  subst e1 e2
  show (true && bd n b && IB n es)=true
  rw [hc,DL hc h'];rfl
theorem DI {c:AV}{ρ:Nat→Nat}(hc:AY ρ c=c):∀ {es:List (AV×AV×Nat)}{ks:List Int},KM c es ks→BV ρ es=es
 | [],ks,h=>rfl
 | (a,b,m)::es,ks,h=>by
  obtain ⟨k',l,rfl,e1,e2,h'⟩:=h.cons
  dsimp only at e1 e2
  subst e1 e2
  show (AV.int .i64 k',AY ρ b,m)::BV ρ es=_
  rw [DI hc h',hc]
def Iu (l:List Int) (x:Lv):List Int:=if x.par then (Dh x.stripe l).erase x.stripe else Dh x.stripe l
def CB (L:List Lv):List Int:=L.foldl Iu []
def Zjo:AC:=match Pw with|.mk c _=>c
variable {l cs:List AV}
theorem A7 {n:Nat}{k:List AV→Prop}(h:Bg n l=some cs) (hk:k cs):ETake n l k:=by
 unfold ETake;exact ⟨cs,h,hk⟩
theorem Zci (e:Env) (hE:EM P e) (r:Ring) (hr:r.ok) (v:AV) (hv:LSl r.l.live v) (Q:AV→St→Prop) (k:∀ s,Q (.int .i64 ((CB r.l.live).length:Int)) s):
 VW P e 0 Zjo (Ah [.fp (r.cs v)] 0 .lf) St0 none [] (BW [.tmp 2] Q):=by
 obtain ⟨L,hL⟩:∃ L,L=r.l.live:=⟨_,rfl⟩
 rw [← hL] at hv k
 have hlen:L.length≤1000:=by rw [hL];exact hr.l.len
 conv=>whnf
 refine Ap ?_;conv=>whnf
 refine Ai hv ?_;conv=>whnf
 refine LT (α:=Nat×List (AV×AV×Nat)×Nat) (fun x=>[(3,.map 0),(11,v),(12,.int .i64 (L.length:Int)),(13,.int .i64 (x.1:Int))]) (fun x=>[.map x.2.1 x.2.2]) (fun x=>L.length-x.1)
  (fun x=>x.1≤L.length∧KM (.bool true) x.2.1 (CB (L.take x.1))) (0,[],0) [0] ⟨Zqs _,KM.nil _⟩ ⟨by decide,⟨r9,t9 hv.hf,r9,r9,trivial⟩,⟨r9,trivial⟩⟩ ?_
 rintro ⟨i,es,n⟩ ⟨hi,hK⟩
 dsimp only at hi hK ⊢
 refine Cy hE ?_;conv=>whnf
 refine Bb rfl rfl (fun h=>?_) (fun h=>?_) <;> conv=>whnf
 ·have hlt:i<L.length:=by omega
  refine Cr rfl hv rfl hlt ?_;conv=>whnf
  refine A7 (Q8 hlt) ?_
  have hst:CB (L.take (i+1))=Iu (CB (L.take i)) L[i]:=by
   rw [Zqm hlt];unfold CB;rw [List.foldl_append];rfl
  revert hst
  generalize L[i]=x
  obtain ⟨sq,st,bl,pa,su,ho⟩:=x
  intro hst
  have fin:∀ t s es' n',KM (.bool true) es' (CB (L.take (i+1)))→t.get 3=some (.map 0)→t.get 11=some v→t.get 12=some (.int .i64 (L.length:Int))→t.get 13=some (.int .i64 ((i:Int)+1))→s.get 0=some (.map es' n')→
   ([]:List Nat)=[]∧∃ x':Nat×List (AV×AV×Nat)×Nat,(x'.1≤L.length∧KM (.bool true) x'.2.1 (CB (L.take x'.1)))∧L.length-x'.1<L.length-i∧∃ rs,Abs t s [(3,.map 0),(11,v),(12,.int .i64 (L.length:Int)),(13,.int .i64 (x'.1:Int))] [.map x'.2.1 x'.2.2] rs:=by
   intro t s es' n' hK h3 h11 h12 h13 g0
   refine ⟨rfl,(i+1,es',n'),⟨hlt,hK⟩,by simp;omega,[0],⟨by decide,⟨⟨rfl,h3⟩,⟨Dd _ hv.hf,by rw [CO _ hv.hf];exact h11⟩,⟨rfl,h12⟩,⟨rfl,h13⟩,trivial⟩,⟨⟨DL rfl hK,?_⟩,trivial⟩⟩⟩
   show _=some (AObj.map (BV _ es') n');rw [DI rfl hK];exact g0
  conv=>whnf
  refine IG rfl rfl rfl rfl hK (fun es' n' hK'=>?_)
  cases pa with
  | true=>
   conv=>whnf
   refine Z8 rfl rfl rfl hK' (fun es'' n'' hK''=>?_);conv=>whnf
   repeat' (first|((first|refine v7 ?_|refine ⟨rfl,?_⟩);conv=>whnf)|fail)
   refine (fin _ _ es'' n'' (by rw [hst];exact hK'') ?_ ?_ ?_ ?_ ?_).2 <;> rfl
  | false=>
   conv=>whnf
   repeat' (first|((first|refine v7 ?_|refine ⟨rfl,?_⟩);conv=>whnf)|fail)
   refine (fin _ _ es' n' (by rw [hst];exact hK') ?_ ?_ ?_ ?_ ?_).2 <;> rfl
 ·have:L.take i=L:=Zqi (by omega)
  rw [this] at hK
  refine Z9 rfl rfl hK ?_;conv=>whnf
  exact k _
structure RAt (s:St) (a:AV) (r:Ring) (v:AV):Prop where
 frz:Frz s a (.fp (r.cs v))
 sl:LSl r.l.live v
 ok:r.ok
def atom:AV→Bool
 | .int ..=>true
 | .bool _=>true
 | _=>false
variable {s:St}{x u:AV}
theorem Frz.atom (h:Frz s x u) (ha:atom u=true):x=u:=by
 cases h with
 | plain _ _=>rfl
 | sl _ _ _ _ _ _ _ _ _=>cases ha
 | ptr _ _ _ _ _ _=>cases ha
 | agg _ _ _=>cases ha
 | tup _ _ _=>cases ha
 | fn _ _ _ _ _ _ _=>cases ha
theorem Q1 {s:St}:∀ {l us:List AV},All2 (Frz s) l us→(∀ u ∈ us,AM.atom u=true)→l=us
 | _,_,.nil,_=>rfl
 | _,_,.cons a b,h=>by rw [a.atom (h _ (by simp)),Q1 b (fun u hu=>h u (by simp [hu]))]
theorem Frz.of_hf (h:Frz s x u) (hx:AM.hf x=true):(∀ l,x≠.agg l)→(∀ l,x≠.tup l)→(∀ f a b,x≠.fn f a b)→u=x:=by
 cases h with
 | plain _ _=>intros;rfl
 | sl _ _ _ _ _ _ _ _ _=>cases hx
 | ptr _ _ _ _ _ _=>cases hx
 | agg l _ _=>intro h;exact absurd rfl (h l)
 | tup l _ _=>intro _ h;exact absurd rfl (h l)
 | fn f a b _ _ _ _=>intro _ _ h;exact absurd rfl (h f a b)
variable {L:List Lv}
theorem VH:∀ u ∈ EJ L,atom u=true:=by
 induction L with
 | nil=>intro u h;cases h
 | cons x L ih=>
  intro u h
  rcases Zq1.1 (show u ∈ x.c++EJ L from h) with h|h
  ·simp [Lv.c] at h
   rcases h with rfl|rfl|rfl|rfl|rfl|rfl <;> rfl
  ·exact ih u h
theorem Vh {l':List AV}{o:Nat}(h:∀ (i:Nat) x,l[i]?=some x→cs[o+i]?=some x) (h':∀ (i:Nat) x,l'[i]?=some x→cs[o+i]?=some x) (hl:l.length=l'.length):l=l':=by
 refine List.ext_getElem? fun i=>?_
 by_cases hi:i<l.length
 ·have h1:=h i _ (Zp9 hi)
  have h2:=h' i _ (Zp9 (l:=l') (i:=i) (by omega))
  rw [Zp9 hi,Zp9 (l:=l') (i:=i) (by omega),← h1,← h2]
 ·rw [Zsa (by omega),Zsa (by omega)]
variable {v v':AV}
theorem Frz.live {L':List Lv}(h:Frz s x v) (h':Frz s x v') (hv:LSl L v) (hv':LSl L' v'):L=L':=by
 rcases hv with ⟨rfl,e1,e2⟩|⟨rfl,e1,e2⟩|⟨c,rfl,e2⟩
 ·have hx:x=.nils:=by cases h;rfl
  subst hx
  have:=h'.of_hf rfl (by simp) (by simp) (by simp)
  subst this
  exact LSl.inj (.inl ⟨rfl,e1,e2⟩) hv'
 ·have hx:x=.es:=by cases h;rfl
  subst hx
  have:=h'.of_hf rfl (by simp) (by simp) (by simp)
  subst this
  exact LSl.inj (.inr (.inl ⟨rfl,e1,e2⟩)) hv'
 ·cases h with
  | plain _ hh=>
   have:=h'.of_hf rfl (by simp) (by simp) (by simp)
   subst this
   exact LSl.inj (.inr (.inr ⟨c,rfl,e2⟩)) hv'
  | sl r o n cap cap' e cs l us h1 h2 h3 h4=>
   have hl1:=Q1 h3 VH
   cases h' with
   | plain _ hh=>cases hh
   | sl _ _ _ _ cap2 e2' cs2 l2 us2 g1 g2 g3 g4=>
    rw [h1] at g1;cases g1
    rcases hv' with ⟨q,_⟩|⟨q,_⟩|⟨c2,q,q2⟩
    ·cases q
    ·cases q
    ·injection q with q0 _ q3
     subst q3
     have hl2:=Q1 g3 VH
     rw [hl1] at h2;rw [hl2] at g2
     refine Ra (Vh h2 g2 ?_)
     rw [Qm,Qm,q0]
theorem NK:∀ {l:List AV},hfs l=true→All2 (Frz s) l l
 | [],_=>.nil
 | x::l,h=>by
  simp only [hfs,Zqb] at h
  exact .cons (.plain _ h.1) (NK h.2)
theorem Vy (r:Ring) (h:LSl r.l.live v):hfs (r.cs v)=true:=by
 show (true && (true && (true && (true && (AM.hf v && (true && (true && (true && (true && (true && (true && true)))))))))))=true
 rw [h.hf];rfl
theorem RAt.inj {a:AV}{r r':Ring}(h:RAt s a r v) (h':RAt s a r' v'):r=r':=by
 have key:∀ (l:List AV),All2 (Frz s) l (r.cs v)→All2 (Frz s) l (r'.cs v')→r=r':=by
  intro l g g'
  obtain ⟨⟨ag,sq,tl,us,lv⟩,⟨i1,i2,i3,i4,i5,i6⟩⟩:=r
  obtain ⟨⟨ag',sq',tl',us',lv'⟩,⟨j1,j2,j3,j4,j5,j6⟩⟩:=r'
  cases g with|cons a1 g=>cases g with|cons a2 g=>cases g with|cons a3 g=>cases g with|cons a4 g=>cases g with|cons a5 g=>cases g with|cons a6 g=>cases g with|cons a7 g=>cases g with|cons a8 g=>cases g with|cons a9 g=>cases g with|cons a10 g=>cases g with|cons a11 g=>
  cases g' with|cons b1 g'=>cases g' with|cons b2 g'=>cases g' with|cons b3 g'=>cases g' with|cons b4 g'=>cases g' with|cons b5 g'=>cases g' with|cons b6 g'=>cases g' with|cons b7 g'=>cases g' with|cons b8 g'=>cases g' with|cons b9 g'=>cases g' with|cons b10 g'=>cases g' with|cons b11 g'=>
  have c1:=(a1.atom rfl).symm.trans (b1.atom rfl)
  have c2:=(a2.atom rfl).symm.trans (b2.atom rfl)
  have c3:=(a3.atom rfl).symm.trans (b3.atom rfl)
  have c4:=(a4.atom rfl).symm.trans (b4.atom rfl)
  have c5:=a5.live b5 h.sl h'.sl
  have c6:=(a6.atom rfl).symm.trans (b6.atom rfl)
  have c7:=(a7.atom rfl).symm.trans (b7.atom rfl)
  have c8:=(a8.atom rfl).symm.trans (b8.atom rfl)
  have c9:=(a9.atom rfl).symm.trans (b9.atom rfl)
  have c10:=(a10.atom rfl).symm.trans (b10.atom rfl)
  have c11:=(a11.atom rfl).symm.trans (b11.atom rfl)
  injection c1 with _ c1;injection c2 with _ c2;injection c3 with _ c3;injection c4 with _ c4;injection c6 with _ c6;injection c7 with _ c7;injection c8 with _ c8;injection c9 with _ c9;injection c10 with _ c10;injection c11 with _ c11
  dsimp only at c1 c2 c3 c4 c5 c6 c7 c8 c9 c10 c11
  subst c1 c2 c3 c4 c5 c6 c7 c8 c9 c10 c11;rfl
 have hf1:=h.frz
 have hf2:=h'.frz
 generalize hu:r.cs v=us at hf1
 generalize hu':r'.cs v'=us' at hf2
 cases hf1 with
 | plain _ hh=>
  have:=hf2.of_hf rfl (by simp) (by simp) (by simp)
  injection this with this
  subst this
  have H:=Vy r h.sl
  refine key (r.cs v) (NK H) ?_
  rw [hu',← hu]
  exact NK H
 | ptr q o e cs l us h1 h2 h3=>
  cases hf2 with
  | ptr _ _ e2 cs2 l2 us2 g1 g2 g3=>
   rw [h1] at g1;cases g1
   subst hu hu'
   have:l=l2:=Vh h2 g2 (by rw [h3.length,g3.length];rfl)
   subst this
   exact key l h3 g3
mutual
theorem Sc:∀ (v:AV),sc v=true→AM.hf v=true
 | .ptr ..,h=>by cases h
 | .sl ..,h=>by cases h
 | .map ..,h=>by cases h
 | .yld ..,h=>by cases h
 | .fz ..,h=>by cases h
 | .fp ..,h=>by cases h
 | .fn f a b,h=>by
  simp only [sc,Zqb] at h
  simp only [AM.hf,Zqb]
  exact ⟨LF a h.1,LF b h.2⟩
 | .iface t v,h=>Sc v h
 | .agg l,h=>LF l h
 | .tup l,h=>LF l h
 | .bool _,_|.int _ _,_|.str _,_|.nilp,_|.nils,_|.es,_|.ez,_|.nilm,_|.nilf,_|.nili,_|.any,_=>rfl
theorem LF:∀ (l:List AV),I9 l=true→AM.hfs l=true
 | [],_=>rfl
 | v::l,h=>by
  simp only [I9,Zqb] at h
  simp only [AM.hfs,Zqb]
  exact ⟨Sc v h.1,LF l h.2⟩
end
noncomputable def CC (p:Ring→Prop) (g:Ring→AV):Ov:=fun args s=>open Classical in if h:∃ r a v,args=[a]∧RAt s a r v∧p r then .ok (g (Classical.choose h)) s else .fail
variable {p:Ring→Prop}{g:Ring→AV}{v:AV}{s:St}{r:Ring}
theorem N4 {a:AV}(h:RAt s a r v) (hp:p r):CC p g [a] s=.ok (g r) s:=by
 have hx:∃ r a' v,[a]=[a']∧RAt s a' r v∧p r:=⟨r,a,v,rfl,h,hp⟩
 unfold CC
 rw [dif_pos hx]
 obtain ⟨a',v',e,h',_⟩:=Zro hx
 injection e with e
 subst e
 rw [RAt.inj h h']
theorem NG {f:Nat}(hb:FG P f) (hg:∀ r,sc (g r)=true) (h:∀ r v,r.ok→p r→LSl r.l.live v→C P f [.fp (r.cs v)] St0 (fun u s'=>u=g r)):OvOk P f (CC p g):=by
 refine ⟨hb,fun args s u s' hh=>?_⟩
 unfold CC at hh
 split at hh
 ·rename_i hx
  cases hh
  obtain ⟨a,v,rfl,hr,hp⟩:=Zro hx
  have H2:hfs [AV.fp (Ring.cs (Classical.choose hx) v)]=true:=rfl
  exact Kz (.cons hr.frz .nil) (hg _) (IS H2 ((h _ v hr.ok hp hr.sl).mono fun u s' e=>by
   rw [e];exact Frz.plain _ (Sc _ (hg (Classical.choose hx)))))
 ·cases hh
theorem RAt.fp (hv:LSl r.l.live v) (hr:r.ok):RAt s (.fp (r.cs v)) r v:=⟨.plain _ rfl,hv,hr⟩
def Es (tk:List Int) (x:Lv):List Int:=if x.home && x.par then Dh x.stripe tk else tk
def G6 (tk:List Int) (x:Lv):Bool:=x.home && (!x.sure || !decide (x.stripe ∈ Es tk x))
def Ij:List Lv→List Int→Bool
 | [],_=>true
 | x::l,tk=>!G6 tk x && Ij l (Es tk x)
def Eo (L:List Lv):Bool:=Ij L.reverse []
def Rq:AC:=match P1 with|.mk c _=>c
def Fq:AC→Option (AC×AC)
 | .rng _ _ a b=>some (a,b)
 | .seq a b=>match Fq a with|some x=>some x|none=>Fq b
 | .block _ b=>Fq b
 | .loop b=>Fq b
 | _=>none
def OA:AC:=match Fq Rq with|some (a,_)=>a|none=>.skip
def Oh:AC:=match Fq Rq with|some (_,b)=>b|none=>.skip
noncomputable def Mn:AT:=A5 [(2,.ptr 0 0),(3,.ptr 2 0),(12,.fn 155 [] [.ptr 3 0])]
def Rm:AC:=match PP with|.mk c _=>c
theorem Sl.cells {es n:Nat}{l:List AV}(h:Sl es n l v):cellsOf v=[v]:=by
 rcases h with ⟨rfl,_⟩|⟨rfl,_⟩|⟨c,rfl,_⟩ <;> rfl
theorem Zcb (e:Env) (hE:EM P e) (h159:Inl e 111 Rm [.tmp 2]) (r:Ring) (hr:r.ok) (v:AV) (hv:LSl r.l.live v) (Q:AV→St→Prop) (k:∀ s,Q (.bool (Eo r.l.live)) s):
 VW P e 0 Rq (Ah [.fp (r.cs v)] 0 .lf) St0 none [] (BW [.cell 2] Q):=by
 obtain ⟨L,hL⟩:∃ L,L=r.l.live:=⟨_,rfl⟩
 rw [← hL] at hv k
 have hlen:L.length≤1000:=by rw [hL];exact hr.l.len
 conv=>whnf
 refine Ap ?_;conv=>whnf
 refine ESc.inl h159 ?_;conv=>whnf
 refine Dy (by show Nat.beq (A6 (cellsOf v)) 1=true;rw [hv.cells];rfl) ?_
 rw [hv.cells]
 conv=>whnf
 refine W.abs [(2,.ptr 0 0),(3,.ptr 2 0),(12,.fn 155 [] [.ptr 3 0])] [.row 4 [.bool false],.map [] 0,.row 177 [.map 1],.row 28 [v]] [0,1,2,3] ⟨by decide,⟨r9,r9,r9,trivial⟩,⟨r9,r9,r9,⟨?_,?_⟩,trivial⟩⟩ ?_
 ·show (bd _ v && true)=true;rw [Dd _ hv.hf];rfl
 ·show _=some (AObj.row 28 [AY _ v]);rw [CO _ hv.hf];rfl
 refine OC (f:=155) (first:=[]) (cap:=[.ptr 3 0]) g155.b rfl ?_ ?_
 ·intro q hq
  have hq:q<4:=hq
  have n2:Named (A5 [(2,.ptr 0 0),(3,.ptr 2 0),(12,.fn 155 [] [.ptr 3 0])]) (Al St0 [.row 4 [.bool false],.map [] 0,.row 177 [.map 1],.row 28 [v]]) 2:=.tmp 3 (.ptr 2 0) rfl rfl
  rcases q with _|_|_|_|q
  ·exact .tmp 2 (.ptr 0 0) rfl rfl
  ·exact .cell 2 177 [.map 1] 0 (.map 1) n2 rfl rfl rfl
  ·exact n2
  ·exact .tmp 12 (.fn 155 [] [.ptr 3 0]) rfl rfl
  ·omega
 show C1 P 155 [.yld 5,.ptr 3 0] (Al St0 [.row 4 [.bool false],.map [] 0,.row 177 [.map 1],.row 28 [v],.defd,.loop .ready none 0 Mn [13,14] OA Oh 4]) (fun _ s'=>Kw 5 [4] Mn s' _)
 refine C1.of_G hE g155 ?_;conv=>whnf
 refine Ai hv ?_;conv=>whnf
 repeat' (first|(refine v8 ?_;conv=>whnf)|fail)
 refine WC (α:=Nat×List Int×List (AV×AV×Nat)×Nat) (fun x=>[(0,.yld 5),(1,.ptr 3 0),(3,.int .i64 ((x.1:Int)-1))]) (fun x=>[.row 4 [.bool false],.map x.2.2.1 x.2.2.2,.row 177 [.map 1],.row 28 [v],.defd,.loop .ready none 0 Mn [13,14] OA Oh 4]) (fun x=>x.1)
  (fun x=>x.1≤L.length∧KM (.int .i64 1) x.2.2.1 x.2.1∧Eo L=Ij (L.take x.1).reverse x.2.1) (L.length,[],[],0) [0,1,2,3,4,5] ⟨Zqu _,KM.nil _,by rw [List.take_length];rfl⟩ ?_ ?_
 ·refine ⟨rfl,by decide,⟨r9,r9,r9,trivial⟩,⟨r9,r9,r9,⟨?_,?_⟩,r9,r9,trivial⟩⟩
  ·show (bd _ v && true)=true;rw [Dd _ hv.hf];rfl
  ·show _=some (AObj.row 28 [AY _ v]);rw [CO _ hv.hf];rfl
 rintro ⟨j,tk,es,n⟩ ⟨hj,hK,hh⟩
 dsimp only at hj hK hh ⊢
 refine Cy hE ?_;conv=>whnf
 refine DF rfl rfl (fun h=>?_) (fun h=>?_) <;> conv=>whnf
 ·obtain ⟨i,rfl⟩:∃ i,j=i+1:=⟨j-1,by omega⟩
  have hlt:i<L.length:=by omega
  rw [show ((i+1:Nat):Int)-1=(i:Int) by omega]
  refine Cr rfl hv rfl hlt ?_;conv=>whnf
  refine A7 (Q8 hlt) ?_
  have hst:Eo L=(!G6 tk L[i] && Ij (L.take i).reverse (Es tk L[i])):=by
   rw [hh,Zqm hlt,List.reverse_append];rfl
  revert hst
  generalize L[i]=x
  obtain ⟨sq,st,bl,pa,su,ho⟩:=x
  intro hst
  conv=>whnf
  refine ERound.mk ?_
  have fin:∀ t s tk' es' n',Eo L=Ij (L.take i).reverse tk'→KM (.int .i64 1) es' tk'→t.get 0=some (.yld 5)→t.get 1=some (.ptr 3 0)→t.get 3=some (.int .i64 ((i:Int)-1))→s.get 0=some (.row 4 [.bool false])→s.get 1=some (.map es' n')→s.get 2=some (.row 177 [.map 1])→s.get 3=some (.row 28 [v])→s.get 4=some .defd→s.get 5=some (.loop .ready none 0 Mn [13,14] OA Oh 4)→
   ∃ x':Nat×List Int×List (AV×AV×Nat)×Nat,(x'.1≤L.length∧KM (.int .i64 1) x'.2.2.1 x'.2.1∧Eo L=Ij (L.take x'.1).reverse x'.2.1)∧x'.1<i+1∧∃ rs,AbsK 6 t s [(0,.yld 5),(1,.ptr 3 0),(3,.int .i64 ((x'.1:Int)-1))] [.row 4 [.bool false],.map x'.2.2.1 x'.2.2.2,.row 177 [.map 1],.row 28 [v],.defd,.loop .ready none 0 Mn [13,14] OA Oh 4] rs:=by
   intro t s tk' es' n' hh hK h0 h1 h3 g0 g1 g2 g3 g4 g5
   refine ⟨(i,tk',es',n'),⟨by simp;omega,hK,hh⟩,by simp,[0,1,2,3,4,5],rfl,by decide,⟨⟨rfl,h0⟩,⟨rfl,h1⟩,⟨rfl,h3⟩,trivial⟩,⟨⟨rfl,g0⟩,⟨DL rfl hK,?_⟩,⟨rfl,g2⟩,⟨?_,?_⟩,⟨rfl,g4⟩,⟨rfl,g5⟩,trivial⟩⟩
   ·show _=some (AObj.map (BV _ es') n');rw [DI rfl hK];exact g1
   ·show (bd _ v && true)=true;rw [Dd _ hv.hf];rfl
   ·show _=some (AObj.row 28 [AY _ v]);rw [CO _ hv.hf];exact g3
  cases ho <;> cases pa <;> cases su
  all_goals
   conv=>whnf
   repeat' (first|(refine IH rfl rfl rfl hK (fun hin=>?_) (fun hin=>?_) <;> conv=>whnf)|(refine IH rfl rfl rfl hK' (fun hin=>?_) (fun hin=>?_) <;> conv=>whnf)|((first|refine IG rfl rfl rfl rfl hK (fun es' n' hK'=>?_)|refine v8 ?_|refine An ?_|refine As ?_|refine ⟨rfl,?_⟩);conv=>whnf)|refine v5 ?_ ?_|(intro _;first|omega|conv=>whnf))
  all_goals first
   | (refine fin _ _ tk es n ?_ hK ?_ ?_ ?_ ?_ ?_ ?_ ?_ ?_ ?_ <;> first|rfl|(rw [hst];simp [G6,Es];done))
   | (refine fin _ _ tk es n ?_ hK ?_ ?_ ?_ ?_ ?_ ?_ ?_ ?_ ?_ <;> first|rfl|(rw [hst];simp [G6,Es,hin];done))
   | (refine fin _ _ _ es' n' ?_ hK' ?_ ?_ ?_ ?_ ?_ ?_ ?_ ?_ ?_ <;> first|rfl|(rw [hst];simp [G6,Es,hin];done))
   | ((suffices hF:Eo L=false by (rw [hF] at k;exact k _));rw [hst];simp [G6,Es];done)
   | ((suffices hF:Eo L=false by (rw [hF] at k;exact k _));rw [hst];simp [G6,Es,hin];done)
 ·have:j=0:=by omega
  subst this
  conv=>whnf
  have hT:Eo L=true:=by rw [hh];rfl
  rw [hT] at k
  exact k _
def Hu (_:Ring):Prop:=True
def G2 (r:Ring):Prop:=r.c.may
def O8 (r:Ring):AV:=.int .i64 ((CB r.l.live).length:Int)
def Kd (r:Ring):AV:=.bool (Eo r.l.live)
variable {e:Env}
theorem Zck (hE:EM P e):OvOk P 208 (CC Hu O8):=
 NG g208.b (fun r=>rfl) fun r v hr _ hv=>C.of_G hE g208 (Zci e hE r hr v hv _ (fun s=>rfl))
theorem Zcc (hE:EM P e) (h159:Inl e 111 Rm [.tmp 2]):OvOk P 187 (CC Hu Kd):=
 NG g187.b (fun r=>rfl) fun r v hr _ hv=>C.of_G hE g187 (Zcb e hE h159 r hr v hv _ (fun s=>rfl))
theorem Z1 (k:Int) (l:List Int):(Dh k l).length≤l.length+1:=by
 unfold Dh;split <;> simp
theorem Zd (l:List Int) (x:Lv):(Iu l x).length≤l.length+1:=by
 unfold Iu
 have:=Z1 x.stripe l
 split
 ·have h2:=List.length_erase_le (a:=x.stripe) (l:=Dh x.stripe l);omega
 ·exact this
theorem YT (L:List Lv):(CB L).length≤L.length:=by
 unfold CB
 have:∀ (L:List Lv) (l:List Int),(L.foldl Iu l).length≤l.length+L.length:=by
  intro L
  induction L with
  | nil=>intro l;simp
  | cons x L ih=>intro l;have:=ih (Iu l x);have:=Zd l x;simp at *;omega
 simpa using this L []
def ER (r:Ring):Bool:=decide (r.l.used≤r.c.log) && decide ((r.c.members+1)*((CB r.l.live).length:Int)≤IntKind.i64.wrap (r.c.log-r.l.used))
theorem Zd0 (hE:EM P e) (h53:Con e 185 needF.O) (h125:Con e 208 (CC Hu O8)):OvOk P 188 (CC G2 (fun r=>.bool (ER r))):=by
 refine NG g188.b (fun r=>rfl) fun r v hr hp hv=>C.of_G hE g188 ?_
 have hd:(CB r.l.live).length≤1000:=Nat.le_trans (YT _) hr.l.len
 have hM:r.c.may:=hp
 unfold G2 Cfg.may at hp
 have hv':=hr.c
 conv=>whnf
 refine A7 rfl ?_;conv=>whnf
 refine ESc.fam needF h53 r.c hv' (u:=.tup [.int .i64 (r.c.members+1),.int .i64 0]) (by simp [needF,hM]) ?_;conv=>whnf
 repeat' (first|((first|refine Ap ?_|refine EPrim.sub (q:=.i64) rfl rfl ?_|refine ESc.ov h125 (N4 (RAt.fp hv hr) trivial) ?_|refine Cl rfl rfl (DG (by omega) (by omega)) ?_|refine ⟨rfl,?_⟩);conv=>whnf)|refine v2 ?_ ?_|refine v4 ?_ ?_|(intro _;first|omega|conv=>whnf))
 all_goals
  show AV.bool _=AV.bool (ER r)
  unfold ER
  congr 1
  symm
  simp only [Zqb,Bool.and_eq_false_iff,Zq6,Zrf]
  omega
end Go.AM
namespace Go.AM
attribute [local irreducible] W
open X
def Oe:AC:=match P2 with|.mk c _=>c
def Xd:AC:=match PC with|.mk c _=>c
theorem Nq (e:Env) (s:St) (n:Int) (K:AV→St→Prop) (h:K (.bool (FY n)) s):VE e Oe (Ah [.int .u32 n] 0 .lf) s none [] (BW [.tmp 2] K):=by
 unfold FY at h
 conv=>whnf
 repeat' (first|refine v2 ?_ ?_|refine v4 ?_ ?_|(intro _;first|omega|conv=>whnf))
 ·rw [Zqe (by omega)] at h;exact h
 ·rw [Zqq (by omega)] at h;exact h
 ·rw [Zqq (by omega)] at h;exact h
def FM (r:Ring) (i:Nat) (sure:Bool) (x:Lv):Prop:=
 x.stripe<0∨r.c.chunk*r.c.rows≤x.stripe∨x.blocks<2∨r.c.members+1<x.blocks∨x.seq=0∨x.seq≠(r.l.seq-((r.l.live.length:Int)-i)) % 4294967296∨(x.sure=true∧sure=false)
instance (r:Ring) (i:Nat) (sure:Bool) (x:Lv):Decidable (FM r i sure x):=by unfold FM;infer_instance
def E4 (r:Ring):Nat→Int→Bool→List Lv→Option Int
 | _,u,_,[]=>some u
 | i,u,s,x::l=>if FM r i s x then none else E4 r (i+1) (u+x.blocks) x.sure l
def FT (r:Ring):Prop:=FY r.l.age=true∧FY r.l.seq=true∧0≤r.l.tail∧r.l.tail<r.c.log∧(r.l.live.length:Int)≤r.c.log∧r.l.used≤r.c.log
instance (r:Ring):Decidable (FT r):=by unfold FT;infer_instance
def En (r:Ring):Bool:=decide (FT r) && (match E4 r 0 0 true r.l.live with
 | none=>false
 | some u=>decide (u=r.l.used) && decide ((r.l.live.length:Int)<r.l.seq) && Eo r.l.live && ER r)
theorem Zbp (e:Env) (hE:EM P e) (h38:Con e 40 stripesF.O) (h53:Con e 185 needF.O) (h122:Inl e 186 Oe [.tmp 2]) (h123:Con e 187 (CC Hu Kd)) (h81:Con e 188 (CC G2 (fun r=>.bool (ER r)))) (r:Ring) (hr:r.ok) (hM:r.c.may) (v:AV) (hv:LSl r.l.live v) (Q:AV→St→Prop) (k:∀ s,Q (.bool (En r)) s):
 VW P e 0 Xd (Ah [.fp (r.cs v)] 0 .lf) St0 none [] (BW [.tmp 2] Q):=by
 have hp:=hM
 unfold Cfg.may at hp
 have hlog:=GF hM
 have hlen:=hr.l.len
 have kF:En r=false→∀ s,Q (.bool false) s:=fun h s=>by have:=k s;rw [h] at this;exact this
 have topF:¬ FT r→∀ s,Q (.bool false) s:=fun h=>kF (by unfold En;rw [Zqq h];rfl)
 conv=>whnf
 refine A7 rfl ?_;conv=>whnf
 refine ESc.fam stripesF h38 r.c hr.c (u:=.tup [.int .i64 (r.c.chunk*r.c.rows),.int .i64 0]) (by simp [stripesF,hM]) ?_;conv=>whnf
 refine A7 rfl ?_;conv=>whnf
 refine ESc.fam needF h53 r.c hr.c (u:=.tup [.int .i64 (r.c.members+1),.int .i64 0]) (by simp [needF,hM]) ?_;conv=>whnf
 refine Ap ?_;conv=>whnf
 refine ESc.inl h122 (Nq e _ r.l.age _ ?_)
 cases hA:FY r.l.age <;> conv=>whnf
 ·repeat' (first|(refine As ?_;conv=>whnf)|fail)
  exact topF (by unfold FT;rw [hA];simp) _
 repeat' (first|((first|refine Ap ?_|refine An ?_);conv=>whnf)|fail)
 refine ESc.inl h122 (Nq e _ r.l.seq _ ?_)
 cases hS:FY r.l.seq <;> conv=>whnf
 ·repeat' (first|(refine As ?_;conv=>whnf)|fail)
  exact topF (by unfold FT;rw [hS];simp) _
 repeat' (first|((first|refine Ap ?_|refine Ai hv ?_|refine An ?_);conv=>whnf)|refine v1 ?_ ?_|refine v3 ?_ ?_|refine v4 ?_ ?_|(intro _;first|omega|conv=>whnf))
 iterate 4 (exact topF (by unfold FT;omega) _)
 have hT:FT r:=by unfold FT;rw [hA,hS];exact ⟨rfl,rfl,by omega,by omega,by omega,by omega⟩
 obtain ⟨L,hL⟩:∃ L,L=r.l.live:=⟨_,rfl⟩
 have hokL:=hr.l.live
 have hB:En r=(match E4 r 0 0 true L with|none=>false|some u=>decide (u=r.l.used) && decide ((L.length:Int)<r.l.seq) && Eo L && ER r):=by
  unfold En;rw [Zqe hT,hL];rfl
 rw [← hL] at hlen hv hokL
 refine LT (α:=Nat×Int×Bool) (fun x=>[(0,.fp (r.cs v)),(3,.int .i64 (r.c.chunk*r.c.rows)),(5,.int .i64 (r.c.members+1)),(7,.int .i64 x.2.1),(8,.bool x.2.2),(95,v),(96,.int .i64 (L.length:Int)),(97,.int .i64 (x.1:Int))]) (fun x=>[]) (fun x=>L.length-x.1)
  (fun x=>x.1≤L.length∧E4 r 0 0 true L=E4 r x.1 x.2.1 x.2.2 (L.drop x.1)∧0≤x.2.1∧x.2.1≤17*(x.1:Int)) (0,0,true) [] ⟨Zqs _,rfl,Int.le_refl _,Int.le_refl _⟩ ⟨by decide,⟨r9,r9,r9,r9,r9,t9 hv.hf,⟨rfl,by rw [hL];rfl⟩,r9,trivial⟩,trivial⟩ ?_
 rintro ⟨i,u,sr⟩ ⟨hi,hI,hu0,hu1⟩
 dsimp only at hi hI hu0 hu1 ⊢
 refine Cy hE ?_;conv=>whnf
 refine Bb rfl rfl (fun h=>?_) (fun h=>?_) <;> conv=>whnf
 ·have hlt:i<L.length:=by omega
  refine Cr rfl hv rfl hlt ?_;conv=>whnf
  have hx6:=Q8 hlt
  have hx:=hokL L[i] (Zra hlt)
  rw [Zqw hlt] at hI
  revert hI hx hx6
  generalize L[i]=x
  obtain ⟨sq,st,bl,pa,su,ho⟩:=x
  intro hI hx6 hx
  refine A7 (cs:=[.int .u32 sq,.int .i64 st,.int .i64 bl,.bool pa,.bool su,.bool ho]) hx6 ?_
  have bad:FM r i sr ⟨sq,st,bl,pa,su,ho⟩→∀ s,Q (.bool false) s:=fun h=>kF (by rw [hB,hI];unfold E4;rw [Zqd h])
  have go:¬ FM r i sr ⟨sq,st,bl,pa,su,ho⟩→E4 r 0 0 true L=E4 r (i+1) (u+bl) su (L.drop (i+1)):=fun h=>by rw [hI];conv=>lhs;unfold E4;rw [Zqh h]
  have fin:¬ FM r i sr ⟨sq,st,bl,pa,su,ho⟩→∀ t s,t.get 0=some (.fp (r.cs v))→t.get 3=some (.int .i64 (r.c.chunk*r.c.rows))→t.get 5=some (.int .i64 (r.c.members+1))→t.get 7=some (.int .i64 (u+bl))→t.get 8=some (.bool su)→t.get 95=some v→t.get 96=some (.int .i64 (L.length:Int))→t.get 97=some (.int .i64 ((i:Int)+1))→
   ∃ x':Nat×Int×Bool,(x'.1≤L.length∧E4 r 0 0 true L=E4 r x'.1 x'.2.1 x'.2.2 (L.drop x'.1)∧0≤x'.2.1∧x'.2.1≤17*(x'.1:Int))∧L.length-x'.1<L.length-i∧∃ rs,Abs t s [(0,.fp (r.cs v)),(3,.int .i64 (r.c.chunk*r.c.rows)),(5,.int .i64 (r.c.members+1)),(7,.int .i64 x'.2.1),(8,.bool x'.2.2),(95,v),(96,.int .i64 (L.length:Int)),(97,.int .i64 (x'.1:Int))] [] rs:=by
   intro hnb t s h0 h3 h5 h7 h8 h95 h96 h97
   have hnb':=hnb
   unfold FM at hnb'
   dsimp only at hnb'
   refine ⟨(i+1,u+bl,su),⟨hlt,go hnb,by simp;omega,by simp;omega⟩,by simp;omega,[],⟨by decide,⟨⟨rfl,h0⟩,⟨rfl,h3⟩,⟨rfl,h5⟩,⟨rfl,h7⟩,⟨rfl,h8⟩,⟨Dd _ hv.hf,by rw [CO _ hv.hf];exact h95⟩,⟨rfl,h96⟩,⟨rfl,h97⟩,trivial⟩,trivial⟩⟩
  have hsq:0≤sq∧sq<4294967296:=hx.seq
  have hLL:L.length=r.l.live.length:=by rw [hL]
  rw [hL] at hlen hlt hi h
  have hv':=hv
  rw [hL] at hv'
  unfold FM at bad fin
  dsimp only at bad fin
  conv=>whnf
  repeat' (first|((first|refine Ap ?_|refine AA rfl hv' ?_|refine v7 ?_|refine v8 ?_|refine C5 ?_|refine CG ?_|refine ⟨rfl,?_⟩);conv=>whnf)|refine v1 ?_ ?_|refine v3 ?_ ?_|refine v4 ?_ ?_|refine v5 ?_ ?_|refine v6 ?_ ?_|(refine w19 rfl ?_ ?_ <;> intro hc <;> (try subst hc) <;> conv=>whnf)|(intro _;first|omega|conv=>whnf))
  iterate 6 (refine bad ?_ _;omega)
  ·cases sr
   ·repeat' (first|(refine As ?_;conv=>whnf)|fail)
    refine bad ?_ _;simp
   ·repeat' (first|((first|refine v7 ?_|refine An ?_|refine ⟨rfl,?_⟩);conv=>whnf)|fail)
    refine fin ?_ _ _ ?_ ?_ ?_ ?_ ?_ ?_ ?_ ?_ <;> first|rfl|(simp;omega)
  ·refine fin ?_ _ _ ?_ ?_ ?_ ?_ ?_ ?_ ?_ ?_ <;> first|rfl|(simp;omega)
 ·have hd:L.drop i=[]:=Zq5 (by omega)
  rw [hd] at hI
  rw [hI] at hB
  have hBu:En r=(decide (u=r.l.used) && decide ((L.length:Int)<r.l.seq) && Eo L && ER r):=by rw [hB];rfl
  have hseq:0≤r.l.seq∧r.l.seq<4294967296:=hr.l.seq
  have hRA:∀ s,RAt s (.fp (r.cs v)) r v:=fun s=>RAt.fp (by rw [← hL];exact hv) hr
  repeat' (first|((first|refine Ap ?_|refine Ai hv ?_|refine Cj ?_);conv=>whnf)|refine v3 ?_ ?_|refine v5 ?_ ?_|(intro _;first|omega|conv=>whnf))
  ·refine ESc.ov h123 (N4 (hRA _) trivial) ?_
   have hg:Kd r=.bool (Eo L):=by rw [hL];rfl
   rw [hg]
   cases hH:Eo L
   ·conv=>whnf
    exact kF (by rw [hBu,hH];simp) _
   ·conv=>whnf
    refine ESc.ov h81 (N4 (hRA _) hM) ?_
    cases hR:ER r
    ·conv=>whnf
     exact kF (by rw [hBu,hR];simp) _
    ·conv=>whnf
     have hT:En r=true:=by rw [hBu,hH,hR,Zqe (by omega),Zqe (by omega)];rfl
     rw [hT] at k;exact k _
  ·exact kF (by rw [hBu,Zqq (p:=(L.length:Int)<r.l.seq) (by omega)];simp) _
  ·exact kF (by rw [hBu,Zqq (p:=u=r.l.used) (by omega)];simp) _
variable {e:Env}
theorem Zbq (hE:EM P e) (h38:Con e 40 stripesF.O) (h53:Con e 185 needF.O) (h122:Inl e 186 Oe [.tmp 2]) (h123:Con e 187 (CC Hu Kd)) (h81:Con e 188 (CC G2 (fun r=>.bool (ER r)))):OvOk P 149 (CC G2 (fun r=>.bool (En r))):=
 NG g149.b (fun r=>rfl) fun r v hr hp hv=>C.of_G hE g149 (Zbp e hE h38 h53 h122 h123 h81 r hr hp v hv _ (fun s=>rfl))
structure CL where
 c:Cfg
 l:Log
 v:AV
structure CL.ok (x:CL):Prop where
 c:x.c.ok
 l:x.l.ok
 v:LSl x.l.live x.v
def CL.lv (x:CL):AV:=.agg (x.l.c x.v)
variable {x y:CL}
theorem CL.inj (hx:x.ok) (hy:y.ok) (h1:x.c.v=y.c.v) (h2:x.lv=y.lv):x=y:=by
 obtain ⟨c,⟨a1,a2,a3,a4,a5⟩,v⟩:=x
 obtain ⟨c',⟨b1,b2,b3,b4,b5⟩,v'⟩:=y
 have e1:=HU h1
 dsimp only at e1
 subst e1
 simp [CL.lv,Log.c] at h2
 obtain ⟨rfl,rfl,rfl,rfl,rfl⟩:=h2
 have:=LSl.inj hx.v hy.v
 dsimp only at this
 subst this;rfl
def CL.ring (x:CL):Ring:=⟨x.l,x.c⟩
def CL.good (x:CL):Prop:=x.c.may∧En x.ring=true
instance (x:CL):Decidable x.good:=by unfold CL.good;infer_instance
theorem Zc8 (h:x.ok):x.ring.ok:=⟨h.l,h.c⟩
def CL.args (x:CL):List AV:=[x.c.v,x.lv]
theorem CL.inja (hx:x.ok) (hy:y.ok) (h:x.args=y.args):x=y:=CL.inj hx hy (Zql h).1 (Zql (Zql h).2).1
def lchkF:Fam CL:=⟨CL.ok,CL.args,fun x=>.int .i64 (if x.good then 0 else 8),fun x y hx hy h=>by rw [CL.inja hx hy h]⟩
theorem CL.hfa (h:x.ok):hfs x.args=true:=by
 show (true && ((true && (true && (true && (true && (AM.hf x.v && true))))) && true))=true
 rw [h.v.hf];rfl
theorem Zel (hE:EM P e) (h78:Con e 103 cfgF.O) (h79:Con e 149 (CC G2 (fun r=>.bool (En r)))):OvOk P 105 lchkF.O:=by
 refine Cx g105.b ?_
 intro x hx
 refine ⟨CL.hfa hx,rfl,C.of_G hE g105 ?_⟩
 by_cases hM:x.c.may
 ·have hR:∀ (s:St) (q:Nat),s.get q=some (.row 216 (x.ring.cs x.v))→RAt s (.ptr q 0) x.ring x.v:=fun s q h=>
   ⟨.ptr q 0 216 _ _ _ h (fun i y hy=>by rw [Zqo];exact hy) (NK (Vy _ hx.v)),hx.v,Zc8 hx⟩
  conv=>whnf
  refine ESc.fam cfgF h78 x.c hx.c (u:=.int .i64 0) (by simp [cfgF,hM]) ?_;conv=>whnf
  repeat' (first|refine v6 ?_ ?_|(intro _;first|omega|conv=>whnf))
  refine ESc.ov h79 (N4 (hR _ _ rfl) hM) ?_
  cases hB:En x.ring
  ·conv=>whnf
   repeat' (first|(refine As ?_;conv=>whnf)|fail)
   rw [show lchkF.out x=.int .i64 8 by simp [lchkF,CL.good,hB]]
   exact .plain _ rfl
  ·conv=>whnf
   repeat' (first|(refine An ?_;conv=>whnf)|fail)
   rw [show lchkF.out x=.int .i64 0 by simp [lchkF,CL.good,hB,hM]]
   exact .plain _ rfl
 ·rw [show lchkF.out x=.int .i64 8 by simp [lchkF,CL.good,hM]]
  conv=>whnf
  refine ESc.fam cfgF h78 x.c hx.c (u:=.int .i64 8) (by simp [cfgF,hM]) ?_;conv=>whnf
  repeat' (first|refine v6 ?_ ?_|(intro _;first|omega|conv=>whnf))
  exact .plain _ rfl
theorem Zkd (hE:EM P e) {k:Nat}{rd:Option Nat}{a:AC}{t:AT}{s:St}{ds:List Nat}{Q:EQ}(h:VW P e k a t s rd ds (IC (fun _ _ _=>False) Q)):W P k rd (.loop a) t s ds Q:=by
 refine W.loop (fun n t' s' ds'=>n=0∧t'=t∧s'=s∧ds'=ds) 0 ⟨rfl,rfl,rfl,rfl⟩ ?_
 rintro n t' s' ds' ⟨rfl,rfl,rfl,rfl⟩
 refine (Cy hE h).mono ?_
 intro x t s ds hq
 cases x with
 | normal=>exact (show False from hq).elim
 | exit id=>exact hq
 | ret=>exact hq
section
variable {t:AT}{s:St}{k:AV→St→Prop}{x y:AO}
variable {el es r:Nat}{v:AV}
theorem EL (hx:ev x t=.some (.sl r 0 0 (some 0))) (hy:ev y t=.some v) (hv:CS es v s=some []) (hk:k (.sl r 0 0 (some 0)) s):EPrim (.app el es x y) t s k:=by
 refine EPrim.mk (fun e rec=>?_) hk
 show wth x t _=_;unfold wth;rw [hx]
 show wth y t _=_;unfold wth;rw [hy]
 show (Option.rec .fail _ (CS es v s):RV)=_
 rw [hv];rfl
theorem EPrim.app1 {m:Nat}{c:AV}{cs:List AV}(hx:ev x t=.some (.sl r 0 0 (some 0))) (hy:ev y t=.some v) (hv:CS es v s=some (c::cs)) (hr:s.get r=some (.row el [])) (hm:(c::cs).length / es=m) (h0:0<m) (h1:m≤1000000) (hk:k (.sl s.next 0 m none) (s.alloc (.row el (c::cs)))):EPrim (.app el es x y) t s k:=by
 refine EPrim.mk (fun e rec=>?_) hk
 show wth x t _=_;unfold wth;rw [hx]
 show wth y t _=_;unfold wth;rw [hy]
 show (Option.rec .fail _ (CS es v s):RV)=_
 rw [hv]
 show AM.app1 el es (c::cs) (Nat.div (A6 (c::cs)) es) r 0 0 (some 0) s=_
 unfold AM.app1
 rw [CN,show Nat.div (c::cs).length es=m from hm,show Nat.mul 0 es=0 from Nat.zero_mul es,GR hr (by simp)]
 show (Bool.rec (Ct el (0+m) (Ba [] (c::cs)) s) _ (Nat.ble (0+m) 0):RV)=_
 rw [Zqo,show Nat.ble m 0=false by rw [← Zr8];intro e;have:=Zqx e;omega]
 show gd (Nat.ble m 1000000) _=_
 rw [Zq0 h1];rfl
end
variable {t:AT}{s:St}{k:AV→St→Prop}{x y:AO}
theorem GY {v:AV}(hx:ev x t=.some v) (hy:ev y t=.some .nils) (h:v=.es∨∃ n c l,v=.fz n c l) (hk:k (.bool false) s):EPrim (.eqb 2 false x y) t s k:=by
 refine EPrim.mk (v:=.bool false) (s':=s) (fun e rec=>?_) hk
 show wth x t _=_;unfold wth;rw [hx]
 show wth y t _=_;unfold wth;rw [hy]
 rcases h with rfl|⟨n,c,l,rfl⟩ <;> rfl
theorem Ob (hx:ev x t=.some .nils) (hy:ev y t=.some .nils) (hk:k (.bool true) s):EPrim (.eqb 2 false x y) t s k:=by
 refine EPrim.mk (v:=.bool true) (s':=s) (fun e rec=>?_) hk
 show wth x t _=_;unfold wth;rw [hx]
 show wth y t _=_;unfold wth;rw [hy];rfl
end Go.AM
namespace Go.AM
attribute [local irreducible] W
open X
def In:Ov:=fun args s=>match args with
 | []=>.ok (.bool true) s
 | _=>.fail
theorem Zdn {e:Env}{f k:Nat}(hE:EM P e) (hb:FG P f) (h:RC (Co e (exec e k) f [] St0)=true):OvOk P f In:=by
 refine ⟨hb,fun args s v s' hh=>?_⟩
 unfold In at hh
 split at hh
 ·cases hh
  refine RY rfl rfl ?_ s
  obtain ⟨s1,h⟩:=Zb9 h
  intro γ vals w m hA hs
  have hc:=(Nn (UK hE.1 hE.2 k) hE.1 hA hs h).2 m
  exact CallsIn.mono hc fun e w' hp=>⟨_,_,.plain _ rfl,hp⟩
 ·cases hh
end Go.AM
namespace Go.AM
open Go.RowKit
variable {n:Int}
theorem CA (h:(Lit.int .i64 n).wf=true):Aa n:=by
 unfold Aa
 simp [Lit.wf,IntKind.min,IntKind.max,IntKind.bits,IntKind.signed] at h
 omega
theorem IW (h:(Lit.int .u32 n).wf=true):Be n:=by
 unfold Be
 simp [Lit.wf,IntKind.min,IntKind.max,IntKind.bits,IntKind.signed] at h
 omega
def tCfg:List Ty:=[.int .u32,.int .i64,.int .i64,.int .i64,.int .i64,.int .i64]
def tLv:List Ty:=[.int .u32,.int .i64,.int .i64,.bool,.bool,.bool]
def tLog:List Ty:=[.int .u32,.int .u32,.int .i64,.int .i64,.sl (.st tLv)]
variable {k:IntKind}{l:List AV}
theorem Zbk (h:Shape (.int k) l):∃ n,l=[.int k n]∧(Lit.int k n).wf=true:=by
 cases h with|int _ n h=>exact ⟨n,rfl,h⟩
theorem ZE (h:Shape .bool l):∃ b,l=[.bool b]:=by
 cases h with|bool b=>exact ⟨b,rfl⟩
variable {Ts:List Ty}
theorem Nk {T:Ty}(h:Shapes (T::Ts) l):∃ a b,l=a++b∧Shape T a∧Shapes Ts b:=by
 cases h with|cons _ _ a b h1 h2=>exact ⟨a,b,rfl,h1,h2⟩
theorem Qf (h:Shapes [] l):l=[]:=by cases h;rfl
theorem GG (h:Shapes (.int k::Ts) l):∃ n b,l=.int k n::b∧(Lit.int k n).wf=true∧Shapes Ts b:=by
 obtain ⟨a,b,rfl,h1,h2⟩:=Nk h
 obtain ⟨n,rfl,hw⟩:=Zbk h1
 exact ⟨n,b,rfl,hw,h2⟩
theorem Qb (h:Shapes (.bool::Ts) l):∃ x b,l=.bool x::b∧Shapes Ts b:=by
 obtain ⟨a,b,rfl,h1,h2⟩:=Nk h
 obtain ⟨n,rfl⟩:=ZE h1
 exact ⟨n,b,rfl,h2⟩
theorem Zn7 (h:Shapes tCfg l):∃ c:Cfg,c.ok∧l=c.c:=by
 obtain ⟨a1,b1,rfl,w1,g1⟩:=GG h
 obtain ⟨a2,b2,rfl,w2,g2⟩:=GG g1
 obtain ⟨a3,b3,rfl,w3,g3⟩:=GG g2
 obtain ⟨a4,b4,rfl,w4,g4⟩:=GG g3
 obtain ⟨a5,b5,rfl,w5,g5⟩:=GG g4
 obtain ⟨a6,b6,rfl,w6,g6⟩:=GG g5
 rw [Qf g6]
 exact ⟨⟨a1,a2,a3,a4,a5,a6⟩,⟨IW w1,CA w2,CA w3,CA w4,CA w5,CA w6⟩,rfl⟩
theorem Zo2 (h:Shapes tLv l):∃ x:Lv,x.ok∧l=x.c:=by
 obtain ⟨a1,b1,rfl,w1,g1⟩:=GG h
 obtain ⟨a2,b2,rfl,w2,g2⟩:=GG g1
 obtain ⟨a3,b3,rfl,w3,g3⟩:=GG g2
 obtain ⟨a4,b4,rfl,g4⟩:=Qb g3
 obtain ⟨a5,b5,rfl,g5⟩:=Qb g4
 obtain ⟨a6,b6,rfl,g6⟩:=Qb g5
 rw [Qf g6]
 exact ⟨⟨a1,a2,a3,a4,a5,a6⟩,⟨IW w1,CA w2,CA w3⟩,rfl⟩
theorem arg_struct {H:Type}{enc:TypeId×Value→H}{W:World}{t:TypeId}{Fs:List Ty}{n:Nat}{v:Value}{d:DataW H}{ps:List MemPlace}{fs:Array Field}{r:Reach}{base:Nat}(hu:P.underlying t=some (.struct fs)) (hT:TyOf P t (.st Fs) n) (hval:Value.okWide P W r base t v) (h:DataW.Trod enc P W 0 (fun _=>true) true t v d ps):
 ∃ l,Shapes Fs l∧VR (F1 W) (.agg l) v:=by
 obtain ⟨cs,rfl,_⟩:=WideShapes.okWide_struct hu hval
 obtain ⟨fuel,hf⟩:=h
 obtain ⟨l,h1,h2,h3,h4⟩:=Uf fuel hT hf
 cases h1 with
 | st _ _ hs=>exact ⟨l,hs,.agg l cs h3 h4⟩
theorem law_args {f:Nat}{args:List AV}{vals:List Value}{w:World}(hA:All2 (VR (F1 w)) args vals) (hC:C P f args St0 (fun v _=>v=.bool true)):
 Calls P f vals.toArray w fun x w'=>x=.returned (.bool true)∧Below w.heap.size w w':=by
 have hc:=hC (F1 w) vals w 0 hA (Zew w)
 refine callsIn_wide.1 (CallsIn.mono hc ?_)
 rintro x w' ⟨v,s',rfl,v',γ',rfl,hst,_,hv⟩
 cases hv
 exact ⟨rfl,hst.os,hst.tape,hst.output,hst.size,fun b hb=>hst.blk b hb (fun r L hL=>by cases hL)⟩
end Go.AM
namespace Go.AM
attribute [local irreducible] W
open X
structure I3 where
 a:Int
 b:Int
 c:Int
def I3.ok (x:I3):Prop:=Aa x.a∧Aa x.b∧Aa x.c
def I3.args (x:I3):List AV:=[.int .i64 x.a,.int .i64 x.b,.int .i64 x.c]
def AQ (n:Nat):Bool:=decide (n≠0) && decide (n≠128)
structure BN where
 v:AV
 n:Nat
def BN.ok (x:BN):Prop:=(∃ l,Sl 1 x.n l x.v)∧x.n<1000000000
variable {es m:Nat}{l k:List AV}
theorem Sl.n_inj {n:Nat}{v:AV}(h:Sl es n l v) (h':Sl es m k v):n=m:=by
 rcases h with ⟨rfl,rfl,_⟩|⟨rfl,rfl,_⟩|⟨c,rfl,_⟩
 ·rcases h' with ⟨_,rfl,_⟩|⟨e,_⟩|⟨c,e,_⟩
  ·rfl
  ·cases e
  ·cases e
 ·rcases h' with ⟨e,_⟩|⟨_,rfl,_⟩|⟨c,e,_⟩
  ·cases e
  ·rfl
  ·cases e
 ·rcases h' with ⟨e,_⟩|⟨e,_⟩|⟨c,e,_⟩
  ·cases e
  ·cases e
  ·cases e;rfl
theorem BN.inj {x y:BN}(hx:x.ok) (hy:y.ok) (h:[x.v]=[y.v]):x=y:=by
 obtain ⟨v,n⟩:=x
 obtain ⟨v',n'⟩:=y
 have e:v=v':=(Zql h).1
 subst e
 obtain ⟨⟨l,h1⟩,_⟩:=hx
 obtain ⟨⟨l',h2⟩,_⟩:=hy
 have:=h1.n_inj h2
 dsimp only at this
 rw [this]
def oddF:Fam BN:=⟨BN.ok,fun x=>[x.v],fun x=>.bool (AQ x.n),fun x y hx hy h=>by rw [BN.inj hx hy h]⟩
structure BL where
 v:AV
 us:List AV
 ns:List Nat
structure BL.ok (x:BL):Prop where
 sl:Sl 1 x.us.length x.us x.v
 bl:All2 (fun u n=>BN.ok ⟨u,n⟩) x.us x.ns
 len:x.us.length<1000000000
theorem BL.inj {x y:BL}(hx:x.ok) (hy:y.ok) (h:x.v=y.v):x=y:=by
 obtain ⟨v,us,ns⟩:=x
 obtain ⟨v',us',ns'⟩:=y
 have e:v=v':=h
 subst e
 have h1:=hx.sl
 have h2:=hy.sl
 have h3:=hx.bl
 have h4:=hy.bl
 dsimp only at h1 h2 h3 h4
 have e2:us=us':=by
  rcases h1 with ⟨rfl,_,h1⟩|⟨rfl,_,h1⟩|⟨c,rfl,_⟩
  ·rcases h2 with ⟨_,_,h2⟩|⟨e,_⟩|⟨c,e,_⟩
   ·rw [h1,h2]
   ·cases e
   ·cases e
  ·rcases h2 with ⟨e,_⟩|⟨_,_,h2⟩|⟨c,e,_⟩
   ·cases e
   ·rw [h1,h2]
   ·cases e
  ·rcases h2 with ⟨e,_⟩|⟨e,_⟩|⟨c,e,_⟩
   ·cases e
   ·cases e
   ·injection e
 subst e2
 have:∀ {us:List AV}{ns ns':List Nat},All2 (fun u n=>BN.ok ⟨u,n⟩) us ns→All2 (fun u n=>BN.ok ⟨u,n⟩) us ns'→ns=ns':=by
  intro us
  induction us with
  | nil=>intro ns ns' a b;cases a;cases b;rfl
  | cons u us ih=>
   intro ns ns' a b
   cases a with
   | cons a1 a2=>cases b with
    | cons b1 b2=>
     obtain ⟨⟨l,q1⟩,_⟩:=a1
     obtain ⟨⟨l',q2⟩,_⟩:=b1
     have e:=q1.n_inj q2
     dsimp only at e
     rw [ih a2 b2,e]
 rw [this h3 h4]
def Zjl:AC:=match PF with|.mk c _=>c
def Xc:AC:=match MY with|.mk c _=>c
def S8 (l:List Int):List AV:=l.map (AV.int .i64)
def Xp (top:Int):Int→List Int→Bool
 | _,[]=>true
 | last,s::l=>decide (last<s∧s≤top) && Xp top s l
structure SL where
 c:Cfg
 v:AV
 l:List Int
structure SL.ok (x:SL):Prop where
 c:x.c.ok
 m:x.c.may
 sl:Sl 1 x.l.length (S8 x.l) x.v
 b:∀ s ∈ x.l,Aa s
 len:x.l.length<1000000000
theorem Sl.l_inj {n:Nat}{v:AV}(h:Sl es n l v) (h':Sl es m k v):l=k:=by
 rcases h with ⟨rfl,_,h⟩|⟨rfl,_,h⟩|⟨c,rfl,_⟩
 ·rcases h' with ⟨_,_,h2⟩|⟨e,_⟩|⟨c,e,_⟩
  ·rw [h,h2]
  ·cases e
  ·cases e
 ·rcases h' with ⟨e,_⟩|⟨_,_,h2⟩|⟨c,e,_⟩
  ·cases e
  ·rw [h,h2]
  ·cases e
 ·rcases h' with ⟨e,_⟩|⟨e,_⟩|⟨c,e,_⟩
  ·cases e
  ·cases e
  ·injection e
def Zgm (top:Int) (l:List Int):Bool:=Xp top (-1) l && decide (0<l.length)
structure Dl where
 stripe:Int
 sv:AV
 sl:List Int
 b:BL
 pv:AV
 pn:Nat
def Dl.c (d:Dl):List AV:=[.int .i64 d.stripe,d.sv,d.b.v,d.pv]
def Dl.v (d:Dl):AV:=.agg d.c
structure Dl.ok (d:Dl):Prop where
 stripe:Aa d.stripe
 sl:Sl 1 d.sl.length (S8 d.sl) d.sv
 sb:∀ s ∈ d.sl,Aa s
 sn:d.sl.length<1000000000
 b:d.b.ok
 p:BN.ok ⟨d.pv,d.pn⟩
def Zpm (c:Cfg) (d:Dl):Bool:=!(d.b.ns.any AQ) && decide (0≤d.stripe∧d.stripe<c.chunk*c.rows) && Zgm (c.members-2) d.sl && decide (d.b.ns.length=d.sl.length) && !(AQ d.pn)
structure CD where
 c:Cfg
 d:Dl
structure CD.ok (x:CD):Prop where
 c:x.c.ok
 d:x.d.ok
def CD.good (x:CD):Prop:=x.c.may∧Zpm x.c x.d=true
instance (x:CD):Decidable x.good:=by unfold CD.good;infer_instance
structure Rc where
 slot:Int
 bare:Bool
 sum:Int
def Rc.c (x:Rc):List AV:=[.int .u8 x.slot,.bool x.bare,.int .u32 x.sum]
def Rc.ok (x:Rc):Prop:=(0≤x.slot∧x.slot<256)∧Be x.sum
def rcs (L:List Rc):List AV:=L.flatMap Rc.c
structure Nt where
 id:Int
 age:Int
 seq:Int
 stripe:Int
 v:AV
 recs:List Rc
def Nt.c (x:Nt):List AV:=[.int .u32 x.id,.int .u32 x.age,.int .u32 x.seq,.int .i64 x.stripe,x.v]
def Nt.a (x:Nt):AV:=.agg x.c
structure Nt.ok (x:Nt):Prop where
 id:Be x.id
 age:Be x.age
 seq:Be x.seq
 stripe:Aa x.stripe
 sl:Sl 3 x.recs.length (rcs x.recs) x.v
 rc:∀ r ∈ x.recs,r.ok
 len:x.recs.length<1000000000
theorem Lq {bs:List Nat}(hl:bs.length=0∨bs.length=128):(Ae bs).length=128:=by
 unfold Ae
 split
 ·simp
 ·rename_i h
  rcases hl with e|e
  ·exact absurd (Zq7.1 e) h
  ·exact e
theorem W7:∀ {l m:List Nat},Ab l=Ab m→l=m
 | [],[],_=>rfl
 | [],_::_,h=>by cases h
 | _::_,[],h=>by cases h
 | a::l,b::m,h=>by
  have h:AV.int .u8 (Int.ofNat a)::Ab l=.int .u8 (Int.ofNat b)::Ab m:=h
  injection h with h1 h2
  injection h1 with _ h1
  injection h1 with h1
  rw [h1,W7 h2]
def BAt (u:AV) (b:List Nat):Prop:=Sl 1 b.length (Ab b) u∧∀ x ∈ b,x<256
theorem BAt.inj {u:AV}{b c:List Nat}(h:BAt u b) (h':BAt u c):b=c:=W7 (h.1.l_inj h'.1)
structure DB where
 st:Int
 sv:AV
 sl:List Int
 bv:AV
 us:List AV
 bs:List (List Nat)
 pv:AV
 pb:List Nat
def DB.d (x:DB):Dl:=⟨x.st,x.sv,x.sl,⟨x.bv,x.us,x.bs.map List.length⟩,x.pv,x.pb.length⟩
structure DB.ok (x:DB):Prop where
 d:x.d.ok
 bs:All2 BAt x.us x.bs
 pb:BAt x.pv x.pb
def Ay (b:List Nat):AV:=.fz 128 none (Ab b)
def DB.prs (x:DB):List (Int×List Nat):=x.sl.zip x.bs++(if x.pb.length=0 then [] else [(255,x.pb)])
structure BD where
 c:Cfg
 age:Int
 seq:Int
 d:DB
structure BD.ok (x:BD):Prop where
 c:x.c.ok
 age:Be x.age
 seq:Be x.seq
 d:x.d.ok
def BD.enc (x:BD):List AV:=[x.c.v,.int .u32 x.age,.int .u32 x.seq,x.d.d.v]
variable {L:List AV}{x:AV}
theorem HM {ρ:Nat→Nat}(h:hfs L=true):AG ρ (L++[x])=L++[AY ρ x]:=by
 induction L with
 | nil=>rfl
 | cons y L ih=>
  simp only [hfs,Zqb] at h
  show AY ρ y::AG ρ (L++[x])=_
  rw [CO y h.1,ih h.2];rfl
theorem Ib {n:Nat}(h:hfs L=true):Bj n (L++[x])=bd n x:=by
 induction L with
 | nil=>show (bd n x && true)=_;rw [Bool.and_true]
 | cons y L ih=>
  simp only [hfs,Zqb] at h
  show (bd n y && Bj n (L++[x]))=_
  rw [Dd y h.1,ih h.2];rfl
def DB.n (d:DB):Nat:=d.prs.length+1
structure DB.any (x:DB):Prop where
 st:Aa x.st
 sl:Sl 1 x.sl.length (S8 x.sl) x.sv
 sb:∀ s ∈ x.sl,Aa s
 bl:Sl 1 x.us.length x.us x.bv
 bs:All2 BAt x.us x.bs
 pb:BAt x.pv x.pb
end Go.AM
namespace Go.AM
open Go.RowKit
def Zos:Ty:=.sl (.int .i64)
def tByt:Ty:=.sl (.int .u8)
def tDeal:List Ty:=[.int .i64,Zos,.sl tByt,tByt]
theorem Zon {n:Int}(h:(Lit.int .u8 n).wf=true):0≤n∧n<256:=by
 simp [Lit.wf,IntKind.min,IntKind.max,IntKind.bits,IntKind.signed] at h
 omega
end Go.AM
namespace Go.AM
open X
variable {l:List AV}
theorem E2 {m:List AV}(h:hfs l=true) (h':hfs m=true):hfs (l++m)=true:=hfs_iff.2 fun v hv=>(Zq1.1 hv).elim (hfs_iff.1 h v) (hfs_iff.1 h' v)
structure Ce (α:Type) where
 k:Nat
 r:α→List AV→Prop
 len:∀ {x l},r x l→l.length=k
 hf:∀ {x l},r x l→hfs l=true
 inj:∀ {x y l},r x l→r y l→x=y
def Ce.int (q:IntKind):Ce Int:=⟨1,fun n l=>l=[.int q n]∧(Lit.int q n).wf=true,by rintro _ _ ⟨rfl,_⟩;rfl,by rintro _ _ ⟨rfl,_⟩;rfl,by rintro _ _ _ ⟨rfl,_⟩ ⟨h,_⟩;cases h;rfl⟩
def Ce.u8:Ce Nat:=⟨1,fun n l=>l=[.int .u8 (n:Int)]∧n<256,by rintro _ _ ⟨rfl,_⟩;rfl,by rintro _ _ ⟨rfl,_⟩;rfl,by rintro x y _ ⟨rfl,_⟩ ⟨h,_⟩;injection h with h;injection h with _ h;exact Int.ofNat.inj h⟩
def Ce.bool:Ce Bool:=⟨1,fun n l=>l=[.bool n],by rintro _ _ rfl;rfl,by rintro _ _ rfl;rfl,by rintro _ _ _ rfl h;cases h;rfl⟩
theorem Gn {α:Type}{A:Ce α}:∀ {xs:List α}{ls:List (List AV)},All2 A.r xs ls→ls.flatten.length=xs.length*A.k
 | [],_,h=>by cases h;simp
 | x::xs,_,h=>by
  cases h with
  | cons h1 h2=>rw [List.flatten_cons,Zqn,A.len h1,Gn h2,Zq3,Nat.add_mul];omega
theorem V6 {α:Type}{A:Ce α}:∀ {xs ys:List α}{ls ms:List (List AV)},xs.length=ys.length→All2 A.r xs ls→All2 A.r ys ms→ls.flatten=ms.flatten→xs=ys
 | [],[],_,_,_,_,_,_=>rfl
 | x::xs,y::ys,_,_,hn,h,h',he=>by
  cases h with
  | cons h1 h2=>cases h' with
   | cons h3 h4=>
    rw [List.flatten_cons,List.flatten_cons] at he
    obtain ⟨e1,e2⟩:=List.append_inj he (by rw [A.len h1,A.len h3])
    subst e1
    rw [A.inj h1 h3,V6 (Nat.succ.inj hn) h2 h4 e2]
 | [],_::_,_,_,hn,_,_,_=>by cases hn
 | _::_,[],_,_,hn,_,_,_=>by cases hn
def Ls {α:Type}(A:Ce α) (xs:List α) (v:AV):Prop:=∃ ls,All2 A.r xs ls∧Sl A.k xs.length ls.flatten v∧xs.length≤9223372036854775807
theorem Ls.inj {α:Type}{A:Ce α}{xs ys:List α}{v:AV}(h:Ls A xs v) (h':Ls A ys v):xs=ys:=by
 obtain ⟨ls,a,b,_⟩:=h
 obtain ⟨ms,c,d,_⟩:=h'
 exact V6 (b.n_inj d) a c (b.l_inj d)
theorem Ls.hf {α:Type}{A:Ce α}{xs:List α}{v:AV}(h:Ls A xs v):AM.hf v=true:=by obtain ⟨_,_,h,_⟩:=h;exact h.hf
theorem Ls.nth {α:Type}{A:Ce α}{xs:List α}{v:AV}(h:Ls A xs v):∃ cs,Sl A.k xs.length cs v∧xs.length≤9223372036854775807∧∀ i,i<xs.length→∃ x c l,xs[i]?=some x∧A.r x c∧cs.drop (i*A.k)=c++l:=by
 obtain ⟨ls,a,b,hb⟩:=h
 refine ⟨_,b,hb,fun i hi=>?_⟩
 obtain ⟨c,h1,h2⟩:=a.get (Zp9 hi)
 have ht:=Gn (a.take i)
 rw [Zqz,Nat.min_eq_left (Nat.le_of_lt hi)] at ht
 have hl:i<ls.length:=(Zqa.1 h1).1
 have hc:ls[i]=c:=(Zqa.1 h1).2
 refine ⟨_,c,(ls.drop (i+1)).flatten,Zp9 hi,h2,?_⟩
 conv=>lhs;rw [← List.take_append_drop i ls,List.flatten_append,← ht,List.drop_left,Zqw hl,List.flatten_cons,hc]
def Ce.sl {α:Type}(A:Ce α):Ce (List α):=⟨1,fun xs l=>∃ v,l=[v]∧Ls A xs v,by rintro _ _ ⟨v,rfl,_⟩;rfl,by rintro _ _ ⟨v,rfl,h⟩;show (AM.hf v && true)=true;rw [h.hf];rfl,by
 rintro x y _ ⟨v,rfl,h⟩ ⟨u,e,h'⟩
 injection e with e _;subst e
 exact h.inj h'⟩
def Ce.pr {α β:Type}(A:Ce α) (B:Ce β):Ce (α×β):=⟨A.k+B.k,fun x l=>∃ a b,l=a++b∧A.r x.1 a∧B.r x.2 b,by rintro _ _ ⟨a,b,rfl,h,h'⟩;rw [Zqn,A.len h,B.len h'],by rintro _ _ ⟨a,b,rfl,h,h'⟩;exact E2 (A.hf h) (B.hf h'),by
 rintro ⟨x,x'⟩ ⟨y,y'⟩ _ ⟨a,b,rfl,h1,h2⟩ ⟨c,d,e,h3,h4⟩
 obtain ⟨rfl,rfl⟩:=List.append_inj e (by rw [A.len h1,A.len h3])
 have e1:=A.inj h1 h3
 have e2:=B.inj h2 h4
 dsimp only at e1 e2
 rw [e1,e2]⟩
def Ce.Of {α:Type}(A:Ce α) (T:Ty):Prop:=∀ l,Shape T l→∃ x,A.r x l
theorem DY (q:IntKind):(Ce.int q).Of (.int q):=fun l h=>by cases h with|int _ n h=>exact ⟨n,rfl,h⟩
theorem HK:Ce.bool.Of .bool:=fun l h=>by cases h with|bool b=>exact ⟨b,rfl⟩
theorem QH:Ce.u8.Of (.int .u8):=fun l h=>by
 cases h with|int _ n h=>
  have:=Zon h
  exact ⟨n.toNat,by rw [Int.toNat_of_nonneg this.1],by omega⟩
theorem GQ {α:Type}{A:Ce α}{T:Ty}(hA:A.Of T):A.sl.Of (.sl T):=fun l h=>by
 cases h with
 | nil _=>exact ⟨[],_,rfl,[],.nil,.inl ⟨rfl,rfl,rfl⟩,by simp⟩
 | es _=>exact ⟨[],_,rfl,[],.nil,.inr (.inl ⟨rfl,rfl,rfl⟩),by simp⟩
 | fz _ n m c ls h1 h2 h3 h4 h5=>
  have:∀ ls:List (List AV),(∀ l ∈ ls,Shape T l)→∃ xs,All2 A.r xs ls:=by
   intro ls
   induction ls with
   | nil=>intro _;exact ⟨[],.nil⟩
   | cons l ls ih=>
    intro h
    obtain ⟨xs,hx⟩:=ih fun m hm=>h m (by simp [hm])
    obtain ⟨x,h1⟩:=hA l (h l (by simp))
    exact ⟨x::xs,.cons h1 hx⟩
  obtain ⟨xs,hx⟩:=this ls h4
  have:=hx.length
  exact ⟨xs,_,rfl,ls,hx,.inr (.inr ⟨c,by rw [this,h1],Gn hx⟩),by rw [this,h1];exact h3⟩
structure Sg (γ:Type) where
 r:γ→List AV→Prop
 hf:∀ {x l},r x l→hfs l=true
 inj:∀ {x y l},r x l→r y l→x=y
def Sg.nil:Sg Unit:=⟨fun _ l=>l=[],by rintro _ _ rfl;rfl,fun _ _=>rfl⟩
def Sg.v {α γ:Type}(A:Ce α) (S:Sg γ):Sg (α×γ):=⟨fun x l=>∃ v b,l=v::b∧A.r x.1 [v]∧S.r x.2 b,by
 rintro _ _ ⟨v,b,rfl,h,h'⟩
 have h1:=A.hf h
 show (AM.hf v && hfs b)=true
 rw [S.hf h',show AM.hf v=true by simpa [hfs] using h1];rfl,by
 rintro ⟨x,x'⟩ ⟨y,y'⟩ _ ⟨a,b,rfl,h1,h2⟩ ⟨c,d,e,h3,h4⟩
 cases e
 have e1:=A.inj h1 h3
 have e2:=S.inj h2 h4
 dsimp only at e1 e2
 rw [e1,e2]⟩
def Sg.g {α γ:Type}(A:Ce α) (S:Sg γ):Sg (α×γ):=⟨fun x l=>∃ c b,l=.agg c::b∧A.r x.1 c∧S.r x.2 b,by
 rintro _ _ ⟨v,b,rfl,h,h'⟩
 show (hfs v && hfs b)=true
 rw [S.hf h',A.hf h];rfl,by
 rintro ⟨x,x'⟩ ⟨y,y'⟩ _ ⟨a,b,rfl,h1,h2⟩ ⟨c,d,e,h3,h4⟩
 cases e
 have e1:=A.inj h1 h3
 have e2:=S.inj h2 h4
 dsimp only at e1 e2
 rw [e1,e2]⟩
structure Fn (γ:Type) where
 S:Sg γ
 ok:γ→Prop
 out:γ→AV
def Fn.R {γ:Type}(F:Fn γ) (args:List AV) (u:AV):Prop:=∃ x,F.S.r x args∧F.ok x∧u=F.out x
noncomputable abbrev Fn.O {γ:Type}(F:Fn γ):Ov:=Ag F.R
theorem Bs {γ:Type}{f:Nat}{F:Fn γ}(hb:FG P f) (h:∀ x args,F.S.r x args→F.ok x→AM.hf (F.out x)=true∧C P f args St0 (fun v s'=>Frz s' v (F.out x))):OvOk P f F.O:=
 Da hb fun args u ⟨x,h1,h2,e⟩=>by subst e;exact ⟨F.S.hf h1,h x args h1 h2⟩
theorem Fn.u {γ:Type}{e:Env}{f:Nat}{s:St}{k:AV→St→Prop}{F:Fn γ}{args:List AV}(hi:Con e f F.O) (x:γ) (h1:F.S.r x args) (h2:F.ok x) (hk:k (F.out x) s):ESc e f args s k:=by
 refine ESc.rel hi ⟨_,x,h1,h2,rfl⟩ ?_
 rintro u' ⟨y,g1,_,rfl⟩
 rw [F.S.inj g1 h1];exact hk
noncomputable def pB (p:Prop):AV:=.bool (open Classical in decide p)
variable {p:Prop}{s:St}
theorem pT (h:p):Frz s (.bool true) (pB p):=by classical unfold pB;rw [Zqe h];exact .plain _ rfl
theorem pF (h:¬p):Frz s (.bool false) (pB p):=by classical unfold pB;rw [Zqq h];exact .plain _ rfl
noncomputable def bF {γ:Type}(S:Sg γ) (ok p:γ→Prop):Fn γ:=⟨S,ok,fun x=>pB (p x)⟩
variable {e:Env}
theorem Bo {γ:Type}{S:Sg γ}{ok p:γ→Prop}{f:Nat}{fn:Func}{code:AC}{res:List ARes}(hE:EM P e) (g:GK f fn (.mk code res)) (h:∀ x args,S.r x args→ok x→∀ K:AV→St→Prop,(p x→∀ s,K (.bool true) s)→(¬p x→∀ s,K (.bool false) s)→VW P e 0 code (Ah args 0 .lf) St0 none [] (BW res K)):OvOk P f (bF S ok p).O:=
 Bs g.b fun x args h1 h2=>⟨rfl,C.of_G hE g (h x args h1 h2 _ (fun q _=>pT q) fun q _=>pF q)⟩
theorem bF.u {γ:Type}{S:Sg γ}{ok p:γ→Prop}{e:Env}{f:Nat}{s:St}{k:AV→St→Prop}{args:List AV}(hi:Con e f (bF S ok p).O) (x:γ) (h1:S.r x args) (h2:ok x) (ht:p x→k (.bool true) s) (hf:¬p x→k (.bool false) s):ESc e f args s k:=by
 classical
 refine Fn.u hi x h1 h2 ?_
 show k (pB (p x)) s
 unfold pB
 by_cases h:p x
 ·rw [Zqe h];exact ht h
 ·rw [Zqq h];exact hf h
theorem Ax (hE:EM P e) {k:Nat}{rd:Option Nat}{ac:AC}{t:AT}{Q:EQ}(n:Nat) (tl:Nat→List (Nat×AV)) (os:Nat→List AObj) (I:Nat→Prop) (h0:I 0) (ha:Tells P k t s [] (A5 (tl 0)) (Al St0 (os 0)) [])
 (hr:∀ i,i≤n→I i→VW P e k ac (A5 (tl i)) (Al St0 (os i)) rd [] (I4 (fun t s ds=>ds=[]∧i<n∧I (i+1)∧Tells P k t s [] (A5 (tl (i+1))) (Al St0 (os (i+1))) []) Q)):W P k rd (.loop ac) t s [] Q:=by
 refine DZ tl os (fun i=>n-i) (fun i=>i≤n∧I i) 0 ⟨Zqs _,h0⟩ ha ?_
 rintro i ⟨hi,hI⟩
 refine (Cy hE (hr i hi hI)).mono ?_
 intro x t s ds hq
 cases x with
 | normal=>
  obtain ⟨rfl,h1,h2,h3⟩:=hq
  exact ⟨rfl,i+1,⟨h1,h2⟩,by omega,h3⟩
 | exit id=>exact hq
 | ret=>exact hq
variable {k:AV→St→Prop}{x y:AO}{es n i:Nat}{c:List AV}{q:IntKind}
theorem El {t:AT}{v:AV}(hx:ev x t=.some v) (hs:Sl es n l v) (hy:ev y t=.some (.int q (i:Int))) (h:i<n) (hd:l.drop (i*es)=c) (hk:k (.fp c) s):EPrim (.ixs es x y) t s k:=
 Zaw hx hs hy (by omega) (by omega) (by rw [Int.toNat_natCast,hd];exact hk)
variable {a:Int}
theorem BS {t:AT}{v:AV}(hx:ev x t=.some v) (hs:Sl es n l v) (hy:ev y t=.some (.int q a)) (ha:a=i) (h:i<n) (hd:l.drop (i*es)=c) (hk:k (.fp c) s):EPrim (.ixs es x y) t s k:=
 El hx hs (by rw [hy,ha]) h hd hk
theorem Am {t:AT}{v:AV}(hs:Sl es n l v) (h:i<n) (hd:l.drop (i*es)=c) (hk:k (.fp c) s) (hx:ev x t=.some v:=by rfl) (hy:ev y t=.some (.int q (i:Int)):=by rfl):EPrim (.ixs es x y) t s k:=El hx hs hy h hd hk
theorem v24 {t:AT}{v:AV}(hs:Sl es n l v) (ha:a=i) (h:i<n) (hd:l.drop (i*es)=c) (hk:k (.fp c) s) (hx:ev x t=.some v:=by rfl) (hy:ev y t=.some (.int q a):=by rfl):EPrim (.ixs es x y) t s k:=BS hx hs hy ha h hd hk
theorem AR {p:Nat→Prop}(h:∀ k<i,p k) (hi:p i):∀ k<i+1,p k:=fun k hk=>by
 rcases Zr1.1 hk with h'|rfl
 ·exact h k h'
 ·exact hi
theorem WQ {α:Type}{l:List α}{p:α→Prop}(h:∀ k<l.length,∀ x,l[k]?=some x→p x):∀ x ∈ l,p x:=fun x hx=>by
 obtain ⟨k,hk⟩:=Zr0 hx
 exact h k (Zqa.1 hk).1 x hk
theorem Y9 {γ:Type}{S:Sg γ}{ok p:γ→Prop}{e:Env}{f:Nat}{s:St}{k:AV→St→Prop}{args:List AV}(hi:Con e f (bF S ok p).O) (x:γ) (h1:S.r x args) (h2:ok x) (h:p x) (hk:k (.bool true) s):ESc e f args s k:=bF.u hi x h1 h2 (fun _=>hk) fun n=>absurd h n
theorem bF.f {γ:Type}{S:Sg γ}{ok p:γ→Prop}{e:Env}{f:Nat}{s:St}{k:AV→St→Prop}{args:List AV}(hi:Con e f (bF S ok p).O) (x:γ) (h1:S.r x args) (h2:ok x) (h:¬p x) (hk:k (.bool false) s):ESc e f args s k:=bF.u hi x h1 h2 (fun n=>absurd n h) fun _=>hk
theorem AW {n:Int}(h:Aa n):(Lit.int .i64 n).wf=true:=by
 unfold Aa at h
 simp [Lit.wf,IntKind.min,IntKind.max,IntKind.bits,IntKind.signed]
 omega
theorem Rx {n:Int}(h:Be n):(Lit.int .u32 n).wf=true:=by
 unfold Be at h
 simp [Lit.wf,IntKind.min,IntKind.max,IntKind.bits,IntKind.signed]
 omega
theorem Zau {t:AT}{s:St}{k:AV→St→Prop}{x:AO}{b:Bool}(hx:ev x t=.some (.bool b)) (h1:b=true→k (.bool false) s) (h2:b=false→k (.bool true) s):EPrim (.un .not x) t s k:=by
 cases b
 ·exact HH hx (h2 rfl)
 ·exact IJ hx (h1 rfl)
abbrev w20:=@Zau
end Go.AM
namespace Go.AM
attribute [local irreducible] W
open X
structure WR where
 at_:Int
 u:AV
 b:List Nat
def WR.c (w:WR):List AV:=[.int .i64 w.at_,w.u]
structure WR.any (w:WR):Prop where
 at_:Aa w.at_
 b:BAt w.u w.b
def Ad (L:List WR):List AV:=L.flatMap WR.c
theorem Ff (x:WR) (L:List WR):Ad (x::L)=x.c++Ad L:=rfl
theorem DE:∀ (L:List WR),(Ad L).length=L.length*2
 | []=>rfl
 | x::L=>by rw [Ff,Zqn,DE L,Zq3];show 2+_=_;omega
theorem Va:∀ (L:List WR) (i:Nat),(Ad L).drop (i*2)=Ad (L.drop i)
 | L,0=>by simp
 | [],i+1=>by simp [Ad]
 | x::L,i+1=>by
  rw [List.drop_succ_cons,← Va L i,Ff,show (i+1)*2=x.c.length+i*2 by show (i+1)*2=2+i*2;omega,List.drop_append,Zq5 (by omega),List.nil_append]
  congr 1;omega
theorem GC {L:List WR}{i:Nat}(h:i<L.length):(Ad L).drop (i*2)=L[i].c++Ad (L.drop (i+1)):=by
 rw [Va,Zqw h,Ff]
theorem WR.inj {x y:WR}(hx:x.any) (hy:y.any) (h:x.c=y.c):x=y:=by
 obtain ⟨a,u,b⟩:=x
 obtain ⟨a',u',b'⟩:=y
 simp [WR.c] at h
 obtain ⟨rfl,rfl⟩:=h
 have:=hx.b.inj hy.b
 dsimp only at this
 rw [this]
theorem NS:∀ {L M:List WR},(∀ o ∈ L,o.any)→(∀ o ∈ M,o.any)→Ad L=Ad M→L=M
 | [],[],_,_,_=>rfl
 | [],y::M,_,_,h=>by have:=congrArg List.length h;rw [DE,DE] at this;simp at this
 | x::L,[],_,_,h=>by have:=congrArg List.length h;rw [DE,DE] at this;simp at this
 | x::L,y::M,hx,hy,h=>by
  rw [Ff,Ff] at h
  obtain ⟨h1,h2⟩:=List.append_inj h rfl
  rw [WR.inj (hx x (by simp)) (hy y (by simp)) h1,NS (fun o ho=>hx o (by simp [ho])) (fun o ho=>hy o (by simp [ho])) h2]
structure DK where
 bv:AV
 us:List AV
 bs:List (List Nat)
 wv:AV
 ws:List WR
 dead:Bool
def DK.c (x:DK):List AV:=[x.bv,x.wv,.bool x.dead]
def DK.v (x:DK):AV:=.agg x.c
structure DK.any (x:DK):Prop where
 bl:Sl 1 x.us.length x.us x.bv
 bs:All2 BAt x.us x.bs
 wl:Sl 2 x.ws.length (Ad x.ws) x.wv
 ws:∀ w ∈ x.ws,w.any
structure DK.ok (x:DK):Prop where
 a:x.any
 n:x.us.length<1000000
 m:x.ws.length<1000000
 b:∀ b ∈ x.bs,b.length<1000000
 w:∀ w ∈ x.ws,w.b.length<1000000
theorem Zj:∀ {us:List AV}{bs bs':List (List Nat)},All2 BAt us bs→All2 BAt us bs'→bs=bs':=by
 intro us
 induction us with
 | nil=>intro _ _ a b;cases a;cases b;rfl
 | cons u us ih=>
  intro _ _ a b
  cases a with
  | cons a1 a2=>cases b with
   | cons b1 b2=>rw [a1.inj b1,ih a2 b2]
variable {x:DK}
theorem DK.inj {y:DK}(hx:x.any) (hy:y.any) (h:x.v=y.v):x=y:=by
 obtain ⟨bv,us,bs,wv,ws,dd⟩:=x
 obtain ⟨bv',us',bs',wv',ws',dd'⟩:=y
 have h:=AV.agg.inj h
 simp [DK.c] at h
 obtain ⟨rfl,rfl,rfl⟩:=h
 have e1:=hx.bl.l_inj hy.bl
 have e2:=NS hx.ws hy.ws (hx.wl.l_inj hy.wl)
 dsimp only at e1 e2
 subst e1 e2
 have e3:=Zj hx.bs hy.bs
 dsimp only at e3
 rw [e3]
theorem DK.hf (h:x.any):AM.hf x.v=true:=by
 show (AM.hf x.bv && (AM.hf x.wv && (true && true)))=true
 rw [h.bl.hf,h.wl.hf];rfl
def DU (p:Nat→Bool):List Nat→Nat→Int
 | [],_=>-1
 | n::l,i=>if p n then (i:Int) else DU p l (i+1)
theorem V3 (p:Nat→Bool):∀ (l:List Nat) (i:Nat),(0≤DU p l i↔l.any p=true)
 | [],i=>by simp [DU]
 | n::l,i=>by
  unfold DU
  rw [List.any_cons]
  cases h:p n
  ·simp only [Bool.false_or,Bool.false_eq_true,if_false];exact V3 p l (i+1)
  ·simp
theorem Ze5 (e:Env) (hE:EM P e) (p:Nat→Bool) (g:Nat) (hg:∀ (x:BN),x.ok→∀ (s:St) (K:AV→St→Prop),K (.bool (p x.n)) s→ECall e g [x.v] s K) (x:BL) (hx:x.ok) (Q:AV→St→Prop) (k:∀ s,Q (.int .i64 (DU p x.ns 0)) s):
 VW P e 0 Zjl (Ah [x.v,.fn g [] []] 0 .lf) St0 none [] (BW [.tmp 4] Q):=by
 obtain ⟨v,us,ns⟩:=x
 obtain ⟨hs,hb,hl⟩:=hx
 dsimp only at hs hb hl k ⊢
 have hlen:=hb.length
 conv=>whnf
 refine Ai hs ?_;conv=>whnf
 refine LT (α:=Nat) (fun i=>[(0,v),(1,.fn g [] []),(7,.int .i64 (us.length:Int)),(8,.int .i64 (i:Int))]) (fun i=>[]) (fun i=>us.length-i)
  (fun i=>i≤us.length∧DU p ns 0=DU p (ns.drop i) i) 0 [] ⟨Zqs _,rfl⟩ ⟨by decide,⟨t9 hs.hf,r9,r9,r9,trivial⟩,trivial⟩ ?_
 rintro i ⟨hi,hI⟩
 refine Cy hE ?_;conv=>whnf
 refine Bb rfl rfl (fun h=>?_) (fun h=>?_) <;> conv=>whnf
 ·have hlt:i<us.length:=by omega
  have hln:i<ns.length:=by omega
  refine Cr rfl hs rfl hlt ?_;conv=>whnf
  refine EHead.mk (v:=us[i]) (by rw [Zrc,Zqk,Zri,Zp9 hlt]) ?_;conv=>whnf
  obtain ⟨n,hn,hbn⟩:=hb.get (Zp9 hlt)
  have hn':ns[i]=n:=by rw [Zp9 hln] at hn;exact Zrh hn
  rw [Zqw hln,hn'] at hI
  refine hg ⟨us[i],n⟩ hbn _ _ ?_
  rw [show DU p (n::ns.drop (i+1)) i=if p n then (i:Int) else DU p (ns.drop (i+1)) (i+1) from rfl] at hI
  dsimp only
  cases ho:p n
  ·rw [ho,Zqh (by decide)] at hI
   conv=>whnf
   repeat' (first|((first|refine v7 ?_|refine ⟨rfl,?_⟩);conv=>whnf)|fail)
   refine ⟨i+1,⟨hlt,hI⟩,by omega,[],⟨by decide,⟨t9 hs.hf,r9,r9,⟨rfl,by simp;rfl⟩,trivial⟩,trivial⟩⟩
  ·rw [ho,Zqd rfl] at hI
   conv=>whnf
   rw [hI] at k;exact k _
 ·have hd:ns.drop i=[]:=Zq5 (by omega)
  rw [hd] at hI
  have hI:DU p ns 0=-1:=hI
  rw [hI] at k;exact k _
def Jj (p:Nat→Bool) (g:Nat):Fam BL:=⟨BL.ok,fun x=>[x.v,.fn g [] []],fun x=>.int .i64 (DU p x.ns 0),fun x y hx hy h=>by rw [BL.inj hx hy (Zql h).1]⟩
theorem V7 {e:Env}(hE:EM P e) (p:Nat→Bool) (g:Nat) (hg:∀ (x:BN),x.ok→∀ (s:St) (K:AV→St→Prop),K (.bool (p x.n)) s→ECall e g [x.v] s K):OvOk P 142 (Jj p g).O:=by
 refine Cx g142.b fun x hx=>?_
 refine ⟨by show (AM.hf x.v && (true && true && true))=true;rw [hx.sl.hf];rfl,rfl,C.of_G hE g142 (Ze5 e hE p g hg x hx _ fun s=>.plain _ rfl)⟩
def Ge (h1 h2:Ov):Ov:=fun args s=>match h1 args s with
 | .fail=>h2 args s
 | r=>r
theorem R8 {f:Nat}{h1 h2:Ov}(q1:OvOk P f h1) (q2:OvOk P f h2):OvOk P f (Ge h1 h2):=by
 refine ⟨q1.1,fun args s v s' h=>?_⟩
 unfold Ge at h
 cases hq:h1 args s with
 | fail=>rw [hq] at h;exact q2.2 args s v s' h
 | ok v1 s1=>rw [hq] at h;cases h;exact q1.2 args s _ _ hq
end Go.AM
namespace Go.AM
open Go.RowKit
def tWr:List Ty:=[.int .i64,tByt]
def tDisk:List Ty:=[.sl tByt,.sl (.st tWr),.bool]
end Go.AM
namespace Go.AM
open X
def cfgC:Ce Cfg:=⟨6,fun c l=>l=c.c∧c.ok,by rintro _ _ ⟨rfl,_⟩;rfl,by rintro _ _ ⟨rfl,_⟩;rfl,by rintro _ _ _ ⟨rfl,_⟩ ⟨h,_⟩;exact Cfg.inj h⟩
def lvC:Ce Lv:=⟨6,fun c l=>l=c.c∧c.ok,by rintro _ _ ⟨rfl,_⟩;rfl,by rintro _ _ ⟨rfl,_⟩;rfl,by
 rintro ⟨⟩ ⟨⟩ _ ⟨rfl,_⟩ ⟨h,_⟩
 simp [Lv.c] at h
 obtain ⟨rfl,rfl,rfl,rfl,rfl,rfl⟩:=h;rfl⟩
abbrev i64C:=Ce.int .i64
abbrev u32C:=Ce.int .u32
abbrev bytC:=Ce.u8.sl
abbrev blkC:=bytC.sl
abbrev Hd:=Int×List (List Nat)×List Bool×Nat×Bool×Int
def hdC:Ce Hd:=i64C.pr (blkC.pr (Ce.bool.sl.pr (Ce.u8.pr (Ce.bool.pr u32C))))
abbrev Lg:=Int×Int×Int×Int×List Lv
def lgC:Ce Lg:=u32C.pr (u32C.pr (i64C.pr (i64C.pr lvC.sl)))
abbrev Ak:=Nat×Int×Int×List Nat
def akC:Ce Ak:=Ce.u8.pr (i64C.pr (i64C.pr bytC))
abbrev Fl:=Int×Ak×List Nat×List Int×List (List Nat)
def ftC:Ce Fl:=i64C.pr (akC.pr (bytC.pr (u32C.sl.pr blkC)))
abbrev Lo:=Int×Int×Bool×Int×Int×Bool×Bool
def loC:Ce Lo:=u32C.pr (i64C.pr (Ce.bool.pr (i64C.pr (i64C.pr (Ce.bool.pr Ce.bool)))))
abbrev Dv:=Cfg×Bool×Lo×List Hd×Lg×List Fl×Int×Bool
def dvC:Ce Dv:=cfgC.pr (Ce.bool.pr (loC.pr (hdC.sl.pr (lgC.pr (ftC.sl.pr (i64C.pr Ce.bool))))))
abbrev Dk:=List (List Nat)×List (Int×List Nat)×Bool
def wrC:Ce (Int×List Nat):=i64C.pr bytC
def dkC:Ce Dk:=blkC.pr (wrC.sl.pr Ce.bool)
variable {sq:Int}{l:List AV}
theorem Cn {st:Int}{bl:List (List Nat)}{di:List Bool}{ph:Nat}{de:Bool}(h:hdC.r (st,bl,di,ph,de,sq) l):∃ bv dv,l=[.int .i64 st,bv,dv,.int .u8 (ph:Int),.bool de,.int .u32 sq]∧Aa st∧Ls bytC bl bv∧Ls Ce.bool di dv∧ph<256∧Be sq:=by
 obtain ⟨_,_,rfl,⟨rfl,h1⟩,_,_,rfl,⟨bv,rfl,h2⟩,_,_,rfl,⟨dv,rfl,h3⟩,_,_,rfl,⟨rfl,h4⟩,_,_,rfl,rfl,rfl,h5⟩:=h
 exact ⟨bv,dv,rfl,CA h1,h2,h3,h4,IW h5⟩
variable {ag tl us:Int}{L:List Lv}
theorem Mt (h:lgC.r (ag,sq,tl,us,L) l):∃ v,l=[.int .u32 ag,.int .u32 sq,.int .i64 tl,.int .i64 us,v]∧Be ag∧Be sq∧Aa tl∧Aa us∧Ls lvC L v:=by
 obtain ⟨_,_,rfl,⟨rfl,h1⟩,_,_,rfl,⟨rfl,h2⟩,_,_,rfl,⟨rfl,h3⟩,_,_,rfl,⟨rfl,h4⟩,v,rfl,h5⟩:=h
 exact ⟨v,rfl,IW h1,IW h2,CA h3,CA h4,h5⟩
variable {k:Nat}{a m:Int}{d:List Nat}
theorem Iw (h:akC.r (k,a,m,d) l):∃ v,l=[.int .u8 (k:Int),.int .i64 a,.int .i64 m,v]∧k<256∧Aa a∧Aa m∧Ls Ce.u8 d v:=by
 obtain ⟨_,_,rfl,⟨rfl,h1⟩,_,_,rfl,⟨rfl,h2⟩,_,_,rfl,⟨rfl,h3⟩,v,rfl,h4⟩:=h
 exact ⟨v,rfl,h1,CA h2,CA h3,h4⟩
theorem De {n:Int}{st:List Nat}{sq:List Int}{da:List (List Nat)}(h:ftC.r (n,(k,a,m,d),st,sq,da) l):∃ dv tv qv av,l=[.int .i64 n,.int .u8 (k:Int),.int .i64 a,.int .i64 m,dv,tv,qv,av]∧Aa n∧k<256∧Aa a∧Aa m∧Ls Ce.u8 d dv∧Ls Ce.u8 st tv∧Ls u32C sq qv∧Ls bytC da av:=by
 obtain ⟨_,_,rfl,⟨rfl,h1⟩,_,_,rfl,h2,_,_,rfl,⟨tv,rfl,h3⟩,_,_,rfl,⟨qv,rfl,h4⟩,av,rfl,h5⟩:=h
 obtain ⟨dv,rfl,g1,g2,g3,g4⟩:=Iw h2
 exact ⟨dv,tv,qv,av,rfl,CA h1,g1,g2,g3,g4,h3,h4,h5⟩
variable {sp:Bool}
theorem Gu {ev lo:Int}{po dn:Int}{nl br:Bool}(h:loC.r (ev,lo,sp,po,dn,nl,br) l):l=[.int .u32 ev,.int .i64 lo,.bool sp,.int .i64 po,.int .i64 dn,.bool nl,.bool br]∧Be ev∧Aa lo∧Aa po∧Aa dn:=by
 obtain ⟨_,_,rfl,⟨rfl,h1⟩,_,_,rfl,⟨rfl,h2⟩,_,_,rfl,rfl,_,_,rfl,⟨rfl,h3⟩,_,_,rfl,⟨rfl,h4⟩,_,_,rfl,rfl,rfl⟩:=h
 exact ⟨rfl,IW h1,CA h2,CA h3,CA h4⟩
theorem Zpj {c:Cfg}{bk:Bool}{o:Lo}{hs:List Hd}{fs:List Fl}{nx:Int}(h:dvC.r (c,bk,o,hs,(ag,sq,tl,us,L),fs,nx,sp) l):∃ ol hv lv fv,l=c.c++([.bool bk]++(ol++[hv,.int .u32 ag,.int .u32 sq,.int .i64 tl,.int .i64 us,lv,fv,.int .i64 nx,.bool sp]))∧c.ok∧loC.r o ol∧Ls hdC hs hv∧Be ag∧Be sq∧Aa tl∧Aa us∧Ls lvC L lv∧Ls ftC fs fv∧Aa nx:=by
 obtain ⟨_,_,rfl,⟨rfl,h1⟩,_,_,rfl,rfl,ol,_,rfl,h3,_,_,rfl,⟨hv,rfl,h4⟩,_,_,rfl,h5,_,_,rfl,⟨fv,rfl,h6⟩,_,_,rfl,⟨rfl,h7⟩,rfl⟩:=h
 obtain ⟨lv,rfl,g⟩:=Mt h5
 exact ⟨ol,hv,lv,fv,rfl,h1,h3,h4,g.1,g.2.1,g.2.2.1,g.2.2.2.1,g.2.2.2.2,h6,CA h7⟩
variable {bs:List (List Nat)}
theorem Hf {ws:List (Int×List Nat)}{dd:Bool}(h:dkC.r (bs,ws,dd) l):∃ bv wv,l=[bv,wv,.bool dd]∧Ls bytC bs bv∧Ls wrC ws wv:=by
 obtain ⟨_,_,rfl,⟨bv,rfl,h1⟩,_,_,rfl,⟨wv,rfl,h2⟩,rfl⟩:=h
 exact ⟨bv,wv,rfl,h1,h2⟩
theorem Ri:∀ {b:List Nat}{ls:List (List AV)},All2 Ce.u8.r b ls→ls.flatten=Ab b∧∀ x ∈ b,x<256
 | [],_,h=>by cases h;exact ⟨rfl,fun x h=>by cases h⟩
 | x::b,_,h=>by
  cases h with
  | cons h1 h2=>
   obtain ⟨e,g⟩:=Ri h2
   obtain ⟨rfl,hx⟩:=h1
   refine ⟨by rw [List.flatten_cons,e];rfl,fun y hy=>?_⟩
   rcases Zrj.1 hy with rfl|hy
   ·exact hx
   ·exact g y hy
variable {v:AV}
theorem Ls.b {b:List Nat}(h:Ls Ce.u8 b v):BAt v b:=by
 obtain ⟨ls,a,s,_⟩:=h
 obtain ⟨e,g⟩:=Ri a
 rw [e] at s
 exact ⟨s,g⟩
theorem Ls.bl (h:Ls bytC bs v):∃ us,Sl 1 us.length us v∧All2 BAt us bs:=by
 obtain ⟨ls,a,s,_⟩:=h
 have key:∀ {bs:List (List Nat)}{ls:List (List AV)},All2 bytC.r bs ls→All2 BAt ls.flatten bs:=by
  intro bs
  induction bs with
  | nil=>intro _ h;cases h;exact .nil
  | cons b bs ih=>
   intro _ h
   cases h with
   | cons h1 h2=>
    obtain ⟨u,rfl,g⟩:=h1
    exact .cons g.b (ih h2)
 have h1:=key a
 exact ⟨_,by rw [h1.length];exact s,h1⟩
theorem Ls.lv (h:Ls lvC L v):∃ cs,Sl 6 L.length cs v∧L.length≤9223372036854775807∧∀ i,i<L.length→∃ sq st bl pa su ho r,L[i]?=some ⟨sq,st,bl,pa,su,ho⟩∧(Be sq∧Aa st∧Aa bl)∧cs.drop (i*6)=[.int .u32 sq,.int .i64 st,.int .i64 bl,.bool pa,.bool su,.bool ho]++r:=by
 obtain ⟨cs,h1,h2,hn⟩:=h.nth
 refine ⟨cs,h1,h2,fun i hi=>?_⟩
 obtain ⟨⟨sq,st,bl,pa,su,ho⟩,_,r,hx,⟨rfl,⟨o1,o2,o3⟩⟩,hd⟩:=hn i hi
 exact ⟨sq,st,bl,pa,su,ho,r,hx,⟨o1,o2,o3⟩,hd⟩
theorem KB (h1:k<256) (h2:Aa a) (h3:Aa m) (h4:Ls Ce.u8 d v):akC.r (k,a,m,d) [.int .u8 (k:Int),.int .i64 a,.int .i64 m,v]:=
 ⟨[_],_,rfl,⟨rfl,h1⟩,[_],_,rfl,⟨rfl,AW h2⟩,[_],_,rfl,⟨rfl,AW h3⟩,v,rfl,h4⟩
end Go.AM
