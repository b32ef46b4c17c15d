/-
 Functions of the program as the abstract machine reads them, and what is stated of them, checked by the kernel. No conditions.
-/
import Derived.Test.YtnnbibnobmegpaaGreatAM5
import Derived.Test.YtnnbibnobmegpaaGreatXN
set_option linter.unusedVariables false
set_option linter.unusedSimpArgs false
set_option linter.unnecessarySimpa false
set_option maxRecDepth 100000
namespace Go.AM
attribute [local irreducible] W
open X
theorem KL {b:Bool}{y z:Prop}(h:b=true) (hy:y):(Bool.rec (motive:=fun _=>Prop) z y b):=by rw [h];exact hy
section
variable {t:AT}{s:St}{k:AV→St→Prop}{x y:AO}
theorem L9 {es r o m n:Nat}{c:Option Nat}{l:List AV}{v:AV}{s1:St}(hx:ev x t=.some (.sl r o m c)) (hy:ev y t=.some v) (hv:Sl es n l v) (hn:n≤m) (hst:storeAt r o l s=some s1) (hk:∀ s',(s'=s∧l=[])∨s'=s1→k (.int .i64 (Int.ofNat n)) s'):EPrim (.copy es x y) t s k:=by
 rcases hv with ⟨rfl,rfl,h0⟩|⟨rfl,rfl,h0⟩|⟨c',rfl,hl⟩
 ·refine EPrim.mk (v:=.int .i64 (Int.ofNat 0)) (s':=s) (fun e rec=>?_) (hk s (.inl ⟨rfl,h0⟩))
  show wth x t _=_;unfold wth;rw [hx]
  show wth y t _=_;unfold wth;rw [hy]
  rfl
 ·refine EPrim.mk (v:=.int .i64 (Int.ofNat 0)) (s':=s) (fun e rec=>?_) (hk s (.inl ⟨rfl,h0⟩))
  show wth x t _=_;unfold wth;rw [hx]
  show wth y t _=_;unfold wth;rw [hy]
  rfl
 ·refine EPrim.mk (v:=.int .i64 (Int.ofNat n)) (s':=s1) (fun e rec=>?_) (hk s1 (.inr rfl))
  show wth x t _=_;unfold wth;rw [hx]
  show wth y t _=_;unfold wth;rw [hy]
  show (Option.rec .fail (fun cs=>F2 (CB (Nat.min n m)) (storeAt r o cs s)) (Bf (Nat.mul (Nat.min n m) es) l):RV)=_
  have hmin:Nat.min n m=n:=by show min n m=n;omega
  rw [hmin]
  have ht:Bf (Nat.mul n es) l=some l:=by
   have:=EU (l:=l) (n:=n*es) (by omega)
   rw [Zoo (by omega)] at this
   exact this
  rw [ht]
  show F2 _ (storeAt r o l s)=_
  rw [hst];rfl
theorem HB {q:IntKind}{a b:Nat}(hx:ev x t=.some (.int q (Int.ofNat a))) (hy:ev y t=.some (.int q (Int.ofNat b))) (h1:a≠b→k (.bool true) s) (h2:a=b→k (.bool false) s):EPrim (.bin .neq x y) t s k:=
 B7 hx hy (fun h=>h1 (fun e=>h (by rw [e]))) (fun h=>h2 (Int.ofNat.inj h))
end
def KG:AC:=match a90 with|.mk c _=>c
def Aa (bs:List Nat):List Nat:=if bs=[] then List.replicate 128 0 else bs
def CY:List AV:=Ab (List.replicate 128 0)
variable {s:St}{r e n:Nat}{cs:List AV}
theorem HC (h:s.get r=some (.row e cs)) (hl:cs.length=n):load r 0 n s=some cs:=by
 rw [Hb h (by omega),List.drop_zero,Zoo (by omega)]
theorem Jk {old:List AV}(h:s.get r=some (.row e old)) (hl:cs.length=old.length):storeAt r 0 cs s=some (s.put r (.row e cs)):=by
 rw [Fl h (by omega),List.take_zero,List.nil_append,Zpb (by omega),Zpq]
theorem Qw {t:AT}{i:Nat}{vs:List AV}{l:List ARes}(ht:t.get i=some (.ptr r 0)) (hl:load r 0 n s=some cs) (h:D3 t s l=some vs):D3 t s (.cells i n::l)=some (.agg cs::vs):=by
 show (Option.rec none (fun v=>Option.rec none (fun vs=>some (v::vs)) (D3 t s l)) (Option.rec none (fun v=>PR.rec none (fun r o=>Option.rec none (fun cs=>some (.agg cs)) (load r o n s)) (fun _=>none) (B0 v)) (t.get i)):Option (List AV))=_
 rw [ht,h]
 show (Option.rec none (fun v=>some (v::vs)) (Option.rec none (fun cs=>some (.agg cs)) (load r 0 n s)):Option (List AV))=_
 rw [hl]
theorem TG (e:Env) (s:St) (v:AV) (bs:List Nat) (hv:Sl 1 bs.length (Ab bs) v) (hN:s.next<1000000000) (K:AV→St→Prop)
 (k1:bs.length≠0→bs.length≠128→∀ s',s'.next=s.next+1→(∀ i,i<s.next→s'.get i=s.get i)→K (.tup [.agg (Ab (List.replicate 128 0)),.int .i64 3]) s')
 (k2:(Aa bs).length=128→∀ s',s'.next=s.next+1→(∀ i,i<s.next→s'.get i=s.get i)→K (.tup [.agg (Ab (Aa bs)),.int .i64 0]) s'):
 VE e KG (Ah [v] 0 .lf) s none [] (AR [.cells 2 128,.tmp 3] K):=by
 obtain ⟨s1,hs1⟩:∃ s1,s.alloc (.row 167 CY)=s1:=⟨_,rfl⟩
 have g1:s1.get s.next=some (.row 167 CY):=by rw [← hs1];exact Im hN
 have g2:∀ i,i<s.next→s1.get i=s.get i:=fun i hi=>by rw [← hs1];exact FF (by omega)
 have g3:s1.next=s.next+1:=by rw [← hs1];exact C8 _ _
 have hz:(CY).length=128:=by simp [CY,Ba]
 conv=>whnf
 refine NF rfl hv ?_;conv=>whnf
 have main:bs.length=0∨bs.length=128→(Aa bs).length=128:=by
  intro h
  unfold Aa
  split
  ·simp
  ·rename_i hne
   rcases h with h|h
   ·exact absurd (Zpd.1 h) hne
   ·exact h
 have hcopy:bs.length=0∨bs.length=128→∃ sc,storeAt s.next 0 (Ab bs) s1=some sc∧∀ s',(s'=s1∧Ab bs=[])∨s'=sc→s'.next=s.next+1∧(∀ i,i<s.next→s'.get i=s.get i)∧s'.get s.next=some (.row 167 (Ab (Aa bs))):=by
  intro h
  refine ⟨_,Fl g1 (by rw [Ba,hz];omega),?_⟩
  rintro s' (⟨rfl,h0⟩|rfl)
  ·refine ⟨g3,g2,?_⟩
   have:bs=[]:=List.map_eq_nil_iff.1 h0
   rw [g1];unfold Aa;rw [Zoj this];rfl
  ·refine ⟨by rw [Cc];exact g3,fun i hi=>by rw [DJ (by omega)];exact g2 i hi,?_⟩
   rw [Fj (by omega)]
   rcases h with h|h
   ·have:bs=[]:=Zpd.1 h
    subst this;simp [Ab,Aa,CY]
   ·have hne:bs≠[]:=fun e=>by subst e;cases h
    unfold Aa;rw [Zon hne,List.take_zero,List.nil_append,Zpb (by rw [Ba,hz];omega),Zpq]
 refine HB (b:=0) rfl rfl (fun h=>?_) (fun h=>?_)
 ·conv=>whnf
  refine NF rfl hv ?_;conv=>whnf
  refine HB (b:=128) rfl rfl (fun h'=>?_) (fun h'=>?_)
  ·conv=>whnf
   refine AP CY (by show load s.next 0 128 (s.alloc (.row 167 CY))=_;rw [hs1];exact HC g1 hz) ?_;conv=>whnf
   refine AP (s1.put s.next (.row 167 CY)) (by show storeAt s.next 0 CY (s.alloc (.row 167 CY))=_;rw [hs1];exact Jk g1 rfl) ?_
   obtain ⟨s2,hs2⟩:∃ s2,s1.put s.next (.row 167 CY)=s2:=⟨_,rfl⟩
   have g4:s2.get s.next=some (.row 167 CY):=by rw [← hs2,Fj (by omega)]
   have g5:∀ i,i<s.next→s2.get i=s.get i:=fun i hi=>by rw [← hs2,DJ (by omega)];exact g2 i hi
   have g6:s2.next=s.next+1:=by rw [← hs2,Cc];exact g3
   rw [hs2]
   conv=>whnf
   refine AP _ (Qw rfl (HC g4 hz) rfl) ?_
   exact k1 h h' s2 g6 g5
  ·have hn:bs.length=0∨bs.length=128:=.inr h'
   conv=>whnf
   refine EPrim.mk (v:=.sl s.next 0 128 (some 128)) (s':=s.alloc (.row 167 CY)) (fun e rec=>rfl) ?_;conv=>whnf
   obtain ⟨sc,hsc,hall⟩:=hcopy hn
   refine L9 (s1:=sc) rfl rfl hv (by omega) (by show storeAt s.next 0 (Ab bs) (s.alloc (.row 167 CY))=_;rw [hs1];exact hsc) (fun s2 hs2=>?_)
   have hs2':(s2=s1∧Ab bs=[])∨s2=sc:=by rw [← hs1];exact hs2
   obtain ⟨a1,a2,a3⟩:=hall s2 hs2'
   have hp:=main hn
   conv=>whnf
   refine AP (Ab (Aa bs)) (HC a3 (by rw [Ba];exact hp)) ?_;conv=>whnf
   refine KL (by show Nat.beq (A3 (Ab (Aa bs))) 128=true;rw [CA,Ba,hp];rfl) ?_;conv=>whnf
   refine AP (s2.put s.next (.row 167 (Ab (Aa bs)))) (Jk a3 rfl) ?_
   obtain ⟨s3,hs3⟩:∃ s3,s2.put s.next (.row 167 (Ab (Aa bs)))=s3:=⟨_,rfl⟩
   have g4:s3.get s.next=some (.row 167 (Ab (Aa bs))):=by rw [← hs3,Fj (by omega)]
   have g5:∀ i,i<s.next→s3.get i=s.get i:=fun i hi=>by rw [← hs3,DJ (by omega)];exact a2 i hi
   have g6:s3.next=s.next+1:=by rw [← hs3,Cc];exact a1
   rw [hs3]
   conv=>whnf
   refine AP _ (Qw rfl (HC g4 (by rw [Ba];exact hp)) rfl) ?_
   exact k2 hp s3 g6 g5
 ·have hn:bs.length=0∨bs.length=128:=.inl h
  conv=>whnf
  refine EPrim.mk (v:=.sl s.next 0 128 (some 128)) (s':=s.alloc (.row 167 CY)) (fun e rec=>rfl) ?_;conv=>whnf
  obtain ⟨sc,hsc,hall⟩:=hcopy hn
  refine L9 (s1:=sc) rfl rfl hv (by omega) (by show storeAt s.next 0 (Ab bs) (s.alloc (.row 167 CY))=_;rw [hs1];exact hsc) (fun s2 hs2=>?_)
  have hs2':(s2=s1∧Ab bs=[])∨s2=sc:=by rw [← hs1];exact hs2
  obtain ⟨a1,a2,a3⟩:=hall s2 hs2'
  have hp:=main hn
  conv=>whnf
  refine AP (Ab (Aa bs)) (HC a3 (by rw [Ba];exact hp)) ?_;conv=>whnf
  refine KL (by show Nat.beq (A3 (Ab (Aa bs))) 128=true;rw [CA,Ba,hp];rfl) ?_;conv=>whnf
  refine AP (s2.put s.next (.row 167 (Ab (Aa bs)))) (Jk a3 rfl) ?_
  obtain ⟨s3,hs3⟩:∃ s3,s2.put s.next (.row 167 (Ab (Aa bs)))=s3:=⟨_,rfl⟩
  have g4:s3.get s.next=some (.row 167 (Ab (Aa bs))):=by rw [← hs3,Fj (by omega)]
  have g5:∀ i,i<s.next→s3.get i=s.get i:=fun i hi=>by rw [← hs3,DJ (by omega)];exact a2 i hi
  have g6:s3.next=s.next+1:=by rw [← hs3,Cc];exact a1
  rw [hs3]
  conv=>whnf
  refine AP _ (Qw rfl (HC g4 (by rw [Ba];exact hp)) rfl) ?_
  exact k2 hp s3 g6 g5
def KF:AC:=match a91 with|.mk c _=>c
def Df (a z:Int):Bool:=decide (1≤z∧z≤4∧0≤a∧a≤128-z)
theorem Vb (e:Env) (s:St) (a z:Int) (K:AV→St→Prop) (h:K (.bool (Df a z)) s):VE e KF (Ah [.int .i64 a,.int .i64 z] 0 .lf) s none [] (AR [.tmp 4] K):=by
 unfold Df at h
 conv=>whnf
 refine FI rfl rfl (fun h1=>?_) (fun h1=>?_)
 ·conv=>whnf
  refine Qp rfl rfl (fun h2=>?_) (fun h2=>?_)
  ·conv=>whnf
   refine FI rfl rfl (fun h3=>?_) (fun h3=>?_)
   ·conv=>whnf
    refine Iw rfl rfl (by omega) ?_;conv=>whnf
    refine Qp rfl rfl (fun h4=>?_) (fun h4=>?_)
    ·conv=>whnf
     rw [Zok ⟨h1,h2,h3,h4⟩] at h;exact h
    ·conv=>whnf
     rw [Zow (by omega)] at h;exact h
   ·conv=>whnf
    rw [Zow (by omega)] at h;exact h
  ·conv=>whnf
   rw [Zow (by omega)] at h;exact h
 ·conv=>whnf
  rw [Zow (by omega)] at h;exact h
section
variable {t:AT}{s:St}{k:AV→St→Prop}{x y:AO}
variable {a:Nat}
theorem PO {q:IntKind}(hx:ev x t=.some (.int q (Int.ofNat a))) (ha:a<9223372036854775808) (hk:k (.int .i64 (Int.ofNat a)) s):EPrim (.cvi .i64 x) t s k:=by
 refine EPrim.mk (v:=.int .i64 (Int.ofNat a)) (s':=s) (fun e rec=>?_) hk
 show wth x t _=_;unfold wth;rw [hx]
 show RV.ok (.int .i64 (Ef .i64 (Int.ofNat a))) s=_
 rw [Er,i64_in (by have:Int.ofNat a=(a:Int):=rfl;omega)]
theorem Za9 {n:Nat}{r:IntKind}(hx:ev x t=.some (.int .i64 (Int.ofNat a))) (hy:ev y t=.some (.int r (Int.ofNat n))) (hn:n≤64) (h:a*2^n<9223372036854775808) (hk:k (.int .i64 (Int.ofNat (a*2^n))) s):EPrim (.bin .shl x y) t s k:=by
 refine DM hx hy (v:=.int .i64 (Int.ofNat (a*2^n))) ?_ hk
 show OV.some (.int .i64 (Ef .i64 (MP (Int.ofNat a) (.ofNat (2^(Nat.min n 64))))))=_
 rw [show Nat.min n 64=n from Nat.min_eq_left hn,Er,O2]
 have e1:Int.ofNat a*Int.ofNat (2^n)=Int.ofNat (a*2^n):=rfl
 rw [e1,i64_in (by have:Int.ofNat (a*2^n)=((a*2^n:Nat):Int):=rfl;omega)]
theorem Zdt {b:Nat}(hx:ev x t=.some (.int .i64 (Int.ofNat a))) (hy:ev y t=.some (.int .i64 (Int.ofNat b))) (ha:a<9223372036854775808) (hb:b<9223372036854775808) (hk:k (.int .i64 (Int.ofNat (a ||| b))) s):EPrim (.bin .or x y) t s k:=by
 refine DM hx hy (v:=.int .i64 (Int.ofNat (a ||| b))) ?_ hk
 show OV.some (.int .i64 (IntKind.i64.wrap (((BitVec.or (BitVec.ofInt 64 (a:Int)) (BitVec.ofInt 64 (b:Int))).toNat:Nat):Int)))=_
 have e1:(BitVec.or (BitVec.ofInt 64 (a:Int)) (BitVec.ofInt 64 (b:Int))).toNat=a ||| b:=by
  show (BitVec.ofInt 64 (a:Int) ||| BitVec.ofInt 64 (b:Int)).toNat=_
  rw [BitVec.toNat_or,BitVec.ofInt_natCast,BitVec.ofInt_natCast,BitVec.toNat_ofNat,BitVec.toNat_ofNat,Zqc (by omega),Zqc (by omega)]
 have hlt:a ||| b<2^63:=Nat.or_lt_two_pow (by omega) (by omega)
 rw [e1,i64_in (by omega)];rfl
end
def Zm7:AC:=match a62 with|.mk c _=>c
def Ak (bs:List Nat) (a:Nat):Nat→Nat
 | 0=>0
 | n+1=>Ak bs a n ||| bs.getD (a+n) 0*2^(8*n)
theorem Zd9 (e:Env) (hE:EM P e) (h130:Inl e 90 KG [.cells 2 128,.tmp 3]) (h131:Inl e 91 KF [.tmp 4]) (v:AV) (bs:List Nat) (hv:Sl 1 bs.length (Ab bs) v) (hb:∀ b ∈ bs,b<256) (a z:Int) (Q:AV→St→Prop)
 (k1:bs.length≠0→bs.length≠128→∀ s,Q (.tup [.int .i64 0,.int .i64 3]) s)
 (k2:(Aa bs).length=128→Df a z=false→∀ s,Q (.tup [.int .i64 0,.int .i64 2]) s)
 (k3:(Aa bs).length=128→Df a z=true→∀ s,Q (.tup [.int .i64 (Int.ofNat (Ak (Aa bs) a.toNat z.toNat)),.int .i64 0]) s):
 VW P e 0 Zm7 (Ah [v,.int .i64 a,.int .i64 z] 0 .lf) St0 none [] (AR [.tmp 6,.tmp 7] Q):=by
 have hpad:∀ b ∈ Aa bs,b<256:=by
  unfold Aa
  split
  ·intro b hb';rw [Zqe hb'];decide
  ·exact hb
 conv=>whnf
 refine ESc.inl h130 (TG e _ v bs hv (by decide) _ (fun h1 h2 s' n1 n2=>?_) (fun h1 s' n1 n2=>?_))
 ·have hn1:s'.next=1:=n1
  conv=>whnf
  refine AP _ (Jk (e:=167) (old:=CY) (Im (by omega)) rfl) ?_;conv=>whnf
  refine HB (a:=3) (b:=0) rfl rfl (fun _=>?_) (fun h=>by cases h);conv=>whnf
  exact k1 h1 h2 _
 ·have hn1:s'.next=1:=n1
  have hbl:(Ab (Aa bs)).length=128:=by rw [Ba];exact h1
  obtain ⟨s1,hs1⟩:∃ s1,s'.alloc (.row 167 CY)=s1:=⟨_,rfl⟩
  have g1:s1.get s'.next=some (.row 167 CY):=by rw [← hs1];exact Im (by omega)
  conv=>whnf
  refine KL (by show Nat.beq (A3 (Ab (Aa bs))) 128=true;rw [CA,hbl];rfl) ?_;conv=>whnf
  refine AP (s1.put s'.next (.row 167 (Ab (Aa bs)))) (by show storeAt s'.next 0 (Ab (Aa bs)) (s'.alloc (.row 167 CY))=_;rw [hs1];exact Jk g1 (by rw [hbl];rfl)) ?_
  obtain ⟨s2,hs2⟩:∃ s2,s1.put s'.next (.row 167 (Ab (Aa bs)))=s2:=⟨_,rfl⟩
  have g4:s2.get s'.next=some (.row 167 (Ab (Aa bs))):=by rw [← hs2,Fj (by omega)]
  rw [hs2]
  conv=>whnf
  refine HB (a:=0) (b:=0) rfl rfl (fun h=>absurd rfl h) (fun _=>?_);conv=>whnf
  refine ESc.inl h131 (Vb e _ a z _ ?_)
  cases hf:Df a z with
  | false=>
   conv=>whnf
   refine LE rfl ?_;conv=>whnf
   exact k2 h1 hf _
  | true=>
   conv=>whnf
   refine Qn rfl ?_;conv=>whnf
   have hfz:=Zpw hf
   obtain ⟨A,rfl⟩:∃ A:Nat,a=Int.ofNat A:=⟨a.toNat,by show a=(a.toNat:Int);omega⟩
   obtain ⟨Z,rfl⟩:∃ Z:Nat,z=Int.ofNat Z:=⟨z.toNat,by show z=(z.toNat:Int);omega⟩
   have eA:Int.ofNat A=(A:Int):=rfl
   have eZ:Int.ofNat Z=(Z:Int):=rfl
   refine EX (α:=Nat) (fun i=>[(1,.int .i64 (Int.ofNat A)),(6,.int .i64 (Int.ofNat (Ak (Aa bs) A i))),(8,.ptr 0 0),(22,.int .i64 (Int.ofNat Z)),(23,.int .i64 (Int.ofNat i))]) (fun _=>[.row 167 (Ab (Aa bs))]) (fun i=>Z-i)
    (fun i=>i≤Z) 0 [s'.next] (Zoy _) ⟨by simp,⟨⟨rfl,rfl⟩,⟨rfl,rfl⟩,⟨rfl,rfl⟩,⟨rfl,rfl⟩,⟨rfl,rfl⟩,trivial⟩,⟨⟨?_,?_⟩,trivial⟩⟩ ?_
   ·exact Dd _ (AJ _)
   ·rw [g4];show _=some (AObj.row 167 (At _ (Ab (Aa bs))));rw [Dc _ (AJ _)]
   intro i hi
   have hnum:∀ j,j≤4→Ak (Aa bs) A j<2^(8*j):=by
    intro j
    induction j with
    | zero=>intro _;exact Nat.zero_lt_one
    | succ j ih=>
     intro hj
     have hlt:(Aa bs).getD (A+j) 0<256:=by
      rw [Zo8]
      cases hq:(Aa bs)[A+j]? with
      | none=>decide
      | some q=>exact hpad q (Zo1 hq)
     have e8:8*(j+1)=8*j+8:=by omega
     refine Nat.or_lt_two_pow (Zp9 (ih (by omega)) (Nat.pow_le_pow_right (by decide) (by omega))) ?_
     rw [e8,Nat.pow_add,Nat.mul_comm]
     exact Nat.mul_lt_mul_of_pos_left hlt (Nat.two_pow_pos _)
   refine A9 hE ?_;conv=>whnf
   refine Qo rfl rfl (fun h=>?_) (fun h=>?_)
   ·have hAi:A+i<(Aa bs).length:=by omega
    have hbi:(Aa bs)[A+i]<256:=hpad _ (Zpg hAi)
    have hp8:(Aa bs)[A+i]*2^(8*i)<2^32:=by
     have:2^(8*i)≤2^24:=Nat.pow_le_pow_right (by decide) (by omega)
     calc _<256*2^(8*i):=Nat.mul_lt_mul_of_pos_right hbi (Nat.two_pow_pos _)
      _≤256*2^24:=Nat.mul_le_mul_left _ this
      _=2^32:=by decide
    have hni:Ak (Aa bs) A i<2^32:=Zp9 (hnum i (by omega)) (Nat.pow_le_pow_right (by decide) (by omega))
    conv=>whnf
    refine Iy rfl rfl (by omega) ?_;conv=>whnf
    refine LH rfl rfl (by omega) ?_;conv=>whnf
    refine AP (.int .u8 (Int.ofNat (Aa bs)[A+i])) (by
     rw [Zou,Zpi]
     show Fc (Ab (Aa bs)) (A+i)=_
     rw [HI];simp [Ab,byV,hAi]) ?_
    conv=>whnf
    refine PO rfl (by omega) ?_;conv=>whnf
    refine EA rfl rfl (by have:Int.ofNat i=(i:Int):=rfl;omega) ?_;conv=>whnf
    refine Za9 (n:=8*i) rfl rfl (by omega) (by omega) ?_;conv=>whnf
    refine Zdt rfl rfl (by omega) (by omega) ?_;conv=>whnf
    refine Qr rfl rfl rfl (by omega) ?_;conv=>whnf
    refine ⟨rfl,i+1,by omega,by omega,[0],⟨by decide,⟨r9,⟨rfl,?_⟩,r9,r9,r9,trivial⟩,⟨⟨Dd _ (AJ _),?_⟩,trivial⟩⟩⟩
    ·show _=some (AV.int .i64 (Int.ofNat (Ak (Aa bs) A i ||| (Aa bs).getD (A+i) 0*2^(8*i))))
     rw [Zo8,Zof hAi]
     rfl
    ·show _=some (AObj.row 167 (At _ (Ab (Aa bs))));rw [Dc _ (AJ _)];rfl
   ·conv=>whnf
    have:i=Z:=by omega
    subst this
    exact k3 h1 hf _
theorem Oy {bs:List Nat}(h:(Aa bs).length=128):¬ (bs.length≠0∧bs.length≠128):=by
 unfold Aa at h
 split at h
 ·rename_i e;subst e;simp
 ·rintro ⟨_,h2⟩;exact h2 h
def EG (bs:List Nat) (a z:Int):AV:=
 if bs.length≠0∧bs.length≠128 then .tup [.int .i64 0,.int .i64 3] else if Df a z=true then .tup [.int .i64 (Int.ofNat (Ak (Aa bs) a.toNat z.toNat)),.int .i64 0] else .tup [.int .i64 0,.int .i64 2]
theorem Zen (bs:List Nat) (a z:Int):sc (EG bs a z)=true:=by
 unfold EG
 split
 ·rfl
 ·split <;> rfl
noncomputable def EZ (args:List AV) (s:St):RV:=match args with
 | [v,.int .i64 a,.int .i64 z]=>Option.rec .fail (fun bs=>.ok (EG bs a z) s) (BQ s v)
 | _=>.fail
theorem Zea {e:Env}(hE:EM P e) (h130:Inl e 90 KG [.cells 2 128,.tmp 3]) (h131:Inl e 91 KF [.tmp 4]):OvOk P 62 EZ:=by
 refine ⟨g62.b,fun args s v s' h=>?_⟩
 unfold EZ at h
 split at h
 ·rename_i u a z
  obtain ⟨bs,hbs,h⟩:=A6 h
  obtain ⟨rfl,rfl⟩:=Ap h
  obtain ⟨v2,hF,hSl,hlt⟩:=Nv hbs
  have hfs2:hfs [v2,.int .i64 a,.int .i64 z]=true:=by simp [hfs,hSl.hf];exact ⟨rfl,rfl⟩
  refine HQ (args2:=[v2,.int .i64 a,.int .i64 z]) (.cons hF (.cons (.plain _ rfl) (.cons (.plain _ rfl) .nil))) (Zen bs a z) (GZ hfs2 ?_)
  refine C.of_G hE g62 (Zd9 e hE h130 h131 v2 bs hSl hlt a z _ (fun h1 h2 s=>?_) (fun h0 h1 s=>?_) (fun h0 h1 s=>?_))
  ·have e1:EG bs a z=.tup [.int .i64 0,.int .i64 3]:=by unfold EG;rw [Zoj ⟨h1,h2⟩]
   rw [e1];exact .plain _ rfl
  ·have e1:EG bs a z=.tup [.int .i64 0,.int .i64 2]:=by unfold EG;rw [Zon (Oy h0),Zon (by rw [h1];simp)]
   rw [e1];exact .plain _ rfl
  ·have e1:EG bs a z=.tup [.int .i64 (Int.ofNat (Ak (Aa bs) a.toNat z.toNat)),.int .i64 0]:=by unfold EG;rw [Zon (Oy h0),Zoj h1]
   rw [e1];exact .plain _ rfl
 ·cases h
end Go.AM
namespace Go.AM
attribute [local irreducible] W
open X
section
variable {t:AT}{s:St}{k:AV→St→Prop}{x y:AO}
theorem ZH {q:IntKind}{a:Nat}(hx:ev x t=.some (.int q (Int.ofNat a))) (hk:k (.int .u8 (Int.ofNat (a % 256))) s):EPrim (.cvi .u8 x) t s k:=by
 refine EPrim.mk (v:=.int .u8 (Int.ofNat (a % 256))) (s':=s) (fun e rec=>?_) hk
 show wth x t _=_;unfold wth;rw [hx]
 rfl
end
def Zkm:AC:=match a67 with|.mk c _=>c
def Aq (bs:List Nat) (a n:Nat):Nat→List Nat
 | 0=>bs
 | i+1=>(Aq bs a n i).set (a+i) (n / 2^(8*i) % 256)
theorem Bt (bs:List Nat) (a n:Nat):∀ i,(Aq bs a n i).length=bs.length
 | 0=>rfl
 | i+1=>by rw [Aq,List.length_set,Bt bs a n i]
theorem Zk1 (bs:List Nat) (i b:Nat):Ab (bs.set i b)=(Ab bs).set i (.int .u8 (Int.ofNat b)):=by simp [Ab,List.map_set,byV]
def DA (a z n:Int):Bool:=Df a z && decide (0≤n∧n.toNat / 2^(8*z.toNat)=0)
theorem Zhp (e:Env) (hE:EM P e) (h130:Inl e 90 KG [.cells 2 128,.tmp 3]) (h131:Inl e 91 KF [.tmp 4]) (v:AV) (bs:List Nat) (hv:Sl 1 bs.length (Ab bs) v) (a z n:Int) (Q:AV→St→Prop)
 (k1:bs.length≠0→bs.length≠128→∀ s,Q (.tup [.nils,.int .i64 3]) s)
 (k2:(Aa bs).length=128→DA a z n=false→∀ s,Q (.tup [.nils,.int .i64 2]) s)
 (k3:(Aa bs).length=128→DA a z n=true→∀ s r,s.get r=some (.row 167 (Ab (Aq (Aa bs) a.toNat n.toNat z.toNat)))→Q (.tup [.sl r 0 128 (some 128),.int .i64 0]) s):
 VW P e 0 Zkm (Ah [v,.int .i64 a,.int .i64 z,.int .i64 n] 0 .lf) St0 none [] (AR [.tmp 8,.tmp 9] Q):=by
 conv=>whnf
 refine ESc.inl h130 (TG e _ v bs hv (by decide) _ (fun h1 h2 s' n1 n2=>?_) (fun h1 s' n1 n2=>?_))
 ·have hn1:s'.next=1:=n1
  conv=>whnf
  refine AP _ (Jk (e:=167) (old:=CY) (Im (by omega)) rfl) ?_;conv=>whnf
  refine HB (a:=3) (b:=0) rfl rfl (fun _=>?_) (fun h=>by cases h);conv=>whnf
  exact k1 h1 h2 _
 ·have hn1:s'.next=1:=n1
  have hbl:(Ab (Aa bs)).length=128:=by rw [Ba];exact h1
  obtain ⟨s1,hs1⟩:∃ s1,s'.alloc (.row 167 CY)=s1:=⟨_,rfl⟩
  have g1:s1.get s'.next=some (.row 167 CY):=by rw [← hs1];exact Im (by omega)
  conv=>whnf
  refine KL (by show Nat.beq (A3 (Ab (Aa bs))) 128=true;rw [CA,hbl];rfl) ?_;conv=>whnf
  refine AP (s1.put s'.next (.row 167 (Ab (Aa bs)))) (by show storeAt s'.next 0 (Ab (Aa bs)) (s'.alloc (.row 167 CY))=_;rw [hs1];exact Jk g1 (by rw [hbl];rfl)) ?_
  obtain ⟨s2,hs2⟩:∃ s2,s1.put s'.next (.row 167 (Ab (Aa bs)))=s2:=⟨_,rfl⟩
  have g4:s2.get s'.next=some (.row 167 (Ab (Aa bs))):=by rw [← hs2,Fj (by omega)]
  rw [hs2]
  conv=>whnf
  refine HB (a:=0) (b:=0) rfl rfl (fun h=>absurd rfl h) (fun _=>?_);conv=>whnf
  refine ESc.inl h131 (Vb e _ a z _ ?_)
  cases hf:Df a z with
  | false=>
   conv=>whnf
   refine LE rfl ?_;conv=>whnf
   exact k2 h1 (by unfold DA;rw [hf];rfl) _
  | true=>
   conv=>whnf
   refine Qn rfl ?_;conv=>whnf
   have hfz:=Zpw hf
   obtain ⟨A,rfl⟩:∃ A:Nat,a=Int.ofNat A:=⟨a.toNat,by show a=(a.toNat:Int);omega⟩
   obtain ⟨Z,rfl⟩:∃ Z:Nat,z=Int.ofNat Z:=⟨z.toNat,by show z=(z.toNat:Int);omega⟩
   have eA:Int.ofNat A=(A:Int):=rfl
   have eZ:Int.ofNat Z=(Z:Int):=rfl
   refine Ag rfl rfl (fun hneg=>?_) (fun hneg=>?_)
   ·conv=>whnf
    exact k2 h1 (by unfold DA;rw [Zow (by omega)];simp) _
   ·obtain ⟨M,rfl⟩:∃ M:Nat,n=Int.ofNat M:=⟨n.toNat,by show n=(n.toNat:Int);omega⟩
    conv=>whnf
    refine EA rfl rfl (by omega) ?_;conv=>whnf
    refine NE (n:=8*Z) rfl rfl (by show 8*Z≤64;omega) ?_;conv=>whnf
    refine HB (b:=0) rfl rfl (fun h=>?_) (fun h=>?_)
    ·conv=>whnf
     exact k2 h1 (by unfold DA;rw [Zow (fun hh=>h hh.2)];simp) _
    ·conv=>whnf
     have hok:DA (Int.ofNat A) (Int.ofNat Z) (Int.ofNat M)=true:=by
      unfold DA;rw [hf,Zok ⟨hneg,h⟩];rfl
     refine EX (α:=Nat) (fun i=>[(1,.int .i64 (Int.ofNat A)),(3,.int .i64 (Int.ofNat M)),(10,.ptr 0 0),(36,.int .i64 (Int.ofNat Z)),(37,.int .i64 (Int.ofNat i))]) (fun i=>[.row 167 (Ab (Aq (Aa bs) A M i))]) (fun i=>Z-i)
      (fun i=>i≤Z) 0 [s'.next] (Zoy _) ⟨by simp,⟨⟨rfl,rfl⟩,⟨rfl,rfl⟩,⟨rfl,rfl⟩,⟨rfl,rfl⟩,⟨rfl,rfl⟩,trivial⟩,⟨⟨?_,?_⟩,trivial⟩⟩ ?_
     ·exact Dd _ (AJ _)
     ·rw [g4];show _=some (AObj.row 167 (At _ (Ab (Aa bs))));rw [Dc _ (AJ _)]
     intro i hi
     have hlen:(Ab (Aq (Aa bs) A M i)).length=128:=by rw [Ba,Bt];exact h1
     refine A9 hE ?_;conv=>whnf
     refine Qo rfl rfl (fun h=>?_) (fun h=>?_)
     ·conv=>whnf
      refine Iy rfl rfl (by omega) ?_;conv=>whnf
      refine EA rfl rfl (by have:Int.ofNat i=(i:Int):=rfl;omega) ?_;conv=>whnf
      refine NE (n:=8*i) rfl rfl (by show 8*i≤64;omega) ?_;conv=>whnf
      refine ZH rfl ?_;conv=>whnf
      refine LH rfl rfl (by omega) ?_;conv=>whnf
      refine AP ((Ac St0 [.row 167 (Ab (Aq (Aa bs) A M i))]).put 0 (.row 167 (Ab (Aq (Aa bs) A M (i+1))))) (by
       rw [Zou,Zpi]
       show storeAt 0 (A+i) [AV.int .u8 (Int.ofNat (M / 2^(8*i) % 256))] (Ac St0 [.row 167 (Ab (Aq (Aa bs) A M i))])=_
       rw [Fl (e:=167) (cs:=Ab (Aq (Aa bs) A M i)) rfl (by rw [hlen];simp;omega)]
       rw [Aq,Zk1,List.set_eq_take_append_cons_drop,Zoj (by rw [hlen];omega)]
       simp) ?_
      conv=>whnf
      refine Qr rfl rfl rfl (by omega) ?_;conv=>whnf
      refine ⟨rfl,i+1,by omega,by omega,[0],⟨by decide,⟨r9,r9,r9,r9,r9,trivial⟩,⟨⟨Dd _ (AJ _),?_⟩,trivial⟩⟩⟩
      show _=some (AObj.row 167 (At _ (Ab (Aq (Aa bs) A M (i+1)))));rw [Dc _ (AJ _)];rfl
     ·have:i=Z:=by omega
      subst this
      conv=>whnf
      refine EPrim.mk (v:=.sl 0 0 128 (some 128)) (s':=Ac St0 [.row 167 (Ab (Aq (Aa bs) A M i))]) (fun e rec=>rfl) ?_;conv=>whnf
      exact k3 h1 hok _ 0 rfl
theorem Xp {v:AV}{bs:List Nat}(h:BQ St0 v=some bs):Sl 1 bs.length (Ab bs) v∧∀ b ∈ bs,b<256:=by
 obtain ⟨v2,hF,hS,hb⟩:=Nv h
 refine ⟨?_,hb⟩
 cases hF with
 | plain _ _=>exact hS
 | sl r o n cap cap' e cs l us hg _ _ _=>cases hg
 | ptr r o e cs l us hg _ _=>cases hg
 | agg l us _=>rcases hS with ⟨h,_⟩|⟨h,_⟩|⟨c,h,_⟩ <;> cases h
 | tup l us _=>rcases hS with ⟨h,_⟩|⟨h,_⟩|⟨c,h,_⟩ <;> cases h
 | fn f xs ys us ws _ _=>rcases hS with ⟨h,_⟩|⟨h,_⟩|⟨c,h,_⟩ <;> cases h
def E4 (bs:List Nat) (a z n:Int):AV:=
 if bs.length≠0∧bs.length≠128 then .tup [.nils,.int .i64 3] else if DA a z n=true then .tup [.fz 128 (some 128) (Ab (Aq (Aa bs) a.toNat n.toNat z.toNat)),.int .i64 0] else .tup [.nils,.int .i64 2]
theorem Zin (bs:List Nat) (a z n:Int):hf (E4 bs a z n)=true:=by
 unfold E4
 split
 ·rfl
 ·split <;> rfl
noncomputable def EH (args:List AV) (s:St):RV:=match args with
 | [v,.int .i64 a,.int .i64 z,.int .i64 n]=>Option.rec .fail (fun bs=>.ok (E4 bs a z n) s) (BQ St0 v)
 | _=>.fail
theorem Zhr {e:Env}(hE:EM P e) (h130:Inl e 90 KG [.cells 2 128,.tmp 3]) (h131:Inl e 91 KF [.tmp 4]):OvOk P 67 EH:=by
 refine ⟨g67.b,fun args s v s' h=>?_⟩
 unfold EH at h
 split at h
 ·rename_i u a z n
  obtain ⟨bs,hbs,h⟩:=A6 h
  obtain ⟨rfl,rfl⟩:=Ap h
  obtain ⟨hSl,hlt⟩:=Xp hbs
  have hfs2:hfs [u,.int .i64 a,.int .i64 z,.int .i64 n]=true:=by simp [hfs,hSl.hf];exact ⟨rfl,rfl,rfl⟩
  refine IJ hfs2 (Zin bs a z n) ?_ s
  refine C.of_G hE g67 (Zhp e hE h130 h131 u bs hSl a z n _ (fun h1 h2 s=>?_) (fun h0 h1 s=>?_) (fun h0 h1 s r hr=>?_))
  ·have e1:E4 bs a z n=.tup [.nils,.int .i64 3]:=by unfold E4;rw [Zoj ⟨h1,h2⟩]
   rw [e1];exact .plain _ rfl
  ·have e1:E4 bs a z n=.tup [.nils,.int .i64 2]:=by unfold E4;rw [Zon (Oy h0),Zon (by rw [h1];simp)]
   rw [e1];exact .plain _ rfl
  ·have e1:E4 bs a z n=.tup [.fz 128 (some 128) (Ab (Aq (Aa bs) a.toNat n.toNat z.toNat)),.int .i64 0]:=by unfold E4;rw [Zon (Oy h0),Zoj h1]
   rw [e1]
   exact .tup _ _ (.cons (.sl r 0 128 (some 128) (some 128) 167 _ _ _ hr (fun i x hx=>by rw [Zou];exact hx) (Ml _) (.inr rfl)) (.cons (.plain _ rfl) .nil))
 ·cases h
end Go.AM
namespace Go.AM
attribute [local irreducible] W
open X
def Zks:AC:=match a28 with|.mk c _=>c
def CN (bs:List Nat) (a z n:Int):AV:=if bs.length≠0∧bs.length≠128 then .nils else if DA a z n=true then .fz 128 (some 128) (Ab (Aq (Aa bs) a.toNat n.toNat z.toNat)) else .nils
def DF (bs:List Nat) (a z n:Int):Int:=if bs.length≠0∧bs.length≠128 then 3 else if DA a z n=true then 0 else 2
theorem Zhq (bs:List Nat) (a z n:Int):E4 bs a z n=.tup [CN bs a z n,.int .i64 (DF bs a z n)]:=by
 unfold E4 CN DF
 split
 ·rfl
 ·split <;> rfl
theorem Qb (bs:List Nat) (a z n:Int):CN bs a z n=.nils∨∃ m c l,CN bs a z n=.fz m c l:=by
 unfold CN
 split
 ·exact .inl rfl
 ·split
  ·exact .inr ⟨_,_,_,rfl⟩
  ·exact .inl rfl
theorem Zgn (e:Env) (hE:EM P e) (h161:Con e 67 EH) (v:AV) (bs:List Nat) (hv:BQ St0 v=some bs) (a z n:Int) (haz:-9223372036854775808≤a+z∧a+z≤9223372036854775807) (Q:AV→St→Prop)
 (k:∀ s,Q (.agg [CN bs a z n,.int .i64 (a+z),.int .i64 (DF bs a z n)]) s):
 VW P e 0 Zks (Ah [.agg [v,.int .i64 a,.int .i64 0],.int .i64 n,.int .i64 z] 0 .lf) St0 none [] (AR [.cells 6 3] Q):=by
 conv=>whnf
 refine HB (a:=0) (b:=0) rfl rfl (fun h=>absurd rfl h) (fun _=>?_);conv=>whnf
 refine ESc.ov h161 (v:=E4 bs a z n) (s':=_) (by
  show (Option.rec .fail (fun bs=>.ok (E4 bs a z n) _) (BQ St0 v):RV)=_
  rw [hv]) ?_
 rw [Zhq]
 have hB:=Qb bs a z n
 revert k
 generalize CN bs a z n=B at hB ⊢
 intro k
 rcases hB with rfl|⟨m,c,l,rfl⟩
 ·conv=>whnf
  refine Bu rfl rfl haz ?_;conv=>whnf
  exact k _
 ·conv=>whnf
  refine Bu rfl rfl haz ?_;conv=>whnf
  exact k _
noncomputable def Ht (args:List AV) (s:St):RV:=match args with
 | [.agg [v,.int .i64 a,.int .i64 er],.int .i64 n,.int .i64 z]=>if er=0∧(-9223372036854775808≤a+z∧a+z≤9223372036854775807) then
  Option.rec .fail (fun bs=>.ok (.agg [CN bs a z n,.int .i64 (a+z),.int .i64 (DF bs a z n)]) s) (BQ St0 v) else .fail
 | _=>.fail
theorem Zgo {e:Env}(hE:EM P e) (h161:Con e 67 EH):OvOk P 28 Ht:=by
 refine ⟨g28.b,fun args s v s' h=>?_⟩
 unfold Ht at h
 split at h
 ·rename_i u a er n z
  split at h
  ·rename_i hcnd
   obtain ⟨rfl,haz⟩:=hcnd
   obtain ⟨bs,hbs,h⟩:=A6 h
   obtain ⟨rfl,rfl⟩:=Ap h
   obtain ⟨hSl,hlt⟩:=Xp hbs
   have hfs2:hfs [.agg [u,.int .i64 a,.int .i64 0],.int .i64 n,.int .i64 z]=true:=by
    show (AM.hf (.agg [u,.int .i64 a,.int .i64 0]) && _)=true
    have:AM.hf (.agg [u,.int .i64 a,.int .i64 0])=true:=by show (AM.hf u && _)=true;rw [hSl.hf];rfl
    rw [this];rfl
   have hu:AM.hf (.agg [CN bs a z n,.int .i64 (a+z),.int .i64 (DF bs a z n)])=true:=by
    show (AM.hf (CN bs a z n) && _)=true
    rcases Qb bs a z n with h|⟨m,c,l,h⟩ <;> rw [h] <;> rfl
   refine IJ hfs2 hu ?_ s
   exact C.of_G hE g28 (Zgn e hE h161 u bs hbs a z n haz _ (fun s=>.plain _ hu))
  ·cases h
 ·cases h
end Go.AM
namespace Go.AM
attribute [local irreducible] W
open X
def crcT:List Nat:=[0x00000000,0x105ec76f,0x20bd8ede,0x30e349b1,0x417b1dbc,0x5125dad3,0x61c69362,0x7198540d,0x82f63b78,0x92a8fc17,0xa24bb5a6,0xb21572c9,0xc38d26c4,0xd3d3e1ab,0xe330a81a,0xf36e6f75]
def JO:List Nat→Nat→Nat
 | [],_=>0
 | x::_,0=>x
 | _::l,n+1=>JO l n
def Fb (s:Nat):Nat:=Nat.xor (Nat.div s 16) (JO crcT (Nat.mod s 16))
def He (s b:Nat):Nat:=Fb (Fb (Nat.xor s b))
def Dg (l:List Nat) (s:Nat):Nat:=l.foldl He s
def Vh:List AV:=crcT.map fun n=>.int .u32 (Int.ofNat n)
theorem QZ {m:Nat}(h0:0<m):∀ {l:List Nat}{n:Nat},(∀ x ∈ l,x<m)→JO l n<m:=by
 intro l
 induction l with
 | nil=>intro n _;exact h0
 | cons x l ih=>intro n h;cases n with
  | zero=>exact h x (by simp)
  | succ n=>exact ih fun y hy=>h y (by simp [hy])
theorem Mj {s:Nat}(h:s<4294967296):Fb s<4294967296:=
 Zp6 (n:=32) (by show s / 16<_;omega) (QZ (by decide) (by decide))
theorem Zfu:∀ {i:Nat}{l:List Nat},i<l.length→Fc (l.map fun n=>AV.int .u32 (Int.ofNat n)) i=some (.int .u32 (Int.ofNat (JO l i))):=by
 intro i l
 induction l generalizing i with
 | nil=>intro h;simp at h
 | cons x l ih=>intro h;cases i with
  | zero=>rfl
  | succ i=>exact ih (by simpa using h)
theorem Um {i:Nat}(h:i<16):load1 0 (0+i*1) (Ac St0 [.row 194 Vh])=some (.int .u32 (Int.ofNat (JO crcT i))):=by
 rw [Zou,Zpi]
 exact Zfu (l:=crcT) h
theorem XY (a:Nat):a &&& 15=a % 16:=Nat.and_two_pow_sub_one_eq_mod a 4
theorem Zb6 (e:Env) (hE:EM P e) (hW:Inl e 109 (match JU with|.mk c _=>c) (match JU with|.mk _ r=>r)) (s0:Nat) (h0:s0<4294967296) (bs:List Nat) (hb:∀ b ∈ bs,b<256) (hlen:bs.length<9223372036854775807) (v:AV) (hv:Sl 1 bs.length (Ab bs) v) (Q:AV→St→Prop)
 (hQ:∀ s,Q (.int .u32 (Int.ofNat (Dg bs (s0 ^^^ 4294967295) ^^^ 4294967295))) s):
 VW P e 0 (match a95 with|.mk c _=>c) (Ah [.int .u32 (Int.ofNat s0),v] 0 .lf) St0 none [] (AR [.tmp 4] Q):=by
 conv=>whnf
 refine ESc.inl hW ?_;conv=>whnf
 refine Tl rfl h0 ?_;conv=>whnf
 refine NF rfl hv ?_;conv=>whnf
 refine EX (α:=Nat×Nat) (fun x=>[(0,.int .u32 (Int.ofNat x.2)),(5,.ptr 0 0),(11,v),(12,.int .i64 (Int.ofNat bs.length)),(13,.int .i64 (Int.ofNat x.1))]) (fun _=>[.row 194 Vh]) (fun x=>bs.length-x.1)
  (fun x=>x.1≤bs.length∧x.2=Dg (bs.take x.1) (s0 ^^^ 4294967295)∧x.2<4294967296) (0,s0 ^^^ 4294967295) [1] ⟨Zoy _,rfl,Zp6 (n:=32) h0 (by decide)⟩
  ⟨by decide,⟨r9,r9,t9 hv.hf,r9,r9,trivial⟩,⟨r9,trivial⟩⟩ ?_
 rintro ⟨i,a⟩ ⟨hi,ha,hlt⟩
 dsimp only at hi ha hlt ⊢
 refine A9 hE ?_;conv=>whnf
 refine Qo rfl rfl (fun h=>?_) (fun h=>?_)
 ·have hbi:bs[i]<256:=hb bs[i] (Zpg h)
  have hx:a ^^^ bs[i]<4294967296:=Zp6 (n:=32) hlt (by omega)
  have hy:Fb (a ^^^ bs[i])<4294967296:=Mj hx
  conv=>whnf
  refine A8 rfl hv rfl h ?_;conv=>whnf
  refine EHead.mk (Zg h) ?_;conv=>whnf
  refine Zm rfl (by omega) ?_;conv=>whnf
  refine L8 rfl rfl hlt (by omega) ?_;conv=>whnf
  refine NE (n:=4) rfl rfl (by decide) ?_;conv=>whnf
  refine Tm rfl rfl hx (by decide) ?_;conv=>whnf
  rw [XY]
  refine LH rfl rfl (Nat.mod_lt _ (by decide)) ?_;conv=>whnf
  refine AP _ (Um (Nat.mod_lt _ (by decide))) ?_;conv=>whnf
  refine L8 rfl rfl (by show (a ^^^ bs[i]) / 16<_;omega) (QZ (by decide) (by decide)) ?_;conv=>whnf
  refine NE (n:=4) rfl rfl (by decide) ?_;conv=>whnf
  refine Tm rfl rfl hy (by decide) ?_;conv=>whnf
  rw [XY]
  refine LH rfl rfl (Nat.mod_lt _ (by decide)) ?_;conv=>whnf
  refine AP _ (Um (Nat.mod_lt _ (by decide))) ?_;conv=>whnf
  refine L8 rfl rfl (by have:Fb (a ^^^ bs[i]) / 16<4294967296:=by omega
                        exact this) (QZ (by decide) (by decide)) ?_
  conv=>whnf
  refine Qr rfl rfl rfl (by omega) ?_;conv=>whnf
  refine ⟨rfl,(i+1,He a bs[i]),⟨by simp;omega,?_,Mj (Mj hx)⟩,by simp;omega,[0],⟨by decide,⟨r9,r9,t9 hv.hf,r9,r9,trivial⟩,⟨r9,trivial⟩⟩⟩
  show He a bs[i]=Dg (bs.take (i+1)) _
  rw [Zos h,Dg,List.foldl_append,ha];rfl
 ·conv=>whnf
  refine Tl rfl hlt ?_;conv=>whnf
  have:bs.take i=bs:=Zoo h
  rw [ha,this]
  exact hQ _
noncomputable def DO (args:List AV) (s:St):RV:=match args with
 | [.int .u32 (.ofNat s0),v]=>gd (Nat.blt s0 4294967296) (Option.rec .fail (fun bs=>gd (Nat.blt (A3 bs) 1000000) (.ok (.int .u32 (.ofNat (Nat.xor (Dg bs (Nat.xor s0 4294967295)) 4294967295))) s)) (BQ s v))
 | _=>.fail
theorem Zez {e:Env}(hE:EM P e) (hW:Inl e 109 (match JU with|.mk c _=>c) (match JU with|.mk _ r=>r)):OvOk P 95 DO:=by
 refine ⟨g95.b,fun args s v s' h=>?_⟩
 unfold DO at h
 split at h
 ·rename_i s0 u
  obtain ⟨h1,h⟩:=BC h
  obtain ⟨bs,hbs,h⟩:=A6 h
  obtain ⟨h2,h⟩:=BC h
  obtain ⟨rfl,rfl⟩:=Ap h
  rw [Zpx] at h1 h2
  rw [CA] at h2
  obtain ⟨v2,hF,hSl,hlt⟩:=Nv hbs
  have hfs2:hfs [.int .u32 (.ofNat s0),v2]=true:=by simp [hfs,hSl.hf];rfl
  refine HQ (args2:=[.int .u32 (.ofNat s0),v2]) (.cons (.plain _ rfl) (.cons hF .nil)) rfl (GZ hfs2 ?_)
  exact C.of_G hE g95 (Zb6 e hE hW s0 h1 bs hlt (by omega) v2 hSl _ (fun s=>.plain _ rfl))
 ·cases h
end Go.AM
namespace Go.AM
attribute [local irreducible] W
open X
section
variable {t:AT}{s:St}{k:AV→St→Prop}{x y:AO}
theorem Ti {es n l h:Nat}{c:Option Nat}{cs:List AV}{lo hi:Option AO}(hx:ev x t=.some (.fz n c cs)) (hlo:B3 t lo 0=.n l) (hhi:B3 t hi n=.n h) (h1:l≤h) (h2:h≤n) (h3:l<n) (hl:h*es≤cs.length)
 (hk:k (.fz (h-l) (Option.rec none (fun c=>some (c-l)) c) ((cs.drop (l*es)).take ((h-l)*es))) s):EPrim (.slc es x lo hi none) t s k:=by
 refine EPrim.mk (fun e rec=>?_) hk
 show wth x t _=_;unfold wth;rw [hx]
 show (NR.rec .fail _ (B3 t lo 0):RV)=_;rw [hlo]
 show (NR.rec .fail _ (B3 t hi n):RV)=_;rw [hhi]
 show gd (Nat.ble l h && Nat.ble h n) (Bool.rec (.ok .es s) (Option.rec .fail (fun cs'=>.ok (.fz (h-l) (Option.rec none (fun c=>some (c-l)) c) cs') s) (Bf (Nat.mul (h-l) es) (Dr (Nat.mul l es) cs))) (Nat.blt l n))=_
 have ht:Bf (Nat.mul (h-l) es) (Dr (Nat.mul l es) cs)=some ((cs.drop (l*es)).take ((h-l)*es)):=by
  rw [GY]
  refine EU ?_
  rw [Zp3]
  show (h-l)*es≤cs.length-l*es
  rw [Nat.sub_mul];omega
 rw [Zo6 h1,Zo6 h2,show Nat.blt l n=true by simpa using h3,ht];rfl
end
theorem Ql:∀ {bs:List Nat},(∀ b ∈ bs,b<256)→Cm (Ab bs)=some bs
 | [],_=>rfl
 | b::bs,h=>by
  show (Bool.rec none (Option.rec none (fun r=>some (b::r)) (Cm (Ab bs))) (Nat.blt b 256):Option (List Nat))=_
  rw [Ql (fun x hx=>h x (by simp [hx])),show Nat.blt b 256=true by simpa using h b (by simp)]
theorem HA {s:St}{n:Nat}{c:Option Nat}{bs:List Nat}(hn:bs.length=n) (h:∀ b ∈ bs,b<256):BQ s (.fz n c (Ab bs))=some bs:=by
 show (Bool.rec none (Cm (Ab bs)) (Nat.beq (A3 (Ab bs)) n):Option (List Nat))=_
 rw [Ql h,CA,Ba,hn,Zp2]
theorem Vn (bs:List Nat) (n:Nat):(Ab bs).take n=Ab (bs.take n):=by simp [Ab,List.map_take]
def Zkr:AC:=match a29 with|.mk c _=>c
def KQ:AC:=match a68 with|.mk c _=>c
theorem K0:∀ {bs:List Nat}{s:Nat},(∀ b ∈ bs,b<256)→s<4294967296→Dg bs s<4294967296
 | [],s,_,h=>h
 | b::bs,s,hb,h=>by
  show Dg bs (He s b)<_
  refine K0 (fun x hx=>hb x (by simp [hx])) (Mj (Mj (Zp6 (n:=32) h ?_)))
  have:=hb b (by simp);omega
def Au (bs:List Nat):Nat:=Dg bs 4294967295 ^^^ 4294967295
theorem Zel (e:Env) (hE:EM P e) (h67:Inl e 68 KQ [.tmp 2]) (h107:Con e 95 DO) (h128:Con e 28 Ht) (bs:List Nat) (hl:bs.length=128) (hb:∀ b ∈ bs,b<256) (c:Option Nat) (a:Int) (Q:AV→St→Prop)
 (k:∀ s,Q (.tup [CN bs 124 4 (Int.ofNat (Au (bs.take 124))),.int .i64 (DF bs 124 4 (Int.ofNat (Au (bs.take 124))))]) s):
 VW P e 0 Zkr (Ah [.agg [.fz 128 c (Ab bs),.int .i64 a,.int .i64 0]] 0 .lf) St0 none [] (AR [.tmp 2,.tmp 3] Q):=by
 conv=>whnf
 refine HB (a:=0) (b:=0) rfl rfl (fun h=>absurd rfl h) (fun _=>?_);conv=>whnf
 refine Ti (l:=0) (h:=124) rfl rfl rfl (by omega) (by omega) (by omega) (by rw [Ba];omega) ?_;conv=>whnf
 refine ESc.inl h67 ?_;conv=>whnf
 have htk:∀ b ∈ bs.take 124,b<256:=fun b hb'=>hb b (Zpm hb')
 have htl:(bs.take 124).length=124:=by rw [Zo5];omega
 have hsum:Au (bs.take 124)<4294967296:=Zp6 (n:=32) (K0 htk (by decide)) (by decide)
 refine ESc.ov h107 (v:=.int .u32 (Int.ofNat (Au (bs.take 124)))) (s':=_) (by
  show (Option.rec .fail (fun bs=>gd (Nat.blt (A3 bs) 1000000) (.ok (.int .u32 (.ofNat (Nat.xor (Dg bs (Nat.xor 0 4294967295)) 4294967295))) _)) (BQ _ (.fz 124 _ ((Ab bs).take 124))):RV)=_
  rw [Vn,HA htl htk]
  show gd (Nat.blt (A3 (bs.take 124)) 1000000) _=_
  rw [CA,htl];rfl) ?_
 conv=>whnf
 refine ⟨rfl,?_⟩;conv=>whnf
 refine PO rfl (by omega) ?_;conv=>whnf
 refine ESc.ov h128 (v:=.agg [CN bs 124 4 (Int.ofNat (Au (bs.take 124))),.int .i64 (124+4),.int .i64 (DF bs 124 4 (Int.ofNat (Au (bs.take 124))))]) (s':=_) (by
  show (if (0:Int)=0∧(-9223372036854775808≤(124:Int)+4∧(124:Int)+4≤9223372036854775807) then (Option.rec .fail (fun bs=>.ok (.agg [CN bs 124 4 (Int.ofNat (Au _)),.int .i64 (124+4),.int .i64 (DF bs 124 4 _)]) _) (BQ St0 (.fz 128 c (Ab bs))):RV) else .fail)=_
  rw [Zoj (by decide),HA hl hb]) ?_
 conv=>whnf
 exact k _
end Go.AM
namespace Go.AM
theorem Wa (s:Nat):Fb s=(s >>> 4) ^^^ JO crcT (s % 16):=by
 show Nat.div s 16 ^^^ JO crcT (Nat.mod s 16)=_
 rw [Nat.shiftRight_eq_div_pow];rfl
theorem PQ (s z k:Nat):(s ^^^ z*2^k) % 2^k=s % 2^k:=by
 rw [← Nat.and_two_pow_sub_one_eq_mod,← Nat.and_two_pow_sub_one_eq_mod,Nat.and_xor_distrib_right,Nat.and_two_pow_sub_one_eq_mod (z*2^k),Nat.mul_mod_left,Nat.xor_zero]
theorem PS (s z k:Nat):(s ^^^ z*2^k) / 2^k=s / 2^k ^^^ z:=by
 rw [← Nat.shiftRight_eq_div_pow,Nat.shiftRight_xor_distrib,Nat.shiftRight_eq_div_pow,Nat.shiftRight_eq_div_pow,Nat.mul_div_cancel _ (Nat.two_pow_pos k)]
theorem Zfq (s z:Nat):Fb (s ^^^ z*16)=Fb s ^^^ z:=by
 have e1:=PQ s z 4
 have e2:=PS s z 4
 rw [Wa,Wa,Nat.shiftRight_eq_div_pow,Nat.shiftRight_eq_div_pow]
 rw [show (2:Nat)^4=16 from rfl] at *
 rw [e1,e2,Nat.xor_assoc,Nat.xor_assoc,Nat.xor_comm z]
def hlv (s:Nat):Nat:=Fb (Fb s)
attribute [local irreducible] W
open X
theorem VF {bs:List Nat}{a z n:Int}(h1:¬ (bs.length≠0∧bs.length≠128)) (h2:DA a z n=true):CN bs a z n=.fz 128 (some 128) (Ab (Aq (Aa bs) a.toNat n.toNat z.toNat))∧DF bs a z n=0:=by
 unfold CN DF
 rw [Zon h1,Zoj h2,Zon h1,Zoj h2];exact ⟨rfl,rfl⟩
noncomputable def KZ (args:List AV) (s:St):RV:=match args with
 | [.agg [.fz 128 c l,.int .i64 a,.int .i64 er]]=>if er=0 then Option.rec .fail (fun bs=>if bs.length=128 then .ok (.tup [CN bs 124 4 (Int.ofNat (Au (bs.take 124))),.int .i64 (DF bs 124 4 (Int.ofNat (Au (bs.take 124))))]) s else .fail) (Cm l) else .fail
 | _=>.fail
theorem Zem {e:Env}(hE:EM P e) (h67:Inl e 68 KQ [.tmp 2]) (h107:Con e 95 DO) (h128:Con e 28 Ht):OvOk P 29 KZ:=by
 refine ⟨g29.b,fun args s v s' h=>?_⟩
 unfold KZ at h
 split at h
 ·rename_i c l a er
  split at h
  ·rename_i hcnd
   subst hcnd
   obtain ⟨bs,hbs,h⟩:=A6 h
   split at h
   ·rename_i hlen
    obtain ⟨rfl,rfl⟩:=Ap h
    obtain ⟨rfl,hlt⟩:=PX hbs
    have hu:AM.hf (.tup [CN bs 124 4 (Int.ofNat (Au (bs.take 124))),.int .i64 (DF bs 124 4 (Int.ofNat (Au (bs.take 124))))])=true:=by
     show (AM.hf (CN _ _ _ _) && _)=true
     rcases Qb bs 124 4 (Int.ofNat (Au (bs.take 124))) with h|⟨m,c,l,h⟩ <;> rw [h] <;> rfl
    refine IJ rfl hu ?_ s
    exact C.of_G hE g29 (Zel e hE h67 h107 h128 bs hlen hlt c a _ (fun s=>.plain _ hu))
   ·cases h
  ·cases h
 ·cases h
end Go.AM
namespace Go.AM
attribute [local irreducible] W
open X
def Wu:AC:=match a66 with|.mk c _=>c
def Zkt:AC:=match a27 with|.mk c _=>c
def Zm8:AC:=match a9 with|.mk c _=>c
def CO (n:Int):Bool:=decide (1≤n∧n≤2147483648)
def DE (age seq tail:Int):Bool:=CO age && CO seq && decide (0≤tail∧tail<255)
theorem VK (e:Env) (s:St) (n:Int) (h0:0≤n∧n<4294967296) (K:AV→St→Prop) (h:K (.bool (CO n)) s):VE e Wu (Ah [.int .u32 n] 0 .lf) s none [] (AR [.tmp 2] K):=by
 unfold CO at h
 conv=>whnf
 repeat' (first|((refine w1 rfl rfl ?_ ?_) <;> intro _ <;> first|(exfalso;omega)|(conv=>whnf))|(refine w11 rfl rfl ?_;conv=>whnf)|fail)
 ·rw [Zok (by omega)] at h;exact h
 ·rw [Zow (by omega)] at h;exact h
structure Sup where
 id:Int
 age:Int
 seq:Int
 tail:Int
def Sup.ok (x:Sup):Prop:=(0≤x.id∧x.id<4294967296)∧(0≤x.age∧x.age<4294967296)∧(0≤x.seq∧x.seq<4294967296)
def Sup.v (x:Sup):AV:=.agg [.int .u32 x.id,.int .u32 x.age,.int .u32 x.seq,.int .i64 x.tail]
def Sup.b (x:Sup):Bool:=DE x.age x.seq x.tail
theorem Sup.inj {x y:Sup}(h:x.v=y.v):x=y:=by
 obtain ⟨a,b,c,d⟩:=x
 obtain ⟨a',b',c',d'⟩:=y
 simp [Sup.v] at h
 obtain ⟨rfl,rfl,rfl,rfl⟩:=h;rfl
def chkF:Fam Sup:=⟨Sup.ok,fun x=>[x.v],fun x=>.int .i64 (if x.b then 0 else 8),fun x y _ _ h=>by rw [Sup.inj (Zor h).1]⟩
variable {e:Env}
theorem Zkz (hE:EM P e) (h160:Inl e 66 Wu [.tmp 2]):OvOk P 27 chkF.O:=by
 refine Bk g27.b ?_
 rintro ⟨id,age,seq,tail⟩ ⟨hi,ha,hq⟩
 dsimp only at hi ha hq
 refine ⟨rfl,rfl,C.of_G hE g27 ?_⟩
 have fin:∀ s (b:Bool),b=DE age seq tail→Frz s (.int .i64 (if b then 0 else 8)) (chkF.out ⟨id,age,seq,tail⟩):=by
  rintro s b rfl;exact .plain _ rfl
 unfold DE at fin
 show VW P e 0 Zkt (Ah [AV.agg [.int .u32 id,.int .u32 age,.int .u32 seq,.int .i64 tail]] 0 .lf) St0 none [] _
 conv=>whnf
 refine ESc.inl h160 (VK e _ age ha _ ?_)
 cases h1:CO age <;> rw [h1] at fin <;> conv=>whnf
 ·exact fin _ false rfl
 refine ESc.inl h160 (VK e _ seq hq _ ?_)
 cases h2:CO seq <;> rw [h2] at fin <;> conv=>whnf
 ·exact fin _ false rfl
 repeat' (first|((first|refine w1 rfl rfl ?_ ?_|refine w4 rfl rfl ?_ ?_) <;> intro _ <;> first|(exfalso;omega)|(conv=>whnf))|fail)
 ·exact fin _ true (by rw [Zok (by omega)];rfl)
 ·exact fin _ false (by rw [Zow (by omega)];rfl)
 ·exact fin _ false (by rw [Zow (by omega)];rfl)
variable {a z:Int}
theorem Mt {n:Nat}(h:Df a z=true) (h1:n<2^(8*z.toNat)):DA a z n=true:=by
 unfold DA
 rw [h,Zok];rfl
 exact ⟨by omega,Nat.div_eq_of_lt h1⟩
variable {bs:List Nat}
theorem CH (h:bs.length=128):Aa bs=bs:=by
 unfold Aa;rw [Zon];intro e;subst e;cases h
variable {n:Int}
theorem Wn (hl:bs.length=128) (h:DA a z n=true):CN bs a z n=.fz 128 (some 128) (Ab (Aq bs a.toNat n.toNat z.toNat))∧DF bs a z n=0:=by
 have:=VF (bs:=bs) (a:=a) (z:=z) (n:=n) (by omega) h
 rw [CH hl] at this;exact this
def IK (id age seq tail:Nat):List Nat:=Aq (Aq (Aq (Aq (Aq (List.replicate 128 0) 0 83 1) 1 id 4) 5 age 4) 9 seq 4) 13 tail 1
def Bg (id age seq tail:Nat):List Nat:=Aq (IK id age seq tail) 124 (Au ((IK id age seq tail).take 124)) 4
theorem Bb {bs:List Nat}{a n:Nat}(hb:∀ b ∈ bs,b<256):∀ i,∀ b ∈ Aq bs a n i,b<256
 | 0=>hb
 | i+1=>fun b h=>by
  rcases List.mem_or_eq_of_mem_set h with h|rfl
  ·exact Bb hb i b h
  ·exact Nat.mod_lt _ (by decide)
variable {s:St}
theorem NO {v:AV}(hv:BQ St0 v=some bs) (hl:bs.length=128) (ha:0≤a∧a<200∧0≤z∧z<10) (h:DA a z n=true):
 Ht [.agg [v,.int .i64 a,.int .i64 0],.int .i64 n,.int .i64 z] s=.ok (.agg [.fz 128 (some 128) (Ab (Aq bs a.toNat n.toNat z.toNat)),.int .i64 (a+z),.int .i64 0]) s:=by
 show (if (0:Int)=0∧(-9223372036854775808≤a+z∧a+z≤9223372036854775807) then (Option.rec .fail (fun bs=>.ok (.agg [CN bs a z n,.int .i64 (a+z),.int .i64 (DF bs a z n)]) s) (BQ St0 v):RV) else .fail)=_
 rw [Zoj ⟨rfl,by omega⟩,hv]
 obtain ⟨e1,e2⟩:=Wn hl h
 show RV.ok (.agg [CN bs a z n,.int .i64 (a+z),.int .i64 (DF bs a z n)]) s=_
 rw [e1,e2]
theorem Zax (h:DA 0 1 n=true):
 Ht [.agg [.nils,.int .i64 0,.int .i64 0],.int .i64 n,.int .i64 1] s=.ok (.agg [.fz 128 (some 128) (Ab (Aq (List.replicate 128 0) 0 n.toNat 1)),.int .i64 1,.int .i64 0]) s:=by
 show (if (0:Int)=0∧(-9223372036854775808≤(0:Int)+1∧(0:Int)+1≤9223372036854775807) then (Option.rec .fail (fun bs=>.ok (.agg [CN bs 0 1 n,.int .i64 (0+1),.int .i64 (DF bs 0 1 n)]) s) (BQ St0 .nils):RV) else .fail)=_
 rw [Zoj (by decide)]
 show RV.ok (.agg [CN [] 0 1 n,.int .i64 (0+1),.int .i64 (DF [] 0 1 n)]) s=_
 obtain ⟨e1,e2⟩:=VF (bs:=[]) (a:=0) (z:=1) (n:=n) (by simp) h
 rw [e1,e2];rfl
theorem Zbt {c:Option Nat}(hl:bs.length=128) (hb:∀ b ∈ bs,b<256):
 KZ [.agg [.fz 128 c (Ab bs),.int .i64 a,.int .i64 0]] s=.ok (.tup [.fz 128 (some 128) (Ab (Aq bs 124 (Au (bs.take 124)) 4)),.int .i64 0]) s:=by
 show (if (0:Int)=0 then (Option.rec .fail (fun bs=>if bs.length=128 then .ok (.tup [CN bs 124 4 (Int.ofNat (Au (bs.take 124))),.int .i64 (DF bs 124 4 (Int.ofNat (Au (bs.take 124))))]) s else .fail) (Cm (Ab bs)):RV) else .fail)=_
 rw [Zoj rfl,Ql hb]
 show (if bs.length=128 then RV.ok (.tup [CN bs 124 4 (Int.ofNat (Au (bs.take 124))),.int .i64 (DF bs 124 4 (Int.ofNat (Au (bs.take 124))))]) s else .fail)=_
 rw [Zoj hl]
 have hs:Au (bs.take 124)<4294967296:=Zp6 (n:=32) (K0 (fun b hb'=>hb b (Zpm hb')) (by decide)) (by decide)
 obtain ⟨e1,e2⟩:=Wn (a:=124) (z:=4) (n:=Int.ofNat (Au (bs.take 124))) hl (Mt (by decide) hs)
 rw [e1,e2];rfl
def wrF:Fam Sup:=⟨Sup.ok,fun x=>[x.v],fun x=>if x.b then .tup [.fz 128 (some 128) (Ab (Bg x.id.toNat x.age.toNat x.seq.toNat x.tail.toNat)),.int .i64 0] else .tup [.nils,.int .i64 8],fun x y _ _ h=>by rw [Sup.inj (Zor h).1]⟩
theorem Zlk (hE:EM P e) (h127:Con e 27 chkF.O) (h128:Con e 28 Ht) (h129:Con e 29 KZ):OvOk P 9 wrF.O:=by
 refine Bk g9.b ?_
 rintro ⟨id,age,seq,tail⟩ ⟨hi,ha,hq⟩
 dsimp only at hi ha hq
 refine ⟨rfl,by unfold wrF;dsimp only;split <;> rfl,C.of_G hE g9 ?_⟩
 cases hB:DE age seq tail
 ·rw [show wrF.out ⟨id,age,seq,tail⟩=.tup [.nils,.int .i64 8] by simp [wrF,Sup.b,hB]]
  conv=>whnf
  refine ESc.fam chkF h127 ⟨id,age,seq,tail⟩ ⟨hi,ha,hq⟩ (u:=.int .i64 8) (by simp [chkF,Sup.b,hB]) ?_;conv=>whnf
  repeat' (first|((refine w6 rfl rfl ?_ ?_) <;> intro _ <;> first|(exfalso;omega)|(conv=>whnf))|fail)
  exact .plain _ rfl
 ·rw [show wrF.out ⟨id,age,seq,tail⟩=.tup [.fz 128 (some 128) (Ab (Bg id.toNat age.toNat seq.toNat tail.toNat)),.int .i64 0] by simp [wrF,Sup.b,hB]]
  have ht:0≤tail∧tail<255:=by
   unfold DE at hB;simp at hB;omega
  obtain ⟨I,rfl⟩:∃ I:Nat,id=I:=⟨id.toNat,by omega⟩
  obtain ⟨A,rfl⟩:∃ I:Nat,age=I:=⟨age.toNat,by omega⟩
  obtain ⟨Q,rfl⟩:∃ I:Nat,seq=I:=⟨seq.toNat,by omega⟩
  obtain ⟨T,rfl⟩:∃ I:Nat,tail=I:=⟨tail.toNat,by omega⟩
  simp only [Int.toNat_natCast]
  have l0:(List.replicate 128 0:List Nat).length=128:=by simp
  have b0:∀ b ∈ (List.replicate 128 0:List Nat),b<256:=fun b h=>by rw [Zqe h];decide
  show VW P e 0 Zm8 (Ah [AV.agg [.int .u32 (I:Int),.int .u32 (A:Int),.int .u32 (Q:Int),.int .i64 (T:Int)]] 0 .lf) St0 none [] _
  conv=>whnf
  refine ESc.fam chkF h127 ⟨I,A,Q,T⟩ ⟨hi,ha,hq⟩ (u:=.int .i64 0) (by simp [chkF,Sup.b,hB]) ?_;conv=>whnf
  repeat' (first|((refine w6 rfl rfl ?_ ?_) <;> intro _ <;> first|(exfalso;omega)|(conv=>whnf))|(refine w14 (q':=.i64) rfl (i64_in (by omega)) ?_;conv=>whnf)|fail)
  refine ESc.ov h128 (Zax (n:=83) (by decide)) ?_;conv=>whnf
  repeat' (first|(refine ⟨rfl,?_⟩;conv=>whnf)|fail)
  refine ESc.ov h128 (NO (HA (by rw [Bt];exact l0) (Bb b0 _)) (by rw [Bt];exact l0) (by decide) (Mt (by decide) (by show I<4294967296;omega))) ?_;conv=>whnf
  repeat' (first|(refine ⟨rfl,?_⟩;conv=>whnf)|fail)
  refine ESc.ov h128 (NO (HA (by simp only [Bt];exact l0) (Bb (Bb b0 _) _)) (by simp only [Bt];exact l0) (by decide) (Mt (by decide) (by show A<4294967296;omega))) ?_;conv=>whnf
  repeat' (first|(refine ⟨rfl,?_⟩;conv=>whnf)|fail)
  refine ESc.ov h128 (NO (HA (by simp only [Bt];exact l0) (Bb (Bb (Bb b0 _) _) _)) (by simp only [Bt];exact l0) (by decide) (Mt (by decide) (by show Q<4294967296;omega))) ?_;conv=>whnf
  repeat' (first|(refine ⟨rfl,?_⟩;conv=>whnf)|fail)
  refine ESc.ov h128 (NO (HA (by simp only [Bt];exact l0) (Bb (Bb (Bb (Bb b0 _) _) _) _)) (by simp only [Bt];exact l0) (by decide) (Mt (by decide) (by show T<256;omega))) ?_;conv=>whnf
  refine ESc.ov h129 (Zbt (by simp only [Bt];exact l0) (Bb (Bb (Bb (Bb (Bb b0 _) _) _) _) _)) ?_;conv=>whnf
  exact .plain _ rfl
end Go.AM
namespace Go.AM
attribute [local irreducible] W
open X
structure Cfg where
 id:Int
 members:Int
 chunk:Int
 rows:Int
 log:Int
 heads:Int
def Aj (n:Int):Prop:=-9223372036854775808≤n∧n≤9223372036854775807
def AK (n:Int):Prop:=0≤n∧n<4294967296
structure Cfg.ok (c:Cfg):Prop where
 id:AK c.id
 members:Aj c.members
 chunk:Aj c.chunk
 rows:Aj c.rows
 log:Aj c.log
 heads:Aj c.heads
def Cfg.c (x:Cfg):List AV:=[.int .u32 x.id,.int .i64 x.members,.int .i64 x.chunk,.int .i64 x.rows,.int .i64 x.log,.int .i64 x.heads]
def Cfg.v (x:Cfg):AV:=.agg x.c
variable {x y:Cfg}
theorem Cfg.inj (h:x.c=y.c):x=y:=by
 obtain ⟨a,b,c,d,e,f⟩:=x
 obtain ⟨a',b',c',d',e',f'⟩:=y
 simp [Cfg.c] at h
 obtain ⟨rfl,rfl,rfl,rfl,rfl,rfl⟩:=h;rfl
theorem FM (h:x.v=y.v):x=y:=Cfg.inj (AV.agg.inj h)
def Cfg.may (x:Cfg):Prop:=(3≤x.members∧x.members≤16)∧(1≤x.chunk∧x.chunk≤8)∧(1≤x.rows∧x.rows≤8)∧(2≤x.heads∧x.heads≤8)∧(x.members+1)*(x.heads+1)≤x.log∧x.log≤255
instance (x:Cfg):Decidable x.may:=by unfold Cfg.may;infer_instance
theorem Eo (h:x.may):12≤x.log:=by
 unfold Cfg.may at h
 have:(4:Int)*3≤(x.members+1)*(x.heads+1):=Int.mul_le_mul (by omega) (by omega) (by decide) (by omega)
 omega
def cfgF:Fam Cfg:=⟨Cfg.ok,fun x=>[x.v],fun x=>.int .i64 (if x.may then 0 else 8),fun x y _ _ h=>by rw [FM (Zor h).1]⟩
def Zkw:AC:=match a50 with|.mk c _=>c
theorem NJ {a b:Int}(ha:0≤a∧a≤100000) (hb:0≤b∧b≤100000):-9223372036854775808≤a*b∧a*b≤9223372036854775807:=by
 have h1:0≤a*b:=Int.mul_nonneg ha.1 hb.1
 have h2:a*b≤100000*100000:=Int.mul_le_mul ha.2 hb.2 hb.1 (by decide)
 omega
variable {e:Env}
theorem Zk0 (hE:EM P e) (h121:Inl e 50 Zkw [.tmp 2]):OvOk P 22 cfgF.O:=by
 refine Bk g22.b ?_
 rintro ⟨id,members,chunk,rows,log,heads⟩ ⟨h1,h2,h3,h4,h5,h6⟩
 unfold Aj at h2 h3 h4 h5 h6
 dsimp only at h2 h3 h4 h5 h6
 refine ⟨rfl,rfl,C.of_G hE g22 ?_⟩
 have fin0:∀ s,((3≤members∧members≤16)∧(1≤chunk∧chunk≤8)∧(1≤rows∧rows≤8)∧(2≤heads∧heads≤8)∧(members+1)*(heads+1)≤log∧log≤255)→Frz s (.int .i64 0) (cfgF.out ⟨id,members,chunk,rows,log,heads⟩):=by
  intro s h
  show Frz s _ (.int .i64 (if Cfg.may ⟨id,members,chunk,rows,log,heads⟩ then 0 else 8))
  rw [Zoj (show Cfg.may ⟨id,members,chunk,rows,log,heads⟩ from h)];exact .plain _ rfl
 have fin8:∀ s,¬ ((3≤members∧members≤16)∧(1≤chunk∧chunk≤8)∧(1≤rows∧rows≤8)∧(2≤heads∧heads≤8)∧(members+1)*(heads+1)≤log∧log≤255)→Frz s (.int .i64 8) (cfgF.out ⟨id,members,chunk,rows,log,heads⟩):=by
  intro s h
  show Frz s _ (.int .i64 (if Cfg.may ⟨id,members,chunk,rows,log,heads⟩ then 0 else 8))
  rw [Zon (show ¬ Cfg.may ⟨id,members,chunk,rows,log,heads⟩ from h)];exact .plain _ rfl
 show VW P e 0 (match a22 with|.mk c _=>c) (Ah [AV.agg [.int .u32 id,.int .i64 members,.int .i64 chunk,.int .i64 rows,.int .i64 log,.int .i64 heads]] 0 .lf) St0 none [] _
 conv=>whnf
 repeat' (first|(refine ESc.inl h121 ?_;conv=>whnf)|(refine EExec.loop ?_;conv=>whnf)|(refine Cy rfl rfl (by omega) (by omega) ?_;conv=>whnf)|(refine Zbb rfl rfl (by omega) (by omega) ?_;conv=>whnf)|(refine EA rfl rfl (NJ (by omega) (by omega)) ?_;conv=>whnf)|((first|refine w1 rfl rfl ?_ ?_|refine w3 rfl rfl ?_ ?_) <;> intro _ <;> first|(exfalso;omega)|(conv=>whnf))|((first|refine w7 rfl rfl (by omega) ?_|refine w12 rfl ?_|refine w13 rfl ?_|refine w18 rfl ?_);conv=>whnf)|fail)
 all_goals first
  | exact fin8 _ (by omega)
  | exact fin0 _ (by omega)
def toldF:Fam (Cfg×Int):=⟨fun x=>x.1.ok,fun x=>[x.1.v,.int .i64 x.2],fun x=>.tup [.int .i64 (if x.1.may then x.2 else 0),.int .i64 (if x.1.may then 0 else 8)],fun x y _ _ h=>by
 obtain ⟨c,n⟩:=x
 obtain ⟨c',n'⟩:=y
 have h1:=FM (Zor h).1
 have h2:=(AV.int.inj (Zor (Zor h).2).1).2
 dsimp only at h1 h2
 subst h1 h2;rfl⟩
theorem Zd7 (hE:EM P e) (h78:Con e 22 cfgF.O):OvOk P 56 toldF.O:=by
 refine Bk g56.b ?_
 rintro ⟨x,n⟩ hx
 refine ⟨rfl,rfl,C.of_G hE g56 ?_⟩
 by_cases hM:x.may
 ·rw [show toldF.out (x,n)=.tup [.int .i64 n,.int .i64 0] by simp [toldF,hM]]
  show VW P e 0 (match Ni with|.mk c _=>c) (Ah [x.v,.int .i64 n] 0 .lf) St0 none [] _
  conv=>whnf
  refine ESc.fam cfgF h78 x hx (u:=.int .i64 0) (by simp [cfgF,hM]) ?_;conv=>whnf
  repeat' (first|((refine w6 rfl rfl ?_ ?_) <;> intro _ <;> first|(exfalso;omega)|(conv=>whnf))|fail)
  exact .plain _ rfl
 ·rw [show toldF.out (x,n)=.tup [.int .i64 0,.int .i64 8] by simp [toldF,hM]]
  show VW P e 0 (match Ni with|.mk c _=>c) (Ah [x.v,.int .i64 n] 0 .lf) St0 none [] _
  conv=>whnf
  refine ESc.fam cfgF h78 x hx (u:=.int .i64 8) (by simp [cfgF,hM]) ?_;conv=>whnf
  repeat' (first|((refine w6 rfl rfl ?_ ?_) <;> intro _ <;> first|(exfalso;omega)|(conv=>whnf))|fail)
  exact .plain _ rfl
def stripesF:Fam Cfg:=⟨Cfg.ok,fun x=>[x.v],fun x=>.tup [.int .i64 (if x.may then x.chunk*x.rows else 0),.int .i64 (if x.may then 0 else 8)],fun x y _ _ h=>by rw [FM (Zor h).1]⟩
theorem Zo (hE:EM P e) (h83:Con e 56 toldF.O):OvOk P 51 stripesF.O:=by
 refine Bk g51.b ?_
 intro x hx
 refine ⟨rfl,rfl,C.of_G hE g51 ?_⟩
 by_cases hM:x.may
 ·rw [show stripesF.out x=.tup [.int .i64 (x.chunk*x.rows),.int .i64 0] by simp [stripesF,hM]]
  have hM':=hM
  unfold Cfg.may at hM'
  have hl:=Eo hM
  obtain ⟨id,members,chunk,rows,log,heads⟩:=x
  dsimp only at hM' hl ⊢
  show VW P e 0 (match Nk with|.mk c _=>c) (Ah [AV.agg [.int .u32 id,.int .i64 members,.int .i64 chunk,.int .i64 rows,.int .i64 log,.int .i64 heads]] 0 .lf) St0 none [] _
  conv=>whnf
  repeat' (first|(refine EA rfl rfl (NJ (by omega) (by omega)) ?_;conv=>whnf)|fail)
  refine ESc.fam toldF h83 (⟨id,members,chunk,rows,log,heads⟩,_) hx (u:=.tup [_,.int .i64 0]) (by simp only [toldF,Zoj hM];rfl) ?_;conv=>whnf
  exact .plain _ rfl
 ·rw [show stripesF.out x=.tup [.int .i64 0,.int .i64 8] by simp [stripesF,hM]]
  obtain ⟨id,members,chunk,rows,log,heads⟩:=x
  show VW P e 0 (match Nk with|.mk c _=>c) (Ah [AV.agg [.int .u32 id,.int .i64 members,.int .i64 chunk,.int .i64 rows,.int .i64 log,.int .i64 heads]] 0 .lf) St0 none [] _
  conv=>whnf
  repeat' (first|(refine EPrim.mul rfl rfl ?_;conv=>whnf)|(refine EPrim.add (q:=.i64) rfl rfl ?_;conv=>whnf)|fail)
  refine ESc.fam toldF h83 (⟨id,members,chunk,rows,log,heads⟩,_) hx (u:=.tup [.int .i64 0,.int .i64 8]) (by simp only [toldF,Zon hM]) ?_;conv=>whnf
  exact .plain _ rfl
def needF:Fam Cfg:=⟨Cfg.ok,fun x=>[x.v],fun x=>.tup [.int .i64 (if x.may then x.members+1 else 0),.int .i64 (if x.may then 0 else 8)],fun x y _ _ h=>by rw [FM (Zor h).1]⟩
theorem Ze7 (hE:EM P e) (h83:Con e 56 toldF.O):OvOk P 52 needF.O:=by
 refine Bk g52.b ?_
 intro x hx
 refine ⟨rfl,rfl,C.of_G hE g52 ?_⟩
 by_cases hM:x.may
 ·rw [show needF.out x=.tup [.int .i64 (x.members+1),.int .i64 0] by simp [needF,hM]]
  have hM':=hM
  unfold Cfg.may at hM'
  have hl:=Eo hM
  obtain ⟨id,members,chunk,rows,log,heads⟩:=x
  dsimp only at hM' hl ⊢
  show VW P e 0 (match Nj with|.mk c _=>c) (Ah [AV.agg [.int .u32 id,.int .i64 members,.int .i64 chunk,.int .i64 rows,.int .i64 log,.int .i64 heads]] 0 .lf) St0 none [] _
  conv=>whnf
  repeat' (first|(refine w7 rfl rfl (by omega) ?_;conv=>whnf)|fail)
  refine ESc.fam toldF h83 (⟨id,members,chunk,rows,log,heads⟩,_) hx (u:=.tup [_,.int .i64 0]) (by simp only [toldF,Zoj hM];rfl) ?_;conv=>whnf
  exact .plain _ rfl
 ·rw [show needF.out x=.tup [.int .i64 0,.int .i64 8] by simp [needF,hM]]
  obtain ⟨id,members,chunk,rows,log,heads⟩:=x
  show VW P e 0 (match Nj with|.mk c _=>c) (Ah [AV.agg [.int .u32 id,.int .i64 members,.int .i64 chunk,.int .i64 rows,.int .i64 log,.int .i64 heads]] 0 .lf) St0 none [] _
  conv=>whnf
  repeat' (first|(refine EPrim.mul rfl rfl ?_;conv=>whnf)|(refine EPrim.add (q:=.i64) rfl rfl ?_;conv=>whnf)|fail)
  refine ESc.fam toldF h83 (⟨id,members,chunk,rows,log,heads⟩,_) hx (u:=.tup [.int .i64 0,.int .i64 8]) (by simp only [toldF,Zon hM]) ?_;conv=>whnf
  exact .plain _ rfl
def journalF:Fam Cfg:=⟨Cfg.ok,fun x=>[x.v],fun x=>.tup [.int .i64 (if x.may then x.log+1 else 0),.int .i64 (if x.may then 0 else 8)],fun x y _ _ h=>by rw [FM (Zor h).1]⟩
theorem Z3 (hE:EM P e) (h83:Con e 56 toldF.O):OvOk P 24 journalF.O:=by
 refine Bk g24.b ?_
 intro x hx
 refine ⟨rfl,rfl,C.of_G hE g24 ?_⟩
 by_cases hM:x.may
 ·rw [show journalF.out x=.tup [.int .i64 (x.log+1),.int .i64 0] by simp [journalF,hM]]
  have hM':=hM
  unfold Cfg.may at hM'
  have hl:=Eo hM
  obtain ⟨id,members,chunk,rows,log,heads⟩:=x
  dsimp only at hM' hl ⊢
  show VW P e 0 (match Nn with|.mk c _=>c) (Ah [AV.agg [.int .u32 id,.int .i64 members,.int .i64 chunk,.int .i64 rows,.int .i64 log,.int .i64 heads]] 0 .lf) St0 none [] _
  conv=>whnf
  repeat' (first|(refine w7 rfl rfl (by omega) ?_;conv=>whnf)|fail)
  refine ESc.fam toldF h83 (⟨id,members,chunk,rows,log,heads⟩,_) hx (u:=.tup [_,.int .i64 0]) (by simp only [toldF,Zoj hM];rfl) ?_;conv=>whnf
  exact .plain _ rfl
 ·rw [show journalF.out x=.tup [.int .i64 0,.int .i64 8] by simp [journalF,hM]]
  obtain ⟨id,members,chunk,rows,log,heads⟩:=x
  show VW P e 0 (match Nn with|.mk c _=>c) (Ah [AV.agg [.int .u32 id,.int .i64 members,.int .i64 chunk,.int .i64 rows,.int .i64 log,.int .i64 heads]] 0 .lf) St0 none [] _
  conv=>whnf
  repeat' (first|(refine EPrim.mul rfl rfl ?_;conv=>whnf)|(refine EPrim.add (q:=.i64) rfl rfl ?_;conv=>whnf)|fail)
  refine ESc.fam toldF h83 (⟨id,members,chunk,rows,log,heads⟩,_) hx (u:=.tup [.int .i64 0,.int .i64 8]) (by simp only [toldF,Zon hM]) ?_;conv=>whnf
  exact .plain _ rfl
end Go.AM
namespace Go.AM
attribute [local irreducible] W
open X
structure Lv where
 seq:Int
 stripe:Int
 blocks:Int
 par:Bool
 sure:Bool
 home:Bool
def Lv.c (x:Lv):List AV:=[.int .u32 x.seq,.int .i64 x.stripe,.int .i64 x.blocks,.bool x.par,.bool x.sure,.bool x.home]
structure Lv.ok (x:Lv):Prop where
 seq:AK x.seq
 stripe:Aj x.stripe
 blocks:Aj x.blocks
def Ai (L:List Lv):List AV:=L.flatMap Lv.c
theorem FJ (x:Lv) (L:List Lv):Ai (x::L)=x.c++Ai L:=rfl
theorem ES:∀ (L:List Lv),(Ai L).length=L.length*6
 | []=>rfl
 | x::L=>by rw [FJ,Zot,ES L,Zo9];show 6+_=_;omega
theorem Kv:∀ (L:List Lv) (i:Nat),(Ai L).drop (i*6)=Ai (L.drop i)
 | L,0=>by simp
 | [],i+1=>by simp [Ai]
 | x::L,i+1=>by
  rw [List.drop_succ_cons,← Kv L i,FJ,show (i+1)*6=x.c.length+i*6 by show (i+1)*6=6+i*6;omega,List.drop_append,Zpb (by omega),List.nil_append]
  congr 1;omega
variable {L:List Lv}
theorem QI {i:Nat}(h:i<L.length):Bf 6 ((Ai L).drop (i*6))=some L[i].c:=by
 rw [Kv,Zo2 h,FJ];rfl
theorem Rd:∀ {L M:List Lv},Ai L=Ai M→L=M
 | [],[],_=>rfl
 | [],y::M,h=>by cases h
 | x::L,[],h=>by cases h
 | x::L,y::M,h=>by
  obtain ⟨a,b,c,d,e,f⟩:=x
  obtain ⟨a',b',c',d',e',f'⟩:=y
  rw [FJ,FJ] at h
  simp [Lv.c] at h
  obtain ⟨rfl,rfl,rfl,rfl,rfl,rfl,h⟩:=h
  rw [Rd h]
theorem Cq:∀ (L:List Lv),hfs (Ai L)=true
 | []=>rfl
 | x::L=>by
  show (true && (true && (true && (true && (true && (true && hfs (Ai L)))))))=true
  rw [Cq L];rfl
structure Log where
 age:Int
 seq:Int
 tail:Int
 used:Int
 live:List Lv
structure Log.ok (l:Log):Prop where
 age:AK l.age
 seq:AK l.seq
 tail:Aj l.tail
 used:Aj l.used
 live:∀ x ∈ l.live,x.ok
 len:l.live.length≤1000
def Log.c (l:Log) (v:AV):List AV:=[.int .u32 l.age,.int .u32 l.seq,.int .i64 l.tail,.int .i64 l.used,v]
def LSl (L:List Lv) (v:AV):Prop:=Sl 6 L.length (Ai L) v
theorem LSl.inj {M:List Lv}{v:AV}(h:LSl L v) (k:LSl M v):L=M:=by
 refine Rd ?_
 rcases h with ⟨rfl,_,h⟩|⟨rfl,_,h⟩|⟨c,rfl,h⟩
 ·rcases k with ⟨_,_,k⟩|⟨e,_⟩|⟨c,e,_⟩
  ·rw [h,k]
  ·cases e
  ·cases e
 ·rcases k with ⟨e,_⟩|⟨_,_,k⟩|⟨c,e,_⟩
  ·cases e
  ·rw [h,k]
  ·cases e
 ·rcases k with ⟨e,_⟩|⟨e,_⟩|⟨c,e,_⟩
  ·cases e
  ·cases e
  ·injection e with _ _ e
structure Ring where
 l:Log
 c:Cfg
structure Ring.ok (r:Ring):Prop where
 l:r.l.ok
 c:r.c.ok
def Ring.cs (r:Ring) (v:AV):List AV:=r.l.c v++r.c.c
def KM (c:AV) (es:List (AV×AV×Nat)) (ks:List Int):Prop:=es.map (fun e=>(e.1,e.2.1))=ks.map (fun k=>(AV.int .i64 k,c))
theorem RR (c:AV):KM c [] []:=rfl
theorem KM.cons {c:AV}{e:AV×AV×Nat}{es:List (AV×AV×Nat)}{ks:List Int}(h:KM c (e::es) ks):∃ k l,ks=k::l∧e.1=.int .i64 k∧e.2.1=c∧KM c es l:=by
 cases ks with
 | nil=>cases h
 | cons k l=>
  unfold KM at h
  simp at h
  exact ⟨k,l,rfl,h.1.1,h.1.2,h.2⟩
theorem KM.length {c:AV}:∀ {es:List (AV×AV×Nat)}{ks:List Int},KM c es ks→es.length=ks.length:=fun h=>by
 have:=congrArg List.length h;simpa using this
theorem Q3 (a b:Int):Ga (.int .i64 a) (.int .i64 b)=some (a == b):=by
 show cond (Cx .i64 .i64) (some (DX a b)) none=_
 rw [Hj];rfl
theorem KM.find {c:AV}{k:Int}:∀ {es:List (AV×AV×Nat)}{ks:List Int},KM c es ks→Ei (.int .i64 k) es=some (if k ∈ ks then some c else none)
 | [],ks,h=>by
  have:=h.length;simp at this
  have:ks=[]:=Zpd.1 this.symm
  subst this;rfl
 | (a,b,n)::es,ks,h=>by
  obtain ⟨k',l,rfl,e1,e2,h'⟩:=h.cons
  dsimp only at e1 e2
  subst e1 e2
  show (match Ga (.int .i64 k) (.int .i64 k') with|some true=>some (some b)|some false=>Ei (.int .i64 k) es|none=>none)=_
  rw [Q3]
  by_cases hk:k=k'
  ·subst hk;simp
  ·rw [show (k == k')=false by simpa using hk]
   simp only
   rw [KM.find h'];simp [hk]
theorem KM.set {c:AV}{k:Int}:∀ {es:List (AV×AV×Nat)}{ks:List Int},KM c es ks→KM c (HZ (.int .i64 k) c es) ks
 | [],ks,h=>h
 | (a,b,n)::es,ks,h=>by
  obtain ⟨k',l,rfl,e1,e2,h'⟩:=h.cons
  dsimp only at e1 e2
  subst e1 e2
  show KM b (match Ga (.int .i64 k) (.int .i64 k') with|some true=>(.int .i64 k,b,n)::es|_=>(.int .i64 k',b,n)::HZ (.int .i64 k) b es) _
  rw [Q3]
  by_cases hk:k=k'
  ·subst hk;simp;exact h
  ·rw [show (k == k')=false by simpa using hk]
   simp only
   have:=KM.set (k:=k) h'
   unfold KM at this ⊢
   simp [this]
theorem KM.app {c:AV}{k:Int}{n:Nat}{es:List (AV×AV×Nat)}{ks:List Int}(h:KM c es ks):KM c (es++[(.int .i64 k,c,n)]) (ks++[k]):=by
 unfold KM at h ⊢;simp [h]
theorem KM.del {c:AV}{k:Int}:∀ {es:List (AV×AV×Nat)}{ks:List Int},KM c es ks→KM c (F9 (.int .i64 k) es) (ks.erase k)
 | [],ks,h=>by
  have:=h.length;simp at this
  have:ks=[]:=Zpd.1 this.symm
  subst this;exact RR c
 | (a,b,n)::es,ks,h=>by
  obtain ⟨k',l,rfl,e1,e2,h'⟩:=h.cons
  dsimp only at e1 e2
  subst e1 e2
  show KM b (match Ga (.int .i64 k) (.int .i64 k') with|some true=>es|_=>(.int .i64 k',b,n)::F9 (.int .i64 k) es) _
  rw [Q3,List.erase_cons]
  by_cases hk:k=k'
  ·subst hk;simp;exact h'
  ·rw [show (k == k')=false by simpa using hk,show (k' == k)=false by simpa using fun e=>hk e.symm]
   simp only
   have:=KM.del (k:=k) h'
   unfold KM at this ⊢
   simp [this]
def FB (k:Int) (l:List Int):List Int:=if k ∈ l then l else l++[k]
section
variable {t:AT}{s:St}{q:AV→St→Prop}{x y z:AO}
variable {c:AV}{r n:Nat}{k:Int}{es:List (AV×AV×Nat)}{ks:List Int}
theorem Tj (hx:ev x t=.some (.map r)) (hy:ev y t=.some (.int .i64 k)) (hz:ev z t=.some c) (hs:s.get r=some (.map es n)) (hk:KM c es ks)
 (h:∀ es' n',KM c es' (FB k ks)→q (.tup []) (s.put r (.map es' n'))):EPrim (.mset x y z) t s q:=by
 by_cases hm:k ∈ ks
 ·refine EPrim.mk (v:=.tup []) (s':=s.put r (.map (HZ (.int .i64 k) c es) n)) (fun e rec=>?_) (h _ _ (by unfold FB;rw [Zoj hm];exact hk.set))
  show wth x t _=_;unfold wth;rw [hx]
  show wth y t _=_;unfold wth;rw [hy]
  show wth z t _=_;unfold wth;rw [hz]
  show (Option.rec .fail _ (mapAt r s):RV)=_
  unfold mapAt;rw [hs]
  show (Option.rec .fail _ (Ei (.int .i64 k) es):RV)=_
  rw [hk.find,Zoj hm]
 ·refine EPrim.mk (v:=.tup []) (s':=s.put r (.map (es++[(.int .i64 k,c,n)]) (n+1))) (fun e rec=>?_) (h _ _ (by unfold FB;rw [Zon hm];exact hk.app))
  show wth x t _=_;unfold wth;rw [hx]
  show wth y t _=_;unfold wth;rw [hy]
  show wth z t _=_;unfold wth;rw [hz]
  show (Option.rec .fail _ (mapAt r s):RV)=_
  unfold mapAt;rw [hs]
  show (Option.rec .fail _ (Ei (.int .i64 k) es):RV)=_
  rw [hk.find,Zon hm]
  show RV.ok _ (s.put r (.map (AZ es [(.int .i64 k,c,n)]) (n+1)))=_
  rw [Do]
theorem ZF (hx:ev x t=.some (.map r)) (hy:ev y t=.some (.int .i64 k)) (hs:s.get r=some (.map es n)) (hk:KM c es ks)
 (h:∀ es' n',KM c es' (ks.erase k)→q (.tup []) (s.put r (.map es' n'))):EPrim (.mdel x y) t s q:=by
 refine EPrim.mk (v:=.tup []) (s':=s.put r (.map (F9 (.int .i64 k) es) n)) (fun e rec=>?_) (h _ _ hk.del)
 show wth x t _=_;unfold wth;rw [hx]
 show wth y t _=_;unfold wth;rw [hy]
 show (Option.rec .fail _ (mapAt r s):RV)=_
 unfold mapAt;rw [hs]
 show (Option.rec .fail _ (Ei (.int .i64 k) es):RV)=_
 rw [hk.find]
theorem Tk {zv:AV}(hx:ev x t=.some (.map r)) (hy:ev y t=.some (.int .i64 k)) (hs:s.get r=some (.map es n)) (hk:KM c es ks)
 (h1:k ∈ ks→q c s) (h2:k ∉ ks→q zv s):EPrim (.mget zv false x y) t s q:=by
 by_cases hm:k ∈ ks
 ·refine EPrim.mk (v:=c) (s':=s) (fun e rec=>?_) (h1 hm)
  show wth x t _=_;unfold wth;rw [hx]
  show wth y t _=_;unfold wth;rw [hy]
  show (Option.rec .fail _ (mapAt r s):RV)=_
  unfold mapAt;rw [hs]
  show (Option.rec .fail _ (Ei (.int .i64 k) es):RV)=_
  rw [hk.find,Zoj hm];rfl
 ·refine EPrim.mk (v:=zv) (s':=s) (fun e rec=>?_) (h2 hm)
  show wth x t _=_;unfold wth;rw [hx]
  show wth y t _=_;unfold wth;rw [hy]
  show (Option.rec .fail _ (mapAt r s):RV)=_
  unfold mapAt;rw [hs]
  show (Option.rec .fail _ (Ei (.int .i64 k) es):RV)=_
  rw [hk.find,Zon hm];rfl
theorem ZG (hx:ev x t=.some (.map r)) (hs:s.get r=some (.map es n)) (hk:KM c es ks)
 (h:q (.int .i64 (ks.length:Int)) s):EPrim (.lenm x) t s q:=by
 refine EPrim.mk (v:=.int .i64 (ks.length:Int)) (s':=s) (fun e rec=>?_) h
 show wth x t _=_;unfold wth;rw [hx]
 show (Option.rec .fail _ (mapAt r s):RV)=_
 unfold mapAt;rw [hs]
 show RV.ok (CB (A3 es)) s=_
 rw [CA,hk.length];rfl
end
theorem RO {c:AV}{n:Nat}(hc:bd n c=true):∀ {es:List (AV×AV×Nat)}{ks:List Int},KM c es ks→Jf n es=true
 | [],ks,h=>rfl
 | (a,b,m)::es,ks,h=>by
  obtain ⟨k',l,rfl,e1,e2,h'⟩:=h.cons
  dsimp only at e1 e2
  subst e1 e2
  show (true && bd n b && Jf n es)=true
  rw [hc,RO hc h'];rfl
theorem Rb {c:AV}{ρ:Nat→Nat}(hc:A2 ρ c=c):∀ {es:List (AV×AV×Nat)}{ks:List Int},KM c es ks→F5 ρ es=es
 | [],ks,h=>rfl
 | (a,b,m)::es,ks,h=>by
  obtain ⟨k',l,rfl,e1,e2,h'⟩:=h.cons
  dsimp only at e1 e2
  subst e1 e2
  show (AV.int .i64 k',A2 ρ b,m)::F5 ρ es=_
  rw [Rb hc h',hc]
def F0 (l:List Int) (x:Lv):List Int:=if x.par then (FB x.stripe l).erase x.stripe else FB x.stripe l
def Cr (L:List Lv):List Int:=L.foldl F0 []
def Zku:AC:=match a88 with|.mk c _=>c
variable {l cs:List AV}
theorem CS {n:Nat}{k:List AV→Prop}(h:Bf n l=some cs) (hk:k cs):ETake n l k:=by
 unfold ETake;exact ⟨cs,h,hk⟩
theorem Zc8 (e:Env) (hE:EM P e) (r:Ring) (hr:r.ok) (v:AV) (hv:LSl r.l.live v) (Q:AV→St→Prop) (k:∀ s,Q (.int .i64 ((Cr r.l.live).length:Int)) s):
 VW P e 0 Zku (Ah [.fp (r.cs v)] 0 .lf) St0 none [] (AR [.tmp 2] Q):=by
 obtain ⟨L,hL⟩:∃ L,L=r.l.live:=⟨_,rfl⟩
 rw [← hL] at hv k
 have hlen:L.length≤1000:=by rw [hL];exact hr.l.len
 conv=>whnf
 refine EHead.mk rfl ?_;conv=>whnf
 refine Af rfl hv ?_;conv=>whnf
 refine EX (α:=Nat×List (AV×AV×Nat)×Nat) (fun x=>[(3,.map 0),(11,v),(12,.int .i64 (L.length:Int)),(13,.int .i64 (x.1:Int))]) (fun x=>[.map x.2.1 x.2.2]) (fun x=>L.length-x.1)
  (fun x=>x.1≤L.length∧KM (.bool true) x.2.1 (Cr (L.take x.1))) (0,[],0) [0] ⟨Zoy _,RR _⟩ ⟨by decide,⟨r9,t9 hv.hf,r9,r9,trivial⟩,⟨r9,trivial⟩⟩ ?_
 rintro ⟨i,es,n⟩ ⟨hi,hK⟩
 dsimp only at hi hK ⊢
 refine A9 hE ?_;conv=>whnf
 refine Ag rfl rfl (fun h=>?_) (fun h=>?_) <;> conv=>whnf
 ·have hlt:i<L.length:=by omega
  refine A8 rfl hv rfl hlt ?_;conv=>whnf
  refine CS (QI hlt) ?_
  have hst:Cr (L.take (i+1))=F0 (Cr (L.take i)) L[i]:=by
   rw [Zos hlt];unfold Cr;rw [List.foldl_append];rfl
  revert hst
  generalize L[i]=x
  obtain ⟨sq,st,bl,pa,su,ho⟩:=x
  intro hst
  have fin:∀ t s es' n',KM (.bool true) es' (Cr (L.take (i+1)))→t.get 3=some (.map 0)→t.get 11=some v→t.get 12=some (.int .i64 (L.length:Int))→t.get 13=some (.int .i64 ((i:Int)+1))→s.get 0=some (.map es' n')→
   ([]:List Nat)=[]∧∃ x':Nat×List (AV×AV×Nat)×Nat,(x'.1≤L.length∧KM (.bool true) x'.2.1 (Cr (L.take x'.1)))∧L.length-x'.1<L.length-i∧∃ rs,Abs t s [(3,.map 0),(11,v),(12,.int .i64 (L.length:Int)),(13,.int .i64 (x'.1:Int))] [.map x'.2.1 x'.2.2] rs:=by
   intro t s es' n' hK h3 h11 h12 h13 g0
   refine ⟨rfl,(i+1,es',n'),⟨hlt,hK⟩,by simp;omega,[0],⟨by decide,⟨⟨rfl,h3⟩,⟨Bz _ hv.hf,by rw [Bv _ hv.hf];exact h11⟩,⟨rfl,h12⟩,⟨rfl,h13⟩,trivial⟩,⟨⟨RO rfl hK,?_⟩,trivial⟩⟩⟩
   show _=some (AObj.map (F5 _ es') n');rw [Rb rfl hK];exact g0
  conv=>whnf
  refine Tj rfl rfl rfl rfl hK (fun es' n' hK'=>?_)
  cases pa with
  | true=>
   conv=>whnf
   refine ZF rfl rfl rfl hK' (fun es'' n'' hK''=>?_);conv=>whnf
   repeat' (first|((first|refine w7 rfl rfl (by omega) ?_|refine ⟨rfl,?_⟩);conv=>whnf)|fail)
   refine (fin _ _ es'' n'' (by rw [hst];exact hK'') ?_ ?_ ?_ ?_ ?_).2 <;> rfl
  | false=>
   conv=>whnf
   repeat' (first|((first|refine w7 rfl rfl (by omega) ?_|refine ⟨rfl,?_⟩);conv=>whnf)|fail)
   refine (fin _ _ es' n' (by rw [hst];exact hK') ?_ ?_ ?_ ?_ ?_).2 <;> rfl
 ·have:L.take i=L:=Zoo (by omega)
  rw [this] at hK
  refine ZG rfl rfl hK ?_;conv=>whnf
  exact k _
structure RAt (s:St) (a:AV) (r:Ring) (v:AV):Prop where
 frz:Frz s a (.fp (r.cs v))
 sl:LSl r.l.live v
 ok:r.ok
def atom:AV→Bool
 | .int ..=>true
 | .bool _=>true
 | _=>false
variable {s:St}{x u:AV}
theorem Frz.atom (h:Frz s x u) (ha:atom u=true):x=u:=by
 cases h with
 | plain _ _=>rfl
 | sl _ _ _ _ _ _ _ _ _=>cases ha
 | ptr _ _ _ _ _ _=>cases ha
 | agg _ _ _=>cases ha
 | tup _ _ _=>cases ha
 | fn _ _ _ _ _ _ _=>cases ha
theorem Q6 {s:St}:∀ {l us:List AV},All2 (Frz s) l us→(∀ u ∈ us,AM.atom u=true)→l=us
 | _,_,.nil,_=>rfl
 | _,_,.cons a b,h=>by rw [a.atom (h _ (by simp)),Q6 b (fun u hu=>h u (by simp [hu]))]
theorem Frz.of_hf (h:Frz s x u) (hx:AM.hf x=true):(∀ l,x≠.agg l)→(∀ l,x≠.tup l)→(∀ f a b,x≠.fn f a b)→u=x:=by
 cases h with
 | plain _ _=>intros;rfl
 | sl _ _ _ _ _ _ _ _ _=>cases hx
 | ptr _ _ _ _ _ _=>cases hx
 | agg l _ _=>intro h;exact absurd rfl (h l)
 | tup l _ _=>intro _ h;exact absurd rfl (h l)
 | fn f a b _ _ _ _=>intro _ _ h;exact absurd rfl (h f a b)
variable {L:List Lv}
theorem Vp:∀ u ∈ Ai L,atom u=true:=by
 induction L with
 | nil=>intro u h;cases h
 | cons x L ih=>
  intro u h
  rcases Zo7.1 (show u ∈ x.c++Ai L from h) with h|h
  ·simp [Lv.c] at h
   rcases h with rfl|rfl|rfl|rfl|rfl|rfl <;> rfl
  ·exact ih u h
theorem U6 {l':List AV}{o:Nat}(h:∀ (i:Nat) x,l[i]?=some x→cs[o+i]?=some x) (h':∀ (i:Nat) x,l'[i]?=some x→cs[o+i]?=some x) (hl:l.length=l'.length):l=l':=by
 refine List.ext_getElem? fun i=>?_
 by_cases hi:i<l.length
 ·have h1:=h i _ (Zof hi)
  have h2:=h' i _ (Zof (l:=l') (i:=i) (by omega))
  rw [Zof hi,Zof (l:=l') (i:=i) (by omega),← h1,← h2]
 ·rw [Zqi (by omega),Zqi (by omega)]
variable {v v':AV}
theorem Frz.live {L':List Lv}(h:Frz s x v) (h':Frz s x v') (hv:LSl L v) (hv':LSl L' v'):L=L':=by
 rcases hv with ⟨rfl,e1,e2⟩|⟨rfl,e1,e2⟩|⟨c,rfl,e2⟩
 ·have hx:x=.nils:=by cases h;rfl
  subst hx
  have:=h'.of_hf rfl (by simp) (by simp) (by simp)
  subst this
  exact LSl.inj (.inl ⟨rfl,e1,e2⟩) hv'
 ·have hx:x=.es:=by cases h;rfl
  subst hx
  have:=h'.of_hf rfl (by simp) (by simp) (by simp)
  subst this
  exact LSl.inj (.inr (.inl ⟨rfl,e1,e2⟩)) hv'
 ·cases h with
  | plain _ hh=>
   have:=h'.of_hf rfl (by simp) (by simp) (by simp)
   subst this
   exact LSl.inj (.inr (.inr ⟨c,rfl,e2⟩)) hv'
  | sl r o n cap cap' e cs l us h1 h2 h3 h4=>
   have hl1:=Q6 h3 Vp
   cases h' with
   | plain _ hh=>cases hh
   | sl _ _ _ _ cap2 e2' cs2 l2 us2 g1 g2 g3 g4=>
    rw [h1] at g1;cases g1
    rcases hv' with ⟨q,_⟩|⟨q,_⟩|⟨c2,q,q2⟩
    ·cases q
    ·cases q
    ·injection q with q0 _ q3
     subst q3
     have hl2:=Q6 g3 Vp
     rw [hl1] at h2;rw [hl2] at g2
     refine Rd (U6 h2 g2 ?_)
     rw [ES,ES,q0]
theorem Es:∀ {l:List AV},hfs l=true→All2 (Frz s) l l
 | [],_=>.nil
 | x::l,h=>by
  simp only [hfs,Zoh] at h
  exact .cons (.plain _ h.1) (Es h.2)
theorem UR (r:Ring) (h:LSl r.l.live v):hfs (r.cs v)=true:=by
 show (true && (true && (true && (true && (AM.hf v && (true && (true && (true && (true && (true && (true && true)))))))))))=true
 rw [h.hf];rfl
theorem RAt.inj {a:AV}{r r':Ring}(h:RAt s a r v) (h':RAt s a r' v'):r=r':=by
 have key:∀ (l:List AV),All2 (Frz s) l (r.cs v)→All2 (Frz s) l (r'.cs v')→r=r':=by
  intro l g g'
  obtain ⟨⟨ag,sq,tl,us,lv⟩,⟨i1,i2,i3,i4,i5,i6⟩⟩:=r
  obtain ⟨⟨ag',sq',tl',us',lv'⟩,⟨j1,j2,j3,j4,j5,j6⟩⟩:=r'
  cases g with|cons a1 g=>cases g with|cons a2 g=>cases g with|cons a3 g=>cases g with|cons a4 g=>cases g with|cons a5 g=>cases g with|cons a6 g=>cases g with|cons a7 g=>cases g with|cons a8 g=>cases g with|cons a9 g=>cases g with|cons a10 g=>cases g with|cons a11 g=>
  cases g' with|cons b1 g'=>cases g' with|cons b2 g'=>cases g' with|cons b3 g'=>cases g' with|cons b4 g'=>cases g' with|cons b5 g'=>cases g' with|cons b6 g'=>cases g' with|cons b7 g'=>cases g' with|cons b8 g'=>cases g' with|cons b9 g'=>cases g' with|cons b10 g'=>cases g' with|cons b11 g'=>
  have c1:=(a1.atom rfl).symm.trans (b1.atom rfl)
  have c2:=(a2.atom rfl).symm.trans (b2.atom rfl)
  have c3:=(a3.atom rfl).symm.trans (b3.atom rfl)
  have c4:=(a4.atom rfl).symm.trans (b4.atom rfl)
  have c5:=a5.live b5 h.sl h'.sl
  have c6:=(a6.atom rfl).symm.trans (b6.atom rfl)
  have c7:=(a7.atom rfl).symm.trans (b7.atom rfl)
  have c8:=(a8.atom rfl).symm.trans (b8.atom rfl)
  have c9:=(a9.atom rfl).symm.trans (b9.atom rfl)
  have c10:=(a10.atom rfl).symm.trans (b10.atom rfl)
  have c11:=(a11.atom rfl).symm.trans (b11.atom rfl)
  injection c1 with _ c1;injection c2 with _ c2;injection c3 with _ c3;injection c4 with _ c4;injection c6 with _ c6;injection c7 with _ c7;injection c8 with _ c8;injection c9 with _ c9;injection c10 with _ c10;injection c11 with _ c11
  dsimp only at c1 c2 c3 c4 c5 c6 c7 c8 c9 c10 c11
  subst c1 c2 c3 c4 c5 c6 c7 c8 c9 c10 c11;rfl
 have hf1:=h.frz
 have hf2:=h'.frz
 generalize hu:r.cs v=us at hf1
 generalize hu':r'.cs v'=us' at hf2
 cases hf1 with
 | plain _ hh=>
  have:=hf2.of_hf rfl (by simp) (by simp) (by simp)
  injection this with this
  subst this
  have H:=UR r h.sl
  refine key (r.cs v) (Es H) ?_
  rw [hu',← hu]
  exact Es H
 | ptr q o e cs l us h1 h2 h3=>
  cases hf2 with
  | ptr _ _ e2 cs2 l2 us2 g1 g2 g3=>
   rw [h1] at g1;cases g1
   subst hu hu'
   have:l=l2:=U6 h2 g2 (by rw [h3.length,g3.length];rfl)
   subst this
   exact key l h3 g3
mutual
theorem Sa:∀ (v:AV),sc v=true→AM.hf v=true
 | .ptr ..,h=>by cases h
 | .sl ..,h=>by cases h
 | .map ..,h=>by cases h
 | .yld ..,h=>by cases h
 | .fz ..,h=>by cases h
 | .fp ..,h=>by cases h
 | .fn f a b,h=>by
  simp only [sc,Zoh] at h
  simp only [AM.hf,Zoh]
  exact ⟨Mb a h.1,Mb b h.2⟩
 | .iface t v,h=>Sa v h
 | .agg l,h=>Mb l h
 | .tup l,h=>Mb l h
 | .bool _,_|.int _ _,_|.str _,_|.nilp,_|.nils,_|.es,_|.ez,_|.nilm,_|.nilf,_|.nili,_|.any,_=>rfl
theorem Mb:∀ (l:List AV),Jc l=true→AM.hfs l=true
 | [],_=>rfl
 | v::l,h=>by
  simp only [Jc,Zoh] at h
  simp only [AM.hfs,Zoh]
  exact ⟨Sa v h.1,Mb l h.2⟩
end
noncomputable def CV (p:Ring→Prop) (g:Ring→AV):Ov:=fun args s=>open Classical in if h:∃ r a v,args=[a]∧RAt s a r v∧p r then .ok (g (Classical.choose h)) s else .fail
variable {p:Ring→Prop}{g:Ring→AV}{v:AV}{s:St}{r:Ring}
theorem I0 {a:AV}(h:RAt s a r v) (hp:p r):CV p g [a] s=.ok (g r) s:=by
 have hx:∃ r a' v,[a]=[a']∧RAt s a' r v∧p r:=⟨r,a,v,rfl,h,hp⟩
 unfold CV
 rw [dif_pos hx]
 obtain ⟨a',v',e,h',_⟩:=Zpu hx
 injection e with e
 subst e
 rw [RAt.inj h h']
theorem NX {f:Nat}(hb:G4 P f) (hg:∀ r,sc (g r)=true) (h:∀ r v,r.ok→p r→LSl r.l.live v→C P f [.fp (r.cs v)] St0 (fun u s'=>u=g r)):OvOk P f (CV p g):=by
 refine ⟨hb,fun args s u s' hh=>?_⟩
 unfold CV at hh
 split at hh
 ·rename_i hx
  cases hh
  obtain ⟨a,v,rfl,hr,hp⟩:=Zpu hx
  have H2:hfs [AV.fp (Ring.cs (Classical.choose hx) v)]=true:=rfl
  exact HQ (.cons hr.frz .nil) (hg _) (GZ H2 ((h _ v hr.ok hp hr.sl).mono fun u s' e=>by
   rw [e];exact Frz.plain _ (Sa _ (hg (Classical.choose hx)))))
 ·cases hh
theorem RAt.fp (hv:LSl r.l.live v) (hr:r.ok):RAt s (.fp (r.cs v)) r v:=⟨.plain _ rfl,hv,hr⟩
def Fy (tk:List Int) (x:Lv):List Int:=if x.home && x.par then FB x.stripe tk else tk
def Gj (tk:List Int) (x:Lv):Bool:=x.home && (!x.sure || !decide (x.stripe ∈ Fy tk x))
def Fq:List Lv→List Int→Bool
 | [],_=>true
 | x::l,tk=>!Gj tk x && Fq l (Fy tk x)
def De (L:List Lv):Bool:=Fq L.reverse []
def Rt:AC:=match a54 with|.mk c _=>c
def E2:AC→Option (AC×AC)
 | .rng _ _ a b=>some (a,b)
 | .seq a b=>match E2 a with|some x=>some x|none=>E2 b
 | .block _ b=>E2 b
 | .loop b=>E2 b
 | _=>none
def Pj:AC:=match E2 Rt with|some (a,_)=>a|none=>.skip
def OE:AC:=match E2 Rt with|some (_,b)=>b|none=>.skip
noncomputable def MA:AT:=Am [(2,.ptr 0 0),(3,.ptr 2 0),(12,.fn 108 [] [.ptr 3 0])]
def Wv:AC:=match a87 with|.mk c _=>c
theorem Sl.cells {es n:Nat}{l:List AV}(h:Sl es n l v):cellsOf v=[v]:=by
 rcases h with ⟨rfl,_⟩|⟨rfl,_⟩|⟨c,rfl,_⟩ <;> rfl
theorem Zcs (e:Env) (hE:EM P e) (h159:Inl e 87 Wv [.tmp 2]) (r:Ring) (hr:r.ok) (v:AV) (hv:LSl r.l.live v) (Q:AV→St→Prop) (k:∀ s,Q (.bool (De r.l.live)) s):
 VW P e 0 Rt (Ah [.fp (r.cs v)] 0 .lf) St0 none [] (AR [.cell 2] Q):=by
 obtain ⟨L,hL⟩:∃ L,L=r.l.live:=⟨_,rfl⟩
 rw [← hL] at hv k
 have hlen:L.length≤1000:=by rw [hL];exact hr.l.len
 conv=>whnf
 refine EHead.mk rfl ?_;conv=>whnf
 refine ESc.inl h159 ?_;conv=>whnf
 refine KL (by show Nat.beq (A3 (cellsOf v)) 1=true;rw [hv.cells];rfl) ?_
 rw [hv.cells]
 conv=>whnf
 refine W.abs [(2,.ptr 0 0),(3,.ptr 2 0),(12,.fn 108 [] [.ptr 3 0])] [.row 4 [.bool false],.map [] 0,.row 161 [.map 1],.row 29 [v]] [0,1,2,3] ⟨by decide,⟨r9,r9,r9,trivial⟩,⟨r9,r9,r9,⟨?_,?_⟩,trivial⟩⟩ ?_
 ·show (bd _ v && true)=true;rw [Bz _ hv.hf];rfl
 ·show _=some (AObj.row 29 [A2 _ v]);rw [Bv _ hv.hf];rfl
 refine KU (f:=108) (first:=[]) (cap:=[.ptr 3 0]) g108.b rfl ?_ ?_
 ·intro q hq
  have hq:q<4:=hq
  have n2:Named (Am [(2,.ptr 0 0),(3,.ptr 2 0),(12,.fn 108 [] [.ptr 3 0])]) (Ac St0 [.row 4 [.bool false],.map [] 0,.row 161 [.map 1],.row 29 [v]]) 2:=.tmp 3 (.ptr 2 0) rfl rfl
  rcases q with _|_|_|_|q
  ·exact .tmp 2 (.ptr 0 0) rfl rfl
  ·exact .cell 2 161 [.map 1] 0 (.map 1) n2 rfl rfl rfl
  ·exact n2
  ·exact .tmp 12 (.fn 108 [] [.ptr 3 0]) rfl rfl
  ·omega
 show C1 P 108 [.yld 5,.ptr 3 0] (Ac St0 [.row 4 [.bool false],.map [] 0,.row 161 [.map 1],.row 29 [v],.defd,.loop .ready none 0 MA [13,14] Pj OE 4]) (fun _ s'=>II 5 [4] MA s' _)
 refine C1.of_G hE g108 ?_;conv=>whnf
 refine Af rfl hv ?_;conv=>whnf
 repeat' (first|(refine w8 rfl rfl (by omega) ?_;conv=>whnf)|fail)
 refine WE (α:=Nat×List Int×List (AV×AV×Nat)×Nat) (fun x=>[(0,.yld 5),(1,.ptr 3 0),(3,.int .i64 ((x.1:Int)-1))]) (fun x=>[.row 4 [.bool false],.map x.2.2.1 x.2.2.2,.row 161 [.map 1],.row 29 [v],.defd,.loop .ready none 0 MA [13,14] Pj OE 4]) (fun x=>x.1)
  (fun x=>x.1≤L.length∧KM (.int .i64 1) x.2.2.1 x.2.1∧De L=Fq (L.take x.1).reverse x.2.1) (L.length,[],[],0) [0,1,2,3,4,5] ⟨Zo0 _,RR _,by rw [List.take_length];rfl⟩ ?_ ?_
 ·refine ⟨rfl,by decide,⟨r9,r9,r9,trivial⟩,⟨r9,r9,r9,⟨?_,?_⟩,r9,r9,trivial⟩⟩
  ·show (bd _ v && true)=true;rw [Bz _ hv.hf];rfl
  ·show _=some (AObj.row 29 [A2 _ v]);rw [Bv _ hv.hf];rfl
 rintro ⟨j,tk,es,n⟩ ⟨hj,hK,hh⟩
 dsimp only at hj hK hh ⊢
 refine A9 hE ?_;conv=>whnf
 refine FI rfl rfl (fun h=>?_) (fun h=>?_) <;> conv=>whnf
 ·obtain ⟨i,rfl⟩:∃ i,j=i+1:=⟨j-1,by omega⟩
  have hlt:i<L.length:=by omega
  rw [show ((i+1:Nat):Int)-1=(i:Int) by omega]
  refine A8 rfl hv rfl hlt ?_;conv=>whnf
  refine CS (QI hlt) ?_
  have hst:De L=(!Gj tk L[i] && Fq (L.take i).reverse (Fy tk L[i])):=by
   rw [hh,Zos hlt,List.reverse_append];rfl
  revert hst
  generalize L[i]=x
  obtain ⟨sq,st,bl,pa,su,ho⟩:=x
  intro hst
  conv=>whnf
  refine ERound.mk ?_
  have fin:∀ t s tk' es' n',De L=Fq (L.take i).reverse tk'→KM (.int .i64 1) es' tk'→t.get 0=some (.yld 5)→t.get 1=some (.ptr 3 0)→t.get 3=some (.int .i64 ((i:Int)-1))→s.get 0=some (.row 4 [.bool false])→s.get 1=some (.map es' n')→s.get 2=some (.row 161 [.map 1])→s.get 3=some (.row 29 [v])→s.get 4=some .defd→s.get 5=some (.loop .ready none 0 MA [13,14] Pj OE 4)→
   ∃ x':Nat×List Int×List (AV×AV×Nat)×Nat,(x'.1≤L.length∧KM (.int .i64 1) x'.2.2.1 x'.2.1∧De L=Fq (L.take x'.1).reverse x'.2.1)∧x'.1<i+1∧∃ rs,AbsK 6 t s [(0,.yld 5),(1,.ptr 3 0),(3,.int .i64 ((x'.1:Int)-1))] [.row 4 [.bool false],.map x'.2.2.1 x'.2.2.2,.row 161 [.map 1],.row 29 [v],.defd,.loop .ready none 0 MA [13,14] Pj OE 4] rs:=by
   intro t s tk' es' n' hh hK h0 h1 h3 g0 g1 g2 g3 g4 g5
   refine ⟨(i,tk',es',n'),⟨by simp;omega,hK,hh⟩,by simp,[0,1,2,3,4,5],rfl,by decide,⟨⟨rfl,h0⟩,⟨rfl,h1⟩,⟨rfl,h3⟩,trivial⟩,⟨⟨rfl,g0⟩,⟨RO rfl hK,?_⟩,⟨rfl,g2⟩,⟨?_,?_⟩,⟨rfl,g4⟩,⟨rfl,g5⟩,trivial⟩⟩
   ·show _=some (AObj.map (F5 _ es') n');rw [Rb rfl hK];exact g1
   ·show (bd _ v && true)=true;rw [Bz _ hv.hf];rfl
   ·show _=some (AObj.row 29 [A2 _ v]);rw [Bv _ hv.hf];exact g3
  cases ho <;> cases pa <;> cases su
  all_goals
   conv=>whnf
   repeat' (first|(refine Tj rfl rfl rfl rfl hK (fun es' n' hK'=>?_);conv=>whnf)|(refine Tk rfl rfl rfl hK (fun hin=>?_) (fun hin=>?_) <;> conv=>whnf)|(refine Tk rfl rfl rfl hK' (fun hin=>?_) (fun hin=>?_) <;> conv=>whnf)|((refine w5 rfl rfl ?_ ?_) <;> intro _ <;> first|(exfalso;omega)|(conv=>whnf))|((first|refine w8 rfl rfl (by omega) ?_|refine w12 rfl ?_|refine w13 rfl ?_|refine ⟨rfl,?_⟩);conv=>whnf)|fail)
  all_goals first
   | (refine fin _ _ tk es n ?_ hK ?_ ?_ ?_ ?_ ?_ ?_ ?_ ?_ ?_ <;> first|rfl|(rw [hst];simp [Gj,Fy];done))
   | (refine fin _ _ tk es n ?_ hK ?_ ?_ ?_ ?_ ?_ ?_ ?_ ?_ ?_ <;> first|rfl|(rw [hst];simp [Gj,Fy,hin];done))
   | (refine fin _ _ _ es' n' ?_ hK' ?_ ?_ ?_ ?_ ?_ ?_ ?_ ?_ ?_ <;> first|rfl|(rw [hst];simp [Gj,Fy,hin];done))
   | ((suffices hF:De L=false by (rw [hF] at k;exact k _));rw [hst];simp [Gj,Fy];done)
   | ((suffices hF:De L=false by (rw [hF] at k;exact k _));rw [hst];simp [Gj,Fy,hin];done)
 ·have:j=0:=by omega
  subst this
  conv=>whnf
  have hT:De L=true:=by rw [hh];rfl
  rw [hT] at k
  exact k _
def Ik (_:Ring):Prop:=True
def Gi (r:Ring):Prop:=r.c.may
def Pd (r:Ring):AV:=.int .i64 ((Cr r.l.live).length:Int)
def KB (r:Ring):AV:=.bool (De r.l.live)
variable {e:Env}
theorem Zc9 (hE:EM P e):OvOk P 88 (CV Ik Pd):=
 NX g88.b (fun r=>rfl) fun r v hr _ hv=>C.of_G hE g88 (Zc8 e hE r hr v hv _ (fun s=>rfl))
theorem Zct (hE:EM P e) (h159:Inl e 87 Wv [.tmp 2]):OvOk P 54 (CV Ik KB):=
 NX g54.b (fun r=>rfl) fun r v hr _ hv=>C.of_G hE g54 (Zcs e hE h159 r hr v hv _ (fun s=>rfl))
theorem Z7 (k:Int) (l:List Int):(FB k l).length≤l.length+1:=by
 unfold FB;split <;> simp
theorem Zf (l:List Int) (x:Lv):(F0 l x).length≤l.length+1:=by
 unfold F0
 have:=Z7 x.stripe l
 split
 ·have h2:=List.length_erase_le (a:=x.stripe) (l:=FB x.stripe l);omega
 ·exact this
theorem YO (L:List Lv):(Cr L).length≤L.length:=by
 unfold Cr
 have:∀ (L:List Lv) (l:List Int),(L.foldl F0 l).length≤l.length+L.length:=by
  intro L
  induction L with
  | nil=>intro l;simp
  | cons x L ih=>intro l;have:=ih (F0 l x);have:=Zf l x;simp at *;omega
 simpa using this L []
def BZ (r:Ring):Bool:=decide (r.l.used≤r.c.log) && decide ((r.c.members+1)*((Cr r.l.live).length:Int)≤IntKind.i64.wrap (r.c.log-r.l.used))
theorem Zeq (hE:EM P e) (h53:Con e 52 needF.O) (h125:Con e 88 (CV Ik Pd)):OvOk P 55 (CV Gi (fun r=>.bool (BZ r))):=by
 refine NX g55.b (fun r=>rfl) fun r v hr hp hv=>C.of_G hE g55 ?_
 have hd:(Cr r.l.live).length≤1000:=Nat.le_trans (YO _) hr.l.len
 have hM:r.c.may:=hp
 unfold Gi Cfg.may at hp
 have hv':=hr.c
 conv=>whnf
 refine CS rfl ?_;conv=>whnf
 refine ESc.fam needF h53 r.c hv' (u:=.tup [.int .i64 (r.c.members+1),.int .i64 0]) (by simp [needF,hM]) ?_;conv=>whnf
 repeat' (first|(refine EHead.mk rfl ?_;conv=>whnf)|(refine EPrim.sub (q:=.i64) rfl rfl ?_;conv=>whnf)|(refine ESc.ov h125 (I0 (RAt.fp hv hr) trivial) ?_;conv=>whnf)|(refine EA rfl rfl (NJ (by omega) (by omega)) ?_;conv=>whnf)|((first|refine w2 rfl rfl ?_ ?_|refine w4 rfl rfl ?_ ?_) <;> intro _ <;> first|(exfalso;omega)|(conv=>whnf))|(refine ⟨rfl,?_⟩;conv=>whnf)|fail)
 all_goals
  show AV.bool _=AV.bool (BZ r)
  unfold BZ
  congr 1
  symm
  simp only [Zoh,Bool.and_eq_false_iff,Zpc,Zpl]
  omega
end Go.AM
namespace Go.AM
attribute [local irreducible] W
open X
def OC:AC:=match a53 with|.mk c _=>c
def Xj:AC:=match a23 with|.mk c _=>c
theorem N7 (e:Env) (s:St) (n:Int) (K:AV→St→Prop) (h:K (.bool (CO n)) s):VE e OC (Ah [.int .u32 n] 0 .lf) s none [] (AR [.tmp 2] K):=by
 unfold CO at h
 conv=>whnf
 repeat' (first|((first|refine w2 rfl rfl ?_ ?_|refine w4 rfl rfl ?_ ?_) <;> intro _ <;> first|(exfalso;omega)|(conv=>whnf))|fail)
 ·rw [Zok (by omega)] at h;exact h
 ·rw [Zow (by omega)] at h;exact h
 ·rw [Zow (by omega)] at h;exact h
def Fw (r:Ring) (i:Nat) (sure:Bool) (x:Lv):Prop:=
 x.stripe<0∨r.c.chunk*r.c.rows≤x.stripe∨x.blocks<2∨r.c.members+1<x.blocks∨x.seq=0∨x.seq≠(r.l.seq-((r.l.live.length:Int)-i)) % 4294967296∨(x.sure=true∧sure=false)
instance (r:Ring) (i:Nat) (sure:Bool) (x:Lv):Decidable (Fw r i sure x):=by unfold Fw;infer_instance
def Ev (r:Ring):Nat→Int→Bool→List Lv→Option Int
 | _,u,_,[]=>some u
 | i,u,s,x::l=>if Fw r i s x then none else Ev r (i+1) (u+x.blocks) x.sure l
def Gf (r:Ring):Prop:=CO r.l.age=true∧CO r.l.seq=true∧0≤r.l.tail∧r.l.tail<r.c.log∧(r.l.live.length:Int)≤r.c.log∧r.l.used≤r.c.log
instance (r:Ring):Decidable (Gf r):=by unfold Gf;infer_instance
def Ee (r:Ring):Bool:=decide (Gf r) && (match Ev r 0 0 true r.l.live with
 | none=>false
 | some u=>decide (u=r.l.used) && decide ((r.l.live.length:Int)<r.l.seq) && De r.l.live && BZ r)
theorem Zb1 (e:Env) (hE:EM P e) (h38:Con e 51 stripesF.O) (h53:Con e 52 needF.O) (h122:Inl e 53 OC [.tmp 2]) (h123:Con e 54 (CV Ik KB)) (h81:Con e 55 (CV Gi (fun r=>.bool (BZ r)))) (r:Ring) (hr:r.ok) (hM:r.c.may) (v:AV) (hv:LSl r.l.live v) (Q:AV→St→Prop) (k:∀ s,Q (.bool (Ee r)) s):
 VW P e 0 Xj (Ah [.fp (r.cs v)] 0 .lf) St0 none [] (AR [.tmp 2] Q):=by
 have hp:=hM
 unfold Cfg.may at hp
 have hlog:=Eo hM
 have hlen:=hr.l.len
 have kF:Ee r=false→∀ s,Q (.bool false) s:=fun h s=>by have:=k s;rw [h] at this;exact this
 have topF:¬ Gf r→∀ s,Q (.bool false) s:=fun h=>kF (by unfold Ee;rw [Zow h];rfl)
 conv=>whnf
 refine CS rfl ?_;conv=>whnf
 refine ESc.fam stripesF h38 r.c hr.c (u:=.tup [.int .i64 (r.c.chunk*r.c.rows),.int .i64 0]) (by simp [stripesF,hM]) ?_;conv=>whnf
 refine CS rfl ?_;conv=>whnf
 refine ESc.fam needF h53 r.c hr.c (u:=.tup [.int .i64 (r.c.members+1),.int .i64 0]) (by simp [needF,hM]) ?_;conv=>whnf
 refine EHead.mk rfl ?_;conv=>whnf
 refine ESc.inl h122 (N7 e _ r.l.age _ ?_)
 cases hA:CO r.l.age <;> conv=>whnf
 ·repeat' (first|(refine w13 rfl ?_;conv=>whnf)|fail)
  exact topF (by unfold Gf;rw [hA];simp) _
 repeat' (first|(refine EHead.mk rfl ?_;conv=>whnf)|(refine w12 rfl ?_;conv=>whnf)|fail)
 refine ESc.inl h122 (N7 e _ r.l.seq _ ?_)
 cases hS:CO r.l.seq <;> conv=>whnf
 ·repeat' (first|(refine w13 rfl ?_;conv=>whnf)|fail)
  exact topF (by unfold Gf;rw [hS];simp) _
 repeat' (first|(refine EHead.mk rfl ?_;conv=>whnf)|(refine Af rfl hv ?_;conv=>whnf)|((first|refine w1 rfl rfl ?_ ?_|refine w3 rfl rfl ?_ ?_|refine w4 rfl rfl ?_ ?_) <;> intro _ <;> first|(exfalso;omega)|(conv=>whnf))|(refine w12 rfl ?_;conv=>whnf)|fail)
 iterate 4 (exact topF (by unfold Gf;omega) _)
 have hT:Gf r:=by unfold Gf;rw [hA,hS];exact ⟨rfl,rfl,by omega,by omega,by omega,by omega⟩
 obtain ⟨L,hL⟩:∃ L,L=r.l.live:=⟨_,rfl⟩
 have hokL:=hr.l.live
 have hB:Ee r=(match Ev r 0 0 true L with|none=>false|some u=>decide (u=r.l.used) && decide ((L.length:Int)<r.l.seq) && De L && BZ r):=by
  unfold Ee;rw [Zok hT,hL];rfl
 rw [← hL] at hlen hv hokL
 refine EX (α:=Nat×Int×Bool) (fun x=>[(0,.fp (r.cs v)),(3,.int .i64 (r.c.chunk*r.c.rows)),(5,.int .i64 (r.c.members+1)),(7,.int .i64 x.2.1),(8,.bool x.2.2),(95,v),(96,.int .i64 (L.length:Int)),(97,.int .i64 (x.1:Int))]) (fun x=>[]) (fun x=>L.length-x.1)
  (fun x=>x.1≤L.length∧Ev r 0 0 true L=Ev r x.1 x.2.1 x.2.2 (L.drop x.1)∧0≤x.2.1∧x.2.1≤17*(x.1:Int)) (0,0,true) [] ⟨Zoy _,rfl,Int.le_refl _,Int.le_refl _⟩ ⟨by decide,⟨r9,r9,r9,r9,r9,t9 hv.hf,⟨rfl,by rw [hL];rfl⟩,r9,trivial⟩,trivial⟩ ?_
 rintro ⟨i,u,sr⟩ ⟨hi,hI,hu0,hu1⟩
 dsimp only at hi hI hu0 hu1 ⊢
 refine A9 hE ?_;conv=>whnf
 refine Ag rfl rfl (fun h=>?_) (fun h=>?_) <;> conv=>whnf
 ·have hlt:i<L.length:=by omega
  refine A8 rfl hv rfl hlt ?_;conv=>whnf
  have hx6:=QI hlt
  have hx:=hokL L[i] (Zpg hlt)
  rw [Zo2 hlt] at hI
  revert hI hx hx6
  generalize L[i]=x
  obtain ⟨sq,st,bl,pa,su,ho⟩:=x
  intro hI hx6 hx
  refine CS (cs:=[.int .u32 sq,.int .i64 st,.int .i64 bl,.bool pa,.bool su,.bool ho]) hx6 ?_
  have bad:Fw r i sr ⟨sq,st,bl,pa,su,ho⟩→∀ s,Q (.bool false) s:=fun h=>kF (by rw [hB,hI];unfold Ev;rw [Zoj h])
  have go:¬ Fw r i sr ⟨sq,st,bl,pa,su,ho⟩→Ev r 0 0 true L=Ev r (i+1) (u+bl) su (L.drop (i+1)):=fun h=>by rw [hI];conv=>lhs;unfold Ev;rw [Zon h]
  have fin:¬ Fw r i sr ⟨sq,st,bl,pa,su,ho⟩→∀ t s,t.get 0=some (.fp (r.cs v))→t.get 3=some (.int .i64 (r.c.chunk*r.c.rows))→t.get 5=some (.int .i64 (r.c.members+1))→t.get 7=some (.int .i64 (u+bl))→t.get 8=some (.bool su)→t.get 95=some v→t.get 96=some (.int .i64 (L.length:Int))→t.get 97=some (.int .i64 ((i:Int)+1))→
   ∃ x':Nat×Int×Bool,(x'.1≤L.length∧Ev r 0 0 true L=Ev r x'.1 x'.2.1 x'.2.2 (L.drop x'.1)∧0≤x'.2.1∧x'.2.1≤17*(x'.1:Int))∧L.length-x'.1<L.length-i∧∃ rs,Abs t s [(0,.fp (r.cs v)),(3,.int .i64 (r.c.chunk*r.c.rows)),(5,.int .i64 (r.c.members+1)),(7,.int .i64 x'.2.1),(8,.bool x'.2.2),(95,v),(96,.int .i64 (L.length:Int)),(97,.int .i64 (x'.1:Int))] [] rs:=by
   intro hnb t s h0 h3 h5 h7 h8 h95 h96 h97
   have hnb':=hnb
   unfold Fw at hnb'
   dsimp only at hnb'
   refine ⟨(i+1,u+bl,su),⟨hlt,go hnb,by simp;omega,by simp;omega⟩,by simp;omega,[],⟨by decide,⟨⟨rfl,h0⟩,⟨rfl,h3⟩,⟨rfl,h5⟩,⟨rfl,h7⟩,⟨rfl,h8⟩,⟨Bz _ hv.hf,by rw [Bv _ hv.hf];exact h95⟩,⟨rfl,h96⟩,⟨rfl,h97⟩,trivial⟩,trivial⟩⟩
  have hsq:0≤sq∧sq<4294967296:=hx.seq
  have hLL:L.length=r.l.live.length:=by rw [hL]
  rw [hL] at hlen hlt hi h
  have hv':=hv
  rw [hL] at hv'
  unfold Fw at bad fin
  dsimp only at bad fin
  conv=>whnf
  repeat' (first|(refine EHead.mk rfl ?_;conv=>whnf)|(refine Af rfl hv' ?_;conv=>whnf)|((first|refine w1 rfl rfl ?_ ?_|refine w3 rfl rfl ?_ ?_|refine w4 rfl rfl ?_ ?_|refine w5 rfl rfl ?_ ?_|refine w6 rfl rfl ?_ ?_) <;> intro _ <;> first|(exfalso;omega)|(conv=>whnf))|((first|refine w7 rfl rfl (by omega) ?_|refine w8 rfl rfl (by omega) ?_|refine w11 rfl rfl ?_|refine w14 (q':=.u32) rfl (G5 (by omega)) ?_|refine ⟨rfl,?_⟩);conv=>whnf)|(refine w19 rfl ?_ ?_ <;> intro hc <;> (try subst hc) <;> conv=>whnf))
  iterate 6 (refine bad ?_ _;omega)
  ·cases sr
   ·repeat' (first|(refine w13 rfl ?_;conv=>whnf)|fail)
    refine bad ?_ _;simp
   ·repeat' (first|((first|refine w7 rfl rfl (by omega) ?_|refine w12 rfl ?_|refine ⟨rfl,?_⟩);conv=>whnf)|fail)
    refine fin ?_ _ _ ?_ ?_ ?_ ?_ ?_ ?_ ?_ ?_ <;> first|rfl|(simp;omega)
  ·refine fin ?_ _ _ ?_ ?_ ?_ ?_ ?_ ?_ ?_ ?_ <;> first|rfl|(simp;omega)
 ·have hd:L.drop i=[]:=Zpb (by omega)
  rw [hd] at hI
  rw [hI] at hB
  have hBu:Ee r=(decide (u=r.l.used) && decide ((L.length:Int)<r.l.seq) && De L && BZ r):=by rw [hB];rfl
  have hseq:0≤r.l.seq∧r.l.seq<4294967296:=hr.l.seq
  have hRA:∀ s,RAt s (.fp (r.cs v)) r v:=fun s=>RAt.fp (by rw [← hL];exact hv) hr
  repeat' (first|(refine EHead.mk rfl ?_;conv=>whnf)|(refine Af rfl hv ?_;conv=>whnf)|((first|refine w3 rfl rfl ?_ ?_|refine w5 rfl rfl ?_ ?_) <;> intro _ <;> first|(exfalso;omega)|(conv=>whnf))|(refine w14 (q':=.i64) rfl (i64_in (by omega)) ?_;conv=>whnf)|fail)
  ·refine ESc.ov h123 (I0 (hRA _) trivial) ?_
   have hg:KB r=.bool (De L):=by rw [hL];rfl
   rw [hg]
   cases hH:De L
   ·conv=>whnf
    exact kF (by rw [hBu,hH];simp) _
   ·conv=>whnf
    refine ESc.ov h81 (I0 (hRA _) hM) ?_
    cases hR:BZ r
    ·conv=>whnf
     exact kF (by rw [hBu,hR];simp) _
    ·conv=>whnf
     have hT:Ee r=true:=by rw [hBu,hH,hR,Zok (by omega),Zok (by omega)];rfl
     rw [hT] at k;exact k _
  ·exact kF (by rw [hBu,Zow (p:=(L.length:Int)<r.l.seq) (by omega)];simp) _
  ·exact kF (by rw [hBu,Zow (p:=u=r.l.used) (by omega)];simp) _
variable {e:Env}
theorem Zb2 (hE:EM P e) (h38:Con e 51 stripesF.O) (h53:Con e 52 needF.O) (h122:Inl e 53 OC [.tmp 2]) (h123:Con e 54 (CV Ik KB)) (h81:Con e 55 (CV Gi (fun r=>.bool (BZ r)))):OvOk P 23 (CV Gi (fun r=>.bool (Ee r))):=
 NX g23.b (fun r=>rfl) fun r v hr hp hv=>C.of_G hE g23 (Zb1 e hE h38 h53 h122 h123 h81 r hr hp v hv _ (fun s=>rfl))
structure CL where
 c:Cfg
 l:Log
 v:AV
structure CL.ok (x:CL):Prop where
 c:x.c.ok
 l:x.l.ok
 v:LSl x.l.live x.v
def CL.lv (x:CL):AV:=.agg (x.l.c x.v)
variable {x y:CL}
theorem CL.inj (hx:x.ok) (hy:y.ok) (h1:x.c.v=y.c.v) (h2:x.lv=y.lv):x=y:=by
 obtain ⟨c,⟨a1,a2,a3,a4,a5⟩,v⟩:=x
 obtain ⟨c',⟨b1,b2,b3,b4,b5⟩,v'⟩:=y
 have e1:=FM h1
 dsimp only at e1
 subst e1
 simp [CL.lv,Log.c] at h2
 obtain ⟨rfl,rfl,rfl,rfl,rfl⟩:=h2
 have:=LSl.inj hx.v hy.v
 dsimp only at this
 subst this;rfl
def CL.ring (x:CL):Ring:=⟨x.l,x.c⟩
def CL.good (x:CL):Prop:=x.c.may∧Ee x.ring=true
instance (x:CL):Decidable x.good:=by unfold CL.good;infer_instance
theorem Zdz (h:x.ok):x.ring.ok:=⟨h.l,h.c⟩
def CL.args (x:CL):List AV:=[x.c.v,x.lv]
theorem CL.inja (hx:x.ok) (hy:y.ok) (h:x.args=y.args):x=y:=CL.inj hx hy (Zor h).1 (Zor (Zor h).2).1
def lchkF:Fam CL:=⟨CL.ok,CL.args,fun x=>.int .i64 (if x.good then 0 else 8),fun x y hx hy h=>by rw [CL.inja hx hy h]⟩
theorem CL.hfa (h:x.ok):hfs x.args=true:=by
 show (true && ((true && (true && (true && (true && (AM.hf x.v && true))))) && true))=true
 rw [h.v.hf];rfl
theorem Zfi (hE:EM P e) (h78:Con e 22 cfgF.O) (h79:Con e 23 (CV Gi (fun r=>.bool (Ee r)))):OvOk P 7 lchkF.O:=by
 refine Bk g7.b ?_
 intro x hx
 refine ⟨CL.hfa hx,rfl,C.of_G hE g7 ?_⟩
 by_cases hM:x.c.may
 ·have hR:∀ (s:St) (q:Nat),s.get q=some (.row 82 (x.ring.cs x.v))→RAt s (.ptr q 0) x.ring x.v:=fun s q h=>
   ⟨.ptr q 0 82 _ _ _ h (fun i y hy=>by rw [Zou];exact hy) (Es (UR _ hx.v)),hx.v,Zdz hx⟩
  conv=>whnf
  refine ESc.fam cfgF h78 x.c hx.c (u:=.int .i64 0) (by simp [cfgF,hM]) ?_;conv=>whnf
  repeat' (first|((refine w6 rfl rfl ?_ ?_) <;> intro _ <;> first|(exfalso;omega)|(conv=>whnf))|fail)
  refine ESc.ov h79 (I0 (hR _ _ rfl) hM) ?_
  cases hB:Ee x.ring
  ·conv=>whnf
   repeat' (first|(refine w13 rfl ?_;conv=>whnf)|fail)
   rw [show lchkF.out x=.int .i64 8 by simp [lchkF,CL.good,hB]]
   exact .plain _ rfl
  ·conv=>whnf
   repeat' (first|(refine w12 rfl ?_;conv=>whnf)|fail)
   rw [show lchkF.out x=.int .i64 0 by simp [lchkF,CL.good,hB,hM]]
   exact .plain _ rfl
 ·rw [show lchkF.out x=.int .i64 8 by simp [lchkF,CL.good,hM]]
  conv=>whnf
  refine ESc.fam cfgF h78 x.c hx.c (u:=.int .i64 8) (by simp [cfgF,hM]) ?_;conv=>whnf
  repeat' (first|((refine w6 rfl rfl ?_ ?_) <;> intro _ <;> first|(exfalso;omega)|(conv=>whnf))|fail)
  exact .plain _ rfl
end Go.AM
namespace Go.AM
attribute [local irreducible] W
open X
variable {s:St}
theorem Hg {e:Env}(hE:EM P e) {k:Nat}{rd:Option Nat}{a:AC}{t:AT}{ds:List Nat}{Q:EQ}(h:VW P e k a t s rd ds (Gp (fun _ _ _=>False) Q)):W P k rd (.loop a) t s ds Q:=by
 refine W.loop (fun n t' s' ds'=>n=0∧t'=t∧s'=s∧ds'=ds) 0 ⟨rfl,rfl,rfl,rfl⟩ ?_
 rintro n t' s' ds' ⟨rfl,rfl,rfl,rfl⟩
 refine (A9 hE h).mono ?_
 intro x t s ds hq
 cases x with
 | normal=>exact (show False from hq).elim
 | exit id=>exact hq
 | ret=>exact hq
theorem VN:∀ {L:List Lv}{i j:Nat}{w:AV}{y:Lv}(h:i<L.length),j<6→y.c=L[i].c.set j w→(Ai L).set (i*6+j) w=Ai (L.set i y)
 | [],i,j,w,y,h,_,_=>by simp at h
 | x::L,0,j,w,y,h,hj,hy=>by
  rw [List.set_cons_zero,FJ,FJ,List.set_append,Zoj (by show 0*6+j<6;omega),Nat.zero_mul,Zou]
  rw [hy];rfl
 | x::L,i+1,j,w,y,h,hj,hy=>by
  rw [List.set_cons_succ,FJ,FJ,List.set_append,Zon (by show ¬ (i+1)*6+j<6;omega)]
  rw [← VN (L:=L) (i:=i) (j:=j) (w:=w) (y:=y) (by simpa using h) hj hy]
  congr 2
  show (i+1)*6+j-6=_;omega
variable {L:List Lv}{i j:Nat}
theorem Zh8 (h:i<L.length) (hj:j<6):(Ai L)[i*6+j]?=L[i].c[j]?:=by
 have h1:((Ai L).drop (i*6))[j]?=(Ai L)[i*6+j]?:=by rw [Zoq]
 rw [← h1,Kv,Zo2 h,FJ,Zoz (by exact hj)]
variable {r e:Nat}
theorem TJ {w:AV}{y:Lv}(hs:s.get r=some (.row e (Ai L))) (h:i<L.length) (hj:j<6) (hy:y.c=L[i].c.set j w):storeAt r (i*6+j) [w] s=some (s.put r (.row e (Ai (L.set i y)))):=by
 rw [Fl hs (by rw [ES];simp;omega),← VN h hj hy,List.set_eq_take_append_cons_drop,Zoj (by rw [ES];omega)]
 simp
theorem Ob (hs:s.get r=some (.row e (Ai L))) (h:i<L.length) (hj:j<6):load1 r (i*6+j) s=L[i].c[j]?:=by
 unfold load1;rw [Fm hs]
 show Fc (Ai L) (i*6+j)=_
 rw [HI,Zh8 h hj]
def CC (v:AV) (L:List Lv):AV:=match v,L with
 | .nils,_=>.nils
 | _,[]=>.fz 0 (some 0) []
 | _,x::L=>.fz (x::L).length none (Ai (x::L))
variable {M:List Lv}{v:AV}
theorem Xa (h:LSl L v) (hl:M.length=L.length):LSl M (CC v M):=by
 rcases h with ⟨rfl,h0,_⟩|⟨rfl,h0,_⟩|⟨c,rfl,h0⟩
 ·have:M=[]:=Zpd.1 (by omega)
  subst this;exact .inl ⟨rfl,rfl,rfl⟩
 ·have:M=[]:=Zpd.1 (by omega)
  subst this;exact .inr (.inr ⟨_,rfl,rfl⟩)
 ·cases M with
  | nil=>exact .inr (.inr ⟨_,rfl,rfl⟩)
  | cons x M=>exact .inr (.inr ⟨_,rfl,ES _⟩)
theorem Mx:AM.hf (CC v M)=true:=by
 unfold CC;split <;> rfl
theorem LSl.cases (h:LSl L v):(L=[]∧v=.nils)∨(L=[]∧v=.es)∨(L=[]∧∃ c,v=.fz 0 c [])∨(∃ x M c,L=x::M∧v=.fz (M.length+1) c (Ai (x::M))):=by
 rcases h with ⟨rfl,h0,_⟩|⟨rfl,h0,_⟩|⟨c,rfl,h0⟩
 ·exact .inl ⟨Zpd.1 h0,rfl⟩
 ·exact .inr (.inl ⟨Zpd.1 h0,rfl⟩)
 ·cases L with
  | nil=>exact .inr (.inr (.inl ⟨rfl,c,rfl⟩))
  | cons x M=>exact .inr (.inr (.inr ⟨x,M,c,rfl,rfl⟩))
section
variable {t:AT}{s:St}{k:AV→St→Prop}{x y:AO}
variable {el es r:Nat}{v:AV}
theorem Gu (hx:ev x t=.some (.sl r 0 0 (some 0))) (hy:ev y t=.some v) (hv:E0 es v s=some []) (hk:k (.sl r 0 0 (some 0)) s):EPrim (.app el es x y) t s k:=by
 refine EPrim.mk (fun e rec=>?_) hk
 show wth x t _=_;unfold wth;rw [hx]
 show wth y t _=_;unfold wth;rw [hy]
 show (Option.rec .fail _ (E0 es v s):RV)=_
 rw [hv];rfl
theorem EPrim.app1 {m:Nat}{c:AV}{cs:List AV}(hx:ev x t=.some (.sl r 0 0 (some 0))) (hy:ev y t=.some v) (hv:E0 es v s=some (c::cs)) (hr:s.get r=some (.row el [])) (hm:(c::cs).length / es=m) (h0:0<m) (h1:m≤1000000) (hk:k (.sl s.next 0 m none) (s.alloc (.row el (c::cs)))):EPrim (.app el es x y) t s k:=by
 refine EPrim.mk (fun e rec=>?_) hk
 show wth x t _=_;unfold wth;rw [hx]
 show wth y t _=_;unfold wth;rw [hy]
 show (Option.rec .fail _ (E0 es v s):RV)=_
 rw [hv]
 show AM.app1 el es (c::cs) (Nat.div (A3 (c::cs)) es) r 0 0 (some 0) s=_
 unfold AM.app1
 rw [CA,show Nat.div (c::cs).length es=m from hm,show Nat.mul 0 es=0 from Nat.zero_mul es,Hb hr (by simp)]
 show (Bool.rec (Cs el (0+m) (AZ [] (c::cs)) s) _ (Nat.ble (0+m) 0):RV)=_
 rw [Zou,show Nat.ble m 0=false by rw [← Zqg];intro e;have:=Zo3 e;omega]
 show gd (Nat.ble m 1000000) _=_
 rw [Zo6 h1];rfl
end
def Zkv:AC:=match a96 with|.mk c _=>c
def Xi:AC:=match a75 with|.mk c _=>c
def Je (n:Nat) (x:CL):List AObj:=match x.v,x.l.live with
 | .nils,_=>[.row 82 (x.ring.cs .nils)]
 | _,[]=>[.row 82 (x.ring.cs (.sl (1+n) 0 0 (some 0))),.row 66 []]
 | _,y::M=>[.row 82 (x.ring.cs (.sl (1+n) 0 (M.length+1) none)),.row 66 (Ai (y::M))]
noncomputable def FD:Ov:=fun args s=>open Classical in if h:∃ x:CL,x.ok∧args=x.args then (if (Classical.choose h).good then .ok (.tup [.ptr (0+s.next) 0,.int .i64 0]) (Ac s (Je s.next (Classical.choose h))) else .ok (.tup [.nilp,.int .i64 8]) s) else .fail
theorem Ha {x:CL}(hx:x.ok) (s:St):FD x.args s=if x.good then .ok (.tup [.ptr (0+s.next) 0,.int .i64 0]) (Ac s (Je s.next x)) else .ok (.tup [.nilp,.int .i64 8]) s:=by
 have h:∃ y:CL,y.ok∧x.args=y.args:=⟨x,hx,rfl⟩
 unfold FD
 rw [dif_pos h]
 obtain ⟨h1,h2⟩:=Zpu h
 rw [← CL.inja hx h1 h2]
variable {t:AT}{s:St}{k:AV→St→Prop}{x y:AO}
theorem Ft {v:AV}(hx:ev x t=.some v) (hy:ev y t=.some .nils) (h:v=.es∨∃ n c l,v=.fz n c l) (hk:k (.bool false) s):EPrim (.eqb 2 false x y) t s k:=by
 refine EPrim.mk (v:=.bool false) (s':=s) (fun e rec=>?_) hk
 show wth x t _=_;unfold wth;rw [hx]
 show wth y t _=_;unfold wth;rw [hy]
 rcases h with rfl|⟨n,c,l,rfl⟩ <;> rfl
theorem Mn (hx:ev x t=.some .nils) (hy:ev y t=.some .nils) (hk:k (.bool true) s):EPrim (.eqb 2 false x y) t s k:=by
 refine EPrim.mk (v:=.bool true) (s':=s) (fun e rec=>?_) hk
 show wth x t _=_;unfold wth;rw [hx]
 show wth y t _=_;unfold wth;rw [hy];rfl
theorem Zl1 {e:Env}(hE:EM P e) (h33:Con e 7 lchkF.O) (h124:Inl e 96 Zkv [.cells 2 5]) (h85:Inl e 75 Xi [.tmp 2]):OvOk P 72 FD:=by
 refine ⟨g72.b,fun args s v s' hh=>?_⟩
 have hx0:∃ x:CL,x.ok∧args=x.args:=by
  unfold FD at hh
  split at hh
  ·rename_i h;exact h
  ·cases hh
 obtain ⟨x,hx,rfl⟩:=hx0
 rw [Ha hx] at hh
 have hlen:=hx.l.len
 by_cases hG:x.good
 ·rw [Zoj hG] at hh
  cases hh
  have key:C P 72 x.args St0 (fun v s'=>v=.tup [.ptr 0 0,.int .i64 0]∧s'=Ac St0 (Je 0 x)):=by
   refine C.abs (C.of_G hE g72 ?_)
   obtain ⟨c,⟨ag,sq,tl,us,L⟩,v⟩:=x
   have hv:=hx.v
   dsimp only at hv hlen
   conv=>whnf
   refine ESc.fam lchkF h33 ⟨c,⟨ag,sq,tl,us,L⟩,v⟩ hx (u:=.int .i64 0) (by simp [lchkF,hG]) ?_;conv=>whnf
   repeat' (first|(refine ESc.inl h124 ?_;conv=>whnf)|(refine ESc.inl h85 ?_;conv=>whnf)|((refine w6 rfl rfl ?_ ?_) <;> intro _ <;> first|(exfalso;omega)|(conv=>whnf))|fail)
   rcases hv.cases with ⟨rfl,rfl⟩|⟨rfl,rfl⟩|⟨rfl,cp,rfl⟩|⟨y,M,cp,rfl,rfl⟩
   ·refine Mn rfl rfl ?_;conv=>whnf
    refine ⟨rfl,?_⟩;conv=>whnf
    refine ⟨[4],.a⟩
   ·refine Ft rfl rfl (.inl rfl) ?_;conv=>whnf
    refine Gu rfl rfl rfl ?_;conv=>whnf
    refine ⟨rfl,?_⟩;conv=>whnf
    refine ⟨[5,4],.a⟩
   ·refine Ft rfl rfl (.inr ⟨_,_,_,rfl⟩) ?_;conv=>whnf
    refine Gu rfl rfl rfl ?_;conv=>whnf
    refine ⟨rfl,?_⟩;conv=>whnf
    refine ⟨[5,4],.a⟩
   ·refine Ft rfl rfl (.inr ⟨_,_,_,rfl⟩) ?_;conv=>whnf
    have hl1:(Ai (y::M)).length=(M.length+1)*6:=ES (y::M)
    refine EPrim.app1 (c:=.int .u32 y.seq) (cs:=(Ai (y::M)).tail) (m:=M.length+1) rfl rfl ?_ rfl ?_ (by omega) (by simp at hlen;omega) ?_
    ·show Bf ((M.length+1)*6) (Ai (y::M))=_
     rw [EU (by omega),Zoo (by omega)];rfl
    ·show (Ai (y::M)).length / 6=_
     rw [hl1];omega
    conv=>whnf
    refine ⟨rfl,?_⟩;conv=>whnf
    refine ⟨[6,5],⟨by decide,⟨r9,trivial⟩,⟨r9,⟨?_,?_⟩,trivial⟩⟩⟩
    ·exact Dd _ (Cq (y::M))
    ·show _=some (AObj.row 66 (At _ (Ai (y::M))));rw [Dc _ (Cq (y::M))];rfl
  have hfr:=C.frame (l:=Je 0 x) (u:=.tup [.ptr 0 0,.int .i64 0]) (CL.hfa hx) ?_ ?_ key ?_ s
  ·refine hfr.mono ?_
   rintro v s' ⟨rfl,rfl⟩
   refine ⟨rfl,?_⟩
   congr 1
   unfold Je
   split
   ·rfl
   ·rfl
   ·show [_,AObj.row 66 (At _ (Ai (_::_)))]=_
    rw [Dc _ (Cq _)];rfl
  ·unfold Je
   split
   ·intro o ho;simp at ho;subst ho;rfl
   ·intro o ho;simp at ho;rcases ho with rfl|rfl <;> rfl
   ·intro o ho;simp at ho;rcases ho with rfl|rfl <;> rfl
  ·unfold Je;split <;> exact .inl (by simp)
  ·unfold Je
   split <;> intro i o h <;> rcases i with _|_|i <;> simp at h <;> first|(subst h;rfl)|omega
 ·rw [Zon hG] at hh
  cases hh
  refine IJ (CL.hfa hx) rfl (C.of_G hE g72 ?_) s;conv=>whnf
  refine ESc.fam lchkF h33 x hx (u:=.int .i64 8) (by simp [lchkF,hG]) ?_;conv=>whnf
  repeat' (first|((refine w6 rfl rfl ?_ ?_) <;> intro _ <;> first|(exfalso;omega)|(conv=>whnf))|fail)
  exact .plain _ rfl
end Go.AM
namespace Go.AM
attribute [local irreducible] W
open X
def Wx:AC:=match P6 with|.mk c _=>c
def Zm9:AC:=match a99 with|.mk c _=>c
def GM (r a:Int):Bool:=decide (1≤r∧r≤255∧0≤a∧a<r)
theorem VZ (e:Env) (s:St) (r a:Int) (K:AV→St→Prop) (h:K (.bool (GM r a)) s):VE e Wx (Ah [.int .i64 r,.int .i64 a] 0 .lf) s none [] (AR [.tmp 4] K):=by
 unfold GM at h
 conv=>whnf
 repeat' (first|((first|refine w1 rfl rfl ?_ ?_|refine w2 rfl rfl ?_ ?_|refine w4 rfl rfl ?_ ?_) <;> intro _ <;> first|(exfalso;omega)|(conv=>whnf))|fail)
 all_goals first
  | (rw [Zok (by omega)] at h;exact h)
  | (rw [Zow (by omega)] at h;exact h)
structure I3 where
 a:Int
 b:Int
 c:Int
def I3.ok (x:I3):Prop:=Aj x.a∧Aj x.b∧Aj x.c
def I3.args (x:I3):List AV:=[.int .i64 x.a,.int .i64 x.b,.int .i64 x.c]
theorem I3.inja {x y:I3}(h:x.args=y.args):x=y:=by
 obtain ⟨a,b,c⟩:=x
 obtain ⟨a',b',c'⟩:=y
 simp [I3.args] at h
 obtain ⟨rfl,rfl,rfl⟩:=h;rfl
def DT (x:I3):Bool:=decide (0≤x.c) && GM x.a x.b && GM x.a (max (x.c-1) 0)
def onF:Fam I3:=⟨I3.ok,I3.args,fun x=>if DT x then .tup [.int .i64 ((x.b+x.c) % x.a),.int .i64 0] else .tup [.int .i64 0,.int .i64 2],fun x y _ _ h=>by rw [I3.inja h]⟩
theorem Zl2 {e:Env}(hE:EM P e) (h82:Inl e 99 Zm9 [.tmp 8,.tmp 9]) (h126:Inl e 110 Wx [.tmp 4]):OvOk P 74 onF.O:=by
 refine Bk g74.b ?_
 rintro ⟨a,b,c⟩ ⟨h1,h2,h3⟩
 unfold Aj at h1 h2 h3
 dsimp only at h1 h2 h3
 refine ⟨rfl,by unfold onF;dsimp only;split <;> rfl,C.of_G hE g74 ?_⟩
 have no:DT ⟨a,b,c⟩=false→onF.out ⟨a,b,c⟩=.tup [.int .i64 0,.int .i64 2]:=fun h=>by simp [onF,h]
 have yes:DT ⟨a,b,c⟩=true→onF.out ⟨a,b,c⟩=.tup [.int .i64 ((b+c) % a),.int .i64 0]:=fun h=>by simp [onF,h]
 unfold DT at no yes
 dsimp only at no yes
 show VW P e 0 (match a74 with|.mk c _=>c) (Ah [.int .i64 a,.int .i64 b,.int .i64 c] 0 .lf) St0 none [] _
 conv=>whnf
 refine ESc.inl h82 ?_;conv=>whnf
 by_cases hc0:c<0
 ·rw [no (by rw [Zow (by omega)];rfl)]
  repeat' (first|(refine EPrim.sub (q:=.i64) rfl rfl ?_;conv=>whnf)|(refine EPrim.max2 rfl ?_;conv=>whnf)|((first|refine w1 rfl rfl ?_ ?_|refine w5 rfl rfl ?_ ?_) <;> intro _ <;> first|(exfalso;omega)|(conv=>whnf))|fail)
  exact .plain _ rfl
 ·repeat' (first|(refine EPrim.max2 rfl ?_;conv=>whnf)|((first|refine w1 rfl rfl ?_ ?_|refine w5 rfl rfl ?_ ?_) <;> intro _ <;> first|(exfalso;omega)|(conv=>whnf))|(refine w8 rfl rfl (by omega) ?_;conv=>whnf)|fail)
  refine ESc.inl h126 (VZ e _ a b _ ?_)
  cases hA:GM a b
  ·conv=>whnf
   repeat' (first|(refine w13 rfl ?_;conv=>whnf)|fail)
   rw [no (by rw [hA];simp)]
   exact .plain _ rfl
  ·conv=>whnf
   repeat' (first|(refine w12 rfl ?_;conv=>whnf)|fail)
   refine ESc.inl h126 (VZ e _ a (max (c-1) 0) _ ?_)
   cases hB:GM a (max (c-1) 0)
   ·conv=>whnf
    repeat' (first|(refine w13 rfl ?_;conv=>whnf)|fail)
    rw [no (by rw [hB];simp)]
    exact .plain _ rfl
   ·have e1:=Zpw hA
    have e2:=Zpw hB
    conv=>whnf
    repeat' (first|(refine Qm rfl rfl (by omega) ?_;conv=>whnf)|((refine w5 rfl rfl ?_ ?_) <;> intro _ <;> first|(exfalso;omega)|(conv=>whnf))|((first|refine w7 rfl rfl (by omega) ?_|refine w12 rfl ?_);conv=>whnf)|fail)
    rw [yes (by rw [hA,hB,Zok (by omega)];rfl)]
    exact .plain _ rfl
end Go.AM
namespace Go.AM
attribute [local irreducible] W
open X
def AE (n:Nat):Bool:=decide (n≠0) && decide (n≠128)
structure BN where
 v:AV
 n:Nat
def BN.ok (x:BN):Prop:=(∃ l,Sl 1 x.n l x.v)∧x.n<1000000000
variable {es n m:Nat}{l k:List AV}{v:AV}
theorem Sl.n_inj (h:Sl es n l v) (h':Sl es m k v):n=m:=by
 rcases h with ⟨rfl,rfl,_⟩|⟨rfl,rfl,_⟩|⟨c,rfl,_⟩
 ·rcases h' with ⟨_,rfl,_⟩|⟨e,_⟩|⟨c,e,_⟩
  ·rfl
  ·cases e
  ·cases e
 ·rcases h' with ⟨e,_⟩|⟨_,rfl,_⟩|⟨c,e,_⟩
  ·cases e
  ·rfl
  ·cases e
 ·rcases h' with ⟨e,_⟩|⟨e,_⟩|⟨c,e,_⟩
  ·cases e
  ·cases e
  ·cases e;rfl
theorem BN.inj {x y:BN}(hx:x.ok) (hy:y.ok) (h:[x.v]=[y.v]):x=y:=by
 obtain ⟨v,n⟩:=x
 obtain ⟨v',n'⟩:=y
 have e:v=v':=(Zor h).1
 subst e
 obtain ⟨⟨l,h1⟩,_⟩:=hx
 obtain ⟨⟨l',h2⟩,_⟩:=hy
 have:=h1.n_inj h2
 dsimp only at this
 rw [this]
def oddF:Fam BN:=⟨BN.ok,fun x=>[x.v],fun x=>.bool (AE x.n),fun x y hx hy h=>by rw [BN.inj hx hy h]⟩
variable {e:Env}
theorem Zb8 (hE:EM P e):OvOk P 97 oddF.O:=by
 refine Bk g97.b ?_
 rintro ⟨v,n⟩ hx
 obtain ⟨⟨l,hv⟩,hn⟩:=hx
 dsimp only at hv hn
 refine ⟨by show (AM.hf v && true)=true;rw [hv.hf];rfl,rfl,C.of_G hE g97 ?_⟩
 have fin:∀ s (b:Bool),b=AE n→Frz s (.bool b) (oddF.out ⟨v,n⟩):=by
  rintro s b rfl;exact .plain _ rfl
 unfold AE at fin
 show VW P e 0 (match a97 with|.mk c _=>c) (Ah [v] 0 .lf) St0 none [] _
 conv=>whnf
 repeat' (first|(refine Af rfl hv ?_;conv=>whnf)|((refine w6 rfl rfl ?_ ?_) <;> intro _ <;> first|(exfalso;omega)|(conv=>whnf))|fail)
 all_goals first
  | exact fin _ _ (by rw [Zok (by omega),Zok (by omega)];rfl)
  | exact fin _ _ (by rw [Zok (by omega),Zow (by omega)];rfl)
  | exact fin _ _ (by rw [Zow (by omega)];rfl)
structure BL where
 v:AV
 us:List AV
 ns:List Nat
structure BL.ok (x:BL):Prop where
 sl:Sl 1 x.us.length x.us x.v
 bl:All2 (fun u n=>BN.ok ⟨u,n⟩) x.us x.ns
 len:x.us.length<1000000000
def F4:List Nat→Nat→Int
 | [],_=>-1
 | n::l,i=>if AE n then (i:Int) else F4 l (i+1)
theorem UH:∀ (l:List Nat) (i:Nat),(0≤F4 l i↔l.any AE=true)
 | [],i=>by simp [F4]
 | n::l,i=>by
  unfold F4
  rw [List.any_cons]
  cases h:AE n
  ·simp only [Bool.false_or,Bool.false_eq_true,if_false];exact UH l (i+1)
  ·simp
theorem BL.inj {x y:BL}(hx:x.ok) (hy:y.ok) (h:x.v=y.v):x=y:=by
 obtain ⟨v,us,ns⟩:=x
 obtain ⟨v',us',ns'⟩:=y
 have e:v=v':=h
 subst e
 have h1:=hx.sl
 have h2:=hy.sl
 have h3:=hx.bl
 have h4:=hy.bl
 dsimp only at h1 h2 h3 h4
 have e2:us=us':=by
  rcases h1 with ⟨rfl,_,h1⟩|⟨rfl,_,h1⟩|⟨c,rfl,_⟩
  ·rcases h2 with ⟨_,_,h2⟩|⟨e,_⟩|⟨c,e,_⟩
   ·rw [h1,h2]
   ·cases e
   ·cases e
  ·rcases h2 with ⟨e,_⟩|⟨_,_,h2⟩|⟨c,e,_⟩
   ·cases e
   ·rw [h1,h2]
   ·cases e
  ·rcases h2 with ⟨e,_⟩|⟨e,_⟩|⟨c,e,_⟩
   ·cases e
   ·cases e
   ·injection e
 subst e2
 have:∀ {us:List AV}{ns ns':List Nat},All2 (fun u n=>BN.ok ⟨u,n⟩) us ns→All2 (fun u n=>BN.ok ⟨u,n⟩) us ns'→ns=ns':=by
  intro us
  induction us with
  | nil=>intro ns ns' a b;cases a;cases b;rfl
  | cons u us ih=>
   intro ns ns' a b
   cases a with
   | cons a1 a2=>cases b with
    | cons b1 b2=>
     obtain ⟨⟨l,q1⟩,_⟩:=a1
     obtain ⟨⟨l',q2⟩,_⟩:=b1
     have e:=q1.n_inj q2
     dsimp only at e
     rw [ih a2 b2,e]
 rw [this h3 h4]
def Ww:AC:=match a89 with|.mk c _=>c
theorem Zih (e:Env) (hE:EM P e) (g:Nat) (hg:Con e g oddF.O) (x:BL) (hx:x.ok) (Q:AV→St→Prop) (k:∀ s,Q (.int .i64 (F4 x.ns 0)) s):
 VW P e 0 Ww (Ah [x.v,.fn g [] []] 0 .lf) St0 none [] (AR [.tmp 4] Q):=by
 obtain ⟨v,us,ns⟩:=x
 obtain ⟨hs,hb,hl⟩:=hx
 dsimp only at hs hb hl k ⊢
 have hlen:=hb.length
 conv=>whnf
 refine Af rfl hs ?_;conv=>whnf
 refine EX (α:=Nat) (fun i=>[(0,v),(1,.fn g [] []),(7,.int .i64 (us.length:Int)),(8,.int .i64 (i:Int))]) (fun i=>[]) (fun i=>us.length-i)
  (fun i=>i≤us.length∧F4 ns 0=F4 (ns.drop i) i) 0 [] ⟨Zoy _,rfl⟩ ⟨by decide,⟨t9 hs.hf,r9,r9,r9,trivial⟩,trivial⟩ ?_
 rintro i ⟨hi,hI⟩
 refine A9 hE ?_;conv=>whnf
 refine Ag rfl rfl (fun h=>?_) (fun h=>?_) <;> conv=>whnf
 ·have hlt:i<us.length:=by omega
  have hln:i<ns.length:=by omega
  refine A8 rfl hs rfl hlt ?_;conv=>whnf
  refine EHead.mk (v:=us[i]) (by rw [Zpi,Zoq,Zpo,Zof hlt]) ?_;conv=>whnf
  obtain ⟨n,hn,hbn⟩:=hb.get (Zof hlt)
  have hn':ns[i]=n:=by rw [Zof hln] at hn;exact Zpn hn
  rw [Zo2 hln,hn'] at hI
  refine ECall.fam oddF hg ⟨us[i],n⟩ hbn (u:=.bool (AE n)) rfl ?_
  rw [show F4 (n::ns.drop (i+1)) i=if AE n then (i:Int) else F4 (ns.drop (i+1)) (i+1) from rfl] at hI
  cases ho:AE n
  ·rw [ho,Zon (by decide)] at hI
   conv=>whnf
   repeat' (first|((first|refine w7 rfl rfl (by omega) ?_|refine ⟨rfl,?_⟩);conv=>whnf)|fail)
   refine ⟨i+1,⟨hlt,hI⟩,by omega,[],⟨by decide,⟨t9 hs.hf,r9,r9,⟨rfl,by simp;rfl⟩,trivial⟩,trivial⟩⟩
  ·rw [ho,Zoj rfl] at hI
   conv=>whnf
   rw [hI] at k;exact k _
 ·have hd:ns.drop i=[]:=Zpb (by omega)
  rw [hd] at hI
  have hI:F4 ns 0=-1:=hI
  rw [hI] at k;exact k _
def Pf:AC:=match a57 with|.mk c _=>c
theorem Zki (e:Env) (hE:EM P e) (g:Nat) (I:Fam BL) (hI:Con e 89 I.O) (x:BL) (hok:I.ok x) (henc:I.enc x=[x.v,.fn g [] []]) (hout:I.out x=.int .i64 (F4 x.ns 0)) (s:St) (Q:AV→St→Prop) (k:Q (.bool (x.ns.any AE)) s):
 VE e Pf (Ah [x.v,.fn g [] []] 0 .lf) s none [] (AR [.tmp 4] Q):=by
 conv=>whnf
 have hcall:∀ (K:AV→St→Prop),K (.int .i64 (F4 x.ns 0)) s→ESc e 89 [x.v,.fn g [] []] s K:=fun K hk=>by
  rw [← henc]
  exact ESc.fam I hI x hok hout hk
 refine hcall _ ?_;conv=>whnf
 have ha:=UH x.ns 0
 refine FI rfl rfl (fun h=>?_) (fun h=>?_) <;> conv=>whnf
 ·rw [ha.1 h] at k;exact k
 ·have:x.ns.any AE=false:=by
   cases hq:x.ns.any AE
   ·rfl
   ·have:=ha.2 hq;omega
  rw [this] at k;exact k
def MQ (g:Nat):Fam BL:=⟨BL.ok,fun x=>[x.v,.fn g [] []],fun x=>.int .i64 (F4 x.ns 0),fun x y hx hy h=>by rw [BL.inj hx hy (Zor h).1]⟩
theorem Zii (hE:EM P e) (g:Nat) (hg:Con e g oddF.O):OvOk P 89 (MQ g).O:=by
 refine Bk g89.b fun x hx=>?_
 refine ⟨by show (AM.hf x.v && (true && true && true))=true;rw [hx.sl.hf];rfl,rfl,C.of_G hE g89 (Zih e hE g hg x hx _ fun s=>.plain _ rfl)⟩
def Bs (l:List Int):List AV:=l.map (AV.int .i64)
def GE (top:Int):Int→List Int→Bool
 | _,[]=>true
 | last,s::l=>decide (last<s∧s≤top) && GE top s l
structure SL where
 c:Cfg
 v:AV
 l:List Int
structure SL.ok (x:SL):Prop where
 c:x.c.ok
 m:x.c.may
 sl:Sl 1 x.l.length (Bs x.l) x.v
 b:∀ s ∈ x.l,Aj s
 len:x.l.length<1000000000
theorem Od:∀ {l m:List Int},Bs l=Bs m→l=m
 | [],[],_=>rfl
 | [],_::_,h=>by cases h
 | _::_,[],h=>by cases h
 | a::l,b::m,h=>by
  have h:AV.int .i64 a::Bs l=.int .i64 b::Bs m:=h
  injection h with h1 h2
  injection h1 with _ h1
  rw [h1,Od h2]
theorem Sl.l_inj (h:Sl es n l v) (h':Sl es m k v):l=k:=by
 rcases h with ⟨rfl,_,h⟩|⟨rfl,_,h⟩|⟨c,rfl,_⟩
 ·rcases h' with ⟨_,_,h2⟩|⟨e,_⟩|⟨c,e,_⟩
  ·rw [h,h2]
  ·cases e
  ·cases e
 ·rcases h' with ⟨e,_⟩|⟨_,_,h2⟩|⟨c,e,_⟩
  ·cases e
  ·rw [h,h2]
  ·cases e
 ·rcases h' with ⟨e,_⟩|⟨e,_⟩|⟨c,e,_⟩
  ·cases e
  ·cases e
  ·injection e
def D0 (top:Int) (l:List Int):Bool:=GE top (-1) l && decide (0<l.length)
def slotsF:Fam SL:=⟨SL.ok,fun x=>[x.c.v,x.v],fun x=>.bool (D0 (x.c.members-2) x.l),fun x y hx hy h=>by
 obtain ⟨c,v,l⟩:=x
 obtain ⟨c',v',l'⟩:=y
 have h1:c=c':=FM (Zor h).1
 have h2:v=v':=(Zor (Zor h).2).1
 subst h1 h2
 have:=Od (hx.sl.l_inj hy.sl)
 dsimp only at this
 rw [this]⟩
def Zm3:AC:=match a98 with|.mk c _=>c
theorem Zbq (hE:EM P e):OvOk P 98 slotsF.O:=by
 refine Bk g98.b fun x hx=>?_
 obtain ⟨⟨id,mb,ch,ro,lo,he⟩,v,l⟩:=x
 obtain ⟨hco,hM,hs,hbd,hln⟩:=hx
 unfold Cfg.may at hM
 dsimp only at hs hbd hln hM
 refine ⟨by show (true && (AM.hf v && true))=true;rw [hs.hf];rfl,rfl,C.of_G hE g98 ?_⟩
 have fin:∀ s (b:Bool),b=D0 (mb-2) l→Frz s (.bool b) (.bool (D0 (mb-2) l)):=by
  rintro s b rfl;exact .plain _ rfl
 show VW P e 0 Zm3 (Ah [AV.agg [.int .u32 id,.int .i64 mb,.int .i64 ch,.int .i64 ro,.int .i64 lo,.int .i64 he],v] 0 .lf) St0 none [] (AR [.tmp 4] (fun w s'=>Frz s' w (.bool (D0 (mb-2) l))))
 conv=>whnf
 refine Af rfl hs ?_;conv=>whnf
 refine EX (α:=Nat×Int) (fun x=>[(1,v),(2,.ptr 0 0),(4,.bool false),(5,.int .i64 x.2),(8,v),(9,.int .i64 (l.length:Int)),(10,.int .i64 (x.1:Int))]) (fun _=>[.row 24 [.int .u32 id,.int .i64 mb,.int .i64 ch,.int .i64 ro,.int .i64 lo,.int .i64 he]]) (fun x=>l.length-x.1)
  (fun x=>x.1≤l.length∧GE (mb-2) (-1) l=GE (mb-2) x.2 (l.drop x.1)∧Aj x.2) (0,-1) [0] ⟨Zoy _,rfl,by unfold Aj;omega⟩ ⟨by decide,⟨t9 hs.hf,r9,r9,r9,t9 hs.hf,r9,r9,trivial⟩,⟨r9,trivial⟩⟩ ?_
 rintro ⟨i,la⟩ ⟨hi,hI,hla⟩
 dsimp only at hi hI hla ⊢
 unfold Aj at hla
 refine A9 hE ?_;conv=>whnf
 refine Ag rfl rfl (fun h=>?_) (fun h=>?_) <;> conv=>whnf
 ·have hlt:i<l.length:=by omega
  refine A8 rfl hs rfl hlt ?_;conv=>whnf
  refine EHead.mk (v:=.int .i64 l[i]) (by rw [Zpi,Zoq,Zpo];unfold Bs;rw [Zpe,Zof hlt];rfl) ?_;conv=>whnf
  have hbi:=hbd l[i] (Zpg hlt)
  rw [Zo2 hlt] at hI
  revert hI hbi
  generalize l[i]=s
  intro hI hbi
  unfold Aj at hbi
  rw [show GE (mb-2) la (s::l.drop (i+1))=(decide (la<s∧s≤mb-2) && GE (mb-2) s (l.drop (i+1))) from rfl] at hI
  have bad:¬ (la<s∧s≤mb-2)→∀ S,Frz S (.bool false) (.bool (D0 (mb-2) l)):=fun hn S=>fin S _ (by unfold D0;rw [hI,Zow hn];rfl)
  repeat' (first|((first|refine w2 rfl rfl ?_ ?_|refine w3 rfl rfl ?_ ?_) <;> intro _ <;> first|(exfalso;omega)|(conv=>whnf))|((first|refine w7 rfl rfl (by omega) ?_|refine w8 rfl rfl (by omega) ?_|refine ⟨rfl,?_⟩);conv=>whnf)|fail)
  ·exact bad (by omega) _
  ·exact bad (by omega) _
  ·refine ⟨(i+1,s),⟨hlt,by rw [hI,Zok (by omega)];rfl,hbi⟩,by simp;omega,[0],⟨by decide,⟨t9 hs.hf,r9,r9,r9,t9 hs.hf,r9,⟨rfl,by simp;rfl⟩,trivial⟩,⟨r9,trivial⟩⟩⟩
 ·have hd:l.drop i=[]:=Zpb (by omega)
  rw [hd] at hI
  have hI:GE (mb-2) (-1) l=true:=hI
  refine Af rfl hs ?_;conv=>whnf
  refine Dm rfl rfl (fun h=>?_) (fun h=>?_) <;> conv=>whnf
  ·exact fin _ _ (by unfold D0;rw [hI,Zok (by omega)];rfl)
  ·exact fin _ _ (by unfold D0;rw [hI,Zow (by omega)];rfl)
end Go.AM
namespace Go.AM
attribute [local irreducible] W
open X
structure Dl where
 stripe:Int
 sv:AV
 sl:List Int
 b:BL
 pv:AV
 pn:Nat
def Dl.c (d:Dl):List AV:=[.int .i64 d.stripe,d.sv,d.b.v,d.pv]
def Dl.v (d:Dl):AV:=.agg d.c
structure Dl.ok (d:Dl):Prop where
 stripe:Aj d.stripe
 sl:Sl 1 d.sl.length (Bs d.sl) d.sv
 sb:∀ s ∈ d.sl,Aj s
 sn:d.sl.length<1000000000
 b:d.b.ok
 p:BN.ok ⟨d.pv,d.pn⟩
theorem Dl.hf {d:Dl}(h:d.ok):AM.hf d.v=true:=by
 show (true && (AM.hf d.sv && (AM.hf d.b.v && (AM.hf d.pv && true))))=true
 obtain ⟨⟨l,hp⟩,_⟩:=h.p
 rw [h.sl.hf,h.b.sl.hf,hp.hf];rfl
theorem Dl.inj {x y:Dl}(hx:x.ok) (hy:y.ok) (h:x.v=y.v):x=y:=by
 obtain ⟨st,sv,sl,b,pv,pn⟩:=x
 obtain ⟨st',sv',sl',b',pv',pn'⟩:=y
 have h:=AV.agg.inj h
 unfold Dl.c at h
 injection h with e1 h
 injection h with e2 h
 injection h with e3 h
 injection h with e4 h
 injection e1 with _ e1
 dsimp only at e1 e2 e3 e4
 subst e1 e2 e4
 have e5:=Od (hx.sl.l_inj hy.sl)
 have e6:=BL.inj hx.b hy.b e3
 have e7:=BN.inj hx.p hy.p rfl
 dsimp only at e5 e6 e7
 subst e5 e6
 injection e7 with _ e7
 subst e7;rfl
def DC (c:Cfg) (d:Dl):Bool:=!(d.b.ns.any AE) && decide (0≤d.stripe∧d.stripe<c.chunk*c.rows) && D0 (c.members-2) d.sl && decide (d.b.ns.length=d.sl.length) && !(AE d.pn)
structure CD where
 c:Cfg
 d:Dl
structure CD.ok (x:CD):Prop where
 c:x.c.ok
 d:x.d.ok
def CD.good (x:CD):Prop:=x.c.may∧DC x.c x.d=true
instance (x:CD):Decidable x.good:=by unfold CD.good;infer_instance
def dchkF:Fam CD:=⟨CD.ok,fun x=>[x.c.v,x.d.v],fun x=>.int .i64 (if x.good then 0 else 8),fun x y hx hy h=>by
 obtain ⟨c,d⟩:=x
 obtain ⟨c',d'⟩:=y
 have h1:c=c':=FM (Zor h).1
 have h2:d=d':=Dl.inj hx.d hy.d (Zor (Zor h).2).1
 subst h1 h2;rfl⟩
theorem Zgi {e:Env}(hE:EM P e) (h38:Con e 51 stripesF.O) (h93:Inl e 57 Pf [.tmp 4]) (h138:Con e 89 (MQ 97).O) (h95:Con e 98 slotsF.O):OvOk P 73 dchkF.O:=by
 refine Bk g73.b fun x hx=>?_
 obtain ⟨⟨id,mb,ch,ro,lo,he⟩,⟨st,sv,sl,b,pv,pn⟩⟩:=x
 obtain ⟨hco,hd⟩:=hx
 refine ⟨by show (true && (AM.hf (Dl.v _) && true))=true;rw [Dl.hf hd];rfl,rfl,C.of_G hE g73 ?_⟩
 obtain ⟨hst,hsl,hsb,hsn,hbl,⟨pl,hp⟩,hpn⟩:=hd
 unfold Aj at hst
 dsimp only at hst hsl hsb hsn hbl hp hpn hco
 obtain ⟨c,hcd⟩:∃ c:Cfg,c=⟨id,mb,ch,ro,lo,he⟩:=⟨_,rfl⟩
 have fin:∀ s (n:Int),n=(if CD.good ⟨c,⟨st,sv,sl,b,pv,pn⟩⟩ then 0 else 8)→Frz s (.int .i64 n) (.int .i64 (if CD.good ⟨c,⟨st,sv,sl,b,pv,pn⟩⟩ then 0 else 8)):=by
  rintro s n rfl;exact .plain _ rfl
 rw [← hcd] at hco ⊢
 show VW P e 0 (match a73 with|.mk c _=>c) (Ah [AV.agg c.c,AV.agg [.int .i64 st,sv,b.v,pv]] 0 .lf) St0 none [] (AR [.tmp 4] (fun w s'=>Frz s' w (.int .i64 (if CD.good ⟨c,⟨st,sv,sl,b,pv,pn⟩⟩ then 0 else 8))))
 by_cases hM:c.may
 ·have hp':=hM
  unfold Cfg.may at hp'
  have hmul:=NJ (a:=c.chunk) (b:=c.rows) (by omega) (by omega)
  have hbu:=hbl.bl.length
  have hbn:=hbl.len
  conv=>whnf
  refine ESc.fam stripesF h38 c hco (u:=.tup [.int .i64 (c.chunk*c.rows),.int .i64 0]) (by simp [stripesF,hM]) ?_;conv=>whnf
  repeat' (first|((refine w6 rfl rfl ?_ ?_) <;> intro _ <;> first|(exfalso;omega)|(conv=>whnf))|fail)
  refine ESc.inl h93 (Zki e hE 97 (MQ 97) h138 b hbl rfl rfl _ _ ?_)
  have no:DC c ⟨st,sv,sl,b,pv,pn⟩=false→∀ s,Frz s (.int .i64 8) (.int .i64 (if CD.good ⟨c,⟨st,sv,sl,b,pv,pn⟩⟩ then 0 else 8)):=fun h s=>fin s 8 (by rw [Zon];rintro ⟨_,h2⟩;rw [show DC c ⟨st,sv,sl,b,pv,pn⟩=true from h2] at h;cases h)
  have yes:DC c ⟨st,sv,sl,b,pv,pn⟩=true→∀ s,Frz s (.int .i64 0) (.int .i64 (if CD.good ⟨c,⟨st,sv,sl,b,pv,pn⟩⟩ then 0 else 8)):=fun h s=>fin s 0 (by rw [Zoj ⟨hM,h⟩])
  unfold DC at no yes
  dsimp only at no yes
  cases hO:b.ns.any AE
  ·rw [hO] at no yes
   conv=>whnf
   repeat' (first|((first|refine w1 rfl rfl ?_ ?_|refine w4 rfl rfl ?_ ?_) <;> intro _ <;> first|(exfalso;omega)|(conv=>whnf))|fail)
   ·exact no (by rw [Zow (p:=0≤st∧st<c.chunk*c.rows) (by omega)];simp) _
   ·exact no (by rw [Zow (p:=0≤st∧st<c.chunk*c.rows) (by omega)];simp) _
   rw [Zok (p:=0≤st∧st<c.chunk*c.rows) (by omega)] at no yes
   refine ESc.fam slotsF h95 ⟨c,sv,sl⟩ ⟨hco,hM,hsl,hsb,hsn⟩ (u:=.bool (D0 (c.members-2) sl)) rfl ?_
   cases hS:D0 (c.members-2) sl
   ·rw [hS] at no
    conv=>whnf
    repeat' (first|(refine w13 rfl ?_;conv=>whnf)|fail)
    exact no (by simp) _
   ·rw [hS] at no yes
    conv=>whnf
    repeat' (first|(refine Af rfl hbl.sl ?_;conv=>whnf)|(refine Af rfl hsl ?_;conv=>whnf)|(refine Af rfl hp ?_;conv=>whnf)|((refine w6 rfl rfl ?_ ?_) <;> intro _ <;> first|(exfalso;omega)|(conv=>whnf))|(refine w12 rfl ?_;conv=>whnf)|fail)
    ·exact no (by rw [Zow (p:=b.ns.length=sl.length) (by omega)];simp) _
    ·exact no (by unfold AE;rw [Zok (p:=pn≠0) (by omega),Zok (p:=pn≠128) (by omega)];simp) _
    ·exact yes (by unfold AE;rw [Zok (p:=b.ns.length=sl.length) (by omega),Zow (p:=pn≠128) (by omega)];simp) _
    ·exact yes (by unfold AE;rw [Zok (p:=b.ns.length=sl.length) (by omega),Zow (p:=pn≠0) (by omega)];simp) _
  ·conv=>whnf
   skip
   exact no (by rw [hO];rfl) _
 ·conv=>whnf
  refine ESc.fam stripesF h38 c hco (u:=.tup [.int .i64 0,.int .i64 8]) (by simp [stripesF,hM]) ?_;conv=>whnf
  repeat' (first|((refine w6 rfl rfl ?_ ?_) <;> intro _ <;> first|(exfalso;omega)|(conv=>whnf))|fail)
  exact fin _ 8 (by rw [Zon (fun h=>hM h.1)])
end Go.AM
