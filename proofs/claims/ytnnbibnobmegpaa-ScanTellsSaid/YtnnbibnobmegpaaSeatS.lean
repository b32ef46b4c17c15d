/-
 Functions of the program as the abstract machine reads them, and what is stated of them, checked by the kernel. No conditions.
-/
import Derived.Test.YtnnbibnobmegpaaAM5
import Derived.Test.YtnnbibnobmegpaaXN
import Derived.Test.YtnnbibnobmegpaaAM4
set_option linter.unusedVariables false
set_option linter.unusedSimpArgs false
set_option maxRecDepth 100000
namespace Go.AM
attribute [local irreducible] W
open X
def crcT:List Nat:=[0x00000000,0x105ec76f,0x20bd8ede,0x30e349b1,0x417b1dbc,0x5125dad3,0x61c69362,0x7198540d,0x82f63b78,0x92a8fc17,0xa24bb5a6,0xb21572c9,0xc38d26c4,0xd3d3e1ab,0xe330a81a,0xf36e6f75]
def nth0:List Nat→Nat→Nat
 | [],_=>0
 | x::_,0=>x
 | _::l,n+1=>nth0 l n
def Zzl (s:Nat):Nat:=Nat.xor (Nat.div s 16) (nth0 crcT (Nat.mod s 16))
def Zge (s b:Nat):Nat:=Zzl (Zzl (Nat.xor s b))
def Zfx (l:List Nat) (s:Nat):Nat:=l.foldl Zge s
def Zw4:List AV:=crcT.map fun n=>.int .u32 (Int.ofNat n)
theorem Zuf {m:Nat}(h0:0<m):∀ {l:List Nat}{n:Nat},(∀ x ∈ l,x<m)→nth0 l n<m:=by
 intro l
 induction l with
 | nil=>intro n _;exact h0
 | cons x l ih=>intro n h;cases n with
  | zero=>exact h x (by simp)
  | succ n=>exact ih fun y hy=>h y (by simp [hy])
theorem Znv {s:Nat}(h:s<4294967296):Zzl s<4294967296:=
 Nat.xor_lt_two_pow (n:=32) (by show s / 16<_;omega) (Zuf (by decide) (by decide))
theorem Ygr:∀ {i:Nat}{l:List Nat},i<l.length→Zra (l.map fun n=>AV.int .u32 (Int.ofNat n)) i=some (.int .u32 (Int.ofNat (nth0 l i))):=by
 intro i l
 induction l generalizing i with
 | nil=>intro h;simp at h
 | cons x l ih=>intro h;cases i with
  | zero=>rfl
  | succ i=>exact ih (by simpa using h)
theorem Zsu {i:Nat}(h:i<16):load1 0 (0+i*1) (Zai St0 [.row 211 Zw4])=some (.int .u32 (Int.ofNat (nth0 crcT i))):=by
 rw [Nat.zero_add,Nat.mul_one]
 exact Ygr (l:=crcT) h
theorem and15 (a:Nat):a &&& 15=a % 16:=Nat.and_two_pow_sub_one_eq_mod a 4
theorem Ya6 (P:Program) (e:Env) (hE:EnvOk P e) (hm:P.follows .mixedOrders=true) (hW:Inl e 147 (match a147 with|.mk c _=>c) (match a147 with|.mk _ r=>r)) (s0:Nat) (h0:s0<4294967296) (bs:List Nat) (hb:∀ b ∈ bs,b<256) (hlen:bs.length<9223372036854775807) (v:AV) (hv:Sl 1 bs.length (bys bs) v) (Q:AV→St→Prop)
 (hQ:∀ s,Q (.int .u32 (Int.ofNat (Zfx bs (s0 ^^^ 4294967295) ^^^ 4294967295))) s):
 VW P e 0 (match a107 with|.mk c _=>c) (Zax [.int .u32 (Int.ofNat s0),v] 0 .lf) St0 none [] (Zfa [.tmp 4] Q):=by
 conv=>whnf
 refine ESc.inl hW ?_;conv=>whnf
 refine Zon rfl h0 ?_;conv=>whnf
 refine Zi1 rfl hv ?_;conv=>whnf
 refine Zhc (α:=Nat×Nat) (fun x=>[(0,.int .u32 (Int.ofNat x.2)),(5,.ptr 0 0),(11,v),(12,.int .i64 (Int.ofNat bs.length)),(13,.int .i64 (Int.ofNat x.1))]) (fun _=>[.row 211 Zw4]) (fun x=>bs.length-x.1)
  (fun x=>x.1≤bs.length∧x.2=Zfx (bs.take x.1) (s0 ^^^ 4294967295)∧x.2<4294967296) (0,s0 ^^^ 4294967295) [1] ⟨Nat.zero_le _,rfl,Nat.xor_lt_two_pow (n:=32) h0 (by decide)⟩
  ⟨by decide,⟨⟨rfl,rfl⟩,⟨rfl,rfl⟩,⟨Zbe _ hv.hf,by rw [Zao _ hv.hf];rfl⟩,⟨rfl,rfl⟩,⟨rfl,rfl⟩,trivial⟩,⟨⟨rfl,rfl⟩,trivial⟩⟩ ?_
 rintro ⟨i,a⟩ ⟨hi,ha,hlt⟩
 dsimp only at hi ha hlt ⊢
 refine Zap hE hm ?_;conv=>whnf
 refine Zlp rfl rfl (fun h=>?_) (fun h=>?_)
 ·have hbi:bs[i]<256:=hb bs[i] (List.getElem_mem h)
  have hx:a ^^^ bs[i]<4294967296:=Nat.xor_lt_two_pow (n:=32) hlt (by omega)
  have hy:Zzl (a ^^^ bs[i])<4294967296:=Znv hx
  conv=>whnf
  refine Zae rfl hv rfl h ?_;conv=>whnf
  refine EHead.mk (Zs1 h) ?_;conv=>whnf
  refine Ztf rfl (by omega) ?_;conv=>whnf
  refine Zfz rfl rfl hlt (by omega) ?_;conv=>whnf
  refine Zi0 (n:=4) rfl rfl (by decide) ?_;conv=>whnf
  refine Zoq rfl rfl hx (by decide) ?_;conv=>whnf
  rw [and15]
  refine Zgw rfl rfl (Nat.mod_lt _ (by decide)) ?_;conv=>whnf
  refine Zcq _ (Zsu (Nat.mod_lt _ (by decide))) ?_;conv=>whnf
  refine Zfz rfl rfl (by show (a ^^^ bs[i]) / 16<_;omega) (Zuf (by decide) (by decide)) ?_;conv=>whnf
  refine Zi0 (n:=4) rfl rfl (by decide) ?_;conv=>whnf
  refine Zoq rfl rfl hy (by decide) ?_;conv=>whnf
  rw [and15]
  refine Zgw rfl rfl (Nat.mod_lt _ (by decide)) ?_;conv=>whnf
  refine Zcq _ (Zsu (Nat.mod_lt _ (by decide))) ?_;conv=>whnf
  refine Zfz rfl rfl (by have:Zzl (a ^^^ bs[i]) / 16<4294967296:=by omega
                         exact this) (Zuf (by decide) (by decide)) ?_
  conv=>whnf
  refine Zlr rfl rfl rfl (by omega) ?_;conv=>whnf
  refine ⟨rfl,(i+1,Zge a bs[i]),⟨by simp;omega,?_,Znv (Znv hx)⟩,by simp;omega,[0],⟨by decide,⟨⟨rfl,rfl⟩,⟨rfl,rfl⟩,⟨Zbe _ hv.hf,by rw [Zao _ hv.hf];rfl⟩,⟨rfl,rfl⟩,⟨rfl,rfl⟩,trivial⟩,⟨⟨rfl,rfl⟩,trivial⟩⟩⟩
  show Zge a bs[i]=Zfx (bs.take (i+1)) _
  rw [List.take_succ_eq_append_getElem h,Zfx,List.foldl_append,ha];rfl
 ·conv=>whnf
  refine Zon rfl hlt ?_;conv=>whnf
  have:bs.take i=bs:=List.take_of_length_le h
  rw [ha,this]
  exact hQ _
noncomputable def Zjh (args:List AV) (s:St):RV:=match args with
 | [.int .u32 (.ofNat s0),v]=>gd (Nat.blt s0 4294967296) (Option.rec .fail (fun bs=>gd (Nat.blt (Zd0 bs) 1000000) (.ok (.int .u32 (.ofNat (Nat.xor (Zfx bs (Nat.xor s0 4294967295)) 4294967295))) s)) (Zbf s v))
 | _=>.fail
theorem Yfz {P:Program}{e:Env}{fn:Func}(hE:EnvOk P e) (hm:P.follows .mixedOrders=true) (hW:Inl e 147 (match a147 with|.mk c _=>c) (match a147 with|.mk _ r=>r)) (hf:P.funcs[107]?=some fn) (hc:Zaj P fn=some a107) (hb:Zaf P 107):OvOk P 107 Zjh:=by
 refine ⟨hb,fun args s v s' h=>?_⟩
 unfold Zjh at h
 split at h
 ·rename_i s0 u
  obtain ⟨h1,h⟩:=Zco h
  obtain ⟨bs,hbs,h⟩:=Za3 h
  obtain ⟨h2,h⟩:=Zco h
  obtain ⟨rfl,rfl⟩:=Zau h
  rw [Nat.blt_eq] at h1 h2
  rw [Zbu] at h2
  obtain ⟨v2,hF,hSl,hlt⟩:=Zea hbs
  have hfs2:hfs [.int .u32 (.ofNat s0),v2]=true:=by simp [hfs,hSl.hf];rfl
  refine Ztg (args2:=[.int .u32 (.ofNat s0),v2]) (.cons (.plain _ rfl) (.cons hF .nil)) rfl (Zky hfs2 ?_)
  exact C.of_V hE hm hf hc (Ya6 P e hE hm hW s0 h1 bs hlt (by omega) v2 hSl _ (fun s=>.plain _ rfl))
 ·cases h
end Go.AM
set_option maxRecDepth 100000
namespace Go.AM
attribute [local irreducible] W
open X
end Go.AM
set_option maxRecDepth 100000
namespace Go.AM
attribute [local irreducible] W
open X
theorem Zrm {b:Bool}{y z:Prop}(h:b=true) (hy:y):(Bool.rec (motive:=fun _=>Prop) z y b):=by rw [h];exact hy
section
variable {t:AT}{s:St}{k:AV→St→Prop}{x y:AO}
theorem Zoo {es r o m n:Nat}{c:Option Nat}{l:List AV}{v:AV}{s1:St}(hx:ev x t=.some (.sl r o m c)) (hy:ev y t=.some v) (hv:Sl es n l v) (hn:n≤m) (hst:storeAt r o l s=some s1) (hk:∀ s',(s'=s∧l=[])∨s'=s1→k (.int .i64 (Int.ofNat n)) s'):EPrim (.copy es x y) t s k:=by
 rcases hv with ⟨rfl,rfl,h0⟩|⟨rfl,rfl,h0⟩|⟨c',rfl,hl⟩
 ·refine EPrim.mk (v:=.int .i64 (Int.ofNat 0)) (s':=s) (fun e rec=>?_) (hk s (.inl ⟨rfl,h0⟩))
  show wth x t _=_;unfold wth;rw [hx]
  show wth y t _=_;unfold wth;rw [hy]
  rfl
 ·refine EPrim.mk (v:=.int .i64 (Int.ofNat 0)) (s':=s) (fun e rec=>?_) (hk s (.inl ⟨rfl,h0⟩))
  show wth x t _=_;unfold wth;rw [hx]
  show wth y t _=_;unfold wth;rw [hy]
  rfl
 ·refine EPrim.mk (v:=.int .i64 (Int.ofNat n)) (s':=s1) (fun e rec=>?_) (hk s1 (.inr rfl))
  show wth x t _=_;unfold wth;rw [hx]
  show wth y t _=_;unfold wth;rw [hy]
  show (Option.rec .fail (fun cs=>Yei (Zml (Nat.min n m)) (storeAt r o cs s)) (Zdf (Nat.mul (Nat.min n m) es) l):RV)=_
  have hmin:Nat.min n m=n:=by show min n m=n;omega
  rw [hmin]
  have ht:Zdf (Nat.mul n es) l=some l:=by
   have:=Zgy (l:=l) (n:=n*es) (by omega)
   rw [List.take_of_length_le (by omega)] at this
   exact this
  rw [ht]
  show Yei _ (storeAt r o l s)=_
  rw [hst];rfl
theorem Zdl {q:IntKind}{a b:Nat}(hx:ev x t=.some (.int q (Int.ofNat a))) (hy:ev y t=.some (.int q (Int.ofNat b))) (h1:a≠b→k (.bool true) s) (h2:a=b→k (.bool false) s):EPrim (.bin .neq x y) t s k:=
 Zas hx hy (fun h=>h1 (fun e=>h (by rw [e]))) (fun h=>h2 (Int.ofNat.inj h))
end
def Zlh:AC:=match a130 with|.mk c _=>c
def pad (bs:List Nat):List Nat:=if bs=[] then List.replicate 128 0 else bs
def Zme:List AV:=bys (List.replicate 128 0)
theorem Ze7 {s:St}{r e n:Nat}{cs:List AV}(h:s.get r=some (.row e cs)) (hl:cs.length=n):load r 0 n s=some cs:=by
 rw [Zqo h (by omega),List.drop_zero,List.take_of_length_le (by omega)]
theorem Zer {s:St}{r e:Nat}{cs old:List AV}(h:s.get r=some (.row e old)) (hl:cs.length=old.length):storeAt r 0 cs s=some (s.put r (.row e cs)):=by
 rw [Zmg h (by omega),List.take_zero,List.nil_append,List.drop_eq_nil_of_le (by omega),List.append_nil]
theorem Znf {t:AT}{s:St}{i n r:Nat}{cs vs:List AV}{l:List ARes}(ht:t.get i=some (.ptr r 0)) (hl:load r 0 n s=some cs) (h:Zpf t s l=some vs):Zpf t s (.cells i n::l)=some (.agg cs::vs):=by
 show (Option.rec none (fun v=>Option.rec none (fun vs=>some (v::vs)) (Zpf t s l)) (Option.rec none (fun v=>PR.rec none (fun r o=>Option.rec none (fun cs=>some (.agg cs)) (load r o n s)) (fun _=>none) (Zcp v)) (t.get i)):Option (List AV))=_
 rw [ht,h]
 show (Option.rec none (fun v=>some (v::vs)) (Option.rec none (fun cs=>some (.agg cs)) (load r 0 n s)):Option (List AV))=_
 rw [hl]
theorem Zre (e:Env) (s:St) (v:AV) (bs:List Nat) (hv:Sl 1 bs.length (bys bs) v) (hN:s.next<1000000000) (K:AV→St→Prop)
 (k1:bs.length≠0→bs.length≠128→∀ s',s'.next=s.next+1→(∀ i,i<s.next→s'.get i=s.get i)→K (.tup [.agg (bys (List.replicate 128 0)),.int .i64 3]) s')
 (k2:(pad bs).length=128→∀ s',s'.next=s.next+1→(∀ i,i<s.next→s'.get i=s.get i)→K (.tup [.agg (bys (pad bs)),.int .i64 0]) s'):
 VE e Zlh (Zax [v] 0 .lf) s none [] (Zfa [.cells 2 128,.tmp 3] K):=by
 obtain ⟨s1,hs1⟩:∃ s1,s.alloc (.row 197 Zme)=s1:=⟨_,rfl⟩
 have g1:s1.get s.next=some (.row 197 Zme):=by rw [← hs1];exact Zb4 hN
 have g2:∀ i,i<s.next→s1.get i=s.get i:=fun i hi=>by rw [← hs1];exact Zbl (by omega)
 have g3:s1.next=s.next+1:=by rw [← hs1];exact Zar _ _
 have hz:(Zme).length=128:=by simp [Zme,Zan]
 conv=>whnf
 refine Zi1 rfl hv ?_;conv=>whnf
 have main:bs.length=0∨bs.length=128→(pad bs).length=128:=by
  intro h
  unfold pad
  split
  ·simp
  ·rename_i hne
   rcases h with h|h
   ·exact absurd (List.length_eq_zero_iff.1 h) hne
   ·exact h
 have hcopy:bs.length=0∨bs.length=128→∃ sc,storeAt s.next 0 (bys bs) s1=some sc∧∀ s',(s'=s1∧bys bs=[])∨s'=sc→s'.next=s.next+1∧(∀ i,i<s.next→s'.get i=s.get i)∧s'.get s.next=some (.row 197 (bys (pad bs))):=by
  intro h
  refine ⟨_,Zmg g1 (by rw [Zan,hz];omega),?_⟩
  rintro s' (⟨rfl,h0⟩|rfl)
  ·refine ⟨g3,g2,?_⟩
   have:bs=[]:=List.map_eq_nil_iff.1 h0
   rw [g1];unfold pad;rw [if_pos this];rfl
  ·refine ⟨by rw [Zbc];exact g3,fun i hi=>by rw [Zcg (by omega)];exact g2 i hi,?_⟩
   rw [Zca (by omega)]
   rcases h with h|h
   ·have:bs=[]:=List.length_eq_zero_iff.1 h
    subst this;simp [bys,pad,Zme]
   ·have hne:bs≠[]:=fun e=>by subst e;cases h
    unfold pad;rw [if_neg hne,List.take_zero,List.nil_append,List.drop_eq_nil_of_le (by rw [Zan,hz];omega),List.append_nil]
 refine Zdl (b:=0) rfl rfl (fun h=>?_) (fun h=>?_)
 ·conv=>whnf
  refine Zi1 rfl hv ?_;conv=>whnf
  refine Zdl (b:=128) rfl rfl (fun h'=>?_) (fun h'=>?_)
  ·conv=>whnf
   refine Zcq Zme (by show load s.next 0 128 (s.alloc (.row 197 Zme))=_;rw [hs1];exact Ze7 g1 hz) ?_;conv=>whnf
   refine Zcq (s1.put s.next (.row 197 Zme)) (by show storeAt s.next 0 Zme (s.alloc (.row 197 Zme))=_;rw [hs1];exact Zer g1 rfl) ?_
   obtain ⟨s2,hs2⟩:∃ s2,s1.put s.next (.row 197 Zme)=s2:=⟨_,rfl⟩
   have g4:s2.get s.next=some (.row 197 Zme):=by rw [← hs2,Zca (by omega)]
   have g5:∀ i,i<s.next→s2.get i=s.get i:=fun i hi=>by rw [← hs2,Zcg (by omega)];exact g2 i hi
   have g6:s2.next=s.next+1:=by rw [← hs2,Zbc];exact g3
   rw [hs2]
   conv=>whnf
   refine Zcq _ (Znf rfl (Ze7 g4 hz) rfl) ?_
   exact k1 h h' s2 g6 g5
  ·have hn:bs.length=0∨bs.length=128:=.inr h'
   conv=>whnf
   refine EPrim.mk (v:=.sl s.next 0 128 (some 128)) (s':=s.alloc (.row 197 Zme)) (fun e rec=>rfl) ?_;conv=>whnf
   obtain ⟨sc,hsc,hall⟩:=hcopy hn
   refine Zoo (s1:=sc) rfl rfl hv (by omega) (by show storeAt s.next 0 (bys bs) (s.alloc (.row 197 Zme))=_;rw [hs1];exact hsc) (fun s2 hs2=>?_)
   have hs2':(s2=s1∧bys bs=[])∨s2=sc:=by rw [← hs1];exact hs2
   obtain ⟨a1,a2,a3⟩:=hall s2 hs2'
   have hp:=main hn
   conv=>whnf
   refine Zcq (bys (pad bs)) (Ze7 a3 (by rw [Zan];exact hp)) ?_;conv=>whnf
   refine Zrm (by show Nat.beq (Zd0 (bys (pad bs))) 128=true;rw [Zbu,Zan,hp];rfl) ?_;conv=>whnf
   refine Zcq (s2.put s.next (.row 197 (bys (pad bs)))) (Zer a3 rfl) ?_
   obtain ⟨s3,hs3⟩:∃ s3,s2.put s.next (.row 197 (bys (pad bs)))=s3:=⟨_,rfl⟩
   have g4:s3.get s.next=some (.row 197 (bys (pad bs))):=by rw [← hs3,Zca (by omega)]
   have g5:∀ i,i<s.next→s3.get i=s.get i:=fun i hi=>by rw [← hs3,Zcg (by omega)];exact a2 i hi
   have g6:s3.next=s.next+1:=by rw [← hs3,Zbc];exact a1
   rw [hs3]
   conv=>whnf
   refine Zcq _ (Znf rfl (Ze7 g4 (by rw [Zan];exact hp)) rfl) ?_
   exact k2 hp s3 g6 g5
 ·have hn:bs.length=0∨bs.length=128:=.inl h
  conv=>whnf
  refine EPrim.mk (v:=.sl s.next 0 128 (some 128)) (s':=s.alloc (.row 197 Zme)) (fun e rec=>rfl) ?_;conv=>whnf
  obtain ⟨sc,hsc,hall⟩:=hcopy hn
  refine Zoo (s1:=sc) rfl rfl hv (by omega) (by show storeAt s.next 0 (bys bs) (s.alloc (.row 197 Zme))=_;rw [hs1];exact hsc) (fun s2 hs2=>?_)
  have hs2':(s2=s1∧bys bs=[])∨s2=sc:=by rw [← hs1];exact hs2
  obtain ⟨a1,a2,a3⟩:=hall s2 hs2'
  have hp:=main hn
  conv=>whnf
  refine Zcq (bys (pad bs)) (Ze7 a3 (by rw [Zan];exact hp)) ?_;conv=>whnf
  refine Zrm (by show Nat.beq (Zd0 (bys (pad bs))) 128=true;rw [Zbu,Zan,hp];rfl) ?_;conv=>whnf
  refine Zcq (s2.put s.next (.row 197 (bys (pad bs)))) (Zer a3 rfl) ?_
  obtain ⟨s3,hs3⟩:∃ s3,s2.put s.next (.row 197 (bys (pad bs)))=s3:=⟨_,rfl⟩
  have g4:s3.get s.next=some (.row 197 (bys (pad bs))):=by rw [← hs3,Zca (by omega)]
  have g5:∀ i,i<s.next→s3.get i=s.get i:=fun i hi=>by rw [← hs3,Zcg (by omega)];exact a2 i hi
  have g6:s3.next=s.next+1:=by rw [← hs3,Zbc];exact a1
  rw [hs3]
  conv=>whnf
  refine Zcq _ (Znf rfl (Ze7 g4 (by rw [Zan];exact hp)) rfl) ?_
  exact k2 hp s3 g6 g5
def Zlg:AC:=match a131 with|.mk c _=>c
def Zfu (a z:Int):Bool:=decide (1≤z∧z≤4∧0≤a∧a≤128-z)
theorem Zwv (e:Env) (s:St) (a z:Int) (K:AV→St→Prop) (h:K (.bool (Zfu a z)) s):VE e Zlg (Zax [.int .i64 a,.int .i64 z] 0 .lf) s none [] (Zfa [.tmp 4] K):=by
 unfold Zfu at h
 conv=>whnf
 refine Zbj rfl rfl (fun h1=>?_) (fun h1=>?_)
 ·conv=>whnf
  refine Zlq rfl rfl (fun h2=>?_) (fun h2=>?_)
  ·conv=>whnf
   refine Zbj rfl rfl (fun h3=>?_) (fun h3=>?_)
   ·conv=>whnf
    refine Zcc rfl rfl (by omega) ?_;conv=>whnf
    refine Zlq rfl rfl (fun h4=>?_) (fun h4=>?_)
    ·conv=>whnf
     rw [decide_eq_true ⟨h1,h2,h3,h4⟩] at h;exact h
    ·conv=>whnf
     rw [decide_eq_false (by omega)] at h;exact h
   ·conv=>whnf
    rw [decide_eq_false (by omega)] at h;exact h
  ·conv=>whnf
   rw [decide_eq_false (by omega)] at h;exact h
 ·conv=>whnf
  rw [decide_eq_false (by omega)] at h;exact h
section
variable {t:AT}{s:St}{k:AV→St→Prop}{x y:AO}
theorem Zii {q:IntKind}{a:Nat}(hx:ev x t=.some (.int q (Int.ofNat a))) (ha:a<9223372036854775808) (hk:k (.int .i64 (Int.ofNat a)) s):EPrim (.cvi .i64 x) t s k:=by
 refine EPrim.mk (v:=.int .i64 (Int.ofNat a)) (s':=s) (fun e rec=>?_) hk
 show wth x t _=_;unfold wth;rw [hx]
 show RV.ok (.int .i64 (Zhw .i64 (Int.ofNat a))) s=_
 rw [Zck,i64_in (by have:Int.ofNat a=(a:Int):=rfl;omega)]
theorem Zza {a n:Nat}{r:IntKind}(hx:ev x t=.some (.int .i64 (Int.ofNat a))) (hy:ev y t=.some (.int r (Int.ofNat n))) (hn:n≤64) (h:a*2^n<9223372036854775808) (hk:k (.int .i64 (Int.ofNat (a*2^n))) s):EPrim (.bin .shl x y) t s k:=by
 refine Zeq hx hy (v:=.int .i64 (Int.ofNat (a*2^n))) ?_ hk
 show OV.some (.int .i64 (Zhw .i64 (mulI (Int.ofNat a) (.ofNat (2^(Nat.min n 64))))))=_
 rw [show Nat.min n 64=n from Nat.min_eq_left hn,Zck,Zqm]
 have e1:Int.ofNat a*Int.ofNat (2^n)=Int.ofNat (a*2^n):=rfl
 rw [e1,i64_in (by have:Int.ofNat (a*2^n)=((a*2^n:Nat):Int):=rfl;omega)]
theorem Yeb {a b:Nat}(hx:ev x t=.some (.int .i64 (Int.ofNat a))) (hy:ev y t=.some (.int .i64 (Int.ofNat b))) (ha:a<9223372036854775808) (hb:b<9223372036854775808) (hk:k (.int .i64 (Int.ofNat (a ||| b))) s):EPrim (.bin .or x y) t s k:=by
 refine Zeq hx hy (v:=.int .i64 (Int.ofNat (a ||| b))) ?_ hk
 show OV.some (.int .i64 (IntKind.i64.wrap (((BitVec.or (BitVec.ofInt 64 (a:Int)) (BitVec.ofInt 64 (b:Int))).toNat:Nat):Int)))=_
 have e1:(BitVec.or (BitVec.ofInt 64 (a:Int)) (BitVec.ofInt 64 (b:Int))).toNat=a ||| b:=by
  show (BitVec.ofInt 64 (a:Int) ||| BitVec.ofInt 64 (b:Int)).toNat=_
  rw [BitVec.toNat_or,BitVec.ofInt_natCast,BitVec.ofInt_natCast,BitVec.toNat_ofNat,BitVec.toNat_ofNat,Nat.mod_eq_of_lt (by omega),Nat.mod_eq_of_lt (by omega)]
 have hlt:a ||| b<2^63:=Nat.or_lt_two_pow (by omega) (by omega)
 rw [e1,i64_in (by omega)];rfl
end
def code86:AC:=match a86 with|.mk c _=>c
def num (bs:List Nat) (a:Nat):Nat→Nat
 | 0=>0
 | n+1=>num bs a n ||| bs.getD (a+n) 0*2^(8*n)
theorem Ye0 (P:Program) (e:Env) (hE:EnvOk P e) (hm:P.follows .mixedOrders=true) (h130:Inl e 130 Zlh [.cells 2 128,.tmp 3]) (h131:Inl e 131 Zlg [.tmp 4]) (v:AV) (bs:List Nat) (hv:Sl 1 bs.length (bys bs) v) (hb:∀ b ∈ bs,b<256) (a z:Int) (Q:AV→St→Prop)
 (k1:bs.length≠0→bs.length≠128→∀ s,Q (.tup [.int .i64 0,.int .i64 3]) s)
 (k2:(pad bs).length=128→Zfu a z=false→∀ s,Q (.tup [.int .i64 0,.int .i64 2]) s)
 (k3:(pad bs).length=128→Zfu a z=true→∀ s,Q (.tup [.int .i64 (Int.ofNat (num (pad bs) a.toNat z.toNat)),.int .i64 0]) s):
 VW P e 0 code86 (Zax [v,.int .i64 a,.int .i64 z] 0 .lf) St0 none [] (Zfa [.tmp 6,.tmp 7] Q):=by
 have hpad:∀ b ∈ pad bs,b<256:=by
  unfold pad
  split
  ·intro b hb';rw [List.eq_of_mem_replicate hb'];decide
  ·exact hb
 conv=>whnf
 refine ESc.inl h130 (Zre e _ v bs hv (by decide) _ (fun h1 h2 s' n1 n2=>?_) (fun h1 s' n1 n2=>?_))
 ·have hn1:s'.next=1:=n1
  conv=>whnf
  refine Zcq _ (Zer (e:=197) (old:=Zme) (Zb4 (by omega)) rfl) ?_;conv=>whnf
  refine Zdl (a:=3) (b:=0) rfl rfl (fun _=>?_) (fun h=>by cases h);conv=>whnf
  exact k1 h1 h2 _
 ·have hn1:s'.next=1:=n1
  have hbl:(bys (pad bs)).length=128:=by rw [Zan];exact h1
  obtain ⟨s1,hs1⟩:∃ s1,s'.alloc (.row 197 Zme)=s1:=⟨_,rfl⟩
  have g1:s1.get s'.next=some (.row 197 Zme):=by rw [← hs1];exact Zb4 (by omega)
  conv=>whnf
  refine Zrm (by show Nat.beq (Zd0 (bys (pad bs))) 128=true;rw [Zbu,hbl];rfl) ?_;conv=>whnf
  refine Zcq (s1.put s'.next (.row 197 (bys (pad bs)))) (by show storeAt s'.next 0 (bys (pad bs)) (s'.alloc (.row 197 Zme))=_;rw [hs1];exact Zer g1 (by rw [hbl];rfl)) ?_
  obtain ⟨s2,hs2⟩:∃ s2,s1.put s'.next (.row 197 (bys (pad bs)))=s2:=⟨_,rfl⟩
  have g4:s2.get s'.next=some (.row 197 (bys (pad bs))):=by rw [← hs2,Zca (by omega)]
  rw [hs2]
  conv=>whnf
  refine Zdl (a:=0) (b:=0) rfl rfl (fun h=>absurd rfl h) (fun _=>?_);conv=>whnf
  refine ESc.inl h131 (Zwv e _ a z _ ?_)
  cases hf:Zfu a z with
  | false=>
   conv=>whnf
   refine Zeb rfl ?_;conv=>whnf
   exact k2 h1 hf _
  | true=>
   conv=>whnf
   refine Zbp rfl ?_;conv=>whnf
   have hfz:=of_decide_eq_true hf
   obtain ⟨A,rfl⟩:∃ A:Nat,a=Int.ofNat A:=⟨a.toNat,by show a=(a.toNat:Int);omega⟩
   obtain ⟨Z,rfl⟩:∃ Z:Nat,z=Int.ofNat Z:=⟨z.toNat,by show z=(z.toNat:Int);omega⟩
   have eA:Int.ofNat A=(A:Int):=rfl
   have eZ:Int.ofNat Z=(Z:Int):=rfl
   refine Zhc (α:=Nat) (fun i=>[(1,.int .i64 (Int.ofNat A)),(6,.int .i64 (Int.ofNat (num (pad bs) A i))),(8,.ptr 0 0),(22,.int .i64 (Int.ofNat Z)),(23,.int .i64 (Int.ofNat i))]) (fun _=>[.row 197 (bys (pad bs))]) (fun i=>Z-i)
    (fun i=>i≤Z) 0 [s'.next] (Nat.zero_le _) ⟨by simp,⟨⟨rfl,rfl⟩,⟨rfl,rfl⟩,⟨rfl,rfl⟩,⟨rfl,rfl⟩,⟨rfl,rfl⟩,trivial⟩,⟨⟨?_,?_⟩,trivial⟩⟩ ?_
   ·exact Zex _ (Zad _)
   ·rw [g4];show _=some (AObj.row 197 (Zbx _ (bys (pad bs))));rw [Zcv _ (Zad _)]
   intro i hi
   have hnum:∀ j,j≤4→num (pad bs) A j<2^(8*j):=by
    intro j
    induction j with
    | zero=>intro _;exact Nat.zero_lt_one
    | succ j ih=>
     intro hj
     have hlt:(pad bs).getD (A+j) 0<256:=by
      rw [List.getD_eq_getElem?_getD]
      cases hq:(pad bs)[A+j]? with
      | none=>decide
      | some q=>exact hpad q (List.mem_of_getElem? hq)
     have e8:8*(j+1)=8*j+8:=by omega
     refine Nat.or_lt_two_pow (Nat.lt_of_lt_of_le (ih (by omega)) (Nat.pow_le_pow_right (by decide) (by omega))) ?_
     rw [e8,Nat.pow_add,Nat.mul_comm]
     exact Nat.mul_lt_mul_of_pos_left hlt (Nat.two_pow_pos _)
   refine Zap hE hm ?_;conv=>whnf
   refine Zlp rfl rfl (fun h=>?_) (fun h=>?_)
   ·have hAi:A+i<(pad bs).length:=by omega
    have hbi:(pad bs)[A+i]<256:=hpad _ (List.getElem_mem hAi)
    have hp8:(pad bs)[A+i]*2^(8*i)<2^32:=by
     have:2^(8*i)≤2^24:=Nat.pow_le_pow_right (by decide) (by omega)
     calc _<256*2^(8*i):=Nat.mul_lt_mul_of_pos_right hbi (Nat.two_pow_pos _)
      _≤256*2^24:=Nat.mul_le_mul_left _ this
      _=2^32:=by decide
    have hni:num (pad bs) A i<2^32:=Nat.lt_of_lt_of_le (hnum i (by omega)) (Nat.pow_le_pow_right (by decide) (by omega))
    conv=>whnf
    refine Zpz rfl rfl (by omega) ?_;conv=>whnf
    refine Zgw rfl rfl (by omega) ?_;conv=>whnf
    refine Zcq (.int .u8 (Int.ofNat (pad bs)[A+i])) (by
     rw [Nat.zero_add,Nat.mul_one]
     show Zra (bys (pad bs)) (A+i)=_
     rw [Zg5];simp [bys,byV,hAi]) ?_
    conv=>whnf
    refine Zii rfl (by omega) ?_;conv=>whnf
    refine Za2 rfl rfl (by have:Int.ofNat i=(i:Int):=rfl;omega) ?_;conv=>whnf
    refine Zza (n:=8*i) rfl rfl (by omega) (by omega) ?_;conv=>whnf
    refine Yeb rfl rfl (by omega) (by omega) ?_;conv=>whnf
    refine Zlr rfl rfl rfl (by omega) ?_;conv=>whnf
    refine ⟨rfl,i+1,by omega,by omega,[0],⟨by decide,⟨⟨rfl,rfl⟩,⟨rfl,?_⟩,⟨rfl,rfl⟩,⟨rfl,rfl⟩,⟨rfl,rfl⟩,trivial⟩,⟨⟨Zex _ (Zad _),?_⟩,trivial⟩⟩⟩
    ·show _=some (AV.int .i64 (Int.ofNat (num (pad bs) A i ||| (pad bs).getD (A+i) 0*2^(8*i))))
     rw [List.getD_eq_getElem?_getD,List.getElem?_eq_getElem hAi]
     rfl
    ·show _=some (AObj.row 197 (Zbx _ (bys (pad bs))));rw [Zcv _ (Zad _)];rfl
   ·conv=>whnf
    have:i=Z:=by omega
    subst this
    exact k3 h1 hf _
theorem Zqh {bs:List Nat}(h:(pad bs).length=128):¬ (bs.length≠0∧bs.length≠128):=by
 unfold pad at h
 split at h
 ·rename_i e;subst e;simp
 ·rintro ⟨_,h2⟩;exact h2 h
def Zje (bs:List Nat) (a z:Int):AV:=
 if bs.length≠0∧bs.length≠128 then .tup [.int .i64 0,.int .i64 3] else if Zfu a z=true then .tup [.int .i64 (Int.ofNat (num (pad bs) a.toNat z.toNat)),.int .i64 0] else .tup [.int .i64 0,.int .i64 2]
theorem Yfi (bs:List Nat) (a z:Int):sc (Zje bs a z)=true:=by
 unfold Zje
 split
 ·rfl
 ·split <;> rfl
noncomputable def Zjv (args:List AV) (s:St):RV:=match args with
 | [v,.int .i64 a,.int .i64 z]=>Option.rec .fail (fun bs=>.ok (Zje bs a z) s) (Zbf s v)
 | _=>.fail
theorem Ye1 {P:Program}{e:Env}{fn:Func}(hE:EnvOk P e) (hm:P.follows .mixedOrders=true) (h130:Inl e 130 Zlh [.cells 2 128,.tmp 3]) (h131:Inl e 131 Zlg [.tmp 4]) (hf:P.funcs[86]?=some fn) (hc:Zaj P fn=some a86) (hb:Zaf P 86):OvOk P 86 Zjv:=by
 refine ⟨hb,fun args s v s' h=>?_⟩
 unfold Zjv at h
 split at h
 ·rename_i u a z
  obtain ⟨bs,hbs,h⟩:=Za3 h
  obtain ⟨rfl,rfl⟩:=Zau h
  obtain ⟨v2,hF,hSl,hlt⟩:=Zea hbs
  have hfs2:hfs [v2,.int .i64 a,.int .i64 z]=true:=by simp [hfs,hSl.hf];exact ⟨rfl,rfl⟩
  refine Ztg (args2:=[v2,.int .i64 a,.int .i64 z]) (.cons hF (.cons (.plain _ rfl) (.cons (.plain _ rfl) .nil))) (Yfi bs a z) (Zky hfs2 ?_)
  refine C.of_V hE hm hf hc (Ye0 P e hE hm h130 h131 v2 bs hSl hlt a z _ (fun h1 h2 s=>?_) (fun h0 h1 s=>?_) (fun h0 h1 s=>?_))
  ·have e1:Zje bs a z=.tup [.int .i64 0,.int .i64 3]:=by unfold Zje;rw [if_pos ⟨h1,h2⟩]
   rw [e1];exact .plain _ rfl
  ·have e1:Zje bs a z=.tup [.int .i64 0,.int .i64 2]:=by unfold Zje;rw [if_neg (Zqh h0),if_neg (by rw [h1];simp)]
   rw [e1];exact .plain _ rfl
  ·have e1:Zje bs a z=.tup [.int .i64 (Int.ofNat (num (pad bs) a.toNat z.toNat)),.int .i64 0]:=by unfold Zje;rw [if_neg (Zqh h0),if_pos h1]
   rw [e1];exact .plain _ rfl
 ·cases h
end Go.AM
set_option maxRecDepth 100000
namespace Go.AM
attribute [local irreducible] W
open X
section
variable {t:AT}{s:St}{k:AV→St→Prop}{x y:AO}
theorem Zvc {q:IntKind}{a:Nat}(hx:ev x t=.some (.int q (Int.ofNat a))) (hk:k (.int .u8 (Int.ofNat (a % 256))) s):EPrim (.cvi .u8 x) t s k:=by
 refine EPrim.mk (v:=.int .u8 (Int.ofNat (a % 256))) (s':=s) (fun e rec=>?_) hk
 show wth x t _=_;unfold wth;rw [hx]
 rfl
end
def code161:AC:=match a161 with|.mk c _=>c
def Zb8 (bs:List Nat) (a n:Nat):Nat→List Nat
 | 0=>bs
 | i+1=>(Zb8 bs a n i).set (a+i) (n / 2^(8*i) % 256)
theorem Zat (bs:List Nat) (a n:Nat):∀ i,(Zb8 bs a n i).length=bs.length
 | 0=>rfl
 | i+1=>by rw [Zb8,List.length_set,Zat bs a n i]
theorem bys_set (bs:List Nat) (i b:Nat):bys (bs.set i b)=(bys bs).set i (.int .u8 (Int.ofNat b)):=by simp [bys,List.map_set,byV]
def Zg1 (a z n:Int):Bool:=Zfu a z && decide (0≤n∧n.toNat / 2^(8*z.toNat)=0)
theorem put_run (P:Program) (e:Env) (hE:EnvOk P e) (hm:P.follows .mixedOrders=true) (h130:Inl e 130 Zlh [.cells 2 128,.tmp 3]) (h131:Inl e 131 Zlg [.tmp 4]) (v:AV) (bs:List Nat) (hv:Sl 1 bs.length (bys bs) v) (a z n:Int) (Q:AV→St→Prop)
 (k1:bs.length≠0→bs.length≠128→∀ s,Q (.tup [.nils,.int .i64 3]) s)
 (k2:(pad bs).length=128→Zg1 a z n=false→∀ s,Q (.tup [.nils,.int .i64 2]) s)
 (k3:(pad bs).length=128→Zg1 a z n=true→∀ s r,s.get r=some (.row 197 (bys (Zb8 (pad bs) a.toNat n.toNat z.toNat)))→Q (.tup [.sl r 0 128 (some 128),.int .i64 0]) s):
 VW P e 0 code161 (Zax [v,.int .i64 a,.int .i64 z,.int .i64 n] 0 .lf) St0 none [] (Zfa [.tmp 8,.tmp 9] Q):=by
 conv=>whnf
 refine ESc.inl h130 (Zre e _ v bs hv (by decide) _ (fun h1 h2 s' n1 n2=>?_) (fun h1 s' n1 n2=>?_))
 ·have hn1:s'.next=1:=n1
  conv=>whnf
  refine Zcq _ (Zer (e:=197) (old:=Zme) (Zb4 (by omega)) rfl) ?_;conv=>whnf
  refine Zdl (a:=3) (b:=0) rfl rfl (fun _=>?_) (fun h=>by cases h);conv=>whnf
  exact k1 h1 h2 _
 ·have hn1:s'.next=1:=n1
  have hbl:(bys (pad bs)).length=128:=by rw [Zan];exact h1
  obtain ⟨s1,hs1⟩:∃ s1,s'.alloc (.row 197 Zme)=s1:=⟨_,rfl⟩
  have g1:s1.get s'.next=some (.row 197 Zme):=by rw [← hs1];exact Zb4 (by omega)
  conv=>whnf
  refine Zrm (by show Nat.beq (Zd0 (bys (pad bs))) 128=true;rw [Zbu,hbl];rfl) ?_;conv=>whnf
  refine Zcq (s1.put s'.next (.row 197 (bys (pad bs)))) (by show storeAt s'.next 0 (bys (pad bs)) (s'.alloc (.row 197 Zme))=_;rw [hs1];exact Zer g1 (by rw [hbl];rfl)) ?_
  obtain ⟨s2,hs2⟩:∃ s2,s1.put s'.next (.row 197 (bys (pad bs)))=s2:=⟨_,rfl⟩
  have g4:s2.get s'.next=some (.row 197 (bys (pad bs))):=by rw [← hs2,Zca (by omega)]
  rw [hs2]
  conv=>whnf
  refine Zdl (a:=0) (b:=0) rfl rfl (fun h=>absurd rfl h) (fun _=>?_);conv=>whnf
  refine ESc.inl h131 (Zwv e _ a z _ ?_)
  cases hf:Zfu a z with
  | false=>
   conv=>whnf
   refine Zeb rfl ?_;conv=>whnf
   exact k2 h1 (by unfold Zg1;rw [hf];rfl) _
  | true=>
   conv=>whnf
   refine Zbp rfl ?_;conv=>whnf
   have hfz:=of_decide_eq_true hf
   obtain ⟨A,rfl⟩:∃ A:Nat,a=Int.ofNat A:=⟨a.toNat,by show a=(a.toNat:Int);omega⟩
   obtain ⟨Z,rfl⟩:∃ Z:Nat,z=Int.ofNat Z:=⟨z.toNat,by show z=(z.toNat:Int);omega⟩
   have eA:Int.ofNat A=(A:Int):=rfl
   have eZ:Int.ofNat Z=(Z:Int):=rfl
   refine Zab rfl rfl (fun hneg=>?_) (fun hneg=>?_)
   ·conv=>whnf
    exact k2 h1 (by unfold Zg1;rw [decide_eq_false (by omega)];simp) _
   ·obtain ⟨M,rfl⟩:∃ M:Nat,n=Int.ofNat M:=⟨n.toNat,by show n=(n.toNat:Int);omega⟩
    conv=>whnf
    refine Za2 rfl rfl (by omega) ?_;conv=>whnf
    refine Zi0 (n:=8*Z) rfl rfl (by show 8*Z≤64;omega) ?_;conv=>whnf
    refine Zdl (b:=0) rfl rfl (fun h=>?_) (fun h=>?_)
    ·conv=>whnf
     exact k2 h1 (by unfold Zg1;rw [decide_eq_false (fun hh=>h hh.2)];simp) _
    ·conv=>whnf
     have hok:Zg1 (Int.ofNat A) (Int.ofNat Z) (Int.ofNat M)=true:=by
      unfold Zg1;rw [hf,decide_eq_true ⟨hneg,h⟩];rfl
     refine Zhc (α:=Nat) (fun i=>[(1,.int .i64 (Int.ofNat A)),(3,.int .i64 (Int.ofNat M)),(10,.ptr 0 0),(36,.int .i64 (Int.ofNat Z)),(37,.int .i64 (Int.ofNat i))]) (fun i=>[.row 197 (bys (Zb8 (pad bs) A M i))]) (fun i=>Z-i)
      (fun i=>i≤Z) 0 [s'.next] (Nat.zero_le _) ⟨by simp,⟨⟨rfl,rfl⟩,⟨rfl,rfl⟩,⟨rfl,rfl⟩,⟨rfl,rfl⟩,⟨rfl,rfl⟩,trivial⟩,⟨⟨?_,?_⟩,trivial⟩⟩ ?_
     ·exact Zex _ (Zad _)
     ·rw [g4];show _=some (AObj.row 197 (Zbx _ (bys (pad bs))));rw [Zcv _ (Zad _)]
     intro i hi
     have hlen:(bys (Zb8 (pad bs) A M i)).length=128:=by rw [Zan,Zat];exact h1
     refine Zap hE hm ?_;conv=>whnf
     refine Zlp rfl rfl (fun h=>?_) (fun h=>?_)
     ·conv=>whnf
      refine Zpz rfl rfl (by omega) ?_;conv=>whnf
      refine Za2 rfl rfl (by have:Int.ofNat i=(i:Int):=rfl;omega) ?_;conv=>whnf
      refine Zi0 (n:=8*i) rfl rfl (by show 8*i≤64;omega) ?_;conv=>whnf
      refine Zvc rfl ?_;conv=>whnf
      refine Zgw rfl rfl (by omega) ?_;conv=>whnf
      refine Zcq ((Zai St0 [.row 197 (bys (Zb8 (pad bs) A M i))]).put 0 (.row 197 (bys (Zb8 (pad bs) A M (i+1))))) (by
       rw [Nat.zero_add,Nat.mul_one]
       show storeAt 0 (A+i) [AV.int .u8 (Int.ofNat (M / 2^(8*i) % 256))] (Zai St0 [.row 197 (bys (Zb8 (pad bs) A M i))])=_
       rw [Zmg (e:=197) (cs:=bys (Zb8 (pad bs) A M i)) rfl (by rw [hlen];simp;omega)]
       rw [Zb8,bys_set,List.set_eq_take_append_cons_drop,if_pos (by rw [hlen];omega)]
       simp) ?_
      conv=>whnf
      refine Zlr rfl rfl rfl (by omega) ?_;conv=>whnf
      refine ⟨rfl,i+1,by omega,by omega,[0],⟨by decide,⟨⟨rfl,rfl⟩,⟨rfl,rfl⟩,⟨rfl,rfl⟩,⟨rfl,rfl⟩,⟨rfl,rfl⟩,trivial⟩,⟨⟨Zex _ (Zad _),?_⟩,trivial⟩⟩⟩
      show _=some (AObj.row 197 (Zbx _ (bys (Zb8 (pad bs) A M (i+1)))));rw [Zcv _ (Zad _)];rfl
     ·have:i=Z:=by omega
      subst this
      conv=>whnf
      refine EPrim.mk (v:=.sl 0 0 128 (some 128)) (s':=Zai St0 [.row 197 (bys (Zb8 (pad bs) A M i))]) (fun e rec=>rfl) ?_;conv=>whnf
      exact k3 h1 hok _ 0 rfl
theorem Yi2 {v:AV}{bs:List Nat}(h:Zbf St0 v=some bs):Sl 1 bs.length (bys bs) v∧∀ b ∈ bs,b<256:=by
 obtain ⟨v2,hF,hS,hb⟩:=Zea h
 refine ⟨?_,hb⟩
 cases hF with
 | plain _ _=>exact hS
 | sl r o n cap cap' e cs l us hg _ _ _=>cases hg
 | ptr r o e cs l us hg _ _=>cases hg
 | agg l us _=>rcases hS with ⟨h,_⟩|⟨h,_⟩|⟨c,h,_⟩ <;> cases h
 | tup l us _=>rcases hS with ⟨h,_⟩|⟨h,_⟩|⟨c,h,_⟩ <;> cases h
 | fn f xs ys us ws _ _=>rcases hS with ⟨h,_⟩|⟨h,_⟩|⟨c,h,_⟩ <;> cases h
def Ztj (bs:List Nat) (a z n:Int):AV:=
 if bs.length≠0∧bs.length≠128 then .tup [.nils,.int .i64 3] else if Zg1 a z n=true then .tup [.fz 128 (some 128) (bys (Zb8 (pad bs) a.toNat n.toNat z.toNat)),.int .i64 0] else .tup [.nils,.int .i64 2]
theorem hf_putV (bs:List Nat) (a z n:Int):hf (Ztj bs a z n)=true:=by
 unfold Ztj
 split
 ·rfl
 ·split <;> rfl
noncomputable def Zt7 (args:List AV) (s:St):RV:=match args with
 | [v,.int .i64 a,.int .i64 z,.int .i64 n]=>Option.rec .fail (fun bs=>.ok (Ztj bs a z n) s) (Zbf St0 v)
 | _=>.fail
theorem putO_ok {P:Program}{e:Env}{fn:Func}(hE:EnvOk P e) (hm:P.follows .mixedOrders=true) (h130:Inl e 130 Zlh [.cells 2 128,.tmp 3]) (h131:Inl e 131 Zlg [.tmp 4]) (hf:P.funcs[161]?=some fn) (hc:Zaj P fn=some a161) (hb:Zaf P 161):OvOk P 161 Zt7:=by
 refine ⟨hb,fun args s v s' h=>?_⟩
 unfold Zt7 at h
 split at h
 ·rename_i u a z n
  obtain ⟨bs,hbs,h⟩:=Za3 h
  obtain ⟨rfl,rfl⟩:=Zau h
  obtain ⟨hSl,hlt⟩:=Yi2 hbs
  have hfs2:hfs [u,.int .i64 a,.int .i64 z,.int .i64 n]=true:=by simp [hfs,hSl.hf];exact ⟨rfl,rfl,rfl⟩
  refine Zth hfs2 (hf_putV bs a z n) ?_ s
  refine C.of_V hE hm hf hc (put_run P e hE hm h130 h131 u bs hSl a z n _ (fun h1 h2 s=>?_) (fun h0 h1 s=>?_) (fun h0 h1 s r hr=>?_))
  ·have e1:Ztj bs a z n=.tup [.nils,.int .i64 3]:=by unfold Ztj;rw [if_pos ⟨h1,h2⟩]
   rw [e1];exact .plain _ rfl
  ·have e1:Ztj bs a z n=.tup [.nils,.int .i64 2]:=by unfold Ztj;rw [if_neg (Zqh h0),if_neg (by rw [h1];simp)]
   rw [e1];exact .plain _ rfl
  ·have e1:Ztj bs a z n=.tup [.fz 128 (some 128) (bys (Zb8 (pad bs) a.toNat n.toNat z.toNat)),.int .i64 0]:=by unfold Ztj;rw [if_neg (Zqh h0),if_pos h1]
   rw [e1]
   exact .tup _ _ (.cons (.sl r 0 128 (some 128) (some 128) 197 _ _ _ hr (fun i x hx=>by rw [Nat.zero_add];exact hx) (Zuu _) (.inr ⟨rfl,by simp⟩)) (.cons (.plain _ rfl) .nil))
 ·cases h
end Go.AM
set_option maxRecDepth 100000
namespace Go.AM
attribute [local irreducible] W
open X
def code128:AC:=match a128 with|.mk c _=>c
def Zl8 (bs:List Nat) (a z n:Int):AV:=if bs.length≠0∧bs.length≠128 then .nils else if Zg1 a z n=true then .fz 128 (some 128) (bys (Zb8 (pad bs) a.toNat n.toNat z.toNat)) else .nils
def Zqf (bs:List Nat) (a z n:Int):Int:=if bs.length≠0∧bs.length≠128 then 3 else if Zg1 a z n=true then 0 else 2
theorem putV_eq (bs:List Nat) (a z n:Int):Ztj bs a z n=.tup [Zl8 bs a z n,.int .i64 (Zqf bs a z n)]:=by
 unfold Ztj Zl8 Zqf
 split
 ·rfl
 ·split <;> rfl
theorem Zk3 (bs:List Nat) (a z n:Int):Zl8 bs a z n=.nils∨∃ m c l,Zl8 bs a z n=.fz m c l:=by
 unfold Zl8
 split
 ·exact .inl rfl
 ·split
  ·exact .inr ⟨_,_,_,rfl⟩
  ·exact .inl rfl
theorem Yhi (P:Program) (e:Env) (hE:EnvOk P e) (hm:P.follows .mixedOrders=true) (h161:Con e 161 Zt7) (v:AV) (bs:List Nat) (hv:Zbf St0 v=some bs) (a z n:Int) (haz:-9223372036854775808≤a+z∧a+z≤9223372036854775807) (Q:AV→St→Prop)
 (k:∀ s,Q (.agg [Zl8 bs a z n,.int .i64 (a+z),.int .i64 (Zqf bs a z n)]) s):
 VW P e 0 code128 (Zax [.agg [v,.int .i64 a,.int .i64 0],.int .i64 n,.int .i64 z] 0 .lf) St0 none [] (Zfa [.cells 6 3] Q):=by
 conv=>whnf
 refine Zdl (a:=0) (b:=0) rfl rfl (fun h=>absurd rfl h) (fun _=>?_);conv=>whnf
 refine ESc.ov h161 (v:=Ztj bs a z n) (s':=_) (by
  show (Option.rec .fail (fun bs=>.ok (Ztj bs a z n) _) (Zbf St0 v):RV)=_
  rw [hv]) ?_
 rw [putV_eq]
 have hB:=Zk3 bs a z n
 revert k
 generalize Zl8 bs a z n=B at hB ⊢
 intro k
 rcases hB with rfl|⟨m,c,l,rfl⟩
 ·conv=>whnf
  refine Zah rfl rfl haz ?_;conv=>whnf
  exact k _
 ·conv=>whnf
  refine Zah rfl rfl haz ?_;conv=>whnf
  exact k _
noncomputable def Zo1 (args:List AV) (s:St):RV:=match args with
 | [.agg [v,.int .i64 a,.int .i64 er],.int .i64 n,.int .i64 z]=>if er=0∧(-9223372036854775808≤a+z∧a+z≤9223372036854775807) then
  Option.rec .fail (fun bs=>.ok (.agg [Zl8 bs a z n,.int .i64 (a+z),.int .i64 (Zqf bs a z n)]) s) (Zbf St0 v) else .fail
 | _=>.fail
theorem Yhj {P:Program}{e:Env}{fn:Func}(hE:EnvOk P e) (hm:P.follows .mixedOrders=true) (h161:Con e 161 Zt7) (hf:P.funcs[128]?=some fn) (hc:Zaj P fn=some a128) (hb:Zaf P 128):OvOk P 128 Zo1:=by
 refine ⟨hb,fun args s v s' h=>?_⟩
 unfold Zo1 at h
 split at h
 ·rename_i u a er n z
  split at h
  ·rename_i hcnd
   obtain ⟨rfl,haz⟩:=hcnd
   obtain ⟨bs,hbs,h⟩:=Za3 h
   obtain ⟨rfl,rfl⟩:=Zau h
   obtain ⟨hSl,hlt⟩:=Yi2 hbs
   have hfs2:hfs [.agg [u,.int .i64 a,.int .i64 0],.int .i64 n,.int .i64 z]=true:=by
    show (AM.hf (.agg [u,.int .i64 a,.int .i64 0]) && _)=true
    have:AM.hf (.agg [u,.int .i64 a,.int .i64 0])=true:=by show (AM.hf u && _)=true;rw [hSl.hf];rfl
    rw [this];rfl
   have hu:AM.hf (.agg [Zl8 bs a z n,.int .i64 (a+z),.int .i64 (Zqf bs a z n)])=true:=by
    show (AM.hf (Zl8 bs a z n) && _)=true
    rcases Zk3 bs a z n with h|⟨m,c,l,h⟩ <;> rw [h] <;> rfl
   refine Zth hfs2 hu ?_ s
   exact C.of_V hE hm hf hc (Yhi P e hE hm h161 u bs hbs a z n haz _ (fun s=>.plain _ hu))
  ·cases h
 ·cases h
end Go.AM
set_option maxRecDepth 100000
namespace Go.AM
attribute [local irreducible] W
open X
section
variable {t:AT}{s:St}{k:AV→St→Prop}{x y:AO}
theorem Zhg {es n h:Nat}{c:Option Nat}{cs:List AV}{lo hi:Option AO}(hx:ev x t=.some (.fz n c cs)) (hlo:Zeg t lo 0=.n 0) (hhi:Zeg t hi n=.n h) (h1:0≤h) (h2:h≤n) (h3:0<n) (hl:h*es≤cs.length)
 (hk:k (.fz (h-0) (Option.rec none (fun c=>some (c-0)) c) ((cs.drop (0*es)).take ((h-0)*es))) s):EPrim (.slc es x lo hi none) t s k:=by
 refine EPrim.mk (fun e rec=>?_) hk
 show wth x t _=_;unfold wth;rw [hx]
 show (NR.rec .fail _ (Zeg t lo 0):RV)=_;rw [hlo]
 show (NR.rec .fail _ (Zeg t hi n):RV)=_;rw [hhi]
 show gd (Nat.ble 0 h && Nat.ble h n && true) (Bool.rec (.ok .es s) (Option.rec .fail (fun cs'=>.ok (.fz (h-0) (Option.rec none (fun c=>some (c-0)) c) cs') s) (Zdf (Nat.mul (h-0) es) (Zgs (Nat.mul 0 es) cs))) (Nat.blt 0 n))=_
 have ht:Zdf (Nat.mul (h-0) es) (Zgs (Nat.mul 0 es) cs)=some ((cs.drop (0*es)).take ((h-0)*es)):=by
  rw [Ze1]
  refine Zgy ?_
  rw [List.length_drop]
  show (h-0)*es≤cs.length-0*es
  rw [Nat.sub_mul];omega
 rw [Nat.ble_eq_true_of_le h1,Nat.ble_eq_true_of_le h2,show Nat.blt 0 n=true by simpa using h3,ht];rfl
end
theorem Zll:∀ {bs:List Nat},(∀ b ∈ bs,b<256)→Zbm (bys bs)=some bs
 | [],_=>rfl
 | b::bs,h=>by
  show (Bool.rec none (Option.rec none (fun r=>some (b::r)) (Zbm (bys bs))) (Nat.blt b 256):Option (List Nat))=_
  rw [Zll (fun x hx=>h x (by simp [hx])),show Nat.blt b 256=true by simpa using h b (by simp)]
theorem Zdh {s:St}{n:Nat}{c:Option Nat}{bs:List Nat}(hn:bs.length=n) (h:∀ b ∈ bs,b<256):Zbf s (.fz n c (bys bs))=some bs:=by
 show (Bool.rec none (Zbm (bys bs)) (Nat.beq (Zd0 (bys bs)) n):Option (List Nat))=_
 rw [Zll h,Zbu,Zan,hn,Nat.beq_refl]
theorem Zms (bs:List Nat) (n:Nat):(bys bs).take n=bys (bs.take n):=by simp [bys,List.map_take]
def code129:AC:=match a129 with|.mk c _=>c
def Zsw:AC:=match a67 with|.mk c _=>c
theorem Zg7:∀ {bs:List Nat}{s:Nat},(∀ b ∈ bs,b<256)→s<4294967296→Zfx bs s<4294967296
 | [],s,_,h=>h
 | b::bs,s,hb,h=>by
  show Zfx bs (Zge s b)<_
  refine Zg7 (fun x hx=>hb x (by simp [hx])) (Znv (Znv (Nat.xor_lt_two_pow (n:=32) h ?_)))
  have:=hb b (by simp);omega
def Zen (bs:List Nat):Nat:=Zfx bs 4294967295 ^^^ 4294967295
theorem Yff (P:Program) (e:Env) (hE:EnvOk P e) (hm:P.follows .mixedOrders=true) (h67:Inl e 67 Zsw [.tmp 2]) (h107:Con e 107 Zjh) (h128:Con e 128 Zo1) (bs:List Nat) (hl:bs.length=128) (hb:∀ b ∈ bs,b<256) (c:Option Nat) (a:Int) (Q:AV→St→Prop)
 (k:∀ s,Q (.tup [Zl8 bs 124 4 (Int.ofNat (Zen (bs.take 124))),.int .i64 (Zqf bs 124 4 (Int.ofNat (Zen (bs.take 124))))]) s):
 VW P e 0 code129 (Zax [.agg [.fz 128 c (bys bs),.int .i64 a,.int .i64 0]] 0 .lf) St0 none [] (Zfa [.tmp 2,.tmp 3] Q):=by
 conv=>whnf
 refine Zdl (a:=0) (b:=0) rfl rfl (fun h=>absurd rfl h) (fun _=>?_);conv=>whnf
 refine Zhg (h:=124) rfl rfl rfl (by omega) (by omega) (by omega) (by rw [Zan];omega) ?_;conv=>whnf
 refine ESc.inl h67 ?_;conv=>whnf
 have htk:∀ b ∈ bs.take 124,b<256:=fun b hb'=>hb b (List.mem_of_mem_take hb')
 have htl:(bs.take 124).length=124:=by rw [List.length_take];omega
 have hsum:Zen (bs.take 124)<4294967296:=Nat.xor_lt_two_pow (n:=32) (Zg7 htk (by decide)) (by decide)
 refine ESc.ov h107 (v:=.int .u32 (Int.ofNat (Zen (bs.take 124)))) (s':=_) (by
  show (Option.rec .fail (fun bs=>gd (Nat.blt (Zd0 bs) 1000000) (.ok (.int .u32 (.ofNat (Nat.xor (Zfx bs (Nat.xor 0 4294967295)) 4294967295))) _)) (Zbf _ (.fz 124 _ ((bys bs).take 124))):RV)=_
  rw [Zms,Zdh htl htk]
  show gd (Nat.blt (Zd0 (bs.take 124)) 1000000) _=_
  rw [Zbu,htl];rfl) ?_
 conv=>whnf
 refine ⟨rfl,?_⟩;conv=>whnf
 refine Zii rfl (by omega) ?_;conv=>whnf
 refine ESc.ov h128 (v:=.agg [Zl8 bs 124 4 (Int.ofNat (Zen (bs.take 124))),.int .i64 (124+4),.int .i64 (Zqf bs 124 4 (Int.ofNat (Zen (bs.take 124))))]) (s':=_) (by
  show (if (0:Int)=0∧(-9223372036854775808≤(124:Int)+4∧(124:Int)+4≤9223372036854775807) then (Option.rec .fail (fun bs=>.ok (.agg [Zl8 bs 124 4 (Int.ofNat (Zen _)),.int .i64 (124+4),.int .i64 (Zqf bs 124 4 _)]) _) (Zbf St0 (.fz 128 c (bys bs))):RV) else .fail)=_
  rw [if_pos (by decide),Zdh hl hb]) ?_
 conv=>whnf
 exact k _
end Go.AM
set_option maxRecDepth 100000
namespace Go.AM
attribute [local irreducible] W
open X
theorem Ya0 {bs:List Nat}{a z n:Int}(h1:¬ (bs.length≠0∧bs.length≠128)) (h2:Zg1 a z n=true):Zl8 bs a z n=.fz 128 (some 128) (bys (Zb8 (pad bs) a.toNat n.toNat z.toNat))∧Zqf bs a z n=0:=by
 unfold Zl8 Zqf
 rw [if_neg h1,if_pos h2,if_neg h1,if_pos h2];exact ⟨rfl,rfl⟩
noncomputable def Zxu (args:List AV) (s:St):RV:=match args with
 | [.agg [.fz 128 c l,.int .i64 a,.int .i64 er]]=>if er=0 then Option.rec .fail (fun bs=>if bs.length=128 then .ok (.tup [Zl8 bs 124 4 (Int.ofNat (Zen (bs.take 124))),.int .i64 (Zqf bs 124 4 (Int.ofNat (Zen (bs.take 124))))]) s else .fail) (Zbm l) else .fail
 | _=>.fail
theorem Yfh {P:Program}{e:Env}{fn:Func}(hE:EnvOk P e) (hm:P.follows .mixedOrders=true) (h67:Inl e 67 Zsw [.tmp 2]) (h107:Con e 107 Zjh) (h128:Con e 128 Zo1) (hf:P.funcs[129]?=some fn) (hc:Zaj P fn=some a129) (hb:Zaf P 129):OvOk P 129 Zxu:=by
 refine ⟨hb,fun args s v s' h=>?_⟩
 unfold Zxu at h
 split at h
 ·rename_i c l a er
  split at h
  ·rename_i hcnd
   subst hcnd
   obtain ⟨bs,hbs,h⟩:=Za3 h
   split at h
   ·rename_i hlen
    obtain ⟨rfl,rfl⟩:=Zau h
    obtain ⟨rfl,hlt⟩:=Zjq hbs
    have hu:AM.hf (.tup [Zl8 bs 124 4 (Int.ofNat (Zen (bs.take 124))),.int .i64 (Zqf bs 124 4 (Int.ofNat (Zen (bs.take 124))))])=true:=by
     show (AM.hf (Zl8 _ _ _ _) && _)=true
     rcases Zk3 bs 124 4 (Int.ofNat (Zen (bs.take 124))) with h|⟨m,c,l,h⟩ <;> rw [h] <;> rfl
    refine Zth rfl hu ?_ s
    exact C.of_V hE hm hf hc (Yff P e hE hm h67 h107 h128 bs hlen hlt c a _ (fun s=>.plain _ hu))
   ·cases h
  ·cases h
 ·cases h
end Go.AM
set_option maxRecDepth 100000
namespace Go.AM
attribute [local irreducible] W
open X
def Yc6:AC:=match a160 with|.mk c _=>c
def code127:AC:=match a127 with|.mk c _=>c
def code84:AC:=match a84 with|.mk c _=>c
def Ybg (n:Int):Bool:=decide (1≤n∧n≤2147483648)
def Zrk (age seq tail:Int):Bool:=Ybg age && Ybg seq && decide (0≤tail∧tail<255)
theorem Ybf (e:Env) (s:St) (n:Int) (h0:0≤n∧n<4294967296) (K:AV→St→Prop) (h:K (.bool (Ybg n)) s):VE e Yc6 (Zax [.int .u32 n] 0 .lf) s none [] (Zfa [.tmp 2] K):=by
 unfold Ybg at h
 conv=>whnf
 repeat' (first|((refine w1 rfl rfl ?_ ?_) <;> intro _ <;> first|(exfalso;omega)|(conv=>whnf))|(refine w11 rfl rfl ?_;conv=>whnf)|fail)
 ·rw [decide_eq_true (by omega)] at h;exact h
 ·rw [decide_eq_false (by omega)] at h;exact h
structure Sup where
 id:Int
 age:Int
 seq:Int
 tail:Int
def Sup.ok (x:Sup):Prop:=(0≤x.id∧x.id<4294967296)∧(0≤x.age∧x.age<4294967296)∧(0≤x.seq∧x.seq<4294967296)
def Sup.v (x:Sup):AV:=.agg [.int .u32 x.id,.int .u32 x.age,.int .u32 x.seq,.int .i64 x.tail]
def Sup.b (x:Sup):Bool:=Zrk x.age x.seq x.tail
theorem Sup.inj {x y:Sup}(h:x.v=y.v):x=y:=by
 obtain ⟨a,b,c,d⟩:=x
 obtain ⟨a',b',c',d'⟩:=y
 simp [Sup.v] at h
 obtain ⟨rfl,rfl,rfl,rfl⟩:=h;rfl
def chkF:Fam Sup:=⟨Sup.ok,fun x=>[x.v],fun x=>.int .i64 (if x.b then 0 else 8),fun x y _ _ h=>by rw [Sup.inj (List.cons.inj h).1]⟩
theorem chkF_ok {P:Program}{e:Env}{fn:Func}(hE:EnvOk P e) (hm:P.follows .mixedOrders=true) (h160:Inl e 160 Yc6 [.tmp 2]) (hf:P.funcs[127]?=some fn) (hc:Zaj P fn=some a127) (hb:Zaf P 127):OvOk P 127 chkF.O:=by
 refine Zal hb ?_
 rintro ⟨id,age,seq,tail⟩ ⟨hi,ha,hq⟩
 dsimp only at hi ha hq
 refine ⟨rfl,rfl,C.of_V hE hm hf hc ?_⟩
 have fin:∀ s (b:Bool),b=Zrk age seq tail→Frz s (.int .i64 (if b then 0 else 8)) (chkF.out ⟨id,age,seq,tail⟩):=by
  rintro s b rfl;exact .plain _ rfl
 unfold Zrk at fin
 show VW P e 0 code127 (Zax [AV.agg [.int .u32 id,.int .u32 age,.int .u32 seq,.int .i64 tail]] 0 .lf) St0 none [] _
 conv=>whnf
 refine ESc.inl h160 (Ybf e _ age ha _ ?_)
 cases h1:Ybg age <;> rw [h1] at fin <;> conv=>whnf
 ·exact fin _ false rfl
 refine ESc.inl h160 (Ybf e _ seq hq _ ?_)
 cases h2:Ybg seq <;> rw [h2] at fin <;> conv=>whnf
 ·exact fin _ false rfl
 repeat' (first|((first|refine w1 rfl rfl ?_ ?_|refine w4 rfl rfl ?_ ?_) <;> intro _ <;> first|(exfalso;omega)|(conv=>whnf))|fail)
 ·exact fin _ true (by rw [decide_eq_true (by omega)];rfl)
 ·exact fin _ false (by rw [decide_eq_false (by omega)];rfl)
 ·exact fin _ false (by rw [decide_eq_false (by omega)];rfl)
theorem Zrz {a z:Int}{n:Nat}(h:Zfu a z=true) (h1:n<2^(8*z.toNat)):Zg1 a z n=true:=by
 unfold Zg1
 rw [h,decide_eq_true];rfl
 exact ⟨by omega,Nat.div_eq_of_lt h1⟩
theorem Zc0 {bs:List Nat}(h:bs.length=128):pad bs=bs:=by
 unfold pad;rw [if_neg];intro e;subst e;cases h
theorem Yc0 {bs:List Nat}{a z n:Int}(hl:bs.length=128) (h:Zg1 a z n=true):Zl8 bs a z n=.fz 128 (some 128) (bys (Zb8 bs a.toNat n.toNat z.toNat))∧Zqf bs a z n=0:=by
 have:=Ya0 (bs:=bs) (a:=a) (z:=z) (n:=n) (by omega) h
 rw [Zc0 hl] at this;exact this
def Zxm (id age seq tail:Nat):List Nat:=Zb8 (Zb8 (Zb8 (Zb8 (Zb8 (List.replicate 128 0) 0 83 1) 1 id 4) 5 age 4) 9 seq 4) 13 tail 1
def Zeo (id age seq tail:Nat):List Nat:=Zb8 (Zxm id age seq tail) 124 (Zen ((Zxm id age seq tail).take 124)) 4
theorem Zaz {bs:List Nat}{a n:Nat}(hb:∀ b ∈ bs,b<256):∀ i,∀ b ∈ Zb8 bs a n i,b<256
 | 0=>hb
 | i+1=>fun b h=>by
  rcases List.mem_or_eq_of_mem_set h with h|rfl
  ·exact Zaz hb i b h
  ·exact Nat.mod_lt _ (by decide)
theorem Zkl {bs:List Nat}{a z n:Int}{s:St}{v:AV}(hv:Zbf St0 v=some bs) (hl:bs.length=128) (ha:0≤a∧a<200∧0≤z∧z<10) (h:Zg1 a z n=true):
 Zo1 [.agg [v,.int .i64 a,.int .i64 0],.int .i64 n,.int .i64 z] s=.ok (.agg [.fz 128 (some 128) (bys (Zb8 bs a.toNat n.toNat z.toNat)),.int .i64 (a+z),.int .i64 0]) s:=by
 show (if (0:Int)=0∧(-9223372036854775808≤a+z∧a+z≤9223372036854775807) then (Option.rec .fail (fun bs=>.ok (.agg [Zl8 bs a z n,.int .i64 (a+z),.int .i64 (Zqf bs a z n)]) s) (Zbf St0 v):RV) else .fail)=_
 rw [if_pos ⟨rfl,by omega⟩,hv]
 obtain ⟨e1,e2⟩:=Yc0 hl h
 show RV.ok (.agg [Zl8 bs a z n,.int .i64 (a+z),.int .i64 (Zqf bs a z n)]) s=_
 rw [e1,e2]
theorem Zyx {n:Int}{s:St}(h:Zg1 0 1 n=true):
 Zo1 [.agg [.nils,.int .i64 0,.int .i64 0],.int .i64 n,.int .i64 1] s=.ok (.agg [.fz 128 (some 128) (bys (Zb8 (List.replicate 128 0) 0 n.toNat 1)),.int .i64 1,.int .i64 0]) s:=by
 show (if (0:Int)=0∧(-9223372036854775808≤(0:Int)+1∧(0:Int)+1≤9223372036854775807) then (Option.rec .fail (fun bs=>.ok (.agg [Zl8 bs 0 1 n,.int .i64 (0+1),.int .i64 (Zqf bs 0 1 n)]) s) (Zbf St0 .nils):RV) else .fail)=_
 rw [if_pos (by decide)]
 show RV.ok (.agg [Zl8 [] 0 1 n,.int .i64 (0+1),.int .i64 (Zqf [] 0 1 n)]) s=_
 obtain ⟨e1,e2⟩:=Ya0 (bs:=[]) (a:=0) (z:=1) (n:=n) (by simp) h
 rw [e1,e2];rfl
theorem Yaf {bs:List Nat}{s:St}{c:Option Nat}{a:Int}(hl:bs.length=128) (hb:∀ b ∈ bs,b<256):
 Zxu [.agg [.fz 128 c (bys bs),.int .i64 a,.int .i64 0]] s=.ok (.tup [.fz 128 (some 128) (bys (Zb8 bs 124 (Zen (bs.take 124)) 4)),.int .i64 0]) s:=by
 show (if (0:Int)=0 then (Option.rec .fail (fun bs=>if bs.length=128 then .ok (.tup [Zl8 bs 124 4 (Int.ofNat (Zen (bs.take 124))),.int .i64 (Zqf bs 124 4 (Int.ofNat (Zen (bs.take 124))))]) s else .fail) (Zbm (bys bs)):RV) else .fail)=_
 rw [if_pos rfl,Zll hb]
 show (if bs.length=128 then RV.ok (.tup [Zl8 bs 124 4 (Int.ofNat (Zen (bs.take 124))),.int .i64 (Zqf bs 124 4 (Int.ofNat (Zen (bs.take 124))))]) s else .fail)=_
 rw [if_pos hl]
 have hs:Zen (bs.take 124)<4294967296:=Nat.xor_lt_two_pow (n:=32) (Zg7 (fun b hb'=>hb b (List.mem_of_mem_take hb')) (by decide)) (by decide)
 obtain ⟨e1,e2⟩:=Yc0 (a:=124) (z:=4) (n:=Int.ofNat (Zen (bs.take 124))) hl (Zrz (by decide) hs)
 rw [e1,e2];rfl
def wrF:Fam Sup:=⟨Sup.ok,fun x=>[x.v],fun x=>if x.b then .tup [.fz 128 (some 128) (bys (Zeo x.id.toNat x.age.toNat x.seq.toNat x.tail.toNat)),.int .i64 0] else .tup [.nils,.int .i64 8],fun x y _ _ h=>by rw [Sup.inj (List.cons.inj h).1]⟩
theorem wrF_ok {P:Program}{e:Env}{fn:Func}(hE:EnvOk P e) (hm:P.follows .mixedOrders=true) (h127:Con e 127 chkF.O) (h128:Con e 128 Zo1) (h129:Con e 129 Zxu) (hf:P.funcs[84]?=some fn) (hc:Zaj P fn=some a84) (hb:Zaf P 84):OvOk P 84 wrF.O:=by
 refine Zal hb ?_
 rintro ⟨id,age,seq,tail⟩ ⟨hi,ha,hq⟩
 dsimp only at hi ha hq
 refine ⟨rfl,by unfold wrF;dsimp only;split <;> rfl,C.of_V hE hm hf hc ?_⟩
 cases hB:Zrk age seq tail
 ·rw [show wrF.out ⟨id,age,seq,tail⟩=.tup [.nils,.int .i64 8] by simp [wrF,Sup.b,hB]]
  conv=>whnf
  refine ESc.fam chkF h127 ⟨id,age,seq,tail⟩ ⟨hi,ha,hq⟩ (u:=.int .i64 8) (by simp [chkF,Sup.b,hB]) ?_;conv=>whnf
  repeat' (first|((refine w6 rfl rfl ?_ ?_) <;> intro _ <;> first|(exfalso;omega)|(conv=>whnf))|fail)
  exact .plain _ rfl
 ·rw [show wrF.out ⟨id,age,seq,tail⟩=.tup [.fz 128 (some 128) (bys (Zeo id.toNat age.toNat seq.toNat tail.toNat)),.int .i64 0] by simp [wrF,Sup.b,hB]]
  have ht:0≤tail∧tail<255:=by
   unfold Zrk at hB;simp at hB;omega
  obtain ⟨I,rfl⟩:∃ I:Nat,id=I:=⟨id.toNat,by omega⟩
  obtain ⟨A,rfl⟩:∃ I:Nat,age=I:=⟨age.toNat,by omega⟩
  obtain ⟨Q,rfl⟩:∃ I:Nat,seq=I:=⟨seq.toNat,by omega⟩
  obtain ⟨T,rfl⟩:∃ I:Nat,tail=I:=⟨tail.toNat,by omega⟩
  simp only [Int.toNat_natCast]
  have l0:(List.replicate 128 0:List Nat).length=128:=by simp
  have b0:∀ b ∈ (List.replicate 128 0:List Nat),b<256:=fun b h=>by rw [List.eq_of_mem_replicate h];decide
  show VW P e 0 code84 (Zax [AV.agg [.int .u32 (I:Int),.int .u32 (A:Int),.int .u32 (Q:Int),.int .i64 (T:Int)]] 0 .lf) St0 none [] _
  conv=>whnf
  refine ESc.fam chkF h127 ⟨I,A,Q,T⟩ ⟨hi,ha,hq⟩ (u:=.int .i64 0) (by simp [chkF,Sup.b,hB]) ?_;conv=>whnf
  repeat' (first|((refine w6 rfl rfl ?_ ?_) <;> intro _ <;> first|(exfalso;omega)|(conv=>whnf))|(refine w14 (q':=.i64) rfl (i64_in (by omega)) ?_;conv=>whnf)|fail)
  refine ESc.ov h128 (Zyx (n:=83) (by decide)) ?_;conv=>whnf
  repeat' (first|(refine ⟨rfl,?_⟩;conv=>whnf)|fail)
  refine ESc.ov h128 (Zkl (Zdh (by rw [Zat];exact l0) (Zaz b0 _)) (by rw [Zat];exact l0) (by decide) (Zrz (by decide) (by show I<4294967296;omega))) ?_;conv=>whnf
  repeat' (first|(refine ⟨rfl,?_⟩;conv=>whnf)|fail)
  refine ESc.ov h128 (Zkl (Zdh (by simp only [Zat];exact l0) (Zaz (Zaz b0 _) _)) (by simp only [Zat];exact l0) (by decide) (Zrz (by decide) (by show A<4294967296;omega))) ?_;conv=>whnf
  repeat' (first|(refine ⟨rfl,?_⟩;conv=>whnf)|fail)
  refine ESc.ov h128 (Zkl (Zdh (by simp only [Zat];exact l0) (Zaz (Zaz (Zaz b0 _) _) _)) (by simp only [Zat];exact l0) (by decide) (Zrz (by decide) (by show Q<4294967296;omega))) ?_;conv=>whnf
  repeat' (first|(refine ⟨rfl,?_⟩;conv=>whnf)|fail)
  refine ESc.ov h128 (Zkl (Zdh (by simp only [Zat];exact l0) (Zaz (Zaz (Zaz (Zaz b0 _) _) _) _)) (by simp only [Zat];exact l0) (by decide) (Zrz (by decide) (by show T<256;omega))) ?_;conv=>whnf
  refine ESc.ov h129 (Yaf (by simp only [Zat];exact l0) (Zaz (Zaz (Zaz (Zaz (Zaz b0 _) _) _) _) _)) ?_;conv=>whnf
  exact .plain _ rfl
end Go.AM
set_option maxRecDepth 100000
namespace Go.AM
open X
theorem Zb9 {s:St}{v:AV}{bs:List Nat}(h:Sl 1 bs.length (bys bs) v) (hb:∀ b ∈ bs,b<256):Zbf s v=some bs:=by
 rcases h with ⟨rfl,h0,_⟩|⟨rfl,h0,_⟩|⟨c,rfl,_⟩
 ·rw [List.length_eq_zero_iff.1 h0];rfl
 ·rw [List.length_eq_zero_iff.1 h0];rfl
 ·exact Zdh rfl hb
theorem Zbw {s:St}{v:AV}{bs:List Nat}{a z:Int}(h:Zbf s v=some bs) (hl:¬ (bs.length≠0∧bs.length≠128)) (hf:Zfu a z=true):Zjv [v,.int .i64 a,.int .i64 z] s=.ok (.tup [.int .i64 (num (pad bs) a.toNat z.toNat:Nat),.int .i64 0]) s:=by
 show (Option.rec .fail (fun bs=>.ok (Zje bs a z) s) (Zbf s v):RV)=_
 rw [h]
 show RV.ok (Zje bs a z) s=_
 unfold Zje;rw [if_neg hl,if_pos hf];rfl
theorem Zfs {bs:List Nat}{a:Nat}(hb:∀ b ∈ bs,b<256):∀ j,num bs a j<2^(8*j)
 | 0=>Nat.zero_lt_one
 | j+1=>by
  have hlt:bs.getD (a+j) 0<256:=by
   rw [List.getD_eq_getElem?_getD]
   cases hq:bs[a+j]? with
   | none=>decide
   | some q=>exact hb q (List.mem_of_getElem? hq)
  have e8:8*(j+1)=8*j+8:=by omega
  refine Nat.or_lt_two_pow (Nat.lt_of_lt_of_le (Zfs hb j) (Nat.pow_le_pow_right (by decide) (by omega))) ?_
  rw [e8,Nat.pow_add,Nat.mul_comm]
  exact Nat.mul_lt_mul_of_pos_left hlt (Nat.two_pow_pos _)
theorem Zf9 {bs:List Nat}(hb:∀ b ∈ bs,b<256):∀ b ∈ pad bs,b<256:=by
 unfold pad
 split
 ·intro b hb';rw [List.eq_of_mem_replicate hb'];decide
 ·exact hb
theorem Zcm (bs:List Nat) (a n:Nat):∀ (k i:Nat),(Zb8 bs a n k).getD i 0=if a≤i∧i<a+k∧i<bs.length then n / 2^(8*(i-a)) % 256 else bs.getD i 0
 | 0,i=>by rw [if_neg (by omega)];rfl
 | k+1,i=>by
  have ih:=Zcm bs a n k i
  show ((Zb8 bs a n k).set (a+k) (n / 2^(8*k) % 256)).getD i 0=_
  rw [List.getD_eq_getElem?_getD,List.getElem?_set,Zat]
  by_cases h:a+k=i
  ·subst h
   rw [if_pos rfl]
   by_cases hl:a+k<bs.length
   ·rw [if_pos hl,if_pos ⟨by omega,by omega,hl⟩,show a+k-a=k by omega];rfl
   ·rw [if_neg hl,if_neg (by omega),List.getD_eq_getElem?_getD,List.getElem?_eq_none (by omega)]
  ·rw [if_neg h,← List.getD_eq_getElem?_getD,ih]
   by_cases h2:a≤i∧i<a+k∧i<bs.length
   ·rw [if_pos h2,if_pos ⟨h2.1,by omega,h2.2.2⟩]
   ·rw [if_neg h2,if_neg (by omega)]
theorem Zr3 {bs:List Nat}{a n:Nat}:∀ (k:Nat),(∀ j,j<k→bs.getD (a+j) 0=n / 2^(8*j) % 256)→num bs a k=n % 2^(8*k)
 | 0,_=>by rw [Nat.mul_zero,Nat.pow_zero,Nat.mod_one];rfl
 | k+1,h=>by
  show num bs a k ||| bs.getD (a+k) 0*2^(8*k)=_
  rw [Zr3 k (fun j hj=>h j (by omega)),h k (by omega),Nat.or_comm,Nat.mul_comm (n / 2^(8*k) % 256),← Nat.two_pow_add_eq_or_of_lt (Nat.mod_lt _ (Nat.two_pow_pos _)),show 8*(k+1)=8*k+8 by omega,Nat.pow_add,Nat.mod_mul,Nat.add_comm]
theorem num_put {bs:List Nat}{a n k:Nat}(hl:a+k≤bs.length) (hn:n<2^(8*k)):num (Zb8 bs a n k) a k=n:=by
 rw [Zr3 (n:=n) k (fun j hj=>?_),Nat.mod_eq_of_lt hn]
 rw [Zcm,if_pos ⟨by omega,by omega,by omega⟩,show a+j-a=j by omega]
theorem Zr2 {bs cs:List Nat}{a:Nat}:∀ (k:Nat),(∀ j,j<k→bs.getD (a+j) 0=cs.getD (a+j) 0)→num bs a k=num cs a k
 | 0,_=>rfl
 | k+1,h=>by
  show num bs a k ||| bs.getD (a+k) 0*2^(8*k)=num cs a k ||| cs.getD (a+k) 0*2^(8*k)
  rw [Zr2 k (fun j hj=>h j (by omega)),h k (by omega)]
theorem Zmi {bs:List Nat}{a b n k m:Nat}(h:b+m≤a∨a+k≤b):num (Zb8 bs a n k) b m=num bs b m:=
 Zr2 m fun j hj=>by rw [Zcm,if_neg (by omega)]
end Go.AM
set_option maxRecDepth 100000
namespace Go.AM
attribute [local irreducible] W
open X
def Yh7:AC:=match a41 with|.mk (.seq _ (.seq _ r)) _=>r|_=>.skip
def z4:List AV:=[.int .u32 0,.int .u32 0,.int .u32 0,.int .i64 0]
def pl:Nat→Int
 | 0=>1
 | 1=>5
 | _=>9
def ent (i j:Nat):AV×AV×Nat:=(.ptr 0 i,.int .i64 (pl i),j)
def Zki:List Nat→Nat→List (AV×AV×Nat)
 | [],_=>[]
 | i::L,n=>ent i n::Zki L (n+1)
theorem Zn9:∀ (L:List Nat) (i n:Nat),Zki (L++[i]) n=Zki L n++[ent i (n+L.length)]
 | [],i,n=>rfl
 | x::L,i,n=>by
  show ent x n::Zki (L++[i]) (n+1)=ent x n::(Zki L (n+1)++_)
  rw [Zn9 L i (n+1),List.length_cons,Nat.add_assoc,Nat.add_comm 1]
theorem mem_ents:∀ {L:List Nat}{n:Nat}{e:AV×AV×Nat},e ∈ Zki L n↔∃ j i,L[j]?=some i∧e=ent i (n+j)
 | [],n,e=>by simp [Zki]
 | x::L,n,e=>by
  show e ∈ ent x n::Zki L (n+1)↔_
  rw [List.mem_cons,mem_ents]
  constructor
  ·rintro (rfl|⟨j,i,h,rfl⟩)
   ·exact ⟨0,x,rfl,rfl⟩
   ·exact ⟨j+1,i,by simpa using h,by rw [Nat.add_assoc,Nat.add_comm 1]⟩
  ·rintro ⟨j,i,h,rfl⟩
   cases j with
   | zero=>simp at h;subst h;exact .inl rfl
   | succ j=>exact .inr ⟨j,i,by simpa using h,by rw [Nat.add_assoc,Nat.add_comm 1]⟩
def hasI (L seen:List Nat) (i:Nat):Bool:=seen.any fun j=>decide (L[j]?=some i)
theorem Zz1 {s:St}{v:AV}{bs:List Nat}{a z:Int}(h:Zbf s v=some bs) (hl:bs.length≠0∧bs.length≠128):Zjv [v,.int .i64 a,.int .i64 z] s=.ok (.tup [.int .i64 0,.int .i64 3]) s:=by
 show (Option.rec .fail (fun bs=>.ok (Zje bs a z) s) (Zbf s v):RV)=_
 rw [h]
 show RV.ok (Zje bs a z) s=_
 unfold Zje;rw [if_pos hl]
def Zcl (bs:List Nat):Nat×Nat×Nat×Nat:=(num (pad bs) 1 4,num (pad bs) 5 4,num (pad bs) 9 4,num (pad bs) 13 1)
def Yel (bs:List Nat):Bool:=Zrk (Zcl bs).2.1 (Zcl bs).2.2.1 (Zcl bs).2.2.2 && decide (Zeo (Zcl bs).1 (Zcl bs).2.1 (Zcl bs).2.2.1 (Zcl bs).2.2.2=bs)
def Zou (bs:List Nat):AV:=
 if bs.length≠0∧bs.length≠128 then .tup [.agg z4,.int .i64 3]
 else if Yel bs=true then .tup [.agg [.int .u32 ((Zcl bs).1:Int),.int .u32 ((Zcl bs).2.1:Int),.int .u32 ((Zcl bs).2.2.1:Int),.int .i64 ((Zcl bs).2.2.2:Int)],.int .i64 0]
 else .tup [.agg z4,.int .i64 90]
theorem Zjx (a b c d:Nat):(Zeo a b c d).length=128:=by
 unfold Zeo Zxm;simp only [Zat];simp
theorem Zrj (a b c d:Nat):∀ x ∈ Zeo a b c d,x<256:=by
 unfold Zeo Zxm
 refine Zaz (Zaz (Zaz (Zaz (Zaz (Zaz ?_ _) _) _) _) _) _
 intro b h;rw [List.eq_of_mem_replicate h];decide
theorem Zmj:∀ (n:Nat) (l:List Nat),l.Nodup→(∀ x ∈ l,x<n)→l.length≤n
 | 0,l,_,h=>by
  cases l with
  | nil=>simp
  | cons x l=>have:=h x (by simp);omega
 | n+1,l,hn,h=>by
  by_cases hm:n ∈ l
  ·have h1:=Zmj n (l.erase n) (hn.erase n) (fun x hx=>by
    have:=(hn.mem_erase_iff).1 hx
    have:=h x this.2
    omega)
   rw [List.length_erase_of_mem hm] at h1;omega
  ·have:=Zmj n l hn (fun x hx=>by
    have:=h x hx
    have:x≠n:=fun e=>hm (e ▸ hx)
    omega)
   omega
theorem Zmu {n:Nat}(h:0<n):∀ (L:List Nat) (m:Nat),bdE n (Zki L m)=true
 | [],m=>rfl
 | i::L,m=>by
  show (Nat.blt 0 n && true && bdE n (Zki L (m+1)))=true
  rw [Zmu h L (m+1),show Nat.blt 0 n=true by simpa using h];rfl
theorem Zj9 {ρ:Nat→Nat}(h:ρ 0=0):∀ (L:List Nat) (m:Nat),Yge ρ (Zki L m)=Zki L m
 | [],m=>rfl
 | i::L,m=>by
  show (AV.ptr (ρ 0) i,AV.int .i64 (pl i),m)::Yge ρ (Zki L (m+1))=_
  rw [Zj9 h L (m+1),h];rfl
theorem Zy2 {L:List Nat}{j i:Nat}(h:L[j]?=some i):∀ m,Zu4 (m+j) (Zki L m)=some (ent i (m+j)):=by
 intro m
 induction L generalizing j m with
 | nil=>simp at h
 | cons x L ih=>
  show (Bool.rec (Zu4 (m+j) (Zki L (m+1))) (some (ent x m)) (Nat.beq m (m+j)):Option (AV×AV×Nat))=_
  cases j with
  | zero=>simp at h;subst h;rw [Nat.add_zero,Nat.beq_refl]
  | succ j=>
   rw [show Nat.beq m (m+(j+1))=false by rw [← Bool.not_eq_true];intro e;have:=Nat.eq_of_beq_eq_true e;omega]
   have:=ih (j:=j) (by simpa using h) (m+1)
   rw [show m+1+j=m+(j+1) by omega] at this
   exact this
theorem Zsd:∀ (l:List Nat) (x:Nat),Zyh (l++[x])=some x
 | [],x=>rfl
 | y::l,x=>by
  show (Option.rec (some y) (fun z=>some z) (Zyh (l++[x])):Option Nat)=some x
  rw [Zsd l x]
theorem Zzh {t:AT}{s:St}{k:AV→St→Prop}{x:AO}{ri m since last j:Nat}{seen:List Nat}{es:List (AV×AV×Nat)}{en:AV×AV×Nat}(hx:ev x t=.some (.ptr ri 0)) (hi:s.get ri=some (.iter m since (seen++[j]) last)) (hm:s.get m=some (.map es last)) (hb:Zu4 j es=some en) (hk:k (.tup [en.1,en.2.1]) s):EPrim (.entm x) t s k:=by
 refine EPrim.mk (fun e rec=>?_) hk
 show wth x t _=_;unfold wth;rw [hx]
 show (IT.rec .fail _ (Zpn ri s):RV)=_
 unfold Zpn;rw [hi]
 show (Option.rec .fail _ (Zyh (seen++[j])):RV)=_
 rw [Zsd]
 show (Option.rec .fail _ (mapAt m s):RV)=_
 unfold mapAt;rw [hm]
 show gd (Nat.beq last last) (Option.rec .fail _ (Zu4 j es):RV)=_
 rw [Nat.beq_refl,hb];rfl
theorem Ygo {L seen:List Nat}{j i i':Nat}(h:L[j]?=some i):hasI L (seen++[j]) i'=(hasI L seen i' || decide (i=i')):=by
 unfold hasI
 rw [List.any_append];simp [h]
theorem Yax (P:Program) (e:Env) (hE:EnvOk P e) (hm:P.follows .mixedOrders=true) (h86:Con e 86 Zjv) (h84:Con e 84 wrF.O) (v:AV) (bs:List Nat) (hv:Sl 1 bs.length (bys bs) v) (hb:∀ b ∈ bs,b<256) (L:List Nat) (hL:∀ i,i ∈ L↔i<3) (hn:L.length=3) (hnd:L.Nodup):
 W P 0 none Yh7 (ofL [(0,v),(2,.ptr 0 0),(3,.int .i64 0),(4,.map 1)]) (Zai St0 [.row 46 z4,.map (Zki L 0) 3]) [] (Zfa [.cells 2 4,.tmp 3] (fun u s=>Frz s u (Zou bs))):=by
 obtain ⟨x,hx⟩:∃ x:Nat→Nat,x=fun i=>num (pad bs) (pl i).toNat 4:=⟨_,rfl⟩
 have hxl:∀ i,x i<4294967296:=fun i=>by rw [hx];exact Zfs (Zf9 hb) 4
 obtain ⟨cel,hcel⟩:∃ cel:List Nat→Nat→Int,cel=fun seen i=>if hasI L seen i then (x i:Int) else 0:=⟨_,rfl⟩
 refine Zap hE hm ?_;conv=>whnf
 refine EPrim.mk (v:=.ptr 2 0) (s':=Zai St0 [.row 46 z4,.map (Zki L 0) 3,.iter 1 3 [] 3]) (fun e rec=>rfl) ?_;conv=>whnf
 refine Zhc (α:=List Nat) (fun seen=>[(0,v),(2,.ptr 0 0),(3,.int .i64 0),(17,.ptr 2 0)]) (fun seen=>[.row 46 [.int .u32 (cel seen 0),.int .u32 (cel seen 1),.int .u32 (cel seen 2),.int .i64 0],.map (Zki L 0) 3,.iter 1 3 seen 3])
  (fun seen=>3-seen.length) (fun seen=>seen.Nodup∧(∀ j ∈ seen,j<3)∧((bs.length≠0∧bs.length≠128)→seen=[])) [] [0,1,2] ⟨by simp,by simp,fun _=>rfl⟩ ⟨by decide,⟨⟨Zbe _ hv.hf,by rw [Zao _ hv.hf];rfl⟩,⟨rfl,rfl⟩,⟨rfl,rfl⟩,⟨rfl,rfl⟩,trivial⟩,⟨⟨rfl,?_⟩,⟨?_,?_⟩,⟨rfl,rfl⟩,trivial⟩⟩ ?_
 ·rw [hcel];rfl
 ·exact Zmu (Nat.succ_pos _) L 0
 ·show _=some (AObj.map (Yge _ (Zki L 0)) 3);rw [Zj9 rfl];rfl
 rintro seen ⟨hsn,hs3,hbad⟩
 refine W.seq (W.next (e:=e) (since:=3) (last:=3) (cl:=3) (seen:=seen) (es:=Zki L 0) (ri:=2) (m:=1) hE hm rfl rfl rfl ?_ (Nat.le_refl _) ?_)
 ·intro en he
  obtain ⟨j,i,hj,rfl⟩:=mem_ents.1 he
  have:=(List.getElem?_eq_some_iff.1 hj).1
  show 0+j<3;omega
 rintro vv s' (⟨hall,rfl,rfl⟩|⟨en,hen,hns,rfl,rfl⟩)
 ·conv=>whnf
  refine Zap hE hm ?_;conv=>whnf
  have hc:∀ i,i<3→cel seen i=x i:=by
   intro i hi
   obtain ⟨j,hj⟩:=List.getElem?_of_mem ((hL i).2 hi)
   have hj':=hall _ (mem_ents.2 ⟨j,i,hj,rfl⟩)
   have h1:hasI L seen i=true:=by
    unfold hasI
    rw [List.any_eq_true]
    exact ⟨j,by simpa [ent] using hj',by simpa using hj⟩
   rw [hcel];simp only [h1];rfl
  rw [hc 0 (by omega),hc 1 (by omega),hc 2 (by omega)]
  have hgood:¬ (bs.length≠0∧bs.length≠128):=by
   intro h
   have h0:=hbad h
   subst h0
   obtain ⟨j,hj⟩:=List.getElem?_of_mem ((hL 0).2 (by decide))
   have:=hall _ (mem_ents.2 ⟨j,0,hj,rfl⟩)
   simp at this
  refine ESc.ov h86 (Zbw (Zb9 hv hb) hgood (by decide)) ?_
  have h13:num (pad bs) 13 1<256:=Zfs (Zf9 hb) 1
  have e0:x 0=(Zcl bs).1:=by rw [hx];rfl
  have e1:x 1=(Zcl bs).2.1:=by rw [hx];rfl
  have e2:x 2=(Zcl bs).2.2.1:=by rw [hx];rfl
  have e3:num (pad bs) (13:Int).toNat (1:Int).toNat=(Zcl bs).2.2.2:=rfl
  have b0:=hxl 0
  have b1:=hxl 1
  have b2:=hxl 2
  rw [e3,e0,e1,e2]
  rw [e0] at b0;rw [e1] at b1;rw [e2] at b2
  have b3:(Zcl bs).2.2.2<256:=h13
  have hV:Zou bs=if Yel bs=true then .tup [.agg [.int .u32 ((Zcl bs).1:Int),.int .u32 ((Zcl bs).2.1:Int),.int .u32 ((Zcl bs).2.2.1:Int),.int .i64 ((Zcl bs).2.2.2:Int)],.int .i64 0] else .tup [.agg z4,.int .i64 90]:=by unfold Zou;rw [if_neg hgood]
  rw [hV]
  unfold Yel
  revert b0 b1 b2 b3
  generalize (Zcl bs).1=I
  generalize (Zcl bs).2.1=A
  generalize (Zcl bs).2.2.1=Q
  generalize (Zcl bs).2.2.2=T
  intro b0 b1 b2 b3
  conv=>whnf
  cases hB:Zrk A Q T
  ·refine ESc.fam wrF h84 ⟨I,A,Q,T⟩ ⟨by simp;omega,by simp;omega,by simp;omega⟩ (u:=.tup [.nils,.int .i64 8]) (by simp [wrF,Sup.b,hB]) ?_;conv=>whnf
   repeat' (first|((refine w6 rfl rfl ?_ ?_) <;> intro _ <;> first|(exfalso;omega)|(conv=>whnf))|fail)
   exact .plain _ rfl
  ·refine ESc.fam wrF h84 ⟨I,A,Q,T⟩ ⟨by simp;omega,by simp;omega,by simp;omega⟩ (u:=.tup [.fz 128 (some 128) (bys (Zeo I A Q T)),.int .i64 0]) (by simp [wrF,Sup.b,hB]) ?_;conv=>whnf
   repeat' (first|((refine w6 rfl rfl ?_ ?_) <;> intro _ <;> first|(exfalso;omega)|(conv=>whnf))|fail)
   refine Zbd (n:=128) rfl (.inr (.inr ⟨_,rfl,by rw [Zan,Zjx]⟩)) (Zrj _ _ _ _) ?_;conv=>whnf
   refine Zbd rfl hv hb ?_;conv=>whnf
   refine Zdb rfl rfl (fun hne=>?_) (fun heq=>?_) <;> conv=>whnf
   ·rw [if_neg (by simp [hne])]
    exact .plain _ rfl
   ·rw [if_pos (by simp [heq])]
    exact .plain _ rfl
 ·obtain ⟨j,i,hj,rfl⟩:=mem_ents.1 hen
  have hj3:=(List.getElem?_eq_some_iff.1 hj).1
  have hi3:i<3:=(hL i).1 (List.mem_of_getElem? hj)
  have hns:j ∉ seen:=by simpa [ent] using hns
  conv=>whnf
  refine Zap hE hm ?_;conv=>whnf
  refine Zzh (seen:=seen) (j:=0+j) (en:=ent i (0+j)) rfl rfl rfl (Zy2 hj 0) ?_;conv=>whnf
  have hfit:Zfu (pl i) 4=true:=by
   rcases i with _|_|_|i <;> first|rfl|omega
  by_cases hlen:bs.length≠0∧bs.length≠128
  ·refine ESc.ov h86 (Zz1 (Zb9 hv hb) hlen) ?_;conv=>whnf
   repeat' (first|((refine w6 rfl rfl ?_ ?_) <;> intro _ <;> first|(exfalso;omega)|(conv=>whnf))|fail)
   unfold Zou
   rw [if_pos hlen]
   exact .plain _ rfl
  ·refine ESc.ov h86 (Zbw (Zb9 hv hb) hlen hfit) ?_
   rw [show num (pad bs) (pl i).toNat (4:Int).toNat=x i by rw [hx];rfl]
   have hxi:=hxl i
   conv=>whnf
   repeat' (first|((refine w6 rfl rfl ?_ ?_) <;> intro _ <;> first|(exfalso;omega)|(conv=>whnf))|(refine w14 (q':=.u32) rfl (Zf2 (by omega)) ?_;conv=>whnf)|fail)
   have hn2:seen.length+1=(seen++[0+j]).length:=by simp
   have key:∀ i',cel (seen++[0+j]) i'=if i=i' then (x i':Int) else cel seen i':=by
    intro i'
    rw [hcel];dsimp only
    rw [Nat.zero_add,Ygo hj]
    by_cases h:i=i' <;> simp [h]
   have hI:(seen++[0+j]).Nodup∧(∀ j' ∈ seen++[0+j],j'<3)∧((bs.length≠0∧bs.length≠128)→seen++[0+j]=[]):=by
    refine ⟨?_,?_,fun h=>absurd h hlen⟩
    ·rw [Nat.zero_add,List.nodup_append]
     exact ⟨hsn,by simp,by rintro a ha b hb rfl;simp at hb;subst hb;exact hns ha⟩
    ·intro j' hj'
     rcases List.mem_append.1 hj' with h|h
     ·exact hs3 j' h
     ·simp at h;omega
   have hlen3:seen.length<3:=by
    have:=Zmj 3 _ hI.1 hI.2.1
    simp at this;omega
   have hab:∀ t s,t.get 0=some v→t.get 2=some (.ptr 0 0)→t.get 3=some (.int .i64 0)→t.get 17=some (.ptr 2 0)→s.get 0=some (.row 46 [.int .u32 (cel (seen++[0+j]) 0),.int .u32 (cel (seen++[0+j]) 1),.int .u32 (cel (seen++[0+j]) 2),.int .i64 0])→s.get 1=some (.map (Zki L 0) 3)→s.get 2=some (.iter 1 3 (seen++[0+j]) 3)→
    Abs t s [(0,v),(2,.ptr 0 0),(3,.int .i64 0),(17,.ptr 2 0)] [.row 46 [.int .u32 (cel (seen++[0+j]) 0),.int .u32 (cel (seen++[0+j]) 1),.int .u32 (cel (seen++[0+j]) 2),.int .i64 0],.map (Zki L 0) 3,.iter 1 3 (seen++[0+j]) 3] [0,1,2]:=by
    intro t s h0 h2 h3 h17 g0 g1 g2
    refine ⟨by decide,⟨⟨Zbe _ hv.hf,by rw [Zao _ hv.hf];exact h0⟩,⟨rfl,h2⟩,⟨rfl,h3⟩,⟨rfl,h17⟩,trivial⟩,⟨⟨rfl,g0⟩,⟨Zmu (Nat.succ_pos _) L 0,?_⟩,⟨rfl,g2⟩,trivial⟩⟩
    show _=some (AObj.map (Yge _ (Zki L 0)) 3);rw [Zj9 rfl];exact g1
   rcases i with _|_|_|i
   ·conv=>whnf
    refine ⟨rfl,seen++[0+j],hI,by omega,[0,1,2],hab _ _ rfl rfl rfl rfl ?_ rfl rfl⟩
    rw [key 0,key 1,key 2];rfl
   ·conv=>whnf
    refine ⟨rfl,seen++[0+j],hI,by omega,[0,1,2],hab _ _ rfl rfl rfl rfl ?_ rfl rfl⟩
    rw [key 0,key 1,key 2];rfl
   ·conv=>whnf
    refine ⟨rfl,seen++[0+j],hI,by omega,[0,1,2],hab _ _ rfl rfl rfl rfl ?_ rfl rfl⟩
    rw [key 0,key 1,key 2];rfl
   ·omega
structure MapReg (P:Program) (N:Nat) (ops:Array Oper):Prop where
 size:ops.size=9
 back:Zia ops.toList 0=true
 op:∀ (i d:Nat) (p:AOp) (pre:List Nat),[(12,AOp.mkmap,[]),(13,.fa 0 (.t 2),[]),(0,.msetp (.t 11) (.t 12) (.c (.int .i64 1)),[0,1]),(14,.fa 1 (.t 2),[]),(0,.msetp (.t 11) (.t 13) (.c (.int .i64 5)),[0,3]),(15,.fa 2 (.t 2),[]),(0,.msetp (.t 11) (.t 14) (.c (.int .i64 9)),[0,5]),(16,.mv (.t 11),[0,1,2,3,4,5,6]),(5,.mv (.t 15),[7])][i]?=some (d,p,pre)→
  ∃ o,ops[i]?=some o∧Zc9 N o.dst=some d∧Zh8 P o=some p∧o.guard=none∧∀ j ∈ pre,∃ e ∈ o.after.toList,Region.binds .any e=true∧e.on=j
structure MapJ (v:AV) (D:Nat→Prop) (t:AT) (s:St):Prop where
 t0:t.get 0=some v
 t2:t.get 2=some (.ptr 0 0)
 t3:t.get 3=some (.int .i64 0)
 r0:s.get 0=some (.row 46 z4)
 m0:¬ D 0→s.next=1∧¬ D 2∧¬ D 4∧¬ D 6
 m1:D 0→t.get 11=some (.map 1)∧s.next=2∧∃ L:List Nat,L.Nodup∧(∀ i,i ∈ L↔i<3∧D (2+2*i))∧s.get 1=some (.map (Zki L 0) L.length)
 f0:D 1→t.get 12=some (.ptr 0 0)
 f1:D 3→t.get 13=some (.ptr 0 1)
 f2:D 5→t.get 14=some (.ptr 0 2)
 m7:D 7→t.get 15=some (.map 1)
 m8:D 8→t.get 4=some (.map 1)
theorem Zj3 {i:Nat}:∀ {L:List Nat}{n:Nat},i ∉ L→othK 0 i (Zki L n)=true
 | [],n,_=>rfl
 | x::L,n,h=>by
  show (Bool.rec (othK 0 i (Zki L (n+1))) false (Nat.beq i x):Bool)=true
  rw [show Nat.beq i x=false by rw [← Bool.not_eq_true];intro e;exact h (by rw [Nat.eq_of_beq_eq_true e];simp)]
  exact Zj3 (fun e=>h (by simp [e]))
theorem Zif {t:AT}{s:St}{k:AV→St→Prop}{m x y:AO}{rm r o c:Nat}{es:List (AV×AV×Nat)}{v:AV}(hm:ev m t=.some (.map rm)) (hx:ev x t=.some (.ptr r o)) (hy:ev y t=.some v) (hs:s.get rm=some (.map es c)) (ho:othK r o es=true) (hk:k (.tup []) (s.put rm (.map (es++[(.ptr r o,v,c)]) (c+1)))):EPrim (.msetp m x y) t s k:=by
 refine EPrim.mk (fun e rec=>?_) hk
 show wth m t _=_;unfold wth;rw [hm]
 show wth x t _=_;unfold wth;rw [hx]
 show wth y t _=_;unfold wth;rw [hy]
 show (Option.rec .fail _ (mapAt rm s):RV)=_
 unfold mapAt;rw [hs]
 show gd (othK r o es) (.ok (.tup []) (s.put rm (.map (Zgx es [(.ptr r o,v,c)]) (c+1))))=_
 rw [ho,Zda];rfl
theorem Zh5 {t:AT}{i:Nat}{v:AV}(h:t.get i=some v):ev (.t i) t=.some v:=by
 show (Option.rec .none (fun v=>.some v) (t.get i):OV)=_;rw [h]
theorem MapJ.tmp {v:AV}{D D':Nat→Prop}{t:AT}{s:St}(h:MapJ v D t s) {d:Nat}{u:AV}(hd:d≠0∧d≠2∧d≠3∧d<1000)
 (h0:D' 0↔D 0) (h2:D' 2↔D 2) (h4:D' 4↔D 4) (h6:D' 6↔D 6) (e11:d≠11)
 (g1:D' 1→(D 1∧d≠12)∨(d=12∧u=.ptr 0 0)) (g3:D' 3→(D 3∧d≠13)∨(d=13∧u=.ptr 0 1)) (g5:D' 5→(D 5∧d≠14)∨(d=14∧u=.ptr 0 2))
 (g7:D' 7→(D 7∧d≠15)∨(d=15∧u=.map 1)) (g8:D' 8→(D 8∧d≠4)∨(d=4∧u=.map 1)):MapJ v D' (t.set u d) s:=by
 have key:∀ (i:Nat) (A B:Prop) (w:AV),(A→(B∧d≠i)∨(d=i∧u=w))→(B→t.get i=some w)→A→(t.set u d).get i=some w:=by
  intro i A B w hg hb ha
  rcases hg ha with ⟨hB,hne⟩|⟨rfl,rfl⟩
  ·exact Zbh (fun e=>hne e.symm) (hb hB)
  ·exact Ze2 _ _ (by omega)
 refine ⟨Zbh (by omega) h.t0,Zbh (by omega) h.t2,Zbh (by omega) h.t3,h.r0,?_,?_,key 12 _ _ _ g1 h.f0,key 13 _ _ _ g3 h.f1,key 14 _ _ _ g5 h.f2,key 15 _ _ _ g7 h.m7,key 4 _ _ _ g8 h.m8⟩
 ·intro hn;rw [h2,h4,h6];exact h.m0 (fun e=>hn (h0.2 e))
 ·intro hD
  obtain ⟨a,b,L,c1,c2,c3⟩:=h.m1 (h0.1 hD)
  refine ⟨Zbh (by omega) a,b,L,c1,fun i=>?_,c3⟩
  rw [c2]
  rcases i with _|_|_|i
  ·rw [show 2+2*0=2 from rfl,h2]
  ·rw [show 2+2*(0+1)=4 from rfl,h4]
  ·rw [show 2+2*(0+1+1)=6 from rfl,h6]
  ·constructor <;> intro h <;> omega
theorem MapJ.set {v:AV}{D D':Nat→Prop}{t:AT}{s:St}(h:MapJ v D t s) (hD:D 0) {q:Nat}(hq:q<3) (hn:¬ D (2+2*q)) (hD':∀ j,D' j↔D j∨j=2+2*q) {L:List Nat}(c1:L.Nodup) (c2:∀ i,i ∈ L↔i<3∧D (2+2*i)) (hs:s.next=2) (ht:t.get 11=some (.map 1)):
 MapJ v D' t (s.put 1 (.map (Zki L 0++[(.ptr 0 q,.int .i64 (pl q),L.length)]) (L.length+1))):=by
 have odd:∀ j,j % 2=1∨j=0∨j=8→(D' j↔D j):=fun j hj=>by
  rw [hD'];constructor
  ·rintro (h|h)
   ·exact h
   ·omega
  ·exact .inl
 refine ⟨h.t0,h.t2,h.t3,by rw [Zcg (by decide)];exact h.r0,fun hn=>absurd ((odd 0 (by omega)).2 hD) hn,fun _=>⟨ht,by rw [Zbc];exact hs,L++[q],?_,?_,?_⟩,fun e=>h.f0 ((odd 1 (by omega)).1 e),fun e=>h.f1 ((odd 3 (by omega)).1 e),fun e=>h.f2 ((odd 5 (by omega)).1 e),fun e=>h.m7 ((odd 7 (by omega)).1 e),fun e=>h.m8 ((odd 8 (by omega)).1 e)⟩
 ·rw [List.nodup_append]
  exact ⟨c1,by simp,by rintro a ha b hb rfl;simp at hb;subst hb;exact hn ((c2 _).1 ha).2⟩
 ·intro i
  rw [List.mem_append,c2,hD']
  constructor
  ·rintro (h|h)
   ·exact ⟨h.1,.inl h.2⟩
   ·simp at h;subst h;exact ⟨hq,.inr rfl⟩
  ·rintro ⟨h1,h2|h2⟩
   ·exact .inl ⟨h1,h2⟩
   ·exact .inr (by simp;omega)
 ·rw [Zca (by decide),Zn9,List.length_append]
  simp [ent]
theorem Yfq (P:Program) (e:Env) (hE:EnvOk P e) (hm:P.follows .mixedOrders=true) {N id:Nat}{ops:Array Oper}(hR:MapReg P N ops) (v:AV) (t:AT) (s:St) (hJ:MapJ v (fun _=>False) t s) (Q:EQ)
 (hQ:∀ t s,MapJ v (fun i=>i<9) t s→Q .normal t s []):WC P 0 none N (.region id ops true) t s [] Q:=by
 refine WC.any hE hm hR.back (MapJ v) hJ ?_ ?_
 ·intro D t s i o hJ ho hD hpre
  have hi:i<9:=by have:=(Array.getElem?_eq_some_iff.1 ho).1;rw [hR.size] at this;exact this
  have get:∀ d p pre,[(12,AOp.mkmap,[]),(13,.fa 0 (.t 2),[]),(0,.msetp (.t 11) (.t 12) (.c (.int .i64 1)),[0,1]),(14,.fa 1 (.t 2),[]),(0,.msetp (.t 11) (.t 13) (.c (.int .i64 5)),[0,3]),(15,.fa 2 (.t 2),[]),(0,.msetp (.t 11) (.t 14) (.c (.int .i64 9)),[0,5]),(16,.mv (.t 11),[0,1,2,3,4,5,6]),(5,.mv (.t 15),[7])][i]?=some (d,p,pre)→
   Zc9 N o.dst=some d∧Zh8 P o=some p∧o.guard=none∧∀ j ∈ pre,D j:=by
   intro d p pre h
   obtain ⟨o',h1,h2,h3,h4,h5⟩:=hR.op i d p pre h
   rw [ho] at h1;cases h1
   refine ⟨h2,h3,h4,fun j hj=>?_⟩
   obtain ⟨ed,he1,he2,rfl⟩:=h5 j hj
   exact hpre ed he1 he2
  rcases i with _|_|_|_|_|_|_|_|_|i
  ·obtain ⟨a,b,c,_⟩:=get 12 .mkmap [] rfl
   refine ⟨12,.mkmap,a,b,c,?_⟩
   obtain ⟨n1,n2,n4,n6⟩:=hJ.m0 hD
   show MapJ v _ (t.set (.map s.next) 11) (s.alloc (.map [] 0))
   rw [n1]
   refine ⟨Zbh (by decide) hJ.t0,Zbh (by decide) hJ.t2,Zbh (by decide) hJ.t3,by rw [Zbl (by omega)];exact hJ.r0,fun h=>absurd (.inr rfl) h,fun _=>⟨Ze2 _ _ (by decide),by rw [Zar,n1],[],by simp,fun i=>?_,?_⟩,fun h=>?_,fun h=>?_,fun h=>?_,fun h=>?_,fun h=>?_⟩
   ·constructor
    ·intro h;simp at h
    ·rintro ⟨h1,h2|h2⟩
     ·rcases i with _|_|_|i
      ·exact absurd h2 n2
      ·exact absurd h2 n4
      ·exact absurd h2 n6
      ·omega
     ·omega
   ·have:=Zb4 (s:=s) (o:=.map [] 0) (by omega)
    rw [n1] at this;exact this
   ·exact Zbh (by decide) (hJ.f0 (h.resolve_right (by decide)))
   ·exact Zbh (by decide) (hJ.f1 (h.resolve_right (by decide)))
   ·exact Zbh (by decide) (hJ.f2 (h.resolve_right (by decide)))
   ·exact Zbh (by decide) (hJ.m7 (h.resolve_right (by decide)))
   ·exact Zbh (by decide) (hJ.m8 (h.resolve_right (by decide)))
  ·obtain ⟨a,b,c,_⟩:=get 13 (.fa 0 (.t 2)) [] rfl
   refine ⟨13,.fa 0 (.t 2),a,b,c,?_⟩
   show wV (ev (.t 2) t) _
   rw [Zh5 hJ.t2]
   refine hJ.tmp (d:=12) (u:=.ptr 0 0) (by omega) (by simp) (by simp) (by simp) (by simp) (by omega) ?_ ?_ ?_ ?_ ?_ <;> intro h <;> first|exact .inr ⟨rfl,rfl⟩|exact .inl ⟨h.resolve_right (by omega),by omega⟩
  ·obtain ⟨a,b,c,hp⟩:=get 0 (.msetp (.t 11) (.t 12) (.c (.int .i64 1))) [0,1] rfl
   refine ⟨0,.msetp (.t 11) (.t 12) (.c (.int .i64 1)),a,b,c,?_⟩
   have h0:=hp 0 (by simp)
   obtain ⟨g1,g2,L,c1,c2,c3⟩:=hJ.m1 h0
   have hq:0 ∉ L:=fun h=>hD ((c2 0).1 h).2
   show EPrim (.msetp (.t 11) (.t 12) (.c (.int .i64 1))) t s _
   refine Zif (Zh5 g1) (Zh5 (hJ.f0 (hp 1 (by simp)))) rfl c3 (Zj3 hq) ?_
   exact hJ.set h0 (q:=0) (by decide) hD (fun j=>Iff.rfl) c1 c2 g2 g1
  ·obtain ⟨a,b,c,_⟩:=get 14 (.fa 1 (.t 2)) [] rfl
   refine ⟨14,.fa 1 (.t 2),a,b,c,?_⟩
   show wV (ev (.t 2) t) _
   rw [Zh5 hJ.t2]
   refine hJ.tmp (d:=13) (u:=.ptr 0 1) (by omega) (by simp) (by simp) (by simp) (by simp) (by omega) ?_ ?_ ?_ ?_ ?_ <;> intro h <;> first|exact .inr ⟨rfl,rfl⟩|exact .inl ⟨h.resolve_right (by omega),by omega⟩
  ·obtain ⟨a,b,c,hp⟩:=get 0 (.msetp (.t 11) (.t 13) (.c (.int .i64 5))) [0,3] rfl
   refine ⟨0,.msetp (.t 11) (.t 13) (.c (.int .i64 5)),a,b,c,?_⟩
   have h0:=hp 0 (by simp)
   obtain ⟨g1,g2,L,c1,c2,c3⟩:=hJ.m1 h0
   have hq:1 ∉ L:=fun h=>hD ((c2 1).1 h).2
   show EPrim (.msetp (.t 11) (.t 13) (.c (.int .i64 5))) t s _
   refine Zif (Zh5 g1) (Zh5 (hJ.f1 (hp 3 (by simp)))) rfl c3 (Zj3 hq) ?_
   exact hJ.set h0 (q:=1) (by decide) hD (fun j=>Iff.rfl) c1 c2 g2 g1
  ·obtain ⟨a,b,c,_⟩:=get 15 (.fa 2 (.t 2)) [] rfl
   refine ⟨15,.fa 2 (.t 2),a,b,c,?_⟩
   show wV (ev (.t 2) t) _
   rw [Zh5 hJ.t2]
   refine hJ.tmp (d:=14) (u:=.ptr 0 2) (by omega) (by simp) (by simp) (by simp) (by simp) (by omega) ?_ ?_ ?_ ?_ ?_ <;> intro h <;> first|exact .inr ⟨rfl,rfl⟩|exact .inl ⟨h.resolve_right (by omega),by omega⟩
  ·obtain ⟨a,b,c,hp⟩:=get 0 (.msetp (.t 11) (.t 14) (.c (.int .i64 9))) [0,5] rfl
   refine ⟨0,.msetp (.t 11) (.t 14) (.c (.int .i64 9)),a,b,c,?_⟩
   have h0:=hp 0 (by simp)
   obtain ⟨g1,g2,L,c1,c2,c3⟩:=hJ.m1 h0
   have hq:2 ∉ L:=fun h=>hD ((c2 2).1 h).2
   show EPrim (.msetp (.t 11) (.t 14) (.c (.int .i64 9))) t s _
   refine Zif (Zh5 g1) (Zh5 (hJ.f2 (hp 5 (by simp)))) rfl c3 (Zj3 hq) ?_
   exact hJ.set h0 (q:=2) (by decide) hD (fun j=>Iff.rfl) c1 c2 g2 g1
  ·obtain ⟨a,b,c,hp⟩:=get 16 (.mv (.t 11)) [0,1,2,3,4,5,6] rfl
   refine ⟨16,.mv (.t 11),a,b,c,?_⟩
   obtain ⟨g1,_⟩:=hJ.m1 (hp 0 (by simp))
   show wV (ev (.t 11) t) _
   rw [Zh5 g1]
   refine hJ.tmp (d:=15) (u:=.map 1) (by omega) (by simp) (by simp) (by simp) (by simp) (by omega) ?_ ?_ ?_ ?_ ?_ <;> intro h <;> first|exact .inr ⟨rfl,rfl⟩|exact .inl ⟨h.resolve_right (by omega),by omega⟩
  ·obtain ⟨a,b,c,hp⟩:=get 5 (.mv (.t 15)) [7] rfl
   refine ⟨5,.mv (.t 15),a,b,c,?_⟩
   have g1:=hJ.m7 (hp 7 (by simp))
   show wV (ev (.t 15) t) _
   rw [Zh5 g1]
   refine hJ.tmp (d:=4) (u:=.map 1) (by omega) (by simp) (by simp) (by simp) (by simp) (by omega) ?_ ?_ ?_ ?_ ?_ <;> intro h <;> first|exact .inr ⟨rfl,rfl⟩|exact .inl ⟨h.resolve_right (by omega),by omega⟩
  ·omega
 ·intro D t s hJ hall
  rw [hR.size] at hall
  refine hQ t s ⟨hJ.t0,hJ.t2,hJ.t3,hJ.r0,fun h=>absurd (by decide) h,fun _=>?_,fun _=>hJ.f0 (hall 1 (by decide)),fun _=>hJ.f1 (hall 3 (by decide)),fun _=>hJ.f2 (hall 5 (by decide)),fun _=>hJ.m7 (hall 7 (by decide)),fun _=>hJ.m8 (hall 8 (by decide))⟩
  obtain ⟨a,b,L,c1,c2,c3⟩:=hJ.m1 (hall 0 (by decide))
  refine ⟨a,b,L,c1,fun i=>?_,c3⟩
  rw [c2]
  constructor
  ·rintro ⟨h,_⟩;exact ⟨h,by omega⟩
  ·rintro ⟨h,_⟩;exact ⟨h,hall _ (by omega)⟩
theorem Yez:∀ {L:List Nat},0 ∈ L→1 ∈ L→2 ∈ L→3≤L.length
 | [],h,_,_=>by simp at h
 | [a],h0,h1,h2=>by simp at h0 h1;omega
 | [a,b],h0,h1,h2=>by simp at h0 h1 h2;omega
 | _::_::_::_,_,_,_=>by simp
noncomputable def Zrv (args:List AV) (s:St):RV:=match args with
 | [v]=>Option.rec .fail (fun bs=>.ok (Zou bs) s) (Zbf s v)
 | _=>.fail
theorem Yfk (bs:List Nat):sc (Zou bs)=true:=by
 unfold Zou
 split
 ·rfl
 ·split <;> rfl
def reg41:AC:=match a41 with|.mk (.seq r _) _=>r|_=>.skip
theorem Yfr {P:Program}{e:Env}{fn:Func}{c0 c2:Code}{id:Nat}{ops:Array Oper}(hE:EnvOk P e) (hm:P.follows .mixedOrders=true) (h86:Con e 86 Zjv) (h84:Con e 84 wrF.O) (hf:P.funcs[41]?=some fn) (hbody:fn.body=some (.seq c0 (.seq (.region id ops true) c2)))
 (hc0:Zcs P fn.ntmps c0=some reg41) (hc2:Zcs P fn.ntmps c2=some Yh7) (hR:MapReg P fn.ntmps ops) (hrs:Zh6 P fn.results.toList=some [.cells 2 4,.tmp 3]) (hb:Zaf P 41):OvOk P 41 Zrv:=by
 refine ⟨hb,fun args s v s' h=>?_⟩
 unfold Zrv at h
 split at h
 ·rename_i u
  obtain ⟨bs,hbs,h⟩:=Za3 h
  obtain ⟨rfl,rfl⟩:=Zau h
  obtain ⟨v2,hF,hSl,hlt⟩:=Zea hbs
  have hfs2:hfs [v2]=true:=by simp [hfs,hSl.hf]
  refine Ztg (args2:=[v2]) (.cons hF .nil) (Yfk bs) (Zky hfs2 ?_)
  refine C.of_WC hf hbody hrs (WC.seq (Yjb hc0 (Zap hE hm (e:=e) ?_)));conv=>whnf
  refine WC.seq (Yfq P e hE hm hR v2 _ _ ⟨rfl,rfl,rfl,rfl,fun _=>⟨rfl,by simp,by simp,by simp⟩,fun h=>h.elim,fun h=>h.elim,fun h=>h.elim,fun h=>h.elim,fun h=>h.elim,fun h=>h.elim⟩ _ ?_)
  intro t s hJ
  obtain ⟨g1,g2,L,c1,c2',c3⟩:=hJ.m1 (by decide)
  have hL:∀ i,i ∈ L↔i<3:=fun i=>by rw [c2'];constructor <;> intro h <;> first|exact h.1|exact ⟨h,by omega⟩
  have hlen:L.length=3:=by
   have h1:=Zmj 3 L c1 (fun x hx=>(hL x).1 hx)
   have m0:=(hL 0).2 (by decide)
   have m1:=(hL 1).2 (by decide)
   have m2:=(hL 2).2 (by decide)
   have h2:=Yez m0 m1 m2
   omega
  rw [hlen] at c3
  show WC P 0 none fn.ntmps c2 t s [] _
  refine Yjb hc2 (W.abs [(0,v2),(2,.ptr 0 0),(3,.int .i64 0),(4,.map 1)] [.row 46 z4,.map (Zki L 0) 3] [0,1] ⟨by decide,⟨⟨Zbe _ hSl.hf,by rw [Zao _ hSl.hf];exact hJ.t0⟩,⟨rfl,hJ.t2⟩,⟨rfl,hJ.t3⟩,⟨rfl,hJ.m8 (by decide)⟩,trivial⟩,⟨⟨rfl,hJ.r0⟩,⟨Zmu (Nat.succ_pos _) L 0,?_⟩,trivial⟩⟩ ((Yax P e hE hm h86 h84 v2 bs hSl hlt L hL hlen c1).mono fun _ _ _ _ h=>Zbz h))
  show _=some (AObj.map (Yge _ (Zki L 0)) 3);rw [Zj9 rfl];exact c3
 ·cases h
end Go.AM
