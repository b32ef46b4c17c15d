/-
 Functions of the program as the abstract machine reads them, and what is stated of them, checked by the kernel. No conditions.
-/
import Derived.Test.YtnnbibnobmegpaaSeatLH
import Derived.Test.YtnnbibnobmegpaaSeatA
import Derived.Test.YtnnbibnobmegpaaSeatS
set_option linter.unusedVariables false
set_option linter.unusedSimpArgs false
set_option maxRecDepth 100000
namespace Go.AM
open Go.RowKit
def tInts:Ty:=.sl (.int .i64)
def tByt:Ty:=.sl (.int .u8)
def tDeal:List Ty:=[.int .i64,tInts,.sl tByt,tByt]
theorem wf_u8 {n:Int}(h:(Lit.int .u8 n).wf=true):0≤n∧n<256:=by
 simp [Lit.wf,IntKind.min,IntKind.max,IntKind.bits,IntKind.signed] at h
 omega
theorem ints_of {l:List AV}(h:Shape tInts l):∃ (v:AV) (L:List Int),l=[v]∧Sl 1 L.length (Zd8 L) v∧∀ s ∈ L,Zc4 s:=by
 cases h with
 | nil _=>exact ⟨.nils,[],rfl,.inl ⟨rfl,rfl,rfl⟩,by simp⟩
 | es _=>exact ⟨.es,[],rfl,.inr (.inl ⟨rfl,rfl,rfl⟩),by simp⟩
 | fz _ n m c ls h1 h2 h3 h4 h5 _=>
  have:∀ ls:List (List AV),(∀ l ∈ ls,Shape (.int .i64) l)→∃ L:List Int,ls.flatten=Zd8 L∧L.length=ls.length∧∀ s ∈ L,Zc4 s:=by
   intro ls
   induction ls with
   | nil=>intro _;exact ⟨[],rfl,rfl,by simp⟩
   | cons l ls ih=>
    intro h
    obtain ⟨L,a,b,c⟩:=ih (fun m hm=>h m (by simp [hm]))
    obtain ⟨n,rfl,hw⟩:=Zm5 (h l (by simp))
    exact ⟨n::L,by rw [List.flatten_cons,a];rfl,by simp [b],fun s hs=>by
     rcases List.mem_cons.1 hs with rfl|hs
     ·exact Zhk hw
     ·exact c s hs⟩
  obtain ⟨L,a,b,d⟩:=this ls h4
  exact ⟨_,L,rfl,.inr (.inr ⟨c,by rw [a,b,h1],by rw [Nat.mul_one];unfold Zd8;rw [List.length_map]⟩),d⟩
theorem Zq1 {l:List AV}(h:Shape tByt l):∃ (v:AV) (b:List Nat),l=[v]∧BAt v b:=by
 cases h with
 | nil _=>exact ⟨.nils,[],rfl,.inl ⟨rfl,rfl,rfl⟩,by simp⟩
 | es _=>exact ⟨.es,[],rfl,.inr (.inl ⟨rfl,rfl,rfl⟩),by simp⟩
 | fz _ n m c ls h1 h2 h3 h4 h5 _=>
  have:∀ ls:List (List AV),(∀ l ∈ ls,Shape (.int .u8) l)→∃ L:List Nat,ls.flatten=bys L∧L.length=ls.length∧∀ s ∈ L,s<256:=by
   intro ls
   induction ls with
   | nil=>intro _;exact ⟨[],rfl,rfl,by simp⟩
   | cons l ls ih=>
    intro h
    obtain ⟨L,a,b,c⟩:=ih (fun m hm=>h m (by simp [hm]))
    obtain ⟨n,rfl,hw⟩:=Zm5 (h l (by simp))
    have hw:=wf_u8 hw
    refine ⟨n.toNat::L,?_,by simp [b],fun s hs=>?_⟩
    ·rw [List.flatten_cons,a]
     show AV.int .u8 n::bys L=.int .u8 (Int.ofNat n.toNat)::bys L
     rw [show Int.ofNat n.toNat=n from Int.toNat_of_nonneg hw.1]
    ·rcases List.mem_cons.1 hs with rfl|hs
     ·omega
     ·exact c s hs
  obtain ⟨L,a,b,d⟩:=this ls h4
  exact ⟨_,L,rfl,.inr (.inr ⟨c,by rw [a,b,h1],by rw [Nat.mul_one,Zan]⟩),d⟩
theorem Zs3 {l:List AV}(h:Shape (.sl tByt) l):∃ (v:AV) (us:List AV) (bs:List (List Nat)),l=[v]∧Sl 1 us.length us v∧All2 BAt us bs:=by
 cases h with
 | nil _=>exact ⟨.nils,[],[],rfl,.inl ⟨rfl,rfl,rfl⟩,.nil⟩
 | es _=>exact ⟨.es,[],[],rfl,.inr (.inl ⟨rfl,rfl,rfl⟩),.nil⟩
 | fz _ n m c ls h1 h2 h3 h4 h5 _=>
  have:∀ ls:List (List AV),(∀ l ∈ ls,Shape tByt l)→∃ (us:List AV) (bs:List (List Nat)),ls.flatten=us∧us.length=ls.length∧All2 BAt us bs:=by
   intro ls
   induction ls with
   | nil=>intro _;exact ⟨[],[],rfl,rfl,.nil⟩
   | cons l ls ih=>
    intro h
    obtain ⟨us,bs,a,b,c⟩:=ih (fun m hm=>h m (by simp [hm]))
    obtain ⟨v,by_,rfl,hv⟩:=Zq1 (h l (by simp))
    exact ⟨v::us,by_::bs,by rw [List.flatten_cons,a];rfl,by simp [b],.cons hv c⟩
  obtain ⟨us,bs,a,b,d⟩:=this ls h4
  exact ⟨_,us,bs,rfl,.inr (.inr ⟨c,by rw [a,b,h1],by rw [Nat.mul_one]⟩),d⟩
theorem deal_of {l:List AV}(h:Shapes tDeal l):∃ d:DB,d.any∧l=d.d.c:=by
 obtain ⟨st,b1,rfl,w1,g1⟩:=Zbs h
 obtain ⟨a2,b2,rfl,s2,g2⟩:=Zcr g1
 obtain ⟨a3,b3,rfl,s3,g3⟩:=Zcr g2
 obtain ⟨a4,b4,rfl,s4,g4⟩:=Zcr g3
 rw [Zfn g4]
 obtain ⟨sv,sl,rfl,q1,q2⟩:=ints_of s2
 obtain ⟨bv,us,bs,rfl,q3,q4⟩:=Zs3 s3
 obtain ⟨pv,pb,rfl,q5⟩:=Zq1 s4
 exact ⟨⟨st,sv,sl,bv,us,bs,pv,pb⟩,⟨Zhk w1,q1,q2,q3,q4,q5⟩,rfl⟩
end Go.AM
set_option maxRecDepth 100000
namespace Go.AM
attribute [local irreducible] W
open X
structure UB where
 u:AV
 b:List Nat
structure UB.ok (x:UB):Prop where
 b:BAt x.u x.b
 l:x.b.length=0∨x.b.length=128
def Zc3 (B:List Nat):Nat:=min (num B 14 1) 17
def Zt1 (B:List Nat) (i:Nat):Rc:=⟨(num B (15+6*i) 1:Int),decide ((num B (16+6*i) 1:Int)=1),(num B (17+6*i) 4:Int)⟩
def Zb7 (B:List Nat) (n:Nat):List Rc:=(List.range n).map (Zt1 B)
def Zak (B:List Nat):Nt:=⟨(num B 1 4:Int),(num B 5 4:Int),(num B 9 4:Int),(num B 13 1:Int),.nils,Zb7 B (Zc3 B)⟩
def Zdm (b:List Nat):Bool:=Zcd (Zak (pad b)) && decide (Zbt (Zak (pad b))=b)
def Ze3:List AV:=[.int .u32 0,.int .u32 0,.int .u32 0,.int .i64 0,.nils]
def ntC (n:Nt) (v:AV):List AV:=[.int .u32 n.id,.int .u32 n.age,.int .u32 n.seq,.int .i64 n.stripe,v]
def Zht (x:UB):AV:=if Zdm x.b=true then .tup [.agg (ntC (Zak (pad x.b)) (.fz (Zc3 (pad x.b)) none (rcs (Zak (pad x.b)).recs))),.int .i64 0] else .tup [.agg Ze3,.int .i64 90]
def ndF:Fam UB:=⟨UB.ok,fun x=>[x.u],Zht,fun x y hx hy h=>by
 obtain ⟨u,b⟩:=x
 obtain ⟨u',b'⟩:=y
 have e:u=u':=(List.cons.inj h).1
 subst e
 have:=hx.b.inj hy.b
 dsimp only at this
 rw [this]⟩
theorem Zmo (x:UB):AM.hf (Zht x)=true:=by unfold Zht;split <;> rfl
def Zw8:AC:=match a52 with|.mk c _=>c
def code99:AC:=match a99 with|.mk c _=>c
def asgR:AC:=match Zj0 Zw8 with|some (a,_)=>a|none=>.skip
def bodyR:AC:=match Zj0 Zw8 with|some (_,b)=>b|none=>.skip
def rest52:AC:=match Zw8 with
 | .seq _ (.seq _ (.seq _ (.seq _ (.seq _ (.seq _ (.seq _ (.seq _ (.seq _ r))))))))=>r
 | _=>.skip
def tlR (u:AV):List (Nat×AV):=[(0,u),(2,.ptr 0 0),(6,.ptr 2 0),(7,.ptr 3 0),(43,.fn 142 [] [.ptr 4 0])]
noncomputable def osR (u:AV) (at_:Int) (id ag sq st:Int) (n:Nat) (R:List Rc):Nat→List AObj
 | 0=>[.row 101 Ze3,.row 167 [u,.int .i64 at_],.row 164 [.fn 99 [.ptr 1 0] []],.row 101 [.int .u32 id,.int .u32 ag,.int .u32 sq,.int .i64 st,.nils],.row 3 [.int .i64 (n:Int)],.defd,.loop .ready none 0 (ofL (tlR u)) [44,45] asgR bodyR 5]
 | i+1=>[.row 101 Ze3,.row 167 [u,.int .i64 at_],.row 164 [.fn 99 [.ptr 1 0] []],.row 101 [.int .u32 id,.int .u32 ag,.int .u32 sq,.int .i64 st,.sl 7 0 (i+1) none],.row 3 [.int .i64 (n:Int)],.defd,.loop .ready none 0 (ofL (tlR u)) [44,45] asgR bodyR 5,.row 123 (rcs R)]
def recV (n:Nat) (R:List Rc):AV:=match n with
 | 0=>.nils
 | n+1=>.fz (n+1) none (rcs R)
theorem nd_rest {P:Program}{e:Env}(hE:EnvOk P e) (hm:P.follows .mixedOrders=true) (h90:Con e 90 nwF.O) {u:AV}{b:List Nat}(hb:BAt u b) (hl:b.length=0∨b.length=128) (K:AV→St→Prop) (hk:∀ s,K (Zht ⟨u,b⟩) s):
 W P 0 none rest52 (ofL [(0,u),(2,.ptr 0 0),(7,.ptr 1 0)]) (Zai St0 [.row 101 Ze3,.row 101 (ntC (Zak (pad b)) (recV (Zc3 (pad b)) (Zak (pad b)).recs)),.defd]) [2] (Zhv [.cells 2 5,.tmp 3] K):=by
 have hpl:=Zf9 hb.2
 have n4:∀ a,num (pad b) a 4<4294967296:=fun a=>Zfs hpl 4
 have n1:∀ a,num (pad b) a 1<256:=fun a=>Zfs hpl 1
 obtain ⟨R,hR⟩:∃ R,R=(Zak (pad b)).recs:=⟨_,rfl⟩
 have hRl:R.length=Zc3 (pad b):=by rw [hR];show ((List.range _).map _).length=_;simp
 have hcnt:Zc3 (pad b)≤17:=Nat.min_le_right _ _
 obtain ⟨v,hv⟩:∃ v,v=recV (Zc3 (pad b)) R:=⟨_,rfl⟩
 have hvs:Sl 3 R.length (rcs R) v:=by
  rw [hv,← hRl]
  cases hq:R with
  | nil=>exact .inl ⟨rfl,rfl,rfl⟩
  | cons r R'=>exact .inr (.inr ⟨none,rfl,Zfo _⟩)
 have hok:Nt.ok ⟨(Zak (pad b)).id,(Zak (pad b)).age,(Zak (pad b)).seq,(Zak (pad b)).stripe,v,R⟩:=by
  refine ⟨⟨Int.natCast_nonneg _,Int.ofNat_lt.2 (n4 1)⟩,⟨Int.natCast_nonneg _,Int.ofNat_lt.2 (n4 5)⟩,⟨Int.natCast_nonneg _,Int.ofNat_lt.2 (n4 9)⟩,?_,hvs,?_,by dsimp only;omega⟩
  ·have:=n1 13
   show Zc4 ((num (pad b) 13 1:Nat):Int)
   unfold Zc4;omega
  ·intro r hr
   dsimp only at hr
   rw [hR] at hr
   obtain ⟨i,_,rfl⟩:=List.mem_map.1 (show r ∈ (List.range (Zc3 (pad b))).map (Zt1 (pad b)) from hr)
   exact ⟨⟨Int.natCast_nonneg _,Int.ofNat_lt.2 (n1 _)⟩,⟨Int.natCast_nonneg _,Int.ofNat_lt.2 (n4 _)⟩⟩
 have hnb:Zcd ⟨(Zak (pad b)).id,(Zak (pad b)).age,(Zak (pad b)).seq,(Zak (pad b)).stripe,v,R⟩=Zcd (Zak (pad b)):=by rw [hR];rfl
 have hnk:Zbt ⟨(Zak (pad b)).id,(Zak (pad b)).age,(Zak (pad b)).seq,(Zak (pad b)).stripe,v,R⟩=Zbt (Zak (pad b)):=by
  rw [hR]
  exact Zwe _ _ _ _ _ _ _
 have hvf:=hvs.hf
 have hbk:(Zbt (Zak (pad b))).length=128∧∀ x ∈ Zbt (Zak (pad b)),x<256:=by
  unfold Zbt
  exact ⟨by rw [Zat];exact Zd6 _ _,Zaz (Zg2 _ _) _⟩
 rw [← hR,← hv]
 have hO1:Zcd (Zak (pad b))=true→Zbt (Zak (pad b))=b→Zht ⟨u,b⟩=.tup [.agg (ntC (Zak (pad b)) v),.int .i64 0]:=fun h1 h2=>by
  have:Zdm b=true:=by unfold Zdm;rw [h1,decide_eq_true h2];rfl
  unfold Zht;rw [if_pos this]
  show AV.tup [.agg (ntC (Zak (pad b)) (.fz (Zc3 (pad b)) none (rcs (Zak (pad b)).recs))),_]=_
  rw [hv,← hR]
  have h3:1≤Zc3 (pad b):=by
   unfold Zcd Zjl at h1
   rw [Bool.and_eq_true] at h1
   have:=(of_decide_eq_true h1.1).1.1
   rw [← hR,hRl] at this;exact this
  cases hq:Zc3 (pad b) with
  | zero=>omega
  | succ n=>rfl
 have hO2:(Zcd (Zak (pad b))=true→Zbt (Zak (pad b))≠b)→Zht ⟨u,b⟩=.tup [.agg Ze3,.int .i64 90]:=fun h1=>by
  have:¬ Zdm b=true:=by
   unfold Zdm
   rw [Bool.and_eq_true]
   rintro ⟨h2,h3⟩
   exact h1 h2 (of_decide_eq_true h3)
  unfold Zht;rw [if_neg this]
 clear hv hR
 refine Zkt hE hm ?_;conv=>whnf
 cases hN:Zcd (Zak (pad b))
 ·refine ESc.fam nwF h90 ⟨(Zak (pad b)).id,(Zak (pad b)).age,(Zak (pad b)).seq,(Zak (pad b)).stripe,v,R⟩ hok (u:=.tup [.nils,.int .i64 8]) (by show (if Zcd _ then _ else _)=_;rw [hnb,hN];rfl) ?_
  rw [hO2 (fun h=>by rw [hN] at h;cases h)] at hk
  conv=>whnf
  repeat' (first|((refine w6 rfl rfl ?_ ?_) <;> intro _ <;> first|(exfalso;omega)|(conv=>whnf))|fail)
  exact hk _
 ·refine ESc.fam nwF h90 ⟨(Zak (pad b)).id,(Zak (pad b)).age,(Zak (pad b)).seq,(Zak (pad b)).stripe,v,R⟩ hok (u:=.tup [Zrd (Zbt (Zak (pad b))),.int .i64 0]) (by show (if Zcd _ then _ else _)=_;rw [hnb,hN,if_pos rfl,← hnk];rfl) ?_;conv=>whnf
  repeat' (first|((refine w6 rfl rfl ?_ ?_) <;> intro _ <;> first|(exfalso;omega)|(conv=>whnf))|fail)
  refine Zbd (bs:=Zbt (Zak (pad b))) rfl (.inr (.inr ⟨some 128,rfl,by rw [Zan,hbk.1]⟩)) hbk.2 ?_;conv=>whnf
  refine Zbd (bs:=b) rfl hb.1 hb.2 ?_;conv=>whnf
  refine Zdb rfl rfl (fun h=>?_) (fun h=>?_)
  ·rw [hO2 (fun _=>h)] at hk
   conv=>whnf
   skip
   exact hk _
  ·rw [hO1 hN h] at hk
   conv=>whnf
   skip
   exact hk _
theorem ndF_ok {P:Program}{e:Env}{fn fn':Func}(hE:EnvOk P e) (hm:P.follows .mixedOrders=true) (h86:Con e 86 Zjv) (h99:Inl e 99 code99 [.tmp 4]) (h100:Inl e 100 Ydd [.tmp 2]) (h90:Con e 90 nwF.O)
 (hf':P.funcs[142]?=some fn') (hc':Zaj P fn'=some a142) (hb':Zaf P 142) (hf:P.funcs[52]?=some fn) (hc:Zaj P fn=some a52) (hb0:Zaf P 52):OvOk P 52 ndF.O:=by
 refine Zal hb0 fun x hx=>?_
 obtain ⟨u,b⟩:=x
 obtain ⟨hb,hl⟩:=hx
 dsimp only at hb hl
 have huf:=hb.1.hf
 have hl':¬ (b.length≠0∧b.length≠128):=by omega
 refine ⟨by show (AM.hf u && true)=true;rw [huf];rfl,Zmo _,C.of_W hf hc ?_⟩
 have hpl:=Zf9 hb.2
 have n4:∀ a,num (pad b) a 4<4294967296:=fun a=>Zfs hpl 4
 have n1:∀ a,num (pad b) a 1<256:=fun a=>Zfs hpl 1
 obtain ⟨O,hO⟩:∃ O,O=Zht ⟨u,b⟩:=⟨_,rfl⟩
 show W P 0 none Zw8 (Zax [u] 0 .lf) St0 [] (Zhv [.cells 2 5,.tmp 3] (fun v s'=>Frz s' v (Zht ⟨u,b⟩)))
 have hres:=nd_rest hE hm h90 hb hl (fun v s'=>Frz s' v (Zht ⟨u,b⟩)) (fun s=>.plain _ (Zmo _))
 refine W.seqV hE hm ?_;conv=>whnf
 refine W.seqV hE hm ?_;conv=>whnf
 refine ESc.ov h86 (Zbw (a:=0) (z:=1) (Zb9 hb.1 hb.2) hl' (by decide)) ?_;conv=>whnf
 repeat' (first|((refine w6 rfl rfl ?_ ?_) <;> intro _ <;> first|(exfalso;omega)|(conv=>whnf))|fail)
 refine W.seqV hE hm ?_;conv=>whnf
 refine Zcq [u,.int .i64 1] (by rcases hb.1 with ⟨rfl,_⟩|⟨rfl,_⟩|⟨c,rfl,_⟩ <;> rfl) ?_
 conv=>whnf
 refine W.seqV hE hm ?_;conv=>whnf
 refine W.seqV hE hm ?_;conv=>whnf
 refine ECall.inl h99.O h99.G ?_;conv=>whnf
 refine ESc.ov h86 (Zbw (a:=1) (z:=4) (Zb9 hb.1 hb.2) hl' (by unfold Zfu;exact decide_eq_true (by omega))) ?_;conv=>whnf
 refine Zah (a:=1) (b:=4) rfl rfl (by omega) ?_;conv=>whnf
 repeat' (first|(refine Zam (q':=.u32) rfl (Zf2 ⟨Int.natCast_nonneg _,by have:=n4 (1:Int).toNat;exact Int.ofNat_lt.2 this⟩) ?_;conv=>whnf)|fail)
 refine W.seqV hE hm ?_;conv=>whnf
 refine ECall.inl h99.O h99.G ?_;conv=>whnf
 refine ESc.ov h86 (Zbw (a:=1+4) (z:=4) (Zb9 hb.1 hb.2) hl' (by unfold Zfu;exact decide_eq_true (by omega))) ?_;conv=>whnf
 refine Zah (a:=1+4) (b:=4) rfl rfl (by omega) ?_;conv=>whnf
 repeat' (first|(refine Zam (q':=.u32) rfl (Zf2 ⟨Int.natCast_nonneg _,by have:=n4 (1+4:Int).toNat;exact Int.ofNat_lt.2 this⟩) ?_;conv=>whnf)|fail)
 refine W.seqV hE hm ?_;conv=>whnf
 refine ECall.inl h99.O h99.G ?_;conv=>whnf
 refine ESc.ov h86 (Zbw (a:=1+4+4) (z:=4) (Zb9 hb.1 hb.2) hl' (by unfold Zfu;exact decide_eq_true (by omega))) ?_;conv=>whnf
 refine Zah (a:=1+4+4) (b:=4) rfl rfl (by omega) ?_;conv=>whnf
 repeat' (first|(refine Zam (q':=.u32) rfl (Zf2 ⟨Int.natCast_nonneg _,by have:=n4 (1+4+4:Int).toNat;exact Int.ofNat_lt.2 this⟩) ?_;conv=>whnf)|fail)
 refine W.seqV hE hm ?_;conv=>whnf
 refine ECall.inl h99.O h99.G ?_;conv=>whnf
 refine ESc.ov h86 (Zbw (a:=1+4+4+4) (z:=1) (Zb9 hb.1 hb.2) hl' (by unfold Zfu;exact decide_eq_true (by omega))) ?_;conv=>whnf
 refine Zah (a:=1+4+4+4) (b:=1) rfl rfl (by omega) ?_;conv=>whnf
 skip
 refine W.seqV hE hm ?_;conv=>whnf
 refine ECall.inl h99.O h99.G ?_;conv=>whnf
 refine ESc.ov h86 (Zbw (a:=1+4+4+4+1) (z:=1) (Zb9 hb.1 hb.2) hl' (by unfold Zfu;exact decide_eq_true (by omega))) ?_;conv=>whnf
 refine Zah (a:=1+4+4+4+1) (b:=1) rfl rfl (by omega) ?_;conv=>whnf
 obtain ⟨B,hB⟩:∃ B,B=pad b:=⟨_,rfl⟩
 have hmin:min ((num (pad b) (1+4+4+4+1:Int).toNat (1:Int).toNat:Nat):Int) 17=((Zc3 (pad b):Nat):Int):=by
  show min ((num (pad b) 14 1:Nat):Int) 17=((min (num (pad b) 14 1) 17:Nat):Int)
  omega
 repeat' (first|(refine EPrim.min2 rfl ?_;rw [hmin];conv=>whnf)|fail)
 have hcnt:Zc3 (pad b)≤17:=Nat.min_le_right _ _
 refine ESc.inl h100 ?_;conv=>whnf
 have hrf:∀ a:Int,hfs [u,.int .i64 a]=true:=fun a=>by show (AM.hf u && true)=true;rw [huf];rfl
 refine W.tells (Abs.tells (tl:=tlR u) (os:=[.row 101 Ze3,.row 167 [u,.int .i64 15],.row 164 [.fn 99 [.ptr 1 0] []],.row 101 [.int .u32 (num (pad b) 1 4:Int),.int .u32 (num (pad b) 5 4:Int),.int .u32 (num (pad b) 9 4:Int),.int .i64 (num (pad b) 13 1:Int),.nils],.row 3 [.int .i64 (Zc3 (pad b):Int)]]) (rs:=[0,1,2,3,4])
  ⟨by decide,⟨⟨Zbe _ huf,by rw [Zao _ huf];rfl⟩,⟨rfl,rfl⟩,⟨rfl,rfl⟩,⟨rfl,rfl⟩,⟨rfl,rfl⟩,trivial⟩,⟨⟨rfl,rfl⟩,⟨Za6 (hrf _),by rw [Zac (hrf _)];rfl⟩,⟨rfl,rfl⟩,⟨rfl,rfl⟩,⟨rfl,rfl⟩,trivial⟩⟩) ?_
 refine Zta (f:=142) (first:=[]) (cap:=[.ptr 4 0]) hb' rfl ?_ ?_
 ·intro q hq
  have hq:q<5:=hq
  rcases q with _|_|_|_|_|q
  ·exact .tmp 2 (.ptr 0 0) rfl rfl
  ·exact .cell 2 164 [.fn 99 [.ptr 1 0] []] 0 (.fn 99 [.ptr 1 0] []) (.tmp 6 (.ptr 2 0) rfl rfl) rfl rfl rfl
  ·exact .tmp 6 (.ptr 2 0) rfl rfl
  ·exact .tmp 7 (.ptr 3 0) rfl rfl
  ·exact .tmp 43 (.fn 142 [] [.ptr 4 0]) rfl rfl
  ·omega
 show C1 P 142 [.yld 6,.ptr 4 0] (Zai St0 (osR u 15 (num (pad b) 1 4:Int) (num (pad b) 5 4:Int) (num (pad b) 9 4:Int) (num (pad b) 13 1:Int) (Zc3 (pad b)) [] 0)) (fun _ s'=>Zom 6 [5] (ofL (tlR u)) s' _)
 refine C1.of_V hE hm hf' hc' ?_;conv=>whnf
 have hlb:∀ n,bdO 7 n (.loop .ready none 0 (ofL (tlR u)) [44,45] asgR bodyR 5)=true:=fun n=>by rcases hb.1 with ⟨rfl,_⟩|⟨rfl,_⟩|⟨c,rfl,_⟩ <;> rfl
 refine Zbo (k:=7) (α:=Nat) (fun i=>[(0,.yld 6),(1,.ptr 4 0),(3,.int .i64 (i:Int))]) (fun i=>osR u (15+6*(i:Int)) (num (pad b) 1 4:Int) (num (pad b) 5 4:Int) (num (pad b) 9 4:Int) (num (pad b) 13 1:Int) (Zc3 (pad b)) (Zb7 (pad b) i) i) (fun i=>Zc3 (pad b)-i) (fun i=>i≤Zc3 (pad b)) 0 (Nat.zero_le _)
  (AbsK.tells (rs:=[0,1,2,3,4,5,6]) ⟨rfl,by decide,⟨⟨rfl,rfl⟩,⟨rfl,rfl⟩,⟨rfl,rfl⟩,trivial⟩,⟨⟨rfl,rfl⟩,⟨Za6 (hrf _),by rw [Zac (hrf _)];rfl⟩,⟨rfl,rfl⟩,⟨rfl,rfl⟩,⟨rfl,rfl⟩,⟨rfl,rfl⟩,⟨hlb _,rfl⟩,trivial⟩⟩) ?_
 intro i hi
 refine Zap hE hm ?_
 by_cases hlt:i<Zc3 (pad b)
 ·have t1:(15+6*(i:Int)).toNat=15+6*i:=by omega
  have t2:(15+6*(i:Int)+1).toNat=16+6*i:=by omega
  have t3:(15+6*(i:Int)+1+1).toNat=17+6*i:=by omega
  have hrs:Zb7 (pad b) (i+1)=Zb7 (pad b) i++[Zt1 (pad b) i]:=by unfold Zb7;rw [List.range_succ,List.map_append];rfl
  have hrl:(Zb7 (pad b) i).length=i:=by unfold Zb7;simp
  have u1:=n1 (15+6*i)
  have u2:=n1 (16+6*i)
  have u3:=n4 (17+6*i)
  rcases i with _|i
  ·conv=>whnf
   refine Zab rfl rfl (fun _=>?_) (fun h=>by omega);conv=>whnf
   refine Za2 (a:=6) (b:=((0:Nat):Int)) rfl rfl (by omega) ?_;conv=>whnf
   refine Zah (a:=15) (b:=6*((0:Nat):Int)) rfl rfl (by omega) ?_;conv=>whnf
   refine ERound.mk ?_;conv=>whnf
   refine ECall.inl h99.O h99.G ?_;conv=>whnf
   refine ESc.ov h86 (Zbw (a:=15+6*((0:Nat):Int)) (z:=1) (Zb9 hb.1 hb.2) hl' (by unfold Zfu;exact decide_eq_true (by omega))) ?_;conv=>whnf
   refine Zah (a:=15+6*((0:Nat):Int)) (b:=1) rfl rfl (by omega) ?_;conv=>whnf
   refine ECall.inl h99.O h99.G ?_;conv=>whnf
   refine ESc.ov h86 (Zbw (a:=15+6*((0:Nat):Int)+1) (z:=1) (Zb9 hb.1 hb.2) hl' (by unfold Zfu;exact decide_eq_true (by omega))) ?_;conv=>whnf
   refine Zah (a:=15+6*((0:Nat):Int)+1) (b:=1) rfl rfl (by omega) ?_;conv=>whnf
   rw [t1,t2]
   skip
   refine Zam (q':=.u8) (a:=((num (pad b) (15+6*(0)) 1:Nat):Int)) rfl (Zor (by omega)) ?_;conv=>whnf
   refine Zih (a:=((num (pad b) (16+6*(0)) 1:Nat):Int)) (b:=1) rfl rfl (fun q hq=>?_)
   obtain rfl:decide (((num (pad b) (16+6*(0)) 1:Nat):Int)=1)=q:=by
    cases q with
    | true=>exact decide_eq_true (hq.1 rfl)
    | false=>exact decide_eq_false (fun h=>by have:=hq.2 h;cases this)
   conv=>whnf
   refine ECall.inl h99.O h99.G ?_;conv=>whnf
   refine ESc.ov h86 (Zbw (a:=15+6*((0:Nat):Int)+1+1) (z:=4) (Zb9 hb.1 hb.2) hl' (by unfold Zfu;exact decide_eq_true (by omega))) ?_;conv=>whnf
   refine Zah (a:=15+6*((0:Nat):Int)+1+1) (b:=4) rfl rfl (by omega) ?_;conv=>whnf
   rw [t3]
   repeat' (first|(refine ⟨rfl,?_⟩;conv=>whnf)|fail)
   refine Zam (q':=.u32) (a:=((num (pad b) (17+6*(0)) 4:Nat):Int)) rfl (Zf2 (by omega)) ?_;conv=>whnf
   refine Zbb (m:=1) rfl rfl rfl rfl (by decide) (by decide) ?_;conv=>whnf
   repeat' (first|((first|refine w7 rfl rfl (by omega) ?_|refine ⟨rfl,?_⟩);conv=>whnf)|fail)
   refine ⟨0+1,by omega,by omega,AbsK.tells (rs:=[0,1,2,3,4,5,6,8]) ⟨rfl,by decide,⟨⟨rfl,rfl⟩,⟨rfl,rfl⟩,⟨rfl,rfl⟩,trivial⟩,⟨⟨rfl,rfl⟩,⟨Za6 (hrf _),?_⟩,⟨rfl,rfl⟩,⟨rfl,rfl⟩,⟨rfl,rfl⟩,⟨rfl,rfl⟩,⟨hlb _,rfl⟩,⟨Za6 (Zcx _),?_⟩,trivial⟩⟩⟩
   ·rw [Zac (hrf _)]
    show _=some (AObj.row 167 [u,.int .i64 (15+6*((0+1:Nat):Int))])
    rw [show (15+6*((0+1:Nat):Int))=15+6*((0:Nat):Int)+1+1+4 by omega];rfl
   ·rw [Zac (Zcx _),hrs,Zil];rfl
  ·conv=>whnf
   refine Zab rfl rfl (fun _=>?_) (fun h=>by omega);conv=>whnf
   refine Za2 (a:=6) (b:=((i+1:Nat):Int)) rfl rfl (by omega) ?_;conv=>whnf
   refine Zah (a:=15) (b:=6*((i+1:Nat):Int)) rfl rfl (by omega) ?_;conv=>whnf
   refine ERound.mk ?_;conv=>whnf
   refine ECall.inl h99.O h99.G ?_;conv=>whnf
   refine ESc.ov h86 (Zbw (a:=15+6*((i+1:Nat):Int)) (z:=1) (Zb9 hb.1 hb.2) hl' (by unfold Zfu;exact decide_eq_true (by omega))) ?_;conv=>whnf
   refine Zah (a:=15+6*((i+1:Nat):Int)) (b:=1) rfl rfl (by omega) ?_;conv=>whnf
   refine ECall.inl h99.O h99.G ?_;conv=>whnf
   refine ESc.ov h86 (Zbw (a:=15+6*((i+1:Nat):Int)+1) (z:=1) (Zb9 hb.1 hb.2) hl' (by unfold Zfu;exact decide_eq_true (by omega))) ?_;conv=>whnf
   refine Zah (a:=15+6*((i+1:Nat):Int)+1) (b:=1) rfl rfl (by omega) ?_;conv=>whnf
   rw [t1,t2]
   skip
   refine Zam (q':=.u8) (a:=((num (pad b) (15+6*(i+1)) 1:Nat):Int)) rfl (Zor (by omega)) ?_;conv=>whnf
   refine Zih (a:=((num (pad b) (16+6*(i+1)) 1:Nat):Int)) (b:=1) rfl rfl (fun q hq=>?_)
   obtain rfl:decide (((num (pad b) (16+6*(i+1)) 1:Nat):Int)=1)=q:=by
    cases q with
    | true=>exact decide_eq_true (hq.1 rfl)
    | false=>exact decide_eq_false (fun h=>by have:=hq.2 h;cases this)
   conv=>whnf
   refine ECall.inl h99.O h99.G ?_;conv=>whnf
   refine ESc.ov h86 (Zbw (a:=15+6*((i+1:Nat):Int)+1+1) (z:=4) (Zb9 hb.1 hb.2) hl' (by unfold Zfu;exact decide_eq_true (by omega))) ?_;conv=>whnf
   refine Zah (a:=15+6*((i+1:Nat):Int)+1+1) (b:=4) rfl rfl (by omega) ?_;conv=>whnf
   rw [t3]
   repeat' (first|(refine ⟨rfl,?_⟩;conv=>whnf)|fail)
   refine Zam (q':=.u32) (a:=((num (pad b) (17+6*(i+1)) 4:Nat):Int)) rfl (Zf2 (by omega)) ?_;conv=>whnf
   refine Zb6 (m:=1) rfl rfl rfl rfl (by rw [Zfo,hrl]) rfl (by decide) (by omega) ?_;conv=>whnf
   repeat' (first|((first|refine w7 rfl rfl (by omega) ?_|refine ⟨rfl,?_⟩);conv=>whnf)|fail)
   refine ⟨i+1+1,by omega,by omega,AbsK.tells (rs:=[0,1,2,3,4,5,6,9]) ⟨rfl,by decide,⟨⟨rfl,rfl⟩,⟨rfl,rfl⟩,⟨rfl,rfl⟩,trivial⟩,⟨⟨rfl,rfl⟩,⟨Za6 (hrf _),?_⟩,⟨rfl,rfl⟩,⟨rfl,rfl⟩,⟨rfl,rfl⟩,⟨rfl,rfl⟩,⟨hlb _,rfl⟩,⟨Za6 (Zcx _),?_⟩,trivial⟩⟩⟩
   ·rw [Zac (hrf _)]
    show _=some (AObj.row 167 [u,.int .i64 (15+6*((i+1+1:Nat):Int))])
    rw [show (15+6*((i+1+1:Nat):Int))=15+6*((i+1:Nat):Int)+1+1+4 by omega];rfl
   ·rw [Zac (Zcx _),hrs,Zil];rfl
 ·have hie:i=Zc3 (pad b):=by omega
  have hN:Zak (pad b)=⟨(num (pad b) 1 4:Int),(num (pad b) 5 4:Int),(num (pad b) 9 4:Int),(num (pad b) 13 1:Int),.nils,Zb7 (pad b) (Zc3 (pad b))⟩:=rfl
  rcases i with _|i
  ·rw [hN,← hie] at hres
   conv=>whnf
   refine Zab rfl rfl (fun h=>by omega) (fun _=>?_);conv=>whnf
   refine W.tells (AbsD.tells (tl:=[(0,u),(2,.ptr 0 0),(7,.ptr 1 0)]) (os:=[.row 101 Ze3,.row 101 [.int .u32 (num (pad b) 1 4:Int),.int .u32 (num (pad b) 5 4:Int),.int .u32 (num (pad b) 9 4:Int),.int .i64 (num (pad b) 13 1:Int),.nils],.defd]) (rs:=[0,3,5]) (ds2:=[2]) ⟨⟨rfl,by decide,⟨⟨Zbe _ huf,by rw [Zao _ huf];rfl⟩,⟨rfl,rfl⟩,⟨rfl,rfl⟩,trivial⟩,⟨⟨rfl,rfl⟩,⟨rfl,rfl⟩,⟨rfl,rfl⟩,trivial⟩⟩,rfl,by intro d hd;simp at hd;subst hd;show 2<3;decide⟩) hres
  ·rw [hN,← hie] at hres
   conv=>whnf
   refine Zab rfl rfl (fun h=>by omega) (fun _=>?_);conv=>whnf
   refine W.tells (AbsD.frz (k:=0) (n:=3) (e:=123) (cs:=rcs (Zb7 (pad b) (i+1))) (os:=[.row 101 Ze3,.row 101 [.int .u32 (num (pad b) 1 4:Int),.int .u32 (num (pad b) 5 4:Int),.int .u32 (num (pad b) 9 4:Int),.int .i64 (num (pad b) 13 1:Int),.sl 3 0 (i+1) none],.defd]) (tl:=[(0,u),(2,.ptr 0 0),(7,.ptr 1 0)]) (rs:=[0,3,5,7]) (ds2:=[2])
    ⟨⟨rfl,by decide,⟨⟨Zbe _ huf,by rw [Zao _ huf];rfl⟩,⟨rfl,rfl⟩,⟨rfl,rfl⟩,trivial⟩,⟨⟨rfl,rfl⟩,⟨rfl,rfl⟩,⟨rfl,rfl⟩,⟨Za6 (Zcx _),by rw [Zac (Zcx _)];rfl⟩,trivial⟩⟩,rfl,by intro d hd;simp at hd;subst hd;show 2<4;decide⟩ rfl (by intro d hd;simp at hd;subst hd;decide) (Zcx _) rfl rfl rfl rfl (by show [(0,frzV 3 _ u),_,_]=_;rw [Zjk u huf];rfl) rfl) hres
end Go.AM
