/-
 Functions of the program as the abstract machine reads them, and what is stated of them, checked by the kernel. No conditions.
-/
import Derived.Test.YtacmbogmbfmjeaaGreatStA
import Derived.Test.YtacmbogmbfmjeaaGreatStB
set_option linter.unusedVariables false
set_option linter.unusedSimpArgs false
set_option linter.unnecessarySimpa false
set_option maxRecDepth 100000
namespace Go.AM
attribute [local irreducible] W
open X
def Ar (c:Cfg):Int:=c.chunk*c.rows
def Bq (c:Cfg):Lo→Prop
 | (ev,lo,sp,po,dn,_,_)=>ev≤2147483648∧-1≤lo∧lo<c.members∧(sp=true→0≤lo∧0≤dn∧dn≤po∧po≤Ar c)∧(sp=false→po=0∧dn=0)
noncomputable def loF:Fn (Cfg×Lo×Unit):=bF (.g cfgC (.g loC .nil)) (fun x=>x.1.may) fun x=>Bq x.1 x.2.1
def Kr:AC:=match a32 with|.mk c _=>c
variable {e:Env}
theorem Zlk (hE:EM P e) (h32:Inl e 32 Kr [.tmp 2]):OvOk P 121 loF.O:=by
 refine Bo hE g121 ?_
 rintro ⟨⟨id,mb,ch,rw',lg,hd⟩,⟨ev,lo,sp,po,dn,nl,br⟩,_⟩ _ ⟨_,_,rfl,⟨rfl,hc⟩,_,_,rfl,ho,rfl⟩ hM K t f
 obtain ⟨rfl,h1,h2,h3,h4⟩:=Gu ho
 unfold Cfg.may at hM
 unfold Bq Ar at t f
 unfold Aa Be at *
 dsimp only at t f hM
 have hms:=DG (a:=ch) (b:=rw') (by omega) (by omega)
 show VW P e 0 _ (Ah [.agg [.int .u32 id,.int .i64 mb,.int .i64 ch,.int .i64 rw',.int .i64 lg,.int .i64 hd],.agg [.int .u32 ev,.int .i64 lo,.bool sp,.int .i64 po,.int .i64 dn,.bool nl,.bool br]] 0 .lf) St0 none [] _
 conv=>whnf
 repeat' (first|((first|refine ESc.inl h32 ?_|refine Cl rfl rfl hms ?_|refine An ?_|refine As ?_|refine ⟨rfl,?_⟩);conv=>whnf)|refine v1 ?_ ?_|refine v2 ?_ ?_|refine v3 ?_ ?_|refine v4 ?_ ?_|refine v5 ?_ ?_|(refine w19 rfl ?_ ?_ <;> intro hc <;> (try subst hc) <;> conv=>whnf)|(intro _;first|omega|conv=>whnf))
 all_goals first
  | exact f (by omega) _
  | exact t (by omega) _
  | exact f (by simp;omega) _
  | exact t (by simp;omega) _
  | trace_state
noncomputable def dirF:Fn (Hd×Unit):=bF (.g hdC .nil) (fun _=>True) fun x=>true ∈ x.1.2.2.1
theorem Zi3 (hE:EM P e):OvOk P 195 dirF.O:=by
 refine Bo hE g195 ?_
 rintro ⟨⟨st,bl,di,ph,de,sq⟩,_⟩ _ ⟨_,_,rfl,hh,rfl⟩-K t f
 obtain ⟨bv,dv,rfl,h1,h2,h3,h4,h5⟩:=Cn hh
 obtain ⟨cs,hs,hl,hn⟩:=h3.nth
 have hrow:=hdC.hf hh
 dsimp only at t f
 conv=>whnf
 refine Ax hE di.length (fun i=>[(1,.ptr 0 0),(3,.int .i64 (i:Int))]) (fun _=>[.row 55 [.int .i64 st,bv,dv,.int .u8 (ph:Int),.bool de,.int .u32 sq]]) (fun i=>∀ k<i,di[k]?≠some true) (fun k h=>by omega) (Abs.tells (rs:=[0]) .a) ?_
 intro i hi hI
 conv=>whnf
 refine Ai hs ?_;conv=>whnf
 by_cases hlt:i<di.length
 ·obtain ⟨b,_,l,hb,rfl,hd⟩:=hn i hlt
  repeat' (first|((first|refine Am hs hlt hd ?_|refine Ap ?_|refine v7 ?_|refine ⟨rfl,?_⟩);conv=>whnf)|refine v1 ?_ ?_|(refine w19 rfl ?_ ?_ <;> intro hc <;> (try subst hc) <;> conv=>whnf)|(intro _;first|omega|conv=>whnf))
  ·exact t (Zqv hb) _
  ·exact ⟨hlt,AR hI (by rw [hb];simp),Abs.tells (rs:=[0]) .a⟩
 ·repeat' (first|refine v1 ?_ ?_|(intro _;first|omega|conv=>whnf))
  exact f (fun hm=>by obtain ⟨k,hk⟩:=Zr0 hm;exact hI k (by have:=(Zqa.1 hk).1;omega) hk) _
def BB (b:List Nat):Prop:=b.length=0∨b.length=128
def DD (c:Cfg):Hd→Prop
 | (st,bl,di,ph,de,sq)=>(0≤st∧st<Ar c)∧(bl.length:Int)=c.members∧(di.length:Int)=c.members-1∧ph≤4∧(∀ k<bl.length,∀ b,bl[k]?=some b→BB b∧(di[k]?=some true→b.length≠0))∧(ph=0→(bl[di.length]?.getD []).length=0∧sq=0)∧(0<ph→(bl[di.length]?.getD []).length≠0∧true ∈ di)∧(ph=1→sq=0)∧(de=true→true ∈ di∧ph≤1)
noncomputable def hdF:Fn (Cfg×Hd×Unit):=bF (.g cfgC (.g hdC .nil)) (fun x=>x.1.may) fun x=>DD x.1 x.2.1
def Zjn:AC:=match MO with|.mk c _=>c
set_option maxHeartbeats 2000000 in
theorem Zlt (hE:EM P e) (h32:Inl e 32 Kr [.tmp 2]) (h128:Inl e 128 Zjn [.tmp 2]) (h195:Con e 195 dirF.O):OvOk P 165 hdF.O:=by
 refine Bo hE g165 ?_
 rintro ⟨⟨id,mb,ch,rw',lg,hd⟩,⟨st,bl,di,ph,de,sq⟩,_⟩ _ ⟨_,_,rfl,⟨rfl,hc⟩,_,_,rfl,hh,rfl⟩ hM K t f
 obtain ⟨bv,dv,rfl,h1,h2,h3,h4,h5⟩:=Cn hh
 obtain ⟨bs,hs,hl,hn⟩:=h2.nth
 obtain ⟨ds,hs',hl',hn'⟩:=h3.nth
 have hrow:=hdC.hf hh
 unfold Cfg.may at hM
 unfold DD Ar at t f
 unfold Aa Be at *
 dsimp only at t f hM hh
 have hms:=DG (a:=ch) (b:=rw') (by omega) (by omega)
 show VW P e 0 _ (Ah [.agg [.int .u32 id,.int .i64 mb,.int .i64 ch,.int .i64 rw',.int .i64 lg,.int .i64 hd],.agg [.int .i64 st,bv,dv,.int .u8 (ph:Int),.bool de,.int .u32 sq]] 0 .lf) St0 none [] _
 have hdir:=fun (Q:AV→St→Prop) s a b=>@bF.u _ _ _ _ e 195 s Q _ h195 ((st,bl,di,ph,de,sq),()) ⟨_,_,rfl,hh,rfl⟩ trivial a b
 conv=>whnf
 repeat' (first|((first|refine ESc.inl h32 ?_|refine Cl rfl rfl hms ?_|refine Ai hs ?_|refine AA rfl hs' ?_|refine v8 ?_|refine ⟨rfl,?_⟩);conv=>whnf)|refine v1 ?_ ?_|refine v3 ?_ ?_|refine v4 ?_ ?_|refine v6 ?_ ?_|(intro _;first|omega|conv=>whnf))
 all_goals try exact f (fun q=>by omega) _
 refine Ax hE bl.length (fun i=>[(2,.ptr 0 0),(3,.ptr 1 0),(5,.int .i64 mb),(6,.int .i64 (i:Int))]) (fun _=>[.row 24 [.int .u32 id,.int .i64 mb,.int .i64 ch,.int .i64 rw',.int .i64 lg,.int .i64 hd],.row 55 [.int .i64 st,bv,dv,.int .u8 (ph:Int),.bool de,.int .u32 sq]]) (fun i=>∀ k<i,∀ b,bl[k]?=some b→BB b∧(di[k]?=some true→b.length≠0)) (fun k h=>by omega) (Abs.tells (rs:=[0,1]) .a) ?_
 intro i hi hI
 conv=>whnf
 by_cases hlt:i<bl.length
 ·obtain ⟨b,_,l,hb,⟨u,rfl,hu⟩,hd⟩:=hn i hlt
  obtain ⟨us,hus,hul,-⟩:=hu.nth
  have hf:(BB b∧(di[i]?=some true→b.length≠0)→False)→∀ s,K (.bool false) s:=fun h=>f fun q=>h (q.2.2.2.2.1 i hlt b hb)
  have ht:(BB b∧(di[i]?=some true→b.length≠0))→∀ k<i+1,∀ b,bl[k]?=some b→BB b∧(di[k]?=some true→b.length≠0):=fun h=>AR hI fun c hc=>by rw [hb] at hc;cases hc;exact h
  unfold BB at hf ht
  by_cases hld:i<di.length
  ·obtain ⟨g,_,l',hg,rfl,hd'⟩:=hn' i hld
   rw [hg] at hf ht
   cases g
   ·have hf:=fun (h:¬(b.length=0∨b.length=128))=>hf fun q=>h q.1
    have ht:=fun h=>ht ⟨h,fun e=>by cases e⟩
    repeat' (first|((first|refine Am hs hlt hd ?_|refine Am hs' hld hd' ?_|refine Ap ?_|refine Ai hus ?_|refine ESc.inl h128 ?_|refine v7 ?_|refine v8 ?_|refine An ?_|refine As ?_|refine ⟨rfl,?_⟩);conv=>whnf)|refine v1 ?_ ?_|refine v5 ?_ ?_|(intro _;first|omega|conv=>whnf))
    all_goals first
     | exact hf (by omega) _
     | exact ⟨hlt,ht (by omega),Abs.tells (rs:=[0,1]) .a⟩
   ·have hf:=fun (h:¬((b.length=0∨b.length=128)∧b.length≠0))=>hf fun q=>h ⟨q.1,q.2 rfl⟩
    have ht:=fun h=>ht ⟨And.left h,fun e=>And.right h⟩
    repeat' (first|((first|refine Am hs hlt hd ?_|refine Am hs' hld hd' ?_|refine Ap ?_|refine Ai hus ?_|refine ESc.inl h128 ?_|refine v7 ?_|refine v8 ?_|refine An ?_|refine As ?_|refine ⟨rfl,?_⟩);conv=>whnf)|refine v1 ?_ ?_|refine v5 ?_ ?_|(intro _;first|omega|conv=>whnf))
    all_goals first
     | exact hf (by omega) _
     | exact ⟨hlt,ht (by omega),Abs.tells (rs:=[0,1]) .a⟩
  ·have hg:di[i]?=none:=Zsa (by omega)
   rw [hg] at hf ht
   have hf:=fun (h:¬(b.length=0∨b.length=128))=>hf fun q=>h q.1
   have ht:=fun h=>ht ⟨h,fun e=>by cases e⟩
   repeat' (first|((first|refine Am hs hlt hd ?_|refine Ap ?_|refine Ai hus ?_|refine ESc.inl h128 ?_|refine v7 ?_|refine v8 ?_|refine An ?_|refine As ?_|refine ⟨rfl,?_⟩);conv=>whnf)|refine v1 ?_ ?_|refine v5 ?_ ?_|(intro _;first|omega|conv=>whnf))
   all_goals first
    | exact hf (by omega) _
    | exact ⟨hlt,ht (by omega),Abs.tells (rs:=[0,1]) .a⟩
 ·obtain ⟨b,_,l,hb,⟨u,rfl,hu⟩,hd⟩:=hn di.length (by omega)
  obtain ⟨us,hus,hul,-⟩:=hu.nth
  have hI:∀ k<bl.length,∀ b,bl[k]?=some b→BB b∧(di[k]?=some true→b.length≠0):=fun k hk=>hI k (by omega)
  rw [hb] at t f
  dsimp only [Option.getD] at t f
  have f:=fun (h:¬((ph=0→b.length=0∧sq=0)∧(0<ph→b.length≠0∧true ∈ di)∧(ph=1→sq=0)∧(de=true→true ∈ di∧ph≤1)))=>f fun q=>h q.2.2.2.2.2
  have t:=fun h=>t ⟨by omega,by omega,by omega,by omega,hI,h⟩
  by_cases hD:true ∈ di <;> cases de <;> simp only [hD,and_true,and_false,imp_false,true_and,false_and,Bool.false_eq_true,false_implies,true_implies,not_true_eq_false,not_false_eq_true] at t f
  all_goals repeat' (first|(refine hdir _ _ (fun hq=>?_) (fun hq=>?_) <;> first|exact absurd hq hD|exact absurd hD hq|(conv=>whnf))|((first|refine BS rfl hs rfl (by omega) (by omega) hd ?_|refine Ap ?_|refine Ai hus ?_|refine v8 ?_|refine An ?_|refine As ?_);conv=>whnf)|refine v1 ?_ ?_|refine v2 ?_ ?_|refine v3 ?_ ?_|refine v5 ?_ ?_|refine v6 ?_ ?_|(intro _;first|omega|conv=>whnf))
  all_goals first
   | exact f (by omega) _
   | exact t (by omega) _
   | exact f _
   | exact t _
def Cc (c:Cfg) (hs:List Hd):Prop:=(∀ k<hs.length,∀ h,hs[k]?=some h→DD c h∧∀ j<k,∀ g,hs[j]?=some g→g.1≠h.1)∧(hs.length:Int)≤c.heads
noncomputable def shF:Fn (Cfg×List Hd×Unit):=bF (.g cfgC (.v hdC.sl .nil)) (fun x=>x.1.may) fun x=>Cc x.1 x.2.1
theorem Zky (hE:EM P e) (h165:Con e 165 hdF.O):OvOk P 122 shF.O:=by
 refine Bo hE g122 ?_
 rintro ⟨c,hs,_⟩ _ ⟨_,_,rfl,⟨rfl,hc⟩,v,_,rfl,⟨_,e0,hh⟩,rfl⟩ hM K t f
 cases e0
 obtain ⟨cs,hs',hl,hn⟩:=hh.nth
 have hvf:=hh.hf
 dsimp only at t f hM hc hs' hl hn
 unfold Cc at t f
 have hcall:=fun (x:Hd) l (hx:hdC.r x l) (Q:AV→St→Prop) s a b=>@bF.u _ _ _ _ e 165 s Q _ h165 (c,x,()) ⟨_,_,rfl,⟨rfl,hc⟩,_,_,rfl,hx,rfl⟩ hM a b
 obtain ⟨id,mb,ch,rw',lg,hd⟩:=c
 have hM':=hM
 unfold Cfg.may at hM'
 dsimp only at hM' t f
 show VW P e 0 _ (Ah [.agg [.int .u32 id,.int .i64 mb,.int .i64 ch,.int .i64 rw',.int .i64 lg,.int .i64 hd],v] 0 .lf) St0 none [] _
 conv=>whnf
 refine Ax hE hs.length (fun i=>[(1,v),(2,.ptr 0 0),(5,.int .i64 (i:Int))]) (fun _=>[.row 24 [.int .u32 id,.int .i64 mb,.int .i64 ch,.int .i64 rw',.int .i64 lg,.int .i64 hd]]) (fun i=>∀ k<i,∀ h,hs[k]?=some h→DD ⟨id,mb,ch,rw',lg,hd⟩ h∧∀ j<k,∀ g,hs[j]?=some g→g.1≠h.1) (fun k h=>by omega) (Abs.tells (rs:=[0]) .a) ?_
 intro i hi hI
 conv=>whnf
 refine AA rfl hs' ?_;conv=>whnf
 by_cases hlt:i<hs.length
 ·obtain ⟨x,l,r,hx,hxr,hd'⟩:=hn i hlt
  have hcall:=hcall x l hxr
  obtain ⟨st,bl,di,ph,de,sq⟩:=x
  obtain ⟨bv,dv,rfl,h1,h2,h3,h4,h5⟩:=Cn hxr
  repeat' (first|(refine hcall _ _ (fun hq=>?_) (fun hq=>?_) <;> conv=>whnf)|((first|refine Am hs' hlt hd' ?_|refine A7 (cs:=[.int .i64 st,bv,dv,.int .u8 (ph:Int),.bool de,.int .u32 sq]) rfl ?_|refine An ?_|refine As ?_);conv=>whnf)|refine v1 ?_ ?_|(intro _;first|omega|conv=>whnf))
  ·refine Ax hE i (fun k=>[(1,v),(2,.ptr 0 0),(5,.int .i64 (i:Int)),(6,.int .i64 (k:Int))]) (fun _=>[.row 24 [.int .u32 id,.int .i64 mb,.int .i64 ch,.int .i64 rw',.int .i64 lg,.int .i64 hd]]) (fun k=>∀ j<k,∀ g,hs[j]?=some g→g.1≠st) (fun k h=>by omega) (Abs.tells (rs:=[0]) .a) ?_
   intro k hk hK
   conv=>whnf
   by_cases hkt:k<i
   ·obtain ⟨y,l',r',hy,hyr,hd2⟩:=hn k (by omega)
    obtain ⟨st',bl',di',ph',de',sq'⟩:=y
    obtain ⟨bv',dv',rfl,-⟩:=Cn hyr
    repeat' (first|((first|refine Am hs' hlt hd' ?_|refine El rfl hs' rfl (show k<_ by omega) hd2 ?_|refine Ap ?_|refine v7 ?_|refine ⟨rfl,?_⟩);conv=>whnf)|refine v1 ?_ ?_|refine v5 ?_ ?_|(intro _;first|omega|conv=>whnf))
    ·exact f (fun q=>(q.1 i hlt _ hx).2 k hkt _ hy (by assumption)) _
    ·exact ⟨hkt,AR hK fun g hg=>by rw [hy] at hg;cases hg;assumption,Abs.tells (rs:=[0]) .a⟩
   ·repeat' (first|((first|refine v7 ?_|refine ⟨rfl,?_⟩);conv=>whnf)|refine v1 ?_ ?_|(intro _;first|omega|conv=>whnf))
    exact ⟨hlt,AR hI fun h hh=>by rw [hx] at hh;cases hh;exact ⟨hq,fun j hj=>hK j (by omega)⟩,Abs.tells (rs:=[0]) .a⟩
  ·skip
   exact f (fun q=>hq (q.1 i hlt _ hx).1) _
 ·repeat' (first|(refine AA rfl hs' ?_;conv=>whnf)|refine v1 ?_ ?_|refine v2 ?_ ?_|(intro _;first|omega|conv=>whnf))
  ·exact t ⟨fun k hk=>hI k (by omega),by omega⟩ _
  ·exact f (fun q=>by omega) _
def AJ (L:List Lv) (s:Int):Nat→Int
 | 0=>-1
 | i+1=>if L[i]?.map Lv.stripe=some s then (i:Int) else AJ L s i
theorem HQ (L:List Lv) (s:Int):∀ n,-1≤AJ L s n∧AJ L s n<n
 | 0=>by unfold AJ;omega
 | n+1=>by
  have:=HQ L s n
  unfold AJ
  split <;> omega
def lastF:Fn (List Lv×Int×Unit):=⟨.v lvC.sl (.v i64C .nil),fun _=>True,fun x=>.int .i64 (AJ x.1 x.2.1 x.1.length)⟩
theorem Zaa (hE:EM P e):OvOk P 172 lastF.O:=by
 refine Bs g172.b ?_
 rintro ⟨L,s,_⟩ _ ⟨v,_,rfl,⟨_,e0,hL⟩,_,_,rfl,⟨e1,hs⟩,rfl⟩ -
 cases e0
 cases e1
 obtain ⟨cs,hs',hl,hn⟩:=hL.nth
 have hvf:=hL.hf
 refine ⟨rfl,C.of_G hE g172 ?_⟩
 have fin:∀ s' a,a=AJ L s L.length→Frz s' (.int .i64 a) (lastF.out (L,s,())):=fun s' a h=>by subst h;exact .plain _ rfl
 generalize lastF.out _=O at fin ⊢
 dsimp only at hl hn hs'
 conv=>whnf
 refine Ax hE L.length (fun i=>[(0,v),(1,.int .i64 s),(5,.int .i64 (AJ L s i)),(6,.int .i64 (i:Int))]) (fun _=>[]) (fun _=>True) trivial (Abs.tells (rs:=[]) .a) ?_
 intro i hi _
 conv=>whnf
 refine AA rfl hs' ?_;conv=>whnf
 by_cases hlt:i<L.length
 ·obtain ⟨x,_,r,hx,⟨rfl,hx'⟩,hd⟩:=hn i hlt
  have hst:AJ L s (i+1)=if x.stripe=s then (i:Int) else AJ L s i:=by
   show (if L[i]?.map Lv.stripe=some s then (i:Int) else AJ L s i)=_
   rw [hx];simp
  obtain ⟨sq,st,bl,pa,su,ho⟩:=x
  dsimp only at hst
  repeat' (first|((first|refine Am hs' hlt hd ?_|refine Ap ?_|refine v7 ?_|refine ⟨rfl,?_⟩);conv=>whnf)|refine v1 ?_ ?_|refine v5 ?_ ?_|(intro _;first|omega|conv=>whnf))
  ·exact ⟨hlt,trivial,Abs.tells (rs:=[]) ⟨by decide,⟨t9,r9,⟨rfl,by rw [hst,Zqd (by assumption)];rfl⟩,r9,trivial⟩,trivial⟩⟩
  ·exact ⟨hlt,trivial,Abs.tells (rs:=[]) ⟨by decide,⟨t9,r9,⟨rfl,by rw [hst,Zqh (by assumption)];rfl⟩,r9,trivial⟩,trivial⟩⟩
 ·repeat' (first|refine v1 ?_ ?_|(intro _;first|omega|conv=>whnf))
  exact fin _ _ (by rw [show i=L.length by omega])
theorem Zab (hE:EM P e):OvOk P 126 lastF.O:=by
 refine Bs g126.b ?_
 rintro ⟨L,s,_⟩ _ ⟨v,_,rfl,⟨_,e0,hL⟩,_,_,rfl,⟨e1,hs⟩,rfl⟩ -
 cases e0
 cases e1
 obtain ⟨cs,hs',hl,hn⟩:=hL.nth
 have hvf:=hL.hf
 refine ⟨rfl,C.of_G hE g126 ?_⟩
 have fin:∀ s' a,a=AJ L s L.length→Frz s' (.int .i64 a) (lastF.out (L,s,())):=fun s' a h=>by subst h;exact .plain _ rfl
 generalize lastF.out _=O at fin ⊢
 dsimp only at hl hn hs'
 conv=>whnf
 refine Ax hE L.length (fun i=>[(0,v),(1,.int .i64 s),(5,.int .i64 (AJ L s i)),(6,.int .i64 (i:Int))]) (fun _=>[]) (fun _=>True) trivial (Abs.tells (rs:=[]) .a) ?_
 intro i hi _
 conv=>whnf
 refine AA rfl hs' ?_;conv=>whnf
 by_cases hlt:i<L.length
 ·obtain ⟨x,_,r,hx,⟨rfl,hx'⟩,hd⟩:=hn i hlt
  have hst:AJ L s (i+1)=if x.stripe=s then (i:Int) else AJ L s i:=by
   show (if L[i]?.map Lv.stripe=some s then (i:Int) else AJ L s i)=_
   rw [hx];simp
  obtain ⟨sq,st,bl,pa,su,ho⟩:=x
  dsimp only at hst
  repeat' (first|((first|refine Am hs' hlt hd ?_|refine Ap ?_|refine v7 ?_|refine ⟨rfl,?_⟩);conv=>whnf)|refine v1 ?_ ?_|refine v5 ?_ ?_|(intro _;first|omega|conv=>whnf))
  ·exact ⟨hlt,trivial,Abs.tells (rs:=[]) ⟨by decide,⟨t9,r9,⟨rfl,by rw [hst,Zqd (by assumption)];rfl⟩,r9,trivial⟩,trivial⟩⟩
  ·exact ⟨hlt,trivial,Abs.tells (rs:=[]) ⟨by decide,⟨t9,r9,⟨rfl,by rw [hst,Zqh (by assumption)];rfl⟩,r9,trivial⟩,trivial⟩⟩
 ·repeat' (first|refine v1 ?_ ?_|(intro _;first|omega|conv=>whnf))
  exact fin _ _ (by rw [show i=L.length by omega])
def Kp (L:List Lv) (s:Int):Prop:=0≤AJ L s L.length∧∀ x,L[(AJ L s L.length).toNat]?=some x→x.par=false
noncomputable def drtF:Fn (List Lv×Int×Unit):=bF (.v lvC.sl (.v i64C .nil)) (fun _=>True) fun x=>Kp x.1 x.2.1
theorem Zix (hE:EM P e) (h172:Con e 172 lastF.O):OvOk P 127 drtF.O:=by
 refine Bo hE g127 ?_
 rintro ⟨L,s,_⟩ _ ⟨v,_,rfl,⟨_,e0,hL⟩,_,_,rfl,⟨e1,hs⟩,rfl⟩-K t f
 cases e0
 cases e1
 obtain ⟨cs,hs',hl,hn⟩:=hL.nth
 have hvf:=hL.hf
 dsimp only at hl hn hs' t f
 have hla:=HQ L s L.length
 have hc:=fun (Q:AV→St→Prop) s' k=>@Fn.u _ e 172 s' Q lastF [v,.int .i64 s] h172 (L,s,()) ⟨_,_,rfl,⟨_,rfl,hL⟩,_,_,rfl,⟨rfl,hs⟩,rfl⟩ trivial k
 unfold Kp at t f
 replace hc:∀ (Q:AV→St→Prop) s',Q (.int .i64 (AJ L s L.length)) s'→ESc e 172 [v,.int .i64 s] s' Q:=hc
 generalize AJ L s L.length=a at *
 conv=>whnf
 refine hc _ _ ?_;conv=>whnf
 by_cases ha:0≤a
 ·obtain ⟨x,_,r,hx,⟨rfl,hx'⟩,hd⟩:=hn a.toNat (by omega)
  obtain ⟨sq,st,bl,pa,su,ho⟩:=x
  rw [hx] at t f
  cases pa <;> repeat' (first|((first|refine BS rfl hs' rfl (show a=_ by omega) (by omega) hd ?_|refine Ap ?_|refine An ?_|refine As ?_);conv=>whnf)|refine v4 ?_ ?_|(intro _;first|omega|conv=>whnf))
  ·exact t ⟨ha,fun y hy=>by cases hy;rfl⟩ _
  ·exact f (fun q=>by have:=q.2 _ rfl;cases this) _
 ·repeat' (first|refine v4 ?_ ?_|(intro _;first|omega|conv=>whnf))
  exact f (fun q=>ha q.1) _
def Jh (L:List Lv) (i:Nat) (x:Lv):Int:=if AJ L x.stripe L.length=i∧x.par=false then 1 else 0
def Dq (L:List Lv):Nat→Int
 | 0=>0
 | i+1=>Dq L i+((L[i]?.map (Jh L i)).getD 0)
theorem NI (L:List Lv):∀ n,0≤Dq L n∧Dq L n≤n
 | 0=>by unfold Dq;omega
 | n+1=>by
  have:=NI L n
  unfold Dq
  cases L[n]? with
  | none=>simp;omega
  | some x=>simp only [Option.map,Option.getD,Jh];split <;> omega
def BZ (L:List Lv):Nat→Int
 | 0=>0
 | i+1=>BZ L i+((L[i]?.map Lv.blocks).getD 0)
def Ig (L:List Lv):Prop:=L.length≤1000∧∀ x ∈ L,0≤x.blocks∧x.blocks≤100
variable {L:List Lv}
theorem ND (h:Ig L):∀ n,0≤BZ L n∧BZ L n≤100*n
 | 0=>by unfold BZ;omega
 | n+1=>by
  have:=ND h n
  unfold BZ
  cases hx:L[n]? with
  | none=>simp;omega
  | some x=>have:=h.2 x (Zqv hx);simp only [Option.map,Option.getD];omega
def manyF:Fn (List Lv×Unit):=⟨.v lvC.sl .nil,fun _=>True,fun x=>.int .i64 (Dq x.1 x.1.length)⟩
theorem Zee (hE:EM P e) (h172:Con e 172 lastF.O):OvOk P 197 manyF.O:=by
 refine Bs g197.b ?_
 rintro ⟨L,_⟩ _ ⟨v,_,rfl,⟨_,e0,hL⟩,rfl⟩ -
 cases e0
 obtain ⟨cs,hs',hl,hn⟩:=hL.lv
 have hvf:=hL.hf
 refine ⟨rfl,C.of_G hE g197 ?_⟩
 have fin:∀ s' a,a=Dq L L.length→Frz s' (.int .i64 a) (manyF.out (L,())):=fun s' a h=>by subst h;exact .plain _ rfl
 generalize manyF.out _=O at fin ⊢
 dsimp only at hl hn hs' hL
 have hc:∀ s,(Lit.int .i64 s).wf=true→∀ (Q:AV→St→Prop) s',Q (.int .i64 (AJ L s L.length)) s'→ESc e 172 [v,.int .i64 s] s' Q:=fun s hs Q s' k=>@Fn.u _ e 172 s' Q lastF [v,.int .i64 s] h172 (L,s,()) ⟨_,_,rfl,⟨_,rfl,hL⟩,_,_,rfl,⟨rfl,hs⟩,rfl⟩ trivial k
 conv=>whnf
 refine Ax hE L.length (fun i=>[(0,v),(3,.int .i64 (Dq L i)),(4,.int .i64 (i:Int))]) (fun _=>[]) (fun _=>True) trivial (Abs.tells (rs:=[]) .a) ?_
 intro i hi _
 conv=>whnf
 refine AA rfl hs' ?_;conv=>whnf
 by_cases hlt:i<L.length
 ·obtain ⟨sq,st,bl,pa,su,ho,r,hx,hx',hd⟩:=hn i hlt
  have hst:Dq L (i+1)=Dq L i+Jh L i ⟨sq,st,bl,pa,su,ho⟩:=by
   show Dq L i+((L[i]?.map (Jh L i)).getD 0)=_
   rw [hx];rfl
  have hm:=NI L i
  have hc:=hc st (AW hx'.2.1)
  unfold Jh at hst
  dsimp only at hst
  cases pa <;> simp only [and_true,and_false,if_false,Bool.true_eq_false,Bool.false_eq_true] at hst
  all_goals repeat' (first|((first|refine Am hs' hlt hd ?_|refine Ap ?_|refine hc _ _ ?_|refine v7 ?_|refine An ?_|refine As ?_|refine ⟨rfl,?_⟩);conv=>whnf)|refine v1 ?_ ?_|refine v5 ?_ ?_|(intro _;first|omega|conv=>whnf))
  ·exact ⟨hlt,trivial,Abs.tells (rs:=[]) ⟨by decide,⟨t9,⟨rfl,by rw [hst,Zqd (by assumption)];rfl⟩,r9,trivial⟩,trivial⟩⟩
  ·exact ⟨hlt,trivial,Abs.tells (rs:=[]) ⟨by decide,⟨t9,⟨rfl,by rw [hst,Zqh (by assumption),Int.add_zero];rfl⟩,r9,trivial⟩,trivial⟩⟩
  ·exact ⟨hlt,trivial,Abs.tells (rs:=[]) ⟨by decide,⟨t9,⟨rfl,by rw [hst,Int.add_zero];rfl⟩,r9,trivial⟩,trivial⟩⟩
  ·exact ⟨hlt,trivial,Abs.tells (rs:=[]) ⟨by decide,⟨t9,⟨rfl,by rw [hst,Int.add_zero];rfl⟩,r9,trivial⟩,trivial⟩⟩
 ·repeat' (first|refine v1 ?_ ?_|(intro _;first|omega|conv=>whnf))
  exact fin _ _ (by rw [show i=L.length by omega])
def usedF:Fn (List Lv×Unit):=⟨.v lvC.sl .nil,fun x=>Ig x.1,fun x=>.int .i64 (BZ x.1 x.1.length)⟩
theorem Zdl (hE:EM P e):OvOk P 167 usedF.O:=by
 refine Bs g167.b ?_
 rintro ⟨L,_⟩ _ ⟨v,_,rfl,⟨_,e0,hL⟩,rfl⟩ hS
 cases e0
 obtain ⟨cs,hs',hl,hn⟩:=hL.lv
 have hvf:=hL.hf
 refine ⟨rfl,C.of_G hE g167 ?_⟩
 have fin:∀ s' a,a=BZ L L.length→Frz s' (.int .i64 a) (usedF.out (L,())):=fun s' a h=>by subst h;exact .plain _ rfl
 generalize usedF.out _=O at fin ⊢
 have hS:Ig L:=hS
 have hS1:=hS.1
 dsimp only at hl hn hs' hL
 conv=>whnf
 refine Ax hE L.length (fun i=>[(0,v),(3,.int .i64 (BZ L i)),(4,.int .i64 (i:Int))]) (fun _=>[]) (fun _=>True) trivial (Abs.tells (rs:=[]) .a) ?_
 intro i hi _
 conv=>whnf
 refine AA rfl hs' ?_;conv=>whnf
 by_cases hlt:i<L.length
 ·obtain ⟨sq,st,bl,pa,su,ho,r,hx,hx',hd⟩:=hn i hlt
  have hst:BZ L (i+1)=BZ L i+bl:=by
   show BZ L i+((L[i]?.map Lv.blocks).getD 0)=_
   rw [hx];rfl
  have hm:=ND hS i
  have hb:=hS.2 _ (Zqv hx)
  dsimp only at hst hb
  repeat' (first|((first|refine Am hs' hlt hd ?_|refine Ap ?_|refine v7 ?_|refine ⟨rfl,?_⟩);conv=>whnf)|refine v1 ?_ ?_|(intro _;first|omega|conv=>whnf))
  exact ⟨hlt,trivial,Abs.tells (rs:=[]) ⟨by decide,⟨t9,⟨rfl,by rw [hst];rfl⟩,r9,trivial⟩,trivial⟩⟩
 ·repeat' (first|refine v1 ?_ ?_|(intro _;first|omega|conv=>whnf))
  exact fin _ _ (by rw [show i=L.length by omega])
def Mo (c:Cfg) (L:List Lv):Prop:=(c.members+1)*Dq L L.length≤c.log-BZ L L.length
noncomputable def roomF:Fn (Cfg×List Lv×Unit):=bF (.g cfgC (.v lvC.sl .nil)) (fun x=>x.1.may∧Ig x.2.1) fun x=>Mo x.1 x.2.1
def W2:AC:=match MM with|.mk c _=>c
theorem Zd1 (hE:EM P e) (h164:Inl e 164 W2 [.tmp 2]) (h167:Con e 167 usedF.O) (h197:Con e 197 manyF.O):OvOk P 168 roomF.O:=by
 refine Bo hE g168 ?_
 rintro ⟨c,L,_⟩ _ ⟨_,_,rfl,⟨rfl,hc⟩,v,_,rfl,⟨_,e0,hL⟩,rfl⟩ ⟨hM,hS⟩ K t f
 cases e0
 have hm:=NI L L.length
 have hu:=ND hS L.length
 have hS1:=hS.1
 have hc1:∀ (Q:AV→St→Prop) s',Q (.int .i64 (Dq L L.length)) s'→ESc e 197 [v] s' Q:=fun Q s' k=>Fn.u (F:=manyF) h197 (L,()) ⟨_,_,rfl,⟨_,rfl,hL⟩,rfl⟩ trivial k
 have hc2:∀ (Q:AV→St→Prop) s',Q (.int .i64 (BZ L L.length)) s'→ESc e 167 [v] s' Q:=fun Q s' k=>Fn.u (F:=usedF) h167 (L,()) ⟨_,_,rfl,⟨_,rfl,hL⟩,rfl⟩ hS k
 unfold Mo at t f
 have hlg:=GF hM
 unfold Cfg.may at hM
 obtain ⟨id,mb,ch,rw',lg,hd⟩:=c
 dsimp only at t f hM hm hu hS1 hlg
 have hp:=DG (a:=mb+1) (b:=Dq L L.length) (by omega) (by omega)
 generalize Dq L L.length=m at *
 generalize BZ L L.length=u at *
 show VW P e 0 _ (Ah [.agg [.int .u32 id,.int .i64 mb,.int .i64 ch,.int .i64 rw',.int .i64 lg,.int .i64 hd],v] 0 .lf) St0 none [] _
 conv=>whnf
 repeat' (first|((first|refine hc1 _ _ ?_|refine hc2 _ _ ?_|refine ESc.inl h164 ?_|refine Cl rfl rfl hp ?_|refine v7 ?_|refine v8 ?_|refine ⟨rfl,?_⟩);conv=>whnf)|refine v4 ?_ ?_|(intro _;first|omega|conv=>whnf))
 ·exact t (by assumption) _
 ·exact f (by omega) _
def OI (L:List Lv) (k:Nat):Prop:=∀ x,L[k]?=some x→x.sure=true∧∃ i y,k≤i∧L[i]?=some y∧y.stripe=x.stripe∧y.home=true∧y.par=true
noncomputable def homF:Fn (List Lv×Int×Unit):=bF (.v lvC.sl (.v i64C .nil)) (fun x=>0≤x.2.1∧x.2.1<x.1.length) fun x=>OI x.1 x.2.1.toNat
theorem Zhs (hE:EM P e):OvOk P 196 homF.O:=by
 refine Bo hE g196 ?_
 rintro ⟨L,a,_⟩ _ ⟨v,_,rfl,⟨_,e0,hL⟩,_,_,rfl,⟨e1,hs⟩,rfl⟩ hk K t f
 cases e0
 cases e1
 obtain ⟨k,rfl⟩:∃ k:Nat,a=k:=⟨a.toNat,by have:=hk.1;dsimp only at this;omega⟩
 obtain ⟨cs,hs',hl,hn⟩:=hL.lv
 have hvf:=hL.hf
 have hkl:k<L.length:=by have:=hk.2;dsimp only at this;omega
 dsimp only at hl hn hs' t f
 rw [Int.toNat_natCast] at t f
 unfold OI at t f
 obtain ⟨sq,st,bl,pa,su,ho,r,hx,hx',hd⟩:=hn k hkl
 rw [hx] at t f
 conv=>whnf
 cases su
 ·repeat' (first|((first|refine Am hs' hkl hd ?_|refine Ap ?_|refine v7 ?_|refine v8 ?_|refine v9 ?_|refine C6 ?_|refine C5 ?_|refine An ?_|refine As ?_|refine Cj ?_|refine CG ?_|refine CU ?_|refine Cp ?_|refine CK ?_|refine CX ?_|refine BY ?_|refine ⟨rfl,?_⟩);conv=>whnf)|refine v1 ?_ ?_|refine v2 ?_ ?_|refine v3 ?_ ?_|refine v4 ?_ ?_|refine v5 ?_ ?_|refine v6 ?_ ?_|((first|refine w19 rfl ?_ ?_|refine w20 rfl ?_ ?_) <;> intro hc <;> (try subst hc) <;> conv=>whnf)|(intro _;first|omega|conv=>whnf))
  exact f (fun q=>by have:=(q _ rfl).1;cases this) _
 ·repeat' (first|((first|refine Am hs' hkl hd ?_|refine Ap ?_|refine v7 ?_|refine v8 ?_|refine v9 ?_|refine C6 ?_|refine C5 ?_|refine An ?_|refine As ?_|refine Cj ?_|refine CG ?_|refine CU ?_|refine Cp ?_|refine CK ?_|refine CX ?_|refine BY ?_|refine ⟨rfl,?_⟩);conv=>whnf)|refine v1 ?_ ?_|refine v2 ?_ ?_|refine v3 ?_ ?_|refine v4 ?_ ?_|refine v5 ?_ ?_|refine v6 ?_ ?_|((first|refine w19 rfl ?_ ?_|refine w20 rfl ?_ ?_) <;> intro hc <;> (try subst hc) <;> conv=>whnf)|(intro _;first|omega|conv=>whnf))
  refine Ax hE (L.length-k) (fun j=>[(0,v),(1,.int .i64 (k:Int)),(5,.int .i64 ((k+j:Nat):Int))]) (fun _=>[]) (fun j=>∀ i<j,∀ y,L[k+i]?=some y→¬(y.stripe=st∧y.home=true∧y.par=true)) (fun k h=>by omega) (Abs.tells (rs:=[]) .a) ?_
  intro j hj hJ
  conv=>whnf
  refine AA rfl hs' ?_;conv=>whnf
  by_cases hlt:k+j<L.length
  ·obtain ⟨sq',st',bl',pa',su',ho',r',hy,hy',hd'⟩:=hn (k+j) hlt
   have hT:st'=st→ho'=true→pa'=true→∀ s,K (.bool true) s:=fun h1 h2 h3=>t fun x e=>by
    cases e
    exact ⟨rfl,k+j,_,Nat.le_add_right _ _,hy,h1,h2,h3⟩
   have hN:¬(st'=st∧ho'=true∧pa'=true)→∀ i<j+1,∀ y,L[k+i]?=some y→¬(y.stripe=st∧y.home=true∧y.par=true):=fun h=>AR hJ fun y e=>by rw [hy] at e;cases e;exact h
   cases ho' <;> cases pa'
   all_goals repeat' (first|((first|refine Am hs' hlt hd' ?_|refine Am hs' hkl hd ?_|refine Ap ?_|refine v7 ?_|refine v8 ?_|refine v9 ?_|refine C6 ?_|refine C5 ?_|refine An ?_|refine As ?_|refine Cj ?_|refine CG ?_|refine CU ?_|refine Cp ?_|refine CK ?_|refine CX ?_|refine BY ?_|refine ⟨rfl,?_⟩);conv=>whnf)|refine v1 ?_ ?_|refine v2 ?_ ?_|refine v3 ?_ ?_|refine v4 ?_ ?_|refine v5 ?_ ?_|refine v6 ?_ ?_|((first|refine w19 rfl ?_ ?_|refine w20 rfl ?_ ?_) <;> intro hc <;> (try subst hc) <;> conv=>whnf)|(intro _;first|omega|conv=>whnf))
   all_goals first
    | exact hT (by assumption) rfl rfl _
    | (refine ⟨by omega,hN ?_,Abs.tells (rs:=[]) .a⟩;first|(simp;done)|exact fun q=>absurd q.1 (by assumption))
  ·repeat' (first|((first|refine v7 ?_|refine v8 ?_|refine v9 ?_|refine C6 ?_|refine C5 ?_|refine An ?_|refine As ?_|refine Cj ?_|refine CG ?_|refine CU ?_|refine Cp ?_|refine CK ?_|refine CX ?_|refine BY ?_|refine ⟨rfl,?_⟩);conv=>whnf)|refine v1 ?_ ?_|refine v2 ?_ ?_|refine v3 ?_ ?_|refine v4 ?_ ?_|refine v5 ?_ ?_|refine v6 ?_ ?_|((first|refine w19 rfl ?_ ?_|refine w20 rfl ?_ ?_) <;> intro hc <;> (try subst hc) <;> conv=>whnf)|(intro _;first|omega|conv=>whnf))
   refine f (fun q=>?_) _
   obtain ⟨_,i,y,h1,h2,h3,h4,h5⟩:=q _ rfl
   have hi:=(Zqa.1 h2).1
   exact hJ (i-k) (by omega) y (by rw [show k+(i-k)=i by omega];exact h2) ⟨h3,h4,h5⟩
def eP (c:Cfg) (L:List Lv) (sq:Int) (i:Nat) (x:Lv):Prop:=(0≤x.stripe∧x.stripe<Ar c)∧2≤x.blocks∧x.blocks≤c.members+1∧x.seq=sq-L.length+i∧1≤x.seq∧(0<i→x.sure=true→∀ y,L[i-1]?=some y→y.sure=true)∧(x.home=true→OI L i)
noncomputable def eachF:Fn (Cfg×Lg×Unit):=bF (.g cfgC (.g lgC .nil)) (fun x=>x.1.may) fun x=>∀ i y,x.2.1.2.2.2.2[i]?=some y→eP x.1 x.2.1.2.2.2.2 x.2.1.2.1 i y
set_option maxHeartbeats 2000000 in
theorem Zfc (hE:EM P e) (h32:Inl e 32 Kr [.tmp 2]) (h164:Inl e 164 W2 [.tmp 2]) (h196:Con e 196 homF.O):OvOk P 166 eachF.O:=by
 refine Bo hE g166 ?_
 rintro ⟨⟨id,mb,ch,rw',lg,hd⟩,⟨ag,sq,tl,us,L⟩,_⟩ _ ⟨_,_,rfl,⟨rfl,hc⟩,_,_,rfl,hg,rfl⟩ hM K t f
 obtain ⟨v,rfl,o1,o2,o3,o4,hL⟩:=Mt hg
 obtain ⟨cs,hs',hl,hn⟩:=hL.lv
 have hvf:=hL.hf
 have hrow:=lgC.hf hg
 have hhm:=fun (i:Nat) (hi:i<L.length) (Q:AV→St→Prop) s a b=>@bF.u _ _ _ _ e 196 s Q [v,.int .i64 (i:Int)] h196 (L,(i:Int),()) ⟨_,_,rfl,⟨_,rfl,hL⟩,_,_,rfl,⟨rfl,AW (show Aa (i:Int) by unfold Aa;omega)⟩,rfl⟩ ⟨Zrs _,Int.ofNat_lt.2 hi⟩ a b
 unfold Cfg.may at hM
 unfold Be at o2
 dsimp only at t f hM hn
 have hms:=DG (a:=ch) (b:=rw') (by omega) (by omega)
 show VW P e 0 _ (Ah [.agg [.int .u32 id,.int .i64 mb,.int .i64 ch,.int .i64 rw',.int .i64 lg,.int .i64 hd],.agg [.int .u32 ag,.int .u32 sq,.int .i64 tl,.int .i64 us,v]] 0 .lf) St0 none [] _
 conv=>whnf
 refine Ax hE L.length (fun i=>[(2,.ptr 0 0),(3,.ptr 1 0),(5,.int .i64 (i:Int))]) (fun _=>[.row 24 [.int .u32 id,.int .i64 mb,.int .i64 ch,.int .i64 rw',.int .i64 lg,.int .i64 hd],.row 30 [.int .u32 ag,.int .u32 sq,.int .i64 tl,.int .i64 us,v]]) (fun i=>∀ k<i,∀ y,L[k]?=some y→eP ⟨id,mb,ch,rw',lg,hd⟩ L sq k y) (fun k h=>by omega) (Abs.tells (rs:=[0,1]) .a) ?_
 intro i hi hI
 conv=>whnf
 refine AA rfl hs' ?_;conv=>whnf
 by_cases hlt:i<L.length
 ·obtain ⟨sq',st,bl,pa,su,ho,r,hx,hx',hd'⟩:=hn i hlt
  have hf:¬eP ⟨id,mb,ch,rw',lg,hd⟩ L sq i ⟨sq',st,bl,pa,su,ho⟩→∀ s,K (.bool false) s:=fun h=>f fun q=>h (q i _ hx)
  have ht:eP ⟨id,mb,ch,rw',lg,hd⟩ L sq i ⟨sq',st,bl,pa,su,ho⟩→∀ k<i+1,∀ y,L[k]?=some y→eP ⟨id,mb,ch,rw',lg,hd⟩ L sq k y:=fun h=>AR hI fun y e=>by rw [hx] at e;cases e;exact h
  have hhm:=hhm i hlt
  unfold eP Ar at hf
  have ht:=fun (h:(0≤st∧st<ch*rw')∧2≤bl∧bl≤mb+1∧sq'=sq-L.length+i∧1≤sq') h1 h2=>ht ⟨h.1,h.2.1,h.2.2.1,h.2.2.2.1,h.2.2.2.2,h1,h2⟩
  have hfA:=fun (h:¬((0≤st∧st<ch*rw')∧2≤bl∧bl≤mb+1∧sq'=sq-L.length+i∧1≤sq'))=>hf fun q=>h ⟨q.1,q.2.1,q.2.2.1,q.2.2.2.1,q.2.2.2.2.1⟩
  have hfS:=fun (h:_→False)=>hf fun q=>h q.2.2.2.2.2.1
  have hfH:=fun (h:_→False)=>hf fun q=>h q.2.2.2.2.2.2
  dsimp only at ht hfS hfH
  clear hf f t hI
  unfold Aa Be at hx'
  by_cases h0:0<i
  ·obtain ⟨sq2,st2,bl2,pa2,su2,ho2,r2,hxp,-,hdp⟩:=hn (i-1) (by omega)
   repeat' (first|(refine hhm _ _ (fun hq=>?_) (fun hq=>?_) <;> conv=>whnf)|((first|refine BS rfl hs' rfl (show (i:Int)-1=((i-1:Nat):Int) by omega) (by omega) hdp ?_|refine Am hs' hlt hd' ?_|refine A7 (cs:=[.int .u32 sq',.int .i64 st,.int .i64 bl,.bool pa,.bool su,.bool ho]) rfl ?_|refine Ap ?_|refine AA rfl hs' ?_|refine ESc.inl h32 ?_|refine ESc.inl h164 ?_|refine Cl rfl rfl hms ?_|refine v7 ?_|refine v8 ?_|refine v9 ?_|refine C6 ?_|refine C5 ?_|refine An ?_|refine As ?_|refine Cj ?_|refine CG ?_|refine CU ?_|refine Cp ?_|refine CK ?_|refine CX ?_|refine BY ?_|refine ⟨rfl,?_⟩);conv=>whnf)|refine v1 ?_ ?_|refine v2 ?_ ?_|refine v3 ?_ ?_|refine v4 ?_ ?_|refine v5 ?_ ?_|refine v6 ?_ ?_|((first|refine w19 rfl ?_ ?_|refine w20 rfl ?_ ?_) <;> intro hc <;> (try subst hc) <;> conv=>whnf)|(intro _;first|omega|conv=>whnf))
   all_goals first
    | exact hfA (by omega) _
    | exact hfH (fun q=>hq (q rfl)) _
    | exact hfS (fun q=>Bool.false_ne_true (q h0 rfl _ hxp)) _
    | (refine ⟨hlt,ht (by omega) ?_ ?_,Abs.tells (rs:=[0,1]) .a⟩ <;> first|(intro _ e;cases e;done)|(intro _ _ y hy;rw [hxp] at hy;cases hy;rfl)|(intro e;cases e;done)|exact fun _=>hq)
  ·repeat' (first|(refine hhm _ _ (fun hq=>?_) (fun hq=>?_) <;> conv=>whnf)|((first|refine Am hs' hlt hd' ?_|refine A7 (cs:=[.int .u32 sq',.int .i64 st,.int .i64 bl,.bool pa,.bool su,.bool ho]) rfl ?_|refine Ap ?_|refine AA rfl hs' ?_|refine ESc.inl h32 ?_|refine ESc.inl h164 ?_|refine Cl rfl rfl hms ?_|refine v7 ?_|refine v8 ?_|refine v9 ?_|refine C6 ?_|refine C5 ?_|refine An ?_|refine As ?_|refine Cj ?_|refine CG ?_|refine CU ?_|refine Cp ?_|refine CK ?_|refine CX ?_|refine BY ?_|refine ⟨rfl,?_⟩);conv=>whnf)|refine v1 ?_ ?_|refine v2 ?_ ?_|refine v3 ?_ ?_|refine v4 ?_ ?_|refine v5 ?_ ?_|refine v6 ?_ ?_|((first|refine w19 rfl ?_ ?_|refine w20 rfl ?_ ?_) <;> intro hc <;> (try subst hc) <;> conv=>whnf)|(intro _;first|omega|conv=>whnf))
   all_goals first
    | exact hfA (by omega) _
    | exact hfH (fun q=>hq (q rfl)) _
    | (refine ⟨hlt,ht (by omega) (fun h=>absurd h h0) ?_,Abs.tells (rs:=[0,1]) .a⟩;(first|(intro e;cases e;done)|exact fun _=>hq))
 ·repeat' (first|((first|refine v7 ?_|refine v8 ?_|refine v9 ?_|refine C6 ?_|refine C5 ?_|refine An ?_|refine As ?_|refine Cj ?_|refine CG ?_|refine CU ?_|refine Cp ?_|refine CK ?_|refine CX ?_|refine BY ?_|refine ⟨rfl,?_⟩);conv=>whnf)|refine v1 ?_ ?_|refine v2 ?_ ?_|refine v3 ?_ ?_|refine v4 ?_ ?_|refine v5 ?_ ?_|refine v6 ?_ ?_|((first|refine w19 rfl ?_ ?_|refine w20 rfl ?_ ?_) <;> intro hc <;> (try subst hc) <;> conv=>whnf)|(intro _;first|omega|conv=>whnf))
  exact t (fun k y hy=>hI k (by have:=(Zqa.1 hy).1;omega) y hy) _
def KW (c:Cfg):Lg→Prop
 | (ag,sq,tl,us,L)=>(1≤ag∧ag≤2147483648∧1≤sq∧sq≤2147483648∧0≤tl∧tl<c.log∧L.length≤c.log)∧(∀ i y,L[i]?=some y→eP c L sq i y)∧us=BZ L L.length∧Mo c L
theorem Vu {c:Cfg}{L:List Lv}{sq:Int}(hM:c.may) (h1:L.length≤c.log) (h:∀ i y,L[i]?=some y→eP c L sq i y):Ig L:=by
 unfold Cfg.may at hM
 refine ⟨by omega,fun x hx=>?_⟩
 obtain ⟨i,hi⟩:=Zr0 hx
 have:=h i x hi
 unfold eP at this
 omega
noncomputable def lgF:Fn (Cfg×Lg×Unit):=bF (.g cfgC (.g lgC .nil)) (fun x=>x.1.may) fun x=>KW x.1 x.2.1
theorem Zlm (hE:EM P e) (h120:Con e 120 mayRF.O) (h166:Con e 166 eachF.O) (h167:Con e 167 usedF.O) (h168:Con e 168 roomF.O):OvOk P 123 lgF.O:=by
 refine Bo hE g123 ?_
 rintro ⟨c,⟨ag,sq,tl,us,L⟩,_⟩ _ ⟨_,_,rfl,⟨rfl,hc⟩,_,_,rfl,hg,rfl⟩ hM K t f
 obtain ⟨v,rfl,o1,o2,o3,o4,hL⟩:=Mt hg
 have hM:c.may:=hM
 obtain ⟨cs,hs',hl,-⟩:=hL.lv
 have hc1:=fun (Q:AV→St→Prop) s (k:Q (.bool true) s)=>ESc.fam (e:=e) (k:=Q) (s:=s) mayRF h120 c hc (u:=.bool true) (by show AV.bool (decide c.may)=_;rw [Zqe hM]) k
 have hc2:=fun (Q:AV→St→Prop) s a b=>@bF.u _ _ _ _ e 166 s Q _ h166 (c,(ag,sq,tl,us,L),()) ⟨_,_,rfl,⟨rfl,hc⟩,_,_,rfl,hg,rfl⟩ hM a b
 have hc3:=fun (hS:Ig L) (Q:AV→St→Prop) s k=>@Fn.u _ e 167 s Q usedF [v] h167 (L,()) ⟨_,_,rfl,⟨_,rfl,hL⟩,rfl⟩ hS k
 have hc4:=fun (hS:Ig L) (Q:AV→St→Prop) s a b=>@bF.u _ _ _ _ e 168 s Q _ h168 (c,L,()) ⟨_,_,rfl,⟨rfl,hc⟩,_,_,rfl,⟨_,rfl,hL⟩,rfl⟩ ⟨hM,hS⟩ a b
 have hsm:=fun h1 h=>@Vu c L sq hM h1 h
 replace hc3:Ig L→∀ (Q:AV→St→Prop) s,Q (.int .i64 (BZ L L.length)) s→ESc e 167 [v] s Q:=hc3
 dsimp only at hc1 hc2 hc4 t f hc
 unfold KW at t f
 dsimp only at t f
 generalize hE1:(∀ i y,L[i]?=some y→eP c L sq i y)=A at t f hc2 hsm
 generalize BZ L L.length=u at *
 generalize Mo c L=R at t f hc4
 have hE':=hM
 unfold Cfg.may at hE'
 obtain ⟨id,mb,ch,rw',lg,hd⟩:=c
 unfold Aa Be at *
 dsimp only at *
 show VW P e 0 _ (Ah [.agg [.int .u32 id,.int .i64 mb,.int .i64 ch,.int .i64 rw',.int .i64 lg,.int .i64 hd],.agg [.int .u32 ag,.int .u32 sq,.int .i64 tl,.int .i64 us,v]] 0 .lf) St0 none [] _
 conv=>whnf
 repeat' (first|(refine hc2 _ _ (fun hq=>?_) (fun hq=>?_) <;> conv=>whnf)|(refine hc4 (hsm (by omega) hq) _ _ (fun hr=>?_) (fun hr=>?_) <;> conv=>whnf)|((first|refine hc1 _ _ ?_|refine AA rfl hs' ?_|refine hc3 (hsm (by omega) hq) _ _ ?_|refine v7 ?_|refine v8 ?_|refine v9 ?_|refine C6 ?_|refine C5 ?_|refine An ?_|refine As ?_|refine Cj ?_|refine CG ?_|refine CU ?_|refine Cp ?_|refine CK ?_|refine CX ?_|refine BY ?_|refine ⟨rfl,?_⟩);conv=>whnf)|refine v1 ?_ ?_|refine v2 ?_ ?_|refine v3 ?_ ?_|refine v4 ?_ ?_|refine v5 ?_ ?_|refine v6 ?_ ?_|((first|refine w19 rfl ?_ ?_|refine w20 rfl ?_ ?_) <;> intro hc <;> (try subst hc) <;> conv=>whnf)|(intro _;first|omega|conv=>whnf))
 all_goals first
  | exact t ⟨by omega,hq,by assumption,hr⟩ _
  | exact f (fun q=>by omega) _
  | exact f (fun q=>hq q.2.1) _
  | exact f (fun q=>hr q.2.2.2) _
def B8 (c:Cfg):Int:=c.chunk*c.rows*(c.members-1)
def B2 (c:Cfg):Ak→Prop
 | (k,a,m,d)=>1≤k∧k≤6∧(k=4∨k=6→a=0∧m=0)∧(¬(k=4∨k=6)→1≤m∧m≤8∧0≤a∧a≤B8 c-m)∧(k=2∨k=3→(d.length:Int)=m*128)∧(¬(k=2∨k=3)→d.length=0)
noncomputable def BJ (c:Cfg) (x:Ak):Int:=open Classical in if B2 c x then 0 else if ∃ d,B2 c (x.1,x.2.1,x.2.2.1,d) then 3 else 2
noncomputable def akF:Fn (Cfg×Ak×Unit):=⟨.g cfgC (.g akC .nil),fun x=>x.1.may,fun x=>.int .i64 (BJ x.1 x.2.1)⟩
def Zjc:AC:=match Pr with|.mk c _=>c
def Zjb:AC:=match Pq with|.mk c _=>c
def Zi9:AC:=match Pk with|.mk c _=>c
def Zi8:AC:=match Pj with|.mk c _=>c
set_option maxHeartbeats 2000000 in
theorem Zof (hE:EM P e) (h120:Con e 120 mayRF.O) (h32:Inl e 32 Kr [.tmp 2]) (h213:Inl e 213 Zjc [.tmp 4]) (h214:Inl e 214 Zjb [.tmp 2]) (h220:Inl e 220 Zi9 [.tmp 2]) (h221:Inl e 221 Zi8 [.tmp 2]):OvOk P 198 akF.O:=by
 refine Bs g198.b ?_
 rintro ⟨c,⟨k,a,m,d⟩,_⟩ _ ⟨_,_,rfl,⟨rfl,hc⟩,_,_,rfl,hg,rfl⟩ hM
 obtain ⟨v,rfl,o1,o2,o3,hd⟩:=Iw hg
 obtain ⟨cs,hs',hl,-⟩:=hd.nth
 refine ⟨rfl,C.of_G hE g198 ?_⟩
 have f0:B2 c (k,a,m,d)→∀ s,Frz s (.int .i64 0) (akF.out (c,(k,a,m,d),())):=fun h s=>by
  show Frz s _ (.int .i64 (BJ c (k,a,m,d)));unfold BJ;rw [Zqd h];exact .plain _ rfl
 have f3:¬B2 c (k,a,m,d)→∀ d',B2 c (k,a,m,d')→∀ s,Frz s (.int .i64 3) (akF.out (c,(k,a,m,d),())):=fun h d' h' s=>by
  show Frz s _ (.int .i64 (BJ c (k,a,m,d)));unfold BJ;rw [Zqh h,Zqd ⟨d',h'⟩];exact .plain _ rfl
 have f2:(∀ d',¬B2 c (k,a,m,d'))→∀ s,Frz s (.int .i64 2) (akF.out (c,(k,a,m,d),())):=fun h s=>by
  show Frz s _ (.int .i64 (BJ c (k,a,m,d)));unfold BJ;rw [Zqh (h d),Zqh (fun q=>q.elim h)];exact .plain _ rfl
 generalize akF.out _=O at f0 f2 f3 ⊢
 have hM:c.may:=hM
 have hc1:=fun (Q:AV→St→Prop) s (k:Q (.bool true) s)=>ESc.fam (e:=e) (k:=Q) (s:=s) mayRF h120 c hc (u:=.bool true) (by show AV.bool (decide c.may)=_;rw [Zqe hM]) k
 have f3:¬B2 c (k,a,m,d)→(1≤k∧k≤6∧(k=4∨k=6→a=0∧m=0)∧(¬(k=4∨k=6)→1≤m∧m≤8∧0≤a∧a≤B8 c-m))→∀ s,Frz s (.int .i64 3) O:=fun h q=>f3 h (List.replicate (if k=2∨k=3 then (m*128).toNat else 0) 0) ⟨q.1,q.2.1,q.2.2.1,q.2.2.2,fun e=>by rw [Zqd e,List.length_replicate];have:=q.2.2.2 (by omega);omega,fun e=>by rw [Zqh e];rfl⟩
 have f2:¬(1≤k∧k≤6∧(k=4∨k=6→a=0∧m=0)∧(¬(k=4∨k=6)→1≤m∧m≤8∧0≤a∧a≤B8 c-m))→∀ s,Frz s (.int .i64 2) O:=fun h=>f2 fun d' q=>h ⟨q.1,q.2.1,q.2.2.1,q.2.2.2.1⟩
 unfold B2 at f0 f3
 unfold B8 at f0 f2 f3
 have hM':=hM
 unfold Cfg.may at hM'
 have hms:=DG (a:=c.chunk) (b:=c.rows) (by omega) (by omega)
 have hmt:0≤c.chunk*c.rows∧c.chunk*c.rows≤64:=⟨Int.mul_nonneg (by omega) (by omega),Int.le_trans (Int.mul_le_mul (by omega:c.chunk≤8) (by omega:c.rows≤8) (by omega) (by omega)) (by decide)⟩
 have hmu:=DG (a:=c.chunk*c.rows) (b:=c.members-1) (by omega) (by omega)
 have hmv:0≤c.chunk*c.rows*(c.members-1)∧c.chunk*c.rows*(c.members-1)≤1000:=⟨Int.mul_nonneg (by omega) (by omega),Int.le_trans (Int.mul_le_mul (by omega:c.chunk*c.rows≤64) (by omega:c.members-1≤15) (by omega) (by omega)) (by decide)⟩
 obtain ⟨id,mb,ch,rw',lg,hd⟩:=c
 unfold Aa at *
 dsimp only at f0 f2 f3 hM' hms hmt hmu hmv
 show VW P e 0 _ (Ah [.agg [.int .u32 id,.int .i64 mb,.int .i64 ch,.int .i64 rw',.int .i64 lg,.int .i64 hd],.agg [.int .u8 (k:Int),.int .i64 a,.int .i64 m,v]] 0 .lf) St0 none [] _
 conv=>whnf
 repeat' (first|((first|refine hc1 _ _ ?_|refine AA rfl hs' ?_|refine ESc.inl h32 ?_|refine ESc.inl h213 ?_|refine ESc.inl h214 ?_|refine ESc.inl h220 ?_|refine ESc.inl h221 ?_|refine Cl rfl rfl hms ?_|refine Cl rfl rfl hmu ?_|refine v8 ?_|refine v9 ?_|refine An ?_|refine As ?_|refine ⟨rfl,?_⟩);conv=>whnf)|refine v1 ?_ ?_|refine v2 ?_ ?_|refine v3 ?_ ?_|refine v4 ?_ ?_|refine v5 ?_ ?_|refine v6 ?_ ?_|(intro _;first|omega|conv=>whnf))
 all_goals first
  | exact f2 (by omega) _
  | exact f3 (by omega) (by omega) _
  | exact f0 (by omega) _
def Se (k s:Nat) (q:Int) (n:Nat):Prop:=(s=2→q≠0)∧(s≠2→q=0)∧s≤3∧(k≠1→n=0)∧(k=1→s=0∧n=0∨s=3∧n=128)
def Gf:Fl→Nat→Prop
 | (_,(k,_),st,sq,da),i=>Se k (st[i]?.getD 0) (sq[i]?.getD 0) (da[i]?.getD []).length
noncomputable def partF:Fn (Fl×Int×Unit):=bF (.g ftC (.v i64C .nil)) (fun x=>0≤x.2.1∧x.2.1<x.1.2.2.1.length∧x.2.1<x.1.2.2.2.1.length∧x.2.1<x.1.2.2.2.2.length) fun x=>Gf x.1 x.2.1.toNat
set_option maxHeartbeats 2000000 in
theorem Zd3 (hE:EM P e):OvOk P 199 partF.O:=by
 refine Bo hE g199 ?_
 rintro ⟨⟨n,⟨k,a,m,d⟩,st,sq,da⟩,j,_⟩ _ ⟨_,_,rfl,hf,_,_,rfl,⟨e1,-⟩,rfl⟩ ⟨q1,q2,q3,q4⟩ K t f
 cases e1
 obtain ⟨dv,tv,qv,av,rfl,o1,o2,o3,o4,h1,h2,h3,h4⟩:=De hf
 dsimp only at q1 q2 q3 q4
 obtain ⟨i,rfl⟩:∃ i:Nat,j=i:=⟨j.toNat,by omega⟩
 obtain ⟨ts,hs1,-,hn1⟩:=h2.nth
 obtain ⟨qs,hs2,-,hn2⟩:=h3.nth
 obtain ⟨es,hs3,-,hn3⟩:=h4.nth
 obtain ⟨s,_,r1,hx1,⟨rfl,hlt⟩,hd1⟩:=hn1 i (by omega)
 obtain ⟨q,_,r2,hx2,⟨rfl,hq⟩,hd2⟩:=hn2 i (by omega)
 obtain ⟨b,_,r3,hx3,⟨u,rfl,hu⟩,hd3⟩:=hn3 i (by omega)
 obtain ⟨us,hus,-⟩:=hu.nth
 have hi1:i<st.length:=by omega
 have hi2:i<sq.length:=by omega
 have hi3:i<da.length:=by omega
 unfold Gf at t f
 dsimp only at t f
 rw [Int.toNat_natCast,hx1,hx2,hx3] at t f
 unfold Se at t f
 dsimp only [Option.getD] at t f
 have hB:=hus.n_inj hus
 generalize b.length=bn at t f hus
 clear hB hx3 hu hf h1 h2 h3 h4 hn1 hn2 hn3 q1 q2 q3 q4
 conv=>whnf
 repeat' (first|((first|refine Am hs1 hi1 hd1 ?_|refine Am hs2 hi2 hd2 ?_|refine Am hs3 hi3 hd3 ?_|refine Ap ?_|refine Ai hus ?_);conv=>whnf)|refine v3 ?_ ?_|refine v5 ?_ ?_|refine v6 ?_ ?_|(intro _;first|omega|conv=>whnf))
 all_goals first
  | exact t (by omega) _
  | exact f (by omega) _
def J1 (c:Cfg):Fl→Prop
 | (n,(k,a,m,d),st,sq,da)=>1≤n∧B2 c (k,a,m,d)∧(st.length:Int)=m∧(da.length:Int)=m∧(k≠4→(sq.length:Int)=m)∧(k=4→sq.length=1)∧∀ i<st.length,Gf (n,(k,a,m,d),st,sq,da) i
theorem XQ {c:Cfg}{x:Ak}(h:B2 c x):BJ c x=0:=by unfold BJ;rw [Zqd h]
theorem XP {c:Cfg}{x:Ak}(h:¬B2 c x):BJ c x≠0:=by unfold BJ;rw [Zqh h];split <;> decide
noncomputable def eflF:Fn (Cfg×Fl×Unit):=bF (.g cfgC (.g ftC .nil)) (fun x=>x.1.may) fun x=>J1 x.1 x.2.1
theorem Zir (hE:EM P e) (h198:Con e 198 akF.O) (h199:Con e 199 partF.O):OvOk P 169 eflF.O:=by
 refine Bo hE g169 ?_
 rintro ⟨c,⟨n,⟨k,a,m,d⟩,st,sq,da⟩,_⟩ _ ⟨_,_,rfl,⟨rfl,hc⟩,_,_,rfl,hf,rfl⟩ hM K t f
 obtain ⟨dv,tv,qv,av,rfl,o1,o2,o3,o4,h1,h2,h3,h4⟩:=De hf
 have hrow:=ftC.hf hf
 have hak:=KB o2 o3 o4 h1
 obtain ⟨ts,hs1,hl1,-⟩:=h2.nth
 obtain ⟨qs,hs2,hl2,-⟩:=h3.nth
 obtain ⟨es,hs3,hl3,-⟩:=h4.nth
 dsimp only at t f hf hc hM
 have hc1:=fun (Q:AV→St→Prop) s q=>@Fn.u _ e 198 s Q akF _ h198 (c,(k,a,m,d),()) ⟨_,_,rfl,⟨rfl,hc⟩,_,_,rfl,hak,rfl⟩ hM q
 replace hc1:∀ (Q:AV→St→Prop) s,Q (.int .i64 (BJ c (k,a,m,d))) s→ESc e 198 [.agg c.c,.agg [.int .u8 (k:Int),.int .i64 a,.int .i64 m,dv]] s Q:=hc1
 have hc2:=fun (i:Nat) (h0:i<st.length) (hi:i<st.length∧i<sq.length∧i<da.length) (Q:AV→St→Prop) s a' b=>@bF.u _ _ _ _ e 199 s Q [_,.int .i64 (i:Int)] h199 ((n,(k,a,m,d),st,sq,da),(i:Int),()) ⟨_,_,rfl,hf,_,_,rfl,⟨rfl,AW (show Aa (i:Int) by unfold Aa;omega)⟩,rfl⟩ ⟨Zrs _,Int.ofNat_lt.2 hi.1,Int.ofNat_lt.2 hi.2.1,Int.ofNat_lt.2 hi.2.2⟩ a' b
 replace hc2:∀ i:Nat,i<st.length→i<sq.length→i<da.length→∀ (Q:AV→St→Prop) s,(Gf (n,(k,a,m,d),st,sq,da) i→Q (.bool true) s)→(¬Gf (n,(k,a,m,d),st,sq,da) i→Q (.bool false) s)→ESc e 199 [.agg [.int .i64 n,.int .u8 (k:Int),.int .i64 a,.int .i64 m,dv,tv,qv,av],.int .i64 (i:Int)] s Q:=fun i h1 h2 h3 Q s a b=>hc2 i h1 ⟨h1,h2,h3⟩ Q s a b
 have hk:B2 c (k,a,m,d)→0≤m∧m≤8∧(k=4→m=0):=fun h=>by unfold B2 at h;omega
 have hE0:=@XQ c (k,a,m,d)
 have hE1:=@XP c (k,a,m,d)
 unfold J1 at t f
 dsimp only at t f
 generalize B2 c (k,a,m,d)=A at t f hk hE0 hE1
 generalize BJ c (k,a,m,d)=E at *
 generalize hP:Gf (n,(k,a,m,d),st,sq,da)=R at t f hc2
 obtain ⟨id,mb,ch,rw',lg,hd⟩:=c
 unfold Aa at o1 o3 o4
 show VW P e 0 _ (Ah [.agg [.int .u32 id,.int .i64 mb,.int .i64 ch,.int .i64 rw',.int .i64 lg,.int .i64 hd],.agg [.int .i64 n,.int .u8 (k:Int),.int .i64 a,.int .i64 m,dv,tv,qv,av]] 0 .lf) St0 none [] _
 conv=>whnf
 repeat' (first|((first|refine hc1 _ _ ?_|refine Ai hs1 ?_|refine Ai hs2 ?_|refine Ai hs3 ?_);conv=>whnf)|refine v1 ?_ ?_|refine v5 ?_ ?_|refine v6 ?_ ?_|(intro _;first|omega|conv=>whnf))
 all_goals try exact f (fun q=>by omega) _
 ·exact f (fun q=>absurd (hE0 q.2.1) (by assumption)) _
 all_goals
  have hA:A:=Classical.byContradiction fun h=>hE1 h (by assumption)
  have hk:=hk hA
  refine Ax hE st.length (fun i=>[(3,.ptr 1 0),(5,.int .i64 m),(7,.int .i64 (i:Int))]) (fun _=>[.row 24 [.int .u32 id,.int .i64 mb,.int .i64 ch,.int .i64 rw',.int .i64 lg,.int .i64 hd],.row 143 [.int .i64 n,.int .u8 (k:Int),.int .i64 a,.int .i64 m,dv,tv,qv,av]]) (fun i=>∀ j<i,R j) (fun k h=>by omega) (Abs.tells (rs:=[0,1]) .a) ?_
  intro i hi hI
  conv=>whnf
  by_cases hlt:i<st.length
  ·have hc2:=hc2 i hlt (by omega) (by omega)
   repeat' (first|(refine hc2 _ _ (fun hq=>?_) (fun hq=>?_) <;> conv=>whnf)|((first|refine A7 (cs:=[.int .i64 n,.int .u8 (k:Int),.int .i64 a,.int .i64 m,dv,tv,qv,av]) rfl ?_|refine v7 ?_|refine An ?_|refine As ?_|refine ⟨rfl,?_⟩);conv=>whnf)|refine v1 ?_ ?_|(intro _;first|omega|conv=>whnf))
   all_goals first
    | exact ⟨hlt,AR hI hq,Abs.tells (rs:=[0,1]) .a⟩
    | exact f (fun q=>hq (q.2.2.2.2.2.2 i hlt)) _
  ·repeat' (first|refine v1 ?_ ?_|(intro _;first|omega|conv=>whnf))
   exact t ⟨by assumption,hA,by assumption,by assumption,fun h=>by omega,fun h=>by omega,fun j hj=>hI j (by omega)⟩ _
noncomputable def wtF:Fn (Fl×Unit):=bF (.g ftC .nil) (fun _=>True) fun x=>∀ k<x.1.2.2.1.length,∀ s,x.1.2.2.1[k]?=some s→s=0
theorem Zkg (hE:EM P e):OvOk P 170 wtF.O:=by
 refine Bo hE g170 ?_
 rintro ⟨⟨n,⟨k,a,m,d⟩,st,sq,da⟩,_⟩ _ ⟨_,_,rfl,hf,rfl⟩-K t f
 obtain ⟨dv,tv,qv,av,rfl,o1,o2,o3,o4,h1,h2,h3,h4⟩:=De hf
 obtain ⟨ts,hs1,hl1,hn1⟩:=h2.nth
 have hrow:=ftC.hf hf
 dsimp only at t f
 conv=>whnf
 refine Ax hE st.length (fun i=>[(1,.ptr 0 0),(3,.int .i64 (i:Int))]) (fun _=>[.row 143 [.int .i64 n,.int .u8 (k:Int),.int .i64 a,.int .i64 m,dv,tv,qv,av]]) (fun i=>∀ k<i,∀ s,st[k]?=some s→s=0) (fun k h=>by omega) (Abs.tells (rs:=[0]) .a) ?_
 intro i hi hI
 conv=>whnf
 refine Ai hs1 ?_;conv=>whnf
 by_cases hlt:i<st.length
 ·obtain ⟨s,_,r1,hx1,⟨rfl,hls⟩,hd1⟩:=hn1 i hlt
  repeat' (first|((first|refine Am hs1 hlt hd1 ?_|refine Ap ?_|refine v7 ?_|refine ⟨rfl,?_⟩);conv=>whnf)|refine v1 ?_ ?_|refine v6 ?_ ?_|(intro _;first|omega|conv=>whnf))
  ·exact f (fun q=>by have:=q i hlt s hx1;omega) _
  ·exact ⟨hlt,AR hI fun y hy=>by rw [hx1] at hy;cases hy;omega,Abs.tells (rs:=[0]) .a⟩
 ·repeat' (first|refine v1 ?_ ?_|(intro _;first|omega|conv=>whnf))
  exact t (fun k hk=>hI k (by omega)) _
def FL (x y:Ak):Prop:=((x.1=2∨x.1=3∨x.1=5)∨y.1=2∨y.1=3∨y.1=5)∧x.2.1<y.2.1+y.2.2.1∧y.2.1<x.2.1+x.2.2.1
def JB (x:Ak):Prop:=(0≤x.2.1∧x.2.1≤100000)∧0≤x.2.2.1∧x.2.2.1≤100000
noncomputable def meetF:Fn (Ak×Ak×Unit):=bF (.g akC (.g akC .nil)) (fun x=>JB x.1∧JB x.2.1) fun x=>FL x.1 x.2.1
def Zja:AC:=match Pp with|.mk c _=>c
theorem Zec (hE:EM P e) (h215:Inl e 215 Zja [.tmp 2]):OvOk P 200 meetF.O:=by
 refine Bo hE g200 ?_
 rintro ⟨⟨k,a,m,d⟩,⟨k',a',m',d'⟩,_⟩ _ ⟨_,_,rfl,h,_,_,rfl,h',rfl⟩ ⟨q,q'⟩ K t f
 obtain ⟨v,rfl,-⟩:=Iw h
 obtain ⟨v',rfl,-⟩:=Iw h'
 unfold JB at q q'
 unfold FL at t f
 dsimp only at t f q q'
 conv=>whnf
 repeat' (first|((first|refine ESc.inl h215 ?_|refine v7 ?_);conv=>whnf)|refine v1 ?_ ?_|refine v5 ?_ ?_|(intro _;first|omega|conv=>whnf))
 all_goals first
  | exact t (by omega) _
  | exact f (by omega) _
def Gq (L:List Fl) (i:Nat):Prop:=∀ y,L[i]?=some y→∀ j<i,∀ x,L[j]?=some x→¬FL x.2.1 y.2.1
noncomputable def fstF:Fn (List Fl×Int×Unit):=bF (.v ftC.sl (.v i64C .nil)) (fun x=>0≤x.2.1∧x.2.1<x.1.length∧∀ k:Nat,k≤x.2.1→∀ y,x.1[k]?=some y→JB y.2.1) fun x=>Gq x.1 x.2.1.toNat
theorem Zh7 (hE:EM P e) (h200:Con e 200 meetF.O):OvOk P 171 fstF.O:=by
 refine Bo hE g171 ?_
 rintro ⟨L,j,_⟩ _ ⟨v,_,rfl,⟨_,e0,hL⟩,_,_,rfl,⟨e1,hs⟩,rfl⟩ ⟨q1,q2,q3⟩ K t f
 cases e0
 cases e1
 dsimp only at q1 q2 q3 t f
 obtain ⟨i,rfl⟩:∃ i:Nat,j=i:=⟨j.toNat,by omega⟩
 rw [Int.toNat_natCast] at t f
 have hi:i<L.length:=by omega
 obtain ⟨cs,hs',hl,hn⟩:=hL.nth
 dsimp only at hl hn hs'
 have hvf:=hL.hf
 obtain ⟨⟨n,⟨k,a,m,d⟩,st,sq,da⟩,_,r,hx,hc,hd⟩:=hn i hi
 have q0:=q3 i (by omega) _ hx
 obtain ⟨dv,tv,qv,av,rfl,o1,o2,o3,o4,h1,h2,h3,h4⟩:=De hc
 have hak:=KB o2 o3 o4 h1
 unfold Gq at t f
 conv=>whnf
 refine Ax hE i (fun j=>[(0,v),(1,.int .i64 (i:Int)),(5,.int .i64 (j:Int))]) (fun _=>[]) (fun i=>∀ j<i,∀ x,L[j]?=some x→¬FL x.2.1 (k,a,m,d)) (fun k h=>by omega) (Abs.tells (rs:=[]) .a) ?_
 intro j hj hJ
 conv=>whnf
 by_cases hlt:j<i
 ·obtain ⟨⟨n',⟨k',a',m',d'⟩,st',sq',da'⟩,_,r',hx',hc',hd'⟩:=hn j (by omega)
  have q0':=q3 j (by omega) _ hx'
  obtain ⟨dv',tv',qv',av',rfl,p1,p2,p3,p4,g1,-⟩:=De hc'
  have hcall:=fun (Q:AV→St→Prop) s x y=>@bF.u _ _ _ _ e 200 s Q _ h200 ((k',a',m',d'),(k,a,m,d),()) ⟨_,_,rfl,KB p2 p3 p4 g1,_,_,rfl,hak,rfl⟩ ⟨q0',q0⟩ x y
  repeat' (first|(refine hcall _ _ (fun hq=>?_) (fun hq=>?_) <;> conv=>whnf)|((first|refine Am hs' hi hd ?_|refine El rfl hs' rfl (show j<_ by omega) hd' ?_|refine A7 (cs:=[.int .u8 (k':Int),.int .i64 a',.int .i64 m',dv']) rfl ?_|refine A7 (cs:=[.int .u8 (k:Int),.int .i64 a,.int .i64 m,dv]) rfl ?_|refine v7 ?_|refine ⟨rfl,?_⟩);conv=>whnf)|refine v1 ?_ ?_|(intro _;first|omega|conv=>whnf))
  ·exact f (fun q=>q _ hx j hlt _ hx' hq) _
  ·exact ⟨hlt,AR hJ fun y hy=>by rw [hx'] at hy;cases hy;exact hq,Abs.tells (rs:=[]) .a⟩
 ·repeat' (first|refine v1 ?_ ?_|(intro _;first|omega|conv=>whnf))
  exact t (fun y hy j hj=>by rw [hx] at hy;cases hy;exact hJ j (by omega)) _
def Rv (f:Fl):Prop:=∀ k<f.2.2.1.length,∀ s,f.2.2.1[k]?=some s→s=0
def Hp (c:Cfg) (L:List Fl) (i:Nat) (y:Fl):Prop:=J1 c y∧(0<i→∀ x,L[i-1]?=some x→x.1<y.1)∧(Rv y∨Gq L i)
def EF (c:Cfg) (L:List Fl):Prop:=L.length≤8∧∀ i<L.length,∀ y,L[i]?=some y→Hp c L i y
theorem Ziq {c:Cfg}{y:Fl}(hM:c.may) (h:J1 c y):JB y.2.1:=by
 obtain ⟨n,⟨k,a,m,d⟩,st,sq,da⟩:=y
 unfold Cfg.may at hM
 have hmt:c.chunk*c.rows≤64:=Int.le_trans (Int.mul_le_mul (by omega:c.chunk≤8) (by omega:c.rows≤8) (by omega) (by omega)) (by decide)
 have hmv:c.chunk*c.rows*(c.members-1)≤1000:=Int.le_trans (Int.mul_le_mul hmt (by omega:c.members-1≤15) (by omega) (by omega)) (by decide)
 obtain ⟨_,⟨h1,h2,h3,h4,-⟩,-⟩:=h
 unfold B8 at h4
 unfold JB
 dsimp only
 omega
noncomputable def flsF:Fn (Cfg×List Fl×Unit):=bF (.g cfgC (.v ftC.sl .nil)) (fun x=>x.1.may) fun x=>EF x.1 x.2.1
set_option maxHeartbeats 2000000 in
theorem Zib (hE:EM P e) (h120:Con e 120 mayRF.O) (h169:Con e 169 eflF.O) (h170:Con e 170 wtF.O) (h171:Con e 171 fstF.O):OvOk P 124 flsF.O:=by
 refine Bo hE g124 ?_
 rintro ⟨c,L,_⟩ _ ⟨_,_,rfl,⟨rfl,hc⟩,v,_,rfl,⟨_,e0,hL⟩,rfl⟩ hM K t f
 cases e0
 have hM:c.may:=hM
 dsimp only at t f hc hL
 obtain ⟨cs,hs',hl,hn⟩:=hL.nth
 have hvf:=hL.hf
 have hc1:=fun (Q:AV→St→Prop) s (k:Q (.bool true) s)=>ESc.fam (e:=e) (k:=Q) (s:=s) mayRF h120 c hc (u:=.bool true) (by show AV.bool (decide c.may)=_;rw [Zqe hM]) k
 have hc2:=fun y l (hy:ftC.r y l) (Q:AV→St→Prop) s a b=>@bF.u _ _ _ _ e 169 s Q _ h169 (c,y,()) ⟨_,_,rfl,⟨rfl,hc⟩,_,_,rfl,hy,rfl⟩ hM a b
 have hc3:=fun y l (hy:ftC.r y l) (Q:AV→St→Prop) s a b=>@bF.u _ _ _ _ e 170 s Q _ h170 (y,()) ⟨_,_,rfl,hy,rfl⟩ trivial a b
 have hc4:∀ i:Nat,i<L.length→(∀ k≤i,∀ y,L[k]?=some y→JB y.2.1)→∀ (Q:AV→St→Prop) s,(Gq L i→Q (.bool true) s)→(¬Gq L i→Q (.bool false) s)→ESc e 171 [v,.int .i64 (i:Int)] s Q:=fun i hi hS Q s a b=>@bF.u _ _ _ _ e 171 s Q _ h171 (L,(i:Int),()) ⟨_,_,rfl,⟨_,rfl,hL⟩,_,_,rfl,⟨rfl,AW (show Aa (i:Int) by unfold Aa;omega)⟩,rfl⟩ ⟨Zrs _,Int.ofNat_lt.2 hi,fun k hk=>hS k (Int.ofNat_le.1 hk)⟩ a b
 have hak:=fun y=>@Ziq c y hM
 unfold EF at t f
 obtain ⟨id,mb,ch,rw',lg,hd⟩:=c
 show VW P e 0 _ (Ah [.agg [.int .u32 id,.int .i64 mb,.int .i64 ch,.int .i64 rw',.int .i64 lg,.int .i64 hd],v] 0 .lf) St0 none [] _
 conv=>whnf
 repeat' (first|((first|refine hc1 _ _ ?_|refine AA rfl hs' ?_|refine An ?_);conv=>whnf)|refine v3 ?_ ?_|(intro _;first|omega|conv=>whnf))
 ·exact f (fun q=>by omega) _
 refine Ax hE L.length (fun i=>[(1,v),(2,.ptr 0 0),(5,.int .i64 (i:Int))]) (fun _=>[.row 24 [.int .u32 id,.int .i64 mb,.int .i64 ch,.int .i64 rw',.int .i64 lg,.int .i64 hd]]) (fun i=>∀ k<i,∀ y,L[k]?=some y→Hp ⟨id,mb,ch,rw',lg,hd⟩ L k y) (fun k h=>by omega) (Abs.tells (rs:=[0]) .a) ?_
 intro i hi hI
 conv=>whnf
 refine AA rfl hs' ?_;conv=>whnf
 by_cases hlt:i<L.length
 ·obtain ⟨y,l,r,hx,hc,hd'⟩:=hn i hlt
  have hN:¬Hp ⟨id,mb,ch,rw',lg,hd⟩ L i y→∀ s,K (.bool false) s:=fun h=>f fun q=>h (q.2 i hlt y hx)
  have hT:Hp ⟨id,mb,ch,rw',lg,hd⟩ L i y→∀ k<i+1,∀ y,L[k]?=some y→Hp ⟨id,mb,ch,rw',lg,hd⟩ L k y:=fun h=>AR hI fun z hz=>by rw [hx] at hz;cases hz;exact h
  have hc2:=hc2 y l hc
  have hc3:=hc3 y l hc
  have hc4:=fun h=>hc4 i hlt fun k hk z hz=>hak z (by
   rcases Nat.lt_or_eq_of_le hk with hk|rfl
   ·exact (hI k hk z hz).1
   ·rw [hx] at hz;cases hz;exact h)
  obtain ⟨n,⟨k,a,m,d⟩,st,sq,da⟩:=y
  obtain ⟨dv,tv,qv,av,rfl,o1,o2,o3,o4,-⟩:=De hc
  dsimp only at hc2 hc3
  by_cases h0:0<i
  ·obtain ⟨⟨n',⟨k',a',m',d'⟩,st',sq',da'⟩,l',r',hx',hc',hd2⟩:=hn (i-1) (by omega)
   obtain ⟨dv',tv',qv',av',rfl,-⟩:=De hc'
   repeat' (first|(refine hc2 _ _ (fun hq=>?_) (fun hq=>?_) <;> conv=>whnf)|(refine hc3 _ _ (fun hw=>?_) (fun hw=>?_) <;> conv=>whnf)|(refine hc4 hq _ _ (fun hr=>?_) (fun hr=>?_) <;> conv=>whnf)|((first|refine BS rfl hs' rfl (show (i:Int)-1=((i-1:Nat):Int) by omega) (by omega) hd2 ?_|refine Am hs' hlt hd' ?_|refine A7 (cs:=[.int .i64 n,.int .u8 (k:Int),.int .i64 a,.int .i64 m,dv,tv,qv,av]) rfl ?_|refine Ap ?_|refine v7 ?_|refine v8 ?_|refine An ?_|refine As ?_|refine ⟨rfl,?_⟩);conv=>whnf)|refine v1 ?_ ?_|refine v2 ?_ ?_|refine v3 ?_ ?_|(intro _;first|omega|conv=>whnf))
   ·exact hN (fun q=>by have:=q.2.1 h0 _ hx';dsimp only at this;omega) _
   ·exact ⟨hlt,hT ⟨hq,fun _ x hx2=>by rw [hx'] at hx2;cases hx2;assumption,.inl hw⟩,Abs.tells (rs:=[0]) .a⟩
   ·exact ⟨hlt,hT ⟨hq,fun _ x hx2=>by rw [hx'] at hx2;cases hx2;assumption,.inr hr⟩,Abs.tells (rs:=[0]) .a⟩
   ·exact hN (fun q=>q.2.2.elim hw hr) _
   ·exact hN (fun q=>hq q.1) _
  ·repeat' (first|(refine hc2 _ _ (fun hq=>?_) (fun hq=>?_) <;> conv=>whnf)|(refine hc3 _ _ (fun hw=>?_) (fun hw=>?_) <;> conv=>whnf)|(refine hc4 hq _ _ (fun hr=>?_) (fun hr=>?_) <;> conv=>whnf)|((first|refine Am hs' hlt hd' ?_|refine A7 (cs:=[.int .i64 n,.int .u8 (k:Int),.int .i64 a,.int .i64 m,dv,tv,qv,av]) rfl ?_|refine Ap ?_|refine v7 ?_|refine An ?_|refine As ?_|refine ⟨rfl,?_⟩);conv=>whnf)|refine v1 ?_ ?_|refine v3 ?_ ?_|(intro _;first|omega|conv=>whnf))
   ·exact ⟨hlt,hT ⟨hq,fun h=>absurd h h0,.inl hw⟩,Abs.tells (rs:=[0]) .a⟩
   ·exact ⟨hlt,hT ⟨hq,fun h=>absurd h h0,.inr hr⟩,Abs.tells (rs:=[0]) .a⟩
   ·exact hN (fun q=>q.2.2.elim hw hr) _
   ·exact hN (fun q=>hq q.1) _
 ·repeat' (first|refine v1 ?_ ?_|(intro _;first|omega|conv=>whnf))
  exact t ⟨by omega,fun k hk=>hI k (by omega)⟩ _
variable {a b:Int}
theorem HG {t:AT}{s:St}{k:AV→St→Prop}{x y:AO}(hx:ev x t=.some (.int .i64 a)) (hy:ev y t=.some (.int .i64 b)) (h:(0≤a∧a≤9223372036854775807)∧0<b) (hk:k (.int .i64 (a / b)) s):EPrim (.bin .quo x y) t s k:=by
 refine DJ hx hy (v:=.int .i64 (a / b)) ?_ hk
 show (Bool.rec .none (Bool.rec (.some (.int .i64 (Er .i64 (Sb a b)))) .none (Dw b 0)) (Cd .i64 .i64):OV)=_
 have h1:a.tdiv b=a / b:=Int.tdiv_eq_ediv_of_nonneg h.1.1
 have h2:0≤a / b:=Int.ediv_nonneg h.1.1 (by omega)
 have h3:a / b≤a:=Int.ediv_le_self b h.1.1
 rw [LC,FI,show (b == 0)=false by simp;omega,Vf,h1,Ez,i64_in (by omega)]
def Bz (c:Cfg) (b:Int):Int:=b / c.chunk / (c.members-1)*c.chunk+b % c.chunk
def BT (c:Cfg) (b:Int):Int:=b / c.chunk % (c.members-1)
variable {c:Cfg}
theorem Mp (hM:c.may) (h:0≤b∧b<B8 c):(0≤Bz c b∧Bz c b<Ar c)∧0≤BT c b∧BT c b<c.members-1:=by
 unfold Cfg.may at hM
 unfold B8 at h
 unfold Bz BT Ar
 have h1:=Zrt b (show c.chunk≠0 by omega)
 have h2:=Zrv b (show 0<c.chunk by omega)
 have h3:=Zrt (b / c.chunk) (show c.members-1≠0 by omega)
 have h4:=Zrv (b / c.chunk) (show 0<c.members-1 by omega)
 have h5:0≤b / c.chunk / (c.members-1):=Int.ediv_nonneg (Int.ediv_nonneg h.1 (by omega)) (by omega)
 have h6:b / c.chunk / (c.members-1)<c.rows:=by
  rw [Int.ediv_lt_iff_lt_mul (by omega),Int.ediv_lt_iff_lt_mul (by omega)]
  have:c.rows*(c.members-1)*c.chunk=c.chunk*c.rows*(c.members-1):=by
   rw [Int.mul_comm,← Int.mul_assoc]
  omega
 refine ⟨⟨?_,?_⟩,h3,h4⟩
 ·have:=Int.mul_nonneg h5 (show 0≤c.chunk by omega);omega
 ·generalize b / c.chunk / (c.members-1)=w at *
  have h7:(w+1)*c.chunk≤c.rows*c.chunk:=Int.mul_le_mul_of_nonneg_right (by omega) (by omega)
  rw [Int.add_mul,Int.one_mul,Int.mul_comm c.rows] at h7
  omega
def placeF:Fn (Cfg×Int×Unit):=⟨.g cfgC (.v i64C .nil),fun x=>x.1.may∧0≤x.2.1∧x.2.1<B8 x.1,fun x=>.tup [.int .i64 (Bz x.1 x.2.1),.int .i64 (BT x.1 x.2.1)]⟩
theorem Zbr (hE:EM P e):OvOk P 125 placeF.O:=by
 refine Bs g125.b ?_
 rintro ⟨c,b,_⟩ _ ⟨_,_,rfl,⟨rfl,hc⟩,_,_,rfl,⟨e1,hb⟩,rfl⟩ ⟨hM,hb1⟩
 cases e1
 refine ⟨rfl,C.of_G hE g125 ?_⟩
 have fin:∀ s,Frz s (.tup [.int .i64 (Bz c b),.int .i64 (BT c b)]) (placeF.out (c,b,())):=fun s=>.plain _ rfl
 generalize placeF.out _=O at fin ⊢
 dsimp only at hb1 hM
 have hp:=Mp hM hb1
 have hb2:=hb1
 unfold B8 at hb2
 unfold Bz BT Ar at *
 unfold Cfg.may at hM
 have h1:=Zrt b (show c.chunk≠0 by omega)
 have h2:=Zrv b (show 0<c.chunk by omega)
 have h0:=Int.ediv_nonneg hb1.1 (show 0≤c.chunk by omega)
 have h0':=Int.ediv_le_self c.chunk hb1.1
 have h5:0≤b / c.chunk / (c.members-1):=Int.ediv_nonneg h0 (by omega)
 have h5':=Int.ediv_le_self (c.members-1) h0
 have hmt:0≤c.chunk*c.rows∧c.chunk*c.rows≤64:=⟨Int.mul_nonneg (by omega) (by omega),Int.le_trans (Int.mul_le_mul (by omega:c.chunk≤8) (by omega:c.rows≤8) (by omega) (by omega)) (by decide)⟩
 have hmv:c.chunk*c.rows*(c.members-1)≤1000:=Int.le_trans (Int.mul_le_mul (by omega:c.chunk*c.rows≤64) (by omega:c.members-1≤15) (by omega) (by omega)) (by decide)
 obtain ⟨id,mb,ch,rw',lg,hd⟩:=c
 dsimp only at *
 show VW P e 0 _ (Ah [.agg [.int .u32 id,.int .i64 mb,.int .i64 ch,.int .i64 rw',.int .i64 lg,.int .i64 hd],.int .i64 b] 0 .lf) St0 none [] _
 have hpm:=DG (a:=b / ch / (mb-1)) (b:=ch) (by omega) (by omega)
 conv=>whnf
 repeat' (first|((first|refine HG rfl rfl (by omega) ?_|refine JH rfl rfl (by omega) ?_|refine Cl rfl rfl hpm ?_|refine v7 ?_|refine v8 ?_);conv=>whnf)|fail)
 exact fin _
def A9 (hs:List Hd) (s:Int):Int:=match hs.findIdx? (fun h=>decide (h.1=s)) with|some i=>i|none=>-1
variable {hs:List Hd}{s:Int}{i:Nat}
theorem Q5 {h:Hd}(hh:hs[i]?=some h) (h1:h.1=s) (h2:∀ j<i,∀ g,hs[j]?=some g→g.1≠s):A9 hs s=i:=by
 have hl:=(Zqa.1 hh).1
 have he:=(Zqa.1 hh).2
 unfold A9
 rw [(List.findIdx?_eq_some_iff_getElem (p:=fun h=>decide (h.1=s)) (xs:=hs) (i:=i)).2 ⟨hl,by rw [he];exact Zqe h1,fun j hj=>by
  have:=h2 j hj _ (Zp9 (by omega));simpa using this⟩]
theorem Q6 (h2:∀ j<hs.length,∀ g,hs[j]?=some g→g.1≠s):A9 hs s=-1:=by
 unfold A9
 rw [List.findIdx?_eq_none_iff.2 fun h hm=>by
  obtain ⟨j,hj⟩:=Zr0 hm
  have:=h2 j (Zqa.1 hj).1 h hj;simpa using this]
def hplF:Fn (List Hd×Int×Unit):=⟨.v hdC.sl (.v i64C .nil),fun _=>True,fun x=>.int .i64 (A9 x.1 x.2.1)⟩
theorem Zhr (hE:EM P e):OvOk P 132 hplF.O:=by
 refine Bs g132.b ?_
 rintro ⟨L,s,_⟩ _ ⟨v,_,rfl,⟨_,e0,hL⟩,_,_,rfl,⟨e1,hs⟩,rfl⟩ -
 cases e0
 cases e1
 obtain ⟨cs,hs',hl,hn⟩:=hL.nth
 have hvf:=hL.hf
 refine ⟨rfl,C.of_G hE g132 ?_⟩
 have fin:∀ s' a,a=A9 L s→Frz s' (.int .i64 a) (hplF.out (L,s,())):=fun s' a h=>by subst h;exact .plain _ rfl
 generalize hplF.out _=O at fin ⊢
 dsimp only at hl hn hs'
 conv=>whnf
 refine Ax hE L.length (fun i=>[(0,v),(1,.int .i64 s),(5,.int .i64 (i:Int))]) (fun _=>[]) (fun i=>∀ j<i,∀ g,L[j]?=some g→g.1≠s) (fun k h=>by omega) (Abs.tells (rs:=[]) .a) ?_
 intro i hi hI
 conv=>whnf
 refine AA rfl hs' ?_;conv=>whnf
 by_cases hlt:i<L.length
 ·obtain ⟨⟨st,bl,di,ph,de,sq⟩,_,r,hx,hxr,hd⟩:=hn i hlt
  obtain ⟨bv,dv,rfl,-⟩:=Cn hxr
  repeat' (first|((first|refine Am hs' hlt hd ?_|refine Ap ?_|refine v7 ?_|refine ⟨rfl,?_⟩);conv=>whnf)|refine v1 ?_ ?_|refine v5 ?_ ?_|(intro _;first|omega|conv=>whnf))
  ·exact fin _ _ (Q5 hx (by assumption) hI).symm
  ·exact ⟨hlt,AR hI fun g hg=>by rw [hx] at hg;cases hg;assumption,Abs.tells (rs:=[]) .a⟩
 ·repeat' (first|refine v1 ?_ ?_|(intro _;first|omega|conv=>whnf))
  exact fin _ _ (Q6 fun j hj=>hI j (by omega)).symm
def Jy (L:List Lv):Prop:=∃ (i k:Nat) (x y:Lv),k<i∧L[i]?=some x∧L[k]?=some y∧x.home=true∧y.stripe=x.stripe∧y.home=false
noncomputable def lagF:Fn (List Lv×Unit):=bF (.v lvC.sl .nil) (fun _=>True) fun x=>Jy x.1
theorem Zho (hE:EM P e):OvOk P 71 lagF.O:=by
 refine Bo hE g71 ?_
 rintro ⟨L,_⟩ _ ⟨v,_,rfl,⟨_,e0,hL⟩,rfl⟩-K t f
 cases e0
 obtain ⟨cs,hs',hl,hn⟩:=hL.lv
 have hvf:=hL.hf
 dsimp only at hl hn hs' t f
 conv=>whnf
 refine Ax hE L.length (fun i=>[(0,v),(3,.int .i64 (i:Int))]) (fun _=>[]) (fun i=>∀ j<i,∀ k<j,∀ x y:Lv,L[j]?=some x→L[k]?=some y→x.home=true→y.stripe=x.stripe→y.home=true) (fun k h=>by omega) (Abs.tells (rs:=[]) .a) ?_
 intro i hi hI
 conv=>whnf
 refine AA rfl hs' ?_;conv=>whnf
 by_cases hlt:i<L.length
 ·obtain ⟨sq,st,bl,pa,su,ho,r,hx,hx',hd⟩:=hn i hlt
  repeat' (first|refine v1 ?_ ?_|(intro _;first|omega|conv=>whnf))
  refine Ax hE i (fun k=>[(0,v),(3,.int .i64 (i:Int)),(4,.int .i64 (k:Int))]) (fun _=>[]) (fun k=>∀ j<k,∀ y:Lv,L[j]?=some y→ho=true→y.stripe=st→y.home=true) (fun k h=>by omega) (Abs.tells (rs:=[]) .a) ?_
  intro k hk hK
  conv=>whnf
  by_cases hkt:k<i
  ·obtain ⟨sq',st',bl',pa',su',ho',r',hy,hy',hd'⟩:=hn k (by omega)
   have hT:ho=true→st'=st→ho'=false→∀ s,K (.bool true) s:=fun h1 h2 h3=>t ⟨i,k,_,_,hkt,hx,hy,h1,h2,h3⟩
   have hN:(ho=true→st'=st→ho'=true)→∀ j<k+1,∀ y:Lv,L[j]?=some y→ho=true→y.stripe=st→y.home=true:=fun h=>AR hK fun y e=>by rw [hy] at e;cases e;exact h
   cases ho <;> cases ho'
   all_goals repeat' (first|((first|refine Am hs' hlt hd ?_|refine El rfl hs' rfl (show k<_ by omega) hd' ?_|refine Ap ?_|refine v7 ?_|refine An ?_|refine As ?_|refine ⟨rfl,?_⟩);conv=>whnf)|refine v1 ?_ ?_|refine v5 ?_ ?_|(intro _;first|omega|conv=>whnf))
   all_goals first
    | exact hT rfl (by assumption) rfl _
    | (refine ⟨hkt,hN ?_,Abs.tells (rs:=[]) .a⟩;intro e1 e2;first|rfl|(cases e1;done)|exact absurd e2 (by assumption))
  ·repeat' (first|((first|refine v7 ?_|refine ⟨rfl,?_⟩);conv=>whnf)|refine v1 ?_ ?_|(intro _;first|omega|conv=>whnf))
   refine ⟨hlt,AR hI fun k' hk' x y e1 e2=>?_,Abs.tells (rs:=[]) .a⟩
   rw [hx] at e1
   cases e1
   exact hK k' (by omega) y e2
 ·repeat' (first|refine v1 ?_ ?_|(intro _;first|omega|conv=>whnf))
  refine f ?_ _
  rintro ⟨i',k',x,y,h1,h2,h3,h4,h5,h6⟩
  have:=(Zqa.1 h2).1
  rw [hI i' (by omega) k' h1 x y h2 h3 h4 h5] at h6
  cases h6
variable {lo po dn ag sq tl us:Int}{sp nl br:Bool}
theorem Bl {bk:Bool}{ev:Int}{fs:List Fl}{nx:Int}{so:Bool}{l:List AV}(h:dvC.r (c,bk,(ev,lo,sp,po,dn,nl,br),hs,(ag,sq,tl,us,L),fs,nx,so) l):∃ hv lv fv,l=c.c++[.bool bk,.int .u32 ev,.int .i64 lo,.bool sp,.int .i64 po,.int .i64 dn,.bool nl,.bool br,hv,.int .u32 ag,.int .u32 sq,.int .i64 tl,.int .i64 us,lv,fv,.int .i64 nx,.bool so]∧(c.ok∧Be ev∧Aa lo∧Aa po∧Aa dn∧Be ag∧Be sq∧Aa tl∧Aa us∧Aa nx)∧Ls hdC hs hv∧Ls lvC L lv∧Ls ftC fs fv:=by
 obtain ⟨ol,hv,lv,fv,rfl,h1,h2,h3,h4,h5,h6,h7,h8,h9,h10⟩:=Zpj h
 obtain ⟨rfl,g1,g2,g3,g4⟩:=Gu h2
 exact ⟨hv,lv,fv,rfl,⟨h1,g1,g2,g3,g4,h4,h5,h6,h7,h10⟩,h3,h8,h9⟩
theorem GW (hs:List Hd) (s:Int):-1≤A9 hs s∧A9 hs s<hs.length:=by
 unfold A9
 cases h:hs.findIdx? (fun h=>decide (h.1=s)) with
 | none=>dsimp only;omega
 | some i=>have:=(List.findIdx?_eq_some_iff_getElem.1 h).1;dsimp only;omega
def Jp (hs:List Hd) (L:List Lv):Prop:=L.length=0∧∀ i<hs.length,∀ h,hs[i]?=some h→h.2.2.2.2.1=false∧h.2.2.2.1≠2∧h.2.2.2.1≠3
noncomputable def bareF:Fn (Dv×Unit):=bF (.g dvC .nil) (fun _=>True) fun x=>Jp x.1.2.2.2.1 x.1.2.2.2.2.1.2.2.2.2
theorem Zfr (hE:EM P e):OvOk P 72 bareF.O:=by
 refine Bo hE g72 ?_
 rintro ⟨⟨c,bk,⟨ev,lo,sp,po,dn,nl,br⟩,hs,⟨ag,sq,tl,us,L⟩,fs,nx,so⟩,_⟩ _ ⟨_,_,rfl,hd,rfl⟩-K t f
 obtain ⟨hv,lv,fv,rfl,ho,hH,hL,hF⟩:=Bl hd
 have hrow:=dvC.hf hd
 obtain ⟨cs,hs',hl,hn⟩:=hH.nth
 obtain ⟨ls,hs2,hl2,-⟩:=hL.lv
 unfold Jp at t f
 dsimp only at t f
 conv=>whnf
 refine Ax hE hs.length (fun i=>[(1,.ptr 0 0),(3,.int .i64 (i:Int))]) (fun _=>[.row 33 (c.c++[.bool bk,.int .u32 ev,.int .i64 lo,.bool sp,.int .i64 po,.int .i64 dn,.bool nl,.bool br,hv,.int .u32 ag,.int .u32 sq,.int .i64 tl,.int .i64 us,lv,fv,.int .i64 nx,.bool so])]) (fun i=>∀ j<i,∀ h,hs[j]?=some h→h.2.2.2.2.1=false∧h.2.2.2.1≠2∧h.2.2.2.1≠3) (fun k h=>by omega) (Abs.tells (rs:=[0]) .a) ?_
 intro i hi hI
 conv=>whnf
 refine AA rfl hs' ?_;conv=>whnf
 by_cases hlt:i<hs.length
 ·obtain ⟨⟨st,bl,di,ph,de,sq⟩,_,r,hx,hxr,hd'⟩:=hn i hlt
  obtain ⟨bv,dv,rfl,-⟩:=Cn hxr
  cases de
  all_goals repeat' (first|((first|refine Am hs' hlt hd' ?_|refine A7 (cs:=[.int .i64 st,bv,dv,.int .u8 (ph:Int),.bool _,.int .u32 sq]) rfl ?_|refine v7 ?_|refine ⟨rfl,?_⟩);conv=>whnf)|refine v1 ?_ ?_|refine v5 ?_ ?_|(intro _;first|omega|conv=>whnf))
  all_goals first
   | exact f (fun q=>by have:=q.2 i hlt _ hx;dsimp only at this;omega) _
   | exact f (fun q=>by have:=(q.2 i hlt _ hx).1;cases this) _
   | exact ⟨hlt,AR hI fun g hg=>by rw [hx] at hg;cases hg;exact ⟨rfl,by dsimp only;omega,by dsimp only;omega⟩,Abs.tells (rs:=[0]) .a⟩
 ·repeat' (first|(refine Ai hs2 ?_;conv=>whnf)|refine v1 ?_ ?_|refine v5 ?_ ?_|(intro _;first|omega|conv=>whnf))
  ·exact t ⟨by omega,fun j hj=>hI j (by omega)⟩ _
  ·exact f (fun q=>by omega) _
def Dp (L:List Lv):Hd→Prop
 | (st,_,_,ph,de,sq)=>(de=true↔Kp L st)∧(2≤ph→0≤AJ L st L.length∧∀ x,L[(AJ L st L.length).toNat]?=some x→x.seq=sq∧x.par=true∧x.home=false∧(x.sure=true↔ph≠2))
noncomputable def dltF:Fn (Dv×Hd×Unit):=bF (.g dvC (.g hdC .nil)) (fun _=>True) fun x=>Dp x.1.2.2.2.2.1.2.2.2.2 x.2.1
set_option maxHeartbeats 2000000 in
theorem Zi2 (hE:EM P e) (h126:Con e 126 lastF.O) (h127:Con e 127 drtF.O):OvOk P 73 dltF.O:=by
 refine Bo hE g73 ?_
 rintro ⟨⟨c,bk,⟨ev,lo,sp,po,dn,nl,br⟩,hs,⟨ag,sq,tl,us,L⟩,fs,nx,so⟩,⟨st,bl,di,ph,de,hsq⟩,_⟩ _ ⟨_,_,rfl,hd,_,_,rfl,hh,rfl⟩-K t f
 obtain ⟨hv,lv,fv,rfl,ho,hH,hL,hF⟩:=Bl hd
 obtain ⟨bv,dv,rfl,g1,g2,g3,g4,g5⟩:=Cn hh
 obtain ⟨ls,hs2,hl2,hn⟩:=hL.lv
 have hla:=HQ L st L.length
 have hc:∀ (Q:AV→St→Prop) s',Q (.int .i64 (AJ L st L.length)) s'→ESc e 126 [lv,.int .i64 st] s' Q:=fun Q s' k=>Fn.u (F:=lastF) h126 (L,st,()) ⟨_,_,rfl,⟨_,rfl,hL⟩,_,_,rfl,⟨rfl,AW g1⟩,rfl⟩ trivial k
 have hD:=fun (Q:AV→St→Prop) s' a b=>@bF.u _ _ _ _ e 127 s' Q [lv,.int .i64 st] h127 (L,st,()) ⟨_,_,rfl,⟨_,rfl,hL⟩,_,_,rfl,⟨rfl,AW g1⟩,rfl⟩ trivial a b
 unfold Dp at t f
 dsimp only at t f hD
 generalize AJ L st L.length=a at *
 generalize Kp L st=D at *
 by_cases ha:0≤a
 ·obtain ⟨sq',st',bl',pa,su,ho',r,hx,hx',hd'⟩:=hn a.toNat (by omega)
  rw [hx] at t f
  have f:=fun (h:¬((de=true↔D)∧(2≤ph→sq'=hsq∧pa=true∧ho'=false∧(su=true↔ph≠2))))=>f fun q=>h ⟨q.1,fun hp=>(q.2 hp).2 _ rfl⟩
  have t:=fun (h:(de=true↔D)∧(2≤ph→sq'=hsq∧pa=true∧ho'=false∧(su=true↔ph≠2)))=>t ⟨h.1,fun hp=>⟨ha,fun x e=>by cases e;exact h.2 hp⟩⟩
  cases de <;> cases pa <;> cases su <;> cases ho'
  all_goals repeat' (first|(refine hD _ _ (fun hq=>?_) (fun hq=>?_) <;> conv=>whnf)|((first|refine BS rfl hs2 rfl (show a=_ by omega) (by omega) hd' ?_|refine A7 (cs:=[.int .u32 sq',.int .i64 st',.int .i64 bl',.bool _,.bool _,.bool _]) rfl ?_|refine hc _ _ ?_|refine An ?_|refine As ?_|refine Cp ?_|refine ⟨rfl,?_⟩);conv=>whnf)|refine v1 ?_ ?_|refine v5 ?_ ?_|refine v6 ?_ ?_|(intro _;first|omega|conv=>whnf))
  all_goals simp only [hq,true_iff,false_iff,iff_true,iff_false,Bool.false_eq_true,not_true_eq_false,not_false_eq_true,true_and,and_true,false_and,and_false,Bool.true_eq_false,reduceCtorEq,true_implies,false_implies,implies_true,imp_false] at t f
  all_goals first
   | exact t (by omega) _
   | exact f (by omega) _
   | exact f _
 ·by_cases hq:D <;> cases de
  all_goals simp only [hq,true_iff,false_iff,iff_true,iff_false,Bool.false_eq_true,not_true_eq_false,not_false_eq_true,true_and,false_and] at t f
  all_goals repeat' (first|(refine hD _ _ (fun hr=>?_) (fun hr=>?_) <;> first|exact absurd hq hr|exact absurd hr hq|(conv=>whnf))|((first|refine hc _ _ ?_|refine Cp ?_|refine ⟨rfl,?_⟩);conv=>whnf)|refine v1 ?_ ?_|(intro _;first|omega|conv=>whnf))
  all_goals first
   | exact f (fun q=>by omega) _
   | exact f (fun q=>ha (q (by omega)).1) _
   | exact t (fun h=>by omega) _
   | exact f id _
   | exact f trivial _
def ES (L:List Lv) (hs:List Hd) (s:Int):Prop:=∀ x,L[(AJ L s L.length).toNat]?=some x→(x.par=false→0≤A9 hs s)∧(x.par=true→x.home=false→0≤A9 hs s∧∀ h,hs[(A9 hs s).toNat]?=some h→2≤h.2.2.2.1)
noncomputable def kptF:Fn (Dv×Int×Unit):=bF (.g dvC (.v i64C .nil)) (fun x=>0≤AJ x.1.2.2.2.2.1.2.2.2.2 x.2.1 x.1.2.2.2.2.1.2.2.2.2.length) fun x=>ES x.1.2.2.2.2.1.2.2.2.2 x.1.2.2.2.1 x.2.1
def Mg:AC:=match a80 with|.mk c _=>c
set_option maxHeartbeats 2000000 in
theorem Zhp (hE:EM P e) (h80:Inl e 80 Mg [.cells 4 6,.tmp 5]) (h126:Con e 126 lastF.O) (h132:Con e 132 hplF.O):OvOk P 74 kptF.O:=by
 refine Bo hE g74 ?_
 rintro ⟨⟨c,bk,⟨ev,lo,sp,po,dn,nl,br⟩,hs,⟨ag,sq,tl,us,L⟩,fs,nx,so⟩,st,_⟩ _ ⟨_,_,rfl,hd,_,_,rfl,⟨e1,hst⟩,rfl⟩ ha K t f
 cases e1
 obtain ⟨hv,lv,fv,rfl,ho,hH,hL,hF⟩:=Bl hd
 obtain ⟨ls,hs2,hl2,hn⟩:=hL.lv
 obtain ⟨cs,hs1,hl1,hn1⟩:=hH.nth
 have hla:=HQ L st L.length
 have hlp:=GW hs st
 have hc:∀ (Q:AV→St→Prop) s',Q (.int .i64 (AJ L st L.length)) s'→ESc e 126 [lv,.int .i64 st] s' Q:=fun Q s' k=>Fn.u (F:=lastF) h126 (L,st,()) ⟨_,_,rfl,⟨_,rfl,hL⟩,_,_,rfl,⟨rfl,hst⟩,rfl⟩ trivial k
 have hc2:∀ (Q:AV→St→Prop) s',Q (.int .i64 (A9 hs st)) s'→ESc e 132 [hv,.int .i64 st] s' Q:=fun Q s' k=>Fn.u (F:=hplF) h132 (hs,st,()) ⟨_,_,rfl,⟨_,rfl,hH⟩,_,_,rfl,⟨rfl,hst⟩,rfl⟩ trivial k
 unfold ES at t f
 dsimp only at t f ha
 generalize AJ L st L.length=a at *
 generalize A9 hs st=b at *
 obtain ⟨sq',st',bl',pa,su,ho',r,hx,hx',hd'⟩:=hn a.toNat (by omega)
 rw [hx] at t f
 have f:=fun (h:¬((pa=false→0≤b)∧(pa=true→ho'=false→0≤b∧∀ h,hs[b.toNat]?=some h→2≤h.2.2.2.1)))=>f fun q=>h (q _ rfl)
 have t:=fun (h:(pa=false→0≤b)∧(pa=true→ho'=false→0≤b∧∀ h,hs[b.toNat]?=some h→2≤h.2.2.2.1))=>t fun x e=>by cases e;exact h
 by_cases hb:0≤b
 ·obtain ⟨⟨gst,gbl,gdi,gph,gde,gsq⟩,_,r2,gx,gxr,gd⟩:=hn1 b.toNat (by omega)
  obtain ⟨bv,dv,rfl,-⟩:=Cn gxr
  have f:=fun (h:¬(pa=true→ho'=false→2≤gph))=>f fun q=>h fun h1 h2=>(q.2 h1 h2).2 _ gx
  have t:=fun (h:pa=true→ho'=false→2≤gph)=>t ⟨fun _=>hb,fun h1 h2=>⟨hb,fun x e=>by rw [gx] at e;cases e;exact h h1 h2⟩⟩
  cases pa <;> cases ho'
  all_goals repeat' (first|((first|refine BS rfl hs2 rfl (show a=_ by omega) (by omega) hd' ?_|refine BS rfl hs1 rfl (show b=_ by omega) (by omega) gd ?_|refine A7 (cs:=[.int .u32 sq',.int .i64 st',.int .i64 bl',.bool _,.bool _,.bool _]) rfl ?_|refine A7 (cs:=[.int .i64 gst,bv,dv,.int .u8 (gph:Int),.bool gde,.int .u32 gsq]) rfl ?_|refine hc _ _ ?_|refine hc2 _ _ ?_|refine ESc.inl h80 ?_|refine An ?_|refine As ?_|refine ⟨rfl,?_⟩);conv=>whnf)|refine v1 ?_ ?_|refine v4 ?_ ?_|(intro _;first|omega|conv=>whnf))
  all_goals simp only [Bool.false_eq_true,Bool.true_eq_false,false_implies,true_implies,implies_true] at t f
  all_goals first
   | exact t (by omega) _
   | exact t trivial _
   | exact t _
   | exact f (by omega) _
 ·cases pa <;> cases ho'
  all_goals repeat' (first|((first|refine BS rfl hs2 rfl (show a=_ by omega) (by omega) hd' ?_|refine A7 (cs:=[.int .u32 sq',.int .i64 st',.int .i64 bl',.bool _,.bool _,.bool _]) rfl ?_|refine hc _ _ ?_|refine hc2 _ _ ?_|refine ESc.inl h80 ?_|refine An ?_|refine As ?_|refine ⟨rfl,?_⟩);conv=>whnf)|refine v1 ?_ ?_|(intro _;first|omega|conv=>whnf))
  all_goals first
   | exact f (fun q=>hb (q.1 rfl)) _
   | exact f (fun q=>hb (q.2 rfl rfl).1) _
   | exact t ⟨fun h=>(by cases h),fun _ h=>(by cases h)⟩ _
def Ep (c:Cfg) (hs:List Hd) (b:Int):Prop:=0≤A9 hs (Bz c b)∧∀ h,hs[(A9 hs (Bz c b)).toNat]?=some h→h.2.2.2.1≤1∧h.2.2.1[(BT c b).toNat]?=some true
def RI (c:Cfg) (hs:List Hd) (f:Fl):Prop:=∀ k<f.2.2.1.length,f.2.2.1[k]?=some 1→Ep c hs (f.2.1.2.1+(k:Int))
def K8 (c:Cfg) (hs:List Hd) (fs:List Fl):Prop:=∀ i<fs.length,∀ f,fs[i]?=some f→RI c hs f
noncomputable def hldF:Fn (Dv×Unit):=bF (.g dvC .nil) (fun x=>x.1.1.may∧Cc x.1.1 x.1.2.2.2.1∧EF x.1.1 x.1.2.2.2.2.2.1) fun x=>K8 x.1.1 x.1.2.2.2.1 x.1.2.2.2.2.2.1
theorem Wx {n:Int}{k:Nat}{m:Int}{d st:List Nat}{sq:List Int}{da:List (List Nat)}(h:J1 c (n,(k,a,m,d),st,sq,da)) (hi:i<st.length):0≤a+i∧a+i<B8 c:=by
 obtain ⟨_,h1,h2,-⟩:=h
 unfold B2 at h1
 omega
theorem B4 (hM:c.may):(0≤Ar c∧Ar c≤64)∧0≤B8 c∧B8 c≤1000:=by
 unfold Cfg.may at hM
 unfold B8 Ar
 have hmt:0≤c.chunk*c.rows∧c.chunk*c.rows≤64:=⟨Int.mul_nonneg (by omega) (by omega),Int.le_trans (Int.mul_le_mul (by omega:c.chunk≤8) (by omega:c.rows≤8) (by omega) (by omega)) (by decide)⟩
 exact ⟨hmt,Int.mul_nonneg (by omega) (by omega),Int.le_trans (Int.mul_le_mul hmt.2 (by omega:c.members-1≤15) (by omega) (by omega)) (by decide)⟩
set_option maxHeartbeats 2000000 in
theorem Zht (hE:EM P e) (h80:Inl e 80 Mg [.cells 4 6,.tmp 5]) (h125:Con e 125 placeF.O) (h132:Con e 132 hplF.O):OvOk P 70 hldF.O:=by
 refine Bo hE g70 ?_
 rintro ⟨⟨c,bk,⟨ev,lo,sp,po,dn,nl,br⟩,hs,⟨ag,sq,tl,us,L⟩,fs,nx,so⟩,_⟩ _ ⟨_,_,rfl,hd,rfl⟩ ⟨hM,hSh,hFs⟩ K t f
 obtain ⟨hv,lv,fv,rfl,ho,hH,hL,hF⟩:=Bl hd
 have hrow:=dvC.hf hd
 obtain ⟨cs,hs1,hl1,hn1⟩:=hH.nth
 obtain ⟨ks,hs2,hl2,hn2⟩:=hF.nth
 dsimp only at t f hM hSh hFs
 have hcp:∀ b,0≤b∧b<B8 c→∀ (Q:AV→St→Prop) s',Q (.tup [.int .i64 (Bz c b),.int .i64 (BT c b)]) s'→ESc e 125 [.agg c.c,.int .i64 b] s' Q:=fun b hb Q s' k=>Fn.u (F:=placeF) h125 (c,b,()) ⟨_,_,rfl,⟨rfl,ho.1⟩,_,_,rfl,⟨rfl,AW (show Aa b by have:=B4 hM;unfold Aa;omega)⟩,rfl⟩ ⟨hM,hb.1,hb.2⟩ k
 have hch:∀ s,Aa s→∀ (Q:AV→St→Prop) s',Q (.int .i64 (A9 hs s)) s'→ESc e 132 [hv,.int .i64 s] s' Q:=fun s hst Q s' k=>Fn.u (F:=hplF) h132 (hs,s,()) ⟨_,_,rfl,⟨_,rfl,hH⟩,_,_,rfl,⟨rfl,AW hst⟩,rfl⟩ trivial k
 conv=>whnf
 refine Ax hE fs.length (fun i=>[(1,.ptr 0 0),(3,.int .i64 (i:Int))]) (fun _=>[.row 33 (c.c++[.bool bk,.int .u32 ev,.int .i64 lo,.bool sp,.int .i64 po,.int .i64 dn,.bool nl,.bool br,hv,.int .u32 ag,.int .u32 sq,.int .i64 tl,.int .i64 us,lv,fv,.int .i64 nx,.bool so])]) (fun i=>∀ j<i,∀ f,fs[j]?=some f→RI c hs f) (fun k h=>by omega) (Abs.tells (rs:=[0]) .a) ?_
 intro i hi hI
 conv=>whnf
 refine Ai hs2 ?_;conv=>whnf
 by_cases hlt:i<fs.length
 ·obtain ⟨⟨n,⟨k,a,m,d⟩,st,sqs,da⟩,_,r,hx,hxr,hd'⟩:=hn2 i hlt
  have hfr:=ftC.hf hxr
  obtain ⟨ev',tv,qv,av,rfl,o1,o2,o3,o4,g1,g2,g3,g4⟩:=De hxr
  obtain ⟨ts,hs3,hl3,hn3⟩:=g2.nth
  have hef:=(hFs.2 i hlt _ hx).1
  repeat' (first|((first|refine Am hs2 hlt hd' ?_|refine A7 (cs:=[.int .i64 n,.int .u8 (k:Int),.int .i64 a,.int .i64 m,ev',tv,qv,av]) rfl ?_);conv=>whnf)|refine v1 ?_ ?_|(intro _;first|omega|conv=>whnf))
  refine Ax hE st.length (fun k'=>[(1,.ptr 0 0),(3,.int .i64 (i:Int)),(4,.ptr 1 0),(5,.int .i64 (k':Int))]) (fun _=>[.row 33 (c.c++[.bool bk,.int .u32 ev,.int .i64 lo,.bool sp,.int .i64 po,.int .i64 dn,.bool nl,.bool br,hv,.int .u32 ag,.int .u32 sq,.int .i64 tl,.int .i64 us,lv,fv,.int .i64 nx,.bool so]),.row 143 [.int .i64 n,.int .u8 (k:Int),.int .i64 a,.int .i64 m,ev',tv,qv,av]]) (fun k'=>∀ j<k',st[j]?=some 1→Ep c hs (a+(j:Int))) (fun k h=>by omega) (Abs.tells (rs:=[0,1]) .a) ?_
  intro k' hk' hK
  conv=>whnf
  refine Ai hs3 ?_;conv=>whnf
  by_cases hkt:k'<st.length
  ·obtain ⟨s1,_,r3,hx3,⟨rfl,hb3⟩,hd3⟩:=hn3 k' hkt
   have hb:=Wx hef hkt
   have hbm:=(B4 hM).2
   have hp:=Mp hM hb
   have hlp:=GW hs (Bz c (a+k'))
   have hcp:=hcp _ hb
   have hS:Aa (Bz c (a+k')):=by have:=B4 hM;unfold Aa;omega
   have hch:=hch _ hS
   have hN:(¬(s1=1→Ep c hs (a+k')))→∀ s,K (.bool false) s:=fun h=>f fun q=>h fun e=>q i hlt _ hx k' hkt (by subst e;exact hx3)
   have hT:(s1=1→Ep c hs (a+k'))→∀ j<k'+1,st[j]?=some 1→Ep c hs (a+(j:Int)):=fun h=>AR hK fun e=>h (by rw [hx3] at e;exact Zrh e)
   unfold Ep at hN
   have hT':(s1=1→0≤A9 hs (Bz c (a+k'))∧∀ h,hs[(A9 hs (Bz c (a+k'))).toNat]?=some h→h.2.2.2.1≤1∧h.2.2.1[(BT c (a+k')).toNat]?=some true)→∀ j<k'+1,st[j]?=some 1→Ep c hs (a+(j:Int)):=hT
   clear hT
   generalize A9 hs (Bz c (a+k'))=b at *
   generalize Bz c (a+k')=S at *
   generalize BT c (a+k')=Kx at *
   by_cases hb0:0≤b
   ·obtain ⟨⟨gst,gbl,gdi,gph,gde,gsq⟩,_,r2,gx,gxr,gd⟩:=hn1 b.toNat (by omega)
    obtain ⟨bv,dv,rfl,-,-,hdi,-⟩:=Cn gxr
    obtain ⟨ds,hs4,hl4,hn4⟩:=hdi.nth
    have hgl:gdi.length=c.members-1:=by have:=(hSh.1 b.toNat (by omega) _ gx).1;unfold DD at this;exact this.2.2.1
    obtain ⟨g,_,r5,gx5,rfl,gd5⟩:=hn4 Kx.toNat (by omega)
    have hN:=fun (h:¬(s1=1→gph≤1∧g=true))=>hN fun q=>h fun e=>by
     have:=(q e).2 _ gx;dsimp only at this;rw [gx5] at this;exact ⟨this.1,Zrh this.2⟩
    have hT':=fun (h:s1=1→gph≤1∧g=true)=>hT' fun e=>⟨hb0,fun x hx=>by rw [gx] at hx;cases hx;exact ⟨(h e).1,by dsimp only;rw [gx5,(h e).2]⟩⟩
    cases g
    all_goals repeat' (first|((first|refine BS rfl hs1 rfl (show b=_ by omega) (by omega) gd ?_|refine Am hs3 hkt hd3 ?_|refine BS rfl hs4 rfl (show Kx=_ by omega) (by omega) gd5 ?_|refine Ap ?_|refine A7 (cs:=[.int .i64 gst,bv,dv,.int .u8 (gph:Int),.bool gde,.int .u32 gsq]) rfl ?_|refine hcp _ _ ?_|refine hch _ _ ?_|refine ESc.inl h80 ?_|refine v7 ?_|refine An ?_|refine As ?_|refine ⟨rfl,?_⟩);conv=>whnf)|refine v1 ?_ ?_|refine v3 ?_ ?_|refine v5 ?_ ?_|(intro _;first|omega|conv=>whnf))
    all_goals simp only [Bool.false_eq_true,and_false,and_true,imp_false] at hN hT'
    all_goals first
     | exact hN (by omega) _
     | exact ⟨hkt,hT' (by omega),Abs.tells (rs:=[0,1]) .a⟩
     | trace_state
   ·have hN:=fun (h:s1=1)=>hN fun q=>hb0 (q h).1
    have hT':=fun (h:s1≠1)=>hT' fun e=>absurd e h
    repeat' (first|((first|refine Am hs3 hkt hd3 ?_|refine Ap ?_|refine hcp _ _ ?_|refine hch _ _ ?_|refine ESc.inl h80 ?_|refine v7 ?_|refine As ?_|refine ⟨rfl,?_⟩);conv=>whnf)|refine v1 ?_ ?_|refine v5 ?_ ?_|(intro _;first|omega|conv=>whnf))
    all_goals first
     | exact hN (by omega) _
     | exact ⟨hkt,hT' (by omega),Abs.tells (rs:=[0,1]) .a⟩
     | trace_state
  ·repeat' (first|((first|refine v7 ?_|refine ⟨rfl,?_⟩);conv=>whnf)|refine v1 ?_ ?_|(intro _;first|omega|conv=>whnf))
   exact ⟨hlt,AR hI fun g hg=>by rw [hx] at hg;cases hg;exact fun j hj=>hK j (by dsimp only at hj;omega),Abs.tells (rs:=[0]) .a⟩
 ·repeat' (first|refine v1 ?_ ?_|(intro _;first|omega|conv=>whnf))
  exact t (fun j hj=>hI j (by omega)) _
theorem Ip {ev:Int}(h1:Be ev) (h2:Aa lo) (h3:Aa po) (h4:Aa dn):loC.r (ev,lo,sp,po,dn,nl,br) [.int .u32 ev,.int .i64 lo,.bool sp,.int .i64 po,.int .i64 dn,.bool nl,.bool br]:=
 ⟨[_],_,rfl,⟨rfl,Rx h1⟩,[_],_,rfl,⟨rfl,AW h2⟩,[_],_,rfl,rfl,[_],_,rfl,⟨rfl,AW h3⟩,[_],_,rfl,⟨rfl,AW h4⟩,[_],_,rfl,rfl,rfl⟩
theorem X2 {v:AV}(h1:Be ag) (h2:Be sq) (h3:Aa tl) (h4:Aa us) (h5:Ls lvC L v):lgC.r (ag,sq,tl,us,L) [.int .u32 ag,.int .u32 sq,.int .i64 tl,.int .i64 us,v]:=
 ⟨[_],_,rfl,⟨rfl,Rx h1⟩,[_],_,rfl,⟨rfl,Rx h2⟩,[_],_,rfl,⟨rfl,AW h3⟩,[_],_,rfl,⟨rfl,AW h4⟩,v,rfl,h5⟩
def G0:Dv→Prop
 | (c,_,o,hs,lg,fs,nx,_)=>c.may∧Bq c o∧Cc c hs∧KW c lg∧EF c fs∧1≤nx∧nx≤2147483648
noncomputable def prtF:Fn (Dv×Unit):=bF (.g dvC .nil) (fun _=>True) fun x=>G0 x.1
theorem Zgz (hE:EM P e) (h120:Con e 120 mayRF.O) (h121:Con e 121 loF.O) (h122:Con e 122 shF.O) (h123:Con e 123 lgF.O) (h124:Con e 124 flsF.O):OvOk P 69 prtF.O:=by
 refine Bo hE g69 ?_
 rintro ⟨⟨c,bk,⟨ev,lo,sp,po,dn,nl,br⟩,hs,⟨ag,sq,tl,us,L⟩,fs,nx,so⟩,_⟩ _ ⟨_,_,rfl,hd,rfl⟩-K t f
 obtain ⟨hv,lv,fv,rfl,⟨ho,o1,o2,o3,o4,o5,o6,o7,o8,oN⟩,hH,hL,hF⟩:=Bl hd
 have hc1:=fun (Q:AV→St→Prop) s (k:Q (.bool (decide c.may)) s)=>ESc.fam (e:=e) (k:=Q) (s:=s) mayRF h120 c ho rfl k
 have hc2:=fun (hM:c.may) (Q:AV→St→Prop) s a b=>@bF.u _ _ _ _ e 121 s Q _ h121 (c,_,()) ⟨_,_,rfl,⟨rfl,ho⟩,_,_,rfl,Ip (sp:=sp) (nl:=nl) (br:=br) o1 o2 o3 o4,rfl⟩ hM a b
 have hc3:=fun (hM:c.may) (Q:AV→St→Prop) s a b=>@bF.u _ _ _ _ e 122 s Q [.agg c.c,hv] h122 (c,hs,()) ⟨_,_,rfl,⟨rfl,ho⟩,_,_,rfl,⟨_,rfl,hH⟩,rfl⟩ hM a b
 have hc4:=fun (hM:c.may) (Q:AV→St→Prop) s a b=>@bF.u _ _ _ _ e 123 s Q _ h123 (c,_,()) ⟨_,_,rfl,⟨rfl,ho⟩,_,_,rfl,X2 o5 o6 o7 o8 hL,rfl⟩ hM a b
 have hc5:=fun (hM:c.may) (Q:AV→St→Prop) s a b=>@bF.u _ _ _ _ e 124 s Q [.agg c.c,fv] h124 (c,fs,()) ⟨_,_,rfl,⟨rfl,ho⟩,_,_,rfl,⟨_,rfl,hF⟩,rfl⟩ hM a b
 unfold G0 at t f
 dsimp only at t f hc2 hc3 hc4 hc5
 generalize Bq c _=A1 at *
 generalize Cc c _=A2 at *
 generalize KW c _=A3 at *
 generalize EF c _=A4 at *
 conv=>whnf
 by_cases hM:c.may
 ·rw [Zqe hM] at hc1
  repeat' (first|(refine hc2 hM _ _ (fun q1=>?_) (fun q1=>?_) <;> conv=>whnf)|(refine hc3 hM _ _ (fun q2=>?_) (fun q2=>?_) <;> conv=>whnf)|(refine hc4 hM _ _ (fun q3=>?_) (fun q3=>?_) <;> conv=>whnf)|(refine hc5 hM _ _ (fun q4=>?_) (fun q4=>?_) <;> conv=>whnf)|((first|refine hc1 _ _ ?_|refine An ?_|refine As ?_);conv=>whnf)|refine v2 ?_ ?_|refine v4 ?_ ?_|(intro _;first|omega|conv=>whnf))
  all_goals first
   | exact t ⟨hM,q1,q2,q3,q4,by assumption,by assumption⟩ _
   | exact f (fun q=>by omega) _
   | exact f (fun q=>q1 q.2.1) _
   | exact f (fun q=>q2 q.2.2.1) _
   | exact f (fun q=>q3 q.2.2.2.1) _
   | exact f (fun q=>q4 q.2.2.2.2.1) _
 ·rw [Zqq hM] at hc1
  repeat' (first|((first|refine hc1 _ _ ?_|refine As ?_);conv=>whnf)|fail)
  exact f (fun q=>hM q.1) _
def EA:Dv→Prop
 | (c,bk,(ev,lo,sp,po,dn,nl,br),hs,(ag,sq,tl,us,L),fs,nx,so)=>G0 (c,bk,(ev,lo,sp,po,dn,nl,br),hs,(ag,sq,tl,us,L),fs,nx,so)∧(∀ f,fs[fs.length-1]?=some f→f.1<nx)∧K8 c hs fs∧¬Jy L∧(nl=true→Jp hs L)∧(nl=false→(∀ i<hs.length,∀ h,hs[i]?=some h→Dp L h)∧∀ i<L.length,∀ x,L[i]?=some x→ES L hs x.stripe)
noncomputable def mayF:Fn (Dv×Unit):=bF (.g dvC .nil) (fun _=>True) fun x=>EA x.1
theorem Q9 {L:List Lv}{s:Int}{i:Nat}{x:Lv}(hx:L[i]?=some x) (h:x.stripe=s):∀ n,i<n→(i:Int)≤AJ L s n
 | 0,h0=>by omega
 | n+1,h0=>by
  unfold AJ
  rcases Zr1.1 h0 with h1|rfl
  ·have:=Q9 hx h n h1
   split <;> omega
  ·rw [hx,Zqd (by rw [← h];rfl)];exact Int.le_refl _
set_option maxHeartbeats 2000000 in
theorem Zhi (hE:EM P e) (h69:Con e 69 prtF.O) (h70:Con e 70 hldF.O) (h71:Con e 71 lagF.O) (h72:Con e 72 bareF.O) (h73:Con e 73 dltF.O) (h74:Con e 74 kptF.O):OvOk P 30 mayF.O:=by
 refine Bo hE g30 ?_
 rintro ⟨⟨c,bk,⟨ev,lo,sp,po,dn,nl,br⟩,hs,⟨ag,sq,tl,us,L⟩,fs,nx,so⟩,_⟩ _ ⟨_,_,rfl,hd,rfl⟩-K t f
 obtain ⟨hv,lv,fv,rfl,⟨ho,o1,o2,o3,o4,o5,o6,o7,o8,oN⟩,hH,hL,hF⟩:=Bl hd
 have hrow:=dvC.hf hd
 obtain ⟨cs,hs1,hl1,hn1⟩:=hH.nth
 obtain ⟨ls,hs2,hl2,hn2⟩:=hL.lv
 obtain ⟨ks,hs3,hl3,hn3⟩:=hF.nth
 have hc1:=fun (Q:AV→St→Prop) s a b=>@bF.u _ _ _ _ e 69 s Q _ h69 (_,()) ⟨_,_,rfl,hd,rfl⟩ trivial a b
 have hc2:=fun (hq:G0 (c,bk,(ev,lo,sp,po,dn,nl,br),hs,(ag,sq,tl,us,L),fs,nx,so)) (Q:AV→St→Prop) s a b=>@bF.u _ _ _ _ e 70 s Q _ h70 (_,()) ⟨_,_,rfl,hd,rfl⟩ ⟨hq.1,hq.2.2.1,hq.2.2.2.2.1⟩ a b
 have hc3:=fun (Q:AV→St→Prop) s a b=>@bF.u _ _ _ _ e 71 s Q [lv] h71 (L,()) ⟨_,_,rfl,⟨_,rfl,hL⟩,rfl⟩ trivial a b
 have hc4:=fun (Q:AV→St→Prop) s a b=>@bF.u _ _ _ _ e 72 s Q _ h72 (_,()) ⟨_,_,rfl,hd,rfl⟩ trivial a b
 have hc5:=fun h l (hh:hdC.r h l) (Q:AV→St→Prop) s a b=>@bF.u _ _ _ _ e 73 s Q _ h73 (_,h,()) ⟨_,_,rfl,hd,_,_,rfl,hh,rfl⟩ trivial a b
 have hc6:=fun s' (hs':Aa s') (hl:0≤AJ L s' L.length) (Q:AV→St→Prop) s a b=>@bF.u _ _ _ _ e 74 s Q [_,.int .i64 s'] h74 (_,s',()) ⟨_,_,rfl,hd,_,_,rfl,⟨rfl,AW hs'⟩,rfl⟩ hl a b
 unfold EA at t f
 dsimp only at t f hc1 hc2 hc3 hc4 hc5 hc6
 generalize G0 _=A1 at *
 generalize K8 c hs fs=A2 at *
 generalize Jy L=A3 at *
 generalize Jp hs L=A4 at *
 have key:∀ B:Prop,(B↔∀ f,fs[fs.length-1]?=some f→f.1<nx)→(A1∧B∧A2∧¬A3∧(nl=true→A4)∧(nl=false→(∀ i<hs.length,∀ h,hs[i]?=some h→Dp L h)∧∀ i<L.length,∀ x,L[i]?=some x→ES L hs x.stripe)→∀ s,K (.bool true) s)∧(¬(A1∧B∧A2∧¬A3∧(nl=true→A4)∧(nl=false→(∀ i<hs.length,∀ h,hs[i]?=some h→Dp L h)∧∀ i<L.length,∀ x,L[i]?=some x→ES L hs x.stripe))→∀ s,K (.bool false) s):=fun B hB=>⟨fun h=>t (by rw [← hB];exact h),fun h=>f (by rw [← hB];exact h)⟩
 clear t f
 have h0:∃ B:Prop,(B↔∀ f,fs[fs.length-1]?=some f→f.1<nx)∧(fs.length=0∧B∨∃ n r,(B↔n<nx)∧0<fs.length∧ks.drop ((fs.length-1)*8)=.int .i64 n::r):=by
  by_cases h0:0<fs.length
  ·obtain ⟨⟨n,⟨k,a,m,d⟩,st,sqs,da⟩,_,r,hx,hxr,hd'⟩:=hn3 (fs.length-1) (by omega)
   obtain ⟨ev',tv,qv,av,rfl,-⟩:=De hxr
   exact ⟨n<nx,by rw [hx];exact ⟨fun h f e=>(by cases e;exact h),fun h=>h _ rfl⟩,.inr ⟨n,_,.rfl,h0,hd'⟩⟩
  ·exact ⟨True,by rw [Zsa (by omega)];exact ⟨fun _ f e=>(by cases e),fun _=>trivial⟩,.inl ⟨by omega,trivial⟩⟩
 obtain ⟨B,hB,h0⟩:=h0
 obtain ⟨t,f⟩:=key B hB
 clear key hB
 rcases h0 with ⟨h0,hB⟩|⟨n,r,hB,h0,hd'⟩ <;> cases nl
 all_goals repeat' (first|(refine hc1 _ _ (fun q1=>?_) (fun q1=>?_) <;> conv=>whnf)|(refine hc2 q1 _ _ (fun q2=>?_) (fun q2=>?_) <;> conv=>whnf)|(refine hc3 _ _ (fun q3=>?_) (fun q3=>?_) <;> conv=>whnf)|(refine hc4 _ _ (fun q4=>?_) (fun q4=>?_) <;> conv=>whnf)|((first|refine BS rfl hs3 rfl (show (fs.length:Int)-1=((fs.length-1:Nat):Int) by omega) (by omega) hd' ?_|refine Ap ?_|refine Ai hs3 ?_|refine v8 ?_|refine An ?_|refine As ?_);conv=>whnf)|refine v3 ?_ ?_|refine v4 ?_ ?_|(intro _;first|omega|conv=>whnf))
 all_goals first
  | exact f (fun q=>q1 q.1) _
  | exact f (fun q=>q2 q.2.2.1) _
  | exact f (fun q=>q.2.2.2.1 q3) _
  | exact f (fun q=>by have:=hB.1 q.2.1;omega) _
  | exact f (fun q=>q4 (q.2.2.2.2.1 rfl)) _
  | exact t ⟨q1,hB,q2,q3,fun _=>q4,fun h=>nomatch h⟩ _
  | exact t ⟨q1,hB.2 (by assumption),q2,q3,fun _=>q4,fun h=>nomatch h⟩ _
  | skip
 all_goals
  have hB:B:=by first|exact hB|exact hB.2 (by assumption)
  refine Ax hE hs.length (fun i=>[(1,.ptr 0 0),(3,.int .i64 (i:Int))]) (fun _=>[.row 33 (c.c++[.bool bk,.int .u32 ev,.int .i64 lo,.bool sp,.int .i64 po,.int .i64 dn,.bool false,.bool br,hv,.int .u32 ag,.int .u32 sq,.int .i64 tl,.int .i64 us,lv,fv,.int .i64 nx,.bool so])]) (fun i=>∀ j<i,∀ h,hs[j]?=some h→Dp L h) (fun k h=>by omega) (Abs.tells (rs:=[0]) .a) ?_
  intro i hi hI
  conv=>whnf
  refine Ai hs1 ?_;conv=>whnf
  by_cases hlt:i<hs.length
  ·obtain ⟨h,l,r,hx,hxr,hd2⟩:=hn1 i hlt
   have hc5:=hc5 h l hxr
   have hfh:¬Dp L h→∀ s,K (.bool false) s:=fun g=>f fun q=>g ((q.2.2.2.2.2 rfl).1 i hlt h hx)
   have hth:Dp L h→∀ j<i+1,∀ h,hs[j]?=some h→Dp L h:=fun g=>AR hI fun y e=>by rw [hx] at e;cases e;exact g
   obtain ⟨st,bl,di,ph,de,hsq⟩:=h
   obtain ⟨bv,dv,rfl,-⟩:=Cn hxr
   repeat' (first|(refine hc5 _ _ (fun hq=>?_) (fun hq=>?_) <;> conv=>whnf)|((first|refine Am hs1 hlt hd2 ?_|refine A7 (cs:=[.int .i64 st,bv,dv,.int .u8 (ph:Int),.bool de,.int .u32 hsq]) rfl ?_|refine v7 ?_|refine An ?_|refine As ?_|refine ⟨rfl,?_⟩);conv=>whnf)|refine v1 ?_ ?_|(intro _;first|omega|conv=>whnf))
   ·exact ⟨hlt,hth hq,Abs.tells (rs:=[0]) .a⟩
   ·exact hfh hq _
  ·repeat' (first|refine v1 ?_ ?_|(intro _;first|omega|conv=>whnf))
   have hI:∀ j<hs.length,∀ h,hs[j]?=some h→Dp L h:=fun j hj=>hI j (by omega)
   refine Ax hE L.length (fun i=>[(1,.ptr 0 0),(4,.int .i64 (i:Int))]) (fun _=>[.row 33 (c.c++[.bool bk,.int .u32 ev,.int .i64 lo,.bool sp,.int .i64 po,.int .i64 dn,.bool false,.bool br,hv,.int .u32 ag,.int .u32 sq,.int .i64 tl,.int .i64 us,lv,fv,.int .i64 nx,.bool so])]) (fun i=>∀ j<i,∀ x,L[j]?=some x→ES L hs x.stripe) (fun k h=>by omega) (Abs.tells (rs:=[0]) .a) ?_
   intro i hi hJ
   conv=>whnf
   refine Ai hs2 ?_;conv=>whnf
   by_cases hlt:i<L.length
   ·obtain ⟨sq',st',bl',pa,su,ho',r,hx,hx',hd2⟩:=hn2 i hlt
    have hc6:=hc6 st' hx'.2.1 (by have:=Q9 hx rfl L.length hlt;dsimp only at this;omega)
    repeat' (first|(refine hc6 _ _ (fun hq=>?_) (fun hq=>?_) <;> conv=>whnf)|((first|refine Am hs2 hlt hd2 ?_|refine Ap ?_|refine v7 ?_|refine An ?_|refine As ?_|refine ⟨rfl,?_⟩);conv=>whnf)|refine v1 ?_ ?_|(intro _;first|omega|conv=>whnf))
    ·exact ⟨hlt,AR hJ fun y e=>by rw [hx] at e;cases e;exact hq,Abs.tells (rs:=[0]) .a⟩
    ·exact f (fun q=>hq ((q.2.2.2.2.2 rfl).2 i hlt _ hx)) _
   ·repeat' (first|refine v1 ?_ ?_|(intro _;first|omega|conv=>whnf))
    exact t ⟨q1,hB,q2,q3,(by intro h;cases h),fun _=>⟨hI,fun j hj=>hJ j (by omega)⟩⟩ _
def AU (l:List Nat):Nat:=(l.map fun n=>8+min n 100000).sum
theorem Ly (l:List Nat) (n:Nat):AU (l++[n])=AU l+(8+min n 100000):=by unfold AU;simp
theorem LM:∀ (l:List Nat),AU l≤100008*l.length
 | []=>Zqu _
 | n::l=>by
  have:=LM l
  show 8+min n 100000+AU l≤100008*(l.length+1)
  omega
theorem LA:∀ {l:List Nat}{n:Nat},n ∈ l→min n 100000≤AU l
 | [],_,h=>by cases h
 | m::l,n,h=>by
  show min n 100000≤8+min m 100000+AU l
  rcases Zrj.1 h with rfl|h
  ·omega
  ·have:=LA h;omega
def DK.bl (x:DK):List Nat:=x.bs.map List.length
def DK.wl (x:DK):List Nat:=x.ws.map fun w=>w.b.length
def Gw (x:DK):Bool:=decide (300<x.us.length) || (decide (1100<x.ws.length) || decide (60000<AU (x.bl.take 400)+AU (x.wl.take 1200)))
theorem grt4_ok {x:DK}(h:x.any) (hg:Gw x=false):x.ok:=by
 unfold Gw at hg
 simp only [Zru,Zrf] at hg
 obtain ⟨h1,h2,h3⟩:=hg
 have hb:=h.bs.length
 have hbl:x.bl.take 400=x.bl:=Zqi (by unfold DK.bl;rw [Zqg];omega)
 have hwl:x.wl.take 1200=x.wl:=Zqi (by unfold DK.wl;rw [Zqg];omega)
 rw [hbl,hwl] at h3
 refine ⟨h,by omega,by omega,fun b hb=>?_,fun w hw=>?_⟩
 ·have:=LA (l:=x.bl) (n:=b.length) (List.mem_map_of_mem hb);omega
 ·have:=LA (l:=x.wl) (n:=w.b.length) (Zq9.2 ⟨w,hw,rfl⟩);omega
def grt4F:Fam DK:=⟨DK.any,fun x=>[x.v],fun x=>.bool (Gw x),fun x y hx hy h=>by rw [DK.inj hx hy (Zql h).1]⟩
theorem Zeu (hE:EM P e):OvOk P 68 grt4F.O:=by
 refine Cx g68.b fun x hx=>?_
 refine ⟨by show (AM.hf x.v && true)=true;rw [DK.hf hx];rfl,rfl,C.of_G hE g68 ?_⟩
 have fin:∀ s (b:Bool),b=Gw x→Frz s (.bool b) (grt4F.out x):=by rintro s b rfl;exact .plain _ rfl
 have hbl:=hx.bl
 have hwl:=hx.wl
 have hbs:=hx.bs
 have hws:=hx.ws
 have hbn:=hx.bs.length
 obtain ⟨O,hO⟩:∃ O,O=grt4F.out x:=⟨_,rfl⟩
 rw [← hO] at fin ⊢
 clear hO
 obtain ⟨BL,hBL⟩:∃ L,L=x.bl:=⟨_,rfl⟩
 obtain ⟨WL,hWL⟩:∃ L,L=x.wl:=⟨_,rfl⟩
 have hBn:BL.length=x.bs.length:=by rw [hBL];unfold DK.bl;rw [Zqg]
 have hWn:WL.length=x.ws.length:=by rw [hWL];unfold DK.wl;rw [Zqg]
 have hBg:∀ i (h:i<x.bs.length) (h':i<BL.length),BL[i]=x.bs[i].length:=fun i h h'=>by
  have hq:x.bl[i]?=some x.bs[i].length:=by unfold DK.bl;rw [Zq8,Zp9 h];rfl
  rw [← hBL,Zp9 h'] at hq;exact Zrh hq
 have hWg:∀ i (h:i<x.ws.length) (h':i<WL.length),WL[i]=x.ws[i].b.length:=fun i h h'=>by
  have hq:x.wl[i]?=some x.ws[i].b.length:=by unfold DK.wl;rw [Zq8,Zp9 h];rfl
  rw [← hWL,Zp9 h'] at hq;exact Zrh hq
 unfold Gw at fin
 rw [← hBL,← hWL] at fin
 clear hBL hWL hx
 obtain ⟨bv,us,bs,wv,ws,dd⟩:=x
 dsimp only at hbl hwl hbs hws hbn hBn hWn hBg hWg fin
 have hdf:hfs [bv,wv,.bool dd]=true:=by
  show (AM.hf bv && (AM.hf wv && (true && true)))=true
  rw [hbl.hf,hwl.hf];rfl
 show VW P e 0 (match a68 with|.mk c _=>c) (Ah [.agg [bv,wv,.bool dd]] 0 .lf) St0 none [] _
 conv=>whnf
 refine DZ (α:=Nat) (fun i=>[(1,.ptr 0 0),(3,.int .i64 (AU (BL.take i):Nat)),(4,.int .i64 (i:Int))]) (fun _=>[.row 60 [bv,wv,.bool dd]]) (fun i=>us.length-i) (fun i=>i≤us.length∧i≤400) 0 ⟨Zqs _,Zqs _⟩
  (Abs.tells (rs:=[0]) .a) ?_
 rintro i ⟨hi,hi4⟩
 refine Cy hE ?_
 have hg1:=LM (BL.take i)
 rw [Zqz] at hg1
 by_cases hlt:i<us.length∧i<400
 ·obtain ⟨hl1,hl2⟩:=hlt
  conv=>whnf
  refine Ai hbl ?_;conv=>whnf
  refine Bb (a:=(i:Int)) (b:=(us.length:Int)) rfl rfl (fun _=>?_) (fun h=>by omega);conv=>whnf
  refine Bb (a:=(i:Int)) (b:=400) rfl rfl (fun _=>?_) (fun h=>by omega);conv=>whnf
  refine Cr rfl hbl rfl hl1 ?_;conv=>whnf
  obtain ⟨b,hb1,hb2⟩:=hbs.get (Zp9 hl1)
  have hlb:i<bs.length:=by omega
  have hLB:i<BL.length:=by omega
  have hbe:bs[i]=b:=by rw [Zp9 hlb] at hb1;exact Zrh hb1
  have hsucc:((AU (BL.take (i+1)):Nat):Int)=(AU (BL.take i):Int)+(8+((min b.length 100000:Nat):Int)):=by
   rw [Zqm hLB,Ly,hBg i hlb hLB,hbe];omega
  have hug:us[i]?=some us[i]:=Zp9 hl1
  revert hb2 hug
  generalize us[i]=u
  intro hb2 hug
  refine EHead.mk (v:=u) (by rw [Zrc,Zqk,Zri];exact hug) ?_;conv=>whnf
  refine AA rfl hb2.1 ?_;conv=>whnf
  refine EPrim.min2 (a:=(b.length:Int)) (b:=100000) rfl ?_
  rw [show min (b.length:Int) 100000=((min b.length 100000:Nat):Int) by omega]
  conv=>whnf
  repeat' (first|((first|refine v7 ?_|refine ⟨rfl,?_⟩);conv=>whnf)|fail)
  exact ⟨i+1,⟨hl1,hl2⟩,by omega,Abs.tells (rs:=[0]) ⟨by decide,⟨r9,⟨rfl,by rw [hsucc];rfl⟩,r9,trivial⟩,⟨o9,trivial⟩⟩⟩
 ·by_cases hl1:i<us.length
  ·conv=>whnf
   refine Ai hbl ?_;conv=>whnf
   (refine Bb (a:=(i:Int)) (b:=(us.length:Int)) rfl rfl (fun _=>?_) (fun h=>by omega);(conv=>whnf);refine Bb (a:=(i:Int)) (b:=400) rfl rfl (fun _=>by omega) (fun _=>?_))
   have hBt:BL.take i=BL.take 400:=by
    rcases (show i=us.length∨i=400 by omega) with h|h
    ·rw [h,Zqi (by omega),Zqi (by omega)]
    ·rw [h]
   rw [hBt] at hg1 ⊢
   conv=>whnf
   refine DZ (α:=Nat) (fun j=>[(1,.ptr 0 0),(3,.int .i64 ((AU (BL.take 400):Nat)+(AU (WL.take j):Nat))),(5,.int .i64 (j:Int))]) (fun _=>[.row 60 [bv,wv,.bool dd]]) (fun j=>ws.length-j) (fun j=>j≤ws.length∧j≤1200) 0 ⟨Zqs _,Zqs _⟩
    (Abs.tells (rs:=[0]) ⟨by decide,⟨r9,⟨rfl,by show _=some (AV.int .i64 ((AU (BL.take 400):Int)+0));rw [Int.add_zero];rfl⟩,r9,trivial⟩,⟨o9,trivial⟩⟩) ?_
   rintro j ⟨hj,hj4⟩
   refine Cy hE ?_
   have hg2:=LM (WL.take j)
   rw [Zqz] at hg2
   by_cases hjlt:j<ws.length∧j<1200
   ·obtain ⟨hj1,hj2⟩:=hjlt
    have hd:=GC hj1
    have hwa:=hws _ (Zra hj1)
    have hLW:j<WL.length:=by omega
    have hsucc:((AU (WL.take (j+1)):Nat):Int)=(AU (WL.take j):Int)+(8+((min ws[j].b.length 100000:Nat):Int)):=by
     rw [Zqm hLW,Ly,hWg j hj1 hLW];omega
    have hall:=And.intro hd (And.intro hwa hsucc)
    clear hd hwa hsucc
    revert hall
    generalize ws[j]=w
    obtain ⟨wa,wu,wb⟩:=w
    rintro ⟨hd,⟨hwa,hwb⟩,hsucc⟩
    have hd:(Ad ws).drop (j*2)=[.int .i64 wa,wu]++Ad (ws.drop (j+1)):=hd
    dsimp only at hwa hwb hsucc
    have hsucc':((AU (BL.take 400):Nat):Int)+(AU (WL.take (j+1)):Int)=((AU (BL.take 400):Nat):Int)+(AU (WL.take j):Int)+(8+((min wb.length 100000:Nat):Int)):=by rw [hsucc];omega
    conv=>whnf
    refine Ai hwl ?_;conv=>whnf
    refine Bb (a:=(j:Int)) (b:=(ws.length:Int)) rfl rfl (fun _=>?_) (fun h=>by omega);conv=>whnf
    refine Bb (a:=(j:Int)) (b:=1200) rfl rfl (fun _=>?_) (fun h=>by omega);conv=>whnf
    refine Cr rfl hwl rfl hj1 ?_
    rw [hd]
    conv=>whnf
    repeat' (first|((first|refine EHead.mk (v:=wu) rfl ?_|refine AA rfl hwb.1 ?_);conv=>whnf)|fail)
    refine EPrim.min2 (a:=(wb.length:Int)) (b:=100000) rfl ?_
    rw [show min (wb.length:Int) 100000=((min wb.length 100000:Nat):Int) by omega]
    conv=>whnf
    repeat' (first|((first|refine v7 ?_|refine ⟨rfl,?_⟩);conv=>whnf)|fail)
    exact ⟨j+1,⟨hj1,hj2⟩,by omega,Abs.tells (rs:=[0]) ⟨by decide,⟨r9,⟨rfl,by rw [hsucc'];rfl⟩,r9,trivial⟩,⟨o9,trivial⟩⟩⟩
   ·have hWt:WL.take j=WL.take 1200:=by
     rcases (show j=ws.length∨j=1200 by omega) with h|h
     ·rw [h,Zqi (by omega),Zqi (by omega)]
     ·rw [h]
    rw [hWt] at hg2 ⊢
    by_cases hj1:j<ws.length
    ·conv=>whnf
     refine Ai hwl ?_;conv=>whnf
     (refine Bb (a:=(j:Int)) (b:=(ws.length:Int)) rfl rfl (fun _=>?_) (fun h=>by omega);(conv=>whnf);refine Bb (a:=(j:Int)) (b:=1200) rfl rfl (fun _=>by omega) (fun _=>?_))
     conv=>whnf
     repeat' (first|((first|refine Ai hbl ?_|refine Ai hwl ?_);conv=>whnf)|refine v3 ?_ ?_|(intro _;first|omega|conv=>whnf))
     all_goals exact fin _ _ (by symm;simp only [Zry,Zru,Zq6,Zrf];omega)
    ·conv=>whnf
     refine Ai hwl ?_;conv=>whnf
     (refine Bb (a:=(j:Int)) (b:=(ws.length:Int)) rfl rfl (fun _=>by omega) (fun _=>?_))
     conv=>whnf
     repeat' (first|((first|refine Ai hbl ?_|refine Ai hwl ?_);conv=>whnf)|refine v3 ?_ ?_|(intro _;first|omega|conv=>whnf))
     all_goals exact fin _ _ (by symm;simp only [Zry,Zru,Zq6,Zrf];omega)
  ·conv=>whnf
   refine Ai hbl ?_;conv=>whnf
   (refine Bb (a:=(i:Int)) (b:=(us.length:Int)) rfl rfl (fun _=>by omega) (fun _=>?_))
   have hBt:BL.take i=BL.take 400:=by
    rcases (show i=us.length∨i=400 by omega) with h|h
    ·rw [h,Zqi (by omega),Zqi (by omega)]
    ·rw [h]
   rw [hBt] at hg1 ⊢
   conv=>whnf
   refine DZ (α:=Nat) (fun j=>[(1,.ptr 0 0),(3,.int .i64 ((AU (BL.take 400):Nat)+(AU (WL.take j):Nat))),(5,.int .i64 (j:Int))]) (fun _=>[.row 60 [bv,wv,.bool dd]]) (fun j=>ws.length-j) (fun j=>j≤ws.length∧j≤1200) 0 ⟨Zqs _,Zqs _⟩
    (Abs.tells (rs:=[0]) ⟨by decide,⟨r9,⟨rfl,by show _=some (AV.int .i64 ((AU (BL.take 400):Int)+0));rw [Int.add_zero];rfl⟩,r9,trivial⟩,⟨o9,trivial⟩⟩) ?_
   rintro j ⟨hj,hj4⟩
   refine Cy hE ?_
   have hg2:=LM (WL.take j)
   rw [Zqz] at hg2
   by_cases hjlt:j<ws.length∧j<1200
   ·obtain ⟨hj1,hj2⟩:=hjlt
    have hd:=GC hj1
    have hwa:=hws _ (Zra hj1)
    have hLW:j<WL.length:=by omega
    have hsucc:((AU (WL.take (j+1)):Nat):Int)=(AU (WL.take j):Int)+(8+((min ws[j].b.length 100000:Nat):Int)):=by
     rw [Zqm hLW,Ly,hWg j hj1 hLW];omega
    have hall:=And.intro hd (And.intro hwa hsucc)
    clear hd hwa hsucc
    revert hall
    generalize ws[j]=w
    obtain ⟨wa,wu,wb⟩:=w
    rintro ⟨hd,⟨hwa,hwb⟩,hsucc⟩
    have hd:(Ad ws).drop (j*2)=[.int .i64 wa,wu]++Ad (ws.drop (j+1)):=hd
    dsimp only at hwa hwb hsucc
    have hsucc':((AU (BL.take 400):Nat):Int)+(AU (WL.take (j+1)):Int)=((AU (BL.take 400):Nat):Int)+(AU (WL.take j):Int)+(8+((min wb.length 100000:Nat):Int)):=by rw [hsucc];omega
    conv=>whnf
    refine Ai hwl ?_;conv=>whnf
    refine Bb (a:=(j:Int)) (b:=(ws.length:Int)) rfl rfl (fun _=>?_) (fun h=>by omega);conv=>whnf
    refine Bb (a:=(j:Int)) (b:=1200) rfl rfl (fun _=>?_) (fun h=>by omega);conv=>whnf
    refine Cr rfl hwl rfl hj1 ?_
    rw [hd]
    conv=>whnf
    repeat' (first|((first|refine EHead.mk (v:=wu) rfl ?_|refine AA rfl hwb.1 ?_);conv=>whnf)|fail)
    refine EPrim.min2 (a:=(wb.length:Int)) (b:=100000) rfl ?_
    rw [show min (wb.length:Int) 100000=((min wb.length 100000:Nat):Int) by omega]
    conv=>whnf
    repeat' (first|((first|refine v7 ?_|refine ⟨rfl,?_⟩);conv=>whnf)|fail)
    exact ⟨j+1,⟨hj1,hj2⟩,by omega,Abs.tells (rs:=[0]) ⟨by decide,⟨r9,⟨rfl,by rw [hsucc'];rfl⟩,r9,trivial⟩,⟨o9,trivial⟩⟩⟩
   ·have hWt:WL.take j=WL.take 1200:=by
     rcases (show j=ws.length∨j=1200 by omega) with h|h
     ·rw [h,Zqi (by omega),Zqi (by omega)]
     ·rw [h]
    rw [hWt] at hg2 ⊢
    by_cases hj1:j<ws.length
    ·conv=>whnf
     refine Ai hwl ?_;conv=>whnf
     (refine Bb (a:=(j:Int)) (b:=(ws.length:Int)) rfl rfl (fun _=>?_) (fun h=>by omega);(conv=>whnf);refine Bb (a:=(j:Int)) (b:=1200) rfl rfl (fun _=>by omega) (fun _=>?_))
     conv=>whnf
     repeat' (first|((first|refine Ai hbl ?_|refine Ai hwl ?_);conv=>whnf)|refine v3 ?_ ?_|(intro _;first|omega|conv=>whnf))
     all_goals exact fin _ _ (by symm;simp only [Zry,Zru,Zq6,Zrf];omega)
    ·conv=>whnf
     refine Ai hwl ?_;conv=>whnf
     (refine Bb (a:=(j:Int)) (b:=(ws.length:Int)) rfl rfl (fun _=>by omega) (fun _=>?_))
     conv=>whnf
     repeat' (first|((first|refine Ai hbl ?_|refine Ai hwl ?_);conv=>whnf)|refine v3 ?_ ?_|(intro _;first|omega|conv=>whnf))
     all_goals exact fin _ _ (by symm;simp only [Zry,Zru,Zq6,Zrf];omega)
end Go.AM
