/- Contracts of functions over the abstract machine. No conditions. -/
import Derived.Test.YtacmbogmbfmjeaaGreatStB
import Derived.Test.YtacmbogmbfmjeaaGreatStA
set_option linter.unusedVariables false
set_option linter.unusedSimpArgs false
set_option maxRecDepth 100000
namespace Go.AM
attribute [local irreducible] W
open X
def Cg (c:Cfg) (hs:List Hd):Prop:=(∀ k<hs.length,∀ h,hs[k]?=some h->DT c h∧∀ j<k,∀ g,hs[j]?=some g->g.1≠h.1)∧(hs.length:Int)≤c.heads
noncomputable def shF:Fn (Cfg×List Hd×Unit):=bF (.g cfgC (.v hdC.sl .nil)) (fun x=>x.1.may) fun x=>Cg x.1 x.2.1
variable {e:Env}
theorem Zl6 (hE:EM P e) (h165:Con e 165 hdF.O):OvOk P 122 shF.O:=by
 refine Bv hE g122 ?_
 rintro ⟨c,hs,_⟩ _ ⟨_,_,rfl,⟨rfl,hc⟩,v,_,rfl,⟨_,e0,hh⟩,rfl⟩ hM K t f
 cases e0
 obtain ⟨cs,hs',hl,hn⟩:=hh.nth
 have hvf:=hh.hf
 dsimp only at t f hM hc hs' hl hn
 unfold Cg at t f
 have hcall:=fun (x:Hd) l (hx:hdC.r x l) (Q:AV->St->Prop) s a b=>@bF.u _ _ _ _ e 165 s Q _ h165 (c,x,()) ⟨_,_,rfl,⟨rfl,hc⟩,_,_,rfl,hx,rfl⟩ hM a b
 obtain ⟨id,mb,ch,rw',lg,hd⟩:=c
 have hM':=hM
 unfold Cfg.may at hM'
 dsimp only at hM' t f
 show VW P e 0 _ (An [.agg [.int .u32 id,.int .i64 mb,.int .i64 ch,.int .i64 rw',.int .i64 lg,.int .i64 hd],v] 0 .lf) St0 none [] _
 conv=>whnf
 refine Aw hE hs.length (fun i=>[(1,v),(2,.ptr 0 0),(5,.int .i64 (i:Int))]) (fun _=>[.row 24 [.int .u32 id,.int .i64 mb,.int .i64 ch,.int .i64 rw',.int .i64 lg,.int .i64 hd]]) (fun i=>∀ k<i,∀ h,hs[k]?=some h->DT ⟨id,mb,ch,rw',lg,hd⟩ h∧∀ j<k,∀ g,hs[j]?=some g->g.1≠h.1) (fun k h=>by omega) (Abs.tells (rs:=[0]) .a) ?_
 intro i hi hI
 conv=>whnf
 refine AD rfl hs' ?_;conv=>whnf
 by_cases hlt:i<hs.length
 ·obtain ⟨x,l,r,hx,hxr,hd'⟩:=hn i hlt
  have hcall:=hcall x l hxr
  obtain ⟨st,bl,di,ph,de,sq⟩:=x
  obtain ⟨bv,dv,rfl,h1,h2,h3,h4,h5⟩:=Cm hxr
  repeat' (first|(refine hcall _ _ (fun hq=>?_) (fun hq=>?_) <;> conv=>whnf)|((first|refine Ar hs' hlt hd' ?_|refine A8 (cs:=[.int .i64 st,bv,dv,.int .u8 (ph:Int),.bool de,.int .u32 sq]) rfl ?_|refine Au ?_|refine Av ?_);conv=>whnf)|refine Aa ?_ ?_|(intro _;first|omega|conv=>whnf))
  ·refine Aw hE i (fun k=>[(1,v),(2,.ptr 0 0),(5,.int .i64 (i:Int)),(6,.int .i64 (k:Int))]) (fun _=>[.row 24 [.int .u32 id,.int .i64 mb,.int .i64 ch,.int .i64 rw',.int .i64 lg,.int .i64 hd]]) (fun k=>∀ j<k,∀ g,hs[j]?=some g->g.1≠st) (fun k h=>by omega) (Abs.tells (rs:=[0]) .a) ?_
   intro k hk hK
   conv=>whnf
   by_cases hkt:k<i
   ·obtain ⟨y,l',r',hy,hyr,hd2⟩:=hn k (by omega)
    obtain ⟨st',bl',di',ph',de',sq'⟩:=y
    obtain ⟨bv',dv',rfl,-⟩:=Cm hyr
    repeat' (first|((first|refine Ar hs' hlt hd' ?_|refine Ew rfl hs' rfl (show k<_ by omega) hd2 ?_|refine As ?_|refine Ac ?_|refine ⟨rfl,?_⟩);conv=>whnf)|refine Aa ?_ ?_|refine Ap ?_ ?_|(intro _;first|omega|conv=>whnf))
    ·exact f (fun q=>(q.1 i hlt _ hx).2 k hkt _ hy (by assumption)) _
    ·exact ⟨hkt,AZ hK fun g hg=>by rw [hy] at hg;cases hg;assumption,Abs.tells (rs:=[0]) .a⟩
   ·repeat' (first|((first|refine Ac ?_|refine ⟨rfl,?_⟩);conv=>whnf)|refine Aa ?_ ?_|(intro _;first|omega|conv=>whnf))
    exact ⟨hlt,AZ hI fun h hh=>by rw [hx] at hh;cases hh;exact ⟨hq,fun j hj=>hK j (by omega)⟩,Abs.tells (rs:=[0]) .a⟩
  ·skip
   exact f (fun q=>hq (q.1 i hlt _ hx).1) _
 ·repeat' (first|(refine AD rfl hs' ?_;conv=>whnf)|refine Aa ?_ ?_|refine B8 ?_ ?_|(intro _;first|omega|conv=>whnf))
  ·exact t ⟨fun k hk=>hI k (by omega),by omega⟩ _
  ·exact f (fun q=>by omega) _
def AK (L:List Lv) (s:Int):Nat->Int
 | 0=>-1
 | i+1=>if L[i]?.map Lv.stripe=some s then (i:Int) else AK L s i
theorem Is (L:List Lv) (s:Int):∀ n,-1≤AK L s n∧AK L s n<n
 | 0=>by unfold AK;omega
 | n+1=>by
  have:=Is L s n
  unfold AK
  split <;> omega
def lastF:Fn (List Lv×Int×Unit):=⟨.v lvC.sl (.v i64C .nil),fun _=>True,fun x=>.int .i64 (AK x.1 x.2.1 x.1.length)⟩
theorem Zbn (hE:EM P e):OvOk P 172 lastF.O:=by
 refine B3 g172.b ?_
 rintro ⟨L,s,_⟩ _ ⟨v,_,rfl,⟨_,e0,hL⟩,_,_,rfl,⟨e1,hs⟩,rfl⟩ -
 cases e0
 cases e1
 obtain ⟨cs,hs',hl,hn⟩:=hL.nth
 have hvf:=hL.hf
 refine ⟨rfl,C.of_G hE g172 ?_⟩
 have fin:∀ s' a,a=AK L s L.length->Frz s' (.int .i64 a) (lastF.out (L,s,())):=fun s' a h=>by subst h;exact .plain _ rfl
 generalize lastF.out _=O at fin ⊢
 dsimp only at hl hn hs'
 conv=>whnf
 refine Aw hE L.length (fun i=>[(0,v),(1,.int .i64 s),(5,.int .i64 (AK L s i)),(6,.int .i64 (i:Int))]) (fun _=>[]) (fun _=>True) trivial (Abs.tells (rs:=[]) .a) ?_
 intro i hi _
 conv=>whnf
 refine AD rfl hs' ?_;conv=>whnf
 by_cases hlt:i<L.length
 ·obtain ⟨x,_,r,hx,⟨rfl,hx'⟩,hd⟩:=hn i hlt
  have hst:AK L s (i+1)=if x.stripe=s then (i:Int) else AK L s i:=by
   show (if L[i]?.map Lv.stripe=some s then (i:Int) else AK L s i)=_
   rw [hx];simp
  obtain ⟨sq,st,bl,pa,su,ho⟩:=x
  dsimp only at hst
  repeat' (first|((first|refine Ar hs' hlt hd ?_|refine As ?_|refine Ac ?_|refine ⟨rfl,?_⟩);conv=>whnf)|refine Aa ?_ ?_|refine Ap ?_ ?_|(intro _;first|omega|conv=>whnf))
  ·exact ⟨hlt,trivial,Abs.tells (rs:=[]) ⟨by decide,⟨t9,r9,⟨rfl,by rw [hst,Zpn (by assumption)];rfl⟩,r9,trivial⟩,trivial⟩⟩
  ·exact ⟨hlt,trivial,Abs.tells (rs:=[]) ⟨by decide,⟨t9,r9,⟨rfl,by rw [hst,Zpr (by assumption)];rfl⟩,r9,trivial⟩,trivial⟩⟩
 ·repeat' (first|refine Aa ?_ ?_|(intro _;first|omega|conv=>whnf))
  exact fin _ _ (by rw [show i=L.length by omega])
theorem Zbo (hE:EM P e):OvOk P 126 lastF.O:=by
 refine B3 g126.b ?_
 rintro ⟨L,s,_⟩ _ ⟨v,_,rfl,⟨_,e0,hL⟩,_,_,rfl,⟨e1,hs⟩,rfl⟩ -
 cases e0
 cases e1
 obtain ⟨cs,hs',hl,hn⟩:=hL.nth
 have hvf:=hL.hf
 refine ⟨rfl,C.of_G hE g126 ?_⟩
 have fin:∀ s' a,a=AK L s L.length->Frz s' (.int .i64 a) (lastF.out (L,s,())):=fun s' a h=>by subst h;exact .plain _ rfl
 generalize lastF.out _=O at fin ⊢
 dsimp only at hl hn hs'
 conv=>whnf
 refine Aw hE L.length (fun i=>[(0,v),(1,.int .i64 s),(5,.int .i64 (AK L s i)),(6,.int .i64 (i:Int))]) (fun _=>[]) (fun _=>True) trivial (Abs.tells (rs:=[]) .a) ?_
 intro i hi _
 conv=>whnf
 refine AD rfl hs' ?_;conv=>whnf
 by_cases hlt:i<L.length
 ·obtain ⟨x,_,r,hx,⟨rfl,hx'⟩,hd⟩:=hn i hlt
  have hst:AK L s (i+1)=if x.stripe=s then (i:Int) else AK L s i:=by
   show (if L[i]?.map Lv.stripe=some s then (i:Int) else AK L s i)=_
   rw [hx];simp
  obtain ⟨sq,st,bl,pa,su,ho⟩:=x
  dsimp only at hst
  repeat' (first|((first|refine Ar hs' hlt hd ?_|refine As ?_|refine Ac ?_|refine ⟨rfl,?_⟩);conv=>whnf)|refine Aa ?_ ?_|refine Ap ?_ ?_|(intro _;first|omega|conv=>whnf))
  ·exact ⟨hlt,trivial,Abs.tells (rs:=[]) ⟨by decide,⟨t9,r9,⟨rfl,by rw [hst,Zpn (by assumption)];rfl⟩,r9,trivial⟩,trivial⟩⟩
  ·exact ⟨hlt,trivial,Abs.tells (rs:=[]) ⟨by decide,⟨t9,r9,⟨rfl,by rw [hst,Zpr (by assumption)];rfl⟩,r9,trivial⟩,trivial⟩⟩
 ·repeat' (first|refine Aa ?_ ?_|(intro _;first|omega|conv=>whnf))
  exact fin _ _ (by rw [show i=L.length by omega])
def KQ (L:List Lv) (s:Int):Prop:=0≤AK L s L.length∧∀ x,L[(AK L s L.length).toNat]?=some x->x.par=false
noncomputable def drtF:Fn (List Lv×Int×Unit):=bF (.v lvC.sl (.v i64C .nil)) (fun _=>True) fun x=>KQ x.1 x.2.1
theorem Zj7 (hE:EM P e) (h172:Con e 172 lastF.O):OvOk P 127 drtF.O:=by
 refine Bv hE g127 ?_
 rintro ⟨L,s,_⟩ _ ⟨v,_,rfl,⟨_,e0,hL⟩,_,_,rfl,⟨e1,hs⟩,rfl⟩-K t f
 cases e0
 cases e1
 obtain ⟨cs,hs',hl,hn⟩:=hL.nth
 have hvf:=hL.hf
 dsimp only at hl hn hs' t f
 have hla:=Is L s L.length
 have hc:=fun (Q:AV->St->Prop) s' k=>@Fn.u _ e 172 s' Q lastF [v,.int .i64 s] h172 (L,s,()) ⟨_,_,rfl,⟨_,rfl,hL⟩,_,_,rfl,⟨rfl,hs⟩,rfl⟩ trivial k
 unfold KQ at t f
 replace hc:∀ (Q:AV->St->Prop) s',Q (.int .i64 (AK L s L.length)) s'->ESc e 172 [v,.int .i64 s] s' Q:=hc
 generalize AK L s L.length=a at *
 conv=>whnf
 refine hc _ _ ?_;conv=>whnf
 by_cases ha:0≤a
 ·obtain ⟨x,_,r,hx,⟨rfl,hx'⟩,hd⟩:=hn a.toNat (by omega)
  obtain ⟨sq,st,bl,pa,su,ho⟩:=x
  rw [hx] at t f
  cases pa <;> repeat' (first|((first|refine Cj rfl hs' rfl (show a=_ by omega) (by omega) hd ?_|refine As ?_|refine Au ?_|refine Av ?_);conv=>whnf)|refine AR ?_ ?_|(intro _;first|omega|conv=>whnf))
  ·exact t ⟨ha,fun y hy=>by cases hy;rfl⟩ _
  ·exact f (fun q=>by have:=q.2 _ rfl;cases this) _
 ·repeat' (first|refine AR ?_ ?_|(intro _;first|omega|conv=>whnf))
  exact f (fun q=>ha q.1) _
def JA (L:List Lv) (i:Nat) (x:Lv):Int:=if AK L x.stripe L.length=i∧x.par=false then 1 else 0
def Dz (L:List Lv):Nat->Int
 | 0=>0
 | i+1=>Dz L i+((L[i]?.map (JA L i)).getD 0)
theorem Ox (L:List Lv):∀ n,0≤Dz L n∧Dz L n≤n
 | 0=>by unfold Dz;omega
 | n+1=>by
  have:=Ox L n
  unfold Dz
  cases L[n]? with
  | none=>simp;omega
  | some x=>simp only [Option.map,Option.getD,JA];split <;> omega
def Cd (L:List Lv):Nat->Int
 | 0=>0
 | i+1=>Cd L i+((L[i]?.map Lv.blocks).getD 0)
def I7 (L:List Lv):Prop:=L.length≤1000∧∀ x ∈ L,0≤x.blocks∧x.blocks≤100
variable {L:List Lv}
theorem Oo (h:I7 L):∀ n,0≤Cd L n∧Cd L n≤100*n
 | 0=>by unfold Cd;omega
 | n+1=>by
  have:=Oo h n
  unfold Cd
  cases hx:L[n]? with
  | none=>simp;omega
  | some x=>have:=h.2 x (Zp5 hx);simp only [Option.map,Option.getD];omega
def manyF:Fn (List Lv×Unit):=⟨.v lvC.sl .nil,fun _=>True,fun x=>.int .i64 (Dz x.1 x.1.length)⟩
theorem Zfk (hE:EM P e) (h172:Con e 172 lastF.O):OvOk P 197 manyF.O:=by
 refine B3 g197.b ?_
 rintro ⟨L,_⟩ _ ⟨v,_,rfl,⟨_,e0,hL⟩,rfl⟩ -
 cases e0
 obtain ⟨cs,hs',hl,hn⟩:=hL.lv
 have hvf:=hL.hf
 refine ⟨rfl,C.of_G hE g197 ?_⟩
 have fin:∀ s' a,a=Dz L L.length->Frz s' (.int .i64 a) (manyF.out (L,())):=fun s' a h=>by subst h;exact .plain _ rfl
 generalize manyF.out _=O at fin ⊢
 dsimp only at hl hn hs' hL
 have hc:∀ s,(Lit.int .i64 s).wf=true->∀ (Q:AV->St->Prop) s',Q (.int .i64 (AK L s L.length)) s'->ESc e 172 [v,.int .i64 s] s' Q:=fun s hs Q s' k=>@Fn.u _ e 172 s' Q lastF [v,.int .i64 s] h172 (L,s,()) ⟨_,_,rfl,⟨_,rfl,hL⟩,_,_,rfl,⟨rfl,hs⟩,rfl⟩ trivial k
 conv=>whnf
 refine Aw hE L.length (fun i=>[(0,v),(3,.int .i64 (Dz L i)),(4,.int .i64 (i:Int))]) (fun _=>[]) (fun _=>True) trivial (Abs.tells (rs:=[]) .a) ?_
 intro i hi _
 conv=>whnf
 refine AD rfl hs' ?_;conv=>whnf
 by_cases hlt:i<L.length
 ·obtain ⟨sq,st,bl,pa,su,ho,r,hx,hx',hd⟩:=hn i hlt
  have hst:Dz L (i+1)=Dz L i+JA L i ⟨sq,st,bl,pa,su,ho⟩:=by
   show Dz L i+((L[i]?.map (JA L i)).getD 0)=_
   rw [hx];rfl
  have hm:=Ox L i
  have hc:=hc st (Bf hx'.2.1)
  unfold JA at hst
  dsimp only at hst
  cases pa <;> simp only [and_true,and_false,if_false,Bool.true_eq_false,Bool.false_eq_true] at hst
  all_goals repeat' (first|((first|refine Ar hs' hlt hd ?_|refine As ?_|refine hc _ _ ?_|refine Ac ?_|refine Au ?_|refine Av ?_|refine ⟨rfl,?_⟩);conv=>whnf)|refine Aa ?_ ?_|refine Ap ?_ ?_|(intro _;first|omega|conv=>whnf))
  ·exact ⟨hlt,trivial,Abs.tells (rs:=[]) ⟨by decide,⟨t9,⟨rfl,by rw [hst,Zpn (by assumption)];rfl⟩,r9,trivial⟩,trivial⟩⟩
  ·exact ⟨hlt,trivial,Abs.tells (rs:=[]) ⟨by decide,⟨t9,⟨rfl,by rw [hst,Zpr (by assumption),Int.add_zero];rfl⟩,r9,trivial⟩,trivial⟩⟩
  ·exact ⟨hlt,trivial,Abs.tells (rs:=[]) ⟨by decide,⟨t9,⟨rfl,by rw [hst,Int.add_zero];rfl⟩,r9,trivial⟩,trivial⟩⟩
  ·exact ⟨hlt,trivial,Abs.tells (rs:=[]) ⟨by decide,⟨t9,⟨rfl,by rw [hst,Int.add_zero];rfl⟩,r9,trivial⟩,trivial⟩⟩
 ·repeat' (first|refine Aa ?_ ?_|(intro _;first|omega|conv=>whnf))
  exact fin _ _ (by rw [show i=L.length by omega])
def usedF:Fn (List Lv×Unit):=⟨.v lvC.sl .nil,fun x=>I7 x.1,fun x=>.int .i64 (Cd x.1 x.1.length)⟩
theorem Zep (hE:EM P e):OvOk P 167 usedF.O:=by
 refine B3 g167.b ?_
 rintro ⟨L,_⟩ _ ⟨v,_,rfl,⟨_,e0,hL⟩,rfl⟩ hS
 cases e0
 obtain ⟨cs,hs',hl,hn⟩:=hL.lv
 have hvf:=hL.hf
 refine ⟨rfl,C.of_G hE g167 ?_⟩
 have fin:∀ s' a,a=Cd L L.length->Frz s' (.int .i64 a) (usedF.out (L,())):=fun s' a h=>by subst h;exact .plain _ rfl
 generalize usedF.out _=O at fin ⊢
 have hS:I7 L:=hS
 have hS1:=hS.1
 dsimp only at hl hn hs' hL
 conv=>whnf
 refine Aw hE L.length (fun i=>[(0,v),(3,.int .i64 (Cd L i)),(4,.int .i64 (i:Int))]) (fun _=>[]) (fun _=>True) trivial (Abs.tells (rs:=[]) .a) ?_
 intro i hi _
 conv=>whnf
 refine AD rfl hs' ?_;conv=>whnf
 by_cases hlt:i<L.length
 ·obtain ⟨sq,st,bl,pa,su,ho,r,hx,hx',hd⟩:=hn i hlt
  have hst:Cd L (i+1)=Cd L i+bl:=by
   show Cd L i+((L[i]?.map Lv.blocks).getD 0)=_
   rw [hx];rfl
  have hm:=Oo hS i
  have hb:=hS.2 _ (Zp5 hx)
  dsimp only at hst hb
  repeat' (first|((first|refine Ar hs' hlt hd ?_|refine As ?_|refine Ac ?_|refine ⟨rfl,?_⟩);conv=>whnf)|refine Aa ?_ ?_|(intro _;first|omega|conv=>whnf))
  exact ⟨hlt,trivial,Abs.tells (rs:=[]) ⟨by decide,⟨t9,⟨rfl,by rw [hst];rfl⟩,r9,trivial⟩,trivial⟩⟩
 ·repeat' (first|refine Aa ?_ ?_|(intro _;first|omega|conv=>whnf))
  exact fin _ _ (by rw [show i=L.length by omega])
def ML (c:Cfg) (L:List Lv):Prop:=(c.members+1)*Dz L L.length≤c.log-Cd L L.length
noncomputable def roomF:Fn (Cfg×List Lv×Unit):=bF (.g cfgC (.v lvC.sl .nil)) (fun x=>x.1.may∧I7 x.2.1) fun x=>ML x.1 x.2.1
def Xz:AC:=match Nz with|.mk c _=>c
theorem Ze7 (hE:EM P e) (h164:Inl e 164 Xz [.tmp 2]) (h167:Con e 167 usedF.O) (h197:Con e 197 manyF.O):OvOk P 168 roomF.O:=by
 refine Bv hE g168 ?_
 rintro ⟨c,L,_⟩ _ ⟨_,_,rfl,⟨rfl,hc⟩,v,_,rfl,⟨_,e0,hL⟩,rfl⟩ ⟨hM,hS⟩ K t f
 cases e0
 have hm:=Ox L L.length
 have hu:=Oo hS L.length
 have hS1:=hS.1
 have hc1:∀ (Q:AV->St->Prop) s',Q (.int .i64 (Dz L L.length)) s'->ESc e 197 [v] s' Q:=fun Q s' k=>Fn.u (F:=manyF) h197 (L,()) ⟨_,_,rfl,⟨_,rfl,hL⟩,rfl⟩ trivial k
 have hc2:∀ (Q:AV->St->Prop) s',Q (.int .i64 (Cd L L.length)) s'->ESc e 167 [v] s' Q:=fun Q s' k=>Fn.u (F:=usedF) h167 (L,()) ⟨_,_,rfl,⟨_,rfl,hL⟩,rfl⟩ hS k
 unfold ML at t f
 have hlg:=Hb hM
 unfold Cfg.may at hM
 obtain ⟨id,mb,ch,rw',lg,hd⟩:=c
 dsimp only at t f hM hm hu hS1 hlg
 have hp:=DW (a:=mb+1) (b:=Dz L L.length) (by omega) (by omega)
 generalize Dz L L.length=m at *
 generalize Cd L L.length=u at *
 show VW P e 0 _ (An [.agg [.int .u32 id,.int .i64 mb,.int .i64 ch,.int .i64 rw',.int .i64 lg,.int .i64 hd],v] 0 .lf) St0 none [] _
 conv=>whnf
 repeat' (first|((first|refine hc1 _ _ ?_|refine hc2 _ _ ?_|refine ESc.inl h164 ?_|refine Cs rfl rfl hp ?_|refine Ac ?_|refine AL ?_|refine ⟨rfl,?_⟩);conv=>whnf)|refine AR ?_ ?_|(intro _;first|omega|conv=>whnf))
 ·exact t (by assumption) _
 ·exact f (by omega) _
def Pr (L:List Lv) (k:Nat):Prop:=∀ x,L[k]?=some x->x.sure=true∧∃ i y,k≤i∧L[i]?=some y∧y.stripe=x.stripe∧y.home=true∧y.par=true
noncomputable def homF:Fn (List Lv×Int×Unit):=bF (.v lvC.sl (.v i64C .nil)) (fun x=>0≤x.2.1∧x.2.1<x.1.length) fun x=>Pr x.1 x.2.1.toNat
theorem Zi3 (hE:EM P e):OvOk P 196 homF.O:=by
 refine Bv hE g196 ?_
 rintro ⟨L,a,_⟩ _ ⟨v,_,rfl,⟨_,e0,hL⟩,_,_,rfl,⟨e1,hs⟩,rfl⟩ hk K t f
 cases e0
 cases e1
 obtain ⟨k,rfl⟩:∃ k:Nat,a=k:=⟨a.toNat,by have:=hk.1;dsimp only at this;omega⟩
 obtain ⟨cs,hs',hl,hn⟩:=hL.lv
 have hvf:=hL.hf
 have hkl:k<L.length:=by have:=hk.2;dsimp only at this;omega
 dsimp only at hl hn hs' t f
 rw [Int.toNat_natCast] at t f
 unfold Pr at t f
 obtain ⟨sq,st,bl,pa,su,ho,r,hx,hx',hd⟩:=hn k hkl
 rw [hx] at t f
 conv=>whnf
 cases su
 ·repeat' (first|((first|refine Ar hs' hkl hd ?_|refine As ?_|refine Ac ?_|refine AL ?_|refine CW ?_|refine CS ?_|refine CQ ?_|refine Au ?_|refine Av ?_|refine Cp ?_|refine CJ ?_|refine De ?_|refine Cx ?_|refine CP ?_|refine Dg ?_|refine Cw ?_|refine ⟨rfl,?_⟩);conv=>whnf)|refine Aa ?_ ?_|refine B8 ?_ ?_|refine Ax ?_ ?_|refine AR ?_ ?_|refine Ap ?_ ?_|refine Al ?_ ?_|((first|refine w19 rfl ?_ ?_|refine w20 rfl ?_ ?_) <;> intro hc <;> (try subst hc) <;> conv=>whnf)|(intro _;first|omega|conv=>whnf))
  exact f (fun q=>by have:=(q _ rfl).1;cases this) _
 ·repeat' (first|((first|refine Ar hs' hkl hd ?_|refine As ?_|refine Ac ?_|refine AL ?_|refine CW ?_|refine CS ?_|refine CQ ?_|refine Au ?_|refine Av ?_|refine Cp ?_|refine CJ ?_|refine De ?_|refine Cx ?_|refine CP ?_|refine Dg ?_|refine Cw ?_|refine ⟨rfl,?_⟩);conv=>whnf)|refine Aa ?_ ?_|refine B8 ?_ ?_|refine Ax ?_ ?_|refine AR ?_ ?_|refine Ap ?_ ?_|refine Al ?_ ?_|((first|refine w19 rfl ?_ ?_|refine w20 rfl ?_ ?_) <;> intro hc <;> (try subst hc) <;> conv=>whnf)|(intro _;first|omega|conv=>whnf))
  refine Aw hE (L.length-k) (fun j=>[(0,v),(1,.int .i64 (k:Int)),(5,.int .i64 ((k+j:Nat):Int))]) (fun _=>[]) (fun j=>∀ i<j,∀ y,L[k+i]?=some y->¬(y.stripe=st∧y.home=true∧y.par=true)) (fun k h=>by omega) (Abs.tells (rs:=[]) .a) ?_
  intro j hj hJ
  conv=>whnf
  refine AD rfl hs' ?_;conv=>whnf
  by_cases hlt:k+j<L.length
  ·obtain ⟨sq',st',bl',pa',su',ho',r',hy,hy',hd'⟩:=hn (k+j) hlt
   have hT:st'=st->ho'=true->pa'=true->∀ s,K (.bool true) s:=fun h1 h2 h3=>t fun x e=>by
    cases e
    exact ⟨rfl,k+j,_,Nat.le_add_right _ _,hy,h1,h2,h3⟩
   have hN:¬(st'=st∧ho'=true∧pa'=true)->∀ i<j+1,∀ y,L[k+i]?=some y->¬(y.stripe=st∧y.home=true∧y.par=true):=fun h=>AZ hJ fun y e=>by rw [hy] at e;cases e;exact h
   cases ho' <;> cases pa'
   all_goals repeat' (first|((first|refine Ar hs' hlt hd' ?_|refine Ar hs' hkl hd ?_|refine As ?_|refine Ac ?_|refine AL ?_|refine CW ?_|refine CS ?_|refine CQ ?_|refine Au ?_|refine Av ?_|refine Cp ?_|refine CJ ?_|refine De ?_|refine Cx ?_|refine CP ?_|refine Dg ?_|refine Cw ?_|refine ⟨rfl,?_⟩);conv=>whnf)|refine Aa ?_ ?_|refine B8 ?_ ?_|refine Ax ?_ ?_|refine AR ?_ ?_|refine Ap ?_ ?_|refine Al ?_ ?_|((first|refine w19 rfl ?_ ?_|refine w20 rfl ?_ ?_) <;> intro hc <;> (try subst hc) <;> conv=>whnf)|(intro _;first|omega|conv=>whnf))
   all_goals first
    | exact hT (by assumption) rfl rfl _
    | (refine ⟨by omega,hN ?_,Abs.tells (rs:=[]) .a⟩;first|(simp;done)|exact fun q=>absurd q.1 (by assumption))
  ·repeat' (first|((first|refine Ac ?_|refine AL ?_|refine CW ?_|refine CS ?_|refine CQ ?_|refine Au ?_|refine Av ?_|refine Cp ?_|refine CJ ?_|refine De ?_|refine Cx ?_|refine CP ?_|refine Dg ?_|refine Cw ?_|refine ⟨rfl,?_⟩);conv=>whnf)|refine Aa ?_ ?_|refine B8 ?_ ?_|refine Ax ?_ ?_|refine AR ?_ ?_|refine Ap ?_ ?_|refine Al ?_ ?_|((first|refine w19 rfl ?_ ?_|refine w20 rfl ?_ ?_) <;> intro hc <;> (try subst hc) <;> conv=>whnf)|(intro _;first|omega|conv=>whnf))
   refine f (fun q=>?_) _
   obtain ⟨_,i,y,h1,h2,h3,h4,h5⟩:=q _ rfl
   have hi:=(Zpk.1 h2).1
   exact hJ (i-k) (by omega) y (by rw [show k+(i-k)=i by omega];exact h2) ⟨h3,h4,h5⟩
def eP (c:Cfg) (L:List Lv) (sq:Int) (i:Nat) (x:Lv):Prop:=(0≤x.stripe∧x.stripe<At c)∧2≤x.blocks∧x.blocks≤c.members+1∧x.seq=sq-L.length+i∧1≤x.seq∧(0<i->x.sure=true->∀ y,L[i-1]?=some y->y.sure=true)∧(x.home=true->Pr L i)
noncomputable def eachF:Fn (Cfg×Lg×Unit):=bF (.g cfgC (.g lgC .nil)) (fun x=>x.1.may) fun x=>∀ i y,x.2.1.2.2.2.2[i]?=some y->eP x.1 x.2.1.2.2.2.2 x.2.1.2.1 i y
set_option maxHeartbeats 2000000 in
theorem Zgi (hE:EM P e) (h32:Inl e 32 KS [.tmp 2]) (h164:Inl e 164 Xz [.tmp 2]) (h196:Con e 196 homF.O):OvOk P 166 eachF.O:=by
 refine Bv hE g166 ?_
 rintro ⟨⟨id,mb,ch,rw',lg,hd⟩,⟨ag,sq,tl,us,L⟩,_⟩ _ ⟨_,_,rfl,⟨rfl,hc⟩,_,_,rfl,hg,rfl⟩ hM K t f
 obtain ⟨v,rfl,o1,o2,o3,o4,hL⟩:=MT hg
 obtain ⟨cs,hs',hl,hn⟩:=hL.lv
 have hvf:=hL.hf
 have hrow:=lgC.hf hg
 have hhm:=fun (i:Nat) (hi:i<L.length) (Q:AV->St->Prop) s a b=>@bF.u _ _ _ _ e 196 s Q [v,.int .i64 (i:Int)] h196 (L,(i:Int),()) ⟨_,_,rfl,⟨_,rfl,hL⟩,_,_,rfl,⟨rfl,Bf (show Ab (i:Int) by unfold Ab;omega)⟩,rfl⟩ ⟨Zq2 _,Int.ofNat_lt.2 hi⟩ a b
 unfold Cfg.may at hM
 unfold Bn at o2
 dsimp only at t f hM hn
 have hms:=DW (a:=ch) (b:=rw') (by omega) (by omega)
 show VW P e 0 _ (An [.agg [.int .u32 id,.int .i64 mb,.int .i64 ch,.int .i64 rw',.int .i64 lg,.int .i64 hd],.agg [.int .u32 ag,.int .u32 sq,.int .i64 tl,.int .i64 us,v]] 0 .lf) St0 none [] _
 conv=>whnf
 refine Aw hE L.length (fun i=>[(2,.ptr 0 0),(3,.ptr 1 0),(5,.int .i64 (i:Int))]) (fun _=>[.row 24 [.int .u32 id,.int .i64 mb,.int .i64 ch,.int .i64 rw',.int .i64 lg,.int .i64 hd],.row 30 [.int .u32 ag,.int .u32 sq,.int .i64 tl,.int .i64 us,v]]) (fun i=>∀ k<i,∀ y,L[k]?=some y->eP ⟨id,mb,ch,rw',lg,hd⟩ L sq k y) (fun k h=>by omega) (Abs.tells (rs:=[0,1]) .a) ?_
 intro i hi hI
 conv=>whnf
 refine AD rfl hs' ?_;conv=>whnf
 by_cases hlt:i<L.length
 ·obtain ⟨sq',st,bl,pa,su,ho,r,hx,hx',hd'⟩:=hn i hlt
  have hf:¬eP ⟨id,mb,ch,rw',lg,hd⟩ L sq i ⟨sq',st,bl,pa,su,ho⟩->∀ s,K (.bool false) s:=fun h=>f fun q=>h (q i _ hx)
  have ht:eP ⟨id,mb,ch,rw',lg,hd⟩ L sq i ⟨sq',st,bl,pa,su,ho⟩->∀ k<i+1,∀ y,L[k]?=some y->eP ⟨id,mb,ch,rw',lg,hd⟩ L sq k y:=fun h=>AZ hI fun y e=>by rw [hx] at e;cases e;exact h
  have hhm:=hhm i hlt
  unfold eP At at hf
  have ht:=fun (h:(0≤st∧st<ch*rw')∧2≤bl∧bl≤mb+1∧sq'=sq-L.length+i∧1≤sq') h1 h2=>ht ⟨h.1,h.2.1,h.2.2.1,h.2.2.2.1,h.2.2.2.2,h1,h2⟩
  have hfA:=fun (h:¬((0≤st∧st<ch*rw')∧2≤bl∧bl≤mb+1∧sq'=sq-L.length+i∧1≤sq'))=>hf fun q=>h ⟨q.1,q.2.1,q.2.2.1,q.2.2.2.1,q.2.2.2.2.1⟩
  have hfS:=fun (h:_->False)=>hf fun q=>h q.2.2.2.2.2.1
  have hfH:=fun (h:_->False)=>hf fun q=>h q.2.2.2.2.2.2
  dsimp only at ht hfS hfH
  clear hf f t hI
  unfold Ab Bn at hx'
  by_cases h0:0<i
  ·obtain ⟨sq2,st2,bl2,pa2,su2,ho2,r2,hxp,-,hdp⟩:=hn (i-1) (by omega)
   repeat' (first|(refine hhm _ _ (fun hq=>?_) (fun hq=>?_) <;> conv=>whnf)|((first|refine Cj rfl hs' rfl (show (i:Int)-1=((i-1:Nat):Int) by omega) (by omega) hdp ?_|refine Ar hs' hlt hd' ?_|refine A8 (cs:=[.int .u32 sq',.int .i64 st,.int .i64 bl,.bool pa,.bool su,.bool ho]) rfl ?_|refine As ?_|refine AD rfl hs' ?_|refine ESc.inl h32 ?_|refine ESc.inl h164 ?_|refine Cs rfl rfl hms ?_|refine Ac ?_|refine AL ?_|refine CW ?_|refine CS ?_|refine CQ ?_|refine Au ?_|refine Av ?_|refine Cp ?_|refine CJ ?_|refine De ?_|refine Cx ?_|refine CP ?_|refine Dg ?_|refine Cw ?_|refine ⟨rfl,?_⟩);conv=>whnf)|refine Aa ?_ ?_|refine B8 ?_ ?_|refine Ax ?_ ?_|refine AR ?_ ?_|refine Ap ?_ ?_|refine Al ?_ ?_|((first|refine w19 rfl ?_ ?_|refine w20 rfl ?_ ?_) <;> intro hc <;> (try subst hc) <;> conv=>whnf)|(intro _;first|omega|conv=>whnf))
   all_goals first
    | exact hfA (by omega) _
    | exact hfH (fun q=>hq (q rfl)) _
    | exact hfS (fun q=>Bool.false_ne_true (q h0 rfl _ hxp)) _
    | (refine ⟨hlt,ht (by omega) ?_ ?_,Abs.tells (rs:=[0,1]) .a⟩ <;> first|(intro _ e;cases e;done)|(intro _ _ y hy;rw [hxp] at hy;cases hy;rfl)|(intro e;cases e;done)|exact fun _=>hq)
  ·repeat' (first|(refine hhm _ _ (fun hq=>?_) (fun hq=>?_) <;> conv=>whnf)|((first|refine Ar hs' hlt hd' ?_|refine A8 (cs:=[.int .u32 sq',.int .i64 st,.int .i64 bl,.bool pa,.bool su,.bool ho]) rfl ?_|refine As ?_|refine AD rfl hs' ?_|refine ESc.inl h32 ?_|refine ESc.inl h164 ?_|refine Cs rfl rfl hms ?_|refine Ac ?_|refine AL ?_|refine CW ?_|refine CS ?_|refine CQ ?_|refine Au ?_|refine Av ?_|refine Cp ?_|refine CJ ?_|refine De ?_|refine Cx ?_|refine CP ?_|refine Dg ?_|refine Cw ?_|refine ⟨rfl,?_⟩);conv=>whnf)|refine Aa ?_ ?_|refine B8 ?_ ?_|refine Ax ?_ ?_|refine AR ?_ ?_|refine Ap ?_ ?_|refine Al ?_ ?_|((first|refine w19 rfl ?_ ?_|refine w20 rfl ?_ ?_) <;> intro hc <;> (try subst hc) <;> conv=>whnf)|(intro _;first|omega|conv=>whnf))
   all_goals first
    | exact hfA (by omega) _
    | exact hfH (fun q=>hq (q rfl)) _
    | (refine ⟨hlt,ht (by omega) (fun h=>absurd h h0) ?_,Abs.tells (rs:=[0,1]) .a⟩;(first|(intro e;cases e;done)|exact fun _=>hq))
 ·repeat' (first|((first|refine Ac ?_|refine AL ?_|refine CW ?_|refine CS ?_|refine CQ ?_|refine Au ?_|refine Av ?_|refine Cp ?_|refine CJ ?_|refine De ?_|refine Cx ?_|refine CP ?_|refine Dg ?_|refine Cw ?_|refine ⟨rfl,?_⟩);conv=>whnf)|refine Aa ?_ ?_|refine B8 ?_ ?_|refine Ax ?_ ?_|refine AR ?_ ?_|refine Ap ?_ ?_|refine Al ?_ ?_|((first|refine w19 rfl ?_ ?_|refine w20 rfl ?_ ?_) <;> intro hc <;> (try subst hc) <;> conv=>whnf)|(intro _;first|omega|conv=>whnf))
  exact t (fun k y hy=>hI k (by have:=(Zpk.1 hy).1;omega) y hy) _
def LD (c:Cfg):Lg->Prop
 | (ag,sq,tl,us,L)=>(1≤ag∧ag≤2147483648∧1≤sq∧sq≤2147483648∧0≤tl∧tl<c.log∧L.length≤c.log)∧(∀ i y,L[i]?=some y->eP c L sq i y)∧us=Cd L L.length∧ML c L
theorem Wq {c:Cfg}{L:List Lv}{sq:Int}(hM:c.may) (h1:L.length≤c.log) (h:∀ i y,L[i]?=some y->eP c L sq i y):I7 L:=by
 unfold Cfg.may at hM
 refine ⟨by omega,fun x hx=>?_⟩
 obtain ⟨i,hi⟩:=Zra hx
 have:=h i x hi
 unfold eP at this
 omega
noncomputable def lgF:Fn (Cfg×Lg×Unit):=bF (.g cfgC (.g lgC .nil)) (fun x=>x.1.may) fun x=>LD x.1 x.2.1
theorem Zmv (hE:EM P e) (h120:Con e 120 mayRF.O) (h166:Con e 166 eachF.O) (h167:Con e 167 usedF.O) (h168:Con e 168 roomF.O):OvOk P 123 lgF.O:=by
 refine Bv hE g123 ?_
 rintro ⟨c,⟨ag,sq,tl,us,L⟩,_⟩ _ ⟨_,_,rfl,⟨rfl,hc⟩,_,_,rfl,hg,rfl⟩ hM K t f
 obtain ⟨v,rfl,o1,o2,o3,o4,hL⟩:=MT hg
 have hM:c.may:=hM
 obtain ⟨cs,hs',hl,-⟩:=hL.lv
 have hc1:=fun (Q:AV->St->Prop) s (k:Q (.bool true) s)=>ESc.fam (e:=e) (k:=Q) (s:=s) mayRF h120 c hc (u:=.bool true) (by show AV.bool (decide c.may)=_;rw [Zpo hM]) k
 have hc2:=fun (Q:AV->St->Prop) s a b=>@bF.u _ _ _ _ e 166 s Q _ h166 (c,(ag,sq,tl,us,L),()) ⟨_,_,rfl,⟨rfl,hc⟩,_,_,rfl,hg,rfl⟩ hM a b
 have hc3:=fun (hS:I7 L) (Q:AV->St->Prop) s k=>@Fn.u _ e 167 s Q usedF [v] h167 (L,()) ⟨_,_,rfl,⟨_,rfl,hL⟩,rfl⟩ hS k
 have hc4:=fun (hS:I7 L) (Q:AV->St->Prop) s a b=>@bF.u _ _ _ _ e 168 s Q _ h168 (c,L,()) ⟨_,_,rfl,⟨rfl,hc⟩,_,_,rfl,⟨_,rfl,hL⟩,rfl⟩ ⟨hM,hS⟩ a b
 have hsm:=fun h1 h=>@Wq c L sq hM h1 h
 replace hc3:I7 L->∀ (Q:AV->St->Prop) s,Q (.int .i64 (Cd L L.length)) s->ESc e 167 [v] s Q:=hc3
 dsimp only at hc1 hc2 hc4 t f hc
 unfold LD at t f
 dsimp only at t f
 generalize hE1:(∀ i y,L[i]?=some y->eP c L sq i y)=A at t f hc2 hsm
 generalize Cd L L.length=u at *
 generalize ML c L=R at t f hc4
 have hE':=hM
 unfold Cfg.may at hE'
 obtain ⟨id,mb,ch,rw',lg,hd⟩:=c
 unfold Ab Bn at *
 dsimp only at *
 show VW P e 0 _ (An [.agg [.int .u32 id,.int .i64 mb,.int .i64 ch,.int .i64 rw',.int .i64 lg,.int .i64 hd],.agg [.int .u32 ag,.int .u32 sq,.int .i64 tl,.int .i64 us,v]] 0 .lf) St0 none [] _
 conv=>whnf
 repeat' (first|(refine hc2 _ _ (fun hq=>?_) (fun hq=>?_) <;> conv=>whnf)|(refine hc4 (hsm (by omega) hq) _ _ (fun hr=>?_) (fun hr=>?_) <;> conv=>whnf)|((first|refine hc1 _ _ ?_|refine AD rfl hs' ?_|refine hc3 (hsm (by omega) hq) _ _ ?_|refine Ac ?_|refine AL ?_|refine CW ?_|refine CS ?_|refine CQ ?_|refine Au ?_|refine Av ?_|refine Cp ?_|refine CJ ?_|refine De ?_|refine Cx ?_|refine CP ?_|refine Dg ?_|refine Cw ?_|refine ⟨rfl,?_⟩);conv=>whnf)|refine Aa ?_ ?_|refine B8 ?_ ?_|refine Ax ?_ ?_|refine AR ?_ ?_|refine Ap ?_ ?_|refine Al ?_ ?_|((first|refine w19 rfl ?_ ?_|refine w20 rfl ?_ ?_) <;> intro hc <;> (try subst hc) <;> conv=>whnf)|(intro _;first|omega|conv=>whnf))
 all_goals first
  | exact t ⟨by omega,hq,by assumption,hr⟩ _
  | exact f (fun q=>by omega) _
  | exact f (fun q=>hq q.2.1) _
  | exact f (fun q=>hr q.2.2.2) _
def BJ (c:Cfg):Int:=c.chunk*c.rows*(c.members-1)
def BA (c:Cfg):Ak->Prop
 | (k,a,m,d)=>1≤k∧k≤6∧(k=4∨k=6->a=0∧m=0)∧(¬(k=4∨k=6)->1≤m∧m≤8∧0≤a∧a≤BJ c-m)∧(k=2∨k=3->(d.length:Int)=m*128)∧(¬(k=2∨k=3)->d.length=0)
noncomputable def BU (c:Cfg) (x:Ak):Int:=open Classical in if BA c x then 0 else if ∃ d,BA c (x.1,x.2.1,x.2.2.1,d) then 3 else 2
noncomputable def akF:Fn (Cfg×Ak×Unit):=⟨.g cfgC (.g akC .nil),fun x=>x.1.may,fun x=>.int .i64 (BU x.1 x.2.1)⟩
def Zkj:AC:=match PV with|.mk c _=>c
def Zki:AC:=match PU with|.mk c _=>c
def Zkg:AC:=match PN with|.mk c _=>c
def Zkf:AC:=match PL with|.mk c _=>c
set_option maxHeartbeats 2000000 in
theorem Znx (hE:EM P e) (h120:Con e 120 mayRF.O) (h32:Inl e 32 KS [.tmp 2]) (h213:Inl e 213 Zkj [.tmp 4]) (h214:Inl e 214 Zki [.tmp 2]) (h220:Inl e 220 Zkg [.tmp 2]) (h221:Inl e 221 Zkf [.tmp 2]):OvOk P 198 akF.O:=by
 refine B3 g198.b ?_
 rintro ⟨c,⟨k,a,m,d⟩,_⟩ _ ⟨_,_,rfl,⟨rfl,hc⟩,_,_,rfl,hg,rfl⟩ hM
 obtain ⟨v,rfl,o1,o2,o3,hd⟩:=IN hg
 obtain ⟨cs,hs',hl,-⟩:=hd.nth
 refine ⟨rfl,C.of_G hE g198 ?_⟩
 have f0:BA c (k,a,m,d)->∀ s,Frz s (.int .i64 0) (akF.out (c,(k,a,m,d),())):=fun h s=>by
  show Frz s _ (.int .i64 (BU c (k,a,m,d)));unfold BU;rw [Zpn h];exact .plain _ rfl
 have f3:¬BA c (k,a,m,d)->∀ d',BA c (k,a,m,d')->∀ s,Frz s (.int .i64 3) (akF.out (c,(k,a,m,d),())):=fun h d' h' s=>by
  show Frz s _ (.int .i64 (BU c (k,a,m,d)));unfold BU;rw [Zpr h,Zpn ⟨d',h'⟩];exact .plain _ rfl
 have f2:(∀ d',¬BA c (k,a,m,d'))->∀ s,Frz s (.int .i64 2) (akF.out (c,(k,a,m,d),())):=fun h s=>by
  show Frz s _ (.int .i64 (BU c (k,a,m,d)));unfold BU;rw [Zpr (h d),Zpr (fun q=>q.elim h)];exact .plain _ rfl
 generalize akF.out _=O at f0 f2 f3 ⊢
 have hM:c.may:=hM
 have hc1:=fun (Q:AV->St->Prop) s (k:Q (.bool true) s)=>ESc.fam (e:=e) (k:=Q) (s:=s) mayRF h120 c hc (u:=.bool true) (by show AV.bool (decide c.may)=_;rw [Zpo hM]) k
 have f3:¬BA c (k,a,m,d)->(1≤k∧k≤6∧(k=4∨k=6->a=0∧m=0)∧(¬(k=4∨k=6)->1≤m∧m≤8∧0≤a∧a≤BJ c-m))->∀ s,Frz s (.int .i64 3) O:=fun h q=>f3 h (List.replicate (if k=2∨k=3 then (m*128).toNat else 0) 0) ⟨q.1,q.2.1,q.2.2.1,q.2.2.2,fun e=>by rw [Zpn e,List.length_replicate];have:=q.2.2.2 (by omega);omega,fun e=>by rw [Zpr e];rfl⟩
 have f2:¬(1≤k∧k≤6∧(k=4∨k=6->a=0∧m=0)∧(¬(k=4∨k=6)->1≤m∧m≤8∧0≤a∧a≤BJ c-m))->∀ s,Frz s (.int .i64 2) O:=fun h=>f2 fun d' q=>h ⟨q.1,q.2.1,q.2.2.1,q.2.2.2.1⟩
 unfold BA at f0 f3
 unfold BJ at f0 f2 f3
 have hM':=hM
 unfold Cfg.may at hM'
 have hms:=DW (a:=c.chunk) (b:=c.rows) (by omega) (by omega)
 have hmt:0≤c.chunk*c.rows∧c.chunk*c.rows≤64:=⟨Int.mul_nonneg (by omega) (by omega),Int.le_trans (Int.mul_le_mul (by omega:c.chunk≤8) (by omega:c.rows≤8) (by omega) (by omega)) (by decide)⟩
 have hmu:=DW (a:=c.chunk*c.rows) (b:=c.members-1) (by omega) (by omega)
 have hmv:0≤c.chunk*c.rows*(c.members-1)∧c.chunk*c.rows*(c.members-1)≤1000:=⟨Int.mul_nonneg (by omega) (by omega),Int.le_trans (Int.mul_le_mul (by omega:c.chunk*c.rows≤64) (by omega:c.members-1≤15) (by omega) (by omega)) (by decide)⟩
 obtain ⟨id,mb,ch,rw',lg,hd⟩:=c
 unfold Ab at *
 dsimp only at f0 f2 f3 hM' hms hmt hmu hmv
 show VW P e 0 _ (An [.agg [.int .u32 id,.int .i64 mb,.int .i64 ch,.int .i64 rw',.int .i64 lg,.int .i64 hd],.agg [.int .u8 (k:Int),.int .i64 a,.int .i64 m,v]] 0 .lf) St0 none [] _
 conv=>whnf
 repeat' (first|((first|refine hc1 _ _ ?_|refine AD rfl hs' ?_|refine ESc.inl h32 ?_|refine ESc.inl h213 ?_|refine ESc.inl h214 ?_|refine ESc.inl h220 ?_|refine ESc.inl h221 ?_|refine Cs rfl rfl hms ?_|refine Cs rfl rfl hmu ?_|refine AL ?_|refine CW ?_|refine Au ?_|refine Av ?_|refine ⟨rfl,?_⟩);conv=>whnf)|refine Aa ?_ ?_|refine B8 ?_ ?_|refine Ax ?_ ?_|refine AR ?_ ?_|refine Ap ?_ ?_|refine Al ?_ ?_|(intro _;first|omega|conv=>whnf))
 all_goals first
  | exact f2 (by omega) _
  | exact f3 (by omega) (by omega) _
  | exact f0 (by omega) _
def ST (k s:Nat) (q:Int) (n:Nat):Prop:=(s=2->q≠0)∧(s≠2->q=0)∧s≤3∧(k≠1->n=0)∧(k=1->s=0∧n=0∨s=3∧n=128)
def Gz:Fl->Nat->Prop
 | (_,(k,_),st,sq,da),i=>ST k (st[i]?.getD 0) (sq[i]?.getD 0) (da[i]?.getD []).length
noncomputable def partF:Fn (Fl×Int×Unit):=bF (.g ftC (.v i64C .nil)) (fun x=>0≤x.2.1∧x.2.1<x.1.2.2.1.length∧x.2.1<x.1.2.2.2.1.length∧x.2.1<x.1.2.2.2.2.length) fun x=>Gz x.1 x.2.1.toNat
set_option maxHeartbeats 2000000 in
theorem Ze9 (hE:EM P e):OvOk P 199 partF.O:=by
 refine Bv hE g199 ?_
 rintro ⟨⟨n,⟨k,a,m,d⟩,st,sq,da⟩,j,_⟩ _ ⟨_,_,rfl,hf,_,_,rfl,⟨e1,-⟩,rfl⟩ ⟨q1,q2,q3,q4⟩ K t f
 cases e1
 obtain ⟨dv,tv,qv,av,rfl,o1,o2,o3,o4,h1,h2,h3,h4⟩:=Dq hf
 dsimp only at q1 q2 q3 q4
 obtain ⟨i,rfl⟩:∃ i:Nat,j=i:=⟨j.toNat,by omega⟩
 obtain ⟨ts,hs1,-,hn1⟩:=h2.nth
 obtain ⟨qs,hs2,-,hn2⟩:=h3.nth
 obtain ⟨es,hs3,-,hn3⟩:=h4.nth
 obtain ⟨s,_,r1,hx1,⟨rfl,hlt⟩,hd1⟩:=hn1 i (by omega)
 obtain ⟨q,_,r2,hx2,⟨rfl,hq⟩,hd2⟩:=hn2 i (by omega)
 obtain ⟨b,_,r3,hx3,⟨u,rfl,hu⟩,hd3⟩:=hn3 i (by omega)
 obtain ⟨us,hus,-⟩:=hu.nth
 have hi1:i<st.length:=by omega
 have hi2:i<sq.length:=by omega
 have hi3:i<da.length:=by omega
 unfold Gz at t f
 dsimp only at t f
 rw [Int.toNat_natCast,hx1,hx2,hx3] at t f
 unfold ST at t f
 dsimp only [Option.getD] at t f
 have hB:=hus.n_inj hus
 generalize b.length=bn at t f hus
 clear hB hx3 hu hf h1 h2 h3 h4 hn1 hn2 hn3 q1 q2 q3 q4
 conv=>whnf
 repeat' (first|((first|refine Ar hs1 hi1 hd1 ?_|refine Ar hs2 hi2 hd2 ?_|refine Ar hs3 hi3 hd3 ?_|refine As ?_|refine Am hus ?_);conv=>whnf)|refine Ax ?_ ?_|refine Ap ?_ ?_|refine Al ?_ ?_|(intro _;first|omega|conv=>whnf))
 all_goals first
  | exact t (by omega) _
  | exact f (by omega) _
def JR (c:Cfg):Fl->Prop
 | (n,(k,a,m,d),st,sq,da)=>1≤n∧BA c (k,a,m,d)∧(st.length:Int)=m∧(da.length:Int)=m∧(k≠4->(sq.length:Int)=m)∧(k=4->sq.length=1)∧∀ i<st.length,Gz (n,(k,a,m,d),st,sq,da) i
theorem YL {c:Cfg}{x:Ak}(h:BA c x):BU c x=0:=by unfold BU;rw [Zpn h]
theorem YK {c:Cfg}{x:Ak}(h:¬BA c x):BU c x≠0:=by unfold BU;rw [Zpr h];split <;> decide
noncomputable def eflF:Fn (Cfg×Fl×Unit):=bF (.g cfgC (.g ftC .nil)) (fun x=>x.1.may) fun x=>JR x.1 x.2.1
theorem Zj2 (hE:EM P e) (h198:Con e 198 akF.O) (h199:Con e 199 partF.O):OvOk P 169 eflF.O:=by
 refine Bv hE g169 ?_
 rintro ⟨c,⟨n,⟨k,a,m,d⟩,st,sq,da⟩,_⟩ _ ⟨_,_,rfl,⟨rfl,hc⟩,_,_,rfl,hf,rfl⟩ hM K t f
 obtain ⟨dv,tv,qv,av,rfl,o1,o2,o3,o4,h1,h2,h3,h4⟩:=Dq hf
 have hrow:=ftC.hf hf
 have hak:=Lk o2 o3 o4 h1
 obtain ⟨ts,hs1,hl1,-⟩:=h2.nth
 obtain ⟨qs,hs2,hl2,-⟩:=h3.nth
 obtain ⟨es,hs3,hl3,-⟩:=h4.nth
 dsimp only at t f hf hc hM
 have hc1:=fun (Q:AV->St->Prop) s q=>@Fn.u _ e 198 s Q akF _ h198 (c,(k,a,m,d),()) ⟨_,_,rfl,⟨rfl,hc⟩,_,_,rfl,hak,rfl⟩ hM q
 replace hc1:∀ (Q:AV->St->Prop) s,Q (.int .i64 (BU c (k,a,m,d))) s->ESc e 198 [.agg c.c,.agg [.int .u8 (k:Int),.int .i64 a,.int .i64 m,dv]] s Q:=hc1
 have hc2:=fun (i:Nat) (h0:i<st.length) (hi:i<st.length∧i<sq.length∧i<da.length) (Q:AV->St->Prop) s a' b=>@bF.u _ _ _ _ e 199 s Q [_,.int .i64 (i:Int)] h199 ((n,(k,a,m,d),st,sq,da),(i:Int),()) ⟨_,_,rfl,hf,_,_,rfl,⟨rfl,Bf (show Ab (i:Int) by unfold Ab;omega)⟩,rfl⟩ ⟨Zq2 _,Int.ofNat_lt.2 hi.1,Int.ofNat_lt.2 hi.2.1,Int.ofNat_lt.2 hi.2.2⟩ a' b
 replace hc2:∀ i:Nat,i<st.length->i<sq.length->i<da.length->∀ (Q:AV->St->Prop) s,(Gz (n,(k,a,m,d),st,sq,da) i->Q (.bool true) s)->(¬Gz (n,(k,a,m,d),st,sq,da) i->Q (.bool false) s)->ESc e 199 [.agg [.int .i64 n,.int .u8 (k:Int),.int .i64 a,.int .i64 m,dv,tv,qv,av],.int .i64 (i:Int)] s Q:=fun i h1 h2 h3 Q s a b=>hc2 i h1 ⟨h1,h2,h3⟩ Q s a b
 have hk:BA c (k,a,m,d)->0≤m∧m≤8∧(k=4->m=0):=fun h=>by unfold BA at h;omega
 have hE0:=@YL c (k,a,m,d)
 have hE1:=@YK c (k,a,m,d)
 unfold JR at t f
 dsimp only at t f
 generalize BA c (k,a,m,d)=A at t f hk hE0 hE1
 generalize BU c (k,a,m,d)=E at *
 generalize hP:Gz (n,(k,a,m,d),st,sq,da)=R at t f hc2
 obtain ⟨id,mb,ch,rw',lg,hd⟩:=c
 unfold Ab at o1 o3 o4
 show VW P e 0 _ (An [.agg [.int .u32 id,.int .i64 mb,.int .i64 ch,.int .i64 rw',.int .i64 lg,.int .i64 hd],.agg [.int .i64 n,.int .u8 (k:Int),.int .i64 a,.int .i64 m,dv,tv,qv,av]] 0 .lf) St0 none [] _
 conv=>whnf
 repeat' (first|((first|refine hc1 _ _ ?_|refine Am hs1 ?_|refine Am hs2 ?_|refine Am hs3 ?_);conv=>whnf)|refine Aa ?_ ?_|refine Ap ?_ ?_|refine Al ?_ ?_|(intro _;first|omega|conv=>whnf))
 all_goals try exact f (fun q=>by omega) _
 ·exact f (fun q=>absurd (hE0 q.2.1) (by assumption)) _
 all_goals
  have hA:A:=Classical.byContradiction fun h=>hE1 h (by assumption)
  have hk:=hk hA
  refine Aw hE st.length (fun i=>[(3,.ptr 1 0),(5,.int .i64 m),(7,.int .i64 (i:Int))]) (fun _=>[.row 24 [.int .u32 id,.int .i64 mb,.int .i64 ch,.int .i64 rw',.int .i64 lg,.int .i64 hd],.row 143 [.int .i64 n,.int .u8 (k:Int),.int .i64 a,.int .i64 m,dv,tv,qv,av]]) (fun i=>∀ j<i,R j) (fun k h=>by omega) (Abs.tells (rs:=[0,1]) .a) ?_
  intro i hi hI
  conv=>whnf
  by_cases hlt:i<st.length
  ·have hc2:=hc2 i hlt (by omega) (by omega)
   repeat' (first|(refine hc2 _ _ (fun hq=>?_) (fun hq=>?_) <;> conv=>whnf)|((first|refine A8 (cs:=[.int .i64 n,.int .u8 (k:Int),.int .i64 a,.int .i64 m,dv,tv,qv,av]) rfl ?_|refine Ac ?_|refine Au ?_|refine Av ?_|refine ⟨rfl,?_⟩);conv=>whnf)|refine Aa ?_ ?_|(intro _;first|omega|conv=>whnf))
   all_goals first
    | exact ⟨hlt,AZ hI hq,Abs.tells (rs:=[0,1]) .a⟩
    | exact f (fun q=>hq (q.2.2.2.2.2.2 i hlt)) _
  ·repeat' (first|refine Aa ?_ ?_|(intro _;first|omega|conv=>whnf))
   exact t ⟨by assumption,hA,by assumption,by assumption,fun h=>by omega,fun h=>by omega,fun j hj=>hI j (by omega)⟩ _
noncomputable def wtF:Fn (Fl×Unit):=bF (.g ftC .nil) (fun _=>True) fun x=>∀ k<x.1.2.2.1.length,∀ s,x.1.2.2.1[k]?=some s->s=0
theorem Zln (hE:EM P e):OvOk P 170 wtF.O:=by
 refine Bv hE g170 ?_
 rintro ⟨⟨n,⟨k,a,m,d⟩,st,sq,da⟩,_⟩ _ ⟨_,_,rfl,hf,rfl⟩-K t f
 obtain ⟨dv,tv,qv,av,rfl,o1,o2,o3,o4,h1,h2,h3,h4⟩:=Dq hf
 obtain ⟨ts,hs1,hl1,hn1⟩:=h2.nth
 have hrow:=ftC.hf hf
 dsimp only at t f
 conv=>whnf
 refine Aw hE st.length (fun i=>[(1,.ptr 0 0),(3,.int .i64 (i:Int))]) (fun _=>[.row 143 [.int .i64 n,.int .u8 (k:Int),.int .i64 a,.int .i64 m,dv,tv,qv,av]]) (fun i=>∀ k<i,∀ s,st[k]?=some s->s=0) (fun k h=>by omega) (Abs.tells (rs:=[0]) .a) ?_
 intro i hi hI
 conv=>whnf
 refine Am hs1 ?_;conv=>whnf
 by_cases hlt:i<st.length
 ·obtain ⟨s,_,r1,hx1,⟨rfl,hls⟩,hd1⟩:=hn1 i hlt
  repeat' (first|((first|refine Ar hs1 hlt hd1 ?_|refine As ?_|refine Ac ?_|refine ⟨rfl,?_⟩);conv=>whnf)|refine Aa ?_ ?_|refine Al ?_ ?_|(intro _;first|omega|conv=>whnf))
  ·exact f (fun q=>by have:=q i hlt s hx1;omega) _
  ·exact ⟨hlt,AZ hI fun y hy=>by rw [hx1] at hy;cases hy;omega,Abs.tells (rs:=[0]) .a⟩
 ·repeat' (first|refine Aa ?_ ?_|(intro _;first|omega|conv=>whnf))
  exact t (fun k hk=>hI k (by omega)) _
def Ge (x y:Ak):Prop:=((x.1=2∨x.1=3∨x.1=5)∨y.1=2∨y.1=3∨y.1=5)∧x.2.1<y.2.1+y.2.2.1∧y.2.1<x.2.1+x.2.2.1
def Kh (x:Ak):Prop:=(0≤x.2.1∧x.2.1≤100000)∧0≤x.2.2.1∧x.2.2.1≤100000
noncomputable def meetF:Fn (Ak×Ak×Unit):=bF (.g akC (.g akC .nil)) (fun x=>Kh x.1∧Kh x.2.1) fun x=>Ge x.1 x.2.1
def Zkh:AC:=match PT with|.mk c _=>c
theorem Zfi (hE:EM P e) (h215:Inl e 215 Zkh [.tmp 2]):OvOk P 200 meetF.O:=by
 refine Bv hE g200 ?_
 rintro ⟨⟨k,a,m,d⟩,⟨k',a',m',d'⟩,_⟩ _ ⟨_,_,rfl,h,_,_,rfl,h',rfl⟩ ⟨q,q'⟩ K t f
 obtain ⟨v,rfl,-⟩:=IN h
 obtain ⟨v',rfl,-⟩:=IN h'
 unfold Kh at q q'
 unfold Ge at t f
 dsimp only at t f q q'
 conv=>whnf
 repeat' (first|((first|refine ESc.inl h215 ?_|refine Ac ?_);conv=>whnf)|refine Aa ?_ ?_|refine Ap ?_ ?_|(intro _;first|omega|conv=>whnf))
 all_goals first
  | exact t (by omega) _
  | exact f (by omega) _
def GA (L:List Fl) (i:Nat):Prop:=∀ y,L[i]?=some y->∀ j<i,∀ x,L[j]?=some x->¬Ge x.2.1 y.2.1
noncomputable def fstF:Fn (List Fl×Int×Unit):=bF (.v ftC.sl (.v i64C .nil)) (fun x=>0≤x.2.1∧x.2.1<x.1.length∧∀ k:Nat,k≤x.2.1->∀ y,x.1[k]?=some y->Kh y.2.1) fun x=>GA x.1 x.2.1.toNat
theorem Zji (hE:EM P e) (h200:Con e 200 meetF.O):OvOk P 171 fstF.O:=by
 refine Bv hE g171 ?_
 rintro ⟨L,j,_⟩ _ ⟨v,_,rfl,⟨_,e0,hL⟩,_,_,rfl,⟨e1,hs⟩,rfl⟩ ⟨q1,q2,q3⟩ K t f
 cases e0
 cases e1
 dsimp only at q1 q2 q3 t f
 obtain ⟨i,rfl⟩:∃ i:Nat,j=i:=⟨j.toNat,by omega⟩
 rw [Int.toNat_natCast] at t f
 have hi:i<L.length:=by omega
 obtain ⟨cs,hs',hl,hn⟩:=hL.nth
 dsimp only at hl hn hs'
 have hvf:=hL.hf
 obtain ⟨⟨n,⟨k,a,m,d⟩,st,sq,da⟩,_,r,hx,hc,hd⟩:=hn i hi
 have q0:=q3 i (by omega) _ hx
 obtain ⟨dv,tv,qv,av,rfl,o1,o2,o3,o4,h1,h2,h3,h4⟩:=Dq hc
 have hak:=Lk o2 o3 o4 h1
 unfold GA at t f
 conv=>whnf
 refine Aw hE i (fun j=>[(0,v),(1,.int .i64 (i:Int)),(5,.int .i64 (j:Int))]) (fun _=>[]) (fun i=>∀ j<i,∀ x,L[j]?=some x->¬Ge x.2.1 (k,a,m,d)) (fun k h=>by omega) (Abs.tells (rs:=[]) .a) ?_
 intro j hj hJ
 conv=>whnf
 by_cases hlt:j<i
 ·obtain ⟨⟨n',⟨k',a',m',d'⟩,st',sq',da'⟩,_,r',hx',hc',hd'⟩:=hn j (by omega)
  have q0':=q3 j (by omega) _ hx'
  obtain ⟨dv',tv',qv',av',rfl,p1,p2,p3,p4,g1,-⟩:=Dq hc'
  have hcall:=fun (Q:AV->St->Prop) s x y=>@bF.u _ _ _ _ e 200 s Q _ h200 ((k',a',m',d'),(k,a,m,d),()) ⟨_,_,rfl,Lk p2 p3 p4 g1,_,_,rfl,hak,rfl⟩ ⟨q0',q0⟩ x y
  repeat' (first|(refine hcall _ _ (fun hq=>?_) (fun hq=>?_) <;> conv=>whnf)|((first|refine Ar hs' hi hd ?_|refine Ew rfl hs' rfl (show j<_ by omega) hd' ?_|refine A8 (cs:=[.int .u8 (k':Int),.int .i64 a',.int .i64 m',dv']) rfl ?_|refine A8 (cs:=[.int .u8 (k:Int),.int .i64 a,.int .i64 m,dv]) rfl ?_|refine Ac ?_|refine ⟨rfl,?_⟩);conv=>whnf)|refine Aa ?_ ?_|(intro _;first|omega|conv=>whnf))
  ·exact f (fun q=>q _ hx j hlt _ hx' hq) _
  ·exact ⟨hlt,AZ hJ fun y hy=>by rw [hx'] at hy;cases hy;exact hq,Abs.tells (rs:=[]) .a⟩
 ·repeat' (first|refine Aa ?_ ?_|(intro _;first|omega|conv=>whnf))
  exact t (fun y hy j hj=>by rw [hx] at hy;cases hy;exact hJ j (by omega)) _
def Sh (f:Fl):Prop:=∀ k<f.2.2.1.length,∀ s,f.2.2.1[k]?=some s->s=0
def HL (c:Cfg) (L:List Fl) (i:Nat) (y:Fl):Prop:=JR c y∧(0<i->∀ x,L[i-1]?=some x->x.1<y.1)∧(Sh y∨GA L i)
def EX (c:Cfg) (L:List Fl):Prop:=L.length≤8∧∀ i<L.length,∀ y,L[i]?=some y->HL c L i y
theorem Zj1 {c:Cfg}{y:Fl}(hM:c.may) (h:JR c y):Kh y.2.1:=by
 obtain ⟨n,⟨k,a,m,d⟩,st,sq,da⟩:=y
 unfold Cfg.may at hM
 have hmt:c.chunk*c.rows≤64:=Int.le_trans (Int.mul_le_mul (by omega:c.chunk≤8) (by omega:c.rows≤8) (by omega) (by omega)) (by decide)
 have hmv:c.chunk*c.rows*(c.members-1)≤1000:=Int.le_trans (Int.mul_le_mul hmt (by omega:c.members-1≤15) (by omega) (by omega)) (by decide)
 obtain ⟨_,⟨h1,h2,h3,h4,-⟩,-⟩:=h
 unfold BJ at h4
 unfold Kh
 dsimp only
 omega
noncomputable def flsF:Fn (Cfg×List Fl×Unit):=bF (.g cfgC (.v ftC.sl .nil)) (fun x=>x.1.may) fun x=>EX x.1 x.2.1
set_option maxHeartbeats 2000000 in
theorem Zjm (hE:EM P e) (h120:Con e 120 mayRF.O) (h169:Con e 169 eflF.O) (h170:Con e 170 wtF.O) (h171:Con e 171 fstF.O):OvOk P 124 flsF.O:=by
 refine Bv hE g124 ?_
 rintro ⟨c,L,_⟩ _ ⟨_,_,rfl,⟨rfl,hc⟩,v,_,rfl,⟨_,e0,hL⟩,rfl⟩ hM K t f
 cases e0
 have hM:c.may:=hM
 dsimp only at t f hc hL
 obtain ⟨cs,hs',hl,hn⟩:=hL.nth
 have hvf:=hL.hf
 have hc1:=fun (Q:AV->St->Prop) s (k:Q (.bool true) s)=>ESc.fam (e:=e) (k:=Q) (s:=s) mayRF h120 c hc (u:=.bool true) (by show AV.bool (decide c.may)=_;rw [Zpo hM]) k
 have hc2:=fun y l (hy:ftC.r y l) (Q:AV->St->Prop) s a b=>@bF.u _ _ _ _ e 169 s Q _ h169 (c,y,()) ⟨_,_,rfl,⟨rfl,hc⟩,_,_,rfl,hy,rfl⟩ hM a b
 have hc3:=fun y l (hy:ftC.r y l) (Q:AV->St->Prop) s a b=>@bF.u _ _ _ _ e 170 s Q _ h170 (y,()) ⟨_,_,rfl,hy,rfl⟩ trivial a b
 have hc4:∀ i:Nat,i<L.length->(∀ k≤i,∀ y,L[k]?=some y->Kh y.2.1)->∀ (Q:AV->St->Prop) s,(GA L i->Q (.bool true) s)->(¬GA L i->Q (.bool false) s)->ESc e 171 [v,.int .i64 (i:Int)] s Q:=fun i hi hS Q s a b=>@bF.u _ _ _ _ e 171 s Q _ h171 (L,(i:Int),()) ⟨_,_,rfl,⟨_,rfl,hL⟩,_,_,rfl,⟨rfl,Bf (show Ab (i:Int) by unfold Ab;omega)⟩,rfl⟩ ⟨Zq2 _,Int.ofNat_lt.2 hi,fun k hk=>hS k (Int.ofNat_le.1 hk)⟩ a b
 have hak:=fun y=>@Zj1 c y hM
 unfold EX at t f
 obtain ⟨id,mb,ch,rw',lg,hd⟩:=c
 show VW P e 0 _ (An [.agg [.int .u32 id,.int .i64 mb,.int .i64 ch,.int .i64 rw',.int .i64 lg,.int .i64 hd],v] 0 .lf) St0 none [] _
 conv=>whnf
 repeat' (first|((first|refine hc1 _ _ ?_|refine AD rfl hs' ?_|refine Au ?_);conv=>whnf)|refine Ax ?_ ?_|(intro _;first|omega|conv=>whnf))
 ·exact f (fun q=>by omega) _
 refine Aw hE L.length (fun i=>[(1,v),(2,.ptr 0 0),(5,.int .i64 (i:Int))]) (fun _=>[.row 24 [.int .u32 id,.int .i64 mb,.int .i64 ch,.int .i64 rw',.int .i64 lg,.int .i64 hd]]) (fun i=>∀ k<i,∀ y,L[k]?=some y->HL ⟨id,mb,ch,rw',lg,hd⟩ L k y) (fun k h=>by omega) (Abs.tells (rs:=[0]) .a) ?_
 intro i hi hI
 conv=>whnf
 refine AD rfl hs' ?_;conv=>whnf
 by_cases hlt:i<L.length
 ·obtain ⟨y,l,r,hx,hc,hd'⟩:=hn i hlt
  have hN:¬HL ⟨id,mb,ch,rw',lg,hd⟩ L i y->∀ s,K (.bool false) s:=fun h=>f fun q=>h (q.2 i hlt y hx)
  have hT:HL ⟨id,mb,ch,rw',lg,hd⟩ L i y->∀ k<i+1,∀ y,L[k]?=some y->HL ⟨id,mb,ch,rw',lg,hd⟩ L k y:=fun h=>AZ hI fun z hz=>by rw [hx] at hz;cases hz;exact h
  have hc2:=hc2 y l hc
  have hc3:=hc3 y l hc
  have hc4:=fun h=>hc4 i hlt fun k hk z hz=>hak z (by
   rcases Nat.lt_or_eq_of_le hk with hk|rfl
   ·exact (hI k hk z hz).1
   ·rw [hx] at hz;cases hz;exact h)
  obtain ⟨n,⟨k,a,m,d⟩,st,sq,da⟩:=y
  obtain ⟨dv,tv,qv,av,rfl,o1,o2,o3,o4,-⟩:=Dq hc
  dsimp only at hc2 hc3
  by_cases h0:0<i
  ·obtain ⟨⟨n',⟨k',a',m',d'⟩,st',sq',da'⟩,l',r',hx',hc',hd2⟩:=hn (i-1) (by omega)
   obtain ⟨dv',tv',qv',av',rfl,-⟩:=Dq hc'
   repeat' (first|(refine hc2 _ _ (fun hq=>?_) (fun hq=>?_) <;> conv=>whnf)|(refine hc3 _ _ (fun hw=>?_) (fun hw=>?_) <;> conv=>whnf)|(refine hc4 hq _ _ (fun hr=>?_) (fun hr=>?_) <;> conv=>whnf)|((first|refine Cj rfl hs' rfl (show (i:Int)-1=((i-1:Nat):Int) by omega) (by omega) hd2 ?_|refine Ar hs' hlt hd' ?_|refine A8 (cs:=[.int .i64 n,.int .u8 (k:Int),.int .i64 a,.int .i64 m,dv,tv,qv,av]) rfl ?_|refine As ?_|refine Ac ?_|refine AL ?_|refine Au ?_|refine Av ?_|refine ⟨rfl,?_⟩);conv=>whnf)|refine Aa ?_ ?_|refine B8 ?_ ?_|refine Ax ?_ ?_|(intro _;first|omega|conv=>whnf))
   ·exact hN (fun q=>by have:=q.2.1 h0 _ hx';dsimp only at this;omega) _
   ·exact ⟨hlt,hT ⟨hq,fun _ x hx2=>by rw [hx'] at hx2;cases hx2;assumption,.inl hw⟩,Abs.tells (rs:=[0]) .a⟩
   ·exact ⟨hlt,hT ⟨hq,fun _ x hx2=>by rw [hx'] at hx2;cases hx2;assumption,.inr hr⟩,Abs.tells (rs:=[0]) .a⟩
   ·exact hN (fun q=>q.2.2.elim hw hr) _
   ·exact hN (fun q=>hq q.1) _
  ·repeat' (first|(refine hc2 _ _ (fun hq=>?_) (fun hq=>?_) <;> conv=>whnf)|(refine hc3 _ _ (fun hw=>?_) (fun hw=>?_) <;> conv=>whnf)|(refine hc4 hq _ _ (fun hr=>?_) (fun hr=>?_) <;> conv=>whnf)|((first|refine Ar hs' hlt hd' ?_|refine A8 (cs:=[.int .i64 n,.int .u8 (k:Int),.int .i64 a,.int .i64 m,dv,tv,qv,av]) rfl ?_|refine As ?_|refine Ac ?_|refine Au ?_|refine Av ?_|refine ⟨rfl,?_⟩);conv=>whnf)|refine Aa ?_ ?_|refine Ax ?_ ?_|(intro _;first|omega|conv=>whnf))
   ·exact ⟨hlt,hT ⟨hq,fun h=>absurd h h0,.inl hw⟩,Abs.tells (rs:=[0]) .a⟩
   ·exact ⟨hlt,hT ⟨hq,fun h=>absurd h h0,.inr hr⟩,Abs.tells (rs:=[0]) .a⟩
   ·exact hN (fun q=>q.2.2.elim hw hr) _
   ·exact hN (fun q=>hq q.1) _
 ·repeat' (first|refine Aa ?_ ?_|(intro _;first|omega|conv=>whnf))
  exact t ⟨by omega,fun k hk=>hI k (by omega)⟩ _
variable {a b:Int}
theorem Ij {t:AT}{s:St}{k:AV->St->Prop}{x y:AO}(hx:ev x t=.some (.int .i64 a)) (hy:ev y t=.some (.int .i64 b)) (h:(0≤a∧a≤9223372036854775807)∧0<b) (hk:k (.int .i64 (a / b)) s):EPrim (.bin .quo x y) t s k:=by
 refine Ea hx hy (v:=.int .i64 (a / b)) ?_ hk
 show (Bool.rec .none (Bool.rec (.some (.int .i64 (E1 .i64 (SP a b)))) .none (D9 b 0)) (Ch .i64 .i64):OV)=_
 have h1:a.tdiv b=a / b:=Int.tdiv_eq_ediv_of_nonneg h.1.1
 have h2:0≤a / b:=Int.ediv_nonneg h.1.1 (by omega)
 have h3:a / b≤a:=Int.ediv_le_self b h.1.1
 rw [Mk,Gc,show (b == 0)=false by simp;omega,VY,h1,ED,i64_in (by omega)]
def B7 (c:Cfg) (b:Int):Int:=b / c.chunk / (c.members-1)*c.chunk+b % c.chunk
def BY (c:Cfg) (b:Int):Int:=b / c.chunk % (c.members-1)
variable {c:Cfg}
theorem MM (hM:c.may) (h:0≤b∧b<BJ c):(0≤B7 c b∧B7 c b<At c)∧0≤BY c b∧BY c b<c.members-1:=by
 unfold Cfg.may at hM
 unfold BJ at h
 unfold B7 BY At
 have h1:=Zq3 b (show c.chunk≠0 by omega)
 have h2:=Zq5 b (show 0<c.chunk by omega)
 have h3:=Zq3 (b / c.chunk) (show c.members-1≠0 by omega)
 have h4:=Zq5 (b / c.chunk) (show 0<c.members-1 by omega)
 have h5:0≤b / c.chunk / (c.members-1):=Int.ediv_nonneg (Int.ediv_nonneg h.1 (by omega)) (by omega)
 have h6:b / c.chunk / (c.members-1)<c.rows:=by
  rw [Int.ediv_lt_iff_lt_mul (by omega),Int.ediv_lt_iff_lt_mul (by omega)]
  have:c.rows*(c.members-1)*c.chunk=c.chunk*c.rows*(c.members-1):=by
   rw [Int.mul_comm,← Int.mul_assoc]
  omega
 refine ⟨⟨?_,?_⟩,h3,h4⟩
 ·have:=Int.mul_nonneg h5 (show 0≤c.chunk by omega);omega
 ·generalize b / c.chunk / (c.members-1)=w at *
  have h7:(w+1)*c.chunk≤c.rows*c.chunk:=Int.mul_le_mul_of_nonneg_right (by omega) (by omega)
  rw [Int.add_mul,Int.one_mul,Int.mul_comm c.rows] at h7
  omega
def placeF:Fn (Cfg×Int×Unit):=⟨.g cfgC (.v i64C .nil),fun x=>x.1.may∧0≤x.2.1∧x.2.1<BJ x.1,fun x=>.tup [.int .i64 (B7 x.1 x.2.1),.int .i64 (BY x.1 x.2.1)]⟩
theorem Zc5 (hE:EM P e):OvOk P 125 placeF.O:=by
 refine B3 g125.b ?_
 rintro ⟨c,b,_⟩ _ ⟨_,_,rfl,⟨rfl,hc⟩,_,_,rfl,⟨e1,hb⟩,rfl⟩ ⟨hM,hb1⟩
 cases e1
 refine ⟨rfl,C.of_G hE g125 ?_⟩
 have fin:∀ s,Frz s (.tup [.int .i64 (B7 c b),.int .i64 (BY c b)]) (placeF.out (c,b,())):=fun s=>.plain _ rfl
 generalize placeF.out _=O at fin ⊢
 dsimp only at hb1 hM
 have hp:=MM hM hb1
 have hb2:=hb1
 unfold BJ at hb2
 unfold B7 BY At at *
 unfold Cfg.may at hM
 have h1:=Zq3 b (show c.chunk≠0 by omega)
 have h2:=Zq5 b (show 0<c.chunk by omega)
 have h0:=Int.ediv_nonneg hb1.1 (show 0≤c.chunk by omega)
 have h0':=Int.ediv_le_self c.chunk hb1.1
 have h5:0≤b / c.chunk / (c.members-1):=Int.ediv_nonneg h0 (by omega)
 have h5':=Int.ediv_le_self (c.members-1) h0
 have hmt:0≤c.chunk*c.rows∧c.chunk*c.rows≤64:=⟨Int.mul_nonneg (by omega) (by omega),Int.le_trans (Int.mul_le_mul (by omega:c.chunk≤8) (by omega:c.rows≤8) (by omega) (by omega)) (by decide)⟩
 have hmv:c.chunk*c.rows*(c.members-1)≤1000:=Int.le_trans (Int.mul_le_mul (by omega:c.chunk*c.rows≤64) (by omega:c.members-1≤15) (by omega) (by omega)) (by decide)
 obtain ⟨id,mb,ch,rw',lg,hd⟩:=c
 dsimp only at *
 show VW P e 0 _ (An [.agg [.int .u32 id,.int .i64 mb,.int .i64 ch,.int .i64 rw',.int .i64 lg,.int .i64 hd],.int .i64 b] 0 .lf) St0 none [] _
 have hpm:=DW (a:=b / ch / (mb-1)) (b:=ch) (by omega) (by omega)
 conv=>whnf
 repeat' (first|((first|refine Ij rfl rfl (by omega) ?_|refine Kp rfl rfl (by omega) ?_|refine Cs rfl rfl hpm ?_|refine Ac ?_|refine AL ?_);conv=>whnf)|fail)
 exact fin _
def A9 (hs:List Hd) (s:Int):Int:=match hs.findIdx? (fun h=>decide (h.1=s)) with|some i=>i|none=>-1
variable {hs:List Hd}{s:Int}{i:Nat}
theorem Ri {h:Hd}(hh:hs[i]?=some h) (h1:h.1=s) (h2:∀ j<i,∀ g,hs[j]?=some g->g.1≠s):A9 hs s=i:=by
 have hl:=(Zpk.1 hh).1
 have he:=(Zpk.1 hh).2
 unfold A9
 rw [(List.findIdx?_eq_some_iff_getElem (p:=fun h=>decide (h.1=s)) (xs:=hs) (i:=i)).2 ⟨hl,by rw [he];exact Zpo h1,fun j hj=>by
  have:=h2 j hj _ (Zpj (by omega));simpa using this⟩]
theorem Rj (h2:∀ j<hs.length,∀ g,hs[j]?=some g->g.1≠s):A9 hs s=-1:=by
 unfold A9
 rw [List.findIdx?_eq_none_iff.2 fun h hm=>by
  obtain ⟨j,hj⟩:=Zra hm
  have:=h2 j (Zpk.1 hj).1 h hj;simpa using this]
def hplF:Fn (List Hd×Int×Unit):=⟨.v hdC.sl (.v i64C .nil),fun _=>True,fun x=>.int .i64 (A9 x.1 x.2.1)⟩
theorem Zi2 (hE:EM P e):OvOk P 132 hplF.O:=by
 refine B3 g132.b ?_
 rintro ⟨L,s,_⟩ _ ⟨v,_,rfl,⟨_,e0,hL⟩,_,_,rfl,⟨e1,hs⟩,rfl⟩ -
 cases e0
 cases e1
 obtain ⟨cs,hs',hl,hn⟩:=hL.nth
 have hvf:=hL.hf
 refine ⟨rfl,C.of_G hE g132 ?_⟩
 have fin:∀ s' a,a=A9 L s->Frz s' (.int .i64 a) (hplF.out (L,s,())):=fun s' a h=>by subst h;exact .plain _ rfl
 generalize hplF.out _=O at fin ⊢
 dsimp only at hl hn hs'
 conv=>whnf
 refine Aw hE L.length (fun i=>[(0,v),(1,.int .i64 s),(5,.int .i64 (i:Int))]) (fun _=>[]) (fun i=>∀ j<i,∀ g,L[j]?=some g->g.1≠s) (fun k h=>by omega) (Abs.tells (rs:=[]) .a) ?_
 intro i hi hI
 conv=>whnf
 refine AD rfl hs' ?_;conv=>whnf
 by_cases hlt:i<L.length
 ·obtain ⟨⟨st,bl,di,ph,de,sq⟩,_,r,hx,hxr,hd⟩:=hn i hlt
  obtain ⟨bv,dv,rfl,-⟩:=Cm hxr
  repeat' (first|((first|refine Ar hs' hlt hd ?_|refine As ?_|refine Ac ?_|refine ⟨rfl,?_⟩);conv=>whnf)|refine Aa ?_ ?_|refine Ap ?_ ?_|(intro _;first|omega|conv=>whnf))
  ·exact fin _ _ (Ri hx (by assumption) hI).symm
  ·exact ⟨hlt,AZ hI fun g hg=>by rw [hx] at hg;cases hg;assumption,Abs.tells (rs:=[]) .a⟩
 ·repeat' (first|refine Aa ?_ ?_|(intro _;first|omega|conv=>whnf))
  exact fin _ _ (Rj fun j hj=>hI j (by omega)).symm
def JO (L:List Lv):Prop:=∃ (i k:Nat) (x y:Lv),k<i∧L[i]?=some x∧L[k]?=some y∧x.home=true∧y.stripe=x.stripe∧y.home=false
noncomputable def lagF:Fn (List Lv×Unit):=bF (.v lvC.sl .nil) (fun _=>True) fun x=>JO x.1
theorem Ziu (hE:EM P e):OvOk P 71 lagF.O:=by
 refine Bv hE g71 ?_
 rintro ⟨L,_⟩ _ ⟨v,_,rfl,⟨_,e0,hL⟩,rfl⟩-K t f
 cases e0
 obtain ⟨cs,hs',hl,hn⟩:=hL.lv
 have hvf:=hL.hf
 dsimp only at hl hn hs' t f
 conv=>whnf
 refine Aw hE L.length (fun i=>[(0,v),(3,.int .i64 (i:Int))]) (fun _=>[]) (fun i=>∀ j<i,∀ k<j,∀ x y:Lv,L[j]?=some x->L[k]?=some y->x.home=true->y.stripe=x.stripe->y.home=true) (fun k h=>by omega) (Abs.tells (rs:=[]) .a) ?_
 intro i hi hI
 conv=>whnf
 refine AD rfl hs' ?_;conv=>whnf
 by_cases hlt:i<L.length
 ·obtain ⟨sq,st,bl,pa,su,ho,r,hx,hx',hd⟩:=hn i hlt
  repeat' (first|refine Aa ?_ ?_|(intro _;first|omega|conv=>whnf))
  refine Aw hE i (fun k=>[(0,v),(3,.int .i64 (i:Int)),(4,.int .i64 (k:Int))]) (fun _=>[]) (fun k=>∀ j<k,∀ y:Lv,L[j]?=some y->ho=true->y.stripe=st->y.home=true) (fun k h=>by omega) (Abs.tells (rs:=[]) .a) ?_
  intro k hk hK
  conv=>whnf
  by_cases hkt:k<i
  ·obtain ⟨sq',st',bl',pa',su',ho',r',hy,hy',hd'⟩:=hn k (by omega)
   have hT:ho=true->st'=st->ho'=false->∀ s,K (.bool true) s:=fun h1 h2 h3=>t ⟨i,k,_,_,hkt,hx,hy,h1,h2,h3⟩
   have hN:(ho=true->st'=st->ho'=true)->∀ j<k+1,∀ y:Lv,L[j]?=some y->ho=true->y.stripe=st->y.home=true:=fun h=>AZ hK fun y e=>by rw [hy] at e;cases e;exact h
   cases ho <;> cases ho'
   all_goals repeat' (first|((first|refine Ar hs' hlt hd ?_|refine Ew rfl hs' rfl (show k<_ by omega) hd' ?_|refine As ?_|refine Ac ?_|refine Au ?_|refine Av ?_|refine ⟨rfl,?_⟩);conv=>whnf)|refine Aa ?_ ?_|refine Ap ?_ ?_|(intro _;first|omega|conv=>whnf))
   all_goals first
    | exact hT rfl (by assumption) rfl _
    | (refine ⟨hkt,hN ?_,Abs.tells (rs:=[]) .a⟩;intro e1 e2;first|rfl|(cases e1;done)|exact absurd e2 (by assumption))
  ·repeat' (first|((first|refine Ac ?_|refine ⟨rfl,?_⟩);conv=>whnf)|refine Aa ?_ ?_|(intro _;first|omega|conv=>whnf))
   refine ⟨hlt,AZ hI fun k' hk' x y e1 e2=>?_,Abs.tells (rs:=[]) .a⟩
   rw [hx] at e1
   cases e1
   exact hK k' (by omega) y e2
 ·repeat' (first|refine Aa ?_ ?_|(intro _;first|omega|conv=>whnf))
  refine f ?_ _
  rintro ⟨i',k',x,y,h1,h2,h3,h4,h5,h6⟩
  have:=(Zpk.1 h2).1
  rw [hI i' (by omega) k' h1 x y h2 h3 h4 h5] at h6
  cases h6
variable {lo po dn ag sq tl us:Int}{sp nl br:Bool}{l:List AV}
theorem B1 {bk:Bool}{ev:Int}{fs:List Fl}{nx:Int}{so:Bool}(h:dvC.r (c,bk,(ev,lo,sp,po,dn,nl,br),hs,(ag,sq,tl,us,L),fs,nx,so) l):∃ hv lv fv,l=c.c++[.bool bk,.int .u32 ev,.int .i64 lo,.bool sp,.int .i64 po,.int .i64 dn,.bool nl,.bool br,hv,.int .u32 ag,.int .u32 sq,.int .i64 tl,.int .i64 us,lv,fv,.int .i64 nx,.bool so]∧(c.ok∧Bn ev∧Ab lo∧Ab po∧Ab dn∧Bn ag∧Bn sq∧Ab tl∧Ab us∧Ab nx)∧Ls hdC hs hv∧Ls lvC L lv∧Ls ftC fs fv:=by
 obtain ⟨ol,hv,lv,fv,rfl,h1,h2,h3,h4,h5,h6,h7,h8,h9,h10⟩:=Zou h
 obtain ⟨rfl,g1,g2,g3,g4⟩:=GE h2
 exact ⟨hv,lv,fv,rfl,⟨h1,g1,g2,g3,g4,h4,h5,h6,h7,h10⟩,h3,h8,h9⟩
theorem Ht (hs:List Hd) (s:Int):-1≤A9 hs s∧A9 hs s<hs.length:=by
 unfold A9
 cases h:hs.findIdx? (fun h=>decide (h.1=s)) with
 | none=>dsimp only;omega
 | some i=>have:=(List.findIdx?_eq_some_iff_getElem.1 h).1;dsimp only;omega
def JH (hs:List Hd) (L:List Lv):Prop:=L.length=0∧∀ i<hs.length,∀ h,hs[i]?=some h->h.2.2.2.2.1=false∧h.2.2.2.1≠2∧h.2.2.2.1≠3
noncomputable def bareF:Fn (Dv×Unit):=bF (.g dvC .nil) (fun _=>True) fun x=>JH x.1.2.2.2.1 x.1.2.2.2.2.1.2.2.2.2
theorem Zgy (hE:EM P e):OvOk P 72 bareF.O:=by
 refine Bv hE g72 ?_
 rintro ⟨⟨c,bk,⟨ev,lo,sp,po,dn,nl,br⟩,hs,⟨ag,sq,tl,us,L⟩,fs,nx,so⟩,_⟩ _ ⟨_,_,rfl,hd,rfl⟩-K t f
 obtain ⟨hv,lv,fv,rfl,ho,hH,hL,hF⟩:=B1 hd
 have hrow:=dvC.hf hd
 obtain ⟨cs,hs',hl,hn⟩:=hH.nth
 obtain ⟨ls,hs2,hl2,-⟩:=hL.lv
 unfold JH at t f
 dsimp only at t f
 conv=>whnf
 refine Aw hE hs.length (fun i=>[(1,.ptr 0 0),(3,.int .i64 (i:Int))]) (fun _=>[.row 33 (c.c++[.bool bk,.int .u32 ev,.int .i64 lo,.bool sp,.int .i64 po,.int .i64 dn,.bool nl,.bool br,hv,.int .u32 ag,.int .u32 sq,.int .i64 tl,.int .i64 us,lv,fv,.int .i64 nx,.bool so])]) (fun i=>∀ j<i,∀ h,hs[j]?=some h->h.2.2.2.2.1=false∧h.2.2.2.1≠2∧h.2.2.2.1≠3) (fun k h=>by omega) (Abs.tells (rs:=[0]) .a) ?_
 intro i hi hI
 conv=>whnf
 refine AD rfl hs' ?_;conv=>whnf
 by_cases hlt:i<hs.length
 ·obtain ⟨⟨st,bl,di,ph,de,sq⟩,_,r,hx,hxr,hd'⟩:=hn i hlt
  obtain ⟨bv,dv,rfl,-⟩:=Cm hxr
  cases de
  all_goals repeat' (first|((first|refine Ar hs' hlt hd' ?_|refine A8 (cs:=[.int .i64 st,bv,dv,.int .u8 (ph:Int),.bool _,.int .u32 sq]) rfl ?_|refine Ac ?_|refine ⟨rfl,?_⟩);conv=>whnf)|refine Aa ?_ ?_|refine Ap ?_ ?_|(intro _;first|omega|conv=>whnf))
  all_goals first
   | exact f (fun q=>by have:=q.2 i hlt _ hx;dsimp only at this;omega) _
   | exact f (fun q=>by have:=(q.2 i hlt _ hx).1;cases this) _
   | exact ⟨hlt,AZ hI fun g hg=>by rw [hx] at hg;cases hg;exact ⟨rfl,by dsimp only;omega,by dsimp only;omega⟩,Abs.tells (rs:=[0]) .a⟩
 ·repeat' (first|(refine Am hs2 ?_;conv=>whnf)|refine Aa ?_ ?_|refine Ap ?_ ?_|(intro _;first|omega|conv=>whnf))
  ·exact t ⟨by omega,fun j hj=>hI j (by omega)⟩ _
  ·exact f (fun q=>by omega) _
def Dy (L:List Lv):Hd->Prop
 | (st,_,_,ph,de,sq)=>(de=true↔KQ L st)∧(2≤ph->0≤AK L st L.length∧∀ x,L[(AK L st L.length).toNat]?=some x->x.seq=sq∧x.par=true∧x.home=false∧(x.sure=true↔ph≠2))
noncomputable def dltF:Fn (Dv×Hd×Unit):=bF (.g dvC (.g hdC .nil)) (fun _=>True) fun x=>Dy x.1.2.2.2.2.1.2.2.2.2 x.2.1
set_option maxHeartbeats 2000000 in
theorem Zkb (hE:EM P e) (h126:Con e 126 lastF.O) (h127:Con e 127 drtF.O):OvOk P 73 dltF.O:=by
 refine Bv hE g73 ?_
 rintro ⟨⟨c,bk,⟨ev,lo,sp,po,dn,nl,br⟩,hs,⟨ag,sq,tl,us,L⟩,fs,nx,so⟩,⟨st,bl,di,ph,de,hsq⟩,_⟩ _ ⟨_,_,rfl,hd,_,_,rfl,hh,rfl⟩-K t f
 obtain ⟨hv,lv,fv,rfl,ho,hH,hL,hF⟩:=B1 hd
 obtain ⟨bv,dv,rfl,g1,g2,g3,g4,g5⟩:=Cm hh
 obtain ⟨ls,hs2,hl2,hn⟩:=hL.lv
 have hla:=Is L st L.length
 have hc:∀ (Q:AV->St->Prop) s',Q (.int .i64 (AK L st L.length)) s'->ESc e 126 [lv,.int .i64 st] s' Q:=fun Q s' k=>Fn.u (F:=lastF) h126 (L,st,()) ⟨_,_,rfl,⟨_,rfl,hL⟩,_,_,rfl,⟨rfl,Bf g1⟩,rfl⟩ trivial k
 have hD:=fun (Q:AV->St->Prop) s' a b=>@bF.u _ _ _ _ e 127 s' Q [lv,.int .i64 st] h127 (L,st,()) ⟨_,_,rfl,⟨_,rfl,hL⟩,_,_,rfl,⟨rfl,Bf g1⟩,rfl⟩ trivial a b
 unfold Dy at t f
 dsimp only at t f hD
 generalize AK L st L.length=a at *
 generalize KQ L st=D at *
 by_cases ha:0≤a
 ·obtain ⟨sq',st',bl',pa,su,ho',r,hx,hx',hd'⟩:=hn a.toNat (by omega)
  rw [hx] at t f
  have f:=fun (h:¬((de=true↔D)∧(2≤ph->sq'=hsq∧pa=true∧ho'=false∧(su=true↔ph≠2))))=>f fun q=>h ⟨q.1,fun hp=>(q.2 hp).2 _ rfl⟩
  have t:=fun (h:(de=true↔D)∧(2≤ph->sq'=hsq∧pa=true∧ho'=false∧(su=true↔ph≠2)))=>t ⟨h.1,fun hp=>⟨ha,fun x e=>by cases e;exact h.2 hp⟩⟩
  cases de <;> cases pa <;> cases su <;> cases ho'
  all_goals repeat' (first|(refine hD _ _ (fun hq=>?_) (fun hq=>?_) <;> conv=>whnf)|((first|refine Cj rfl hs2 rfl (show a=_ by omega) (by omega) hd' ?_|refine A8 (cs:=[.int .u32 sq',.int .i64 st',.int .i64 bl',.bool _,.bool _,.bool _]) rfl ?_|refine hc _ _ ?_|refine Au ?_|refine Av ?_|refine Cx ?_|refine ⟨rfl,?_⟩);conv=>whnf)|refine Aa ?_ ?_|refine Ap ?_ ?_|refine Al ?_ ?_|(intro _;first|omega|conv=>whnf))
  all_goals simp only [hq,true_iff,false_iff,iff_true,iff_false,Bool.false_eq_true,not_true_eq_false,not_false_eq_true,true_and,and_true,false_and,and_false,Bool.true_eq_false,reduceCtorEq,true_implies,false_implies,implies_true,imp_false] at t f
  all_goals first
   | exact t (by omega) _
   | exact f (by omega) _
   | exact f _
 ·by_cases hq:D <;> cases de
  all_goals simp only [hq,true_iff,false_iff,iff_true,iff_false,Bool.false_eq_true,not_true_eq_false,not_false_eq_true,true_and,false_and] at t f
  all_goals repeat' (first|(refine hD _ _ (fun hr=>?_) (fun hr=>?_) <;> first|exact absurd hq hr|exact absurd hr hq|(conv=>whnf))|((first|refine hc _ _ ?_|refine Cx ?_|refine ⟨rfl,?_⟩);conv=>whnf)|refine Aa ?_ ?_|(intro _;first|omega|conv=>whnf))
  all_goals first
   | exact f (fun q=>by omega) _
   | exact f (fun q=>ha (q (by omega)).1) _
   | exact t (fun h=>by omega) _
   | exact f id _
   | exact f trivial _
def Fh (L:List Lv) (hs:List Hd) (s:Int):Prop:=∀ x,L[(AK L s L.length).toNat]?=some x->(x.par=false->0≤A9 hs s)∧(x.par=true->x.home=false->0≤A9 hs s∧∀ h,hs[(A9 hs s).toNat]?=some h->2≤h.2.2.2.1)
noncomputable def kptF:Fn (Dv×Int×Unit):=bF (.g dvC (.v i64C .nil)) (fun x=>0≤AK x.1.2.2.2.2.1.2.2.2.2 x.2.1 x.1.2.2.2.2.1.2.2.2.2.length) fun x=>Fh x.1.2.2.2.2.1.2.2.2.2 x.1.2.2.2.1 x.2.1
def MB:AC:=match a80 with|.mk c _=>c
set_option maxHeartbeats 2000000 in
theorem Ziv (hE:EM P e) (h80:Inl e 80 MB [.cells 4 6,.tmp 5]) (h126:Con e 126 lastF.O) (h132:Con e 132 hplF.O):OvOk P 74 kptF.O:=by
 refine Bv hE g74 ?_
 rintro ⟨⟨c,bk,⟨ev,lo,sp,po,dn,nl,br⟩,hs,⟨ag,sq,tl,us,L⟩,fs,nx,so⟩,st,_⟩ _ ⟨_,_,rfl,hd,_,_,rfl,⟨e1,hst⟩,rfl⟩ ha K t f
 cases e1
 obtain ⟨hv,lv,fv,rfl,ho,hH,hL,hF⟩:=B1 hd
 obtain ⟨ls,hs2,hl2,hn⟩:=hL.lv
 obtain ⟨cs,hs1,hl1,hn1⟩:=hH.nth
 have hla:=Is L st L.length
 have hlp:=Ht hs st
 have hc:∀ (Q:AV->St->Prop) s',Q (.int .i64 (AK L st L.length)) s'->ESc e 126 [lv,.int .i64 st] s' Q:=fun Q s' k=>Fn.u (F:=lastF) h126 (L,st,()) ⟨_,_,rfl,⟨_,rfl,hL⟩,_,_,rfl,⟨rfl,hst⟩,rfl⟩ trivial k
 have hc2:∀ (Q:AV->St->Prop) s',Q (.int .i64 (A9 hs st)) s'->ESc e 132 [hv,.int .i64 st] s' Q:=fun Q s' k=>Fn.u (F:=hplF) h132 (hs,st,()) ⟨_,_,rfl,⟨_,rfl,hH⟩,_,_,rfl,⟨rfl,hst⟩,rfl⟩ trivial k
 unfold Fh at t f
 dsimp only at t f ha
 generalize AK L st L.length=a at *
 generalize A9 hs st=b at *
 obtain ⟨sq',st',bl',pa,su,ho',r,hx,hx',hd'⟩:=hn a.toNat (by omega)
 rw [hx] at t f
 have f:=fun (h:¬((pa=false->0≤b)∧(pa=true->ho'=false->0≤b∧∀ h,hs[b.toNat]?=some h->2≤h.2.2.2.1)))=>f fun q=>h (q _ rfl)
 have t:=fun (h:(pa=false->0≤b)∧(pa=true->ho'=false->0≤b∧∀ h,hs[b.toNat]?=some h->2≤h.2.2.2.1))=>t fun x e=>by cases e;exact h
 by_cases hb:0≤b
 ·obtain ⟨⟨gst,gbl,gdi,gph,gde,gsq⟩,_,r2,gx,gxr,gd⟩:=hn1 b.toNat (by omega)
  obtain ⟨bv,dv,rfl,-⟩:=Cm gxr
  have f:=fun (h:¬(pa=true->ho'=false->2≤gph))=>f fun q=>h fun h1 h2=>(q.2 h1 h2).2 _ gx
  have t:=fun (h:pa=true->ho'=false->2≤gph)=>t ⟨fun _=>hb,fun h1 h2=>⟨hb,fun x e=>by rw [gx] at e;cases e;exact h h1 h2⟩⟩
  cases pa <;> cases ho'
  all_goals repeat' (first|((first|refine Cj rfl hs2 rfl (show a=_ by omega) (by omega) hd' ?_|refine Cj rfl hs1 rfl (show b=_ by omega) (by omega) gd ?_|refine A8 (cs:=[.int .u32 sq',.int .i64 st',.int .i64 bl',.bool _,.bool _,.bool _]) rfl ?_|refine A8 (cs:=[.int .i64 gst,bv,dv,.int .u8 (gph:Int),.bool gde,.int .u32 gsq]) rfl ?_|refine hc _ _ ?_|refine hc2 _ _ ?_|refine ESc.inl h80 ?_|refine Au ?_|refine Av ?_|refine ⟨rfl,?_⟩);conv=>whnf)|refine Aa ?_ ?_|refine AR ?_ ?_|(intro _;first|omega|conv=>whnf))
  all_goals simp only [Bool.false_eq_true,Bool.true_eq_false,false_implies,true_implies,implies_true] at t f
  all_goals first
   | exact t (by omega) _
   | exact t trivial _
   | exact t _
   | exact f (by omega) _
 ·cases pa <;> cases ho'
  all_goals repeat' (first|((first|refine Cj rfl hs2 rfl (show a=_ by omega) (by omega) hd' ?_|refine A8 (cs:=[.int .u32 sq',.int .i64 st',.int .i64 bl',.bool _,.bool _,.bool _]) rfl ?_|refine hc _ _ ?_|refine hc2 _ _ ?_|refine ESc.inl h80 ?_|refine Au ?_|refine Av ?_|refine ⟨rfl,?_⟩);conv=>whnf)|refine Aa ?_ ?_|(intro _;first|omega|conv=>whnf))
  all_goals first
   | exact f (fun q=>hb (q.1 rfl)) _
   | exact f (fun q=>hb (q.2 rfl rfl).1) _
   | exact t ⟨fun h=>(by cases h),fun _ h=>(by cases h)⟩ _
def E0 (c:Cfg) (hs:List Hd) (b:Int):Prop:=0≤A9 hs (B7 c b)∧∀ h,hs[(A9 hs (B7 c b)).toNat]?=some h->h.2.2.2.1≤1∧h.2.2.1[(BY c b).toNat]?=some true
def S8 (c:Cfg) (hs:List Hd) (f:Fl):Prop:=∀ k<f.2.2.1.length,f.2.2.1[k]?=some 1->E0 c hs (f.2.1.2.1+(k:Int))
def Lh (c:Cfg) (hs:List Hd) (fs:List Fl):Prop:=∀ i<fs.length,∀ f,fs[i]?=some f->S8 c hs f
noncomputable def hldF:Fn (Dv×Unit):=bF (.g dvC .nil) (fun x=>x.1.1.may∧Cg x.1.1 x.1.2.2.2.1∧EX x.1.1 x.1.2.2.2.2.2.1) fun x=>Lh x.1.1 x.1.2.2.2.1 x.1.2.2.2.2.2.1
theorem Xt {n:Int}{k:Nat}{m:Int}{d st:List Nat}{sq:List Int}{da:List (List Nat)}(h:JR c (n,(k,a,m,d),st,sq,da)) (hi:i<st.length):0≤a+i∧a+i<BJ c:=by
 obtain ⟨_,h1,h2,-⟩:=h
 unfold BA at h1
 omega
theorem BC (hM:c.may):(0≤At c∧At c≤64)∧0≤BJ c∧BJ c≤1000:=by
 unfold Cfg.may at hM
 unfold BJ At
 have hmt:0≤c.chunk*c.rows∧c.chunk*c.rows≤64:=⟨Int.mul_nonneg (by omega) (by omega),Int.le_trans (Int.mul_le_mul (by omega:c.chunk≤8) (by omega:c.rows≤8) (by omega) (by omega)) (by decide)⟩
 exact ⟨hmt,Int.mul_nonneg (by omega) (by omega),Int.le_trans (Int.mul_le_mul hmt.2 (by omega:c.members-1≤15) (by omega) (by omega)) (by decide)⟩
set_option maxHeartbeats 2000000 in
theorem Zi4 (hE:EM P e) (h80:Inl e 80 MB [.cells 4 6,.tmp 5]) (h125:Con e 125 placeF.O) (h132:Con e 132 hplF.O):OvOk P 70 hldF.O:=by
 refine Bv hE g70 ?_
 rintro ⟨⟨c,bk,⟨ev,lo,sp,po,dn,nl,br⟩,hs,⟨ag,sq,tl,us,L⟩,fs,nx,so⟩,_⟩ _ ⟨_,_,rfl,hd,rfl⟩ ⟨hM,hSh,hFs⟩ K t f
 obtain ⟨hv,lv,fv,rfl,ho,hH,hL,hF⟩:=B1 hd
 have hrow:=dvC.hf hd
 obtain ⟨cs,hs1,hl1,hn1⟩:=hH.nth
 obtain ⟨ks,hs2,hl2,hn2⟩:=hF.nth
 dsimp only at t f hM hSh hFs
 have hcp:∀ b,0≤b∧b<BJ c->∀ (Q:AV->St->Prop) s',Q (.tup [.int .i64 (B7 c b),.int .i64 (BY c b)]) s'->ESc e 125 [.agg c.c,.int .i64 b] s' Q:=fun b hb Q s' k=>Fn.u (F:=placeF) h125 (c,b,()) ⟨_,_,rfl,⟨rfl,ho.1⟩,_,_,rfl,⟨rfl,Bf (show Ab b by have:=BC hM;unfold Ab;omega)⟩,rfl⟩ ⟨hM,hb.1,hb.2⟩ k
 have hch:∀ s,Ab s->∀ (Q:AV->St->Prop) s',Q (.int .i64 (A9 hs s)) s'->ESc e 132 [hv,.int .i64 s] s' Q:=fun s hst Q s' k=>Fn.u (F:=hplF) h132 (hs,s,()) ⟨_,_,rfl,⟨_,rfl,hH⟩,_,_,rfl,⟨rfl,Bf hst⟩,rfl⟩ trivial k
 conv=>whnf
 refine Aw hE fs.length (fun i=>[(1,.ptr 0 0),(3,.int .i64 (i:Int))]) (fun _=>[.row 33 (c.c++[.bool bk,.int .u32 ev,.int .i64 lo,.bool sp,.int .i64 po,.int .i64 dn,.bool nl,.bool br,hv,.int .u32 ag,.int .u32 sq,.int .i64 tl,.int .i64 us,lv,fv,.int .i64 nx,.bool so])]) (fun i=>∀ j<i,∀ f,fs[j]?=some f->S8 c hs f) (fun k h=>by omega) (Abs.tells (rs:=[0]) .a) ?_
 intro i hi hI
 conv=>whnf
 refine Am hs2 ?_;conv=>whnf
 by_cases hlt:i<fs.length
 ·obtain ⟨⟨n,⟨k,a,m,d⟩,st,sqs,da⟩,_,r,hx,hxr,hd'⟩:=hn2 i hlt
  have hfr:=ftC.hf hxr
  obtain ⟨ev',tv,qv,av,rfl,o1,o2,o3,o4,g1,g2,g3,g4⟩:=Dq hxr
  obtain ⟨ts,hs3,hl3,hn3⟩:=g2.nth
  have hef:=(hFs.2 i hlt _ hx).1
  repeat' (first|((first|refine Ar hs2 hlt hd' ?_|refine A8 (cs:=[.int .i64 n,.int .u8 (k:Int),.int .i64 a,.int .i64 m,ev',tv,qv,av]) rfl ?_);conv=>whnf)|refine Aa ?_ ?_|(intro _;first|omega|conv=>whnf))
  refine Aw hE st.length (fun k'=>[(1,.ptr 0 0),(3,.int .i64 (i:Int)),(4,.ptr 1 0),(5,.int .i64 (k':Int))]) (fun _=>[.row 33 (c.c++[.bool bk,.int .u32 ev,.int .i64 lo,.bool sp,.int .i64 po,.int .i64 dn,.bool nl,.bool br,hv,.int .u32 ag,.int .u32 sq,.int .i64 tl,.int .i64 us,lv,fv,.int .i64 nx,.bool so]),.row 143 [.int .i64 n,.int .u8 (k:Int),.int .i64 a,.int .i64 m,ev',tv,qv,av]]) (fun k'=>∀ j<k',st[j]?=some 1->E0 c hs (a+(j:Int))) (fun k h=>by omega) (Abs.tells (rs:=[0,1]) .a) ?_
  intro k' hk' hK
  conv=>whnf
  refine Am hs3 ?_;conv=>whnf
  by_cases hkt:k'<st.length
  ·obtain ⟨s1,_,r3,hx3,⟨rfl,hb3⟩,hd3⟩:=hn3 k' hkt
   have hb:=Xt hef hkt
   have hbm:=(BC hM).2
   have hp:=MM hM hb
   have hlp:=Ht hs (B7 c (a+k'))
   have hcp:=hcp _ hb
   have hS:Ab (B7 c (a+k')):=by have:=BC hM;unfold Ab;omega
   have hch:=hch _ hS
   have hN:(¬(s1=1->E0 c hs (a+k')))->∀ s,K (.bool false) s:=fun h=>f fun q=>h fun e=>q i hlt _ hx k' hkt (by subst e;exact hx3)
   have hT:(s1=1->E0 c hs (a+k'))->∀ j<k'+1,st[j]?=some 1->E0 c hs (a+(j:Int)):=fun h=>AZ hK fun e=>h (by rw [hx3] at e;exact Zqr e)
   unfold E0 at hN
   have hT':(s1=1->0≤A9 hs (B7 c (a+k'))∧∀ h,hs[(A9 hs (B7 c (a+k'))).toNat]?=some h->h.2.2.2.1≤1∧h.2.2.1[(BY c (a+k')).toNat]?=some true)->∀ j<k'+1,st[j]?=some 1->E0 c hs (a+(j:Int)):=hT
   clear hT
   generalize A9 hs (B7 c (a+k'))=b at *
   generalize B7 c (a+k')=S at *
   generalize BY c (a+k')=Kx at *
   by_cases hb0:0≤b
   ·obtain ⟨⟨gst,gbl,gdi,gph,gde,gsq⟩,_,r2,gx,gxr,gd⟩:=hn1 b.toNat (by omega)
    obtain ⟨bv,dv,rfl,-,-,hdi,-⟩:=Cm gxr
    obtain ⟨ds,hs4,hl4,hn4⟩:=hdi.nth
    have hgl:gdi.length=c.members-1:=by have:=(hSh.1 b.toNat (by omega) _ gx).1;unfold DT at this;exact this.2.2.1
    obtain ⟨g,_,r5,gx5,rfl,gd5⟩:=hn4 Kx.toNat (by omega)
    have hN:=fun (h:¬(s1=1->gph≤1∧g=true))=>hN fun q=>h fun e=>by
     have:=(q e).2 _ gx;dsimp only at this;rw [gx5] at this;exact ⟨this.1,Zqr this.2⟩
    have hT':=fun (h:s1=1->gph≤1∧g=true)=>hT' fun e=>⟨hb0,fun x hx=>by rw [gx] at hx;cases hx;exact ⟨(h e).1,by dsimp only;rw [gx5,(h e).2]⟩⟩
    cases g
    all_goals repeat' (first|((first|refine Cj rfl hs1 rfl (show b=_ by omega) (by omega) gd ?_|refine Ar hs3 hkt hd3 ?_|refine Cj rfl hs4 rfl (show Kx=_ by omega) (by omega) gd5 ?_|refine As ?_|refine A8 (cs:=[.int .i64 gst,bv,dv,.int .u8 (gph:Int),.bool gde,.int .u32 gsq]) rfl ?_|refine hcp _ _ ?_|refine hch _ _ ?_|refine ESc.inl h80 ?_|refine Ac ?_|refine Au ?_|refine Av ?_|refine ⟨rfl,?_⟩);conv=>whnf)|refine Aa ?_ ?_|refine Ax ?_ ?_|refine Ap ?_ ?_|(intro _;first|omega|conv=>whnf))
    all_goals simp only [Bool.false_eq_true,and_false,and_true,imp_false] at hN hT'
    all_goals first
     | exact hN (by omega) _
     | exact ⟨hkt,hT' (by omega),Abs.tells (rs:=[0,1]) .a⟩
     | trace_state
   ·have hN:=fun (h:s1=1)=>hN fun q=>hb0 (q h).1
    have hT':=fun (h:s1≠1)=>hT' fun e=>absurd e h
    repeat' (first|((first|refine Ar hs3 hkt hd3 ?_|refine As ?_|refine hcp _ _ ?_|refine hch _ _ ?_|refine ESc.inl h80 ?_|refine Ac ?_|refine Av ?_|refine ⟨rfl,?_⟩);conv=>whnf)|refine Aa ?_ ?_|refine Ap ?_ ?_|(intro _;first|omega|conv=>whnf))
    all_goals first
     | exact hN (by omega) _
     | exact ⟨hkt,hT' (by omega),Abs.tells (rs:=[0,1]) .a⟩
     | trace_state
  ·repeat' (first|((first|refine Ac ?_|refine ⟨rfl,?_⟩);conv=>whnf)|refine Aa ?_ ?_|(intro _;first|omega|conv=>whnf))
   exact ⟨hlt,AZ hI fun g hg=>by rw [hx] at hg;cases hg;exact fun j hj=>hK j (by dsimp only at hj;omega),Abs.tells (rs:=[0]) .a⟩
 ·repeat' (first|refine Aa ?_ ?_|(intro _;first|omega|conv=>whnf))
  exact t (fun j hj=>hI j (by omega)) _
theorem HB {ev:Int}(h1:Bn ev) (h2:Ab lo) (h3:Ab po) (h4:Ab dn):loC.r (ev,lo,sp,po,dn,nl,br) [.int .u32 ev,.int .i64 lo,.bool sp,.int .i64 po,.int .i64 dn,.bool nl,.bool br]:=
 ⟨[_],_,rfl,⟨rfl,Sj h1⟩,[_],_,rfl,⟨rfl,Bf h2⟩,[_],_,rfl,rfl,[_],_,rfl,⟨rfl,Bf h3⟩,[_],_,rfl,⟨rfl,Bf h4⟩,[_],_,rfl,rfl,rfl⟩
theorem Yw {v:AV}(h1:Bn ag) (h2:Bn sq) (h3:Ab tl) (h4:Ab us) (h5:Ls lvC L v):lgC.r (ag,sq,tl,us,L) [.int .u32 ag,.int .u32 sq,.int .i64 tl,.int .i64 us,v]:=
 ⟨[_],_,rfl,⟨rfl,Sj h1⟩,[_],_,rfl,⟨rfl,Sj h2⟩,[_],_,rfl,⟨rfl,Bf h3⟩,[_],_,rfl,⟨rfl,Bf h4⟩,v,rfl,h5⟩
def GM:Dv->Prop
 | (c,_,o,hs,lg,fs,nx,_)=>c.may∧Br c o∧Cg c hs∧LD c lg∧EX c fs∧1≤nx∧nx≤2147483648
noncomputable def prtF:Fn (Dv×Unit):=bF (.g dvC .nil) (fun _=>True) fun x=>GM x.1
theorem Zh6 (hE:EM P e) (h120:Con e 120 mayRF.O) (h121:Con e 121 loF.O) (h122:Con e 122 shF.O) (h123:Con e 123 lgF.O) (h124:Con e 124 flsF.O):OvOk P 69 prtF.O:=by
 refine Bv hE g69 ?_
 rintro ⟨⟨c,bk,⟨ev,lo,sp,po,dn,nl,br⟩,hs,⟨ag,sq,tl,us,L⟩,fs,nx,so⟩,_⟩ _ ⟨_,_,rfl,hd,rfl⟩-K t f
 obtain ⟨hv,lv,fv,rfl,⟨ho,o1,o2,o3,o4,o5,o6,o7,o8,oN⟩,hH,hL,hF⟩:=B1 hd
 have hc1:=fun (Q:AV->St->Prop) s (k:Q (.bool (decide c.may)) s)=>ESc.fam (e:=e) (k:=Q) (s:=s) mayRF h120 c ho rfl k
 have hc2:=fun (hM:c.may) (Q:AV->St->Prop) s a b=>@bF.u _ _ _ _ e 121 s Q _ h121 (c,_,()) ⟨_,_,rfl,⟨rfl,ho⟩,_,_,rfl,HB (sp:=sp) (nl:=nl) (br:=br) o1 o2 o3 o4,rfl⟩ hM a b
 have hc3:=fun (hM:c.may) (Q:AV->St->Prop) s a b=>@bF.u _ _ _ _ e 122 s Q [.agg c.c,hv] h122 (c,hs,()) ⟨_,_,rfl,⟨rfl,ho⟩,_,_,rfl,⟨_,rfl,hH⟩,rfl⟩ hM a b
 have hc4:=fun (hM:c.may) (Q:AV->St->Prop) s a b=>@bF.u _ _ _ _ e 123 s Q _ h123 (c,_,()) ⟨_,_,rfl,⟨rfl,ho⟩,_,_,rfl,Yw o5 o6 o7 o8 hL,rfl⟩ hM a b
 have hc5:=fun (hM:c.may) (Q:AV->St->Prop) s a b=>@bF.u _ _ _ _ e 124 s Q [.agg c.c,fv] h124 (c,fs,()) ⟨_,_,rfl,⟨rfl,ho⟩,_,_,rfl,⟨_,rfl,hF⟩,rfl⟩ hM a b
 unfold GM at t f
 dsimp only at t f hc2 hc3 hc4 hc5
 generalize Br c _=A1 at *
 generalize Cg c _=A2 at *
 generalize LD c _=A3 at *
 generalize EX c _=A4 at *
 conv=>whnf
 by_cases hM:c.may
 ·rw [Zpo hM] at hc1
  repeat' (first|(refine hc2 hM _ _ (fun q1=>?_) (fun q1=>?_) <;> conv=>whnf)|(refine hc3 hM _ _ (fun q2=>?_) (fun q2=>?_) <;> conv=>whnf)|(refine hc4 hM _ _ (fun q3=>?_) (fun q3=>?_) <;> conv=>whnf)|(refine hc5 hM _ _ (fun q4=>?_) (fun q4=>?_) <;> conv=>whnf)|((first|refine hc1 _ _ ?_|refine Au ?_|refine Av ?_);conv=>whnf)|refine B8 ?_ ?_|refine AR ?_ ?_|(intro _;first|omega|conv=>whnf))
  all_goals first
   | exact t ⟨hM,q1,q2,q3,q4,by assumption,by assumption⟩ _
   | exact f (fun q=>by omega) _
   | exact f (fun q=>q1 q.2.1) _
   | exact f (fun q=>q2 q.2.2.1) _
   | exact f (fun q=>q3 q.2.2.2.1) _
   | exact f (fun q=>q4 q.2.2.2.2.1) _
 ·rw [Zp0 hM] at hc1
  repeat' (first|((first|refine hc1 _ _ ?_|refine Av ?_);conv=>whnf)|fail)
  exact f (fun q=>hM q.1) _
def ET:Dv->Prop
 | (c,bk,(ev,lo,sp,po,dn,nl,br),hs,(ag,sq,tl,us,L),fs,nx,so)=>GM (c,bk,(ev,lo,sp,po,dn,nl,br),hs,(ag,sq,tl,us,L),fs,nx,so)∧(∀ f,fs[fs.length-1]?=some f->f.1<nx)∧Lh c hs fs∧¬JO L∧(nl=true->JH hs L)∧(nl=false->(∀ i<hs.length,∀ h,hs[i]?=some h->Dy L h)∧∀ i<L.length,∀ x,L[i]?=some x->Fh L hs x.stripe)
noncomputable def mayF:Fn (Dv×Unit):=bF (.g dvC .nil) (fun _=>True) fun x=>ET x.1
theorem Rm {L:List Lv}{s:Int}{i:Nat}{x:Lv}(hx:L[i]?=some x) (h:x.stripe=s):∀ n,i<n->(i:Int)≤AK L s n
 | 0,h0=>by omega
 | n+1,h0=>by
  unfold AK
  rcases Zrb.1 h0 with h1|rfl
  ·have:=Rm hx h n h1
   split <;> omega
  ·rw [hx,Zpn (by rw [← h];rfl)];exact Int.le_refl _
set_option maxHeartbeats 2000000 in
theorem Zio (hE:EM P e) (h69:Con e 69 prtF.O) (h70:Con e 70 hldF.O) (h71:Con e 71 lagF.O) (h72:Con e 72 bareF.O) (h73:Con e 73 dltF.O) (h74:Con e 74 kptF.O):OvOk P 30 mayF.O:=by
 refine Bv hE g30 ?_
 rintro ⟨⟨c,bk,⟨ev,lo,sp,po,dn,nl,br⟩,hs,⟨ag,sq,tl,us,L⟩,fs,nx,so⟩,_⟩ _ ⟨_,_,rfl,hd,rfl⟩-K t f
 obtain ⟨hv,lv,fv,rfl,⟨ho,o1,o2,o3,o4,o5,o6,o7,o8,oN⟩,hH,hL,hF⟩:=B1 hd
 have hrow:=dvC.hf hd
 obtain ⟨cs,hs1,hl1,hn1⟩:=hH.nth
 obtain ⟨ls,hs2,hl2,hn2⟩:=hL.lv
 obtain ⟨ks,hs3,hl3,hn3⟩:=hF.nth
 have hc1:=fun (Q:AV->St->Prop) s a b=>@bF.u _ _ _ _ e 69 s Q _ h69 (_,()) ⟨_,_,rfl,hd,rfl⟩ trivial a b
 have hc2:=fun (hq:GM (c,bk,(ev,lo,sp,po,dn,nl,br),hs,(ag,sq,tl,us,L),fs,nx,so)) (Q:AV->St->Prop) s a b=>@bF.u _ _ _ _ e 70 s Q _ h70 (_,()) ⟨_,_,rfl,hd,rfl⟩ ⟨hq.1,hq.2.2.1,hq.2.2.2.2.1⟩ a b
 have hc3:=fun (Q:AV->St->Prop) s a b=>@bF.u _ _ _ _ e 71 s Q [lv] h71 (L,()) ⟨_,_,rfl,⟨_,rfl,hL⟩,rfl⟩ trivial a b
 have hc4:=fun (Q:AV->St->Prop) s a b=>@bF.u _ _ _ _ e 72 s Q _ h72 (_,()) ⟨_,_,rfl,hd,rfl⟩ trivial a b
 have hc5:=fun h l (hh:hdC.r h l) (Q:AV->St->Prop) s a b=>@bF.u _ _ _ _ e 73 s Q _ h73 (_,h,()) ⟨_,_,rfl,hd,_,_,rfl,hh,rfl⟩ trivial a b
 have hc6:=fun s' (hs':Ab s') (hl:0≤AK L s' L.length) (Q:AV->St->Prop) s a b=>@bF.u _ _ _ _ e 74 s Q [_,.int .i64 s'] h74 (_,s',()) ⟨_,_,rfl,hd,_,_,rfl,⟨rfl,Bf hs'⟩,rfl⟩ hl a b
 unfold ET at t f
 dsimp only at t f hc1 hc2 hc3 hc4 hc5 hc6
 generalize GM _=A1 at *
 generalize Lh c hs fs=A2 at *
 generalize JO L=A3 at *
 generalize JH hs L=A4 at *
 have key:∀ B:Prop,(B↔∀ f,fs[fs.length-1]?=some f->f.1<nx)->(A1∧B∧A2∧¬A3∧(nl=true->A4)∧(nl=false->(∀ i<hs.length,∀ h,hs[i]?=some h->Dy L h)∧∀ i<L.length,∀ x,L[i]?=some x->Fh L hs x.stripe)->∀ s,K (.bool true) s)∧(¬(A1∧B∧A2∧¬A3∧(nl=true->A4)∧(nl=false->(∀ i<hs.length,∀ h,hs[i]?=some h->Dy L h)∧∀ i<L.length,∀ x,L[i]?=some x->Fh L hs x.stripe))->∀ s,K (.bool false) s):=fun B hB=>⟨fun h=>t (by rw [← hB];exact h),fun h=>f (by rw [← hB];exact h)⟩
 clear t f
 have h0:∃ B:Prop,(B↔∀ f,fs[fs.length-1]?=some f->f.1<nx)∧(fs.length=0∧B∨∃ n r,(B↔n<nx)∧0<fs.length∧ks.drop ((fs.length-1)*8)=.int .i64 n::r):=by
  by_cases h0:0<fs.length
  ·obtain ⟨⟨n,⟨k,a,m,d⟩,st,sqs,da⟩,_,r,hx,hxr,hd'⟩:=hn3 (fs.length-1) (by omega)
   obtain ⟨ev',tv,qv,av,rfl,-⟩:=Dq hxr
   exact ⟨n<nx,by rw [hx];exact ⟨fun h f e=>(by cases e;exact h),fun h=>h _ rfl⟩,.inr ⟨n,_,.rfl,h0,hd'⟩⟩
  ·exact ⟨True,by rw [Zrl (by omega)];exact ⟨fun _ f e=>(by cases e),fun _=>trivial⟩,.inl ⟨by omega,trivial⟩⟩
 obtain ⟨B,hB,h0⟩:=h0
 obtain ⟨t,f⟩:=key B hB
 clear key hB
 rcases h0 with ⟨h0,hB⟩|⟨n,r,hB,h0,hd'⟩ <;> cases nl
 all_goals repeat' (first|(refine hc1 _ _ (fun q1=>?_) (fun q1=>?_) <;> conv=>whnf)|(refine hc2 q1 _ _ (fun q2=>?_) (fun q2=>?_) <;> conv=>whnf)|(refine hc3 _ _ (fun q3=>?_) (fun q3=>?_) <;> conv=>whnf)|(refine hc4 _ _ (fun q4=>?_) (fun q4=>?_) <;> conv=>whnf)|((first|refine Cj rfl hs3 rfl (show (fs.length:Int)-1=((fs.length-1:Nat):Int) by omega) (by omega) hd' ?_|refine As ?_|refine Am hs3 ?_|refine AL ?_|refine Au ?_|refine Av ?_);conv=>whnf)|refine Ax ?_ ?_|refine AR ?_ ?_|(intro _;first|omega|conv=>whnf))
 all_goals first
  | exact f (fun q=>q1 q.1) _
  | exact f (fun q=>q2 q.2.2.1) _
  | exact f (fun q=>q.2.2.2.1 q3) _
  | exact f (fun q=>by have:=hB.1 q.2.1;omega) _
  | exact f (fun q=>q4 (q.2.2.2.2.1 rfl)) _
  | exact t ⟨q1,hB,q2,q3,fun _=>q4,fun h=>nomatch h⟩ _
  | exact t ⟨q1,hB.2 (by assumption),q2,q3,fun _=>q4,fun h=>nomatch h⟩ _
  | skip
 all_goals
  have hB:B:=by first|exact hB|exact hB.2 (by assumption)
  refine Aw hE hs.length (fun i=>[(1,.ptr 0 0),(3,.int .i64 (i:Int))]) (fun _=>[.row 33 (c.c++[.bool bk,.int .u32 ev,.int .i64 lo,.bool sp,.int .i64 po,.int .i64 dn,.bool false,.bool br,hv,.int .u32 ag,.int .u32 sq,.int .i64 tl,.int .i64 us,lv,fv,.int .i64 nx,.bool so])]) (fun i=>∀ j<i,∀ h,hs[j]?=some h->Dy L h) (fun k h=>by omega) (Abs.tells (rs:=[0]) .a) ?_
  intro i hi hI
  conv=>whnf
  refine Am hs1 ?_;conv=>whnf
  by_cases hlt:i<hs.length
  ·obtain ⟨h,l,r,hx,hxr,hd2⟩:=hn1 i hlt
   have hc5:=hc5 h l hxr
   have hfh:¬Dy L h->∀ s,K (.bool false) s:=fun g=>f fun q=>g ((q.2.2.2.2.2 rfl).1 i hlt h hx)
   have hth:Dy L h->∀ j<i+1,∀ h,hs[j]?=some h->Dy L h:=fun g=>AZ hI fun y e=>by rw [hx] at e;cases e;exact g
   obtain ⟨st,bl,di,ph,de,hsq⟩:=h
   obtain ⟨bv,dv,rfl,-⟩:=Cm hxr
   repeat' (first|(refine hc5 _ _ (fun hq=>?_) (fun hq=>?_) <;> conv=>whnf)|((first|refine Ar hs1 hlt hd2 ?_|refine A8 (cs:=[.int .i64 st,bv,dv,.int .u8 (ph:Int),.bool de,.int .u32 hsq]) rfl ?_|refine Ac ?_|refine Au ?_|refine Av ?_|refine ⟨rfl,?_⟩);conv=>whnf)|refine Aa ?_ ?_|(intro _;first|omega|conv=>whnf))
   ·exact ⟨hlt,hth hq,Abs.tells (rs:=[0]) .a⟩
   ·exact hfh hq _
  ·repeat' (first|refine Aa ?_ ?_|(intro _;first|omega|conv=>whnf))
   have hI:∀ j<hs.length,∀ h,hs[j]?=some h->Dy L h:=fun j hj=>hI j (by omega)
   refine Aw hE L.length (fun i=>[(1,.ptr 0 0),(4,.int .i64 (i:Int))]) (fun _=>[.row 33 (c.c++[.bool bk,.int .u32 ev,.int .i64 lo,.bool sp,.int .i64 po,.int .i64 dn,.bool false,.bool br,hv,.int .u32 ag,.int .u32 sq,.int .i64 tl,.int .i64 us,lv,fv,.int .i64 nx,.bool so])]) (fun i=>∀ j<i,∀ x,L[j]?=some x->Fh L hs x.stripe) (fun k h=>by omega) (Abs.tells (rs:=[0]) .a) ?_
   intro i hi hJ
   conv=>whnf
   refine Am hs2 ?_;conv=>whnf
   by_cases hlt:i<L.length
   ·obtain ⟨sq',st',bl',pa,su,ho',r,hx,hx',hd2⟩:=hn2 i hlt
    have hc6:=hc6 st' hx'.2.1 (by have:=Rm hx rfl L.length hlt;dsimp only at this;omega)
    repeat' (first|(refine hc6 _ _ (fun hq=>?_) (fun hq=>?_) <;> conv=>whnf)|((first|refine Ar hs2 hlt hd2 ?_|refine As ?_|refine Ac ?_|refine Au ?_|refine Av ?_|refine ⟨rfl,?_⟩);conv=>whnf)|refine Aa ?_ ?_|(intro _;first|omega|conv=>whnf))
    ·exact ⟨hlt,AZ hJ fun y e=>by rw [hx] at e;cases e;exact hq,Abs.tells (rs:=[0]) .a⟩
    ·exact f (fun q=>hq ((q.2.2.2.2.2 rfl).2 i hlt _ hx)) _
   ·repeat' (first|refine Aa ?_ ?_|(intro _;first|omega|conv=>whnf))
    exact t ⟨q1,hB,q2,q3,(by intro h;cases h),fun _=>⟨hI,fun j hj=>hJ j (by omega)⟩⟩ _
def Bc (l:List Nat):Nat:=(l.map fun n=>8+min n 100000).sum
theorem LY (l:List Nat) (n:Nat):Bc (l++[n])=Bc l+(8+min n 100000):=by unfold Bc;simp
theorem Mv:∀ (l:List Nat),Bc l≤100008*l.length
 | []=>Zp4 _
 | n::l=>by
  have:=Mv l
  show 8+min n 100000+Bc l≤100008*(l.length+1)
  omega
theorem Mi:∀ {l:List Nat}{n:Nat},n ∈ l->min n 100000≤Bc l
 | [],_,h=>by cases h
 | m::l,n,h=>by
  show min n 100000≤8+min m 100000+Bc l
  rcases Zqt.1 h with rfl|h
  ·omega
  ·have:=Mi h;omega
def DK.bl (x:DK):List Nat:=x.bs.map List.length
def DK.wl (x:DK):List Nat:=x.ws.map fun w=>w.b.length
def GG (x:DK):Bool:=decide (300<x.us.length) || (decide (1100<x.ws.length) || decide (60000<Bc (x.bl.take 400)+Bc (x.wl.take 1200)))
theorem grt4_ok {x:DK}(h:x.any) (hg:GG x=false):x.ok:=by
 unfold GG at hg
 simp only [Zq4,Zqp] at hg
 obtain ⟨h1,h2,h3⟩:=hg
 have hb:=h.bs.length
 have hbl:x.bl.take 400=x.bl:=Zps (by unfold DK.bl;rw [Zpq];omega)
 have hwl:x.wl.take 1200=x.wl:=Zps (by unfold DK.wl;rw [Zpq];omega)
 rw [hbl,hwl] at h3
 refine ⟨h,by omega,by omega,fun b hb=>?_,fun w hw=>?_⟩
 ·have:=Mi (l:=x.bl) (n:=b.length) (List.mem_map_of_mem hb);omega
 ·have:=Mi (l:=x.wl) (n:=w.b.length) (Zqj.2 ⟨w,hw,rfl⟩);omega
def grt4F:Fam DK:=⟨DK.any,fun x=>[x.v],fun x=>.bool (GG x),fun x y hx hy h=>by rw [DK.inj hx hy (Zpv h).1]⟩
theorem Zf0 (hE:EM P e):OvOk P 68 grt4F.O:=by
 refine C7 g68.b fun x hx=>?_
 refine ⟨by show (AM.hf x.v && true)=true;rw [DK.hf hx];rfl,rfl,C.of_G hE g68 ?_⟩
 have fin:∀ s (b:Bool),b=GG x->Frz s (.bool b) (grt4F.out x):=by rintro s b rfl;exact .plain _ rfl
 have hbl:=hx.bl
 have hwl:=hx.wl
 have hbs:=hx.bs
 have hws:=hx.ws
 have hbn:=hx.bs.length
 obtain ⟨O,hO⟩:∃ O,O=grt4F.out x:=⟨_,rfl⟩
 rw [← hO] at fin ⊢
 clear hO
 obtain ⟨BL,hBL⟩:∃ L,L=x.bl:=⟨_,rfl⟩
 obtain ⟨WL,hWL⟩:∃ L,L=x.wl:=⟨_,rfl⟩
 have hBn:BL.length=x.bs.length:=by rw [hBL];unfold DK.bl;rw [Zpq]
 have hWn:WL.length=x.ws.length:=by rw [hWL];unfold DK.wl;rw [Zpq]
 have hBg:∀ i (h:i<x.bs.length) (h':i<BL.length),BL[i]=x.bs[i].length:=fun i h h'=>by
  have hq:x.bl[i]?=some x.bs[i].length:=by unfold DK.bl;rw [Zqi,Zpj h];rfl
  rw [← hBL,Zpj h'] at hq;exact Zqr hq
 have hWg:∀ i (h:i<x.ws.length) (h':i<WL.length),WL[i]=x.ws[i].b.length:=fun i h h'=>by
  have hq:x.wl[i]?=some x.ws[i].b.length:=by unfold DK.wl;rw [Zqi,Zpj h];rfl
  rw [← hWL,Zpj h'] at hq;exact Zqr hq
 unfold GG at fin
 rw [← hBL,← hWL] at fin
 clear hBL hWL hx
 obtain ⟨bv,us,bs,wv,ws,dd⟩:=x
 dsimp only at hbl hwl hbs hws hbn hBn hWn hBg hWg fin
 have hdf:hfs [bv,wv,.bool dd]=true:=by
  show (AM.hf bv && (AM.hf wv && (true && true)))=true
  rw [hbl.hf,hwl.hf];rfl
 show VW P e 0 (match a68 with|.mk c _=>c) (An [.agg [bv,wv,.bool dd]] 0 .lf) St0 none [] _
 conv=>whnf
 refine DZ (α:=Nat) (fun i=>[(1,.ptr 0 0),(3,.int .i64 (Bc (BL.take i):Nat)),(4,.int .i64 (i:Int))]) (fun _=>[.row 60 [bv,wv,.bool dd]]) (fun i=>us.length-i) (fun i=>i≤us.length∧i≤400) 0 ⟨Zp2 _,Zp2 _⟩
  (Abs.tells (rs:=[0]) .a) ?_
 rintro i ⟨hi,hi4⟩
 refine Ca hE ?_
 have hg1:=Mv (BL.take i)
 rw [Zp9] at hg1
 by_cases hlt:i<us.length∧i<400
 ·obtain ⟨hl1,hl2⟩:=hlt
  conv=>whnf
  refine Am hbl ?_;conv=>whnf
  refine Bl (a:=(i:Int)) (b:=(us.length:Int)) rfl rfl (fun _=>?_) (fun h=>by omega);conv=>whnf
  refine Bl (a:=(i:Int)) (b:=400) rfl rfl (fun _=>?_) (fun h=>by omega);conv=>whnf
  refine Cz rfl hbl rfl hl1 ?_;conv=>whnf
  obtain ⟨b,hb1,hb2⟩:=hbs.get (Zpj hl1)
  have hlb:i<bs.length:=by omega
  have hLB:i<BL.length:=by omega
  have hbe:bs[i]=b:=by rw [Zpj hlb] at hb1;exact Zqr hb1
  have hsucc:((Bc (BL.take (i+1)):Nat):Int)=(Bc (BL.take i):Int)+(8+((min b.length 100000:Nat):Int)):=by
   rw [Zpw hLB,LY,hBg i hlb hLB,hbe];omega
  have hug:us[i]?=some us[i]:=Zpj hl1
  revert hb2 hug
  generalize us[i]=u
  intro hb2 hug
  refine EHead.mk (v:=u) (by rw [Zqm,Zpu,Zqs];exact hug) ?_;conv=>whnf
  refine AD rfl hb2.1 ?_;conv=>whnf
  refine EPrim.min2 (a:=(b.length:Int)) (b:=100000) rfl ?_
  rw [show min (b.length:Int) 100000=((min b.length 100000:Nat):Int) by omega]
  conv=>whnf
  repeat' (first|((first|refine Ac ?_|refine ⟨rfl,?_⟩);conv=>whnf)|fail)
  exact ⟨i+1,⟨hl1,hl2⟩,by omega,Abs.tells (rs:=[0]) ⟨by decide,⟨r9,⟨rfl,by rw [hsucc];rfl⟩,r9,trivial⟩,⟨o9,trivial⟩⟩⟩
 ·by_cases hl1:i<us.length
  ·conv=>whnf
   refine Am hbl ?_;conv=>whnf
   (refine Bl (a:=(i:Int)) (b:=(us.length:Int)) rfl rfl (fun _=>?_) (fun h=>by omega);(conv=>whnf);refine Bl (a:=(i:Int)) (b:=400) rfl rfl (fun _=>by omega) (fun _=>?_))
   have hBt:BL.take i=BL.take 400:=by
    rcases (show i=us.length∨i=400 by omega) with h|h
    ·rw [h,Zps (by omega),Zps (by omega)]
    ·rw [h]
   rw [hBt] at hg1 ⊢
   conv=>whnf
   refine DZ (α:=Nat) (fun j=>[(1,.ptr 0 0),(3,.int .i64 ((Bc (BL.take 400):Nat)+(Bc (WL.take j):Nat))),(5,.int .i64 (j:Int))]) (fun _=>[.row 60 [bv,wv,.bool dd]]) (fun j=>ws.length-j) (fun j=>j≤ws.length∧j≤1200) 0 ⟨Zp2 _,Zp2 _⟩
    (Abs.tells (rs:=[0]) ⟨by decide,⟨r9,⟨rfl,by show _=some (AV.int .i64 ((Bc (BL.take 400):Int)+0));rw [Int.add_zero];rfl⟩,r9,trivial⟩,⟨o9,trivial⟩⟩) ?_
   rintro j ⟨hj,hj4⟩
   refine Ca hE ?_
   have hg2:=Mv (WL.take j)
   rw [Zp9] at hg2
   by_cases hjlt:j<ws.length∧j<1200
   ·obtain ⟨hj1,hj2⟩:=hjlt
    have hd:=GY hj1
    have hwa:=hws _ (Zqk hj1)
    have hLW:j<WL.length:=by omega
    have hsucc:((Bc (WL.take (j+1)):Nat):Int)=(Bc (WL.take j):Int)+(8+((min ws[j].b.length 100000:Nat):Int)):=by
     rw [Zpw hLW,LY,hWg j hj1 hLW];omega
    have hall:=And.intro hd (And.intro hwa hsucc)
    clear hd hwa hsucc
    revert hall
    generalize ws[j]=w
    obtain ⟨wa,wu,wb⟩:=w
    rintro ⟨hd,⟨hwa,hwb⟩,hsucc⟩
    have hd:(Ag ws).drop (j*2)=[.int .i64 wa,wu]++Ag (ws.drop (j+1)):=hd
    dsimp only at hwa hwb hsucc
    have hsucc':((Bc (BL.take 400):Nat):Int)+(Bc (WL.take (j+1)):Int)=((Bc (BL.take 400):Nat):Int)+(Bc (WL.take j):Int)+(8+((min wb.length 100000:Nat):Int)):=by rw [hsucc];omega
    conv=>whnf
    refine Am hwl ?_;conv=>whnf
    refine Bl (a:=(j:Int)) (b:=(ws.length:Int)) rfl rfl (fun _=>?_) (fun h=>by omega);conv=>whnf
    refine Bl (a:=(j:Int)) (b:=1200) rfl rfl (fun _=>?_) (fun h=>by omega);conv=>whnf
    refine Cz rfl hwl rfl hj1 ?_
    rw [hd]
    conv=>whnf
    repeat' (first|((first|refine EHead.mk (v:=wu) rfl ?_|refine AD rfl hwb.1 ?_);conv=>whnf)|fail)
    refine EPrim.min2 (a:=(wb.length:Int)) (b:=100000) rfl ?_
    rw [show min (wb.length:Int) 100000=((min wb.length 100000:Nat):Int) by omega]
    conv=>whnf
    repeat' (first|((first|refine Ac ?_|refine ⟨rfl,?_⟩);conv=>whnf)|fail)
    exact ⟨j+1,⟨hj1,hj2⟩,by omega,Abs.tells (rs:=[0]) ⟨by decide,⟨r9,⟨rfl,by rw [hsucc'];rfl⟩,r9,trivial⟩,⟨o9,trivial⟩⟩⟩
   ·have hWt:WL.take j=WL.take 1200:=by
     rcases (show j=ws.length∨j=1200 by omega) with h|h
     ·rw [h,Zps (by omega),Zps (by omega)]
     ·rw [h]
    rw [hWt] at hg2 ⊢
    by_cases hj1:j<ws.length
    ·conv=>whnf
     refine Am hwl ?_;conv=>whnf
     (refine Bl (a:=(j:Int)) (b:=(ws.length:Int)) rfl rfl (fun _=>?_) (fun h=>by omega);(conv=>whnf);refine Bl (a:=(j:Int)) (b:=1200) rfl rfl (fun _=>by omega) (fun _=>?_))
     conv=>whnf
     repeat' (first|((first|refine Am hbl ?_|refine Am hwl ?_);conv=>whnf)|refine Ax ?_ ?_|(intro _;first|omega|conv=>whnf))
     all_goals exact fin _ _ (by symm;simp only [Zq8,Zq4,Zqg,Zqp];omega)
    ·conv=>whnf
     refine Am hwl ?_;conv=>whnf
     (refine Bl (a:=(j:Int)) (b:=(ws.length:Int)) rfl rfl (fun _=>by omega) (fun _=>?_))
     conv=>whnf
     repeat' (first|((first|refine Am hbl ?_|refine Am hwl ?_);conv=>whnf)|refine Ax ?_ ?_|(intro _;first|omega|conv=>whnf))
     all_goals exact fin _ _ (by symm;simp only [Zq8,Zq4,Zqg,Zqp];omega)
  ·conv=>whnf
   refine Am hbl ?_;conv=>whnf
   (refine Bl (a:=(i:Int)) (b:=(us.length:Int)) rfl rfl (fun _=>by omega) (fun _=>?_))
   have hBt:BL.take i=BL.take 400:=by
    rcases (show i=us.length∨i=400 by omega) with h|h
    ·rw [h,Zps (by omega),Zps (by omega)]
    ·rw [h]
   rw [hBt] at hg1 ⊢
   conv=>whnf
   refine DZ (α:=Nat) (fun j=>[(1,.ptr 0 0),(3,.int .i64 ((Bc (BL.take 400):Nat)+(Bc (WL.take j):Nat))),(5,.int .i64 (j:Int))]) (fun _=>[.row 60 [bv,wv,.bool dd]]) (fun j=>ws.length-j) (fun j=>j≤ws.length∧j≤1200) 0 ⟨Zp2 _,Zp2 _⟩
    (Abs.tells (rs:=[0]) ⟨by decide,⟨r9,⟨rfl,by show _=some (AV.int .i64 ((Bc (BL.take 400):Int)+0));rw [Int.add_zero];rfl⟩,r9,trivial⟩,⟨o9,trivial⟩⟩) ?_
   rintro j ⟨hj,hj4⟩
   refine Ca hE ?_
   have hg2:=Mv (WL.take j)
   rw [Zp9] at hg2
   by_cases hjlt:j<ws.length∧j<1200
   ·obtain ⟨hj1,hj2⟩:=hjlt
    have hd:=GY hj1
    have hwa:=hws _ (Zqk hj1)
    have hLW:j<WL.length:=by omega
    have hsucc:((Bc (WL.take (j+1)):Nat):Int)=(Bc (WL.take j):Int)+(8+((min ws[j].b.length 100000:Nat):Int)):=by
     rw [Zpw hLW,LY,hWg j hj1 hLW];omega
    have hall:=And.intro hd (And.intro hwa hsucc)
    clear hd hwa hsucc
    revert hall
    generalize ws[j]=w
    obtain ⟨wa,wu,wb⟩:=w
    rintro ⟨hd,⟨hwa,hwb⟩,hsucc⟩
    have hd:(Ag ws).drop (j*2)=[.int .i64 wa,wu]++Ag (ws.drop (j+1)):=hd
    dsimp only at hwa hwb hsucc
    have hsucc':((Bc (BL.take 400):Nat):Int)+(Bc (WL.take (j+1)):Int)=((Bc (BL.take 400):Nat):Int)+(Bc (WL.take j):Int)+(8+((min wb.length 100000:Nat):Int)):=by rw [hsucc];omega
    conv=>whnf
    refine Am hwl ?_;conv=>whnf
    refine Bl (a:=(j:Int)) (b:=(ws.length:Int)) rfl rfl (fun _=>?_) (fun h=>by omega);conv=>whnf
    refine Bl (a:=(j:Int)) (b:=1200) rfl rfl (fun _=>?_) (fun h=>by omega);conv=>whnf
    refine Cz rfl hwl rfl hj1 ?_
    rw [hd]
    conv=>whnf
    repeat' (first|((first|refine EHead.mk (v:=wu) rfl ?_|refine AD rfl hwb.1 ?_);conv=>whnf)|fail)
    refine EPrim.min2 (a:=(wb.length:Int)) (b:=100000) rfl ?_
    rw [show min (wb.length:Int) 100000=((min wb.length 100000:Nat):Int) by omega]
    conv=>whnf
    repeat' (first|((first|refine Ac ?_|refine ⟨rfl,?_⟩);conv=>whnf)|fail)
    exact ⟨j+1,⟨hj1,hj2⟩,by omega,Abs.tells (rs:=[0]) ⟨by decide,⟨r9,⟨rfl,by rw [hsucc'];rfl⟩,r9,trivial⟩,⟨o9,trivial⟩⟩⟩
   ·have hWt:WL.take j=WL.take 1200:=by
     rcases (show j=ws.length∨j=1200 by omega) with h|h
     ·rw [h,Zps (by omega),Zps (by omega)]
     ·rw [h]
    rw [hWt] at hg2 ⊢
    by_cases hj1:j<ws.length
    ·conv=>whnf
     refine Am hwl ?_;conv=>whnf
     (refine Bl (a:=(j:Int)) (b:=(ws.length:Int)) rfl rfl (fun _=>?_) (fun h=>by omega);(conv=>whnf);refine Bl (a:=(j:Int)) (b:=1200) rfl rfl (fun _=>by omega) (fun _=>?_))
     conv=>whnf
     repeat' (first|((first|refine Am hbl ?_|refine Am hwl ?_);conv=>whnf)|refine Ax ?_ ?_|(intro _;first|omega|conv=>whnf))
     all_goals exact fin _ _ (by symm;simp only [Zq8,Zq4,Zqg,Zqp];omega)
    ·conv=>whnf
     refine Am hwl ?_;conv=>whnf
     (refine Bl (a:=(j:Int)) (b:=(ws.length:Int)) rfl rfl (fun _=>by omega) (fun _=>?_))
     conv=>whnf
     repeat' (first|((first|refine Am hbl ?_|refine Am hwl ?_);conv=>whnf)|refine Ax ?_ ?_|(intro _;first|omega|conv=>whnf))
     all_goals exact fin _ _ (by symm;simp only [Zq8,Zq4,Zqg,Zqp];omega)
def Df (bl:List (List Nat)) (n:Nat):List Nat:=(bl.map List.length).take n
theorem Vx {bl:List (List Nat)}{b:List Nat}(h:bl[i]?=some b):Bc (Df bl (i+1))=Bc (Df bl i)+(8+min b.length 100000):=by
 unfold Df
 rw [← LY,List.take_add_one,Zqi,h];rfl
def PH:Hd->Prop
 | (_,bl,di,_,_,_)=>60<bl.length∨60<di.length∨10000<Bc (Df bl 100)
noncomputable def g16F:Fn (Hd×Unit):=bF (.g hdC .nil) (fun _=>True) fun x=>PH x.1
theorem Zjc (hE:EM P e):OvOk P 67 g16F.O:=by
 refine Bv hE g67 ?_
 rintro ⟨⟨st,bl,di,ph,de,sq⟩,_⟩ _ ⟨_,_,rfl,hh,rfl⟩-K t f
 obtain ⟨bv,dv,rfl,h1,h2,h3,h4,h5⟩:=Cm hh
 obtain ⟨bs,hs,hl,hn⟩:=h2.nth
 obtain ⟨ds,hs',hl',-⟩:=h3.nth
 have hrow:=hdC.hf hh
 unfold PH at t f
 dsimp only at t f
 conv=>whnf
 refine Aw hE (min bl.length 100) (fun i=>[(1,.ptr 0 0),(3,.int .i64 ((Bc (Df bl i):Nat):Int)),(4,.int .i64 (i:Int))]) (fun _=>[.row 55 [.int .i64 st,bv,dv,.int .u8 (ph:Int),.bool de,.int .u32 sq]]) (fun _=>True) trivial (Abs.tells (rs:=[0]) .a) ?_
 intro i hi _
 have hg:=Mv (Df bl i)
 have hg2:(Df bl i).length≤100:=by unfold Df;rw [Zp9];omega
 conv=>whnf
 refine Am hs ?_;conv=>whnf
 by_cases hlt:i<bl.length∧i<100
 ·obtain ⟨b,_,l,hb,⟨u,rfl,hu⟩,hd⟩:=hn i hlt.1
  obtain ⟨us,hus,-⟩:=hu.nth
  have hsc:=Vx hb
  repeat' (first|(refine EPrim.min2 rfl ?_;rw [show min (b.length:Int) 100000=((min b.length 100000:Nat):Int) by omega];conv=>whnf)|((first|refine Ew rfl hs rfl hlt.1 hd ?_|refine As ?_|refine Am hus ?_|refine Ac ?_|refine ⟨rfl,?_⟩);conv=>whnf)|refine Aa ?_ ?_|(intro _;first|omega|conv=>whnf))
  exact ⟨by omega,trivial,Abs.tells (rs:=[0]) ⟨by decide,⟨r9,⟨rfl,by rw [hsc];rfl⟩,r9,trivial⟩,⟨o9,trivial⟩⟩⟩
 ·have he:Df bl i=Df bl 100:=by
   unfold Df
   rcases (show i=100∨bl.length≤i by omega) with rfl|h
   ·rfl
   ·rw [Zps (by rw [Zpq];omega),Zps (by rw [Zpq];omega)]
  rw [he] at hg ⊢
  repeat' (first|((first|refine Am hs ?_|refine AD rfl hs' ?_);conv=>whnf)|refine Aa ?_ ?_|refine Ax ?_ ?_|(intro _;first|omega|conv=>whnf))
  all_goals first
   | exact t (by omega) _
   | exact f (by omega) _
def Tz (hs:List Hd):Prop:=(∃ i<20,∃ h,hs[i]?=some h∧PH h)∨20<hs.length
noncomputable def g19F:Fn (List Hd×Unit):=bF (.v hdC.sl .nil) (fun _=>True) fun x=>Tz x.1
theorem Zjb (hE:EM P e) (h67:Con e 67 g16F.O):OvOk P 26 g19F.O:=by
 refine Bv hE g26 ?_
 rintro ⟨hs,_⟩ _ ⟨v,_,rfl,⟨_,e0,hh⟩,rfl⟩-K t f
 cases e0
 obtain ⟨cs,hs',hl,hn⟩:=hh.nth
 have hvf:=hh.hf
 unfold Tz at t f
 dsimp only at t f hl hn hs'
 have hc:=fun (x:Hd) l (hx:hdC.r x l) (Q:AV->St->Prop) s a b=>@bF.u _ _ _ _ e 67 s Q _ h67 (x,()) ⟨_,_,rfl,hx,rfl⟩ trivial a b
 conv=>whnf
 refine Aw hE (min hs.length 20) (fun i=>[(0,v),(3,.int .i64 (i:Int))]) (fun _=>[]) (fun i=>∀ j<i,∀ h,hs[j]?=some h->¬PH h) (fun k h=>by omega) (Abs.tells (rs:=[]) .a) ?_
 intro i hi hI
 conv=>whnf
 refine AD rfl hs' ?_;conv=>whnf
 by_cases hlt:i<hs.length∧i<20
 ·obtain ⟨x,l,r,hx,hxr,hd⟩:=hn i hlt.1
  have hc:=hc x l hxr
  obtain ⟨st,bl,di,ph,de,sq⟩:=x
  obtain ⟨bv,dv,rfl,-⟩:=Cm hxr
  repeat' (first|(refine hc _ _ (fun hq=>?_) (fun hq=>?_) <;> conv=>whnf)|((first|refine Ew rfl hs' rfl hlt.1 hd ?_|refine A8 (cs:=[.int .i64 st,bv,dv,.int .u8 (ph:Int),.bool de,.int .u32 sq]) rfl ?_|refine Ac ?_|refine ⟨rfl,?_⟩);conv=>whnf)|refine Aa ?_ ?_|(intro _;first|omega|conv=>whnf))
  ·exact t (.inl ⟨i,hlt.2,_,hx,hq⟩) _
  ·exact ⟨by omega,AZ hI fun g hg=>by rw [hx] at hg;cases hg;exact hq,Abs.tells (rs:=[]) .a⟩
 ·repeat' (first|(refine AD rfl hs' ?_;conv=>whnf)|refine Aa ?_ ?_|refine Ax ?_ ?_|(intro _;first|omega|conv=>whnf))
  all_goals first
   | exact t (.inr (by omega)) _
   | (refine f (fun q=>?_) _;rcases q with ⟨j,hj,h,hh,hg⟩|q;exact hI j (by have:=(Zpk.1 hh).1;omega) h hh hg;omega)
noncomputable def g14F:Fn (Lg×Unit):=bF (.g lgC .nil) (fun _=>True) fun x=>600<x.1.2.2.2.2.length
theorem Zjd (hE:EM P e):OvOk P 27 g14F.O:=by
 refine Bv hE g27 ?_
 rintro ⟨⟨ag,sq,tl,us,L⟩,_⟩ _ ⟨_,_,rfl,hg,rfl⟩-K t f
 obtain ⟨v,rfl,o1,o2,o3,o4,hL⟩:=MT hg
 obtain ⟨cs,hs',hl,-⟩:=hL.lv
 dsimp only at t f
 conv=>whnf
 repeat' (first|(refine AD rfl hs' ?_;conv=>whnf)|refine Ax ?_ ?_|(intro _;first|omega|conv=>whnf))
 ·exact t (by omega) _
 ·exact f (by omega) _
def IJ:Fl->Prop
 | (_,(_,_,_,d),st,sq,da)=>d.length≤5000∧st.length≤100∧sq.length≤100∧da.length≤100∧∀ k<da.length,∀ b,da[k]?=some b->b.length≤1000
def Zi (fs:List Fl):Prop:=fs.length≤50∧∀ i<fs.length,∀ f,fs[i]?=some f->IJ f
noncomputable def g24F:Fn (List Fl×Unit):=bF (.v ftC.sl .nil) (fun _=>True) fun x=>¬Zi x.1
theorem Zja (hE:EM P e):OvOk P 28 g24F.O:=by
 refine Bv hE g28 ?_
 rintro ⟨fs,_⟩ _ ⟨v,_,rfl,⟨_,e0,hh⟩,rfl⟩-K t f
 cases e0
 obtain ⟨cs,hs',hl,hn⟩:=hh.nth
 have hvf:=hh.hf
 dsimp only at t f hl hn hs'
 have f:=fun h=>f (not_not_intro h)
 conv=>whnf
 repeat' (first|(refine AD rfl hs' ?_;conv=>whnf)|refine Ax ?_ ?_|(intro _;first|omega|conv=>whnf))
 ·exact t (fun q=>by have:=q.1;omega) _
 refine Aw hE fs.length (fun i=>[(0,v),(3,.int .i64 (i:Int))]) (fun _=>[]) (fun i=>∀ j<i,∀ f,fs[j]?=some f->IJ f) (fun k h=>by omega) (Abs.tells (rs:=[]) .a) ?_
 intro i hi hI
 conv=>whnf
 refine AD rfl hs' ?_;conv=>whnf
 by_cases hlt:i<fs.length
 ·obtain ⟨⟨n,⟨k,a,m,d⟩,st,sq,da⟩,_,r,hx,hxr,hd⟩:=hn i hlt
  obtain ⟨dv,tv,qv,av,rfl,o1,o2,o3,o4,h1,h2,h3,h4⟩:=Dq hxr
  obtain ⟨xs1,k1,l1,-⟩:=h1.nth
  obtain ⟨xs2,k2,l2,-⟩:=h2.nth
  obtain ⟨xs3,k3,l3,-⟩:=h3.nth
  obtain ⟨xs4,k4,l4,n4⟩:=h4.nth
  have ht:¬IJ (n,(k,a,m,d),st,sq,da)->∀ s,K (.bool true) s:=fun h=>t fun q=>h (q.2 i hlt _ hx)
  have hs:IJ (n,(k,a,m,d),st,sq,da)->∀ j<i+1,∀ f,fs[j]?=some f->IJ f:=fun h=>AZ hI fun g hg=>by rw [hx] at hg;cases hg;exact h
  unfold IJ at ht
  have hs:(d.length≤5000∧st.length≤100∧sq.length≤100∧da.length≤100∧∀ k<da.length,∀ b,da[k]?=some b->b.length≤1000)->∀ j<i+1,∀ f,fs[j]?=some f->IJ f:=hs
  repeat' (first|((first|refine Ar hs' hlt hd ?_|refine As ?_|refine Am k1 ?_|refine Am k2 ?_|refine Am k3 ?_|refine Am k4 ?_);conv=>whnf)|refine Aa ?_ ?_|refine Ax ?_ ?_|(intro _;first|omega|conv=>whnf))
  all_goals try exact ht (fun q=>by omega) _
  refine Aw hE da.length (fun k=>[(0,v),(3,.int .i64 (i:Int)),(4,.int .i64 (k:Int))]) (fun _=>[]) (fun i=>∀ k<i,∀ b,da[k]?=some b->b.length≤1000) (fun k h=>by omega) (Abs.tells (rs:=[]) .a) ?_
  intro j hj hJ
  conv=>whnf
  by_cases hjt:j<da.length
  ·obtain ⟨b,_,r',hb,⟨u,rfl,hu⟩,hd2⟩:=n4 j hjt
   obtain ⟨us,hus,-⟩:=hu.nth
   repeat' (first|((first|refine Ar hs' hlt hd ?_|refine Ar k4 hjt hd2 ?_|refine As ?_|refine Am k4 ?_|refine Am hus ?_|refine Ac ?_|refine ⟨rfl,?_⟩);conv=>whnf)|refine Aa ?_ ?_|refine Ax ?_ ?_|(intro _;first|omega|conv=>whnf))
   ·exact ht (fun q=>by have:=q.2.2.2.2 j hjt b hb;omega) _
   ·exact ⟨hjt,AZ hJ fun y hy=>by rw [hb] at hy;cases hy;omega,Abs.tells (rs:=[]) .a⟩
  ·repeat' (first|((first|refine Ar hs' hlt hd ?_|refine As ?_|refine Am k4 ?_|refine Ac ?_|refine ⟨rfl,?_⟩);conv=>whnf)|refine Aa ?_ ?_|(intro _;first|omega|conv=>whnf))
   exact ⟨hlt,hs ⟨by omega,by omega,by omega,by omega,fun k hk=>hJ k (by omega)⟩,Abs.tells (rs:=[]) .a⟩
 ·repeat' (first|(refine AD rfl hs' ?_;conv=>whnf)|refine Aa ?_ ?_|(intro _;first|omega|conv=>whnf))
  exact f ⟨by omega,fun j hj=>hI j (by omega)⟩ _
theorem WE:∀ {ws:List (Int×List Nat)}{ls:List (List AV)},All2 wrC.r ws ls->∃ W:List WR,(∀ w ∈ W,w.any)∧ls.flatten=Ag W∧W.map (fun w=>(w.at_,w.b))=ws
 | [],_,h=>by cases h;exact ⟨[],by simp,rfl,rfl⟩
 | x::ws,_,h=>by
  cases h with
  | cons h1 h2=>
   obtain ⟨W,a,b,c⟩:=WE h2
   obtain ⟨x1,x2⟩:=x
   obtain ⟨_,_,rfl,⟨rfl,g1⟩,u,rfl,g2⟩:=h1
   refine ⟨⟨x1,u,x2⟩::W,fun w hw=>?_,by rw [List.flatten_cons,b];rfl,by rw [Zqz,c]⟩
   rcases Zqt.1 hw with rfl|hw
   ·exact ⟨wf_i64 g1,g2.b⟩
   ·exact a w hw
structure DKof (x:Dk) (y:DK):Prop where
 a:y.any
 b:y.bs=x.1
 w:y.ws.map (fun w=>(w.at_,w.b))=x.2.1
 d:y.dead=x.2.2
variable {x:Dk}
theorem IK (h:dkC.r x l):∃ y:DK,DKof x y∧l=y.c:=by
 obtain ⟨bs,ws,dd⟩:=x
 obtain ⟨bv,wv,rfl,h1,h2⟩:=GI h
 obtain ⟨us,s1,a1⟩:=h1.bl
 obtain ⟨ls,a2,s2,-⟩:=h2
 obtain ⟨W,hW,e1,e2⟩:=WE a2
 have hwl:W.length=ws.length:=by rw [← e2,Zpq]
 have s2:Sl 2 ws.length ls.flatten wv:=s2
 exact ⟨⟨bv,us,bs,wv,W,dd⟩,⟨⟨s1,a1,by rw [hwl,← e1];exact s2,hW⟩,rfl,e2,rfl⟩,rfl⟩
def FL (ws:List (Int×List Nat)) (n:Nat):List Nat:=(ws.map fun w=>w.2.length).take n
theorem Zg8 {ws:List (Int×List Nat)}{w:Int×List Nat}(h:ws[i]?=some w):Bc (FL ws (i+1))=Bc (FL ws i)+(8+min w.2.length 100000):=by
 unfold FL
 rw [← LY,List.take_add_one,Zqi,h];rfl
def Fv (x:Dk):Prop:=300<x.1.length∨1100<x.2.1.length∨60000<Bc (Df x.1 400)+Bc (FL x.2.1 1200)
theorem Zoq {y:DK}(h:DKof x y):(GG y=true)=Fv x:=by
 obtain ⟨ha,hb,hw,-⟩:=h
 have h1:y.us.length=x.1.length:=by rw [ha.bs.length,hb]
 have h2:y.ws.length=x.2.1.length:=by rw [← hw,Zpq]
 have h3:y.bl=x.1.map List.length:=by unfold DK.bl;rw [hb]
 have h4:y.wl=x.2.1.map fun w=>w.2.length:=by unfold DK.wl;rw [← hw,List.map_map];rfl
 unfold GG Fv Df FL
 rw [h1,h2,h3,h4]
 simp only [Zq8,Zqg]
theorem Wv (h:¬Fv x):(x.1.length≤300∧x.2.1.length≤1100)∧(∀ n,Bc (Df x.1 n)≤60000∧Bc (FL x.2.1 n)≤60000)∧(∀ b ∈ x.1,b.length≤60000)∧∀ w ∈ x.2.1,w.2.length≤60000:=by
 unfold Fv at h
 have mono:∀ (l:List Nat) n,Bc (l.take n)≤Bc l:=fun l n=>by
  conv=>rhs;rw [← List.take_append_drop n l]
  unfold Bc;rw [Zp8,List.sum_append];omega
 have e1:Df x.1 400=x.1.map List.length:=by unfold Df;rw [Zps (by rw [Zpq];omega)]
 have e2:FL x.2.1 1200=x.2.1.map fun w=>w.2.length:=by unfold FL;rw [Zps (by rw [Zpq];omega)]
 rw [e1,e2] at h
 refine ⟨by omega,fun n=>⟨by have:=mono (x.1.map List.length) n;unfold Df;omega,by have:=mono (x.2.1.map fun w=>w.2.length) n;unfold FL;omega⟩,fun b hb=>?_,fun w hw=>?_⟩
 ·have:=Mi (l:=x.1.map List.length) (n:=b.length) (List.mem_map_of_mem hb);omega
 ·have:=Mi (l:=x.2.1.map fun w=>w.2.length) (n:=w.2.length) (Zqj.2 ⟨w,hw,rfl⟩);omega
def dSz (x:Dk):Nat:=Bc (Df x.1 x.1.length)+Bc (FL x.2.1 x.2.1.length)
def Ef (D:List Dk):Nat->Nat
 | 0=>0
 | i+1=>Ef D i+(D[i]?.map dSz).getD 0
def Zj (D:List Dk):Prop:=D.length≤30∧∀ i<D.length,∀ d,D[i]?=some d->¬Fv d∧Ef D (i+1)≤60000
noncomputable def g05F:Fn (List Dk×Unit):=bF (.v dkC.sl .nil) (fun _=>True) fun x=>¬Zj x.1
set_option maxHeartbeats 1000000 in
theorem Zje (hE:EM P e) (h68:Con e 68 grt4F.O):OvOk P 29 g05F.O:=by
 refine Bv hE g29 ?_
 rintro ⟨D,_⟩ _ ⟨v,_,rfl,⟨_,e0,hh⟩,rfl⟩-K t f
 cases e0
 obtain ⟨cs,hs',hl,hn⟩:=hh.nth
 have hvf:=hh.hf
 dsimp only at t f hl hn hs'
 have f:=fun h=>f (not_not_intro h)
 conv=>whnf
 refine Aw hE (min D.length 30) (fun i=>[(0,v),(3,.int .i64 ((Ef D i:Nat):Int)),(4,.int .i64 (i:Int))]) (fun _=>[]) (fun i=>Ef D i≤60000∧∀ j<i,∀ d,D[j]?=some d->¬Fv d∧Ef D (j+1)≤60000) ⟨Zp2 _,fun k h=>by omega⟩ (Abs.tells (rs:=[]) .a) ?_
 rintro i hi ⟨hT,hI⟩
 conv=>whnf
 refine AD rfl hs' ?_;conv=>whnf
 by_cases hlt:i<D.length∧i<30
 ·obtain ⟨x,c,r,hx,hxr,hd⟩:=hn i hlt.1
  obtain ⟨y,hy,rfl⟩:=IK hxr
  have hg:=Zoq hy
  have hc:=fun (Q:AV->St->Prop) s (k:Q (.bool (GG y)) s)=>ESc.fam (e:=e) (k:=Q) (s:=s) grt4F h68 y hy.a rfl k
  have hst:Ef D (i+1)=Ef D i+dSz x:=by
   show Ef D i+(D[i]?.map dSz).getD 0=_
   rw [hx];rfl
  have ht:¬(¬Fv x∧Ef D (i+1)≤60000)->∀ s,K (.bool true) s:=fun h=>t fun q=>h (q.2 i hlt.1 x hx)
  have hs:(¬Fv x∧Ef D (i+1)≤60000)->Ef D (i+1)≤60000∧∀ j<i+1,∀ d,D[j]?=some d->¬Fv d∧Ef D (j+1)≤60000:=fun h=>⟨h.2,AZ hI fun g hg=>by rw [hx] at hg;cases hg;exact h⟩
  obtain ⟨bs,ws,dd⟩:=x
  obtain ⟨bv,wv,hcl,h1,h2⟩:=GI hxr
  rw [hcl] at hd
  have hyv:y.v=.agg [bv,wv,.bool dd]:=by unfold DK.v;rw [hcl]
  replace hc:∀ (Q:AV->St->Prop) s,Q (.bool (GG y)) s->ESc e 68 [.agg [bv,wv,.bool dd]] s Q:=fun Q s k=>by have:=hc Q s k;rw [← hyv];exact this
  obtain ⟨xs1,k1,l1,n1⟩:=h1.nth
  obtain ⟨xs2,k2,l2,n2⟩:=h2.nth
  cases hb:GG y
  ·have hng:¬Fv (bs,ws,dd):=by rw [← hg,hb];simp
   obtain ⟨-,sm1,sm2,sm3⟩:=Wv hng
   dsimp only at sm1 sm2 sm3
   rw [hb] at hc
   repeat' (first|((first|refine Ew rfl hs' rfl hlt.1 hd ?_|refine A8 (cs:=[bv,wv,.bool dd]) rfl ?_|refine hc _ _ ?_);conv=>whnf)|refine Aa ?_ ?_|(intro _;first|omega|conv=>whnf))
   refine Aw hE bs.length (fun k=>[(0,v),(3,.int .i64 ((Ef D i+Bc (Df bs k):Nat):Int)),(4,.int .i64 (i:Int)),(5,.int .i64 (k:Int))]) (fun _=>[]) (fun _=>True) trivial (Abs.tells (rs:=[]) .a) ?_
   intro k hk _
   conv=>whnf
   have hk1:=(sm1 k).1
   by_cases hkt:k<bs.length
   ·obtain ⟨b,_,r2,hbk,⟨u,rfl,hu⟩,hd2⟩:=n1 k hkt
    obtain ⟨us,hus,-⟩:=hu.nth
    have hsc:=Vx hbk
    have hbl:=sm2 b (Zp5 hbk)
    rw [Nat.min_eq_left (by omega)] at hsc
    repeat' (first|((first|refine Ew rfl hs' rfl hlt.1 hd ?_|refine Ar k1 hkt hd2 ?_|refine As ?_|refine Am k1 ?_|refine Am hus ?_|refine Ac ?_|refine ⟨rfl,?_⟩);conv=>whnf)|refine Aa ?_ ?_|(intro _;first|omega|conv=>whnf))
    exact ⟨hkt,trivial,Abs.tells (rs:=[]) ⟨by decide,⟨t9,⟨rfl,by rw [hsc,← Zrg];rfl⟩,r9,r9,trivial⟩,trivial⟩⟩
   ·repeat' (first|((first|refine Ew rfl hs' rfl hlt.1 hd ?_|refine As ?_|refine Am k1 ?_);conv=>whnf)|refine Aa ?_ ?_|(intro _;first|omega|conv=>whnf))
    have hke:k=bs.length:=by omega
    rw [hke]
    refine Aw hE ws.length (fun k=>[(0,v),(3,.int .i64 ((Ef D i+Bc (Df bs bs.length)+Bc (FL ws k):Nat):Int)),(4,.int .i64 (i:Int)),(6,.int .i64 (k:Int))]) (fun _=>[]) (fun _=>True) trivial (Abs.tells (rs:=[]) .a) ?_
    intro m hm _
    conv=>whnf
    have hk2:=(sm1 m).2
    have hk3:=(sm1 bs.length).1
    by_cases hmt:m<ws.length
    ·obtain ⟨⟨wa,wb⟩,_,r2,hwk,⟨_,_,rfl,⟨rfl,-⟩,u,rfl,hu⟩,hd2⟩:=n2 m hmt
     have hu:Ls Ce.u8 wb u:=hu
     have hd2:xs2.drop (m*2)=[.int .i64 wa,u]++r2:=hd2
     obtain ⟨us,hus,-⟩:=hu.nth
     have hsc:=Zg8 hwk
     have hwl:=sm3 _ (Zp5 hwk)
     rw [Nat.min_eq_left (by omega)] at hsc
     dsimp only at hsc hwl
     repeat' (first|((first|refine Ew rfl hs' rfl hlt.1 hd ?_|refine Ar k2 hmt hd2 ?_|refine As ?_|refine Am k2 ?_|refine Am hus ?_|refine Ac ?_|refine ⟨rfl,?_⟩);conv=>whnf)|refine Aa ?_ ?_|(intro _;first|omega|conv=>whnf))
     exact ⟨hmt,trivial,Abs.tells (rs:=[]) ⟨by decide,⟨t9,⟨rfl,by rw [hsc,← Zrg];rfl⟩,r9,r9,trivial⟩,trivial⟩⟩
    ·have hme:m=ws.length:=by omega
     have hst':Ef D i+Bc (Df bs bs.length)+Bc (FL ws m)=Ef D (i+1):=by rw [hst,hme,Zrg];rfl
     rw [hst']
     have hk4:Ef D (i+1)≤180000:=by omega
     repeat' (first|((first|refine Ew rfl hs' rfl hlt.1 hd ?_|refine As ?_|refine Am k2 ?_|refine Ac ?_|refine ⟨rfl,?_⟩);conv=>whnf)|refine Aa ?_ ?_|refine Ax ?_ ?_|(intro _;first|omega|conv=>whnf))
     ·exact ht (fun q=>by omega) _
     ·exact ⟨by omega,hs ⟨hng,by omega⟩,Abs.tells (rs:=[]) .a⟩
  ·have hgg:Fv (bs,ws,dd):=by rw [← hg,hb]
   rw [hb] at hc
   repeat' (first|((first|refine Ew rfl hs' rfl hlt.1 hd ?_|refine A8 (cs:=[bv,wv,.bool dd]) rfl ?_|refine hc _ _ ?_);conv=>whnf)|refine Aa ?_ ?_|(intro _;first|omega|conv=>whnf))
   exact ht (fun q=>q.1 hgg) _
 ·repeat' (first|(refine AD rfl hs' ?_;conv=>whnf)|refine Aa ?_ ?_|refine Ax ?_ ?_|(intro _;first|omega|conv=>whnf))
  all_goals first
   | exact t (fun q=>by have:=q.1;omega) _
   | exact f ⟨by omega,fun j hj=>hI j (by omega)⟩ _
def Pd (d:Dv) (D:List Dk):Prop:=¬Tz d.2.2.2.1∧d.2.2.2.2.1.2.2.2.2.length≤600∧Zi d.2.2.2.2.2.1∧Zj D
noncomputable def g25F:Fn (Dv×List Dk×Unit):=bF (.g dvC (.v dkC.sl .nil)) (fun _=>True) fun x=>¬Pd x.1 x.2.1
theorem Zi9 (hE:EM P e) (h26:Con e 26 g19F.O) (h27:Con e 27 g14F.O) (h28:Con e 28 g24F.O) (h29:Con e 29 g05F.O):OvOk P 7 g25F.O:=by
 refine Bv hE g7 ?_
 rintro ⟨⟨c,bk,⟨ev,lo,sp,po,dn,nl,br⟩,hs,⟨ag,sq,tl,us,L⟩,fs,nx,so⟩,D,_⟩ _ ⟨_,_,rfl,hd,v,_,rfl,⟨_,e0,hD⟩,rfl⟩-K t f
 cases e0
 obtain ⟨hv,lv,fv,rfl,⟨ho,o1,o2,o3,o4,o5,o6,o7,o8,oN⟩,hH,hL,hF⟩:=B1 hd
 have hc1:=fun (Q:AV->St->Prop) s a b=>@bF.u _ _ _ _ e 26 s Q [hv] h26 (hs,()) ⟨_,_,rfl,⟨_,rfl,hH⟩,rfl⟩ trivial a b
 have hc2:=fun (Q:AV->St->Prop) s a b=>@bF.u _ _ _ _ e 27 s Q _ h27 (_,()) ⟨_,_,rfl,Yw o5 o6 o7 o8 hL,rfl⟩ trivial a b
 have hc3:=fun (Q:AV->St->Prop) s a b=>@bF.u _ _ _ _ e 28 s Q [fv] h28 (fs,()) ⟨_,_,rfl,⟨_,rfl,hF⟩,rfl⟩ trivial a b
 have hc4:=fun (Q:AV->St->Prop) s a b=>@bF.u _ _ _ _ e 29 s Q [v] h29 (D,()) ⟨_,_,rfl,⟨_,rfl,hD⟩,rfl⟩ trivial a b
 unfold Pd at t f
 dsimp only at t f hc1 hc2 hc3 hc4
 conv=>whnf
 repeat' (first|(refine hc1 _ _ (fun q1=>?_) (fun q1=>?_) <;> conv=>whnf)|(refine hc2 _ _ (fun q2=>?_) (fun q2=>?_) <;> conv=>whnf)|(refine hc3 _ _ (fun q3=>?_) (fun q3=>?_) <;> conv=>whnf)|(refine hc4 _ _ (fun q4=>?_) (fun q4=>?_) <;> conv=>whnf)|fail)
 ·exact t (fun q=>q.1 q1) _
 ·exact t (fun q=>by omega) _
 ·exact t (fun q=>q3 q.2.2.1) _
 ·exact t (fun q=>q4 q.2.2.2) _
 ·exact f (not_not_intro ⟨q1,by omega,Classical.not_not.1 q3,Classical.not_not.1 q4⟩) _
end Go.AM
