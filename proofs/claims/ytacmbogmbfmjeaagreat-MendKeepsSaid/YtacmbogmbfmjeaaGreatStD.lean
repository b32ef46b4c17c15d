/-
 Functions of the program as the abstract machine reads them, and what is stated of them, checked by the kernel. No conditions.
-/
import Derived.Test.YtacmbogmbfmjeaaGreatStC
import Derived.Test.YtacmbogmbfmjeaaGreatStA
import Derived.Test.YtacmbogmbfmjeaaGreatStB
import Derived.Test.YtacmbogmbfmjeaaGreatAM5
set_option linter.unusedVariables false
set_option linter.unusedSimpArgs false
set_option linter.unnecessarySimpa false
set_option maxRecDepth 100000
namespace Go.AM
attribute [local irreducible] W
open X
def CT (bl:List (List Nat)) (n:Nat):List Nat:=(bl.map List.length).take n
variable {i:Nat}{b:List Nat}
theorem UA {bl:List (List Nat)}(h:bl[i]?=some b):AU (CT bl (i+1))=AU (CT bl i)+(8+min b.length 100000):=by
 unfold CT
 rw [← Ly,List.take_add_one,Zq8,h];rfl
def Pe:Hd→Prop
 | (_,bl,di,_,_,_)=>60<bl.length∨60<di.length∨10000<AU (CT bl 100)
noncomputable def g16F:Fn (Hd×Unit):=bF (.g hdC .nil) (fun _=>True) fun x=>Pe x.1
variable {e:Env}
theorem Zh1 (hE:EM P e):OvOk P 67 g16F.O:=by
 refine Bo hE g67 ?_
 rintro ⟨⟨st,bl,di,ph,de,sq⟩,_⟩ _ ⟨_,_,rfl,hh,rfl⟩-K t f
 obtain ⟨bv,dv,rfl,h1,h2,h3,h4,h5⟩:=Cn hh
 obtain ⟨bs,hs,hl,hn⟩:=h2.nth
 obtain ⟨ds,hs',hl',-⟩:=h3.nth
 have hrow:=hdC.hf hh
 unfold Pe at t f
 dsimp only at t f
 conv=>whnf
 refine Ax hE (min bl.length 100) (fun i=>[(1,.ptr 0 0),(3,.int .i64 ((AU (CT bl i):Nat):Int)),(4,.int .i64 (i:Int))]) (fun _=>[.row 55 [.int .i64 st,bv,dv,.int .u8 (ph:Int),.bool de,.int .u32 sq]]) (fun _=>True) trivial (Abs.tells (rs:=[0]) .a) ?_
 intro i hi _
 have hg:=LM (CT bl i)
 have hg2:(CT bl i).length≤100:=by unfold CT;rw [Zqz];omega
 conv=>whnf
 refine Ai hs ?_;conv=>whnf
 by_cases hlt:i<bl.length∧i<100
 ·obtain ⟨b,_,l,hb,⟨u,rfl,hu⟩,hd⟩:=hn i hlt.1
  obtain ⟨us,hus,-⟩:=hu.nth
  have hsc:=UA hb
  repeat' (first|(refine EPrim.min2 rfl ?_;rw [show min (b.length:Int) 100000=((min b.length 100000:Nat):Int) by omega];conv=>whnf)|((first|refine El rfl hs rfl hlt.1 hd ?_|refine Ap ?_|refine Ai hus ?_|refine v7 ?_|refine ⟨rfl,?_⟩);conv=>whnf)|refine v1 ?_ ?_|(intro _;first|omega|conv=>whnf))
  exact ⟨by omega,trivial,Abs.tells (rs:=[0]) ⟨by decide,⟨r9,⟨rfl,by rw [hsc];rfl⟩,r9,trivial⟩,⟨o9,trivial⟩⟩⟩
 ·have he:CT bl i=CT bl 100:=by
   unfold CT
   rcases (show i=100∨bl.length≤i by omega) with rfl|h
   ·rfl
   ·rw [Zqi (by rw [Zqg];omega),Zqi (by rw [Zqg];omega)]
  rw [he] at hg ⊢
  repeat' (first|((first|refine Ai hs ?_|refine AA rfl hs' ?_);conv=>whnf)|refine v1 ?_ ?_|refine v3 ?_ ?_|(intro _;first|omega|conv=>whnf))
  all_goals first
   | exact t (by omega) _
   | exact f (by omega) _
def S9 (hs:List Hd):Prop:=(∃ i<20,∃ h,hs[i]?=some h∧Pe h)∨20<hs.length
noncomputable def g19F:Fn (List Hd×Unit):=bF (.v hdC.sl .nil) (fun _=>True) fun x=>S9 x.1
theorem Zh0 (hE:EM P e) (h67:Con e 67 g16F.O):OvOk P 26 g19F.O:=by
 refine Bo hE g26 ?_
 rintro ⟨hs,_⟩ _ ⟨v,_,rfl,⟨_,e0,hh⟩,rfl⟩-K t f
 cases e0
 obtain ⟨cs,hs',hl,hn⟩:=hh.nth
 have hvf:=hh.hf
 unfold S9 at t f
 dsimp only at t f hl hn hs'
 have hc:=fun (x:Hd) l (hx:hdC.r x l) (Q:AV→St→Prop) s a b=>@bF.u _ _ _ _ e 67 s Q _ h67 (x,()) ⟨_,_,rfl,hx,rfl⟩ trivial a b
 conv=>whnf
 refine Ax hE (min hs.length 20) (fun i=>[(0,v),(3,.int .i64 (i:Int))]) (fun _=>[]) (fun i=>∀ j<i,∀ h,hs[j]?=some h→¬Pe h) (fun k h=>by omega) (Abs.tells (rs:=[]) .a) ?_
 intro i hi hI
 conv=>whnf
 refine AA rfl hs' ?_;conv=>whnf
 by_cases hlt:i<hs.length∧i<20
 ·obtain ⟨x,l,r,hx,hxr,hd⟩:=hn i hlt.1
  have hc:=hc x l hxr
  obtain ⟨st,bl,di,ph,de,sq⟩:=x
  obtain ⟨bv,dv,rfl,-⟩:=Cn hxr
  repeat' (first|(refine hc _ _ (fun hq=>?_) (fun hq=>?_) <;> conv=>whnf)|((first|refine El rfl hs' rfl hlt.1 hd ?_|refine A7 (cs:=[.int .i64 st,bv,dv,.int .u8 (ph:Int),.bool de,.int .u32 sq]) rfl ?_|refine v7 ?_|refine ⟨rfl,?_⟩);conv=>whnf)|refine v1 ?_ ?_|(intro _;first|omega|conv=>whnf))
  ·exact t (.inl ⟨i,hlt.2,_,hx,hq⟩) _
  ·exact ⟨by omega,AR hI fun g hg=>by rw [hx] at hg;cases hg;exact hq,Abs.tells (rs:=[]) .a⟩
 ·repeat' (first|(refine AA rfl hs' ?_;conv=>whnf)|refine v1 ?_ ?_|refine v3 ?_ ?_|(intro _;first|omega|conv=>whnf))
  all_goals first
   | exact t (.inr (by omega)) _
   | (refine f (fun q=>?_) _;rcases q with ⟨j,hj,h,hh,hg⟩|q;exact hI j (by have:=(Zqa.1 hh).1;omega) h hh hg;omega)
noncomputable def g14F:Fn (Lg×Unit):=bF (.g lgC .nil) (fun _=>True) fun x=>600<x.1.2.2.2.2.length
theorem Zh2 (hE:EM P e):OvOk P 27 g14F.O:=by
 refine Bo hE g27 ?_
 rintro ⟨⟨ag,sq,tl,us,L⟩,_⟩ _ ⟨_,_,rfl,hg,rfl⟩-K t f
 obtain ⟨v,rfl,o1,o2,o3,o4,hL⟩:=Mt hg
 obtain ⟨cs,hs',hl,-⟩:=hL.lv
 dsimp only at t f
 conv=>whnf
 repeat' (first|(refine AA rfl hs' ?_;conv=>whnf)|refine v3 ?_ ?_|(intro _;first|omega|conv=>whnf))
 ·exact t (by omega) _
 ·exact f (by omega) _
def Is:Fl→Prop
 | (_,(_,_,_,d),st,sq,da)=>d.length≤5000∧st.length≤100∧sq.length≤100∧da.length≤100∧∀ k<da.length,∀ b,da[k]?=some b→b.length≤1000
def Yv (fs:List Fl):Prop:=fs.length≤50∧∀ i<fs.length,∀ f,fs[i]?=some f→Is f
noncomputable def g24F:Fn (List Fl×Unit):=bF (.v ftC.sl .nil) (fun _=>True) fun x=>¬Yv x.1
theorem Zhz (hE:EM P e):OvOk P 28 g24F.O:=by
 refine Bo hE g28 ?_
 rintro ⟨fs,_⟩ _ ⟨v,_,rfl,⟨_,e0,hh⟩,rfl⟩-K t f
 cases e0
 obtain ⟨cs,hs',hl,hn⟩:=hh.nth
 have hvf:=hh.hf
 dsimp only at t f hl hn hs'
 have f:=fun h=>f (not_not_intro h)
 conv=>whnf
 repeat' (first|(refine AA rfl hs' ?_;conv=>whnf)|refine v3 ?_ ?_|(intro _;first|omega|conv=>whnf))
 ·exact t (fun q=>by have:=q.1;omega) _
 refine Ax hE fs.length (fun i=>[(0,v),(3,.int .i64 (i:Int))]) (fun _=>[]) (fun i=>∀ j<i,∀ f,fs[j]?=some f→Is f) (fun k h=>by omega) (Abs.tells (rs:=[]) .a) ?_
 intro i hi hI
 conv=>whnf
 refine AA rfl hs' ?_;conv=>whnf
 by_cases hlt:i<fs.length
 ·obtain ⟨⟨n,⟨k,a,m,d⟩,st,sq,da⟩,_,r,hx,hxr,hd⟩:=hn i hlt
  obtain ⟨dv,tv,qv,av,rfl,o1,o2,o3,o4,h1,h2,h3,h4⟩:=De hxr
  obtain ⟨xs1,k1,l1,-⟩:=h1.nth
  obtain ⟨xs2,k2,l2,-⟩:=h2.nth
  obtain ⟨xs3,k3,l3,-⟩:=h3.nth
  obtain ⟨xs4,k4,l4,n4⟩:=h4.nth
  have ht:¬Is (n,(k,a,m,d),st,sq,da)→∀ s,K (.bool true) s:=fun h=>t fun q=>h (q.2 i hlt _ hx)
  have hs:Is (n,(k,a,m,d),st,sq,da)→∀ j<i+1,∀ f,fs[j]?=some f→Is f:=fun h=>AR hI fun g hg=>by rw [hx] at hg;cases hg;exact h
  unfold Is at ht
  have hs:(d.length≤5000∧st.length≤100∧sq.length≤100∧da.length≤100∧∀ k<da.length,∀ b,da[k]?=some b→b.length≤1000)→∀ j<i+1,∀ f,fs[j]?=some f→Is f:=hs
  repeat' (first|((first|refine Am hs' hlt hd ?_|refine Ap ?_|refine Ai k1 ?_|refine Ai k2 ?_|refine Ai k3 ?_|refine Ai k4 ?_);conv=>whnf)|refine v1 ?_ ?_|refine v3 ?_ ?_|(intro _;first|omega|conv=>whnf))
  all_goals try exact ht (fun q=>by omega) _
  refine Ax hE da.length (fun k=>[(0,v),(3,.int .i64 (i:Int)),(4,.int .i64 (k:Int))]) (fun _=>[]) (fun i=>∀ k<i,∀ b,da[k]?=some b→b.length≤1000) (fun k h=>by omega) (Abs.tells (rs:=[]) .a) ?_
  intro j hj hJ
  conv=>whnf
  by_cases hjt:j<da.length
  ·obtain ⟨b,_,r',hb,⟨u,rfl,hu⟩,hd2⟩:=n4 j hjt
   obtain ⟨us,hus,-⟩:=hu.nth
   repeat' (first|((first|refine Am hs' hlt hd ?_|refine Am k4 hjt hd2 ?_|refine Ap ?_|refine Ai k4 ?_|refine Ai hus ?_|refine v7 ?_|refine ⟨rfl,?_⟩);conv=>whnf)|refine v1 ?_ ?_|refine v3 ?_ ?_|(intro _;first|omega|conv=>whnf))
   ·exact ht (fun q=>by have:=q.2.2.2.2 j hjt b hb;omega) _
   ·exact ⟨hjt,AR hJ fun y hy=>by rw [hb] at hy;cases hy;omega,Abs.tells (rs:=[]) .a⟩
  ·repeat' (first|((first|refine Am hs' hlt hd ?_|refine Ap ?_|refine Ai k4 ?_|refine v7 ?_|refine ⟨rfl,?_⟩);conv=>whnf)|refine v1 ?_ ?_|(intro _;first|omega|conv=>whnf))
   exact ⟨hlt,hs ⟨by omega,by omega,by omega,by omega,fun k hk=>hJ k (by omega)⟩,Abs.tells (rs:=[]) .a⟩
 ·repeat' (first|(refine AA rfl hs' ?_;conv=>whnf)|refine v1 ?_ ?_|(intro _;first|omega|conv=>whnf))
  exact f ⟨by omega,fun j hj=>hI j (by omega)⟩ _
theorem VK:∀ {ws:List (Int×List Nat)}{ls:List (List AV)},All2 wrC.r ws ls→∃ W:List WR,(∀ w ∈ W,w.any)∧ls.flatten=Ad W∧W.map (fun w=>(w.at_,w.b))=ws
 | [],_,h=>by cases h;exact ⟨[],by simp,rfl,rfl⟩
 | x::ws,_,h=>by
  cases h with
  | cons h1 h2=>
   obtain ⟨W,a,b,c⟩:=VK h2
   obtain ⟨x1,x2⟩:=x
   obtain ⟨_,_,rfl,⟨rfl,g1⟩,u,rfl,g2⟩:=h1
   refine ⟨⟨x1,u,x2⟩::W,fun w hw=>?_,by rw [List.flatten_cons,b];rfl,by rw [Zrp,c]⟩
   rcases Zrj.1 hw with rfl|hw
   ·exact ⟨CA g1,g2.b⟩
   ·exact a w hw
structure DKof (x:Dk) (y:DK):Prop where
 a:y.any
 b:y.bs=x.1
 w:y.ws.map (fun w=>(w.at_,w.b))=x.2.1
 d:y.dead=x.2.2
variable {x:Dk}
theorem Jl {l:List AV}(h:dkC.r x l):∃ y:DK,DKof x y∧l=y.c:=by
 obtain ⟨bs,ws,dd⟩:=x
 obtain ⟨bv,wv,rfl,h1,h2⟩:=Hf h
 obtain ⟨us,s1,a1⟩:=h1.bl
 obtain ⟨ls,a2,s2,-⟩:=h2
 obtain ⟨W,hW,e1,e2⟩:=VK a2
 have hwl:W.length=ws.length:=by rw [← e2,Zqg]
 have s2:Sl 2 ws.length ls.flatten wv:=s2
 exact ⟨⟨bv,us,bs,wv,W,dd⟩,⟨⟨s1,a1,by rw [hwl,← e1];exact s2,hW⟩,rfl,e2,rfl⟩,rfl⟩
def F3 (ws:List (Int×List Nat)) (n:Nat):List Nat:=(ws.map fun w=>w.2.length).take n
theorem Zf2 {ws:List (Int×List Nat)}{w:Int×List Nat}(h:ws[i]?=some w):AU (F3 ws (i+1))=AU (F3 ws i)+(8+min w.2.length 100000):=by
 unfold F3
 rw [← Ly,List.take_add_one,Zq8,h];rfl
def Fd (x:Dk):Prop:=300<x.1.length∨1100<x.2.1.length∨60000<AU (CT x.1 400)+AU (F3 x.2.1 1200)
variable {y:DK}
theorem Zo8 (h:DKof x y):(Gw y=true)=Fd x:=by
 obtain ⟨ha,hb,hw,-⟩:=h
 have h1:y.us.length=x.1.length:=by rw [ha.bs.length,hb]
 have h2:y.ws.length=x.2.1.length:=by rw [← hw,Zqg]
 have h3:y.bl=x.1.map List.length:=by unfold DK.bl;rw [hb]
 have h4:y.wl=x.2.1.map fun w=>w.2.length:=by unfold DK.wl;rw [← hw,List.map_map];rfl
 unfold Gw Fd CT F3
 rw [h1,h2,h3,h4]
 simp only [Zry,Zq6]
theorem Vz (h:¬Fd x):(x.1.length≤300∧x.2.1.length≤1100)∧(∀ n,AU (CT x.1 n)≤60000∧AU (F3 x.2.1 n)≤60000)∧(∀ b ∈ x.1,b.length≤60000)∧∀ w ∈ x.2.1,w.2.length≤60000:=by
 unfold Fd at h
 have mono:∀ (l:List Nat) n,AU (l.take n)≤AU l:=fun l n=>by
  conv=>rhs;rw [← List.take_append_drop n l]
  unfold AU;rw [Zqy,List.sum_append];omega
 have e1:CT x.1 400=x.1.map List.length:=by unfold CT;rw [Zqi (by rw [Zqg];omega)]
 have e2:F3 x.2.1 1200=x.2.1.map fun w=>w.2.length:=by unfold F3;rw [Zqi (by rw [Zqg];omega)]
 rw [e1,e2] at h
 refine ⟨by omega,fun n=>⟨by have:=mono (x.1.map List.length) n;unfold CT;omega,by have:=mono (x.2.1.map fun w=>w.2.length) n;unfold F3;omega⟩,fun b hb=>?_,fun w hw=>?_⟩
 ·have:=LA (l:=x.1.map List.length) (n:=b.length) (List.mem_map_of_mem hb);omega
 ·have:=LA (l:=x.2.1.map fun w=>w.2.length) (n:=w.2.length) (Zq9.2 ⟨w,hw,rfl⟩);omega
def dSz (x:Dk):Nat:=AU (CT x.1 x.1.length)+AU (F3 x.2.1 x.2.1.length)
def DP (D:List Dk):Nat→Nat
 | 0=>0
 | i+1=>DP D i+(D[i]?.map dSz).getD 0
def Yw (D:List Dk):Prop:=D.length≤30∧∀ i<D.length,∀ d,D[i]?=some d→¬Fd d∧DP D (i+1)≤60000
noncomputable def g05F:Fn (List Dk×Unit):=bF (.v dkC.sl .nil) (fun _=>True) fun x=>¬Yw x.1
set_option maxHeartbeats 1000000 in
theorem Zh3 (hE:EM P e) (h68:Con e 68 grt4F.O):OvOk P 29 g05F.O:=by
 refine Bo hE g29 ?_
 rintro ⟨D,_⟩ _ ⟨v,_,rfl,⟨_,e0,hh⟩,rfl⟩-K t f
 cases e0
 obtain ⟨cs,hs',hl,hn⟩:=hh.nth
 have hvf:=hh.hf
 dsimp only at t f hl hn hs'
 have f:=fun h=>f (not_not_intro h)
 conv=>whnf
 refine Ax hE (min D.length 30) (fun i=>[(0,v),(3,.int .i64 ((DP D i:Nat):Int)),(4,.int .i64 (i:Int))]) (fun _=>[]) (fun i=>DP D i≤60000∧∀ j<i,∀ d,D[j]?=some d→¬Fd d∧DP D (j+1)≤60000) ⟨Zqs _,fun k h=>by omega⟩ (Abs.tells (rs:=[]) .a) ?_
 rintro i hi ⟨hT,hI⟩
 conv=>whnf
 refine AA rfl hs' ?_;conv=>whnf
 by_cases hlt:i<D.length∧i<30
 ·obtain ⟨x,c,r,hx,hxr,hd⟩:=hn i hlt.1
  obtain ⟨y,hy,rfl⟩:=Jl hxr
  have hg:=Zo8 hy
  have hc:=fun (Q:AV→St→Prop) s (k:Q (.bool (Gw y)) s)=>ESc.fam (e:=e) (k:=Q) (s:=s) grt4F h68 y hy.a rfl k
  have hst:DP D (i+1)=DP D i+dSz x:=by
   show DP D i+(D[i]?.map dSz).getD 0=_
   rw [hx];rfl
  have ht:¬(¬Fd x∧DP D (i+1)≤60000)→∀ s,K (.bool true) s:=fun h=>t fun q=>h (q.2 i hlt.1 x hx)
  have hs:(¬Fd x∧DP D (i+1)≤60000)→DP D (i+1)≤60000∧∀ j<i+1,∀ d,D[j]?=some d→¬Fd d∧DP D (j+1)≤60000:=fun h=>⟨h.2,AR hI fun g hg=>by rw [hx] at hg;cases hg;exact h⟩
  obtain ⟨bs,ws,dd⟩:=x
  obtain ⟨bv,wv,hcl,h1,h2⟩:=Hf hxr
  rw [hcl] at hd
  have hyv:y.v=.agg [bv,wv,.bool dd]:=by unfold DK.v;rw [hcl]
  replace hc:∀ (Q:AV→St→Prop) s,Q (.bool (Gw y)) s→ESc e 68 [.agg [bv,wv,.bool dd]] s Q:=fun Q s k=>by have:=hc Q s k;rw [← hyv];exact this
  obtain ⟨xs1,k1,l1,n1⟩:=h1.nth
  obtain ⟨xs2,k2,l2,n2⟩:=h2.nth
  cases hb:Gw y
  ·have hng:¬Fd (bs,ws,dd):=by rw [← hg,hb];simp
   obtain ⟨-,sm1,sm2,sm3⟩:=Vz hng
   dsimp only at sm1 sm2 sm3
   rw [hb] at hc
   repeat' (first|((first|refine El rfl hs' rfl hlt.1 hd ?_|refine A7 (cs:=[bv,wv,.bool dd]) rfl ?_|refine hc _ _ ?_);conv=>whnf)|refine v1 ?_ ?_|(intro _;first|omega|conv=>whnf))
   refine Ax hE bs.length (fun k=>[(0,v),(3,.int .i64 ((DP D i+AU (CT bs k):Nat):Int)),(4,.int .i64 (i:Int)),(5,.int .i64 (k:Int))]) (fun _=>[]) (fun _=>True) trivial (Abs.tells (rs:=[]) .a) ?_
   intro k hk _
   conv=>whnf
   have hk1:=(sm1 k).1
   by_cases hkt:k<bs.length
   ·obtain ⟨b,_,r2,hbk,⟨u,rfl,hu⟩,hd2⟩:=n1 k hkt
    obtain ⟨us,hus,-⟩:=hu.nth
    have hsc:=UA hbk
    have hbl:=sm2 b (Zqv hbk)
    rw [Nat.min_eq_left (by omega)] at hsc
    repeat' (first|((first|refine El rfl hs' rfl hlt.1 hd ?_|refine Am k1 hkt hd2 ?_|refine Ap ?_|refine Ai k1 ?_|refine Ai hus ?_|refine v7 ?_|refine ⟨rfl,?_⟩);conv=>whnf)|refine v1 ?_ ?_|(intro _;first|omega|conv=>whnf))
    exact ⟨hkt,trivial,Abs.tells (rs:=[]) ⟨by decide,⟨t9,⟨rfl,by rw [hsc,← Zr6];rfl⟩,r9,r9,trivial⟩,trivial⟩⟩
   ·repeat' (first|((first|refine El rfl hs' rfl hlt.1 hd ?_|refine Ap ?_|refine Ai k1 ?_);conv=>whnf)|refine v1 ?_ ?_|(intro _;first|omega|conv=>whnf))
    have hke:k=bs.length:=by omega
    rw [hke]
    refine Ax hE ws.length (fun k=>[(0,v),(3,.int .i64 ((DP D i+AU (CT bs bs.length)+AU (F3 ws k):Nat):Int)),(4,.int .i64 (i:Int)),(6,.int .i64 (k:Int))]) (fun _=>[]) (fun _=>True) trivial (Abs.tells (rs:=[]) .a) ?_
    intro m hm _
    conv=>whnf
    have hk2:=(sm1 m).2
    have hk3:=(sm1 bs.length).1
    by_cases hmt:m<ws.length
    ·obtain ⟨⟨wa,wb⟩,_,r2,hwk,⟨_,_,rfl,⟨rfl,-⟩,u,rfl,hu⟩,hd2⟩:=n2 m hmt
     have hu:Ls Ce.u8 wb u:=hu
     have hd2:xs2.drop (m*2)=[.int .i64 wa,u]++r2:=hd2
     obtain ⟨us,hus,-⟩:=hu.nth
     have hsc:=Zf2 hwk
     have hwl:=sm3 _ (Zqv hwk)
     rw [Nat.min_eq_left (by omega)] at hsc
     dsimp only at hsc hwl
     repeat' (first|((first|refine El rfl hs' rfl hlt.1 hd ?_|refine Am k2 hmt hd2 ?_|refine Ap ?_|refine Ai k2 ?_|refine Ai hus ?_|refine v7 ?_|refine ⟨rfl,?_⟩);conv=>whnf)|refine v1 ?_ ?_|(intro _;first|omega|conv=>whnf))
     exact ⟨hmt,trivial,Abs.tells (rs:=[]) ⟨by decide,⟨t9,⟨rfl,by rw [hsc,← Zr6];rfl⟩,r9,r9,trivial⟩,trivial⟩⟩
    ·have hme:m=ws.length:=by omega
     have hst':DP D i+AU (CT bs bs.length)+AU (F3 ws m)=DP D (i+1):=by rw [hst,hme,Zr6];rfl
     rw [hst']
     have hk4:DP D (i+1)≤180000:=by omega
     repeat' (first|((first|refine El rfl hs' rfl hlt.1 hd ?_|refine Ap ?_|refine Ai k2 ?_|refine v7 ?_|refine ⟨rfl,?_⟩);conv=>whnf)|refine v1 ?_ ?_|refine v3 ?_ ?_|(intro _;first|omega|conv=>whnf))
     ·exact ht (fun q=>by omega) _
     ·exact ⟨by omega,hs ⟨hng,by omega⟩,Abs.tells (rs:=[]) .a⟩
  ·have hgg:Fd (bs,ws,dd):=by rw [← hg,hb]
   rw [hb] at hc
   repeat' (first|((first|refine El rfl hs' rfl hlt.1 hd ?_|refine A7 (cs:=[bv,wv,.bool dd]) rfl ?_|refine hc _ _ ?_);conv=>whnf)|refine v1 ?_ ?_|(intro _;first|omega|conv=>whnf))
   exact ht (fun q=>q.1 hgg) _
 ·repeat' (first|(refine AA rfl hs' ?_;conv=>whnf)|refine v1 ?_ ?_|refine v3 ?_ ?_|(intro _;first|omega|conv=>whnf))
  all_goals first
   | exact t (fun q=>by have:=q.1;omega) _
   | exact f ⟨by omega,fun j hj=>hI j (by omega)⟩ _
def Md (d:Dv) (D:List Dk):Prop:=¬S9 d.2.2.2.1∧d.2.2.2.2.1.2.2.2.2.length≤600∧Yv d.2.2.2.2.2.1∧Yw D
noncomputable def g25F:Fn (Dv×List Dk×Unit):=bF (.g dvC (.v dkC.sl .nil)) (fun _=>True) fun x=>¬Md x.1 x.2.1
theorem Zhy (hE:EM P e) (h26:Con e 26 g19F.O) (h27:Con e 27 g14F.O) (h28:Con e 28 g24F.O) (h29:Con e 29 g05F.O):OvOk P 7 g25F.O:=by
 refine Bo hE g7 ?_
 rintro ⟨⟨c,bk,⟨ev,lo,sp,po,dn,nl,br⟩,hs,⟨ag,sq,tl,us,L⟩,fs,nx,so⟩,D,_⟩ _ ⟨_,_,rfl,hd,v,_,rfl,⟨_,e0,hD⟩,rfl⟩-K t f
 cases e0
 obtain ⟨hv,lv,fv,rfl,⟨ho,o1,o2,o3,o4,o5,o6,o7,o8,oN⟩,hH,hL,hF⟩:=Bl hd
 have hc1:=fun (Q:AV→St→Prop) s a b=>@bF.u _ _ _ _ e 26 s Q [hv] h26 (hs,()) ⟨_,_,rfl,⟨_,rfl,hH⟩,rfl⟩ trivial a b
 have hc2:=fun (Q:AV→St→Prop) s a b=>@bF.u _ _ _ _ e 27 s Q _ h27 (_,()) ⟨_,_,rfl,X2 o5 o6 o7 o8 hL,rfl⟩ trivial a b
 have hc3:=fun (Q:AV→St→Prop) s a b=>@bF.u _ _ _ _ e 28 s Q [fv] h28 (fs,()) ⟨_,_,rfl,⟨_,rfl,hF⟩,rfl⟩ trivial a b
 have hc4:=fun (Q:AV→St→Prop) s a b=>@bF.u _ _ _ _ e 29 s Q [v] h29 (D,()) ⟨_,_,rfl,⟨_,rfl,hD⟩,rfl⟩ trivial a b
 unfold Md at t f
 dsimp only at t f hc1 hc2 hc3 hc4
 conv=>whnf
 repeat' (first|(refine hc1 _ _ (fun q1=>?_) (fun q1=>?_) <;> conv=>whnf)|(refine hc2 _ _ (fun q2=>?_) (fun q2=>?_) <;> conv=>whnf)|(refine hc3 _ _ (fun q3=>?_) (fun q3=>?_) <;> conv=>whnf)|(refine hc4 _ _ (fun q4=>?_) (fun q4=>?_) <;> conv=>whnf)|fail)
 ·exact t (fun q=>q.1 q1) _
 ·exact t (fun q=>by omega) _
 ·exact t (fun q=>q3 q.2.2.1) _
 ·exact t (fun q=>q4 q.2.2.2) _
 ·exact f (not_not_intro ⟨q1,by omega,Classical.not_not.1 q3,Classical.not_not.1 q4⟩) _
def Cq (x:Dk):Prop:=x.1.length<1000000∧x.2.1.length<1000000∧(∀ b ∈ x.1,b.length<1000000)∧∀ w ∈ x.2.1,w.2.length<1000000
theorem Zkw (h:¬Fd x):Cq x:=by
 obtain ⟨⟨h1,h2⟩,-,h3,h4⟩:=Vz h
 exact ⟨by omega,by omega,fun b hb=>by have:=h3 b hb;omega,fun w hw=>by have:=h4 w hw;omega⟩
theorem LW (h:DKof x y) (hs:Cq x):y.ok:=by
 obtain ⟨h1,h2,h3,h4⟩:=hs
 refine ⟨h.a,?_,?_,?_,?_⟩
 ·rw [h.a.bs.length,h.b];exact h1
 ·rw [show y.ws.length=x.2.1.length by rw [← h.w,Zqg]];exact h2
 ·rw [h.b];exact h3
 ·intro w hw
  exact h4 (w.at_,w.b) (by rw [← h.w];exact Zq9.2 ⟨w,hw,rfl⟩)
def CZ:Dk→Prop
 | (bs,ws,dd)=>(1≤bs.length∧bs.length≤256∧ws.length≤1024)∧(∀ b ∈ bs,BB b)∧(∀ w ∈ ws,0≤w.1∧w.1<bs.length∧BB w.2)∧(dd=true→ws.length=0∧∀ b ∈ bs,b.length=0)
theorem odd_sized:AQ b.length=false↔BB b:=by
 unfold AQ BB
 simp only [Bool.and_eq_false_iff,Zrf,Decidable.not_not]
theorem Kn (h:DKof x y):(AP y=true)=CZ x:=by
 obtain ⟨ha,hb,hw,hd⟩:=h
 have h1:y.us.length=x.1.length:=by rw [ha.bs.length,hb]
 have h2:y.ws.length=x.2.1.length:=by rw [← hw,Zqg]
 obtain ⟨bs,ws,dd⟩:=x
 dsimp only at h1 h2 hb hw hd
 refine propext (dskB_iff.trans ?_)
 unfold CZ
 rw [h1,h2,hb,hd,← hw]
 have e1:(∀ b ∈ bs,AQ b.length=false)↔∀ b ∈ bs,BB b:=forall_congr' fun b=>forall_congr' fun _=>odd_sized
 have e2:(∀ w ∈ y.ws,Bm (bs.length:Int) w=false)↔∀ w ∈ y.ws.map (fun w:WR=>(w.at_,w.b)),0≤(w:Int×List Nat).1∧w.1<bs.length∧BB w.2:=by
  have key:∀ w:WR,Bm (bs.length:Int) w=false↔0≤w.at_∧w.at_<bs.length∧BB w.b:=fun w=>by
   unfold Bm
   simp only [Zru,Zrf,odd_sized]
   constructor
   ·rintro ⟨⟨a,b⟩,c⟩;exact ⟨by omega,by omega,c⟩
   ·rintro ⟨a,b,c⟩;exact ⟨⟨by omega,by omega⟩,c⟩
  refine ⟨fun h w hw=>?_,fun h w hw=>(key w).2 (h _ (Zq9.2 ⟨w,hw,rfl⟩))⟩
  obtain ⟨u,hu,rfl⟩:=Zq9.1 hw
  exact (key u).1 (h u hu)
 have e3:(∀ b ∈ bs,E9 b.length=false)↔∀ b ∈ bs,b.length=0:=by
  refine forall_congr' fun b=>forall_congr' fun _=>?_
  unfold E9;simp only [Zrf];omega
 dsimp only
 rw [e1,e2,e3,Zqg]
def CH (c:Cfg) (D:List Dk):Prop:=(D.length:Int)=c.members+1∧∀ i<D.length,∀ d,D[i]?=some d→(d.1.length:Int)=(if (i:Int)=c.members then c.log+1 else 1+Ar c)∧CZ d
noncomputable def m20F:Fn (Cfg×List Dk×Unit):=bF (.g cfgC (.v dkC.sl .nil)) (fun x=>x.1.may∧∀ d ∈ x.2.1,Cq d) fun x=>CH x.1 x.2.1
def Zn3:AC:=match a75 with|.mk c _=>c
def Zn2:AC:=match a76 with|.mk c _=>c
theorem Zhj (hE:EM P e) (h32:Inl e 32 Kr [.tmp 2]) (h75:Inl e 75 Zn3 [.tmp 2]) (h76:Inl e 76 Zn2 [.tmp 2]) (h77:Con e 77 dmayF.O):OvOk P 31 m20F.O:=by
 refine Bo hE g31 ?_
 rintro ⟨c,D,_⟩ _ ⟨_,_,rfl,⟨rfl,hc⟩,v,_,rfl,⟨_,e0,hD⟩,rfl⟩ ⟨hM,hG⟩ K t f
 cases e0
 obtain ⟨cs,hs',hl,hn⟩:=hD.nth
 have hvf:=hD.hf
 have hcf:hfs c.c=true:=rfl
 have hmm:=B4 hM
 have hlog:=GF hM
 unfold CH at t f
 dsimp only at t f hl hn hs' hM hG hlog hmm
 unfold Cfg.may at hM
 unfold Ar at *
 have hms:=DG (a:=c.chunk) (b:=c.rows) (by omega) (by omega)
 show VW P e 0 _ (Ah [.agg c.c,v] 0 .lf) St0 none [] _
 conv=>whnf
 repeat' (first|((first|refine AA rfl hs' ?_|refine v7 ?_);conv=>whnf)|refine v6 ?_ ?_|(intro _;first|omega|conv=>whnf))
 ·exact f (fun q=>by omega) _
 refine Ax hE D.length (fun i=>[(1,v),(2,.ptr 0 0),(5,.int .i64 (i:Int))]) (fun _=>[.row 24 c.c]) (fun i=>∀ j<i,∀ d,D[j]?=some d→(d.1.length:Int)=(if (j:Int)=c.members then c.log+1 else 1+c.chunk*c.rows)∧CZ d) (fun k h=>by omega) (Abs.tells (rs:=[0]) .a) ?_
 intro i hi hI
 conv=>whnf
 refine AA rfl hs' ?_;conv=>whnf
 by_cases hlt:i<D.length
 ·obtain ⟨x,cl,r,hx,hxr,hd⟩:=hn i hlt
  obtain ⟨y,hy,rfl⟩:=Jl hxr
  have hng:=hG x (Zqv hx)
  have hok:=LW hy hng
  have hdk:=Kn hy
  have hcl:=fun (Q:AV→St→Prop) s (k:Q (.bool (AP y)) s)=>ESc.fam (e:=e) (k:=Q) (s:=s) dmayF h77 y hok rfl k
  have hf:¬((x.1.length:Int)=(if (i:Int)=c.members then c.log+1 else 1+c.chunk*c.rows)∧CZ x)→∀ s,K (.bool false) s:=fun h=>f fun q=>h (q.2 i hlt x hx)
  have ht:((x.1.length:Int)=(if (i:Int)=c.members then c.log+1 else 1+c.chunk*c.rows)∧CZ x)→∀ j<i+1,∀ d,D[j]?=some d→(d.1.length:Int)=(if (j:Int)=c.members then c.log+1 else 1+c.chunk*c.rows)∧CZ d:=fun h=>AR hI fun g hg=>by rw [hx] at hg;cases hg;exact h
  rw [← hdk] at hf ht
  obtain ⟨bs,ws,dd⟩:=x
  obtain ⟨bv,wv,hcc,h1,h2⟩:=Hf hxr
  rw [hcc] at hd
  have hyv:y.v=.agg [bv,wv,.bool dd]:=by unfold DK.v;rw [hcc]
  replace hcl:∀ (Q:AV→St→Prop) s,Q (.bool (AP y)) s→ESc e 77 [.agg [bv,wv,.bool dd]] s Q:=fun Q s k=>by have:=hcl Q s k;rw [← hyv];exact this
  obtain ⟨xs,k1,l1,-⟩:=h1.nth
  dsimp only at hf ht
  cases hb:AP y <;> rw [hb] at hf ht hcl
  all_goals by_cases him:(i:Int)=c.members
  all_goals (first|rw [Zqd him] at hf ht|rw [Zqh him] at hf ht)
  all_goals repeat' (first|((first|refine Am hs' hlt hd ?_|refine A7 (cs:=[bv,wv,.bool dd]) rfl ?_|refine Ap ?_|refine hcl _ _ ?_|refine Ai k1 ?_|refine ESc.inl h32 ?_|refine ESc.inl h75 ?_|refine ESc.inl h76 ?_|refine Cl rfl rfl hms ?_|refine v7 ?_|refine An ?_|refine As ?_|refine ⟨rfl,?_⟩);conv=>whnf)|refine v1 ?_ ?_|refine v5 ?_ ?_|refine v6 ?_ ?_|(intro _;first|omega|conv=>whnf))
  all_goals first
   | exact hf (fun q=>by omega) _
   | exact hf (fun q=>Bool.false_ne_true q.2) _
   | exact ⟨hlt,ht ⟨by omega,rfl⟩,Abs.tells (rs:=[0]) .a⟩
 ·repeat' (first|refine v1 ?_ ?_|(intro _;first|omega|conv=>whnf))
  exact t ⟨by omega,fun j hj=>hI j (by omega)⟩ _
end Go.AM
namespace Go.AM
attribute [local irreducible] W
open X
section
variable {t:AT}{s:St}{k:AV→St→Prop}{x y:AO}
end
structure SX where
 s:Nat
 x:Nat
structure SX.ok (p:SX):Prop where
 s:p.s<4294967296
 x:p.x<256
structure UB.any (x:UB):Prop where
 b:BAt x.u x.b
 l:x.b.length<1000000
theorem UB.inja {x y:UB}(hx:BAt x.u x.b) (hy:BAt y.u y.b) (h:x.u=y.u):x=y:=by
 obtain ⟨u,b⟩:=x
 obtain ⟨u',b'⟩:=y
 dsimp only at hx hy h
 subst h
 rw [hx.inj hy]
structure SB where
 s:Nat
 x:UB
structure SB.ok (p:SB):Prop where
 s:p.s<4294967296
 x:p.x.any
end Go.AM
namespace Go.AM
attribute [local irreducible] W
open X
variable {u:AV}{b:List Nat}
theorem BAt.fz (h:BAt u b) (hb:b≠[]):∃ c x l,u=.fz b.length c (Ab b)∧Ab b=x::l:=by
 have h0:b.length≠0:=fun e=>hb (Zq7.1 e)
 obtain ⟨c,hc⟩:∃ c,u=.fz b.length c (Ab b):=by
  rcases h.1 with ⟨_,h,_⟩|⟨_,h,_⟩|⟨c,h,_⟩
  ·omega
  ·omega
  ·exact ⟨c,h⟩
 cases b with
 | nil=>exact absurd rfl hb
 | cons y l=>exact ⟨c,_,_,hc,rfl⟩
variable {es n:Nat}{l:List AV}
theorem If {c:Option Nat}(h:l.length=n*es) (s:St):CS es (.fz n c l) s=some l:=by
 show Bg (n*es) l=_
 rw [Fg (by omega),Zqi (by omega)]
def Mw (b:List Nat):AV:=.fz (Ae b).length none (Ab (Ae b))
theorem Zex (h:b.length=0∨b.length=128):Mw b=Ay (Ae b):=by unfold Mw;rw [Lq h];rfl
def fullF:Fam UB:=⟨UB.any,fun x=>[x.u],fun x=>Mw x.b,fun x y hx hy h=>by rw [UB.inja hx.b hy.b (Zql h).1]⟩
variable {e:Env}
theorem Zey (hE:EM P e):OvOk P 202 fullF.O:=by
 refine Cx g202.b fun x hx=>?_
 obtain ⟨u,b⟩:=x
 obtain ⟨hbt,hl⟩:=hx
 have huf:=hbt.1.hf
 dsimp only at huf hbt hl
 refine ⟨by show (AM.hf u && true)=true;rw [huf];rfl,rfl,C.of_G hE g202 ?_⟩
 show VW P e 0 (match YE with|.mk c _=>c) (Ah [u] 0 .lf) St0 none [] (BW [.tmp 2] (fun w s'=>Frz s' w (Mw b)))
 by_cases h0:b=[]
 ·subst h0
  conv=>whnf
  refine AA rfl hbt.1 ?_;conv=>whnf
  refine HI (a:=((0:Nat):Int)) (b:=0) rfl rfl (fun _=>?_) (fun h=>absurd rfl h);conv=>whnf
  refine Lt (n:=127) rfl rfl (by decide) ?_;conv=>whnf
  exact .sl 0 0 128 _ _ 5 _ _ _ rfl (fun i x h=>by rw [Zqo];exact h) (K9 (B6 (Ae []))) (.inl rfl)
 ·have hbl:b.length≠0:=fun e=>h0 (Zq7.1 e)
  obtain ⟨c,x,l,rfl,hxl⟩:=hbt.fz h0
  have hp:Ae b=b:=by unfold Ae;rw [Zqh h0]
  unfold Mw
  rw [hp]
  conv=>whnf
  refine AA rfl hbt.1 ?_;conv=>whnf
  refine HI (a:=(b.length:Int)) (b:=0) rfl rfl (fun h=>by omega) (fun _=>?_);conv=>whnf
  have hlen:=Bt b
  refine TL (m:=b.length) (c:=x) (cs:=l) rfl rfl (by rw [If (by rw [hlen,Zrc]),hxl]) (by rw [← hxl,hlen,Zrc]) (by decide) (by omega) ?_
  rw [← hxl]
  conv=>whnf
  exact .sl 0 0 b.length _ _ 5 _ _ _ rfl (fun i x h=>by rw [Zqo];exact h) (K9 (B6 _)) (.inl rfl)
def Zjh:AC:=match Pz with|.mk c _=>c
structure DKA.in (x:DKA):Prop where
 d:x.d.ok
 k:AP x.d=true
 a:0≤x.a∧x.a<x.d.us.length
def seenF:Fam DKA:=⟨DKA.in,DKA.args,fun x=>Ay (Ae (D7 x.d x.a)),fun x y hx hy h=>by
 have h1:x.ok:=⟨hx.d,by have:=hx.a;have:=hx.d.n;unfold Aa;omega⟩
 have h2:y.ok:=⟨hy.d,by have:=hy.a;have:=hy.d.n;unfold Aa;omega⟩
 rw [DKA.inja h1 h2 h]⟩
theorem ZX {a:Int}{L:List WR}{w:WR}:Cg a (L++[w]).reverse=if w.at_=a then some w.b else Cg a L.reverse:=by
 rw [List.reverse_append];rfl
theorem Zdx (hE:EM P e) (h72:Con e 202 fullF.O) (h158:Inl e 201 Zjh [.tmp 4]):OvOk P 175 seenF.O:=by
 refine Cx g175.b fun x hx=>?_
 obtain ⟨d,a⟩:=x
 obtain ⟨hd,hk,ha⟩:=hx
 dsimp only at hd hk ha
 obtain ⟨hk1,hkb,hkw,_,_⟩:=LS hd.a hk
 refine ⟨by show (AM.hf d.v && (true && true))=true;rw [DK.hf hd.a];rfl,rfl,C.of_G hE g175 ?_⟩
 obtain ⟨n,rfl⟩:∃ n:Nat,a=(n:Int):=⟨a.toNat,by omega⟩
 have hlt:n<d.us.length:=by omega
 obtain ⟨b,hb1,hb2⟩:=hd.a.bs.get (Zp9 hlt)
 have hbm:=Zqv hb1
 have hbl:=hkb b hbm
 have hO:D7 d (n:Int)=(Cg (n:Int) d.ws.reverse).getD b:=by
  unfold D7 F2
  rw [show (n:Int).toNat=n by omega,Zq2,hb1];rfl
 show VW P e 0 (match SZ with|.mk c _=>c) (Ah [d.v,.int .i64 (n:Int)] 0 .lf) St0 none [] (BW [.tmp 4] (fun w s'=>Frz s' w (Ay (Ae (D7 d (n:Int))))))
 rw [hO]
 clear hO hk
 obtain ⟨⟨hbl',hbs,hwl,hws⟩,hn,hm',hb',hw'⟩:=hd
 obtain ⟨bv,us,bs,wv,ws,dd⟩:=d
 dsimp only at hbl' hbs hwl hws hn hm' hb' hw' hkw hlt hb1 hb2 hbm ha
 have hdf:hfs [bv,wv,.bool dd]=true:=MS hwl hbl'
 have q1:((us.drop (n*1)))[0]?=some us[n]:=by rw [Zrc,Zqk,Zri,Zp9 hlt]
 have hall:=And.intro q1 hb2
 clear q1 hb2
 revert hall
 generalize us[n]=u
 rintro ⟨q1,hb2⟩
 have hF:∀ {u:AV}{b:List Nat},BAt u b→(b.length=0∨b.length=128)→∀ (K:AV→St→Prop) (s:St),K (Ay (Ae b)) s→ESc e 202 [u] s K:=fun {u b} h1 h2 K s hk=>ESc.fam fullF h72 ⟨u,b⟩ ⟨h1,by dsimp only;omega⟩ (u:=Ay (Ae b)) (Zex h2) hk
 show VW P e 0 (match SZ with|.mk c _=>c) (Ah [.agg [bv,wv,.bool dd],.int .i64 (n:Int)] 0 .lf) St0 none [] _
 conv=>whnf
 refine ESc.inl h158 ?_;conv=>whnf
 refine Cr rfl hbl' rfl hlt ?_;conv=>whnf
 refine EHead.mk (v:=u) q1 ?_;conv=>whnf
 refine hF hb2 hbl _ _ ?_;conv=>whnf
 refine DZ (α:=Nat) (fun j=>[(1,.int .i64 (n:Int)),(2,.ptr 0 0),(5,Ay (Ae ((Cg (n:Int) (ws.take j).reverse).getD b))),(6,.int .i64 (j:Int))]) (fun _=>[.row 60 [bv,wv,.bool dd]]) (fun j=>ws.length-j) (fun j=>j≤ws.length) 0 (Zqs _)
  (Abs.tells (rs:=[0]) .a) ?_
 intro j hj
 refine Cy hE ?_
 by_cases hjl:j<ws.length
 ·have hdr:=GC hjl
  have hwa:=hws _ (Zra hjl)
  have hwl2:=hkw _ (Zra hjl)
  have hs:Cg (n:Int) (ws.take (j+1)).reverse=if ws[j].at_=(n:Int) then some ws[j].b else Cg (n:Int) (ws.take j).reverse:=by
   rw [Zqm hjl,ZX]
  have hall:=And.intro hdr (And.intro hwa (And.intro hwl2 hs))
  clear hdr hwa hwl2 hs
  revert hall
  generalize ws[j]=w
  obtain ⟨wa,wu,wb⟩:=w
  rintro ⟨hdr,⟨hwa,hwb⟩,hwl2,hs⟩
  have hdr:(Ad ws).drop (j*2)=[.int .i64 wa,wu]++Ad (ws.drop (j+1)):=hdr
  dsimp only at hwa hwb hwl2 hs
  obtain ⟨A,hA⟩:∃ A,A=Cg (n:Int) (ws.take j).reverse:=⟨_,rfl⟩
  rw [← hA] at hs ⊢
  conv=>whnf
  refine Ai hwl ?_;conv=>whnf
  refine Bb (a:=(j:Int)) (b:=(ws.length:Int)) rfl rfl (fun _=>?_) (fun h=>by omega);conv=>whnf
  refine Cr rfl hwl rfl hjl ?_
  rw [hdr]
  conv=>whnf
  refine EHead.mk (v:=.int .i64 wa) rfl ?_;conv=>whnf
  refine HI (a:=wa) (b:=(n:Int)) rfl rfl (fun h1=>?_) (fun h1=>?_)
  ·rw [Zqd h1] at hs
   conv=>whnf
   refine Cr rfl hwl rfl hjl ?_
   rw [hdr]
   conv=>whnf
   refine EHead.mk (v:=wu) rfl ?_;conv=>whnf
   refine hF hwb hwl2 _ _ ?_;conv=>whnf
   repeat' (first|((first|refine v7 ?_|refine v8 ?_|refine v9 ?_|refine C6 ?_|refine C5 ?_|refine An ?_|refine As ?_|refine Cj ?_|refine CG ?_|refine CU ?_|refine Cp ?_|refine CK ?_|refine CX ?_|refine BY ?_|refine ⟨rfl,?_⟩);conv=>whnf)|refine v1 ?_ ?_|refine v2 ?_ ?_|refine v3 ?_ ?_|refine v4 ?_ ?_|refine v5 ?_ ?_|refine v6 ?_ ?_|(refine w19 rfl ?_ ?_ <;> intro hc <;> (try subst hc) <;> conv=>whnf)|(intro _;first|omega|conv=>whnf))
   exact ⟨j+1,hjl,by omega,Abs.tells (rs:=[0]) ⟨by decide,⟨r9,r9,⟨rfl,by rw [hs];rfl⟩,r9,trivial⟩,⟨o9,trivial⟩⟩⟩
  ·rw [Zqh h1] at hs
   conv=>whnf
   repeat' (first|((first|refine v7 ?_|refine v8 ?_|refine v9 ?_|refine C6 ?_|refine C5 ?_|refine An ?_|refine As ?_|refine Cj ?_|refine CG ?_|refine CU ?_|refine Cp ?_|refine CK ?_|refine CX ?_|refine BY ?_|refine ⟨rfl,?_⟩);conv=>whnf)|refine v1 ?_ ?_|refine v2 ?_ ?_|refine v3 ?_ ?_|refine v4 ?_ ?_|refine v5 ?_ ?_|refine v6 ?_ ?_|(refine w19 rfl ?_ ?_ <;> intro hc <;> (try subst hc) <;> conv=>whnf)|(intro _;first|omega|conv=>whnf))
   exact ⟨j+1,hjl,by omega,Abs.tells (rs:=[0]) ⟨by decide,⟨r9,r9,⟨rfl,by rw [hs];rfl⟩,r9,trivial⟩,⟨o9,trivial⟩⟩⟩
 ·rw [show ws.take j=ws from Zqi (by omega)]
  conv=>whnf
  refine Ai hwl ?_;conv=>whnf
  refine Bb (a:=(j:Int)) (b:=(ws.length:Int)) rfl rfl (fun _=>by omega) (fun h=>?_);conv=>whnf
  exact .plain _ rfl
structure CDI where
 x:CDA
 i:Nat
structure CDI.ok (p:CDI):Prop where
 x:p.x.ok
 k:askE p.x=0
 i:p.i<1000
def B1 (cs:List AV) (L:List WR):List AV:=L.foldl (fun cs w=>cs.set w.at_.toNat w.u) cs
def Gg (bs:List (List Nat)) (L:List WR):List (List Nat):=L.foldl (fun bs w=>bs.set w.at_.toNat w.b) bs
theorem Ke:∀ (L:List WR) (cs:List AV),(B1 cs L).length=cs.length
 | [],_=>rfl
 | w::L,cs=>by show (B1 (cs.set _ _) L).length=_;rw [Ke L,List.length_set]
theorem Zif (cs:List AV) (L M:List WR):B1 cs (L++M)=B1 (B1 cs L) M:=by unfold B1;rw [List.foldl_append]
theorem RL:∀ (L:List WR) {cs:List AV}{bs:List (List Nat)},All2 BAt cs bs→(∀ w ∈ L,BAt w.u w.b)→All2 BAt (B1 cs L) (Gg bs L)
 | [],_,_,h,_=>h
 | w::L,cs,bs,h,hw=>RL L (NP (hw w (by simp)) h _) (fun v hv=>hw v (by simp [hv]))
theorem Wo {us:List AV}{bs:List (List Nat)}(h:All2 BAt us bs):hfs us=true:=by
 induction h with
 | nil=>rfl
 | cons a b ih=>show (AM.hf _ && hfs _)=true;rw [a.1.hf,ih];rfl
theorem Wt:∀ (L:List WR) (bs:List (List Nat)) {p:Int},0≤p→(∀ w ∈ L,0≤w.at_∧w.at_<bs.length)→(Gg bs L).getD p.toNat []=(Cg p L.reverse).getD (bs.getD p.toNat [])
 | [],bs,p,_,_=>rfl
 | w::L,bs,p,hp,h=>by
  show (Gg (bs.set w.at_.toNat w.b) L).getD p.toNat []=_
  obtain ⟨h1,h2⟩:=h w (by simp)
  rw [Wt L _ hp (fun v hv=>by rw [List.length_set];exact h v (by simp [hv])),List.reverse_cons]
  have hl:∀ M:List WR,Cg p (M++[w])=match Cg p M with|some b=>some b|none=>if w.at_=p then some w.b else none:=fun M=>by
   induction M with
   | nil=>show (if w.at_=p then some w.b else none)=_;rfl
   | cons v M ih=>
    show (if v.at_=p then some v.b else Cg p (M++[w]))=_
    rw [ih]
    show _=match (if v.at_=p then some v.b else Cg p M:Option (List Nat)) with|some b=>some b|none=>_
    split <;> rfl
  rw [hl]
  cases Cg p L.reverse with
  | some b=>rfl
  | none=>
   show (bs.set w.at_.toNat w.b).getD p.toNat []=(if w.at_=p then some w.b else none:Option (List Nat)).getD _
   by_cases e:w.at_=p
   ·rw [Zqd e,e,Zq2,List.getElem?_set_self (by omega)];rfl
   ·rw [Zqh e,Zq2,List.getElem?_set_ne (by omega)];rfl
def G9 (x:DK):DK:=⟨.fz x.us.length none (B1 (x.us.map Ac) (x.ws.map A0)),B1 (x.us.map Ac) (x.ws.map A0),Gg x.bs x.ws,.nils,[],false⟩
def Du (x:DK):DK:=⟨.fz x.us.length none ((B1 (x.us.map Ac) (x.ws.map A0)).map Ac),(B1 (x.us.map Ac) (x.ws.map A0)).map Ac,Gg x.bs x.ws,.nils,[],false⟩
theorem Zig (bs:List (List Nat)):∀ (L:List WR),Gg bs (L.map A0)=Gg bs L:=fun L=>by
 unfold Gg
 rw [List.foldl_map];rfl
theorem Rj:∀ (L:List WR) (bs:List (List Nat)) {b:List Nat},b ∈ Gg bs L→b ∈ bs∨∃ w ∈ L,w.b=b
 | [],_,_,h=>.inl h
 | w::L,bs,b,h=>by
  rcases Rj L (bs.set w.at_.toNat w.b) h with h|⟨v,hv,e⟩
  ·rcases List.mem_or_eq_of_mem_set h with h|rfl
   ·exact .inl h
   ·exact .inr ⟨w,by simp,rfl⟩
  ·exact .inr ⟨v,by simp [hv],e⟩
variable {x:DK}
theorem flAt (hx:x.ok):All2 BAt (B1 (x.us.map Ac) (x.ws.map A0)) (Gg x.bs x.ws):=by
 have:=RL (x.ws.map A0) (JS hx.a.bs) (fun w hw=>by
  obtain ⟨v,hv,rfl⟩:=Zq9.1 hw
  exact (HS (hx.a.ws v hv)).b)
 rwa [Zig] at this
theorem WX (hx:x.ok):(G9 x).ok:=by
 have hl:(B1 (x.us.map Ac) (x.ws.map A0)).length=x.us.length:=by rw [Ke,Zqg]
 refine ⟨⟨.inr (.inr ⟨none,by show AV.fz x.us.length none _=.fz (B1 _ _).length none _;rw [hl];rfl,by rw [Zrc]⟩),flAt hx,.inl ⟨rfl,rfl,rfl⟩,fun w hw=>by cases hw⟩,by show (B1 _ _).length<_;rw [hl];exact hx.n,by show 0<_;decide,fun b hb=>?_,fun w hw=>by cases hw⟩
 rcases Rj _ _ hb with h|⟨w,hw,rfl⟩
 ·exact hx.b b h
 ·exact hx.w w hw
theorem RK (hx:x.ok):(Du x).ok:=by
 have hl:((B1 (x.us.map Ac) (x.ws.map A0)).map Ac).length=x.us.length:=by rw [Zqg,Ke,Zqg]
 have hm:=WX hx
 exact ⟨⟨.inr (.inr ⟨none,by show AV.fz x.us.length none _=.fz (List.map Ac _).length none _;rw [hl];rfl,by rw [Zrc]⟩),JS hm.a.bs,.inl ⟨rfl,rfl,rfl⟩,fun w hw=>by cases hw⟩,by show (List.map Ac _).length<_;rw [hl];exact hx.n,hm.m,hm.b,fun w hw=>by cases hw⟩
theorem Ws (x:DK):(Du x).us.length=x.us.length:=by show ((B1 _ _).map Ac).length=_;rw [Zqg,Ke,Zqg]
theorem Zie (hx:x.ok) (h:AP x=true):AP (Du x)=true:=by
 obtain ⟨d1,d2,d3,d4⟩:=dskB_iff.1 h
 refine dskB_iff.2 ⟨?_,fun b hb=>?_,(fun w hw=>by cases hw),(fun hd=>by cases hd)⟩
 ·rw [Ws];exact ⟨d1.1,d1.2.1,by show 0≤_;omega⟩
 ·rcases Rj _ _ hb with h|⟨w,hw,rfl⟩
  ·exact d2 b h
  ·have:=d3 w hw
   unfold Bm at this
   simp only [Zru] at this
   exact this.2
theorem Zi0 (hx:x.ok) (h:AP x=true) {p:Int}(hp:0≤p):D7 (Du x) p=D7 x p:=by
 obtain ⟨d1,d2,d3,d4⟩:=dskB_iff.1 h
 have hl:=hx.a.bs.length
 show (none:Option (List Nat)).getD ((Gg x.bs x.ws).getD p.toNat [])=_
 unfold D7 F2
 rw [Wt _ _ hp (fun w hw=>by
  have:=d3 w hw
  unfold Bm at this
  simp only [Zru,Zrf] at this
  omega)]
 rfl
def GA (x:DK):Int:=if AP x=true then (if x.dead then 40 else 0) else 8
def Gx (x:DK):AV:=if GA x=0 then .tup [(Du x).v,.int .i64 0] else .tup [.agg CW,.int .i64 (GA x)]
def fluF:Fam DK:=⟨DK.ok,fun x=>[x.v],Gx,fun x y hx hy h=>by rw [DK.inj hx.a hy.a (Zql h).1]⟩
theorem Zes (x:DK):AM.hf (Gx x)=true:=by unfold Gx;split <;> rfl
def O9:AC:=match YF with|.mk c _=>c
def WG:AC:=match O9 with
 | .seq _ (.seq _ (.seq _ (.seq _ (.seq _ r))))=>r
 | _=>.skip
def G7:List (Nat×AV):=[(1,.ptr 0 0),(2,.ptr 1 0)]
theorem V5 (hE:EM P e) (h103:Con e 66 Dj) (hx:x.ok) (h1:1≤x.us.length) (wv:AV) (hwv:AM.hf wv=true) (K:AV→St→Prop)
 (hk:∀ s,s.get 2=some (.row 76 (Du x).us)→K (.tup [.agg [.sl 2 0 x.us.length none,.nils,.bool false],.int .i64 0]) s):
 W P 0 none WG (A5 G7) (Al St0 [.row 60 [(G9 x).bv,wv,.bool false],.row 60 CW]) [] (BG [.cells 2 3,.tmp 3] K):=by
 have hmo:=WX hx
 have hlen:(G9 x).us.length=x.us.length:=by show (B1 _ _).length=_;rw [Ke,Zqg]
 have htw:=JV (x:=G9 x) ⟨hmo,by rw [hlen];exact h1⟩
 have hv:(G9 x).v=.agg [(G9 x).bv,.nils,.bool false]:=rfl
 have htw:∀ s,Dj [.agg [(G9 x).bv,.nils,.bool false]] s=.ok (.agg [.sl (0+s.next) 0 x.us.length none,.nils,.bool false]) (Al s [.row 76 (Du x).us]):=fun s=>by
  have:=htw s
  rw [hv] at this
  rw [this,← hlen];rfl
 refine Hb hE ?_
 generalize (G9 x).bv=B at *
 conv=>whnf
 repeat' (first|(refine ESc.ov h103 (htw _) ?_;conv=>whnf)|fail)
 exact hk _ rfl
def Zlj:AC:=match O9 with
 | .seq _ (.seq _ (.seq _ (.seq _ (.seq l _))))=>l
 | _=>.skip
theorem Ze2 (hE:EM P e) (h103:Con e 66 Dj) (hx:x.ok) (hD:AP x=true) (K:AV→St→Prop)
 (hk:∀ s,s.get 2=some (.row 76 (Du x).us)→K (.tup [.agg [.sl 2 0 x.us.length none,.nils,.bool false],.int .i64 0]) s) (h0:1≤x.ws.length):
 VW P e 0 Zlj (A5 G7) (Al St0 [.row 60 [.sl 2 0 x.us.length none,.sl 3 0 x.ws.length none,.bool false],.row 60 CW,.row 76 (x.us.map Ac),.row 146 (Ad (x.ws.map A0))]) none [] (IC (fun t s ds=>W P 0 none WG t s ds (BG [.cells 2 3,.tmp 3] K)) (BG [.cells 2 3,.tmp 3] K)):=by
 obtain ⟨d1,d2,d3,d4⟩:=dskB_iff.1 hD
 have hr:=fun wv hwv=>V5 hE h103 hx d1.1 wv hwv K hk
 have hUf:=L9 hx.a
 obtain ⟨W1,hW1⟩:∃ W1,W1=x.ws.map A0:=⟨_,rfl⟩
 have hW1l:W1.length=x.ws.length:=by rw [hW1,Zqg]
 have hWa:∀ w ∈ W1,w.any∧0≤w.at_∧w.at_<x.us.length:=fun w hw=>by
  rw [hW1] at hw
  obtain ⟨v,hv,rfl⟩:=Zq9.1 hw
  have:=d3 v hv
  unfold Bm at this
  simp only [Zru,Zrf] at this
  exact ⟨HS (hx.a.ws v hv),by show 0≤v.at_;omega,by show v.at_<_;omega⟩
 have hwf:hfs (Ad W1)=true:=Fi fun w hw=>(hWa w hw).1.b.1.hf
 have hm1:(G9 x).bv=.fz x.us.length none (B1 (x.us.map Ac) W1):=by rw [hW1];rfl
 rw [hm1] at hr
 have hcf:∀ i,hfs (B1 (x.us.map Ac) (W1.take i))=true:=fun i=>Wo (RL (W1.take i) (JS hx.a.bs) (fun w hw=>(hWa w (Zrg hw)).1.b))
 have hcl:∀ i,(B1 (x.us.map Ac) (W1.take i)).length=x.us.length:=fun i=>by rw [Ke,Zqg]
 have hwn:=hx.m
 rw [← hW1]
 rw [← hW1l] at h0 hwn ⊢
 generalize x.us.length=n at *
 generalize hU0:x.us.map Ac=U at *
 clear hk hx hD d1 d2 d3 d4 hU0
 obtain ⟨m,hmm⟩:∃ m,m=W1.length:=⟨_,rfl⟩
 rw [← hmm] at h0 hwn ⊢
 conv=>whnf
 refine Lm rfl ?_;conv=>whnf
 refine DZ (α:=Nat) (fun i=>[(1,.ptr 0 0),(2,.ptr 1 0),(19,.sl 2 0 m none),(20,.int .i64 (m:Int)),(21,.int .i64 (i:Int))]) (fun i=>[.row 60 [.sl 3 0 n none,.sl 2 0 m none,.bool false],.row 60 CW,.row 146 (Ad W1),.row 76 (B1 U (W1.take i))]) (fun i=>m-i) (fun i=>i≤m) 0 (Zqs _)
  (Abs.tells (rs:=[0,1,3,2]) ⟨by decide,⟨r9,r9,r9,r9,r9,trivial⟩,⟨r9,r9,o9,o9 (hcf 0),trivial⟩⟩) ?_
 intro i hi
 refine Cy hE ?_
 by_cases hlt:i<m
 ·have hWi:=Zp9 (l:=W1) (i:=i) (by omega)
  have hwi:=hWa _ (Zra (l:=W1) (n:=i) (by omega))
  have htk:B1 U (W1.take (i+1))=(B1 U (W1.take i)).set (W1[i]'(by omega)).at_.toNat (W1[i]'(by omega)).u:=by
   rw [Zqm (by omega),Zif];rfl
  have hall:=And.intro hWi (And.intro hwi htk)
  clear hWi hwi htk
  revert hall
  generalize W1[i]'(by omega)=w
  rintro ⟨hWi,⟨hwa,hw0,hwn'⟩,htk⟩
  obtain ⟨wa,wu,wb⟩:=w
  have hwu:AM.hf wu=true:=hwa.b.1.hf
  dsimp only at hw0 hwn' htk
  obtain ⟨a,rfl⟩:∃ a:Nat,wa=(a:Int):=⟨wa.toNat,by omega⟩
  have ha:a<n:=by omega
  have htk:B1 U (W1.take (i+1))=(B1 U (W1.take i)).set a wu:=htk
  have hld:∀ s:St,s.get 2=some (.row 146 (Ad W1))→load 2 (0+i*2) 2 s=some [.int .i64 (a:Int),wu]:=fun s h=>Wj h hWi
  have hst:∀ s:St,s.get 3=some (.row 76 (B1 U (W1.take i)))→storeAt 3 (0+a*1) [wu] s=some (s.put 3 (.row 76 ((B1 U (W1.take i)).set a wu))):=fun s h=>U2 h (by rw [hcl];exact ha)
  have hc1:=hcf (i+1)
  rw [htk] at hc1
  have hc1:hfs ((B1 U (W1.take i)).set a wu)=true:=hc1
  have hcw:∀ (K:Prop),K→wB (Nat.beq (A6 (cellsOf wu)) 1) K False:=fun K hK=>by
   have:cellsOf wu=[wu]:=by
    rcases hwa.b.1 with ⟨h,_⟩|⟨h,_⟩|⟨c,h,_⟩ <;> (dsimp only at h;rw [h];rfl)
   rw [this];exact hK
  conv=>whnf
  refine Bb (a:=(i:Int)) (b:=(m:Int)) rfl rfl (fun _=>?_) (fun h=>by omega);conv=>whnf
  refine GH (i:=i) rfl rfl hlt ?_;conv=>whnf
  refine BA _ (hld _ rfl) ?_;conv=>whnf
  refine GH (i:=a) rfl rfl ha ?_;conv=>whnf
  refine hcw _ ?_
  have hcu:cellsOf wu=[wu]:=by
   rcases hwa.b.1 with ⟨h,_⟩|⟨h,_⟩|⟨c,h,_⟩ <;> (dsimp only at h;rw [h];rfl)
  rw [hcu]
  refine BA _ (hst _ rfl) ?_;conv=>whnf
  repeat' (first|((first|refine v7 ?_|refine ⟨rfl,?_⟩);conv=>whnf)|fail)
  refine ⟨i+1,hlt,by omega,?_⟩
  rw [htk]
  exact Abs.tells (rs:=[0,1,2,3]) .a
 ·have hie:i=m:=by omega
  subst hie
  have hte:W1.take i=W1:=Zqi (by omega)
  have hcf':=hcf i
  rw [hte] at hcf' ⊢
  conv=>whnf
  refine Bb (a:=(i:Int)) (b:=(i:Int)) rfl rfl (fun h=>by omega) (fun _=>?_);conv=>whnf
  have q1:=AbsK.frz (P:=P) (k:=0) (n:=3) (e:=76) (cs:=B1 U W1) (t:=BF 23 (AV.bool false) (A5 [(1,.ptr 0 0),(2,.ptr 1 0),(19,.sl 2 0 i none),(20,.int .i64 (i:Int)),(21,.int .i64 (i:Int))])) (s:=Al St0 [.row 60 [.sl 3 0 n none,.sl 2 0 i none,.bool false],.row 60 CW,.row 146 (Ad W1),.row 76 (B1 U W1)]) (tl:=G7) (tl2:=G7) (os:=[.row 60 [.sl 3 0 n none,.sl 2 0 i none,.bool false],.row 60 CW,.row 146 (Ad W1)]) (os2:=[.row 60 [.fz n none (B1 U W1),.sl 2 0 i none,.bool false],.row 60 CW,.row 146 (Ad W1)]) (rs:=[0,1,2,3])
   .a rfl hcf' rfl rfl rfl rfl rfl (by
    show [_,_,EE 3 _ (.row 146 (Ad W1))]=_
    rw [HY hwf];rfl)
  have q2:=AbsK.frz (P:=P) (k:=0) (n:=2) (e:=146) (cs:=Ad W1) (t:=A5 G7) (s:=Al St0 [.row 60 [.fz n none (B1 U W1),.sl 2 0 i none,.bool false],.row 60 CW,.row 146 (Ad W1)]) (tl:=G7) (tl2:=G7) (os:=[.row 60 [.fz n none (B1 U W1),.sl 2 0 i none,.bool false],.row 60 CW]) (os2:=[.row 60 [.fz n none (B1 U W1),.fz i none (Ad W1),.bool false],.row 60 CW]) (rs:=[0,1,2])
   .a rfl hwf rfl rfl rfl rfl rfl rfl
  exact W.tells (q1.trans q2) (hr _ rfl)
theorem Zia (hE:EM P e) (h101:Con e 44 dskF.O) (h103:Con e 66 Dj):OvOk P 141 fluF.O:=by
 refine Cx g141.b fun x hx=>?_
 refine ⟨by show (AM.hf x.v && true)=true;rw [DK.hf hx.a];rfl,Zes x,C.of_W g141.f g141.c ?_⟩
 have hout:fluF.out x=Gx x:=rfl
 rw [hout]
 have hO0:AP x=true→x.dead=false→Gx x=.tup [(Du x).v,.int .i64 0]:=fun h1 h2=>by unfold Gx GA;rw [Zqd h1,h2];rfl
 have hO1:AP x=true→x.dead=true→Gx x=.tup [.agg CW,.int .i64 40]:=fun h1 h2=>by unfold Gx GA;rw [Zqd h1,h2];rfl
 have hO2:AP x≠true→Gx x=.tup [.agg CW,.int .i64 8]:=fun h1=>by unfold Gx GA;rw [Zqh h1];rfl
 by_cases hD:AP x=true
 ·have hD1:=(dskB_iff.1 hD).1
  have hDo:dskF.out x=.int .i64 0:=by show AV.int .i64 (if _ then _ else _)=_;rw [Zqd hD]
  have htw:=JV (x:=x) ⟨hx,hD1.1⟩
  have hfin:∀ s:St,s.get 2=some (.row 76 (Du x).us)→Frz s (.tup [.agg [.sl 2 0 x.us.length none,.nils,.bool false],.int .i64 0]) (.tup [(Du x).v,.int .i64 0]):=fun s h=>
   .tup _ _ (.cons (.agg _ _ (.cons (.sl 2 0 _ none none 76 _ (Du x).us _ h (fun i x h=>by rw [Zqo];exact h) (Cz (Wo (RK hx).a.bs)) (.inl rfl)) (.cons (.plain _ rfl) (.cons (.plain _ rfl) .nil)))) (.cons (.plain _ rfl) .nil))
  have hloop:=fun h0=>Ze2 hE h103 hx hD (fun v s=>Frz s v (.tup [(Du x).v,.int .i64 0])) hfin h0
  have hrest:=V5 hE h103 hx hD1.1 .nils rfl (fun v s=>Frz s v (.tup [(Du x).v,.int .i64 0])) hfin
  have hUf:=L9 hx.a
  have hO0:=hO0 hD
  have hO1:=hO1 hD
  obtain ⟨bv,us,bs,wv,ws,dd⟩:=x
  show W P 0 none O9 (Ah [.agg [bv,wv,.bool dd]] 0 .lf) St0 [] _
  cases dd
  ·rw [hO0 rfl]
   refine Br hE ?_;conv=>whnf
   refine Br hE ?_;conv=>whnf
   refine ESc.fam dskF h101 _ hx (u:=.int .i64 0) hDo ?_;conv=>whnf
   repeat' (first|refine v6 ?_ ?_|(intro _;first|omega|conv=>whnf))
   refine Br hE ?_;conv=>whnf
   skip
   rcases ws with _|⟨w0,ws⟩
   ·have htw:∀ s,Dj [.agg [bv,wv,.bool false]] s=.ok (.agg [.sl (0+s.next) 0 us.length none,.nils,.bool false]) (Al s [.row 76 (us.map Ac)]):=htw
    refine Br hE ?_;conv=>whnf
    refine ESc.ov h103 (htw _) ?_;conv=>whnf
    refine Br hE ?_;conv=>whnf
    repeat' (first|(refine CK ?_;conv=>whnf)|fail)
    refine Zkd hE ?_;conv=>whnf
    repeat' (first|refine v1 ?_ ?_|(intro _;first|omega|conv=>whnf))
    have hm1:(G9 ⟨bv,us,bs,wv,[],false⟩).bv=.fz us.length none (us.map Ac):=rfl
    rw [hm1] at hrest
    exact W.tells (AbsK.frz (P:=P) (k:=0) (n:=2) (e:=76) (cs:=us.map Ac) (tl:=G7) (tl2:=G7) (os:=[.row 60 [.sl 2 0 us.length none,.nils,.bool false],.row 60 CW]) (os2:=[.row 60 [.fz us.length none (us.map Ac),.nils,.bool false],.row 60 CW]) (rs:=[0,1,2])
     .a rfl hUf rfl rfl rfl rfl rfl rfl) hrest
   ·have htw:∀ s,Dj [.agg [bv,wv,.bool false]] s=.ok (.agg [.sl (0+s.next) 0 us.length none,.sl (1+s.next) 0 (ws.length+1) none,.bool false]) (Al s [.row 76 (us.map Ac),.row 146 (Ad ((w0::ws).map A0))]):=htw
    have hWf:hfs (Ad ((w0::ws).map A0))=true:=Fi fun w hw=>by
     obtain ⟨v,hv,rfl⟩:=Zq9.1 hw
     exact (HS (hx.a.ws v hv)).b.1.hf
    refine Br hE ?_;conv=>whnf
    refine ESc.ov h103 (htw _) ?_;conv=>whnf
    refine W.tells (Abs.tells (tl:=G7) (os:=[.row 60 [.sl 2 0 us.length none,.sl 3 0 (ws.length+1) none,.bool false],.row 60 CW,.row 76 (us.map Ac),.row 146 (Ad ((w0::ws).map A0))]) (rs:=[0,1,2,3])
     .a) ?_
    exact Br hE (hloop (by simp))
  ·rw [hO1 rfl]
   refine Hb hE ?_;conv=>whnf
   refine ESc.fam dskF h101 _ hx (u:=.int .i64 0) hDo ?_;conv=>whnf
   repeat' (first|refine v6 ?_ ?_|(intro _;first|omega|conv=>whnf))
   exact .plain _ rfl
 ·have hDo:dskF.out x=.int .i64 8:=by show AV.int .i64 (if _ then _ else _)=_;rw [Zqh hD]
  rw [hO2 hD]
  refine Hb hE ?_
  obtain ⟨bv,us,bs,wv,ws,dd⟩:=x
  show VW P e 0 O9 (Ah [.agg [bv,wv,.bool dd]] 0 .lf) St0 none [] _
  conv=>whnf
  refine ESc.fam dskF h101 _ hx (u:=.int .i64 8) hDo ?_;conv=>whnf
  repeat' (first|refine v6 ?_ ?_|(intro _;first|omega|conv=>whnf))
  exact .plain _ rfl
def Ew (x:DKW):Int:=if BE x.d x.a x.b=0 then (if x.d.ws.length=1024 then 9 else 0) else BE x.d x.a x.b
def Ev (x:DKW):List WR:=x.d.ws.map A0++[⟨x.a,Ay (Ae x.b),Ae x.b⟩]
def F7 (x:DKW):DK:=⟨.fz x.d.us.length none (x.d.us.map Ac),x.d.us.map Ac,x.d.bs,.fz (x.d.ws.length+1) none (Ad (Ev x)),Ev x,x.d.dead⟩
def Jk (x:DKW):AV:=if Ew x=0 then .tup [(F7 x).v,.int .i64 0] else .tup [.agg CW,.int .i64 (Ew x)]
theorem Zet (x:DKW):AM.hf (Jk x)=true:=by unfold Jk;split <;> rfl
def dwF:Fam DKW:=⟨DKW.ok,DKW.args,Jk,fun x y hx hy h=>by rw [DKW.inja hx hy h]⟩
theorem Zf1 (L M:List WR):Ad (L++M)=Ad L++Ad M:=by unfold Ad;rw [List.flatMap_append]
theorem Znv (hE:EM P e) (h102:Con e 113 wrtF.O) (h103:Con e 66 Dj) (h98:Inl e 102 Kq [.tmp 2]) (h141:Inl e 119 GU [.tmp 2]):OvOk P 140 dwF.O:=by
 refine Cx g140.b fun x hx=>?_
 refine ⟨DKW.hfa hx,Zet x,C.of_G hE g140 ?_⟩
 have hfam:=fun (s:St) (K:AV→St→Prop) (hk:K (.int .i64 (BE x.d x.a x.b)) s)=>ESc.fam wrtF h102 x hx (u:=.int .i64 (BE x.d x.a x.b)) rfl hk
 by_cases h0:BE x.d x.a x.b=0
 ·obtain ⟨q1,q2,q3,q4⟩:=Jr h0
  have hbl:x.b.length=0∨x.b.length=128:=HV q3
  have hdk1:DK1 x.d:=⟨hx.d,by omega⟩
  have htw:=JV hdk1
  have hUf:=L9 hx.d.a
  have hw1024:x.d.ws.length≤1024:=(LS hx.d.a q1).1
  have hWf:hfs (Ad (x.d.ws.map A0))=true:=Fi fun w hw=>by
   obtain ⟨v,hv,rfl⟩:=Zq9.1 hw
   exact (HS (hx.d.a.ws v hv)).b.1.hf
  have hout:dwF.out x=if x.d.ws.length=1024 then .tup [.agg CW,.int .i64 9] else .tup [(F7 x).v,.int .i64 0]:=by
   show Jk x=_
   unfold Jk Ew
   rw [Zqd h0]
   split <;> rfl
  rw [h0] at hfam
  rw [hout]
  have hwsl:=hx.d.a.wl
  obtain ⟨⟨bv,us,bs,wv,ws,dd⟩,a,u,b⟩:=x
  obtain ⟨hd,ha,hbt,hbn⟩:=hx
  dsimp only at q2 q4 hbl htw hUf hWf ha hbt hbn hw1024 hwsl ⊢
  subst q4
  have hfB:∀ (s:St) r cp,s.get r=some (.row 5 (Ab (Ae b)))→Frz s (.sl r 0 128 cp) (Ay (Ae b)):=fun s r cp h=>.sl r 0 128 cp none 5 _ (Ab (Ae b)) _ h (fun i x h=>by rw [Zqo];exact h) (LN _) (.inl rfl)
  have hbk:∀ (s:St),s.get 2=some (.row 76 (us.map Ac))→Frz s (.sl 2 0 us.length none) (.fz us.length none (us.map Ac)):=fun s h1=>
   .sl 2 0 us.length none none 76 _ (us.map Ac) _ h1 (fun i x h=>by rw [Zqo];exact h) (Cz hUf) (.inl rfl)
  have hwk:∀ (s:St) r q cp,s.get r=some (.row 146 (Ad (ws.map A0)++[.int .i64 a,.sl q 0 128 cp]))→s.get q=some (.row 5 (Ab (Ae b)))→Frz s (.sl r 0 (ws.length+1) none) (.fz (ws.length+1) none (Ad (Ev ⟨⟨bv,us,bs,wv,ws,false⟩,a,u,b⟩))):=fun s r q cp h1 h2=>by
   refine .sl r 0 _ none none 146 _ (Ad (ws.map A0)++[.int .i64 a,.sl q 0 128 cp]) _ h1 (fun i x h=>by rw [Zqo];exact h) ?_ (.inl rfl)
   unfold Ev
   rw [Zf1]
   exact (Cz hWf).append (.cons (.plain _ rfl) (.cons (hfB s q cp h2) .nil))
  clear q1 q3 hout
  show VW P e 0 (match To with|.mk c _=>c) (Ah [.agg [bv,wv,.bool false],.int .i64 a,u] 0 .lf) St0 none [] _
  have hfam:∀ (s:St) (K:AV→St→Prop),K (.int .i64 0) s→ESc e 113 [.agg [bv,wv,.bool false],.int .i64 a,u] s K:=hfam
  have hdd:(F7 ⟨⟨bv,us,bs,wv,ws,false⟩,a,u,b⟩).v=.agg [.fz us.length none (us.map Ac),.fz (ws.length+1) none (Ad (Ev ⟨⟨bv,us,bs,wv,ws,false⟩,a,u,b⟩)),.bool false]:=rfl
  by_cases h1024:ws.length=1024
  ·rw [Zqd h1024]
   conv=>whnf
   refine hfam _ _ ?_;conv=>whnf
   repeat' (first|(refine Ai hwsl ?_;conv=>whnf)|refine v5 ?_ ?_|refine v6 ?_ ?_|(intro _;first|omega|conv=>whnf))
   exact .plain _ rfl
  ·rw [Zqh h1024,hdd]
   rcases ws with _|⟨w0,ws⟩
   ·have htw:∀ s,Dj [.agg [bv,wv,.bool false]] s=.ok (.agg [.sl (0+s.next) 0 us.length none,.nils,.bool false]) (Al s [.row 76 (us.map Ac)]):=htw
    have fin:∀ (s:St) r q cp,s.get 2=some (.row 76 (us.map Ac))→s.get r=some (.row 146 [.int .i64 a,.sl q 0 128 cp])→s.get q=some (.row 5 (Ab (Ae b)))→Frz s (.tup [.agg [.sl 2 0 us.length none,.sl r 0 1 none,.bool false],.int .i64 0]) (.tup [.agg [.fz us.length none (us.map Ac),.fz (0+1) none (Ad (Ev ⟨⟨bv,us,bs,wv,[],false⟩,a,u,b⟩)),.bool false],.int .i64 0]):=fun s r q cp h1 h2 h3=>
     .tup _ _ (.cons (.agg _ _ (.cons (hbk s h1) (.cons (hwk s r q cp h2 h3) (.cons (.plain _ rfl) .nil)))) (.cons (.plain _ rfl) .nil))
    conv=>whnf
    refine hfam _ _ ?_;conv=>whnf
    repeat' (first|(refine Ai hwsl ?_;conv=>whnf)|refine v5 ?_ ?_|refine v6 ?_ ?_|(intro _;first|omega|conv=>whnf))
    refine ESc.ov h103 (htw _) ?_;conv=>whnf
    refine JR h98 h141 hbt hbl (by show 3<1000000;decide) (fun h0=>?_) (fun h1=>?_)
    ·conv=>whnf
     repeat' (first|((first|refine CJ (m:=1) ?_|refine ⟨rfl,?_⟩);conv=>whnf)|fail)
     exact fin _ _ _ _ rfl rfl rfl
    ·conv=>whnf
     repeat' (first|((first|refine CJ (m:=1) ?_|refine ⟨rfl,?_⟩);conv=>whnf)|fail)
     exact fin _ _ _ _ rfl rfl rfl
   ·have htw:∀ s,Dj [.agg [bv,wv,.bool false]] s=.ok (.agg [.sl (0+s.next) 0 us.length none,.sl (1+s.next) 0 (ws.length+1) none,.bool false]) (Al s [.row 76 (us.map Ac),.row 146 (Ad ((w0::ws).map A0))]):=htw
    have fin:∀ (s:St) r q cp,s.get 2=some (.row 76 (us.map Ac))→s.get r=some (.row 146 (Ad ((w0::ws).map A0)++[.int .i64 a,.sl q 0 128 cp]))→s.get q=some (.row 5 (Ab (Ae b)))→Frz s (.tup [.agg [.sl 2 0 us.length none,.sl r 0 (ws.length+1+1) none,.bool false],.int .i64 0]) (.tup [.agg [.fz us.length none (us.map Ac),.fz ((w0::ws).length+1) none (Ad (Ev ⟨⟨bv,us,bs,wv,w0::ws,false⟩,a,u,b⟩)),.bool false],.int .i64 0]):=fun s r q cp h1 h2 h3=>
     .tup _ _ (.cons (.agg _ _ (.cons (hbk s h1) (.cons (hwk s r q cp h2 h3) (.cons (.plain _ rfl) .nil)))) (.cons (.plain _ rfl) .nil))
    have hw1025:ws.length+1≤1024:=hw1024
    conv=>whnf
    refine hfam _ _ ?_;conv=>whnf
    repeat' (first|(refine Ai hwsl ?_;conv=>whnf)|refine v5 ?_ ?_|refine v6 ?_ ?_|(intro _;first|omega|conv=>whnf))
    refine ESc.ov h103 (htw _) ?_;conv=>whnf
    refine JR h98 h141 hbt hbl (by show 4<1000000;decide) (fun h0=>?_) (fun h1=>?_)
    ·conv=>whnf
     repeat' (first|((first|refine Cw (m:=1) rfl rfl rfl rfl (by rw [DE,Zqg];rfl) rfl (by decide) (by omega) ?_|refine ⟨rfl,?_⟩);conv=>whnf)|fail)
     exact fin _ _ _ _ rfl rfl rfl
    ·conv=>whnf
     repeat' (first|((first|refine Cw (m:=1) rfl rfl rfl rfl (by rw [DE,Zqg];rfl) rfl (by decide) (by omega) ?_|refine ⟨rfl,?_⟩);conv=>whnf)|fail)
     exact fin _ _ _ _ rfl rfl rfl
 ·have hout:dwF.out x=.tup [.agg CW,.int .i64 (BE x.d x.a x.b)]:=by
   show Jk x=_
   unfold Jk Ew
   rw [Zqh h0,Zqh h0]
  rw [hout]
  obtain ⟨E,hE'⟩:∃ E,E=BE x.d x.a x.b:=⟨_,rfl⟩
  rw [← hE'] at h0 hfam ⊢
  obtain ⟨⟨bv,us,bs,wv,ws,dd⟩,a,u,b⟩:=x
  have hfam:∀ (s:St) (K:AV→St→Prop),K (.int .i64 E) s→ESc e 113 [.agg [bv,wv,.bool dd],.int .i64 a,u] s K:=hfam
  show VW P e 0 (match To with|.mk c _=>c) (Ah [.agg [bv,wv,.bool dd],.int .i64 a,u] 0 .lf) St0 none [] _
  conv=>whnf
  refine hfam _ _ ?_;conv=>whnf
  refine JI (a:=E) (b:=0) rfl rfl (fun _=>?_) (fun h=>absurd h h0);conv=>whnf
  skip
  exact .plain _ rfl
noncomputable def relS (R:List AV→St→AV→St→Prop):Ov:=fun args s=>open Classical in if h:∃ p:AV×St,R args s p.1 p.2 then .ok h.choose.1 h.choose.2 else .fail
variable {f:Nat}
theorem QQ {R:List AV→St→AV→St→Prop}(hb:FG P f) (h:∀ args s u s',R args s u s'→C P f args s (fun v s''=>v=u∧s''=s')):OvOk P f (relS R):=by
 refine ⟨hb,fun args s v s' hh=>?_⟩
 unfold relS at hh
 split at hh
 ·rename_i hx
  cases hh
  exact h args s _ _ hx.choose_spec
 ·cases hh
theorem ESc.relS {R:List AV→St→AV→St→Prop}{vs:List AV}{s:St}{k:AV→St→Prop}{s':St}(hi:Con e f (relS R)) (hx:R vs s u s') (hk:∀ u s',R vs s u s'→k u s'):ESc e f vs s k:=by
 have hx:∃ p:AV×St,R vs s p.1 p.2:=⟨(u,s'),hx⟩
 refine ESc.ov hi (v:=hx.choose.1) (s':=hx.choose.2) ?_ (hk _ _ hx.choose_spec)
 unfold AM.relS
 rw [dif_pos hx]
theorem Ut {t:AT}{s:St}{k:AV→St→Prop}{x y:AO}{a b:Nat}(hx:ev x t=.some (.int .u8 (a:Int))) (hy:ev y t=.some (.int .u8 (b:Int))) (ha:a<256) (hb:b<256) (hk:k (.int .u8 ((a ^^^ b:Nat):Int)) s):EPrim (.bin .xor x y) t s k:=by
 refine DJ hx hy (v:=.int .u8 (Int.ofNat (a ^^^ b))) ?_ hk
 show OV.some (.int .u8 (Int.ofNat (Nat.xor (a % 256) (b % 256))))=_
 rw [Zr5 ha,Zr5 hb];rfl
def Hz (b:List Nat) (i:Nat):List Nat:=b.take i++List.replicate (128-i) 0
variable {i w:Nat}
theorem Zfp (h:b[i]?=some w) (hb:b.length=128):(Hz b i).set i w=Hz b (i+1):=by
 have hl:=(Zqa.1 h).1
 unfold Hz
 rw [List.take_add_one,h,show 128-i=(128-(i+1))+1 by omega,List.replicate_succ,List.set_append,Zqh (by rw [Zqz];omega)]
 rw [show i-(List.take i b).length=0 by rw [Zqz];omega,List.set_cons_zero,List.append_assoc]
 rfl
variable {r:Nat}{bs:List Nat}
theorem Zbf {s:St}{e:Nat}(h:s.get r=some (.row e (Ab bs))) (hi:i<bs.length):storeAt r i [.int .u8 (Int.ofNat n)] s=some (s.put r (.row e (Ab (bs.set i n)))):=by
 rw [Gm h (by rw [Bt];simp;omega)]
 congr 4
 show (Ab bs).take i++[AV.int .u8 (Int.ofNat n)]++(Ab bs).drop (i+1)=(bs.set i n).map _
 rw [List.set_eq_take_append_cons_drop,Zqd hi]
 unfold Ab
 rw [Zqy,Zrp,List.map_take,List.map_drop,List.append_assoc];rfl
variable {o:Nat}
theorem QL {e:Nat}{s:St}{K:St→Prop}(h:s.get r=some (.row e (Ab bs))) (ho:o=i) (hi:i<bs.length) (hk:K (s.put r (.row e (Ab (bs.set i n))))):(Option.rec (motive:=fun _=>Prop) False (fun s'=>K s') (storeAt r o [.int .u8 (n:Int)] s)):=by
 subst ho
 rw [show storeAt r o [.int .u8 (n:Int)] s=_ from Zbf h hi];exact hk
def M2 (args:List AV) (s:St) (u:AV) (s':St):Prop:=∃ b v,b.length=128∧args=[v]∧Ls Ce.u8 b v∧u=.sl (0+s.next) 0 128 (some 128)∧s'=s.alloc (.row 5 (Ab b))
variable {v:AV}{K:AV→St→Prop}
theorem Zf3 (h:Con e 176 (relS M2)) (hb:b.length=128) (hv:Ls Ce.u8 b v) {s:St}(hk:K (.sl (0+s.next) 0 128 (some 128)) (s.alloc (.row 5 (Ab b)))):ESc e 176 [v] s K:=by
 refine ESc.relS h (s':=s.alloc (.row 5 (Ab b))) ⟨b,v,hb,rfl,hv,rfl,rfl⟩ ?_
 rintro u s' ⟨b',v',_,e1,hv',rfl,rfl⟩
 cases e1
 rw [hv'.inj hv];exact hk
theorem Zkh (hE:EM P e):OvOk P 176 (relS M2):=by
 refine QQ g176.b ?_
 rintro args s u s' ⟨b,v,hb,rfl,hv,rfl,rfl⟩
 have hvf:=hv.hf
 have hfa:hfs [v]=true:=by show (AM.hf v && true)=true;rw [hvf];rfl
 obtain ⟨cs,hs,hl,hn⟩:=hv.nth
 have key:C P 176 [v] St0 (fun u s'=>u=.sl 0 0 128 (some 128)∧s'=Al St0 [.row 5 (Ab b)]):=by
  refine C.abs (C.of_G hE g176 ?_)
  have fin:∀ s r,s.get r=some (.row 5 (Ab b))→∃ rs,Abs (T.set .lf (.sl r 0 128 (some 128)) 0) s [(0,.sl 0 0 128 (some 128))] [.row 5 (Ab b)] rs:=fun s r h=>⟨[r],⟨by simp,⟨⟨rfl,rfl⟩,trivial⟩,⟨⟨Bd (B6 _),by rw [AX (B6 _)];exact h⟩,trivial⟩⟩⟩
  conv=>whnf
  refine Lt (n:=127) rfl rfl (by decide) ?_;conv=>whnf
  refine Ax hE 128 (fun i=>[(0,v),(3,.sl 0 0 128 (some 128)),(4,.int .i64 (i:Int))]) (fun i=>[.row 5 (Ab (Hz b i))]) (fun _=>True) trivial (Abs.tells (rs:=[0]) .a) ?_
  intro i hi _
  conv=>whnf
  by_cases hlt:i<b.length
  ·obtain ⟨w,_,r,hw,⟨rfl,hw'⟩,hd⟩:=hn i hlt
   have hsc:=Zfp hw hb
   repeat' (first|((first|refine Am hs hlt hd ?_|refine Ap ?_|refine Ai hs ?_|refine HD rfl rfl (by omega) (by omega) ?_);conv=>whnf)|refine v1 ?_ ?_|(intro _;first|omega|conv=>whnf))
   have hcl:i<(Hz b i).length:=by unfold Hz;rw [Zqn,Zqz,List.length_replicate];omega
   refine QL (i:=i) (bs:=Hz b i) rfl (by omega) hcl ?_
   rw [hsc]
   conv=>whnf
   repeat' (first|((first|refine v7 ?_|refine ⟨rfl,?_⟩);conv=>whnf)|fail)
   exact ⟨by omega,trivial,Abs.tells (rs:=[0]) ⟨by decide,⟨t9,r9,r9,trivial⟩,⟨o9 (B6 _),trivial⟩⟩⟩
  ·have hcb:Hz b i=b:=by unfold Hz;rw [Zqi (by omega),show 128-i=0 by omega];exact Zrk b
   rw [hcb]
   repeat' (first|(refine Ai hs ?_;conv=>whnf)|refine v1 ?_ ?_|(intro _;first|omega|conv=>whnf))
   exact fin _ _ rfl
 refine (C.frame (l:=[.row 5 (Ab b)]) (u:=.sl 0 0 128 (some 128)) hfa ?_ ?_ key ?_ s).mono ?_
 ·intro o ho;simp at ho;subst ho;rfl
 ·exact .inl (by simp)
 ·intro i o h
  rcases i with _|i
  ·simp at h;subst h;rfl
  ·simp at h
 ·rintro v s' ⟨rfl,rfl⟩
  refine ⟨rfl,?_⟩
  show Al s [Bv _ (.row 5 (Ab b))]=_
  rw [AX (B6 _)];rfl
def Ee (a b:List Nat):List Nat:=List.zipWith (fun x y=>x ^^^ y) a b
variable {a:List Nat}
theorem NB (h:a.length=128) (h':b.length=128):(Ee a b).length=128:=by unfold Ee;rw [List.length_zipWith];omega
theorem Zfz (h:∀ x ∈ a,x<256) (h':∀ x ∈ b,x<256):∀ x ∈ Ee a b,x<256:=by
 intro x hx
 obtain ⟨i,hi⟩:=Zr0 hx
 unfold Ee at hi
 rw [List.getElem?_zipWith] at hi
 cases ha:a[i]? with
 | none=>rw [ha] at hi;cases hi
 | some y=>cases hb:b[i]? with
  | none=>rw [ha,hb] at hi;cases hi
  | some z=>
   rw [ha,hb] at hi
   cases hi
   exact Zrz (n:=8) (h y (Zqv ha)) (h' z (Zqv hb))
theorem O4 (h:b.length=128) (h':∀ x ∈ b,x<256):Ls Ce.u8 b (Ay b):=by
 have e:(b.map fun (x:Nat)=>[AV.int .u8 (x:Int)]).flatten=Ab b:=by
  clear h h'
  induction b with
  | nil=>rfl
  | cons x b ih=>rw [Zrp,List.flatten_cons,ih];rfl
 refine ⟨b.map fun (x:Nat)=>[.int .u8 (x:Int)],?_,.inr (.inr ⟨none,by rw [e,h];rfl,by rw [e,Bt];exact (Zrc _).symm⟩),by omega⟩
 refine Ey (by simp) fun i x l h1 h2=>?_
 rw [Zq8,h1] at h2
 cases h2
 exact ⟨rfl,h' x (Zqv h1)⟩
variable {cs:List AV}
theorem Qw {e:Nat}{s:St}(h:s.get r=some (.row e cs)) (hv:cs[o]?=some v):load1 r o s=some v:=by
 unfold load1
 rw [NF h,← IU] at *
 exact hv
theorem Wk {e:Nat}{s:St}{K:AV→Prop}(h:s.get r=some (.row e (Ab bs))) (ho:o=i) (hw:bs[i]?=some w) (hk:K (.int .u8 (w:Int))):(Option.rec (motive:=fun _=>Prop) False (fun s'=>K s') (load1 r o s)):=by
 subst ho
 rw [Qw h (by unfold Ab;rw [Zq8,hw];rfl)];exact hk
def D9 (a b:List Nat) (i:Nat):List Nat:=(Ee a b).take i++a.drop i
theorem U0 {x y:Nat}(ha:a.length=128) (hb:b.length=128) (hx:a[i]?=some x) (hy:b[i]?=some y):(D9 a b i)[i]?=some x∧(D9 a b i).set i (x ^^^ y)=D9 a b (i+1):=by
 have hl:=(Zqa.1 hx).1
 have hxl:=NB ha hb
 have ht:((Ee a b).take i).length=i:=by rw [Zqz];omega
 have hg:(Ee a b)[i]?=some (x ^^^ y):=by unfold Ee;rw [List.getElem?_zipWith,hx,hy]
 have hd:a.drop i=x::a.drop (i+1):=by
  rw [Zqw hl];congr 1;exact (Zqa.1 hx).2
 unfold D9
 refine ⟨?_,?_⟩
 ·rw [Zq4 (by omega),ht,Nat.sub_self,hd];rfl
 ·rw [List.set_append,Zqh (by omega),ht,Nat.sub_self,hd,List.set_cons_zero,List.take_add_one,hg,List.append_assoc];rfl
def twoF:Fn (List Nat×List Nat×Unit):=⟨.v bytC (.v bytC .nil),fun x=>x.1.length=128∧x.2.1.length=128,fun x=>Ay (Ee x.1 x.2.1)⟩
theorem Zga (hE:EM P e) (h176:Con e 176 (relS M2)):OvOk P 131 twoF.O:=by
 refine Bs g131.b ?_
 rintro ⟨a,b,_⟩ _ ⟨v,_,rfl,⟨_,e0,hA⟩,w,_,rfl,⟨_,e1,hB⟩,rfl⟩ ⟨ha,hb⟩
 cases e0
 cases e1
 dsimp only at ha hb hA hB
 obtain ⟨cs,hs,hl,hn⟩:=hA.nth
 obtain ⟨ds,hs',hl',hn'⟩:=hB.nth
 have hvf:=hB.hf
 refine ⟨rfl,C.of_G hE g131 ?_⟩
 have fin:∀ s,s.get 0=some (.row 5 (Ab (Ee a b)))→Frz s (.sl 0 0 128 (some 128)) (twoF.out (a,b,())):=fun s h=>.sl 0 0 128 _ _ 5 _ _ _ h (fun i x h=>by rw [Zqo];exact h) (K9 (B6 _)) (.inl rfl)
 generalize twoF.out _=O at fin ⊢
 conv=>whnf
 refine Zf3 h176 ha hA ?_;conv=>whnf
 have h0:D9 a b 0=a:=by unfold D9;simp
 refine Ax hE 128 (fun i=>[(1,w),(5,.sl 0 0 128 (some 128)),(6,.int .i64 (i:Int))]) (fun i=>[.row 5 (Ab (D9 a b i))]) (fun _=>True) trivial (Abs.tells (rs:=[0]) ⟨by decide,⟨t9,r9,r9,trivial⟩,⟨⟨Bd (B6 _),by rw [AX (B6 _),h0];rfl⟩,trivial⟩⟩) ?_
 intro i hi _
 conv=>whnf
 refine AA rfl hs' ?_;conv=>whnf
 by_cases hlt:i<b.length
 ·obtain ⟨x,_,r,hx,⟨rfl,hx'⟩,-⟩:=hn i (by omega)
  obtain ⟨y,_,r',hy,⟨rfl,hy'⟩,hd⟩:=hn' i hlt
  obtain ⟨hg,hst⟩:=U0 ha hb hx hy
  have hil:=(Zqa.1 hg).1
  repeat' (first|(refine QL (i:=i) (bs:=D9 a b i) rfl (by omega) hil ?_;rw [hst];conv=>whnf)|((first|refine HD rfl rfl (by omega) (by omega) ?_|refine Am hs' hlt hd ?_|refine Ap ?_|refine AA rfl hs' ?_|refine Wk (i:=i) (bs:=D9 a b i) rfl (by omega) hg ?_|refine Ut rfl rfl hx' hy' ?_|refine v7 ?_|refine ⟨rfl,?_⟩);conv=>whnf)|refine v1 ?_ ?_|(intro _;first|omega|conv=>whnf))
  exact ⟨by omega,trivial,Abs.tells (rs:=[0]) ⟨by decide,⟨t9,r9,r9,trivial⟩,⟨o9 (B6 _),trivial⟩⟩⟩
 ·have he:D9 a b i=Ee a b:=by
   have:=NB ha hb
   unfold D9;rw [Zqi (by omega),Zq5 (by omega),Zrk]
  rw [he]
  repeat' (first|refine v1 ?_ ?_|(intro _;first|omega|conv=>whnf))
  exact fin _ rfl
def FJ:List Nat:=List.replicate 128 0
def Bi (l:List (List Nat)):List Nat:=l.foldl Ee FJ
def Em (l:List (List Nat)):Prop:=∀ b ∈ l,b.length=128∧∀ x ∈ b,x<256
theorem UY {l:List (List Nat)}(h:l[i]?=some b):Bi (l.take (i+1))=Ee (Bi (l.take i)) b:=by
 unfold Bi
 rw [List.take_add_one,h,List.foldl_append];rfl
theorem Ki {l:List (List Nat)}(h:Em l):(Bi l).length=128∧∀ x ∈ Bi l,x<256:=by
 have key:∀ (l:List (List Nat)) (a:List Nat),Em l→(a.length=128∧∀ x ∈ a,x<256)→(l.foldl Ee a).length=128∧∀ x ∈ l.foldl Ee a,x<256:=by
  intro l
  induction l with
  | nil=>intro a _ h;exact h
  | cons b l ih=>
   intro a hl h
   have hb:=hl b (by simp)
   exact ih _ (fun c hc=>hl c (by simp [hc])) ⟨NB h.1 hb.1,Zfz h.2 hb.2⟩
 exact key l FJ h ⟨by unfold FJ;simp,fun x hx=>by unfold FJ at hx;rw [(List.mem_replicate.1 hx).2];decide⟩
noncomputable def allF3:Fn (List (List Nat)×Unit):=⟨.v blkC .nil,fun x=>Em x.1,fun x=>Ay (Bi x.1)⟩
theorem Zfw (hE:EM P e) (h131:Con e 131 twoF.O):OvOk P 79 allF3.O:=by
 refine Bs g79.b ?_
 rintro ⟨l,_⟩ _ ⟨v,_,rfl,⟨_,e0,hL⟩,rfl⟩ hB
 cases e0
 have hB:Em l:=hB
 obtain ⟨cs,hs,hl,hn⟩:=hL.nth
 have hvf:=hL.hf
 dsimp only at hs hl hn
 refine ⟨rfl,C.of_G hE g79 ?_⟩
 have fin:∀ s,Frz s (Ay (Bi l)) (allF3.out (l,())):=fun s=>.plain _ rfl
 generalize allF3.out _=O at fin ⊢
 conv=>whnf
 refine Lt (n:=127) rfl rfl (by decide) ?_;conv=>whnf
 refine Ax hE l.length (fun i=>[(0,v),(3,Ay (Bi (l.take i))),(4,.int .i64 (i:Int))]) (fun _=>[]) (fun _=>True) trivial (AbsK.frz (n:=0) (e:=5) (cs:=Ab FJ) (tl:=[(0,v),(3,.sl 0 0 128 (some 128)),(4,.int .i64 0)]) (os:=[]) (rs:=[0]) .a rfl rfl rfl rfl rfl rfl ?_ rfl) ?_
 ·show [(0,CI 0 _ v),_,_]=_
  rw [FF v hvf];rfl
 intro i hi _
 conv=>whnf
 refine Ai hs ?_;conv=>whnf
 by_cases hlt:i<l.length
 ·obtain ⟨b,_,r,hb,⟨u,rfl,hu⟩,hd⟩:=hn i hlt
  have hbb:=hB b (Zqv hb)
  have hX:=Ki (l:=l.take i) fun c hc=>hB c (Zrg hc)
  have hst:=UY hb
  have hc:∀ (Q:AV→St→Prop) s,Q (Ay (Bi (l.take (i+1)))) s→ESc e 131 [Ay (Bi (l.take i)),u] s Q:=fun Q s k=>Fn.u (F:=twoF) h131 (Bi (l.take i),b,()) ⟨_,_,rfl,⟨_,rfl,O4 hX.1 hX.2⟩,_,_,rfl,⟨_,rfl,hu⟩,rfl⟩ ⟨hX.1,hbb.1⟩ (by rw [hst] at k;exact k)
  repeat' (first|((first|refine Am hs hlt hd ?_|refine Ap ?_|refine Ai hs ?_|refine hc _ _ ?_|refine v7 ?_|refine ⟨rfl,?_⟩);conv=>whnf)|refine v1 ?_ ?_|(intro _;first|omega|conv=>whnf))
  exact ⟨hlt,trivial,Abs.tells (rs:=[]) .a⟩
 ·rw [Zqi (by omega)]
  repeat' (first|refine v1 ?_ ?_|(intro _;first|omega|conv=>whnf))
  exact fin _
def Bf (c:Cfg) (s k:Int):Int:=(s / c.chunk*(c.members-1)+k) % c.members
def M8 (m r:Nat):Nat→Nat
 | 0=>0
 | i+1=>M8 m r i+(r+i) % m
theorem Zeb:∀ m<17,∀ r<m,M8 m r m*2=m*(m-1):=by decide
def FU (c:Cfg) (s:Int):Nat→Int
 | 0=>0
 | i+1=>FU c s i+Bf c s i
theorem VO {c:Cfg}{s:Int}(hm:0<c.members):∀ i,FU c s i=(M8 c.members.toNat ((s / c.chunk*(c.members-1)) % c.members).toNat i:Nat)
 | 0=>rfl
 | i+1=>by
  unfold FU M8 Bf
  rw [VO hm i]
  have h0:=Zrt (s / c.chunk*(c.members-1)) (show c.members≠0 by omega)
  rw [← Int.emod_add_emod]
  generalize (s / c.chunk*(c.members-1)) % c.members=r at *
  obtain ⟨n,hn⟩:∃ n:Nat,r=n:=⟨r.toNat,by omega⟩
  obtain ⟨m,hmm⟩:∃ m:Nat,c.members=m:=⟨c.members.toNat,by omega⟩
  rw [hmm,hn]
  simp only [Int.toNat_natCast]
  push_cast
  rfl
variable {c:Cfg}{s k:Int}
theorem LZ (hm:0<c.members):0≤Bf c s k∧Bf c s k<c.members:=⟨Zrt _ (by omega),Zrv _ hm⟩
theorem Zbe (hM:c.may):FU c s (c.members-1).toNat+Bf c s (c.members-1)=c.members*(c.members-1) / 2:=by
 unfold Cfg.may at hM
 have h1:=VO (c:=c) (s:=s) (by omega) c.members.toNat
 have h0:=Zrt (s / c.chunk*(c.members-1)) (show c.members≠0 by omega)
 have h0':=Zrv (s / c.chunk*(c.members-1)) (show 0<c.members by omega)
 have h2:=Zeb c.members.toNat (by omega) ((s / c.chunk*(c.members-1)) % c.members).toNat (by omega)
 obtain ⟨z,hz⟩:∃ z,z=M8 c.members.toNat ((s / c.chunk*(c.members-1)) % c.members).toNat c.members.toNat:=⟨_,rfl⟩
 rw [← hz] at h1 h2
 have h3:FU c s c.members.toNat=FU c s (c.members-1).toNat+Bf c s (c.members-1):=by
  rw [show c.members.toNat=(c.members-1).toNat+1 by omega]
  show _+Bf c s (((c.members-1).toNat:Nat):Int)=_
  rw [show (((c.members-1).toNat:Nat):Int)=c.members-1 by omega]
 rw [← h3,h1]
 obtain ⟨m,hm⟩:∃ m:Nat,c.members=((m+1:Nat):Int):=⟨c.members.toNat-1,by omega⟩
 rw [hm] at h2 ⊢
 rw [Int.toNat_natCast] at h2
 rw [Nat.add_sub_cancel] at h2
 have h4:((m+1:Nat):Int)*(((m+1:Nat):Int)-1)=(z:Int)*2:=by
  rw [show ((m+1:Nat):Int)-1=(m:Int) by omega];exact_mod_cast h2.symm
 rw [h4];omega
def onA (args:List AV) (c:Cfg) (s k:Int):Prop:=args=[.agg c.c,.int .i64 s,.int .i64 k]∧c.ok∧c.may∧(0≤s∧s<Ar c)
def M6 (args:List AV) (u:AV):Prop:=∃ c s k,onA args c s k∧(0≤k∧k<c.members-1)∧u=.int .i64 (Bf c s k)
def M5 (args:List AV) (u:AV):Prop:=∃ c s k,onA args c s k∧(0≤k∧k<c.members)∧u=.int .i64 (Bf c s k)
theorem We {args:List AV}{c':Cfg}{s' k':Int}(h:onA args c s k) (h':onA args c' s' k'):c=c'∧s=s'∧k=k':=by
 obtain ⟨rfl,-⟩:=h
 obtain ⟨h1,-⟩:=h'
 injection h1 with h1 h2
 injection h2 with h2 h3
 injection h3 with h3
 injection h1 with h1
 injection h2 with _ h2
 injection h3 with _ h3
 exact ⟨Cfg.inj h1,h2,h3⟩
theorem Zg5 {e:Env}(h:Con e 173 (Ag M6)) {c:Cfg}{s k:Int}(hc:c.ok) (hM:c.may) (hs:0≤s∧s<Ar c) (hk:0≤k∧k<c.members-1) {st:St}{K:AV→St→Prop}(hq:K (.int .i64 (Bf c s k)) st):ESc e 173 [.agg c.c,.int .i64 s,.int .i64 k] st K:=by
 refine ESc.rel h ⟨_,c,s,k,⟨rfl,hc,hM,hs⟩,hk,rfl⟩ ?_
 rintro u ⟨c',s',k',h1,_,rfl⟩
 obtain ⟨rfl,rfl,rfl⟩:=We h1 ⟨rfl,hc,hM,hs⟩
 exact hq
theorem Zg4 {e:Env}(h:Con e 173 (Ag M5)) {c:Cfg}{s k:Int}(hc:c.ok) (hM:c.may) (hs:0≤s∧s<Ar c) (hk:0≤k∧k<c.members) {st:St}{K:AV→St→Prop}(hq:K (.int .i64 (Bf c s k)) st):ESc e 173 [.agg c.c,.int .i64 s,.int .i64 k] st K:=by
 refine ESc.rel h ⟨_,c,s,k,⟨rfl,hc,hM,hs⟩,hk,rfl⟩ ?_
 rintro u ⟨c',s',k',h1,_,rfl⟩
 obtain ⟨rfl,rfl,rfl⟩:=We h1 ⟨rfl,hc,hM,hs⟩
 exact hq
theorem U4 (hM:c.may) (hs:0≤s∧s<Ar c):(0≤s / c.chunk∧s / c.chunk≤64)∧0≤s / c.chunk*(c.members-1)∧s / c.chunk*(c.members-1)≤1000:=by
 have hm:=B4 hM
 unfold Cfg.may at hM
 have h1:=Int.ediv_nonneg hs.1 (show 0≤c.chunk by omega)
 have h2:=Int.ediv_le_self c.chunk hs.1
 exact ⟨⟨h1,by omega⟩,Int.mul_nonneg h1 (by omega),Int.le_trans (Int.mul_le_mul (by omega:s / c.chunk≤64) (by omega:c.members-1≤15) (by omega) (by omega)) (by decide)⟩
theorem Zla (hE:EM P e):OvOk P 173 (Ag M6):=by
 refine Da g173.b ?_
 rintro args u ⟨c,s,k,⟨rfl,hc,hM,hs⟩,hk,rfl⟩
 refine ⟨rfl,rfl,C.of_G hE g173 ?_⟩
 have hr:=U4 hM hs
 have hmm:=B4 hM
 have fin:∀ st,Frz st (.int .i64 ((s / c.chunk*(c.members-1)+k) % c.members)) (.int .i64 (Bf c s k)):=fun st=>.plain _ rfl
 generalize AV.int .i64 (Bf c s k)=O at fin ⊢
 unfold Cfg.may at hM
 have hp:=DG (a:=s / c.chunk) (b:=c.members-1) (by omega) (by omega)
 conv=>whnf
 repeat' (first|((first|refine HG rfl rfl (by omega) ?_|refine JH rfl rfl (by omega) ?_|refine Cl rfl rfl hp ?_|refine v7 ?_|refine v8 ?_);conv=>whnf)|refine v5 ?_ ?_|(intro _;first|omega|conv=>whnf))
 exact fin _
theorem Zk9 (hE:EM P e) (h173:Con e 173 (Ag M6)):OvOk P 173 (Ag M5):=by
 refine Da g173.b ?_
 rintro args u ⟨c,s,k,⟨rfl,hc,hM,hs⟩,hk,rfl⟩
 refine ⟨rfl,rfl,C.of_G hE g173 ?_⟩
 have hr:=U4 hM hs
 have hmm:=B4 hM
 have hla:=Zbe (s:=s) hM
 have fin:∀ st v,v=Bf c s k→Frz st (.int .i64 v) (.int .i64 (Bf c s k)):=fun st v h=>by subst h;exact .plain _ rfl
 generalize AV.int .i64 (Bf c s k)=O at fin ⊢
 have hM':=hM
 unfold Cfg.may at hM'
 have hsum:∀ i:Nat,i≤16→0≤FU c s i∧FU c s i≤16*i:=by
  intro i
  induction i with
  | zero=>intro _;unfold FU;omega
  | succ i ih=>intro h;have:=ih (by omega);have:=LZ (c:=c) (s:=s) (k:=i) (by omega);unfold FU;omega
 have hp:=DG (a:=s / c.chunk) (b:=c.members-1) (by omega) (by omega)
 have hp2:=DG (a:=c.members) (b:=c.members-1) (by omega) (by omega)
 have hp3:0≤c.members*(c.members-1):=Int.mul_nonneg (by omega) (by omega)
 by_cases hke:k=c.members-1
 ·have hon:=LZ (c:=c) (s:=s) (k:=c.members-1) (by omega)
  subst hke
  conv=>whnf
  repeat' (first|((first|refine HG rfl rfl (by omega) ?_|refine v8 ?_);conv=>whnf)|refine v5 ?_ ?_|(intro _;first|omega|conv=>whnf))
  refine Ax hE (c.members-1).toNat (fun i=>[(1,.int .i64 s),(3,.ptr 0 0),(8,.int .i64 (FU c s i)),(9,.int .i64 (i:Int))]) (fun _=>[.row 24 c.c]) (fun _=>True) trivial (Abs.tells (rs:=[0]) .a) ?_
  intro i hi _
  have hsm:=hsum i (by omega)
  conv=>whnf
  by_cases hlt:i<(c.members-1).toNat
  ·have hc1:=fun (Q:AV→St→Prop) st q=>@Zg5 e h173 c s i hc hM hs (by omega) st Q q
   have hoi:=LZ (c:=c) (s:=s) (k:=i) (by omega)
   repeat' (first|((first|refine hc1 _ _ ?_|refine v7 ?_|refine v8 ?_|refine ⟨rfl,?_⟩);conv=>whnf)|refine v1 ?_ ?_|(intro _;first|omega|conv=>whnf))
   exact ⟨hlt,trivial,Abs.tells (rs:=[0]) .a⟩
  ·have hie:i=(c.members-1).toNat:=by omega
   rw [hie]
   rw [hie] at hsm
   repeat' (first|((first|refine Cl rfl rfl hp2 ?_|refine HG rfl rfl (by omega) ?_|refine v8 ?_);conv=>whnf)|refine v1 ?_ ?_|(intro _;first|omega|conv=>whnf))
   exact fin _ _ (by omega)
 ·conv=>whnf
  repeat' (first|((first|refine HG rfl rfl (by omega) ?_|refine JH rfl rfl (by omega) ?_|refine Cl rfl rfl hp ?_|refine v7 ?_|refine v8 ?_);conv=>whnf)|refine v5 ?_ ?_|(intro _;first|omega|conv=>whnf))
  exact fin _ _ rfl
def Iq (a:Int):List (Int×List Nat)→Option (List Nat)
 | []=>none
 | w::l=>if w.1=a then some w.2 else Iq a l
theorem Wl (a:Int):∀ W:List WR,Cg a W=Iq a (W.map fun w=>(w.at_,w.b))
 | []=>rfl
 | w::W=>by
  show (if w.at_=a then some w.b else Cg a W)=if w.at_=a then some w.b else Iq a (W.map fun w=>(w.at_,w.b))
  rw [Wl a W]
def Ca (x:Dk) (a:Int):List Nat:=Ae ((Iq a x.2.1.reverse).getD (x.1.getD a.toNat []))
theorem JX {x:Dk}{y:DK}(h:DKof x y) (a:Int):Ae (D7 y a)=Ca x a:=by
 unfold D7 F2 Ca
 rw [Wl,List.map_reverse,h.w,h.b]
theorem UE {a:Int}{b:List Nat}:∀ {L:List (Int×List Nat)},Iq a L=some b→(a,b) ∈ L
 | [],h=>by cases h
 | w::L,h=>by
  unfold Iq at h
  split at h
  ·cases h;subst_vars;exact List.mem_cons_self
  ·exact List.mem_cons_of_mem _ (UE h)
theorem All2.memR {α β:Type}{R:α→β→Prop}:∀ {l:List α}{m:List β},All2 R l m→∀ b ∈ m,∃ a,R a b
 | _,_,.nil,b,h=>by cases h
 | _,_,.cons h1 h2,b,h=>by
  rcases Zrj.1 h with rfl|h
  ·exact ⟨_,h1⟩
  ·exact All2.memR h2 b h
theorem NE {x:Dk}(h:dkC.r x l) (hk:CZ x) (a:Int):(Ca x a).length=128∧∀ y ∈ Ca x a,y<256:=by
 obtain ⟨y,hy,-⟩:=Jl h
 obtain ⟨bs,ws,dd⟩:=x
 obtain ⟨-,h1,h2,-⟩:=hk
 have e1:y.bs=bs:=hy.b
 have e2:y.ws.map (fun w=>(w.at_,w.b))=ws:=hy.w
 have key:∀ b:List Nat,(BB b∧∀ y ∈ b,y<256)→(Ae b).length=128∧∀ y ∈ Ae b,y<256:=fun b hb=>by
  unfold Ae
  split
  ·exact ⟨by simp,fun y hy=>by rw [(List.mem_replicate.1 hy).2];decide⟩
  ·rename_i hne
   refine ⟨?_,hb.2⟩
   rcases hb.1 with h|h
   ·exact absurd (Zq7.1 h) hne
   ·exact h
 refine key _ ?_
 dsimp only
 cases hl:Iq a ws.reverse with
 | some b=>
  have hm:=List.mem_reverse.1 (UE hl)
  refine ⟨(h2 _ hm).2.2,?_⟩
  show ∀ y ∈ b,y<256
  rw [← e2] at hm
  obtain ⟨w,hw,e⟩:=Zq9.1 hm
  cases e
  exact (hy.a.ws w hw).b.2
 | none=>
  show BB (bs.getD a.toNat [])∧_
  rw [Zq2]
  cases hg:bs[a.toNat]? with
  | none=>exact ⟨.inl rfl,fun y hy=>by cases hy⟩
  | some b=>
   refine ⟨h1 b (Zqv hg),?_⟩
   show ∀ y ∈ b,y<256
   rw [← e1] at hg
   obtain ⟨u,hb⟩:=All2.memR hy.a.bs b (Zqv hg)
   exact hb.2
def Bh (D:List Dk) (i:Nat):Bool:=(D[i]?.map fun d=>d.2.2).getD false
def Bn (D:List Dk) (a:Int) (mm:Nat):Nat→List (List Nat)
 | 0=>[]
 | i+1=>Bn D a mm i++(if i=mm then [] else [(D[i]?.map fun d=>Ca d a).getD []])
def DO (D:List Dk) (ms:Int) (i:Nat):Prop:=(i:Int)=ms∨Bh D i=true
open Classical in
noncomputable def Eg (c:Cfg) (D:List Dk) (ms s k:Int):Option (List Nat):=
 if ¬DO D ms (Bf c s k).toNat then some ((D[(Bf c s k).toNat]?.map fun d=>Ca d (s+1)).getD [])
 else if ∀ i<c.members.toNat,i≠(Bf c s k).toNat→¬DO D ms i then some (Bi (Bn D (s+1) (Bf c s k).toNat c.members.toNat)) else none
noncomputable def Ef:Option (List Nat)→AV
 | some b=>.tup [Ay b,.bool true]
 | none=>.tup [.nils,.bool false]
def He (c:Cfg) (D:List Dk) (s:Int):Prop:=c.may∧CH c D∧(∀ d ∈ D,Cq d)∧0≤s∧s<Ar c
noncomputable def offF:Fn (Cfg×List Dk×Int×Int×Int×Unit):=⟨.g cfgC (.v dkC.sl (.v i64C (.v i64C (.v i64C .nil)))),fun x=>He x.1 x.2.1 x.2.2.2.1∧0≤x.2.2.2.2.1∧x.2.2.2.2.1<x.1.members,fun x=>Ef (Eg x.1 x.2.1 x.2.2.1 x.2.2.2.1 x.2.2.2.2.1)⟩
variable {D:List Dk}
theorem Sn (hM:c.may) (hD:CH c D) (hG:∀ d ∈ D,Cq d) (hs:0≤s∧s<Ar c) (h175:Con e 175 seenF.O)
 (hn:∀ i,i<D.length→∃ x c l,D[i]?=some x∧dkC.r x c∧cs.drop (i*3)=c++l) (hi:(i:Int)<c.members):
 ∃ x bv wv r,D[i]?=some x∧CZ x∧dkC.r x [bv,wv,.bool (Bh D i)]∧cs.drop (i*3)=[bv,wv,.bool (Bh D i)]++r∧∀ (Q:AV→St→Prop) st,Q (Ay (Ca x (s+1))) st→ESc e 175 [.agg [bv,wv,.bool (Bh D i)],.int .i64 (s+1)] st Q:=by
 have hl:=hD.1
 have hil:i<D.length:=by omega
 obtain ⟨x,cl,r,hx,hxr,hd⟩:=hn i hil
 obtain ⟨hlen,hk⟩:=hD.2 i hil x hx
 obtain ⟨y,hy,e0⟩:=Jl hxr
 have hok:=LW hy (hG x (Zqv hx))
 have hdk:AP y=true:=by rw [Kn hy];exact hk
 have hdead:Bh D i=x.2.2:=by unfold Bh;rw [hx];rfl
 have hus:y.us.length=x.1.length:=by rw [hy.a.bs.length,hy.b]
 have hse:=JX hy (s+1)
 obtain ⟨bs,ws,dd⟩:=x
 obtain ⟨bv,wv,rfl,-,-⟩:=Hf hxr
 rw [Zqh (by omega)] at hlen
 dsimp only at hlen hus hdead
 rw [hdead]
 refine ⟨_,bv,wv,r,hx,hk,hxr,hd,fun Q st k=>?_⟩
 have hyv:y.v=.agg [bv,wv,.bool dd]:=by unfold DK.v;rw [e0]
 rw [← hse] at k
 have:=ESc.fam (e:=e) (k:=Q) (s:=st) seenF h175 ⟨y,s+1⟩ ⟨hok,hdk,by dsimp only;omega⟩ rfl k
 rw [← hyv]
 exact this
def Zjf:AC:=match P8 with|.mk c _=>c
def Rp:AC:=match YG with|.mk c _=>c
def QP:AC:=match Rp with
 | .seq _ (.seq _ (.seq _ (.seq _ (.seq _ r))))=>r
 | _=>.skip
def S5 (v:AV) (ms s:Int) (mm:Nat) (l:List (List Nat)) (i:Nat):List (Nat×AV):=[(1,v),(2,.int .i64 ms),(3,.int .i64 s),(5,.ptr 0 0),(12,.int .i64 (mm:Int)),(13,match l with|[]=>.nils|b::l=>.sl 1 0 (l.length+1) none),(14,.int .i64 (i:Int))]
def S6 (c:Cfg) (l:List (List Nat)):List AObj:=match l with
 | []=>[.row 24 c.c]
 | b::l=>[.row 24 c.c,.row 76 ((b::l).map Ay)]
theorem Fj (l:List (List Nat)):hfs (l.map Ay)=true:=hfs_iff.2 fun v hv=>by
 obtain ⟨b,_,rfl⟩:=Zq9.1 hv;rfl
theorem O3 {l:List (List Nat)}(h:Em l) (hl:0<l.length∧l.length≤1000):Ls bytC l (.fz l.length none (l.map Ay)):=by
 have e:(l.map fun b=>[Ay b]).flatten=l.map Ay:=by
  clear h hl
  induction l with
  | nil=>rfl
  | cons x b ih=>rw [Zrp,List.flatten_cons,ih];rfl
 refine ⟨l.map fun b=>[Ay b],?_,.inr (.inr ⟨none,by rw [e],by rw [e,Zqg];exact (Zrc _).symm⟩),by omega⟩
 refine Ey (by simp) fun i x l' h1 h2=>?_
 rw [Zq8,h1] at h2
 cases h2
 have:=h x (Zqv h1)
 exact ⟨_,rfl,O4 this.1 this.2⟩
theorem Q7 (D:List Dk) (a:Int) (mm:Nat):∀ i,(Bn D a mm i).length≤i∧i≤(Bn D a mm i).length+1∧(i≤mm→(Bn D a mm i).length=i)
 | 0=>⟨Zqu _,by omega,fun _=>rfl⟩
 | i+1=>by
  have:=Q7 D a mm i
  unfold Bn
  rw [Zqn]
  split <;> simp <;> omega
variable {ms:Int}
theorem Zd7 (hE:EM P e) (h79:Con e 79 allF3.O) {mm:Nat}{l:List (List Nat)}(hl:Em l) (hn:0<l.length∧l.length≤1000) (hk:∀ st,K (.tup [Ay (Bi l),.bool true]) st):W P 0 none QP (A5 (S5 v ms s mm l i)) (Al St0 (S6 c l)) [] (BG [.tmp 10,.tmp 11] K):=by
 have hLs:=O3 hl hn
 have hc:∀ (Q:AV→St→Prop) st,Q (Ay (Bi l)) st→ESc e 79 [.fz l.length none (l.map Ay)] st Q:=fun Q st k=>Fn.u (F:=allF3) h79 (l,()) ⟨_,_,rfl,⟨_,rfl,hLs⟩,rfl⟩ hl k
 rcases l with _|⟨b,l⟩
 ·exact absurd hn.1 (by simp)
 refine W.tells (AbsK.frz (n:=1) (e:=76) (cs:=(b::l).map Ay) (tl:=[(13,.sl 1 0 (l.length+1) none)]) (os:=[.row 24 c.c]) (rs:=[0,1]) ⟨rfl,by decide,⟨r9,trivial⟩,⟨r9,o9 (Fj _),trivial⟩⟩ rfl (Fj _) rfl rfl rfl rfl rfl (by show [EE 1 _ (.row 24 c.c)]=_;rw [HY rfl])) ?_
 refine Hb hE ?_
 show VW P e 0 QP (A5 [(13,.fz (l.length+1) none ((b::l).map Ay))]) (Al St0 [.row 24 c.c]) none [] _
 conv=>whnf
 repeat' (first|(refine hc _ _ ?_;conv=>whnf)|fail)
 exact hk _
theorem Zg6 (hE:EM P e) (h79:Con e 79 allF3.O) (h173:Con e 173 (Ag M5)) (h174:Inl e 174 Zjf [.tmp 6]) (h175:Con e 175 seenF.O):OvOk P 129 offF.O:=by
 refine Bs g129.b ?_
 rintro ⟨c,D,ms,s,k,_⟩ _ ⟨_,_,rfl,⟨rfl,hc⟩,v,_,rfl,⟨_,e0,hD⟩,_,_,rfl,⟨e1,-⟩,_,_,rfl,⟨e2,-⟩,_,_,rfl,⟨e3,-⟩,rfl⟩ ⟨⟨hM,hDk,hG,hs⟩,hk⟩
 cases e0
 cases e1
 cases e2
 cases e3
 dsimp only at hM hDk hG hs hk hc hD
 obtain ⟨cs,hs',hl,hn⟩:=hD.nth
 have hvf:=hD.hf
 have hmm:=B4 hM
 have hon:=LZ (c:=c) (s:=s) (k:=k) (by unfold Cfg.may at hM;omega)
 have hDl:=hDk.1
 have hM':=hM
 unfold Cfg.may at hM'
 refine ⟨?_,C.of_W g129.f g129.c ?_⟩
 ·show AM.hf (Ef _)=true
  unfold Ef;split <;> rfl
 have fin:∀ st o,o=Eg c D ms s k→Frz st (Ef o) (offF.out (c,D,ms,s,k,())):=fun st o h=>by
  subst h;refine .plain _ ?_;unfold Ef;split <;> rfl
 generalize offF.out _=O at fin ⊢
 have hco:=fun (Q:AV→St→Prop) st q=>@Zg4 e h173 c s k hc hM hs hk st Q q
 unfold Eg at fin
 obtain ⟨mm,hme⟩:∃ mm:Nat,Bf c s k=mm:=⟨(Bf c s k).toNat,by omega⟩
 rw [hme] at fin hco hon
 rw [Int.toNat_natCast] at fin
 obtain ⟨x,bv,wv,r,hx,hxk,hxr,hd,hse⟩:=Sn hM hDk hG hs h175 hn (i:=mm) hon.2
 have hml:mm<D.length:=by omega
 show W P 0 none Rp (Ah [.agg c.c,v,.int .i64 ms,.int .i64 s,.int .i64 k] 0 .lf) St0 [] (BG [.tmp 10,.tmp 11] _)
 refine Br hE ?_;conv=>whnf
 refine Br hE ?_;conv=>whnf
 refine hco _ _ ?_;conv=>whnf
 refine Br hE ?_
 have hoth:∀ i:Nat,(i:Int)≤c.members→Em (Bn D (s+1) mm i):=by
  intro i
  induction i with
  | zero=>intro _ b hb;cases hb
  | succ i ih=>
   intro hi b hb
   unfold Bn at hb
   rcases Zq1.1 hb with hb|hb
   ·exact ih (by omega) b hb
   ·split at hb
    ·cases hb
    ·obtain ⟨y,_,_,_,hy,hyk,hyr,-⟩:=Sn hM hDk hG hs h175 hn (i:=i) (by omega)
     rw [hy] at hb
     rw [List.mem_singleton.1 hb]
     exact NE hyr hyk _
 by_cases hlo:DO D ms mm
 ·rw [Zqh (not_not_intro hlo)] at fin
  have hnext:W P 0 none (.seq (.reg [.mk 14 (.mv (.c .nils)) none]) (.seq (match Rp with|.seq _ (.seq _ (.seq _ (.seq _ (.seq r _))))=>r|_=>.skip) QP)) (A5 [(1,v),(2,.int .i64 ms),(3,.int .i64 s),(5,.ptr 0 0),(12,.int .i64 (mm:Int))]) (Al St0 [.row 24 c.c]) [] (BG [.tmp 10,.tmp 11] fun u st=>Frz st u O):=by
   refine Br hE ?_;conv=>whnf
   refine Br hE ?_;conv=>whnf
   refine Ax hE c.members.toNat (fun i=>S5 v ms s mm (Bn D (s+1) mm i) i) (fun i=>S6 c (Bn D (s+1) mm i)) (fun i=>∀ j<i,j≠mm→¬DO D ms j) (fun k h=>by omega) (Abs.tells (rs:=[0]) .a) ?_
   intro i hi hI
   have hol:=Q7 D (s+1) mm i
   have hbl:=hoth i (by omega)
   have hn0:c.members.toNat=i→0<(Bn D (s+1) mm i).length∧(Bn D (s+1) mm i).length≤1000:=fun h=>by omega
   have hst:=fun (y:Dk) (hy:D[i]?=some y)=>show Bn D (s+1) mm (i+1)=Bn D (s+1) mm i++(if i=mm then [] else [Ca y (s+1)]) by
    show Bn D (s+1) mm i++_=_
    rw [hy];rfl
   have hfin:c.members.toNat=i→∀ st,Frz st (.tup [Ay (Bi (Bn D (s+1) mm i)),.bool true]) O:=fun h st=>fin st (some _) (by
    rw [h,Zqd hI])
   have hrest:=fun (h:c.members.toNat=i)=>Zd7 (v:=v) (ms:=ms) (s:=s) (mm:=mm) (i:=i) (c:=c) hE h79 hbl (hn0 h) (K:=fun u st=>Frz st u O) (hfin h)
   clear hfin
   generalize Bn D (s+1) mm i=l at *
   by_cases hlt:i<c.members.toNat
   ·obtain ⟨y,bv',wv',r',hy,hyk,hyr,hd',hse'⟩:=Sn hM hDk hG hs h175 hn (i:=i) (by omega)
    have hil:i<D.length:=by omega
    have hst:=hst y hy
    by_cases him:i=mm
    ·rw [Zqd him,Zrk] at hst
     have hI':∀ j<i+1,j≠mm→¬DO D ms j:=AR hI fun h=>absurd him h
     rcases l with _|⟨b0,l⟩
     ·conv=>whnf
      repeat' (first|((first|refine v7 ?_|refine ⟨rfl,?_⟩);conv=>whnf)|refine v1 ?_ ?_|refine v5 ?_ ?_|(intro _;first|omega|conv=>whnf))
      exact ⟨hlt,hI',by rw [hst];exact Abs.tells (rs:=[0]) .a⟩
     ·conv=>whnf
      repeat' (first|((first|refine v7 ?_|refine ⟨rfl,?_⟩);conv=>whnf)|refine v1 ?_ ?_|refine v5 ?_ ?_|(intro _;first|omega|conv=>whnf))
      exact ⟨hlt,hI',by rw [hst];exact Abs.tells (rs:=[0,1]) ⟨by decide,⟨t9,r9,r9,r9,r9,r9,r9,trivial⟩,⟨r9,o9 (Fj _),trivial⟩⟩⟩
    ·rw [Zqh him] at hst
     have him':(i:Int)≠mm:=by omega
     by_cases hli:DO D ms i
     ·have hno:∀ st,Frz st (.tup [.nils,.bool false]) O:=fun st=>fin st none (by rw [Zqh fun q=>q i hlt him hli])
      rcases l with _|⟨b0,l⟩
      all_goals
       conv=>whnf
       rcases hli with hli|hli
       ·repeat' (first|((first|refine ESc.inl h174 ?_|refine Am hs' hil hd' ?_|refine Ap ?_);conv=>whnf)|refine v1 ?_ ?_|refine v5 ?_ ?_|(intro _;first|omega|conv=>whnf))
        exact ⟨.inr rfl,_,_,rfl,rfl,hno _⟩
       ·rw [hli] at hd'
        repeat' (first|((first|refine ESc.inl h174 ?_|refine Am hs' hil hd' ?_|refine Ap ?_);conv=>whnf)|refine v1 ?_ ?_|refine v5 ?_ ?_|(intro _;first|omega|conv=>whnf))
        all_goals exact ⟨.inr rfl,_,_,rfl,rfl,hno _⟩
     ·have hI':∀ j<i+1,j≠mm→¬DO D ms j:=AR hI fun _=>hli
      have hne:(i:Int)≠ms:=fun h=>hli (.inl h)
      have hdd:Bh D i=false:=Bool.eq_false_iff.2 fun h=>hli (.inr h)
      rw [hdd] at hd' hse'
      rcases l with _|⟨b0,l⟩
      ·conv=>whnf
       repeat' (first|((first|refine ESc.inl h174 ?_|refine Am hs' hil hd' ?_|refine Ap ?_|refine A7 (cs:=[bv',wv',.bool false]) rfl ?_|refine hse' _ _ ?_|refine CJ (m:=1) ?_|refine v7 ?_|refine ⟨rfl,?_⟩);conv=>whnf)|refine v1 ?_ ?_|refine v5 ?_ ?_|(intro _;first|omega|conv=>whnf))
       exact ⟨hlt,hI',by rw [hst];exact Abs.tells (rs:=[0,2]) ⟨by decide,⟨t9,r9,r9,r9,r9,r9,r9,trivial⟩,⟨r9,⟨Bd rfl,rfl⟩,trivial⟩⟩⟩
      ·have hll:l.length≤100:=by simp only [Zq3] at hol;omega
       conv=>whnf
       repeat' (first|((first|refine ESc.inl h174 ?_|refine Am hs' hil hd' ?_|refine Ap ?_|refine A7 (cs:=[bv',wv',.bool false]) rfl ?_|refine hse' _ _ ?_|refine Cw (m:=1) (n:=l.length+1) (old:=(b0::l).map Ay) rfl rfl rfl rfl (by rw [Zqg];exact (Zrc _).symm) rfl (by decide) (by omega) ?_|refine v7 ?_|refine ⟨rfl,?_⟩);conv=>whnf)|refine v1 ?_ ?_|refine v5 ?_ ?_|(intro _;first|omega|conv=>whnf))
       refine ⟨hlt,hI',?_⟩
       rw [hst]
       refine Abs.tells (rs:=[0,3]) ⟨by decide,⟨t9,r9,r9,r9,r9,⟨rfl,?_⟩,r9,trivial⟩,⟨r9,⟨Bd (Fj _),?_⟩,trivial⟩⟩
       ·show _=some (AV.sl 3 0 ((l++[Ca y (s+1)]).length+1) none)
        rw [Zqn];rfl
       ·show _=some (Bv _ (AObj.row 76 (((b0::l)++[Ca y (s+1)]).map Ay)))
        rw [AX (Fj _),Zqy];rfl
   ·have hie:c.members.toNat=i:=by omega
    have hrest:=hrest hie
    rcases l with _|⟨b0,l⟩
    ·exact absurd (hn0 hie).1 (by simp)
    ·conv=>whnf
     repeat' (first|refine v1 ?_ ?_|(intro _;first|omega|conv=>whnf))
     refine W.tells (Abs.tells (tl:=S5 v ms s mm (b0::l) i) (os:=S6 c (b0::l)) (rs:=[0,1]) ⟨by decide,⟨t9,r9,r9,r9,r9,r9,r9,trivial⟩,⟨r9,o9 (Fj _),trivial⟩⟩) hrest
  conv=>whnf
  rcases hlo with hlo|hlo
  ·repeat' (first|((first|refine ESc.inl h174 ?_|refine Am hs' hml hd ?_|refine Ap ?_|refine An ?_);conv=>whnf)|refine v5 ?_ ?_|(intro _;first|omega|conv=>whnf))
   refine W.tells (Abs.tells (tl:=[(1,v),(2,.int .i64 ms),(3,.int .i64 s),(5,.ptr 0 0),(12,.int .i64 (mm:Int))]) (os:=[.row 24 c.c]) (rs:=[0]) .a) hnext
  ·rw [hlo] at hd
   repeat' (first|((first|refine ESc.inl h174 ?_|refine Am hs' hml hd ?_|refine Ap ?_|refine An ?_);conv=>whnf)|refine v5 ?_ ?_|(intro _;first|omega|conv=>whnf))
   all_goals refine W.tells (Abs.tells (tl:=[(1,v),(2,.int .i64 ms),(3,.int .i64 s),(5,.ptr 0 0),(12,.int .i64 (mm:Int))]) (os:=[.row 24 c.c]) (rs:=[0]) .a) hnext
 ·rw [Zqd hlo,hx] at fin
  have hne:(mm:Int)≠ms:=fun h=>hlo (.inl h)
  have hdd:Bh D mm=false:=Bool.eq_false_iff.2 fun h=>hlo (.inr h)
  rw [hdd] at hd hse
  conv=>whnf
  repeat' (first|((first|refine ESc.inl h174 ?_|refine Am hs' hml hd ?_|refine Ap ?_|refine A7 (cs:=[bv,wv,.bool false]) rfl ?_|refine hse _ _ ?_|refine v7 ?_|refine As ?_);conv=>whnf)|refine v5 ?_ ?_|(intro _;first|omega|conv=>whnf))
  exact ⟨.inr rfl,_,_,rfl,rfl,fin _ (some _) rfl⟩
def Zi7:AC:=match PJ with|.mk c _=>c
def D6:Lo→Int→Int
 | (_,lo,sp,po,_,_,_),s=>if sp=true∧s<po then -1 else lo
noncomputable def Cb (d:Dv) (D:List Dk) (s k:Int):Option (List Nat):=Eg d.1 D (D6 d.2.2.1 s) s k
noncomputable def fetF:Fn (Dv×List Dk×Int×Int×Unit):=⟨.g dvC (.v dkC.sl (.v i64C (.v i64C .nil))),fun x=>He x.1.1 x.2.1 x.2.2.1∧0≤x.2.2.2.1∧x.2.2.2.1<x.1.1.members,fun x=>Ef (Cb x.1 x.2.1 x.2.2.1 x.2.2.2.1)⟩
theorem Zij (hE:EM P e) (h129:Con e 129 offF.O) (h130:Inl e 130 Zi7 [.tmp 4]):OvOk P 78 fetF.O:=by
 refine Bs g78.b ?_
 rintro ⟨⟨c,bk,⟨ev,lo,sp,po,dn,nl,br⟩,hs,⟨ag,sq,tl,us,L⟩,fs,nx,so⟩,D,s,k,_⟩ _ ⟨_,_,rfl,hd,v,_,rfl,⟨_,e0,hD⟩,_,_,rfl,⟨e1,z1⟩,_,_,rfl,⟨e2,z2⟩,rfl⟩ ⟨hok,hk⟩
 cases e0
 cases e1
 cases e2
 obtain ⟨hv,lv,fv,rfl,⟨ho,o1,o2,o3,o4,o5,o6,o7,o8,oN⟩,hH,hL,hF⟩:=Bl hd
 have hvh:∀ o,AM.hf (Ef o)=true:=fun o=>by unfold Ef;cases o <;> rfl
 refine ⟨hvh _,C.of_G hE g78 ?_⟩
 have hf:Aa (D6 (ev,lo,sp,po,dn,nl,br) s):=by
  show Aa (if sp=true∧s<po then -1 else lo)
  split
  ·unfold Aa;omega
  ·exact o2
 have hc:=fun (Q:AV→St→Prop) st q=>@Fn.u _ e 129 st Q offF [.agg c.c,v,.int .i64 (D6 (ev,lo,sp,po,dn,nl,br) s),.int .i64 s,.int .i64 k] h129 (c,D,D6 (ev,lo,sp,po,dn,nl,br) s,s,k,()) ⟨_,_,rfl,⟨rfl,ho⟩,_,_,rfl,⟨_,rfl,hD⟩,_,_,rfl,⟨rfl,AW hf⟩,_,_,rfl,⟨rfl,z1⟩,_,_,rfl,⟨rfl,z2⟩,rfl⟩ ⟨hok,hk⟩ q
 have hout:offF.out (c,D,D6 (ev,lo,sp,po,dn,nl,br) s,s,k,())=fetF.out ((c,bk,(ev,lo,sp,po,dn,nl,br),hs,(ag,sq,tl,us,L),fs,nx,so),D,s,k,()):=rfl
 have fin:∀ st,Frz st (fetF.out ((c,bk,(ev,lo,sp,po,dn,nl,br),hs,(ag,sq,tl,us,L),fs,nx,so),D,s,k,())) (fetF.out ((c,bk,(ev,lo,sp,po,dn,nl,br),hs,(ag,sq,tl,us,L),fs,nx,so),D,s,k,())):=fun st=>.plain _ (hvh _)
 rw [hout] at hc
 have hval:∃ a b,fetF.out ((c,bk,(ev,lo,sp,po,dn,nl,br),hs,(ag,sq,tl,us,L),fs,nx,so),D,s,k,())=.tup [a,b]:=by
  show ∃ a b,Ef _=_
  generalize Cb _ _ _ _=o
  cases o <;> exact ⟨_,_,rfl⟩
 obtain ⟨ra,rb,hval⟩:=hval
 rw [hval] at hc fin ⊢
 unfold D6 at hc
 dsimp only at hc
 change VW P e 0 _ (Ah [_,v,.int .i64 s,.int .i64 k] 0 .lf) St0 none [] _
 cases sp
 ·rw [Zqh (fun h=>Bool.false_ne_true h.1)] at hc
  conv=>whnf
  repeat' (first|((first|refine ESc.inl h130 ?_|refine hc _ _ ?_|refine ⟨rfl,?_⟩);conv=>whnf)|fail)
  exact fin _
 ·by_cases hp:s<po
  ·rw [Zqd ⟨rfl,hp⟩] at hc
   conv=>whnf
   repeat' (first|((first|refine ESc.inl h130 ?_|refine hc _ _ ?_|refine ⟨rfl,?_⟩);conv=>whnf)|refine v1 ?_ ?_|(intro _;first|omega|conv=>whnf))
   exact fin _
  ·rw [Zqh (fun h=>hp h.2)] at hc
   conv=>whnf
   repeat' (first|((first|refine ESc.inl h130 ?_|refine hc _ _ ?_|refine ⟨rfl,?_⟩);conv=>whnf)|refine v1 ?_ ?_|(intro _;first|omega|conv=>whnf))
   exact fin _
def slC:AV→List AV
 | .fz _ _ l=>l
 | _=>[]
theorem Sl.slC (h:Sl es n l v):Go.AM.slC v=l:=by
 rcases h with ⟨rfl,_,rfl⟩|⟨rfl,_,rfl⟩|⟨c,rfl,_⟩ <;> rfl
def D5 (d:Dv) (s k:Int):List Nat:=((d.2.2.2.1[(A9 d.2.2.2.1 s).toNat]?.map fun h=>h.2.1[k.toNat]?.getD []).getD [])
def MG (d:Dv) (s k:Int):Prop:=0≤A9 d.2.2.2.1 s∧(D5 d s k).length≠0
open Classical in
noncomputable def BX (d:Dv) (D:List Dk) (s k:Int):Option (List Nat):=if MG d s k then some (D5 d s k) else Cb d D s k
open Classical in
noncomputable def Jf (d:Dv) (l:List AV) (D:List Dk) (s k:Int):AV:=if MG d s k then .tup [(slC ((slC (l.getD 14 .nils)).getD ((A9 d.2.2.2.1 s).toNat*6+1) .nils)).getD k.toNat .nils,.bool true] else Ef (Cb d D s k)
def KE (d:Dv) (D:List Dk) (s k:Int):Prop:=He d.1 D s∧Cc d.1 d.2.2.2.1∧0≤k∧k<d.1.members
def I5 (args:List AV) (u:AV):Prop:=∃ d l D v s k,args=[.agg l,v,.int .i64 s,.int .i64 k]∧dvC.r d l∧Ls dkC D v∧Aa s∧Aa k∧KE d D s k∧u=Jf d l D s k
theorem Q3 {d:Dv}{l:List AV}(hd:dvC.r d l) {s k:Int}(hs:Cc d.1 d.2.2.2.1) (hk:0≤k∧k<d.1.members) (hp:0≤A9 d.2.2.2.1 s):∃ (hv:AV) (cs:List AV) (h:Hd) (bv dv:AV) (r xs:List AV) (u:AV) (r':List AV),d.2.2.2.1[(A9 d.2.2.2.1 s).toNat]?=some h∧l.getD 14 .nils=hv∧Sl 6 d.2.2.2.1.length cs hv∧cs.drop ((A9 d.2.2.2.1 s).toNat*6)=[.int .i64 h.1,bv,dv,.int .u8 (h.2.2.2.1:Int),.bool h.2.2.2.2.1,.int .u32 h.2.2.2.2.2]++r∧Sl 1 h.2.1.length xs bv∧xs.drop (k.toNat*1)=u::r'∧k.toNat<h.2.1.length∧Ls Ce.u8 (D5 d s k) u:=by
 obtain ⟨c,bk,⟨ev,lo,sp,po,dn,nl,br⟩,hs',⟨ag,sq,tl,us,L⟩,fs,nx,so⟩:=d
 obtain ⟨hv,lv,fv,rfl,-,hH,-,-⟩:=Bl hd
 obtain ⟨cs,h1,hl,hn⟩:=hH.nth
 have hlt:=GW hs' s
 dsimp only at hs hk hp
 obtain ⟨⟨st,bl,di,ph,de,hq⟩,_,r,hx,hxr,hdr⟩:=hn (A9 hs' s).toNat (by omega)
 obtain ⟨bv,dv,rfl,g1,g2,-⟩:=Cn hxr
 obtain ⟨xs,x1,x2,hn2⟩:=g2.nth
 have hhd:=(hs.1 _ (by omega) _ hx).1
 unfold DD at hhd
 have hbl:=hhd.2.1
 obtain ⟨b,_,r',hb,⟨u,rfl,hu⟩,hd2⟩:=hn2 k.toNat (by omega)
 refine ⟨hv,cs,_,bv,dv,r,xs,u,r',hx,rfl,h1,hdr,x1,hd2,by dsimp only;omega,?_⟩
 unfold D5
 dsimp only
 rw [hx]
 show Ls Ce.u8 (bl[k.toNat]?.getD []) u
 rw [hb]
 exact hu
theorem YJ (hD:CH c D) (hL:Ls dkC D v) (hi:(i:Int)≤c.members):∃ x l,D[i]?=some x∧dkC.r x l∧CZ x:=by
 obtain ⟨cs,-,-,hn⟩:=hL.nth
 have hl:=hD.1
 obtain ⟨x,l,_,hx,hr,-⟩:=hn i (by omega)
 exact ⟨x,l,hx,hr,(hD.2 i (by omega) x hx).2⟩
theorem QS (hD:CH c D) (hL:Ls dkC D v) (a:Int) (mm:Nat):∀ i:Nat,(i:Int)≤c.members→Em (Bn D a mm i)
 | 0,_=>fun b hb=>by cases hb
 | i+1,hi=>fun b hb=>by
  unfold Bn at hb
  rcases Zq1.1 hb with hb|hb
  ·exact QS hD hL a mm i (by omega) b hb
  ·split at hb
   ·cases hb
   ·obtain ⟨y,l,hy,hr,hk⟩:=YJ hD hL (i:=i) (by omega)
    rw [hy] at hb
    rw [List.mem_singleton.1 hb]
    exact NE hr hk _
theorem Wf (hok:He c D s) (hL:Ls dkC D v) (h:Eg c D ms s k=some b):b.length=128∧∀ x ∈ b,x<256:=by
 obtain ⟨hM,hD,-,-⟩:=hok
 have hM':=hM
 unfold Cfg.may at hM'
 have hon:=LZ (c:=c) (s:=s) (k:=k) (by omega)
 unfold Eg at h
 split at h
 ·obtain ⟨x,l,hx,hr,hk⟩:=YJ hD hL (i:=(Bf c s k).toNat) (by omega)
  rw [hx] at h
  cases h
  exact NE hr hk _
 ·split at h
  ·cases h
   exact Ki (QS hD hL _ _ _ (by omega))
  ·cases h
theorem Rw (h:Con e 43 (Ag I5)) {d:Dv}(hd:dvC.r d l) (hD:Ls dkC D v) (hs:Aa s) (hk:Aa k) (hok:KE d D s k) (hb:BX d D s k=some b):∃ u,Ls Ce.u8 b u∧∀ (Q:AV→St→Prop) st,Q (.tup [u,.bool true]) st→ESc e 43 [.agg l,v,.int .i64 s,.int .i64 k] st Q:=by
 have key:∀ u,Jf d l D s k=u→∀ (Q:AV→St→Prop) st,Q u st→ESc e 43 [.agg l,v,.int .i64 s,.int .i64 k] st Q:=by
  rintro u rfl Q st hq
  refine ESc.rel h ⟨_,d,l,D,v,s,k,rfl,hd,hD,hs,hk,hok,rfl⟩ ?_
  rintro u ⟨d',l',D',v',s',k',e1,g1,g2,_,_,_,rfl⟩
  injection e1 with e1 e2
  injection e2 with e2 e3
  injection e3 with e3 e4
  injection e4 with e4
  injection e1 with e1
  injection e3 with _ e3
  injection e4 with _ e4
  subst e1 e2 e3 e4
  rw [dvC.inj g1 hd,g2.inj hD]
  exact hq
 unfold Jf at key
 unfold BX at hb
 by_cases hi:MG d s k
 ·rw [Zqd hi] at hb key
  cases hb
  obtain ⟨hv,cs,x,bv,dv,r,xs,u,r',h1,h2,h3,h4,h5,h6,h7,h8⟩:=Q3 hd hok.2.1 hok.2.2 hi.1
  refine ⟨u,h8,key _ ?_⟩
  have e1:cs.getD ((A9 d.2.2.2.1 s).toNat*6+1) .nils=bv:=by
   have:(cs.drop ((A9 d.2.2.2.1 s).toNat*6))[1]?=some bv:=by rw [h4];rfl
   rw [Zqk] at this
   rw [Zq2,this];rfl
  have e2:xs.getD k.toNat .nils=u:=by
   have:(xs.drop (k.toNat*1))[0]?=some u:=by rw [h6];rfl
   rw [Zqk,Zrc,Zri] at this
   rw [Zq2,this];rfl
  rw [h2,h3.slC,e1,h5.slC,e2]
 ·rw [Zqh hi] at hb key
  rw [hb] at key
  obtain ⟨h1,h2⟩:=Wf hok.1 hD hb
  exact ⟨Ay b,O4 h1 h2,key _ rfl⟩
theorem Zoo (hE:EM P e) (h78:Con e 78 fetF.O) (h80:Inl e 80 Mg [.cells 4 6,.tmp 5]) (h132:Con e 132 hplF.O):OvOk P 43 (Ag I5):=by
 refine Da g43.b ?_
 rintro args u ⟨d,l,D,v,s,k,rfl,hd,hD,hs,hk,hok,rfl⟩
 have hvf:=hD.hf
 have hvh:∀ o,AM.hf (Ef o)=true:=fun o=>by unfold Ef;cases o <;> rfl
 have hla:hfs [AV.agg l,v,.int .i64 s,.int .i64 k]=true:=by
  show (hfs l && (AM.hf v && (true && (true && true))))=true
  rw [dvC.hf hd,hvf];rfl
 have hc:=fun (Q:AV→St→Prop) st q=>@Fn.u _ e 78 st Q fetF [.agg l,v,.int .i64 s,.int .i64 k] h78 (d,D,s,k,()) ⟨_,_,rfl,hd,_,_,rfl,⟨_,rfl,hD⟩,_,_,rfl,⟨rfl,AW hs⟩,_,_,rfl,⟨rfl,AW hk⟩,rfl⟩ ⟨hok.1,hok.2.2⟩ q
 replace hc:∀ (Q:AV→St→Prop) st,Q (Ef (Cb d D s k)) st→ESc e 78 [.agg l,v,.int .i64 s,.int .i64 k] st Q:=hc
 have hlt:=GW d.2.2.2.1 s
 have hcell:=fun hp=>@Q3 d l hd s k hok.2.1 hok.2.2 hp
 have hch:∀ hv,Ls hdC d.2.2.2.1 hv→∀ (Q:AV→St→Prop) st,Q (.int .i64 (A9 d.2.2.2.1 s)) st→ESc e 132 [hv,.int .i64 s] st Q:=fun hv hH Q st q=>Fn.u (F:=hplF) h132 (d.2.2.2.1,s,()) ⟨_,_,rfl,⟨_,rfl,hH⟩,_,_,rfl,⟨rfl,AW hs⟩,rfl⟩ trivial q
 have hval:∃ a b,Ef (Cb d D s k)=.tup [a,b]:=by
  generalize Cb _ _ _ _=o
  cases o <;> exact ⟨_,_,rfl⟩
 have hvh1:=hvh (Cb d D s k)
 obtain ⟨ra,rb,hval⟩:=hval
 by_cases hp:0≤A9 d.2.2.2.1 s
 ·obtain ⟨hv,cs,x,bv,dv,r,xs,u,r',h1,h2,h3,h4,h5,h6,h7,h8⟩:=hcell hp
  have e1:cs.getD ((A9 d.2.2.2.1 s).toNat*6+1) .nils=bv:=by
   have:(cs.drop ((A9 d.2.2.2.1 s).toNat*6))[1]?=some bv:=by rw [h4];rfl
   rw [Zqk] at this
   rw [Zq2,this];rfl
  have e2:xs.getD k.toNat .nils=u:=by
   have:(xs.drop (k.toNat*1))[0]?=some u:=by rw [h6];rfl
   rw [Zqk,Zrc,Zri] at this
   rw [Zq2,this];rfl
  have hout:Jf d l D s k=if (D5 d s k).length≠0 then .tup [u,.bool true] else .tup [ra,rb]:=by
   unfold Jf MG
   rw [h2,h3.slC,e1,h5.slC,e2,hval]
   by_cases hb:(D5 d s k).length≠0
   ·rw [Zqd ⟨hp,hb⟩,Zqd hb]
   ·rw [Zqh (fun q=>hb q.2),Zqh hb]
  have huf:AM.hf u=true:=h8.hf
  obtain ⟨us,hus,hul,-⟩:=h8.nth
  rw [hval] at hc hvh1
  rw [hout]
  generalize D5 d s k=b at *
  refine ⟨hla,?_,C.of_G hE g43 ?_⟩
  ·split
   ·show (AM.hf u && (true && true))=true;rw [huf];rfl
   ·exact hvh1
  have hch:=hch hv
  generalize A9 d.2.2.2.1 s=j at *
  obtain ⟨c,bk,⟨ev,lo,sp,po,dn,nl,br⟩,hs',⟨ag,sq,tl,us',L⟩,fs,nx,so⟩:=d
  obtain ⟨hv',lv,fv,rfl,ho,hH,hL,hF⟩:=Bl hd
  have h2:hv'=hv:=h2
  subst h2
  have hch:=hch hH
  obtain ⟨st,bl,di,ph,de,hq⟩:=x
  dsimp only at h3 h4 h5 h7 hlt
  by_cases hb:b.length≠0
  ·rw [Zqd hb]
   conv=>whnf
   repeat' (first|((first|refine ESc.inl h80 ?_|refine hch _ _ ?_|refine BS rfl h3 rfl (show j=_ by omega) (by omega) h4 ?_|refine A7 (cs:=[.int .i64 st,bv,dv,.int .u8 (ph:Int),.bool de,.int .u32 hq]) rfl ?_|refine BS rfl h5 rfl (show k=_ by have:=hok.2.2.1;omega) h7 h6 ?_|refine Ap ?_|refine Ai hus ?_);conv=>whnf)|refine v1 ?_ ?_|refine v3 ?_ ?_|(intro _;first|omega|conv=>whnf))
   exact .plain _ (by show (AM.hf u && (true && true))=true;rw [huf];rfl)
  ·rw [Zqh hb]
   conv=>whnf
   repeat' (first|((first|refine ESc.inl h80 ?_|refine hch _ _ ?_|refine hc _ _ ?_|refine BS rfl h3 rfl (show j=_ by omega) (by omega) h4 ?_|refine A7 (cs:=[.int .i64 st,bv,dv,.int .u8 (ph:Int),.bool de,.int .u32 hq]) rfl ?_|refine BS rfl h5 rfl (show k=_ by have:=hok.2.2.1;omega) h7 h6 ?_|refine Ap ?_|refine Ai hus ?_);conv=>whnf)|refine v1 ?_ ?_|refine v3 ?_ ?_|(intro _;first|omega|conv=>whnf))
   exact .plain _ hvh1
 ·have hout:Jf d l D s k=.tup [ra,rb]:=by
   unfold Jf MG
   rw [Zqh (fun q=>hp q.1),hval]
  rw [hval] at hc hvh1
  rw [hout]
  refine ⟨hla,hvh1,C.of_G hE g43 ?_⟩
  obtain ⟨c,bk,⟨ev,lo,sp,po,dn,nl,br⟩,hs',⟨ag,sq,tl,us',L⟩,fs,nx,so⟩:=d
  obtain ⟨hv',lv,fv,rfl,ho,hH,hL,hF⟩:=Bl hd
  have hch:=hch hv' hH
  dsimp only at hch hlt hp
  generalize A9 hs' s=j at *
  conv=>whnf
  repeat' (first|((first|refine ESc.inl h80 ?_|refine hch _ _ ?_|refine hc _ _ ?_);conv=>whnf)|refine v1 ?_ ?_|(intro _;first|omega|conv=>whnf))
  exact .plain _ hvh1
end Go.AM
