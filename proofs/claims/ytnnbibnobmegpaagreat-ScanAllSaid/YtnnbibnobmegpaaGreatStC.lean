/-
 Functions of the program as the abstract machine reads them, and what is stated of them, checked by the kernel. No conditions.
-/
import Derived.Test.YtnnbibnobmegpaaGreatStB
import Derived.Test.YtnnbibnobmegpaaGreatAM5
set_option linter.unusedVariables false
set_option linter.unusedSimpArgs false
set_option linter.unnecessarySimpa false
set_option maxRecDepth 100000
namespace Go.AM
attribute [local irreducible] W
open X
structure DB.any (x:DB):Prop where
 st:Aj x.st
 sl:Sl 1 x.sl.length (Bs x.sl) x.sv
 sb:∀ s ∈ x.sl,Aj s
 bl:Sl 1 x.us.length x.us x.bv
 bs:All2 BAt x.us x.bs
 pb:BAt x.pv x.pb
variable {x:DB}
theorem DB.inja {y:DB}(hx:x.any) (hy:y.any) (h:x.d.v=y.d.v):x=y:=by
 obtain ⟨st,sv,sl,bv,us,bs,pv,pb⟩:=x
 obtain ⟨st',sv',sl',bv',us',bs',pv',pb'⟩:=y
 have h:=AV.agg.inj h
 unfold DB.d Dl.c at h
 injection h with e1 h
 injection h with e2 h
 injection h with e3 h
 injection h with e4 h
 injection e1 with _ e1
 dsimp only at e1 e2 e3 e4
 subst e1 e2 e3 e4
 have e5:=Od (hx.sl.l_inj hy.sl)
 have e6:=hx.bl.l_inj hy.bl
 have e7:=hx.pb.inj hy.pb
 dsimp only at e5 e6 e7
 subst e5 e6 e7
 have:∀ {us:List AV}{bs bs':List (List Nat)},All2 BAt us bs→All2 BAt us bs'→bs=bs':=by
  intro us
  induction us with
  | nil=>intro _ _ a b;cases a;cases b;rfl
  | cons u us ih=>
   intro _ _ a b
   cases a with
   | cons a1 a2=>cases b with
    | cons b1 b2=>rw [a1.inj b1,ih a2 b2]
 have e11:=this hx.bs hy.bs
 dsimp only at e11
 subst e11;rfl
theorem K4 (h:x.any):AM.hf x.d.v=true:=by
 show (true && (AM.hf x.sv && (AM.hf x.bv && (AM.hf x.pv && true))))=true
 rw [h.sl.hf,h.bl.hf,h.pb.1.hf];rfl
def Hx (b:List Nat):Bool:=decide (1000<b.length)
def Dy (x:DB):Bool:=decide (100<x.sl.length∨100<x.us.length∨1000<x.pb.length) || x.bs.any Hx
theorem Zg1 {us:List AV}{bs:List (List Nat)}(h:All2 BAt us bs) (hs:∀ b ∈ bs,b.length<1000000000):All2 (fun u n=>BN.ok ⟨u,n⟩) us (bs.map List.length):=by
 induction h with
 | nil=>exact .nil
 | @cons u b us bs a _ ih=>exact .cons ⟨⟨_,a.1⟩,hs b (by simp)⟩ (ih fun c hc=>hs c (by simp [hc]))
theorem QB (h:x.any) (hg:Dy x=false):x.ok:=by
 unfold Dy at hg
 simp only [Zp0,Zpl] at hg
 obtain ⟨h1,h2⟩:=hg
 rw [List.any_eq_false] at h2
 have h3:∀ b ∈ x.bs,b.length<1000000000:=by
  intro b hb
  have:=h2 b hb
  unfold Hx at this
  simp only [Zpc] at this
  omega
 refine ⟨⟨h.st,h.sl,h.sb,?_,⟨h.bl,Zg1 h.bs h3,?_⟩,⟨⟨_,h.pb.1⟩,?_⟩⟩,h.bs,h.pb⟩
 ·show x.sl.length<_;omega
 ·show x.us.length<_;omega
 ·show x.pb.length<_;omega
def grtF:Fam DB:=⟨DB.any,fun x=>[x.d.v],fun x=>.bool (Dy x),fun x y hx hy h=>by rw [DB.inja hx hy (Zor h).1]⟩
theorem Zip {e:Env}(hE:EM P e):OvOk P 21 grtF.O:=by
 refine Bk g21.b fun x hx=>?_
 refine ⟨by show (AM.hf x.d.v && true)=true;rw [K4 hx];rfl,rfl,C.of_G hE g21 ?_⟩
 have hx0:=hx
 obtain ⟨st,sv,sl,bv,us,bs,pv,pb⟩:=x
 obtain ⟨h1,h2,h3,h4,h5,h6⟩:=hx
 dsimp only at h1 h2 h3 h4 h5 h6
 have h7:=h5.length
 have h8:=h6.1
 have fin:∀ s (b:Bool),b=Dy ⟨st,sv,sl,bv,us,bs,pv,pb⟩→Frz s (.bool b) (.bool (Dy ⟨st,sv,sl,bv,us,bs,pv,pb⟩)):=by rintro s b rfl;exact .plain _ rfl
 show VW P e 0 (match a21 with|.mk c _=>c) (Ah [AV.agg [.int .i64 st,sv,bv,pv]] 0 .lf) St0 none [] (AR [.tmp 2] (fun w s'=>Frz s' w (.bool (Dy ⟨st,sv,sl,bv,us,bs,pv,pb⟩))))
 have hDf:hfs [.int .i64 st,sv,bv,pv]=true:=by
  show (true && (AM.hf sv && (AM.hf bv && (AM.hf pv && true))))=true
  rw [h2.hf,h4.hf,h8.hf];rfl
 by_cases hT:100<sl.length∨100<us.length∨1000<pb.length
 ·have hg:Dy ⟨st,sv,sl,bv,us,bs,pv,pb⟩=true:=by unfold Dy;rw [Zok hT];rfl
  conv=>whnf
  repeat' (first|(refine Af rfl h2 ?_;conv=>whnf)|(refine Af rfl h4 ?_;conv=>whnf)|(refine Af rfl h8 ?_;conv=>whnf)|((refine w3 rfl rfl ?_ ?_) <;> intro _ <;> first|(exfalso;omega)|(conv=>whnf))|fail)
  all_goals first|exact fin _ _ hg.symm|(exfalso;omega)
 ·have hg:Dy ⟨st,sv,sl,bv,us,bs,pv,pb⟩=bs.any Hx:=by unfold Dy;rw [Zow hT];rfl
  conv=>whnf
  repeat' (first|(refine Af rfl h2 ?_;conv=>whnf)|(refine Af rfl h4 ?_;conv=>whnf)|(refine Af rfl h8 ?_;conv=>whnf)|((refine w3 rfl rfl ?_ ?_) <;> intro _ <;> first|(exfalso;omega)|(conv=>whnf))|fail)
  refine Ce (α:=Nat) (fun i=>[(1,.ptr 0 0),(3,.int .i64 (i:Int))]) (fun _=>[.row 53 [.int .i64 st,sv,bv,pv]]) (fun i=>us.length-i) (fun i=>i≤us.length∧(bs.take i).any Hx=false) 0 ⟨Zoy _,rfl⟩
   (Abs.tells (rs:=[0]) .a) ?_
  rintro i ⟨hi,hI⟩
  refine A9 hE ?_;conv=>whnf
  refine Af rfl h4 ?_;conv=>whnf
  refine Ag rfl rfl (fun h=>?_) (fun h=>?_)
  ·have hlt:i<us.length:=by omega
   have hlb:i<bs.length:=by omega
   obtain ⟨b,hb1,hb2⟩:=h5.get (Zof hlt)
   have hug:us[i]?=some us[i]:=Zof hlt
   rw [Zof hlb] at hb1
   have hb1:=Zpn hb1
   subst hb1
   have htk:(bs.take (i+1)).any Hx=Hx bs[i]:=by rw [Zos hlb,List.any_append,hI];simp
   have hall:Hx bs[i]=true→bs.any Hx=true:=fun h=>List.any_eq_true.2 ⟨_,Zpg hlb,h⟩
   revert htk hb2 hug hall
   generalize us[i]=u
   generalize bs[i]=b
   intro hug hb2 htk hall
   have hbl:=hb2.1
   conv=>whnf
   refine A8 rfl h4 rfl hlt ?_;conv=>whnf
   refine EHead.mk (v:=u) (by rw [Zpi,Zoq,Zpo];exact hug) ?_;conv=>whnf
   refine Af rfl hbl ?_;conv=>whnf
   refine Dm rfl rfl (fun h=>?_) (fun h=>?_)
   ·conv=>whnf
    exact fin _ _ (by rw [hg];exact (hall (by unfold Hx;exact Zok (by omega))).symm)
   ·conv=>whnf
    repeat' (first|((first|refine w7 rfl rfl (by omega) ?_|refine ⟨rfl,?_⟩);conv=>whnf)|fail)
    refine ⟨i+1,⟨hlt,by rw [htk];unfold Hx;exact Zow (by omega)⟩,by omega,Abs.tells (rs:=[0]) .a⟩
  ·have hin:bs.take i=bs:=Zoo (by omega)
   rw [hin] at hI
   conv=>whnf
   exact fin _ _ (by rw [hg,hI])
end Go.AM
namespace Go.AM
attribute [local irreducible] W
open X
structure WR where
 at_:Int
 u:AV
 b:List Nat
def WR.c (w:WR):List AV:=[.int .i64 w.at_,w.u]
structure WR.any (w:WR):Prop where
 at_:Aj w.at_
 b:BAt w.u w.b
def Ad (L:List WR):List AV:=L.flatMap WR.c
theorem GX (x:WR) (L:List WR):Ad (x::L)=x.c++Ad L:=rfl
theorem Dt:∀ (L:List WR),(Ad L).length=L.length*2
 | []=>rfl
 | x::L=>by rw [GX,Zot,Dt L,Zo9];show 2+_=_;omega
theorem Uv:∀ (L:List WR) (i:Nat),(Ad L).drop (i*2)=Ad (L.drop i)
 | L,0=>by simp
 | [],i+1=>by simp [Ad]
 | x::L,i+1=>by
  rw [List.drop_succ_cons,← Uv L i,GX,show (i+1)*2=x.c.length+i*2 by show (i+1)*2=2+i*2;omega,List.drop_append,Zpb (by omega),List.nil_append]
  congr 1;omega
theorem Io {L:List WR}{i:Nat}(h:i<L.length):(Ad L).drop (i*2)=L[i].c++Ad (L.drop (i+1)):=by
 rw [Uv,Zo2 h,GX]
theorem WR.inj {x y:WR}(hx:x.any) (hy:y.any) (h:x.c=y.c):x=y:=by
 obtain ⟨a,u,b⟩:=x
 obtain ⟨a',u',b'⟩:=y
 simp [WR.c] at h
 obtain ⟨rfl,rfl⟩:=h
 have:=hx.b.inj hy.b
 dsimp only at this
 rw [this]
theorem On:∀ {L M:List WR},(∀ o ∈ L,o.any)→(∀ o ∈ M,o.any)→Ad L=Ad M→L=M
 | [],[],_,_,_=>rfl
 | [],y::M,_,_,h=>by have:=congrArg List.length h;rw [Dt,Dt] at this;simp at this
 | x::L,[],_,_,h=>by have:=congrArg List.length h;rw [Dt,Dt] at this;simp at this
 | x::L,y::M,hx,hy,h=>by
  rw [GX,GX] at h
  obtain ⟨h1,h2⟩:=List.append_inj h rfl
  rw [WR.inj (hx x (by simp)) (hy y (by simp)) h1,On (fun o ho=>hx o (by simp [ho])) (fun o ho=>hy o (by simp [ho])) h2]
structure DK where
 bv:AV
 us:List AV
 bs:List (List Nat)
 wv:AV
 ws:List WR
 dead:Bool
def DK.c (x:DK):List AV:=[x.bv,x.wv,.bool x.dead]
def DK.v (x:DK):AV:=.agg x.c
structure DK.any (x:DK):Prop where
 bl:Sl 1 x.us.length x.us x.bv
 bs:All2 BAt x.us x.bs
 wl:Sl 2 x.ws.length (Ad x.ws) x.wv
 ws:∀ w ∈ x.ws,w.any
structure DK.ok (x:DK):Prop where
 a:x.any
 n:x.us.length<1000000
 m:x.ws.length<1000000
 b:∀ b ∈ x.bs,b.length<1000000
 w:∀ w ∈ x.ws,w.b.length<1000000
theorem SP:∀ {us:List AV}{bs bs':List (List Nat)},All2 BAt us bs→All2 BAt us bs'→bs=bs':=by
 intro us
 induction us with
 | nil=>intro _ _ a b;cases a;cases b;rfl
 | cons u us ih=>
  intro _ _ a b
  cases a with
  | cons a1 a2=>cases b with
   | cons b1 b2=>rw [a1.inj b1,ih a2 b2]
variable {x:DK}
theorem DK.inj {y:DK}(hx:x.any) (hy:y.any) (h:x.v=y.v):x=y:=by
 obtain ⟨bv,us,bs,wv,ws,dd⟩:=x
 obtain ⟨bv',us',bs',wv',ws',dd'⟩:=y
 have h:=AV.agg.inj h
 simp [DK.c] at h
 obtain ⟨rfl,rfl,rfl⟩:=h
 have e1:=hx.bl.l_inj hy.bl
 have e2:=On hx.ws hy.ws (hx.wl.l_inj hy.wl)
 dsimp only at e1 e2
 subst e1 e2
 have e3:=SP hx.bs hy.bs
 dsimp only at e3
 rw [e3]
theorem DK.hf (h:x.any):AM.hf x.v=true:=by
 show (AM.hf x.bv && (AM.hf x.wv && (true && true)))=true
 rw [h.bl.hf,h.wl.hf];rfl
def El (p:Nat→Bool):List Nat→Nat→Int
 | [],_=>-1
 | n::l,i=>if p n then (i:Int) else El p l (i+1)
theorem UW (p:Nat→Bool):∀ (l:List Nat) (i:Nat),(0≤El p l i↔l.any p=true)
 | [],i=>by simp [El]
 | n::l,i=>by
  unfold El
  rw [List.any_cons]
  cases h:p n
  ·simp only [Bool.false_or,Bool.false_eq_true,if_false];exact UW p l (i+1)
  ·simp
theorem Zf1 (e:Env) (hE:EM P e) (p:Nat→Bool) (g:Nat) (hg:∀ (x:BN),x.ok→∀ (s:St) (K:AV→St→Prop),K (.bool (p x.n)) s→ECall e g [x.v] s K) (x:BL) (hx:x.ok) (Q:AV→St→Prop) (k:∀ s,Q (.int .i64 (El p x.ns 0)) s):
 VW P e 0 Ww (Ah [x.v,.fn g [] []] 0 .lf) St0 none [] (AR [.tmp 4] Q):=by
 obtain ⟨v,us,ns⟩:=x
 obtain ⟨hs,hb,hl⟩:=hx
 dsimp only at hs hb hl k ⊢
 have hlen:=hb.length
 conv=>whnf
 refine Af rfl hs ?_;conv=>whnf
 refine EX (α:=Nat) (fun i=>[(0,v),(1,.fn g [] []),(7,.int .i64 (us.length:Int)),(8,.int .i64 (i:Int))]) (fun i=>[]) (fun i=>us.length-i)
  (fun i=>i≤us.length∧El p ns 0=El p (ns.drop i) i) 0 [] ⟨Zoy _,rfl⟩ ⟨by decide,⟨t9 hs.hf,r9,r9,r9,trivial⟩,trivial⟩ ?_
 rintro i ⟨hi,hI⟩
 refine A9 hE ?_;conv=>whnf
 refine Ag rfl rfl (fun h=>?_) (fun h=>?_) <;> conv=>whnf
 ·have hlt:i<us.length:=by omega
  have hln:i<ns.length:=by omega
  refine A8 rfl hs rfl hlt ?_;conv=>whnf
  refine EHead.mk (v:=us[i]) (by rw [Zpi,Zoq,Zpo,Zof hlt]) ?_;conv=>whnf
  obtain ⟨n,hn,hbn⟩:=hb.get (Zof hlt)
  have hn':ns[i]=n:=by rw [Zof hln] at hn;exact Zpn hn
  rw [Zo2 hln,hn'] at hI
  refine hg ⟨us[i],n⟩ hbn _ _ ?_
  rw [show El p (n::ns.drop (i+1)) i=if p n then (i:Int) else El p (ns.drop (i+1)) (i+1) from rfl] at hI
  dsimp only
  cases ho:p n
  ·rw [ho,Zon (by decide)] at hI
   conv=>whnf
   repeat' (first|((first|refine w7 rfl rfl (by omega) ?_|refine ⟨rfl,?_⟩);conv=>whnf)|fail)
   refine ⟨i+1,⟨hlt,hI⟩,by omega,[],⟨by decide,⟨t9 hs.hf,r9,r9,⟨rfl,by simp;rfl⟩,trivial⟩,trivial⟩⟩
  ·rw [ho,Zoj rfl] at hI
   conv=>whnf
   rw [hI] at k;exact k _
 ·have hd:ns.drop i=[]:=Zpb (by omega)
  rw [hd] at hI
  have hI:El p ns 0=-1:=hI
  rw [hI] at k;exact k _
def JG (p:Nat→Bool) (g:Nat):Fam BL:=⟨BL.ok,fun x=>[x.v,.fn g [] []],fun x=>.int .i64 (El p x.ns 0),fun x y hx hy h=>by rw [BL.inj hx hy (Zor h).1]⟩
theorem Vc {e:Env}(hE:EM P e) (p:Nat→Bool) (g:Nat) (hg:∀ (x:BN),x.ok→∀ (s:St) (K:AV→St→Prop),K (.bool (p x.n)) s→ECall e g [x.v] s K):OvOk P 89 (JG p g).O:=by
 refine Bk g89.b fun x hx=>?_
 refine ⟨by show (AM.hf x.v && (true && true && true))=true;rw [hx.sl.hf];rfl,rfl,C.of_G hE g89 (Zf1 e hE p g hg x hx _ fun s=>.plain _ rfl)⟩
def GO (h1 h2:Ov):Ov:=fun args s=>match h1 args s with
 | .fail=>h2 args s
 | r=>r
theorem R7 {f:Nat}{h1 h2:Ov}(q1:OvOk P f h1) (q2:OvOk P f h2):OvOk P f (GO h1 h2):=by
 refine ⟨q1.1,fun args s v s' h=>?_⟩
 unfold GO at h
 cases hq:h1 args s with
 | fail=>rw [hq] at h;exact q2.2 args s v s' h
 | ok v1 s1=>rw [hq] at h;cases h;exact q1.2 args s _ _ hq
end Go.AM
namespace Go.AM
attribute [local irreducible] W
open X
theorem NT {α:Type}(F:Fam α) {x:α}(hx:F.ok x) (s:St):F.O (F.enc x) s=.ok (F.out x) s:=by
 have h:∃ u,∃ y,F.ok y∧F.enc x=F.enc y∧u=F.out y:=⟨_,x,hx,rfl,rfl⟩
 unfold Fam.O Ej
 rw [dif_pos h]
 obtain ⟨y,hy,e,hu⟩:=Zpu h
 rw [hu,F.inj x y hx hy e]
theorem Zg5 {α:Type}(F:Fam α) {args:List AV}(h:∀ x,F.ok x→args≠F.enc x) (s:St):F.O args s=.fail:=by
 unfold Fam.O Ej
 rw [dif_neg]
 rintro ⟨u,y,hy,e,_⟩
 exact h y hy e
def Hv (n:Nat):Bool:=decide (0<n)
noncomputable def IX:Ov:=GO (JG AE 58).O (JG Hv 61).O
variable {e:Env}{x:BL}{s:St}{K:AV→St→Prop}
theorem Zf9 (h:Con e 89 IX) (hx:x.ok) (hk:K (.int .i64 (El AE x.ns 0)) s):ESc e 89 [x.v,.fn 58 [] []] s K:=by
 refine ESc.ov h (v:=.int .i64 (El AE x.ns 0)) (s':=s) ?_ hk
 unfold IX GO
 rw [show (JG AE 58).O [x.v,.fn 58 [] []] s=.ok (.int .i64 (El AE x.ns 0)) s from NT (JG AE 58) hx s]
theorem Zf8 (h:Con e 89 IX) (hx:x.ok) (hk:K (.int .i64 (El Hv x.ns 0)) s):ESc e 89 [x.v,.fn 61 [] []] s K:=by
 refine ESc.ov h (v:=.int .i64 (El Hv x.ns 0)) (s':=s) ?_ hk
 unfold IX GO
 rw [Zg5 (JG AE 58) (fun y hy e=>by
  have e:=(Zor (Zor e).2).1
  injection e with e;cases e) s]
 exact NT (JG Hv 61) hx s
theorem Vd (p:Nat→Bool) (g:Nat) (v:AV) (ns:List Nat) (s:St) (hcall:∀ (K:AV→St→Prop),K (.int .i64 (El p ns 0)) s→ESc e 89 [v,.fn g [] []] s K) (Q:AV→St→Prop) (k:Q (.bool (ns.any p)) s):
 VE e Pf (Ah [v,.fn g [] []] 0 .lf) s none [] (AR [.tmp 4] Q):=by
 conv=>whnf
 refine hcall _ ?_;conv=>whnf
 have ha:=UW p ns 0
 refine FI rfl rfl (fun h=>?_) (fun h=>?_) <;> conv=>whnf
 ·rw [ha.1 h] at k;exact k
 ·have:ns.any p=false:=by
   cases hq:ns.any p
   ·rfl
   ·have:=ha.2 hq;omega
  rw [this] at k;exact k
theorem ZW (hE:EM P e):OvOk P 58 oddF.O:=by
 refine Bk g58.b ?_
 rintro ⟨v,n⟩ hx
 obtain ⟨⟨l,hv⟩,hn⟩:=hx
 dsimp only at hv hn
 refine ⟨by show (AM.hf v && true)=true;rw [hv.hf];rfl,rfl,C.of_G hE g58 ?_⟩
 have fin:∀ s (b:Bool),b=AE n→Frz s (.bool b) (oddF.out ⟨v,n⟩):=by
  rintro s b rfl;exact .plain _ rfl
 unfold AE at fin
 show VW P e 0 (match a58 with|.mk c _=>c) (Ah [v] 0 .lf) St0 none [] _
 conv=>whnf
 repeat' (first|(refine Af rfl hv ?_;conv=>whnf)|((refine w6 rfl rfl ?_ ?_) <;> intro _ <;> first|(exfalso;omega)|(conv=>whnf))|fail)
 all_goals first
  | exact fin _ _ (by rw [Zok (by omega),Zok (by omega)];rfl)
  | exact fin _ _ (by rw [Zok (by omega),Zow (by omega)];rfl)
  | exact fin _ _ (by rw [Zow (by omega)];rfl)
def Zkn:AC:=match a61 with|.mk c _=>c
theorem Zj1 (hE:EM P e) (h143:Con e 58 oddF.O) (h146:Inl e 61 Zkn [.tmp 2]):OvOk P 89 IX:=by
 refine R7 (Vc hE AE 58 (fun x hx s K hk=>?_)) (Vc hE Hv 61 (fun x hx s K hk=>?_))
 ·exact ECall.fam oddF h143 x hx rfl hk
 ·obtain ⟨⟨l,hv⟩,hn⟩:=hx
  refine ECall.inl h146.O h146.G ?_
  unfold Hv at hk
  conv=>whnf
  repeat' (first|(refine Af rfl hv ?_;conv=>whnf)|((refine w3 rfl rfl ?_ ?_) <;> intro _ <;> first|(exfalso;omega)|(conv=>whnf))|fail)
  ·rw [Zok (by omega)] at hk;exact hk
  ·rw [Zow (by omega)] at hk;exact hk
def Ch (many:Int) (w:WR):Bool:=decide (w.at_<0) || decide (many≤w.at_) || AE w.b.length
def BE (p:WR→Bool):List WR→Nat→Int
 | [],_=>-1
 | n::l,i=>if p n then (i:Int) else BE p l (i+1)
theorem UV (p:WR→Bool):∀ (l:List WR) (i:Nat),(0≤BE p l i↔l.any p=true)
 | [],i=>by simp [BE]
 | n::l,i=>by
  unfold BE
  rw [List.any_cons]
  cases h:p n
  ·simp only [Bool.false_or,Bool.false_eq_true,if_false];exact UV p l (i+1)
  ·simp
structure WI where
 v:AV
 ws:List WR
 r:Nat
 many:Int
structure WI.ok (x:WI) (s:St):Prop where
 sl:Sl 2 x.ws.length (Ad x.ws) x.v
 w:∀ w ∈ x.ws,w.any∧w.b.length<1000000
 g:s.get x.r=some (.row 3 [.int .i64 x.many])
 m:Aj x.many
 n:x.ws.length<1000000
def WI.args (x:WI):List AV:=[x.v,.fn 60 [] [.ptr x.r 0]]
def WI.out (x:WI):AV:=.int .i64 (BE (Ch x.many) x.ws 0)
noncomputable def JA:Ov:=fun args s=>open Classical in if h:∃ x:WI,x.ok s∧args=x.args then .ok (Classical.choose h).out s else .fail
theorem Zbh {x:WI}(hx:x.ok s):JA x.args s=.ok x.out s:=by
 have h:∃ y:WI,y.ok s∧x.args=y.args:=⟨x,hx,rfl⟩
 unfold JA
 rw [dif_pos h]
 obtain ⟨h1,h2⟩:=Zpu h
 generalize Classical.choose h=y at h1 h2 ⊢
 obtain ⟨v,ws,r,m⟩:=x
 obtain ⟨v',ws',r',m'⟩:=y
 simp [WI.args] at h2
 obtain ⟨rfl,rfl⟩:=h2
 have e1:=On (fun o ho=>(hx.w o ho).1) (fun o ho=>(h1.w o ho).1) (hx.sl.l_inj h1.sl)
 have e2:=hx.g.symm.trans h1.g
 dsimp only at e1 e2
 injection e2 with e2
 injection e2 with _ e2
 injection e2 with e2
 injection e2 with _ e2
 subst e1 e2;rfl
def Wt:AC:=match a71 with|.mk c _=>c
def Zko:AC:=match a60 with|.mk c _=>c
def Zkp:AC:=match a59 with|.mk c _=>c
theorem Zd3 (hE:EM P e) (h143:Con e 58 oddF.O) (h145:Inl e 60 Zko [.tmp 3]):OvOk P 71 JA:=by
 refine ⟨g71.b,fun args s u s' hh=>?_⟩
 unfold JA at hh
 split at hh
 ·rename_i hx
  cases hh
  obtain ⟨h1,h2⟩:=Zpu hx
  generalize Classical.choose hx=y at h1 h2 ⊢
  subst h2
  obtain ⟨v,ws,r,m⟩:=y
  obtain ⟨hs,hw,hg,hmb,hn⟩:=h1
  dsimp only at hs hw hg hmb hn
  have hvf:=hs.hf
  refine HQ (args2:=[v,.fn 60 [] [.fp [.int .i64 m]]]) (.cons (.plain _ hvf) (.cons (.fn 60 [] [.ptr r 0] [] [.fp [.int .i64 m]] .nil (.cons (.ptr r 0 3 [.int .i64 m] [.int .i64 m] [.int .i64 m] hg (fun i x h=>by rw [Zou];exact h) (.cons (.plain _ rfl) .nil)) .nil)) .nil)) rfl (GZ ?_ ?_)
  ·show (AM.hf v && _)=true;rw [hvf];rfl
  refine C.of_G hE g71 ?_
  show VW P e 0 Wt (Ah [v,.fn 60 [] [.fp [.int .i64 m]]] 0 .lf) St0 none [] (AR [.tmp 4] (fun w s'=>Frz s' w (.int .i64 (BE (Ch m) ws 0))))
  conv=>whnf
  refine Af rfl hs ?_;conv=>whnf
  refine Ce (α:=Nat) (fun i=>[(0,v),(1,.fn 60 [] [.fp [.int .i64 m]]),(7,.int .i64 (ws.length:Int)),(8,.int .i64 (i:Int))]) (fun _=>[]) (fun i=>ws.length-i) (fun i=>i≤ws.length∧BE (Ch m) ws 0=BE (Ch m) (ws.drop i) i) 0 ⟨Zoy _,rfl⟩
   (Abs.tells (rs:=[]) .a) ?_
  rintro i ⟨hi,hI⟩
  refine A9 hE ?_
  by_cases hlt:i<ws.length
  ·have hd:=Io hlt
   obtain ⟨⟨hwa,hwb⟩,hwl⟩:=hw _ (Zpg hlt)
   rw [Zo2 hlt] at hI
   have hall:=And.intro hI (And.intro hd (And.intro hwa (And.intro hwb hwl)))
   clear hI hd hwa hwb hwl
   revert hall
   generalize ws[i]=w
   obtain ⟨wa,wu,wb⟩:=w
   rintro ⟨hI,hd,hwa,hwb,hwl⟩
   have hd:(Ad ws).drop (i*2)=[.int .i64 wa,wu]++Ad (ws.drop (i+1)):=hd
   have hI:BE (Ch m) ws 0=if Ch m ⟨wa,wu,wb⟩ then (i:Int) else BE (Ch m) (ws.drop (i+1)) (i+1):=hI
   unfold Ch at hI
   dsimp only at hI hwl hwb
   have yes:∀ b:Bool,b=true→(decide (wa<0) || decide (m≤wa) || AE wb.length)=b→BE (Ch m) ws 0=(i:Int):=fun b hb he=>by
    rw [he,hb,Zoj rfl] at hI;exact hI
   have no:(decide (wa<0) || decide (m≤wa) || AE wb.length)=false→BE (Ch m) ws 0=BE (Ch m) (ws.drop (i+1)) (i+1):=fun he=>by
    rw [he,Zon (by simp)] at hI;exact hI
   clear hI
   have hcell:∀ (K:List AV→Prop),K [.int .i64 wa,wu]→ETake 2 ([.int .i64 wa,wu]++Ad (ws.drop (i+1))) K:=fun K hk=>CS rfl hk
   have hend:∀ t s,BE (Ch m) ws 0=BE (Ch m) (ws.drop (i+1)) (i+1)→t.get 0=some v→t.get 1=some (.fn 60 [] [.fp [.int .i64 m]])→t.get 7=some (.int .i64 (ws.length:Int))→t.get 8=some (.int .i64 ((i:Int)+1))→
    ∃ x',(x'≤ws.length∧BE (Ch m) ws 0=BE (Ch m) (ws.drop x') x')∧ws.length-x'<ws.length-i∧Tells P 0 t s [] (Am [(0,v),(1,.fn 60 [] [.fp [.int .i64 m]]),(7,.int .i64 (ws.length:Int)),(8,.int .i64 (x':Int))]) (Ac St0 []) []:=fun t s h0 g0 g1 g7 g8=>
    ⟨i+1,⟨hlt,h0⟩,by omega,Abs.tells (rs:=[]) ⟨by decide,⟨⟨Bz _ hvf,by rw [Bv _ hvf];exact g0⟩,⟨rfl,g1⟩,⟨rfl,g7⟩,⟨rfl,g8⟩,trivial⟩,trivial⟩⟩
   conv=>whnf
   refine Ag rfl rfl (fun _=>?_) (fun h=>by omega);conv=>whnf
   refine A8 rfl hs rfl hlt ?_
   rw [hd]
   conv=>whnf
   refine hcell _ ?_;conv=>whnf
   refine ECall.inl h145.O h145.G ?_;conv=>whnf
   refine Ag (a:=wa) (b:=0) rfl rfl (fun h1=>?_) (fun h1=>?_)
   ·conv=>whnf
    skip
    rw [yes true rfl (by rw [Zok h1];rfl)];exact .plain _ rfl
   conv=>whnf
   refine EHead.mk rfl ?_;conv=>whnf
   refine FI (a:=wa) (b:=m) rfl rfl (fun h2=>?_) (fun h2=>?_)
   ·conv=>whnf
    skip
    rw [yes true rfl (by rw [Zok h2];simp)];exact .plain _ rfl
   conv=>whnf
   refine ESc.fam oddF h143 ⟨wu,wb.length⟩ ⟨⟨_,hwb.1⟩,by dsimp only;omega⟩ (u:=.bool (AE wb.length)) rfl ?_
   have e1:(decide (wa<0) || decide (m≤wa) || AE wb.length)=AE wb.length:=by rw [Zow (by omega),Zow (by omega)];rfl
   cases ho:AE wb.length
   ·conv=>whnf
    repeat' (first|((first|refine w7 rfl rfl (by omega) ?_|refine ⟨rfl,?_⟩);conv=>whnf)|fail)
    exact hend _ _ (no (by rw [e1];exact ho)) rfl rfl rfl rfl
   ·conv=>whnf
    skip
    rw [yes true rfl (by rw [e1];exact ho)];exact .plain _ rfl
  ·have hd:ws.drop i=[]:=Zpb (by omega)
   rw [hd] at hI
   have hI:BE (Ch m) ws 0=-1:=hI
   conv=>whnf
   refine Ag rfl rfl (fun h=>by omega) (fun _=>?_);conv=>whnf
   rw [hI];exact .plain _ rfl
 ·cases hh
def Bi (x:DK):Bool:=decide (1≤x.us.length∧x.us.length≤256∧x.ws.length≤1024) && !((x.bs.map List.length).any AE) && !(x.ws.any (Ch x.us.length)) && !(x.dead && (decide (0<x.ws.length) || (x.bs.map List.length).any Hv))
def dskF:Fam DK:=⟨DK.ok,fun x=>[x.v],fun x=>.int .i64 (if Bi x=true then 0 else 8),fun x y hx hy h=>by rw [DK.inj hx.a hy.a (Zor h).1]⟩
theorem Zdq {us:List AV}{bs:List (List Nat)}(h:All2 BAt us bs) (hs:∀ b ∈ bs,b.length<1000000):All2 (fun u n=>BN.ok ⟨u,n⟩) us (bs.map List.length):=by
 induction h with
 | nil=>exact .nil
 | @cons u b us bs a _ ih=>exact .cons ⟨⟨_,a.1⟩,by have:=hs b (by simp);dsimp only;omega⟩ (ih fun c hc=>hs c (by simp [hc]))
def Zky:AC:=match a25 with|.mk c _=>c
theorem Zj2 (hE:EM P e) (h93:Inl e 57 Pf [.tmp 4]) (h138:Con e 89 IX) (h144:Inl e 59 Zkp [.tmp 4]) (h163:Con e 71 JA):OvOk P 25 dskF.O:=by
 refine Bk g25.b fun x hx=>?_
 refine ⟨by show (AM.hf x.v && true)=true;rw [DK.hf hx.a];rfl,rfl,C.of_G hE g25 ?_⟩
 have fin:∀ s (n:Int),n=(if Bi x=true then 0 else 8)→Frz s (.int .i64 n) (dskF.out x):=by rintro s n rfl;exact .plain _ rfl
 obtain ⟨⟨hbl,hbs,hwl,hws⟩,hn,hm',hb',hw'⟩:=hx
 obtain ⟨bv,us,bs,wv,ws,dd⟩:=x
 dsimp only at hbl hbs hwl hws hn hm' hb' hw'
 have hBL:BL.ok ⟨bv,us,bs.map List.length⟩:=⟨hbl,Zdq hbs hb',by dsimp only;omega⟩
 have hodd:=fun (K:AV→St→Prop) (s:St)=>Vd (e:=e) AE 58 bv (bs.map List.length) s (fun K hk=>Zf9 h138 hBL hk) K
 have hpos:=fun (K:AV→St→Prop) (s:St)=>Vd (e:=e) Hv 61 bv (bs.map List.length) s (fun K hk=>Zf8 h138 hBL hk) K
 have hwa:=UV (Ch us.length) ws 0
 unfold Bi at fin
 dsimp only at fin
 show VW P e 0 Zky (Ah [.agg [bv,wv,.bool dd]] 0 .lf) St0 none [] _
 conv=>whnf
 refine Af rfl hbl ?_;conv=>whnf
 by_cases hT:1≤us.length∧us.length≤256∧ws.length≤1024
 ·rw [Zok hT] at fin
  repeat' (first|(refine Af rfl hwl ?_;conv=>whnf)|((first|refine w1 rfl rfl ?_ ?_|refine w3 rfl rfl ?_ ?_) <;> intro _ <;> first|(exfalso;omega)|(conv=>whnf))|fail)
  refine ESc.inl h93 (hodd _ _ ?_)
  cases ho:(bs.map List.length).any AE
  ·rw [ho] at fin
   conv=>whnf
   skip
   refine ESc.inl h144 ?_;conv=>whnf
   refine ESc.ov h163 (Zbh (x:=⟨wv,ws,1,us.length⟩) ⟨hwl,fun w hw=>⟨hws w hw,hw' w hw⟩,rfl,by unfold Aj;dsimp only;omega,by dsimp only;omega⟩) ?_;conv=>whnf
   cases hw:ws.any (Ch us.length)
   ·have hwn:¬ (0≤BE (Ch us.length) ws 0):=fun h=>by rw [hwa.1 h] at hw;cases hw
    rw [hw] at fin
    refine FI (a:=BE (Ch us.length) ws 0) (b:=0) rfl rfl (fun h=>absurd h hwn) (fun _=>?_)
    cases dd
    ·conv=>whnf
     skip
     exact fin _ 0 (by simp)
    ·conv=>whnf
     repeat' (first|(refine Af rfl hwl ?_;conv=>whnf)|((refine w3 rfl rfl ?_ ?_) <;> intro _ <;> first|(exfalso;omega)|(conv=>whnf))|fail)
     ·exact fin _ 8 (by rw [Zok (by omega)];simp)
     ·refine ESc.inl h93 (hpos _ _ ?_)
      rw [Zow (by omega)] at fin
      cases hp:(bs.map List.length).any Hv
      ·rw [hp] at fin
       conv=>whnf
       skip
       exact fin _ 0 (by simp)
      ·rw [hp] at fin
       conv=>whnf
       skip
       exact fin _ 8 (by simp)
   ·rw [hw] at fin
    refine FI (a:=BE (Ch us.length) ws 0) (b:=0) rfl rfl (fun _=>?_) (fun h=>absurd (hwa.2 hw) (by omega));conv=>whnf
    skip
    exact fin _ 8 (by simp)
  ·rw [ho] at fin
   conv=>whnf
   skip
   exact fin _ 8 (by simp)
 ·rw [Zow hT] at fin
  repeat' (first|(refine Af rfl hwl ?_;conv=>whnf)|((first|refine w1 rfl rfl ?_ ?_|refine w3 rfl rfl ?_ ?_) <;> intro _ <;> first|(exfalso;omega)|(conv=>whnf))|fail)
  all_goals first|exact fin _ 8 (by simp)|(exfalso;omega)
end Go.AM
namespace Go.AM
attribute [local irreducible] W
open X
def J7:AC:=match a32 with|.mk c _=>c
def HJ:AC:=match a70 with|.mk c _=>c
def RL:AC:=match PB with|.mk c _=>c
def Rs:AC:=match Nh with|.mk c _=>c
def Pe:AC:=match PA with|.mk c _=>c
def M3:AC:=match a78 with|.mk c _=>c
def DY (b:List Nat):Option Nat:=if b.length=0 then some 128 else none
variable {u:AV}{s:St}
theorem K1 {e:Env}(h98:Inl e 32 J7 [.tmp 2]) (h141:Inl e 70 HJ [.tmp 2]) {b:List Nat}(hb:BAt u b) (hl:b.length=0∨b.length=128) (hs:s.next<1000000) {K:AV→St→Prop}
 (k0:b.length=0→K (.sl s.next 0 128 (some 128)) (s.alloc (.row 5 (Ab (Aa b)))))
 (k1:b.length=128→K (.sl (s.alloc (.row 5 [])).next 0 128 none) ((s.alloc (.row 5 [])).alloc (.row 5 (Ab (Aa b))))):ESc e 32 [u] s K:=by
 refine ESc.inl h98 ?_;conv=>whnf
 refine Af rfl hb.1 ?_;conv=>whnf
 rcases hl with h0|h1
 ·have hb0:b=[]:=Zpd.1 h0
  subst hb0
  repeat' (first|(refine LF (n:=127) rfl rfl (by decide) ?_;conv=>whnf)|((refine w5 rfl rfl ?_ ?_) <;> intro _ <;> first|(exfalso;omega)|(conv=>whnf))|fail)
  exact k0 rfl
 ·have hp:Aa b=b:=CH h1
  rw [hp] at k1
  obtain ⟨c,rfl⟩:∃ c,u=.fz b.length c (Ab b):=by
   rcases hb.1 with ⟨_,h,_⟩|⟨_,h,_⟩|⟨c,h,_⟩
   ·omega
   ·omega
   ·exact ⟨c,h⟩
  have hne:∃ x l,Ab b=x::l:=by
   cases b with
   | nil=>simp at h1
   | cons y l=>exact ⟨_,_,rfl⟩
  obtain ⟨x,l,hxl⟩:=hne
  have hbl:=Ba b
  repeat' (first|(refine ESc.inl h141 ?_;conv=>whnf)|(refine Ft rfl rfl (.inr ⟨_,_,_,rfl⟩) ?_;conv=>whnf)|((refine w5 rfl rfl ?_ ?_) <;> intro _ <;> first|(exfalso;omega)|(conv=>whnf))|fail)
  refine EPrim.app1 (c:=x) (cs:=l) (m:=128) rfl rfl ?_ (SH _ _ (by omega)) ?_ (by omega) (by omega) ?_
  ·show Bf (b.length*1) (Ab b)=_
   rw [EU (by omega),Zoo (by omega),hxl]
  ·show (x::l).length / 1=_
   rw [← hxl];omega
  rw [← hxl]
  conv=>whnf
  exact k1 h1
def BW (at_:Int):List WR→Option (List Nat)
 | []=>none
 | w::l=>if w.at_=at_ then some w.b else BW at_ l
def EI (ws:List WR) (at_:Int) (b:List Nat):List Nat:=(BW at_ ws.reverse).getD b
def XU:AC:=match E2 M3 with|some (a,_)=>a|none=>.skip
def Xr:AC:=match E2 M3 with|some (_,b)=>b|none=>.skip
def R2:AC:=match M3 with
 | .seq _ (.seq _ (.seq _ r))=>r
 | _=>.skip
def tlD (cp:Option Nat):List (Nat×AV):=[(3,.ptr 0 0),(4,.ptr 1 0),(5,.ptr 2 0),(6,.sl 3 0 128 cp),(21,.fn 111 [] [.ptr 4 0])]
def osD (at_:Int) (b:List Nat) (wv:AV):List AObj:=[.row 3 [.int .i64 at_],.row 41 [.nils],.row 37 [.int .i64 0],.row 5 (Ab (Aa b)),.row 26 [wv]]
noncomputable def Yn (at_:Int) (b:List Nat) (wv:AV) (cp:Option Nat):List AObj:=[.row 3 [.int .i64 at_],.row 41 [.nils],.row 37 [.int .i64 0],.row 5 (Ab (Aa b)),.row 26 [wv],.defd,.loop .ready none 0 (Am (tlD cp)) [22,23] XU Xr 5]
theorem Zga {e:Env}(hE:EM P e) (h97:Inl e 102 Pe [.tmp 2]) (h98:Inl e 32 J7 [.tmp 2]) (h141:Inl e 70 HJ [.tmp 2])
 (x:DK) (hx:x.ok) (at_:Int) (hat:Aj at_) (hn:x.ws.length≤1024) (hwl:∀ w ∈ x.ws,w.b.length=0∨w.b.length=128) (b0:List Nat) (K:AV→St→Prop)
 (hk:∀ s r,s.get r=some (.row 5 (Ab (Aa (EI x.ws at_ b0))))→K (.tup [.sl r 0 128 (DY (EI x.ws at_ b0)),.int .i64 0]) s):
 W P 0 none R2 (Am [(2,.ptr 0 0),(3,.ptr 1 0),(4,.ptr 2 0),(5,.ptr 3 0),(6,.sl 4 0 128 (DY b0))]) (Ac St0 [.row 28 x.c,.row 3 [.int .i64 at_],.row 41 [.nils],.row 37 [.int .i64 0],.row 5 (Ab (Aa b0))]) [] (Bx [.cell 4,.cell 5] K):=by
 obtain ⟨⟨hbl,hbs,hws,hwa⟩,hun,hwn,hbb,hww⟩:=hx
 obtain ⟨bv,us,bs,wv,ws,dd⟩:=x
 dsimp only at hbl hbs hws hwa hun hwn hbb hww hn hwl hk
 obtain ⟨cp,hcp⟩:∃ cp,cp=DY b0:=⟨_,rfl⟩
 rw [← hcp]
 show W P 0 none R2 (Am [(2,.ptr 0 0),(3,.ptr 1 0),(4,.ptr 2 0),(5,.ptr 3 0),(6,.sl 4 0 128 cp)]) (Ac St0 [.row 28 [bv,wv,.bool dd],.row 3 [.int .i64 at_],.row 41 [.nils],.row 37 [.int .i64 0],.row 5 (Ab (Aa b0))]) [] (Bx [.cell 4,.cell 5] K)
 refine Fv hE ?_;conv=>whnf
 refine ESc.inl h97 ?_;conv=>whnf
 refine KL (by show Nat.beq (A3 (cellsOf wv)) 1=true;rw [hws.cells];rfl) ?_
 rw [hws.cells]
 conv=>whnf
 have hwf:hfs [wv]=true:=by show (AM.hf wv && true)=true;rw [hws.hf];rfl
 have hpf:∀ b,hfs (Ab b)=true:=fun b=>AJ b
 refine W.tells (Abs.tells (tl:=tlD cp) (os:=osD at_ b0 wv) (rs:=[1,2,3,4,5])
  ⟨by decide,⟨r9,r9,r9,r9,r9,trivial⟩,⟨r9,r9,r9,o9 (hpf _),o9,trivial⟩⟩) ?_
 refine KU (f:=111) (first:=[]) (cap:=[.ptr 4 0]) g111.b rfl ?_ ?_
 ·intro q hq
  have hq:q<5:=hq
  rcases q with _|_|_|_|_|q
  ·exact .tmp 3 (.ptr 0 0) rfl rfl
  ·exact .tmp 4 (.ptr 1 0) rfl rfl
  ·exact .tmp 5 (.ptr 2 0) rfl rfl
  ·exact .tmp 6 (.sl 3 0 128 cp) rfl rfl
  ·exact .tmp 21 (.fn 111 [] [.ptr 4 0]) rfl rfl
  ·omega
 show C1 P 111 [.yld 6,.ptr 4 0] (Ac St0 (Yn at_ b0 wv cp)) (fun _ s'=>II 6 [5] (Am (tlD cp)) s' _)
 refine C1.of_G hE g111 ?_;conv=>whnf
 refine Af rfl hws ?_;conv=>whnf
 repeat' (first|(refine w8 rfl rfl (by omega) ?_;conv=>whnf)|fail)
 have hlb:Ds 7 7 (.loop .ready none 0 (Am (tlD cp)) [22,23] XU Xr 5)=true:=rfl
 refine Ce (k:=7) (α:=Nat) (fun i=>[(0,.yld 6),(1,.ptr 4 0),(3,.int .i64 ((i:Int)-1))]) (fun i=>Yn at_ b0 wv cp) (fun i=>i) (fun i=>i≤ws.length∧BW at_ ws.reverse=BW at_ (ws.take i).reverse) ws.length ⟨Zo0 _,by rw [List.take_length]⟩
  (AbsK.tells (rs:=[0,1,2,3,4,5,6]) ⟨rfl,by decide,⟨r9,r9,r9,trivial⟩,⟨r9,r9,r9,o9 (hpf _),o9,r9,⟨hlb,rfl⟩,trivial⟩⟩) ?_
 rintro j ⟨hj,hh⟩
 refine A9 hE ?_;conv=>whnf
 refine FI rfl rfl (fun h=>?_) (fun h=>?_) <;> conv=>whnf
 ·obtain ⟨i,rfl⟩:∃ i,j=i+1:=⟨j-1,by omega⟩
  have hlt:i<ws.length:=by omega
  rw [show ((i+1:Nat):Int)-1=(i:Int) by omega]
  have hd:=Io hlt
  have hwm:=Zpg hlt
  have hwa':=hwa _ hwm
  have hwl':=hwl _ hwm
  have hst:BW at_ ws.reverse=if ws[i].at_=at_ then some ws[i].b else BW at_ (ws.take i).reverse:=by
   rw [hh,Zos hlt,List.reverse_append];rfl
  have hall:=And.intro hd (And.intro hwa' (And.intro hwl' hst))
  clear hd hwa' hwl' hst hwm
  revert hall
  generalize ws[i]=w
  obtain ⟨wa,wu,wb⟩:=w
  rintro ⟨hd,⟨hwa1,hwb⟩,hwl',hst⟩
  have hd:(Ad ws).drop (i*2)=[.int .i64 wa,wu]++Ad (ws.drop (i+1)):=hd
  dsimp only at hwa1 hwb hwl' hst
  refine A8 rfl hws rfl hlt ?_
  rw [hd]
  conv=>whnf
  have hcell:∀ (K:List AV→Prop),K [.int .i64 wa,wu]→ETake 2 ([.int .i64 wa,wu]++Ad (ws.drop (i+1))) K:=fun K hk=>CS rfl hk
  refine hcell _ ?_;conv=>whnf
  refine ERound.mk ?_
  have hrun:∀ b cp',EI ws at_ b0=b→cp'=DY b→∀ s r,s.get r=some (.row 5 (Ab (Aa b)))→K (.tup [.sl r 0 128 cp',.int .i64 0]) s:=fun b cp' h1 h2 s r h=>by
   subst h1 h2;exact hk s r h
  conv=>whnf
  refine B2 (a:=wa) (b:=at_) rfl rfl (fun he=>?_) (fun he=>?_)
  ·rw [Zoj he] at hst
   have hL:EI ws at_ b0=wb:=by unfold EI;rw [hst];rfl
   conv=>whnf
   refine K1 h98 h141 hwb hwl' (by show 8<1000000;decide) (fun h0=>?_) (fun h1=>?_)
   ·conv=>whnf
    repeat' (first|(refine w13 rfl ?_;conv=>whnf)|fail)
    refine hrun wb (some 128) hL (by unfold DY;rw [Zoj h0]) _ _ ?_
    rfl
   ·conv=>whnf
    repeat' (first|(refine w13 rfl ?_;conv=>whnf)|fail)
    refine hrun wb none hL (by unfold DY;rw [Zon (by omega)]) _ _ ?_
    rfl
  ·rw [Zon he] at hst
   conv=>whnf
   repeat' (first|((first|refine w8 rfl rfl (by omega) ?_|refine w12 rfl ?_|refine ⟨rfl,?_⟩);conv=>whnf)|fail)
   refine ⟨i,⟨by omega,hst⟩,by omega,AbsK.tells (rs:=[0,1,2,3,4,5,6]) ⟨rfl,by decide,⟨r9,r9,r9,trivial⟩,⟨r9,r9,r9,o9 (hpf _),o9,r9,⟨hlb,rfl⟩,trivial⟩⟩⟩
 ·have:j=0:=by omega
  subst this
  have hL:EI ws at_ b0=b0:=by unfold EI;rw [hh];rfl
  conv=>whnf
  rw [hL,← hcp] at hk
  exact hk _ _ rfl
variable {n:Nat}
theorem CZ {m:Nat}{l l':List AV}{v:AV}(h:Sl 2 m l' v) (h':Sl 1 n l u) {d:Bool}:hfs [u,v,.bool d]=true:=by
 show (AM.hf u && (AM.hf v && (true && true)))=true
 rw [h.hf,h'.hf];rfl
def Ih (x:DK) (at_:Int):Int:=if Bi x=true then (if 0≤at_∧at_<x.us.length then (if x.dead then 40 else 0) else 2) else 8
def AY (x:DK) (at_:Int):List Nat:=EI x.ws at_ (x.bs.getD at_.toNat [])
theorem HH (h:AE n=false):n=0∨n=128:=by
 unfold AE at h
 simp at h
 omega
theorem KE {x:DK}(hx:x.any) (h:Bi x=true):x.ws.length≤1024∧(∀ b ∈ x.bs,b.length=0∨b.length=128)∧(∀ w ∈ x.ws,w.b.length=0∨w.b.length=128)∧x.us.length=x.bs.length∧x.us.length≤256:=by
 unfold Bi at h
 simp only [Zoh,Bool.not_eq_true'] at h
 obtain ⟨⟨⟨h1,h2⟩,h3⟩,h4⟩:=h
 have h1:=Zpw h1
 rw [List.any_eq_false] at h2 h3
 refine ⟨h1.2.2,fun b hb=>HH (by simpa using h2 b.length (List.mem_map_of_mem hb)),fun w hw=>?_,hx.bs.length,h1.2.1⟩
 have:=h3 w hw
 unfold Ch at this
 simp only [Zp5,not_or] at this
 exact HH (by simpa using this.2)
theorem Ve {e:Env}(hE:EM P e) (h101:Con e 25 dskF.O) (h96:Inl e 101 RL [.tmp 4,.tmp 5]) (h139:Inl e 69 Rs [.tmp 4]) (h97:Inl e 102 Pe [.tmp 2]) (h98:Inl e 32 J7 [.tmp 2]) (h141:Inl e 70 HJ [.tmp 2])
 (x:DK) (hx:x.ok) (at_:Int) (hat:Aj at_) (K:AV→St→Prop)
 (h0:Ih x at_=0→∀ s r,s.get r=some (.row 5 (Ab (Aa (AY x at_))))→K (.tup [.sl r 0 128 (DY (AY x at_)),.int .i64 0]) s)
 (h1:Ih x at_≠0→∀ s,K (.tup [.nils,.int .i64 (Ih x at_)]) s):
 W P 0 none M3 (Ah [x.v,.int .i64 at_] 0 .lf) St0 [] (Bx [.cell 4,.cell 5] K):=by
 have hlt:Bi x=true→0≤at_∧at_<x.us.length→∃ b u,x.us[at_.toNat]?=some u∧BAt u b∧x.bs.getD at_.toNat []=b∧(b.length=0∨b.length=128):=fun hd ⟨ha,hl⟩=>by
  have hn:at_.toNat<x.us.length:=by omega
  obtain ⟨b,hbb,hbu⟩:=hx.a.bs.get (Zof hn)
  refine ⟨b,x.us[at_.toNat],Zof hn,hbu,by rw [Zo8,hbb];rfl,(KE hx.a hd).2.1 b (Zo1 hbb)⟩
 have hres:=fun (hd:Bi x=true) b0 K=>Zga hE h97 h98 h141 x hx at_ hat (KE hx.a hd).1 (KE hx.a hd).2.2.1 b0 K
 have hdk:=fun (u:AV) (h:dskF.out x=u)=>And.intro hx h
 unfold Ih at h0 h1
 unfold AY at h0
 obtain ⟨D,hD⟩:∃ D,D=Bi x:=⟨_,rfl⟩
 rw [← hD] at h0 h1 hlt hres
 have hDo:dskF.out x=.int .i64 (if D=true then 0 else 8):=by rw [hD];rfl
 have hul:x.us.length<1000000:=hx.n
 have hbl:=hx.a.bl
 have hwv:=hx.a.wl
 obtain ⟨bv,us,bs,wv,ws,dd⟩:=x
 dsimp only at hlt hul h0 h1 hbl hwv
 unfold Aj at hat
 show W P 0 none M3 (Ah [.agg [bv,wv,.bool dd],.int .i64 at_] 0 .lf) St0 [] (Bx [.cell 4,.cell 5] K)
 refine Av hE ?_;conv=>whnf
 refine Av hE ?_;conv=>whnf
 refine ESc.inl h96 ?_;conv=>whnf
 refine ESc.inl h139 ?_;conv=>whnf
 cases D
 ·refine ESc.fam dskF h101 ⟨bv,us,bs,wv,ws,dd⟩ hx (u:=.int .i64 8) hDo ?_;conv=>whnf
  repeat' (first|((refine w6 rfl rfl ?_ ?_) <;> intro _ <;> first|(exfalso;omega)|(conv=>whnf))|fail)
  refine Av hE ?_;conv=>whnf
  repeat' (first|((refine w6 rfl rfl ?_ ?_) <;> intro _ <;> first|(exfalso;omega)|(conv=>whnf))|fail)
  refine Ep ?_;conv=>whnf
  exact h1 (by simp) _
 ·refine ESc.fam dskF h101 ⟨bv,us,bs,wv,ws,dd⟩ hx (u:=.int .i64 0) hDo ?_;conv=>whnf
  have hp:∀ K:AV→Prop,(at_<0∨(us.length:Int)≤at_→K (.int .i64 2))→(0≤at_∧at_<us.length→K (.int .i64 0))→True:=fun _ _ _=>trivial
  by_cases hr:0≤at_∧at_<(us.length:Int)
  ·obtain ⟨b,u,hg,hbu,hbd,hbl'⟩:=hlt rfl hr
   rw [hbd] at h0
   have h0:=fun hdd=>h0 (by rw [Zoj rfl,Zoj hr];exact hdd)
   rw [Zoj rfl,Zoj hr] at h1
   obtain ⟨n,rfl⟩:∃ n:Nat,at_=(n:Int):=⟨at_.toNat,by omega⟩
   have hlt':n<us.length:=by omega
   rw [show (n:Int).toNat=n by omega] at hg
   have hg':us[n]=u:=by rw [Zof hlt'] at hg;exact Zpn hg
   clear hg hbd hlt
   repeat' (first|(refine Af rfl hbl ?_;conv=>whnf)|((first|refine w1 rfl rfl ?_ ?_|refine w4 rfl rfl ?_ ?_|refine w6 rfl rfl ?_ ?_) <;> intro _ <;> first|(exfalso;omega)|(conv=>whnf))|(refine w19 rfl ?_ ?_ <;> intro hc <;> (try subst hc) <;> conv=>whnf))
   all_goals first|(exfalso;omega)|skip
   ·refine Av hE ?_;conv=>whnf
    repeat' (first|((refine w6 rfl rfl ?_ ?_) <;> intro _ <;> first|(exfalso;omega)|(conv=>whnf))|fail)
    refine Ep ?_;conv=>whnf
    exact h1 (by simp) _
   ·refine A8 rfl hbl rfl hlt' ?_;conv=>whnf
    refine EHead.mk (v:=u) (by rw [Zpi,Zoq,Zpo,Zof hlt',hg']) ?_;conv=>whnf
    have hcf:hfs [bv,wv,.bool false]=true:=CZ hwv hbl
    have hend:=fun cp' (hcp:cp'=DY b)=>(hcp ▸ hres rfl b K (fun s r h=>h0 rfl s r h):W P 0 none R2 (Am [(2,.ptr 0 0),(3,.ptr 1 0),(4,.ptr 2 0),(5,.ptr 3 0),(6,.sl 4 0 128 cp')]) (Ac St0 [.row 28 [bv,wv,.bool false],.row 3 [.int .i64 (n:Int)],.row 41 [.nils],.row 37 [.int .i64 0],.row 5 (Ab (Aa b))]) [] (Bx [.cell 4,.cell 5] K))
    refine K1 h98 h141 hbu hbl' (by show 6<1000000;decide) (fun h0=>?_) (fun h1=>?_)
    ·conv=>whnf
     refine Av hE ?_;conv=>whnf
     repeat' (first|((refine w6 rfl rfl ?_ ?_) <;> intro _ <;> first|(exfalso;omega)|(conv=>whnf))|fail)
     refine W.tells (Abs.tells (rs:=[0,1,2,3,6]) ?_) (hend (some 128) (by unfold DY;rw [Zoj h0]))
     exact ⟨by decide,⟨r9,r9,r9,r9,r9,trivial⟩,⟨o9,r9,r9,r9,o9 (AJ _),trivial⟩⟩
    ·conv=>whnf
     refine Av hE ?_;conv=>whnf
     repeat' (first|((refine w6 rfl rfl ?_ ?_) <;> intro _ <;> first|(exfalso;omega)|(conv=>whnf))|fail)
     refine W.tells (Abs.tells (rs:=[0,1,2,3,7]) ?_) (hend none (by unfold DY;rw [Zon (by omega)]))
     exact ⟨by decide,⟨r9,r9,r9,r9,r9,trivial⟩,⟨o9,r9,r9,r9,o9 (AJ _),trivial⟩⟩
  ·repeat' (first|(refine Af rfl hbl ?_;conv=>whnf)|((first|refine w1 rfl rfl ?_ ?_|refine w4 rfl rfl ?_ ?_|refine w6 rfl rfl ?_ ?_) <;> intro _ <;> first|(exfalso;omega)|(conv=>whnf))|fail)
   all_goals first|(exfalso;omega)|skip
   all_goals
    refine Av hE ?_;conv=>whnf
    repeat' (first|((refine w6 rfl rfl ?_ ?_) <;> intro _ <;> first|(exfalso;omega)|(conv=>whnf))|fail)
    refine Ep ?_;conv=>whnf
    have h1:=h1 (by rw [Zoj rfl,Zon hr];decide)
    rw [Zoj rfl,Zon hr] at h1
    exact h1 _
structure DKA where
 d:DK
 a:Int
structure DKA.ok (x:DKA):Prop where
 d:x.d.ok
 a:Aj x.a
def DKA.args (x:DKA):List AV:=[x.d.v,.int .i64 x.a]
variable {x:DKA}
theorem DKA.inja {y:DKA}(hx:x.ok) (hy:y.ok) (h:x.args=y.args):x=y:=by
 obtain ⟨d,a⟩:=x
 obtain ⟨d',a'⟩:=y
 have h1:=DK.inj hx.d.a hy.d.a (Zor h).1
 have h2:=(Zor (Zor h).2).1
 injection h2 with _ h2
 dsimp only at h1 h2
 rw [h1,h2]
theorem DKA.hfa (hx:x.ok):hfs x.args=true:=by
 show (AM.hf x.d.v && (true && true))=true
 rw [DK.hf hx.d.a];rfl
def DKA.e (x:DKA):Int:=Ih x.d x.a
def DKA.b (x:DKA):List Nat:=AY x.d x.a
noncomputable def JT:Ov:=fun args s=>open Classical in if h:∃ x:DKA,x.ok∧args=x.args then (if (Classical.choose h).e=0 then .ok (.tup [.sl (0+s.next) 0 128 (DY (Classical.choose h).b),.int .i64 0]) (s.alloc (.row 5 (Ab (Aa (Classical.choose h).b)))) else .ok (.tup [.nils,.int .i64 (Classical.choose h).e]) s) else .fail
theorem QO (hx:x.ok) (s:St):JT x.args s=if x.e=0 then .ok (.tup [.sl (0+s.next) 0 128 (DY x.b),.int .i64 0]) (s.alloc (.row 5 (Ab (Aa x.b)))) else .ok (.tup [.nils,.int .i64 x.e]) s:=by
 have h:∃ y:DKA,y.ok∧x.args=y.args:=⟨x,hx,rfl⟩
 unfold JT
 rw [dif_pos h]
 obtain ⟨h1,h2⟩:=Zpu h
 rw [← DKA.inja hx h1 h2]
theorem Zj7 {e:Env}(hE:EM P e) (h101:Con e 25 dskF.O) (h96:Inl e 101 RL [.tmp 4,.tmp 5]) (h139:Inl e 69 Rs [.tmp 4]) (h97:Inl e 102 Pe [.tmp 2]) (h98:Inl e 32 J7 [.tmp 2]) (h141:Inl e 70 HJ [.tmp 2])
 : OvOk P 78 JT:=by
 refine ⟨g78.b,fun args s v s' hh=>?_⟩
 have hx0:∃ x:DKA,x.ok∧args=x.args:=by
  unfold JT at hh
  split at hh
  ·rename_i h;exact h
  ·cases hh
 obtain ⟨x,hx,rfl⟩:=hx0
 rw [QO hx] at hh
 have hmain:=fun K=>Ve hE h101 h96 h139 h97 h98 h141 x.d hx.d x.a hx.a K
 by_cases hG:x.e=0
 ·rw [Zoj hG] at hh
  cases hh
  have key:C P 78 x.args St0 (fun v s'=>v=.tup [.sl 0 0 128 (DY x.b),.int .i64 0]∧s'=Ac St0 [.row 5 (Ab (Aa x.b))]):=by
   refine C.abs (C.of_W g78.f g78.c (hmain _ (fun _ s r h=>⟨[r],⟨by simp,⟨⟨rfl,rfl⟩,trivial⟩,⟨⟨AD (AJ _),by rw [Az (AJ _)];exact h⟩,trivial⟩⟩⟩) (fun h=>absurd hG h)))
  refine (C.frame (l:=[.row 5 (Ab (Aa x.b))]) (u:=.tup [.sl 0 0 128 (DY x.b),.int .i64 0]) (DKA.hfa hx) ?_ ?_ key ?_ s).mono ?_
  ·intro o ho;simp at ho;subst ho;rfl
  ·exact .inl (by simp)
  ·intro i o h
   rcases i with _|i
   ·simp at h;subst h;rfl
   ·simp at h
  ·rintro v s' ⟨rfl,rfl⟩
   refine ⟨rfl,?_⟩
   show Ac s [B5 _ (.row 5 (Ab (Aa x.b)))]=_
   rw [Az (AJ _)];rfl
 ·rw [Zon hG] at hh
  cases hh
  exact IJ (DKA.hfa hx) rfl (C.of_W g78.f g78.c (hmain _ (fun h=>absurd h hG) (fun _ s=>.plain _ rfl))) s
theorem Si:∀ {l:List AV},hfs l=true→All2 (Frz s) l l
 | [],_=>.nil
 | v::l,h=>by
  simp only [hfs,Zoh] at h
  exact .cons (.plain _ h.1) (Si h.2)
def HO (x:DKA):AV:=if x.e=0 then .tup [.fz 128 none (Ab (Aa x.b)),.int .i64 0] else .tup [.nils,.int .i64 x.e]
def drdF:Fam DKA:=⟨DKA.ok,DKA.args,HO,fun x y hx hy h=>by rw [DKA.inja hx hy h]⟩
theorem Zj8 {e:Env}(hE:EM P e) (h101:Con e 25 dskF.O) (h96:Inl e 101 RL [.tmp 4,.tmp 5]) (h139:Inl e 69 Rs [.tmp 4]) (h97:Inl e 102 Pe [.tmp 2]) (h98:Inl e 32 J7 [.tmp 2]) (h141:Inl e 70 HJ [.tmp 2])
 : OvOk P 78 drdF.O:=by
 refine Bk g78.b fun x hx=>?_
 have h0:x.e=0→drdF.out x=.tup [.fz 128 none (Ab (Aa x.b)),.int .i64 0]:=fun h=>by show HO x=_;unfold HO;rw [Zoj h]
 have h1:x.e≠0→drdF.out x=.tup [.nils,.int .i64 x.e]:=fun h=>by show HO x=_;unfold HO;rw [Zon h]
 refine ⟨DKA.hfa hx,by show AM.hf (HO x)=true;unfold HO;split <;> rfl,C.of_W g78.f g78.c (Ve hE h101 h96 h139 h97 h98 h141 x.d hx.d x.a hx.a _ (fun h s r hg=>?_) (fun h s=>?_))⟩
 ·rw [h0 h]
  exact .tup _ _ (.cons (.sl r 0 128 _ _ _ _ _ _ hg (fun i x h=>by rw [Zou];exact h) (Si (AJ _)) (.inl rfl)) (.cons (.plain _ rfl) .nil))
 ·rw [h1 h];exact .plain _ rfl
def zB:Option AObj→Bool
 | some (.row 87 [_,_,_,_,.nils])=>true
 | _=>false
noncomputable def DU:Ov:=fun args s=>if zB (s.get 4)=true then drdF.O args s else JT args s
theorem Zj5 (h1:OvOk P 78 drdF.O) (h2:OvOk P 78 JT):OvOk P 78 DU:=by
 refine ⟨h1.1,fun args s v s' hh=>?_⟩
 unfold DU at hh
 by_cases h:zB (s.get 4)=true
 ·rw [Zoj h] at hh;exact h1.2 args s v s' hh
 ·rw [Zon h] at hh;exact h2.2 args s v s' hh
theorem Zj6 (hx:x.ok) (h:zB (s.get 4)=true):DU x.args s=.ok (HO x) s:=by
 unfold DU
 rw [Zoj h]
 exact NT drdF hx s
theorem Zgb (hx:x.ok) (h:zB (s.get 4)=false) (he:x.e=0):DU x.args s=.ok (.tup [.sl (0+s.next) 0 128 (DY x.b),.int .i64 0]) (s.alloc (.row 5 (Ab (Aa x.b)))):=by
 unfold DU
 rw [Zon (by rw [h];decide),QO hx,Zoj he]
end Go.AM
namespace Go.AM
attribute [local irreducible] W
open X
structure CDA where
 c:Cfg
 d:DK
 a:Int
structure CDA.ok (x:CDA):Prop where
 c:x.c.ok
 d:x.d.ok
 a:Aj x.a
def CDA.args (x:CDA):List AV:=[x.c.v,x.d.v,.int .i64 x.a]
variable {x:CDA}
theorem CDA.inja {y:CDA}(hx:x.ok) (hy:y.ok) (h:x.args=y.args):x=y:=by
 obtain ⟨c,d,a⟩:=x
 obtain ⟨c',d',a'⟩:=y
 have h0:=FM (Zor h).1
 have h1:=DK.inj hx.d.a hy.d.a (Zor (Zor h).2).1
 have h2:=(Zor (Zor (Zor h).2).2).1
 injection h2 with _ h2
 dsimp only at h0 h1 h2
 rw [h0,h1,h2]
theorem CDA.hfa (hx:x.ok):hfs x.args=true:=by
 show (AM.hf x.c.v && (AM.hf x.d.v && (true && true)))=true
 rw [DK.hf hx.d.a];rfl
def Cb (x:CDA):Int:=if x.c.may then (if Bi x.d=true∧(x.d.us.length:Int)=x.c.log+1 then (if 0≤x.a∧x.a<x.c.log then (if x.d.dead then 40 else 0) else 2) else 8) else 8
def askF:Fam CDA:=⟨CDA.ok,CDA.args,fun x=>if Cb x=0 then .nilp else .fp [.int .i64 (Cb x)],fun x y hx hy h=>by rw [CDA.inja hx hy h]⟩
def Zkx:AC:=match P5 with|.mk c _=>c
theorem Zk9 {e:Env}(hE:EM P e) (h104:Con e 24 journalF.O) (h101:Con e 25 dskF.O) (h105:Inl e 112 Zkx [.tmp 2]):OvOk P 103 askF.O:=by
 refine Bk g103.b fun x hx=>?_
 refine ⟨CDA.hfa hx,by show AM.hf (if Cb x=0 then _ else _)=true;split <;> rfl,C.of_G hE g103 ?_⟩
 have fin0:∀ s,Cb x=0→Frz s .nilp (askF.out x):=fun s h=>by
  show Frz s .nilp (if Cb x=0 then _ else _);rw [Zoj h];exact .plain _ rfl
 have fin1:∀ s r n,Cb x=n→n≠0→s.get r=some (.row 37 [.int .i64 n])→Frz s (.ptr r 0) (askF.out x):=fun s r n h hn hg=>by
  show Frz s (.ptr r 0) (if Cb x=0 then _ else _);rw [Zon (by rw [h];exact hn),h]
  exact .ptr r 0 _ _ _ _ hg (fun i x h=>by rw [Zou];exact h) (.cons (.plain _ rfl) .nil)
 have hdk:=hx.d
 have hcok:=hx.c
 have hbl:=hx.d.a.bl
 have hja:=hx.a
 have hun:=hx.d.n
 obtain ⟨c,d,a⟩:=x
 obtain ⟨id,mb,ch,rw',lg,hd⟩:=c
 dsimp only at hdk hcok hbl hja hun
 have hlg:=hcok.log
 dsimp only at hlg
 unfold Cb at fin0 fin1
 dsimp only at fin0 fin1
 obtain ⟨D,hD⟩:∃ D,D=Bi d:=⟨_,rfl⟩
 have hDo:dskF.out d=.int .i64 (if D=true then 0 else 8):=by rw [hD];rfl
 rw [← hD] at fin0 fin1
 unfold Aj at hja hlg
 obtain ⟨bv,us,bs,wv,ws,dd⟩:=d
 dsimp only at hbl hun fin0 fin1
 show VW P e 0 (match P9 with|.mk c _=>c) (Ah [.agg [.int .u32 id,.int .i64 mb,.int .i64 ch,.int .i64 rw',.int .i64 lg,.int .i64 hd],.agg [bv,wv,.bool dd],.int .i64 a] 0 .lf) St0 none [] _
 conv=>whnf
 by_cases hM:Cfg.may ⟨id,mb,ch,rw',lg,hd⟩
 ·simp only [Zoj hM] at fin0 fin1
  have hM':=hM
  unfold Cfg.may at hM'
  dsimp only at hM'
  refine ESc.fam journalF h104 ⟨id,mb,ch,rw',lg,hd⟩ hcok (u:=.tup [.int .i64 (lg+1),.int .i64 0]) (by simp [journalF,hM]) ?_;conv=>whnf
  repeat' (first|((refine w6 rfl rfl ?_ ?_) <;> intro _ <;> first|(exfalso;omega)|(conv=>whnf))|fail)
  cases D
  ·refine ESc.fam dskF h101 ⟨bv,us,bs,wv,ws,dd⟩ hdk (u:=.int .i64 8) hDo ?_;conv=>whnf
   repeat' (first|(refine ESc.inl h105 ?_;conv=>whnf)|((first|refine w5 rfl rfl ?_ ?_|refine w6 rfl rfl ?_ ?_) <;> intro _ <;> first|(exfalso;omega)|(conv=>whnf))|fail)
   refine fin1 _ _ 8 (by simp) (by decide) ?_
   rfl
  ·refine ESc.fam dskF h101 ⟨bv,us,bs,wv,ws,dd⟩ hdk (u:=.int .i64 0) hDo ?_;conv=>whnf
   simp only [eq_self,true_and] at fin0 fin1
   repeat' (first|(refine Af rfl hbl ?_;conv=>whnf)|(refine ESc.inl h105 ?_;conv=>whnf)|((first|refine w1 rfl rfl ?_ ?_|refine w4 rfl rfl ?_ ?_|refine w5 rfl rfl ?_ ?_|refine w6 rfl rfl ?_ ?_) <;> intro _ <;> first|(exfalso;omega)|(conv=>whnf))|(refine w19 rfl ?_ ?_ <;> intro hc <;> (try subst hc) <;> conv=>whnf))
   all_goals first|(exfalso;omega)|skip
   ·refine fin1 _ _ 8 (by rw [Zon (by omega)]) (by decide) ?_
    rfl
   ·refine fin1 _ _ 2 (by rw [Zoj (by omega),Zon (by omega)]) (by decide) ?_
    rfl
   ·refine fin1 _ _ 2 (by rw [Zoj (by omega),Zon (by omega)]) (by decide) ?_
    rfl
   ·refine fin1 _ _ 40 (by rw [Zoj (by omega),Zoj (by omega)];rfl) (by decide) ?_
    rfl
   ·exact fin0 _ (by rw [Zoj (by omega),Zoj (by omega)];rfl)
 ·simp only [Zon hM] at fin0 fin1
  refine ESc.fam journalF h104 ⟨id,mb,ch,rw',lg,hd⟩ hcok (u:=.tup [.int .i64 0,.int .i64 8]) (by simp [journalF,hM]) ?_;conv=>whnf
  repeat' (first|(refine ESc.inl h105 ?_;conv=>whnf)|((first|refine w5 rfl rfl ?_ ?_|refine w6 rfl rfl ?_ ?_) <;> intro _ <;> first|(exfalso;omega)|(conv=>whnf))|fail)
  refine fin1 _ _ 8 rfl (by decide) ?_
  rfl
end Go.AM
namespace Go.AM
attribute [local irreducible] W
open X
structure RdS where
 S:List (Int×List Nat)
 p:Option (List Nat)
def r78 (b:List Nat):List Nat:=b.set 0 78
def FX (r:Rc) (b:List Nat):List Nat:=if r.bare then r78 b else b
def D9 (r:Rc) (b:List Nat):Bool:=decide ((Au b:Int)≠r.sum) || (decide (b.headD 0=78) || (r.bare && decide (b.headD 0≠0)))
def Eh (r:Rc) (b:List Nat) (st:RdS):RdS:=if r.slot=255 then ⟨st.S,some (FX r b)⟩ else ⟨st.S++[(r.slot,FX r b)],st.p⟩
def CM (B:Nat→List Nat):List Rc→Nat→Nat→RdS→Option RdS
 | [],_,_,st=>some st
 | _::_,0,_,st=>some st
 | r::R,n+1,i,st=>if D9 r (B i) then none else CM B R n (i+1) (Eh r (B i) st)
def F1 (S:List (Int×List Nat)):AV:=match S with
 | []=>.nils
 | p::S=>.fz (S.length+1) none (Bs ((p::S).map Prod.fst))
def Dx (S:List (Int×List Nat)):AV:=match S with
 | []=>.nils
 | p::S=>.fz (S.length+1) none ((p::S).map fun p=>AA p.2)
def Be:Option (List Nat)→AV
 | none=>.nils
 | some b=>AA b
def Dw (st:Int) (x:RdS):DB:=⟨st,F1 x.S,x.S.map Prod.fst,Dx x.S,x.S.map (fun p=>AA p.2),x.S.map Prod.snd,Be x.p,x.p.getD []⟩
structure RdS.ok (x:RdS):Prop where
 n:x.S.length≤17
 s:∀ p ∈ x.S,(0≤p.1∧p.1<256)∧p.2.length=128∧∀ y ∈ p.2,y<256
 p:∀ b,x.p=some b→b.length=128∧∀ y ∈ b,y<256
theorem Rg (S:List (Int×List Nat)):AM.hf (F1 S)=true:=by unfold F1;split <;> rfl
theorem Jy (S:List (Int×List Nat)):AM.hf (Dx S)=true:=by unfold Dx;split <;> rfl
theorem CT (S:Option (List Nat)):AM.hf (Be S)=true:=by unfold Be;split <;> rfl
theorem Hi {b:List Nat}(h:b.length=128∧∀ y ∈ b,y<256):BAt (AA b) b:=⟨.inr (.inr ⟨none,by rw [h.1];rfl,by rw [Ba];omega⟩),h.2⟩
theorem Vr:∀ {S:List (Int×List Nat)},(∀ p ∈ S,p.2.length=128∧∀ y ∈ p.2,y<256)→All2 BAt (S.map fun p=>AA p.2) (S.map Prod.snd)
 | [],_=>.nil
 | p::S,h=>.cons (Hi (h p (by simp))) (Vr fun q hq=>h q (by simp [hq]))
theorem Vq:∀ {S:List (Int×List Nat)},(∀ p ∈ S,p.2.length=128∧∀ y ∈ p.2,y<256)→All2 (fun u n=>BN.ok ⟨u,n⟩) (S.map fun p=>AA p.2) ((S.map Prod.snd).map List.length)
 | [],_=>.nil
 | p::S,h=>.cons ⟨⟨_,(Hi (h p (by simp))).1⟩,by have:=(h p (by simp)).1;dsimp only;omega⟩ (Vq fun q hq=>h q (by simp [hq]))
theorem VC {x:RdS}(hx:x.ok) {st:Int}(h:Aj st):(Dw st x).ok:=by
 obtain ⟨S,p⟩:=x
 obtain ⟨hn,hs,hp⟩:=hx
 dsimp only at hn hs hp
 have hp':BAt (Be p) (p.getD [])∧(p.getD []).length<1000000:=by
  cases p with
  | none=>exact ⟨⟨.inl ⟨rfl,rfl,rfl⟩,by intro x hx;cases hx⟩,by show 0<1000000;decide⟩
  | some b=>exact ⟨Hi (hp b rfl),by have:=(hp b rfl).1;show b.length<_;omega⟩
 refine ⟨⟨h,?_,?_,?_,⟨?_,Vq fun p hp=>(hs p hp).2,?_⟩,⟨⟨_,hp'.1.1⟩,?_⟩⟩,Vr fun p hp=>(hs p hp).2,hp'.1⟩
 ·cases S with
  | nil=>exact .inl ⟨rfl,rfl,rfl⟩
  | cons p S=>exact .inr (.inr ⟨none,by show AV.fz _ _ _=.fz ((p::S).map Prod.fst).length _ _;rw [Zom];rfl,by show (Bs ((p::S).map Prod.fst)).length=((p::S).map Prod.fst).length*1;unfold Bs;simp⟩)
 ·intro s hs'
  obtain ⟨q,hq,rfl⟩:=Zpf.1 (show s ∈ S.map Prod.fst from hs')
  have:=(hs q hq).1
  unfold Aj;omega
 ·show (S.map Prod.fst).length<_;rw [Zom];omega
 ·cases S with
  | nil=>exact .inl ⟨rfl,rfl,rfl⟩
  | cons p S=>exact .inr (.inr ⟨none,by show AV.fz _ _ _=.fz ((p::S).map fun p=>AA p.2).length _ _;rw [Zom];rfl,by show ((p::S).map fun p=>AA p.2).length=((p::S).map fun p=>AA p.2).length*1;omega⟩)
 ·show (S.map fun p=>AA p.2).length<_;rw [Zom];omega
 ·show (p.getD []).length<_;omega
def Bo (x:CDA) (i:Nat):List Nat:=Aa (AY x.d (1+(x.a+i) % x.c.log))
def zF:AV:=.agg [.int .u32 0,.int .u32 0,.int .i64 0,.nils,.nils,.nils]
def Fa (n:Int):AV:=.tup [zF,.int .i64 0,.int .i64 n]
def HV (c:Cfg) (n:Nt) (st:RdS):AV:=if CD.good ⟨c,(Dw n.stripe st).d⟩ then .tup [.agg [.int .u32 n.age,.int .u32 n.seq,.int .i64 n.stripe,F1 st.S,Dx st.S,Be st.p],.int .i64 (1+(n.recs.length:Int)),.int .i64 0] else Fa 130
def Fz (x:CDA):AV:=
 if Cb x=0 then
  (if Cz (Bo x 0)=true∧(As (Bo x 0)).id=x.c.id then
    (match CM (Bo x) (As (Bo x 0)).recs (x.c.log.toNat-1) 1 ⟨[],none⟩ with
      | none=>Fa 130
      | some st=>HV x.c (As (Bo x 0)) st)
  else Fa 130)
 else Fa (Cb x)
def KR:AC:=match a82 with|.mk c _=>c
def R3:AC:=match KR with
 | .seq _ (.seq _ (.seq _ (.seq _ r)))=>r
 | _=>.skip
def fC (ag sq st:Int) (x:RdS):List AV:=[.int .u32 ag,.int .u32 sq,.int .i64 st,F1 x.S,Dx x.S,Be x.p]
theorem Zme (ag sq st:Int) (x:RdS):hfs (fC ag sq st x)=true:=by
 show (true && (true && (true && (AM.hf (F1 x.S) && (AM.hf (Dx x.S) && (AM.hf (Be x.p) && true))))))=true
 rw [Rg,Jy,CT];rfl
theorem Zkc {e:Env}(hE:EM P e) (h50:Con e 73 dchkF.O) (c:Cfg) (hc:c.ok) (n:Nt) (hn:n.ok) (hs:n.v=.fz n.recs.length none (Ax n.recs)) (x:RdS) (hx:x.ok) (K:AV→St→Prop) (hk:∀ s,K (HV c n x) s):
 W P 0 none R3 (Am [(3,.ptr 0 0),(6,.ptr 1 0),(7,.ptr 2 0),(8,.ptr 3 0),(10,.ptr 4 0)]) (Ac St0 [.row 24 c.c,.row 68 (fC n.age n.seq n.stripe x),.row 3 [.int .i64 0],.row 37 [.int .i64 0],.row 87 (Cw n n.v),.defd]) [5] (Bx [.cells 6 6,.cell 7,.cell 8] K):=by
 have hok:CD.ok ⟨c,(Dw n.stripe x).d⟩:=⟨hc,(VC hx hn.stripe).d⟩
 have hl:=hn.len
 have hf1:=Rg x.S
 have hf2:=Jy x.S
 have hf3:=CT x.p
 have hO:∀ u,(if CD.good ⟨c,(Dw n.stripe x).d⟩ then AV.int .i64 0 else .int .i64 8)=u→dchkF.out ⟨c,(Dw n.stripe x).d⟩=u:=fun u h=>by
  rw [← h];show AV.int .i64 (if _ then 0 else 8)=_;split <;> rfl
 have henc:dchkF.enc ⟨c,(Dw n.stripe x).d⟩=[c.v,.agg [.int .i64 n.stripe,F1 x.S,Dx x.S,Be x.p]]:=rfl
 have hfam:=fun u (h:dchkF.out ⟨c,(Dw n.stripe x).d⟩=u) K (s:St) (hk:K u s)=>(henc ▸ ESc.fam (s:=s) (k:=K) dchkF h50 ⟨c,(Dw n.stripe x).d⟩ hok h hk:ESc e 73 [c.v,.agg [.int .i64 n.stripe,F1 x.S,Dx x.S,Be x.p]] s K)
 unfold HV at hk
 refine Fv hE ?_
 by_cases hG:CD.good ⟨c,(Dw n.stripe x).d⟩
 ·rw [Zoj hG] at hk
  have hf:=hfam (.int .i64 0) (hO _ (Zoj hG))
  clear hfam hO henc hok
  conv=>whnf
  refine hf _ _ ?_;conv=>whnf
  repeat' (first|(refine Af (n:=n.recs.length) rfl hn.sl ?_;conv=>whnf)|((refine w6 rfl rfl ?_ ?_) <;> intro _ <;> first|(exfalso;omega)|(conv=>whnf))|((first|refine w7 rfl rfl (by omega) ?_|refine ⟨rfl,?_⟩);conv=>whnf)|fail)
  exact hk _
 ·rw [Zon hG] at hk
  have hf:=hfam (.int .i64 8) (hO _ (Zon hG))
  clear hfam hO henc hok
  conv=>whnf
  refine hf _ _ ?_;conv=>whnf
  repeat' (first|((refine w6 rfl rfl ?_ ?_) <;> intro _ <;> first|(exfalso;omega)|(conv=>whnf))|fail)
  exact hk _
end Go.AM
namespace Go.AM
attribute [local irreducible] W
open X
def wholeF:Fam UB:=⟨UB.ok,fun x=>[x.u],fun x=>AA (Aa x.b),fun x y hx hy h=>by
 obtain ⟨u,b⟩:=x
 obtain ⟨u',b'⟩:=y
 have e:u=u':=(Zor h).1
 subst e
 have:=hx.b.inj hy.b
 dsimp only at this ⊢
 rw [this]⟩
def H4 (b:List Nat) (i:Nat):List Nat:=b.take i++List.replicate (128-i) 0
variable {b:List Nat}{i:Nat}
theorem Zgm (h:i<b.length) (hb:b.length=128):(H4 b i).set i b[i]=H4 b (i+1):=by
 unfold H4
 rw [Zos h,show 128-i=(128-(i+1))+1 by omega,List.replicate_succ,List.set_append,Zon (by rw [Zo5];omega)]
 rw [show i-(List.take i b).length=0 by rw [Zo5];omega,List.set_cons_zero,List.append_assoc]
 rfl
theorem Zaw (h:i≤b.length) (hb:b.length=128):(H4 b i).length=128:=by
 unfold H4;rw [Zot,Zo5,List.length_replicate];omega
theorem Zbo {s:St}{r e n:Nat}{bs:List Nat}(h:s.get r=some (.row e (Ab bs))) (hi:i<bs.length):storeAt r i [.int .u8 (Int.ofNat n)] s=some (s.put r (.row e (Ab (bs.set i n)))):=by
 rw [Fl h (by rw [Ba];simp;omega)]
 congr 4
 show (Ab bs).take i++[AV.int .u8 (Int.ofNat n)]++(Ab bs).drop (i+1)=(bs.set i n).map _
 rw [List.set_eq_take_append_cons_drop,Zoj hi]
 unfold Ab
 rw [Zo4,Zpv,List.map_take,List.map_drop,List.append_assoc];rfl
variable {e:Env}
theorem Zbj (hE:EM P e):OvOk P 45 wholeF.O:=by
 refine Bk g45.b fun x hx=>?_
 obtain ⟨u,b⟩:=x
 obtain ⟨hbt,hl⟩:=hx
 dsimp only at hbt hl
 have huf:=hbt.1.hf
 refine ⟨by show (AM.hf u && true)=true;rw [huf];rfl,rfl,C.of_G hE g45 ?_⟩
 show VW P e 0 (match a45 with|.mk c _=>c) (Ah [u] 0 .lf) St0 none [] (AR [.tmp 2] (fun w s'=>Frz s' w (AA (Aa b))))
 have fin:∀ s r,s.get r=some (.row 5 (Ab (Aa b)))→Frz s (.sl r 0 128 (some 128)) (AA (Aa b)):=fun s r h=>.sl r 0 128 _ _ _ _ _ _ h (fun i x h=>by rw [Zou];exact h) (Si (AJ _)) (.inl rfl)
 conv=>whnf
 refine LF (n:=127) rfl rfl (by decide) ?_;conv=>whnf
 refine Ce (α:=Nat) (fun i=>[(0,u),(3,.sl 0 0 128 (some 128)),(4,.int .i64 (i:Int))]) (fun i=>[.row 5 (Ab (H4 b i))]) (fun i=>b.length-i) (fun i=>i≤b.length) 0 (Zoy _)
  (Abs.tells (rs:=[0]) .a) ?_
 intro i hi
 refine A9 hE ?_
 by_cases hlt:i<b.length
 ·have hb8:b.length=128:=by omega
  have hhead:((Ab b).drop (i*1))[0]?=some (.int .u8 (b[i]:Int)):=by
   rw [Zpi,Zoq,Zpo]
   unfold Ab
   rw [Zpe,Zof hlt];rfl
  have hs:=Zgm hlt hb8
  have hcl:=Zaw hi hb8
  revert hhead hs
  generalize b[i]=w
  intro hhead hs
  conv=>whnf
  refine Af rfl hbt.1 ?_;conv=>whnf
  refine Ag (a:=(i:Int)) (b:=(b.length:Int)) rfl rfl (fun _=>?_) (fun h=>by omega);conv=>whnf
  refine A8 rfl hbt.1 rfl hlt ?_;conv=>whnf
  refine EHead.mk (v:=.int .u8 (w:Int)) hhead ?_;conv=>whnf
  refine Cy rfl rfl (by omega) (by omega) ?_;conv=>whnf
  refine AP ((Ac St0 [.row 5 (Ab (H4 b i))]).put 0 (.row 5 (Ab (H4 b (i+1))))) ?_ ?_
  ·rw [← hs]
   have h1:0+(i:Int).toNat*1=i:=by omega
   show storeAt 0 (0+(i:Int).toNat*1) [.int .u8 (Int.ofNat w)] _=_
   rw [h1]
   exact Zbo rfl (by omega)
  conv=>whnf
  repeat' (first|((first|refine w7 rfl rfl (by omega) ?_|refine ⟨rfl,?_⟩);conv=>whnf)|fail)
  exact ⟨i+1,hlt,by omega,Abs.tells (rs:=[0]) ⟨by decide,⟨t9,r9,r9,trivial⟩,⟨o9 (AJ _),trivial⟩⟩⟩
 ·have hbp:H4 b i=Aa b:=by
   have:i=b.length:=by omega
   subst this
   unfold H4
   rw [List.take_length]
   rcases hl with h|h
   ·rw [Zpd.1 h];rfl
   ·rw [CH h,h];exact Zpq b
  rw [hbp]
  conv=>whnf
  refine Af rfl hbt.1 ?_;conv=>whnf
  refine Ag (a:=(i:Int)) (b:=(b.length:Int)) rfl rfl (fun _=>by omega) (fun h=>?_);conv=>whnf
  refine fin _ _ ?_
  rfl
def KN (a b:List Nat):Bool:=decide (Aa a=Aa b)
structure UU where
 x:UB
 y:UB
structure UU.ok (p:UU):Prop where
 x:p.x.ok
 y:p.y.ok
def same2F:Fam UU:=⟨UU.ok,fun p=>[p.x.u,p.y.u],fun p=>.bool (KN p.x.b p.y.b),fun p q hp hq h=>by
 obtain ⟨⟨u,b⟩,⟨v,c⟩⟩:=p
 obtain ⟨⟨u',b'⟩,⟨v',c'⟩⟩:=q
 have e:u=u':=(Zor h).1
 have e':v=v':=(Zor (Zor h).2).1
 subst e e'
 have h1:=hp.x.b.inj hq.x.b
 have h2:=hp.y.b.inj hq.y.b
 dsimp only at h1 h2 ⊢
 rw [h1,h2]⟩
theorem Zbw (hE:EM P e) (h114:Con e 45 wholeF.O):OvOk P 47 same2F.O:=by
 refine Bk g47.b fun p hp=>?_
 obtain ⟨⟨u,b⟩,⟨v,c⟩⟩:=p
 obtain ⟨hx,hy⟩:=hp
 have h1:=hx.b.1.hf
 have h2:=hy.b.1.hf
 have l1:=H9 hx.l
 have l2:=H9 hy.l
 have p1:=Hh hx.b.2
 have p2:=Hh hy.b.2
 dsimp only at h1 h2 l1 l2 p1 p2
 refine ⟨by show (AM.hf u && (AM.hf v && true))=true;rw [h1,h2];rfl,rfl,C.of_G hE g47 ?_⟩
 show VW P e 0 (match a47 with|.mk c _=>c) (Ah [u,v] 0 .lf) St0 none [] (AR [.tmp 4] (fun w s'=>Frz s' w (.bool (KN b c))))
 conv=>whnf
 refine ESc.fam wholeF h114 ⟨u,b⟩ hx (u:=AA (Aa b)) rfl ?_;conv=>whnf
 repeat' (first|(refine Gt (bs:=Aa b) rfl (Hi ⟨l1,p1⟩).1 p1 ?_;conv=>whnf)|fail)
 refine ESc.fam wholeF h114 ⟨v,c⟩ hy (u:=AA (Aa c)) rfl ?_;conv=>whnf
 refine Gt (bs:=Aa b) rfl (Hi ⟨l1,p1⟩).1 p1 ?_;conv=>whnf
 refine ⟨rfl,?_⟩;conv=>whnf
 refine Gt (bs:=Aa c) rfl (Hi ⟨l2,p2⟩).1 p2 ?_;conv=>whnf
 refine Zl rfl rfl (fun h=>?_) (fun h=>?_)
 ·conv=>whnf
  have:KN b c=true:=Zok h
  rw [this];exact .plain _ rfl
 ·conv=>whnf
  have:KN b c=false:=Zow h
  rw [this];exact .plain _ rfl
structure D2 where
 x:DB
 y:DB
structure D2.ok (p:D2):Prop where
 x:p.x.any
 y:p.y.any
 bx:∀ b ∈ p.x.bs,b.length=0∨b.length=128
 by_:∀ b ∈ p.y.bs,b.length=0∨b.length=128
 n:p.x.sl.length<1000000000∧p.x.us.length<1000000000
def HR (x y:DB):Bool:=decide (x.st=y.st) && (decide (x.sl.length=y.sl.length) && (decide (x.us.length=y.us.length) && (decide (x.pb=y.pb) && (decide (x.sl=y.sl) && decide (x.bs.map Aa=y.bs.map Aa)))))
def sameF:Fam D2:=⟨D2.ok,fun p=>[p.x.d.v,p.y.d.v],fun p=>.bool (HR p.x p.y),fun p q hp hq h=>by
 have h1:=DB.inja hp.x hq.x (Zor h).1
 have h2:=DB.inja hp.y hq.y (Zor (Zor h).2).1
 rw [h1,h2]⟩
theorem Uc {l:List Int}(h:i<l.length):((Bs l).drop (i*1))[0]?=some (.int .i64 l[i]):=by
 rw [Zpi,Zoq,Zpo]
 unfold Bs
 rw [Zpe,Zof h];rfl
theorem TH {α:Type}{l m:List α}(h:i<l.length) (h':i<m.length) (ht:l.take i=m.take i) (he:l[i]=m[i]):l.take (i+1)=m.take (i+1):=by
 rw [Zos h,Zos h',ht,he]
theorem Vx {α:Type}{l m:List α}(h:i<l.length) (h':i<m.length) (he:l[i]≠m[i]):l≠m:=by
 intro e;subst e;exact he rfl
theorem Zep (hE:EM P e) (h71:Con e 47 same2F.O):OvOk P 16 sameF.O:=by
 refine Bk g16.b fun p hp=>?_
 obtain ⟨x,y⟩:=p
 obtain ⟨hx,hy,hbx,hby,hnn⟩:=hp
 dsimp only at hx hy hbx hby hnn
 refine ⟨by show (AM.hf x.d.v && (AM.hf y.d.v && true))=true;rw [K4 hx,K4 hy];rfl,rfl,C.of_G hE g16 ?_⟩
 have fin:∀ s (b:Bool),b=HR x y→Frz s (.bool b) (.bool (HR x y)):=by rintro s b rfl;exact .plain _ rfl
 show VW P e 0 (match Np with|.mk c _=>c) (Ah [x.d.v,y.d.v] 0 .lf) St0 none [] (AR [.tmp 4] (fun w s'=>Frz s' w (.bool (HR x y))))
 obtain ⟨O,hO⟩:∃ O,O=AV.bool (HR x y):=⟨_,rfl⟩
 rw [← hO] at fin ⊢
 clear hO
 unfold HR at fin
 obtain ⟨st,sv,sl,bv,us,bs,pv,pb⟩:=x
 obtain ⟨st',sv',sl',bv',us',bs',pv',pb'⟩:=y
 obtain ⟨h1,h2,h3,h4,h5,h6⟩:=hx
 obtain ⟨g1,g2,g3,g4,g5,g6⟩:=hy
 dsimp only at h1 h2 h3 h4 h5 h6 g1 g2 g3 g4 g5 g6 hbx hby hnn fin
 have h7:=h5.length
 have g7:=g5.length
 have hDf:hfs [.int .i64 st,sv,bv,pv]=true:=by
  show (true && (AM.hf sv && (AM.hf bv && (AM.hf pv && true))))=true
  rw [h2.hf,h4.hf,h6.1.hf];rfl
 have gDf:hfs [.int .i64 st',sv',bv',pv']=true:=by
  show (true && (AM.hf sv' && (AM.hf bv' && (AM.hf pv' && true))))=true
  rw [g2.hf,g4.hf,g6.1.hf];rfl
 have no:(st≠st'∨sl.length≠sl'.length∨us.length≠us'.length∨pb≠pb'∨sl≠sl'∨bs.map Aa≠bs'.map Aa)→∀ s,Frz s (.bool false) O:=fun h s=>fin s false (by
  symm
  rw [Bool.eq_false_iff]
  intro hq
  simp only [Zoh,Zpc] at hq
  obtain ⟨q1,q2,q3,q4,q5,q6⟩:=hq
  rcases h with h|h|h|h|h|h
  ·exact h q1
  ·exact h q2
  ·exact h q3
  ·exact h q4
  ·exact h q5
  ·exact h q6)
 show VW P e 0 (match Np with|.mk c _=>c) (Ah [.agg [.int .i64 st,sv,bv,pv],.agg [.int .i64 st',sv',bv',pv']] 0 .lf) St0 none [] _
 conv=>whnf
 refine B7 (a:=st) (b:=st') rfl rfl (fun e1=>?_) (fun e1=>?_)
 ·conv=>whnf
  skip
  exact no (.inl e1) _
 conv=>whnf
 refine Af rfl h2 ?_;conv=>whnf
 refine Af rfl g2 ?_;conv=>whnf
 refine B7 (a:=(sl.length:Int)) (b:=(sl'.length:Int)) rfl rfl (fun e2=>?_) (fun e2=>?_)
 ·conv=>whnf
  skip
  exact no (.inr (.inl (by omega))) _
 conv=>whnf
 refine Af rfl h4 ?_;conv=>whnf
 refine Af rfl g4 ?_;conv=>whnf
 refine B7 (a:=(us.length:Int)) (b:=(us'.length:Int)) rfl rfl (fun e3=>?_) (fun e3=>?_)
 ·conv=>whnf
  skip
  exact no (.inr (.inr (.inl (by omega)))) _
 conv=>whnf
 refine Gt (bs:=pb) rfl h6.1 h6.2 ?_;conv=>whnf
 refine Gt (bs:=pb') rfl g6.1 g6.2 ?_;conv=>whnf
 refine Nw rfl rfl (fun e4=>?_) (fun e4=>?_)
 ·conv=>whnf
  skip
  exact no (.inr (.inr (.inr (.inl e4)))) _
 conv=>whnf
 refine Ce (α:=Nat) (fun i=>[(2,.ptr 0 0),(3,.ptr 1 0),(5,.int .i64 (i:Int))]) (fun _=>[.row 53 [.int .i64 st,sv,bv,pv],.row 53 [.int .i64 st',sv',bv',pv']]) (fun i=>sl.length-i) (fun i=>i≤sl.length∧sl.take i=sl'.take i) 0 ⟨Zoy _,rfl⟩
  (Abs.tells (rs:=[0,1]) .a) ?_
 rintro i ⟨hi,hI⟩
 refine A9 hE ?_
 by_cases hlt:i<sl.length
 ·have hlt':i<sl'.length:=by omega
  have q1:=Uc hlt
  have q2:=Uc hlt'
  have q3:=TH hlt hlt' hI
  have q4:=Vx hlt hlt'
  have hall:=And.intro q1 (And.intro q2 (And.intro q3 q4))
  clear q1 q2 q3 q4
  revert hall
  generalize sl[i]=w
  generalize sl'[i]=w'
  rintro ⟨q1,q2,q3,q4⟩
  conv=>whnf
  refine Af rfl h2 ?_;conv=>whnf
  refine Ag (a:=(i:Int)) (b:=(sl.length:Int)) rfl rfl (fun _=>?_) (fun h=>by omega);conv=>whnf
  refine A8 rfl h2 rfl hlt ?_;conv=>whnf
  refine EHead.mk (v:=.int .i64 w) q1 ?_;conv=>whnf
  refine A8 rfl g2 rfl hlt' ?_;conv=>whnf
  refine EHead.mk (v:=.int .i64 w') q2 ?_;conv=>whnf
  refine B7 (a:=w) (b:=w') rfl rfl (fun e5=>?_) (fun e5=>?_)
  ·conv=>whnf
   exact no (.inr (.inr (.inr (.inr (.inl (q4 e5)))))) _
  ·conv=>whnf
   repeat' (first|((first|refine w7 rfl rfl (by omega) ?_|refine ⟨rfl,?_⟩);conv=>whnf)|fail)
   exact ⟨i+1,⟨hlt,q3 e5⟩,by omega,Abs.tells (rs:=[0,1]) .a⟩
 ·have hse:sl=sl':=by
   rw [Zoo (by omega),Zoo (by omega)] at hI;exact hI
  conv=>whnf
  refine Af rfl h2 ?_;conv=>whnf
  refine Ag (a:=(i:Int)) (b:=(sl.length:Int)) rfl rfl (fun _=>by omega) (fun h=>?_);conv=>whnf
  refine Ce (α:=Nat) (fun j=>[(2,.ptr 0 0),(3,.ptr 1 0),(6,.int .i64 (j:Int))]) (fun _=>[.row 53 [.int .i64 st,sv,bv,pv],.row 53 [.int .i64 st',sv',bv',pv']]) (fun j=>us.length-j) (fun j=>j≤us.length∧(bs.map Aa).take j=(bs'.map Aa).take j) 0 ⟨Zoy _,rfl⟩
   (Abs.tells (rs:=[0,1]) .a) ?_
  rintro j ⟨hj,hJ⟩
  refine A9 hE ?_
  by_cases hjl:j<us.length
  ·have hjl':j<us'.length:=by omega
   obtain ⟨b,hb1,hb2⟩:=h5.get (Zof hjl)
   obtain ⟨b',hb1',hb2'⟩:=g5.get (Zof hjl')
   have hl:=hbx b (Zo1 hb1)
   have hl':=hby b' (Zo1 hb1')
   have k1:j<(bs.map Aa).length:=by rw [Zom];omega
   have k2:j<(bs'.map Aa).length:=by rw [Zom];omega
   have k3:(bs.map Aa)[j]=Aa b:=by
    have:(bs.map Aa)[j]?=some (Aa b):=by rw [Zpe,hb1];rfl
    rw [Zof k1] at this;exact Zpn this
   have k4:(bs'.map Aa)[j]=Aa b':=by
    have:(bs'.map Aa)[j]?=some (Aa b'):=by rw [Zpe,hb1'];rfl
    rw [Zof k2] at this;exact Zpn this
   have q3:=TH k1 k2 hJ
   have q4:=Vx k1 k2
   rw [k3,k4] at q3 q4
   have q1:((us.drop (j*1)))[0]?=some us[j]:=by rw [Zpi,Zoq,Zpo,Zof hjl]
   have q2:((us'.drop (j*1)))[0]?=some us'[j]:=by rw [Zpi,Zoq,Zpo,Zof hjl']
   have hall:=And.intro q1 (And.intro q2 (And.intro hb2 hb2'))
   clear q1 q2 hb2 hb2'
   revert hall
   generalize us[j]=w
   generalize us'[j]=w'
   rintro ⟨q1,q2,hb2,hb2'⟩
   conv=>whnf
   refine Af rfl h4 ?_;conv=>whnf
   refine Ag (a:=(j:Int)) (b:=(us.length:Int)) rfl rfl (fun _=>?_) (fun h=>by omega);conv=>whnf
   refine A8 rfl h4 rfl hjl ?_;conv=>whnf
   refine EHead.mk (v:=w) q1 ?_;conv=>whnf
   refine A8 rfl g4 rfl hjl' ?_;conv=>whnf
   refine EHead.mk (v:=w') q2 ?_;conv=>whnf
   refine ESc.fam same2F h71 ⟨⟨w,b⟩,⟨w',b'⟩⟩ ⟨⟨hb2,hl⟩,⟨hb2',hl'⟩⟩ (u:=.bool (KN b b')) rfl ?_
   cases hq:KN b b'
   ·conv=>whnf
    repeat' (first|(refine w13 rfl ?_;conv=>whnf)|fail)
    exact no (.inr (.inr (.inr (.inr (.inr (q4 (of_decide_eq_false hq))))))) _
   ·conv=>whnf
    repeat' (first|((first|refine w7 rfl rfl (by omega) ?_|refine w12 rfl ?_|refine ⟨rfl,?_⟩);conv=>whnf)|fail)
    exact ⟨j+1,⟨hjl,q3 (Zpw hq)⟩,by omega,Abs.tells (rs:=[0,1]) .a⟩
  ·have hbe:bs.map Aa=bs'.map Aa:=by
    rw [Zoo (by rw [Zom];omega),Zoo (by rw [Zom];omega)] at hJ;exact hJ
   conv=>whnf
   refine Af rfl h4 ?_;conv=>whnf
   refine Ag (a:=(j:Int)) (b:=(us.length:Int)) rfl rfl (fun _=>by omega) (fun h=>?_);conv=>whnf
   exact fin _ true (by rw [Zok e1,Zok (by omega),Zok (by omega),Zok e4,Zok hse,Zok hbe];rfl)
end Go.AM
namespace Go.AM
attribute [local irreducible] W
open X
def Ic (x:DK) (a:Int):Int:=if Bi x=true then (if 0≤a∧a<x.us.length then 0 else 2) else 8
def plcF:Fam DKA:=⟨DKA.ok,DKA.args,fun x=>.int .i64 (Ic x.d x.a),fun x y hx hy h=>by rw [DKA.inja hx hy h]⟩
variable {e:Env}
theorem Zht (hE:EM P e) (h101:Con e 25 dskF.O):OvOk P 69 plcF.O:=by
 refine Bk g69.b fun x hx=>?_
 refine ⟨DKA.hfa hx,rfl,C.of_G hE g69 ?_⟩
 have fin:∀ s (n:Int),n=Ic x.d x.a→Frz s (.int .i64 n) (plcF.out x):=by rintro s n rfl;exact .plain _ rfl
 obtain ⟨O,hO⟩:∃ O,O=plcF.out x:=⟨_,rfl⟩
 rw [← hO] at fin ⊢
 clear hO
 have hbl:=hx.d.a.bl
 have hun:=hx.d.n
 have ha:=hx.a
 have hd:=hx.d
 obtain ⟨d,a⟩:=x
 dsimp only at hbl hun ha hd fin
 unfold Ic at fin
 obtain ⟨D,hD⟩:∃ D,D=Bi d:=⟨_,rfl⟩
 have hDo:dskF.out d=.int .i64 (if D=true then 0 else 8):=by rw [hD];rfl
 rw [← hD] at fin
 unfold Aj at ha
 obtain ⟨bv,us,bs,wv,ws,dd⟩:=d
 dsimp only at hbl hun fin
 show VW P e 0 (match Nh with|.mk c _=>c) (Ah [.agg [bv,wv,.bool dd],.int .i64 a] 0 .lf) St0 none [] _
 conv=>whnf
 cases D
 ·refine ESc.fam dskF h101 ⟨bv,us,bs,wv,ws,dd⟩ hd (u:=.int .i64 8) hDo ?_;conv=>whnf
  repeat' (first|((refine w6 rfl rfl ?_ ?_) <;> intro _ <;> first|(exfalso;omega)|(conv=>whnf))|fail)
  exact fin _ 8 (by simp)
 ·refine ESc.fam dskF h101 ⟨bv,us,bs,wv,ws,dd⟩ hd (u:=.int .i64 0) hDo ?_;conv=>whnf
  simp only [eq_self,if_true] at fin
  repeat' (first|(refine Af rfl hbl ?_;conv=>whnf)|((first|refine w1 rfl rfl ?_ ?_|refine w4 rfl rfl ?_ ?_|refine w6 rfl rfl ?_ ?_) <;> intro _ <;> first|(exfalso;omega)|(conv=>whnf))|fail)
  ·exact fin _ 2 (by rw [Zon (by omega)])
  ·exact fin _ 2 (by rw [Zon (by omega)])
  ·exact fin _ 0 (by rw [Zoj (by omega)])
structure DKW where
 d:DK
 a:Int
 u:AV
 b:List Nat
structure DKW.ok (x:DKW):Prop where
 d:x.d.ok
 a:Aj x.a
 b:BAt x.u x.b
 n:x.b.length<1000000
def DKW.args (x:DKW):List AV:=[x.d.v,.int .i64 x.a,x.u]
variable {x:DKW}
theorem DKW.inja {y:DKW}(hx:x.ok) (hy:y.ok) (h:x.args=y.args):x=y:=by
 obtain ⟨d,a,u,b⟩:=x
 obtain ⟨d',a',u',b'⟩:=y
 have h1:=DK.inj hx.d.a hy.d.a (Zor h).1
 have h2:=(Zor (Zor h).2).1
 have h3:=(Zor (Zor (Zor h).2).2).1
 injection h2 with _ h2
 dsimp only at h1 h2 h3
 subst h1 h2 h3
 have:=hx.b.inj hy.b
 dsimp only at this
 rw [this]
theorem DKW.hfa (hx:x.ok):hfs x.args=true:=by
 show (AM.hf x.d.v && (true && (AM.hf x.u && true)))=true
 rw [DK.hf hx.d.a,hx.b.1.hf];rfl
def Cg (x:DK) (a:Int) (b:List Nat):Int:=if Ic x a=0 then (if AE b.length=true then 3 else if x.dead=true then 40 else 0) else Ic x a
def wrtF:Fam DKW:=⟨DKW.ok,DKW.args,fun x=>.int .i64 (Cg x.d x.a x.b),fun x y hx hy h=>by rw [DKW.inja hx hy h]⟩
theorem Zg7 (hE:EM P e) (h139:Con e 69 plcF.O) (h143:Con e 58 oddF.O):OvOk P 30 wrtF.O:=by
 refine Bk g30.b fun x hx=>?_
 refine ⟨DKW.hfa hx,rfl,C.of_G hE g30 ?_⟩
 have fin:∀ s (n:Int),n=Cg x.d x.a x.b→Frz s (.int .i64 n) (wrtF.out x):=by rintro s n rfl;exact .plain _ rfl
 obtain ⟨O,hO⟩:∃ O,O=wrtF.out x:=⟨_,rfl⟩
 rw [← hO] at fin ⊢
 clear hO
 obtain ⟨d,a,u,b⟩:=x
 obtain ⟨hd,ha,hbt,hbn⟩:=hx
 dsimp only at hd ha hbt hbn fin
 unfold Cg at fin
 obtain ⟨pe,hpe⟩:∃ pe,pe=Ic d a:=⟨_,rfl⟩
 have hpo:plcF.out ⟨d,a⟩=.int .i64 pe:=by rw [hpe];rfl
 rw [← hpe] at fin
 obtain ⟨bv,us,bs,wv,ws,dd⟩:=d
 dsimp only at fin
 show VW P e 0 (match a30 with|.mk c _=>c) (Ah [.agg [bv,wv,.bool dd],.int .i64 a,u] 0 .lf) St0 none [] _
 conv=>whnf
 refine ESc.fam plcF h139 ⟨⟨bv,us,bs,wv,ws,dd⟩,a⟩ ⟨hd,ha⟩ (u:=.int .i64 pe) hpo ?_;conv=>whnf
 refine B7 (a:=pe) (b:=0) rfl rfl (fun e1=>?_) (fun e1=>?_)
 ·conv=>whnf
  skip
  exact fin _ pe (by rw [Zon e1])
 ·rw [Zoj e1] at fin
  conv=>whnf
  refine ESc.fam oddF h143 ⟨u,b.length⟩ ⟨⟨_,hbt.1⟩,by dsimp only;omega⟩ (u:=.bool (AE b.length)) rfl ?_
  cases ho:AE b.length
  ·rw [ho] at fin
   simp only [Bool.false_eq_true,if_false] at fin
   cases dd
   ·conv=>whnf
    skip
    exact fin _ 0 (by simp)
   ·conv=>whnf
    skip
    exact fin _ 40 (by simp)
  ·conv=>whnf
   skip
   exact fin _ 3 (by rw [Zoj ho])
end Go.AM
namespace Go.AM
attribute [local irreducible] W
open X
def Ao:AV→AV
 | .es=>.fz 0 none []
 | .fz n _ l=>.fz n none l
 | v=>v
theorem Rf (l:List AV) (h:∀ u ∈ l,AM.hf (Ao u)=true):hfs (l.map Ao)=true:=hfs_iff.2 fun v hv=>by
 obtain ⟨u,hu,rfl⟩:=Zpf.1 hv;exact h u hu
def osW (D:List AV) (dd:Bool) (L:List AV):Nat→List AObj
 | 0=>[.row 28 D,.row 28 [.nils,.nils,.bool false],.row 28 [.nils,.nils,.bool dd]]
 | i+1=>[.row 28 D,.row 28 [.nils,.nils,.bool false],.row 28 [.sl 3 0 (i+1) none,.nils,.bool dd],.row 41 L]
def tlW (bv:AV) (n i:Nat):List (Nat×AV):=[(1,.ptr 0 0),(2,.ptr 1 0),(3,.ptr 2 0),(12,bv),(13,.int .i64 (n:Int)),(14,.int .i64 (i:Int))]
variable {t:AT}{s:St}{D L cs:List AV}{dd:Bool}{m i n:Nat}{cp:Option Nat}{rs:List Nat}
theorem K5 {bv:AV}(hbv:AM.hf bv=true) (hD:hfs D=true) (hL:hfs L=true) (hcs:hfs cs=true)
 (h:Abs t s (tlW bv m (i+1)) (osW D dd (L++[.sl 4 0 n cp]) (i+1)++[.row 5 cs]) rs):
 Tells P 0 t s [] (Am (tlW bv m (i+1))) (Ac St0 (osW D dd (L++[.fz n none cs]) (i+1))) []:=by
 refine AbsK.frz (n:=4) h.toK rfl hcs rfl rfl rfl rfl ?_ ?_
 ·show [_,_,_,(12,C4 4 _ bv),_,_]=_
  rw [EW bv hbv];rfl
 ·show [Bw 4 cs (.row 28 D),_,_,AObj.row 41 (CW 4 cs (L++[.sl 4 0 n cp]))]=_
  rw [BM hD,Kf,Gx L hL]
  rfl
def An (w:WR):WR:=⟨w.at_,Ao w.u,w.b⟩
theorem I1 (L:List WR) (w:WR):Ad (L++[w].map An)=Ad L++[.int .i64 w.at_,Ao w.u]:=by
 unfold Ad;rw [List.flatMap_append];rfl
variable {x y:AV}
theorem I5 (h:hfs L=true):AB n (L++[x,y])=(bd n x && bd n y):=by
 induction L with
 | nil=>show (bd n x && (bd n y && true))=_;rw [Bool.and_true]
 | cons z L ih=>
  simp only [hfs,Zoh] at h
  show (bd n z && AB n (L++[x,y]))=_
  rw [Bz z h.1,ih h.2];rfl
theorem Is {ρ:Nat→Nat}(h:hfs L=true):At ρ (L++[x,y])=L++[A2 ρ x,A2 ρ y]:=by
 induction L with
 | nil=>rfl
 | cons z L ih=>
  simp only [hfs,Zoh] at h
  show A2 ρ z::At ρ (L++[x,y])=_
  rw [Bv z h.1,ih h.2];rfl
theorem FP:∀ {L:List WR},(∀ w ∈ L,AM.hf w.u=true)→hfs (Ad L)=true
 | [],_=>rfl
 | w::L,h=>by
  show (true && (AM.hf w.u && hfs (Ad L)))=true
  rw [h w (by simp),FP fun v hv=>h v (by simp [hv])];rfl
def osV (D:List AV) (dd:Bool) (L:List AV) (k:Nat) (M:List AV):Nat→List AObj
 | 0=>[.row 28 D,.row 28 [.nils,.nils,.bool false],.row 28 [.sl 3 0 k none,.nils,.bool dd],.row 41 L]
 | j+1=>[.row 28 D,.row 28 [.nils,.nils,.bool false],.row 28 [.sl 3 0 k none,.sl 4 0 (j+1) none,.bool dd],.row 41 L,.row 77 M]
def tlV (wv:AV) (n j:Nat):List (Nat×AV):=[(2,.ptr 1 0),(3,.ptr 2 0),(27,wv),(28,.int .i64 (n:Int)),(29,.int .i64 (j:Int))]
theorem K6 {wv:AV}{k:Nat}{a:Int}{M:List AV}(hwv:AM.hf wv=true) (hD:hfs D=true) (hL:hfs L=true) (hM:hfs M=true) (hcs:hfs cs=true)
 (h:Abs t s (tlV wv m (i+1)) (osV D dd L k (M++[.int .i64 a,.sl 5 0 n cp]) (i+1)++[.row 5 cs]) rs):
 Tells P 0 t s [] (Am (tlV wv m (i+1))) (Ac St0 (osV D dd L k (M++[.int .i64 a,.fz n none cs]) (i+1))) []:=by
 refine AbsK.frz (n:=5) h.toK rfl hcs rfl rfl rfl rfl ?_ ?_
 ·show [_,_,(27,C4 5 _ wv),_,_]=_
  rw [EW wv hwv];rfl
 ·show [Bw 5 cs (.row 28 D),_,_,Bw 5 cs (.row 41 L),AObj.row 77 (CW 5 cs (M++[.int .i64 a,.sl 5 0 n cp]))]=_
  rw [BM hD,BM hL,Kf,Gx M hM]
  rfl
variable {e:Env}
theorem Zhb (hE:EM P e) (h141:Inl e 70 HJ [.tmp 2]) {d:DK}(hd:d.ok) (h0:1≤d.us.length) {K:AV→St→Prop}
 (hk:∀ s,s.get 3=some (.row 41 (d.us.map Ao))→(d.ws.length=0→K (.agg [.sl 3 0 d.us.length none,.nils,.bool d.dead]) s)∧(1≤d.ws.length→s.get 4=some (.row 77 (Ad (d.ws.map An)))→K (.agg [.sl 3 0 d.us.length none,.sl 4 0 d.ws.length none,.bool d.dead]) s)):
 VW P e 0 (match Nm with|.mk c _=>c) (Ah [d.v] 0 .lf) St0 none [] (AR [.cells 2 3] K):=by
 have hbl:=hd.a.bl
 have hbs:=hd.a.bs
 have hbb:=hd.b
 have hun:=hd.n
 have hwsl:=hd.a.wl
 have hwsa:=hd.a.ws
 have hwb:=hd.w
 have hwn:=hd.m
 have hdf:hfs d.c=true:=CZ hd.a.wl hd.a.bl
 obtain ⟨bv,us,bs,wv,ws,dd⟩:=d
 dsimp only at hbl hbs hbb hun h0 hk hwsl hwsa hwb hwn
 have hdf:hfs [bv,wv,.bool dd]=true:=hdf
 have hbv:=hbl.hf
 have hcl:∀ i,hfs ((us.take i).map Ao)=true:=fun i=>Rf _ fun u hu=>by
  obtain ⟨k,hk⟩:=Zqa.1 (Zpm hu)
  obtain ⟨b,_,hb⟩:=hbs.get hk
  rcases hb.1 with ⟨rfl,_⟩|⟨rfl,_⟩|⟨c,rfl,_⟩ <;> rfl
 show VW P e 0 (match Nm with|.mk c _=>c) (Ah [.agg [bv,wv,.bool dd]] 0 .lf) St0 none [] _
 conv=>whnf
 refine Af rfl hbl ?_;conv=>whnf
 refine Ce (α:=Nat) (fun i=>tlW bv us.length i) (fun i=>osW [bv,wv,.bool dd] dd ((us.take i).map Ao) i) (fun i=>us.length-i) (fun i=>i≤us.length) 0 (Zoy _)
  (Abs.tells (rs:=[0,1,2]) ⟨by decide,⟨r9,r9,r9,t9 hbv,r9,r9,trivial⟩,⟨o9 hdf,r9,r9,trivial⟩⟩) ?_
 intro i hi
 refine A9 hE ?_
 by_cases hlt:i<us.length
 ·obtain ⟨b,hb1,hb2⟩:=hbs.get (Zof hlt)
  have hbn:=hbb b (Zo1 hb1)
  have hug:((us.drop (i*1)))[0]?=some us[i]:=by rw [Zpi,Zoq,Zpo,Zof hlt]
  have htk:us.take (i+1)=us.take i++[us[i]]:=Zos hlt
  have hub:=hb2.1
  have hall:=And.intro hug (And.intro htk hub)
  clear hb1 hb2 hug htk hub
  revert hall
  generalize us[i]=u
  rintro ⟨hug,htk,hub⟩
  rcases i with _|i
  ·conv=>whnf
   refine Ag (a:=((0:Nat):Int)) (b:=(us.length:Int)) rfl rfl (fun _=>?_) (fun h=>by omega);conv=>whnf
   refine A8 rfl hbl rfl hlt ?_;conv=>whnf
   refine EHead.mk (v:=u) hug ?_;conv=>whnf
   refine ESc.inl h141 ?_;conv=>whnf
   rcases hub with ⟨rfl,hn0,hbs0⟩|⟨rfl,hn0,hbs0⟩|⟨c,rfl,hbl'⟩
   ·refine Mn rfl rfl ?_;conv=>whnf
    repeat' (first|(refine Cl (m:=1) rfl rfl rfl rfl (by decide) (by decide) ?_;conv=>whnf)|((first|refine w7 rfl rfl (by omega) ?_|refine ⟨rfl,?_⟩);conv=>whnf)|fail)
    refine ⟨0+1,hlt,by omega,?_⟩
    rw [htk,Zo4]
    refine Abs.tells (rs:=[0,1,2,4]) ⟨by decide,⟨r9,r9,r9,t9 hbv,r9,r9,trivial⟩,⟨o9 hdf,r9,r9,⟨by show AB _ (List.map _ _++[_])=true;rw [CG (hcl _)];rfl,by show _=some (AObj.row 41 (At _ (List.map _ _++[_])));rw [CF (hcl _)];rfl⟩,trivial⟩⟩
   ·refine Ft rfl rfl (.inl rfl) ?_;conv=>whnf
    repeat' (first|(refine Gu rfl rfl rfl ?_;conv=>whnf)|(refine Cl (m:=1) rfl rfl rfl rfl (by decide) (by decide) ?_;conv=>whnf)|((first|refine w7 rfl rfl (by omega) ?_|refine ⟨rfl,?_⟩);conv=>whnf)|fail)
    refine ⟨0+1,hlt,by omega,?_⟩
    rw [htk,Zo4]
    refine K5 (i:=0) (L:=(us.take (0)).map Ao) (n:=0) (cs:=[]) (rs:=[0,1,2,5,3]) hbv hdf (hcl _) rfl ⟨by decide,⟨r9,r9,r9,t9 hbv,r9,r9,trivial⟩,⟨o9 hdf,r9,r9,⟨by show AB _ (List.map _ _++[_])=true;rw [CG (hcl _)];rfl,by show _=some (AObj.row 41 (At _ (List.map _ _++[_])));rw [CF (hcl _)];rfl⟩,o9 rfl,trivial⟩⟩
   ·refine Ft rfl rfl (.inr ⟨_,_,_,rfl⟩) ?_;conv=>whnf
    cases b with
    | nil=>
     repeat' (first|(refine Gu rfl rfl rfl ?_;conv=>whnf)|(refine Cl (m:=1) rfl rfl rfl rfl (by decide) (by decide) ?_;conv=>whnf)|((first|refine w7 rfl rfl (by omega) ?_|refine ⟨rfl,?_⟩);conv=>whnf)|fail)
     refine ⟨0+1,hlt,by omega,?_⟩
     rw [htk,Zo4]
     refine K5 (i:=0) (L:=(us.take (0)).map Ao) (n:=0) (cs:=[]) (rs:=[0,1,2,5,3]) hbv hdf (hcl _) rfl ⟨by decide,⟨r9,r9,r9,t9 hbv,r9,r9,trivial⟩,⟨o9 hdf,r9,r9,⟨by show AB _ (List.map _ _++[_])=true;rw [CG (hcl _)];rfl,by show _=some (AObj.row 41 (At _ (List.map _ _++[_])));rw [CF (hcl _)];rfl⟩,o9 rfl,trivial⟩⟩
    | cons x b=>
     refine EPrim.app1 (c:=.int .u8 (Int.ofNat x)) (cs:=Ab b) (m:=b.length+1) rfl rfl ?_ rfl ?_ (by omega) (by have:=hbn;simp at this;omega) ?_
     ·show Bf ((b.length+1)*1) (Ab (x::b))=_
      rw [EU (by rw [Ba];simp),Zoo (by rw [Ba];simp)];rfl
     ·show (Ab (x::b)).length / 1=_
      rw [Ba];simp
     conv=>whnf
     repeat' (first|(refine Cl (m:=1) rfl rfl rfl rfl (by decide) (by decide) ?_;conv=>whnf)|((first|refine w7 rfl rfl (by omega) ?_|refine ⟨rfl,?_⟩);conv=>whnf)|fail)
     refine ⟨0+1,hlt,by omega,?_⟩
     rw [htk,Zo4]
     refine K5 (i:=0) (L:=(us.take (0)).map Ao) (n:=(b.length+1)) (cs:=(Ab (x::b))) (rs:=[0,1,2,6,4]) hbv hdf (hcl _) (AJ _) ⟨by decide,⟨r9,r9,r9,t9 hbv,r9,r9,trivial⟩,⟨o9 hdf,r9,r9,⟨by show AB _ (List.map _ _++[_])=true;rw [CG (hcl _)];rfl,by show _=some (AObj.row 41 (At _ (List.map _ _++[_])));rw [CF (hcl _)];rfl⟩,o9 (AJ _),trivial⟩⟩
  ·conv=>whnf
   refine Ag (a:=((i+1:Nat):Int)) (b:=(us.length:Int)) rfl rfl (fun _=>?_) (fun h=>by omega);conv=>whnf
   refine A8 rfl hbl rfl hlt ?_;conv=>whnf
   refine EHead.mk (v:=u) hug ?_;conv=>whnf
   refine ESc.inl h141 ?_;conv=>whnf
   rcases hub with ⟨rfl,hn0,hbs0⟩|⟨rfl,hn0,hbs0⟩|⟨c,rfl,hbl'⟩
   ·refine Mn rfl rfl ?_;conv=>whnf
    repeat' (first|(refine BX (m:=1) rfl rfl rfl rfl (by rw [Zom,Zo5];omega) rfl (by decide) (by omega) ?_;conv=>whnf)|((first|refine w7 rfl rfl (by omega) ?_|refine ⟨rfl,?_⟩);conv=>whnf)|fail)
    refine ⟨i+1+1,hlt,by omega,?_⟩
    rw [htk,Zo4]
    refine Abs.tells (rs:=[0,1,2,5]) ⟨by decide,⟨r9,r9,r9,t9 hbv,r9,r9,trivial⟩,⟨o9 hdf,r9,r9,⟨by show AB _ (List.map _ _++[_])=true;rw [CG (hcl _)];rfl,by show _=some (AObj.row 41 (At _ (List.map _ _++[_])));rw [CF (hcl _)];rfl⟩,trivial⟩⟩
   ·refine Ft rfl rfl (.inl rfl) ?_;conv=>whnf
    repeat' (first|(refine Gu rfl rfl rfl ?_;conv=>whnf)|(refine BX (m:=1) rfl rfl rfl rfl (by rw [Zom,Zo5];omega) rfl (by decide) (by omega) ?_;conv=>whnf)|((first|refine w7 rfl rfl (by omega) ?_|refine ⟨rfl,?_⟩);conv=>whnf)|fail)
    refine ⟨i+1+1,hlt,by omega,?_⟩
    rw [htk,Zo4]
    refine K5 (i:=i+1) (L:=(us.take (i+1)).map Ao) (n:=0) (cs:=[]) (rs:=[0,1,2,6,4]) hbv hdf (hcl _) rfl ⟨by decide,⟨r9,r9,r9,t9 hbv,r9,r9,trivial⟩,⟨o9 hdf,r9,r9,⟨by show AB _ (List.map _ _++[_])=true;rw [CG (hcl _)];rfl,by show _=some (AObj.row 41 (At _ (List.map _ _++[_])));rw [CF (hcl _)];rfl⟩,o9 rfl,trivial⟩⟩
   ·refine Ft rfl rfl (.inr ⟨_,_,_,rfl⟩) ?_;conv=>whnf
    cases b with
    | nil=>
     repeat' (first|(refine Gu rfl rfl rfl ?_;conv=>whnf)|(refine BX (m:=1) rfl rfl rfl rfl (by rw [Zom,Zo5];omega) rfl (by decide) (by omega) ?_;conv=>whnf)|((first|refine w7 rfl rfl (by omega) ?_|refine ⟨rfl,?_⟩);conv=>whnf)|fail)
     refine ⟨i+1+1,hlt,by omega,?_⟩
     rw [htk,Zo4]
     refine K5 (i:=i+1) (L:=(us.take (i+1)).map Ao) (n:=0) (cs:=[]) (rs:=[0,1,2,6,4]) hbv hdf (hcl _) rfl ⟨by decide,⟨r9,r9,r9,t9 hbv,r9,r9,trivial⟩,⟨o9 hdf,r9,r9,⟨by show AB _ (List.map _ _++[_])=true;rw [CG (hcl _)];rfl,by show _=some (AObj.row 41 (At _ (List.map _ _++[_])));rw [CF (hcl _)];rfl⟩,o9 rfl,trivial⟩⟩
    | cons x b=>
     refine EPrim.app1 (c:=.int .u8 (Int.ofNat x)) (cs:=Ab b) (m:=b.length+1) rfl rfl ?_ rfl ?_ (by omega) (by have:=hbn;simp at this;omega) ?_
     ·show Bf ((b.length+1)*1) (Ab (x::b))=_
      rw [EU (by rw [Ba];simp),Zoo (by rw [Ba];simp)];rfl
     ·show (Ab (x::b)).length / 1=_
      rw [Ba];simp
     conv=>whnf
     repeat' (first|(refine BX (m:=1) rfl rfl rfl rfl (by rw [Zom,Zo5];omega) rfl (by decide) (by omega) ?_;conv=>whnf)|((first|refine w7 rfl rfl (by omega) ?_|refine ⟨rfl,?_⟩);conv=>whnf)|fail)
     refine ⟨i+1+1,hlt,by omega,?_⟩
     rw [htk,Zo4]
     refine K5 (i:=i+1) (L:=(us.take (i+1)).map Ao) (n:=(b.length+1)) (cs:=(Ab (x::b))) (rs:=[0,1,2,7,5]) hbv hdf (hcl _) (AJ _) ⟨by decide,⟨r9,r9,r9,t9 hbv,r9,r9,trivial⟩,⟨o9 hdf,r9,r9,⟨by show AB _ (List.map _ _++[_])=true;rw [CG (hcl _)];rfl,by show _=some (AObj.row 41 (At _ (List.map _ _++[_])));rw [CF (hcl _)];rfl⟩,o9 (AJ _),trivial⟩⟩
 ·obtain ⟨k,rfl⟩:∃ k,i=k+1:=⟨i-1,by omega⟩
  have hku:k+1=us.length:=by omega
  have hLe:(us.take (k+1)).map Ao=us.map Ao:=by rw [Zoo (by omega)]
  have hLf:=hcl (k+1)
  rw [hLe] at hLf ⊢
  have hwv:=hwsl.hf
  conv=>whnf
  refine Ag (a:=((k+1:Nat):Int)) (b:=(us.length:Int)) rfl rfl (fun _=>by omega) (fun _=>?_);conv=>whnf
  refine Af rfl hwsl ?_;conv=>whnf
  have hwl:∀ i,hfs (Ad ((ws.take i).map An))=true:=fun i=>FP fun w hw=>by
   obtain ⟨v,hv,rfl⟩:=Zpf.1 hw
   rcases (hwsa v (Zpm hv)).b.1 with ⟨h,_⟩|⟨h,_⟩|⟨c,h,_⟩ <;> (show AM.hf (Ao v.u)=true;rw [h];rfl)
  refine Ce (α:=Nat) (fun j=>tlV wv ws.length j) (fun j=>osV [bv,wv,.bool dd] dd (us.map Ao) (k+1) (Ad ((ws.take j).map An)) j) (fun j=>ws.length-j) (fun j=>j≤ws.length) 0 (Zoy _)
   (Abs.tells (rs:=[0,1,2,3]) ⟨by decide,⟨r9,r9,t9 hwv,r9,r9,trivial⟩,⟨o9 hdf,r9,r9,o9 hLf,trivial⟩⟩) ?_
  intro j hj
  refine A9 hE ?_
  by_cases hlt:j<ws.length
  ·have hdr:=Io hlt
   have hwm:=Zpg hlt
   have hwany:=hwsa _ hwm
   have hbn:=hwb _ hwm
   have htk:ws.take (j+1)=ws.take j++[ws[j]]:=Zos hlt
   have hall:=And.intro hdr (And.intro hwany (And.intro hbn htk))
   clear hdr hwm hwany hbn htk
   revert hall
   generalize ws[j]=w
   obtain ⟨wa,u,b⟩:=w
   rintro ⟨hdr,⟨hwai,hub,hub2⟩,hbn,htk⟩
   have hdr:(Ad ws).drop (j*2)=[.int .i64 wa,u]++Ad (ws.drop (j+1)):=hdr
   dsimp only at hub hbn
   have hcell:∀ (K:List AV→Prop),K [.int .i64 wa,u]→ETake 2 ([.int .i64 wa,u]++Ad (ws.drop (j+1))) K:=fun K hk=>CS rfl hk
   rcases j with _|j
   ·conv=>whnf
    refine Ag (a:=((0:Nat):Int)) (b:=(ws.length:Int)) rfl rfl (fun _=>?_) (fun h=>by omega);conv=>whnf
    refine A8 rfl hwsl rfl hlt ?_
    rw [hdr]
    conv=>whnf
    refine hcell _ ?_;conv=>whnf
    repeat' (first|(refine ESc.inl h141 ?_;conv=>whnf)|fail)
    rcases hub with ⟨rfl,hn0,hbs0⟩|⟨rfl,hn0,hbs0⟩|⟨c,rfl,hbl'⟩
    ·refine Mn rfl rfl ?_;conv=>whnf
     repeat' (first|(refine ⟨rfl,?_⟩;conv=>whnf)|(refine Cl (m:=1) rfl rfl rfl rfl (by decide) (by decide) ?_;conv=>whnf)|(refine w7 rfl rfl (by omega) ?_;conv=>whnf)|fail)
     refine ⟨0+1,hlt,by omega,?_⟩
     rw [htk,Zo4,I1]
     refine Abs.tells (rs:=[0,1,2,3,6]) ⟨by decide,⟨r9,r9,t9 hwv,r9,r9,trivial⟩,⟨o9 hdf,r9,r9,o9 hLf,⟨by show AB _ (Ad _++[.int .i64 _,_])=true;rw [I5 (hwl _)];rfl,by show _=some (AObj.row 77 (At _ (Ad _++[.int .i64 _,_])));rw [Is (hwl _)];rfl⟩,trivial⟩⟩
    ·refine Ft rfl rfl (.inl rfl) ?_;conv=>whnf
     repeat' (first|(refine Gu rfl rfl rfl ?_;conv=>whnf)|(refine ⟨rfl,?_⟩;conv=>whnf)|(refine Cl (m:=1) rfl rfl rfl rfl (by decide) (by decide) ?_;conv=>whnf)|(refine w7 rfl rfl (by omega) ?_;conv=>whnf)|fail)
     refine ⟨0+1,hlt,by omega,?_⟩
     rw [htk,Zo4,I1]
     refine K6 (i:=0) (M:=Ad ((ws.take (0)).map An)) (a:=wa) (n:=0) (cs:=[]) (rs:=[0,1,2,3,7,5]) hwv hdf hLf (hwl _) rfl ⟨by decide,⟨r9,r9,t9 hwv,r9,r9,trivial⟩,⟨o9 hdf,r9,r9,o9 hLf,⟨by show AB _ (Ad _++[.int .i64 _,_])=true;rw [I5 (hwl _)];rfl,by show _=some (AObj.row 77 (At _ (Ad _++[.int .i64 _,_])));rw [Is (hwl _)];rfl⟩,o9 rfl,trivial⟩⟩
    ·refine Ft rfl rfl (.inr ⟨_,_,_,rfl⟩) ?_;conv=>whnf
     cases b with
     | nil=>
      repeat' (first|(refine Gu rfl rfl rfl ?_;conv=>whnf)|(refine ⟨rfl,?_⟩;conv=>whnf)|(refine Cl (m:=1) rfl rfl rfl rfl (by decide) (by decide) ?_;conv=>whnf)|(refine w7 rfl rfl (by omega) ?_;conv=>whnf)|fail)
      refine ⟨0+1,hlt,by omega,?_⟩
      rw [htk,Zo4,I1]
      refine K6 (i:=0) (M:=Ad ((ws.take (0)).map An)) (a:=wa) (n:=0) (cs:=[]) (rs:=[0,1,2,3,7,5]) hwv hdf hLf (hwl _) rfl ⟨by decide,⟨r9,r9,t9 hwv,r9,r9,trivial⟩,⟨o9 hdf,r9,r9,o9 hLf,⟨by show AB _ (Ad _++[.int .i64 _,_])=true;rw [I5 (hwl _)];rfl,by show _=some (AObj.row 77 (At _ (Ad _++[.int .i64 _,_])));rw [Is (hwl _)];rfl⟩,o9 rfl,trivial⟩⟩
     | cons x b=>
      refine EPrim.app1 (c:=.int .u8 (Int.ofNat x)) (cs:=Ab b) (m:=b.length+1) rfl rfl ?_ rfl ?_ (by omega) (by have:=hbn;simp at this;omega) ?_
      ·show Bf ((b.length+1)*1) (Ab (x::b))=_
       rw [EU (by rw [Ba];simp),Zoo (by rw [Ba];simp)];rfl
      ·show (Ab (x::b)).length / 1=_
       rw [Ba];simp
      conv=>whnf
      repeat' (first|(refine ⟨rfl,?_⟩;conv=>whnf)|(refine Cl (m:=1) rfl rfl rfl rfl (by decide) (by decide) ?_;conv=>whnf)|(refine w7 rfl rfl (by omega) ?_;conv=>whnf)|fail)
      refine ⟨0+1,hlt,by omega,?_⟩
      rw [htk,Zo4,I1]
      refine K6 (i:=0) (M:=Ad ((ws.take (0)).map An)) (a:=wa) (n:=(b.length+1)) (cs:=(Ab (x::b))) (rs:=[0,1,2,3,8,6]) hwv hdf hLf (hwl _) (AJ _) ⟨by decide,⟨r9,r9,t9 hwv,r9,r9,trivial⟩,⟨o9 hdf,r9,r9,o9 hLf,⟨by show AB _ (Ad _++[.int .i64 _,_])=true;rw [I5 (hwl _)];rfl,by show _=some (AObj.row 77 (At _ (Ad _++[.int .i64 _,_])));rw [Is (hwl _)];rfl⟩,o9 (AJ _),trivial⟩⟩
   ·conv=>whnf
    refine Ag (a:=((j+1:Nat):Int)) (b:=(ws.length:Int)) rfl rfl (fun _=>?_) (fun h=>by omega);conv=>whnf
    refine A8 rfl hwsl rfl hlt ?_
    rw [hdr]
    conv=>whnf
    refine hcell _ ?_;conv=>whnf
    repeat' (first|(refine ESc.inl h141 ?_;conv=>whnf)|fail)
    rcases hub with ⟨rfl,hn0,hbs0⟩|⟨rfl,hn0,hbs0⟩|⟨c,rfl,hbl'⟩
    ·refine Mn rfl rfl ?_;conv=>whnf
     repeat' (first|(refine ⟨rfl,?_⟩;conv=>whnf)|(refine BX (m:=1) rfl rfl rfl rfl (by rw [Dt,Zom,Zo5];omega) rfl (by decide) (by omega) ?_;conv=>whnf)|(refine w7 rfl rfl (by omega) ?_;conv=>whnf)|fail)
     refine ⟨j+1+1,hlt,by omega,?_⟩
     rw [htk,Zo4,I1]
     refine Abs.tells (rs:=[0,1,2,3,7]) ⟨by decide,⟨r9,r9,t9 hwv,r9,r9,trivial⟩,⟨o9 hdf,r9,r9,o9 hLf,⟨by show AB _ (Ad _++[.int .i64 _,_])=true;rw [I5 (hwl _)];rfl,by show _=some (AObj.row 77 (At _ (Ad _++[.int .i64 _,_])));rw [Is (hwl _)];rfl⟩,trivial⟩⟩
    ·refine Ft rfl rfl (.inl rfl) ?_;conv=>whnf
     repeat' (first|(refine Gu rfl rfl rfl ?_;conv=>whnf)|(refine ⟨rfl,?_⟩;conv=>whnf)|(refine BX (m:=1) rfl rfl rfl rfl (by rw [Dt,Zom,Zo5];omega) rfl (by decide) (by omega) ?_;conv=>whnf)|(refine w7 rfl rfl (by omega) ?_;conv=>whnf)|fail)
     refine ⟨j+1+1,hlt,by omega,?_⟩
     rw [htk,Zo4,I1]
     refine K6 (i:=j+1) (M:=Ad ((ws.take (j+1)).map An)) (a:=wa) (n:=0) (cs:=[]) (rs:=[0,1,2,3,8,6]) hwv hdf hLf (hwl _) rfl ⟨by decide,⟨r9,r9,t9 hwv,r9,r9,trivial⟩,⟨o9 hdf,r9,r9,o9 hLf,⟨by show AB _ (Ad _++[.int .i64 _,_])=true;rw [I5 (hwl _)];rfl,by show _=some (AObj.row 77 (At _ (Ad _++[.int .i64 _,_])));rw [Is (hwl _)];rfl⟩,o9 rfl,trivial⟩⟩
    ·refine Ft rfl rfl (.inr ⟨_,_,_,rfl⟩) ?_;conv=>whnf
     cases b with
     | nil=>
      repeat' (first|(refine Gu rfl rfl rfl ?_;conv=>whnf)|(refine ⟨rfl,?_⟩;conv=>whnf)|(refine BX (m:=1) rfl rfl rfl rfl (by rw [Dt,Zom,Zo5];omega) rfl (by decide) (by omega) ?_;conv=>whnf)|(refine w7 rfl rfl (by omega) ?_;conv=>whnf)|fail)
      refine ⟨j+1+1,hlt,by omega,?_⟩
      rw [htk,Zo4,I1]
      refine K6 (i:=j+1) (M:=Ad ((ws.take (j+1)).map An)) (a:=wa) (n:=0) (cs:=[]) (rs:=[0,1,2,3,8,6]) hwv hdf hLf (hwl _) rfl ⟨by decide,⟨r9,r9,t9 hwv,r9,r9,trivial⟩,⟨o9 hdf,r9,r9,o9 hLf,⟨by show AB _ (Ad _++[.int .i64 _,_])=true;rw [I5 (hwl _)];rfl,by show _=some (AObj.row 77 (At _ (Ad _++[.int .i64 _,_])));rw [Is (hwl _)];rfl⟩,o9 rfl,trivial⟩⟩
     | cons x b=>
      refine EPrim.app1 (c:=.int .u8 (Int.ofNat x)) (cs:=Ab b) (m:=b.length+1) rfl rfl ?_ rfl ?_ (by omega) (by have:=hbn;simp at this;omega) ?_
      ·show Bf ((b.length+1)*1) (Ab (x::b))=_
       rw [EU (by rw [Ba];simp),Zoo (by rw [Ba];simp)];rfl
      ·show (Ab (x::b)).length / 1=_
       rw [Ba];simp
      conv=>whnf
      repeat' (first|(refine ⟨rfl,?_⟩;conv=>whnf)|(refine BX (m:=1) rfl rfl rfl rfl (by rw [Dt,Zom,Zo5];omega) rfl (by decide) (by omega) ?_;conv=>whnf)|(refine w7 rfl rfl (by omega) ?_;conv=>whnf)|fail)
      refine ⟨j+1+1,hlt,by omega,?_⟩
      rw [htk,Zo4,I1]
      refine K6 (i:=j+1) (M:=Ad ((ws.take (j+1)).map An)) (a:=wa) (n:=(b.length+1)) (cs:=(Ab (x::b))) (rs:=[0,1,2,3,9,7]) hwv hdf hLf (hwl _) (AJ _) ⟨by decide,⟨r9,r9,t9 hwv,r9,r9,trivial⟩,⟨o9 hdf,r9,r9,o9 hLf,⟨by show AB _ (Ad _++[.int .i64 _,_])=true;rw [I5 (hwl _)];rfl,by show _=some (AObj.row 77 (At _ (Ad _++[.int .i64 _,_])));rw [Is (hwl _)];rfl⟩,o9 (AJ _),trivial⟩⟩
  ·have hje:j=ws.length:=by omega
   have hMe:ws.take j=ws:=Zoo (by omega)
   rw [hMe]
   rw [← hku] at hk
   rcases j with _|j
   ·conv=>whnf
    refine Ag (a:=((0:Nat):Int)) (b:=(ws.length:Int)) rfl rfl (fun _=>by omega) (fun _=>?_);conv=>whnf
    skip
    refine (hk _ ?_).1 hje.symm
    rfl
   ·conv=>whnf
    refine Ag (a:=((j+1:Nat):Int)) (b:=(ws.length:Int)) rfl rfl (fun _=>by omega) (fun _=>?_);conv=>whnf
    skip
    rw [← hje] at hk
    refine (hk _ ?_).2 (by omega) ?_
    ·rfl
    ·rfl
def H0 (x:DK):List AObj:=match x.ws.length with
 | 0=>[.row 41 (x.us.map Ao)]
 | _+1=>[.row 41 (x.us.map Ao),.row 77 (Ad (x.ws.map An))]
def JV (n:Nat) (x:DK):AV:=.agg [.sl (0+n) 0 x.us.length none,(match x.ws.length with|0=>.nils|m+1=>.sl (1+n) 0 (m+1) none),.bool x.dead]
structure DK1 (x:DK):Prop where
 ok:x.ok
 n:1≤x.us.length
noncomputable def Cu:Ov:=fun args s=>open Classical in if h:∃ x:DK,DK1 x∧args=[x.v] then .ok (JV s.next (Classical.choose h)) (Ac s (H0 (Classical.choose h))) else .fail
theorem Jx {x:DK}(hx:DK1 x) (s:St):Cu [x.v] s=.ok (JV s.next x) (Ac s (H0 x)):=by
 have h:∃ y:DK,DK1 y∧[x.v]=[y.v]:=⟨x,hx,rfl⟩
 unfold Cu
 rw [dif_pos h]
 obtain ⟨h1,h2⟩:=Zpu h
 rw [← DK.inj hx.ok.a h1.ok.a (Zor h2).1]
theorem Zlm (hE:EM P e) (h141:Inl e 70 HJ [.tmp 2]):OvOk P 31 Cu:=by
 refine ⟨g31.b,fun args s v s' hh=>?_⟩
 have hx0:∃ x:DK,DK1 x∧args=[x.v]:=by
  unfold Cu at hh
  split at hh
  ·rename_i h;exact h
  ·cases hh
 obtain ⟨x,hx,rfl⟩:=hx0
 rw [Jx hx] at hh
 cases hh
 have hfa:hfs [x.v]=true:=by show (AM.hf x.v && true)=true;rw [DK.hf hx.ok.a];rfl
 have hcl:hfs (x.us.map Ao)=true:=Rf _ fun u hu=>by
  obtain ⟨k,hk⟩:=Zqa.1 hu
  obtain ⟨b,_,hb⟩:=hx.ok.a.bs.get hk
  rcases hb.1 with ⟨rfl,_⟩|⟨rfl,_⟩|⟨c,rfl,_⟩ <;> rfl
 have hwl:hfs (Ad (x.ws.map An))=true:=FP fun w hw=>by
  obtain ⟨v,hv,rfl⟩:=Zpf.1 hw
  rcases (hx.ok.a.ws v hv).b.1 with ⟨h,_⟩|⟨h,_⟩|⟨c,h,_⟩ <;> (show AM.hf (Ao v.u)=true;rw [h];rfl)
 have key:C P 31 [x.v] St0 (fun v s'=>v=JV 0 x∧s'=Ac St0 (H0 x)):=by
  refine C.abs (C.of_G hE g31 (Zhb hE h141 hx.ok hx.n fun s h3=>⟨fun h0=>?_,fun h1 h4=>?_⟩))
  ·unfold JV H0
   rw [h0]
   exact ⟨[3],⟨by decide,⟨r9,trivial⟩,⟨⟨AD hcl,by rw [Az hcl];exact h3⟩,trivial⟩⟩⟩
  ·obtain ⟨m,hm'⟩:∃ m,x.ws.length=m+1:=⟨x.ws.length-1,by omega⟩
   unfold JV H0
   rw [hm']
   exact ⟨[3,4],⟨by decide,⟨r9,trivial⟩,⟨⟨AD hcl,by rw [Az hcl];exact h3⟩,⟨AD hwl,by rw [Az hwl];exact h4⟩,trivial⟩⟩⟩
 refine (C.frame (l:=H0 x) (u:=JV 0 x) hfa ?_ ?_ key ?_ s).mono ?_
 ·unfold H0;split
  ·intro o ho;simp at ho;subst ho;rfl
  ·intro o ho;simp at ho;rcases ho with rfl|rfl <;> rfl
 ·unfold H0;split <;> exact .inl (by simp)
 ·unfold H0;split <;> intro i o h <;> rcases i with _|_|i <;> simp at h <;> first|(subst h;rfl)|omega
 ·rintro v s' ⟨rfl,rfl⟩
  refine ⟨?_,?_⟩
  ·unfold JV;cases x.ws.length <;> rfl
  ·unfold H0;split
   ·show Ac s [B5 _ (.row 41 (x.us.map Ao))]=_
    rw [Az hcl]
   ·show Ac s [B5 _ (.row 41 (x.us.map Ao)),B5 _ (.row 77 (Ad (x.ws.map An)))]=_
    rw [Az hcl,Az hwl]
end Go.AM
namespace Go.AM
attribute [local irreducible] W
open X
def DH (a:Int) (w:WR):Bool:=decide (w.at_=a)
def A5 (a:Int) (L:List WR):List WR:=L.filter fun w=>!DH a w
def zW:List AV:=[.int .i64 0,.nils]
def Zkq:AC:=match a33 with|.mk c _=>c
def OA:AC:=match a34 with|.mk c _=>c
variable {s:St}{r:Nat}{X:List WR}{w:WR}
theorem VO {e j:Nat}(h:s.get r=some (.row e (Ad X))) (hj:X[j]?=some w):load r (0+j*2) 2 s=some [.int .i64 w.at_,w.u]:=by
 have hlt:=(Zog.1 hj).1
 have hw:=(Zog.1 hj).2
 rw [Hb h (by rw [Dt];omega),Zou,Io hlt,hw];rfl
theorem Vv:∀ {X:List WR}{k:Nat}{w:WR},k<X.length→(Ad X).take (k*2)++[.int .i64 w.at_,w.u]++(Ad X).drop (k*2+2)=Ad (X.set k w)
 | [],k,w,h=>by simp at h
 | x::X,0,w,h=>by rw [GX];rfl
 | x::X,k+1,w,h=>by
  have:=Vv (X:=X) (k:=k) (w:=w) (by simpa using h)
  rw [GX,List.set_cons_succ,GX,← this]
  have hl:x.c.length=2:=rfl
  rw [show (k+1)*2=x.c.length+k*2 by omega,List.take_append,Zoo (by omega),show x.c.length+k*2+2=x.c.length+(k*2+2) by omega,List.drop_append,Zpb (by omega)]
  simp
theorem Zee {e k:Nat}(h:s.get r=some (.row e (Ad X))) (hk:k<X.length):storeAt r (0+k*2) [.int .i64 w.at_,w.u] s=some (s.put r (.row e (Ad (X.set k w)))):=by
 rw [Fl h (by rw [Dt];show 0+k*2+2≤_;omega),Zou,← Vv hk];rfl
variable {z:List AV}
theorem Zbe {t:AT}{k:AV→St→Prop}{x:AO}{o n:Nat}{c:Option Nat}{s':St}(hx:ev x t=.some (.sl r o n c)) (hs:storeAt r o (Bc z n) s=some s') (hk:k (.tup []) s'):EPrim (.clr z x) t s k:=by
 refine EPrim.mk (fun e rec=>?_) hk
 show wth x t _=_;unfold wth;rw [hx]
 show F2 (.tup []) (storeAt r o (Bc z n) s)=_;rw [hs];rfl
theorem Qa:∀ n,(Bc z n).length=n*z.length
 | 0=>by show ([]:List AV).length=_;simp
 | n+1=>by
  have:Bc z (n+1)=z++Bc z n:=by
   show AZ z (Bc z n)=_;rw [Do]
  rw [this,Zot,Qa n];simp [Nat.succ_mul];omega
theorem Zd1 (X:List WR) (k:Nat):(Ad X).take (k*2)=Ad (X.take k):=by
 induction X generalizing k with
 | nil=>simp [Ad]
 | cons x X ih=>
  cases k with
  | zero=>simp [Ad]
  | succ k=>
   have hl:x.c.length=2:=rfl
   rw [GX,List.take_succ_cons,GX,← ih,show (k+1)*2=x.c.length+k*2 by omega,List.take_append,Zoo (by omega)]
   simp
theorem Oc (a:Int) (L:List WR):(A5 a L).length≤L.length:=List.length_filter_le _ _
theorem Ua (a:Int) (L M:List WR):A5 a (L++M)=A5 a L++A5 a M:=by unfold A5;simp
variable {a:Int}
theorem Ub {L:List WR}(h:∀ w ∈ L,DH a w=false):A5 a L=L:=by
 unfold A5;rw [List.filter_eq_self];intro w hw;rw [h w hw];rfl
theorem Ud (p:WR→Bool):∀ (L:List WR) (i:Nat),(BE p L i=-1∧∀ w ∈ L,p w=false)∨∃ (m:Nat) (h:m<L.length),BE p L i=((i+m:Nat):Int)∧p L[m]=true∧∀ w ∈ L.take m,p w=false
 | [],i=>.inl ⟨rfl,by simp⟩
 | x::L,i=>by
  unfold BE
  cases hx:p x
  ·rcases Ud p L (i+1) with ⟨h1,h2⟩|⟨m,h,h1,h2,h3⟩
   ·exact .inl ⟨by rw [Zon (by decide)];exact h1,fun w hw=>by rcases Zpp.1 hw with rfl|hw;exact hx;exact h2 w hw⟩
   ·refine .inr ⟨m+1,by simpa using h,?_,by simpa using h2,fun w hw=>?_⟩
    ·rw [Zon (by decide),h1];congr 1;omega
    ·rw [List.take_succ_cons] at hw
     rcases Zpp.1 hw with rfl|hw
     ·exact hx
     ·exact h3 w hw
  ·exact .inr ⟨0,by simp,by rw [Zoj rfl];simp,by simpa using hx,by simp⟩
variable {e:Env}{W0:List WR}
theorem Uf (hE:EM P e) (h137:Inl e 34 OA [.tmp 3]) {v:AV}(hs:Sl 2 W0.length (Ad W0) v) (ha:Aj a) (hw:∀ w ∈ W0,Aj w.at_) (hn:W0.length<1000000) (Q:AV→St→Prop) (hk:∀ s,Q (.int .i64 (BE (DH a) W0 0)) s):
 VW P e 0 Wt (Ah [v,.fn 34 [] [.fp [.int .i64 a]]] 0 .lf) St0 none [] (AR [.tmp 4] Q):=by
 have hvf:=hs.hf
 conv=>whnf
 refine Af rfl hs ?_;conv=>whnf
 refine Ce (α:=Nat) (fun i=>[(0,v),(1,.fn 34 [] [.fp [.int .i64 a]]),(7,.int .i64 (W0.length:Int)),(8,.int .i64 (i:Int))]) (fun _=>[]) (fun i=>W0.length-i) (fun i=>i≤W0.length∧BE (DH a) W0 0=BE (DH a) (W0.drop i) i) 0 ⟨Zoy _,rfl⟩
  (Abs.tells (rs:=[]) .a) ?_
 rintro i ⟨hi,hI⟩
 refine A9 hE ?_
 by_cases hlt:i<W0.length
 ·have hd:=Io hlt
  have hwa:=hw _ (Zpg hlt)
  rw [Zo2 hlt] at hI
  have hall:=And.intro hI (And.intro hd hwa)
  clear hI hd hwa
  revert hall
  generalize W0[i]=w
  obtain ⟨wa,wu,wb⟩:=w
  rintro ⟨hI,hd,hwa⟩
  have hd:(Ad W0).drop (i*2)=[.int .i64 wa,wu]++Ad (W0.drop (i+1)):=hd
  have hI:BE (DH a) W0 0=if decide (wa=a) then (i:Int) else BE (DH a) (W0.drop (i+1)) (i+1):=hI
  unfold Aj at hwa ha
  dsimp only at hwa
  conv=>whnf
  refine Ag (a:=(i:Int)) (b:=(W0.length:Int)) rfl rfl (fun _=>?_) (fun h=>by omega);conv=>whnf
  repeat' (first|(refine A8 rfl hs rfl hlt ?_;rw [hd];conv=>whnf)|(refine CS rfl ?_;conv=>whnf)|(refine ECall.inl h137.O h137.G ?_;conv=>whnf)|(refine EHead.mk rfl ?_;conv=>whnf)|((refine w5 rfl rfl ?_ ?_) <;> intro _ <;> first|(exfalso;omega)|(conv=>whnf))|((first|refine w7 rfl rfl (by omega) ?_|refine ⟨rfl,?_⟩);conv=>whnf)|fail)
  ·rename_i he
   rw [Zoj (by simpa using he)] at hI
   rw [hI] at hk
   exact hk _
  ·rename_i he
   rw [Zon (by simpa using he)] at hI
   exact ⟨i+1,⟨hlt,hI⟩,by omega,Abs.tells (rs:=[]) .a⟩
 ·have hd:W0.drop i=[]:=Zpb (by omega)
  rw [hd] at hI
  have hI:BE (DH a) W0 0=-1:=hI
  rw [hI] at hk
  conv=>whnf
  refine Ag (a:=(i:Int)) (b:=(W0.length:Int)) rfl rfl (fun h=>by omega) (fun _=>?_);conv=>whnf
  exact hk _
structure WA where
 r:Nat
 q:Nat
 ws:List WR
 a:Int
structure WA.ok (x:WA) (s:St):Prop where
 g:s.get x.r=some (.row 77 (Ad x.ws))
 q:s.get x.q=some (.row 3 [.int .i64 x.a])
 w:∀ w ∈ x.ws,w.any
 a:Aj x.a
 n:x.ws.length<1000000
def WA.args (x:WA):List AV:=[.sl x.r 0 x.ws.length none,.fn 34 [] [.ptr x.q 0]]
variable {x:WA}
theorem WA.inj {y:WA}(hx:x.ok s) (hy:y.ok s) (h:x.args=y.args):x=y:=by
 obtain ⟨r,q,ws,a⟩:=x
 obtain ⟨r',q',ws',a'⟩:=y
 simp [WA.args] at h
 obtain ⟨⟨rfl,_⟩,rfl⟩:=h
 have e1:=hx.g.symm.trans hy.g
 have e2:=hx.q.symm.trans hy.q
 dsimp only at e1 e2
 injection e1 with e1
 injection e1 with _ e1
 injection e2 with e2
 injection e2 with _ e2
 injection e2 with e2
 injection e2 with _ e2
 have e3:=On hx.w hy.w e1
 dsimp only at e3
 subst e2 e3;rfl
noncomputable def KX:Ov:=fun args s=>open Classical in if h:∃ x:WA,x.ok s∧args=x.args then .ok (.int .i64 (BE (DH (Classical.choose h).a) (Classical.choose h).ws 0)) s else .fail
theorem Zbi (hx:x.ok s):KX x.args s=.ok (.int .i64 (BE (DH x.a) x.ws 0)) s:=by
 have h:∃ y:WA,y.ok s∧x.args=y.args:=⟨x,hx,rfl⟩
 unfold KX
 rw [dif_pos h]
 obtain ⟨h1,h2⟩:=Zpu h
 rw [← WA.inj hx h1 h2]
def nilI:Fam Int:=⟨Aj,fun a=>[.nils,.fn 34 [] [.fp [.int .i64 a]]],fun a=>.int .i64 (-1),fun _ _ _ _ _=>rfl⟩
noncomputable def Ii:Ov:=GO KX nilI.O
theorem Zkf (hE:EM P e) (h137:Inl e 34 OA [.tmp 3]):OvOk P 71 Ii:=by
 refine R7 ⟨g71.b,fun args s u s' hh=>?_⟩ (Bk g71.b fun a ha=>⟨rfl,rfl,C.of_G hE g71 (Uf (W0:=[]) hE h137 (.inl ⟨rfl,rfl,rfl⟩) ha (by simp) (by decide) _ fun s=>.plain _ rfl)⟩)
 unfold KX at hh
 split at hh
 ·rename_i hx
  cases hh
  obtain ⟨h1,h2⟩:=Zpu hx
  generalize Classical.choose hx=y at h1 h2 ⊢
  subst h2
  obtain ⟨r,q,ws,a⟩:=y
  obtain ⟨hg,hq,hw,ha,hn⟩:=h1
  dsimp only at hg hq hw ha hn
  have hwf:hfs (Ad ws)=true:=FP fun w hwm=>(hw w hwm).b.1.hf
  have hfz:∀ (l:List AV) (s:St),hfs l=true→All2 (Frz s) l l:=fun l s=>by
   induction l with
   | nil=>intro _;exact .nil
   | cons v l ih=>intro h;simp only [hfs,Zoh] at h;exact .cons (.plain _ h.1) (ih h.2)
  refine HQ (args2:=[.fz ws.length none (Ad ws),.fn 34 [] [.fp [.int .i64 a]]]) (.cons (.sl r 0 ws.length none none 77 _ (Ad ws) _ hg (fun i x h=>by rw [Zou];exact h) (hfz _ _ hwf) (.inl rfl)) (.cons (.fn 34 [] [.ptr q 0] [] [.fp [.int .i64 a]] .nil (.cons (.ptr q 0 3 [.int .i64 a] [.int .i64 a] [.int .i64 a] hq (fun i x h=>by rw [Zou];exact h) (.cons (.plain _ rfl) .nil)) .nil)) .nil)) rfl (GZ rfl ?_)
  exact C.of_G hE g71 (Uf hE h137 (.inr (.inr ⟨none,rfl,Dt ws⟩)) ha (fun w hwm=>(hw w hwm).at_) hn _ fun s=>.plain _ rfl)
 ·cases hh
variable {K:AV→St→Prop}
theorem Zgg (h:Con e 71 Ii) (hx:x.ok s) (hk:K (.int .i64 (BE (DH x.a) x.ws 0)) s):ESc e 71 x.args s K:=by
 refine ESc.ov h (v:=.int .i64 (BE (DH x.a) x.ws 0)) (s':=s) ?_ hk
 unfold Ii GO
 rw [Zbi hx]
theorem Zgh (h:Con e 71 Ii) (ha:Aj a) (hk:K (.int .i64 (-1)) s):ESc e 71 [.nils,.fn 34 [] [.fp [.int .i64 a]]] s K:=by
 refine ESc.ov h (v:=.int .i64 (-1)) (s':=s) ?_ hk
 have:KX [.nils,.fn 34 [] [.fp [.int .i64 a]]] s=.fail:=by
  unfold KX
  rw [dif_neg]
  rintro ⟨x,_,h⟩
  have:=(Zor h).1
  cases this
 unfold Ii GO
 rw [this]
 exact NT nilI ha s
theorem Zgd (hE:EM P e) (h163:Con e 71 Ii) (h137:Inl e 34 OA [.tmp 3]) (ha:Aj a) (hw:∀ w ∈ W0,w.any) (hn:W0.length<1000000) (h1:1≤W0.length) (Q:AV→St→Prop)
 (hk:∀ s,s.get 0=some (.row 77 (Ad (A5 a W0)++Bc zW (W0.length-(A5 a W0).length)))→s.get 1=some (.row 3 [.int .i64 a])→Q (.sl 0 0 (A5 a W0).length none) s):
 VW P e 2 Zkq (Ah [.sl 0 0 W0.length none,.fn 34 [] [.ptr 1 0]] 0 .lf) (Ac St0 [.row 77 (Ad W0),.row 3 [.int .i64 a]]) none [] (AR [.tmp 4] Q):=by
 have hwf:∀ X:List WR,(∀ w ∈ X,w.any)→hfs (Ad X)=true:=fun X h=>FP fun w hwm=>(h w hwm).b.1.hf
 have hx:∀ s:St,s.get 0=some (.row 77 (Ad W0))→s.get 1=some (.row 3 [.int .i64 a])→∀ K:AV→St→Prop,K (.int .i64 (BE (DH a) W0 0)) s→ESc e 71 [.sl 0 0 W0.length none,.fn 34 [] [.ptr 1 0]] s K:=fun s g1 g2 K hk=>Zgg h163 (x:=⟨0,1,W0,a⟩) ⟨g1,g2,hw,ha,hn⟩ hk
 conv=>whnf
 refine hx _ rfl rfl _ ?_
 rcases Ud (DH a) W0 0 with ⟨e1,e2⟩|⟨m,hml,e1,e2,e3⟩
 ·rw [e1]
  rw [Ub e2,Nat.sub_self] at hk
  conv=>whnf
  repeat' (first|((refine w5 rfl rfl ?_ ?_) <;> intro _ <;> first|(exfalso;omega)|(conv=>whnf))|fail)
  refine hk _ ?_ rfl
  show _=some (AObj.row 77 (Ad W0++[]))
  rw [Zpq];rfl
 ·rw [e1,Zou]
  conv=>whnf
  repeat' (first|((refine w5 rfl rfl ?_ ?_) <;> intro _ <;> first|(exfalso;omega)|(conv=>whnf))|(refine w7 rfl rfl (by omega) ?_;conv=>whnf)|fail)
  have htm:A5 a (W0.take m)=W0.take m:=Ub e3
  have hsm:A5 a (W0.take (m+1))=W0.take m:=by
   rw [Zos hml,Ua,htm]
   have:A5 a [W0[m]]=[]:=by unfold A5;simp [e2]
   rw [this,Zpq]
  have hkm:(A5 a (W0.take (m+1))).length=m:=by rw [hsm,Zo5];omega
  refine Ce (k:=2) (α:=Nat×List WR) (fun x=>[(0,.sl 0 0 W0.length none),(1,.fn 34 [] [.ptr 1 0]),(5,.int .i64 (((A5 a (W0.take x.1)).length:Nat):Int)),(6,.int .i64 (x.1:Int))]) (fun x=>[.row 77 (Ad x.2),.row 3 [.int .i64 a]]) (fun x=>W0.length-x.1)
   (fun x=>x.1≤W0.length∧x.2.length=W0.length∧(∀ w ∈ x.2,w.any)∧(A5 a (W0.take x.1)).length<x.1∧x.2.take (A5 a (W0.take x.1)).length=A5 a (W0.take x.1)∧x.2.drop x.1=W0.drop x.1) (m+1,W0)
   ⟨by dsimp only;omega,rfl,hw,by dsimp only;omega,by dsimp only;rw [hkm,hsm],rfl⟩
   (AbsK.tells (rs:=[0,1]) ⟨rfl,by decide,⟨r9,r9,⟨rfl,by dsimp only;rw [hkm];rfl⟩,r9,trivial⟩,⟨o9 (hwf _ hw),r9,trivial⟩⟩) ?_
  rintro ⟨j,X⟩ ⟨hj,hXl,hXa,hkj,hXt,hXd⟩
  dsimp only at hj hXl hXa hkj hXt hXd ⊢
  obtain ⟨k,hkd⟩:∃ k,k=(A5 a (W0.take j)).length:=⟨_,rfl⟩
  rw [← hkd] at hkj hXt ⊢
  refine A9 hE ?_
  by_cases hlt:j<W0.length
  ·have hXj:X[j]?=some W0[j]:=by
    have:=congrArg (fun l:List WR=>l[0]?) hXd
    simp only [Zoq,Zpo] at this
    rw [this,Zof hlt]
   have hwj:=hw _ (Zpg hlt)
   have hKs:A5 a (W0.take (j+1))=A5 a (W0.take j)++A5 a [W0[j]]:=by rw [Zos hlt,Ua]
   have hXd':X.drop (j+1)=W0.drop (j+1):=by
    have:=congrArg (List.drop 1) hXd
    rwa [List.drop_drop,List.drop_drop] at this
   have hall:=And.intro hXj (And.intro hwj hKs)
   clear hXj hwj hKs hsm htm hkm e2 e3 hx hXd hml
   revert hall
   generalize W0[j]=w
   rintro ⟨hXj,hwj,hKs⟩
   obtain ⟨wa,wu,wb⟩:=w
   have hwu:AM.hf wu=true:=hwj.b.1.hf
   have hwi:=hwj.at_
   unfold Aj at hwi ha
   dsimp only at hwi
   have hld:∀ s:St,s.get 0=some (.row 77 (Ad X))→load 0 (0+j*2) 2 s=some [.int .i64 wa,wu]:=fun s h=>VO h hXj
   have hst:∀ s:St,s.get 0=some (.row 77 (Ad X))→storeAt 0 (0+k*2) [.int .i64 wa,wu] s=some (s.put 0 (.row 77 (Ad (X.set k ⟨wa,wu,wb⟩)))):=fun s h=>Zee (w:=⟨wa,wu,wb⟩) h (by omega)
   conv=>whnf
   refine DL rfl ?_;conv=>whnf
   refine Ag (a:=(j:Int)) (b:=(W0.length:Int)) rfl rfl (fun _=>?_) (fun h=>by omega);conv=>whnf
   refine D7 (i:=j) rfl rfl hlt ?_;conv=>whnf
   refine AP [.int .i64 wa,wu] (hld _ rfl) ?_;conv=>whnf
   refine ECall.inl h137.O h137.G ?_;conv=>whnf
   refine B2 (a:=wa) (b:=a) rfl rfl (fun he=>?_) (fun he=>?_)
   ·conv=>whnf
    repeat' (first|((first|refine w7 rfl rfl (by omega) ?_|refine w12 rfl ?_|refine ⟨rfl,?_⟩);conv=>whnf)|fail)
    have hK1:A5 a (W0.take (j+1))=A5 a (W0.take j):=by
     rw [hKs]
     have:A5 a [⟨wa,wu,wb⟩]=[]:=by unfold A5 DH;simp [he]
     rw [this,Zpq]
    refine ⟨(j+1,X),⟨by dsimp only;omega,hXl,hXa,by dsimp only;rw [hK1];omega,by dsimp only;rw [hK1,← hkd];exact hXt,hXd'⟩,by show W0.length-(j+1)<W0.length-j;omega,?_⟩
    dsimp only
    rw [hK1,← hkd]
    exact AbsK.tells (rs:=[0,1]) ⟨rfl,by decide,⟨r9,r9,r9,r9,trivial⟩,⟨o9 (hwf _ hXa),r9,trivial⟩⟩
   ·conv=>whnf
    refine LE rfl ?_;conv=>whnf
    refine D7 (i:=k) rfl rfl (by omega) ?_;conv=>whnf
    refine AP _ (hst _ rfl) ?_;conv=>whnf
    repeat' (first|((first|refine w7 rfl rfl (by omega) ?_|refine ⟨rfl,?_⟩);conv=>whnf)|fail)
    have hK1:A5 a (W0.take (j+1))=A5 a (W0.take j)++[⟨wa,wu,wb⟩]:=by
     rw [hKs]
     have:A5 a [⟨wa,wu,wb⟩]=[⟨wa,wu,wb⟩]:=by unfold A5 DH;simp [he]
     rw [this]
    have hK2:(A5 a (W0.take (j+1))).length=k+1:=by rw [hK1,Zot,← hkd];rfl
    have hXs:∀ w ∈ X.set k ⟨wa,wu,wb⟩,w.any:=fun w hwm=>by
     rcases List.mem_or_eq_of_mem_set hwm with h|rfl
     ·exact hXa w h
     ·exact hwj
    refine ⟨(j+1,X.set k ⟨wa,wu,wb⟩),⟨by dsimp only;omega,by dsimp only;rw [List.length_set];exact hXl,hXs,by dsimp only;rw [hK2];omega,?_,?_⟩,by show W0.length-(j+1)<W0.length-j;omega,?_⟩
    ·dsimp only
     rw [hK2,hK1,← hXt]
     have hks:k<X.length:=by omega
     rw [Zos (by rw [List.length_set];exact hks),List.take_set_of_le (Zo0 _),List.getElem_set_self]
    ·dsimp only
     rw [List.drop_set_of_lt (by omega)];exact hXd'
    ·dsimp only
     rw [hK2]
     exact AbsK.tells (rs:=[0,1]) ⟨rfl,by decide,⟨r9,r9,r9,r9,trivial⟩,⟨o9 (hwf _ hXs),r9,trivial⟩⟩
  ·have hje:W0.take j=W0:=Zoo (by omega)
   rw [hje] at hkd hXt
   rw [← hkd] at hk
   conv=>whnf
   refine DL rfl ?_;conv=>whnf
   refine Ag (a:=(j:Int)) (b:=(W0.length:Int)) rfl rfl (fun h=>by omega) (fun _=>?_);conv=>whnf
   refine LD (l:=k) (h:=W0.length) rfl rfl rfl (by omega) (Zo0 _) (by omega) ?_;conv=>whnf
   refine Zbe rfl (Fl (e:=77) (cs:=Ad X) rfl (by rw [Qa,Dt];show 0+k*2+(W0.length-k)*2≤_;omega)) ?_;conv=>whnf
   refine LD (l:=0) (h:=k) rfl rfl rfl (Zoy _) (by omega) (by omega) ?_;conv=>whnf
   refine hk _ ?_ rfl
   show some (AObj.row 77 ((Ad X).take (0+k*2)++Bc zW (W0.length-k)++(Ad X).drop (0+k*2+(Bc zW (W0.length-k)).length)))=_
   rw [Qa,Zou,Zd1,hXt,Zpb (by rw [Dt];show _≤k*2+(W0.length-k)*2;omega),Zpq]
end Go.AM
namespace Go.AM
attribute [local irreducible] W
open X
structure WA1 (x:WA) (s:St):Prop where
 ok:x.ok s
 n:1≤x.ws.length
def WA.k (x:WA):Nat:=(A5 x.a x.ws).length
noncomputable def WA.o (x:WA):AObj:=.row 77 (Ad (A5 x.a x.ws)++Bc zW (x.ws.length-x.k))
noncomputable def Lo:Ov:=fun args s=>open Classical in if h:∃ x:WA,WA1 x s∧args=x.args then .ok (.sl (Classical.choose h).r 0 (Classical.choose h).k none) (D1 s [(Classical.choose h).r,(Classical.choose h).q] [(Classical.choose h).o,.row 3 [.int .i64 (Classical.choose h).a]]) else .fail
variable {x:WA}{s:St}
theorem Vg (hx:WA1 x s):Lo x.args s=.ok (.sl x.r 0 x.k none) (D1 s [x.r,x.q] [x.o,.row 3 [.int .i64 x.a]]):=by
 have h:∃ y:WA,WA1 y s∧x.args=y.args:=⟨x,hx,rfl⟩
 unfold Lo
 rw [dif_pos h]
 obtain ⟨h1,h2⟩:=Zpu h
 rw [← WA.inj hx.ok h1.ok h2]
structure QA where
 q:Nat
 a:Int
structure QA.ok (x:QA) (s:St):Prop where
 q:s.get x.q=some (.row 3 [.int .i64 x.a])
 a:Aj x.a
noncomputable def P2:Ov:=fun args s=>open Classical in if ∃ x:QA,x.ok s∧args=[.nils,.fn 34 [] [.ptr x.q 0]] then .ok .nils s else .fail
noncomputable def IY:Ov:=GO Lo P2
theorem VY {a b:List AV}(h1:hfs a=true) (h2:hfs b=true):hfs (a++b)=true:=hfs_iff.2 fun v hv=>by
 rcases Zo7.1 hv with h|h
 ·exact hfs_iff.1 h1 v h
 ·exact hfs_iff.1 h2 v h
theorem VV {z:List AV}(h:hfs z=true):∀ n,hfs (Bc z n)=true
 | 0=>rfl
 | n+1=>by
  have:Bc z (n+1)=z++Bc z n:=by show AZ z (Bc z n)=_;rw [Do]
  rw [this];exact VY h (VV h n)
variable {e:Env}
theorem Zke (hE:EM P e) (h163:Con e 71 Ii) (h137:Inl e 34 OA [.tmp 3]):OvOk P 33 IY:=by
 refine R7 ⟨g33.b,fun args s u s' hh=>?_⟩ ⟨g33.b,fun args s u s' hh=>?_⟩
 ·have hx0:∃ x:WA,WA1 x s∧args=x.args:=by
   unfold Lo at hh
   split at hh
   ·rename_i h;exact h
   ·cases hh
  obtain ⟨x,hx,rfl⟩:=hx0
  rw [Vg hx] at hh
  cases hh
  obtain ⟨r,q,ws,a⟩:=x
  obtain ⟨⟨hg,hq,hw,ha,hn⟩,h1⟩:=hx
  dsimp only at hg hq hw ha hn h1
  have hrq:r≠q:=fun e=>by
   subst e
   rw [hg] at hq;injection hq with hq;injection hq with hq _;cases hq
  have hwf:hfs (Ad ws)=true:=FP fun w hwm=>(hw w hwm).b.1.hf
  have hkf:hfs (Ad (A5 a ws)++Bc zW (ws.length-(A5 a ws).length))=true:=VY (FP fun w hwm=>(hw w (List.mem_filter.1 hwm).1).b.1.hf) (VV rfl _)
  have key:=Zd0 (P:=P) (f:=33) (args0:=[.sl 0 0 ws.length none,.fn 34 [] [.ptr 1 0]]) (u:=.sl 0 0 (A5 a ws).length none) (os:=[.row 77 (Ad ws),.row 3 [.int .i64 a]]) (os2:=[.row 77 (Ad (A5 a ws)++Bc zW (ws.length-(A5 a ws).length)),.row 3 [.int .i64 a]]) (rs:=[r,q]) (s:=s)
   (by simp [hrq]) rfl (fun i o t ho ht=>by
     rcases i with _|_|i
     ·cases ho;cases ht;exact ⟨by rw [Az hwf];exact hg,AD hwf,rfl⟩
     ·cases ho;cases ht;exact ⟨hq,rfl,rfl⟩
     ·cases ho) (fun i hi=>by
     rcases i with _|_|i
     ·rfl
     ·rfl
     ·exact absurd (show i+1+1<2 from hi) (by omega)) rfl (Zo0 _) (by simp) (fun o ho=>by
     rcases Zpp.1 ho with rfl|ho
     ·rfl
     ·rcases Zpp.1 ho with rfl|ho
      ·rfl
      ·cases ho) (C1.of_G hE g33 (Zgd hE h163 h137 ha hw hn h1 _ fun s g0 g1=>⟨[0,1],⟨rfl,by decide,⟨r9,trivial⟩,⟨⟨AD hkf,by rw [Az hkf];exact g0⟩,⟨rfl,g1⟩,trivial⟩⟩⟩))
  refine key.mono ?_
  rintro v s' ⟨rfl,rfl⟩
  refine ⟨rfl,?_⟩
  show D1 s [r,q] [B5 _ (.row 77 (Ad (A5 a ws)++Bc zW (ws.length-(A5 a ws).length))),_]=_
  rw [Az hkf];rfl
 ·unfold P2 at hh
  split at hh
  ·rename_i hx
   cases hh
   obtain ⟨⟨q,a⟩,⟨hq,ha⟩,rfl⟩:=hx
   dsimp only at hq ha
   refine HQ (args2:=[.nils,.fn 34 [] [.fp [.int .i64 a]]]) (.cons (.plain _ rfl) (.cons (.fn 34 [] [.ptr q 0] [] [.fp [.int .i64 a]] .nil (.cons (.ptr q 0 3 [.int .i64 a] [.int .i64 a] [.int .i64 a] hq (fun i x h=>by rw [Zou];exact h) (.cons (.plain _ rfl) .nil)) .nil)) .nil)) rfl (GZ rfl ?_)
   refine C.of_G hE g33 ?_;conv=>whnf
   refine Zgh h163 ha ?_;conv=>whnf
   refine B2 (a:=-1) (b:=-1) rfl rfl (fun _=>?_) (fun h=>absurd rfl h);conv=>whnf
   exact .plain _ rfl
  ·cases hh
variable {K:AV→St→Prop}
theorem Zge (h:Con e 33 IY) (hx:WA1 x s) (hk:K (.sl x.r 0 x.k none) (D1 s [x.r,x.q] [x.o,.row 3 [.int .i64 x.a]])):ESc e 33 x.args s K:=by
 refine ESc.ov h (v:=.sl x.r 0 x.k none) (s':=D1 s [x.r,x.q] [x.o,.row 3 [.int .i64 x.a]]) ?_ hk
 unfold IY GO
 rw [Vg hx]
theorem Zgf (h:Con e 33 IY) {x:QA}(hx:x.ok s) (hk:K .nils s):ESc e 33 [.nils,.fn 34 [] [.ptr x.q 0]] s K:=by
 refine ESc.ov h (v:=.nils) (s':=s) ?_ hk
 have:Lo [.nils,.fn 34 [] [.ptr x.q 0]] s=.fail:=by
  unfold Lo
  rw [dif_neg]
  rintro ⟨x,_,h⟩
  have:=(Zor h).1
  cases this
 unfold IY GO
 rw [this]
 show P2 _ s=_
 unfold P2
 rw [Zoj ⟨x,hx,rfl⟩]
end Go.AM
namespace Go.AM
attribute [local irreducible] W
open X
def wvF (n:Nat) (L:List WR):AV:=match n with
 | 0=>.nils
 | _+1=>.fz L.length none (Ad L)
def Ct (x:DKW):DK:=⟨.fz x.d.us.length none ((x.d.us.map Ao).set x.a.toNat (AA (Aa x.b))),(x.d.us.map Ao).set x.a.toNat (AA (Aa x.b)),x.d.bs.set x.a.toNat (Aa x.b),wvF x.d.ws.length (A5 x.a (x.d.ws.map An)),A5 x.a (x.d.ws.map An),x.d.dead⟩
def Da:List AV:=[.nils,.nils,.bool false]
def G7 (x:DKW):AV:=if Cg x.d x.a x.b=0 then .tup [(Ct x).v,.int .i64 0] else .tup [.agg Da,.int .i64 (Cg x.d x.a x.b)]
theorem Zmf (n:Nat) (L:List WR):AM.hf (wvF n L)=true:=by cases n <;> rfl
theorem Zcv (x:DKW):AM.hf (G7 x)=true:=by
 unfold G7
 split
 ·show ((true && (AM.hf (wvF _ _) && (true && true))) && (true && true))=true
  rw [Zmf];rfl
 ·rfl
def fuaF:Fam DKW:=⟨DKW.ok,DKW.args,G7,fun x y hx hy h=>by rw [DKW.inja hx hy h]⟩
variable {s:St}
theorem Qu {r e i:Nat}{cs:List AV}{v:AV}(h:s.get r=some (.row e cs)) (hi:i<cs.length):storeAt r (0+i*1) [v] s=some (s.put r (.row e (cs.set i v))):=by
 rw [Fl h (by show 0+i*1+1≤_;omega),Zou,Zpi,List.set_eq_take_append_cons_drop,Zoj hi]
 simp
theorem Om {α β:Type}{R:α→β→Prop}{a:α}{b:β}(hab:R a b):∀ {l:List α}{m:List β},All2 R l m→∀ i,All2 R (l.set i a) (m.set i b)
 | _,_,.nil,i=>by simp;exact .nil
 | _,_,.cons h1 h2,0=>.cons hab h2
 | _,_,.cons h1 h2,i+1=>.cons h1 (Om hab h2 i)
theorem I9:∀ {l:List AV},hfs l=true→All2 (Frz s) l l
 | [],_=>.nil
 | v::l,h=>by
  simp only [hfs,Zoh] at h
  exact .cons (.plain _ h.1) (I9 h.2)
variable {b:List Nat}
theorem Ru {u:AV}(h:BAt u b):BAt (Ao u) b:=by
 obtain ⟨h1,h2⟩:=h
 refine ⟨?_,h2⟩
 rcases h1 with ⟨rfl,e1,e2⟩|⟨rfl,e1,e2⟩|⟨c,rfl,e⟩
 ·exact .inl ⟨rfl,e1,e2⟩
 ·exact .inr (.inr ⟨none,by show AV.fz 0 none []=_;rw [e1,e2],by rw [e2,e1];rfl⟩)
 ·exact .inr (.inr ⟨none,rfl,e⟩)
theorem HF {w:WR}(h:w.any):(An w).any:=⟨h.at_,Ru h.b⟩
variable {d:DK}
theorem Kw (hd:d.any):hfs (d.us.map Ao)=true:=Rf _ fun u hu=>by
 obtain ⟨k,hk⟩:=Zqa.1 hu
 obtain ⟨b,_,hb⟩:=hd.bs.get hk
 exact (Ru hb).1.hf
theorem JK {a:Int}(h:Cg d a b=0):Bi d=true∧(0≤a∧a<d.us.length)∧AE b.length=false∧d.dead=false:=by
 unfold Cg Ic at h
 by_cases h1:Bi d=true
 ·rw [Zoj h1] at h
  by_cases h2:0≤a∧a<d.us.length
  ·rw [Zoj h2,Zoj rfl] at h
   by_cases h3:AE b.length=true
   ·rw [Zoj h3] at h;cases h
   ·rw [Zon h3] at h
    cases h4:d.dead
    ·exact ⟨h1,h2,by simpa using h3,rfl⟩
    ·rw [h4] at h;cases h
  ·rw [Zon h2,Zon (by decide)] at h;cases h
 ·rw [Zon h1,Zon (by decide)] at h;cases h
theorem Zis {e:Env}(hE:EM P e) (h102:Con e 30 wrtF.O) (h103:Con e 31 Cu) (h98:Inl e 32 J7 [.tmp 2]) (h141:Inl e 70 HJ [.tmp 2]) (h136:Con e 33 IY):OvOk P 10 fuaF.O:=by
 refine Bk g10.b fun x hx=>?_
 refine ⟨DKW.hfa hx,Zcv x,C.of_G hE g10 ?_⟩
 have hfam:=fun (s:St) (K:AV→St→Prop) (hk:K (.int .i64 (Cg x.d x.a x.b)) s)=>ESc.fam wrtF h102 x hx (u:=.int .i64 (Cg x.d x.a x.b)) rfl hk
 by_cases h0:Cg x.d x.a x.b=0
 ·obtain ⟨q1,q2,q3,q4⟩:=JK h0
  have hbl:x.b.length=0∨x.b.length=128:=HH q3
  have hdk1:DK1 x.d:=⟨hx.d,by omega⟩
  have htw:=Jx hdk1
  have hUf:=Kw hx.d.a
  have hWa:∀ w ∈ x.d.ws.map An,w.any:=fun w hw=>by
   obtain ⟨v,hv,rfl⟩:=Zpf.1 hw
   exact HF (hx.d.a.ws v hv)
  have hout:fuaF.out x=.tup [(Ct x).v,.int .i64 0]:=by show G7 x=_;unfold G7;rw [Zoj h0]
  rw [h0] at hfam
  rw [hout]
  obtain ⟨⟨bv,us,bs,wv,ws,dd⟩,a,u,b⟩:=x
  obtain ⟨hd,ha,hbt,hbn⟩:=hx
  dsimp only at q2 q4 hbl htw hUf hWa ha hbt hbn
  subst q4
  obtain ⟨n,rfl⟩:∃ n:Nat,a=(n:Int):=⟨a.toNat,by omega⟩
  have hn:n<us.length:=by omega
  have hfB:∀ (s:St) r cp,s.get r=some (.row 5 (Ab (Aa b)))→Frz s (.sl r 0 128 cp) (AA (Aa b)):=fun s r cp h=>.sl r 0 128 cp none 5 _ (Ab (Aa b)) _ h (fun i x h=>by rw [Zou];exact h) (Ml _) (.inl rfl)
  have hbk:∀ (s:St) r cp,s.get 3=some (.row 41 ((us.map Ao).set n (.sl r 0 128 cp)))→s.get r=some (.row 5 (Ab (Aa b)))→Frz s (.sl 3 0 us.length none) (.fz us.length none ((us.map Ao).set n (AA (Aa b)))):=fun s r cp h1 h2=>
   .sl 3 0 us.length none none 41 _ ((us.map Ao).set n (.sl r 0 128 cp)) _ h1 (fun i x h=>by rw [Zou];exact h) (Om (hfB s r cp h2) (I9 hUf) n) (.inl rfl)
  have hset:∀ (s:St) v,s.get 3=some (.row 41 (us.map Ao))→storeAt 3 (0+n*1) [v] s=some (s.put 3 (.row 41 ((us.map Ao).set n v))):=fun s v h=>Qu h (by rw [Zom];exact hn)
  have hwm:=hd.m
  clear q1 q3 hout
  show VW P e 0 (match a10 with|.mk c _=>c) (Ah [.agg [bv,wv,.bool false],.int .i64 (n:Int),u] 0 .lf) St0 none [] _
  have hfam:∀ (s:St) (K:AV→St→Prop),K (.int .i64 0) s→ESc e 30 [.agg [bv,wv,.bool false],.int .i64 (n:Int),u] s K:=hfam
  rcases ws with _|⟨w0,ws⟩
  ·have htw:∀ s,Cu [.agg [bv,wv,.bool false]] s=.ok (.agg [.sl (0+s.next) 0 us.length none,.nils,.bool false]) (Ac s [.row 41 (us.map Ao)]):=htw
   have fin:∀ (s:St) r cp,s.get 3=some (.row 41 ((us.map Ao).set n (.sl r 0 128 cp)))→s.get r=some (.row 5 (Ab (Aa b)))→Frz s (.tup [.agg [.sl 3 0 us.length none,.nils,.bool false],.int .i64 0]) (.tup [(Ct ⟨⟨bv,us,bs,wv,[],false⟩,(n:Int),u,b⟩).v,.int .i64 0]):=fun s r cp h1 h2=>
    .tup _ _ (.cons (.agg _ _ (.cons (hbk s r cp h1 h2) (.cons (.plain _ rfl) (.cons (.plain _ rfl) .nil)))) (.cons (.plain _ rfl) .nil))
   have hdel:∀ (s:St) (K:AV→St→Prop),s.get 1=some (.row 3 [.int .i64 (n:Int)])→K .nils s→ESc e 33 [.nils,.fn 34 [] [.ptr 1 0]] s K:=fun s K h1 hk=>Zgf h136 (x:=⟨1,(n:Int)⟩) ⟨h1,ha⟩ hk
   conv=>whnf
   refine hfam _ _ ?_;conv=>whnf
   repeat' (first|((refine w6 rfl rfl ?_ ?_) <;> intro _ <;> first|(exfalso;omega)|(conv=>whnf))|fail)
   refine ESc.ov h103 (htw _) ?_;conv=>whnf
   refine K1 h98 h141 hbt hbl (by show 4<1000000;decide) (fun h0=>?_) (fun h1=>?_)
   ·conv=>whnf
    repeat' (first|(refine D7 (i:=n) rfl rfl hn ?_;conv=>whnf)|(refine AP _ (hset _ _ rfl) ?_;conv=>whnf)|(refine hdel _ _ rfl ?_;conv=>whnf)|(refine ⟨rfl,?_⟩;conv=>whnf)|fail)
    exact fin _ _ _ rfl rfl
   ·conv=>whnf
    repeat' (first|(refine D7 (i:=n) rfl rfl hn ?_;conv=>whnf)|(refine AP _ (hset _ _ rfl) ?_;conv=>whnf)|(refine hdel _ _ rfl ?_;conv=>whnf)|(refine ⟨rfl,?_⟩;conv=>whnf)|fail)
    exact fin _ _ _ rfl rfl
  ·have htw:∀ s,Cu [.agg [bv,wv,.bool false]] s=.ok (.agg [.sl (0+s.next) 0 us.length none,.sl (1+s.next) 0 (ws.length+1) none,.bool false]) (Ac s [.row 41 (us.map Ao),.row 77 (Ad ((w0::ws).map An))]):=htw
   have hkf:hfs (Ad (A5 (n:Int) ((w0::ws).map An)))=true:=FP fun w hw=>(hWa w (List.mem_filter.1 hw).1).b.1.hf
   have hkl:(A5 (n:Int) ((w0::ws).map An)).length≤ws.length+1:=by
    have:=Oc (n:Int) ((w0::ws).map An)
    rw [Zom] at this;exact this
   have fin:∀ (s:St) r cp,s.get 3=some (.row 41 ((us.map Ao).set n (.sl r 0 128 cp)))→s.get r=some (.row 5 (Ab (Aa b)))→s.get 4=some (WA.o ⟨4,1,(w0::ws).map An,(n:Int)⟩)→Frz s (.tup [.agg [.sl 3 0 us.length none,.sl 4 0 (WA.k ⟨4,1,(w0::ws).map An,(n:Int)⟩) none,.bool false],.int .i64 0]) (.tup [(Ct ⟨⟨bv,us,bs,wv,w0::ws,false⟩,(n:Int),u,b⟩).v,.int .i64 0]):=fun s r cp h1 h2 h3=>
    .tup _ _ (.cons (.agg _ _ (.cons (hbk s r cp h1 h2) (.cons (.sl 4 0 _ none none 77 _ (Ad (A5 (n:Int) ((w0::ws).map An))) _ h3 (fun i x h=>by
     rw [Zou,Zoz (Zog.1 h).1];exact h) (I9 hkf) (.inl rfl)) (.cons (.plain _ rfl) .nil)))) (.cons (.plain _ rfl) .nil))
   have hdel:∀ (s:St) (K:AV→St→Prop),s.get 4=some (.row 77 (Ad ((w0::ws).map An)))→s.get 1=some (.row 3 [.int .i64 (n:Int)])→K (.sl 4 0 (WA.k ⟨4,1,(w0::ws).map An,(n:Int)⟩) none) (D1 s [4,1] [WA.o ⟨4,1,(w0::ws).map An,(n:Int)⟩,.row 3 [.int .i64 (n:Int)]])→ESc e 33 [.sl 4 0 (ws.length+1) none,.fn 34 [] [.ptr 1 0]] s K:=fun s K h4 h1 hk=>by
    have:=Zge h136 (x:=⟨4,1,(w0::ws).map An,(n:Int)⟩) ⟨⟨h4,h1,hWa,ha,by dsimp only;rw [Zom];exact hwm⟩,by simp⟩ hk
    have ea:WA.args ⟨4,1,(w0::ws).map An,(n:Int)⟩=[.sl 4 0 (ws.length+1) none,.fn 34 [] [.ptr 1 0]]:=by unfold WA.args;simp
    rw [ea] at this
    exact this
   conv=>whnf
   refine hfam _ _ ?_;conv=>whnf
   repeat' (first|((refine w6 rfl rfl ?_ ?_) <;> intro _ <;> first|(exfalso;omega)|(conv=>whnf))|fail)
   refine ESc.ov h103 (htw _) ?_;conv=>whnf
   refine K1 h98 h141 hbt hbl (by show 5<1000000;decide) (fun h0=>?_) (fun h1=>?_)
   ·conv=>whnf
    repeat' (first|(refine D7 (i:=n) rfl rfl hn ?_;conv=>whnf)|(refine AP _ (hset _ _ rfl) ?_;conv=>whnf)|(refine hdel _ _ rfl rfl ?_;conv=>whnf)|(refine ⟨rfl,?_⟩;conv=>whnf)|fail)
    exact fin _ _ _ rfl rfl rfl
   ·conv=>whnf
    repeat' (first|(refine D7 (i:=n) rfl rfl hn ?_;conv=>whnf)|(refine AP _ (hset _ _ rfl) ?_;conv=>whnf)|(refine hdel _ _ rfl rfl ?_;conv=>whnf)|(refine ⟨rfl,?_⟩;conv=>whnf)|fail)
    exact fin _ _ _ rfl rfl rfl
 ·have hout:fuaF.out x=.tup [.agg Da,.int .i64 (Cg x.d x.a x.b)]:=by show G7 x=_;unfold G7;rw [Zon h0]
  rw [hout]
  obtain ⟨E,hE'⟩:∃ E,E=Cg x.d x.a x.b:=⟨_,rfl⟩
  rw [← hE'] at h0 hfam ⊢
  obtain ⟨⟨bv,us,bs,wv,ws,dd⟩,a,u,b⟩:=x
  have hfam:∀ (s:St) (K:AV→St→Prop),K (.int .i64 E) s→ESc e 30 [.agg [bv,wv,.bool dd],.int .i64 a,u] s K:=hfam
  show VW P e 0 (match a10 with|.mk c _=>c) (Ah [.agg [bv,wv,.bool dd],.int .i64 a,u] 0 .lf) St0 none [] _
  conv=>whnf
  refine hfam _ _ ?_;conv=>whnf
  refine B7 (a:=E) (b:=0) rfl rfl (fun _=>?_) (fun h=>absurd h h0);conv=>whnf
  skip
  exact .plain _ rfl
end Go.AM
