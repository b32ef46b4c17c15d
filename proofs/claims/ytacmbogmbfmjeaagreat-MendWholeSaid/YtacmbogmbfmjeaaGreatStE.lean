/- Contracts of functions over the abstract machine. No conditions. -/
import Derived.Test.YtacmbogmbfmjeaaGreatStD
set_option linter.unusedVariables false
set_option linter.unusedSimpArgs false
set_option maxRecDepth 100000
namespace Go.AM
attribute [local irreducible] W
open X
variable {e:Env}{l B:List AV}{L:List (List Nat)}{m:Int}{n:Nat}{K:AV->St->Prop}
theorem Zeu (hE:EM P e) {bl:List (List Nat)}{A:List Nat}{st sq:Int}{ph:Nat}{de:Bool}{bv dv:AV}(hm:m=(n:Int)) (hn:3≤n∧n≤16) (hbv:Ls bytC bl bv) (hbl:bl.length=n) (hA:A.length=128∧∀ x ∈ A,x<256) (hav:∀ (Q:AV->St->Prop) st,Q (Az A) st->ESc e 79 [.fz B.length none B] st Q) (t:ph=0∨bl[n-1]?.getD []=A->∀ st,K (.bool true) st) (f:¬(ph=0∨bl[n-1]?.getD []=A)->∀ st,K (.bool false) st):W P 0 none R4 (A6 (Fa m B L true)) (Aj St0 [.row 33 l,.row 55 [.int .i64 st,bv,dv,.int .u8 (ph:Int),.bool de,.int .u32 sq]]) [] (BS [.tmp 6] K):=by
 obtain ⟨bs,b1,b2,bn⟩:=hbv.nth
 obtain ⟨b,_,br,hb,⟨bu,rfl,hbu⟩,hbd⟩:=bn (n-1) (by omega)
 obtain ⟨hbs,hb256⟩:=hbu.by
 have hsl:Sl 1 128 (Ad A) (Az A):=.inr (.inr ⟨_,rfl,by rw [show (Ad A).length=A.length from Zpq ..];exact hA.1⟩)
 rw [hb] at t f
 dsimp only [Option.getD_some] at t f
 refine Hz hE ?_
 show VW P e 0 R4 (A6 (Fa m B L true)) (Aj St0 [.row 33 l,.row 55 [.int .i64 st,bv,dv,.int .u8 (ph:Int),.bool de,.int .u32 sq]]) none [] _
 conv=>whnf
 repeat' (first|(refine ZT rfl rfl (fun heq=>?_) (fun hne=>?_) <;> conv=>whnf)|((first|refine Cj rfl b1 rfl (show m-1=_ by omega) (by omega) hbd ?_|refine As ?_|refine hav _ _ ?_|refine Hf rfl hbs hb256 ?_|refine Hf rfl hsl hA.2 ?_|refine AL ?_|refine Au ?_|refine ⟨rfl,?_⟩);conv=>whnf)|refine Ap ?_ ?_|(intro _;first|omega|conv=>whnf))
 all_goals first
  | exact t (.inl (by omega)) _
  | exact t (.inr heq) _
  | exact f (fun q=>q.elim (fun h=>by omega) hne) _
variable {d:Dv}{v:AV}
theorem Zcr (hE:EM P e) (h80:Inl e 80 MB [.cells 4 6,.tmp 5]) (h132:Con e 132 hplF.O) {s:Int}(hd:dvC.r d l) (hs:Ab s) (hv:AM.hf v=true) (hno:A9 d.2.2.2.1 s<0->∀ hc,hfs hc=true->W P 0 none Mq (A6 (Fa m B L false)) (Aj St0 [.row 33 l,.row 55 hc]) [] (BS [.tmp 6] K)) (hyes:0≤A9 d.2.2.2.1 s->∀ h hc,d.2.2.2.1[(A9 d.2.2.2.1 s).toNat]?=some h->hdC.r h hc->W P 0 none Mq (A6 (Fa m B L true)) (Aj St0 [.row 33 l,.row 55 hc]) [] (BS [.tmp 6] K)):W P 0 none R5 (A6 (LB v s m B L)) (Aj St0 [.row 33 l]) [] (BS [.tmp 6] K):=by
 have hl:=dvC.hf hd
 have hch:∀ hv,Ls hdC d.2.2.2.1 hv->∀ (Q:AV->St->Prop) st,Q (.int .i64 (A9 d.2.2.2.1 s)) st->ESc e 132 [hv,.int .i64 s] st Q:=fun hv hH Q st q=>Fn.u (F:=hplF) h132 (d.2.2.2.1,s,()) ⟨_,_,rfl,⟨_,rfl,hH⟩,_,_,rfl,⟨rfl,Bf hs⟩,rfl⟩ trivial q
 have hlt:=Ht d.2.2.2.1 s
 obtain ⟨c,bk,⟨ev,lo,sp,po,dn,nl,br⟩,hs',⟨ag,sq,tl,us',L'⟩,fs,nx,so⟩:=d
 obtain ⟨hv',lv,fv,rfl,ho,hH,hL,hF⟩:=B1 hd
 dsimp only at hch hlt hno hyes
 have hch:=hch hv' hH
 obtain ⟨cs,h3,hll,hn⟩:=hH.nth
 generalize A9 hs' s=j at *
 refine Bz hE ?_
 by_cases hj:0≤j
 ·obtain ⟨⟨st,bl,di,ph,de,hq⟩,_,r,hx,hxr,hdr⟩:=hn j.toNat (by omega)
  have hyes:=hyes hj _ _ hx hxr
  have hcf:hfs _=true:=hdC.hf hxr
  obtain ⟨bv,dv,rfl,-,g2,g3,-⟩:=Cm hxr
  conv=>whnf
  repeat' (first|((first|refine ESc.inl h80 ?_|refine hch _ _ ?_|refine Cj rfl h3 rfl (show j=_ by omega) (by omega) hdr ?_|refine A8 (cs:=[.int .i64 st,bv,dv,.int .u8 (ph:Int),.bool de,.int .u32 hq]) rfl ?_);conv=>whnf)|refine Aa ?_ ?_|(intro _;first|omega|conv=>whnf))
  first
   | exact W.tells (Abs.tells (tl:=Fa m B L true) (os:=[.row 33 _,.row 55 [.int .i64 st,bv,dv,.int .u8 (ph:Int),.bool de,.int .u32 hq]]) (rs:=[0,1]) ⟨by decide,⟨r9,t9 (h:=rfl),t9 (h:=rfl),r9,r9,trivial⟩,⟨⟨Bj hl,by rw [AU hl];rfl⟩,⟨Bj hcf,by rw [AU hcf];rfl⟩,trivial⟩⟩) hyes
   | exact W.tells (Abs.tells (tl:=Fa m B L true) (os:=[.row 33 _,.row 55 [.int .i64 st,bv,dv,.int .u8 (ph:Int),.bool de,.int .u32 hq]]) (rs:=[0,3]) ⟨by decide,⟨r9,t9 (h:=rfl),t9 (h:=rfl),r9,r9,trivial⟩,⟨⟨Bj hl,by rw [AU hl];rfl⟩,⟨Bj hcf,by rw [AU hcf];rfl⟩,trivial⟩⟩) hyes
   | exact W.tells (Abs.tells (tl:=Fa m B L true) (os:=[.row 33 _,.row 55 [.int .i64 st,bv,dv,.int .u8 (ph:Int),.bool de,.int .u32 hq]]) (rs:=[0,2]) ⟨by decide,⟨r9,t9 (h:=rfl),t9 (h:=rfl),r9,r9,trivial⟩,⟨⟨Bj hl,by rw [AU hl];rfl⟩,⟨Bj hcf,by rw [AU hcf];rfl⟩,trivial⟩⟩) hyes
 ·have hno:=hno (by omega)
  conv=>whnf
  repeat' (first|((first|refine ESc.inl h80 ?_|refine hch _ _ ?_);conv=>whnf)|refine Aa ?_ ?_|(intro _;first|omega|conv=>whnf))
  first
   | exact W.tells (Abs.tells (tl:=Fa m B L false) (os:=[.row 33 _,.row 55 [.int .i64 0,.nils,.nils,.int .u8 0,.bool false,.int .u32 0]]) (rs:=[0,1]) ⟨by decide,⟨r9,t9 (h:=rfl),t9 (h:=rfl),r9,r9,trivial⟩,⟨⟨Bj hl,by rw [AU hl];rfl⟩,⟨Bj rfl,by rw [AU rfl];rfl⟩,trivial⟩⟩) (hno _ rfl)
   | exact W.tells (Abs.tells (tl:=Fa m B L false) (os:=[.row 33 _,.row 55 [.int .i64 0,.nils,.nils,.int .u8 0,.bool false,.int .u32 0]]) (rs:=[0,3]) ⟨by decide,⟨r9,t9 (h:=rfl),t9 (h:=rfl),r9,r9,trivial⟩,⟨⟨Bj hl,by rw [AU hl];rfl⟩,⟨Bj rfl,by rw [AU rfl];rfl⟩,trivial⟩⟩) (hno _ rfl)
   | exact W.tells (Abs.tells (tl:=Fa m B L false) (os:=[.row 33 _,.row 55 [.int .i64 0,.nils,.nils,.int .u8 0,.bool false,.int .u32 0]]) (rs:=[0,2]) ⟨by decide,⟨r9,t9 (h:=rfl),t9 (h:=rfl),r9,r9,trivial⟩,⟨⟨Bj hl,by rw [AU hl];rfl⟩,⟨Bj rfl,by rw [AU rfl];rfl⟩,trivial⟩⟩) (hno _ rfl)
theorem Mj (f:Nat->AV):∀ l:List Nat,(l.map fun k=>[f k]).flatten=l.map f
 | []=>rfl
 | x::l=>by rw [Zqz,List.flatten_cons,Mj f l];rfl
theorem Zl9 {T:Nat->List Nat}{V:Nat->AV}{m:Nat}(h:∀ k<m,Ls Ce.u8 (T k) (V k)) (hm:0<m∧m≤1000):Ls bytC ((List.range m).map T) (.fz ((List.range m).map V).length none ((List.range m).map V)):=by
 refine ⟨(List.range m).map fun k=>[V k],?_,.inr (.inr ⟨none,by rw [Mj];simp,by rw [Mj,Zpq,List.length_range];rw [Zpq,List.length_range];exact (Zqm m).symm⟩),by simp;omega⟩
 refine EB (by simp) fun i x l' h1 h2=>?_
 rw [Zqi] at h1 h2
 by_cases hi:i<m
 ·rw [List.getElem?_range hi] at h1 h2
  cases h1
  cases h2
  exact ⟨_,rfl,h i hi⟩
 ·rw [Zrl (by simp;omega)] at h1
  cases h1
noncomputable def tdyF:Fn (Dv×List Dk×Int×Unit):=bF (.g dvC (.v dkC.sl (.v i64C .nil))) (fun x=>HA x.1.1 x.2.1 x.2.2.1∧Cg x.1.1 x.1.2.2.2.1) fun x=>J8 x.1 x.2.1 x.2.2.1
variable {D:List Dk}
theorem XC {s:Int}(hD:Ls dkC D v) (hok:HA d.1 D s) {k:Nat}(h:BW d D s k≠none):(DO d D s k).length=128∧∀ x ∈ DO d D s k,x<256:=by
 obtain ⟨b,hb⟩:=Option.ne_none_iff_exists'.1 h
 unfold DO;rw [hb]
 exact Xb hok hD hb
theorem Zlq {s:Int}(hd:dvC.r d l) (hD:Ls dkC D v) (hok:HA d.1 D s) (hsh:Cg d.1 d.2.2.2.1) {k:Nat}(hk:(k:Int)<d.1.members) (h:BW d D s k≠none):(Gt d D s k).length=128∧∀ x ∈ Gt d D s k,x<256:=by
 unfold Gt B0
 split
 ·rename_i hi
  obtain ⟨hv,cs,x,bv,dv,r,xs,u,r',h1,h2,h3,h4,h5,h6,h7,h8⟩:=Rg hd hsh (k:=(k:Int)) ⟨by omega,hk⟩ hi.1
  have hb:=hi.2
  refine ⟨?_,h8.by.2⟩
  show (DI d s k).length=128
  have hz:BM (DI d s k):=by
   have hlt:=Ht d.2.2.2.1 s
   have hi0:=hi.1
   have hhd:=(hsh.1 (A9 d.2.2.2.1 s).toNat (by omega) x h1).1
   unfold DI
   rw [h1]
   show BM (x.2.1[k]?.getD [])
   obtain ⟨st,bl,di,ph,de,hq⟩:=x
   unfold DT at hhd
   cases hg:bl[k]? with
   | none=>exact .inl rfl
   | some b=>exact (hhd.2.2.2.2.1 k (Zpk.1 hg).1 b hg).1
  exact hz.resolve_left hb
 ·exact XC hD hok h
theorem Zhh (hE:EM P e) (h43:Con e 43 (Ao Lx)) (h78:Con e 78 fetF.O) (h79:Con e 79 allF3.O) (h80:Inl e 80 MB [.cells 4 6,.tmp 5]) (h132:Con e 132 hplF.O):OvOk P 33 tdyF.O:=by
 refine Znt g33 ?_
 rintro ⟨d,D,s,_⟩ _ ⟨l,_,rfl,hd,v,_,rfl,⟨_,e0,hD⟩,_,_,rfl,⟨e1,z1⟩,rfl⟩ ⟨hok,hsh⟩ K t f
 cases e0
 cases e1
 dsimp only at hok hsh hD t f
 have hs:=wf_i64 z1
 have hM:=hok.1
 unfold Cfg.may at hM
 refine Zcq hE h78 h43 hd hD hs hok hsh f ?_
 intro V hV hF
 have hn:3≤d.1.members.toNat∧d.1.members.toNat≤16:=by omega
 have hm:d.1.members=(d.1.members.toNat:Int):=by omega
 have hl:=dvC.hf hd
 have hvf:=hD.hf
 have hTh:=fun k hk=>XC hD hok (hF k hk)
 have hVw:=fun k (hk:k<d.1.members.toNat)=>Zlq hd hD hok hsh (show (k:Int)<d.1.members by omega) (hF k hk)
 have hBL:Ey (EZ d D s d.1.members.toNat):=fun b hb=>by
  obtain ⟨k,hk,rfl⟩:=Zqj.1 hb
  exact hTh k (List.mem_range.1 hk)
 have hBV:Ey (HS d D s (d.1.members.toNat-1)):=fun b hb=>by
  obtain ⟨k,hk,rfl⟩:=Zqj.1 hb
  exact hVw k (by have:=List.mem_range.1 hk;omega)
 have hLl:(EZ d D s d.1.members.toNat).length=d.1.members.toNat:=by unfold EZ;simp
 have hVh:hfs ((List.range (d.1.members.toNat-1)).map V)=true:=Ho fun k h=>(hV k h).hf
 have hAh:hfs ((List.range d.1.members.toNat).map fun k=>Az (DO d D s k))=true:=Ho fun k _=>rfl
 have hAe:((List.range d.1.members.toNat).map fun k=>Az (DO d D s k))=(EZ d D s d.1.members.toNat).map Az:=by unfold EZ;rw [List.map_map];rfl
 have hBn:((List.range (d.1.members.toNat-1)).map V).length=d.1.members.toNat-1:=by simp
 have hav:∀ (Q:AV->St->Prop) st,Q (Az (AY (HS d D s (d.1.members.toNat-1)))) st->ESc e 79 [.fz ((List.range (d.1.members.toNat-1)).map V).length none ((List.range (d.1.members.toNat-1)).map V)] st Q:=fun Q st k=>Fn.u (F:=allF3) h79 (HS d D s (d.1.members.toNat-1),()) ⟨_,_,rfl,⟨_,rfl,Zl9 (fun k hk=>hV k hk) (by omega)⟩,rfl⟩ hBV k
 have hlt:=Ht d.2.2.2.1 s
 have hT:W P 0 none OR (A6 (LB v s d.1.members ((List.range (d.1.members.toNat-1)).map V) (EZ d D s d.1.members.toNat))) (Aj St0 [.row 33 l]) [] (BS [.tmp 6] K):=by
  refine Zcm hE h79 hl hvf hBL (by omega) (fun h=>f fun q=>h q.2.1) fun hz=>?_
  refine Zcr hE h80 h132 hd hs hvf (fun hno hc hh=>Zcn hE hl hh (t ⟨hF,hz,fun h=>absurd (show 0≤A9 d.2.2.2.1 s from h) (Int.not_le.2 hno)⟩)) ?_
  rintro h0 ⟨st,bl,di,ph,de,sq⟩ hc hx hxr
  have h0':0≤A9 d.2.2.2.1 s:=h0
  have hhd:=(hsh.1 (A9 d.2.2.2.1 s).toNat (by omega) _ hx).1
  unfold DT at hhd
  obtain ⟨bv,dv,rfl,-,g2,g3,g4,-⟩:=Cm hxr
  have hb1:∀ k:Nat,DI d s k=bl[k]?.getD []:=fun k=>by unfold DI;rw [hx];rfl
  have hcl:∀ k<d.1.members.toNat,(J4 bl di ph d.1.members.toNat (EZ d D s d.1.members.toNat) k↔((ph=4∨k+1<d.1.members.toNat∧di[k]?=some false)->(DI d s k).length≠0->DI d s k=DO d D s k)):=fun k hk=>by
   unfold J4
   rw [hb1]
   have:(EZ d D s d.1.members.toNat)[k]?.getD []=DO d D s k:=by unfold EZ;rw [Zqi,List.getElem?_range hk];rfl
   rw [this]
  refine Zay hE hl hm hn hBL hLl g2 g3 (by omega) (by omega) (fun k hk hn'=>f fun q=>hn' ((hcl k hk).2 ((q.2.2 h0 _ hx).1 k hk))) fun hI=>?_
  have hpar:(ph=0∨bl[d.1.members.toNat-1]?.getD []=AY (HS d D s (d.1.members.toNat-1)))↔(ph≠0->DI d s ((d.1.members.toNat-1:Nat):Int)=AY (HS d D s (d.1.members.toNat-1))):=by
   rw [hb1]
   constructor
   ·rintro (h|h) g
    ·exact absurd h g
    ·exact h
   ·intro h
    by_cases g:ph=0
    ·exact .inl g
    ·exact .inr (h g)
  refine Zeu hE hm hn g2 (by omega) (Jy hBV) hav (fun h=>t ⟨hF,hz,fun _ g hg=>?_⟩) fun h=>f fun q=>h (hpar.2 (q.2.2 h0 _ hx).2)
  rw [hx] at hg
  cases hg
  exact ⟨fun k hk=>(hcl k hk).1 (hI k hk),hpar.1 h⟩
 generalize hN:d.1.members.toNat=n at *
 obtain ⟨N,rfl⟩:∃ N,n=N+1:=⟨n-1,by omega⟩
 have hmin:min (N+1) (N+1-1)=N+1-1:=by omega
 unfold Lz LA
 dsimp only
 rw [hmin]
 refine W.tells (Zet hl hAh hVh hvf) ?_
 unfold LB at hT
 rw [hBn,hLl,← hAe] at hT
 exact hT
def Yd (d:Dv) (D:List Dk):Prop:=∀ i:Nat,(i:Int)<d.1.members->∀ x,D[i]?=some x->x.2.2=true->(i:Int)=d.2.2.1.2.1∧d.2.2.1.2.2.1=false
def Cv (d:Dv) (D:List Dk):Prop:=ET d∧C3 d.1 D∧d.2.2.1.2.2.2.2.2.2=false∧Yd d D∧∀ s:Nat,(s:Int)<At d.1->J8 d D (s:Int)
noncomputable def TidF:Fn (Dv×List Dk×Unit):=bF (.g dvC (.v dkC.sl .nil)) (fun x=>∀ d ∈ x.2.1,BG d) fun x=>Cv x.1 x.2.1
theorem Zll (hE:EM P e) (h30:Con e 30 mayF.O) (h31:Con e 31 m20F.O) (h32:Inl e 32 KS [.tmp 2]) (h33:Con e 33 tdyF.O):OvOk P 8 TidF.O:=by
 refine Bv hE g8 ?_
 rintro ⟨d,D,_⟩ _ ⟨l,_,rfl,hd,v,_,rfl,⟨_,e0,hD⟩,rfl⟩ hG K t f
 cases e0
 dsimp only at hG hD t f
 have hvf:=hD.hf
 have hrow:=dvC.hf hd
 obtain ⟨cs,hs',hl',hn⟩:=hD.nth
 have hc1:=fun (Q:AV->St->Prop) s a b=>@bF.u _ _ _ _ e 30 s Q _ h30 (d,()) ⟨_,_,rfl,hd,rfl⟩ trivial a b
 have hc2:=fun (c:Cfg) (hc:c.ok) (hM:c.may) (Q:AV->St->Prop) s a b=>@bF.u _ _ _ _ e 31 s Q [.agg c.c,v] h31 (c,D,()) ⟨_,_,rfl,⟨rfl,hc⟩,_,_,rfl,⟨_,rfl,hD⟩,rfl⟩ ⟨hM,hG⟩ a b
 have hc3:=fun (i:Nat) (h0:Ab (i:Int)) (hok:HA d.1 D (i:Int)∧Cg d.1 d.2.2.2.1) (Q:AV->St->Prop) s a b=>@bF.u _ _ _ _ e 33 s Q [.agg l,v,.int .i64 (i:Int)] h33 (d,D,(i:Int),()) ⟨_,_,rfl,hd,_,_,rfl,⟨_,rfl,hD⟩,_,_,rfl,⟨rfl,Bf h0⟩,rfl⟩ hok a b
 unfold Cv at t f
 unfold Yd at t f
 have hmp:ET d->d.1.may∧Cg d.1 d.2.2.2.1:=fun h=>by
  obtain ⟨c,bk,⟨ev,lo,sp,po,dn,nl,br⟩,hs,⟨ag,sq,tl,us,L⟩,fs,nx,so⟩:=d
  unfold ET GM at h
  exact ⟨h.1.1,h.1.2.2.1⟩
 generalize ET d=A1 at *
 generalize hT:J8 d D=T at *
 obtain ⟨c,bk,⟨ev,lo,sp,po,dn,nl,br⟩,hs,⟨ag,sq,tl,us,L⟩,fs,nx,so⟩:=d
 obtain ⟨hv,lv,fv,rfl,⟨ho,o1,o2,o3,o4,o5,o6,o7,o8,oN⟩,hH,hL,hF⟩:=B1 hd
 dsimp only at t f hc1 hc2 hc3 hmp
 have hc2:=hc2 c ho
 rw [hT] at hc3
 generalize hA2:C3 c D=A2 at hc2 t f
 conv=>whnf
 repeat' (first|(refine hc1 _ _ (fun q1=>?_) (fun q1=>?_) <;> conv=>whnf)|(refine hc2 (hmp q1).1 _ _ (fun q2=>?_) (fun q2=>?_) <;> conv=>whnf)|((first|refine Au ?_|refine Av ?_);conv=>whnf)|(refine w19 rfl ?_ ?_ <;> intro hc <;> (try subst hc) <;> conv=>whnf)|fail)
 ·exact f (fun q=>nomatch q.2.2.1) _
 ·have hMS:=hmp q1
  have hM:=hMS.1
  have hM':=hM
  unfold Cfg.may at hM'
  have hms:=BC hM
  have hm2:C3 c D:=by rw [hA2];exact q2
  have hDl:=hm2.1
  have hsm:=DW (a:=c.chunk) (b:=c.rows) (by omega) (by omega)
  refine Aw hE c.members.toNat (fun i=>[(1,v),(2,.ptr 0 0),(5,.int .i64 (i:Int))]) (fun _=>[.row 33 (c.c++[.bool bk,.int .u32 ev,.int .i64 lo,.bool sp,.int .i64 po,.int .i64 dn,.bool nl,.bool false,hv,.int .u32 ag,.int .u32 sq,.int .i64 tl,.int .i64 us,lv,fv,.int .i64 nx,.bool so])]) (fun i=>∀ j<i,∀ x,D[j]?=some x->x.2.2=true->(j:Int)=lo∧sp=false) (fun k h=>by omega) (Abs.tells (rs:=[0]) .a) ?_
  intro i hi hI
  by_cases hlt:i<c.members.toNat
  ·obtain ⟨x,cl,r,hx,hxr,hd2⟩:=hn i (by omega)
   have hil:i<D.length:=by omega
   have hfx:(x.2.2=true->¬((i:Int)=lo∧sp=false))->x.2.2=true->∀ s,K (.bool false) s:=fun h h2=>f fun q=>h h2 (q.2.2.2.1 i (by omega) x hx h2)
   have htx:(x.2.2=true->(i:Int)=lo∧sp=false)->∀ j<i+1,∀ x,D[j]?=some x->x.2.2=true->(j:Int)=lo∧sp=false:=fun h=>AZ hI fun y e=>by rw [hx] at e;cases e;exact h
   obtain ⟨bs,ws,dd⟩:=x
   obtain ⟨bv,wv,rfl,-,-⟩:=GI hxr
   dsimp only at hfx htx
   clear f t hn hI
   cases dd
   ·conv=>whnf
    repeat' (first|((first|refine Ar hs' hil hd2 ?_|refine As ?_|refine Ac ?_|refine ⟨rfl,?_⟩);conv=>whnf)|refine Aa ?_ ?_|(intro _;first|omega|conv=>whnf))
    all_goals exact ⟨hlt,htx (fun h=>nomatch h),Abs.tells (rs:=[0]) .a⟩
   ·cases sp
    ·by_cases hil':(i:Int)=lo
     ·conv=>whnf
      repeat' (first|((first|refine Ar hs' hil hd2 ?_|refine As ?_|refine Ac ?_|refine ⟨rfl,?_⟩);conv=>whnf)|refine Aa ?_ ?_|refine Al ?_ ?_|(intro _;first|omega|conv=>whnf))
      all_goals exact ⟨hlt,htx (fun _=>⟨hil',rfl⟩),Abs.tells (rs:=[0]) .a⟩
     ·conv=>whnf
      repeat' (first|((first|refine Ar hs' hil hd2 ?_|refine As ?_);conv=>whnf)|refine Aa ?_ ?_|refine Al ?_ ?_|(intro _;first|omega|conv=>whnf))
      all_goals exact hfx (fun _ q=>hil' q.1) rfl _
    ·conv=>whnf
     repeat' (first|((first|refine Ar hs' hil hd2 ?_|refine As ?_);conv=>whnf)|refine Aa ?_ ?_|refine Al ?_ ?_|(intro _;first|omega|conv=>whnf))
     all_goals exact hfx (fun _ q=>nomatch q.2) rfl _
  ·have hI:∀ j:Nat,(j:Int)<c.members->∀ x,D[j]?=some x->x.2.2=true->(j:Int)=lo∧sp=false:=fun j hj=>hI j (by omega)
   conv=>whnf
   repeat' (first|refine Aa ?_ ?_|(intro _;first|omega|conv=>whnf))
   have hMS2:=hMS.2
   unfold At at hms t f
   refine Aw hE (c.chunk*c.rows).toNat (fun i=>[(1,v),(2,.ptr 0 0),(6,.int .i64 (i:Int))]) (fun _=>[.row 33 (c.c++[.bool bk,.int .u32 ev,.int .i64 lo,.bool sp,.int .i64 po,.int .i64 dn,.bool nl,.bool false,hv,.int .u32 ag,.int .u32 sq,.int .i64 tl,.int .i64 us,lv,fv,.int .i64 nx,.bool so])]) (fun i=>∀ j<i,T (j:Nat)) (fun k h=>by omega) (Abs.tells (rs:=[0]) .a) ?_
   intro i hi hJ
   by_cases hlt2:i<(c.chunk*c.rows).toNat
   ·have hc3:=hc3 i (by unfold Ab;omega) ⟨⟨hM,hm2,hG,by omega,by unfold At;omega⟩,hMS2⟩
    conv=>whnf
    repeat' (first|(refine hc3 _ _ (fun q3=>?_) (fun q3=>?_) <;> conv=>whnf)|((first|refine ESc.inl h32 ?_|refine Cs rfl rfl hsm ?_|refine Ac ?_|refine Au ?_|refine Av ?_|refine ⟨rfl,?_⟩);conv=>whnf)|refine Aa ?_ ?_|(intro _;first|omega|conv=>whnf))
    ·exact ⟨hlt2,AZ hJ q3,Abs.tells (rs:=[0]) .a⟩
    ·exact f (fun q=>q3 (q.2.2.2.2 i (by omega))) _
   ·conv=>whnf
    repeat' (first|((first|refine ESc.inl h32 ?_|refine Cs rfl rfl hsm ?_);conv=>whnf)|refine Aa ?_ ?_|(intro _;first|omega|conv=>whnf))
    exact t ⟨q1,q2,rfl,hI,fun s hs=>hJ s (by omega)⟩ _
 ·exact f (fun q=>q2 q.2.1) _
 ·exact f (fun q=>q1 q.1) _
noncomputable def pE (p:Prop):AV:=.int .i64 (open Classical in if p then 0 else 8)
variable {s:St}
theorem pE0 {p:Prop}(h:p):Frz s (.int .i64 0) (pE p):=by classical unfold pE;rw [Zpn h];exact .plain _ rfl
theorem pE8 {p:Prop}(h:¬p):Frz s (.int .i64 8) (pE p):=by classical unfold pE;rw [Zpr h];exact .plain _ rfl
noncomputable def cF {γ:Type}(S:Sg γ) (ok p:γ->Prop):Fn γ:=⟨S,ok,fun x=>pE (p x)⟩
theorem JG {γ:Type}{S:Sg γ}{ok p:γ->Prop}{f:Nat}{fn:Func}{code:AC}{res:List ARes}(hE:EM P e) (g:GK f fn (.mk code res)) (h:∀ x args,S.r x args->ok x->∀ K:AV->St->Prop,(p x->∀ s,K (.int .i64 0) s)->(¬p x->∀ s,K (.int .i64 8) s)->VW P e 0 code (An args 0 .lf) St0 none [] (Cq res K)):OvOk P f (cF S ok p).O:=
 B3 g.b fun x args h1 h2=>⟨rfl,C.of_G hE g (h x args h1 h2 _ (fun q _=>pE0 q) fun q _=>pE8 q)⟩
theorem cF.u {γ:Type}{S:Sg γ}{ok p:γ->Prop}{e:Env}{f:Nat}{s:St}{k:AV->St->Prop}{args:List AV}(hi:Con e f (cF S ok p).O) (x:γ) (h1:S.r x args) (h2:ok x) (ht:p x->k (.int .i64 0) s) (hf:¬p x->k (.int .i64 8) s):ESc e f args s k:=by
 classical
 refine Fn.u hi x h1 h2 ?_
 show k (pE (p x)) s
 unfold pE
 by_cases h:p x
 ·rw [Zpn h];exact ht h
 ·rw [Zpr h];exact hf h
def Sg.p {α γ:Type}(A:Ce α) (S:Sg γ):Sg (α×γ):=⟨fun x l=>∃ c b,l=.fp c::b∧A.r x.1 c∧S.r x.2 b,by
 rintro _ _ ⟨v,b,rfl,h,h'⟩
 show (true && hfs b)=true
 rw [S.hf h'];rfl,by
 rintro ⟨x,x'⟩ ⟨y,y'⟩ _ ⟨a,b,rfl,h1,h2⟩ ⟨c,d,e,h3,h4⟩
 cases e
 have e1:=A.inj h1 h3
 have e2:=S.inj h2 h4
 dsimp only at e1 e2
 rw [e1,e2]⟩
def Sg.f {κ γ:Type}(g:Nat) (C:Sg κ) (S:Sg γ):Sg (κ×γ):=⟨fun x l=>∃ q b,l=.fn g [] q::b∧C.r x.1 q∧S.r x.2 b,by
 rintro _ _ ⟨v,b,rfl,h,h'⟩
 show ((true && hfs v) && hfs b)=true
 rw [S.hf h',C.hf h];rfl,by
 rintro ⟨x,x'⟩ ⟨y,y'⟩ _ ⟨a,b,rfl,h1,h2⟩ ⟨c,d,e,h3,h4⟩
 cases e
 have e1:=C.inj h1 h3
 have e2:=S.inj h2 h4
 dsimp only at e1 e2
 rw [e1,e2]⟩
open Classical in
noncomputable def CA {α:Type}(p:α->Prop) (l:List α):Int:=match l.findIdx? (fun x=>decide (p x)) with|some i=>i|none=>-1
theorem KC {α:Type}{p:α->Prop}:∀ {l:List α}{i:Nat}{x:α},l[i]?=some x->p x->(∀ j<i,∀ y,l[j]?=some y->¬p y)->CA p l=i:=by
 classical
 intro l i x hx hp hn
 have:l.findIdx? (fun x=>decide (p x))=some i:=by
  rw [List.findIdx?_eq_some_iff_getElem]
  obtain ⟨h,e⟩:=Zpk.1 hx
  refine ⟨h,by rw [e];exact Zpo hp,fun j hj=>?_⟩
  have:=hn j hj _ (Zpj (Nat.lt_trans hj h))
  simpa using this
 unfold CA;rw [this]
theorem KB {α:Type}{p:α->Prop}{l:List α}(hn:∀ j<l.length,∀ y,l[j]?=some y->¬p y):CA p l=-1:=by
 classical
 have:l.findIdx? (fun x=>decide (p x))=none:=by
  rw [List.findIdx?_eq_none_iff]
  intro x hx
  have:=XL (p:=fun x=>¬p x) hn x hx
  simpa using this
 unfold CA;rw [this]
theorem Zi0 {α:Type}(p:α->Prop) (l:List α):-1≤CA p l∧CA p l<l.length:=by
 classical
 unfold CA
 split
 ·rename_i i h
  have:=(List.findIdx?_eq_some_iff_getElem.1 h).1
  omega
 ·omega
theorem idxI_iff {α:Type}{p:α->Prop}{l:List α}:0≤CA p l↔∃ x ∈ l,p x:=by
 classical
 unfold CA
 split
 ·rename_i i h
  obtain ⟨h1,h2,-⟩:=List.findIdx?_eq_some_iff_getElem.1 h
  exact ⟨fun _=>⟨_,Zqk h1,Zq0 h2⟩,fun _=>by omega⟩
 ·rename_i h
  rw [List.findIdx?_eq_none_iff] at h
  refine ⟨fun h=>by omega,fun ⟨x,hx,hp⟩=>?_⟩
  have:=h x hx
  simp [hp] at this
noncomputable def CF {α κ:Type}(A:Ce α) (g:Nat) (C:Sg κ) (ok:κ->List α->Prop) (p:κ->α->Prop):Fn (List α×κ×Unit):=⟨.v A.sl (.f g C .nil),fun x=>ok x.2.1 x.1,fun x=>.int .i64 (CA (p x.2.1) x.1)⟩
def Fj {α κ:Type}(e:Env) (A:Ce α) (arg:List AV->AV) (g:Nat) (C:Sg κ) (ok:κ->List α->Prop) (p:κ->α->Prop):Prop:=∀ c q xs x l,C.r c q->ok c xs->x ∈ xs->A.r x l->∀ (Q:AV->St->Prop),(p c x->∀ s,Q (.bool true) s)->(¬p c x->∀ s,Q (.bool false) s)->ECall e g (arg l::q) (Aj St0 []) Q
def CapR (s:St) (p q:AV):Prop:=∃ r e cs,p=.ptr r 0∧q=.fp cs∧s.get r=some (.row e cs)∧hfs cs=true
theorem CapR.frz {p q:AV}(h:CapR s p q):Frz s p q:=by
 obtain ⟨r,e,cs,rfl,rfl,h1,h2⟩:=h
 refine .ptr r 0 e cs cs cs h1 (fun i x h=>by rw [Zpy];exact h) (Ck h2)
theorem CapR.inj {s:St}:∀ {ps qs qs':List AV},All2 (CapR s) ps qs->All2 (CapR s) ps qs'->qs=qs'
 | _,_,_,.nil,.nil=>rfl
 | _,_,_,.cons h a,.cons h' b=>by
  obtain ⟨r,e,cs,rfl,rfl,h1,-⟩:=h
  obtain ⟨r',e',cs',e0,rfl,h2,-⟩:=h'
  injection e0 with e0
  subst e0
  rw [h1] at h2
  injection h2 with h2
  injection h2 with _ h2
  rw [h2,CapR.inj a b]
def CC (R:List AV->AV->Prop) (args:List AV) (s:St) (u:AV) (s':St):Prop:=s'=s∧∃ v g ps qs,args=[v,.fn g [] ps]∧All2 (CapR s) ps qs∧AM.hf v=true∧sc u=true∧R [v,.fn g [] qs] u
theorem ME {f:Nat}{R:List AV->AV->Prop}(hb:Ga P f) (h:∀ args u,R args u->hfs args=true∧C P f args St0 (fun v s'=>Frz s' v u)):OvOk P f (relS (CC R)):=by
 refine Jv hb ?_
 rintro args s u s' ⟨rfl,v,g,ps,qs,rfl,hc,hv,hs,hR⟩
 obtain ⟨h1,h2⟩:=h _ _ hR
 exact IE (args2:=[v,.fn g [] qs]) (.cons (.plain _ hv) (.cons (.fn g [] ps [] qs .nil (hc.imp fun _ _=>CapR.frz)) .nil)) hs (Ju h1 h2)
theorem I5 {γ:Type}{F:Fn γ}{e:Env}{f:Nat}{s:St}{k:AV->St->Prop}(hi:Con e f (AM.relS (CC F.R))) {v:AV}{g:Nat}{ps qs:List AV}(x:γ) (hx:F.S.r x [v,.fn g [] qs]) (ho:F.ok x) (hc:All2 (CapR s) ps qs) (hs:sc (F.out x)=true) (hk:k (F.out x) s):ESc e f [v,.fn g [] ps] s k:=by
 have hv:AM.hf v=true:=by
  have:=F.S.hf hx
  simp [hfs] at this
  exact this.1
 refine ESc.relS hi ⟨rfl,v,g,ps,qs,rfl,hc,hv,hs,x,hx,ho,rfl⟩ ?_
 rintro u s' ⟨rfl,v',g',ps',qs',e1,hc',-,-,y,hy,-,rfl⟩
 injection e1 with e1 e2
 injection e2 with e2
 injection e2 with e2 _ e3
 subst e1 e2 e3
 rw [CapR.inj hc' hc] at hy
 rw [F.S.inj hy hx];exact hk
variable {i:Nat}
theorem Ls.take {α:Type}{A:Ce α}{xs:List α}{c:Option Nat}(h:Ls A xs (.fz xs.length c l)) (hi:i≤xs.length) (c':Option Nat):Ls A (xs.take i) (.fz i c' (l.take (i*A.k))):=by
 obtain ⟨ls,a,s,hn⟩:=h
 have e:ls.flatten=l:=by
  rcases s with ⟨h,_⟩|⟨h,_⟩|⟨c,h,_⟩
  ·cases h
  ·cases h
  ·cases h;rfl
 have ht:=a.take i
 have hf:=FW ht
 rw [Zp9,Nat.min_eq_left hi] at hf
 have e2:(ls.take i).flatten=l.take (i*A.k):=by
  rw [← e]
  conv=>rhs;rw [← List.take_append_drop i ls,List.flatten_append]
  rw [← hf,List.take_left]
 refine ⟨ls.take i,ht,?_,by rw [Zp9];omega⟩
 rw [Zp9,Nat.min_eq_left hi,e2]
 exact .inr (.inr ⟨c',rfl,by rw [← e2];exact hf⟩)
theorem Ee {α:Type}{A:Ce α}(h:v=.nils∨v=.es):Ls A [] v:=⟨[],.nil,h.elim (fun h=>.inl ⟨h,rfl,rfl⟩) fun h=>.inr (.inl ⟨h,rfl,rfl⟩),by simp⟩
variable {t:AT}{k:AV->St->Prop}{x:AO}{es:Nat}
theorem NU {α:Type}{A:Ce α}{y:AO}{xs:List α}{q:IntKind}(hx:ev x t=.some v) (hL:Ls A xs v) (he:es=A.k) (hy:ev y t=.some (.int q (i:Int))) (hi:i≤xs.length) (hk:∀ u,Ls A (xs.take i) u->k u s):EPrim (.slc es x none (some y) none) t s k:=by
 subst he
 have hh:∀ d,C8 t (some y) d=.n i:=fun d=>by
  show HI (ev y t)=_
  rw [hy];rfl
 obtain ⟨ls,a,sl,hn⟩:=id hL
 rcases sl with ⟨rfl,h0,_⟩|⟨rfl,h0,_⟩|⟨c,rfl,hl⟩
 ·obtain rfl:i=0:=by omega
  refine EPrim.mk (v:=.nils) (s':=s) (fun e rec=>?_) (hk _ (Ee (.inl rfl)))
  show wth x t _=_;unfold wth;rw [hx]
  show (NR.rec .fail (fun h=>NR.rec .fail (fun m=>gd (Nat.beq (0+h+m) 0) (.ok .nils s)) (NR.n 0)) (C8 t (some y) 0):RV)=_
  rw [hh];rfl
 ·obtain rfl:i=0:=by omega
  refine EPrim.mk (v:=.es) (s':=s) (fun e rec=>?_) (hk _ (Ee (.inr rfl)))
  show wth x t _=_;unfold wth;rw [hx]
  show (NR.rec .fail (fun h=>NR.rec .fail (fun m=>gd (Nat.beq (0+h+m) 0) (.ok .es s)) (NR.n 0)) (C8 t (some y) 0):RV)=_
  rw [hh];rfl
 ·by_cases h0:0<xs.length
  ·refine EPrim.mk (v:=.fz i (Option.rec none (fun c=>some (c-0)) c) (ls.flatten.take (i*A.k))) (s':=s) (fun e rec=>?_) (hk _ (hL.take hi _))
   show wth x t _=_;unfold wth;rw [hx]
   show (NR.rec .fail (fun h=>Nh A.k xs.length c ls.flatten 0 h s) (C8 t (some y) xs.length):RV)=_
   rw [hh]
   show gd (Nat.ble 0 i && Nat.ble i xs.length) (Bool.rec (.ok .es s) (Option.rec .fail (fun cs'=>.ok (.fz (i-0) (Option.rec none (fun c=>some (c-0)) c) cs') s) (Bo (Nat.mul (i-0) A.k) (D0 (Nat.mul 0 A.k) ls.flatten))) (Nat.blt 0 xs.length))=_
   rw [Zqa (Zp2 i),Zqa hi,show Nat.blt 0 xs.length=true by simpa using h0,show Nat.mul 0 A.k=0 from Nat.zero_mul _]
   show (Option.rec .fail (fun cs'=>.ok (.fz i (Option.rec none (fun c=>some (c-0)) c) cs') s) (Bo (i*A.k) ls.flatten):RV)=_
   rw [Fz (by rw [hl];exact Nat.mul_le_mul_right _ hi)]
  ·obtain rfl:i=0:=by omega
   have hx0:xs.length=0:=by omega
   refine EPrim.mk (v:=.es) (s':=s) (fun e rec=>?_) (hk _ (Ee (.inr rfl)))
   show wth x t _=_;unfold wth;rw [hx]
   show (NR.rec .fail (fun h=>Nh A.k xs.length c ls.flatten 0 h s) (C8 t (some y) xs.length):RV)=_
   rw [hh,hx0];rfl
theorem QW {a b:List AV}(h:a.length=n):Bo n (a++b)=some a:=by
 rw [Fz (by rw [Zpx];omega),← h,List.take_left]
variable {g:Nat}
theorem Ro {κ:Type}(hE:EM P e) {H:Sg κ}{ok:κ->List (Hd)->Prop}{p:κ->(Hd)->Prop}(hc:Fj e (hdC) (AV.agg) g H ok p):OvOk P 110 (relS (CC (CF (hdC) g H ok p).R)):=by
 refine ME g110.b ?_
 rintro args u ⟨⟨xs,c,_⟩,⟨v,_,rfl,⟨_,e0,hL⟩,q,_,rfl,hC,rfl⟩,hok,rfl⟩
 cases e0
 dsimp only at hL
 have hvf:=hL.hf
 have hqf:AM.hf (.fn g [] q)=true:=by
  show (true && hfs q)=true
  rw [H.hf hC];rfl
 obtain ⟨cs,hs,hl,hn⟩:=hL.nth
 refine ⟨by show (AM.hf v && (AM.hf (.fn g [] q) && true))=true;rw [hvf,hqf];rfl,C.of_G hE g110 ?_⟩
 have fin:∀ st a,CA (p c) xs=a->Frz st (.int .i64 a) ((CF (hdC) g H ok p).out (xs,c,())):=by
  rintro st a rfl;exact .plain _ rfl
 dsimp only at hC hok
 generalize (CF (hdC) g H ok p).out (xs,c,())=O at fin ⊢
 conv=>whnf
 refine Am hs ?_;conv=>whnf
 refine Aw hE xs.length (fun i=>[(0,v),(1,.fn g [] q),(7,.int .i64 (xs.length:Int)),(8,.int .i64 (i:Int))]) (fun _=>[]) (fun i=>∀ j<i,∀ y,xs[j]?=some y->¬p c y) (fun k h=>by omega) (Abs.tells (rs:=[]) ⟨by decide,⟨t9,t9 hqf,r9,r9,trivial⟩,trivial⟩) ?_
 intro i hi hI
 by_cases hlt:i<xs.length
 ·obtain ⟨x,l,r,hx,hxr,hd⟩:=hn i hlt
  have hcall:=hc c q xs x l hC hok (Zp5 hx) hxr
  have hyes:=fun h=>KC hx h hI
  have hno:=fun h=>AZ hI (fun y e=>(by rw [hx] at e;cases e;exact h:¬p c y))
  have hlen:l.length=6:=(hdC).len hxr
  skip
  conv=>whnf
  repeat' (first|(refine hcall _ (fun h st=>?_) (fun h st=>?_) <;> conv=>whnf)|((first|refine Ar hs hlt hd ?_|refine A8 (QW hlen) ?_|refine Ac ?_|refine ⟨rfl,?_⟩);conv=>whnf)|refine Aa ?_ ?_|(intro _;first|omega|conv=>whnf))
  ·exact fin _ _ (hyes h)
  ·exact ⟨hlt,hno h,Abs.tells (rs:=[]) ⟨by decide,⟨t9,t9 hqf,r9,r9,trivial⟩,trivial⟩⟩
 ·conv=>whnf
  repeat' (first|refine Aa ?_ ?_|(intro _;first|omega|conv=>whnf))
  exact fin _ _ (KB fun j hj=>hI j (by omega))
theorem Ws {κ:Type}(hE:EM P e) {H:Sg κ}{ok:κ->List (Fl)->Prop}{p:κ->(Fl)->Prop}(hc:Fj e (ftC) (AV.agg) g H ok p):OvOk P 154 (relS (CC (CF (ftC) g H ok p).R)):=by
 refine ME g154.b ?_
 rintro args u ⟨⟨xs,c,_⟩,⟨v,_,rfl,⟨_,e0,hL⟩,q,_,rfl,hC,rfl⟩,hok,rfl⟩
 cases e0
 dsimp only at hL
 have hvf:=hL.hf
 have hqf:AM.hf (.fn g [] q)=true:=by
  show (true && hfs q)=true
  rw [H.hf hC];rfl
 obtain ⟨cs,hs,hl,hn⟩:=hL.nth
 refine ⟨by show (AM.hf v && (AM.hf (.fn g [] q) && true))=true;rw [hvf,hqf];rfl,C.of_G hE g154 ?_⟩
 have fin:∀ st a,CA (p c) xs=a->Frz st (.int .i64 a) ((CF (ftC) g H ok p).out (xs,c,())):=by
  rintro st a rfl;exact .plain _ rfl
 dsimp only at hC hok
 generalize (CF (ftC) g H ok p).out (xs,c,())=O at fin ⊢
 conv=>whnf
 refine Am hs ?_;conv=>whnf
 refine Aw hE xs.length (fun i=>[(0,v),(1,.fn g [] q),(7,.int .i64 (xs.length:Int)),(8,.int .i64 (i:Int))]) (fun _=>[]) (fun i=>∀ j<i,∀ y,xs[j]?=some y->¬p c y) (fun k h=>by omega) (Abs.tells (rs:=[]) ⟨by decide,⟨t9,t9 hqf,r9,r9,trivial⟩,trivial⟩) ?_
 intro i hi hI
 by_cases hlt:i<xs.length
 ·obtain ⟨x,l,r,hx,hxr,hd⟩:=hn i hlt
  have hcall:=hc c q xs x l hC hok (Zp5 hx) hxr
  have hyes:=fun h=>KC hx h hI
  have hno:=fun h=>AZ hI (fun y e=>(by rw [hx] at e;cases e;exact h:¬p c y))
  have hlen:l.length=8:=(ftC).len hxr
  skip
  conv=>whnf
  repeat' (first|(refine hcall _ (fun h st=>?_) (fun h st=>?_) <;> conv=>whnf)|((first|refine Ar hs hlt hd ?_|refine A8 (QW hlen) ?_|refine Ac ?_|refine ⟨rfl,?_⟩);conv=>whnf)|refine Aa ?_ ?_|(intro _;first|omega|conv=>whnf))
  ·exact fin _ _ (hyes h)
  ·exact ⟨hlt,hno h,Abs.tells (rs:=[]) ⟨by decide,⟨t9,t9 hqf,r9,r9,trivial⟩,trivial⟩⟩
 ·conv=>whnf
  repeat' (first|refine Aa ?_ ?_|(intro _;first|omega|conv=>whnf))
  exact fin _ _ (KB fun j hj=>hI j (by omega))
theorem Zft {κ:Type}(hE:EM P e) {H:Sg κ}{ok:κ->List (Nat)->Prop}{p:κ->(Nat)->Prop}(hc:Fj e (Ce.u8) (one) g H ok p):OvOk P 191 (relS (CC (CF (Ce.u8) g H ok p).R)):=by
 refine ME g191.b ?_
 rintro args u ⟨⟨xs,c,_⟩,⟨v,_,rfl,⟨_,e0,hL⟩,q,_,rfl,hC,rfl⟩,hok,rfl⟩
 cases e0
 dsimp only at hL
 have hvf:=hL.hf
 have hqf:AM.hf (.fn g [] q)=true:=by
  show (true && hfs q)=true
  rw [H.hf hC];rfl
 obtain ⟨cs,hs,hl,hn⟩:=hL.nth
 refine ⟨by show (AM.hf v && (AM.hf (.fn g [] q) && true))=true;rw [hvf,hqf];rfl,C.of_G hE g191 ?_⟩
 have fin:∀ st a,CA (p c) xs=a->Frz st (.int .i64 a) ((CF (Ce.u8) g H ok p).out (xs,c,())):=by
  rintro st a rfl;exact .plain _ rfl
 dsimp only at hC hok
 generalize (CF (Ce.u8) g H ok p).out (xs,c,())=O at fin ⊢
 conv=>whnf
 refine Am hs ?_;conv=>whnf
 refine Aw hE xs.length (fun i=>[(0,v),(1,.fn g [] q),(7,.int .i64 (xs.length:Int)),(8,.int .i64 (i:Int))]) (fun _=>[]) (fun i=>∀ j<i,∀ y,xs[j]?=some y->¬p c y) (fun k h=>by omega) (Abs.tells (rs:=[]) ⟨by decide,⟨t9,t9 hqf,r9,r9,trivial⟩,trivial⟩) ?_
 intro i hi hI
 by_cases hlt:i<xs.length
 ·obtain ⟨x,l,r,hx,hxr,hd⟩:=hn i hlt
  have hcall:=hc c q xs x l hC hok (Zp5 hx) hxr
  have hyes:=fun h=>KC hx h hI
  have hno:=fun h=>AZ hI (fun y e=>(by rw [hx] at e;cases e;exact h:¬p c y))
  have hlen:l.length=1:=(Ce.u8).len hxr
  (obtain ⟨rfl,hx8⟩:=hxr)
  conv=>whnf
  repeat' (first|(refine hcall _ (fun h st=>?_) (fun h st=>?_) <;> conv=>whnf)|((first|refine Ar hs hlt hd ?_|refine As ?_|refine Ac ?_|refine ⟨rfl,?_⟩);conv=>whnf)|refine Aa ?_ ?_|(intro _;first|omega|conv=>whnf))
  ·exact fin _ _ (hyes h)
  ·exact ⟨hlt,hno h,Abs.tells (rs:=[]) ⟨by decide,⟨t9,t9 hqf,r9,r9,trivial⟩,trivial⟩⟩
 ·conv=>whnf
  repeat' (first|refine Aa ?_ ?_|(intro _;first|omega|conv=>whnf))
  exact fin _ _ (KB fun j hj=>hI j (by omega))
theorem Zfv {κ:Type}(hE:EM P e) {H:Sg κ}{ok:κ->List (List Nat)->Prop}{p:κ->(List Nat)->Prop}(hc:Fj e (bytC) (one) g H ok p):OvOk P 142 (relS (CC (CF (bytC) g H ok p).R)):=by
 refine ME g142.b ?_
 rintro args u ⟨⟨xs,c,_⟩,⟨v,_,rfl,⟨_,e0,hL⟩,q,_,rfl,hC,rfl⟩,hok,rfl⟩
 cases e0
 dsimp only at hL
 have hvf:=hL.hf
 have hqf:AM.hf (.fn g [] q)=true:=by
  show (true && hfs q)=true
  rw [H.hf hC];rfl
 obtain ⟨cs,hs,hl,hn⟩:=hL.nth
 refine ⟨by show (AM.hf v && (AM.hf (.fn g [] q) && true))=true;rw [hvf,hqf];rfl,C.of_G hE g142 ?_⟩
 have fin:∀ st a,CA (p c) xs=a->Frz st (.int .i64 a) ((CF (bytC) g H ok p).out (xs,c,())):=by
  rintro st a rfl;exact .plain _ rfl
 dsimp only at hC hok
 generalize (CF (bytC) g H ok p).out (xs,c,())=O at fin ⊢
 conv=>whnf
 refine Am hs ?_;conv=>whnf
 refine Aw hE xs.length (fun i=>[(0,v),(1,.fn g [] q),(7,.int .i64 (xs.length:Int)),(8,.int .i64 (i:Int))]) (fun _=>[]) (fun i=>∀ j<i,∀ y,xs[j]?=some y->¬p c y) (fun k h=>by omega) (Abs.tells (rs:=[]) ⟨by decide,⟨t9,t9 hqf,r9,r9,trivial⟩,trivial⟩) ?_
 intro i hi hI
 by_cases hlt:i<xs.length
 ·obtain ⟨x,l,r,hx,hxr,hd⟩:=hn i hlt
  have hcall:=hc c q xs x l hC hok (Zp5 hx) hxr
  have hyes:=fun h=>KC hx h hI
  have hno:=fun h=>AZ hI (fun y e=>(by rw [hx] at e;cases e;exact h:¬p c y))
  have hlen:l.length=1:=(bytC).len hxr
  (obtain ⟨u,rfl,hu⟩:=hxr)
  conv=>whnf
  repeat' (first|(refine hcall _ (fun h st=>?_) (fun h st=>?_) <;> conv=>whnf)|((first|refine Ar hs hlt hd ?_|refine As ?_|refine Ac ?_|refine ⟨rfl,?_⟩);conv=>whnf)|refine Aa ?_ ?_|(intro _;first|omega|conv=>whnf))
  ·exact fin _ _ (hyes h)
  ·exact ⟨hlt,hno h,Abs.tells (rs:=[]) ⟨by decide,⟨t9,t9 hqf,r9,r9,trivial⟩,trivial⟩⟩
 ·conv=>whnf
  repeat' (first|refine Aa ?_ ?_|(intro _;first|omega|conv=>whnf))
  exact fin _ _ (KB fun j hj=>hI j (by omega))
theorem Zfu {κ:Type}(hE:EM P e) {H:Sg κ}{ok:κ->List (Dk)->Prop}{p:κ->(Dk)->Prop}(hc:Fj e (dkC) (AV.agg) g H ok p):OvOk P 182 (relS (CC (CF (dkC) g H ok p).R)):=by
 refine ME g182.b ?_
 rintro args u ⟨⟨xs,c,_⟩,⟨v,_,rfl,⟨_,e0,hL⟩,q,_,rfl,hC,rfl⟩,hok,rfl⟩
 cases e0
 dsimp only at hL
 have hvf:=hL.hf
 have hqf:AM.hf (.fn g [] q)=true:=by
  show (true && hfs q)=true
  rw [H.hf hC];rfl
 obtain ⟨cs,hs,hl,hn⟩:=hL.nth
 refine ⟨by show (AM.hf v && (AM.hf (.fn g [] q) && true))=true;rw [hvf,hqf];rfl,C.of_G hE g182 ?_⟩
 have fin:∀ st a,CA (p c) xs=a->Frz st (.int .i64 a) ((CF (dkC) g H ok p).out (xs,c,())):=by
  rintro st a rfl;exact .plain _ rfl
 dsimp only at hC hok
 generalize (CF (dkC) g H ok p).out (xs,c,())=O at fin ⊢
 conv=>whnf
 refine Am hs ?_;conv=>whnf
 refine Aw hE xs.length (fun i=>[(0,v),(1,.fn g [] q),(7,.int .i64 (xs.length:Int)),(8,.int .i64 (i:Int))]) (fun _=>[]) (fun i=>∀ j<i,∀ y,xs[j]?=some y->¬p c y) (fun k h=>by omega) (Abs.tells (rs:=[]) ⟨by decide,⟨t9,t9 hqf,r9,r9,trivial⟩,trivial⟩) ?_
 intro i hi hI
 by_cases hlt:i<xs.length
 ·obtain ⟨x,l,r,hx,hxr,hd⟩:=hn i hlt
  have hcall:=hc c q xs x l hC hok (Zp5 hx) hxr
  have hyes:=fun h=>KC hx h hI
  have hno:=fun h=>AZ hI (fun y e=>(by rw [hx] at e;cases e;exact h:¬p c y))
  have hlen:l.length=3:=(dkC).len hxr
  skip
  conv=>whnf
  repeat' (first|(refine hcall _ (fun h st=>?_) (fun h st=>?_) <;> conv=>whnf)|((first|refine Ar hs hlt hd ?_|refine A8 (QW hlen) ?_|refine Ac ?_|refine ⟨rfl,?_⟩);conv=>whnf)|refine Aa ?_ ?_|(intro _;first|omega|conv=>whnf))
  ·exact fin _ _ (hyes h)
  ·exact ⟨hlt,hno h,Abs.tells (rs:=[]) ⟨by decide,⟨t9,t9 hqf,r9,r9,trivial⟩,trivial⟩⟩
 ·conv=>whnf
  repeat' (first|refine Aa ?_ ?_|(intro _;first|omega|conv=>whnf))
  exact fin _ _ (KB fun j hj=>hI j (by omega))
def Zm:AC:=match NA with|.mk c _=>c
variable {ps:List AV}
theorem Zoy (h:Inl e 91 Zm [.tmp 4]) {α:Type}{p:α->Prop}{xs:List α}(hc:∀ Q:AV->St->Prop,Q (.int .i64 (CA p xs)) s->ESc e 142 [v,.fn g [] ps] s Q) (y:(∃ x ∈ xs,p x)->k (.bool true) s) (n:(¬∃ x ∈ xs,p x)->k (.bool false) s):ESc e 91 [v,.fn g [] ps] s k:=by
 refine ESc.inl h ?_;conv=>whnf
 refine hc _ ?_;conv=>whnf
 refine DV rfl rfl (fun h=>?_) (fun h=>?_) <;> conv=>whnf
 ·exact y (idxI_iff.1 h)
 ·exact n (fun q=>by have:=idxI_iff.2 q;omega)
def YA:AC:=match Qo with|.mk c _=>c
theorem Znl (h:Inl e 151 YA [.tmp 4]) {α:Type}{p:α->Prop}{xs:List α}(hc:∀ Q:AV->St->Prop,Q (.int .i64 (CA p xs)) s->ESc e 191 [v,.fn g [] ps] s Q) (y:(∃ x ∈ xs,p x)->k (.bool true) s) (n:(¬∃ x ∈ xs,p x)->k (.bool false) s):ESc e 151 [v,.fn g [] ps] s k:=by
 refine ESc.inl h ?_;conv=>whnf
 refine hc _ ?_;conv=>whnf
 refine DV rfl rfl (fun h=>?_) (fun h=>?_) <;> conv=>whnf
 ·exact y (idxI_iff.1 h)
 ·exact n (fun q=>by have:=idxI_iff.2 q;omega)
def Tc:AC:=match Q4 with|.mk c _=>c
theorem XZ (h:Inl e 107 Tc [.tmp 4]) {α:Type}{p:α->Prop}{xs:List α}(hc:∀ Q:AV->St->Prop,Q (.int .i64 (CA p xs)) s->ESc e 154 [v,.fn g [] ps] s Q) (y:(∃ x ∈ xs,p x)->k (.bool true) s) (n:(¬∃ x ∈ xs,p x)->k (.bool false) s):ESc e 107 [v,.fn g [] ps] s k:=by
 refine ESc.inl h ?_;conv=>whnf
 refine hc _ ?_;conv=>whnf
 refine DV rfl rfl (fun h=>?_) (fun h=>?_) <;> conv=>whnf
 ·exact y (idxI_iff.1 h)
 ·exact n (fun q=>by have:=idxI_iff.2 q;omega)
def T5:AC:=match a55 with|.mk c _=>c
theorem Y9 (h:Inl e 55 T5 [.tmp 4]) {α:Type}{p:α->Prop}{xs:List α}(hc:∀ Q:AV->St->Prop,Q (.int .i64 (CA p xs)) s->ESc e 110 [v,.fn g [] ps] s Q) (y:(∃ x ∈ xs,p x)->k (.bool true) s) (n:(¬∃ x ∈ xs,p x)->k (.bool false) s):ESc e 55 [v,.fn g [] ps] s k:=by
 refine ESc.inl h ?_;conv=>whnf
 refine hc _ ?_;conv=>whnf
 refine DV rfl rfl (fun h=>?_) (fun h=>?_) <;> conv=>whnf
 ·exact y (idxI_iff.1 h)
 ·exact n (fun q=>by have:=idxI_iff.2 q;omega)
def YB:AC:=match Qt with|.mk c _=>c
theorem Znm (h:Inl e 139 YB [.tmp 4]) {α:Type}{p:α->Prop}{xs:List α}(hc:∀ Q:AV->St->Prop,Q (.int .i64 (CA p xs)) s->ESc e 182 [v,.fn g [] ps] s Q) (y:(∃ x ∈ xs,p x)->k (.bool true) s) (n:(¬∃ x ∈ xs,p x)->k (.bool false) s):ESc e 139 [v,.fn g [] ps] s k:=by
 refine ESc.inl h ?_;conv=>whnf
 refine hc _ ?_;conv=>whnf
 refine DV rfl rfl (fun h=>?_) (fun h=>?_) <;> conv=>whnf
 ·exact y (idxI_iff.1 h)
 ·exact n (fun q=>by have:=idxI_iff.2 q;omega)
variable {c:Cfg}
theorem IF (h:Con e 40 stripesF.O) (hc:c.ok) (hM:c.may) (Q:AV->St->Prop) (s:St) (k:Q (.tup [.int .i64 (c.chunk*c.rows),.int .i64 0]) s):ESc e 40 [.agg c.c] s Q:=
 ESc.fam (e:=e) (k:=Q) (s:=s) stripesF h c hc (by unfold stripesF;dsimp only;rw [Zpn hM,Zpn hM]) k
theorem Yh (h:Con e 40 stripesF.O) (hc:c.ok) (hM:¬c.may) (Q:AV->St->Prop) (s:St) (k:Q (.tup [.int .i64 0,.int .i64 8]) s):ESc e 40 [.agg c.c] s Q:=
 ESc.fam (e:=e) (k:=Q) (s:=s) stripesF h c hc (by unfold stripesF;dsimp only;rw [Zpr hM,Zpr hM]) k
theorem Td (h:Con e 103 cfgF.O) (hc:c.ok) (hM:c.may) (Q:AV->St->Prop) (s:St) (k:Q (.int .i64 0) s):ESc e 103 [.agg c.c] s Q:=
 ESc.fam (e:=e) (k:=Q) (s:=s) cfgF h c hc (by unfold cfgF;dsimp only;rw [Zpn hM]) k
theorem Te (h:Con e 103 cfgF.O) (hc:c.ok) (hM:¬c.may) (Q:AV->St->Prop) (s:St) (k:Q (.int .i64 8) s):ESc e 103 [.agg c.c] s Q:=
 ESc.fam (e:=e) (k:=Q) (s:=s) cfgF h c hc (by unfold cfgF;dsimp only;rw [Zpr hM]) k
noncomputable def lossF:Fn (Cfg×Lo×Unit):=cF (.g cfgC (.g loC .nil)) (fun _=>True) fun x=>x.1.may∧Br x.1 x.2.1
theorem Zfm (hE:EM P e) (h40:Con e 40 stripesF.O):OvOk P 39 lossF.O:=by
 refine JG hE g39 ?_
 rintro ⟨c,⟨ev,lo,sp,po,dn,nl,br⟩,_⟩ _ ⟨_,_,rfl,⟨rfl,hc⟩,_,_,rfl,ho,rfl⟩-K t f
 obtain ⟨rfl,h1,h2,h3,h4⟩:=GE ho
 dsimp only at t f hc
 by_cases hM:c.may
 ·have hs:=IF h40 hc hM
  replace t:=fun q=>t ⟨hM,q⟩
  replace f:=fun (q:¬Br c (ev,lo,sp,po,dn,nl,br))=>f fun q'=>q q'.2
  have hmm:=BC hM
  unfold Br At at t f
  unfold At at hmm
  unfold Ab Bn at *
  dsimp only at t f
  change VW P e 0 _ (An [.agg c.c,_] 0 .lf) St0 none [] _
  cases sp
  all_goals
   conv=>whnf
   repeat' (first|((first|refine hs _ _ ?_|refine Au ?_|refine Av ?_);conv=>whnf)|refine Aa ?_ ?_|refine Ax ?_ ?_|refine AR ?_ ?_|refine Ap ?_ ?_|refine Al ?_ ?_|(intro _;first|omega|conv=>whnf))
   all_goals first
    | exact f (by simp;omega) _
    | exact t (by simp;omega) _
 ·have hs:=Yh h40 hc hM
  conv=>whnf
  repeat' (first|(refine hs _ _ ?_;conv=>whnf)|refine Al ?_ ?_|(intro _;first|omega|conv=>whnf))
  exact f (fun q=>hM q.1) _
open Classical in
noncomputable def misF:Fn (Cfg×Lo×Int×Unit):=⟨.g cfgC (.g loC (.v i64C .nil)),fun x=>x.1.ok,fun x=>if x.1.may∧Br x.1 x.2.1 then (if 0≤x.2.2.1∧x.2.2.1<At x.1 then .tup [.int .i64 (CU x.2.1 x.2.2.1),.int .i64 0] else .tup [.int .i64 0,.int .i64 2]) else .tup [.int .i64 0,.int .i64 8]⟩
def Zkk:AC:=match Qg with|.mk c _=>c
theorem Zk2 (h184:Inl e 184 Zkk [.tmp 2]):Fj e bytC one 184 .nil (fun _ _=>True) (fun (_:Unit) b=>¬BM b):=by
 rintro c q xs b l rfl _ _ ⟨u,rfl,hu⟩ Q y n
 obtain ⟨us,hus,hl,-⟩:=hu.nth
 unfold BM at y n
 refine ECall.inl h184.O h184.G ?_;conv=>whnf
 repeat' (first|(refine Am hus ?_;conv=>whnf)|refine Al ?_ ?_|(intro _;first|omega|conv=>whnf))
 all_goals first
  | exact y (by omega) _
  | exact n (by omega) _
noncomputable def ix184:Fn (List (List Nat)×Unit×Unit):=CF bytC 184 .nil (fun _ _=>True) fun _ b=>¬BM b
noncomputable def hdcF:Fn (Cfg×Hd×Unit):=cF (.g cfgC (.g hdC .nil)) (fun _=>True) fun x=>x.1.may∧DT x.1 x.2.1
set_option maxHeartbeats 2000000 in
theorem Zi8 (hE:EM P e) (h40:Con e 40 stripesF.O) (h91:Inl e 91 Zm [.tmp 4]) (h142:Con e 142 (relS (CC ix184.R))):OvOk P 148 hdcF.O:=by
 refine JG hE g148 ?_
 rintro ⟨c,⟨st,bl,di,ph,de,sq⟩,_⟩ _ ⟨_,_,rfl,⟨rfl,hc⟩,_,_,rfl,hh,rfl⟩-K t f
 obtain ⟨bv,dv,rfl,h1,h2,h3,h4,h5⟩:=Cm hh
 obtain ⟨bs,hs,hl,hn⟩:=h2.nth
 obtain ⟨ds,hs',hl',hn'⟩:=h3.nth
 have hrow:=hdC.hf hh
 dsimp only at t f hc
 have hidx:=fun (Q:AV->St->Prop) s k=>@I5 _ ix184 e 142 s Q h142 bv 184 [] [] (bl,(),()) ⟨_,_,rfl,⟨_,rfl,h2⟩,_,_,rfl,rfl,rfl⟩ trivial .nil rfl k
 have hcn:=fun (Q:AV->St->Prop) s y n=>Zoy (k:=Q) (s:=s) h91 (p:=fun b=>¬BM b) (xs:=bl) (fun Q k=>hidx Q s k) y n
 change VW P e 0 _ (An [.agg c.c,_] 0 .lf) St0 none [] _
 by_cases hM:c.may
 ·have hst:=IF h40 hc hM
  replace t:=fun q=>t ⟨hM,q⟩
  replace f:=fun (q:¬DT c (st,bl,di,ph,de,sq))=>f fun q'=>q q'.2
  have hmm:=BC hM
  unfold DT At at t f
  unfold At at hmm
  unfold Cfg.may at hM
  unfold Ab Bn at *
  dsimp only at t f
  conv=>whnf
  repeat' (first|(refine hcn _ _ (fun qs=>?_) (fun qs=>?_) <;> conv=>whnf)|((first|refine hst _ _ ?_|refine Am hs ?_|refine AD rfl hs' ?_|refine AL ?_);conv=>whnf)|refine Aa ?_ ?_|refine Ax ?_ ?_|refine AR ?_ ?_|refine Al ?_ ?_|(intro _;first|omega|conv=>whnf))
  all_goals try exact f (fun q=>by omega) _
  ·exact f (fun q=>by obtain ⟨b,hb,hn⟩:=qs;obtain ⟨k,hk⟩:=Zra hb;exact hn (q.2.2.2.2.1 k (Zpk.1 hk).1 b hk).1) _
  have hsz:∀ k b,bl[k]?=some b->BM b:=fun k b hk=>Classical.byContradiction fun h=>qs ⟨b,Zp5 hk,h⟩
  have hM0:=c.members
  refine Aw hE di.length (fun i=>[(2,.ptr 0 0),(3,.ptr 1 0),(7,.bool ((di.take i).any id)),(58,dv),(59,.int .i64 (di.length:Int)),(60,.int .i64 (i:Int))]) (fun _=>[.row 24 c.c,.row 55 [.int .i64 st,bv,dv,.int .u8 (ph:Int),.bool de,.int .u32 sq]]) (fun i=>∀ k<i,di[k]?=some true->(bl[k]?.getD []).length≠0) (fun k h=>by omega) (Abs.tells (rs:=[0,1]) ⟨by decide,⟨r9,r9,r9,t9 h3.hf,r9,r9,trivial⟩,⟨r9,o9 hrow,trivial⟩⟩) ?_
  intro i hi hI
  have hdf:=h3.hf
  by_cases hlt:i<di.length
  ·obtain ⟨b,_,l,hb,⟨u,rfl,hu⟩,hd⟩:=hn i (by omega)
   obtain ⟨us,hus,hul,-⟩:=hu.nth
   obtain ⟨g,_,l',hg,rfl,hd'⟩:=hn' i hlt
   have hta:(di.take (i+1)).any id=((di.take i).any id || g):=by
    rw [List.take_add_one,hg,List.any_append];simp
   have hff:g=true->b.length=0->∀ s,K (.int .i64 8) s:=fun h1 h2=>f fun q=>(q.2.2.2.2.1 i (by omega) b hb).2 (by rw [hg,h1]) h2
   have htt:(g=true->b.length≠0)->∀ k<i+1,di[k]?=some true->(bl[k]?.getD []).length≠0:=fun h=>AZ hI fun e=>by rw [hg] at e;rw [hb];exact h (Zqr e)
   have hil:i<bl.length:=by omega
   clear f t
   generalize (di.take i).any id=D at *
   rw [hta]
   cases g <;> cases D
   all_goals
    conv=>whnf
    repeat' (first|((first|refine Ar hs hil hd ?_|refine Ar hs' hlt hd' ?_|refine As ?_|refine Am hus ?_|refine Ac ?_|refine ⟨rfl,?_⟩);conv=>whnf)|refine Aa ?_ ?_|refine Ap ?_ ?_|(intro _;first|omega|conv=>whnf))
    all_goals first
     | exact hff rfl (by omega) _
     | exact ⟨hlt,htt (fun h=>by first|exact absurd h Bool.false_ne_true|omega),Abs.tells (rs:=[0,1]) ⟨by decide,⟨r9,r9,r9,t9 h3.hf,r9,r9,trivial⟩,⟨r9,o9 hrow,trivial⟩⟩⟩
  ·obtain rfl:i=di.length:=by omega
   obtain ⟨b,_,l,hb,⟨u,rfl,hu⟩,hd⟩:=hn di.length (by omega)
   obtain ⟨us,hus,hul,-⟩:=hu.nth
   have hIb:∀ k<bl.length,∀ b,bl[k]?=some b->BM b∧(di[k]?=some true->b.length≠0):=fun k hk b hb=>⟨hsz k b hb,fun e=>by
    have:=hI k (Zpk.1 e).1 e
    rw [hb] at this;exact this⟩
   rw [List.take_length]
   have hany:(di.any id=true)=(true ∈ di):=by simp
   have hany':di.any id=false->¬(true ∈ di):=fun h q=>by rw [← hany,h] at q;cases q
   rw [← hany] at t f
   rw [hb] at t f
   dsimp only [Option.getD_some] at t f
   have hm1:c.members-1=(di.length:Int):=by omega
   have hil:di.length<bl.length:=by omega
   have hpl:(bl.length:Int)=c.members:=by omega
   have hs0:0≤st∧st<c.chunk*c.rows:=by omega
   have hph:ph≤4:=by omega
   have hdl:(di.length:Int)=c.members-1:=by omega
   replace t:=fun q=>t ⟨hs0,hpl,hdl,hph,hIb,q⟩
   replace f:=fun (q:¬((ph=0->b.length=0∧sq=0)∧(0<ph->b.length≠0∧di.any id=true)∧(ph=1->sq=0)∧(de=true->di.any id=true∧ph≤1)))=>f fun q'=>q q'.2.2.2.2.2
   generalize di.any id=D at *
   clear hI hIb hsz hany hany'
   cases D <;> cases de
   all_goals
    conv=>whnf
    repeat' (first|((first|refine Cj rfl hs rfl hm1 hil hd ?_|refine As ?_|refine Am hus ?_|refine AL ?_|refine Au ?_|refine Av ?_|refine Cx ?_);conv=>whnf)|refine Aa ?_ ?_|refine B8 ?_ ?_|refine Ax ?_ ?_|refine Ap ?_ ?_|refine Al ?_ ?_|(intro _;first|omega|conv=>whnf))
    all_goals first
     | exact t ⟨fun h=>by omega,fun h=>⟨by omega,by first|rfl|(exfalso;omega)⟩,fun h=>by omega,fun h=>by first|exact ⟨rfl,by omega⟩|cases h⟩ _
     | exact f (fun q=>by
      have q1:=q.1
      have q2:=q.2.1
      have q3:=q.2.2.1
      have q4:=q.2.2.2
      first
       | omega
       | exact Bool.false_ne_true (q2 (by omega)).2
       | exact Bool.false_ne_true (q4 rfl).1
       | (have:=(q4 rfl).2;omega)) _
     | fail
 ·have hst:=Yh h40 hc hM
  conv=>whnf
  repeat' (first|(refine hst _ _ ?_;conv=>whnf)|refine Al ?_ ?_|(intro _;first|omega|conv=>whnf))
  exact f (fun q=>hM q.1) _
def Zkl:AC:=match Qh with|.mk c _=>c
theorem S7 (hs:List Hd) (s:Int):CA (fun h:Hd=>h.1=s) hs=A9 hs s:=by
 by_cases h:∃ (i:Nat) (x:Hd),hs[i]?=some x∧x.1=s∧∀ j<i,∀ g:Hd,hs[j]?=some g->g.1≠s
 ·obtain ⟨i,x,h1,h2,h3⟩:=h
  rw [Ri h1 h2 h3,KC h1 h2 h3]
 ·have hn:∀ n:Nat,∀ j<n,∀ g:Hd,hs[j]?=some g->g.1≠s:=by
   intro n
   induction n with
   | zero=>intro j h;omega
   | succ n ih=>exact AZ ih fun g hg he=>h ⟨n,g,hg,he,ih⟩
  rw [Rj fun j _=>hn (j+1) j (by omega),KB fun j _=>hn (j+1) j (by omega)]
theorem Zk3 (h183:Inl e 183 Zkl [.tmp 3]):Fj e hdC AV.agg 183 (.p i64C .nil) (fun _ _=>True) (fun (c:Int×Unit) h=>h.1=c.1):=by
 rintro ⟨s,_⟩ q xs ⟨st,bl,di,ph,de,sq⟩ l ⟨_,_,rfl,⟨rfl,-⟩,rfl⟩ _ _ hx Q y n
 obtain ⟨bv,dv,rfl,-⟩:=Cm hx
 dsimp only at y n
 refine ECall.inl h183.O h183.G ?_;conv=>whnf
 repeat' (first|(refine As ?_;conv=>whnf)|refine Ap ?_ ?_|(intro _;first|omega|conv=>whnf))
 all_goals first
  | exact y (by assumption) _
  | exact n (by assumption) _
noncomputable def ix183:Fn (List Hd×(Int×Unit)×Unit):=CF hdC 183 (.p i64C .nil) (fun _ _=>True) fun c h=>h.1=c.1
noncomputable def plaF:Fn (List Hd×Int×Unit):=⟨.v hdC.sl (.v i64C .nil),fun _=>True,fun x=>.int .i64 (A9 x.1 x.2.1)⟩
theorem Zh9 (hE:EM P e) (h110:Con e 110 (relS (CC ix183.R))):OvOk P 144 plaF.O:=by
 refine B3 g144.b ?_
 rintro ⟨hs,s,_⟩ _ ⟨v,_,rfl,⟨_,e0,hL⟩,_,_,rfl,⟨e1,z1⟩,rfl⟩ -
 cases e0
 cases e1
 have hidx:=fun (Q:AV->St->Prop) st k r hr=>@I5 _ ix183 e 110 st Q h110 v 183 [.ptr r 0] [.fp [.int .i64 s]] (hs,(s,()),()) ⟨_,_,rfl,⟨_,rfl,hL⟩,_,_,rfl,⟨_,_,rfl,⟨rfl,z1⟩,rfl⟩,rfl⟩ trivial (.cons ⟨r,3,_,rfl,rfl,hr,rfl⟩ .nil) rfl k
 have hout:∀ st,Frz st (ix183.out (hs,(s,()),())) (plaF.out (hs,s,())):=fun st=>by
  show Frz st (.int .i64 (CA (fun h:Hd=>h.1=s) hs)) (.int .i64 (A9 hs s))
  rw [S7];exact .plain _ rfl
 refine ⟨rfl,C.of_G hE g144 ?_⟩
 change VW P e 0 _ (An [v,.int .i64 s] 0 .lf) St0 none [] _
 conv=>whnf
 repeat' (first|(refine hidx _ _ ?_ _ rfl;conv=>whnf)|fail)
 exact hout _
noncomputable def shcF:Fn (Cfg×List Hd×Unit):=cF (.g cfgC (.v hdC.sl .nil)) (fun _=>True) fun x=>x.1.may∧Cg x.1 x.2.1
theorem Zhx (hE:EM P e) (h103:Con e 103 cfgF.O) (h144:Con e 144 plaF.O) (h148:Con e 148 hdcF.O):OvOk P 104 shcF.O:=by
 refine JG hE g104 ?_
 rintro ⟨c,hs,_⟩ _ ⟨_,_,rfl,⟨rfl,hc⟩,v,_,rfl,⟨_,e0,hL⟩,rfl⟩-K t f
 cases e0
 dsimp only at t f hc hL
 have hvf:=hL.hf
 obtain ⟨cs,hs',hl,hn⟩:=hL.nth
 have hpl:=fun (xs:List Hd) (u:AV) (hu:Ls hdC xs u) (st:Int) (h:Ab st) (Q:AV->St->Prop) s k=>@Fn.u _ e 144 s Q plaF [u,.int .i64 st] h144 (xs,st,()) ⟨_,_,rfl,⟨_,rfl,hu⟩,_,_,rfl,⟨rfl,Bf h⟩,rfl⟩ trivial k
 have hhd:=fun (x:Hd) (l:List AV) (hx:hdC.r x l) (Q:AV->St->Prop) s a b=>@cF.u _ _ _ _ e 148 s Q [.agg c.c,.agg l] h148 (c,x,()) ⟨_,_,rfl,⟨rfl,hc⟩,_,_,rfl,hx,rfl⟩ trivial a b
 replace hpl:∀ (xs:List Hd) (u:AV) (hu:Ls hdC xs u) (st:Int) (h:Ab st) (Q:AV->St->Prop) s,Q (.int .i64 (A9 xs st)) s->ESc e 144 [u,.int .i64 st] s Q:=hpl
 change VW P e 0 _ (An [.agg c.c,v] 0 .lf) St0 none [] _
 by_cases hM:c.may
 ·have hcf:=Td h103 hc hM
  replace t:=fun q=>t ⟨hM,q⟩
  replace f:=fun (q:¬Cg c hs)=>f fun q'=>q q'.2
  replace hhd:=fun x l hx (Q:AV->St->Prop) s (a:DT c x->Q (.int .i64 0) s) (b:¬DT c x->Q (.int .i64 8) s)=>hhd x l hx Q s (fun q=>a q.2) (fun q=>b fun h=>q ⟨hM,h⟩)
  unfold Cg at t f
  conv=>whnf
  repeat' (first|((first|refine hcf _ _ ?_|refine AD rfl hs' ?_);conv=>whnf)|refine Ax ?_ ?_|refine Al ?_ ?_|(intro _;first|omega|conv=>whnf))
  ·exact f (fun q=>by omega) _
  have hheads:(hs.length:Int)≤c.heads:=by assumption
  refine Aw hE hs.length (fun i=>[(1,v),(2,.ptr 0 0),(19,v),(20,.int .i64 (hs.length:Int)),(21,.int .i64 (i:Int))]) (fun _=>[.row 24 c.c]) (fun i=>∀ k<i,∀ h,hs[k]?=some h->DT c h∧∀ j<k,∀ g,hs[j]?=some g->g.1≠h.1) (fun k h=>by omega) (Abs.tells (rs:=[0]) .a) ?_
  intro i hi hI
  by_cases hlt:i<hs.length
  ·obtain ⟨x,l,r,hx,hxr,hd⟩:=hn i hlt
   have hhd:=hhd x l hxr
   have hff:¬(DT c x∧∀ j<i,∀ g,hs[j]?=some g->g.1≠x.1)->∀ s,K (.int .i64 8) s:=fun h=>f fun q=>h (q.1 i hlt x hx)
   have htt:(DT c x∧∀ j<i,∀ g,hs[j]?=some g->g.1≠x.1)->∀ k<i+1,∀ h,hs[k]?=some h->DT c h∧∀ j<k,∀ g,hs[j]?=some g->g.1≠h.1:=fun h=>AZ hI fun y e=>by rw [hx] at e;cases e;exact h
   have hpos:∀ st,(∀ j<i,∀ g,hs[j]?=some g->g.1≠st)->A9 (hs.take i) st=-1:=fun st h=>Rj fun j hj g hg=>by
    rw [Zp9] at hj
    rw [Zqw,Zpn (by omega)] at hg
    exact h j (by omega) g hg
   have hpos2:∀ st,A9 (hs.take i) st<0->∀ j<i,∀ g,hs[j]?=some g->g.1≠st:=fun st h j hj g hg e=>by
    rw [← S7] at h
    have:=idxI_iff (p:=fun h:Hd=>h.1=st) (l:=hs.take i).2 ⟨g,Zp5 (i:=j) (by rw [Zqw,Zpn hj];exact hg),e⟩
    omega
   clear t f hI hn
   obtain ⟨st,bl,di,ph,de,sq⟩:=x
   obtain ⟨bv,dv,rfl,hst,-⟩:=Cm hxr
   dsimp only at hff htt
   conv=>whnf
   repeat' (first|(refine hhd _ _ (fun q1=>?_) (fun q1=>?_) <;> conv=>whnf)|(refine NU rfl hL rfl rfl (Nat.le_of_lt hlt) (fun u hu=>?_);conv=>whnf)|((first|refine Ar hs' hlt hd ?_|refine A8 (cs:=[.int .i64 st,bv,dv,.int .u8 (ph:Int),.bool de,.int .u32 sq]) rfl ?_|refine hpl (hs.take i) _ hu _ hst _ _ ?_|refine Ac ?_|refine ⟨rfl,?_⟩);conv=>whnf)|refine Aa ?_ ?_|refine AR ?_ ?_|refine Al ?_ ?_|(intro _;first|omega|conv=>whnf))
   ·exact hff (fun q=>by have:=hpos _ q.2;omega) _
   ·refine ⟨hlt,htt ⟨q1,hpos2 _ (by omega)⟩,Abs.tells (rs:=[0]) .a⟩
   ·exact hff (fun q=>q1 q.1) _
  ·conv=>whnf
   repeat' (first|refine Aa ?_ ?_|(intro _;first|omega|conv=>whnf))
   exact t ⟨fun k hk=>hI k (by omega),hheads⟩ _
 ·have hcf:=Te h103 hc hM
  conv=>whnf
  repeat' (first|(refine hcf _ _ ?_;conv=>whnf)|refine Al ?_ ?_|(intro _;first|omega|conv=>whnf))
  exact f (fun q=>hM q.1) _
open Classical in
noncomputable def fndF:Fn (Cfg×List Hd×Int×Unit):=⟨.g cfgC (.v hdC.sl (.v i64C .nil)),fun _=>True,fun x=>if x.1.may∧Cg x.1 x.2.1 then (if A9 x.2.1 x.2.2.1<0 then .tup [.int .i64 0,.int .i64 6] else .tup [.int .i64 (A9 x.2.1 x.2.2.1),.int .i64 0]) else .tup [.int .i64 0,.int .i64 8]⟩
theorem Zjk (hE:EM P e) (h104:Con e 104 shcF.O) (h144:Con e 144 plaF.O):OvOk P 97 fndF.O:=by
 refine B3 g97.b ?_
 rintro ⟨c,hs,s,_⟩ _ ⟨_,_,rfl,⟨rfl,hc⟩,v,_,rfl,⟨_,e0,hL⟩,_,_,rfl,⟨e1,z1⟩,rfl⟩ -
 cases e0
 cases e1
 dsimp only at hc hL
 have hpl:=fun (Q:AV->St->Prop) s' k=>@Fn.u _ e 144 s' Q plaF [v,.int .i64 s] h144 (hs,s,()) ⟨_,_,rfl,⟨_,rfl,hL⟩,_,_,rfl,⟨rfl,z1⟩,rfl⟩ trivial k
 replace hpl:∀ (Q:AV->St->Prop) s',Q (.int .i64 (A9 hs s)) s'->ESc e 144 [v,.int .i64 s] s' Q:=hpl
 have hch:=fun (Q:AV->St->Prop) s a b=>@cF.u _ _ _ _ e 104 s Q [.agg c.c,v] h104 (c,hs,()) ⟨_,_,rfl,⟨rfl,hc⟩,_,_,rfl,⟨_,rfl,hL⟩,rfl⟩ trivial a b
 have hh:AM.hf (fndF.out (c,hs,s,()))=true:=by
  unfold fndF;dsimp only;split
  ·split <;> rfl
  ·rfl
 refine ⟨hh,C.of_G hE g97 ?_⟩
 have fin:∀ st v,v=fndF.out (c,hs,s,())->Frz st v (fndF.out (c,hs,s,())):=by
  rintro st v rfl;exact .plain _ hh
 clear hh
 generalize hO:fndF.out (c,hs,s,())=O at fin ⊢
 unfold fndF at hO
 dsimp only at hO hch
 generalize A9 hs s=j at *
 change VW P e 0 _ (An [.agg c.c,v,.int .i64 s] 0 .lf) St0 none [] _
 conv=>whnf
 repeat' (first|(refine hch _ _ (fun q1=>?_) (fun q1=>?_) <;> conv=>whnf)|(refine hpl _ _ ?_;conv=>whnf)|refine Aa ?_ ?_|refine Al ?_ ?_|(intro _;first|omega|conv=>whnf))
 all_goals first
  | exact fin _ _ (by rw [← hO,Zpn q1,Zpn (by omega)];rfl)
  | exact fin _ _ (by rw [← hO,Zpn q1,Zpr (by omega)];rfl)
  | exact fin _ _ (by rw [← hO,Zpr q1];rfl)
theorem ZS {r:Nat}(hx:ev x t=.some (.ptr r 0)) (hn:0<n) (hk:k (.sl r 0 n (some n)) s):EPrim (.sla es n x none none none) t s k:=by
 refine EPrim.mk (v:=.sl r 0 n (some n)) (s':=s) (fun e rec=>?_) hk
 show wth x t _=_;unfold wth;rw [hx]
 show gd (Nat.ble 0 n && Nat.ble n n && Nat.ble n n) (.ok (.sl r (Bool.rec (0+0*es) 0 (Nat.beq n 0)) (n-0) (some (n-0))) s)=_
 rw [Zqa (Zp2 n),Zqa (Zp4 n),show Nat.beq n 0=false by rw [← Zrj];intro e;have:=Zpp e;omega,Nat.zero_mul]
 rfl
noncomputable def fldF:Fn (List (List Nat)×Unit):=⟨.v blkC .nil,fun x=>Ey x.1∧x.1.length≤16,fun x=>.tup [Az (AY x.1),.int .i64 0]⟩
theorem Zjn (hE:EM P e):OvOk P 50 fldF.O:=by
 refine B3 g50.b ?_
 rintro ⟨l,_⟩ _ ⟨v,_,rfl,⟨_,e0,hL⟩,rfl⟩ ⟨hB,hl16⟩
 cases e0
 dsimp only at hB hl16 hL
 obtain ⟨cs,hs,hl,hn⟩:=hL.nth
 have hvf:=hL.hf
 refine ⟨rfl,C.of_G hE g50 ?_⟩
 have fin:∀ s,s.get 0=some (.row 170 (Ad (AY l)))->Frz s (.tup [.sl 0 0 128 (some 128),.int .i64 0]) (fldF.out (l,())):=fun s h=>.tup _ _ (.cons (.sl 0 0 128 _ _ 170 _ _ _ h (fun i x h=>by rw [Zpy];exact h) (Li (BH _)) (.inl rfl)) (.cons (.plain _ rfl) .nil))
 generalize fldF.out _=O at fin ⊢
 have hz:Ad Fg=Ad (AY (l.take 0)):=rfl
 conv=>whnf
 repeat' (first|(refine Am hs ?_;conv=>whnf)|refine Ax ?_ ?_|(intro _;first|omega|conv=>whnf))
 refine Aw hE l.length (fun i=>[(4,.ptr 0 0),(5,.int .i64 0),(13,v),(14,.int .i64 (l.length:Int)),(15,.int .i64 (i:Int))]) (fun i=>[.row 170 (Ad (AY (l.take i)))]) (fun _=>True) trivial (Abs.tells (rs:=[0]) ⟨by decide,⟨r9,r9,t9,r9,r9,trivial⟩,⟨o9 (BH _),trivial⟩⟩) ?_
 intro i hi _
 by_cases hlt:i<l.length
 ·obtain ⟨b,_,r,hb,⟨u,rfl,hu⟩,hd⟩:=hn i hlt
  obtain ⟨hbl,hb256⟩:=hB b (Zp5 hb)
  have hX:=Jy (l:=l.take i) fun c hc=>hB c (Zqq hc)
  have hst:=VO hb
  rw [hst]
  generalize AY (l.take i)=A at *
  have hA:=hX.1
  obtain ⟨ds,hs',hl',hn'⟩:=hu.nth
  have huf:=hu.hf
  conv=>whnf
  repeat' (first|((first|refine Ar hs hlt hd ?_|refine As ?_|refine AD rfl hs' ?_);conv=>whnf)|refine Aa ?_ ?_|refine Ap ?_ ?_|(intro _;first|omega|conv=>whnf))
  have h0:DN A b 0=A:=by unfold DN;simp
  refine Aw hE 128 (fun j=>[(4,.ptr 0 0),(5,.int .i64 0),(13,v),(14,.int .i64 (l.length:Int)),(15,.int .i64 (i:Int)),(25,u),(26,.int .i64 (b.length:Int)),(27,.int .i64 (j:Int))]) (fun j=>[.row 170 (Ad (DN A b j))]) (fun _=>True) trivial (Abs.tells (rs:=[0]) ⟨by decide,⟨r9,r9,t9,r9,r9,t9,r9,r9,trivial⟩,⟨⟨Bj (BH _),by rw [AU (BH _),h0];rfl⟩,trivial⟩⟩) ?_
  intro j hj _
  by_cases hjl:j<b.length
  ·obtain ⟨x,hx⟩:∃ x,A[j]?=some x:=⟨_,Zpj (by omega)⟩
   obtain ⟨y,_,r',hy,⟨rfl,hy'⟩,hd'⟩:=hn' j hjl
   have hx':=hX.2 x (Zp5 hx)
   obtain ⟨hg,hset⟩:=Vm hA hbl hx hy
   have hjl2:=(Zpk.1 hg).1
   conv=>whnf
   repeat' (first|(refine R1 (i:=j) (bs:=DN A b j) rfl (by omega) hjl2 ?_;rw [hset];conv=>whnf)|((first|refine Ar hs' hjl hd' ?_|refine As ?_|refine NY rfl rfl (by omega) (by omega) ?_|refine Xh (i:=j) (bs:=DN A b j) rfl (by omega) hg ?_|refine Vf rfl rfl hx' hy' ?_|refine Ac ?_|refine ⟨rfl,?_⟩);conv=>whnf)|refine Aa ?_ ?_|(intro _;first|omega|conv=>whnf))
   exact ⟨by omega,trivial,Abs.tells (rs:=[0]) ⟨by decide,⟨r9,r9,t9,r9,r9,t9,r9,r9,trivial⟩,⟨o9 (BH _),trivial⟩⟩⟩
  ·have he:DN A b j=Cf A b:=by
    have:=Om hA hbl
    unfold DN;rw [Zps (by omega),Zqf (by omega),Zqu]
   rw [he]
   conv=>whnf
   repeat' (first|((first|refine Ac ?_|refine ⟨rfl,?_⟩);conv=>whnf)|refine Aa ?_ ?_|(intro _;first|omega|conv=>whnf))
   exact ⟨hlt,trivial,Abs.tells (rs:=[0]) ⟨by decide,⟨r9,r9,t9,r9,r9,trivial⟩,⟨o9 (BH _),trivial⟩⟩⟩
 ·rw [Zps (by omega)]
  conv=>whnf
  repeat' (first|(refine ZS rfl (by decide) ?_;conv=>whnf)|refine Aa ?_ ?_|refine Al ?_ ?_|(intro _;first|omega|conv=>whnf))
  exact fin _ rfl
open Classical in
noncomputable def DQ (d:Dv) (s:Int):Nat:=if d.1.may∧Cg d.1 d.2.2.2.1∧0≤A9 d.2.2.2.1 s then (d.2.2.2.1[(A9 d.2.2.2.1 s).toNat]?.map fun h=>h.2.2.2.1).getD 0 else 0
noncomputable def phF:Fn (Dv×Int×Unit):=⟨.g dvC (.v i64C .nil),fun _=>True,fun x=>.int .u8 (DQ x.1 x.2.1:Int)⟩
theorem Zmd (hE:EM P e) (h97:Con e 97 fndF.O):OvOk P 47 phF.O:=by
 refine B3 g47.b ?_
 rintro ⟨⟨c,bk,⟨ev,lo,sp,po,dn,nl,br⟩,hs,⟨ag,sq,tl,us,L⟩,fs,nx,so⟩,s,_⟩ _ ⟨_,_,rfl,hd,_,_,rfl,⟨e1,z1⟩,rfl⟩ -
 cases e1
 obtain ⟨hv,lv,fv,rfl,⟨ho,o1,o2,o3,o4,o5,o6,o7,o8,oN⟩,hH,hL,hF⟩:=B1 hd
 refine ⟨rfl,C.of_G hE g47 ?_⟩
 have hc:=fun (Q:AV->St->Prop) st k=>@Fn.u _ e 97 st Q fndF [.agg c.c,hv,.int .i64 s] h97 (c,hs,s,()) ⟨_,_,rfl,⟨rfl,ho⟩,_,_,rfl,⟨_,rfl,hH⟩,_,_,rfl,⟨rfl,z1⟩,rfl⟩ trivial k
 have fin:∀ st n,DQ (c,bk,(ev,lo,sp,po,dn,nl,br),hs,(ag,sq,tl,us,L),fs,nx,so) s=n->Frz st (.int .u8 (n:Int)) (phF.out ((c,bk,(ev,lo,sp,po,dn,nl,br),hs,(ag,sq,tl,us,L),fs,nx,so),s,())):=by
  rintro st n rfl;exact .plain _ rfl
 generalize phF.out _=O at fin ⊢
 unfold DQ at fin
 dsimp only at fin hc
 unfold fndF at hc
 dsimp only at hc
 change VW P e 0 _ (An [_,.int .i64 s] 0 .lf) St0 none [] _
 have hlt:=Ht hs s
 obtain ⟨cs,hs',hl,hn⟩:=hH.nth
 generalize A9 hs s=j at *
 by_cases h1:c.may∧Cg c hs
 ·rw [Zpn h1] at hc
  by_cases h2:j<0
  ·rw [Zpn h2] at hc
   rw [Zpr (by rintro ⟨-,-,h⟩;omega)] at fin
   conv=>whnf
   repeat' (first|(refine hc _ _ ?_;conv=>whnf)|refine Al ?_ ?_|(intro _;first|omega|conv=>whnf))
   exact fin _ 0 rfl
  ·rw [Zpr h2] at hc
   rw [Zpn ⟨h1.1,h1.2,by omega⟩] at fin
   obtain ⟨⟨st,bl,di,ph,de,sq⟩,l,r,hx,hxr,hd2⟩:=hn j.toNat (by omega)
   obtain ⟨bv,dv,rfl,-⟩:=Cm hxr
   rw [hx] at fin
   conv=>whnf
   repeat' (first|((first|refine hc _ _ ?_|refine Cj rfl hs' rfl (show j=(j.toNat:Nat) by omega) (by omega) hd2 ?_|refine As ?_);conv=>whnf)|refine Al ?_ ?_|(intro _;first|omega|conv=>whnf))
   exact fin _ _ rfl
 ·rw [Zpr h1] at hc
  rw [Zpr (by rintro ⟨h,h',-⟩;exact h1 ⟨h,h'⟩)] at fin
  conv=>whnf
  repeat' (first|(refine hc _ _ ?_;conv=>whnf)|refine Al ?_ ?_|(intro _;first|omega|conv=>whnf))
  exact fin _ 0 rfl
def Zo:AC:=match a98 with|.mk c _=>c
def T7:AC:=match a99 with|.mk c _=>c
def T8:AC:=match a89 with|.mk c _=>c
theorem RU (h44:Con e 44 dskF.O) {x:Dk}(hx:dkC.r x l) (hs:BG x) (Q:AV->St->Prop) (s:St) (a:Cy x->Q (.int .i64 0) s) (b:¬Cy x->Q (.int .i64 8) s):ESc e 44 [.agg l] s Q:=by
 obtain ⟨y,hy,rfl⟩:=IK hx
 refine ESc.fam (e:=e) (k:=Q) (s:=s) dskF h44 y (KI hy hs) rfl ?_
 have hi:=KO hy
 show Q (.int .i64 (if AX y=true then 0 else 8)) s
 by_cases h:AX y=true
 ·rw [Zpn h];exact a (by rw [← hi];exact h)
 ·rw [Zpr h];exact b (by rw [← hi];exact h)
def memF:Fam Cfg:=⟨Cfg.ok,fun x=>[x.v],fun x=>.tup [.int .i64 (if x.may then x.chunk*x.rows+1 else 0),.int .i64 (if x.may then 0 else 8)],fun x y _ _ h=>by rw [Ix (Zpv h).1]⟩
theorem Zim (hE:EM P e) (h83:Con e 88 toldF.O):OvOk P 59 memF.O:=by
 refine C7 g59.b ?_
 intro x hx
 refine ⟨rfl,rfl,C.of_G hE g59 ?_⟩
 by_cases hM:x.may
 ·rw [show memF.out x=.tup [.int .i64 (x.chunk*x.rows+1),.int .i64 0] by simp [memF,hM]]
  have hmm:=(BC hM).1
  unfold At at hmm
  obtain ⟨id,members,chunk,rows,log,heads⟩:=x
  dsimp only at hmm ⊢
  show VW P e 0 _ (An [AV.agg [.int .u32 id,.int .i64 members,.int .i64 chunk,.int .i64 rows,.int .i64 log,.int .i64 heads]] 0 .lf) St0 none [] _
  conv=>whnf
  repeat' (first|((first|refine Cs rfl rfl (by omega) ?_|refine Ac ?_);conv=>whnf)|fail)
  refine ESc.fam toldF h83 (⟨id,members,chunk,rows,log,heads⟩,_) hx (u:=.tup [_,.int .i64 0]) (by simp only [toldF,Zpn hM];rfl) ?_;conv=>whnf
  exact .plain _ rfl
 ·rw [show memF.out x=.tup [.int .i64 0,.int .i64 8] by simp [memF,hM]]
  obtain ⟨id,members,chunk,rows,log,heads⟩:=x
  show VW P e 0 _ (An [AV.agg [.int .u32 id,.int .i64 members,.int .i64 chunk,.int .i64 rows,.int .i64 log,.int .i64 heads]] 0 .lf) St0 none [] _
  conv=>whnf
  repeat' (first|((first|refine EPrim.mul rfl rfl ?_|refine EPrim.add (q:=.i64) rfl rfl ?_);conv=>whnf)|fail)
  refine ESc.fam toldF h83 (⟨id,members,chunk,rows,log,heads⟩,_) hx (u:=.tup [.int .i64 0,.int .i64 8]) (by simp only [toldF,Zpr hM]) ?_;conv=>whnf
  exact .plain _ rfl
noncomputable def ftcF:Fn (Cfg×List Dk×Unit):=cF (.g cfgC (.v dkC.sl .nil)) (fun x=>∀ d ∈ x.2.1,BG d) fun x=>x.1.may∧C3 x.1 x.2.1
theorem Zjg (hE:EM P e) (h44:Con e 44 dskF.O) (h59:Con e 59 memF.O) (h60:Con e 60 journalF.O):OvOk P 19 ftcF.O:=by
 refine JG hE g19 ?_
 rintro ⟨c,D,_⟩ _ ⟨_,_,rfl,⟨rfl,hc⟩,v,_,rfl,⟨_,e0,hL⟩,rfl⟩ hG K t f
 cases e0
 dsimp only at t f hc hL hG
 have hvf:=hL.hf
 obtain ⟨cs,hs',hl,hn⟩:=hL.nth
 change VW P e 0 _ (An [.agg c.c,v] 0 .lf) St0 none [] _
 by_cases hM:c.may
 ·have hme:∀ (Q:AV->St->Prop) s,Q (.tup [.int .i64 (c.chunk*c.rows+1),.int .i64 0]) s->ESc e 59 [.agg c.c] s Q:=fun Q s k=>ESc.fam (e:=e) (k:=Q) (s:=s) memF h59 c hc (by unfold memF;dsimp only;rw [Zpn hM,Zpn hM]) k
  have hjo:∀ (Q:AV->St->Prop) s,Q (.tup [.int .i64 (c.log+1),.int .i64 0]) s->ESc e 60 [.agg c.c] s Q:=fun Q s k=>ESc.fam (e:=e) (k:=Q) (s:=s) journalF h60 c hc (by unfold journalF;dsimp only;rw [Zpn hM,Zpn hM]) k
  replace t:=fun q=>t ⟨hM,q⟩
  replace f:=fun (q:¬C3 c D)=>f fun q'=>q q'.2
  have hmm:=(BC hM).1
  have hlog:=Hb hM
  unfold C3 at t f
  unfold Cfg.may at hM
  unfold At at *
  conv=>whnf
  repeat' (first|((first|refine hme _ _ ?_|refine AD rfl hs' ?_|refine Ac ?_);conv=>whnf)|refine Al ?_ ?_|(intro _;first|omega|conv=>whnf))
  ·exact f (fun q=>by omega) _
  have hlen:(D.length:Int)=c.members+1:=by assumption
  refine Aw hE D.length (fun i=>[(2,.ptr 0 0),(5,.int .i64 (c.chunk*c.rows+1)),(25,v),(26,.int .i64 (D.length:Int)),(27,.int .i64 (i:Int))]) (fun _=>[.row 24 c.c]) (fun i=>∀ k<i,∀ d,D[k]?=some d->(d.1.length:Int)=(if (k:Int)=c.members then c.log+1 else 1+c.chunk*c.rows)∧Cy d) (fun k h=>by omega) (Abs.tells (rs:=[0]) .a) ?_
  intro i hi hI
  by_cases hlt:i<D.length
  ·obtain ⟨x,l,r,hx,hxr,hd⟩:=hn i hlt
   have hdk:=fun (Q:AV->St->Prop) s a b=>RU (e:=e) h44 hxr (hG x (Zp5 hx)) Q s a b
   have hff:¬((x.1.length:Int)=(if (i:Int)=c.members then c.log+1 else 1+c.chunk*c.rows)∧Cy x)->∀ s,K (.int .i64 8) s:=fun h=>f fun q=>h (q.2 i hlt x hx)
   have htt:((x.1.length:Int)=(if (i:Int)=c.members then c.log+1 else 1+c.chunk*c.rows)∧Cy x)->∀ k<i+1,∀ d,D[k]?=some d->(d.1.length:Int)=(if (k:Int)=c.members then c.log+1 else 1+c.chunk*c.rows)∧Cy d:=fun h=>AZ hI fun y e=>by rw [hx] at e;cases e;exact h
   clear t f hI hn
   obtain ⟨bs,ws,dd⟩:=x
   obtain ⟨bv,wv,rfl,h1,-⟩:=GI hxr
   obtain ⟨xs,k1,l1,-⟩:=h1.nth
   dsimp only at hff htt
   by_cases him:(i:Int)=c.members
   all_goals
    first|rw [Zpn him] at hff htt|rw [Zpr him] at hff htt
    conv=>whnf
    repeat' (first|(refine hdk _ _ (fun q1=>?_) (fun q1=>?_) <;> conv=>whnf)|((first|refine Ar hs' hlt hd ?_|refine A8 (cs:=[bv,wv,.bool dd]) rfl ?_|refine As ?_|refine hjo _ _ ?_|refine Am k1 ?_|refine Ac ?_|refine ⟨rfl,?_⟩);conv=>whnf)|refine Aa ?_ ?_|refine Ap ?_ ?_|refine Al ?_ ?_|(intro _;first|omega|conv=>whnf))
    all_goals first
     | exact hff (fun q=>by omega) _
     | exact hff (fun q=>q1 q.2) _
     | exact ⟨hlt,htt ⟨by omega,q1⟩,Abs.tells (rs:=[0]) .a⟩
  ·conv=>whnf
   repeat' (first|refine Aa ?_ ?_|(intro _;first|omega|conv=>whnf))
   exact t ⟨hlen,fun k hk=>hI k (by omega)⟩ _
 ·have hme:∀ (Q:AV->St->Prop) s,Q (.tup [.int .i64 0,.int .i64 8]) s->ESc e 59 [.agg c.c] s Q:=fun Q s k=>ESc.fam (e:=e) (k:=Q) (s:=s) memF h59 c hc (by unfold memF;dsimp only;rw [Zpr hM,Zpr hM]) k
  conv=>whnf
  repeat' (first|(refine hme _ _ ?_;conv=>whnf)|refine Al ?_ ?_|(intro _;first|omega|conv=>whnf))
  exact f (fun q=>hM q.1) _
noncomputable def blsF:Fn (Cfg×Unit):=⟨.g cfgC .nil,fun x=>x.1.may,fun x=>.tup [.int .i64 (BJ x.1),.int .i64 0]⟩
theorem X5 (hE:EM P e) (h88:Con e 88 toldF.O):OvOk P 41 blsF.O:=by
 refine B3 g41.b ?_
 rintro ⟨c,_⟩ _ ⟨_,_,rfl,⟨rfl,hc⟩,rfl⟩ hM
 dsimp only at hc
 have hM:c.may:=hM
 refine ⟨rfl,C.of_G hE g41 ?_⟩
 have hmm:=BC hM
 have hto:∀ n (Q:AV->St->Prop) s,Q (.tup [.int .i64 n,.int .i64 0]) s->ESc e 88 [.agg c.c,.int .i64 n] s Q:=fun n Q s k=>ESc.fam (e:=e) (k:=Q) (s:=s) toldF h88 (c,n) hc (by unfold toldF;dsimp only;rw [Zpn hM,Zpn hM]) k
 have fin:∀ st,Frz st (.tup [.int .i64 (BJ c),.int .i64 0]) (blsF.out (c,())):=fun st=>.plain _ rfl
 generalize blsF.out _=O at fin ⊢
 unfold BJ At at *
 unfold Cfg.may at hM
 change VW P e 0 _ (An [.agg c.c] 0 .lf) St0 none [] _
 conv=>whnf
 repeat' (first|((first|refine Cs rfl rfl (by omega) ?_|refine hto _ _ _ ?_|refine AL ?_);conv=>whnf)|fail)
 exact fin _
def Zo1:AC:=match PW with|.mk c _=>c
noncomputable def splF:Fn (Cfg×Ak×Unit):=⟨.g cfgC (.g akC .nil),fun x=>x.1.may,fun x=>.int .i64 (BU x.1 x.2.1)⟩
set_option maxHeartbeats 2000000 in
theorem Zhq (hE:EM P e) (h41:Con e 41 blsF.O) (h212:Inl e 212 Zo1 [.cells 2 3,.tmp 3]):OvOk P 209 splF.O:=by
 refine B3 g209.b ?_
 rintro ⟨c,⟨k,a,m,d⟩,_⟩ _ ⟨_,_,rfl,⟨rfl,hc⟩,_,_,rfl,hg,rfl⟩ hM
 obtain ⟨v,rfl,o1,o2,o3,hd⟩:=IN hg
 obtain ⟨cs,hs',hl,-⟩:=hd.nth
 refine ⟨rfl,C.of_G hE g209 ?_⟩
 have f0:BA c (k,a,m,d)->∀ s,Frz s (.int .i64 0) (splF.out (c,(k,a,m,d),())):=fun h s=>by
  show Frz s _ (.int .i64 (BU c (k,a,m,d)));unfold BU;rw [Zpn h];exact .plain _ rfl
 have f3:¬BA c (k,a,m,d)->∀ d',BA c (k,a,m,d')->∀ s,Frz s (.int .i64 3) (splF.out (c,(k,a,m,d),())):=fun h d' h' s=>by
  show Frz s _ (.int .i64 (BU c (k,a,m,d)));unfold BU;rw [Zpr h,Zpn ⟨d',h'⟩];exact .plain _ rfl
 have f2:(∀ d',¬BA c (k,a,m,d'))->∀ s,Frz s (.int .i64 2) (splF.out (c,(k,a,m,d),())):=fun h s=>by
  show Frz s _ (.int .i64 (BU c (k,a,m,d)));unfold BU;rw [Zpr (h d),Zpr (fun q=>q.elim h)];exact .plain _ rfl
 generalize splF.out _=O at f0 f2 f3 ⊢
 have hM:c.may:=hM
 dsimp only at hc
 have hmm:=BC hM
 have hbl:∀ (Q:AV->St->Prop) s,Q (.tup [.int .i64 (BJ c),.int .i64 0]) s->ESc e 41 [.agg c.c] s Q:=fun Q s k=>Fn.u (F:=blsF) h41 (c,()) ⟨_,_,rfl,⟨rfl,hc⟩,rfl⟩ hM k
 have f3:¬BA c (k,a,m,d)->(1≤k∧k≤6∧(k=4∨k=6->a=0∧m=0)∧(¬(k=4∨k=6)->1≤m∧m≤8∧0≤a∧a≤BJ c-m))->∀ s,Frz s (.int .i64 3) O:=fun h q=>f3 h (List.replicate (if k=2∨k=3 then (m*128).toNat else 0) 0) ⟨q.1,q.2.1,q.2.2.1,q.2.2.2,fun e=>by rw [Zpn e,List.length_replicate];have:=q.2.2.2 (by omega);omega,fun e=>by rw [Zpr e];rfl⟩
 have f2:¬(1≤k∧k≤6∧(k=4∨k=6->a=0∧m=0)∧(¬(k=4∨k=6)->1≤m∧m≤8∧0≤a∧a≤BJ c-m))->∀ s,Frz s (.int .i64 2) O:=fun h=>f2 fun d' q=>h ⟨q.1,q.2.1,q.2.2.1,q.2.2.2.1⟩
 unfold BA at f0 f3
 generalize BJ c=B at *
 unfold Ab at *
 dsimp only at f0 f2 f3
 change VW P e 0 _ (An [.agg c.c,_] 0 .lf) St0 none [] _
 conv=>whnf
 repeat' (first|((first|refine hbl _ _ ?_|refine AD rfl hs' ?_|refine ESc.inl h212 ?_|refine EPrim.min2 rfl ?_|refine Cs rfl rfl (by omega) ?_|refine AL ?_|refine Au ?_|refine Av ?_);conv=>whnf)|refine Aa ?_ ?_|refine Ax ?_ ?_|refine Ap ?_ ?_|refine Al ?_ ?_|(intro _;first|omega|conv=>whnf))
 all_goals first
  | exact f2 (by omega) _
  | exact f3 (by omega) (by omega) _
  | exact f0 (by omega) _
def HK (a:Int) (n:Nat):List AV:=(List.range n).map fun (i:Nat)=>AV.int .i64 (a+(i:Int))
def GO (a:Int) (n:Nat):AV:=match n with
 | 0=>.nils
 | n+1=>.fz (n+1) none (HK a (n+1))
theorem Xf (a:Int) (n:Nat):hfs (HK a n)=true:=Ho fun k _=>rfl
theorem Zdd (a:Int) (n:Nat):HK a (n+1)=HK a n++[.int .i64 (a+(n:Int))]:=Me
theorem Zfl (a:Int) (n:Nat):(HK a n).length=n:=by unfold HK;simp
variable {a:Int}
theorem RI (h:∀ i<n,Ab (a+(i:Int))) (hn:n≤1000):Ls i64C ((List.range n).map fun (i:Nat)=>a+(i:Int)) (GO a n):=by
 rcases n with _|n
 ·exact Ee (.inl rfl)
 ·refine ⟨(List.range (n+1)).map fun (i:Nat)=>[AV.int .i64 (a+(i:Int))],?_,.inr (.inr ⟨none,?_,?_⟩),by simp;omega⟩
  ·refine EB (by simp) fun i x l' h1 h2=>?_
   rw [Zqi] at h1 h2
   by_cases hi:i<n+1
   ·rw [List.getElem?_range hi] at h1 h2
    cases h1
    cases h2
    exact ⟨rfl,Bf (h i hi)⟩
   ·rw [Zrl (by simp;omega)] at h1
    cases h1
  ·rw [Mj (fun (i:Nat)=>AV.int .i64 (a+(i:Int)))];simp;rfl
  ·rw [Mj (fun (i:Nat)=>AV.int .i64 (a+(i:Int))),Zpq,List.length_range,Zpq,List.length_range];exact (Zqm _).symm
noncomputable def sblF:Fn (Cfg×Ak×Unit):=⟨.g cfgC (.g akC .nil),fun x=>x.1.may,fun x=>if BU x.1 x.2.1=0 then .tup [GO x.2.1.2.1 x.2.1.2.2.1.toNat,.int .i64 0] else .tup [.nils,.int .i64 (BU x.1 x.2.1)]⟩
theorem akE_iff {x:Ak}:BU c x=0↔BA c x:=⟨fun h=>Classical.byContradiction fun n=>YK n h,YL⟩
theorem O5 {k:Nat}{d:List Nat}(hM:c.may) (h:BA c (k,a,m,d)):0≤m∧m≤8∧0≤a∧a≤1000:=by
 have hmm:=(BC hM).2
 obtain ⟨h1,h2,h3,h4,-⟩:=h
 omega
def N6 (n:Nat) (r:Nat):AV:=match n with
 | 0=>.nils
 | n+1=>.sl r 0 (n+1) none
theorem Zhy (hE:EM P e) (h209:Con e 209 splF.O):OvOk P 189 sblF.O:=by
 refine B3 g189.b ?_
 rintro ⟨c,⟨k,a,m,d⟩,_⟩ _ ⟨_,_,rfl,⟨rfl,hc⟩,_,_,rfl,hg,rfl⟩ hM
 have hM:c.may:=hM
 dsimp only at hc
 have hg0:=hg
 have hsp:∀ (Q:AV->St->Prop) s l,akC.r (k,a,m,d) l->Q (.int .i64 (BU c (k,a,m,d))) s->ESc e 209 [.agg c.c,.agg l] s Q:=fun Q s l hl q=>Fn.u (F:=splF) h209 (c,(k,a,m,d),()) ⟨_,_,rfl,⟨rfl,hc⟩,_,_,rfl,hl,rfl⟩ hM q
 obtain ⟨v,rfl,o1,o2,o3,hd⟩:=IN hg
 have hsp:=fun Q s=>hsp Q s _ hg
 have hrow:=akC.hf hg
 have hvf:=hd.hf
 have hh:AM.hf (sblF.out (c,(k,a,m,d),()))=true:=by
  unfold sblF;dsimp only;split
  ·unfold GO;split <;> rfl
  ·rfl
 refine ⟨hh,C.of_G hE g189 ?_⟩
 have hO:∀ O,sblF.out (c,(k,a,m,d),())=O->(if BU c (k,a,m,d)=0 then AV.tup [GO a m.toNat,.int .i64 0] else .tup [.nils,.int .i64 (BU c (k,a,m,d))])=O:=fun O h=>h
 generalize hO':sblF.out (c,(k,a,m,d),())=O at hh ⊢
 replace hO:=hO O hO'
 change VW P e 0 _ (An [.agg c.c,.agg [.int .u8 (k:Int),.int .i64 a,.int .i64 m,v]] 0 .lf) St0 none [] _
 by_cases h0:BA c (k,a,m,d)
 ·have hm:=O5 hM h0
  rw [akE_iff.2 h0] at hsp hO
  rw [Zpn rfl] at hO
  obtain ⟨n,rfl⟩:∃ n:Nat,m=n:=⟨m.toNat,by omega⟩
  rw [Int.toNat_natCast] at hO
  have fin0:n=0->∀ st,Frz st (.tup [.nils,.int .i64 0]) O:=fun h st=>by
   subst h;rw [← hO];exact .plain _ rfl
  have fin1:∀ i r st,n=i+1->st.get r=some (.row 3 (HK a (i+1)))->Frz st (.tup [.sl r 0 (i+1) none,.int .i64 0]) O:=fun i r st h hg2=>by
   subst h;rw [← hO]
   exact .tup _ _ (.cons (.sl r 0 (i+1) _ _ 3 _ _ _ hg2 (fun j x hx=>by rw [Zpy];exact hx) (Ck (Xf _ _)) (.inl rfl)) (.cons (.plain _ rfl) .nil))
  conv=>whnf
  repeat' (first|(refine hsp _ _ ?_;conv=>whnf)|refine Al ?_ ?_|(intro _;first|omega|conv=>whnf))
  refine Aw hE n (fun i=>[(3,.ptr 1 0),(4,N6 i 2),(15,.int .i64 (n:Int)),(16,.int .i64 (i:Int))]) (fun i=>match i with|0=>[.row 24 c.c,.row 140 [.int .u8 (k:Int),.int .i64 a,.int .i64 (n:Int),v]]|i+1=>[.row 24 c.c,.row 140 [.int .u8 (k:Int),.int .i64 a,.int .i64 (n:Int),v],.row 3 (HK a (i+1))]) (fun _=>True) trivial (Abs.tells (rs:=[0,1]) .a) ?_
  intro i hi _
  unfold Ab at o2 o3
  by_cases hlt:i<n
  ·have hli:=Xf a
   have hsu:=Zdd a i
   rcases i with _|i
   ·conv=>whnf
    repeat' (first|((first|refine CO (m:=1) ?_|refine Ac ?_|refine ⟨rfl,?_⟩);conv=>whnf)|refine Aa ?_ ?_|(intro _;first|omega|conv=>whnf))
    exact ⟨hlt,trivial,Abs.tells (rs:=[0,1,3]) ⟨by decide,⟨r9,r9,r9,r9,trivial⟩,⟨r9,o9 hrow,⟨Bj rfl,rfl⟩,trivial⟩⟩⟩
   ·have hli2:=hli (i+1+1)
    rw [hsu] at hli2
    dsimp only
    rw [hsu]
    conv=>whnf
    repeat' (first|((first|refine C6 (m:=1) (n:=i+1) (old:=HK a (i+1)) rfl rfl rfl rfl (by rw [Zfl];exact (Zqm _).symm) rfl (by decide) (by omega) ?_|refine Ac ?_|refine ⟨rfl,?_⟩);conv=>whnf)|refine Aa ?_ ?_|(intro _;first|omega|conv=>whnf))
    exact ⟨hlt,trivial,Abs.tells (rs:=[0,1,4]) .a⟩
  ·obtain rfl:i=n:=by omega
   rcases i with _|i
   ·conv=>whnf
    repeat' (first|refine Aa ?_ ?_|(intro _;first|omega|conv=>whnf))
    exact fin0 rfl _
   ·conv=>whnf
    repeat' (first|refine Aa ?_ ?_|(intro _;first|omega|conv=>whnf))
    exact fin1 i _ _ rfl rfl
 ·have hne:=mt akE_iff.1 h0
  rw [Zpr hne] at hO
  generalize BU c (k,a,m,d)=E at *
  have fin:∀ st,Frz st (.tup [.nils,.int .i64 E]) O:=fun st=>by rw [← hO];exact .plain _ rfl
  conv=>whnf
  repeat' (first|(refine hsp _ _ ?_;conv=>whnf)|refine Al ?_ ?_|(intro _;first|omega|conv=>whnf))
  all_goals first
   | exact absurd (by assumption) hne
   | exact fin _
theorem Ll {β:Type}(hE:EM P e) {k:Nat}{rd:Option Nat}{ac:AC}{Q:EQ}(n:Nat) (tl:Nat->β->List (Nat×AV)) (os:Nat->β->List AObj) (I:Nat->β->Prop) (b0:β) (h0:I 0 b0) (ha:Tells P k t s [] (A6 (tl 0 b0)) (Aj St0 (os 0 b0)) [])
 (hr:∀ i b,i≤n->I i b->VW P e k ac (A6 (tl i b)) (Aj St0 (os i b)) rd [] (IY (fun t s ds=>ds=[]∧i<n∧∃ b',I (i+1) b'∧Tells P k t s [] (A6 (tl (i+1) b')) (Aj St0 (os (i+1) b')) []) Q)):W P k rd (.loop ac) t s [] Q:=by
 refine DZ (α:=Nat×β) (fun x=>tl x.1 x.2) (fun x=>os x.1 x.2) (fun x=>n-x.1) (fun x=>x.1≤n∧I x.1 x.2) (0,b0) ⟨Zp2 _,h0⟩ ha ?_
 rintro ⟨i,b⟩ ⟨hi,hI⟩
 refine (Ca hE (hr i b hi hI)).mono ?_
 intro x t s ds hq
 cases x with
 | normal=>
  obtain ⟨rfl,h1,b',h2,h3⟩:=hq
  exact ⟨rfl,(i+1,b'),⟨h1,h2⟩,by dsimp only at hi ⊢;omega,h3⟩
 | exit id=>exact hq
 | ret=>exact hq
def FM (a:Int):Nat->List Int
 | 0=>[]
 | i+1=>Dt (a+(i:Int)) (FM a i)
theorem Hn {n:Int}:∀ {i:Nat},n ∈ FM a i↔a≤n∧n<a+(i:Int)
 | 0=>by simp [FM];try omega
 | i+1=>by
  unfold FM Dt
  split
  ·rename_i h
   rw [Hn] at h ⊢
   omega
  ·rw [Zqb,Hn,List.mem_singleton];omega
def HR (k:Nat):Bool:=decide (k=2∨k=3∨k=5)
def ofV (k:Nat):AV:=.tup [.agg [.int .i64 (if k=4∨k=6∨k=0∨6<k then 0 else 8),.bool (decide (k=2∨k=3)),.bool (HR k)],.bool (decide (1≤k∧k≤6))]
noncomputable def ofF:Fn (Nat×Unit):=⟨.v Ce.u8 .nil,fun _=>True,fun x=>ofV x.1⟩
theorem Zml (hE:EM P e):OvOk P 212 ofF.O:=by
 refine B3 g212.b ?_
 rintro ⟨k,_⟩ _ ⟨_,_,rfl,⟨e1,z1⟩,rfl⟩ -
 cases e1
 dsimp only at z1
 refine ⟨rfl,C.of_G hE g212 ?_⟩
 have fin:∀ st a b c d,(if k=4∨k=6∨k=0∨6<k then (0:Int) else 8)=a->decide (k=2∨k=3)=b->HR k=c->decide (1≤k∧k≤6)=d->Frz st (.tup [.agg [.int .i64 a,.bool b,.bool c],.bool d]) (ofF.out (k,())):=by
  rintro st a b c d rfl rfl rfl rfl;exact .plain _ rfl
 generalize ofF.out _=O at fin ⊢
 unfold HR at fin
 change VW P e 0 _ (An [.int .u8 (k:Int)] 0 .lf) St0 none [] _
 conv=>whnf
 repeat' (first|refine Ap ?_ ?_|(intro _;first|omega|conv=>whnf))
 all_goals first
  | exact fin _ _ _ _ _ (by first|exact Zpn (by omega)|exact Zpr (by omega)) (by first|exact Zpo (by omega)|exact Zp0 (by omega)) (by first|exact Zpo (by omega)|exact Zp0 (by omega)) (by first|exact Zpo (by omega)|exact Zp0 (by omega))
noncomputable def tchF:Fn (Cfg×Ak×Ak×Unit):=⟨.g cfgC (.g akC (.g akC .nil)),fun x=>x.1.may∧BA x.1 x.2.1∧BA x.1 x.2.2.1,fun x=>.tup [pB (Ge x.2.1 x.2.2.1),.int .i64 0]⟩
set_option maxHeartbeats 2000000 in
theorem Zhk (hE:EM P e) (h189:Con e 189 sblF.O) (h212:Con e 212 ofF.O):OvOk P 193 tchF.O:=by
 refine B3 g193.b ?_
 rintro ⟨c,⟨k,a,m,d⟩,⟨k',a',m',d'⟩,_⟩ _ ⟨_,_,rfl,⟨rfl,hc⟩,_,_,rfl,hx,_,_,rfl,hy,rfl⟩ ⟨hM,hB,hB'⟩
 dsimp only at hc hx hy hM hB hB'
 have hsb:∀ (k:Nat) (a m:Int) (d:List Nat) (Q:AV->St->Prop) s l,akC.r (k,a,m,d) l->BA c (k,a,m,d)->Q (.tup [GO a m.toNat,.int .i64 0]) s->ESc e 189 [.agg c.c,.agg l] s Q:=fun k a m d Q s l hl hb q=>Fn.u (F:=sblF) h189 (c,(k,a,m,d),()) ⟨_,_,rfl,⟨rfl,hc⟩,_,_,rfl,hl,rfl⟩ hM (by
  show Q (if BU c (k,a,m,d)=0 then .tup [GO a m.toNat,.int .i64 0] else .tup [.nils,.int .i64 (BU c (k,a,m,d))]) s
  rw [Zpn (akE_iff.2 hb)];exact q)
 obtain ⟨v,rfl,o1,o2,o3,hd⟩:=IN hx
 obtain ⟨v',rfl,o1',o2',o3',hd'⟩:=IN hy
 have hs1:=fun Q s=>hsb _ _ _ _ Q s _ hx hB
 have hs2:=fun Q s=>hsb _ _ _ _ Q s _ hy hB'
 have hr1:=akC.hf hx
 have hr2:=akC.hf hy
 have hz:m=0->a=0:=by have:=hB.2.2.1;have:=hB.2.2.2.1;omega
 have hz':m'=0->a'=0:=by have:=hB'.2.2.1;have:=hB'.2.2.2.1;omega
 have hm:=O5 hM hB
 have hm':=O5 hM hB'
 have hof:∀ (k:Nat) (Q:AV->St->Prop) s,k<256->Q (ofV k) s->ESc e 212 [.int .u8 (k:Int)] s Q:=fun k Q s hk q=>Fn.u (F:=ofF) h212 (k,()) ⟨_,_,rfl,⟨rfl,hk⟩,rfl⟩ trivial q
 have hof1:=fun Q s=>hof k Q s o1
 have hof2:=fun Q s=>hof k' Q s o1'
 have hw:(HR k=true↔(k=2∨k=3∨k=5)):=by unfold HR;exact decide_eq_true_iff
 have hw':(HR k'=true↔(k'=2∨k'=3∨k'=5)):=by unfold HR;exact decide_eq_true_iff
 unfold ofV at hof1 hof2
 clear hsb hof
 refine ⟨rfl,C.of_G hE g193 ?_⟩
 have ft:Ge (k,a,m,d) (k',a',m',d')->∀ st,Frz st (.tup [.bool true,.int .i64 0]) (tchF.out (c,(k,a,m,d),(k',a',m',d'),())):=fun h st=>.tup _ _ (.cons (pT h) (.cons (.plain _ rfl) .nil))
 have ff:¬Ge (k,a,m,d) (k',a',m',d')->∀ st,Frz st (.tup [.bool false,.int .i64 0]) (tchF.out (c,(k,a,m,d),(k',a',m',d'),())):=fun h st=>.tup _ _ (.cons (pF h) (.cons (.plain _ rfl) .nil))
 generalize tchF.out _=O at ft ff ⊢
 unfold Ge at ft ff
 dsimp only at ft ff
 obtain ⟨n,rfl⟩:∃ n:Nat,m=n:=⟨m.toNat,by omega⟩
 obtain ⟨n',rfl⟩:∃ n:Nat,m'=n:=⟨m'.toNat,by omega⟩
 rw [Int.toNat_natCast] at hs1 hs2
 have hL1:=RI (a:=a) (n:=n) (fun i hi=>by unfold Ab;omega) (by omega)
 have hL2:=RI (a:=a') (n:=n') (fun i hi=>by unfold Ab;omega) (by omega)
 rw [← hw,← hw'] at ft ff
 generalize HR k=b1 at *
 generalize HR k'=b2 at *
 generalize (if k=4∨k=6∨k=0∨6<k then (0:Int) else 8)=y1 at hof1
 generalize (if k'=4∨k'=6∨k'=0∨6<k' then (0:Int) else 8)=y2 at hof2
 generalize decide (k=2∨k=3)=y3 at hof1
 generalize decide (k'=2∨k'=3)=y4 at hof2
 generalize decide (1≤k∧k≤6)=y5 at hof1
 generalize decide (1≤k'∧k'≤6)=y6 at hof2
 generalize GO a n=u at *
 generalize GO a' n'=u' at *
 have hu:=hL1.hf
 have hu':=hL2.hf
 obtain ⟨cs,k1,-,e1⟩:=hL1.nth
 obtain ⟨cs',k2,-,e2⟩:=hL2.nth
 rw [Zpq,List.length_range] at k1 k2 e1 e2
 change VW P e 0 _ (An [.agg c.c,.agg [.int .u8 (k:Int),.int .i64 a,.int .i64 (n:Int),v],.agg [.int .u8 (k':Int),.int .i64 a',.int .i64 (n':Int),v']] 0 .lf) St0 none [] _
 cases b1 <;> cases b2
 all_goals
  conv=>whnf
  repeat' (first|((first|refine hs1 _ _ ?_|refine hs2 _ _ ?_|refine hof1 _ _ ?_|refine hof2 _ _ ?_|refine Am k1 ?_);conv=>whnf)|refine Al ?_ ?_|(intro _;first|omega|conv=>whnf))
 ·replace ff:=ff (by simp)
  clear ft
  clear hof1 hof2 hs1 hs2
  refine Ll hE (β:=List (AV×AV×Nat)×Nat) n (fun i b=>[(10,u'),(15,.map 0),(16,.int .i64 1),(58,u),(59,.int .i64 (n:Int)),(60,.int .i64 (i:Int))]) (fun i b=>[.map b.1 b.2]) (fun i b=>KM (.int .i64 1) b.1 (FM a i)) ([],0) (KM.nil _) (Abs.tells (rs:=[5]) .a) ?_
  rintro i ⟨es,N⟩ hi hK
  dsimp only at hK ⊢
  by_cases hlt:i<n
  ·obtain ⟨x,_,r,h1,⟨rfl,-⟩,h3⟩:=e1 i hlt
   rw [Zqi,List.getElem?_range hlt] at h1
   cases h1
   replace h3:cs.drop (i*1)=[.int .i64 (a+(i:Int))]++r:=h3
   conv=>whnf
   repeat' (first|(refine Jk rfl rfl rfl rfl hK (fun es' N' hK'=>?_);conv=>whnf)|((first|refine Ar k1 hlt h3 ?_|refine As ?_|refine Ac ?_|refine ⟨rfl,?_⟩);conv=>whnf)|refine Aa ?_ ?_|(intro _;first|omega|conv=>whnf))
   refine ⟨hlt,(es',N'),hK',Abs.tells (rs:=[0]) ⟨by decide,⟨t9,r9,r9,t9,r9,r9,trivial⟩,⟨⟨Eb rfl hK',?_⟩,trivial⟩⟩⟩
   show _=some (AObj.map (Cc _ es') N');rw [DY rfl hK'];rfl
  ·obtain rfl:i=n:=by omega
   conv=>whnf
   repeat' (first|(refine Am k2 ?_;conv=>whnf)|refine Aa ?_ ?_|(intro _;first|omega|conv=>whnf))
   refine Aw hE n' (fun j=>[(15,.map 0),(68,u'),(69,.int .i64 (n':Int)),(70,.int .i64 (j:Int))]) (fun j=>[.map es N]) (fun j=>∀ k<j,¬(a'+(k:Int) ∈ FM a i∧(1:Int)=2)) (fun k h=>by omega) (Abs.tells (rs:=[0]) ⟨by decide,⟨r9,t9,r9,r9,trivial⟩,⟨⟨Eb rfl hK,?_⟩,trivial⟩⟩) ?_
   ·show _=some (AObj.map (Cc _ es) N);rw [DY rfl hK];rfl
   intro j hj hJ
   by_cases hjl:j<n'
   ·obtain ⟨x,_,r,h1,⟨rfl,-⟩,h3⟩:=e2 j hjl
    rw [Zqi,List.getElem?_range hjl] at h1
    cases h1
    replace h3:cs'.drop (j*1)=[.int .i64 (a'+(j:Int))]++r:=h3
    conv=>whnf
    repeat' (first|(refine Jl rfl rfl rfl hK (fun hin=>?_) (fun hin=>?_) <;> conv=>whnf)|((first|refine Ar k2 hjl h3 ?_|refine As ?_|refine Ac ?_|refine ⟨rfl,?_⟩);conv=>whnf)|refine Aa ?_ ?_|refine Ax ?_ ?_|(intro _;first|omega|conv=>whnf))
    all_goals first
     | exact ft (by rw [Hn] at hin;omega) _
     | (refine ⟨hjl,AZ hJ (fun q=>by first|exact hin q.1|exact absurd q.2 (by decide)),Abs.tells (rs:=[0]) ⟨by decide,⟨r9,t9,r9,r9,trivial⟩,⟨⟨Eb rfl hK,?_⟩,trivial⟩⟩⟩
        show _=some (AObj.map (Cc _ es) N);rw [DY rfl hK];rfl)
   ·conv=>whnf
    repeat' (first|refine Aa ?_ ?_|(intro _;first|omega|conv=>whnf))
    exact ff _
 ·replace ft:=fun q=>ft ⟨by simp,q⟩
  replace ff:=fun (q:¬(a<a'+(n':Int)∧a'<a+(n:Int)))=>ff fun q'=>q q'.2
  clear hof1 hof2 hs1 hs2
  refine Ll hE (β:=List (AV×AV×Nat)×Nat) n (fun i b=>[(10,u'),(15,.map 0),(16,.int .i64 2),(58,u),(59,.int .i64 (n:Int)),(60,.int .i64 (i:Int))]) (fun i b=>[.map b.1 b.2]) (fun i b=>KM (.int .i64 2) b.1 (FM a i)) ([],0) (KM.nil _) (Abs.tells (rs:=[5]) .a) ?_
  rintro i ⟨es,N⟩ hi hK
  dsimp only at hK ⊢
  by_cases hlt:i<n
  ·obtain ⟨x,_,r,h1,⟨rfl,-⟩,h3⟩:=e1 i hlt
   rw [Zqi,List.getElem?_range hlt] at h1
   cases h1
   replace h3:cs.drop (i*1)=[.int .i64 (a+(i:Int))]++r:=h3
   conv=>whnf
   repeat' (first|(refine Jk rfl rfl rfl rfl hK (fun es' N' hK'=>?_);conv=>whnf)|((first|refine Ar k1 hlt h3 ?_|refine As ?_|refine Ac ?_|refine ⟨rfl,?_⟩);conv=>whnf)|refine Aa ?_ ?_|(intro _;first|omega|conv=>whnf))
   refine ⟨hlt,(es',N'),hK',Abs.tells (rs:=[0]) ⟨by decide,⟨t9,r9,r9,t9,r9,r9,trivial⟩,⟨⟨Eb rfl hK',?_⟩,trivial⟩⟩⟩
   show _=some (AObj.map (Cc _ es') N');rw [DY rfl hK'];rfl
  ·obtain rfl:i=n:=by omega
   conv=>whnf
   repeat' (first|(refine Am k2 ?_;conv=>whnf)|refine Aa ?_ ?_|(intro _;first|omega|conv=>whnf))
   refine Aw hE n' (fun j=>[(15,.map 0),(68,u'),(69,.int .i64 (n':Int)),(70,.int .i64 (j:Int))]) (fun j=>[.map es N]) (fun j=>∀ k<j,¬(a'+(k:Int) ∈ FM a i∧(2:Int)=2)) (fun k h=>by omega) (Abs.tells (rs:=[0]) ⟨by decide,⟨r9,t9,r9,r9,trivial⟩,⟨⟨Eb rfl hK,?_⟩,trivial⟩⟩) ?_
   ·show _=some (AObj.map (Cc _ es) N);rw [DY rfl hK];rfl
   intro j hj hJ
   by_cases hjl:j<n'
   ·obtain ⟨x,_,r,h1,⟨rfl,-⟩,h3⟩:=e2 j hjl
    rw [Zqi,List.getElem?_range hjl] at h1
    cases h1
    replace h3:cs'.drop (j*1)=[.int .i64 (a'+(j:Int))]++r:=h3
    conv=>whnf
    repeat' (first|(refine Jl rfl rfl rfl hK (fun hin=>?_) (fun hin=>?_) <;> conv=>whnf)|((first|refine Ar k2 hjl h3 ?_|refine As ?_|refine Ac ?_|refine ⟨rfl,?_⟩);conv=>whnf)|refine Aa ?_ ?_|refine Ax ?_ ?_|(intro _;first|omega|conv=>whnf))
    all_goals first
     | exact ft (by rw [Hn] at hin;omega) _
     | (refine ⟨hjl,AZ hJ (fun q=>by first|exact hin q.1|exact absurd q.2 (by decide)),Abs.tells (rs:=[0]) ⟨by decide,⟨r9,t9,r9,r9,trivial⟩,⟨⟨Eb rfl hK,?_⟩,trivial⟩⟩⟩
        show _=some (AObj.map (Cc _ es) N);rw [DY rfl hK];rfl)
   ·conv=>whnf
    repeat' (first|refine Aa ?_ ?_|(intro _;first|omega|conv=>whnf))
    exact ff (fun q=>hJ (if a'≤a then (a-a').toNat else 0) (by split <;> omega) ⟨by rw [Hn];split <;> omega,rfl⟩) _
 ·replace ft:=fun q=>ft ⟨by simp,q⟩
  replace ff:=fun (q:¬(a<a'+(n':Int)∧a'<a+(n:Int)))=>ff fun q'=>q q'.2
  clear hof1 hof2 hs1 hs2
  refine Ll hE (β:=List (AV×AV×Nat)×Nat) n (fun i b=>[(10,u'),(15,.map 0),(16,.int .i64 2),(58,u),(59,.int .i64 (n:Int)),(60,.int .i64 (i:Int))]) (fun i b=>[.map b.1 b.2]) (fun i b=>KM (.int .i64 2) b.1 (FM a i)) ([],0) (KM.nil _) (Abs.tells (rs:=[5]) .a) ?_
  rintro i ⟨es,N⟩ hi hK
  dsimp only at hK ⊢
  by_cases hlt:i<n
  ·obtain ⟨x,_,r,h1,⟨rfl,-⟩,h3⟩:=e1 i hlt
   rw [Zqi,List.getElem?_range hlt] at h1
   cases h1
   replace h3:cs.drop (i*1)=[.int .i64 (a+(i:Int))]++r:=h3
   conv=>whnf
   repeat' (first|(refine Jk rfl rfl rfl rfl hK (fun es' N' hK'=>?_);conv=>whnf)|((first|refine Ar k1 hlt h3 ?_|refine As ?_|refine Ac ?_|refine ⟨rfl,?_⟩);conv=>whnf)|refine Aa ?_ ?_|(intro _;first|omega|conv=>whnf))
   refine ⟨hlt,(es',N'),hK',Abs.tells (rs:=[0]) ⟨by decide,⟨t9,r9,r9,t9,r9,r9,trivial⟩,⟨⟨Eb rfl hK',?_⟩,trivial⟩⟩⟩
   show _=some (AObj.map (Cc _ es') N');rw [DY rfl hK'];rfl
  ·obtain rfl:i=n:=by omega
   conv=>whnf
   repeat' (first|(refine Am k2 ?_;conv=>whnf)|refine Aa ?_ ?_|(intro _;first|omega|conv=>whnf))
   refine Aw hE n' (fun j=>[(15,.map 0),(68,u'),(69,.int .i64 (n':Int)),(70,.int .i64 (j:Int))]) (fun j=>[.map es N]) (fun j=>∀ k<j,¬(a'+(k:Int) ∈ FM a i∧(2:Int)=2)) (fun k h=>by omega) (Abs.tells (rs:=[0]) ⟨by decide,⟨r9,t9,r9,r9,trivial⟩,⟨⟨Eb rfl hK,?_⟩,trivial⟩⟩) ?_
   ·show _=some (AObj.map (Cc _ es) N);rw [DY rfl hK];rfl
   intro j hj hJ
   by_cases hjl:j<n'
   ·obtain ⟨x,_,r,h1,⟨rfl,-⟩,h3⟩:=e2 j hjl
    rw [Zqi,List.getElem?_range hjl] at h1
    cases h1
    replace h3:cs'.drop (j*1)=[.int .i64 (a'+(j:Int))]++r:=h3
    conv=>whnf
    repeat' (first|(refine Jl rfl rfl rfl hK (fun hin=>?_) (fun hin=>?_) <;> conv=>whnf)|((first|refine Ar k2 hjl h3 ?_|refine As ?_|refine Ac ?_|refine ⟨rfl,?_⟩);conv=>whnf)|refine Aa ?_ ?_|refine Ax ?_ ?_|(intro _;first|omega|conv=>whnf))
    all_goals first
     | exact ft (by rw [Hn] at hin;omega) _
     | (refine ⟨hjl,AZ hJ (fun q=>by first|exact hin q.1|exact absurd q.2 (by decide)),Abs.tells (rs:=[0]) ⟨by decide,⟨r9,t9,r9,r9,trivial⟩,⟨⟨Eb rfl hK,?_⟩,trivial⟩⟩⟩
        show _=some (AObj.map (Cc _ es) N);rw [DY rfl hK];rfl)
   ·conv=>whnf
    repeat' (first|refine Aa ?_ ?_|(intro _;first|omega|conv=>whnf))
    exact ff (fun q=>hJ (if a'≤a then (a-a').toNat else 0) (by split <;> omega) ⟨by rw [Hn];split <;> omega,rfl⟩) _
 ·replace ft:=fun q=>ft ⟨by simp,q⟩
  replace ff:=fun (q:¬(a<a'+(n':Int)∧a'<a+(n:Int)))=>ff fun q'=>q q'.2
  clear hof1 hof2 hs1 hs2
  refine Ll hE (β:=List (AV×AV×Nat)×Nat) n (fun i b=>[(10,u'),(15,.map 0),(16,.int .i64 2),(58,u),(59,.int .i64 (n:Int)),(60,.int .i64 (i:Int))]) (fun i b=>[.map b.1 b.2]) (fun i b=>KM (.int .i64 2) b.1 (FM a i)) ([],0) (KM.nil _) (Abs.tells (rs:=[5]) .a) ?_
  rintro i ⟨es,N⟩ hi hK
  dsimp only at hK ⊢
  by_cases hlt:i<n
  ·obtain ⟨x,_,r,h1,⟨rfl,-⟩,h3⟩:=e1 i hlt
   rw [Zqi,List.getElem?_range hlt] at h1
   cases h1
   replace h3:cs.drop (i*1)=[.int .i64 (a+(i:Int))]++r:=h3
   conv=>whnf
   repeat' (first|(refine Jk rfl rfl rfl rfl hK (fun es' N' hK'=>?_);conv=>whnf)|((first|refine Ar k1 hlt h3 ?_|refine As ?_|refine Ac ?_|refine ⟨rfl,?_⟩);conv=>whnf)|refine Aa ?_ ?_|(intro _;first|omega|conv=>whnf))
   refine ⟨hlt,(es',N'),hK',Abs.tells (rs:=[0]) ⟨by decide,⟨t9,r9,r9,t9,r9,r9,trivial⟩,⟨⟨Eb rfl hK',?_⟩,trivial⟩⟩⟩
   show _=some (AObj.map (Cc _ es') N');rw [DY rfl hK'];rfl
  ·obtain rfl:i=n:=by omega
   conv=>whnf
   repeat' (first|(refine Am k2 ?_;conv=>whnf)|refine Aa ?_ ?_|(intro _;first|omega|conv=>whnf))
   refine Aw hE n' (fun j=>[(15,.map 0),(68,u'),(69,.int .i64 (n':Int)),(70,.int .i64 (j:Int))]) (fun j=>[.map es N]) (fun j=>∀ k<j,¬(a'+(k:Int) ∈ FM a i∧(2:Int)=2)) (fun k h=>by omega) (Abs.tells (rs:=[0]) ⟨by decide,⟨r9,t9,r9,r9,trivial⟩,⟨⟨Eb rfl hK,?_⟩,trivial⟩⟩) ?_
   ·show _=some (AObj.map (Cc _ es) N);rw [DY rfl hK];rfl
   intro j hj hJ
   by_cases hjl:j<n'
   ·obtain ⟨x,_,r,h1,⟨rfl,-⟩,h3⟩:=e2 j hjl
    rw [Zqi,List.getElem?_range hjl] at h1
    cases h1
    replace h3:cs'.drop (j*1)=[.int .i64 (a'+(j:Int))]++r:=h3
    conv=>whnf
    repeat' (first|(refine Jl rfl rfl rfl hK (fun hin=>?_) (fun hin=>?_) <;> conv=>whnf)|((first|refine Ar k2 hjl h3 ?_|refine As ?_|refine Ac ?_|refine ⟨rfl,?_⟩);conv=>whnf)|refine Aa ?_ ?_|refine Ax ?_ ?_|(intro _;first|omega|conv=>whnf))
    all_goals first
     | exact ft (by rw [Hn] at hin;omega) _
     | (refine ⟨hjl,AZ hJ (fun q=>by first|exact hin q.1|exact absurd q.2 (by decide)),Abs.tells (rs:=[0]) ⟨by decide,⟨r9,t9,r9,r9,trivial⟩,⟨⟨Eb rfl hK,?_⟩,trivial⟩⟩⟩
        show _=some (AObj.map (Cc _ es) N);rw [DY rfl hK];rfl)
   ·conv=>whnf
    repeat' (first|refine Aa ?_ ?_|(intro _;first|omega|conv=>whnf))
    exact ff (fun q=>hJ (if a'≤a then (a-a').toNat else 0) (by split <;> omega) ⟨by rw [Hn];split <;> omega,rfl⟩) _
def Zo3:AC:=match PY with|.mk c _=>c
def Zo2:AC:=match PX with|.mk c _=>c
noncomputable def fbkF:Fn (Fl×Int×Unit):=bF (.g ftC (.v i64C .nil)) (fun x=>0≤x.2.1∧x.2.1<x.1.2.2.1.length∧x.2.1<x.1.2.2.2.1.length∧x.2.1<x.1.2.2.2.2.length) fun x=>Gz x.1 x.2.1.toNat
set_option maxHeartbeats 2000000 in
theorem Zjw (hE:EM P e) (h210:Inl e 210 Zo3 [.tmp 2]) (h211:Inl e 211 Zo2 [.tmp 2]):OvOk P 190 fbkF.O:=by
 refine Bv hE g190 ?_
 rintro ⟨⟨n,⟨k,a,m,d⟩,st,sq,da⟩,j,_⟩ _ ⟨_,_,rfl,hf,_,_,rfl,⟨e1,-⟩,rfl⟩ ⟨q1,q2,q3,q4⟩ K t f
 cases e1
 obtain ⟨dv,tv,qv,av,rfl,o1,o2,o3,o4,h1,h2,h3,h4⟩:=Dq hf
 dsimp only at q1 q2 q3 q4
 obtain ⟨i,rfl⟩:∃ i:Nat,j=i:=⟨j.toNat,by omega⟩
 obtain ⟨ts,hs1,-,hn1⟩:=h2.nth
 obtain ⟨qs,hs2,-,hn2⟩:=h3.nth
 obtain ⟨es,hs3,-,hn3⟩:=h4.nth
 obtain ⟨s,_,r1,hx1,⟨rfl,hlt⟩,hd1⟩:=hn1 i (by omega)
 obtain ⟨q,_,r2,hx2,⟨rfl,hq⟩,hd2⟩:=hn2 i (by omega)
 obtain ⟨b,_,r3,hx3,⟨u,rfl,hu⟩,hd3⟩:=hn3 i (by omega)
 obtain ⟨us,hus,-⟩:=hu.nth
 have hq:=Jz hq
 unfold Bn at hq
 have hi1:i<st.length:=by omega
 have hi2:i<sq.length:=by omega
 have hi3:i<da.length:=by omega
 unfold Gz at t f
 dsimp only at t f
 rw [Int.toNat_natCast,hx1,hx2,hx3] at t f
 unfold ST at t f
 dsimp only [Option.getD] at t f
 generalize b.length=bn at t f hus
 clear hx3 hu hf h1 h2 h3 h4 hn1 hn2 hn3 q1 q2 q3 q4
 change VW P e 0 _ (An [_,.int .i64 (i:Int)] 0 .lf) St0 none [] _
 conv=>whnf
 repeat' (first|((first|refine Ar hs1 hi1 hd1 ?_|refine Ar hs2 hi2 hd2 ?_|refine Ar hs3 hi3 hd3 ?_|refine As ?_|refine Am hus ?_|refine A8 (cs:=[.int .u8 (k:Int),.int .i64 a,.int .i64 m,dv]) rfl ?_|refine ESc.inl h210 ?_|refine ESc.inl h211 ?_|refine Cx ?_|refine ⟨rfl,?_⟩);conv=>whnf)|refine Ax ?_ ?_|refine Ap ?_ ?_|(intro _;first|omega|conv=>whnf))
 all_goals first
  | exact t (by omega) _
  | exact f (by omega) _
noncomputable def fonF:Fn (Cfg×Fl×Unit):=bF (.g cfgC (.g ftC .nil)) (fun x=>x.1.may) fun x=>JR x.1 x.2.1
set_option maxHeartbeats 2000000 in
theorem Zjj (hE:EM P e) (h189:Con e 189 sblF.O) (h190:Con e 190 fbkF.O):OvOk P 150 fonF.O:=by
 refine Bv hE g150 ?_
 rintro ⟨c,⟨n,⟨k,a,m,d⟩,st,sq,da⟩,_⟩ _ ⟨_,_,rfl,⟨rfl,hc⟩,_,_,rfl,hf,rfl⟩ hM K t f
 have hM:c.may:=hM
 obtain ⟨dv,tv,qv,av,rfl,o1,o2,o3,o4,h1,h2,h3,h4⟩:=Dq hf
 have hrow:=ftC.hf hf
 have hak:=Lk o2 o3 o4 h1
 obtain ⟨ts,hs1,hl1,-⟩:=h2.nth
 obtain ⟨qs,hs2,hl2,-⟩:=h3.nth
 obtain ⟨es,hs3,hl3,-⟩:=h4.nth
 dsimp only at t f hf hc
 have hc1:=fun (Q:AV->St->Prop) s q=>@Fn.u _ e 189 s Q sblF _ h189 (c,(k,a,m,d),()) ⟨_,_,rfl,⟨rfl,hc⟩,_,_,rfl,hak,rfl⟩ hM q
 have hc2:=fun (i:Nat) (h0:i<st.length) (hi:i<st.length∧i<sq.length∧i<da.length) (Q:AV->St->Prop) s a' b=>@bF.u _ _ _ _ e 190 s Q [_,.int .i64 (i:Int)] h190 ((n,(k,a,m,d),st,sq,da),(i:Int),()) ⟨_,_,rfl,hf,_,_,rfl,⟨rfl,Bf (show Ab (i:Int) by unfold Ab;omega)⟩,rfl⟩ ⟨Zq2 _,Int.ofNat_lt.2 hi.1,Int.ofNat_lt.2 hi.2.1,Int.ofNat_lt.2 hi.2.2⟩ a' b
 replace hc2:∀ i:Nat,i<st.length->i<sq.length->i<da.length->∀ (Q:AV->St->Prop) s,(Gz (n,(k,a,m,d),st,sq,da) i->Q (.bool true) s)->(¬Gz (n,(k,a,m,d),st,sq,da) i->Q (.bool false) s)->ESc e 190 [.agg [.int .i64 n,.int .u8 (k:Int),.int .i64 a,.int .i64 m,dv,tv,qv,av],.int .i64 (i:Int)] s Q:=fun i h1 h2 h3 Q s a b=>hc2 i h1 ⟨h1,h2,h3⟩ Q s a b
 have hk:BA c (k,a,m,d)->0≤m∧m≤8∧(k=4->m=0):=fun h=>by unfold BA at h;omega
 replace hc1:∀ (Q:AV->St->Prop) s,Q (if BU c (k,a,m,d)=0 then .tup [GO a m.toNat,.int .i64 0] else .tup [.nils,.int .i64 (BU c (k,a,m,d))]) s->ESc e 189 [.agg c.c,.agg [.int .u8 (k:Int),.int .i64 a,.int .i64 m,dv]] s Q:=hc1
 unfold JR at t f
 dsimp only at t f
 unfold Ab at o1 o3 o4
 change VW P e 0 _ (An [.agg c.c,_] 0 .lf) St0 none [] _
 by_cases hA:BA c (k,a,m,d)
 ·have hm:=hk hA
  have hsm:=O5 hM hA
  rw [Zpn (akE_iff.2 hA)] at hc1
  generalize hP:Gz (n,(k,a,m,d),st,sq,da)=R at t f hc2
  have hL:=RI (a:=a) (n:=m.toNat) (fun i hi=>by unfold Ab;omega) (by omega)
  generalize GO a m.toNat=u at *
  have huf:=hL.hf
  obtain ⟨us,hus,-,-⟩:=hL.nth
  rw [Zpq,List.length_range] at hus
  conv=>whnf
  repeat' (first|((first|refine hc1 _ _ ?_|refine Am hus ?_|refine Am hs1 ?_|refine Am hs2 ?_|refine Am hs3 ?_);conv=>whnf)|refine Aa ?_ ?_|refine Ap ?_ ?_|refine Al ?_ ?_|(intro _;first|omega|conv=>whnf))
  all_goals try exact f (fun q=>by omega) _
  all_goals
   have g1:1≤n:=by omega
   have g2:(st.length:Int)=m:=by omega
   have g3:(da.length:Int)=m:=by omega
   have g4:k≠4->(sq.length:Int)=m:=by omega
   have g5:k=4->sq.length=1:=by omega
   refine Aw hE st.length (fun i=>[(3,.ptr 1 0),(53,.int .i64 (st.length:Int)),(54,.int .i64 (i:Int))]) (fun _=>[.row 24 c.c,.row 143 [.int .i64 n,.int .u8 (k:Int),.int .i64 a,.int .i64 m,dv,tv,qv,av]]) (fun i=>∀ j<i,R j) (fun k h=>by omega) (Abs.tells (rs:=[0,1]) ⟨by decide,⟨r9,⟨rfl,?_⟩,r9,trivial⟩,⟨r9,o9 hrow,trivial⟩⟩) ?_
   ·show some (AV.int .i64 ((m.toNat:Nat):Int))=some (.int .i64 (st.length:Int));rw [show m.toNat=st.length by omega]
   intro i hi hI
   by_cases hlt:i<st.length
   ·have hc2:=hc2 i hlt (by omega) (by omega)
    conv=>whnf
    repeat' (first|(refine hc2 _ _ (fun hq=>?_) (fun hq=>?_) <;> conv=>whnf)|((first|refine A8 (cs:=[.int .i64 n,.int .u8 (k:Int),.int .i64 a,.int .i64 m,dv,tv,qv,av]) rfl ?_|refine Ac ?_|refine Au ?_|refine Av ?_|refine ⟨rfl,?_⟩);conv=>whnf)|refine Aa ?_ ?_|(intro _;first|omega|conv=>whnf))
    all_goals first
     | exact ⟨hlt,AZ hI hq,Abs.tells (rs:=[0,1]) .a⟩
     | exact f (fun q=>hq (q.2.2.2.2.2.2 i hlt)) _
   ·conv=>whnf
    repeat' (first|refine Aa ?_ ?_|(intro _;first|omega|conv=>whnf))
    exact t ⟨g1,hA,g2,g3,g4,g5,fun j hj=>hI j (by omega)⟩ _
 ·have hne:=mt akE_iff.1 hA
  rw [Zpr hne] at hc1
  generalize BU c (k,a,m,d)=E at *
  conv=>whnf
  repeat' (first|((first|refine hc1 _ _ ?_|refine AD rfl (show Sl 1 0 [] .nils from .inl ⟨rfl,rfl,rfl⟩) ?_);conv=>whnf)|refine Ap ?_ ?_|refine Al ?_ ?_|(intro _;first|omega|conv=>whnf))
  all_goals first
   | exact f (fun q=>hA q.2.1) _
   | exact absurd (by assumption) hne
def Zo5:AC:=match Qd with|.mk c _=>c
def Zo9:AC:=match Qn with|.mk c _=>c
def T3 (c:Cfg×List Fl×Int×Unit) (xs:List Fl):Prop:=c.1.may∧(0≤c.2.2.1∧c.2.2.1<c.2.1.length)∧(∀ y,c.2.1[c.2.2.1.toNat]?=some y->BA c.1 y.2.1)∧∀ x ∈ xs,BA c.1 x.2.1
def LE (c:Cfg×List Fl×Int×Unit) (x:Fl):Prop:=∀ y,c.2.1[c.2.2.1.toNat]?=some y->Ge x.2.1 y.2.1
abbrev f1H:Sg (Cfg×List Fl×Int×Unit):=.p cfgC (.p ftC.sl (.p i64C .nil))
noncomputable def ix192:Fn (List Fl×(Cfg×List Fl×Int×Unit)×Unit):=CF ftC 192 f1H T3 LE
theorem Zk1 (h192:Inl e 192 Zo5 [.tmp 5]) (h193:Con e 193 tchF.O):Fj e ftC AV.agg 192 f1H T3 LE:=by
 rintro ⟨c,L,a,_⟩ q xs ⟨n,⟨k,at',m,d⟩,st,sq,da⟩ l ⟨_,_,rfl,⟨rfl,hc⟩,_,_,rfl,⟨lv,rfl,hL⟩,_,_,rfl,⟨rfl,ha⟩,rfl⟩ ⟨hM,ha0,hy,hxs⟩ hmem hx Q t f
 dsimp only at hc hL ha hM ha0 hy hxs
 have hkx:=hxs _ hmem
 obtain ⟨dv,tv,qv,av,rfl,o1,o2,o3,o4,h1,-⟩:=Dq hx
 obtain ⟨cs,hs,hl,hn⟩:=hL.nth
 obtain ⟨⟨n',⟨k',a',m',d'⟩,st',sq',da'⟩,_,r,hx',hxr,hd⟩:=hn a.toNat (by omega)
 have hky:=hy _ hx'
 obtain ⟨dv',tv',qv',av',rfl,p1,p2,p3,p4,g1,-⟩:=Dq hxr
 unfold LE at t f
 dsimp only at t f hkx hky
 rw [hx'] at t f
 have hcall:=fun (Q:AV->St->Prop) s q=>@Fn.u _ e 193 s Q tchF [.agg c.c,.agg [.int .u8 (k:Int),.int .i64 at',.int .i64 m,dv],.agg [.int .u8 (k':Int),.int .i64 a',.int .i64 m',dv']] h193 (c,(k,at',m,d),(k',a',m',d'),()) ⟨_,_,rfl,⟨rfl,hc⟩,_,_,rfl,Lk o2 o3 o4 h1,_,_,rfl,Lk p2 p3 p4 g1,rfl⟩ ⟨hM,hkx,hky⟩ q
 replace hcall:∀ (Q:AV->St->Prop) s,Q (.tup [pB (Ge (k,at',m,d) (k',a',m',d')),.int .i64 0]) s->ESc e 193 [.agg c.c,.agg [.int .u8 (k:Int),.int .i64 at',.int .i64 m,dv],.agg [.int .u8 (k':Int),.int .i64 a',.int .i64 m',dv']] s Q:=hcall
 refine ECall.inl h192.O h192.G ?_
 change VE e _ (An [.agg [.int .i64 n,.int .u8 (k:Int),.int .i64 at',.int .i64 m,dv,tv,qv,av],.fp c.c,.fp [lv],.fp [.int .i64 a]] 0 .lf) _ none [] _
 classical
 by_cases hm:Ge (k,at',m,d) (k',a',m',d')
 all_goals
  unfold pB at hcall
  first|rw [Zpo hm] at hcall|rw [Zp0 hm] at hcall
  conv=>whnf
  repeat' (first|((first|refine A8 (cs:=c.c) rfl ?_|refine As ?_|refine Cj rfl hs rfl (show a=(a.toNat:Nat) by omega) (by omega) hd ?_|refine A8 (cs:=[.int .u8 (k':Int),.int .i64 a',.int .i64 m',dv']) rfl ?_|refine hcall _ _ ?_);conv=>whnf)|fail)
  first
   | exact t (fun y e=>by cases e;exact hm) _
   | exact f (fun q=>hm (q _ rfl)) _
noncomputable def ffsF:Fn (Cfg×List Fl×Int×Unit):=bF (.g cfgC (.v ftC.sl (.v i64C .nil))) (fun x=>x.1.may∧(0≤x.2.2.1∧x.2.2.1<x.2.1.length)∧∀ k:Nat,(k:Int)≤x.2.2.1->∀ y,x.2.1[k]?=some y->BA x.1 y.2.1) fun x=>GA x.2.1 x.2.2.1.toNat
theorem Zjt (hE:EM P e) (h107:Inl e 107 Tc [.tmp 4]) (h154:Con e 154 (relS (CC ix192.R))):OvOk P 153 ffsF.O:=by
 refine Bv hE g153 ?_
 rintro ⟨c,L,a,_⟩ _ ⟨_,_,rfl,⟨rfl,hc⟩,v,_,rfl,⟨_,e0,hL⟩,_,_,rfl,⟨e1,z1⟩,rfl⟩ ⟨hM,ha0,hk⟩ K t f
 cases e0
 cases e1
 dsimp only at hc hL hM ha0 hk t f
 have hvf:=hL.hf
 have hok:T3 (c,L,a,()) (L.take a.toNat):=⟨hM,ha0,fun y h=>hk a.toNat (by omega) y h,fun x hx=>by
  obtain ⟨i,hi⟩:=Zra hx
  rw [Zqw] at hi
  split at hi
  ·exact hk i (by omega) x hi
  ·cases hi⟩
 have hidx:=fun (u:AV) (hu:Ls ftC (L.take a.toNat) u) (Q:AV->St->Prop) s k r0 r1 r2 (g0:s.get r0=some (.row 24 c.c)) (g1:s.get r1=some (.row 31 [v])) (g2:s.get r2=some (.row 3 [.int .i64 a]))=>@I5 _ ix192 e 154 s Q h154 u 192 [.ptr r0 0,.ptr r1 0,.ptr r2 0] [.fp c.c,.fp [v],.fp [.int .i64 a]] (L.take a.toNat,(c,L,a,()),()) ⟨_,_,rfl,⟨_,rfl,hu⟩,_,_,rfl,⟨_,_,rfl,⟨rfl,hc⟩,_,_,rfl,⟨_,rfl,hL⟩,_,_,rfl,⟨rfl,z1⟩,rfl⟩,rfl⟩ hok (.cons ⟨r0,24,_,rfl,rfl,g0,rfl⟩ (.cons ⟨r1,31,_,rfl,rfl,g1,by show (AM.hf v && true)=true;rw [hvf];rfl⟩ (.cons ⟨r2,3,_,rfl,rfl,g2,rfl⟩ .nil))) rfl k
 have hpe:(∃ x ∈ L.take a.toNat,LE (c,L,a,()) x)↔¬GA L a.toNat:=by
  unfold GA LE
  dsimp only
  obtain ⟨y,hy⟩:∃ y,L[a.toNat]?=some y:=⟨_,Zpj (by omega)⟩
  rw [hy]
  constructor
  ·rintro ⟨x,hx,hp⟩ h
   obtain ⟨i,hi⟩:=Zra hx
   rw [Zqw] at hi
   split at hi
   ·exact h y rfl i (by omega) x hi (hp y rfl)
   ·cases hi
  ·intro h
   refine Classical.byContradiction fun hn=>h fun z hz i hi x hx hm=>hn ⟨x,Zp5 (i:=i) (by rw [Zqw,Zpn hi];exact hx),fun w hw=>?_⟩
   cases hz;cases hw;exact hm
 change VW P e 0 _ (An [.agg c.c,v,.int .i64 a] 0 .lf) St0 none [] _
 obtain ⟨i,rfl⟩:∃ i:Nat,a=i:=⟨a.toNat,by omega⟩
 rw [Int.toNat_natCast] at *
 have hcl:=hL.cell
 conv=>whnf
 repeat' (first|(refine XZ h107 (p:=LE (c,L,(i:Int),())) (xs:=L.take i) (fun Q k=>hidx u hu Q _ k _ _ _ rfl (by show some (AObj.row 31 (cellsOf v))=_;rw [hcl]) rfl) (fun q=>?_) (fun q=>?_) <;> conv=>whnf)|((first|refine NU rfl hL rfl rfl (show i≤L.length by omega) (fun u hu=>?_)|refine DA (by show Nat.beq (A7 (cellsOf v)) 1=true;rw [hcl];rfl) ?_|refine BE v (by show load1 1 0 _=_;exact QY (r:=1) (e:=31) (cs:=[v]) (by show some (AObj.row 31 (cellsOf v))=_;rw [hcl]) rfl) ?_|refine Au ?_|refine Av ?_);conv=>whnf)|fail)
 ·exact f (hpe.1 q) _
 ·exact t (Classical.byContradiction fun h=>q (hpe.2 h)) _
noncomputable def ix152:Fn (List Nat×Unit×Unit):=CF Ce.u8 152 .nil (fun _ _=>True) fun _ s=>s≠0
theorem Zk4 (h152:Inl e 152 Zo9 [.tmp 2]):Fj e Ce.u8 one 152 .nil (fun _ _=>True) (fun (_:Unit) s=>s≠0):=by
 rintro c q xs s l rfl _ _ ⟨rfl,hs⟩ Q y n
 refine ECall.inl h152.O h152.G ?_
 change VE e _ (An [.int .u8 (s:Int)] 0 .lf) _ none [] _
 conv=>whnf
 repeat' (first|refine Al ?_ ?_|(intro _;first|omega|conv=>whnf))
 all_goals first
  | exact y (by omega) _
  | exact n (by omega) _
noncomputable def fchF:Fn (Cfg×List Fl×Unit):=cF (.g cfgC (.v ftC.sl .nil)) (fun _=>True) fun x=>x.1.may∧EX x.1 x.2.1
set_option maxHeartbeats 2000000 in
theorem Zjv (hE:EM P e) (h103:Con e 103 cfgF.O) (h150:Con e 150 fonF.O) (h151:Inl e 151 YA [.tmp 4]) (h153:Con e 153 ffsF.O) (h191:Con e 191 (relS (CC ix152.R))):OvOk P 106 fchF.O:=by
 refine JG hE g106 ?_
 rintro ⟨c,L,_⟩ _ ⟨_,_,rfl,⟨rfl,hc⟩,v,_,rfl,⟨_,e0,hL⟩,rfl⟩-K t f
 cases e0
 dsimp only at t f hc hL
 have hvf:=hL.hf
 obtain ⟨cs,hs',hl,hn⟩:=hL.nth
 change VW P e 0 _ (An [.agg c.c,v] 0 .lf) St0 none [] _
 by_cases hM:c.may
 ·have hcf:=Td h103 hc hM
  replace t:=fun q=>t ⟨hM,q⟩
  replace f:=fun (q:¬EX c L)=>f fun q'=>q q'.2
  have hc2:=fun y l (hy:ftC.r y l) (Q:AV->St->Prop) s a b=>@bF.u _ _ _ _ e 150 s Q [.agg c.c,.agg l] h150 (c,y,()) ⟨_,_,rfl,⟨rfl,hc⟩,_,_,rfl,hy,rfl⟩ hM a b
  have hc4:∀ i:Nat,i<L.length->(∀ k≤i,∀ y,L[k]?=some y->BA c y.2.1)->∀ (Q:AV->St->Prop) s,(GA L i->Q (.bool true) s)->(¬GA L i->Q (.bool false) s)->ESc e 153 [.agg c.c,v,.int .i64 (i:Int)] s Q:=fun i hi hS Q s a b=>@bF.u _ _ _ _ e 153 s Q _ h153 (c,L,(i:Int),()) ⟨_,_,rfl,⟨rfl,hc⟩,_,_,rfl,⟨_,rfl,hL⟩,_,_,rfl,⟨rfl,Bf (show Ab (i:Int) by unfold Ab;omega)⟩,rfl⟩ ⟨hM,⟨Zq2 _,Int.ofNat_lt.2 hi⟩,fun k hk=>hS k (Int.ofNat_le.1 hk)⟩ a b
  have hc3:=fun (st:List Nat) (u:AV) (hu:Ls Ce.u8 st u) (Q:AV->St->Prop) s k=>@I5 _ ix152 e 191 s Q h191 u 152 [] [] (st,(),()) ⟨_,_,rfl,⟨_,rfl,hu⟩,_,_,rfl,rfl,rfl⟩ trivial .nil rfl k
  replace hc3:=fun (st:List Nat) (u:AV) (hu:Ls Ce.u8 st u) (Q:AV->St->Prop) s y n=>Znl (k:=Q) (s:=s) h151 (p:=fun (s:Nat)=>s≠0) (xs:=st) (fun Q k=>hc3 st u hu Q s k) y n
  unfold EX at t f
  conv=>whnf
  repeat' (first|((first|refine hcf _ _ ?_|refine AD rfl hs' ?_);conv=>whnf)|refine Ax ?_ ?_|refine Al ?_ ?_|(intro _;first|omega|conv=>whnf))
  ·exact f (fun q=>by omega) _
  have h8:L.length≤8:=by omega
  refine Aw hE L.length (fun i=>[(1,v),(2,.ptr 0 0),(16,v),(17,.int .i64 (L.length:Int)),(18,.int .i64 (i:Int))]) (fun _=>[.row 24 c.c]) (fun i=>∀ k<i,∀ y,L[k]?=some y->HL c L k y) (fun k h=>by omega) (Abs.tells (rs:=[0]) .a) ?_
  intro i hi hI
  by_cases hlt:i<L.length
  ·obtain ⟨y,l,r,hx,hcr,hd'⟩:=hn i hlt
   have hN:¬HL c L i y->∀ s,K (.int .i64 8) s:=fun h=>f fun q=>h (q.2 i hlt y hx)
   have hT:HL c L i y->∀ k<i+1,∀ y,L[k]?=some y->HL c L k y:=fun h=>AZ hI fun z hz=>by rw [hx] at hz;cases hz;exact h
   have hc2:=hc2 y l hcr
   have hc4:=fun h=>hc4 i hlt fun j hk z hz=>(by
    rcases Nat.lt_or_eq_of_le hk with hk|rfl
    ·obtain ⟨n,⟨k,a,m,d⟩,st,sq,da⟩:=z
     exact (hI j hk _ hz).1.2.1
    ·rw [hx] at hz;cases hz;exact h:BA c z.2.1)
   obtain ⟨n,⟨k,a,m,d⟩,st,sq,da⟩:=y
   obtain ⟨dv,tv,qv,av,rfl,o1,o2,o3,o4,-,h2,-⟩:=Dq hcr
   have hc3:=hc3 st tv h2
   have hwt:¬(∃ x ∈ st,x≠0)↔Sh (n,(k,a,m,d),st,sq,da):=by
    unfold Sh
    dsimp only
    constructor
    ·intro h j hj s hs
     exact Classical.byContradiction fun q=>h ⟨s,Zp5 hs,q⟩
    ·rintro h ⟨s,hs,q⟩
     obtain ⟨j,hj⟩:=Zra hs
     exact q (h j (Zpk.1 hj).1 s hj)
   dsimp only at hc2 hc4
   clear t f hI
   by_cases h0:0<i
   ·obtain ⟨⟨n',⟨k',a',m',d'⟩,st',sq',da'⟩,l',r',hx',hc',hd2⟩:=hn (i-1) (by omega)
    obtain ⟨dv',tv',qv',av',rfl,-⟩:=Dq hc'
    conv=>whnf
    repeat' (first|(refine hc2 _ _ (fun hq=>?_) (fun hq=>?_) <;> conv=>whnf)|(refine hc3 _ _ (fun hw=>?_) (fun hw=>?_) <;> conv=>whnf)|(refine hc4 hq.2.1 _ _ (fun hr=>?_) (fun hr=>?_) <;> conv=>whnf)|((first|refine Cj rfl hs' rfl (show (i:Int)-1=((i-1:Nat):Int) by omega) (by omega) hd2 ?_|refine Ar hs' hlt hd' ?_|refine A8 (cs:=[.int .i64 n,.int .u8 (k:Int),.int .i64 a,.int .i64 m,dv,tv,qv,av]) rfl ?_|refine As ?_|refine Ac ?_|refine AL ?_|refine Au ?_|refine Av ?_|refine ⟨rfl,?_⟩);conv=>whnf)|refine Aa ?_ ?_|refine B8 ?_ ?_|refine Ax ?_ ?_|(intro _;first|omega|conv=>whnf))
    all_goals first
     | exact hN (fun q=>hq q.1) _
     | exact hN (fun q=>by have:=q.2.1 h0 _ hx';dsimp only at this;omega) _
     | exact hN (fun q=>q.2.2.elim (fun w=>hwt.2 w hw) hr) _
     | exact ⟨hlt,hT ⟨hq,fun _ x hx2=>by rw [hx'] at hx2;cases hx2;dsimp only;omega,.inr hr⟩,Abs.tells (rs:=[0]) .a⟩
     | exact ⟨hlt,hT ⟨hq,fun _ x hx2=>by rw [hx'] at hx2;cases hx2;dsimp only;omega,.inl (hwt.1 hw)⟩,Abs.tells (rs:=[0]) .a⟩
   ·conv=>whnf
    repeat' (first|(refine hc2 _ _ (fun hq=>?_) (fun hq=>?_) <;> conv=>whnf)|(refine hc3 _ _ (fun hw=>?_) (fun hw=>?_) <;> conv=>whnf)|(refine hc4 hq.2.1 _ _ (fun hr=>?_) (fun hr=>?_) <;> conv=>whnf)|((first|refine Ar hs' hlt hd' ?_|refine A8 (cs:=[.int .i64 n,.int .u8 (k:Int),.int .i64 a,.int .i64 m,dv,tv,qv,av]) rfl ?_|refine As ?_|refine Ac ?_|refine Au ?_|refine Av ?_|refine ⟨rfl,?_⟩);conv=>whnf)|refine Aa ?_ ?_|refine Ax ?_ ?_|(intro _;first|omega|conv=>whnf))
    all_goals first
     | exact hN (fun q=>hq q.1) _
     | exact hN (fun q=>q.2.2.elim (fun w=>hwt.2 w hw) hr) _
     | exact ⟨hlt,hT ⟨hq,fun h=>absurd h h0,.inr hr⟩,Abs.tells (rs:=[0]) .a⟩
     | exact ⟨hlt,hT ⟨hq,fun h=>absurd h h0,.inl (hwt.1 hw)⟩,Abs.tells (rs:=[0]) .a⟩
  ·conv=>whnf
   repeat' (first|refine Aa ?_ ?_|(intro _;first|omega|conv=>whnf))
   exact t ⟨h8,fun k hk=>hI k (by omega)⟩ _
 ·have hcf:=Te h103 hc hM
  conv=>whnf
  repeat' (first|(refine hcf _ _ ?_;conv=>whnf)|refine Al ?_ ?_|(intro _;first|omega|conv=>whnf))
  exact f (fun q=>hM q.1) _
end Go.AM
