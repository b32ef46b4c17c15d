/- Contracts of functions over the abstract machine. No conditions. -/
import Derived.Test.YtblggmblcjoalaaGreatStA
import Derived.Test.YtblggmblcjoalaaGreatAM5
set_option linter.unusedVariables false
set_option linter.unusedSimpArgs false
set_option maxRecDepth 100000
namespace Go.AM
attribute [local irreducible] W
open X
structure WR where
 at_:Int
 u:AV
 b:List Nat
def WR.c (w:WR):List AV:=[.int .i64 w.at_,w.u]
structure WR.any (w:WR):Prop where
 at_:i64B w.at_
 b:BAt w.u w.b
def wrs (L:List WR):List AV:=L.flatMap WR.c
theorem wrs_cons (x:WR) (L:List WR):wrs (x::L)=x.c++wrs L:=rfl
theorem wrs_length:∀ (L:List WR),(wrs L).length=L.length*2
 | []=>rfl
 | x::L=>by rw [wrs_cons,List.length_append,wrs_length L,List.length_cons];show 2+_=_;omega
theorem wrs_drop:∀ (L:List WR) (i:Nat),(wrs L).drop (i*2)=wrs (L.drop i)
 | L,0=>by simp
 | [],i+1=>by simp [wrs]
 | x::L,i+1=>by
  rw [List.drop_succ_cons,← wrs_drop L i,wrs_cons,show (i+1)*2=x.c.length+i*2 by show (i+1)*2=2+i*2;omega,List.drop_append,List.drop_eq_nil_of_le (by omega),List.nil_append]
  congr 1;omega
theorem wrs_drop_cons {L:List WR}{i:Nat}(h:i<L.length):(wrs L).drop (i*2)=L[i].c++wrs (L.drop (i+1)):=by
 rw [wrs_drop,List.drop_eq_getElem_cons h,wrs_cons]
theorem WR.inj {x y:WR}(hx:x.any) (hy:y.any) (h:x.c=y.c):x=y:=by
 obtain ⟨a,u,b⟩:=x
 obtain ⟨a',u',b'⟩:=y
 simp [WR.c] at h
 obtain ⟨rfl,rfl⟩:=h
 have:=hx.b.inj hy.b
 dsimp only at this
 rw [this]
theorem wrs_inj:∀ {L M:List WR},(∀ o ∈ L,o.any)->(∀ o ∈ M,o.any)->wrs L=wrs M->L=M
 | [],[],_,_,_=>rfl
 | [],y::M,_,_,h=>by have:=congrArg List.length h;rw [wrs_length,wrs_length] at this;simp at this
 | x::L,[],_,_,h=>by have:=congrArg List.length h;rw [wrs_length,wrs_length] at this;simp at this
 | x::L,y::M,hx,hy,h=>by
  rw [wrs_cons,wrs_cons] at h
  obtain ⟨h1,h2⟩:=List.append_inj h rfl
  rw [WR.inj (hx x (by simp)) (hy y (by simp)) h1,wrs_inj (fun o ho=>hx o (by simp [ho])) (fun o ho=>hy o (by simp [ho])) h2]
structure DK where
 bv:AV
 us:List AV
 bs:List (List Nat)
 wv:AV
 ws:List WR
 dead:Bool
def DK.c (x:DK):List AV:=[x.bv,x.wv,.bool x.dead]
def DK.v (x:DK):AV:=.agg x.c
structure DK.any (x:DK):Prop where
 bl:Sl 1 x.us.length x.us x.bv
 bs:All2 BAt x.us x.bs
 wl:Sl 2 x.ws.length (wrs x.ws) x.wv
 ws:∀ w ∈ x.ws,w.any
structure DK.ok (x:DK):Prop where
 a:x.any
 n:x.us.length<1000000
 m:x.ws.length<1000000
 b:∀ b ∈ x.bs,b.length<1000000
 w:∀ w ∈ x.ws,w.b.length<1000000
theorem All2.BAt_inj:∀ {us:List AV}{bs bs':List (List Nat)},All2 BAt us bs->All2 BAt us bs'->bs=bs':=by
 intro us
 induction us with
 | nil=>intro _ _ a b;cases a;cases b;rfl
 | cons u us ih=>
  intro _ _ a b
  cases a with
  | cons a1 a2=>cases b with
   | cons b1 b2=>rw [a1.inj b1,ih a2 b2]
variable {x:DK}
theorem DK.inj {y:DK}(hx:x.any) (hy:y.any) (h:x.v=y.v):x=y:=by
 obtain ⟨bv,us,bs,wv,ws,dd⟩:=x
 obtain ⟨bv',us',bs',wv',ws',dd'⟩:=y
 have h:=AV.agg.inj h
 simp [DK.c] at h
 obtain ⟨rfl,rfl,rfl⟩:=h
 have e1:=hx.bl.l_inj hy.bl
 have e2:=wrs_inj hx.ws hy.ws (hx.wl.l_inj hy.wl)
 dsimp only at e1 e2
 subst e1 e2
 have e3:=All2.BAt_inj hx.bs hy.bs
 dsimp only at e3
 rw [e3]
theorem DK.hf (h:x.any):AM.hf x.v=true:=by
 show (AM.hf x.bv && (AM.hf x.wv && (true && true)))=true
 rw [h.bl.hf,h.wl.hf];rfl
def fstI (p:Nat->Bool):List Nat->Nat->Int
 | [],_=>-1
 | n::l,i=>if p n then (i:Int) else fstI p l (i+1)
theorem fstI_any (p:Nat->Bool):∀ (l:List Nat) (i:Nat),(0≤fstI p l i↔l.any p=true)
 | [],i=>by simp [fstI]
 | n::l,i=>by
  unfold fstI
  rw [List.any_cons]
  cases h:p n
  ·simp only [Bool.false_or,Bool.false_eq_true,if_false];exact fstI_any p l (i+1)
  ·simp
theorem fidx_run (e:Env) (hE:EM P e) (p:Nat->Bool) (g:Nat) (hg:∀ (x:BN),x.ok->∀ (s:St) (K:AV->St->Prop),K (.bool (p x.n)) s->ECall e g [x.v] s K) (x:BL) (hx:x.ok) (Q:AV->St->Prop) (k:∀ s,Q (.int .i64 (fstI p x.ns 0)) s):
 VW P e 0 code138 (initT [x.v,.fn g [] []] 0 .lf) St0 none [] (EEnd [.tmp 4] Q):=by
 obtain ⟨v,us,ns⟩:=x
 obtain ⟨hs,hb,hl⟩:=hx
 dsimp only at hs hb hl k ⊢
 have hlen:=hb.length
 conv=>whnf
 refine nq21 hs ?_;conv=>whnf
 refine W.loopS (α:=Nat) (fun i=>[(0,v),(1,.fn g [] []),(7,.int .i64 (us.length:Int)),(8,.int .i64 (i:Int))]) (fun i=>[]) (fun i=>us.length-i)
  (fun i=>i≤us.length∧fstI p ns 0=fstI p (ns.drop i) i) 0 [] ⟨Nat.zero_le _,rfl⟩ ⟨by decide,⟨t9 hs.hf,r9,r9,r9,trivial⟩,trivial⟩ ?_
 rintro i ⟨hi,hI⟩
 refine vs_sound hE ?_;conv=>whnf
 refine EPrim.lss2 rfl rfl (fun h=>?_) (fun h=>?_) <;> conv=>whnf
 ·have hlt:i<us.length:=by omega
  have hln:i<ns.length:=by omega
  refine EPrim.ixsS rfl hs rfl hlt ?_;conv=>whnf
  refine EHead.mk (v:=us[i]) (by rw [Nat.mul_one,List.getElem?_drop,Nat.add_zero,List.getElem?_eq_getElem hlt]) ?_;conv=>whnf
  obtain ⟨n,hn,hbn⟩:=hb.get (List.getElem?_eq_getElem hlt)
  have hn':ns[i]=n:=by rw [List.getElem?_eq_getElem hln] at hn;exact Option.some.inj hn
  rw [List.drop_eq_getElem_cons hln,hn'] at hI
  refine hg ⟨us[i],n⟩ hbn _ _ ?_
  rw [show fstI p (n::ns.drop (i+1)) i=if p n then (i:Int) else fstI p (ns.drop (i+1)) (i+1) from rfl] at hI
  dsimp only
  cases ho:p n
  ·rw [ho,if_neg (by decide)] at hI
   conv=>whnf
   repeat' (first|((first|refine nq7 ?_|refine ⟨rfl,?_⟩);conv=>whnf)|fail)
   refine ⟨i+1,⟨hlt,hI⟩,by omega,[],⟨by decide,⟨t9 hs.hf,r9,r9,⟨rfl,by simp;rfl⟩,trivial⟩,trivial⟩⟩
  ·rw [ho,if_pos rfl] at hI
   conv=>whnf
   rw [hI] at k;exact k _
 ·have hd:ns.drop i=[]:=List.drop_eq_nil_of_le (by omega)
  rw [hd] at hI
  have hI:fstI p ns 0=-1:=hI
  rw [hI] at k;exact k _
def fidxF (p:Nat->Bool) (g:Nat):Fam BL:=⟨BL.ok,fun x=>[x.v,.fn g [] []],fun x=>.int .i64 (fstI p x.ns 0),fun x y hx hy h=>by rw [BL.inj hx hy (List.cons.inj h).1]⟩
theorem fidxF_ok {e:Env}(hE:EM P e) (p:Nat->Bool) (g:Nat) (hg:∀ (x:BN),x.ok->∀ (s:St) (K:AV->St->Prop),K (.bool (p x.n)) s->ECall e g [x.v] s K):OvOk P 253 (fidxF p g).O:=by
 refine Fam.ok_of g253.b fun x hx=>?_
 refine ⟨by show (AM.hf x.v && (true && true && true))=true;rw [hx.sl.hf];rfl,rfl,C.of_G hE g253 (fidx_run e hE p g hg x hx _ fun s=>.plain _ rfl)⟩
def orO (h1 h2:Ov):Ov:=fun args s=>match h1 args s with
 | .fail=>h2 args s
 | r=>r
theorem orO_ok {f:Nat}{h1 h2:Ov}(q1:OvOk P f h1) (q2:OvOk P f h2):OvOk P f (orO h1 h2):=by
 refine ⟨q1.1,fun args s v s' h=>?_⟩
 unfold orO at h
 cases hq:h1 args s with
 | fail=>rw [hq] at h;exact q2.2 args s v s' h
 | ok v1 s1=>rw [hq] at h;cases h;exact q1.2 args s _ _ hq
end Go.AM
namespace Go.AM
open Go.RowKit
end Go.AM
namespace Go.AM
open X
def cfgC:Ce Cfg:=⟨6,fun c l=>l=c.c∧c.ok,by rintro _ _ ⟨rfl,_⟩;rfl,by rintro _ _ ⟨rfl,_⟩;rfl,by rintro _ _ _ ⟨rfl,_⟩ ⟨h,_⟩;exact Cfg.inj h⟩
def lvC:Ce Lv:=⟨6,fun c l=>l=c.c∧c.ok,by rintro _ _ ⟨rfl,_⟩;rfl,by rintro _ _ ⟨rfl,_⟩;rfl,by
 rintro ⟨⟩ ⟨⟩ _ ⟨rfl,_⟩ ⟨h,_⟩
 simp [Lv.c] at h
 obtain ⟨rfl,rfl,rfl,rfl,rfl,rfl⟩:=h;rfl⟩
abbrev i64C:=Ce.int .i64
abbrev u32C:=Ce.int .u32
abbrev bytC:=Ce.u8.sl
abbrev blkC:=bytC.sl
abbrev Hd:=Int×List (List Nat)×List Bool×Nat×Bool×Int
def hdC:Ce Hd:=i64C.pr (blkC.pr (Ce.bool.sl.pr (Ce.u8.pr (Ce.bool.pr u32C))))
abbrev Lg:=Int×Int×Int×Int×List Lv
def lgC:Ce Lg:=u32C.pr (u32C.pr (i64C.pr (i64C.pr lvC.sl)))
abbrev Ak:=Nat×Int×Int×List Nat
def akC:Ce Ak:=Ce.u8.pr (i64C.pr (i64C.pr bytC))
abbrev Fl:=Int×Ak×List Nat×List Int×List (List Nat)
def ftC:Ce Fl:=i64C.pr (akC.pr (bytC.pr (u32C.sl.pr blkC)))
abbrev Lo:=Int×Int×Bool×Int×Int×Bool×Bool
def loC:Ce Lo:=u32C.pr (i64C.pr (Ce.bool.pr (i64C.pr (i64C.pr (Ce.bool.pr Ce.bool)))))
abbrev Dv:=Cfg×Bool×Lo×List Hd×Lg×List Fl×Int×Bool
def dvC:Ce Dv:=cfgC.pr (Ce.bool.pr (loC.pr (hdC.sl.pr (lgC.pr (ftC.sl.pr (i64C.pr Ce.bool))))))
abbrev Dk:=List (List Nat)×List (Int×List Nat)×Bool
def wrC:Ce (Int×List Nat):=i64C.pr bytC
def dkC:Ce Dk:=blkC.pr (wrC.sl.pr Ce.bool)
variable {sq:Int}{l:List AV}
theorem hd_of {st:Int}{bl:List (List Nat)}{di:List Bool}{ph:Nat}{de:Bool}(h:hdC.r (st,bl,di,ph,de,sq) l):∃ bv dv,l=[.int .i64 st,bv,dv,.int .u8 (ph:Int),.bool de,.int .u32 sq]∧i64B st∧Ls bytC bl bv∧Ls Ce.bool di dv∧ph<256∧u32B sq:=by
 obtain ⟨_,_,rfl,⟨rfl,h1⟩,_,_,rfl,⟨bv,rfl,h2⟩,_,_,rfl,⟨dv,rfl,h3⟩,_,_,rfl,⟨rfl,h4⟩,_,_,rfl,rfl,rfl,h5⟩:=h
 exact ⟨bv,dv,rfl,wf_i64 h1,h2,h3,h4,wf_u32 h5⟩
variable {ag tl us:Int}{L:List Lv}
theorem lg_of (h:lgC.r (ag,sq,tl,us,L) l):∃ v,l=[.int .u32 ag,.int .u32 sq,.int .i64 tl,.int .i64 us,v]∧u32B ag∧u32B sq∧i64B tl∧i64B us∧Ls lvC L v:=by
 obtain ⟨_,_,rfl,⟨rfl,h1⟩,_,_,rfl,⟨rfl,h2⟩,_,_,rfl,⟨rfl,h3⟩,_,_,rfl,⟨rfl,h4⟩,v,rfl,h5⟩:=h
 exact ⟨v,rfl,wf_u32 h1,wf_u32 h2,wf_i64 h3,wf_i64 h4,h5⟩
variable {k:Nat}{a m:Int}{d:List Nat}
theorem ak_of (h:akC.r (k,a,m,d) l):∃ v,l=[.int .u8 (k:Int),.int .i64 a,.int .i64 m,v]∧k<256∧i64B a∧i64B m∧Ls Ce.u8 d v:=by
 obtain ⟨_,_,rfl,⟨rfl,h1⟩,_,_,rfl,⟨rfl,h2⟩,_,_,rfl,⟨rfl,h3⟩,v,rfl,h4⟩:=h
 exact ⟨v,rfl,h1,wf_i64 h2,wf_i64 h3,h4⟩
theorem fl_of {n:Int}{st:List Nat}{sq:List Int}{da:List (List Nat)}(h:ftC.r (n,(k,a,m,d),st,sq,da) l):∃ dv tv qv av,l=[.int .i64 n,.int .u8 (k:Int),.int .i64 a,.int .i64 m,dv,tv,qv,av]∧i64B n∧k<256∧i64B a∧i64B m∧Ls Ce.u8 d dv∧Ls Ce.u8 st tv∧Ls u32C sq qv∧Ls bytC da av:=by
 obtain ⟨_,_,rfl,⟨rfl,h1⟩,_,_,rfl,h2,_,_,rfl,⟨tv,rfl,h3⟩,_,_,rfl,⟨qv,rfl,h4⟩,av,rfl,h5⟩:=h
 obtain ⟨dv,rfl,g1,g2,g3,g4⟩:=ak_of h2
 exact ⟨dv,tv,qv,av,rfl,wf_i64 h1,g1,g2,g3,g4,h3,h4,h5⟩
variable {sp:Bool}
theorem lo_of {ev lo:Int}{po dn:Int}{nl br:Bool}(h:loC.r (ev,lo,sp,po,dn,nl,br) l):l=[.int .u32 ev,.int .i64 lo,.bool sp,.int .i64 po,.int .i64 dn,.bool nl,.bool br]∧u32B ev∧i64B lo∧i64B po∧i64B dn:=by
 obtain ⟨_,_,rfl,⟨rfl,h1⟩,_,_,rfl,⟨rfl,h2⟩,_,_,rfl,rfl,_,_,rfl,⟨rfl,h3⟩,_,_,rfl,⟨rfl,h4⟩,_,_,rfl,rfl,rfl⟩:=h
 exact ⟨rfl,wf_u32 h1,wf_i64 h2,wf_i64 h3,wf_i64 h4⟩
theorem dv_of {c:Cfg}{bk:Bool}{o:Lo}{hs:List Hd}{fs:List Fl}{nx:Int}(h:dvC.r (c,bk,o,hs,(ag,sq,tl,us,L),fs,nx,sp) l):∃ ol hv lv fv,l=c.c++([.bool bk]++(ol++[hv,.int .u32 ag,.int .u32 sq,.int .i64 tl,.int .i64 us,lv,fv,.int .i64 nx,.bool sp]))∧c.ok∧loC.r o ol∧Ls hdC hs hv∧u32B ag∧u32B sq∧i64B tl∧i64B us∧Ls lvC L lv∧Ls ftC fs fv∧i64B nx:=by
 obtain ⟨_,_,rfl,⟨rfl,h1⟩,_,_,rfl,rfl,ol,_,rfl,h3,_,_,rfl,⟨hv,rfl,h4⟩,_,_,rfl,h5,_,_,rfl,⟨fv,rfl,h6⟩,_,_,rfl,⟨rfl,h7⟩,rfl⟩:=h
 obtain ⟨lv,rfl,g⟩:=lg_of h5
 exact ⟨ol,hv,lv,fv,rfl,h1,h3,h4,g.1,g.2.1,g.2.2.1,g.2.2.2.1,g.2.2.2.2,h6,wf_i64 h7⟩
variable {bs:List (List Nat)}
theorem dk_of {ws:List (Int×List Nat)}{dd:Bool}(h:dkC.r (bs,ws,dd) l):∃ bv wv,l=[bv,wv,.bool dd]∧Ls bytC bs bv∧Ls wrC ws wv:=by
 obtain ⟨_,_,rfl,⟨bv,rfl,h1⟩,_,_,rfl,⟨wv,rfl,h2⟩,rfl⟩:=h
 exact ⟨bv,wv,rfl,h1,h2⟩
theorem flat_u8:∀ {b:List Nat}{ls:List (List AV)},All2 Ce.u8.r b ls->ls.flatten=bys b∧∀ x ∈ b,x<256
 | [],_,h=>by cases h;exact ⟨rfl,fun x h=>by cases h⟩
 | x::b,_,h=>by
  cases h with
  | cons h1 h2=>
   obtain ⟨e,g⟩:=flat_u8 h2
   obtain ⟨rfl,hx⟩:=h1
   refine ⟨by rw [List.flatten_cons,e];rfl,fun y hy=>?_⟩
   rcases List.mem_cons.1 hy with rfl|hy
   ·exact hx
   ·exact g y hy
variable {v:AV}
theorem Ls.b {b:List Nat}(h:Ls Ce.u8 b v):BAt v b:=by
 obtain ⟨ls,a,s,_⟩:=h
 obtain ⟨e,g⟩:=flat_u8 a
 rw [e] at s
 exact ⟨s,g⟩
theorem Ls.bl (h:Ls bytC bs v):∃ us,Sl 1 us.length us v∧All2 BAt us bs:=by
 obtain ⟨ls,a,s,_⟩:=h
 have key:∀ {bs:List (List Nat)}{ls:List (List AV)},All2 bytC.r bs ls->All2 BAt ls.flatten bs:=by
  intro bs
  induction bs with
  | nil=>intro _ h;cases h;exact .nil
  | cons b bs ih=>
   intro _ h
   cases h with
   | cons h1 h2=>
    obtain ⟨u,rfl,g⟩:=h1
    exact .cons g.b (ih h2)
 have h1:=key a
 exact ⟨_,by rw [h1.length];exact s,h1⟩
theorem Ls.lv (h:Ls lvC L v):∃ cs,Sl 6 L.length cs v∧L.length≤9223372036854775807∧∀ i,i<L.length->∃ sq st bl pa su ho r,L[i]?=some ⟨sq,st,bl,pa,su,ho⟩∧(u32B sq∧i64B st∧i64B bl)∧cs.drop (i*6)=[.int .u32 sq,.int .i64 st,.int .i64 bl,.bool pa,.bool su,.bool ho]++r:=by
 obtain ⟨cs,h1,h2,hn⟩:=h.nth
 refine ⟨cs,h1,h2,fun i hi=>?_⟩
 obtain ⟨⟨sq,st,bl,pa,su,ho⟩,_,r,hx,⟨rfl,⟨o1,o2,o3⟩⟩,hd⟩:=hn i hi
 exact ⟨sq,st,bl,pa,su,ho,r,hx,⟨o1,o2,o3⟩,hd⟩
theorem ak_mk (h1:k<256) (h2:i64B a) (h3:i64B m) (h4:Ls Ce.u8 d v):akC.r (k,a,m,d) [.int .u8 (k:Int),.int .i64 a,.int .i64 m,v]:=
 ⟨[_],_,rfl,⟨rfl,h1⟩,[_],_,rfl,⟨rfl,i64_wf h2⟩,[_],_,rfl,⟨rfl,i64_wf h3⟩,v,rfl,h4⟩
end Go.AM
namespace Go.AM
attribute [local irreducible] W
open X
theorem Fam.O_run {α:Type}(F:Fam α) {x:α}(hx:F.ok x) (s:St):F.O (F.enc x) s=.ok (F.out x) s:=by
 have h:∃ u,∃ y,F.ok y∧F.enc x=F.enc y∧u=F.out y:=⟨_,x,hx,rfl,rfl⟩
 unfold Fam.O relO
 rw [dif_pos h]
 obtain ⟨y,hy,e,hu⟩:=Classical.choose_spec h
 rw [hu,F.inj x y hx hy e]
theorem Fam.O_no {α:Type}(F:Fam α) {args:List AV}(h:∀ x,F.ok x->args≠F.enc x) (s:St):F.O args s=.fail:=by
 unfold Fam.O relO
 rw [dif_neg]
 rintro ⟨u,y,hy,e,_⟩
 exact h y hy e
def posB (n:Nat):Bool:=decide (0<n)
noncomputable def dskI:Ov:=orO (fidxF oddB 179).O (fidxF posB 182).O
variable {s:St}{K:AV->St->Prop}
theorem dskI_odd {e:Env}(h:Con e 253 dskI) {x:BL}(hx:x.ok) (hk:K (.int .i64 (fstI oddB x.ns 0)) s):ESc e 253 [x.v,.fn 179 [] []] s K:=by
 refine ESc.ov h (v:=.int .i64 (fstI oddB x.ns 0)) (s':=s) ?_ hk
 unfold dskI orO
 rw [show (fidxF oddB 179).O [x.v,.fn 179 [] []] s=.ok (.int .i64 (fstI oddB x.ns 0)) s from Fam.O_run (fidxF oddB 179) hx s]
theorem dskI_pos {e:Env}(h:Con e 253 dskI) {x:BL}(hx:x.ok) (hk:K (.int .i64 (fstI posB x.ns 0)) s):ESc e 253 [x.v,.fn 182 [] []] s K:=by
 refine ESc.ov h (v:=.int .i64 (fstI posB x.ns 0)) (s':=s) ?_ hk
 unfold dskI orO
 rw [Fam.O_no (fidxF oddB 179) (fun y hy e=>by
  have e:=(List.cons.inj (List.cons.inj e).2).1
  injection e with e;cases e) s]
 exact Fam.O_run (fidxF posB 182) hx s
theorem fcon_run {e:Env}(p:Nat->Bool) (g:Nat) (v:AV) (ns:List Nat) (s:St) (hcall:∀ (K:AV->St->Prop),K (.int .i64 (fstI p ns 0)) s->ESc e 253 [v,.fn g [] []] s K) (Q:AV->St->Prop) (k:Q (.bool (ns.any p)) s):
 VE e code93 (initT [v,.fn g [] []] 0 .lf) s none [] (EEnd [.tmp 4] Q):=by
 conv=>whnf
 refine hcall _ ?_;conv=>whnf
 have ha:=fstI_any p ns 0
 refine EPrim.geq2 rfl rfl (fun h=>?_) (fun h=>?_) <;> conv=>whnf
 ·rw [ha.1 h] at k;exact k
 ·have:ns.any p=false:=by
   cases hq:ns.any p
   ·rfl
   ·have:=ha.2 hq;omega
  rw [this] at k;exact k
theorem oddF143_ok {e:Env}(hE:EM P e):OvOk P 179 oddF.O:=by
 refine Fam.ok_of g179.b ?_
 rintro ⟨v,n⟩ hx
 obtain ⟨⟨l,hv⟩,hn⟩:=hx
 dsimp only at hv hn
 refine ⟨by show (AM.hf v && true)=true;rw [hv.hf];rfl,rfl,C.of_G hE g179 ?_⟩
 have fin:∀ s (b:Bool),b=oddB n->Frz s (.bool b) (oddF.out ⟨v,n⟩):=by
  rintro s b rfl;exact .plain _ rfl
 unfold oddB at fin
 show VW P e 0 (match a179 with|.mk c _=>c) (initT [v] 0 .lf) St0 none [] _
 conv=>whnf
 repeat' (first|(refine nq21 hv ?_;conv=>whnf)|refine nq6 ?_ ?_|(intro _;first|omega|conv=>whnf))
 all_goals first
  | exact fin _ _ (by rw [decide_eq_true (by omega),decide_eq_true (by omega)];rfl)
  | exact fin _ _ (by rw [decide_eq_true (by omega),decide_eq_false (by omega)];rfl)
  | exact fin _ _ (by rw [decide_eq_false (by omega)];rfl)
def code146:AC:=match a182 with|.mk c _=>c
theorem dskI_ok {e:Env}(hE:EM P e) (h143:Con e 179 oddF.O) (h146:Inl e 182 code146 [.tmp 2]):OvOk P 253 dskI:=by
 refine orO_ok (fidxF_ok hE oddB 179 (fun x hx s K hk=>?_)) (fidxF_ok hE posB 182 (fun x hx s K hk=>?_))
 ·exact ECall.fam oddF h143 x hx rfl hk
 ·obtain ⟨⟨l,hv⟩,hn⟩:=hx
  refine ECall.inl h146.O h146.G ?_
  unfold posB at hk
  conv=>whnf
  repeat' (first|(refine nq21 hv ?_;conv=>whnf)|refine nq3 ?_ ?_|(intro _;first|omega|conv=>whnf))
  ·rw [decide_eq_true (by omega)] at hk;exact hk
  ·rw [decide_eq_false (by omega)] at hk;exact hk
def wBad (many:Int) (w:WR):Bool:=decide (w.at_<0) || decide (many≤w.at_) || oddB w.b.length
def fstW (p:WR->Bool):List WR->Nat->Int
 | [],_=>-1
 | n::l,i=>if p n then (i:Int) else fstW p l (i+1)
theorem fstW_any (p:WR->Bool):∀ (l:List WR) (i:Nat),(0≤fstW p l i↔l.any p=true)
 | [],i=>by simp [fstW]
 | n::l,i=>by
  unfold fstW
  rw [List.any_cons]
  cases h:p n
  ·simp only [Bool.false_or,Bool.false_eq_true,if_false];exact fstW_any p l (i+1)
  ·simp
structure WI where
 v:AV
 ws:List WR
 r:Nat
 many:Int
structure WI.ok (x:WI) (s:St):Prop where
 sl:Sl 2 x.ws.length (wrs x.ws) x.v
 w:∀ w ∈ x.ws,w.any∧w.b.length<1000000
 g:s.get x.r=some (.row 3 [.int .i64 x.many])
 m:i64B x.many
 n:x.ws.length<1000000
def WI.args (x:WI):List AV:=[x.v,.fn 181 [] [.ptr x.r 0]]
def WI.out (x:WI):AV:=.int .i64 (fstW (wBad x.many) x.ws 0)
noncomputable def widxO:Ov:=fun args s=>open Classical in if h:∃ x:WI,x.ok s∧args=x.args then .ok (Classical.choose h).out s else .fail
theorem widxO_run {x:WI}(hx:x.ok s):widxO x.args s=.ok x.out s:=by
 have h:∃ y:WI,y.ok s∧x.args=y.args:=⟨x,hx,rfl⟩
 unfold widxO
 rw [dif_pos h]
 obtain ⟨h1,h2⟩:=Classical.choose_spec h
 generalize Classical.choose h=y at h1 h2 ⊢
 obtain ⟨v,ws,r,m⟩:=x
 obtain ⟨v',ws',r',m'⟩:=y
 simp [WI.args] at h2
 obtain ⟨rfl,rfl⟩:=h2
 have e1:=wrs_inj (fun o ho=>(hx.w o ho).1) (fun o ho=>(h1.w o ho).1) (hx.sl.l_inj h1.sl)
 have e2:=hx.g.symm.trans h1.g
 dsimp only at e1 e2
 injection e2 with e2
 injection e2 with _ e2
 injection e2 with e2
 injection e2 with _ e2
 subst e1 e2;rfl
def code163:AC:=match a189 with|.mk c _=>c
def code145:AC:=match a181 with|.mk c _=>c
def code144:AC:=match a180 with|.mk c _=>c
theorem widxO_ok {e:Env}(hE:EM P e) (h143:Con e 179 oddF.O) (h145:Inl e 181 code145 [.tmp 3]):OvOk P 189 widxO:=by
 refine ⟨g189.b,fun args s u s' hh=>?_⟩
 unfold widxO at hh
 split at hh
 ·rename_i hx
  cases hh
  obtain ⟨h1,h2⟩:=Classical.choose_spec hx
  generalize Classical.choose hx=y at h1 h2 ⊢
  subst h2
  obtain ⟨v,ws,r,m⟩:=y
  obtain ⟨hs,hw,hg,hmb,hn⟩:=h1
  dsimp only at hs hw hg hmb hn
  have hvf:=hs.hf
  refine C.view (args2:=[v,.fn 181 [] [.fp [.int .i64 m]]]) (.cons (.plain _ hvf) (.cons (.fn 181 [] [.ptr r 0] [] [.fp [.int .i64 m]] .nil (.cons (.ptr r 0 3 [.int .i64 m] [.int .i64 m] [.int .i64 m] hg (fun i x h=>by rw [Nat.zero_add];exact h) (.cons (.plain _ rfl) .nil)) .nil)) .nil)) rfl (C.freeze ?_ ?_)
  ·show (AM.hf v && _)=true;rw [hvf];rfl
  refine C.of_G hE g189 ?_
  show VW P e 0 code163 (initT [v,.fn 181 [] [.fp [.int .i64 m]]] 0 .lf) St0 none [] (EEnd [.tmp 4] (fun w s'=>Frz s' w (.int .i64 (fstW (wBad m) ws 0))))
  conv=>whnf
  refine nq21 hs ?_;conv=>whnf
  refine W.loopT (α:=Nat) (fun i=>[(0,v),(1,.fn 181 [] [.fp [.int .i64 m]]),(7,.int .i64 (ws.length:Int)),(8,.int .i64 (i:Int))]) (fun _=>[]) (fun i=>ws.length-i) (fun i=>i≤ws.length∧fstW (wBad m) ws 0=fstW (wBad m) (ws.drop i) i) 0 ⟨Nat.zero_le _,rfl⟩
   (Abs.tells (rs:=[]) .a) ?_
  rintro i ⟨hi,hI⟩
  refine vs_sound hE ?_
  by_cases hlt:i<ws.length
  ·have hd:=wrs_drop_cons hlt
   obtain ⟨⟨hwa,hwb⟩,hwl⟩:=hw _ (List.getElem_mem hlt)
   rw [List.drop_eq_getElem_cons hlt] at hI
   have hall:=And.intro hI (And.intro hd (And.intro hwa (And.intro hwb hwl)))
   clear hI hd hwa hwb hwl
   revert hall
   generalize ws[i]=w
   obtain ⟨wa,wu,wb⟩:=w
   rintro ⟨hI,hd,hwa,hwb,hwl⟩
   have hd:(wrs ws).drop (i*2)=[.int .i64 wa,wu]++wrs (ws.drop (i+1)):=hd
   have hI:fstW (wBad m) ws 0=if wBad m ⟨wa,wu,wb⟩ then (i:Int) else fstW (wBad m) (ws.drop (i+1)) (i+1):=hI
   unfold wBad at hI
   dsimp only at hI hwl hwb
   have yes:∀ b:Bool,b=true->(decide (wa<0) || decide (m≤wa) || oddB wb.length)=b->fstW (wBad m) ws 0=(i:Int):=fun b hb he=>by
    rw [he,hb,if_pos rfl] at hI;exact hI
   have no:(decide (wa<0) || decide (m≤wa) || oddB wb.length)=false->fstW (wBad m) ws 0=fstW (wBad m) (ws.drop (i+1)) (i+1):=fun he=>by
    rw [he,if_neg (by simp)] at hI;exact hI
   clear hI
   have hcell:∀ (K:List AV->Prop),K [.int .i64 wa,wu]->ETake 2 ([.int .i64 wa,wu]++wrs (ws.drop (i+1))) K:=fun K hk=>ETake.eq rfl hk
   have hend:∀ t s,fstW (wBad m) ws 0=fstW (wBad m) (ws.drop (i+1)) (i+1)->t.get 0=some v->t.get 1=some (.fn 181 [] [.fp [.int .i64 m]])->t.get 7=some (.int .i64 (ws.length:Int))->t.get 8=some (.int .i64 ((i:Int)+1))->
    ∃ x',(x'≤ws.length∧fstW (wBad m) ws 0=fstW (wBad m) (ws.drop x') x')∧ws.length-x'<ws.length-i∧Tells P 0 t s [] (ofL [(0,v),(1,.fn 181 [] [.fp [.int .i64 m]]),(7,.int .i64 (ws.length:Int)),(8,.int .i64 (x':Int))]) (allocs St0 []) []:=fun t s h0 g0 g1 g7 g8=>
    ⟨i+1,⟨hlt,h0⟩,by omega,Abs.tells (rs:=[]) ⟨by decide,⟨⟨hf_bd _ hvf,by rw [hf_mapV _ hvf];exact g0⟩,⟨rfl,g1⟩,⟨rfl,g7⟩,⟨rfl,g8⟩,trivial⟩,trivial⟩⟩
   conv=>whnf
   refine EPrim.lss2 rfl rfl (fun _=>?_) (fun h=>by omega);conv=>whnf
   refine EPrim.ixsS rfl hs rfl hlt ?_
   rw [hd]
   conv=>whnf
   refine hcell _ ?_;conv=>whnf
   refine ECall.inl h145.O h145.G ?_;conv=>whnf
   refine EPrim.lss2 (a:=wa) (b:=0) rfl rfl (fun h1=>?_) (fun h1=>?_)
   ·conv=>whnf
    skip
    rw [yes true rfl (by rw [decide_eq_true h1];rfl)];exact .plain _ rfl
   conv=>whnf
   refine nq22 ?_;conv=>whnf
   refine EPrim.geq2 (a:=wa) (b:=m) rfl rfl (fun h2=>?_) (fun h2=>?_)
   ·conv=>whnf
    skip
    rw [yes true rfl (by rw [decide_eq_true h2];simp)];exact .plain _ rfl
   conv=>whnf
   refine ESc.fam oddF h143 ⟨wu,wb.length⟩ ⟨⟨_,hwb.1⟩,by dsimp only;omega⟩ (u:=.bool (oddB wb.length)) rfl ?_
   have e1:(decide (wa<0) || decide (m≤wa) || oddB wb.length)=oddB wb.length:=by rw [decide_eq_false (by omega),decide_eq_false (by omega)];rfl
   cases ho:oddB wb.length
   ·conv=>whnf
    repeat' (first|((first|refine nq7 ?_|refine ⟨rfl,?_⟩);conv=>whnf)|fail)
    exact hend _ _ (no (by rw [e1];exact ho)) rfl rfl rfl rfl
   ·conv=>whnf
    skip
    rw [yes true rfl (by rw [e1];exact ho)];exact .plain _ rfl
  ·have hd:ws.drop i=[]:=List.drop_eq_nil_of_le (by omega)
   rw [hd] at hI
   have hI:fstW (wBad m) ws 0=-1:=hI
   conv=>whnf
   refine EPrim.lss2 rfl rfl (fun h=>by omega) (fun _=>?_);conv=>whnf
   rw [hI];exact .plain _ rfl
 ·cases hh
def dskB (x:DK):Bool:=decide (1≤x.us.length∧x.us.length≤256∧x.ws.length≤1024) && !((x.bs.map List.length).any oddB) && !(x.ws.any (wBad x.us.length)) && !(x.dead && (decide (0<x.ws.length) || (x.bs.map List.length).any posB))
def dskF:Fam DK:=⟨DK.ok,fun x=>[x.v],fun x=>.int .i64 (if dskB x=true then 0 else 8),fun x y hx hy h=>by rw [DK.inj hx.a hy.a (List.cons.inj h).1]⟩
theorem all2_mapD {us:List AV}{bs:List (List Nat)}(h:All2 BAt us bs) (hs:∀ b ∈ bs,b.length<1000000):All2 (fun u n=>BN.ok ⟨u,n⟩) us (bs.map List.length):=by
 induction h with
 | nil=>exact .nil
 | @cons u b us bs a _ ih=>exact .cons ⟨⟨_,a.1⟩,by have:=hs b (by simp);dsimp only;omega⟩ (ih fun c hc=>hs c (by simp [hc]))
def code101:AC:=match a96 with|.mk c _=>c
theorem dskF_ok {e:Env}(hE:EM P e) (h93:Inl e 178 code93 [.tmp 4]) (h138:Con e 253 dskI) (h144:Inl e 180 code144 [.tmp 4]) (h163:Con e 189 widxO):OvOk P 96 dskF.O:=by
 refine Fam.ok_of g96.b fun x hx=>?_
 refine ⟨by show (AM.hf x.v && true)=true;rw [DK.hf hx.a];rfl,rfl,C.of_G hE g96 ?_⟩
 have fin:∀ s (n:Int),n=(if dskB x=true then 0 else 8)->Frz s (.int .i64 n) (dskF.out x):=by rintro s n rfl;exact .plain _ rfl
 obtain ⟨⟨hbl,hbs,hwl,hws⟩,hn,hm',hb',hw'⟩:=hx
 obtain ⟨bv,us,bs,wv,ws,dd⟩:=x
 dsimp only at hbl hbs hwl hws hn hm' hb' hw'
 have hBL:BL.ok ⟨bv,us,bs.map List.length⟩:=⟨hbl,all2_mapD hbs hb',by dsimp only;omega⟩
 have hodd:=fun (K:AV->St->Prop) (s:St)=>fcon_run (e:=e) oddB 179 bv (bs.map List.length) s (fun K hk=>dskI_odd h138 hBL hk) K
 have hpos:=fun (K:AV->St->Prop) (s:St)=>fcon_run (e:=e) posB 182 bv (bs.map List.length) s (fun K hk=>dskI_pos h138 hBL hk) K
 have hwa:=fstW_any (wBad us.length) ws 0
 unfold dskB at fin
 dsimp only at fin
 show VW P e 0 code101 (initT [.agg [bv,wv,.bool dd]] 0 .lf) St0 none [] _
 conv=>whnf
 refine nq21 hbl ?_;conv=>whnf
 by_cases hT:1≤us.length∧us.length≤256∧ws.length≤1024
 ·rw [decide_eq_true hT] at fin
  repeat' (first|(refine nq21 hwl ?_;conv=>whnf)|refine nq1 ?_ ?_|refine nq3 ?_ ?_|(intro _;first|omega|conv=>whnf))
  refine ESc.inl h93 (hodd _ _ ?_)
  cases ho:(bs.map List.length).any oddB
  ·rw [ho] at fin
   conv=>whnf
   skip
   refine ESc.inl h144 ?_;conv=>whnf
   refine ESc.ov h163 (widxO_run (x:=⟨wv,ws,1,us.length⟩) ⟨hwl,fun w hw=>⟨hws w hw,hw' w hw⟩,rfl,by unfold i64B;dsimp only;omega,by dsimp only;omega⟩) ?_;conv=>whnf
   cases hw:ws.any (wBad us.length)
   ·have hwn:¬ (0≤fstW (wBad us.length) ws 0):=fun h=>by rw [hwa.1 h] at hw;cases hw
    rw [hw] at fin
    refine EPrim.geq2 (a:=fstW (wBad us.length) ws 0) (b:=0) rfl rfl (fun h=>absurd h hwn) (fun _=>?_)
    cases dd
    ·conv=>whnf
     skip
     exact fin _ 0 (by simp)
    ·conv=>whnf
     repeat' (first|(refine nq21 hwl ?_;conv=>whnf)|refine nq3 ?_ ?_|(intro _;first|omega|conv=>whnf))
     ·exact fin _ 8 (by rw [decide_eq_true (by omega)];simp)
     ·refine ESc.inl h93 (hpos _ _ ?_)
      rw [decide_eq_false (by omega)] at fin
      cases hp:(bs.map List.length).any posB
      ·rw [hp] at fin
       conv=>whnf
       skip
       exact fin _ 0 (by simp)
      ·rw [hp] at fin
       conv=>whnf
       skip
       exact fin _ 8 (by simp)
   ·rw [hw] at fin
    refine EPrim.geq2 (a:=fstW (wBad us.length) ws 0) (b:=0) rfl rfl (fun _=>?_) (fun h=>absurd (hwa.2 hw) (by omega));conv=>whnf
    skip
    exact fin _ 8 (by simp)
  ·rw [ho] at fin
   conv=>whnf
   skip
   exact fin _ 8 (by simp)
 ·rw [decide_eq_false hT] at fin
  repeat' (first|(refine nq21 hwl ?_;conv=>whnf)|refine nq1 ?_ ?_|refine nq3 ?_ ?_|(intro _;first|omega|conv=>whnf))
  all_goals first|exact fin _ 8 (by simp)|(exfalso;omega)
def code98:AC:=match a80 with|.mk c _=>c
def code141:AC:=match a155 with|.mk c _=>c
def code96:AC:=match a78 with|.mk c _=>c
def code139:AC:=match a153 with|.mk c _=>c
def code97:AC:=match a79 with|.mk c _=>c
def code51:AC:=match a23 with|.mk c _=>c
def cpD (b:List Nat):Option Nat:=if b.length=0 then some 128 else none
variable {u:AV}
theorem blkD_run {e:Env}(h98:Inl e 80 code98 [.tmp 2]) (h141:Inl e 155 code141 [.tmp 2]) {b:List Nat}(hb:BAt u b) (hl:b.length=0∨b.length=128) (hs:s.next<1000000)
 (k0:b.length=0->K (.sl s.next 0 128 (some 128)) (s.alloc (.row 5 (bys (pad b)))))
 (k1:b.length=128->K (.sl (s.alloc (.row 5 [])).next 0 128 none) ((s.alloc (.row 5 [])).alloc (.row 5 (bys (pad b))))):ESc e 80 [u] s K:=by
 refine ESc.inl h98 ?_;conv=>whnf
 refine EPrim.lenZ rfl hb.1 ?_;conv=>whnf
 rcases hl with h0|h1
 ·have hb0:b=[]:=List.length_eq_zero_iff.1 h0
  subst hb0
  repeat' (first|(refine EPrim.mksB (n:=127) rfl rfl (by decide) ?_;conv=>whnf)|refine nq5 ?_ ?_|(intro _;first|omega|conv=>whnf))
  exact k0 rfl
 ·have hp:pad b=b:=pad_of h1
  rw [hp] at k1
  obtain ⟨c,rfl⟩:∃ c,u=.fz b.length c (bys b):=by
   rcases hb.1 with ⟨_,h,_⟩|⟨_,h,_⟩|⟨c,h,_⟩
   ·omega
   ·omega
   ·exact ⟨c,h⟩
  have hne:∃ x l,bys b=x::l:=by
   cases b with
   | nil=>simp at h1
   | cons y l=>exact ⟨_,_,rfl⟩
  obtain ⟨x,l,hxl⟩:=hne
  have hbl:=bys_length b
  repeat' (first|((first|refine ESc.inl h141 ?_|refine eqbNil rfl rfl (.inr ⟨_,_,_,rfl⟩) ?_);conv=>whnf)|refine nq5 ?_ ?_|(intro _;first|omega|conv=>whnf))
  refine EPrim.app1 (c:=x) (cs:=l) (m:=128) rfl rfl ?_ (St.alloc_self _ _ (by omega)) ?_ (by omega) (by omega) ?_
  ·show takeL (b.length*1) (bys b)=_
   rw [takeL_of (by omega),List.take_of_length_le (by omega),hxl]
  ·show (x::l).length / 1=_
   rw [← hxl];omega
  rw [← hxl]
  conv=>whnf
  exact k1 h1
def lastW (at_:Int):List WR->Option (List Nat)
 | []=>none
 | w::l=>if w.at_=at_ then some w.b else lastW at_ l
def drdL (ws:List WR) (at_:Int) (b:List Nat):List Nat:=(lastW at_ ws.reverse).getD b
def asg51:AC:=match rngIn code51 with|some (a,_)=>a|none=>.skip
def body51:AC:=match rngIn code51 with|some (_,b)=>b|none=>.skip
def rest51:AC:=match code51 with
 | .seq _ (.seq _ (.seq _ r))=>r
 | _=>.skip
def tlD (cp:Option Nat):List (Nat×AV):=[(3,.ptr 0 0),(4,.ptr 1 0),(5,.ptr 2 0),(6,.sl 3 0 128 cp),(21,.fn 154 [] [.ptr 4 0])]
def osD (at_:Int) (b:List Nat) (wv:AV):List AObj:=[.row 3 [.int .i64 at_],.row 54 [.nils],.row 28 [.int .i64 0],.row 5 (bys (pad b)),.row 72 [wv]]
noncomputable def osD2 (at_:Int) (b:List Nat) (wv:AV) (cp:Option Nat):List AObj:=[.row 3 [.int .i64 at_],.row 54 [.nils],.row 28 [.int .i64 0],.row 5 (bys (pad b)),.row 72 [wv],.defd,.loop .ready none 0 (ofL (tlD cp)) [22,23] asg51 body51 5]
theorem drd_rest {e:Env}(hE:EM P e) (h97:Inl e 79 code97 [.tmp 2]) (h98:Inl e 80 code98 [.tmp 2]) (h141:Inl e 155 code141 [.tmp 2])
 (x:DK) (hx:x.ok) (at_:Int) (hat:i64B at_) (hn:x.ws.length≤1024) (hwl:∀ w ∈ x.ws,w.b.length=0∨w.b.length=128) (b0:List Nat) (K:AV->St->Prop)
 (hk:∀ s r,s.get r=some (.row 5 (bys (pad (drdL x.ws at_ b0))))->K (.tup [.sl r 0 128 (cpD (drdL x.ws at_ b0)),.int .i64 0]) s):
 W P 0 none rest51 (ofL [(2,.ptr 0 0),(3,.ptr 1 0),(4,.ptr 2 0),(5,.ptr 3 0),(6,.sl 4 0 128 (cpD b0))]) (allocs St0 [.row 74 x.c,.row 3 [.int .i64 at_],.row 54 [.nils],.row 28 [.int .i64 0],.row 5 (bys (pad b0))]) [] (Ends [.cell 4,.cell 5] K):=by
 obtain ⟨⟨hbl,hbs,hws,hwa⟩,hun,hwn,hbb,hww⟩:=hx
 obtain ⟨bv,us,bs,wv,ws,dd⟩:=x
 dsimp only at hbl hbs hws hwa hun hwn hbb hww hn hwl hk
 obtain ⟨cp,hcp⟩:∃ cp,cp=cpD b0:=⟨_,rfl⟩
 rw [← hcp]
 show W P 0 none rest51 (ofL [(2,.ptr 0 0),(3,.ptr 1 0),(4,.ptr 2 0),(5,.ptr 3 0),(6,.sl 4 0 128 cp)]) (allocs St0 [.row 74 [bv,wv,.bool dd],.row 3 [.int .i64 at_],.row 54 [.nils],.row 28 [.int .i64 0],.row 5 (bys (pad b0))]) [] (Ends [.cell 4,.cell 5] K)
 refine W.endV hE ?_;conv=>whnf
 refine ESc.inl h97 ?_;conv=>whnf
 refine stuckB (by show Nat.beq (lenL (cellsOf wv)) 1=true;rw [hws.cells];rfl) ?_
 rw [hws.cells]
 conv=>whnf
 have hwf:hfs [wv]=true:=by show (AM.hf wv && true)=true;rw [hws.hf];rfl
 have hpf:∀ b,hfs (bys b)=true:=fun b=>scs_hfs_bys b
 refine W.tells (Abs.tells (tl:=tlD cp) (os:=osD at_ b0 wv) (rs:=[1,2,3,4,5])
  ⟨by decide,⟨r9,r9,r9,r9,r9,trivial⟩,⟨r9,r9,r9,o9 (hpf _),o9,trivial⟩⟩) ?_
 refine W.rngI (f:=154) (first:=[]) (cap:=[.ptr 4 0]) g154.b rfl ?_ ?_
 ·intro q hq
  have hq:q<5:=hq
  rcases q with _|_|_|_|_|q
  ·exact .tmp 3 (.ptr 0 0) rfl rfl
  ·exact .tmp 4 (.ptr 1 0) rfl rfl
  ·exact .tmp 5 (.ptr 2 0) rfl rfl
  ·exact .tmp 6 (.sl 3 0 128 cp) rfl rfl
  ·exact .tmp 21 (.fn 154 [] [.ptr 4 0]) rfl rfl
  ·omega
 show C1 P 154 [.yld 6,.ptr 4 0] (allocs St0 (osD2 at_ b0 wv cp)) (fun _ s'=>RngOut 6 [5] (ofL (tlD cp)) s' _)
 refine C1.of_G hE g154 ?_;conv=>whnf
 refine nq21 hws ?_;conv=>whnf
 repeat' (first|(refine nq8 ?_;conv=>whnf)|fail)
 have hlb:bdO 7 7 (.loop .ready none 0 (ofL (tlD cp)) [22,23] asg51 body51 5)=true:=rfl
 refine W.loopT (k:=7) (α:=Nat) (fun i=>[(0,.yld 6),(1,.ptr 4 0),(3,.int .i64 ((i:Int)-1))]) (fun i=>osD2 at_ b0 wv cp) (fun i=>i) (fun i=>i≤ws.length∧lastW at_ ws.reverse=lastW at_ (ws.take i).reverse) ws.length ⟨Nat.le_refl _,by rw [List.take_length]⟩
  (AbsK.tells (rs:=[0,1,2,3,4,5,6]) ⟨rfl,by decide,⟨r9,r9,r9,trivial⟩,⟨r9,r9,r9,o9 (hpf _),o9,r9,⟨hlb,rfl⟩,trivial⟩⟩) ?_
 rintro j ⟨hj,hh⟩
 refine vs_sound hE ?_;conv=>whnf
 refine EPrim.geq2 rfl rfl (fun h=>?_) (fun h=>?_) <;> conv=>whnf
 ·obtain ⟨i,rfl⟩:∃ i,j=i+1:=⟨j-1,by omega⟩
  have hlt:i<ws.length:=by omega
  rw [show ((i+1:Nat):Int)-1=(i:Int) by omega]
  have hd:=wrs_drop_cons hlt
  have hwm:=List.getElem_mem hlt
  have hwa':=hwa _ hwm
  have hwl':=hwl _ hwm
  have hst:lastW at_ ws.reverse=if ws[i].at_=at_ then some ws[i].b else lastW at_ (ws.take i).reverse:=by
   rw [hh,List.take_succ_eq_append_getElem hlt,List.reverse_append];rfl
  have hall:=And.intro hd (And.intro hwa' (And.intro hwl' hst))
  clear hd hwa' hwl' hst hwm
  revert hall
  generalize ws[i]=w
  obtain ⟨wa,wu,wb⟩:=w
  rintro ⟨hd,⟨hwa1,hwb⟩,hwl',hst⟩
  have hd:(wrs ws).drop (i*2)=[.int .i64 wa,wu]++wrs (ws.drop (i+1)):=hd
  dsimp only at hwa1 hwb hwl' hst
  refine EPrim.ixsS rfl hws rfl hlt ?_
  rw [hd]
  conv=>whnf
  have hcell:∀ (K:List AV->Prop),K [.int .i64 wa,wu]->ETake 2 ([.int .i64 wa,wu]++wrs (ws.drop (i+1))) K:=fun K hk=>ETake.eq rfl hk
  refine hcell _ ?_;conv=>whnf
  refine ERound.mk ?_
  have hrun:∀ b cp',drdL ws at_ b0=b->cp'=cpD b->∀ s r,s.get r=some (.row 5 (bys (pad b)))->K (.tup [.sl r 0 128 cp',.int .i64 0]) s:=fun b cp' h1 h2 s r h=>by
   subst h1 h2;exact hk s r h
  conv=>whnf
  refine EPrim.eql2 (a:=wa) (b:=at_) rfl rfl (fun he=>?_) (fun he=>?_)
  ·rw [if_pos he] at hst
   have hL:drdL ws at_ b0=wb:=by unfold drdL;rw [hst];rfl
   conv=>whnf
   refine blkD_run h98 h141 hwb hwl' (by show 8<1000000;decide) (fun h0=>?_) (fun h1=>?_)
   ·conv=>whnf
    repeat' (first|(refine nq13 ?_;conv=>whnf)|fail)
    refine hrun wb (some 128) hL (by unfold cpD;rw [if_pos h0]) _ _ ?_
    rfl
   ·conv=>whnf
    repeat' (first|(refine nq13 ?_;conv=>whnf)|fail)
    refine hrun wb none hL (by unfold cpD;rw [if_neg (by omega)]) _ _ ?_
    rfl
  ·rw [if_neg he] at hst
   conv=>whnf
   repeat' (first|((first|refine nq8 ?_|refine nq12 ?_|refine ⟨rfl,?_⟩);conv=>whnf)|fail)
   refine ⟨i,⟨by omega,hst⟩,by omega,AbsK.tells (rs:=[0,1,2,3,4,5,6]) ⟨rfl,by decide,⟨r9,r9,r9,trivial⟩,⟨r9,r9,r9,o9 (hpf _),o9,r9,⟨hlb,rfl⟩,trivial⟩⟩⟩
 ·have:j=0:=by omega
  subst this
  have hL:drdL ws at_ b0=b0:=by unfold drdL;rw [hh];rfl
  conv=>whnf
  rw [hL,← hcp] at hk
  exact hk _ _ rfl
variable {n m:Nat}{v:AV}
theorem DKhf {l l':List AV}(h:Sl 2 m l' v) (h':Sl 1 n l u) {d:Bool}:hfs [u,v,.bool d]=true:=by
 show (AM.hf u && (AM.hf v && (true && true)))=true
 rw [h.hf,h'.hf];rfl
def drdE (x:DK) (at_:Int):Int:=if dskB x=true then (if 0≤at_∧at_<x.us.length then (if x.dead then 40 else 0) else 2) else 8
def drdB (x:DK) (at_:Int):List Nat:=drdL x.ws at_ (x.bs.getD at_.toNat [])
theorem oddB_no (h:oddB n=false):n=0∨n=128:=by
 unfold oddB at h
 simp at h
 omega
theorem dskB_of {x:DK}(hx:x.any) (h:dskB x=true):x.ws.length≤1024∧(∀ b ∈ x.bs,b.length=0∨b.length=128)∧(∀ w ∈ x.ws,w.b.length=0∨w.b.length=128)∧x.us.length=x.bs.length∧x.us.length≤256:=by
 unfold dskB at h
 simp only [Bool.and_eq_true,Bool.not_eq_true'] at h
 obtain ⟨⟨⟨h1,h2⟩,h3⟩,h4⟩:=h
 have h1:=of_decide_eq_true h1
 rw [List.any_eq_false] at h2 h3
 refine ⟨h1.2.2,fun b hb=>oddB_no (by simpa using h2 b.length (List.mem_map_of_mem hb)),fun w hw=>?_,hx.bs.length,h1.2.1⟩
 have:=h3 w hw
 unfold wBad at this
 simp only [Bool.or_eq_true,not_or] at this
 exact oddB_no (by simpa using this.2)
theorem drd_main {e:Env}(hE:EM P e) (h101:Con e 96 dskF.O) (h96:Inl e 78 code96 [.tmp 4,.tmp 5]) (h139:Inl e 153 code139 [.tmp 4]) (h97:Inl e 79 code97 [.tmp 2]) (h98:Inl e 80 code98 [.tmp 2]) (h141:Inl e 155 code141 [.tmp 2])
 (x:DK) (hx:x.ok) (at_:Int) (hat:i64B at_) (K:AV->St->Prop)
 (h0:drdE x at_=0->∀ s r,s.get r=some (.row 5 (bys (pad (drdB x at_))))->K (.tup [.sl r 0 128 (cpD (drdB x at_)),.int .i64 0]) s)
 (h1:drdE x at_≠0->∀ s,K (.tup [.nils,.int .i64 (drdE x at_)]) s):
 W P 0 none code51 (initT [x.v,.int .i64 at_] 0 .lf) St0 [] (Ends [.cell 4,.cell 5] K):=by
 have hlt:dskB x=true->0≤at_∧at_<x.us.length->∃ b u,x.us[at_.toNat]?=some u∧BAt u b∧x.bs.getD at_.toNat []=b∧(b.length=0∨b.length=128):=fun hd ⟨ha,hl⟩=>by
  have hn:at_.toNat<x.us.length:=by omega
  obtain ⟨b,hbb,hbu⟩:=hx.a.bs.get (List.getElem?_eq_getElem hn)
  refine ⟨b,x.us[at_.toNat],List.getElem?_eq_getElem hn,hbu,by rw [List.getD_eq_getElem?_getD,hbb];rfl,(dskB_of hx.a hd).2.1 b (List.mem_of_getElem? hbb)⟩
 have hres:=fun (hd:dskB x=true) b0 K=>drd_rest hE h97 h98 h141 x hx at_ hat (dskB_of hx.a hd).1 (dskB_of hx.a hd).2.2.1 b0 K
 have hdk:=fun (u:AV) (h:dskF.out x=u)=>And.intro hx h
 unfold drdE at h0 h1
 unfold drdB at h0
 obtain ⟨D,hD⟩:∃ D,D=dskB x:=⟨_,rfl⟩
 rw [← hD] at h0 h1 hlt hres
 have hDo:dskF.out x=.int .i64 (if D=true then 0 else 8):=by rw [hD];rfl
 have hul:x.us.length<1000000:=hx.n
 have hbl:=hx.a.bl
 have hwv:=hx.a.wl
 obtain ⟨bv,us,bs,wv,ws,dd⟩:=x
 dsimp only at hlt hul h0 h1 hbl hwv
 unfold i64B at hat
 show W P 0 none code51 (initT [.agg [bv,wv,.bool dd],.int .i64 at_] 0 .lf) St0 [] (Ends [.cell 4,.cell 5] K)
 refine W.seqV hE ?_;conv=>whnf
 refine W.seqV hE ?_;conv=>whnf
 refine ESc.inl h96 ?_;conv=>whnf
 refine ESc.inl h139 ?_;conv=>whnf
 cases D
 ·refine ESc.fam dskF h101 ⟨bv,us,bs,wv,ws,dd⟩ hx (u:=.int .i64 8) hDo ?_;conv=>whnf
  repeat' (first|refine nq6 ?_ ?_|(intro _;first|omega|conv=>whnf))
  refine W.seqV hE ?_;conv=>whnf
  repeat' (first|refine nq6 ?_ ?_|(intro _;first|omega|conv=>whnf))
  refine eend_ends ?_;conv=>whnf
  exact h1 (by simp) _
 ·refine ESc.fam dskF h101 ⟨bv,us,bs,wv,ws,dd⟩ hx (u:=.int .i64 0) hDo ?_;conv=>whnf
  have hp:∀ K:AV->Prop,(at_<0∨(us.length:Int)≤at_->K (.int .i64 2))->(0≤at_∧at_<us.length->K (.int .i64 0))->True:=fun _ _ _=>trivial
  by_cases hr:0≤at_∧at_<(us.length:Int)
  ·obtain ⟨b,u,hg,hbu,hbd,hbl'⟩:=hlt rfl hr
   rw [hbd] at h0
   have h0:=fun hdd=>h0 (by rw [if_pos rfl,if_pos hr];exact hdd)
   rw [if_pos rfl,if_pos hr] at h1
   obtain ⟨n,rfl⟩:∃ n:Nat,at_=(n:Int):=⟨at_.toNat,by omega⟩
   have hlt':n<us.length:=by omega
   rw [show (n:Int).toNat=n by omega] at hg
   have hg':us[n]=u:=by rw [List.getElem?_eq_getElem hlt'] at hg;exact Option.some.inj hg
   clear hg hbd hlt
   repeat' (first|(refine nq21 hbl ?_;conv=>whnf)|refine nq1 ?_ ?_|refine nq4 ?_ ?_|refine nq6 ?_ ?_|(refine w19 rfl ?_ ?_ <;> intro hc <;> (try subst hc) <;> conv=>whnf)|(intro _;first|omega|conv=>whnf))
   all_goals first|(exfalso;omega)|skip
   ·refine W.seqV hE ?_;conv=>whnf
    repeat' (first|refine nq6 ?_ ?_|(intro _;first|omega|conv=>whnf))
    refine eend_ends ?_;conv=>whnf
    exact h1 (by simp) _
   ·refine EPrim.ixsS rfl hbl rfl hlt' ?_;conv=>whnf
    refine EHead.mk (v:=u) (by rw [Nat.mul_one,List.getElem?_drop,Nat.add_zero,List.getElem?_eq_getElem hlt',hg']) ?_;conv=>whnf
    have hcf:hfs [bv,wv,.bool false]=true:=DKhf hwv hbl
    have hend:=fun cp' (hcp:cp'=cpD b)=>(hcp ▸ hres rfl b K (fun s r h=>h0 rfl s r h):W P 0 none rest51 (ofL [(2,.ptr 0 0),(3,.ptr 1 0),(4,.ptr 2 0),(5,.ptr 3 0),(6,.sl 4 0 128 cp')]) (allocs St0 [.row 74 [bv,wv,.bool false],.row 3 [.int .i64 (n:Int)],.row 54 [.nils],.row 28 [.int .i64 0],.row 5 (bys (pad b))]) [] (Ends [.cell 4,.cell 5] K))
    refine blkD_run h98 h141 hbu hbl' (by show 6<1000000;decide) (fun h0=>?_) (fun h1=>?_)
    ·conv=>whnf
     refine W.seqV hE ?_;conv=>whnf
     repeat' (first|refine nq6 ?_ ?_|(intro _;first|omega|conv=>whnf))
     refine W.tells (Abs.tells (rs:=[0,1,2,3,6]) ?_) (hend (some 128) (by unfold cpD;rw [if_pos h0]))
     exact ⟨by decide,⟨r9,r9,r9,r9,r9,trivial⟩,⟨o9,r9,r9,r9,o9 (scs_hfs_bys _),trivial⟩⟩
    ·conv=>whnf
     refine W.seqV hE ?_;conv=>whnf
     repeat' (first|refine nq6 ?_ ?_|(intro _;first|omega|conv=>whnf))
     refine W.tells (Abs.tells (rs:=[0,1,2,3,7]) ?_) (hend none (by unfold cpD;rw [if_neg (by omega)]))
     exact ⟨by decide,⟨r9,r9,r9,r9,r9,trivial⟩,⟨o9,r9,r9,r9,o9 (scs_hfs_bys _),trivial⟩⟩
  ·repeat' (first|(refine nq21 hbl ?_;conv=>whnf)|refine nq1 ?_ ?_|refine nq4 ?_ ?_|refine nq6 ?_ ?_|(intro _;first|omega|conv=>whnf))
   all_goals first|(exfalso;omega)|skip
   all_goals
    refine W.seqV hE ?_;conv=>whnf
    repeat' (first|refine nq6 ?_ ?_|(intro _;first|omega|conv=>whnf))
    refine eend_ends ?_;conv=>whnf
    have h1:=h1 (by rw [if_pos rfl,if_neg hr];decide)
    rw [if_pos rfl,if_neg hr] at h1
    exact h1 _
structure DKA where
 d:DK
 a:Int
structure DKA.ok (x:DKA):Prop where
 d:x.d.ok
 a:i64B x.a
def DKA.args (x:DKA):List AV:=[x.d.v,.int .i64 x.a]
theorem DKA.inja {x y:DKA}(hx:x.ok) (hy:y.ok) (h:x.args=y.args):x=y:=by
 obtain ⟨d,a⟩:=x
 obtain ⟨d',a'⟩:=y
 have h1:=DK.inj hx.d.a hy.d.a (List.cons.inj h).1
 have h2:=(List.cons.inj (List.cons.inj h).2).1
 injection h2 with _ h2
 dsimp only at h1 h2
 rw [h1,h2]
theorem DKA.hfa {x:DKA}(hx:x.ok):hfs x.args=true:=by
 show (AM.hf x.d.v && (true && true))=true
 rw [DK.hf hx.d.a];rfl
def DKA.e (x:DKA):Int:=drdE x.d x.a
def DKA.b (x:DKA):List Nat:=drdB x.d x.a
theorem frzPl:∀ {l:List AV},hfs l=true->All2 (Frz s) l l
 | [],_=>.nil
 | v::l,h=>by
  simp only [hfs,Bool.and_eq_true] at h
  exact .cons (.plain _ h.1) (frzPl h.2)
def drdOut (x:DKA):AV:=if x.e=0 then .tup [.fz 128 none (bys (pad x.b)),.int .i64 0] else .tup [.nils,.int .i64 x.e]
def drdF:Fam DKA:=⟨DKA.ok,DKA.args,drdOut,fun x y hx hy h=>by rw [DKA.inja hx hy h]⟩
theorem drdF_ok {e:Env}(hE:EM P e) (h101:Con e 96 dskF.O) (h96:Inl e 78 code96 [.tmp 4,.tmp 5]) (h139:Inl e 153 code139 [.tmp 4]) (h97:Inl e 79 code97 [.tmp 2]) (h98:Inl e 80 code98 [.tmp 2]) (h141:Inl e 155 code141 [.tmp 2])
 : OvOk P 23 drdF.O:=by
 refine Fam.ok_of g23.b fun x hx=>?_
 have h0:x.e=0->drdF.out x=.tup [.fz 128 none (bys (pad x.b)),.int .i64 0]:=fun h=>by show drdOut x=_;unfold drdOut;rw [if_pos h]
 have h1:x.e≠0->drdF.out x=.tup [.nils,.int .i64 x.e]:=fun h=>by show drdOut x=_;unfold drdOut;rw [if_neg h]
 refine ⟨DKA.hfa hx,by show AM.hf (drdOut x)=true;unfold drdOut;split <;> rfl,C.of_W g23.f g23.c (drd_main hE h101 h96 h139 h97 h98 h141 x.d hx.d x.a hx.a _ (fun h s r hg=>?_) (fun h s=>?_))⟩
 ·rw [h0 h]
  exact .tup _ _ (.cons (.sl r 0 128 _ _ _ _ _ _ hg (fun i x h=>by rw [Nat.zero_add];exact h) (frzPl (scs_hfs_bys _)) (.inl rfl)) (.cons (.plain _ rfl) .nil))
 ·rw [h1 h];exact .plain _ rfl
structure CDA where
 c:Cfg
 d:DK
 a:Int
structure CDA.ok (x:CDA):Prop where
 c:x.c.ok
 d:x.d.ok
 a:i64B x.a
def CDA.args (x:CDA):List AV:=[x.c.v,x.d.v,.int .i64 x.a]
def askE (x:CDA):Int:=if x.c.may then (if dskB x.d=true∧(x.d.us.length:Int)=x.c.log+1 then (if 0≤x.a∧x.a<x.c.log then (if x.d.dead then 40 else 0) else 2) else 8) else 8
def plcE (x:DK) (a:Int):Int:=if dskB x=true then (if 0≤a∧a<x.us.length then 0 else 2) else 8
def plcF:Fam DKA:=⟨DKA.ok,DKA.args,fun x=>.int .i64 (plcE x.d x.a),fun x y hx hy h=>by rw [DKA.inja hx hy h]⟩
theorem plcF_ok {e:Env}(hE:EM P e) (h101:Con e 96 dskF.O):OvOk P 153 plcF.O:=by
 refine Fam.ok_of g153.b fun x hx=>?_
 refine ⟨DKA.hfa hx,rfl,C.of_G hE g153 ?_⟩
 have fin:∀ s (n:Int),n=plcE x.d x.a->Frz s (.int .i64 n) (plcF.out x):=by rintro s n rfl;exact .plain _ rfl
 obtain ⟨O,hO⟩:∃ O,O=plcF.out x:=⟨_,rfl⟩
 rw [← hO] at fin ⊢
 clear hO
 have hbl:=hx.d.a.bl
 have hun:=hx.d.n
 have ha:=hx.a
 have hd:=hx.d
 obtain ⟨d,a⟩:=x
 dsimp only at hbl hun ha hd fin
 unfold plcE at fin
 obtain ⟨D,hD⟩:∃ D,D=dskB d:=⟨_,rfl⟩
 have hDo:dskF.out d=.int .i64 (if D=true then 0 else 8):=by rw [hD];rfl
 rw [← hD] at fin
 unfold i64B at ha
 obtain ⟨bv,us,bs,wv,ws,dd⟩:=d
 dsimp only at hbl hun fin
 show VW P e 0 (match a153 with|.mk c _=>c) (initT [.agg [bv,wv,.bool dd],.int .i64 a] 0 .lf) St0 none [] _
 conv=>whnf
 cases D
 ·refine ESc.fam dskF h101 ⟨bv,us,bs,wv,ws,dd⟩ hd (u:=.int .i64 8) hDo ?_;conv=>whnf
  repeat' (first|refine nq6 ?_ ?_|(intro _;first|omega|conv=>whnf))
  exact fin _ 8 (by simp)
 ·refine ESc.fam dskF h101 ⟨bv,us,bs,wv,ws,dd⟩ hd (u:=.int .i64 0) hDo ?_;conv=>whnf
  simp only [eq_self,if_true] at fin
  repeat' (first|(refine nq21 hbl ?_;conv=>whnf)|refine nq1 ?_ ?_|refine nq4 ?_ ?_|refine nq6 ?_ ?_|(intro _;first|omega|conv=>whnf))
  ·exact fin _ 2 (by rw [if_neg (by omega)])
  ·exact fin _ 2 (by rw [if_neg (by omega)])
  ·exact fin _ 0 (by rw [if_pos (by omega)])
structure DKW where
 d:DK
 a:Int
 u:AV
 b:List Nat
structure DKW.ok (x:DKW):Prop where
 d:x.d.ok
 a:i64B x.a
 b:BAt x.u x.b
 n:x.b.length<1000000
def DKW.args (x:DKW):List AV:=[x.d.v,.int .i64 x.a,x.u]
theorem DKW.inja {x y:DKW}(hx:x.ok) (hy:y.ok) (h:x.args=y.args):x=y:=by
 obtain ⟨d,a,u,b⟩:=x
 obtain ⟨d',a',u',b'⟩:=y
 have h1:=DK.inj hx.d.a hy.d.a (List.cons.inj h).1
 have h2:=(List.cons.inj (List.cons.inj h).2).1
 have h3:=(List.cons.inj (List.cons.inj (List.cons.inj h).2).2).1
 injection h2 with _ h2
 dsimp only at h1 h2 h3
 subst h1 h2 h3
 have:=hx.b.inj hy.b
 dsimp only at this
 rw [this]
theorem DKW.hfa {x:DKW}(hx:x.ok):hfs x.args=true:=by
 show (AM.hf x.d.v && (true && (AM.hf x.u && true)))=true
 rw [DK.hf hx.d.a,hx.b.1.hf];rfl
def wrtE (x:DK) (a:Int) (b:List Nat):Int:=if plcE x a=0 then (if oddB b.length=true then 3 else if x.dead=true then 40 else 0) else plcE x a
def wrtF:Fam DKW:=⟨DKW.ok,DKW.args,fun x=>.int .i64 (wrtE x.d x.a x.b),fun x y hx hy h=>by rw [DKW.inja hx hy h]⟩
theorem wrtF_ok {e:Env}(hE:EM P e) (h139:Con e 153 plcF.O) (h143:Con e 179 oddF.O):OvOk P 107 wrtF.O:=by
 refine Fam.ok_of g107.b fun x hx=>?_
 refine ⟨DKW.hfa hx,rfl,C.of_G hE g107 ?_⟩
 have fin:∀ s (n:Int),n=wrtE x.d x.a x.b->Frz s (.int .i64 n) (wrtF.out x):=by rintro s n rfl;exact .plain _ rfl
 obtain ⟨O,hO⟩:∃ O,O=wrtF.out x:=⟨_,rfl⟩
 rw [← hO] at fin ⊢
 clear hO
 obtain ⟨d,a,u,b⟩:=x
 obtain ⟨hd,ha,hbt,hbn⟩:=hx
 dsimp only at hd ha hbt hbn fin
 unfold wrtE at fin
 obtain ⟨pe,hpe⟩:∃ pe,pe=plcE d a:=⟨_,rfl⟩
 have hpo:plcF.out ⟨d,a⟩=.int .i64 pe:=by rw [hpe];rfl
 rw [← hpe] at fin
 obtain ⟨bv,us,bs,wv,ws,dd⟩:=d
 dsimp only at fin
 show VW P e 0 (match a107 with|.mk c _=>c) (initT [.agg [bv,wv,.bool dd],.int .i64 a,u] 0 .lf) St0 none [] _
 conv=>whnf
 refine ESc.fam plcF h139 ⟨⟨bv,us,bs,wv,ws,dd⟩,a⟩ ⟨hd,ha⟩ (u:=.int .i64 pe) hpo ?_;conv=>whnf
 refine EPrim.neq2 (a:=pe) (b:=0) rfl rfl (fun e1=>?_) (fun e1=>?_)
 ·conv=>whnf
  skip
  exact fin _ pe (by rw [if_neg e1])
 ·rw [if_pos e1] at fin
  conv=>whnf
  refine ESc.fam oddF h143 ⟨u,b.length⟩ ⟨⟨_,hbt.1⟩,by dsimp only;omega⟩ (u:=.bool (oddB b.length)) rfl ?_
  cases ho:oddB b.length
  ·rw [ho] at fin
   simp only [Bool.false_eq_true,if_false] at fin
   cases dd
   ·conv=>whnf
    skip
    exact fin _ 0 (by simp)
   ·conv=>whnf
    skip
    exact fin _ 40 (by simp)
  ·conv=>whnf
   skip
   exact fin _ 3 (by rw [if_pos ho])
def clnV:AV->AV
 | .es=>.fz 0 none []
 | .fz n _ l=>.fz n none l
 | v=>v
theorem hfs_cln (l:List AV) (h:∀ u ∈ l,AM.hf (clnV u)=true):hfs (l.map clnV)=true:=hfs_iff.2 fun v hv=>by
 obtain ⟨u,hu,rfl⟩:=List.mem_map.1 hv;exact h u hu
def osW (D:List AV) (dd:Bool) (L:List AV):Nat->List AObj
 | 0=>[.row 74 D,.row 74 [.nils,.nils,.bool false],.row 74 [.nils,.nils,.bool dd]]
 | i+1=>[.row 74 D,.row 74 [.nils,.nils,.bool false],.row 74 [.sl 3 0 (i+1) none,.nils,.bool dd],.row 54 L]
def tlW (bv:AV) (n i:Nat):List (Nat×AV):=[(1,.ptr 0 0),(2,.ptr 1 0),(3,.ptr 2 0),(12,bv),(13,.int .i64 (n:Int)),(14,.int .i64 (i:Int))]
variable {t:AT}{D L cs:List AV}{dd:Bool}{i:Nat}{cp:Option Nat}{rs:List Nat}
theorem tw_step {bv:AV}(hbv:AM.hf bv=true) (hD:hfs D=true) (hL:hfs L=true) (hcs:hfs cs=true)
 (h:Abs t s (tlW bv m (i+1)) (osW D dd (L++[.sl 4 0 n cp]) (i+1)++[.row 5 cs]) rs):
 Tells P 0 t s [] (ofL (tlW bv m (i+1))) (allocs St0 (osW D dd (L++[.fz n none cs]) (i+1))) []:=by
 refine AbsK.frz (n:=4) h.toK rfl hcs rfl rfl rfl rfl ?_ ?_
 ·show [_,_,_,(12,frzV 4 _ bv),_,_]=_
  rw [hf_frzV bv hbv];rfl
 ·show [frzO 4 cs (.row 74 D),_,_,AObj.row 54 (frzVs 4 cs (L++[.sl 4 0 n cp]))]=_
  rw [frzRowH hD,frzVs_append,hfs_frzVs L hL]
  rfl
def clnW (w:WR):WR:=⟨w.at_,clnV w.u,w.b⟩
theorem wrs_app1 (L:List WR) (w:WR):wrs (L++[w].map clnW)=wrs L++[.int .i64 w.at_,clnV w.u]:=by
 unfold wrs;rw [List.flatMap_append];rfl
variable {y:AV}
theorem bds_app2 {x:AV}(h:hfs L=true):bds n (L++[x,y])=(bd n x && bd n y):=by
 induction L with
 | nil=>show (bd n x && (bd n y && true))=_;rw [Bool.and_true]
 | cons z L ih=>
  simp only [hfs,Bool.and_eq_true] at h
  show (bd n z && bds n (L++[x,y]))=_
  rw [hf_bd z h.1,ih h.2];rfl
theorem mapVs_app2 {ρ:Nat->Nat}{x:AV}(h:hfs L=true):mapVs ρ (L++[x,y])=L++[mapV ρ x,mapV ρ y]:=by
 induction L with
 | nil=>rfl
 | cons z L ih=>
  simp only [hfs,Bool.and_eq_true] at h
  show mapV ρ z::mapVs ρ (L++[x,y])=_
  rw [hf_mapV z h.1,ih h.2];rfl
theorem hfs_wrs:∀ {L:List WR},(∀ w ∈ L,AM.hf w.u=true)->hfs (wrs L)=true
 | [],_=>rfl
 | w::L,h=>by
  show (true && (AM.hf w.u && hfs (wrs L)))=true
  rw [h w (by simp),hfs_wrs fun v hv=>h v (by simp [hv])];rfl
def osV (D:List AV) (dd:Bool) (L:List AV) (k:Nat) (M:List AV):Nat->List AObj
 | 0=>[.row 74 D,.row 74 [.nils,.nils,.bool false],.row 74 [.sl 3 0 k none,.nils,.bool dd],.row 54 L]
 | j+1=>[.row 74 D,.row 74 [.nils,.nils,.bool false],.row 74 [.sl 3 0 k none,.sl 4 0 (j+1) none,.bool dd],.row 54 L,.row 101 M]
def tlV (wv:AV) (n j:Nat):List (Nat×AV):=[(2,.ptr 1 0),(3,.ptr 2 0),(27,wv),(28,.int .i64 (n:Int)),(29,.int .i64 (j:Int))]
variable {k:Nat}{a:Int}
theorem tv_step {wv:AV}{M:List AV}(hwv:AM.hf wv=true) (hD:hfs D=true) (hL:hfs L=true) (hM:hfs M=true) (hcs:hfs cs=true)
 (h:Abs t s (tlV wv m (i+1)) (osV D dd L k (M++[.int .i64 a,.sl 5 0 n cp]) (i+1)++[.row 5 cs]) rs):
 Tells P 0 t s [] (ofL (tlV wv m (i+1))) (allocs St0 (osV D dd L k (M++[.int .i64 a,.fz n none cs]) (i+1))) []:=by
 refine AbsK.frz (n:=5) h.toK rfl hcs rfl rfl rfl rfl ?_ ?_
 ·show [_,_,(27,frzV 5 _ wv),_,_]=_
  rw [hf_frzV wv hwv];rfl
 ·show [frzO 5 cs (.row 74 D),_,_,frzO 5 cs (.row 54 L),AObj.row 101 (frzVs 5 cs (M++[.int .i64 a,.sl 5 0 n cp]))]=_
  rw [frzRowH hD,frzRowH hL,frzVs_append,hfs_frzVs M hM]
  rfl
theorem tw_main {e:Env}(hE:EM P e) (h141:Inl e 155 code141 [.tmp 2]) {d:DK}(hd:d.ok) (h0:1≤d.us.length)
 (hk:∀ s,s.get 3=some (.row 54 (d.us.map clnV))->(d.ws.length=0->K (.agg [.sl 3 0 d.us.length none,.nils,.bool d.dead]) s)∧(1≤d.ws.length->s.get 4=some (.row 101 (wrs (d.ws.map clnW)))->K (.agg [.sl 3 0 d.us.length none,.sl 4 0 d.ws.length none,.bool d.dead]) s)):
 VW P e 0 (match a87 with|.mk c _=>c) (initT [d.v] 0 .lf) St0 none [] (EEnd [.cells 2 3] K):=by
 have hbl:=hd.a.bl
 have hbs:=hd.a.bs
 have hbb:=hd.b
 have hun:=hd.n
 have hwsl:=hd.a.wl
 have hwsa:=hd.a.ws
 have hwb:=hd.w
 have hwn:=hd.m
 have hdf:hfs d.c=true:=DKhf hd.a.wl hd.a.bl
 obtain ⟨bv,us,bs,wv,ws,dd⟩:=d
 dsimp only at hbl hbs hbb hun h0 hk hwsl hwsa hwb hwn
 have hdf:hfs [bv,wv,.bool dd]=true:=hdf
 have hbv:=hbl.hf
 have hcl:∀ i,hfs ((us.take i).map clnV)=true:=fun i=>hfs_cln _ fun u hu=>by
  obtain ⟨k,hk⟩:=List.mem_iff_getElem?.1 (List.mem_of_mem_take hu)
  obtain ⟨b,_,hb⟩:=hbs.get hk
  rcases hb.1 with ⟨rfl,_⟩|⟨rfl,_⟩|⟨c,rfl,_⟩ <;> rfl
 show VW P e 0 (match a87 with|.mk c _=>c) (initT [.agg [bv,wv,.bool dd]] 0 .lf) St0 none [] _
 conv=>whnf
 refine nq21 hbl ?_;conv=>whnf
 refine W.loopT (α:=Nat) (fun i=>tlW bv us.length i) (fun i=>osW [bv,wv,.bool dd] dd ((us.take i).map clnV) i) (fun i=>us.length-i) (fun i=>i≤us.length) 0 (Nat.zero_le _)
  (Abs.tells (rs:=[0,1,2]) ⟨by decide,⟨r9,r9,r9,t9 hbv,r9,r9,trivial⟩,⟨o9 hdf,r9,r9,trivial⟩⟩) ?_
 intro i hi
 refine vs_sound hE ?_
 by_cases hlt:i<us.length
 ·obtain ⟨b,hb1,hb2⟩:=hbs.get (List.getElem?_eq_getElem hlt)
  have hbn:=hbb b (List.mem_of_getElem? hb1)
  have hug:((us.drop (i*1)))[0]?=some us[i]:=by rw [Nat.mul_one,List.getElem?_drop,Nat.add_zero,List.getElem?_eq_getElem hlt]
  have htk:us.take (i+1)=us.take i++[us[i]]:=List.take_succ_eq_append_getElem hlt
  have hub:=hb2.1
  have hall:=And.intro hug (And.intro htk hub)
  clear hb1 hb2 hug htk hub
  revert hall
  generalize us[i]=u
  rintro ⟨hug,htk,hub⟩
  rcases i with _|i
  ·conv=>whnf
   refine EPrim.lss2 (a:=((0:Nat):Int)) (b:=(us.length:Int)) rfl rfl (fun _=>?_) (fun h=>by omega);conv=>whnf
   refine EPrim.ixsS rfl hbl rfl hlt ?_;conv=>whnf
   refine EHead.mk (v:=u) hug ?_;conv=>whnf
   refine ESc.inl h141 ?_;conv=>whnf
   rcases hub with ⟨rfl,hn0,hbs0⟩|⟨rfl,hn0,hbs0⟩|⟨c,rfl,hbl'⟩
   ·refine eqbNil0 rfl rfl ?_;conv=>whnf
    repeat' (first|((first|refine nq25 (m:=1) ?_|refine nq7 ?_|refine ⟨rfl,?_⟩);conv=>whnf)|fail)
    refine ⟨0+1,hlt,by omega,?_⟩
    rw [htk,List.map_append]
    refine Abs.tells (rs:=[0,1,2,4]) ⟨by decide,⟨r9,r9,r9,t9 hbv,r9,r9,trivial⟩,⟨o9 hdf,r9,r9,⟨by show bds _ (List.map _ _++[_])=true;rw [bds_app (hcl _)];rfl,by show _=some (AObj.row 54 (mapVs _ (List.map _ _++[_])));rw [mapVs_app (hcl _)];rfl⟩,trivial⟩⟩
   ·refine eqbNil rfl rfl (.inl rfl) ?_;conv=>whnf
    repeat' (first|((first|refine EPrim.app0 rfl rfl rfl ?_|refine nq25 (m:=1) ?_|refine nq7 ?_|refine ⟨rfl,?_⟩);conv=>whnf)|fail)
    refine ⟨0+1,hlt,by omega,?_⟩
    rw [htk,List.map_append]
    refine tw_step (i:=0) (L:=(us.take (0)).map clnV) (n:=0) (cs:=[]) (rs:=[0,1,2,5,3]) hbv hdf (hcl _) rfl ⟨by decide,⟨r9,r9,r9,t9 hbv,r9,r9,trivial⟩,⟨o9 hdf,r9,r9,⟨by show bds _ (List.map _ _++[_])=true;rw [bds_app (hcl _)];rfl,by show _=some (AObj.row 54 (mapVs _ (List.map _ _++[_])));rw [mapVs_app (hcl _)];rfl⟩,o9 rfl,trivial⟩⟩
   ·refine eqbNil rfl rfl (.inr ⟨_,_,_,rfl⟩) ?_;conv=>whnf
    cases b with
    | nil=>
     repeat' (first|((first|refine EPrim.app0 rfl rfl rfl ?_|refine nq25 (m:=1) ?_|refine nq7 ?_|refine ⟨rfl,?_⟩);conv=>whnf)|fail)
     refine ⟨0+1,hlt,by omega,?_⟩
     rw [htk,List.map_append]
     refine tw_step (i:=0) (L:=(us.take (0)).map clnV) (n:=0) (cs:=[]) (rs:=[0,1,2,5,3]) hbv hdf (hcl _) rfl ⟨by decide,⟨r9,r9,r9,t9 hbv,r9,r9,trivial⟩,⟨o9 hdf,r9,r9,⟨by show bds _ (List.map _ _++[_])=true;rw [bds_app (hcl _)];rfl,by show _=some (AObj.row 54 (mapVs _ (List.map _ _++[_])));rw [mapVs_app (hcl _)];rfl⟩,o9 rfl,trivial⟩⟩
    | cons x b=>
     refine EPrim.app1 (c:=.int .u8 (Int.ofNat x)) (cs:=bys b) (m:=b.length+1) rfl rfl ?_ rfl ?_ (by omega) (by have:=hbn;simp at this;omega) ?_
     ·show takeL ((b.length+1)*1) (bys (x::b))=_
      rw [takeL_of (by rw [bys_length];simp),List.take_of_length_le (by rw [bys_length];simp)];rfl
     ·show (bys (x::b)).length / 1=_
      rw [bys_length];simp
     conv=>whnf
     repeat' (first|((first|refine nq25 (m:=1) ?_|refine nq7 ?_|refine ⟨rfl,?_⟩);conv=>whnf)|fail)
     refine ⟨0+1,hlt,by omega,?_⟩
     rw [htk,List.map_append]
     refine tw_step (i:=0) (L:=(us.take (0)).map clnV) (n:=(b.length+1)) (cs:=(bys (x::b))) (rs:=[0,1,2,6,4]) hbv hdf (hcl _) (scs_hfs_bys _) ⟨by decide,⟨r9,r9,r9,t9 hbv,r9,r9,trivial⟩,⟨o9 hdf,r9,r9,⟨by show bds _ (List.map _ _++[_])=true;rw [bds_app (hcl _)];rfl,by show _=some (AObj.row 54 (mapVs _ (List.map _ _++[_])));rw [mapVs_app (hcl _)];rfl⟩,o9 (scs_hfs_bys _),trivial⟩⟩
  ·conv=>whnf
   refine EPrim.lss2 (a:=((i+1:Nat):Int)) (b:=(us.length:Int)) rfl rfl (fun _=>?_) (fun h=>by omega);conv=>whnf
   refine EPrim.ixsS rfl hbl rfl hlt ?_;conv=>whnf
   refine EHead.mk (v:=u) hug ?_;conv=>whnf
   refine ESc.inl h141 ?_;conv=>whnf
   rcases hub with ⟨rfl,hn0,hbs0⟩|⟨rfl,hn0,hbs0⟩|⟨c,rfl,hbl'⟩
   ·refine eqbNil0 rfl rfl ?_;conv=>whnf
    repeat' (first|((first|refine EPrim.appU (m:=1) rfl rfl rfl rfl (by rw [List.length_map,List.length_take];omega) rfl (by decide) (by omega) ?_|refine nq7 ?_|refine ⟨rfl,?_⟩);conv=>whnf)|fail)
    refine ⟨i+1+1,hlt,by omega,?_⟩
    rw [htk,List.map_append]
    refine Abs.tells (rs:=[0,1,2,5]) ⟨by decide,⟨r9,r9,r9,t9 hbv,r9,r9,trivial⟩,⟨o9 hdf,r9,r9,⟨by show bds _ (List.map _ _++[_])=true;rw [bds_app (hcl _)];rfl,by show _=some (AObj.row 54 (mapVs _ (List.map _ _++[_])));rw [mapVs_app (hcl _)];rfl⟩,trivial⟩⟩
   ·refine eqbNil rfl rfl (.inl rfl) ?_;conv=>whnf
    repeat' (first|((first|refine EPrim.app0 rfl rfl rfl ?_|refine EPrim.appU (m:=1) rfl rfl rfl rfl (by rw [List.length_map,List.length_take];omega) rfl (by decide) (by omega) ?_|refine nq7 ?_|refine ⟨rfl,?_⟩);conv=>whnf)|fail)
    refine ⟨i+1+1,hlt,by omega,?_⟩
    rw [htk,List.map_append]
    refine tw_step (i:=i+1) (L:=(us.take (i+1)).map clnV) (n:=0) (cs:=[]) (rs:=[0,1,2,6,4]) hbv hdf (hcl _) rfl ⟨by decide,⟨r9,r9,r9,t9 hbv,r9,r9,trivial⟩,⟨o9 hdf,r9,r9,⟨by show bds _ (List.map _ _++[_])=true;rw [bds_app (hcl _)];rfl,by show _=some (AObj.row 54 (mapVs _ (List.map _ _++[_])));rw [mapVs_app (hcl _)];rfl⟩,o9 rfl,trivial⟩⟩
   ·refine eqbNil rfl rfl (.inr ⟨_,_,_,rfl⟩) ?_;conv=>whnf
    cases b with
    | nil=>
     repeat' (first|((first|refine EPrim.app0 rfl rfl rfl ?_|refine EPrim.appU (m:=1) rfl rfl rfl rfl (by rw [List.length_map,List.length_take];omega) rfl (by decide) (by omega) ?_|refine nq7 ?_|refine ⟨rfl,?_⟩);conv=>whnf)|fail)
     refine ⟨i+1+1,hlt,by omega,?_⟩
     rw [htk,List.map_append]
     refine tw_step (i:=i+1) (L:=(us.take (i+1)).map clnV) (n:=0) (cs:=[]) (rs:=[0,1,2,6,4]) hbv hdf (hcl _) rfl ⟨by decide,⟨r9,r9,r9,t9 hbv,r9,r9,trivial⟩,⟨o9 hdf,r9,r9,⟨by show bds _ (List.map _ _++[_])=true;rw [bds_app (hcl _)];rfl,by show _=some (AObj.row 54 (mapVs _ (List.map _ _++[_])));rw [mapVs_app (hcl _)];rfl⟩,o9 rfl,trivial⟩⟩
    | cons x b=>
     refine EPrim.app1 (c:=.int .u8 (Int.ofNat x)) (cs:=bys b) (m:=b.length+1) rfl rfl ?_ rfl ?_ (by omega) (by have:=hbn;simp at this;omega) ?_
     ·show takeL ((b.length+1)*1) (bys (x::b))=_
      rw [takeL_of (by rw [bys_length];simp),List.take_of_length_le (by rw [bys_length];simp)];rfl
     ·show (bys (x::b)).length / 1=_
      rw [bys_length];simp
     conv=>whnf
     repeat' (first|((first|refine EPrim.appU (m:=1) rfl rfl rfl rfl (by rw [List.length_map,List.length_take];omega) rfl (by decide) (by omega) ?_|refine nq7 ?_|refine ⟨rfl,?_⟩);conv=>whnf)|fail)
     refine ⟨i+1+1,hlt,by omega,?_⟩
     rw [htk,List.map_append]
     refine tw_step (i:=i+1) (L:=(us.take (i+1)).map clnV) (n:=(b.length+1)) (cs:=(bys (x::b))) (rs:=[0,1,2,7,5]) hbv hdf (hcl _) (scs_hfs_bys _) ⟨by decide,⟨r9,r9,r9,t9 hbv,r9,r9,trivial⟩,⟨o9 hdf,r9,r9,⟨by show bds _ (List.map _ _++[_])=true;rw [bds_app (hcl _)];rfl,by show _=some (AObj.row 54 (mapVs _ (List.map _ _++[_])));rw [mapVs_app (hcl _)];rfl⟩,o9 (scs_hfs_bys _),trivial⟩⟩
 ·obtain ⟨k,rfl⟩:∃ k,i=k+1:=⟨i-1,by omega⟩
  have hku:k+1=us.length:=by omega
  have hLe:(us.take (k+1)).map clnV=us.map clnV:=by rw [List.take_of_length_le (by omega)]
  have hLf:=hcl (k+1)
  rw [hLe] at hLf ⊢
  have hwv:=hwsl.hf
  conv=>whnf
  refine EPrim.lss2 (a:=((k+1:Nat):Int)) (b:=(us.length:Int)) rfl rfl (fun _=>by omega) (fun _=>?_);conv=>whnf
  refine nq21 hwsl ?_;conv=>whnf
  have hwl:∀ i,hfs (wrs ((ws.take i).map clnW))=true:=fun i=>hfs_wrs fun w hw=>by
   obtain ⟨v,hv,rfl⟩:=List.mem_map.1 hw
   rcases (hwsa v (List.mem_of_mem_take hv)).b.1 with ⟨h,_⟩|⟨h,_⟩|⟨c,h,_⟩ <;> (show AM.hf (clnV v.u)=true;rw [h];rfl)
  refine W.loopT (α:=Nat) (fun j=>tlV wv ws.length j) (fun j=>osV [bv,wv,.bool dd] dd (us.map clnV) (k+1) (wrs ((ws.take j).map clnW)) j) (fun j=>ws.length-j) (fun j=>j≤ws.length) 0 (Nat.zero_le _)
   (Abs.tells (rs:=[0,1,2,3]) ⟨by decide,⟨r9,r9,t9 hwv,r9,r9,trivial⟩,⟨o9 hdf,r9,r9,o9 hLf,trivial⟩⟩) ?_
  intro j hj
  refine vs_sound hE ?_
  by_cases hlt:j<ws.length
  ·have hdr:=wrs_drop_cons hlt
   have hwm:=List.getElem_mem hlt
   have hwany:=hwsa _ hwm
   have hbn:=hwb _ hwm
   have htk:ws.take (j+1)=ws.take j++[ws[j]]:=List.take_succ_eq_append_getElem hlt
   have hall:=And.intro hdr (And.intro hwany (And.intro hbn htk))
   clear hdr hwm hwany hbn htk
   revert hall
   generalize ws[j]=w
   obtain ⟨wa,u,b⟩:=w
   rintro ⟨hdr,⟨hwai,hub,hub2⟩,hbn,htk⟩
   have hdr:(wrs ws).drop (j*2)=[.int .i64 wa,u]++wrs (ws.drop (j+1)):=hdr
   dsimp only at hub hbn
   have hcell:∀ (K:List AV->Prop),K [.int .i64 wa,u]->ETake 2 ([.int .i64 wa,u]++wrs (ws.drop (j+1))) K:=fun K hk=>ETake.eq rfl hk
   rcases j with _|j
   ·conv=>whnf
    refine EPrim.lss2 (a:=((0:Nat):Int)) (b:=(ws.length:Int)) rfl rfl (fun _=>?_) (fun h=>by omega);conv=>whnf
    refine EPrim.ixsS rfl hwsl rfl hlt ?_
    rw [hdr]
    conv=>whnf
    refine hcell _ ?_;conv=>whnf
    repeat' (first|(refine ESc.inl h141 ?_;conv=>whnf)|fail)
    rcases hub with ⟨rfl,hn0,hbs0⟩|⟨rfl,hn0,hbs0⟩|⟨c,rfl,hbl'⟩
    ·refine eqbNil0 rfl rfl ?_;conv=>whnf
     repeat' (first|((first|refine ⟨rfl,?_⟩|refine nq25 (m:=1) ?_|refine nq7 ?_);conv=>whnf)|fail)
     refine ⟨0+1,hlt,by omega,?_⟩
     rw [htk,List.map_append,wrs_app1]
     refine Abs.tells (rs:=[0,1,2,3,6]) ⟨by decide,⟨r9,r9,t9 hwv,r9,r9,trivial⟩,⟨o9 hdf,r9,r9,o9 hLf,⟨by show bds _ (wrs _++[.int .i64 _,_])=true;rw [bds_app2 (hwl _)];rfl,by show _=some (AObj.row 101 (mapVs _ (wrs _++[.int .i64 _,_])));rw [mapVs_app2 (hwl _)];rfl⟩,trivial⟩⟩
    ·refine eqbNil rfl rfl (.inl rfl) ?_;conv=>whnf
     repeat' (first|((first|refine EPrim.app0 rfl rfl rfl ?_|refine ⟨rfl,?_⟩|refine nq25 (m:=1) ?_|refine nq7 ?_);conv=>whnf)|fail)
     refine ⟨0+1,hlt,by omega,?_⟩
     rw [htk,List.map_append,wrs_app1]
     refine tv_step (i:=0) (M:=wrs ((ws.take (0)).map clnW)) (a:=wa) (n:=0) (cs:=[]) (rs:=[0,1,2,3,7,5]) hwv hdf hLf (hwl _) rfl ⟨by decide,⟨r9,r9,t9 hwv,r9,r9,trivial⟩,⟨o9 hdf,r9,r9,o9 hLf,⟨by show bds _ (wrs _++[.int .i64 _,_])=true;rw [bds_app2 (hwl _)];rfl,by show _=some (AObj.row 101 (mapVs _ (wrs _++[.int .i64 _,_])));rw [mapVs_app2 (hwl _)];rfl⟩,o9 rfl,trivial⟩⟩
    ·refine eqbNil rfl rfl (.inr ⟨_,_,_,rfl⟩) ?_;conv=>whnf
     cases b with
     | nil=>
      repeat' (first|((first|refine EPrim.app0 rfl rfl rfl ?_|refine ⟨rfl,?_⟩|refine nq25 (m:=1) ?_|refine nq7 ?_);conv=>whnf)|fail)
      refine ⟨0+1,hlt,by omega,?_⟩
      rw [htk,List.map_append,wrs_app1]
      refine tv_step (i:=0) (M:=wrs ((ws.take (0)).map clnW)) (a:=wa) (n:=0) (cs:=[]) (rs:=[0,1,2,3,7,5]) hwv hdf hLf (hwl _) rfl ⟨by decide,⟨r9,r9,t9 hwv,r9,r9,trivial⟩,⟨o9 hdf,r9,r9,o9 hLf,⟨by show bds _ (wrs _++[.int .i64 _,_])=true;rw [bds_app2 (hwl _)];rfl,by show _=some (AObj.row 101 (mapVs _ (wrs _++[.int .i64 _,_])));rw [mapVs_app2 (hwl _)];rfl⟩,o9 rfl,trivial⟩⟩
     | cons x b=>
      refine EPrim.app1 (c:=.int .u8 (Int.ofNat x)) (cs:=bys b) (m:=b.length+1) rfl rfl ?_ rfl ?_ (by omega) (by have:=hbn;simp at this;omega) ?_
      ·show takeL ((b.length+1)*1) (bys (x::b))=_
       rw [takeL_of (by rw [bys_length];simp),List.take_of_length_le (by rw [bys_length];simp)];rfl
      ·show (bys (x::b)).length / 1=_
       rw [bys_length];simp
      conv=>whnf
      repeat' (first|((first|refine ⟨rfl,?_⟩|refine nq25 (m:=1) ?_|refine nq7 ?_);conv=>whnf)|fail)
      refine ⟨0+1,hlt,by omega,?_⟩
      rw [htk,List.map_append,wrs_app1]
      refine tv_step (i:=0) (M:=wrs ((ws.take (0)).map clnW)) (a:=wa) (n:=(b.length+1)) (cs:=(bys (x::b))) (rs:=[0,1,2,3,8,6]) hwv hdf hLf (hwl _) (scs_hfs_bys _) ⟨by decide,⟨r9,r9,t9 hwv,r9,r9,trivial⟩,⟨o9 hdf,r9,r9,o9 hLf,⟨by show bds _ (wrs _++[.int .i64 _,_])=true;rw [bds_app2 (hwl _)];rfl,by show _=some (AObj.row 101 (mapVs _ (wrs _++[.int .i64 _,_])));rw [mapVs_app2 (hwl _)];rfl⟩,o9 (scs_hfs_bys _),trivial⟩⟩
   ·conv=>whnf
    refine EPrim.lss2 (a:=((j+1:Nat):Int)) (b:=(ws.length:Int)) rfl rfl (fun _=>?_) (fun h=>by omega);conv=>whnf
    refine EPrim.ixsS rfl hwsl rfl hlt ?_
    rw [hdr]
    conv=>whnf
    refine hcell _ ?_;conv=>whnf
    repeat' (first|(refine ESc.inl h141 ?_;conv=>whnf)|fail)
    rcases hub with ⟨rfl,hn0,hbs0⟩|⟨rfl,hn0,hbs0⟩|⟨c,rfl,hbl'⟩
    ·refine eqbNil0 rfl rfl ?_;conv=>whnf
     repeat' (first|((first|refine ⟨rfl,?_⟩|refine EPrim.appU (m:=1) rfl rfl rfl rfl (by rw [wrs_length,List.length_map,List.length_take];omega) rfl (by decide) (by omega) ?_|refine nq7 ?_);conv=>whnf)|fail)
     refine ⟨j+1+1,hlt,by omega,?_⟩
     rw [htk,List.map_append,wrs_app1]
     refine Abs.tells (rs:=[0,1,2,3,7]) ⟨by decide,⟨r9,r9,t9 hwv,r9,r9,trivial⟩,⟨o9 hdf,r9,r9,o9 hLf,⟨by show bds _ (wrs _++[.int .i64 _,_])=true;rw [bds_app2 (hwl _)];rfl,by show _=some (AObj.row 101 (mapVs _ (wrs _++[.int .i64 _,_])));rw [mapVs_app2 (hwl _)];rfl⟩,trivial⟩⟩
    ·refine eqbNil rfl rfl (.inl rfl) ?_;conv=>whnf
     repeat' (first|((first|refine EPrim.app0 rfl rfl rfl ?_|refine ⟨rfl,?_⟩|refine EPrim.appU (m:=1) rfl rfl rfl rfl (by rw [wrs_length,List.length_map,List.length_take];omega) rfl (by decide) (by omega) ?_|refine nq7 ?_);conv=>whnf)|fail)
     refine ⟨j+1+1,hlt,by omega,?_⟩
     rw [htk,List.map_append,wrs_app1]
     refine tv_step (i:=j+1) (M:=wrs ((ws.take (j+1)).map clnW)) (a:=wa) (n:=0) (cs:=[]) (rs:=[0,1,2,3,8,6]) hwv hdf hLf (hwl _) rfl ⟨by decide,⟨r9,r9,t9 hwv,r9,r9,trivial⟩,⟨o9 hdf,r9,r9,o9 hLf,⟨by show bds _ (wrs _++[.int .i64 _,_])=true;rw [bds_app2 (hwl _)];rfl,by show _=some (AObj.row 101 (mapVs _ (wrs _++[.int .i64 _,_])));rw [mapVs_app2 (hwl _)];rfl⟩,o9 rfl,trivial⟩⟩
    ·refine eqbNil rfl rfl (.inr ⟨_,_,_,rfl⟩) ?_;conv=>whnf
     cases b with
     | nil=>
      repeat' (first|((first|refine EPrim.app0 rfl rfl rfl ?_|refine ⟨rfl,?_⟩|refine EPrim.appU (m:=1) rfl rfl rfl rfl (by rw [wrs_length,List.length_map,List.length_take];omega) rfl (by decide) (by omega) ?_|refine nq7 ?_);conv=>whnf)|fail)
      refine ⟨j+1+1,hlt,by omega,?_⟩
      rw [htk,List.map_append,wrs_app1]
      refine tv_step (i:=j+1) (M:=wrs ((ws.take (j+1)).map clnW)) (a:=wa) (n:=0) (cs:=[]) (rs:=[0,1,2,3,8,6]) hwv hdf hLf (hwl _) rfl ⟨by decide,⟨r9,r9,t9 hwv,r9,r9,trivial⟩,⟨o9 hdf,r9,r9,o9 hLf,⟨by show bds _ (wrs _++[.int .i64 _,_])=true;rw [bds_app2 (hwl _)];rfl,by show _=some (AObj.row 101 (mapVs _ (wrs _++[.int .i64 _,_])));rw [mapVs_app2 (hwl _)];rfl⟩,o9 rfl,trivial⟩⟩
     | cons x b=>
      refine EPrim.app1 (c:=.int .u8 (Int.ofNat x)) (cs:=bys b) (m:=b.length+1) rfl rfl ?_ rfl ?_ (by omega) (by have:=hbn;simp at this;omega) ?_
      ·show takeL ((b.length+1)*1) (bys (x::b))=_
       rw [takeL_of (by rw [bys_length];simp),List.take_of_length_le (by rw [bys_length];simp)];rfl
      ·show (bys (x::b)).length / 1=_
       rw [bys_length];simp
      conv=>whnf
      repeat' (first|((first|refine ⟨rfl,?_⟩|refine EPrim.appU (m:=1) rfl rfl rfl rfl (by rw [wrs_length,List.length_map,List.length_take];omega) rfl (by decide) (by omega) ?_|refine nq7 ?_);conv=>whnf)|fail)
      refine ⟨j+1+1,hlt,by omega,?_⟩
      rw [htk,List.map_append,wrs_app1]
      refine tv_step (i:=j+1) (M:=wrs ((ws.take (j+1)).map clnW)) (a:=wa) (n:=(b.length+1)) (cs:=(bys (x::b))) (rs:=[0,1,2,3,9,7]) hwv hdf hLf (hwl _) (scs_hfs_bys _) ⟨by decide,⟨r9,r9,t9 hwv,r9,r9,trivial⟩,⟨o9 hdf,r9,r9,o9 hLf,⟨by show bds _ (wrs _++[.int .i64 _,_])=true;rw [bds_app2 (hwl _)];rfl,by show _=some (AObj.row 101 (mapVs _ (wrs _++[.int .i64 _,_])));rw [mapVs_app2 (hwl _)];rfl⟩,o9 (scs_hfs_bys _),trivial⟩⟩
  ·have hje:j=ws.length:=by omega
   have hMe:ws.take j=ws:=List.take_of_length_le (by omega)
   rw [hMe]
   rw [← hku] at hk
   rcases j with _|j
   ·conv=>whnf
    refine EPrim.lss2 (a:=((0:Nat):Int)) (b:=(ws.length:Int)) rfl rfl (fun _=>by omega) (fun _=>?_);conv=>whnf
    skip
    refine (hk _ ?_).1 hje.symm
    rfl
   ·conv=>whnf
    refine EPrim.lss2 (a:=((j+1:Nat):Int)) (b:=(ws.length:Int)) rfl rfl (fun _=>by omega) (fun _=>?_);conv=>whnf
    skip
    rw [← hje] at hk
    refine (hk _ ?_).2 (by omega) ?_
    ·rfl
    ·rfl
def twL (x:DK):List AObj:=match x.ws.length with
 | 0=>[.row 54 (x.us.map clnV)]
 | _+1=>[.row 54 (x.us.map clnV),.row 101 (wrs (x.ws.map clnW))]
def twV (n:Nat) (x:DK):AV:=.agg [.sl (0+n) 0 x.us.length none,(match x.ws.length with|0=>.nils|m+1=>.sl (1+n) 0 (m+1) none),.bool x.dead]
structure DK1 (x:DK):Prop where
 ok:x.ok
 n:1≤x.us.length
noncomputable def twO:Ov:=fun args s=>open Classical in if h:∃ x:DK,DK1 x∧args=[x.v] then .ok (twV s.next (Classical.choose h)) (allocs s (twL (Classical.choose h))) else .fail
theorem twO_run {x:DK}(hx:DK1 x) (s:St):twO [x.v] s=.ok (twV s.next x) (allocs s (twL x)):=by
 have h:∃ y:DK,DK1 y∧[x.v]=[y.v]:=⟨x,hx,rfl⟩
 unfold twO
 rw [dif_pos h]
 obtain ⟨h1,h2⟩:=Classical.choose_spec h
 rw [← DK.inj hx.ok.a h1.ok.a (List.cons.inj h2).1]
theorem twO_ok {e:Env}(hE:EM P e) (h141:Inl e 155 code141 [.tmp 2]):OvOk P 87 twO:=by
 refine ⟨g87.b,fun args s v s' hh=>?_⟩
 have hx0:∃ x:DK,DK1 x∧args=[x.v]:=by
  unfold twO at hh
  split at hh
  ·rename_i h;exact h
  ·cases hh
 obtain ⟨x,hx,rfl⟩:=hx0
 rw [twO_run hx] at hh
 cases hh
 have hfa:hfs [x.v]=true:=by show (AM.hf x.v && true)=true;rw [DK.hf hx.ok.a];rfl
 have hcl:hfs (x.us.map clnV)=true:=hfs_cln _ fun u hu=>by
  obtain ⟨k,hk⟩:=List.mem_iff_getElem?.1 hu
  obtain ⟨b,_,hb⟩:=hx.ok.a.bs.get hk
  rcases hb.1 with ⟨rfl,_⟩|⟨rfl,_⟩|⟨c,rfl,_⟩ <;> rfl
 have hwl:hfs (wrs (x.ws.map clnW))=true:=hfs_wrs fun w hw=>by
  obtain ⟨v,hv,rfl⟩:=List.mem_map.1 hw
  rcases (hx.ok.a.ws v hv).b.1 with ⟨h,_⟩|⟨h,_⟩|⟨c,h,_⟩ <;> (show AM.hf (clnV v.u)=true;rw [h];rfl)
 have key:C P 87 [x.v] St0 (fun v s'=>v=twV 0 x∧s'=allocs St0 (twL x)):=by
  refine C.abs (C.of_G hE g87 (tw_main hE h141 hx.ok hx.n fun s h3=>⟨fun h0=>?_,fun h1 h4=>?_⟩))
  ·unfold twV twL
   rw [h0]
   exact ⟨[3],⟨by decide,⟨r9,trivial⟩,⟨⟨rowH hcl,by rw [mapRowH hcl];exact h3⟩,trivial⟩⟩⟩
  ·obtain ⟨m,hm'⟩:∃ m,x.ws.length=m+1:=⟨x.ws.length-1,by omega⟩
   unfold twV twL
   rw [hm']
   exact ⟨[3,4],⟨by decide,⟨r9,trivial⟩,⟨⟨rowH hcl,by rw [mapRowH hcl];exact h3⟩,⟨rowH hwl,by rw [mapRowH hwl];exact h4⟩,trivial⟩⟩⟩
 refine (C.frame (l:=twL x) (u:=twV 0 x) hfa ?_ ?_ key ?_ s).mono ?_
 ·unfold twL;split
  ·intro o ho;simp at ho;subst ho;rfl
  ·intro o ho;simp at ho;rcases ho with rfl|rfl <;> rfl
 ·unfold twL;split <;> exact .inl (by simp)
 ·unfold twL;split <;> intro i o h <;> rcases i with _|_|i <;> simp at h <;> first|(subst h;rfl)|omega
 ·rintro v s' ⟨rfl,rfl⟩
  refine ⟨?_,?_⟩
  ·unfold twV;cases x.ws.length <;> rfl
  ·unfold twL;split
   ·show allocs s [mapO _ (.row 54 (x.us.map clnV))]=_
    rw [mapRowH hcl]
   ·show allocs s [mapO _ (.row 54 (x.us.map clnV)),mapO _ (.row 101 (wrs (x.ws.map clnW)))]=_
    rw [mapRowH hcl,mapRowH hwl]
def wAt (a:Int) (w:WR):Bool:=decide (w.at_=a)
def keepW (a:Int) (L:List WR):List WR:=L.filter fun w=>!wAt a w
def zW:List AV:=[.int .i64 0,.nils]
def code136:AC:=match a108 with|.mk c _=>c
def code137:AC:=match a109 with|.mk c _=>c
variable {r:Nat}{X:List WR}{w:WR}
theorem load_wr {e j:Nat}(h:s.get r=some (.row e (wrs X))) (hj:X[j]?=some w):load r (0+j*2) 2 s=some [.int .i64 w.at_,w.u]:=by
 have hlt:=(List.getElem?_eq_some_iff.1 hj).1
 have hw:=(List.getElem?_eq_some_iff.1 hj).2
 rw [load_of h (by rw [wrs_length];omega),Nat.zero_add,wrs_drop_cons hlt,hw];rfl
theorem wrs_set:∀ {X:List WR}{k:Nat}{w:WR},k<X.length->(wrs X).take (k*2)++[.int .i64 w.at_,w.u]++(wrs X).drop (k*2+2)=wrs (X.set k w)
 | [],k,w,h=>by simp at h
 | x::X,0,w,h=>by rw [wrs_cons];rfl
 | x::X,k+1,w,h=>by
  have:=wrs_set (X:=X) (k:=k) (w:=w) (by simpa using h)
  rw [wrs_cons,List.set_cons_succ,wrs_cons,← this]
  have hl:x.c.length=2:=rfl
  rw [show (k+1)*2=x.c.length+k*2 by omega,List.take_append,List.take_of_length_le (by omega),show x.c.length+k*2+2=x.c.length+(k*2+2) by omega,List.drop_append,List.drop_eq_nil_of_le (by omega)]
  simp
theorem store_wr {e:Nat}(h:s.get r=some (.row e (wrs X))) (hk:k<X.length):storeAt r (0+k*2) [.int .i64 w.at_,w.u] s=some (s.put r (.row e (wrs (X.set k w)))):=by
 rw [store_of h (by rw [wrs_length];show 0+k*2+2≤_;omega),Nat.zero_add,← wrs_set hk];rfl
variable {z:List AV}
theorem EPrim.clrW {k:AV->St->Prop}{x:AO}{o:Nat}{c:Option Nat}{s':St}(hx:ev x t=.some (.sl r o n c)) (hs:storeAt r o (rep z n) s=some s') (hk:k (.tup []) s'):EPrim (.clr z x) t s k:=by
 refine EPrim.mk (fun e rec=>?_) hk
 show wth x t _=_;unfold wth;rw [hx]
 show retS (.tup []) (storeAt r o (rep z n) s)=_;rw [hs];rfl
theorem rep_length:∀ n,(rep z n).length=n*z.length
 | 0=>by show ([]:List AV).length=_;simp
 | n+1=>by
  have:rep z (n+1)=z++rep z n:=by
   show appL z (rep z n)=_;rw [appL_eq]
  rw [this,List.length_append,rep_length n];simp [Nat.succ_mul];omega
theorem wrs_take (X:List WR) (k:Nat):(wrs X).take (k*2)=wrs (X.take k):=by
 induction X generalizing k with
 | nil=>simp [wrs]
 | cons x X ih=>
  cases k with
  | zero=>simp [wrs]
  | succ k=>
   have hl:x.c.length=2:=rfl
   rw [wrs_cons,List.take_succ_cons,wrs_cons,← ih,show (k+1)*2=x.c.length+k*2 by omega,List.take_append,List.take_of_length_le (by omega)]
   simp
theorem keepW_le (a:Int) (L:List WR):(keepW a L).length≤L.length:=List.length_filter_le _ _
theorem keepW_app (a:Int) (L M:List WR):keepW a (L++M)=keepW a L++keepW a M:=by unfold keepW;simp
theorem keepW_all {L:List WR}(h:∀ w ∈ L,wAt a w=false):keepW a L=L:=by
 unfold keepW;rw [List.filter_eq_self];intro w hw;rw [h w hw];rfl
theorem fstW_spec (p:WR->Bool):∀ (L:List WR) (i:Nat),(fstW p L i=-1∧∀ w ∈ L,p w=false)∨∃ (m:Nat) (h:m<L.length),fstW p L i=((i+m:Nat):Int)∧p L[m]=true∧∀ w ∈ L.take m,p w=false
 | [],i=>.inl ⟨rfl,by simp⟩
 | x::L,i=>by
  unfold fstW
  cases hx:p x
  ·rcases fstW_spec p L (i+1) with ⟨h1,h2⟩|⟨m,h,h1,h2,h3⟩
   ·exact .inl ⟨by rw [if_neg (by decide)];exact h1,fun w hw=>by rcases List.mem_cons.1 hw with rfl|hw;exact hx;exact h2 w hw⟩
   ·refine .inr ⟨m+1,by simpa using h,?_,by simpa using h2,fun w hw=>?_⟩
    ·rw [if_neg (by decide),h1];congr 1;omega
    ·rw [List.take_succ_cons] at hw
     rcases List.mem_cons.1 hw with rfl|hw
     ·exact hx
     ·exact h3 w hw
  ·exact .inr ⟨0,by simp,by rw [if_pos rfl];simp,by simpa using hx,by simp⟩
variable {W0:List WR}
theorem fidxW_run {e:Env}(hE:EM P e) (h137:Inl e 109 code137 [.tmp 3]) (hs:Sl 2 W0.length (wrs W0) v) (ha:i64B a) (hw:∀ w ∈ W0,i64B w.at_) (hn:W0.length<1000000) (Q:AV->St->Prop) (hk:∀ s,Q (.int .i64 (fstW (wAt a) W0 0)) s):
 VW P e 0 code163 (initT [v,.fn 109 [] [.fp [.int .i64 a]]] 0 .lf) St0 none [] (EEnd [.tmp 4] Q):=by
 have hvf:=hs.hf
 conv=>whnf
 refine nq21 hs ?_;conv=>whnf
 refine W.loopT (α:=Nat) (fun i=>[(0,v),(1,.fn 109 [] [.fp [.int .i64 a]]),(7,.int .i64 (W0.length:Int)),(8,.int .i64 (i:Int))]) (fun _=>[]) (fun i=>W0.length-i) (fun i=>i≤W0.length∧fstW (wAt a) W0 0=fstW (wAt a) (W0.drop i) i) 0 ⟨Nat.zero_le _,rfl⟩
  (Abs.tells (rs:=[]) .a) ?_
 rintro i ⟨hi,hI⟩
 refine vs_sound hE ?_
 by_cases hlt:i<W0.length
 ·have hd:=wrs_drop_cons hlt
  have hwa:=hw _ (List.getElem_mem hlt)
  rw [List.drop_eq_getElem_cons hlt] at hI
  have hall:=And.intro hI (And.intro hd hwa)
  clear hI hd hwa
  revert hall
  generalize W0[i]=w
  obtain ⟨wa,wu,wb⟩:=w
  rintro ⟨hI,hd,hwa⟩
  have hd:(wrs W0).drop (i*2)=[.int .i64 wa,wu]++wrs (W0.drop (i+1)):=hd
  have hI:fstW (wAt a) W0 0=if decide (wa=a) then (i:Int) else fstW (wAt a) (W0.drop (i+1)) (i+1):=hI
  unfold i64B at hwa ha
  dsimp only at hwa
  conv=>whnf
  refine EPrim.lss2 (a:=(i:Int)) (b:=(W0.length:Int)) rfl rfl (fun _=>?_) (fun h=>by omega);conv=>whnf
  repeat' (first|(refine EPrim.ixsS rfl hs rfl hlt ?_;rw [hd];conv=>whnf)|((first|refine ETake.eq rfl ?_|refine ECall.inl h137.O h137.G ?_|refine nq22 ?_|refine nq7 ?_|refine ⟨rfl,?_⟩);conv=>whnf)|refine nq5 ?_ ?_|(intro _;first|omega|conv=>whnf))
  ·rename_i he
   rw [if_pos (by simpa using he)] at hI
   rw [hI] at hk
   exact hk _
  ·rename_i he
   rw [if_neg (by simpa using he)] at hI
   exact ⟨i+1,⟨hlt,hI⟩,by omega,Abs.tells (rs:=[]) .a⟩
 ·have hd:W0.drop i=[]:=List.drop_eq_nil_of_le (by omega)
  rw [hd] at hI
  have hI:fstW (wAt a) W0 0=-1:=hI
  rw [hI] at hk
  conv=>whnf
  refine EPrim.lss2 (a:=(i:Int)) (b:=(W0.length:Int)) rfl rfl (fun h=>by omega) (fun _=>?_);conv=>whnf
  exact hk _
structure WA where
 r:Nat
 q:Nat
 ws:List WR
 a:Int
structure WA.ok (x:WA) (s:St):Prop where
 g:s.get x.r=some (.row 101 (wrs x.ws))
 q:s.get x.q=some (.row 3 [.int .i64 x.a])
 w:∀ w ∈ x.ws,w.any
 a:i64B x.a
 n:x.ws.length<1000000
def WA.args (x:WA):List AV:=[.sl x.r 0 x.ws.length none,.fn 109 [] [.ptr x.q 0]]
variable {x:WA}
theorem WA.inj {y:WA}(hx:x.ok s) (hy:y.ok s) (h:x.args=y.args):x=y:=by
 obtain ⟨r,q,ws,a⟩:=x
 obtain ⟨r',q',ws',a'⟩:=y
 simp [WA.args] at h
 obtain ⟨⟨rfl,_⟩,rfl⟩:=h
 have e1:=hx.g.symm.trans hy.g
 have e2:=hx.q.symm.trans hy.q
 dsimp only at e1 e2
 injection e1 with e1
 injection e1 with _ e1
 injection e2 with e2
 injection e2 with _ e2
 injection e2 with e2
 injection e2 with _ e2
 have e3:=wrs_inj hx.w hy.w e1
 dsimp only at e3
 subst e2 e3;rfl
noncomputable def widxA:Ov:=fun args s=>open Classical in if h:∃ x:WA,x.ok s∧args=x.args then .ok (.int .i64 (fstW (wAt (Classical.choose h).a) (Classical.choose h).ws 0)) s else .fail
theorem widxA_run (hx:x.ok s):widxA x.args s=.ok (.int .i64 (fstW (wAt x.a) x.ws 0)) s:=by
 have h:∃ y:WA,y.ok s∧x.args=y.args:=⟨x,hx,rfl⟩
 unfold widxA
 rw [dif_pos h]
 obtain ⟨h1,h2⟩:=Classical.choose_spec h
 rw [← WA.inj hx h1 h2]
def nilI:Fam Int:=⟨i64B,fun a=>[.nils,.fn 109 [] [.fp [.int .i64 a]]],fun a=>.int .i64 (-1),fun _ _ _ _ _=>rfl⟩
noncomputable def delI:Ov:=orO widxA nilI.O
theorem delI_ok {e:Env}(hE:EM P e) (h137:Inl e 109 code137 [.tmp 3]):OvOk P 189 delI:=by
 refine orO_ok ⟨g189.b,fun args s u s' hh=>?_⟩ (Fam.ok_of g189.b fun a ha=>⟨rfl,rfl,C.of_G hE g189 (fidxW_run (W0:=[]) hE h137 (.inl ⟨rfl,rfl,rfl⟩) ha (by simp) (by decide) _ fun s=>.plain _ rfl)⟩)
 unfold widxA at hh
 split at hh
 ·rename_i hx
  cases hh
  obtain ⟨h1,h2⟩:=Classical.choose_spec hx
  generalize Classical.choose hx=y at h1 h2 ⊢
  subst h2
  obtain ⟨r,q,ws,a⟩:=y
  obtain ⟨hg,hq,hw,ha,hn⟩:=h1
  dsimp only at hg hq hw ha hn
  have hwf:hfs (wrs ws)=true:=hfs_wrs fun w hwm=>(hw w hwm).b.1.hf
  have hfz:∀ (l:List AV) (s:St),hfs l=true->All2 (Frz s) l l:=fun l s=>by
   induction l with
   | nil=>intro _;exact .nil
   | cons v l ih=>intro h;simp only [hfs,Bool.and_eq_true] at h;exact .cons (.plain _ h.1) (ih h.2)
  refine C.view (args2:=[.fz ws.length none (wrs ws),.fn 109 [] [.fp [.int .i64 a]]]) (.cons (.sl r 0 ws.length none none 101 _ (wrs ws) _ hg (fun i x h=>by rw [Nat.zero_add];exact h) (hfz _ _ hwf) (.inl rfl)) (.cons (.fn 109 [] [.ptr q 0] [] [.fp [.int .i64 a]] .nil (.cons (.ptr q 0 3 [.int .i64 a] [.int .i64 a] [.int .i64 a] hq (fun i x h=>by rw [Nat.zero_add];exact h) (.cons (.plain _ rfl) .nil)) .nil)) .nil)) rfl (C.freeze rfl ?_)
  exact C.of_G hE g189 (fidxW_run hE h137 (.inr (.inr ⟨none,rfl,wrs_length ws⟩)) ha (fun w hwm=>(hw w hwm).at_) hn _ fun s=>.plain _ rfl)
 ·cases hh
theorem delI_run {e:Env}(h:Con e 189 delI) (hx:x.ok s) (hk:K (.int .i64 (fstW (wAt x.a) x.ws 0)) s):ESc e 189 x.args s K:=by
 refine ESc.ov h (v:=.int .i64 (fstW (wAt x.a) x.ws 0)) (s':=s) ?_ hk
 unfold delI orO
 rw [widxA_run hx]
theorem delI_nil {e:Env}(h:Con e 189 delI) (ha:i64B a) (hk:K (.int .i64 (-1)) s):ESc e 189 [.nils,.fn 109 [] [.fp [.int .i64 a]]] s K:=by
 refine ESc.ov h (v:=.int .i64 (-1)) (s':=s) ?_ hk
 have:widxA [.nils,.fn 109 [] [.fp [.int .i64 a]]] s=.fail:=by
  unfold widxA
  rw [dif_neg]
  rintro ⟨x,_,h⟩
  have:=(List.cons.inj h).1
  cases this
 unfold delI orO
 rw [this]
 exact Fam.O_run nilI ha s
theorem del_main {e:Env}(hE:EM P e) (h163:Con e 189 delI) (h137:Inl e 109 code137 [.tmp 3]) (ha:i64B a) (hw:∀ w ∈ W0,w.any) (hn:W0.length<1000000) (h1:1≤W0.length) (Q:AV->St->Prop)
 (hk:∀ s,s.get 0=some (.row 101 (wrs (keepW a W0)++rep zW (W0.length-(keepW a W0).length)))->s.get 1=some (.row 3 [.int .i64 a])->Q (.sl 0 0 (keepW a W0).length none) s):
 VW P e 2 code136 (initT [.sl 0 0 W0.length none,.fn 109 [] [.ptr 1 0]] 0 .lf) (allocs St0 [.row 101 (wrs W0),.row 3 [.int .i64 a]]) none [] (EEnd [.tmp 4] Q):=by
 have hwf:∀ X:List WR,(∀ w ∈ X,w.any)->hfs (wrs X)=true:=fun X h=>hfs_wrs fun w hwm=>(h w hwm).b.1.hf
 have hx:∀ s:St,s.get 0=some (.row 101 (wrs W0))->s.get 1=some (.row 3 [.int .i64 a])->∀ K:AV->St->Prop,K (.int .i64 (fstW (wAt a) W0 0)) s->ESc e 189 [.sl 0 0 W0.length none,.fn 109 [] [.ptr 1 0]] s K:=fun s g1 g2 K hk=>delI_run h163 (x:=⟨0,1,W0,a⟩) ⟨g1,g2,hw,ha,hn⟩ hk
 conv=>whnf
 refine hx _ rfl rfl _ ?_
 rcases fstW_spec (wAt a) W0 0 with ⟨e1,e2⟩|⟨m,hml,e1,e2,e3⟩
 ·rw [e1]
  rw [keepW_all e2,Nat.sub_self] at hk
  conv=>whnf
  repeat' (first|refine nq5 ?_ ?_|(intro _;first|omega|conv=>whnf))
  refine hk _ ?_ rfl
  show _=some (AObj.row 101 (wrs W0++[]))
  rw [List.append_nil];rfl
 ·rw [e1,Nat.zero_add]
  conv=>whnf
  repeat' (first|(refine nq7 ?_;conv=>whnf)|refine nq5 ?_ ?_|(intro _;first|omega|conv=>whnf))
  have htm:keepW a (W0.take m)=W0.take m:=keepW_all e3
  have hsm:keepW a (W0.take (m+1))=W0.take m:=by
   rw [List.take_succ_eq_append_getElem hml,keepW_app,htm]
   have:keepW a [W0[m]]=[]:=by unfold keepW;simp [e2]
   rw [this,List.append_nil]
  have hkm:(keepW a (W0.take (m+1))).length=m:=by rw [hsm,List.length_take];omega
  refine W.loopT (k:=2) (α:=Nat×List WR) (fun x=>[(0,.sl 0 0 W0.length none),(1,.fn 109 [] [.ptr 1 0]),(5,.int .i64 (((keepW a (W0.take x.1)).length:Nat):Int)),(6,.int .i64 (x.1:Int))]) (fun x=>[.row 101 (wrs x.2),.row 3 [.int .i64 a]]) (fun x=>W0.length-x.1)
   (fun x=>x.1≤W0.length∧x.2.length=W0.length∧(∀ w ∈ x.2,w.any)∧(keepW a (W0.take x.1)).length<x.1∧x.2.take (keepW a (W0.take x.1)).length=keepW a (W0.take x.1)∧x.2.drop x.1=W0.drop x.1) (m+1,W0)
   ⟨by dsimp only;omega,rfl,hw,by dsimp only;omega,by dsimp only;rw [hkm,hsm],rfl⟩
   (AbsK.tells (rs:=[0,1]) ⟨rfl,by decide,⟨r9,r9,⟨rfl,by dsimp only;rw [hkm];rfl⟩,r9,trivial⟩,⟨o9 (hwf _ hw),r9,trivial⟩⟩) ?_
  rintro ⟨j,X⟩ ⟨hj,hXl,hXa,hkj,hXt,hXd⟩
  dsimp only at hj hXl hXa hkj hXt hXd ⊢
  obtain ⟨k,hkd⟩:∃ k,k=(keepW a (W0.take j)).length:=⟨_,rfl⟩
  rw [← hkd] at hkj hXt ⊢
  refine vs_sound hE ?_
  by_cases hlt:j<W0.length
  ·have hXj:X[j]?=some W0[j]:=by
    have:=congrArg (fun l:List WR=>l[0]?) hXd
    simp only [List.getElem?_drop,Nat.add_zero] at this
    rw [this,List.getElem?_eq_getElem hlt]
   have hwj:=hw _ (List.getElem_mem hlt)
   have hKs:keepW a (W0.take (j+1))=keepW a (W0.take j)++keepW a [W0[j]]:=by rw [List.take_succ_eq_append_getElem hlt,keepW_app]
   have hXd':X.drop (j+1)=W0.drop (j+1):=by
    have:=congrArg (List.drop 1) hXd
    rwa [List.drop_drop,List.drop_drop] at this
   have hall:=And.intro hXj (And.intro hwj hKs)
   clear hXj hwj hKs hsm htm hkm e2 e3 hx hXd hml
   revert hall
   generalize W0[j]=w
   rintro ⟨hXj,hwj,hKs⟩
   obtain ⟨wa,wu,wb⟩:=w
   have hwu:AM.hf wu=true:=hwj.b.1.hf
   have hwi:=hwj.at_
   unfold i64B at hwi ha
   dsimp only at hwi
   have hld:∀ s:St,s.get 0=some (.row 101 (wrs X))->load 0 (0+j*2) 2 s=some [.int .i64 wa,wu]:=fun s h=>load_wr h hXj
   have hst:∀ s:St,s.get 0=some (.row 101 (wrs X))->storeAt 0 (0+k*2) [.int .i64 wa,wu] s=some (s.put 0 (.row 101 (wrs (X.set k ⟨wa,wu,wb⟩)))):=fun s h=>store_wr (w:=⟨wa,wu,wb⟩) h (by omega)
   conv=>whnf
   refine EPrim.lenPZ rfl ?_;conv=>whnf
   refine EPrim.lss2 (a:=(j:Int)) (b:=(W0.length:Int)) rfl rfl (fun _=>?_) (fun h=>by omega);conv=>whnf
   refine EPrim.ixsP (i:=j) rfl rfl hlt ?_;conv=>whnf
   refine stuckO [.int .i64 wa,wu] (hld _ rfl) ?_;conv=>whnf
   refine ECall.inl h137.O h137.G ?_;conv=>whnf
   refine EPrim.eql2 (a:=wa) (b:=a) rfl rfl (fun he=>?_) (fun he=>?_)
   ·conv=>whnf
    repeat' (first|((first|refine nq7 ?_|refine nq12 ?_|refine ⟨rfl,?_⟩);conv=>whnf)|fail)
    have hK1:keepW a (W0.take (j+1))=keepW a (W0.take j):=by
     rw [hKs]
     have:keepW a [⟨wa,wu,wb⟩]=[]:=by unfold keepW wAt;simp [he]
     rw [this,List.append_nil]
    refine ⟨(j+1,X),⟨by dsimp only;omega,hXl,hXa,by dsimp only;rw [hK1];omega,by dsimp only;rw [hK1,← hkd];exact hXt,hXd'⟩,by show W0.length-(j+1)<W0.length-j;omega,?_⟩
    dsimp only
    rw [hK1,← hkd]
    exact AbsK.tells (rs:=[0,1]) ⟨rfl,by decide,⟨r9,r9,r9,r9,trivial⟩,⟨o9 (hwf _ hXa),r9,trivial⟩⟩
   ·conv=>whnf
    refine EPrim.notF rfl ?_;conv=>whnf
    refine EPrim.ixsP (i:=k) rfl rfl (by omega) ?_;conv=>whnf
    refine stuckO _ (hst _ rfl) ?_;conv=>whnf
    repeat' (first|((first|refine nq7 ?_|refine ⟨rfl,?_⟩);conv=>whnf)|fail)
    have hK1:keepW a (W0.take (j+1))=keepW a (W0.take j)++[⟨wa,wu,wb⟩]:=by
     rw [hKs]
     have:keepW a [⟨wa,wu,wb⟩]=[⟨wa,wu,wb⟩]:=by unfold keepW wAt;simp [he]
     rw [this]
    have hK2:(keepW a (W0.take (j+1))).length=k+1:=by rw [hK1,List.length_append,← hkd];rfl
    have hXs:∀ w ∈ X.set k ⟨wa,wu,wb⟩,w.any:=fun w hwm=>by
     rcases List.mem_or_eq_of_mem_set hwm with h|rfl
     ·exact hXa w h
     ·exact hwj
    refine ⟨(j+1,X.set k ⟨wa,wu,wb⟩),⟨by dsimp only;omega,by dsimp only;rw [List.length_set];exact hXl,hXs,by dsimp only;rw [hK2];omega,?_,?_⟩,by show W0.length-(j+1)<W0.length-j;omega,?_⟩
    ·dsimp only
     rw [hK2,hK1,← hXt]
     have hks:k<X.length:=by omega
     rw [List.take_succ_eq_append_getElem (by rw [List.length_set];exact hks),List.take_set_of_le (Nat.le_refl _),List.getElem_set_self]
    ·dsimp only
     rw [List.drop_set_of_lt (by omega)];exact hXd'
    ·dsimp only
     rw [hK2]
     exact AbsK.tells (rs:=[0,1]) ⟨rfl,by decide,⟨r9,r9,r9,r9,trivial⟩,⟨o9 (hwf _ hXs),r9,trivial⟩⟩
  ·have hje:W0.take j=W0:=List.take_of_length_le (by omega)
   rw [hje] at hkd hXt
   rw [← hkd] at hk
   conv=>whnf
   refine EPrim.lenPZ rfl ?_;conv=>whnf
   refine EPrim.lss2 (a:=(j:Int)) (b:=(W0.length:Int)) rfl rfl (fun h=>by omega) (fun _=>?_);conv=>whnf
   refine EPrim.slcU (l:=k) (h:=W0.length) rfl rfl rfl (by omega) (Nat.le_refl _) (by omega) ?_;conv=>whnf
   refine EPrim.clrW rfl (store_of (e:=101) (cs:=wrs X) rfl (by rw [rep_length,wrs_length];show 0+k*2+(W0.length-k)*2≤_;omega)) ?_;conv=>whnf
   refine EPrim.slcU (l:=0) (h:=k) rfl rfl rfl (Nat.zero_le _) (by omega) (by omega) ?_;conv=>whnf
   refine hk _ ?_ rfl
   show some (AObj.row 101 ((wrs X).take (0+k*2)++rep zW (W0.length-k)++(wrs X).drop (0+k*2+(rep zW (W0.length-k)).length)))=_
   rw [rep_length,Nat.zero_add,wrs_take,hXt,List.drop_eq_nil_of_le (by rw [wrs_length];show _≤k*2+(W0.length-k)*2;omega),List.append_nil]
end Go.AM
