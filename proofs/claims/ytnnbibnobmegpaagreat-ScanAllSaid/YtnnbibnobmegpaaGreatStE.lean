/-
 Functions of the program as the abstract machine reads them, and what is stated of them, checked by the kernel. No conditions.
-/
import Derived.Test.YtnnbibnobmegpaaGreatStA
import Derived.Test.YtnnbibnobmegpaaGreatStD
import Derived.Test.YtnnbibnobmegpaaGreatStC
import Derived.Test.YtnnbibnobmegpaaGreatStB
import Derived.Test.YtnnbibnobmegpaaGreatAM5
set_option linter.unusedVariables false
set_option linter.unusedSimpArgs false
set_option linter.unnecessarySimpa false
set_option maxRecDepth 100000
namespace Go.AM
attribute [local irreducible] W
open X
def M9:Ov:=fun args s=>match args with
 | []=>.ok (.bool true) s
 | _=>.fail
theorem Zd6 {e:Env}{f k:Nat}(hE:EM P e) (hb:G4 P f) (h:RA (C2 e (exec e k) f [] St0)=true):OvOk P f M9:=by
 refine ⟨hb,fun args s v s' hh=>?_⟩
 unfold M9 at hh
 split at hh
 ·cases hh
  refine IJ rfl rfl ?_ s
  obtain ⟨s1,h⟩:=Zcp h
  intro γ vals w m hA hs
  have hc:=(L7 (LQ hE.1 hE.2 k) hE.1 hA hs h).2 m
  exact CallsIn.mono hc fun e w' hp=>⟨_,_,.plain _ rfl,hp⟩
 ·cases hh
end Go.AM
namespace Go.AM
attribute [local irreducible] W
open X
def BD.bb (x:BD):List (List Nat):=AN x.note::x.d.prs.map (fun p=>AQ p.2)
theorem Oh {c:Cfg}{d:DB}(hM:c.may) (hd:d.ok) (hD:DC c d.d=true):∀ p ∈ d.prs,((0≤p.1∧p.1<256)∧∀ b ∈ p.2,b<256)∧p.2.length≤128:=by
 unfold DC at hD
 simp only [Zoh,Zpc,Bool.not_eq_true'] at hD
 obtain ⟨⟨⟨⟨hod,_⟩,hsl⟩,_⟩,hpo⟩:=hD
 have hsl:D0 (c.members-2) d.sl=true:=hsl
 have hM':=hM
 unfold Cfg.may at hM'
 have h1:=WQ hd (PY hsl (by omega))
 have h2:=QY hod
 intro p hp
 refine ⟨h1 p hp,?_⟩
 unfold DB.prs at hp
 rcases Zo7.1 hp with hp|hp
 ·have:=h2 p.2 (List.of_mem_zip (show (p.1,p.2) ∈ _ from hp)).2
  omega
 ·split at hp
  ·simp at hp
  ·simp at hp
   subst hp
   have hpo:AE d.pb.length=false:=hpo
   unfold AE at hpo
   simp only [Bool.and_eq_false_iff,Zpl,Decidable.not_not] at hpo
   show d.pb.length≤128
   omega
end Go.AM
namespace Go.AM
attribute [local irreducible] W
open X
structure Fd where
 n:Nt
 y:RdS
def Fd.c (f:Fd):List AV:=fC f.n.age f.n.seq f.n.stripe f.y
def Fd.m (f:Fd):Nat:=f.n.recs.length+1
def Di (L:List Fd):List AV:=L.flatMap Fd.c
theorem Ug (f:Fd) (L:List Fd):Di (f::L)=f.c++Di L:=rfl
theorem QM (L:List Fd) (f:Fd):Di (L++[f])=Di L++f.c:=by
 unfold Di;rw [List.flatMap_append];simp
theorem PV:∀ (L:List Fd),(Di L).length=L.length*6
 | []=>rfl
 | f::L=>by rw [Ug,Zot,PV L,Zo9];show 6+_=_;omega
theorem O4:∀ (L:List Fd),hfs (Di L)=true
 | []=>rfl
 | f::L=>by
  rw [Ug]
  have h1:hfs f.c=true:=Zme _ _ _ _
  have h2:=O4 L
  revert h1 h2
  generalize f.c=a
  generalize Di L=b
  induction a with
  | nil=>intro _ h;exact h
  | cons x a ih=>
   intro h1 h2
   simp only [hfs,Zoh] at h1
   show (AM.hf x && hfs (a++b))=true
   rw [h1.1,ih h1.2 h2];rfl
def DV (x:CDA):Option Fd:=
 if Cb x=0 then
  (if Cz (Bo x 0)=true∧(As (Bo x 0)).id=x.c.id then
    (match CM (Bo x) (As (Bo x 0)).recs (x.c.log.toNat-1) 1 ⟨[],none⟩ with
      | none=>none
      | some y=>if CD.good ⟨x.c,(Dw (As (Bo x 0)).stripe y).d⟩ then some ⟨As (Bo x 0),y⟩ else none)
  else none)
 else none
def MU (x:CDA):Int:=if Cb x=0 then 130 else Cb x
theorem Zi1 (x:CDA):MU x≠0:=by unfold MU;split <;> simp [*]
theorem Zkd (x:CDA):Fz x=match DV x with
 | some f=>.tup [.agg f.c,.int .i64 (1+(f.n.recs.length:Int)),.int .i64 0]
 | none=>Fa (MU x):=by
 unfold Fz DV MU
 by_cases h1:Cb x=0
 ·rw [Zoj h1,Zoj h1,Zoj h1]
  by_cases h2:Cz (Bo x 0)=true∧(As (Bo x 0)).id=x.c.id
  ·rw [Zoj h2,Zoj h2]
   cases h3:CM (Bo x) (As (Bo x 0)).recs (x.c.log.toNat-1) 1 ⟨[],none⟩ with
   | none=>rfl
   | some y=>
    show HV _ _ _=match (if _ then some _ else none:Option Fd) with|some f=>_|none=>_
    unfold HV
    by_cases h4:CD.good ⟨x.c,(Dw (As (Bo x 0)).stripe y).d⟩
    ·rw [Zoj h4,Zoj h4];rfl
    ·rw [Zon h4,Zon h4]
  ·rw [Zon h2,Zon h2]
 ·rw [Zon h1,Zon h1,Zon h1]
variable {x:CDA}
theorem Zho {e:Env}(h23:Con e 82 drF.O) (hx:x.ok) (K:AV→St→Prop) (s:St) (k1:DV x=none→K (Fa (MU x)) s)
 (k2:∀ f,DV x=some f→K (.tup [.agg f.c,.int .i64 (1+(f.n.recs.length:Int)),.int .i64 0]) s):ESc e 82 x.args s K:=by
 refine ESc.fam drF h23 x hx rfl ?_
 show K (Fz x) s
 rw [Zkd]
 cases h:DV x with
 | none=>exact k1 h
 | some f=>exact k2 f h
structure FdG (x:CDA) (f:Fd):Prop where
 ask:Cb x=0
 good:Cz (Bo x 0)=true
 id:(As (Bo x 0)).id=x.c.id
 n:f.n=As (Bo x 0)
 go:CM (Bo x) f.n.recs (x.c.log.toNat-1) 1 ⟨[],none⟩=some f.y
 cd:CD.good ⟨x.c,(Dw f.n.stripe f.y).d⟩
variable {f:Fd}
theorem NY (h:DV x=some f):FdG x f:=by
 unfold DV at h
 split at h
 ·rename_i h1
  split at h
  ·rename_i h2
   split at h
   ·cases h
   ·rename_i y h3
    split at h
    ·rename_i h4
     cases h
     exact ⟨h1,h2.1,h2.2,rfl,h3,h4⟩
    ·cases h
  ·cases h
 ·cases h
theorem FdG.recs (h:FdG x f):f.n.recs.length≤17:=by
 rw [h.n]
 have:(As (Bo x 0)).recs.length=C0 (Bo x 0):=O0 (Bo x 0)
 rw [this];exact Nat.min_le_right _ _
end Go.AM
namespace Go.AM
attribute [local irreducible] W
open X
theorem Tn {b:List Nat}(h:b.length=128):BT b=b:=by
 unfold BT;rw [h];exact Zpq b
end Go.AM
namespace Go.AM
attribute [local irreducible] W
open X
variable {b:List Nat}
theorem Zn (h:b.length≤128):∃ x l,BT b=x::l:=by
 have:=Ip h
 cases hw:BT b with
 | nil=>rw [hw] at this;cases this
 | cons x l=>exact ⟨x,l,rfl⟩
theorem Zhj (q:Int×List Nat) (h:q.2.length≤128):D9 (Br q) (AQ q.2)=false∧FX (Br q) (AQ q.2)=BT q.2:=by
 obtain ⟨sl,b⟩:=q
 obtain ⟨x,l,hw⟩:=Zn h
 dsimp only
 have hb:Cf b=(x == 78):=by unfold Cf;rw [hw];rfl
 unfold D9 FX Br
 dsimp only
 have hs:AQ b=if (x == 78)=true then 0::l else x::l:=by unfold AQ;rw [hb,hw];rfl
 rw [hb]
 by_cases hx:x=78
 ·subst hx
  have hs:AQ b=0::l:=hs
  rw [hs,hw]
  exact ⟨by simp,rfl⟩
 ·have hx':(x == 78)=false:=by simpa using hx
  rw [hx'] at hs ⊢
  have hs:AQ b=x::l:=hs
  rw [hs,hw]
  exact ⟨by simp [hx],rfl⟩
def Ib (st:RdS) (q:Int×List Nat):RdS:=if q.1=255 then ⟨st.S,some (BT q.2)⟩ else ⟨st.S++[(q.1,BT q.2)],st.p⟩
theorem U8 {B:Nat→List Nat}:∀ (L:List (Int×List Nat)) (n i:Nat) (st:RdS),L.length≤n→(∀ (t:Nat) q,L[t]?=some q→B (i+t)=AQ q.2∧q.2.length≤128)→CM B (L.map Br) n i st=some (L.foldl Ib st)
 | [],n,i,st,_,_=>by cases n <;> rfl
 | q::L,0,i,st,h,_=>by simp at h
 | q::L,n+1,i,st,h,hB=>by
  obtain ⟨h1,h2⟩:=hB 0 q rfl
  rw [Zpo] at h1
  obtain ⟨e1,e2⟩:=Zhj q h2
  show (if D9 (Br q) (B i)=true then none else CM B (L.map Br) n (i+1) (Eh (Br q) (B i) st))=_
  rw [h1,e1,Zon (by decide)]
  have hp:Eh (Br q) (AQ q.2) st=Ib st q:=by
   unfold Eh Ib
   rw [e2];rfl
  rw [hp,U8 L n (i+1) _ (by simpa using h) (fun t p hp=>by
   have:=hB (t+1) p (by simpa using hp)
   rwa [show i+(t+1)=i+1+t by omega] at this)]
  rfl
theorem UY:∀ (L:List (Int×List Nat)) (st:RdS),(∀ q ∈ L,q.1≠255)→L.foldl Ib st=⟨st.S++L.map (fun q=>(q.1,BT q.2)),st.p⟩
 | [],st,_=>by simp
 | q::L,st,h=>by
  rw [List.foldl_cons]
  have:Ib st q=⟨st.S++[(q.1,BT q.2)],st.p⟩:=by unfold Ib;rw [Zon (h q (by simp))]
  rw [this,UY L _ (fun p hp=>h p (by simp [hp]))]
  simp
def B6 (d:DB):RdS:=⟨(d.sl.zip d.bs).map (fun q=>(q.1,BT q.2)),if d.pb.length=0 then none else some (BT d.pb)⟩
structure DGood (c:Cfg) (d:DB):Prop where
 may:c.may
 odd:∀ b ∈ d.bs,b.length=0∨b.length=128
 st:0≤d.st∧d.st<c.chunk*c.rows
 sl:D0 (c.members-2) d.sl=true
 n:d.bs.length=d.sl.length
 pb:d.pb.length=0∨d.pb.length=128
variable {c:Cfg}{d:DB}
theorem Kz (h:CD.good ⟨c,d.d⟩):DGood c d:=by
 obtain ⟨hM,hD⟩:=h
 unfold DC at hD
 simp only [Zoh,Zpc,Bool.not_eq_true'] at hD
 obtain ⟨⟨⟨⟨hod,hst⟩,hsl⟩,hnl⟩,hpo⟩:=hD
 have hnl:(d.bs.map List.length).length=d.sl.length:=hnl
 rw [Zom] at hnl
 exact ⟨hM,QY hod,hst,hsl,hnl,HH hpo⟩
theorem DGood.s14 (h:DGood c d):∀ s ∈ d.sl,0≤s∧s≤14:=by
 have hM:=h.may
 unfold Cfg.may at hM
 exact PY h.sl (by omega)
theorem DGood.fold (h:DGood c d):d.prs.foldl Ib ⟨[],none⟩=B6 d:=by
 unfold DB.prs B6
 rw [List.foldl_append,UY (d.sl.zip d.bs) _ (fun q hq=>by
  have:=h.s14 q.1 (List.of_mem_zip (show (q.1,q.2) ∈ _ from hq)).1
  omega)]
 by_cases hp:d.pb.length=0
 ·rw [Zoj hp,Zoj hp]
  show (⟨[]++_,none⟩:RdS)=_
  rw [List.nil_append]
 ·rw [Zon hp,Zon hp]
  show Ib _ (255,d.pb)=_
  unfold Ib
  rw [Zoj rfl]
  show (⟨[]++_,_⟩:RdS)=_
  rw [List.nil_append]
theorem DGood.fst (h:DGood c d):(B6 d).S.map Prod.fst=d.sl:=by
 show ((d.sl.zip d.bs).map _).map Prod.fst=_
 rw [List.map_map]
 exact List.map_fst_zip (by rw [h.n];exact Zo0 _)
theorem DGood.snd (h:DGood c d):(B6 d).S.map Prod.snd=d.bs.map BT:=by
 show ((d.sl.zip d.bs).map _).map Prod.snd=_
 rw [List.map_map]
 have:(Prod.snd ∘ fun q:Int×List Nat=>(q.1,BT q.2))=BT ∘ Prod.snd:=rfl
 rw [this,← List.map_map,List.map_snd_zip (by rw [h.n];exact Zo0 _)]
theorem LI (h:b.length=0∨b.length=128):Aa (BT b)=Aa b∧(BT b).length=128:=by
 rcases h with h|h
 ·have:=Zpd.1 h
  subst this
  exact ⟨rfl,rfl⟩
 ·rw [Tn h];exact ⟨rfl,h⟩
theorem DGood.cd (h:DGood c d):CD.good ⟨c,(Dw d.st (B6 d)).d⟩:=by
 refine ⟨h.may,?_⟩
 have e1:=h.fst
 have e2:=h.snd
 unfold DC
 simp only [Zoh,Zpc,Bool.not_eq_true']
 refine ⟨⟨⟨⟨?_,h.st⟩,?_⟩,?_⟩,?_⟩
 ·show (((B6 d).S.map Prod.snd).map List.length).any AE=false
  rw [e2,List.any_eq_false]
  intro n hn
  obtain ⟨b,hb,rfl⟩:=Zpf.1 hn
  obtain ⟨b',hb',rfl⟩:=Zpf.1 hb
  rw [(LI (h.odd b' hb')).2];decide
 ·show D0 (c.members-2) ((B6 d).S.map Prod.fst)=true
  rw [e1];exact h.sl
 ·show (((B6 d).S.map Prod.snd).map List.length).length=((B6 d).S.map Prod.fst).length
  rw [e1,e2,Zom,Zom];exact h.n
 ·show AE ((B6 d).p.getD []).length=false
  unfold B6
  dsimp only
  by_cases hp:d.pb.length=0
  ·rw [Zoj hp];rfl
  ·rw [Zon hp]
   show AE (BT d.pb).length=false
   rw [(LI h.pb).2];rfl
theorem DGood.same (h:DGood c d) (hu:d.us.length=d.bs.length):HR (Dw d.st (B6 d)) d=true:=by
 have e1:=h.fst
 have e2:=h.snd
 have e3:(Dw d.st (B6 d)).us.length=d.us.length:=by
  show ((B6 d).S.map _).length=_
  have:=congrArg List.length e2
  rw [Zom,Zom] at this
  rw [Zom,this,hu]
 have e4:(Dw d.st (B6 d)).pb=d.pb:=by
  show (B6 d).p.getD []=_
  unfold B6
  dsimp only
  by_cases hp:d.pb.length=0
  ·rw [Zoj hp]
   exact (Zpd.1 hp).symm
  ·rw [Zon hp]
   exact Tn (by have:=h.pb;omega)
 have e5:(Dw d.st (B6 d)).bs.map Aa=d.bs.map Aa:=by
  show ((B6 d).S.map Prod.snd).map Aa=_
  rw [e2,List.map_map]
  refine List.map_congr_left fun b hb=>?_
  exact (LI (h.odd b hb)).1
 have e6:(Dw d.st (B6 d)).sl=d.sl:=e1
 unfold HR
 rw [e3,e4,e5,e6]
 simp
 rfl
theorem DGood.yok (h:DGood c d) (hb:∀ b ∈ d.bs,∀ y ∈ b,y<256) (hp:∀ y ∈ d.pb,y<256):(B6 d).ok:=by
 have hM:=h.may
 unfold Cfg.may at hM
 have hl:=Nz h.sl
 have e1:=congrArg List.length h.fst
 rw [Zom] at e1
 refine ⟨by omega,fun q hq=>?_,fun b hb'=>?_⟩
 ·obtain ⟨p,hp,rfl⟩:=Zpf.1 (show q ∈ (d.sl.zip d.bs).map _ from hq)
  have hz:=List.of_mem_zip (show (p.1,p.2) ∈ _ from hp)
  have:=h.s14 p.1 hz.1
  exact ⟨by dsimp only;omega,(LI (h.odd p.2 hz.2)).2,Km (hb p.2 hz.2)⟩
 ·have hb':(if d.pb.length=0 then none else some (BT d.pb))=some b:=hb'
  by_cases hq:d.pb.length=0
  ·rw [Zoj hq] at hb';cases hb'
  ·rw [Zon hq] at hb'
   cases hb'
   exact ⟨(LI h.pb).2,Km hp⟩
theorem Mf (h:DGood c d):1≤d.prs.length∧(d.prs.length:Int)≤c.members∧(d.prs.length:Int)+1≤c.log:=by
 have hM:=h.may
 unfold Cfg.may at hM
 have h1:=Ny h.sl
 have h2:=Nz h.sl
 have h7:(c.members+1)*(c.heads+1)≥(c.members+1)*3:=Int.mul_le_mul_of_nonneg_left (by omega) (by omega)
 have h3:d.prs.length=d.sl.length+(if d.pb.length=0 then 0 else 1):=by
  unfold DB.prs
  rw [Zot,List.length_zip,h.n,Nat.min_self]
  split <;> rfl
 split at h3 <;> omega
theorem W7 {x:BD}(hx:x.ok) (hG:CD.good ⟨x.c,x.d.d⟩) (hN:Bq x.note=true) (hc:c={ x.c with id:=c.id }) {X:DK}{a:Int}(hA:Cb ⟨c,X,a⟩=0) (hB:∀ (i:Nat) b,x.bb[i]?=some b→Bo ⟨c,X,a⟩ i=b):
 DV ⟨c,X,a⟩=if x.c.id=c.id then some ⟨x.note,B6 x.d⟩ else none:=by
 have hD:=Kz hG
 have hp:=Oh hG.1 hx.d hG.2
 have hr:∀ r ∈ x.note.recs,r.ok:=fun r hr=>by
  obtain ⟨p,hp',rfl⟩:=Zpf.1 (show r ∈ x.d.prs.map Br from hr)
  exact QS (hp p hp').1
 have h0:Bo ⟨c,X,a⟩ 0=AN x.note:=hB 0 _ rfl
 have hnote:As (AN x.note)=x.note:=(QT hN hx.c.id hr).trans rfl
 have hgood:=SE hN hx.c.id hr
 have hl:=Mf hD
 have hlog:x.c.log=c.log:=by rw [hc]
 have hgo:CM (Bo ⟨c,X,a⟩) x.note.recs (c.log.toNat-1) 1 ⟨[],none⟩=some (B6 x.d):=by
  rw [← hD.fold]
  refine U8 x.d.prs _ 1 _ (by omega) fun t q hq=>?_
  refine ⟨?_,(hp q (Zo1 hq)).2⟩
  have:=hB (t+1) (AQ q.2) (by show (x.d.prs.map _)[t]?=_;rw [Zpe,hq];rfl)
  rwa [Nat.add_comm] at this
 have hcd:CD.good ⟨c,(Dw x.note.stripe (B6 x.d)).d⟩:=by
  have:=hD.cd
  obtain ⟨h1,h2⟩:=this
  rw [hc]
  exact ⟨h1,h2⟩
 unfold DV
 rw [Zoj hA,h0,hnote]
 dsimp only
 by_cases hid:x.c.id=c.id
 ·rw [Zoj ⟨hgood,hid⟩,Zoj hid,hgo]
  dsimp only
  rw [Zoj hcd]
 ·rw [Zon (fun h=>hid h.2),Zon hid]
end Go.AM
namespace Go.AM
attribute [local irreducible] W
open X
def WP:AC:=match Ng with|.mk (.seq _ (.seq _ r)) _=>r|_=>.skip
def z4:List AV:=[.int .u32 0,.int .u32 0,.int .u32 0,.int .i64 0]
def pl:Nat→Int
 | 0=>1
 | 1=>5
 | _=>9
def FE (i j:Nat):AV×AV×Nat:=(.ptr 0 i,.int .i64 (pl i),j)
def Cn:List Nat→Nat→List (AV×AV×Nat)
 | [],_=>[]
 | i::L,n=>FE i n::Cn L (n+1)
theorem Td:∀ (L:List Nat) (i n:Nat),Cn (L++[i]) n=Cn L n++[FE i (n+L.length)]
 | [],i,n=>rfl
 | x::L,i,n=>by
  show FE x n::Cn (L++[i]) (n+1)=FE x n::(Cn L (n+1)++_)
  rw [Td L i (n+1),Zo9,Zqd,Nat.add_comm 1]
theorem mem_ents:∀ {L:List Nat}{n:Nat}{e:AV×AV×Nat},e ∈ Cn L n↔∃ j i,L[j]?=some i∧e=FE i (n+j)
 | [],n,e=>by simp [Cn]
 | x::L,n,e=>by
  show e ∈ FE x n::Cn L (n+1)↔_
  rw [Zpp,mem_ents]
  constructor
  ·rintro (rfl|⟨j,i,h,rfl⟩)
   ·exact ⟨0,x,rfl,rfl⟩
   ·exact ⟨j+1,i,by simpa using h,by rw [Zqd,Nat.add_comm 1]⟩
  ·rintro ⟨j,i,h,rfl⟩
   cases j with
   | zero=>simp at h;subst h;exact .inl rfl
   | succ j=>exact .inr ⟨j,i,by simpa using h,by rw [Zqd,Nat.add_comm 1]⟩
def Lk (L seen:List Nat) (i:Nat):Bool:=seen.any fun j=>decide (L[j]?=some i)
variable {s:St}{v:AV}
theorem Zbn {bs:List Nat}{a z:Int}(h:BQ s v=some bs) (hl:bs.length≠0∧bs.length≠128):EZ [v,.int .i64 a,.int .i64 z] s=.ok (.tup [.int .i64 0,.int .i64 3]) s:=by
 show (Option.rec .fail (fun bs=>.ok (EG bs a z) s) (BQ s v):RV)=_
 rw [h]
 show RV.ok (EG bs a z) s=_
 unfold EG;rw [Zoj hl]
def Bd (bs:List Nat):Nat×Nat×Nat×Nat:=(Ak (Aa bs) 1 4,Ak (Aa bs) 5 4,Ak (Aa bs) 9 4,Ak (Aa bs) 13 1)
def Ia (bs:List Nat):Bool:=DE (Bd bs).2.1 (Bd bs).2.2.1 (Bd bs).2.2.2 && decide (Bg (Bd bs).1 (Bd bs).2.1 (Bd bs).2.2.1 (Bd bs).2.2.2=bs)
def Hq (bs:List Nat):AV:=
 if bs.length≠0∧bs.length≠128 then .tup [.agg z4,.int .i64 3]
 else if Ia bs=true then .tup [.agg [.int .u32 ((Bd bs).1:Int),.int .u32 ((Bd bs).2.1:Int),.int .u32 ((Bd bs).2.2.1:Int),.int .i64 ((Bd bs).2.2.2:Int)],.int .i64 0]
 else .tup [.agg z4,.int .i64 90]
theorem GS (a b c d:Nat):(Bg a b c d).length=128:=by
 unfold Bg IK;simp only [Bt];simp
theorem LJ (a b c d:Nat):∀ x ∈ Bg a b c d,x<256:=by
 unfold Bg IK
 refine Bb (Bb (Bb (Bb (Bb (Bb ?_ _) _) _) _) _) _
 intro b h;rw [Zqe h];decide
theorem Oa:∀ (n:Nat) (l:List Nat),l.Nodup→(∀ x ∈ l,x<n)→l.length≤n
 | 0,l,_,h=>by
  cases l with
  | nil=>simp
  | cons x l=>have:=h x (by simp);omega
 | n+1,l,hn,h=>by
  by_cases hm:n ∈ l
  ·have h1:=Oa n (l.erase n) (hn.erase n) (fun x hx=>by
    have:=(hn.mem_erase_iff).1 hx
    have:=h x this.2
    omega)
   rw [List.length_erase_of_mem hm] at h1;omega
  ·have:=Oa n l hn (fun x hx=>by
    have:=h x hx
    have:x≠n:=fun e=>hm (e ▸ hx)
    omega)
   omega
theorem Ok {n:Nat}(h:0<n):∀ (L:List Nat) (m:Nat),Jf n (Cn L m)=true
 | [],m=>rfl
 | i::L,m=>by
  show (Nat.blt 0 n && true && Jf n (Cn L (m+1)))=true
  rw [Ok h L (m+1),show Nat.blt 0 n=true by simpa using h];rfl
theorem NL {ρ:Nat→Nat}(h:ρ 0=0):∀ (L:List Nat) (m:Nat),F5 ρ (Cn L m)=Cn L m
 | [],m=>rfl
 | i::L,m=>by
  show (AV.ptr (ρ 0) i,AV.int .i64 (pl i),m)::F5 ρ (Cn L (m+1))=_
  rw [NL h L (m+1),h];rfl
variable {L:List Nat}{j i:Nat}
theorem Za2 (h:L[j]?=some i):∀ m,JI (m+j) (Cn L m)=some (FE i (m+j)):=by
 intro m
 induction L generalizing j m with
 | nil=>simp at h
 | cons x L ih=>
  show (Bool.rec (JI (m+j) (Cn L (m+1))) (some (FE x m)) (Nat.beq m (m+j)):Option (AV×AV×Nat))=_
  cases j with
  | zero=>simp at h;subst h;rw [Zpo,Zp2]
  | succ j=>
   rw [show Nat.beq m (m+(j+1))=false by rw [← Zqg];intro e;have:=Zol e;omega]
   have:=ih (j:=j) (by simpa using h) (m+1)
   rw [show m+1+j=m+(j+1) by omega] at this
   exact this
theorem TZ:∀ (l:List Nat) (x:Nat),Ld (l++[x])=some x
 | [],x=>rfl
 | y::l,x=>by
  show (Option.rec (some y) (fun z=>some z) (Ld (l++[x])):Option Nat)=some x
  rw [TZ l x]
variable {t:AT}{k:AV→St→Prop}{x:AO}{seen:List Nat}{es:List (AV×AV×Nat)}
theorem Zbd {ri m since last:Nat}{en:AV×AV×Nat}(hx:ev x t=.some (.ptr ri 0)) (hi:s.get ri=some (.iter m since (seen++[j]) last)) (hm:s.get m=some (.map es last)) (hb:JI j es=some en) (hk:k (.tup [en.1,en.2.1]) s):EPrim (.entm x) t s k:=by
 refine EPrim.mk (fun e rec=>?_) hk
 show wth x t _=_;unfold wth;rw [hx]
 show (IT.rec .fail _ (KP ri s):RV)=_
 unfold KP;rw [hi]
 show (Option.rec .fail _ (Ld (seen++[j])):RV)=_
 rw [TZ]
 show (Option.rec .fail _ (mapAt m s):RV)=_
 unfold mapAt;rw [hm]
 show gd (Nat.beq last last) (Option.rec .fail _ (JI j es):RV)=_
 rw [Zp2,hb];rfl
theorem Zfp {i':Nat}(h:L[j]?=some i):Lk L (seen++[j]) i'=(Lk L seen i' || decide (i=i')):=by
 unfold Lk
 rw [List.any_append];simp [h]
theorem Zb3 (e:Env) (hE:EM P e) (h86:Con e 62 EZ) (h84:Con e 9 wrF.O) (v:AV) (bs:List Nat) (hv:Sl 1 bs.length (Ab bs) v) (hb:∀ b ∈ bs,b<256) (L:List Nat) (hL:∀ i,i ∈ L↔i<3) (hn:L.length=3) (hnd:L.Nodup):
 W P 0 none WP (Am [(0,v),(2,.ptr 0 0),(3,.int .i64 0),(4,.map 1)]) (Ac St0 [.row 45 z4,.map (Cn L 0) 3]) [] (AR [.cells 2 4,.tmp 3] (fun u s=>Frz s u (Hq bs))):=by
 obtain ⟨x,hx⟩:∃ x:Nat→Nat,x=fun i=>Ak (Aa bs) (pl i).toNat 4:=⟨_,rfl⟩
 have hxl:∀ i,x i<4294967296:=fun i=>by rw [hx];exact HL (Hh hb) 4
 obtain ⟨cel,hcel⟩:∃ cel:List Nat→Nat→Int,cel=fun seen i=>if Lk L seen i then (x i:Int) else 0:=⟨_,rfl⟩
 refine A9 hE ?_;conv=>whnf
 refine EPrim.mk (v:=.ptr 2 0) (s':=Ac St0 [.row 45 z4,.map (Cn L 0) 3,.iter 1 3 [] 3]) (fun e rec=>rfl) ?_;conv=>whnf
 refine EX (α:=List Nat) (fun seen=>[(0,v),(2,.ptr 0 0),(3,.int .i64 0),(17,.ptr 2 0)]) (fun seen=>[.row 45 [.int .u32 (cel seen 0),.int .u32 (cel seen 1),.int .u32 (cel seen 2),.int .i64 0],.map (Cn L 0) 3,.iter 1 3 seen 3])
  (fun seen=>3-seen.length) (fun seen=>seen.Nodup∧(∀ j ∈ seen,j<3)∧((bs.length≠0∧bs.length≠128)→seen=[])) [] [0,1,2] ⟨by simp,by simp,fun _=>rfl⟩ ⟨by decide,⟨t9 hv.hf,r9,r9,r9,trivial⟩,⟨⟨rfl,?_⟩,⟨?_,?_⟩,r9,trivial⟩⟩ ?_
 ·rw [hcel];rfl
 ·exact Ok (Nat.succ_pos _) L 0
 ·show _=some (AObj.map (F5 _ (Cn L 0)) 3);rw [NL rfl];rfl
 rintro seen ⟨hsn,hs3,hbad⟩
 refine W.seq (W.next (e:=e) (since:=3) (last:=3) (cl:=3) (seen:=seen) (es:=Cn L 0) (ri:=2) (m:=1) hE rfl rfl rfl ?_ (Zo0 _) ?_)
 ·intro en he
  obtain ⟨j,i,hj,rfl⟩:=mem_ents.1 he
  have:=(Zog.1 hj).1
  show 0+j<3;omega
 rintro vv s' (⟨hall,rfl,rfl⟩|⟨en,hen,hns,rfl,rfl⟩)
 ·conv=>whnf
  refine A9 hE ?_;conv=>whnf
  have hc:∀ i,i<3→cel seen i=x i:=by
   intro i hi
   obtain ⟨j,hj⟩:=Zp7 ((hL i).2 hi)
   have hj':=hall _ (mem_ents.2 ⟨j,i,hj,rfl⟩)
   have h1:Lk L seen i=true:=by
    unfold Lk
    rw [List.any_eq_true]
    exact ⟨j,by simpa [FE] using hj',by simpa using hj⟩
   rw [hcel];simp only [h1];rfl
  rw [hc 0 (by omega),hc 1 (by omega),hc 2 (by omega)]
  have hgood:¬ (bs.length≠0∧bs.length≠128):=by
   intro h
   have h0:=hbad h
   subst h0
   obtain ⟨j,hj⟩:=Zp7 ((hL 0).2 (by decide))
   have:=hall _ (mem_ents.2 ⟨j,0,hj,rfl⟩)
   simp at this
  refine ESc.ov h86 (EP (ED hv hb) hgood (by decide)) ?_
  have h13:Ak (Aa bs) 13 1<256:=HL (Hh hb) 1
  have e0:x 0=(Bd bs).1:=by rw [hx];rfl
  have e1:x 1=(Bd bs).2.1:=by rw [hx];rfl
  have e2:x 2=(Bd bs).2.2.1:=by rw [hx];rfl
  have e3:Ak (Aa bs) (13:Int).toNat (1:Int).toNat=(Bd bs).2.2.2:=rfl
  have b0:=hxl 0
  have b1:=hxl 1
  have b2:=hxl 2
  rw [e3,e0,e1,e2]
  rw [e0] at b0;rw [e1] at b1;rw [e2] at b2
  have b3:(Bd bs).2.2.2<256:=h13
  have hV:Hq bs=if Ia bs=true then .tup [.agg [.int .u32 ((Bd bs).1:Int),.int .u32 ((Bd bs).2.1:Int),.int .u32 ((Bd bs).2.2.1:Int),.int .i64 ((Bd bs).2.2.2:Int)],.int .i64 0] else .tup [.agg z4,.int .i64 90]:=by unfold Hq;rw [Zon hgood]
  rw [hV]
  unfold Ia
  revert b0 b1 b2 b3
  generalize (Bd bs).1=I
  generalize (Bd bs).2.1=A
  generalize (Bd bs).2.2.1=Q
  generalize (Bd bs).2.2.2=T
  intro b0 b1 b2 b3
  conv=>whnf
  cases hB:DE A Q T
  ·refine ESc.fam wrF h84 ⟨I,A,Q,T⟩ ⟨by simp;omega,by simp;omega,by simp;omega⟩ (u:=.tup [.nils,.int .i64 8]) (by simp [wrF,Sup.b,hB]) ?_;conv=>whnf
   repeat' (first|((refine w6 rfl rfl ?_ ?_) <;> intro _ <;> first|(exfalso;omega)|(conv=>whnf))|fail)
   exact .plain _ rfl
  ·refine ESc.fam wrF h84 ⟨I,A,Q,T⟩ ⟨by simp;omega,by simp;omega,by simp;omega⟩ (u:=.tup [.fz 128 (some 128) (Ab (Bg I A Q T)),.int .i64 0]) (by simp [wrF,Sup.b,hB]) ?_;conv=>whnf
   repeat' (first|((refine w6 rfl rfl ?_ ?_) <;> intro _ <;> first|(exfalso;omega)|(conv=>whnf))|fail)
   refine Gt (n:=128) rfl (.inr (.inr ⟨_,rfl,by rw [Ba,GS]⟩)) (LJ _ _ _ _) ?_;conv=>whnf
   refine Gt rfl hv hb ?_;conv=>whnf
   refine Nw rfl rfl (fun hne=>?_) (fun heq=>?_) <;> conv=>whnf
   ·rw [Zon (by simp [hne])]
    exact .plain _ rfl
   ·rw [Zoj (by simp [heq])]
    exact .plain _ rfl
 ·obtain ⟨j,i,hj,rfl⟩:=mem_ents.1 hen
  have hj3:=(Zog.1 hj).1
  have hi3:i<3:=(hL i).1 (Zo1 hj)
  have hns:j ∉ seen:=by simpa [FE] using hns
  conv=>whnf
  refine A9 hE ?_;conv=>whnf
  refine Zbd (seen:=seen) (j:=0+j) (en:=FE i (0+j)) rfl rfl rfl (Za2 hj 0) ?_;conv=>whnf
  have hfit:Df (pl i) 4=true:=by
   rcases i with _|_|_|i <;> first|rfl|omega
  by_cases hlen:bs.length≠0∧bs.length≠128
  ·refine ESc.ov h86 (Zbn (ED hv hb) hlen) ?_;conv=>whnf
   repeat' (first|((refine w6 rfl rfl ?_ ?_) <;> intro _ <;> first|(exfalso;omega)|(conv=>whnf))|fail)
   unfold Hq
   rw [Zoj hlen]
   exact .plain _ rfl
  ·refine ESc.ov h86 (EP (ED hv hb) hlen hfit) ?_
   rw [show Ak (Aa bs) (pl i).toNat (4:Int).toNat=x i by rw [hx];rfl]
   have hxi:=hxl i
   conv=>whnf
   repeat' (first|((refine w6 rfl rfl ?_ ?_) <;> intro _ <;> first|(exfalso;omega)|(conv=>whnf))|(refine w14 (q':=.u32) rfl (G5 (by omega)) ?_;conv=>whnf)|fail)
   have hn2:seen.length+1=(seen++[0+j]).length:=by simp
   have key:∀ i',cel (seen++[0+j]) i'=if i=i' then (x i':Int) else cel seen i':=by
    intro i'
    rw [hcel];dsimp only
    rw [Zou,Zfp hj]
    by_cases h:i=i' <;> simp [h]
   have hI:(seen++[0+j]).Nodup∧(∀ j' ∈ seen++[0+j],j'<3)∧((bs.length≠0∧bs.length≠128)→seen++[0+j]=[]):=by
    refine ⟨?_,?_,fun h=>absurd h hlen⟩
    ·rw [Zou,List.nodup_append]
     exact ⟨hsn,by simp,by rintro a ha b hb rfl;simp at hb;subst hb;exact hns ha⟩
    ·intro j' hj'
     rcases Zo7.1 hj' with h|h
     ·exact hs3 j' h
     ·simp at h;omega
   have hlen3:seen.length<3:=by
    have:=Oa 3 _ hI.1 hI.2.1
    simp at this;omega
   have hab:∀ t s,t.get 0=some v→t.get 2=some (.ptr 0 0)→t.get 3=some (.int .i64 0)→t.get 17=some (.ptr 2 0)→s.get 0=some (.row 45 [.int .u32 (cel (seen++[0+j]) 0),.int .u32 (cel (seen++[0+j]) 1),.int .u32 (cel (seen++[0+j]) 2),.int .i64 0])→s.get 1=some (.map (Cn L 0) 3)→s.get 2=some (.iter 1 3 (seen++[0+j]) 3)→
    Abs t s [(0,v),(2,.ptr 0 0),(3,.int .i64 0),(17,.ptr 2 0)] [.row 45 [.int .u32 (cel (seen++[0+j]) 0),.int .u32 (cel (seen++[0+j]) 1),.int .u32 (cel (seen++[0+j]) 2),.int .i64 0],.map (Cn L 0) 3,.iter 1 3 (seen++[0+j]) 3] [0,1,2]:=by
    intro t s h0 h2 h3 h17 g0 g1 g2
    refine ⟨by decide,⟨⟨Bz _ hv.hf,by rw [Bv _ hv.hf];exact h0⟩,⟨rfl,h2⟩,⟨rfl,h3⟩,⟨rfl,h17⟩,trivial⟩,⟨⟨rfl,g0⟩,⟨Ok (Nat.succ_pos _) L 0,?_⟩,⟨rfl,g2⟩,trivial⟩⟩
    show _=some (AObj.map (F5 _ (Cn L 0)) 3);rw [NL rfl];exact g1
   rcases i with _|_|_|i
   ·conv=>whnf
    refine ⟨rfl,seen++[0+j],hI,by omega,[0,1,2],hab _ _ rfl rfl rfl rfl ?_ rfl rfl⟩
    rw [key 0,key 1,key 2];rfl
   ·conv=>whnf
    refine ⟨rfl,seen++[0+j],hI,by omega,[0,1,2],hab _ _ rfl rfl rfl rfl ?_ rfl rfl⟩
    rw [key 0,key 1,key 2];rfl
   ·conv=>whnf
    refine ⟨rfl,seen++[0+j],hI,by omega,[0,1,2],hab _ _ rfl rfl rfl rfl ?_ rfl rfl⟩
    rw [key 0,key 1,key 2];rfl
   ·omega
structure MapReg (N:Nat) (ops:Array Oper):Prop where
 size:ops.size=9
 back:GA ops.toList 0=true
 op:∀ (i d:Nat) (p:AOp) (pre:List Nat),[(12,AOp.mkmap,[]),(13,.fa 0 (.t 2),[]),(0,.msetp (.t 11) (.t 12) (.c (.int .i64 1)),[0,1]),(14,.fa 1 (.t 2),[]),(0,.msetp (.t 11) (.t 13) (.c (.int .i64 5)),[0,3]),(15,.fa 2 (.t 2),[]),(0,.msetp (.t 11) (.t 14) (.c (.int .i64 9)),[0,5]),(16,.mv (.t 11),[0,1,2,3,4,5,6]),(5,.mv (.t 15),[7])][i]?=some (d,p,pre)→
  ∃ o,ops[i]?=some o∧Ed N o.dst=some d∧G9 P o=some p∧o.guard=none∧∀ j ∈ pre,∃ e ∈ o.after.toList,Region.binds .any e=true∧e.on=j
structure MapJ (v:AV) (D:Nat→Prop) (t:AT) (s:St):Prop where
 t0:t.get 0=some v
 t2:t.get 2=some (.ptr 0 0)
 t3:t.get 3=some (.int .i64 0)
 r0:s.get 0=some (.row 45 z4)
 m0:¬ D 0→s.next=1∧¬ D 2∧¬ D 4∧¬ D 6
 m1:D 0→t.get 11=some (.map 1)∧s.next=2∧∃ L:List Nat,L.Nodup∧(∀ i,i ∈ L↔i<3∧D (2+2*i))∧s.get 1=some (.map (Cn L 0) L.length)
 f0:D 1→t.get 12=some (.ptr 0 0)
 f1:D 3→t.get 13=some (.ptr 0 1)
 f2:D 5→t.get 14=some (.ptr 0 2)
 m7:D 7→t.get 15=some (.map 1)
 m8:D 8→t.get 4=some (.map 1)
theorem NH {i:Nat}:∀ {L:List Nat}{n:Nat},i ∉ L→JN 0 i (Cn L n)=true
 | [],n,_=>rfl
 | x::L,n,h=>by
  show (Bool.rec (JN 0 i (Cn L (n+1))) false (Nat.beq i x):Bool)=true
  rw [show Nat.beq i x=false by rw [← Zqg];intro e;exact h (by rw [Zol e];simp)]
  exact NH (fun e=>h (by simp [e]))
theorem PN {m y:AO}{rm r o c:Nat}(hm:ev m t=.some (.map rm)) (hx:ev x t=.some (.ptr r o)) (hy:ev y t=.some v) (hs:s.get rm=some (.map es c)) (ho:JN r o es=true) (hk:k (.tup []) (s.put rm (.map (es++[(.ptr r o,v,c)]) (c+1)))):EPrim (.msetp m x y) t s k:=by
 refine EPrim.mk (fun e rec=>?_) hk
 show wth m t _=_;unfold wth;rw [hm]
 show wth x t _=_;unfold wth;rw [hx]
 show wth y t _=_;unfold wth;rw [hy]
 show (Option.rec .fail _ (mapAt rm s):RV)=_
 unfold mapAt;rw [hs]
 show gd (JN r o es) (.ok (.tup []) (s.put rm (.map (AZ es [(.ptr r o,v,c)]) (c+1))))=_
 rw [ho,Do];rfl
theorem G8 (h:t.get i=some v):ev (.t i) t=.some v:=by
 show (Option.rec .none (fun v=>.some v) (t.get i):OV)=_;rw [h]
variable {D D':Nat→Prop}
theorem MapJ.tmp (h:MapJ v D t s) {d:Nat}{u:AV}(hd:d≠0∧d≠2∧d≠3∧d<1000)
 (h0:D' 0↔D 0) (h2:D' 2↔D 2) (h4:D' 4↔D 4) (h6:D' 6↔D 6) (e11:d≠11)
 (g1:D' 1→(D 1∧d≠12)∨(d=12∧u=.ptr 0 0)) (g3:D' 3→(D 3∧d≠13)∨(d=13∧u=.ptr 0 1)) (g5:D' 5→(D 5∧d≠14)∨(d=14∧u=.ptr 0 2))
 (g7:D' 7→(D 7∧d≠15)∨(d=15∧u=.map 1)) (g8:D' 8→(D 8∧d≠4)∨(d=4∧u=.map 1)):MapJ v D' (t.set u d) s:=by
 have key:∀ (i:Nat) (A B:Prop) (w:AV),(A→(B∧d≠i)∨(d=i∧u=w))→(B→t.get i=some w)→A→(t.set u d).get i=some w:=by
  intro i A B w hg hb ha
  rcases hg ha with ⟨hB,hne⟩|⟨rfl,rfl⟩
  ·exact E9 (fun e=>hne e.symm) (hb hB)
  ·exact Ns _ _ (by omega)
 refine ⟨E9 (by omega) h.t0,E9 (by omega) h.t2,E9 (by omega) h.t3,h.r0,?_,?_,key 12 _ _ _ g1 h.f0,key 13 _ _ _ g3 h.f1,key 14 _ _ _ g5 h.f2,key 15 _ _ _ g7 h.m7,key 4 _ _ _ g8 h.m8⟩
 ·intro hn;rw [h2,h4,h6];exact h.m0 (fun e=>hn (h0.2 e))
 ·intro hD
  obtain ⟨a,b,L,c1,c2,c3⟩:=h.m1 (h0.1 hD)
  refine ⟨E9 (by omega) a,b,L,c1,fun i=>?_,c3⟩
  rw [c2]
  rcases i with _|_|_|i
  ·rw [show 2+2*0=2 from rfl,h2]
  ·rw [show 2+2*(0+1)=4 from rfl,h4]
  ·rw [show 2+2*(0+1+1)=6 from rfl,h6]
  ·constructor <;> intro h <;> omega
theorem MapJ.set (h:MapJ v D t s) (hD:D 0) {q:Nat}(hq:q<3) (hn:¬ D (2+2*q)) (hD':∀ j,D' j↔D j∨j=2+2*q) (c1:L.Nodup) (c2:∀ i,i ∈ L↔i<3∧D (2+2*i)) (hs:s.next=2) (ht:t.get 11=some (.map 1)):
 MapJ v D' t (s.put 1 (.map (Cn L 0++[(.ptr 0 q,.int .i64 (pl q),L.length)]) (L.length+1))):=by
 have odd:∀ j,j % 2=1∨j=0∨j=8→(D' j↔D j):=fun j hj=>by
  rw [hD'];constructor
  ·rintro (h|h)
   ·exact h
   ·omega
  ·exact .inl
 refine ⟨h.t0,h.t2,h.t3,by rw [DJ (by decide)];exact h.r0,fun hn=>absurd ((odd 0 (by omega)).2 hD) hn,fun _=>⟨ht,by rw [Cc];exact hs,L++[q],?_,?_,?_⟩,fun e=>h.f0 ((odd 1 (by omega)).1 e),fun e=>h.f1 ((odd 3 (by omega)).1 e),fun e=>h.f2 ((odd 5 (by omega)).1 e),fun e=>h.m7 ((odd 7 (by omega)).1 e),fun e=>h.m8 ((odd 8 (by omega)).1 e)⟩
 ·rw [List.nodup_append]
  exact ⟨c1,by simp,by rintro a ha b hb rfl;simp at hb;subst hb;exact hn ((c2 _).1 ha).2⟩
 ·intro i
  rw [Zo7,c2,hD']
  constructor
  ·rintro (h|h)
   ·exact ⟨h.1,.inl h.2⟩
   ·simp at h;subst h;exact ⟨hq,.inr rfl⟩
  ·rintro ⟨h1,h2|h2⟩
   ·exact .inl ⟨h1,h2⟩
   ·exact .inr (by simp;omega)
 ·rw [Fj (by decide),Td,Zot]
  simp [FE]
variable {ops:Array Oper}
theorem Zeu (e:Env) (hE:EM P e) {N id:Nat}(hR:MapReg N ops) (v:AV) (t:AT) (s:St) (hJ:MapJ v (fun _=>False) t s) (Q:EQ)
 (hQ:∀ t s,MapJ v (fun i=>i<9) t s→Q .normal t s []):WC P 0 none N (.region id ops true) t s [] Q:=by
 refine WC.any hE hR.back (MapJ v) hJ ?_ ?_
 ·intro D t s i o hJ ho hD hpre
  have hi:i<9:=by have:=(Zpj.1 ho).1;rw [hR.size] at this;exact this
  have get:∀ d p pre,[(12,AOp.mkmap,[]),(13,.fa 0 (.t 2),[]),(0,.msetp (.t 11) (.t 12) (.c (.int .i64 1)),[0,1]),(14,.fa 1 (.t 2),[]),(0,.msetp (.t 11) (.t 13) (.c (.int .i64 5)),[0,3]),(15,.fa 2 (.t 2),[]),(0,.msetp (.t 11) (.t 14) (.c (.int .i64 9)),[0,5]),(16,.mv (.t 11),[0,1,2,3,4,5,6]),(5,.mv (.t 15),[7])][i]?=some (d,p,pre)→
   Ed N o.dst=some d∧G9 P o=some p∧o.guard=none∧∀ j ∈ pre,D j:=by
   intro d p pre h
   obtain ⟨o',h1,h2,h3,h4,h5⟩:=hR.op i d p pre h
   rw [ho] at h1;cases h1
   refine ⟨h2,h3,h4,fun j hj=>?_⟩
   obtain ⟨ed,he1,he2,rfl⟩:=h5 j hj
   exact hpre ed he1 he2
  rcases i with _|_|_|_|_|_|_|_|_|i
  ·obtain ⟨a,b,c,_⟩:=get 12 .mkmap [] rfl
   refine ⟨12,.mkmap,a,b,c,?_⟩
   obtain ⟨n1,n2,n4,n6⟩:=hJ.m0 hD
   show MapJ v _ (t.set (.map s.next) 11) (s.alloc (.map [] 0))
   rw [n1]
   refine ⟨E9 (by decide) hJ.t0,E9 (by decide) hJ.t2,E9 (by decide) hJ.t3,by rw [FF (by omega)];exact hJ.r0,fun h=>absurd (.inr rfl) h,fun _=>⟨Ns _ _ (by decide),by rw [C8,n1],[],by simp,fun i=>?_,?_⟩,fun h=>?_,fun h=>?_,fun h=>?_,fun h=>?_,fun h=>?_⟩
   ·constructor
    ·intro h;simp at h
    ·rintro ⟨h1,h2|h2⟩
     ·rcases i with _|_|_|i
      ·exact absurd h2 n2
      ·exact absurd h2 n4
      ·exact absurd h2 n6
      ·omega
     ·omega
   ·have:=Im (s:=s) (o:=.map [] 0) (by omega)
    rw [n1] at this;exact this
   ·exact E9 (by decide) (hJ.f0 (h.resolve_right (by decide)))
   ·exact E9 (by decide) (hJ.f1 (h.resolve_right (by decide)))
   ·exact E9 (by decide) (hJ.f2 (h.resolve_right (by decide)))
   ·exact E9 (by decide) (hJ.m7 (h.resolve_right (by decide)))
   ·exact E9 (by decide) (hJ.m8 (h.resolve_right (by decide)))
  ·obtain ⟨a,b,c,_⟩:=get 13 (.fa 0 (.t 2)) [] rfl
   refine ⟨13,.fa 0 (.t 2),a,b,c,?_⟩
   show wV (ev (.t 2) t) _
   rw [G8 hJ.t2]
   refine hJ.tmp (d:=12) (u:=.ptr 0 0) (by omega) (by simp) (by simp) (by simp) (by simp) (by omega) ?_ ?_ ?_ ?_ ?_ <;> intro h <;> first|exact .inr ⟨rfl,rfl⟩|exact .inl ⟨h.resolve_right (by omega),by omega⟩
  ·obtain ⟨a,b,c,hp⟩:=get 0 (.msetp (.t 11) (.t 12) (.c (.int .i64 1))) [0,1] rfl
   refine ⟨0,.msetp (.t 11) (.t 12) (.c (.int .i64 1)),a,b,c,?_⟩
   have h0:=hp 0 (by simp)
   obtain ⟨g1,g2,L,c1,c2,c3⟩:=hJ.m1 h0
   have hq:0 ∉ L:=fun h=>hD ((c2 0).1 h).2
   show EPrim (.msetp (.t 11) (.t 12) (.c (.int .i64 1))) t s _
   refine PN (G8 g1) (G8 (hJ.f0 (hp 1 (by simp)))) rfl c3 (NH hq) ?_
   exact hJ.set h0 (q:=0) (by decide) hD (fun j=>Iff.rfl) c1 c2 g2 g1
  ·obtain ⟨a,b,c,_⟩:=get 14 (.fa 1 (.t 2)) [] rfl
   refine ⟨14,.fa 1 (.t 2),a,b,c,?_⟩
   show wV (ev (.t 2) t) _
   rw [G8 hJ.t2]
   refine hJ.tmp (d:=13) (u:=.ptr 0 1) (by omega) (by simp) (by simp) (by simp) (by simp) (by omega) ?_ ?_ ?_ ?_ ?_ <;> intro h <;> first|exact .inr ⟨rfl,rfl⟩|exact .inl ⟨h.resolve_right (by omega),by omega⟩
  ·obtain ⟨a,b,c,hp⟩:=get 0 (.msetp (.t 11) (.t 13) (.c (.int .i64 5))) [0,3] rfl
   refine ⟨0,.msetp (.t 11) (.t 13) (.c (.int .i64 5)),a,b,c,?_⟩
   have h0:=hp 0 (by simp)
   obtain ⟨g1,g2,L,c1,c2,c3⟩:=hJ.m1 h0
   have hq:1 ∉ L:=fun h=>hD ((c2 1).1 h).2
   show EPrim (.msetp (.t 11) (.t 13) (.c (.int .i64 5))) t s _
   refine PN (G8 g1) (G8 (hJ.f1 (hp 3 (by simp)))) rfl c3 (NH hq) ?_
   exact hJ.set h0 (q:=1) (by decide) hD (fun j=>Iff.rfl) c1 c2 g2 g1
  ·obtain ⟨a,b,c,_⟩:=get 15 (.fa 2 (.t 2)) [] rfl
   refine ⟨15,.fa 2 (.t 2),a,b,c,?_⟩
   show wV (ev (.t 2) t) _
   rw [G8 hJ.t2]
   refine hJ.tmp (d:=14) (u:=.ptr 0 2) (by omega) (by simp) (by simp) (by simp) (by simp) (by omega) ?_ ?_ ?_ ?_ ?_ <;> intro h <;> first|exact .inr ⟨rfl,rfl⟩|exact .inl ⟨h.resolve_right (by omega),by omega⟩
  ·obtain ⟨a,b,c,hp⟩:=get 0 (.msetp (.t 11) (.t 14) (.c (.int .i64 9))) [0,5] rfl
   refine ⟨0,.msetp (.t 11) (.t 14) (.c (.int .i64 9)),a,b,c,?_⟩
   have h0:=hp 0 (by simp)
   obtain ⟨g1,g2,L,c1,c2,c3⟩:=hJ.m1 h0
   have hq:2 ∉ L:=fun h=>hD ((c2 2).1 h).2
   show EPrim (.msetp (.t 11) (.t 14) (.c (.int .i64 9))) t s _
   refine PN (G8 g1) (G8 (hJ.f2 (hp 5 (by simp)))) rfl c3 (NH hq) ?_
   exact hJ.set h0 (q:=2) (by decide) hD (fun j=>Iff.rfl) c1 c2 g2 g1
  ·obtain ⟨a,b,c,hp⟩:=get 16 (.mv (.t 11)) [0,1,2,3,4,5,6] rfl
   refine ⟨16,.mv (.t 11),a,b,c,?_⟩
   obtain ⟨g1,_⟩:=hJ.m1 (hp 0 (by simp))
   show wV (ev (.t 11) t) _
   rw [G8 g1]
   refine hJ.tmp (d:=15) (u:=.map 1) (by omega) (by simp) (by simp) (by simp) (by simp) (by omega) ?_ ?_ ?_ ?_ ?_ <;> intro h <;> first|exact .inr ⟨rfl,rfl⟩|exact .inl ⟨h.resolve_right (by omega),by omega⟩
  ·obtain ⟨a,b,c,hp⟩:=get 5 (.mv (.t 15)) [7] rfl
   refine ⟨5,.mv (.t 15),a,b,c,?_⟩
   have g1:=hJ.m7 (hp 7 (by simp))
   show wV (ev (.t 15) t) _
   rw [G8 g1]
   refine hJ.tmp (d:=4) (u:=.map 1) (by omega) (by simp) (by simp) (by simp) (by simp) (by omega) ?_ ?_ ?_ ?_ ?_ <;> intro h <;> first|exact .inr ⟨rfl,rfl⟩|exact .inl ⟨h.resolve_right (by omega),by omega⟩
  ·omega
 ·intro D t s hJ hall
  rw [hR.size] at hall
  refine hQ t s ⟨hJ.t0,hJ.t2,hJ.t3,hJ.r0,fun h=>absurd (by decide) h,fun _=>?_,fun _=>hJ.f0 (hall 1 (by decide)),fun _=>hJ.f1 (hall 3 (by decide)),fun _=>hJ.f2 (hall 5 (by decide)),fun _=>hJ.m7 (hall 7 (by decide)),fun _=>hJ.m8 (hall 8 (by decide))⟩
  obtain ⟨a,b,L,c1,c2,c3⟩:=hJ.m1 (hall 0 (by decide))
  refine ⟨a,b,L,c1,fun i=>?_,c3⟩
  rw [c2]
  constructor
  ·rintro ⟨h,_⟩;exact ⟨h,by omega⟩
  ·rintro ⟨h,_⟩;exact ⟨h,hall _ (by omega)⟩
theorem Zd8:∀ {L:List Nat},0 ∈ L→1 ∈ L→2 ∈ L→3≤L.length
 | [],h,_,_=>by simp at h
 | [a],h0,h1,h2=>by simp at h0 h1;omega
 | [a,b],h0,h1,h2=>by simp at h0 h1 h2;omega
 | _::_::_::_,_,_,_=>by simp
noncomputable def HS (args:List AV) (s:St):RV:=match args with
 | [v]=>Option.rec .fail (fun bs=>.ok (Hq bs) s) (BQ s v)
 | _=>.fail
theorem Zeo (bs:List Nat):sc (Hq bs)=true:=by
 unfold Hq
 split
 ·rfl
 ·split <;> rfl
def Znq:AC:=match Ng with|.mk (.seq r _) _=>r|_=>.skip
theorem Zev {e:Env}{fn:Func}{c0 c2:Code}{id:Nat}(hE:EM P e) (h86:Con e 62 EZ) (h84:Con e 9 wrF.O) (hf:P.funcs[79]?=some fn) (hbody:fn.body=some (.seq c0 (.seq (.region id ops true) c2)))
 (hc0:AF P fn.ntmps c0=some Znq) (hc2:AF P fn.ntmps c2=some WP) (hR:MapReg fn.ntmps ops) (hrs:IC P fn.results.toList=some [.cells 2 4,.tmp 3]) (hb:G4 P 79):OvOk P 79 HS:=by
 refine ⟨hb,fun args s v s' h=>?_⟩
 unfold HS at h
 split at h
 ·rename_i u
  obtain ⟨bs,hbs,h⟩:=A6 h
  obtain ⟨rfl,rfl⟩:=Ap h
  obtain ⟨v2,hF,hSl,hlt⟩:=Nv hbs
  have hfs2:hfs [v2]=true:=by simp [hfs,hSl.hf]
  refine HQ (args2:=[v2]) (.cons hF .nil) (Zeo bs) (GZ hfs2 ?_)
  refine Zlg hf hbody hrs (WC.seq (Xw hc0 (A9 hE (e:=e) ?_)));conv=>whnf
  refine WC.seq (Zeu e hE hR v2 _ _ ⟨rfl,rfl,rfl,rfl,fun _=>⟨rfl,by simp,by simp,by simp⟩,fun h=>h.elim,fun h=>h.elim,fun h=>h.elim,fun h=>h.elim,fun h=>h.elim,fun h=>h.elim⟩ _ ?_)
  intro t s hJ
  obtain ⟨g1,g2,L,c1,c2',c3⟩:=hJ.m1 (by decide)
  have hL:∀ i,i ∈ L↔i<3:=fun i=>by rw [c2'];constructor <;> intro h <;> first|exact h.1|exact ⟨h,by omega⟩
  have hlen:L.length=3:=by
   have h1:=Oa 3 L c1 (fun x hx=>(hL x).1 hx)
   have m0:=(hL 0).2 (by decide)
   have m1:=(hL 1).2 (by decide)
   have m2:=(hL 2).2 (by decide)
   have h2:=Zd8 m0 m1 m2
   omega
  rw [hlen] at c3
  show WC P 0 none fn.ntmps c2 t s [] _
  refine Xw hc2 (W.abs [(0,v2),(2,.ptr 0 0),(3,.int .i64 0),(4,.map 1)] [.row 45 z4,.map (Cn L 0) 3] [0,1] ⟨by decide,⟨⟨Bz _ hSl.hf,by rw [Bv _ hSl.hf];exact hJ.t0⟩,⟨rfl,hJ.t2⟩,⟨rfl,hJ.t3⟩,⟨rfl,hJ.m8 (by decide)⟩,trivial⟩,⟨⟨rfl,hJ.r0⟩,⟨Ok (Nat.succ_pos _) L 0,?_⟩,trivial⟩⟩ ((Zb3 e hE h86 h84 v2 bs hSl hlt L hL hlen c1).mono fun _ _ _ _ h=>Ep h))
  show _=some (AObj.map (F5 _ (Cn L 0)) 3);rw [NL rfl];exact c3
 ·cases h
end Go.AM
namespace Go.AM
attribute [local irreducible] W
open X
structure CK where
 c:Cfg
 d:DK
structure CK.ok (x:CK):Prop where
 c:x.c.ok
 d:x.d.ok
def CK.args (x:CK):List AV:=[x.c.v,x.d.v]
variable {x:CK}
theorem CK.inja {y:CK}(hx:x.ok) (hy:y.ok) (h:x.args=y.args):x=y:=by
 obtain ⟨c,d⟩:=x
 obtain ⟨c',d'⟩:=y
 have h0:=FM (Zor h).1
 have h1:=DK.inj hx.d.a hy.d.a (Zor (Zor h).2).1
 dsimp only at h0 h1
 rw [h0,h1]
theorem CK.hfa (hx:x.ok):hfs x.args=true:=by
 show (AM.hf x.c.v && (AM.hf x.d.v && true))=true
 rw [DK.hf hx.d.a];rfl
def AX (x:DK):List Nat:=Aa (AY x 0)
def ML (b:List Nat):List AV:=[.int .u32 ((Bd b).1:Int),.int .u32 ((Bd b).2.1:Int),.int .u32 ((Bd b).2.2.1:Int),.int .i64 ((Bd b).2.2.2:Int)]
def JR (c:Cfg) (b:List Nat):Bool:=Ia b && (decide (((Bd b).1:Int)=c.id) && decide (((Bd b).2.2.2:Int)<c.log))
def D4 (x:CK):Int:=if x.c.may then (if Bi x.d=true∧(x.d.us.length:Int)=x.c.log+1 then (if x.d.dead then 40 else if JR x.c (AX x.d)=true then 0 else 90) else 8) else 8
def J5 (x:CK):AV:=if D4 x=0 then .tup [.agg (ML (AX x.d)),.int .i64 0] else .tup [.agg z4,.int .i64 (D4 x)]
theorem Zcw (x:CK):AM.hf (J5 x)=true:=by unfold J5;split <;> rfl
def fstF:Fam CK:=⟨CK.ok,CK.args,J5,fun x y hx hy h=>by rw [CK.inja hx hy h]⟩
theorem Zb4 {s:St}{r n e:Nat}{c:Option Nat}{bs:List Nat}(h:s.get r=some (.row e (Ab bs))) (hn:bs.length=n) (hb:∀ b ∈ bs,b<256):HS [.sl r 0 n c] s=.ok (Hq bs) s:=by
 have hbo:∀ {bs:List Nat},(∀ b ∈ bs,b<256)→Cm (Ab bs)=some bs:=by
  intro bs
  induction bs with
  | nil=>intro _;rfl
  | cons b bs ih=>
   intro h
   show (Bool.rec none (Option.rec none (fun r=>some (b::r)) (Cm (Ab bs))) (Nat.blt b 256):Option (List Nat))=_
   rw [ih (fun x hx=>h x (by simp [hx])),show Nat.blt b 256=true by simpa using h b (by simp)]
 show (Option.rec .fail (fun bs=>.ok (Hq bs) s) (BQ s (.sl r 0 n c)):RV)=_
 have:BQ s (.sl r 0 n c)=some bs:=by
  show (Option.rec none Cm (load r 0 n s):Option (List Nat))=_
  rw [HC h (by rw [Ba];exact hn)]
  exact hbo hb
 rw [this]
theorem Ziu {e:Env}(hE:EM P e) (h104:Con e 24 journalF.O) (h101:Con e 25 dskF.O) (h51:Con e 78 DU) (h41:Con e 79 HS):OvOk P 43 fstF.O:=by
 refine Bk g43.b fun x hx=>?_
 refine ⟨CK.hfa hx,Zcw x,C.of_G hE g43 ?_⟩
 have fin0:∀ s a b c d,D4 x=0→Bd (AX x.d)=(a,b,c,d)→Frz s (.tup [.agg [.int .u32 (a:Int),.int .u32 (b:Int),.int .u32 (c:Int),.int .i64 (d:Int)],.int .i64 0]) (fstF.out x):=fun s a b c d h hs=>by
  show Frz s _ (if D4 x=0 then _ else _);rw [Zoj h]
  unfold ML;rw [hs];exact .plain _ rfl
 have fin1:∀ s n,D4 x=n→n≠0→Frz s (.tup [.agg [.int .u32 0,.int .u32 0,.int .u32 0,.int .i64 0],.int .i64 n]) (fstF.out x):=fun s n h hn=>by
  show Frz s _ (if D4 x=0 then _ else _);rw [Zon (by rw [h];exact hn),h];exact .plain _ rfl
 have hdk:=hx.d
 have hcok:=hx.c
 have hbl:=hx.d.a.bl
 have hwl:=hx.d.a.wl
 have hun:=hx.d.n
 have hdr:∀ s,zB (s.get 4)=false→Bi x.d=true→1≤x.d.us.length→DU [x.d.v,.int .i64 0] s=if x.d.dead=true then .ok (.tup [.nils,.int .i64 40]) s else .ok (.tup [.sl (0+s.next) 0 128 (DY (AY x.d 0)),.int .i64 0]) (s.alloc (.row 5 (Ab (AX x.d)))):=fun s hz hD hl=>by
  have hok:DKA.ok ⟨x.d,0⟩:=⟨hx.d,by unfold Aj;dsimp only;omega⟩
  have he:DKA.e ⟨x.d,0⟩=if x.d.dead=true then 40 else 0:=by
   show Ih x.d 0=_
   unfold Ih
   rw [Zoj hD,Zoj (by omega)]
  have:=QO hok s
  show DU (DKA.args ⟨x.d,0⟩) s=_
  unfold DU
  rw [Zon (by rw [hz];decide),this,he]
  cases x.d.dead <;> rfl
 have hpb:Bi x.d=true→1≤x.d.us.length→(AX x.d).length=128∧∀ y ∈ AX x.d,y<256:=fun hD hl=>by
  obtain ⟨b1,b2⟩:=Wi hx.d hD (p:=0) (by omega)
  exact ⟨H9 b1,Hh b2⟩
 obtain ⟨c,d⟩:=x
 obtain ⟨id,mb,ch,rw',lg,hd⟩:=c
 dsimp only at hdk hcok hbl hwl hun hdr hpb
 have hlg:=hcok.log
 have hidb:=hcok.id
 dsimp only at hlg hidb
 unfold D4 at fin0 fin1
 unfold JR at fin0 fin1
 dsimp only at fin0 fin1
 obtain ⟨D,hD⟩:∃ D,D=Bi d:=⟨_,rfl⟩
 have hDo:dskF.out d=.int .i64 (if D=true then 0 else 8):=by rw [hD];rfl
 rw [← hD] at fin0 fin1 hdr hpb
 unfold Aj at hlg
 obtain ⟨cp,hcp⟩:∃ cp,cp=DY (AY d 0):=⟨_,rfl⟩
 rw [← hcp] at hdr
 obtain ⟨B,hB⟩:∃ B,B=AX d:=⟨_,rfl⟩
 rw [← hB] at fin0 fin1 hdr hpb
 obtain ⟨⟨si,sa,sq,st⟩,hS⟩:∃ q,q=Bd B:=⟨_,rfl⟩
 rw [← hS] at fin0 fin1
 dsimp only at fin0 fin1
 obtain ⟨G,hG⟩:∃ G,G=Ia B:=⟨_,rfl⟩
 rw [← hG] at fin0 fin1
 obtain ⟨bv,us,bs,wv,ws,dd⟩:=d
 dsimp only at hbl hwl hun fin0 fin1 hdr hpb
 have hdr:∀ s,zB (s.get 4)=false→D=true→1≤us.length→DU [.agg [bv,wv,.bool dd],.int .i64 0] s=if dd=true then .ok (.tup [.nils,.int .i64 40]) s else .ok (.tup [.sl (0+s.next) 0 128 cp,.int .i64 0]) (s.alloc (.row 5 (Ab B))):=hdr
 have hro:∀ s r,s.get r=some (.row 5 (Ab B))→D=true→1≤us.length→HS [.sl r 0 128 cp] s=.ok (if G=true then .tup [.agg [.int .u32 (si:Int),.int .u32 (sa:Int),.int .u32 (sq:Int),.int .i64 (st:Int)],.int .i64 0] else .tup [.agg z4,.int .i64 90]) s:=fun s r hg hDD hl=>by
  obtain ⟨p1,p2⟩:=hpb hDD hl
  rw [Zb4 hg p1 p2]
  unfold Hq
  rw [Zon (by omega),← hG,← hS]
 clear hB hcp hD hpb
 show VW P e 0 (match a43 with|.mk c _=>c) (Ah [.agg [.int .u32 id,.int .i64 mb,.int .i64 ch,.int .i64 rw',.int .i64 lg,.int .i64 hd],.agg [bv,wv,.bool dd]] 0 .lf) St0 none [] _
 conv=>whnf
 by_cases hM:Cfg.may ⟨id,mb,ch,rw',lg,hd⟩
 ·rw [Zoj hM] at fin0 fin1
  have hJ:journalF.out ⟨id,mb,ch,rw',lg,hd⟩=.tup [.int .i64 (lg+1),.int .i64 0]:=by
   show AV.tup [.int .i64 (if _ then _ else _),.int .i64 (if _ then _ else _)]=_
   rw [Zoj hM,Zoj hM]
  have hlg2:=Eo hM
  dsimp only at hlg2
  refine ESc.fam journalF h104 ⟨id,mb,ch,rw',lg,hd⟩ hcok (u:=.tup [.int .i64 (lg+1),.int .i64 0]) hJ ?_;conv=>whnf
  refine B7 (a:=0) (b:=0) rfl rfl (fun h=>absurd rfl h) (fun _=>?_);conv=>whnf
  cases D
  ·refine ESc.fam dskF h101 ⟨bv,us,bs,wv,ws,dd⟩ hdk (u:=.int .i64 8) hDo ?_;conv=>whnf
   repeat' (first|((refine w6 rfl rfl ?_ ?_) <;> intro _ <;> first|(exfalso;omega)|(conv=>whnf))|fail)
   exact fin1 _ 8 (by rw [Zon (by simp)]) (by decide)
  ·refine ESc.fam dskF h101 ⟨bv,us,bs,wv,ws,dd⟩ hdk (u:=.int .i64 0) hDo ?_;conv=>whnf
   refine B7 (a:=0) (b:=0) rfl rfl (fun h=>absurd rfl h) (fun _=>?_);conv=>whnf
   refine Af rfl hbl ?_;conv=>whnf
   refine B7 (a:=(us.length:Int)) (b:=lg+1) rfl rfl (fun hne=>?_) (fun heq=>?_)
   ·conv=>whnf
    skip
    exact fin1 _ 8 (by rw [Zon (fun h=>hne h.2)]) (by decide)
   ·rw [Zoj ⟨rfl,heq⟩] at fin0 fin1
    have hl1:1≤us.length:=by omega
    conv=>whnf
    cases dd
    ·refine ESc.ov h51 (hdr _ rfl rfl hl1) ?_;conv=>whnf
     refine B7 (a:=0) (b:=0) rfl rfl (fun h=>absurd rfl h) (fun _=>?_);conv=>whnf
     cases G
     ·refine ESc.ov h41 (hro _ _ rfl rfl hl1) ?_;conv=>whnf
      repeat' (first|((refine w6 rfl rfl ?_ ?_) <;> intro _ <;> first|(exfalso;omega)|(conv=>whnf))|fail)
      exact fin1 _ 90 (by simp) (by decide)
     ·refine ESc.ov h41 (hro _ _ rfl rfl hl1) ?_;conv=>whnf
      refine B7 (a:=0) (b:=0) rfl rfl (fun h=>absurd rfl h) (fun _=>?_);conv=>whnf
      refine B7 (a:=(si:Int)) (b:=id) rfl rfl (fun hne=>?_) (fun hid=>?_)
      ·conv=>whnf
       skip
       exact fin1 _ 90 (by simp [hne]) (by decide)
      ·conv=>whnf
       refine FI (a:=(st:Int)) (b:=lg) rfl rfl (fun hge=>?_) (fun hlt=>?_)
       ·conv=>whnf
        skip
        exact fin1 _ 90 (by simp [hid];omega) (by decide)
       ·conv=>whnf
        skip
        exact fin0 _ _ _ _ _ (by simp [hid];omega) rfl
    ·refine ESc.ov h51 (hdr _ rfl rfl hl1) ?_;conv=>whnf
     repeat' (first|((refine w6 rfl rfl ?_ ?_) <;> intro _ <;> first|(exfalso;omega)|(conv=>whnf))|fail)
     exact fin1 _ 40 (by simp) (by decide)
 ·rw [Zon hM] at fin0 fin1
  have hJ:journalF.out ⟨id,mb,ch,rw',lg,hd⟩=.tup [.int .i64 0,.int .i64 8]:=by
   show AV.tup [.int .i64 (if _ then _ else _),.int .i64 (if _ then _ else _)]=_
   rw [Zon hM,Zon hM]
  refine ESc.fam journalF h104 ⟨id,mb,ch,rw',lg,hd⟩ hcok (u:=.tup [.int .i64 0,.int .i64 8]) hJ ?_;conv=>whnf
  repeat' (first|((refine w6 rfl rfl ?_ ?_) <;> intro _ <;> first|(exfalso;omega)|(conv=>whnf))|fail)
  exact fin1 _ 8 rfl (by decide)
end Go.AM
namespace Go.AM
attribute [local irreducible] W
open X
def D5 (rd:Nat→Option Fd) (m:Nat) (ag sq:Int):Nat→Nat→Nat→List Fd
 | 0,_,_=>[]
 | k+1,u,i=>if u<m then (match rd u with
  | none=>[]
  | some f=>if u+f.n.recs.length+1≤m∧f.n.seq=(sq+(i:Int)) % 4294967296∧f.n.age=ag then f::D5 rd m ag sq k (u+f.n.recs.length+1) (i+1) else []) else []
theorem U5 (rd:Nat→Option Fd) (m:Nat) (ag sq:Int):∀ (k k' u i:Nat),m<u+k→m<u+k'→D5 rd m ag sq k u i=D5 rd m ag sq k' u i
 | 0,0,_,_,_,_=>rfl
 | 0,k'+1,u,i,h,_=>by
  show []=if u<m then _ else _
  rw [Zon (by omega)]
 | k+1,0,u,i,_,h=>by
  show (if u<m then _ else _)=[]
  rw [Zon (by omega)]
 | k+1,k'+1,u,i,h,h'=>by
  show (if u<m then _ else _)=(if u<m then _ else _)
  by_cases hu:u<m
  ·rw [Zoj hu,Zoj hu]
   cases rd u with
   | none=>rfl
   | some f=>
    show (if _ then _ else _)=(if _ then _ else _)
    split
    ·rw [U5 rd m ag sq k k' _ _ (by omega) (by omega)]
    ·rfl
  ·rw [Zon hu,Zon hu]
def EK (rd:Nat→Option Fd) (m:Nat) (ag sq:Int) (u i:Nat):List Fd:=D5 rd m ag sq (m+1) u i
variable {rd:Nat→Option Fd}{m u i:Nat}{ag sq:Int}
theorem Zhl (h:¬ u<m):EK rd m ag sq u i=[]:=by
 show (if u<m then _ else _)=_;rw [Zon h]
theorem U4 (h:rd u=none):EK rd m ag sq u i=[]:=by
 show (if u<m then _ else _)=_
 split
 ·rw [h]
 ·rfl
variable {f:Fd}
theorem WM (h:rd u=some f) (hn:¬ (u+f.n.recs.length+1≤m∧f.n.seq=(sq+(i:Int)) % 4294967296∧f.n.age=ag)):EK rd m ag sq u i=[]:=by
 show (if u<m then _ else _)=_
 split
 ·rw [h]
  show (if _ then _ else _)=_
  rw [Zon hn]
 ·rfl
theorem Vy (h:rd u=some f) (hu:u<m) (hn:u+f.n.recs.length+1≤m∧f.n.seq=(sq+(i:Int)) % 4294967296∧f.n.age=ag):EK rd m ag sq u i=f::EK rd m ag sq (u+f.n.recs.length+1) (i+1):=by
 show (if u<m then _ else _)=_
 rw [Zoj hu,h]
 show (if _ then _ else _)=_
 rw [Zoj hn]
 congr 1
 exact U5 rd m ag sq _ _ _ _ (by omega) (by omega)
def Gl (L:List Fd):AV:=match L with
 | []=>.nils
 | f::L=>.fz (L.length+1) none (Di (f::L))
def Hp (b:List Nat):Int:=((Bd b).2.1:Int)
def Ho (b:List Nat):Int:=((Bd b).2.2.1:Int)
def Ez (b:List Nat):Int:=((Bd b).2.2.2:Int)
def BI (x:CK):List Fd:=EK (fun u=>DV ⟨x.c,x.d,(Ez (AX x.d)+(u:Int)) % x.c.log⟩) x.c.log.toNat (Hp (AX x.d)) (Ho (AX x.d)) 0 0
def HP (x:CK):AV:=if D4 x=0 then .tup [.agg (ML (AX x.d)),Gl (BI x),.int .i64 0] else .tup [.agg z4,.nils,.int .i64 (D4 x)]
theorem Xe (L:List Fd):AM.hf (Gl L)=true:=by cases L <;> rfl
theorem Zcy (x:CK):AM.hf (HP x)=true:=by
 unfold HP;split
 ·show (true && (AM.hf (Gl _) && (true && true)))=true
  rw [Xe];rfl
 ·rfl
def allF:Fam CK:=⟨CK.ok,CK.args,HP,fun x y hx hy h=>by rw [CK.inja hx hy h]⟩
def Pi:AC:=match a14 with|.mk c _=>c
def Xk:AC:=match a44 with|.mk c _=>c
def Wy:AC:=match a81 with|.mk c _=>c
def XV:AC:=match E2 Pi with|some (a,_)=>a|none=>.skip
def Xs:AC:=match E2 Pi with|some (_,b)=>b|none=>.skip
def Pw:List (Nat×AV):=[(2,.ptr 0 0),(3,.ptr 1 0),(4,.ptr 2 0),(5,.ptr 3 0),(6,.int .i64 0),(23,.fn 80 [] [.ptr 4 0,.ptr 6 0,.ptr 5 0])]
noncomputable def MO (C D S:List AV) (lv:AV) (tl:Int):List AObj:=[.row 24 C,.row 28 D,.row 45 S,.row 61 [lv],.row 24 C,.row 28 D,.row 3 [.int .i64 tl],.defd,.loop .ready none 0 (Am Pw) [24,25] XV Xs 7]
noncomputable def Ym (C D S:List AV) (tl:Int) (u:Nat):List Fd→List AObj
 | []=>MO C D S .nils tl++[.row 154 [.yld 8],.row 3 [.int .i64 (u:Int)]]
 | f::L=>MO C D S (.sl 11 0 (L.length+1) none) tl++[.row 154 [.yld 8],.row 3 [.int .i64 (u:Int)],.row 68 (Di (f::L))]
def tlQ:List (Nat×AV):=[(0,.yld 8),(1,.ptr 4 0),(2,.ptr 6 0),(3,.ptr 5 0),(4,.ptr 9 0),(5,.ptr 10 0),(6,.fn 81 [] [.ptr 4 0,.ptr 6 0,.ptr 10 0,.ptr 5 0,.ptr 9 0])]
def slA (r:Nat) (L:List Fd):AV:=match L with
 | []=>.nils
 | f::L=>.sl r 0 (L.length+1) none
variable {tl:Int}
theorem VI {C D S:List AV}(L:List Fd) (f:Fd):Ym C D S tl u (L++[f])=MO C D S (.sl 11 0 (L.length+1) none) tl++[.row 154 [.yld 8],.row 3 [.int .i64 (u:Int)],.row 68 (Di L++f.c)]:=by
 rw [← QM]
 cases L with
 | nil=>rfl
 | cons q L=>show MO C D S (.sl 11 0 ((L++[f]).length+1) none) tl++_=_;rw [Zot];rfl
theorem Zgz {e:Env}(hE:EM P e) (h35:Con e 74 onF.O) (h74:Inl e 44 Xk [.tmp 6]) (h118:Inl e 81 Wy [.tmp 5])
 {id mb ch rw' lg hdd:Int}{bv wv:AV}{dd:Bool}(hdf:hfs [bv,wv,.bool dd]=true) {si:Int}(hlg:lg=(m:Int)) (hm255:12≤m∧m≤255) (htl:0≤tl∧tl<lg) (hag:AK ag) (hsq:AK sq)
 (hfst:∀ (s:St) (K:AV→St→Prop),K (.tup [.agg [.int .u32 si,.int .u32 ag,.int .u32 sq,.int .i64 tl],.int .i64 0]) s→ESc e 43 [.agg [.int .u32 id,.int .i64 mb,.int .i64 ch,.int .i64 rw',.int .i64 lg,.int .i64 hdd],.agg [bv,wv,.bool dd]] s K)
 (rd:Nat→Option Fd) (hrd:∀ u,u<m→(rd u=none→∃ n,n≠0∧∀ (s:St) (K:AV→St→Prop),K (Fa n) s→ESc e 82 [.agg [.int .u32 id,.int .i64 mb,.int .i64 ch,.int .i64 rw',.int .i64 lg,.int .i64 hdd],.agg [bv,wv,.bool dd],.int .i64 ((tl+(u:Int)) % lg)] s K)∧
   (∀ f,rd u=some f→f.n.recs.length≤17∧AK f.n.age∧AK f.n.seq∧∀ (s:St) (K:AV→St→Prop),K (.tup [.agg f.c,.int .i64 (1+(f.n.recs.length:Int)),.int .i64 0]) s→ESc e 82 [.agg [.int .u32 id,.int .i64 mb,.int .i64 ch,.int .i64 rw',.int .i64 lg,.int .i64 hdd],.agg [bv,wv,.bool dd],.int .i64 ((tl+(u:Int)) % lg)] s K))
 {K:AV→St→Prop}(hk:∀ s L,EK rd m ag sq 0 0=L→(∀ f M,L=f::M→s.get 11=some (.row 68 (Di L)))→K (.tup [.agg [.int .u32 si,.int .u32 ag,.int .u32 sq,.int .i64 tl],slA 11 L,.int .i64 0]) s):
 VW P e 0 Pi (Ah [.agg [.int .u32 id,.int .i64 mb,.int .i64 ch,.int .i64 rw',.int .i64 lg,.int .i64 hdd],.agg [bv,wv,.bool dd]] 0 .lf) St0 none [] (AR [.cells 4 4,.cell 5,.tmp 6] K):=by
 conv=>whnf
 refine hfst _ _ ?_;conv=>whnf
 repeat' (first|(refine ESc.inl h74 ?_;conv=>whnf)|((refine w6 rfl rfl ?_ ?_) <;> intro _ <;> first|(exfalso;omega)|(conv=>whnf))|fail)
 refine W.tells (Abs.tells (tl:=Pw) (os:=[.row 24 [.int .u32 id,.int .i64 mb,.int .i64 ch,.int .i64 rw',.int .i64 lg,.int .i64 hdd],.row 28 [bv,wv,.bool dd],.row 45 [.int .u32 si,.int .u32 ag,.int .u32 sq,.int .i64 tl],.row 61 [.nils],.row 24 [.int .u32 id,.int .i64 mb,.int .i64 ch,.int .i64 rw',.int .i64 lg,.int .i64 hdd],.row 28 [bv,wv,.bool dd],.row 3 [.int .i64 tl]]) (rs:=[0,1,2,3,4,5,6])
  .a) ?_
 refine KU (f:=80) (first:=[]) (cap:=[.ptr 4 0,.ptr 6 0,.ptr 5 0]) g80.b rfl ?_ ?_
 ·intro q hq
  have hq:q<7:=hq
  rcases q with _|_|_|_|_|_|_|q
  ·exact .tmp 2 (.ptr 0 0) rfl rfl
  ·exact .tmp 3 (.ptr 1 0) rfl rfl
  ·exact .tmp 4 (.ptr 2 0) rfl rfl
  ·exact .tmp 5 (.ptr 3 0) rfl rfl
  ·exact .tmp 23 (.fn 80 [] [.ptr 4 0,.ptr 6 0,.ptr 5 0]) rfl rfl
  ·exact .tmp 23 (.fn 80 [] [.ptr 4 0,.ptr 6 0,.ptr 5 0]) rfl rfl
  ·exact .tmp 23 (.fn 80 [] [.ptr 4 0,.ptr 6 0,.ptr 5 0]) rfl rfl
  ·omega
 show C1 P 80 [.yld 8,.ptr 4 0,.ptr 6 0,.ptr 5 0] (Ac St0 (MO [.int .u32 id,.int .i64 mb,.int .i64 ch,.int .i64 rw',.int .i64 lg,.int .i64 hdd] [bv,wv,.bool dd] [.int .u32 si,.int .u32 ag,.int .u32 sq,.int .i64 tl] .nils tl)) (fun _ s'=>II 8 [7] (Am Pw) s' _)
 refine C1.of_G hE g80 ?_;conv=>whnf
 have hlb:∀ n,Ds 9 n (.loop .ready none 0 (Am Pw) [24,25] XV Xs 7)=true:=fun _=>rfl
 refine Ce (k:=9) (α:=Nat×List Fd) (fun x=>tlQ) (fun x=>Ym [.int .u32 id,.int .i64 mb,.int .i64 ch,.int .i64 rw',.int .i64 lg,.int .i64 hdd] [bv,wv,.bool dd] [.int .u32 si,.int .u32 ag,.int .u32 sq,.int .i64 tl] tl x.1 x.2) (fun x=>m-x.1)
  (fun x=>x.1≤m∧x.2.length≤x.1∧EK rd m ag sq 0 0=x.2++EK rd m ag sq x.1 x.2.length) (0,[]) ⟨Zoy _,Zo0 _,rfl⟩
  (AbsK.tells (rs:=[0,1,2,3,4,5,6,7,8,9,10]) ⟨rfl,by decide,⟨r9,r9,r9,r9,r9,r9,r9,trivial⟩,⟨r9,o9,r9,r9,r9,o9,r9,r9,⟨hlb _,rfl⟩,r9,r9,trivial⟩⟩) ?_
 rintro ⟨u,L⟩ ⟨hu,hl,hI⟩
 dsimp only at hu hl hI ⊢
 refine A9 hE ?_
 unfold AK at hag hsq
 by_cases hlt:u<m
 ·have h00:0≤(tl+(u:Int)) % lg:=Zpz _ (by omega)
  have h01:(tl+(u:Int)) % lg<lg:=Zp1 _ (by omega)
  have honk:onF.ok ⟨lg,tl,(u:Int)⟩:=⟨by unfold Aj;dsimp only;omega,by unfold Aj;dsimp only;omega,by unfold Aj;dsimp only;omega⟩
  have hon:onF.out ⟨lg,tl,(u:Int)⟩=.tup [.int .i64 ((tl+(u:Int)) % lg),.int .i64 0]:=by
   have:DT ⟨lg,tl,(u:Int)⟩=true:=by unfold DT GM;dsimp only;rw [Zok (by omega),Zok (by omega),Zok (by omega)];rfl
   show (if DT _ then _ else _)=_;rw [Zoj this]
  obtain ⟨hr0,hr1⟩:=hrd u hlt
  rcases L with _|⟨q,L⟩
  ·conv=>whnf
   refine Ag (a:=(u:Int)) (b:=lg) rfl rfl (fun _=>?_) (fun h=>by omega);conv=>whnf
   refine ECall.inl h118.O h118.G ?_;conv=>whnf
   refine ESc.fam onF h35 ⟨lg,tl,(u:Int)⟩ honk hon ?_;conv=>whnf
   cases hru:rd u with
   | none=>
    obtain ⟨n,hn,hcall⟩:=hr0 hru
    clear hr1 hr0 hrd hfst
    refine hcall _ _ ?_;conv=>whnf
    repeat' (first|((refine w5 rfl rfl ?_ ?_) <;> intro _ <;> first|(exfalso;omega)|(conv=>whnf))|((first|refine w7 rfl rfl (by omega) ?_|refine ⟨rfl,?_⟩);conv=>whnf)|fail)
    refine hk _ (([]:List Fd)) (hI.trans (by rw [U4 hru,Zpq])) (fun f M h=>by first|rfl|cases h)
   | some f=>
    obtain ⟨hf17,hfa,hfs',hcall⟩:=hr1 f hru
    clear hr1 hr0 hrd hfst
    have hno:¬ (u+f.n.recs.length+1≤m∧f.n.seq=(sq+((0:Nat):Int)) % 4294967296∧f.n.age=ag)→EK rd m ag sq u (([]:List Fd)).length=[]:=fun h=>WM (i:=0) hru h
    have hyes:(u+f.n.recs.length+1≤m∧f.n.seq=(sq+((0:Nat):Int)) % 4294967296∧f.n.age=ag)→EK rd m ag sq u (([]:List Fd)).length=f::EK rd m ag sq (u+f.n.recs.length+1) ((([]:List Fd)).length+1):=fun h=>Vy (i:=0) hru hlt h
    have hff:=O4 ((([]:List Fd))++[f])
    rw [QM] at hff
    refine hcall _ _ ?_
    unfold AK at hfa hfs'
    conv=>whnf
    refine Bu (a:=(u:Int)) (b:=1+(f.n.recs.length:Int)) rfl rfl (by omega) ?_;conv=>whnf
    refine B2 (a:=0) (b:=0) rfl rfl (fun _=>?_) (fun h=>absurd rfl h);conv=>whnf
    refine ERound.mk ?_;conv=>whnf
    refine Dm (a:=(u:Int)+(1+(f.n.recs.length:Int))) (b:=lg) rfl rfl (fun hgt=>?_) (fun hle=>?_)
    ·conv=>whnf
     repeat' (first|(refine ⟨rfl,?_⟩;conv=>whnf)|fail)
     refine hk _ (([]:List Fd)) (hI.trans (by rw [hno (by omega),Zpq])) (fun f M h=>by first|rfl|cases h)
    conv=>whnf
    refine Nx rfl ?_;conv=>whnf
    refine EB (q':=.u32) rfl (G5 (by omega)) ?_;conv=>whnf
    refine PP (a:=sq) (b:=((0:Nat):Int)) rfl rfl ?_;conv=>whnf
    refine B7 (a:=f.n.seq) (b:=(sq+((0:Nat):Int)) % 4294967296) rfl rfl (fun hne=>?_) (fun heq=>?_)
    ·conv=>whnf
     repeat' (first|(refine ⟨rfl,?_⟩;conv=>whnf)|fail)
     refine hk _ (([]:List Fd)) (hI.trans (by rw [hno (fun h=>hne h.2.1),Zpq])) (fun f M h=>by first|rfl|cases h)
    conv=>whnf
    refine B7 (a:=f.n.age) (b:=ag) rfl rfl (fun hne=>?_) (fun heq2=>?_)
    ·conv=>whnf
     repeat' (first|(refine ⟨rfl,?_⟩;conv=>whnf)|fail)
     refine hk _ (([]:List Fd)) (hI.trans (by rw [hno (fun h=>hne h.2.2),Zpq])) (fun f M h=>by first|rfl|cases h)
    conv=>whnf
    (refine Cl (m:=1) rfl rfl rfl rfl (by decide) (by decide) ?_;conv=>whnf)
    repeat' (first|(refine ⟨rfl,?_⟩;conv=>whnf)|fail)
    have hY:=hyes ⟨by omega,heq,heq2⟩
    refine ⟨(u+f.n.recs.length+1,([]:List Fd)++[f]),⟨by dsimp only;omega,by dsimp only;rw [Zot];show (([]:List Fd)).length+1≤_;simp only [Zo9,List.length_nil] at hl ⊢;omega,?_⟩,by show m-(u+f.n.recs.length+1)<m-u;omega,?_⟩
    ·dsimp only
     rw [hI,hY,List.append_assoc,Zot];rfl
    ·dsimp only
     rw [VI,show ((u+f.n.recs.length+1:Nat):Int)=(u:Int)+(1+(f.n.recs.length:Int)) by omega]
     exact AbsK.tells (rs:=[0,1,2,3,4,5,6,7,8,9,10,14]) ⟨rfl,by decide,⟨r9,r9,r9,r9,r9,r9,r9,trivial⟩,⟨r9,o9,r9,r9,r9,o9,r9,r9,⟨hlb _,rfl⟩,r9,r9,o9,trivial⟩⟩
  ·rw [Zo9] at hl
   conv=>whnf
   refine Ag (a:=(u:Int)) (b:=lg) rfl rfl (fun _=>?_) (fun h=>by omega);conv=>whnf
   refine ECall.inl h118.O h118.G ?_;conv=>whnf
   refine ESc.fam onF h35 ⟨lg,tl,(u:Int)⟩ honk hon ?_;conv=>whnf
   cases hru:rd u with
   | none=>
    obtain ⟨n,hn,hcall⟩:=hr0 hru
    clear hr1 hr0 hrd hfst
    refine hcall _ _ ?_;conv=>whnf
    repeat' (first|((refine w5 rfl rfl ?_ ?_) <;> intro _ <;> first|(exfalso;omega)|(conv=>whnf))|((first|refine w7 rfl rfl (by omega) ?_|refine ⟨rfl,?_⟩);conv=>whnf)|fail)
    refine hk _ ((q::L)) (hI.trans (by rw [U4 hru,Zpq])) (fun f M h=>by first|rfl|cases h)
   | some f=>
    obtain ⟨hf17,hfa,hfs',hcall⟩:=hr1 f hru
    clear hr1 hr0 hrd hfst
    have hno:¬ (u+f.n.recs.length+1≤m∧f.n.seq=(sq+((L.length+1:Nat):Int)) % 4294967296∧f.n.age=ag)→EK rd m ag sq u ((q::L)).length=[]:=fun h=>WM (i:=L.length+1) hru h
    have hyes:(u+f.n.recs.length+1≤m∧f.n.seq=(sq+((L.length+1:Nat):Int)) % 4294967296∧f.n.age=ag)→EK rd m ag sq u ((q::L)).length=f::EK rd m ag sq (u+f.n.recs.length+1) (((q::L)).length+1):=fun h=>Vy (i:=L.length+1) hru hlt h
    have hff:=O4 (((q::L))++[f])
    rw [QM] at hff
    refine hcall _ _ ?_
    unfold AK at hfa hfs'
    conv=>whnf
    refine Bu (a:=(u:Int)) (b:=1+(f.n.recs.length:Int)) rfl rfl (by omega) ?_;conv=>whnf
    refine B2 (a:=0) (b:=0) rfl rfl (fun _=>?_) (fun h=>absurd rfl h);conv=>whnf
    refine ERound.mk ?_;conv=>whnf
    refine Dm (a:=(u:Int)+(1+(f.n.recs.length:Int))) (b:=lg) rfl rfl (fun hgt=>?_) (fun hle=>?_)
    ·conv=>whnf
     repeat' (first|(refine ⟨rfl,?_⟩;conv=>whnf)|fail)
     refine hk _ ((q::L)) (hI.trans (by rw [hno (by omega),Zpq])) (fun f M h=>by first|rfl|cases h)
    conv=>whnf
    refine DL rfl ?_;conv=>whnf
    refine EB (q':=.u32) rfl (G5 (by omega)) ?_;conv=>whnf
    refine PP (a:=sq) (b:=((L.length+1:Nat):Int)) rfl rfl ?_;conv=>whnf
    refine B7 (a:=f.n.seq) (b:=(sq+((L.length+1:Nat):Int)) % 4294967296) rfl rfl (fun hne=>?_) (fun heq=>?_)
    ·conv=>whnf
     repeat' (first|(refine ⟨rfl,?_⟩;conv=>whnf)|fail)
     refine hk _ ((q::L)) (hI.trans (by rw [hno (fun h=>hne h.2.1),Zpq])) (fun f M h=>by first|rfl|cases h)
    conv=>whnf
    refine B7 (a:=f.n.age) (b:=ag) rfl rfl (fun hne=>?_) (fun heq2=>?_)
    ·conv=>whnf
     repeat' (first|(refine ⟨rfl,?_⟩;conv=>whnf)|fail)
     refine hk _ ((q::L)) (hI.trans (by rw [hno (fun h=>hne h.2.2),Zpq])) (fun f M h=>by first|rfl|cases h)
    conv=>whnf
    (refine BX (m:=1) rfl rfl rfl rfl (PV _) rfl (by decide) (by simp;omega) ?_;conv=>whnf)
    repeat' (first|(refine ⟨rfl,?_⟩;conv=>whnf)|fail)
    have hY:=hyes ⟨by omega,heq,heq2⟩
    refine ⟨(u+f.n.recs.length+1,(q::L)++[f]),⟨by dsimp only;omega,by dsimp only;rw [Zot];show ((q::L)).length+1≤_;simp only [Zo9,List.length_nil] at hl ⊢;omega,?_⟩,by show m-(u+f.n.recs.length+1)<m-u;omega,?_⟩
    ·dsimp only
     rw [hI,hY,List.append_assoc,Zot];rfl
    ·dsimp only
     rw [VI,show ((u+f.n.recs.length+1:Nat):Int)=(u:Int)+(1+(f.n.recs.length:Int)) by omega]
     exact AbsK.tells (rs:=[0,1,2,3,4,5,6,7,8,9,10,15]) ⟨rfl,by decide,⟨r9,r9,r9,r9,r9,r9,r9,trivial⟩,⟨r9,o9,r9,r9,r9,o9,r9,r9,⟨hlb _,rfl⟩,r9,r9,o9,trivial⟩⟩
 ·have hs:=Zhl (rd:=rd) (ag:=ag) (sq:=sq) (i:=L.length) hlt
  rw [hs,Zpq] at hI
  rcases L with _|⟨q,L⟩
  ·conv=>whnf
   refine Ag (a:=(u:Int)) (b:=lg) rfl rfl (fun _=>by omega) (fun h=>?_);conv=>whnf
   repeat' (first|(refine ⟨rfl,?_⟩;conv=>whnf)|fail)
   exact hk _ [] hI (fun f M h=>by cases h)
  ·conv=>whnf
   refine Ag (a:=(u:Int)) (b:=lg) rfl rfl (fun _=>by omega) (fun h=>?_);conv=>whnf
   repeat' (first|(refine ⟨rfl,?_⟩;conv=>whnf)|fail)
   exact hk _ (q::L) hI (fun f M h=>rfl)
end Go.AM
namespace Go.AM
attribute [local irreducible] W
open X
theorem MS {x:CK}(h:D4 x=0):x.c.may∧Bi x.d=true∧(x.d.us.length:Int)=x.c.log+1∧x.d.dead=false∧JR x.c (AX x.d)=true:=by
 unfold D4 at h
 split at h
 ·split at h
  ·split at h
   ·cases h
   ·split at h
    ·rename_i h1 h2 h3 h4
     exact ⟨h1,h2.1,h2.2,by simpa using h3,h4⟩
    ·cases h
  ·cases h
 ·cases h
theorem Wc {c:Cfg}{b:List Nat}(h:JR c b=true):Ia b=true∧((Bd b).1:Int)=c.id∧(1≤Hp b∧Hp b≤2147483648)∧(1≤Ho b∧Ho b≤2147483648)∧0≤Ez b∧Ez b<c.log:=by
 unfold JR at h
 simp only [Zoh,Zpc] at h
 obtain ⟨h1,h2,h3⟩:=h
 have h1':=h1
 unfold Ia DE CO at h1'
 simp only [Zoh,Zpc] at h1'
 exact ⟨h1,h2,h1'.1.1.1,h1'.1.1.2,Zpy _,h3⟩
theorem FdG.u32 {x:CDA}(hx:x.ok) {f:Fd}(h:FdG x f):AK f.n.age∧AK f.n.seq:=by
 have:=WU (OO hx h.ask 0).2
 rw [h.n]
 exact ⟨this.age,this.seq⟩
theorem Ziw {s:St}{r:Nat}:∀ {L:List Fd},(∀ f M,L=f::M→s.get r=some (.row 68 (Di L)))→Frz s (slA r L) (Gl L)
 | [],_=>.plain _ rfl
 | f::L,h=>by
  refine .sl r 0 (L.length+1) none none 68 _ (Di (f::L)) _ (h f L rfl) (fun i x hx=>by rw [Zou];exact hx) ?_ (.inl rfl)
  have:=O4 (f::L)
  revert this
  generalize Di (f::L)=l
  induction l with
  | nil=>intro _;exact .nil
  | cons v l ih=>
   intro h
   simp only [hfs,Zoh] at h
   exact .cons (.plain _ h.1) (ih h.2)
theorem Zld {e:Env}(hE:EM P e) (h73:Con e 43 fstF.O) (h35:Con e 74 onF.O) (h23:Con e 82 drF.O) (h74:Inl e 44 Xk [.tmp 6]) (h118:Inl e 81 Wy [.tmp 5])
 : OvOk P 14 allF.O:=by
 refine Bk g14.b fun x hx=>?_
 refine ⟨CK.hfa hx,Zcy x,C.of_G hE g14 ?_⟩
 have hdf:=CZ hx.d.a.wl hx.d.a.bl (d:=x.d.dead)
 by_cases h0:D4 x=0
 ·obtain ⟨q1,q2,q3,q4,q5⟩:=MS h0
  obtain ⟨g1,g2,g3,g4,g5,g6⟩:=Wc q5
  have hlg:=Eo q1
  have hlg2:x.c.log≤255:=by unfold Cfg.may at q1;omega
  have hok:∀ u:Nat,CDA.ok ⟨x.c,x.d,(Ez (AX x.d)+(u:Int)) % x.c.log⟩:=fun u=>⟨hx.c,hx.d,by
   have h1:=Zpz (Ez (AX x.d)+(u:Int)) (b:=x.c.log) (by omega)
   have h2:=Zp1 (Ez (AX x.d)+(u:Int)) (b:=x.c.log) (by omega)
   unfold Aj;dsimp only;omega⟩
  have hfst:∀ (s:St) (K:AV→St→Prop),K (.tup [.agg (ML (AX x.d)),.int .i64 0]) s→ESc e 43 x.args s K:=fun s K hk=>ESc.fam fstF h73 x hx (by show J5 x=_;unfold J5;rw [Zoj h0]) hk
  have hcall:=fun (u:Nat)=>Zho h23 (hok u)
  have hfd:=fun (u:Nat) (f:Fd) (h:DV ⟨x.c,x.d,(Ez (AX x.d)+(u:Int)) % x.c.log⟩=some f)=>And.intro (NY h).recs ((NY h).u32 (hok u))
  have hout:∀ s L,BI x=L→(∀ f M,L=f::M→s.get 11=some (.row 68 (Di L)))→Frz s (.tup [.agg (ML (AX x.d)),slA 11 L,.int .i64 0]) (allF.out x):=fun s L hL h=>by
   show Frz s _ (HP x)
   unfold HP
   rw [Zoj h0,hL]
   exact .tup _ _ (.cons (.plain _ rfl) (.cons (Ziw h) (.cons (.plain _ rfl) .nil)))
  have hua:AK (Hp (AX x.d)):=by unfold AK;omega
  have hus:AK (Ho (AX x.d)):=by unfold AK;omega
  unfold BI at hout
  obtain ⟨c,d⟩:=x
  obtain ⟨id,mb,ch,rw',lg,hdd⟩:=c
  obtain ⟨bv,us,bs,wv,ws,dd⟩:=d
  dsimp only at hdf hlg hlg2 g5 g6 hcall hfd hout
  exact Zgz (e:=e) hE h35 h74 h118 hdf (m:=lg.toNat) (by omega) (by omega) ⟨g5,g6⟩ hua hus hfst (fun u=>DV ⟨⟨id,mb,ch,rw',lg,hdd⟩,⟨bv,us,bs,wv,ws,dd⟩,(Ez (AX ⟨bv,us,bs,wv,ws,dd⟩)+(u:Int)) % lg⟩)
   (fun u _=>⟨fun h=>⟨_,Zi1 _,fun s K hk=>hcall u K s (fun _=>hk) (fun f hf=>by rw [h] at hf;cases hf)⟩,fun f h=>⟨(hfd u f h).1,(hfd u f h).2.1,(hfd u f h).2.2,fun s K hk=>hcall u K s (fun hn=>by rw [h] at hn;cases hn) (fun f' hf=>by rw [h] at hf;cases hf;exact hk)⟩⟩) hout
 ·have hfst:∀ (s:St) (K:AV→St→Prop),K (.tup [.agg z4,.int .i64 (D4 x)]) s→ESc e 43 x.args s K:=fun s K hk=>ESc.fam fstF h73 x hx (by show J5 x=_;unfold J5;rw [Zon h0]) hk
  have hout:∀ s,Frz s (.tup [.agg z4,.nils,.int .i64 (D4 x)]) (allF.out x):=fun s=>by
   show Frz s _ (HP x)
   unfold HP
   rw [Zon h0]
   exact .plain _ rfl
  obtain ⟨E,hE'⟩:∃ E,E=D4 x:=⟨_,rfl⟩
  rw [← hE'] at h0 hfst hout
  obtain ⟨c,d⟩:=x
  obtain ⟨id,mb,ch,rw',lg,hdd⟩:=c
  obtain ⟨bv,us,bs,wv,ws,dd⟩:=d
  have hfst:∀ (s:St) (K:AV→St→Prop),K (.tup [.agg z4,.int .i64 E]) s→ESc e 43 [.agg [.int .u32 id,.int .i64 mb,.int .i64 ch,.int .i64 rw',.int .i64 lg,.int .i64 hdd],.agg [bv,wv,.bool dd]] s K:=hfst
  show VW P e 0 Pi (Ah [.agg [.int .u32 id,.int .i64 mb,.int .i64 ch,.int .i64 rw',.int .i64 lg,.int .i64 hdd],.agg [bv,wv,.bool dd]] 0 .lf) St0 none [] _
  conv=>whnf
  refine hfst _ _ ?_;conv=>whnf
  refine B7 (a:=E) (b:=0) rfl rfl (fun _=>?_) (fun h=>absurd h h0);conv=>whnf
  skip
  exact hout _
end Go.AM
namespace Go.AM
attribute [local irreducible] W
open X
def B8 (L:List Fd):Nat:=(L.map Fd.m).sum
theorem To (f:Fd) (L:List Fd):B8 (f::L)=f.m+B8 L:=by unfold B8;simp
theorem Zbk (L:List Fd) (f:Fd):B8 (L++[f])=B8 L+f.m:=by unfold B8;simp
theorem Ux:∀ M:List Fd,M.length≤B8 M
 | []=>Zoy _
 | f::M=>by rw [To,Zo9];have:=Ux M;show _≤f.n.recs.length+1+_;omega
theorem TM (rd:Nat→Option Fd) (m:Nat) (ag sq:Int):∀ (k u i:Nat),m<u+k→u≤m→
 (∀ (j:Nat) f,(D5 rd m ag sq k u i)[j]?=some f→rd (u+B8 ((D5 rd m ag sq k u i).take j))=some f∧u+B8 ((D5 rd m ag sq k u i).take j)<m∧u+B8 ((D5 rd m ag sq k u i).take j)+f.m≤m∧f.n.seq=(sq+((i+j:Nat):Int)) % 4294967296∧f.n.age=ag)∧
 u+B8 (D5 rd m ag sq k u i)≤m∧
 (u+B8 (D5 rd m ag sq k u i)=m∨rd (u+B8 (D5 rd m ag sq k u i))=none∨∃ f,rd (u+B8 (D5 rd m ag sq k u i))=some f∧¬ (u+B8 (D5 rd m ag sq k u i)+f.m≤m∧f.n.seq=(sq+((i+(D5 rd m ag sq k u i).length:Nat):Int)) % 4294967296∧f.n.age=ag))
 | 0,u,i,h,hu=>by omega
 | k+1,u,i,h,hu=>by
  have hz:B8 ([]:List Fd)=0:=rfl
  by_cases hlt:u<m
  ·cases hr:rd u with
   | none=>
    have e:D5 rd m ag sq (k+1) u i=[]:=by
     show (if u<m then _ else _)=_
     rw [Zoj hlt,hr]
    rw [e]
    exact ⟨fun j f h=>by simp at h,by rw [hz];omega,.inr (.inl (by rw [hz];exact hr))⟩
   | some f=>
    by_cases hc:u+f.n.recs.length+1≤m∧f.n.seq=(sq+(i:Int)) % 4294967296∧f.n.age=ag
    ·have e:D5 rd m ag sq (k+1) u i=f::D5 rd m ag sq k (u+f.n.recs.length+1) (i+1):=by
      show (if u<m then _ else _)=_
      rw [Zoj hlt,hr]
      show (if _ then _ else _)=_
      rw [Zoj hc]
     obtain ⟨h1,h2,h3⟩:=TM rd m ag sq k (u+f.n.recs.length+1) (i+1) (by omega) (by omega)
     rw [e]
     have hm:f.m=f.n.recs.length+1:=rfl
     generalize D5 rd m ag sq k (u+f.n.recs.length+1) (i+1)=L at h1 h2 h3
     have eu:∀ M:List Fd,u+B8 (f::M)=u+f.n.recs.length+1+B8 M:=fun M=>by rw [To];omega
     refine ⟨fun j g hj=>?_,by rw [eu];exact h2,?_⟩
     ·cases j with
      | zero=>
       simp at hj;subst hj
       rw [List.take_zero,hz]
       exact ⟨hr,hlt,by omega,by rw [hc.2.1];rfl,hc.2.2⟩
      | succ j=>
       have:=h1 j g (by simpa using hj)
       rw [List.take_succ_cons,eu,show i+(j+1)=i+1+j by omega]
       exact this
     ·rw [eu,Zo9,show i+(L.length+1)=i+1+L.length by omega]
      exact h3
    ·have e:D5 rd m ag sq (k+1) u i=[]:=by
      show (if u<m then _ else _)=_
      rw [Zoj hlt,hr]
      show (if _ then _ else _)=_
      rw [Zon hc]
     rw [e]
     refine ⟨fun j f h=>by simp at h,by rw [hz];omega,.inr (.inr ⟨f,by rw [hz];exact hr,?_⟩)⟩
     rw [hz]
     exact hc
  ·have e:D5 rd m ag sq (k+1) u i=[]:=by
    show (if u<m then _ else _)=_
    rw [Zon hlt]
   rw [e]
   exact ⟨fun j f h=>by simp at h,by rw [hz];omega,.inl (by rw [hz];omega)⟩
def Gm (x:CK) (u:Nat):CDA:=⟨x.c,x.d,(Ez (AX x.d)+(u:Int)) % x.c.log⟩
structure AllG (x:CK) (L:List Fd):Prop where
 get:∀ (j:Nat) f,L[j]?=some f→DV (Gm x (B8 (L.take j)))=some f∧B8 (L.take j)<x.c.log.toNat∧B8 (L.take j)+f.m≤x.c.log.toNat∧f.n.seq=(Ho (AX x.d)+(j:Int)) % 4294967296∧f.n.age=Hp (AX x.d)
 le:B8 L≤x.c.log.toNat
 fin:B8 L=x.c.log.toNat∨DV (Gm x (B8 L))=none∨∃ f,DV (Gm x (B8 L))=some f∧¬ (B8 L+f.m≤x.c.log.toNat∧f.n.seq=(Ho (AX x.d)+(L.length:Int)) % 4294967296∧f.n.age=Hp (AX x.d))
theorem Xu (x:CK):AllG x (BI x):=by
 obtain ⟨h1,h2,h3⟩:=TM (fun u=>DV (Gm x u)) x.c.log.toNat (Hp (AX x.d)) (Ho (AX x.d)) (x.c.log.toNat+1) 0 0 (by omega) (Zoy _)
 refine ⟨fun j f hj=>?_,?_,?_⟩
 ·have:=h1 j f hj
  simp only [Zou] at this
  exact this
 ·simp only [Zou] at h2
  exact h2
 ·simp only [Zou] at h3
  exact h3
variable {x:CK}
theorem Zmc (hx:x.ok) (h:D4 x=0) (u:Nat):(Gm x u).ok:=by
 obtain ⟨q1,q2,q3,q4,q5⟩:=MS h
 have hlg:=Eo q1
 have hlg2:x.c.log≤255:=by unfold Cfg.may at q1;omega
 have h1:=Zpz (Ez (AX x.d)+(u:Int)) (b:=x.c.log) (by omega)
 have h2:=Zp1 (Ez (AX x.d)+(u:Int)) (b:=x.c.log) (by omega)
 exact ⟨hx.c,hx.d,by unfold Aj Gm;dsimp only;omega⟩
theorem VQ (hx:x.ok) (h:D4 x=0) (u:Nat):Cb (Gm x u)=0:=by
 obtain ⟨q1,q2,q3,q4,q5⟩:=MS h
 have hlg:=Eo q1
 have h1:=Zpz (Ez (AX x.d)+(u:Int)) (b:=x.c.log) (by omega)
 have h2:=Zp1 (Ez (AX x.d)+(u:Int)) (b:=x.c.log) (by omega)
 unfold Cb Gm
 dsimp only
 rw [Zoj q1,Zoj ⟨q2,q3⟩,Zoj ⟨h1,h2⟩,q4];rfl
end Go.AM
namespace Go.AM
attribute [local irreducible] W
open X
variable {x:DKW}
theorem dw0 (h:GP x=0):Cg x.d x.a x.b=0∧x.d.ws.length≠1024:=by
 unfold GP at h
 by_cases h1:Cg x.d x.a x.b=0
 ·rw [Zoj h1] at h
  by_cases h2:x.d.ws.length=1024
  ·rw [Zoj h2] at h;cases h
  ·exact ⟨h1,h2⟩
 ·rw [Zon h1] at h;exact absurd h h1
theorem Mp (x:DKW):(Fi x).us.length=x.d.us.length:=Zom ..
theorem O9 (x:DKW):(Fh x).length=x.d.ws.length+1:=by unfold Fh;simp
theorem Zmv (hx:x.ok) (h:GP x=0):(Fi x).ok:=by
 obtain ⟨h0,h1⟩:=dw0 h
 obtain ⟨q1,q2,q3,q4⟩:=JK h0
 have hbl:=HH q3
 obtain ⟨p1,p2⟩:=OT hbl hx.b.2
 have hm:=(KE hx.d.a q1).1
 have hwa:∀ w ∈ Fh x,w.any∧w.b.length<1000000:=fun w hw=>by
  rcases Zo7.1 hw with hw|hw
  ·obtain ⟨v,hv,rfl⟩:=Zpf.1 hw
   exact ⟨HF (hx.d.a.ws v hv),hx.d.w v hv⟩
  ·have:w=⟨x.a,AA (Aa x.b),Aa x.b⟩:=by simpa using hw
   subst this
   exact ⟨⟨hx.a,p1⟩,by show (Aa x.b).length<_;omega⟩
 refine ⟨⟨?_,K2 hx.d.a.bs,?_,fun w hw=>(hwa w hw).1⟩,?_,?_,hx.d.b,fun w hw=>(hwa w hw).2⟩
 ·exact .inr (.inr ⟨none,by rw [Mp];rfl,by rw [Zpi]⟩)
 ·refine .inr (.inr ⟨none,?_,Dt _⟩)
  show AV.fz (x.d.ws.length+1) none (Ad (Fh x))=.fz (Fh x).length none _
  rw [O9];rfl
 ·rw [Mp];exact hx.d.n
 ·show (Fh x).length<_;rw [O9];omega
theorem Zjz (hx:x.ok) (h:GP x=0):Bi (Fi x)=true:=by
 obtain ⟨h0,h1⟩:=dw0 h
 obtain ⟨q1,q2,q3,q4⟩:=JK h0
 obtain ⟨d1,d2,d3,d4⟩:=dskB_iff.1 q1
 have hbl:=HH q3
 obtain ⟨p1,p2⟩:=OT hbl hx.b.2
 refine dskB_iff.2 ⟨?_,d2,fun w hw=>?_,fun hd=>?_⟩
 ·rw [Mp]
  have:(Fi x).ws.length=x.d.ws.length+1:=O9 x
  omega
 ·rw [Mp]
  rcases Zo7.1 (show w ∈ Fh x from hw) with hw|hw
  ·obtain ⟨v,hv,rfl⟩:=Zpf.1 hw
   exact d3 v hv
  ·have:w=⟨x.a,AA (Aa x.b),Aa x.b⟩:=by simpa using hw
   subst this
   unfold Ch
   dsimp only
   rw [p2,Zow (by omega),Zow (by omega)];rfl
 ·have hd:x.d.dead=true:=hd
  rw [q4] at hd;cases hd
theorem Zck {p:Int}(L:List WR) (w:WR):BW p (L.map An++[w]).reverse=if w.at_=p then some w.b else BW p L.reverse:=by
 rw [List.reverse_append]
 show (if w.at_=p then some w.b else BW p (L.map An).reverse)=_
 congr 1
 rw [← List.map_reverse]
 generalize L.reverse=M
 induction M with
 | nil=>rfl
 | cons v M ih=>
  show (if v.at_=p then some v.b else _)=if v.at_=p then some v.b else _
  rw [ih]
theorem Zka (x:DKW) (p:Int):AY (Fi x) p=if x.a=p then Aa x.b else AY x.d p:=by
 unfold AY EI
 show (BW p (x.d.ws.map An++[_]).reverse).getD (x.d.bs.getD p.toNat [])=_
 rw [Zck]
 by_cases h:x.a=p
 ·rw [Zoj h,Zoj h];rfl
 ·rw [Zon h,Zon h]
theorem RDK.dw {lg:Int}{d:DK}(h:RDK lg d) (hx:x.ok) (hd:x.d=d) (h0:GP x=0):RDK lg (Fi x):=by
 subst hd
 exact ⟨Zmv hx h0,Zjz hx h0,by rw [Mp];exact h.len,h.dead,h.lo⟩
end Go.AM
namespace Go.AM
attribute [local irreducible] W
open X
def Lv.flush (x:Lv):Lv:={ x with sure:=true }
def Log.with (l:Log) (L:List Lv):Log:={ l with live:=L }
def BH:List AV:=[.int .u32 0,.int .u32 0,.int .i64 0,.int .i64 0,.nils]
def flushF:Fam CL:=⟨CL.ok,CL.args,fun x=>if x.good then .tup [.agg (x.l.c (CC x.v (x.l.live.map Lv.flush))),.int .i64 0] else .tup [.agg BH,.int .i64 8],fun x y hx hy h=>by rw [CL.inja hx hy h]⟩
variable {s:St}
theorem O6 {ag sq tl us:Int}{v u:AV}(h:Frz s v u) (n:Int):Frz s (.tup [.agg [.int .u32 ag,.int .u32 sq,.int .i64 tl,.int .i64 us,v],.int .i64 n]) (.tup [.agg [.int .u32 ag,.int .u32 sq,.int .i64 tl,.int .i64 us,u],.int .i64 n]):=
 .tup _ _ (.cons (.agg _ _ (.cons (.plain _ rfl) (.cons (.plain _ rfl) (.cons (.plain _ rfl) (.cons (.plain _ rfl) (.cons h .nil)))))) (.cons (.plain _ rfl) .nil))
variable {L:List Lv}
theorem KD {r n:Nat}{cap:Option Nat}(h:s.get r=some (.row 66 (Ai L))):Frz s (.sl r 0 n cap) (.fz n cap (Ai L)):=
 .sl r 0 n cap cap 66 _ _ _ h (fun i x hx=>by rw [Zou];exact hx) (Es (Cq L)) (.inr rfl)
theorem Xb (l:Log) (v:AV) (M:List Lv) (n:Int):AM.hf (.tup [.agg (l.c (CC v M)),.int .i64 n])=true:=by
 show ((true && (true && (true && (true && (AM.hf (CC _ _) && true))))) && true)=true
 rw [Mx];rfl
def EL (L:List Lv) (i:Nat):List Lv:=(L.take i).map Lv.flush++L.drop i
theorem Qh (L:List Lv) (i:Nat):(EL L i).length=L.length:=by unfold EL;simp;omega
variable {i:Nat}
theorem Ziy (h:i<L.length):(EL L i)[i]'(by rw [Qh];exact h)=L[i]:=by
 have h1:(EL L i)[i]?=some L[i]:=by
  unfold EL
  rw [Zpa (by simp;omega)]
  simp;rw [show i-min i L.length=0 by omega];simp
 rw [Zof (by rw [Qh];exact h)] at h1
 exact Zpn h1
theorem Zf0 (h:i<L.length):(EL L i).set i L[i].flush=EL L (i+1):=by
 unfold EL
 have hl:((L.take i).map Lv.flush).length=i:=by simp;omega
 rw [List.set_append_right _ _ (by omega),hl,Nat.sub_self,Zo2 h,List.set_cons_zero,Zos h,Zo4,List.append_assoc];rfl
theorem Zc3 {e:Env}(hE:EM P e) (h80:Con e 72 FD):OvOk P 36 flushF.O:=by
 refine Bk g36.b ?_
 intro x hx
 refine ⟨CL.hfa hx,?_,C.of_G hE g36 ?_⟩
 ·unfold flushF;dsimp only;split
  ·exact Xb _ _ _ _
  ·rfl
 by_cases hG:x.good
 ·rw [show flushF.out x=.tup [.agg (x.l.c (CC x.v (x.l.live.map Lv.flush))),.int .i64 0] by simp [flushF,hG]]
  have hon:=fun s=>(Ha hx s).trans (Zoj hG)
  have hlen:=hx.l.len
  obtain ⟨c,⟨ag,sq,tl,us,L⟩,v⟩:=x
  have hv:=hx.v
  dsimp only at hv hlen
  conv=>whnf
  refine ESc.ov h80 (hon _) ?_
  rcases hv.cases with ⟨rfl,rfl⟩|⟨rfl,rfl⟩|⟨rfl,cp,rfl⟩|⟨y,M,cp,hLM,rfl⟩
  ·conv=>whnf
   repeat' (first|((refine w6 rfl rfl ?_ ?_) <;> intro _ <;> first|(exfalso;omega)|(conv=>whnf))|(refine w16 rfl ?_;conv=>whnf)|fail)
   refine Hg hE ?_;conv=>whnf
   repeat' (first|((refine w1 rfl rfl ?_ ?_) <;> intro _ <;> first|(exfalso;omega)|(conv=>whnf))|fail)
   exact .plain _ rfl
  ·conv=>whnf
   repeat' (first|((refine w6 rfl rfl ?_ ?_) <;> intro _ <;> first|(exfalso;omega)|(conv=>whnf))|(refine w18 rfl ?_;conv=>whnf)|fail)
   refine Hg hE ?_;conv=>whnf
   repeat' (first|((refine w1 rfl rfl ?_ ?_) <;> intro _ <;> first|(exfalso;omega)|(conv=>whnf))|fail)
   exact O6 (v:=.sl _ 0 0 (some 0)) (u:=.fz 0 (some 0) []) (KD (L:=[]) rfl) 0
  ·conv=>whnf
   repeat' (first|((refine w6 rfl rfl ?_ ?_) <;> intro _ <;> first|(exfalso;omega)|(conv=>whnf))|(refine w18 rfl ?_;conv=>whnf)|fail)
   refine Hg hE ?_;conv=>whnf
   repeat' (first|((refine w1 rfl rfl ?_ ?_) <;> intro _ <;> first|(exfalso;omega)|(conv=>whnf))|fail)
   exact O6 (v:=.sl _ 0 0 (some 0)) (u:=.fz 0 (some 0) []) (KD (L:=[]) rfl) 0
  ·subst hLM
   conv=>whnf
   repeat' (first|((refine w6 rfl rfl ?_ ?_) <;> intro _ <;> first|(exfalso;omega)|(conv=>whnf))|(refine w18 rfl ?_;conv=>whnf)|fail)
   obtain ⟨L,hL⟩:∃ L,L=y::M:=⟨_,rfl⟩
   have hn:L.length=M.length+1:=by rw [hL];rfl
   rw [← hL] at hlen
   refine EX (α:=Nat) (fun i=>[(4,.ptr 0 0),(6,.ptr 1 0),(24,.int .i64 (L.length:Int)),(25,.int .i64 (i:Int))]) (fun i=>[.row 31 BH,.row 82 (Ring.cs ⟨⟨ag,sq,tl,us,L⟩,c⟩ (.sl 2 0 L.length none)),.row 66 (Ai (EL L i))]) (fun i=>L.length-i)
    (fun i=>i≤L.length) 0 [2,3,4] (Zoy _) ⟨by decide,⟨r9,r9,⟨rfl,by rw [hL];rfl⟩,r9,trivial⟩,⟨r9,⟨rfl,by rw [hL];rfl⟩,⟨Dd _ (Cq _),?_⟩,trivial⟩⟩ ?_
   ·show _=some (AObj.row 66 (At _ (Ai (EL L 0))));rw [Dc _ (Cq _),show EL L 0=L from rfl,hL];rfl
   intro i hi
   refine A9 hE ?_;conv=>whnf
   refine Ag rfl rfl (fun h=>?_) (fun h=>?_) <;> conv=>whnf
   ·have hlt:i<L.length:=by omega
    refine D7 (i:=i) rfl rfl hlt ?_;conv=>whnf
    refine AP _ (show storeAt 2 (0+i*6+4) [.bool true] (Ac St0 [.row 31 BH,.row 82 (Ring.cs ⟨⟨ag,sq,tl,us,L⟩,c⟩ (.sl 2 0 L.length none)),.row 66 (Ai (EL L i))])=_ from by
     rw [Zou]
     exact TJ (e:=66) (y:=L[i].flush) rfl (by rw [Qh];exact hlt) (by decide) (by rw [Ziy hlt];rfl)) ?_
    rw [Zf0 hlt]
    conv=>whnf
    repeat' (first|((first|refine w7 rfl rfl (by omega) ?_|refine ⟨rfl,?_⟩);conv=>whnf)|fail)
    refine ⟨i+1,hlt,by omega,[0,1,2],⟨by decide,⟨r9,r9,r9,r9,trivial⟩,⟨r9,r9,⟨Dd _ (Cq _),?_⟩,trivial⟩⟩⟩
    show _=some (AObj.row 66 (At _ (Ai (EL L (i+1)))));rw [Dc _ (Cq _)];rfl
   ·have:i=L.length:=by omega
    subst this
    rw [show EL L L.length=L.map Lv.flush by unfold EL;simp]
    have e1:CC (.fz (M.length+1) cp (Ai (y::M))) ((y::M).map Lv.flush)=.fz L.length none (Ai (L.map Lv.flush)):=by
     rw [hL];simp [CC]
    show Frz _ _ (.tup [.agg [.int .u32 ag,.int .u32 sq,.int .i64 tl,.int .i64 us,CC (.fz (M.length+1) cp (Ai (y::M))) ((y::M).map Lv.flush)],.int .i64 0])
    rw [e1]
    exact O6 (KD rfl) 0
 ·rw [show flushF.out x=.tup [.agg BH,.int .i64 8] by simp [flushF,hG]]
  conv=>whnf
  refine ESc.ov h80 ((Ha hx _).trans (Zon hG)) ?_;conv=>whnf
  repeat' (first|((refine w6 rfl rfl ?_ ?_) <;> intro _ <;> first|(exfalso;omega)|(conv=>whnf))|fail)
  exact .plain _ rfl
end Go.AM
namespace Go.AM
attribute [local irreducible] W
open X
def JE (st:Int) (x:Lv):Bool:=decide (x.stripe=st) && (x.par && (x.sure && !x.home))
def hF (st:Int) (L:List Lv) (k:Nat):Bool:=(L.drop k).any (JE st)
def Dq (st:Int) (L:List Lv) (k:Nat) (x:Lv):Lv:=if x.stripe=st then { x with home:=x.home || hF st L k } else x
def CP (st:Int) (L:List Lv) (j:Nat):List Lv:=L.mapIdx fun k x=>if k<j then x else Dq st L k x
def CI (st:Int) (L:List Lv):List Lv:=CP st L 0
variable {st:Int}{L:List Lv}{i:Nat}
theorem Zio (h:i<L.length):hF st L i=(JE st L[i] || hF st L (i+1)):=by
 unfold hF;rw [Zo2 h];rfl
theorem Zmg:hF st L L.length=false:=by unfold hF;simp
theorem Iv (st:Int) (L:List Lv) (j:Nat):(CP st L j).length=L.length:=by unfold CP;simp
theorem Zik (st:Int) (L:List Lv):CP st L L.length=L:=by
 unfold CP
 refine List.ext_getElem? fun k=>?_
 rw [List.getElem?_mapIdx]
 cases h:L[k]? with
 | none=>rfl
 | some x=>have:=(Zog.1 h).1;simp [this]
theorem VT {j:Nat}(h:i<L.length) (hj:i<j):(CP st L j)[i]'(by rw [Iv];exact h)=L[i]:=by
 unfold CP;simp [hj]
theorem UP (h:i<L.length):(CP st L (i+1)).set i (Dq st L i L[i])=CP st L i:=by
 unfold CP
 refine List.ext_getElem? fun k=>?_
 rw [List.getElem?_set]
 by_cases hk:i=k
 ·subst hk;simp [h]
 ·rw [Zon hk,List.getElem?_mapIdx,List.getElem?_mapIdx]
  cases hq:L[k]? with
  | none=>rfl
  | some x=>
   simp only [Option.map_some]
   by_cases h1:k<i
   ·rw [Zoj (by omega),Zoj h1]
   ·rw [Zon (by omega),Zon h1]
theorem Zfm (h:i<L.length) (hs:L[i].stripe≠st):CP st L (i+1)=CP st L i:=by
 rw [← UP h]
 have h1:Dq st L i L[i]=L[i]:=by unfold Dq;rw [Zon hs]
 rw [h1]
 refine (List.ext_getElem? fun k=>?_)
 rw [List.getElem?_set]
 by_cases hk:i=k
 ·subst hk;rw [Zoj rfl,Zoj (by rw [Iv];exact h),Zof (by rw [Iv];exact h),VT h (by omega)]
 ·rw [Zon hk]
structure CLS where
 x:CL
 st:Int
def CLS.ok (y:CLS):Prop:=y.x.ok∧Aj y.st
def CLS.args (y:CLS):List AV:=[y.x.c.v,y.x.lv,.int .i64 y.st]
theorem CLS.inja {a b:CLS}(ha:a.ok) (hb:b.ok) (h:a.args=b.args):a=b:=by
 obtain ⟨x,st⟩:=a
 obtain ⟨x',st'⟩:=b
 have h1:=CL.inj ha.1 hb.1 (Zor h).1 (Zor (Zor h).2).1
 have h2:=(AV.int.inj (Zor (Zor (Zor h).2).2).1).2
 dsimp only at h1 h2
 subst h1 h2;rfl
theorem CLS.hfa {y:CLS}(h:y.ok):hfs y.args=true:=by
 show (true && ((true && (true && (true && (true && (AM.hf y.x.v && true))))) && (true && true)))=true
 rw [h.1.v.hf];rfl
def CLS.in (y:CLS):Prop:=0≤y.st∧y.st<y.x.c.chunk*y.x.c.rows
instance (y:CLS):Decidable y.in:=by unfold CLS.in;infer_instance
def FO (y:CLS):AV:=if y.x.good then (if y.in then (if hF y.st y.x.l.live 0 then .tup [.agg (y.x.l.c (CC y.x.v (CI y.st y.x.l.live))),.int .i64 0] else .tup [.agg BH,.int .i64 6]) else .tup [.agg BH,.int .i64 2]) else .tup [.agg BH,.int .i64 8]
def homeFm:Fam CLS:=⟨CLS.ok,CLS.args,FO,fun x y hx hy h=>by rw [CLS.inja hx hy h]⟩
theorem Zcu {e:Env}(hE:EM P e) (h80:Con e 72 FD) (h38:Con e 51 stripesF.O):OvOk P 38 homeFm.O:=by
 refine Bk g38.b ?_
 intro y hy
 refine ⟨CLS.hfa hy,?_,C.of_G hE g38 ?_⟩
 ·show AM.hf (FO y)=true
  unfold FO
  split
  ·split
   ·split
    ·exact Xb _ _ _ _
    ·rfl
   ·rfl
  ·rfl
 obtain ⟨x,st⟩:=y
 obtain ⟨hx,hst⟩:=hy
 dsimp only at hx hst
 unfold Aj at hst
 have out:homeFm.out ⟨x,st⟩=FO ⟨x,st⟩:=rfl
 rw [out]
 show VW P e 0 (match a38 with|.mk c _=>c) (Ah [x.c.v,x.lv,.int .i64 st] 0 .lf) St0 none [] _
 by_cases hG:x.good
 ·have hon:=fun s=>(Ha hx s).trans (Zoj hG)
  have hlen:=hx.l.len
  have hM:=hG.1
  by_cases hIn:(⟨x,st⟩:CLS).in
  ·have hIn':0≤st∧st<x.c.chunk*x.c.rows:=hIn
   have outE:FO ⟨x,st⟩=if hF st x.l.live 0 then .tup [.agg (x.l.c (CC x.v (CI st x.l.live))),.int .i64 0] else .tup [.agg BH,.int .i64 6]:=by unfold FO;rw [Zoj hG,Zoj hIn]
   rw [outE]
   have hstr:∀ s k,k (.tup [.int .i64 (x.c.chunk*x.c.rows),.int .i64 0]) s→ESc e 51 [.agg x.c.c] s k:=fun s k hk=>ESc.fam stripesF h38 x.c hx.c (by simp [stripesF,hM]) hk
   obtain ⟨c,⟨ag,sq,tl,us,L⟩,v⟩:=x
   have hv:=hx.v
   dsimp only at hv hlen hIn' hstr ⊢
   conv=>whnf
   refine ESc.ov h80 (hon _) ?_
   rcases hv.cases with ⟨rfl,rfl⟩|⟨rfl,rfl⟩|⟨rfl,cp,rfl⟩|⟨y,M,cp,hLM,rfl⟩
   ·conv=>whnf
    repeat' (first|(refine hstr _ _ ?_;conv=>whnf)|((first|refine w1 rfl rfl ?_ ?_|refine w4 rfl rfl ?_ ?_|refine w6 rfl rfl ?_ ?_) <;> intro _ <;> first|(exfalso;omega)|(conv=>whnf))|((first|refine w8 rfl rfl (by omega) ?_|refine w16 rfl ?_);conv=>whnf)|fail)
    refine Hg hE ?_;conv=>whnf
    repeat' (first|((refine w4 rfl rfl ?_ ?_) <;> intro _ <;> first|(exfalso;omega)|(conv=>whnf))|(refine w13 rfl ?_;conv=>whnf)|fail)
    exact .plain _ rfl
   ·conv=>whnf
    repeat' (first|(refine hstr _ _ ?_;conv=>whnf)|((first|refine w1 rfl rfl ?_ ?_|refine w4 rfl rfl ?_ ?_|refine w6 rfl rfl ?_ ?_) <;> intro _ <;> first|(exfalso;omega)|(conv=>whnf))|((first|refine w8 rfl rfl (by omega) ?_|refine w18 rfl ?_);conv=>whnf)|fail)
    refine Hg hE ?_;conv=>whnf
    repeat' (first|((refine w4 rfl rfl ?_ ?_) <;> intro _ <;> first|(exfalso;omega)|(conv=>whnf))|(refine w13 rfl ?_;conv=>whnf)|fail)
    exact .plain _ rfl
   ·conv=>whnf
    repeat' (first|(refine hstr _ _ ?_;conv=>whnf)|((first|refine w1 rfl rfl ?_ ?_|refine w4 rfl rfl ?_ ?_|refine w6 rfl rfl ?_ ?_) <;> intro _ <;> first|(exfalso;omega)|(conv=>whnf))|((first|refine w8 rfl rfl (by omega) ?_|refine w18 rfl ?_);conv=>whnf)|fail)
    refine Hg hE ?_;conv=>whnf
    repeat' (first|((refine w4 rfl rfl ?_ ?_) <;> intro _ <;> first|(exfalso;omega)|(conv=>whnf))|(refine w13 rfl ?_;conv=>whnf)|fail)
    exact .plain _ rfl
   ·subst hLM
    have hn0:M.length+1≤1000:=hlen
    conv=>whnf
    repeat' (first|(refine hstr _ _ ?_;conv=>whnf)|((first|refine w1 rfl rfl ?_ ?_|refine w4 rfl rfl ?_ ?_|refine w6 rfl rfl ?_ ?_) <;> intro _ <;> first|(exfalso;omega)|(conv=>whnf))|((first|refine w8 rfl rfl (by omega) ?_|refine w18 rfl ?_);conv=>whnf)|fail)
    obtain ⟨L,hL⟩:∃ L,L=y::M:=⟨_,rfl⟩
    have hn:L.length=M.length+1:=by rw [hL];rfl
    rw [← hL] at hlen
    refine EX (α:=Nat) (fun j=>[(2,.int .i64 st),(6,.ptr 0 0),(8,.ptr 1 0),(12,.bool (hF st L j)),(13,.int .i64 ((j:Int)-1))]) (fun j=>[.row 31 BH,.row 82 (Ring.cs ⟨⟨ag,sq,tl,us,L⟩,c⟩ (.sl 2 0 L.length none)),.row 66 (Ai (CP st L j))]) (fun j=>j)
     (fun j=>j≤L.length) L.length [2,3,4] (Zo0 _) ⟨by decide,⟨r9,r9,r9,⟨rfl,by rw [Zmg];rfl⟩,⟨rfl,by rw [hL];rfl⟩,trivial⟩,⟨r9,⟨rfl,by rw [hL];rfl⟩,⟨Dd _ (Cq _),?_⟩,trivial⟩⟩ ?_
    ·show _=some (AObj.row 66 (At _ (Ai (CP st L L.length))));rw [Dc _ (Cq _),Zik,hL];rfl
    intro j hj
    refine A9 hE ?_;conv=>whnf
    refine FI rfl rfl (fun h=>?_) (fun h=>?_) <;> conv=>whnf
    ·obtain ⟨i,rfl⟩:∃ i,j=i+1:=⟨j-1,by omega⟩
     have hlt:i<L.length:=by omega
     rw [show ((i+1:Nat):Int)-1=(i:Int) by omega]
     refine D7 (i:=i) rfl rfl hlt ?_
     obtain ⟨S,hS⟩:∃ S,S=Ac St0 [.row 31 BH,.row 82 (Ring.cs ⟨⟨ag,sq,tl,us,L⟩,c⟩ (.sl 2 0 L.length none)),.row 66 (Ai (CP st L (i+1)))]:=⟨_,rfl⟩
     have hrow:S.get 2=some (.row 66 (Ai (CP st L (i+1)))):=by rw [hS];rfl
     have hlt':i<(CP st L (i+1)).length:=by rw [Iv];exact hlt
     have hgx:=VT (st:=st) (j:=i+1) hlt (by omega)
     have hld:∀ j,j<6→load1 2 (0+i*6+j) S=L[i].c[j]?:=fun j hj=>by rw [Zou,Ob hrow hlt' hj,hgx]
     have hsto:∀ b:Bool,storeAt 2 (0+i*6+5) [.bool b] S=some (S.put 2 (.row 66 (Ai ((CP st L (i+1)).set i { L[i] with home:=b })))):=fun b=>by
      rw [Zou];exact TJ hrow hlt' (by decide) (by rw [hgx];rfl)
     have hstep:=UP (st:=st) hlt
     have hsame:=Zfm (st:=st) hlt
     have hFs:=Zio (st:=st) hlt
     have fin:∀ t s,t.get 2=some (.int .i64 st)→t.get 6=some (.ptr 0 0)→t.get 8=some (.ptr 1 0)→t.get 12=some (.bool (hF st L i))→t.get 13=some (.int .i64 ((i:Int)-1))→s.get 0=some (.row 31 BH)→s.get 1=some (.row 82 (Ring.cs ⟨⟨ag,sq,tl,us,L⟩,c⟩ (.sl 2 0 L.length none)))→s.get 2=some (.row 66 (Ai (CP st L i)))→
      ∃ j',j'≤L.length∧j'<i+1∧∃ rs,Abs t s [(2,.int .i64 st),(6,.ptr 0 0),(8,.ptr 1 0),(12,.bool (hF st L j')),(13,.int .i64 ((j':Int)-1))] [.row 31 BH,.row 82 (Ring.cs ⟨⟨ag,sq,tl,us,L⟩,c⟩ (.sl 2 0 L.length none)),.row 66 (Ai (CP st L j'))] rs:=by
      intro t s h2 h6 h8 h12 h13 g0 g1 g2
      refine ⟨i,by omega,by omega,[0,1,2],⟨by decide,⟨⟨rfl,h2⟩,⟨rfl,h6⟩,⟨rfl,h8⟩,⟨rfl,h12⟩,⟨rfl,h13⟩,trivial⟩,⟨⟨rfl,g0⟩,⟨rfl,g1⟩,⟨Dd _ (Cq _),?_⟩,trivial⟩⟩⟩
      show _=some (AObj.row 66 (At _ (Ai (CP st L i))));rw [Dc _ (Cq _)];exact g2
     rw [← hS]
     revert hld hsto hstep hsame hFs
     generalize L[i]=x
     obtain ⟨xq,xs,xb,pa,su,ho⟩:=x
     intro hld hsto hstep hsame hFs
     have l1:load1 2 (0+i*6+1) S=some (.int .i64 xs):=hld 1 (by decide)
     have l3:load1 2 (0+i*6+3) S=some (.bool pa):=hld 3 (by decide)
     have l4:load1 2 (0+i*6+4) S=some (.bool su):=hld 4 (by decide)
     have l5:load1 2 (0+i*6+5) S=some (.bool ho):=hld 5 (by decide)
     have g0:S.get 0=some (.row 31 BH):=by rw [hS];rfl
     have g1:S.get 1=some (.row 82 (Ring.cs ⟨⟨ag,sq,tl,us,L⟩,c⟩ (.sl 2 0 L.length none))):=by rw [hS];rfl
     revert hFs
     generalize hF st L (i+1)=is
     intro hFs
     by_cases hxs:xs=st
     ·subst hxs
      have hX:Dq xs L i ⟨xq,xs,xb,pa,su,ho⟩=⟨xq,xs,xb,pa,su,ho || hF xs L i⟩:=by unfold Dq;rw [Zoj rfl]
      rw [hX] at hstep
      have fin2:=fun (t:AT) (b:Bool) (hb:b=(ho || hF xs L i)) (h2:t.get 2=some (.int .i64 xs)) (h6:t.get 6=some (.ptr 0 0)) (h8:t.get 8=some (.ptr 1 0)) (h12:t.get 12=some (.bool (hF xs L i))) (h13:t.get 13=some (.int .i64 ((i:Int)-1)))=>fin t (S.put 2 (.row 66 (Ai ((CP xs L (i+1)).set i ⟨xq,xs,xb,pa,su,b⟩)))) h2 h6 h8 h12 h13 (by rw [DJ (by decide)];exact g0) (by rw [DJ (by decide)];exact g1) (by rw [Fj (by decide),hb,hstep])
      have hFi:hF xs L i=((pa && (su && !ho)) || is):=by rw [hFs];unfold JE;rw [Zok rfl];rfl
      rw [hFi] at fin2
      cases ho
      all_goals
       conv=>whnf
       repeat' (first|(refine AP _ l1 ?_;conv=>whnf)|(refine AP _ l3 ?_;conv=>whnf)|(refine AP _ l4 ?_;conv=>whnf)|(refine AP _ l5 ?_;conv=>whnf)|(refine AP _ (hsto _) ?_;conv=>whnf)|((refine w6 rfl rfl ?_ ?_) <;> intro _ <;> first|(exfalso;omega)|(conv=>whnf))|((first|refine w8 rfl rfl (by omega) ?_|refine w12 rfl ?_|refine w13 rfl ?_|refine ⟨rfl,?_⟩);conv=>whnf)|(refine w19 rfl ?_ ?_ <;> intro hc <;> (try subst hc) <;> conv=>whnf))
      all_goals first
       | (refine fin2 _ _ ?_ ?_ ?_ ?_ ?_ ?_ <;> first|rfl|(simp;done)|(cases pa <;> rfl)|(cases su <;> rfl)|(cases pa <;> cases su <;> rfl))
     ·have hX:=hsame hxs
      have hFi:hF st L i=is:=by rw [hFs];unfold JE;rw [Zow hxs];rfl
      conv=>whnf
      repeat' (first|(refine AP _ l1 ?_;conv=>whnf)|((refine w6 rfl rfl ?_ ?_) <;> intro _ <;> first|(exfalso;omega)|(conv=>whnf))|((first|refine w8 rfl rfl (by omega) ?_|refine ⟨rfl,?_⟩);conv=>whnf)|fail)
      refine fin _ _ ?_ ?_ ?_ ?_ ?_ ?_ ?_ ?_
      iterate 3 rfl
      ·rw [hFi];rfl
      ·rfl
      ·exact g0
      ·exact g1
      ·rw [← hX];exact hrow
    ·have:j=0:=by omega
     subst this
     cases hh:hF st L 0 <;> conv=>whnf
     ·repeat' (first|(refine w13 rfl ?_;conv=>whnf)|fail)
      rw [Zon (by rw [← hL,hh];simp)]
      exact .plain _ rfl
     ·repeat' (first|(refine w12 rfl ?_;conv=>whnf)|fail)
      rw [Zoj (by rw [← hL,hh])]
      have e1:CC (.fz (M.length+1) cp (Ai (y::M))) (CI st (y::M))=.fz L.length none (Ai (CP st L 0)):=by
       have h1:(CI st (y::M)).length=M.length+1:=by unfold CI;rw [Iv];rfl
       cases hq:CI st (y::M) with
       | nil=>rw [hq] at h1;cases h1
       | cons a b=>rw [hq] at h1;rw [← show CI st L=CP st L 0 from rfl,hL,hq];show AV.fz (a::b).length none _=_;rw [h1];rfl
      show Frz _ _ (.tup [.agg [.int .u32 ag,.int .u32 sq,.int .i64 tl,.int .i64 us,CC (.fz (M.length+1) cp (Ai (y::M))) (CI st (y::M))],.int .i64 0])
      rw [e1]
      exact O6 (KD rfl) 0
  ·have hIn':¬ (0≤st∧st<x.c.chunk*x.c.rows):=hIn
   rw [show FO ⟨x,st⟩=.tup [.agg BH,.int .i64 2] by unfold FO;rw [Zoj hG,Zon hIn]]
   have hstr:∀ s k,k (.tup [.int .i64 (x.c.chunk*x.c.rows),.int .i64 0]) s→ESc e 51 [.agg x.c.c] s k:=fun s k hk=>ESc.fam stripesF h38 x.c hx.c (by simp [stripesF,hM]) hk
   obtain ⟨c,⟨ag,sq,tl,us,L⟩,v⟩:=x
   have hv:=hx.v
   dsimp only at hv hlen hIn' hstr ⊢
   conv=>whnf
   refine ESc.ov h80 (hon _) ?_
   rcases hv.cases with ⟨rfl,rfl⟩|⟨rfl,rfl⟩|⟨rfl,cp,rfl⟩|⟨y,M,cp,rfl,rfl⟩
   all_goals
    conv=>whnf
    repeat' (first|(refine hstr _ _ ?_;conv=>whnf)|((first|refine w1 rfl rfl ?_ ?_|refine w4 rfl rfl ?_ ?_|refine w6 rfl rfl ?_ ?_) <;> intro _ <;> first|(exfalso;omega)|(conv=>whnf))|fail)
   all_goals exact .plain _ rfl
 ·rw [show FO ⟨x,st⟩=.tup [.agg BH,.int .i64 8] by unfold FO;rw [Zon hG]]
  conv=>whnf
  refine ESc.ov h80 ((Ha hx _).trans (Zon hG)) ?_;conv=>whnf
  repeat' (first|((refine w6 rfl rfl ?_ ?_) <;> intro _ <;> first|(exfalso;omega)|(conv=>whnf))|fail)
  exact .plain _ rfl
end Go.AM
namespace Go.AM
def A1 (L:List Lv):Int:=(L.map Lv.blocks).foldr (·+·) 0
theorem Gv (x:Lv) (L:List Lv):A1 (x::L)=x.blocks+A1 L:=rfl
theorem SW {r:Ring}:∀ {l:List Lv}{i:Nat}{u:Int}{s:Bool}{u':Int},Ev r i u s l=some u'→
 u'=u+A1 l∧∀ (k:Nat) (x:Lv),l[k]?=some x→∃ s',¬ Fw r (i+k) s' x∧s'=(if k=0 then s else (l[k-1]?.map Lv.sure).getD s)
 | [],i,u,s,u',h=>by
  injection h with h
  exact ⟨by rw [← h];show u=u+0;omega,fun k x hk=>by simp at hk⟩
 | y::l,i,u,s,u',h=>by
  unfold Ev at h
  split at h
  ·cases h
  ·rename_i hb
   obtain ⟨h1,h2⟩:=SW h
   refine ⟨by rw [h1,Gv];omega,fun k x hk=>?_⟩
   cases k with
   | zero=>simp at hk;subst hk;exact ⟨s,hb,by simp⟩
   | succ k=>
    obtain ⟨s',g1,g2⟩:=h2 k x (by simpa using hk)
    refine ⟨s',by rw [show i+(k+1)=i+1+k by omega];exact g1,?_⟩
    rw [g2]
    cases k with
    | zero=>simp
    | succ k=>
     have hlt:k+1<l.length:=(Zog.1 (show l[k+1]?=some x by simpa using hk)).1
     have hz:l[k]?=some l[k]:=Zof (by omega)
     show (if k+1=0 then y.sure else (l[k]?.map Lv.sure).getD y.sure)=if k+1+1=0 then s else (l[k]?.map Lv.sure).getD s
     rw [hz,Zon (by omega),Zon (by omega)];rfl
structure GoodR (r:Ring):Prop where
 age:1≤r.l.age∧r.l.age≤2147483648
 seq:1≤r.l.seq∧r.l.seq≤2147483648
 tail:0≤r.l.tail∧r.l.tail<r.c.log
 len:(r.l.live.length:Int)≤r.c.log
 used:r.l.used≤r.c.log
 sum:r.l.used=A1 r.l.live
 more:(r.l.live.length:Int)<r.l.seq
 homes:De r.l.live=true
 room:BZ r=true
 lv:∀ (k:Nat) (x:Lv),r.l.live[k]?=some x→(0≤x.stripe∧x.stripe<r.c.chunk*r.c.rows)∧(2≤x.blocks∧x.blocks≤r.c.members+1)∧x.seq=r.l.seq-((r.l.live.length:Int)-k)∧
  (x.sure=true→k=0∨∃ y,r.l.live[k-1]?=some y∧y.sure=true)
variable {r:Ring}
theorem Of (h:Ee r=true):GoodR r:=by
 unfold Ee at h
 rw [Zoh] at h
 obtain ⟨hT,h⟩:=h
 have hT:=Zpw hT
 unfold Gf CO at hT
 simp only [Zpc] at hT
 split at h
 ·cases h
 ·rename_i u hu
  simp only [Zoh,Zpc] at h
  obtain ⟨⟨⟨h1,h2⟩,h3⟩,h4⟩:=h
  obtain ⟨g1,g2⟩:=SW hu
  refine ⟨hT.1,hT.2.1,⟨hT.2.2.1,hT.2.2.2.1⟩,hT.2.2.2.2.1,hT.2.2.2.2.2,by omega,h2,h3,h4,fun k x hk=>?_⟩
  obtain ⟨s',b1,b2⟩:=g2 k x hk
  unfold Fw at b1
  have hkl:=(Zog.1 hk).1
  rw [Zou] at b1
  have hm:(r.l.seq-((r.l.live.length:Int)-k)) % 4294967296=r.l.seq-((r.l.live.length:Int)-k):=Int.emod_eq_of_lt (by omega) (by omega)
  rw [hm] at b1
  refine ⟨by omega,by omega,by omega,fun hs=>?_⟩
  by_cases hk0:k=0
  ·exact .inl hk0
  ·rw [Zon hk0] at b2
   right
   cases hq:r.l.live[k-1]? with
   | none=>rw [List.getElem?_eq_none_iff] at hq;omega
   | some y=>
    rw [hq] at b2
    refine ⟨y,rfl,?_⟩
    cases hy:y.sure with
    | true=>rfl
    | false=>exfalso;apply b1;simp [hs,b2,hy]
theorem TN {r:Ring}:∀ {l:List Lv}{i:Nat}{u:Int}{s:Bool},(∀ (k:Nat) (x:Lv),l[k]?=some x→¬ Fw r (i+k) (if k=0 then s else (l[k-1]?.map Lv.sure).getD s) x)→Ev r i u s l=some (u+A1 l)
 | [],i,u,s,_=>by show some u=some (u+0);rw [Int.add_zero]
 | y::l,i,u,s,h=>by
  unfold Ev
  rw [Zon (by simpa using h 0 y rfl),TN (fun k x hk=>?_),Gv,Int.add_assoc]
  have:=h (k+1) x (by simpa using hk)
  rw [show i+1+k=i+(k+1) by omega]
  cases k with
  | zero=>simpa using this
  | succ k=>
   have hlt:k+1<l.length:=(Zog.1 hk).1
   have hz:l[k]?=some l[k]:=Zof (by omega)
   have e1:(if k+1+1=0 then s else (l[k]?.map Lv.sure).getD s)=(if k+1=0 then y.sure else (l[k]?.map Lv.sure).getD y.sure):=by
    rw [hz,Zon (by omega),Zon (by omega)];rfl
   have this:¬ Fw r (i+(k+1+1)) (if k+1+1=0 then s else (l[k]?.map Lv.sure).getD s) x:=this
   rw [e1] at this
   exact this
theorem Zh2 (h:GoodR r):Ee r=true:=by
 have hT:Gf r:=by
  unfold Gf CO
  exact ⟨Zok h.age,Zok h.seq,h.tail.1,h.tail.2,h.len,h.used⟩
 have hm:=h.more
 have hsq:=h.seq
 have hR:Ev r 0 0 true r.l.live=some (0+A1 r.l.live):=by
  refine TN fun k x hk=>?_
  obtain ⟨h1,h2,h3,h4⟩:=h.lv k x hk
  have hkl:=(Zog.1 hk).1
  unfold Fw
  rw [Zou]
  have hmod:(r.l.seq-((r.l.live.length:Int)-k)) % 4294967296=r.l.seq-((r.l.live.length:Int)-k):=Int.emod_eq_of_lt (by omega) (by omega)
  rw [hmod]
  rintro (a|a|a|a|a|a|⟨a,b⟩)
  ·omega
  ·omega
  ·omega
  ·omega
  ·omega
  ·exact a h3
  ·rcases h4 a with h0|⟨y,hy,hys⟩
   ·rw [Zoj h0] at b;cases b
   ·by_cases hk0:k=0
    ·rw [Zoj hk0] at b;cases b
    ·rw [Zon hk0,hy] at b;simp [hys] at b
 unfold Ee
 rw [Zok hT,hR]
 simp only [Int.zero_add,Bool.true_and,Zoh,Zpc]
 exact ⟨⟨⟨h.sum.symm,h.more⟩,h.homes⟩,h.room⟩
def G3 (s:Int):List Lv→Option Bool
 | []=>none
 | x::l=>match G3 s l with
  | some b=>some b
  | none=>if x.stripe=s then some x.par else none
theorem PK (s:Int) (x:Lv):∀ (L:List Lv),G3 s (L++[x])=if x.stripe=s then some x.par else G3 s L
 | []=>by simp [G3]
 | y::L=>by
  show (match G3 s (L++[x]) with|some b=>some b|none=>if y.stripe=s then some y.par else none)=_
  rw [PK s x L]
  by_cases h:x.stripe=s
  ·simp [h]
  ·simp only [Zon h];rfl
theorem SC {s:Int}{b:Bool}:∀ (A:List Lv) {M:List Lv},G3 s M=some b→G3 s (A++M)=some b
 | [],M,h=>h
 | x::A,M,h=>by
  show (match G3 s (A++M) with|some b=>some b|none=>if x.stripe=s then some x.par else none)=_
  rw [SC A h]
theorem Z6 (L:List Lv) (x:Lv):Cr (L++[x])=F0 (Cr L) x:=by unfold Cr;rw [List.foldl_append];rfl
variable {k:Int}{l:List Int}
theorem QH {a:Int}:a ∈ FB k l↔a ∈ l∨a=k:=by
 unfold FB
 split
 ·rename_i h
  constructor
  ·exact .inl
  ·rintro (h'|rfl)
   ·exact h'
   ·exact h
 ·simp
theorem Zat (h:l.Nodup):(FB k l).Nodup:=by
 unfold FB
 split
 ·exact h
 ·rename_i hk
  rw [List.nodup_append]
  exact ⟨h,by simp,by rintro a ha b hb rfl;simp at hb;subst hb;exact hk ha⟩
theorem Zhf {p:List Lv→Prop}(h0:p []) (h1:∀ L x,p L→p (L++[x])):∀ L,p L:=by
 intro L
 have:∀ (n:Nat) (L:List Lv),L.length=n→p L:=by
  intro n
  induction n with
  | zero=>intro L hL;rw [Zpd.1 hL];exact h0
  | succ n ih=>
   intro L hL
   rcases List.eq_nil_or_concat L with rfl|⟨M,x,rfl⟩
   ·exact h0
   ·rw [List.concat_eq_append];exact h1 M x (ih M (by simpa using hL))
 exact this L.length L rfl
theorem PW (L:List Lv):(Cr L).Nodup∧∀ s,s ∈ Cr L↔G3 s L=some false:=by
 refine Zhf (p:=fun L=>(Cr L).Nodup∧∀ s,s ∈ Cr L↔G3 s L=some false) ?_ ?_ L
 ·exact ⟨by simp [Cr],fun s=>by simp [Cr,G3]⟩
 ·rintro L x ⟨hn,hm⟩
  rw [Z6]
  unfold F0
  have hn':=Zat (k:=x.stripe) hn
  by_cases hp:x.par=true
  ·rw [Zoj hp]
   refine ⟨hn'.erase _,fun s=>?_⟩
   rw [PK,hn'.mem_erase_iff,QH,hm,hp]
   by_cases h:x.stripe=s
   ·subst h;simp
   ·rw [Zon h]
    constructor
    ·rintro ⟨_,h1|h1⟩
     ·exact h1
     ·exact absurd h1.symm h
    ·intro h1;exact ⟨fun e=>h e.symm,.inl h1⟩
  ·rw [Zon hp]
   refine ⟨hn',fun s=>?_⟩
   rw [PK,QH,hm]
   have hp':x.par=false:=by simpa using hp
   by_cases h:x.stripe=s
   ·subst h;simp [hp']
   ·rw [Zon h]
    constructor
    ·rintro (h1|h1)
     ·exact h1
     ·exact absurd h1.symm h
    ·exact .inl
theorem TV:∀ {l m:List Int},l.Nodup→(∀ x ∈ l,x ∈ m)→l.length≤m.length
 | [],m,_,_=>Zoy _
 | x::l,m,hn,h=>by
  have hx:=h x (by simp)
  rw [List.nodup_cons] at hn
  have:=TV (l:=l) (m:=m.erase x) hn.2 (fun y hy=>(List.mem_erase_of_ne (fun (e:y=x)=>hn.1 (by rw [← e];exact hy))).2 (h y (by simp [hy])))
  rw [List.length_erase_of_mem hx] at this
  have:=List.length_pos_of_mem hx
  simp;omega
theorem Ze (A M:List Lv):(Cr M).length≤(Cr (A++M)).length:=
 TV (PW M).1 fun x hx=>((PW (A++M)).2 x).2 (SC A (((PW M).2 x).1 hx))
theorem Tz:∀ {p q:List Lv}{tk:List Int},Fq (p++q) tk=true→Fq p tk=true
 | [],q,tk,_=>rfl
 | x::p,q,tk,h=>by
  have h:(!Gj tk x && Fq (p++q) (Fy tk x))=true:=h
  rw [Zoh] at h
  show (!Gj tk x && Fq p (Fy tk x))=true
  rw [h.1,Tz h.2];rfl
variable {M:List Lv}
theorem Zc {A:List Lv}(h:De (A++M)=true):De M=true:=by
 unfold De at h ⊢
 rw [List.reverse_append] at h
 exact Tz h
theorem H7 (A M:List Lv):A1 (A++M)=A1 A+A1 M:=by
 induction A with
 | nil=>show A1 M=0+A1 M;omega
 | cons x A ih=>rw [List.cons_append,Gv,Gv,ih];omega
def Ay:List Lv→Nat
 | []=>0
 | x::l=>if x.home then Ay l+1 else 0
theorem Mw:∀ (L:List Lv),Ay L≤L.length
 | []=>Zo0 _
 | x::l=>by unfold Ay;have:=Mw l;split <;> simp <;> omega
theorem QG:∀ {L:List Lv}{j:Nat}(h:j<L.length),j≤Ay L→(L[j].home=true↔j<Ay L)
 | [],j,h,_=>by simp at h
 | x::l,0,h,_=>by
  show x.home=true↔0<(if x.home then Ay l+1 else 0)
  split <;> simp_all
 | x::l,j+1,h,hj=>by
  have e:Ay (x::l)=if x.home then Ay l+1 else 0:=rfl
  rw [e] at hj ⊢
  split at hj
  ·rename_i hx
   rw [Zoj hx]
   have:=QG (L:=l) (j:=j) (by simpa using h) (by omega)
   simp only [List.getElem_cons_succ]
   rw [this];omega
  ·omega
def BP (log tail:Int) (L:List Lv):Nat→Int
 | 0=>tail
 | j+1=>(BP log tail L j+((L[j]?.map Lv.blocks).getD 0)) % log
def C7 (used:Int) (L:List Lv) (j:Nat):Int:=used-A1 (L.take j)
theorem I6:∀ {A:List Lv},(∀ x ∈ A,2≤x.blocks∧x.blocks≤17)→0≤A1 A∧A1 A≤17*(A.length:Int)
 | [],_=>by simp [A1]
 | x::A,h=>by
  have h1:=h x (by simp)
  have h2:=I6 (A:=A) (fun y hy=>h y (by simp [hy]))
  rw [Gv,Zo9]
  push_cast
  omega
variable {us:Int}{L:List Lv}{j:Nat}
theorem Ze9 (h:j<L.length):C7 us L (j+1)=C7 us L j-L[j].blocks:=by
 unfold C7
 rw [Zos h,H7]
 show us-(_+(L[j].blocks+0))=_
 omega
theorem Mk (hM:r.c.may) (h:GoodR r):∀ x ∈ r.l.live,2≤x.blocks∧x.blocks≤17:=by
 intro x hx
 obtain ⟨k,hk⟩:=Zp7 hx
 have:=(h.lv k x hk).2.1
 unfold Cfg.may at hM
 omega
variable {c:Cfg}{ag sq tl:Int}
theorem Zc2 (hM:c.may) (h:GoodR ⟨⟨ag,sq,tl,us,L⟩,c⟩) (k:Nat) (hk:k≤L.length) (t:Int) (ht:0≤t∧t<c.log):GoodR ⟨⟨ag,sq,t,C7 us L k,L.drop k⟩,c⟩:=by
 have hb:=Mk hM h
 have hlog:=Eo hM
 have h1:=I6 (A:=L.take k) (fun x hx=>hb x (Zpm hx))
 have h2:=I6 (A:=L.drop k) (fun x hx=>hb x (Zpr hx))
 have hs:us=A1 L:=h.sum
 have hst:A1 (L.take k)+A1 (L.drop k)=A1 L:=by rw [← H7,List.take_append_drop]
 have hus:us≤c.log:=h.used
 have hlen:(L.length:Int)≤c.log:=h.len
 have hmore:(L.length:Int)<sq:=h.more
 have hU:C7 us L k=A1 (L.drop k):=by unfold C7;omega
 have hrm:BZ ⟨⟨ag,sq,tl,us,L⟩,c⟩=true:=h.room
 refine ⟨h.age,h.seq,ht,?_,?_,hU,?_,?_,?_,?_⟩
 ·show ((L.drop k).length:Int)≤c.log
  simp;omega
 ·show C7 us L k≤c.log
  unfold C7;omega
 ·show ((L.drop k).length:Int)<sq
  simp;omega
 ·have:=h.homes
  have e:De (L.take k++L.drop k)=true:=by rw [List.take_append_drop];exact this
  exact Zc e
 ·have hd:=Ze (L.take k) (L.drop k)
  rw [List.take_append_drop] at hd
  unfold BZ at hrm ⊢
  simp only [Zoh,Zpc] at hrm ⊢
  obtain ⟨r1,r2⟩:=hrm
  have hM':=hM
  unfold Cfg.may at hM'
  have w1:IntKind.i64.wrap (c.log-us)=c.log-us:=i64_in (by omega)
  have hUb:0≤C7 us L k∧C7 us L k≤us:=by unfold C7;omega
  have w2:IntKind.i64.wrap (c.log-C7 us L k)=c.log-C7 us L k:=i64_in (by omega)
  rw [w1] at r2
  refine ⟨by omega,?_⟩
  rw [w2]
  have hmul:(c.members+1)*((Cr (L.drop k)).length:Int)≤(c.members+1)*((Cr L).length:Int):=Int.mul_le_mul_of_nonneg_left (by omega) (by omega)
  have r2':(c.members+1)*((Cr L).length:Int)≤c.log-us:=r2
  omega
 ·intro i x hx
  rw [Zoq] at hx
  obtain ⟨g1,g2,g3,g4⟩:=h.lv (k+i) x hx
  have hki:=(Zog.1 hx).1
  refine ⟨g1,g2,?_,fun hsu=>?_⟩
  ·show x.seq=sq-(((L.drop k).length:Int)-i)
   have g3':x.seq=sq-((L.length:Int)-((k+i:Nat):Int)):=g3
   have hki':k+i<L.length:=hki
   simp;omega
  ·rcases Nat.eq_zero_or_pos i with h0|h0
   ·exact .inl h0
   ·rcases g4 hsu with g|⟨y,hy,hys⟩
    ·omega
    ·refine .inr ⟨y,?_,hys⟩
     rw [Zoq,show k+(i-1)=k+i-1 by omega];exact hy
def JP (x:Lv):Int×Bool:=(x.stripe,x.par)
theorem Ul:∀ {L M:List Lv}{l:List Int},L.map JP=M.map JP→L.foldl F0 l=M.foldl F0 l
 | [],[],l,_=>rfl
 | [],_::_,l,h=>by simp at h
 | _::_,[],l,h=>by simp at h
 | x::L,y::M,l,h=>by
  simp only [Zpv,List.cons.injEq] at h
  have h1:x.stripe=y.stripe:=congrArg Prod.fst h.1
  have h2:x.par=y.par:=congrArg Prod.snd h.1
  simp only [List.foldl_cons]
  rw [show F0 l x=F0 l y by unfold F0;rw [h1,h2]]
  exact Ul h.2
theorem Zas (h:L.map JP=M.map JP):Cr L=Cr M:=Ul h
def Xy (x:Lv) (l:List Lv):Prop:=∃ y ∈ l,y.stripe=x.stripe∧y.home=true∧y.par=true
theorem T0:∀ {M:List Lv}{tk:List Int},Fq M tk=true↔∀ (B:List Lv) (x:Lv) (A:List Lv),M=B++x::A→x.home=true→x.sure=true∧(x.stripe ∈ tk∨Xy x (B++[x]))
 | [],tk=>by
  constructor
  ·intro _ B x A h;simp at h
  ·intro _;rfl
 | z::M,tk=>by
  have e:Fq (z::M) tk=(!Gj tk z && Fq M (Fy tk z)):=rfl
  rw [e,Zoh,T0]
  have ht:∀ a,a ∈ Fy tk z↔a ∈ tk∨(a=z.stripe∧z.home=true∧z.par=true):=by
   intro a
   unfold Fy
   split
   ·rename_i hc
    simp only [Zoh] at hc
    rw [QH];simp [hc]
   ·rename_i hc
    simp only [Zoh] at hc
    constructor
    ·exact .inl
    ·rintro (h|⟨_,h⟩)
     ·exact h
     ·exact absurd h hc
  constructor
  ·rintro ⟨h1,h2⟩ B x A hM hx
   cases B with
   | nil=>
    simp at hM
    obtain ⟨rfl,rfl⟩:=hM
    unfold Gj at h1
    rw [hx] at h1
    simp only [Bool.true_and,Bool.not_or,Bool.not_not,Zoh,Zpc] at h1
    refine ⟨h1.1,?_⟩
    rcases (ht _).1 h1.2 with h|⟨_,h3,h4⟩
    ·exact .inl h
    ·exact .inr ⟨z,by simp,rfl,h3,h4⟩
   | cons b B=>
    simp only [List.cons_append,List.cons.injEq] at hM
    obtain ⟨rfl,rfl⟩:=hM
    obtain ⟨g1,g2⟩:=h2 B x A rfl hx
    refine ⟨g1,?_⟩
    rcases g2 with g2|⟨y,hy,q⟩
    ·rcases (ht _).1 g2 with h|⟨h3,h4,h5⟩
     ·exact .inl h
     ·exact .inr ⟨z,by simp,h3.symm,h4,h5⟩
    ·exact .inr ⟨y,by simp at hy ⊢;exact .inr hy,q⟩
  ·intro h
   constructor
   ·unfold Gj
    cases hz:z.home with
    | false=>rfl
    | true=>
     obtain ⟨g1,g2⟩:=h [] z M rfl hz
     simp only [Bool.true_and,Bool.not_or,Bool.not_not,Zoh,Zpc]
     refine ⟨g1,(ht _).2 ?_⟩
     rcases g2 with g2|⟨y,hy,q1,q2,q3⟩
     ·exact .inl g2
     ·simp at hy;subst hy;exact .inr ⟨rfl,q2,q3⟩
   ·intro B x A hM hx
    obtain ⟨g1,g2⟩:=h (z::B) x A (by rw [hM];rfl) hx
    refine ⟨g1,?_⟩
    rcases g2 with g2|⟨y,hy,q1,q2,q3⟩
    ·exact .inl ((ht _).2 (.inl g2))
    ·simp at hy
     rcases hy with rfl|hy
     ·exact .inl ((ht _).2 (.inr ⟨q1.symm,q2,q3⟩))
     ·exact .inr ⟨y,by simpa using hy,q1,q2,q3⟩
theorem Zaj:De L=true↔∀ (A:List Lv) (x:Lv) (B:List Lv),L=A++x::B→x.home=true→x.sure=true∧Xy x (x::B):=by
 unfold De
 rw [T0]
 constructor
 ·intro h A x B hL hx
  obtain ⟨g1,g2⟩:=h B.reverse x A.reverse (by rw [hL];simp) hx
  refine ⟨g1,?_⟩
  rcases g2 with g2|⟨y,hy,q⟩
  ·simp at g2
  ·refine ⟨y,?_,q⟩
   simp at hy ⊢
   rcases hy with h|h
   ·exact .inr h
   ·exact .inl h
 ·intro h B x A hL hx
  have hL':L=A.reverse++x::B.reverse:=by
   have:=congrArg List.reverse hL
   simp at this;exact this
  obtain ⟨g1,y,hy,q⟩:=h _ x _ hL' hx
  refine ⟨g1,.inr ⟨y,?_,q⟩⟩
  simp at hy ⊢
  rcases hy with h|h
  ·exact .inr h
  ·exact .inl h
theorem homesB_at:De L=true↔∀ (k:Nat) (x:Lv),L[k]?=some x→x.home=true→x.sure=true∧∃ (j:Nat) (y:Lv),k≤j∧L[j]?=some y∧y.stripe=x.stripe∧y.home=true∧y.par=true:=by
 rw [Zaj]
 constructor
 ·intro h k x hk hx
  have hkl:=(Zog.1 hk)
  obtain ⟨hlt,he⟩:=hkl
  have hL:L=L.take k++x::L.drop (k+1):=by
   rw [← he,← Zo2 hlt,List.take_append_drop]
  obtain ⟨g1,y,hy,q⟩:=h _ x _ hL hx
  refine ⟨g1,?_⟩
  rw [← he,← Zo2 hlt] at hy
  obtain ⟨i,hi⟩:=Zp7 hy
  rw [Zoq] at hi
  exact ⟨k+i,y,by omega,hi,q⟩
 ·intro h A x B hL hx
  obtain ⟨g1,j,y,hj,hy,q⟩:=h A.length x (by rw [hL];simp) hx
  refine ⟨g1,y,?_,q⟩
  rw [hL,Zpa hj] at hy
  exact Zo1 hy
structure Alike (L M:List Lv):Prop where
 len:M.length=L.length
 at_:∀ (k:Nat) (x y:Lv),L[k]?=some x→M[k]?=some y→y.seq=x.seq∧y.stripe=x.stripe∧y.blocks=x.blocks∧y.par=x.par
theorem Alike.key (h:Alike L M):M.map JP=L.map JP:=by
 refine List.ext_getElem? fun k=>?_
 rw [Zpe,Zpe]
 by_cases hk:k<L.length
 ·have h1:=Zof hk
  have h2:=Zof (l:=M) (i:=k) (by rw [h.len];exact hk)
  obtain ⟨_,g1,_,g2⟩:=h.at_ k _ _ h1 h2
  rw [h1,h2]
  simp [JP,g1,g2]
 ·rw [Zqi (l:=M) (by rw [h.len];omega),Zqi (l:=L) (by omega)]
theorem Alike.sum:∀ {L M:List Lv},Alike L M→A1 M=A1 L
 | [],[],_=>rfl
 | [],_::_,h=>by have:=h.len;simp at this
 | _::_,[],h=>by have:=h.len;simp at this
 | x::L,y::M,h=>by
  have h1:=h.at_ 0 x y rfl rfl
  have h2:Alike L M:=⟨by have:=h.len;simpa using this,fun k a b ha hb=>h.at_ (k+1) a b (by simpa using ha) (by simpa using hb)⟩
  rw [Gv,Gv,Alike.sum h2,h1.2.2.1]
theorem T1 (h:GoodR ⟨⟨ag,sq,tl,us,L⟩,c⟩) (hA:Alike L M) (hH:De M=true) (hs:∀ (k:Nat) (y:Lv),M[k]?=some y→y.sure=true→k=0∨∃ z,M[k-1]?=some z∧z.sure=true):GoodR ⟨⟨ag,sq,tl,us,M⟩,c⟩:=by
 have hl:=hA.len
 refine ⟨h.age,h.seq,h.tail,?_,h.used,?_,?_,hH,?_,?_⟩
 ·have:=h.len;dsimp only at this ⊢;omega
 ·show us=A1 M
  rw [hA.sum];exact h.sum
 ·have:=h.more;dsimp only at this ⊢;omega
 ·have:=h.room
  unfold BZ at this ⊢
  dsimp only at this ⊢
  rw [Zas hA.key];exact this
 ·intro k y hy
  dsimp only at hy ⊢
  have hk:=(Zog.1 hy).1
  have hx:=Zof (l:=L) (i:=k) (by omega)
  obtain ⟨g1,g2,g3,_⟩:=h.lv k _ hx
  obtain ⟨q1,q2,q3,q4⟩:=hA.at_ k _ y hx hy
  dsimp only at g1 g2 g3
  rw [q1,q2,q3]
  exact ⟨g1,g2,by rw [hl];exact g3,hs k y hy⟩
theorem Th (L:List Lv):Alike L (L.map Lv.flush):=⟨by simp,fun k x y hx hy=>by
 rw [Zpe,hx] at hy
 cases hy;exact ⟨rfl,rfl,rfl,rfl⟩⟩
theorem Zal (h:GoodR ⟨⟨ag,sq,tl,us,L⟩,c⟩):GoodR ⟨⟨ag,sq,tl,us,L.map Lv.flush⟩,c⟩:=by
 refine T1 h (Th L) ?_ ?_
 ·have:=homesB_at.1 h.homes
  refine homesB_at.2 fun k x hk hx=>?_
  rw [Zpe] at hk
  cases hq:L[k]? with
  | none=>rw [hq] at hk;cases hk
  | some z=>
   rw [hq] at hk;cases hk
   refine ⟨rfl,?_⟩
   obtain ⟨_,j,y,g1,g2,g3,g4,g5⟩:=this k z hq hx
   exact ⟨j,y.flush,g1,by rw [Zpe,g2];rfl,g3,g4,g5⟩
 ·intro k y hy _
  by_cases h0:k=0
  ·exact .inl h0
  ·refine .inr ?_
   have hk:=(Zog.1 hy).1
   rw [Zom] at hk
   exact ⟨_,by rw [Zpe,Zof (l:=L) (i:=k-1) (by omega)];rfl,rfl⟩
theorem HD (st:Int) (L:List Lv) (k:Nat):(CI st L)[k]?=L[k]?.map (Dq st L k):=by
 unfold CI CP
 rw [List.getElem?_mapIdx]
 simp
theorem GV (st:Int) (L:List Lv) (k:Nat) (x:Lv):(Dq st L k x).seq=x.seq∧(Dq st L k x).stripe=x.stripe∧(Dq st L k x).blocks=x.blocks∧(Dq st L k x).par=x.par∧(Dq st L k x).sure=x.sure:=by
 unfold Dq;split <;> exact ⟨rfl,rfl,rfl,rfl,rfl⟩
theorem T9 (st:Int) (L:List Lv):Alike L (CI st L):=⟨by unfold CI;rw [Iv],fun k x y hx hy=>by
 rw [HD,hx] at hy
 cases hy
 have:=GV st L k x
 exact ⟨this.1,this.2.1,this.2.2.1,this.2.2.2.1⟩⟩
variable {st:Int}
theorem Znx {k:Nat}(h:hF st L k=true):∃ (j:Nat) (y:Lv),k≤j∧L[j]?=some y∧JE st y=true:=by
 unfold hF at h
 obtain ⟨y,hy,hc⟩:=List.any_eq_true.1 h
 obtain ⟨i,hi⟩:=Zp7 hy
 rw [Zoq] at hi
 exact ⟨k+i,y,by omega,hi,hc⟩
theorem Znw {k:Nat}{y:Lv}(hkj:k≤j) (hy:L[j]?=some y) (hc:JE st y=true):hF st L k=true:=by
 unfold hF
 refine List.any_eq_true.2 ⟨y,Zo1 (i:=j-k) ?_,hc⟩
 rw [Zoq,show k+(j-k)=j by omega];exact hy
theorem TI (h:∀ (k:Nat) (y:Lv),L[k]?=some y→y.sure=true→k=0∨∃ z,L[k-1]?=some z∧z.sure=true):∀ (d k:Nat) (x y:Lv),L[k]?=some x→L[k+d]?=some y→y.sure=true→x.sure=true
 | 0,k,x,y,hx,hy,hs=>by rw [Zpo,hx] at hy;cases hy;exact hs
 | d+1,k,x,y,hx,hy,hs=>by
  rcases h _ y hy hs with h0|⟨z,hz,hzs⟩
  ·omega
  ·exact TI h d k x z hx (by rw [show k+(d+1)-1=k+d by omega] at hz;exact hz) hzs
theorem Zc1 (st:Int) (h:GoodR ⟨⟨ag,sq,tl,us,L⟩,c⟩):GoodR ⟨⟨ag,sq,tl,us,CI st L⟩,c⟩:=by
 have hsu:∀ (k:Nat) (y:Lv),L[k]?=some y→y.sure=true→k=0∨∃ z,L[k-1]?=some z∧z.sure=true:=fun k y hy=>(h.lv k y hy).2.2.2
 refine T1 h (T9 st L) ?_ ?_
 ·have hh:=homesB_at.1 h.homes
  refine homesB_at.2 fun k x hk hx=>?_
  rw [HD] at hk
  cases hq:L[k]? with
  | none=>rw [hq] at hk;cases hk
  | some z=>
   rw [hq] at hk;cases hk
   have hsm:=GV st L k z
   rw [hsm.2.2.2.2,hsm.2.1]
   have old:z.home=true→z.sure=true∧∃ (j:Nat) (y:Lv),k≤j∧(CI st L)[j]?=some y∧y.stripe=z.stripe∧y.home=true∧y.par=true:=by
    intro hz
    obtain ⟨g0,j,y,g1,g2,g3,g4,g5⟩:=hh k z hq hz
    have hsy:=GV st L j y
    refine ⟨g0,j,Dq st L j y,g1,by rw [HD,g2];rfl,by rw [hsy.2.1];exact g3,?_,by rw [hsy.2.2.2.1];exact g5⟩
    unfold Dq;split
    ·show (y.home || _)=true;rw [g4];rfl
    ·exact g4
   by_cases hst:z.stripe=st
   ·unfold Dq at hx
    rw [Zoj hst] at hx
    have hx:(z.home || hF st L k)=true:=hx
    cases hz:z.home with
    | true=>exact old hz
    | false=>
     rw [hz,Bool.false_or] at hx
     obtain ⟨j,y,g1,g2,g3⟩:=Znx hx
     have g3':=g3
     unfold JE at g3
     simp only [Zoh,Zpc,Bool.not_eq_true'] at g3
     obtain ⟨q1,q2,q3,q4⟩:=g3
     refine ⟨TI hsu (j-k) k z y hq (by rw [show k+(j-k)=j by omega];exact g2) q3,j,Dq st L j y,g1,by rw [HD,g2];rfl,?_,?_,?_⟩
     ·rw [(GV st L j y).2.1,q1,hst]
     ·unfold Dq;rw [Zoj q1]
      show (y.home || hF st L j)=true
      rw [Znw (Zo0 j) g2 g3'];simp
     ·rw [(GV st L j y).2.2.2.1];exact q2
   ·unfold Dq at hx
    rw [Zon hst] at hx
    exact old hx
 ·intro k y hy hs
  rw [HD] at hy
  cases hq:L[k]? with
  | none=>rw [hq] at hy;cases hy
  | some z=>
   rw [hq] at hy;cases hy
   rw [(GV st L k z).2.2.2.2] at hs
   rcases hsu k z hq hs with h0|⟨w,hw,hws⟩
   ·exact .inl h0
   ·exact .inr ⟨Dq st L (k-1) w,by rw [HD,hw];rfl,by rw [(GV st L (k-1) w).2.2.2.2];exact hws⟩
def BV (sq st:Int) (n:Int) (p:Bool):Lv:=⟨sq,st,n,p,false,false⟩
theorem Zft (hM:c.may) (h:GoodR ⟨⟨ag,sq,tl,us,L⟩,c⟩) (st n:Int) (p:Bool) (hst:0≤st∧st<c.chunk*c.rows) (hn:2≤n∧n≤c.members+1) (hs:sq+1≤2147483648) (hr:BZ ⟨⟨ag,sq+1,tl,us+n,L++[BV sq st n p]⟩,c⟩=true):
 GoodR ⟨⟨ag,sq+1,tl,us+n,L++[BV sq st n p]⟩,c⟩:=by
 have hsum:us=A1 L:=h.sum
 have hS:A1 (L++[BV sq st n p])=us+n:=by
  rw [H7,hsum]
  show A1 L+(n+0)=_
  omega
 have hsq:1≤sq∧sq≤2147483648:=h.seq
 have hmore:(L.length:Int)<sq:=h.more
 have hb:∀ x ∈ L++[BV sq st n p],2≤x.blocks:=by
  intro x hx
  rcases Zo7.1 hx with hx|hx
  ·exact (Mk hM h x hx).1
  ·simp at hx;subst hx;exact hn.1
 have hlow:∀ A:List Lv,(∀ x ∈ A,2≤x.blocks)→2*(A.length:Int)≤A1 A:=by
  intro A
  induction A with
  | nil=>intro _;simp [A1]
  | cons x A ih=>
   intro hA
   have h1:=hA x (by simp)
   have h2:=ih (fun y hy=>hA y (by simp [hy]))
   rw [Gv,Zo9];push_cast;omega
 have hlw:=hlow _ hb
 rw [hS] at hlw
 have hr':=hr
 unfold BZ at hr'
 simp only [Zoh,Zpc] at hr'
 have hu:us+n≤c.log:=hr'.1
 refine ⟨h.age,⟨by dsimp only;omega,by dsimp only;omega⟩,h.tail,?_,hu,hS.symm,?_,?_,hr,?_⟩
 ·have hl0:0≤((L++[BV sq st n p]).length:Int):=Zpy _
  dsimp only;omega
 ·dsimp only
  rw [Zot]
  show ((L.length+1:Nat):Int)<sq+1
  omega
 ·have hh:=homesB_at.1 h.homes
  refine homesB_at.2 fun k x hk hx=>?_
  by_cases hkl:k<L.length
  ·rw [Zoz hkl] at hk
   obtain ⟨g0,j,y,g1,g2,g3⟩:=hh k x hk hx
   exact ⟨g0,j,y,g1,by rw [Zoz (Zog.1 g2).1];exact g2,g3⟩
  ·rw [Zpa (by omega)] at hk
   have:x=BV sq st n p:=by
    have:=Zo1 hk
    simpa using this
   subst this;cases hx
 ·intro k x hk
  dsimp only at hk ⊢
  rw [Zot]
  by_cases hkl:k<L.length
  ·rw [Zoz hkl] at hk
   obtain ⟨g1,g2,g3,g4⟩:=h.lv k x hk
   refine ⟨g1,g2,?_,fun hs=>?_⟩
   ·have g3:x.seq=sq-((L.length:Int)-k):=g3
    show x.seq=sq+1-(((L.length+1:Nat):Int)-k)
    omega
   ·rcases g4 hs with h0|⟨y,hy,hys⟩
    ·exact .inl h0
    ·have hy:L[k-1]?=some y:=hy
     exact .inr ⟨y,by rw [Zoz (Zog.1 hy).1];exact hy,hys⟩
  ·have hkk:=(Zog.1 hk).1
   rw [Zot] at hkk
   have hkk:k<L.length+1:=hkk
   have e:k=L.length:=by omega
   rw [Zpa (by omega)] at hk
   have:x=BV sq st n p:=by
    have:=Zo1 hk
    simpa using this
   subst this
   refine ⟨hst,hn,?_,fun hs=>by cases hs⟩
   show sq=sq+1-(((L.length+1:Nat):Int)-k)
   omega
end Go.AM
