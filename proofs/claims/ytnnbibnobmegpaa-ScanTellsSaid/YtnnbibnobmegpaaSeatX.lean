/-
 Functions of the program as the abstract machine reads them, and what is stated of them, checked by the kernel. No conditions.
-/
import Derived.Test.YtnnbibnobmegpaaSeatT
import Derived.Test.YtnnbibnobmegpaaSeatU
import Derived.Test.YtnnbibnobmegpaaSeatS
import Derived.Test.YtnnbibnobmegpaaAM5
set_option linter.unusedVariables false
set_option linter.unusedSimpArgs false
set_option maxRecDepth 100000
namespace Go.AM
attribute [local irreducible] W
open X
theorem Yaj {e:Env}(h25:Con e 25 sameF.O) {st:Int}{y:RdS}(hst:Zc4 st) (hy:y.ok) (K:AV→St→Prop) (s:St) (hk:K (.bool true) s):ESc e 25 [.agg [.int .i64 st,Zvw y.S,Zj2 y.S,Zcu y.p],.agg [.int .i64 st,Zvw y.S,Zj2 y.S,Zcu y.p]] s K:=by
 have hd:=Zt3 hy hst
 have hb:∀ b ∈ (Zhr st y).bs,b.length=0∨b.length=128:=fun b hb=>by
  obtain ⟨q,hq,rfl⟩:=List.mem_map.1 (show b ∈ y.S.map Prod.snd from hb)
  exact .inr (hy.s q hq).2.1
 have ha:(Zhr st y).any:=by
  obtain ⟨⟨a,b,c,n,⟨bl,_,bn⟩,_⟩,bs,pb⟩:=hd
  exact ⟨a,b,c,bl,bs,pb⟩
 have hn:=hy.n
 refine ESc.fam sameF h25 ⟨Zhr st y,Zhr st y⟩ ⟨ha,ha,hb,hb,?_⟩ (u:=.bool true) ?_ hk
 ·show (y.S.map Prod.fst).length<_∧(y.S.map _).length<_
  rw [List.length_map,List.length_map];omega
 ·show AV.bool (Zrr _ _)=_
  unfold Zrr
  simp
end Go.AM
set_option maxRecDepth 100000
namespace Go.AM
attribute [local irreducible] W
open X
structure CK where
 c:Cfg
 d:DK
structure CK.ok (x:CK):Prop where
 c:x.c.ok
 d:x.d.ok
def CK.args (x:CK):List AV:=[x.c.v,x.d.v]
theorem CK.inja {x y:CK}(hx:x.ok) (hy:y.ok) (h:x.args=y.args):x=y:=by
 obtain ⟨c,d⟩:=x
 obtain ⟨c',d'⟩:=y
 have h0:=Zem (List.cons.inj h).1
 have h1:=DK.inj hx.d.a hy.d.a (List.cons.inj (List.cons.inj h).2).1
 dsimp only at h0 h1
 rw [h0,h1]
theorem CK.hfa {x:CK}(hx:x.ok):hfs x.args=true:=by
 show (AM.hf x.c.v && (AM.hf x.d.v && true))=true
 rw [DK.hf hx.d.a];rfl
def Zcy (x:DK):List Nat:=pad (Zrc x 0)
def Zpa (b:List Nat):List AV:=[.int .u32 ((Zcl b).1:Int),.int .u32 ((Zcl b).2.1:Int),.int .u32 ((Zcl b).2.2.1:Int),.int .i64 ((Zcl b).2.2.2:Int)]
def Zws (c:Cfg) (b:List Nat):Bool:=Yel b && (decide (((Zcl b).1:Int)=c.id) && decide (((Zcl b).2.2.2:Int)<c.log))
def Zlc (x:CK):Int:=if x.c.may then (if Zhp x.d=true∧(x.d.us.length:Int)=x.c.log+1 then (if x.d.dead then 40 else if Zws x.c (Zcy x.d)=true then 0 else 90) else 8) else 8
def Zny (x:CK):AV:=if Zlc x=0 then .tup [.agg (Zpa (Zcy x.d)),.int .i64 0] else .tup [.agg z4,.int .i64 (Zlc x)]
theorem Yb7 (x:CK):AM.hf (Zny x)=true:=by unfold Zny;split <;> rfl
def fstF:Fam CK:=⟨CK.ok,CK.args,Zny,fun x y hx hy h=>by rw [CK.inja hx hy h]⟩
theorem Yay {s:St}{r n e:Nat}{c:Option Nat}{bs:List Nat}(h:s.get r=some (.row e (bys bs))) (hn:bs.length=n) (hb:∀ b ∈ bs,b<256):Zrv [.sl r 0 n c] s=.ok (Zou bs) s:=by
 have hbo:∀ {bs:List Nat},(∀ b ∈ bs,b<256)→Zbm (bys bs)=some bs:=by
  intro bs
  induction bs with
  | nil=>intro _;rfl
  | cons b bs ih=>
   intro h
   show (Bool.rec none (Option.rec none (fun r=>some (b::r)) (Zbm (bys bs))) (Nat.blt b 256):Option (List Nat))=_
   rw [ih (fun x hx=>h x (by simp [hx])),show Nat.blt b 256=true by simpa using h b (by simp)]
 show (Option.rec .fail (fun bs=>.ok (Zou bs) s) (Zbf s (.sl r 0 n c)):RV)=_
 have:Zbf s (.sl r 0 n c)=some bs:=by
  show (Option.rec none Zbm (load r 0 n s):Option (List Nat))=_
  rw [Ze7 h (by rw [Zan];exact hn)]
  exact hbo hb
 rw [this]
theorem fstF_ok {P:Program}{e:Env}{fn:Func}(hE:EnvOk P e) (hm:P.follows .mixedOrders=true) (h104:Con e 104 journalF.O) (h101:Con e 101 dskF.O) (h51:Con e 51 Zrb) (h41:Con e 41 Zrv) (hf:P.funcs[73]?=some fn) (hc:Zaj P fn=some a73) (hb:Zaf P 73):OvOk P 73 fstF.O:=by
 refine Zal hb fun x hx=>?_
 refine ⟨CK.hfa hx,Yb7 x,C.of_V hE hm hf hc ?_⟩
 have fin0:∀ s a b c d,Zlc x=0→Zcl (Zcy x.d)=(a,b,c,d)→Frz s (.tup [.agg [.int .u32 (a:Int),.int .u32 (b:Int),.int .u32 (c:Int),.int .i64 (d:Int)],.int .i64 0]) (fstF.out x):=fun s a b c d h hs=>by
  show Frz s _ (if Zlc x=0 then _ else _);rw [if_pos h]
  unfold Zpa;rw [hs];exact .plain _ rfl
 have fin1:∀ s n,Zlc x=n→n≠0→Frz s (.tup [.agg [.int .u32 0,.int .u32 0,.int .u32 0,.int .i64 0],.int .i64 n]) (fstF.out x):=fun s n h hn=>by
  show Frz s _ (if Zlc x=0 then _ else _);rw [if_neg (by rw [h];exact hn),h];exact .plain _ rfl
 have hdk:=hx.d
 have hcok:=hx.c
 have hbl:=hx.d.a.bl
 have hwl:=hx.d.a.wl
 have hun:=hx.d.n
 have hdr:∀ s,zB (s.get 4)=false→Zhp x.d=true→1≤x.d.us.length→Zrb [x.d.v,.int .i64 0] s=if x.d.dead=true then .ok (.tup [.nils,.int .i64 40]) s else .ok (.tup [.sl (0+s.next) 0 128 (cpD (Zrc x.d 0)),.int .i64 0]) (s.alloc (.row 5 (bys (Zcy x.d)))):=fun s hz hD hl=>by
  have hok:DKA.ok ⟨x.d,0⟩:=⟨hx.d,by unfold Zc4;dsimp only;omega⟩
  have he:DKA.e ⟨x.d,0⟩=if x.d.dead=true then 40 else 0:=by
   show Yhe x.d 0=_
   unfold Yhe
   rw [if_pos hD,if_pos (by omega)]
  have:=Zqw hok s
  show Zrb (DKA.args ⟨x.d,0⟩) s=_
  unfold Zrb
  rw [if_neg (by rw [hz];decide),this,he]
  cases x.d.dead <;> rfl
 have hpb:Zhp x.d=true→1≤x.d.us.length→(Zcy x.d).length=128∧∀ y ∈ Zcy x.d,y<256:=fun hD hl=>by
  obtain ⟨b1,b2⟩:=Zu0 hx.d hD (p:=0) (by omega)
  exact ⟨Zcn b1,Zf9 b2⟩
 obtain ⟨c,d⟩:=x
 obtain ⟨id,mb,ch,rw',lg,hd⟩:=c
 dsimp only at hdk hcok hbl hwl hun hdr hpb
 have hlg:=hcok.log
 have hidb:=hcok.id
 dsimp only at hlg hidb
 unfold Zlc at fin0 fin1
 unfold Zws at fin0 fin1
 dsimp only at fin0 fin1
 obtain ⟨D,hD⟩:∃ D,D=Zhp d:=⟨_,rfl⟩
 have hDo:dskF.out d=.int .i64 (if D=true then 0 else 8):=by rw [hD];rfl
 rw [← hD] at fin0 fin1 hdr hpb
 unfold Zc4 at hlg
 obtain ⟨cp,hcp⟩:∃ cp,cp=cpD (Zrc d 0):=⟨_,rfl⟩
 rw [← hcp] at hdr
 obtain ⟨B,hB⟩:∃ B,B=Zcy d:=⟨_,rfl⟩
 rw [← hB] at fin0 fin1 hdr hpb
 obtain ⟨⟨si,sa,sq,st⟩,hS⟩:∃ q,q=Zcl B:=⟨_,rfl⟩
 rw [← hS] at fin0 fin1
 dsimp only at fin0 fin1
 obtain ⟨G,hG⟩:∃ G,G=Yel B:=⟨_,rfl⟩
 rw [← hG] at fin0 fin1
 obtain ⟨bv,us,bs,wv,ws,dd⟩:=d
 dsimp only at hbl hwl hun fin0 fin1 hdr hpb
 have hdr:∀ s,zB (s.get 4)=false→D=true→1≤us.length→Zrb [.agg [bv,wv,.bool dd],.int .i64 0] s=if dd=true then .ok (.tup [.nils,.int .i64 40]) s else .ok (.tup [.sl (0+s.next) 0 128 cp,.int .i64 0]) (s.alloc (.row 5 (bys B))):=hdr
 have hro:∀ s r,s.get r=some (.row 5 (bys B))→D=true→1≤us.length→Zrv [.sl r 0 128 cp] s=.ok (if G=true then .tup [.agg [.int .u32 (si:Int),.int .u32 (sa:Int),.int .u32 (sq:Int),.int .i64 (st:Int)],.int .i64 0] else .tup [.agg z4,.int .i64 90]) s:=fun s r hg hDD hl=>by
  obtain ⟨p1,p2⟩:=hpb hDD hl
  rw [Yay hg p1 p2]
  unfold Zou
  rw [if_neg (by omega),← hG,← hS]
 clear hB hcp hD hpb
 show VW P e 0 (match a73 with|.mk c _=>c) (Zax [.agg [.int .u32 id,.int .i64 mb,.int .i64 ch,.int .i64 rw',.int .i64 lg,.int .i64 hd],.agg [bv,wv,.bool dd]] 0 .lf) St0 none [] _
 conv=>whnf
 by_cases hM:Cfg.may ⟨id,mb,ch,rw',lg,hd⟩
 ·rw [if_pos hM] at fin0 fin1
  have hJ:journalF.out ⟨id,mb,ch,rw',lg,hd⟩=.tup [.int .i64 (lg+1),.int .i64 0]:=by
   show AV.tup [.int .i64 (if _ then _ else _),.int .i64 (if _ then _ else _)]=_
   rw [if_pos hM,if_pos hM]
  have hlg2:=Zdc hM
  dsimp only at hlg2
  refine ESc.fam journalF h104 ⟨id,mb,ch,rw',lg,hd⟩ hcok (u:=.tup [.int .i64 (lg+1),.int .i64 0]) hJ ?_;conv=>whnf
  refine Zas (a:=0) (b:=0) rfl rfl (fun h=>absurd rfl h) (fun _=>?_);conv=>whnf
  cases D
  ·refine ESc.fam dskF h101 ⟨bv,us,bs,wv,ws,dd⟩ hdk (u:=.int .i64 8) hDo ?_;conv=>whnf
   repeat' (first|((refine w6 rfl rfl ?_ ?_) <;> intro _ <;> first|(exfalso;omega)|(conv=>whnf))|fail)
   exact fin1 _ 8 (by rw [if_neg (by simp)]) (by decide)
  ·refine ESc.fam dskF h101 ⟨bv,us,bs,wv,ws,dd⟩ hdk (u:=.int .i64 0) hDo ?_;conv=>whnf
   refine Zas (a:=0) (b:=0) rfl rfl (fun h=>absurd rfl h) (fun _=>?_);conv=>whnf
   refine Zaa rfl hbl ?_;conv=>whnf
   refine Zas (a:=(us.length:Int)) (b:=lg+1) rfl rfl (fun hne=>?_) (fun heq=>?_)
   ·conv=>whnf
    skip
    exact fin1 _ 8 (by rw [if_neg (fun h=>hne h.2)]) (by decide)
   ·rw [if_pos ⟨rfl,heq⟩] at fin0 fin1
    have hl1:1≤us.length:=by omega
    conv=>whnf
    cases dd
    ·refine ESc.ov h51 (hdr _ rfl rfl hl1) ?_;conv=>whnf
     refine Zas (a:=0) (b:=0) rfl rfl (fun h=>absurd rfl h) (fun _=>?_);conv=>whnf
     cases G
     ·refine ESc.ov h41 (hro _ _ rfl rfl hl1) ?_;conv=>whnf
      repeat' (first|((refine w6 rfl rfl ?_ ?_) <;> intro _ <;> first|(exfalso;omega)|(conv=>whnf))|fail)
      exact fin1 _ 90 (by simp) (by decide)
     ·refine ESc.ov h41 (hro _ _ rfl rfl hl1) ?_;conv=>whnf
      refine Zas (a:=0) (b:=0) rfl rfl (fun h=>absurd rfl h) (fun _=>?_);conv=>whnf
      refine Zas (a:=(si:Int)) (b:=id) rfl rfl (fun hne=>?_) (fun hid=>?_)
      ·conv=>whnf
       skip
       exact fin1 _ 90 (by simp [hne]) (by decide)
      ·conv=>whnf
       refine Zbj (a:=(st:Int)) (b:=lg) rfl rfl (fun hge=>?_) (fun hlt=>?_)
       ·conv=>whnf
        skip
        exact fin1 _ 90 (by simp [hid];omega) (by decide)
       ·conv=>whnf
        skip
        exact fin0 _ _ _ _ _ (by simp [hid];omega) rfl
    ·refine ESc.ov h51 (hdr _ rfl rfl hl1) ?_;conv=>whnf
     repeat' (first|((refine w6 rfl rfl ?_ ?_) <;> intro _ <;> first|(exfalso;omega)|(conv=>whnf))|fail)
     exact fin1 _ 40 (by simp) (by decide)
 ·rw [if_neg hM] at fin0 fin1
  have hJ:journalF.out ⟨id,mb,ch,rw',lg,hd⟩=.tup [.int .i64 0,.int .i64 8]:=by
   show AV.tup [.int .i64 (if _ then _ else _),.int .i64 (if _ then _ else _)]=_
   rw [if_neg hM,if_neg hM]
  refine ESc.fam journalF h104 ⟨id,mb,ch,rw',lg,hd⟩ hcok (u:=.tup [.int .i64 0,.int .i64 8]) hJ ?_;conv=>whnf
  repeat' (first|((refine w6 rfl rfl ?_ ?_) <;> intro _ <;> first|(exfalso;omega)|(conv=>whnf))|fail)
  exact fin1 _ 8 rfl (by decide)
end Go.AM
set_option maxRecDepth 100000
namespace Go.AM
attribute [local irreducible] W
open X
def scG (rd:Nat→Option Fd) (m:Nat) (ag sq:Int):Nat→Nat→Nat→List Fd
 | 0,_,_=>[]
 | k+1,u,i=>if u<m then (match rd u with
  | none=>[]
  | some f=>if u+f.n.recs.length+1≤m∧f.n.seq=(sq+(i:Int)) % 4294967296∧f.n.age=ag then f::scG rd m ag sq k (u+f.n.recs.length+1) (i+1) else []) else []
theorem Zvv (rd:Nat→Option Fd) (m:Nat) (ag sq:Int):∀ (k k' u i:Nat),m<u+k→m<u+k'→scG rd m ag sq k u i=scG rd m ag sq k' u i
 | 0,0,_,_,_,_=>rfl
 | 0,k'+1,u,i,h,_=>by
  show []=if u<m then _ else _
  rw [if_neg (by omega)]
 | k+1,0,u,i,_,h=>by
  show (if u<m then _ else _)=[]
  rw [if_neg (by omega)]
 | k+1,k'+1,u,i,h,h'=>by
  show (if u<m then _ else _)=(if u<m then _ else _)
  by_cases hu:u<m
  ·rw [if_pos hu,if_pos hu]
   cases rd u with
   | none=>rfl
   | some f=>
    show (if _ then _ else _)=(if _ then _ else _)
    split
    ·rw [Zvv rd m ag sq k k' _ _ (by omega) (by omega)]
    ·rfl
  ·rw [if_neg hu,if_neg hu]
def scL (rd:Nat→Option Fd) (m:Nat) (ag sq:Int) (u i:Nat):List Fd:=scG rd m ag sq (m+1) u i
theorem Yai {rd:Nat→Option Fd}{m:Nat}{ag sq:Int}{u i:Nat}(h:¬ u<m):scL rd m ag sq u i=[]:=by
 show (if u<m then _ else _)=_;rw [if_neg h]
theorem Zmh {rd:Nat→Option Fd}{m:Nat}{ag sq:Int}{u i:Nat}(h:rd u=none):scL rd m ag sq u i=[]:=by
 show (if u<m then _ else _)=_
 split
 ·rw [h]
 ·rfl
theorem Zvu {rd:Nat→Option Fd}{m:Nat}{ag sq:Int}{u i:Nat}{f:Fd}(h:rd u=some f) (hn:¬ (u+f.n.recs.length+1≤m∧f.n.seq=(sq+(i:Int)) % 4294967296∧f.n.age=ag)):scL rd m ag sq u i=[]:=by
 show (if u<m then _ else _)=_
 split
 ·rw [h]
  show (if _ then _ else _)=_
  rw [if_neg hn]
 ·rfl
theorem Zp9 {rd:Nat→Option Fd}{m:Nat}{ag sq:Int}{u i:Nat}{f:Fd}(h:rd u=some f) (hu:u<m) (hn:u+f.n.recs.length+1≤m∧f.n.seq=(sq+(i:Int)) % 4294967296∧f.n.age=ag):scL rd m ag sq u i=f::scL rd m ag sq (u+f.n.recs.length+1) (i+1):=by
 show (if u<m then _ else _)=_
 rw [if_pos hu,h]
 show (if _ then _ else _)=_
 rw [if_pos hn]
 congr 1
 exact Zvv rd m ag sq _ _ _ _ (by omega) (by omega)
def lsV (L:List Fd):AV:=match L with
 | []=>.nils
 | f::L=>.fz (L.length+1) (some 0) (Zf0 (f::L))
def Zp5 (b:List Nat):Int:=((Zcl b).2.1:Int)
def Zri (b:List Nat):Int:=((Zcl b).2.2.1:Int)
def Zgj (b:List Nat):Int:=((Zcl b).2.2.2:Int)
def Zo4 (x:CK):List Fd:=scL (fun u=>rdF ⟨x.c,x.d,(Zgj (Zcy x.d)+(u:Int)) % x.c.log⟩) x.c.log.toNat (Zp5 (Zcy x.d)) (Zri (Zcy x.d)) 0 0
def Zdn (x:CK):AV:=if Zlc x=0 then .tup [.agg (Zpa (Zcy x.d)),lsV (Zo4 x),.int .i64 0] else .tup [.agg z4,.nils,.int .i64 (Zlc x)]
theorem Znt (L:List Fd):AM.hf (lsV L)=true:=by cases L <;> rfl
theorem Znu (x:CK):AM.hf (Zdn x)=true:=by
 unfold Zdn;split
 ·show (true && (AM.hf (lsV _) && (true && true)))=true
  rw [Znt];rfl
 ·rfl
def allF:Fam CK:=⟨CK.ok,CK.args,Zdn,fun x y hx hy h=>by rw [CK.inja hx hy h]⟩
def Zw9:AC:=match a27 with|.mk c _=>c
def Yiz:AC:=match a74 with|.mk c _=>c
def Yda:AC:=match a118 with|.mk c _=>c
def asg27:AC:=match Zj0 Zw9 with|some (a,_)=>a|none=>.skip
def Yi5:AC:=match Zj0 Zw9 with|some (_,b)=>b|none=>.skip
def tlA:List (Nat×AV):=[(2,.ptr 0 0),(3,.ptr 1 0),(4,.ptr 2 0),(5,.ptr 3 0),(6,.int .i64 0),(23,.fn 117 [] [.ptr 4 0,.ptr 6 0,.ptr 5 0])]
noncomputable def osA0 (C D S:List AV) (lv:AV) (tl:Int):List AObj:=[.row 24 C,.row 28 D,.row 46 S,.row 47 [lv],.row 24 C,.row 28 D,.row 3 [.int .i64 tl],.defd,.loop .ready none 0 (ofL tlA) [24,25] asg27 Yi5 7]
noncomputable def osA (C D S:List AV) (tl:Int) (u:Nat):List Fd→List AObj
 | []=>osA0 C D S .nils tl++[.row 182 [.yld 8],.row 3 [.int .i64 (u:Int)]]
 | f::L=>osA0 C D S (.sl 11 0 (L.length+1) none) tl++[.row 182 [.yld 8],.row 3 [.int .i64 (u:Int)],.row 36 (Zf0 (f::L))]
def tlQ:List (Nat×AV):=[(0,.yld 8),(1,.ptr 4 0),(2,.ptr 6 0),(3,.ptr 5 0),(4,.ptr 9 0),(5,.ptr 10 0),(6,.fn 118 [] [.ptr 4 0,.ptr 6 0,.ptr 10 0,.ptr 5 0,.ptr 9 0])]
def slA (r:Nat) (L:List Fd):AV:=match L with
 | []=>.nils
 | f::L=>.sl r 0 (L.length+1) none
theorem Ya8 {C D S:List AV}{tl:Int}{u:Nat}(L:List Fd) (f:Fd):osA C D S tl u (L++[f])=osA0 C D S (.sl 11 0 (L.length+1) none) tl++[.row 182 [.yld 8],.row 3 [.int .i64 (u:Int)],.row 36 (Zf0 L++f.c)]:=by
 rw [← Zit]
 cases L with
 | nil=>rfl
 | cons q L=>show osA0 C D S (.sl 11 0 ((L++[f]).length+1) none) tl++_=_;rw [List.length_append];rfl
theorem Yht {P:Program}{e:Env}{fn:Func}(hE:EnvOk P e) (hm:P.follows .mixedOrders=true) (h35:Con e 35 onF.O) (h74:Inl e 74 Yiz [.tmp 6]) (h118:Inl e 118 Yda [.tmp 5])
 (hf:P.funcs[117]?=some fn) (hcf:Zaj P fn=some a117) (hb:Zaf P 117) {id mb ch rw' lg hdd:Int}{bv wv:AV}{dd:Bool}(hdf:hfs [bv,wv,.bool dd]=true) {si ag sq tl:Int}{m:Nat}(hlg:lg=(m:Int)) (hm255:12≤m∧m≤255) (htl:0≤tl∧tl<lg) (hag:Zgi ag) (hsq:Zgi sq)
 (hfst:∀ (s:St) (K:AV→St→Prop),K (.tup [.agg [.int .u32 si,.int .u32 ag,.int .u32 sq,.int .i64 tl],.int .i64 0]) s→ESc e 73 [.agg [.int .u32 id,.int .i64 mb,.int .i64 ch,.int .i64 rw',.int .i64 lg,.int .i64 hdd],.agg [bv,wv,.bool dd]] s K)
 (rd:Nat→Option Fd) (hrd:∀ u,u<m→(rd u=none→∃ n,n≠0∧∀ (s:St) (K:AV→St→Prop),K (Zkk n) s→ESc e 23 [.agg [.int .u32 id,.int .i64 mb,.int .i64 ch,.int .i64 rw',.int .i64 lg,.int .i64 hdd],.agg [bv,wv,.bool dd],.int .i64 ((tl+(u:Int)) % lg)] s K)∧
   (∀ f,rd u=some f→f.n.recs.length≤17∧Zgi f.n.age∧Zgi f.n.seq∧∀ (s:St) (K:AV→St→Prop),K (.tup [.agg f.c,.int .i64 (1+(f.n.recs.length:Int)),.int .i64 0]) s→ESc e 23 [.agg [.int .u32 id,.int .i64 mb,.int .i64 ch,.int .i64 rw',.int .i64 lg,.int .i64 hdd],.agg [bv,wv,.bool dd],.int .i64 ((tl+(u:Int)) % lg)] s K))
 {K:AV→St→Prop}(hk:∀ s L,scL rd m ag sq 0 0=L→(∀ f M,L=f::M→s.get 11=some (.row 36 (Zf0 L)))→K (.tup [.agg [.int .u32 si,.int .u32 ag,.int .u32 sq,.int .i64 tl],slA 11 L,.int .i64 0]) s):
 VW P e 0 Zw9 (Zax [.agg [.int .u32 id,.int .i64 mb,.int .i64 ch,.int .i64 rw',.int .i64 lg,.int .i64 hdd],.agg [bv,wv,.bool dd]] 0 .lf) St0 none [] (Zfa [.cells 4 4,.cell 5,.tmp 6] K):=by
 conv=>whnf
 refine hfst _ _ ?_;conv=>whnf
 repeat' (first|(refine ESc.inl h74 ?_;conv=>whnf)|((refine w6 rfl rfl ?_ ?_) <;> intro _ <;> first|(exfalso;omega)|(conv=>whnf))|fail)
 refine W.tells (Abs.tells (tl:=tlA) (os:=[.row 24 [.int .u32 id,.int .i64 mb,.int .i64 ch,.int .i64 rw',.int .i64 lg,.int .i64 hdd],.row 28 [bv,wv,.bool dd],.row 46 [.int .u32 si,.int .u32 ag,.int .u32 sq,.int .i64 tl],.row 47 [.nils],.row 24 [.int .u32 id,.int .i64 mb,.int .i64 ch,.int .i64 rw',.int .i64 lg,.int .i64 hdd],.row 28 [bv,wv,.bool dd],.row 3 [.int .i64 tl]]) (rs:=[0,1,2,3,4,5,6])
  ⟨by decide,⟨⟨rfl,rfl⟩,⟨rfl,rfl⟩,⟨rfl,rfl⟩,⟨rfl,rfl⟩,⟨rfl,rfl⟩,⟨rfl,rfl⟩,trivial⟩,⟨⟨rfl,rfl⟩,⟨Za6 hdf,by rw [Zac hdf];rfl⟩,⟨rfl,rfl⟩,⟨rfl,rfl⟩,⟨rfl,rfl⟩,⟨Za6 hdf,by rw [Zac hdf];rfl⟩,⟨rfl,rfl⟩,trivial⟩⟩) ?_
 refine Zta (f:=117) (first:=[]) (cap:=[.ptr 4 0,.ptr 6 0,.ptr 5 0]) hb rfl ?_ ?_
 ·intro q hq
  have hq:q<7:=hq
  rcases q with _|_|_|_|_|_|_|q
  ·exact .tmp 2 (.ptr 0 0) rfl rfl
  ·exact .tmp 3 (.ptr 1 0) rfl rfl
  ·exact .tmp 4 (.ptr 2 0) rfl rfl
  ·exact .tmp 5 (.ptr 3 0) rfl rfl
  ·exact .tmp 23 (.fn 117 [] [.ptr 4 0,.ptr 6 0,.ptr 5 0]) rfl rfl
  ·exact .tmp 23 (.fn 117 [] [.ptr 4 0,.ptr 6 0,.ptr 5 0]) rfl rfl
  ·exact .tmp 23 (.fn 117 [] [.ptr 4 0,.ptr 6 0,.ptr 5 0]) rfl rfl
  ·omega
 show C1 P 117 [.yld 8,.ptr 4 0,.ptr 6 0,.ptr 5 0] (Zai St0 (osA0 [.int .u32 id,.int .i64 mb,.int .i64 ch,.int .i64 rw',.int .i64 lg,.int .i64 hdd] [bv,wv,.bool dd] [.int .u32 si,.int .u32 ag,.int .u32 sq,.int .i64 tl] .nils tl)) (fun _ s'=>Zom 8 [7] (ofL tlA) s' _)
 refine C1.of_V hE hm hf hcf ?_;conv=>whnf
 have hlb:∀ n,bdO 9 n (.loop .ready none 0 (ofL tlA) [24,25] asg27 Yi5 7)=true:=fun _=>rfl
 refine Zbo (k:=9) (α:=Nat×List Fd) (fun x=>tlQ) (fun x=>osA [.int .u32 id,.int .i64 mb,.int .i64 ch,.int .i64 rw',.int .i64 lg,.int .i64 hdd] [bv,wv,.bool dd] [.int .u32 si,.int .u32 ag,.int .u32 sq,.int .i64 tl] tl x.1 x.2) (fun x=>m-x.1)
  (fun x=>x.1≤m∧x.2.length≤x.1∧scL rd m ag sq 0 0=x.2++scL rd m ag sq x.1 x.2.length) (0,[]) ⟨Nat.zero_le _,Nat.le_refl _,rfl⟩
  (AbsK.tells (rs:=[0,1,2,3,4,5,6,7,8,9,10]) ⟨rfl,by decide,⟨⟨rfl,rfl⟩,⟨rfl,rfl⟩,⟨rfl,rfl⟩,⟨rfl,rfl⟩,⟨rfl,rfl⟩,⟨rfl,rfl⟩,⟨rfl,rfl⟩,trivial⟩,⟨⟨rfl,rfl⟩,⟨Za6 hdf,by rw [Zac hdf];rfl⟩,⟨rfl,rfl⟩,⟨rfl,rfl⟩,⟨rfl,rfl⟩,⟨Za6 hdf,by rw [Zac hdf];rfl⟩,⟨rfl,rfl⟩,⟨rfl,rfl⟩,⟨hlb _,rfl⟩,⟨rfl,rfl⟩,⟨rfl,rfl⟩,trivial⟩⟩) ?_
 rintro ⟨u,L⟩ ⟨hu,hl,hI⟩
 dsimp only at hu hl hI ⊢
 refine Zap hE hm ?_
 unfold Zgi at hag hsq
 by_cases hlt:u<m
 ·have h00:0≤(tl+(u:Int)) % lg:=Int.emod_nonneg _ (by omega)
  have h01:(tl+(u:Int)) % lg<lg:=Int.emod_lt_of_pos _ (by omega)
  have honk:onF.ok ⟨lg,tl,(u:Int)⟩:=⟨by unfold Zc4;dsimp only;omega,by unfold Zc4;dsimp only;omega,by unfold Zc4;dsimp only;omega⟩
  have hon:onF.out ⟨lg,tl,(u:Int)⟩=.tup [.int .i64 ((tl+(u:Int)) % lg),.int .i64 0]:=by
   have:Yen ⟨lg,tl,(u:Int)⟩=true:=by unfold Yen Yip;dsimp only;rw [decide_eq_true (by omega),decide_eq_true (by omega),decide_eq_true (by omega)];rfl
   show (if Yen _ then _ else _)=_;rw [if_pos this]
  obtain ⟨hr0,hr1⟩:=hrd u hlt
  rcases L with _|⟨q,L⟩
  ·conv=>whnf
   refine Zab (a:=(u:Int)) (b:=lg) rfl rfl (fun _=>?_) (fun h=>by omega);conv=>whnf
   refine ECall.inl h118.O h118.G ?_;conv=>whnf
   refine ESc.fam onF h35 ⟨lg,tl,(u:Int)⟩ honk hon ?_;conv=>whnf
   cases hru:rd u with
   | none=>
    obtain ⟨n,hn,hcall⟩:=hr0 hru
    clear hr1 hr0 hrd hfst
    refine hcall _ _ ?_;conv=>whnf
    repeat' (first|((refine w5 rfl rfl ?_ ?_) <;> intro _ <;> first|(exfalso;omega)|(conv=>whnf))|((first|refine w7 rfl rfl (by omega) ?_|refine ⟨rfl,?_⟩);conv=>whnf)|fail)
    refine hk _ (([]:List Fd)) (hI.trans (by rw [Zmh hru,List.append_nil])) (fun f M h=>by first|rfl|cases h)
   | some f=>
    obtain ⟨hf17,hfa,hfs',hcall⟩:=hr1 f hru
    clear hr1 hr0 hrd hfst
    have hno:¬ (u+f.n.recs.length+1≤m∧f.n.seq=(sq+((0:Nat):Int)) % 4294967296∧f.n.age=ag)→scL rd m ag sq u (([]:List Fd)).length=[]:=fun h=>Zvu (i:=0) hru h
    have hyes:(u+f.n.recs.length+1≤m∧f.n.seq=(sq+((0:Nat):Int)) % 4294967296∧f.n.age=ag)→scL rd m ag sq u (([]:List Fd)).length=f::scL rd m ag sq (u+f.n.recs.length+1) ((([]:List Fd)).length+1):=fun h=>Zp9 (i:=0) hru hlt h
    have hff:=Zjj ((([]:List Fd))++[f])
    rw [Zit] at hff
    refine hcall _ _ ?_
    unfold Zgi at hfa hfs'
    conv=>whnf
    refine Zah (a:=(u:Int)) (b:=1+(f.n.recs.length:Int)) rfl rfl (by omega) ?_;conv=>whnf
    refine Za7 (a:=0) (b:=0) rfl rfl (fun _=>?_) (fun h=>absurd rfl h);conv=>whnf
    refine ERound.mk ?_;conv=>whnf
    refine Zb5 (a:=(u:Int)+(1+(f.n.recs.length:Int))) (b:=lg) rfl rfl (fun hgt=>?_) (fun hle=>?_)
    ·conv=>whnf
     repeat' (first|(refine ⟨rfl,?_⟩;conv=>whnf)|fail)
     refine hk _ (([]:List Fd)) (hI.trans (by rw [hno (by omega),List.append_nil])) (fun f M h=>by first|rfl|cases h)
    conv=>whnf
    refine Zig rfl ?_;conv=>whnf
    refine Zam (q':=.u32) rfl (Zf2 (by omega)) ?_;conv=>whnf
    refine Zl6 (a:=sq) (b:=((0:Nat):Int)) rfl rfl ?_;conv=>whnf
    refine Zas (a:=f.n.seq) (b:=(sq+((0:Nat):Int)) % 4294967296) rfl rfl (fun hne=>?_) (fun heq=>?_)
    ·conv=>whnf
     repeat' (first|(refine ⟨rfl,?_⟩;conv=>whnf)|fail)
     refine hk _ (([]:List Fd)) (hI.trans (by rw [hno (fun h=>hne h.2.1),List.append_nil])) (fun f M h=>by first|rfl|cases h)
    conv=>whnf
    refine Zas (a:=f.n.age) (b:=ag) rfl rfl (fun hne=>?_) (fun heq2=>?_)
    ·conv=>whnf
     repeat' (first|(refine ⟨rfl,?_⟩;conv=>whnf)|fail)
     refine hk _ (([]:List Fd)) (hI.trans (by rw [hno (fun h=>hne h.2.2),List.append_nil])) (fun f M h=>by first|rfl|cases h)
    conv=>whnf
    (refine Zbb (m:=1) rfl rfl rfl rfl (by decide) (by decide) ?_;conv=>whnf)
    repeat' (first|(refine ⟨rfl,?_⟩;conv=>whnf)|fail)
    have hY:=hyes ⟨by omega,heq,heq2⟩
    refine ⟨(u+f.n.recs.length+1,([]:List Fd)++[f]),⟨by dsimp only;omega,by dsimp only;rw [List.length_append];show (([]:List Fd)).length+1≤_;simp only [List.length_cons,List.length_nil] at hl ⊢;omega,?_⟩,by show m-(u+f.n.recs.length+1)<m-u;omega,?_⟩
    ·dsimp only
     rw [hI,hY,List.append_assoc,List.length_append];rfl
    ·dsimp only
     rw [Ya8,show ((u+f.n.recs.length+1:Nat):Int)=(u:Int)+(1+(f.n.recs.length:Int)) by omega]
     exact AbsK.tells (rs:=[0,1,2,3,4,5,6,7,8,9,10,14]) ⟨rfl,by decide,⟨⟨rfl,rfl⟩,⟨rfl,rfl⟩,⟨rfl,rfl⟩,⟨rfl,rfl⟩,⟨rfl,rfl⟩,⟨rfl,rfl⟩,⟨rfl,rfl⟩,trivial⟩,⟨⟨rfl,rfl⟩,⟨Za6 hdf,by rw [Zac hdf];rfl⟩,⟨rfl,rfl⟩,⟨rfl,rfl⟩,⟨rfl,rfl⟩,⟨Za6 hdf,by rw [Zac hdf];rfl⟩,⟨rfl,rfl⟩,⟨rfl,rfl⟩,⟨hlb _,rfl⟩,⟨rfl,rfl⟩,⟨rfl,rfl⟩,⟨Za6 hff,by rw [Zac hff];rfl⟩,trivial⟩⟩
  ·rw [List.length_cons] at hl
   conv=>whnf
   refine Zab (a:=(u:Int)) (b:=lg) rfl rfl (fun _=>?_) (fun h=>by omega);conv=>whnf
   refine ECall.inl h118.O h118.G ?_;conv=>whnf
   refine ESc.fam onF h35 ⟨lg,tl,(u:Int)⟩ honk hon ?_;conv=>whnf
   cases hru:rd u with
   | none=>
    obtain ⟨n,hn,hcall⟩:=hr0 hru
    clear hr1 hr0 hrd hfst
    refine hcall _ _ ?_;conv=>whnf
    repeat' (first|((refine w5 rfl rfl ?_ ?_) <;> intro _ <;> first|(exfalso;omega)|(conv=>whnf))|((first|refine w7 rfl rfl (by omega) ?_|refine ⟨rfl,?_⟩);conv=>whnf)|fail)
    refine hk _ ((q::L)) (hI.trans (by rw [Zmh hru,List.append_nil])) (fun f M h=>by first|rfl|cases h)
   | some f=>
    obtain ⟨hf17,hfa,hfs',hcall⟩:=hr1 f hru
    clear hr1 hr0 hrd hfst
    have hno:¬ (u+f.n.recs.length+1≤m∧f.n.seq=(sq+((L.length+1:Nat):Int)) % 4294967296∧f.n.age=ag)→scL rd m ag sq u ((q::L)).length=[]:=fun h=>Zvu (i:=L.length+1) hru h
    have hyes:(u+f.n.recs.length+1≤m∧f.n.seq=(sq+((L.length+1:Nat):Int)) % 4294967296∧f.n.age=ag)→scL rd m ag sq u ((q::L)).length=f::scL rd m ag sq (u+f.n.recs.length+1) (((q::L)).length+1):=fun h=>Zp9 (i:=L.length+1) hru hlt h
    have hff:=Zjj (((q::L))++[f])
    rw [Zit] at hff
    refine hcall _ _ ?_
    unfold Zgi at hfa hfs'
    conv=>whnf
    refine Zah (a:=(u:Int)) (b:=1+(f.n.recs.length:Int)) rfl rfl (by omega) ?_;conv=>whnf
    refine Za7 (a:=0) (b:=0) rfl rfl (fun _=>?_) (fun h=>absurd rfl h);conv=>whnf
    refine ERound.mk ?_;conv=>whnf
    refine Zb5 (a:=(u:Int)+(1+(f.n.recs.length:Int))) (b:=lg) rfl rfl (fun hgt=>?_) (fun hle=>?_)
    ·conv=>whnf
     repeat' (first|(refine ⟨rfl,?_⟩;conv=>whnf)|fail)
     refine hk _ ((q::L)) (hI.trans (by rw [hno (by omega),List.append_nil])) (fun f M h=>by first|rfl|cases h)
    conv=>whnf
    refine Ze0 rfl ?_;conv=>whnf
    refine Zam (q':=.u32) rfl (Zf2 (by omega)) ?_;conv=>whnf
    refine Zl6 (a:=sq) (b:=((L.length+1:Nat):Int)) rfl rfl ?_;conv=>whnf
    refine Zas (a:=f.n.seq) (b:=(sq+((L.length+1:Nat):Int)) % 4294967296) rfl rfl (fun hne=>?_) (fun heq=>?_)
    ·conv=>whnf
     repeat' (first|(refine ⟨rfl,?_⟩;conv=>whnf)|fail)
     refine hk _ ((q::L)) (hI.trans (by rw [hno (fun h=>hne h.2.1),List.append_nil])) (fun f M h=>by first|rfl|cases h)
    conv=>whnf
    refine Zas (a:=f.n.age) (b:=ag) rfl rfl (fun hne=>?_) (fun heq2=>?_)
    ·conv=>whnf
     repeat' (first|(refine ⟨rfl,?_⟩;conv=>whnf)|fail)
     refine hk _ ((q::L)) (hI.trans (by rw [hno (fun h=>hne h.2.2),List.append_nil])) (fun f M h=>by first|rfl|cases h)
    conv=>whnf
    (refine Zb6 (m:=1) rfl rfl rfl rfl (Zfv _) rfl (by decide) (by simp;omega) ?_;conv=>whnf)
    repeat' (first|(refine ⟨rfl,?_⟩;conv=>whnf)|fail)
    have hY:=hyes ⟨by omega,heq,heq2⟩
    refine ⟨(u+f.n.recs.length+1,(q::L)++[f]),⟨by dsimp only;omega,by dsimp only;rw [List.length_append];show ((q::L)).length+1≤_;simp only [List.length_cons,List.length_nil] at hl ⊢;omega,?_⟩,by show m-(u+f.n.recs.length+1)<m-u;omega,?_⟩
    ·dsimp only
     rw [hI,hY,List.append_assoc,List.length_append];rfl
    ·dsimp only
     rw [Ya8,show ((u+f.n.recs.length+1:Nat):Int)=(u:Int)+(1+(f.n.recs.length:Int)) by omega]
     exact AbsK.tells (rs:=[0,1,2,3,4,5,6,7,8,9,10,15]) ⟨rfl,by decide,⟨⟨rfl,rfl⟩,⟨rfl,rfl⟩,⟨rfl,rfl⟩,⟨rfl,rfl⟩,⟨rfl,rfl⟩,⟨rfl,rfl⟩,⟨rfl,rfl⟩,trivial⟩,⟨⟨rfl,rfl⟩,⟨Za6 hdf,by rw [Zac hdf];rfl⟩,⟨rfl,rfl⟩,⟨rfl,rfl⟩,⟨rfl,rfl⟩,⟨Za6 hdf,by rw [Zac hdf];rfl⟩,⟨rfl,rfl⟩,⟨rfl,rfl⟩,⟨hlb _,rfl⟩,⟨rfl,rfl⟩,⟨rfl,rfl⟩,⟨Za6 hff,by rw [Zac hff];rfl⟩,trivial⟩⟩
 ·have hs:=Yai (rd:=rd) (ag:=ag) (sq:=sq) (i:=L.length) hlt
  rw [hs,List.append_nil] at hI
  rcases L with _|⟨q,L⟩
  ·conv=>whnf
   refine Zab (a:=(u:Int)) (b:=lg) rfl rfl (fun _=>by omega) (fun h=>?_);conv=>whnf
   repeat' (first|(refine ⟨rfl,?_⟩;conv=>whnf)|fail)
   exact hk _ [] hI (fun f M h=>by cases h)
  ·conv=>whnf
   refine Zab (a:=(u:Int)) (b:=lg) rfl rfl (fun _=>by omega) (fun h=>?_);conv=>whnf
   repeat' (first|(refine ⟨rfl,?_⟩;conv=>whnf)|fail)
   exact hk _ (q::L) hI (fun f M h=>rfl)
end Go.AM
set_option maxRecDepth 100000
namespace Go.AM
attribute [local irreducible] W
open X
theorem fst0 {x:CK}(h:Zlc x=0):x.c.may∧Zhp x.d=true∧(x.d.us.length:Int)=x.c.log+1∧x.d.dead=false∧Zws x.c (Zcy x.d)=true:=by
 unfold Zlc at h
 split at h
 ·split at h
  ·split at h
   ·cases h
   ·split at h
    ·rename_i h1 h2 h3 h4
     exact ⟨h1,h2.1,h2.2,by simpa using h3,h4⟩
    ·cases h
  ·cases h
 ·cases h
theorem Ycl {c:Cfg}{b:List Nat}(h:Zws c b=true):Yel b=true∧((Zcl b).1:Int)=c.id∧(1≤Zp5 b∧Zp5 b≤2147483648)∧(1≤Zri b∧Zri b≤2147483648)∧0≤Zgj b∧Zgj b<c.log:=by
 unfold Zws at h
 simp only [Bool.and_eq_true,decide_eq_true_eq] at h
 obtain ⟨h1,h2,h3⟩:=h
 have h1':=h1
 unfold Yel Zrk Ybg at h1'
 simp only [Bool.and_eq_true,decide_eq_true_eq] at h1'
 exact ⟨h1,h2,h1'.1.1.1,h1'.1.1.2,Int.natCast_nonneg _,h3⟩
theorem FdG.u32 {x:CDA}(hx:x.ok) {f:Fd}(h:FdG x f):Zgi f.n.age∧Zgi f.n.seq:=by
 have:=Zph (Zgm hx h.ask 0).2
 rw [h.n]
 exact ⟨this.age,this.seq⟩
theorem Zzx {P:Program}{s:St}{r:Nat}{S:List AV}(hS:hfs S=true):∀ {L:List Fd},(∀ f M,L=f::M→s.get r=some (.row 36 (Zf0 L)))→Tells P 0 (ofL [(0,.tup [.agg S,slA r L,.int .i64 0])]) s [] (ofL [(0,.tup [.agg S,lsV L,.int .i64 0])]) (Zai St0 []) []
 | [],_=>Abs.tells (tl:=[(0,.tup [.agg S,.nils,.int .i64 0])]) (os:=[]) (rs:=[]) ⟨by decide,⟨⟨by show ((bds 0 S) && (true && (true && true)))=true;rw [Zex _ hS];rfl,by show _=some (AV.tup [.agg (Zbx _ S),.nils,.int .i64 0]);rw [Zcv _ hS];rfl⟩,trivial⟩,trivial⟩
 | f::L,h=>by
  have hff:=Zjj (f::L)
  refine AbsK.frn (k:=0) (n:=0) (e:=36) (cs:=Zf0 (f::L)) (tl:=[(0,.tup [.agg S,.sl 0 0 (L.length+1) none,.int .i64 0])]) (tl2:=[(0,.tup [.agg S,.fz (L.length+1) (some 0) (Zf0 (f::L)),.int .i64 0])]) (os:=[]) (os2:=[]) (rs:=[r]) ⟨rfl,by simp,⟨⟨by show ((bds 1 S) && (true && (true && true)))=true;rw [Zex _ hS];rfl,by show _=some (AV.tup [.agg (Zbx _ S),.sl r 0 (L.length+1) none,.int .i64 0]);rw [Zcv _ hS];rfl⟩,trivial⟩,⟨⟨Za6 hff,by rw [Zac hff];exact h f L rfl⟩,trivial⟩⟩ rfl hff rfl rfl rfl ?_ ?_ rfl
  ·show (_ && true)=true
   simp [hS,Zmy]
  ·show [(0,AV.tup [.agg (frnVs 0 _ S),_,_])]=_
   rw [Zgo _ hS];rfl
theorem allF_ok {P:Program}{e:Env}{fn fn':Func}(hE:EnvOk P e) (hm:P.follows .mixedOrders=true) (h73:Con e 73 fstF.O) (h35:Con e 35 onF.O) (h23:Con e 23 drF.O) (h74:Inl e 74 Yiz [.tmp 6]) (h118:Inl e 118 Yda [.tmp 5])
 (hf':P.funcs[117]?=some fn') (hc':Zaj P fn'=some a117) (hb':Zaf P 117) (hf:P.funcs[27]?=some fn) (hc:Zaj P fn=some a27) (hb:Zaf P 27):OvOk P 27 allF.O:=by
 refine Zal hb fun x hx=>?_
 refine ⟨CK.hfa hx,Znu x,?_⟩
 have hdf:=Zp0 hx.d.a.wl hx.d.a.bl (d:=x.d.dead)
 by_cases h0:Zlc x=0
 ·obtain ⟨q1,q2,q3,q4,q5⟩:=fst0 h0
  obtain ⟨g1,g2,g3,g4,g5,g6⟩:=Ycl q5
  have hlg:=Zdc q1
  have hlg2:x.c.log≤255:=by unfold Cfg.may at q1;omega
  have hok:∀ u:Nat,CDA.ok ⟨x.c,x.d,(Zgj (Zcy x.d)+(u:Int)) % x.c.log⟩:=fun u=>⟨hx.c,hx.d,by
   have h1:=Int.emod_nonneg (Zgj (Zcy x.d)+(u:Int)) (b:=x.c.log) (by omega)
   have h2:=Int.emod_lt_of_pos (Zgj (Zcy x.d)+(u:Int)) (b:=x.c.log) (by omega)
   unfold Zc4;dsimp only;omega⟩
  have hfst:∀ (s:St) (K:AV→St→Prop),K (.tup [.agg (Zpa (Zcy x.d)),.int .i64 0]) s→ESc e 73 x.args s K:=fun s K hk=>ESc.fam fstF h73 x hx (by show Zny x=_;unfold Zny;rw [if_pos h0]) hk
  have hcall:=fun (u:Nat)=>rd_call h23 (hok u)
  have hfd:=fun (u:Nat) (f:Fd) (h:rdF ⟨x.c,x.d,(Zgj (Zcy x.d)+(u:Int)) % x.c.log⟩=some f)=>And.intro (Zik h).recs ((Zik h).u32 (hok u))
  refine (C.tells (v2:=Zdn x) (s2:=Zai St0 []) (Q:=fun v s=>∃ L,Zo4 x=L∧v=.tup [.agg (Zpa (Zcy x.d)),slA 11 L,.int .i64 0]∧∀ f M,L=f::M→s.get 11=some (.row 36 (Zf0 L))) (C.of_V hE hm hf hc ?_) ?_).mono (fun v s h=>by rw [h.1];exact .plain _ (Znu x))
  rotate_left
  ·rintro v s ⟨L,hL,rfl,hr⟩
   unfold Zdn
   rw [if_pos h0,hL]
   exact Zzx rfl hr
  have hout:∀ (s:St) L,Zo4 x=L→(∀ f M,L=f::M→s.get 11=some (.row 36 (Zf0 L)))→∃ L',Zo4 x=L'∧AV.tup [.agg (Zpa (Zcy x.d)),slA 11 L,.int .i64 0]=.tup [.agg (Zpa (Zcy x.d)),slA 11 L',.int .i64 0]∧∀ f M,L'=f::M→s.get 11=some (.row 36 (Zf0 L')):=fun s L hL h=>⟨L,hL,rfl,h⟩
  have hua:Zgi (Zp5 (Zcy x.d)):=by unfold Zgi;omega
  have hus:Zgi (Zri (Zcy x.d)):=by unfold Zgi;omega
  unfold Zo4 at hout
  obtain ⟨c,d⟩:=x
  obtain ⟨id,mb,ch,rw',lg,hdd⟩:=c
  obtain ⟨bv,us,bs,wv,ws,dd⟩:=d
  dsimp only at hdf hlg hlg2 g5 g6 hcall hfd hout
  exact Yht (P:=P) (e:=e) hE hm h35 h74 h118 hf' hc' hb' hdf (m:=lg.toNat) (by omega) (by omega) ⟨g5,g6⟩ hua hus hfst (fun u=>rdF ⟨⟨id,mb,ch,rw',lg,hdd⟩,⟨bv,us,bs,wv,ws,dd⟩,(Zgj (Zcy ⟨bv,us,bs,wv,ws,dd⟩)+(u:Int)) % lg⟩)
   (fun u _=>⟨fun h=>⟨_,errF_ne _,fun s K hk=>hcall u K s (fun _=>hk) (fun f hf=>by rw [h] at hf;cases hf)⟩,fun f h=>⟨(hfd u f h).1,(hfd u f h).2.1,(hfd u f h).2.2,fun s K hk=>hcall u K s (fun hn=>by rw [h] at hn;cases hn) (fun f' hf=>by rw [h] at hf;cases hf;exact hk)⟩⟩) hout
 ·refine C.of_V hE hm hf hc ?_
  have hfst:∀ (s:St) (K:AV→St→Prop),K (.tup [.agg z4,.int .i64 (Zlc x)]) s→ESc e 73 x.args s K:=fun s K hk=>ESc.fam fstF h73 x hx (by show Zny x=_;unfold Zny;rw [if_neg h0]) hk
  have hout:∀ s,Frz s (.tup [.agg z4,.nils,.int .i64 (Zlc x)]) (allF.out x):=fun s=>by
   show Frz s _ (Zdn x)
   unfold Zdn
   rw [if_neg h0]
   exact .plain _ rfl
  obtain ⟨E,hE'⟩:∃ E,E=Zlc x:=⟨_,rfl⟩
  rw [← hE'] at h0 hfst hout
  obtain ⟨c,d⟩:=x
  obtain ⟨id,mb,ch,rw',lg,hdd⟩:=c
  obtain ⟨bv,us,bs,wv,ws,dd⟩:=d
  have hfst:∀ (s:St) (K:AV→St→Prop),K (.tup [.agg z4,.int .i64 E]) s→ESc e 73 [.agg [.int .u32 id,.int .i64 mb,.int .i64 ch,.int .i64 rw',.int .i64 lg,.int .i64 hdd],.agg [bv,wv,.bool dd]] s K:=hfst
  show VW P e 0 Zw9 (Zax [.agg [.int .u32 id,.int .i64 mb,.int .i64 ch,.int .i64 rw',.int .i64 lg,.int .i64 hdd],.agg [bv,wv,.bool dd]] 0 .lf) St0 none [] _
  conv=>whnf
  refine hfst _ _ ?_;conv=>whnf
  refine Zas (a:=E) (b:=0) rfl rfl (fun _=>?_) (fun h=>absurd h h0);conv=>whnf
  skip
  exact hout _
end Go.AM
set_option maxRecDepth 100000
namespace Go.AM
attribute [local irreducible] W
open X
def Zfp (L:List Fd):Nat:=(L.map Fd.m).sum
theorem Zo9 (f:Fd) (L:List Fd):Zfp (f::L)=f.m+Zfp L:=by unfold Zfp;simp
theorem Zvj:∀ M:List Fd,M.length≤Zfp M
 | []=>Nat.zero_le _
 | f::M=>by rw [Zo9,List.length_cons];have:=Zvj M;show _≤f.n.recs.length+1+_;omega
theorem Zrp (rd:Nat→Option Fd) (m:Nat) (ag sq:Int):∀ (k u i:Nat),m<u+k→u≤m→
 (∀ (j:Nat) f,(scG rd m ag sq k u i)[j]?=some f→rd (u+Zfp ((scG rd m ag sq k u i).take j))=some f∧u+Zfp ((scG rd m ag sq k u i).take j)<m∧u+Zfp ((scG rd m ag sq k u i).take j)+f.m≤m∧f.n.seq=(sq+((i+j:Nat):Int)) % 4294967296∧f.n.age=ag)∧
 u+Zfp (scG rd m ag sq k u i)≤m∧
 (u+Zfp (scG rd m ag sq k u i)=m∨rd (u+Zfp (scG rd m ag sq k u i))=none∨∃ f,rd (u+Zfp (scG rd m ag sq k u i))=some f∧¬ (u+Zfp (scG rd m ag sq k u i)+f.m≤m∧f.n.seq=(sq+((i+(scG rd m ag sq k u i).length:Nat):Int)) % 4294967296∧f.n.age=ag))
 | 0,u,i,h,hu=>by omega
 | k+1,u,i,h,hu=>by
  have hz:Zfp ([]:List Fd)=0:=rfl
  by_cases hlt:u<m
  ·cases hr:rd u with
   | none=>
    have e:scG rd m ag sq (k+1) u i=[]:=by
     show (if u<m then _ else _)=_
     rw [if_pos hlt,hr]
    rw [e]
    exact ⟨fun j f h=>by simp at h,by rw [hz];omega,.inr (.inl (by rw [hz];exact hr))⟩
   | some f=>
    by_cases hc:u+f.n.recs.length+1≤m∧f.n.seq=(sq+(i:Int)) % 4294967296∧f.n.age=ag
    ·have e:scG rd m ag sq (k+1) u i=f::scG rd m ag sq k (u+f.n.recs.length+1) (i+1):=by
      show (if u<m then _ else _)=_
      rw [if_pos hlt,hr]
      show (if _ then _ else _)=_
      rw [if_pos hc]
     obtain ⟨h1,h2,h3⟩:=Zrp rd m ag sq k (u+f.n.recs.length+1) (i+1) (by omega) (by omega)
     rw [e]
     have hm:f.m=f.n.recs.length+1:=rfl
     generalize scG rd m ag sq k (u+f.n.recs.length+1) (i+1)=L at h1 h2 h3
     have eu:∀ M:List Fd,u+Zfp (f::M)=u+f.n.recs.length+1+Zfp M:=fun M=>by rw [Zo9];omega
     refine ⟨fun j g hj=>?_,by rw [eu];exact h2,?_⟩
     ·cases j with
      | zero=>
       simp at hj;subst hj
       rw [List.take_zero,hz]
       exact ⟨hr,hlt,by omega,by rw [hc.2.1];rfl,hc.2.2⟩
      | succ j=>
       have:=h1 j g (by simpa using hj)
       rw [List.take_succ_cons,eu,show i+(j+1)=i+1+j by omega]
       exact this
     ·rw [eu,List.length_cons,show i+(L.length+1)=i+1+L.length by omega]
      exact h3
    ·have e:scG rd m ag sq (k+1) u i=[]:=by
      show (if u<m then _ else _)=_
      rw [if_pos hlt,hr]
      show (if _ then _ else _)=_
      rw [if_neg hc]
     rw [e]
     refine ⟨fun j f h=>by simp at h,by rw [hz];omega,.inr (.inr ⟨f,by rw [hz];exact hr,?_⟩)⟩
     rw [hz]
     exact hc
  ·have e:scG rd m ag sq (k+1) u i=[]:=by
    show (if u<m then _ else _)=_
    rw [if_neg hlt]
   rw [e]
   exact ⟨fun j f h=>by simp at h,by rw [hz];omega,.inl (by rw [hz];omega)⟩
def jrd (x:CK) (u:Nat):CDA:=⟨x.c,x.d,(Zgj (Zcy x.d)+(u:Int)) % x.c.log⟩
structure AllG (x:CK) (L:List Fd):Prop where
 get:∀ (j:Nat) f,L[j]?=some f→rdF (jrd x (Zfp (L.take j)))=some f∧Zfp (L.take j)<x.c.log.toNat∧Zfp (L.take j)+f.m≤x.c.log.toNat∧f.n.seq=(Zri (Zcy x.d)+(j:Int)) % 4294967296∧f.n.age=Zp5 (Zcy x.d)
 le:Zfp L≤x.c.log.toNat
 fin:Zfp L=x.c.log.toNat∨rdF (jrd x (Zfp L))=none∨∃ f,rdF (jrd x (Zfp L))=some f∧¬ (Zfp L+f.m≤x.c.log.toNat∧f.n.seq=(Zri (Zcy x.d)+(L.length:Int)) % 4294967296∧f.n.age=Zp5 (Zcy x.d))
theorem allL_G (x:CK):AllG x (Zo4 x):=by
 obtain ⟨h1,h2,h3⟩:=Zrp (fun u=>rdF (jrd x u)) x.c.log.toNat (Zp5 (Zcy x.d)) (Zri (Zcy x.d)) (x.c.log.toNat+1) 0 0 (by omega) (Nat.zero_le _)
 refine ⟨fun j f hj=>?_,?_,?_⟩
 ·have:=h1 j f hj
  simp only [Nat.zero_add] at this
  exact this
 ·simp only [Nat.zero_add] at h2
  exact h2
 ·simp only [Nat.zero_add] at h3
  exact h3
theorem Yik {x:CK}(hx:x.ok) (h:Zlc x=0) (u:Nat):(jrd x u).ok:=by
 obtain ⟨q1,q2,q3,q4,q5⟩:=fst0 h
 have hlg:=Zdc q1
 have hlg2:x.c.log≤255:=by unfold Cfg.may at q1;omega
 have h1:=Int.emod_nonneg (Zgj (Zcy x.d)+(u:Int)) (b:=x.c.log) (by omega)
 have h2:=Int.emod_lt_of_pos (Zgj (Zcy x.d)+(u:Int)) (b:=x.c.log) (by omega)
 exact ⟨hx.c,hx.d,by unfold Zc4 jrd;dsimp only;omega⟩
theorem FdG.drg {x:CDA}(hx:x.ok) {f:Fd}(h:FdG x f):DRG x f.y:=by
 have hn:=h.n
 have hgo:=h.go
 have hcd:=h.cd
 rw [hn] at hgo hcd
 exact Yix hx h.ask h.good h.id hgo hcd
theorem FdG.len {x:CDA}(hx:x.ok) {f:Fd}(h:FdG x f):f.y.ok∧f.n.recs.length=f.y.S.length+(match f.y.p with|none=>0|some _=>1):=by
 have hd:=h.drg hx
 refine ⟨hd.ok,?_⟩
 have h1:=congrArg (fun n:Nt=>n.recs.length) hd.note
 rw [h.n]
 have h2:((Zhr (Zak (rbk x 0)).stripe f.y).prs.map recN).length=(Zak (rbk x 0)).recs.length:=h1
 rw [List.length_map,Zv4 hd.ok] at h2
 rw [← h2]
 unfold Yh9
 rw [List.length_append]
 cases f.y.p <;> rfl
theorem sl_fds (L:List Fd):Sl 6 L.length (Zf0 L) (lsV L):=by
 cases L with
 | nil=>exact .inl ⟨rfl,rfl,rfl⟩
 | cons f L=>exact .inr (.inr ⟨some 0,rfl,Zfv _⟩)
theorem Zwx:∀ (L:List Fd) (i:Nat),(Zf0 L).drop (i*6)=Zf0 (L.drop i)
 | L,0=>by simp
 | [],i+1=>by simp [Zf0]
 | x::L,i+1=>by
  have hl:x.c.length=6:=rfl
  rw [List.drop_succ_cons,← Zwx L i,Zgq,show (i+1)*6=x.c.length+i*6 by omega,List.drop_append,List.drop_eq_nil_of_le (by omega),List.nil_append]
  congr 1;omega
theorem Zqu {L:List Fd}{i:Nat}(h:i<L.length):(Zf0 L).drop (i*6)=L[i].c++Zf0 (L.drop (i+1)):=by
 rw [Zwx,List.drop_eq_getElem_cons h,Zgq]
end Go.AM
set_option maxRecDepth 100000
namespace Go.AM
attribute [local irreducible] W
open X
structure FdL (L:List Fd):Prop where
 n:L.length<1000000
 f:∀ f ∈ L,Zc4 f.n.stripe∧f.y.ok
def sfF:Fam (List Fd):=⟨FdL,fun L=>[lsV L,lsV L],fun _=>.bool true,fun _ _ _ _ _=>rfl⟩
theorem sfF_ok {P:Program}{e:Env}{fn:Func}(hE:EnvOk P e) (hm:P.follows .mixedOrders=true) (h25:Con e 25 sameF.O) (hf:P.funcs[29]?=some fn) (hc:Zaj P fn=some a29) (hb:Zaf P 29):OvOk P 29 sfF.O:=by
 refine Zal hb fun L hL=>?_
 refine ⟨by show (AM.hf (lsV L) && (AM.hf (lsV L) && true))=true;rw [Znt];rfl,rfl,C.of_V hE hm hf hc ?_⟩
 have hSl:=sl_fds L
 have hss:=fun (i:Nat) (h:i<L.length)=>Yaj h25 (hL.f _ (List.getElem_mem h)).1 (hL.f _ (List.getElem_mem h)).2
 obtain ⟨hn,_⟩:=hL
 show VW P e 0 (match a29 with|.mk c _=>c) (Zax [lsV L,lsV L] 0 .lf) St0 none [] (Zfa [.tmp 4] (fun v s'=>Frz s' v (.bool true)))
 generalize lsV L=lv at *
 have hlf:=hSl.hf
 conv=>whnf
 refine Zaa rfl hSl ?_;conv=>whnf
 refine Zaa rfl hSl ?_;conv=>whnf
 refine Zas (a:=(L.length:Int)) (b:=(L.length:Int)) rfl rfl (fun h=>absurd rfl h) (fun _=>?_);conv=>whnf
 refine Zbo (α:=Nat) (fun i=>[(0,lv),(1,lv),(5,.int .i64 (i:Int))]) (fun _=>[]) (fun i=>L.length-i) (fun i=>i≤L.length) 0 (Nat.zero_le _)
  (Abs.tells (rs:=[]) ⟨by decide,⟨⟨Zbe _ hlf,by rw [Zao _ hlf];rfl⟩,⟨Zbe _ hlf,by rw [Zao _ hlf];rfl⟩,⟨rfl,rfl⟩,trivial⟩,trivial⟩) ?_
 intro i hi
 refine Zap hE hm ?_
 by_cases hlt:i<L.length
 ·have hdr:=Zqu hlt
  have hss:=hss i hlt
  have hall:=And.intro hdr hss
  clear hdr hss
  revert hall
  generalize L[i]=f
  obtain ⟨⟨nid,nag,nsq,nst,nv,nr⟩,⟨S,p⟩⟩:=f
  rintro ⟨hdr,hss⟩
  have hdr:(Zf0 L).drop (i*6)=[.int .u32 nag,.int .u32 nsq,.int .i64 nst,Zvw S,Zj2 S,Zcu p]++Zf0 (L.drop (i+1)):=hdr
  dsimp only at hss
  conv=>whnf
  refine Zaa rfl hSl ?_;conv=>whnf
  refine Zab (a:=(i:Int)) (b:=(L.length:Int)) rfl rfl (fun _=>?_) (fun h=>by omega);conv=>whnf
  repeat' (first|(refine Zae rfl hSl rfl hlt ?_;rw [hdr];conv=>whnf)|(refine EHead.mk rfl ?_;conv=>whnf)|(refine Zgc rfl ?_;conv=>whnf)|(refine hss _ _ ?_;conv=>whnf)|((refine w6 rfl rfl ?_ ?_) <;> intro _ <;> first|(exfalso;omega)|(conv=>whnf))|((first|refine w7 rfl rfl (by omega) ?_|refine w12 rfl ?_|refine ⟨rfl,?_⟩);conv=>whnf)|fail)
  exact ⟨i+1,hlt,by omega,Abs.tells (rs:=[]) ⟨by decide,⟨⟨Zbe _ hlf,by rw [Zao _ hlf];rfl⟩,⟨Zbe _ hlf,by rw [Zao _ hlf];rfl⟩,⟨rfl,rfl⟩,trivial⟩,trivial⟩⟩
 ·conv=>whnf
  refine Zaa rfl hSl ?_;conv=>whnf
  refine Zab (a:=(i:Int)) (b:=(L.length:Int)) rfl rfl (fun h=>by omega) (fun _=>?_);conv=>whnf
  exact .plain _ rfl
theorem Yg7 (a:Int):eqI a a=true:=by
 cases a with
 | ofNat n=>exact Nat.beq_refl n
 | negSucc n=>exact Nat.beq_refl n
theorem eqf4 (a b c d:Int):Zyq [0,0,0,0] [.int .u32 a,.int .u32 b,.int .u32 c,.int .i64 d] [.int .u32 a,.int .u32 b,.int .u32 c,.int .i64 d]=some true:=by
 have h:∀ k (n:Int),eq1 0 (.int k n) (.int k n)=some true:=fun k n=>by
  show cond (eqK k k) (some (eqI n n)) none=_
  rw [Yg7,show eqK k k=true by cases k <;> rfl];rfl
 unfold Zyq
 rw [h]
 dsimp only
 unfold Zyq
 rw [h]
 dsimp only
 unfold Zyq
 rw [h]
 dsimp only
 unfold Zyq
 rw [h]
 rfl
end Go.AM
