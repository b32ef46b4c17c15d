/- Contracts of functions over the abstract machine. No conditions. -/
import Derived.Test.YtblggmblcjoalaaGreatStE
import Derived.Test.YtblggmblcjoalaaGreatStD
import Derived.Test.YtblggmblcjoalaaGreatStC
import Derived.Test.YtblggmblcjoalaaGreatStA
set_option linter.unusedVariables false
set_option linter.unusedSimpArgs false
set_option maxRecDepth 100000
namespace Go.AM
attribute [local irreducible] W
open X
def cd134:AC:=match a36 with|.mk c _=>c
def cd179:AC:=match a98 with|.mk c _=>c
theorem ftb_at {c:Cfg}{D:List Dk}{cs:List AV}(hD:m20P c D) (hsm:∀ d ∈ D,smD d) (hal:∀ i<c.members.toNat,deadC D i=false) (hn:∀ i,i<D.length->∃ x c l,D[i]?=some x∧dkC.r x c∧cs.drop (i*3)=c++l) {s:Int}(h0:0≤s∧s<stripesN c) {e:Env}(h49:Con e 23 drdF.O) {i:Nat}(hi:(i:Int)<c.members):i<D.length∧∃ x bv wv r,D[i]?=some x∧cs.drop (i*3)=[bv,wv,.bool false]++r∧∀ (Q:AV->St->Prop) st,Q (.tup [fzB (seenC x (s+1)),.int .i64 0]) st->ESc e 23 [.agg [bv,wv,.bool false],.int .i64 (s+1)] st Q:=by
 have hl:=hD.1
 have hil:i<D.length:=by omega
 obtain ⟨x,cl,r,hx,hxr,hd⟩:=hn i hil
 obtain ⟨hlen,hk⟩:=hD.2 i hil x hx
 have hdead:x.2.2=false:=by
  have h1:=hal i (by omega)
  unfold deadC at h1
  rw [hx] at h1;exact h1
 rw [if_neg (by omega)] at hlen
 have huse:=fun Q st k=>drd_use (e:=e) h49 hxr (hsm x (List.mem_of_getElem? hx)) hk (a:=s+1) ⟨by omega,by omega⟩ Q st k
 rw [hdead] at huse
 obtain ⟨bs,ws,dd⟩:=x
 dsimp only at hdead
 subst hdead
 obtain ⟨bv,wv,rfl,-,-⟩:=dk_of hxr
 exact ⟨hil,_,bv,wv,r,hx,hd,huse⟩
def lbC (c:Cfg) (ev me lo dn:Int) (op:Bool):List AV:=[.int .u32 c.id,.int .u32 ev,.int .i64 c.members,.int .i64 c.chunk,.int .i64 c.rows,.int .i64 c.log,.int .i64 me,.int .i64 lo,.int .i64 dn,.bool op]
def lbP (c:Cfg) (ev me lo dn:Int):Prop:=(0≤ev∧ev≤2147483648)∧(0≤me∧me<c.members)∧(-1≤lo∧lo<c.members)∧(0≤dn∧dn≤stripesN c)∧(lo=-1->dn=0)
def lbR (args:List AV) (u:AV):Prop:=∃ c ev me lo dn op,args=[.agg (lbC c ev me lo dn op)]∧c.ok∧c.may∧lbP c ev me lo dn∧u=.int .i64 0
variable {e:Env}
theorem lb_ok (hE:EM P e) (h40:Con e 77 stripesF.O):OvOk P 103 (relO lbR):=by
 refine relO_of g103.b ?_
 rintro args u ⟨c,ev,me,lo,dn,op,rfl,hc,hM,⟨b1,b2,b3,b4,b5⟩,rfl⟩
 refine ⟨rfl,rfl,C.of_G hE g103 ?_⟩
 have hM':=hM
 unfold Cfg.may at hM'
 have hmm:=may_mul hM
 have hc2:Cfg.ok ⟨c.id,c.members,c.chunk,c.rows,c.log,2⟩:=by
  obtain ⟨q1,q2,q3,q4,q5,q6⟩:=hc
  exact ⟨q1,q2,q3,q4,q5,show i64B 2 by unfold i64B;omega⟩
 have hM2:Cfg.may ⟨c.id,c.members,c.chunk,c.rows,c.log,2⟩:=by
  refine ⟨hM'.1,hM'.2.1,hM'.2.2.1,show (2:Int)≤2∧(2:Int)≤8 from ⟨by omega,by omega⟩,?_,hM'.2.2.2.2.2⟩
  have:=Int.mul_le_mul_of_nonneg_left (show (2:Int)+1≤c.heads+1 by omega) (show 0≤c.members+1 by omega)
  have h5:=hM'.2.2.2.2.1
  show (c.members+1)*(2+1)≤c.log
  omega
 have hst:∀ (Q:AV->St->Prop) s,Q (.tup [.int .i64 (c.chunk*c.rows),.int .i64 0]) s->ESc e 77 [.agg (Cfg.c ⟨c.id,c.members,c.chunk,c.rows,c.log,2⟩)] s Q:=str_y h40 hc2 hM2
 unfold stripesN at b4 hmm
 have b6:lo≠-1∨dn=0:=by
  by_cases h:lo=-1
  ·exact .inr (b5 h)
  ·exact .inl h
 have fin:∀ st,Frz st (.int .i64 0) (.int .i64 0):=fun st=>.plain _ rfl
 change VW P e 0 _ (initT [.agg (lbC c ev me lo dn op)] 0 .lf) St0 none [] _
 unfold lbC
 conv=>whnf
 repeat' (first|(refine hst _ _ ?_;conv=>whnf)|refine nq1 ?_ ?_|refine nq3 ?_ ?_|refine nq4 ?_ ?_|refine nq5 ?_ ?_|refine nq6 ?_ ?_|(intro _;first|omega|conv=>whnf))
 all_goals first
  | exact fin _
  | (exfalso;omega)
def cd216:AC:=match a185 with|.mk c _=>c
def lbF (c:Cfg) (ev me lo dn:Int) (op:Bool):List (Int×Int×Int):=[(76,0,1),(c.id,1,4),(ev,5,4),(c.members,9,1),(c.chunk,10,1),(c.rows,11,1),(c.log,12,1),(me,13,1),(if lo=-1 then 255 else lo,14,1),(dn,15,1),(if op=true then 1 else 0,16,1)]
def lbFC (c:Cfg) (ev me lo dn:Int) (op:Bool):List AV:=(lbF c ev me lo dn op).flatMap fun x=>[.int .i64 x.1,.int .i64 x.2.1,.int .i64 x.2.2]
def lbfR (args:List AV) (u:AV):Prop:=∃ c ev me lo dn op,args=[.agg (lbC c ev me lo dn op)]∧c.ok∧c.may∧lbP c ev me lo dn∧u=.fz 11 none (lbFC c ev me lo dn op)
set_option maxHeartbeats 4000000 in
theorem lbf_ok (hE:EM P e) (h216:Inl e 185 cd216 [.cells 5 3]):OvOk P 104 (relO lbfR):=by
 refine relO_of g104.b ?_
 rintro args u ⟨c,ev,me,lo,dn,op,rfl,hc,hM,⟨b1,b2,b3,b4,b5⟩,rfl⟩
 refine ⟨rfl,rfl,C.of_G hE g104 ?_⟩
 have hid:=hc.id
 unfold u32B at hid
 have fin:∀ (st:St) r (cp:Option Nat) (x y:Int),st.get r=some (.row 203 [.int .i64 76,.int .i64 0,.int .i64 1,.int .i64 c.id,.int .i64 1,.int .i64 4,.int .i64 ev,.int .i64 5,.int .i64 4,.int .i64 c.members,.int .i64 9,.int .i64 1,.int .i64 c.chunk,.int .i64 10,.int .i64 1,.int .i64 c.rows,.int .i64 11,.int .i64 1,.int .i64 c.log,.int .i64 12,.int .i64 1,.int .i64 me,.int .i64 13,.int .i64 1,.int .i64 x,.int .i64 14,.int .i64 1,.int .i64 dn,.int .i64 15,.int .i64 1,.int .i64 y,.int .i64 16,.int .i64 1])->x=(if lo=-1 then 255 else lo)->y=(if op=true then 1 else 0)->Frz st (.sl r 0 11 cp) (.fz 11 none (lbFC c ev me lo dn op)):=by
  rintro st r cp x y hg rfl rfl
  exact .sl r 0 _ _ _ 203 _ _ _ hg (fun i x hx=>by rw [Nat.zero_add];exact hx) (frz_hfs rfl) (.inl rfl)
 generalize AV.fz 11 none (lbFC c ev me lo dn op)=O at *
 change VW P e 0 _ (initT [.agg (lbC c ev me lo dn op)] 0 .lf) St0 none [] _
 unfold lbC
 cases op
 all_goals
  by_cases hl:lo=-1
  ·subst hl
   conv=>whnf
   repeat' (first|((first|refine ECall.inl h216.O h216.G ?_|refine nq7 ?_|refine nq14 ?_|refine ⟨rfl,?_⟩);conv=>whnf)|refine nq5 ?_ ?_|(intro _;first|omega|conv=>whnf))
   first
    | (refine fin _ _ _ 255 0 ?_ (if_pos rfl).symm rfl;rfl)
    | (refine fin _ _ _ 255 1 ?_ (if_pos rfl).symm rfl;rfl)
  ·conv=>whnf
   repeat' (first|((first|refine ECall.inl h216.O h216.G ?_|refine nq7 ?_|refine nq14 ?_|refine ⟨rfl,?_⟩);conv=>whnf)|refine nq5 ?_ ?_|(intro _;first|omega|conv=>whnf))
   first
    | (refine fin _ _ _ lo 0 ?_ (if_neg hl).symm rfl;rfl)
    | (refine fin _ _ _ lo 1 ?_ (if_neg hl).symm rfl;rfl)
theorem bytesOf_ofW:∀ {bs:List Nat},(∀ b ∈ bs,b<256)->bytesOf (bys bs)=some bs
 | [],_=>rfl
 | b::bs,h=>by
  show (Bool.rec none (Option.rec none (fun r=>some (b::r)) (bytesOf (bys bs))) (Nat.blt b 256):Option (List Nat))=_
  rw [bytesOf_ofW (fun x hx=>h x (by simp [hx])),show Nat.blt b 256=true by simpa using h b (by simp)]
variable {b:List Nat}{s:St}
theorem bytes_at {u:AV}(h:BAt u b):bytesAt s u=some b:=by
 obtain ⟨h1,h2⟩:=h
 rcases h1 with ⟨rfl,h3,h4⟩|⟨rfl,h3,h4⟩|⟨c,rfl,h3⟩
 ·rw [List.length_eq_zero_iff.1 h3];rfl
 ·rw [List.length_eq_zero_iff.1 h3];rfl
 ·show (Bool.rec none (bytesOf (bys b)) (Nat.beq (lenL (bys b)) b.length):Option (List Nat))=_
  rw [bytesOf_ofW h2,lenL_eq,bys_length,Nat.beq_refl]
variable {bs:List Nat}{a:Int}
theorem putW_run {v:AV}{z n:Int}(hv:BAt v bs) (hl:bs.length=0∨bs.length=128) (h:putOk a z n=true):
 putO [v,.int .i64 a,.int .i64 z,.int .i64 n] s=.ok (.tup [.fz 128 (some 128) (bys (putN (pad bs) a.toNat n.toNat z.toNat)),.int .i64 0]) s:=by
 show (Option.rec .fail (fun bs=>.ok (putV bs a z n) s) (bytesAt St0 v):RV)=_
 rw [bytes_at hv]
 show RV.ok (putV bs a z n) s=_
 unfold putV
 rw [if_neg (by omega),if_pos h]
def fdP (x:Int×Int×Int):Prop:=i64B x.1∧(1≤x.2.2∧x.2.2≤4)∧(0≤x.2.1∧x.2.1+x.2.2≤128)∧0≤x.1∧x.1.toNat<2^(8*x.2.2.toNat)
theorem fd_put {x:Int×Int×Int}(h:fdP x):putOk x.2.1 x.2.2 x.1=true:=by
 obtain ⟨h0,h1,h2,h3,h4⟩:=h
 unfold putOk fitsB
 rw [decide_eq_true (by omega),decide_eq_true ⟨h3,Nat.div_eq_of_lt h4⟩];rfl
def lbW (F:List (Int×Int×Int)):Nat->List Nat
 | 0=>[]
 | i+1=>match F[i]? with
  | none=>lbW F i
  | some x=>putN (pad (lbW F i)) x.2.1.toNat x.1.toNat x.2.2.toNat
theorem putN_lt {bs:List Nat}{a n:Nat}(h:∀ x ∈ bs,x<256):∀ i,∀ x ∈ putN bs a n i,x<256
 | 0,x,hx=>h x hx
 | i+1,x,hx=>by
  unfold putN at hx
  rcases List.mem_or_eq_of_mem_set hx with h1|rfl
  ·exact putN_lt h i x h1
  ·exact Nat.mod_lt _ (by decide)
theorem lbW_ok (F:List (Int×Int×Int)):∀ i,((lbW F i).length=0∨(lbW F i).length=128)∧∀ x ∈ lbW F i,x<256
 | 0=>⟨.inl rfl,fun x hx=>by cases hx⟩
 | i+1=>by
  obtain ⟨h1,h2⟩:=lbW_ok F i
  unfold lbW
  cases F[i]? with
  | none=>exact ⟨h1,h2⟩
  | some x=>exact ⟨.inr (by rw [putN_length];exact pad_len128 h1),putN_lt (pad_lt h2) _⟩
def lbU (F:List (Int×Int×Int)) (i:Nat):AV:=if i=0 then .nils else .fz 128 (some 128) (bys (lbW F i))
variable {c:Cfg}{me lo dn:Int}{op:Bool}
theorem lbF_ok {ev:Int}(hc:c.ok) (hM:c.may) (h:lbP c ev me lo dn):∀ x ∈ lbF c ev me lo dn op,fdP x:=by
 have hid:=hc.id
 unfold u32B at hid
 have hmm:=(may_mul hM).1
 have hlog:=Cfg.may_log hM
 unfold Cfg.may at hM
 obtain ⟨b1,b2,b3,b4,b5⟩:=h
 intro x hx
 unfold lbF at hx
 simp only [List.mem_cons,List.not_mem_nil,or_false] at hx
 unfold fdP i64B
 rcases hx with rfl|rfl|rfl|rfl|rfl|rfl|rfl|rfl|rfl|rfl|rfl
 all_goals dsimp only
 all_goals first
  | (refine ⟨by omega,by omega,by omega,by omega,?_⟩;show _<2^8;omega)
  | (refine ⟨by omega,by omega,by omega,by omega,?_⟩;show _<2^32;omega)
  | (by_cases hl:lo=-1
     ·rw [if_pos hl];refine ⟨by omega,by omega,by omega,by omega,?_⟩;show _<2^8;omega
     ·rw [if_neg hl];refine ⟨by omega,by omega,by omega,by omega,?_⟩;show _<2^8;omega)
  | (cases op
     ·rw [if_neg (by decide)];refine ⟨by omega,by omega,by omega,by omega,?_⟩;show _<2^8;omega
     ·rw [if_pos rfl];refine ⟨by omega,by omega,by omega,by omega,?_⟩;show _<2^8;omega)
def spV (F:List (Int×Int×Int)):List AV:=F.flatMap fun x=>[.int .i64 x.1,.int .i64 x.2.1,.int .i64 x.2.2]
variable {F:List (Int×Int×Int)}
theorem spV_ls (h:∀ x ∈ F,fdP x) (hn:F.length≤1000):Ls spC F (.fz F.length none (spV F)):=by
 refine ⟨F.map fun x=>[.int .i64 x.1,.int .i64 x.2.1,.int .i64 x.2.2],?_,.inr (.inr ⟨none,by rw [← List.flatMap_def];rfl,?_⟩),by omega⟩
 ·refine All2.of_get (by simp) fun i x l h1 h2=>?_
  rw [List.getElem?_map,h1] at h2
  cases h2
  obtain ⟨q0,q1,q2,q3,q4⟩:=h x (List.mem_of_getElem? h1)
  exact ⟨[_],_,rfl,⟨rfl,i64_wf q0⟩,[_],_,rfl,⟨rfl,i64_wf (by unfold i64B;omega)⟩,rfl,i64_wf (by unfold i64B;omega)⟩
 ·rw [← List.flatMap_def]
  have:∀ F:List (Int×Int×Int),(spV F).length=F.length*3:=fun F=>by
   unfold spV
   induction F with
   | nil=>rfl
   | cons x F ih=>rw [List.flatMap_cons,List.length_append,ih,List.length_cons];simp;omega
  exact this F
def cd207:AC:=match a106 with|.mk c _=>c
theorem crcGo_ltW:∀ {bs:List Nat}{s:Nat},(∀ b ∈ bs,b<256)->s<4294967296->crcGo bs s<4294967296
 | [],s,_,h=>h
 | b::bs,s,hb,h=>by
  show crcGo bs (crcStep s b)<_
  refine crcGo_ltW (fun x hx=>hb x (by simp [hx])) (half_lt (half_lt (Nat.xor_lt_two_pow (n:=32) h ?_)))
  have:=hb b (by simp);omega
def sumW (bs:List Nat):Nat:=crcGo bs 4294967295 ^^^ 4294967295
def lbX (F:List (Int×Int×Int)):List Nat:=putN (pad (lbW F F.length)) 124 (sumW ((lbW F F.length).take 124)) 4
theorem lbX_ok (F:List (Int×Int×Int)):(lbX F).length=128∧∀ x ∈ lbX F,x<256:=by
 obtain ⟨h1,h2⟩:=lbW_ok F F.length
 exact ⟨by unfold lbX;rw [putN_length];exact pad_len128 h1,putN_lt (pad_lt h2) _⟩
def lbwR (args:List AV) (u:AV):Prop:=∃ c ev me lo dn op,args=[.agg (lbC c ev me lo dn op)]∧c.ok∧c.may∧lbP c ev me lo dn∧u=.tup [.fz 128 (some 128) (bys (lbX (lbF c ev me lo dn op))),.int .i64 0]
theorem lbw_ok (hE:EM P e) (h204:Con e 103 (relO lbR)) (h205:Con e 104 (relO lbfR)) (h206:Con e 105 putO) (h207:Inl e 106 cd207 [.tmp 2]) (h219:Con e 188 overO):OvOk P 43 (relO lbwR):=by
 refine relO_of g43.b ?_
 rintro args u ⟨c,ev,me,lo,dn,op,rfl,hc,hM,hP,rfl⟩
 refine ⟨rfl,rfl,C.of_G hE g43 ?_⟩
 have hck:∀ (Q:AV->St->Prop) s,Q (.int .i64 0) s->ESc e 103 [.agg (lbC c ev me lo dn op)] s Q:=fun Q s q=>ESc.rel h204 ⟨_,c,ev,me,lo,dn,op,rfl,hc,hM,hP,rfl⟩ (by rintro u ⟨_,_,_,_,_,_,-,-,-,-,rfl⟩;exact q)
 have hfd:∀ (Q:AV->St->Prop) s,Q (.fz (lbF c ev me lo dn op).length none (spV (lbF c ev me lo dn op))) s->ESc e 104 [.agg (lbC c ev me lo dn op)] s Q:=fun Q s q=>ESc.rel h205 ⟨_,c,ev,me,lo,dn,op,rfl,hc,hM,hP,rfl⟩ (by
  rintro u ⟨c',ev',me',lo',dn',op',e1,-,-,-,rfl⟩
  unfold lbC at e1
  injection e1 with e1
  injection e1 with e1
  simp only [List.cons.injEq,AV.int.injEq,AV.bool.injEq,true_and,and_true] at e1
  obtain ⟨q1,rfl,q3,q4,q5,q6,rfl,rfl,rfl,rfl⟩:=e1
  have:lbFC c' ev me lo dn op=spV (lbF c ev me lo dn op):=by
   unfold lbFC spV lbF
   rw [q1,q3,q4,q5,q6]
  rw [this];exact q)
 have hF:=lbF_ok (op:=op) hc hM hP
 have hlen:(lbF c ev me lo dn op).length=11:=rfl
 have hLs:=spV_ls hF (by omega)
 have hfin:=lbX_ok (lbF c ev me lo dn op)
 unfold lbX at hfin ⊢
 generalize lbF c ev me lo dn op=F at *
 obtain ⟨cs,hs',hl',hn⟩:=hLs.nth
 have huf:=hLs.hf
 generalize AV.fz F.length none (spV F)=u at *
 change VW P e 0 _ (initT [.agg (lbC c ev me lo dn op)] 0 .lf) St0 none [] _
 have hlb:lbC c ev me lo dn op=[.int .u32 c.id,.int .u32 ev,.int .i64 c.members,.int .i64 c.chunk,.int .i64 c.rows,.int .i64 c.log,.int .i64 me,.int .i64 lo,.int .i64 dn,.bool op]:=rfl
 rw [hlb] at hck hfd ⊢
 conv=>whnf
 repeat' (first|((first|refine hck _ _ ?_|refine hfd _ _ ?_|refine EPrim.lenZ rfl hs' ?_);conv=>whnf)|refine nq6 ?_ ?_|(intro _;first|omega|conv=>whnf))
 refine W.up hE F.length (fun i=>[(2,lbU F i),(13,u),(14,.int .i64 (F.length:Int)),(15,.int .i64 (i:Int))]) (fun _=>[]) (fun _=>True) trivial (Abs.tells (rs:=[]) .a) ?_
 intro i hi _
 have hUf:∀ i,AM.hf (lbU F i)=true:=fun i=>by unfold lbU;split <;> rfl
 have h128:∀ i,i<F.length->(lbW F (i+1)).length=128:=fun i hi=>by
  unfold lbW
  rw [List.getElem?_eq_getElem hi]
  show (putN _ _ _ _).length=128
  rw [putN_length];exact pad_len128 (lbW_ok F i).1
 have hU:∀ i,i≤F.length->BAt (lbU F i) (lbW F i):=fun i hi=>by
  cases i with
  | zero=>exact ⟨.inl ⟨rfl,rfl,rfl⟩,fun x hx=>by cases hx⟩
  | succ i=>
   have:=h128 i hi
   refine ⟨.inr (.inr ⟨some 128,?_,by rw [bys_length];exact (Nat.mul_one _).symm⟩),(lbW_ok F (i+1)).2⟩
   show AV.fz 128 (some 128) (bys (lbW F (i+1)))=_
   rw [this]
 have hUi:=hU i hi
 by_cases hlt:i<F.length
 ·obtain ⟨⟨n,a,z⟩,_,r,hx,⟨_,_,rfl,⟨rfl,-⟩,_,_,rfl,⟨rfl,-⟩,rfl,-⟩,hd⟩:=hn i hlt
  have hp:=fd_put (hF _ (List.mem_of_getElem? hx))
  have hUs:lbU F (i+1)=.fz 128 (some 128) (bys (putN (pad (lbW F i)) a.toNat n.toNat z.toNat)):=by
   show AV.fz 128 (some 128) (bys (lbW F (i+1)))=_
   rw [show lbW F (i+1)=putN (pad (lbW F i)) a.toNat n.toNat z.toNat from by
    show (match F[i]? with|none=>lbW F i|some x=>putN (pad (lbW F i)) x.2.1.toNat x.1.toNat x.2.2.toNat)=_
    rw [hx]]
  have hpt:=fun s=>putW_run (s:=s) hUi (lbW_ok F i).1 hp
  rw [hUs]
  generalize bys (putN (pad (lbW F i)) a.toNat n.toNat z.toNat)=B at *
  have hbf:=hUf i
  generalize lbU F i=b at *
  conv=>whnf
  repeat' (first|((first|refine nq23 hs' hlt hd ?_|refine ETake.eq (cs:=[.int .i64 n,.int .i64 a,.int .i64 z]) rfl ?_|refine ESc.ov h206 (hpt _) ?_|refine nq7 ?_|refine ⟨rfl,?_⟩);conv=>whnf)|refine nq1 ?_ ?_|refine nq6 ?_ ?_|(intro _;first|omega|conv=>whnf))
  exact ⟨hlt,trivial,Abs.tells (rs:=[]) .a⟩
 ·obtain rfl:i=F.length:=by omega
  have h11:=h128 10 (by omega)
  rw [show (10:Nat)+1=F.length by omega] at h11
  obtain ⟨w1,w2⟩:=lbW_ok F F.length
  have hbL:=hUi.ls (by omega)
  have htk:∀ x ∈ (lbW F F.length).take 124,x<256:=fun x hx=>w2 x (List.mem_of_mem_take hx)
  have hsm:sumW ((lbW F F.length).take 124)<4294967296:=Nat.xor_lt_two_pow (n:=32) (crcGo_ltW htk (by decide)) (by decide)
  have hov:∀ (v:AV) (s:St),Ls Ce.u8 ((lbW F F.length).take 124) v->overO [.int .u32 0,v] s=.ok (.int .u32 ((sumW ((lbW F F.length).take 124):Nat):Int)) s:=fun v s hv=>by
   show (gd (Nat.blt 0 4294967296) (Option.rec .fail (fun bs=>gd (Nat.blt (lenL bs) 1000000) (.ok (.int .u32 (.ofNat (Nat.xor (crcGo bs (Nat.xor 0 4294967295)) 4294967295))) s)) (bytesAt s v)):RV)=_
   rw [bytes_at hv.b]
   show gd true (gd (Nat.blt (lenL ((lbW F F.length).take 124)) 1000000) _)=_
   rw [lenL_eq,List.length_take,h11];rfl
  have hpt:=fun s=>putW_run (s:=s) (a:=124) (z:=4) (n:=((sumW ((lbW F F.length).take 124):Nat):Int)) hUi w1 (by
   unfold putOk fitsB
   rw [decide_eq_true (by omega),decide_eq_true ⟨Int.natCast_nonneg _,Nat.div_eq_of_lt (by rw [Int.toNat_natCast];exact hsm)⟩];rfl)
  rw [Int.toNat_natCast] at hpt
  have hfr:∀ (s:St),Frz s (.tup [.fz 128 (some 128) (bys (putN (pad (lbW F F.length)) 124 (sumW ((lbW F F.length).take 124)) 4)),.int .i64 0]) (.tup [.fz 128 (some 128) (bys (putN (pad (lbW F F.length)) 124 (sumW ((lbW F F.length).take 124)) 4)),.int .i64 0]):=fun s=>.plain _ rfl
  have h124:(124:Nat)≤(lbW F F.length).length:=by omega
  have hbf:=hUf F.length
  generalize lbU F F.length=b at *
  generalize sumW ((lbW F F.length).take 124)=S at *
  conv=>whnf
  refine EPrim.lss2 rfl rfl (fun h=>?_) (fun h=>?_)
  ·exfalso;omega
  conv=>whnf
  repeat' (first|((first|refine EPrim.slcP (i:=124) rfl hbL rfl rfl h124 (fun v hv=>?_)|refine ESc.inl h207 ?_|refine ESc.ov h219 (hov _ _ hv) ?_|refine ESc.ov h206 (hpt _) ?_|refine nq14 ?_);conv=>whnf)|fail)
  exact hfr _
def num (bs:List Nat) (a:Nat):Nat->Nat
 | 0=>0
 | n+1=>num bs a n ||| bs.getD (a+n) 0*2^(8*n)
theorem putN_getD (bs:List Nat) (a n:Nat):∀ (k i:Nat),(putN bs a n k).getD i 0=if a≤i∧i<a+k∧i<bs.length then n / 2^(8*(i-a)) % 256 else bs.getD i 0
 | 0,i=>by rw [if_neg (by omega)];rfl
 | k+1,i=>by
  have ih:=putN_getD bs a n k i
  show ((putN bs a n k).set (a+k) (n / 2^(8*k) % 256)).getD i 0=_
  rw [List.getD_eq_getElem?_getD,List.getElem?_set,putN_length]
  by_cases h:a+k=i
  ·subst h
   rw [if_pos rfl]
   by_cases hl:a+k<bs.length
   ·rw [if_pos hl,if_pos ⟨by omega,by omega,hl⟩,show a+k-a=k by omega];rfl
   ·rw [if_neg hl,if_neg (by omega),List.getD_eq_getElem?_getD,List.getElem?_eq_none (by omega)]
  ·rw [if_neg h,← List.getD_eq_getElem?_getD,ih]
   by_cases h2:a≤i∧i<a+k∧i<bs.length
   ·rw [if_pos h2,if_pos ⟨h2.1,by omega,h2.2.2⟩]
   ·rw [if_neg h2,if_neg (by omega)]
theorem num_bytes {bs:List Nat}{a n:Nat}:∀ (k:Nat),(∀ j,j<k->bs.getD (a+j) 0=n / 2^(8*j) % 256)->num bs a k=n % 2^(8*k)
 | 0,_=>by rw [Nat.mul_zero,Nat.pow_zero,Nat.mod_one];rfl
 | k+1,h=>by
  show num bs a k ||| bs.getD (a+k) 0*2^(8*k)=_
  rw [num_bytes k (fun j hj=>h j (by omega)),h k (by omega),Nat.or_comm,Nat.mul_comm (n / 2^(8*k) % 256),← Nat.two_pow_add_eq_or_of_lt (Nat.mod_lt _ (Nat.two_pow_pos _)),show 8*(k+1)=8*k+8 by omega,Nat.pow_add,Nat.mod_mul,Nat.add_comm]
variable {n:Nat}
theorem num_put {a k:Nat}(hl:a+k≤bs.length) (hn:n<2^(8*k)):num (putN bs a n k) a k=n:=by
 rw [num_bytes (n:=n) k (fun j hj=>?_),Nat.mod_eq_of_lt hn]
 rw [putN_getD,if_pos ⟨by omega,by omega,by omega⟩,show a+j-a=j by omega]
theorem num_congr {bs cs:List Nat}{a:Nat}:∀ (k:Nat),(∀ j,j<k->bs.getD (a+j) 0=cs.getD (a+j) 0)->num bs a k=num cs a k
 | 0,_=>rfl
 | k+1,h=>by
  show num bs a k ||| bs.getD (a+k) 0*2^(8*k)=num cs a k ||| cs.getD (a+k) 0*2^(8*k)
  rw [num_congr k (fun j hj=>h j (by omega)),h k (by omega)]
variable {m:Nat}
theorem num_skip {a b k:Nat}(h:b+m≤a∨a+k≤b):num (putN bs a n k) b m=num bs b m:=
 num_congr m fun j hj=>by rw [putN_getD,if_neg (by omega)]
theorem lbW_pad (F:List (Int×Int×Int)) (i:Nat):(pad (lbW F i)).length=128:=pad_len128 (lbW_ok F i).1
variable {i:Nat}
theorem padW {x:Int×Int×Int}(h:F[i]?=some x):pad (lbW F (i+1))=putN (pad (lbW F i)) x.2.1.toNat x.1.toNat x.2.2.toNat:=by
 have e:lbW F (i+1)=putN (pad (lbW F i)) x.2.1.toNat x.1.toNat x.2.2.toNat:=by
  show (match F[i]? with|none=>_|some x=>_)=_
  rw [h]
 rw [pad_of (by rw [e,putN_length];exact lbW_pad F i),e]
theorem num_lbW {F:List (Int×Int×Int)}{a k i:Nat}:∀ (n:Nat),(∀ j x,i≤j->j<i+n->F[j]?=some x->a+k≤x.2.1.toNat)->i+n≤F.length->num (pad (lbW F (i+n))) a k=num (pad (lbW F i)) a k
 | 0,_,_=>rfl
 | n+1,h,hl=>by
  obtain ⟨x,hx⟩:∃ x,F[i+n]?=some x:=⟨_,List.getElem?_eq_getElem (by omega)⟩
  have e:pad (lbW F (i+(n+1)))=_:=padW hx
  rw [e,num_skip (.inl (h (i+n) x (by omega) (by omega) hx))]
  exact num_lbW n (fun j x h1 h2=>h j x h1 (by omega)) (by omega)
variable {v k:Int}
theorem lbX_num (hx:F[i]?=some (v,a,k)) (hp:∀ j x,i<j->F[j]?=some x->a+k≤x.2.1) (ha:0≤a) (hk:0≤k) (he:a+k≤124) (hv:0≤v) (hv2:v.toNat<2^(8*k.toNat)):num (lbX F) a.toNat k.toNat=v.toNat:=by
 have hi:i<F.length:=(List.getElem?_eq_some_iff.1 hx).1
 have e1:num (lbX F) a.toNat k.toNat=num (pad (lbW F F.length)) a.toNat k.toNat:=num_skip (.inl (by omega))
 have e2:=num_lbW (F:=F) (a:=a.toNat) (k:=k.toNat) (i:=i+1) (F.length-(i+1)) (fun j x h1 h2 h3=>by have:=hp j x (by omega) h3;omega) (by omega)
 rw [show i+1+(F.length-(i+1))=F.length by omega] at e2
 rw [e1,e2,padW hx,num_put (by rw [lbW_pad];show a.toNat+k.toNat≤128;omega) hv2]
theorem lbX_take {ev:Int}(hc:c.ok) (hM:c.may) (hP:lbP c ev me lo dn) (hx:(lbF c ev me lo dn op)[i]?=some (v,a,k)):num (lbX (lbF c ev me lo dn op)) a.toNat k.toNat=v.toNat∧0≤v∧v<4294967296∧1≤k∧k≤4∧0≤a∧a+k≤124:=by
 have hid:=hc.id
 unfold u32B at hid
 have hM':=hM
 unfold Cfg.may at hM'
 have hmm:=may_mul hM
 have hlg:0≤(c.members+1)*(c.heads+1):=Int.mul_nonneg (by omega) (by omega)
 obtain ⟨p1,p2,p3,p4,p5⟩:=hP
 have hlo:0≤(if lo=-1 then 255 else lo)∧(if lo=-1 then 255 else lo)<256:=by split <;> omega
 have hop:0≤(if op=true then 1 else 0:Int)∧(if op=true then 1 else 0:Int)<256:=by split <;> omega
 have hdn:dn<256:=by unfold stripesN at *;omega
 have h11:i<11:=(List.getElem?_eq_some_iff.1 hx).1
 have hh:(0≤v∧v<4294967296∧v.toNat<2^(8*k.toNat))∧(1≤k∧k≤4)∧(0≤a∧a+k≤124)∧(∀ j x,i<j->(lbF c ev me lo dn op)[j]?=some x->a+k≤x.2.1):=by
  have later:∀ (b:Int) j x,i<j->(lbF c ev me lo dn op)[j]?=some x->(∀ j,j<11->i<j->b≤([0,1,5,9,10,11,12,13,14,15,16]:List Int).getD j 0)->b≤x.2.1:=by
   intro b j x hj hx h
   have hj2:j<11:=(List.getElem?_eq_some_iff.1 hx).1
   have:=h j hj2 hj
   have e:([0,1,5,9,10,11,12,13,14,15,16]:List Int).getD j 0=x.2.1:=by
    match j,hj2,hx with
    | 0,_,hx=>cases hx;rfl
    | 1,_,hx=>cases hx;rfl
    | 2,_,hx=>cases hx;rfl
    | 3,_,hx=>cases hx;rfl
    | 4,_,hx=>cases hx;rfl
    | 5,_,hx=>cases hx;rfl
    | 6,_,hx=>cases hx;rfl
    | 7,_,hx=>cases hx;rfl
    | 8,_,hx=>cases hx;rfl
    | 9,_,hx=>cases hx;rfl
    | 10,_,hx=>cases hx;rfl
    | n+11,h,_=>exact absurd h (by omega)
   omega
  match i,h11,hx,later with
  | 0,_,hx,l=>cases hx;exact ⟨by decide,by decide,by decide,fun j x h1 h2=>l _ j x h1 h2 (by decide)⟩
  | 1,_,hx,l=>cases hx;exact ⟨⟨by omega,by omega,by show c.id.toNat<4294967296;omega⟩,by decide,by decide,fun j x h1 h2=>l _ j x h1 h2 (by decide)⟩
  | 2,_,hx,l=>cases hx;exact ⟨⟨by omega,by omega,by show Int.toNat _<4294967296;omega⟩,by decide,by decide,fun j x h1 h2=>l _ j x h1 h2 (by decide)⟩
  | 3,_,hx,l=>cases hx;exact ⟨⟨by omega,by omega,by show c.members.toNat<256;omega⟩,by decide,by decide,fun j x h1 h2=>l _ j x h1 h2 (by decide)⟩
  | 4,_,hx,l=>cases hx;exact ⟨⟨by omega,by omega,by show c.chunk.toNat<256;omega⟩,by decide,by decide,fun j x h1 h2=>l _ j x h1 h2 (by decide)⟩
  | 5,_,hx,l=>cases hx;exact ⟨⟨by omega,by omega,by show c.rows.toNat<256;omega⟩,by decide,by decide,fun j x h1 h2=>l _ j x h1 h2 (by decide)⟩
  | 6,_,hx,l=>cases hx;exact ⟨⟨by omega,by omega,by show c.log.toNat<256;omega⟩,by decide,by decide,fun j x h1 h2=>l _ j x h1 h2 (by decide)⟩
  | 7,_,hx,l=>cases hx;exact ⟨⟨by omega,by omega,by show me.toNat<256;omega⟩,by decide,by decide,fun j x h1 h2=>l _ j x h1 h2 (by decide)⟩
  | 8,_,hx,l=>cases hx;exact ⟨⟨by omega,by omega,by show (if lo=-1 then 255 else lo).toNat<256;omega⟩,by decide,by decide,fun j x h1 h2=>l _ j x h1 h2 (by decide)⟩
  | 9,_,hx,l=>cases hx;exact ⟨⟨by omega,by omega,by show dn.toNat<256;omega⟩,by decide,by decide,fun j x h1 h2=>l _ j x h1 h2 (by decide)⟩
  | 10,_,hx,l=>cases hx;exact ⟨⟨by omega,by omega,by show (if op=true then 1 else 0:Int).toNat<256;omega⟩,by decide,by decide,fun j x h1 h2=>l _ j x h1 h2 (by decide)⟩
  | n+11,h,_,_=>exact absurd h (by omega)
 obtain ⟨⟨v1,v2,v3⟩,⟨k1,k2⟩,⟨a1,a2⟩,hl⟩:=hh
 exact ⟨lbX_num hx hl a1 (by omega) a2 v1 v3,v1,v2,k1,k2,a1,a2⟩
def lbB (c:Cfg) (o:Lo) (op:Bool) (i:Nat):List Nat:=lbX (lbF c (o.1+1) (i:Int) o.2.1 o.2.2.2.2.1 op)
def evL:Lo->Lo
 | (ev,r)=>(ev+1,r)
def skL (o:Lo) (i:Nat):Bool:=decide (o.2.1=(i:Int)∧o.2.2.1=false)
def lbsL (o:Lo) (n:Nat):List Nat:=(List.range n).filter fun i=>!skL o i
def lbsG (c:Cfg) (o:Lo) (op:Bool) (n:Nat):List AV:=(lbsL o n).flatMap fun (i:Nat)=>[AV.int .i64 (i:Int),.int .u8 2,.int .i64 0,.fz 128 (some 128) (bys (lbB c o op i))]
theorem lbsL_skip {o:Lo}{m:Nat}(h:skL o m=true):lbsL o (m+1)=lbsL o m:=by unfold lbsL;rw [List.range_succ,List.filter_append];simp [h]
theorem lbsL_take {o:Lo}{m:Nat}(h:skL o m=false):lbsL o (m+1)=lbsL o m++[m]:=by unfold lbsL;rw [List.range_succ,List.filter_append];simp [h]
theorem lbsG_skip {c:Cfg}{o:Lo}{op:Bool}{m:Nat}(h:skL o m=true):lbsG c o op (m+1)=lbsG c o op m:=by unfold lbsG;rw [lbsL_skip h]
theorem lbsG_take {c:Cfg}{o:Lo}{op:Bool}{m:Nat}(h:skL o m=false):lbsG c o op (m+1)=lbsG c o op m++[.int .i64 (m:Int),.int .u8 2,.int .i64 0,.fz 128 (some 128) (bys (lbB c o op m))]:=by unfold lbsG;rw [lbsL_take h,List.flatMap_append];rfl
theorem lbsG_hf (c:Cfg) (o:Lo) (op:Bool) (m:Nat):hfs (lbsG c o op m)=true:=hfs_iff.2 fun v hv=>by
 obtain ⟨s,_,hv⟩:=List.mem_flatMap.1 hv
 simp only [List.mem_cons,List.not_mem_nil,or_false] at hv
 rcases hv with rfl|rfl|rfl|rfl <;> rfl
theorem lbsG_len (c:Cfg) (o:Lo) (op:Bool) (m:Nat):(lbsG c o op m).length=(lbsL o m).length*4:=by
 unfold lbsG
 generalize lbsL o m=L
 induction L with
 | nil=>rfl
 | cons x L ih=>rw [List.flatMap_cons,List.length_append,ih,List.length_cons];simp;omega
theorem lbsL_le (o:Lo) (m:Nat):(lbsL o m).length≤m:=by
 have:=List.length_filter_le (fun i=>!skL o i) (List.range m)
 rw [List.length_range] at this
 exact this
theorem lbsL_mem {o:Lo}:i ∈ lbsL o m↔i<m∧skL o i=false:=by
 unfold lbsL
 rw [List.mem_filter,List.mem_range,Bool.not_eq_true']
theorem lbsL_ne (o:Lo) (h:2≤m):(lbsL o m).length≠0:=fun e=>by
 have e:=List.length_eq_zero_iff.1 e
 have h0:∀ i<m,skL o i=true:=fun i hi=>by
  cases hs:skL o i with
  | true=>rfl
  | false=>have:=lbsL_mem.2 ⟨hi,hs⟩;rw [e] at this;cases this
 have a:=of_decide_eq_true (h0 0 (by omega))
 have b:=of_decide_eq_true (h0 1 (by omega))
 have:=a.1.symm.trans b.1
 omega
def rw4 (x y z w:AObj):Nat->List AObj
 | 0=>[x,y,z]
 | _+1=>[x,y,z,w]
def lbsW (c:Cfg) (o:Lo) (op:Bool):AV:=if o.1=2147483648 then .tup [.agg [.int .u32 0,.int .i64 0,.bool false,.int .i64 0,.int .i64 0,.bool false,.bool false],.nils,.int .i64 9] else .tup [.agg (loC' (evL o)),.fz (lbsL o c.members.toNat).length none (lbsG c o op c.members.toNat),.int .i64 0]
noncomputable def lbgF:Fn (Cfg×Lo×Bool×Unit):=⟨.g cfgC (.g loC (.v Ce.bool .nil)),fun x=>x.1.may∧loB x.1 x.2.1∧x.2.1.2.2.2.2.2.2=false,fun x=>lbsW x.1 x.2.1 x.2.2.1⟩
theorem lbgF_ok (hE:EM P e) (h39:Con e 32 lossF.O) (h181:Con e 43 (relO lbwR)):OvOk P 126 lbgF.O:=by
 refine Fn.mk_ok g126.b ?_
 rintro ⟨c,⟨ev,lo,sp,po,dn,nl,br⟩,op,_⟩ _ ⟨_,_,rfl,⟨rfl,hc⟩,_,_,rfl,hlo,_,_,rfl,e1,rfl⟩ ⟨hM,hL,hbr⟩
 cases e1
 have hhf:AM.hf (lbgF.out (c,(ev,lo,sp,po,dn,nl,br),op,()))=true:=by
  show AM.hf (lbsW c (ev,lo,sp,po,dn,nl,br) op)=true
  unfold lbsW;split <;> rfl
 refine ⟨hhf,C.of_G hE g126 ?_⟩
 have hck:=fun (Q:AV->St->Prop) s a=>@cF.u _ _ _ _ e 32 s Q _ h39 (c,(ev,lo,sp,po,dn,nl,br),()) ⟨_,_,rfl,⟨rfl,hc⟩,_,_,rfl,hlo,rfl⟩ trivial (fun _=>a) (fun q=>absurd (And.intro hM hL) q)
 obtain ⟨rfl,h1,h2,h3,h4⟩:=lo_of hlo
 dsimp only at hM hL hc hbr hck
 subst hbr
 have hM':=hM
 unfold Cfg.may at hM'
 have hL':=hL
 unfold loB at hL'
 have hx:lo=-1->dn=0:=fun h=>by
  cases sp with
  | true=>have:=(hL'.2.2.2.1 rfl).1;omega
  | false=>exact (hL'.2.2.2.2 rfl).2
 have hdn:0≤dn∧dn≤stripesN c:=by
  have:=(may_mul hM).1
  cases sp with
  | true=>have:=hL'.2.2.2.1 rfl;omega
  | false=>have:=(hL'.2.2.2.2 rfl).2;omega
 unfold u32B at h1
 have fin9:ev=2147483648->∀ st,Frz st (.tup [.agg [.int .u32 0,.int .i64 0,.bool false,.int .i64 0,.int .i64 0,.bool false,.bool false],.nils,.int .i64 9]) (lbgF.out (c,(ev,lo,sp,po,dn,nl,false),op,())):=fun h st=>by
  show Frz st _ (lbsW c (ev,lo,sp,po,dn,nl,false) op)
  unfold lbsW;rw [if_pos h];exact .plain _ rfl
 have fin0:ev≠2147483648->∀ st r,st.get r=some (.row 56 (lbsG c (ev,lo,sp,po,dn,nl,false) op c.members.toNat))->Frz st (.tup [.agg [.int .u32 (ev+1),.int .i64 lo,.bool sp,.int .i64 po,.int .i64 dn,.bool nl,.bool false],.sl r 0 (lbsL (ev,lo,sp,po,dn,nl,false) c.members.toNat).length none,.int .i64 0]) (lbgF.out (c,(ev,lo,sp,po,dn,nl,false),op,())):=fun h st r hg=>by
  show Frz st _ (lbsW c (ev,lo,sp,po,dn,nl,false) op)
  unfold lbsW;rw [if_neg h]
  exact .tup _ _ (.cons (.plain _ rfl) (.cons (.sl r 0 _ _ _ 56 _ _ _ hg (fun i x hx=>by rw [Nat.zero_add];exact hx) (frz_hfs (lbsG_hf _ _ _ _)) (.inl rfl)) (.cons (.plain _ rfl) .nil)))
 have hlw:ev≠2147483648->∀ i:Nat,(i:Int)<c.members->∀ (Q:AV->St->Prop) s,Q (.tup [.fz 128 (some 128) (bys (lbB c (ev,lo,sp,po,dn,nl,false) op i)),.int .i64 0]) s->ESc e 43 [.agg [.int .u32 c.id,.int .u32 (ev+1),.int .i64 c.members,.int .i64 c.chunk,.int .i64 c.rows,.int .i64 c.log,.int .i64 (i:Int),.int .i64 lo,.int .i64 dn,.bool op]] s Q:=fun hev i hi Q s q=>by
  have hP:lbP c (ev+1) (i:Int) lo dn:=⟨by omega,by omega,⟨hL'.2.1,hL'.2.2.1⟩,hdn,hx⟩
  refine ESc.rel h181 ⟨_,c,ev+1,(i:Int),lo,dn,op,rfl,hc,hM,hP,rfl⟩ ?_
  rintro u ⟨c',ev',me',lo',dn',op',e1,-,-,-,hu⟩
  have e3:lbF c' ev' me' lo' dn' op'=lbF c (ev+1) (i:Int) lo dn op:=by
   have e1:=(List.cons.inj e1).1
   injection e1 with e1
   unfold lbC at e1
   simp only [List.cons.injEq,AV.int.injEq,AV.bool.injEq,true_and,and_true] at e1
   obtain ⟨q1,q2,q3,q4,q5,q6,q7,q8,q9,q10⟩:=e1
   unfold lbF
   rw [q1,q2,q3,q4,q5,q6,q7,q8,q9,q10]
  have e2:lbX (lbF c (ev+1) (i:Int) lo dn op)=lbB c (ev,lo,sp,po,dn,nl,false) op i:=by unfold lbB;rfl
  rw [hu,e3,e2];exact q
 generalize lbgF.out _=O at *
 change VW P e 0 _ (initT [.agg c.c,.agg _,.bool op] 0 .lf) St0 none [] _
 by_cases hev:ev=2147483648
 ·subst hev
  conv=>whnf
  repeat' (first|(refine hck _ _ ?_;conv=>whnf)|refine nq5 ?_ ?_|refine nq6 ?_ ?_|(intro _;first|omega|conv=>whnf))
  exact fin9 rfl _
 ·have hw:=hlw hev
  have f0:=fin0 hev
  have hm0:∃ M:Nat,c.members=M∧c.members.toNat=M∧M≤16∧3≤M:=⟨c.members.toNat,by omega,rfl,by omega,by omega⟩
  obtain ⟨M,m1,m2,m3,m4⟩:=hm0
  conv=>whnf
  repeat' (first|((first|refine hck _ _ ?_|refine nq10 ?_);conv=>whnf)|refine nq5 ?_ ?_|refine nq6 ?_ ?_|(intro _;first|omega|conv=>whnf))
  clear fin9 fin0 hlw
  rw [show (ev+1) % 4294967296=ev+1 by omega]
  have hsk:∀ i:Nat,skL (ev,lo,sp,po,dn,nl,false) i=decide (lo=(i:Int)∧sp=false):=fun _=>rfl
  have hgs:=fun i=>@lbsG_skip c (ev,lo,sp,po,dn,nl,false) op i
  have hgt:=fun i=>@lbsG_take c (ev,lo,sp,po,dn,nl,false) op i
  have hlss:=fun i=>@lbsL_skip (ev,lo,sp,po,dn,nl,false) i
  have hlt':=fun i=>@lbsL_take (ev,lo,sp,po,dn,nl,false) i
  have hgl:=lbsG_len c (ev,lo,sp,po,dn,nl,false) op
  have hgf:=lbsG_hf c (ev,lo,sp,po,dn,nl,false) op
  have hne:=lbsL_ne (ev,lo,sp,po,dn,nl,false) (m:=M) (by omega)
  have hle:=lbsL_le (ev,lo,sp,po,dn,nl,false)
  generalize hG:lbsG c (ev,lo,sp,po,dn,nl,false) op=G at *
  generalize hLL:lbsL (ev,lo,sp,po,dn,nl,false)=LL at *
  have h0:LL 0=[]:=by rw [← hLL];rfl
  refine W.upE hE M (fun i (b:Nat×List AV)=>[(2,.bool op),(3,.ptr 0 0),(4,.ptr 1 0),(6,.ptr 2 0),(10,slO b.1 3),(36,.int .i64 c.members),(37,.int .i64 (i:Int))]) (fun i (b:Nat×List AV)=>rw4 (.row 24 c.c) (.row 34 [.int .u32 (ev+1),.int .i64 lo,.bool sp,.int .i64 po,.int .i64 dn,.bool nl,.bool false]) (.row 34 [.int .u32 0,.int .i64 0,.bool false,.int .i64 0,.int .i64 0,.bool false,.bool false]) (.row 56 b.2) b.1) (fun i (b:Nat×List AV)=>b.1=(LL i).length∧b.2=G i) (0,G 0) ⟨by rw [h0];rfl,rfl⟩ (Abs.tells (rs:=[0,1,2]) ⟨by decide,⟨r9,r9,r9,r9,r9,r9,r9,trivial⟩,⟨r9,r9,r9,trivial⟩⟩) ?_
  rintro i ⟨k,C⟩ hi ⟨hk,hC⟩
  dsimp only at hk hC
  subst hC
  have hkb:k≤16:=by have:=hle i;omega
  have hli:(G i).length=k*4:=by rw [hgl,hk]
  by_cases hlt:i<M
  ·have hwi:=hw i (by omega)
   have hfi:=hgf (i+1)
   have hfs:=hgf i
   by_cases hs:lo=(i:Int)∧sp=false
   ·have e1:=hlss i (by rw [hsk];exact decide_eq_true hs)
    have e2:=hgs i (by rw [hsk];exact decide_eq_true hs)
    obtain ⟨rfl,rfl⟩:=hs
    rcases k with _|k
    all_goals
     conv=>whnf
     repeat' (first|((first|refine nq7 ?_|refine nq13 ?_|refine ⟨rfl,?_⟩);conv=>whnf)|refine nq1 ?_ ?_|refine nq5 ?_ ?_|(intro _;first|omega|conv=>whnf))
     refine ⟨hlt,(_,_),⟨hk.trans (by rw [e1]),e2.symm⟩,?_⟩
    ·exact Abs.tells (rs:=[0,1,2]) ⟨by decide,⟨r9,r9,r9,r9,r9,r9,r9,trivial⟩,⟨r9,r9,r9,trivial⟩⟩
    ·exact Abs.tells (rs:=[0,1,2,3]) ⟨by decide,⟨r9,r9,r9,r9,r9,r9,r9,trivial⟩,⟨r9,r9,r9,⟨rowH hfs,by rw [mapRowH hfs];rfl⟩,trivial⟩⟩
   ·have e1:=hlt' i (by rw [hsk];exact decide_eq_false hs)
    have e2:=hgt i (by rw [hsk];exact decide_eq_false hs)
    have hk2:k+1=(LL (i+1)).length:=by rw [e1,List.length_append,← hk];rfl
    have hst:lo=(i:Int)->sp=true:=fun h=>by
     cases sp with
     | true=>rfl
     | false=>exact absurd ⟨h,rfl⟩ hs
    generalize bys (lbB c (ev,lo,sp,po,dn,nl,false) op i)=B at *
    rcases k with _|k
    ·have hG0:G i=[]:=List.length_eq_zero_iff.1 (by rw [hli,Nat.zero_mul])
     rw [hG0,List.nil_append] at e2
     rw [e2] at hfi
     cases sp
     all_goals
      conv=>whnf
      repeat' (first|((first|refine hwi _ _ ?_|refine nq25 (m:=1) ?_|refine nq7 ?_|refine nq12 ?_|refine nq13 ?_|refine ⟨rfl,?_⟩);conv=>whnf)|refine nq1 ?_ ?_|refine nq5 ?_ ?_|refine nq6 ?_ ?_|(intro _;first|omega|conv=>whnf))
      all_goals first
       | exact ⟨hlt,(1,_),⟨hk2,e2.symm⟩,Abs.tells (rs:=[0,1,2,4]) ⟨by decide,⟨r9,r9,r9,r9,r9,r9,r9,trivial⟩,⟨r9,r9,r9,⟨rowH hfi,by rw [mapRowH hfi];rfl⟩,trivial⟩⟩⟩
       | exact absurd (hst (by omega)) Bool.false_ne_true
    ·cases sp
     all_goals
      conv=>whnf
      repeat' (first|((first|refine hwi _ _ ?_|refine EPrim.appU (m:=1) (n:=k+1) (old:=G i) rfl rfl rfl rfl hli rfl (by decide) (by omega) ?_|refine nq7 ?_|refine nq12 ?_|refine nq13 ?_|refine ⟨rfl,?_⟩);conv=>whnf)|refine nq1 ?_ ?_|refine nq5 ?_ ?_|refine nq6 ?_ ?_|(intro _;first|omega|conv=>whnf))
      all_goals first
       | exact ⟨hlt,(k+2,_),⟨hk2,e2.symm⟩,Abs.tells (rs:=[0,1,2,5]) ⟨by decide,⟨r9,r9,r9,r9,r9,r9,r9,trivial⟩,⟨r9,r9,r9,⟨rowH (e2 ▸ hfi),by rw [mapRowH (e2 ▸ hfi)];rfl⟩,trivial⟩⟩⟩
       | exact absurd (hst (by omega)) Bool.false_ne_true
  ·obtain rfl:i=M:=by omega
   have hk1:k≠0:=by rw [hk];exact hne
   obtain ⟨K,rfl⟩:∃ K,k=K+1:=⟨k-1,by omega⟩
   rw [m2,← hk] at f0
   conv=>whnf
   repeat' (first|refine nq1 ?_ ?_|(intro _;first|omega|conv=>whnf))
   exact f0 _ 3 rfl
def kilK (x:Dk):Dk:=(List.replicate x.1.length [],[],true)
noncomputable def kilA (x:Dk):List AV:=[.fz x.1.length none (rep [.nils] x.1.length),.nils,.bool true]
def kilR (args:List AV) (u:AV):Prop:=∃ x l,args=[.agg l]∧dkC.r x l∧smD x∧dkP x∧u=.tup [.agg (kilA x),.int .i64 0]
theorem rep_ls:∀ n:Nat,All2 bytC.r (List.replicate n []) (List.replicate n [.nils])∧(List.replicate n [AV.nils]).flatten=rep [.nils] n
 | 0=>⟨.nil,rfl⟩
 | n+1=>by
  obtain ⟨h1,h2⟩:=rep_ls n
  refine ⟨.cons ⟨_,rfl,Ls.no (.inl rfl)⟩ h1,?_⟩
  rw [List.replicate_succ,List.flatten_cons,h2]
  show _=appL [.nils] (rep [.nils] n)
  rw [appL_eq]
variable {x:Dk}
theorem kilK_r (h:smD x):dkC.r (kilK x) (kilA x):=by
 obtain ⟨h1,h2⟩:=rep_ls x.1.length
 refine ⟨[_],_,rfl,⟨_,rfl,_,h1,.inr (.inr ⟨none,?_,flat_len h1⟩),by show (List.replicate x.1.length ([]:List Nat)).length≤_;rw [List.length_replicate];have:=h.1;omega⟩,[_],_,rfl,⟨_,rfl,Ls.no (.inl rfl)⟩,rfl⟩
 rw [show (kilK x).1.length=x.1.length from List.length_replicate ..,h2]
theorem kil_use (h15:Con e 101 (relO kilR)) {l:List AV}(h:dkC.r x l) (h1:smD x) (h2:dkP x) (Q:AV->St->Prop) (s:St) (q:Q (.tup [.agg (kilA x),.int .i64 0]) s):ESc e 101 [.agg l] s Q:=by
 refine ESc.rel h15 ⟨_,x,l,rfl,h,h1,h2,rfl⟩ ?_
 rintro u ⟨x',l',e1,h',-,-,rfl⟩
 cases e1
 rw [dkC.inj h' h];exact q
theorem kil_ok (hE:EM P e) (h44:Con e 96 dskF.O):OvOk P 101 (relO kilR):=by
 refine relO_of g101.b ?_
 rintro args u ⟨x,l,rfl,hx,hsm,hk,rfl⟩
 have hrow:=dkC.hf hx
 have hck:=fun (Q:AV->St->Prop) s a=>dch_use (e:=e) h44 hx hsm Q s (fun _=>a) (fun q=>absurd hk q)
 have hr:=hfs_rep (z:=[.nils]) rfl x.1.length
 have hn:=hsm.1
 refine ⟨by show (hfs l && true)=true;rw [hrow];rfl,rfl,C.of_G hE g101 ?_⟩
 have fin:∀ st r,st.get r=some (.row 54 (rep [.nils] x.1.length))->Frz st (.tup [.agg [.sl r 0 x.1.length (some x.1.length),.nils,.bool true],.int .i64 0]) (.tup [.agg (kilA x),.int .i64 0]):=fun st r hg=>.tup _ _ (.cons (.agg _ _ (.cons (.sl r 0 _ _ _ 54 _ _ _ hg (fun i x hx=>by rw [Nat.zero_add];exact hx) (frz_hfs hr) (.inl rfl)) (.cons (.plain _ rfl) (.cons (.plain _ rfl) .nil)))) (.cons (.plain _ rfl) .nil))
 obtain ⟨bs,ws,dd⟩:=x
 obtain ⟨bv,wv,rfl,hb,hw⟩:=dk_of hx
 obtain ⟨cs,h1,-,-⟩:=hb.nth
 dsimp only at hn fin hr
 generalize AV.tup [.agg (kilA _),.int .i64 0]=O at fin ⊢
 generalize bs.length=n at *
 conv=>whnf
 repeat' (first|((first|refine hck _ _ ?_|refine nq21 h1 ?_|refine EPrim.mks rfl rfl (Nat.le_refl n) (by omega) ?_);conv=>whnf)|refine nq6 ?_ ?_|(intro _;first|omega|conv=>whnf))
 exact fin _ _ rfl
noncomputable def nwA (n:Nat):List AV:=[.fz n none (rep [.nils] n),.nils,.bool false]
def nwR (args:List AV) (u:AV):Prop:=∃ n:Nat,args=[.int .i64 (n:Int)]∧1≤n∧n≤256∧u=.tup [.agg (nwA n),.int .i64 0]
theorem nw_use (h62:Con e 42 (relO nwR)) (h1:1≤n) (h2:n≤256) (Q:AV->St->Prop) (s:St) (q:Q (.tup [.agg (nwA n),.int .i64 0]) s):ESc e 42 [.int .i64 (n:Int)] s Q:=by
 refine ESc.rel h62 ⟨_,n,rfl,h1,h2,rfl⟩ ?_
 rintro u ⟨m,e1,-,-,rfl⟩
 have e2:=(List.cons.inj e1).1
 injection e2 with _ e2
 rw [show m=n by omega];exact q
theorem nw_ok (hE:EM P e):OvOk P 42 (relO nwR):=by
 refine relO_of g42.b ?_
 rintro args u ⟨n,rfl,h1,h2,rfl⟩
 have hr:=hfs_rep (z:=[.nils]) rfl n
 refine ⟨rfl,rfl,C.of_G hE g42 ?_⟩
 have fin:∀ st r,st.get r=some (.row 54 (rep [.nils] n))->Frz st (.tup [.agg [.sl r 0 n (some n),.nils,.bool false],.int .i64 0]) (.tup [.agg (nwA n),.int .i64 0]):=fun st r hg=>.tup _ _ (.cons (.agg _ _ (.cons (.sl r 0 _ _ _ 54 _ _ _ hg (fun i x hx=>by rw [Nat.zero_add];exact hx) (frz_hfs hr) (.inl rfl)) (.cons (.plain _ rfl) (.cons (.plain _ rfl) .nil)))) (.cons (.plain _ rfl) .nil))
 generalize AV.tup [.agg (nwA _),.int .i64 0]=O at fin ⊢
 conv=>whnf
 repeat' (first|(refine EPrim.mks rfl rfl (Nat.le_refl n) (by omega) ?_;conv=>whnf)|refine nq1 ?_ ?_|refine nq3 ?_ ?_|(intro _;first|omega|conv=>whnf))
 exact fin _ _ rfl
variable {y:DK}
theorem stD_err {d:Nat}(hy:dskB y=true) (h:d≠3->(0≤a∧a<y.us.length)∧sized b):(stD y (k,d,a,b)).1=0∨(stD y (k,d,a,b)).1=9:=by
 unfold stD
 dsimp only
 cases hdd:y.dead with
 | true=>exact .inl rfl
 | false=>
  rw [if_neg Bool.false_ne_true]
  have hw:d≠3->wrtE y a b=0:=fun h3=>by
   obtain ⟨h1,h2⟩:=h h3
   unfold wrtE plcE
   rw [if_pos hy,if_pos h1,if_pos rfl,if_neg (by rw [odd_sized.2 h2];decide),hdd];rfl
  by_cases h1:d=1
  ·rw [if_pos h1]
   show dwE (stX y a b)=0∨dwE (stX y a b)=9
   unfold dwE
   rw [if_pos (show wrtE (stX y a b).d (stX y a b).a (stX y a b).b=0 from hw (by omega))]
   split
   ·exact .inr rfl
   ·exact .inl rfl
  ·rw [if_neg h1]
   by_cases h2:d=2
   ·rw [if_pos h2];exact .inl (hw (by omega))
   ·rw [if_neg h2]
    left
    show flE y=0
    unfold flE
    rw [if_pos hy,hdd];rfl
theorem dwD_see (y:DK) (a:Int) (b:List Nat) (p:Int):seenC (dkO (dwD (stX y a b))) p=if p=a then pad (pad b) else seenC (dkO y) p:=by
 have e:(dkO (dwD (stX y a b))).2.1=(dkO y).2.1++[(a,pad b)]:=by
  show (y.ws.map clnW++[_]).map (fun (w:WR)=>(w.at_,w.b))=y.ws.map (fun w=>(w.at_,w.b))++_
  rw [List.map_append,List.map_map];rfl
 unfold seenC
 rw [e,List.reverse_append]
 show pad ((if a=p then some (pad b) else lastC p (dkO y).2.1.reverse).getD _)=_
 by_cases h:p=a
 ·rw [if_pos h,if_pos h.symm];rfl
 ·rw [if_neg h,if_neg (fun g=>h g.symm)];rfl
variable {p:Int}
theorem flD_see (hy:y.ok) (h:dskB y=true) (hp:0≤p):seenC (dkO (flD y)) p=seenC (dkO y) p:=by
 rw [← seen_eq (dkO_of (flD_ok hy).a) p,← seen_eq (dkO_of hy.a) p,drdB_fl hy h hp]
theorem twD_dkO (y:DK):dkO (twD y)=dkO y:=by
 show (y.bs,(y.ws.map clnW).map (fun w=>(w.at_,w.b)),y.dead)=_
 rw [List.map_map];rfl
theorem tw_map (ys:List DK):(ys.map twD).map dkO=ys.map dkO:=by
 rw [List.map_map];exact List.map_congr_left fun y _=>twD_dkO y
variable {Y:List DK}{l:List Act}
theorem runI_succ {x:Act}(h:l[i]?=some x):runI Y l (i+1)=(stY (runI Y l i) x).2:=by
 show (match l[i]? with|none=>runI Y l i|some a=>(stY (runI Y l i) a).2)=_
 rw [h]
theorem runE_succ {x:Act}(h:l[i]?=some x) (h0:runE Y l i=0):runE Y l (i+1)=(stY (runI Y l i) x).1:=by
 show (if runE Y l i≠0 then runE Y l i else match l[i]? with|none=>0|some a=>(stY (runI Y l i) a).1)=_
 rw [if_neg (by rw [h0];decide),h]
theorem run_err {ys:List DK}{l:List Act}(hY:gdY (ys.map twD)) (hl:∀ x ∈ l,i64B x.2.2.1∧(∀ z ∈ x.2.2.2,z<256)∧mayA (ys.map dkO) x):∀ i,i≤l.length->runE (ys.map twD) l i=0∨runE (ys.map twD) l i=9
 | 0,_=>.inl rfl
 | i+1,hi=>by
  rcases run_err hY hl i (by omega) with h0|h9
  ·obtain ⟨g1,g2,g3⟩:=run_good hY hl i h0
   obtain ⟨x,hx⟩:∃ x,l[i]?=some x:=⟨_,List.getElem?_eq_getElem hi⟩
   rw [runE_succ hx h0]
   have hm:=(hl x (List.mem_of_getElem? hx)).2.2
   generalize runI (ys.map twD) l i=Y at *
   unfold stY
   cases hy:Y[x.1.toNat]? with
   | none=>exact .inl rfl
   | some y=>
    obtain ⟨k,d,a,b⟩:=x
    unfold mayA at hm
    refine stD_err (g1 y (List.mem_of_getElem? hy)).2 fun h3=>?_
    obtain ⟨⟨h4,h5⟩,h6⟩:=hm.2.2.2 h3
    obtain ⟨z,hz,hz2⟩:=g3 _ _ hy
    rw [List.getElem?_map] at hz
    cases hw:ys[k.toNat]? with
    | none=>dsimp only at hz;rw [hw] at hz;cases hz
    | some w=>
     dsimp only at hz
     rw [hw] at hz
     cases hz
     have h7:=h5 (dkO w) (by rw [List.getElem?_map,hw];rfl)
     have h8:(twD w).us.length=w.us.length:=List.length_map ..
     exact ⟨⟨h4,by
      have h9:=(hY (twD w) (List.mem_map.2 ⟨w,List.mem_of_getElem? hw,rfl⟩)).1.a.bs.length
      have h7:a<w.bs.length:=h7
      have h9:(twD w).us.length=w.bs.length:=h9
      rw [hz2];omega⟩,h6⟩
  ·exact .inr (by rw [← h9];exact runE_mono (by rw [h9];decide) _ (by omega))
def eff (D:List Dk) (l:List Act) (j:Nat) (p:Int):Nat->List Nat
 | 0=>seI D p j
 | i+1=>match l[i]? with
  | none=>eff D l j p i
  | some (k,d,a,b)=>if d=1∧k.toNat=j∧p=a then pad (pad b) else eff D l j p i
variable {j:Nat}{z:DK}
theorem seI_set {k:Nat}(hk:k<Y.length):seI ((Y.set k z).map dkO) p j=if k=j then seenC (dkO z) p else seI (Y.map dkO) p j:=by
 unfold seI
 rw [List.getElem?_map,List.getElem?_map]
 split
 ·rename_i h
  subst h
  rw [List.getElem?_set_self hk];rfl
 ·rename_i h
  rw [List.getElem?_set_ne h]
theorem dead_set {k:Nat}(hk:k<Y.length):deadC ((Y.set k z).map dkO) j=if k=j then z.dead else deadC (Y.map dkO) j:=by
 unfold deadC
 rw [List.getElem?_map,List.getElem?_map]
 split
 ·rename_i h
  subst h
  rw [List.getElem?_set_self hk];rfl
 ·rename_i h
  rw [List.getElem?_set_ne h]
theorem pad_128 (h:b.length=128):pad b=b:=by
 unfold pad
 rw [if_neg]
 rintro rfl
 cases h
theorem fuaD_see (hx:(stX y a b).ok) (h:wrtE y a b=0) (hp:0≤p):seenC (dkO (fuaD (stX y a b))) p=if p=a then pad (pad b) else seenC (dkO y) p:=by
 rw [← seen_eq (dkO_of (fuaD_ok hx h).a) p,show seenC (dkO y) p=pad (drdB y p) from (seen_eq (dkO_of (show y.any from hx.d.a)) p).symm,drdB_fua hx h hp]
 show pad (if p=a then pad b else drdB y p)=_
 by_cases hq:p=a
 ·rw [if_pos hq,if_pos hq]
 ·rw [if_neg hq,if_neg hq]
def eff2 (D:List Dk) (l:List Act) (j:Nat) (p:Int):Nat->List Nat
 | 0=>seI D p j
 | i+1=>match l[i]? with
  | none=>eff2 D l j p i
  | some (k,d,a,b)=>if d≠3∧k.toNat=j∧p=a then pad (pad b) else eff2 D l j p i
theorem run_see2 {ys:List DK}{l:List Act}(hY:gdY (ys.map twD)) (hl:∀ x ∈ l,i64B x.2.2.1∧(∀ z ∈ x.2.2.2,z<256)∧mayA (ys.map dkO) x) (hk:∀ x ∈ l,(x.2.1=1∨x.2.1=2∨x.2.1=3)∧deadC (ys.map dkO) x.1.toNat=false):∀ i,i≤l.length->runE (ys.map twD) l i=0->(∀ j,deadC ((runI (ys.map twD) l i).map dkO) j=deadC (ys.map dkO) j)∧∀ j p,0≤p->seI ((runI (ys.map twD) l i).map dkO) p j=eff2 (ys.map dkO) l j p i
 | 0,_,_=>by
  show (∀ j,deadC ((ys.map twD).map dkO) j=_)∧∀ j p,0≤p->seI ((ys.map twD).map dkO) p j=seI (ys.map dkO) p j
  rw [tw_map]
  exact ⟨fun _=>rfl,fun _ _ _=>rfl⟩
 | i+1,hi,he=>by
  have h0:runE (ys.map twD) l i=0:=Classical.byContradiction fun h=>by
   have:=runE_mono h (i+1) (by omega)
   rw [this] at he;exact h he
  obtain ⟨s1,s2⟩:=run_see2 hY hl hk i (by omega) h0
  obtain ⟨g1,g2,g3⟩:=run_good hY hl i h0
  obtain ⟨x,hx⟩:∃ x,l[i]?=some x:=⟨_,List.getElem?_eq_getElem hi⟩
  rw [runE_succ hx h0] at he
  rw [runI_succ hx]
  obtain ⟨e1,e2⟩:=hk x (List.mem_of_getElem? hx)
  have hm:=(hl x (List.mem_of_getElem? hx)).2.2
  have hxa:=(hl x (List.mem_of_getElem? hx)).1
  have hxb:=(hl x (List.mem_of_getElem? hx)).2.1
  have heff:∀ j p,eff2 (ys.map dkO) l j p (i+1)=if x.2.1≠3∧x.1.toNat=j∧p=x.2.2.1 then pad (pad x.2.2.2) else eff2 (ys.map dkO) l j p i:=fun j p=>by
   show (match l[i]? with|none=>_|some (k,d,a,b)=>if d≠3∧k.toNat=j∧p=a then pad (pad b) else eff2 (ys.map dkO) l j p i)=_
   rw [hx]
  generalize runI (ys.map twD) l i=Y at *
  obtain ⟨k,d,a,b⟩:=x
  dsimp only at e1 e2 heff
  unfold mayA at hm
  obtain ⟨⟨m1,m2⟩,-,-,hms⟩:=hm
  rw [List.length_map] at m2 g2
  have hkl:k.toNat<Y.length:=by omega
  obtain ⟨y,hy⟩:∃ y,Y[k.toNat]?=some y:=⟨_,List.getElem?_eq_getElem hkl⟩
  have hd:y.dead=false:=by
   have:=s1 k.toNat
   rw [e2] at this
   unfold deadC at this
   rw [List.getElem?_map,hy] at this
   exact this
  have hgy:=g1 y (List.mem_of_getElem? hy)
  have hst:stY Y (k,d,a,b)=((stD y (k,d,a,b)).1,Y.set k.toNat (stD y (k,d,a,b)).2):=by
   unfold stY;dsimp only;rw [hy]
  rw [hst]
  dsimp only
  have hse:seI (Y.map dkO)=fun p j=>seI (Y.map dkO) p j:=rfl
  have hyk:∀ p,seI (Y.map dkO) p k.toNat=seenC (dkO y) p:=fun p=>by unfold seI;rw [List.getElem?_map,hy];rfl
  have hdk:deadC (Y.map dkO) k.toNat=y.dead:=by unfold deadC;rw [List.getElem?_map,hy];rfl
  rcases e1 with rfl|rfl|rfl
  ·have hz:(stD y (k,1,a,b)).2=dwD (stX y a b):=by unfold stD;dsimp only;rw [if_neg (by rw [hd];decide)];rfl
   rw [hz]
   refine ⟨fun j=>?_,fun j p hp=>?_⟩
   ·rw [dead_set hkl,← s1]
    split
    ·rename_i h;subst h;rw [hdk];rfl
    ·rfl
   ·rw [seI_set hkl,heff,dwD_see,← s2 j p hp]
    by_cases h1:k.toNat=j
    ·subst h1
     rw [if_pos rfl,hyk]
     by_cases h2:p=a
     ·rw [if_pos h2,if_pos ⟨by decide,rfl,h2⟩]
     ·rw [if_neg h2,if_neg fun h=>h2 h.2.2]
    ·rw [if_neg h1,if_neg fun h=>h1 h.2.1]
  ·have hwe:wrtE y a b=0:=by
    rw [hst] at he
    have he:(stD y (k,2,a,b)).1=0:=he
    unfold stD at he;dsimp only at he;rw [if_neg (by rw [hd];decide)] at he;exact he
   have hxo:(stX y a b).ok:=stX_ok hgy.1 hxa hxb (hms (by decide)).2
   have hz:(stD y (k,2,a,b)).2=fuaD (stX y a b):=by unfold stD;dsimp only;rw [if_neg (by rw [hd];decide)];rfl
   rw [hz]
   refine ⟨fun j=>?_,fun j p hp=>?_⟩
   ·rw [dead_set hkl,← s1]
    split
    ·rename_i h;subst h;rw [hdk];rfl
    ·rfl
   ·rw [seI_set hkl,heff,fuaD_see hxo hwe hp,← s2 j p hp]
    by_cases h1:k.toNat=j
    ·subst h1
     rw [if_pos rfl,hyk]
     by_cases h2:p=a
     ·rw [if_pos h2,if_pos ⟨by decide,rfl,h2⟩]
     ·rw [if_neg h2,if_neg fun h=>h2 h.2.2]
    ·rw [if_neg h1,if_neg fun h=>h1 h.2.1]
  ·have hz:(stD y (k,3,a,b)).2=flD y:=by unfold stD;dsimp only;rw [if_neg (by rw [hd];decide)];rfl
   rw [hz]
   refine ⟨fun j=>?_,fun j p hp=>?_⟩
   ·rw [dead_set hkl,← s1]
    split
    ·rename_i h;subst h;rw [hdk,hd];rfl
    ·rfl
   ·rw [heff,if_neg (fun h=>h.1 rfl),seI_set hkl,flD_see hgy.1 hgy.2 hp,← s2 j p hp]
    split
    ·rename_i h;subst h;exact (hyk p).symm
    ·rfl
theorem dkc_Ls (h:∀ y ∈ Y,y.ok) (hn:Y.length≤1000):Ls dkV Y (.fz Y.length none (dkc Y)):=by
 refine ⟨Y.map DK.c,?_,.inr (.inr ⟨none,?_,?_⟩),by omega⟩
 ·refine All2.of_get (by simp) fun i y l h1 h2=>?_
  rw [List.getElem?_map,h1] at h2
  cases h2
  exact ⟨rfl,h y (List.mem_of_getElem? h1)⟩
 ·rw [← List.flatMap_def];rfl
 ·rw [← List.flatMap_def];exact dkc_len Y
theorem smD_of (h:y.ok):smD (dkO y):=by
 refine ⟨?_,?_,h.b,fun w hw=>?_⟩
 ·show y.bs.length<_;rw [← h.a.bs.length];exact h.n
 ·show (List.map _ y.ws).length<_;rw [List.length_map];exact h.m
 ·obtain ⟨x,hx,rfl⟩:=List.mem_map.1 hw
  exact h.w x hx
variable {ys:List DK}
theorem run_any {A:List Act}(hM:c.may) (h20:m20P c (ys.map dkO)) (hok:∀ y ∈ ys,y.ok) (hn:A.length≤1024) (hmy:∀ x ∈ A,mayA (ys.map dkO) x) (hb:∀ x ∈ A,i64B x.2.2.1∧∀ z ∈ x.2.2.2,z<256) (hk:∀ x ∈ A,(x.2.1=1∨x.2.1=2∨x.2.1=3)∧deadC (ys.map dkO) x.1.toNat=false):
 chN A (ys.map dkO)=0∧∀ n,n=A.length->(runE (ys.map twD) A n=0∨runE (ys.map twD) A n=9)∧(runE (ys.map twD) A n=0->gdY (runI (ys.map twD) A n)∧(runI (ys.map twD) A n).length=ys.length∧m20P c ((runI (ys.map twD) A n).map dkO)∧(∀ j,deadC ((runI (ys.map twD) A n).map dkO) j=deadC (ys.map dkO) j)∧∀ j p,0≤p->seI ((runI (ys.map twD) A n).map dkO) p j=eff2 (ys.map dkO) A j p n):=by
 have hM':=hM
 unfold Cfg.may at hM'
 have h20l:=h20.1
 have hch:chN A (ys.map dkO)=0:=by
  unfold chN
  rw [if_pos ⟨by omega,fun x hx=>by
   obtain ⟨i,hi⟩:=List.getElem?_of_mem hx
   exact (h20.2 i (List.getElem?_eq_some_iff.1 hi).1 x hi).2⟩,if_neg (by omega),if_pos hmy]
 refine ⟨hch,?_⟩
 rintro n rfl
 obtain ⟨-,hgd,-⟩:=ch_ok hok hch
 have hg0:gdY (ys.map twD):=fun y hy=>by
  obtain ⟨x,hx,rfl⟩:=List.mem_map.1 hy
  exact ⟨twD_ok (hgd x hx).1,twD_dsk (hgd x hx).2⟩
 have hl:∀ x ∈ A,i64B x.2.2.1∧(∀ z ∈ x.2.2.2,z<256)∧mayA (ys.map dkO) x:=fun x hx=>⟨(hb x hx).1,(hb x hx).2,hmy x hx⟩
 refine ⟨run_err hg0 hl _ (Nat.le_refl _),fun he=>?_⟩
 obtain ⟨g1,g2,g3⟩:=run_good hg0 hl _ he
 obtain ⟨s1,s2⟩:=run_see2 hg0 hl hk _ (Nat.le_refl _) he
 generalize runI (ys.map twD) A A.length=Y at *
 rw [List.length_map] at g2 h20l
 refine ⟨g1,g2,⟨by rw [List.length_map,g2];exact h20l,fun i hi x hx=>?_⟩,s1,s2⟩
 rw [List.length_map] at hi
 rw [List.getElem?_map] at hx
 obtain ⟨y,hy⟩:∃ y,Y[i]?=some y:=⟨_,List.getElem?_eq_getElem hi⟩
 rw [hy] at hx
 cases hx
 have hgy:=g1 y (List.mem_of_getElem? hy)
 obtain ⟨z,hz,hz2⟩:=g3 i y hy
 have hil:i<ys.length:=by omega
 rw [List.getElem?_map,List.getElem?_eq_getElem hil] at hz
 cases hz
 have h1:=(h20.2 i (by rw [List.length_map];exact hil) (dkO ys[i]) (by rw [List.getElem?_map,List.getElem?_eq_getElem hil];rfl)).1
 have e1:(dkO y).1.length=y.us.length:=hgy.1.a.bs.length.symm
 have e2:(dkO ys[i]).1.length=ys[i].us.length:=(hok _ (List.getElem_mem hil)).a.bs.length.symm
 have e3:(twD ys[i]).us.length=ys[i].us.length:=List.length_map ..
 refine ⟨?_,by rw [← dk_iff (dkO_of hgy.1.a)];exact hgy.2⟩
 rw [e1,hz2,e3,← e2]
 exact h1
theorem eff2_no {D:List Dk}{A:List Act}{j:Nat}{p:Int}(h:∀ x ∈ A,x.2.1=3∨x.2.2.1≠p):∀ n,eff2 D A j p n=seI D p j
 | 0=>rfl
 | n+1=>by
  unfold eff2
  cases hx:A[n]? with
  | none=>exact eff2_no h n
  | some x=>
   obtain ⟨k,d,a,b⟩:=x
   dsimp only
   rw [if_neg,eff2_no h n]
   rintro ⟨h1,-,h3⟩
   rcases h _ (List.mem_of_getElem? hx) with h'|h'
   ·exact h1 h'
   ·exact h' h3.symm
noncomputable def nwD (n:Nat):DK:=⟨.fz n none (rep [.nils] n),List.replicate n .nils,List.replicate n [],.nils,[],false⟩
theorem rep_nils:∀ n:Nat,rep [AV.nils] n=List.replicate n .nils
 | 0=>rfl
 | n+1=>by
  show appL [.nils] (rep [.nils] n)=_
  rw [appL_eq,rep_nils n];rfl
theorem all2_rep {α β:Type}{R:α->β->Prop}{x:α}{y:β}(h:R x y):∀ n:Nat,All2 R (List.replicate n x) (List.replicate n y)
 | 0=>.nil
 | n+1=>.cons h (all2_rep h n)
theorem nwD_ok (h:n≤256):(nwD n).ok:=by
 refine ⟨⟨?_,all2_rep ⟨.inl ⟨rfl,rfl,rfl⟩,fun x hx=>by cases hx⟩ n,.inl ⟨rfl,rfl,rfl⟩,fun w hw=>by cases hw⟩,?_,by show 0<1000000;decide,fun b hb=>?_,fun w hw=>by cases hw⟩
 ·refine .inr (.inr ⟨none,?_,(Nat.mul_one _).symm⟩)
  show AV.fz n none (rep [.nils] n)=.fz (List.replicate n AV.nils).length none (List.replicate n AV.nils)
  rw [rep_nils,List.length_replicate]
 ·show (List.replicate n AV.nils).length<_
  rw [List.length_replicate];omega
 ·rw [List.eq_of_mem_replicate hb];decide
theorem nwD_dsk (h1:1≤n) (h2:n≤256):dskB (nwD n)=true:=by
 have hl:(nwD n).us.length=n:=List.length_replicate ..
 refine dskB_iff.2 ⟨⟨by omega,by omega,Nat.zero_le _⟩,fun b hb=>?_,fun w hw=>(by cases hw),fun h=>(by cases h)⟩
 have hb:b ∈ List.replicate n []:=hb
 rw [List.eq_of_mem_replicate hb];rfl
theorem nwD_see (n:Nat) (p:Int):seenC (dkO (nwD n)) p=List.replicate 128 0:=by
 have e:(List.replicate n ([]:List Nat)).getD p.toNat []=[]:=by
  rw [List.getD_eq_getElem?_getD]
  cases hx:(List.replicate n ([]:List Nat))[p.toNat]? with
  | none=>rfl
  | some b=>exact List.eq_of_mem_replicate (List.mem_of_getElem? hx)
 show pad ((none:Option (List Nat)).getD ((List.replicate n ([]:List Nat)).getD p.toNat []))=_
 rw [e];rfl
noncomputable def frD (n:Nat) (b:List Nat):DK:=fuaD (stX (nwD n) 0 b)
theorem fr_stx (h2:n≤256) (hb:b.length=128∧∀ x ∈ b,x<256):(stX (nwD n) 0 b).ok:=
 ⟨nwD_ok h2,show i64B 0 by unfold i64B;omega,uB_at hb.2,by show b.length<_;omega⟩
theorem fr_wrt (h1:1≤n) (h2:n≤256) (hb:b.length=128):wrtE (nwD n) 0 b=0:=by
 have hp:plcE (nwD n) 0=0:=by
  unfold plcE
  rw [if_pos (nwD_dsk h1 h2)]
  have hl:(nwD n).us.length=n:=List.length_replicate ..
  first
   | rw [if_pos ⟨by omega,by omega⟩]
   | rw [if_neg (by omega)]
 unfold wrtE
 rw [if_pos hp,if_neg (by rw [hb];decide),if_neg (by show ¬false=true;decide)]
theorem frD_ok (h1:1≤n) (h2:n≤256) (hb:b.length=128∧∀ x ∈ b,x<256):(frD n b).ok∧dskB (frD n b)=true∧(frD n b).us.length=n∧(frD n b).dead=false∧∀ p:Int,0≤p->seenC (dkO (frD n b)) p=if p=0 then b else List.replicate 128 0:=by
 have hx:=fr_stx h2 hb
 have hw:=fr_wrt h1 h2 hb.1
 refine ⟨fuaD_ok hx hw,fuaD_dsk hx hw,(fuaD_len _).trans (List.length_replicate ..),rfl,fun p hp=>?_⟩
 have:=fuaD_see hx hw hp
 rw [nwD_see,pad_of (bs:=pad b) (by rw [pad_of hb.1];exact hb.1),pad_of hb.1] at this
 exact this
theorem mem_dAdd {l:List Int}:a ∈ dAdd k l↔a ∈ l∨a=k:=by
 unfold dAdd
 split
 ·rename_i h
  constructor
  ·exact .inl
  ·rintro (h'|rfl)
   ·exact h'
   ·exact h
 ·simp
theorem dAdd_nodup {l:List Int}(h:l.Nodup):(dAdd k l).Nodup:=by
 unfold dAdd
 split
 ·exact h
 ·rename_i hk
  rw [List.nodup_append]
  exact ⟨h,by simp,by rintro a ha b hb rfl;simp at hb;subst hb;exact hk ha⟩
theorem snocInd {p:List Lv->Prop}(h0:p []) (h1:∀ L x,p L->p (L++[x])):∀ L,p L:=by
 intro L
 have:∀ (n:Nat) (L:List Lv),L.length=n->p L:=by
  intro n
  induction n with
  | zero=>intro L hL;rw [List.length_eq_zero_iff.1 hL];exact h0
  | succ n ih=>
   intro L hL
   rcases List.eq_nil_or_concat L with rfl|⟨M,x,rfl⟩
   ·exact h0
   ·rw [List.concat_eq_append];exact h1 M x (ih M (by simpa using hL))
 exact this L.length L rfl
theorem lastI_pre {L:List Lv}{x:Lv}{s:Int}:∀ n,n≤L.length->lastI (L++[x]) s n=lastI L s n
 | 0,_=>rfl
 | n+1,h=>by
  unfold lastI
  rw [lastI_pre n (by omega),List.getElem?_append_left (by omega)]
variable {L:List Lv}
theorem lastI_snoc {x:Lv}{s:Int}:lastI (L++[x]) s (L++[x]).length=if x.stripe=s then (L.length:Int) else lastI L s L.length:=by
 rw [List.length_append]
 show lastI (L++[x]) s (L.length+1)=_
 rw [show lastI (L++[x]) s (L.length+1)=if (L++[x])[L.length]?.map Lv.stripe=some s then (L.length:Int) else lastI (L++[x]) s L.length from rfl,List.getElem?_append_right (Nat.le_refl _),Nat.sub_self,lastI_pre _ (Nat.le_refl _)]
 show (if some x.stripe=some s then _ else _)=_
 by_cases h:x.stripe=s
 ·rw [if_pos h,if_pos (by rw [h])]
 ·rw [if_neg h,if_neg fun g=>h (Option.some.inj g)]
def dirtE (L:List Lv) (s:Int):Prop:=∃ i x,L[i]?=some x∧lastI L x.stripe L.length=(i:Nat)∧x.par=false∧x.stripe=s
theorem dirtE_snoc {x:Lv}{s:Int}:dirtE (L++[x]) s↔if x.stripe=s then x.par=false else dirtE L s:=by
 unfold dirtE
 constructor
 ·rintro ⟨i,y,h1,h2,h3,h4⟩
  rw [lastI_snoc] at h2
  split
  ·rename_i hs
   rw [h4,if_pos hs] at h2
   have:L.length=i:=by omega
   subst this
   rw [List.getElem?_append_right (Nat.le_refl _),Nat.sub_self] at h1
   cases h1
   exact h3
  ·rename_i hs
   rw [h4,if_neg hs] at h2
   have hlt:=(lastI_lt L s L.length).2
   rw [List.getElem?_append_left (by omega)] at h1
   exact ⟨i,y,h1,by rw [h4];exact h2,h3,h4⟩
 ·intro h
  split at h
  ·rename_i hs
   exact ⟨L.length,x,by rw [List.getElem?_append_right (Nat.le_refl _),Nat.sub_self];rfl,by rw [lastI_snoc,if_pos rfl],h,hs⟩
  ·rename_i hs
   obtain ⟨i,y,h1,h2,h3,h4⟩:=h
   exact ⟨i,y,by rw [List.getElem?_append_left (List.getElem?_eq_some_iff.1 h1).1];exact h1,by rw [lastI_snoc,h4,if_neg hs,← h4];exact h2,h3,h4⟩
theorem dirtyL_snoc (L:List Lv) (x:Lv):dirtyL (L++[x])=dStep (dirtyL L) x:=by unfold dirtyL;rw [List.foldl_append];rfl
theorem dirtyL_spec (L:List Lv):(dirtyL L).Nodup∧∀ s,s ∈ dirtyL L↔dirtE L s:=by
 refine snocInd (p:=fun L=>(dirtyL L).Nodup∧∀ s,s ∈ dirtyL L↔dirtE L s) ?_ ?_ L
 ·exact ⟨by simp [dirtyL],fun s=>by simp [dirtyL,dirtE]⟩
 ·rintro L x ⟨hn,hm⟩
  rw [dirtyL_snoc]
  unfold dStep
  have hn':=dAdd_nodup (k:=x.stripe) hn
  by_cases hp:x.par=true
  ·rw [if_pos hp]
   refine ⟨hn'.erase _,fun s=>?_⟩
   rw [dirtE_snoc,hn'.mem_erase_iff,mem_dAdd,hm,hp]
   by_cases hs:x.stripe=s
   ·rw [if_pos hs];simp [hs]
   ·rw [if_neg hs]
    constructor
    ·rintro ⟨h1,h2|h2⟩
     ·exact h2
     ·exact absurd h2.symm hs
    ·intro h;exact ⟨fun h'=>hs h'.symm,.inl h⟩
  ·rw [if_neg hp]
   refine ⟨hn',fun s=>?_⟩
   rw [dirtE_snoc,mem_dAdd,hm]
   by_cases hs:x.stripe=s
   ·rw [if_pos hs]
    simp at hp
    exact ⟨fun _=>hp,fun _=>.inr hs.symm⟩
   ·rw [if_neg hs]
    exact ⟨fun h=>h.resolve_right fun g=>hs g.symm,.inl⟩
def manyL (L:List Lv):Nat->List Int
 | 0=>[]
 | i+1=>manyL L i++(match L[i]? with
  | some x=>if lastI L x.stripe L.length=i∧x.par=false then [x.stripe] else []
  | none=>[])
theorem manyL_len (L:List Lv):∀ n,((manyL L n).length:Int)=manyI L n
 | 0=>rfl
 | n+1=>by
  unfold manyL manyI
  rw [List.length_append,← manyL_len L n]
  cases L[n]? with
  | none=>simp
  | some x=>
   show (((manyL L n).length+(if lastI L x.stripe L.length=n∧x.par=false then [x.stripe] else ([]:List Int)).length:Nat):Int)=_+mStep L n x
   unfold mStep
   split <;> simp
theorem manyL_mem {L:List Lv}{s:Int}:∀ {n},s ∈ manyL L n↔∃ i x,i<n∧L[i]?=some x∧lastI L x.stripe L.length=(i:Nat)∧x.par=false∧x.stripe=s
 | 0=>⟨fun h=>(by cases h),fun ⟨i,x,h,_⟩=>absurd h (Nat.not_lt_zero _)⟩
 | n+1=>by
  unfold manyL
  rw [List.mem_append,manyL_mem]
  constructor
  ·rintro (⟨i,x,h,h'⟩|h)
   ·exact ⟨i,x,by omega,h'⟩
   ·cases hx:L[n]? with
    | none=>rw [hx] at h;cases h
    | some x=>
     rw [hx] at h
     dsimp only at h
     split at h
     ·rename_i hq
      rw [List.mem_singleton] at h
      exact ⟨n,x,by omega,hx,hq.1,hq.2,h.symm⟩
     ·cases h
  ·rintro ⟨i,x,h1,h2,h3,h4,h5⟩
   by_cases hi:i<n
   ·exact .inl ⟨i,x,hi,h2,h3,h4,h5⟩
   ·obtain rfl:i=n:=by omega
    right
    rw [h2]
    dsimp only
    rw [if_pos ⟨h3,h4⟩,h5]
    exact List.mem_singleton.2 rfl
theorem manyL_nodup (L:List Lv):∀ n,(manyL L n).Nodup
 | 0=>List.nodup_nil
 | n+1=>by
  unfold manyL
  rw [List.nodup_append]
  refine ⟨manyL_nodup L n,?_,?_⟩
  ·cases L[n]? with
   | none=>exact List.nodup_nil
   | some x=>dsimp only;split <;> simp
  ·rintro a ha b hb rfl
   obtain ⟨i,y,h1,h2,h3,h4,h5⟩:=manyL_mem.1 ha
   cases hx:L[n]? with
   | none=>rw [hx] at hb;cases hb
   | some x=>
    rw [hx] at hb
    dsimp only at hb
    split at hb
    ·rename_i hq
     rw [List.mem_singleton] at hb
     rw [h5,hb] at h3
     have:=hq.1
     omega
    ·cases hb
theorem dirty_many (L:List Lv):((dirtyL L).length:Int)=manyI L L.length:=by
 rw [← manyL_len]
 obtain ⟨h1,h2⟩:=dirtyL_spec L
 have:=((List.perm_ext_iff_of_nodup h1 (manyL_nodup L L.length)).2 fun s=>by
  rw [h2,manyL_mem]
  unfold dirtE
  constructor
  ·rintro ⟨i,x,h,h'⟩;exact ⟨i,x,(List.getElem?_eq_some_iff.1 h).1,h,h'⟩
  ·rintro ⟨i,x,_,h⟩;exact ⟨i,x,h⟩).length_eq
 rw [this]
theorem homes_take {L:List Lv}(hh:∀ (k:Nat) (x:Lv),L[k]?=some x->x.home=true->homeP L k):∀ i,i≤L.length->∀ tk:List Int,(∀ j y,i≤j->L[j]?=some y->y.home=true->y.par=true->y.stripe ∈ tk)->homesG (L.take i).reverse tk=true
 | 0,_,_,_=>rfl
 | i+1,hi,tk,ht=>by
  obtain ⟨x,hx⟩:∃ x,L[i]?=some x:=⟨_,List.getElem?_eq_getElem hi⟩
  have e:(L.take (i+1)).reverse=x::(L.take i).reverse:=by rw [List.take_add_one,hx];simp
  rw [e]
  have hm:∀ s,s ∈ tk->s ∈ hTake tk x:=fun s hs=>by unfold hTake;split;exact mem_dAdd.2 (.inl hs);exact hs
  have hs:x.home=true->x.par=true->x.stripe ∈ hTake tk x:=fun h1 h2=>by unfold hTake;rw [h1,h2];exact mem_dAdd.2 (.inr rfl)
  have hb:hBad tk x=false:=by
   unfold hBad
   cases hxh:x.home with
   | false=>rfl
   | true=>
    obtain ⟨h1,j,y,h2,h3,h4,h5,h6⟩:=hh i x hx hxh x hx
    have:x.stripe ∈ hTake tk x:=by
     by_cases hj:i=j
     ·subst hj
      rw [hx] at h3
      cases h3
      exact hs h5 h6
     ·rw [← h4]
      exact hm _ (ht j y (by omega) h3 h5 h6)
    rw [h1,decide_eq_true this];rfl
  show (!hBad tk x && homesG (L.take i).reverse (hTake tk x))=true
  rw [hb,homes_take hh i (by omega) (hTake tk x) fun j y h1 h2 h3 h4=>by
   by_cases hj:i=j
   ·subst hj
    rw [hx] at h2
    cases h2
    exact hs h3 h4
   ·exact hm _ (ht j y (by omega) h2 h3 h4)]
  rfl
def sureP (L:List Lv):Nat->Bool
 | 0=>true
 | i+1=>(L[i]?.map Lv.sure).getD true
theorem rightL_drop {c:Cfg}{ag sq tl us:Int}{L:List Lv}(hn:sq≤2147483648) (he:∀ i y,L[i]?=some y->eP c L sq i y):∀ k i,i+k=L.length->∀ u:Int,rightL ⟨⟨ag,sq,tl,us,L⟩,c⟩ i u (sureP L i) (L.drop i)=some (u+usedI L L.length-usedI L i)
 | 0,i,hi,u=>by
  obtain rfl:i=L.length:=by omega
  rw [List.drop_length]
  show some u=_
  congr 1;omega
 | k+1,i,hi,u=>by
  have hlt:i<L.length:=by omega
  obtain ⟨x,hx⟩:∃ x,L[i]?=some x:=⟨_,List.getElem?_eq_getElem hlt⟩
  have hd:L.drop i=x::L.drop (i+1):=by
   rw [List.drop_eq_getElem_cons hlt,(List.getElem?_eq_some_iff.1 hx).2]
  rw [hd]
  obtain ⟨h1,h2,h3,h4,h5,h6,h7⟩:=he i x hx
  have hb:¬lvBad ⟨⟨ag,sq,tl,us,L⟩,c⟩ i (sureP L i) x:=by
   unfold lvBad
   dsimp only
   unfold stripesN at h1
   rintro (h|h|h|h|h|h|⟨h,h'⟩)
   ·omega
   ·omega
   ·omega
   ·omega
   ·omega
   ·omega
   ·cases i with
    | zero=>cases h'
    | succ i=>
     obtain ⟨y,hy⟩:∃ y,L[i]?=some y:=⟨_,List.getElem?_eq_getElem (by omega)⟩
     have:=h6 (by omega) h y hy
     have h':(L[i]?.map Lv.sure).getD true=false:=h'
     rw [hy] at h'
     have h':y.sure=false:=h'
     rw [this] at h';cases h'
  show (if lvBad _ i _ x then none else rightL _ (i+1) (u+x.blocks) x.sure (L.drop (i+1)))=_
  rw [if_neg hb]
  have ih:=rightL_drop (ag:=ag) (tl:=tl) (us:=us) hn he k (i+1) (by omega) (u+x.blocks)
  rw [show x.sure=sureP L (i+1) by show _=(L[i]?.map Lv.sure).getD true;rw [hx];rfl,ih]
  congr 1
  have:usedI L (i+1)=usedI L i+x.blocks:=by
   show usedI L i+((L[i]?.map Lv.blocks).getD 0)=_
   rw [hx];rfl
  omega
theorem lg_good {lg:Lg}(hM:c.may) (h:lgB c lg):lgG c lg:=by
 obtain ⟨ag,sq,tl,us,L⟩:=lg
 unfold lgB at h
 obtain ⟨⟨a1,a2,a3,a4,a5,a6,a7⟩,he,rfl,hr⟩:=h
 unfold roomP at hr
 have hm:=manyI_le L L.length
 have hM':=hM
 unfold Cfg.may at hM'
 have hu:=usedI_le (lg_small hM a7 he) L.length
 have hmm:0≤(c.members+1)*manyI L L.length:=Int.mul_nonneg (by omega) hm.1
 refine ⟨hM,?_⟩
 unfold rightB
 have h1:topB ⟨⟨ag,sq,tl,usedI L L.length,L⟩,c⟩:=by
  unfold topB numB
  simp only [decide_eq_true_eq]
  omega
 have h2:rightL ⟨⟨ag,sq,tl,usedI L L.length,L⟩,c⟩ 0 0 true L=some (usedI L L.length):=by
  have:=rightL_drop (ag:=ag) (tl:=tl) (us:=usedI L L.length) a4 he L.length 0 (by omega) 0
  rw [List.drop_zero] at this
  rw [show (true:Bool)=sureP L 0 from rfl,this]
  congr 1
  show 0+usedI L L.length-0=_
  omega
 have h3:(L.length:Int)<sq:=by
  cases L with
  | nil=>exact a3
  | cons x L=>
   have:=(he 0 x rfl)
   unfold eP at this
   omega
 have h4:homesB L=true:=by
  have:=homes_take (L:=L) (fun k x hx hh=>(he k x hx).2.2.2.2.2.2 hh) L.length (Nat.le_refl _) [] fun j y h1 h2=>by
   have:=(List.getElem?_eq_some_iff.1 h2).1;omega
  rw [List.take_length] at this
  exact this
 have h5:roomB ⟨⟨ag,sq,tl,usedI L L.length,L⟩,c⟩=true:=by
  unfold roomB
  dsimp only
  rw [dirty_many,i64_in (by omega)]
  simp only [Bool.and_eq_true,decide_eq_true_eq]
  omega
 dsimp only
 rw [h2,decide_eq_true h1,h4,h5]
 simp only [decide_eq_true_eq,Bool.true_and,Bool.and_true,Bool.and_eq_true]
 exact ⟨trivial,h3⟩
open Classical in
open Classical in
open Classical in
open Classical in
noncomputable def fzY (ys:List DK):AV:=.fz ys.length none (dkc ys)
variable {D:List Dk}
theorem sei_put {z:Dk}(hm:m<D.length):seI (D.set m z) p j=if m=j then seenC z p else seI D p j:=by
 unfold seI
 rw [List.getElem?_set]
 by_cases h:m=j
 ·subst h;rw [if_pos rfl,if_pos rfl,if_pos hm];rfl
 ·rw [if_neg h,if_neg h]
theorem dead_put {z:Dk}(hm:m<D.length):deadC (D.set m z) j=if m=j then z.2.2 else deadC D j:=by
 unfold deadC
 rw [List.getElem?_set]
 by_cases h:m=j
 ·subst h;rw [if_pos rfl,if_pos rfl,if_pos hm];rfl
 ·rw [if_neg h,if_neg h]
theorem kil_smD (h:smD x):smD (kilK x):=⟨by show (List.replicate x.1.length ([]:List Nat)).length<_;rw [List.length_replicate];exact h.1,by show ([]:List (Int×List Nat)).length<_;simp,fun b hb=>by rw [List.eq_of_mem_replicate hb];simp,fun w hw=>by cases hw⟩
theorem kil_dkP (h:dkP x):dkP (kilK x):=by
 obtain ⟨bs,ws,dd⟩:=x
 obtain ⟨h1,-⟩:=h
 refine ⟨?_,fun b hb=>.inl ?_,fun w hw=>(by cases hw),fun _=>⟨rfl,fun b hb=>?_⟩⟩
 ·show 1≤(List.replicate bs.length ([]:List Nat)).length∧(List.replicate bs.length ([]:List Nat)).length≤256∧_
  rw [List.length_replicate]
  exact ⟨h1.1,h1.2.1,by simp⟩
 ·rw [List.eq_of_mem_replicate hb];rfl
 ·rw [List.eq_of_mem_replicate hb];rfl
theorem kil_m20 (h:m20P c D) (hx:D[m]?=some x):m20P c (D.set m (kilK x)):=by
 have hm:=(List.getElem?_eq_some_iff.1 hx).1
 refine ⟨by rw [List.length_set];exact h.1,fun i hi y hy=>?_⟩
 rw [List.length_set] at hi
 rw [List.getElem?_set] at hy
 by_cases q:m=i
 ·subst q
  rw [if_pos rfl,if_pos hm] at hy
  cases hy
  obtain ⟨h1,h2⟩:=h.2 m hi x hx
  exact ⟨by show ((List.replicate x.1.length ([]:List Nat)).length:Int)=_;rw [List.length_replicate];exact h1,kil_dkP h2⟩
 ·rw [if_neg q] at hy
  exact h.2 i hi y hy
def zeB:List Nat:=List.replicate 128 0
structure ArP (c:Cfg) (D:List Dk) (ev:Int) (op:Bool) (S:List Nat) (lo:Int):Prop where
 m:c.may
 f:m20P c D
 d:∀ i:Nat,deadC D i=true↔lo=(i:Int)
 b:-1≤lo∧lo<c.members
 l:∀ i:Nat,(i:Int)<c.members->lo≠(i:Int)->seI D 0 i=lbX (lbF c ev (i:Int) (-1) 0 op)
 j:seI D 0 c.members.toNat=S
 z:∀ p:Int,1≤p->∀ i:Nat,(i:Int)≤c.members->lo≠(i:Int)->seI D p i=zeB
theorem run_fua {ys:List DK}{A:List Act}(hY:gdY (ys.map twD)) (hl:∀ x ∈ A,i64B x.2.2.1∧(∀ z ∈ x.2.2.2,z<256)∧mayA (ys.map dkO) x) (hk:∀ x ∈ A,x.2.1=2):∀ i,i≤A.length->runE (ys.map twD) A i=0
 | 0,_=>rfl
 | i+1,hi=>by
  have ih:=run_fua hY hl hk i (by omega)
  rcases run_err hY hl (i+1) hi with h|h
  ·exact h
  ·obtain ⟨x,hx⟩:∃ x,A[i]?=some x:=⟨_,List.getElem?_eq_getElem (by omega)⟩
   rw [runE_succ hx ih] at h
   have hk2:=hk x (List.mem_of_getElem? hx)
   obtain ⟨k,d,a,b⟩:=x
   dsimp only at hk2
   subst hk2
   exfalso
   unfold stY at h
   split at h
   ·cases h
   ·rename_i y hy
    have e:(stD y (k,2,a,b)).1=if y.dead=true then 0 else wrtE y a b:=by
     unfold stD
     dsimp only
     split
     ·rfl
     ·rw [if_neg (by decide),if_pos rfl]
    have h:(stD y (k,2,a,b)).1=9:=h
    rw [e] at h
    unfold wrtE plcE at h
    revert h
    repeat' split
    all_goals decide
theorem eff2_at {D:List Dk}{A:List Act}{j i:Nat}{k:Int}{d:Nat}{a:Int}{b:List Nat}(hx:A[i]?=some (k,d,a,b)) (hd:d≠3) (hj:k.toNat=j) (hl:∀ n x,i<n->A[n]?=some x->x.1.toNat≠j):∀ n,i<n->eff2 D A j a n=pad (pad b)
 | 0,h=>absurd h (by omega)
 | n+1,h=>by
  unfold eff2
  rcases Nat.lt_or_eq_of_le (Nat.le_of_lt_succ h) with h|rfl
  ·cases hy:A[n]? with
   | none=>exact eff2_at hx hd hj hl n h
   | some y=>
    obtain ⟨k',d',a',b'⟩:=y
    dsimp only
    rw [if_neg (fun q=>hl n _ h hy q.2.1)]
    exact eff2_at hx hd hj hl n h
  ·rw [hx]
   dsimp only
   rw [if_pos ⟨hd,hj,rfl⟩]
def opL (c:Cfg) (ev:Int) (S:List Nat):List Act:=(c.members,2,0,S)::(List.range c.members.toNat).map fun (i:Nat)=>((i:Int),2,0,lbX (lbF c ev (i:Int) (-1) 0 true))
variable {S:List Nat}
theorem opL_mem {ev:Int}{x:Act}(h:x ∈ opL c ev S) (hM:0≤c.members) (hS:S.length=128∧∀ z ∈ S,z<256):∃ (i:Nat) (b:List Nat),(i:Int)≤c.members∧(b.length=128∧∀ z ∈ b,z<256)∧x=((i:Int),2,0,b):=by
 rcases List.mem_cons.1 h with h|hx
 ·exact ⟨c.members.toNat,S,by omega,hS,by rw [h,Int.toNat_of_nonneg hM]⟩
 ·obtain ⟨i,hi,h⟩:=List.mem_map.1 hx
  have:=List.mem_range.1 hi
  exact ⟨i,_,by omega,lbX_ok _,h.symm⟩
theorem run_ar {ev:Int}{S2:List Nat}(h:ArP c (ys.map dkO) ev op S (-1)) (hok:∀ y ∈ ys,y.ok) (hS:S2.length=128∧∀ z ∈ S2,z<256) (hn:n=(opL c (ev+1) S2).length):
 chN (opL c (ev+1) S2) (ys.map dkO)=0∧runE (ys.map twD) (opL c (ev+1) S2) n=0∧gdY (runI (ys.map twD) (opL c (ev+1) S2) n)∧(runI (ys.map twD) (opL c (ev+1) S2) n).length=ys.length∧ArP c ((runI (ys.map twD) (opL c (ev+1) S2) n).map dkO) (ev+1) true S2 (-1):=by
 obtain ⟨hM,h20,hd,-,hL,hJ,hZ⟩:=h
 have hM':=hM
 unfold Cfg.may at hM'
 have h20l:=h20.1
 have hdd:∀ i:Nat,deadC (ys.map dkO) i=false:=fun i=>by
  cases hq:deadC (ys.map dkO) i with
  | false=>rfl
  | true=>have:=(hd i).1 hq;omega
 have hmem:=fun x hx=>opL_mem (x:=x) (c:=c) (ev:=ev+1) (S:=S2) hx (by omega) hS
 have hAl:(opL c (ev+1) S2).length=c.members.toNat+1:=by unfold opL;rw [List.length_cons,List.length_map,List.length_range]
 have hmay:∀ x ∈ opL c (ev+1) S2,mayA (ys.map dkO) x:=fun x hx=>by
  obtain ⟨i,b,hi,hX,rfl⟩:=hmem x hx
  refine ⟨⟨Int.natCast_nonneg _,by omega⟩,by show 1≤2∧2≤3;decide,fun h=>absurd h (by show (2:Nat)≠3;decide),fun _=>⟨⟨Int.le_refl 0,fun x hx=>?_⟩,.inr hX.1⟩⟩
  have hi2:=(List.getElem?_eq_some_iff.1 hx).1
  have:=(h20.2 _ hi2 x hx).2
  obtain ⟨bs,ws,dd⟩:=x
  have:=this.1.1
  show (0:Int)<bs.length
  omega
 have hb:∀ x ∈ opL c (ev+1) S2,i64B x.2.2.1∧∀ z ∈ x.2.2.2,z<256:=fun x hx=>by
  obtain ⟨i,b,hi,hX,rfl⟩:=hmem x hx
  exact ⟨by show i64B 0;unfold i64B;omega,hX.2⟩
 have hk:∀ x ∈ opL c (ev+1) S2,x.2.1=2:=fun x hx=>by
  obtain ⟨i,b,hi,hX,rfl⟩:=hmem x hx
  rfl
 obtain ⟨r1,r2⟩:=run_any hM h20 hok (by omega) hmay hb (fun x hx=>⟨.inr (.inl (hk x hx)),hdd _⟩)
 obtain ⟨-,hgd,-⟩:=ch_ok hok r1
 have hg0:gdY (ys.map twD):=fun y hy=>by
  obtain ⟨x,hx,rfl⟩:=List.mem_map.1 hy
  exact ⟨twD_ok (hgd x hx).1,twD_dsk (hgd x hx).2⟩
 have he:runE (ys.map twD) (opL c (ev+1) S2) n=0:=run_fua hg0 (fun x hx=>⟨(hb x hx).1,(hb x hx).2,hmay x hx⟩) hk n (by omega)
 obtain ⟨g1,g2,g3,g4,g5⟩:=(r2 n hn).2 he
 have at0:∀ (i:Nat) b,(opL c (ev+1) S2)[i]?=some b->∀ m x,i<m->(opL c (ev+1) S2)[m]?=some x->x.1.toNat≠b.1.toNat:=by
  intro i b hi m x hm hx
  obtain ⟨m,rfl⟩:∃ q,m=q+1:=⟨m-1,by omega⟩
  have hml:=(List.getElem?_eq_some_iff.1 hx).1
  rw [hAl] at hml
  have e1:x.1.toNat=m:=by
   unfold opL at hx
   rw [List.getElem?_cons_succ,List.getElem?_map,List.getElem?_range (by omega)] at hx
   cases hx;rfl
  rw [e1]
  rcases i with _|i
  ·unfold opL at hi
   cases hi
   show m≠c.members.toNat
   omega
  ·unfold opL at hi
   rw [List.getElem?_cons_succ,List.getElem?_map,List.getElem?_range (by omega)] at hi
   cases hi
   show m≠((i:Nat):Int).toNat
   omega
 have key:∀ (i j:Nat) k b,(opL c (ev+1) S2)[i]?=some (k,2,0,b)->k.toNat=j->b.length=128->seI ((runI (ys.map twD) (opL c (ev+1) S2) n).map dkO) 0 j=b:=fun i j k b hi hj hb=>by
  rw [g5 j 0 (by omega),eff2_at hi (by decide) hj (fun m x h1 h2=>by have:=at0 i _ hi m x h1 h2;rw [← hj];exact this) n (by have:=(List.getElem?_eq_some_iff.1 hi).1;omega),pad_128 hb,pad_128 hb]
 refine ⟨r1,he,g1,g2,hM,g3,fun i=>by rw [g4,hdd];constructor <;> intro q <;> first|cases q|omega,by omega,fun i hi _=>?_,?_,fun p hp i hi hl=>?_⟩
 ·refine key (i+1) i (i:Int) _ ?_ rfl (lbX_ok _).1
  unfold opL
  rw [List.getElem?_cons_succ,List.getElem?_map,List.getElem?_range (by omega)];rfl
 ·exact key 0 _ c.members S2 rfl rfl hS.1
 ·rw [g5 i p (by omega),eff2_no (fun x hx=>.inr ?_) n]
  ·exact hZ p hp i hi hl
  ·obtain ⟨i,b,hi,hX,rfl⟩:=hmem x hx
   show (0:Int)≠p;omega
theorem kill_ar {ev:Int}(h:ArP c D ev op S (-1)) {m:Int}(hm:0≤m∧m<c.members) (hx:D[m.toNat]?=some x):ArP c (D.set m.toNat (kilK x)) ev op S m:=by
 obtain ⟨hM,h20,hd,-,hL,hJ,hZ⟩:=h
 have hml:=(List.getElem?_eq_some_iff.1 hx).1
 have hdd:∀ i:Nat,deadC D i=false:=fun i=>by
  cases hq:deadC D i with
  | false=>rfl
  | true=>have:=(hd i).1 hq;omega
 refine ⟨hM,kil_m20 h20 hx,fun i=>?_,by omega,fun i hi hl=>?_,?_,fun p hp i hi hl=>?_⟩
 ·rw [dead_put hml]
  by_cases q:m.toNat=i
  ·rw [if_pos q]
   exact ⟨fun _=>by omega,fun _=>rfl⟩
  ·rw [if_neg q,hdd]
   exact ⟨fun h=>(by cases h),fun h=>absurd h (by omega)⟩
 ·rw [sei_put hml,if_neg (by omega)];exact hL i hi (by omega)
 ·rw [sei_put hml,if_neg (by omega)];exact hJ
 ·rw [sei_put hml,if_neg (by omega)];exact hZ p hp i hi (by omega)
noncomputable def fmD (c:Cfg) (i:Nat):DK:=frD (stripesN c+1).toNat (lbX (lbF c 1 (i:Int) (-1) 0 false))
noncomputable def fmM (c:Cfg) (n:Nat):List DK:=(List.range n).map (fmD c)
noncomputable def fmY (c:Cfg) (S:List Nat):List DK:=fmM c c.members.toNat++[frD (c.log+1).toNat S]
theorem fmY_at (h:(fmY c S)[i]?=some y):(i<c.members.toNat∧y=fmD c i)∨(i=c.members.toNat∧y=frD (c.log+1).toNat S):=by
 unfold fmY fmM at h
 rw [List.getElem?_append,List.length_map,List.length_range] at h
 split at h
 ·rename_i hi
  rw [List.getElem?_map,List.getElem?_range hi] at h
  cases h
  exact .inl ⟨hi,rfl⟩
 ·rename_i hi
  have:=(List.getElem?_eq_some_iff.1 h).1
  simp at this
  rw [show i-c.members.toNat=0 by omega] at h
  cases h
  exact .inr ⟨by omega,rfl⟩
theorem fmY_len (c:Cfg) (S:List Nat):(fmY c S).length=c.members.toNat+1:=by
 unfold fmY fmM
 rw [List.length_append,List.length_map,List.length_range];rfl
theorem fm_ok (hM:c.may) (hc:c.ok) (hS:S.length=128∧∀ z ∈ S,z<256):ArP c ((fmY c S).map dkO) 1 false S (-1)∧(∀ y ∈ fmY c S,y.ok)∧(fmY c S).length≤17:=by
 have hM':=hM
 unfold Cfg.may at hM'
 have hmm:=may_mul hM
 have hlg:0≤(c.members+1)*(c.heads+1):=Int.mul_nonneg (by omega) (by omega)
 have hst:1≤(stripesN c+1).toNat∧(stripesN c+1).toNat≤256∧0≤stripesN c:=by unfold stripesN at *;omega
 have hj:1≤(c.log+1).toNat∧(c.log+1).toNat≤256:=by omega
 have hd:=fun i=>frD_ok hst.1 hst.2.1 (lbX_ok (lbF c 1 (i:Int) (-1) 0 false))
 have hjd:=frD_ok hj.1 hj.2 hS
 have hok:∀ y ∈ fmY c S,y.ok:=fun y hy=>by
  obtain ⟨i,hi⟩:=List.getElem?_of_mem hy
  rcases fmY_at hi with ⟨-,rfl⟩|⟨-,rfl⟩
  ·exact (hd i).1
  ·exact hjd.1
 have hl:=fmY_len c S
 have hds:∀ i:Nat,i<c.members.toNat->(fmY c S)[i]?=some (fmD c i):=fun i hi=>by
  unfold fmY fmM
  rw [List.getElem?_append_left (by rw [List.length_map,List.length_range];exact hi),List.getElem?_map,List.getElem?_range hi];rfl
 have hjs:(fmY c S)[c.members.toNat]?=some (frD (c.log+1).toNat S):=by
  unfold fmY fmM
  rw [List.getElem?_append_right (by simp),show c.members.toNat-(List.map (fmD c) (List.range c.members.toNat)).length=0 by simp];rfl
 have hse:∀ (i:Nat) y (p:Int),(fmY c S)[i]?=some y->seI ((fmY c S).map dkO) p i=seenC (dkO y) p:=fun i y p h=>by
  unfold seI
  rw [List.getElem?_map,h];rfl
 refine ⟨⟨hM,⟨?_,fun i hi d hd'=>?_⟩,fun i=>?_,by omega,fun i hi _=>?_,?_,fun p hp i hi _=>?_⟩,hok,by omega⟩
 ·rw [List.length_map,hl];omega
 ·rw [List.getElem?_map] at hd'
  cases hy:(fmY c S)[i]? with
  | none=>rw [hy] at hd';cases hd'
  | some y=>
   rw [hy] at hd'
   cases hd'
   have hyo:=hok y (List.mem_of_getElem? hy)
   have hlen:((dkO y).1.length:Int)=y.us.length:=by rw [hyo.a.bs.length];rfl
   rw [hlen,← dk_iff (dkO_of hyo.a)]
   rcases fmY_at hy with ⟨h1,rfl⟩|⟨h1,rfl⟩
   ·rw [if_neg (by omega)]
    have:=(hd i).2.2.1
    exact ⟨by unfold fmD;rw [this];omega,(hd i).2.1⟩
   ·rw [if_pos (by omega)]
    exact ⟨by rw [hjd.2.2.1];omega,hjd.2.1⟩
 ·have e:deadC ((fmY c S).map dkO) i=false:=by
   unfold deadC
   rw [List.getElem?_map]
   cases hy:(fmY c S)[i]? with
   | none=>rfl
   | some y=>
    rcases fmY_at hy with ⟨h1,rfl⟩|⟨h1,rfl⟩
    ·exact (hd i).2.2.2.1
    ·exact hjd.2.2.2.1
  rw [e]
  exact ⟨fun h=>(by cases h),fun h=>absurd h (by omega)⟩
 ·rw [hse i _ 0 (hds i (by omega))]
  have:=(hd i).2.2.2.2 0 (by omega)
  rw [if_pos rfl] at this
  exact this
 ·rw [hse _ _ 0 hjs]
  have:=hjd.2.2.2.2 0 (by omega)
  rw [if_pos rfl] at this
  exact this
 ·by_cases q:i<c.members.toNat
  ·rw [hse i _ p (hds i q)]
   have:=(hd i).2.2.2.2 p (by omega)
   rw [if_neg (by omega)] at this
   exact this
  ·rw [show i=c.members.toNat by omega,hse _ _ p hjs]
   have:=hjd.2.2.2.2 p (by omega)
   rw [if_neg (by omega)] at this
   exact this
noncomputable def ftnF:Fn (Cfg×List Dk×Int×Int×Int×Unit):=⟨.g cfgC (.v dkC.sl (.v i64C (.v i64C (.v i64C .nil)))),fun x=>(x.1.may∧m20P x.1 x.2.1∧(∀ d ∈ x.2.1,smD d)∧∀ i<x.1.members.toNat,deadC x.2.1 i=false)∧(0≤x.2.2.2.1∧x.2.2.2.1<stripesN x.1)∧(0≤x.2.2.2.2.1∧x.2.2.2.2.1<x.1.members)∧x.2.2.1=-1,fun x=>.tup [fzB (seI x.2.1 (x.2.2.2.1+1) (onM x.1 x.2.2.2.1 x.2.2.2.2.1).toNat),.int .i64 0]⟩
set_option maxHeartbeats 1000000 in
theorem ftnF_ok (hE:EM P e) (h19:Con e 35 ftcF.O) (h49:Con e 23 drdF.O) (h178:Con e 97 mmbF.O) (h179:Inl e 98 cd179 [.tmp 5,.tmp 6]):OvOk P 36 ftnF.O:=by
 refine Fn.mk_ok g36.b ?_
 rintro ⟨c,D,ms,s,k,_⟩ _ ⟨_,_,rfl,⟨rfl,hc⟩,v,_,rfl,⟨_,e0,hD⟩,_,_,rfl,⟨e1,z1⟩,_,_,rfl,⟨e2,z2⟩,_,_,rfl,⟨e3,z3⟩,rfl⟩ ⟨⟨hM,h20,hsm,hal⟩,hs0,hk0,hms⟩
 cases e0
 cases e1
 cases e2
 cases e3
 dsimp only at hc hM h20 hsm hal hs0 hk0 hms hD z1 z2 z3
 have hvf:=hD.hf
 have hvr:hfs [v]=true:=by show (AM.hf v && true)=true;rw [hvf];rfl
 obtain ⟨cs,hs',hl',hn⟩:=hD.nth
 have hat:=fun {i:Nat}=>@ftb_at c D cs h20 hsm hal hn s hs0 e h49 i
 have hck:=fun (Q:AV->St->Prop) st a=>@cF.u _ _ _ _ e 35 st Q _ h19 (c,D,()) ⟨_,_,rfl,⟨rfl,hc⟩,_,_,rfl,⟨_,rfl,hD⟩,rfl⟩ hsm (fun _=>a) (fun q=>absurd (And.intro hM h20) q)
 have hmb:=fun (Q:AV->St->Prop) st q=>Fn.u (F:=mmbF) (k:=Q) (s:=st) h178 (c,s,k,()) ⟨_,_,rfl,⟨rfl,hc⟩,_,_,rfl,⟨rfl,z2⟩,_,_,rfl,⟨rfl,z3⟩,rfl⟩ ⟨hM,hs0,hk0⟩ q
 have hM':=hM
 unfold Cfg.may at hM'
 have hmm:=may_mul hM
 obtain ⟨K0,hK0⟩:∃ K0:Nat,k=K0:=⟨k.toNat,by omega⟩
 obtain ⟨-,q2,q3⟩:=on_nat hM hs0.1 K0
 rw [← hK0] at q2 q3
 replace hmb:∀ (Q:AV->St->Prop) st,Q (.tup [.int .i64 (onM c s k),.int .i64 0]) st->ESc e 97 [.agg c.c,.int .i64 s,.int .i64 k] st Q:=hmb
 subst hms
 obtain ⟨mm,hme⟩:∃ mm:Nat,onM c s k=mm:=⟨(onM c s k).toNat,by omega⟩
 have hf0:∀ L,L=seI D (s+1) mm->∀ st,Frz st (.tup [fzB L,.int .i64 0]) (ftnF.out (c,D,-1,s,k,())):=fun L h st=>by
  show Frz st _ (.tup [fzB (seI D (s+1) (onM c s k).toNat),.int .i64 0])
  rw [hme,Int.toNat_natCast,h];exact .plain _ rfl
 refine ⟨rfl,C.of_W g36.f g36.c ?_⟩
 generalize ftnF.out _=O at hf0 ⊢
 rw [hme] at hmb q2 q3
 rw [Int.toNat_natCast] at q2
 have hml:mm<c.members.toNat:=q2
 obtain ⟨hil,x,bv,wv,r,hx,hd,huse⟩:=hat (i:=mm) (by omega)
 have hsx:seenC x (s+1)=seI D (s+1) mm:=by unfold seI;rw [hx];rfl
 unfold stripesN at hs0 hmm
 show W P 0 none cd134 (initT [.agg c.c,v,.int .i64 (-1),.int .i64 s,.int .i64 k] 0 .lf) St0 [] (Ends [.cell 10,.cell 11] _)
 have hvc:=hD.cell
 refine W.seqV hE ?_;conv=>whnf
 repeat' (first|(refine stuckB (by show Nat.beq (lenL (cellsOf v)) 1=true;rw [hvc];rfl) ?_;rw [hvc];conv=>whnf)|fail)
 refine W.seqV hE ?_;conv=>whnf
 repeat' (first|(refine hck _ _ ?_;conv=>whnf)|refine nq6 ?_ ?_|(intro _;first|omega|conv=>whnf))
 refine W.seqV hE ?_;conv=>whnf
 repeat' (first|(refine hmb _ _ ?_;conv=>whnf)|fail)
 refine W.seqV hE ?_;conv=>whnf
 repeat' (first|refine nq1 ?_ ?_|refine nq4 ?_ ?_|refine nq6 ?_ ?_|(intro _;first|omega|conv=>whnf))
 refine W.seqV hE ?_;conv=>whnf
 skip
 refine W.seqV hE ?_;conv=>whnf
 repeat' (first|((first|refine ECall.inl h179.O h179.G ?_|refine nq23 hs' hil hd ?_|refine nq22 ?_|refine ETake.eq (cs:=[bv,wv,.bool false]) rfl ?_|refine huse _ _ ?_|refine nq7 ?_);conv=>whnf)|refine nq5 ?_ ?_|(intro _;first|omega|conv=>whnf))
 exact ⟨.inr rfl,_,_,rfl,rfl,hf0 _ hsx _⟩
end Go.AM
