/- Contracts of functions over the abstract machine. No conditions. -/
import Derived.Test.YtblggmblcjoalaaGreatStB
import Derived.Test.YtblggmblcjoalaaGreatStA
import Derived.Test.YtblggmblcjoalaaGreatAM5
set_option linter.unusedVariables false
set_option linter.unusedSimpArgs false
set_option maxRecDepth 100000
namespace Go.AM
attribute [local irreducible] W
open X
structure WA1 (x:WA) (s:St):Prop where
 ok:x.ok s
 n:1≤x.ws.length
def WA.k (x:WA):Nat:=(keepW x.a x.ws).length
noncomputable def WA.o (x:WA):AObj:=.row 101 (wrs (keepW x.a x.ws)++rep zW (x.ws.length-x.k))
noncomputable def delO:Ov:=fun args s=>open Classical in if h:∃ x:WA,WA1 x s∧args=x.args then .ok (.sl (Classical.choose h).r 0 (Classical.choose h).k none) (putRs s [(Classical.choose h).r,(Classical.choose h).q] [(Classical.choose h).o,.row 3 [.int .i64 (Classical.choose h).a]]) else .fail
variable {x:WA}{s:St}
theorem delO_run (hx:WA1 x s):delO x.args s=.ok (.sl x.r 0 x.k none) (putRs s [x.r,x.q] [x.o,.row 3 [.int .i64 x.a]]):=by
 have h:∃ y:WA,WA1 y s∧x.args=y.args:=⟨x,hx,rfl⟩
 unfold delO
 rw [dif_pos h]
 obtain ⟨h1,h2⟩:=Classical.choose_spec h
 rw [← WA.inj hx.ok h1.ok h2]
structure QA where
 q:Nat
 a:Int
structure QA.ok (x:QA) (s:St):Prop where
 q:s.get x.q=some (.row 3 [.int .i64 x.a])
 a:i64B x.a
noncomputable def delN:Ov:=fun args s=>open Classical in if ∃ x:QA,x.ok s∧args=[.nils,.fn 109 [] [.ptr x.q 0]] then .ok .nils s else .fail
noncomputable def delR:Ov:=orO delO delN
theorem hfs_rep {z:List AV}(h:hfs z=true):∀ n,hfs (rep z n)=true
 | 0=>rfl
 | n+1=>by
  have:rep z (n+1)=z++rep z n:=by show appL z (rep z n)=_;rw [appL_eq]
  rw [this];exact hfs_app h (hfs_rep h n)
variable {e:Env}
theorem delR_ok (hE:EM P e) (h163:Con e 189 delI) (h137:Inl e 109 code137 [.tmp 3]):OvOk P 108 delR:=by
 refine orO_ok ⟨g108.b,fun args s u s' hh=>?_⟩ ⟨g108.b,fun args s u s' hh=>?_⟩
 ·have hx0:∃ x:WA,WA1 x s∧args=x.args:=by
   unfold delO at hh
   split at hh
   ·rename_i h;exact h
   ·cases hh
  obtain ⟨x,hx,rfl⟩:=hx0
  rw [delO_run hx] at hh
  cases hh
  obtain ⟨r,q,ws,a⟩:=x
  obtain ⟨⟨hg,hq,hw,ha,hn⟩,h1⟩:=hx
  dsimp only at hg hq hw ha hn h1
  have hrq:r≠q:=fun e=>by
   subst e
   rw [hg] at hq;injection hq with hq;injection hq with hq _;cases hq
  have hwf:hfs (wrs ws)=true:=hfs_wrs fun w hwm=>(hw w hwm).b.1.hf
  have hkf:hfs (wrs (keepW a ws)++rep zW (ws.length-(keepW a ws).length))=true:=hfs_app (hfs_wrs fun w hwm=>(hw w (List.mem_filter.1 hwm).1).b.1.hf) (hfs_rep rfl _)
  have key:=C1.frameR (P:=P) (f:=108) (args0:=[.sl 0 0 ws.length none,.fn 109 [] [.ptr 1 0]]) (u:=.sl 0 0 (keepW a ws).length none) (os:=[.row 101 (wrs ws),.row 3 [.int .i64 a]]) (os2:=[.row 101 (wrs (keepW a ws)++rep zW (ws.length-(keepW a ws).length)),.row 3 [.int .i64 a]]) (rs:=[r,q]) (s:=s)
   (by simp [hrq]) rfl (fun i o t ho ht=>by
     rcases i with _|_|i
     ·cases ho;cases ht;exact ⟨by rw [mapRowH hwf];exact hg,rowH hwf,rfl⟩
     ·cases ho;cases ht;exact ⟨hq,rfl,rfl⟩
     ·cases ho) (fun i hi=>by
     rcases i with _|_|i
     ·rfl
     ·rfl
     ·exact absurd (show i+1+1<2 from hi) (by omega)) rfl (Nat.le_refl _) (by simp) (fun o ho=>by
     rcases List.mem_cons.1 ho with rfl|ho
     ·rfl
     ·rcases List.mem_cons.1 ho with rfl|ho
      ·rfl
      ·cases ho) (C1.of_G hE g108 (del_main hE h163 h137 ha hw hn h1 _ fun s g0 g1=>⟨[0,1],⟨rfl,by decide,⟨r9,trivial⟩,⟨⟨rowH hkf,by rw [mapRowH hkf];exact g0⟩,⟨rfl,g1⟩,trivial⟩⟩⟩))
  refine key.mono ?_
  rintro v s' ⟨rfl,rfl⟩
  refine ⟨rfl,?_⟩
  show putRs s [r,q] [mapO _ (.row 101 (wrs (keepW a ws)++rep zW (ws.length-(keepW a ws).length))),_]=_
  rw [mapRowH hkf];rfl
 ·unfold delN at hh
  split at hh
  ·rename_i hx
   cases hh
   obtain ⟨⟨q,a⟩,⟨hq,ha⟩,rfl⟩:=hx
   dsimp only at hq ha
   refine C.view (args2:=[.nils,.fn 109 [] [.fp [.int .i64 a]]]) (.cons (.plain _ rfl) (.cons (.fn 109 [] [.ptr q 0] [] [.fp [.int .i64 a]] .nil (.cons (.ptr q 0 3 [.int .i64 a] [.int .i64 a] [.int .i64 a] hq (fun i x h=>by rw [Nat.zero_add];exact h) (.cons (.plain _ rfl) .nil)) .nil)) .nil)) rfl (C.freeze rfl ?_)
   refine C.of_G hE g108 ?_;conv=>whnf
   refine delI_nil h163 ha ?_;conv=>whnf
   refine EPrim.eql2 (a:=-1) (b:=-1) rfl rfl (fun _=>?_) (fun h=>absurd rfl h);conv=>whnf
   exact .plain _ rfl
  ·cases hh
variable {K:AV->St->Prop}
theorem delR_row (h:Con e 108 delR) (hx:WA1 x s) (hk:K (.sl x.r 0 x.k none) (putRs s [x.r,x.q] [x.o,.row 3 [.int .i64 x.a]])):ESc e 108 x.args s K:=by
 refine ESc.ov h (v:=.sl x.r 0 x.k none) (s':=putRs s [x.r,x.q] [x.o,.row 3 [.int .i64 x.a]]) ?_ hk
 unfold delR orO
 rw [delO_run hx]
theorem delR_nil (h:Con e 108 delR) {x:QA}(hx:x.ok s) (hk:K .nils s):ESc e 108 [.nils,.fn 109 [] [.ptr x.q 0]] s K:=by
 refine ESc.ov h (v:=.nils) (s':=s) ?_ hk
 have:delO [.nils,.fn 109 [] [.ptr x.q 0]] s=.fail:=by
  unfold delO
  rw [dif_neg]
  rintro ⟨x,_,h⟩
  have:=(List.cons.inj h).1
  cases this
 unfold delR orO
 rw [this]
 show delN _ s=_
 unfold delN
 rw [if_pos ⟨x,hx,rfl⟩]
def wvF (n:Nat) (L:List WR):AV:=match n with
 | 0=>.nils
 | _+1=>.fz L.length none (wrs L)
def fuaD (x:DKW):DK:=⟨.fz x.d.us.length none ((x.d.us.map clnV).set x.a.toNat (fzB (pad x.b))),(x.d.us.map clnV).set x.a.toNat (fzB (pad x.b)),x.d.bs.set x.a.toNat (pad x.b),wvF x.d.ws.length (keepW x.a (x.d.ws.map clnW)),keepW x.a (x.d.ws.map clnW),x.d.dead⟩
def zDk:List AV:=[.nils,.nils,.bool false]
def fuaOut (x:DKW):AV:=if wrtE x.d x.a x.b=0 then .tup [(fuaD x).v,.int .i64 0] else .tup [.agg zDk,.int .i64 (wrtE x.d x.a x.b)]
theorem hf_wvF (n:Nat) (L:List WR):AM.hf (wvF n L)=true:=by cases n <;> rfl
theorem hf_fuaOut (x:DKW):AM.hf (fuaOut x)=true:=by
 unfold fuaOut
 split
 ·show ((true && (AM.hf (wvF _ _) && (true && true))) && (true && true))=true
  rw [hf_wvF];rfl
 ·rfl
def fuaF:Fam DKW:=⟨DKW.ok,DKW.args,fuaOut,fun x y hx hy h=>by rw [DKW.inja hx hy h]⟩
theorem store_set {r e i:Nat}{cs:List AV}{v:AV}(h:s.get r=some (.row e cs)) (hi:i<cs.length):storeAt r (0+i*1) [v] s=some (s.put r (.row e (cs.set i v))):=by
 rw [store_of h (by show 0+i*1+1≤_;omega),Nat.zero_add,Nat.mul_one,List.set_eq_take_append_cons_drop,if_pos hi]
 simp
theorem all2_set {α β:Type}{R:α->β->Prop}{a:α}{b:β}(hab:R a b):∀ {l:List α}{m:List β},All2 R l m->∀ i,All2 R (l.set i a) (m.set i b)
 | _,_,.nil,i=>by simp;exact .nil
 | _,_,.cons h1 h2,0=>.cons hab h2
 | _,_,.cons h1 h2,i+1=>.cons h1 (all2_set hab h2 i)
theorem frz_hfs:∀ {l:List AV},hfs l=true->All2 (Frz s) l l
 | [],_=>.nil
 | v::l,h=>by
  simp only [hfs,Bool.and_eq_true] at h
  exact .cons (.plain _ h.1) (frz_hfs h.2)
variable {b:List Nat}
theorem clnV_at {u:AV}(h:BAt u b):BAt (clnV u) b:=by
 obtain ⟨h1,h2⟩:=h
 refine ⟨?_,h2⟩
 rcases h1 with ⟨rfl,e1,e2⟩|⟨rfl,e1,e2⟩|⟨c,rfl,e⟩
 ·exact .inl ⟨rfl,e1,e2⟩
 ·exact .inr (.inr ⟨none,by show AV.fz 0 none []=_;rw [e1,e2],by rw [e2,e1];rfl⟩)
 ·exact .inr (.inr ⟨none,rfl,e⟩)
theorem clnW_any {w:WR}(h:w.any):(clnW w).any:=⟨h.at_,clnV_at h.b⟩
variable {d:DK}
theorem hfs_clnU (hd:d.any):hfs (d.us.map clnV)=true:=hfs_cln _ fun u hu=>by
 obtain ⟨k,hk⟩:=List.mem_iff_getElem?.1 hu
 obtain ⟨b,_,hb⟩:=hd.bs.get hk
 exact (clnV_at hb).1.hf
theorem wrt0 {a:Int}(h:wrtE d a b=0):dskB d=true∧(0≤a∧a<d.us.length)∧oddB b.length=false∧d.dead=false:=by
 unfold wrtE plcE at h
 by_cases h1:dskB d=true
 ·rw [if_pos h1] at h
  by_cases h2:0≤a∧a<d.us.length
  ·rw [if_pos h2,if_pos rfl] at h
   by_cases h3:oddB b.length=true
   ·rw [if_pos h3] at h;cases h
   ·rw [if_neg h3] at h
    cases h4:d.dead
    ·exact ⟨h1,h2,by simpa using h3,rfl⟩
    ·rw [h4] at h;cases h
  ·rw [if_neg h2,if_neg (by decide)] at h;cases h
 ·rw [if_neg h1,if_neg (by decide)] at h;cases h
theorem fuaF_ok (hE:EM P e) (h102:Con e 107 wrtF.O) (h103:Con e 87 twO) (h98:Inl e 80 code98 [.tmp 2]) (h141:Inl e 155 code141 [.tmp 2]) (h136:Con e 108 delR):OvOk P 44 fuaF.O:=by
 refine Fam.ok_of g44.b fun x hx=>?_
 refine ⟨DKW.hfa hx,hf_fuaOut x,C.of_G hE g44 ?_⟩
 have hfam:=fun (s:St) (K:AV->St->Prop) (hk:K (.int .i64 (wrtE x.d x.a x.b)) s)=>ESc.fam wrtF h102 x hx (u:=.int .i64 (wrtE x.d x.a x.b)) rfl hk
 by_cases h0:wrtE x.d x.a x.b=0
 ·obtain ⟨q1,q2,q3,q4⟩:=wrt0 h0
  have hbl:x.b.length=0∨x.b.length=128:=oddB_no q3
  have hdk1:DK1 x.d:=⟨hx.d,by omega⟩
  have htw:=twO_run hdk1
  have hUf:=hfs_clnU hx.d.a
  have hWa:∀ w ∈ x.d.ws.map clnW,w.any:=fun w hw=>by
   obtain ⟨v,hv,rfl⟩:=List.mem_map.1 hw
   exact clnW_any (hx.d.a.ws v hv)
  have hout:fuaF.out x=.tup [(fuaD x).v,.int .i64 0]:=by show fuaOut x=_;unfold fuaOut;rw [if_pos h0]
  rw [h0] at hfam
  rw [hout]
  obtain ⟨⟨bv,us,bs,wv,ws,dd⟩,a,u,b⟩:=x
  obtain ⟨hd,ha,hbt,hbn⟩:=hx
  dsimp only at q2 q4 hbl htw hUf hWa ha hbt hbn
  subst q4
  obtain ⟨n,rfl⟩:∃ n:Nat,a=(n:Int):=⟨a.toNat,by omega⟩
  have hn:n<us.length:=by omega
  have hfB:∀ (s:St) r cp,s.get r=some (.row 5 (bys (pad b)))->Frz s (.sl r 0 128 cp) (fzB (pad b)):=fun s r cp h=>.sl r 0 128 cp none 5 _ (bys (pad b)) _ h (fun i x h=>by rw [Nat.zero_add];exact h) (frz_bys _) (.inl rfl)
  have hbk:∀ (s:St) r cp,s.get 3=some (.row 54 ((us.map clnV).set n (.sl r 0 128 cp)))->s.get r=some (.row 5 (bys (pad b)))->Frz s (.sl 3 0 us.length none) (.fz us.length none ((us.map clnV).set n (fzB (pad b)))):=fun s r cp h1 h2=>
   .sl 3 0 us.length none none 54 _ ((us.map clnV).set n (.sl r 0 128 cp)) _ h1 (fun i x h=>by rw [Nat.zero_add];exact h) (all2_set (hfB s r cp h2) (frz_hfs hUf) n) (.inl rfl)
  have hset:∀ (s:St) v,s.get 3=some (.row 54 (us.map clnV))->storeAt 3 (0+n*1) [v] s=some (s.put 3 (.row 54 ((us.map clnV).set n v))):=fun s v h=>store_set h (by rw [List.length_map];exact hn)
  have hwm:=hd.m
  clear q1 q3 hout
  show VW P e 0 (match a44 with|.mk c _=>c) (initT [.agg [bv,wv,.bool false],.int .i64 (n:Int),u] 0 .lf) St0 none [] _
  have hfam:∀ (s:St) (K:AV->St->Prop),K (.int .i64 0) s->ESc e 107 [.agg [bv,wv,.bool false],.int .i64 (n:Int),u] s K:=hfam
  rcases ws with _|⟨w0,ws⟩
  ·have htw:∀ s,twO [.agg [bv,wv,.bool false]] s=.ok (.agg [.sl (0+s.next) 0 us.length none,.nils,.bool false]) (allocs s [.row 54 (us.map clnV)]):=htw
   have fin:∀ (s:St) r cp,s.get 3=some (.row 54 ((us.map clnV).set n (.sl r 0 128 cp)))->s.get r=some (.row 5 (bys (pad b)))->Frz s (.tup [.agg [.sl 3 0 us.length none,.nils,.bool false],.int .i64 0]) (.tup [(fuaD ⟨⟨bv,us,bs,wv,[],false⟩,(n:Int),u,b⟩).v,.int .i64 0]):=fun s r cp h1 h2=>
    .tup _ _ (.cons (.agg _ _ (.cons (hbk s r cp h1 h2) (.cons (.plain _ rfl) (.cons (.plain _ rfl) .nil)))) (.cons (.plain _ rfl) .nil))
   have hdel:∀ (s:St) (K:AV->St->Prop),s.get 1=some (.row 3 [.int .i64 (n:Int)])->K .nils s->ESc e 108 [.nils,.fn 109 [] [.ptr 1 0]] s K:=fun s K h1 hk=>delR_nil h136 (x:=⟨1,(n:Int)⟩) ⟨h1,ha⟩ hk
   conv=>whnf
   refine hfam _ _ ?_;conv=>whnf
   repeat' (first|refine nq6 ?_ ?_|(intro _;first|omega|conv=>whnf))
   refine ESc.ov h103 (htw _) ?_;conv=>whnf
   refine blkD_run h98 h141 hbt hbl (by show 4<1000000;decide) (fun h0=>?_) (fun h1=>?_)
   ·conv=>whnf
    repeat' (first|((first|refine EPrim.ixsP (i:=n) rfl rfl hn ?_|refine stuckO _ (hset _ _ rfl) ?_|refine hdel _ _ rfl ?_|refine ⟨rfl,?_⟩);conv=>whnf)|fail)
    exact fin _ _ _ rfl rfl
   ·conv=>whnf
    repeat' (first|((first|refine EPrim.ixsP (i:=n) rfl rfl hn ?_|refine stuckO _ (hset _ _ rfl) ?_|refine hdel _ _ rfl ?_|refine ⟨rfl,?_⟩);conv=>whnf)|fail)
    exact fin _ _ _ rfl rfl
  ·have htw:∀ s,twO [.agg [bv,wv,.bool false]] s=.ok (.agg [.sl (0+s.next) 0 us.length none,.sl (1+s.next) 0 (ws.length+1) none,.bool false]) (allocs s [.row 54 (us.map clnV),.row 101 (wrs ((w0::ws).map clnW))]):=htw
   have hkf:hfs (wrs (keepW (n:Int) ((w0::ws).map clnW)))=true:=hfs_wrs fun w hw=>(hWa w (List.mem_filter.1 hw).1).b.1.hf
   have hkl:(keepW (n:Int) ((w0::ws).map clnW)).length≤ws.length+1:=by
    have:=keepW_le (n:Int) ((w0::ws).map clnW)
    rw [List.length_map] at this;exact this
   have fin:∀ (s:St) r cp,s.get 3=some (.row 54 ((us.map clnV).set n (.sl r 0 128 cp)))->s.get r=some (.row 5 (bys (pad b)))->s.get 4=some (WA.o ⟨4,1,(w0::ws).map clnW,(n:Int)⟩)->Frz s (.tup [.agg [.sl 3 0 us.length none,.sl 4 0 (WA.k ⟨4,1,(w0::ws).map clnW,(n:Int)⟩) none,.bool false],.int .i64 0]) (.tup [(fuaD ⟨⟨bv,us,bs,wv,w0::ws,false⟩,(n:Int),u,b⟩).v,.int .i64 0]):=fun s r cp h1 h2 h3=>
    .tup _ _ (.cons (.agg _ _ (.cons (hbk s r cp h1 h2) (.cons (.sl 4 0 _ none none 101 _ (wrs (keepW (n:Int) ((w0::ws).map clnW))) _ h3 (fun i x h=>by
     rw [Nat.zero_add,List.getElem?_append_left (List.getElem?_eq_some_iff.1 h).1];exact h) (frz_hfs hkf) (.inl rfl)) (.cons (.plain _ rfl) .nil)))) (.cons (.plain _ rfl) .nil))
   have hdel:∀ (s:St) (K:AV->St->Prop),s.get 4=some (.row 101 (wrs ((w0::ws).map clnW)))->s.get 1=some (.row 3 [.int .i64 (n:Int)])->K (.sl 4 0 (WA.k ⟨4,1,(w0::ws).map clnW,(n:Int)⟩) none) (putRs s [4,1] [WA.o ⟨4,1,(w0::ws).map clnW,(n:Int)⟩,.row 3 [.int .i64 (n:Int)]])->ESc e 108 [.sl 4 0 (ws.length+1) none,.fn 109 [] [.ptr 1 0]] s K:=fun s K h4 h1 hk=>by
    have:=delR_row h136 (x:=⟨4,1,(w0::ws).map clnW,(n:Int)⟩) ⟨⟨h4,h1,hWa,ha,by dsimp only;rw [List.length_map];exact hwm⟩,by simp⟩ hk
    have ea:WA.args ⟨4,1,(w0::ws).map clnW,(n:Int)⟩=[.sl 4 0 (ws.length+1) none,.fn 109 [] [.ptr 1 0]]:=by unfold WA.args;simp
    rw [ea] at this
    exact this
   conv=>whnf
   refine hfam _ _ ?_;conv=>whnf
   repeat' (first|refine nq6 ?_ ?_|(intro _;first|omega|conv=>whnf))
   refine ESc.ov h103 (htw _) ?_;conv=>whnf
   refine blkD_run h98 h141 hbt hbl (by show 5<1000000;decide) (fun h0=>?_) (fun h1=>?_)
   ·conv=>whnf
    repeat' (first|((first|refine EPrim.ixsP (i:=n) rfl rfl hn ?_|refine stuckO _ (hset _ _ rfl) ?_|refine hdel _ _ rfl rfl ?_|refine ⟨rfl,?_⟩);conv=>whnf)|fail)
    exact fin _ _ _ rfl rfl rfl
   ·conv=>whnf
    repeat' (first|((first|refine EPrim.ixsP (i:=n) rfl rfl hn ?_|refine stuckO _ (hset _ _ rfl) ?_|refine hdel _ _ rfl rfl ?_|refine ⟨rfl,?_⟩);conv=>whnf)|fail)
    exact fin _ _ _ rfl rfl rfl
 ·have hout:fuaF.out x=.tup [.agg zDk,.int .i64 (wrtE x.d x.a x.b)]:=by show fuaOut x=_;unfold fuaOut;rw [if_neg h0]
  rw [hout]
  obtain ⟨E,hE'⟩:∃ E,E=wrtE x.d x.a x.b:=⟨_,rfl⟩
  rw [← hE'] at h0 hfam ⊢
  obtain ⟨⟨bv,us,bs,wv,ws,dd⟩,a,u,b⟩:=x
  have hfam:∀ (s:St) (K:AV->St->Prop),K (.int .i64 E) s->ESc e 107 [.agg [bv,wv,.bool dd],.int .i64 a,u] s K:=hfam
  show VW P e 0 (match a44 with|.mk c _=>c) (initT [.agg [bv,wv,.bool dd],.int .i64 a,u] 0 .lf) St0 none [] _
  conv=>whnf
  refine hfam _ _ ?_;conv=>whnf
  refine EPrim.neq2 (a:=E) (b:=0) rfl rfl (fun _=>?_) (fun h=>absurd h h0);conv=>whnf
  skip
  exact .plain _ rfl
end Go.AM
namespace Go.AM
open X
theorem pad_lt {bs:List Nat}(hb:∀ b ∈ bs,b<256):∀ b ∈ pad bs,b<256:=by
 unfold pad
 split
 ·intro b hb';rw [List.eq_of_mem_replicate hb'];decide
 ·exact hb
end Go.AM
namespace Go.AM
attribute [local irreducible] W
open X
structure UB where
 u:AV
 b:List Nat
structure UB.ok (x:UB):Prop where
 b:BAt x.u x.b
 l:x.b.length=0∨x.b.length=128
structure RdS where
 S:List (Int×List Nat)
 p:Option (List Nat)
structure RdS.ok (x:RdS):Prop where
 n:x.S.length≤17
 s:∀ p ∈ x.S,(0≤p.1∧p.1<256)∧p.2.length=128∧∀ y ∈ p.2,y<256
 p:∀ b,x.p=some b->b.length=128∧∀ y ∈ b,y<256
theorem fzB_at {b:List Nat}(h:b.length=128∧∀ y ∈ b,y<256):BAt (fzB b) b:=⟨.inr (.inr ⟨none,by rw [h.1];rfl,by rw [bys_length];omega⟩),h.2⟩
section
variable {t:AT}{s:St}{k:AV->St->Prop}{x y:AO}
end
end Go.AM
namespace Go.AM
attribute [local irreducible] W
open X
variable {b:List Nat}
theorem pad_at (h:b.length=0∨b.length=128) (hb:∀ y ∈ b,y<256):BAt (fzB (pad b)) (pad b)∧(pad b).length=128:=by
 have hl:=pad_len128 h
 exact ⟨fzB_at ⟨hl,pad_lt hb⟩,hl⟩
theorem all2_cln {us:List AV}{bs:List (List Nat)}(h:All2 BAt us bs):All2 BAt (us.map clnV) bs:=by
 induction h with
 | nil=>exact .nil
 | cons a b ih=>exact .cons (clnV_at a) ih
variable {a:Int}
theorem keepW_mem {L:List WR}{w:WR}(h:w ∈ keepW a (L.map clnW)):∃ v ∈ L,w=clnW v∧v.at_≠a:=by
 obtain ⟨h1,h2⟩:=List.mem_filter.1 h
 obtain ⟨v,hv,rfl⟩:=List.mem_map.1 h1
 refine ⟨v,hv,rfl,fun e=>?_⟩
 unfold wAt at h2
 simp at h2
 exact h2 e
theorem wvF_sl (n:Nat) (L:List WR) (h:L.length≤n):Sl 2 L.length (wrs L) (wvF n L):=by
 cases n with
 | zero=>
  have:L=[]:=List.length_eq_zero_iff.1 (by omega)
  subst this;exact .inl ⟨rfl,rfl,rfl⟩
 | succ n=>exact .inr (.inr ⟨none,rfl,wrs_length L⟩)
variable {x:DKW}
theorem fuaD_ok (hx:x.ok) (h:wrtE x.d x.a x.b=0):(fuaD x).ok:=by
 obtain ⟨q1,q2,q3,q4⟩:=wrt0 h
 have hbl:=oddB_no q3
 obtain ⟨p1,p2⟩:=pad_at hbl hx.b.2
 have hkl:=keepW_le x.a (x.d.ws.map clnW)
 rw [List.length_map] at hkl
 have hm:=hx.d.m
 refine ⟨⟨?_,all2_set p1 (all2_cln hx.d.a.bs) _,wvF_sl _ _ hkl,fun w hw=>?_⟩,?_,?_,fun b hb=>?_,fun w hw=>?_⟩
 ·refine .inr (.inr ⟨none,?_,by rw [Nat.mul_one]⟩)
  show AV.fz x.d.us.length none _=.fz ((x.d.us.map clnV).set _ _).length none _
  rw [List.length_set,List.length_map];rfl
 ·obtain ⟨v,hv,rfl,_⟩:=keepW_mem hw
  exact clnW_any (hx.d.a.ws v hv)
 ·show ((x.d.us.map clnV).set _ _).length<_
  rw [List.length_set,List.length_map];exact hx.d.n
 ·show (keepW x.a (x.d.ws.map clnW)).length<_;omega
 ·rcases List.mem_or_eq_of_mem_set hb with h|rfl
  ·exact hx.d.b b h
  ·omega
 ·obtain ⟨v,hv,rfl,_⟩:=keepW_mem hw
  exact hx.d.w v hv
theorem fuaD_len (x:DKW):(fuaD x).us.length=x.d.us.length:=by
 show ((x.d.us.map clnV).set _ _).length=_
 rw [List.length_set,List.length_map]
theorem dskB_iff {x:DK}:dskB x=true↔(1≤x.us.length∧x.us.length≤256∧x.ws.length≤1024)∧(∀ b ∈ x.bs,oddB b.length=false)∧(∀ w ∈ x.ws,wBad x.us.length w=false)∧(x.dead=true->x.ws.length=0∧∀ b ∈ x.bs,posB b.length=false):=by
 unfold dskB
 simp only [Bool.and_eq_true,decide_eq_true_eq,Bool.not_eq_true',List.any_eq_false,List.mem_map,forall_exists_index,and_imp,forall_apply_eq_imp_iff₂,Bool.not_eq_true,Bool.and_eq_false_iff,Bool.or_eq_false_iff,decide_eq_false_iff_not]
 constructor
 ·rintro ⟨⟨⟨h1,h2⟩,h3⟩,h4⟩
  refine ⟨h1,h2,h3,fun hd=>?_⟩
  rcases h4 with h4|⟨h4,h5⟩
  ·rw [hd] at h4;cases h4
  ·exact ⟨by omega,h5⟩
 ·rintro ⟨h1,h2,h3,h4⟩
  refine ⟨⟨⟨h1,h2⟩,h3⟩,?_⟩
  cases hd:x.dead
  ·exact .inl rfl
  ·obtain ⟨h5,h6⟩:=h4 hd
   exact .inr ⟨by omega,h6⟩
theorem fuaD_dsk (hx:x.ok) (h:wrtE x.d x.a x.b=0):dskB (fuaD x)=true:=by
 obtain ⟨q1,q2,q3,q4⟩:=wrt0 h
 obtain ⟨d1,d2,d3,d4⟩:=dskB_iff.1 q1
 have hbl:=oddB_no q3
 obtain ⟨p1,p2⟩:=pad_at hbl hx.b.2
 have hkl:=keepW_le x.a (x.d.ws.map clnW)
 rw [List.length_map] at hkl
 refine dskB_iff.2 ⟨?_,fun b hb=>?_,fun w hw=>?_,fun hd=>?_⟩
 ·rw [fuaD_len]
  have:(fuaD x).ws.length≤x.d.ws.length:=hkl
  omega
 ·rcases List.mem_or_eq_of_mem_set hb with h|rfl
  ·exact d2 b h
  ·rw [p2];rfl
 ·rw [fuaD_len]
  obtain ⟨v,hv,rfl,_⟩:=keepW_mem hw
  exact d3 v hv
 ·have hd:x.d.dead=true:=hd
  rw [q4] at hd;cases hd
variable {p:Int}
theorem lastW_keep (hp:p≠a) (L:List WR):lastW p (keepW a (L.map clnW)).reverse=lastW p L.reverse:=by
 have h1:(keepW a (L.map clnW)).reverse=keepW a (L.reverse.map clnW):=by unfold keepW;rw [← List.filter_reverse,← List.map_reverse]
 rw [h1]
 generalize L.reverse=M
 induction M with
 | nil=>rfl
 | cons w M ih=>
  rw [List.map_cons]
  by_cases ha:w.at_=a
  ·have e:keepW a (clnW w::M.map clnW)=keepW a (M.map clnW):=by
    unfold keepW wAt;rw [List.filter_cons_of_neg];show ¬ (!decide (w.at_=a))=true;simp [ha]
   rw [e,ih]
   show _=if w.at_=p then _ else _
   rw [if_neg (fun e:w.at_=p=>hp (by rw [← e,ha]))]
  ·have e:keepW a (clnW w::M.map clnW)=clnW w::keepW a (M.map clnW):=by
    unfold keepW wAt;rw [List.filter_cons_of_pos];show (!decide (w.at_=a))=true;simp [ha]
   rw [e]
   show (if w.at_=p then some w.b else _)=if w.at_=p then some w.b else _
   rw [ih]
theorem lastW_none (hp:p=a) (L:List WR):lastW p (keepW a (L.map clnW)).reverse=none:=by
 have hno:∀ M:List WR,(∀ w ∈ M,w.at_≠p)->lastW p M=none:=fun M=>by
  induction M with
  | nil=>intro _;rfl
  | cons w M ih=>
   intro h
   show (if w.at_=p then _ else _)=_
   rw [if_neg (h w (by simp)),ih fun v hv=>h v (by simp [hv])]
 refine hno _ fun w hw=>?_
 obtain ⟨v,_,rfl,hv⟩:=keepW_mem (List.mem_reverse.1 hw)
 rw [hp];exact hv
theorem drdB_fua (hx:x.ok) (h:wrtE x.d x.a x.b=0) (hp:0≤p):drdB (fuaD x) p=if p=x.a then pad x.b else drdB x.d p:=by
 obtain ⟨q1,q2,q3,q4⟩:=wrt0 h
 have hl:=hx.d.a.bs.length
 unfold drdB drdL
 by_cases hpa:p=x.a
 ·rw [if_pos hpa]
  show (lastW p (keepW x.a (x.d.ws.map clnW)).reverse).getD ((x.d.bs.set x.a.toNat (pad x.b)).getD p.toNat [])=_
  rw [lastW_none hpa,hpa]
  show (x.d.bs.set x.a.toNat (pad x.b)).getD x.a.toNat []=_
  rw [List.getD_eq_getElem?_getD,List.getElem?_set_self (by omega)];rfl
 ·rw [if_neg hpa]
  show (lastW p (keepW x.a (x.d.ws.map clnW)).reverse).getD ((x.d.bs.set x.a.toNat (pad x.b)).getD p.toNat [])=_
  rw [lastW_keep hpa]
  congr 1
  rw [List.getD_eq_getElem?_getD,List.getD_eq_getElem?_getD,List.getElem?_set_ne (by omega)]
structure CDK where
 c:Cfg
 d:DK
structure CDK.ok (x:CDK):Prop where
 c:x.c.ok
 d:x.d.ok
 l:0≤x.c.log∧x.c.log≤255
def stripesN (c:Cfg):Int:=c.chunk*c.rows
def loB (c:Cfg):Lo->Prop
 | (ev,lo,sp,po,dn,_,_)=>ev≤2147483648∧-1≤lo∧lo<c.members∧(sp=true->0≤lo∧0≤dn∧dn≤po∧po≤stripesN c)∧(sp=false->po=0∧dn=0)
def sized (b:List Nat):Prop:=b.length=0∨b.length=128
def hdB (c:Cfg):Hd->Prop
 | (st,bl,di,ph,de,sq)=>(0≤st∧st<stripesN c)∧(bl.length:Int)=c.members∧(di.length:Int)=c.members-1∧ph≤4∧(∀ k<bl.length,∀ b,bl[k]?=some b->sized b∧(di[k]?=some true->b.length≠0))∧(ph=0->(bl[di.length]?.getD []).length=0∧sq=0)∧(0<ph->(bl[di.length]?.getD []).length≠0∧true ∈ di)∧(ph=1->sq=0)∧(de=true->true ∈ di∧ph≤1)
def shB (c:Cfg) (hs:List Hd):Prop:=(∀ k<hs.length,∀ h,hs[k]?=some h->hdB c h∧∀ j<k,∀ g,hs[j]?=some g->g.1≠h.1)∧(hs.length:Int)≤c.heads
def lastI (L:List Lv) (s:Int):Nat->Int
 | 0=>-1
 | i+1=>if L[i]?.map Lv.stripe=some s then (i:Int) else lastI L s i
theorem lastI_lt (L:List Lv) (s:Int):∀ n,-1≤lastI L s n∧lastI L s n<n
 | 0=>by unfold lastI;omega
 | n+1=>by
  have:=lastI_lt L s n
  unfold lastI
  split <;> omega
def dirtyP (L:List Lv) (s:Int):Prop:=0≤lastI L s L.length∧∀ x,L[(lastI L s L.length).toNat]?=some x->x.par=false
def mStep (L:List Lv) (i:Nat) (x:Lv):Int:=if lastI L x.stripe L.length=i∧x.par=false then 1 else 0
def manyI (L:List Lv):Nat->Int
 | 0=>0
 | i+1=>manyI L i+((L[i]?.map (mStep L i)).getD 0)
theorem manyI_le (L:List Lv):∀ n,0≤manyI L n∧manyI L n≤n
 | 0=>by unfold manyI;omega
 | n+1=>by
  have:=manyI_le L n
  unfold manyI
  cases L[n]? with
  | none=>simp;omega
  | some x=>simp only [Option.map,Option.getD,mStep];split <;> omega
def usedI (L:List Lv):Nat->Int
 | 0=>0
 | i+1=>usedI L i+((L[i]?.map Lv.blocks).getD 0)
def smallL (L:List Lv):Prop:=L.length≤1000∧∀ x ∈ L,0≤x.blocks∧x.blocks≤100
variable {L:List Lv}
theorem usedI_le (h:smallL L):∀ n,0≤usedI L n∧usedI L n≤100*n
 | 0=>by unfold usedI;omega
 | n+1=>by
  have:=usedI_le h n
  unfold usedI
  cases hx:L[n]? with
  | none=>simp;omega
  | some x=>have:=h.2 x (List.mem_of_getElem? hx);simp only [Option.map,Option.getD];omega
def roomP (c:Cfg) (L:List Lv):Prop:=(c.members+1)*manyI L L.length≤c.log-usedI L L.length
def homeP (L:List Lv) (k:Nat):Prop:=∀ x,L[k]?=some x->x.sure=true∧∃ i y,k≤i∧L[i]?=some y∧y.stripe=x.stripe∧y.home=true∧y.par=true
def eP (c:Cfg) (L:List Lv) (sq:Int) (i:Nat) (x:Lv):Prop:=(0≤x.stripe∧x.stripe<stripesN c)∧2≤x.blocks∧x.blocks≤c.members+1∧x.seq=sq-L.length+i∧1≤x.seq∧(0<i->x.sure=true->∀ y,L[i-1]?=some y->y.sure=true)∧(x.home=true->homeP L i)
set_option maxHeartbeats 2000000 in
def lgB (c:Cfg):Lg->Prop
 | (ag,sq,tl,us,L)=>(1≤ag∧ag≤2147483648∧1≤sq∧sq≤2147483648∧0≤tl∧tl<c.log∧L.length≤c.log)∧(∀ i y,L[i]?=some y->eP c L sq i y)∧us=usedI L L.length∧roomP c L
variable {c:Cfg}{sq:Int}
theorem lg_small (hM:c.may) (h1:L.length≤c.log) (h:∀ i y,L[i]?=some y->eP c L sq i y):smallL L:=by
 unfold Cfg.may at hM
 refine ⟨by omega,fun x hx=>?_⟩
 obtain ⟨i,hi⟩:=List.getElem?_of_mem hx
 have:=h i x hi
 unfold eP at this
 omega
def blocksN (c:Cfg):Int:=c.chunk*c.rows*(c.members-1)
def akB (c:Cfg):Ak->Prop
 | (k,a,m,d)=>1≤k∧k≤6∧(k=4∨k=6->a=0∧m=0)∧(¬(k=4∨k=6)->1≤m∧m≤8∧0≤a∧a≤blocksN c-m)∧(k=2∨k=3->(d.length:Int)=m*128)∧(¬(k=2∨k=3)->d.length=0)
noncomputable def akE (c:Cfg) (x:Ak):Int:=open Classical in if akB c x then 0 else if ∃ d,akB c (x.1,x.2.1,x.2.2.1,d) then 3 else 2
def partP (k s:Nat) (q:Int) (n:Nat):Prop:=(s=2->q≠0)∧(s≠2->q=0)∧s≤3∧(k≠1->n=0)∧(k=1->s=0∧n=0∨s=3∧n=128)
def flP:Fl->Nat->Prop
 | (_,(k,_),st,sq,da),i=>partP k (st[i]?.getD 0) (sq[i]?.getD 0) (da[i]?.getD []).length
set_option maxHeartbeats 2000000 in
def eflB (c:Cfg):Fl->Prop
 | (n,(k,a,m,d),st,sq,da)=>1≤n∧akB c (k,a,m,d)∧(st.length:Int)=m∧(da.length:Int)=m∧(k≠4->(sq.length:Int)=m)∧(k=4->sq.length=1)∧∀ i<st.length,flP (n,(k,a,m,d),st,sq,da) i
theorem akE_0 {x:Ak}(h:akB c x):akE c x=0:=by unfold akE;rw [if_pos h]
theorem akE_n {x:Ak}(h:¬akB c x):akE c x≠0:=by unfold akE;rw [if_neg h];split <;> decide
def meetP (x y:Ak):Prop:=((x.1=2∨x.1=3∨x.1=5)∨y.1=2∨y.1=3∨y.1=5)∧x.2.1<y.2.1+y.2.2.1∧y.2.1<x.2.1+x.2.2.1
def firstP (L:List Fl) (i:Nat):Prop:=∀ y,L[i]?=some y->∀ j<i,∀ x,L[j]?=some x->¬meetP x.2.1 y.2.1
def waitsP (f:Fl):Prop:=∀ k<f.2.2.1.length,∀ s,f.2.2.1[k]?=some s->s=0
def flsP (c:Cfg) (L:List Fl) (i:Nat) (y:Fl):Prop:=eflB c y∧(0<i->∀ x,L[i-1]?=some x->x.1<y.1)∧(waitsP y∨firstP L i)
def flsB (c:Cfg) (L:List Fl):Prop:=L.length≤8∧∀ i<L.length,∀ y,L[i]?=some y->flsP c L i y
theorem EPrim.quoN {t:AT}{s:St}{k:AV->St->Prop}{x y:AO}{b:Int}(hx:ev x t=.some (.int .i64 a)) (hy:ev y t=.some (.int .i64 b)) (h:(0≤a∧a≤9223372036854775807)∧0<b) (hk:k (.int .i64 (a / b)) s):EPrim (.bin .quo x y) t s k:=by
 refine bin_of hx hy (v:=.int .i64 (a / b)) ?_ hk
 show (Bool.rec .none (Bool.rec (.some (.int .i64 (wrapQ .i64 (tdivQ a b)))) .none (eqI b 0)) (eqK .i64 .i64):OV)=_
 have h1:a.tdiv b=a / b:=Int.tdiv_eq_ediv_of_nonneg h.1.1
 have h2:0≤a / b:=Int.ediv_nonneg h.1.1 (by omega)
 have h3:a / b≤a:=Int.ediv_le_self b h.1.1
 rw [eqK_self,eqI_eq,show (b == 0)=false by simp;omega,tdivQ_eq,h1,wrapQ_eq,i64_in (by omega)]
def plS (c:Cfg) (b:Int):Int:=b / c.chunk / (c.members-1)*c.chunk+b % c.chunk
def plK (c:Cfg) (b:Int):Int:=b / c.chunk % (c.members-1)
theorem pl_ok {b:Int}(hM:c.may) (h:0≤b∧b<blocksN c):(0≤plS c b∧plS c b<stripesN c)∧0≤plK c b∧plK c b<c.members-1:=by
 unfold Cfg.may at hM
 unfold blocksN at h
 unfold plS plK stripesN
 have h1:=Int.emod_nonneg b (show c.chunk≠0 by omega)
 have h2:=Int.emod_lt_of_pos b (show 0<c.chunk by omega)
 have h3:=Int.emod_nonneg (b / c.chunk) (show c.members-1≠0 by omega)
 have h4:=Int.emod_lt_of_pos (b / c.chunk) (show 0<c.members-1 by omega)
 have h5:0≤b / c.chunk / (c.members-1):=Int.ediv_nonneg (Int.ediv_nonneg h.1 (by omega)) (by omega)
 have h6:b / c.chunk / (c.members-1)<c.rows:=by
  rw [Int.ediv_lt_iff_lt_mul (by omega),Int.ediv_lt_iff_lt_mul (by omega)]
  have:c.rows*(c.members-1)*c.chunk=c.chunk*c.rows*(c.members-1):=by
   rw [Int.mul_comm,← Int.mul_assoc]
  omega
 refine ⟨⟨?_,?_⟩,h3,h4⟩
 ·have:=Int.mul_nonneg h5 (show 0≤c.chunk by omega);omega
 ·generalize b / c.chunk / (c.members-1)=w at *
  have h7:(w+1)*c.chunk≤c.rows*c.chunk:=Int.mul_le_mul_of_nonneg_right (by omega) (by omega)
  rw [Int.add_mul,Int.one_mul,Int.mul_comm c.rows] at h7
  omega
def plI (hs:List Hd) (s:Int):Int:=match hs.findIdx? (fun h=>decide (h.1=s)) with|some i=>i|none=>-1
variable {hs:List Hd}{s:Int}{i:Nat}
theorem plI_some {h:Hd}(hh:hs[i]?=some h) (h1:h.1=s) (h2:∀ j<i,∀ g,hs[j]?=some g->g.1≠s):plI hs s=i:=by
 have hl:=(List.getElem?_eq_some_iff.1 hh).1
 have he:=(List.getElem?_eq_some_iff.1 hh).2
 unfold plI
 rw [(List.findIdx?_eq_some_iff_getElem (p:=fun h=>decide (h.1=s)) (xs:=hs) (i:=i)).2 ⟨hl,by rw [he];exact decide_eq_true h1,fun j hj=>by
  have:=h2 j hj _ (List.getElem?_eq_getElem (by omega));simpa using this⟩]
theorem plI_none (h2:∀ j<hs.length,∀ g,hs[j]?=some g->g.1≠s):plI hs s=-1:=by
 unfold plI
 rw [List.findIdx?_eq_none_iff.2 fun h hm=>by
  obtain ⟨j,hj⟩:=List.getElem?_of_mem hm
  have:=h2 j (List.getElem?_eq_some_iff.1 hj).1 h hj;simpa using this]
def lagP (L:List Lv):Prop:=∃ (i k:Nat) (x y:Lv),k<i∧L[i]?=some x∧L[k]?=some y∧x.home=true∧y.stripe=x.stripe∧y.home=false
variable {lo po dn ag tl us:Int}{sp nl br:Bool}{l:List AV}
theorem dvw {bk:Bool}{ev:Int}{fs:List Fl}{nx:Int}{so:Bool}(h:dvC.r (c,bk,(ev,lo,sp,po,dn,nl,br),hs,(ag,sq,tl,us,L),fs,nx,so) l):∃ hv lv fv,l=c.c++[.bool bk,.int .u32 ev,.int .i64 lo,.bool sp,.int .i64 po,.int .i64 dn,.bool nl,.bool br,hv,.int .u32 ag,.int .u32 sq,.int .i64 tl,.int .i64 us,lv,fv,.int .i64 nx,.bool so]∧(c.ok∧u32B ev∧i64B lo∧i64B po∧i64B dn∧u32B ag∧u32B sq∧i64B tl∧i64B us∧i64B nx)∧Ls hdC hs hv∧Ls lvC L lv∧Ls ftC fs fv:=by
 obtain ⟨ol,hv,lv,fv,rfl,h1,h2,h3,h4,h5,h6,h7,h8,h9,h10⟩:=dv_of h
 obtain ⟨rfl,g1,g2,g3,g4⟩:=lo_of h2
 exact ⟨hv,lv,fv,rfl,⟨h1,g1,g2,g3,g4,h4,h5,h6,h7,h10⟩,h3,h8,h9⟩
theorem plI_lt (hs:List Hd) (s:Int):-1≤plI hs s∧plI hs s<hs.length:=by
 unfold plI
 cases h:hs.findIdx? (fun h=>decide (h.1=s)) with
 | none=>dsimp only;omega
 | some i=>have:=(List.findIdx?_eq_some_iff_getElem.1 h).1;dsimp only;omega
def bareP (hs:List Hd) (L:List Lv):Prop:=L.length=0∧∀ i<hs.length,∀ h,hs[i]?=some h->h.2.2.2.2.1=false∧h.2.2.2.1≠2∧h.2.2.2.1≠3
def dealtP (L:List Lv):Hd->Prop
 | (st,_,_,ph,de,sq)=>(de=true↔dirtyP L st)∧(2≤ph->0≤lastI L st L.length∧∀ x,L[(lastI L st L.length).toNat]?=some x->x.seq=sq∧x.par=true∧x.home=false∧(x.sure=true↔ph≠2))
set_option maxHeartbeats 2000000 in
def keptP (L:List Lv) (hs:List Hd) (s:Int):Prop:=∀ x,L[(lastI L s L.length).toNat]?=some x->(x.par=false->0≤plI hs s)∧(x.par=true->x.home=false->0≤plI hs s∧∀ h,hs[(plI hs s).toNat]?=some h->2≤h.2.2.2.1)
def heldAt (c:Cfg) (hs:List Hd) (b:Int):Prop:=0≤plI hs (plS c b)∧∀ h,hs[(plI hs (plS c b)).toNat]?=some h->h.2.2.2.1≤1∧h.2.2.1[(plK c b).toNat]?=some true
def heldF1 (c:Cfg) (hs:List Hd) (f:Fl):Prop:=∀ k<f.2.2.1.length,f.2.2.1[k]?=some 1->heldAt c hs (f.2.1.2.1+(k:Int))
def heldP (c:Cfg) (hs:List Hd) (fs:List Fl):Prop:=∀ i<fs.length,∀ f,fs[i]?=some f->heldF1 c hs f
theorem efl_blk {n:Int}{k:Nat}{m:Int}{d st:List Nat}{sq:List Int}{da:List (List Nat)}(h:eflB c (n,(k,a,m,d),st,sq,da)) (hi:i<st.length):0≤a+i∧a+i<blocksN c:=by
 obtain ⟨_,h1,h2,-⟩:=h
 unfold akB at h1
 omega
theorem may_mul (hM:c.may):(0≤stripesN c∧stripesN c≤64)∧0≤blocksN c∧blocksN c≤1000:=by
 unfold Cfg.may at hM
 unfold blocksN stripesN
 have hmt:0≤c.chunk*c.rows∧c.chunk*c.rows≤64:=⟨Int.mul_nonneg (by omega) (by omega),Int.le_trans (Int.mul_le_mul (by omega:c.chunk≤8) (by omega:c.rows≤8) (by omega) (by omega)) (by decide)⟩
 exact ⟨hmt,Int.mul_nonneg (by omega) (by omega),Int.le_trans (Int.mul_le_mul hmt.2 (by omega:c.members-1≤15) (by omega) (by omega)) (by decide)⟩
theorem lo_mk {ev:Int}(h1:u32B ev) (h2:i64B lo) (h3:i64B po) (h4:i64B dn):loC.r (ev,lo,sp,po,dn,nl,br) [.int .u32 ev,.int .i64 lo,.bool sp,.int .i64 po,.int .i64 dn,.bool nl,.bool br]:=
 ⟨[_],_,rfl,⟨rfl,u32_wf h1⟩,[_],_,rfl,⟨rfl,i64_wf h2⟩,[_],_,rfl,rfl,[_],_,rfl,⟨rfl,i64_wf h3⟩,[_],_,rfl,⟨rfl,i64_wf h4⟩,[_],_,rfl,rfl,rfl⟩
theorem lg_mk {v:AV}(h1:u32B ag) (h2:u32B sq) (h3:i64B tl) (h4:i64B us) (h5:Ls lvC L v):lgC.r (ag,sq,tl,us,L) [.int .u32 ag,.int .u32 sq,.int .i64 tl,.int .i64 us,v]:=
 ⟨[_],_,rfl,⟨rfl,u32_wf h1⟩,[_],_,rfl,⟨rfl,u32_wf h2⟩,[_],_,rfl,⟨rfl,i64_wf h3⟩,[_],_,rfl,⟨rfl,i64_wf h4⟩,v,rfl,h5⟩
theorem lastI_ge {L:List Lv}{s:Int}{i:Nat}{x:Lv}(hx:L[i]?=some x) (h:x.stripe=s):∀ n,i<n->(i:Int)≤lastI L s n
 | 0,h0=>by omega
 | n+1,h0=>by
  unfold lastI
  rcases Nat.lt_succ_iff_lt_or_eq.1 h0 with h1|rfl
  ·have:=lastI_ge hx h n h1
   split <;> omega
  ·rw [hx,if_pos (by rw [← h];rfl)];exact Int.le_refl _
def DK.bl (x:DK):List Nat:=x.bs.map List.length
def DK.wl (x:DK):List Nat:=x.ws.map fun w=>w.b.length
theorem wr_flat:∀ {ws:List (Int×List Nat)}{ls:List (List AV)},All2 wrC.r ws ls->∃ W:List WR,(∀ w ∈ W,w.any)∧ls.flatten=wrs W∧W.map (fun w=>(w.at_,w.b))=ws
 | [],_,h=>by cases h;exact ⟨[],by simp,rfl,rfl⟩
 | x::ws,_,h=>by
  cases h with
  | cons h1 h2=>
   obtain ⟨W,a,b,c⟩:=wr_flat h2
   obtain ⟨x1,x2⟩:=x
   obtain ⟨_,_,rfl,⟨rfl,g1⟩,u,rfl,g2⟩:=h1
   refine ⟨⟨x1,u,x2⟩::W,fun w hw=>?_,by rw [List.flatten_cons,b];rfl,by rw [List.map_cons,c]⟩
   rcases List.mem_cons.1 hw with rfl|hw
   ·exact ⟨wf_i64 g1,g2.b⟩
   ·exact a w hw
structure DKof (x:Dk) (y:DK):Prop where
 a:y.any
 b:y.bs=x.1
 w:y.ws.map (fun w=>(w.at_,w.b))=x.2.1
 d:y.dead=x.2.2
theorem dk_DK {x:Dk}(h:dkC.r x l):∃ y:DK,DKof x y∧l=y.c:=by
 obtain ⟨bs,ws,dd⟩:=x
 obtain ⟨bv,wv,rfl,h1,h2⟩:=dk_of h
 obtain ⟨us,s1,a1⟩:=h1.bl
 obtain ⟨ls,a2,s2,-⟩:=h2
 obtain ⟨W,hW,e1,e2⟩:=wr_flat a2
 have hwl:W.length=ws.length:=by rw [← e2,List.length_map]
 have s2:Sl 2 ws.length ls.flatten wv:=s2
 exact ⟨⟨bv,us,bs,wv,W,dd⟩,⟨⟨s1,a1,by rw [hwl,← e1];exact s2,hW⟩,rfl,e2,rfl⟩,rfl⟩
def smD (x:Dk):Prop:=x.1.length<1000000∧x.2.1.length<1000000∧(∀ b ∈ x.1,b.length<1000000)∧∀ w ∈ x.2.1,w.2.length<1000000
variable {y:DK}
theorem smD_ok {x:Dk}(h:DKof x y) (hs:smD x):y.ok:=by
 obtain ⟨h1,h2,h3,h4⟩:=hs
 refine ⟨h.a,?_,?_,?_,?_⟩
 ·rw [h.a.bs.length,h.b];exact h1
 ·rw [show y.ws.length=x.2.1.length by rw [← h.w,List.length_map]];exact h2
 ·rw [h.b];exact h3
 ·intro w hw
  exact h4 (w.at_,w.b) (by rw [← h.w];exact List.mem_map.2 ⟨w,hw,rfl⟩)
def dkP:Dk->Prop
 | (bs,ws,dd)=>(1≤bs.length∧bs.length≤256∧ws.length≤1024)∧(∀ b ∈ bs,sized b)∧(∀ w ∈ ws,0≤w.1∧w.1<bs.length∧sized w.2)∧(dd=true->ws.length=0∧∀ b ∈ bs,b.length=0)
theorem odd_sized:oddB b.length=false↔sized b:=by
 unfold oddB sized
 simp only [Bool.and_eq_false_iff,decide_eq_false_iff_not,Decidable.not_not]
theorem dk_iff {x:Dk}(h:DKof x y):(dskB y=true)=dkP x:=by
 obtain ⟨ha,hb,hw,hd⟩:=h
 have h1:y.us.length=x.1.length:=by rw [ha.bs.length,hb]
 have h2:y.ws.length=x.2.1.length:=by rw [← hw,List.length_map]
 obtain ⟨bs,ws,dd⟩:=x
 dsimp only at h1 h2 hb hw hd
 refine propext (dskB_iff.trans ?_)
 unfold dkP
 rw [h1,h2,hb,hd,← hw]
 have e1:(∀ b ∈ bs,oddB b.length=false)↔∀ b ∈ bs,sized b:=forall_congr' fun b=>forall_congr' fun _=>odd_sized
 have e2:(∀ w ∈ y.ws,wBad (bs.length:Int) w=false)↔∀ w ∈ y.ws.map (fun w:WR=>(w.at_,w.b)),0≤(w:Int×List Nat).1∧w.1<bs.length∧sized w.2:=by
  have key:∀ w:WR,wBad (bs.length:Int) w=false↔0≤w.at_∧w.at_<bs.length∧sized w.b:=fun w=>by
   unfold wBad
   simp only [Bool.or_eq_false_iff,decide_eq_false_iff_not,odd_sized]
   constructor
   ·rintro ⟨⟨a,b⟩,c⟩;exact ⟨by omega,by omega,c⟩
   ·rintro ⟨a,b,c⟩;exact ⟨⟨by omega,by omega⟩,c⟩
  refine ⟨fun h w hw=>?_,fun h w hw=>(key w).2 (h _ (List.mem_map.2 ⟨w,hw,rfl⟩))⟩
  obtain ⟨u,hu,rfl⟩:=List.mem_map.1 hw
  exact (key u).1 (h u hu)
 have e3:(∀ b ∈ bs,posB b.length=false)↔∀ b ∈ bs,b.length=0:=by
  refine forall_congr' fun b=>forall_congr' fun _=>?_
  unfold posB;simp only [decide_eq_false_iff_not];omega
 dsimp only
 rw [e1,e2,e3,List.length_map]
def m20P (c:Cfg) (D:List Dk):Prop:=(D.length:Int)=c.members+1∧∀ i<D.length,∀ d,D[i]?=some d->(d.1.length:Int)=(if (i:Int)=c.members then c.log+1 else 1+stripesN c)∧dkP d
end Go.AM
namespace Go.AM
attribute [local irreducible] W
open X
section
variable {t:AT}{s:St}{k:AV->St->Prop}{x y:AO}
end
structure SX where
 s:Nat
 x:Nat
structure SX.ok (p:SX):Prop where
 s:p.s<4294967296
 x:p.x<256
structure UB.any (x:UB):Prop where
 b:BAt x.u x.b
 l:x.b.length<1000000
structure SB where
 s:Nat
 x:UB
structure SB.ok (p:SB):Prop where
 s:p.s<4294967296
 x:p.x.any
end Go.AM
namespace Go.AM
attribute [local irreducible] W
open X
variable {es n:Nat}{c:Option Nat}{l:List AV}
theorem src_fz (h:l.length=n*es) (s:St):srcOf es (.fz n c l) s=some l:=by
 show takeL (n*es) l=_
 rw [takeL_of (by omega),List.take_of_length_le (by omega)]
structure CDI where
 x:CDA
 i:Nat
structure CDI.ok (p:CDI):Prop where
 x:p.x.ok
 k:askE p.x=0
 i:p.i<1000
def flC (cs:List AV) (L:List WR):List AV:=L.foldl (fun cs w=>cs.set w.at_.toNat w.u) cs
def flB (bs:List (List Nat)) (L:List WR):List (List Nat):=L.foldl (fun bs w=>bs.set w.at_.toNat w.b) bs
theorem flC_len:∀ (L:List WR) (cs:List AV),(flC cs L).length=cs.length
 | [],_=>rfl
 | w::L,cs=>by show (flC (cs.set _ _) L).length=_;rw [flC_len L,List.length_set]
theorem flC_app (cs:List AV) (L M:List WR):flC cs (L++M)=flC (flC cs L) M:=by unfold flC;rw [List.foldl_append]
theorem flC_at:∀ (L:List WR) {cs:List AV}{bs:List (List Nat)},All2 BAt cs bs->(∀ w ∈ L,BAt w.u w.b)->All2 BAt (flC cs L) (flB bs L)
 | [],_,_,h,_=>h
 | w::L,cs,bs,h,hw=>flC_at L (all2_set (hw w (by simp)) h _) (fun v hv=>hw v (by simp [hv]))
theorem hfs_BAt {us:List AV}{bs:List (List Nat)}(h:All2 BAt us bs):hfs us=true:=by
 induction h with
 | nil=>rfl
 | cons a b ih=>show (AM.hf _ && hfs _)=true;rw [a.1.hf,ih];rfl
theorem flB_get:∀ (L:List WR) (bs:List (List Nat)) {p:Int},0≤p->(∀ w ∈ L,0≤w.at_∧w.at_<bs.length)->(flB bs L).getD p.toNat []=(lastW p L.reverse).getD (bs.getD p.toNat [])
 | [],bs,p,_,_=>rfl
 | w::L,bs,p,hp,h=>by
  show (flB (bs.set w.at_.toNat w.b) L).getD p.toNat []=_
  obtain ⟨h1,h2⟩:=h w (by simp)
  rw [flB_get L _ hp (fun v hv=>by rw [List.length_set];exact h v (by simp [hv])),List.reverse_cons]
  have hl:∀ M:List WR,lastW p (M++[w])=match lastW p M with|some b=>some b|none=>if w.at_=p then some w.b else none:=fun M=>by
   induction M with
   | nil=>show (if w.at_=p then some w.b else none)=_;rfl
   | cons v M ih=>
    show (if v.at_=p then some v.b else lastW p (M++[w]))=_
    rw [ih]
    show _=match (if v.at_=p then some v.b else lastW p M:Option (List Nat)) with|some b=>some b|none=>_
    split <;> rfl
  rw [hl]
  cases lastW p L.reverse with
  | some b=>rfl
  | none=>
   show (bs.set w.at_.toNat w.b).getD p.toNat []=(if w.at_=p then some w.b else none:Option (List Nat)).getD _
   by_cases e:w.at_=p
   ·rw [if_pos e,e,List.getD_eq_getElem?_getD,List.getElem?_set_self (by omega)];rfl
   ·rw [if_neg e,List.getD_eq_getElem?_getD,List.getElem?_set_ne (by omega)];rfl
def flM (x:DK):DK:=⟨.fz x.us.length none (flC (x.us.map clnV) (x.ws.map clnW)),flC (x.us.map clnV) (x.ws.map clnW),flB x.bs x.ws,.nils,[],false⟩
def flD (x:DK):DK:=⟨.fz x.us.length none ((flC (x.us.map clnV) (x.ws.map clnW)).map clnV),(flC (x.us.map clnV) (x.ws.map clnW)).map clnV,flB x.bs x.ws,.nils,[],false⟩
theorem flB_map (bs:List (List Nat)):∀ (L:List WR),flB bs (L.map clnW)=flB bs L:=fun L=>by
 unfold flB
 rw [List.foldl_map];rfl
theorem flB_mem:∀ (L:List WR) (bs:List (List Nat)) {b:List Nat},b ∈ flB bs L->b ∈ bs∨∃ w ∈ L,w.b=b
 | [],_,_,h=>.inl h
 | w::L,bs,b,h=>by
  rcases flB_mem L (bs.set w.at_.toNat w.b) h with h|⟨v,hv,e⟩
  ·rcases List.mem_or_eq_of_mem_set h with h|rfl
   ·exact .inl h
   ·exact .inr ⟨w,by simp,rfl⟩
  ·exact .inr ⟨v,by simp [hv],e⟩
variable {x:DK}
theorem flAt (hx:x.ok):All2 BAt (flC (x.us.map clnV) (x.ws.map clnW)) (flB x.bs x.ws):=by
 have:=flC_at (x.ws.map clnW) (all2_cln hx.a.bs) (fun w hw=>by
  obtain ⟨v,hv,rfl⟩:=List.mem_map.1 hw
  exact (clnW_any (hx.a.ws v hv)).b)
 rwa [flB_map] at this
theorem flM_ok (hx:x.ok):(flM x).ok:=by
 have hl:(flC (x.us.map clnV) (x.ws.map clnW)).length=x.us.length:=by rw [flC_len,List.length_map]
 refine ⟨⟨.inr (.inr ⟨none,by show AV.fz x.us.length none _=.fz (flC _ _).length none _;rw [hl];rfl,by rw [Nat.mul_one]⟩),flAt hx,.inl ⟨rfl,rfl,rfl⟩,fun w hw=>by cases hw⟩,by show (flC _ _).length<_;rw [hl];exact hx.n,by show 0<_;decide,fun b hb=>?_,fun w hw=>by cases hw⟩
 rcases flB_mem _ _ hb with h|⟨w,hw,rfl⟩
 ·exact hx.b b h
 ·exact hx.w w hw
theorem flD_ok (hx:x.ok):(flD x).ok:=by
 have hl:((flC (x.us.map clnV) (x.ws.map clnW)).map clnV).length=x.us.length:=by rw [List.length_map,flC_len,List.length_map]
 have hm:=flM_ok hx
 exact ⟨⟨.inr (.inr ⟨none,by show AV.fz x.us.length none _=.fz (List.map clnV _).length none _;rw [hl];rfl,by rw [Nat.mul_one]⟩),all2_cln hm.a.bs,.inl ⟨rfl,rfl,rfl⟩,fun w hw=>by cases hw⟩,by show (List.map clnV _).length<_;rw [hl];exact hx.n,hm.m,hm.b,fun w hw=>by cases hw⟩
theorem flD_len (x:DK):(flD x).us.length=x.us.length:=by show ((flC _ _).map clnV).length=_;rw [List.length_map,flC_len,List.length_map]
theorem flD_dsk (hx:x.ok) (h:dskB x=true):dskB (flD x)=true:=by
 obtain ⟨d1,d2,d3,d4⟩:=dskB_iff.1 h
 refine dskB_iff.2 ⟨?_,fun b hb=>?_,(fun w hw=>by cases hw),(fun hd=>by cases hd)⟩
 ·rw [flD_len];exact ⟨d1.1,d1.2.1,by show 0≤_;omega⟩
 ·rcases flB_mem _ _ hb with h|⟨w,hw,rfl⟩
  ·exact d2 b h
  ·have:=d3 w hw
   unfold wBad at this
   simp only [Bool.or_eq_false_iff] at this
   exact this.2
theorem drdB_fl (hx:x.ok) (h:dskB x=true) {p:Int}(hp:0≤p):drdB (flD x) p=drdB x p:=by
 obtain ⟨d1,d2,d3,d4⟩:=dskB_iff.1 h
 have hl:=hx.a.bs.length
 show (none:Option (List Nat)).getD ((flB x.bs x.ws).getD p.toNat [])=_
 unfold drdB drdL
 rw [flB_get _ _ hp (fun w hw=>by
  have:=d3 w hw
  unfold wBad at this
  simp only [Bool.or_eq_false_iff,decide_eq_false_iff_not] at this
  omega)]
 rfl
def flE (x:DK):Int:=if dskB x=true then (if x.dead then 40 else 0) else 8
def flOut (x:DK):AV:=if flE x=0 then .tup [(flD x).v,.int .i64 0] else .tup [.agg zDk,.int .i64 (flE x)]
def fluF:Fam DK:=⟨DK.ok,fun x=>[x.v],flOut,fun x y hx hy h=>by rw [DK.inj hx.a hy.a (List.cons.inj h).1]⟩
theorem hf_flOut (x:DK):AM.hf (flOut x)=true:=by unfold flOut;split <;> rfl
def code64:AC:=match a236 with|.mk c _=>c
def rest64:AC:=match code64 with
 | .seq _ (.seq _ (.seq _ (.seq _ (.seq _ r))))=>r
 | _=>.skip
def tlK:List (Nat×AV):=[(1,.ptr 0 0),(2,.ptr 1 0)]
variable {e:Env}
theorem flu_rest (hE:EM P e) (h103:Con e 87 twO) (hx:x.ok) (h1:1≤x.us.length) (wv:AV) (hwv:AM.hf wv=true) (K:AV->St->Prop)
 (hk:∀ s,s.get 2=some (.row 54 (flD x).us)->K (.tup [.agg [.sl 2 0 x.us.length none,.nils,.bool false],.int .i64 0]) s):
 W P 0 none rest64 (ofL tlK) (allocs St0 [.row 74 [(flM x).bv,wv,.bool false],.row 74 zDk]) [] (Ends [.cells 2 3,.tmp 3] K):=by
 have hmo:=flM_ok hx
 have hlen:(flM x).us.length=x.us.length:=by show (flC _ _).length=_;rw [flC_len,List.length_map]
 have htw:=twO_run (x:=flM x) ⟨hmo,by rw [hlen];exact h1⟩
 have hv:(flM x).v=.agg [(flM x).bv,.nils,.bool false]:=rfl
 have htw:∀ s,twO [.agg [(flM x).bv,.nils,.bool false]] s=.ok (.agg [.sl (0+s.next) 0 x.us.length none,.nils,.bool false]) (allocs s [.row 54 (flD x).us]):=fun s=>by
  have:=htw s
  rw [hv] at this
  rw [this,← hlen];rfl
 refine W.endV hE ?_
 generalize (flM x).bv=B at *
 conv=>whnf
 repeat' (first|(refine ESc.ov h103 (htw _) ?_;conv=>whnf)|fail)
 exact hk _ rfl
def loop64:AC:=match code64 with
 | .seq _ (.seq _ (.seq _ (.seq _ (.seq l _))))=>l
 | _=>.skip
theorem flu_loop (hE:EM P e) (h103:Con e 87 twO) (hx:x.ok) (hD:dskB x=true) (K:AV->St->Prop)
 (hk:∀ s,s.get 2=some (.row 54 (flD x).us)->K (.tup [.agg [.sl 2 0 x.us.length none,.nils,.bool false],.int .i64 0]) s) (h0:1≤x.ws.length):
 VW P e 0 loop64 (ofL tlK) (allocs St0 [.row 74 [.sl 2 0 x.us.length none,.sl 3 0 x.ws.length none,.bool false],.row 74 zDk,.row 54 (x.us.map clnV),.row 101 (wrs (x.ws.map clnW))]) none [] (Bhd (fun t s ds=>W P 0 none rest64 t s ds (Ends [.cells 2 3,.tmp 3] K)) (Ends [.cells 2 3,.tmp 3] K)):=by
 obtain ⟨d1,d2,d3,d4⟩:=dskB_iff.1 hD
 have hr:=fun wv hwv=>flu_rest hE h103 hx d1.1 wv hwv K hk
 have hUf:=hfs_clnU hx.a
 obtain ⟨W1,hW1⟩:∃ W1,W1=x.ws.map clnW:=⟨_,rfl⟩
 have hW1l:W1.length=x.ws.length:=by rw [hW1,List.length_map]
 have hWa:∀ w ∈ W1,w.any∧0≤w.at_∧w.at_<x.us.length:=fun w hw=>by
  rw [hW1] at hw
  obtain ⟨v,hv,rfl⟩:=List.mem_map.1 hw
  have:=d3 v hv
  unfold wBad at this
  simp only [Bool.or_eq_false_iff,decide_eq_false_iff_not] at this
  exact ⟨clnW_any (hx.a.ws v hv),by show 0≤v.at_;omega,by show v.at_<_;omega⟩
 have hwf:hfs (wrs W1)=true:=hfs_wrs fun w hw=>(hWa w hw).1.b.1.hf
 have hm1:(flM x).bv=.fz x.us.length none (flC (x.us.map clnV) W1):=by rw [hW1];rfl
 rw [hm1] at hr
 have hcf:∀ i,hfs (flC (x.us.map clnV) (W1.take i))=true:=fun i=>hfs_BAt (flC_at (W1.take i) (all2_cln hx.a.bs) (fun w hw=>(hWa w (List.mem_of_mem_take hw)).1.b))
 have hcl:∀ i,(flC (x.us.map clnV) (W1.take i)).length=x.us.length:=fun i=>by rw [flC_len,List.length_map]
 have hwn:=hx.m
 rw [← hW1]
 rw [← hW1l] at h0 hwn ⊢
 generalize x.us.length=n at *
 generalize hU0:x.us.map clnV=U at *
 clear hk hx hD d1 d2 d3 d4 hU0
 obtain ⟨m,hmm⟩:∃ m,m=W1.length:=⟨_,rfl⟩
 rw [← hmm] at h0 hwn ⊢
 conv=>whnf
 refine EPrim.lenPZ rfl ?_;conv=>whnf
 refine W.loopT (α:=Nat) (fun i=>[(1,.ptr 0 0),(2,.ptr 1 0),(19,.sl 2 0 m none),(20,.int .i64 (m:Int)),(21,.int .i64 (i:Int))]) (fun i=>[.row 74 [.sl 3 0 n none,.sl 2 0 m none,.bool false],.row 74 zDk,.row 101 (wrs W1),.row 54 (flC U (W1.take i))]) (fun i=>m-i) (fun i=>i≤m) 0 (Nat.zero_le _)
  (Abs.tells (rs:=[0,1,3,2]) ⟨by decide,⟨r9,r9,r9,r9,r9,trivial⟩,⟨r9,r9,o9,o9 (hcf 0),trivial⟩⟩) ?_
 intro i hi
 refine vs_sound hE ?_
 by_cases hlt:i<m
 ·have hWi:=List.getElem?_eq_getElem (l:=W1) (i:=i) (by omega)
  have hwi:=hWa _ (List.getElem_mem (l:=W1) (n:=i) (by omega))
  have htk:flC U (W1.take (i+1))=(flC U (W1.take i)).set (W1[i]'(by omega)).at_.toNat (W1[i]'(by omega)).u:=by
   rw [List.take_succ_eq_append_getElem (by omega),flC_app];rfl
  have hall:=And.intro hWi (And.intro hwi htk)
  clear hWi hwi htk
  revert hall
  generalize W1[i]'(by omega)=w
  rintro ⟨hWi,⟨hwa,hw0,hwn'⟩,htk⟩
  obtain ⟨wa,wu,wb⟩:=w
  have hwu:AM.hf wu=true:=hwa.b.1.hf
  dsimp only at hw0 hwn' htk
  obtain ⟨a,rfl⟩:∃ a:Nat,wa=(a:Int):=⟨wa.toNat,by omega⟩
  have ha:a<n:=by omega
  have htk:flC U (W1.take (i+1))=(flC U (W1.take i)).set a wu:=htk
  have hld:∀ s:St,s.get 2=some (.row 101 (wrs W1))->load 2 (0+i*2) 2 s=some [.int .i64 (a:Int),wu]:=fun s h=>load_wr h hWi
  have hst:∀ s:St,s.get 3=some (.row 54 (flC U (W1.take i)))->storeAt 3 (0+a*1) [wu] s=some (s.put 3 (.row 54 ((flC U (W1.take i)).set a wu))):=fun s h=>store_set h (by rw [hcl];exact ha)
  have hc1:=hcf (i+1)
  rw [htk] at hc1
  have hc1:hfs ((flC U (W1.take i)).set a wu)=true:=hc1
  have hcw:∀ (K:Prop),K->wB (Nat.beq (lenL (cellsOf wu)) 1) K False:=fun K hK=>by
   have:cellsOf wu=[wu]:=by
    rcases hwa.b.1 with ⟨h,_⟩|⟨h,_⟩|⟨c,h,_⟩ <;> (dsimp only at h;rw [h];rfl)
   rw [this];exact hK
  conv=>whnf
  refine EPrim.lss2 (a:=(i:Int)) (b:=(m:Int)) rfl rfl (fun _=>?_) (fun h=>by omega);conv=>whnf
  refine EPrim.ixsP (i:=i) rfl rfl hlt ?_;conv=>whnf
  refine stuckO _ (hld _ rfl) ?_;conv=>whnf
  refine EPrim.ixsP (i:=a) rfl rfl ha ?_;conv=>whnf
  refine hcw _ ?_
  have hcu:cellsOf wu=[wu]:=by
   rcases hwa.b.1 with ⟨h,_⟩|⟨h,_⟩|⟨c,h,_⟩ <;> (dsimp only at h;rw [h];rfl)
  rw [hcu]
  refine stuckO _ (hst _ rfl) ?_;conv=>whnf
  repeat' (first|((first|refine nq7 ?_|refine ⟨rfl,?_⟩);conv=>whnf)|fail)
  refine ⟨i+1,hlt,by omega,?_⟩
  rw [htk]
  exact Abs.tells (rs:=[0,1,2,3]) .a
 ·have hie:i=m:=by omega
  subst hie
  have hte:W1.take i=W1:=List.take_of_length_le (by omega)
  have hcf':=hcf i
  rw [hte] at hcf' ⊢
  conv=>whnf
  refine EPrim.lss2 (a:=(i:Int)) (b:=(i:Int)) rfl rfl (fun h=>by omega) (fun _=>?_);conv=>whnf
  have q1:=AbsK.frz (P:=P) (k:=0) (n:=3) (e:=54) (cs:=flC U W1) (t:=putT 23 (AV.bool false) (ofL [(1,.ptr 0 0),(2,.ptr 1 0),(19,.sl 2 0 i none),(20,.int .i64 (i:Int)),(21,.int .i64 (i:Int))])) (s:=allocs St0 [.row 74 [.sl 3 0 n none,.sl 2 0 i none,.bool false],.row 74 zDk,.row 101 (wrs W1),.row 54 (flC U W1)]) (tl:=tlK) (tl2:=tlK) (os:=[.row 74 [.sl 3 0 n none,.sl 2 0 i none,.bool false],.row 74 zDk,.row 101 (wrs W1)]) (os2:=[.row 74 [.fz n none (flC U W1),.sl 2 0 i none,.bool false],.row 74 zDk,.row 101 (wrs W1)]) (rs:=[0,1,2,3])
   .a rfl hcf' rfl rfl rfl rfl rfl (by
    show [_,_,frzO 3 _ (.row 101 (wrs W1))]=_
    rw [frzRowH hwf];rfl)
  have q2:=AbsK.frz (P:=P) (k:=0) (n:=2) (e:=101) (cs:=wrs W1) (t:=ofL tlK) (s:=allocs St0 [.row 74 [.fz n none (flC U W1),.sl 2 0 i none,.bool false],.row 74 zDk,.row 101 (wrs W1)]) (tl:=tlK) (tl2:=tlK) (os:=[.row 74 [.fz n none (flC U W1),.sl 2 0 i none,.bool false],.row 74 zDk]) (os2:=[.row 74 [.fz n none (flC U W1),.fz i none (wrs W1),.bool false],.row 74 zDk]) (rs:=[0,1,2])
   .a rfl hwf rfl rfl rfl rfl rfl rfl
  exact W.tells (q1.trans q2) (hr _ rfl)
theorem fluF_ok (hE:EM P e) (h101:Con e 96 dskF.O) (h103:Con e 87 twO):OvOk P 236 fluF.O:=by
 refine Fam.ok_of g236.b fun x hx=>?_
 refine ⟨by show (AM.hf x.v && true)=true;rw [DK.hf hx.a];rfl,hf_flOut x,C.of_W g236.f g236.c ?_⟩
 have hout:fluF.out x=flOut x:=rfl
 rw [hout]
 have hO0:dskB x=true->x.dead=false->flOut x=.tup [(flD x).v,.int .i64 0]:=fun h1 h2=>by unfold flOut flE;rw [if_pos h1,h2];rfl
 have hO1:dskB x=true->x.dead=true->flOut x=.tup [.agg zDk,.int .i64 40]:=fun h1 h2=>by unfold flOut flE;rw [if_pos h1,h2];rfl
 have hO2:dskB x≠true->flOut x=.tup [.agg zDk,.int .i64 8]:=fun h1=>by unfold flOut flE;rw [if_neg h1];rfl
 by_cases hD:dskB x=true
 ·have hD1:=(dskB_iff.1 hD).1
  have hDo:dskF.out x=.int .i64 0:=by show AV.int .i64 (if _ then _ else _)=_;rw [if_pos hD]
  have htw:=twO_run (x:=x) ⟨hx,hD1.1⟩
  have hfin:∀ s:St,s.get 2=some (.row 54 (flD x).us)->Frz s (.tup [.agg [.sl 2 0 x.us.length none,.nils,.bool false],.int .i64 0]) (.tup [(flD x).v,.int .i64 0]):=fun s h=>
   .tup _ _ (.cons (.agg _ _ (.cons (.sl 2 0 _ none none 54 _ (flD x).us _ h (fun i x h=>by rw [Nat.zero_add];exact h) (frz_hfs (hfs_BAt (flD_ok hx).a.bs)) (.inl rfl)) (.cons (.plain _ rfl) (.cons (.plain _ rfl) .nil)))) (.cons (.plain _ rfl) .nil))
  have hloop:=fun h0=>flu_loop hE h103 hx hD (fun v s=>Frz s v (.tup [(flD x).v,.int .i64 0])) hfin h0
  have hrest:=flu_rest hE h103 hx hD1.1 .nils rfl (fun v s=>Frz s v (.tup [(flD x).v,.int .i64 0])) hfin
  have hUf:=hfs_clnU hx.a
  have hO0:=hO0 hD
  have hO1:=hO1 hD
  obtain ⟨bv,us,bs,wv,ws,dd⟩:=x
  show W P 0 none code64 (initT [.agg [bv,wv,.bool dd]] 0 .lf) St0 [] _
  cases dd
  ·rw [hO0 rfl]
   refine W.seqV hE ?_;conv=>whnf
   refine W.seqV hE ?_;conv=>whnf
   refine ESc.fam dskF h101 _ hx (u:=.int .i64 0) hDo ?_;conv=>whnf
   repeat' (first|refine nq6 ?_ ?_|(intro _;first|omega|conv=>whnf))
   refine W.seqV hE ?_;conv=>whnf
   skip
   rcases ws with _|⟨w0,ws⟩
   ·have htw:∀ s,twO [.agg [bv,wv,.bool false]] s=.ok (.agg [.sl (0+s.next) 0 us.length none,.nils,.bool false]) (allocs s [.row 54 (us.map clnV)]):=htw
    refine W.seqV hE ?_;conv=>whnf
    refine ESc.ov h103 (htw _) ?_;conv=>whnf
    refine W.seqV hE ?_;conv=>whnf
    repeat' (first|(refine nq16 ?_;conv=>whnf)|fail)
    refine W.loop0 hE ?_;conv=>whnf
    repeat' (first|refine nq1 ?_ ?_|(intro _;first|omega|conv=>whnf))
    have hm1:(flM ⟨bv,us,bs,wv,[],false⟩).bv=.fz us.length none (us.map clnV):=rfl
    rw [hm1] at hrest
    exact W.tells (AbsK.frz (P:=P) (k:=0) (n:=2) (e:=54) (cs:=us.map clnV) (tl:=tlK) (tl2:=tlK) (os:=[.row 74 [.sl 2 0 us.length none,.nils,.bool false],.row 74 zDk]) (os2:=[.row 74 [.fz us.length none (us.map clnV),.nils,.bool false],.row 74 zDk]) (rs:=[0,1,2])
     .a rfl hUf rfl rfl rfl rfl rfl rfl) hrest
   ·have htw:∀ s,twO [.agg [bv,wv,.bool false]] s=.ok (.agg [.sl (0+s.next) 0 us.length none,.sl (1+s.next) 0 (ws.length+1) none,.bool false]) (allocs s [.row 54 (us.map clnV),.row 101 (wrs ((w0::ws).map clnW))]):=htw
    have hWf:hfs (wrs ((w0::ws).map clnW))=true:=hfs_wrs fun w hw=>by
     obtain ⟨v,hv,rfl⟩:=List.mem_map.1 hw
     exact (clnW_any (hx.a.ws v hv)).b.1.hf
    refine W.seqV hE ?_;conv=>whnf
    refine ESc.ov h103 (htw _) ?_;conv=>whnf
    refine W.tells (Abs.tells (tl:=tlK) (os:=[.row 74 [.sl 2 0 us.length none,.sl 3 0 (ws.length+1) none,.bool false],.row 74 zDk,.row 54 (us.map clnV),.row 101 (wrs ((w0::ws).map clnW))]) (rs:=[0,1,2,3])
     .a) ?_
    exact W.seqV hE (hloop (by simp))
  ·rw [hO1 rfl]
   refine W.endV hE ?_;conv=>whnf
   refine ESc.fam dskF h101 _ hx (u:=.int .i64 0) hDo ?_;conv=>whnf
   repeat' (first|refine nq6 ?_ ?_|(intro _;first|omega|conv=>whnf))
   exact .plain _ rfl
 ·have hDo:dskF.out x=.int .i64 8:=by show AV.int .i64 (if _ then _ else _)=_;rw [if_neg hD]
  rw [hO2 hD]
  refine W.endV hE ?_
  obtain ⟨bv,us,bs,wv,ws,dd⟩:=x
  show VW P e 0 code64 (initT [.agg [bv,wv,.bool dd]] 0 .lf) St0 none [] _
  conv=>whnf
  refine ESc.fam dskF h101 _ hx (u:=.int .i64 8) hDo ?_;conv=>whnf
  repeat' (first|refine nq6 ?_ ?_|(intro _;first|omega|conv=>whnf))
  exact .plain _ rfl
def dwE (x:DKW):Int:=if wrtE x.d x.a x.b=0 then (if x.d.ws.length=1024 then 9 else 0) else wrtE x.d x.a x.b
def dwW (x:DKW):List WR:=x.d.ws.map clnW++[⟨x.a,fzB (pad x.b),pad x.b⟩]
def dwD (x:DKW):DK:=⟨.fz x.d.us.length none (x.d.us.map clnV),x.d.us.map clnV,x.d.bs,.fz (x.d.ws.length+1) none (wrs (dwW x)),dwW x,x.d.dead⟩
def dwOut (x:DKW):AV:=if dwE x=0 then .tup [(dwD x).v,.int .i64 0] else .tup [.agg zDk,.int .i64 (dwE x)]
theorem hf_dwOut (x:DKW):AM.hf (dwOut x)=true:=by unfold dwOut;split <;> rfl
def dwF:Fam DKW:=⟨DKW.ok,DKW.args,dwOut,fun x y hx hy h=>by rw [DKW.inja hx hy h]⟩
theorem wrs_app (L M:List WR):wrs (L++M)=wrs L++wrs M:=by unfold wrs;rw [List.flatMap_append]
theorem dwF_ok (hE:EM P e) (h102:Con e 107 wrtF.O) (h103:Con e 87 twO) (h98:Inl e 80 code98 [.tmp 2]) (h141:Inl e 155 code141 [.tmp 2]):OvOk P 235 dwF.O:=by
 refine Fam.ok_of g235.b fun x hx=>?_
 refine ⟨DKW.hfa hx,hf_dwOut x,C.of_G hE g235 ?_⟩
 have hfam:=fun (s:St) (K:AV->St->Prop) (hk:K (.int .i64 (wrtE x.d x.a x.b)) s)=>ESc.fam wrtF h102 x hx (u:=.int .i64 (wrtE x.d x.a x.b)) rfl hk
 by_cases h0:wrtE x.d x.a x.b=0
 ·obtain ⟨q1,q2,q3,q4⟩:=wrt0 h0
  have hbl:x.b.length=0∨x.b.length=128:=oddB_no q3
  have hdk1:DK1 x.d:=⟨hx.d,by omega⟩
  have htw:=twO_run hdk1
  have hUf:=hfs_clnU hx.d.a
  have hw1024:x.d.ws.length≤1024:=(dskB_of hx.d.a q1).1
  have hWf:hfs (wrs (x.d.ws.map clnW))=true:=hfs_wrs fun w hw=>by
   obtain ⟨v,hv,rfl⟩:=List.mem_map.1 hw
   exact (clnW_any (hx.d.a.ws v hv)).b.1.hf
  have hout:dwF.out x=if x.d.ws.length=1024 then .tup [.agg zDk,.int .i64 9] else .tup [(dwD x).v,.int .i64 0]:=by
   show dwOut x=_
   unfold dwOut dwE
   rw [if_pos h0]
   split <;> rfl
  rw [h0] at hfam
  rw [hout]
  have hwsl:=hx.d.a.wl
  obtain ⟨⟨bv,us,bs,wv,ws,dd⟩,a,u,b⟩:=x
  obtain ⟨hd,ha,hbt,hbn⟩:=hx
  dsimp only at q2 q4 hbl htw hUf hWf ha hbt hbn hw1024 hwsl ⊢
  subst q4
  have hfB:∀ (s:St) r cp,s.get r=some (.row 5 (bys (pad b)))->Frz s (.sl r 0 128 cp) (fzB (pad b)):=fun s r cp h=>.sl r 0 128 cp none 5 _ (bys (pad b)) _ h (fun i x h=>by rw [Nat.zero_add];exact h) (frz_bys _) (.inl rfl)
  have hbk:∀ (s:St),s.get 2=some (.row 54 (us.map clnV))->Frz s (.sl 2 0 us.length none) (.fz us.length none (us.map clnV)):=fun s h1=>
   .sl 2 0 us.length none none 54 _ (us.map clnV) _ h1 (fun i x h=>by rw [Nat.zero_add];exact h) (frz_hfs hUf) (.inl rfl)
  have hwk:∀ (s:St) r q cp,s.get r=some (.row 101 (wrs (ws.map clnW)++[.int .i64 a,.sl q 0 128 cp]))->s.get q=some (.row 5 (bys (pad b)))->Frz s (.sl r 0 (ws.length+1) none) (.fz (ws.length+1) none (wrs (dwW ⟨⟨bv,us,bs,wv,ws,false⟩,a,u,b⟩))):=fun s r q cp h1 h2=>by
   refine .sl r 0 _ none none 101 _ (wrs (ws.map clnW)++[.int .i64 a,.sl q 0 128 cp]) _ h1 (fun i x h=>by rw [Nat.zero_add];exact h) ?_ (.inl rfl)
   unfold dwW
   rw [wrs_app]
   exact (frz_hfs hWf).append (.cons (.plain _ rfl) (.cons (hfB s q cp h2) .nil))
  clear q1 q3 hout
  show VW P e 0 (match a235 with|.mk c _=>c) (initT [.agg [bv,wv,.bool false],.int .i64 a,u] 0 .lf) St0 none [] _
  have hfam:∀ (s:St) (K:AV->St->Prop),K (.int .i64 0) s->ESc e 107 [.agg [bv,wv,.bool false],.int .i64 a,u] s K:=hfam
  have hdd:(dwD ⟨⟨bv,us,bs,wv,ws,false⟩,a,u,b⟩).v=.agg [.fz us.length none (us.map clnV),.fz (ws.length+1) none (wrs (dwW ⟨⟨bv,us,bs,wv,ws,false⟩,a,u,b⟩)),.bool false]:=rfl
  by_cases h1024:ws.length=1024
  ·rw [if_pos h1024]
   conv=>whnf
   refine hfam _ _ ?_;conv=>whnf
   repeat' (first|(refine nq21 hwsl ?_;conv=>whnf)|refine nq5 ?_ ?_|refine nq6 ?_ ?_|(intro _;first|omega|conv=>whnf))
   exact .plain _ rfl
  ·rw [if_neg h1024,hdd]
   rcases ws with _|⟨w0,ws⟩
   ·have htw:∀ s,twO [.agg [bv,wv,.bool false]] s=.ok (.agg [.sl (0+s.next) 0 us.length none,.nils,.bool false]) (allocs s [.row 54 (us.map clnV)]):=htw
    have fin:∀ (s:St) r q cp,s.get 2=some (.row 54 (us.map clnV))->s.get r=some (.row 101 [.int .i64 a,.sl q 0 128 cp])->s.get q=some (.row 5 (bys (pad b)))->Frz s (.tup [.agg [.sl 2 0 us.length none,.sl r 0 1 none,.bool false],.int .i64 0]) (.tup [.agg [.fz us.length none (us.map clnV),.fz (0+1) none (wrs (dwW ⟨⟨bv,us,bs,wv,[],false⟩,a,u,b⟩)),.bool false],.int .i64 0]):=fun s r q cp h1 h2 h3=>
     .tup _ _ (.cons (.agg _ _ (.cons (hbk s h1) (.cons (hwk s r q cp h2 h3) (.cons (.plain _ rfl) .nil)))) (.cons (.plain _ rfl) .nil))
    conv=>whnf
    refine hfam _ _ ?_;conv=>whnf
    repeat' (first|(refine nq21 hwsl ?_;conv=>whnf)|refine nq5 ?_ ?_|refine nq6 ?_ ?_|(intro _;first|omega|conv=>whnf))
    refine ESc.ov h103 (htw _) ?_;conv=>whnf
    refine blkD_run h98 h141 hbt hbl (by show 3<1000000;decide) (fun h0=>?_) (fun h1=>?_)
    ·conv=>whnf
     repeat' (first|((first|refine nq25 (m:=1) ?_|refine ⟨rfl,?_⟩);conv=>whnf)|fail)
     exact fin _ _ _ _ rfl rfl rfl
    ·conv=>whnf
     repeat' (first|((first|refine nq25 (m:=1) ?_|refine ⟨rfl,?_⟩);conv=>whnf)|fail)
     exact fin _ _ _ _ rfl rfl rfl
   ·have htw:∀ s,twO [.agg [bv,wv,.bool false]] s=.ok (.agg [.sl (0+s.next) 0 us.length none,.sl (1+s.next) 0 (ws.length+1) none,.bool false]) (allocs s [.row 54 (us.map clnV),.row 101 (wrs ((w0::ws).map clnW))]):=htw
    have fin:∀ (s:St) r q cp,s.get 2=some (.row 54 (us.map clnV))->s.get r=some (.row 101 (wrs ((w0::ws).map clnW)++[.int .i64 a,.sl q 0 128 cp]))->s.get q=some (.row 5 (bys (pad b)))->Frz s (.tup [.agg [.sl 2 0 us.length none,.sl r 0 (ws.length+1+1) none,.bool false],.int .i64 0]) (.tup [.agg [.fz us.length none (us.map clnV),.fz ((w0::ws).length+1) none (wrs (dwW ⟨⟨bv,us,bs,wv,w0::ws,false⟩,a,u,b⟩)),.bool false],.int .i64 0]):=fun s r q cp h1 h2 h3=>
     .tup _ _ (.cons (.agg _ _ (.cons (hbk s h1) (.cons (hwk s r q cp h2 h3) (.cons (.plain _ rfl) .nil)))) (.cons (.plain _ rfl) .nil))
    have hw1025:ws.length+1≤1024:=hw1024
    conv=>whnf
    refine hfam _ _ ?_;conv=>whnf
    repeat' (first|(refine nq21 hwsl ?_;conv=>whnf)|refine nq5 ?_ ?_|refine nq6 ?_ ?_|(intro _;first|omega|conv=>whnf))
    refine ESc.ov h103 (htw _) ?_;conv=>whnf
    refine blkD_run h98 h141 hbt hbl (by show 4<1000000;decide) (fun h0=>?_) (fun h1=>?_)
    ·conv=>whnf
     repeat' (first|((first|refine EPrim.appU (m:=1) rfl rfl rfl rfl (by rw [wrs_length,List.length_map];rfl) rfl (by decide) (by omega) ?_|refine ⟨rfl,?_⟩);conv=>whnf)|fail)
     exact fin _ _ _ _ rfl rfl rfl
    ·conv=>whnf
     repeat' (first|((first|refine EPrim.appU (m:=1) rfl rfl rfl rfl (by rw [wrs_length,List.length_map];rfl) rfl (by decide) (by omega) ?_|refine ⟨rfl,?_⟩);conv=>whnf)|fail)
     exact fin _ _ _ _ rfl rfl rfl
 ·have hout:dwF.out x=.tup [.agg zDk,.int .i64 (wrtE x.d x.a x.b)]:=by
   show dwOut x=_
   unfold dwOut dwE
   rw [if_neg h0,if_neg h0]
  rw [hout]
  obtain ⟨E,hE'⟩:∃ E,E=wrtE x.d x.a x.b:=⟨_,rfl⟩
  rw [← hE'] at h0 hfam ⊢
  obtain ⟨⟨bv,us,bs,wv,ws,dd⟩,a,u,b⟩:=x
  have hfam:∀ (s:St) (K:AV->St->Prop),K (.int .i64 E) s->ESc e 107 [.agg [bv,wv,.bool dd],.int .i64 a,u] s K:=hfam
  show VW P e 0 (match a235 with|.mk c _=>c) (initT [.agg [bv,wv,.bool dd],.int .i64 a,u] 0 .lf) St0 none [] _
  conv=>whnf
  refine hfam _ _ ?_;conv=>whnf
  refine EPrim.neq2 (a:=E) (b:=0) rfl rfl (fun _=>?_) (fun h=>absurd h h0);conv=>whnf
  skip
  exact .plain _ rfl
noncomputable def relS (R:List AV->St->AV->St->Prop):Ov:=fun args s=>open Classical in if h:∃ p:AV×St,R args s p.1 p.2 then .ok h.choose.1 h.choose.2 else .fail
theorem relS_ok {f:Nat}{R:List AV->St->AV->St->Prop}(hb:HasBody P f) (h:∀ args s u s',R args s u s'->C P f args s (fun v s''=>v=u∧s''=s')):OvOk P f (relS R):=by
 refine ⟨hb,fun args s v s' hh=>?_⟩
 unfold relS at hh
 split at hh
 ·rename_i hx
  cases hh
  exact h args s _ _ hx.choose_spec
 ·cases hh
variable {s:St}{k:AV->St->Prop}
theorem ESc.relS {f:Nat}{R:List AV->St->AV->St->Prop}{vs:List AV}{u:AV}{s':St}(hi:Con e f (relS R)) (hx:R vs s u s') (hk:∀ u s',R vs s u s'->k u s'):ESc e f vs s k:=by
 have hx:∃ p:AV×St,R vs s p.1 p.2:=⟨(u,s'),hx⟩
 refine ESc.ov hi (v:=hx.choose.1) (s':=hx.choose.2) ?_ (hk _ _ hx.choose_spec)
 unfold AM.relS
 rw [dif_pos hx]
variable {r:Nat}{v:AV}
theorem load1_row {e o:Nat}{cs:List AV}(h:s.get r=some (.row e cs)) (hv:cs[o]?=some v):load1 r o s=some v:=by
 unfold load1
 rw [rowAt_of h,← getL_eq] at *
 exact hv
def onM (c:Cfg) (s k:Int):Int:=(s / c.chunk*(c.members-1)+k) % c.members
def lastC (a:Int):List (Int×List Nat)->Option (List Nat)
 | []=>none
 | w::l=>if w.1=a then some w.2 else lastC a l
theorem lastW_C (a:Int):∀ W:List WR,lastW a W=lastC a (W.map fun w=>(w.at_,w.b))
 | []=>rfl
 | w::W=>by
  show (if w.at_=a then some w.b else lastW a W)=if w.at_=a then some w.b else lastC a (W.map fun w=>(w.at_,w.b))
  rw [lastW_C a W]
def seenC (x:Dk) (a:Int):List Nat:=pad ((lastC a x.2.1.reverse).getD (x.1.getD a.toNat []))
theorem seen_eq {x:Dk}{y:DK}(h:DKof x y) (a:Int):pad (drdB y a)=seenC x a:=by
 unfold drdB drdL seenC
 rw [lastW_C,List.map_reverse,h.w,h.b]
def deadC (D:List Dk) (i:Nat):Bool:=(D[i]?.map fun d=>d.2.2).getD false
theorem Ls.cell {α:Type}{C:Ce α}{l:List α}(h:Ls C l v):cellsOf v=[v]:=by
 obtain ⟨cs,_,h,_⟩:=h
 rcases h with ⟨rfl,_⟩|⟨rfl,_⟩|⟨_,rfl,_⟩
 all_goals rfl
variable {m:Nat}
theorem hfs_rng {T:Nat->AV}(h:∀ k<m,AM.hf (T k)=true):hfs ((List.range m).map T)=true:=hfs_iff.2 fun v hv=>by
 obtain ⟨k,hk,rfl⟩:=List.mem_map.1 hv
 exact h k (List.mem_range.1 hk)
theorem rng_succ {T:Nat->AV}:(List.range (m+1)).map T=(List.range m).map T++[T m]:=by rw [List.range_succ,List.map_append];rfl
theorem bytesOf_b:∀ {bs:List Nat},(∀ b ∈ bs,b<256)->bytesOf (bys bs)=some bs
 | [],_=>rfl
 | b::bs,h=>by
  show (Bool.rec none (Option.rec none (fun r=>some (b::r)) (bytesOf (bys bs))) (Nat.blt b 256):Option (List Nat))=_
  rw [bytesOf_b (fun x hx=>h x (by simp [hx])),show Nat.blt b 256=true by simpa using h b (by simp)]
variable {t:AT}
theorem EPrim.b2sR {x:AO}{bs:List Nat}(hx:ev x t=.some (.sl r 0 n c)) (hl:load r 0 n s=some (bys bs)) (hb:∀ b ∈ bs,b<256) (hk:k (.str bs) s):EPrim (.b2s x) t s k:=by
 refine EPrim.mk (v:=.str bs) (s':=s) (fun e rec=>?_) hk
 show wth x t _=_;unfold wth;rw [hx]
 show (Option.rec .fail (fun cs=>Option.rec .fail (fun l=>.ok (.str l) s) (bytesOf cs)) (load r 0 n s):RV)=_
 rw [hl]
 show (Option.rec .fail (fun l=>.ok (.str l) s) (bytesOf (bys bs)):RV)=_
 rw [bytesOf_b hb]
theorem flat_one (f:Nat->AV):∀ l:List Nat,(l.map fun k=>[f k]).flatten=l.map f
 | []=>rfl
 | x::l=>by rw [List.map_cons,List.flatten_cons,flat_one f l];rfl
noncomputable def pE (p:Prop):AV:=.int .i64 (open Classical in if p then 0 else 8)
theorem pE0 {p:Prop}(h:p):Frz s (.int .i64 0) (pE p):=by classical unfold pE;rw [if_pos h];exact .plain _ rfl
theorem pE8 {p:Prop}(h:¬p):Frz s (.int .i64 8) (pE p):=by classical unfold pE;rw [if_neg h];exact .plain _ rfl
noncomputable def cF {γ:Type}(S:Sg γ) (ok p:γ->Prop):Fn γ:=⟨S,ok,fun x=>pE (p x)⟩
theorem cF_ok {γ:Type}{S:Sg γ}{ok p:γ->Prop}{f:Nat}{fn:Func}{code:AC}{res:List ARes}(hE:EM P e) (g:GK f fn (.mk code res)) (h:∀ x args,S.r x args->ok x->∀ K:AV->St->Prop,(p x->∀ s,K (.int .i64 0) s)->(¬p x->∀ s,K (.int .i64 8) s)->VW P e 0 code (initT args 0 .lf) St0 none [] (EEnd res K)):OvOk P f (cF S ok p).O:=
 Fn.mk_ok g.b fun x args h1 h2=>⟨rfl,C.of_G hE g (h x args h1 h2 _ (fun q _=>pE0 q) fun q _=>pE8 q)⟩
theorem cF.u {γ:Type}{S:Sg γ}{ok p:γ->Prop}{e:Env}{f:Nat}{s:St}{k:AV->St->Prop}{args:List AV}(hi:Con e f (cF S ok p).O) (x:γ) (h1:S.r x args) (h2:ok x) (ht:p x->k (.int .i64 0) s) (hf:¬p x->k (.int .i64 8) s):ESc e f args s k:=by
 classical
 refine Fn.u hi x h1 h2 ?_
 show k (pE (p x)) s
 unfold pE
 by_cases h:p x
 ·rw [if_pos h];exact ht h
 ·rw [if_neg h];exact hf h
def Sg.p {α γ:Type}(A:Ce α) (S:Sg γ):Sg (α×γ):=⟨fun x l=>∃ c b,l=.fp c::b∧A.r x.1 c∧S.r x.2 b,by
 rintro _ _ ⟨v,b,rfl,h,h'⟩
 show (true && hfs b)=true
 rw [S.hf h'];rfl,by
 rintro ⟨x,x'⟩ ⟨y,y'⟩ _ ⟨a,b,rfl,h1,h2⟩ ⟨c,d,e,h3,h4⟩
 cases e
 have e1:=A.inj h1 h3
 have e2:=S.inj h2 h4
 dsimp only at e1 e2
 rw [e1,e2]⟩
def Sg.f {κ γ:Type}(g:Nat) (C:Sg κ) (S:Sg γ):Sg (κ×γ):=⟨fun x l=>∃ q b,l=.fn g [] q::b∧C.r x.1 q∧S.r x.2 b,by
 rintro _ _ ⟨v,b,rfl,h,h'⟩
 show ((true && hfs v) && hfs b)=true
 rw [S.hf h',C.hf h];rfl,by
 rintro ⟨x,x'⟩ ⟨y,y'⟩ _ ⟨a,b,rfl,h1,h2⟩ ⟨c,d,e,h3,h4⟩
 cases e
 have e1:=C.inj h1 h3
 have e2:=S.inj h2 h4
 dsimp only at e1 e2
 rw [e1,e2]⟩
open Classical in
noncomputable def idxI {α:Type}(p:α->Prop) (l:List α):Int:=match l.findIdx? (fun x=>decide (p x)) with|some i=>i|none=>-1
theorem idxI_at {α:Type}{p:α->Prop}:∀ {l:List α}{i:Nat}{x:α},l[i]?=some x->p x->(∀ j<i,∀ y,l[j]?=some y->¬p y)->idxI p l=i:=by
 classical
 intro l i x hx hp hn
 have:l.findIdx? (fun x=>decide (p x))=some i:=by
  rw [List.findIdx?_eq_some_iff_getElem]
  obtain ⟨h,e⟩:=List.getElem?_eq_some_iff.1 hx
  refine ⟨h,by rw [e];exact decide_eq_true hp,fun j hj=>?_⟩
  have:=hn j hj _ (List.getElem?_eq_getElem (Nat.lt_trans hj h))
  simpa using this
 unfold idxI;rw [this]
theorem idxI_no {α:Type}{p:α->Prop}{l:List α}(hn:∀ j<l.length,∀ y,l[j]?=some y->¬p y):idxI p l=-1:=by
 classical
 have:l.findIdx? (fun x=>decide (p x))=none:=by
  rw [List.findIdx?_eq_none_iff]
  intro x hx
  have:=mem_at (p:=fun x=>¬p x) hn x hx
  simpa using this
 unfold idxI;rw [this]
theorem idxI_lt {α:Type}(p:α->Prop) (l:List α):-1≤idxI p l∧idxI p l<l.length:=by
 classical
 unfold idxI
 split
 ·rename_i i h
  have:=(List.findIdx?_eq_some_iff_getElem.1 h).1
  omega
 ·omega
theorem idxI_iff {α:Type}{p:α->Prop}{l:List α}:0≤idxI p l↔∃ x ∈ l,p x:=by
 classical
 unfold idxI
 split
 ·rename_i i h
  obtain ⟨h1,h2,-⟩:=List.findIdx?_eq_some_iff_getElem.1 h
  exact ⟨fun _=>⟨_,List.getElem_mem h1,of_decide_eq_true h2⟩,fun _=>by omega⟩
 ·rename_i h
  rw [List.findIdx?_eq_none_iff] at h
  refine ⟨fun h=>by omega,fun ⟨x,hx,hp⟩=>?_⟩
  have:=h x hx
  simp [hp] at this
noncomputable def ixF {α κ:Type}(A:Ce α) (g:Nat) (C:Sg κ) (ok:κ->List α->Prop) (p:κ->α->Prop):Fn (List α×κ×Unit):=⟨.v A.sl (.f g C .nil),fun x=>ok x.2.1 x.1,fun x=>.int .i64 (idxI (p x.2.1) x.1)⟩
def CallP {α κ:Type}(e:Env) (A:Ce α) (arg:List AV->AV) (g:Nat) (C:Sg κ) (ok:κ->List α->Prop) (p:κ->α->Prop):Prop:=∀ c q xs x l,C.r c q->ok c xs->x ∈ xs->A.r x l->∀ (Q:AV->St->Prop),(p c x->∀ s,Q (.bool true) s)->(¬p c x->∀ s,Q (.bool false) s)->ECall e g (arg l::q) (allocs St0 []) Q
def CapR (s:St) (p q:AV):Prop:=∃ r e cs,p=.ptr r 0∧q=.fp cs∧s.get r=some (.row e cs)∧hfs cs=true
theorem CapR.frz {p q:AV}(h:CapR s p q):Frz s p q:=by
 obtain ⟨r,e,cs,rfl,rfl,h1,h2⟩:=h
 refine .ptr r 0 e cs cs cs h1 (fun i x h=>by rw [Nat.zero_add];exact h) (frz_hfs h2)
theorem CapR.inj {s:St}:∀ {ps qs qs':List AV},All2 (CapR s) ps qs->All2 (CapR s) ps qs'->qs=qs'
 | _,_,_,.nil,.nil=>rfl
 | _,_,_,.cons h a,.cons h' b=>by
  obtain ⟨r,e,cs,rfl,rfl,h1,-⟩:=h
  obtain ⟨r',e',cs',e0,rfl,h2,-⟩:=h'
  injection e0 with e0
  subst e0
  rw [h1] at h2
  injection h2 with h2
  injection h2 with _ h2
  rw [h2,CapR.inj a b]
def capR (R:List AV->AV->Prop) (args:List AV) (s:St) (u:AV) (s':St):Prop:=s'=s∧∃ v g ps qs,args=[v,.fn g [] ps]∧All2 (CapR s) ps qs∧AM.hf v=true∧sc u=true∧R [v,.fn g [] qs] u
theorem cap_ok {f:Nat}{R:List AV->AV->Prop}(hb:HasBody P f) (h:∀ args u,R args u->hfs args=true∧C P f args St0 (fun v s'=>Frz s' v u)):OvOk P f (relS (capR R)):=by
 refine relS_ok hb ?_
 rintro args s u s' ⟨rfl,v,g,ps,qs,rfl,hc,hv,hs,hR⟩
 obtain ⟨h1,h2⟩:=h _ _ hR
 exact C.view (args2:=[v,.fn g [] qs]) (.cons (.plain _ hv) (.cons (.fn g [] ps [] qs .nil (hc.imp fun _ _=>CapR.frz)) .nil)) hs (C.freeze h1 h2)
theorem ESc.cap {γ:Type}{F:Fn γ}{e:Env}{f:Nat}{s:St}{k:AV->St->Prop}(hi:Con e f (AM.relS (capR F.R))) {v:AV}{g:Nat}{ps qs:List AV}(x:γ) (hx:F.S.r x [v,.fn g [] qs]) (ho:F.ok x) (hc:All2 (CapR s) ps qs) (hs:sc (F.out x)=true) (hk:k (F.out x) s):ESc e f [v,.fn g [] ps] s k:=by
 have hv:AM.hf v=true:=by
  have:=F.S.hf hx
  simp [hfs] at this
  exact this.1
 refine ESc.relS hi ⟨rfl,v,g,ps,qs,rfl,hc,hv,hs,x,hx,ho,rfl⟩ ?_
 rintro u s' ⟨rfl,v',g',ps',qs',e1,hc',-,-,y,hy,-,rfl⟩
 injection e1 with e1 e2
 injection e2 with e2
 injection e2 with e2 _ e3
 subst e1 e2 e3
 rw [CapR.inj hc' hc] at hy
 rw [F.S.inj hy hx];exact hk
variable {i:Nat}
theorem Ls.take {α:Type}{A:Ce α}{xs:List α}(h:Ls A xs (.fz xs.length c l)) (hi:i≤xs.length) (c':Option Nat):Ls A (xs.take i) (.fz i c' (l.take (i*A.k))):=by
 obtain ⟨ls,a,s,hn⟩:=h
 have e:ls.flatten=l:=by
  rcases s with ⟨h,_⟩|⟨h,_⟩|⟨c,h,_⟩
  ·cases h
  ·cases h
  ·cases h;rfl
 have ht:=a.take i
 have hf:=flat_len ht
 rw [List.length_take,Nat.min_eq_left hi] at hf
 have e2:(ls.take i).flatten=l.take (i*A.k):=by
  rw [← e]
  conv=>rhs;rw [← List.take_append_drop i ls,List.flatten_append]
  rw [← hf,List.take_left]
 refine ⟨ls.take i,ht,?_,by rw [List.length_take];omega⟩
 rw [List.length_take,Nat.min_eq_left hi,e2]
 exact .inr (.inr ⟨c',rfl,by rw [← e2];exact hf⟩)
theorem Ls.no {α:Type}{A:Ce α}(h:v=.nils∨v=.es):Ls A [] v:=⟨[],.nil,h.elim (fun h=>.inl ⟨h,rfl,rfl⟩) fun h=>.inr (.inl ⟨h,rfl,rfl⟩),by simp⟩
theorem EPrim.slcP {α:Type}{A:Ce α}{x y:AO}{xs:List α}{q:IntKind}(hx:ev x t=.some v) (hL:Ls A xs v) (he:es=A.k) (hy:ev y t=.some (.int q (i:Int))) (hi:i≤xs.length) (hk:∀ u,Ls A (xs.take i) u->k u s):EPrim (.slc es x none (some y) none) t s k:=by
 subst he
 have hh:∀ d,optNat t (some y) d=.n i:=fun d=>by
  show natO (ev y t)=_
  rw [hy];rfl
 obtain ⟨ls,a,sl,hn⟩:=id hL
 rcases sl with ⟨rfl,h0,_⟩|⟨rfl,h0,_⟩|⟨c,rfl,hl⟩
 ·obtain rfl:i=0:=by omega
  refine EPrim.mk (v:=.nils) (s':=s) (fun e rec=>?_) (hk _ (Ls.no (.inl rfl)))
  show wth x t _=_;unfold wth;rw [hx]
  show (NR.rec .fail (fun h=>NR.rec .fail (fun m=>gd (Nat.beq (0+h+m) 0) (.ok .nils s)) (NR.n 0)) (optNat t (some y) 0):RV)=_
  rw [hh];rfl
 ·obtain rfl:i=0:=by omega
  refine EPrim.mk (v:=.es) (s':=s) (fun e rec=>?_) (hk _ (Ls.no (.inr rfl)))
  show wth x t _=_;unfold wth;rw [hx]
  show (NR.rec .fail (fun h=>NR.rec .fail (fun m=>gd (Nat.beq (0+h+m) 0) (.ok .es s)) (NR.n 0)) (optNat t (some y) 0):RV)=_
  rw [hh];rfl
 ·by_cases h0:0<xs.length
  ·refine EPrim.mk (v:=.fz i (Option.rec none (fun c=>some (c-0)) c) (ls.flatten.take (i*A.k))) (s':=s) (fun e rec=>?_) (hk _ (hL.take hi _))
   show wth x t _=_;unfold wth;rw [hx]
   show (NR.rec .fail (fun h=>slcF A.k xs.length c ls.flatten 0 h s) (optNat t (some y) xs.length):RV)=_
   rw [hh]
   show gd (Nat.ble 0 i && Nat.ble i xs.length) (Bool.rec (.ok .es s) (Option.rec .fail (fun cs'=>.ok (.fz (i-0) (Option.rec none (fun c=>some (c-0)) c) cs') s) (takeL (Nat.mul (i-0) A.k) (dropL (Nat.mul 0 A.k) ls.flatten))) (Nat.blt 0 xs.length))=_
   rw [Nat.ble_eq_true_of_le (Nat.zero_le i),Nat.ble_eq_true_of_le hi,show Nat.blt 0 xs.length=true by simpa using h0,show Nat.mul 0 A.k=0 from Nat.zero_mul _]
   show (Option.rec .fail (fun cs'=>.ok (.fz i (Option.rec none (fun c=>some (c-0)) c) cs') s) (takeL (i*A.k) ls.flatten):RV)=_
   rw [takeL_of (by rw [hl];exact Nat.mul_le_mul_right _ hi)]
  ·obtain rfl:i=0:=by omega
   have hx0:xs.length=0:=by omega
   refine EPrim.mk (v:=.es) (s':=s) (fun e rec=>?_) (hk _ (Ls.no (.inr rfl)))
   show wth x t _=_;unfold wth;rw [hx]
   show (NR.rec .fail (fun h=>slcF A.k xs.length c ls.flatten 0 h s) (optNat t (some y) xs.length):RV)=_
   rw [hh,hx0];rfl
theorem takeL_app {a b:List AV}(h:a.length=n):takeL n (a++b)=some a:=by
 rw [takeL_of (by rw [List.length_append];omega),← h,List.take_left]
variable {g:Nat}
theorem ix110_ok {κ:Type}(hE:EM P e) {H:Sg κ}{ok:κ->List (Hd)->Prop}{p:κ->(Hd)->Prop}(hc:CallP e (hdC) (AV.agg) g H ok p):OvOk P 176 (relS (capR (ixF (hdC) g H ok p).R)):=by
 refine cap_ok g176.b ?_
 rintro args u ⟨⟨xs,c,_⟩,⟨v,_,rfl,⟨_,e0,hL⟩,q,_,rfl,hC,rfl⟩,hok,rfl⟩
 cases e0
 dsimp only at hL
 have hvf:=hL.hf
 have hqf:AM.hf (.fn g [] q)=true:=by
  show (true && hfs q)=true
  rw [H.hf hC];rfl
 obtain ⟨cs,hs,hl,hn⟩:=hL.nth
 refine ⟨by show (AM.hf v && (AM.hf (.fn g [] q) && true))=true;rw [hvf,hqf];rfl,C.of_G hE g176 ?_⟩
 have fin:∀ st a,idxI (p c) xs=a->Frz st (.int .i64 a) ((ixF (hdC) g H ok p).out (xs,c,())):=by
  rintro st a rfl;exact .plain _ rfl
 dsimp only at hC hok
 generalize (ixF (hdC) g H ok p).out (xs,c,())=O at fin ⊢
 conv=>whnf
 refine nq21 hs ?_;conv=>whnf
 refine W.up hE xs.length (fun i=>[(0,v),(1,.fn g [] q),(7,.int .i64 (xs.length:Int)),(8,.int .i64 (i:Int))]) (fun _=>[]) (fun i=>∀ j<i,∀ y,xs[j]?=some y->¬p c y) (fun k h=>by omega) (Abs.tells (rs:=[]) ⟨by decide,⟨t9,t9 hqf,r9,r9,trivial⟩,trivial⟩) ?_
 intro i hi hI
 by_cases hlt:i<xs.length
 ·obtain ⟨x,l,r,hx,hxr,hd⟩:=hn i hlt
  have hcall:=hc c q xs x l hC hok (List.mem_of_getElem? hx) hxr
  have hyes:=fun h=>idxI_at hx h hI
  have hno:=fun h=>all_succ hI (fun y e=>(by rw [hx] at e;cases e;exact h:¬p c y))
  have hlen:l.length=6:=(hdC).len hxr
  skip
  conv=>whnf
  repeat' (first|(refine hcall _ (fun h st=>?_) (fun h st=>?_) <;> conv=>whnf)|((first|refine nq23 hs hlt hd ?_|refine ETake.eq (takeL_app hlen) ?_|refine nq7 ?_|refine ⟨rfl,?_⟩);conv=>whnf)|refine nq1 ?_ ?_|(intro _;first|omega|conv=>whnf))
  ·exact fin _ _ (hyes h)
  ·exact ⟨hlt,hno h,Abs.tells (rs:=[]) ⟨by decide,⟨t9,t9 hqf,r9,r9,trivial⟩,trivial⟩⟩
 ·conv=>whnf
  repeat' (first|refine nq1 ?_ ?_|(intro _;first|omega|conv=>whnf))
  exact fin _ _ (idxI_no fun j hj=>hI j (by omega))
theorem ix154_ok {κ:Type}(hE:EM P e) {H:Sg κ}{ok:κ->List (Fl)->Prop}{p:κ->(Fl)->Prop}(hc:CallP e (ftC) (AV.agg) g H ok p):OvOk P 251 (relS (capR (ixF (ftC) g H ok p).R)):=by
 refine cap_ok g251.b ?_
 rintro args u ⟨⟨xs,c,_⟩,⟨v,_,rfl,⟨_,e0,hL⟩,q,_,rfl,hC,rfl⟩,hok,rfl⟩
 cases e0
 dsimp only at hL
 have hvf:=hL.hf
 have hqf:AM.hf (.fn g [] q)=true:=by
  show (true && hfs q)=true
  rw [H.hf hC];rfl
 obtain ⟨cs,hs,hl,hn⟩:=hL.nth
 refine ⟨by show (AM.hf v && (AM.hf (.fn g [] q) && true))=true;rw [hvf,hqf];rfl,C.of_G hE g251 ?_⟩
 have fin:∀ st a,idxI (p c) xs=a->Frz st (.int .i64 a) ((ixF (ftC) g H ok p).out (xs,c,())):=by
  rintro st a rfl;exact .plain _ rfl
 dsimp only at hC hok
 generalize (ixF (ftC) g H ok p).out (xs,c,())=O at fin ⊢
 conv=>whnf
 refine nq21 hs ?_;conv=>whnf
 refine W.up hE xs.length (fun i=>[(0,v),(1,.fn g [] q),(7,.int .i64 (xs.length:Int)),(8,.int .i64 (i:Int))]) (fun _=>[]) (fun i=>∀ j<i,∀ y,xs[j]?=some y->¬p c y) (fun k h=>by omega) (Abs.tells (rs:=[]) ⟨by decide,⟨t9,t9 hqf,r9,r9,trivial⟩,trivial⟩) ?_
 intro i hi hI
 by_cases hlt:i<xs.length
 ·obtain ⟨x,l,r,hx,hxr,hd⟩:=hn i hlt
  have hcall:=hc c q xs x l hC hok (List.mem_of_getElem? hx) hxr
  have hyes:=fun h=>idxI_at hx h hI
  have hno:=fun h=>all_succ hI (fun y e=>(by rw [hx] at e;cases e;exact h:¬p c y))
  have hlen:l.length=8:=(ftC).len hxr
  skip
  conv=>whnf
  repeat' (first|(refine hcall _ (fun h st=>?_) (fun h st=>?_) <;> conv=>whnf)|((first|refine nq23 hs hlt hd ?_|refine ETake.eq (takeL_app hlen) ?_|refine nq7 ?_|refine ⟨rfl,?_⟩);conv=>whnf)|refine nq1 ?_ ?_|(intro _;first|omega|conv=>whnf))
  ·exact fin _ _ (hyes h)
  ·exact ⟨hlt,hno h,Abs.tells (rs:=[]) ⟨by decide,⟨t9,t9 hqf,r9,r9,trivial⟩,trivial⟩⟩
 ·conv=>whnf
  repeat' (first|refine nq1 ?_ ?_|(intro _;first|omega|conv=>whnf))
  exact fin _ _ (idxI_no fun j hj=>hI j (by omega))
theorem ix191_ok {κ:Type}(hE:EM P e) {H:Sg κ}{ok:κ->List (Nat)->Prop}{p:κ->(Nat)->Prop}(hc:CallP e (Ce.u8) (one) g H ok p):OvOk P 296 (relS (capR (ixF (Ce.u8) g H ok p).R)):=by
 refine cap_ok g296.b ?_
 rintro args u ⟨⟨xs,c,_⟩,⟨v,_,rfl,⟨_,e0,hL⟩,q,_,rfl,hC,rfl⟩,hok,rfl⟩
 cases e0
 dsimp only at hL
 have hvf:=hL.hf
 have hqf:AM.hf (.fn g [] q)=true:=by
  show (true && hfs q)=true
  rw [H.hf hC];rfl
 obtain ⟨cs,hs,hl,hn⟩:=hL.nth
 refine ⟨by show (AM.hf v && (AM.hf (.fn g [] q) && true))=true;rw [hvf,hqf];rfl,C.of_G hE g296 ?_⟩
 have fin:∀ st a,idxI (p c) xs=a->Frz st (.int .i64 a) ((ixF (Ce.u8) g H ok p).out (xs,c,())):=by
  rintro st a rfl;exact .plain _ rfl
 dsimp only at hC hok
 generalize (ixF (Ce.u8) g H ok p).out (xs,c,())=O at fin ⊢
 conv=>whnf
 refine nq21 hs ?_;conv=>whnf
 refine W.up hE xs.length (fun i=>[(0,v),(1,.fn g [] q),(7,.int .i64 (xs.length:Int)),(8,.int .i64 (i:Int))]) (fun _=>[]) (fun i=>∀ j<i,∀ y,xs[j]?=some y->¬p c y) (fun k h=>by omega) (Abs.tells (rs:=[]) ⟨by decide,⟨t9,t9 hqf,r9,r9,trivial⟩,trivial⟩) ?_
 intro i hi hI
 by_cases hlt:i<xs.length
 ·obtain ⟨x,l,r,hx,hxr,hd⟩:=hn i hlt
  have hcall:=hc c q xs x l hC hok (List.mem_of_getElem? hx) hxr
  have hyes:=fun h=>idxI_at hx h hI
  have hno:=fun h=>all_succ hI (fun y e=>(by rw [hx] at e;cases e;exact h:¬p c y))
  have hlen:l.length=1:=(Ce.u8).len hxr
  (obtain ⟨rfl,hx8⟩:=hxr)
  conv=>whnf
  repeat' (first|(refine hcall _ (fun h st=>?_) (fun h st=>?_) <;> conv=>whnf)|((first|refine nq23 hs hlt hd ?_|refine nq22 ?_|refine nq7 ?_|refine ⟨rfl,?_⟩);conv=>whnf)|refine nq1 ?_ ?_|(intro _;first|omega|conv=>whnf))
  ·exact fin _ _ (hyes h)
  ·exact ⟨hlt,hno h,Abs.tells (rs:=[]) ⟨by decide,⟨t9,t9 hqf,r9,r9,trivial⟩,trivial⟩⟩
 ·conv=>whnf
  repeat' (first|refine nq1 ?_ ?_|(intro _;first|omega|conv=>whnf))
  exact fin _ _ (idxI_no fun j hj=>hI j (by omega))
theorem ix142_ok {κ:Type}(hE:EM P e) {H:Sg κ}{ok:κ->List (List Nat)->Prop}{p:κ->(List Nat)->Prop}(hc:CallP e (bytC) (one) g H ok p):OvOk P 253 (relS (capR (ixF (bytC) g H ok p).R)):=by
 refine cap_ok g253.b ?_
 rintro args u ⟨⟨xs,c,_⟩,⟨v,_,rfl,⟨_,e0,hL⟩,q,_,rfl,hC,rfl⟩,hok,rfl⟩
 cases e0
 dsimp only at hL
 have hvf:=hL.hf
 have hqf:AM.hf (.fn g [] q)=true:=by
  show (true && hfs q)=true
  rw [H.hf hC];rfl
 obtain ⟨cs,hs,hl,hn⟩:=hL.nth
 refine ⟨by show (AM.hf v && (AM.hf (.fn g [] q) && true))=true;rw [hvf,hqf];rfl,C.of_G hE g253 ?_⟩
 have fin:∀ st a,idxI (p c) xs=a->Frz st (.int .i64 a) ((ixF (bytC) g H ok p).out (xs,c,())):=by
  rintro st a rfl;exact .plain _ rfl
 dsimp only at hC hok
 generalize (ixF (bytC) g H ok p).out (xs,c,())=O at fin ⊢
 conv=>whnf
 refine nq21 hs ?_;conv=>whnf
 refine W.up hE xs.length (fun i=>[(0,v),(1,.fn g [] q),(7,.int .i64 (xs.length:Int)),(8,.int .i64 (i:Int))]) (fun _=>[]) (fun i=>∀ j<i,∀ y,xs[j]?=some y->¬p c y) (fun k h=>by omega) (Abs.tells (rs:=[]) ⟨by decide,⟨t9,t9 hqf,r9,r9,trivial⟩,trivial⟩) ?_
 intro i hi hI
 by_cases hlt:i<xs.length
 ·obtain ⟨x,l,r,hx,hxr,hd⟩:=hn i hlt
  have hcall:=hc c q xs x l hC hok (List.mem_of_getElem? hx) hxr
  have hyes:=fun h=>idxI_at hx h hI
  have hno:=fun h=>all_succ hI (fun y e=>(by rw [hx] at e;cases e;exact h:¬p c y))
  have hlen:l.length=1:=(bytC).len hxr
  (obtain ⟨u,rfl,hu⟩:=hxr)
  conv=>whnf
  repeat' (first|(refine hcall _ (fun h st=>?_) (fun h st=>?_) <;> conv=>whnf)|((first|refine nq23 hs hlt hd ?_|refine nq22 ?_|refine nq7 ?_|refine ⟨rfl,?_⟩);conv=>whnf)|refine nq1 ?_ ?_|(intro _;first|omega|conv=>whnf))
  ·exact fin _ _ (hyes h)
  ·exact ⟨hlt,hno h,Abs.tells (rs:=[]) ⟨by decide,⟨t9,t9 hqf,r9,r9,trivial⟩,trivial⟩⟩
 ·conv=>whnf
  repeat' (first|refine nq1 ?_ ?_|(intro _;first|omega|conv=>whnf))
  exact fin _ _ (idxI_no fun j hj=>hI j (by omega))
theorem ix182_ok {κ:Type}(hE:EM P e) {H:Sg κ}{ok:κ->List (Dk)->Prop}{p:κ->(Dk)->Prop}(hc:CallP e (dkC) (AV.agg) g H ok p):OvOk P 241 (relS (capR (ixF (dkC) g H ok p).R)):=by
 refine cap_ok g241.b ?_
 rintro args u ⟨⟨xs,c,_⟩,⟨v,_,rfl,⟨_,e0,hL⟩,q,_,rfl,hC,rfl⟩,hok,rfl⟩
 cases e0
 dsimp only at hL
 have hvf:=hL.hf
 have hqf:AM.hf (.fn g [] q)=true:=by
  show (true && hfs q)=true
  rw [H.hf hC];rfl
 obtain ⟨cs,hs,hl,hn⟩:=hL.nth
 refine ⟨by show (AM.hf v && (AM.hf (.fn g [] q) && true))=true;rw [hvf,hqf];rfl,C.of_G hE g241 ?_⟩
 have fin:∀ st a,idxI (p c) xs=a->Frz st (.int .i64 a) ((ixF (dkC) g H ok p).out (xs,c,())):=by
  rintro st a rfl;exact .plain _ rfl
 dsimp only at hC hok
 generalize (ixF (dkC) g H ok p).out (xs,c,())=O at fin ⊢
 conv=>whnf
 refine nq21 hs ?_;conv=>whnf
 refine W.up hE xs.length (fun i=>[(0,v),(1,.fn g [] q),(7,.int .i64 (xs.length:Int)),(8,.int .i64 (i:Int))]) (fun _=>[]) (fun i=>∀ j<i,∀ y,xs[j]?=some y->¬p c y) (fun k h=>by omega) (Abs.tells (rs:=[]) ⟨by decide,⟨t9,t9 hqf,r9,r9,trivial⟩,trivial⟩) ?_
 intro i hi hI
 by_cases hlt:i<xs.length
 ·obtain ⟨x,l,r,hx,hxr,hd⟩:=hn i hlt
  have hcall:=hc c q xs x l hC hok (List.mem_of_getElem? hx) hxr
  have hyes:=fun h=>idxI_at hx h hI
  have hno:=fun h=>all_succ hI (fun y e=>(by rw [hx] at e;cases e;exact h:¬p c y))
  have hlen:l.length=3:=(dkC).len hxr
  skip
  conv=>whnf
  repeat' (first|(refine hcall _ (fun h st=>?_) (fun h st=>?_) <;> conv=>whnf)|((first|refine nq23 hs hlt hd ?_|refine ETake.eq (takeL_app hlen) ?_|refine nq7 ?_|refine ⟨rfl,?_⟩);conv=>whnf)|refine nq1 ?_ ?_|(intro _;first|omega|conv=>whnf))
  ·exact fin _ _ (hyes h)
  ·exact ⟨hlt,hno h,Abs.tells (rs:=[]) ⟨by decide,⟨t9,t9 hqf,r9,r9,trivial⟩,trivial⟩⟩
 ·conv=>whnf
  repeat' (first|refine nq1 ?_ ?_|(intro _;first|omega|conv=>whnf))
  exact fin _ _ (idxI_no fun j hj=>hI j (by omega))
def cn91:AC:=match a178 with|.mk c _=>c
variable {ps:List AV}
theorem cnt91 (h:Inl e 178 cn91 [.tmp 4]) {α:Type}{p:α->Prop}{xs:List α}(hc:∀ Q:AV->St->Prop,Q (.int .i64 (idxI p xs)) s->ESc e 253 [v,.fn g [] ps] s Q) (y:(∃ x ∈ xs,p x)->k (.bool true) s) (n:(¬∃ x ∈ xs,p x)->k (.bool false) s):ESc e 178 [v,.fn g [] ps] s k:=by
 refine ESc.inl h ?_;conv=>whnf
 refine hc _ ?_;conv=>whnf
 refine EPrim.geq2 rfl rfl (fun h=>?_) (fun h=>?_) <;> conv=>whnf
 ·exact y (idxI_iff.1 h)
 ·exact n (fun q=>by have:=idxI_iff.2 q;omega)
def cn151:AC:=match a248 with|.mk c _=>c
theorem cnt151 (h:Inl e 248 cn151 [.tmp 4]) {α:Type}{p:α->Prop}{xs:List α}(hc:∀ Q:AV->St->Prop,Q (.int .i64 (idxI p xs)) s->ESc e 296 [v,.fn g [] ps] s Q) (y:(∃ x ∈ xs,p x)->k (.bool true) s) (n:(¬∃ x ∈ xs,p x)->k (.bool false) s):ESc e 248 [v,.fn g [] ps] s k:=by
 refine ESc.inl h ?_;conv=>whnf
 refine hc _ ?_;conv=>whnf
 refine EPrim.geq2 rfl rfl (fun h=>?_) (fun h=>?_) <;> conv=>whnf
 ·exact y (idxI_iff.1 h)
 ·exact n (fun q=>by have:=idxI_iff.2 q;omega)
def cn107:AC:=match a173 with|.mk c _=>c
theorem cnt107 (h:Inl e 173 cn107 [.tmp 4]) {α:Type}{p:α->Prop}{xs:List α}(hc:∀ Q:AV->St->Prop,Q (.int .i64 (idxI p xs)) s->ESc e 251 [v,.fn g [] ps] s Q) (y:(∃ x ∈ xs,p x)->k (.bool true) s) (n:(¬∃ x ∈ xs,p x)->k (.bool false) s):ESc e 173 [v,.fn g [] ps] s k:=by
 refine ESc.inl h ?_;conv=>whnf
 refine hc _ ?_;conv=>whnf
 refine EPrim.geq2 rfl rfl (fun h=>?_) (fun h=>?_) <;> conv=>whnf
 ·exact y (idxI_iff.1 h)
 ·exact n (fun q=>by have:=idxI_iff.2 q;omega)
def cn55:AC:=match a91 with|.mk c _=>c
theorem cnt55 (h:Inl e 91 cn55 [.tmp 4]) {α:Type}{p:α->Prop}{xs:List α}(hc:∀ Q:AV->St->Prop,Q (.int .i64 (idxI p xs)) s->ESc e 176 [v,.fn g [] ps] s Q) (y:(∃ x ∈ xs,p x)->k (.bool true) s) (n:(¬∃ x ∈ xs,p x)->k (.bool false) s):ESc e 91 [v,.fn g [] ps] s k:=by
 refine ESc.inl h ?_;conv=>whnf
 refine hc _ ?_;conv=>whnf
 refine EPrim.geq2 rfl rfl (fun h=>?_) (fun h=>?_) <;> conv=>whnf
 ·exact y (idxI_iff.1 h)
 ·exact n (fun q=>by have:=idxI_iff.2 q;omega)
def cn139:AC:=match a164 with|.mk c _=>c
theorem cnt139 (h:Inl e 164 cn139 [.tmp 4]) {α:Type}{p:α->Prop}{xs:List α}(hc:∀ Q:AV->St->Prop,Q (.int .i64 (idxI p xs)) s->ESc e 241 [v,.fn g [] ps] s Q) (y:(∃ x ∈ xs,p x)->k (.bool true) s) (n:(¬∃ x ∈ xs,p x)->k (.bool false) s):ESc e 164 [v,.fn g [] ps] s k:=by
 refine ESc.inl h ?_;conv=>whnf
 refine hc _ ?_;conv=>whnf
 refine EPrim.geq2 rfl rfl (fun h=>?_) (fun h=>?_) <;> conv=>whnf
 ·exact y (idxI_iff.1 h)
 ·exact n (fun q=>by have:=idxI_iff.2 q;omega)
end Go.AM
