/-
 Functions of the program as the abstract machine reads them, and what is stated of them, checked by the kernel. No conditions.
-/
import Derived.Maps.RangeRun
import Derived.RangeFuncLeaves
import Derived.LoopNIn
import Derived.TacticsIn
import Derived.OrdersIn
import Derived.Test.YtacmbogmbfmjeaaGreatAM2
set_option linter.unusedVariables false
set_option linter.unusedSimpArgs false
set_option linter.unnecessarySimpa false
set_option maxRecDepth 100000
namespace Go.AM
section
variable {P:Program}{γ:Gam}{s:St}{w:World}{t:AT}{ρ:Operand→Value}
variable {r:Nat}
theorem Zz {o:Nat}:∀ {es:List (AV×AV×Nat)},PZ r o es=true→∀ x ∈ es,∃ o',x.1=.ptr r o'∧o≠o':=by
 intro es
 induction es with
 | nil=>intro _ x hx;cases hx
 | cons y es ih=>
  intro h x hx
  simp only [PZ] at h
  cases hp:Bj y.1 with
  | no=>rw [hp] at h;cases h
  | fp l=>rw [hp] at h;cases h
  | ptr r' o'=>
   rw [hp] at h
   cases hr:Nat.beq r r' with
   | false=>simp only [hr] at h;cases h
   | true=>
    simp only [hr] at h
    cases ho:Nat.beq o o' with
    | true=>simp only [ho] at h;cases h
    | false=>
     simp only [ho] at h
     cases hx with
     | head=>
      refine ⟨o',?_,?_⟩
      ·rw [Zjl hr];exact Kb hp
      ·intro e;subst e;rw [Zk2] at ho;cases ho
     | tail _ hx=>exact ih h x hx
variable {kt e:Nat}
theorem Wb (hu:P.underlying kt=some (.pointer e)) (b:Bool) (v:Value):(Instr.checkKey b 10000 kt v).run P w=.ok () w:=by
 show (Instr.checkKey b (9999+1) kt v).run P w=_
 unfold Instr.checkKey
 simp only [Zjp,Zjx hu,Zji]
 rfl
variable {n:Nat}
theorem WX (hu:P.underlying kt=some (.pointer e)) (hn:Az P e=some (n+1)) {a b:Addr}(hab:a.block=b.block) (hne:a≠b):
 (Op.equal kt (.pointer (some a)) (.pointer (some b))).run P w=.ok false w:=by
 show (Op.equalIn (9999+1) kt _ _).run P w=_
 unfold Op.equalIn
 have hb:(a == b)=false:=by simpa using hne
 simp [Zjp,Zjx hu,Zji,Ck hn,sameAddr,hab,hb]
variable {L:Loc}
theorem Wj (hu:P.underlying kt=some (.pointer e)) (hn:Az P e=some (n+1)) {o:Nat}(hL:γ r=some L):
 ∀ {es:List (AV×AV×Nat)}{ms:List MapEntry}(i:Nat),All2 (EntR γ) es ms→(∀ x ∈ es,∃ o',x.1=.ptr r o'∧o≠o')→
  (Instr.findAsking kt (.pointer (some ⟨L.b,L.o+o,none⟩)) ms i).run P w=.ok none w:=by
 intro es
 induction es with
 | nil=>intro ms i h _;cases h;rfl
 | cons x es ih=>
  intro ms i h hf
  cases h with
  | @cons _ m _ ms' h1 h2=>
   obtain ⟨o',hx,hne⟩:=hf x (by simp)
   have hk:=h1.1
   rw [hx] at hk
   have hkey:m.key=.pointer (some ⟨L.b,L.o+o',none⟩):=by
    generalize m.key=kv at hk
    cases hk with
    | ptr _ _ L' hL'=>rw [hL] at hL';cases hL';rfl
   unfold Instr.findAsking
   rw [hkey]
   have hne':(⟨L.b,L.o+o,none⟩:Addr)≠⟨L.b,L.o+o',none⟩:=fun e=>by injection e with _ e2 _;omega
   simp only [Zjp,WX hu hn (a:=⟨L.b,L.o+o,none⟩) (b:=⟨L.b,L.o+o',none⟩) rfl hne',Zji,Bool.false_eq_true,if_false]
   exact ih (i+1) h2 fun y hy=>hf y (by simp [hy])
theorem Wi (hu:P.underlying kt=some (.pointer e)) (hn:Az P e=some (n+1)) {o:Nat}(hL:γ r=some L)
 {es:List (AV×AV×Nat)}{ms:List MapEntry}(h:All2 (EntR γ) es ms) (hf:∀ x ∈ es,∃ o',x.1=.ptr r o'∧o≠o'):
  (Instr.findKey kt (.pointer (some ⟨L.b,L.o+o,none⟩)) ms).run P w=.ok none w:=by
 have hask:=Wj (P:=P) (w:=w) hu hn hL 0 h hf
 cases h with
 | nil=>simp only [Instr.findKey,Zjp,Zjx hu,Zji,Instr.findNow,Zjv]
 | cons h1 h2=>
  simp only [Instr.findKey,Zjp,Zjx hu,Zji,Instr.findNow,Instr.sameNow]
  exact hask
variable {ty:Nat}
theorem Wy (h:Mp P ty=true):∃ kt e el n,P.underlying ty=some (.map kt e)∧P.underlying kt=some (.pointer el)∧Az P el=some (n+1):=by
 unfold Mp at h
 split at h
 ·rename_i kt e hu
  split at h
  ·rename_i el hk
   split at h
   ·rename_i n hn;exact ⟨kt,e,el,n,hu,hk,hn⟩
   ·cases h
  ·cases h
 ·cases h
variable {o:Oper}{x:Operand}{a:AO}{v:AV}{s':St}
theorem Rt (hs:Sim P γ s w) {y z:Operand}{b c:AO}(hd:o.dst=none) (hpk:Mp P ty=true) (hx:Ag x=some a) (hy:Ag y=some b) (hz:Ag z=some c)
 (ho:o.op=.mapUpdate ty x y z∨o.op=.insert ty x y z) (he:Evs γ t ρ [x,y,z]) (h:TU a b c t s=.ok v s'):OpOk P γ s w ρ o v s':=by
 obtain ⟨kt,e,el,n,hu,hku,hn⟩:=Wy hpk
 obtain ⟨u1,hu1,h⟩:=A9 h
 obtain ⟨u2,hu2,h⟩:=A9 h
 obtain ⟨u3,hu3,h⟩:=A9 h
 have h1:=he x (by simp) a u1 hx hu1
 have h2:=he y (by simp) b u2 hy hu2
 have h3:=he z (by simp) c u3 hz hu3
 rcases IQ h with ⟨r,rfl,hk⟩|⟨rfl,hk⟩
 ·obtain ⟨⟨es,cl⟩,hm,hk⟩:=AH hk
  obtain ⟨kr,ko,rfl,hk⟩:=Mo hk
  obtain ⟨hoth,hk⟩:=B9 hk
  have hg:=G8 hm
  obtain ⟨L,hL,hxv⟩:∃ L,γ r=some L∧ρ x=.map (some L.b):=by
   generalize ρ x=vx at h1
   cases h1 with
   | map _ L hL=>exact ⟨L,hL,rfl⟩
  obtain ⟨K,hK,hyv⟩:∃ K,γ kr=some K∧ρ y=.pointer (some ⟨K.b,K.o+ko,none⟩):=by
   generalize ρ y=vy at h2
   cases h2 with
   | ptr _ _ K hK=>exact ⟨K,hK,rfl⟩
  obtain ⟨ms,hms,hR⟩:=hs.obj r _ L hg hL
  have hlt:=hs.lt r L hL
  obtain ⟨rfl,rfl⟩:=Ar hk
  have hfn:=Wi (P:=P) (w:=w) hku hn hK hR (Zz hoth)
  obtain ⟨hst,hsim⟩:=Kc (O:=.map (ms.push { key:=ρ y,val:=ρ z,born:=cl }) (cl+1)) (o:=.map (AY es [(.ptr kr ko,u3,cl)]) (cl+1)) hs hg hL rfl
   ⟨_,by rw [Zkt,Zjj rfl,Zjj hlt],by rw [CJ,Array.toList_push];exact hR.append (.cons ⟨h2,h3,rfl⟩ .nil)⟩
  refine ⟨γ,_,hst,hsim,.inr ⟨?_,hd⟩⟩
  rw [← hyv] at hfn
  rcases ho with ho|ho <;>
   simp only [execOp,ho,Instr.mapUpdate,Zjp,Zjx hu,Zji,hxv,G5 hms,Wb hku,hfn,J9 _ hms,Zjv]
 ·cases hk
theorem Yi (h:MP P ty=true):∃ kt e,P.underlying ty=some (.map kt e):=by
 unfold MP at h
 split at h
 ·rename_i kt e hu;exact ⟨kt,e,hu⟩
 ·cases h
theorem WY (hs:Sim P γ s w) (hpk:MP P ty=true) (hx:Ag x=some a)
 (ho:o.op=.range ty x) (he:Evs γ t ρ [x]) (h:U2 a t s=.ok v s'):OpOk P γ s w ρ o v s':=by
 obtain ⟨kt,e,hu⟩:=Yi hpk
 obtain ⟨u1,hu1,h⟩:=A9 h
 have h1:=he x (by simp) a u1 hx hu1
 rcases IQ h with ⟨r,rfl,hk⟩|⟨rfl,hk⟩
 ·obtain ⟨⟨es,cl⟩,hm,hk⟩:=AH hk
  have hg:=G8 hm
  obtain ⟨L,hL,hxv⟩:∃ L,γ r=some L∧ρ x=.map (some L.b):=by
   generalize ρ x=vx at h1
   cases h1 with
   | map _ L hL=>exact ⟨L,hL,rfl⟩
  obtain ⟨ms,hms,hR⟩:=hs.obj r _ L hg hL
  obtain ⟨rfl,rfl⟩:=Ar hk
  refine Fresh.ok hs ⟨.iter r cl [] cl,fun i=>.ptr i 0,.mapIter (some L.b) cl #[] cl,0,0,.pointer (some ⟨w.heap.size,0,none⟩),rfl,rfl,?_,fun γ' i hle hi=>⟨⟨rfl,L,hle.loc _ _ hL,by show (w.heap.push _)[w.heap.size]?=_;simp⟩,?_⟩⟩
  ·simp only [execOp,ho,hxv,Zjp,run_range_map w ty kt e L.b ms cl hu hms,Zji,Zjv]
  ·have:=VR.ptr (γ:=γ') i 0 _ hi
   simpa using this
 ·cases hk
theorem Wl {l:List Nat}:PF l=some n→∃ l',l=l'++[n]:=by
 induction l with
 | nil=>intro h;cases h
 | cons x l ih=>
  intro h
  simp only [PF] at h ih
  cases hl:(List.rec (motive:=fun _=>Option Nat) none (fun x _ ih=>Option.rec (some x) (fun y=>some y) ih) l) with
  | none=>
   rw [hl] at h;cases h
   cases l with
   | nil=>exact ⟨[],rfl⟩
   | cons y l=>
    exfalso
    simp only at hl
    cases hq:(List.rec (motive:=fun _=>Option Nat) none (fun x _ ih=>Option.rec (some x) (fun y=>some y) ih) l) with
    | none=>rw [hq] at hl;cases hl
    | some q=>rw [hq] at hl;cases hl
  | some q=>
   rw [hl] at h;cases h
   obtain ⟨l',e⟩:=ih hl
   exact ⟨x::l',by rw [e];rfl⟩
theorem Xx {e:AV×AV×Nat}:∀ {es:List (AV×AV×Nat)}{ms:List MapEntry},All2 (EntR γ) es ms→PP n es=some e→∃ m,ms.find? (·.born == n)=some m∧EntR γ e m:=by
 intro es
 induction es with
 | nil=>intro ms h hf;cases hf
 | cons x es ih=>
  intro ms h hf
  cases h with
  | @cons _ m _ ms' h1 h2=>
   simp only [PP] at hf
   cases hb:Nat.beq x.2.2 n with
   | true=>
    rw [hb] at hf;cases hf
    exact ⟨m,by rw [List.find?_cons_of_pos];rw [h1.2.2];exact beq_iff_eq.2 (Zjl hb),h1⟩
   | false=>
    rw [hb] at hf
    obtain ⟨m',e1,e2⟩:=ih h2 hf
    refine ⟨m',?_,e2⟩
    rw [List.find?_cons_of_neg,e1]
    rw [h1.2.2]
    intro hc
    rw [beq_iff_eq.1 hc,Zk2] at hb;cases hb
theorem W9 {m since last:Nat}{seen:List Nat}(h:Mu r s=.it m since seen last):s.get r=some (.iter m since seen last):=by
 unfold Mu at h
 cases hg:s.get r with
 | none=>rw [hg] at h;cases h
 | some o=>
  rw [hg] at h
  cases o with
  | iter a b c d=>cases h;rfl
  | _=>cases h
theorem Xs (hs:Sim P γ s w) (hx:Ag x=some a)
 (ho:o.op=.entry x) (he:Evs γ t ρ [x]) (h:UL a t s=.ok v s'):OpOk P γ s w ρ o v s':=by
 obtain ⟨u1,hu1,h⟩:=A9 h
 have h1:=he x (by simp) a u1 hx hu1
 obtain ⟨ri,oi,rfl,hk⟩:=Mo h
 obtain ⟨h0,hk⟩:=B9 hk
 have h0:=Zjl h0
 subst h0
 cases hit:Mu ri s with
 | no=>rw [hit] at hk;cases hk
 | it m since seen last=>
  rw [hit] at hk
  obtain ⟨n,hln,hk⟩:=AH hk
  obtain ⟨⟨es,cl⟩,hm,hk⟩:=AH hk
  obtain ⟨hcl,hk2⟩:=B9 hk
  have hcl:cl=last:=Zjl hcl
  subst hcl
  obtain ⟨ent,hb,hk3⟩:=AH hk2
  obtain ⟨rfl,rfl⟩:=Ar hk3
  have hgi:=W9 hit
  have hg:=G8 hm
  obtain ⟨I,hI,hxv⟩:∃ I,γ ri=some I∧ρ x=.pointer (some ⟨I.b,I.o+0,none⟩):=by
   generalize ρ x=vx at h1
   cases h1 with
   | ptr _ _ I hI=>exact ⟨I,hI,rfl⟩
  obtain ⟨hIo,M,hM,hitr⟩:=hs.obj ri _ I hgi hI
  obtain ⟨ms,hms,hR⟩:=hs.obj m _ M hg hM
  obtain ⟨me,hfind,hE⟩:=Xx hR hb
  obtain ⟨l',rfl⟩:=Wl hln
  refine Ap hs (.tuple #[me.key,me.val]) ?_ (.tup _ _ (.cons hE.1 (.cons hE.2.1 .nil)))
  rw [hIo] at hxv
  have hback:((l'++[n]).toArray).back?=some n:=by simp
  have hfa:ms.find? (·.born == n)=some me:=by rw [← Array.find?_toList];exact hfind
  simp only [execOp,ho,hxv,Instr.entry,getObj,Zjp,Sem.run,hitr,hms,Result.andThen,hback,bne_self_eq_false,Bool.false_eq_true,if_false,hfa]
  rfl
theorem PG {k:Nat→AV→RV}{a:AV}(h:(XR.rec .fail k (Jv a):RV)=.ok v s'):∃ t u,a=.iface t u∧k t u=.ok v s':=by
 cases a with
 | iface t u=>exact ⟨t,u,rfl,h⟩
 | _=>cases h
theorem Yh (hs:Sim P γ s w) (hT:Ib P ty=true) (hx:Ag x=some a)
 (ho:o.op=.makeInterface ty x) (he:Evs γ t ρ [x]) (h:Vv ty a t s=.ok v s'):OpOk P γ s w ρ o v s':=by
 obtain ⟨u,hu,h⟩:=A9 h
 obtain ⟨rfl,rfl⟩:=Ar h
 have hv:=he x (by simp) a _ hx hu
 refine Ap hs (.iface ty (ρ x)) ?_ (.iface _ _ _ hv)
 unfold Ib at hT
 cases hd:P.underlying ty with
 | none=>rw [hd] at hT;cases hT
 | some d=>cases d <;> first|(simp [hd] at hT;done)|simp [execOp,ho,Instr.makeInterface,Zjx hd]
theorem XQ (hs:Sim P γ s w) {xt:Nat}{i:TypeInfo}{z:Value}{zv:AV}(hT:Ib P ty=true) (hi:P.info? ty=some i) (hz:i.zero=some z) (hzv:av z=some zv) (hx:Ag x=some a)
 (ho:o.op=.typeAssert x xt ty true) (he:Evs γ t ρ [x]) (h:Vn ty zv a t s=.ok v s'):OpOk P γ s w ρ o v s':=by
 obtain ⟨u,hu,h⟩:=A9 h
 obtain ⟨t',u',rfl,h⟩:=PG h
 obtain ⟨rfl,rfl⟩:=Ar h
 have hv:=he x (by simp) a _ hx hu
 generalize hxx:ρ x=vx at hv
 cases hv with
 | iface _ _ v' hv'=>
  have hzr:=FT (P:=P) hi hz w
  cases hb:Nat.beq t' ty with
  | true=>
   have e:=Zjl hb
   subst e
   refine Ap hs (.tuple #[v',.bool true]) ?_ (.tup _ _ (.cons hv' (.cons (.bool _) .nil)))
   unfold Ib at hT
   cases hd:P.underlying t' with
   | none=>rw [hd] at hT;cases hT
   | some d=>cases d <;> first|(simp [hd] at hT;done)|simp [execOp,ho,hxx,Instr.typeAssert,Zjx hd]
  | false=>
   have e:=Zkk hb
   refine Ap hs (.tuple #[z,.bool false]) ?_ (.tup _ _ (.cons (PQ hzv) (.cons (.bool _) .nil)))
   unfold Ib at hT
   cases hd:P.underlying ty with
   | none=>rw [hd] at hT;cases hT
   | some d=>cases d <;> first|(simp [hd] at hT;done)|simp [execOp,ho,hxx,Instr.typeAssert,Zjx hd,e,hzr]
variable {k f:Nat}
theorem Xq {tb:List (Nat×Nat)}(h:HX tb k=some f):(k,f) ∈ tb:=by
 induction tb with
 | nil=>cases h
 | cons p tb ih=>
  change (Bool.rec (HX tb k) (some p.2) (Nat.beq p.1 k):Option Nat)=some f at h
  cases hb:Nat.beq p.1 k with
  | true=>
   rw [hb] at h
   have e:=Zjl hb
   have e2:p.2=f:=Zkn h
   rw [← e,← e2];exact List.mem_cons_self ..
  | false=>rw [hb] at h;exact List.mem_cons_of_mem _ (ih h)
variable {name:String}
theorem WB (h:HX (TX P name) k=some f):Jh P name k=some f:=by
 obtain ⟨i,_,hi⟩:=List.mem_filterMap.1 (Xq h)
 cases ha:Jh P name i with
 | none=>rw [ha] at hi;cases hi
 | some g=>rw [ha] at hi;cases hi;exact ha
theorem WW {v:Value}(h:Jh P name k=some f):(method (P.types.size+Made.depth) k v name).run P w=.ok (f,v) w:=by
 unfold Jh at h
 split at h
 ·rename_i inf hi
  split at h
  ·rename_i m hm
   split at h
   ·rename_i g hf
    split at h
    ·rename_i hp
     have hpath:m.path=#[]:=by simpa using hp
     split at h
     ·cases h
     ·rename_i d hne hd
      cases h
      rw [show P.types.size+Made.depth=(P.types.size+99)+1 from rfl]
      generalize P.types.size+99=n
      cases d with
      | pointer e=>exact absurd rfl (hne e)
      | _=>simp [method,typeInfo,hi,hm,hpath,follow,hf,receiverAt,Zjx hd,Place.get]
     ·cases h
    ·cases h
   ·cases h
  ·cases h
 ·cases h
end
end Go.AM
namespace Go.AM
section
variable {P:Program}{γ:Gam}{s:St}{w:World}{t:AT}{ρ:Operand→Value}
def Pq:AOp→Bool
 | .call ..|.scall ..|.inv ..=>true
 | _=>false
def ED:AOp→Bool
 | .new ..|.box ..|.bsl ..|.mks ..|.mkmap=>true
 | _=>false
theorem map_some {α β:Type}{f:α→β}{x:Option α}{y:β}(h:x.map f=some y):∃ a,x=some a∧f a=y:=by
 cases x with
 | none=>cases h
 | some a=>exact ⟨a,rfl,Zkn h⟩
def QZ (P:Program) (γ:Gam) (s:St) (w:World) (ρ:Operand→Value) (o:Oper) (p:AOp) (v:AV) (s':St):Prop:=
 (ED p=true∧Fresh P γ w ρ o s v s')∨(ED p=false∧(Sim P γ s w→OpOk P γ s w ρ o v s'))
variable {ty:Nat}
theorem NH (h:Mv P ty=true):∃ kt e kk,P.underlying ty=some (.map kt e)∧P.underlying kt=some (.int kk):=by
 unfold Mv at h
 split at h
 ·rename_i kt e hu
  split at h
  ·rename_i kk hk;exact ⟨kt,e,kk,hu,hk⟩
  ·cases h
 ·cases h
variable {e:Env}{rec:Rec}{o:Oper}{p:AOp}{v:AV}{s':St}
theorem Zfe {op:BinOp}{yt:Nat}{x y:Operand}(hop:o.op=.binOp op ty x y yt) (he:Evs γ t ρ [x,y]) (hc:AF P o=some p)
 (h:AJ p e rec t s=.ok v s'):QZ P γ s w ρ o p v s':=by
 simp only [AF,hop] at hc
 split at hc
 ·rename_i a b ha hb
  split at hc
  ·split at hc
   ·cases hc;exact .inr ⟨rfl,fun hs=>JN hs ha hb hop he h⟩
   ·cases hc;exact .inr ⟨rfl,fun hs=>JN hs ha hb hop he h⟩
   ·split at hc
    ·rename_i k hk
     cases hc;exact .inr ⟨rfl,fun hs=>RZ hs (.inl ⟨rfl,rfl⟩) hk ha hb hop he h⟩
    ·obtain ⟨ks,hk,rfl⟩:=map_some hc
     exact .inr ⟨rfl,fun hs=>RY hs (.inl ⟨rfl,rfl⟩) hk ha hb hop he h⟩
  ·split at hc
   ·cases hc;exact .inr ⟨rfl,fun hs=>JN hs ha hb hop he h⟩
   ·cases hc;exact .inr ⟨rfl,fun hs=>JN hs ha hb hop he h⟩
   ·split at hc
    ·rename_i k hk
     cases hc;exact .inr ⟨rfl,fun hs=>RZ hs (.inr ⟨rfl,rfl⟩) hk ha hb hop he h⟩
    ·obtain ⟨ks,hk,rfl⟩:=map_some hc
     exact .inr ⟨rfl,fun hs=>RY hs (.inr ⟨rfl,rfl⟩) hk ha hb hop he h⟩
  ·cases hc;exact .inr ⟨rfl,fun hs=>JN hs ha hb hop he h⟩
 ·cases hc
theorem Xb {b:Builtin}{args:Array Operand}{ts:Array TypeId}(hop:o.op=.call { callee:=.builtin b,args:=args,argTypes:=ts }) (he:Evs γ t ρ args.toList)
 (hc:Lx P b ts.toList args.toList=some p) (h:AJ p e rec t s=.ok v s'):QZ P γ s w ρ o p v s':=by
 unfold Lx at hc
 split at hc
 ·-- len
  rename_i x T hal htl
  obtain ⟨al⟩:=args;obtain ⟨tl⟩:=ts;simp only at hal htl;subst hal;subst htl
  split at hc
  ·cases hc;rename_i hu;exact .inr ⟨rfl,fun hs=>X1 (t:=t) hs hu hop h⟩
  ·obtain ⟨a,ha,rfl⟩:=map_some hc;rename_i hu;exact .inr ⟨rfl,fun hs=>Yk hs hu ha hop he h⟩
  ·obtain ⟨a,ha,rfl⟩:=map_some hc;rename_i hu;exact .inr ⟨rfl,fun hs=>Xi hs hu ha hop he h⟩
  ·cases hc
 ·obtain ⟨as,ha,rfl⟩:=map_some hc
  exact .inr ⟨rfl,fun hs=>S2 (mx:=false) hs ha hop he h⟩
 ·obtain ⟨as,ha,rfl⟩:=map_some hc
  exact .inr ⟨rfl,fun hs=>S2 (mx:=true) hs ha hop he h⟩
 ·-- cap
  rename_i x T hal htl
  obtain ⟨al⟩:=args;obtain ⟨tl⟩:=ts;simp only at hal htl;subst hal;subst htl
  split at hc
  ·obtain ⟨a,ha,rfl⟩:=map_some hc;rename_i hu;exact .inr ⟨rfl,fun hs=>Y7 hs hu ha hop he h⟩
  ·cases hc
 ·-- append
  rename_i x y T U hal htl
  obtain ⟨al⟩:=args;obtain ⟨tl⟩:=ts;simp only at hal htl;subst hal;subst htl
  split at hc
  ·split at hc
   ·rename_i el kn sx xx hu hU hs' hx'
    split at hc
    ·rename_i n b z hn hb hz
     split at hc
     ·rename_i hcnd
      cases hc
      exact .inr ⟨rfl,fun hs=>Xz hs hu hU hn hb hz hcnd.1 hcnd.2.1 hcnd.2.2 hs' hx' hop he h⟩
     ·cases hc
    ·cases hc
   ·cases hc
  ·rename_i hTU
   have hTU:T=U:=Classical.not_not.1 hTU
   subst hTU
   split at hc
   ·rename_i el sx xx hu hs' hx'
    split at hc
    ·rename_i n b z hn hb hz
     split at hc
     ·rename_i hcnd
      cases hc
      exact .inr ⟨rfl,fun hs=>YG hs hu hn hb hz hcnd.1 hcnd.2.1 hcnd.2.2 hs' hx' hop he h⟩
     ·cases hc
    ·cases hc
   ·cases hc
 ·-- copy
  rename_i x y T U hal htl
  obtain ⟨al⟩:=args;obtain ⟨tl⟩:=ts;simp only at hal htl;subst hal;subst htl
  split at hc
  ·rename_i el d sx hu hd hs'
   obtain ⟨n,hn,rfl⟩:=map_some hc
   exact .inr ⟨rfl,fun hs=>Xu hs hu hn hd hs' hop he h⟩
  ·cases hc
 ·-- delete
  rename_i x y T U hal htl
  obtain ⟨al⟩:=args;obtain ⟨tl⟩:=ts;simp only at hal htl;subst hal;subst htl
  split at hc
  ·rename_i kt ev m k hu hm hk
   split at hc
   ·rename_i kk hku
    cases hc
    exact .inr ⟨rfl,fun hs=>Xf hs hu hku hm hk hop he h⟩
   ·cases hc
  ·cases hc
 ·-- clear
  rename_i x T hal htl
  obtain ⟨al⟩:=args;obtain ⟨tl⟩:=ts;simp only at hal htl;subst hal;subst htl
  split at hc
  ·rename_i el a hu ha
   split at hc
   ·rename_i n z hn hz
    split at hc
    ·rename_i hcnd
     cases hc
     exact .inr ⟨rfl,fun hs=>Y6 hs hu hn hz hcnd.1 hcnd.2 ha hop he h⟩
    ·cases hc
   ·cases hc
  ·cases hc
 ·cases hc
theorem Sz (he:Evs γ t ρ o.op.operands.toList) (hc:AF P o=some p) (hp:Pq p=false)
 (h:AJ p e rec t s=.ok v s'):QZ P γ s w ρ o p v s':=by
 have hc0:=hc
 cases hop:o.op with
 | move x=>
  simp only [AF,hop] at hc;rw [hop] at he
  obtain ⟨a,ha,rfl⟩:=map_some hc
  exact .inr ⟨rfl,fun hs=>S1 hs ha (.inl hop) he h⟩
 | assign x=>
  simp only [AF,hop] at hc;rw [hop] at he
  obtain ⟨a,ha,rfl⟩:=map_some hc
  exact .inr ⟨rfl,fun hs=>S1 hs ha (.inr hop) he h⟩
 | pick c x y=>
  simp only [AF,hop] at hc;rw [hop] at he
  split at hc
  ·rename_i h1 h2 h3;cases hc;exact .inr ⟨rfl,fun hs=>Xa hs h1 h2 h3 hop he h⟩
  ·cases hc
 | alloc ty=>
  simp only [AF,hop] at hc
  split at hc
  ·rename_i n z hn hz;cases hc;exact .inl ⟨rfl,Yf (t:=t) hn hz hop h⟩
  ·cases hc
 | box ty x=>
  simp only [AF,hop] at hc;rw [hop] at he
  split at hc
  ·rename_i n a hn ha;cases hc;exact .inl ⟨rfl,Y9 hn ha hop he h⟩
  ·cases hc
 | build ty parts=>
  simp only [AF,hop] at hc;rw [hop] at he
  have he':Evs γ t ρ (parts.toList.map (·.2)):=he
  split at hc
  ·rename_i z fs hz hu
   split at hc
   ·rename_i hall
    obtain ⟨as,ha,rfl⟩:=map_some hc
    refine .inr ⟨rfl,fun hs=>Rw hs hz (.inl ⟨fs,hu,fun f hf=>?_,ha⟩) hop he' h⟩
    have:=Zld.1 hall f hf
    cases hq:Az P f.type with
    | none=>rw [hq] at this;cases this
    | some n=>exact ⟨n,rfl⟩
   ·cases hc
  ·rename_i z n el hz hu
   split at hc
   ·rename_i m hm
    obtain ⟨as,ha,rfl⟩:=map_some hc
    exact .inr ⟨rfl,fun hs=>Rw hs hz (.inr ⟨n,el,m,hu,hm,ha⟩) hop he' h⟩
   ·cases hc
  ·cases hc
 | buildSlice ty n parts=>
  simp only [AF,hop] at hc;rw [hop] at he
  have he':Evs γ t ρ (parts.toList.map (·.2)):=he
  split at hc
  ·rename_i el hu
   split at hc
   ·rename_i m z hm hz
    split at hc
    ·rename_i hcnd
     obtain ⟨as,ha,rfl⟩:=map_some hc
     exact .inl ⟨rfl,Y8 hu hm hz hcnd.1 hcnd.2.1 hcnd.2.2 ha hop he' h⟩
    ·cases hc
   ·cases hc
  ·cases hc
 | load ty x=>
  simp only [AF,hop] at hc;rw [hop] at he
  split at hc
  ·rename_i n a hag hn ha;cases hc;exact .inr ⟨rfl,fun hs=>Yl hs hag hn ha hop he h⟩
  ·rename_i a hag ha;cases hc;exact .inr ⟨rfl,fun hs=>Ym hs hag ha hop he h⟩
  ·cases hc
 | store ty x y=>
  simp only [AF,hop] at hc;rw [hop] at he
  split at hc
  ·rename_i n a b hd hn ha hb;cases hc;exact .inr ⟨rfl,fun hs=>Zn hs hd hn ha hb hop he h⟩
  ·cases hc
 | nilCheck x=>
  simp only [AF,hop] at hc;rw [hop] at he
  obtain ⟨a,ha,rfl⟩:=map_some hc
  exact .inr ⟨rfl,fun hs=>W3 hs ha hop he h⟩
 | binOp op ty x y yt=>rw [hop] at he;exact Zfe hop he hc0 h
 | unOp op ty x=>
  simp only [AF,hop] at hc;rw [hop] at he
  obtain ⟨a,ha,rfl⟩:=map_some hc
  exact .inr ⟨rfl,fun hs=>Zf hs ha hop he h⟩
 | convert sr ds x=>
  simp only [AF,hop] at hc;rw [hop] at he
  split at hc
  ·rename_i a h1 h2 ha;cases hc;exact .inr ⟨rfl,fun hs=>Y5 hs h1 h2 ha hop he DT h⟩
  ·rename_i el a h1 h2 ha
   split at hc
   ·rename_i h8;cases hc;exact .inr ⟨rfl,fun hs=>YB hs h1 h2 h8 ha hop he h⟩
   ·cases hc
  ·cases hc
 | makeFunc f as bs=>
  cases f with
  | func f=>
   simp only [AF,hop] at hc;rw [hop] at he
   split at hc
   ·rename_i h1 h2;cases hc
    exact .inr ⟨rfl,fun hs=>Xd hs h1 h2 hop (by simpa [Op.operands] using he) h⟩
   ·cases hc
  | _=>simp only [AF,hop] at hc;cases hc
 | makeMap ty r=>
  cases r with
  | none=>simp only [AF,hop] at hc;cases hc;exact .inl ⟨rfl,W4 (t:=t) hop h⟩
  | some r=>simp only [AF,hop] at hc;cases hc
 | makeSlice ty l c=>
  simp only [AF,hop] at hc;rw [hop] at he
  split at hc
  ·rename_i el a b hu h1 h2
   split at hc
   ·rename_i n by_ z hn hb hz
    split at hc
    ·rename_i hcnd;cases hc
     exact .inl ⟨rfl,Yg hu hn hb hz hcnd.1 hcnd.2.1 hcnd.2.2 h1 h2 hop he h⟩
    ·cases hc
   ·cases hc
  ·cases hc
 | slice ty x lo hi mx=>
  simp only [AF,hop] at hc;rw [hop] at he
  have he':Evs γ t ρ ([x]++lo.toList++hi.toList++mx.toList):=by simpa [Op.operands] using he
  split at hc
  ·rename_i el a alo ahi amx hu ha h1 h2 h3
   split at hc
   ·cases hc
   ·rename_i hcnd
    obtain ⟨n,hn,rfl⟩:=map_some hc
    refine .inr ⟨rfl,fun hs=>XV hs hu hn ha h1 h2 h3 ?_ hop he' h⟩
    intro hm
    rw [hm] at hcnd
    cases ahi with
    | none=>exact absurd rfl hcnd
    | some q=>rfl
  ·rename_i n el a alo ahi amx hu ha h1 h2 h3
   split at hc
   ·cases hc
   ·rename_i hcnd
    obtain ⟨m,hm,rfl⟩:=map_some hc
    refine .inr ⟨rfl,fun hs=>XW hs hu hm ha h1 h2 h3 ?_ hop he' h⟩
    intro hmx
    cases mx with
    | none=>cases hmx
    | some mo=>
     obtain ⟨am,_,ham⟩:=map_some (show (Ag mo).map some=some amx from h3)
     subst ham
     cases hi with
     | none=>cases h2;simp at hcnd
     | some ho=>rfl
  ·cases hc
 | fieldAddr ty x f=>
  simp only [AF,hop] at hc;rw [hop] at he
  split at hc
  ·rename_i fs a hu ha
   split at hc
   ·rename_i fd hf
    split at hc
    ·rename_i n hn;cases hc;exact .inr ⟨rfl,fun hs=>ZY hs hu hf hn ha hop he h⟩
    ·cases hc
   ·cases hc
  ·cases hc
 | field ty x f=>
  simp only [AF,hop] at hc;rw [hop] at he
  split at hc
  ·rename_i fs a hu ha
   split at hc
   ·rename_i fd hf
    split at hc
    ·rename_i n hag hn;cases hc;exact .inr ⟨rfl,fun hs=>Xo hs hu hf hag hn ha hop he h⟩
    ·rename_i hag;cases hc;exact .inr ⟨rfl,fun hs=>Xp hs hu hf hag ha hop he h⟩
    ·cases hc
   ·cases hc
  ·cases hc
 | indexAddr ty x i=>
  simp only [AF,hop] at hc;rw [hop] at he
  split at hc
  ·rename_i el a b hu ha hb
   obtain ⟨n,hn,rfl⟩:=map_some hc
   exact .inr ⟨rfl,fun hs=>Yo hs hu hn ha hb hop he h⟩
  ·rename_i m el a b hu ha hb
   obtain ⟨n,hn,rfl⟩:=map_some hc
   exact .inr ⟨rfl,fun hs=>Yp hs hu hn ha hb hop he h⟩
  ·cases hc
 | index ty x i=>
  simp only [AF,hop] at hc;rw [hop] at he
  split at hc
  ·rename_i m el a b hu ha hb
   split at hc
   ·rename_i hn hag;cases hc;exact .inr ⟨rfl,fun hs=>Yn hs hu hn hag ha hb hop he h⟩
   ·rename_i hn hag;cases hc;exact .inr ⟨rfl,fun hs=>Xn hs hu hn hag ha hb hop he h⟩
   ·cases hc
  ·cases hc
 | extract x i=>
  simp only [AF,hop] at hc;rw [hop] at he
  obtain ⟨a,ha,rfl⟩:=map_some hc
  exact .inr ⟨rfl,fun hs=>Yy hs ha hop he h⟩
 | lookup ty m k ok=>
  simp only [AF,hop] at hc;rw [hop] at he
  split at hc
  ·rename_i kt' el a b hu ha hb
   split at hc
   ·rename_i hik
    obtain ⟨kt,e2,kk,hu2,hku⟩:=NH hik
    rw [hu2] at hu;cases hu
    split at hc
    ·rename_i i hi
     split at hc
     ·rename_i z hz
      obtain ⟨zz,hzz,rfl⟩:=map_some hc
      exact .inr ⟨rfl,fun hs=>Xe hs hu2 hku hi hz hzz ha hb hop he h⟩
     ·cases hc
    ·cases hc
   ·cases hc
  ·cases hc
 | mapUpdate ty m k v'=>
  simp only [AF,hop] at hc;rw [hop] at he
  split at hc
  ·rename_i a b c hd ha hb hcc
   split at hc
   ·rename_i hik
    obtain ⟨kt,e2,kk,hu2,hku⟩:=NH hik
    cases hc
    exact .inr ⟨rfl,fun hs=>R1 hs hd hu2 hku ha hb hcc (.inl hop) he h⟩
   ·split at hc
    ·rename_i hpk
     cases hc
     exact .inr ⟨rfl,fun hs=>Rt hs hd hpk ha hb hcc (.inl hop) he h⟩
    ·cases hc
  ·cases hc
 | insert ty m k v'=>
  simp only [AF,hop] at hc;rw [hop] at he
  split at hc
  ·rename_i a b c hd ha hb hcc
   split at hc
   ·rename_i hik
    obtain ⟨kt,e2,kk,hu2,hku⟩:=NH hik
    cases hc
    exact .inr ⟨rfl,fun hs=>R1 hs hd hu2 hku ha hb hcc (.inr hop) he h⟩
   ·split at hc
    ·rename_i hpk
     cases hc
     exact .inr ⟨rfl,fun hs=>Rt hs hd hpk ha hb hcc (.inr hop) he h⟩
    ·cases hc
  ·cases hc
 | range ty x=>
  simp only [AF,hop] at hc;rw [hop] at he
  split at hc
  ·rename_i hT
   obtain ⟨a,ha,rfl⟩:=map_some hc
   exact .inr ⟨rfl,fun hs=>WY hs hT ha hop he h⟩
  ·cases hc
 | entry x=>
  simp only [AF,hop] at hc;rw [hop] at he
  obtain ⟨a,ha,rfl⟩:=map_some hc
  exact .inr ⟨rfl,fun hs=>Xs hs ha hop he h⟩
 | next x str=>
  cases str with
  | true=>simp only [AF,hop] at hc;cases hc
  | false=>
   simp only [AF,hop] at hc
   obtain ⟨a,ha,rfl⟩:=map_some hc
   cases h
 | call c=>
  obtain ⟨cal,args,ts⟩:=c
  cases cal with
  | value f=>
   exfalso
   simp only [AF,hop] at hc
   split at hc
   ·obtain ⟨as,_,rfl⟩:=map_some hc;cases hp
   ·split at hc
    ·cases hc;cases hp
    ·cases hc
   ·rename_i hq;cases hq
   ·rename_i hq;cases hq
  | builtin b=>
   simp only [AF,hop] at hc;rw [hop] at he
   exact Xb hop (by simpa [Op.operands,Call.operands] using he) hc h
  | invoke r m=>
   exfalso
   simp only [AF,hop] at hc
   split at hc
   ·cases hc;cases hp
   ·cases hc
 | makeInterface ty x=>
  simp only [AF,hop] at hc;rw [hop] at he
  split at hc
  ·rename_i hT
   obtain ⟨a,ha,rfl⟩:=map_some hc
   exact .inr ⟨rfl,fun hs=>Yh hs hT ha hop he h⟩
  ·cases hc
 | typeAssert x xt ty ok=>
  cases ok with
  | false=>simp only [AF,hop] at hc;cases hc
  | true=>
   simp only [AF,hop] at hc;rw [hop] at he
   split at hc
   ·rename_i hT
    split at hc
    ·rename_i i hi
     split at hc
     ·rename_i z hz
      split at hc
      ·rename_i a zv ha hzv
       cases hc
       exact .inr ⟨rfl,fun hs=>XQ hs hT hi hz hzv ha hop he h⟩
      ·cases hc
     ·cases hc
    ·cases hc
   ·cases hc
 | _=>simp only [AF,hop] at hc;cases hc
theorem Rl (h:GY P o=some p):AF P o=some p∨p=.bad:=by
 unfold GY at h
 cases hc:AF P o with
 | none=>rw [hc] at h;cases h;exact .inr rfl
 | some q=>rw [hc] at h;cases h;exact .inl rfl
end
end Go.AM
namespace Go.AM
def BC:Option Nat→Fence
 | none=>Fence.wide
 | some b=>Fence.wide.inRound b
theorem Oc (b:Option Nat):(BC b).round=b:=by cases b <;> rfl
theorem GX (b:Option Nat) (f:FuncId):(BC b).fn f:=by cases b <;> trivial
theorem JM (b:Option Nat) (n:Nat):(BC b).depth.isSome=true→1≤n:=by cases b <;> (intro h;cases h)
def KT:Ex→Exit
 | .normal=>.normal
 | .exit id=>.exit id
 | .ret=>.ret
def DR (γ:Gam) (ds:List Nat) (l:List Deferred):Prop:=All2 (fun d D=>∃ L,γ d=some L∧D={ target:=.collected L.b,args:=#[] }) ds l
variable {γ γ':Gam}
theorem DR.mono (h:Le γ γ') {ds:List Nat}{l:List Deferred}(hd:DR γ ds l):DR γ' ds l:=hd.imp fun _ _ ⟨L,a,b⟩=>⟨L,h.loc _ _ a,b⟩
def RD (γ:Gam) (rd b:Option Nat):Prop:=match rd with
 | none=>b=none
 | some l=>∃ L,γ l=some L∧b=some L.b
theorem RD.mono (h:Le γ γ') {rd b:Option Nat}(hd:RD γ rd b):RD γ' rd b:=by
 cases rd with
 | none=>exact hd
 | some l=>obtain ⟨L,a,e⟩:=hd;exact ⟨L,h.loc _ _ a,e⟩
def CE (P:Program) (γ0:Gam) (s0:St) (w0:World) (N:Nat) (x:Ex) (t':AT) (s':St) (ds':List Nat):Exit→Act→World→Prop:=
 fun e a' w'=>e=KT x∧N≤a'.tmps.size∧∃ γ',Stp γ0 s0 w0 γ' s' w'∧Sim P γ' s' w'∧TR γ' t' a'.tmps∧DR γ' ds' a'.defers
def DU (P:Program) (γ:Gam) (s:St) (w:World) (v:AV) (s':St):Ending→World→Prop:=
 fun e w'=>∃ v' γ',e=.returned v'∧Stp γ s w γ' s' w'∧Sim P γ' s' w'∧VR γ' v v'
def De (P:Program) (n:Nat) (rec:Rec):Prop:=
 ∀ (N:Nat) (c:Code) (ac:AC) (γ:Gam) (t:AT) (s:St) (w:World) (a:Act) (rd b:Option Nat) (ds:List Nat) (x:Ex) (t':AT) (s':St) (ds':List Nat) (γ0:Gam) (s0:St) (w0:World) (m:Nat),
  AU P N c=some ac→N≤a.tmps.size→TR γ t a.tmps→Sim P γ s w→RD γ0 rd b→DR γ ds a.defers→Stp γ0 s0 w0 γ s w→rec ac t s rd ds=.ok x t' s' ds'→
  c.wpIn (BC b) m P (CE P γ0 s0 w0 N x t' s' ds') a w∧∀ c',c=.loop c'→Code.roundsIn (BC b) m P c' (CE P γ0 s0 w0 N x t' s' ds') n a w
structure EnvOk (P:Program) (e:Env):Prop where
 G : ∀ f af, e.G.get f = some af → ∃ fn, P.funcs[f]? = some fn ∧ Fk P fn = some af ∧ (fn.name == "runtime.NumGoroutine") = false
 O : ∀ f h, e.O.get f = some h → (∃ fn c, P.funcs[f]? = some fn ∧ fn.body = some c ∧ (fn.name == "runtime.NumGoroutine") = false) ∧
  ∀ γ args vals s w v s',All2 (VR γ) args vals→Sim P γ s w→h args s=.ok v s'→∀ m,CallsIn Fence.wide m P f vals.toArray w (DU P γ s w v s')
 X:∀ f h,e.X.get f=some h→∀ γ args vals s w v s',All2 (VR γ) args vals→Sim P γ s w→h args s=.ok v s'→
  ∃ v' γ' w',(callFunc f vals.toArray).run P w=.ok (.value v') w'∧Stp γ s w γ' s' w'∧Sim P γ' s' w'∧VR γ' v v'
section
variable {P:Program}{γ:Gam}{s:St}{w:World}{t:AT}
variable {tm:Array Value}{i:Nat}{v:AV}{v':Value}
theorem TR.set (h:TR γ t tm) (hi:i<tm.size) (hv:VR γ v v'):TR γ (t.set v i) (tm.setIfInBounds i v'):=by
 intro j u hu
 rw [Zkt]
 rcases E4 hu with ⟨rfl,rfl⟩|⟨hne,hu⟩
 ·rw [Zjj rfl,Zjj hi];exact ⟨v',rfl,hv⟩
 ·rw [Zjn (fun e=>hne e.symm)];exact h j u hu
variable {a:Act}{N n:Nat}
theorem TR.put (h:TR γ t a.tmps) {d:Option Tmp}(hN:N≤a.tmps.size) (hd:DV N d=some n) (hv:VR γ v v'∨d=none):TR γ (B5 n v t) (a.put d v').tmps:=by
 cases d with
 | none=>cases hd;exact h
 | some d=>
  simp only [DV] at hd
  split at hd
  ·rename_i hlt;cases hd
   exact h.set (Zk8 hlt hN) (hv.resolve_right (by simp))
  ·cases hd
theorem LI (a:Act) (d:Option Tmp) (v:Value):(a.put d v).tmps.size=a.tmps.size:=by cases d <;> simp [Act.put]
theorem L3 (a:Act) (d:Option Tmp) (v:Value):(a.put d v).defers=a.defers:=by cases d <;> rfl
theorem Sr:VR γ (.tup []) undef:=.tup _ _ .nil
theorem Sn (h:TR γ t a.tmps) (xs:List Operand):Evs γ t a.eval xs:=by
 intro x _ y v hy hv
 unfold Ag at hy
 split at hy
 ·rename_i i _
  cases hy
  change (Option.rec .none (fun v=>.some v) (t.get i):OV)=.some v at hv
  cases hg:t.get i with
  | none=>rw [hg] at hv;cases hv
  | some u=>
   rw [hg] at hv;cases hv
   obtain ⟨v',h1,h2⟩:=h i v hg
   show VR γ v (a.tmps.getD i undef)
   rw [Zkh,h1];exact h2
 ·obtain ⟨u,hu,rfl⟩:=map_some hy
  cases hv;exact PQ hu
 ·cases hy;cases hv;exact .fn _ _ _ _ _ .nil .nil
 ·cases hy
theorem MC (h:TR γ t a.tmps) {x:Operand}{y:AO}(hx:Ag x=some y) (hv:ev y t=.some v):VR γ v (a.eval x):=
 Sn h [x] x (by simp) y v hx hv
theorem Wg (h:TR γ t a.tmps) {ops:Array Oper}{o:Oper}{g:Option (Nat×Bool)}(hg:F3 ops N o.guard=some g):
 (AL g t=2→Region.wanted o (yielded ops a.tmps)=true)∧(AL g t=1→Region.wanted o (yielded ops a.tmps)=false):=by
 unfold F3 at hg
 unfold Region.wanted
 split at hg
 ·rename_i hgo;cases hg;rw [hgo];exact ⟨fun _=>rfl,fun h=>(by cases h)⟩
 ·rename_i j b hgo
  rw [hgo]
  split at hg
  ·rename_i d hd;cases hg
   show ((Option.rec 0 (fun v=>BR.rec (Bool.rec 1 0 (Br v)) (Bool.rec 1 2 b) (Bool.rec 2 1 b) (asBool v)) (t.get d):Nat)=2→(yielded ops a.tmps j == some b)=true)∧((Option.rec 0 (fun v=>BR.rec (Bool.rec 1 0 (Br v)) (Bool.rec 1 2 b) (Bool.rec 2 1 b) (asBool v)) (t.get d):Nat)=1→(yielded ops a.tmps j == some b)=false)
   cases hgt:t.get d with
   | none=>exact ⟨fun h=>(by cases h),fun h=>(by cases h)⟩
   | some v=>
    obtain ⟨v',h1,h2⟩:=h d v hgt
    simp only [yielded,hd,Option.bind_some,h1]
    cases h2 <;> first|(cases b <;> rename_i q <;> cases q <;> simp [asBool,Br])|(cases b <;> simp [asBool,Br])
  ·cases hg
variable {ty r o:Nat}{p:Value}
theorem W7 (hs:Sim P γ s w) (hag:C9 P ty=some false) (hp:VR γ (.ptr r o) p) (h:load1 r o s=some v):
 ∃ v',(do loadVar ty (← asAddr p):Sem Value).run P w=.ok v' w∧VR γ v v':=by
 obtain ⟨L,hL,rfl⟩:=Hk hp
 obtain ⟨v',hc,hR,_⟩:=Ru hs h hL
 refine ⟨v',?_,hR⟩
 simp only [asAddr,Zjp,Zjv,Zji,loadVar,GC hag]
 simp [run_load,hc]
theorem Wk (hs:Sim P γ s w) {cs:List AV}(hag:C9 P ty=some true) (hn:Az P ty=some n) (hp:VR γ (.ptr r o) p) (h:load r o n s=some cs):
 ∃ v',(do loadVar ty (← asAddr p):Sem Value).run P w=.ok v' w∧VR γ (.agg cs) v':=by
 obtain ⟨L,hL,rfl⟩:=Hk hp
 obtain ⟨vs,e1,hc,hR,h1⟩:=H3 hs h hL
 have hrun:=run_loadCells_list (P:=P) w _ vs hc
 rw [e1] at hrun
 refine ⟨.agg vs.toArray,?_,.agg _ _ hR h1⟩
 simp only [asAddr,Zjp,Zjv,Zji,loadVar,GC hag,Ck hn,hrun,if_true]
def Mw (tm:Array Value):ResultVar→Sem Value
 | .tmp t=>pure (tm.getD t undef)
 | .cell a t=>do loadVar t (← asAddr (tm.getD a undef))
theorem OI (h:TR γ t tm) (hg:t.get i=some v):VR γ v (tm.getD i undef):=by
 obtain ⟨v',h1,h2⟩:=h i v hg
 rw [Zkh,h1];exact h2
theorem WZ (hs:Sim P γ s w) (h:TR γ t tm) {r:ResultVar}{x:ARes}
 (hx:(match r with
   | .tmp t=>some (.tmp t)
   | .cell a t=>match C9 P t,Az P t with
    | some true,some n=>some (.cells a n)
    | some false,_=>some (.cell a)
    | _,_=>none:Option ARes)=some x) (hr:MN t s x=some v):∃ v',(Mw tm r).run P w=.ok v' w∧VR γ v v':=by
 cases r with
 | tmp i=>cases hx;exact ⟨_,rfl,OI h hr⟩
 | cell i ty=>
  simp only at hx
  split at hx
  ·rename_i n hag hn
   cases hx
   change (Option.rec none (fun v=>PR.rec none (fun r o=>Option.rec none (fun cs=>some (.agg cs)) (load r o n s)) (fun _=>none) (Bj v)) (t.get i):Option AV)=some v at hr
   cases hg:t.get i with
   | none=>rw [hg] at hr;cases hr
   | some pv=>
    rw [hg] at hr
    change (PR.rec none (fun r o=>Option.rec none (fun cs=>some (.agg cs)) (load r o n s)) (fun _=>none) (Bj pv):Option AV)=some v at hr
    cases hp:Bj pv with
    | no=>rw [hp] at hr;cases hr
    | fp l=>rw [hp] at hr;cases hr
    | ptr q o=>
     rw [hp] at hr
     have hpv:=Kb hp;subst hpv
     change (Option.rec none (fun cs=>some (.agg cs)) (load q o n s):Option AV)=some v at hr
     cases hl:load q o n s with
     | none=>rw [hl] at hr;cases hr
     | some cs=>rw [hl] at hr;cases hr;exact Wk hs hag hn (OI h hg) hl
  ·rename_i hag
   cases hx
   change (Option.rec none (fun v=>PR.rec none (fun r o=>load1 r o s) (fun _=>none) (Bj v)) (t.get i):Option AV)=some v at hr
   cases hg:t.get i with
   | none=>rw [hg] at hr;cases hr
   | some pv=>
    rw [hg] at hr
    change (PR.rec none (fun r o=>load1 r o s) (fun _=>none) (Bj pv):Option AV)=some v at hr
    cases hp:Bj pv with
    | no=>rw [hp] at hr;cases hr
    | fp l=>rw [hp] at hr;cases hr
    | ptr q o=>
     rw [hp] at hr
     have hpv:=Kb hp;subst hpv
     exact W7 hs hag (OI h hg) hr
  ·cases hx
theorem We (hs:Sim P γ s w) (h:TR γ t tm):∀ (rs:List ResultVar) (res:List ARes) (l:List AV),IK P rs=some res→Dx t s res=some l→
 ∃ vs,(rs.mapM (Mw tm)).run P w=.ok vs w∧All2 (VR γ) l vs:=by
 intro rs
 induction rs with
 | nil=>intro res l h1 h2;cases h1;cases h2;exact ⟨[],rfl,.nil⟩
 | cons r rs ih=>
  intro res l h1 h2
  unfold IK at h1
  split at h1
  ·rename_i x y hx hy
   cases h1
   change (Option.rec none (fun v=>Option.rec none (fun vs=>some (v::vs)) (Dx t s y)) (MN t s x):Option (List AV))=some l at h2
   cases hr:MN t s x with
   | none=>rw [hr] at h2;cases h2
   | some v=>
    rw [hr] at h2
    cases hq:Dx t s y with
    | none=>rw [hq] at h2;cases h2
    | some vs=>
     rw [hq] at h2;cases h2
     obtain ⟨us,e1,e2⟩:=ih y vs hy hq
     obtain ⟨v',f1,f2⟩:=WZ hs h hx hr
     refine ⟨v'::us,?_,.cons f2 e2⟩
     rw [List.mapM_cons]
     simp only [Zjp,Zjv,f1,Zji,e1]
  ·cases h1
theorem Wc (hs:Sim P γ s w) (h:TR γ t tm) {fn:Func}{res:List ARes}{l:List AV}(hc:IK P fn.results.toList=some res) (hr:Dx t s res=some l):
 ∃ v',(results fn tm).run P w=.ok v' w∧VR γ (one l) v':=by
 obtain ⟨vs,h1,h2⟩:=We hs h _ _ _ hc hr
 have hm:(fn.results.mapM (Mw tm)).run P w=.ok vs.toArray w:=by
  rw [Array.mapM_eq_mapM_toList]
  simp only [map_eq_pure_bind,Zjp,h1,Zji,Zjv]
 have hres:results fn tm=(fn.results.mapM (Mw tm) >>= fun vs=>pure (if h:vs.size=1 then vs[0] else .tuple vs)):=rfl
 rw [hres]
 simp only [Zjp,hm,Zji,Zjv]
 refine ⟨_,rfl,?_⟩
 cases h2 with
 | nil=>simp;exact .tup _ _ .nil
 | @cons x u l' us' hx hl=>
  cases hl with
  | nil=>simp;exact hx
  | @cons x2 u2 l2 us2 hx2 hl2=>simp;exact .tup _ _ (.cons hx (.cons hx2 hl2))
end
end Go.AM
namespace Go.AM
section
variable {P:Program}{γ:Gam}{s:St}{w:World}{t:AT}{e:Env}{rec:Rec}{n:Nat}
variable {v:AV}{s':St}
theorem NB {k:Ex→AT→St→List Nat→RV}{r:R}(h:(R.rec .fail k r:RV)=.ok v s'):∃ x t1 s1 ds,r=.ok x t1 s1 ds∧k x t1 s1 ds=.ok v s':=by
 cases r with
 | fail=>cases h
 | ok x t1 s1 ds=>exact ⟨x,t1,s1,ds,rfl,h⟩
variable {l:Nat}
theorem KE {k:LoopState→Option Nat→Nat→AT→List Nat→AC→AC→Nat→RV}(h:(LP.rec .fail k (C0 l s):RV)=.ok v s'):
 ∃ st pend fn tm ps asg body d,s.get l=some (.loop st pend fn tm ps asg body d)∧k st pend fn tm ps asg body d=.ok v s':=by
 unfold C0 at h
 cases hg:s.get l with
 | none=>rw [hg] at h;cases h
 | some o=>
  rw [hg] at h
  cases o with
  | loop st pend fn tm ps asg body d=>exact ⟨st,pend,fn,tm,ps,asg,body,d,rfl,h⟩
  | _=>cases h
variable {b:Nat}
theorem VU (h:w.heap[b]?=some (.deferred (some []))):(Instr.takeDeferred b).run P w=.ok [] { w with heap:=w.heap.setIfInBounds b (.deferred none) }:=by
 have h1:(getObj b).run P w=.ok (.deferred (some [])) w:=by simp only [getObj,Sem.run];rw [h]
 have h2:∀ o,(setObj b o).run P w=.ok () { w with heap:=w.heap.setIfInBounds b o }:=fun o=>by simp only [setObj,Sem.run];rw [h]
 simp only [Instr.takeDeferred,Zjp,h1,h2,Zji,Zjv]
theorem Ri {fn:Func}{tm:Array Value}{res:List ARes}{l:List AV}{γ0:Gam}{s0:St}{w0:World}(hc:IK P fn.results.toList=some res) {s2:St}{R:Ending→World→Prop}(hR:∀ e w',DU P γ0 s0 w0 (one l) s2 e w'→R e w') (m:Nat):∀ (ds:List Nat) (D:List Deferred) (s:St) (w:World),
 DR γ ds D→EO ds s=some s2→Sim P γ s w→Stp γ0 s0 w0 γ s w→TR γ t tm→Dx t s2 res=some l→
 LeavesInM Fence.wide m P fn tm R D .returning w:=by
 intro ds
 induction ds with
 | nil=>
  intro D s w hD hq hs hst ht hr
  cases hD
  cases hq
  obtain ⟨v',h1,h2⟩:=Wc hs ht hc hr
  exact ⟨v',h1,hR _ _ ⟨v',γ,rfl,hst,hs,h2⟩⟩
 | cons d ds ih=>
  intro D s w hD hq hs hst ht hr
  cases hD with
  | cons hd hD=>
   obtain ⟨L,hL,rfl⟩:=hd
   change (Option.rec none (fun o=>AObj.rec (fun _ _=>none) none (fun _ _=>none) (fun _ _ _ _ _ _ _ _=>none) (EO ds (s.put d .dead)) (fun _ _ _ _=>none) o) (s.get d):Option St)=some s2 at hq
   cases hg:s.get d with
   | none=>rw [hg] at hq;cases hq
   | some o=>
    rw [hg] at hq
    cases o with
    | defd=>
     have hb:w.heap[L.b]?=some (.deferred (some [])):=hs.obj d _ L hg hL
     obtain ⟨hst1,hs1⟩:=hs.turn (w':={ w with heap:=w.heap.setIfInBounds L.b (.deferred none) }) (o:=.dead) hg hL rfl
      (fun b hb=>by show (w.heap.setIfInBounds L.b _)[b]?=_;rw [Zkt,Zjn (fun e=>hb e.symm)]) (by simp) rfl rfl rfl trivial
     refine ⟨by simp,.inl ⟨L.b,_,rfl,VU hb,ih _ _ _ hD hq hs1 (hst.trans hst1) ht hr⟩⟩
    | _=>cases hq
theorem S6:∀ (args:List AV) (vals:List Value) (tm:Array Value) (i:Nat) (t:AT),All2 (VR γ) args vals→TR γ t tm→(∀ j v,vals[j]?=some v→tm[i+j]?=some v)→TR γ (Al args i t) tm:=by
 intro args
 induction args with
 | nil=>intro vals tm i t h ht _;exact ht
 | cons x args ih=>
  intro vals tm i t h ht hv
  cases h with
  | @cons _ u _ us hx hr=>
   refine ih us tm (i+1) (t.set x i) hr ?_ (fun j v hj=>?_)
   ·intro k y hy
    rcases E4 hy with ⟨rfl,rfl⟩|⟨_,hy⟩
    ·exact ⟨u,by simpa using hv 0 u (by simp),hx⟩
    ·exact ht k y hy
   ·have:=hv (j+1) v (by simpa using hj)
    rw [Zlc,Nat.add_comm 1 j];exact this
theorem Va (tm:Array Value):TR γ .lf tm:=by intro i v h;cases h
variable {f:Nat}{args:List AV}{vals:List Value}
theorem Rv (hG:De P n rec) (hE:EnvOk P e) (hA:All2 (VR γ) args vals) (hs:Sim P γ s w) (h:EH e rec f args s=.ok v s'):
 (∃ fn c, P.funcs[f]? = some fn ∧ fn.body = some c ∧ (fn.name == "runtime.NumGoroutine") = false) ∧ ∀ m, CallsIn Fence.wide m P f vals.toArray w (DU P γ s w v s') := by
 unfold EH at h
 obtain ⟨af,hg,h⟩:=AH h
 obtain ⟨fn,hf,hcF,hname⟩:=hE.G f af hg
 unfold Fk at hcF
 split at hcF
 ·rename_i b hb
  split at hcF
  ·rename_i cd rs hcd hrs
   cases hcF
   refine ⟨⟨fn,b,hf,hb,hname⟩,fun m=>?_⟩
   change IM rs (rec cd (Al args 0 .lf) s none [])=.ok v s' at h
   unfold IM at h
   obtain ⟨x,t1,s1,ds,hrec,h⟩:=NB h
   refine callsIn_of_wp_marks hf hb trivial ?_
   have hTR:TR γ (Al args 0 .lf) (vals.toArray++Array.replicate (fn.ntmps-vals.toArray.size) undef):=by
    refine S6 args vals _ 0 .lf hA (Va _) ?_
    intro j u hj
    rw [Zju,Array.getElem?_append]
    have hlt:=(Zjg.1 hj).1
    rw [Zjj (by simpa using hlt)]
    simpa using hj
   have hsz:fn.ntmps≤(vals.toArray++Array.replicate (fn.ntmps-vals.toArray.size) undef).size:=by simp;omega
   have hw:=(hG fn.ntmps b cd γ _ s w { tmps:=vals.toArray++Array.replicate (fn.ntmps-vals.toArray.size) undef,defers:=[] } none none [] x t1 s1 ds γ s w m hcd hsz hTR hs rfl .nil (.refl _ _ _) hrec).1
   refine wpIn_mono hw ?_
   rintro ex a' w' ⟨rfl,_,γ',hst,hsim,ht,hd⟩
   have fin:∀ {k:RV},(Option.rec .fail (fun s=>Option.rec .fail (fun l=>.ok (one l) s) (Dx t1 s rs)) (EO ds s1):RV)=.ok v s'→LeavesInM Fence.wide m P fn a'.tmps (DU P γ s w v s') a'.defers .returning w':=by
    intro _ h
    obtain ⟨s2,hq,h⟩:=AH h
    obtain ⟨l,hl,h⟩:=AH h
    obtain ⟨rfl,rfl⟩:=Ar h
    exact Ri hrs (fun _ _ h=>h) m ds a'.defers s1 w' hd hq hsim hst ht hl
   cases x with
   | normal=>exact fin (k:=.fail) h
   | ret=>exact fin (k:=.fail) h
   | exit id=>cases h
  ·cases hcF
 ·cases hcF
theorem Lz (hG:De P n rec) (hE:EnvOk P e) (hA:All2 (VR γ) args vals) (hs:Sim P γ s w) (h:BW e rec f args s=.ok v s'):
 (∃ fn c, P.funcs[f]? = some fn ∧ fn.body = some c ∧ (fn.name == "runtime.NumGoroutine") = false) ∧ ∀ m, CallsIn Fence.wide m P f vals.toArray w (DU P γ s w v s') := by
 unfold BW at h
 cases ho:e.O.get f with
 | some hh=>
  rw [ho] at h
  obtain ⟨h1,h2⟩:=hE.O f hh ho
  change (RV.rec (EH e rec f args s) (fun v s'=>.ok v s') (hh args s):RV)=.ok v s' at h
  cases hq:hh args s with
  | fail=>rw [hq] at h;exact Rv hG hE hA hs h
  | ok v1 s1=>
   rw [hq] at h
   obtain ⟨rfl,rfl⟩:=Ar h
   exact ⟨h1,fun m=>h2 γ args vals s w _ _ hA hs hq m⟩
 | none=>rw [ho] at h;exact Rv hG hE hA hs h
theorem Zq:∀ (ps:List Nat) (args:List AV) (vals:List Value) (tm:Array Value) (t:AT),All2 (VR γ) args vals→args.length=ps.length→(∀ p ∈ ps,p<tm.size)→TR γ t tm→
 TR γ (Jf ps args t) ((ps.zip vals).foldl (fun tmps (t,a)=>tmps.setIfInBounds t a) tm)∧((ps.zip vals).foldl (fun tmps (t,a)=>tmps.setIfInBounds t a) tm).size=tm.size:=by
 intro ps
 induction ps with
 | nil=>intro args vals tm t hA hl _ ht;exact ⟨ht,rfl⟩
 | cons p ps ih=>
  intro args vals tm t hA hl hp ht
  cases hA with
  | nil=>simp at hl
  | @cons x u xs us hx hr=>
   have:=ih xs us (tm.setIfInBounds p u) (t.set x p) hr (by simpa using hl) (fun q hq=>by simpa using hp q (by simp [hq])) (ht.set (hp p (by simp)) hx)
   simp only [List.zip_cons_cons,List.foldl_cons]
   refine ⟨this.1,this.2.trans (by simp)⟩
variable {lp:Loop}
theorem Iy (h:w.heap[b]?=some (.loop lp)):(Instr.getLoop b).run P w=.ok lp w:=by
 have h1:(getObj b).run P w=.ok (.loop lp) w:=by simp only [getObj,Sem.run];rw [h]
 simp only [Instr.getLoop,Zjp,h1,Zji,Zjv]
theorem Lt (o:Obj) (h:w.heap[b]?=some (.loop lp)):(setObj b o).run P w=.ok () { w with heap:=w.heap.setIfInBounds b o }:=by
 simp only [setObj,Sem.run];rw [h]
variable {L:Loc}
theorem LB (hs:Sim P γ s w) {fn d:Nat}{st st':LoopState}{pend pend':Option Nat}{pc':Option Code}{tm:AT}{ps:List Nat}{asg body:AC}
 (hg:s.get l=some (.loop st pend fn tm ps asg body d)) (hL:γ l=some L) (hlp:w.heap[L.b]?=some (.loop lp)) (hp:P9 pend' pc'):
 Stp γ s w γ (s.put l (.loop st' pend' fn tm ps asg body d)) { w with heap:=w.heap.setIfInBounds L.b (.loop { lp with state:=st',pending:=pc' }) }∧
 Sim P γ (s.put l (.loop st' pend' fn tm ps asg body d)) { w with heap:=w.heap.setIfInBounds L.b (.loop { lp with state:=st',pending:=pc' }) }:=by
 refine Kc hs hg hL rfl ?_
 obtain ⟨lp0,h1,h2,h3,h4,h5,h6,h7⟩:=hs.obj l _ L hg hL
 rw [hlp] at h1;cases h1
 have hlt:=hs.lt l L hL
 exact ⟨{ lp with state:=st',pending:=pc' },by rw [Zkt,Zjj rfl,Zjj hlt],rfl,hp,h4,h5,h6,h7⟩
theorem Wv (hG:De P n rec) (hL:γ l=some L) (hA:All2 (VR γ) args vals) (hs:Sim P γ s w) (h:GV rec l args s=.ok v s'):
 ∃ fn tm asg body,(Instr.yield L.b vals.toArray).run P w=.ok (.round L.b fn tm asg body) w∧∀ m,RoundIn Fence.wide m P L.b fn tm asg body w (DU P γ s w v s'):=by
 unfold GV at h
 obtain ⟨st,pend,fn,tm,ps,asg,body,d,hg,h⟩:=KE h
 obtain ⟨hlen,h⟩:=B9 h
 have hlen:=Zjl hlen
 rw [E7,E7] at hlen
 obtain ⟨lp,h1,h2,h3,h4,h5,⟨N,hN,hca,hcb,hps⟩,D,hD,hdf⟩:=hs.obj l _ L hg hL
 have hsz:vals.toArray.size=lp.params.size:=by
  have e1:=hA.length
  have e2:lp.params.toList.length=ps.length:=by rw [h5]
  simp at e2 ⊢;omega
 obtain ⟨hT,hTs⟩:=Zq ps args vals lp.tmps tm hA hlen (fun p hp=>Zk8 (hps p hp) hN) h4
 have hfold:(lp.params.zip vals.toArray).foldl (fun tmps (t,a)=>tmps.setIfInBounds t a) lp.tmps=(ps.zip vals).foldl (fun tmps (t,a)=>tmps.setIfInBounds t a) lp.tmps:=by
  rw [← Array.foldl_toList,Array.toList_zip,h5]
 refine ⟨lp.fn,(ps.zip vals).foldl (fun tmps (t,a)=>tmps.setIfInBounds t a) lp.tmps,lp.assign,lp.body,?_,fun m=>?_⟩
 ·simp only [Instr.yield,Zjp,Iy h1,Zji]
  rw [Zjn (by simpa using hsz)]
  simp only [Zjp,Zjv,Zji,hfold]
 ·unfold Ke at h
  obtain ⟨x,t1,s1,ds1,hrec,h⟩:=NB h
  refine roundIn_of_wpIn trivial ?_
  have hw:=(hG N lp.assign asg γ _ s w { tmps:=(ps.zip vals).foldl (fun tmps (t,a)=>tmps.setIfInBounds t a) lp.tmps,defers:=[] } (some l) (some L.b) [] x t1 s1 ds1 γ s w m hca (by rw [hTs];exact hN) hT hs ⟨L,hL,rfl⟩ .nil (.refl _ _ _) hrec).1
  refine wpIn_mono hw ?_
  rintro ex a1 w1 ⟨rfl,hN1,γ1,hst1,hs1,ht1,hd1⟩
  cases x with
  | exit id=>cases h
  | ret=>cases h
  | normal=>
   change (LP.rec .fail (fun st pend fn tm ps asg b d=>LoopState.rec (FY l (rec body t1 (s1.put l (.loop .busy pend fn tm ps asg b d)) (some l) ds1)) .fail .fail .fail st) (C0 l s1):RV)=.ok v s' at h
   obtain ⟨st1,pend1,fn1,tm1,ps1,asg1,body1,d1,hg1,h⟩:=KE h
   have hL1:=hst1.le.loc _ _ hL
   obtain ⟨lp1,k1,k2,k3,_⟩:=hs1.obj l _ L hg1 hL1
   cases st1 with
   | ready=>
    obtain ⟨hst2,hs2⟩:=LB (st':=.busy) (pend':=pend1) (pc':=lp1.pending) hs1 hg1 hL1 k1 k3
    refine ⟨{ w1 with heap:=w1.heap.setIfInBounds L.b (.loop { lp1 with state:=.busy,pending:=lp1.pending }) },?_,?_⟩
    rotate_left
    ·change FY l (rec body t1 (s1.put l (.loop .busy pend1 fn1 tm1 ps1 asg1 body1 d1)) (some l) ds1)=.ok v s' at h
     unfold FY at h
     obtain ⟨x2,t2,s2,ds2,hrec2,h⟩:=NB h
     have hw2:=(hG N lp.body body γ1 t1 _ _ a1 (some l) (some L.b) ds1 x2 t2 s2 ds2 γ s w m hcb hN1 ht1 hs2 ⟨L,hL,rfl⟩ hd1 (hst1.trans hst2) hrec2).1
     refine wpIn_mono hw2 ?_
     rintro ex2 a2 w2 ⟨rfl,_,γ2,hst3,hs3,ht3,_⟩
     have hL2:=hst3.le.loc _ _ hL
     have fin:∀ (st3:LoopState) (pend3:Option Nat) (b:Bool) (j:Option Code),P9 pend3 j→(st3=if j.isNone then .ready else .done)→b=j.isNone→Fa l st3 pend3 b s2=.ok v s'→
      ∃ v' w',(Instr.endRound L.b j).run P w2=.ok v' w'∧DU P γ s w v s' (.returned v') w':=by
      intro st3 pend3 b j hpj hstj hb hk
      unfold Fa at hk
      obtain ⟨st4,pend4,fn4,tm4,ps4,asg4,body4,d4,hg4,hk⟩:=KE hk
      obtain ⟨rfl,rfl⟩:=Ar hk
      obtain ⟨lp4,j1,_⟩:=hs3.obj l _ L hg4 hL2
      obtain ⟨hst5,hs5⟩:=LB (st':=st3) (pend':=pend3) (pc':=j) hs3 hg4 hL2 j1 hpj
      refine ⟨.bool b,_,?_,.bool b,γ2,rfl,hst3.trans hst5,hs5,.bool _⟩
      subst hb;subst hstj
      simp only [Instr.endRound,Zjp,Iy j1,Zji,Lt _ j1,Zjv]
     cases x2 with
     | normal=>exact fin .ready none true none rfl rfl rfl h
     | ret=>exact fin .done (some 0) false (some .ret) rfl rfl rfl h
     | exit id=>exact fin .done (some (id+1)) false (some (.exit id)) rfl rfl rfl h
    ·simp only [Instr.beginRound,Zjp,Iy k1,Zji,Lt _ k1,k2,Zjv]
   | busy=>cases h
   | done=>cases h
   | exhausted=>cases h
end
end Go.AM
namespace Go.AM
section
variable {P:Program}{γ:Gam}{s:St}{w:World}{t:AT}{e:Env}{rec:Rec}{n:Nat}
variable {b:Option Nat}{m:Nat}{f:FuncId}
theorem Ly {args:Array Value}{R:Ending→World→Prop}(h:CallsIn Fence.wide m P f args w R):CallsIn (BC b) m P f args w R:=by
 cases b with
 | none=>exact h
 | some b=>exact h
theorem Ww {l:Nat}{tm:Array Value}{asg body:Code}{R:Ending→World→Prop}(h:RoundIn Fence.wide m P l f tm asg body w R):RoundIn (BC b) m P l f tm asg body w R:=by
 cases b with
 | none=>exact h
 | some b=>exact h
variable {fv v:AV}{s':St}
theorem WF (hG:De P n rec) (hE:EnvOk P e) {fv':Value}{args:List AV}{vals:Array Value}(hf:VR γ fv fv') (hA:All2 (VR γ) args vals.toList) (hs:Sim P γ s w) (h:Em e rec fv args s=.ok v s'):
 ∃ d,(Deferred.ofValue fv' vals).run P w=.ok d w∧
  ((∃ f xs,(invoke d.target d.args).run P w=.ok (.enter f xs) w∧∀ m,CallsIn Fence.wide m P f xs w (DU P γ s w v s'))∨
   (∃ l fn tm asg body,(invoke d.target d.args).run P w=.ok (.round l fn tm asg body) w∧∀ m,RoundIn Fence.wide m P l fn tm asg body w (DU P γ s w v s'))):=by
 unfold Em at h
 cases hq:Ee fv with
 | no=>rw [hq] at h;cases h
 | fn f xs ys=>
  rw [hq] at h
  have:=TH hq;subst this
  change BW e rec f (AY xs (AY args ys)) s=.ok v s' at h
  rw [CJ,CJ] at h
  cases hf with
  | fn _ _ _ as bs h1 h2=>
   refine ⟨_,rfl,.inl ?_⟩
   obtain ⟨⟨fn,c,e1,e2,e3⟩,hc⟩:=Lz (vals:=as.toList++(vals.toList++bs.toList)) hG hE (h1.append (hA.append h2)) hs h
   have heq:(as.toList++(vals.toList++bs.toList)).toArray=as++vals++bs:=by simp [← List.append_assoc]
   rw [heq] at hc
   refine ⟨f,as++vals++bs,?_,hc⟩
   have h1' : fn.name ≠ "runtime.NumGoroutine" := by simpa using e3
   simp [invoke,callFunc,e1,h1',e2]
 | yld l=>
  rw [hq] at h
  have:=Zau hq;subst this
  cases hf with
  | yld _ L hL=>
   refine ⟨_,rfl,.inr ?_⟩
   obtain ⟨fn,tm,asg,body,hy,hr⟩:=Wv hG hL hA hs h
   refine ⟨L.b,fn,tm,asg,body,?_,hr⟩
   have heq:(#[]:Array Value)++vals=vals.toList.toArray:=by simp
   simp only [invoke,heq]
   exact hy
def Lc (P:Program) (γ:Gam) (s:St) (w:World) (o:Oper) (a:Act) (v:AV) (s':St) (K:Act→World→Prop):Prop:=
 ∀ γ' w' v',Stp γ s w γ' s' w'→Sim P γ' s' w'→(VR γ' v v'∨o.dst=none)→K (a.put o.dst v') w'
variable {args:Array Operand}{ts:Array TypeId}
theorem Rd {ρ:Operand→Value}{f:Operand}{ty:TypeId}:resolve ρ { callee:=.value f,args:=args,argTypes:=ts } ty=Deferred.ofValue (ρ f) (args.map ρ):=rfl
variable {o:Oper}{a:Act}{vs:List AV}{K:Act→World→Prop}{Q:Exit→Act→World→Prop}
theorem Se (hG:De P n rec) (hE:EnvOk P e) {f:Operand}
 (hop:o.op=.call { callee:=.value f,args:=args,argTypes:=ts }) (hf:VR γ fv (a.eval f)) (hA:All2 (VR γ) vs (args.toList.map a.eval)) (hs:Sim P γ s w) (h:Em e rec fv vs s=.ok v s') (hK:Lc P γ s w o a v s' K):
 o.wpIn (BC b) m P a w K Q:=by
 refine ⟨fun f _=>GX b f,?_⟩
 rw [Oper.semAt_eq _ _ _ (fun c hc=>by rw [hop] at hc;cases hc)]
 obtain ⟨d,hd,hh⟩:=WF (vals:=args.map a.eval) hG hE hf (by simpa using hA) hs h
 have hrun:∀ nx,(invoke d.target d.args).run P w=.ok nx w→(execOp a.eval o).run P w=.ok nx w:=by
  intro nx hnx
  simp only [execOp,hop,Zjp,Rd,hd,Zji,hnx]
 rcases hh with ⟨f',xs,hi,hc⟩|⟨l,fn,tm,asg,body,hi,hc⟩
 ·rw [hrun _ hi,Oper.uponIn_enter]
  refine ⟨JM b m,Ly (CallsIn.mono (hc _) ?_)⟩
  rintro _ w' ⟨v',γ',rfl,hst,hs',hv⟩
  exact hK γ' w' v' hst hs' (.inl hv)
 ·rw [hrun _ hi,Oper.uponIn_round]
  refine ⟨JM b m,Ww (RoundIn.mono (hc _) ?_)⟩
  rintro _ w' ⟨v',γ',rfl,hst,hs',hv⟩
  exact hK γ' w' v' hst hs' (.inl hv)
theorem ZL (hG:De P n rec) (hE:EnvOk P e) {r:Operand}{name:String}{k f:Nat}{u:AV}
 (hop:o.op=.call { callee:=.invoke r name,args:=args,argTypes:=ts }) (hr:VR γ (.iface k u) (a.eval r)) (hf:Jh P name k=some f) (hA:All2 (VR γ) vs (args.toList.map a.eval)) (hs:Sim P γ s w) (h:BW e rec f (u::vs) s=.ok v s') (hK:Lc P γ s w o a v s' K):
 o.wpIn (BC b) m P a w K Q:=by
 refine ⟨fun f _=>GX b f,?_⟩
 rw [Oper.semAt_eq _ _ _ (fun c hc=>by rw [hop] at hc;cases hc)]
 generalize hrv:a.eval r=rv at hr
 cases hr with
 | iface _ _ u' hu=>
  obtain ⟨⟨fn,c,e1,e2,e3⟩,hc⟩:=Lz (vals:=u'::args.toList.map a.eval) hG hE (.cons hu hA) hs h
  have hrun:(execOp a.eval o).run P w=.ok (.enter f (u'::args.toList.map a.eval).toArray) w:=by
   have h1' : fn.name ≠ "runtime.NumGoroutine" := by simpa using e3
   have hm:=WW (w:=w) (v:=u') hf
   have hx:(#[Value.iface k u']++Array.map a.eval args).extract 1 (#[Value.iface k u']++Array.map a.eval args).size=Array.map a.eval args:=by
    obtain ⟨l⟩:=args
    apply Array.ext'
    rw [Array.toList_extract,List.extract_eq_take_drop]
    simp
    rw [Zjo (by simp)]
   have hx2:#[u']++Array.map a.eval args=(u'::args.toList.map a.eval).toArray:=by
    obtain ⟨l⟩:=args
    simp
   have hg0:(#[Value.iface k u']++Array.map a.eval args)[0]?=some (.iface k u'):=by
    obtain ⟨l⟩:=args
    simp
   simp only [execOp,hop,resolve,hrv,Zjp,Zjv,Zji,invoke,hg0,hx,callMethod]
   simp [hm,hx2,callFunc,e1,h1',e2]
  rw [hrun,Oper.uponIn_enter]
  refine ⟨JM b m,Ly (CallsIn.mono (hc _) ?_)⟩
  rintro _ w' ⟨v',γ',rfl,hst,hs',hv⟩
  exact hK γ' w' v' hst hs' (.inl hv)
theorem NM (hd:∀ c,o.op≠.defer c) (h:OpOk P γ s w a.eval o v s') (hK:Lc P γ s w o a v s' K):
 o.wpIn (BC b) m P a w K Q:=by
 refine ⟨fun f _=>GX b f,?_⟩
 rw [Oper.semAt_eq _ _ _ hd]
 obtain ⟨γ',w',hst,hs',⟨v',hr,hv⟩|⟨hr,hn⟩⟩:=h
 ·rw [hr,Oper.uponIn_value];exact hK γ' w' v' hst hs' (.inl hv)
 ·rw [hr,Oper.uponIn_skip];exact hK γ' w' undef hst hs' (.inr hn)
variable {p:AOp}
theorem Rf (h:AF P o=some p):∀ c,o.op≠.defer c:=by
 intro c hc
 simp only [AF,hc] at h
 cases h
theorem W2 (hG:De P n rec) (hE:EnvOk P e) (hc:AF P o=some p)
 (he:Evs γ t a.eval o.op.operands.toList) (hs:Sim P γ s w) (h:AJ p e rec t s=.ok v s') (hK:Lc P γ s w o a v s' K):o.wpIn (BC b) m P a w K Q:=by
 have hnd:=Rf hc
 cases hp:Pq p with
 | false=>
  rcases Sz (w:=w) he hc hp h with ⟨_,hf⟩|⟨_,hf⟩
  ·exact NM hnd (hf.ok hs) hK
  ·exact NM hnd (hf hs) hK
 | true=>
  cases hop:o.op with
  | call c=>
   obtain ⟨cal,args,ts⟩:=c
   have hc':=hc
   simp only [AF,hop] at hc'
   rw [hop] at he
   cases cal with
   | value f=>
    have hef:Evs γ t a.eval [f]:=fun x hx=>he x (by simp [Op.operands,Call.operands] at hx ⊢;exact .inl hx)
    have hea:Evs γ t a.eval args.toList:=fun x hx=>he x (by simp [Op.operands,Call.operands] at hx ⊢;exact .inr hx)
    split at hc'
    ·rename_i f' hf'
     cases hf'
     obtain ⟨as,has,rfl⟩:=map_some hc'
     change (Option.rec .fail (fun vs=>Option.rec (BW e rec f' vs s) (fun h=>h vs s) (e.X.get f')) (BT t as):RV)=.ok v s' at h
     obtain ⟨vs,hvs,h⟩:=AH h
     cases hX:e.X.get f' with
     | some hh=>
     rw [hX] at h
     obtain ⟨v',γ',w',hr,hst,hsim,hv⟩:=hE.X f' hh hX γ vs (args.toList.map a.eval) s w v s' (HC has hvs hea) hs h
     refine NM hnd ⟨γ',w',hst,hsim,.inl ⟨v',?_,hv⟩⟩ hK
     simp only [execOp,hop,Zjp,Rd]
     have hvv:(List.map a.eval args.toList).toArray=Array.map a.eval args:=by obtain ⟨l⟩:=args;simp
     rw [hvv] at hr
     simpa [Act.eval,Deferred.ofValue,invoke] using hr
     | none=>
     rw [hX] at h
     refine Se hG hE hop (fv:=.fn f' [] []) (.fn _ _ _ _ _ .nil .nil) (HC has hvs hea) hs ?_ hK
     change BW e rec f' (AY [] (AY vs [])) s=.ok v s'
     rw [CJ,CJ];simpa using h
    ·rename_i g _ hg
     cases hg
     split at hc'
     ·rename_i x as hx has
      cases hc'
      obtain ⟨fv,hfv,h⟩:=A9 h
      obtain ⟨vs,hvs,h⟩:=AH h
      exact Se hG hE hop (hef f (by simp) x fv hx hfv) (HC has hvs hea) hs h hK
     ·cases hc'
    ·rename_i hq;cases hq
    ·rename_i hq;cases hq
   | builtin bi=>
    exfalso
    simp only at hc'
    unfold Lx at hc'
    repeat' split at hc'
    all_goals first
     | (cases hc';done)
     | (obtain ⟨_,_,rfl⟩:=map_some hc';cases hp;done)
     | (cases hc';cases hp;done)
   | invoke r mth=>
    have her:Evs γ t a.eval [r]:=fun x hx=>he x (by simp [Op.operands,Call.operands] at hx ⊢;exact .inl hx)
    have hea:Evs γ t a.eval args.toList:=fun x hx=>he x (by simp [Op.operands,Call.operands] at hx ⊢;exact .inr hx)
    simp only at hc'
    split at hc'
    ·rename_i x as hx has
     cases hc'
     obtain ⟨xv,hxv,h⟩:=A9 h
     obtain ⟨vs,hvs,h⟩:=AH h
     obtain ⟨k,u,rfl,h⟩:=PG h
     obtain ⟨f,hf,h⟩:=AH h
     exact ZL hG hE hop (her r (by simp) x _ hx hxv) (WB hf) (HC has hvs hea) hs h hK
    ·cases hc'
  | makeFunc f as bs=>
   exfalso
   have hc':=hc
   cases f with
   | func f=>
    simp only [AF,hop] at hc'
    split at hc'
    ·cases hc';cases hp
    ·cases hc'
   | _=>simp only [AF,hop] at hc';cases hc'
  | makeMap ty r=>
   exfalso
   have hc':=hc
   cases r with
   | none=>simp only [AF,hop] at hc';cases hc';cases hp
   | some r=>simp only [AF,hop] at hc';cases hc'
  | next x str=>
   exfalso
   have hc':=hc
   cases str with
   | true=>simp only [AF,hop] at hc';cases hc'
   | false=>
    simp only [AF,hop] at hc'
    obtain ⟨_,_,rfl⟩:=map_some hc';cases hp
  | typeAssert x xt ty ok=>
   exfalso
   have hc':=hc
   cases ok with
   | false=>simp only [AF,hop] at hc';cases hc'
   | true=>
    simp only [AF,hop] at hc'
    repeat' split at hc'
    all_goals first
     | (cases hc';done)
     | (cases hc';cases hp;done)
  | _=>
   exfalso
   have hc':=hc
   simp only [AF,hop] at hc'
   repeat' split at hc'
   all_goals first
    | (cases hc';done)
    | (obtain ⟨_,_,rfl⟩:=map_some hc';cases hp;done)
    | (cases hc';cases hp;done)
theorem NO (hG:De P n rec) (hE:EnvOk P e) (hc:GY P o=some p)
 (he:Evs γ t a.eval o.op.operands.toList) (hs:Sim P γ s w) (h:AJ p e rec t s=.ok v s') (hK:Lc P γ s w o a v s' K):o.wpIn (BC b) m P a w K Q:=by
 rcases Rl hc with hc|rfl
 ·exact W2 hG hE hc he hs h hK
 ·cases h
end
end Go.AM
namespace Go.AM
section
variable {P:Program}{γ:Gam}{s:St}{w:World}{t:AT}{e:Env}{rec:Rec}{n:Nat}
variable {x:Ex}{t':AT}{s':St}{ds':List Nat}
theorem PU {k:AT→St→R}{r:RT}(h:(RT.rec .fail k r:R)=.ok x t' s' ds'):∃ t1 s1,r=.ok t1 s1∧k t1 s1=.ok x t' s' ds':=by
 cases r with
 | fail=>cases h
 | ok t1 s1=>exact ⟨t1,s1,rfl,h⟩
theorem Jn {k:Ex→AT→St→List Nat→R}{r:R}(h:(R.rec .fail k r:R)=.ok x t' s' ds'):∃ x1 t1 s1 ds1,r=.ok x1 t1 s1 ds1∧k x1 t1 s1 ds1=.ok x t' s' ds':=by
 cases r with
 | fail=>cases h
 | ok x1 t1 s1 ds1=>exact ⟨x1,t1,s1,ds1,rfl,h⟩
theorem Vc {k:AV→St→R}{r:RV}(h:(RV.rec .fail k r:R)=.ok x t' s' ds'):∃ v s1,r=.ok v s1∧k v s1=.ok x t' s' ds':=by
 cases r with
 | fail=>cases h
 | ok v s1=>exact ⟨v,s1,rfl,h⟩
theorem MF {k:AV→R}{r:OV}(h:(OV.rec .fail k r:R)=.ok x t' s' ds'):∃ v,r=.some v∧k v=.ok x t' s' ds':=by
 cases r with
 | none=>cases h
 | some v=>exact ⟨v,rfl,h⟩
variable {l:Nat}
theorem M4 {k:LoopState→Option Nat→Nat→AT→List Nat→AC→AC→Nat→R}(h:(LP.rec .fail k (C0 l s):R)=.ok x t' s' ds'):
 ∃ st pend fn tm ps asg body d,s.get l=some (.loop st pend fn tm ps asg body d)∧k st pend fn tm ps asg body d=.ok x t' s' ds':=by
 unfold C0 at h
 cases hg:s.get l with
 | none=>rw [hg] at h;cases h
 | some o=>
  rw [hg] at h
  cases o with
  | loop st pend fn tm ps asg body d=>exact ⟨st,pend,fn,tm,ps,asg,body,d,rfl,h⟩
  | _=>cases h
theorem RK {d:Nat}{p:AOp}{g:Option (Nat×Bool)}{l:List AOper}(h:A8 e rec (.mk d p g::l) t s=.ok t' s'):
 (AL g t=1∧A8 e rec l (B5 d (.tup []) t) s=.ok t' s')∨(AL g t=2∧∃ v s1,AJ p e rec t s=.ok v s1∧A8 e rec l (B5 d v t) s1=.ok t' s'):=by
 change (Nat.rec .fail (fun w _=>Nat.rec (A8 e rec l (B5 d (.tup []) t) s) (fun _ _=>RV.rec .fail (fun v s'=>A8 e rec l (B5 d v t) s') (AJ p e rec t s)) w) (AL g t):RT)=.ok t' s' at h
 have hw:AL g t=0∨AL g t=1∨AL g t=2:=by
  cases g with
  | none=>exact .inr (.inr rfl)
  | some q=>
   obtain ⟨j,b⟩:=q
   show (Option.rec 0 (fun v=>BR.rec (Bool.rec 1 0 (Br v)) (Bool.rec 1 2 b) (Bool.rec 2 1 b) (asBool v)) (t.get j):Nat)=0∨(Option.rec 0 (fun v=>BR.rec (Bool.rec 1 0 (Br v)) (Bool.rec 1 2 b) (Bool.rec 2 1 b) (asBool v)) (t.get j):Nat)=1∨(Option.rec 0 (fun v=>BR.rec (Bool.rec 1 0 (Br v)) (Bool.rec 1 2 b) (Bool.rec 2 1 b) (asBool v)) (t.get j):Nat)=2
   cases t.get j with
   | none=>exact .inl rfl
   | some v=>
    show (BR.rec (Bool.rec 1 0 (Br v)) (Bool.rec 1 2 b) (Bool.rec 2 1 b) (asBool v):Nat)=0∨(BR.rec (Bool.rec 1 0 (Br v)) (Bool.rec 1 2 b) (Bool.rec 2 1 b) (asBool v):Nat)=1∨(BR.rec (Bool.rec 1 0 (Br v)) (Bool.rec 1 2 b) (Bool.rec 2 1 b) (asBool v):Nat)=2
    cases asBool v <;> cases b <;> cases Br v <;> simp
 rcases hw with hw|hw|hw
 ·rw [hw] at h;cases h
 ·rw [hw] at h;exact .inl ⟨hw,h⟩
 ·rw [hw] at h
  change (RV.rec .fail (fun v s'=>A8 e rec l (B5 d v t) s') (AJ p e rec t s):RT)=.ok t' s' at h
  cases ho:AJ p e rec t s with
  | fail=>rw [ho] at h;cases h
  | ok v s1=>rw [ho] at h;exact .inr ⟨hw,v,s1,rfl,h⟩
variable {N m:Nat}{b:Option Nat}{γ0:Gam}{s0:St}{w0:World}{ds:List Nat}
theorem Xh (hG:De P n rec) (hE:EnvOk P e) {ops:Array Oper}:∀ (l:List Oper) (al:List AOper) (γ:Gam) (t:AT) (s:St) (w:World) (a:Act),
 FW P N ops l=some al→N≤a.tmps.size→TR γ t a.tmps→Sim P γ s w→DR γ ds a.defers→Stp γ0 s0 w0 γ s w→A8 e rec al t s=.ok t' s'→
 wpListIn (BC b) m P ops (CE P γ0 s0 w0 N .normal t' s' ds) l a w:=by
 intro l
 induction l with
 | nil=>
  intro al γ t s w a hc hN ht hs hd hst h
  cases hc;cases h
  exact ⟨rfl,hN,γ,hst,hs,ht,hd⟩
 | cons o l ih=>
  intro al γ t s w a hc hN ht hs hd hst h
  simp only [FW] at hc
  split at hc
  ·rename_i d p g r h1 h2 h3 h4
   cases hc
   obtain ⟨hw2,hw1⟩:=Wg ht h3
   simp only [wpListIn]
   rcases RK h with ⟨hw,h⟩|⟨hw,v,s1,hop,h⟩
   ·rw [Zjn (by rw [hw1 hw];simp)]
    refine ⟨fun f _=>GX b f,?_⟩
    exact ih r γ _ s w _ h4 (by rw [LI];exact hN) (ht.put hN h1 (.inl Sr)) hs (by rw [L3];exact hd) hst h
   ·rw [Zjj (hw2 hw)]
    refine NO hG hE h2 (Sn ht _) hs hop ?_
    intro γ' w' v' hst' hs' hv
    exact ih r γ' _ s1 w' _ h4 (by rw [LI];exact hN) ((ht.mono hst'.le).put hN h1 hv) hs' (by rw [L3];exact hd.mono hst'.le) (hst.trans hst') h
  ·cases hc
def SP (P:Program) (e:Env) (rec:Rec):Prop:=
 ∀ (N:Nat) (id:Nat) (ops:Array Oper) (al:List AOper) (γ:Gam) (t:AT) (s:St) (w:World) (a:Act) (b:Option Nat) (ds:List Nat) (t':AT) (s':St) (γ0:Gam) (s0:St) (w0:World) (m:Nat),
  GI P N ops=some al→N≤a.tmps.size→TR γ t a.tmps→Sim P γ s w→DR γ ds a.defers→Stp γ0 s0 w0 γ s w→A8 e rec al t s=.ok t' s'→
  (Code.region id ops true).wpIn (BC b) m P (CE P γ0 s0 w0 N .normal t' s' ds) a w
theorem Wo (hG:De P n rec) (hE:EnvOk P e) {fv:AV}{fv':Value}{args:List AV}{vals:Array Value}{v:AV}(hf:VR γ fv fv') (hA:All2 (VR γ) args vals.toList) (hs:Sim P γ s w) (h:IZ e rec fv args s=.ok v s'):
 ∃ d,(Deferred.ofValue fv' vals).run P w=.ok d w∧∃ f xs,(invoke d.target d.args).run P w=.ok (.enter f xs) w∧∀ m,CallsIn Fence.wide m P f xs w (DU P γ s w v s'):=by
 unfold IZ at h
 cases hq:Ee fv with
 | no=>rw [hq] at h;cases h
 | yld l=>rw [hq] at h;cases h
 | fn f xs ys=>
  rw [hq] at h
  have:=TH hq;subst this
  change BW e rec f (AY xs (AY args ys)) s=.ok v s' at h
  rw [CJ,CJ] at h
  cases hf with
  | fn _ _ _ as bs h1 h2=>
   refine ⟨_,rfl,?_⟩
   obtain ⟨⟨fn,c,e1,e2,e3⟩,hc⟩:=Lz (vals:=as.toList++(vals.toList++bs.toList)) hG hE (h1.append (hA.append h2)) hs h
   have heq:(as.toList++(vals.toList++bs.toList)).toArray=as++vals++bs:=by simp [← List.append_assoc]
   rw [heq] at hc
   refine ⟨f,as++vals++bs,?_,hc⟩
   have h1' : fn.name ≠ "runtime.NumGoroutine" := by simpa using e3
   simp [invoke,callFunc,e1,h1',e2]
variable {a:Act}
theorem Zbq {L:Loc}{v':Value}(hN:N≤a.tmps.size) (ht:TR γ t a.tmps) (hs:Sim P γ s w) (hL:γ l=some L) (hd:DR γ ds a.defers) (hst:Stp γ0 s0 w0 γ s w)
 (h:HL l ds t s=.ok x t' s' ds'):rangePost (BC b) m P L.b (CE P γ0 s0 w0 N x t' s' ds') a (.returned v') w:=by
 unfold HL at h
 obtain ⟨st,pend,fn,tm,ps,asg,body,d,hg,h⟩:=M4 h
 obtain ⟨lp,k1,k2,k3,_⟩:=hs.obj l _ L hg hL
 have hend:st≠.busy→(Instr.endLoop L.b).run P w=.ok lp.pending { w with heap:=w.heap.setIfInBounds L.b (.loop { lp with state:=.exhausted,pending:=lp.pending }) }:=by
  intro hb
  have:(lp.state == LoopState.busy)=false:=by rw [k2];cases st <;> first|rfl|exact absurd rfl hb
  simp only [Instr.endLoop,Zjp,Iy k1,Zji,this]
  simp only [Bool.false_eq_true,if_false,Zjp,Zjv,Zji,Lt _ k1]
 obtain ⟨hst2,hs2⟩:=LB (st':=.exhausted) (pend':=pend) (pc':=lp.pending) hs hg hL k1 k3
 have fin:st≠.busy→IC l fn tm ps asg body d pend ds t s=.ok x t' s' ds'→rangePost (BC b) m P L.b (CE P γ0 s0 w0 N x t' s' ds') a (.returned v') w:=by
  intro hb hk
  refine ⟨_,_,hend hb,?_⟩
  have hpost:CE P γ0 s0 w0 N x t (s.put l (.loop .exhausted pend fn tm ps asg body d)) ds (KT x) a { w with heap:=w.heap.setIfInBounds L.b (.loop { lp with state:=.exhausted,pending:=lp.pending }) }:=
   ⟨rfl,hN,γ,hst.trans hst2,hs2,ht,hd⟩
  cases pend with
  | none=>
   cases hk
   rw [show lp.pending=none from k3] at hpost ⊢
   exact hpost
  | some i=>
   cases i with
   | zero=>
    cases hk
    rw [show lp.pending=some .ret from k3] at hpost ⊢
    exact wpIn_ret hpost
   | succ id=>
    cases hk
    rw [show lp.pending=some (.exit id) from k3] at hpost ⊢
    exact wpIn_exit hpost
 cases st with
 | ready=>exact fin (by simp) h
 | busy=>cases h
 | done=>exact fin (by simp) h
 | exhausted=>exact fin (by simp) h
theorem Ya (hG:De P n rec) (hE:EnvOk P e) {rd:Option Nat}{g:Operand}{ga:AO}{ps:Array Tmp}{asg body:Code}{aa ab:AC}
 (hg:Ag g=some ga) (hca:AU P N asg=some aa) (hcb:AU P N body=some ab) (hps:∀ p ∈ ps.toList,p<N) (hN:N≤a.tmps.size) (ht:TR γ t a.tmps) (hs:Sim P γ s w) (hrd:RD γ rd b) (hd:DR γ ds a.defers) (hst:Stp γ0 s0 w0 γ s w)
 (h:PY ga ps.toList aa ab e rec t s rd ds=.ok x t' s' ds'):(Code.rangeFunc g ps asg body).wpIn (BC b) m P (CE P γ0 s0 w0 N x t' s' ds') a w:=by
 refine wpIn_rangeFunc fun fn _=>?_
 unfold PY at h
 obtain ⟨gv,hgv,h⟩:=MF h
 have hgR:=MC ht hg hgv
 -- the record Vz,the call,the end
 have go:∀ (γ1:Gam) (s1:St) (w1:World) (d:Nat) (D:Loc) (ds1:List Nat) (mark:List Deferred),Stp γ0 s0 w0 γ1 s1 w1→Sim P γ1 s1 w1→Le γ γ1→γ1 d=some D→DR γ1 ds1 (mark++a.defers)→
  Fh e rec gv ps.toList aa ab t d ds1 s1=.ok x t' s' ds'→
  (Instr.enterLoop fn a.tmps ps asg body (BC b).round).run P w=.ok (w1.heap.size,mark) (w1.alloc (.loop { state:=.ready,pending:=none,fn:=fn,tmps:=a.tmps,params:=ps,assign:=asg,body:=body,defers:=D.b }))→
  ∃ (l:Nat) (mark:List Deferred) (w₁:World) (d:Deferred) (w₁':World) (f:FuncId) (args:Array Value) (w₂:World),
  (Instr.enterLoop fn a.tmps ps asg body (BC b).round).run P w=.ok (l,mark) w₁∧
  (resolve a.eval (rangeCall g l) 0).run P w₁=.ok d w₁'∧
  (∀ f',Target.leads P w₁' d.target d.args=some f'→(BC b).fn f')∧
  (invoke d.target d.args).run P w₁'=.ok (.enter f args) w₂∧
  ((BC b).depth.isSome=true→1≤m)∧
  CallsIn (BC b) (m-1) P f args w₂ (rangePost (BC b) m P l (CE P γ0 s0 w0 N x t' s' ds') { a with defers:=mark++a.defers }):=by
  intro γ1 s1 w1 d D ds1 mark hst1 hs1 hle hdD hdr hgo henter
  unfold Fh at hgo
  obtain ⟨v,s2,hcall,hgo⟩:=Vc hgo
  obtain ⟨hst2,hs2⟩:=hs1.alloc (.loop .ready none 0 t ps.toList aa ab d) (.loop { state:=.ready,pending:=none,fn:=fn,tmps:=a.tmps,params:=ps,assign:=asg,body:=body,defers:=D.b }) 0 0
   ⟨{ state:=.ready,pending:=none,fn:=fn,tmps:=a.tmps,params:=ps,assign:=asg,body:=body,defers:=D.b },by show (w1.heap.push _)[w1.heap.size]?=_;simp,rfl,rfl,(ht.mono hle).mono (EE (hs1.nx _ (Zj0 _))),rfl,⟨N,hN,hca,hcb,hps⟩,D,(EE (hs1.nx _ (Zj0 _))).loc _ _ hdD,rfl⟩
  obtain ⟨df,hdf,f,xs,hinv,hc⟩:=Wo (vals:=#[.func (.yield w1.heap.size) #[] #[]]) hG hE ((hgR.mono hle).mono hst2.le) (.cons (.yld _ _ (Bv _ _ _)) .nil) hs2 hcall
  refine ⟨w1.heap.size,mark,_,df,_,f,xs,_,henter,?_,fun f' _=>GX b f',hinv,JM b m,Ly (CallsIn.mono (hc _) ?_)⟩
  ·have hmap:(#[Operand.const (.func (.yield w1.heap.size) #[] #[])]:Array Operand).map a.eval=#[.func (.yield w1.heap.size) #[] #[]]:=by simp [Act.eval]
   show (Deferred.ofValue (a.eval g) ((#[Operand.const (.func (.yield w1.heap.size) #[] #[])]:Array Operand).map a.eval)).run P _=_
   rw [hmap];exact hdf
  ·rintro _ w3 ⟨v',γ3,rfl,hst3,hs3,_⟩
   exact Zbq (L:=⟨w1.heap.size,0,0,0⟩) (a:={ a with defers:=mark++a.defers }) hN (((ht.mono hle).mono hst2.le).mono hst3.le) hs3 (hst3.le.loc _ _ (Bv _ _ _)) ((hdr.mono hst2.le).mono hst3.le) ((hst1.trans hst2).trans hst3) hgo
 cases rd with
 | none=>
  cases hrd
  obtain ⟨hst1,hs1⟩:=hs.alloc .defd (.deferred (some [])) 0 0 (by show (w.heap.push _)[w.heap.size]?=_;simp)
  refine go _ _ _ s.next ⟨w.heap.size,0,0,0⟩ _ [{ target:=.collected w.heap.size,args:=#[] }] (hst.trans hst1) hs1 hst1.le (Bv _ _ _) (.cons ⟨_,Bv _ _ _,rfl⟩ (hd.mono hst1.le)) h ?_
  rw [Oc]
  simp only [Instr.enterLoop,Zjp,GG,Zji,Zjv]
 | some l=>
  obtain ⟨L,hL,rfl⟩:=hrd
  obtain ⟨st,pend,fn0,tm,ps0,asg0,body0,d,hgl,h⟩:=M4 h
  obtain ⟨lp,k1,_,_,_,_,_,D,hD,hDf⟩:=hs.obj l _ L hgl hL
  refine go γ s w d D ds [] hst hs (Le.refl γ) hD (by simpa using hd) h ?_
  rw [Oc]
  simp only [Instr.enterLoop,Zjp,Iy k1,GG,Zji,Zjv,hDf]
theorem SV {x1:Ex}{t1:AT}{s1:St}{ds1:List Nat}{y:R}(hk:(Ex.rec y (fun id=>.ok (.exit id) t1 s1 ds1) (.ok .ret t1 s1 ds1) x1:R)=.ok x t' s' ds') {K:Act→World→Prop}
 (hK:∀ γ1 a1 w1,y=.ok x t' s' ds'→N≤a1.tmps.size→TR γ1 t1 a1.tmps→Sim P γ1 s1 w1→DR γ1 ds1 a1.defers→Stp γ0 s0 w0 γ1 s1 w1→K a1 w1):
 ∀ ex a1 w1,CE P γ0 s0 w0 N x1 t1 s1 ds1 ex a1 w1→Exit.then K (CE P γ0 s0 w0 N x t' s' ds') ex a1 w1:=by
 rintro ex a1 w1 ⟨rfl,q1,γ1,q2,q3,q4,q5⟩
 cases x1 with
 | normal=>exact hK γ1 a1 w1 hk q1 q4 q3 q5 q2
 | exit id=>cases hk;exact ⟨rfl,q1,γ1,q2,q3,q4,q5⟩
 | ret=>cases hk;exact ⟨rfl,q1,γ1,q2,q3,q4,q5⟩
variable {k:List Item}{cs:List Frame}{c:Code}
theorem Ix {b:Frame}:
 step P (lone (b.atR a (.code (.scope c)::k)) cs w)=.next (lone (b.atR a (.code c::.inScope c::k)) cs w):=
 step_lone_go (by simp [stepG,stepG.exec,Frame.atR])
theorem VY {b:Frame}:
 step P (lone (b.atR a (.inScope c::k)) cs w)=.next (lone (b.atR a k) cs w):=
 step_lone_go (by simp [stepG,stepG.exec,Frame.atR])
theorem Ro {F:Fence}{Q:Exit→Act→World→Prop}(hg:∀ l a w,¬ Q (.goto l) a w) (h:c.wpIn F m P Q a w):(Code.scope c).wpIn F m P Q a w:=by
 intro b k cs hro hb hr
 have h0:(lone (b.atR a (.code (.scope c)::k)) cs w).fenced P F:=fenced_calm hb hr rfl
 obtain ⟨e,a₁,w₁,hq,harr⟩:=h b (.inScope c::k) cs hro hb hr
 cases e with
 | normal=>exact ⟨.normal,a₁,w₁,hq,.head h0 Ix (StepsIn.trans harr (.one (fenced_calm hb hr rfl) VY))⟩
 | exit id=>
  have hx:exitTo id (.inScope c::k)=exitTo id k:=by simp [exitTo]
  exact ⟨.exit id,a₁,w₁,hq,fun k' hk=>.head h0 Ix (harr.1 k' (by rw [hx];exact hk)),
   fun hr' hk=>let ⟨k₁,h1,h2⟩:=harr.2 hr' (by rw [hx];exact hk);⟨k₁,h1,.head h0 Ix h2⟩⟩
 | goto l=>exact absurd hq (hg l _ _)
 | ret=>exact ⟨_,a₁,w₁,hq,.of_steps (.one h0 Ix) harr⟩
 | panic ch=>exact ⟨_,a₁,w₁,hq,.of_steps (.one h0 Ix) harr⟩
 | outgrown=>exact ⟨_,a₁,w₁,hq,.of_steps (.one h0 Ix) harr⟩
theorem Xr (hE:EnvOk P e) (hD:∀ n rec,De P n rec→SP P e rec):∀ n,De P n (exec e n):=by
 intro n
 induction n with
 | zero=>intro N c ac γ t s w a rd b ds x t' s' ds' γ0 s0 w0 m _ _ _ _ _ _ _ h;cases h
 | succ n ih=>
  intro N c ac γ t s w a rd b ds x t' s' ds' γ0 s0 w0 m hc hN ht hs hrd hd hst h
  change acF ac e (exec e n) t s rd ds=.ok x t' s' ds' at h
  cases c with
  | skip=>
   cases hc;cases h
   exact ⟨wpIn_skip ⟨rfl,hN,γ,hst,hs,ht,hd⟩,fun c' hc'=>by cases hc'⟩
  | ret=>
   cases hc;cases h
   exact ⟨wpIn_ret ⟨rfl,hN,γ,hst,hs,ht,hd⟩,fun c' hc'=>by cases hc'⟩
  | label l=>
   cases hc;cases h
   exact ⟨wpIn_label ⟨rfl,hN,γ,hst,hs,ht,hd⟩,fun c' hc'=>by cases hc'⟩
  | scope c1=>
   refine ⟨?_,fun c' hc'=>by cases hc'⟩
   obtain ⟨a1,h1,rfl⟩:=map_some (show (AU P N c1).map AC.scope=some ac from hc)
   refine Ro (fun l a w hp=>?_) (ih N c1 a1 γ t s w a rd b ds x t' s' ds' γ0 s0 w0 m h1 hN ht hs hrd hd hst h).1
   cases x <;> exact absurd hp.1 (by simp [KT])
  | exit id=>
   cases hc;cases h
   exact ⟨wpIn_exit ⟨rfl,hN,γ,hst,hs,ht,hd⟩,fun c' hc'=>by cases hc'⟩
  | region id ops dr=>
   refine ⟨?_,fun c' hc'=>by cases hc'⟩
   cases dr with
   | false=>
    obtain ⟨al,hal,rfl⟩:=map_some (show (FW P N ops ops.toList).map AC.reg=some ac from hc)
    obtain ⟨t1,s1,hops,hk⟩:=PU (show (RT.rec .fail (fun t' s'=>.ok .normal t' s' ds) (A8 e (exec e n) al t s):R)=.ok x t' s' ds' from h)
    cases hk
    exact wpIn_region_list (Xh ih hE ops.toList al γ t s w a hal hN ht hs hd hst hops)
   | true=>
    have hc':some (((GI P N ops).map AC.reg).getD KX)=some ac:=hc
    cases hal:GI P N ops with
    | none=>rw [hal] at hc';cases hc';cases h
    | some al=>
    rw [hal] at hc';cases hc'
    obtain ⟨t1,s1,hops,hk⟩:=PU (show (RT.rec .fail (fun t' s'=>.ok .normal t' s' ds) (A8 e (exec e n) al t s):R)=.ok x t' s' ds' from h)
    cases hk
    exact hD n _ ih N id ops al γ t s w a b ds t' s' γ0 s0 w0 m hal hN ht hs hd hst hops
  | seq c1 c2=>
   refine ⟨?_,fun c' hc'=>by cases hc'⟩
   simp only [AU] at hc
   split at hc
   ·rename_i a1 a2 h1 h2
    cases hc
    obtain ⟨x1,t1,s1,ds1,hr,hk⟩:=Jn (show (R.rec .fail (fun x t s ds=>Ex.rec (exec e n a2 t s rd ds) (fun id=>.ok (.exit id) t s ds) (.ok .ret t s ds) x) (exec e n a1 t s rd ds):R)=.ok x t' s' ds' from h)
    refine wpIn_seq (wpIn_mono (ih N c1 a1 γ t s w a rd b ds x1 t1 s1 ds1 γ0 s0 w0 m h1 hN ht hs hrd hd hst hr).1 (SV hk ?_))
    intro γ1 a1' w1 hy q1 q2 q3 q4 q5
    exact (ih N c2 a2 γ1 t1 s1 w1 a1' rd b ds1 x t' s' ds' γ0 s0 w0 m h2 q1 q2 q3 hrd q4 q5 hy).1
   ·cases hc
  | cond x0 c1 c2=>
   refine ⟨?_,fun c' hc'=>by cases hc'⟩
   simp only [AU] at hc
   split at hc
   ·rename_i y a1 a2 h0 h1 h2
    cases hc
    obtain ⟨v,hv,hk⟩:=MF (show (OV.rec .fail (fun v=>BR.rec .fail (exec e n a1 t s rd ds) (exec e n a2 t s rd ds) (asBool v)) (ev y t):R)=.ok x t' s' ds' from h)
    have hR:=MC ht h0 hv
    cases hb:asBool v with
    | no=>rw [hb] at hk;cases hk
    | tt=>
     rw [hb] at hk
     rw [JO hb] at hR
     exact wpIn_cond_true (FG hR) (ih N c1 a1 γ t s w a rd b ds x t' s' ds' γ0 s0 w0 m h1 hN ht hs hrd hd hst hk).1
    | ff=>
     rw [hb] at hk
     rw [LD hb] at hR
     exact wpIn_cond_false (FG hR) (ih N c2 a2 γ t s w a rd b ds x t' s' ds' γ0 s0 w0 m h2 hN ht hs hrd hd hst hk).1
   ·cases hc
  | block id c1=>
   refine ⟨?_,fun c' hc'=>by cases hc'⟩
   obtain ⟨a1,h1,rfl⟩:=map_some (show (AU P N c1).map (AC.block id)=some ac from hc)
   obtain ⟨x1,t1,s1,ds1,hr,hk⟩:=Jn (show (R.rec .fail (fun x t s ds=>Ex.rec (.ok .normal t s ds) (fun id'=>Bool.rec (.ok (.exit id') t s ds) (.ok .normal t s ds) (Nat.beq id id')) (.ok .ret t s ds) x) (exec e n a1 t s rd ds):R)=.ok x t' s' ds' from h)
   refine wpIn_block (wpIn_mono (ih N c1 a1 γ t s w a rd b ds x1 t1 s1 ds1 γ0 s0 w0 m h1 hN ht hs hrd hd hst hr).1 ?_)
   rintro ex a1' w1 ⟨rfl,q1,γ1,q2,q3,q4,q5⟩
   cases x1 with
   | normal=>cases hk;exact ⟨rfl,q1,γ1,q2,q3,q4,q5⟩
   | ret=>cases hk;exact ⟨rfl,q1,γ1,q2,q3,q4,q5⟩
   | exit id'=>
    show if id'=id then _ else _
    cases hb:Nat.beq id id' with
    | true=>
     have hid:=Zjl hb
     change (Bool.rec (.ok (.exit id') t1 s1 ds1) (.ok .normal t1 s1 ds1) (Nat.beq id id'):R)=_ at hk
     rw [hb] at hk;cases hk
     rw [Zjj hid.symm];exact ⟨rfl,q1,γ1,q2,q3,q4,q5⟩
    | false=>
     have hid:=Zkk hb
     change (Bool.rec (.ok (.exit id') t1 s1 ds1) (.ok .normal t1 s1 ds1) (Nat.beq id id'):R)=_ at hk
     rw [hb] at hk;cases hk
     rw [Zjn (fun e=>hid e.symm)];exact ⟨rfl,q1,γ1,q2,q3,q4,q5⟩
  | loop c1=>
   have key:Code.roundsIn (BC b) m P c1 (CE P γ0 s0 w0 N x t' s' ds') (n+1) a w:=by
    obtain ⟨a1,h1,rfl⟩:=map_some (show (AU P N c1).map AC.loop=some ac from hc)
    obtain ⟨x1,t1,s1,ds1,hr,hk⟩:=Jn (show (R.rec .fail (fun x t s ds=>Ex.rec (exec e n (.loop a1) t s rd ds) (fun id=>.ok (.exit id) t s ds) (.ok .ret t s ds) x) (exec e n a1 t s rd ds):R)=.ok x t' s' ds' from h)
    rw [roundsIn_succ]
    refine wpIn_mono (ih N c1 a1 γ t s w a rd b ds x1 t1 s1 ds1 γ0 s0 w0 m h1 hN ht hs hrd hd hst hr).1 (SV hk ?_)
    intro γ1 a1' w1 hy q1 q2 q3 q4 q5
    exact (ih N (.loop c1) (.loop a1) γ1 t1 s1 w1 a1' rd b ds1 x t' s' ds' γ0 s0 w0 m hc q1 q2 q3 hrd q4 q5 hy).2 c1 rfl
   exact ⟨wpIn_loop_rounds _ key,fun c' hc'=>by cases hc';exact key⟩
  | rangeFunc f ps asg body=>
   refine ⟨?_,fun c' hc'=>by cases hc'⟩
   simp only [AU] at hc
   split at hc
   ·rename_i y a1 a2 h0 h1 h2
    split at hc
    ·rename_i hps
     cases hc
     refine Ya ih hE h0 h1 h2 (fun p hp=>?_) hN ht hs (hrd.mono hst.le) hd hst h
     have:=Zld.1 hps p hp
     simpa using this
    ·cases hc
   ·cases hc
  | _=>cases hc;cases h
end
end Go.AM
namespace Go.AM
section
variable {A:St→St→Prop}{t:AT}
def Pu (A:St→St→Prop) (k:St→RV):Prop:=∀ s v s1,k s=.ok v s1→s1=s∧∀ s2,A s s2→k s2=.ok v s2
theorem Pu.fail:Pu A (fun _=>.fail):=fun s v s1 h=>by cases h
theorem Pu.ok (v:AV):Pu A (fun s=>.ok v s):=fun s u s1 h=>by cases h;exact ⟨rfl,fun _ _=>rfl⟩
theorem Pu.ret (x:OV):Pu A (fun s=>ret x s):=fun s u s1 h=>by
 cases x with
 | none=>cases h
 | some v=>cases h;exact ⟨rfl,fun _ _=>rfl⟩
theorem Pu.retO (x:Option AV):Pu A (fun s=>retO x s):=fun s u s1 h=>by
 cases x with
 | none=>cases h
 | some v=>cases h;exact ⟨rfl,fun _ _=>rfl⟩
variable {k:St→RV}
theorem Ea (b:Bool) (h:Pu A k):Pu A (fun s=>gd b (k s)):=by cases b with|true=>exact h|false=>exact .fail
variable {l:St→RV}
theorem Pu.bool (b:Bool) (h:Pu A k) (h':Pu A l):Pu A (fun s=>Bool.rec (k s) (l s) b):=by cases b with|true=>exact h'|false=>exact h
theorem Pu.wth (x:AO) {k:AV→St→RV}(h:∀ a,Pu A (k a)):Pu A (fun s=>wth x t (fun a=>k a s)):=by
 unfold AM.wth
 cases ev x t with
 | none=>exact .fail
 | some v=>exact h v
theorem C2 {α:Type}(x:Option α) {k:α→St→RV}(h':Pu A l) (h:∀ a,Pu A (k a)):Pu A (fun s=>Option.rec (l s) (fun a=>k a s) x):=by cases x with|none=>exact h'|some a=>exact h a
theorem Pu.pr (x:PR) {k:Nat→Nat→St→RV}{kf:List AV→St→RV}(h:∀ a b,Pu A (k a b)) (hf:∀ l,Pu A (kf l)):Pu A (fun s=>PR.rec .fail (fun a b=>k a b s) (fun l=>kf l s) x):=by cases x with|no=>exact .fail|ptr a b=>exact h a b|fp l=>exact hf l
theorem Zjc (x:IR) {k:IntKind→Int→St→RV}(h:∀ a b,Pu A (k a b)):Pu A (fun s=>IR.rec .fail (fun a b=>k a b s) x):=by cases x with|no=>exact .fail|int a b=>exact h a b
theorem Zjd (x:BR) (h:Pu A k) (h':Pu A l):Pu A (fun s=>BR.rec .fail (k s) (l s) x):=by cases x with|no=>exact .fail|tt=>exact h|ff=>exact h'
theorem KK (x:SR) {k:Nat→Nat→Nat→Option Nat→St→RV}{m:St→RV}{kf:Nat→Option Nat→List AV→St→RV}(h:∀ a b c d,Pu A (k a b c d)) (h1:Pu A l) (h2:Pu A m) (hf:∀ a b c,Pu A (kf a b c)):Pu A (fun s=>SR.rec .fail (fun a b c d=>k a b c d s) (l s) (m s) (fun a b c=>kf a b c s) x):=by
 cases x with|no=>exact .fail|sl a b c d=>exact h a b c d|nils=>exact h1|es=>exact h2|fz a b c=>exact hf a b c
theorem If (x:LR) {k:List AV→St→RV}(h:∀ a,Pu A (k a)):Pu A (fun s=>LR.rec .fail (fun a=>k a s) x):=by cases x with|no=>exact .fail|l a=>exact h a
theorem Zjb (x:XR) {k:Nat→AV→St→RV}(h:∀ a b,Pu A (k a b)):Pu A (fun s=>XR.rec .fail (fun a b=>k a b s) x):=by cases x with|no=>exact .fail|x a b=>exact h a b
theorem CO (x:NR) {k:Nat→St→RV}(h:∀ a,Pu A (k a)):Pu A (fun s=>NR.rec .fail (fun a=>k a s) x):=by cases x with|no=>exact .fail|n a=>exact h a
theorem Vd (x:MR) {k:Nat→St→RV}(h:∀ a,Pu A (k a)) (h':Pu A l):Pu A (fun s=>MR.rec .fail (fun a=>k a s) (l s) x):=by cases x with|no=>exact .fail|m a=>exact h a|nil=>exact h'
theorem Zhy {α:Type}(x:List α) {k:α→List α→St→RV}(h:∀ a b,Pu A (k a b)):Pu A (fun s=>List.rec .fail (fun a b _=>k a b s) x):=by cases x with|nil=>exact .fail|cons a b=>exact h a b
theorem Zbl (es r o n:Nat) (cap:Option Nat) (l h:Nat):Pu A (PX es r o n cap l h):=
 C2 cap (Ea _ (Pu.bool _ (.ok _) (.ok _))) (fun c=>Ea _ (.ok _))
theorem Zbk (es r o n:Nat) (cap:Option Nat) (l h m:Nat):Pu A (Vp es r o n cap l h m):=Ea _ (.ok _)
theorem Zbj (es n:Nat) (cap:Option Nat) (cs:List AV) (l h:Nat):Pu A (KN es n cap cs l h):=Ea _ (Pu.bool _ (.ok _) (C2 _ .fail fun _=>.ok _))
theorem Zp (es n:Nat) (cs:List AV) (l h m:Nat):Pu A (Uy es n cs l h m):=Ea _ (Pu.bool _ (.ok _) (C2 _ .fail fun _=>.ok _))
def Po (p:AOp):Bool:=!Hf p && !Gg p && !ED p
variable {e:Env}{rec:Rec}{p:AOp}
theorem Tf (hp:Po p=true):Pu A (AJ p e rec t):=by
 cases p with
 | mv x=>exact Pu.wth x fun a=>.ok a
 | pick c a b=>exact Pu.wth c fun _=>Zjd _ (.ret _) (.ret _)
 | build z ps=>exact C2 _ .fail fun cs=>.ok _
 | nilck x=>exact Pu.wth x fun a=>Pu.bool _ (.ok _) .fail
 | bin op x y=>exact Pu.wth x fun a=>Pu.wth y fun b=>.ret _
 | eqb kd neg x y=>exact Pu.wth x fun a=>Pu.wth y fun b=>C2 _ .fail fun c=>.ok _
 | eqf ks neg x y=>exact Pu.wth x fun a=>Pu.wth y fun b=>If _ fun a=>If _ fun b=>C2 _ .fail fun c=>.ok _
 | un op x=>exact Pu.wth x fun a=>.ret _
 | cvi k x=>exact Pu.wth x fun a=>Zjc _ fun _ n=>.ok _
 | mkfn f a b=>exact C2 _ .fail fun x=>C2 _ .fail fun y=>.ok _
 | slc es x lo hi mx=>
  exact Pu.wth x fun a=>KK _
   (fun r o n cap=>CO _ fun l=>CO _ fun h=>C2 mx (Zbl _ _ _ _ _ _ _) fun m=>CO _ fun m=>Zbk _ _ _ _ _ _ _ _)
   (CO _ fun l=>CO _ fun h=>CO _ fun m=>Ea _ (.ok _)) (CO _ fun l=>CO _ fun h=>CO _ fun m=>Ea _ (.ok _))
   (fun n cap cs=>CO _ fun l=>CO _ fun h=>C2 mx (Zbj _ _ _ _ _ _) fun m=>CO _ fun m=>Zp _ _ _ _ _ _)
 | sla es n x lo hi mx=>exact Pu.wth x fun a=>Pu.pr _ (fun r o=>CO _ fun l=>CO _ fun h=>CO _ fun m=>Ea _ (.ok _)) (fun _=>.fail)
 | fa off x=>exact Pu.wth x fun a=>Pu.pr _ (fun r o=>.ok _) (fun _=>.ok _)
 | fld1 off x=>exact Pu.wth x fun a=>If _ fun l=>.retO _
 | fldn off n x=>exact Pu.wth x fun a=>If _ fun l=>C2 _ .fail fun cs=>.ok _
 | ixs es x i=>exact Pu.wth x fun a=>Pu.wth i fun i=>CO _ fun i=>KK _ (fun r o n _=>Ea _ (.ok _)) .fail .fail (fun _ _ _=>Ea _ (.ok _))
 | ixa n es x i=>exact Pu.wth x fun a=>Pu.wth i fun i=>CO _ fun i=>Pu.pr _ (fun r o=>Ea _ (.ok _)) (fun _=>Ea _ (.ok _))
 | ixv n x i=>exact Pu.wth x fun a=>Pu.wth i fun i=>CO _ fun i=>If _ fun l=>Ea _ (.retO _)
 | ixvn n es x i=>exact Pu.wth x fun a=>Pu.wth i fun i=>CO _ fun i=>If _ fun l=>Ea _ (C2 _ .fail fun cs=>.ok _)
 | mki ty x=>exact Pu.wth x fun a=>.ok _
 | tas ty z x=>exact Pu.wth x fun a=>Zjb _ fun _ _=>.ok _
 | ext x i=>exact Pu.wth x fun a=>If _ fun l=>.retO _
 | len x=>exact Pu.wth x fun a=>KK _ (fun _ _ n _=>.ok _) (.ok _) (.ok _) (fun _ _ _=>.ok _)
 | alen n=>exact .ok _
 | mn m xs=>exact C2 _ .fail fun l=>Zhy l fun x l=>.ret _
 | capo x=>exact Pu.wth x fun a=>KK _ (fun _ _ _ cap=>C2 cap .fail fun c=>.ok _) .fail .fail (fun _ cap _=>C2 cap .fail fun c=>.ok _)
 | bad=>exact .fail
 | _=>cases hp
def Grows (s s2:St):Prop:=∀ r x,s.get r=some x→s2.get r=some x
theorem Rr {s s2:St}(h:Grows s s2) {r e:Nat}{cs:List AV}(hr:CN r s=.row e cs):CN r s2=.row e cs:=by
 have:=h r _ (JE hr)
 unfold CN;rw [this];rfl
theorem Pu.load1 (r o:Nat):Pu Grows (fun s=>AM.retO (AM.load1 r o s) s):=by
 intro s v s1 h
 obtain ⟨h1,h2⟩:=ID h
 subst h2
 refine ⟨rfl,fun s2 hg=>?_⟩
 have hl2:AM.load1 r o s2=some v:=by
  unfold AM.load1 at h1 ⊢
  cases hr:CN r s with
  | no=>rw [hr] at h1;cases h1
  | row e cs=>rw [hr] at h1;rw [Rr hg hr];exact h1
 show AM.retO (AM.load1 r o s2) s2=_
 rw [hl2];rfl
theorem Pu.load (r o n:Nat) {k:List AV→St→RV}(hk:∀ cs,Pu Grows (k cs)):Pu Grows (fun s=>Option.rec .fail (fun cs=>k cs s) (AM.load r o n s)):=by
 intro s v s1 h
 obtain ⟨cs,hl,h⟩:=AH h
 obtain ⟨e1,hk'⟩:=hk cs s v s1 h
 subst e1
 refine ⟨rfl,fun s2 hg=>?_⟩
 have hl2:AM.load r o n s2=some cs:=by
  unfold AM.load at hl ⊢
  cases hr:CN r s1 with
  | no=>rw [hr] at hl;cases hl
  | row e rs=>rw [hr] at hl;rw [Rr hg hr];exact hl
 show (Option.rec .fail (fun cs=>k cs s2) (AM.load r o n s2):RV)=_
 rw [hl2];exact hk' s2 hg
theorem Pu.mapAt (r:Nat) {k:List (AV×AV×Nat)×Nat→St→RV}(hk:∀ m,Pu Grows (k m)):Pu Grows (fun s=>Option.rec .fail (fun m=>k m s) (AM.mapAt r s)):=by
 intro s v s1 h
 obtain ⟨m,hl,h⟩:=AH h
 obtain ⟨e1,hk'⟩:=hk m s v s1 h
 subst e1
 refine ⟨rfl,fun s2 hg=>?_⟩
 have hl2:AM.mapAt r s2=some m:=by
  obtain ⟨es,c⟩:=m
  have:=hg r _ (G8 hl)
  unfold AM.mapAt;rw [this]
 show (Option.rec .fail (fun m=>k m s2) (AM.mapAt r s2):RV)=_
 rw [hl2];exact hk' s2 hg
theorem S3 (z:AV) (ok:Bool) (f:Option AV):Pu A (PC z ok f):=C2 f (.ok _) fun v=>.ok _
theorem OG (hp:Gg p=true):Pu Grows (AJ p e rec t):=by
 cases p with
 | ld1 x=>exact Pu.wth x fun a=>Pu.pr _ (fun r o=>Pu.load1 r o) (fun _=>.retO _)
 | ldn n x=>exact Pu.wth x fun a=>Pu.pr _ (fun r o=>Pu.load r o n fun cs=>.ok _) (fun _=>C2 _ .fail fun _=>.ok _)
 | b2s x=>exact Pu.wth x fun a=>KK _ (fun r o n _=>Pu.load r o n fun cs=>C2 _ .fail fun l=>.ok _) (.ok _) (.ok _) (fun _ _ _=>C2 _ .fail fun _=>C2 _ .fail fun _=>.ok _)
 | lenm x=>exact Pu.wth x fun a=>Vd _ (fun r=>Pu.mapAt r fun m=>.ok _) (.ok _)
 | mget z ok m k=>exact Pu.wth m fun m=>Pu.wth k fun k=>Vd _ (fun r=>Pu.mapAt r fun mp=>C2 _ .fail fun f=>S3 _ _ _) (S3 _ _ _)
 | _=>cases hp
theorem Zaa:∀ {a b:List Nat},Ev a b=true→a=b:=by
 intro a
 induction a with
 | nil=>intro b h;cases b with|nil=>rfl|cons y b=>cases h
 | cons x a ih=>
  intro b h
  cases b with
  | nil=>cases h
  | cons y b=>
   change (Bool.rec false (Ev a b) (Nat.beq x y):Bool)=true at h
   cases hb:Nat.beq x y with
   | false=>rw [hb] at h;cases h
   | true=>rw [hb] at h;rw [Zjl hb,ih h]
theorem Fc {a b:Bool}(h:(Bool.rec false b a:Bool)=true):a=true∧b=true:=by cases a with|false=>cases h|true=>exact ⟨rfl,h⟩
theorem Zda {a b:Int}(h:Dj a b=true):a=b:=by
 cases a with
 | ofNat a=>cases b with
  | ofNat b=>rw [Zjl (show Nat.beq a b=true from h)]
  | negSucc b=>cases h
 | negSucc a=>cases b with
  | ofNat b=>cases h
  | negSucc b=>rw [Zjl (show Nat.beq a b=true from h)]
theorem Zc9 {a b:IntKind}(h:BU a b=true):a=b:=by cases a <;> cases b <;> first|rfl|cases h
theorem Ys {α:Type}{l:List α}(h:Pp l=true):l=[]:=by cases l with|nil=>rfl|cons=>cases h
theorem T2 {a b:Option Nat}(h:Gw a b=true):a=b:=by
 cases a with
 | none=>cases b with|none=>rfl|some y=>cases h
 | some x=>cases b with|none=>cases h|some y=>rw [Zjl (show Nat.beq x y=true from h)]
theorem Sb:∀ a:List Nat,Ev a a=true
 | []=>rfl
 | x::a=>by show (Bool.rec false (Ev a a) (Nat.beq x x):Bool)=true;rw [Zk2];exact Sb a
theorem Zac (a:Int):Dj a a=true:=by cases a with|ofNat a=>exact Zk2 a|negSucc a=>exact Zk2 a
theorem Zab (a:IntKind):BU a a=true:=by cases a <;> rfl
theorem Sa (a:Option Nat):Gw a a=true:=by cases a with|none=>rfl|some a=>exact Zk2 a
mutual
theorem Py:∀ (a:AV) {b:AV},Iv a b=true→a=b
 | .bool x,b,h=>by cases b <;> first|(cases h;done)|skip
                   rename_i y;cases x <;> cases y <;> first|rfl|cases h
 | .int k n,b,h=>by cases b <;> first|(cases h;done)|skip
                    rename_i k' n'
                    obtain ⟨h1,h2⟩:=Fc (show (Bool.rec false (Dj n n') (BU k k'):Bool)=true from h)
                    rw [Zc9 h1,Zda h2]
 | .str l,b,h=>by cases b <;> first|(cases h;done)|skip
                  rw [Zaa h]
 | .ptr r o,b,h=>by cases b <;> first|(cases h;done)|skip
                    obtain ⟨h1,h2⟩:=Fc h
                    rw [Zjl h1,Zjl h2]
 | .nilp,b,h=>by cases b <;> first|rfl|cases h
 | .sl r o n c,b,h=>by cases b <;> first|(cases h;done)|skip
                       obtain ⟨h1,h⟩:=Fc h
                       obtain ⟨h2,h⟩:=Fc h
                       obtain ⟨h3,h4⟩:=Fc h
                       rw [Zjl h1,Zjl h2,Zjl h3,T2 h4]
 | .nils,b,h=>by cases b <;> first|rfl|cases h
 | .es,b,h=>by cases b <;> first|rfl|cases h
 | .ez,b,h=>by cases b <;> first|rfl|cases h
 | .map r,b,h=>by cases b <;> first|(cases h;done)|skip
                  rw [Zjl h]
 | .nilm,b,h=>by cases b <;> first|rfl|cases h
 | .fn f x y,b,h=>by cases b <;> first|(cases h;done)|skip
                     rename_i f' x' y'
                     obtain ⟨h1,h⟩:=Fc (show (Bool.rec false (Bool.rec false (Ew y y') (Ew x x')) (Nat.beq f f'):Bool)=true from h)
                     obtain ⟨h2,h3⟩:=Fc h
                     rw [Zjl h1,HH x h2,HH y h3]
 | .yld l,b,h=>by cases b <;> first|(cases h;done)|skip
                  rw [Zjl h]
 | .nilf,b,h=>by cases b <;> first|rfl|cases h
 | .iface t v,b,h=>by cases b <;> first|(cases h;done)|skip
                      rename_i t' v'
                      obtain ⟨h1,h2⟩:=Fc (show (Bool.rec false (Iv v v') (Nat.beq t t'):Bool)=true from h)
                      rw [Zjl h1,Py v h2]
 | .nili,b,h=>by cases b <;> first|rfl|cases h
 | .agg l,b,h=>by cases b <;> first|(cases h;done)|skip
                  rename_i l';rw [HH l (show Ew l l'=true from h)]
 | .tup l,b,h=>by cases b <;> first|(cases h;done)|skip
                  rename_i l';rw [HH l (show Ew l l'=true from h)]
 | .any,b,h=>by cases b <;> first|rfl|cases h
 | .fz n c l,b,h=>by cases b <;> first|(cases h;done)|skip
                     rename_i n' c' l'
                     obtain ⟨h1,h⟩:=Fc (show (Bool.rec false (Bool.rec false (Ew l l') (Gw c c')) (Nat.beq n n'):Bool)=true from h)
                     obtain ⟨h2,h3⟩:=Fc h
                     rw [Zjl h1,T2 h2,HH l h3]
 | .fp l,b,h=>by cases b <;> first|(cases h;done)|skip
                 rename_i l';rw [HH l (show Ew l l'=true from h)]
theorem HH:∀ (a:List AV) {b:List AV},Ew a b=true→a=b
 | [],b,h=>(Ys h).symm
 | x::a,b,h=>by
  cases b with
  | nil=>cases h
  | cons y b=>
   obtain ⟨h1,h2⟩:=Fc (show (Bool.rec false (Ew a b) (Iv x y):Bool)=true from h)
   rw [Py x h1,HH a h2]
end
theorem Zfs {a b:AV}(h:BG a b=true):a=b:=Py a h
mutual
theorem Oz:∀ (a:AV),Iv a a=true
 | .bool x=>by cases x <;> rfl
 | .int k n=>by show (Bool.rec false (Dj n n) (BU k k):Bool)=true;rw [Zab];exact Zac n
 | .str l=>Sb l
 | .ptr r o=>by show (Bool.rec false (Nat.beq o o) (Nat.beq r r):Bool)=true;rw [Zk2 r];exact Zk2 o
 | .nilp=>rfl
 | .sl r o n c=>by show (Bool.rec false (Bool.rec false (Bool.rec false (Gw c c) (Nat.beq n n)) (Nat.beq o o)) (Nat.beq r r):Bool)=true;rw [Zk2 r,Zk2 o,Zk2 n];exact Sa c
 | .nils=>rfl
 | .es=>rfl
 | .ez=>rfl
 | .map r=>Zk2 r
 | .nilm=>rfl
 | .fn f x y=>by show (Bool.rec false (Bool.rec false (Ew y y) (Ew x x)) (Nat.beq f f):Bool)=true;rw [Zk2,H6 x];exact H6 y
 | .yld l=>Zk2 l
 | .nilf=>rfl
 | .iface t v=>by show (Bool.rec false (Iv v v) (Nat.beq t t):Bool)=true;rw [Zk2];exact Oz v
 | .nili=>rfl
 | .agg l=>H6 l
 | .tup l=>H6 l
 | .any=>rfl
 | .fz n c l=>by show (Bool.rec false (Bool.rec false (Ew l l) (Gw c c)) (Nat.beq n n):Bool)=true;rw [Zk2,Sa];exact H6 l
 | .fp l=>H6 l
theorem H6:∀ (a:List AV),Ew a a=true
 | []=>rfl
 | x::a=>by show (Bool.rec false (Ew a a) (Iv x x):Bool)=true;rw [Oz x];exact H6 a
end
end
end Go.AM
namespace Go.AM
section
variable {P:Program}{N:Nat}
variable {ops:Array Oper}
theorem Wf:∀ {l:List Oper}{cs:List AOper},FW P N ops l=some cs→cs.length=l.length∧∀ (i:Nat) (o:Oper),l[i]?=some o→
 ∃ d p g,cs[i]?=some (.mk d p g)∧DV N o.dst=some d∧GY P o=some p∧F3 ops N o.guard=some g:=by
 intro l
 induction l with
 | nil=>intro cs h;cases h;exact ⟨rfl,fun i o h=>by simp at h⟩
 | cons o l ih=>
  intro cs h
  simp only [FW] at h
  split at h
  ·rename_i d p g r h1 h2 h3 h4
   cases h
   obtain ⟨hl,hr⟩:=ih h4
   refine ⟨by simp [hl],fun i o' hi=>?_⟩
   cases i with
   | zero=>simp at hi;subst hi;exact ⟨d,p,g,by simp,h1,h2,h3⟩
   | succ i=>simpa using hr i o' (by simpa using hi)
  ·cases h
variable {cs:List AOper}
theorem W5:∀ {its:List It}{al:List AOper},Mc cs its=some al→al.length=its.length∧∀ (q:Nat) (x:It),its[q]?=some x→∃ a,al[q]?=some a∧IP cs x=some a:=by
 intro its
 induction its with
 | nil=>intro al h;cases h;exact ⟨rfl,fun q x h=>by simp at h⟩
 | cons y its ih=>
  intro al h
  simp only [Mc] at h
  split at h
  ·rename_i a r h1 h2
   cases h
   obtain ⟨hl,hr⟩:=ih h2
   refine ⟨by simp [hl],fun q x hq=>?_⟩
   cases q with
   | zero=>simp at hq;subst hq;exact ⟨a,by simp,h1⟩
   | succ q=>simpa using hr q x (by simpa using hq)
  ·cases h
theorem WE:∀ (l:List Oper) (acc:List Nat),∃ r,B4 l acc=acc++r∧r.length=l.length:=by
 intro l
 induction l with
 | nil=>intro acc;exact ⟨[],by simp [B4],rfl⟩
 | cons o l ih=>
  intro acc
  obtain ⟨r,h1,h2⟩:=ih (acc++[Fb acc o.after.toList])
  exact ⟨Fb acc o.after.toList::r,by simp [B4,h1],by simp [h2]⟩
theorem WD:∀ (l:List Oper) (acc:List Nat) (i:Nat) (o:Oper),l[i]?=some o→∃ pre,pre.length=acc.length+i∧(∀ k,k<acc.length+i→(B4 l acc).getD k 0=pre.getD k 0)∧(B4 l acc).getD (acc.length+i) 0=Fb pre o.after.toList:=by
 intro l
 induction l with
 | nil=>intro acc i o h;simp at h
 | cons o0 l ih=>
  intro acc i o h
  cases i with
  | zero=>
   simp at h;subst h
   obtain ⟨r,h1,h2⟩:=WE l (acc++[Fb acc o0.after.toList])
   refine ⟨acc,by simp,?_,?_⟩
   ·intro k hk
    simp only [B4,h1]
    rw [List.append_assoc,Zj8,Zjz (by omega),Zj8]
   ·simp only [B4,h1]
    rw [List.append_assoc,Zj8,Zka (by omega)]
    simp
  | succ i=>
   obtain ⟨pre,h1,h2,h3⟩:=ih (acc++[Fb acc o0.after.toList]) i o (by simpa using h)
   simp only [Zjt,Zj9,List.length_nil] at h1 h2 h3
   refine ⟨pre,by omega,fun k hk=>?_,?_⟩
   ·simp only [B4];exact h2 k (by omega)
   ·simp only [B4];rw [show acc.length+(i+1)=acc.length+1+i by omega];exact h3
variable {j:Nat}
theorem Wm {acc:List Nat}:∀ {l:List Edge},(Fb acc l).testBit j=true→∃ e ∈ l,Region.binds .any e=true∧(j=e.on∨(acc.getD e.on 0).testBit j=true):=by
 intro l
 induction l with
 | nil=>intro h;simp [Fb] at h
 | cons e l ih=>
  intro h
  simp only [Fb] at h
  split at h
  ·rename_i hb
   rw [Nat.testBit_or,Nat.testBit_or,Zk5,Zk5] at h
   rcases h with (h|h)|h
   ·rw [Nat.testBit_two_pow] at h
    exact ⟨e,by simp,hb,.inl (Zkw h).symm⟩
   ·exact ⟨e,by simp,hb,.inr h⟩
   ·obtain ⟨e',h1,h2,h3⟩:=ih h;exact ⟨e',by simp [h1],h2,h3⟩
  ·obtain ⟨e',h1,h2,h3⟩:=ih h;exact ⟨e',by simp [h1],h2,h3⟩
variable {i:Nat}
theorem Rx {o:Oper}(ho:ops[i]?=some o) (h:((B4 ops.toList []).getD i 0).testBit j=true):
 ∃ e ∈ o.after.toList,Region.binds .any e=true∧(j=e.on∨(e.on<i∧((B4 ops.toList []).getD e.on 0).testBit j=true)):=by
 obtain ⟨pre,h1,h2,h3⟩:=WD ops.toList [] i o (by simpa using ho)
 simp only [List.length_nil,Zju] at h1 h2 h3
 rw [h3] at h
 obtain ⟨e,he,hb,hj⟩:=Wm h
 refine ⟨e,he,hb,?_⟩
 rcases hj with hj|hj
 ·exact .inl hj
 ·by_cases hlt:e.on<i
  ·rw [← h2 e.on hlt] at hj;exact .inr ⟨hlt,hj⟩
  ·rw [Zj8,Zlg (by omega)] at hj;simp at hj
theorem R8:∀ {l:List Oper}{k:Nat},Gj l k=true→∀ (i:Nat) (o:Oper),l[i]?=some o→∀ e ∈ o.after.toList,Region.binds .any e=true→e.on<k+i:=by
 intro l
 induction l with
 | nil=>intro k _ i o h;simp at h
 | cons o0 l ih=>
  intro k h i o ho e he hb
  simp only [Gj,Zjh] at h
  cases i with
  | zero=>
   simp at ho;subst ho
   have:=Zld.1 h.1 e he
   simpa [hb] using this
  | succ i=>have:=ih h.2 i o (by simpa using ho) e he hb;omega
theorem Si (hback:Gj ops.toList 0=true):∀ (i j:Nat),i<ops.size→((B4 ops.toList []).getD i 0).testBit j=true→j<i:=by
 intro i
 induction i using Nat.strongRecOn with
 | _ i ih=>
  intro j hi h
  obtain ⟨o,ho⟩:∃ o,ops[i]?=some o:=⟨ops[i],by simp [hi]⟩
  obtain ⟨e,he,hb,hj⟩:=Rx ho h
  have hlt:=R8 hback i o (by simpa using ho) e he hb
  rcases hj with rfl|⟨h1,h2⟩
  ·omega
  ·have:=ih e.on (by omega) j (by omega) h2;omega
def Jc (ops:Array Oper) (D:Nat→Prop):Prop:=∀ i o,ops[i]?=some o→D i→∀ e ∈ o.after.toList,Region.binds .any e=true→D e.on
variable {D:Nat→Prop}
theorem Rg (hback:Gj ops.toList 0=true) (hD:Jc ops D):∀ (i:Nat) (o:Oper),ops[i]?=some o→(∀ e ∈ o.after.toList,Region.binds .any e=true→D e.on)→∀ j,((B4 ops.toList []).getD i 0).testBit j=true→D j:=by
 intro i
 induction i using Nat.strongRecOn with
 | _ i ih=>
  intro o ho hr j h
  obtain ⟨e,he,hb,hj⟩:=Rx ho h
  have hde:=hr e he hb
  rcases hj with rfl|⟨h1,h2⟩
  ·exact hde
  ·have hi:i<ops.size:=(Zkj.1 ho).1
   have hlt:e.on<ops.size:=by omega
   obtain ⟨o',ho'⟩:∃ o',ops[e.on]?=some o':=⟨ops[e.on],by simp [hlt]⟩
   exact ih e.on h1 o' ho' (hD e.on o' ho' hde) j h2
theorem Sd (hback:Gj ops.toList 0=true) (hD:Jc ops D) (hi:i<ops.size) (hd:D i) (h:((B4 ops.toList []).getD i 0).testBit j=true):D j:=by
 obtain ⟨o,ho⟩:∃ o,ops[i]?=some o:=⟨ops[i],by simp [hi]⟩
 exact Rg hback hD i o ho (hD i o ho hd) j h
variable {bf:List Nat}
theorem Wz {ds:List (Option Nat)}{rs:List (List Nat)}:∀ {its:List It},Ki bf cs ds rs its=true→
 (∀ (q:Nat) j,its[q]?=some (.op j)→Ph ds rs j=true)∧∀ (q' q:Nat) j i,q'<q→its[q']?=some (.op j)→its[q]?=some (.op i)→Pk bf cs ds rs j i=true:=by
 intro its
 induction its with
 | nil=>intro _;exact ⟨fun q j h=>by simp at h,fun q' q j i _ h=>by simp at h⟩
 | cons x its ih=>
  intro h
  cases x with
  | chk k=>
   obtain ⟨h1,h2⟩:=ih h
   refine ⟨fun q j hq=>?_,fun q' q j i hlt hq' hq=>?_⟩
   ·cases q with
    | zero=>simp at hq
    | succ q=>exact h1 q j (by simpa using hq)
   ·cases q' with
    | zero=>simp at hq'
    | succ q'=>
     cases q with
     | zero=>omega
     | succ q=>exact h2 q' q j i (by omega) (by simpa using hq') (by simpa using hq)
  | op k=>
   simp only [Ki,Zjh] at h
   obtain ⟨h1,h2⟩:=ih h.2
   refine ⟨fun q j hq=>?_,fun q' q j i hlt hq' hq=>?_⟩
   ·cases q with
    | zero=>simp at hq;subst hq;exact h.1.1
    | succ q=>exact h1 q j (by simpa using hq)
   ·cases q with
    | zero=>omega
    | succ q=>
     cases q' with
     | zero=>
      simp at hq';subst hq'
      exact Zld.1 h.1.2 (.op i) (Zj1 (by simpa using hq))
     | succ q'=>exact h2 q' q j i (by omega) (by simpa using hq') (by simpa using hq)
theorem Yw:∀ {its:List It},KG i its=true→∃ q:Nat,its[q]?=some (.op i):=by
 intro its
 induction its with
 | nil=>intro h;cases h
 | cons x its ih=>
  intro h
  cases x with
  | op j=>
   simp only [KG,Zk5] at h
   rcases h with h|h
   ·exact ⟨0,by simp at h;simp [h]⟩
   ·obtain ⟨q,hq⟩:=ih h;exact ⟨q+1,by simpa using hq⟩
  | chk j=>obtain ⟨q,hq⟩:=ih h;exact ⟨q+1,by simpa using hq⟩
theorem WS:∀ {l:List It},HK cs i l=true→∃ c:Nat,l[c]?=some (.chk i)∧∀ k j,k<c→l[k]?=some (.op j)→BA cs j=false:=by
 intro l
 induction l with
 | nil=>intro h;cases h
 | cons x l ih=>
  intro h
  cases x with
  | chk j=>
   simp only [HK,Zk5] at h
   rcases h with h|h
   ·exact ⟨0,by simp at h;simp [h],fun k j hk=>by omega⟩
   ·obtain ⟨c,h1,h2⟩:=ih h
    refine ⟨c+1,by simpa using h1,fun k j' hk hj=>?_⟩
    cases k with
    | zero=>simp at hj
    | succ k=>exact h2 k j' (by omega) (by simpa using hj)
  | op j=>
   simp only [HK,Zjh] at h
   obtain ⟨c,h1,h2⟩:=ih h.2
   refine ⟨c+1,by simpa using h1,fun k j' hk hj=>?_⟩
   cases k with
   | zero=>simp at hj;subst hj;simpa [BA] using h.1
   | succ k=>exact h2 k j' (by omega) (by simpa using hj)
theorem Xv:∀ {l:List It},HR bf cs i l=true→∀ (q j:Nat),l[q]?=some (.op j)→BA cs j=true→(bf.getD j 0).testBit i=false→∃ c:Nat,q<c∧l[c]?=some (.chk i)∧∀ k j',q<k→k<c→l[k]?=some (.op j')→BA cs j'=false:=by
 intro l
 induction l with
 | nil=>intro _ q j h;simp at h
 | cons x l ih=>
  intro h q j hq he hb
  cases x with
  | chk k=>
   cases q with
   | zero=>simp at hq
   | succ q=>
    obtain ⟨c,h1,h2,h3⟩:=ih h q j (by simpa using hq) he hb
    refine ⟨c+1,by omega,by simpa using h2,fun k j' hk hk' hj=>?_⟩
    cases k with
    | zero=>omega
    | succ k=>exact h3 k j' (by omega) (by omega) (by simpa using hj)
  | op k=>
   simp only [HR,Zjh] at h
   cases q with
   | zero=>
    simp at hq;subst hq
    have h1:(!BA cs k || (bf.getD k 0).testBit i || HK cs i l)=true:=h.1
    rw [he,hb] at h1
    obtain ⟨c,c1,c2⟩:=WS (by simpa using h1)
    refine ⟨c+1,by omega,by simpa using c1,fun m j' hm hm' hj=>?_⟩
    cases m with
    | zero=>omega
    | succ m=>exact c2 m j' (by omega) (by simpa using hj)
   | succ q=>
    obtain ⟨c,h1,h2,h3⟩:=ih h.2 q j (by simpa using hq) he hb
    refine ⟨c+1,by omega,by simpa using h2,fun k j' hk hk' hj=>?_⟩
    cases k with
    | zero=>omega
    | succ k=>exact h3 k j' (by omega) (by omega) (by simpa using hj)
theorem W6:∀ {its:List It},Kk bf cs its=true→∀ (q i:Nat),its[q]?=some (.op i)→loadAt cs i=true→HR bf cs i (its.drop (q+1))=true:=by
 intro its
 induction its with
 | nil=>intro _ q i h;simp at h
 | cons x its ih=>
  intro h q i hq hl
  cases x with
  | chk k=>
   cases q with
   | zero=>simp at hq
   | succ q=>simpa using ih h q i (by simpa using hq) hl
  | op k=>
   simp only [Kk,Zjh] at h
   cases q with
   | zero=>
    simp at hq;subst hq
    have h1:=h.1
    unfold loadAt at hl
    cases hc:cs[k]? with
    | none=>rw [hc] at hl;cases hl
    | some c=>rw [hc] at hl h1;simp only at hl h1;rw [hl] at h1;simpa using h1
   | succ q=>simpa using ih h.2 q i (by simpa using hq) hl
end
end Go.AM
namespace Go.AM
structure Plan (P:Program) (N:Nat) (ops:Array Oper) (cs:List AOper) (its:List It) (al:List AOper):Prop where
 cs_get:∀ (i:Nat) (o:Oper),ops[i]?=some o→∃ d p g,cs[i]?=some (AOper.mk d p g)∧DV N o.dst=some d∧GY P o=some p∧F3 ops N o.guard=some g
 back:Gj ops.toList 0=true
 has:∀ i,i<ops.size→∃ q:Nat,its[q]?=some (.op i)
 lt:∀ (q i:Nat),its[q]?=some (.op i)→i<ops.size
 reads:∀ (q i j:Nat) (oi oj:Oper) (x:Nat),its[q]?=some (.chk i)→ops[i]?=some oi→ops[j]?=some oj→oj.dst=some x→x ∈ D7 ops oi→((B4 ops.toList []).getD i 0).testBit j=true
 self:∀ (q i:Nat) (o:Oper) (x:Nat),its[q]?=some (.op i)→ops[i]?=some o→o.dst=some x→x ∉ D7 ops o
 ne:∀ (q' q j i:Nat),q'<q→its[q']?=some (.op j)→its[q]?=some (.op i)→i≠j
 eff:∀ (q' q j i:Nat),q'<q→its[q']?=some (.op j)→its[q]?=some (.op i)→BA cs j=true→((B4 ops.toList []).getD i 0).testBit j=true
 dst:∀ (q' q j i:Nat) (oj oi:Oper) (x:Nat),q'<q→its[q']?=some (.op j)→its[q]?=some (.op i)→ops[j]?=some oj→ops[i]?=some oi→oj.dst=some x→oi.dst≠some x
 rd1:∀ (q' q j i:Nat) (oj oi:Oper) (x:Nat),q'<q→its[q']?=some (.op j)→its[q]?=some (.op i)→ops[j]?=some oj→ops[i]?=some oi→oj.dst=some x→x ∈ D7 ops oi→((B4 ops.toList []).getD i 0).testBit j=true
 rd2:∀ (q' q j i:Nat) (oj oi:Oper) (x:Nat),q'<q→its[q']?=some (.op j)→its[q]?=some (.op i)→ops[j]?=some oj→ops[i]?=some oi→oi.dst=some x→x ∈ D7 ops oj→((B4 ops.toList []).getD i 0).testBit j=true
 loads:∀ (q i:Nat),its[q]?=some (.op i)→loadAt cs i=true→HR (B4 ops.toList []) cs i (its.drop (q+1))=true
 al_len:al.length=its.length
 al_get:∀ (q:Nat) (x:It),its[q]?=some x→∃ a,al[q]?=some a∧IP cs x=some a
section
variable {P:Program}{N:Nat}{ops:Array Oper}{cs:List AOper}{its:List It}{al:List AOper}
variable {i:Nat}{o:Oper}
theorem Mx (h:ops[i]?=some o):(ops.toList.map (·.dst)).getD i none=o.dst:=by
 rw [Zj8,Zke];simp [h]
theorem Mk (h:ops[i]?=some o):(ops.toList.map (D7 ops)).getD i []=D7 ops o:=by
 rw [Zj8,Zke];simp [h]
theorem Zbt (h:GI P N ops=some al):∃ cs its,Plan P N ops cs its al:=by
 unfold GI at h
 split at h
 ·cases h
 ·rename_i cs hcs
  simp only at h
  split at h
  ·rename_i hok
   refine ⟨cs,OA (B4 ops.toList []) cs ops.size,?_⟩
   generalize OA (B4 ops.toList []) cs ops.size=its at h hok
   simp only [Uf,Zjh] at hok
   obtain ⟨⟨⟨⟨⟨h1,h2⟩,h3⟩,h4⟩,h5⟩,_⟩:=hok
   obtain ⟨c1,c2⟩:=Wf hcs
   obtain ⟨p1,p2⟩:=Wz h4
   obtain ⟨m1,m2⟩:=W5 h
   have pr:∀ (q' q j i:Nat) (oj oi:Oper),q'<q→its[q']?=some (.op j)→its[q]?=some (.op i)→ops[j]?=some oj→ops[i]?=some oi→
    (i≠j∧(((B4 ops.toList []).getD i 0).testBit j=true∨BA cs j=false))∧
    (∀ x,oj.dst=some x→oi.dst≠some x∧(((B4 ops.toList []).getD i 0).testBit j=true∨x ∉ D7 ops oi))∧
    (∀ x,oi.dst=some x→(((B4 ops.toList []).getD i 0).testBit j=true∨x ∉ D7 ops oj)):=by
    intro q' q j i oj oi hlt hq' hq hj hi
    have hp:=p2 q' q j i hlt hq' hq
    simp only [Pk,Mx hj,Mx hi,Mk hj,Mk hi,Zjh] at hp
    obtain ⟨⟨⟨a1,a2⟩,a3⟩,a4⟩:=hp
    refine ⟨⟨by simpa using a1,?_⟩,?_,?_⟩
    ·have a2':(((B4 ops.toList []).getD i 0).testBit j || !BA cs j)=true:=a2
     rw [Zk5] at a2'
     rcases a2' with a|a
     ·exact .inl a
     ·exact .inr (by simpa using a)
    ·intro x hx
     rw [hx] at a3
     simp only [Zjh,Zk5,bne_iff_ne,ne_eq] at a3
     refine ⟨a3.1,a3.2.imp id fun hh=>?_⟩
     simpa using hh
    ·intro x hx
     rw [hx] at a4
     simp only [Zk5] at a4
     refine a4.imp id fun hh=>?_
     simpa using hh
   have getO:∀ i,i<ops.size→∃ o,ops[i]?=some o:=fun i hi=>⟨ops[i],by simp [hi]⟩
   have hlt:∀ (q i:Nat),its[q]?=some (.op i)→i<ops.size:=by
    intro q i hq
    have:=Zld.1 h3 _ (Zj1 hq)
    simpa using this
   have ne0:∀ (q' q j i:Nat),q'<q→its[q']?=some (.op j)→its[q]?=some (.op i)→i≠j:=by
    intro q' q j i hl hq' hq
    obtain ⟨oj,hj⟩:=getO j (hlt _ _ hq')
    obtain ⟨oi,hi⟩:=getO i (hlt _ _ hq)
    exact (pr q' q j i oj oi hl hq' hq hj hi).1.1
   refine ⟨fun i o ho=>c2 i o (by simpa using ho),h1,?_,hlt,?_,?_,ne0,?_,?_,?_,?_,fun q i hq hl=>W6 h5 q i hq hl,m1,m2⟩
   ·intro i hi
    exact Yw (Zld.1 h2 i (by simpa using hi))
   ·intro q i j oi oj x hq hi hj hx hm
    have:=Zld.1 h3 _ (Zj1 hq)
    simp only [Te] at this
    have hjlt:j<ops.size:=(Zkj.1 hj).1
    have:=Zld.1 this j (by simpa using hjlt)
    rw [Mx hj,hx,Mk hi] at this
    simp only [Zk5] at this
    rcases this with h|h
    ·exact h
    ·exact absurd hm (by simpa using h)
   ·intro q i o x hq hi hx
    have:=p1 q i hq
    simp only [Ph,Mx hi,hx,Mk hi] at this
    simpa using this
   ·intro q' q j i hl hq' hq he
    obtain ⟨oj,hj⟩:=getO j (hlt _ _ hq')
    obtain ⟨oi,hi⟩:=getO i (hlt _ _ hq)
    rcases (pr q' q j i oj oi hl hq' hq hj hi).1.2 with a|a
    ·exact a
    ·rw [he] at a;cases a
   ·intro q' q j i oj oi x hl hq' hq hj hi hx
    exact ((pr q' q j i oj oi hl hq' hq hj hi).2.1 x hx).1
   ·intro q' q j i oj oi x hl hq' hq hj hi hx hm
    rcases ((pr q' q j i oj oi hl hq' hq hj hi).2.1 x hx).2 with a|a
    ·exact a
    ·exact absurd hm a
   ·intro q' q j i oj oi x hl hq' hq hj hi hx hm
    rcases (pr q' q j i oj oi hl hq' hq hj hi).2.2 x hx with a|a
    ·exact a
    ·exact absurd hm a
  ·cases h
end
section
variable {e:Env}{rec:Rec}
theorem Z0 {a:AOper}{l:List AOper}{t t':AT}{s s':St}(h:A8 e rec (a::l) t s=.ok t' s'):∃ t1 s1,A8 e rec [a] t s=.ok t1 s1∧A8 e rec l t1 s1=.ok t' s':=by
 have wnt:∀ (g:Option (Nat×Bool)),AL g t=0∨AL g t=1∨AL g t=2:=by
  intro g
  cases g with
  | none=>exact .inr (.inr rfl)
  | some q=>
   obtain ⟨j,b⟩:=q
   show (Option.rec 0 (fun v=>BR.rec (Bool.rec 1 0 (Br v)) (Bool.rec 1 2 b) (Bool.rec 2 1 b) (asBool v)) (t.get j):Nat)=0∨(Option.rec 0 (fun v=>BR.rec (Bool.rec 1 0 (Br v)) (Bool.rec 1 2 b) (Bool.rec 2 1 b) (asBool v)) (t.get j):Nat)=1∨(Option.rec 0 (fun v=>BR.rec (Bool.rec 1 0 (Br v)) (Bool.rec 1 2 b) (Bool.rec 2 1 b) (asBool v)) (t.get j):Nat)=2
   cases t.get j with
   | none=>exact .inl rfl
   | some v=>
    show (BR.rec (Bool.rec 1 0 (Br v)) (Bool.rec 1 2 b) (Bool.rec 2 1 b) (asBool v):Nat)=0∨(BR.rec (Bool.rec 1 0 (Br v)) (Bool.rec 1 2 b) (Bool.rec 2 1 b) (asBool v):Nat)=1∨(BR.rec (Bool.rec 1 0 (Br v)) (Bool.rec 1 2 b) (Bool.rec 2 1 b) (asBool v):Nat)=2
    cases asBool v <;> cases b <;> cases Br v <;> simp
 cases a with
 | mk d p g=>
  change (Nat.rec .fail (fun w _=>Nat.rec (A8 e rec l (B5 d (.tup []) t) s) (fun _ _=>RV.rec .fail (fun v s'=>A8 e rec l (B5 d v t) s') (AJ p e rec t s)) w) (AL g t):RT)=.ok t' s' at h
  show ∃ t1 s1,(Nat.rec .fail (fun w _=>Nat.rec (RT.ok (B5 d (.tup []) t) s) (fun _ _=>RV.rec .fail (fun v s'=>RT.ok (B5 d v t) s') (AJ p e rec t s)) w) (AL g t):RT)=.ok t1 s1∧_
  rcases wnt g with hw|hw|hw
  ·rw [hw] at h;cases h
  ·rw [hw] at h ⊢;exact ⟨_,_,rfl,h⟩
  ·rw [hw] at h ⊢
   change (RV.rec .fail (fun v s'=>A8 e rec l (B5 d v t) s') (AJ p e rec t s):RT)=.ok t' s' at h
   show ∃ t1 s1,(RV.rec .fail (fun v s'=>RT.ok (B5 d v t) s') (AJ p e rec t s):RT)=.ok t1 s1∧_
   cases ho:AJ p e rec t s with
   | fail=>rw [ho] at h;cases h
   | ok v s1=>rw [ho] at h;exact ⟨_,_,rfl,h⟩
 | chk d p g=>
  change (Nat.rec .fail (fun w _=>Nat.rec (A8 e rec l t s) (fun _ _=>RV.rec .fail (fun v _=>Option.rec .fail (fun v0=>Bool.rec .fail (A8 e rec l t s) (BG v v0)) (t.get d)) (AJ p e rec t s)) w) (AL g t):RT)=.ok t' s' at h
  show ∃ t1 s1,(Nat.rec .fail (fun w _=>Nat.rec (RT.ok t s) (fun _ _=>RV.rec .fail (fun v _=>Option.rec .fail (fun v0=>Bool.rec .fail (RT.ok t s) (BG v v0)) (t.get d)) (AJ p e rec t s)) w) (AL g t):RT)=.ok t1 s1∧_
  rcases wnt g with hw|hw|hw
  ·rw [hw] at h;cases h
  ·rw [hw] at h ⊢;exact ⟨_,_,rfl,h⟩
  ·rw [hw] at h ⊢
   change (RV.rec .fail (fun v _=>Option.rec .fail (fun v0=>Bool.rec .fail (A8 e rec l t s) (BG v v0)) (t.get d)) (AJ p e rec t s):RT)=.ok t' s' at h
   show ∃ t1 s1,(RV.rec .fail (fun v _=>Option.rec .fail (fun v0=>Bool.rec .fail (RT.ok t s) (BG v v0)) (t.get d)) (AJ p e rec t s):RT)=.ok t1 s1∧_
   cases ho:AJ p e rec t s with
   | fail=>rw [ho] at h;cases h
   | ok v s1=>
    rw [ho] at h
    change (Option.rec .fail (fun v0=>Bool.rec .fail (A8 e rec l t s) (BG v v0)) (t.get d):RT)=.ok t' s' at h
    show ∃ t1 s1,(Option.rec .fail (fun v0=>Bool.rec .fail (RT.ok t s) (BG v v0)) (t.get d):RT)=.ok t1 s1∧_
    cases hg:t.get d with
    | none=>rw [hg] at h;cases h
    | some v0=>
     rw [hg] at h
     change (Bool.rec .fail (A8 e rec l t s) (BG v v0):RT)=.ok t' s' at h
     show ∃ t1 s1,(Bool.rec .fail (RT.ok t s) (BG v v0):RT)=.ok t1 s1∧_
     cases hq:BG v v0 with
     | false=>rw [hq] at h;cases h
     | true=>rw [hq] at h;exact ⟨_,_,rfl,h⟩
theorem WU:∀ {al:List AOper}{t t':AT}{s s':St},A8 e rec al t s=.ok t' s'→∃ (tq:Nat→AT) (sq:Nat→St),tq 0=t∧sq 0=s∧tq al.length=t'∧sq al.length=s'∧
 ∀ (q:Nat) (a:AOper),al[q]?=some a→A8 e rec [a] (tq q) (sq q)=.ok (tq (q+1)) (sq (q+1)):=by
 intro al
 induction al with
 | nil=>intro t t' s s' h;cases h;exact ⟨fun _=>t,fun _=>s,rfl,rfl,rfl,rfl,fun q a h=>by simp at h⟩
 | cons a al ih=>
  intro t t' s s' h
  obtain ⟨t1,s1,h1,h2⟩:=Z0 h
  obtain ⟨tq,sq,e1,e2,e3,e4,e5⟩:=ih h2
  refine ⟨fun q=>Nat.rec t (fun q _=>tq q) q,fun q=>Nat.rec s (fun q _=>sq q) q,rfl,rfl,e3,e4,fun q b hb=>?_⟩
  cases q with
  | zero=>simp at hb;subst hb;show A8 e rec [a] t s=.ok (tq 0) (sq 0);rw [e1,e2];exact h1
  | succ q=>exact e5 q b (by simpa using hb)
end
end Go.AM
namespace Go.AM
structure Ran (P:Program) (e:Env) (rec:Rec) (N:Nat) (ops:Array Oper) (cs:List AOper) (its:List It) (tq:Nat→AT) (sq:Nat→St) (V:Nat→AV):Prop where
 op:∀ (q i:Nat) (o:Oper),its[q]?=some (.op i)→ops[i]?=some o→∃ d p g,cs[i]?=some (AOper.mk d p g)∧DV N o.dst=some d∧GY P o=some p∧F3 ops N o.guard=some g∧tq (q+1)=B5 d (V i) (tq q)∧
  ((AL g (tq q)=1∧V i=.tup []∧sq (q+1)=sq q)∨(AL g (tq q)=2∧AJ p e rec (tq q) (sq q)=.ok (V i) (sq (q+1))))
 chk:∀ (q i:Nat),its[q]?=some (.chk i)→tq (q+1)=tq q∧sq (q+1)=sq q∧∃ d p g,cs[i]?=some (AOper.mk (d+1) p g)∧Gg p=true∧
  (AL g (tq q)=1∨(AL g (tq q)=2∧∃ v s1,AJ p e rec (tq q) (sq q)=.ok v s1∧(tq q).get d=some v))
section
variable {P:Program}{e:Env}{rec:Rec}{N:Nat}{ops:Array Oper}{cs:List AOper}{its:List It}{al:List AOper}{tq:Nat→AT}{sq:Nat→St}{V:Nat→AV}
theorem Wa (g:Option (Nat×Bool)) (t:AT):AL g t=0∨AL g t=1∨AL g t=2:=by
 cases g with
 | none=>exact .inr (.inr rfl)
 | some q=>
  obtain ⟨j,b⟩:=q
  show (Option.rec 0 (fun v=>BR.rec (Bool.rec 1 0 (Br v)) (Bool.rec 1 2 b) (Bool.rec 2 1 b) (asBool v)) (t.get j):Nat)=0∨(Option.rec 0 (fun v=>BR.rec (Bool.rec 1 0 (Br v)) (Bool.rec 1 2 b) (Bool.rec 2 1 b) (asBool v)) (t.get j):Nat)=1∨(Option.rec 0 (fun v=>BR.rec (Bool.rec 1 0 (Br v)) (Bool.rec 1 2 b) (Bool.rec 2 1 b) (asBool v)) (t.get j):Nat)=2
  cases t.get j with
  | none=>exact .inl rfl
  | some v=>
   show (BR.rec (Bool.rec 1 0 (Br v)) (Bool.rec 1 2 b) (Bool.rec 2 1 b) (asBool v):Nat)=0∨(BR.rec (Bool.rec 1 0 (Br v)) (Bool.rec 1 2 b) (Bool.rec 2 1 b) (asBool v):Nat)=1∨(BR.rec (Bool.rec 1 0 (Br v)) (Bool.rec 1 2 b) (Bool.rec 2 1 b) (asBool v):Nat)=2
   cases asBool v <;> cases b <;> cases Br v <;> simp
variable {d:Nat}{p:AOp}{g:Option (Nat×Bool)}{t t':AT}{s s':St}
theorem Zff (h:A8 e rec [.mk d p g] t s=.ok t' s'):
 ∃ v,t'=B5 d v t∧((AL g t=1∧v=.tup []∧s'=s)∨(AL g t=2∧AJ p e rec t s=.ok v s')):=by
 rcases RK h with ⟨hw,h⟩|⟨hw,v,s1,ho,h⟩
 ·cases h;exact ⟨_,rfl,.inl ⟨hw,rfl,rfl⟩⟩
 ·cases h;exact ⟨v,rfl,.inr ⟨hw,ho⟩⟩
theorem Zbw (h:A8 e rec [.chk d p g] t s=.ok t' s'):
 t'=t∧s'=s∧(AL g t=1∨(AL g t=2∧∃ v s1,AJ p e rec t s=.ok v s1∧t.get d=some v)):=by
 change (Nat.rec .fail (fun w _=>Nat.rec (RT.ok t s) (fun _ _=>RV.rec .fail (fun v _=>Option.rec .fail (fun v0=>Bool.rec .fail (RT.ok t s) (BG v v0)) (t.get d)) (AJ p e rec t s)) w) (AL g t):RT)=.ok t' s' at h
 rcases Wa g t with hw|hw|hw
 ·rw [hw] at h;cases h
 ·rw [hw] at h;cases h;exact ⟨rfl,rfl,.inl hw⟩
 ·rw [hw] at h
  change (RV.rec .fail (fun v _=>Option.rec .fail (fun v0=>Bool.rec .fail (RT.ok t s) (BG v v0)) (t.get d)) (AJ p e rec t s):RT)=.ok t' s' at h
  cases ho:AJ p e rec t s with
  | fail=>rw [ho] at h;cases h
  | ok v s1=>
   rw [ho] at h
   change (Option.rec .fail (fun v0=>Bool.rec .fail (RT.ok t s) (BG v v0)) (t.get d):RT)=.ok t' s' at h
   cases hg:t.get d with
   | none=>rw [hg] at h;cases h
   | some v0=>
    rw [hg] at h
    change (Bool.rec .fail (RT.ok t s) (BG v v0):RT)=.ok t' s' at h
    cases hq:BG v v0 with
    | false=>rw [hq] at h;cases h
    | true=>rw [hq] at h;cases h;exact ⟨rfl,rfl,.inr ⟨hw,v,s1,rfl,by rw [Zfs hq]⟩⟩
theorem Ze9 (hp:Plan P N ops cs its al) (h:A8 e rec al t s=.ok t' s'):
 ∃ tq sq V,Ran P e rec N ops cs its tq sq V∧tq 0=t∧sq 0=s∧tq its.length=t'∧sq its.length=s':=by
 obtain ⟨tq,sq,e1,e2,e3,e4,e5⟩:=WU h
 have hst:∀ (q:Nat) (x:It),its[q]?=some x→∃ a,IP cs x=some a∧A8 e rec [a] (tq q) (sq q)=.ok (tq (q+1)) (sq (q+1)):=by
  intro q x hq
  obtain ⟨a,h1,h2⟩:=hp.al_get q x hq
  exact ⟨a,h2,e5 q a h1⟩
 have hV:∀ i,∃ v,∀ (q:Nat) (o:Oper),its[q]?=some (.op i)→ops[i]?=some o→∃ d p g,cs[i]?=some (AOper.mk d p g)∧DV N o.dst=some d∧GY P o=some p∧F3 ops N o.guard=some g∧tq (q+1)=B5 d v (tq q)∧
  ((AL g (tq q)=1∧v=.tup []∧sq (q+1)=sq q)∨(AL g (tq q)=2∧AJ p e rec (tq q) (sq q)=.ok v (sq (q+1)))):=by
  intro i
  by_cases hi:i<ops.size
  ·obtain ⟨q,hq⟩:=hp.has i hi
   obtain ⟨o,ho⟩:∃ o,ops[i]?=some o:=⟨ops[i],by simp [hi]⟩
   obtain ⟨d,p,g,c1,c2,c3,c4⟩:=hp.cs_get i o ho
   obtain ⟨a,h1,h2⟩:=hst q _ hq
   have ha:a=.mk d p g:=by simp only [IP,c1] at h1;exact (Zkn h1).symm
   subst ha
   obtain ⟨v,v1,v2⟩:=Zff h2
   refine ⟨v,fun q' o' hq' ho'=>?_⟩
   have hqq:q'=q:=by
    rcases Nat.lt_trichotomy q' q with hlt|heq|hgt
    ·exact absurd rfl (hp.ne q' q i i hlt hq' hq)
    ·exact heq
    ·exact absurd rfl (hp.ne q q' i i hgt hq hq')
   subst hqq
   rw [ho] at ho';cases ho'
   exact ⟨d,p,g,c1,c2,c3,c4,v1,v2⟩
  ·exact ⟨.nilp,fun q o hq ho=>absurd (Zkj.1 ho).1 hi⟩
 obtain ⟨V,hV⟩:=Classical.axiomOfChoice hV
 refine ⟨tq,sq,V,⟨fun q i o hq ho=>hV i q o hq ho,?_⟩,e1,e2,by rw [← hp.al_len];exact e3,by rw [← hp.al_len];exact e4⟩
 intro q i hq
 obtain ⟨a,h1,h2⟩:=hst q _ hq
 simp only [IP] at h1
 split at h1
 ·rename_i d p g hc
  split at h1
  ·rename_i hl
   cases h1
   obtain ⟨c1,c2,c3⟩:=Zbw h2
   exact ⟨c1,c2,d,p,g,hc,hl,c3⟩
  ·cases h1
 ·cases h1
theorem LW (hp:Plan P N ops cs its al) (hr:Ran P e rec N ops cs its tq sq V) (x:Nat) (v:AV):∀ q,q≤its.length→(tq q).get x=some v→
 (∃ q' j o,q'<q∧its[q']?=some (.op j)∧ops[j]?=some o∧o.dst=some x∧v=V j)∨((tq 0).get x=some v∧∀ (q' j:Nat) (o:Oper),q'<q→its[q']?=some (.op j)→ops[j]?=some o→o.dst≠some x):=by
 intro q
 induction q with
 | zero=>intro _ h;exact .inr ⟨h,fun q' j o hlt=>by omega⟩
 | succ q ih=>
  intro hq h
  have hlt:q<its.length:=by omega
  obtain ⟨y,hy⟩:∃ y,its[q]?=some y:=⟨its[q],by simp [hlt]⟩
  have lift:(tq q).get x=some v→(∀ (j:Nat) (o:Oper),its[q]?=some (.op j)→ops[j]?=some o→o.dst≠some x)→((∃ q' j o,q'<q+1∧its[q']?=some (.op j)∧ops[j]?=some o∧o.dst=some x∧v=V j)∨((tq 0).get x=some v∧∀ (q' j:Nat) (o:Oper),q'<q+1→its[q']?=some (.op j)→ops[j]?=some o→o.dst≠some x)):=fun h0 hn=>by
   rcases ih (by omega) h0 with ⟨q',j,o,a1,a2⟩|⟨a1,a2⟩
   ·exact Or.inl ⟨q',j,o,Nat.lt_succ_of_lt a1,a2⟩
   ·exact Or.inr ⟨a1,fun q' j o hq' hj ho=>by
     rcases Zk7.1 hq' with h1|h1
     ·exact a2 q' j o h1 hj ho
     ·subst h1;exact hn j o hj ho⟩
  cases y with
  | chk i=>
   rw [(hr.chk q i hy).1] at h
   exact lift h (fun j o hj=>by rw [hy] at hj;cases hj)
  | op i=>
   obtain ⟨o,ho⟩:∃ o,ops[i]?=some o:=⟨ops[i]'(hp.lt q i hy),by simp [hp.lt q i hy]⟩
   obtain ⟨d,p,g,c1,c2,c3,c4,c5,_⟩:=hr.op q i o hy ho
   rw [c5] at h
   cases hd:o.dst with
   | none=>
    rw [hd] at c2;cases c2
    exact lift h (fun j o' hj ho'=>by rw [hy] at hj;cases hj;rw [ho] at ho';cases ho';rw [hd];simp)
   | some z=>
    rw [hd] at c2
    simp only [DV] at c2
    split at c2
    ·cases c2
     rcases E4 (show ((tq q).set (V i) z).get x=some v from h) with ⟨rfl,rfl⟩|⟨hne,h⟩
     ·exact .inl ⟨q,i,o,Nat.lt_succ_self _,hy,ho,hd,rfl⟩
     ·exact lift h (fun j o' hj ho'=>by rw [hy] at hj;cases hj;rw [ho] at ho';cases ho';rw [hd];intro e;cases e;exact hne rfl)
    ·cases c2
end
end Go.AM
