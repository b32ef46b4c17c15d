/- Contracts of functions over the abstract machine. No conditions. -/
import Derived.Laws.Strings
import Derived.IntWalk
import Derived.Laws.StructEq
import Derived.Laws.BytesString
import Derived.ChangeKeysEq
import Derived.Lib.AppendZerosOnto
import Derived.Maps.RangeRun
import Derived.Test.YtblggmblcjoalaaGreatAM1
set_option linter.unusedVariables false
set_option linter.unusedSimpArgs false
set_option maxRecDepth 100000
namespace Go.AM
section
variable {P:Program}{γ:Gam}{s:St}{w:World}{t:AT}{ρ:Operand->Value}
variable {v':Value}
theorem ptrV {r o:Nat}(h:VR γ (.ptr r o) v'):∃ L,γ r=some L∧v'=.pointer (some ⟨L.b,L.o+o,none⟩):=by
 cases h with
 | ptr _ _ L hL=>exact ⟨L,hL,rfl⟩
variable {k:IntKind}
theorem intV {n:Int}(h:VR γ (.int k n) v'):v'=.int k n:=by cases h;rfl
theorem boolV {b:Bool}(h:VR γ (.bool b) v'):v'=.bool b:=by cases h;rfl
variable {o:Oper}{ty:Nat}{x:Operand}{a:AO}{v:AV}{s':St}
theorem ld1_sound (hs:Sim P γ s w) (hag:aggT P ty=some false) (hx:aop x=some a) (ho:o.op=.load ty x) (he:Evs γ t ρ [x])
 (h:ld1A a t s=.ok v s'):OpOk P γ s w ρ o v s':=by
 obtain ⟨u,hu,h⟩:=wth_ok h
 rcases ptr_ok2 h with ⟨r,i,rfl,h⟩|⟨l,rfl,h⟩
 ·obtain ⟨hl,rfl⟩:=retO_ok h
  obtain ⟨L,hL,hv⟩:=ptrV (he x (by simp) a _ hx hu)
  obtain ⟨v',hc,hR,_⟩:=load1_sound hs hl hL
  refine OpOk.still hs v' ?_ hR
  simp only [execOp,ho,Instr.loadAt,hv,Instr.sureAddr,Sem.run_bind,Sem.run_pure,Result.andThen_ok,loadVar,run_isAgg hag]
  simp [run_load,hc]
 ·obtain ⟨hl,rfl⟩:=retO_ok h
  obtain ⟨b,i,cs,vs,hv,hb,h2,h3,h4,h5⟩:=fpV (he x (by simp) a _ hx hu)
  rw [getL_eq] at hl
  obtain ⟨v',hv',hR⟩:=h4.get hl
  have hc:=fz_cell hs hb (h2 0 v' hv')
  refine OpOk.still hs v' ?_ hR
  simp only [execOp,ho,Instr.loadAt,hv,Instr.sureAddr,Sem.run_bind,Sem.run_pure,Result.andThen_ok,loadVar,run_isAgg hag]
  rw [Nat.add_zero] at hc
  simp [run_load,hc]
variable {n:Nat}
theorem ldn_sound (hs:Sim P γ s w) (hag:aggT P ty=some true) (hn:szOf P ty=some n) (hx:aop x=some a) (ho:o.op=.load ty x) (he:Evs γ t ρ [x])
 (h:ldnA n a t s=.ok v s'):OpOk P γ s w ρ o v s':=by
 obtain ⟨u,hu,h⟩:=wth_ok h
 rcases ptr_ok2 h with ⟨r,i,rfl,h⟩|⟨l,rfl,h⟩
 ·obtain ⟨cs,hl,h⟩:=opt_ok h
  obtain ⟨rfl,rfl⟩:=ok_inj h
  obtain ⟨L,hL,hv⟩:=ptrV (he x (by simp) a _ hx hu)
  obtain ⟨vs,e1,hc,hR,h1⟩:=load_sound hs hl hL
  have hrun:=run_loadCells_list (P:=P) w _ vs hc
  rw [e1] at hrun
  refine OpOk.still hs (.agg vs.toArray) ?_ (.agg _ _ hR h1)
  simp only [execOp,ho,Instr.loadAt,hv,Instr.sureAddr,Sem.run_bind,Sem.run_pure,Result.andThen_ok,loadVar,run_isAgg hag,run_sizeOf hn,hrun,if_true]
 ·obtain ⟨cs,hl,h⟩:=opt_ok h
  obtain ⟨rfl,rfl⟩:=ok_inj h
  obtain ⟨b,i,cc,vs,hv,hb,h2,h3,h4,h5⟩:=fpV (he x (by simp) a _ hx hu)
  obtain ⟨us,e1,g2,hR,h1⟩:=fz_take (k:=0) hs hb h2 h3 h4 hl
  have hrun:=run_loadCells_list (P:=P) w _ us (fz_cells hs hb g2)
  rw [e1] at hrun
  refine OpOk.still hs (.agg us.toArray) ?_ (.agg _ _ hR h1)
  rw [Nat.add_zero] at hrun
  simp only [execOp,ho,Instr.loadAt,hv,Instr.sureAddr,Sem.run_bind,Sem.run_pure,Result.andThen_ok,loadVar,run_isAgg hag,run_sizeOf hn,hrun,if_true]
theorem st_sound (hs:Sim P γ s w) {y:Operand}{b:AO}(hd:o.dst=none) (hn:szOf P ty=some (n+1)) (hx:aop x=some a) (hy:aop y=some b) (ho:o.op=.store ty x y) (he:Evs γ t ρ [x,y])
 (h:stA (n+1) a b t s=.ok v s'):OpOk P γ s w ρ o v s':=by
 obtain ⟨p,hp,h⟩:=wth_ok h
 obtain ⟨u,hu,h⟩:=wth_ok h
 obtain ⟨r,i,rfl,h⟩:=ptr_ok h
 obtain ⟨hl,h⟩:=gd_ok h
 obtain ⟨hk,rfl⟩:=retS_ok h
 obtain ⟨L,hL,hv⟩:=ptrV (he x (by simp) a _ hx hp)
 obtain ⟨c1,c2⟩:=cellsOf_VR (he y (by simp) b _ hy hu) hl
 obtain ⟨w',hrun,hst,hsim⟩:=store_sound hs hk hL c1 c2
 refine ⟨γ,w',hst,hsim,.inr ⟨?_,hd⟩⟩
 have hsz:(ρ y).cells.size=n+1:=by
  have e1:=Nat.eq_of_beq_eq_true hl
  rw [lenL_eq] at e1
  have:=c1.length
  simp at this
  omega
 simp only [execOp,ho,Instr.storeAt,hv,Instr.sureAddr,Sem.run_bind,Sem.run_pure,Result.andThen_ok,storeVar,run_sizeOf hn,hsz]
 simp [hrun]
theorem nilck_sound (hs:Sim P γ s w) (hx:aop x=some a) (ho:o.op=.nilCheck x) (he:Evs γ t ρ [x])
 (h:nilckA a t s=.ok v s'):OpOk P γ s w ρ o v s':=by
 obtain ⟨u,hu,h⟩:=wth_ok h
 have hv:=he x (by simp) a u hx hu
 cases hn:isNilV u with
 | true=>rw [hn] at h;cases h
 | false=>
  rw [hn] at h
  obtain ⟨rfl,rfl⟩:=ok_inj h
  refine OpOk.still hs (ρ x) ?_ hv
  simp only [execOp,ho]
  generalize ρ x=vx at hv
  cases hv <;> first|rfl|(cases hn)
variable {f:Nat}{fs:Array Field}{fd:Field}
theorem fa_sound (hs:Sim P γ s w) (hu:P.underlying ty=some (.struct fs)) (hf:fs[f]?=some fd) (hn:szOf P fd.type=some (n+1))
 (hx:aop x=some a) (ho:o.op=.fieldAddr ty x f) (he:Evs γ t ρ [x]) (h:faA fd.offset a t s=.ok v s'):OpOk P γ s w ρ o v s':=by
 obtain ⟨u,hu',h⟩:=wth_ok h
 rcases ptr_ok2 h with ⟨r,i,rfl,h⟩|⟨l,rfl,h⟩
 ·obtain ⟨rfl,rfl⟩:=ok_inj h
  obtain ⟨L,hL,hv⟩:=ptrV (he x (by simp) a _ hx hu')
  refine OpOk.still hs (.pointer (some ⟨L.b,L.o+(i+fd.offset),none⟩)) ?_ (.ptr r _ L hL)
  simp only [execOp,ho,Instr.fieldAt,hv,Instr.sureAddr,Sem.run_bind,Sem.run_pure,Result.andThen_ok,run_underlying hu,hf,fieldPlace,run_sizeOf hn]
  simp [addr_add,Nat.add_assoc]
 ·obtain ⟨rfl,rfl⟩:=ok_inj h
  obtain ⟨b,i,cc,vs,hv,hb,h2,h3,h4,h5⟩:=fpV (he x (by simp) a _ hx hu')
  refine OpOk.still hs (.pointer (some ⟨b,i+fd.offset,none⟩)) ?_ (fp_drop hb h2 h3 h4 h5)
  simp only [execOp,ho,Instr.fieldAt,hv,Instr.sureAddr,Sem.run_bind,Sem.run_pure,Result.andThen_ok,run_underlying hu,hf,fieldPlace,run_sizeOf hn]
  simp [addr_add]
variable {cs:Array Value}{off:Nat}
theorem part1 {v:Value}(hag:aggT P ty=some false) (h:cs[off]?=some v):(part ty cs off).run P w=.ok v w:=by
 simp [part,run_isAgg hag,h]
theorem partn (hag:aggT P ty=some true) (hn:szOf P ty=some n):(part ty cs off).run P w=.ok (.agg (cs.extract off (off+n))) w:=by
 simp [part,run_isAgg hag,run_sizeOf hn]
theorem aggV {l:List AV}(h:VR γ (.agg l) v'):∃ a,v'=.agg a∧All2 (VR γ) l a.toList∧∀ v ∈ a.toList,v.oneCell'=true:=by
 cases h with
 | agg _ a h1 h2=>exact ⟨a,rfl,h1,h2⟩
theorem fld1_sound (hs:Sim P γ s w) (hu:P.underlying ty=some (.struct fs)) (hf:fs[f]?=some fd) (hag:aggT P fd.type=some false)
 (hx:aop x=some a) (ho:o.op=.field ty x f) (he:Evs γ t ρ [x]) (h:fld1A fd.offset a t s=.ok v s'):OpOk P γ s w ρ o v s':=by
 obtain ⟨u,hu',h⟩:=wth_ok h
 obtain ⟨l,rfl,h⟩:=agg_ok h
 obtain ⟨hk,rfl⟩:=retO_ok h
 rw [getL_eq] at hk
 obtain ⟨c,hv,hR,_⟩:=aggV (he x (by simp) a _ hx hu')
 obtain ⟨v',hv',hRv⟩:=hR.get hk
 refine OpOk.still hs v' ?_ hRv
 simp only [execOp,ho,Instr.field,hv,Sem.run_bind,Sem.run_pure,Result.andThen_ok,run_underlying hu,hf,asAgg,part1 hag (show c[fd.offset]?=some v' by simpa using hv')]
 simp [part1 hag (show c[fd.offset]?=some v' by simpa using hv'),Go.asAgg]
theorem fldn_sound (hs:Sim P γ s w) (hu:P.underlying ty=some (.struct fs)) (hf:fs[f]?=some fd) (hag:aggT P fd.type=some true) (hn:szOf P fd.type=some n)
 (hx:aop x=some a) (ho:o.op=.field ty x f) (he:Evs γ t ρ [x]) (h:fldnA fd.offset n a t s=.ok v s'):OpOk P γ s w ρ o v s':=by
 obtain ⟨u,hu',h⟩:=wth_ok h
 obtain ⟨l,rfl,h⟩:=agg_ok h
 obtain ⟨cs,hk,h'⟩:=opt_ok h
 obtain ⟨rfl,rfl⟩:=ok_inj h'
 obtain ⟨e1,hle⟩:=takeL_some _ hk
 rw [dropL_eq] at e1 hle
 subst e1
 obtain ⟨c,hv,hR,h1⟩:=aggV (he x (by simp) a _ hx hu')
 have e2:(c.extract fd.offset (fd.offset+n)).toList=(c.toList.drop fd.offset).take n:=by simp [Array.toList_extract,List.extract_eq_take_drop]
 refine OpOk.still hs (.agg (c.extract fd.offset (fd.offset+n))) ?_ (.agg _ _ (by rw [e2];exact (hR.drop _).take _) (by rw [e2];exact fun v hv=>h1 v (List.mem_of_mem_drop (List.mem_of_mem_take hv))))
 simp [execOp,ho,Instr.field,hv,run_underlying hu,hf,Go.asAgg,partn hag hn]
theorem ext_sound (hs:Sim P γ s w) {i:Nat}(hx:aop x=some a) (ho:o.op=.extract x i) (he:Evs γ t ρ [x])
 (h:extA a i t s=.ok v s'):OpOk P γ s w ρ o v s':=by
 obtain ⟨u,hu',h⟩:=wth_ok h
 obtain ⟨l,rfl,h⟩:=tup_ok h
 obtain ⟨hk,rfl⟩:=retO_ok h
 rw [getL_eq] at hk
 have hv:=he x (by simp) a _ hx hu'
 generalize hxx:ρ x=vx at hv
 cases hv with
 | tup _ c hR=>
  obtain ⟨v',hv',hRv⟩:=hR.get hk
  refine OpOk.still hs v' ?_ hRv
  have:c[i]?=some v':=by simpa using hv'
  simp [execOp,ho,Instr.extract,hxx,this]
theorem cvi_sound (hs:Sim P γ s w) {sr ds:Nat}{sd:TypeDesc}(hsr:P.underlying sr=some sd) (hd:P.underlying ds=some (.int k)) (hx:aop x=some a) (ho:o.op=.convert sr ds x) (he:Evs γ t ρ [x])
 (hq:∀ k n,wrapQ k n=k.wrap n) (h:cviA k a t s=.ok v s'):OpOk P γ s w ρ o v s':=by
 obtain ⟨u,hu',h⟩:=wth_ok h
 obtain ⟨k',n,rfl,h⟩:=int_ok h
 obtain ⟨rfl,rfl⟩:=ok_inj h
 have hv:=intV (he x (by simp) a _ hx hu')
 refine OpOk.still hs (.int k (k.wrap n)) ?_ (by rw [hq];exact .int _ _)
 simp [execOp,ho,convert,hv,run_underlying hsr,run_underlying hd,Conv.intToInt]
theorem mkfn_sound (hs:Sim P γ s w) {as bs:Array Operand}{xs ys:List AO}(hx:aops as.toList=some xs) (hy:aops bs.toList=some ys) (ho:o.op=.makeFunc (.func f) as bs) (he:Evs γ t ρ (as.toList++bs.toList))
 (h:mkfnA f xs ys t s=.ok v s'):OpOk P γ s w ρ o v s':=by
 obtain ⟨p,hp,h⟩:=opt_ok h
 obtain ⟨q,hq,h⟩:=opt_ok h
 obtain ⟨rfl,rfl⟩:=ok_inj h
 have h1:=aops_evs (γ:=γ) (ρ:=ρ) hx hp (fun x hx=>he x (by simp at hx ⊢;exact .inl hx))
 have h2:=aops_evs (γ:=γ) (ρ:=ρ) hy hq (fun x hx=>he x (by simp at hx ⊢;exact .inr hx))
 refine OpOk.still hs (.func (.func f) (as.map ρ) (bs.map ρ)) ?_ (.fn _ _ _ _ _ (by simpa using h1) (by simpa using h2))
 simp [execOp,ho,Instr.makeFunc]
end
end Go.AM
namespace Go.AM
theorem kCode_inj {a b:IntKind}(h:eqK a b=true):a=b:=by
 cases a <;> cases b <;> first|rfl|cases h
theorem eqI_eq (a b:Int):eqI a b=(a == b):=by
 cases a with
 | ofNat a=>cases b with
  | ofNat b=>show Nat.beq a b=_;rw [Bool.eq_iff_iff,Nat.beq_eq];simp;omega
  | negSucc b=>show false=_;rw [eq_comm,beq_eq_false_iff_ne];simp
 | negSucc a=>cases b with
  | ofNat b=>show false=_;rw [eq_comm,beq_eq_false_iff_ne];simp
  | negSucc b=>show Nat.beq a b=_;rw [Bool.eq_iff_iff,Nat.beq_eq];simp
theorem ltI_eq (a b:Int):ltI a b=decide (a<b):=by
 cases a with
 | ofNat a=>cases b with
  | ofNat b=>show Nat.blt a b=_;rw [Bool.eq_iff_iff,Nat.blt_eq];simp
  | negSucc b=>show false=_;rw [eq_comm,decide_eq_false_iff_not];simp;omega
 | negSucc a=>cases b with
  | ofNat b=>show true=_;rw [eq_comm,decide_eq_true_iff];simp;omega
  | negSucc b=>show Nat.blt b a=_;rw [Bool.eq_iff_iff,Nat.blt_eq];simp;omega
theorem addI_eq (a b:Int):addI a b=a+b:=by
 cases a <;> cases b <;> rfl
theorem mulI_eq (a b:Int):mulI a b=a*b:=by
 cases a <;> cases b <;> rfl
theorem subI_eq (a b:Int):subI a b=a-b:=by
 cases a with
 | ofNat a=>cases b with
  | ofNat b=>
   show (Bool.rec (Int.sub (.ofNat a) (.ofNat b)) (.ofNat (Nat.sub a b)) (Nat.ble b a):Int)=_
   cases hb:Nat.ble b a with
   | false=>rfl
   | true=>have:=Nat.le_of_ble_eq_true hb;show ((a-b:Nat):Int)=(a:Int)-(b:Int);omega
  | negSucc b=>rfl
 | negSucc a=>rfl
theorem wrapQ_eq (k:IntKind) (n:Int):wrapQ k n=k.wrap n:=by
 cases n with
 | ofNat m=>
  show wrapN k m=k.wrap (m:Int)
  cases k <;> try rfl
  show (Bool.rec (IntKind.i64.wrap m) (.ofNat m) (Nat.blt m 9223372036854775808):Int)=_
  cases hb:Nat.blt m 9223372036854775808 with
  | false=>rfl
  | true=>
   rw [Nat.blt_eq] at hb
   exact (IntWalk.i64_in (m:Int) ⟨by omega,by omega⟩).symm
 | negSucc m=>
  show (Bool.rec (k.wrap (.negSucc m)) (Bool.rec (k.wrap (.negSucc m)) (.negSucc m) (Nat.blt m 9223372036854775808)) (Nat.beq (kCode k) 3):Int)=_
  have h3:k=.i64∨Nat.beq (kCode k) 3=false:=by cases k <;> first|exact .inl rfl|exact .inr rfl
  rcases h3 with rfl|h3
  ·show (Bool.rec (IntKind.i64.wrap (.negSucc m)) (.negSucc m) (Nat.blt m 9223372036854775808):Int)=_
   cases hb:Nat.blt m 9223372036854775808 with
   | false=>rfl
   | true=>
    rw [Nat.blt_eq] at hb
    exact (IntWalk.i64_in (Int.negSucc m) ⟨by omega,by omega⟩).symm
  ·rw [h3]
theorem bitsQ_eq {f:Nat->Nat->Nat}{g:(n:Nat)->BitVec n->BitVec n->BitVec n}(hf:∀ n x y,(g n x y).toNat=f x.toNat y.toNat) (k:IntKind) (a b:Int):bitsQ f g k a b=bitsS g k a b:=by
 cases a with
 | ofNat x=>cases b with
  | ofNat y=>
   show bitsN f g k x y=_
   cases k <;> try rfl
   ·show ((f (x % 256) (y % 256):Nat):Int)=_
    have e:f (x % 256) (y % 256)=(g 8 (BitVec.ofInt 8 x) (BitVec.ofInt 8 y)).toNat:=by
     rw [hf];simp
    rw [e]
    have hlt:=(g 8 (BitVec.ofInt 8 x) (BitVec.ofInt 8 y)).isLt
    simp only [bitsS,IntKind.wrap,IntKind.bits,IntKind.signed]
    simp
    omega
   ·show ((f (x % 4294967296) (y % 4294967296):Nat):Int)=_
    have e:f (x % 4294967296) (y % 4294967296)=(g 32 (BitVec.ofInt 32 x) (BitVec.ofInt 32 y)).toNat:=by
     rw [hf];simp
    rw [e]
    have hlt:=(g 32 (BitVec.ofInt 32 x) (BitVec.ofInt 32 y)).isLt
    simp only [bitsS,IntKind.wrap,IntKind.bits,IntKind.signed]
    simp
    omega
  | negSucc y=>rfl
 | negSucc x=>rfl
theorem eqNs_eq (a:List Nat):∀ b,eqNs a b=(a == b):=by
 induction a with
 | nil=>intro b;cases b <;> rfl
 | cons x a ih=>intro b;cases b with
  | nil=>rfl
  | cons y b=>
   show (Bool.rec false (eqNs a b) (Nat.beq x y):Bool)=_
   rw [ih]
   cases hb:Nat.beq x y with
   | false=>have:=Nat.ne_of_beq_eq_false hb;simp [this]
   | true=>have:=Nat.eq_of_beq_eq_true hb;simp [this]
section
variable {P:Program}{γ:Gam}{s:St}{w:World}{t:AT}{ρ:Operand->Value}
variable {f:IntKind->Int->Int->Int}{x y v:AV}
theorem ar_some (h:ar f x y=.some v):∃ k a b,x=.int k a∧y=.int k b∧v=.int k (f k a b):=by
 unfold ar at h
 cases hx:asInt x with
 | no=>rw [hx] at h;cases h
 | int k a=>
  rw [hx] at h
  cases hy:asInt y with
  | no=>rw [hy] at h;cases h
  | int k' b=>
   rw [hy] at h
   dsimp only at h
   cases hk:eqK k k' with
   | false=>rw [hk] at h;cases h
   | true=>rw [hk] at h;cases h;cases kCode_inj hk;exact ⟨k,a,b,asInt_eq hx,asInt_eq hy,rfl⟩
theorem cmp_some {f:Int->Int->Bool}(h:cmp f x y=.some v):∃ k a b,x=.int k a∧y=.int k b∧v=.bool (f a b):=by
 unfold cmp at h
 cases hx:asInt x with
 | no=>rw [hx] at h;cases h
 | int k a=>
  rw [hx] at h
  cases hy:asInt y with
  | no=>rw [hy] at h;cases h
  | int k' b=>
   rw [hy] at h
   dsimp only at h
   cases hk:eqK k k' with
   | false=>rw [hk] at h;cases h
   | true=>rw [hk] at h;cases h;cases kCode_inj hk;exact ⟨k,a,b,asInt_eq hx,asInt_eq hy,rfl⟩
theorem dvd_some (h:dvd f x y=.some v):∃ k a b,x=.int k a∧y=.int k b∧b≠0∧v=.int k (f k a b):=by
 unfold dvd at h
 cases hx:asInt x with
 | no=>rw [hx] at h;cases h
 | int k a=>
  rw [hx] at h
  cases hy:asInt y with
  | no=>rw [hy] at h;cases h
  | int k' b=>
   rw [hy] at h
   dsimp only at h
   cases hk:eqK k k' with
   | false=>rw [hk] at h;cases h
   | true=>
    rw [hk] at h
    dsimp only at h
    cases hb:eqI b 0 with
    | true=>rw [hb] at h;cases h
    | false=>
     rw [hb] at h;cases h;cases kCode_inj hk
     exact ⟨k,a,b,asInt_eq hx,asInt_eq hy,by rw [eqI_eq] at hb;simpa using hb,rfl⟩
theorem sh_some {f:IntKind->Int->Nat->Int}(h:sh f x y=.some v):∃ k a k' b,x=.int k a∧y=.int k' (.ofNat b)∧v=.int k (f k a b):=by
 unfold sh at h
 cases hx:asInt x with
 | no=>rw [hx] at h;cases h
 | int k a=>
  rw [hx] at h
  cases hy:asNat y with
  | no=>rw [hy] at h;cases h
  | n b=>rw [hy] at h;cases h;obtain ⟨k',rfl⟩:=asNat_eq hy;exact ⟨k,a,k',b,asInt_eq hx,rfl,rfl⟩
theorem strs_some {f:List Nat->List Nat->AV}(h:strs f x y=.some v):∃ a b,x=.str a∧y=.str b∧v=f a b:=by
 unfold strs at h
 cases hx:asStr x with
 | no=>rw [hx] at h;cases h
 | s a=>
  rw [hx] at h
  cases hy:asStr y with
  | no=>rw [hy] at h;cases h
  | s b=>rw [hy] at h;cases h;exact ⟨a,b,asStr_eq hx,asStr_eq hy,rfl⟩
theorem strAdd_some (h:strAdd x y=.some v):∃ a b,x=.str a∧y=.str b∧a.length+b.length≤1000000∧v=.str (appL a b):=by
 unfold strAdd at h
 cases hx:asStr x with
 | no=>rw [hx] at h;cases h
 | s a=>
  rw [hx] at h
  cases hy:asStr y with
  | no=>rw [hy] at h;cases h
  | s b=>
   rw [hy] at h
   dsimp only at h
   cases hb:Nat.ble (lenL a+lenL b) 1000000 with
   | false=>rw [hb] at h;cases h
   | true=>
    rw [hb] at h;cases h
    have:=Nat.le_of_ble_eq_true hb
    rw [lenL_eq,lenL_eq] at this
    exact ⟨a,b,asStr_eq hx,asStr_eq hy,this,rfl⟩
theorem orE_some {x y:OV}(h:orE x y=.some v):x=.some v∨y=.some v:=by
 cases x with
 | none=>exact .inr h
 | some a=>exact .inl h
def BinOk (P:Program) (w:World) (γ:Gam) (op:BinOp) (ty:TypeId) (x y:Value) (v:AV):Prop:=∃ v',(binOp op ty x y).run P w=.ok v' w∧VR γ v v'
theorem tdivQ_eq (a b:Int):tdivQ a b=a.tdiv b:=by cases a <;> cases b <;> rfl
theorem tmodQ_eq (a b:Int):tmodQ a b=a.tmod b:=by
 cases a with
 | ofNat a=>cases b with
  | ofNat b=>rfl
  | negSucc b=>rfl
 | negSucc a=>rfl
theorem fdivQ_eq (a:Int) (m:Nat):fdivQ a m=a.fdiv m:=by
 cases a with
 | ofNat a=>show ((a / m:Nat):Int)=_;simp [Int.fdiv_eq_ediv_of_nonneg]
 | negSucc a=>rfl
theorem str_eq {a b:List Nat}{x y:ByteArray}(hx:x.data.toList.map UInt8.toNat=a) (hy:y.data.toList.map UInt8.toNat=b):(x.toList == y.toList)=(a == b):=by
 have key:∀ z:ByteArray,z.toList=z.data.toList:=ByteArray.toList_eq
 rw [Bool.eq_iff_iff,beq_iff_eq,beq_iff_eq,← hx,← hy,key,key]
 constructor
 ·intro h;rw [h]
 ·intro h
  exact (List.map_inj_right (fun p q e=>UInt8.toNat_inj.1 e)).1 h
theorem binA_sound {op:BinOp}{ty:TypeId}{x' y':Value}(hx:VR γ x x') (hy:VR γ y y') (h:binA op x y=.some v):BinOk P w γ op ty x' y' v:=by
 cases op with
 | add=>
  rcases orE_some h with h|h
  ·obtain ⟨k,a,b,rfl,rfl,rfl⟩:=ar_some h
   rw [intV hx,intV hy,wrapQ_eq,addI_eq]
   exact ⟨_,by simp [binOp,Op.intArith],.int _ _⟩
  ·obtain ⟨a,b,rfl,rfl,hl,rfl⟩:=strAdd_some h
   cases hx with
   | str _ sx e1=>cases hy with
    | str _ sy e2=>
     have l1:a.length=sx.size:=by rw [← e1,List.length_map,Array.length_toList];rfl
     have l2:b.length=sy.size:=by rw [← e2,List.length_map,Array.length_toList];rfl
     refine ⟨.string (sx++sy),?_,.str _ _ ?_⟩
     ·have hlt:¬ (((sx.size+sy.size:Nat):Int)>IntKind.i64.max):=by
       have:IntKind.i64.max=9223372036854775807:=rfl
       omega
      simp only [binOp,Op.stringOp,if_neg hlt]
      rfl
     ·rw [appL_eq,← e1,← e2];simp [ByteArray.data_append]
 | sub=>
  obtain ⟨k,a,b,rfl,rfl,rfl⟩:=ar_some h
  rw [intV hx,intV hy,wrapQ_eq,subI_eq]
  exact ⟨_,by simp [binOp,Op.intArith],.int _ _⟩
 | mul=>
  obtain ⟨k,a,b,rfl,rfl,rfl⟩:=ar_some h
  rw [intV hx,intV hy,wrapQ_eq,mulI_eq]
  exact ⟨_,by simp [binOp,Op.intArith],.int _ _⟩
 | quo=>
  obtain ⟨k,a,b,rfl,rfl,hb,rfl⟩:=dvd_some h
  rw [intV hx,intV hy,wrapQ_eq,tdivQ_eq]
  exact ⟨_,by simp [binOp,Op.intDiv,hb],.int _ _⟩
 | rem=>
  obtain ⟨k,a,b,rfl,rfl,hb,rfl⟩:=dvd_some h
  rw [intV hx,intV hy,tmodQ_eq]
  exact ⟨_,by simp [binOp,Op.intDiv,hb],.int _ _⟩
 | and=>
  obtain ⟨k,a,b,rfl,rfl,rfl⟩:=ar_some h
  rw [intV hx,intV hy,bitsQ_eq (by intro n x y;rfl)]
  exact ⟨_,by simp [binOp,Op.intBits];rfl,.int _ _⟩
 | or=>
  obtain ⟨k,a,b,rfl,rfl,rfl⟩:=ar_some h
  rw [intV hx,intV hy,bitsQ_eq (by intro n x y;rfl)]
  exact ⟨_,by simp [binOp,Op.intBits];rfl,.int _ _⟩
 | xor=>
  obtain ⟨k,a,b,rfl,rfl,rfl⟩:=ar_some h
  rw [intV hx,intV hy,bitsQ_eq (by intro n x y;rfl)]
  exact ⟨_,by simp [binOp,Op.intBits];rfl,.int _ _⟩
 | andNot=>cases h
 | shl=>
  obtain ⟨k,a,k',b,rfl,rfl,rfl⟩:=sh_some h
  rw [intV hx,intV hy,wrapQ_eq,mulI_eq]
  refine ⟨_,?_,.int _ _⟩
  have hb0:¬ ((b:Int)<0):=by omega
  simp [binOp,Op.shift,Nat.min_def,hb0]
 | shr=>
  obtain ⟨k,a,k',b,rfl,rfl,rfl⟩:=sh_some h
  rw [intV hx,intV hy,fdivQ_eq]
  refine ⟨_,?_,.int _ _⟩
  have hb0:¬ ((b:Int)<0):=by omega
  simp [binOp,Op.shift,Nat.min_def,hb0]
 | eql=>
  rcases orE_some h with h|h
  ·obtain ⟨k,a,b,rfl,rfl,rfl⟩:=cmp_some h
   rw [intV hx,intV hy,eqI_eq]
   exact ⟨_,by simp [binOp,Op.intCmp],.bool _⟩
  ·obtain ⟨a,b,rfl,rfl,rfl⟩:=strs_some h
   cases hx with
   | str _ sx e1=>cases hy with
    | str _ sy e2=>
     rw [eqNs_eq,← str_eq e1 e2]
     exact ⟨_,by simp only [binOp,Op.stringOp];rfl,.bool _⟩
 | neq=>
  rcases orE_some h with h|h
  ·obtain ⟨k,a,b,rfl,rfl,rfl⟩:=cmp_some h
   rw [intV hx,intV hy,eqI_eq]
   exact ⟨_,by simp [binOp,Op.intCmp];rfl,.bool _⟩
  ·obtain ⟨a,b,rfl,rfl,rfl⟩:=strs_some h
   cases hx with
   | str _ sx e1=>cases hy with
    | str _ sy e2=>
     rw [eqNs_eq,← str_eq e1 e2]
     exact ⟨_,by simp only [binOp,Op.stringOp];rfl,.bool _⟩
 | lss=>
  obtain ⟨k,a,b,rfl,rfl,rfl⟩:=cmp_some h
  rw [intV hx,intV hy,ltI_eq]
  exact ⟨_,by simp [binOp,Op.intCmp],.bool _⟩
 | leq=>
  obtain ⟨k,a,b,rfl,rfl,rfl⟩:=cmp_some h
  rw [intV hx,intV hy,ltI_eq]
  exact ⟨.bool (decide (a≤b)),by simp [binOp,Op.intCmp],by rw [show (!decide (b<a))=decide (a≤b) by rw [Bool.eq_iff_iff];simp];exact .bool _⟩
 | gtr=>
  obtain ⟨k,a,b,rfl,rfl,rfl⟩:=cmp_some h
  rw [intV hx,intV hy,ltI_eq]
  exact ⟨_,by simp [binOp,Op.intCmp],.bool _⟩
 | geq=>
  obtain ⟨k,a,b,rfl,rfl,rfl⟩:=cmp_some h
  rw [intV hx,intV hy,ltI_eq]
  exact ⟨.bool (decide (b≤a)),by simp [binOp,Op.intCmp],by rw [show (!decide (a<b))=decide (b≤a) by rw [Bool.eq_iff_iff];simp];exact .bool _⟩
end
end Go.AM
namespace Go.AM
section
variable {P:Program}{γ:Gam}{s:St}{w:World}{t:AT}{ρ:Operand->Value}
theorem run_eqGuard_int (op:BinOp) (ty:TypeId) (x y:Operand) (k:IntKind) (a:Int) (b:Value):(eqGuard op ty x y (.int k a) b).run P w=.ok () w:=by
 cases op <;> simp [eqGuard]
theorem run_eqGuard_str (op:BinOp) (ty:TypeId) (x y:Operand) (a:ByteArray) (b:Value):(eqGuard op ty x y (.string a) b).run P w=.ok () w:=by
 cases op <;> simp [eqGuard]
variable {op:BinOp}{y v:AV}
theorem bin_first {x:AV}(h:binA op x y=.some v):(∃ k a,x=.int k a)∨(∃ a,x=.str a):=by
 cases op with
 | add=>
  rcases orE_some h with h|h
  ·obtain ⟨k,a,b,e,_⟩:=ar_some h;exact .inl ⟨k,a,e⟩
  ·obtain ⟨a,b,e,_⟩:=strAdd_some h;exact .inr ⟨a,e⟩
 | sub=>obtain ⟨k,a,b,e,_⟩:=ar_some h;exact .inl ⟨k,a,e⟩
 | mul=>obtain ⟨k,a,b,e,_⟩:=ar_some h;exact .inl ⟨k,a,e⟩
 | quo=>obtain ⟨k,a,b,e,_⟩:=dvd_some h;exact .inl ⟨k,a,e⟩
 | rem=>obtain ⟨k,a,b,e,_⟩:=dvd_some h;exact .inl ⟨k,a,e⟩
 | and=>obtain ⟨k,a,b,e,_⟩:=ar_some h;exact .inl ⟨k,a,e⟩
 | or=>obtain ⟨k,a,b,e,_⟩:=ar_some h;exact .inl ⟨k,a,e⟩
 | xor=>obtain ⟨k,a,b,e,_⟩:=ar_some h;exact .inl ⟨k,a,e⟩
 | andNot=>cases h
 | shl=>obtain ⟨k,a,k',b,e,_⟩:=sh_some h;exact .inl ⟨k,a,e⟩
 | shr=>obtain ⟨k,a,k',b,e,_⟩:=sh_some h;exact .inl ⟨k,a,e⟩
 | eql=>
  rcases orE_some h with h|h
  ·obtain ⟨k,a,b,e,_⟩:=cmp_some h;exact .inl ⟨k,a,e⟩
  ·obtain ⟨a,b,e,_⟩:=strs_some h;exact .inr ⟨a,e⟩
 | neq=>
  rcases orE_some h with h|h
  ·obtain ⟨k,a,b,e,_⟩:=cmp_some h;exact .inl ⟨k,a,e⟩
  ·obtain ⟨a,b,e,_⟩:=strs_some h;exact .inr ⟨a,e⟩
 | lss=>obtain ⟨k,a,b,e,_⟩:=cmp_some h;exact .inl ⟨k,a,e⟩
 | leq=>obtain ⟨k,a,b,e,_⟩:=cmp_some h;exact .inl ⟨k,a,e⟩
 | gtr=>obtain ⟨k,a,b,e,_⟩:=cmp_some h;exact .inl ⟨k,a,e⟩
 | geq=>obtain ⟨k,a,b,e,_⟩:=cmp_some h;exact .inl ⟨k,a,e⟩
variable {o:Oper}{ty yt:Nat}{x:Operand}{a b:AO}{s':St}
theorem bin_sound (hs:Sim P γ s w) {y:Operand}(hx:aop x=some a) (hy:aop y=some b) (ho:o.op=.binOp op ty x y yt) (he:Evs γ t ρ [x,y])
 (h:bin'A op a b t s=.ok v s'):OpOk P γ s w ρ o v s':=by
 obtain ⟨u1,hu1,h⟩:=wth_ok h
 obtain ⟨u2,hu2,h⟩:=wth_ok h
 obtain ⟨hb,rfl⟩:=ret_ok h
 have h1:=he x (by simp) a u1 hx hu1
 have h2:=he y (by simp) b u2 hy hu2
 obtain ⟨v',hr,hv⟩:=binA_sound (P:=P) (w:=w) (ty:=ty) h1 h2 hb
 refine OpOk.still hs v' ?_ hv
 have hg:(eqGuard op ty x y (ρ x) (ρ y)).run P w=.ok () w:=by
  rcases bin_first hb with ⟨k,n,rfl⟩|⟨l,rfl⟩
  ·rw [intV h1];exact run_eqGuard_int _ _ _ _ _ _ _
  ·generalize ρ x=vx at h1
   cases h1 with
   | str _ sx e=>exact run_eqGuard_str _ _ _ _ _ _
 simp only [execOp,ho,Sem.run_bind,hg,Result.andThen_ok,hr,Sem.run_pure]
theorem un_sound (hs:Sim P γ s w) {op:UnOp}(hx:aop x=some a) (ho:o.op=.unOp op ty x) (he:Evs γ t ρ [x])
 (h:un'A op a t s=.ok v s'):OpOk P γ s w ρ o v s':=by
 obtain ⟨u,hu,h⟩:=wth_ok h
 obtain ⟨hb,rfl⟩:=ret_ok h
 have h1:=he x (by simp) a u hx hu
 cases op with
 | not=>
  unfold unA at hb
  cases hc:asBool u with
  | no=>rw [hc] at hb;cases hb
  | tt=>rw [hc] at hb;cases hb;rw [asBool_tt hc] at h1;exact OpOk.still hs (.bool false) (by simp [execOp,ho,Op.unary,boolV h1]) (.bool _)
  | ff=>rw [hc] at hb;cases hb;rw [asBool_ff hc] at h1;exact OpOk.still hs (.bool true) (by simp [execOp,ho,Op.unary,boolV h1]) (.bool _)
 | neg=>
  unfold unA at hb
  cases hc:asInt u with
  | no=>rw [hc] at hb;cases hb
  | int k n=>
   rw [hc] at hb;cases hb;rw [asInt_eq hc] at h1
   refine OpOk.still hs (.int k (k.wrap (0-n))) (by simp [execOp,ho,Op.unary,intV h1,Op.intArith]) ?_
   rw [wrapQ_eq,subI_eq];exact .int _ _
 | xor=>
  unfold unA at hb
  cases hc:asInt u with
  | no=>rw [hc] at hb;cases hb
  | int k n=>
   rw [hc] at hb;cases hb;rw [asInt_eq hc] at h1
   refine OpOk.still hs (.int k (bitsS (fun _=>BitVec.xor) k (if k.signed then -1 else k.max) n)) (by simp [execOp,ho,Op.unary,intV h1,Op.intBits];rfl) ?_
   rw [bitsQ_eq (by intro n x y;rfl)];exact .int _ _
 | _=>cases hb
def isNeq:BinOp->Bool|.neq=>true|_=>false
theorem run_equal_of (ty:TypeId) {x y:Value}{b:Bool}(h:∀ d,(Op.equalIn (d+1) ty x y).run P w=.ok b w):(Op.equal ty x y).run P w=.ok b w:=h 9999
variable {x' y':Value}{c:Bool}{X Y:Operand}
theorem eqb_fin {kd:Nat}{ty:TypeId}(op:BinOp) (hop:op=.eql∨op=.neq) (hg:(eqGuard op ty X Y x' y').run P w=.ok () w)
 (h1:binOp .eql ty x' y'=(do pure (.bool (← Op.equal ty x' y')))) (h2:binOp .neq ty x' y'=(do pure (.bool (!(← Op.equal ty x' y'))))) (h:(Op.equal ty x' y').run P w=.ok c w):
 (eqGuard op ty X Y x' y').run P w=.ok () w∧(binOp op ty x' y').run P w=.ok (.bool (negB (isNeq op) c)) w:=by
 refine ⟨hg,?_⟩
 rcases hop with rfl|rfl
 ·rw [h1];simp [h,negB,isNeq]
 ·rw [h2];simp [h,negB,isNeq]
theorem run_eqGuard_any (op:BinOp) (ty:TypeId) (X Y:Operand) {a b:Value}(h1:∀ x,a≠.agg x) (h2:a≠.nilIface∨b≠.nilIface):(eqGuard op ty X Y a b).run P w=.ok () w:=by
 unfold eqGuard
 cases op <;> simp <;> (split <;> first|(rcases h2 with h2|h2 <;> exact absurd rfl h2)|exact absurd rfl (h1 _)|simp)
variable {kd:Nat}
set_option maxHeartbeats 2000000 in
theorem eqb_run {ty:TypeId}{x:AV}(op:BinOp) (hop:op=.eql∨op=.neq) (hk:baseK P ty=some kd) (hx:VR γ x x') (hy:VR γ y y') (h:eqbA kd x y=some c):
 (eqGuard op ty X Y x' y').run P w=.ok () w∧(binOp op ty x' y').run P w=.ok (.bool (negB (isNeq op) c)) w:=by
 have hu:(kd=0->P.underlying ty=some .bool)∧(kd=1->∃ e,P.underlying ty=some (.pointer e))∧(kd=2->∃ e,P.underlying ty=some (.slice e))∧(kd=3->∃ e,P.underlying ty=some (.interface e))∧(kd=4->∃ a b c,P.underlying ty=some (.func a b c)):=by
  unfold baseK at hk
  split at hk <;> first|(cases hk;simp_all;done)|cases hk
 obtain ⟨u0,u1,u2,u3,u4⟩:=hu
 unfold eqbA at h
 split at h
 ·have hu:=u0 rfl
  cases h
  rw [boolV hx,boolV hy]
  (refine eqb_fin (kd:=0) op hop ?_ ?_ ?_ ?_;exact run_eqGuard_any _ _ _ _ (by simp) (by simp);rfl;rfl;exact run_equal_of ty fun d=>by simp [Op.equalIn,run_underlying hu])
 all_goals first
  | (obtain ⟨e,hu⟩:=u1 rfl
     cases h;cases hx <;> cases hy <;>
     (refine eqb_fin (kd:=0) op hop ?_ ?_ ?_ ?_;exact run_eqGuard_any _ _ _ _ (by simp) (by simp);rfl;rfl;exact run_equal_of ty fun d=>by simp [Op.equalIn,run_underlying hu]))
  | (obtain ⟨e,hu⟩:=u2 rfl
     cases h;cases hx <;> cases hy <;>
     (refine eqb_fin (kd:=0) op hop ?_ ?_ ?_ ?_;exact run_eqGuard_any _ _ _ _ (by simp) (by simp);rfl;rfl;exact run_equal_of ty fun d=>by simp [Op.equalIn,run_underlying hu]))
  | (obtain ⟨e,hu⟩:=u3 rfl
     cases h;cases hx <;> cases hy <;>
     (refine eqb_fin (kd:=0) op hop ?_ ?_ ?_ ?_;exact run_eqGuard_any _ _ _ _ (by simp) (by simp);rfl;rfl;exact run_equal_of ty fun d=>by simp [Op.equalIn,run_underlying hu]))
  | (obtain ⟨a,b,e,hu⟩:=u4 rfl
     cases h;cases hx <;> cases hy <;>
     (refine eqb_fin (kd:=0) op hop ?_ ?_ ?_ ?_;exact run_eqGuard_any _ _ _ _ (by simp) (by simp);rfl;rfl;exact run_equal_of ty fun d=>by simp [Op.equalIn,run_underlying hu]))
  | (cases h;done)
theorem eqb_sound (hs:Sim P γ s w) {neg:Bool}{y:Operand}(hop:(op=.eql∧neg=false)∨(op=.neq∧neg=true)) (hk:baseK P ty=some kd) (hx:aop x=some a) (hy:aop y=some b)
 (ho:o.op=.binOp op ty x y yt) (he:Evs γ t ρ [x,y]) (h:eqb'A kd neg a b t s=.ok v s'):OpOk P γ s w ρ o v s':=by
 obtain ⟨u1,hu1,h⟩:=wth_ok h
 obtain ⟨u2,hu2,h⟩:=wth_ok h
 obtain ⟨c,hc,h⟩:=opt_ok h
 obtain ⟨rfl,rfl⟩:=ok_inj h
 have h1:=he x (by simp) a u1 hx hu1
 have h2:=he y (by simp) b u2 hy hu2
 obtain ⟨r1,r2⟩:=eqb_run (P:=P) (w:=w) (X:=x) (Y:=y) op (by rcases hop with ⟨h,_⟩|⟨h,_⟩ <;> simp [h]) hk h1 h2 hc
 refine OpOk.still hs (.bool (negB neg c)) ?_ (.bool _)
 have e:isNeq op=neg:=by rcases hop with ⟨rfl,rfl⟩|⟨rfl,rfl⟩ <;> rfl
 rw [e] at r2
 simp only [execOp,ho,Sem.run_bind,r1,Result.andThen_ok,r2,Sem.run_pure]
end
end Go.AM
namespace Go.AM
section
variable {P:Program}{γ:Gam}{s:St}{w:World}{t:AT}{ρ:Operand->Value}
variable {ty:Nat}
theorem eq1_run {kd:Nat}{x y:AV}{x' y':Value}{c:Bool}(hk:plainK P ty=some kd) (hx:VR γ x x') (hy:VR γ y y') (h:eq1 kd x y=some c) (d:Nat):(Op.equalIn (d+1) ty x' y').run P w=.ok c w:=by
 have hu:(kd=0->∃ k,P.underlying ty=some (.int k))∧(kd=1->P.underlying ty=some .bool)∧(kd=2->P.underlying ty=some .string):=by
  unfold plainK at hk
  split at hk <;> first|(cases hk;simp_all;done)|cases hk
 obtain ⟨u0,u1,u2⟩:=hu
 unfold eq1 at h
 split at h
 ·rename_i k a k' b
  obtain ⟨kk,hu⟩:=u0 rfl
  rw [intV hx,intV hy]
  cases hkk:eqK k k' with
  | false=>rw [hkk] at h;cases h
  | true=>rw [hkk] at h;cases h;cases kCode_inj hkk;rw [eqI_eq];exact run_equalIn_int w d ty k kk a b hu
 ·cases h
  rw [boolV hx,boolV hy]
  exact run_equalIn_bool' w d ty _ _ (u1 rfl)
 ·cases h
  cases hx with
  | str _ sx e1=>cases hy with
   | str _ sy e2=>
    rw [eqNs_eq,← str_eq e1 e2]
    exact run_equalIn_string w d ty _ _ (u2 rfl)
 ·cases h
variable {xs ys:Array Value}
theorem flat_run (d:Nat):∀ (fs:List Field) (i:Nat) (ks:List Nat) (l m:List AV) (c:Bool),flatFields P fs i=some ks->eqfA ks l m=some c->
 All2 (VR γ) l (xs.toList.drop i)->All2 (VR γ) m (ys.toList.drop i)->(Op.eqFields (d+1) xs ys fs).run P w=.ok c w:=by
 intro fs
 induction fs with
 | nil=>
  intro i ks l m c hf he h1 h2
  cases hf
  cases l <;> cases m <;> first|(cases he;simp [Op.eqFields])|cases he
 | cons f fs ih=>
  intro i ks l m c hf he h1 h2
  unfold flatFields at hf
  split at hf
  ·cases hf
  ·rename_i hn
   split at hf
   ·rename_i k r hk hr
    cases hf
    have hname : f.name ≠ "_" := fun e => hn (.inl e)
    have hoff:f.offset=i:=Classical.byContradiction fun e=>hn (.inr e)
    cases l with
    | nil=>cases he
    | cons x l=>cases m with
     | nil=>cases he
     | cons y m=>
      have hpl:aggT P f.type=some false:=by
       unfold plainK at hk
       unfold aggT
       split at hk <;> first|(rename_i hu;rw [hu])|cases hk
      obtain ⟨x',hx',hRx⟩:=h1.get (i:=0) (a:=x) (by simp)
      obtain ⟨y',hy',hRy⟩:=h2.get (i:=0) (a:=y) (by simp)
      rw [List.getElem?_drop] at hx' hy'
      have ex:xs[i]?=some x':=by simpa using hx'
      have ey:ys[i]?=some y':=by simpa using hy'
      have t1:All2 (VR γ) l (xs.toList.drop (i+1)):=by have:=h1.drop 1;simpa [List.drop_drop] using this
      have t2:All2 (VR γ) m (ys.toList.drop (i+1)):=by have:=h2.drop 1;simpa [List.drop_drop] using this
      simp only [eqfA] at he
      simp only [Op.eqFields,hname,ne_eq,not_false_eq_true,if_true,hoff,Sem.run_bind,part1 hpl ex,part1 hpl ey,Result.andThen_ok]
      cases hq:eq1 k x y with
      | none=>rw [hq] at he;cases he
      | some b=>
       rw [hq] at he
       rw [eq1_run hk hRx hRy hq d]
       cases b with
       | true=>simpa using ih (i+1) r l m c hr he t1 t2
       | false=>cases he;simp
   ·cases hf
variable {e:Nat}
theorem items_run {k:Nat}(hk:plainK P e=some k) (d:Nat):∀ (n i:Nat) (l m:List AV) (c:Bool),eqfA (List.replicate n k) l m=some c->
 All2 (VR γ) l (xs.toList.drop i)->All2 (VR γ) m (ys.toList.drop i)->(Op.eqItems (d+1) e 1 xs ys (List.range' i n)).run P w=.ok c w:=by
 have hpl:aggT P e=some false:=by
  unfold plainK at hk
  unfold aggT
  split at hk <;> first|(rename_i hu;rw [hu])|cases hk
 intro n
 induction n with
 | zero=>
  intro i l m c he h1 h2
  cases l <;> cases m <;> first|(cases he;simp [Op.eqItems])|cases he
 | succ n ih=>
  intro i l m c he h1 h2
  rw [List.replicate_succ] at he
  cases l with
  | nil=>cases he
  | cons x l=>cases m with
   | nil=>cases he
   | cons y m=>
    obtain ⟨x',hx',hRx⟩:=h1.get (i:=0) (a:=x) (by simp)
    obtain ⟨y',hy',hRy⟩:=h2.get (i:=0) (a:=y) (by simp)
    rw [List.getElem?_drop] at hx' hy'
    have ex:xs[i]?=some x':=by simpa using hx'
    have ey:ys[i]?=some y':=by simpa using hy'
    have t1:All2 (VR γ) l (xs.toList.drop (i+1)):=by have:=h1.drop 1;simpa [List.drop_drop] using this
    have t2:All2 (VR γ) m (ys.toList.drop (i+1)):=by have:=h2.drop 1;simpa [List.drop_drop] using this
    simp only [eqfA] at he
    simp only [List.range'_succ,Op.eqItems,Nat.mul_one,Sem.run_bind,part1 hpl ex,part1 hpl ey,Result.andThen_ok]
    cases hq:eq1 k x y with
    | none=>rw [hq] at he;cases he
    | some b=>
     rw [hq] at he
     rw [eq1_run hk hRx hRy hq d]
     cases b with
     | true=>simpa using ih (i+1) l m c he t1 t2
     | false=>cases he;simp
variable {o:Oper}{x y:Operand}{a b:AO}{v:AV}{s':St}
theorem eqf_sound (hs:Sim P γ s w) {op:BinOp}{yt:Nat}{ks:List Nat}{neg:Bool}(hop:(op=.eql∧neg=false)∨(op=.neq∧neg=true)) (hk:flatT P ty=some ks) (hx:aop x=some a) (hy:aop y=some b)
 (ho:o.op=.binOp op ty x y yt) (he:Evs γ t ρ [x,y]) (h:eqf'A ks neg a b t s=.ok v s'):OpOk P γ s w ρ o v s':=by
 obtain ⟨u1,hu1,h⟩:=wth_ok h
 obtain ⟨u2,hu2,h⟩:=wth_ok h
 obtain ⟨l,rfl,h⟩:=agg_ok h
 obtain ⟨m,rfl,h⟩:=agg_ok h
 obtain ⟨c,hc,h⟩:=opt_ok h
 obtain ⟨rfl,rfl⟩:=ok_inj h
 obtain ⟨xs,e1,r1,_⟩:=aggV (he x (by simp) a _ hx hu1)
 obtain ⟨ys,e2,r2,_⟩:=aggV (he y (by simp) b _ hy hu2)
 unfold flatT at hk
 split at hk
 ·rename_i fs hu
  split at hk
  ·rename_i hcond
   have hf:P.fieldsOf ty=fs:=by simp [Program.fieldsOf,hu]
   have hrun:(Op.equalIn 10000 ty (.agg xs) (.agg ys)).run P w=.ok c w:=by
    rw [run_equalIn_struct w 9999 ty xs ys (by rw [hf];exact hu) hcond.1,hf]
    exact flat_run 9998 fs.toList 0 ks l m c hk hc (by simpa using r1) (by simpa using r2)
   refine OpOk.still hs (.bool (negB neg c)) ?_ (.bool _)
   rcases hop with ⟨rfl,rfl⟩|⟨rfl,rfl⟩
   ·simp only [execOp,ho,Sem.run_bind,e1,e2,run_eqGuard_agg w _ _ _ _ _ _ hcond.2,Result.andThen_ok,run_eql_struct,hrun,Sem.run_pure];rfl
   ·simp only [execOp,ho,Sem.run_bind,e1,e2,run_eqGuard_agg w _ _ _ _ _ _ hcond.2,Result.andThen_ok,run_neq_struct,hrun,Sem.run_pure];rfl
  ·cases hk
 ·rename_i n e hu
  split at hk
  ·rename_i hcond
   cases hpk:plainK P e with
   | none=>rw [hpk] at hk;cases hk
   | some kk=>
    rw [hpk] at hk
    cases hk
    have h1:P.cellsOf e=1:=by
     have:=hcond.1
     unfold szOf at this
     unfold Program.cellsOf
     rw [this];rfl
    cases hi:P.info? e with
    | none=>have:=hcond.1;unfold szOf at this;rw [hi] at this;cases this
    | some inf=>
    have hrun:(Op.equalIn 10000 ty (.agg xs) (.agg ys)).run P w=.ok c w:=by
     rw [run_equalIn_array w 9999 xs ys hu hi,h1,List.range_eq_range']
     exact items_run hpk 9998 n 0 l m c hc (by simpa using r1) (by simpa using r2)
    refine OpOk.still hs (.bool (negB neg c)) ?_ (.bool _)
    rcases hop with ⟨rfl,rfl⟩|⟨rfl,rfl⟩
    ·simp only [execOp,ho,Sem.run_bind,e1,e2,run_eqGuard_agg w _ _ _ _ _ _ hcond.2,Result.andThen_ok,run_eql_struct,hrun,Sem.run_pure];rfl
    ·simp only [execOp,ho,Sem.run_bind,e1,e2,run_eqGuard_agg w _ _ _ _ _ _ hcond.2,Result.andThen_ok,run_neq_struct,hrun,Sem.run_pure];rfl
  ·cases hk
 ·cases hk
theorem bytes_run:∀ (cs:List AV) (vs:List Value) (l:List Nat) (acc:ByteArray),bytesOf cs=some l->All2 (VR γ) cs vs->
 ∃ bs:List UInt8,bs.map UInt8.toNat=l∧vs=bs.map (fun b=>Value.int .u8 b.toNat):=by
 intro cs
 induction cs with
 | nil=>intro vs l acc h hr;cases h;cases hr;exact ⟨[],rfl,rfl⟩
 | cons c cs ih=>
  intro vs l acc h hr
  cases hr with
  | @cons _ v _ vs' h1 h2=>
   change (IR.rec none (fun k n=>Bool.rec none (Int.rec (fun a=>Bool.rec none (Option.rec none (fun r=>some (a::r)) (bytesOf cs)) (Nat.blt a 256)) (fun _=>none) n) (Nat.beq (kCode k) 4)) (asInt c):Option (List Nat))=some l at h
   cases hc:asInt c with
   | no=>rw [hc] at h;cases h
   | int k n=>
    rw [hc] at h
    dsimp only at h
    cases hk:Nat.beq (kCode k) 4 with
    | false=>rw [hk] at h;cases h
    | true=>
     rw [hk] at h
     have hku:k=.u8:=by cases k <;> first|rfl|cases hk
     subst hku
     cases n with
     | negSucc n=>cases h
     | ofNat a=>
      dsimp only at h
      cases hb:Nat.blt a 256 with
      | false=>rw [hb] at h;cases h
      | true=>
       rw [hb] at h
       rw [Nat.blt_eq] at hb
       cases hbo:bytesOf cs with
       | none=>rw [hbo] at h;cases h
       | some r=>
        rw [hbo] at h;cases h
        obtain ⟨bs,e1,e2⟩:=ih vs' r acc hbo h2
        rw [asInt_eq hc] at h1
        refine ⟨UInt8.ofNat a::bs,?_,?_⟩
        ·simp [e1];omega
        ·rw [intV h1,e2]
         simp
         omega
theorem push_bytes:∀ (bs:List UInt8) (acc:ByteArray),((bs.map (fun b=>(b.toNat:Int))).foldl (fun r n=>r.push (UInt8.ofNat n.toNat)) acc).data.toList=acc.data.toList++bs
 | [],acc=>by simp
 | b::bs,acc=>by rw [List.map_cons,List.foldl_cons,push_bytes bs];simp [ByteArray.push]
theorem b2s_sound (hs:Sim P γ s w) {sr ds:Nat}(hsr:P.underlying sr=some (.slice e)) (hd:P.underlying ds=some .string) (hu8:P.underlying e=some (.int .u8)) (hx:aop x=some a) (ho:o.op=.convert sr ds x) (he:Evs γ t ρ [x])
 (h:b2sA a t s=.ok v s'):OpOk P γ s w ρ o v s':=by
 obtain ⟨u,hu',h⟩:=wth_ok h
 have hv:=he x (by simp) a u hx hu'
 have hconv:∀ (p:Option Addr) (m c:Nat),(convert sr ds (.slice p m c)).run P w=(Conv.bytesToString (.slice p m c)).run P w:=by
  intro p m c;simp [convert,run_underlying hsr,run_underlying hd,run_underlying hu8]
 rcases sl_ok2 h with ⟨r,i,n,c,rfl,h⟩|⟨rfl,h⟩|⟨rfl,h⟩|⟨n,c,l0,rfl,h⟩
 ·obtain ⟨cs,hl,h⟩:=opt_ok h
  obtain ⟨l,hb,h⟩:=opt_ok h
  obtain ⟨rfl,rfl⟩:=ok_inj h
  obtain ⟨L,cc,hL,hval⟩:∃ L cc,γ r=some L∧ρ x=.slice (some ⟨L.b,L.o+i,none⟩) n cc:=by
   generalize ρ x=vx at hv
   cases hv with
   | sl _ _ _ c L hL=>exact ⟨L,_,hL,rfl⟩
   | slu _ _ _ c L hL=>exact ⟨L,_,hL,rfl⟩
  obtain ⟨vs,e1,hc,hR,h1⟩:=load_sound hs hl hL
  obtain ⟨bs,e2,e3⟩:=bytes_run cs vs l ByteArray.empty hb hR
  have hrun:=run_loadCells_list (P:=P) w _ vs hc
  rw [e1] at hrun
  have hb:=run_bytesToString (P:=P) w ⟨L.b,L.o+i,none⟩ n cc (bs.map (fun b=>(b.toNat:Int))) (by rw [hrun,e3];simp)
  refine OpOk.still hs (.string ((bs.map (fun b=>(b.toNat:Int))).foldl (fun r n=>r.push (UInt8.ofNat n.toNat)) ByteArray.empty)) (by simp only [execOp,ho,Sem.run_bind,hval];rw [hconv,hb];simp only [Result.andThen_ok,Sem.run_pure]) (.str _ _ ?_)
  rw [push_bytes];show List.map UInt8.toNat ([]++bs)=l;exact e2
 ·obtain ⟨rfl,rfl⟩:=ok_inj h
  generalize hxx:ρ x=vx at hv
  cases hv
  refine OpOk.still hs (.string .empty) (by simp only [execOp,ho,Sem.run_bind,hxx];rw [hconv];simp [Conv.bytesToString]) (.str _ _ rfl)
 ·obtain ⟨rfl,rfl⟩:=ok_inj h
  generalize hxx:ρ x=vx at hv
  cases hv with
  | es ad c=>
   have hb:=run_bytesToString (P:=P) w ad 0 c [] (by simp [loadCells,loadCellsFrom])
   refine OpOk.still hs (.string .empty) (by simp only [execOp,ho,Sem.run_bind,hxx];rw [hconv,hb];simp only [Result.andThen_ok,Sem.run_pure,List.foldl_nil]) (.str _ _ rfl)
 ·obtain ⟨cs,hl,h⟩:=opt_ok h
  obtain ⟨l,hb,h⟩:=opt_ok h
  obtain ⟨rfl,rfl⟩:=ok_inj h
  obtain ⟨b,i,cc,cz,vs,hval,hbz,h2,h3,h4,_,_,h5⟩:=fzV hv
  obtain ⟨us,e1,g2,hR,h1⟩:=fz_take (k:=0) hs hbz h2 h3 h4 hl
  obtain ⟨bs,e2,e3⟩:=bytes_run cs us l ByteArray.empty hb hR
  rw [Nat.add_zero] at g2
  have hrun:=run_loadCells_list (P:=P) w _ us (fz_cells hs hbz g2)
  rw [e1] at hrun
  have hb:=run_bytesToString (P:=P) w ⟨b,i,none⟩ n cc (bs.map (fun b=>(b.toNat:Int))) (by rw [hrun,e3];simp)
  refine OpOk.still hs (.string ((bs.map (fun b=>(b.toNat:Int))).foldl (fun r n=>r.push (UInt8.ofNat n.toNat)) ByteArray.empty)) (by simp only [execOp,ho,Sem.run_bind,hval];rw [hconv,hb];simp only [Result.andThen_ok,Sem.run_pure]) (.str _ _ ?_)
  rw [push_bytes];show List.map UInt8.toNat ([]++bs)=l;exact e2
variable {n:Nat}
theorem slV {r i:Nat}{c:Option Nat}{v':Value}(h:VR γ (.sl r i n c) v'):∃ L cc,γ r=some L∧v'=.slice (some ⟨L.b,L.o+i,none⟩) n cc∧(∀ k,c=some k->cc=k):=by
 cases h with
 | sl _ _ _ c L hL=>exact ⟨L,_,hL,rfl,fun k e=>Option.some.inj e⟩
 | slu _ _ _ c L hL=>exact ⟨L,_,hL,rfl,fun k e=>by cases e⟩
theorem mks_fresh {by_:Nat}{z:List AV}(hu:P.underlying ty=some (.slice e)) (hn:szOf P e=some n) (hby:byOf P e=some by_) (hz:zeroOf P e=some z) (h1n:1≤n) (hbl:by_≤4096) (hzl:z.length=n)
 (hx:aop x=some a) (hy:aop y=some b) (ho:o.op=.makeSlice ty x y) (he:Evs γ t ρ [x,y]) (h:mksA e n z a b t s=.ok v s'):Fresh P γ w ρ o s v s':=by
 obtain ⟨l,hl,h⟩:=nat_ok h
 obtain ⟨c,hc,h⟩:=nat_ok h
 obtain ⟨hcond,h⟩:=gd_ok h
 obtain ⟨rfl,rfl⟩:=ok_inj h
 obtain ⟨k1,h1⟩:=natO_n hl
 obtain ⟨k2,h2⟩:=natO_n hc
 have v1:ρ x=.int k1 (l:Int):=intV (he x (by simp) a _ hx h1)
 have v2:ρ y=.int k2 (c:Int):=intV (he y (by simp) b _ hy h2)
 simp only [Bool.and_eq_true] at hcond
 have hlc:=Nat.le_of_ble_eq_true hcond.1
 have hcm:=Nat.le_of_ble_eq_true hcond.2
 obtain ⟨i,zv,hi,hzz,ha⟩:=zeroOf_some hz
 obtain ⟨y1,y2⟩:=avs_VR (γ:=γ) ha
 have hzs:zv.cells.size=n:=by rw [← hzl];simpa using y1.length.symm
 obtain ⟨q1,q2⟩:=zeros_VR y1 y2 (by omega) c
 rw [hzs] at q1 q2
 rw [rep_eq]
 refine ⟨.row e (repL z c),fun r=>.sl r 0 l (some c),.cells _ e,_,n,.slice (some ⟨w.heap.size,0,none⟩) l c,rfl,rfl,?_,fun γ' r hle hr=>⟨rowObj hn q1 q2 hle,.sl r 0 l c _ hr hlc⟩⟩
 have hib:i.bytes=by_:=by simp [byOf,hi] at hby;exact hby
 have hw1:IntKind.i64.wrap (l:Int)=(l:Int):=IntWalk.i64_in (l:Int) ⟨by omega,by omega⟩
 have hw2:IntKind.i64.wrap (c:Int)=(c:Int):=IntWalk.i64_in (c:Int) ⟨by omega,by omega⟩
 have hbc:i.bytes*c≤4096*1000000:=by rw [hib];exact Nat.mul_le_mul hbl hcm
 have hroom:¬ (c*i.bytes>roomBytes):=by rw [Nat.mul_comm];simp only [roomBytes];omega
 have hlarge:((decide ((c:Int)<0) || decide ((i.bytes:Int)*(c:Int)>2^48)) || decide ((l:Int)<0) || decide ((l:Int)>(c:Int)))=false:=by
  have:(i.bytes:Int)*(c:Int)=((i.bytes*c:Nat):Int):=by simp
  rw [this]
  simp
  omega
 simp only [execOp,ho,Instr.makeSlice,Sem.run_bind,run_underlying hu,Result.andThen_ok,Go.asInt,asIntOf,v1,v2,Sem.run_pure,typeInfo,run_program,hi,hw1,hw2,hlarge]
 rw [if_neg (by simp)]
 have hroom':(askRoom (c*i.bytes)).run P w=.ok () w:=by unfold askRoom;rw [if_neg hroom];rfl
 simp only [Int.toNat_natCast,Sem.run_bind,hroom',Result.andThen_ok,run_sizeOf hn]
 by_cases h0:c*n=0
 ·have hrow:(Array.range (c*n)).map (fun x=>(#[]:Array Value)[x % (#[]:Array Value).size]!)=(Array.range (c*n)).map (fun i=>zv.cells[i % n]!):=by
   rw [h0];simp
  simp only [if_pos h0,Sem.run_bind,Sem.run_pure,Result.andThen_ok,hrow,newRow,run_new']
 ·simp only [if_neg h0,Sem.run_bind,Sem.run_pure,run_zeroValue hi hzz,Result.andThen_ok,hzs,newRow,run_new']
variable {d:Nat}
theorem optNat_n {x:Option AO}(h:optNat t x d=.n n):(x=none∧n=d)∨∃ a k,x=some a∧ev a t=.some (.int k (.ofNat n)):=by
 cases x with
 | none=>cases h;exact .inl ⟨rfl,rfl⟩
 | some a=>obtain ⟨k,hk⟩:=natO_n h;exact .inr ⟨a,k,rfl,hk⟩
theorem run_sliceBound (k:IntKind) (i y:Nat) (code:BoundsCode) (h:i≤y):(Instr.sliceBound (.int k (i:Int)) y code).run P w=.ok i w:=by
 simp [Instr.sliceBound,asIntOf,h]
def BoundIs (ρ:Operand->Value) (x:Option Operand) (d n:Nat):Prop:=(x=none∧n=d)∨∃ y k,x=some y∧ρ y=.int k (n:Int)
theorem boundIs {x:Option Operand}{a:Option AO}(hx:optO x=some a) (he:∀ y,x=some y->Evs γ t ρ [y]) (h:optNat t a d=.n n):BoundIs ρ x d n:=by
 cases x with
 | none=>cases hx;rcases optNat_n h with ⟨_,e⟩|⟨a,k,e,_⟩
         ·exact .inl ⟨rfl,e⟩
         ·cases e
 | some y=>
  simp only [optO] at hx
  cases ha:aop y with
  | none=>rw [ha] at hx;cases hx
  | some b=>
   rw [ha] at hx;cases hx
   rcases optNat_n h with ⟨e,_⟩|⟨b',k,e,hk⟩
   ·cases e
   ·cases e;exact .inr ⟨y,k,rfl,intV (he y rfl y (by simp) b _ ha hk)⟩
variable {lo hi mx:Option Operand}{m:Nat}
theorem run_sliceBounds (sl:Bool) {len cap:Nat}{l h:Nat}(h1:BoundIs ρ lo 0 l) (h2:BoundIs ρ hi len h) (h3:BoundIs ρ mx cap m) (hm:mx.isSome=true->hi.isSome=true) (hlh:l≤h) (hhm:h≤m) (hmc:m≤cap):
 (Instr.sliceBounds sl len cap (lo.map ρ) (hi.map ρ) (mx.map ρ)).run P w=.ok (l,h,m) w:=by
 rcases h1 with ⟨rfl,rfl⟩|⟨y1,k1,rfl,hy1⟩ <;> rcases h2 with ⟨rfl,rfl⟩|⟨y2,k2,rfl,hy2⟩ <;> rcases h3 with ⟨rfl,rfl⟩|⟨y3,k3,rfl,hy3⟩ <;>
  first
  | (simp [Instr.sliceBounds, *,run_sliceBound];done)
  | exact absurd (hm rfl) (by simp)
variable {es:Nat}{alo ahi amx:Option AO}
theorem slc_sound (hs:Sim P γ s w) (hu:P.underlying ty=some (.slice e)) (hes:szOf P e=some es)
 (hx:aop x=some a) (hlo:optO lo=some alo) (hhi:optO hi=some ahi) (hmx:optO mx=some amx) (hm:amx.isSome=true->ahi.isSome=true) (ho:o.op=.slice ty x lo hi mx)
 (he:Evs γ t ρ ([x]++lo.toList++hi.toList++mx.toList)) (h:slcA es a alo ahi amx t s=.ok v s'):OpOk P γ s w ρ o v s':=by
 obtain ⟨u,hu',h⟩:=wth_ok h
 have hv:=he x (by simp) a u hx hu'
 have hlo':∀ y,lo=some y->Evs γ t ρ [y]:=fun y hy z hz=>he z (by simp at hz;subst hz;simp [hy])
 have hhi':∀ y,hi=some y->Evs γ t ρ [y]:=fun y hy z hz=>he z (by simp at hz;subst hz;simp [hy])
 have hmx':∀ y,mx=some y->Evs γ t ρ [y]:=fun y hy z hz=>he z (by simp at hz;subst hz;simp [hy])
 have hms:mx.isSome=true->hi.isSome=true:=by
  intro hq
  cases mx with
  | none=>cases hq
  | some y=>cases hi with
   | some z=>rfl
   | none=>
    simp only [optO] at hmx hhi
    cases hhi
    cases hay:aop y with
    | none=>rw [hay] at hmx;cases hmx
    | some b=>rw [hay] at hmx;cases hmx;exact absurd (hm rfl) (by simp)
 have hfin:∀ {ad:Option Addr}{n c l h m:Nat},ρ x=.slice ad n c->BoundIs ρ lo 0 l->BoundIs ρ hi n h->BoundIs ρ mx c m->l≤h->h≤m->m≤c->
  (execOp ρ o).run P w=.ok (.value (.slice (if m=l then ad else ad.map (·.add (l*es))) (h-l) (m-l))) w:=by
  intro ad n c l h m e1 e2 e3 e4 e5 e6 e7
  simp only [execOp,ho,Instr.sliceAt,Sem.run_bind,run_underlying hu,Result.andThen_ok,e1,Instr.slice,run_sliceBounds (P:=P) (w:=w) true e2 e3 e4 hms e5 e6 e7,run_sizeOf hes,Sem.run_pure]
 rcases sl_ok2 h with ⟨r,i,n,c,rfl,h⟩|⟨rfl,h⟩|⟨rfl,h⟩|⟨n,cap,l0,rfl,h⟩
 ·obtain ⟨l,hl,h⟩:=nat_ok h
  obtain ⟨q,hq,h⟩:=nat_ok h
  have b1:=boundIs hlo hlo' hl
  have b2:=boundIs hhi hhi' hq
  cases amx with
  | none=>
   have hmn:mx=none:=by
    cases mx with
    | none=>rfl
    | some y=>simp only [optO] at hmx;cases hay:aop y <;> rw [hay] at hmx <;> cases hmx
   subst hmn
   change slc1 es r i n c l q s=.ok v s' at h
   cases c with
   | some c=>
    obtain ⟨hc,h⟩:=gd_ok h
    obtain ⟨rfl,rfl⟩:=ok_inj h
    simp only [Bool.and_eq_true] at hc
    have c1:=Nat.le_of_ble_eq_true hc.1
    have c2:=Nat.le_of_ble_eq_true hc.2
    generalize hxx:ρ x=vx at hv
    cases hv with
    | sl _ _ _ _ L hL=>
     have hr:=hfin hxx b1 b2 (.inl ⟨rfl,rfl⟩) c1 c2 (Nat.le_refl _)
     refine OpOk.still hs _ hr ?_
     cases hcl:Nat.beq c l with
     | true=>
      have:=Nat.eq_of_beq_eq_true hcl
      rw [if_pos this];exact .sl _ _ _ _ L hL (by omega)
     | false=>
      have:=Nat.ne_of_beq_eq_false hcl
      rw [if_neg this]
      simp only [Option.map_some,addr_add,Nat.add_assoc];exact .sl _ _ _ _ L hL (by omega)
   | none=>
    obtain ⟨hc,h⟩:=gd_ok h
    simp only [Bool.and_eq_true] at hc
    have c1:=Nat.le_of_ble_eq_true hc.1
    have c2:=Nat.le_of_ble_eq_true hc.2
    generalize hxx:ρ x=vx at hv
    cases hv with
    | slu _ _ _ c L hL hnc hcm hcs=>
     have hr:=hfin hxx b1 b2 (.inl ⟨rfl,rfl⟩) c1 (Nat.le_trans c2 hnc) (Nat.le_refl _)
     cases hln:Nat.blt l n with
     | true=>
      rw [hln] at h
      obtain ⟨rfl,rfl⟩:=ok_inj h
      rw [Nat.blt_eq] at hln
      refine OpOk.still hs _ hr ?_
      rw [if_neg (by omega)]
      simp only [Option.map_some,addr_add,Nat.add_assoc]
      refine .slu _ _ _ _ L hL (by omega) (by omega) (fun e=>?_)
      have:=hcs (by omega)
      exact Nat.le_trans (Nat.mul_le_mul_right _ (Nat.sub_le _ _)) this
     | false=>
      rw [hln] at h
      obtain ⟨rfl,rfl⟩:=ok_inj h
      have:¬ l<n:=fun e=>by rw [← Nat.blt_eq,hln] at e;cases e
      have hq0:q-l=0:=by omega
      refine OpOk.still hs _ hr ?_
      rw [hq0]
      by_cases e:c=l
      ·rw [if_pos e];exact .es _ _
      ·rw [if_neg e];exact .es _ _
  | some m=>
   obtain ⟨mm,hmm,h⟩:=nat_ok h
   obtain ⟨hc,h⟩:=gd_ok h
   obtain ⟨rfl,rfl⟩:=ok_inj h
   simp only [Bool.and_eq_true] at hc
   have c1:=Nat.le_of_ble_eq_true hc.1.1
   have c2:=Nat.le_of_ble_eq_true hc.1.2
   have c3:=Nat.le_of_ble_eq_true hc.2
   obtain ⟨k,hmm⟩:=natO_n hmm
   obtain ⟨cc,hbm,hval,hle⟩:∃ L cc,γ r=some L∧ρ x=.slice (some ⟨L.b,L.o+i,none⟩) n cc∧mm≤cc:=by
    generalize ρ x=vx at hv
    cases hv with
    | sl _ _ _ c L hL=>exact ⟨L,c,hL,rfl,c3⟩
    | slu _ _ _ c L hL hnc=>exact ⟨L,c,hL,rfl,Nat.le_trans c3 hnc⟩
   have b3:BoundIs ρ mx hbm mm:=by
    cases mx with
    | none=>cases hmx
    | some y=>
     simp only [optO] at hmx
     cases hay:aop y with
     | none=>rw [hay] at hmx;cases hmx
     | some b=>
      rw [hay] at hmx
      obtain rfl:b=m:=by simpa using hmx
      exact .inr ⟨y,k,rfl,intV (hmx' y rfl y (by simp) b _ hay hmm)⟩
   have hr:=hfin hle.1 b1 b2 b3 c1 c2 hle.2
   refine OpOk.still hs _ hr ?_
   cases hcl:Nat.beq mm l with
   | true=>
    have:=Nat.eq_of_beq_eq_true hcl
    rw [if_pos this];exact .sl _ _ _ _ cc hval (by omega)
   | false=>
    have:=Nat.ne_of_beq_eq_false hcl
    rw [if_neg this]
    simp only [Option.map_some,addr_add,Nat.add_assoc];exact .sl _ _ _ _ cc hval (by omega)
 ·obtain ⟨l,hl,h⟩:=nat_ok h
  obtain ⟨q,hq,h⟩:=nat_ok h
  obtain ⟨m,hmq,h⟩:=nat_ok h
  obtain ⟨hc,h⟩:=gd_ok h
  obtain ⟨rfl,rfl⟩:=ok_inj h
  have hc:=Nat.eq_of_beq_eq_true hc
  have b1:=boundIs hlo hlo' hl
  have b2:=boundIs hhi hhi' hq
  have b3:=boundIs hmx hmx' hmq
  obtain rfl:l=0:=by omega
  obtain rfl:q=0:=by omega
  obtain rfl:m=0:=by omega
  generalize hxx:ρ x=vx at hv
  cases hv
  refine OpOk.still hs _ (hfin hxx b1 b2 b3 (Nat.le_refl _) (Nat.le_refl _) (Nat.le_refl _)) ?_
  exact .nils
 ·obtain ⟨l,hl,h⟩:=nat_ok h
  obtain ⟨q,hq,h⟩:=nat_ok h
  obtain ⟨m,hmq,h⟩:=nat_ok h
  obtain ⟨hc,h⟩:=gd_ok h
  obtain ⟨rfl,rfl⟩:=ok_inj h
  have hc:=Nat.eq_of_beq_eq_true hc
  have b1:=boundIs hlo hlo' hl
  have b2:=boundIs hhi hhi' hq
  have b3:=boundIs hmx hmx' hmq
  obtain rfl:l=0:=by omega
  obtain rfl:q=0:=by omega
  obtain rfl:m=0:=by omega
  generalize hxx:ρ x=vx at hv
  cases hv with
  | es ad c=>
   rcases b3 with ⟨rfl,_⟩|⟨y,k,rfl,hy⟩
   ·cases hmx
    refine OpOk.still hs _ (hfin hxx b1 b2 (.inl ⟨rfl,rfl⟩) (Nat.le_refl _) (Nat.zero_le _) (Nat.le_refl _)) ?_
    by_cases e:c=0
    ·rw [if_pos e];exact .es _ _
    ·rw [if_neg e];exact .es _ _
   ·refine OpOk.still hs _ (hfin hxx b1 b2 (.inr ⟨y,k,rfl,hy⟩) (Nat.le_refl _) (Nat.le_refl _) (Nat.zero_le _)) ?_
    simp only [optO] at hmx
    cases hay:aop y with
    | none=>rw [hay] at hmx;cases hmx
    | some b=>
     rw [hay] at hmx
     cases hmx
     exact .ez _
 ·obtain ⟨l,hl,h⟩:=nat_ok h
  obtain ⟨q,hq,h⟩:=nat_ok h
  have b1:=boundIs hlo hlo' hl
  have b2:=boundIs hhi hhi' hq
  obtain ⟨b,i,cc,cz,vs,hval,hbz,h2,h3,h4,hnc,hck,h5⟩:=fzV hv
  cases amx with
  | none=>
   have hmn:mx=none:=by
    cases mx with
    | none=>rfl
    | some y=>simp only [optO] at hmx;cases hay:aop y <;> rw [hay] at hmx <;> cases hmx
   subst hmn
   change slcF es n cap l0 l q s=.ok v s' at h
   obtain ⟨hc,h⟩:=gd_ok h
   simp only [Bool.and_eq_true] at hc
   have c1:=Nat.le_of_ble_eq_true hc.1
   have c2:=Nat.le_of_ble_eq_true hc.2
   have hr:=hfin hval b1 b2 (.inl ⟨rfl,rfl⟩) c1 (Nat.le_trans c2 hnc) (Nat.le_refl _)
   cases hln:Nat.blt l n with
   | true=>
    rw [hln] at h
    obtain ⟨cs',ht,h⟩:=opt_ok h
    obtain ⟨rfl,rfl⟩:=ok_inj h
    rw [Nat.blt_eq] at hln
    refine OpOk.still hs _ hr ?_
    rw [if_neg (by omega)]
    simp only [Option.map_some,addr_add]
    obtain ⟨us,e1,g2,hR,h1⟩:=fz_take hs hbz h2 h3 h4 ht
    refine .fz _ _ _ us b _ _ cz hbz g2 h1 hR (by omega) ?_ (fz_hfs h5 ht)
    intro k hk
    cases cap with
    | none=>cases hk
    | some c=>cases hk;rw [hck c rfl]
   | false=>
    rw [hln] at h
    obtain ⟨rfl,rfl⟩:=ok_inj h
    have:¬ l<n:=fun e=>by rw [← Nat.blt_eq,hln] at e;cases e
    have hq0:q-l=0:=by omega
    refine OpOk.still hs _ hr ?_
    rw [hq0]
    by_cases e:cc=l
    ·rw [if_pos e];exact .es _ _
    ·rw [if_neg e];exact .es _ _
  | some m=>
   obtain ⟨mm,hmm,h⟩:=nat_ok h
   obtain ⟨hc,h⟩:=gd_ok h
   simp only [Bool.and_eq_true] at hc
   have c1:=Nat.le_of_ble_eq_true hc.1.1
   have c2:=Nat.le_of_ble_eq_true hc.1.2
   have c3:=Nat.le_of_ble_eq_true hc.2
   obtain ⟨k,hmm⟩:=natO_n hmm
   have b3:BoundIs ρ mx cc mm:=by
    cases mx with
    | none=>cases hmx
    | some y=>
     simp only [optO] at hmx
     cases hay:aop y with
     | none=>rw [hay] at hmx;cases hmx
     | some b=>
      rw [hay] at hmx
      obtain rfl:b=m:=by simpa using hmx
      exact .inr ⟨y,k,rfl,intV (hmx' y rfl y (by simp) b _ hay hmm)⟩
   have hr:=hfin hval b1 b2 b3 c1 c2 (Nat.le_trans c3 hnc)
   cases hln:Nat.blt l mm with
   | true=>
    rw [hln] at h
    obtain ⟨cs',ht,h⟩:=opt_ok h
    obtain ⟨rfl,rfl⟩:=ok_inj h
    rw [Nat.blt_eq] at hln
    refine OpOk.still hs _ hr ?_
    rw [if_neg (by omega)]
    simp only [Option.map_some,addr_add]
    obtain ⟨us,e1,g2,hR,h1⟩:=fz_take hs hbz h2 h3 h4 ht
    exact .fz _ _ _ us b _ _ cz hbz g2 h1 hR (by omega) (fun k hk=>by cases hk;rfl) (fz_hfs h5 ht)
   | false=>
    rw [hln] at h
    obtain ⟨rfl,rfl⟩:=ok_inj h
    have:¬ l<mm:=fun e=>by rw [← Nat.blt_eq,hln] at e;cases e
    have hq0:q-l=0:=by omega
    refine OpOk.still hs _ hr ?_
    rw [hq0]
    rw [if_pos (show mm=l by omega),show mm-l=0 by omega];exact .ez _
theorem sla_sound (hs:Sim P γ s w) (hu:P.underlying ty=some (.array n e)) (hes:szOf P e=some es)
 (hx:aop x=some a) (hlo:optO lo=some alo) (hhi:optO hi=some ahi) (hmx:optO mx=some amx) (hms:mx.isSome=true->hi.isSome=true) (ho:o.op=.slice ty x lo hi mx)
 (he:Evs γ t ρ ([x]++lo.toList++hi.toList++mx.toList)) (h:slaA es n a alo ahi amx t s=.ok v s'):OpOk P γ s w ρ o v s':=by
 obtain ⟨u,hu',h⟩:=wth_ok h
 have hlo':∀ y,lo=some y->Evs γ t ρ [y]:=fun y hy z hz=>he z (by simp at hz;subst hz;simp [hy])
 have hhi':∀ y,hi=some y->Evs γ t ρ [y]:=fun y hy z hz=>he z (by simp at hz;subst hz;simp [hy])
 have hmx':∀ y,mx=some y->Evs γ t ρ [y]:=fun y hy z hz=>he z (by simp at hz;subst hz;simp [hy])
 obtain ⟨r,i,rfl,h⟩:=ptr_ok h
 obtain ⟨L,hL,hv⟩:=ptrV (he x (by simp) a _ hx hu')
 obtain ⟨l,hl,h⟩:=nat_ok h
 obtain ⟨q,hq,h⟩:=nat_ok h
 obtain ⟨m,hmq,h⟩:=nat_ok h
 obtain ⟨hc,h⟩:=gd_ok h
 obtain ⟨rfl,rfl⟩:=ok_inj h
 simp only [Bool.and_eq_true] at hc
 have c1:=Nat.le_of_ble_eq_true hc.1.1
 have c2:=Nat.le_of_ble_eq_true hc.1.2
 have c3:=Nat.le_of_ble_eq_true hc.2
 have b1:=boundIs hlo hlo' hl
 have b2:=boundIs hhi hhi' hq
 have b3:=boundIs hmx hmx' hmq
 refine OpOk.still hs (.slice (some (if m=l then ⟨L.b,L.o+i,none⟩ else (⟨L.b,L.o+i,none⟩:Addr).add (l*es))) (q-l) (m-l)) ?_ ?_
 ·simp only [execOp,ho,Instr.sliceAt,Sem.run_bind,run_underlying hu,Result.andThen_ok,hv,Instr.sureAddr,run_sliceBounds (P:=P) (w:=w) false b1 b2 b3 hms c1 c2 c3,run_sizeOf hes,Sem.run_pure]
 ·cases hcl:Nat.beq m l with
  | true=>
   have:=Nat.eq_of_beq_eq_true hcl
   rw [if_pos this];exact .sl _ _ _ _ L hL (by omega)
  | false=>
   have:=Nat.ne_of_beq_eq_false hcl
   rw [if_neg this]
   simp only [addr_add,Nat.add_assoc];exact .sl _ _ _ _ L hL (by omega)
theorem ixs_sound (hs:Sim P γ s w) (hu:P.underlying ty=some (.slice e)) (hes:szOf P e=some es) (hx:aop x=some a) (hy:aop y=some b) (ho:o.op=.indexAddr ty x y) (he:Evs γ t ρ [x,y])
 (h:ixsA es a b t s=.ok v s'):OpOk P γ s w ρ o v s':=by
 obtain ⟨u1,hu1,h⟩:=wth_ok h
 obtain ⟨u2,hu2,h⟩:=wth_ok h
 obtain ⟨i,hi,h⟩:=nat_ok h
 obtain ⟨k,rfl⟩:=asNat_eq hi
 rcases sl_ok2 h with ⟨r,o',n,c,rfl,h⟩|⟨rfl,h⟩|⟨rfl,h⟩|⟨n,c,l,rfl,h⟩
 ·obtain ⟨hc,h⟩:=gd_ok h
  obtain ⟨rfl,rfl⟩:=ok_inj h
  rw [Nat.blt_eq] at hc
  obtain ⟨L,cc,hL,hv,_⟩:=slV (he x (by simp) a _ hx hu1)
  have hv2:ρ y=.int k (i:Int):=intV (he y (by simp) b _ hy hu2)
  refine OpOk.still hs (.pointer (some ⟨L.b,L.o+(o'+i*es),none⟩)) ?_ (.ptr _ _ L hL)
  simp [execOp,ho,Instr.indexAt,hv,hv2,asIntOf,run_underlying hu,hc,run_sizeOf hes,addr_add,Nat.add_assoc]
 ·cases h
 ·cases h
 ·obtain ⟨hc,h⟩:=gd_ok h
  obtain ⟨rfl,rfl⟩:=ok_inj h
  rw [Nat.blt_eq] at hc
  obtain ⟨bb,o',cc,cz,vs,hv,hbz,h2,h3,h4,_,_,h5⟩:=fzV (he x (by simp) a _ hx hu1)
  have hv2:ρ y=.int k (i:Int):=intV (he y (by simp) b _ hy hu2)
  refine OpOk.still hs (.pointer (some ⟨bb,o'+i*es,none⟩)) ?_ (fp_drop hbz h2 h3 h4 h5)
  simp [execOp,ho,Instr.indexAt,hv,hv2,asIntOf,run_underlying hu,hc,run_sizeOf hes,addr_add]
theorem ixa_sound (hs:Sim P γ s w) (hu:P.underlying ty=some (.array n e)) (hes:szOf P e=some es) (hx:aop x=some a) (hy:aop y=some b) (ho:o.op=.indexAddr ty x y) (he:Evs γ t ρ [x,y])
 (h:ixaA n es a b t s=.ok v s'):OpOk P γ s w ρ o v s':=by
 obtain ⟨u1,hu1,h⟩:=wth_ok h
 obtain ⟨u2,hu2,h⟩:=wth_ok h
 obtain ⟨i,hi,h⟩:=nat_ok h
 obtain ⟨k,rfl⟩:=asNat_eq hi
 have hv2:ρ y=.int k (i:Int):=intV (he y (by simp) b _ hy hu2)
 rcases ptr_ok2 h with ⟨r,o',rfl,h⟩|⟨l,rfl,h⟩
 ·obtain ⟨hc,h⟩:=gd_ok h
  obtain ⟨rfl,rfl⟩:=ok_inj h
  rw [Nat.blt_eq] at hc
  obtain ⟨L,hL,hv⟩:=ptrV (he x (by simp) a _ hx hu1)
  refine OpOk.still hs (.pointer (some ⟨L.b,L.o+(o'+i*es),none⟩)) ?_ (.ptr _ _ L hL)
  simp [execOp,ho,Instr.indexAt,hv,hv2,asIntOf,run_underlying hu,hc,run_sizeOf hes,addr_add,Nat.add_assoc,Instr.sureAddr]
 ·obtain ⟨hc,h⟩:=gd_ok h
  obtain ⟨rfl,rfl⟩:=ok_inj h
  rw [Nat.blt_eq] at hc
  obtain ⟨bb,o',cz,vs,hv,hbz,h2,h3,h4,h5⟩:=fpV (he x (by simp) a _ hx hu1)
  refine OpOk.still hs (.pointer (some ⟨bb,o'+i*es,none⟩)) ?_ (fp_drop hbz h2 h3 h4 h5)
  simp [execOp,ho,Instr.indexAt,hv,hv2,asIntOf,run_underlying hu,hc,run_sizeOf hes,addr_add,Instr.sureAddr]
theorem ixv_sound (hs:Sim P γ s w) (hu:P.underlying ty=some (.array n e)) (hes:szOf P e=some 1) (hag:aggT P e=some false) (hx:aop x=some a) (hy:aop y=some b) (ho:o.op=.index ty x y) (he:Evs γ t ρ [x,y])
 (h:ixvA n a b t s=.ok v s'):OpOk P γ s w ρ o v s':=by
 obtain ⟨u1,hu1,h⟩:=wth_ok h
 obtain ⟨u2,hu2,h⟩:=wth_ok h
 obtain ⟨i,hi,h⟩:=nat_ok h
 obtain ⟨k,rfl⟩:=asNat_eq hi
 obtain ⟨l,rfl,h⟩:=agg_ok h
 obtain ⟨hc,h⟩:=gd_ok h
 obtain ⟨hk,rfl⟩:=retO_ok h
 rw [getL_eq] at hk
 rw [Nat.blt_eq] at hc
 obtain ⟨cs,hv,hR,_⟩:=aggV (he x (by simp) a _ hx hu1)
 have hv2:ρ y=.int k (i:Int):=intV (he y (by simp) b _ hy hu2)
 obtain ⟨v',hv',hRv⟩:=hR.get hk
 refine OpOk.still hs v' ?_ hRv
 have hp:=part1 (P:=P) (w:=w) hag (show cs[i]?=some v' by simpa using hv')
 simp [execOp,ho,Instr.index,hv,hv2,asIntOf,run_underlying hu,hc,run_sizeOf hes,hp]
theorem ixvn_sound (hs:Sim P γ s w) (hu:P.underlying ty=some (.array n e)) (hes:szOf P e=some m) (hag:aggT P e=some true) (hx:aop x=some a) (hy:aop y=some b) (ho:o.op=.index ty x y) (he:Evs γ t ρ [x,y])
 (h:ixvnA n m a b t s=.ok v s'):OpOk P γ s w ρ o v s':=by
 obtain ⟨u1,hu1,h⟩:=wth_ok h
 obtain ⟨u2,hu2,h⟩:=wth_ok h
 obtain ⟨i,hi,h⟩:=nat_ok h
 obtain ⟨k,rfl⟩:=asNat_eq hi
 obtain ⟨l,rfl,h⟩:=agg_ok h
 obtain ⟨hc,h⟩:=gd_ok h
 obtain ⟨cs,hk,h'⟩:=opt_ok h
 obtain ⟨rfl,rfl⟩:=ok_inj h'
 rw [Nat.blt_eq] at hc
 obtain ⟨e1,hle⟩:=takeL_some _ hk
 rw [dropL_eq] at e1 hle
 subst e1
 obtain ⟨c,hv,hR,h1⟩:=aggV (he x (by simp) a _ hx hu1)
 have hv2:ρ y=.int k (i:Int):=intV (he y (by simp) b _ hy hu2)
 have e2:(c.extract (i*m) (i*m+m)).toList=(c.toList.drop (i*m)).take m:=by simp [Array.toList_extract,List.extract_eq_take_drop]
 refine OpOk.still hs (.agg (c.extract (i*m) (i*m+m))) ?_ (.agg _ _ (by rw [e2];exact (hR.drop _).take _) (by rw [e2];exact fun v hv=>h1 v (List.mem_of_mem_drop (List.mem_of_mem_take hv))))
 simp [execOp,ho,Instr.index,hv,hv2,asIntOf,run_underlying hu,hc,run_sizeOf hes,partn hag hes]
theorem run_call_builtin {b:Builtin}{args:Array Operand}{ts:Array TypeId}(ho:o.op=.call { callee:=.builtin b,args:=args,argTypes:=ts }):
 (execOp ρ o).run P w=(builtin b ts o.type (args.map fun|.const _=>true|_=>false) (args.map ρ)).run P w:=by
 simp only [execOp,ho,resolve,Sem.run_bind,Sem.run_pure,Result.andThen_ok,invoke]
 rfl
theorem len_sound (hs:Sim P γ s w) {T:Nat}(hu:P.underlying T=some (.slice e)) (hx:aop x=some a) (ho:o.op=.call { callee:=.builtin .len,args:=#[x],argTypes:=#[T] }) (he:Evs γ t ρ [x])
 (h:lenA a t s=.ok v s'):OpOk P γ s w ρ o v s':=by
 obtain ⟨u,hu',h⟩:=wth_ok h
 have hv:=he x (by simp) a u hx hu'
 have hrun:∀ (p:Option Addr) (n c:Nat),ρ x=.slice p n c->(execOp ρ o).run P w=.ok (.value (.int .i64 n)) w:=by
  intro p n c e1
  rw [run_call_builtin ho]
  have hl:∀ ty,(Builtin.len_ #[T] ty #[.slice p n c]).run P w=.ok (goInt n) w:=fun ty=>by simp [Builtin.len_,run_underlying hu]
  simp only [builtin,List.map_toArray,List.map_cons,List.map_nil,e1,Sem.run_bind,hl,Result.andThen_ok,Sem.run_pure]
  rfl
 rcases sl_ok2 h with ⟨r,i,n,c,rfl,h⟩|⟨rfl,h⟩|⟨rfl,h⟩|⟨n,c,l,rfl,h⟩
 ·obtain ⟨rfl,rfl⟩:=ok_inj h
  obtain ⟨L,cc,hL,hval,_⟩:=slV hv
  exact OpOk.still hs _ (hrun _ _ _ hval) (.int _ _)
 ·obtain ⟨rfl,rfl⟩:=ok_inj h
  generalize hxx:ρ x=vx at hv
  cases hv
  exact OpOk.still hs _ (hrun _ _ _ hxx) (.int _ _)
 ·obtain ⟨rfl,rfl⟩:=ok_inj h
  generalize hxx:ρ x=vx at hv
  cases hv
  exact OpOk.still hs _ (hrun _ _ _ hxx) (.int _ _)
 ·obtain ⟨rfl,rfl⟩:=ok_inj h
  obtain ⟨bb,o',cc,cz,vs,hval,_⟩:=fzV hv
  exact OpOk.still hs _ (hrun _ _ _ hval) (.int _ _)
theorem alen_sound (hs:Sim P γ s w) {T:Nat}(hu:P.underlying T=some (.array n e)) (ho:o.op=.call { callee:=.builtin .len,args:=#[x],argTypes:=#[T] })
 (h:alenA n t s=.ok v s'):OpOk P γ s w ρ o v s':=by
 obtain ⟨rfl,rfl⟩:=ok_inj h
 refine OpOk.still hs (.int .i64 n) ?_ (.int _ _)
 rw [run_call_builtin ho]
 have hl:∀ ty u,(Builtin.len_ #[T] ty #[u]).run P w=.ok (goInt n) w:=fun ty u=>by simp [Builtin.len_,run_underlying hu]
 simp only [builtin,List.map_toArray,List.map_cons,List.map_nil,Sem.run_bind,hl,Result.andThen_ok,Sem.run_pure]
 rfl
end
end Go.AM
namespace Go.AM
section
variable {P:Program}{γ:Gam}{s:St}{w:World}{t:AT}{ρ:Operand->Value}
theorem mm_run (mx:Bool):∀ (l:List AV) (x v:AV) (x':Value) (l':List Value),mm mx l x=.some v->VR γ x x'->All2 (VR γ) l l'->
 ∃ v',(l'.foldlM (if mx then Builtin.max2 else Builtin.min2) x').run P w=.ok v' w∧VR γ v v':=by
 intro l
 induction l with
 | nil=>intro x v x' l' h hx hl;cases hl;cases h;exact ⟨x',rfl,hx⟩
 | cons y l ih=>
  intro x v x' l' h hx hl
  cases hl with
  | @cons _ y' _ l'' hy hl=>
   change (IR.rec .none (fun k a=>IR.rec .none (fun k' b=>Bool.rec .none (mm mx l (.int k (Bool.rec a b (Bool.rec (ltI b a) (ltI a b) mx)))) (eqK k k')) (asInt y)) (asInt x):OV)=.some v at h
   cases hx1:asInt x with
   | no=>rw [hx1] at h;cases h
   | int k a=>
    rw [hx1] at h
    cases hy1:asInt y with
    | no=>rw [hy1] at h;cases h
    | int k' b=>
     rw [hy1] at h
     dsimp only at h
     cases hk:eqK k k' with
     | false=>rw [hk] at h;cases h
     | true=>
      rw [hk] at h
      dsimp only at h
      rw [asInt_eq hx1] at hx
      rw [asInt_eq hy1] at hy
      rw [intV hx,intV hy]
      obtain ⟨v',r1,r2⟩:=ih _ v (.int k (Bool.rec a b (Bool.rec (ltI b a) (ltI a b) mx))) l'' h (.int _ _) hl
      refine ⟨v',?_,r2⟩
      rw [← r1]
      simp only [List.foldlM_cons,Sem.run_bind]
      cases mx with
      | true=>
       simp only [if_true,Builtin.max2,Sem.run_pure,Result.andThen_ok,ltI_eq]
       by_cases hab:a<b <;> simp [hab]
      | false=>
       simp only [Bool.false_eq_true,if_false,Builtin.min2,Sem.run_pure,Result.andThen_ok,ltI_eq]
       by_cases hab:b<a <;> simp [hab]
variable {o:Oper}{v:AV}{s':St}
theorem mn_sound (hs:Sim P γ s w) {mx:Bool}{ts:Array TypeId}{xs:Array Operand}{as:List AO}(hx:aops xs.toList=some as) (ho:o.op=.call { callee:=.builtin (if mx then .max else .min),args:=xs,argTypes:=ts }) (he:Evs γ t ρ xs.toList)
 (h:mnA mx as t s=.ok v s'):OpOk P γ s w ρ o v s':=by
 obtain ⟨l,hl,h⟩:=opt_ok h
 have hR:=aops_evs (γ:=γ) (ρ:=ρ) hx hl he
 cases l with
 | nil=>cases h
 | cons x l=>
  obtain ⟨hm,rfl⟩:=ret_ok h
  generalize hvs:xs.toList.map ρ=vs at hR
  cases hR with
  | @cons _ x' _ l' h1 h2=>
   obtain ⟨v',r1,r2⟩:=mm_run (P:=P) (w:=w) mx l x v x' l' hm h1 h2
   refine OpOk.still hs v' ?_ r2
   rw [run_call_builtin ho]
   cases mx with
   | true=>
    simp only [if_true] at r1 ⊢
    simp only [builtin,Builtin.max_,Array.toList_map,hvs,Sem.run_bind,r1,Result.andThen_ok,Sem.run_pure]
   | false=>
    simp only [Bool.false_eq_true,if_false] at r1 ⊢
    simp only [builtin,Builtin.min_,Array.toList_map,hvs,Sem.run_bind,r1,Result.andThen_ok,Sem.run_pure]
variable {es:Nat}
theorem src_sound (hs:Sim P γ s w) {x:AV}{x':Value}{cs:List AV}(hx:VR γ x x') (h:srcOf es x s=some cs):
 ∃ p n c vs,x'=.slice p n c∧All2 (VR γ) cs vs∧(∀ v ∈ vs,v.oneCell'=true)∧vs.length=n*es∧(p=none->n=0)∧∀ a,p=some a->∀ j u,vs[j]?=some u->w.cell? (a.add j)=some u:=by
 unfold srcOf at h
 cases hsl:asSl x with
 | no=>rw [hsl] at h;cases h
 | sl r i n c=>
  rw [hsl] at h
  rw [asSl_sl hsl] at hx
  obtain ⟨L,cc,hL,rfl,_⟩:=slV hx
  obtain ⟨vs,e1,hc,hR,h1⟩:=load_sound hs h hL
  exact ⟨_,n,cc,vs,rfl,hR,h1,e1,(fun e=>by cases e),(fun a e=>by cases e;exact hc)⟩
 | nils=>
  rw [hsl] at h;cases h
  rw [asSl_nils hsl] at hx
  cases hx
  exact ⟨none,0,0,[],rfl,.nil,by simp,by simp,fun _=>rfl,(fun a e=>by cases e)⟩
 | es=>
  rw [hsl] at h;cases h
  rw [asSl_es hsl] at hx
  cases hx with
  | es a c=>exact ⟨some a,0,c,[],rfl,.nil,by simp,by simp,fun _=>rfl,fun a _ j u hu=>by simp at hu⟩
 | fz n c l=>
  rw [hsl] at h
  rw [asSl_fz hsl] at hx
  obtain ⟨b,o,cc,cz,vs,rfl,hbz,h2,h3,h4,_,_,h5⟩:=fzV hx
  obtain ⟨us,e1,g2,hR,h1⟩:=fz_take (k:=0) hs hbz h2 h3 h4 h
  rw [Nat.add_zero] at g2
  exact ⟨_,n,cc,us,rfl,hR,h1,e1,(fun e=>by cases e),(fun a e=>by cases e;exact fz_cells hs hbz g2)⟩
variable {e:Nat}{x:Operand}{a:AO}
theorem copy_sound (hs:Sim P γ s w) {T U:Nat}{y:Operand}{b:AO}(hu:P.underlying T=some (.slice e)) (hes:szOf P e=some es) (hx:aop x=some a) (hy:aop y=some b) (ho:o.op=.call { callee:=.builtin .copy,args:=#[x,y],argTypes:=#[T,U] }) (he:Evs γ t ρ [x,y])
 (h:copyA es a b t s=.ok v s'):OpOk P γ s w ρ o v s':=by
 obtain ⟨u1,hu1,h⟩:=wth_ok h
 obtain ⟨u2,hu2,h⟩:=wth_ok h
 have h1:=he x (by simp) a u1 hx hu1
 have h2:=he y (by simp) b u2 hy hu2
 have hzero:∀ (p q:Option Addr) (n n' c c':Nat),ρ x=.slice p n c->ρ y=.slice q n' c'->Nat.min n' n=0->(execOp ρ o).run P w=.ok (.value (.int .i64 (0:Nat))) w:=by
  intro p q n n' c c' e1 e2 e3
  rw [run_call_builtin ho]
  have hf:(Builtin.firstCells es 0 (.slice q n' c')).run P w=.ok #[] w:=by cases q <;> simp [Builtin.firstCells,loadCells,loadCellsFrom]
  have hl:∀ ty,(Builtin.copy_ #[T,U] ty #[.slice p n c,.slice q n' c']).run P w=.ok (goInt (0:Nat)) w:=by
   intro ty
   simp only [Builtin.copy_,List.getElem?_toArray,List.getElem?_cons_zero,List.getElem?_cons_succ,Sem.run_bind,run_underlying hu,Result.andThen_ok,Builtin.lenOf,Sem.run_pure,run_sizeOf hes,e3,hf]
   cases p <;> simp [storeCells]
  simp only [builtin,List.map_toArray,List.map_cons,List.map_nil,e1,e2,Sem.run_bind,hl,Result.andThen_ok,Sem.run_pure]
  rfl
 rcases sl_ok h with ⟨r,i,n,c,rfl,h⟩|⟨rfl,h⟩|⟨rfl,h⟩
 ·obtain ⟨L,cc,hL,hv1,_⟩:=slV h1
  rcases sl_ok2 h with ⟨r',i',n',c',rfl,h⟩|⟨rfl,h⟩|⟨rfl,h⟩|⟨n',c',l',rfl,h⟩
  ·obtain ⟨cs,hl,h⟩:=opt_ok h
   obtain ⟨hst,rfl⟩:=retS_ok h
   obtain ⟨L',cc',hL',hv2,_⟩:=slV h2
   obtain ⟨vs,e1,hc,hR,h1'⟩:=load_sound hs hl hL'
   obtain ⟨w',hrun,hstp,hsim⟩:=store_sound hs hst hL hR h1'
   refine ⟨γ,w',hstp,hsim,.inl ⟨.int .i64 (Nat.min n' n:Nat),?_,.int _ _⟩⟩
   rw [run_call_builtin ho]
   have hlc:=run_loadCells_list (P:=P) w _ vs hc
   rw [e1] at hlc
   have hf:(Builtin.firstCells es (Nat.min n' n) (.slice (some ⟨L'.b,L'.o+i',none⟩) n' cc')).run P w=.ok vs.toArray w:=by
    simp only [Builtin.firstCells];exact hlc
   have hll:∀ ty,(Builtin.copy_ #[T,U] ty #[.slice (some ⟨L.b,L.o+i,none⟩) n cc,.slice (some ⟨L'.b,L'.o+i',none⟩) n' cc']).run P w=.ok (goInt (Nat.min n' n:Nat)) w':=by
    intro ty
    simp only [Builtin.copy_,List.getElem?_toArray,List.getElem?_cons_zero,List.getElem?_cons_succ,Sem.run_bind,run_underlying hu,Result.andThen_ok,Builtin.lenOf,Sem.run_pure,run_sizeOf hes,hf,hrun]
   simp only [builtin,List.map_toArray,List.map_cons,List.map_nil,hv1,hv2,Sem.run_bind,hll,Result.andThen_ok,Sem.run_pure]
   rfl
  ·obtain ⟨rfl,rfl⟩:=ok_inj h
   generalize hyy:ρ y=vy at h2
   cases h2
   exact OpOk.still hs _ (hzero _ _ _ _ _ _ hv1 hyy (by simp)) (.int _ _)
  ·obtain ⟨rfl,rfl⟩:=ok_inj h
   generalize hyy:ρ y=vy at h2
   cases h2
   exact OpOk.still hs _ (hzero _ _ _ _ _ _ hv1 hyy (by simp)) (.int _ _)
  ·obtain ⟨cs,hl,h⟩:=opt_ok h
   obtain ⟨hst,rfl⟩:=retS_ok h
   obtain ⟨bz,oz,cc',cz,zs,hv2,hbz,g1,g3,g4,_,_,g5⟩:=fzV h2
   obtain ⟨vs,e1,g2,hR,h1'⟩:=fz_take (k:=0) hs hbz g1 g3 g4 hl
   rw [Nat.add_zero] at g2
   obtain ⟨w',hrun,hstp,hsim⟩:=store_sound hs hst hL hR h1'
   refine ⟨γ,w',hstp,hsim,.inl ⟨.int .i64 (Nat.min n' n:Nat),?_,.int _ _⟩⟩
   rw [run_call_builtin ho]
   have hlc:=run_loadCells_list (P:=P) w _ vs (fz_cells hs hbz g2)
   rw [e1] at hlc
   have hf:(Builtin.firstCells es (Nat.min n' n) (.slice (some ⟨bz,oz,none⟩) n' cc')).run P w=.ok vs.toArray w:=by
    simp only [Builtin.firstCells];exact hlc
   have hll:∀ ty,(Builtin.copy_ #[T,U] ty #[.slice (some ⟨L.b,L.o+i,none⟩) n cc,.slice (some ⟨bz,oz,none⟩) n' cc']).run P w=.ok (goInt (Nat.min n' n:Nat)) w':=by
    intro ty
    simp only [Builtin.copy_,List.getElem?_toArray,List.getElem?_cons_zero,List.getElem?_cons_succ,Sem.run_bind,run_underlying hu,Result.andThen_ok,Builtin.lenOf,Sem.run_pure,run_sizeOf hes,hf,hrun]
   simp only [builtin,List.map_toArray,List.map_cons,List.map_nil,hv1,hv2,Sem.run_bind,hll,Result.andThen_ok,Sem.run_pure]
   rfl
 all_goals
  obtain ⟨q,n',c',hyv⟩:∃ q n' c',ρ y=.slice q n' c':=by
   rcases sl_ok2 h with ⟨r',i',n',c',rfl,h⟩|⟨rfl,h⟩|⟨rfl,h⟩|⟨n',c',l',rfl,h⟩
   ·obtain ⟨L',cc',hL',hv2,_⟩:=slV h2;exact ⟨_,_,_,hv2⟩
   ·generalize ρ y=vy at h2;cases h2;exact ⟨_,_,_,rfl⟩
   ·generalize ρ y=vy at h2;cases h2;exact ⟨_,_,_,rfl⟩
   ·obtain ⟨bz,oz,cc',cz,zs,hv2,_⟩:=fzV h2;exact ⟨_,_,_,hv2⟩
  obtain ⟨rfl,rfl⟩:v=intN 0∧s'=s:=by
   rcases sl_ok2 h with ⟨r',i',n',c',rfl,h⟩|⟨rfl,h⟩|⟨rfl,h⟩|⟨n',c',l',rfl,h⟩ <;> (cases h;exact ⟨rfl,rfl⟩)
  generalize hxx:ρ x=vx at h1
  cases h1
  exact OpOk.still hs _ (hzero _ _ _ _ _ _ hxx hyv (by simp)) (.int _ _)
theorem clr_sound (hs:Sim P γ s w) {T n:Nat}{z:List AV}(hu:P.underlying T=some (.slice e)) (hn:szOf P e=some n) (hz:zeroOf P e=some z) (h1n:1≤n) (hzl:z.length=n) (hx:aop x=some a)
 (ho:o.op=.call { callee:=.builtin .clear,args:=#[x],argTypes:=#[T] }) (he:Evs γ t ρ [x]) (h:clrA z a t s=.ok v s'):OpOk P γ s w ρ o v s':=by
 obtain ⟨u,hu',h⟩:=wth_ok h
 have hv:=he x (by simp) a u hx hu'
 obtain ⟨i,zv,hi,hzz,ha⟩:=zeroOf_some hz
 obtain ⟨y1,y2⟩:=avs_VR (γ:=γ) ha
 have hzs:zv.cells.size=n:=by rw [← hzl];simpa using y1.length.symm
 rcases sl_ok h with ⟨r,o',k,c,rfl,h⟩|⟨rfl,h⟩|⟨rfl,h⟩
 ·obtain ⟨hst,rfl⟩:=retS_ok h
  obtain ⟨L,cc,hL,hv1,_⟩:=slV hv
  obtain ⟨q1,q2⟩:=zeros_VR y1 y2 (by omega) k
  rw [rep_eq] at hst
  obtain ⟨w',hrun,hstp,hsim⟩:=store_sound hs hst hL q1 q2
  refine ⟨γ,w',hstp,hsim,.inl ⟨.tuple #[],?_,.tup _ _ .nil⟩⟩
  rw [run_call_builtin ho]
  have hzc:Builtin.zeroCells zv.cells k=(Array.range (k*zv.cells.size)).map (fun i=>zv.cells[i % zv.cells.size]!):=rfl
  have hl:∀ ty,(Builtin.clear_ #[T] ty #[.slice (some ⟨L.b,L.o+o',none⟩) k cc]).run P w=.ok (.tuple #[]) w':=by
   intro ty
   cases k with
   | zero=>
    have:w'=w:=by simp [storeCells] at hrun;exact hrun.symm
    subst this
    simp [Builtin.clear_,run_underlying hu]
   | succ k=>
    simp only [Builtin.clear_,List.getElem?_toArray,List.getElem?_cons_zero,Sem.run_bind,run_underlying hu,Result.andThen_ok,run_zeroValue hi hzz,hzc,hrun,Sem.run_pure]
  simp only [builtin,List.map_toArray,List.map_cons,List.map_nil,hv1,Sem.run_bind,hl,Result.andThen_ok,Sem.run_pure]
 ·obtain ⟨rfl,rfl⟩:=ok_inj h
  generalize hxx:ρ x=vx at hv
  cases hv
  refine OpOk.still hs (.tuple #[]) ?_ (.tup _ _ .nil)
  rw [run_call_builtin ho]
  have hl:∀ ty,(Builtin.clear_ #[T] ty #[.slice none 0 0]).run P w=.ok (.tuple #[]) w:=by
   intro ty;simp [Builtin.clear_,run_underlying hu]
  simp only [builtin,List.map_toArray,List.map_cons,List.map_nil,hxx,Sem.run_bind,hl,Result.andThen_ok,Sem.run_pure]
 ·obtain ⟨rfl,rfl⟩:=ok_inj h
  generalize hxx:ρ x=vx at hv
  cases hv with
  | es ad c=>
   refine OpOk.still hs (.tuple #[]) ?_ (.tup _ _ .nil)
   rw [run_call_builtin ho]
   have hl:∀ ty,(Builtin.clear_ #[T] ty #[.slice (some ad) 0 c]).run P w=.ok (.tuple #[]) w:=by
    intro ty;simp [Builtin.clear_,run_underlying hu]
   simp only [builtin,List.map_toArray,List.map_cons,List.map_nil,hxx,Sem.run_bind,hl,Result.andThen_ok,Sem.run_pure]
end
end Go.AM
namespace Go.AM
section
variable {P:Program}{γ:Gam}{s:St}{w:World}{t:AT}{ρ:Operand->Value}
variable {r:Nat}
theorem sluV {i n:Nat}{v':Value}(h:VR γ (.sl r i n none) v'):∃ L cc,γ r=some L∧v'=.slice (some ⟨L.b,L.o+i,none⟩) n cc∧n≤cc∧cc≤maxLen∧(i=0->cc*L.es≤L.sz):=by
 cases h with
 | slu _ _ _ c L hL a b d=>exact ⟨L,c,hL,rfl,a,b,d⟩
theorem Sim.kill (h:Sim P γ s w) {L:Loc}(hL:γ r=some L):Stp γ s w γ (s.put r .dead) w∧Sim P γ (s.put r .dead) w:=by
 refine ⟨⟨Le.refl γ,fun r L h h'=>(by rw [h] at h';cases h'),by rw [St.next_put];exact Nat.le_refl _,Nat.le_refl _,rfl,rfl,rfl,fun _ _ _=>rfl,fun k hk _=>St.get_put_ne (fun e=>by rw [e,hL] at hk;cases hk),fun b c h h'=>(by rw [h] at h';cases h')⟩,⟨?_,?_,h.lt,?_,?_,h.fzc,fun k y M hy hya hM=>?_⟩⟩
 rotate_right
 ·rcases St.get_put hy with ⟨rfl,rfl⟩|⟨e,hy⟩
  ·simp [alive] at hya
  ·exact h.fzr k y M hy hya hM
 ·intro k y M hy hM
  rcases St.get_put hy with ⟨rfl,rfl⟩|⟨e,hy⟩
  ·trivial
  ·exact h.obj k y M hy hM
 ·intro k k' y y' M M' hy hy' ha1 ha2 hM hM' hne
  rcases St.get_put hy with ⟨rfl,rfl⟩|⟨e,hy⟩
  ·simp [alive] at ha1
  ·rcases St.get_put hy' with ⟨rfl,rfl⟩|⟨e',hy'⟩
   ·simp [alive] at ha2
   ·exact h.inj k k' y y' M M' hy hy' ha1 ha2 hM hM' hne
 ·intro k hk;rw [St.next_put] at hk;exact h.nx k hk
 ·intro k y hy
  rw [St.next_put]
  rcases St.get_put hy with ⟨rfl,_⟩|⟨_,hy⟩
  ·refine Nat.lt_of_not_le fun hle=>?_
   rw [h.nx k hle] at hL;cases hL
  ·exact h.dom k y hy
theorem newRow_pre (h:Sim P γ s w) (e:Nat) (cs:List AV) (vs:Array Value) (us:List Value) (es:Nat) (hes:szOf P e=some es) (hR:All2 (VR γ) cs us) (h1:∀ v ∈ us,v.oneCell'=true) (hpre:∀ (i:Nat) v,us[i]?=some v->vs[i]?=some v) (hle:us.length≤vs.size) (hall:∀ v ∈ vs.toList,v.oneCell'=true):
 Stp γ s w (ext γ s.next ⟨w.heap.size,0,vs.size,es⟩) (s.alloc (.row e cs)) (w.alloc (.cells vs e))∧Sim P (ext γ s.next ⟨w.heap.size,0,vs.size,es⟩) (s.alloc (.row e cs)) (w.alloc (.cells vs e)):=by
 refine h.alloc _ _ _ _ ?_
 have hl:=hR.length
 refine ⟨vs,?_,rfl,rfl,hes,by omega,?_,hall⟩
 ·show (w.heap.push _)[w.heap.size]?=_;simp
 ·intro i v hi
  obtain ⟨v',hv',hr⟩:=hR.get hi
  exact ⟨v',hpre i v' hv',hr.mono (ext_le (h.nx _ (Nat.le_refl _))),h1 v' (List.mem_of_getElem? hv')⟩
variable {ty e:Nat}{i:TypeInfo}
theorem run_append_none {T:Nat}(ht:P.underlying T=some (.slice e)) (hi:P.info? e=some i) (p q:Option Addr) (n c c':Nat) (hnc:n≤c):
 (Builtin.append_ #[T,T] ty #[.slice p n c,.slice q 0 c']).run P w=.ok (.slice p n c) w:=by
 have hf:(Builtin.firstCells i.size 0 (.slice q 0 c')).run P w=.ok #[] w:=by cases q <;> simp [Builtin.firstCells,loadCells,loadCellsFrom]
 cases p <;> simp [Builtin.append_,run_underlying ht,Go.sizeOf,typeInfo,hi,Builtin.lenOf,hnc,hf,storeCells]
theorem run_append_put {T:Nat}(ht:P.underlying T=some (.slice e)) (hi:P.info? e=some i) (b a:Addr) (n c m c':Nat) (news:List Value) (hl:news.length=m*i.size) (hnews:∀ j u,news[j]?=some u->w.cell? (a.add j)=some u)
 (hroom:n+m≤c) {w':World}(hst:(storeCells (b.add (n*i.size)) news).run P w=.ok () w'):
 (Builtin.append_ #[T,T] ty #[.slice (some b) n c,.slice (some a) m c']).run P w=.ok (.slice (some b) (n+m) c) w':=by
 have hlc:=run_loadCells_list (P:=P) w a news hnews
 rw [hl] at hlc
 have hf:(Builtin.firstCells i.size m (.slice (some a) m c')).run P w=.ok news.toArray w:=by simp only [Builtin.firstCells];exact hlc
 simp [Builtin.append_,run_underlying ht,Go.sizeOf,typeInfo,hi,Builtin.lenOf,hroom,hf,hst]
theorem app_sound (hs:Sim P γ s w) {o:Oper}{T es by_:Nat}{z:List AV}{x y:Operand}{a b:AO}{v:AV}{s':St}(hu:P.underlying T=some (.slice e)) (hes:szOf P e=some es) (hby:byOf P e=some by_) (hz:zeroOf P e=some z) (h1es:1≤es) (hbl:by_≤4096) (hzl:z.length=es)
 (hx:aop x=some a) (hy:aop y=some b) (ho:o.op=.call { callee:=.builtin .append,args:=#[x,y],argTypes:=#[T,T] }) (he:Evs γ t ρ [x,y]) (h:appA e es a b t s=.ok v s'):OpOk P γ s w ρ o v s':=by
 obtain ⟨u1,hu1,h⟩:=wth_ok h
 obtain ⟨u2,hu2,h⟩:=wth_ok h
 obtain ⟨cs,hsrc,h⟩:=opt_ok h
 have h1:=he x (by simp) a u1 hx hu1
 have h2:=he y (by simp) b u2 hy hu2
 obtain ⟨q,m,c',news,hyv,hRn,h1n,hln,hqn,hcn⟩:=src_sound hs h2 hsrc
 obtain ⟨i,zv,hi,hzz,ha⟩:=zeroOf_some hz
 obtain ⟨y1,y2⟩:=avs_VR (γ:=γ) ha
 have his:i.size=es:=by simp [szOf,hi] at hes;exact hes
 have hib:i.bytes=by_:=by simp [byOf,hi] at hby;exact hby
 have hzs:zv.cells.size=es:=by rw [← hzl];simpa using y1.length.symm
 have hz1:∀ k,∀ v ∈ (Builtin.zeroCells zv.cells k).toList,v.oneCell'=true:=fun k=>(zeros_VR y1 y2 (by omega) k).2
 have hrunb:∀ {xv:Value}{r:Value}{w':World},ρ x=xv->(∀ ty,(Builtin.append_ #[T,T] ty #[xv,.slice q m c']).run P w=.ok r w')->(execOp ρ o).run P w=.ok (.value r) w':=by
  intro xv r w' e1 hr
  rw [run_call_builtin ho]
  simp only [builtin,List.map_toArray,List.map_cons,List.map_nil,e1,hyv,Sem.run_bind,hr,Result.andThen_ok,Sem.run_pure]
 have hcl:=hRn.length
 cases cs with
 | nil=>
  have hm:m=0:=by
   have e0:news.length=0:=by simpa using hcl.symm
   rcases Nat.mul_eq_zero.1 (hln.symm.trans e0) with e|e <;> omega
  subst hm
  rcases sl_ok2 h with ⟨r,j,n,c,rfl,h⟩|⟨rfl,h⟩|⟨rfl,h⟩|⟨n,c,l0,rfl,h⟩
  rotate_right
  ·obtain ⟨rfl,rfl⟩:=ok_inj h
   obtain ⟨bz,oz,cc,cz,zs,hxx,_,_,_,_,hnc,_,_⟩:=fzV h1
   exact OpOk.still hs _ (hrunb hxx fun ty=>run_append_none hu hi _ _ _ _ _ hnc) (by rw [← hxx];exact h1)
  ·obtain ⟨rfl,rfl⟩:=ok_inj h
   generalize hxx:ρ x=vx at h1
   have h1':=h1
   cases h1 with
   | sl _ _ _ c L hL hnc=>exact OpOk.still hs _ (hrunb hxx fun ty=>run_append_none hu hi _ _ _ _ _ hnc) h1'
   | slu _ _ _ c L hL hnc=>exact OpOk.still hs _ (hrunb hxx fun ty=>run_append_none hu hi _ _ _ _ _ hnc) h1'
  ·obtain ⟨rfl,rfl⟩:=ok_inj h
   generalize hxx:ρ x=vx at h1
   cases h1
   exact OpOk.still hs _ (hrunb hxx fun ty=>run_append_none hu hi _ _ _ _ _ (Nat.le_refl _)) .nils
  ·obtain ⟨rfl,rfl⟩:=ok_inj h
   generalize hxx:ρ x=vx at h1
   cases h1 with
   | es ad c=>exact OpOk.still hs _ (hrunb hxx fun ty=>run_append_none hu hi _ _ _ _ _ (Nat.zero_le _)) (.es _ _)
 | cons c0 cs0=>
  have hh:(SR.rec .fail (fun r o n c=>app1 e es (c0::cs0) (Nat.div (lenL (c0::cs0)) es) r o n c s) (appNew e (Nat.div (lenL (c0::cs0)) es) (c0::cs0) s) .fail (fun n c l=>appF e es (c0::cs0) (Nat.div (lenL (c0::cs0)) es) n c l s) (asSl u1):RV)=.ok v s':=h
  clear h
  have hcpos:1≤(c0::cs0).length:=by simp
  generalize c0::cs0=cs at *
  have hm0:1≤m:=by
   rcases Nat.eq_zero_or_pos m with e|e
   ·subst e;simp at hln;rw [hln] at hcl;simp at hcl;rw [hcl] at hcpos;simp at hcpos
   ·exact e
  obtain ⟨ad,rfl⟩:∃ ad,q=some ad:=by
   cases q with
   | none=>have:=hqn rfl;omega
   | some ad=>exact ⟨ad,rfl⟩
  have hcell:=hcn ad rfl
  have hlm:lenL cs / es=m:=by rw [lenL_eq,hcl,hln];exact Nat.mul_div_cancel _ (by omega)
  have hlm':Nat.div (lenL cs) es=m:=hlm
  rw [← his] at hln
  rw [hlm'] at hh
  -- a new array
  have grow:∀ (ad0:Addr) (n cc:Nat) (old:List AV) (olds:List Value),ρ x=.slice (some ad0) n cc->olds.length=n*i.size->(∀ j u,olds[j]?=some u->w.cell? (ad0.add j)=some u)->All2 (VR γ) old olds->(∀ v ∈ olds,v.oneCell'=true)->cc<n+m->n+m≤1000000->∀ s1,Sim P γ s1 w->Stp γ s w γ s1 w->fresh (.row e (appL old cs)) (fun r=>.sl r 0 (n+m) none) s1=.ok v s'->OpOk P γ s w ρ o v s':=by
   intro ad0 n cc old olds hxv e1' hco hRo h1o hlt hbm s1 hs1 hst1 hok
   obtain ⟨rfl,rfl⟩:=ok_inj hok
   have hmb:(n+m)*i.bytes≤1000000*4096:=by rw [hib];exact Nat.mul_le_mul hbm hbl
   have hrun:=fun ty=>run_append_grow (P:=P) w T ty e i zv hu hi hzz ad0 n cc olds e1' hco ad m c' news hln hcell hlt (by omega) (growslice_fits hlt (by omega))
   have hRa:All2 (VR γ) (appL old cs) (olds++news):=by rw [appL_eq];exact hRo.append hRn
   obtain ⟨hst,hsim⟩:=newRow_pre hs1.drew e (appL old cs) (olds.toArray++news.toArray++Builtin.zeroCells zv.cells (grownCap w (n+m) cc e-(n+m))) (olds++news) es hes hRa
    (by intro u hu;rcases List.mem_append.1 hu with hu|hu;exact h1o u hu;exact h1n u hu)
    (fun k u hk=>by
      rw [Array.getElem?_append_left (by have:=(List.getElem?_eq_some_iff.1 hk).1;simpa using this)]
      simpa using hk) (by simp) (by
      intro u hu
      simp only [Array.toList_append,List.append_assoc,List.mem_append] at hu
      rcases hu with hu|hu|hu
      ·exact h1o u hu
      ·exact h1n u hu
      ·exact hz1 _ u hu)
   refine ⟨_,_,(hst1.trans Stp.drew).trans hst,hsim,.inl ⟨_,hrunb hxv hrun,?_⟩⟩
   refine .slu s1.next 0 (n+m) _ _ (ext_same _ _ _) (grownCap_ge _ _ _ _) (grownCap_le_maxLen _ _ _ _ (by unfold maxLen;omega)) (fun _=>?_)
   have hge:=grownCap_ge w (n+m) cc e
   simp only [Array.size_append,List.size_toArray,size_zeroCells,hln,e1',his,hzs]
   rw [← Nat.add_mul,← Nat.add_mul]
   exact Nat.mul_le_mul_right _ (by omega)
  rcases sl_ok2 hh with ⟨r,j,n,c,rfl,hk⟩|⟨rfl,hk⟩|⟨rfl,hk⟩|⟨n,c,l0,rfl,hk⟩
  ·obtain ⟨old,hold,hk⟩:=opt_ok hk
   obtain ⟨L,cc,hL,hxv,hck⟩:=slV h1
   obtain ⟨olds,e1,hco,hRo,h1o⟩:=load_sound hs hold hL
   have e1':olds.length=n*i.size:=by rw [his];exact e1
   have grow:=grow _ n cc old olds hxv e1' hco hRo h1o
   cases c with
   | some c=>
    have hcc:=hck c rfl
    subst hcc
    change (Bool.rec (appNew e (n+m) (appL old cs) s) (retS (.sl r j (n+m) (some cc)) (storeAt r (j+n*es) cs s)) (Nat.ble (n+m) cc):RV)=.ok v s' at hk
    cases hb:Nat.ble (n+m) cc with
    | true=>
     rw [hb] at hk
     obtain ⟨hst,rfl⟩:=retS_ok hk
     have hle:=Nat.le_of_ble_eq_true hb
     obtain ⟨w',hrun,hstp,hsim⟩:=store_sound hs hst hL hRn h1n
     refine ⟨γ,w',hstp,hsim,.inl ⟨_,hrunb hxv fun ty=>run_append_put hu hi ⟨L.b,L.o+j,none⟩ ad n cc m c' news hln hcell hle (by rw [addr_add,his,Nat.add_assoc];exact hrun),.sl _ _ _ _ L hL hle⟩⟩
    | false=>
     rw [hb] at hk
     obtain ⟨hbd,hk⟩:=gd_ok hk
     have hnle:¬ (n+m≤cc):=fun e=>by rw [Nat.ble_eq_true_of_le e] at hb;cases hb
     exact grow (by omega) (Nat.le_of_ble_eq_true hbd) s hs (.refl _ _ _) hk
   | none=>
    obtain ⟨hcond,hk1⟩:=gd_ok hk
    obtain ⟨hbd,hk2⟩:=gd_ok hk1
    have hbm:=Nat.le_of_ble_eq_true hbd
    simp only [Bool.and_eq_true] at hcond
    have hj:=Nat.eq_of_beq_eq_true hcond.1
    by_cases hroom:n+m≤cc
    ·-- in its own array
     have hcs:cc*L.es≤L.sz∧cc≤maxLen:=by
      obtain ⟨L',c2,hL',hx2,_,hcm,hcs⟩:=sluV h1
      rw [hL] at hL';cases hL'
      rw [hxv] at hx2
      cases hx2
      exact ⟨hcs hj,hcm⟩
     have a1:old.length=n*es:=hRo.length.trans e1
     obtain ⟨rs,hrow⟩:∃ rs,s.get r=some (.row e rs):=by
      have he2:=hcond.2
      unfold elemIs at he2
      cases hra:rowAt r s with
      | no=>rw [hra] at he2;cases he2
      | row e' rs=>
       rw [hra] at he2
       have:e'=e:=Nat.eq_of_beq_eq_true he2
       subst this
       exact ⟨rs,rowAt_some hra⟩
     obtain ⟨cur,hc,ho0,hsz,hes',hlen,hv,hall⟩:=hs.rowA hrow hL
     have hees:L.es=es:=by rw [hes] at hes';exact (Option.some.inj hes').symm
     have hfit:n*es+news.length≤cur.size:=by
      rw [hln,his,← Nat.add_mul,hsz]
      refine Nat.le_trans (Nat.mul_le_mul_right _ hroom) ?_
      rw [← hees];exact hcs.1
     have hst:=run_storeCells_at (P:=P) L.b (n*es) e news 0 cur w hc (by omega) h1n
     simp only [Nat.add_zero] at hst
     have hrun:=fun ty=>run_append_put (ty:=ty) hu hi ⟨L.b,L.o+j,none⟩ ad n cc m c' news hln hcell hroom (by rw [addr_add,ho0,hj,his,Nat.zero_add];exact hst)
     obtain ⟨rfl,rfl⟩:=ok_inj hk2
     have hle2:=ext_le (γ:=γ) (L:=L) (hs.nx s.next (Nat.le_refl _))
     obtain ⟨hstp,hsim⟩:=hs.move (w':=w.setRow L.b (cur.toList.take (n*es)++news++cur.toList.drop (n*es+news.length)).toArray) hrow hL rfl
      (o:=.row e (appL old cs)) (fun b hb=>setRow_other w L.b b _ hb) (setRow_size _ _ _) rfl rfl rfl (by
        refine ⟨_,setRow_heap w L.b cur _ e _ hc,ho0,?_,hes',?_,?_,fun v' hv'=>?_⟩
        rotate_right
        ·simp only [List.append_assoc,List.mem_append] at hv'
         rcases hv' with hv'|hv'|hv'
         ·exact hall _ (List.mem_of_mem_take hv')
         ·exact h1n _ hv'
         ·exact hall _ (List.mem_of_mem_drop hv')
        ·simp;omega
        ·rw [appL_eq,List.length_append,a1]
         simp only [List.size_toArray,List.length_append,List.length_take,List.length_drop,Array.length_toList]
         omega
        ·intro k u hku
         rw [appL_eq] at hku
         obtain ⟨u',hu',hRu⟩:=(hRo.append hRn).get hku
         have hone:u'.oneCell'=true:=by
          rcases List.mem_append.1 (List.mem_of_getElem? hu') with hm|hm
          ·exact h1o _ hm
          ·exact h1n _ hm
         refine ⟨u',?_,hRu.mono hle2,hone⟩
         rw [List.getElem?_toArray]
         by_cases hkn:k<n*es
         ·rw [List.getElem?_append_left (by rw [e1];exact hkn)] at hu'
          have hcu:=hco k u' hu'
          rw [addr_add,ho0,hj] at hcu
          simp [World.cell?,hc] at hcu
          rw [List.append_assoc,List.getElem?_append_left (by simp;omega),List.getElem?_take,if_pos hkn]
          simpa using hcu
         ·rw [List.getElem?_append_right (by rw [e1];exact Nat.le_of_not_lt hkn),e1] at hu'
          have hkl:k-n*es<news.length:=(List.getElem?_eq_some_iff.1 hu').1
          have htl:(cur.toList.take (n*es)).length=n*es:=by rw [List.length_take,Array.length_toList];exact Nat.min_eq_left (by omega)
          rw [List.append_assoc,List.getElem?_append_right (by rw [htl];omega),htl,List.getElem?_append_left hkl]
          exact hu')
     refine ⟨_,_,hstp,hsim,.inl ⟨_,hrunb hxv hrun,?_⟩⟩
     rw [hj]
     have hnx:(s.put r .dead).next=s.next:=St.next_put _ _ _
     rw [hnx]
     exact .slu s.next 0 (n+m) cc L (ext_same _ _ _) hroom hcs.2 (fun _=>hcs.1)
    ·obtain ⟨hq1,hq2⟩:=hs.kill (r:=r) (by assumption)
     exact grow (by omega) hbm _ hq2 hq1 hk2
  ·obtain ⟨hbound,hk⟩:=gd_ok hk
   obtain ⟨rfl,rfl⟩:=ok_inj hk
   have hbm:=Nat.le_of_ble_eq_true hbound
   generalize hxx:ρ x=vx at h1
   cases h1
   have hmb:m*i.bytes≤1000000*4096:=by rw [hib];exact Nat.mul_le_mul hbm hbl
   have hrun:=fun ty=>run_append_nil (P:=P) w T ty e i zv hu hi hzz ad m c' news hln hcell (by omega) (by omega) (by omega)
   obtain ⟨hst,hsim⟩:=newRow_pre hs.drew e cs (news.toArray++Builtin.zeroCells zv.cells (grownCap w m 0 e-m)) news es hes hRn h1n
    (fun k u hk=>by rw [Array.getElem?_append_left (by have:=(List.getElem?_eq_some_iff.1 hk).1;simpa using this)];simpa using hk) (by simp) (by
      intro u hu
      simp only [Array.toList_append,List.mem_append] at hu
      rcases hu with hu|hu
      ·exact h1n u hu
      ·exact hz1 _ u hu)
   refine ⟨_,_,Stp.drew.trans hst,hsim,.inl ⟨_,hrunb hxx hrun,?_⟩⟩
   refine .slu s.next 0 m _ _ (ext_same _ _ _) (grownCap_ge _ _ _ _) (grownCap_le_maxLen _ _ _ _ (by unfold maxLen;omega)) (fun _=>?_)
   have hge:=grownCap_ge w m 0 e
   simp only [Array.size_append,List.size_toArray,size_zeroCells,hln,his,hzs]
   rw [← Nat.add_mul]
   exact Nat.mul_le_mul_right _ (by omega)
  ·cases hk
  ·obtain ⟨c,rfl,hk⟩:=opt_ok hk
   obtain ⟨bz,oz,cc,cz,zs,hxx,hbz,g1,g3,g4,hnc,hck,g5⟩:=fzV h1
   have hcc:=hck c rfl
   subst hcc
   change (Bool.rec (Option.rec .fail (fun old=>appNew e (n+m) (appL old cs) s) (takeL (Nat.mul n es) l0)) .fail (Nat.ble (n+m) cc):RV)=.ok v s' at hk
   cases hb:Nat.ble (n+m) cc with
   | true=>rw [hb] at hk;cases hk
   | false=>
    rw [hb] at hk
    obtain ⟨old,hold,hk⟩:=opt_ok hk
    obtain ⟨olds,e1,g2,hRo,h1o⟩:=fz_take (k:=0) hs hbz g1 g3 g4 hold
    rw [Nat.add_zero] at g2
    obtain ⟨hbd,hk⟩:=gd_ok hk
    have hnle:¬ (n+m≤cc):=fun e=>by rw [Nat.ble_eq_true_of_le e] at hb;cases hb
    exact grow _ n cc old olds hxx (by rw [his];exact e1) (fz_cells hs hbz g2) hRo h1o (by omega) (Nat.le_of_ble_eq_true hbd) s hs (.refl _ _ _) hk
end
end Go.AM
namespace Go.AM
section
variable {P:Program}{γ:Gam}{s:St}{w:World}{t:AT}{ρ:Operand->Value}
abbrev EntR (γ:Gam) (x:AV×AV×Nat) (m:MapEntry):Prop:=VR γ x.1 m.key∧VR γ x.2.1 m.val∧m.born=x.2.2
theorem eqKey_some {a b:AV}{c:Bool}(h:eqKey a b=some c):∃ k x y,a=.int k x∧b=.int k y∧c=(x == y):=by
 unfold eqKey at h
 split at h
 ·rename_i k x k' y
  cases hk:eqK k k' with
  | false=>rw [hk] at h;cases h
  | true=>rw [hk] at h;cases h;cases kCode_inj hk;exact ⟨k,x,y,rfl,rfl,eqI_eq _ _⟩
 ·cases h
variable {kk:IntKind}{k:AV}{k':Value}
theorem find_none (hk:VR γ k k'):∀ {es:List (AV×AV×Nat)}{ms:List MapEntry}(i:Nat),All2 (EntR γ) es ms->findK k es=some none->Instr.findNow (.int kk) k' ms i=some none:=by
 intro es
 induction es with
 | nil=>intro ms i h _;cases h;rfl
 | cons x es ih=>
  intro ms i h hf
  cases h with
  | @cons _ m _ ms' h1 h2=>
   obtain ⟨xk,xv,xb⟩:=x
   simp only [findK] at hf
   cases he:eqKey k xk with
   | none=>rw [he] at hf;cases hf
   | some c=>
    rw [he] at hf
    obtain ⟨q,a,b,rfl,rfl,hc⟩:=eqKey_some he
    have e1:=intV hk
    have e2:=intV h1.1
    cases c with
    | true=>cases hf
    | false=>
     simp only [Instr.findNow,e1,e2,Instr.sameNow,if_true,← hc]
     rw [← e1];exact ih (i+1) h2 hf
variable {v:AV}
theorem find_some (hk:VR γ k k'):∀ {es:List (AV×AV×Nat)}{ms:List MapEntry}(i:Nat),All2 (EntR γ) es ms->findK k es=some (some v)->
 ∃ j m,Instr.findNow (.int kk) k' ms i=some (some (i+j,m.val))∧ms[j]?=some m∧m.key=k'∧(∃ q a,k'=.int q a)∧VR γ v m.val∧
  (∀ x x' ,VR γ x x'->All2 (EntR γ) (setK k x es) (ms.set j { m with key:=k',val:=x' }))∧All2 (EntR γ) (delK k es) (ms.eraseIdx j):=by
 intro es
 induction es with
 | nil=>intro ms i _ hf;cases hf
 | cons x es ih=>
  intro ms i h hf
  cases h with
  | @cons _ m _ ms' h1 h2=>
   obtain ⟨xk,xv,xb⟩:=x
   simp only [findK] at hf
   cases he:eqKey k xk with
   | none=>rw [he] at hf;cases hf
   | some c=>
    rw [he] at hf
    obtain ⟨q,a,b,rfl,rfl,hc⟩:=eqKey_some he
    have e1:=intV hk
    have e2:=intV h1.1
    cases c with
    | true=>
     cases hf
     have hab:a=b:=by simpa using hc.symm
     subst hab
     refine ⟨0,m,?_,by simp,by rw [e1,e2],⟨q,a,e1⟩,h1.2.1,?_,?_⟩
     ·simp [Instr.findNow,e1,e2,Instr.sameNow]
     ·intro x x' hx
      simp only [setK,he,List.set_cons_zero]
      exact .cons ⟨hk,hx,h1.2.2⟩ h2
     ·simp only [delK,he,List.eraseIdx_cons_zero];exact h2
    | false=>
     obtain ⟨j,m',r1,r2,r3,r4,r5,r6,r7⟩:=ih (i+1) h2 hf
     refine ⟨j+1,m',?_,by simpa using r2,r3,r4,r5,?_,?_⟩
     ·simp only [Instr.findNow,e1,e2,Instr.sameNow,if_true,← hc]
      rw [← e1,r1]
      congr 3
      omega
     ·intro x x' hx
      simp only [setK,he,List.set_cons_succ]
      exact .cons h1 (r6 x x' hx)
     ·simp only [delK,he,List.eraseIdx_cons_succ]
      exact .cons h1 r7
variable {r c:Nat}
theorem mapAt_some {es:List (AV×AV×Nat)}(h:mapAt r s=some (es,c)):s.get r=some (.map es c):=by
 unfold mapAt at h
 cases hg:s.get r with
 | none=>rw [hg] at h;cases h
 | some o=>rw [hg] at h;cases o <;> first|(cases h;rfl)|cases h
variable {kt:Nat}
theorem run_checkKey (hu:P.underlying kt=some (.int kk)) (b:Bool) (v:Value):(Instr.checkKey b 10000 kt v).run P w=.ok () w:=by
 show (Instr.checkKey b (9999+1) kt v).run P w=_
 unfold Instr.checkKey
 simp only [Sem.run_bind,run_underlying hu,Result.andThen_ok]
 rfl
theorem run_findKey (hu:P.underlying kt=some (.int kk)) {k:Value}{ms:List MapEntry}{r:Option (Nat×Value)}(h:Instr.findNow (.int kk) k ms 0=some r):(Instr.findKey kt k ms).run P w=.ok r w:=by
 simp only [Instr.findKey,Sem.run_bind,run_underlying hu,Result.andThen_ok,h,Sem.run_pure]
variable {ms:Array MapEntry}
theorem run_getObj_map (h:w.heap[r]?=some (.map ms c)):(getObj r).run P w=.ok (.map ms c) w:=by
 simp [getObj,Sem.run,h]
theorem run_setObj_map (o:Obj) (h:w.heap[r]?=some (.map ms c)):(setObj r o).run P w=.ok () { w with heap:=w.heap.setIfInBounds r o }:=by
 simp [setObj,Sem.run,h]
theorem turnObj (hs:Sim P γ s w) {L:Loc}{x o:AObj}{O:Obj}(hx:s.get r=some x) (hL:γ r=some L) (ha:alive x=true) (ho:ObjR P γ L o (w.heap.setIfInBounds L.b O)):
 Stp γ s w γ (s.put r o) { w with heap:=w.heap.setIfInBounds L.b O }∧Sim P γ (s.put r o) { w with heap:=w.heap.setIfInBounds L.b O }:=
 hs.turn hx hL ha (fun b hb=>by show (w.heap.setIfInBounds L.b O)[b]?=_;rw [Array.getElem?_setIfInBounds,if_neg (fun e=>hb e.symm)]) (by simp) rfl rfl rfl ho
variable {o:Oper}{ty:Nat}{s':St}
theorem mkmap_fresh (ho:o.op=.makeMap ty none) (h:mkmapA t s=.ok v s'):Fresh P γ w ρ o s v s':=by
 obtain ⟨rfl,rfl⟩:=ok_inj h
 refine ⟨.map [] 0,.map,.map #[] 0,0,0,.map (some w.heap.size),rfl,rfl,?_,fun γ' r hle hr=>⟨⟨#[],by show (w.heap.push _)[w.heap.size]?=_;simp,.nil⟩,.map r _ hr⟩⟩
 simp only [execOp,ho,Instr.makeMap,Option.map_none,Sem.run_bind,run_new',Result.andThen_ok,Sem.run_pure]
variable {e:Nat}{x:Operand}{a:AO}
theorem lenm_sound (hs:Sim P γ s w) {T:Nat}(hu:P.underlying T=some (.map kt e)) (hx:aop x=some a) (ho:o.op=.call { callee:=.builtin .len,args:=#[x],argTypes:=#[T] }) (he:Evs γ t ρ [x])
 (h:lenmA a t s=.ok v s'):OpOk P γ s w ρ o v s':=by
 obtain ⟨u,hu',h⟩:=wth_ok h
 have hv:=he x (by simp) a u hx hu'
 rcases map_ok h with ⟨r,rfl,hk⟩|⟨rfl,hk⟩
 ·obtain ⟨⟨es,c⟩,hm,hk⟩:=opt_ok hk
  obtain ⟨rfl,rfl⟩:=ok_inj hk
  generalize hxx:ρ x=vx at hv
  cases hv with
  | map _ L hL=>
   obtain ⟨ms,hms,hR⟩:=hs.obj r _ L (mapAt_some hm) hL
   refine OpOk.still hs (.int .i64 ms.size) ?_ ?_
   ·rw [run_call_builtin ho]
    have hl:∀ ty,(Builtin.len_ #[T] ty #[.map (some L.b)]).run P w=.ok (goInt ms.size) w:=fun ty=>by simp [Builtin.len_,run_underlying hu,run_getObj_map hms]
    simp only [builtin,List.map_toArray,List.map_cons,List.map_nil,hxx,Sem.run_bind,hl,Result.andThen_ok,Sem.run_pure]
    rfl
   ·have:=hR.length
    simp at this
    rw [lenL_eq,this];exact .int _ _
 ·obtain ⟨rfl,rfl⟩:=ok_inj hk
  generalize hxx:ρ x=vx at hv
  cases hv
  refine OpOk.still hs (.int .i64 (0:Nat)) ?_ (.int _ _)
  rw [run_call_builtin ho]
  have hl:∀ ty,(Builtin.len_ #[T] ty #[.map none]).run P w=.ok (goInt (0:Nat)) w:=fun ty=>by simp [Builtin.len_,run_underlying hu]
  simp only [builtin,List.map_toArray,List.map_cons,List.map_nil,hxx,Sem.run_bind,hl,Result.andThen_ok,Sem.run_pure]
  rfl
theorem sameBits_int (q:IntKind) (a:Int):Instr.sameBits 10000 (.int q a) (.int q a)=true:=by simp [Instr.sameBits]
variable {y:Operand}{b:AO}
theorem mset_sound (hs:Sim P γ s w) {z:Operand}{c:AO}(hd:o.dst=none) (hu:P.underlying ty=some (.map kt e)) (hku:P.underlying kt=some (.int kk)) (hx:aop x=some a) (hy:aop y=some b) (hz:aop z=some c)
 (ho:o.op=.mapUpdate ty x y z∨o.op=.insert ty x y z) (he:Evs γ t ρ [x,y,z]) (h:msetA a b c t s=.ok v s'):OpOk P γ s w ρ o v s':=by
 obtain ⟨u1,hu1,h⟩:=wth_ok h
 obtain ⟨u2,hu2,h⟩:=wth_ok h
 obtain ⟨u3,hu3,h⟩:=wth_ok h
 have h1:=he x (by simp) a u1 hx hu1
 have h2:=he y (by simp) b u2 hy hu2
 have h3:=he z (by simp) c u3 hz hu3
 rcases map_ok h with ⟨r,rfl,hk⟩|⟨rfl,hk⟩
 ·obtain ⟨⟨es,cl⟩,hm,hk⟩:=opt_ok hk
  obtain ⟨f,hf,hk⟩:=opt_ok hk
  have hg:=mapAt_some hm
  obtain ⟨L,hL,hxv⟩:∃ L,γ r=some L∧ρ x=.map (some L.b):=by
   generalize ρ x=vx at h1
   cases h1 with
   | map _ L hL=>exact ⟨L,hL,rfl⟩
  obtain ⟨ms,hms,hR⟩:=hs.obj r _ L hg hL
  have hlt:=hs.lt r L hL
  cases f with
  | none=>
   obtain ⟨rfl,rfl⟩:=ok_inj hk
   have hfn:=find_none (kk:=kk) h2 0 hR hf
   obtain ⟨hst,hsim⟩:=turnObj (O:=.map (ms.push { key:=ρ y,val:=ρ z,born:=cl }) (cl+1)) (o:=.map (appL es [(u2,u3,cl)]) (cl+1)) hs hg hL rfl
    ⟨_,by rw [Array.getElem?_setIfInBounds,if_pos rfl,if_pos hlt],by rw [appL_eq,Array.toList_push];exact hR.append (.cons ⟨h2,h3,rfl⟩ .nil)⟩
   refine ⟨γ,_,hst,hsim,.inr ⟨?_,hd⟩⟩
   rcases ho with ho|ho <;>
    simp only [execOp,ho,Instr.mapUpdate,Sem.run_bind,run_underlying hu,Result.andThen_ok,hxv,run_getObj_map hms,run_checkKey hku,run_findKey hku hfn,run_setObj_map _ hms,Sem.run_pure]
  | some w0=>
   obtain ⟨rfl,rfl⟩:=ok_inj hk
   obtain ⟨j,m,r1,r2,r3,⟨q,n,r4⟩,r5,r6,r7⟩:=find_some (kk:=kk) h2 0 hR hf
   rw [Nat.zero_add] at r1
   have hjl:j<ms.size:=by have:=(List.getElem?_eq_some_iff.1 r2).1;simpa using this
   have hjm:ms[j]?=some m:=by simpa using r2
   obtain ⟨hst,hsim⟩:=turnObj (O:=.map (ms.modify j fun e=>{ e with key:=ρ y,val:=ρ z }) cl) (o:=.map (setK u2 u3 es) cl) hs hg hL rfl
    ⟨_,by rw [Array.getElem?_setIfInBounds,if_pos rfl,if_pos hlt],by
      have e1:(ms.modify j fun e=>{ e with key:=ρ y,val:=ρ z }).toList=ms.toList.set j { m with key:=ρ y,val:=ρ z }:=by
       apply List.ext_getElem?
       intro k
       rw [Array.getElem?_toList,Array.getElem?_modify,List.getElem?_set]
       by_cases hjk:j=k
       ·subst hjk
        have hmj:ms[j]=m:=by
         have h0:=hjm
         rw [Array.getElem?_eq_getElem hjl] at h0
         exact Option.some.inj h0
        simp [hjl,hmj]
       ·simp [hjk]
      rw [e1];exact r6 _ _ h3⟩
   refine ⟨γ,_,hst,hsim,.inr ⟨?_,hd⟩⟩
   have hks:(Instr.keyThatStays (((ms[j]?).map (·.key)).getD (ρ y)) (ρ y)).run P w=.ok (ρ y) w:=by
    simp only [hjm,Option.map_some,Option.getD_some,r3,Instr.keyThatStays,r4,sameBits_int,if_true,Sem.run_pure]
   rcases ho with ho|ho <;>
    simp only [execOp,ho,Instr.mapUpdate,Sem.run_bind,run_underlying hu,Result.andThen_ok,hxv,run_getObj_map hms,run_checkKey hku,run_findKey hku r1,hks,run_setObj_map _ hms,Sem.run_pure]
 ·cases hk
theorem mget_sound (hs:Sim P γ s w) {i:TypeInfo}{zv:Value}{z:AV}{ok:Bool}(hu:P.underlying ty=some (.map kt e)) (hku:P.underlying kt=some (.int kk)) (hi:P.info? e=some i) (hzz:i.zero=some zv) (hz:av1 zv=some z)
 (hx:aop x=some a) (hy:aop y=some b) (ho:o.op=.lookup ty x y ok) (he:Evs γ t ρ [x,y]) (h:mgetA z ok a b t s=.ok v s'):OpOk P γ s w ρ o v s':=by
 obtain ⟨u1,hu1,h⟩:=wth_ok h
 obtain ⟨u2,hu2,h⟩:=wth_ok h
 have h1:=he x (by simp) a u1 hx hu1
 have h2:=he y (by simp) b u2 hy hu2
 have hzR:=(av1_VR (γ:=γ) hz).1
 rcases map_ok h with ⟨r,rfl,hk⟩|⟨rfl,hk⟩
 ·obtain ⟨⟨es,cl⟩,hm,hk⟩:=opt_ok hk
  obtain ⟨f,hf,hk⟩:=opt_ok hk
  have hg:=mapAt_some hm
  obtain ⟨L,hL,hxv⟩:∃ L,γ r=some L∧ρ x=.map (some L.b):=by
   generalize ρ x=vx at h1
   cases h1 with
   | map _ L hL=>exact ⟨L,hL,rfl⟩
  obtain ⟨ms,hms,hR⟩:=hs.obj r _ L hg hL
  cases f with
  | none=>
   obtain ⟨rfl,rfl⟩:=ok_inj hk
   have hfn:=find_none (kk:=kk) h2 0 hR hf
   refine OpOk.still hs (if ok then .tuple #[zv,.bool false] else zv) ?_ ?_
   ·simp only [execOp,ho,Instr.lookup,Sem.run_bind,run_underlying hu,Result.andThen_ok,hxv,run_getObj_map hms,Sem.run_pure,run_checkKey hku,run_findKey hku hfn,run_zeroValue hi hzz]
   ·cases ok
    ·exact hzR
    ·exact .tup _ _ (.cons hzR (.cons (.bool _) .nil))
  | some w0=>
   obtain ⟨rfl,rfl⟩:=ok_inj hk
   obtain ⟨j,m,r1,r2,r3,_,r5,_,_⟩:=find_some (kk:=kk) h2 0 hR hf
   refine OpOk.still hs (if ok then .tuple #[m.val,.bool true] else m.val) ?_ ?_
   ·simp only [execOp,ho,Instr.lookup,Sem.run_bind,run_underlying hu,Result.andThen_ok,hxv,run_getObj_map hms,Sem.run_pure,run_checkKey hku,run_findKey hku r1]
   ·cases ok
    ·exact r5
    ·exact .tup _ _ (.cons r5 (.cons (.bool _) .nil))
 ·obtain ⟨rfl,rfl⟩:=ok_inj hk
  generalize hxx:ρ x=vx at h1
  cases h1
  refine OpOk.still hs (if ok then .tuple #[zv,.bool false] else zv) ?_ ?_
  ·have hfn:Instr.findNow (.int kk) (ρ y) [] 0=some none:=rfl
   simp only [execOp,ho,Instr.lookup,Sem.run_bind,run_underlying hu,Result.andThen_ok,hxx,Sem.run_pure,run_checkKey hku,run_findKey hku hfn,run_zeroValue hi hzz]
  ·cases ok
   ·exact hzR
   ·exact .tup _ _ (.cons hzR (.cons (.bool _) .nil))
theorem mdel_sound (hs:Sim P γ s w) {T U:Nat}(hu:P.underlying T=some (.map kt e)) (hku:P.underlying kt=some (.int kk)) (hx:aop x=some a) (hy:aop y=some b)
 (ho:o.op=.call { callee:=.builtin .delete,args:=#[x,y],argTypes:=#[T,U] }) (he:Evs γ t ρ [x,y]) (h:mdelA a b t s=.ok v s'):OpOk P γ s w ρ o v s':=by
 obtain ⟨u1,hu1,h⟩:=wth_ok h
 obtain ⟨u2,hu2,h⟩:=wth_ok h
 have h1:=he x (by simp) a u1 hx hu1
 have h2:=he y (by simp) b u2 hy hu2
 rcases map_ok h with ⟨r,rfl,hk⟩|⟨rfl,hk⟩
 ·obtain ⟨⟨es,cl⟩,hm,hk⟩:=opt_ok hk
  obtain ⟨f,hf,hk⟩:=opt_ok hk
  obtain ⟨rfl,rfl⟩:=ok_inj hk
  have hg:=mapAt_some hm
  obtain ⟨L,hL,hxv⟩:∃ L,γ r=some L∧ρ x=.map (some L.b):=by
   generalize ρ x=vx at h1
   cases h1 with
   | map _ L hL=>exact ⟨L,hL,rfl⟩
  obtain ⟨ms,hms,hR⟩:=hs.obj r _ L hg hL
  have hlt:=hs.lt r L hL
  have fin:∀ (ms':Array MapEntry),All2 (EntR γ) (delK u2 es) ms'.toList->(∀ ty,(Builtin.delete_ #[T,U] ty #[.map (some L.b),ρ y]).run P w=.ok (.tuple #[]) { w with heap:=w.heap.setIfInBounds L.b (.map ms' cl) })->OpOk P γ s w ρ o (.tup []) (s.put r (.map (delK u2 es) cl)):=by
   intro ms' hR' hrun
   obtain ⟨hst,hsim⟩:=turnObj (O:=.map ms' cl) (o:=.map (delK u2 es) cl) hs hg hL rfl ⟨_,by rw [Array.getElem?_setIfInBounds,if_pos rfl,if_pos hlt],hR'⟩
   refine ⟨γ,_,hst,hsim,.inl ⟨.tuple #[],?_,.tup _ _ .nil⟩⟩
   rw [run_call_builtin ho]
   simp only [builtin,List.map_toArray,List.map_cons,List.map_nil,hxv,Sem.run_bind,hrun,Result.andThen_ok,Sem.run_pure]
  cases f with
  | none=>
   have hfn:=find_none (kk:=kk) h2 0 hR hf
   have hdel:∀ {es:List (AV×AV×Nat)},findK u2 es=some none->delK u2 es=es:=by
    intro es
    induction es with
    | nil=>intro _;rfl
    | cons x es ih=>
     intro hf
     obtain ⟨xk,xv,xb⟩:=x
     simp only [findK] at hf
     simp only [delK]
     cases he:eqKey u2 xk with
     | none=>rw [he] at hf;cases hf
     | some c=>cases c with
      | true=>rw [he] at hf;cases hf
      | false=>rw [he] at hf;simp [ih hf]
   refine fin ms (by rw [hdel hf];exact hR) fun ty=>?_
   simp only [Builtin.delete_,List.getElem?_toArray,List.getElem?_cons_zero,List.getElem?_cons_succ,Sem.run_bind,run_underlying hu,Result.andThen_ok,run_getObj_map hms,run_checkKey hku,run_findKey hku hfn,run_setObj_map _ hms,Sem.run_pure]
  | some w0=>
   obtain ⟨j,m,r1,r2,r3,_,r5,_,r7⟩:=find_some (kk:=kk) h2 0 hR hf
   rw [Nat.zero_add] at r1
   refine fin (ms.eraseIdxIfInBounds j) (by simpa using r7) fun ty=>?_
   simp only [Builtin.delete_,List.getElem?_toArray,List.getElem?_cons_zero,List.getElem?_cons_succ,Sem.run_bind,run_underlying hu,Result.andThen_ok,run_getObj_map hms,run_checkKey hku,run_findKey hku r1,run_setObj_map _ hms,Sem.run_pure]
 ·cases hk
end
end Go.AM
namespace Go.AM
section
variable {P:Program}{γ:Gam}{s:St}{w:World}{t:AT}{ρ:Operand->Value}
variable {o:Oper}{e:Nat}{x:Operand}{a:AO}{v:AV}{s':St}
theorem cap_sound (hs:Sim P γ s w) {T:Nat}(hu:P.underlying T=some (.slice e)) (hx:aop x=some a) (ho:o.op=.call { callee:=.builtin .cap,args:=#[x],argTypes:=#[T] }) (he:Evs γ t ρ [x])
 (h:capA a t s=.ok v s'):OpOk P γ s w ρ o v s':=by
 obtain ⟨u,hu',h⟩:=wth_ok h
 have hv:=he x (by simp) a u hx hu'
 rcases sl_ok2 h with ⟨r,i,n,c,rfl,h⟩|⟨rfl,h⟩|⟨rfl,h⟩|⟨n,c,l0,rfl,h⟩
 rotate_right
 ·obtain ⟨c,rfl,h⟩:=opt_ok h
  obtain ⟨rfl,rfl⟩:=ok_inj h
  obtain ⟨bz,oz,cc,cz,zs,hval,_,_,_,_,_,hck,_⟩:=fzV hv
  have:=hck c rfl
  subst this
  refine OpOk.still hs (.int .i64 cc) ?_ (.int _ _)
  rw [run_call_builtin ho]
  have hl:∀ ty,(Builtin.cap_ #[T] ty #[.slice (some ⟨bz,oz,none⟩) n cc]).run P w=.ok (goInt cc) w:=fun ty=>by simp [Builtin.cap_,run_underlying hu]
  simp only [builtin,List.map_toArray,List.map_cons,List.map_nil,hval,Sem.run_bind,hl,Result.andThen_ok,Sem.run_pure]
  rfl
 ·obtain ⟨c,rfl,h⟩:=opt_ok h
  obtain ⟨rfl,rfl⟩:=ok_inj h
  obtain ⟨L,cc,hL,hval,hcc⟩:=slV hv
  have:=hcc c rfl
  subst this
  refine OpOk.still hs (.int .i64 cc) ?_ (.int _ _)
  rw [run_call_builtin ho]
  have hl:∀ ty,(Builtin.cap_ #[T] ty #[.slice (some ⟨L.b,L.o+i,none⟩) n cc]).run P w=.ok (goInt cc) w:=fun ty=>by simp [Builtin.cap_,run_underlying hu]
  simp only [builtin,List.map_toArray,List.map_cons,List.map_nil,hval,Sem.run_bind,hl,Result.andThen_ok,Sem.run_pure]
  rfl
 ·cases h
 ·cases h
theorem isEz_eq (h:isEz v=true):v=.ez:=by
 cases v <;> first|rfl|cases h
theorem app0_sound (hs:Sim P γ s w) {T U es by_:Nat}{kn:IntKind}{z:List AV}{y:Operand}{b:AO}(hu:P.underlying T=some (.slice e)) (hU:P.underlying U=some (.int kn)) (hes:szOf P e=some es) (hby:byOf P e=some by_) (hz:zeroOf P e=some z) (h1es:1≤es) (hbl:by_≤4096) (hzl:z.length=es)
 (hx:aop x=some a) (hy:aop y=some b) (ho:o.op=.call { callee:=.builtin .append,args:=#[x,y],argTypes:=#[T,U] }) (he:Evs γ t ρ [x,y]) (h:app0A e es z a b t s=.ok v s'):OpOk P γ s w ρ o v s':=by
 obtain ⟨u1,hu1,h⟩:=wth_ok h
 obtain ⟨u2,hu2,h⟩:=wth_ok h
 have h1:=he x (by simp) a u1 hx hu1
 have h2:=he y (by simp) b u2 hy hu2
 obtain ⟨k,hk,h⟩:=nat_ok h
 obtain ⟨kk,rfl⟩:=asNat_eq hk
 obtain ⟨i,zv,hi,hzz,ha⟩:=zeroOf_some hz
 obtain ⟨y1,y2⟩:=avs_VR (γ:=γ) ha
 have his:i.size=es:=by simp [szOf,hi] at hes;exact hes
 have hib:i.bytes=by_:=by simp [byOf,hi] at hby;exact hby
 have hzs:zv.cells.size=es:=by rw [← hzl];simpa using y1.length.symm
 have hkv:ρ y=.int kk k:=by generalize ρ y=q at h2;cases h2;rfl
 have hrunb:∀ {xv:Value}{r:Value}{w':World},ρ x=xv->(∀ ty,(Builtin.append_ #[T,U] ty #[xv,.int kk k]).run P w=.ok r w')->(execOp ρ o).run P w=.ok (.value r) w':=by
  intro xv r w' e1 hr
  rw [run_call_builtin ho]
  simp only [builtin,List.map_toArray,List.map_cons,List.map_nil,e1,hkv,Sem.run_bind,hr,Result.andThen_ok,Sem.run_pure]
 have key:∀ (base:Option Addr) (n cc:Nat) (old:List AV) (olds:List Value),ρ x=.slice base n cc->All2 (VR γ) old olds->(∀ v ∈ olds,v.oneCell'=true)->olds.length=n*i.size->(Builtin.firstCells i.size n (.slice base n cc)).run P w.drew=.ok olds.toArray w.drew->¬ (n+k≤cc)->0<k->appNew e (n+k) (appL old (rep z k)) s=.ok v s'->OpOk P γ s w ρ o v s':=by
  intro base n cc old olds hxv hRo h1o e1' hold' hnle hkp h
  obtain ⟨hbd,h⟩:=gd_ok h
  have hbm:=Nat.le_of_ble_eq_true hbd
  obtain ⟨rfl,rfl⟩:=ok_inj h
  obtain ⟨q1,q2⟩:=zeros_VR y1 y2 (by omega) k
  have hzc:Builtin.zeroCells zv.cells k=(Array.range (k*zv.cells.size)).map (fun i=>zv.cells[i % zv.cells.size]!):=rfl
  rw [← hzc] at q1 q2
  have hmb:(n+k)*i.bytes≤1000000*4096:=by rw [hib];exact Nat.mul_le_mul hbm hbl
  have hmb':k*i.bytes≤1000000*4096:=by rw [hib];exact Nat.mul_le_mul (by omega) hbl
  have hrun:=fun ty=>Lib.run_append_grow_zeros (P:=P) w T U ty e i zv kk kn hu hU hi hzz base n cc olds hold' k hkp (by omega) (by omega) (by omega) (by omega) (growslice_fits (by omega) (by omega))
  have hRa:All2 (VR γ) (appL old (rep z k)) (olds++(Builtin.zeroCells zv.cells k).toList):=by rw [appL_eq,rep_eq];exact hRo.append q1
  obtain ⟨hst,hsim⟩:=newRow_pre hs.drew e (appL old (rep z k)) (olds.toArray++Builtin.zeroCells zv.cells k++Builtin.zeroCells zv.cells (grownCap w (n+k) cc e-(n+k))) (olds++(Builtin.zeroCells zv.cells k).toList) es hes hRa
   (by intro u hu;rcases List.mem_append.1 hu with hu|hu;exact h1o u hu;exact q2 u hu)
   (fun j u hj=>by
     rw [Array.getElem?_append_left (by have:=(List.getElem?_eq_some_iff.1 hj).1;simpa using this)]
     rw [← Array.getElem?_toList];simpa using hj) (by simp) (by
      intro u hu
      simp only [Array.toList_append,List.append_assoc,List.mem_append] at hu
      rcases hu with hu|hu|hu
      ·exact h1o u hu
      ·exact q2 u hu
      ·exact (zeros_VR y1 y2 (by omega) _).2 u hu)
  refine ⟨_,_,(Stp.drew).trans hst,hsim,.inl ⟨.slice (some ⟨w.heap.size,0,none⟩) (n+k) (grownCap w (n+k) cc e),hrunb hxv hrun,?_⟩⟩
  refine .slu s.next 0 (n+k) _ _ (ext_same _ _ _) (grownCap_ge _ _ _ _) (grownCap_le_maxLen _ _ _ _ (by unfold maxLen;omega)) (fun _=>?_)
  have hge:=grownCap_ge w (n+k) cc e
  simp only [Array.size_append,List.size_toArray,size_zeroCells,e1',his,hzs]
  rw [← Nat.add_mul,← Nat.add_mul]
  exact Nat.mul_le_mul_right _ (by omega)
 have h:(Bool.rec (Bool.rec (SR.rec .fail (fun r o n cap=>Option.rec .fail (fun old=>
  Option.rec .fail (fun c=>Bool.rec (gd (Nat.blt 0 k) (appNew e (n+k) (appL old (rep z k)) s)) .fail (Nat.ble (n+k) c)) cap) (load r o (Nat.mul n es) s)) (appNew e k (rep z k) s) .fail
  (fun n cap l=>Option.rec .fail (fun c=>Bool.rec (Option.rec .fail (fun old=>appNew e (n+k) (appL old (rep z k)) s) (takeL (Nat.mul n es) l)) .fail (Nat.ble (n+k) c)) cap) (asSl u1)) (appNew e k (rep z k) s) (isEz u1))
  (Bool.rec (SR.rec .fail (fun r o n c=>.ok (.sl r o n c) s) (.ok .nils s) (.ok .es s) (fun n c l=>.ok (.fz n c l) s) (asSl u1)) (.ok .es s) (isEz u1)) (Nat.beq k 0):RV)=.ok v s':=h
 cases hb0:Nat.beq k 0 with
 | true=>
  rw [hb0] at h
  have hk0:=Nat.eq_of_beq_eq_true hb0
  subst hk0
  have hw0:IntKind.i64.wrap 0=0:=by rw [IntKind.wrap_i64];decide
  have hrun0:∀ (p:Option Addr) (n c:Nat),n≤c->∀ ty,(Builtin.append_ #[T,U] ty #[.slice p n c,.int kk (0:Nat)]).run P w=.ok (.slice p n c) w:=fun p n c hnc ty=>by
   cases p <;> simp [Builtin.append_,run_underlying hu,run_underlying hU,sizeOf,typeInfo,hi,Go.asInt,Go.asIntOf,hw0,hnc,storeCells]
  cases hez:isEz u1 with
  | true=>
   rw [hez] at h
   obtain ⟨rfl,rfl⟩:=ok_inj h
   have:=isEz_eq hez
   subst this
   generalize hxx:ρ x=vx at h1
   cases h1 with
   | ez ad=>exact OpOk.still hs _ (hrunb hxx (hrun0 _ _ _ (Nat.le_refl _))) (.es _ _)
  | false=>
   rw [hez] at h
   rcases sl_ok2 h with ⟨r,j,n,c,rfl,h⟩|⟨rfl,h⟩|⟨rfl,h⟩|⟨n,c,l0,rfl,h⟩
   ·obtain ⟨rfl,rfl⟩:=ok_inj h
    generalize hxx:ρ x=vx at h1
    have h1':=h1
    cases h1 with
    | sl _ _ _ c L hL hnc=>exact OpOk.still hs _ (hrunb hxx (hrun0 _ _ _ hnc)) h1'
    | slu _ _ _ c L hL hnc=>exact OpOk.still hs _ (hrunb hxx (hrun0 _ _ _ hnc)) h1'
   ·obtain ⟨rfl,rfl⟩:=ok_inj h
    generalize hxx:ρ x=vx at h1
    cases h1
    exact OpOk.still hs _ (hrunb hxx (hrun0 _ _ _ (Nat.le_refl _))) .nils
   ·obtain ⟨rfl,rfl⟩:=ok_inj h
    generalize hxx:ρ x=vx at h1
    cases h1 with
    | es ad c=>exact OpOk.still hs _ (hrunb hxx (hrun0 _ _ _ (Nat.zero_le _))) (.es _ _)
   ·obtain ⟨rfl,rfl⟩:=ok_inj h
    obtain ⟨bz,oz,cc,cz,zs,hxx,_,_,_,_,hnc,_,_⟩:=fzV h1
    exact OpOk.still hs _ (hrunb hxx (hrun0 _ _ _ hnc)) (by rw [← hxx];exact h1)
 | false=>
  rw [hb0] at h
  have hkp:0<k:=by
   rcases Nat.eq_zero_or_pos k with e|e
   ·subst e;cases hb0
   ·exact e
  have hf0:∀ p:Option Addr,(Builtin.firstCells i.size 0 (.slice p 0 0)).run P w.drew=.ok (([]:List Value).toArray) w.drew:=fun p=>by cases p <;> simp [Builtin.firstCells,loadCells,loadCellsFrom]
  cases hez:isEz u1 with
  | true=>
   rw [hez] at h
   have:=isEz_eq hez
   subst this
   generalize hxx:ρ x=vx at h1
   cases h1 with
   | ez ad=>exact key (some ad) 0 0 [] [] hxx .nil (by simp) (by simp) (hf0 _) (by omega) hkp (by rw [Nat.zero_add];exact h)
  | false=>
   rw [hez] at h
   rcases sl_ok2 h with ⟨r,j,n,c,rfl,h⟩|⟨rfl,h⟩|⟨rfl,h⟩|⟨n,c,l0,rfl,h⟩
   ·obtain ⟨old,hold,h⟩:=opt_ok h
    obtain ⟨c,rfl,h⟩:=opt_ok h
    obtain ⟨L,cc,hL,hxv,hck⟩:=slV h1
    have hcc:=hck c rfl
    subst hcc
    obtain ⟨olds,e1,hco,hRo,h1o⟩:=load_sound hs hold hL
    have e1':olds.length=n*i.size:=by rw [his];exact e1
    change (Bool.rec (gd (Nat.blt 0 k) (appNew e (n+k) (appL old (rep z k)) s)) .fail (Nat.ble (n+k) cc):RV)=.ok v s' at h
    cases hb:Nat.ble (n+k) cc with
    | true=>rw [hb] at h;cases h
    | false=>
     rw [hb] at h
     obtain ⟨_,h⟩:=gd_ok h
     have hnle:¬ (n+k≤cc):=fun e=>by rw [Nat.ble_eq_true_of_le e] at hb;cases hb
     exact key _ n cc old olds hxv hRo h1o e1' (run_firstCells_some w.drew i.size n ⟨L.b,L.o+j,none⟩ n cc olds e1' (fun jj u hj=>hco jj u hj)) hnle hkp h
   ·generalize hxx:ρ x=vx at h1
    cases h1
    exact key none 0 0 [] [] hxx .nil (by simp) (by simp) (hf0 _) (by omega) hkp (by rw [Nat.zero_add];exact h)
   ·cases h
   ·obtain ⟨c,rfl,h⟩:=opt_ok h
    obtain ⟨b,oz,cc,cz,zs,hxx,hbz,h2',h3',h4',hnc,hck,h5'⟩:=fzV h1
    have hcc:=hck c rfl
    subst hcc
    change (Bool.rec (Option.rec .fail (fun old=>appNew e (n+k) (appL old (rep z k)) s) (takeL (Nat.mul n es) l0)) .fail (Nat.ble (n+k) cc):RV)=.ok v s' at h
    cases hb:Nat.ble (n+k) cc with
    | true=>rw [hb] at h;cases h
    | false=>
     rw [hb] at h
     obtain ⟨old,ht,h⟩:=opt_ok h
     have hnle:¬ (n+k≤cc):=fun e=>by rw [Nat.ble_eq_true_of_le e] at hb;cases hb
     obtain ⟨olds,e1,g2,hRo,h1o⟩:=fz_take (k:=0) hs hbz h2' h3' h4' ht
     have e1':olds.length=n*i.size:=by rw [his];exact e1
     rw [Nat.add_zero] at g2
     exact key _ n cc old olds hxx hRo h1o e1' (run_firstCells_some w.drew i.size n ⟨b,oz,none⟩ n cc olds e1' (fun jj u hj=>fz_cells hs hbz g2 jj u hj)) hnle hkp h
end
end Go.AM
namespace Go.AM
section
variable {P:Program}{γ:Gam}{s:St}{w:World}{t:AT}{ρ:Operand->Value}
variable {r:Nat}
theorem othK_all {o:Nat}:∀ {es:List (AV×AV×Nat)},othK r o es=true->∀ x ∈ es,∃ o',x.1=.ptr r o'∧o≠o':=by
 intro es
 induction es with
 | nil=>intro _ x hx;cases hx
 | cons y es ih=>
  intro h x hx
  simp only [othK] at h
  cases hp:asPtr y.1 with
  | no=>rw [hp] at h;cases h
  | fp l=>rw [hp] at h;cases h
  | ptr r' o'=>
   rw [hp] at h
   cases hr:Nat.beq r r' with
   | false=>simp only [hr] at h;cases h
   | true=>
    simp only [hr] at h
    cases ho:Nat.beq o o' with
    | true=>simp only [ho] at h;cases h
    | false=>
     simp only [ho] at h
     cases hx with
     | head=>
      refine ⟨o',?_,?_⟩
      ·rw [Nat.eq_of_beq_eq_true hr];exact asPtr_eq hp
      ·intro e;subst e;rw [Nat.beq_refl] at ho;cases ho
     | tail _ hx=>exact ih h x hx
variable {kt e:Nat}
theorem run_checkKeyP (hu:P.underlying kt=some (.pointer e)) (b:Bool) (v:Value):(Instr.checkKey b 10000 kt v).run P w=.ok () w:=by
 show (Instr.checkKey b (9999+1) kt v).run P w=_
 unfold Instr.checkKey
 simp only [Sem.run_bind,run_underlying hu,Result.andThen_ok]
 rfl
variable {n:Nat}
theorem run_equalP (hu:P.underlying kt=some (.pointer e)) (hn:szOf P e=some (n+1)) {a b:Addr}(hab:a.block=b.block) (hne:a≠b):
 (Op.equal kt (.pointer (some a)) (.pointer (some b))).run P w=.ok false w:=by
 show (Op.equalIn (9999+1) kt _ _).run P w=_
 unfold Op.equalIn
 have hb:(a == b)=false:=by simpa using hne
 simp [Sem.run_bind,run_underlying hu,Result.andThen_ok,run_sizeOf hn,sameAddr,hab,hb]
variable {L:Loc}
theorem run_findAskP (hu:P.underlying kt=some (.pointer e)) (hn:szOf P e=some (n+1)) {o:Nat}(hL:γ r=some L):
 ∀ {es:List (AV×AV×Nat)}{ms:List MapEntry}(i:Nat),All2 (EntR γ) es ms->(∀ x ∈ es,∃ o',x.1=.ptr r o'∧o≠o')->
  (Instr.findAsking kt (.pointer (some ⟨L.b,L.o+o,none⟩)) ms i).run P w=.ok none w:=by
 intro es
 induction es with
 | nil=>intro ms i h _;cases h;rfl
 | cons x es ih=>
  intro ms i h hf
  cases h with
  | @cons _ m _ ms' h1 h2=>
   obtain ⟨o',hx,hne⟩:=hf x (by simp)
   have hk:=h1.1
   rw [hx] at hk
   have hkey:m.key=.pointer (some ⟨L.b,L.o+o',none⟩):=by
    generalize m.key=kv at hk
    cases hk with
    | ptr _ _ L' hL'=>rw [hL] at hL';cases hL';rfl
   unfold Instr.findAsking
   rw [hkey]
   have hne':(⟨L.b,L.o+o,none⟩:Addr)≠⟨L.b,L.o+o',none⟩:=fun e=>by injection e with _ e2 _;omega
   simp only [Sem.run_bind,run_equalP hu hn (a:=⟨L.b,L.o+o,none⟩) (b:=⟨L.b,L.o+o',none⟩) rfl hne',Result.andThen_ok,Bool.false_eq_true,if_false]
   exact ih (i+1) h2 fun y hy=>hf y (by simp [hy])
theorem run_findKeyP (hu:P.underlying kt=some (.pointer e)) (hn:szOf P e=some (n+1)) {o:Nat}(hL:γ r=some L)
 {es:List (AV×AV×Nat)}{ms:List MapEntry}(h:All2 (EntR γ) es ms) (hf:∀ x ∈ es,∃ o',x.1=.ptr r o'∧o≠o'):
  (Instr.findKey kt (.pointer (some ⟨L.b,L.o+o,none⟩)) ms).run P w=.ok none w:=by
 have hask:=run_findAskP (P:=P) (w:=w) hu hn hL 0 h hf
 cases h with
 | nil=>simp only [Instr.findKey,Sem.run_bind,run_underlying hu,Result.andThen_ok,Instr.findNow,Sem.run_pure]
 | cons h1 h2=>
  simp only [Instr.findKey,Sem.run_bind,run_underlying hu,Result.andThen_ok,Instr.findNow,Instr.sameNow]
  exact hask
variable {ty:Nat}
theorem ptrKey_some (h:ptrKey P ty=true):∃ kt e el n,P.underlying ty=some (.map kt e)∧P.underlying kt=some (.pointer el)∧szOf P el=some (n+1):=by
 unfold ptrKey at h
 split at h
 ·rename_i kt e hu
  split at h
  ·rename_i el hk
   split at h
   ·rename_i n hn;exact ⟨kt,e,el,n,hu,hk,hn⟩
   ·cases h
  ·cases h
 ·cases h
variable {o:Oper}{x:Operand}{a:AO}{v:AV}{s':St}
theorem msetp_sound (hs:Sim P γ s w) {y z:Operand}{b c:AO}(hd:o.dst=none) (hpk:ptrKey P ty=true) (hx:aop x=some a) (hy:aop y=some b) (hz:aop z=some c)
 (ho:o.op=.mapUpdate ty x y z∨o.op=.insert ty x y z) (he:Evs γ t ρ [x,y,z]) (h:msetpA a b c t s=.ok v s'):OpOk P γ s w ρ o v s':=by
 obtain ⟨kt,e,el,n,hu,hku,hn⟩:=ptrKey_some hpk
 obtain ⟨u1,hu1,h⟩:=wth_ok h
 obtain ⟨u2,hu2,h⟩:=wth_ok h
 obtain ⟨u3,hu3,h⟩:=wth_ok h
 have h1:=he x (by simp) a u1 hx hu1
 have h2:=he y (by simp) b u2 hy hu2
 have h3:=he z (by simp) c u3 hz hu3
 rcases map_ok h with ⟨r,rfl,hk⟩|⟨rfl,hk⟩
 ·obtain ⟨⟨es,cl⟩,hm,hk⟩:=opt_ok hk
  obtain ⟨kr,ko,rfl,hk⟩:=ptr_ok hk
  obtain ⟨hoth,hk⟩:=gd_ok hk
  have hg:=mapAt_some hm
  obtain ⟨L,hL,hxv⟩:∃ L,γ r=some L∧ρ x=.map (some L.b):=by
   generalize ρ x=vx at h1
   cases h1 with
   | map _ L hL=>exact ⟨L,hL,rfl⟩
  obtain ⟨K,hK,hyv⟩:∃ K,γ kr=some K∧ρ y=.pointer (some ⟨K.b,K.o+ko,none⟩):=by
   generalize ρ y=vy at h2
   cases h2 with
   | ptr _ _ K hK=>exact ⟨K,hK,rfl⟩
  obtain ⟨ms,hms,hR⟩:=hs.obj r _ L hg hL
  have hlt:=hs.lt r L hL
  obtain ⟨rfl,rfl⟩:=ok_inj hk
  have hfn:=run_findKeyP (P:=P) (w:=w) hku hn hK hR (othK_all hoth)
  obtain ⟨hst,hsim⟩:=turnObj (O:=.map (ms.push { key:=ρ y,val:=ρ z,born:=cl }) (cl+1)) (o:=.map (appL es [(.ptr kr ko,u3,cl)]) (cl+1)) hs hg hL rfl
   ⟨_,by rw [Array.getElem?_setIfInBounds,if_pos rfl,if_pos hlt],by rw [appL_eq,Array.toList_push];exact hR.append (.cons ⟨h2,h3,rfl⟩ .nil)⟩
  refine ⟨γ,_,hst,hsim,.inr ⟨?_,hd⟩⟩
  rw [← hyv] at hfn
  rcases ho with ho|ho <;>
   simp only [execOp,ho,Instr.mapUpdate,Sem.run_bind,run_underlying hu,Result.andThen_ok,hxv,run_getObj_map hms,run_checkKeyP hku,hfn,run_setObj_map _ hms,Sem.run_pure]
 ·cases hk
theorem mapT_some (h:mapT P ty=true):∃ kt e,P.underlying ty=some (.map kt e):=by
 unfold mapT at h
 split at h
 ·rename_i kt e hu;exact ⟨kt,e,hu⟩
 ·cases h
theorem rngm_sound (hs:Sim P γ s w) (hpk:mapT P ty=true) (hx:aop x=some a)
 (ho:o.op=.range ty x) (he:Evs γ t ρ [x]) (h:rngmA a t s=.ok v s'):OpOk P γ s w ρ o v s':=by
 obtain ⟨kt,e,hu⟩:=mapT_some hpk
 obtain ⟨u1,hu1,h⟩:=wth_ok h
 have h1:=he x (by simp) a u1 hx hu1
 rcases map_ok h with ⟨r,rfl,hk⟩|⟨rfl,hk⟩
 ·obtain ⟨⟨es,cl⟩,hm,hk⟩:=opt_ok hk
  have hg:=mapAt_some hm
  obtain ⟨L,hL,hxv⟩:∃ L,γ r=some L∧ρ x=.map (some L.b):=by
   generalize ρ x=vx at h1
   cases h1 with
   | map _ L hL=>exact ⟨L,hL,rfl⟩
  obtain ⟨ms,hms,hR⟩:=hs.obj r _ L hg hL
  obtain ⟨rfl,rfl⟩:=ok_inj hk
  refine Fresh.ok hs ⟨.iter r cl [] cl,fun i=>.ptr i 0,.mapIter (some L.b) cl #[] cl,0,0,.pointer (some ⟨w.heap.size,0,none⟩),rfl,rfl,?_,fun γ' i hle hi=>⟨⟨rfl,L,hle.loc _ _ hL,by show (w.heap.push _)[w.heap.size]?=_;simp⟩,?_⟩⟩
  ·simp only [execOp,ho,hxv,Sem.run_bind,run_range_map w ty kt e L.b ms cl hu hms,Result.andThen_ok,Sem.run_pure]
  ·have:=VR.ptr (γ:=γ') i 0 _ hi
   simpa using this
 ·cases hk
theorem lastL_append {l:List Nat}:lastL l=some n->∃ l',l=l'++[n]:=by
 induction l with
 | nil=>intro h;cases h
 | cons x l ih=>
  intro h
  simp only [lastL] at h ih
  cases hl:(List.rec (motive:=fun _=>Option Nat) none (fun x _ ih=>Option.rec (some x) (fun y=>some y) ih) l) with
  | none=>
   rw [hl] at h;cases h
   cases l with
   | nil=>exact ⟨[],rfl⟩
   | cons y l=>
    exfalso
    simp only at hl
    cases hq:(List.rec (motive:=fun _=>Option Nat) none (fun x _ ih=>Option.rec (some x) (fun y=>some y) ih) l) with
    | none=>rw [hq] at hl;cases hl
    | some q=>rw [hq] at hl;cases hl
  | some q=>
   rw [hl] at h;cases h
   obtain ⟨l',e⟩:=ih hl
   exact ⟨x::l',by rw [e];rfl⟩
theorem bornK_find {e:AV×AV×Nat}:∀ {es:List (AV×AV×Nat)}{ms:List MapEntry},All2 (EntR γ) es ms->bornK n es=some e->∃ m,ms.find? (·.born == n)=some m∧EntR γ e m:=by
 intro es
 induction es with
 | nil=>intro ms h hf;cases hf
 | cons x es ih=>
  intro ms h hf
  cases h with
  | @cons _ m _ ms' h1 h2=>
   simp only [bornK] at hf
   cases hb:Nat.beq x.2.2 n with
   | true=>
    rw [hb] at hf;cases hf
    exact ⟨m,by rw [List.find?_cons_of_pos];rw [h1.2.2];exact beq_iff_eq.2 (Nat.eq_of_beq_eq_true hb),h1⟩
   | false=>
    rw [hb] at hf
    obtain ⟨m',e1,e2⟩:=ih h2 hf
    refine ⟨m',?_,e2⟩
    rw [List.find?_cons_of_neg,e1]
    rw [h1.2.2]
    intro hc
    rw [beq_iff_eq.1 hc,Nat.beq_refl] at hb;cases hb
theorem iterAt_some {m since last:Nat}{seen:List Nat}(h:iterAt r s=.it m since seen last):s.get r=some (.iter m since seen last):=by
 unfold iterAt at h
 cases hg:s.get r with
 | none=>rw [hg] at h;cases h
 | some o=>
  rw [hg] at h
  cases o with
  | iter a b c d=>cases h;rfl
  | _=>cases h
theorem entm_sound (hs:Sim P γ s w) (hx:aop x=some a)
 (ho:o.op=.entry x) (he:Evs γ t ρ [x]) (h:entmA a t s=.ok v s'):OpOk P γ s w ρ o v s':=by
 obtain ⟨u1,hu1,h⟩:=wth_ok h
 have h1:=he x (by simp) a u1 hx hu1
 obtain ⟨ri,oi,rfl,hk⟩:=ptr_ok h
 obtain ⟨h0,hk⟩:=gd_ok hk
 have h0:=Nat.eq_of_beq_eq_true h0
 subst h0
 cases hit:iterAt ri s with
 | no=>rw [hit] at hk;cases hk
 | it m since seen last=>
  rw [hit] at hk
  obtain ⟨n,hln,hk⟩:=opt_ok hk
  obtain ⟨⟨es,cl⟩,hm,hk⟩:=opt_ok hk
  obtain ⟨hcl,hk2⟩:=gd_ok hk
  have hcl:cl=last:=Nat.eq_of_beq_eq_true hcl
  subst hcl
  obtain ⟨ent,hb,hk3⟩:=opt_ok hk2
  obtain ⟨rfl,rfl⟩:=ok_inj hk3
  have hgi:=iterAt_some hit
  have hg:=mapAt_some hm
  obtain ⟨I,hI,hxv⟩:∃ I,γ ri=some I∧ρ x=.pointer (some ⟨I.b,I.o+0,none⟩):=by
   generalize ρ x=vx at h1
   cases h1 with
   | ptr _ _ I hI=>exact ⟨I,hI,rfl⟩
  obtain ⟨hIo,M,hM,hitr⟩:=hs.obj ri _ I hgi hI
  obtain ⟨ms,hms,hR⟩:=hs.obj m _ M hg hM
  obtain ⟨me,hfind,hE⟩:=bornK_find hR hb
  obtain ⟨l',rfl⟩:=lastL_append hln
  refine OpOk.still hs (.tuple #[me.key,me.val]) ?_ (.tup _ _ (.cons hE.1 (.cons hE.2.1 .nil)))
  rw [hIo] at hxv
  have hback:((l'++[n]).toArray).back?=some n:=by simp
  have hfa:ms.find? (·.born == n)=some me:=by rw [← Array.find?_toList];exact hfind
  simp only [execOp,ho,hxv,Instr.entry,getObj,Sem.run_bind,Sem.run,hitr,hms,Result.andThen,hback,bne_self_eq_false,Bool.false_eq_true,if_false,hfa]
  rfl
theorem if_ok {k:Nat->AV->RV}{a:AV}(h:(XR.rec .fail k (asIf a):RV)=.ok v s'):∃ t u,a=.iface t u∧k t u=.ok v s':=by
 cases a with
 | iface t u=>exact ⟨t,u,rfl,h⟩
 | _=>cases h
theorem mki_sound (hs:Sim P γ s w) (hT:concT P ty=true) (hx:aop x=some a)
 (ho:o.op=.makeInterface ty x) (he:Evs γ t ρ [x]) (h:mkiA ty a t s=.ok v s'):OpOk P γ s w ρ o v s':=by
 obtain ⟨u,hu,h⟩:=wth_ok h
 obtain ⟨rfl,rfl⟩:=ok_inj h
 have hv:=he x (by simp) a _ hx hu
 refine OpOk.still hs (.iface ty (ρ x)) ?_ (.iface _ _ _ hv)
 unfold concT at hT
 cases hd:P.underlying ty with
 | none=>rw [hd] at hT;cases hT
 | some d=>cases d <;> first|(simp [hd] at hT;done)|simp [execOp,ho,Instr.makeInterface,run_underlying hd]
theorem tas_sound (hs:Sim P γ s w) {xt:Nat}{i:TypeInfo}{z:Value}{zv:AV}(hT:concT P ty=true) (hi:P.info? ty=some i) (hz:i.zero=some z) (hzv:av z=some zv) (hx:aop x=some a)
 (ho:o.op=.typeAssert x xt ty true) (he:Evs γ t ρ [x]) (h:tasA ty zv a t s=.ok v s'):OpOk P γ s w ρ o v s':=by
 obtain ⟨u,hu,h⟩:=wth_ok h
 obtain ⟨t',u',rfl,h⟩:=if_ok h
 obtain ⟨rfl,rfl⟩:=ok_inj h
 have hv:=he x (by simp) a _ hx hu
 generalize hxx:ρ x=vx at hv
 cases hv with
 | iface _ _ v' hv'=>
  have hzr:=run_zeroValue (P:=P) hi hz w
  cases hb:Nat.beq t' ty with
  | true=>
   have e:=Nat.eq_of_beq_eq_true hb
   subst e
   refine OpOk.still hs (.tuple #[v',.bool true]) ?_ (.tup _ _ (.cons hv' (.cons (.bool _) .nil)))
   unfold concT at hT
   cases hd:P.underlying t' with
   | none=>rw [hd] at hT;cases hT
   | some d=>cases d <;> first|(simp [hd] at hT;done)|simp [execOp,ho,hxx,Instr.typeAssert,run_underlying hd]
  | false=>
   have e:=Nat.ne_of_beq_eq_false hb
   refine OpOk.still hs (.tuple #[z,.bool false]) ?_ (.tup _ _ (.cons (av_VR hzv) (.cons (.bool _) .nil)))
   unfold concT at hT
   cases hd:P.underlying ty with
   | none=>rw [hd] at hT;cases hT
   | some d=>cases d <;> first|(simp [hd] at hT;done)|simp [execOp,ho,hxx,Instr.typeAssert,run_underlying hd,e,hzr]
variable {k f:Nat}
theorem findT_some {tb:List (Nat×Nat)}(h:findT tb k=some f):(k,f) ∈ tb:=by
 induction tb with
 | nil=>cases h
 | cons p tb ih=>
  change (Bool.rec (findT tb k) (some p.2) (Nat.beq p.1 k):Option Nat)=some f at h
  cases hb:Nat.beq p.1 k with
  | true=>
   rw [hb] at h
   have e:=Nat.eq_of_beq_eq_true hb
   have e2:p.2=f:=Option.some.inj h
   rw [← e,← e2];exact List.mem_cons_self ..
  | false=>rw [hb] at h;exact List.mem_cons_of_mem _ (ih h)
variable {name:String}
theorem invTab_some (h:findT (invTab P name) k=some f):invAt P name k=some f:=by
 obtain ⟨i,_,hi⟩:=List.mem_filterMap.1 (findT_some h)
 cases ha:invAt P name i with
 | none=>rw [ha] at hi;cases hi
 | some g=>rw [ha] at hi;cases hi;exact ha
theorem run_method {v:Value}(h:invAt P name k=some f):(method (P.types.size+Made.depth) k v name).run P w=.ok (f,v) w:=by
 unfold invAt at h
 split at h
 ·rename_i inf hi
  split at h
  ·rename_i m hm
   split at h
   ·rename_i g hf
    split at h
    ·rename_i hp
     have hpath:m.path=#[]:=by simpa using hp
     split at h
     ·cases h
     ·rename_i d hne hd
      cases h
      rw [show P.types.size+Made.depth=(P.types.size+99)+1 from rfl]
      generalize P.types.size+99=n
      cases d with
      | pointer e=>exact absurd rfl (hne e)
      | _=>simp [method,typeInfo,hi,hm,hpath,follow,hf,receiverAt,run_underlying hd,Place.get]
     ·cases h
    ·cases h
   ·cases h
  ·cases h
 ·cases h
end
end Go.AM
