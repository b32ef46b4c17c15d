/-
 Functions of the program as the abstract machine reads them, and what is stated of them, checked by the kernel. No conditions.
-/
import Derived.Laws.Strings
import Derived.IntWalk
import Derived.Laws.StructEq
import Derived.Laws.BytesString
import Derived.ChangeKeysEq
import Derived.Lib.AppendZerosOnto
import Derived.Maps.RangeRun
import Derived.Test.YtacmbogmbfmjeaaGreatAM1
set_option linter.unusedVariables false
set_option linter.unusedSimpArgs false
set_option linter.unnecessarySimpa false
set_option maxRecDepth 100000
namespace Go.AM
section
variable {P:Program}{γ:Gam}{s:St}{w:World}{t:AT}{ρ:Operand→Value}
variable {v':Value}
theorem Iy {r o:Nat}(h:VR γ (.ptr r o) v'):∃ L,γ r=some L∧v'=.pointer (some ⟨L.b,L.o+o,none⟩):=by
 cases h with
 | ptr _ _ L hL=>exact ⟨L,hL,rfl⟩
variable {k:IntKind}
theorem AK {n:Int}(h:VR γ (.int k n) v'):v'=.int k n:=by cases h;rfl
theorem Gy {b:Bool}(h:VR γ (.bool b) v'):v'=.bool b:=by cases h;rfl
variable {o:Oper}{ty:Nat}{x:Operand}{a:AO}{v:AV}{s':St}
theorem Zb2 (hs:Sim P γ s w) (hag:CV P ty=some false) (hx:Af x=some a) (ho:o.op=.load ty x) (he:Evs γ t ρ [x])
 (h:Yr a t s=.ok v s'):OpOk P γ s w ρ o v s':=by
 obtain ⟨u,hu,h⟩:=AF h
 rcases NV h with ⟨r,i,rfl,h⟩|⟨l,rfl,h⟩
 ·obtain ⟨hl,rfl⟩:=JZ h
  obtain ⟨L,hL,hv⟩:=Iy (he x (by simp) a _ hx hu)
  obtain ⟨v',hc,hR,_⟩:=TW hs hl hL
  refine Aw hs v' ?_ hR
  simp only [execOp,ho,Instr.loadAt,hv,Instr.sureAddr,Zqj,Zqp,Zqc,loadVar,HL hag]
  simp [run_load,hc]
 ·obtain ⟨hl,rfl⟩:=JZ h
  obtain ⟨b,i,cs,vs,hv,hb,h2,h3,h4,h5⟩:=fpV (he x (by simp) a _ hx hu)
  rw [IU] at hl
  obtain ⟨v',hv',hR⟩:=h4.get hl
  have hc:=Wq hs hb (h2 0 v' hv')
  refine Aw hs v' ?_ hR
  simp only [execOp,ho,Instr.loadAt,hv,Instr.sureAddr,Zqj,Zqp,Zqc,loadVar,HL hag]
  rw [Zri] at hc
  simp [run_load,hc]
variable {n:Nat}
theorem Zb1 (hs:Sim P γ s w) (hag:CV P ty=some true) (hn:A8 P ty=some n) (hx:Af x=some a) (ho:o.op=.load ty x) (he:Evs γ t ρ [x])
 (h:Yq n a t s=.ok v s'):OpOk P γ s w ρ o v s':=by
 obtain ⟨u,hu,h⟩:=AF h
 rcases NV h with ⟨r,i,rfl,h⟩|⟨l,rfl,h⟩
 ·obtain ⟨cs,hl,h⟩:=AI h
  obtain ⟨rfl,rfl⟩:=Az h
  obtain ⟨L,hL,hv⟩:=Iy (he x (by simp) a _ hx hu)
  obtain ⟨vs,e1,hc,hR,h1⟩:=II hs hl hL
  have hrun:=run_loadCells_list (P:=P) w _ vs hc
  rw [e1] at hrun
  refine Aw hs (.agg vs.toArray) ?_ (.agg _ _ hR h1)
  simp only [execOp,ho,Instr.loadAt,hv,Instr.sureAddr,Zqj,Zqp,Zqc,loadVar,HL hag,C7 hn,hrun,if_true]
 ·obtain ⟨cs,hl,h⟩:=AI h
  obtain ⟨rfl,rfl⟩:=Az h
  obtain ⟨b,i,cc,vs,hv,hb,h2,h3,h4,h5⟩:=fpV (he x (by simp) a _ hx hu)
  obtain ⟨us,e1,g2,hR,h1⟩:=HX (k:=0) hs hb h2 h3 h4 hl
  have hrun:=run_loadCells_list (P:=P) w _ us (JP hs hb g2)
  rw [e1] at hrun
  refine Aw hs (.agg us.toArray) ?_ (.agg _ _ hR h1)
  rw [Zri] at hrun
  simp only [execOp,ho,Instr.loadAt,hv,Instr.sureAddr,Zqj,Zqp,Zqc,loadVar,HL hag,C7 hn,hrun,if_true]
theorem Zdt (hs:Sim P γ s w) {y:Operand}{b:AO}(hd:o.dst=none) (hn:A8 P ty=some (n+1)) (hx:Af x=some a) (hy:Af y=some b) (ho:o.op=.store ty x y) (he:Evs γ t ρ [x,y])
 (h:stA (n+1) a b t s=.ok v s'):OpOk P γ s w ρ o v s':=by
 obtain ⟨p,hp,h⟩:=AF h
 obtain ⟨u,hu,h⟩:=AF h
 obtain ⟨r,i,rfl,h⟩:=On h
 obtain ⟨hl,h⟩:=B5 h
 obtain ⟨hk,rfl⟩:=LH h
 obtain ⟨L,hL,hv⟩:=Iy (he x (by simp) a _ hx hp)
 obtain ⟨c1,c2⟩:=Qp (he y (by simp) b _ hy hu) hl
 obtain ⟨w',hrun,hst,hsim⟩:=Lk hs hk hL c1 c2
 refine ⟨γ,w',hst,hsim,.inr ⟨?_,hd⟩⟩
 have hsz:(ρ y).cells.size=n+1:=by
  have e1:=Zqf hl
  rw [CN] at e1
  have:=c1.length
  simp at this
  omega
 simp only [execOp,ho,Instr.storeAt,hv,Instr.sureAddr,Zqj,Zqp,Zqc,storeVar,C7 hn,hsz]
 simp [hrun]
theorem Zr (hs:Sim P γ s w) (hx:Af x=some a) (ho:o.op=.nilCheck x) (he:Evs γ t ρ [x])
 (h:WK a t s=.ok v s'):OpOk P γ s w ρ o v s':=by
 obtain ⟨u,hu,h⟩:=AF h
 have hv:=he x (by simp) a u hx hu
 cases hn:Mc u with
 | true=>rw [hn] at h;cases h
 | false=>
  rw [hn] at h
  obtain ⟨rfl,rfl⟩:=Az h
  refine Aw hs (ρ x) ?_ hv
  simp only [execOp,ho]
  generalize ρ x=vx at hv
  cases hv <;> first|rfl|(cases hn)
variable {f:Nat}{fs:Array Field}{fd:Field}
theorem Ze7 (hs:Sim P γ s w) (hu:P.underlying ty=some (.struct fs)) (hf:fs[f]?=some fd) (hn:A8 P fd.type=some (n+1))
 (hx:Af x=some a) (ho:o.op=.fieldAddr ty x f) (he:Evs γ t ρ [x]) (h:faA fd.offset a t s=.ok v s'):OpOk P γ s w ρ o v s':=by
 obtain ⟨u,hu',h⟩:=AF h
 rcases NV h with ⟨r,i,rfl,h⟩|⟨l,rfl,h⟩
 ·obtain ⟨rfl,rfl⟩:=Az h
  obtain ⟨L,hL,hv⟩:=Iy (he x (by simp) a _ hx hu')
  refine Aw hs (.pointer (some ⟨L.b,L.o+(i+fd.offset),none⟩)) ?_ (.ptr r _ L hL)
  simp only [execOp,ho,Instr.fieldAt,hv,Instr.sureAddr,Zqj,Zqp,Zqc,Zqr hu,hf,fieldPlace,C7 hn]
  simp [DH,Zr6]
 ·obtain ⟨rfl,rfl⟩:=Az h
  obtain ⟨b,i,cc,vs,hv,hb,h2,h3,h4,h5⟩:=fpV (he x (by simp) a _ hx hu')
  refine Aw hs (.pointer (some ⟨b,i+fd.offset,none⟩)) ?_ (Rh hb h2 h3 h4 h5)
  simp only [execOp,ho,Instr.fieldAt,hv,Instr.sureAddr,Zqj,Zqp,Zqc,Zqr hu,hf,fieldPlace,C7 hn]
  simp [DH]
variable {cs:Array Value}{off:Nat}
theorem Jg {v:Value}(hag:CV P ty=some false) (h:cs[off]?=some v):(part ty cs off).run P w=.ok v w:=by
 simp [part,HL hag,h]
theorem Xx (hag:CV P ty=some true) (hn:A8 P ty=some n):(part ty cs off).run P w=.ok (.agg (cs.extract off (off+n))) w:=by
 simp [part,HL hag,C7 hn]
theorem KO {l:List AV}(h:VR γ (.agg l) v'):∃ a,v'=.agg a∧All2 (VR γ) l a.toList∧∀ v ∈ a.toList,v.oneCell'=true:=by
 cases h with
 | agg _ a h1 h2=>exact ⟨a,rfl,h1,h2⟩
theorem Zae (hs:Sim P γ s w) (hu:P.underlying ty=some (.struct fs)) (hf:fs[f]?=some fd) (hag:CV P fd.type=some false)
 (hx:Af x=some a) (ho:o.op=.field ty x f) (he:Evs γ t ρ [x]) (h:X7 fd.offset a t s=.ok v s'):OpOk P γ s w ρ o v s':=by
 obtain ⟨u,hu',h⟩:=AF h
 obtain ⟨l,rfl,h⟩:=Ku h
 obtain ⟨hk,rfl⟩:=JZ h
 rw [IU] at hk
 obtain ⟨c,hv,hR,_⟩:=KO (he x (by simp) a _ hx hu')
 obtain ⟨v',hv',hRv⟩:=hR.get hk
 refine Aw hs v' ?_ hRv
 simp only [execOp,ho,Instr.field,hv,Zqj,Zqp,Zqc,Zqr hu,hf,asAgg,Jg hag (show c[fd.offset]?=some v' by simpa using hv')]
 simp [Jg hag (show c[fd.offset]?=some v' by simpa using hv'),Go.asAgg]
theorem Zad (hs:Sim P γ s w) (hu:P.underlying ty=some (.struct fs)) (hf:fs[f]?=some fd) (hag:CV P fd.type=some true) (hn:A8 P fd.type=some n)
 (hx:Af x=some a) (ho:o.op=.field ty x f) (he:Evs γ t ρ [x]) (h:X6 fd.offset n a t s=.ok v s'):OpOk P γ s w ρ o v s':=by
 obtain ⟨u,hu',h⟩:=AF h
 obtain ⟨l,rfl,h⟩:=Ku h
 obtain ⟨cs,hk,h'⟩:=AI h
 obtain ⟨rfl,rfl⟩:=Az h'
 obtain ⟨e1,hle⟩:=JE _ hk
 rw [GO] at e1 hle
 subst e1
 obtain ⟨c,hv,hR,h1⟩:=KO (he x (by simp) a _ hx hu')
 have e2:(c.extract fd.offset (fd.offset+n)).toList=(c.toList.drop fd.offset).take n:=by simp [Array.toList_extract,List.extract_eq_take_drop]
 refine Aw hs (.agg (c.extract fd.offset (fd.offset+n))) ?_ (.agg _ _ (by rw [e2];exact (hR.drop _).take _) (by rw [e2];exact fun v hv=>h1 v (Zrl (Zrg hv))))
 simp [execOp,ho,Instr.field,hv,Zqr hu,hf,Go.asAgg,Xx hag hn]
theorem Zcf (hs:Sim P γ s w) {i:Nat}(hx:Af x=some a) (ho:o.op=.extract x i) (he:Evs γ t ρ [x])
 (h:Yx a i t s=.ok v s'):OpOk P γ s w ρ o v s':=by
 obtain ⟨u,hu',h⟩:=AF h
 obtain ⟨l,rfl,h⟩:=Zkn h
 obtain ⟨hk,rfl⟩:=JZ h
 rw [IU] at hk
 have hv:=he x (by simp) a _ hx hu'
 generalize hxx:ρ x=vx at hv
 cases hv with
 | tup _ c hR=>
  obtain ⟨v',hv',hRv⟩:=hR.get hk
  refine Aw hs v' ?_ hRv
  have:c[i]?=some v':=by simpa using hv'
  simp [execOp,ho,Instr.extract,hxx,this]
theorem Zcm (hs:Sim P γ s w) {sr ds:Nat}{sd:TypeDesc}(hsr:P.underlying sr=some sd) (hd:P.underlying ds=some (.int k)) (hx:Af x=some a) (ho:o.op=.convert sr ds x) (he:Evs γ t ρ [x])
 (hq:∀ k n,Er k n=k.wrap n) (h:Yy k a t s=.ok v s'):OpOk P γ s w ρ o v s':=by
 obtain ⟨u,hu',h⟩:=AF h
 obtain ⟨k',n,rfl,h⟩:=Zlq h
 obtain ⟨rfl,rfl⟩:=Az h
 have hv:=AK (he x (by simp) a _ hx hu')
 refine Aw hs (.int k (k.wrap n)) ?_ (by rw [hq];exact .int _ _)
 simp [execOp,ho,convert,hv,Zqr hsr,Zqr hd,Conv.intToInt]
theorem ZP (hs:Sim P γ s w) {as bs:Array Operand}{xs ys:List AO}(hx:EZ as.toList=some xs) (hy:EZ bs.toList=some ys) (ho:o.op=.makeFunc (.func f) as bs) (he:Evs γ t ρ (as.toList++bs.toList))
 (h:Xz f xs ys t s=.ok v s'):OpOk P γ s w ρ o v s':=by
 obtain ⟨p,hp,h⟩:=AI h
 obtain ⟨q,hq,h⟩:=AI h
 obtain ⟨rfl,rfl⟩:=Az h
 have h1:=IP (γ:=γ) (ρ:=ρ) hx hp (fun x hx=>he x (by simp at hx ⊢;exact .inl hx))
 have h2:=IP (γ:=γ) (ρ:=ρ) hy hq (fun x hx=>he x (by simp at hx ⊢;exact .inr hx))
 refine Aw hs (.func (.func f) (as.map ρ) (bs.map ρ)) ?_ (.fn _ _ _ _ _ (by simpa using h1) (by simpa using h2))
 simp [execOp,ho,Instr.makeFunc]
end
end Go.AM
namespace Go.AM
theorem Lx {a b:IntKind}(h:Cd a b=true):a=b:=by
 cases a <;> cases b <;> first|rfl|cases h
theorem FI (a b:Int):Dw a b=(a == b):=by
 cases a with
 | ofNat a=>cases b with
  | ofNat b=>show Nat.beq a b=_;rw [Bool.eq_iff_iff,Nat.beq_eq];simp;omega
  | negSucc b=>show false=_;rw [eq_comm,beq_eq_false_iff_ne];simp
 | negSucc a=>cases b with
  | ofNat b=>show false=_;rw [eq_comm,beq_eq_false_iff_ne];simp
  | negSucc b=>show Nat.beq a b=_;rw [Bool.eq_iff_iff,Nat.beq_eq];simp
theorem FH (a b:Int):Eu a b=decide (a<b):=by
 cases a with
 | ofNat a=>cases b with
  | ofNat b=>show Nat.blt a b=_;rw [Bool.eq_iff_iff,Zrr];simp
  | negSucc b=>show false=_;rw [eq_comm,Zrf];simp;omega
 | negSucc a=>cases b with
  | ofNat b=>show true=_;rw [eq_comm,decide_eq_true_iff];simp;omega
  | negSucc b=>show Nat.blt b a=_;rw [Bool.eq_iff_iff,Zrr];simp;omega
theorem WB (a b:Int):YD a b=a+b:=by
 cases a <;> cases b <;> rfl
theorem QX (a b:Int):OX a b=a*b:=by
 cases a <;> cases b <;> rfl
theorem QK (a b:Int):OQ a b=a-b:=by
 cases a with
 | ofNat a=>cases b with
  | ofNat b=>
   show (Bool.rec (Int.sub (.ofNat a) (.ofNat b)) (.ofNat (Nat.sub a b)) (Nat.ble b a):Int)=_
   cases hb:Nat.ble b a with
   | false=>rfl
   | true=>have:=Zqx hb;show ((a-b:Nat):Int)=(a:Int)-(b:Int);omega
  | negSucc b=>rfl
 | negSucc a=>rfl
theorem Ez (k:IntKind) (n:Int):Er k n=k.wrap n:=by
 cases n with
 | ofNat m=>
  show Xn k m=k.wrap (m:Int)
  cases k <;> try rfl
  show (Bool.rec (IntKind.i64.wrap m) (.ofNat m) (Nat.blt m 9223372036854775808):Int)=_
  cases hb:Nat.blt m 9223372036854775808 with
  | false=>rfl
  | true=>
   rw [Zrr] at hb
   exact (IntWalk.i64_in (m:Int) ⟨by omega,by omega⟩).symm
 | negSucc m=>
  show (Bool.rec (k.wrap (.negSucc m)) (Bool.rec (k.wrap (.negSucc m)) (.negSucc m) (Nat.blt m 9223372036854775808)) (Nat.beq (Gv k) 3):Int)=_
  have h3:k=.i64∨Nat.beq (Gv k) 3=false:=by cases k <;> first|exact .inl rfl|exact .inr rfl
  rcases h3 with rfl|h3
  ·show (Bool.rec (IntKind.i64.wrap (.negSucc m)) (.negSucc m) (Nat.blt m 9223372036854775808):Int)=_
   cases hb:Nat.blt m 9223372036854775808 with
   | false=>rfl
   | true=>
    rw [Zrr] at hb
    exact (IntWalk.i64_in (Int.negSucc m) ⟨by omega,by omega⟩).symm
  ·rw [h3]
theorem NN {f:Nat→Nat→Nat}{g:(n:Nat)→BitVec n→BitVec n→BitVec n}(hf:∀ n x y,(g n x y).toNat=f x.toNat y.toNat) (k:IntKind) (a b:Int):Mz f g k a b=Fu g k a b:=by
 cases a with
 | ofNat x=>cases b with
  | ofNat y=>
   show XI f g k x y=_
   cases k <;> try rfl
   ·show ((f (x % 256) (y % 256):Nat):Int)=_
    have e:f (x % 256) (y % 256)=(g 8 (BitVec.ofInt 8 x) (BitVec.ofInt 8 y)).toNat:=by
     rw [hf];simp
    rw [e]
    have hlt:=(g 8 (BitVec.ofInt 8 x) (BitVec.ofInt 8 y)).isLt
    simp only [Fu,IntKind.wrap,IntKind.bits,IntKind.signed]
    simp
    omega
   ·show ((f (x % 4294967296) (y % 4294967296):Nat):Int)=_
    have e:f (x % 4294967296) (y % 4294967296)=(g 32 (BitVec.ofInt 32 x) (BitVec.ofInt 32 y)).toNat:=by
     rw [hf];simp
    rw [e]
    have hlt:=(g 32 (BitVec.ofInt 32 x) (BitVec.ofInt 32 y)).isLt
    simp only [Fu,IntKind.wrap,IntKind.bits,IntKind.signed]
    simp
    omega
  | negSucc y=>rfl
 | negSucc x=>rfl
theorem LQ (a:List Nat):∀ b,EW a b=(a == b):=by
 induction a with
 | nil=>intro b;cases b <;> rfl
 | cons x a ih=>intro b;cases b with
  | nil=>rfl
  | cons y b=>
   show (Bool.rec false (EW a b) (Nat.beq x y):Bool)=_
   rw [ih]
   cases hb:Nat.beq x y with
   | false=>have:=Zre hb;simp [this]
   | true=>have:=Zqf hb;simp [this]
section
variable {P:Program}{γ:Gam}{s:St}{w:World}{t:AT}{ρ:Operand→Value}
variable {f:IntKind→Int→Int→Int}{x y v:AV}
theorem Fk (h:ar f x y=.some v):∃ k a b,x=.int k a∧y=.int k b∧v=.int k (f k a b):=by
 unfold ar at h
 cases hx:asInt x with
 | no=>rw [hx] at h;cases h
 | int k a=>
  rw [hx] at h
  cases hy:asInt y with
  | no=>rw [hy] at h;cases h
  | int k' b=>
   rw [hy] at h
   dsimp only at h
   cases hk:Cd k k' with
   | false=>rw [hk] at h;cases h
   | true=>rw [hk] at h;cases h;cases Lx hk;exact ⟨k,a,b,E0 hx,E0 hy,rfl⟩
theorem Fh {f:Int→Int→Bool}(h:Gh f x y=.some v):∃ k a b,x=.int k a∧y=.int k b∧v=.bool (f a b):=by
 unfold Gh at h
 cases hx:asInt x with
 | no=>rw [hx] at h;cases h
 | int k a=>
  rw [hx] at h
  cases hy:asInt y with
  | no=>rw [hy] at h;cases h
  | int k' b=>
   rw [hy] at h
   dsimp only at h
   cases hk:Cd k k' with
   | false=>rw [hk] at h;cases h
   | true=>rw [hk] at h;cases h;cases Lx hk;exact ⟨k,a,b,E0 hx,E0 hy,rfl⟩
theorem NL (h:dvd f x y=.some v):∃ k a b,x=.int k a∧y=.int k b∧b≠0∧v=.int k (f k a b):=by
 unfold dvd at h
 cases hx:asInt x with
 | no=>rw [hx] at h;cases h
 | int k a=>
  rw [hx] at h
  cases hy:asInt y with
  | no=>rw [hy] at h;cases h
  | int k' b=>
   rw [hy] at h
   dsimp only at h
   cases hk:Cd k k' with
   | false=>rw [hk] at h;cases h
   | true=>
    rw [hk] at h
    dsimp only at h
    cases hb:Dw b 0 with
    | true=>rw [hb] at h;cases h
    | false=>
     rw [hb] at h;cases h;cases Lx hk
     exact ⟨k,a,b,E0 hx,E0 hy,by rw [FI] at hb;simpa using hb,rfl⟩
theorem NU {f:IntKind→Int→Nat→Int}(h:sh f x y=.some v):∃ k a k' b,x=.int k a∧y=.int k' (.ofNat b)∧v=.int k (f k a b):=by
 unfold sh at h
 cases hx:asInt x with
 | no=>rw [hx] at h;cases h
 | int k a=>
  rw [hx] at h
  cases hy:Hh y with
  | no=>rw [hy] at h;cases h
  | n b=>rw [hy] at h;cases h;obtain ⟨k',rfl⟩:=IN hy;exact ⟨k,a,k',b,E0 hx,rfl,rfl⟩
theorem N3 {f:List Nat→List Nat→AV}(h:OR f x y=.some v):∃ a b,x=.str a∧y=.str b∧v=f a b:=by
 unfold OR at h
 cases hx:FQ x with
 | no=>rw [hx] at h;cases h
 | s a=>
  rw [hx] at h
  cases hy:FQ y with
  | no=>rw [hy] at h;cases h
  | s b=>rw [hy] at h;cases h;exact ⟨a,b,NO hx,NO hy,rfl⟩
theorem TO (h:R0 x y=.some v):∃ a b,x=.str a∧y=.str b∧a.length+b.length≤1000000∧v=.str (Ba a b):=by
 unfold R0 at h
 cases hx:FQ x with
 | no=>rw [hx] at h;cases h
 | s a=>
  rw [hx] at h
  cases hy:FQ y with
  | no=>rw [hy] at h;cases h
  | s b=>
   rw [hy] at h
   dsimp only at h
   cases hb:Nat.ble (A6 a+A6 b) 1000000 with
   | false=>rw [hb] at h;cases h
   | true=>
    rw [hb] at h;cases h
    have:=Zqx hb
    rw [CN,CN] at this
    exact ⟨a,b,NO hx,NO hy,this,rfl⟩
theorem JN {x y:OV}(h:J7 x y=.some v):x=.some v∨y=.some v:=by
 cases x with
 | none=>exact .inr h
 | some a=>exact .inl h
def Zp8 (P:Program) (w:World) (γ:Gam) (op:BinOp) (ty:TypeId) (x y:Value) (v:AV):Prop:=∃ v',(binOp op ty x y).run P w=.ok v' w∧VR γ v v'
theorem Vf (a b:Int):Sb a b=a.tdiv b:=by cases a <;> cases b <;> rfl
theorem Ve (a b:Int):Sa a b=a.tmod b:=by
 cases a with
 | ofNat a=>cases b with
  | ofNat b=>rfl
  | negSucc b=>rfl
 | negSucc a=>rfl
theorem Ze6 (a:Int) (m:Nat):X8 a m=a.fdiv m:=by
 cases a with
 | ofNat a=>show ((a / m:Nat):Int)=_;simp [Int.fdiv_eq_ediv_of_nonneg]
 | negSucc a=>rfl
theorem Rz {a b:List Nat}{x y:ByteArray}(hx:x.data.toList.map UInt8.toNat=a) (hy:y.data.toList.map UInt8.toNat=b):(x.toList == y.toList)=(a == b):=by
 have key:∀ z:ByteArray,z.toList=z.data.toList:=ByteArray.toList_eq
 rw [Bool.eq_iff_iff,beq_iff_eq,beq_iff_eq,← hx,← hy,key,key]
 constructor
 ·intro h;rw [h]
 ·intro h
  exact (List.map_inj_right (fun p q e=>UInt8.toNat_inj.1 e)).1 h
theorem Zap {op:BinOp}{ty:TypeId}{x' y':Value}(hx:VR γ x x') (hy:VR γ y y') (h:Pi op x y=.some v):Zp8 P w γ op ty x' y' v:=by
 cases op with
 | add=>
  rcases JN h with h|h
  ·obtain ⟨k,a,b,rfl,rfl,rfl⟩:=Fk h
   rw [AK hx,AK hy,Ez,WB]
   exact ⟨_,by simp [binOp,Op.intArith],.int _ _⟩
  ·obtain ⟨a,b,rfl,rfl,hl,rfl⟩:=TO h
   cases hx with
   | str _ sx e1=>cases hy with
    | str _ sy e2=>
     have l1:a.length=sx.size:=by rw [← e1,Zqg,Zr9];rfl
     have l2:b.length=sy.size:=by rw [← e2,Zqg,Zr9];rfl
     refine ⟨.string (sx++sy),?_,.str _ _ ?_⟩
     ·have hlt:¬ (((sx.size+sy.size:Nat):Int)>IntKind.i64.max):=by
       have:IntKind.i64.max=9223372036854775807:=rfl
       omega
      simp only [binOp,Op.stringOp,Zqh hlt]
      rfl
     ·rw [Db,← e1,← e2];simp [ByteArray.data_append]
 | sub=>
  obtain ⟨k,a,b,rfl,rfl,rfl⟩:=Fk h
  rw [AK hx,AK hy,Ez,QK]
  exact ⟨_,by simp [binOp,Op.intArith],.int _ _⟩
 | mul=>
  obtain ⟨k,a,b,rfl,rfl,rfl⟩:=Fk h
  rw [AK hx,AK hy,Ez,QX]
  exact ⟨_,by simp [binOp,Op.intArith],.int _ _⟩
 | quo=>
  obtain ⟨k,a,b,rfl,rfl,hb,rfl⟩:=NL h
  rw [AK hx,AK hy,Ez,Vf]
  exact ⟨_,by simp [binOp,Op.intDiv,hb],.int _ _⟩
 | rem=>
  obtain ⟨k,a,b,rfl,rfl,hb,rfl⟩:=NL h
  rw [AK hx,AK hy,Ve]
  exact ⟨_,by simp [binOp,Op.intDiv,hb],.int _ _⟩
 | and=>
  obtain ⟨k,a,b,rfl,rfl,rfl⟩:=Fk h
  rw [AK hx,AK hy,NN (by intro n x y;rfl)]
  exact ⟨_,by simp [binOp,Op.intBits];rfl,.int _ _⟩
 | or=>
  obtain ⟨k,a,b,rfl,rfl,rfl⟩:=Fk h
  rw [AK hx,AK hy,NN (by intro n x y;rfl)]
  exact ⟨_,by simp [binOp,Op.intBits];rfl,.int _ _⟩
 | xor=>
  obtain ⟨k,a,b,rfl,rfl,rfl⟩:=Fk h
  rw [AK hx,AK hy,NN (by intro n x y;rfl)]
  exact ⟨_,by simp [binOp,Op.intBits];rfl,.int _ _⟩
 | andNot=>cases h
 | shl=>
  obtain ⟨k,a,k',b,rfl,rfl,rfl⟩:=NU h
  rw [AK hx,AK hy,Ez,QX]
  refine ⟨_,?_,.int _ _⟩
  have hb0:¬ ((b:Int)<0):=by omega
  simp [binOp,Op.shift,Nat.min_def,hb0]
 | shr=>
  obtain ⟨k,a,k',b,rfl,rfl,rfl⟩:=NU h
  rw [AK hx,AK hy,Ze6]
  refine ⟨_,?_,.int _ _⟩
  have hb0:¬ ((b:Int)<0):=by omega
  simp [binOp,Op.shift,Nat.min_def,hb0]
 | eql=>
  rcases JN h with h|h
  ·obtain ⟨k,a,b,rfl,rfl,rfl⟩:=Fh h
   rw [AK hx,AK hy,FI]
   exact ⟨_,by simp [binOp,Op.intCmp],.bool _⟩
  ·obtain ⟨a,b,rfl,rfl,rfl⟩:=N3 h
   cases hx with
   | str _ sx e1=>cases hy with
    | str _ sy e2=>
     rw [LQ,← Rz e1 e2]
     exact ⟨_,by simp only [binOp,Op.stringOp];rfl,.bool _⟩
 | neq=>
  rcases JN h with h|h
  ·obtain ⟨k,a,b,rfl,rfl,rfl⟩:=Fh h
   rw [AK hx,AK hy,FI]
   exact ⟨_,by simp [binOp,Op.intCmp];rfl,.bool _⟩
  ·obtain ⟨a,b,rfl,rfl,rfl⟩:=N3 h
   cases hx with
   | str _ sx e1=>cases hy with
    | str _ sy e2=>
     rw [LQ,← Rz e1 e2]
     exact ⟨_,by simp only [binOp,Op.stringOp];rfl,.bool _⟩
 | lss=>
  obtain ⟨k,a,b,rfl,rfl,rfl⟩:=Fh h
  rw [AK hx,AK hy,FH]
  exact ⟨_,by simp [binOp,Op.intCmp],.bool _⟩
 | leq=>
  obtain ⟨k,a,b,rfl,rfl,rfl⟩:=Fh h
  rw [AK hx,AK hy,FH]
  exact ⟨.bool (decide (a≤b)),by simp [binOp,Op.intCmp],by rw [show (!decide (b<a))=decide (a≤b) by rw [Bool.eq_iff_iff];simp];exact .bool _⟩
 | gtr=>
  obtain ⟨k,a,b,rfl,rfl,rfl⟩:=Fh h
  rw [AK hx,AK hy,FH]
  exact ⟨_,by simp [binOp,Op.intCmp],.bool _⟩
 | geq=>
  obtain ⟨k,a,b,rfl,rfl,rfl⟩:=Fh h
  rw [AK hx,AK hy,FH]
  exact ⟨.bool (decide (b≤a)),by simp [binOp,Op.intCmp],by rw [show (!decide (a<b))=decide (b≤a) by rw [Bool.eq_iff_iff];simp];exact .bool _⟩
end
end Go.AM
namespace Go.AM
section
variable {P:Program}{γ:Gam}{s:St}{w:World}{t:AT}{ρ:Operand→Value}
theorem YM (op:BinOp) (ty:TypeId) (x y:Operand) (k:IntKind) (a:Int) (b:Value):(eqGuard op ty x y (.int k a) b).run P w=.ok () w:=by
 cases op <;> simp [eqGuard]
theorem YL (op:BinOp) (ty:TypeId) (x y:Operand) (a:ByteArray) (b:Value):(eqGuard op ty x y (.string a) b).run P w=.ok () w:=by
 cases op <;> simp [eqGuard]
variable {op:BinOp}{y v:AV}
theorem Zcr {x:AV}(h:Pi op x y=.some v):(∃ k a,x=.int k a)∨(∃ a,x=.str a):=by
 cases op with
 | add=>
  rcases JN h with h|h
  ·obtain ⟨k,a,b,e,_⟩:=Fk h;exact .inl ⟨k,a,e⟩
  ·obtain ⟨a,b,e,_⟩:=TO h;exact .inr ⟨a,e⟩
 | sub=>obtain ⟨k,a,b,e,_⟩:=Fk h;exact .inl ⟨k,a,e⟩
 | mul=>obtain ⟨k,a,b,e,_⟩:=Fk h;exact .inl ⟨k,a,e⟩
 | quo=>obtain ⟨k,a,b,e,_⟩:=NL h;exact .inl ⟨k,a,e⟩
 | rem=>obtain ⟨k,a,b,e,_⟩:=NL h;exact .inl ⟨k,a,e⟩
 | and=>obtain ⟨k,a,b,e,_⟩:=Fk h;exact .inl ⟨k,a,e⟩
 | or=>obtain ⟨k,a,b,e,_⟩:=Fk h;exact .inl ⟨k,a,e⟩
 | xor=>obtain ⟨k,a,b,e,_⟩:=Fk h;exact .inl ⟨k,a,e⟩
 | andNot=>cases h
 | shl=>obtain ⟨k,a,k',b,e,_⟩:=NU h;exact .inl ⟨k,a,e⟩
 | shr=>obtain ⟨k,a,k',b,e,_⟩:=NU h;exact .inl ⟨k,a,e⟩
 | eql=>
  rcases JN h with h|h
  ·obtain ⟨k,a,b,e,_⟩:=Fh h;exact .inl ⟨k,a,e⟩
  ·obtain ⟨a,b,e,_⟩:=N3 h;exact .inr ⟨a,e⟩
 | neq=>
  rcases JN h with h|h
  ·obtain ⟨k,a,b,e,_⟩:=Fh h;exact .inl ⟨k,a,e⟩
  ·obtain ⟨a,b,e,_⟩:=N3 h;exact .inr ⟨a,e⟩
 | lss=>obtain ⟨k,a,b,e,_⟩:=Fh h;exact .inl ⟨k,a,e⟩
 | leq=>obtain ⟨k,a,b,e,_⟩:=Fh h;exact .inl ⟨k,a,e⟩
 | gtr=>obtain ⟨k,a,b,e,_⟩:=Fh h;exact .inl ⟨k,a,e⟩
 | geq=>obtain ⟨k,a,b,e,_⟩:=Fh h;exact .inl ⟨k,a,e⟩
variable {o:Oper}{ty yt:Nat}{x:Operand}{a b:AO}{s':St}
theorem L2 (hs:Sim P γ s w) {y:Operand}(hx:Af x=some a) (hy:Af y=some b) (ho:o.op=.binOp op ty x y yt) (he:Evs γ t ρ [x,y])
 (h:XJ op a b t s=.ok v s'):OpOk P γ s w ρ o v s':=by
 obtain ⟨u1,hu1,h⟩:=AF h
 obtain ⟨u2,hu2,h⟩:=AF h
 obtain ⟨hb,rfl⟩:=LX h
 have h1:=he x (by simp) a u1 hx hu1
 have h2:=he y (by simp) b u2 hy hu2
 obtain ⟨v',hr,hv⟩:=Zap (P:=P) (w:=w) (ty:=ty) h1 h2 hb
 refine Aw hs v' ?_ hv
 have hg:(eqGuard op ty x y (ρ x) (ρ y)).run P w=.ok () w:=by
  rcases Zcr hb with ⟨k,n,rfl⟩|⟨l,rfl⟩
  ·rw [AK h1];exact YM _ _ _ _ _ _ _
  ·generalize ρ x=vx at h1
   cases h1 with
   | str _ sx e=>exact YL _ _ _ _ _ _
 simp only [execOp,ho,Zqj,hg,Zqc,hr,Zqp]
theorem Zdm (hs:Sim P γ s w) {op:UnOp}(hx:Af x=some a) (ho:o.op=.unOp op ty x) (he:Evs γ t ρ [x])
 (h:Ye op a t s=.ok v s'):OpOk P γ s w ρ o v s':=by
 obtain ⟨u,hu,h⟩:=AF h
 obtain ⟨hb,rfl⟩:=LX h
 have h1:=he x (by simp) a u hx hu
 cases op with
 | not=>
  unfold unA at hb
  cases hc:asBool u with
  | no=>rw [hc] at hb;cases hb
  | tt=>rw [hc] at hb;cases hb;rw [L3 hc] at h1;exact Aw hs (.bool false) (by simp [execOp,ho,Op.unary,Gy h1]) (.bool _)
  | ff=>rw [hc] at hb;cases hb;rw [NA hc] at h1;exact Aw hs (.bool true) (by simp [execOp,ho,Op.unary,Gy h1]) (.bool _)
 | neg=>
  unfold unA at hb
  cases hc:asInt u with
  | no=>rw [hc] at hb;cases hb
  | int k n=>
   rw [hc] at hb;cases hb;rw [E0 hc] at h1
   refine Aw hs (.int k (k.wrap (0-n))) (by simp [execOp,ho,Op.unary,AK h1,Op.intArith]) ?_
   rw [Ez,QK];exact .int _ _
 | xor=>
  unfold unA at hb
  cases hc:asInt u with
  | no=>rw [hc] at hb;cases hb
  | int k n=>
   rw [hc] at hb;cases hb;rw [E0 hc] at h1
   refine Aw hs (.int k (Fu (fun _=>BitVec.xor) k (if k.signed then -1 else k.max) n)) (by simp [execOp,ho,Op.unary,AK h1,Op.intBits];rfl) ?_
   rw [NN (by intro n x y;rfl)];exact .int _ _
 | _=>cases hb
def Mu:BinOp→Bool|.neq=>true|_=>false
theorem Lj (ty:TypeId) {x y:Value}{b:Bool}(h:∀ d,(Op.equalIn (d+1) ty x y).run P w=.ok b w):(Op.equal ty x y).run P w=.ok b w:=h 9999
variable {x' y':Value}{c:Bool}{X Y:Operand}
theorem LO {kd:Nat}{ty:TypeId}(op:BinOp) (hop:op=.eql∨op=.neq) (hg:(eqGuard op ty X Y x' y').run P w=.ok () w)
 (h1:binOp .eql ty x' y'=(do pure (.bool (← Op.equal ty x' y')))) (h2:binOp .neq ty x' y'=(do pure (.bool (!(← Op.equal ty x' y'))))) (h:(Op.equal ty x' y').run P w=.ok c w):
 (eqGuard op ty X Y x' y').run P w=.ok () w∧(binOp op ty x' y').run P w=.ok (.bool (D1 (Mu op) c)) w:=by
 refine ⟨hg,?_⟩
 rcases hop with rfl|rfl
 ·rw [h1];simp [h,D1,Mu]
 ·rw [h2];simp [h,D1,Mu]
theorem Ld (op:BinOp) (ty:TypeId) (X Y:Operand) {a b:Value}(h1:∀ x,a≠.agg x) (h2:a≠.nilIface∨b≠.nilIface):(eqGuard op ty X Y a b).run P w=.ok () w:=by
 unfold eqGuard
 cases op <;> simp <;> (split <;> first|(rcases h2 with h2|h2 <;> exact absurd rfl h2)|exact absurd rfl (h1 _)|simp)
variable {kd:Nat}
set_option maxHeartbeats 2000000 in
theorem Zin {ty:TypeId}{x:AV}(op:BinOp) (hop:op=.eql∨op=.neq) (hk:M0 P ty=some kd) (hx:VR γ x x') (hy:VR γ y y') (h:J0 kd x y=some c):
 (eqGuard op ty X Y x' y').run P w=.ok () w∧(binOp op ty x' y').run P w=.ok (.bool (D1 (Mu op) c)) w:=by
 have hu:(kd=0→P.underlying ty=some .bool)∧(kd=1→∃ e,P.underlying ty=some (.pointer e))∧(kd=2→∃ e,P.underlying ty=some (.slice e))∧(kd=3→∃ e,P.underlying ty=some (.interface e))∧(kd=4→∃ a b c,P.underlying ty=some (.func a b c)):=by
  unfold M0 at hk
  split at hk <;> first|(cases hk;simp_all;done)|cases hk
 obtain ⟨u0,u1,u2,u3,u4⟩:=hu
 unfold J0 at h
 split at h
 ·have hu:=u0 rfl
  cases h
  rw [Gy hx,Gy hy]
  (refine LO (kd:=0) op hop ?_ ?_ ?_ ?_;exact Ld _ _ _ _ (by simp) (by simp);rfl;rfl;exact Lj ty fun d=>by simp [Op.equalIn,Zqr hu])
 all_goals first
  | (obtain ⟨e,hu⟩:=u1 rfl
     cases h;cases hx <;> cases hy <;>
     (refine LO (kd:=0) op hop ?_ ?_ ?_ ?_;exact Ld _ _ _ _ (by simp) (by simp);rfl;rfl;exact Lj ty fun d=>by simp [Op.equalIn,Zqr hu]))
  | (obtain ⟨e,hu⟩:=u2 rfl
     cases h;cases hx <;> cases hy <;>
     (refine LO (kd:=0) op hop ?_ ?_ ?_ ?_;exact Ld _ _ _ _ (by simp) (by simp);rfl;rfl;exact Lj ty fun d=>by simp [Op.equalIn,Zqr hu]))
  | (obtain ⟨e,hu⟩:=u3 rfl
     cases h;cases hx <;> cases hy <;>
     (refine LO (kd:=0) op hop ?_ ?_ ?_ ?_;exact Ld _ _ _ _ (by simp) (by simp);rfl;rfl;exact Lj ty fun d=>by simp [Op.equalIn,Zqr hu]))
  | (obtain ⟨a,b,e,hu⟩:=u4 rfl
     cases h;cases hx <;> cases hy <;>
     (refine LO (kd:=0) op hop ?_ ?_ ?_ ?_;exact Ld _ _ _ _ (by simp) (by simp);rfl;rfl;exact Lj ty fun d=>by simp [Op.equalIn,Zqr hu]))
  | (cases h;done)
theorem UM (hs:Sim P γ s w) {neg:Bool}{y:Operand}(hop:(op=.eql∧neg=false)∨(op=.neq∧neg=true)) (hk:M0 P ty=some kd) (hx:Af x=some a) (hy:Af y=some b)
 (ho:o.op=.binOp op ty x y yt) (he:Evs γ t ρ [x,y]) (h:XA kd neg a b t s=.ok v s'):OpOk P γ s w ρ o v s':=by
 obtain ⟨u1,hu1,h⟩:=AF h
 obtain ⟨u2,hu2,h⟩:=AF h
 obtain ⟨c,hc,h⟩:=AI h
 obtain ⟨rfl,rfl⟩:=Az h
 have h1:=he x (by simp) a u1 hx hu1
 have h2:=he y (by simp) b u2 hy hu2
 obtain ⟨r1,r2⟩:=Zin (P:=P) (w:=w) (X:=x) (Y:=y) op (by rcases hop with ⟨h,_⟩|⟨h,_⟩ <;> simp [h]) hk h1 h2 hc
 refine Aw hs (.bool (D1 neg c)) ?_ (.bool _)
 have e:Mu op=neg:=by rcases hop with ⟨rfl,rfl⟩|⟨rfl,rfl⟩ <;> rfl
 rw [e] at r2
 simp only [execOp,ho,Zqj,r1,Zqc,r2,Zqp]
end
end Go.AM
namespace Go.AM
section
variable {P:Program}{γ:Gam}{s:St}{w:World}{t:AT}{ρ:Operand→Value}
variable {ty:Nat}
theorem Wv {kd:Nat}{x y:AV}{x' y':Value}{c:Bool}(hk:Ii P ty=some kd) (hx:VR γ x x') (hy:VR γ y y') (h:KY kd x y=some c) (d:Nat):(Op.equalIn (d+1) ty x' y').run P w=.ok c w:=by
 have hu:(kd=0→∃ k,P.underlying ty=some (.int k))∧(kd=1→P.underlying ty=some .bool)∧(kd=2→P.underlying ty=some .string):=by
  unfold Ii at hk
  split at hk <;> first|(cases hk;simp_all;done)|cases hk
 obtain ⟨u0,u1,u2⟩:=hu
 unfold KY at h
 split at h
 ·rename_i k a k' b
  obtain ⟨kk,hu⟩:=u0 rfl
  rw [AK hx,AK hy]
  cases hkk:Cd k k' with
  | false=>rw [hkk] at h;cases h
  | true=>rw [hkk] at h;cases h;cases Lx hkk;rw [FI];exact run_equalIn_int w d ty k kk a b hu
 ·cases h
  rw [Gy hx,Gy hy]
  exact run_equalIn_bool' w d ty _ _ (u1 rfl)
 ·cases h
  cases hx with
  | str _ sx e1=>cases hy with
   | str _ sy e2=>
    rw [LQ,← Rz e1 e2]
    exact run_equalIn_string w d ty _ _ (u2 rfl)
 ·cases h
variable {xs ys:Array Value}
theorem Ze3 (d:Nat):∀ (fs:List Field) (i:Nat) (ks:List Nat) (l m:List AV) (c:Bool),Nr P fs i=some ks→FZ ks l m=some c→
 All2 (VR γ) l (xs.toList.drop i)→All2 (VR γ) m (ys.toList.drop i)→(Op.eqFields (d+1) xs ys fs).run P w=.ok c w:=by
 intro fs
 induction fs with
 | nil=>
  intro i ks l m c hf he h1 h2
  cases hf
  cases l <;> cases m <;> first|(cases he;simp [Op.eqFields])|cases he
 | cons f fs ih=>
  intro i ks l m c hf he h1 h2
  unfold Nr at hf
  split at hf
  ·cases hf
  ·rename_i hn
   split at hf
   ·rename_i k r hk hr
    cases hf
    have hname : f.name ≠ "_" := fun e => hn (.inl e)
    have hoff:f.offset=i:=Classical.byContradiction fun e=>hn (.inr e)
    cases l with
    | nil=>cases he
    | cons x l=>cases m with
     | nil=>cases he
     | cons y m=>
      have hpl:CV P f.type=some false:=by
       unfold Ii at hk
       unfold CV
       split at hk <;> first|(rename_i hu;rw [hu])|cases hk
      obtain ⟨x',hx',hRx⟩:=h1.get (i:=0) (a:=x) (by simp)
      obtain ⟨y',hy',hRy⟩:=h2.get (i:=0) (a:=y) (by simp)
      rw [Zqk] at hx' hy'
      have ex:xs[i]?=some x':=by simpa using hx'
      have ey:ys[i]?=some y':=by simpa using hy'
      have t1:All2 (VR γ) l (xs.toList.drop (i+1)):=by have:=h1.drop 1;simpa [List.drop_drop] using this
      have t2:All2 (VR γ) m (ys.toList.drop (i+1)):=by have:=h2.drop 1;simpa [List.drop_drop] using this
      simp only [FZ] at he
      simp only [Op.eqFields,hname,ne_eq,not_false_eq_true,if_true,hoff,Zqj,Jg hpl ex,Jg hpl ey,Zqc]
      cases hq:KY k x y with
      | none=>rw [hq] at he;cases he
      | some b=>
       rw [hq] at he
       rw [Wv hk hRx hRy hq d]
       cases b with
       | true=>simpa using ih (i+1) r l m c hr he t1 t2
       | false=>cases he;simp
   ·cases hf
variable {e:Nat}
theorem Zb8 {k:Nat}(hk:Ii P e=some k) (d:Nat):∀ (n i:Nat) (l m:List AV) (c:Bool),FZ (List.replicate n k) l m=some c→
 All2 (VR γ) l (xs.toList.drop i)→All2 (VR γ) m (ys.toList.drop i)→(Op.eqItems (d+1) e 1 xs ys (List.range' i n)).run P w=.ok c w:=by
 have hpl:CV P e=some false:=by
  unfold Ii at hk
  unfold CV
  split at hk <;> first|(rename_i hu;rw [hu])|cases hk
 intro n
 induction n with
 | zero=>
  intro i l m c he h1 h2
  cases l <;> cases m <;> first|(cases he;simp [Op.eqItems])|cases he
 | succ n ih=>
  intro i l m c he h1 h2
  rw [List.replicate_succ] at he
  cases l with
  | nil=>cases he
  | cons x l=>cases m with
   | nil=>cases he
   | cons y m=>
    obtain ⟨x',hx',hRx⟩:=h1.get (i:=0) (a:=x) (by simp)
    obtain ⟨y',hy',hRy⟩:=h2.get (i:=0) (a:=y) (by simp)
    rw [Zqk] at hx' hy'
    have ex:xs[i]?=some x':=by simpa using hx'
    have ey:ys[i]?=some y':=by simpa using hy'
    have t1:All2 (VR γ) l (xs.toList.drop (i+1)):=by have:=h1.drop 1;simpa [List.drop_drop] using this
    have t2:All2 (VR γ) m (ys.toList.drop (i+1)):=by have:=h2.drop 1;simpa [List.drop_drop] using this
    simp only [FZ] at he
    simp only [List.range'_succ,Op.eqItems,Zrc,Zqj,Jg hpl ex,Jg hpl ey,Zqc]
    cases hq:KY k x y with
    | none=>rw [hq] at he;cases he
    | some b=>
     rw [hq] at he
     rw [Wv hk hRx hRy hq d]
     cases b with
     | true=>simpa using ih (i+1) l m c he t1 t2
     | false=>cases he;simp
variable {o:Oper}{x y:Operand}{a b:AO}{v:AV}{s':St}
theorem UL (hs:Sim P γ s w) {op:BinOp}{yt:Nat}{ks:List Nat}{neg:Bool}(hop:(op=.eql∧neg=false)∨(op=.neq∧neg=true)) (hk:OK P ty=some ks) (hx:Af x=some a) (hy:Af y=some b)
 (ho:o.op=.binOp op ty x y yt) (he:Evs γ t ρ [x,y]) (h:X9 ks neg a b t s=.ok v s'):OpOk P γ s w ρ o v s':=by
 obtain ⟨u1,hu1,h⟩:=AF h
 obtain ⟨u2,hu2,h⟩:=AF h
 obtain ⟨l,rfl,h⟩:=Ku h
 obtain ⟨m,rfl,h⟩:=Ku h
 obtain ⟨c,hc,h⟩:=AI h
 obtain ⟨rfl,rfl⟩:=Az h
 obtain ⟨xs,e1,r1,_⟩:=KO (he x (by simp) a _ hx hu1)
 obtain ⟨ys,e2,r2,_⟩:=KO (he y (by simp) b _ hy hu2)
 unfold OK at hk
 split at hk
 ·rename_i fs hu
  split at hk
  ·rename_i hcond
   have hf:P.fieldsOf ty=fs:=by simp [Program.fieldsOf,hu]
   have hrun:(Op.equalIn 10000 ty (.agg xs) (.agg ys)).run P w=.ok c w:=by
    rw [run_equalIn_struct w 9999 ty xs ys (by rw [hf];exact hu) hcond.1,hf]
    exact Ze3 9998 fs.toList 0 ks l m c hk hc (by simpa using r1) (by simpa using r2)
   refine Aw hs (.bool (D1 neg c)) ?_ (.bool _)
   rcases hop with ⟨rfl,rfl⟩|⟨rfl,rfl⟩
   ·simp only [execOp,ho,Zqj,e1,e2,run_eqGuard_agg w _ _ _ _ _ _ hcond.2,Zqc,run_eql_struct,hrun,Zqp];rfl
   ·simp only [execOp,ho,Zqj,e1,e2,run_eqGuard_agg w _ _ _ _ _ _ hcond.2,Zqc,run_neq_struct,hrun,Zqp];rfl
  ·cases hk
 ·rename_i n e hu
  split at hk
  ·rename_i hcond
   cases hpk:Ii P e with
   | none=>rw [hpk] at hk;cases hk
   | some kk=>
    rw [hpk] at hk
    cases hk
    have h1:P.cellsOf e=1:=by
     have:=hcond.1
     unfold A8 at this
     unfold Program.cellsOf
     rw [this];rfl
    cases hi:P.info? e with
    | none=>have:=hcond.1;unfold A8 at this;rw [hi] at this;cases this
    | some inf=>
    have hrun:(Op.equalIn 10000 ty (.agg xs) (.agg ys)).run P w=.ok c w:=by
     rw [run_equalIn_array w 9999 xs ys hu hi,h1,List.range_eq_range']
     exact Zb8 hpk 9998 n 0 l m c hc (by simpa using r1) (by simpa using r2)
    refine Aw hs (.bool (D1 neg c)) ?_ (.bool _)
    rcases hop with ⟨rfl,rfl⟩|⟨rfl,rfl⟩
    ·simp only [execOp,ho,Zqj,e1,e2,run_eqGuard_agg w _ _ _ _ _ _ hcond.2,Zqc,run_eql_struct,hrun,Zqp];rfl
    ·simp only [execOp,ho,Zqj,e1,e2,run_eqGuard_agg w _ _ _ _ _ _ hcond.2,Zqc,run_neq_struct,hrun,Zqp];rfl
  ·cases hk
 ·cases hk
theorem UU:∀ (cs:List AV) (vs:List Value) (l:List Nat) (acc:ByteArray),Cs cs=some l→All2 (VR γ) cs vs→
 ∃ bs:List UInt8,bs.map UInt8.toNat=l∧vs=bs.map (fun b=>Value.int .u8 b.toNat):=by
 intro cs
 induction cs with
 | nil=>intro vs l acc h hr;cases h;cases hr;exact ⟨[],rfl,rfl⟩
 | cons c cs ih=>
  intro vs l acc h hr
  cases hr with
  | @cons _ v _ vs' h1 h2=>
   change (IR.rec none (fun k n=>Bool.rec none (Int.rec (fun a=>Bool.rec none (Option.rec none (fun r=>some (a::r)) (Cs cs)) (Nat.blt a 256)) (fun _=>none) n) (Nat.beq (Gv k) 4)) (asInt c):Option (List Nat))=some l at h
   cases hc:asInt c with
   | no=>rw [hc] at h;cases h
   | int k n=>
    rw [hc] at h
    dsimp only at h
    cases hk:Nat.beq (Gv k) 4 with
    | false=>rw [hk] at h;cases h
    | true=>
     rw [hk] at h
     have hku:k=.u8:=by cases k <;> first|rfl|cases hk
     subst hku
     cases n with
     | negSucc n=>cases h
     | ofNat a=>
      dsimp only at h
      cases hb:Nat.blt a 256 with
      | false=>rw [hb] at h;cases h
      | true=>
       rw [hb] at h
       rw [Zrr] at hb
       cases hbo:Cs cs with
       | none=>rw [hbo] at h;cases h
       | some r=>
        rw [hbo] at h;cases h
        obtain ⟨bs,e1,e2⟩:=ih vs' r acc hbo h2
        rw [E0 hc] at h1
        refine ⟨UInt8.ofNat a::bs,?_,?_⟩
        ·simp [e1];omega
        ·rw [AK h1,e2]
         simp
         omega
theorem Qh:∀ (bs:List UInt8) (acc:ByteArray),((bs.map (fun b=>(b.toNat:Int))).foldl (fun r n=>r.push (UInt8.ofNat n.toNat)) acc).data.toList=acc.data.toList++bs
 | [],acc=>by simp
 | b::bs,acc=>by rw [Zrp,List.foldl_cons,Qh bs];simp [ByteArray.push]
theorem Zcs (hs:Sim P γ s w) {sr ds:Nat}(hsr:P.underlying sr=some (.slice e)) (hd:P.underlying ds=some .string) (hu8:P.underlying e=some (.int .u8)) (hx:Af x=some a) (ho:o.op=.convert sr ds x) (he:Evs γ t ρ [x])
 (h:YA a t s=.ok v s'):OpOk P γ s w ρ o v s':=by
 obtain ⟨u,hu',h⟩:=AF h
 have hv:=he x (by simp) a u hx hu'
 have hconv:∀ (p:Option Addr) (m c:Nat),(convert sr ds (.slice p m c)).run P w=(Conv.bytesToString (.slice p m c)).run P w:=by
  intro p m c;simp [convert,Zqr hsr,Zqr hd,Zqr hu8]
 rcases Fm h with ⟨r,i,n,c,rfl,h⟩|⟨rfl,h⟩|⟨rfl,h⟩|⟨n,c,l0,rfl,h⟩
 ·obtain ⟨cs,hl,h⟩:=AI h
  obtain ⟨l,hb,h⟩:=AI h
  obtain ⟨rfl,rfl⟩:=Az h
  obtain ⟨L,cc,hL,hval⟩:∃ L cc,γ r=some L∧ρ x=.slice (some ⟨L.b,L.o+i,none⟩) n cc:=by
   generalize ρ x=vx at hv
   cases hv with
   | sl _ _ _ c L hL=>exact ⟨L,_,hL,rfl⟩
   | slu _ _ _ c L hL=>exact ⟨L,_,hL,rfl⟩
  obtain ⟨vs,e1,hc,hR,h1⟩:=II hs hl hL
  obtain ⟨bs,e2,e3⟩:=UU cs vs l ByteArray.empty hb hR
  have hrun:=run_loadCells_list (P:=P) w _ vs hc
  rw [e1] at hrun
  have hb:=run_bytesToString (P:=P) w ⟨L.b,L.o+i,none⟩ n cc (bs.map (fun b=>(b.toNat:Int))) (by rw [hrun,e3];simp)
  refine Aw hs (.string ((bs.map (fun b=>(b.toNat:Int))).foldl (fun r n=>r.push (UInt8.ofNat n.toNat)) ByteArray.empty)) (by simp only [execOp,ho,Zqj,hval];rw [hconv,hb];simp only [Zqc,Zqp]) (.str _ _ ?_)
  rw [Qh];show List.map UInt8.toNat ([]++bs)=l;exact e2
 ·obtain ⟨rfl,rfl⟩:=Az h
  generalize hxx:ρ x=vx at hv
  cases hv
  refine Aw hs (.string .empty) (by simp only [execOp,ho,Zqj,hxx];rw [hconv];simp [Conv.bytesToString]) (.str _ _ rfl)
 ·obtain ⟨rfl,rfl⟩:=Az h
  generalize hxx:ρ x=vx at hv
  cases hv with
  | es ad c=>
   have hb:=run_bytesToString (P:=P) w ad 0 c [] (by simp [loadCells,loadCellsFrom])
   refine Aw hs (.string .empty) (by simp only [execOp,ho,Zqj,hxx];rw [hconv,hb];simp only [Zqc,Zqp,List.foldl_nil]) (.str _ _ rfl)
 ·obtain ⟨cs,hl,h⟩:=AI h
  obtain ⟨l,hb,h⟩:=AI h
  obtain ⟨rfl,rfl⟩:=Az h
  obtain ⟨b,i,cc,cz,vs,hval,hbz,h2,h3,h4,_,_,h5⟩:=F5 hv
  obtain ⟨us,e1,g2,hR,h1⟩:=HX (k:=0) hs hbz h2 h3 h4 hl
  obtain ⟨bs,e2,e3⟩:=UU cs us l ByteArray.empty hb hR
  rw [Zri] at g2
  have hrun:=run_loadCells_list (P:=P) w _ us (JP hs hbz g2)
  rw [e1] at hrun
  have hb:=run_bytesToString (P:=P) w ⟨b,i,none⟩ n cc (bs.map (fun b=>(b.toNat:Int))) (by rw [hrun,e3];simp)
  refine Aw hs (.string ((bs.map (fun b=>(b.toNat:Int))).foldl (fun r n=>r.push (UInt8.ofNat n.toNat)) ByteArray.empty)) (by simp only [execOp,ho,Zqj,hval];rw [hconv,hb];simp only [Zqc,Zqp]) (.str _ _ ?_)
  rw [Qh];show List.map UInt8.toNat ([]++bs)=l;exact e2
variable {n:Nat}
theorem Gc {r i:Nat}{c:Option Nat}{v':Value}(h:VR γ (.sl r i n c) v'):∃ L cc,γ r=some L∧v'=.slice (some ⟨L.b,L.o+i,none⟩) n cc∧(∀ k,c=some k→cc=k):=by
 cases h with
 | sl _ _ _ c L hL=>exact ⟨L,_,hL,rfl,fun k e=>Zrh e⟩
 | slu _ _ _ c L hL=>exact ⟨L,_,hL,rfl,fun k e=>by cases e⟩
theorem Zbw {by_:Nat}{z:List AV}(hu:P.underlying ty=some (.slice e)) (hn:A8 P e=some n) (hby:Ht P e=some by_) (hz:Ea P e=some z) (h1n:1≤n) (hbl:by_≤4096) (hzl:z.length=n)
 (hx:Af x=some a) (hy:Af y=some b) (ho:o.op=.makeSlice ty x y) (he:Evs γ t ρ [x,y]) (h:Ym e n z a b t s=.ok v s'):Fresh P γ w ρ o s v s':=by
 obtain ⟨l,hl,h⟩:=C2 h
 obtain ⟨c,hc,h⟩:=C2 h
 obtain ⟨hcond,h⟩:=B5 h
 obtain ⟨rfl,rfl⟩:=Az h
 obtain ⟨k1,h1⟩:=Ma hl
 obtain ⟨k2,h2⟩:=Ma hc
 have v1:ρ x=.int k1 (l:Int):=AK (he x (by simp) a _ hx h1)
 have v2:ρ y=.int k2 (c:Int):=AK (he y (by simp) b _ hy h2)
 simp only [Zqb] at hcond
 have hlc:=Zqx hcond.1
 have hcm:=Zqx hcond.2
 obtain ⟨i,zv,hi,hzz,ha⟩:=IE hz
 obtain ⟨y1,y2⟩:=Gs (γ:=γ) ha
 have hzs:zv.cells.size=n:=by rw [← hzl];simpa using y1.length.symm
 obtain ⟨q1,q2⟩:=JM y1 y2 (by omega) c
 rw [hzs] at q1 q2
 rw [R5]
 refine ⟨.row e (Fx z c),fun r=>.sl r 0 l (some c),.cells _ e,_,n,.slice (some ⟨w.heap.size,0,none⟩) l c,rfl,rfl,?_,fun γ' r hle hr=>⟨Ol hn q1 q2 hle,.sl r 0 l c _ hr hlc⟩⟩
 have hib:i.bytes=by_:=by simp [Ht,hi] at hby;exact hby
 have hw1:IntKind.i64.wrap (l:Int)=(l:Int):=IntWalk.i64_in (l:Int) ⟨by omega,by omega⟩
 have hw2:IntKind.i64.wrap (c:Int)=(c:Int):=IntWalk.i64_in (c:Int) ⟨by omega,by omega⟩
 have hbc:i.bytes*c≤4096*1000000:=by rw [hib];exact Nat.mul_le_mul hbl hcm
 have hroom:¬ (c*i.bytes>roomBytes):=by rw [Nat.mul_comm];simp only [roomBytes];omega
 have hlarge:((decide ((c:Int)<0) || decide ((i.bytes:Int)*(c:Int)>2^48)) || decide ((l:Int)<0) || decide ((l:Int)>(c:Int)))=false:=by
  have:(i.bytes:Int)*(c:Int)=((i.bytes*c:Nat):Int):=by simp
  rw [this]
  simp
  omega
 simp only [execOp,ho,Instr.makeSlice,Zqj,Zqr hu,Zqc,Go.asInt,asIntOf,v1,v2,Zqp,typeInfo,run_program,hi,hw1,hw2,hlarge]
 rw [Zqh (by simp)]
 have hroom':(askRoom (c*i.bytes)).run P w=.ok () w:=by unfold askRoom;rw [Zqh hroom];rfl
 simp only [Int.toNat_natCast,Zqj,hroom',Zqc,C7 hn]
 by_cases h0:c*n=0
 ·have hrow:(Array.range (c*n)).map (fun x=>(#[]:Array Value)[x % (#[]:Array Value).size]!)=(Array.range (c*n)).map (fun i=>zv.cells[i % n]!):=by
   rw [h0];simp
  simp only [Zqd h0,Zqj,Zqp,Zqc,hrow,newRow,HP]
 ·simp only [Zqh h0,Zqj,Zqp,GD hi hzz,Zqc,hzs,newRow,HP]
variable {d:Nat}
theorem Vj {x:Option AO}(h:C0 t x d=.n n):(x=none∧n=d)∨∃ a k,x=some a∧ev a t=.some (.int k (.ofNat n)):=by
 cases x with
 | none=>cases h;exact .inl ⟨rfl,rfl⟩
 | some a=>obtain ⟨k,hk⟩:=Ma h;exact .inr ⟨a,k,rfl,hk⟩
theorem YP (k:IntKind) (i y:Nat) (code:BoundsCode) (h:i≤y):(Instr.sliceBound (.int k (i:Int)) y code).run P w=.ok i w:=by
 simp [Instr.sliceBound,asIntOf,h]
def GV (ρ:Operand→Value) (x:Option Operand) (d n:Nat):Prop:=(x=none∧n=d)∨∃ y k,x=some y∧ρ y=.int k (n:Int)
theorem EN {x:Option Operand}{a:Option AO}(hx:DS x=some a) (he:∀ y,x=some y→Evs γ t ρ [y]) (h:C0 t a d=.n n):GV ρ x d n:=by
 cases x with
 | none=>cases hx;rcases Vj h with ⟨_,e⟩|⟨a,k,e,_⟩
         ·exact .inl ⟨rfl,e⟩
         ·cases e
 | some y=>
  simp only [DS] at hx
  cases ha:Af y with
  | none=>rw [ha] at hx;cases hx
  | some b=>
   rw [ha] at hx;cases hx
   rcases Vj h with ⟨e,_⟩|⟨b',k,e,hk⟩
   ·cases e
   ·cases e;exact .inr ⟨y,k,rfl,AK (he y rfl y (by simp) b _ ha hk)⟩
variable {lo hi mx:Option Operand}{m:Nat}
theorem T4 (sl:Bool) {len cap:Nat}{l h:Nat}(h1:GV ρ lo 0 l) (h2:GV ρ hi len h) (h3:GV ρ mx cap m) (hm:mx.isSome=true→hi.isSome=true) (hlh:l≤h) (hhm:h≤m) (hmc:m≤cap):
 (Instr.sliceBounds sl len cap (lo.map ρ) (hi.map ρ) (mx.map ρ)).run P w=.ok (l,h,m) w:=by
 rcases h1 with ⟨rfl,rfl⟩|⟨y1,k1,rfl,hy1⟩ <;> rcases h2 with ⟨rfl,rfl⟩|⟨y2,k2,rfl,hy2⟩ <;> rcases h3 with ⟨rfl,rfl⟩|⟨y3,k3,rfl,hy3⟩ <;>
  first
  | (simp [Instr.sliceBounds, *,YP];done)
  | exact absurd (hm rfl) (by simp)
variable {es:Nat}{alo ahi amx:Option AO}
theorem Zbi (hs:Sim P γ s w) (hu:P.underlying ty=some (.slice e)) (hes:A8 P e=some es)
 (hx:Af x=some a) (hlo:DS lo=some alo) (hhi:DS hi=some ahi) (hmx:DS mx=some amx) (hm:amx.isSome=true→ahi.isSome=true) (ho:o.op=.slice ty x lo hi mx)
 (he:Evs γ t ρ ([x]++lo.toList++hi.toList++mx.toList)) (h:Yg es a alo ahi amx t s=.ok v s'):OpOk P γ s w ρ o v s':=by
 obtain ⟨u,hu',h⟩:=AF h
 have hv:=he x (by simp) a u hx hu'
 have hlo':∀ y,lo=some y→Evs γ t ρ [y]:=fun y hy z hz=>he z (by simp at hz;subst hz;simp [hy])
 have hhi':∀ y,hi=some y→Evs γ t ρ [y]:=fun y hy z hz=>he z (by simp at hz;subst hz;simp [hy])
 have hmx':∀ y,mx=some y→Evs γ t ρ [y]:=fun y hy z hz=>he z (by simp at hz;subst hz;simp [hy])
 have hms:mx.isSome=true→hi.isSome=true:=by
  intro hq
  cases mx with
  | none=>cases hq
  | some y=>cases hi with
   | some z=>rfl
   | none=>
    simp only [DS] at hmx hhi
    cases hhi
    cases hay:Af y with
    | none=>rw [hay] at hmx;cases hmx
    | some b=>rw [hay] at hmx;cases hmx;exact absurd (hm rfl) (by simp)
 have hfin:∀ {ad:Option Addr}{n c l h m:Nat},ρ x=.slice ad n c→GV ρ lo 0 l→GV ρ hi n h→GV ρ mx c m→l≤h→h≤m→m≤c→
  (execOp ρ o).run P w=.ok (.value (.slice (if m=l then ad else ad.map (·.add (l*es))) (h-l) (m-l))) w:=by
  intro ad n c l h m e1 e2 e3 e4 e5 e6 e7
  simp only [execOp,ho,Instr.sliceAt,Zqj,Zqr hu,Zqc,e1,Instr.slice,T4 (P:=P) (w:=w) true e2 e3 e4 hms e5 e6 e7,C7 hes,Zqp]
 rcases Fm h with ⟨r,i,n,c,rfl,h⟩|⟨rfl,h⟩|⟨rfl,h⟩|⟨n,cap,l0,rfl,h⟩
 ·obtain ⟨l,hl,h⟩:=C2 h
  obtain ⟨q,hq,h⟩:=C2 h
  have b1:=EN hlo hlo' hl
  have b2:=EN hhi hhi' hq
  cases amx with
  | none=>
   have hmn:mx=none:=by
    cases mx with
    | none=>rfl
    | some y=>simp only [DS] at hmx;cases hay:Af y <;> rw [hay] at hmx <;> cases hmx
   subst hmn
   change S2 es r i n c l q s=.ok v s' at h
   cases c with
   | some c=>
    obtain ⟨hc,h⟩:=B5 h
    obtain ⟨rfl,rfl⟩:=Az h
    simp only [Zqb] at hc
    have c1:=Zqx hc.1
    have c2:=Zqx hc.2
    generalize hxx:ρ x=vx at hv
    cases hv with
    | sl _ _ _ _ L hL=>
     have hr:=hfin hxx b1 b2 (.inl ⟨rfl,rfl⟩) c1 c2 (Zqu _)
     refine Aw hs _ hr ?_
     cases hcl:Nat.beq c l with
     | true=>
      have:=Zqf hcl
      rw [Zqd this];exact .sl _ _ _ _ L hL (by omega)
     | false=>
      have:=Zre hcl
      rw [Zqh this]
      simp only [Option.map_some,DH,Zr6];exact .sl _ _ _ _ L hL (by omega)
   | none=>
    obtain ⟨hc,h⟩:=B5 h
    simp only [Zqb] at hc
    have c1:=Zqx hc.1
    have c2:=Zqx hc.2
    generalize hxx:ρ x=vx at hv
    cases hv with
    | slu _ _ _ c L hL hnc hcm hcs=>
     have hr:=hfin hxx b1 b2 (.inl ⟨rfl,rfl⟩) c1 (Nat.le_trans c2 hnc) (Zqu _)
     cases hln:Nat.blt l n with
     | true=>
      rw [hln] at h
      obtain ⟨rfl,rfl⟩:=Az h
      rw [Zrr] at hln
      refine Aw hs _ hr ?_
      rw [Zqh (by omega)]
      simp only [Option.map_some,DH,Zr6]
      refine .slu _ _ _ _ L hL (by omega) (by omega) (fun e=>?_)
      have:=hcs (by omega)
      exact Nat.le_trans (Nat.mul_le_mul_right _ (Nat.sub_le _ _)) this
     | false=>
      rw [hln] at h
      obtain ⟨rfl,rfl⟩:=Az h
      have:¬ l<n:=fun e=>by rw [← Zrr,hln] at e;cases e
      have hq0:q-l=0:=by omega
      refine Aw hs _ hr ?_
      rw [hq0]
      by_cases e:c=l
      ·rw [Zqd e];exact .es _ _
      ·rw [Zqh e];exact .es _ _
  | some m=>
   obtain ⟨mm,hmm,h⟩:=C2 h
   obtain ⟨hc,h⟩:=B5 h
   obtain ⟨rfl,rfl⟩:=Az h
   simp only [Zqb] at hc
   have c1:=Zqx hc.1.1
   have c2:=Zqx hc.1.2
   have c3:=Zqx hc.2
   obtain ⟨k,hmm⟩:=Ma hmm
   obtain ⟨cc,hbm,hval,hle⟩:∃ L cc,γ r=some L∧ρ x=.slice (some ⟨L.b,L.o+i,none⟩) n cc∧mm≤cc:=by
    generalize ρ x=vx at hv
    cases hv with
    | sl _ _ _ c L hL=>exact ⟨L,c,hL,rfl,c3⟩
    | slu _ _ _ c L hL hnc=>exact ⟨L,c,hL,rfl,Nat.le_trans c3 hnc⟩
   have b3:GV ρ mx hbm mm:=by
    cases mx with
    | none=>cases hmx
    | some y=>
     simp only [DS] at hmx
     cases hay:Af y with
     | none=>rw [hay] at hmx;cases hmx
     | some b=>
      rw [hay] at hmx
      obtain rfl:b=m:=by simpa using hmx
      exact .inr ⟨y,k,rfl,AK (hmx' y rfl y (by simp) b _ hay hmm)⟩
   have hr:=hfin hle.1 b1 b2 b3 c1 c2 hle.2
   refine Aw hs _ hr ?_
   cases hcl:Nat.beq mm l with
   | true=>
    have:=Zqf hcl
    rw [Zqd this];exact .sl _ _ _ _ cc hval (by omega)
   | false=>
    have:=Zre hcl
    rw [Zqh this]
    simp only [Option.map_some,DH,Zr6];exact .sl _ _ _ _ cc hval (by omega)
 ·obtain ⟨l,hl,h⟩:=C2 h
  obtain ⟨q,hq,h⟩:=C2 h
  obtain ⟨m,hmq,h⟩:=C2 h
  obtain ⟨hc,h⟩:=B5 h
  obtain ⟨rfl,rfl⟩:=Az h
  have hc:=Zqf hc
  have b1:=EN hlo hlo' hl
  have b2:=EN hhi hhi' hq
  have b3:=EN hmx hmx' hmq
  obtain rfl:l=0:=by omega
  obtain rfl:q=0:=by omega
  obtain rfl:m=0:=by omega
  generalize hxx:ρ x=vx at hv
  cases hv
  refine Aw hs _ (hfin hxx b1 b2 b3 (Zqu _) (Zqu _) (Zqu _)) ?_
  exact .nils
 ·obtain ⟨l,hl,h⟩:=C2 h
  obtain ⟨q,hq,h⟩:=C2 h
  obtain ⟨m,hmq,h⟩:=C2 h
  obtain ⟨hc,h⟩:=B5 h
  obtain ⟨rfl,rfl⟩:=Az h
  have hc:=Zqf hc
  have b1:=EN hlo hlo' hl
  have b2:=EN hhi hhi' hq
  have b3:=EN hmx hmx' hmq
  obtain rfl:l=0:=by omega
  obtain rfl:q=0:=by omega
  obtain rfl:m=0:=by omega
  generalize hxx:ρ x=vx at hv
  cases hv with
  | es ad c=>
   rcases b3 with ⟨rfl,_⟩|⟨y,k,rfl,hy⟩
   ·cases hmx
    refine Aw hs _ (hfin hxx b1 b2 (.inl ⟨rfl,rfl⟩) (Zqu _) (Zqs _) (Zqu _)) ?_
    by_cases e:c=0
    ·rw [Zqd e];exact .es _ _
    ·rw [Zqh e];exact .es _ _
   ·refine Aw hs _ (hfin hxx b1 b2 (.inr ⟨y,k,rfl,hy⟩) (Zqu _) (Zqu _) (Zqs _)) ?_
    simp only [DS] at hmx
    cases hay:Af y with
    | none=>rw [hay] at hmx;cases hmx
    | some b=>
     rw [hay] at hmx
     cases hmx
     exact .ez _
 ·obtain ⟨l,hl,h⟩:=C2 h
  obtain ⟨q,hq,h⟩:=C2 h
  have b1:=EN hlo hlo' hl
  have b2:=EN hhi hhi' hq
  obtain ⟨b,i,cc,cz,vs,hval,hbz,h2,h3,h4,hnc,hck,h5⟩:=F5 hv
  cases amx with
  | none=>
   have hmn:mx=none:=by
    cases mx with
    | none=>rfl
    | some y=>simp only [DS] at hmx;cases hay:Af y <;> rw [hay] at hmx <;> cases hmx
   subst hmn
   change M4 es n cap l0 l q s=.ok v s' at h
   obtain ⟨hc,h⟩:=B5 h
   simp only [Zqb] at hc
   have c1:=Zqx hc.1
   have c2:=Zqx hc.2
   have hr:=hfin hval b1 b2 (.inl ⟨rfl,rfl⟩) c1 (Nat.le_trans c2 hnc) (Zqu _)
   cases hln:Nat.blt l n with
   | true=>
    rw [hln] at h
    obtain ⟨cs',ht,h⟩:=AI h
    obtain ⟨rfl,rfl⟩:=Az h
    rw [Zrr] at hln
    refine Aw hs _ hr ?_
    rw [Zqh (by omega)]
    simp only [Option.map_some,DH]
    obtain ⟨us,e1,g2,hR,h1⟩:=HX hs hbz h2 h3 h4 ht
    refine .fz _ _ _ us b _ _ cz hbz g2 h1 hR (by omega) ?_ (WU h5 ht)
    intro k hk
    cases cap with
    | none=>cases hk
    | some c=>cases hk;rw [hck c rfl]
   | false=>
    rw [hln] at h
    obtain ⟨rfl,rfl⟩:=Az h
    have:¬ l<n:=fun e=>by rw [← Zrr,hln] at e;cases e
    have hq0:q-l=0:=by omega
    refine Aw hs _ hr ?_
    rw [hq0]
    by_cases e:cc=l
    ·rw [Zqd e];exact .es _ _
    ·rw [Zqh e];exact .es _ _
  | some m=>
   obtain ⟨mm,hmm,h⟩:=C2 h
   obtain ⟨hc,h⟩:=B5 h
   simp only [Zqb] at hc
   have c1:=Zqx hc.1.1
   have c2:=Zqx hc.1.2
   have c3:=Zqx hc.2
   obtain ⟨k,hmm⟩:=Ma hmm
   have b3:GV ρ mx cc mm:=by
    cases mx with
    | none=>cases hmx
    | some y=>
     simp only [DS] at hmx
     cases hay:Af y with
     | none=>rw [hay] at hmx;cases hmx
     | some b=>
      rw [hay] at hmx
      obtain rfl:b=m:=by simpa using hmx
      exact .inr ⟨y,k,rfl,AK (hmx' y rfl y (by simp) b _ hay hmm)⟩
   have hr:=hfin hval b1 b2 b3 c1 c2 (Nat.le_trans c3 hnc)
   cases hln:Nat.blt l mm with
   | true=>
    rw [hln] at h
    obtain ⟨cs',ht,h⟩:=AI h
    obtain ⟨rfl,rfl⟩:=Az h
    rw [Zrr] at hln
    refine Aw hs _ hr ?_
    rw [Zqh (by omega)]
    simp only [Option.map_some,DH]
    obtain ⟨us,e1,g2,hR,h1⟩:=HX hs hbz h2 h3 h4 ht
    exact .fz _ _ _ us b _ _ cz hbz g2 h1 hR (by omega) (fun k hk=>by cases hk;rfl) (WU h5 ht)
   | false=>
    rw [hln] at h
    obtain ⟨rfl,rfl⟩:=Az h
    have:¬ l<mm:=fun e=>by rw [← Zrr,hln] at e;cases e
    have hq0:q-l=0:=by omega
    refine Aw hs _ hr ?_
    rw [hq0]
    rw [Zqd (show mm=l by omega),show mm-l=0 by omega];exact .ez _
theorem Zbj (hs:Sim P γ s w) (hu:P.underlying ty=some (.array n e)) (hes:A8 P e=some es)
 (hx:Af x=some a) (hlo:DS lo=some alo) (hhi:DS hi=some ahi) (hmx:DS mx=some amx) (hms:mx.isSome=true→hi.isSome=true) (ho:o.op=.slice ty x lo hi mx)
 (he:Evs γ t ρ ([x]++lo.toList++hi.toList++mx.toList)) (h:Yi es n a alo ahi amx t s=.ok v s'):OpOk P γ s w ρ o v s':=by
 obtain ⟨u,hu',h⟩:=AF h
 have hlo':∀ y,lo=some y→Evs γ t ρ [y]:=fun y hy z hz=>he z (by simp at hz;subst hz;simp [hy])
 have hhi':∀ y,hi=some y→Evs γ t ρ [y]:=fun y hy z hz=>he z (by simp at hz;subst hz;simp [hy])
 have hmx':∀ y,mx=some y→Evs γ t ρ [y]:=fun y hy z hz=>he z (by simp at hz;subst hz;simp [hy])
 obtain ⟨r,i,rfl,h⟩:=On h
 obtain ⟨L,hL,hv⟩:=Iy (he x (by simp) a _ hx hu')
 obtain ⟨l,hl,h⟩:=C2 h
 obtain ⟨q,hq,h⟩:=C2 h
 obtain ⟨m,hmq,h⟩:=C2 h
 obtain ⟨hc,h⟩:=B5 h
 obtain ⟨rfl,rfl⟩:=Az h
 simp only [Zqb] at hc
 have c1:=Zqx hc.1.1
 have c2:=Zqx hc.1.2
 have c3:=Zqx hc.2
 have b1:=EN hlo hlo' hl
 have b2:=EN hhi hhi' hq
 have b3:=EN hmx hmx' hmq
 refine Aw hs (.slice (some (if m=l then ⟨L.b,L.o+i,none⟩ else (⟨L.b,L.o+i,none⟩:Addr).add (l*es))) (q-l) (m-l)) ?_ ?_
 ·simp only [execOp,ho,Instr.sliceAt,Zqj,Zqr hu,Zqc,hv,Instr.sureAddr,T4 (P:=P) (w:=w) false b1 b2 b3 hms c1 c2 c3,C7 hes,Zqp]
 ·cases hcl:Nat.beq m l with
  | true=>
   have:=Zqf hcl
   rw [Zqd this];exact .sl _ _ _ _ L hL (by omega)
  | false=>
   have:=Zre hcl
   rw [Zqh this]
   simp only [DH,Zr6];exact .sl _ _ _ _ L hL (by omega)
theorem Zb6 (hs:Sim P γ s w) (hu:P.underlying ty=some (.slice e)) (hes:A8 P e=some es) (hx:Af x=some a) (hy:Af y=some b) (ho:o.op=.indexAddr ty x y) (he:Evs γ t ρ [x,y])
 (h:Yt es a b t s=.ok v s'):OpOk P γ s w ρ o v s':=by
 obtain ⟨u1,hu1,h⟩:=AF h
 obtain ⟨u2,hu2,h⟩:=AF h
 obtain ⟨i,hi,h⟩:=C2 h
 obtain ⟨k,rfl⟩:=IN hi
 rcases Fm h with ⟨r,o',n,c,rfl,h⟩|⟨rfl,h⟩|⟨rfl,h⟩|⟨n,c,l,rfl,h⟩
 ·obtain ⟨hc,h⟩:=B5 h
  obtain ⟨rfl,rfl⟩:=Az h
  rw [Zrr] at hc
  obtain ⟨L,cc,hL,hv,_⟩:=Gc (he x (by simp) a _ hx hu1)
  have hv2:ρ y=.int k (i:Int):=AK (he y (by simp) b _ hy hu2)
  refine Aw hs (.pointer (some ⟨L.b,L.o+(o'+i*es),none⟩)) ?_ (.ptr _ _ L hL)
  simp [execOp,ho,Instr.indexAt,hv,hv2,asIntOf,Zqr hu,hc,C7 hes,DH,Zr6]
 ·cases h
 ·cases h
 ·obtain ⟨hc,h⟩:=B5 h
  obtain ⟨rfl,rfl⟩:=Az h
  rw [Zrr] at hc
  obtain ⟨bb,o',cc,cz,vs,hv,hbz,h2,h3,h4,_,_,h5⟩:=F5 (he x (by simp) a _ hx hu1)
  have hv2:ρ y=.int k (i:Int):=AK (he y (by simp) b _ hy hu2)
  refine Aw hs (.pointer (some ⟨bb,o'+i*es,none⟩)) ?_ (Rh hbz h2 h3 h4 h5)
  simp [execOp,ho,Instr.indexAt,hv,hv2,asIntOf,Zqr hu,hc,C7 hes,DH]
theorem Zb7 (hs:Sim P γ s w) (hu:P.underlying ty=some (.array n e)) (hes:A8 P e=some es) (hx:Af x=some a) (hy:Af y=some b) (ho:o.op=.indexAddr ty x y) (he:Evs γ t ρ [x,y])
 (h:Yu n es a b t s=.ok v s'):OpOk P γ s w ρ o v s':=by
 obtain ⟨u1,hu1,h⟩:=AF h
 obtain ⟨u2,hu2,h⟩:=AF h
 obtain ⟨i,hi,h⟩:=C2 h
 obtain ⟨k,rfl⟩:=IN hi
 have hv2:ρ y=.int k (i:Int):=AK (he y (by simp) b _ hy hu2)
 rcases NV h with ⟨r,o',rfl,h⟩|⟨l,rfl,h⟩
 ·obtain ⟨hc,h⟩:=B5 h
  obtain ⟨rfl,rfl⟩:=Az h
  rw [Zrr] at hc
  obtain ⟨L,hL,hv⟩:=Iy (he x (by simp) a _ hx hu1)
  refine Aw hs (.pointer (some ⟨L.b,L.o+(o'+i*es),none⟩)) ?_ (.ptr _ _ L hL)
  simp [execOp,ho,Instr.indexAt,hv,hv2,asIntOf,Zqr hu,hc,C7 hes,DH,Zr6,Instr.sureAddr]
 ·obtain ⟨hc,h⟩:=B5 h
  obtain ⟨rfl,rfl⟩:=Az h
  rw [Zrr] at hc
  obtain ⟨bb,o',cz,vs,hv,hbz,h2,h3,h4,h5⟩:=fpV (he x (by simp) a _ hx hu1)
  refine Aw hs (.pointer (some ⟨bb,o'+i*es,none⟩)) ?_ (Rh hbz h2 h3 h4 h5)
  simp [execOp,ho,Instr.indexAt,hv,hv2,asIntOf,Zqr hu,hc,C7 hes,DH,Instr.sureAddr]
theorem Zb5 (hs:Sim P γ s w) (hu:P.underlying ty=some (.array n e)) (hes:A8 P e=some 1) (hag:CV P e=some false) (hx:Af x=some a) (hy:Af y=some b) (ho:o.op=.index ty x y) (he:Evs γ t ρ [x,y])
 (h:Ys n a b t s=.ok v s'):OpOk P γ s w ρ o v s':=by
 obtain ⟨u1,hu1,h⟩:=AF h
 obtain ⟨u2,hu2,h⟩:=AF h
 obtain ⟨i,hi,h⟩:=C2 h
 obtain ⟨k,rfl⟩:=IN hi
 obtain ⟨l,rfl,h⟩:=Ku h
 obtain ⟨hc,h⟩:=B5 h
 obtain ⟨hk,rfl⟩:=JZ h
 rw [IU] at hk
 rw [Zrr] at hc
 obtain ⟨cs,hv,hR,_⟩:=KO (he x (by simp) a _ hx hu1)
 have hv2:ρ y=.int k (i:Int):=AK (he y (by simp) b _ hy hu2)
 obtain ⟨v',hv',hRv⟩:=hR.get hk
 refine Aw hs v' ?_ hRv
 have hp:=Jg (P:=P) (w:=w) hag (show cs[i]?=some v' by simpa using hv')
 simp [execOp,ho,Instr.index,hv,hv2,asIntOf,Zqr hu,hc,C7 hes,hp]
theorem Zac (hs:Sim P γ s w) (hu:P.underlying ty=some (.array n e)) (hes:A8 P e=some m) (hag:CV P e=some true) (hx:Af x=some a) (hy:Af y=some b) (ho:o.op=.index ty x y) (he:Evs γ t ρ [x,y])
 (h:X5 n m a b t s=.ok v s'):OpOk P γ s w ρ o v s':=by
 obtain ⟨u1,hu1,h⟩:=AF h
 obtain ⟨u2,hu2,h⟩:=AF h
 obtain ⟨i,hi,h⟩:=C2 h
 obtain ⟨k,rfl⟩:=IN hi
 obtain ⟨l,rfl,h⟩:=Ku h
 obtain ⟨hc,h⟩:=B5 h
 obtain ⟨cs,hk,h'⟩:=AI h
 obtain ⟨rfl,rfl⟩:=Az h'
 rw [Zrr] at hc
 obtain ⟨e1,hle⟩:=JE _ hk
 rw [GO] at e1 hle
 subst e1
 obtain ⟨c,hv,hR,h1⟩:=KO (he x (by simp) a _ hx hu1)
 have hv2:ρ y=.int k (i:Int):=AK (he y (by simp) b _ hy hu2)
 have e2:(c.extract (i*m) (i*m+m)).toList=(c.toList.drop (i*m)).take m:=by simp [Array.toList_extract,List.extract_eq_take_drop]
 refine Aw hs (.agg (c.extract (i*m) (i*m+m))) ?_ (.agg _ _ (by rw [e2];exact (hR.drop _).take _) (by rw [e2];exact fun v hv=>h1 v (Zrl (Zrg hv))))
 simp [execOp,ho,Instr.index,hv,hv2,asIntOf,Zqr hu,hc,C7 hes,Xx hag hes]
theorem DX {b:Builtin}{args:Array Operand}{ts:Array TypeId}(ho:o.op=.call { callee:=.builtin b,args:=args,argTypes:=ts }):
 (execOp ρ o).run P w=(builtin b ts o.type (args.map fun|.const _=>true|_=>false) (args.map ρ)).run P w:=by
 simp only [execOp,ho,resolve,Zqj,Zqp,Zqc,invoke]
 rfl
theorem Zb0 (hs:Sim P γ s w) {T:Nat}(hu:P.underlying T=some (.slice e)) (hx:Af x=some a) (ho:o.op=.call { callee:=.builtin .len,args:=#[x],argTypes:=#[T] }) (he:Evs γ t ρ [x])
 (h:Yp a t s=.ok v s'):OpOk P γ s w ρ o v s':=by
 obtain ⟨u,hu',h⟩:=AF h
 have hv:=he x (by simp) a u hx hu'
 have hrun:∀ (p:Option Addr) (n c:Nat),ρ x=.slice p n c→(execOp ρ o).run P w=.ok (.value (.int .i64 n)) w:=by
  intro p n c e1
  rw [DX ho]
  have hl:∀ ty,(Builtin.len_ #[T] ty #[.slice p n c]).run P w=.ok (goInt n) w:=fun ty=>by simp [Builtin.len_,Zqr hu]
  simp only [builtin,Zrx,Zrp,Zsb,e1,Zqj,hl,Zqc,Zqp]
  rfl
 rcases Fm h with ⟨r,i,n,c,rfl,h⟩|⟨rfl,h⟩|⟨rfl,h⟩|⟨n,c,l,rfl,h⟩
 ·obtain ⟨rfl,rfl⟩:=Az h
  obtain ⟨L,cc,hL,hval,_⟩:=Gc hv
  exact Aw hs _ (hrun _ _ _ hval) (.int _ _)
 ·obtain ⟨rfl,rfl⟩:=Az h
  generalize hxx:ρ x=vx at hv
  cases hv
  exact Aw hs _ (hrun _ _ _ hxx) (.int _ _)
 ·obtain ⟨rfl,rfl⟩:=Az h
  generalize hxx:ρ x=vx at hv
  cases hv
  exact Aw hs _ (hrun _ _ _ hxx) (.int _ _)
 ·obtain ⟨rfl,rfl⟩:=Az h
  obtain ⟨bb,o',cc,cz,vs,hval,_⟩:=F5 hv
  exact Aw hs _ (hrun _ _ _ hval) (.int _ _)
theorem Zas (hs:Sim P γ s w) {T:Nat}(hu:P.underlying T=some (.array n e)) (ho:o.op=.call { callee:=.builtin .len,args:=#[x],argTypes:=#[T] })
 (h:XO n t s=.ok v s'):OpOk P γ s w ρ o v s':=by
 obtain ⟨rfl,rfl⟩:=Az h
 refine Aw hs (.int .i64 n) ?_ (.int _ _)
 rw [DX ho]
 have hl:∀ ty u,(Builtin.len_ #[T] ty #[u]).run P w=.ok (goInt n) w:=fun ty u=>by simp [Builtin.len_,Zqr hu]
 simp only [builtin,Zrx,Zrp,Zsb,Zqj,hl,Zqc,Zqp]
 rfl
end
end Go.AM
namespace Go.AM
section
variable {P:Program}{γ:Gam}{s:St}{w:World}{t:AT}{ρ:Operand→Value}
theorem Zlg (mx:Bool):∀ (l:List AV) (x v:AV) (x':Value) (l':List Value),mm mx l x=.some v→VR γ x x'→All2 (VR γ) l l'→
 ∃ v',(l'.foldlM (if mx then Builtin.max2 else Builtin.min2) x').run P w=.ok v' w∧VR γ v v':=by
 intro l
 induction l with
 | nil=>intro x v x' l' h hx hl;cases hl;cases h;exact ⟨x',rfl,hx⟩
 | cons y l ih=>
  intro x v x' l' h hx hl
  cases hl with
  | @cons _ y' _ l'' hy hl=>
   change (IR.rec .none (fun k a=>IR.rec .none (fun k' b=>Bool.rec .none (mm mx l (.int k (Bool.rec a b (Bool.rec (Eu b a) (Eu a b) mx)))) (Cd k k')) (asInt y)) (asInt x):OV)=.some v at h
   cases hx1:asInt x with
   | no=>rw [hx1] at h;cases h
   | int k a=>
    rw [hx1] at h
    cases hy1:asInt y with
    | no=>rw [hy1] at h;cases h
    | int k' b=>
     rw [hy1] at h
     dsimp only at h
     cases hk:Cd k k' with
     | false=>rw [hk] at h;cases h
     | true=>
      rw [hk] at h
      dsimp only at h
      rw [E0 hx1] at hx
      rw [E0 hy1] at hy
      rw [AK hx,AK hy]
      obtain ⟨v',r1,r2⟩:=ih _ v (.int k (Bool.rec a b (Bool.rec (Eu b a) (Eu a b) mx))) l'' h (.int _ _) hl
      refine ⟨v',?_,r2⟩
      rw [← r1]
      simp only [List.foldlM_cons,Zqj]
      cases mx with
      | true=>
       simp only [if_true,Builtin.max2,Zqp,Zqc,FH]
       by_cases hab:a<b <;> simp [hab]
      | false=>
       simp only [Bool.false_eq_true,if_false,Builtin.min2,Zqp,Zqc,FH]
       by_cases hab:b<a <;> simp [hab]
variable {o:Oper}{v:AV}{s':St}
theorem Vq (hs:Sim P γ s w) {mx:Bool}{ts:Array TypeId}{xs:Array Operand}{as:List AO}(hx:EZ xs.toList=some as) (ho:o.op=.call { callee:=.builtin (if mx then .max else .min),args:=xs,argTypes:=ts }) (he:Evs γ t ρ xs.toList)
 (h:mnA mx as t s=.ok v s'):OpOk P γ s w ρ o v s':=by
 obtain ⟨l,hl,h⟩:=AI h
 have hR:=IP (γ:=γ) (ρ:=ρ) hx hl he
 cases l with
 | nil=>cases h
 | cons x l=>
  obtain ⟨hm,rfl⟩:=LX h
  generalize hvs:xs.toList.map ρ=vs at hR
  cases hR with
  | @cons _ x' _ l' h1 h2=>
   obtain ⟨v',r1,r2⟩:=Zlg (P:=P) (w:=w) mx l x v x' l' hm h1 h2
   refine Aw hs v' ?_ r2
   rw [DX ho]
   cases mx with
   | true=>
    simp only [if_true] at r1 ⊢
    simp only [builtin,Builtin.max_,Array.toList_map,hvs,Zqj,r1,Zqc,Zqp]
   | false=>
    simp only [Bool.false_eq_true,if_false] at r1 ⊢
    simp only [builtin,Builtin.min_,Array.toList_map,hvs,Zqj,r1,Zqc,Zqp]
variable {es:Nat}
theorem Zbh (hs:Sim P γ s w) {x:AV}{x':Value}{cs:List AV}(hx:VR γ x x') (h:CS es x s=some cs):
 ∃ p n c vs,x'=.slice p n c∧All2 (VR γ) cs vs∧(∀ v ∈ vs,v.oneCell'=true)∧vs.length=n*es∧(p=none→n=0)∧∀ a,p=some a→∀ j u,vs[j]?=some u→w.cell? (a.add j)=some u:=by
 unfold CS at h
 cases hsl:Bx x with
 | no=>rw [hsl] at h;cases h
 | sl r i n c=>
  rw [hsl] at h
  rw [Oi hsl] at hx
  obtain ⟨L,cc,hL,rfl,_⟩:=Gc hx
  obtain ⟨vs,e1,hc,hR,h1⟩:=II hs h hL
  exact ⟨_,n,cc,vs,rfl,hR,h1,e1,(fun e=>by cases e),(fun a e=>by cases e;exact hc)⟩
 | nils=>
  rw [hsl] at h;cases h
  rw [N9 hsl] at hx
  cases hx
  exact ⟨none,0,0,[],rfl,.nil,by simp,by simp,fun _=>rfl,(fun a e=>by cases e)⟩
 | es=>
  rw [hsl] at h;cases h
  rw [Oj hsl] at hx
  cases hx with
  | es a c=>exact ⟨some a,0,c,[],rfl,.nil,by simp,by simp,fun _=>rfl,fun a _ j u hu=>by simp at hu⟩
 | fz n c l=>
  rw [hsl] at h
  rw [Ru hsl] at hx
  obtain ⟨b,o,cc,cz,vs,rfl,hbz,h2,h3,h4,_,_,h5⟩:=F5 hx
  obtain ⟨us,e1,g2,hR,h1⟩:=HX (k:=0) hs hbz h2 h3 h4 h
  rw [Zri] at g2
  exact ⟨_,n,cc,us,rfl,hR,h1,e1,(fun e=>by cases e),(fun a e=>by cases e;exact JP hs hbz g2)⟩
variable {e:Nat}{x:Operand}{a:AO}
theorem Zal (hs:Sim P γ s w) {T U:Nat}{y:Operand}{b:AO}(hu:P.underlying T=some (.slice e)) (hes:A8 P e=some es) (hx:Af x=some a) (hy:Af y=some b) (ho:o.op=.call { callee:=.builtin .copy,args:=#[x,y],argTypes:=#[T,U] }) (he:Evs γ t ρ [x,y])
 (h:XD es a b t s=.ok v s'):OpOk P γ s w ρ o v s':=by
 obtain ⟨u1,hu1,h⟩:=AF h
 obtain ⟨u2,hu2,h⟩:=AF h
 have h1:=he x (by simp) a u1 hx hu1
 have h2:=he y (by simp) b u2 hy hu2
 have hzero:∀ (p q:Option Addr) (n n' c c':Nat),ρ x=.slice p n c→ρ y=.slice q n' c'→Nat.min n' n=0→(execOp ρ o).run P w=.ok (.value (.int .i64 (0:Nat))) w:=by
  intro p q n n' c c' e1 e2 e3
  rw [DX ho]
  have hf:(Builtin.firstCells es 0 (.slice q n' c')).run P w=.ok #[] w:=by cases q <;> simp [Builtin.firstCells,loadCells,loadCellsFrom]
  have hl:∀ ty,(Builtin.copy_ #[T,U] ty #[.slice p n c,.slice q n' c']).run P w=.ok (goInt (0:Nat)) w:=by
   intro ty
   simp only [Builtin.copy_,Zr4,List.getElem?_cons_zero,List.getElem?_cons_succ,Zqj,Zqr hu,Zqc,Builtin.lenOf,Zqp,C7 hes,e3,hf]
   cases p <;> simp [storeCells]
  simp only [builtin,Zrx,Zrp,Zsb,e1,e2,Zqj,hl,Zqc,Zqp]
  rfl
 rcases Xr h with ⟨r,i,n,c,rfl,h⟩|⟨rfl,h⟩|⟨rfl,h⟩
 ·obtain ⟨L,cc,hL,hv1,_⟩:=Gc h1
  rcases Fm h with ⟨r',i',n',c',rfl,h⟩|⟨rfl,h⟩|⟨rfl,h⟩|⟨n',c',l',rfl,h⟩
  ·obtain ⟨cs,hl,h⟩:=AI h
   obtain ⟨hst,rfl⟩:=LH h
   obtain ⟨L',cc',hL',hv2,_⟩:=Gc h2
   obtain ⟨vs,e1,hc,hR,h1'⟩:=II hs hl hL'
   obtain ⟨w',hrun,hstp,hsim⟩:=Lk hs hst hL hR h1'
   refine ⟨γ,w',hstp,hsim,.inl ⟨.int .i64 (Nat.min n' n:Nat),?_,.int _ _⟩⟩
   rw [DX ho]
   have hlc:=run_loadCells_list (P:=P) w _ vs hc
   rw [e1] at hlc
   have hf:(Builtin.firstCells es (Nat.min n' n) (.slice (some ⟨L'.b,L'.o+i',none⟩) n' cc')).run P w=.ok vs.toArray w:=by
    simp only [Builtin.firstCells];exact hlc
   have hll:∀ ty,(Builtin.copy_ #[T,U] ty #[.slice (some ⟨L.b,L.o+i,none⟩) n cc,.slice (some ⟨L'.b,L'.o+i',none⟩) n' cc']).run P w=.ok (goInt (Nat.min n' n:Nat)) w':=by
    intro ty
    simp only [Builtin.copy_,Zr4,List.getElem?_cons_zero,List.getElem?_cons_succ,Zqj,Zqr hu,Zqc,Builtin.lenOf,Zqp,C7 hes,hf,hrun]
   simp only [builtin,Zrx,Zrp,Zsb,hv1,hv2,Zqj,hll,Zqc,Zqp]
   rfl
  ·obtain ⟨rfl,rfl⟩:=Az h
   generalize hyy:ρ y=vy at h2
   cases h2
   exact Aw hs _ (hzero _ _ _ _ _ _ hv1 hyy (by simp)) (.int _ _)
  ·obtain ⟨rfl,rfl⟩:=Az h
   generalize hyy:ρ y=vy at h2
   cases h2
   exact Aw hs _ (hzero _ _ _ _ _ _ hv1 hyy (by simp)) (.int _ _)
  ·obtain ⟨cs,hl,h⟩:=AI h
   obtain ⟨hst,rfl⟩:=LH h
   obtain ⟨bz,oz,cc',cz,zs,hv2,hbz,g1,g3,g4,_,_,g5⟩:=F5 h2
   obtain ⟨vs,e1,g2,hR,h1'⟩:=HX (k:=0) hs hbz g1 g3 g4 hl
   rw [Zri] at g2
   obtain ⟨w',hrun,hstp,hsim⟩:=Lk hs hst hL hR h1'
   refine ⟨γ,w',hstp,hsim,.inl ⟨.int .i64 (Nat.min n' n:Nat),?_,.int _ _⟩⟩
   rw [DX ho]
   have hlc:=run_loadCells_list (P:=P) w _ vs (JP hs hbz g2)
   rw [e1] at hlc
   have hf:(Builtin.firstCells es (Nat.min n' n) (.slice (some ⟨bz,oz,none⟩) n' cc')).run P w=.ok vs.toArray w:=by
    simp only [Builtin.firstCells];exact hlc
   have hll:∀ ty,(Builtin.copy_ #[T,U] ty #[.slice (some ⟨L.b,L.o+i,none⟩) n cc,.slice (some ⟨bz,oz,none⟩) n' cc']).run P w=.ok (goInt (Nat.min n' n:Nat)) w':=by
    intro ty
    simp only [Builtin.copy_,Zr4,List.getElem?_cons_zero,List.getElem?_cons_succ,Zqj,Zqr hu,Zqc,Builtin.lenOf,Zqp,C7 hes,hf,hrun]
   simp only [builtin,Zrx,Zrp,Zsb,hv1,hv2,Zqj,hll,Zqc,Zqp]
   rfl
 all_goals
  obtain ⟨q,n',c',hyv⟩:∃ q n' c',ρ y=.slice q n' c':=by
   rcases Fm h with ⟨r',i',n',c',rfl,h⟩|⟨rfl,h⟩|⟨rfl,h⟩|⟨n',c',l',rfl,h⟩
   ·obtain ⟨L',cc',hL',hv2,_⟩:=Gc h2;exact ⟨_,_,_,hv2⟩
   ·generalize ρ y=vy at h2;cases h2;exact ⟨_,_,_,rfl⟩
   ·generalize ρ y=vy at h2;cases h2;exact ⟨_,_,_,rfl⟩
   ·obtain ⟨bz,oz,cc',cz,zs,hv2,_⟩:=F5 h2;exact ⟨_,_,_,hv2⟩
  obtain ⟨rfl,rfl⟩:v=Cu 0∧s'=s:=by
   rcases Fm h with ⟨r',i',n',c',rfl,h⟩|⟨rfl,h⟩|⟨rfl,h⟩|⟨n',c',l',rfl,h⟩ <;> (cases h;exact ⟨rfl,rfl⟩)
  generalize hxx:ρ x=vx at h1
  cases h1
  exact Aw hs _ (hzero _ _ _ _ _ _ hxx hyv (by simp)) (.int _ _)
theorem Zcn (hs:Sim P γ s w) {T n:Nat}{z:List AV}(hu:P.underlying T=some (.slice e)) (hn:A8 P e=some n) (hz:Ea P e=some z) (h1n:1≤n) (hzl:z.length=n) (hx:Af x=some a)
 (ho:o.op=.call { callee:=.builtin .clear,args:=#[x],argTypes:=#[T] }) (he:Evs γ t ρ [x]) (h:Y1 z a t s=.ok v s'):OpOk P γ s w ρ o v s':=by
 obtain ⟨u,hu',h⟩:=AF h
 have hv:=he x (by simp) a u hx hu'
 obtain ⟨i,zv,hi,hzz,ha⟩:=IE hz
 obtain ⟨y1,y2⟩:=Gs (γ:=γ) ha
 have hzs:zv.cells.size=n:=by rw [← hzl];simpa using y1.length.symm
 rcases Xr h with ⟨r,o',k,c,rfl,h⟩|⟨rfl,h⟩|⟨rfl,h⟩
 ·obtain ⟨hst,rfl⟩:=LH h
  obtain ⟨L,cc,hL,hv1,_⟩:=Gc hv
  obtain ⟨q1,q2⟩:=JM y1 y2 (by omega) k
  rw [R5] at hst
  obtain ⟨w',hrun,hstp,hsim⟩:=Lk hs hst hL q1 q2
  refine ⟨γ,w',hstp,hsim,.inl ⟨.tuple #[],?_,.tup _ _ .nil⟩⟩
  rw [DX ho]
  have hzc:Builtin.zeroCells zv.cells k=(Array.range (k*zv.cells.size)).map (fun i=>zv.cells[i % zv.cells.size]!):=rfl
  have hl:∀ ty,(Builtin.clear_ #[T] ty #[.slice (some ⟨L.b,L.o+o',none⟩) k cc]).run P w=.ok (.tuple #[]) w':=by
   intro ty
   cases k with
   | zero=>
    have:w'=w:=by simp [storeCells] at hrun;exact hrun.symm
    subst this
    simp [Builtin.clear_,Zqr hu]
   | succ k=>
    simp only [Builtin.clear_,Zr4,List.getElem?_cons_zero,Zqj,Zqr hu,Zqc,GD hi hzz,hzc,hrun,Zqp]
  simp only [builtin,Zrx,Zrp,Zsb,hv1,Zqj,hl,Zqc,Zqp]
 ·obtain ⟨rfl,rfl⟩:=Az h
  generalize hxx:ρ x=vx at hv
  cases hv
  refine Aw hs (.tuple #[]) ?_ (.tup _ _ .nil)
  rw [DX ho]
  have hl:∀ ty,(Builtin.clear_ #[T] ty #[.slice none 0 0]).run P w=.ok (.tuple #[]) w:=by
   intro ty;simp [Builtin.clear_,Zqr hu]
  simp only [builtin,Zrx,Zrp,Zsb,hxx,Zqj,hl,Zqc,Zqp]
 ·obtain ⟨rfl,rfl⟩:=Az h
  generalize hxx:ρ x=vx at hv
  cases hv with
  | es ad c=>
   refine Aw hs (.tuple #[]) ?_ (.tup _ _ .nil)
   rw [DX ho]
   have hl:∀ ty,(Builtin.clear_ #[T] ty #[.slice (some ad) 0 c]).run P w=.ok (.tuple #[]) w:=by
    intro ty;simp [Builtin.clear_,Zqr hu]
   simp only [builtin,Zrx,Zrp,Zsb,hxx,Zqj,hl,Zqc,Zqp]
end
end Go.AM
namespace Go.AM
section
variable {P:Program}{γ:Gam}{s:St}{w:World}{t:AT}{ρ:Operand→Value}
variable {r:Nat}
theorem sluV {i n:Nat}{v':Value}(h:VR γ (.sl r i n none) v'):∃ L cc,γ r=some L∧v'=.slice (some ⟨L.b,L.o+i,none⟩) n cc∧n≤cc∧cc≤maxLen∧(i=0→cc*L.es≤L.sz):=by
 cases h with
 | slu _ _ _ c L hL a b d=>exact ⟨L,c,hL,rfl,a,b,d⟩
theorem Sim.kill (h:Sim P γ s w) {L:Loc}(hL:γ r=some L):Stp γ s w γ (s.put r .dead) w∧Sim P γ (s.put r .dead) w:=by
 refine ⟨⟨Le.refl γ,fun r L h h'=>(by rw [h] at h';cases h'),by rw [Do];exact Zqu _,Zqu _,rfl,rfl,rfl,fun _ _ _=>rfl,fun k hk _=>HC (fun e=>by rw [e,hL] at hk;cases hk),fun b c h h'=>(by rw [h] at h';cases h')⟩,⟨?_,?_,h.lt,?_,?_,h.fzc,fun k y M hy hya hM=>?_⟩⟩
 rotate_right
 ·rcases F9 hy with ⟨rfl,rfl⟩|⟨e,hy⟩
  ·simp [BC] at hya
  ·exact h.fzr k y M hy hya hM
 ·intro k y M hy hM
  rcases F9 hy with ⟨rfl,rfl⟩|⟨e,hy⟩
  ·trivial
  ·exact h.obj k y M hy hM
 ·intro k k' y y' M M' hy hy' ha1 ha2 hM hM' hne
  rcases F9 hy with ⟨rfl,rfl⟩|⟨e,hy⟩
  ·simp [BC] at ha1
  ·rcases F9 hy' with ⟨rfl,rfl⟩|⟨e',hy'⟩
   ·simp [BC] at ha2
   ·exact h.inj k k' y y' M M' hy hy' ha1 ha2 hM hM' hne
 ·intro k hk;rw [Do] at hk;exact h.nx k hk
 ·intro k y hy
  rw [Do]
  rcases F9 hy with ⟨rfl,_⟩|⟨_,hy⟩
  ·refine Nat.lt_of_not_le fun hle=>?_
   rw [h.nx k hle] at hL;cases hL
  ·exact h.dom k y hy
theorem Ql (h:Sim P γ s w) (e:Nat) (cs:List AV) (vs:Array Value) (us:List Value) (es:Nat) (hes:A8 P e=some es) (hR:All2 (VR γ) cs us) (h1:∀ v ∈ us,v.oneCell'=true) (hpre:∀ (i:Nat) v,us[i]?=some v→vs[i]?=some v) (hle:us.length≤vs.size) (hall:∀ v ∈ vs.toList,v.oneCell'=true):
 Stp γ s w (ext γ s.next ⟨w.heap.size,0,vs.size,es⟩) (s.alloc (.row e cs)) (w.alloc (.cells vs e))∧Sim P (ext γ s.next ⟨w.heap.size,0,vs.size,es⟩) (s.alloc (.row e cs)) (w.alloc (.cells vs e)):=by
 refine h.alloc _ _ _ _ ?_
 have hl:=hR.length
 refine ⟨vs,?_,rfl,rfl,hes,by omega,?_,hall⟩
 ·show (w.heap.push _)[w.heap.size]?=_;simp
 ·intro i v hi
  obtain ⟨v',hv',hr⟩:=hR.get hi
  exact ⟨v',hpre i v' hv',hr.mono (Fp (h.nx _ (Zqu _))),h1 v' (Zqv hv')⟩
variable {ty e:Nat}{i:TypeInfo}
theorem Lf {T:Nat}(ht:P.underlying T=some (.slice e)) (hi:P.info? e=some i) (p q:Option Addr) (n c c':Nat) (hnc:n≤c):
 (Builtin.append_ #[T,T] ty #[.slice p n c,.slice q 0 c']).run P w=.ok (.slice p n c) w:=by
 have hf:(Builtin.firstCells i.size 0 (.slice q 0 c')).run P w=.ok #[] w:=by cases q <;> simp [Builtin.firstCells,loadCells,loadCellsFrom]
 cases p <;> simp [Builtin.append_,Zqr ht,Go.sizeOf,typeInfo,hi,Builtin.lenOf,hnc,hf,storeCells]
theorem T5 {T:Nat}(ht:P.underlying T=some (.slice e)) (hi:P.info? e=some i) (b a:Addr) (n c m c':Nat) (news:List Value) (hl:news.length=m*i.size) (hnews:∀ j u,news[j]?=some u→w.cell? (a.add j)=some u)
 (hroom:n+m≤c) {w':World}(hst:(storeCells (b.add (n*i.size)) news).run P w=.ok () w'):
 (Builtin.append_ #[T,T] ty #[.slice (some b) n c,.slice (some a) m c']).run P w=.ok (.slice (some b) (n+m) c) w':=by
 have hlc:=run_loadCells_list (P:=P) w a news hnews
 rw [hl] at hlc
 have hf:(Builtin.firstCells i.size m (.slice (some a) m c')).run P w=.ok news.toArray w:=by simp only [Builtin.firstCells];exact hlc
 simp [Builtin.append_,Zqr ht,Go.sizeOf,typeInfo,hi,Builtin.lenOf,hroom,hf,hst]
theorem Zcx (hs:Sim P γ s w) {o:Oper}{T es by_:Nat}{z:List AV}{x y:Operand}{a b:AO}{v:AV}{s':St}(hu:P.underlying T=some (.slice e)) (hes:A8 P e=some es) (hby:Ht P e=some by_) (hz:Ea P e=some z) (h1es:1≤es) (hbl:by_≤4096) (hzl:z.length=es)
 (hx:Af x=some a) (hy:Af y=some b) (ho:o.op=.call { callee:=.builtin .append,args:=#[x,y],argTypes:=#[T,T] }) (he:Evs γ t ρ [x,y]) (h:YC e es a b t s=.ok v s'):OpOk P γ s w ρ o v s':=by
 obtain ⟨u1,hu1,h⟩:=AF h
 obtain ⟨u2,hu2,h⟩:=AF h
 obtain ⟨cs,hsrc,h⟩:=AI h
 have h1:=he x (by simp) a u1 hx hu1
 have h2:=he y (by simp) b u2 hy hu2
 obtain ⟨q,m,c',news,hyv,hRn,h1n,hln,hqn,hcn⟩:=Zbh hs h2 hsrc
 obtain ⟨i,zv,hi,hzz,ha⟩:=IE hz
 obtain ⟨y1,y2⟩:=Gs (γ:=γ) ha
 have his:i.size=es:=by simp [A8,hi] at hes;exact hes
 have hib:i.bytes=by_:=by simp [Ht,hi] at hby;exact hby
 have hzs:zv.cells.size=es:=by rw [← hzl];simpa using y1.length.symm
 have hz1:∀ k,∀ v ∈ (Builtin.zeroCells zv.cells k).toList,v.oneCell'=true:=fun k=>(JM y1 y2 (by omega) k).2
 have hrunb:∀ {xv:Value}{r:Value}{w':World},ρ x=xv→(∀ ty,(Builtin.append_ #[T,T] ty #[xv,.slice q m c']).run P w=.ok r w')→(execOp ρ o).run P w=.ok (.value r) w':=by
  intro xv r w' e1 hr
  rw [DX ho]
  simp only [builtin,Zrx,Zrp,Zsb,e1,hyv,Zqj,hr,Zqc,Zqp]
 have hcl:=hRn.length
 cases cs with
 | nil=>
  have hm:m=0:=by
   have e0:news.length=0:=by simpa using hcl.symm
   rcases Nat.mul_eq_zero.1 (hln.symm.trans e0) with e|e <;> omega
  subst hm
  rcases Fm h with ⟨r,j,n,c,rfl,h⟩|⟨rfl,h⟩|⟨rfl,h⟩|⟨n,c,l0,rfl,h⟩
  rotate_right
  ·obtain ⟨rfl,rfl⟩:=Az h
   obtain ⟨bz,oz,cc,cz,zs,hxx,_,_,_,_,hnc,_,_⟩:=F5 h1
   exact Aw hs _ (hrunb hxx fun ty=>Lf hu hi _ _ _ _ _ hnc) (by rw [← hxx];exact h1)
  ·obtain ⟨rfl,rfl⟩:=Az h
   generalize hxx:ρ x=vx at h1
   have h1':=h1
   cases h1 with
   | sl _ _ _ c L hL hnc=>exact Aw hs _ (hrunb hxx fun ty=>Lf hu hi _ _ _ _ _ hnc) h1'
   | slu _ _ _ c L hL hnc=>exact Aw hs _ (hrunb hxx fun ty=>Lf hu hi _ _ _ _ _ hnc) h1'
  ·obtain ⟨rfl,rfl⟩:=Az h
   generalize hxx:ρ x=vx at h1
   cases h1
   exact Aw hs _ (hrunb hxx fun ty=>Lf hu hi _ _ _ _ _ (Zqu _)) .nils
  ·obtain ⟨rfl,rfl⟩:=Az h
   generalize hxx:ρ x=vx at h1
   cases h1 with
   | es ad c=>exact Aw hs _ (hrunb hxx fun ty=>Lf hu hi _ _ _ _ _ (Zqs _)) (.es _ _)
 | cons c0 cs0=>
  have hh:(SR.rec .fail (fun r o n c=>app1 e es (c0::cs0) (Nat.div (A6 (c0::cs0)) es) r o n c s) (Ct e (Nat.div (A6 (c0::cs0)) es) (c0::cs0) s) .fail (fun n c l=>YB e es (c0::cs0) (Nat.div (A6 (c0::cs0)) es) n c l s) (Bx u1):RV)=.ok v s':=h
  clear h
  have hcpos:1≤(c0::cs0).length:=by simp
  generalize c0::cs0=cs at *
  have hm0:1≤m:=by
   rcases Nat.eq_zero_or_pos m with e|e
   ·subst e;simp at hln;rw [hln] at hcl;simp at hcl;rw [hcl] at hcpos;simp at hcpos
   ·exact e
  obtain ⟨ad,rfl⟩:∃ ad,q=some ad:=by
   cases q with
   | none=>have:=hqn rfl;omega
   | some ad=>exact ⟨ad,rfl⟩
  have hcell:=hcn ad rfl
  have hlm:A6 cs / es=m:=by rw [CN,hcl,hln];exact Nat.mul_div_cancel _ (by omega)
  have hlm':Nat.div (A6 cs) es=m:=hlm
  rw [← his] at hln
  rw [hlm'] at hh
  -- a new array
  have grow:∀ (ad0:Addr) (n cc:Nat) (old:List AV) (olds:List Value),ρ x=.slice (some ad0) n cc→olds.length=n*i.size→(∀ j u,olds[j]?=some u→w.cell? (ad0.add j)=some u)→All2 (VR γ) old olds→(∀ v ∈ olds,v.oneCell'=true)→cc<n+m→n+m≤1000000→∀ s1,Sim P γ s1 w→Stp γ s w γ s1 w→FO (.row e (Ba old cs)) (fun r=>.sl r 0 (n+m) none) s1=.ok v s'→OpOk P γ s w ρ o v s':=by
   intro ad0 n cc old olds hxv e1' hco hRo h1o hlt hbm s1 hs1 hst1 hok
   obtain ⟨rfl,rfl⟩:=Az hok
   have hmb:(n+m)*i.bytes≤1000000*4096:=by rw [hib];exact Nat.mul_le_mul hbm hbl
   have hrun:=fun ty=>run_append_grow (P:=P) w T ty e i zv hu hi hzz ad0 n cc olds e1' hco ad m c' news hln hcell hlt (by omega) (growslice_fits hlt (by omega))
   have hRa:All2 (VR γ) (Ba old cs) (olds++news):=by rw [Db];exact hRo.append hRn
   obtain ⟨hst,hsim⟩:=Ql hs1.drew e (Ba old cs) (olds.toArray++news.toArray++Builtin.zeroCells zv.cells (grownCap w (n+m) cc e-(n+m))) (olds++news) es hes hRa
    (by intro u hu;rcases Zq1.1 hu with hu|hu;exact h1o u hu;exact h1n u hu)
    (fun k u hk=>by
      rw [Array.getElem?_append_left (by have:=(Zqa.1 hk).1;simpa using this)]
      simpa using hk) (by simp) (by
      intro u hu
      simp only [Array.toList_append,List.append_assoc,Zq1] at hu
      rcases hu with hu|hu|hu
      ·exact h1o u hu
      ·exact h1n u hu
      ·exact hz1 _ u hu)
   refine ⟨_,_,(hst1.trans Stp.drew).trans hst,hsim,.inl ⟨_,hrunb hxv hrun,?_⟩⟩
   refine .slu s1.next 0 (n+m) _ _ (B3 _ _ _) (grownCap_ge _ _ _ _) (grownCap_le_maxLen _ _ _ _ (by unfold maxLen;omega)) (fun _=>?_)
   have hge:=grownCap_ge w (n+m) cc e
   simp only [Array.size_append,List.size_toArray,size_zeroCells,hln,e1',his,hzs]
   rw [← Nat.add_mul,← Nat.add_mul]
   exact Nat.mul_le_mul_right _ (by omega)
  rcases Fm hh with ⟨r,j,n,c,rfl,hk⟩|⟨rfl,hk⟩|⟨rfl,hk⟩|⟨n,c,l0,rfl,hk⟩
  ·obtain ⟨old,hold,hk⟩:=AI hk
   obtain ⟨L,cc,hL,hxv,hck⟩:=Gc h1
   obtain ⟨olds,e1,hco,hRo,h1o⟩:=II hs hold hL
   have e1':olds.length=n*i.size:=by rw [his];exact e1
   have grow:=grow _ n cc old olds hxv e1' hco hRo h1o
   cases c with
   | some c=>
    have hcc:=hck c rfl
    subst hcc
    change (Bool.rec (Ct e (n+m) (Ba old cs) s) (FW (.sl r j (n+m) (some cc)) (storeAt r (j+n*es) cs s)) (Nat.ble (n+m) cc):RV)=.ok v s' at hk
    cases hb:Nat.ble (n+m) cc with
    | true=>
     rw [hb] at hk
     obtain ⟨hst,rfl⟩:=LH hk
     have hle:=Zqx hb
     obtain ⟨w',hrun,hstp,hsim⟩:=Lk hs hst hL hRn h1n
     refine ⟨γ,w',hstp,hsim,.inl ⟨_,hrunb hxv fun ty=>T5 hu hi ⟨L.b,L.o+j,none⟩ ad n cc m c' news hln hcell hle (by rw [DH,his,Zr6];exact hrun),.sl _ _ _ _ L hL hle⟩⟩
    | false=>
     rw [hb] at hk
     obtain ⟨hbd,hk⟩:=B5 hk
     have hnle:¬ (n+m≤cc):=fun e=>by rw [Zq0 e] at hb;cases hb
     exact grow (by omega) (Zqx hbd) s hs (.refl _ _ _) hk
   | none=>
    obtain ⟨hcond,hk1⟩:=B5 hk
    obtain ⟨hbd,hk2⟩:=B5 hk1
    have hbm:=Zqx hbd
    simp only [Zqb] at hcond
    have hj:=Zqf hcond.1
    by_cases hroom:n+m≤cc
    ·-- in its own array
     have hcs:cc*L.es≤L.sz∧cc≤maxLen:=by
      obtain ⟨L',c2,hL',hx2,_,hcm,hcs⟩:=sluV h1
      rw [hL] at hL';cases hL'
      rw [hxv] at hx2
      cases hx2
      exact ⟨hcs hj,hcm⟩
     have a1:old.length=n*es:=hRo.length.trans e1
     obtain ⟨rs,hrow⟩:∃ rs,s.get r=some (.row e rs):=by
      have he2:=hcond.2
      unfold Me at he2
      cases hra:Dc r s with
      | no=>rw [hra] at he2;cases he2
      | row e' rs=>
       rw [hra] at he2
       have:e'=e:=Zqf he2
       subst this
       exact ⟨rs,JF hra⟩
     obtain ⟨cur,hc,ho0,hsz,hes',hlen,hv,hall⟩:=hs.rowA hrow hL
     have hees:L.es=es:=by rw [hes] at hes';exact (Zrh hes').symm
     have hfit:n*es+news.length≤cur.size:=by
      rw [hln,his,← Nat.add_mul,hsz]
      refine Nat.le_trans (Nat.mul_le_mul_right _ hroom) ?_
      rw [← hees];exact hcs.1
     have hst:=run_storeCells_at (P:=P) L.b (n*es) e news 0 cur w hc (by omega) h1n
     simp only [Zri] at hst
     have hrun:=fun ty=>T5 (ty:=ty) hu hi ⟨L.b,L.o+j,none⟩ ad n cc m c' news hln hcell hroom (by rw [DH,ho0,hj,his,Zqo];exact hst)
     obtain ⟨rfl,rfl⟩:=Az hk2
     have hle2:=Fp (γ:=γ) (L:=L) (hs.nx s.next (Zqu _))
     obtain ⟨hstp,hsim⟩:=hs.move (w':=w.setRow L.b (cur.toList.take (n*es)++news++cur.toList.drop (n*es+news.length)).toArray) hrow hL rfl
      (o:=.row e (Ba old cs)) (fun b hb=>setRow_other w L.b b _ hb) (TP _ _ _) rfl rfl rfl (by
        refine ⟨_,setRow_heap w L.b cur _ e _ hc,ho0,?_,hes',?_,?_,fun v' hv'=>?_⟩
        rotate_right
        ·simp only [List.append_assoc,Zq1] at hv'
         rcases hv' with hv'|hv'|hv'
         ·exact hall _ (Zrg hv')
         ·exact h1n _ hv'
         ·exact hall _ (Zrl hv')
        ·simp;omega
        ·rw [Db,Zqn,a1]
         simp only [List.size_toArray,Zqn,Zqz,List.length_drop,Zr9]
         omega
        ·intro k u hku
         rw [Db] at hku
         obtain ⟨u',hu',hRu⟩:=(hRo.append hRn).get hku
         have hone:u'.oneCell'=true:=by
          rcases Zq1.1 (Zqv hu') with hm|hm
          ·exact h1o _ hm
          ·exact h1n _ hm
         refine ⟨u',?_,hRu.mono hle2,hone⟩
         rw [Zr4]
         by_cases hkn:k<n*es
         ·rw [Zqt (by rw [e1];exact hkn)] at hu'
          have hcu:=hco k u' hu'
          rw [DH,ho0,hj] at hcu
          simp [World.cell?,hc] at hcu
          rw [List.append_assoc,Zqt (by simp;omega),Zrm,Zqd hkn]
          simpa using hcu
         ·rw [Zq4 (by rw [e1];exact Nat.le_of_not_lt hkn),e1] at hu'
          have hkl:k-n*es<news.length:=(Zqa.1 hu').1
          have htl:(cur.toList.take (n*es)).length=n*es:=by rw [Zqz,Zr9];exact Nat.min_eq_left (by omega)
          rw [List.append_assoc,Zq4 (by rw [htl];omega),htl,Zqt hkl]
          exact hu')
     refine ⟨_,_,hstp,hsim,.inl ⟨_,hrunb hxv hrun,?_⟩⟩
     rw [hj]
     have hnx:(s.put r .dead).next=s.next:=Do _ _ _
     rw [hnx]
     exact .slu s.next 0 (n+m) cc L (B3 _ _ _) hroom hcs.2 (fun _=>hcs.1)
    ·obtain ⟨hq1,hq2⟩:=hs.kill (r:=r) (by assumption)
     exact grow (by omega) hbm _ hq2 hq1 hk2
  ·obtain ⟨hbound,hk⟩:=B5 hk
   obtain ⟨rfl,rfl⟩:=Az hk
   have hbm:=Zqx hbound
   generalize hxx:ρ x=vx at h1
   cases h1
   have hmb:m*i.bytes≤1000000*4096:=by rw [hib];exact Nat.mul_le_mul hbm hbl
   have hrun:=fun ty=>run_append_nil (P:=P) w T ty e i zv hu hi hzz ad m c' news hln hcell (by omega) (by omega) (by omega)
   obtain ⟨hst,hsim⟩:=Ql hs.drew e cs (news.toArray++Builtin.zeroCells zv.cells (grownCap w m 0 e-m)) news es hes hRn h1n
    (fun k u hk=>by rw [Array.getElem?_append_left (by have:=(Zqa.1 hk).1;simpa using this)];simpa using hk) (by simp) (by
      intro u hu
      simp only [Array.toList_append,Zq1] at hu
      rcases hu with hu|hu
      ·exact h1n u hu
      ·exact hz1 _ u hu)
   refine ⟨_,_,Stp.drew.trans hst,hsim,.inl ⟨_,hrunb hxx hrun,?_⟩⟩
   refine .slu s.next 0 m _ _ (B3 _ _ _) (grownCap_ge _ _ _ _) (grownCap_le_maxLen _ _ _ _ (by unfold maxLen;omega)) (fun _=>?_)
   have hge:=grownCap_ge w m 0 e
   simp only [Array.size_append,List.size_toArray,size_zeroCells,hln,his,hzs]
   rw [← Nat.add_mul]
   exact Nat.mul_le_mul_right _ (by omega)
  ·cases hk
  ·obtain ⟨c,rfl,hk⟩:=AI hk
   obtain ⟨bz,oz,cc,cz,zs,hxx,hbz,g1,g3,g4,hnc,hck,g5⟩:=F5 h1
   have hcc:=hck c rfl
   subst hcc
   change (Bool.rec (Option.rec .fail (fun old=>Ct e (n+m) (Ba old cs) s) (Bg (Nat.mul n es) l0)) .fail (Nat.ble (n+m) cc):RV)=.ok v s' at hk
   cases hb:Nat.ble (n+m) cc with
   | true=>rw [hb] at hk;cases hk
   | false=>
    rw [hb] at hk
    obtain ⟨old,hold,hk⟩:=AI hk
    obtain ⟨olds,e1,g2,hRo,h1o⟩:=HX (k:=0) hs hbz g1 g3 g4 hold
    rw [Zri] at g2
    obtain ⟨hbd,hk⟩:=B5 hk
    have hnle:¬ (n+m≤cc):=fun e=>by rw [Zq0 e] at hb;cases hb
    exact grow _ n cc old olds hxx (by rw [his];exact e1) (JP hs hbz g2) hRo h1o (by omega) (Zqx hbd) s hs (.refl _ _ _) hk
end
end Go.AM
namespace Go.AM
section
variable {P:Program}{γ:Gam}{s:St}{w:World}{t:AT}{ρ:Operand→Value}
abbrev EntR (γ:Gam) (x:AV×AV×Nat) (m:MapEntry):Prop:=VR γ x.1 m.key∧VR γ x.2.1 m.val∧m.born=x.2.2
theorem Un {a b:AV}{c:Bool}(h:ET a b=some c):∃ k x y,a=.int k x∧b=.int k y∧c=(x == y):=by
 unfold ET at h
 split at h
 ·rename_i k x k' y
  cases hk:Cd k k' with
  | false=>rw [hk] at h;cases h
  | true=>rw [hk] at h;cases h;cases Lx hk;exact ⟨k,x,y,rfl,rfl,FI _ _⟩
 ·cases h
variable {kk:IntKind}{k:AV}{k':Value}
theorem Qy (hk:VR γ k k'):∀ {es:List (AV×AV×Nat)}{ms:List MapEntry}(i:Nat),All2 (EntR γ) es ms→CF k es=some none→Instr.findNow (.int kk) k' ms i=some none:=by
 intro es
 induction es with
 | nil=>intro ms i h _;cases h;rfl
 | cons x es ih=>
  intro ms i h hf
  cases h with
  | @cons _ m _ ms' h1 h2=>
   obtain ⟨xk,xv,xb⟩:=x
   simp only [CF] at hf
   cases he:ET k xk with
   | none=>rw [he] at hf;cases hf
   | some c=>
    rw [he] at hf
    obtain ⟨q,a,b,rfl,rfl,hc⟩:=Un he
    have e1:=AK hk
    have e2:=AK h1.1
    cases c with
    | true=>cases hf
    | false=>
     simp only [Instr.findNow,e1,e2,Instr.sameNow,if_true,← hc]
     rw [← e1];exact ih (i+1) h2 hf
variable {v:AV}
theorem Qx (hk:VR γ k k'):∀ {es:List (AV×AV×Nat)}{ms:List MapEntry}(i:Nat),All2 (EntR γ) es ms→CF k es=some (some v)→
 ∃ j m,Instr.findNow (.int kk) k' ms i=some (some (i+j,m.val))∧ms[j]?=some m∧m.key=k'∧(∃ q a,k'=.int q a)∧VR γ v m.val∧
  (∀ x x' ,VR γ x x'→All2 (EntR γ) (Hk k x es) (ms.set j { m with key:=k',val:=x' }))∧All2 (EntR γ) (EY k es) (ms.eraseIdx j):=by
 intro es
 induction es with
 | nil=>intro ms i _ hf;cases hf
 | cons x es ih=>
  intro ms i h hf
  cases h with
  | @cons _ m _ ms' h1 h2=>
   obtain ⟨xk,xv,xb⟩:=x
   simp only [CF] at hf
   cases he:ET k xk with
   | none=>rw [he] at hf;cases hf
   | some c=>
    rw [he] at hf
    obtain ⟨q,a,b,rfl,rfl,hc⟩:=Un he
    have e1:=AK hk
    have e2:=AK h1.1
    cases c with
    | true=>
     cases hf
     have hab:a=b:=by simpa using hc.symm
     subst hab
     refine ⟨0,m,?_,by simp,by rw [e1,e2],⟨q,a,e1⟩,h1.2.1,?_,?_⟩
     ·simp [Instr.findNow,e1,e2,Instr.sameNow]
     ·intro x x' hx
      simp only [Hk,he,List.set_cons_zero]
      exact .cons ⟨hk,hx,h1.2.2⟩ h2
     ·simp only [EY,he,List.eraseIdx_cons_zero];exact h2
    | false=>
     obtain ⟨j,m',r1,r2,r3,r4,r5,r6,r7⟩:=ih (i+1) h2 hf
     refine ⟨j+1,m',?_,by simpa using r2,r3,r4,r5,?_,?_⟩
     ·simp only [Instr.findNow,e1,e2,Instr.sameNow,if_true,← hc]
      rw [← e1,r1]
      congr 3
      omega
     ·intro x x' hx
      simp only [Hk,he,List.set_cons_succ]
      exact .cons h1 (r6 x x' hx)
     ·simp only [EY,he,List.eraseIdx_cons_succ]
      exact .cons h1 r7
variable {r c:Nat}
theorem HF {es:List (AV×AV×Nat)}(h:mapAt r s=some (es,c)):s.get r=some (.map es c):=by
 unfold mapAt at h
 cases hg:s.get r with
 | none=>rw [hg] at h;cases h
 | some o=>rw [hg] at h;cases o <;> first|(cases h;rfl)|cases h
variable {kt:Nat}
theorem ID (hu:P.underlying kt=some (.int kk)) (b:Bool) (v:Value):(Instr.checkKey b 10000 kt v).run P w=.ok () w:=by
 show (Instr.checkKey b (9999+1) kt v).run P w=_
 unfold Instr.checkKey
 simp only [Zqj,Zqr hu,Zqc]
 rfl
theorem IF (hu:P.underlying kt=some (.int kk)) {k:Value}{ms:List MapEntry}{r:Option (Nat×Value)}(h:Instr.findNow (.int kk) k ms 0=some r):(Instr.findKey kt k ms).run P w=.ok r w:=by
 simp only [Instr.findKey,Zqj,Zqr hu,Zqc,h,Zqp]
variable {ms:Array MapEntry}
theorem HB (h:w.heap[r]?=some (.map ms c)):(getObj r).run P w=.ok (.map ms c) w:=by
 simp [getObj,Sem.run,h]
theorem Li (o:Obj) (h:w.heap[r]?=some (.map ms c)):(setObj r o).run P w=.ok () { w with heap:=w.heap.setIfInBounds r o }:=by
 simp [setObj,Sem.run,h]
theorem LE (hs:Sim P γ s w) {L:Loc}{x o:AObj}{O:Obj}(hx:s.get r=some x) (hL:γ r=some L) (ha:BC x=true) (ho:ObjR P γ L o (w.heap.setIfInBounds L.b O)):
 Stp γ s w γ (s.put r o) { w with heap:=w.heap.setIfInBounds L.b O }∧Sim P γ (s.put r o) { w with heap:=w.heap.setIfInBounds L.b O }:=
 hs.turn hx hL ha (fun b hb=>by show (w.heap.setIfInBounds L.b O)[b]?=_;rw [Zrn,Zqh (fun e=>hb e.symm)]) (by simp) rfl rfl rfl ho
variable {o:Oper}{ty:Nat}{s':St}
theorem Zs (ho:o.op=.makeMap ty none) (h:WP t s=.ok v s'):Fresh P γ w ρ o s v s':=by
 obtain ⟨rfl,rfl⟩:=Az h
 refine ⟨.map [] 0,.map,.map #[] 0,0,0,.map (some w.heap.size),rfl,rfl,?_,fun γ' r hle hr=>⟨⟨#[],by show (w.heap.push _)[w.heap.size]?=_;simp,.nil⟩,.map r _ hr⟩⟩
 simp only [execOp,ho,Instr.makeMap,Option.map_none,Zqj,HP,Zqc,Zqp]
variable {e:Nat}{x:Operand}{a:AO}
theorem ZV (hs:Sim P γ s w) {T:Nat}(hu:P.underlying T=some (.map kt e)) (hx:Af x=some a) (ho:o.op=.call { callee:=.builtin .len,args:=#[x],argTypes:=#[T] }) (he:Evs γ t ρ [x])
 (h:X4 a t s=.ok v s'):OpOk P γ s w ρ o v s':=by
 obtain ⟨u,hu',h⟩:=AF h
 have hv:=he x (by simp) a u hx hu'
 rcases Kl h with ⟨r,rfl,hk⟩|⟨rfl,hk⟩
 ·obtain ⟨⟨es,c⟩,hm,hk⟩:=AI hk
  obtain ⟨rfl,rfl⟩:=Az hk
  generalize hxx:ρ x=vx at hv
  cases hv with
  | map _ L hL=>
   obtain ⟨ms,hms,hR⟩:=hs.obj r _ L (HF hm) hL
   refine Aw hs (.int .i64 ms.size) ?_ ?_
   ·rw [DX ho]
    have hl:∀ ty,(Builtin.len_ #[T] ty #[.map (some L.b)]).run P w=.ok (goInt ms.size) w:=fun ty=>by simp [Builtin.len_,Zqr hu,HB hms]
    simp only [builtin,Zrx,Zrp,Zsb,hxx,Zqj,hl,Zqc,Zqp]
    rfl
   ·have:=hR.length
    simp at this
    rw [CN,this];exact .int _ _
 ·obtain ⟨rfl,rfl⟩:=Az hk
  generalize hxx:ρ x=vx at hv
  cases hv
  refine Aw hs (.int .i64 (0:Nat)) ?_ (.int _ _)
  rw [DX ho]
  have hl:∀ ty,(Builtin.len_ #[T] ty #[.map none]).run P w=.ok (goInt (0:Nat)) w:=fun ty=>by simp [Builtin.len_,Zqr hu]
  simp only [builtin,Zrx,Zrp,Zsb,hxx,Zqj,hl,Zqc,Zqp]
  rfl
theorem YX (q:IntKind) (a:Int):Instr.sameBits 10000 (.int q a) (.int q a)=true:=by simp [Instr.sameBits]
variable {y:Operand}{b:AO}
theorem Ui (hs:Sim P γ s w) {z:Operand}{c:AO}(hd:o.dst=none) (hu:P.underlying ty=some (.map kt e)) (hku:P.underlying kt=some (.int kk)) (hx:Af x=some a) (hy:Af y=some b) (hz:Af z=some c)
 (ho:o.op=.mapUpdate ty x y z∨o.op=.insert ty x y z) (he:Evs γ t ρ [x,y,z]) (h:Xy a b c t s=.ok v s'):OpOk P γ s w ρ o v s':=by
 obtain ⟨u1,hu1,h⟩:=AF h
 obtain ⟨u2,hu2,h⟩:=AF h
 obtain ⟨u3,hu3,h⟩:=AF h
 have h1:=he x (by simp) a u1 hx hu1
 have h2:=he y (by simp) b u2 hy hu2
 have h3:=he z (by simp) c u3 hz hu3
 rcases Kl h with ⟨r,rfl,hk⟩|⟨rfl,hk⟩
 ·obtain ⟨⟨es,cl⟩,hm,hk⟩:=AI hk
  obtain ⟨f,hf,hk⟩:=AI hk
  have hg:=HF hm
  obtain ⟨L,hL,hxv⟩:∃ L,γ r=some L∧ρ x=.map (some L.b):=by
   generalize ρ x=vx at h1
   cases h1 with
   | map _ L hL=>exact ⟨L,hL,rfl⟩
  obtain ⟨ms,hms,hR⟩:=hs.obj r _ L hg hL
  have hlt:=hs.lt r L hL
  cases f with
  | none=>
   obtain ⟨rfl,rfl⟩:=Az hk
   have hfn:=Qy (kk:=kk) h2 0 hR hf
   obtain ⟨hst,hsim⟩:=LE (O:=.map (ms.push { key:=ρ y,val:=ρ z,born:=cl }) (cl+1)) (o:=.map (Ba es [(u2,u3,cl)]) (cl+1)) hs hg hL rfl
    ⟨_,by rw [Zrn,Zqd rfl,Zqd hlt],by rw [Db,Array.toList_push];exact hR.append (.cons ⟨h2,h3,rfl⟩ .nil)⟩
   refine ⟨γ,_,hst,hsim,.inr ⟨?_,hd⟩⟩
   rcases ho with ho|ho <;>
    simp only [execOp,ho,Instr.mapUpdate,Zqj,Zqr hu,Zqc,hxv,HB hms,ID hku,IF hku hfn,Li _ hms,Zqp]
  | some w0=>
   obtain ⟨rfl,rfl⟩:=Az hk
   obtain ⟨j,m,r1,r2,r3,⟨q,n,r4⟩,r5,r6,r7⟩:=Qx (kk:=kk) h2 0 hR hf
   rw [Zqo] at r1
   have hjl:j<ms.size:=by have:=(Zqa.1 r2).1;simpa using this
   have hjm:ms[j]?=some m:=by simpa using r2
   obtain ⟨hst,hsim⟩:=LE (O:=.map (ms.modify j fun e=>{ e with key:=ρ y,val:=ρ z }) cl) (o:=.map (Hk u2 u3 es) cl) hs hg hL rfl
    ⟨_,by rw [Zrn,Zqd rfl,Zqd hlt],by
      have e1:(ms.modify j fun e=>{ e with key:=ρ y,val:=ρ z }).toList=ms.toList.set j { m with key:=ρ y,val:=ρ z }:=by
       apply List.ext_getElem?
       intro k
       rw [Array.getElem?_toList,Array.getElem?_modify,List.getElem?_set]
       by_cases hjk:j=k
       ·subst hjk
        have hmj:ms[j]=m:=by
         have h0:=hjm
         rw [Array.getElem?_eq_getElem hjl] at h0
         exact Zrh h0
        simp [hjl,hmj]
       ·simp [hjk]
      rw [e1];exact r6 _ _ h3⟩
   refine ⟨γ,_,hst,hsim,.inr ⟨?_,hd⟩⟩
   have hks:(Instr.keyThatStays (((ms[j]?).map (·.key)).getD (ρ y)) (ρ y)).run P w=.ok (ρ y) w:=by
    simp only [hjm,Option.map_some,Option.getD_some,r3,Instr.keyThatStays,r4,YX,if_true,Zqp]
   rcases ho with ho|ho <;>
    simp only [execOp,ho,Instr.mapUpdate,Zqj,Zqr hu,Zqc,hxv,HB hms,ID hku,IF hku r1,hks,Li _ hms,Zqp]
 ·cases hk
theorem ZQ (hs:Sim P γ s w) {i:TypeInfo}{zv:Value}{z:AV}{ok:Bool}(hu:P.underlying ty=some (.map kt e)) (hku:P.underlying kt=some (.int kk)) (hi:P.info? e=some i) (hzz:i.zero=some zv) (hz:Lb zv=some z)
 (hx:Af x=some a) (hy:Af y=some b) (ho:o.op=.lookup ty x y ok) (he:Evs γ t ρ [x,y]) (h:X0 z ok a b t s=.ok v s'):OpOk P γ s w ρ o v s':=by
 obtain ⟨u1,hu1,h⟩:=AF h
 obtain ⟨u2,hu2,h⟩:=AF h
 have h1:=he x (by simp) a u1 hx hu1
 have h2:=he y (by simp) b u2 hy hu2
 have hzR:=(RQ (γ:=γ) hz).1
 rcases Kl h with ⟨r,rfl,hk⟩|⟨rfl,hk⟩
 ·obtain ⟨⟨es,cl⟩,hm,hk⟩:=AI hk
  obtain ⟨f,hf,hk⟩:=AI hk
  have hg:=HF hm
  obtain ⟨L,hL,hxv⟩:∃ L,γ r=some L∧ρ x=.map (some L.b):=by
   generalize ρ x=vx at h1
   cases h1 with
   | map _ L hL=>exact ⟨L,hL,rfl⟩
  obtain ⟨ms,hms,hR⟩:=hs.obj r _ L hg hL
  cases f with
  | none=>
   obtain ⟨rfl,rfl⟩:=Az hk
   have hfn:=Qy (kk:=kk) h2 0 hR hf
   refine Aw hs (if ok then .tuple #[zv,.bool false] else zv) ?_ ?_
   ·simp only [execOp,ho,Instr.lookup,Zqj,Zqr hu,Zqc,hxv,HB hms,Zqp,ID hku,IF hku hfn,GD hi hzz]
   ·cases ok
    ·exact hzR
    ·exact .tup _ _ (.cons hzR (.cons (.bool _) .nil))
  | some w0=>
   obtain ⟨rfl,rfl⟩:=Az hk
   obtain ⟨j,m,r1,r2,r3,_,r5,_,_⟩:=Qx (kk:=kk) h2 0 hR hf
   refine Aw hs (if ok then .tuple #[m.val,.bool true] else m.val) ?_ ?_
   ·simp only [execOp,ho,Instr.lookup,Zqj,Zqr hu,Zqc,hxv,HB hms,Zqp,ID hku,IF hku r1]
   ·cases ok
    ·exact r5
    ·exact .tup _ _ (.cons r5 (.cons (.bool _) .nil))
 ·obtain ⟨rfl,rfl⟩:=Az hk
  generalize hxx:ρ x=vx at h1
  cases h1
  refine Aw hs (if ok then .tuple #[zv,.bool false] else zv) ?_ ?_
  ·have hfn:Instr.findNow (.int kk) (ρ y) [] 0=some none:=rfl
   simp only [execOp,ho,Instr.lookup,Zqj,Zqr hu,Zqc,hxx,Zqp,ID hku,IF hku hfn,GD hi hzz]
  ·cases ok
   ·exact hzR
   ·exact .tup _ _ (.cons hzR (.cons (.bool _) .nil))
theorem ZR (hs:Sim P γ s w) {T U:Nat}(hu:P.underlying T=some (.map kt e)) (hku:P.underlying kt=some (.int kk)) (hx:Af x=some a) (hy:Af y=some b)
 (ho:o.op=.call { callee:=.builtin .delete,args:=#[x,y],argTypes:=#[T,U] }) (he:Evs γ t ρ [x,y]) (h:X1 a b t s=.ok v s'):OpOk P γ s w ρ o v s':=by
 obtain ⟨u1,hu1,h⟩:=AF h
 obtain ⟨u2,hu2,h⟩:=AF h
 have h1:=he x (by simp) a u1 hx hu1
 have h2:=he y (by simp) b u2 hy hu2
 rcases Kl h with ⟨r,rfl,hk⟩|⟨rfl,hk⟩
 ·obtain ⟨⟨es,cl⟩,hm,hk⟩:=AI hk
  obtain ⟨f,hf,hk⟩:=AI hk
  obtain ⟨rfl,rfl⟩:=Az hk
  have hg:=HF hm
  obtain ⟨L,hL,hxv⟩:∃ L,γ r=some L∧ρ x=.map (some L.b):=by
   generalize ρ x=vx at h1
   cases h1 with
   | map _ L hL=>exact ⟨L,hL,rfl⟩
  obtain ⟨ms,hms,hR⟩:=hs.obj r _ L hg hL
  have hlt:=hs.lt r L hL
  have fin:∀ (ms':Array MapEntry),All2 (EntR γ) (EY u2 es) ms'.toList→(∀ ty,(Builtin.delete_ #[T,U] ty #[.map (some L.b),ρ y]).run P w=.ok (.tuple #[]) { w with heap:=w.heap.setIfInBounds L.b (.map ms' cl) })→OpOk P γ s w ρ o (.tup []) (s.put r (.map (EY u2 es) cl)):=by
   intro ms' hR' hrun
   obtain ⟨hst,hsim⟩:=LE (O:=.map ms' cl) (o:=.map (EY u2 es) cl) hs hg hL rfl ⟨_,by rw [Zrn,Zqd rfl,Zqd hlt],hR'⟩
   refine ⟨γ,_,hst,hsim,.inl ⟨.tuple #[],?_,.tup _ _ .nil⟩⟩
   rw [DX ho]
   simp only [builtin,Zrx,Zrp,Zsb,hxv,Zqj,hrun,Zqc,Zqp]
  cases f with
  | none=>
   have hfn:=Qy (kk:=kk) h2 0 hR hf
   have hdel:∀ {es:List (AV×AV×Nat)},CF u2 es=some none→EY u2 es=es:=by
    intro es
    induction es with
    | nil=>intro _;rfl
    | cons x es ih=>
     intro hf
     obtain ⟨xk,xv,xb⟩:=x
     simp only [CF] at hf
     simp only [EY]
     cases he:ET u2 xk with
     | none=>rw [he] at hf;cases hf
     | some c=>cases c with
      | true=>rw [he] at hf;cases hf
      | false=>rw [he] at hf;simp [ih hf]
   refine fin ms (by rw [hdel hf];exact hR) fun ty=>?_
   simp only [Builtin.delete_,Zr4,List.getElem?_cons_zero,List.getElem?_cons_succ,Zqj,Zqr hu,Zqc,HB hms,ID hku,IF hku hfn,Li _ hms,Zqp]
  | some w0=>
   obtain ⟨j,m,r1,r2,r3,_,r5,_,r7⟩:=Qx (kk:=kk) h2 0 hR hf
   rw [Zqo] at r1
   refine fin (ms.eraseIdxIfInBounds j) (by simpa using r7) fun ty=>?_
   simp only [Builtin.delete_,Zr4,List.getElem?_cons_zero,List.getElem?_cons_succ,Zqj,Zqr hu,Zqc,HB hms,ID hku,IF hku r1,Li _ hms,Zqp]
 ·cases hk
end
end Go.AM
namespace Go.AM
section
variable {P:Program}{γ:Gam}{s:St}{w:World}{t:AT}{ρ:Operand→Value}
variable {o:Oper}{e:Nat}{x:Operand}{a:AO}{v:AV}{s':St}
theorem Zco (hs:Sim P γ s w) {T:Nat}(hu:P.underlying T=some (.slice e)) (hx:Af x=some a) (ho:o.op=.call { callee:=.builtin .cap,args:=#[x],argTypes:=#[T] }) (he:Evs γ t ρ [x])
 (h:Y6 a t s=.ok v s'):OpOk P γ s w ρ o v s':=by
 obtain ⟨u,hu',h⟩:=AF h
 have hv:=he x (by simp) a u hx hu'
 rcases Fm h with ⟨r,i,n,c,rfl,h⟩|⟨rfl,h⟩|⟨rfl,h⟩|⟨n,c,l0,rfl,h⟩
 rotate_right
 ·obtain ⟨c,rfl,h⟩:=AI h
  obtain ⟨rfl,rfl⟩:=Az h
  obtain ⟨bz,oz,cc,cz,zs,hval,_,_,_,_,_,hck,_⟩:=F5 hv
  have:=hck c rfl
  subst this
  refine Aw hs (.int .i64 cc) ?_ (.int _ _)
  rw [DX ho]
  have hl:∀ ty,(Builtin.cap_ #[T] ty #[.slice (some ⟨bz,oz,none⟩) n cc]).run P w=.ok (goInt cc) w:=fun ty=>by simp [Builtin.cap_,Zqr hu]
  simp only [builtin,Zrx,Zrp,Zsb,hval,Zqj,hl,Zqc,Zqp]
  rfl
 ·obtain ⟨c,rfl,h⟩:=AI h
  obtain ⟨rfl,rfl⟩:=Az h
  obtain ⟨L,cc,hL,hval,hcc⟩:=Gc hv
  have:=hcc c rfl
  subst this
  refine Aw hs (.int .i64 cc) ?_ (.int _ _)
  rw [DX ho]
  have hl:∀ ty,(Builtin.cap_ #[T] ty #[.slice (some ⟨L.b,L.o+i,none⟩) n cc]).run P w=.ok (goInt cc) w:=fun ty=>by simp [Builtin.cap_,Zqr hu]
  simp only [builtin,Zrx,Zrp,Zsb,hval,Zqj,hl,Zqc,Zqp]
  rfl
 ·cases h
 ·cases h
theorem Wm (h:Jz v=true):v=.ez:=by
 cases v <;> first|rfl|cases h
theorem Zaq (hs:Sim P γ s w) {T U es by_:Nat}{kn:IntKind}{z:List AV}{y:Operand}{b:AO}(hu:P.underlying T=some (.slice e)) (hU:P.underlying U=some (.int kn)) (hes:A8 P e=some es) (hby:Ht P e=some by_) (hz:Ea P e=some z) (h1es:1≤es) (hbl:by_≤4096) (hzl:z.length=es)
 (hx:Af x=some a) (hy:Af y=some b) (ho:o.op=.call { callee:=.builtin .append,args:=#[x,y],argTypes:=#[T,U] }) (he:Evs γ t ρ [x,y]) (h:XM e es z a b t s=.ok v s'):OpOk P γ s w ρ o v s':=by
 obtain ⟨u1,hu1,h⟩:=AF h
 obtain ⟨u2,hu2,h⟩:=AF h
 have h1:=he x (by simp) a u1 hx hu1
 have h2:=he y (by simp) b u2 hy hu2
 obtain ⟨k,hk,h⟩:=C2 h
 obtain ⟨kk,rfl⟩:=IN hk
 obtain ⟨i,zv,hi,hzz,ha⟩:=IE hz
 obtain ⟨y1,y2⟩:=Gs (γ:=γ) ha
 have his:i.size=es:=by simp [A8,hi] at hes;exact hes
 have hib:i.bytes=by_:=by simp [Ht,hi] at hby;exact hby
 have hzs:zv.cells.size=es:=by rw [← hzl];simpa using y1.length.symm
 have hkv:ρ y=.int kk k:=by generalize ρ y=q at h2;cases h2;rfl
 have hrunb:∀ {xv:Value}{r:Value}{w':World},ρ x=xv→(∀ ty,(Builtin.append_ #[T,U] ty #[xv,.int kk k]).run P w=.ok r w')→(execOp ρ o).run P w=.ok (.value r) w':=by
  intro xv r w' e1 hr
  rw [DX ho]
  simp only [builtin,Zrx,Zrp,Zsb,e1,hkv,Zqj,hr,Zqc,Zqp]
 have key:∀ (base:Option Addr) (n cc:Nat) (old:List AV) (olds:List Value),ρ x=.slice base n cc→All2 (VR γ) old olds→(∀ v ∈ olds,v.oneCell'=true)→olds.length=n*i.size→(Builtin.firstCells i.size n (.slice base n cc)).run P w.drew=.ok olds.toArray w.drew→¬ (n+k≤cc)→0<k→Ct e (n+k) (Ba old (Bp z k)) s=.ok v s'→OpOk P γ s w ρ o v s':=by
  intro base n cc old olds hxv hRo h1o e1' hold' hnle hkp h
  obtain ⟨hbd,h⟩:=B5 h
  have hbm:=Zqx hbd
  obtain ⟨rfl,rfl⟩:=Az h
  obtain ⟨q1,q2⟩:=JM y1 y2 (by omega) k
  have hzc:Builtin.zeroCells zv.cells k=(Array.range (k*zv.cells.size)).map (fun i=>zv.cells[i % zv.cells.size]!):=rfl
  rw [← hzc] at q1 q2
  have hmb:(n+k)*i.bytes≤1000000*4096:=by rw [hib];exact Nat.mul_le_mul hbm hbl
  have hmb':k*i.bytes≤1000000*4096:=by rw [hib];exact Nat.mul_le_mul (by omega) hbl
  have hrun:=fun ty=>Lib.run_append_grow_zeros (P:=P) w T U ty e i zv kk kn hu hU hi hzz base n cc olds hold' k hkp (by omega) (by omega) (by omega) (by omega) (growslice_fits (by omega) (by omega))
  have hRa:All2 (VR γ) (Ba old (Bp z k)) (olds++(Builtin.zeroCells zv.cells k).toList):=by rw [Db,R5];exact hRo.append q1
  obtain ⟨hst,hsim⟩:=Ql hs.drew e (Ba old (Bp z k)) (olds.toArray++Builtin.zeroCells zv.cells k++Builtin.zeroCells zv.cells (grownCap w (n+k) cc e-(n+k))) (olds++(Builtin.zeroCells zv.cells k).toList) es hes hRa
   (by intro u hu;rcases Zq1.1 hu with hu|hu;exact h1o u hu;exact q2 u hu)
   (fun j u hj=>by
     rw [Array.getElem?_append_left (by have:=(Zqa.1 hj).1;simpa using this)]
     rw [← Array.getElem?_toList];simpa using hj) (by simp) (by
      intro u hu
      simp only [Array.toList_append,List.append_assoc,Zq1] at hu
      rcases hu with hu|hu|hu
      ·exact h1o u hu
      ·exact q2 u hu
      ·exact (JM y1 y2 (by omega) _).2 u hu)
  refine ⟨_,_,(Stp.drew).trans hst,hsim,.inl ⟨.slice (some ⟨w.heap.size,0,none⟩) (n+k) (grownCap w (n+k) cc e),hrunb hxv hrun,?_⟩⟩
  refine .slu s.next 0 (n+k) _ _ (B3 _ _ _) (grownCap_ge _ _ _ _) (grownCap_le_maxLen _ _ _ _ (by unfold maxLen;omega)) (fun _=>?_)
  have hge:=grownCap_ge w (n+k) cc e
  simp only [Array.size_append,List.size_toArray,size_zeroCells,e1',his,hzs]
  rw [← Nat.add_mul,← Nat.add_mul]
  exact Nat.mul_le_mul_right _ (by omega)
 have h:(Bool.rec (Bool.rec (SR.rec .fail (fun r o n cap=>Option.rec .fail (fun old=>
  Option.rec .fail (fun c=>Bool.rec (gd (Nat.blt 0 k) (Ct e (n+k) (Ba old (Bp z k)) s)) .fail (Nat.ble (n+k) c)) cap) (load r o (Nat.mul n es) s)) (Ct e k (Bp z k) s) .fail
  (fun n cap l=>Option.rec .fail (fun c=>Bool.rec (Option.rec .fail (fun old=>Ct e (n+k) (Ba old (Bp z k)) s) (Bg (Nat.mul n es) l)) .fail (Nat.ble (n+k) c)) cap) (Bx u1)) (Ct e k (Bp z k) s) (Jz u1))
  (Bool.rec (SR.rec .fail (fun r o n c=>.ok (.sl r o n c) s) (.ok .nils s) (.ok .es s) (fun n c l=>.ok (.fz n c l) s) (Bx u1)) (.ok .es s) (Jz u1)) (Nat.beq k 0):RV)=.ok v s':=h
 cases hb0:Nat.beq k 0 with
 | true=>
  rw [hb0] at h
  have hk0:=Zqf hb0
  subst hk0
  have hw0:IntKind.i64.wrap 0=0:=by rw [IntKind.wrap_i64];decide
  have hrun0:∀ (p:Option Addr) (n c:Nat),n≤c→∀ ty,(Builtin.append_ #[T,U] ty #[.slice p n c,.int kk (0:Nat)]).run P w=.ok (.slice p n c) w:=fun p n c hnc ty=>by
   cases p <;> simp [Builtin.append_,Zqr hu,Zqr hU,sizeOf,typeInfo,hi,Go.asInt,Go.asIntOf,hw0,hnc,storeCells]
  cases hez:Jz u1 with
  | true=>
   rw [hez] at h
   obtain ⟨rfl,rfl⟩:=Az h
   have:=Wm hez
   subst this
   generalize hxx:ρ x=vx at h1
   cases h1 with
   | ez ad=>exact Aw hs _ (hrunb hxx (hrun0 _ _ _ (Zqu _))) (.es _ _)
  | false=>
   rw [hez] at h
   rcases Fm h with ⟨r,j,n,c,rfl,h⟩|⟨rfl,h⟩|⟨rfl,h⟩|⟨n,c,l0,rfl,h⟩
   ·obtain ⟨rfl,rfl⟩:=Az h
    generalize hxx:ρ x=vx at h1
    have h1':=h1
    cases h1 with
    | sl _ _ _ c L hL hnc=>exact Aw hs _ (hrunb hxx (hrun0 _ _ _ hnc)) h1'
    | slu _ _ _ c L hL hnc=>exact Aw hs _ (hrunb hxx (hrun0 _ _ _ hnc)) h1'
   ·obtain ⟨rfl,rfl⟩:=Az h
    generalize hxx:ρ x=vx at h1
    cases h1
    exact Aw hs _ (hrunb hxx (hrun0 _ _ _ (Zqu _))) .nils
   ·obtain ⟨rfl,rfl⟩:=Az h
    generalize hxx:ρ x=vx at h1
    cases h1 with
    | es ad c=>exact Aw hs _ (hrunb hxx (hrun0 _ _ _ (Zqs _))) (.es _ _)
   ·obtain ⟨rfl,rfl⟩:=Az h
    obtain ⟨bz,oz,cc,cz,zs,hxx,_,_,_,_,hnc,_,_⟩:=F5 h1
    exact Aw hs _ (hrunb hxx (hrun0 _ _ _ hnc)) (by rw [← hxx];exact h1)
 | false=>
  rw [hb0] at h
  have hkp:0<k:=by
   rcases Nat.eq_zero_or_pos k with e|e
   ·subst e;cases hb0
   ·exact e
  have hf0:∀ p:Option Addr,(Builtin.firstCells i.size 0 (.slice p 0 0)).run P w.drew=.ok (([]:List Value).toArray) w.drew:=fun p=>by cases p <;> simp [Builtin.firstCells,loadCells,loadCellsFrom]
  cases hez:Jz u1 with
  | true=>
   rw [hez] at h
   have:=Wm hez
   subst this
   generalize hxx:ρ x=vx at h1
   cases h1 with
   | ez ad=>exact key (some ad) 0 0 [] [] hxx .nil (by simp) (by simp) (hf0 _) (by omega) hkp (by rw [Zqo];exact h)
  | false=>
   rw [hez] at h
   rcases Fm h with ⟨r,j,n,c,rfl,h⟩|⟨rfl,h⟩|⟨rfl,h⟩|⟨n,c,l0,rfl,h⟩
   ·obtain ⟨old,hold,h⟩:=AI h
    obtain ⟨c,rfl,h⟩:=AI h
    obtain ⟨L,cc,hL,hxv,hck⟩:=Gc h1
    have hcc:=hck c rfl
    subst hcc
    obtain ⟨olds,e1,hco,hRo,h1o⟩:=II hs hold hL
    have e1':olds.length=n*i.size:=by rw [his];exact e1
    change (Bool.rec (gd (Nat.blt 0 k) (Ct e (n+k) (Ba old (Bp z k)) s)) .fail (Nat.ble (n+k) cc):RV)=.ok v s' at h
    cases hb:Nat.ble (n+k) cc with
    | true=>rw [hb] at h;cases h
    | false=>
     rw [hb] at h
     obtain ⟨_,h⟩:=B5 h
     have hnle:¬ (n+k≤cc):=fun e=>by rw [Zq0 e] at hb;cases hb
     exact key _ n cc old olds hxv hRo h1o e1' (run_firstCells_some w.drew i.size n ⟨L.b,L.o+j,none⟩ n cc olds e1' (fun jj u hj=>hco jj u hj)) hnle hkp h
   ·generalize hxx:ρ x=vx at h1
    cases h1
    exact key none 0 0 [] [] hxx .nil (by simp) (by simp) (hf0 _) (by omega) hkp (by rw [Zqo];exact h)
   ·cases h
   ·obtain ⟨c,rfl,h⟩:=AI h
    obtain ⟨b,oz,cc,cz,zs,hxx,hbz,h2',h3',h4',hnc,hck,h5'⟩:=F5 h1
    have hcc:=hck c rfl
    subst hcc
    change (Bool.rec (Option.rec .fail (fun old=>Ct e (n+k) (Ba old (Bp z k)) s) (Bg (Nat.mul n es) l0)) .fail (Nat.ble (n+k) cc):RV)=.ok v s' at h
    cases hb:Nat.ble (n+k) cc with
    | true=>rw [hb] at h;cases h
    | false=>
     rw [hb] at h
     obtain ⟨old,ht,h⟩:=AI h
     have hnle:¬ (n+k≤cc):=fun e=>by rw [Zq0 e] at hb;cases hb
     obtain ⟨olds,e1,g2,hRo,h1o⟩:=HX (k:=0) hs hbz h2' h3' h4' ht
     have e1':olds.length=n*i.size:=by rw [his];exact e1
     rw [Zri] at g2
     exact key _ n cc old olds hxx hRo h1o e1' (run_firstCells_some w.drew i.size n ⟨b,oz,none⟩ n cc olds e1' (fun jj u hj=>JP hs hbz g2 jj u hj)) hnle hkp h
end
end Go.AM
namespace Go.AM
section
variable {P:Program}{γ:Gam}{s:St}{w:World}{t:AT}{ρ:Operand→Value}
variable {r:Nat}
theorem Zd5 {o:Nat}:∀ {es:List (AV×AV×Nat)},S4 r o es=true→∀ x ∈ es,∃ o',x.1=.ptr r o'∧o≠o':=by
 intro es
 induction es with
 | nil=>intro _ x hx;cases hx
 | cons y es ih=>
  intro h x hx
  simp only [S4] at h
  cases hp:Bk y.1 with
  | no=>rw [hp] at h;cases h
  | fp l=>rw [hp] at h;cases h
  | ptr r' o'=>
   rw [hp] at h
   cases hr:Nat.beq r r' with
   | false=>simp only [hr] at h;cases h
   | true=>
    simp only [hr] at h
    cases ho:Nat.beq o o' with
    | true=>simp only [ho] at h;cases h
    | false=>
     simp only [ho] at h
     cases hx with
     | head=>
      refine ⟨o',?_,?_⟩
      ·rw [Zqf hr];exact LD hp
      ·intro e;subst e;rw [Zrw] at ho;cases ho
     | tail _ hx=>exact ih h x hx
variable {kt e:Nat}
theorem YR (hu:P.underlying kt=some (.pointer e)) (b:Bool) (v:Value):(Instr.checkKey b 10000 kt v).run P w=.ok () w:=by
 show (Instr.checkKey b (9999+1) kt v).run P w=_
 unfold Instr.checkKey
 simp only [Zqj,Zqr hu,Zqc]
 rfl
variable {n:Nat}
theorem ZJ (hu:P.underlying kt=some (.pointer e)) (hn:A8 P e=some (n+1)) {a b:Addr}(hab:a.block=b.block) (hne:a≠b):
 (Op.equal kt (.pointer (some a)) (.pointer (some b))).run P w=.ok false w:=by
 show (Op.equalIn (9999+1) kt _ _).run P w=_
 unfold Op.equalIn
 have hb:(a == b)=false:=by simpa using hne
 simp [Zqj,Zqr hu,Zqc,C7 hn,sameAddr,hab,hb]
variable {L:Loc}
theorem YZ (hu:P.underlying kt=some (.pointer e)) (hn:A8 P e=some (n+1)) {o:Nat}(hL:γ r=some L):
 ∀ {es:List (AV×AV×Nat)}{ms:List MapEntry}(i:Nat),All2 (EntR γ) es ms→(∀ x ∈ es,∃ o',x.1=.ptr r o'∧o≠o')→
  (Instr.findAsking kt (.pointer (some ⟨L.b,L.o+o,none⟩)) ms i).run P w=.ok none w:=by
 intro es
 induction es with
 | nil=>intro ms i h _;cases h;rfl
 | cons x es ih=>
  intro ms i h hf
  cases h with
  | @cons _ m _ ms' h1 h2=>
   obtain ⟨o',hx,hne⟩:=hf x (by simp)
   have hk:=h1.1
   rw [hx] at hk
   have hkey:m.key=.pointer (some ⟨L.b,L.o+o',none⟩):=by
    generalize m.key=kv at hk
    cases hk with
    | ptr _ _ L' hL'=>rw [hL] at hL';cases hL';rfl
   unfold Instr.findAsking
   rw [hkey]
   have hne':(⟨L.b,L.o+o,none⟩:Addr)≠⟨L.b,L.o+o',none⟩:=fun e=>by injection e with _ e2 _;omega
   simp only [Zqj,ZJ hu hn (a:=⟨L.b,L.o+o,none⟩) (b:=⟨L.b,L.o+o',none⟩) rfl hne',Zqc,Bool.false_eq_true,if_false]
   exact ih (i+1) h2 fun y hy=>hf y (by simp [hy])
theorem YY (hu:P.underlying kt=some (.pointer e)) (hn:A8 P e=some (n+1)) {o:Nat}(hL:γ r=some L)
 {es:List (AV×AV×Nat)}{ms:List MapEntry}(h:All2 (EntR γ) es ms) (hf:∀ x ∈ es,∃ o',x.1=.ptr r o'∧o≠o'):
  (Instr.findKey kt (.pointer (some ⟨L.b,L.o+o,none⟩)) ms).run P w=.ok none w:=by
 have hask:=YZ (P:=P) (w:=w) hu hn hL 0 h hf
 cases h with
 | nil=>simp only [Instr.findKey,Zqj,Zqr hu,Zqc,Instr.findNow,Zqp]
 | cons h1 h2=>
  simp only [Instr.findKey,Zqj,Zqr hu,Zqc,Instr.findNow,Instr.sameNow]
  exact hask
variable {ty:Nat}
theorem Zo (h:Oo P ty=true):∃ kt e el n,P.underlying ty=some (.map kt e)∧P.underlying kt=some (.pointer el)∧A8 P el=some (n+1):=by
 unfold Oo at h
 split at h
 ·rename_i kt e hu
  split at h
  ·rename_i el hk
   split at h
   ·rename_i n hn;exact ⟨kt,e,el,n,hu,hk,hn⟩
   ·cases h
  ·cases h
 ·cases h
variable {o:Oper}{x:Operand}{a:AO}{v:AV}{s':St}
theorem TU (hs:Sim P γ s w) {y z:Operand}{b c:AO}(hd:o.dst=none) (hpk:Oo P ty=true) (hx:Af x=some a) (hy:Af y=some b) (hz:Af z=some c)
 (ho:o.op=.mapUpdate ty x y z∨o.op=.insert ty x y z) (he:Evs γ t ρ [x,y,z]) (h:WM a b c t s=.ok v s'):OpOk P γ s w ρ o v s':=by
 obtain ⟨kt,e,el,n,hu,hku,hn⟩:=Zo hpk
 obtain ⟨u1,hu1,h⟩:=AF h
 obtain ⟨u2,hu2,h⟩:=AF h
 obtain ⟨u3,hu3,h⟩:=AF h
 have h1:=he x (by simp) a u1 hx hu1
 have h2:=he y (by simp) b u2 hy hu2
 have h3:=he z (by simp) c u3 hz hu3
 rcases Kl h with ⟨r,rfl,hk⟩|⟨rfl,hk⟩
 ·obtain ⟨⟨es,cl⟩,hm,hk⟩:=AI hk
  obtain ⟨kr,ko,rfl,hk⟩:=On hk
  obtain ⟨hoth,hk⟩:=B5 hk
  have hg:=HF hm
  obtain ⟨L,hL,hxv⟩:∃ L,γ r=some L∧ρ x=.map (some L.b):=by
   generalize ρ x=vx at h1
   cases h1 with
   | map _ L hL=>exact ⟨L,hL,rfl⟩
  obtain ⟨K,hK,hyv⟩:∃ K,γ kr=some K∧ρ y=.pointer (some ⟨K.b,K.o+ko,none⟩):=by
   generalize ρ y=vy at h2
   cases h2 with
   | ptr _ _ K hK=>exact ⟨K,hK,rfl⟩
  obtain ⟨ms,hms,hR⟩:=hs.obj r _ L hg hL
  have hlt:=hs.lt r L hL
  obtain ⟨rfl,rfl⟩:=Az hk
  have hfn:=YY (P:=P) (w:=w) hku hn hK hR (Zd5 hoth)
  obtain ⟨hst,hsim⟩:=LE (O:=.map (ms.push { key:=ρ y,val:=ρ z,born:=cl }) (cl+1)) (o:=.map (Ba es [(.ptr kr ko,u3,cl)]) (cl+1)) hs hg hL rfl
   ⟨_,by rw [Zrn,Zqd rfl,Zqd hlt],by rw [Db,Array.toList_push];exact hR.append (.cons ⟨h2,h3,rfl⟩ .nil)⟩
  refine ⟨γ,_,hst,hsim,.inr ⟨?_,hd⟩⟩
  rw [← hyv] at hfn
  rcases ho with ho|ho <;>
   simp only [execOp,ho,Instr.mapUpdate,Zqj,Zqr hu,Zqc,hxv,HB hms,YR hku,hfn,Li _ hms,Zqp]
 ·cases hk
theorem Zby (h:OZ P ty=true):∃ kt e,P.underlying ty=some (.map kt e):=by
 unfold OZ at h
 split at h
 ·rename_i kt e hu;exact ⟨kt,e,hu⟩
 ·cases h
theorem ZK (hs:Sim P γ s w) (hpk:OZ P ty=true) (hx:Af x=some a)
 (ho:o.op=.range ty x) (he:Evs γ t ρ [x]) (h:Xu a t s=.ok v s'):OpOk P γ s w ρ o v s':=by
 obtain ⟨kt,e,hu⟩:=Zby hpk
 obtain ⟨u1,hu1,h⟩:=AF h
 have h1:=he x (by simp) a u1 hx hu1
 rcases Kl h with ⟨r,rfl,hk⟩|⟨rfl,hk⟩
 ·obtain ⟨⟨es,cl⟩,hm,hk⟩:=AI hk
  have hg:=HF hm
  obtain ⟨L,hL,hxv⟩:∃ L,γ r=some L∧ρ x=.map (some L.b):=by
   generalize ρ x=vx at h1
   cases h1 with
   | map _ L hL=>exact ⟨L,hL,rfl⟩
  obtain ⟨ms,hms,hR⟩:=hs.obj r _ L hg hL
  obtain ⟨rfl,rfl⟩:=Az hk
  refine Fresh.ok hs ⟨.iter r cl [] cl,fun i=>.ptr i 0,.mapIter (some L.b) cl #[] cl,0,0,.pointer (some ⟨w.heap.size,0,none⟩),rfl,rfl,?_,fun γ' i hle hi=>⟨⟨rfl,L,hle.loc _ _ hL,by show (w.heap.push _)[w.heap.size]?=_;simp⟩,?_⟩⟩
  ·simp only [execOp,ho,hxv,Zqj,run_range_map w ty kt e L.b ms cl hu hms,Zqc,Zqp]
  ·have:=VR.ptr (γ:=γ') i 0 _ hi
   simpa using this
 ·cases hk
theorem Zb {l:List Nat}:Sj l=some n→∃ l',l=l'++[n]:=by
 induction l with
 | nil=>intro h;cases h
 | cons x l ih=>
  intro h
  simp only [Sj] at h ih
  cases hl:(List.rec (motive:=fun _=>Option Nat) none (fun x _ ih=>Option.rec (some x) (fun y=>some y) ih) l) with
  | none=>
   rw [hl] at h;cases h
   cases l with
   | nil=>exact ⟨[],rfl⟩
   | cons y l=>
    exfalso
    simp only at hl
    cases hq:(List.rec (motive:=fun _=>Option Nat) none (fun x _ ih=>Option.rec (some x) (fun y=>some y) ih) l) with
    | none=>rw [hq] at hl;cases hl
    | some q=>rw [hq] at hl;cases hl
  | some q=>
   rw [hl] at h;cases h
   obtain ⟨l',e⟩:=ih hl
   exact ⟨x::l',by rw [e];rfl⟩
theorem Zao {e:AV×AV×Nat}:∀ {es:List (AV×AV×Nat)}{ms:List MapEntry},All2 (EntR γ) es ms→Sr n es=some e→∃ m,ms.find? (·.born == n)=some m∧EntR γ e m:=by
 intro es
 induction es with
 | nil=>intro ms h hf;cases hf
 | cons x es ih=>
  intro ms h hf
  cases h with
  | @cons _ m _ ms' h1 h2=>
   simp only [Sr] at hf
   cases hb:Nat.beq x.2.2 n with
   | true=>
    rw [hb] at hf;cases hf
    exact ⟨m,by rw [List.find?_cons_of_pos];rw [h1.2.2];exact beq_iff_eq.2 (Zqf hb),h1⟩
   | false=>
    rw [hb] at hf
    obtain ⟨m',e1,e2⟩:=ih h2 hf
    refine ⟨m',?_,e2⟩
    rw [List.find?_cons_of_neg,e1]
    rw [h1.2.2]
    intro hc
    rw [beq_iff_eq.1 hc,Zrw] at hb;cases hb
theorem Zx {m since last:Nat}{seen:List Nat}(h:Oz r s=.it m since seen last):s.get r=some (.iter m since seen last):=by
 unfold Oz at h
 cases hg:s.get r with
 | none=>rw [hg] at h;cases h
 | some o=>
  rw [hg] at h
  cases o with
  | iter a b c d=>cases h;rfl
  | _=>cases h
theorem Zah (hs:Sim P γ s w) (hx:Af x=some a)
 (ho:o.op=.entry x) (he:Evs γ t ρ [x]) (h:XB a t s=.ok v s'):OpOk P γ s w ρ o v s':=by
 obtain ⟨u1,hu1,h⟩:=AF h
 have h1:=he x (by simp) a u1 hx hu1
 obtain ⟨ri,oi,rfl,hk⟩:=On h
 obtain ⟨h0,hk⟩:=B5 hk
 have h0:=Zqf h0
 subst h0
 cases hit:Oz ri s with
 | no=>rw [hit] at hk;cases hk
 | it m since seen last=>
  rw [hit] at hk
  obtain ⟨n,hln,hk⟩:=AI hk
  obtain ⟨⟨es,cl⟩,hm,hk⟩:=AI hk
  obtain ⟨hcl,hk2⟩:=B5 hk
  have hcl:cl=last:=Zqf hcl
  subst hcl
  obtain ⟨ent,hb,hk3⟩:=AI hk2
  obtain ⟨rfl,rfl⟩:=Az hk3
  have hgi:=Zx hit
  have hg:=HF hm
  obtain ⟨I,hI,hxv⟩:∃ I,γ ri=some I∧ρ x=.pointer (some ⟨I.b,I.o+0,none⟩):=by
   generalize ρ x=vx at h1
   cases h1 with
   | ptr _ _ I hI=>exact ⟨I,hI,rfl⟩
  obtain ⟨hIo,M,hM,hitr⟩:=hs.obj ri _ I hgi hI
  obtain ⟨ms,hms,hR⟩:=hs.obj m _ M hg hM
  obtain ⟨me,hfind,hE⟩:=Zao hR hb
  obtain ⟨l',rfl⟩:=Zb hln
  refine Aw hs (.tuple #[me.key,me.val]) ?_ (.tup _ _ (.cons hE.1 (.cons hE.2.1 .nil)))
  rw [hIo] at hxv
  have hback:((l'++[n]).toArray).back?=some n:=by simp
  have hfa:ms.find? (·.born == n)=some me:=by rw [← Array.find?_toList];exact hfind
  simp only [execOp,ho,hxv,Instr.entry,getObj,Zqj,Sem.run,hitr,hms,Result.andThen,hback,bne_self_eq_false,Bool.false_eq_true,if_false,hfa]
  rfl
theorem Sk {k:Nat→AV→RV}{a:AV}(h:(XR.rec .fail k (KN a):RV)=.ok v s'):∃ t u,a=.iface t u∧k t u=.ok v s':=by
 cases a with
 | iface t u=>exact ⟨t,u,rfl,h⟩
 | _=>cases h
theorem Zbx (hs:Sim P γ s w) (hT:Jn P ty=true) (hx:Af x=some a)
 (ho:o.op=.makeInterface ty x) (he:Evs γ t ρ [x]) (h:Yn ty a t s=.ok v s'):OpOk P γ s w ρ o v s':=by
 obtain ⟨u,hu,h⟩:=AF h
 obtain ⟨rfl,rfl⟩:=Az h
 have hv:=he x (by simp) a _ hx hu
 refine Aw hs (.iface ty (ρ x)) ?_ (.iface _ _ _ hv)
 unfold Jn at hT
 cases hd:P.underlying ty with
 | none=>rw [hd] at hT;cases hT
 | some d=>cases d <;> first|(simp [hd] at hT;done)|simp [execOp,ho,Instr.makeInterface,Zqr hd]
theorem Zbd (hs:Sim P γ s w) {xt:Nat}{i:TypeInfo}{z:Value}{zv:AV}(hT:Jn P ty=true) (hi:P.info? ty=some i) (hz:i.zero=some z) (hzv:av z=some zv) (hx:Af x=some a)
 (ho:o.op=.typeAssert x xt ty true) (he:Evs γ t ρ [x]) (h:Yf ty zv a t s=.ok v s'):OpOk P γ s w ρ o v s':=by
 obtain ⟨u,hu,h⟩:=AF h
 obtain ⟨t',u',rfl,h⟩:=Sk h
 obtain ⟨rfl,rfl⟩:=Az h
 have hv:=he x (by simp) a _ hx hu
 generalize hxx:ρ x=vx at hv
 cases hv with
 | iface _ _ v' hv'=>
  have hzr:=GD (P:=P) hi hz w
  cases hb:Nat.beq t' ty with
  | true=>
   have e:=Zqf hb
   subst e
   refine Aw hs (.tuple #[v',.bool true]) ?_ (.tup _ _ (.cons hv' (.cons (.bool _) .nil)))
   unfold Jn at hT
   cases hd:P.underlying t' with
   | none=>rw [hd] at hT;cases hT
   | some d=>cases d <;> first|(simp [hd] at hT;done)|simp [execOp,ho,hxx,Instr.typeAssert,Zqr hd]
  | false=>
   have e:=Zre hb
   refine Aw hs (.tuple #[z,.bool false]) ?_ (.tup _ _ (.cons (Ss hzv) (.cons (.bool _) .nil)))
   unfold Jn at hT
   cases hd:P.underlying ty with
   | none=>rw [hd] at hT;cases hT
   | some d=>cases d <;> first|(simp [hd] at hT;done)|simp [execOp,ho,hxx,Instr.typeAssert,Zqr hd,e,hzr]
variable {k f:Nat}
theorem Zaf {tb:List (Nat×Nat)}(h:Ji tb k=some f):(k,f) ∈ tb:=by
 induction tb with
 | nil=>cases h
 | cons p tb ih=>
  change (Bool.rec (Ji tb k) (some p.2) (Nat.beq p.1 k):Option Nat)=some f at h
  cases hb:Nat.beq p.1 k with
  | true=>
   rw [hb] at h
   have e:=Zqf hb
   have e2:p.2=f:=Zrh h
   rw [← e,← e2];exact List.mem_cons_self ..
  | false=>rw [hb] at h;exact List.mem_cons_of_mem _ (ih h)
variable {name:String}
theorem Zy (h:Ji (WT P name) k=some f):K7 P name k=some f:=by
 obtain ⟨i,_,hi⟩:=List.mem_filterMap.1 (Zaf h)
 cases ha:K7 P name i with
 | none=>rw [ha] at hi;cases hi
 | some g=>rw [ha] at hi;cases hi;exact ha
theorem ZI {v:Value}(h:K7 P name k=some f):(method (P.types.size+Made.depth) k v name).run P w=.ok (f,v) w:=by
 unfold K7 at h
 split at h
 ·rename_i inf hi
  split at h
  ·rename_i m hm
   split at h
   ·rename_i g hf
    split at h
    ·rename_i hp
     have hpath:m.path=#[]:=by simpa using hp
     split at h
     ·cases h
     ·rename_i d hne hd
      cases h
      rw [show P.types.size+Made.depth=(P.types.size+99)+1 from rfl]
      generalize P.types.size+99=n
      cases d with
      | pointer e=>exact absurd rfl (hne e)
      | _=>simp [method,typeInfo,hi,hm,hpath,follow,hf,receiverAt,Zqr hd,Place.get]
     ·cases h
    ·cases h
   ·cases h
  ·cases h
 ·cases h
end
end Go.AM
