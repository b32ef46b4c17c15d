/-
 Functions of the program as the abstract machine reads them, and what is stated of them, checked by the kernel. No conditions.
-/
import Derived.Laws.Strings
import Derived.IntWalk
import Derived.Laws.StructEq
import Derived.Laws.BytesString
import Derived.ChangeKeysEq
import Derived.Lib.AppendZerosOnto
import Derived.Test.YtacmbogmbfmjeaaGreatAM1
set_option linter.unusedVariables false
set_option linter.unusedSimpArgs false
set_option linter.unnecessarySimpa false
set_option maxRecDepth 100000
namespace Go.AM
section
variable {P:Program}{γ:Gam}{s:St}{w:World}{t:AT}{ρ:Operand→Value}
variable {v':Value}
theorem Hk {r o:Nat}(h:VR γ (.ptr r o) v'):∃ L,γ r=some L∧v'=.pointer (some ⟨L.b,L.o+o,none⟩):=by
 cases h with
 | ptr _ _ L hL=>exact ⟨L,hL,rfl⟩
variable {k:IntKind}
theorem AI {n:Int}(h:VR γ (.int k n) v'):v'=.int k n:=by cases h;rfl
theorem FG {b:Bool}(h:VR γ (.bool b) v'):v'=.bool b:=by cases h;rfl
variable {o:Oper}{ty:Nat}{x:Operand}{a:AO}{v:AV}{s':St}
theorem Ym (hs:Sim P γ s w) (hag:C9 P ty=some false) (hx:Ag x=some a) (ho:o.op=.load ty x) (he:Evs γ t ρ [x])
 (h:Vy a t s=.ok v s'):OpOk P γ s w ρ o v s':=by
 obtain ⟨u,hu,h⟩:=A9 h
 rcases Ma h with ⟨r,i,rfl,h⟩|⟨l,rfl,h⟩
 ·obtain ⟨hl,rfl⟩:=ID h
  obtain ⟨L,hL,hv⟩:=Hk (he x (by simp) a _ hx hu)
  obtain ⟨v',hc,hR,_⟩:=Ru hs hl hL
  refine Ap hs v' ?_ hR
  simp only [execOp,ho,Instr.loadAt,hv,Instr.sureAddr,Zjp,Zjv,Zji,loadVar,GC hag]
  simp [run_load,hc]
 ·obtain ⟨hl,rfl⟩:=ID h
  obtain ⟨b,i,cs,vs,hv,hb,h2,h3,h4,h5⟩:=fpV (he x (by simp) a _ hx hu)
  rw [HG] at hl
  obtain ⟨v',hv',hR⟩:=h4.get hl
  have hc:=Tz hs hb (h2 0 v' hv')
  refine Ap hs v' ?_ hR
  simp only [execOp,ho,Instr.loadAt,hv,Instr.sureAddr,Zjp,Zjv,Zji,loadVar,GC hag]
  rw [Zko] at hc
  simp [run_load,hc]
variable {n:Nat}
theorem Yl (hs:Sim P γ s w) (hag:C9 P ty=some true) (hn:Az P ty=some n) (hx:Ag x=some a) (ho:o.op=.load ty x) (he:Evs γ t ρ [x])
 (h:Vx n a t s=.ok v s'):OpOk P γ s w ρ o v s':=by
 obtain ⟨u,hu,h⟩:=A9 h
 rcases Ma h with ⟨r,i,rfl,h⟩|⟨l,rfl,h⟩
 ·obtain ⟨cs,hl,h⟩:=AH h
  obtain ⟨rfl,rfl⟩:=Ar h
  obtain ⟨L,hL,hv⟩:=Hk (he x (by simp) a _ hx hu)
  obtain ⟨vs,e1,hc,hR,h1⟩:=H3 hs hl hL
  have hrun:=run_loadCells_list (P:=P) w _ vs hc
  rw [e1] at hrun
  refine Ap hs (.agg vs.toArray) ?_ (.agg _ _ hR h1)
  simp only [execOp,ho,Instr.loadAt,hv,Instr.sureAddr,Zjp,Zjv,Zji,loadVar,GC hag,Ck hn,hrun,if_true]
 ·obtain ⟨cs,hl,h⟩:=AH h
  obtain ⟨rfl,rfl⟩:=Ar h
  obtain ⟨b,i,cc,vs,hv,hb,h2,h3,h4,h5⟩:=fpV (he x (by simp) a _ hx hu)
  obtain ⟨us,e1,g2,hR,h1⟩:=GP (k:=0) hs hb h2 h3 h4 hl
  have hrun:=run_loadCells_list (P:=P) w _ us (I4 hs hb g2)
  rw [e1] at hrun
  refine Ap hs (.agg us.toArray) ?_ (.agg _ _ hR h1)
  rw [Zko] at hrun
  simp only [execOp,ho,Instr.loadAt,hv,Instr.sureAddr,Zjp,Zjv,Zji,loadVar,GC hag,Ck hn,hrun,if_true]
theorem Zn (hs:Sim P γ s w) {y:Operand}{b:AO}(hd:o.dst=none) (hn:Az P ty=some (n+1)) (hx:Ag x=some a) (hy:Ag y=some b) (ho:o.op=.store ty x y) (he:Evs γ t ρ [x,y])
 (h:stA (n+1) a b t s=.ok v s'):OpOk P γ s w ρ o v s':=by
 obtain ⟨p,hp,h⟩:=A9 h
 obtain ⟨u,hu,h⟩:=A9 h
 obtain ⟨r,i,rfl,h⟩:=Mo h
 obtain ⟨hl,h⟩:=B9 h
 obtain ⟨hk,rfl⟩:=Kf h
 obtain ⟨L,hL,hv⟩:=Hk (he x (by simp) a _ hx hp)
 obtain ⟨c1,c2⟩:=NT (he y (by simp) b _ hy hu) hl
 obtain ⟨w',hrun,hst,hsim⟩:=JB hs hk hL c1 c2
 refine ⟨γ,w',hst,hsim,.inr ⟨?_,hd⟩⟩
 have hsz:(ρ y).cells.size=n+1:=by
  have e1:=Zjl hl
  rw [E7] at e1
  have:=c1.length
  simp at this
  omega
 simp only [execOp,ho,Instr.storeAt,hv,Instr.sureAddr,Zjp,Zjv,Zji,storeVar,Ck hn,hsz]
 simp [hrun]
theorem W3 (hs:Sim P γ s w) (hx:Ag x=some a) (ho:o.op=.nilCheck x) (he:Evs γ t ρ [x])
 (h:TT a t s=.ok v s'):OpOk P γ s w ρ o v s':=by
 obtain ⟨u,hu,h⟩:=A9 h
 have hv:=he x (by simp) a u hx hu
 cases hn:Kw u with
 | true=>rw [hn] at h;cases h
 | false=>
  rw [hn] at h
  obtain ⟨rfl,rfl⟩:=Ar h
  refine Ap hs (ρ x) ?_ hv
  simp only [execOp,ho]
  generalize ρ x=vx at hv
  cases hv <;> first|rfl|(cases hn)
variable {f:Nat}{fs:Array Field}{fd:Field}
theorem ZY (hs:Sim P γ s w) (hu:P.underlying ty=some (.struct fs)) (hf:fs[f]?=some fd) (hn:Az P fd.type=some (n+1))
 (hx:Ag x=some a) (ho:o.op=.fieldAddr ty x f) (he:Evs γ t ρ [x]) (h:faA fd.offset a t s=.ok v s'):OpOk P γ s w ρ o v s':=by
 obtain ⟨u,hu',h⟩:=A9 h
 rcases Ma h with ⟨r,i,rfl,h⟩|⟨l,rfl,h⟩
 ·obtain ⟨rfl,rfl⟩:=Ar h
  obtain ⟨L,hL,hv⟩:=Hk (he x (by simp) a _ hx hu')
  refine Ap hs (.pointer (some ⟨L.b,L.o+(i+fd.offset),none⟩)) ?_ (.ptr r _ L hL)
  simp only [execOp,ho,Instr.fieldAt,hv,Instr.sureAddr,Zjp,Zjv,Zji,Zjx hu,hf,fieldPlace,Ck hn]
  simp [Dp,Zlc]
 ·obtain ⟨rfl,rfl⟩:=Ar h
  obtain ⟨b,i,cc,vs,hv,hb,h2,h3,h4,h5⟩:=fpV (he x (by simp) a _ hx hu')
  refine Ap hs (.pointer (some ⟨b,i+fd.offset,none⟩)) ?_ (OK hb h2 h3 h4 h5)
  simp only [execOp,ho,Instr.fieldAt,hv,Instr.sureAddr,Zjp,Zjv,Zji,Zjx hu,hf,fieldPlace,Ck hn]
  simp [Dp]
variable {cs:Array Value}{off:Nat}
theorem HU {v:Value}(hag:C9 P ty=some false) (h:cs[off]?=some v):(part ty cs off).run P w=.ok v w:=by
 simp [part,GC hag,h]
theorem U5 (hag:C9 P ty=some true) (hn:Az P ty=some n):(part ty cs off).run P w=.ok (.agg (cs.extract off (off+n))) w:=by
 simp [part,GC hag,Ck hn]
theorem Jw {l:List AV}(h:VR γ (.agg l) v'):∃ a,v'=.agg a∧All2 (VR γ) l a.toList∧∀ v ∈ a.toList,v.oneCell'=true:=by
 cases h with
 | agg _ a h1 h2=>exact ⟨a,rfl,h1,h2⟩
theorem Xp (hs:Sim P γ s w) (hu:P.underlying ty=some (.struct fs)) (hf:fs[f]?=some fd) (hag:C9 P fd.type=some false)
 (hx:Ag x=some a) (ho:o.op=.field ty x f) (he:Evs γ t ρ [x]) (h:UH fd.offset a t s=.ok v s'):OpOk P γ s w ρ o v s':=by
 obtain ⟨u,hu',h⟩:=A9 h
 obtain ⟨l,rfl,h⟩:=Ja h
 obtain ⟨hk,rfl⟩:=ID h
 rw [HG] at hk
 obtain ⟨c,hv,hR,_⟩:=Jw (he x (by simp) a _ hx hu')
 obtain ⟨v',hv',hRv⟩:=hR.get hk
 refine Ap hs v' ?_ hRv
 simp only [execOp,ho,Instr.field,hv,Zjp,Zjv,Zji,Zjx hu,hf,asAgg,HU hag (show c[fd.offset]?=some v' by simpa using hv')]
 simp [HU hag (show c[fd.offset]?=some v' by simpa using hv'),Go.asAgg]
theorem Xo (hs:Sim P γ s w) (hu:P.underlying ty=some (.struct fs)) (hf:fs[f]?=some fd) (hag:C9 P fd.type=some true) (hn:Az P fd.type=some n)
 (hx:Ag x=some a) (ho:o.op=.field ty x f) (he:Evs γ t ρ [x]) (h:UG fd.offset n a t s=.ok v s'):OpOk P γ s w ρ o v s':=by
 obtain ⟨u,hu',h⟩:=A9 h
 obtain ⟨l,rfl,h⟩:=Ja h
 obtain ⟨cs,hk,h'⟩:=AH h
 obtain ⟨rfl,rfl⟩:=Ar h'
 obtain ⟨e1,hle⟩:=JD _ hk
 rw [GH] at e1 hle
 subst e1
 obtain ⟨c,hv,hR,h1⟩:=Jw (he x (by simp) a _ hx hu')
 have e2:(c.extract fd.offset (fd.offset+n)).toList=(c.toList.drop fd.offset).take n:=by simp [Array.toList_extract,List.extract_eq_take_drop]
 refine Ap hs (.agg (c.extract fd.offset (fd.offset+n))) ?_ (.agg _ _ (by rw [e2];exact (hR.drop _).take _) (by rw [e2];exact fun v hv=>h1 v (Zkr (Zkm hv))))
 simp [execOp,ho,Instr.field,hv,Zjx hu,hf,Go.asAgg,U5 hag hn]
theorem Yy (hs:Sim P γ s w) {i:Nat}(hx:Ag x=some a) (ho:o.op=.extract x i) (he:Evs γ t ρ [x])
 (h:V7 a i t s=.ok v s'):OpOk P γ s w ρ o v s':=by
 obtain ⟨u,hu',h⟩:=A9 h
 obtain ⟨l,rfl,h⟩:=Ze0 h
 obtain ⟨hk,rfl⟩:=ID h
 rw [HG] at hk
 have hv:=he x (by simp) a _ hx hu'
 generalize hxx:ρ x=vx at hv
 cases hv with
 | tup _ c hR=>
  obtain ⟨v',hv',hRv⟩:=hR.get hk
  refine Ap hs v' ?_ hRv
  have:c[i]?=some v':=by simpa using hv'
  simp [execOp,ho,Instr.extract,hxx,this]
theorem Y5 (hs:Sim P γ s w) {sr ds:Nat}{sd:TypeDesc}(hsr:P.underlying sr=some sd) (hd:P.underlying ds=some (.int k)) (hx:Ag x=some a) (ho:o.op=.convert sr ds x) (he:Evs γ t ρ [x])
 (hq:∀ k n,Eo k n=k.wrap n) (h:V8 k a t s=.ok v s'):OpOk P γ s w ρ o v s':=by
 obtain ⟨u,hu',h⟩:=A9 h
 obtain ⟨k',n,rfl,h⟩:=Zfp h
 obtain ⟨rfl,rfl⟩:=Ar h
 have hv:=AI (he x (by simp) a _ hx hu')
 refine Ap hs (.int k (k.wrap n)) ?_ (by rw [hq];exact .int _ _)
 simp [execOp,ho,convert,hv,Zjx hsr,Zjx hd,Conv.intToInt]
theorem Xd (hs:Sim P γ s w) {as bs:Array Operand}{xs ys:List AO}(hx:E0 as.toList=some xs) (hy:E0 bs.toList=some ys) (ho:o.op=.makeFunc (.func f) as bs) (he:Evs γ t ρ (as.toList++bs.toList))
 (h:U7 f xs ys t s=.ok v s'):OpOk P γ s w ρ o v s':=by
 obtain ⟨p,hp,h⟩:=AH h
 obtain ⟨q,hq,h⟩:=AH h
 obtain ⟨rfl,rfl⟩:=Ar h
 have h1:=HC (γ:=γ) (ρ:=ρ) hx hp (fun x hx=>he x (by simp at hx ⊢;exact .inl hx))
 have h2:=HC (γ:=γ) (ρ:=ρ) hy hq (fun x hx=>he x (by simp at hx ⊢;exact .inr hx))
 refine Ap hs (.func (.func f) (as.map ρ) (bs.map ρ)) ?_ (.fn _ _ _ _ _ (by simpa using h1) (by simpa using h2))
 simp [execOp,ho,Instr.makeFunc]
end
end Go.AM
namespace Go.AM
theorem JK {a b:IntKind}(h:BU a b=true):a=b:=by
 cases a <;> cases b <;> first|rfl|cases h
theorem F6 (a b:Int):Dj a b=(a == b):=by
 cases a with
 | ofNat a=>cases b with
  | ofNat b=>show Nat.beq a b=_;rw [Bool.eq_iff_iff,Nat.beq_eq];simp;omega
  | negSucc b=>show false=_;rw [eq_comm,beq_eq_false_iff_ne];simp
 | negSucc a=>cases b with
  | ofNat b=>show false=_;rw [eq_comm,beq_eq_false_iff_ne];simp
  | negSucc b=>show Nat.beq a b=_;rw [Bool.eq_iff_iff,Nat.beq_eq];simp
theorem Ff (a b:Int):DN a b=decide (a<b):=by
 cases a with
 | ofNat a=>cases b with
  | ofNat b=>show Nat.blt a b=_;rw [Bool.eq_iff_iff,Zkx];simp
  | negSucc b=>show false=_;rw [eq_comm,Zkl];simp;omega
 | negSucc a=>cases b with
  | ofNat b=>show true=_;rw [eq_comm,decide_eq_true_iff];simp;omega
  | negSucc b=>show Nat.blt b a=_;rw [Bool.eq_iff_iff,Zkx];simp;omega
theorem TI (a b:Int):VM a b=a+b:=by
 cases a <;> cases b <;> rfl
theorem OD (a b:Int):MO a b=a*b:=by
 cases a <;> cases b <;> rfl
theorem O4 (a b:Int):MK a b=a-b:=by
 cases a with
 | ofNat a=>cases b with
  | ofNat b=>
   show (Bool.rec (Int.sub (.ofNat a) (.ofNat b)) (.ofNat (Nat.sub a b)) (Nat.ble b a):Int)=_
   cases hb:Nat.ble b a with
   | false=>rfl
   | true=>have:=Zj3 hb;show ((a-b:Nat):Int)=(a:Int)-(b:Int);omega
  | negSucc b=>rfl
 | negSucc a=>rfl
theorem DT (k:IntKind) (n:Int):Eo k n=k.wrap n:=by
 cases n with
 | ofNat m=>
  show Uv k m=k.wrap (m:Int)
  cases k <;> try rfl
  show (Bool.rec (IntKind.i64.wrap m) (.ofNat m) (Nat.blt m 9223372036854775808):Int)=_
  cases hb:Nat.blt m 9223372036854775808 with
  | false=>rfl
  | true=>
   rw [Zkx] at hb
   exact (IntWalk.i64_in (m:Int) ⟨by omega,by omega⟩).symm
 | negSucc m=>
  show (Bool.rec (k.wrap (.negSucc m)) (Bool.rec (k.wrap (.negSucc m)) (.negSucc m) (Nat.blt m 9223372036854775808)) (Nat.beq (He k) 3):Int)=_
  have h3:k=.i64∨Nat.beq (He k) 3=false:=by cases k <;> first|exact .inl rfl|exact .inr rfl
  rcases h3 with rfl|h3
  ·show (Bool.rec (IntKind.i64.wrap (.negSucc m)) (.negSucc m) (Nat.blt m 9223372036854775808):Int)=_
   cases hb:Nat.blt m 9223372036854775808 with
   | false=>rfl
   | true=>
    rw [Zkx] at hb
    exact (IntWalk.i64_in (Int.negSucc m) ⟨by omega,by omega⟩).symm
  ·rw [h3]
theorem LQ {f:Nat→Nat→Nat}{g:(n:Nat)→BitVec n→BitVec n→BitVec n}(hf:∀ n x y,(g n x y).toNat=f x.toNat y.toNat) (k:IntKind) (a b:Int):KI f g k a b=EI g k a b:=by
 cases a with
 | ofNat x=>cases b with
  | ofNat y=>
   show US f g k x y=_
   cases k <;> try rfl
   ·show ((f (x % 256) (y % 256):Nat):Int)=_
    have e:f (x % 256) (y % 256)=(g 8 (BitVec.ofInt 8 x) (BitVec.ofInt 8 y)).toNat:=by
     rw [hf];simp
    rw [e]
    have hlt:=(g 8 (BitVec.ofInt 8 x) (BitVec.ofInt 8 y)).isLt
    simp only [EI,IntKind.wrap,IntKind.bits,IntKind.signed]
    simp
    omega
   ·show ((f (x % 4294967296) (y % 4294967296):Nat):Int)=_
    have e:f (x % 4294967296) (y % 4294967296)=(g 32 (BitVec.ofInt 32 x) (BitVec.ofInt 32 y)).toNat:=by
     rw [hf];simp
    rw [e]
    have hlt:=(g 32 (BitVec.ofInt 32 x) (BitVec.ofInt 32 y)).isLt
    simp only [EI,IntKind.wrap,IntKind.bits,IntKind.signed]
    simp
    omega
  | negSucc y=>rfl
 | negSucc x=>rfl
theorem Ko (a:List Nat):∀ b,Ev a b=(a == b):=by
 induction a with
 | nil=>intro b;cases b <;> rfl
 | cons x a ih=>intro b;cases b with
  | nil=>rfl
  | cons y b=>
   show (Bool.rec false (Ev a b) (Nat.beq x y):Bool)=_
   rw [ih]
   cases hb:Nat.beq x y with
   | false=>have:=Zkk hb;simp [this]
   | true=>have:=Zjl hb;simp [this]
section
variable {P:Program}{γ:Gam}{s:St}{w:World}{t:AT}{ρ:Operand→Value}
variable {f:IntKind→Int→Int→Int}{x y v:AV}
theorem E9 (h:ar f x y=.some v):∃ k a b,x=.int k a∧y=.int k b∧v=.int k (f k a b):=by
 unfold ar at h
 cases hx:asInt x with
 | no=>rw [hx] at h;cases h
 | int k a=>
  rw [hx] at h
  cases hy:asInt y with
  | no=>rw [hy] at h;cases h
  | int k' b=>
   rw [hy] at h
   dsimp only at h
   cases hk:BU k k' with
   | false=>rw [hk] at h;cases h
   | true=>rw [hk] at h;cases h;cases JK hk;exact ⟨k,a,b,Ej hx,Ej hy,rfl⟩
theorem E6 {f:Int→Int→Bool}(h:F0 f x y=.some v):∃ k a b,x=.int k a∧y=.int k b∧v=.bool (f a b):=by
 unfold F0 at h
 cases hx:asInt x with
 | no=>rw [hx] at h;cases h
 | int k a=>
  rw [hx] at h
  cases hy:asInt y with
  | no=>rw [hy] at h;cases h
  | int k' b=>
   rw [hy] at h
   dsimp only at h
   cases hk:BU k k' with
   | false=>rw [hk] at h;cases h
   | true=>rw [hk] at h;cases h;cases JK hk;exact ⟨k,a,b,Ej hx,Ej hy,rfl⟩
theorem LN (h:dvd f x y=.some v):∃ k a b,x=.int k a∧y=.int k b∧b≠0∧v=.int k (f k a b):=by
 unfold dvd at h
 cases hx:asInt x with
 | no=>rw [hx] at h;cases h
 | int k a=>
  rw [hx] at h
  cases hy:asInt y with
  | no=>rw [hy] at h;cases h
  | int k' b=>
   rw [hy] at h
   dsimp only at h
   cases hk:BU k k' with
   | false=>rw [hk] at h;cases h
   | true=>
    rw [hk] at h
    dsimp only at h
    cases hb:Dj b 0 with
    | true=>rw [hb] at h;cases h
    | false=>
     rw [hb] at h;cases h;cases JK hk
     exact ⟨k,a,b,Ej hx,Ej hy,by rw [F6] at hb;simpa using hb,rfl⟩
theorem LX {f:IntKind→Int→Nat→Int}(h:sh f x y=.some v):∃ k a k' b,x=.int k a∧y=.int k' (.ofNat b)∧v=.int k (f k a b):=by
 unfold sh at h
 cases hx:asInt x with
 | no=>rw [hx] at h;cases h
 | int k a=>
  rw [hx] at h
  cases hy:Gn y with
  | no=>rw [hy] at h;cases h
  | n b=>rw [hy] at h;cases h;obtain ⟨k',rfl⟩:=HB hy;exact ⟨k,a,k',b,Ej hx,rfl,rfl⟩
theorem L9 {f:List Nat→List Nat→AV}(h:ML f x y=.some v):∃ a b,x=.str a∧y=.str b∧v=f a b:=by
 unfold ML at h
 cases hx:Fm x with
 | no=>rw [hx] at h;cases h
 | s a=>
  rw [hx] at h
  cases hy:Fm y with
  | no=>rw [hy] at h;cases h
  | s b=>rw [hy] at h;cases h;exact ⟨a,b,LS hx,LS hy,rfl⟩
theorem Rp (h:Pf x y=.some v):∃ a b,x=.str a∧y=.str b∧a.length+b.length≤1000000∧v=.str (AY a b):=by
 unfold Pf at h
 cases hx:Fm x with
 | no=>rw [hx] at h;cases h
 | s a=>
  rw [hx] at h
  cases hy:Fm y with
  | no=>rw [hy] at h;cases h
  | s b=>
   rw [hy] at h
   dsimp only at h
   cases hb:Nat.ble (AR a+AR b) 1000000 with
   | false=>rw [hb] at h;cases h
   | true=>
    rw [hb] at h;cases h
    have:=Zj3 hb
    rw [E7,E7] at this
    exact ⟨a,b,LS hx,LS hy,this,rfl⟩
theorem I2 {x y:OV}(h:Ir x y=.some v):x=.some v∨y=.some v:=by
 cases x with
 | none=>exact .inr h
 | some a=>exact .inl h
def Zje (P:Program) (w:World) (γ:Gam) (op:BinOp) (ty:TypeId) (x y:Value) (v:AV):Prop:=∃ v',(binOp op ty x y).run P w=.ok v' w∧VR γ v v'
theorem Sv (a b:Int):P7 a b=a.tdiv b:=by cases a <;> cases b <;> rfl
theorem Su (a b:Int):P6 a b=a.tmod b:=by
 cases a with
 | ofNat a=>cases b with
  | ofNat b=>rfl
  | negSucc b=>rfl
 | negSucc a=>rfl
theorem ZX (a:Int) (m:Nat):UI a m=a.fdiv m:=by
 cases a with
 | ofNat a=>show ((a / m:Nat):Int)=_;simp [Int.fdiv_eq_ediv_of_nonneg]
 | negSucc a=>rfl
theorem Pe {a b:List Nat}{x y:ByteArray}(hx:x.data.toList.map UInt8.toNat=a) (hy:y.data.toList.map UInt8.toNat=b):(x.toList == y.toList)=(a == b):=by
 have key:∀ z:ByteArray,z.toList=z.data.toList:=ByteArray.toList_eq
 rw [Bool.eq_iff_iff,beq_iff_eq,beq_iff_eq,← hx,← hy,key,key]
 constructor
 ·intro h;rw [h]
 ·intro h
  exact (List.map_inj_right (fun p q e=>UInt8.toNat_inj.1 e)).1 h
theorem Xy {op:BinOp}{ty:TypeId}{x' y':Value}(hx:VR γ x x') (hy:VR γ y y') (h:MV op x y=.some v):Zje P w γ op ty x' y' v:=by
 cases op with
 | add=>
  rcases I2 h with h|h
  ·obtain ⟨k,a,b,rfl,rfl,rfl⟩:=E9 h
   rw [AI hx,AI hy,DT,TI]
   exact ⟨_,by simp [binOp,Op.intArith],.int _ _⟩
  ·obtain ⟨a,b,rfl,rfl,hl,rfl⟩:=Rp h
   cases hx with
   | str _ sx e1=>cases hy with
    | str _ sy e2=>
     have l1:a.length=sx.size:=by rw [← e1,Zjm,Zlf];rfl
     have l2:b.length=sy.size:=by rw [← e2,Zjm,Zlf];rfl
     refine ⟨.string (sx++sy),?_,.str _ _ ?_⟩
     ·have hlt:¬ (((sx.size+sy.size:Nat):Int)>IntKind.i64.max):=by
       have:IntKind.i64.max=9223372036854775807:=rfl
       omega
      simp only [binOp,Op.stringOp,Zjn hlt]
      rfl
     ·rw [CJ,← e1,← e2];simp [ByteArray.data_append]
 | sub=>
  obtain ⟨k,a,b,rfl,rfl,rfl⟩:=E9 h
  rw [AI hx,AI hy,DT,O4]
  exact ⟨_,by simp [binOp,Op.intArith],.int _ _⟩
 | mul=>
  obtain ⟨k,a,b,rfl,rfl,rfl⟩:=E9 h
  rw [AI hx,AI hy,DT,OD]
  exact ⟨_,by simp [binOp,Op.intArith],.int _ _⟩
 | quo=>
  obtain ⟨k,a,b,rfl,rfl,hb,rfl⟩:=LN h
  rw [AI hx,AI hy,DT,Sv]
  exact ⟨_,by simp [binOp,Op.intDiv,hb],.int _ _⟩
 | rem=>
  obtain ⟨k,a,b,rfl,rfl,hb,rfl⟩:=LN h
  rw [AI hx,AI hy,Su]
  exact ⟨_,by simp [binOp,Op.intDiv,hb],.int _ _⟩
 | and=>
  obtain ⟨k,a,b,rfl,rfl,rfl⟩:=E9 h
  rw [AI hx,AI hy,LQ (by intro n x y;rfl)]
  exact ⟨_,by simp [binOp,Op.intBits];rfl,.int _ _⟩
 | or=>
  obtain ⟨k,a,b,rfl,rfl,rfl⟩:=E9 h
  rw [AI hx,AI hy,LQ (by intro n x y;rfl)]
  exact ⟨_,by simp [binOp,Op.intBits];rfl,.int _ _⟩
 | xor=>
  obtain ⟨k,a,b,rfl,rfl,rfl⟩:=E9 h
  rw [AI hx,AI hy,LQ (by intro n x y;rfl)]
  exact ⟨_,by simp [binOp,Op.intBits];rfl,.int _ _⟩
 | andNot=>cases h
 | shl=>
  obtain ⟨k,a,k',b,rfl,rfl,rfl⟩:=LX h
  rw [AI hx,AI hy,DT,OD]
  refine ⟨_,?_,.int _ _⟩
  have hb0:¬ ((b:Int)<0):=by omega
  simp [binOp,Op.shift,Nat.min_def,hb0]
 | shr=>
  obtain ⟨k,a,k',b,rfl,rfl,rfl⟩:=LX h
  rw [AI hx,AI hy,ZX]
  refine ⟨_,?_,.int _ _⟩
  have hb0:¬ ((b:Int)<0):=by omega
  simp [binOp,Op.shift,Nat.min_def,hb0]
 | eql=>
  rcases I2 h with h|h
  ·obtain ⟨k,a,b,rfl,rfl,rfl⟩:=E6 h
   rw [AI hx,AI hy,F6]
   exact ⟨_,by simp [binOp,Op.intCmp],.bool _⟩
  ·obtain ⟨a,b,rfl,rfl,rfl⟩:=L9 h
   cases hx with
   | str _ sx e1=>cases hy with
    | str _ sy e2=>
     rw [Ko,← Pe e1 e2]
     exact ⟨_,by simp only [binOp,Op.stringOp];rfl,.bool _⟩
 | neq=>
  rcases I2 h with h|h
  ·obtain ⟨k,a,b,rfl,rfl,rfl⟩:=E6 h
   rw [AI hx,AI hy,F6]
   exact ⟨_,by simp [binOp,Op.intCmp];rfl,.bool _⟩
  ·obtain ⟨a,b,rfl,rfl,rfl⟩:=L9 h
   cases hx with
   | str _ sx e1=>cases hy with
    | str _ sy e2=>
     rw [Ko,← Pe e1 e2]
     exact ⟨_,by simp only [binOp,Op.stringOp];rfl,.bool _⟩
 | lss=>
  obtain ⟨k,a,b,rfl,rfl,rfl⟩:=E6 h
  rw [AI hx,AI hy,Ff]
  exact ⟨_,by simp [binOp,Op.intCmp],.bool _⟩
 | leq=>
  obtain ⟨k,a,b,rfl,rfl,rfl⟩:=E6 h
  rw [AI hx,AI hy,Ff]
  exact ⟨.bool (decide (a≤b)),by simp [binOp,Op.intCmp],by rw [show (!decide (b<a))=decide (a≤b) by rw [Bool.eq_iff_iff];simp];exact .bool _⟩
 | gtr=>
  obtain ⟨k,a,b,rfl,rfl,rfl⟩:=E6 h
  rw [AI hx,AI hy,Ff]
  exact ⟨_,by simp [binOp,Op.intCmp],.bool _⟩
 | geq=>
  obtain ⟨k,a,b,rfl,rfl,rfl⟩:=E6 h
  rw [AI hx,AI hy,Ff]
  exact ⟨.bool (decide (b≤a)),by simp [binOp,Op.intCmp],by rw [show (!decide (a<b))=decide (b≤a) by rw [Bool.eq_iff_iff];simp];exact .bool _⟩
end
end Go.AM
namespace Go.AM
section
variable {P:Program}{γ:Gam}{s:St}{w:World}{t:AT}{ρ:Operand→Value}
theorem VX (op:BinOp) (ty:TypeId) (x y:Operand) (k:IntKind) (a:Int) (b:Value):(eqGuard op ty x y (.int k a) b).run P w=.ok () w:=by
 cases op <;> simp [eqGuard]
theorem VV (op:BinOp) (ty:TypeId) (x y:Operand) (a:ByteArray) (b:Value):(eqGuard op ty x y (.string a) b).run P w=.ok () w:=by
 cases op <;> simp [eqGuard]
variable {op:BinOp}{y v:AV}
theorem YA {x:AV}(h:MV op x y=.some v):(∃ k a,x=.int k a)∨(∃ a,x=.str a):=by
 cases op with
 | add=>
  rcases I2 h with h|h
  ·obtain ⟨k,a,b,e,_⟩:=E9 h;exact .inl ⟨k,a,e⟩
  ·obtain ⟨a,b,e,_⟩:=Rp h;exact .inr ⟨a,e⟩
 | sub=>obtain ⟨k,a,b,e,_⟩:=E9 h;exact .inl ⟨k,a,e⟩
 | mul=>obtain ⟨k,a,b,e,_⟩:=E9 h;exact .inl ⟨k,a,e⟩
 | quo=>obtain ⟨k,a,b,e,_⟩:=LN h;exact .inl ⟨k,a,e⟩
 | rem=>obtain ⟨k,a,b,e,_⟩:=LN h;exact .inl ⟨k,a,e⟩
 | and=>obtain ⟨k,a,b,e,_⟩:=E9 h;exact .inl ⟨k,a,e⟩
 | or=>obtain ⟨k,a,b,e,_⟩:=E9 h;exact .inl ⟨k,a,e⟩
 | xor=>obtain ⟨k,a,b,e,_⟩:=E9 h;exact .inl ⟨k,a,e⟩
 | andNot=>cases h
 | shl=>obtain ⟨k,a,k',b,e,_⟩:=LX h;exact .inl ⟨k,a,e⟩
 | shr=>obtain ⟨k,a,k',b,e,_⟩:=LX h;exact .inl ⟨k,a,e⟩
 | eql=>
  rcases I2 h with h|h
  ·obtain ⟨k,a,b,e,_⟩:=E6 h;exact .inl ⟨k,a,e⟩
  ·obtain ⟨a,b,e,_⟩:=L9 h;exact .inr ⟨a,e⟩
 | neq=>
  rcases I2 h with h|h
  ·obtain ⟨k,a,b,e,_⟩:=E6 h;exact .inl ⟨k,a,e⟩
  ·obtain ⟨a,b,e,_⟩:=L9 h;exact .inr ⟨a,e⟩
 | lss=>obtain ⟨k,a,b,e,_⟩:=E6 h;exact .inl ⟨k,a,e⟩
 | leq=>obtain ⟨k,a,b,e,_⟩:=E6 h;exact .inl ⟨k,a,e⟩
 | gtr=>obtain ⟨k,a,b,e,_⟩:=E6 h;exact .inl ⟨k,a,e⟩
 | geq=>obtain ⟨k,a,b,e,_⟩:=E6 h;exact .inl ⟨k,a,e⟩
variable {o:Oper}{ty yt:Nat}{x:Operand}{a b:AO}{s':St}
theorem JN (hs:Sim P γ s w) {y:Operand}(hx:Ag x=some a) (hy:Ag y=some b) (ho:o.op=.binOp op ty x y yt) (he:Evs γ t ρ [x,y])
 (h:UT op a b t s=.ok v s'):OpOk P γ s w ρ o v s':=by
 obtain ⟨u1,hu1,h⟩:=A9 h
 obtain ⟨u2,hu2,h⟩:=A9 h
 obtain ⟨hb,rfl⟩:=Kt h
 have h1:=he x (by simp) a u1 hx hu1
 have h2:=he y (by simp) b u2 hy hu2
 obtain ⟨v',hr,hv⟩:=Xy (P:=P) (w:=w) (ty:=ty) h1 h2 hb
 refine Ap hs v' ?_ hv
 have hg:(eqGuard op ty x y (ρ x) (ρ y)).run P w=.ok () w:=by
  rcases YA hb with ⟨k,n,rfl⟩|⟨l,rfl⟩
  ·rw [AI h1];exact VX _ _ _ _ _ _ _
  ·generalize ρ x=vx at h1
   cases h1 with
   | str _ sx e=>exact VV _ _ _ _ _ _
 simp only [execOp,ho,Zjp,hg,Zji,hr,Zjv]
theorem Zf (hs:Sim P γ s w) {op:UnOp}(hx:Ag x=some a) (ho:o.op=.unOp op ty x) (he:Evs γ t ρ [x])
 (h:Vm op a t s=.ok v s'):OpOk P γ s w ρ o v s':=by
 obtain ⟨u,hu,h⟩:=A9 h
 obtain ⟨hb,rfl⟩:=Kt h
 have h1:=he x (by simp) a u hx hu
 cases op with
 | not=>
  unfold unA at hb
  cases hc:asBool u with
  | no=>rw [hc] at hb;cases hb
  | tt=>rw [hc] at hb;cases hb;rw [JO hc] at h1;exact Ap hs (.bool false) (by simp [execOp,ho,Op.unary,FG h1]) (.bool _)
  | ff=>rw [hc] at hb;cases hb;rw [LD hc] at h1;exact Ap hs (.bool true) (by simp [execOp,ho,Op.unary,FG h1]) (.bool _)
 | neg=>
  unfold unA at hb
  cases hc:asInt u with
  | no=>rw [hc] at hb;cases hb
  | int k n=>
   rw [hc] at hb;cases hb;rw [Ej hc] at h1
   refine Ap hs (.int k (k.wrap (0-n))) (by simp [execOp,ho,Op.unary,AI h1,Op.intArith]) ?_
   rw [DT,O4];exact .int _ _
 | xor=>
  unfold unA at hb
  cases hc:asInt u with
  | no=>rw [hc] at hb;cases hb
  | int k n=>
   rw [hc] at hb;cases hb;rw [Ej hc] at h1
   refine Ap hs (.int k (EI (fun _=>BitVec.xor) k (if k.signed then -1 else k.max) n)) (by simp [execOp,ho,Op.unary,AI h1,Op.intBits];rfl) ?_
   rw [LQ (by intro n x y;rfl)];exact .int _ _
 | _=>cases hb
def KF:BinOp→Bool|.neq=>true|_=>false
theorem JA (ty:TypeId) {x y:Value}{b:Bool}(h:∀ d,(Op.equalIn (d+1) ty x y).run P w=.ok b w):(Op.equal ty x y).run P w=.ok b w:=h 9999
variable {x' y':Value}{c:Bool}{X Y:Operand}
theorem Kn {kd:Nat}{ty:TypeId}(op:BinOp) (hop:op=.eql∨op=.neq) (hg:(eqGuard op ty X Y x' y').run P w=.ok () w)
 (h1:binOp .eql ty x' y'=(do pure (.bool (← Op.equal ty x' y')))) (h2:binOp .neq ty x' y'=(do pure (.bool (!(← Op.equal ty x' y'))))) (h:(Op.equal ty x' y').run P w=.ok c w):
 (eqGuard op ty X Y x' y').run P w=.ok () w∧(binOp op ty x' y').run P w=.ok (.bool (Ec (KF op) c)) w:=by
 refine ⟨hg,?_⟩
 rcases hop with rfl|rfl
 ·rw [h1];simp [h,Ec,KF]
 ·rw [h2];simp [h,Ec,KF]
theorem J7 (op:BinOp) (ty:TypeId) (X Y:Operand) {a b:Value}(h1:∀ x,a≠.agg x) (h2:a≠.nilIface∨b≠.nilIface):(eqGuard op ty X Y a b).run P w=.ok () w:=by
 unfold eqGuard
 cases op <;> simp <;> (split <;> first|(rcases h2 with h2|h2 <;> exact absurd rfl h2)|exact absurd rfl (h1 _)|simp)
variable {kd:Nat}
set_option maxHeartbeats 2000000 in
theorem Zc8 {ty:TypeId}{x:AV}(op:BinOp) (hop:op=.eql∨op=.neq) (hk:KJ P ty=some kd) (hx:VR γ x x') (hy:VR γ y y') (h:KU kd x y=some c):
 (eqGuard op ty X Y x' y').run P w=.ok () w∧(binOp op ty x' y').run P w=.ok (.bool (Ec (KF op) c)) w:=by
 have hu:(kd=0→P.underlying ty=some .bool)∧(kd=1→∃ e,P.underlying ty=some (.pointer e))∧(kd=2→∃ e,P.underlying ty=some (.slice e))∧(kd=3→∃ e,P.underlying ty=some (.interface e))∧(kd=4→∃ a b c,P.underlying ty=some (.func a b c)):=by
  unfold KJ at hk
  split at hk <;> first|(cases hk;simp_all;done)|cases hk
 obtain ⟨u0,u1,u2,u3,u4⟩:=hu
 unfold KU at h
 split at h
 ·have hu:=u0 rfl
  cases h
  rw [FG hx,FG hy]
  (refine Kn (kd:=0) op hop ?_ ?_ ?_ ?_;exact J7 _ _ _ _ (by simp) (by simp);rfl;rfl;exact JA ty fun d=>by simp [Op.equalIn,Zjx hu])
 all_goals first
  | (obtain ⟨e,hu⟩:=u1 rfl
     cases h;cases hx <;> cases hy <;>
     (refine Kn (kd:=0) op hop ?_ ?_ ?_ ?_;exact J7 _ _ _ _ (by simp) (by simp);rfl;rfl;exact JA ty fun d=>by simp [Op.equalIn,Zjx hu]))
  | (obtain ⟨e,hu⟩:=u2 rfl
     cases h;cases hx <;> cases hy <;>
     (refine Kn (kd:=0) op hop ?_ ?_ ?_ ?_;exact J7 _ _ _ _ (by simp) (by simp);rfl;rfl;exact JA ty fun d=>by simp [Op.equalIn,Zjx hu]))
  | (obtain ⟨e,hu⟩:=u3 rfl
     cases h;cases hx <;> cases hy <;>
     (refine Kn (kd:=0) op hop ?_ ?_ ?_ ?_;exact J7 _ _ _ _ (by simp) (by simp);rfl;rfl;exact JA ty fun d=>by simp [Op.equalIn,Zjx hu]))
  | (obtain ⟨a,b,e,hu⟩:=u4 rfl
     cases h;cases hx <;> cases hy <;>
     (refine Kn (kd:=0) op hop ?_ ?_ ?_ ?_;exact J7 _ _ _ _ (by simp) (by simp);rfl;rfl;exact JA ty fun d=>by simp [Op.equalIn,Zjx hu]))
  | (cases h;done)
theorem RZ (hs:Sim P γ s w) {neg:Bool}{y:Operand}(hop:(op=.eql∧neg=false)∨(op=.neq∧neg=true)) (hk:KJ P ty=some kd) (hx:Ag x=some a) (hy:Ag y=some b)
 (ho:o.op=.binOp op ty x y yt) (he:Evs γ t ρ [x,y]) (h:UK kd neg a b t s=.ok v s'):OpOk P γ s w ρ o v s':=by
 obtain ⟨u1,hu1,h⟩:=A9 h
 obtain ⟨u2,hu2,h⟩:=A9 h
 obtain ⟨c,hc,h⟩:=AH h
 obtain ⟨rfl,rfl⟩:=Ar h
 have h1:=he x (by simp) a u1 hx hu1
 have h2:=he y (by simp) b u2 hy hu2
 obtain ⟨r1,r2⟩:=Zc8 (P:=P) (w:=w) (X:=x) (Y:=y) op (by rcases hop with ⟨h,_⟩|⟨h,_⟩ <;> simp [h]) hk h1 h2 hc
 refine Ap hs (.bool (Ec neg c)) ?_ (.bool _)
 have e:KF op=neg:=by rcases hop with ⟨rfl,rfl⟩|⟨rfl,rfl⟩ <;> rfl
 rw [e] at r2
 simp only [execOp,ho,Zjp,r1,Zji,r2,Zjv]
end
end Go.AM
namespace Go.AM
section
variable {P:Program}{γ:Gam}{s:St}{w:World}{t:AT}{ρ:Operand→Value}
variable {ty:Nat}
theorem T3 {kd:Nat}{x y:AV}{x' y':Value}{c:Bool}(hk:GW P ty=some kd) (hx:VR γ x x') (hy:VR γ y y') (h:Lh kd x y=some c) (d:Nat):(Op.equalIn (d+1) ty x' y').run P w=.ok c w:=by
 have hu:(kd=0→∃ k,P.underlying ty=some (.int k))∧(kd=1→P.underlying ty=some .bool)∧(kd=2→P.underlying ty=some .string):=by
  unfold GW at hk
  split at hk <;> first|(cases hk;simp_all;done)|cases hk
 obtain ⟨u0,u1,u2⟩:=hu
 unfold Lh at h
 split at h
 ·rename_i k a k' b
  obtain ⟨kk,hu⟩:=u0 rfl
  rw [AI hx,AI hy]
  cases hkk:BU k k' with
  | false=>rw [hkk] at h;cases h
  | true=>rw [hkk] at h;cases h;cases JK hkk;rw [F6];exact run_equalIn_int w d ty k kk a b hu
 ·cases h
  rw [FG hx,FG hy]
  exact run_equalIn_bool' w d ty _ _ (u1 rfl)
 ·cases h
  cases hx with
  | str _ sx e1=>cases hy with
   | str _ sy e2=>
    rw [Ko,← Pe e1 e2]
    exact run_equalIn_string w d ty _ _ (u2 rfl)
 ·cases h
variable {xs ys:Array Value}
theorem ZV (d:Nat):∀ (fs:List Field) (i:Nat) (ks:List Nat) (l m:List AV) (c:Bool),L5 P fs i=some ks→Jt ks l m=some c→
 All2 (VR γ) l (xs.toList.drop i)→All2 (VR γ) m (ys.toList.drop i)→(Op.eqFields (d+1) xs ys fs).run P w=.ok c w:=by
 intro fs
 induction fs with
 | nil=>
  intro i ks l m c hf he h1 h2
  cases hf
  cases l <;> cases m <;> first|(cases he;simp [Op.eqFields])|cases he
 | cons f fs ih=>
  intro i ks l m c hf he h1 h2
  unfold L5 at hf
  split at hf
  ·cases hf
  ·rename_i hn
   split at hf
   ·rename_i k r hk hr
    cases hf
    have hname : f.name ≠ "_" := fun e => hn (.inl e)
    have hoff:f.offset=i:=Classical.byContradiction fun e=>hn (.inr e)
    cases l with
    | nil=>cases he
    | cons x l=>cases m with
     | nil=>cases he
     | cons y m=>
      have hpl:C9 P f.type=some false:=by
       unfold GW at hk
       unfold C9
       split at hk <;> first|(rename_i hu;rw [hu])|cases hk
      obtain ⟨x',hx',hRx⟩:=h1.get (i:=0) (a:=x) (by simp)
      obtain ⟨y',hy',hRy⟩:=h2.get (i:=0) (a:=y) (by simp)
      rw [Zjq] at hx' hy'
      have ex:xs[i]?=some x':=by simpa using hx'
      have ey:ys[i]?=some y':=by simpa using hy'
      have t1:All2 (VR γ) l (xs.toList.drop (i+1)):=by have:=h1.drop 1;simpa [List.drop_drop] using this
      have t2:All2 (VR γ) m (ys.toList.drop (i+1)):=by have:=h2.drop 1;simpa [List.drop_drop] using this
      simp only [Jt] at he
      simp only [Op.eqFields,hname,ne_eq,not_false_eq_true,if_true,hoff,Zjp,HU hpl ex,HU hpl ey,Zji]
      cases hq:Lh k x y with
      | none=>rw [hq] at he;cases he
      | some b=>
       rw [hq] at he
       rw [T3 hk hRx hRy hq d]
       cases b with
       | true=>simpa using ih (i+1) r l m c hr he t1 t2
       | false=>cases he;simp
   ·cases hf
variable {e:Nat}
theorem Yq {k:Nat}(hk:GW P e=some k) (d:Nat):∀ (n i:Nat) (l m:List AV) (c:Bool),Jt (List.replicate n k) l m=some c→
 All2 (VR γ) l (xs.toList.drop i)→All2 (VR γ) m (ys.toList.drop i)→(Op.eqItems (d+1) e 1 xs ys (List.range' i n)).run P w=.ok c w:=by
 have hpl:C9 P e=some false:=by
  unfold GW at hk
  unfold C9
  split at hk <;> first|(rename_i hu;rw [hu])|cases hk
 intro n
 induction n with
 | zero=>
  intro i l m c he h1 h2
  cases l <;> cases m <;> first|(cases he;simp [Op.eqItems])|cases he
 | succ n ih=>
  intro i l m c he h1 h2
  rw [List.replicate_succ] at he
  cases l with
  | nil=>cases he
  | cons x l=>cases m with
   | nil=>cases he
   | cons y m=>
    obtain ⟨x',hx',hRx⟩:=h1.get (i:=0) (a:=x) (by simp)
    obtain ⟨y',hy',hRy⟩:=h2.get (i:=0) (a:=y) (by simp)
    rw [Zjq] at hx' hy'
    have ex:xs[i]?=some x':=by simpa using hx'
    have ey:ys[i]?=some y':=by simpa using hy'
    have t1:All2 (VR γ) l (xs.toList.drop (i+1)):=by have:=h1.drop 1;simpa [List.drop_drop] using this
    have t2:All2 (VR γ) m (ys.toList.drop (i+1)):=by have:=h2.drop 1;simpa [List.drop_drop] using this
    simp only [Jt] at he
    simp only [List.range'_succ,Op.eqItems,Zki,Zjp,HU hpl ex,HU hpl ey,Zji]
    cases hq:Lh k x y with
    | none=>rw [hq] at he;cases he
    | some b=>
     rw [hq] at he
     rw [T3 hk hRx hRy hq d]
     cases b with
     | true=>simpa using ih (i+1) l m c he t1 t2
     | false=>cases he;simp
variable {o:Oper}{x y:Operand}{a b:AO}{v:AV}{s':St}
theorem RY (hs:Sim P γ s w) {op:BinOp}{yt:Nat}{ks:List Nat}{neg:Bool}(hop:(op=.eql∧neg=false)∨(op=.neq∧neg=true)) (hk:MB P ty=some ks) (hx:Ag x=some a) (hy:Ag y=some b)
 (ho:o.op=.binOp op ty x y yt) (he:Evs γ t ρ [x,y]) (h:UJ ks neg a b t s=.ok v s'):OpOk P γ s w ρ o v s':=by
 obtain ⟨u1,hu1,h⟩:=A9 h
 obtain ⟨u2,hu2,h⟩:=A9 h
 obtain ⟨l,rfl,h⟩:=Ja h
 obtain ⟨m,rfl,h⟩:=Ja h
 obtain ⟨c,hc,h⟩:=AH h
 obtain ⟨rfl,rfl⟩:=Ar h
 obtain ⟨xs,e1,r1,_⟩:=Jw (he x (by simp) a _ hx hu1)
 obtain ⟨ys,e2,r2,_⟩:=Jw (he y (by simp) b _ hy hu2)
 unfold MB at hk
 split at hk
 ·rename_i fs hu
  split at hk
  ·rename_i hcond
   have hf:P.fieldsOf ty=fs:=by simp [Program.fieldsOf,hu]
   have hrun:(Op.equalIn 10000 ty (.agg xs) (.agg ys)).run P w=.ok c w:=by
    rw [run_equalIn_struct w 9999 ty xs ys (by rw [hf];exact hu) hcond.1,hf]
    exact ZV 9998 fs.toList 0 ks l m c hk hc (by simpa using r1) (by simpa using r2)
   refine Ap hs (.bool (Ec neg c)) ?_ (.bool _)
   rcases hop with ⟨rfl,rfl⟩|⟨rfl,rfl⟩
   ·simp only [execOp,ho,Zjp,e1,e2,run_eqGuard_agg w _ _ _ _ _ _ hcond.2,Zji,run_eql_struct,hrun,Zjv];rfl
   ·simp only [execOp,ho,Zjp,e1,e2,run_eqGuard_agg w _ _ _ _ _ _ hcond.2,Zji,run_neq_struct,hrun,Zjv];rfl
  ·cases hk
 ·rename_i n e hu
  split at hk
  ·rename_i hcond
   cases hpk:GW P e with
   | none=>rw [hpk] at hk;cases hk
   | some kk=>
    rw [hpk] at hk
    cases hk
    have h1:P.cellsOf e=1:=by
     have:=hcond.1
     unfold Az at this
     unfold Program.cellsOf
     rw [this];rfl
    cases hi:P.info? e with
    | none=>have:=hcond.1;unfold Az at this;rw [hi] at this;cases this
    | some inf=>
    have hrun:(Op.equalIn 10000 ty (.agg xs) (.agg ys)).run P w=.ok c w:=by
     rw [run_equalIn_array w 9999 xs ys hu hi,h1,List.range_eq_range']
     exact Yq hpk 9998 n 0 l m c hc (by simpa using r1) (by simpa using r2)
    refine Ap hs (.bool (Ec neg c)) ?_ (.bool _)
    rcases hop with ⟨rfl,rfl⟩|⟨rfl,rfl⟩
    ·simp only [execOp,ho,Zjp,e1,e2,run_eqGuard_agg w _ _ _ _ _ _ hcond.2,Zji,run_eql_struct,hrun,Zjv];rfl
    ·simp only [execOp,ho,Zjp,e1,e2,run_eqGuard_agg w _ _ _ _ _ _ hcond.2,Zji,run_neq_struct,hrun,Zjv];rfl
  ·cases hk
 ·cases hk
theorem Sf:∀ (cs:List AV) (vs:List Value) (l:List Nat) (acc:ByteArray),Ek cs=some l→All2 (VR γ) cs vs→
 ∃ bs:List UInt8,bs.map UInt8.toNat=l∧vs=bs.map (fun b=>Value.int .u8 b.toNat):=by
 intro cs
 induction cs with
 | nil=>intro vs l acc h hr;cases h;cases hr;exact ⟨[],rfl,rfl⟩
 | cons c cs ih=>
  intro vs l acc h hr
  cases hr with
  | @cons _ v _ vs' h1 h2=>
   change (IR.rec none (fun k n=>Bool.rec none (Int.rec (fun a=>Bool.rec none (Option.rec none (fun r=>some (a::r)) (Ek cs)) (Nat.blt a 256)) (fun _=>none) n) (Nat.beq (He k) 4)) (asInt c):Option (List Nat))=some l at h
   cases hc:asInt c with
   | no=>rw [hc] at h;cases h
   | int k n=>
    rw [hc] at h
    dsimp only at h
    cases hk:Nat.beq (He k) 4 with
    | false=>rw [hk] at h;cases h
    | true=>
     rw [hk] at h
     have hku:k=.u8:=by cases k <;> first|rfl|cases hk
     subst hku
     cases n with
     | negSucc n=>cases h
     | ofNat a=>
      dsimp only at h
      cases hb:Nat.blt a 256 with
      | false=>rw [hb] at h;cases h
      | true=>
       rw [hb] at h
       rw [Zkx] at hb
       cases hbo:Ek cs with
       | none=>rw [hbo] at h;cases h
       | some r=>
        rw [hbo] at h;cases h
        obtain ⟨bs,e1,e2⟩:=ih vs' r acc hbo h2
        rw [Ej hc] at h1
        refine ⟨UInt8.ofNat a::bs,?_,?_⟩
        ·simp [e1];omega
        ·rw [AI h1,e2]
         simp
         omega
theorem NL:∀ (bs:List UInt8) (acc:ByteArray),((bs.map (fun b=>(b.toNat:Int))).foldl (fun r n=>r.push (UInt8.ofNat n.toNat)) acc).data.toList=acc.data.toList++bs
 | [],acc=>by simp
 | b::bs,acc=>by rw [Zkv,List.foldl_cons,NL bs];simp [ByteArray.push]
theorem YB (hs:Sim P γ s w) {sr ds:Nat}(hsr:P.underlying sr=some (.slice e)) (hd:P.underlying ds=some .string) (hu8:P.underlying e=some (.int .u8)) (hx:Ag x=some a) (ho:o.op=.convert sr ds x) (he:Evs γ t ρ [x])
 (h:VJ a t s=.ok v s'):OpOk P γ s w ρ o v s':=by
 obtain ⟨u,hu',h⟩:=A9 h
 have hv:=he x (by simp) a u hx hu'
 have hconv:∀ (p:Option Addr) (m c:Nat),(convert sr ds (.slice p m c)).run P w=(Conv.bytesToString (.slice p m c)).run P w:=by
  intro p m c;simp [convert,Zjx hsr,Zjx hd,Zjx hu8]
 rcases EB h with ⟨r,i,n,c,rfl,h⟩|⟨rfl,h⟩|⟨rfl,h⟩|⟨n,c,l0,rfl,h⟩
 ·obtain ⟨cs,hl,h⟩:=AH h
  obtain ⟨l,hb,h⟩:=AH h
  obtain ⟨rfl,rfl⟩:=Ar h
  obtain ⟨L,cc,hL,hval⟩:∃ L cc,γ r=some L∧ρ x=.slice (some ⟨L.b,L.o+i,none⟩) n cc:=by
   generalize ρ x=vx at hv
   cases hv with
   | sl _ _ _ c L hL=>exact ⟨L,_,hL,rfl⟩
   | slu _ _ _ c L hL=>exact ⟨L,_,hL,rfl⟩
  obtain ⟨vs,e1,hc,hR,h1⟩:=H3 hs hl hL
  obtain ⟨bs,e2,e3⟩:=Sf cs vs l ByteArray.empty hb hR
  have hrun:=run_loadCells_list (P:=P) w _ vs hc
  rw [e1] at hrun
  have hb:=run_bytesToString (P:=P) w ⟨L.b,L.o+i,none⟩ n cc (bs.map (fun b=>(b.toNat:Int))) (by rw [hrun,e3];simp)
  refine Ap hs (.string ((bs.map (fun b=>(b.toNat:Int))).foldl (fun r n=>r.push (UInt8.ofNat n.toNat)) ByteArray.empty)) (by simp only [execOp,ho,Zjp,hval];rw [hconv,hb];simp only [Zji,Zjv]) (.str _ _ ?_)
  rw [NL];show List.map UInt8.toNat ([]++bs)=l;exact e2
 ·obtain ⟨rfl,rfl⟩:=Ar h
  generalize hxx:ρ x=vx at hv
  cases hv
  refine Ap hs (.string .empty) (by simp only [execOp,ho,Zjp,hxx];rw [hconv];simp [Conv.bytesToString]) (.str _ _ rfl)
 ·obtain ⟨rfl,rfl⟩:=Ar h
  generalize hxx:ρ x=vx at hv
  cases hv with
  | es ad c=>
   have hb:=run_bytesToString (P:=P) w ad 0 c [] (by simp [loadCells,loadCellsFrom])
   refine Ap hs (.string .empty) (by simp only [execOp,ho,Zjp,hxx];rw [hconv,hb];simp only [Zji,Zjv,List.foldl_nil]) (.str _ _ rfl)
 ·obtain ⟨cs,hl,h⟩:=AH h
  obtain ⟨l,hb,h⟩:=AH h
  obtain ⟨rfl,rfl⟩:=Ar h
  obtain ⟨b,i,cc,cz,vs,hval,hbz,h2,h3,h4,_,_,h5⟩:=EU hv
  obtain ⟨us,e1,g2,hR,h1⟩:=GP (k:=0) hs hbz h2 h3 h4 hl
  obtain ⟨bs,e2,e3⟩:=Sf cs us l ByteArray.empty hb hR
  rw [Zko] at g2
  have hrun:=run_loadCells_list (P:=P) w _ us (I4 hs hbz g2)
  rw [e1] at hrun
  have hb:=run_bytesToString (P:=P) w ⟨b,i,none⟩ n cc (bs.map (fun b=>(b.toNat:Int))) (by rw [hrun,e3];simp)
  refine Ap hs (.string ((bs.map (fun b=>(b.toNat:Int))).foldl (fun r n=>r.push (UInt8.ofNat n.toNat)) ByteArray.empty)) (by simp only [execOp,ho,Zjp,hval];rw [hconv,hb];simp only [Zji,Zjv]) (.str _ _ ?_)
  rw [NL];show List.map UInt8.toNat ([]++bs)=l;exact e2
variable {n:Nat}
theorem Fw {r i:Nat}{c:Option Nat}{v':Value}(h:VR γ (.sl r i n c) v'):∃ L cc,γ r=some L∧v'=.slice (some ⟨L.b,L.o+i,none⟩) n cc∧(∀ k,c=some k→cc=k):=by
 cases h with
 | sl _ _ _ c L hL=>exact ⟨L,_,hL,rfl,fun k e=>Zkn e⟩
 | slu _ _ _ c L hL=>exact ⟨L,_,hL,rfl,fun k e=>by cases e⟩
theorem Yg {by_:Nat}{z:List AV}(hu:P.underlying ty=some (.slice e)) (hn:Az P e=some n) (hby:Gy P e=some by_) (hz:D6 P e=some z) (h1n:1≤n) (hbl:by_≤4096) (hzl:z.length=n)
 (hx:Ag x=some a) (hy:Ag y=some b) (ho:o.op=.makeSlice ty x y) (he:Evs γ t ρ [x,y]) (h:Vu e n z a b t s=.ok v s'):Fresh P γ w ρ o s v s':=by
 obtain ⟨l,hl,h⟩:=Cd h
 obtain ⟨c,hc,h⟩:=Cd h
 obtain ⟨hcond,h⟩:=B9 h
 obtain ⟨rfl,rfl⟩:=Ar h
 obtain ⟨k1,h1⟩:=Kv hl
 obtain ⟨k2,h2⟩:=Kv hc
 have v1:ρ x=.int k1 (l:Int):=AI (he x (by simp) a _ hx h1)
 have v2:ρ y=.int k2 (c:Int):=AI (he y (by simp) b _ hy h2)
 simp only [Zjh] at hcond
 have hlc:=Zj3 hcond.1
 have hcm:=Zj3 hcond.2
 obtain ⟨i,zv,hi,hzz,ha⟩:=Hy hz
 obtain ⟨y1,y2⟩:=F8 (γ:=γ) ha
 have hzs:zv.cells.size=n:=by rw [← hzl];simpa using y1.length.symm
 obtain ⟨q1,q2⟩:=I1 y1 y2 (by omega) c
 rw [hzs] at q1 q2
 rw [Pj]
 refine ⟨.row e (EN z c),fun r=>.sl r 0 l (some c),.cells _ e,_,n,.slice (some ⟨w.heap.size,0,none⟩) l c,rfl,rfl,?_,fun γ' r hle hr=>⟨Ml hn q1 q2 hle,.sl r 0 l c _ hr hlc⟩⟩
 have hib:i.bytes=by_:=by simp [Gy,hi] at hby;exact hby
 have hw1:IntKind.i64.wrap (l:Int)=(l:Int):=IntWalk.i64_in (l:Int) ⟨by omega,by omega⟩
 have hw2:IntKind.i64.wrap (c:Int)=(c:Int):=IntWalk.i64_in (c:Int) ⟨by omega,by omega⟩
 have hbc:i.bytes*c≤4096*1000000:=by rw [hib];exact Nat.mul_le_mul hbl hcm
 have hroom:¬ (c*i.bytes>roomBytes):=by rw [Nat.mul_comm];simp only [roomBytes];omega
 have hlarge:((decide ((c:Int)<0) || decide ((i.bytes:Int)*(c:Int)>2^48)) || decide ((l:Int)<0) || decide ((l:Int)>(c:Int)))=false:=by
  have:(i.bytes:Int)*(c:Int)=((i.bytes*c:Nat):Int):=by simp
  rw [this]
  simp
  omega
 simp only [execOp,ho,Instr.makeSlice,Zjp,Zjx hu,Zji,Go.asInt,asIntOf,v1,v2,Zjv,typeInfo,run_program,hi,hw1,hw2,hlarge]
 rw [Zjn (by simp)]
 have hroom':(askRoom (c*i.bytes)).run P w=.ok () w:=by unfold askRoom;rw [Zjn hroom];rfl
 simp only [Int.toNat_natCast,Zjp,hroom',Zji,Ck hn]
 by_cases h0:c*n=0
 ·have hrow:(Array.range (c*n)).map (fun x=>(#[]:Array Value)[x % (#[]:Array Value).size]!)=(Array.range (c*n)).map (fun i=>zv.cells[i % n]!):=by
   rw [h0];simp
  simp only [Zjj h0,Zjp,Zjv,Zji,hrow,newRow,GG]
 ·simp only [Zjn h0,Zjp,Zjv,FT hi hzz,Zji,hzs,newRow,GG]
variable {d:Nat}
theorem Sy {x:Option AO}(h:Cb t x d=.n n):(x=none∧n=d)∨∃ a k,x=some a∧ev a t=.some (.int k (.ofNat n)):=by
 cases x with
 | none=>cases h;exact .inl ⟨rfl,rfl⟩
 | some a=>obtain ⟨k,hk⟩:=Kv h;exact .inr ⟨a,k,rfl,hk⟩
theorem VZ (k:IntKind) (i y:Nat) (code:BoundsCode) (h:i≤y):(Instr.sliceBound (.int k (i:Int)) y code).run P w=.ok i w:=by
 simp [Instr.sliceBound,asIntOf,h]
def Ge (ρ:Operand→Value) (x:Option Operand) (d n:Nat):Prop:=(x=none∧n=d)∨∃ y k,x=some y∧ρ y=.int k (n:Int)
theorem El {x:Option Operand}{a:Option AO}(hx:Dy x=some a) (he:∀ y,x=some y→Evs γ t ρ [y]) (h:Cb t a d=.n n):Ge ρ x d n:=by
 cases x with
 | none=>cases hx;rcases Sy h with ⟨_,e⟩|⟨a,k,e,_⟩
         ·exact .inl ⟨rfl,e⟩
         ·cases e
 | some y=>
  simp only [Dy] at hx
  cases ha:Ag y with
  | none=>rw [ha] at hx;cases hx
  | some b=>
   rw [ha] at hx;cases hx
   rcases Sy h with ⟨e,_⟩|⟨b',k,e,hk⟩
   ·cases e
   ·cases e;exact .inr ⟨y,k,rfl,AI (he y rfl y (by simp) b _ ha hk)⟩
variable {lo hi mx:Option Operand}{m:Nat}
theorem Ra (sl:Bool) {len cap:Nat}{l h:Nat}(h1:Ge ρ lo 0 l) (h2:Ge ρ hi len h) (h3:Ge ρ mx cap m) (hm:mx.isSome=true→hi.isSome=true) (hlh:l≤h) (hhm:h≤m) (hmc:m≤cap):
 (Instr.sliceBounds sl len cap (lo.map ρ) (hi.map ρ) (mx.map ρ)).run P w=.ok (l,h,m) w:=by
 rcases h1 with ⟨rfl,rfl⟩|⟨y1,k1,rfl,hy1⟩ <;> rcases h2 with ⟨rfl,rfl⟩|⟨y2,k2,rfl,hy2⟩ <;> rcases h3 with ⟨rfl,rfl⟩|⟨y3,k3,rfl,hy3⟩ <;>
  first
  | (simp [Instr.sliceBounds, *,VZ];done)
  | exact absurd (hm rfl) (by simp)
variable {es:Nat}{alo ahi amx:Option AO}
theorem XV (hs:Sim P γ s w) (hu:P.underlying ty=some (.slice e)) (hes:Az P e=some es)
 (hx:Ag x=some a) (hlo:Dy lo=some alo) (hhi:Dy hi=some ahi) (hmx:Dy mx=some amx) (hm:amx.isSome=true→ahi.isSome=true) (ho:o.op=.slice ty x lo hi mx)
 (he:Evs γ t ρ ([x]++lo.toList++hi.toList++mx.toList)) (h:Vo es a alo ahi amx t s=.ok v s'):OpOk P γ s w ρ o v s':=by
 obtain ⟨u,hu',h⟩:=A9 h
 have hv:=he x (by simp) a u hx hu'
 have hlo':∀ y,lo=some y→Evs γ t ρ [y]:=fun y hy z hz=>he z (by simp at hz;subst hz;simp [hy])
 have hhi':∀ y,hi=some y→Evs γ t ρ [y]:=fun y hy z hz=>he z (by simp at hz;subst hz;simp [hy])
 have hmx':∀ y,mx=some y→Evs γ t ρ [y]:=fun y hy z hz=>he z (by simp at hz;subst hz;simp [hy])
 have hms:mx.isSome=true→hi.isSome=true:=by
  intro hq
  cases mx with
  | none=>cases hq
  | some y=>cases hi with
   | some z=>rfl
   | none=>
    simp only [Dy] at hmx hhi
    cases hhi
    cases hay:Ag y with
    | none=>rw [hay] at hmx;cases hmx
    | some b=>rw [hay] at hmx;cases hmx;exact absurd (hm rfl) (by simp)
 have hfin:∀ {ad:Option Addr}{n c l h m:Nat},ρ x=.slice ad n c→Ge ρ lo 0 l→Ge ρ hi n h→Ge ρ mx c m→l≤h→h≤m→m≤c→
  (execOp ρ o).run P w=.ok (.value (.slice (if m=l then ad else ad.map (·.add (l*es))) (h-l) (m-l))) w:=by
  intro ad n c l h m e1 e2 e3 e4 e5 e6 e7
  simp only [execOp,ho,Instr.sliceAt,Zjp,Zjx hu,Zji,e1,Instr.slice,Ra (P:=P) (w:=w) true e2 e3 e4 hms e5 e6 e7,Ck hes,Zjv]
 rcases EB h with ⟨r,i,n,c,rfl,h⟩|⟨rfl,h⟩|⟨rfl,h⟩|⟨n,cap,l0,rfl,h⟩
 ·obtain ⟨l,hl,h⟩:=Cd h
  obtain ⟨q,hq,h⟩:=Cd h
  have b1:=El hlo hlo' hl
  have b2:=El hhi hhi' hq
  cases amx with
  | none=>
   have hmn:mx=none:=by
    cases mx with
    | none=>rfl
    | some y=>simp only [Dy] at hmx;cases hay:Ag y <;> rw [hay] at hmx <;> cases hmx
   subst hmn
   change PX es r i n c l q s=.ok v s' at h
   cases c with
   | some c=>
    obtain ⟨hc,h⟩:=B9 h
    obtain ⟨rfl,rfl⟩:=Ar h
    simp only [Zjh] at hc
    have c1:=Zj3 hc.1
    have c2:=Zj3 hc.2
    generalize hxx:ρ x=vx at hv
    cases hv with
    | sl _ _ _ _ L hL=>
     have hr:=hfin hxx b1 b2 (.inl ⟨rfl,rfl⟩) c1 c2 (Zj0 _)
     refine Ap hs _ hr ?_
     cases hcl:Nat.beq c l with
     | true=>
      have:=Zjl hcl
      rw [Zjj this];exact .sl _ _ _ _ L hL (by omega)
     | false=>
      have:=Zkk hcl
      rw [Zjn this]
      simp only [Option.map_some,Dp,Zlc];exact .sl _ _ _ _ L hL (by omega)
   | none=>
    obtain ⟨hc,h⟩:=B9 h
    simp only [Zjh] at hc
    have c1:=Zj3 hc.1
    have c2:=Zj3 hc.2
    generalize hxx:ρ x=vx at hv
    cases hv with
    | slu _ _ _ c L hL hnc hcm hcs=>
     have hr:=hfin hxx b1 b2 (.inl ⟨rfl,rfl⟩) c1 (Nat.le_trans c2 hnc) (Zj0 _)
     cases hln:Nat.blt l n with
     | true=>
      rw [hln] at h
      obtain ⟨rfl,rfl⟩:=Ar h
      rw [Zkx] at hln
      refine Ap hs _ hr ?_
      rw [Zjn (by omega)]
      simp only [Option.map_some,Dp,Zlc]
      refine .slu _ _ _ _ L hL (by omega) (by omega) (fun e=>?_)
      have:=hcs (by omega)
      exact Nat.le_trans (Nat.mul_le_mul_right _ (Nat.sub_le _ _)) this
     | false=>
      rw [hln] at h
      obtain ⟨rfl,rfl⟩:=Ar h
      have:¬ l<n:=fun e=>by rw [← Zkx,hln] at e;cases e
      have hq0:q-l=0:=by omega
      refine Ap hs _ hr ?_
      rw [hq0]
      by_cases e:c=l
      ·rw [Zjj e];exact .es _ _
      ·rw [Zjn e];exact .es _ _
  | some m=>
   obtain ⟨mm,hmm,h⟩:=Cd h
   obtain ⟨hc,h⟩:=B9 h
   obtain ⟨rfl,rfl⟩:=Ar h
   simp only [Zjh] at hc
   have c1:=Zj3 hc.1.1
   have c2:=Zj3 hc.1.2
   have c3:=Zj3 hc.2
   obtain ⟨k,hmm⟩:=Kv hmm
   obtain ⟨cc,hbm,hval,hle⟩:∃ L cc,γ r=some L∧ρ x=.slice (some ⟨L.b,L.o+i,none⟩) n cc∧mm≤cc:=by
    generalize ρ x=vx at hv
    cases hv with
    | sl _ _ _ c L hL=>exact ⟨L,c,hL,rfl,c3⟩
    | slu _ _ _ c L hL hnc=>exact ⟨L,c,hL,rfl,Nat.le_trans c3 hnc⟩
   have b3:Ge ρ mx hbm mm:=by
    cases mx with
    | none=>cases hmx
    | some y=>
     simp only [Dy] at hmx
     cases hay:Ag y with
     | none=>rw [hay] at hmx;cases hmx
     | some b=>
      rw [hay] at hmx
      obtain rfl:b=m:=by simpa using hmx
      exact .inr ⟨y,k,rfl,AI (hmx' y rfl y (by simp) b _ hay hmm)⟩
   have hr:=hfin hle.1 b1 b2 b3 c1 c2 hle.2
   refine Ap hs _ hr ?_
   cases hcl:Nat.beq mm l with
   | true=>
    have:=Zjl hcl
    rw [Zjj this];exact .sl _ _ _ _ cc hval (by omega)
   | false=>
    have:=Zkk hcl
    rw [Zjn this]
    simp only [Option.map_some,Dp,Zlc];exact .sl _ _ _ _ cc hval (by omega)
 ·obtain ⟨l,hl,h⟩:=Cd h
  obtain ⟨q,hq,h⟩:=Cd h
  obtain ⟨m,hmq,h⟩:=Cd h
  obtain ⟨hc,h⟩:=B9 h
  obtain ⟨rfl,rfl⟩:=Ar h
  have hc:=Zjl hc
  have b1:=El hlo hlo' hl
  have b2:=El hhi hhi' hq
  have b3:=El hmx hmx' hmq
  obtain rfl:l=0:=by omega
  obtain rfl:q=0:=by omega
  obtain rfl:m=0:=by omega
  generalize hxx:ρ x=vx at hv
  cases hv
  refine Ap hs _ (hfin hxx b1 b2 b3 (Zj0 _) (Zj0 _) (Zj0 _)) ?_
  exact .nils
 ·obtain ⟨l,hl,h⟩:=Cd h
  obtain ⟨q,hq,h⟩:=Cd h
  obtain ⟨m,hmq,h⟩:=Cd h
  obtain ⟨hc,h⟩:=B9 h
  obtain ⟨rfl,rfl⟩:=Ar h
  have hc:=Zjl hc
  have b1:=El hlo hlo' hl
  have b2:=El hhi hhi' hq
  have b3:=El hmx hmx' hmq
  obtain rfl:l=0:=by omega
  obtain rfl:q=0:=by omega
  obtain rfl:m=0:=by omega
  generalize hxx:ρ x=vx at hv
  cases hv with
  | es ad c=>
   rcases b3 with ⟨rfl,_⟩|⟨y,k,rfl,hy⟩
   ·cases hmx
    refine Ap hs _ (hfin hxx b1 b2 (.inl ⟨rfl,rfl⟩) (Zj0 _) (Zjy _) (Zj0 _)) ?_
    by_cases e:c=0
    ·rw [Zjj e];exact .es _ _
    ·rw [Zjn e];exact .es _ _
   ·refine Ap hs _ (hfin hxx b1 b2 (.inr ⟨y,k,rfl,hy⟩) (Zj0 _) (Zj0 _) (Zjy _)) ?_
    simp only [Dy] at hmx
    cases hay:Ag y with
    | none=>rw [hay] at hmx;cases hmx
    | some b=>
     rw [hay] at hmx
     cases hmx
     exact .ez _
 ·obtain ⟨l,hl,h⟩:=Cd h
  obtain ⟨q,hq,h⟩:=Cd h
  have b1:=El hlo hlo' hl
  have b2:=El hhi hhi' hq
  obtain ⟨b,i,cc,cz,vs,hval,hbz,h2,h3,h4,hnc,hck,h5⟩:=EU hv
  cases amx with
  | none=>
   have hmn:mx=none:=by
    cases mx with
    | none=>rfl
    | some y=>simp only [Dy] at hmx;cases hay:Ag y <;> rw [hay] at hmx <;> cases hmx
   subst hmn
   change KN es n cap l0 l q s=.ok v s' at h
   obtain ⟨hc,h⟩:=B9 h
   simp only [Zjh] at hc
   have c1:=Zj3 hc.1
   have c2:=Zj3 hc.2
   have hr:=hfin hval b1 b2 (.inl ⟨rfl,rfl⟩) c1 (Nat.le_trans c2 hnc) (Zj0 _)
   cases hln:Nat.blt l n with
   | true=>
    rw [hln] at h
    obtain ⟨cs',ht,h⟩:=AH h
    obtain ⟨rfl,rfl⟩:=Ar h
    rw [Zkx] at hln
    refine Ap hs _ hr ?_
    rw [Zjn (by omega)]
    simp only [Option.map_some,Dp]
    obtain ⟨us,e1,g2,hR,h1⟩:=GP hs hbz h2 h3 h4 ht
    refine .fz _ _ _ us b _ _ cz hbz g2 h1 hR (by omega) ?_ (TY h5 ht)
    intro k hk
    cases cap with
    | none=>cases hk
    | some c=>cases hk;rw [hck c rfl]
   | false=>
    rw [hln] at h
    obtain ⟨rfl,rfl⟩:=Ar h
    have:¬ l<n:=fun e=>by rw [← Zkx,hln] at e;cases e
    have hq0:q-l=0:=by omega
    refine Ap hs _ hr ?_
    rw [hq0]
    by_cases e:cc=l
    ·rw [Zjj e];exact .es _ _
    ·rw [Zjn e];exact .es _ _
  | some m=>
   obtain ⟨mm,hmm,h⟩:=Cd h
   obtain ⟨hc,h⟩:=B9 h
   simp only [Zjh] at hc
   have c1:=Zj3 hc.1.1
   have c2:=Zj3 hc.1.2
   have c3:=Zj3 hc.2
   obtain ⟨k,hmm⟩:=Kv hmm
   have b3:Ge ρ mx cc mm:=by
    cases mx with
    | none=>cases hmx
    | some y=>
     simp only [Dy] at hmx
     cases hay:Ag y with
     | none=>rw [hay] at hmx;cases hmx
     | some b=>
      rw [hay] at hmx
      obtain rfl:b=m:=by simpa using hmx
      exact .inr ⟨y,k,rfl,AI (hmx' y rfl y (by simp) b _ hay hmm)⟩
   have hr:=hfin hval b1 b2 b3 c1 c2 (Nat.le_trans c3 hnc)
   cases hln:Nat.blt l mm with
   | true=>
    rw [hln] at h
    obtain ⟨cs',ht,h⟩:=AH h
    obtain ⟨rfl,rfl⟩:=Ar h
    rw [Zkx] at hln
    refine Ap hs _ hr ?_
    rw [Zjn (by omega)]
    simp only [Option.map_some,Dp]
    obtain ⟨us,e1,g2,hR,h1⟩:=GP hs hbz h2 h3 h4 ht
    exact .fz _ _ _ us b _ _ cz hbz g2 h1 hR (by omega) (fun k hk=>by cases hk;rfl) (TY h5 ht)
   | false=>
    rw [hln] at h
    obtain ⟨rfl,rfl⟩:=Ar h
    have:¬ l<mm:=fun e=>by rw [← Zkx,hln] at e;cases e
    have hq0:q-l=0:=by omega
    refine Ap hs _ hr ?_
    rw [hq0]
    rw [Zjj (show mm=l by omega),show mm-l=0 by omega];exact .ez _
theorem XW (hs:Sim P γ s w) (hu:P.underlying ty=some (.array n e)) (hes:Az P e=some es)
 (hx:Ag x=some a) (hlo:Dy lo=some alo) (hhi:Dy hi=some ahi) (hmx:Dy mx=some amx) (hms:mx.isSome=true→hi.isSome=true) (ho:o.op=.slice ty x lo hi mx)
 (he:Evs γ t ρ ([x]++lo.toList++hi.toList++mx.toList)) (h:Vq es n a alo ahi amx t s=.ok v s'):OpOk P γ s w ρ o v s':=by
 obtain ⟨u,hu',h⟩:=A9 h
 have hlo':∀ y,lo=some y→Evs γ t ρ [y]:=fun y hy z hz=>he z (by simp at hz;subst hz;simp [hy])
 have hhi':∀ y,hi=some y→Evs γ t ρ [y]:=fun y hy z hz=>he z (by simp at hz;subst hz;simp [hy])
 have hmx':∀ y,mx=some y→Evs γ t ρ [y]:=fun y hy z hz=>he z (by simp at hz;subst hz;simp [hy])
 obtain ⟨r,i,rfl,h⟩:=Mo h
 obtain ⟨L,hL,hv⟩:=Hk (he x (by simp) a _ hx hu')
 obtain ⟨l,hl,h⟩:=Cd h
 obtain ⟨q,hq,h⟩:=Cd h
 obtain ⟨m,hmq,h⟩:=Cd h
 obtain ⟨hc,h⟩:=B9 h
 obtain ⟨rfl,rfl⟩:=Ar h
 simp only [Zjh] at hc
 have c1:=Zj3 hc.1.1
 have c2:=Zj3 hc.1.2
 have c3:=Zj3 hc.2
 have b1:=El hlo hlo' hl
 have b2:=El hhi hhi' hq
 have b3:=El hmx hmx' hmq
 refine Ap hs (.slice (some (if m=l then ⟨L.b,L.o+i,none⟩ else (⟨L.b,L.o+i,none⟩:Addr).add (l*es))) (q-l) (m-l)) ?_ ?_
 ·simp only [execOp,ho,Instr.sliceAt,Zjp,Zjx hu,Zji,hv,Instr.sureAddr,Ra (P:=P) (w:=w) false b1 b2 b3 hms c1 c2 c3,Ck hes,Zjv]
 ·cases hcl:Nat.beq m l with
  | true=>
   have:=Zjl hcl
   rw [Zjj this];exact .sl _ _ _ _ L hL (by omega)
  | false=>
   have:=Zkk hcl
   rw [Zjn this]
   simp only [Dp,Zlc];exact .sl _ _ _ _ L hL (by omega)
theorem Yo (hs:Sim P γ s w) (hu:P.underlying ty=some (.slice e)) (hes:Az P e=some es) (hx:Ag x=some a) (hy:Ag y=some b) (ho:o.op=.indexAddr ty x y) (he:Evs γ t ρ [x,y])
 (h:V3 es a b t s=.ok v s'):OpOk P γ s w ρ o v s':=by
 obtain ⟨u1,hu1,h⟩:=A9 h
 obtain ⟨u2,hu2,h⟩:=A9 h
 obtain ⟨i,hi,h⟩:=Cd h
 obtain ⟨k,rfl⟩:=HB hi
 rcases EB h with ⟨r,o',n,c,rfl,h⟩|⟨rfl,h⟩|⟨rfl,h⟩|⟨n,c,l,rfl,h⟩
 ·obtain ⟨hc,h⟩:=B9 h
  obtain ⟨rfl,rfl⟩:=Ar h
  rw [Zkx] at hc
  obtain ⟨L,cc,hL,hv,_⟩:=Fw (he x (by simp) a _ hx hu1)
  have hv2:ρ y=.int k (i:Int):=AI (he y (by simp) b _ hy hu2)
  refine Ap hs (.pointer (some ⟨L.b,L.o+(o'+i*es),none⟩)) ?_ (.ptr _ _ L hL)
  simp [execOp,ho,Instr.indexAt,hv,hv2,asIntOf,Zjx hu,hc,Ck hes,Dp,Zlc]
 ·cases h
 ·cases h
 ·obtain ⟨hc,h⟩:=B9 h
  obtain ⟨rfl,rfl⟩:=Ar h
  rw [Zkx] at hc
  obtain ⟨bb,o',cc,cz,vs,hv,hbz,h2,h3,h4,_,_,h5⟩:=EU (he x (by simp) a _ hx hu1)
  have hv2:ρ y=.int k (i:Int):=AI (he y (by simp) b _ hy hu2)
  refine Ap hs (.pointer (some ⟨bb,o'+i*es,none⟩)) ?_ (OK hbz h2 h3 h4 h5)
  simp [execOp,ho,Instr.indexAt,hv,hv2,asIntOf,Zjx hu,hc,Ck hes,Dp]
theorem Yp (hs:Sim P γ s w) (hu:P.underlying ty=some (.array n e)) (hes:Az P e=some es) (hx:Ag x=some a) (hy:Ag y=some b) (ho:o.op=.indexAddr ty x y) (he:Evs γ t ρ [x,y])
 (h:V4 n es a b t s=.ok v s'):OpOk P γ s w ρ o v s':=by
 obtain ⟨u1,hu1,h⟩:=A9 h
 obtain ⟨u2,hu2,h⟩:=A9 h
 obtain ⟨i,hi,h⟩:=Cd h
 obtain ⟨k,rfl⟩:=HB hi
 have hv2:ρ y=.int k (i:Int):=AI (he y (by simp) b _ hy hu2)
 rcases Ma h with ⟨r,o',rfl,h⟩|⟨l,rfl,h⟩
 ·obtain ⟨hc,h⟩:=B9 h
  obtain ⟨rfl,rfl⟩:=Ar h
  rw [Zkx] at hc
  obtain ⟨L,hL,hv⟩:=Hk (he x (by simp) a _ hx hu1)
  refine Ap hs (.pointer (some ⟨L.b,L.o+(o'+i*es),none⟩)) ?_ (.ptr _ _ L hL)
  simp [execOp,ho,Instr.indexAt,hv,hv2,asIntOf,Zjx hu,hc,Ck hes,Dp,Zlc,Instr.sureAddr]
 ·obtain ⟨hc,h⟩:=B9 h
  obtain ⟨rfl,rfl⟩:=Ar h
  rw [Zkx] at hc
  obtain ⟨bb,o',cz,vs,hv,hbz,h2,h3,h4,h5⟩:=fpV (he x (by simp) a _ hx hu1)
  refine Ap hs (.pointer (some ⟨bb,o'+i*es,none⟩)) ?_ (OK hbz h2 h3 h4 h5)
  simp [execOp,ho,Instr.indexAt,hv,hv2,asIntOf,Zjx hu,hc,Ck hes,Dp,Instr.sureAddr]
theorem Yn (hs:Sim P γ s w) (hu:P.underlying ty=some (.array n e)) (hes:Az P e=some 1) (hag:C9 P e=some false) (hx:Ag x=some a) (hy:Ag y=some b) (ho:o.op=.index ty x y) (he:Evs γ t ρ [x,y])
 (h:V2 n a b t s=.ok v s'):OpOk P γ s w ρ o v s':=by
 obtain ⟨u1,hu1,h⟩:=A9 h
 obtain ⟨u2,hu2,h⟩:=A9 h
 obtain ⟨i,hi,h⟩:=Cd h
 obtain ⟨k,rfl⟩:=HB hi
 obtain ⟨l,rfl,h⟩:=Ja h
 obtain ⟨hc,h⟩:=B9 h
 obtain ⟨hk,rfl⟩:=ID h
 rw [HG] at hk
 rw [Zkx] at hc
 obtain ⟨cs,hv,hR,_⟩:=Jw (he x (by simp) a _ hx hu1)
 have hv2:ρ y=.int k (i:Int):=AI (he y (by simp) b _ hy hu2)
 obtain ⟨v',hv',hRv⟩:=hR.get hk
 refine Ap hs v' ?_ hRv
 have hp:=HU (P:=P) (w:=w) hag (show cs[i]?=some v' by simpa using hv')
 simp [execOp,ho,Instr.index,hv,hv2,asIntOf,Zjx hu,hc,Ck hes,hp]
theorem Xn (hs:Sim P γ s w) (hu:P.underlying ty=some (.array n e)) (hes:Az P e=some m) (hag:C9 P e=some true) (hx:Ag x=some a) (hy:Ag y=some b) (ho:o.op=.index ty x y) (he:Evs γ t ρ [x,y])
 (h:UF n m a b t s=.ok v s'):OpOk P γ s w ρ o v s':=by
 obtain ⟨u1,hu1,h⟩:=A9 h
 obtain ⟨u2,hu2,h⟩:=A9 h
 obtain ⟨i,hi,h⟩:=Cd h
 obtain ⟨k,rfl⟩:=HB hi
 obtain ⟨l,rfl,h⟩:=Ja h
 obtain ⟨hc,h⟩:=B9 h
 obtain ⟨cs,hk,h'⟩:=AH h
 obtain ⟨rfl,rfl⟩:=Ar h'
 rw [Zkx] at hc
 obtain ⟨e1,hle⟩:=JD _ hk
 rw [GH] at e1 hle
 subst e1
 obtain ⟨c,hv,hR,h1⟩:=Jw (he x (by simp) a _ hx hu1)
 have hv2:ρ y=.int k (i:Int):=AI (he y (by simp) b _ hy hu2)
 have e2:(c.extract (i*m) (i*m+m)).toList=(c.toList.drop (i*m)).take m:=by simp [Array.toList_extract,List.extract_eq_take_drop]
 refine Ap hs (.agg (c.extract (i*m) (i*m+m))) ?_ (.agg _ _ (by rw [e2];exact (hR.drop _).take _) (by rw [e2];exact fun v hv=>h1 v (Zkr (Zkm hv))))
 simp [execOp,ho,Instr.index,hv,hv2,asIntOf,Zjx hu,hc,Ck hes,U5 hag hes]
theorem D3 {b:Builtin}{args:Array Operand}{ts:Array TypeId}(ho:o.op=.call { callee:=.builtin b,args:=args,argTypes:=ts }):
 (execOp ρ o).run P w=(builtin b ts o.type (args.map fun|.const _=>true|_=>false) (args.map ρ)).run P w:=by
 simp only [execOp,ho,resolve,Zjp,Zjv,Zji,invoke]
 rfl
theorem Yk (hs:Sim P γ s w) {T:Nat}(hu:P.underlying T=some (.slice e)) (hx:Ag x=some a) (ho:o.op=.call { callee:=.builtin .len,args:=#[x],argTypes:=#[T] }) (he:Evs γ t ρ [x])
 (h:Vw a t s=.ok v s'):OpOk P γ s w ρ o v s':=by
 obtain ⟨u,hu',h⟩:=A9 h
 have hv:=he x (by simp) a u hx hu'
 have hrun:∀ (p:Option Addr) (n c:Nat),ρ x=.slice p n c→(execOp ρ o).run P w=.ok (.value (.int .i64 n)) w:=by
  intro p n c e1
  rw [D3 ho]
  have hl:∀ ty,(Builtin.len_ #[T] ty #[.slice p n c]).run P w=.ok (goInt n) w:=fun ty=>by simp [Builtin.len_,Zjx hu]
  simp only [builtin,Zk4,Zkv,Zlh,e1,Zjp,hl,Zji,Zjv]
  rfl
 rcases EB h with ⟨r,i,n,c,rfl,h⟩|⟨rfl,h⟩|⟨rfl,h⟩|⟨n,c,l,rfl,h⟩
 ·obtain ⟨rfl,rfl⟩:=Ar h
  obtain ⟨L,cc,hL,hval,_⟩:=Fw hv
  exact Ap hs _ (hrun _ _ _ hval) (.int _ _)
 ·obtain ⟨rfl,rfl⟩:=Ar h
  generalize hxx:ρ x=vx at hv
  cases hv
  exact Ap hs _ (hrun _ _ _ hxx) (.int _ _)
 ·obtain ⟨rfl,rfl⟩:=Ar h
  generalize hxx:ρ x=vx at hv
  cases hv
  exact Ap hs _ (hrun _ _ _ hxx) (.int _ _)
 ·obtain ⟨rfl,rfl⟩:=Ar h
  obtain ⟨bb,o',cc,cz,vs,hval,_⟩:=EU hv
  exact Ap hs _ (hrun _ _ _ hval) (.int _ _)
theorem X1 (hs:Sim P γ s w) {T:Nat}(hu:P.underlying T=some (.array n e)) (ho:o.op=.call { callee:=.builtin .len,args:=#[x],argTypes:=#[T] })
 (h:UX n t s=.ok v s'):OpOk P γ s w ρ o v s':=by
 obtain ⟨rfl,rfl⟩:=Ar h
 refine Ap hs (.int .i64 n) ?_ (.int _ _)
 rw [D3 ho]
 have hl:∀ ty u,(Builtin.len_ #[T] ty #[u]).run P w=.ok (goInt n) w:=fun ty u=>by simp [Builtin.len_,Zjx hu]
 simp only [builtin,Zk4,Zkv,Zlh,Zjp,hl,Zji,Zjv]
 rfl
end
end Go.AM
namespace Go.AM
section
variable {P:Program}{γ:Gam}{s:St}{w:World}{t:AT}{ρ:Operand→Value}
theorem Zfl (mx:Bool):∀ (l:List AV) (x v:AV) (x':Value) (l':List Value),mm mx l x=.some v→VR γ x x'→All2 (VR γ) l l'→
 ∃ v',(l'.foldlM (if mx then Builtin.max2 else Builtin.min2) x').run P w=.ok v' w∧VR γ v v':=by
 intro l
 induction l with
 | nil=>intro x v x' l' h hx hl;cases hl;cases h;exact ⟨x',rfl,hx⟩
 | cons y l ih=>
  intro x v x' l' h hx hl
  cases hl with
  | @cons _ y' _ l'' hy hl=>
   change (IR.rec .none (fun k a=>IR.rec .none (fun k' b=>Bool.rec .none (mm mx l (.int k (Bool.rec a b (Bool.rec (DN b a) (DN a b) mx)))) (BU k k')) (asInt y)) (asInt x):OV)=.some v at h
   cases hx1:asInt x with
   | no=>rw [hx1] at h;cases h
   | int k a=>
    rw [hx1] at h
    cases hy1:asInt y with
    | no=>rw [hy1] at h;cases h
    | int k' b=>
     rw [hy1] at h
     dsimp only at h
     cases hk:BU k k' with
     | false=>rw [hk] at h;cases h
     | true=>
      rw [hk] at h
      dsimp only at h
      rw [Ej hx1] at hx
      rw [Ej hy1] at hy
      rw [AI hx,AI hy]
      obtain ⟨v',r1,r2⟩:=ih _ v (.int k (Bool.rec a b (Bool.rec (DN b a) (DN a b) mx))) l'' h (.int _ _) hl
      refine ⟨v',?_,r2⟩
      rw [← r1]
      simp only [List.foldlM_cons,Zjp]
      cases mx with
      | true=>
       simp only [if_true,Builtin.max2,Zjv,Zji,Ff]
       by_cases hab:a<b <;> simp [hab]
      | false=>
       simp only [Bool.false_eq_true,if_false,Builtin.min2,Zjv,Zji,Ff]
       by_cases hab:b<a <;> simp [hab]
variable {o:Oper}{v:AV}{s':St}
theorem S2 (hs:Sim P γ s w) {mx:Bool}{ts:Array TypeId}{xs:Array Operand}{as:List AO}(hx:E0 xs.toList=some as) (ho:o.op=.call { callee:=.builtin (if mx then .max else .min),args:=xs,argTypes:=ts }) (he:Evs γ t ρ xs.toList)
 (h:mnA mx as t s=.ok v s'):OpOk P γ s w ρ o v s':=by
 obtain ⟨l,hl,h⟩:=AH h
 have hR:=HC (γ:=γ) (ρ:=ρ) hx hl he
 cases l with
 | nil=>cases h
 | cons x l=>
  obtain ⟨hm,rfl⟩:=Kt h
  generalize hvs:xs.toList.map ρ=vs at hR
  cases hR with
  | @cons _ x' _ l' h1 h2=>
   obtain ⟨v',r1,r2⟩:=Zfl (P:=P) (w:=w) mx l x v x' l' hm h1 h2
   refine Ap hs v' ?_ r2
   rw [D3 ho]
   cases mx with
   | true=>
    simp only [if_true] at r1 ⊢
    simp only [builtin,Builtin.max_,Array.toList_map,hvs,Zjp,r1,Zji,Zjv]
   | false=>
    simp only [Bool.false_eq_true,if_false] at r1 ⊢
    simp only [builtin,Builtin.min_,Array.toList_map,hvs,Zjp,r1,Zji,Zjv]
variable {es:Nat}
theorem XU (hs:Sim P γ s w) {x:AV}{x':Value}{cs:List AV}(hx:VR γ x x') (h:EG es x s=some cs):
 ∃ p n c vs,x'=.slice p n c∧All2 (VR γ) cs vs∧(∀ v ∈ vs,v.oneCell'=true)∧vs.length=n*es∧(p=none→n=0)∧∀ a,p=some a→∀ j u,vs[j]?=some u→w.cell? (a.add j)=some u:=by
 unfold EG at h
 cases hsl:B1 x with
 | no=>rw [hsl] at h;cases h
 | sl r i n c=>
  rw [hsl] at h
  rw [OW hsl] at hx
  obtain ⟨L,cc,hL,rfl,_⟩:=Fw hx
  obtain ⟨vs,e1,hc,hR,h1⟩:=H3 hs h hL
  exact ⟨_,n,cc,vs,rfl,hR,h1,e1,(fun e=>by cases e),(fun a e=>by cases e;exact hc)⟩
 | nils=>
  rw [hsl] at h;cases h
  rw [Od hsl] at hx
  cases hx
  exact ⟨none,0,0,[],rfl,.nil,by simp,by simp,fun _=>rfl,(fun a e=>by cases e)⟩
 | es=>
  rw [hsl] at h;cases h
  rw [OX hsl] at hx
  cases hx with
  | es a c=>exact ⟨some a,0,c,[],rfl,.nil,by simp,by simp,fun _=>rfl,fun a _ j u hu=>by simp at hu⟩
 | fz n c l=>
  rw [hsl] at h
  rw [TG hsl] at hx
  obtain ⟨b,o,cc,cz,vs,rfl,hbz,h2,h3,h4,_,_,h5⟩:=EU hx
  obtain ⟨us,e1,g2,hR,h1⟩:=GP (k:=0) hs hbz h2 h3 h4 h
  rw [Zko] at g2
  exact ⟨_,n,cc,us,rfl,hR,h1,e1,(fun e=>by cases e),(fun a e=>by cases e;exact I4 hs hbz g2)⟩
variable {e:Nat}{x:Operand}{a:AO}
theorem Xu (hs:Sim P γ s w) {T U:Nat}{y:Operand}{b:AO}(hu:P.underlying T=some (.slice e)) (hes:Az P e=some es) (hx:Ag x=some a) (hy:Ag y=some b) (ho:o.op=.call { callee:=.builtin .copy,args:=#[x,y],argTypes:=#[T,U] }) (he:Evs γ t ρ [x,y])
 (h:UN es a b t s=.ok v s'):OpOk P γ s w ρ o v s':=by
 obtain ⟨u1,hu1,h⟩:=A9 h
 obtain ⟨u2,hu2,h⟩:=A9 h
 have h1:=he x (by simp) a u1 hx hu1
 have h2:=he y (by simp) b u2 hy hu2
 have hzero:∀ (p q:Option Addr) (n n' c c':Nat),ρ x=.slice p n c→ρ y=.slice q n' c'→Nat.min n' n=0→(execOp ρ o).run P w=.ok (.value (.int .i64 (0:Nat))) w:=by
  intro p q n n' c c' e1 e2 e3
  rw [D3 ho]
  have hf:(Builtin.firstCells es 0 (.slice q n' c')).run P w=.ok #[] w:=by cases q <;> simp [Builtin.firstCells,loadCells,loadCellsFrom]
  have hl:∀ ty,(Builtin.copy_ #[T,U] ty #[.slice p n c,.slice q n' c']).run P w=.ok (goInt (0:Nat)) w:=by
   intro ty
   simp only [Builtin.copy_,Zla,List.getElem?_cons_zero,List.getElem?_cons_succ,Zjp,Zjx hu,Zji,Builtin.lenOf,Zjv,Ck hes,e3,hf]
   cases p <;> simp [storeCells]
  simp only [builtin,Zk4,Zkv,Zlh,e1,e2,Zjp,hl,Zji,Zjv]
  rfl
 rcases Uz h with ⟨r,i,n,c,rfl,h⟩|⟨rfl,h⟩|⟨rfl,h⟩
 ·obtain ⟨L,cc,hL,hv1,_⟩:=Fw h1
  rcases EB h with ⟨r',i',n',c',rfl,h⟩|⟨rfl,h⟩|⟨rfl,h⟩|⟨n',c',l',rfl,h⟩
  ·obtain ⟨cs,hl,h⟩:=AH h
   obtain ⟨hst,rfl⟩:=Kf h
   obtain ⟨L',cc',hL',hv2,_⟩:=Fw h2
   obtain ⟨vs,e1,hc,hR,h1'⟩:=H3 hs hl hL'
   obtain ⟨w',hrun,hstp,hsim⟩:=JB hs hst hL hR h1'
   refine ⟨γ,w',hstp,hsim,.inl ⟨.int .i64 (Nat.min n' n:Nat),?_,.int _ _⟩⟩
   rw [D3 ho]
   have hlc:=run_loadCells_list (P:=P) w _ vs hc
   rw [e1] at hlc
   have hf:(Builtin.firstCells es (Nat.min n' n) (.slice (some ⟨L'.b,L'.o+i',none⟩) n' cc')).run P w=.ok vs.toArray w:=by
    simp only [Builtin.firstCells];exact hlc
   have hll:∀ ty,(Builtin.copy_ #[T,U] ty #[.slice (some ⟨L.b,L.o+i,none⟩) n cc,.slice (some ⟨L'.b,L'.o+i',none⟩) n' cc']).run P w=.ok (goInt (Nat.min n' n:Nat)) w':=by
    intro ty
    simp only [Builtin.copy_,Zla,List.getElem?_cons_zero,List.getElem?_cons_succ,Zjp,Zjx hu,Zji,Builtin.lenOf,Zjv,Ck hes,hf,hrun]
   simp only [builtin,Zk4,Zkv,Zlh,hv1,hv2,Zjp,hll,Zji,Zjv]
   rfl
  ·obtain ⟨rfl,rfl⟩:=Ar h
   generalize hyy:ρ y=vy at h2
   cases h2
   exact Ap hs _ (hzero _ _ _ _ _ _ hv1 hyy (by simp)) (.int _ _)
  ·obtain ⟨rfl,rfl⟩:=Ar h
   generalize hyy:ρ y=vy at h2
   cases h2
   exact Ap hs _ (hzero _ _ _ _ _ _ hv1 hyy (by simp)) (.int _ _)
  ·obtain ⟨cs,hl,h⟩:=AH h
   obtain ⟨hst,rfl⟩:=Kf h
   obtain ⟨bz,oz,cc',cz,zs,hv2,hbz,g1,g3,g4,_,_,g5⟩:=EU h2
   obtain ⟨vs,e1,g2,hR,h1'⟩:=GP (k:=0) hs hbz g1 g3 g4 hl
   rw [Zko] at g2
   obtain ⟨w',hrun,hstp,hsim⟩:=JB hs hst hL hR h1'
   refine ⟨γ,w',hstp,hsim,.inl ⟨.int .i64 (Nat.min n' n:Nat),?_,.int _ _⟩⟩
   rw [D3 ho]
   have hlc:=run_loadCells_list (P:=P) w _ vs (I4 hs hbz g2)
   rw [e1] at hlc
   have hf:(Builtin.firstCells es (Nat.min n' n) (.slice (some ⟨bz,oz,none⟩) n' cc')).run P w=.ok vs.toArray w:=by
    simp only [Builtin.firstCells];exact hlc
   have hll:∀ ty,(Builtin.copy_ #[T,U] ty #[.slice (some ⟨L.b,L.o+i,none⟩) n cc,.slice (some ⟨bz,oz,none⟩) n' cc']).run P w=.ok (goInt (Nat.min n' n:Nat)) w':=by
    intro ty
    simp only [Builtin.copy_,Zla,List.getElem?_cons_zero,List.getElem?_cons_succ,Zjp,Zjx hu,Zji,Builtin.lenOf,Zjv,Ck hes,hf,hrun]
   simp only [builtin,Zk4,Zkv,Zlh,hv1,hv2,Zjp,hll,Zji,Zjv]
   rfl
 all_goals
  obtain ⟨q,n',c',hyv⟩:∃ q n' c',ρ y=.slice q n' c':=by
   rcases EB h with ⟨r',i',n',c',rfl,h⟩|⟨rfl,h⟩|⟨rfl,h⟩|⟨n',c',l',rfl,h⟩
   ·obtain ⟨L',cc',hL',hv2,_⟩:=Fw h2;exact ⟨_,_,_,hv2⟩
   ·generalize ρ y=vy at h2;cases h2;exact ⟨_,_,_,rfl⟩
   ·generalize ρ y=vy at h2;cases h2;exact ⟨_,_,_,rfl⟩
   ·obtain ⟨bz,oz,cc',cz,zs,hv2,_⟩:=EU h2;exact ⟨_,_,_,hv2⟩
  obtain ⟨rfl,rfl⟩:v=Ch 0∧s'=s:=by
   rcases EB h with ⟨r',i',n',c',rfl,h⟩|⟨rfl,h⟩|⟨rfl,h⟩|⟨n',c',l',rfl,h⟩ <;> (cases h;exact ⟨rfl,rfl⟩)
  generalize hxx:ρ x=vx at h1
  cases h1
  exact Ap hs _ (hzero _ _ _ _ _ _ hxx hyv (by simp)) (.int _ _)
theorem Y6 (hs:Sim P γ s w) {T n:Nat}{z:List AV}(hu:P.underlying T=some (.slice e)) (hn:Az P e=some n) (hz:D6 P e=some z) (h1n:1≤n) (hzl:z.length=n) (hx:Ag x=some a)
 (ho:o.op=.call { callee:=.builtin .clear,args:=#[x],argTypes:=#[T] }) (he:Evs γ t ρ [x]) (h:VA z a t s=.ok v s'):OpOk P γ s w ρ o v s':=by
 obtain ⟨u,hu',h⟩:=A9 h
 have hv:=he x (by simp) a u hx hu'
 obtain ⟨i,zv,hi,hzz,ha⟩:=Hy hz
 obtain ⟨y1,y2⟩:=F8 (γ:=γ) ha
 have hzs:zv.cells.size=n:=by rw [← hzl];simpa using y1.length.symm
 rcases Uz h with ⟨r,o',k,c,rfl,h⟩|⟨rfl,h⟩|⟨rfl,h⟩
 ·obtain ⟨hst,rfl⟩:=Kf h
  obtain ⟨L,cc,hL,hv1,_⟩:=Fw hv
  obtain ⟨q1,q2⟩:=I1 y1 y2 (by omega) k
  rw [Pj] at hst
  obtain ⟨w',hrun,hstp,hsim⟩:=JB hs hst hL q1 q2
  refine ⟨γ,w',hstp,hsim,.inl ⟨.tuple #[],?_,.tup _ _ .nil⟩⟩
  rw [D3 ho]
  have hzc:Builtin.zeroCells zv.cells k=(Array.range (k*zv.cells.size)).map (fun i=>zv.cells[i % zv.cells.size]!):=rfl
  have hl:∀ ty,(Builtin.clear_ #[T] ty #[.slice (some ⟨L.b,L.o+o',none⟩) k cc]).run P w=.ok (.tuple #[]) w':=by
   intro ty
   cases k with
   | zero=>
    have:w'=w:=by simp [storeCells] at hrun;exact hrun.symm
    subst this
    simp [Builtin.clear_,Zjx hu]
   | succ k=>
    simp only [Builtin.clear_,Zla,List.getElem?_cons_zero,Zjp,Zjx hu,Zji,FT hi hzz,hzc,hrun,Zjv]
  simp only [builtin,Zk4,Zkv,Zlh,hv1,Zjp,hl,Zji,Zjv]
 ·obtain ⟨rfl,rfl⟩:=Ar h
  generalize hxx:ρ x=vx at hv
  cases hv
  refine Ap hs (.tuple #[]) ?_ (.tup _ _ .nil)
  rw [D3 ho]
  have hl:∀ ty,(Builtin.clear_ #[T] ty #[.slice none 0 0]).run P w=.ok (.tuple #[]) w:=by
   intro ty;simp [Builtin.clear_,Zjx hu]
  simp only [builtin,Zk4,Zkv,Zlh,hxx,Zjp,hl,Zji,Zjv]
 ·obtain ⟨rfl,rfl⟩:=Ar h
  generalize hxx:ρ x=vx at hv
  cases hv with
  | es ad c=>
   refine Ap hs (.tuple #[]) ?_ (.tup _ _ .nil)
   rw [D3 ho]
   have hl:∀ ty,(Builtin.clear_ #[T] ty #[.slice (some ad) 0 c]).run P w=.ok (.tuple #[]) w:=by
    intro ty;simp [Builtin.clear_,Zjx hu]
   simp only [builtin,Zk4,Zkv,Zlh,hxx,Zjp,hl,Zji,Zjv]
end
end Go.AM
namespace Go.AM
section
variable {P:Program}{γ:Gam}{s:St}{w:World}{t:AT}{ρ:Operand→Value}
variable {r:Nat}
theorem sluV {i n:Nat}{v':Value}(h:VR γ (.sl r i n none) v'):∃ L cc,γ r=some L∧v'=.slice (some ⟨L.b,L.o+i,none⟩) n cc∧n≤cc∧cc≤maxLen∧(i=0→cc*L.es≤L.sz):=by
 cases h with
 | slu _ _ _ c L hL a b d=>exact ⟨L,c,hL,rfl,a,b,d⟩
theorem Sim.kill (h:Sim P γ s w) {L:Loc}(hL:γ r=some L):Stp γ s w γ (s.put r .dead) w∧Sim P γ (s.put r .dead) w:=by
 refine ⟨⟨Le.refl γ,fun r L h h'=>(by rw [h] at h';cases h'),by rw [DE];exact Zj0 _,Zj0 _,rfl,rfl,rfl,fun _ _ _=>rfl,fun k hk _=>Lu (fun e=>by rw [e,hL] at hk;cases hk),fun b c h h'=>(by rw [h] at h';cases h')⟩,⟨?_,?_,h.lt,?_,?_,h.fzc,fun k y M hy hya hM=>?_⟩⟩
 rotate_right
 ·rcases EX hy with ⟨rfl,rfl⟩|⟨e,hy⟩
  ·simp [Bn] at hya
  ·exact h.fzr k y M hy hya hM
 ·intro k y M hy hM
  rcases EX hy with ⟨rfl,rfl⟩|⟨e,hy⟩
  ·trivial
  ·exact h.obj k y M hy hM
 ·intro k k' y y' M M' hy hy' ha1 ha2 hM hM' hne
  rcases EX hy with ⟨rfl,rfl⟩|⟨e,hy⟩
  ·simp [Bn] at ha1
  ·rcases EX hy' with ⟨rfl,rfl⟩|⟨e',hy'⟩
   ·simp [Bn] at ha2
   ·exact h.inj k k' y y' M M' hy hy' ha1 ha2 hM hM' hne
 ·intro k hk;rw [DE] at hk;exact h.nx k hk
 ·intro k y hy
  rw [DE]
  rcases EX hy with ⟨rfl,_⟩|⟨_,hy⟩
  ·refine Nat.lt_of_not_le fun hle=>?_
   rw [h.nx k hle] at hL;cases hL
  ·exact h.dom k y hy
theorem NP (h:Sim P γ s w) (e:Nat) (cs:List AV) (vs:Array Value) (us:List Value) (es:Nat) (hes:Az P e=some es) (hR:All2 (VR γ) cs us) (h1:∀ v ∈ us,v.oneCell'=true) (hpre:∀ (i:Nat) v,us[i]?=some v→vs[i]?=some v) (hle:us.length≤vs.size) (hall:∀ v ∈ vs.toList,v.oneCell'=true):
 Stp γ s w (ext γ s.next ⟨w.heap.size,0,vs.size,es⟩) (s.alloc (.row e cs)) (w.alloc (.cells vs e))∧Sim P (ext γ s.next ⟨w.heap.size,0,vs.size,es⟩) (s.alloc (.row e cs)) (w.alloc (.cells vs e)):=by
 refine h.alloc _ _ _ _ ?_
 have hl:=hR.length
 refine ⟨vs,?_,rfl,rfl,hes,by omega,?_,hall⟩
 ·show (w.heap.push _)[w.heap.size]?=_;simp
 ·intro i v hi
  obtain ⟨v',hv',hr⟩:=hR.get hi
  exact ⟨v',hpre i v' hv',hr.mono (EE (h.nx _ (Zj0 _))),h1 v' (Zj1 hv')⟩
variable {ty e:Nat}{i:TypeInfo}
theorem J8 {T:Nat}(ht:P.underlying T=some (.slice e)) (hi:P.info? e=some i) (p q:Option Addr) (n c c':Nat) (hnc:n≤c):
 (Builtin.append_ #[T,T] ty #[.slice p n c,.slice q 0 c']).run P w=.ok (.slice p n c) w:=by
 have hf:(Builtin.firstCells i.size 0 (.slice q 0 c')).run P w=.ok #[] w:=by cases q <;> simp [Builtin.firstCells,loadCells,loadCellsFrom]
 cases p <;> simp [Builtin.append_,Zjx ht,Go.sizeOf,typeInfo,hi,Builtin.lenOf,hnc,hf,storeCells]
theorem Rb {T:Nat}(ht:P.underlying T=some (.slice e)) (hi:P.info? e=some i) (b a:Addr) (n c m c':Nat) (news:List Value) (hl:news.length=m*i.size) (hnews:∀ j u,news[j]?=some u→w.cell? (a.add j)=some u)
 (hroom:n+m≤c) {w':World}(hst:(storeCells (b.add (n*i.size)) news).run P w=.ok () w'):
 (Builtin.append_ #[T,T] ty #[.slice (some b) n c,.slice (some a) m c']).run P w=.ok (.slice (some b) (n+m) c) w':=by
 have hlc:=run_loadCells_list (P:=P) w a news hnews
 rw [hl] at hlc
 have hf:(Builtin.firstCells i.size m (.slice (some a) m c')).run P w=.ok news.toArray w:=by simp only [Builtin.firstCells];exact hlc
 simp [Builtin.append_,Zjx ht,Go.sizeOf,typeInfo,hi,Builtin.lenOf,hroom,hf,hst]
theorem YG (hs:Sim P γ s w) {o:Oper}{T es by_:Nat}{z:List AV}{x y:Operand}{a b:AO}{v:AV}{s':St}(hu:P.underlying T=some (.slice e)) (hes:Az P e=some es) (hby:Gy P e=some by_) (hz:D6 P e=some z) (h1es:1≤es) (hbl:by_≤4096) (hzl:z.length=es)
 (hx:Ag x=some a) (hy:Ag y=some b) (ho:o.op=.call { callee:=.builtin .append,args:=#[x,y],argTypes:=#[T,T] }) (he:Evs γ t ρ [x,y]) (h:VL e es a b t s=.ok v s'):OpOk P γ s w ρ o v s':=by
 obtain ⟨u1,hu1,h⟩:=A9 h
 obtain ⟨u2,hu2,h⟩:=A9 h
 obtain ⟨cs,hsrc,h⟩:=AH h
 have h1:=he x (by simp) a u1 hx hu1
 have h2:=he y (by simp) b u2 hy hu2
 obtain ⟨q,m,c',news,hyv,hRn,h1n,hln,hqn,hcn⟩:=XU hs h2 hsrc
 obtain ⟨i,zv,hi,hzz,ha⟩:=Hy hz
 obtain ⟨y1,y2⟩:=F8 (γ:=γ) ha
 have his:i.size=es:=by simp [Az,hi] at hes;exact hes
 have hib:i.bytes=by_:=by simp [Gy,hi] at hby;exact hby
 have hzs:zv.cells.size=es:=by rw [← hzl];simpa using y1.length.symm
 have hz1:∀ k,∀ v ∈ (Builtin.zeroCells zv.cells k).toList,v.oneCell'=true:=fun k=>(I1 y1 y2 (by omega) k).2
 have hrunb:∀ {xv:Value}{r:Value}{w':World},ρ x=xv→(∀ ty,(Builtin.append_ #[T,T] ty #[xv,.slice q m c']).run P w=.ok r w')→(execOp ρ o).run P w=.ok (.value r) w':=by
  intro xv r w' e1 hr
  rw [D3 ho]
  simp only [builtin,Zk4,Zkv,Zlh,e1,hyv,Zjp,hr,Zji,Zjv]
 have hcl:=hRn.length
 cases cs with
 | nil=>
  have hm:m=0:=by
   have e0:news.length=0:=by simpa using hcl.symm
   rcases Nat.mul_eq_zero.1 (hln.symm.trans e0) with e|e <;> omega
  subst hm
  rcases EB h with ⟨r,j,n,c,rfl,h⟩|⟨rfl,h⟩|⟨rfl,h⟩|⟨n,c,l0,rfl,h⟩
  rotate_right
  ·obtain ⟨rfl,rfl⟩:=Ar h
   obtain ⟨bz,oz,cc,cz,zs,hxx,_,_,_,_,hnc,_,_⟩:=EU h1
   exact Ap hs _ (hrunb hxx fun ty=>J8 hu hi _ _ _ _ _ hnc) (by rw [← hxx];exact h1)
  ·obtain ⟨rfl,rfl⟩:=Ar h
   generalize hxx:ρ x=vx at h1
   have h1':=h1
   cases h1 with
   | sl _ _ _ c L hL hnc=>exact Ap hs _ (hrunb hxx fun ty=>J8 hu hi _ _ _ _ _ hnc) h1'
   | slu _ _ _ c L hL hnc=>exact Ap hs _ (hrunb hxx fun ty=>J8 hu hi _ _ _ _ _ hnc) h1'
  ·obtain ⟨rfl,rfl⟩:=Ar h
   generalize hxx:ρ x=vx at h1
   cases h1
   exact Ap hs _ (hrunb hxx fun ty=>J8 hu hi _ _ _ _ _ (Zj0 _)) .nils
  ·obtain ⟨rfl,rfl⟩:=Ar h
   generalize hxx:ρ x=vx at h1
   cases h1 with
   | es ad c=>exact Ap hs _ (hrunb hxx fun ty=>J8 hu hi _ _ _ _ _ (Zjy _)) (.es _ _)
 | cons c0 cs0=>
  have hh:(SR.rec .fail (fun r o n c=>app1 e es (c0::cs0) (Nat.div (AR (c0::cs0)) es) r o n c s) (Cn e (Nat.div (AR (c0::cs0)) es) (c0::cs0) s) .fail (fun n c l=>VK e es (c0::cs0) (Nat.div (AR (c0::cs0)) es) n c l s) (B1 u1):RV)=.ok v s':=h
  clear h
  have hcpos:1≤(c0::cs0).length:=by simp
  generalize c0::cs0=cs at *
  have hm0:1≤m:=by
   rcases Nat.eq_zero_or_pos m with e|e
   ·subst e;simp at hln;rw [hln] at hcl;simp at hcl;rw [hcl] at hcpos;simp at hcpos
   ·exact e
  obtain ⟨ad,rfl⟩:∃ ad,q=some ad:=by
   cases q with
   | none=>have:=hqn rfl;omega
   | some ad=>exact ⟨ad,rfl⟩
  have hcell:=hcn ad rfl
  have hlm:AR cs / es=m:=by rw [E7,hcl,hln];exact Nat.mul_div_cancel _ (by omega)
  have hlm':Nat.div (AR cs) es=m:=hlm
  rw [← his] at hln
  rw [hlm'] at hh
  -- a new array
  have grow:∀ (ad0:Addr) (n cc:Nat) (old:List AV) (olds:List Value),ρ x=.slice (some ad0) n cc→olds.length=n*i.size→(∀ j u,olds[j]?=some u→w.cell? (ad0.add j)=some u)→All2 (VR γ) old olds→(∀ v ∈ olds,v.oneCell'=true)→cc<n+m→n+m≤1000000→∀ s1,Sim P γ s1 w→Stp γ s w γ s1 w→Fj (.row e (AY old cs)) (fun r=>.sl r 0 (n+m) none) s1=.ok v s'→OpOk P γ s w ρ o v s':=by
   intro ad0 n cc old olds hxv e1' hco hRo h1o hlt hbm s1 hs1 hst1 hok
   obtain ⟨rfl,rfl⟩:=Ar hok
   have hmb:(n+m)*i.bytes≤1000000*4096:=by rw [hib];exact Nat.mul_le_mul hbm hbl
   have hrun:=fun ty=>run_append_grow (P:=P) w T ty e i zv hu hi hzz ad0 n cc olds e1' hco ad m c' news hln hcell hlt (by omega) (growslice_fits hlt (by omega))
   have hRa:All2 (VR γ) (AY old cs) (olds++news):=by rw [CJ];exact hRo.append hRn
   obtain ⟨hst,hsim⟩:=NP hs1.drew e (AY old cs) (olds.toArray++news.toArray++Builtin.zeroCells zv.cells (grownCap w (n+m) cc e-(n+m))) (olds++news) es hes hRa
    (by intro u hu;rcases Zj7.1 hu with hu|hu;exact h1o u hu;exact h1n u hu)
    (fun k u hk=>by
      rw [Array.getElem?_append_left (by have:=(Zjg.1 hk).1;simpa using this)]
      simpa using hk) (by simp) (by
      intro u hu
      simp only [Array.toList_append,List.append_assoc,Zj7] at hu
      rcases hu with hu|hu|hu
      ·exact h1o u hu
      ·exact h1n u hu
      ·exact hz1 _ u hu)
   refine ⟨_,_,(hst1.trans Stp.drew).trans hst,hsim,.inl ⟨_,hrunb hxv hrun,?_⟩⟩
   refine .slu s1.next 0 (n+m) _ _ (Bv _ _ _) (grownCap_ge _ _ _ _) (grownCap_le_maxLen _ _ _ _ (by unfold maxLen;omega)) (fun _=>?_)
   have hge:=grownCap_ge w (n+m) cc e
   simp only [Array.size_append,List.size_toArray,size_zeroCells,hln,e1',his,hzs]
   rw [← Nat.add_mul,← Nat.add_mul]
   exact Nat.mul_le_mul_right _ (by omega)
  rcases EB hh with ⟨r,j,n,c,rfl,hk⟩|⟨rfl,hk⟩|⟨rfl,hk⟩|⟨n,c,l0,rfl,hk⟩
  ·obtain ⟨old,hold,hk⟩:=AH hk
   obtain ⟨L,cc,hL,hxv,hck⟩:=Fw h1
   obtain ⟨olds,e1,hco,hRo,h1o⟩:=H3 hs hold hL
   have e1':olds.length=n*i.size:=by rw [his];exact e1
   have grow:=grow _ n cc old olds hxv e1' hco hRo h1o
   cases c with
   | some c=>
    have hcc:=hck c rfl
    subst hcc
    change (Bool.rec (Cn e (n+m) (AY old cs) s) (Gs (.sl r j (n+m) (some cc)) (storeAt r (j+n*es) cs s)) (Nat.ble (n+m) cc):RV)=.ok v s' at hk
    cases hb:Nat.ble (n+m) cc with
    | true=>
     rw [hb] at hk
     obtain ⟨hst,rfl⟩:=Kf hk
     have hle:=Zj3 hb
     obtain ⟨w',hrun,hstp,hsim⟩:=JB hs hst hL hRn h1n
     refine ⟨γ,w',hstp,hsim,.inl ⟨_,hrunb hxv fun ty=>Rb hu hi ⟨L.b,L.o+j,none⟩ ad n cc m c' news hln hcell hle (by rw [Dp,his,Zlc];exact hrun),.sl _ _ _ _ L hL hle⟩⟩
    | false=>
     rw [hb] at hk
     obtain ⟨hbd,hk⟩:=B9 hk
     have hnle:¬ (n+m≤cc):=fun e=>by rw [Zj6 e] at hb;cases hb
     exact grow (by omega) (Zj3 hbd) s hs (.refl _ _ _) hk
   | none=>
    obtain ⟨hcond,hk1⟩:=B9 hk
    obtain ⟨hbd,hk2⟩:=B9 hk1
    have hbm:=Zj3 hbd
    simp only [Zjh] at hcond
    have hj:=Zjl hcond.1
    by_cases hroom:n+m≤cc
    ·-- in its own array
     have hcs:cc*L.es≤L.sz∧cc≤maxLen:=by
      obtain ⟨L',c2,hL',hx2,_,hcm,hcs⟩:=sluV h1
      rw [hL] at hL';cases hL'
      rw [hxv] at hx2
      cases hx2
      exact ⟨hcs hj,hcm⟩
     have a1:old.length=n*es:=hRo.length.trans e1
     obtain ⟨rs,hrow⟩:∃ rs,s.get r=some (.row e rs):=by
      have he2:=hcond.2
      unfold Kz at he2
      cases hra:CN r s with
      | no=>rw [hra] at he2;cases he2
      | row e' rs=>
       rw [hra] at he2
       have:e'=e:=Zjl he2
       subst this
       exact ⟨rs,JE hra⟩
     obtain ⟨cur,hc,ho0,hsz,hes',hlen,hv,hall⟩:=hs.rowA hrow hL
     have hees:L.es=es:=by rw [hes] at hes';exact (Zkn hes').symm
     have hfit:n*es+news.length≤cur.size:=by
      rw [hln,his,← Nat.add_mul,hsz]
      refine Nat.le_trans (Nat.mul_le_mul_right _ hroom) ?_
      rw [← hees];exact hcs.1
     have hst:=run_storeCells_at (P:=P) L.b (n*es) e news 0 cur w hc (by omega) h1n
     simp only [Zko] at hst
     have hrun:=fun ty=>Rb (ty:=ty) hu hi ⟨L.b,L.o+j,none⟩ ad n cc m c' news hln hcell hroom (by rw [Dp,ho0,hj,his,Zju];exact hst)
     obtain ⟨rfl,rfl⟩:=Ar hk2
     have hle2:=EE (γ:=γ) (L:=L) (hs.nx s.next (Zj0 _))
     obtain ⟨hstp,hsim⟩:=hs.move (w':=w.setRow L.b (cur.toList.take (n*es)++news++cur.toList.drop (n*es+news.length)).toArray) hrow hL rfl
      (o:=.row e (AY old cs)) (fun b hb=>setRow_other w L.b b _ hb) (Rq _ _ _) rfl rfl rfl (by
        refine ⟨_,setRow_heap w L.b cur _ e _ hc,ho0,?_,hes',?_,?_,fun v' hv'=>?_⟩
        rotate_right
        ·simp only [List.append_assoc,Zj7] at hv'
         rcases hv' with hv'|hv'|hv'
         ·exact hall _ (Zkm hv')
         ·exact h1n _ hv'
         ·exact hall _ (Zkr hv')
        ·simp;omega
        ·rw [CJ,Zjt,a1]
         simp only [List.size_toArray,Zjt,Zj5,Zk3,Zlf]
         omega
        ·intro k u hku
         rw [CJ] at hku
         obtain ⟨u',hu',hRu⟩:=(hRo.append hRn).get hku
         have hone:u'.oneCell'=true:=by
          rcases Zj7.1 (Zj1 hu') with hm|hm
          ·exact h1o _ hm
          ·exact h1n _ hm
         refine ⟨u',?_,hRu.mono hle2,hone⟩
         rw [Zla]
         by_cases hkn:k<n*es
         ·rw [Zjz (by rw [e1];exact hkn)] at hu'
          have hcu:=hco k u' hu'
          rw [Dp,ho0,hj] at hcu
          simp [World.cell?,hc] at hcu
          rw [List.append_assoc,Zjz (by simp;omega),Zks,Zjj hkn]
          simpa using hcu
         ·rw [Zka (by rw [e1];exact Nat.le_of_not_lt hkn),e1] at hu'
          have hkl:k-n*es<news.length:=(Zjg.1 hu').1
          have htl:(cur.toList.take (n*es)).length=n*es:=by rw [Zj5,Zlf];exact Nat.min_eq_left (by omega)
          rw [List.append_assoc,Zka (by rw [htl];omega),htl,Zjz hkl]
          exact hu')
     refine ⟨_,_,hstp,hsim,.inl ⟨_,hrunb hxv hrun,?_⟩⟩
     rw [hj]
     have hnx:(s.put r .dead).next=s.next:=DE _ _ _
     rw [hnx]
     exact .slu s.next 0 (n+m) cc L (Bv _ _ _) hroom hcs.2 (fun _=>hcs.1)
    ·obtain ⟨hq1,hq2⟩:=hs.kill (r:=r) (by assumption)
     exact grow (by omega) hbm _ hq2 hq1 hk2
  ·obtain ⟨hbound,hk⟩:=B9 hk
   obtain ⟨rfl,rfl⟩:=Ar hk
   have hbm:=Zj3 hbound
   generalize hxx:ρ x=vx at h1
   cases h1
   have hmb:m*i.bytes≤1000000*4096:=by rw [hib];exact Nat.mul_le_mul hbm hbl
   have hrun:=fun ty=>run_append_nil (P:=P) w T ty e i zv hu hi hzz ad m c' news hln hcell (by omega) (by omega) (by omega)
   obtain ⟨hst,hsim⟩:=NP hs.drew e cs (news.toArray++Builtin.zeroCells zv.cells (grownCap w m 0 e-m)) news es hes hRn h1n
    (fun k u hk=>by rw [Array.getElem?_append_left (by have:=(Zjg.1 hk).1;simpa using this)];simpa using hk) (by simp) (by
      intro u hu
      simp only [Array.toList_append,Zj7] at hu
      rcases hu with hu|hu
      ·exact h1n u hu
      ·exact hz1 _ u hu)
   refine ⟨_,_,Stp.drew.trans hst,hsim,.inl ⟨_,hrunb hxx hrun,?_⟩⟩
   refine .slu s.next 0 m _ _ (Bv _ _ _) (grownCap_ge _ _ _ _) (grownCap_le_maxLen _ _ _ _ (by unfold maxLen;omega)) (fun _=>?_)
   have hge:=grownCap_ge w m 0 e
   simp only [Array.size_append,List.size_toArray,size_zeroCells,hln,his,hzs]
   rw [← Nat.add_mul]
   exact Nat.mul_le_mul_right _ (by omega)
  ·cases hk
  ·obtain ⟨c,rfl,hk⟩:=AH hk
   obtain ⟨bz,oz,cc,cz,zs,hxx,hbz,g1,g3,g4,hnc,hck,g5⟩:=EU h1
   have hcc:=hck c rfl
   subst hcc
   change (Bool.rec (Option.rec .fail (fun old=>Cn e (n+m) (AY old cs) s) (Bi (Nat.mul n es) l0)) .fail (Nat.ble (n+m) cc):RV)=.ok v s' at hk
   cases hb:Nat.ble (n+m) cc with
   | true=>rw [hb] at hk;cases hk
   | false=>
    rw [hb] at hk
    obtain ⟨old,hold,hk⟩:=AH hk
    obtain ⟨olds,e1,g2,hRo,h1o⟩:=GP (k:=0) hs hbz g1 g3 g4 hold
    rw [Zko] at g2
    obtain ⟨hbd,hk⟩:=B9 hk
    have hnle:¬ (n+m≤cc):=fun e=>by rw [Zj6 e] at hb;cases hb
    exact grow _ n cc old olds hxx (by rw [his];exact e1) (I4 hs hbz g2) hRo h1o (by omega) (Zj3 hbd) s hs (.refl _ _ _) hk
end
end Go.AM
namespace Go.AM
section
variable {P:Program}{γ:Gam}{s:St}{w:World}{t:AT}{ρ:Operand→Value}
abbrev EntR (γ:Gam) (x:AV×AV×Nat) (m:MapEntry):Prop:=VR γ x.1 m.key∧VR γ x.2.1 m.val∧m.born=x.2.2
theorem R5 {a b:AV}{c:Bool}(h:Er a b=some c):∃ k x y,a=.int k x∧b=.int k y∧c=(x == y):=by
 unfold Er at h
 split at h
 ·rename_i k x k' y
  cases hk:BU k k' with
  | false=>rw [hk] at h;cases h
  | true=>rw [hk] at h;cases h;cases JK hk;exact ⟨k,x,y,rfl,rfl,F6 _ _⟩
 ·cases h
variable {kk:IntKind}{k:AV}{k':Value}
theorem Ob (hk:VR γ k k'):∀ {es:List (AV×AV×Nat)}{ms:List MapEntry}(i:Nat),All2 (EntR γ) es ms→Cu k es=some none→Instr.findNow (.int kk) k' ms i=some none:=by
 intro es
 induction es with
 | nil=>intro ms i h _;cases h;rfl
 | cons x es ih=>
  intro ms i h hf
  cases h with
  | @cons _ m _ ms' h1 h2=>
   obtain ⟨xk,xv,xb⟩:=x
   simp only [Cu] at hf
   cases he:Er k xk with
   | none=>rw [he] at hf;cases hf
   | some c=>
    rw [he] at hf
    obtain ⟨q,a,b,rfl,rfl,hc⟩:=R5 he
    have e1:=AI hk
    have e2:=AI h1.1
    cases c with
    | true=>cases hf
    | false=>
     simp only [Instr.findNow,e1,e2,Instr.sameNow,if_true,← hc]
     rw [← e1];exact ih (i+1) h2 hf
variable {v:AV}
theorem Oa (hk:VR γ k k'):∀ {es:List (AV×AV×Nat)}{ms:List MapEntry}(i:Nat),All2 (EntR γ) es ms→Cu k es=some (some v)→
 ∃ j m,Instr.findNow (.int kk) k' ms i=some (some (i+j,m.val))∧ms[j]?=some m∧m.key=k'∧(∃ q a,k'=.int q a)∧VR γ v m.val∧
  (∀ x x' ,VR γ x x'→All2 (EntR γ) (Gr k x es) (ms.set j { m with key:=k',val:=x' }))∧All2 (EntR γ) (Ez k es) (ms.eraseIdx j):=by
 intro es
 induction es with
 | nil=>intro ms i _ hf;cases hf
 | cons x es ih=>
  intro ms i h hf
  cases h with
  | @cons _ m _ ms' h1 h2=>
   obtain ⟨xk,xv,xb⟩:=x
   simp only [Cu] at hf
   cases he:Er k xk with
   | none=>rw [he] at hf;cases hf
   | some c=>
    rw [he] at hf
    obtain ⟨q,a,b,rfl,rfl,hc⟩:=R5 he
    have e1:=AI hk
    have e2:=AI h1.1
    cases c with
    | true=>
     cases hf
     have hab:a=b:=by simpa using hc.symm
     subst hab
     refine ⟨0,m,?_,by simp,by rw [e1,e2],⟨q,a,e1⟩,h1.2.1,?_,?_⟩
     ·simp [Instr.findNow,e1,e2,Instr.sameNow]
     ·intro x x' hx
      simp only [Gr,he,List.set_cons_zero]
      exact .cons ⟨hk,hx,h1.2.2⟩ h2
     ·simp only [Ez,he,List.eraseIdx_cons_zero];exact h2
    | false=>
     obtain ⟨j,m',r1,r2,r3,r4,r5,r6,r7⟩:=ih (i+1) h2 hf
     refine ⟨j+1,m',?_,by simpa using r2,r3,r4,r5,?_,?_⟩
     ·simp only [Instr.findNow,e1,e2,Instr.sameNow,if_true,← hc]
      rw [← e1,r1]
      congr 3
      omega
     ·intro x x' hx
      simp only [Gr,he,List.set_cons_succ]
      exact .cons h1 (r6 x x' hx)
     ·simp only [Ez,he,List.eraseIdx_cons_succ]
      exact .cons h1 r7
variable {r c:Nat}
theorem G8 {es:List (AV×AV×Nat)}(h:mapAt r s=some (es,c)):s.get r=some (.map es c):=by
 unfold mapAt at h
 cases hg:s.get r with
 | none=>rw [hg] at h;cases h
 | some o=>rw [hg] at h;cases o <;> first|(cases h;rfl)|cases h
variable {kt:Nat}
theorem Hx (hu:P.underlying kt=some (.int kk)) (b:Bool) (v:Value):(Instr.checkKey b 10000 kt v).run P w=.ok () w:=by
 show (Instr.checkKey b (9999+1) kt v).run P w=_
 unfold Instr.checkKey
 simp only [Zjp,Zjx hu,Zji]
 rfl
theorem Hz (hu:P.underlying kt=some (.int kk)) {k:Value}{ms:List MapEntry}{r:Option (Nat×Value)}(h:Instr.findNow (.int kk) k ms 0=some r):(Instr.findKey kt k ms).run P w=.ok r w:=by
 simp only [Instr.findKey,Zjp,Zjx hu,Zji,h,Zjv]
variable {ms:Array MapEntry}
theorem G5 (h:w.heap[r]?=some (.map ms c)):(getObj r).run P w=.ok (.map ms c) w:=by
 simp [getObj,Sem.run,h]
theorem J9 (o:Obj) (h:w.heap[r]?=some (.map ms c)):(setObj r o).run P w=.ok () { w with heap:=w.heap.setIfInBounds r o }:=by
 simp [setObj,Sem.run,h]
theorem Kc (hs:Sim P γ s w) {L:Loc}{x o:AObj}{O:Obj}(hx:s.get r=some x) (hL:γ r=some L) (ha:Bn x=true) (ho:ObjR P γ L o (w.heap.setIfInBounds L.b O)):
 Stp γ s w γ (s.put r o) { w with heap:=w.heap.setIfInBounds L.b O }∧Sim P γ (s.put r o) { w with heap:=w.heap.setIfInBounds L.b O }:=
 hs.turn hx hL ha (fun b hb=>by show (w.heap.setIfInBounds L.b O)[b]?=_;rw [Zkt,Zjn (fun e=>hb e.symm)]) (by simp) rfl rfl rfl ho
variable {o:Oper}{ty:Nat}{s':St}
theorem W4 (ho:o.op=.makeMap ty none) (h:TV t s=.ok v s'):Fresh P γ w ρ o s v s':=by
 obtain ⟨rfl,rfl⟩:=Ar h
 refine ⟨.map [] 0,.map,.map #[] 0,0,0,.map (some w.heap.size),rfl,rfl,?_,fun γ' r hle hr=>⟨⟨#[],by show (w.heap.push _)[w.heap.size]?=_;simp,.nil⟩,.map r _ hr⟩⟩
 simp only [execOp,ho,Instr.makeMap,Option.map_none,Zjp,GG,Zji,Zjv]
variable {e:Nat}{x:Operand}{a:AO}
theorem Xi (hs:Sim P γ s w) {T:Nat}(hu:P.underlying T=some (.map kt e)) (hx:Ag x=some a) (ho:o.op=.call { callee:=.builtin .len,args:=#[x],argTypes:=#[T] }) (he:Evs γ t ρ [x])
 (h:UE a t s=.ok v s'):OpOk P γ s w ρ o v s':=by
 obtain ⟨u,hu',h⟩:=A9 h
 have hv:=he x (by simp) a u hx hu'
 rcases IQ h with ⟨r,rfl,hk⟩|⟨rfl,hk⟩
 ·obtain ⟨⟨es,c⟩,hm,hk⟩:=AH hk
  obtain ⟨rfl,rfl⟩:=Ar hk
  generalize hxx:ρ x=vx at hv
  cases hv with
  | map _ L hL=>
   obtain ⟨ms,hms,hR⟩:=hs.obj r _ L (G8 hm) hL
   refine Ap hs (.int .i64 ms.size) ?_ ?_
   ·rw [D3 ho]
    have hl:∀ ty,(Builtin.len_ #[T] ty #[.map (some L.b)]).run P w=.ok (goInt ms.size) w:=fun ty=>by simp [Builtin.len_,Zjx hu,G5 hms]
    simp only [builtin,Zk4,Zkv,Zlh,hxx,Zjp,hl,Zji,Zjv]
    rfl
   ·have:=hR.length
    simp at this
    rw [E7,this];exact .int _ _
 ·obtain ⟨rfl,rfl⟩:=Ar hk
  generalize hxx:ρ x=vx at hv
  cases hv
  refine Ap hs (.int .i64 (0:Nat)) ?_ (.int _ _)
  rw [D3 ho]
  have hl:∀ ty,(Builtin.len_ #[T] ty #[.map none]).run P w=.ok (goInt (0:Nat)) w:=fun ty=>by simp [Builtin.len_,Zjx hu]
  simp only [builtin,Zk4,Zkv,Zlh,hxx,Zjp,hl,Zji,Zjv]
  rfl
theorem Wh (q:IntKind) (a:Int):Instr.sameBits 10000 (.int q a) (.int q a)=true:=by simp [Instr.sameBits]
variable {y:Operand}{b:AO}
theorem R1 (hs:Sim P γ s w) {z:Operand}{c:AO}(hd:o.dst=none) (hu:P.underlying ty=some (.map kt e)) (hku:P.underlying kt=some (.int kk)) (hx:Ag x=some a) (hy:Ag y=some b) (hz:Ag z=some c)
 (ho:o.op=.mapUpdate ty x y z∨o.op=.insert ty x y z) (he:Evs γ t ρ [x,y,z]) (h:U6 a b c t s=.ok v s'):OpOk P γ s w ρ o v s':=by
 obtain ⟨u1,hu1,h⟩:=A9 h
 obtain ⟨u2,hu2,h⟩:=A9 h
 obtain ⟨u3,hu3,h⟩:=A9 h
 have h1:=he x (by simp) a u1 hx hu1
 have h2:=he y (by simp) b u2 hy hu2
 have h3:=he z (by simp) c u3 hz hu3
 rcases IQ h with ⟨r,rfl,hk⟩|⟨rfl,hk⟩
 ·obtain ⟨⟨es,cl⟩,hm,hk⟩:=AH hk
  obtain ⟨f,hf,hk⟩:=AH hk
  have hg:=G8 hm
  obtain ⟨L,hL,hxv⟩:∃ L,γ r=some L∧ρ x=.map (some L.b):=by
   generalize ρ x=vx at h1
   cases h1 with
   | map _ L hL=>exact ⟨L,hL,rfl⟩
  obtain ⟨ms,hms,hR⟩:=hs.obj r _ L hg hL
  have hlt:=hs.lt r L hL
  cases f with
  | none=>
   obtain ⟨rfl,rfl⟩:=Ar hk
   have hfn:=Ob (kk:=kk) h2 0 hR hf
   obtain ⟨hst,hsim⟩:=Kc (O:=.map (ms.push { key:=ρ y,val:=ρ z,born:=cl }) (cl+1)) (o:=.map (AY es [(u2,u3,cl)]) (cl+1)) hs hg hL rfl
    ⟨_,by rw [Zkt,Zjj rfl,Zjj hlt],by rw [CJ,Array.toList_push];exact hR.append (.cons ⟨h2,h3,rfl⟩ .nil)⟩
   refine ⟨γ,_,hst,hsim,.inr ⟨?_,hd⟩⟩
   rcases ho with ho|ho <;>
    simp only [execOp,ho,Instr.mapUpdate,Zjp,Zjx hu,Zji,hxv,G5 hms,Hx hku,Hz hku hfn,J9 _ hms,Zjv]
  | some w0=>
   obtain ⟨rfl,rfl⟩:=Ar hk
   obtain ⟨j,m,r1,r2,r3,⟨q,n,r4⟩,r5,r6,r7⟩:=Oa (kk:=kk) h2 0 hR hf
   rw [Zju] at r1
   have hjl:j<ms.size:=by have:=(Zjg.1 r2).1;simpa using this
   have hjm:ms[j]?=some m:=by simpa using r2
   obtain ⟨hst,hsim⟩:=Kc (O:=.map (ms.modify j fun e=>{ e with key:=ρ y,val:=ρ z }) cl) (o:=.map (Gr u2 u3 es) cl) hs hg hL rfl
    ⟨_,by rw [Zkt,Zjj rfl,Zjj hlt],by
      have e1:(ms.modify j fun e=>{ e with key:=ρ y,val:=ρ z }).toList=ms.toList.set j { m with key:=ρ y,val:=ρ z }:=by
       apply List.ext_getElem?
       intro k
       rw [Array.getElem?_toList,Array.getElem?_modify,List.getElem?_set]
       by_cases hjk:j=k
       ·subst hjk
        have hmj:ms[j]=m:=by
         have h0:=hjm
         rw [Array.getElem?_eq_getElem hjl] at h0
         exact Zkn h0
        simp [hjl,hmj]
       ·simp [hjk]
      rw [e1];exact r6 _ _ h3⟩
   refine ⟨γ,_,hst,hsim,.inr ⟨?_,hd⟩⟩
   have hks:(Instr.keyThatStays (((ms[j]?).map (·.key)).getD (ρ y)) (ρ y)).run P w=.ok (ρ y) w:=by
    simp only [hjm,Option.map_some,Option.getD_some,r3,Instr.keyThatStays,r4,Wh,if_true,Zjv]
   rcases ho with ho|ho <;>
    simp only [execOp,ho,Instr.mapUpdate,Zjp,Zjx hu,Zji,hxv,G5 hms,Hx hku,Hz hku r1,hks,J9 _ hms,Zjv]
 ·cases hk
theorem Xe (hs:Sim P γ s w) {i:TypeInfo}{zv:Value}{z:AV}{ok:Bool}(hu:P.underlying ty=some (.map kt e)) (hku:P.underlying kt=some (.int kk)) (hi:P.info? e=some i) (hzz:i.zero=some zv) (hz:J5 zv=some z)
 (hx:Ag x=some a) (hy:Ag y=some b) (ho:o.op=.lookup ty x y ok) (he:Evs γ t ρ [x,y]) (h:U9 z ok a b t s=.ok v s'):OpOk P γ s w ρ o v s':=by
 obtain ⟨u1,hu1,h⟩:=A9 h
 obtain ⟨u2,hu2,h⟩:=A9 h
 have h1:=he x (by simp) a u1 hx hu1
 have h2:=he y (by simp) b u2 hy hu2
 have hzR:=(P1 (γ:=γ) hz).1
 rcases IQ h with ⟨r,rfl,hk⟩|⟨rfl,hk⟩
 ·obtain ⟨⟨es,cl⟩,hm,hk⟩:=AH hk
  obtain ⟨f,hf,hk⟩:=AH hk
  have hg:=G8 hm
  obtain ⟨L,hL,hxv⟩:∃ L,γ r=some L∧ρ x=.map (some L.b):=by
   generalize ρ x=vx at h1
   cases h1 with
   | map _ L hL=>exact ⟨L,hL,rfl⟩
  obtain ⟨ms,hms,hR⟩:=hs.obj r _ L hg hL
  cases f with
  | none=>
   obtain ⟨rfl,rfl⟩:=Ar hk
   have hfn:=Ob (kk:=kk) h2 0 hR hf
   refine Ap hs (if ok then .tuple #[zv,.bool false] else zv) ?_ ?_
   ·simp only [execOp,ho,Instr.lookup,Zjp,Zjx hu,Zji,hxv,G5 hms,Zjv,Hx hku,Hz hku hfn,FT hi hzz]
   ·cases ok
    ·exact hzR
    ·exact .tup _ _ (.cons hzR (.cons (.bool _) .nil))
  | some w0=>
   obtain ⟨rfl,rfl⟩:=Ar hk
   obtain ⟨j,m,r1,r2,r3,_,r5,_,_⟩:=Oa (kk:=kk) h2 0 hR hf
   refine Ap hs (if ok then .tuple #[m.val,.bool true] else m.val) ?_ ?_
   ·simp only [execOp,ho,Instr.lookup,Zjp,Zjx hu,Zji,hxv,G5 hms,Zjv,Hx hku,Hz hku r1]
   ·cases ok
    ·exact r5
    ·exact .tup _ _ (.cons r5 (.cons (.bool _) .nil))
 ·obtain ⟨rfl,rfl⟩:=Ar hk
  generalize hxx:ρ x=vx at h1
  cases h1
  refine Ap hs (if ok then .tuple #[zv,.bool false] else zv) ?_ ?_
  ·have hfn:Instr.findNow (.int kk) (ρ y) [] 0=some none:=rfl
   simp only [execOp,ho,Instr.lookup,Zjp,Zjx hu,Zji,hxx,Zjv,Hx hku,Hz hku hfn,FT hi hzz]
  ·cases ok
   ·exact hzR
   ·exact .tup _ _ (.cons hzR (.cons (.bool _) .nil))
theorem Xf (hs:Sim P γ s w) {T U:Nat}(hu:P.underlying T=some (.map kt e)) (hku:P.underlying kt=some (.int kk)) (hx:Ag x=some a) (hy:Ag y=some b)
 (ho:o.op=.call { callee:=.builtin .delete,args:=#[x,y],argTypes:=#[T,U] }) (he:Evs γ t ρ [x,y]) (h:UA a b t s=.ok v s'):OpOk P γ s w ρ o v s':=by
 obtain ⟨u1,hu1,h⟩:=A9 h
 obtain ⟨u2,hu2,h⟩:=A9 h
 have h1:=he x (by simp) a u1 hx hu1
 have h2:=he y (by simp) b u2 hy hu2
 rcases IQ h with ⟨r,rfl,hk⟩|⟨rfl,hk⟩
 ·obtain ⟨⟨es,cl⟩,hm,hk⟩:=AH hk
  obtain ⟨f,hf,hk⟩:=AH hk
  obtain ⟨rfl,rfl⟩:=Ar hk
  have hg:=G8 hm
  obtain ⟨L,hL,hxv⟩:∃ L,γ r=some L∧ρ x=.map (some L.b):=by
   generalize ρ x=vx at h1
   cases h1 with
   | map _ L hL=>exact ⟨L,hL,rfl⟩
  obtain ⟨ms,hms,hR⟩:=hs.obj r _ L hg hL
  have hlt:=hs.lt r L hL
  have fin:∀ (ms':Array MapEntry),All2 (EntR γ) (Ez u2 es) ms'.toList→(∀ ty,(Builtin.delete_ #[T,U] ty #[.map (some L.b),ρ y]).run P w=.ok (.tuple #[]) { w with heap:=w.heap.setIfInBounds L.b (.map ms' cl) })→OpOk P γ s w ρ o (.tup []) (s.put r (.map (Ez u2 es) cl)):=by
   intro ms' hR' hrun
   obtain ⟨hst,hsim⟩:=Kc (O:=.map ms' cl) (o:=.map (Ez u2 es) cl) hs hg hL rfl ⟨_,by rw [Zkt,Zjj rfl,Zjj hlt],hR'⟩
   refine ⟨γ,_,hst,hsim,.inl ⟨.tuple #[],?_,.tup _ _ .nil⟩⟩
   rw [D3 ho]
   simp only [builtin,Zk4,Zkv,Zlh,hxv,Zjp,hrun,Zji,Zjv]
  cases f with
  | none=>
   have hfn:=Ob (kk:=kk) h2 0 hR hf
   have hdel:∀ {es:List (AV×AV×Nat)},Cu u2 es=some none→Ez u2 es=es:=by
    intro es
    induction es with
    | nil=>intro _;rfl
    | cons x es ih=>
     intro hf
     obtain ⟨xk,xv,xb⟩:=x
     simp only [Cu] at hf
     simp only [Ez]
     cases he:Er u2 xk with
     | none=>rw [he] at hf;cases hf
     | some c=>cases c with
      | true=>rw [he] at hf;cases hf
      | false=>rw [he] at hf;simp [ih hf]
   refine fin ms (by rw [hdel hf];exact hR) fun ty=>?_
   simp only [Builtin.delete_,Zla,List.getElem?_cons_zero,List.getElem?_cons_succ,Zjp,Zjx hu,Zji,G5 hms,Hx hku,Hz hku hfn,J9 _ hms,Zjv]
  | some w0=>
   obtain ⟨j,m,r1,r2,r3,_,r5,_,r7⟩:=Oa (kk:=kk) h2 0 hR hf
   rw [Zju] at r1
   refine fin (ms.eraseIdxIfInBounds j) (by simpa using r7) fun ty=>?_
   simp only [Builtin.delete_,Zla,List.getElem?_cons_zero,List.getElem?_cons_succ,Zjp,Zjx hu,Zji,G5 hms,Hx hku,Hz hku r1,J9 _ hms,Zjv]
 ·cases hk
end
end Go.AM
namespace Go.AM
section
variable {P:Program}{γ:Gam}{s:St}{w:World}{t:AT}{ρ:Operand→Value}
variable {o:Oper}{e:Nat}{x:Operand}{a:AO}{v:AV}{s':St}
theorem Y7 (hs:Sim P γ s w) {T:Nat}(hu:P.underlying T=some (.slice e)) (hx:Ag x=some a) (ho:o.op=.call { callee:=.builtin .cap,args:=#[x],argTypes:=#[T] }) (he:Evs γ t ρ [x])
 (h:VF a t s=.ok v s'):OpOk P γ s w ρ o v s':=by
 obtain ⟨u,hu',h⟩:=A9 h
 have hv:=he x (by simp) a u hx hu'
 rcases EB h with ⟨r,i,n,c,rfl,h⟩|⟨rfl,h⟩|⟨rfl,h⟩|⟨n,c,l0,rfl,h⟩
 rotate_right
 ·obtain ⟨c,rfl,h⟩:=AH h
  obtain ⟨rfl,rfl⟩:=Ar h
  obtain ⟨bz,oz,cc,cz,zs,hval,_,_,_,_,_,hck,_⟩:=EU hv
  have:=hck c rfl
  subst this
  refine Ap hs (.int .i64 cc) ?_ (.int _ _)
  rw [D3 ho]
  have hl:∀ ty,(Builtin.cap_ #[T] ty #[.slice (some ⟨bz,oz,none⟩) n cc]).run P w=.ok (goInt cc) w:=fun ty=>by simp [Builtin.cap_,Zjx hu]
  simp only [builtin,Zk4,Zkv,Zlh,hval,Zjp,hl,Zji,Zjv]
  rfl
 ·obtain ⟨c,rfl,h⟩:=AH h
  obtain ⟨rfl,rfl⟩:=Ar h
  obtain ⟨L,cc,hL,hval,hcc⟩:=Fw hv
  have:=hcc c rfl
  subst this
  refine Ap hs (.int .i64 cc) ?_ (.int _ _)
  rw [D3 ho]
  have hl:∀ ty,(Builtin.cap_ #[T] ty #[.slice (some ⟨L.b,L.o+i,none⟩) n cc]).run P w=.ok (goInt cc) w:=fun ty=>by simp [Builtin.cap_,Zjx hu]
  simp only [builtin,Zk4,Zkv,Zlh,hval,Zjp,hl,Zji,Zjv]
  rfl
 ·cases h
 ·cases h
theorem Tt (h:Im v=true):v=.ez:=by
 cases v <;> first|rfl|cases h
theorem Xz (hs:Sim P γ s w) {T U es by_:Nat}{kn:IntKind}{z:List AV}{y:Operand}{b:AO}(hu:P.underlying T=some (.slice e)) (hU:P.underlying U=some (.int kn)) (hes:Az P e=some es) (hby:Gy P e=some by_) (hz:D6 P e=some z) (h1es:1≤es) (hbl:by_≤4096) (hzl:z.length=es)
 (hx:Ag x=some a) (hy:Ag y=some b) (ho:o.op=.call { callee:=.builtin .append,args:=#[x,y],argTypes:=#[T,U] }) (he:Evs γ t ρ [x,y]) (h:UW e es z a b t s=.ok v s'):OpOk P γ s w ρ o v s':=by
 obtain ⟨u1,hu1,h⟩:=A9 h
 obtain ⟨u2,hu2,h⟩:=A9 h
 have h1:=he x (by simp) a u1 hx hu1
 have h2:=he y (by simp) b u2 hy hu2
 obtain ⟨k,hk,h⟩:=Cd h
 obtain ⟨kk,rfl⟩:=HB hk
 obtain ⟨i,zv,hi,hzz,ha⟩:=Hy hz
 obtain ⟨y1,y2⟩:=F8 (γ:=γ) ha
 have his:i.size=es:=by simp [Az,hi] at hes;exact hes
 have hib:i.bytes=by_:=by simp [Gy,hi] at hby;exact hby
 have hzs:zv.cells.size=es:=by rw [← hzl];simpa using y1.length.symm
 have hkv:ρ y=.int kk k:=by generalize ρ y=q at h2;cases h2;rfl
 have hrunb:∀ {xv:Value}{r:Value}{w':World},ρ x=xv→(∀ ty,(Builtin.append_ #[T,U] ty #[xv,.int kk k]).run P w=.ok r w')→(execOp ρ o).run P w=.ok (.value r) w':=by
  intro xv r w' e1 hr
  rw [D3 ho]
  simp only [builtin,Zk4,Zkv,Zlh,e1,hkv,Zjp,hr,Zji,Zjv]
 have key:∀ (base:Option Addr) (n cc:Nat) (old:List AV) (olds:List Value),ρ x=.slice base n cc→All2 (VR γ) old olds→(∀ v ∈ olds,v.oneCell'=true)→olds.length=n*i.size→(Builtin.firstCells i.size n (.slice base n cc)).run P w.drew=.ok olds.toArray w.drew→¬ (n+k≤cc)→0<k→Cn e (n+k) (AY old (AE z k)) s=.ok v s'→OpOk P γ s w ρ o v s':=by
  intro base n cc old olds hxv hRo h1o e1' hold' hnle hkp h
  obtain ⟨hbd,h⟩:=B9 h
  have hbm:=Zj3 hbd
  obtain ⟨rfl,rfl⟩:=Ar h
  obtain ⟨q1,q2⟩:=I1 y1 y2 (by omega) k
  have hzc:Builtin.zeroCells zv.cells k=(Array.range (k*zv.cells.size)).map (fun i=>zv.cells[i % zv.cells.size]!):=rfl
  rw [← hzc] at q1 q2
  have hmb:(n+k)*i.bytes≤1000000*4096:=by rw [hib];exact Nat.mul_le_mul hbm hbl
  have hmb':k*i.bytes≤1000000*4096:=by rw [hib];exact Nat.mul_le_mul (by omega) hbl
  have hrun:=fun ty=>Lib.run_append_grow_zeros (P:=P) w T U ty e i zv kk kn hu hU hi hzz base n cc olds hold' k hkp (by omega) (by omega) (by omega) (by omega) (growslice_fits (by omega) (by omega))
  have hRa:All2 (VR γ) (AY old (AE z k)) (olds++(Builtin.zeroCells zv.cells k).toList):=by rw [CJ,Pj];exact hRo.append q1
  obtain ⟨hst,hsim⟩:=NP hs.drew e (AY old (AE z k)) (olds.toArray++Builtin.zeroCells zv.cells k++Builtin.zeroCells zv.cells (grownCap w (n+k) cc e-(n+k))) (olds++(Builtin.zeroCells zv.cells k).toList) es hes hRa
   (by intro u hu;rcases Zj7.1 hu with hu|hu;exact h1o u hu;exact q2 u hu)
   (fun j u hj=>by
     rw [Array.getElem?_append_left (by have:=(Zjg.1 hj).1;simpa using this)]
     rw [← Array.getElem?_toList];simpa using hj) (by simp) (by
      intro u hu
      simp only [Array.toList_append,List.append_assoc,Zj7] at hu
      rcases hu with hu|hu|hu
      ·exact h1o u hu
      ·exact q2 u hu
      ·exact (I1 y1 y2 (by omega) _).2 u hu)
  refine ⟨_,_,(Stp.drew).trans hst,hsim,.inl ⟨.slice (some ⟨w.heap.size,0,none⟩) (n+k) (grownCap w (n+k) cc e),hrunb hxv hrun,?_⟩⟩
  refine .slu s.next 0 (n+k) _ _ (Bv _ _ _) (grownCap_ge _ _ _ _) (grownCap_le_maxLen _ _ _ _ (by unfold maxLen;omega)) (fun _=>?_)
  have hge:=grownCap_ge w (n+k) cc e
  simp only [Array.size_append,List.size_toArray,size_zeroCells,e1',his,hzs]
  rw [← Nat.add_mul,← Nat.add_mul]
  exact Nat.mul_le_mul_right _ (by omega)
 have h:(Bool.rec (Bool.rec (SR.rec .fail (fun r o n cap=>Option.rec .fail (fun old=>
  Option.rec .fail (fun c=>Bool.rec (gd (Nat.blt 0 k) (Cn e (n+k) (AY old (AE z k)) s)) .fail (Nat.ble (n+k) c)) cap) (load r o (Nat.mul n es) s)) (Cn e k (AE z k) s) .fail
  (fun n cap l=>Option.rec .fail (fun c=>Bool.rec (Option.rec .fail (fun old=>Cn e (n+k) (AY old (AE z k)) s) (Bi (Nat.mul n es) l)) .fail (Nat.ble (n+k) c)) cap) (B1 u1)) (Cn e k (AE z k) s) (Im u1))
  (Bool.rec (SR.rec .fail (fun r o n c=>.ok (.sl r o n c) s) (.ok .nils s) (.ok .es s) (fun n c l=>.ok (.fz n c l) s) (B1 u1)) (.ok .es s) (Im u1)) (Nat.beq k 0):RV)=.ok v s':=h
 cases hb0:Nat.beq k 0 with
 | true=>
  rw [hb0] at h
  have hk0:=Zjl hb0
  subst hk0
  have hw0:IntKind.i64.wrap 0=0:=by rw [IntKind.wrap_i64];decide
  have hrun0:∀ (p:Option Addr) (n c:Nat),n≤c→∀ ty,(Builtin.append_ #[T,U] ty #[.slice p n c,.int kk (0:Nat)]).run P w=.ok (.slice p n c) w:=fun p n c hnc ty=>by
   cases p <;> simp [Builtin.append_,Zjx hu,Zjx hU,sizeOf,typeInfo,hi,Go.asInt,Go.asIntOf,hw0,hnc,storeCells]
  cases hez:Im u1 with
  | true=>
   rw [hez] at h
   obtain ⟨rfl,rfl⟩:=Ar h
   have:=Tt hez
   subst this
   generalize hxx:ρ x=vx at h1
   cases h1 with
   | ez ad=>exact Ap hs _ (hrunb hxx (hrun0 _ _ _ (Zj0 _))) (.es _ _)
  | false=>
   rw [hez] at h
   rcases EB h with ⟨r,j,n,c,rfl,h⟩|⟨rfl,h⟩|⟨rfl,h⟩|⟨n,c,l0,rfl,h⟩
   ·obtain ⟨rfl,rfl⟩:=Ar h
    generalize hxx:ρ x=vx at h1
    have h1':=h1
    cases h1 with
    | sl _ _ _ c L hL hnc=>exact Ap hs _ (hrunb hxx (hrun0 _ _ _ hnc)) h1'
    | slu _ _ _ c L hL hnc=>exact Ap hs _ (hrunb hxx (hrun0 _ _ _ hnc)) h1'
   ·obtain ⟨rfl,rfl⟩:=Ar h
    generalize hxx:ρ x=vx at h1
    cases h1
    exact Ap hs _ (hrunb hxx (hrun0 _ _ _ (Zj0 _))) .nils
   ·obtain ⟨rfl,rfl⟩:=Ar h
    generalize hxx:ρ x=vx at h1
    cases h1 with
    | es ad c=>exact Ap hs _ (hrunb hxx (hrun0 _ _ _ (Zjy _))) (.es _ _)
   ·obtain ⟨rfl,rfl⟩:=Ar h
    obtain ⟨bz,oz,cc,cz,zs,hxx,_,_,_,_,hnc,_,_⟩:=EU h1
    exact Ap hs _ (hrunb hxx (hrun0 _ _ _ hnc)) (by rw [← hxx];exact h1)
 | false=>
  rw [hb0] at h
  have hkp:0<k:=by
   rcases Nat.eq_zero_or_pos k with e|e
   ·subst e;cases hb0
   ·exact e
  have hf0:∀ p:Option Addr,(Builtin.firstCells i.size 0 (.slice p 0 0)).run P w.drew=.ok (([]:List Value).toArray) w.drew:=fun p=>by cases p <;> simp [Builtin.firstCells,loadCells,loadCellsFrom]
  cases hez:Im u1 with
  | true=>
   rw [hez] at h
   have:=Tt hez
   subst this
   generalize hxx:ρ x=vx at h1
   cases h1 with
   | ez ad=>exact key (some ad) 0 0 [] [] hxx .nil (by simp) (by simp) (hf0 _) (by omega) hkp (by rw [Zju];exact h)
  | false=>
   rw [hez] at h
   rcases EB h with ⟨r,j,n,c,rfl,h⟩|⟨rfl,h⟩|⟨rfl,h⟩|⟨n,c,l0,rfl,h⟩
   ·obtain ⟨old,hold,h⟩:=AH h
    obtain ⟨c,rfl,h⟩:=AH h
    obtain ⟨L,cc,hL,hxv,hck⟩:=Fw h1
    have hcc:=hck c rfl
    subst hcc
    obtain ⟨olds,e1,hco,hRo,h1o⟩:=H3 hs hold hL
    have e1':olds.length=n*i.size:=by rw [his];exact e1
    change (Bool.rec (gd (Nat.blt 0 k) (Cn e (n+k) (AY old (AE z k)) s)) .fail (Nat.ble (n+k) cc):RV)=.ok v s' at h
    cases hb:Nat.ble (n+k) cc with
    | true=>rw [hb] at h;cases h
    | false=>
     rw [hb] at h
     obtain ⟨_,h⟩:=B9 h
     have hnle:¬ (n+k≤cc):=fun e=>by rw [Zj6 e] at hb;cases hb
     exact key _ n cc old olds hxv hRo h1o e1' (run_firstCells_some w.drew i.size n ⟨L.b,L.o+j,none⟩ n cc olds e1' (fun jj u hj=>hco jj u hj)) hnle hkp h
   ·generalize hxx:ρ x=vx at h1
    cases h1
    exact key none 0 0 [] [] hxx .nil (by simp) (by simp) (hf0 _) (by omega) hkp (by rw [Zju];exact h)
   ·cases h
   ·obtain ⟨c,rfl,h⟩:=AH h
    obtain ⟨b,oz,cc,cz,zs,hxx,hbz,h2',h3',h4',hnc,hck,h5'⟩:=EU h1
    have hcc:=hck c rfl
    subst hcc
    change (Bool.rec (Option.rec .fail (fun old=>Cn e (n+k) (AY old (AE z k)) s) (Bi (Nat.mul n es) l0)) .fail (Nat.ble (n+k) cc):RV)=.ok v s' at h
    cases hb:Nat.ble (n+k) cc with
    | true=>rw [hb] at h;cases h
    | false=>
     rw [hb] at h
     obtain ⟨old,ht,h⟩:=AH h
     have hnle:¬ (n+k≤cc):=fun e=>by rw [Zj6 e] at hb;cases hb
     obtain ⟨olds,e1,g2,hRo,h1o⟩:=GP (k:=0) hs hbz h2' h3' h4' ht
     have e1':olds.length=n*i.size:=by rw [his];exact e1
     rw [Zko] at g2
     exact key _ n cc old olds hxx hRo h1o e1' (run_firstCells_some w.drew i.size n ⟨b,oz,none⟩ n cc olds e1' (fun jj u hj=>I4 hs hbz g2 jj u hj)) hnle hkp h
end
end Go.AM
