/- Contracts of functions over the abstract machine. No conditions. -/
import Derived.Laws.Strings
import Derived.IntWalk
import Derived.Laws.StructEq
import Derived.Laws.BytesString
import Derived.ChangeKeysEq
import Derived.Lib.AppendZerosOnto
import Derived.Maps.RangeRun
import Derived.Test.YtacmbogmbfmjeaaGreatAM1
set_option linter.unusedVariables false
set_option linter.unusedSimpArgs false
set_option maxRecDepth 100000
namespace Go.AM
section
variable {P:Program}{γ:Gam}{s:St}{w:World}{t:AT}{ρ:Operand->Value}
variable {v':Value}
theorem IQ {r o:Nat}(h:VR γ (.ptr r o) v'):∃ L,γ r=some L∧v'=.pointer (some ⟨L.b,L.o+o,none⟩):=by
 cases h with
 | ptr _ _ L hL=>exact ⟨L,hL,rfl⟩
variable {k:IntKind}
theorem AN {n:Int}(h:VR γ (.int k n) v'):v'=.int k n:=by cases h;rfl
theorem GJ {b:Bool}(h:VR γ (.bool b) v'):v'=.bool b:=by cases h;rfl
variable {o:Oper}{ty:Nat}{x:Operand}{a:AO}{v:AV}{s':St}
theorem Zdg (hs:Sim P γ s w) (hag:Dh P ty=some false) (hx:Ai x=some a) (ho:o.op=.load ty x) (he:Evs γ t ρ [x])
 (h:Ze a t s=.ok v s'):OpOk P γ s w ρ o v s':=by
 obtain ⟨u,hu,h⟩:=AH h
 rcases O9 h with ⟨r,i,rfl,h⟩|⟨l,rfl,h⟩
 ·obtain ⟨hl,rfl⟩:=K9 h
  obtain ⟨L,hL,hv⟩:=IQ (he x (by simp) a _ hx hu)
  obtain ⟨v',hc,hR,_⟩:=UI hs hl hL
  refine Ay hs v' ?_ hR
  simp only [execOp,ho,Instr.loadAt,hv,Instr.sureAddr,Zpt,Zpz,Zpm,loadVar,Io hag]
  simp [run_load,hc]
 ·obtain ⟨hl,rfl⟩:=K9 h
  obtain ⟨b,i,cs,vs,hv,hb,h2,h3,h4,h5⟩:=fpV (he x (by simp) a _ hx hu)
  rw [Jw] at hl
  obtain ⟨v',hv',hR⟩:=h4.get hl
  have hc:=Xm hs hb (h2 0 v' hv')
  refine Ay hs v' ?_ hR
  simp only [execOp,ho,Instr.loadAt,hv,Instr.sureAddr,Zpt,Zpz,Zpm,loadVar,Io hag]
  rw [Zqs] at hc
  simp [run_load,hc]
variable {n:Nat}
theorem Zdf (hs:Sim P γ s w) (hag:Dh P ty=some true) (hn:AA P ty=some n) (hx:Ai x=some a) (ho:o.op=.load ty x) (he:Evs γ t ρ [x])
 (h:Zd n a t s=.ok v s'):OpOk P γ s w ρ o v s':=by
 obtain ⟨u,hu,h⟩:=AH h
 rcases O9 h with ⟨r,i,rfl,h⟩|⟨l,rfl,h⟩
 ·obtain ⟨cs,hl,h⟩:=AJ h
  obtain ⟨rfl,rfl⟩:=A0 h
  obtain ⟨L,hL,hv⟩:=IQ (he x (by simp) a _ hx hu)
  obtain ⟨vs,e1,hc,hR,h1⟩:=Jm hs hl hL
  have hrun:=run_loadCells_list (P:=P) w _ vs hc
  rw [e1] at hrun
  refine Ay hs (.agg vs.toArray) ?_ (.agg _ _ hR h1)
  simp only [execOp,ho,Instr.loadAt,hv,Instr.sureAddr,Zpt,Zpz,Zpm,loadVar,Io hag,CB hn,hrun,if_true]
 ·obtain ⟨cs,hl,h⟩:=AJ h
  obtain ⟨rfl,rfl⟩:=A0 h
  obtain ⟨b,i,cc,vs,hv,hb,h2,h3,h4,h5⟩:=fpV (he x (by simp) a _ hx hu)
  obtain ⟨us,e1,g2,hR,h1⟩:=Iz (k:=0) hs hb h2 h3 h4 hl
  have hrun:=run_loadCells_list (P:=P) w _ us (Ky hs hb g2)
  rw [e1] at hrun
  refine Ay hs (.agg us.toArray) ?_ (.agg _ _ hR h1)
  rw [Zqs] at hrun
  simp only [execOp,ho,Instr.loadAt,hv,Instr.sureAddr,Zpt,Zpz,Zpm,loadVar,Io hag,CB hn,hrun,if_true]
theorem Zey (hs:Sim P γ s w) {y:Operand}{b:AO}(hd:o.dst=none) (hn:AA P ty=some (n+1)) (hx:Ai x=some a) (hy:Ai y=some b) (ho:o.op=.store ty x y) (he:Evs γ t ρ [x,y])
 (h:stA (n+1) a b t s=.ok v s'):OpOk P γ s w ρ o v s':=by
 obtain ⟨p,hp,h⟩:=AH h
 obtain ⟨u,hu,h⟩:=AH h
 obtain ⟨r,i,rfl,h⟩:=OS h
 obtain ⟨hl,h⟩:=BF h
 obtain ⟨hk,rfl⟩:=Mp h
 obtain ⟨L,hL,hv⟩:=IQ (he x (by simp) a _ hx hp)
 obtain ⟨c1,c2⟩:=QR (he y (by simp) b _ hy hu) hl
 obtain ⟨w',hrun,hst,hsim⟩:=LN hs hk hL c1 c2
 refine ⟨γ,w',hst,hsim,.inr ⟨?_,hd⟩⟩
 have hsz:(ρ y).cells.size=n+1:=by
  have e1:=Zpp hl
  rw [CY] at e1
  have:=c1.length
  simp at this
  omega
 simp only [execOp,ho,Instr.storeAt,hv,Instr.sureAddr,Zpt,Zpz,Zpm,storeVar,CB hn,hsz]
 simp [hrun]
theorem Zad (hs:Sim P γ s w) (hx:Ai x=some a) (ho:o.op=.nilCheck x) (he:Evs γ t ρ [x])
 (h:XG a t s=.ok v s'):OpOk P γ s w ρ o v s':=by
 obtain ⟨u,hu,h⟩:=AH h
 have hv:=he x (by simp) a u hx hu
 cases hn:M9 u with
 | true=>rw [hn] at h;cases h
 | false=>
  rw [hn] at h
  obtain ⟨rfl,rfl⟩:=A0 h
  refine Ay hs (ρ x) ?_ hv
  simp only [execOp,ho]
  generalize ρ x=vx at hv
  cases hv <;> first|rfl|(cases hn)
variable {f:Nat}{fs:Array Field}{fd:Field}
theorem Zgd (hs:Sim P γ s w) (hu:P.underlying ty=some (.struct fs)) (hf:fs[f]?=some fd) (hn:AA P fd.type=some (n+1))
 (hx:Ai x=some a) (ho:o.op=.fieldAddr ty x f) (he:Evs γ t ρ [x]) (h:faA fd.offset a t s=.ok v s'):OpOk P γ s w ρ o v s':=by
 obtain ⟨u,hu',h⟩:=AH h
 rcases O9 h with ⟨r,i,rfl,h⟩|⟨l,rfl,h⟩
 ·obtain ⟨rfl,rfl⟩:=A0 h
  obtain ⟨L,hL,hv⟩:=IQ (he x (by simp) a _ hx hu')
  refine Ay hs (.pointer (some ⟨L.b,L.o+(i+fd.offset),none⟩)) ?_ (.ptr r _ L hL)
  simp only [execOp,ho,Instr.fieldAt,hv,Instr.sureAddr,Zpt,Zpz,Zpm,Zp1 hu,hf,fieldPlace,CB hn]
  simp [DX,Zrg]
 ·obtain ⟨rfl,rfl⟩:=A0 h
  obtain ⟨b,i,cc,vs,hv,hb,h2,h3,h4,h5⟩:=fpV (he x (by simp) a _ hx hu')
  refine Ay hs (.pointer (some ⟨b,i+fd.offset,none⟩)) ?_ (RO hb h2 h3 h4 h5)
  simp only [execOp,ho,Instr.fieldAt,hv,Instr.sureAddr,Zpt,Zpz,Zpm,Zp1 hu,hf,fieldPlace,CB hn]
  simp [DX]
variable {cs:Array Value}{off:Nat}
theorem J9 {v:Value}(hag:Dh P ty=some false) (h:cs[off]?=some v):(part ty cs off).run P w=.ok v w:=by
 simp [part,Io hag,h]
theorem Yr (hag:Dh P ty=some true) (hn:AA P ty=some n):(part ty cs off).run P w=.ok (.agg (cs.extract off (off+n))) w:=by
 simp [part,Io hag,CB hn]
theorem Lw {l:List AV}(h:VR γ (.agg l) v'):∃ a,v'=.agg a∧All2 (VR γ) l a.toList∧∀ v ∈ a.toList,v.oneCell'=true:=by
 cases h with
 | agg _ a h1 h2=>exact ⟨a,rfl,h1,h2⟩
theorem Zbr (hs:Sim P γ s w) (hu:P.underlying ty=some (.struct fs)) (hf:fs[f]?=some fd) (hag:Dh P fd.type=some false)
 (hx:Ai x=some a) (ho:o.op=.field ty x f) (he:Evs γ t ρ [x]) (h:Y2 fd.offset a t s=.ok v s'):OpOk P γ s w ρ o v s':=by
 obtain ⟨u,hu',h⟩:=AH h
 obtain ⟨l,rfl,h⟩:=KV h
 obtain ⟨hk,rfl⟩:=K9 h
 rw [Jw] at hk
 obtain ⟨c,hv,hR,_⟩:=Lw (he x (by simp) a _ hx hu')
 obtain ⟨v',hv',hRv⟩:=hR.get hk
 refine Ay hs v' ?_ hRv
 simp only [execOp,ho,Instr.field,hv,Zpt,Zpz,Zpm,Zp1 hu,hf,asAgg,J9 hag (show c[fd.offset]?=some v' by simpa using hv')]
 simp [J9 hag (show c[fd.offset]?=some v' by simpa using hv'),Go.asAgg]
theorem Zbq (hs:Sim P γ s w) (hu:P.underlying ty=some (.struct fs)) (hf:fs[f]?=some fd) (hag:Dh P fd.type=some true) (hn:AA P fd.type=some n)
 (hx:Ai x=some a) (ho:o.op=.field ty x f) (he:Evs γ t ρ [x]) (h:Y1 fd.offset n a t s=.ok v s'):OpOk P γ s w ρ o v s':=by
 obtain ⟨u,hu',h⟩:=AH h
 obtain ⟨l,rfl,h⟩:=KV h
 obtain ⟨cs,hk,h'⟩:=AJ h
 obtain ⟨rfl,rfl⟩:=A0 h'
 obtain ⟨e1,hle⟩:=Km _ hk
 rw [Hk] at e1 hle
 subst e1
 obtain ⟨c,hv,hR,h1⟩:=Lw (he x (by simp) a _ hx hu')
 have e2:(c.extract fd.offset (fd.offset+n)).toList=(c.toList.drop fd.offset).take n:=by simp [Array.toList_extract,List.extract_eq_take_drop]
 refine Ay hs (.agg (c.extract fd.offset (fd.offset+n))) ?_ (.agg _ _ (by rw [e2];exact (hR.drop _).take _) (by rw [e2];exact fun v hv=>h1 v (Zqv (Zqq hv))))
 simp [execOp,ho,Instr.field,hv,Zp1 hu,hf,Go.asAgg,Yr hag hn]
theorem Zdr (hs:Sim P γ s w) {i:Nat}(hx:Ai x=some a) (ho:o.op=.extract x i) (he:Evs γ t ρ [x])
 (h:Zk a i t s=.ok v s'):OpOk P γ s w ρ o v s':=by
 obtain ⟨u,hu',h⟩:=AH h
 obtain ⟨l,rfl,h⟩:=Zlv h
 obtain ⟨hk,rfl⟩:=K9 h
 rw [Jw] at hk
 have hv:=he x (by simp) a _ hx hu'
 generalize hxx:ρ x=vx at hv
 cases hv with
 | tup _ c hR=>
  obtain ⟨v',hv',hRv⟩:=hR.get hk
  refine Ay hs v' ?_ hRv
  have:c[i]?=some v':=by simpa using hv'
  simp [execOp,ho,Instr.extract,hxx,this]
theorem Zdy (hs:Sim P γ s w) {sr ds:Nat}{sd:TypeDesc}(hsr:P.underlying sr=some sd) (hd:P.underlying ds=some (.int k)) (hx:Ai x=some a) (ho:o.op=.convert sr ds x) (he:Evs γ t ρ [x])
 (hq:∀ k n,E1 k n=k.wrap n) (h:Zl k a t s=.ok v s'):OpOk P γ s w ρ o v s':=by
 obtain ⟨u,hu',h⟩:=AH h
 obtain ⟨k',n,rfl,h⟩:=Zm3 h
 obtain ⟨rfl,rfl⟩:=A0 h
 have hv:=AN (he x (by simp) a _ hx hu')
 refine Ay hs (.int k (k.wrap n)) ?_ (by rw [hq];exact .int _ _)
 simp [execOp,ho,convert,hv,Zp1 hsr,Zp1 hd,Conv.intToInt]
theorem Zbc (hs:Sim P γ s w) {as bs:Array Operand}{xs ys:List AO}(hx:Fr as.toList=some xs) (hy:Fr bs.toList=some ys) (ho:o.op=.makeFunc (.func f) as bs) (he:Evs γ t ρ (as.toList++bs.toList))
 (h:Yt f xs ys t s=.ok v s'):OpOk P γ s w ρ o v s':=by
 obtain ⟨p,hp,h⟩:=AJ h
 obtain ⟨q,hq,h⟩:=AJ h
 obtain ⟨rfl,rfl⟩:=A0 h
 have h1:=Js (γ:=γ) (ρ:=ρ) hx hp (fun x hx=>he x (by simp at hx ⊢;exact .inl hx))
 have h2:=Js (γ:=γ) (ρ:=ρ) hy hq (fun x hx=>he x (by simp at hx ⊢;exact .inr hx))
 refine Ay hs (.func (.func f) (as.map ρ) (bs.map ρ)) ?_ (.fn _ _ _ _ _ (by simpa using h1) (by simpa using h2))
 simp [execOp,ho,Instr.makeFunc]
end
end Go.AM
namespace Go.AM
theorem LX {a b:IntKind}(h:Ch a b=true):a=b:=by
 cases a <;> cases b <;> first|rfl|cases h
theorem Gc (a b:Int):D9 a b=(a == b):=by
 cases a with
 | ofNat a=>cases b with
  | ofNat b=>show Nat.beq a b=_;rw [Bool.eq_iff_iff,Nat.beq_eq];simp;omega
  | negSucc b=>show false=_;rw [eq_comm,beq_eq_false_iff_ne];simp
 | negSucc a=>cases b with
  | ofNat b=>show false=_;rw [eq_comm,beq_eq_false_iff_ne];simp
  | negSucc b=>show Nat.beq a b=_;rw [Bool.eq_iff_iff,Nat.beq_eq];simp
theorem Gb (a b:Int):E6 a b=decide (a<b):=by
 cases a with
 | ofNat a=>cases b with
  | ofNat b=>show Nat.blt a b=_;rw [Bool.eq_iff_iff,Zq1];simp
  | negSucc b=>show false=_;rw [eq_comm,Zqp];simp;omega
 | negSucc a=>cases b with
  | ofNat b=>show true=_;rw [eq_comm,decide_eq_true_iff];simp;omega
  | negSucc b=>show Nat.blt b a=_;rw [Bool.eq_iff_iff,Zq1];simp;omega
theorem X8 (a b:Int):Zz a b=a+b:=by
 cases a <;> cases b <;> rfl
theorem RF (a b:Int):P8 a b=a*b:=by
 cases a <;> cases b <;> rfl
theorem R0 (a b:Int):P0 a b=a-b:=by
 cases a with
 | ofNat a=>cases b with
  | ofNat b=>
   show (Bool.rec (Int.sub (.ofNat a) (.ofNat b)) (.ofNat (Nat.sub a b)) (Nat.ble b a):Int)=_
   cases hb:Nat.ble b a with
   | false=>rfl
   | true=>have:=Zp7 hb;show ((a-b:Nat):Int)=(a:Int)-(b:Int);omega
  | negSucc b=>rfl
 | negSucc a=>rfl
theorem ED (k:IntKind) (n:Int):E1 k n=k.wrap n:=by
 cases n with
 | ofNat m=>
  show Yg k m=k.wrap (m:Int)
  cases k <;> try rfl
  show (Bool.rec (IntKind.i64.wrap m) (.ofNat m) (Nat.blt m 9223372036854775808):Int)=_
  cases hb:Nat.blt m 9223372036854775808 with
  | false=>rfl
  | true=>
   rw [Zq1] at hb
   exact (IntWalk.i64_in (m:Int) ⟨by omega,by omega⟩).symm
 | negSucc m=>
  show (Bool.rec (k.wrap (.negSucc m)) (Bool.rec (k.wrap (.negSucc m)) (.negSucc m) (Nat.blt m 9223372036854775808)) (Nat.beq (GF k) 3):Int)=_
  have h3:k=.i64∨Nat.beq (GF k) 3=false:=by cases k <;> first|exact .inl rfl|exact .inr rfl
  rcases h3 with rfl|h3
  ·show (Bool.rec (IntKind.i64.wrap (.negSucc m)) (.negSucc m) (Nat.blt m 9223372036854775808):Int)=_
   cases hb:Nat.blt m 9223372036854775808 with
   | false=>rfl
   | true=>
    rw [Zq1] at hb
    exact (IntWalk.i64_in (Int.negSucc m) ⟨by omega,by omega⟩).symm
  ·rw [h3]
theorem O2 {f:Nat->Nat->Nat}{g:(n:Nat)->BitVec n->BitVec n->BitVec n}(hf:∀ n x y,(g n x y).toNat=f x.toNat y.toNat) (k:IntKind) (a b:Int):Na f g k a b=FC g k a b:=by
 cases a with
 | ofNat x=>cases b with
  | ofNat y=>
   show YD f g k x y=_
   cases k <;> try rfl
   ·show ((f (x % 256) (y % 256):Nat):Int)=_
    have e:f (x % 256) (y % 256)=(g 8 (BitVec.ofInt 8 x) (BitVec.ofInt 8 y)).toNat:=by
     rw [hf];simp
    rw [e]
    have hlt:=(g 8 (BitVec.ofInt 8 x) (BitVec.ofInt 8 y)).isLt
    simp only [FC,IntKind.wrap,IntKind.bits,IntKind.signed]
    simp
    omega
   ·show ((f (x % 4294967296) (y % 4294967296):Nat):Int)=_
    have e:f (x % 4294967296) (y % 4294967296)=(g 32 (BitVec.ofInt 32 x) (BitVec.ofInt 32 y)).toNat:=by
     rw [hf];simp
    rw [e]
    have hlt:=(g 32 (BitVec.ofInt 32 x) (BitVec.ofInt 32 y)).isLt
    simp only [FC,IntKind.wrap,IntKind.bits,IntKind.signed]
    simp
    omega
  | negSucc y=>rfl
 | negSucc x=>rfl
theorem My (a:List Nat):∀ b,Fo a b=(a == b):=by
 induction a with
 | nil=>intro b;cases b <;> rfl
 | cons x a ih=>intro b;cases b with
  | nil=>rfl
  | cons y b=>
   show (Bool.rec false (Fo a b) (Nat.beq x y):Bool)=_
   rw [ih]
   cases hb:Nat.beq x y with
   | false=>have:=Zqo hb;simp [this]
   | true=>have:=Zpp hb;simp [this]
section
variable {P:Program}{γ:Gam}{s:St}{w:World}{t:AT}{ρ:Operand->Value}
variable {f:IntKind->Int->Int->Int}{x y v:AV}
theorem F3 (h:ar f x y=.some v):∃ k a b,x=.int k a∧y=.int k b∧v=.int k (f k a b):=by
 unfold ar at h
 cases hx:asInt x with
 | no=>rw [hx] at h;cases h
 | int k a=>
  rw [hx] at h
  cases hy:asInt y with
  | no=>rw [hy] at h;cases h
  | int k' b=>
   rw [hy] at h
   dsimp only at h
   cases hk:Ch k k' with
   | false=>rw [hk] at h;cases h
   | true=>rw [hk] at h;cases h;cases LX hk;exact ⟨k,a,b,EE hx,EE hy,rfl⟩
theorem F0 {f:Int->Int->Bool}(h:G1 f x y=.some v):∃ k a b,x=.int k a∧y=.int k b∧v=.bool (f a b):=by
 unfold G1 at h
 cases hx:asInt x with
 | no=>rw [hx] at h;cases h
 | int k a=>
  rw [hx] at h
  cases hy:asInt y with
  | no=>rw [hy] at h;cases h
  | int k' b=>
   rw [hy] at h
   dsimp only at h
   cases hk:Ch k k' with
   | false=>rw [hk] at h;cases h
   | true=>rw [hk] at h;cases h;cases LX hk;exact ⟨k,a,b,EE hx,EE hy,rfl⟩
theorem O0 (h:dvd f x y=.some v):∃ k a b,x=.int k a∧y=.int k b∧b≠0∧v=.int k (f k a b):=by
 unfold dvd at h
 cases hx:asInt x with
 | no=>rw [hx] at h;cases h
 | int k a=>
  rw [hx] at h
  cases hy:asInt y with
  | no=>rw [hy] at h;cases h
  | int k' b=>
   rw [hy] at h
   dsimp only at h
   cases hk:Ch k k' with
   | false=>rw [hk] at h;cases h
   | true=>
    rw [hk] at h
    dsimp only at h
    cases hb:D9 b 0 with
    | true=>rw [hb] at h;cases h
    | false=>
     rw [hb] at h;cases h;cases LX hk
     exact ⟨k,a,b,EE hx,EE hy,by rw [Gc] at hb;simpa using hb,rfl⟩
theorem O8 {f:IntKind->Int->Nat->Int}(h:sh f x y=.some v):∃ k a k' b,x=.int k a∧y=.int k' (.ofNat b)∧v=.int k (f k a b):=by
 unfold sh at h
 cases hx:asInt x with
 | no=>rw [hx] at h;cases h
 | int k a=>
  rw [hx] at h
  cases hy:HD y with
  | no=>rw [hy] at h;cases h
  | n b=>rw [hy] at h;cases h;obtain ⟨k',rfl⟩:=Jr hy;exact ⟨k,a,k',b,EE hx,rfl,rfl⟩
theorem Od {f:List Nat->List Nat->AV}(h:P1 f x y=.some v):∃ a b,x=.str a∧y=.str b∧v=f a b:=by
 unfold P1 at h
 cases hx:Gj x with
 | no=>rw [hx] at h;cases h
 | s a=>
  rw [hx] at h
  cases hy:Gj y with
  | no=>rw [hy] at h;cases h
  | s b=>rw [hy] at h;cases h;exact ⟨a,b,O3 hx,O3 hy,rfl⟩
theorem UA (h:Sn x y=.some v):∃ a b,x=.str a∧y=.str b∧a.length+b.length≤1000000∧v=.str (Be a b):=by
 unfold Sn at h
 cases hx:Gj x with
 | no=>rw [hx] at h;cases h
 | s a=>
  rw [hx] at h
  cases hy:Gj y with
  | no=>rw [hy] at h;cases h
  | s b=>
   rw [hy] at h
   dsimp only at h
   cases hb:Nat.ble (A7 a+A7 b) 1000000 with
   | false=>rw [hb] at h;cases h
   | true=>
    rw [hb] at h;cases h
    have:=Zp7 hb
    rw [CY,CY] at this
    exact ⟨a,b,O3 hx,O3 hy,this,rfl⟩
theorem Kv {x y:OV}(h:Ka x y=.some v):x=.some v∨y=.some v:=by
 cases x with
 | none=>exact .inr h
 | some a=>exact .inl h
def Zpi (P:Program) (w:World) (γ:Gam) (op:BinOp) (ty:TypeId) (x y:Value) (v:AV):Prop:=∃ v',(binOp op ty x y).run P w=.ok v' w∧VR γ v v'
theorem VY (a b:Int):SP a b=a.tdiv b:=by cases a <;> cases b <;> rfl
theorem VX (a b:Int):SO a b=a.tmod b:=by
 cases a with
 | ofNat a=>cases b with
  | ofNat b=>rfl
  | negSucc b=>rfl
 | negSucc a=>rfl
theorem Zgc (a:Int) (m:Nat):Y3 a m=a.fdiv m:=by
 cases a with
 | ofNat a=>show ((a / m:Nat):Int)=_;simp [Int.fdiv_eq_ediv_of_nonneg]
 | negSucc a=>rfl
theorem Sm {a b:List Nat}{x y:ByteArray}(hx:x.data.toList.map UInt8.toNat=a) (hy:y.data.toList.map UInt8.toNat=b):(x.toList == y.toList)=(a == b):=by
 have key:∀ z:ByteArray,z.toList=z.data.toList:=ByteArray.toList_eq
 rw [Bool.eq_iff_iff,beq_iff_eq,beq_iff_eq,← hx,← hy,key,key]
 constructor
 ·intro h;rw [h]
 ·intro h
  exact (List.map_inj_right (fun p q e=>UInt8.toNat_inj.1 e)).1 h
theorem Zb2 {op:BinOp}{ty:TypeId}{x' y':Value}(hx:VR γ x x') (hy:VR γ y y') (h:PK op x y=.some v):Zpi P w γ op ty x' y' v:=by
 cases op with
 | add=>
  rcases Kv h with h|h
  ·obtain ⟨k,a,b,rfl,rfl,rfl⟩:=F3 h
   rw [AN hx,AN hy,ED,X8]
   exact ⟨_,by simp [binOp,Op.intArith],.int _ _⟩
  ·obtain ⟨a,b,rfl,rfl,hl,rfl⟩:=UA h
   cases hx with
   | str _ sx e1=>cases hy with
    | str _ sy e2=>
     have l1:a.length=sx.size:=by rw [← e1,Zpq,Zrk];rfl
     have l2:b.length=sy.size:=by rw [← e2,Zpq,Zrk];rfl
     refine ⟨.string (sx++sy),?_,.str _ _ ?_⟩
     ·have hlt:¬ (((sx.size+sy.size:Nat):Int)>IntKind.i64.max):=by
       have:IntKind.i64.max=9223372036854775807:=rfl
       omega
      simp only [binOp,Op.stringOp,Zpr hlt]
      rfl
     ·rw [Da,← e1,← e2];simp [ByteArray.data_append]
 | sub=>
  obtain ⟨k,a,b,rfl,rfl,rfl⟩:=F3 h
  rw [AN hx,AN hy,ED,R0]
  exact ⟨_,by simp [binOp,Op.intArith],.int _ _⟩
 | mul=>
  obtain ⟨k,a,b,rfl,rfl,rfl⟩:=F3 h
  rw [AN hx,AN hy,ED,RF]
  exact ⟨_,by simp [binOp,Op.intArith],.int _ _⟩
 | quo=>
  obtain ⟨k,a,b,rfl,rfl,hb,rfl⟩:=O0 h
  rw [AN hx,AN hy,ED,VY]
  exact ⟨_,by simp [binOp,Op.intDiv,hb],.int _ _⟩
 | rem=>
  obtain ⟨k,a,b,rfl,rfl,hb,rfl⟩:=O0 h
  rw [AN hx,AN hy,VX]
  exact ⟨_,by simp [binOp,Op.intDiv,hb],.int _ _⟩
 | and=>
  obtain ⟨k,a,b,rfl,rfl,rfl⟩:=F3 h
  rw [AN hx,AN hy,O2 (by intro n x y;rfl)]
  exact ⟨_,by simp [binOp,Op.intBits];rfl,.int _ _⟩
 | or=>
  obtain ⟨k,a,b,rfl,rfl,rfl⟩:=F3 h
  rw [AN hx,AN hy,O2 (by intro n x y;rfl)]
  exact ⟨_,by simp [binOp,Op.intBits];rfl,.int _ _⟩
 | xor=>
  obtain ⟨k,a,b,rfl,rfl,rfl⟩:=F3 h
  rw [AN hx,AN hy,O2 (by intro n x y;rfl)]
  exact ⟨_,by simp [binOp,Op.intBits];rfl,.int _ _⟩
 | andNot=>cases h
 | shl=>
  obtain ⟨k,a,k',b,rfl,rfl,rfl⟩:=O8 h
  rw [AN hx,AN hy,ED,RF]
  refine ⟨_,?_,.int _ _⟩
  have hb0:¬ ((b:Int)<0):=by omega
  simp [binOp,Op.shift,Nat.min_def,hb0]
 | shr=>
  obtain ⟨k,a,k',b,rfl,rfl,rfl⟩:=O8 h
  rw [AN hx,AN hy,Zgc]
  refine ⟨_,?_,.int _ _⟩
  have hb0:¬ ((b:Int)<0):=by omega
  simp [binOp,Op.shift,Nat.min_def,hb0]
 | eql=>
  rcases Kv h with h|h
  ·obtain ⟨k,a,b,rfl,rfl,rfl⟩:=F0 h
   rw [AN hx,AN hy,Gc]
   exact ⟨_,by simp [binOp,Op.intCmp],.bool _⟩
  ·obtain ⟨a,b,rfl,rfl,rfl⟩:=Od h
   cases hx with
   | str _ sx e1=>cases hy with
    | str _ sy e2=>
     rw [My,← Sm e1 e2]
     exact ⟨_,by simp only [binOp,Op.stringOp];rfl,.bool _⟩
 | neq=>
  rcases Kv h with h|h
  ·obtain ⟨k,a,b,rfl,rfl,rfl⟩:=F0 h
   rw [AN hx,AN hy,Gc]
   exact ⟨_,by simp [binOp,Op.intCmp];rfl,.bool _⟩
  ·obtain ⟨a,b,rfl,rfl,rfl⟩:=Od h
   cases hx with
   | str _ sx e1=>cases hy with
    | str _ sy e2=>
     rw [My,← Sm e1 e2]
     exact ⟨_,by simp only [binOp,Op.stringOp];rfl,.bool _⟩
 | lss=>
  obtain ⟨k,a,b,rfl,rfl,rfl⟩:=F0 h
  rw [AN hx,AN hy,Gb]
  exact ⟨_,by simp [binOp,Op.intCmp],.bool _⟩
 | leq=>
  obtain ⟨k,a,b,rfl,rfl,rfl⟩:=F0 h
  rw [AN hx,AN hy,Gb]
  exact ⟨.bool (decide (a≤b)),by simp [binOp,Op.intCmp],by rw [show (!decide (b<a))=decide (a≤b) by rw [Bool.eq_iff_iff];simp];exact .bool _⟩
 | gtr=>
  obtain ⟨k,a,b,rfl,rfl,rfl⟩:=F0 h
  rw [AN hx,AN hy,Gb]
  exact ⟨_,by simp [binOp,Op.intCmp],.bool _⟩
 | geq=>
  obtain ⟨k,a,b,rfl,rfl,rfl⟩:=F0 h
  rw [AN hx,AN hy,Gb]
  exact ⟨.bool (decide (b≤a)),by simp [binOp,Op.intCmp],by rw [show (!decide (a<b))=decide (b≤a) by rw [Bool.eq_iff_iff];simp];exact .bool _⟩
end
end Go.AM
namespace Go.AM
section
variable {P:Program}{γ:Gam}{s:St}{w:World}{t:AT}{ρ:Operand->Value}
theorem Z8 (op:BinOp) (ty:TypeId) (x y:Operand) (k:IntKind) (a:Int) (b:Value):(eqGuard op ty x y (.int k a) b).run P w=.ok () w:=by
 cases op <;> simp [eqGuard]
theorem Z7 (op:BinOp) (ty:TypeId) (x y:Operand) (a:ByteArray) (b:Value):(eqGuard op ty x y (.string a) b).run P w=.ok () w:=by
 cases op <;> simp [eqGuard]
variable {op:BinOp}{y v:AV}
theorem Zd3 {x:AV}(h:PK op x y=.some v):(∃ k a,x=.int k a)∨(∃ a,x=.str a):=by
 cases op with
 | add=>
  rcases Kv h with h|h
  ·obtain ⟨k,a,b,e,_⟩:=F3 h;exact .inl ⟨k,a,e⟩
  ·obtain ⟨a,b,e,_⟩:=UA h;exact .inr ⟨a,e⟩
 | sub=>obtain ⟨k,a,b,e,_⟩:=F3 h;exact .inl ⟨k,a,e⟩
 | mul=>obtain ⟨k,a,b,e,_⟩:=F3 h;exact .inl ⟨k,a,e⟩
 | quo=>obtain ⟨k,a,b,e,_⟩:=O0 h;exact .inl ⟨k,a,e⟩
 | rem=>obtain ⟨k,a,b,e,_⟩:=O0 h;exact .inl ⟨k,a,e⟩
 | and=>obtain ⟨k,a,b,e,_⟩:=F3 h;exact .inl ⟨k,a,e⟩
 | or=>obtain ⟨k,a,b,e,_⟩:=F3 h;exact .inl ⟨k,a,e⟩
 | xor=>obtain ⟨k,a,b,e,_⟩:=F3 h;exact .inl ⟨k,a,e⟩
 | andNot=>cases h
 | shl=>obtain ⟨k,a,k',b,e,_⟩:=O8 h;exact .inl ⟨k,a,e⟩
 | shr=>obtain ⟨k,a,k',b,e,_⟩:=O8 h;exact .inl ⟨k,a,e⟩
 | eql=>
  rcases Kv h with h|h
  ·obtain ⟨k,a,b,e,_⟩:=F0 h;exact .inl ⟨k,a,e⟩
  ·obtain ⟨a,b,e,_⟩:=Od h;exact .inr ⟨a,e⟩
 | neq=>
  rcases Kv h with h|h
  ·obtain ⟨k,a,b,e,_⟩:=F0 h;exact .inl ⟨k,a,e⟩
  ·obtain ⟨a,b,e,_⟩:=Od h;exact .inr ⟨a,e⟩
 | lss=>obtain ⟨k,a,b,e,_⟩:=F0 h;exact .inl ⟨k,a,e⟩
 | leq=>obtain ⟨k,a,b,e,_⟩:=F0 h;exact .inl ⟨k,a,e⟩
 | gtr=>obtain ⟨k,a,b,e,_⟩:=F0 h;exact .inl ⟨k,a,e⟩
 | geq=>obtain ⟨k,a,b,e,_⟩:=F0 h;exact .inl ⟨k,a,e⟩
variable {o:Oper}{ty yt:Nat}{x:Operand}{a b:AO}{s':St}
theorem Ma (hs:Sim P γ s w) {y:Operand}(hx:Ai x=some a) (hy:Ai y=some b) (ho:o.op=.binOp op ty x y yt) (he:Evs γ t ρ [x,y])
 (h:YE op a b t s=.ok v s'):OpOk P γ s w ρ o v s':=by
 obtain ⟨u1,hu1,h⟩:=AH h
 obtain ⟨u2,hu2,h⟩:=AH h
 obtain ⟨hb,rfl⟩:=M4 h
 have h1:=he x (by simp) a u1 hx hu1
 have h2:=he y (by simp) b u2 hy hu2
 obtain ⟨v',hr,hv⟩:=Zb2 (P:=P) (w:=w) (ty:=ty) h1 h2 hb
 refine Ay hs v' ?_ hv
 have hg:(eqGuard op ty x y (ρ x) (ρ y)).run P w=.ok () w:=by
  rcases Zd3 hb with ⟨k,n,rfl⟩|⟨l,rfl⟩
  ·rw [AN h1];exact Z8 _ _ _ _ _ _ _
  ·generalize ρ x=vx at h1
   cases h1 with
   | str _ sx e=>exact Z7 _ _ _ _ _ _
 simp only [execOp,ho,Zpt,hg,Zpm,hr,Zpz]
theorem Zeq (hs:Sim P γ s w) {op:UnOp}(hx:Ai x=some a) (ho:o.op=.unOp op ty x) (he:Evs γ t ρ [x])
 (h:YR op a t s=.ok v s'):OpOk P γ s w ρ o v s':=by
 obtain ⟨u,hu,h⟩:=AH h
 obtain ⟨hb,rfl⟩:=M4 h
 have h1:=he x (by simp) a u hx hu
 cases op with
 | not=>
  unfold unA at hb
  cases hc:asBool u with
  | no=>rw [hc] at hb;cases hb
  | tt=>rw [hc] at hb;cases hb;rw [Mb hc] at h1;exact Ay hs (.bool false) (by simp [execOp,ho,Op.unary,GJ h1]) (.bool _)
  | ff=>rw [hc] at hb;cases hb;rw [Ol hc] at h1;exact Ay hs (.bool true) (by simp [execOp,ho,Op.unary,GJ h1]) (.bool _)
 | neg=>
  unfold unA at hb
  cases hc:asInt u with
  | no=>rw [hc] at hb;cases hb
  | int k n=>
   rw [hc] at hb;cases hb;rw [EE hc] at h1
   refine Ay hs (.int k (k.wrap (0-n))) (by simp [execOp,ho,Op.unary,AN h1,Op.intArith]) ?_
   rw [ED,R0];exact .int _ _
 | xor=>
  unfold unA at hb
  cases hc:asInt u with
  | no=>rw [hc] at hb;cases hb
  | int k n=>
   rw [hc] at hb;cases hb;rw [EE hc] at h1
   refine Ay hs (.int k (FC (fun _=>BitVec.xor) k (if k.signed then -1 else k.max) n)) (by simp [execOp,ho,Op.unary,AN h1,Op.intBits];rfl) ?_
   rw [O2 (by intro n x y;rfl)];exact .int _ _
 | _=>cases hb
def MV:BinOp->Bool|.neq=>true|_=>false
theorem LM (ty:TypeId) {x y:Value}{b:Bool}(h:∀ d,(Op.equalIn (d+1) ty x y).run P w=.ok b w):(Op.equal ty x y).run P w=.ok b w:=h 9999
variable {x' y':Value}{c:Bool}{X Y:Operand}
theorem Mx {kd:Nat}{ty:TypeId}(op:BinOp) (hop:op=.eql∨op=.neq) (hg:(eqGuard op ty X Y x' y').run P w=.ok () w)
 (h1:binOp .eql ty x' y'=(do pure (.bool (← Op.equal ty x' y')))) (h2:binOp .neq ty x' y'=(do pure (.bool (!(← Op.equal ty x' y'))))) (h:(Op.equal ty x' y').run P w=.ok c w):
 (eqGuard op ty X Y x' y').run P w=.ok () w∧(binOp op ty x' y').run P w=.ok (.bool (DF (MV op) c)) w:=by
 refine ⟨hg,?_⟩
 rcases hop with rfl|rfl
 ·rw [h1];simp [h,DF,MV]
 ·rw [h2];simp [h,DF,MV]
theorem LI (op:BinOp) (ty:TypeId) (X Y:Operand) {a b:Value}(h1:∀ x,a≠.agg x) (h2:a≠.nilIface∨b≠.nilIface):(eqGuard op ty X Y a b).run P w=.ok () w:=by
 unfold eqGuard
 cases op <;> simp <;> (split <;> first|(rcases h2 with h2|h2 <;> exact absurd rfl h2)|exact absurd rfl (h1 _)|simp)
variable {kd:Nat}
set_option maxHeartbeats 2000000 in
theorem Zjy {ty:TypeId}{x:AV}(op:BinOp) (hop:op=.eql∨op=.neq) (hk:Nb P ty=some kd) (hx:VR γ x x') (hy:VR γ y y') (h:JQ kd x y=some c):
 (eqGuard op ty X Y x' y').run P w=.ok () w∧(binOp op ty x' y').run P w=.ok (.bool (DF (MV op) c)) w:=by
 have hu:(kd=0->P.underlying ty=some .bool)∧(kd=1->∃ e,P.underlying ty=some (.pointer e))∧(kd=2->∃ e,P.underlying ty=some (.slice e))∧(kd=3->∃ e,P.underlying ty=some (.interface e))∧(kd=4->∃ a b c,P.underlying ty=some (.func a b c)):=by
  unfold Nb at hk
  split at hk <;> first|(cases hk;simp_all;done)|cases hk
 obtain ⟨u0,u1,u2,u3,u4⟩:=hu
 unfold JQ at h
 split at h
 ·have hu:=u0 rfl
  cases h
  rw [GJ hx,GJ hy]
  (refine Mx (kd:=0) op hop ?_ ?_ ?_ ?_;exact LI _ _ _ _ (by simp) (by simp);rfl;rfl;exact LM ty fun d=>by simp [Op.equalIn,Zp1 hu])
 all_goals first
  | (obtain ⟨e,hu⟩:=u1 rfl
     cases h;cases hx <;> cases hy <;>
     (refine Mx (kd:=0) op hop ?_ ?_ ?_ ?_;exact LI _ _ _ _ (by simp) (by simp);rfl;rfl;exact LM ty fun d=>by simp [Op.equalIn,Zp1 hu]))
  | (obtain ⟨e,hu⟩:=u2 rfl
     cases h;cases hx <;> cases hy <;>
     (refine Mx (kd:=0) op hop ?_ ?_ ?_ ?_;exact LI _ _ _ _ (by simp) (by simp);rfl;rfl;exact LM ty fun d=>by simp [Op.equalIn,Zp1 hu]))
  | (obtain ⟨e,hu⟩:=u3 rfl
     cases h;cases hx <;> cases hy <;>
     (refine Mx (kd:=0) op hop ?_ ?_ ?_ ?_;exact LI _ _ _ _ (by simp) (by simp);rfl;rfl;exact LM ty fun d=>by simp [Op.equalIn,Zp1 hu]))
  | (obtain ⟨a,b,e,hu⟩:=u4 rfl
     cases h;cases hx <;> cases hy <;>
     (refine Mx (kd:=0) op hop ?_ ?_ ?_ ?_;exact LI _ _ _ _ (by simp) (by simp);rfl;rfl;exact LM ty fun d=>by simp [Op.equalIn,Zp1 hu]))
  | (cases h;done)
theorem VA (hs:Sim P γ s w) {neg:Bool}{y:Operand}(hop:(op=.eql∧neg=false)∨(op=.neq∧neg=true)) (hk:Nb P ty=some kd) (hx:Ai x=some a) (hy:Ai y=some b)
 (ho:o.op=.binOp op ty x y yt) (he:Evs γ t ρ [x,y]) (h:Y5 kd neg a b t s=.ok v s'):OpOk P γ s w ρ o v s':=by
 obtain ⟨u1,hu1,h⟩:=AH h
 obtain ⟨u2,hu2,h⟩:=AH h
 obtain ⟨c,hc,h⟩:=AJ h
 obtain ⟨rfl,rfl⟩:=A0 h
 have h1:=he x (by simp) a u1 hx hu1
 have h2:=he y (by simp) b u2 hy hu2
 obtain ⟨r1,r2⟩:=Zjy (P:=P) (w:=w) (X:=x) (Y:=y) op (by rcases hop with ⟨h,_⟩|⟨h,_⟩ <;> simp [h]) hk h1 h2 hc
 refine Ay hs (.bool (DF neg c)) ?_ (.bool _)
 have e:MV op=neg:=by rcases hop with ⟨rfl,rfl⟩|⟨rfl,rfl⟩ <;> rfl
 rw [e] at r2
 simp only [execOp,ho,Zpt,r1,Zpm,r2,Zpz]
end
end Go.AM
namespace Go.AM
section
variable {P:Program}{γ:Gam}{s:St}{w:World}{t:AT}{ρ:Operand->Value}
variable {ty:Nat}
theorem Xr {kd:Nat}{x y:AV}{x' y':Value}{c:Bool}(hk:I9 P ty=some kd) (hx:VR γ x x') (hy:VR γ y y') (h:LF kd x y=some c) (d:Nat):(Op.equalIn (d+1) ty x' y').run P w=.ok c w:=by
 have hu:(kd=0->∃ k,P.underlying ty=some (.int k))∧(kd=1->P.underlying ty=some .bool)∧(kd=2->P.underlying ty=some .string):=by
  unfold I9 at hk
  split at hk <;> first|(cases hk;simp_all;done)|cases hk
 obtain ⟨u0,u1,u2⟩:=hu
 unfold LF at h
 split at h
 ·rename_i k a k' b
  obtain ⟨kk,hu⟩:=u0 rfl
  rw [AN hx,AN hy]
  cases hkk:Ch k k' with
  | false=>rw [hkk] at h;cases h
  | true=>rw [hkk] at h;cases h;cases LX hkk;rw [Gc];exact run_equalIn_int w d ty k kk a b hu
 ·cases h
  rw [GJ hx,GJ hy]
  exact run_equalIn_bool' w d ty _ _ (u1 rfl)
 ·cases h
  cases hx with
  | str _ sx e1=>cases hy with
   | str _ sy e2=>
    rw [My,← Sm e1 e2]
    exact run_equalIn_string w d ty _ _ (u2 rfl)
 ·cases h
variable {xs ys:Array Value}
theorem Zf9 (d:Nat):∀ (fs:List Field) (i:Nat) (ks:List Nat) (l m:List AV) (c:Bool),NS P fs i=some ks->Gq ks l m=some c->
 All2 (VR γ) l (xs.toList.drop i)->All2 (VR γ) m (ys.toList.drop i)->(Op.eqFields (d+1) xs ys fs).run P w=.ok c w:=by
 intro fs
 induction fs with
 | nil=>
  intro i ks l m c hf he h1 h2
  cases hf
  cases l <;> cases m <;> first|(cases he;simp [Op.eqFields])|cases he
 | cons f fs ih=>
  intro i ks l m c hf he h1 h2
  unfold NS at hf
  split at hf
  ·cases hf
  ·rename_i hn
   split at hf
   ·rename_i k r hk hr
    cases hf
    have hname : f.name ≠ "_" := fun e => hn (.inl e)
    have hoff:f.offset=i:=Classical.byContradiction fun e=>hn (.inr e)
    cases l with
    | nil=>cases he
    | cons x l=>cases m with
     | nil=>cases he
     | cons y m=>
      have hpl:Dh P f.type=some false:=by
       unfold I9 at hk
       unfold Dh
       split at hk <;> first|(rename_i hu;rw [hu])|cases hk
      obtain ⟨x',hx',hRx⟩:=h1.get (i:=0) (a:=x) (by simp)
      obtain ⟨y',hy',hRy⟩:=h2.get (i:=0) (a:=y) (by simp)
      rw [Zpu] at hx' hy'
      have ex:xs[i]?=some x':=by simpa using hx'
      have ey:ys[i]?=some y':=by simpa using hy'
      have t1:All2 (VR γ) l (xs.toList.drop (i+1)):=by have:=h1.drop 1;simpa [List.drop_drop] using this
      have t2:All2 (VR γ) m (ys.toList.drop (i+1)):=by have:=h2.drop 1;simpa [List.drop_drop] using this
      simp only [Gq] at he
      simp only [Op.eqFields,hname,ne_eq,not_false_eq_true,if_true,hoff,Zpt,J9 hpl ex,J9 hpl ey,Zpm]
      cases hq:LF k x y with
      | none=>rw [hq] at he;cases he
      | some b=>
       rw [hq] at he
       rw [Xr hk hRx hRy hq d]
       cases b with
       | true=>simpa using ih (i+1) r l m c hr he t1 t2
       | false=>cases he;simp
   ·cases hf
variable {e:Nat}
theorem Zdk {k:Nat}(hk:I9 P e=some k) (d:Nat):∀ (n i:Nat) (l m:List AV) (c:Bool),Gq (List.replicate n k) l m=some c->
 All2 (VR γ) l (xs.toList.drop i)->All2 (VR γ) m (ys.toList.drop i)->(Op.eqItems (d+1) e 1 xs ys (List.range' i n)).run P w=.ok c w:=by
 have hpl:Dh P e=some false:=by
  unfold I9 at hk
  unfold Dh
  split at hk <;> first|(rename_i hu;rw [hu])|cases hk
 intro n
 induction n with
 | zero=>
  intro i l m c he h1 h2
  cases l <;> cases m <;> first|(cases he;simp [Op.eqItems])|cases he
 | succ n ih=>
  intro i l m c he h1 h2
  rw [List.replicate_succ] at he
  cases l with
  | nil=>cases he
  | cons x l=>cases m with
   | nil=>cases he
   | cons y m=>
    obtain ⟨x',hx',hRx⟩:=h1.get (i:=0) (a:=x) (by simp)
    obtain ⟨y',hy',hRy⟩:=h2.get (i:=0) (a:=y) (by simp)
    rw [Zpu] at hx' hy'
    have ex:xs[i]?=some x':=by simpa using hx'
    have ey:ys[i]?=some y':=by simpa using hy'
    have t1:All2 (VR γ) l (xs.toList.drop (i+1)):=by have:=h1.drop 1;simpa [List.drop_drop] using this
    have t2:All2 (VR γ) m (ys.toList.drop (i+1)):=by have:=h2.drop 1;simpa [List.drop_drop] using this
    simp only [Gq] at he
    simp only [List.range'_succ,Op.eqItems,Zqm,Zpt,J9 hpl ex,J9 hpl ey,Zpm]
    cases hq:LF k x y with
    | none=>rw [hq] at he;cases he
    | some b=>
     rw [hq] at he
     rw [Xr hk hRx hRy hq d]
     cases b with
     | true=>simpa using ih (i+1) l m c he t1 t2
     | false=>cases he;simp
variable {o:Oper}{x y:Operand}{a b:AO}{v:AV}{s':St}
theorem V9 (hs:Sim P γ s w) {op:BinOp}{yt:Nat}{ks:List Nat}{neg:Bool}(hop:(op=.eql∧neg=false)∨(op=.neq∧neg=true)) (hk:Pt P ty=some ks) (hx:Ai x=some a) (hy:Ai y=some b)
 (ho:o.op=.binOp op ty x y yt) (he:Evs γ t ρ [x,y]) (h:Y4 ks neg a b t s=.ok v s'):OpOk P γ s w ρ o v s':=by
 obtain ⟨u1,hu1,h⟩:=AH h
 obtain ⟨u2,hu2,h⟩:=AH h
 obtain ⟨l,rfl,h⟩:=KV h
 obtain ⟨m,rfl,h⟩:=KV h
 obtain ⟨c,hc,h⟩:=AJ h
 obtain ⟨rfl,rfl⟩:=A0 h
 obtain ⟨xs,e1,r1,_⟩:=Lw (he x (by simp) a _ hx hu1)
 obtain ⟨ys,e2,r2,_⟩:=Lw (he y (by simp) b _ hy hu2)
 unfold Pt at hk
 split at hk
 ·rename_i fs hu
  split at hk
  ·rename_i hcond
   have hf:P.fieldsOf ty=fs:=by simp [Program.fieldsOf,hu]
   have hrun:(Op.equalIn 10000 ty (.agg xs) (.agg ys)).run P w=.ok c w:=by
    rw [run_equalIn_struct w 9999 ty xs ys (by rw [hf];exact hu) hcond.1,hf]
    exact Zf9 9998 fs.toList 0 ks l m c hk hc (by simpa using r1) (by simpa using r2)
   refine Ay hs (.bool (DF neg c)) ?_ (.bool _)
   rcases hop with ⟨rfl,rfl⟩|⟨rfl,rfl⟩
   ·simp only [execOp,ho,Zpt,e1,e2,run_eqGuard_agg w _ _ _ _ _ _ hcond.2,Zpm,run_eql_struct,hrun,Zpz];rfl
   ·simp only [execOp,ho,Zpt,e1,e2,run_eqGuard_agg w _ _ _ _ _ _ hcond.2,Zpm,run_neq_struct,hrun,Zpz];rfl
  ·cases hk
 ·rename_i n e hu
  split at hk
  ·rename_i hcond
   cases hpk:I9 P e with
   | none=>rw [hpk] at hk;cases hk
   | some kk=>
    rw [hpk] at hk
    cases hk
    have h1:P.cellsOf e=1:=by
     have:=hcond.1
     unfold AA at this
     unfold Program.cellsOf
     rw [this];rfl
    cases hi:P.info? e with
    | none=>have:=hcond.1;unfold AA at this;rw [hi] at this;cases this
    | some inf=>
    have hrun:(Op.equalIn 10000 ty (.agg xs) (.agg ys)).run P w=.ok c w:=by
     rw [run_equalIn_array w 9999 xs ys hu hi,h1,List.range_eq_range']
     exact Zdk hpk 9998 n 0 l m c hc (by simpa using r1) (by simpa using r2)
    refine Ay hs (.bool (DF neg c)) ?_ (.bool _)
    rcases hop with ⟨rfl,rfl⟩|⟨rfl,rfl⟩
    ·simp only [execOp,ho,Zpt,e1,e2,run_eqGuard_agg w _ _ _ _ _ _ hcond.2,Zpm,run_eql_struct,hrun,Zpz];rfl
    ·simp only [execOp,ho,Zpt,e1,e2,run_eqGuard_agg w _ _ _ _ _ _ hcond.2,Zpm,run_neq_struct,hrun,Zpz];rfl
  ·cases hk
 ·cases hk
theorem VK:∀ (cs:List AV) (vs:List Value) (l:List Nat) (acc:ByteArray),C0 cs=some l->All2 (VR γ) cs vs->
 ∃ bs:List UInt8,bs.map UInt8.toNat=l∧vs=bs.map (fun b=>Value.int .u8 b.toNat):=by
 intro cs
 induction cs with
 | nil=>intro vs l acc h hr;cases h;cases hr;exact ⟨[],rfl,rfl⟩
 | cons c cs ih=>
  intro vs l acc h hr
  cases hr with
  | @cons _ v _ vs' h1 h2=>
   change (IR.rec none (fun k n=>Bool.rec none (Int.rec (fun a=>Bool.rec none (Option.rec none (fun r=>some (a::r)) (C0 cs)) (Nat.blt a 256)) (fun _=>none) n) (Nat.beq (GF k) 4)) (asInt c):Option (List Nat))=some l at h
   cases hc:asInt c with
   | no=>rw [hc] at h;cases h
   | int k n=>
    rw [hc] at h
    dsimp only at h
    cases hk:Nat.beq (GF k) 4 with
    | false=>rw [hk] at h;cases h
    | true=>
     rw [hk] at h
     have hku:k=.u8:=by cases k <;> first|rfl|cases hk
     subst hku
     cases n with
     | negSucc n=>cases h
     | ofNat a=>
      dsimp only at h
      cases hb:Nat.blt a 256 with
      | false=>rw [hb] at h;cases h
      | true=>
       rw [hb] at h
       rw [Zq1] at hb
       cases hbo:C0 cs with
       | none=>rw [hbo] at h;cases h
       | some r=>
        rw [hbo] at h;cases h
        obtain ⟨bs,e1,e2⟩:=ih vs' r acc hbo h2
        rw [EE hc] at h1
        refine ⟨UInt8.ofNat a::bs,?_,?_⟩
        ·simp [e1];omega
        ·rw [AN h1,e2]
         simp
         omega
theorem QJ:∀ (bs:List UInt8) (acc:ByteArray),((bs.map (fun b=>(b.toNat:Int))).foldl (fun r n=>r.push (UInt8.ofNat n.toNat)) acc).data.toList=acc.data.toList++bs
 | [],acc=>by simp
 | b::bs,acc=>by rw [Zqz,List.foldl_cons,QJ bs];simp [ByteArray.push]
theorem Zd4 (hs:Sim P γ s w) {sr ds:Nat}(hsr:P.underlying sr=some (.slice e)) (hd:P.underlying ds=some .string) (hu8:P.underlying e=some (.int .u8)) (hx:Ai x=some a) (ho:o.op=.convert sr ds x) (he:Evs γ t ρ [x])
 (h:Zw a t s=.ok v s'):OpOk P γ s w ρ o v s':=by
 obtain ⟨u,hu',h⟩:=AH h
 have hv:=he x (by simp) a u hx hu'
 have hconv:∀ (p:Option Addr) (m c:Nat),(convert sr ds (.slice p m c)).run P w=(Conv.bytesToString (.slice p m c)).run P w:=by
  intro p m c;simp [convert,Zp1 hsr,Zp1 hd,Zp1 hu8]
 rcases F4 h with ⟨r,i,n,c,rfl,h⟩|⟨rfl,h⟩|⟨rfl,h⟩|⟨n,c,l0,rfl,h⟩
 ·obtain ⟨cs,hl,h⟩:=AJ h
  obtain ⟨l,hb,h⟩:=AJ h
  obtain ⟨rfl,rfl⟩:=A0 h
  obtain ⟨L,cc,hL,hval⟩:∃ L cc,γ r=some L∧ρ x=.slice (some ⟨L.b,L.o+i,none⟩) n cc:=by
   generalize ρ x=vx at hv
   cases hv with
   | sl _ _ _ c L hL=>exact ⟨L,_,hL,rfl⟩
   | slu _ _ _ c L hL=>exact ⟨L,_,hL,rfl⟩
  obtain ⟨vs,e1,hc,hR,h1⟩:=Jm hs hl hL
  obtain ⟨bs,e2,e3⟩:=VK cs vs l ByteArray.empty hb hR
  have hrun:=run_loadCells_list (P:=P) w _ vs hc
  rw [e1] at hrun
  have hb:=run_bytesToString (P:=P) w ⟨L.b,L.o+i,none⟩ n cc (bs.map (fun b=>(b.toNat:Int))) (by rw [hrun,e3];simp)
  refine Ay hs (.string ((bs.map (fun b=>(b.toNat:Int))).foldl (fun r n=>r.push (UInt8.ofNat n.toNat)) ByteArray.empty)) (by simp only [execOp,ho,Zpt,hval];rw [hconv,hb];simp only [Zpm,Zpz]) (.str _ _ ?_)
  rw [QJ];show List.map UInt8.toNat ([]++bs)=l;exact e2
 ·obtain ⟨rfl,rfl⟩:=A0 h
  generalize hxx:ρ x=vx at hv
  cases hv
  refine Ay hs (.string .empty) (by simp only [execOp,ho,Zpt,hxx];rw [hconv];simp [Conv.bytesToString]) (.str _ _ rfl)
 ·obtain ⟨rfl,rfl⟩:=A0 h
  generalize hxx:ρ x=vx at hv
  cases hv with
  | es ad c=>
   have hb:=run_bytesToString (P:=P) w ad 0 c [] (by simp [loadCells,loadCellsFrom])
   refine Ay hs (.string .empty) (by simp only [execOp,ho,Zpt,hxx];rw [hconv,hb];simp only [Zpm,Zpz,List.foldl_nil]) (.str _ _ rfl)
 ·obtain ⟨cs,hl,h⟩:=AJ h
  obtain ⟨l,hb,h⟩:=AJ h
  obtain ⟨rfl,rfl⟩:=A0 h
  obtain ⟨b,i,cc,cz,vs,hval,hbz,h2,h3,h4,_,_,h5⟩:=FN hv
  obtain ⟨us,e1,g2,hR,h1⟩:=Iz (k:=0) hs hbz h2 h3 h4 hl
  obtain ⟨bs,e2,e3⟩:=VK cs us l ByteArray.empty hb hR
  rw [Zqs] at g2
  have hrun:=run_loadCells_list (P:=P) w _ us (Ky hs hbz g2)
  rw [e1] at hrun
  have hb:=run_bytesToString (P:=P) w ⟨b,i,none⟩ n cc (bs.map (fun b=>(b.toNat:Int))) (by rw [hrun,e3];simp)
  refine Ay hs (.string ((bs.map (fun b=>(b.toNat:Int))).foldl (fun r n=>r.push (UInt8.ofNat n.toNat)) ByteArray.empty)) (by simp only [execOp,ho,Zpt,hval];rw [hconv,hb];simp only [Zpm,Zpz]) (.str _ _ ?_)
  rw [QJ];show List.map UInt8.toNat ([]++bs)=l;exact e2
variable {n:Nat}
theorem Gv {r i:Nat}{c:Option Nat}{v':Value}(h:VR γ (.sl r i n c) v'):∃ L cc,γ r=some L∧v'=.slice (some ⟨L.b,L.o+i,none⟩) n cc∧(∀ k,c=some k->cc=k):=by
 cases h with
 | sl _ _ _ c L hL=>exact ⟨L,_,hL,rfl,fun k e=>Zqr e⟩
 | slu _ _ _ c L hL=>exact ⟨L,_,hL,rfl,fun k e=>by cases e⟩
theorem Zda {by_:Nat}{z:List AV}(hu:P.underlying ty=some (.slice e)) (hn:AA P e=some n) (hby:HP P e=some by_) (hz:En P e=some z) (h1n:1≤n) (hbl:by_≤4096) (hzl:z.length=n)
 (hx:Ai x=some a) (hy:Ai y=some b) (ho:o.op=.makeSlice ty x y) (he:Evs γ t ρ [x,y]) (h:YZ e n z a b t s=.ok v s'):Fresh P γ w ρ o s v s':=by
 obtain ⟨l,hl,h⟩:=C9 h
 obtain ⟨c,hc,h⟩:=C9 h
 obtain ⟨hcond,h⟩:=BF h
 obtain ⟨rfl,rfl⟩:=A0 h
 obtain ⟨k1,h1⟩:=M7 hl
 obtain ⟨k2,h2⟩:=M7 hc
 have v1:ρ x=.int k1 (l:Int):=AN (he x (by simp) a _ hx h1)
 have v2:ρ y=.int k2 (c:Int):=AN (he y (by simp) b _ hy h2)
 simp only [Zpl] at hcond
 have hlc:=Zp7 hcond.1
 have hcm:=Zp7 hcond.2
 obtain ⟨i,zv,hi,hzz,ha⟩:=Ji hz
 obtain ⟨y1,y2⟩:=GC (γ:=γ) ha
 have hzs:zv.cells.size=n:=by rw [← hzl];simpa using y1.length.symm
 obtain ⟨q1,q2⟩:=Ku y1 y2 (by omega) c
 rw [hzs] at q1 q2
 rw [Ss]
 refine ⟨.row e (FF z c),fun r=>.sl r 0 l (some c),.cells _ e,_,n,.slice (some ⟨w.heap.size,0,none⟩) l c,rfl,rfl,?_,fun γ' r hle hr=>⟨OQ hn q1 q2 hle,.sl r 0 l c _ hr hlc⟩⟩
 have hib:i.bytes=by_:=by simp [HP,hi] at hby;exact hby
 have hw1:IntKind.i64.wrap (l:Int)=(l:Int):=IntWalk.i64_in (l:Int) ⟨by omega,by omega⟩
 have hw2:IntKind.i64.wrap (c:Int)=(c:Int):=IntWalk.i64_in (c:Int) ⟨by omega,by omega⟩
 have hbc:i.bytes*c≤4096*1000000:=by rw [hib];exact Nat.mul_le_mul hbl hcm
 have hroom:¬ (c*i.bytes>roomBytes):=by rw [Nat.mul_comm];simp only [roomBytes];omega
 have hlarge:((decide ((c:Int)<0) || decide ((i.bytes:Int)*(c:Int)>2^48)) || decide ((l:Int)<0) || decide ((l:Int)>(c:Int)))=false:=by
  have:(i.bytes:Int)*(c:Int)=((i.bytes*c:Nat):Int):=by simp
  rw [this]
  simp
  omega
 simp only [execOp,ho,Instr.makeSlice,Zpt,Zp1 hu,Zpm,Go.asInt,asIntOf,v1,v2,Zpz,typeInfo,run_program,hi,hw1,hw2,hlarge]
 rw [Zpr (by simp)]
 have hroom':(askRoom (c*i.bytes)).run P w=.ok () w:=by unfold askRoom;rw [Zpr hroom];rfl
 simp only [Int.toNat_natCast,Zpt,hroom',Zpm,CB hn]
 by_cases h0:c*n=0
 ·have hrow:(Array.range (c*n)).map (fun x=>(#[]:Array Value)[x % (#[]:Array Value).size]!)=(Array.range (c*n)).map (fun i=>zv.cells[i % n]!):=by
   rw [h0];simp
  simp only [Zpn h0,Zpt,Zpz,Zpm,hrow,newRow,Ir]
 ·simp only [Zpr h0,Zpt,Zpz,GZ hi hzz,Zpm,hzs,newRow,Ir]
variable {d:Nat}
theorem Wf {x:Option AO}(h:C8 t x d=.n n):(x=none∧n=d)∨∃ a k,x=some a∧ev a t=.some (.int k (.ofNat n)):=by
 cases x with
 | none=>cases h;exact .inl ⟨rfl,rfl⟩
 | some a=>obtain ⟨k,hk⟩:=M7 h;exact .inr ⟨a,k,rfl,hk⟩
theorem ZB (k:IntKind) (i y:Nat) (code:BoundsCode) (h:i≤y):(Instr.sliceBound (.int k (i:Int)) y code).run P w=.ok i w:=by
 simp [Instr.sliceBound,asIntOf,h]
def Hs (ρ:Operand->Value) (x:Option Operand) (d n:Nat):Prop:=(x=none∧n=d)∨∃ y k,x=some y∧ρ y=.int k (n:Int)
theorem Fd {x:Option Operand}{a:Option AO}(hx:Eg x=some a) (he:∀ y,x=some y->Evs γ t ρ [y]) (h:C8 t a d=.n n):Hs ρ x d n:=by
 cases x with
 | none=>cases hx;rcases Wf h with ⟨_,e⟩|⟨a,k,e,_⟩
         ·exact .inl ⟨rfl,e⟩
         ·cases e
 | some y=>
  simp only [Eg] at hx
  cases ha:Ai y with
  | none=>rw [ha] at hx;cases hx
  | some b=>
   rw [ha] at hx;cases hx
   rcases Wf h with ⟨e,_⟩|⟨b',k,e,hk⟩
   ·cases e
   ·cases e;exact .inr ⟨y,k,rfl,AN (he y rfl y (by simp) b _ ha hk)⟩
variable {lo hi mx:Option Operand}{m:Nat}
theorem Uq (sl:Bool) {len cap:Nat}{l h:Nat}(h1:Hs ρ lo 0 l) (h2:Hs ρ hi len h) (h3:Hs ρ mx cap m) (hm:mx.isSome=true->hi.isSome=true) (hlh:l≤h) (hhm:h≤m) (hmc:m≤cap):
 (Instr.sliceBounds sl len cap (lo.map ρ) (hi.map ρ) (mx.map ρ)).run P w=.ok (l,h,m) w:=by
 rcases h1 with ⟨rfl,rfl⟩|⟨y1,k1,rfl,hy1⟩ <;> rcases h2 with ⟨rfl,rfl⟩|⟨y2,k2,rfl,hy2⟩ <;> rcases h3 with ⟨rfl,rfl⟩|⟨y3,k3,rfl,hy3⟩ <;>
  first
  | (simp [Instr.sliceBounds, *,ZB];done)
  | exact absurd (hm rfl) (by simp)
variable {es:Nat}{alo ahi amx:Option AO}
theorem Zcw (hs:Sim P γ s w) (hu:P.underlying ty=some (.slice e)) (hes:AA P e=some es)
 (hx:Ai x=some a) (hlo:Eg lo=some alo) (hhi:Eg hi=some ahi) (hmx:Eg mx=some amx) (hm:amx.isSome=true->ahi.isSome=true) (ho:o.op=.slice ty x lo hi mx)
 (he:Evs γ t ρ ([x]++lo.toList++hi.toList++mx.toList)) (h:YT es a alo ahi amx t s=.ok v s'):OpOk P γ s w ρ o v s':=by
 obtain ⟨u,hu',h⟩:=AH h
 have hv:=he x (by simp) a u hx hu'
 have hlo':∀ y,lo=some y->Evs γ t ρ [y]:=fun y hy z hz=>he z (by simp at hz;subst hz;simp [hy])
 have hhi':∀ y,hi=some y->Evs γ t ρ [y]:=fun y hy z hz=>he z (by simp at hz;subst hz;simp [hy])
 have hmx':∀ y,mx=some y->Evs γ t ρ [y]:=fun y hy z hz=>he z (by simp at hz;subst hz;simp [hy])
 have hms:mx.isSome=true->hi.isSome=true:=by
  intro hq
  cases mx with
  | none=>cases hq
  | some y=>cases hi with
   | some z=>rfl
   | none=>
    simp only [Eg] at hmx hhi
    cases hhi
    cases hay:Ai y with
    | none=>rw [hay] at hmx;cases hmx
    | some b=>rw [hay] at hmx;cases hmx;exact absurd (hm rfl) (by simp)
 have hfin:∀ {ad:Option Addr}{n c l h m:Nat},ρ x=.slice ad n c->Hs ρ lo 0 l->Hs ρ hi n h->Hs ρ mx c m->l≤h->h≤m->m≤c->
  (execOp ρ o).run P w=.ok (.value (.slice (if m=l then ad else ad.map (·.add (l*es))) (h-l) (m-l))) w:=by
  intro ad n c l h m e1 e2 e3 e4 e5 e6 e7
  simp only [execOp,ho,Instr.sliceAt,Zpt,Zp1 hu,Zpm,e1,Instr.slice,Uq (P:=P) (w:=w) true e2 e3 e4 hms e5 e6 e7,CB hes,Zpz]
 rcases F4 h with ⟨r,i,n,c,rfl,h⟩|⟨rfl,h⟩|⟨rfl,h⟩|⟨n,cap,l0,rfl,h⟩
 ·obtain ⟨l,hl,h⟩:=C9 h
  obtain ⟨q,hq,h⟩:=C9 h
  have b1:=Fd hlo hlo' hl
  have b2:=Fd hhi hhi' hq
  cases amx with
  | none=>
   have hmn:mx=none:=by
    cases mx with
    | none=>rfl
    | some y=>simp only [Eg] at hmx;cases hay:Ai y <;> rw [hay] at hmx <;> cases hmx
   subst hmn
   change Tm es r i n c l q s=.ok v s' at h
   cases c with
   | some c=>
    obtain ⟨hc,h⟩:=BF h
    obtain ⟨rfl,rfl⟩:=A0 h
    simp only [Zpl] at hc
    have c1:=Zp7 hc.1
    have c2:=Zp7 hc.2
    generalize hxx:ρ x=vx at hv
    cases hv with
    | sl _ _ _ _ L hL=>
     have hr:=hfin hxx b1 b2 (.inl ⟨rfl,rfl⟩) c1 c2 (Zp4 _)
     refine Ay hs _ hr ?_
     cases hcl:Nat.beq c l with
     | true=>
      have:=Zpp hcl
      rw [Zpn this];exact .sl _ _ _ _ L hL (by omega)
     | false=>
      have:=Zqo hcl
      rw [Zpr this]
      simp only [Option.map_some,DX,Zrg];exact .sl _ _ _ _ L hL (by omega)
   | none=>
    obtain ⟨hc,h⟩:=BF h
    simp only [Zpl] at hc
    have c1:=Zp7 hc.1
    have c2:=Zp7 hc.2
    generalize hxx:ρ x=vx at hv
    cases hv with
    | slu _ _ _ c L hL hnc hcm hcs=>
     have hr:=hfin hxx b1 b2 (.inl ⟨rfl,rfl⟩) c1 (Nat.le_trans c2 hnc) (Zp4 _)
     cases hln:Nat.blt l n with
     | true=>
      rw [hln] at h
      obtain ⟨rfl,rfl⟩:=A0 h
      rw [Zq1] at hln
      refine Ay hs _ hr ?_
      rw [Zpr (by omega)]
      simp only [Option.map_some,DX,Zrg]
      refine .slu _ _ _ _ L hL (by omega) (by omega) (fun e=>?_)
      have:=hcs (by omega)
      exact Nat.le_trans (Nat.mul_le_mul_right _ (Nat.sub_le _ _)) this
     | false=>
      rw [hln] at h
      obtain ⟨rfl,rfl⟩:=A0 h
      have:¬ l<n:=fun e=>by rw [← Zq1,hln] at e;cases e
      have hq0:q-l=0:=by omega
      refine Ay hs _ hr ?_
      rw [hq0]
      by_cases e:c=l
      ·rw [Zpn e];exact .es _ _
      ·rw [Zpr e];exact .es _ _
  | some m=>
   obtain ⟨mm,hmm,h⟩:=C9 h
   obtain ⟨hc,h⟩:=BF h
   obtain ⟨rfl,rfl⟩:=A0 h
   simp only [Zpl] at hc
   have c1:=Zp7 hc.1.1
   have c2:=Zp7 hc.1.2
   have c3:=Zp7 hc.2
   obtain ⟨k,hmm⟩:=M7 hmm
   obtain ⟨cc,hbm,hval,hle⟩:∃ L cc,γ r=some L∧ρ x=.slice (some ⟨L.b,L.o+i,none⟩) n cc∧mm≤cc:=by
    generalize ρ x=vx at hv
    cases hv with
    | sl _ _ _ c L hL=>exact ⟨L,c,hL,rfl,c3⟩
    | slu _ _ _ c L hL hnc=>exact ⟨L,c,hL,rfl,Nat.le_trans c3 hnc⟩
   have b3:Hs ρ mx hbm mm:=by
    cases mx with
    | none=>cases hmx
    | some y=>
     simp only [Eg] at hmx
     cases hay:Ai y with
     | none=>rw [hay] at hmx;cases hmx
     | some b=>
      rw [hay] at hmx
      obtain rfl:b=m:=by simpa using hmx
      exact .inr ⟨y,k,rfl,AN (hmx' y rfl y (by simp) b _ hay hmm)⟩
   have hr:=hfin hle.1 b1 b2 b3 c1 c2 hle.2
   refine Ay hs _ hr ?_
   cases hcl:Nat.beq mm l with
   | true=>
    have:=Zpp hcl
    rw [Zpn this];exact .sl _ _ _ _ cc hval (by omega)
   | false=>
    have:=Zqo hcl
    rw [Zpr this]
    simp only [Option.map_some,DX,Zrg];exact .sl _ _ _ _ cc hval (by omega)
 ·obtain ⟨l,hl,h⟩:=C9 h
  obtain ⟨q,hq,h⟩:=C9 h
  obtain ⟨m,hmq,h⟩:=C9 h
  obtain ⟨hc,h⟩:=BF h
  obtain ⟨rfl,rfl⟩:=A0 h
  have hc:=Zpp hc
  have b1:=Fd hlo hlo' hl
  have b2:=Fd hhi hhi' hq
  have b3:=Fd hmx hmx' hmq
  obtain rfl:l=0:=by omega
  obtain rfl:q=0:=by omega
  obtain rfl:m=0:=by omega
  generalize hxx:ρ x=vx at hv
  cases hv
  refine Ay hs _ (hfin hxx b1 b2 b3 (Zp4 _) (Zp4 _) (Zp4 _)) ?_
  exact .nils
 ·obtain ⟨l,hl,h⟩:=C9 h
  obtain ⟨q,hq,h⟩:=C9 h
  obtain ⟨m,hmq,h⟩:=C9 h
  obtain ⟨hc,h⟩:=BF h
  obtain ⟨rfl,rfl⟩:=A0 h
  have hc:=Zpp hc
  have b1:=Fd hlo hlo' hl
  have b2:=Fd hhi hhi' hq
  have b3:=Fd hmx hmx' hmq
  obtain rfl:l=0:=by omega
  obtain rfl:q=0:=by omega
  obtain rfl:m=0:=by omega
  generalize hxx:ρ x=vx at hv
  cases hv with
  | es ad c=>
   rcases b3 with ⟨rfl,_⟩|⟨y,k,rfl,hy⟩
   ·cases hmx
    refine Ay hs _ (hfin hxx b1 b2 (.inl ⟨rfl,rfl⟩) (Zp4 _) (Zp2 _) (Zp4 _)) ?_
    by_cases e:c=0
    ·rw [Zpn e];exact .es _ _
    ·rw [Zpr e];exact .es _ _
   ·refine Ay hs _ (hfin hxx b1 b2 (.inr ⟨y,k,rfl,hy⟩) (Zp4 _) (Zp4 _) (Zp2 _)) ?_
    simp only [Eg] at hmx
    cases hay:Ai y with
    | none=>rw [hay] at hmx;cases hmx
    | some b=>
     rw [hay] at hmx
     cases hmx
     exact .ez _
 ·obtain ⟨l,hl,h⟩:=C9 h
  obtain ⟨q,hq,h⟩:=C9 h
  have b1:=Fd hlo hlo' hl
  have b2:=Fd hhi hhi' hq
  obtain ⟨b,i,cc,cz,vs,hval,hbz,h2,h3,h4,hnc,hck,h5⟩:=FN hv
  cases amx with
  | none=>
   have hmn:mx=none:=by
    cases mx with
    | none=>rfl
    | some y=>simp only [Eg] at hmx;cases hay:Ai y <;> rw [hay] at hmx <;> cases hmx
   subst hmn
   change Nh es n cap l0 l q s=.ok v s' at h
   obtain ⟨hc,h⟩:=BF h
   simp only [Zpl] at hc
   have c1:=Zp7 hc.1
   have c2:=Zp7 hc.2
   have hr:=hfin hval b1 b2 (.inl ⟨rfl,rfl⟩) c1 (Nat.le_trans c2 hnc) (Zp4 _)
   cases hln:Nat.blt l n with
   | true=>
    rw [hln] at h
    obtain ⟨cs',ht,h⟩:=AJ h
    obtain ⟨rfl,rfl⟩:=A0 h
    rw [Zq1] at hln
    refine Ay hs _ hr ?_
    rw [Zpr (by omega)]
    simp only [Option.map_some,DX]
    obtain ⟨us,e1,g2,hR,h1⟩:=Iz hs hbz h2 h3 h4 ht
    refine .fz _ _ _ us b _ _ cz hbz g2 h1 hR (by omega) ?_ (XO h5 ht)
    intro k hk
    cases cap with
    | none=>cases hk
    | some c=>cases hk;rw [hck c rfl]
   | false=>
    rw [hln] at h
    obtain ⟨rfl,rfl⟩:=A0 h
    have:¬ l<n:=fun e=>by rw [← Zq1,hln] at e;cases e
    have hq0:q-l=0:=by omega
    refine Ay hs _ hr ?_
    rw [hq0]
    by_cases e:cc=l
    ·rw [Zpn e];exact .es _ _
    ·rw [Zpr e];exact .es _ _
  | some m=>
   obtain ⟨mm,hmm,h⟩:=C9 h
   obtain ⟨hc,h⟩:=BF h
   simp only [Zpl] at hc
   have c1:=Zp7 hc.1.1
   have c2:=Zp7 hc.1.2
   have c3:=Zp7 hc.2
   obtain ⟨k,hmm⟩:=M7 hmm
   have b3:Hs ρ mx cc mm:=by
    cases mx with
    | none=>cases hmx
    | some y=>
     simp only [Eg] at hmx
     cases hay:Ai y with
     | none=>rw [hay] at hmx;cases hmx
     | some b=>
      rw [hay] at hmx
      obtain rfl:b=m:=by simpa using hmx
      exact .inr ⟨y,k,rfl,AN (hmx' y rfl y (by simp) b _ hay hmm)⟩
   have hr:=hfin hval b1 b2 b3 c1 c2 (Nat.le_trans c3 hnc)
   cases hln:Nat.blt l mm with
   | true=>
    rw [hln] at h
    obtain ⟨cs',ht,h⟩:=AJ h
    obtain ⟨rfl,rfl⟩:=A0 h
    rw [Zq1] at hln
    refine Ay hs _ hr ?_
    rw [Zpr (by omega)]
    simp only [Option.map_some,DX]
    obtain ⟨us,e1,g2,hR,h1⟩:=Iz hs hbz h2 h3 h4 ht
    exact .fz _ _ _ us b _ _ cz hbz g2 h1 hR (by omega) (fun k hk=>by cases hk;rfl) (XO h5 ht)
   | false=>
    rw [hln] at h
    obtain ⟨rfl,rfl⟩:=A0 h
    have:¬ l<mm:=fun e=>by rw [← Zq1,hln] at e;cases e
    have hq0:q-l=0:=by omega
    refine Ay hs _ hr ?_
    rw [hq0]
    rw [Zpn (show mm=l by omega),show mm-l=0 by omega];exact .ez _
theorem Zcx (hs:Sim P γ s w) (hu:P.underlying ty=some (.array n e)) (hes:AA P e=some es)
 (hx:Ai x=some a) (hlo:Eg lo=some alo) (hhi:Eg hi=some ahi) (hmx:Eg mx=some amx) (hms:mx.isSome=true->hi.isSome=true) (ho:o.op=.slice ty x lo hi mx)
 (he:Evs γ t ρ ([x]++lo.toList++hi.toList++mx.toList)) (h:YV es n a alo ahi amx t s=.ok v s'):OpOk P γ s w ρ o v s':=by
 obtain ⟨u,hu',h⟩:=AH h
 have hlo':∀ y,lo=some y->Evs γ t ρ [y]:=fun y hy z hz=>he z (by simp at hz;subst hz;simp [hy])
 have hhi':∀ y,hi=some y->Evs γ t ρ [y]:=fun y hy z hz=>he z (by simp at hz;subst hz;simp [hy])
 have hmx':∀ y,mx=some y->Evs γ t ρ [y]:=fun y hy z hz=>he z (by simp at hz;subst hz;simp [hy])
 obtain ⟨r,i,rfl,h⟩:=OS h
 obtain ⟨L,hL,hv⟩:=IQ (he x (by simp) a _ hx hu')
 obtain ⟨l,hl,h⟩:=C9 h
 obtain ⟨q,hq,h⟩:=C9 h
 obtain ⟨m,hmq,h⟩:=C9 h
 obtain ⟨hc,h⟩:=BF h
 obtain ⟨rfl,rfl⟩:=A0 h
 simp only [Zpl] at hc
 have c1:=Zp7 hc.1.1
 have c2:=Zp7 hc.1.2
 have c3:=Zp7 hc.2
 have b1:=Fd hlo hlo' hl
 have b2:=Fd hhi hhi' hq
 have b3:=Fd hmx hmx' hmq
 refine Ay hs (.slice (some (if m=l then ⟨L.b,L.o+i,none⟩ else (⟨L.b,L.o+i,none⟩:Addr).add (l*es))) (q-l) (m-l)) ?_ ?_
 ·simp only [execOp,ho,Instr.sliceAt,Zpt,Zp1 hu,Zpm,hv,Instr.sureAddr,Uq (P:=P) (w:=w) false b1 b2 b3 hms c1 c2 c3,CB hes,Zpz]
 ·cases hcl:Nat.beq m l with
  | true=>
   have:=Zpp hcl
   rw [Zpn this];exact .sl _ _ _ _ L hL (by omega)
  | false=>
   have:=Zqo hcl
   rw [Zpr this]
   simp only [DX,Zrg];exact .sl _ _ _ _ L hL (by omega)
theorem Zdi (hs:Sim P γ s w) (hu:P.underlying ty=some (.slice e)) (hes:AA P e=some es) (hx:Ai x=some a) (hy:Ai y=some b) (ho:o.op=.indexAddr ty x y) (he:Evs γ t ρ [x,y])
 (h:Zg es a b t s=.ok v s'):OpOk P γ s w ρ o v s':=by
 obtain ⟨u1,hu1,h⟩:=AH h
 obtain ⟨u2,hu2,h⟩:=AH h
 obtain ⟨i,hi,h⟩:=C9 h
 obtain ⟨k,rfl⟩:=Jr hi
 rcases F4 h with ⟨r,o',n,c,rfl,h⟩|⟨rfl,h⟩|⟨rfl,h⟩|⟨n,c,l,rfl,h⟩
 ·obtain ⟨hc,h⟩:=BF h
  obtain ⟨rfl,rfl⟩:=A0 h
  rw [Zq1] at hc
  obtain ⟨L,cc,hL,hv,_⟩:=Gv (he x (by simp) a _ hx hu1)
  have hv2:ρ y=.int k (i:Int):=AN (he y (by simp) b _ hy hu2)
  refine Ay hs (.pointer (some ⟨L.b,L.o+(o'+i*es),none⟩)) ?_ (.ptr _ _ L hL)
  simp [execOp,ho,Instr.indexAt,hv,hv2,asIntOf,Zp1 hu,hc,CB hes,DX,Zrg]
 ·cases h
 ·cases h
 ·obtain ⟨hc,h⟩:=BF h
  obtain ⟨rfl,rfl⟩:=A0 h
  rw [Zq1] at hc
  obtain ⟨bb,o',cc,cz,vs,hv,hbz,h2,h3,h4,_,_,h5⟩:=FN (he x (by simp) a _ hx hu1)
  have hv2:ρ y=.int k (i:Int):=AN (he y (by simp) b _ hy hu2)
  refine Ay hs (.pointer (some ⟨bb,o'+i*es,none⟩)) ?_ (RO hbz h2 h3 h4 h5)
  simp [execOp,ho,Instr.indexAt,hv,hv2,asIntOf,Zp1 hu,hc,CB hes,DX]
theorem Zdj (hs:Sim P γ s w) (hu:P.underlying ty=some (.array n e)) (hes:AA P e=some es) (hx:Ai x=some a) (hy:Ai y=some b) (ho:o.op=.indexAddr ty x y) (he:Evs γ t ρ [x,y])
 (h:Zh n es a b t s=.ok v s'):OpOk P γ s w ρ o v s':=by
 obtain ⟨u1,hu1,h⟩:=AH h
 obtain ⟨u2,hu2,h⟩:=AH h
 obtain ⟨i,hi,h⟩:=C9 h
 obtain ⟨k,rfl⟩:=Jr hi
 have hv2:ρ y=.int k (i:Int):=AN (he y (by simp) b _ hy hu2)
 rcases O9 h with ⟨r,o',rfl,h⟩|⟨l,rfl,h⟩
 ·obtain ⟨hc,h⟩:=BF h
  obtain ⟨rfl,rfl⟩:=A0 h
  rw [Zq1] at hc
  obtain ⟨L,hL,hv⟩:=IQ (he x (by simp) a _ hx hu1)
  refine Ay hs (.pointer (some ⟨L.b,L.o+(o'+i*es),none⟩)) ?_ (.ptr _ _ L hL)
  simp [execOp,ho,Instr.indexAt,hv,hv2,asIntOf,Zp1 hu,hc,CB hes,DX,Zrg,Instr.sureAddr]
 ·obtain ⟨hc,h⟩:=BF h
  obtain ⟨rfl,rfl⟩:=A0 h
  rw [Zq1] at hc
  obtain ⟨bb,o',cz,vs,hv,hbz,h2,h3,h4,h5⟩:=fpV (he x (by simp) a _ hx hu1)
  refine Ay hs (.pointer (some ⟨bb,o'+i*es,none⟩)) ?_ (RO hbz h2 h3 h4 h5)
  simp [execOp,ho,Instr.indexAt,hv,hv2,asIntOf,Zp1 hu,hc,CB hes,DX,Instr.sureAddr]
theorem Zdh (hs:Sim P γ s w) (hu:P.underlying ty=some (.array n e)) (hes:AA P e=some 1) (hag:Dh P e=some false) (hx:Ai x=some a) (hy:Ai y=some b) (ho:o.op=.index ty x y) (he:Evs γ t ρ [x,y])
 (h:Zf n a b t s=.ok v s'):OpOk P γ s w ρ o v s':=by
 obtain ⟨u1,hu1,h⟩:=AH h
 obtain ⟨u2,hu2,h⟩:=AH h
 obtain ⟨i,hi,h⟩:=C9 h
 obtain ⟨k,rfl⟩:=Jr hi
 obtain ⟨l,rfl,h⟩:=KV h
 obtain ⟨hc,h⟩:=BF h
 obtain ⟨hk,rfl⟩:=K9 h
 rw [Jw] at hk
 rw [Zq1] at hc
 obtain ⟨cs,hv,hR,_⟩:=Lw (he x (by simp) a _ hx hu1)
 have hv2:ρ y=.int k (i:Int):=AN (he y (by simp) b _ hy hu2)
 obtain ⟨v',hv',hRv⟩:=hR.get hk
 refine Ay hs v' ?_ hRv
 have hp:=J9 (P:=P) (w:=w) hag (show cs[i]?=some v' by simpa using hv')
 simp [execOp,ho,Instr.index,hv,hv2,asIntOf,Zp1 hu,hc,CB hes,hp]
theorem Zbp (hs:Sim P γ s w) (hu:P.underlying ty=some (.array n e)) (hes:AA P e=some m) (hag:Dh P e=some true) (hx:Ai x=some a) (hy:Ai y=some b) (ho:o.op=.index ty x y) (he:Evs γ t ρ [x,y])
 (h:Yz n m a b t s=.ok v s'):OpOk P γ s w ρ o v s':=by
 obtain ⟨u1,hu1,h⟩:=AH h
 obtain ⟨u2,hu2,h⟩:=AH h
 obtain ⟨i,hi,h⟩:=C9 h
 obtain ⟨k,rfl⟩:=Jr hi
 obtain ⟨l,rfl,h⟩:=KV h
 obtain ⟨hc,h⟩:=BF h
 obtain ⟨cs,hk,h'⟩:=AJ h
 obtain ⟨rfl,rfl⟩:=A0 h'
 rw [Zq1] at hc
 obtain ⟨e1,hle⟩:=Km _ hk
 rw [Hk] at e1 hle
 subst e1
 obtain ⟨c,hv,hR,h1⟩:=Lw (he x (by simp) a _ hx hu1)
 have hv2:ρ y=.int k (i:Int):=AN (he y (by simp) b _ hy hu2)
 have e2:(c.extract (i*m) (i*m+m)).toList=(c.toList.drop (i*m)).take m:=by simp [Array.toList_extract,List.extract_eq_take_drop]
 refine Ay hs (.agg (c.extract (i*m) (i*m+m))) ?_ (.agg _ _ (by rw [e2];exact (hR.drop _).take _) (by rw [e2];exact fun v hv=>h1 v (Zqv (Zqq hv))))
 simp [execOp,ho,Instr.index,hv,hv2,asIntOf,Zp1 hu,hc,CB hes,Yr hag hes]
theorem El {b:Builtin}{args:Array Operand}{ts:Array TypeId}(ho:o.op=.call { callee:=.builtin b,args:=args,argTypes:=ts }):
 (execOp ρ o).run P w=(builtin b ts o.type (args.map fun|.const _=>true|_=>false) (args.map ρ)).run P w:=by
 simp only [execOp,ho,resolve,Zpt,Zpz,Zpm,invoke]
 rfl
theorem Zde (hs:Sim P γ s w) {T:Nat}(hu:P.underlying T=some (.slice e)) (hx:Ai x=some a) (ho:o.op=.call { callee:=.builtin .len,args:=#[x],argTypes:=#[T] }) (he:Evs γ t ρ [x])
 (h:Zc a t s=.ok v s'):OpOk P γ s w ρ o v s':=by
 obtain ⟨u,hu',h⟩:=AH h
 have hv:=he x (by simp) a u hx hu'
 have hrun:∀ (p:Option Addr) (n c:Nat),ρ x=.slice p n c->(execOp ρ o).run P w=.ok (.value (.int .i64 n)) w:=by
  intro p n c e1
  rw [El ho]
  have hl:∀ ty,(Builtin.len_ #[T] ty #[.slice p n c]).run P w=.ok (goInt n) w:=fun ty=>by simp [Builtin.len_,Zp1 hu]
  simp only [builtin,Zq7,Zqz,Zrm,e1,Zpt,hl,Zpm,Zpz]
  rfl
 rcases F4 h with ⟨r,i,n,c,rfl,h⟩|⟨rfl,h⟩|⟨rfl,h⟩|⟨n,c,l,rfl,h⟩
 ·obtain ⟨rfl,rfl⟩:=A0 h
  obtain ⟨L,cc,hL,hval,_⟩:=Gv hv
  exact Ay hs _ (hrun _ _ _ hval) (.int _ _)
 ·obtain ⟨rfl,rfl⟩:=A0 h
  generalize hxx:ρ x=vx at hv
  cases hv
  exact Ay hs _ (hrun _ _ _ hxx) (.int _ _)
 ·obtain ⟨rfl,rfl⟩:=A0 h
  generalize hxx:ρ x=vx at hv
  cases hv
  exact Ay hs _ (hrun _ _ _ hxx) (.int _ _)
 ·obtain ⟨rfl,rfl⟩:=A0 h
  obtain ⟨bb,o',cc,cz,vs,hval,_⟩:=FN hv
  exact Ay hs _ (hrun _ _ _ hval) (.int _ _)
theorem Zb5 (hs:Sim P γ s w) {T:Nat}(hu:P.underlying T=some (.array n e)) (ho:o.op=.call { callee:=.builtin .len,args:=#[x],argTypes:=#[T] })
 (h:YJ n t s=.ok v s'):OpOk P γ s w ρ o v s':=by
 obtain ⟨rfl,rfl⟩:=A0 h
 refine Ay hs (.int .i64 n) ?_ (.int _ _)
 rw [El ho]
 have hl:∀ ty u,(Builtin.len_ #[T] ty #[u]).run P w=.ok (goInt n) w:=fun ty u=>by simp [Builtin.len_,Zp1 hu]
 simp only [builtin,Zq7,Zqz,Zrm,Zpt,hl,Zpm,Zpz]
 rfl
end
end Go.AM
namespace Go.AM
section
variable {P:Program}{γ:Gam}{s:St}{w:World}{t:AT}{ρ:Operand->Value}
theorem Zmp (mx:Bool):∀ (l:List AV) (x v:AV) (x':Value) (l':List Value),mm mx l x=.some v->VR γ x x'->All2 (VR γ) l l'->
 ∃ v',(l'.foldlM (if mx then Builtin.max2 else Builtin.min2) x').run P w=.ok v' w∧VR γ v v':=by
 intro l
 induction l with
 | nil=>intro x v x' l' h hx hl;cases hl;cases h;exact ⟨x',rfl,hx⟩
 | cons y l ih=>
  intro x v x' l' h hx hl
  cases hl with
  | @cons _ y' _ l'' hy hl=>
   change (IR.rec .none (fun k a=>IR.rec .none (fun k' b=>Bool.rec .none (mm mx l (.int k (Bool.rec a b (Bool.rec (E6 b a) (E6 a b) mx)))) (Ch k k')) (asInt y)) (asInt x):OV)=.some v at h
   cases hx1:asInt x with
   | no=>rw [hx1] at h;cases h
   | int k a=>
    rw [hx1] at h
    cases hy1:asInt y with
    | no=>rw [hy1] at h;cases h
    | int k' b=>
     rw [hy1] at h
     dsimp only at h
     cases hk:Ch k k' with
     | false=>rw [hk] at h;cases h
     | true=>
      rw [hk] at h
      dsimp only at h
      rw [EE hx1] at hx
      rw [EE hy1] at hy
      rw [AN hx,AN hy]
      obtain ⟨v',r1,r2⟩:=ih _ v (.int k (Bool.rec a b (Bool.rec (E6 b a) (E6 a b) mx))) l'' h (.int _ _) hl
      refine ⟨v',?_,r2⟩
      rw [← r1]
      simp only [List.foldlM_cons,Zpt]
      cases mx with
      | true=>
       simp only [if_true,Builtin.max2,Zpz,Zpm,Gb]
       by_cases hab:a<b <;> simp [hab]
      | false=>
       simp only [Bool.false_eq_true,if_false,Builtin.min2,Zpz,Zpm,Gb]
       by_cases hab:b<a <;> simp [hab]
variable {o:Oper}{v:AV}{s':St}
theorem Wm (hs:Sim P γ s w) {mx:Bool}{ts:Array TypeId}{xs:Array Operand}{as:List AO}(hx:Fr xs.toList=some as) (ho:o.op=.call { callee:=.builtin (if mx then .max else .min),args:=xs,argTypes:=ts }) (he:Evs γ t ρ xs.toList)
 (h:mnA mx as t s=.ok v s'):OpOk P γ s w ρ o v s':=by
 obtain ⟨l,hl,h⟩:=AJ h
 have hR:=Js (γ:=γ) (ρ:=ρ) hx hl he
 cases l with
 | nil=>cases h
 | cons x l=>
  obtain ⟨hm,rfl⟩:=M4 h
  generalize hvs:xs.toList.map ρ=vs at hR
  cases hR with
  | @cons _ x' _ l' h1 h2=>
   obtain ⟨v',r1,r2⟩:=Zmp (P:=P) (w:=w) mx l x v x' l' hm h1 h2
   refine Ay hs v' ?_ r2
   rw [El ho]
   cases mx with
   | true=>
    simp only [if_true] at r1 ⊢
    simp only [builtin,Builtin.max_,Array.toList_map,hvs,Zpt,r1,Zpm,Zpz]
   | false=>
    simp only [Bool.false_eq_true,if_false] at r1 ⊢
    simp only [builtin,Builtin.min_,Array.toList_map,hvs,Zpt,r1,Zpm,Zpz]
variable {es:Nat}
theorem Zcv (hs:Sim P γ s w) {x:AV}{x':Value}{cs:List AV}(hx:VR γ x x') (h:Dd es x s=some cs):
 ∃ p n c vs,x'=.slice p n c∧All2 (VR γ) cs vs∧(∀ v ∈ vs,v.oneCell'=true)∧vs.length=n*es∧(p=none->n=0)∧∀ a,p=some a->∀ j u,vs[j]?=some u->w.cell? (a.add j)=some u:=by
 unfold Dd at h
 cases hsl:B6 x with
 | no=>rw [hsl] at h;cases h
 | sl r i n c=>
  rw [hsl] at h
  rw [OM hsl] at hx
  obtain ⟨L,cc,hL,rfl,_⟩:=Gv hx
  obtain ⟨vs,e1,hc,hR,h1⟩:=Jm hs h hL
  exact ⟨_,n,cc,vs,rfl,hR,h1,e1,(fun e=>by cases e),(fun a e=>by cases e;exact hc)⟩
 | nils=>
  rw [hsl] at h;cases h
  rw [Ok hsl] at hx
  cases hx
  exact ⟨none,0,0,[],rfl,.nil,by simp,by simp,fun _=>rfl,(fun a e=>by cases e)⟩
 | es=>
  rw [hsl] at h;cases h
  rw [ON hsl] at hx
  cases hx with
  | es a c=>exact ⟨some a,0,c,[],rfl,.nil,by simp,by simp,fun _=>rfl,fun a _ j u hu=>by simp at hu⟩
 | fz n c l=>
  rw [hsl] at h
  rw [Sf hsl] at hx
  obtain ⟨b,o,cc,cz,vs,rfl,hbz,h2,h3,h4,_,_,h5⟩:=FN hx
  obtain ⟨us,e1,g2,hR,h1⟩:=Iz (k:=0) hs hbz h2 h3 h4 h
  rw [Zqs] at g2
  exact ⟨_,n,cc,us,rfl,hR,h1,e1,(fun e=>by cases e),(fun a e=>by cases e;exact Ky hs hbz g2)⟩
variable {e:Nat}{x:Operand}{a:AO}
theorem Zby (hs:Sim P γ s w) {T U:Nat}{y:Operand}{b:AO}(hu:P.underlying T=some (.slice e)) (hes:AA P e=some es) (hx:Ai x=some a) (hy:Ai y=some b) (ho:o.op=.call { callee:=.builtin .copy,args:=#[x,y],argTypes:=#[T,U] }) (he:Evs γ t ρ [x,y])
 (h:Y8 es a b t s=.ok v s'):OpOk P γ s w ρ o v s':=by
 obtain ⟨u1,hu1,h⟩:=AH h
 obtain ⟨u2,hu2,h⟩:=AH h
 have h1:=he x (by simp) a u1 hx hu1
 have h2:=he y (by simp) b u2 hy hu2
 have hzero:∀ (p q:Option Addr) (n n' c c':Nat),ρ x=.slice p n c->ρ y=.slice q n' c'->Nat.min n' n=0->(execOp ρ o).run P w=.ok (.value (.int .i64 (0:Nat))) w:=by
  intro p q n n' c c' e1 e2 e3
  rw [El ho]
  have hf:(Builtin.firstCells es 0 (.slice q n' c')).run P w=.ok #[] w:=by cases q <;> simp [Builtin.firstCells,loadCells,loadCellsFrom]
  have hl:∀ ty,(Builtin.copy_ #[T,U] ty #[.slice p n c,.slice q n' c']).run P w=.ok (goInt (0:Nat)) w:=by
   intro ty
   simp only [Builtin.copy_,Zre,List.getElem?_cons_zero,List.getElem?_cons_succ,Zpt,Zp1 hu,Zpm,Builtin.lenOf,Zpz,CB hes,e3,hf]
   cases p <;> simp [storeCells]
  simp only [builtin,Zq7,Zqz,Zrm,e1,e2,Zpt,hl,Zpm,Zpz]
  rfl
 rcases Yk h with ⟨r,i,n,c,rfl,h⟩|⟨rfl,h⟩|⟨rfl,h⟩
 ·obtain ⟨L,cc,hL,hv1,_⟩:=Gv h1
  rcases F4 h with ⟨r',i',n',c',rfl,h⟩|⟨rfl,h⟩|⟨rfl,h⟩|⟨n',c',l',rfl,h⟩
  ·obtain ⟨cs,hl,h⟩:=AJ h
   obtain ⟨hst,rfl⟩:=Mp h
   obtain ⟨L',cc',hL',hv2,_⟩:=Gv h2
   obtain ⟨vs,e1,hc,hR,h1'⟩:=Jm hs hl hL'
   obtain ⟨w',hrun,hstp,hsim⟩:=LN hs hst hL hR h1'
   refine ⟨γ,w',hstp,hsim,.inl ⟨.int .i64 (Nat.min n' n:Nat),?_,.int _ _⟩⟩
   rw [El ho]
   have hlc:=run_loadCells_list (P:=P) w _ vs hc
   rw [e1] at hlc
   have hf:(Builtin.firstCells es (Nat.min n' n) (.slice (some ⟨L'.b,L'.o+i',none⟩) n' cc')).run P w=.ok vs.toArray w:=by
    simp only [Builtin.firstCells];exact hlc
   have hll:∀ ty,(Builtin.copy_ #[T,U] ty #[.slice (some ⟨L.b,L.o+i,none⟩) n cc,.slice (some ⟨L'.b,L'.o+i',none⟩) n' cc']).run P w=.ok (goInt (Nat.min n' n:Nat)) w':=by
    intro ty
    simp only [Builtin.copy_,Zre,List.getElem?_cons_zero,List.getElem?_cons_succ,Zpt,Zp1 hu,Zpm,Builtin.lenOf,Zpz,CB hes,hf,hrun]
   simp only [builtin,Zq7,Zqz,Zrm,hv1,hv2,Zpt,hll,Zpm,Zpz]
   rfl
  ·obtain ⟨rfl,rfl⟩:=A0 h
   generalize hyy:ρ y=vy at h2
   cases h2
   exact Ay hs _ (hzero _ _ _ _ _ _ hv1 hyy (by simp)) (.int _ _)
  ·obtain ⟨rfl,rfl⟩:=A0 h
   generalize hyy:ρ y=vy at h2
   cases h2
   exact Ay hs _ (hzero _ _ _ _ _ _ hv1 hyy (by simp)) (.int _ _)
  ·obtain ⟨cs,hl,h⟩:=AJ h
   obtain ⟨hst,rfl⟩:=Mp h
   obtain ⟨bz,oz,cc',cz,zs,hv2,hbz,g1,g3,g4,_,_,g5⟩:=FN h2
   obtain ⟨vs,e1,g2,hR,h1'⟩:=Iz (k:=0) hs hbz g1 g3 g4 hl
   rw [Zqs] at g2
   obtain ⟨w',hrun,hstp,hsim⟩:=LN hs hst hL hR h1'
   refine ⟨γ,w',hstp,hsim,.inl ⟨.int .i64 (Nat.min n' n:Nat),?_,.int _ _⟩⟩
   rw [El ho]
   have hlc:=run_loadCells_list (P:=P) w _ vs (Ky hs hbz g2)
   rw [e1] at hlc
   have hf:(Builtin.firstCells es (Nat.min n' n) (.slice (some ⟨bz,oz,none⟩) n' cc')).run P w=.ok vs.toArray w:=by
    simp only [Builtin.firstCells];exact hlc
   have hll:∀ ty,(Builtin.copy_ #[T,U] ty #[.slice (some ⟨L.b,L.o+i,none⟩) n cc,.slice (some ⟨bz,oz,none⟩) n' cc']).run P w=.ok (goInt (Nat.min n' n:Nat)) w':=by
    intro ty
    simp only [Builtin.copy_,Zre,List.getElem?_cons_zero,List.getElem?_cons_succ,Zpt,Zp1 hu,Zpm,Builtin.lenOf,Zpz,CB hes,hf,hrun]
   simp only [builtin,Zq7,Zqz,Zrm,hv1,hv2,Zpt,hll,Zpm,Zpz]
   rfl
 all_goals
  obtain ⟨q,n',c',hyv⟩:∃ q n' c',ρ y=.slice q n' c':=by
   rcases F4 h with ⟨r',i',n',c',rfl,h⟩|⟨rfl,h⟩|⟨rfl,h⟩|⟨n',c',l',rfl,h⟩
   ·obtain ⟨L',cc',hL',hv2,_⟩:=Gv h2;exact ⟨_,_,_,hv2⟩
   ·generalize ρ y=vy at h2;cases h2;exact ⟨_,_,_,rfl⟩
   ·generalize ρ y=vy at h2;cases h2;exact ⟨_,_,_,rfl⟩
   ·obtain ⟨bz,oz,cc',cz,zs,hv2,_⟩:=FN h2;exact ⟨_,_,_,hv2⟩
  obtain ⟨rfl,rfl⟩:v=C4 0∧s'=s:=by
   rcases F4 h with ⟨r',i',n',c',rfl,h⟩|⟨rfl,h⟩|⟨rfl,h⟩|⟨n',c',l',rfl,h⟩ <;> (cases h;exact ⟨rfl,rfl⟩)
  generalize hxx:ρ x=vx at h1
  cases h1
  exact Ay hs _ (hzero _ _ _ _ _ _ hxx hyv (by simp)) (.int _ _)
theorem Zdz (hs:Sim P γ s w) {T n:Nat}{z:List AV}(hu:P.underlying T=some (.slice e)) (hn:AA P e=some n) (hz:En P e=some z) (h1n:1≤n) (hzl:z.length=n) (hx:Ai x=some a)
 (ho:o.op=.call { callee:=.builtin .clear,args:=#[x],argTypes:=#[T] }) (he:Evs γ t ρ [x]) (h:Zn z a t s=.ok v s'):OpOk P γ s w ρ o v s':=by
 obtain ⟨u,hu',h⟩:=AH h
 have hv:=he x (by simp) a u hx hu'
 obtain ⟨i,zv,hi,hzz,ha⟩:=Ji hz
 obtain ⟨y1,y2⟩:=GC (γ:=γ) ha
 have hzs:zv.cells.size=n:=by rw [← hzl];simpa using y1.length.symm
 rcases Yk h with ⟨r,o',k,c,rfl,h⟩|⟨rfl,h⟩|⟨rfl,h⟩
 ·obtain ⟨hst,rfl⟩:=Mp h
  obtain ⟨L,cc,hL,hv1,_⟩:=Gv hv
  obtain ⟨q1,q2⟩:=Ku y1 y2 (by omega) k
  rw [Ss] at hst
  obtain ⟨w',hrun,hstp,hsim⟩:=LN hs hst hL q1 q2
  refine ⟨γ,w',hstp,hsim,.inl ⟨.tuple #[],?_,.tup _ _ .nil⟩⟩
  rw [El ho]
  have hzc:Builtin.zeroCells zv.cells k=(Array.range (k*zv.cells.size)).map (fun i=>zv.cells[i % zv.cells.size]!):=rfl
  have hl:∀ ty,(Builtin.clear_ #[T] ty #[.slice (some ⟨L.b,L.o+o',none⟩) k cc]).run P w=.ok (.tuple #[]) w':=by
   intro ty
   cases k with
   | zero=>
    have:w'=w:=by simp [storeCells] at hrun;exact hrun.symm
    subst this
    simp [Builtin.clear_,Zp1 hu]
   | succ k=>
    simp only [Builtin.clear_,Zre,List.getElem?_cons_zero,Zpt,Zp1 hu,Zpm,GZ hi hzz,hzc,hrun,Zpz]
  simp only [builtin,Zq7,Zqz,Zrm,hv1,Zpt,hl,Zpm,Zpz]
 ·obtain ⟨rfl,rfl⟩:=A0 h
  generalize hxx:ρ x=vx at hv
  cases hv
  refine Ay hs (.tuple #[]) ?_ (.tup _ _ .nil)
  rw [El ho]
  have hl:∀ ty,(Builtin.clear_ #[T] ty #[.slice none 0 0]).run P w=.ok (.tuple #[]) w:=by
   intro ty;simp [Builtin.clear_,Zp1 hu]
  simp only [builtin,Zq7,Zqz,Zrm,hxx,Zpt,hl,Zpm,Zpz]
 ·obtain ⟨rfl,rfl⟩:=A0 h
  generalize hxx:ρ x=vx at hv
  cases hv with
  | es ad c=>
   refine Ay hs (.tuple #[]) ?_ (.tup _ _ .nil)
   rw [El ho]
   have hl:∀ ty,(Builtin.clear_ #[T] ty #[.slice (some ad) 0 c]).run P w=.ok (.tuple #[]) w:=by
    intro ty;simp [Builtin.clear_,Zp1 hu]
   simp only [builtin,Zq7,Zqz,Zrm,hxx,Zpt,hl,Zpm,Zpz]
end
end Go.AM
namespace Go.AM
section
variable {P:Program}{γ:Gam}{s:St}{w:World}{t:AT}{ρ:Operand->Value}
variable {r:Nat}
theorem sluV {i n:Nat}{v':Value}(h:VR γ (.sl r i n none) v'):∃ L cc,γ r=some L∧v'=.slice (some ⟨L.b,L.o+i,none⟩) n cc∧n≤cc∧cc≤maxLen∧(i=0->cc*L.es≤L.sz):=by
 cases h with
 | slu _ _ _ c L hL a b d=>exact ⟨L,c,hL,rfl,a,b,d⟩
theorem Sim.kill (h:Sim P γ s w) {L:Loc}(hL:γ r=some L):Stp γ s w γ (s.put r .dead) w∧Sim P γ (s.put r .dead) w:=by
 refine ⟨⟨Le.refl γ,fun r L h h'=>(by rw [h] at h';cases h'),by rw [Dx];exact Zp4 _,Zp4 _,rfl,rfl,rfl,fun _ _ _=>rfl,fun k hk _=>Ig (fun e=>by rw [e,hL] at hk;cases hk),fun b c h h'=>(by rw [h] at h';cases h')⟩,⟨?_,?_,h.lt,?_,?_,h.fzc,fun k y M hy hya hM=>?_⟩⟩
 rotate_right
 ·rcases FQ hy with ⟨rfl,rfl⟩|⟨e,hy⟩
  ·simp [BO] at hya
  ·exact h.fzr k y M hy hya hM
 ·intro k y M hy hM
  rcases FQ hy with ⟨rfl,rfl⟩|⟨e,hy⟩
  ·trivial
  ·exact h.obj k y M hy hM
 ·intro k k' y y' M M' hy hy' ha1 ha2 hM hM' hne
  rcases FQ hy with ⟨rfl,rfl⟩|⟨e,hy⟩
  ·simp [BO] at ha1
  ·rcases FQ hy' with ⟨rfl,rfl⟩|⟨e',hy'⟩
   ·simp [BO] at ha2
   ·exact h.inj k k' y y' M M' hy hy' ha1 ha2 hM hM' hne
 ·intro k hk;rw [Dx] at hk;exact h.nx k hk
 ·intro k y hy
  rw [Dx]
  rcases FQ hy with ⟨rfl,_⟩|⟨_,hy⟩
  ·refine Nat.lt_of_not_le fun hle=>?_
   rw [h.nx k hle] at hL;cases hL
  ·exact h.dom k y hy
theorem QN (h:Sim P γ s w) (e:Nat) (cs:List AV) (vs:Array Value) (us:List Value) (es:Nat) (hes:AA P e=some es) (hR:All2 (VR γ) cs us) (h1:∀ v ∈ us,v.oneCell'=true) (hpre:∀ (i:Nat) v,us[i]?=some v->vs[i]?=some v) (hle:us.length≤vs.size) (hall:∀ v ∈ vs.toList,v.oneCell'=true):
 Stp γ s w (ext γ s.next ⟨w.heap.size,0,vs.size,es⟩) (s.alloc (.row e cs)) (w.alloc (.cells vs e))∧Sim P (ext γ s.next ⟨w.heap.size,0,vs.size,es⟩) (s.alloc (.row e cs)) (w.alloc (.cells vs e)):=by
 refine h.alloc _ _ _ _ ?_
 have hl:=hR.length
 refine ⟨vs,?_,rfl,rfl,hes,by omega,?_,hall⟩
 ·show (w.heap.push _)[w.heap.size]?=_;simp
 ·intro i v hi
  obtain ⟨v',hv',hr⟩:=hR.get hi
  exact ⟨v',hpre i v' hv',hr.mono (F6 (h.nx _ (Zp4 _))),h1 v' (Zp5 hv')⟩
variable {ty e:Nat}{i:TypeInfo}
theorem LJ {T:Nat}(ht:P.underlying T=some (.slice e)) (hi:P.info? e=some i) (p q:Option Addr) (n c c':Nat) (hnc:n≤c):
 (Builtin.append_ #[T,T] ty #[.slice p n c,.slice q 0 c']).run P w=.ok (.slice p n c) w:=by
 have hf:(Builtin.firstCells i.size 0 (.slice q 0 c')).run P w=.ok #[] w:=by cases q <;> simp [Builtin.firstCells,loadCells,loadCellsFrom]
 cases p <;> simp [Builtin.append_,Zp1 ht,Go.sizeOf,typeInfo,hi,Builtin.lenOf,hnc,hf,storeCells]
theorem Ur {T:Nat}(ht:P.underlying T=some (.slice e)) (hi:P.info? e=some i) (b a:Addr) (n c m c':Nat) (news:List Value) (hl:news.length=m*i.size) (hnews:∀ j u,news[j]?=some u->w.cell? (a.add j)=some u)
 (hroom:n+m≤c) {w':World}(hst:(storeCells (b.add (n*i.size)) news).run P w=.ok () w'):
 (Builtin.append_ #[T,T] ty #[.slice (some b) n c,.slice (some a) m c']).run P w=.ok (.slice (some b) (n+m) c) w':=by
 have hlc:=run_loadCells_list (P:=P) w a news hnews
 rw [hl] at hlc
 have hf:(Builtin.firstCells i.size m (.slice (some a) m c')).run P w=.ok news.toArray w:=by simp only [Builtin.firstCells];exact hlc
 simp [Builtin.append_,Zp1 ht,Go.sizeOf,typeInfo,hi,Builtin.lenOf,hroom,hf,hst]
theorem Zd9 (hs:Sim P γ s w) {o:Oper}{T es by_:Nat}{z:List AV}{x y:Operand}{a b:AO}{v:AV}{s':St}(hu:P.underlying T=some (.slice e)) (hes:AA P e=some es) (hby:HP P e=some by_) (hz:En P e=some z) (h1es:1≤es) (hbl:by_≤4096) (hzl:z.length=es)
 (hx:Ai x=some a) (hy:Ai y=some b) (ho:o.op=.call { callee:=.builtin .append,args:=#[x,y],argTypes:=#[T,T] }) (he:Evs γ t ρ [x,y]) (h:Zy e es a b t s=.ok v s'):OpOk P γ s w ρ o v s':=by
 obtain ⟨u1,hu1,h⟩:=AH h
 obtain ⟨u2,hu2,h⟩:=AH h
 obtain ⟨cs,hsrc,h⟩:=AJ h
 have h1:=he x (by simp) a u1 hx hu1
 have h2:=he y (by simp) b u2 hy hu2
 obtain ⟨q,m,c',news,hyv,hRn,h1n,hln,hqn,hcn⟩:=Zcv hs h2 hsrc
 obtain ⟨i,zv,hi,hzz,ha⟩:=Ji hz
 obtain ⟨y1,y2⟩:=GC (γ:=γ) ha
 have his:i.size=es:=by simp [AA,hi] at hes;exact hes
 have hib:i.bytes=by_:=by simp [HP,hi] at hby;exact hby
 have hzs:zv.cells.size=es:=by rw [← hzl];simpa using y1.length.symm
 have hz1:∀ k,∀ v ∈ (Builtin.zeroCells zv.cells k).toList,v.oneCell'=true:=fun k=>(Ku y1 y2 (by omega) k).2
 have hrunb:∀ {xv:Value}{r:Value}{w':World},ρ x=xv->(∀ ty,(Builtin.append_ #[T,T] ty #[xv,.slice q m c']).run P w=.ok r w')->(execOp ρ o).run P w=.ok (.value r) w':=by
  intro xv r w' e1 hr
  rw [El ho]
  simp only [builtin,Zq7,Zqz,Zrm,e1,hyv,Zpt,hr,Zpm,Zpz]
 have hcl:=hRn.length
 cases cs with
 | nil=>
  have hm:m=0:=by
   have e0:news.length=0:=by simpa using hcl.symm
   rcases Nat.mul_eq_zero.1 (hln.symm.trans e0) with e|e <;> omega
  subst hm
  rcases F4 h with ⟨r,j,n,c,rfl,h⟩|⟨rfl,h⟩|⟨rfl,h⟩|⟨n,c,l0,rfl,h⟩
  rotate_right
  ·obtain ⟨rfl,rfl⟩:=A0 h
   obtain ⟨bz,oz,cc,cz,zs,hxx,_,_,_,_,hnc,_,_⟩:=FN h1
   exact Ay hs _ (hrunb hxx fun ty=>LJ hu hi _ _ _ _ _ hnc) (by rw [← hxx];exact h1)
  ·obtain ⟨rfl,rfl⟩:=A0 h
   generalize hxx:ρ x=vx at h1
   have h1':=h1
   cases h1 with
   | sl _ _ _ c L hL hnc=>exact Ay hs _ (hrunb hxx fun ty=>LJ hu hi _ _ _ _ _ hnc) h1'
   | slu _ _ _ c L hL hnc=>exact Ay hs _ (hrunb hxx fun ty=>LJ hu hi _ _ _ _ _ hnc) h1'
  ·obtain ⟨rfl,rfl⟩:=A0 h
   generalize hxx:ρ x=vx at h1
   cases h1
   exact Ay hs _ (hrunb hxx fun ty=>LJ hu hi _ _ _ _ _ (Zp4 _)) .nils
  ·obtain ⟨rfl,rfl⟩:=A0 h
   generalize hxx:ρ x=vx at h1
   cases h1 with
   | es ad c=>exact Ay hs _ (hrunb hxx fun ty=>LJ hu hi _ _ _ _ _ (Zp2 _)) (.es _ _)
 | cons c0 cs0=>
  have hh:(SR.rec .fail (fun r o n c=>app1 e es (c0::cs0) (Nat.div (A7 (c0::cs0)) es) r o n c s) (C2 e (Nat.div (A7 (c0::cs0)) es) (c0::cs0) s) .fail (fun n c l=>Zx e es (c0::cs0) (Nat.div (A7 (c0::cs0)) es) n c l s) (B6 u1):RV)=.ok v s':=h
  clear h
  have hcpos:1≤(c0::cs0).length:=by simp
  generalize c0::cs0=cs at *
  have hm0:1≤m:=by
   rcases Nat.eq_zero_or_pos m with e|e
   ·subst e;simp at hln;rw [hln] at hcl;simp at hcl;rw [hcl] at hcpos;simp at hcpos
   ·exact e
  obtain ⟨ad,rfl⟩:∃ ad,q=some ad:=by
   cases q with
   | none=>have:=hqn rfl;omega
   | some ad=>exact ⟨ad,rfl⟩
  have hcell:=hcn ad rfl
  have hlm:A7 cs / es=m:=by rw [CY,hcl,hln];exact Nat.mul_div_cancel _ (by omega)
  have hlm':Nat.div (A7 cs) es=m:=hlm
  rw [← his] at hln
  rw [hlm'] at hh
  -- a new array
  have grow:∀ (ad0:Addr) (n cc:Nat) (old:List AV) (olds:List Value),ρ x=.slice (some ad0) n cc->olds.length=n*i.size->(∀ j u,olds[j]?=some u->w.cell? (ad0.add j)=some u)->All2 (VR γ) old olds->(∀ v ∈ olds,v.oneCell'=true)->cc<n+m->n+m≤1000000->∀ s1,Sim P γ s1 w->Stp γ s w γ s1 w->Gh (.row e (Be old cs)) (fun r=>.sl r 0 (n+m) none) s1=.ok v s'->OpOk P γ s w ρ o v s':=by
   intro ad0 n cc old olds hxv e1' hco hRo h1o hlt hbm s1 hs1 hst1 hok
   obtain ⟨rfl,rfl⟩:=A0 hok
   have hmb:(n+m)*i.bytes≤1000000*4096:=by rw [hib];exact Nat.mul_le_mul hbm hbl
   have hrun:=fun ty=>run_append_grow (P:=P) w T ty e i zv hu hi hzz ad0 n cc olds e1' hco ad m c' news hln hcell hlt (by omega) (growslice_fits hlt (by omega))
   have hRa:All2 (VR γ) (Be old cs) (olds++news):=by rw [Da];exact hRo.append hRn
   obtain ⟨hst,hsim⟩:=QN hs1.drew e (Be old cs) (olds.toArray++news.toArray++Builtin.zeroCells zv.cells (grownCap w (n+m) cc e-(n+m))) (olds++news) es hes hRa
    (by intro u hu;rcases Zqb.1 hu with hu|hu;exact h1o u hu;exact h1n u hu)
    (fun k u hk=>by
      rw [Array.getElem?_append_left (by have:=(Zpk.1 hk).1;simpa using this)]
      simpa using hk) (by simp) (by
      intro u hu
      simp only [Array.toList_append,List.append_assoc,Zqb] at hu
      rcases hu with hu|hu|hu
      ·exact h1o u hu
      ·exact h1n u hu
      ·exact hz1 _ u hu)
   refine ⟨_,_,(hst1.trans Stp.drew).trans hst,hsim,.inl ⟨_,hrunb hxv hrun,?_⟩⟩
   refine .slu s1.next 0 (n+m) _ _ (BB _ _ _) (grownCap_ge _ _ _ _) (grownCap_le_maxLen _ _ _ _ (by unfold maxLen;omega)) (fun _=>?_)
   have hge:=grownCap_ge w (n+m) cc e
   simp only [Array.size_append,List.size_toArray,size_zeroCells,hln,e1',his,hzs]
   rw [← Nat.add_mul,← Nat.add_mul]
   exact Nat.mul_le_mul_right _ (by omega)
  rcases F4 hh with ⟨r,j,n,c,rfl,hk⟩|⟨rfl,hk⟩|⟨rfl,hk⟩|⟨n,c,l0,rfl,hk⟩
  ·obtain ⟨old,hold,hk⟩:=AJ hk
   obtain ⟨L,cc,hL,hxv,hck⟩:=Gv h1
   obtain ⟨olds,e1,hco,hRo,h1o⟩:=Jm hs hold hL
   have e1':olds.length=n*i.size:=by rw [his];exact e1
   have grow:=grow _ n cc old olds hxv e1' hco hRo h1o
   cases c with
   | some c=>
    have hcc:=hck c rfl
    subst hcc
    change (Bool.rec (C2 e (n+m) (Be old cs) s) (Gm (.sl r j (n+m) (some cc)) (storeAt r (j+n*es) cs s)) (Nat.ble (n+m) cc):RV)=.ok v s' at hk
    cases hb:Nat.ble (n+m) cc with
    | true=>
     rw [hb] at hk
     obtain ⟨hst,rfl⟩:=Mp hk
     have hle:=Zp7 hb
     obtain ⟨w',hrun,hstp,hsim⟩:=LN hs hst hL hRn h1n
     refine ⟨γ,w',hstp,hsim,.inl ⟨_,hrunb hxv fun ty=>Ur hu hi ⟨L.b,L.o+j,none⟩ ad n cc m c' news hln hcell hle (by rw [DX,his,Zrg];exact hrun),.sl _ _ _ _ L hL hle⟩⟩
    | false=>
     rw [hb] at hk
     obtain ⟨hbd,hk⟩:=BF hk
     have hnle:¬ (n+m≤cc):=fun e=>by rw [Zqa e] at hb;cases hb
     exact grow (by omega) (Zp7 hbd) s hs (.refl _ _ _) hk
   | none=>
    obtain ⟨hcond,hk1⟩:=BF hk
    obtain ⟨hbd,hk2⟩:=BF hk1
    have hbm:=Zp7 hbd
    simp only [Zpl] at hcond
    have hj:=Zpp hcond.1
    by_cases hroom:n+m≤cc
    ·-- in its own array
     have hcs:cc*L.es≤L.sz∧cc≤maxLen:=by
      obtain ⟨L',c2,hL',hx2,_,hcm,hcs⟩:=sluV h1
      rw [hL] at hL';cases hL'
      rw [hxv] at hx2
      cases hx2
      exact ⟨hcs hj,hcm⟩
     have a1:old.length=n*es:=hRo.length.trans e1
     obtain ⟨rs,hrow⟩:∃ rs,s.get r=some (.row e rs):=by
      have he2:=hcond.2
      unfold MA at he2
      cases hra:Dm r s with
      | no=>rw [hra] at he2;cases he2
      | row e' rs=>
       rw [hra] at he2
       have:e'=e:=Zpp he2
       subst this
       exact ⟨rs,Kn hra⟩
     obtain ⟨cur,hc,ho0,hsz,hes',hlen,hv,hall⟩:=hs.rowA hrow hL
     have hees:L.es=es:=by rw [hes] at hes';exact (Zqr hes').symm
     have hfit:n*es+news.length≤cur.size:=by
      rw [hln,his,← Nat.add_mul,hsz]
      refine Nat.le_trans (Nat.mul_le_mul_right _ hroom) ?_
      rw [← hees];exact hcs.1
     have hst:=run_storeCells_at (P:=P) L.b (n*es) e news 0 cur w hc (by omega) h1n
     simp only [Zqs] at hst
     have hrun:=fun ty=>Ur (ty:=ty) hu hi ⟨L.b,L.o+j,none⟩ ad n cc m c' news hln hcell hroom (by rw [DX,ho0,hj,his,Zpy];exact hst)
     obtain ⟨rfl,rfl⟩:=A0 hk2
     have hle2:=F6 (γ:=γ) (L:=L) (hs.nx s.next (Zp4 _))
     obtain ⟨hstp,hsim⟩:=hs.move (w':=w.setRow L.b (cur.toList.take (n*es)++news++cur.toList.drop (n*es+news.length)).toArray) hrow hL rfl
      (o:=.row e (Be old cs)) (fun b hb=>setRow_other w L.b b _ hb) (UC _ _ _) rfl rfl rfl (by
        refine ⟨_,setRow_heap w L.b cur _ e _ hc,ho0,?_,hes',?_,?_,fun v' hv'=>?_⟩
        rotate_right
        ·simp only [List.append_assoc,Zqb] at hv'
         rcases hv' with hv'|hv'|hv'
         ·exact hall _ (Zqq hv')
         ·exact h1n _ hv'
         ·exact hall _ (Zqv hv')
        ·simp;omega
        ·rw [Da,Zpx,a1]
         simp only [List.size_toArray,Zpx,Zp9,List.length_drop,Zrk]
         omega
        ·intro k u hku
         rw [Da] at hku
         obtain ⟨u',hu',hRu⟩:=(hRo.append hRn).get hku
         have hone:u'.oneCell'=true:=by
          rcases Zqb.1 (Zp5 hu') with hm|hm
          ·exact h1o _ hm
          ·exact h1n _ hm
         refine ⟨u',?_,hRu.mono hle2,hone⟩
         rw [Zre]
         by_cases hkn:k<n*es
         ·rw [Zp3 (by rw [e1];exact hkn)] at hu'
          have hcu:=hco k u' hu'
          rw [DX,ho0,hj] at hcu
          simp [World.cell?,hc] at hcu
          rw [List.append_assoc,Zp3 (by simp;omega),Zqw,Zpn hkn]
          simpa using hcu
         ·rw [Zqe (by rw [e1];exact Nat.le_of_not_lt hkn),e1] at hu'
          have hkl:k-n*es<news.length:=(Zpk.1 hu').1
          have htl:(cur.toList.take (n*es)).length=n*es:=by rw [Zp9,Zrk];exact Nat.min_eq_left (by omega)
          rw [List.append_assoc,Zqe (by rw [htl];omega),htl,Zp3 hkl]
          exact hu')
     refine ⟨_,_,hstp,hsim,.inl ⟨_,hrunb hxv hrun,?_⟩⟩
     rw [hj]
     have hnx:(s.put r .dead).next=s.next:=Dx _ _ _
     rw [hnx]
     exact .slu s.next 0 (n+m) cc L (BB _ _ _) hroom hcs.2 (fun _=>hcs.1)
    ·obtain ⟨hq1,hq2⟩:=hs.kill (r:=r) (by assumption)
     exact grow (by omega) hbm _ hq2 hq1 hk2
  ·obtain ⟨hbound,hk⟩:=BF hk
   obtain ⟨rfl,rfl⟩:=A0 hk
   have hbm:=Zp7 hbound
   generalize hxx:ρ x=vx at h1
   cases h1
   have hmb:m*i.bytes≤1000000*4096:=by rw [hib];exact Nat.mul_le_mul hbm hbl
   have hrun:=fun ty=>run_append_nil (P:=P) w T ty e i zv hu hi hzz ad m c' news hln hcell (by omega) (by omega) (by omega)
   obtain ⟨hst,hsim⟩:=QN hs.drew e cs (news.toArray++Builtin.zeroCells zv.cells (grownCap w m 0 e-m)) news es hes hRn h1n
    (fun k u hk=>by rw [Array.getElem?_append_left (by have:=(Zpk.1 hk).1;simpa using this)];simpa using hk) (by simp) (by
      intro u hu
      simp only [Array.toList_append,Zqb] at hu
      rcases hu with hu|hu
      ·exact h1n u hu
      ·exact hz1 _ u hu)
   refine ⟨_,_,Stp.drew.trans hst,hsim,.inl ⟨_,hrunb hxx hrun,?_⟩⟩
   refine .slu s.next 0 m _ _ (BB _ _ _) (grownCap_ge _ _ _ _) (grownCap_le_maxLen _ _ _ _ (by unfold maxLen;omega)) (fun _=>?_)
   have hge:=grownCap_ge w m 0 e
   simp only [Array.size_append,List.size_toArray,size_zeroCells,hln,his,hzs]
   rw [← Nat.add_mul]
   exact Nat.mul_le_mul_right _ (by omega)
  ·cases hk
  ·obtain ⟨c,rfl,hk⟩:=AJ hk
   obtain ⟨bz,oz,cc,cz,zs,hxx,hbz,g1,g3,g4,hnc,hck,g5⟩:=FN h1
   have hcc:=hck c rfl
   subst hcc
   change (Bool.rec (Option.rec .fail (fun old=>C2 e (n+m) (Be old cs) s) (Bo (Nat.mul n es) l0)) .fail (Nat.ble (n+m) cc):RV)=.ok v s' at hk
   cases hb:Nat.ble (n+m) cc with
   | true=>rw [hb] at hk;cases hk
   | false=>
    rw [hb] at hk
    obtain ⟨old,hold,hk⟩:=AJ hk
    obtain ⟨olds,e1,g2,hRo,h1o⟩:=Iz (k:=0) hs hbz g1 g3 g4 hold
    rw [Zqs] at g2
    obtain ⟨hbd,hk⟩:=BF hk
    have hnle:¬ (n+m≤cc):=fun e=>by rw [Zqa e] at hb;cases hb
    exact grow _ n cc old olds hxx (by rw [his];exact e1) (Ky hs hbz g2) hRo h1o (by omega) (Zp7 hbd) s hs (.refl _ _ _) hk
end
end Go.AM
namespace Go.AM
section
variable {P:Program}{γ:Gam}{s:St}{w:World}{t:AT}{ρ:Operand->Value}
abbrev EntR (γ:Gam) (x:AV×AV×Nat) (m:MapEntry):Prop:=VR γ x.1 m.key∧VR γ x.2.1 m.val∧m.born=x.2.2
theorem UZ {a b:AV}{c:Bool}(h:Fi a b=some c):∃ k x y,a=.int k x∧b=.int k y∧c=(x == y):=by
 unfold Fi at h
 split at h
 ·rename_i k x k' y
  cases hk:Ch k k' with
  | false=>rw [hk] at h;cases h
  | true=>rw [hk] at h;cases h;cases LX hk;exact ⟨k,x,y,rfl,rfl,Gc _ _⟩
 ·cases h
variable {kk:IntKind}{k:AV}{k':Value}
theorem Ra (hk:VR γ k k'):∀ {es:List (AV×AV×Nat)}{ms:List MapEntry}(i:Nat),All2 (EntR γ) es ms->CM k es=some none->Instr.findNow (.int kk) k' ms i=some none:=by
 intro es
 induction es with
 | nil=>intro ms i h _;cases h;rfl
 | cons x es ih=>
  intro ms i h hf
  cases h with
  | @cons _ m _ ms' h1 h2=>
   obtain ⟨xk,xv,xb⟩:=x
   simp only [CM] at hf
   cases he:Fi k xk with
   | none=>rw [he] at hf;cases hf
   | some c=>
    rw [he] at hf
    obtain ⟨q,a,b,rfl,rfl,hc⟩:=UZ he
    have e1:=AN hk
    have e2:=AN h1.1
    cases c with
    | true=>cases hf
    | false=>
     simp only [Instr.findNow,e1,e2,Instr.sameNow,if_true,← hc]
     rw [← e1];exact ih (i+1) h2 hf
variable {v:AV}
theorem QZ (hk:VR γ k k'):∀ {es:List (AV×AV×Nat)}{ms:List MapEntry}(i:Nat),All2 (EntR γ) es ms->CM k es=some (some v)->
 ∃ j m,Instr.findNow (.int kk) k' ms i=some (some (i+j,m.val))∧ms[j]?=some m∧m.key=k'∧(∃ q a,k'=.int q a)∧VR γ v m.val∧
  (∀ x x' ,VR γ x x'->All2 (EntR γ) (HG k x es) (ms.set j { m with key:=k',val:=x' }))∧All2 (EntR γ) (Fq k es) (ms.eraseIdx j):=by
 intro es
 induction es with
 | nil=>intro ms i _ hf;cases hf
 | cons x es ih=>
  intro ms i h hf
  cases h with
  | @cons _ m _ ms' h1 h2=>
   obtain ⟨xk,xv,xb⟩:=x
   simp only [CM] at hf
   cases he:Fi k xk with
   | none=>rw [he] at hf;cases hf
   | some c=>
    rw [he] at hf
    obtain ⟨q,a,b,rfl,rfl,hc⟩:=UZ he
    have e1:=AN hk
    have e2:=AN h1.1
    cases c with
    | true=>
     cases hf
     have hab:a=b:=by simpa using hc.symm
     subst hab
     refine ⟨0,m,?_,by simp,by rw [e1,e2],⟨q,a,e1⟩,h1.2.1,?_,?_⟩
     ·simp [Instr.findNow,e1,e2,Instr.sameNow]
     ·intro x x' hx
      simp only [HG,he,List.set_cons_zero]
      exact .cons ⟨hk,hx,h1.2.2⟩ h2
     ·simp only [Fq,he,List.eraseIdx_cons_zero];exact h2
    | false=>
     obtain ⟨j,m',r1,r2,r3,r4,r5,r6,r7⟩:=ih (i+1) h2 hf
     refine ⟨j+1,m',?_,by simpa using r2,r3,r4,r5,?_,?_⟩
     ·simp only [Instr.findNow,e1,e2,Instr.sameNow,if_true,← hc]
      rw [← e1,r1]
      congr 3
      omega
     ·intro x x' hx
      simp only [HG,he,List.set_cons_succ]
      exact .cons h1 (r6 x x' hx)
     ·simp only [Fq,he,List.eraseIdx_cons_succ]
      exact .cons h1 r7
variable {r c:Nat}
theorem Ii {es:List (AV×AV×Nat)}(h:mapAt r s=some (es,c)):s.get r=some (.map es c):=by
 unfold mapAt at h
 cases hg:s.get r with
 | none=>rw [hg] at h;cases h
 | some o=>rw [hg] at h;cases o <;> first|(cases h;rfl)|cases h
variable {kt:Nat}
theorem Jh (hu:P.underlying kt=some (.int kk)) (b:Bool) (v:Value):(Instr.checkKey b 10000 kt v).run P w=.ok () w:=by
 show (Instr.checkKey b (9999+1) kt v).run P w=_
 unfold Instr.checkKey
 simp only [Zpt,Zp1 hu,Zpm]
 rfl
theorem Jj (hu:P.underlying kt=some (.int kk)) {k:Value}{ms:List MapEntry}{r:Option (Nat×Value)}(h:Instr.findNow (.int kk) k ms 0=some r):(Instr.findKey kt k ms).run P w=.ok r w:=by
 simp only [Instr.findKey,Zpt,Zp1 hu,Zpm,h,Zpz]
variable {ms:Array MapEntry}
theorem If (h:w.heap[r]?=some (.map ms c)):(getObj r).run P w=.ok (.map ms c) w:=by
 simp [getObj,Sem.run,h]
theorem LL (o:Obj) (h:w.heap[r]?=some (.map ms c)):(setObj r o).run P w=.ok () { w with heap:=w.heap.setIfInBounds r o }:=by
 simp [setObj,Sem.run,h]
theorem Mm (hs:Sim P γ s w) {L:Loc}{x o:AObj}{O:Obj}(hx:s.get r=some x) (hL:γ r=some L) (ha:BO x=true) (ho:ObjR P γ L o (w.heap.setIfInBounds L.b O)):
 Stp γ s w γ (s.put r o) { w with heap:=w.heap.setIfInBounds L.b O }∧Sim P γ (s.put r o) { w with heap:=w.heap.setIfInBounds L.b O }:=
 hs.turn hx hL ha (fun b hb=>by show (w.heap.setIfInBounds L.b O)[b]?=_;rw [Zqx,Zpr (fun e=>hb e.symm)]) (by simp) rfl rfl rfl ho
variable {o:Oper}{ty:Nat}{s':St}
theorem Zae (ho:o.op=.makeMap ty none) (h:XK t s=.ok v s'):Fresh P γ w ρ o s v s':=by
 obtain ⟨rfl,rfl⟩:=A0 h
 refine ⟨.map [] 0,.map,.map #[] 0,0,0,.map (some w.heap.size),rfl,rfl,?_,fun γ' r hle hr=>⟨⟨#[],by show (w.heap.push _)[w.heap.size]?=_;simp,.nil⟩,.map r _ hr⟩⟩
 simp only [execOp,ho,Instr.makeMap,Option.map_none,Zpt,Ir,Zpm,Zpz]
variable {e:Nat}{x:Operand}{a:AO}
theorem Zbi (hs:Sim P γ s w) {T:Nat}(hu:P.underlying T=some (.map kt e)) (hx:Ai x=some a) (ho:o.op=.call { callee:=.builtin .len,args:=#[x],argTypes:=#[T] }) (he:Evs γ t ρ [x])
 (h:Yy a t s=.ok v s'):OpOk P γ s w ρ o v s':=by
 obtain ⟨u,hu',h⟩:=AH h
 have hv:=he x (by simp) a u hx hu'
 rcases KL h with ⟨r,rfl,hk⟩|⟨rfl,hk⟩
 ·obtain ⟨⟨es,c⟩,hm,hk⟩:=AJ hk
  obtain ⟨rfl,rfl⟩:=A0 hk
  generalize hxx:ρ x=vx at hv
  cases hv with
  | map _ L hL=>
   obtain ⟨ms,hms,hR⟩:=hs.obj r _ L (Ii hm) hL
   refine Ay hs (.int .i64 ms.size) ?_ ?_
   ·rw [El ho]
    have hl:∀ ty,(Builtin.len_ #[T] ty #[.map (some L.b)]).run P w=.ok (goInt ms.size) w:=fun ty=>by simp [Builtin.len_,Zp1 hu,If hms]
    simp only [builtin,Zq7,Zqz,Zrm,hxx,Zpt,hl,Zpm,Zpz]
    rfl
   ·have:=hR.length
    simp at this
    rw [CY,this];exact .int _ _
 ·obtain ⟨rfl,rfl⟩:=A0 hk
  generalize hxx:ρ x=vx at hv
  cases hv
  refine Ay hs (.int .i64 (0:Nat)) ?_ (.int _ _)
  rw [El ho]
  have hl:∀ ty,(Builtin.len_ #[T] ty #[.map none]).run P w=.ok (goInt (0:Nat)) w:=fun ty=>by simp [Builtin.len_,Zp1 hu]
  simp only [builtin,Zq7,Zqz,Zrm,hxx,Zpt,hl,Zpm,Zpz]
  rfl
theorem ZJ (q:IntKind) (a:Int):Instr.sameBits 10000 (.int q a) (.int q a)=true:=by simp [Instr.sameBits]
variable {y:Operand}{b:AO}
theorem UU (hs:Sim P γ s w) {z:Operand}{c:AO}(hd:o.dst=none) (hu:P.underlying ty=some (.map kt e)) (hku:P.underlying kt=some (.int kk)) (hx:Ai x=some a) (hy:Ai y=some b) (hz:Ai z=some c)
 (ho:o.op=.mapUpdate ty x y z∨o.op=.insert ty x y z) (he:Evs γ t ρ [x,y,z]) (h:Ys a b c t s=.ok v s'):OpOk P γ s w ρ o v s':=by
 obtain ⟨u1,hu1,h⟩:=AH h
 obtain ⟨u2,hu2,h⟩:=AH h
 obtain ⟨u3,hu3,h⟩:=AH h
 have h1:=he x (by simp) a u1 hx hu1
 have h2:=he y (by simp) b u2 hy hu2
 have h3:=he z (by simp) c u3 hz hu3
 rcases KL h with ⟨r,rfl,hk⟩|⟨rfl,hk⟩
 ·obtain ⟨⟨es,cl⟩,hm,hk⟩:=AJ hk
  obtain ⟨f,hf,hk⟩:=AJ hk
  have hg:=Ii hm
  obtain ⟨L,hL,hxv⟩:∃ L,γ r=some L∧ρ x=.map (some L.b):=by
   generalize ρ x=vx at h1
   cases h1 with
   | map _ L hL=>exact ⟨L,hL,rfl⟩
  obtain ⟨ms,hms,hR⟩:=hs.obj r _ L hg hL
  have hlt:=hs.lt r L hL
  cases f with
  | none=>
   obtain ⟨rfl,rfl⟩:=A0 hk
   have hfn:=Ra (kk:=kk) h2 0 hR hf
   obtain ⟨hst,hsim⟩:=Mm (O:=.map (ms.push { key:=ρ y,val:=ρ z,born:=cl }) (cl+1)) (o:=.map (Be es [(u2,u3,cl)]) (cl+1)) hs hg hL rfl
    ⟨_,by rw [Zqx,Zpn rfl,Zpn hlt],by rw [Da,Array.toList_push];exact hR.append (.cons ⟨h2,h3,rfl⟩ .nil)⟩
   refine ⟨γ,_,hst,hsim,.inr ⟨?_,hd⟩⟩
   rcases ho with ho|ho <;>
    simp only [execOp,ho,Instr.mapUpdate,Zpt,Zp1 hu,Zpm,hxv,If hms,Jh hku,Jj hku hfn,LL _ hms,Zpz]
  | some w0=>
   obtain ⟨rfl,rfl⟩:=A0 hk
   obtain ⟨j,m,r1,r2,r3,⟨q,n,r4⟩,r5,r6,r7⟩:=QZ (kk:=kk) h2 0 hR hf
   rw [Zpy] at r1
   have hjl:j<ms.size:=by have:=(Zpk.1 r2).1;simpa using this
   have hjm:ms[j]?=some m:=by simpa using r2
   obtain ⟨hst,hsim⟩:=Mm (O:=.map (ms.modify j fun e=>{ e with key:=ρ y,val:=ρ z }) cl) (o:=.map (HG u2 u3 es) cl) hs hg hL rfl
    ⟨_,by rw [Zqx,Zpn rfl,Zpn hlt],by
      have e1:(ms.modify j fun e=>{ e with key:=ρ y,val:=ρ z }).toList=ms.toList.set j { m with key:=ρ y,val:=ρ z }:=by
       apply List.ext_getElem?
       intro k
       rw [Array.getElem?_toList,Array.getElem?_modify,List.getElem?_set]
       by_cases hjk:j=k
       ·subst hjk
        have hmj:ms[j]=m:=by
         have h0:=hjm
         rw [Array.getElem?_eq_getElem hjl] at h0
         exact Zqr h0
        simp [hjl,hmj]
       ·simp [hjk]
      rw [e1];exact r6 _ _ h3⟩
   refine ⟨γ,_,hst,hsim,.inr ⟨?_,hd⟩⟩
   have hks:(Instr.keyThatStays (((ms[j]?).map (·.key)).getD (ρ y)) (ρ y)).run P w=.ok (ρ y) w:=by
    simp only [hjm,Option.map_some,Option.getD_some,r3,Instr.keyThatStays,r4,ZJ,if_true,Zpz]
   rcases ho with ho|ho <;>
    simp only [execOp,ho,Instr.mapUpdate,Zpt,Zp1 hu,Zpm,hxv,If hms,Jh hku,Jj hku r1,hks,LL _ hms,Zpz]
 ·cases hk
theorem Zbd (hs:Sim P γ s w) {i:TypeInfo}{zv:Value}{z:AV}{ok:Bool}(hu:P.underlying ty=some (.map kt e)) (hku:P.underlying kt=some (.int kk)) (hi:P.info? e=some i) (hzz:i.zero=some zv) (hz:LG zv=some z)
 (hx:Ai x=some a) (hy:Ai y=some b) (ho:o.op=.lookup ty x y ok) (he:Evs γ t ρ [x,y]) (h:Yu z ok a b t s=.ok v s'):OpOk P γ s w ρ o v s':=by
 obtain ⟨u1,hu1,h⟩:=AH h
 obtain ⟨u2,hu2,h⟩:=AH h
 have h1:=he x (by simp) a u1 hx hu1
 have h2:=he y (by simp) b u2 hy hu2
 have hzR:=(SH (γ:=γ) hz).1
 rcases KL h with ⟨r,rfl,hk⟩|⟨rfl,hk⟩
 ·obtain ⟨⟨es,cl⟩,hm,hk⟩:=AJ hk
  obtain ⟨f,hf,hk⟩:=AJ hk
  have hg:=Ii hm
  obtain ⟨L,hL,hxv⟩:∃ L,γ r=some L∧ρ x=.map (some L.b):=by
   generalize ρ x=vx at h1
   cases h1 with
   | map _ L hL=>exact ⟨L,hL,rfl⟩
  obtain ⟨ms,hms,hR⟩:=hs.obj r _ L hg hL
  cases f with
  | none=>
   obtain ⟨rfl,rfl⟩:=A0 hk
   have hfn:=Ra (kk:=kk) h2 0 hR hf
   refine Ay hs (if ok then .tuple #[zv,.bool false] else zv) ?_ ?_
   ·simp only [execOp,ho,Instr.lookup,Zpt,Zp1 hu,Zpm,hxv,If hms,Zpz,Jh hku,Jj hku hfn,GZ hi hzz]
   ·cases ok
    ·exact hzR
    ·exact .tup _ _ (.cons hzR (.cons (.bool _) .nil))
  | some w0=>
   obtain ⟨rfl,rfl⟩:=A0 hk
   obtain ⟨j,m,r1,r2,r3,_,r5,_,_⟩:=QZ (kk:=kk) h2 0 hR hf
   refine Ay hs (if ok then .tuple #[m.val,.bool true] else m.val) ?_ ?_
   ·simp only [execOp,ho,Instr.lookup,Zpt,Zp1 hu,Zpm,hxv,If hms,Zpz,Jh hku,Jj hku r1]
   ·cases ok
    ·exact r5
    ·exact .tup _ _ (.cons r5 (.cons (.bool _) .nil))
 ·obtain ⟨rfl,rfl⟩:=A0 hk
  generalize hxx:ρ x=vx at h1
  cases h1
  refine Ay hs (if ok then .tuple #[zv,.bool false] else zv) ?_ ?_
  ·have hfn:Instr.findNow (.int kk) (ρ y) [] 0=some none:=rfl
   simp only [execOp,ho,Instr.lookup,Zpt,Zp1 hu,Zpm,hxx,Zpz,Jh hku,Jj hku hfn,GZ hi hzz]
  ·cases ok
   ·exact hzR
   ·exact .tup _ _ (.cons hzR (.cons (.bool _) .nil))
theorem Zbe (hs:Sim P γ s w) {T U:Nat}(hu:P.underlying T=some (.map kt e)) (hku:P.underlying kt=some (.int kk)) (hx:Ai x=some a) (hy:Ai y=some b)
 (ho:o.op=.call { callee:=.builtin .delete,args:=#[x,y],argTypes:=#[T,U] }) (he:Evs γ t ρ [x,y]) (h:Yv a b t s=.ok v s'):OpOk P γ s w ρ o v s':=by
 obtain ⟨u1,hu1,h⟩:=AH h
 obtain ⟨u2,hu2,h⟩:=AH h
 have h1:=he x (by simp) a u1 hx hu1
 have h2:=he y (by simp) b u2 hy hu2
 rcases KL h with ⟨r,rfl,hk⟩|⟨rfl,hk⟩
 ·obtain ⟨⟨es,cl⟩,hm,hk⟩:=AJ hk
  obtain ⟨f,hf,hk⟩:=AJ hk
  obtain ⟨rfl,rfl⟩:=A0 hk
  have hg:=Ii hm
  obtain ⟨L,hL,hxv⟩:∃ L,γ r=some L∧ρ x=.map (some L.b):=by
   generalize ρ x=vx at h1
   cases h1 with
   | map _ L hL=>exact ⟨L,hL,rfl⟩
  obtain ⟨ms,hms,hR⟩:=hs.obj r _ L hg hL
  have hlt:=hs.lt r L hL
  have fin:∀ (ms':Array MapEntry),All2 (EntR γ) (Fq u2 es) ms'.toList->(∀ ty,(Builtin.delete_ #[T,U] ty #[.map (some L.b),ρ y]).run P w=.ok (.tuple #[]) { w with heap:=w.heap.setIfInBounds L.b (.map ms' cl) })->OpOk P γ s w ρ o (.tup []) (s.put r (.map (Fq u2 es) cl)):=by
   intro ms' hR' hrun
   obtain ⟨hst,hsim⟩:=Mm (O:=.map ms' cl) (o:=.map (Fq u2 es) cl) hs hg hL rfl ⟨_,by rw [Zqx,Zpn rfl,Zpn hlt],hR'⟩
   refine ⟨γ,_,hst,hsim,.inl ⟨.tuple #[],?_,.tup _ _ .nil⟩⟩
   rw [El ho]
   simp only [builtin,Zq7,Zqz,Zrm,hxv,Zpt,hrun,Zpm,Zpz]
  cases f with
  | none=>
   have hfn:=Ra (kk:=kk) h2 0 hR hf
   have hdel:∀ {es:List (AV×AV×Nat)},CM u2 es=some none->Fq u2 es=es:=by
    intro es
    induction es with
    | nil=>intro _;rfl
    | cons x es ih=>
     intro hf
     obtain ⟨xk,xv,xb⟩:=x
     simp only [CM] at hf
     simp only [Fq]
     cases he:Fi u2 xk with
     | none=>rw [he] at hf;cases hf
     | some c=>cases c with
      | true=>rw [he] at hf;cases hf
      | false=>rw [he] at hf;simp [ih hf]
   refine fin ms (by rw [hdel hf];exact hR) fun ty=>?_
   simp only [Builtin.delete_,Zre,List.getElem?_cons_zero,List.getElem?_cons_succ,Zpt,Zp1 hu,Zpm,If hms,Jh hku,Jj hku hfn,LL _ hms,Zpz]
  | some w0=>
   obtain ⟨j,m,r1,r2,r3,_,r5,_,r7⟩:=QZ (kk:=kk) h2 0 hR hf
   rw [Zpy] at r1
   refine fin (ms.eraseIdxIfInBounds j) (by simpa using r7) fun ty=>?_
   simp only [Builtin.delete_,Zre,List.getElem?_cons_zero,List.getElem?_cons_succ,Zpt,Zp1 hu,Zpm,If hms,Jh hku,Jj hku r1,LL _ hms,Zpz]
 ·cases hk
end
end Go.AM
namespace Go.AM
section
variable {P:Program}{γ:Gam}{s:St}{w:World}{t:AT}{ρ:Operand->Value}
variable {o:Oper}{e:Nat}{x:Operand}{a:AO}{v:AV}{s':St}
theorem Zd0 (hs:Sim P γ s w) {T:Nat}(hu:P.underlying T=some (.slice e)) (hx:Ai x=some a) (ho:o.op=.call { callee:=.builtin .cap,args:=#[x],argTypes:=#[T] }) (he:Evs γ t ρ [x])
 (h:Zt a t s=.ok v s'):OpOk P γ s w ρ o v s':=by
 obtain ⟨u,hu',h⟩:=AH h
 have hv:=he x (by simp) a u hx hu'
 rcases F4 h with ⟨r,i,n,c,rfl,h⟩|⟨rfl,h⟩|⟨rfl,h⟩|⟨n,c,l0,rfl,h⟩
 rotate_right
 ·obtain ⟨c,rfl,h⟩:=AJ h
  obtain ⟨rfl,rfl⟩:=A0 h
  obtain ⟨bz,oz,cc,cz,zs,hval,_,_,_,_,_,hck,_⟩:=FN hv
  have:=hck c rfl
  subst this
  refine Ay hs (.int .i64 cc) ?_ (.int _ _)
  rw [El ho]
  have hl:∀ ty,(Builtin.cap_ #[T] ty #[.slice (some ⟨bz,oz,none⟩) n cc]).run P w=.ok (goInt cc) w:=fun ty=>by simp [Builtin.cap_,Zp1 hu]
  simp only [builtin,Zq7,Zqz,Zrm,hval,Zpt,hl,Zpm,Zpz]
  rfl
 ·obtain ⟨c,rfl,h⟩:=AJ h
  obtain ⟨rfl,rfl⟩:=A0 h
  obtain ⟨L,cc,hL,hval,hcc⟩:=Gv hv
  have:=hcc c rfl
  subst this
  refine Ay hs (.int .i64 cc) ?_ (.int _ _)
  rw [El ho]
  have hl:∀ ty,(Builtin.cap_ #[T] ty #[.slice (some ⟨L.b,L.o+i,none⟩) n cc]).run P w=.ok (goInt cc) w:=fun ty=>by simp [Builtin.cap_,Zp1 hu]
  simp only [builtin,Zq7,Zqz,Zrm,hval,Zpt,hl,Zpm,Zpz]
  rfl
 ·cases h
 ·cases h
theorem Xj (h:JP v=true):v=.ez:=by
 cases v <;> first|rfl|cases h
theorem Zb3 (hs:Sim P γ s w) {T U es by_:Nat}{kn:IntKind}{z:List AV}{y:Operand}{b:AO}(hu:P.underlying T=some (.slice e)) (hU:P.underlying U=some (.int kn)) (hes:AA P e=some es) (hby:HP P e=some by_) (hz:En P e=some z) (h1es:1≤es) (hbl:by_≤4096) (hzl:z.length=es)
 (hx:Ai x=some a) (hy:Ai y=some b) (ho:o.op=.call { callee:=.builtin .append,args:=#[x,y],argTypes:=#[T,U] }) (he:Evs γ t ρ [x,y]) (h:YH e es z a b t s=.ok v s'):OpOk P γ s w ρ o v s':=by
 obtain ⟨u1,hu1,h⟩:=AH h
 obtain ⟨u2,hu2,h⟩:=AH h
 have h1:=he x (by simp) a u1 hx hu1
 have h2:=he y (by simp) b u2 hy hu2
 obtain ⟨k,hk,h⟩:=C9 h
 obtain ⟨kk,rfl⟩:=Jr hk
 obtain ⟨i,zv,hi,hzz,ha⟩:=Ji hz
 obtain ⟨y1,y2⟩:=GC (γ:=γ) ha
 have his:i.size=es:=by simp [AA,hi] at hes;exact hes
 have hib:i.bytes=by_:=by simp [HP,hi] at hby;exact hby
 have hzs:zv.cells.size=es:=by rw [← hzl];simpa using y1.length.symm
 have hkv:ρ y=.int kk k:=by generalize ρ y=q at h2;cases h2;rfl
 have hrunb:∀ {xv:Value}{r:Value}{w':World},ρ x=xv->(∀ ty,(Builtin.append_ #[T,U] ty #[xv,.int kk k]).run P w=.ok r w')->(execOp ρ o).run P w=.ok (.value r) w':=by
  intro xv r w' e1 hr
  rw [El ho]
  simp only [builtin,Zq7,Zqz,Zrm,e1,hkv,Zpt,hr,Zpm,Zpz]
 have key:∀ (base:Option Addr) (n cc:Nat) (old:List AV) (olds:List Value),ρ x=.slice base n cc->All2 (VR γ) old olds->(∀ v ∈ olds,v.oneCell'=true)->olds.length=n*i.size->(Builtin.firstCells i.size n (.slice base n cc)).run P w.drew=.ok olds.toArray w.drew->¬ (n+k≤cc)->0<k->C2 e (n+k) (Be old (Bp z k)) s=.ok v s'->OpOk P γ s w ρ o v s':=by
  intro base n cc old olds hxv hRo h1o e1' hold' hnle hkp h
  obtain ⟨hbd,h⟩:=BF h
  have hbm:=Zp7 hbd
  obtain ⟨rfl,rfl⟩:=A0 h
  obtain ⟨q1,q2⟩:=Ku y1 y2 (by omega) k
  have hzc:Builtin.zeroCells zv.cells k=(Array.range (k*zv.cells.size)).map (fun i=>zv.cells[i % zv.cells.size]!):=rfl
  rw [← hzc] at q1 q2
  have hmb:(n+k)*i.bytes≤1000000*4096:=by rw [hib];exact Nat.mul_le_mul hbm hbl
  have hmb':k*i.bytes≤1000000*4096:=by rw [hib];exact Nat.mul_le_mul (by omega) hbl
  have hrun:=fun ty=>Lib.run_append_grow_zeros (P:=P) w T U ty e i zv kk kn hu hU hi hzz base n cc olds hold' k hkp (by omega) (by omega) (by omega) (by omega) (growslice_fits (by omega) (by omega))
  have hRa:All2 (VR γ) (Be old (Bp z k)) (olds++(Builtin.zeroCells zv.cells k).toList):=by rw [Da,Ss];exact hRo.append q1
  obtain ⟨hst,hsim⟩:=QN hs.drew e (Be old (Bp z k)) (olds.toArray++Builtin.zeroCells zv.cells k++Builtin.zeroCells zv.cells (grownCap w (n+k) cc e-(n+k))) (olds++(Builtin.zeroCells zv.cells k).toList) es hes hRa
   (by intro u hu;rcases Zqb.1 hu with hu|hu;exact h1o u hu;exact q2 u hu)
   (fun j u hj=>by
     rw [Array.getElem?_append_left (by have:=(Zpk.1 hj).1;simpa using this)]
     rw [← Array.getElem?_toList];simpa using hj) (by simp) (by
      intro u hu
      simp only [Array.toList_append,List.append_assoc,Zqb] at hu
      rcases hu with hu|hu|hu
      ·exact h1o u hu
      ·exact q2 u hu
      ·exact (Ku y1 y2 (by omega) _).2 u hu)
  refine ⟨_,_,(Stp.drew).trans hst,hsim,.inl ⟨.slice (some ⟨w.heap.size,0,none⟩) (n+k) (grownCap w (n+k) cc e),hrunb hxv hrun,?_⟩⟩
  refine .slu s.next 0 (n+k) _ _ (BB _ _ _) (grownCap_ge _ _ _ _) (grownCap_le_maxLen _ _ _ _ (by unfold maxLen;omega)) (fun _=>?_)
  have hge:=grownCap_ge w (n+k) cc e
  simp only [Array.size_append,List.size_toArray,size_zeroCells,e1',his,hzs]
  rw [← Nat.add_mul,← Nat.add_mul]
  exact Nat.mul_le_mul_right _ (by omega)
 have h:(Bool.rec (Bool.rec (SR.rec .fail (fun r o n cap=>Option.rec .fail (fun old=>
  Option.rec .fail (fun c=>Bool.rec (gd (Nat.blt 0 k) (C2 e (n+k) (Be old (Bp z k)) s)) .fail (Nat.ble (n+k) c)) cap) (load r o (Nat.mul n es) s)) (C2 e k (Bp z k) s) .fail
  (fun n cap l=>Option.rec .fail (fun c=>Bool.rec (Option.rec .fail (fun old=>C2 e (n+k) (Be old (Bp z k)) s) (Bo (Nat.mul n es) l)) .fail (Nat.ble (n+k) c)) cap) (B6 u1)) (C2 e k (Bp z k) s) (JP u1))
  (Bool.rec (SR.rec .fail (fun r o n c=>.ok (.sl r o n c) s) (.ok .nils s) (.ok .es s) (fun n c l=>.ok (.fz n c l) s) (B6 u1)) (.ok .es s) (JP u1)) (Nat.beq k 0):RV)=.ok v s':=h
 cases hb0:Nat.beq k 0 with
 | true=>
  rw [hb0] at h
  have hk0:=Zpp hb0
  subst hk0
  have hw0:IntKind.i64.wrap 0=0:=by rw [IntKind.wrap_i64];decide
  have hrun0:∀ (p:Option Addr) (n c:Nat),n≤c->∀ ty,(Builtin.append_ #[T,U] ty #[.slice p n c,.int kk (0:Nat)]).run P w=.ok (.slice p n c) w:=fun p n c hnc ty=>by
   cases p <;> simp [Builtin.append_,Zp1 hu,Zp1 hU,sizeOf,typeInfo,hi,Go.asInt,Go.asIntOf,hw0,hnc,storeCells]
  cases hez:JP u1 with
  | true=>
   rw [hez] at h
   obtain ⟨rfl,rfl⟩:=A0 h
   have:=Xj hez
   subst this
   generalize hxx:ρ x=vx at h1
   cases h1 with
   | ez ad=>exact Ay hs _ (hrunb hxx (hrun0 _ _ _ (Zp4 _))) (.es _ _)
  | false=>
   rw [hez] at h
   rcases F4 h with ⟨r,j,n,c,rfl,h⟩|⟨rfl,h⟩|⟨rfl,h⟩|⟨n,c,l0,rfl,h⟩
   ·obtain ⟨rfl,rfl⟩:=A0 h
    generalize hxx:ρ x=vx at h1
    have h1':=h1
    cases h1 with
    | sl _ _ _ c L hL hnc=>exact Ay hs _ (hrunb hxx (hrun0 _ _ _ hnc)) h1'
    | slu _ _ _ c L hL hnc=>exact Ay hs _ (hrunb hxx (hrun0 _ _ _ hnc)) h1'
   ·obtain ⟨rfl,rfl⟩:=A0 h
    generalize hxx:ρ x=vx at h1
    cases h1
    exact Ay hs _ (hrunb hxx (hrun0 _ _ _ (Zp4 _))) .nils
   ·obtain ⟨rfl,rfl⟩:=A0 h
    generalize hxx:ρ x=vx at h1
    cases h1 with
    | es ad c=>exact Ay hs _ (hrunb hxx (hrun0 _ _ _ (Zp2 _))) (.es _ _)
   ·obtain ⟨rfl,rfl⟩:=A0 h
    obtain ⟨bz,oz,cc,cz,zs,hxx,_,_,_,_,hnc,_,_⟩:=FN h1
    exact Ay hs _ (hrunb hxx (hrun0 _ _ _ hnc)) (by rw [← hxx];exact h1)
 | false=>
  rw [hb0] at h
  have hkp:0<k:=by
   rcases Nat.eq_zero_or_pos k with e|e
   ·subst e;cases hb0
   ·exact e
  have hf0:∀ p:Option Addr,(Builtin.firstCells i.size 0 (.slice p 0 0)).run P w.drew=.ok (([]:List Value).toArray) w.drew:=fun p=>by cases p <;> simp [Builtin.firstCells,loadCells,loadCellsFrom]
  cases hez:JP u1 with
  | true=>
   rw [hez] at h
   have:=Xj hez
   subst this
   generalize hxx:ρ x=vx at h1
   cases h1 with
   | ez ad=>exact key (some ad) 0 0 [] [] hxx .nil (by simp) (by simp) (hf0 _) (by omega) hkp (by rw [Zpy];exact h)
  | false=>
   rw [hez] at h
   rcases F4 h with ⟨r,j,n,c,rfl,h⟩|⟨rfl,h⟩|⟨rfl,h⟩|⟨n,c,l0,rfl,h⟩
   ·obtain ⟨old,hold,h⟩:=AJ h
    obtain ⟨c,rfl,h⟩:=AJ h
    obtain ⟨L,cc,hL,hxv,hck⟩:=Gv h1
    have hcc:=hck c rfl
    subst hcc
    obtain ⟨olds,e1,hco,hRo,h1o⟩:=Jm hs hold hL
    have e1':olds.length=n*i.size:=by rw [his];exact e1
    change (Bool.rec (gd (Nat.blt 0 k) (C2 e (n+k) (Be old (Bp z k)) s)) .fail (Nat.ble (n+k) cc):RV)=.ok v s' at h
    cases hb:Nat.ble (n+k) cc with
    | true=>rw [hb] at h;cases h
    | false=>
     rw [hb] at h
     obtain ⟨_,h⟩:=BF h
     have hnle:¬ (n+k≤cc):=fun e=>by rw [Zqa e] at hb;cases hb
     exact key _ n cc old olds hxv hRo h1o e1' (run_firstCells_some w.drew i.size n ⟨L.b,L.o+j,none⟩ n cc olds e1' (fun jj u hj=>hco jj u hj)) hnle hkp h
   ·generalize hxx:ρ x=vx at h1
    cases h1
    exact key none 0 0 [] [] hxx .nil (by simp) (by simp) (hf0 _) (by omega) hkp (by rw [Zpy];exact h)
   ·cases h
   ·obtain ⟨c,rfl,h⟩:=AJ h
    obtain ⟨b,oz,cc,cz,zs,hxx,hbz,h2',h3',h4',hnc,hck,h5'⟩:=FN h1
    have hcc:=hck c rfl
    subst hcc
    change (Bool.rec (Option.rec .fail (fun old=>C2 e (n+k) (Be old (Bp z k)) s) (Bo (Nat.mul n es) l0)) .fail (Nat.ble (n+k) cc):RV)=.ok v s' at h
    cases hb:Nat.ble (n+k) cc with
    | true=>rw [hb] at h;cases h
    | false=>
     rw [hb] at h
     obtain ⟨old,ht,h⟩:=AJ h
     have hnle:¬ (n+k≤cc):=fun e=>by rw [Zqa e] at hb;cases hb
     obtain ⟨olds,e1,g2,hRo,h1o⟩:=Iz (k:=0) hs hbz h2' h3' h4' ht
     have e1':olds.length=n*i.size:=by rw [his];exact e1
     rw [Zqs] at g2
     exact key _ n cc old olds hxx hRo h1o e1' (run_firstCells_some w.drew i.size n ⟨b,oz,none⟩ n cc olds e1' (fun jj u hj=>Ky hs hbz g2 jj u hj)) hnle hkp h
end
end Go.AM
namespace Go.AM
section
variable {P:Program}{γ:Gam}{s:St}{w:World}{t:AT}{ρ:Operand->Value}
variable {r:Nat}
theorem Zfb {o:Nat}:∀ {es:List (AV×AV×Nat)},Tq r o es=true->∀ x ∈ es,∃ o',x.1=.ptr r o'∧o≠o':=by
 intro es
 induction es with
 | nil=>intro _ x hx;cases hx
 | cons y es ih=>
  intro h x hx
  simp only [Tq] at h
  cases hp:Bs y.1 with
  | no=>rw [hp] at h;cases h
  | fp l=>rw [hp] at h;cases h
  | ptr r' o'=>
   rw [hp] at h
   cases hr:Nat.beq r r' with
   | false=>simp only [hr] at h;cases h
   | true=>
    simp only [hr] at h
    cases ho:Nat.beq o o' with
    | true=>simp only [ho] at h;cases h
    | false=>
     simp only [ho] at h
     cases hx with
     | head=>
      refine ⟨o',?_,?_⟩
      ·rw [Zpp hr];exact Ml hp
      ·intro e;subst e;rw [Zq6] at ho;cases ho
     | tail _ hx=>exact ih h x hx
variable {kt e:Nat}
theorem ZD (hu:P.underlying kt=some (.pointer e)) (b:Bool) (v:Value):(Instr.checkKey b 10000 kt v).run P w=.ok () w:=by
 show (Instr.checkKey b (9999+1) kt v).run P w=_
 unfold Instr.checkKey
 simp only [Zpt,Zp1 hu,Zpm]
 rfl
variable {n:Nat}
theorem Za6 (hu:P.underlying kt=some (.pointer e)) (hn:AA P e=some (n+1)) {a b:Addr}(hab:a.block=b.block) (hne:a≠b):
 (Op.equal kt (.pointer (some a)) (.pointer (some b))).run P w=.ok false w:=by
 show (Op.equalIn (9999+1) kt _ _).run P w=_
 unfold Op.equalIn
 have hb:(a == b)=false:=by simpa using hne
 simp [Zpt,Zp1 hu,Zpm,CB hn,sameAddr,hab,hb]
variable {L:Loc}
theorem ZL (hu:P.underlying kt=some (.pointer e)) (hn:AA P e=some (n+1)) {o:Nat}(hL:γ r=some L):
 ∀ {es:List (AV×AV×Nat)}{ms:List MapEntry}(i:Nat),All2 (EntR γ) es ms->(∀ x ∈ es,∃ o',x.1=.ptr r o'∧o≠o')->
  (Instr.findAsking kt (.pointer (some ⟨L.b,L.o+o,none⟩)) ms i).run P w=.ok none w:=by
 intro es
 induction es with
 | nil=>intro ms i h _;cases h;rfl
 | cons x es ih=>
  intro ms i h hf
  cases h with
  | @cons _ m _ ms' h1 h2=>
   obtain ⟨o',hx,hne⟩:=hf x (by simp)
   have hk:=h1.1
   rw [hx] at hk
   have hkey:m.key=.pointer (some ⟨L.b,L.o+o',none⟩):=by
    generalize m.key=kv at hk
    cases hk with
    | ptr _ _ L' hL'=>rw [hL] at hL';cases hL';rfl
   unfold Instr.findAsking
   rw [hkey]
   have hne':(⟨L.b,L.o+o,none⟩:Addr)≠⟨L.b,L.o+o',none⟩:=fun e=>by injection e with _ e2 _;omega
   simp only [Zpt,Za6 hu hn (a:=⟨L.b,L.o+o,none⟩) (b:=⟨L.b,L.o+o',none⟩) rfl hne',Zpm,Bool.false_eq_true,if_false]
   exact ih (i+1) h2 fun y hy=>hf y (by simp [hy])
theorem ZK (hu:P.underlying kt=some (.pointer e)) (hn:AA P e=some (n+1)) {o:Nat}(hL:γ r=some L)
 {es:List (AV×AV×Nat)}{ms:List MapEntry}(h:All2 (EntR γ) es ms) (hf:∀ x ∈ es,∃ o',x.1=.ptr r o'∧o≠o'):
  (Instr.findKey kt (.pointer (some ⟨L.b,L.o+o,none⟩)) ms).run P w=.ok none w:=by
 have hask:=ZL (P:=P) (w:=w) hu hn hL 0 h hf
 cases h with
 | nil=>simp only [Instr.findKey,Zpt,Zp1 hu,Zpm,Instr.findNow,Zpz]
 | cons h1 h2=>
  simp only [Instr.findKey,Zpt,Zp1 hu,Zpm,Instr.findNow,Instr.sameNow]
  exact hask
variable {ty:Nat}
theorem Zaa (h:OT P ty=true):∃ kt e el n,P.underlying ty=some (.map kt e)∧P.underlying kt=some (.pointer el)∧AA P el=some (n+1):=by
 unfold OT at h
 split at h
 ·rename_i kt e hu
  split at h
  ·rename_i el hk
   split at h
   ·rename_i n hn;exact ⟨kt,e,el,n,hu,hk,hn⟩
   ·cases h
  ·cases h
 ·cases h
variable {o:Oper}{x:Operand}{a:AO}{v:AV}{s':St}
theorem UG (hs:Sim P γ s w) {y z:Operand}{b c:AO}(hd:o.dst=none) (hpk:OT P ty=true) (hx:Ai x=some a) (hy:Ai y=some b) (hz:Ai z=some c)
 (ho:o.op=.mapUpdate ty x y z∨o.op=.insert ty x y z) (he:Evs γ t ρ [x,y,z]) (h:XH a b c t s=.ok v s'):OpOk P γ s w ρ o v s':=by
 obtain ⟨kt,e,el,n,hu,hku,hn⟩:=Zaa hpk
 obtain ⟨u1,hu1,h⟩:=AH h
 obtain ⟨u2,hu2,h⟩:=AH h
 obtain ⟨u3,hu3,h⟩:=AH h
 have h1:=he x (by simp) a u1 hx hu1
 have h2:=he y (by simp) b u2 hy hu2
 have h3:=he z (by simp) c u3 hz hu3
 rcases KL h with ⟨r,rfl,hk⟩|⟨rfl,hk⟩
 ·obtain ⟨⟨es,cl⟩,hm,hk⟩:=AJ hk
  obtain ⟨kr,ko,rfl,hk⟩:=OS hk
  obtain ⟨hoth,hk⟩:=BF hk
  have hg:=Ii hm
  obtain ⟨L,hL,hxv⟩:∃ L,γ r=some L∧ρ x=.map (some L.b):=by
   generalize ρ x=vx at h1
   cases h1 with
   | map _ L hL=>exact ⟨L,hL,rfl⟩
  obtain ⟨K,hK,hyv⟩:∃ K,γ kr=some K∧ρ y=.pointer (some ⟨K.b,K.o+ko,none⟩):=by
   generalize ρ y=vy at h2
   cases h2 with
   | ptr _ _ K hK=>exact ⟨K,hK,rfl⟩
  obtain ⟨ms,hms,hR⟩:=hs.obj r _ L hg hL
  have hlt:=hs.lt r L hL
  obtain ⟨rfl,rfl⟩:=A0 hk
  have hfn:=ZK (P:=P) (w:=w) hku hn hK hR (Zfb hoth)
  obtain ⟨hst,hsim⟩:=Mm (O:=.map (ms.push { key:=ρ y,val:=ρ z,born:=cl }) (cl+1)) (o:=.map (Be es [(.ptr kr ko,u3,cl)]) (cl+1)) hs hg hL rfl
   ⟨_,by rw [Zqx,Zpn rfl,Zpn hlt],by rw [Da,Array.toList_push];exact hR.append (.cons ⟨h2,h3,rfl⟩ .nil)⟩
  refine ⟨γ,_,hst,hsim,.inr ⟨?_,hd⟩⟩
  rw [← hyv] at hfn
  rcases ho with ho|ho <;>
   simp only [execOp,ho,Instr.mapUpdate,Zpt,Zp1 hu,Zpm,hxv,If hms,ZD hku,hfn,LL _ hms,Zpz]
 ·cases hk
theorem Zdc (h:PB P ty=true):∃ kt e,P.underlying ty=some (.map kt e):=by
 unfold PB at h
 split at h
 ·rename_i kt e hu;exact ⟨kt,e,hu⟩
 ·cases h
theorem Za7 (hs:Sim P γ s w) (hpk:PB P ty=true) (hx:Ai x=some a)
 (ho:o.op=.range ty x) (he:Evs γ t ρ [x]) (h:Yn a t s=.ok v s'):OpOk P γ s w ρ o v s':=by
 obtain ⟨kt,e,hu⟩:=Zdc hpk
 obtain ⟨u1,hu1,h⟩:=AH h
 have h1:=he x (by simp) a u1 hx hu1
 rcases KL h with ⟨r,rfl,hk⟩|⟨rfl,hk⟩
 ·obtain ⟨⟨es,cl⟩,hm,hk⟩:=AJ hk
  have hg:=Ii hm
  obtain ⟨L,hL,hxv⟩:∃ L,γ r=some L∧ρ x=.map (some L.b):=by
   generalize ρ x=vx at h1
   cases h1 with
   | map _ L hL=>exact ⟨L,hL,rfl⟩
  obtain ⟨ms,hms,hR⟩:=hs.obj r _ L hg hL
  obtain ⟨rfl,rfl⟩:=A0 hk
  refine Fresh.ok hs ⟨.iter r cl [] cl,fun i=>.ptr i 0,.mapIter (some L.b) cl #[] cl,0,0,.pointer (some ⟨w.heap.size,0,none⟩),rfl,rfl,?_,fun γ' i hle hi=>⟨⟨rfl,L,hle.loc _ _ hL,by show (w.heap.push _)[w.heap.size]?=_;simp⟩,?_⟩⟩
  ·simp only [execOp,ho,hxv,Zpt,run_range_map w ty kt e L.b ms cl hu hms,Zpm,Zpz]
  ·have:=VR.ptr (γ:=γ') i 0 _ hi
   simpa using this
 ·cases hk
theorem ZN {l:List Nat}:SY l=some n->∃ l',l=l'++[n]:=by
 induction l with
 | nil=>intro h;cases h
 | cons x l ih=>
  intro h
  simp only [SY] at h ih
  cases hl:(List.rec (motive:=fun _=>Option Nat) none (fun x _ ih=>Option.rec (some x) (fun y=>some y) ih) l) with
  | none=>
   rw [hl] at h;cases h
   cases l with
   | nil=>exact ⟨[],rfl⟩
   | cons y l=>
    exfalso
    simp only at hl
    cases hq:(List.rec (motive:=fun _=>Option Nat) none (fun x _ ih=>Option.rec (some x) (fun y=>some y) ih) l) with
    | none=>rw [hq] at hl;cases hl
    | some q=>rw [hq] at hl;cases hl
  | some q=>
   rw [hl] at h;cases h
   obtain ⟨l',e⟩:=ih hl
   exact ⟨x::l',by rw [e];rfl⟩
theorem Zb1 {e:AV×AV×Nat}:∀ {es:List (AV×AV×Nat)}{ms:List MapEntry},All2 (EntR γ) es ms->Tf n es=some e->∃ m,ms.find? (·.born == n)=some m∧EntR γ e m:=by
 intro es
 induction es with
 | nil=>intro ms h hf;cases hf
 | cons x es ih=>
  intro ms h hf
  cases h with
  | @cons _ m _ ms' h1 h2=>
   simp only [Tf] at hf
   cases hb:Nat.beq x.2.2 n with
   | true=>
    rw [hb] at hf;cases hf
    exact ⟨m,by rw [List.find?_cons_of_pos];rw [h1.2.2];exact beq_iff_eq.2 (Zpp hb),h1⟩
   | false=>
    rw [hb] at hf
    obtain ⟨m',e1,e2⟩:=ih h2 hf
    refine ⟨m',?_,e2⟩
    rw [List.find?_cons_of_neg,e1]
    rw [h1.2.2]
    intro hc
    rw [beq_iff_eq.1 hc,Zq6] at hb;cases hb
theorem Zaj {m since last:Nat}{seen:List Nat}(h:Pa r s=.it m since seen last):s.get r=some (.iter m since seen last):=by
 unfold Pa at h
 cases hg:s.get r with
 | none=>rw [hg] at h;cases h
 | some o=>
  rw [hg] at h
  cases o with
  | iter a b c d=>cases h;rfl
  | _=>cases h
theorem Zbu (hs:Sim P γ s w) (hx:Ai x=some a)
 (ho:o.op=.entry x) (he:Evs γ t ρ [x]) (h:Y6 a t s=.ok v s'):OpOk P γ s w ρ o v s':=by
 obtain ⟨u1,hu1,h⟩:=AH h
 have h1:=he x (by simp) a u1 hx hu1
 obtain ⟨ri,oi,rfl,hk⟩:=OS h
 obtain ⟨h0,hk⟩:=BF hk
 have h0:=Zpp h0
 subst h0
 cases hit:Pa ri s with
 | no=>rw [hit] at hk;cases hk
 | it m since seen last=>
  rw [hit] at hk
  obtain ⟨n,hln,hk⟩:=AJ hk
  obtain ⟨⟨es,cl⟩,hm,hk⟩:=AJ hk
  obtain ⟨hcl,hk2⟩:=BF hk
  have hcl:cl=last:=Zpp hcl
  subst hcl
  obtain ⟨ent,hb,hk3⟩:=AJ hk2
  obtain ⟨rfl,rfl⟩:=A0 hk3
  have hgi:=Zaj hit
  have hg:=Ii hm
  obtain ⟨I,hI,hxv⟩:∃ I,γ ri=some I∧ρ x=.pointer (some ⟨I.b,I.o+0,none⟩):=by
   generalize ρ x=vx at h1
   cases h1 with
   | ptr _ _ I hI=>exact ⟨I,hI,rfl⟩
  obtain ⟨hIo,M,hM,hitr⟩:=hs.obj ri _ I hgi hI
  obtain ⟨ms,hms,hR⟩:=hs.obj m _ M hg hM
  obtain ⟨me,hfind,hE⟩:=Zb1 hR hb
  obtain ⟨l',rfl⟩:=ZN hln
  refine Ay hs (.tuple #[me.key,me.val]) ?_ (.tup _ _ (.cons hE.1 (.cons hE.2.1 .nil)))
  rw [hIo] at hxv
  have hback:((l'++[n]).toArray).back?=some n:=by simp
  have hfa:ms.find? (·.born == n)=some me:=by rw [← Array.find?_toList];exact hfind
  simp only [execOp,ho,hxv,Instr.entry,getObj,Zpt,Sem.run,hitr,hms,Result.andThen,hback,bne_self_eq_false,Bool.false_eq_true,if_false,hfa]
  rfl
theorem SZ {k:Nat->AV->RV}{a:AV}(h:(XR.rec .fail k (Lu a):RV)=.ok v s'):∃ t u,a=.iface t u∧k t u=.ok v s':=by
 cases a with
 | iface t u=>exact ⟨t,u,rfl,h⟩
 | _=>cases h
theorem Zdb (hs:Sim P γ s w) (hT:JF P ty=true) (hx:Ai x=some a)
 (ho:o.op=.makeInterface ty x) (he:Evs γ t ρ [x]) (h:Za ty a t s=.ok v s'):OpOk P γ s w ρ o v s':=by
 obtain ⟨u,hu,h⟩:=AH h
 obtain ⟨rfl,rfl⟩:=A0 h
 have hv:=he x (by simp) a _ hx hu
 refine Ay hs (.iface ty (ρ x)) ?_ (.iface _ _ _ hv)
 unfold JF at hT
 cases hd:P.underlying ty with
 | none=>rw [hd] at hT;cases hT
 | some d=>cases d <;> first|(simp [hd] at hT;done)|simp [execOp,ho,Instr.makeInterface,Zp1 hd]
theorem Zcs (hs:Sim P γ s w) {xt:Nat}{i:TypeInfo}{z:Value}{zv:AV}(hT:JF P ty=true) (hi:P.info? ty=some i) (hz:i.zero=some z) (hzv:av z=some zv) (hx:Ai x=some a)
 (ho:o.op=.typeAssert x xt ty true) (he:Evs γ t ρ [x]) (h:YS ty zv a t s=.ok v s'):OpOk P γ s w ρ o v s':=by
 obtain ⟨u,hu,h⟩:=AH h
 obtain ⟨t',u',rfl,h⟩:=SZ h
 obtain ⟨rfl,rfl⟩:=A0 h
 have hv:=he x (by simp) a _ hx hu
 generalize hxx:ρ x=vx at hv
 cases hv with
 | iface _ _ v' hv'=>
  have hzr:=GZ (P:=P) hi hz w
  cases hb:Nat.beq t' ty with
  | true=>
   have e:=Zpp hb
   subst e
   refine Ay hs (.tuple #[v',.bool true]) ?_ (.tup _ _ (.cons hv' (.cons (.bool _) .nil)))
   unfold JF at hT
   cases hd:P.underlying t' with
   | none=>rw [hd] at hT;cases hT
   | some d=>cases d <;> first|(simp [hd] at hT;done)|simp [execOp,ho,hxx,Instr.typeAssert,Zp1 hd]
  | false=>
   have e:=Zqo hb
   refine Ay hs (.tuple #[z,.bool false]) ?_ (.tup _ _ (.cons (Tg hzv) (.cons (.bool _) .nil)))
   unfold JF at hT
   cases hd:P.underlying ty with
   | none=>rw [hd] at hT;cases hT
   | some d=>cases d <;> first|(simp [hd] at hT;done)|simp [execOp,ho,hxx,Instr.typeAssert,Zp1 hd,e,hzr]
variable {k f:Nat}
theorem Zbs {tb:List (Nat×Nat)}(h:JB tb k=some f):(k,f) ∈ tb:=by
 induction tb with
 | nil=>cases h
 | cons p tb ih=>
  change (Bool.rec (JB tb k) (some p.2) (Nat.beq p.1 k):Option Nat)=some f at h
  cases hb:Nat.beq p.1 k with
  | true=>
   rw [hb] at h
   have e:=Zpp hb
   have e2:p.2=f:=Zqr h
   rw [← e,← e2];exact List.mem_cons_self ..
  | false=>rw [hb] at h;exact List.mem_cons_of_mem _ (ih h)
variable {name:String}
theorem Zak (h:JB (XN P name) k=some f):Lf P name k=some f:=by
 obtain ⟨i,_,hi⟩:=List.mem_filterMap.1 (Zbs h)
 cases ha:Lf P name i with
 | none=>rw [ha] at hi;cases hi
 | some g=>rw [ha] at hi;cases hi;exact ha
theorem Za5 {v:Value}(h:Lf P name k=some f):(method (P.types.size+Made.depth) k v name).run P w=.ok (f,v) w:=by
 unfold Lf at h
 split at h
 ·rename_i inf hi
  split at h
  ·rename_i m hm
   split at h
   ·rename_i g hf
    split at h
    ·rename_i hp
     have hpath:m.path=#[]:=by simpa using hp
     split at h
     ·cases h
     ·rename_i d hne hd
      cases h
      rw [show P.types.size+Made.depth=(P.types.size+99)+1 from rfl]
      generalize P.types.size+99=n
      cases d with
      | pointer e=>exact absurd rfl (hne e)
      | _=>simp [method,typeInfo,hi,hm,hpath,follow,hf,receiverAt,Zp1 hd,Place.get]
     ·cases h
    ·cases h
   ·cases h
  ·cases h
 ·cases h
end
end Go.AM
