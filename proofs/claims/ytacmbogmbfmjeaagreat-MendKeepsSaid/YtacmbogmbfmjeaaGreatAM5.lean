/-
 Functions of the program as the abstract machine reads them, and what is stated of them, checked by the kernel. No conditions.
-/
import Derived.Below
import Derived.Lib.Overlaps
import Derived.Laws.Externs
import Derived.ChangeArms
import Derived.DataReads
import Derived.Carry
import Derived.ChangeSame
import Derived.Test.YtacmbogmbfmjeaaGreatAM4
set_option linter.unusedVariables false
set_option linter.unusedSimpArgs false
set_option linter.unnecessarySimpa false
set_option maxRecDepth 100000
namespace Go.AM
section
variable {t:AT}{s:St}{k:AV→St→Prop}{x y:AO}
theorem LC (q:IntKind):Cd q q=true:=by cases q <;> rfl
variable {q:IntKind}{a b:Int}
theorem Kg {f:Int→Int→Bool}:Gh f (.int q a) (.int q b)=.some (.bool (f a b)):=by
 show (Bool.rec .none (.some (.bool (f a b))) (Cd q q):OV)=_;rw [LC]
theorem RS {f:IntKind→Int→Int→Int}:ar f (.int q a) (.int q b)=.some (.int q (f q a b)):=by
 show (Bool.rec .none (.some (.int q (f q a b))) (Cd q q):OV)=_;rw [LC]
theorem DJ {op:BinOp}{a b v:AV}(hx:ev x t=.some a) (hy:ev y t=.some b) (h:Pi op a b=.some v) (hk:k v s):EPrim (.bin op x y) t s k:=by
 refine EPrim.mk (fun e rec=>?_) hk
 show wth x t _=_;unfold wth;rw [hx]
 show wth y t _=_;unfold wth;rw [hy]
 show ret _ s=_;rw [h];rfl
theorem Zc3 (hx:ev x t=.some (.int q a)) (hy:ev y t=.some (.int q b)) (hk:∀ c:Bool,(c=true↔a<b)→k (.bool c) s):EPrim (.bin .lss x y) t s k:=
 DJ hx hy Kg (hk _ (by rw [FH];simp))
theorem Zc4 (hx:ev x t=.some (.int q a)) (hy:ev y t=.some (.int q b)) (hk:∀ c:Bool,(c=true↔a≤b)→k (.bool c) s):EPrim (.bin .leq x y) t s k:=
 DJ hx hy (Kg (f:=fun a b=>!Eu b a)) (hk _ (by rw [FH];simp))
theorem Zc5 (hx:ev x t=.some (.int q a)) (hy:ev y t=.some (.int q b)) (hk:∀ c:Bool,(c=true↔b<a)→k (.bool c) s):EPrim (.bin .gtr x y) t s k:=
 DJ hx hy (Kg (f:=fun a b=>Eu b a)) (hk _ (by rw [FH];simp))
theorem Zc6 (hx:ev x t=.some (.int q a)) (hy:ev y t=.some (.int q b)) (hk:∀ c:Bool,(c=true↔b≤a)→k (.bool c) s):EPrim (.bin .geq x y) t s k:=
 DJ hx hy (Kg (f:=fun a b=>!Eu a b)) (hk _ (by rw [FH];simp))
theorem Zc7 (hx:ev x t=.some (.int q a)) (hy:ev y t=.some (.int q b)) (hk:∀ c:Bool,(c=true↔a=b)→k (.bool c) s):EPrim (.bin .eql x y) t s k:=
 DJ hx hy (by show J7 (Gh Dw _ _) _=_;rw [Kg];rfl) (hk _ (by rw [FI];simp))
theorem Zc1 (hx:ev x t=.some (.int q a)) (hy:ev y t=.some (.int q b)) (hk:∀ c:Bool,(c=true↔a≠b)→k (.bool c) s):EPrim (.bin .neq x y) t s k:=
 DJ hx hy (by show J7 (Gh (fun a b=>!Dw a b) _ _) _=_;rw [Kg];rfl) (hk _ (by rw [FI];simp))
theorem Bb {q:IntKind}{a b:Int}(hx:ev x t=.some (.int q a)) (hy:ev y t=.some (.int q b)) (h1:a<b→k (.bool true) s) (h2:b≤a→k (.bool false) s):EPrim (.bin .lss x y) t s k:=
 Zc3 hx hy fun c hc=>by cases c with|true=>exact h1 (hc.1 rfl)|false=>exact h2 (by simp at hc;omega)
theorem Nw {q:IntKind}{a b:Int}(hx:ev x t=.some (.int q a)) (hy:ev y t=.some (.int q b)) (h1:a≤b→k (.bool true) s) (h2:b<a→k (.bool false) s):EPrim (.bin .leq x y) t s k:=
 Zc4 hx hy fun c hc=>by cases c with|true=>exact h1 (hc.1 rfl)|false=>exact h2 (by simp at hc;omega)
theorem Ux {q:IntKind}{a b:Int}(hx:ev x t=.some (.int q a)) (hy:ev y t=.some (.int q b)) (h1:b<a→k (.bool true) s) (h2:a≤b→k (.bool false) s):EPrim (.bin .gtr x y) t s k:=
 Zc5 hx hy fun c hc=>by cases c with|true=>exact h1 (hc.1 rfl)|false=>exact h2 (by simp at hc;omega)
theorem DF {q:IntKind}{a b:Int}(hx:ev x t=.some (.int q a)) (hy:ev y t=.some (.int q b)) (h1:b≤a→k (.bool true) s) (h2:a<b→k (.bool false) s):EPrim (.bin .geq x y) t s k:=
 Zc6 hx hy fun c hc=>by cases c with|true=>exact h1 (hc.1 rfl)|false=>exact h2 (by simp at hc;omega)
theorem HI {q:IntKind}{a b:Int}(hx:ev x t=.some (.int q a)) (hy:ev y t=.some (.int q b)) (h1:a=b→k (.bool true) s) (h2:a≠b→k (.bool false) s):EPrim (.bin .eql x y) t s k:=
 Zc7 hx hy fun c hc=>by cases c with|true=>exact h1 (hc.1 rfl)|false=>exact h2 (by simpa using hc)
theorem JI {q:IntKind}{a b:Int}(hx:ev x t=.some (.int q a)) (hy:ev y t=.some (.int q b)) (h1:a≠b→k (.bool true) s) (h2:a=b→k (.bool false) s):EPrim (.bin .neq x y) t s k:=
 Zc1 hx hy fun c hc=>by cases c with|true=>exact h1 (hc.1 rfl)|false=>exact h2 (by simpa using hc)
theorem EPrim.add (hx:ev x t=.some (.int q a)) (hy:ev y t=.some (.int q b)) (hk:k (.int q (q.wrap (a+b))) s):EPrim (.bin .add x y) t s k:=
 DJ hx hy (by show J7 (ar _ _ _) _=_;rw [RS];rfl) (by rw [Ez,WB];exact hk)
theorem EPrim.sub (hx:ev x t=.some (.int q a)) (hy:ev y t=.some (.int q b)) (hk:k (.int q (q.wrap (a-b))) s):EPrim (.bin .sub x y) t s k:=
 DJ hx hy (RS (f:=fun k a b=>Er k (OQ a b))) (by rw [Ez,QK];exact hk)
theorem EPrim.mul (hx:ev x t=.some (.int q a)) (hy:ev y t=.some (.int q b)) (hk:k (.int q (q.wrap (a*b))) s):EPrim (.bin .mul x y) t s k:=
 DJ hx hy (RS (f:=fun k a b=>Er k (OX a b))) (by rw [Ez,QX];exact hk)
theorem i64_in {n:Int}(h:-9223372036854775808≤n∧n≤9223372036854775807):IntKind.i64.wrap n=n:=IntWalk.i64_in n h
theorem N1 (hx:ev x t=.some (.int .i64 a)) (hy:ev y t=.some (.int .i64 b)) (h:-9223372036854775808≤a+b∧a+b≤9223372036854775807) (hk:k (.int .i64 (a+b)) s):EPrim (.bin .add x y) t s k:=
 EPrim.add hx hy (by rw [i64_in h];exact hk)
theorem Qr {a b:Int}(hx:ev x t=.some (.int .i64 a)) (hy:ev y t=.some (.int .i64 b)) (h:-9223372036854775808≤a-b∧a-b≤9223372036854775807) (hk:k (.int .i64 (a-b)) s):EPrim (.bin .sub x y) t s k:=
 EPrim.sub hx hy (by rw [i64_in h];exact hk)
theorem Cl {a b:Int}(hx:ev x t=.some (.int .i64 a)) (hy:ev y t=.some (.int .i64 b)) (h:-9223372036854775808≤a*b∧a*b≤9223372036854775807) (hk:k (.int .i64 (a*b)) s):EPrim (.bin .mul x y) t s k:=
 EPrim.mul hx hy (by rw [i64_in h];exact hk)
theorem Zc0 (hx:ev x t=.some (.int q a)) (hy:ev y t=.some (.int q b)) (h:b≠0) (hk:k (.int q (a.tmod b)) s):EPrim (.bin .rem x y) t s k:=by
 refine DJ hx hy (v:=.int q (a.tmod b)) ?_ hk
 show (Bool.rec .none (Bool.rec (.some (.int q (Sa a b))) .none (Dw b 0)) (Cd q q):OV)=_
 rw [LC,FI,show (b == 0)=false by simpa using h,Ve]
theorem JH (hx:ev x t=.some (.int q a)) (hy:ev y t=.some (.int q b)) (h:0≤a∧0<b) (hk:k (.int q (a % b)) s):EPrim (.bin .rem x y) t s k:=
 Zc0 hx hy (by omega) (by rw [Int.tmod_eq_emod_of_nonneg h.1];exact hk)
theorem IJ (hx:ev x t=.some (.bool true)) (hk:k (.bool false) s):EPrim (.un .not x) t s k:=by
 refine EPrim.mk (v:=.bool false) (s':=s) (fun e rec=>?_) hk
 show wth x t _=_;unfold wth;rw [hx];rfl
theorem HH (hx:ev x t=.some (.bool false)) (hk:k (.bool true) s):EPrim (.un .not x) t s k:=by
 refine EPrim.mk (v:=.bool true) (s':=s) (fun e rec=>?_) hk
 show wth x t _=_;unfold wth;rw [hx];rfl
theorem EPrim.min2 {l:List AO}(hx:Ck t l=some [.int q a,.int q b]) (hk:k (.int q (min a b)) s):EPrim (.mn false l) t s k:=by
 refine EPrim.mk (v:=.int q (min a b)) (s':=s) (fun e rec=>?_) hk
 show (Option.rec .fail (fun l=>List.rec .fail (fun x l _=>ret (mm false l x) s) l) (Ck t l):RV)=_
 rw [hx]
 show ret (Bool.rec .none (.some (.int q (Bool.rec a b (Eu b a)))) (Cd q q):OV) s=_
 rw [LC,FH]
 by_cases h:b<a
 ·rw [Zqe h,show min a b=b by omega];rfl
 ·rw [Zqq h,show min a b=a by omega];rfl
end
end Go.AM
namespace Go.AM
noncomputable def A5:List (Nat×AV)→AT
 | []=>.lf
 | p::l=>(A5 l).set p.2 p.1
theorem QV:∀ {l:List (Nat×AV)}{i:Nat}{v:AV},(A5 l).get i=some v→∃ p ∈ l,p.1=i∧p.2=v
 | [],i,v,h=>by cases h
 | p::l,i,v,h=>by
  rcases FB h with ⟨rfl,rfl⟩|⟨_,h⟩
  ·exact ⟨p,by simp,rfl,rfl⟩
  ·obtain ⟨q,hq,e⟩:=QV h
   exact ⟨q,by simp [hq],e⟩
def nm (rs:List Nat):Nat→Nat:=fun j=>getD rs j
 where getD:List Nat→Nat→Nat
  | [],_=>0
  | x::_,0=>x
  | _::l,j+1=>getD l j
variable {rs:List Nat}
theorem EO {j r:Nat}(h:rs[j]?=some r):nm rs j=r:=by
 unfold nm
 induction rs generalizing j with
 | nil=>simp at h
 | cons x l ih=>cases j with
  | zero=>simp at h;exact h
  | succ j=>exact ih (by simpa using h)
@[reducible] def TmpOk (n:Nat) (rs:List Nat) (t:AT):List (Nat×AV)→Prop
 | []=>True
 | p::l=>(bd n p.2=true∧t.get p.1=some (AY (nm rs) p.2))∧TmpOk n rs t l
@[reducible] def RowOk (n:Nat) (all:List Nat) (s:St):List AObj→List Nat→Prop
 | [],[]=>True
 | o::l,r::rs=>(Dx 0 n o=true∧s.get r=some (Bv (nm all) o))∧RowOk n all s l rs
 | _,_=>False
structure Abs (t:AT) (s:St) (tl:List (Nat×AV)) (os:List AObj) (rs:List Nat):Prop where
 nd:rs.Nodup
 tmp:TmpOk os.length rs t tl
 row:RowOk os.length rs s os rs
variable {n:Nat}{t:AT}
theorem TmpOk.get:∀ {l:List (Nat×AV)},TmpOk n rs t l→∀ p ∈ l,bd n p.2=true∧t.get p.1=some (AY (nm rs) p.2)
 | [],_,p,hp=>by simp at hp
 | q::l,h,p,hp=>by
  rcases Zrj.1 hp with rfl|hp
  ·exact h.1
  ·exact TmpOk.get h.2 p hp
variable {s:St}
theorem RowOk.get {all:List Nat}:∀ {l:List AObj}{rs:List Nat},RowOk n all s l rs→l.length=rs.length∧∀ (j:Nat) o,l[j]?=some o→∃ r,rs[j]?=some r∧Dx 0 n o=true∧s.get r=some (Bv (nm all) o)
 | [],[],_=>⟨rfl,fun j o h=>by simp at h⟩
 | [],_::_,h=>h.elim
 | _::_,[],h=>h.elim
 | o::l,r::rs,h=>by
  obtain ⟨h1,h2⟩:=RowOk.get h.2
  refine ⟨by simp [h1],fun j o' hj=>?_⟩
  cases j with
  | zero=>simp at hj;subst hj;exact ⟨r,by simp,h.1⟩
  | succ j=>simpa using h2 j o' (by simpa using hj)
theorem Ek (os:List AObj):(Al St0 os).next=os.length:=by rw [GE];show 0+_=_;omega
theorem Abs.ren {tl:List (Nat×AV)}{os:List AObj}(h:Abs t s tl os rs):Ren 0 (nm rs) t s [] (A5 tl) (Al St0 os) []:=by
 obtain ⟨hl,hr⟩:=h.row.get
 refine ⟨fun r hr=>by omega,Zqs _,?_,?_,?_,⟨rfl,by simp⟩⟩
 ·intro i j hi hj e
  rw [Ek] at hi hj
  have e1:=EO (Zp9 (l:=rs) (i:=i) (by omega))
  have e2:=EO (Zp9 (l:=rs) (i:=j) (by omega))
  rw [e1,e2] at e
  exact (List.getElem_inj h.nd).1 e
 ·intro i v hv
  obtain ⟨p,hp,rfl,rfl⟩:=QV hv
  rw [Ek]
  exact h.tmp.get p hp
 ·intro r o ho
  have:=JL os St0 (Zqs r) (fun _ _=>rfl) ho
  have hz:r-St0.next=r:=Nat.sub_zero r
  rw [hz] at this
  obtain ⟨q,hq,hb,hg⟩:=hr r o this
  rw [Ek,EO hq]
  exact ⟨(Zqa.1 this).1,hb,hg⟩
section
variable {P:Program}{rd:Option Nat}{ac:AC}{t:AT}{s:St}{Q:EQ}
theorem W.abs (tl:List (Nat×AV)) (os:List AObj) (rs:List Nat) (h:Abs t s tl os rs) (hw:W P 0 rd ac (A5 tl) (Al St0 os) [] Q):W P 0 rd ac t s [] Q:=W.ren h.ren hw
theorem LT {α:Type}(tl:α→List (Nat×AV)) (os:α→List AObj) (μ:α→Nat) (I:α→Prop) (x0:α) (rs:List Nat) (h0:I x0) (ha:Abs t s (tl x0) (os x0) rs)
 (hr:∀ x,I x→W P 0 rd ac (A5 (tl x)) (Al St0 (os x)) [] (I4 (fun t s ds=>ds=[]∧∃ x',I x'∧μ x'<μ x∧∃ rs,Abs t s (tl x') (os x') rs) Q)):W P 0 rd (.loop ac) t s [] Q:=by
 refine W.loop (fun n t s ds=>ds=[]∧∃ x,n=μ x∧I x∧∃ rs,Abs t s (tl x) (os x) rs) (μ x0) ⟨rfl,x0,rfl,h0,rs,ha⟩ ?_
 rintro n t s ds ⟨rfl,x,rfl,hi,rs,ha⟩
 refine W.ren ha.ren ((hr x hi).mono ?_)
 intro y t s ds hq
 cases y with
 | normal=>
  obtain ⟨rfl,x',hi',hm,rs,ha⟩:=(show ds=[]∧∃ x',I x'∧μ x'<μ x∧∃ rs,Abs t s (tl x') (os x') rs from hq)
  exact ⟨μ x',hm,rfl,x',rfl,hi',rs,ha⟩
 | exit id=>exact hq
 | ret=>exact hq
end
end Go.AM
namespace Go.AM
theorem BA {α:Type}{x:Option α}{K:α→Prop}(v:α) (h:x=some v) (hk:K v):(Option.rec (motive:=fun _=>Prop) False K x):=by rw [h];exact hk
section
variable {t:AT}{s:St}{k:AV→St→Prop}{x y:AO}
variable {r o n es i:Nat}{q:IntKind}
theorem Nz (hx:ev x t=.some (.ptr r o)) (hy:ev y t=.some (.int q (Int.ofNat i))) (h:i<n) (hk:k (.ptr r (o+i*es)) s):EPrim (.ixa n es x y) t s k:=by
 refine EPrim.mk (fun e rec=>?_) hk
 show wth x t _=_;unfold wth;rw [hx]
 show wth y t _=_;unfold wth;rw [hy]
 show gd (Nat.blt i n) _=_
 rw [show Nat.blt i n=true by simpa using h];rfl
variable {c:Option Nat}
theorem GH (hx:ev x t=.some (.sl r o n c)) (hy:ev y t=.some (.int q (Int.ofNat i))) (h:i<n) (hk:k (.ptr r (o+i*es)) s):EPrim (.ixs es x y) t s k:=by
 refine EPrim.mk (fun e rec=>?_) hk
 show wth x t _=_;unfold wth;rw [hx]
 show wth y t _=_;unfold wth;rw [hy]
 show gd (Nat.blt i n) _=_
 rw [show Nat.blt i n=true by simpa using h];rfl
variable {l:List AV}
theorem Zax (hx:ev x t=.some (.fz n c l)) (hy:ev y t=.some (.int q (Int.ofNat i))) (h:i<n) (hk:k (.fp (l.drop (i*es))) s):EPrim (.ixs es x y) t s k:=by
 rw [← GO] at hk
 refine EPrim.mk (fun e rec=>?_) hk
 show wth x t _=_;unfold wth;rw [hx]
 show wth y t _=_;unfold wth;rw [hy]
 show gd (Nat.blt i n) _=_
 rw [show Nat.blt i n=true by simpa using h];rfl
def Sl (es n:Nat) (l:List AV) (v:AV):Prop:=(v=.nils∧n=0∧l=[])∨(v=.es∧n=0∧l=[])∨(∃ c,v=.fz n c l∧l.length=n*es)
variable {v:AV}
theorem Sl.hf (h:Sl es n l v):hf v=true:=by
 rcases h with ⟨rfl,_⟩|⟨rfl,_⟩|⟨c,rfl,_⟩ <;> rfl
theorem Nx (hx:ev x t=.some v) (h:Sl es n l v) (hk:k (.int .i64 (Int.ofNat n)) s):EPrim (.len x) t s k:=by
 refine EPrim.mk (v:=.int .i64 (Int.ofNat n)) (s':=s) (fun e rec=>?_) hk
 show wth x t _=_;unfold wth;rw [hx]
 rcases h with ⟨rfl,rfl,_⟩|⟨rfl,rfl,_⟩|⟨c,rfl,_⟩ <;> rfl
theorem Cr (hx:ev x t=.some v) (hs:Sl es n l v) (hy:ev y t=.some (.int q (Int.ofNat i))) (h:i<n) (hk:k (.fp (l.drop (i*es))) s):EPrim (.ixs es x y) t s k:=by
 rcases hs with ⟨rfl,rfl,_⟩|⟨rfl,rfl,_⟩|⟨c,rfl,_⟩
 ·omega
 ·omega
 ·exact Zax hx hy h hk
theorem Zav (hx:ev x t=.some (.sl r o n c)) (hk:k (.int .i64 (Int.ofNat n)) s):EPrim (.len x) t s k:=by
 refine EPrim.mk (v:=.int .i64 (Int.ofNat n)) (s':=s) (fun e rec=>?_) hk
 show wth x t _=_;unfold wth;rw [hx];rfl
variable {a b:Nat}
theorem Qd (hx:ev x t=.some (.int .u32 (Int.ofNat a))) (hy:ev y t=.some (.int .u32 (Int.ofNat b))) (ha:a<4294967296) (hb:b<4294967296) (hk:k (.int .u32 (Int.ofNat (a ^^^ b))) s):EPrim (.bin .xor x y) t s k:=by
 refine DJ hx hy (v:=.int .u32 (Int.ofNat (a ^^^ b))) ?_ hk
 show OV.some (.int .u32 (Int.ofNat (Nat.xor (a % 4294967296) (b % 4294967296))))=_
 rw [Zr5 ha,Zr5 hb];rfl
theorem Ue (hx:ev x t=.some (.int .u32 (Int.ofNat a))) (hy:ev y t=.some (.int .u32 (Int.ofNat b))) (ha:a<4294967296) (hb:b<4294967296) (hk:k (.int .u32 (Int.ofNat (a &&& b))) s):EPrim (.bin .and x y) t s k:=by
 refine DJ hx hy (v:=.int .u32 (Int.ofNat (a &&& b))) ?_ hk
 show OV.some (.int .u32 (Int.ofNat (Nat.land (a % 4294967296) (b % 4294967296))))=_
 rw [Zr5 ha,Zr5 hb];rfl
theorem Uc (hx:ev x t=.some (.int .u32 (Int.ofNat a))) (ha:a<4294967296) (hk:k (.int .u32 (Int.ofNat (a ^^^ 4294967295))) s):EPrim (.un .xor x) t s k:=by
 refine EPrim.mk (v:=.int .u32 (Int.ofNat (a ^^^ 4294967295))) (s':=s) (fun e rec=>?_) hk
 show wth x t _=_;unfold wth;rw [hx]
 show RV.ok (.int .u32 (Int.ofNat (Nat.xor (4294967295 % 4294967296) (a % 4294967296)))) s=_
 rw [Zr5 ha,Zr5 (by omega)]
 show RV.ok (.int .u32 (Int.ofNat (4294967295 ^^^ a))) s=_
 rw [Nat.xor_comm]
theorem Nv {r:IntKind}(hx:ev x t=.some (.int q (Int.ofNat a))) (hy:ev y t=.some (.int r (Int.ofNat n))) (hn:n≤q.bits) (hk:k (.int q (Int.ofNat (a / 2^n))) s):EPrim (.bin .shr x y) t s k:=by
 refine DJ hx hy (v:=.int q (Int.ofNat (a / 2^n))) ?_ hk
 show OV.some (.int q (Int.ofNat (a / 2^(Nat.min n q.bits))))=_
 rw [show Nat.min n q.bits=n from Nat.min_eq_left hn]
theorem Za2 (ha:a<4294967296):Er .u32 (Int.ofNat a)=Int.ofNat a:=by
 show Int.ofNat (a % 4294967296)=_;rw [Zr5 ha]
theorem Zi (hx:ev x t=.some (.int q (Int.ofNat a))) (ha:a<4294967296) (hk:k (.int .u32 (Int.ofNat a)) s):EPrim (.cvi .u32 x) t s k:=by
 refine EPrim.mk (v:=.int .u32 (Int.ofNat a)) (s':=s) (fun e rec=>?_) hk
 show wth x t _=_;unfold wth;rw [hx]
 show RV.ok (.int .u32 (Er .u32 (Int.ofNat a))) s=_
 rw [Za2 ha]
theorem Uw {b:Int}(hx:ev x t=.some (.int .i64 (Int.ofNat a))) (hy:ev y t=.some (.int .i64 b)) (hb:b=1) (h:a<9223372036854775807) (hk:k (.int .i64 (Int.ofNat (a+1))) s):EPrim (.bin .add x y) t s k:=by
 subst hb
 refine N1 hx hy ?_ ?_
 ·have:Int.ofNat a=(a:Int):=rfl
  omega
 ·exact hk
theorem Uv (hx:ev x t=.some (.int q (Int.ofNat a))) (hy:ev y t=.some (.int q (Int.ofNat b))) (h1:a<b→k (.bool true) s) (h2:b≤a→k (.bool false) s):EPrim (.bin .lss x y) t s k:=
 Bb hx hy (fun h=>h1 (by have e1:Int.ofNat a=(a:Int):=rfl;have e2:Int.ofNat b=(b:Int):=rfl;omega)) (fun h=>h2 (by have e1:Int.ofNat a=(a:Int):=rfl;have e2:Int.ofNat b=(b:Int):=rfl;omega))
end
def byV (b:Nat):AV:=.int .u8 (Int.ofNat b)
def Ab (l:List Nat):List AV:=l.map byV
theorem Ze {l:List Nat}{i:Nat}(h:i<l.length):((Ab l).drop (i*1))[0]?=some (.int .u8 (Int.ofNat l[i])):=by
 rw [Zqk];simp [Ab,byV,h]
end Go.AM
namespace Go.AM
mutual
def sc:AV→Bool
 | .ptr ..|.sl ..|.map ..|.yld ..|.fz ..|.fp ..=>false
 | .fn _ a b=>I9 a && I9 b
 | .iface _ v=>sc v
 | .agg l|.tup l=>I9 l
 | _=>true
def I9:List AV→Bool
 | []=>true
 | v::l=>sc v && I9 l
end
section
variable {P:Program}{γ γ2:Gam}
mutual
theorem Su:∀ (v:AV) {v':Value},sc v=true→VR γ v v'→VR γ2 v v'
 | .bool b,_,_,.bool _=>.bool _
 | .int k n,_,_,.int _ _=>.int _ _
 | .str l,_,_,.str _ s e=>.str _ s e
 | .ptr _ _,_,h,_=>by cases h
 | .nilp,_,_,.nilp=>.nilp
 | .sl ..,_,h,_=>by cases h
 | .nils,_,_,.nils=>.nils
 | .es,_,_,.es a c=>.es a c
 | .ez,_,_,.ez a=>.ez a
 | .map _,_,h,_=>by cases h
 | .nilm,_,_,.nilm=>.nilm
 | .fn f xs ys,_,h,.fn _ _ _ as bs a b=>by
  simp only [sc,Zqb] at h
  exact .fn f xs ys as bs (Mm xs h.1 a) (Mm ys h.2 b)
 | .yld _,_,h,_=>by cases h
 | .nilf,_,_,.nilf=>.nilf
 | .iface t v,_,h,.iface _ _ v' e=>.iface t v v' (Su v h e)
 | .nili,_,_,.nili=>.nili
 | .agg l,_,h,.agg _ a e o=>.agg l a (Mm l h e) o
 | .tup l,_,h,.tup _ a e=>.tup l a (Mm l h e)
 | .any,_,_,.any v e=>.any v e
 | .fz ..,_,h,_=>by cases h
 | .fp _,_,h,_=>by cases h
theorem Mm:∀ (l:List AV) {m:List Value},I9 l=true→All2 (VR γ) l m→All2 (VR γ2) l m
 | [],_,_,.nil=>.nil
 | v::l,_,h,.cons a b=>by
  simp only [I9,Zqb] at h
  exact .cons (Su v h.1 a) (Mm l h.2 b)
end
variable {s:St}
theorem Kz {f:Nat}{args args2:List AV}{u:AV}(hF:All2 (Frz s) args args2) (hu:sc u=true) (h:C P f args2 St0 (fun v s'=>v=u∧s'=Al St0 [])):C P f args s (fun v s'=>v=u∧s'=s):=by
 intro γ vals w m hA hs
 let φ:Nat→Option (Array Value):=fun b=>match w.heap[b]? with|some (.cells c _ _)=>some c|_=>none
 have hφ:∀ b c,φ b=some c→∃ e fr,w.heap[b]?=some (.cells c e fr):=by
  intro b c hc
  have hc:(match w.heap[b]? with|some (.cells c _ _)=>some c|_=>none)=some c:=hc
  split at hc
  ·rename_i c' e fr hh;cases hc;exact ⟨e,fr,hh⟩
  ·cases hc
 have hφ2:∀ b c e fr,w.heap[b]?=some (.cells c e fr)→φ b=some c:=by
  intro b c e fr hc
  show (match w.heap[b]? with|some (.cells c _ _)=>some c|_=>none)=some c
  rw [hc]
 have hA2:All2 (VR ⟨fun _=>none,φ⟩) args2 vals:=Ic hs (fun b c e=>by obtain ⟨t,fr,hh⟩:=hs.fzc b c e;exact hφ2 b c t fr hh) (fun r e cs L c _ _ hh=>hφ2 L.b c e (0,0) hh) hF hA
 refine CallsIn.mono (h ⟨fun _=>none,φ⟩ vals w m hA2 (OS hφ)) ?_
 rintro e w' ⟨v,s',⟨rfl,rfl⟩,v',γ',rfl,hst,hsim,hv⟩
 have hblk:∀ b,b<w.heap.size→w'.heap[b]?=w.heap[b]?:=fun b hb=>hst.blk b hb (fun r L e=>by cases e)
 refine ⟨_,_,⟨rfl,rfl⟩,v',γ,rfl,?_,?_,Su v hu hv⟩
 ·exact ⟨Le.refl γ,fun r L h h'=>(by rw [h] at h';cases h'),Zqu _,hst.size,hst.os,hst.tape,hst.output,fun b hb _=>hblk b hb,fun _ _ _=>rfl,fun b c h h'=>(by rw [h] at h';cases h')⟩
 ·refine ⟨fun r o L ho hL=>(hs.obj r o L ho hL).heap (hblk _ (hs.lt r L hL)),hs.inj,fun r L hL=>Zr2 (hs.lt r L hL) hst.size,hs.nx,hs.dom,fun b c e=>?_,hs.fzr⟩
  obtain ⟨t,fr,hh⟩:=hs.fzc b c e
  exact ⟨t,fr,(hblk b (hs.fzlt e)).trans hh⟩
noncomputable def Ia (s:St) (v:AV):Option (List Nat):=
 SR.rec none (fun r o n _=>Option.rec none Cs (load r o n s)) (some []) (some []) (fun n _ l=>Bool.rec none (Cs l) (Nat.beq (A6 l) n)) (Bx v)
theorem TZ:∀ {l:List AV}{bs:List Nat},Cs l=some bs→l=Ab bs∧∀ b ∈ bs,b<256:=by
 intro l
 induction l with
 | nil=>intro bs h;cases h;exact ⟨rfl,by simp⟩
 | cons x l ih=>
  intro bs h
  change (IR.rec none (fun k n=>Bool.rec none (Int.rec (fun a=>Bool.rec none (Option.rec none (fun r=>some (a::r)) (Cs l)) (Nat.blt a 256)) (fun _=>none) n) (Nat.beq (Gv k) 4)) (asInt x):Option (List Nat))=some bs at h
  cases hc:asInt x with
  | no=>rw [hc] at h;cases h
  | int k n=>
   rw [hc] at h
   dsimp only at h
   cases hk:Nat.beq (Gv k) 4 with
   | false=>rw [hk] at h;cases h
   | true=>
    rw [hk] at h
    have hku:k=.u8:=by cases k <;> first|rfl|cases hk
    subst hku
    cases n with
    | negSucc n=>cases h
    | ofNat a=>
     dsimp only at h
     cases hb:Nat.blt a 256 with
     | false=>rw [hb] at h;cases h
     | true=>
      rw [hb] at h
      rw [Zrr] at hb
      cases hbo:Cs l with
      | none=>rw [hbo] at h;cases h
      | some r=>
       rw [hbo] at h;cases h
       obtain ⟨e1,e2⟩:=ih hbo
       refine ⟨by rw [E0 hc,e1];rfl,?_⟩
       intro b hb'
       rcases Zrj.1 hb' with rfl|hb'
       ·exact hb
       ·exact e2 b hb'
theorem B6 (bs:List Nat):hfs (Ab bs)=true:=hfs_iff.2 fun v hv=>by
 obtain ⟨b,_,rfl⟩:=Zq9.1 hv;rfl
theorem LN:∀ (bs:List Nat),All2 (Frz s) (Ab bs) (Ab bs)
 | []=>.nil
 | b::bs=>.cons (.plain _ rfl) (LN bs)
theorem Bt (bs:List Nat):(Ab bs).length=bs.length:=Zqg ..
theorem TG {v:AV}{bs:List Nat}(h:Ia s v=some bs):∃ v2,Frz s v v2∧Sl 1 bs.length (Ab bs) v2∧∀ b ∈ bs,b<256:=by
 unfold Ia at h
 cases hq:Bx v with
 | no=>rw [hq] at h;cases h
 | nils=>rw [hq] at h;cases h;rw [N9 hq];exact ⟨.nils,.plain _ rfl,.inl ⟨rfl,rfl,rfl⟩,by simp⟩
 | es=>rw [hq] at h;cases h;rw [Oj hq];exact ⟨.es,.plain _ rfl,.inr (.inl ⟨rfl,rfl,rfl⟩),by simp⟩
 | sl r o n c=>
  rw [hq] at h
  change (Option.rec none Cs (load r o n s):Option (List Nat))=some bs at h
  cases hl:load r o n s with
  | none=>rw [hl] at h;cases h
  | some cs=>
   rw [hl] at h
   obtain ⟨rfl,hb⟩:=TZ (show Cs cs=some bs from h)
   rw [Oi hq]
   unfold load at hl
   cases hr:Dc r s with
   | no=>rw [hr] at hl;cases hl
   | row e rs=>
    rw [hr] at hl
    change Bg n (Dr o rs)=some (Ab bs) at hl
    obtain ⟨e1,e2⟩:=JE n hl
    rw [GO] at e1 e2
    have hn:bs.length=n:=by
     have:=congrArg List.length e1
     rw [Bt,Zqz] at this
     omega
    refine ⟨.fz n none (Ab bs),.sl r o n c none e rs (Ab bs) (Ab bs) (JF hr) ?_ (LN bs) (.inl rfl),.inr (.inr ⟨none,by rw [hn],by rw [Bt,Zrc]⟩),hb⟩
    intro i x hx
    rw [e1,Zrm] at hx
    split at hx
    ·rwa [Zqk] at hx
    ·cases hx
 | fz n c l=>
  rw [hq] at h
  change (Bool.rec none (Cs l) (Nat.beq (A6 l) n):Option (List Nat))=some bs at h
  cases hl:Nat.beq (A6 l) n with
  | false=>rw [hl] at h;cases h
  | true=>
   rw [hl] at h
   obtain ⟨rfl,hb⟩:=TZ (show Cs l=some bs from h)
   rw [Ru hq]
   have hn:bs.length=n:=by
    have:=Zqf hl
    rw [CN,Bt] at this
    exact this
   exact ⟨_,.plain _ rfl,.inr (.inr ⟨c,by rw [hn],by rw [Bt,Zrc]⟩),hb⟩
end
end Go.AM
namespace Go.AM
theorem YN {α:Type}{x:α}:∀ (n k:Nat),k+1<2^n→(T.sing x n k).get k=some x:=by
 intro n
 induction n with
 | zero=>intro k h;simp at h
 | succ n ih=>
  intro k h
  cases k with
  | zero=>rfl
  | succ k=>
   have hk:k / 2+1<2^n:=by rw [Nat.pow_succ] at h;omega
   show T.get (Bool.rec (T.nd none .lf (T.sing x n (Nat.div k 2))) (T.nd none (T.sing x n (Nat.div k 2)) .lf) (Nat.beq (Nat.mod k 2) 0)) (k+1)=some x
   cases hb:Nat.beq (Nat.mod k 2) 0
   ·show (Bool.rec (T.get (T.sing x n (Nat.div k 2)) (Nat.div k 2)) _ (Nat.beq (Nat.mod k 2) 0):Option α)=some x
    rw [hb];exact ih _ hk
   ·show (Bool.rec _ (T.get (T.sing x n (Nat.div k 2)) (Nat.div k 2)) (Nat.beq (Nat.mod k 2) 0):Option α)=some x
    rw [hb];exact ih _ hk
theorem T6 {α:Type}{x:α}:∀ (t:T α) (k:Nat),k<1000000000→(t.set x k).get k=some x:=by
 intro t
 induction t with
 | lf=>intro k h;exact YN 64 k (by omega)
 | nd v l r il ir=>
  intro k h
  cases k with
  | zero=>rfl
  | succ k=>
   have hk:k / 2<1000000000:=by omega
   show T.get (Bool.rec (T.nd v l (r.set x (Nat.div k 2))) (T.nd v (l.set x (Nat.div k 2)) r) (Nat.beq (Nat.mod k 2) 0)) (k+1)=some x
   cases hb:Nat.beq (Nat.mod k 2) 0
   ·show (Bool.rec (T.get (r.set x (Nat.div k 2)) (Nat.div k 2)) _ (Nat.beq (Nat.mod k 2) 0):Option α)=some x
    rw [hb];exact ir _ hk
   ·show (Bool.rec _ (T.get (l.set x (Nat.div k 2)) (Nat.div k 2)) (Nat.beq (Nat.mod k 2) 0):Option α)=some x
    rw [hb];exact il _ hk
variable {s:St}{o:AObj}
theorem PZ (h:s.next<1000000000):(s.alloc o).get s.next=some o:=by
 cases s;exact T6 _ _ h
variable {r:Nat}
theorem Lh (h:r<1000000000):(s.put r o).get r=some o:=by
 cases s;exact T6 _ _ h
variable {e:Nat}{cs:List AV}
theorem NF (h:s.get r=some (.row e cs)):Dc r s=.row e cs:=by
 unfold Dc;rw [h];rfl
theorem GR {o n:Nat}(h:s.get r=some (.row e cs)) (hl:o+n≤cs.length):load r o n s=some ((cs.drop o).take n):=by
 unfold load;rw [NF h]
 show Bg n (Dr o cs)=_
 rw [GO];exact Fg (by simp;omega)
theorem Zkj:∀ {vs:List AV}{o:Nat}{l:List AV},o+vs.length≤l.length→Et vs o l=some (l.take o++vs++l.drop (o+vs.length)):=by
 have hH:∀ {vs l:List AV},vs.length≤l.length→Js vs l=some (vs++l.drop vs.length):=by
  intro vs
  induction vs with
  | nil=>intro l _;rfl
  | cons v vs ih=>intro l h;cases l with
   | nil=>simp at h
   | cons x l=>
    show (Option.rec none (fun r=>some (v::r)) (Js vs l):Option (List AV))=_
    rw [ih (by simpa using h)];rfl
 intro vs o
 induction o with
 | zero=>intro l h;show Js vs l=_;rw [hH (by omega)];simp
 | succ o ih=>intro l h;cases l with
  | nil=>simp at h
  | cons x l=>
   show (Option.rec none (fun r=>some (x::r)) (Et vs o l):Option (List AV))=_
   rw [ih (by simp at h;omega),show o+1+vs.length=(o+vs.length)+1 by omega];rfl
theorem Gm {o:Nat}{vs:List AV}(h:s.get r=some (.row e cs)) (hl:o+vs.length≤cs.length):storeAt r o vs s=some (s.put r (.row e (cs.take o++vs++cs.drop (o+vs.length)))):=by
 unfold storeAt;rw [NF h]
 show (Option.rec none (fun cs'=>some (s.put r (.row e cs'))) (Et vs o cs):Option St)=_
 rw [Zkj hl]
section
variable {t:AT}{s:St}{k:AV→St→Prop}{x y:AO}
theorem Uu {es r o n l h:Nat}{lo hi:Option AO}(hx:ev x t=.some (.sl r o n none)) (hlo:C0 t lo 0=.n l) (hhi:C0 t hi n=.n h) (h1:l≤h) (h2:h≤n) (h3:l<n) (hk:k (.sl r (o+l*es) (h-l) none) s):EPrim (.slc es x lo hi none) t s k:=by
 refine EPrim.mk (fun e rec=>?_) hk
 show wth x t _=_;unfold wth;rw [hx]
 show (NR.rec .fail _ (C0 t lo 0):RV)=_;rw [hlo]
 show (NR.rec .fail _ (C0 t hi n):RV)=_;rw [hhi]
 show gd (Nat.ble l h && Nat.ble h n) (Bool.rec (.ok .es s) (.ok (.sl r (o+l*es) (h-l) none) s) (Nat.blt l n))=_
 rw [Zq0 h1,Zq0 h2,show Nat.blt l n=true by simpa using h3];rfl
theorem Za1 {a b:Nat}(hx:ev x t=.some (.int .i64 (Int.ofNat a))) (hy:ev y t=.some (.int .i64 (Int.ofNat b))) (h:a+b<9223372036854775807) (hk:k (.int .i64 (Int.ofNat (a+b))) s):EPrim (.bin .add x y) t s k:=
 N1 hx hy (by have e1:Int.ofNat a=(a:Int):=rfl;have e2:Int.ofNat b=(b:Int):=rfl;omega) hk
end
section
variable {P:Program}{γ γ0:Gam}{s s0 S:St}{w w0:World}
end
end Go.AM
namespace Go.AM
open Go.RowKit
noncomputable def Aq {α:Type}:List (Nat×α)→T α
 | []=>.lf
 | p::l=>(Aq l).set p.2 p.1
theorem NW {α:Type}:∀ {l:List (Nat×α)}{f:Nat}{a:α},(Aq l).get f=some a→∃ p ∈ l,p.1=f∧p.2=a
 | [],_,_,h=>by cases h
 | p::l,f,a,h=>by
  rcases FB h with ⟨rfl,rfl⟩|⟨_,h⟩
  ·exact ⟨p,by simp,rfl,rfl⟩
  ·obtain ⟨q,hq,e⟩:=NW h
   exact ⟨q,by simp [hq],e⟩
def GOk (P : Program) (p : Nat × AFn) : Prop := ∃ fn, P.funcs[p.1]? = some fn ∧ FP P fn = some p.2 ∧ (fn.name == "runtime.NumGoroutine") = false
def OOk (P:Program) (p:Nat×Ov):Prop:=OvOk P p.1 p.2
def XOk (P:Program) (p:Nat×Ov):Prop:=∀ γ args vals s w v s',All2 (VR γ) args vals→Sim P γ s w→p.2 args s=.ok v s'→
 ∃ v' γ' w',(callFunc p.1 vals.toArray).run P w=.ok (.value v') w'∧Stp γ s w γ' s' w'∧Sim P γ' s' w'∧VR γ' v v'
def All {α:Type}(p:α→Prop):List α→Prop
 | []=>True
 | x::l=>p x∧All p l
theorem All.get {α:Type}{p:α→Prop}:∀ {l:List α},All p l→∀ x ∈ l,p x
 | [],_,x,h=>by simp at h
 | y::l,h,x,hx=>by
  rcases Zrj.1 hx with rfl|hx
  ·exact h.1
  ·exact All.get h.2 x hx
theorem Au {P:Program}{e:Env}{gl:List (Nat×AFn)}{ol xl:List (Nat×Ov)}(hG:e.G=Aq gl) (hO:e.O=Aq ol) (hX:e.X=Aq xl) (g:All (GOk P) gl) (o:All (OOk P) ol) (x:All (XOk P) xl):EnvOk P e:=by
 refine ⟨fun f af h=>?_,fun f h hh=>?_,fun f h hh=>?_⟩
 ·rw [hG] at h
  obtain ⟨p,hp,rfl,rfl⟩:=NW h
  exact g.get p hp
 ·rw [hO] at hh
  obtain ⟨p,hp,rfl,rfl⟩:=NW hh
  exact Zfx (o.get p hp)
 ·rw [hX] at hh
  obtain ⟨p,hp,rfl,rfl⟩:=NW hh
  exact x.get p hp
noncomputable def RC (r:RV):Bool:=RV.rec false (fun v _=>BR.rec false true false (asBool v)) r
theorem Zb9 {r:RV}(h:RC r=true):∃ s',r=.ok (.bool true) s':=by
 cases r with
 | fail=>cases h
 | ok v s=>
  have h:(BR.rec false true false (asBool v):Bool)=true:=h
  cases hb:asBool v with
  | no=>rw [hb] at h;cases h
  | tt=>rw [L3 hb];exact ⟨s,rfl⟩
  | ff=>rw [hb] at h;cases h
end Go.AM
namespace Go.AM
def Fw (l:Nat) (s:St) (K:LoopState→Option Nat→Nat→AT→List Nat→AC→AC→Nat→Prop):Prop:=LP.rec False K (CP l s)
def Sv (l:Nat) (k:AV→St→Prop):EQ:=fun x _ s _=>
 Ex.rec (Fw l s fun _ _ fn tm ps asg body d=>k (.bool true) (s.put l (.loop .ready none fn tm ps asg body d)))
  (fun id=>Fw l s fun _ _ fn tm ps asg body d=>k (.bool false) (s.put l (.loop .done (some (id+1)) fn tm ps asg body d)))
  (Fw l s fun _ _ fn tm ps asg body d=>k (.bool false) (s.put l (.loop .done (some 0) fn tm ps asg body d))) x
def YI (e:Env) (l:Nat) (body:AC) (k:AV→St→Prop):EQ:=fun x t s ds=>
 Ex.rec (Fw l s fun st pend fn tm ps asg b d=>LoopState.rec (VE e body t (s.put l (.loop .busy pend fn tm ps asg b d)) (some l) ds (Sv l k)) False False False st) (fun _=>False) False x
def XT (e:Env) (l:Nat) (vs:List AV) (s:St) (k:AV→St→Prop):Prop:=
 Fw l s fun _ _ _ tm ps asg body _=>wB (Nat.beq (A6 vs) (A6 ps)) (VE e asg (K4 ps vs tm) s (some l) [] (YI e l body k)) False
theorem JT {l:Nat}{s:St}{K:LoopState→Option Nat→Nat→AT→List Nat→AC→AC→Nat→Prop}(h:Fw l s K):∃ a b c d e f g i,CP l s=.lp a b c d e f g i∧K a b c d e f g i:=by
 unfold Fw at h
 cases hq:CP l s with
 | no=>rw [hq] at h;exact h.elim
 | lp a b c d e f g i=>rw [hq] at h;exact ⟨a,b,c,d,e,f,g,i,rfl,h⟩
section
variable {P:Program}{e:Env}
variable {s:St}
theorem EExec.elim {c:AC}{t:AT}{rd:Option Nat}{ds:List Nat}{Q:EQ}(h:EExec e c t s rd ds Q):∃ n x t' s' ds',exec e n c t s rd ds=.ok x t' s' ds'∧Q x t' s' ds':=by
 unfold EExec at h;exact h
theorem ERound.mk {l:Nat}{vs:List AV}{k:AV→St→Prop}(h:XT e l vs s k):ERound e l vs s k:=by
 unfold XT at h
 obtain ⟨st,pend,fn,tm,ps,asg,body,d,hl,h⟩:=JT h
 have hb:Nat.beq (A6 vs) (A6 ps)=true:=by
  cases hq:Nat.beq (A6 vs) (A6 ps) with
  | true=>rfl
  | false=>rw [hq] at h;exact (show False from h).elim
 rw [hb] at h
 have h:VE e asg (K4 ps vs tm) s (some l) [] (YI e l body k):=h
 obtain ⟨n,x,t1,s1,ds1,h1,h⟩:=(NC h).elim
 cases x with
 | exit id=>exact (show False from h).elim
 | ret=>exact (show False from h).elim
 | normal=>
  obtain ⟨st1,pend1,fn1,tm1,ps1,asg1,b1,d1,hl1,h⟩:=JT (show Fw l s1 (fun st pend fn tm ps asg b d=>LoopState.rec (VE e body t1 (s1.put l (.loop .busy pend fn tm ps asg b d)) (some l) ds1 (Sv l k)) False False False st) from h)
  cases st1 with
  | busy=>exact (show False from h).elim
  | done=>exact (show False from h).elim
  | exhausted=>exact (show False from h).elim
  | ready=>
   obtain ⟨m,x2,t2,s2,ds2,h2,h⟩:=(NC (show VE e body t1 (s1.put l (.loop .busy pend1 fn1 tm1 ps1 asg1 b1 d1)) (some l) ds1 (Sv l k) from h)).elim
   have key:∃ v s',GN l (.ok x2 t2 s2 ds2)=.ok v s'∧k v s':=by
    cases x2 with
    | normal=>
     obtain ⟨a,b,c,dd,ee,f,g,i,hq,hk⟩:=JT (show Fw l s2 (fun _ _ fn tm ps asg body d=>k (.bool true) (s2.put l (.loop .ready none fn tm ps asg body d))) from h)
     refine ⟨_,_,?_,hk⟩
     show FC l .ready none true s2=_
     unfold FC;rw [hq]
    | exit id=>
     obtain ⟨a,b,c,dd,ee,f,g,i,hq,hk⟩:=JT (show Fw l s2 (fun _ _ fn tm ps asg body d=>k (.bool false) (s2.put l (.loop .done (some (id+1)) fn tm ps asg body d))) from h)
     refine ⟨_,_,?_,hk⟩
     show FC l .done (some (id+1)) false s2=_
     unfold FC;rw [hq]
    | ret=>
     obtain ⟨a,b,c,dd,ee,f,g,i,hq,hk⟩:=JT (show Fw l s2 (fun _ _ fn tm ps asg body d=>k (.bool false) (s2.put l (.loop .done (some 0) fn tm ps asg body d))) from h)
     refine ⟨_,_,?_,hk⟩
     show FC l .done (some 0) false s2=_
     unfold FC;rw [hq]
   obtain ⟨v,s',hre,hk⟩:=key
   unfold ERound
   refine ⟨max n m,v,s',?_,hk⟩
   unfold Ih
   rw [hl]
   show gd (Nat.beq (A6 vs) (A6 ps)) (LG (exec e (max n m)) l body (exec e (max n m) asg (K4 ps vs tm) s (some l) []))=_
   rw [hb,Gp (Nat.le_max_left n m) _ _ _ _ _ _ _ _ _ h1]
   show (LP.rec .fail (fun st pend fn tm ps asg b d=>LoopState.rec (GN l (exec e (max n m) body t1 (s1.put l (.loop .busy pend fn tm ps asg b d)) (some l) ds1)) .fail .fail .fail st) (CP l s1):RV)=_
   rw [hl1]
   show GN l (exec e (max n m) body t1 (s1.put l (.loop .busy pend1 fn1 tm1 ps1 asg1 b1 d1)) (some l) ds1)=_
   rw [Gp (Nat.le_max_right n m) _ _ _ _ _ _ _ _ _ h2]
   exact hre
end
mutual
def KU (r:Nat):AV→Bool
 | .ptr r' _=>Nat.beq r' r
 | .sl r' _ _ _=>Nat.beq r' r
 | .map r'=>Nat.beq r' r
 | .yld r'=>Nat.beq r' r
 | .fn _ a b=>Hl r a || Hl r b
 | .iface _ v=>KU r v
 | .agg l=>Hl r l
 | .tup l=>Hl r l
 | _=>false
def Hl (r:Nat):List AV→Bool
 | []=>false
 | v::l=>KU r v || Hl r l
end
section
variable {P:Program}{γ:Gam}
mutual
variable {r:Nat}
theorem NX:∀ (v:AV) {v':Value},KU r v=true→VR γ v v'→∃ L,γ r=some L
 | .ptr r' o,_,h,.ptr _ _ L e=>⟨L,by rw [← Zqf (show Nat.beq r' r=true from h)];exact e⟩
 | .sl r' o n (some c),_,h,.sl _ _ _ _ L e _=>⟨L,by rw [← Zqf (show Nat.beq r' r=true from h)];exact e⟩
 | .sl r' o n none,_,h,.slu _ _ _ _ L e _ _ _=>⟨L,by rw [← Zqf (show Nat.beq r' r=true from h)];exact e⟩
 | .map r',_,h,.map _ L e=>⟨L,by rw [← Zqf (show Nat.beq r' r=true from h)];exact e⟩
 | .yld r',_,h,.yld _ L e=>⟨L,by rw [← Zqf (show Nat.beq r' r=true from h)];exact e⟩
 | .fn f xs ys,_,h,.fn _ _ _ as bs a b=>by
  simp only [KU,Zry] at h
  rcases h with h|h
  ·exact JO xs h a
  ·exact JO ys h b
 | .iface t v,_,h,.iface _ _ v' e=>NX v h e
 | .agg l,_,h,.agg _ a e o=>JO l h e
 | .tup l,_,h,.tup _ a e=>JO l h e
 | .bool _,_,h,_=>by cases h
 | .int _ _,_,h,_=>by cases h
 | .str _,_,h,_=>by cases h
 | .nilp,_,h,_=>by cases h
 | .nils,_,h,_=>by cases h
 | .es,_,h,_=>by cases h
 | .ez,_,h,_=>by cases h
 | .nilm,_,h,_=>by cases h
 | .nilf,_,h,_=>by cases h
 | .nili,_,h,_=>by cases h
 | .any,_,h,_=>by cases h
 | .fz ..,_,h,_=>by cases h
 | .fp _,_,h,_=>by cases h
theorem JO:∀ (l:List AV) {m:List Value},Hl r l=true→All2 (VR γ) l m→∃ L,γ r=some L
 | [],_,h,_=>by cases h
 | v::l,_,h,.cons a b=>by
  simp only [Hl,Zry] at h
  rcases h with h|h
  ·exact NX v h a
  ·exact JO l h b
end
inductive Named (t:AT) (s:St):Nat→Prop
 | tmp {r:Nat}(i:Nat) (v:AV):t.get i=some v→KU r v=true→Named t s r
 | cell {r:Nat}(r' e:Nat) (cs:List AV) (i:Nat) (v:AV):Named t s r'→s.get r'=some (.row e cs)→cs[i]?=some v→KU r v=true→Named t s r
theorem Named.loc {t:AT}{s:St}{w:World}{tm:Array Value}(ht:TR γ t tm) (hs:Sim P γ s w) {r:Nat}(h:Named t s r):∃ L,γ r=some L:=by
 induction h with
 | tmp i v h1 h2=>
  obtain ⟨v',_,hv⟩:=ht i v h1
  exact NX v h2 hv
 | cell r' e cs i v _ h1 h2 h3 ih=>
  obtain ⟨L,hL⟩:=ih
  obtain ⟨c,e1,_,_,_,_,e6,_⟩:=hs.obj r' _ L h1 hL
  obtain ⟨v',_,hv,_⟩:=e6 i v h2
  exact NX v h3 hv
end
def OM (l fn:Nat) (tm:AT) (ps:List Nat) (asg body:AC) (d:Nat) (pend:Option Nat) (ds:List Nat) (t:AT) (s:St) (Q:EQ):Prop:=
 Option.rec (Q .normal t (s.put l (.loop .exhausted pend fn tm ps asg body d)) ds) (fun i=>Nat.rec (Q .ret t (s.put l (.loop .exhausted pend fn tm ps asg body d)) ds) (fun id _=>Q (.exit id) t (s.put l (.loop .exhausted pend fn tm ps asg body d)) ds) i) pend
def Kw (l:Nat) (ds:List Nat) (t:AT) (s:St) (Q:EQ):Prop:=
 Fw l s fun st pend fn tm ps asg body d=>LoopState.rec (OM l fn tm ps asg body d pend ds t s Q) False (OM l fn tm ps asg body d pend ds t s Q) (OM l fn tm ps asg body d pend ds t s Q) st
theorem Zbo {l:Nat}{ds:List Nat}{t:AT}{s:St}{Q:EQ}(h:Kw l ds t s Q):∃ x t' s' ds',IY l ds t s=.ok x t' s' ds'∧Q x t' s' ds':=by
 obtain ⟨st,pend,fn,tm,ps,asg,body,d,hl,h⟩:=JT h
 have fin:OM l fn tm ps asg body d pend ds t s Q→∃ x t' s' ds',JY l fn tm ps asg body d pend ds t s=.ok x t' s' ds'∧Q x t' s' ds':=by
  intro h
  cases pend with
  | none=>exact ⟨_,_,_,_,rfl,h⟩
  | some i=>cases i with
   | zero=>exact ⟨_,_,_,_,rfl,h⟩
   | succ id=>exact ⟨_,_,_,_,rfl,h⟩
 unfold IY
 rw [hl]
 cases st with
 | busy=>exact (show False from h).elim
 | ready=>exact fin h
 | done=>exact fin h
 | exhausted=>exact fin h
section
variable {P:Program}{γ:Gam}{s:St}{w:World}{t:AT}
variable {ds:List Nat}
theorem Zd2 {N m:Nat}{b:Option Nat}{γ0:Gam}{s0:St}{w0:World}{l:Nat}{L:Loc}{a:Act}{x:Ex}{t':AT}{s':St}{ds':List Nat}{v':Value}{R:Exit→Act→World→Prop}(hR:∀ ex a w,Di P γ0 s0 w0 N x t' s' ds' ex a w→R ex a w) (hN:N≤a.tmps.size) (ht:TR γ t a.tmps) (hs:Sim P γ s w) (hL:γ l=some L) (hd:DR γ ds a.defers) (hst:Stp γ0 s0 w0 γ s w)
 (h:IY l ds t s=.ok x t' s' ds'):rangePost (BP b) m P L.b R a (.returned v') w:=by
 unfold IY at h
 obtain ⟨st,pend,fn,tm,ps,asg,body,d,hg,h⟩:=OD h
 obtain ⟨lp,k1,k2,k3,_⟩:=hs.obj l _ L hg hL
 have hend:st≠.busy→(Instr.endLoop L.b).run P w=.ok lp.pending { w with heap:=w.heap.setIfInBounds L.b (.loop { lp with state:=.exhausted,pending:=lp.pending }) }:=by
  intro hb
  have:(lp.state == LoopState.busy)=false:=by rw [k2];cases st <;> first|rfl|exact absurd rfl hb
  simp only [Instr.endLoop,Zqj,JD k1,Zqc,this]
  simp only [Bool.false_eq_true,if_false,Zqj,Zqp,Zqc,Nh _ k1]
 obtain ⟨hst2,hs2⟩:=N5 (st':=.exhausted) (pend':=pend) (pc':=lp.pending) hs hg hL k1 k3
 have fin:st≠.busy→JY l fn tm ps asg body d pend ds t s=.ok x t' s' ds'→rangePost (BP b) m P L.b R a (.returned v') w:=by
  intro hb hk
  refine ⟨_,_,hend hb,?_⟩
  have hpost:Di P γ0 s0 w0 N x t (s.put l (.loop .exhausted pend fn tm ps asg body d)) ds (MJ x) a { w with heap:=w.heap.setIfInBounds L.b (.loop { lp with state:=.exhausted,pending:=lp.pending }) }:=
   ⟨rfl,hN,γ,hst.trans hst2,hs2,ht,hd⟩
  cases pend with
  | none=>
   cases hk
   rw [show lp.pending=none from k3] at hpost ⊢
   exact hR _ _ _ hpost
  | some i=>
   cases i with
   | zero=>
    cases hk
    rw [show lp.pending=some .ret from k3] at hpost ⊢
    exact wpIn_ret (hR _ _ _ hpost)
   | succ id=>
    cases hk
    rw [show lp.pending=some (.exit id) from k3] at hpost ⊢
    exact wpIn_exit (hR _ _ _ hpost)
 cases st with
 | ready=>exact fin (by simp) h
 | busy=>cases h
 | done=>exact fin (by simp) h
 | exhausted=>exact fin (by simp) h
theorem OC {k f:Nat}{first cap:List AV}{g:AO}{ps:List Nat}{asg body:AC}{Q:EQ}(hB:FG P f) (hg:ev g t=.some (.fn f first cap)) (hmap:∀ r,r<s.next→Named t s r)
 (hC:C1 P f (first++.yld (s.next+1)::cap) ((s.alloc .defd).alloc (.loop .ready none 0 t ps asg body s.next)) (fun _ s'=>Kw (s.next+1) (s.next::ds) t s' Q)):W P k none (.rng g ps asg body) t s ds Q:=by
 intro N c γ w a b γ0 s0 w0 m h1 h2 h3 h4 h5 h6 h7 h8 h9 h10
 obtain ⟨y,qs,c1,c2,rfl,ey,rfl,e1,e2,hps⟩:=(Gr h1:∃ y qs c1 c2,c=.rangeFunc y qs c1 c2∧Af y=some g∧qs.toList=ps∧AZ P N c1=some asg∧AZ P N c2=some body∧∀ p ∈ ps,p<N)
 cases h5
 refine wpIn_rangeFunc fun fn _=>?_
 have hgR:=OL h3 ey hg
 obtain ⟨hst1,hs1⟩:=h4.alloc .defd (.deferred (some [])) 0 0 (by show (w.heap.push _)[w.heap.size]?=_;simp)
 have hn1:(s.alloc .defd).next=s.next+1:=C9 _ _
 have hle1:=hst1.le
 obtain ⟨γ1,hγ1⟩:∃ γ1,γ1=γ1:=⟨γ,rfl⟩
 obtain ⟨hst2,hs2⟩:=hs1.alloc (.loop .ready none 0 t qs.toList asg body s.next) (.loop { state:=.ready,pending:=none,fn:=fn,tmps:=a.tmps,params:=qs,assign:=c1,body:=c2,defers:=w.heap.size }) 0 0
  ⟨{ state:=.ready,pending:=none,fn:=fn,tmps:=a.tmps,params:=qs,assign:=c1,body:=c2,defers:=w.heap.size },by show ((w.heap.push _).push _)[(w.heap.push _).size]?=_;rw [Array.getElem?_push,Zqd rfl],rfl,rfl,(h3.mono hle1).mono (Fp (hs1.nx _ (Zqu _))),rfl,⟨N,h2,e1,e2,hps⟩,⟨w.heap.size,0,0,0⟩,(Fp (hs1.nx _ (Zqu _))).loc _ _ (B3 _ _ _),rfl⟩
 have hgR2:=(hgR.mono hle1).mono hst2.le
 rw [hn1] at hst2 hs2 hgR2
 generalize hv:a.eval y=vy at hgR2
 cases hgR2 with
 | fn _ _ _ as bs a1 a2=>
  obtain ⟨fn',cc,f1,f2,f3⟩:=hB
  have f3' : fn'.name ≠ "runtime.NumGoroutine" := by simpa using f3
  have hall:∀ r,r<((s.alloc .defd).alloc (.loop .ready none 0 t qs.toList asg body s.next)).next→∃ L,(ext (ext γ s.next ⟨w.heap.size,0,0,0⟩) (s.next+1) ⟨(w.alloc (.deferred (some []))).heap.size,0,0,0⟩) r=some L:=by
   intro r hr
   rw [C9,hn1] at hr
   rcases Nat.lt_or_ge r s.next with hlt|hge
   ·obtain ⟨L,hL⟩:=(hmap r hlt).loc h3 h4
    exact ⟨L,hst2.le.loc _ _ (hle1.loc _ _ hL)⟩
   ·rcases Nat.eq_or_lt_of_le hge with rfl|hgt
    ·exact ⟨_,hst2.le.loc _ _ (B3 _ _ _)⟩
    ·have:r=s.next+1:=by omega
     subst this
     exact ⟨_,B3 _ _ _⟩
  have hargs:All2 (VR (ext (ext γ s.next ⟨w.heap.size,0,0,0⟩) (s.next+1) ⟨(w.alloc (.deferred (some []))).heap.size,0,0,0⟩)) (first++.yld (s.next+1)::cap) (as.toList++(Value.func (.yield (w.alloc (.deferred (some []))).heap.size) #[] #[]::bs.toList)):=
   a1.append (.cons (.yld _ _ (B3 _ _ _)) a2)
  have hcalls:=hC _ (as.toList++(Value.func (.yield (w.alloc (.deferred (some []))).heap.size) #[] #[]::bs.toList)) _ (m-1) hall hargs hs2
  have heq:(as.toList++(Value.func (.yield (w.alloc (.deferred (some []))).heap.size) #[] #[]::bs.toList)).toArray=as++#[Value.func (.yield (w.alloc (.deferred (some []))).heap.size) #[] #[]]++bs:=by simp
  rw [heq] at hcalls
  refine ⟨(w.alloc (.deferred (some []))).heap.size,[{ target:=.collected w.heap.size,args:=#[] }],((w.alloc (.deferred (some []))).alloc (.loop { state:=.ready,pending:=none,fn:=fn,tmps:=a.tmps,params:=qs,assign:=c1,body:=c2,defers:=w.heap.size })),{ target:=.fn (.func f) bs,args:=as++#[Value.func (.yield (w.alloc (.deferred (some []))).heap.size) #[] #[]] },((w.alloc (.deferred (some []))).alloc (.loop { state:=.ready,pending:=none,fn:=fn,tmps:=a.tmps,params:=qs,assign:=c1,body:=c2,defers:=w.heap.size })),f,as++#[Value.func (.yield (w.alloc (.deferred (some []))).heap.size) #[] #[]]++bs,_,?_,?_,fun f' _=>Ik none f',?_,Lz none m,Nm (CallsIn.mono hcalls ?_)⟩
  ·rw [Qz]
   simp only [Instr.enterLoop,Zqj,HP,Zqc,Zqp]
  ·have hmp:(#[Operand.const (.func (.yield (w.alloc (.deferred (some []))).heap.size) #[] #[])]:Array Operand).map a.eval=#[.func (.yield (w.alloc (.deferred (some []))).heap.size) #[] #[]]:=by simp [Act.eval]
   show (Deferred.ofValue (a.eval y) ((#[Operand.const (.func (.yield (w.alloc (.deferred (some []))).heap.size) #[] #[])]:Array Operand).map a.eval)).run P _=_
   rw [hmp,hv];rfl
  ·simp [invoke,callFunc,f1,f3',f2]
  ·rintro _ w3 ⟨v,s3,hout,v',γ3,rfl,hst3,hs3,_⟩
   obtain ⟨x,t',s',ds',hgo,hq⟩:=Zbo hout
   refine Zd2 (L:=⟨(w.alloc (.deferred (some []))).heap.size,0,0,0⟩) (a:={ a with defers:=[{ target:=.collected w.heap.size,args:=#[] }]++a.defers }) (γ0:=γ0) (s0:=s0) (w0:=w0) (N:=N) (fun ex a w hp=>⟨x,t',s',ds',hq,hp⟩) h2 (((h3.mono hle1).mono hst2.le).mono hst3.le) hs3 (hst3.le.loc _ _ (B3 _ _ _)) ?_ (((h7.trans hst1).trans hst2).trans hst3) hgo
   have hdr:DR (ext γ s.next ⟨w.heap.size,0,0,0⟩) (s.next::ds) ([{ target:=.collected w.heap.size,args:=#[] }]++a.defers):=.cons ⟨_,B3 _ _ _,rfl⟩ (h6.mono hle1)
   exact (hdr.mono hst2.le).mono hst3.le
end
@[reducible] def RowOkK (k n:Nat) (all:List Nat) (s:St):List AObj→List Nat→Prop
 | [],[]=>True
 | o::l,r::rs=>(Dx k n o=true∧s.get r=some (Bv (nm all) o))∧RowOkK k n all s l rs
 | _,_=>False
structure AbsK (k:Nat) (t:AT) (s:St) (tl:List (Nat×AV)) (os:List AObj) (rs:List Nat):Prop where
 fix:rs.take k=List.range k
 nd:rs.Nodup
 tmp:TmpOk os.length rs t tl
 row:RowOkK k os.length rs s os rs
variable {k:Nat}{s:St}
theorem RowOkK.get {n:Nat}{all:List Nat}:∀ {l:List AObj}{rs:List Nat},RowOkK k n all s l rs→l.length=rs.length∧∀ (j:Nat) o,l[j]?=some o→∃ r,rs[j]?=some r∧Dx k n o=true∧s.get r=some (Bv (nm all) o)
 | [],[],_=>⟨rfl,fun j o h=>by simp at h⟩
 | [],_::_,h=>h.elim
 | _::_,[],h=>h.elim
 | o::l,r::rs,h=>by
  obtain ⟨h1,h2⟩:=RowOkK.get h.2
  refine ⟨by simp [h1],fun j o' hj=>?_⟩
  cases j with
  | zero=>simp at hj;subst hj;exact ⟨r,by simp,h.1⟩
  | succ j=>simpa using h2 j o' (by simpa using hj)
theorem AbsK.ren {t:AT}{tl:List (Nat×AV)}{os:List AObj}{rs:List Nat}(h:AbsK k t s tl os rs):Ren k (nm rs) t s [] (A5 tl) (Al St0 os) []:=by
 obtain ⟨hl,hr⟩:=h.row.get
 have hk:k≤rs.length:=by
  have:=congrArg List.length h.fix
  simp at this;omega
 have hj:∀ j,j<k→rs[j]?=some j:=by
  intro j hj
  have:(rs.take k)[j]?=(List.range k)[j]?:=by rw [h.fix]
  rw [Zrm,Zqd hj,List.getElem?_range hj] at this
  exact this
 refine ⟨fun r hr=>EO (hj r hr),by rw [Ek];omega,?_,?_,?_,⟨rfl,by simp⟩⟩
 ·intro i j hi hj e
  rw [Ek] at hi hj
  have e1:=EO (Zp9 (l:=rs) (i:=i) (by omega))
  have e2:=EO (Zp9 (l:=rs) (i:=j) (by omega))
  rw [e1,e2] at e
  exact (List.getElem_inj h.nd).1 e
 ·intro i v hv
  obtain ⟨p,hp,rfl,rfl⟩:=QV hv
  rw [Ek]
  exact h.tmp.get p hp
 ·intro r o ho
  have:=JL os St0 (Zqs r) (fun _ _=>rfl) ho
  have hz:r-St0.next=r:=Nat.sub_zero r
  rw [hz] at this
  obtain ⟨q,hq,hb,hg⟩:=hr r o this
  rw [Ek,EO hq]
  exact ⟨(Zqa.1 this).1,hb,hg⟩
section
variable {P:Program}{rd:Option Nat}{ac:AC}{t:AT}{s:St}{Q:EQ}{k:Nat}
theorem WC {α:Type}(tl:α→List (Nat×AV)) (os:α→List AObj) (μ:α→Nat) (I:α→Prop) (x0:α) (rs:List Nat) (h0:I x0) (ha:AbsK k t s (tl x0) (os x0) rs)
 (hr:∀ x,I x→W P k rd ac (A5 (tl x)) (Al St0 (os x)) [] (I4 (fun t s ds=>ds=[]∧∃ x',I x'∧μ x'<μ x∧∃ rs,AbsK k t s (tl x') (os x') rs) Q)):W P k rd (.loop ac) t s [] Q:=by
 refine W.loop (fun n t s ds=>ds=[]∧∃ x,n=μ x∧I x∧∃ rs,AbsK k t s (tl x) (os x) rs) (μ x0) ⟨rfl,x0,rfl,h0,rs,ha⟩ ?_
 rintro n t s ds ⟨rfl,x,rfl,hi,rs,ha⟩
 refine W.ren ha.ren ((hr x hi).mono ?_)
 intro y t s ds hq
 cases y with
 | normal=>
  obtain ⟨rfl,x',hi',hm,rs,ha⟩:=(show ds=[]∧∃ x',I x'∧μ x'<μ x∧∃ rs,AbsK k t s (tl x') (os x') rs from hq)
  exact ⟨μ x',hm,rfl,x',rfl,hi',rs,ha⟩
 | exit id=>exact hq
 | ret=>exact hq
end
noncomputable def Ag (R:List AV→AV→Prop):Ov:=fun args s=>open Classical in if h:∃ u,R args u then .ok (Classical.choose h) s else .fail
variable {P:Program}{f:Nat}
theorem VY {R:List AV→AV→Prop}(hb:FG P f) (h:∀ args u,R args u→∀ s,C P f args s (fun v s'=>v=u∧s'=s)):OvOk P f (Ag R):=by
 refine ⟨hb,fun args s v s' hh=>?_⟩
 unfold Ag at hh
 split at hh
 ·rename_i hx
  cases hh
  exact h args _ (Zro hx) s
 ·cases hh
variable {e:Env}{vs:List AV}{s:St}{k:AV→St→Prop}
theorem ESc.rel {R:List AV→AV→Prop}(hi:Con e f (Ag R)) (hx:∃ u,R vs u) (hk:∀ u,R vs u→k u s):ESc e f vs s k:=by
 refine ESc.ov hi (v:=Classical.choose hx) (s':=s) ?_ (hk _ (Zro hx))
 unfold Ag
 rw [dif_pos hx]
theorem ECall.rel {R:List AV→AV→Prop}(hi:Con e f (Ag R)) (hx:∃ u,R vs u) (hk:∀ u,R vs u→k u s):ECall e f vs s k:=by
 refine ECall.ov hi.O (v:=Classical.choose hx) (s':=s) ?_ (hk _ (Zro hx))
 unfold Ag
 rw [dif_pos hx]
theorem C.abs {args:List AV}{u:AV}{l:List AObj}(h:C P f args St0 (fun v s'=>∃ rs,Abs (T.set .lf v 0) s' [(0,u)] l rs)):C P f args St0 (fun v s'=>v=u∧s'=Al St0 l):=by
 intro γ vals w m hA hs
 refine CallsIn.mono (h γ vals w m hA hs) ?_
 rintro e w' ⟨v,s',⟨rs,hab⟩,v',γ',rfl,hst,hsim,hv⟩
 have hT:TR γ' (T.set .lf v 0) #[v']:=by
  intro i x hx
  rcases FB hx with ⟨rfl,rfl⟩|⟨_,h⟩
  ·exact ⟨v',rfl,hv⟩
  ·cases h
 obtain ⟨γ2,g1,g2,_,g4⟩:=hab.ren.sim (D:=[]) hT hsim .nil hst rfl hs.nx (fun r hr=>absurd hr (Nat.not_lt_zero r))
 obtain ⟨w2,e1,e2⟩:=g1 0 u rfl
 cases e1
 exact ⟨u,_,⟨rfl,rfl⟩,v',γ2,rfl,g4,g2,e2⟩
end Go.AM
namespace Go.AM
def Tells (P:Program) (k:Nat) (t:AT) (s:St) (ds:List Nat) (t2:AT) (s2:St) (ds2:List Nat):Prop:=
 ∀ (γ:Gam) (w:World) (tm:Array Value) (D:List Deferred) (γ0:Gam) (s0:St) (w0:World),TR γ t tm→Sim P γ s w→DR γ ds D→Stp γ0 s0 w0 γ s w→s0.next=k→(∀ r,k≤r→γ0 r=none)→(∀ r,r<k→∃ L,γ0 r=some L)→
  ∃ γ2,TR γ2 t2 tm∧Sim P γ2 s2 w∧DR γ2 ds2 D∧Stp γ0 s0 w0 γ2 s2 w
section
variable {P:Program}{k:Nat}{rd:Option Nat}{ac:AC}{t:AT}{s:St}{ds:List Nat}{t2:AT}{s2:St}{ds2:List Nat}{Q:EQ}
theorem Tells.trans {t3:AT}{s3:St}{ds3:List Nat}(h:Tells P k t s ds t2 s2 ds2) (h':Tells P k t2 s2 ds2 t3 s3 ds3):Tells P k t s ds t3 s3 ds3:=by
 intro γ w tm D γ0 s0 w0 h1 h2 h3 h4 h5 h6 h7
 obtain ⟨γ2,q1,q2,q3,q4⟩:=h γ w tm D γ0 s0 w0 h1 h2 h3 h4 h5 h6 h7
 exact h' γ2 w tm D γ0 s0 w0 q1 q2 q3 q4 h5 h6 h7
theorem Ren.tells {ρ:Nat→Nat}(h:Ren k ρ t s ds t2 s2 ds2):Tells P k t s ds t2 s2 ds2:=fun γ w tm D γ0 s0 w0 h1 h2 h3 h4 h5 h6 h7=>h.sim h1 h2 h3 h4 h5 h6 h7
variable {tl:List (Nat×AV)}{os:List AObj}{rs:List Nat}
theorem Abs.tells (h:Abs t s tl os rs):Tells P 0 t s [] (A5 tl) (Al St0 os) []:=h.ren.tells
theorem AbsK.tells (h:AbsK k t s tl os rs):Tells P k t s [] (A5 tl) (Al St0 os) []:=h.ren.tells
theorem W.tells (h:Tells P k t s ds t2 s2 ds2) (hw:W P k rd ac t2 s2 ds2 Q):W P k rd ac t s ds Q:=by
 intro N c γ w a b γ0 s0 w0 m h1 h2 h3 h4 h5 h6 h7 h8 h9 h10
 obtain ⟨γ2,hT,hS,hD,hP⟩:=h γ w a.tmps a.defers γ0 s0 w0 h3 h4 h6 h7 h8 h9 h10
 exact hw N c γ2 w a b γ0 s0 w0 m h1 h2 hT hS h5 hD hP h8 h9 h10
theorem DZ {α:Type}(tl:α→List (Nat×AV)) (os:α→List AObj) (μ:α→Nat) (I:α→Prop) (x0:α) (h0:I x0) (ha:Tells P k t s [] (A5 (tl x0)) (Al St0 (os x0)) [])
 (hr:∀ x,I x→W P k rd ac (A5 (tl x)) (Al St0 (os x)) [] (I4 (fun t s ds=>ds=[]∧∃ x',I x'∧μ x'<μ x∧Tells P k t s [] (A5 (tl x')) (Al St0 (os x')) []) Q)):W P k rd (.loop ac) t s [] Q:=by
 refine W.loop (fun n t s ds=>ds=[]∧∃ x,n=μ x∧I x∧Tells P k t s [] (A5 (tl x)) (Al St0 (os x)) []) (μ x0) ⟨rfl,x0,rfl,h0,ha⟩ ?_
 rintro n t s ds ⟨rfl,x,rfl,hi,ha⟩
 refine W.tells ha ((hr x hi).mono ?_)
 intro y t s ds hq
 cases y with
 | normal=>
  obtain ⟨rfl,x',hi',hm,ha⟩:=(show ds=[]∧∃ x',I x'∧μ x'<μ x∧Tells P k t s [] (A5 (tl x')) (Al St0 (os x')) [] from hq)
  exact ⟨μ x',hm,rfl,x',rfl,hi',ha⟩
 | exit id=>exact hq
 | ret=>exact hq
end
mutual
def CI (n:Nat) (cs:List AV):AV→AV
 | .ptr r o=>cond (Nat.beq r n) (.fp (cs.drop o)) (.ptr r o)
 | .sl r o m c=>cond (Nat.beq r n) (.fz m none (cs.drop o)) (.sl r o m c)
 | .fn f a b=>.fn f (CE n cs a) (CE n cs b)
 | .iface t v=>.iface t (CI n cs v)
 | .agg l=>.agg (CE n cs l)
 | .tup l=>.tup (CE n cs l)
 | .map r=>cond (Nat.beq r n) .any (.map r)
 | .yld r=>cond (Nat.beq r n) .any (.yld r)
 | v=>v
def CE (n:Nat) (cs:List AV):List AV→List AV
 | []=>[]
 | v::l=>CI n cs v::CE n cs l
end
mutual
variable {n:Nat}{cs:List AV}
theorem FF:∀ (v:AV),hf v=true→CI n cs v=v
 | .ptr ..,h=>by cases h
 | .sl ..,h=>by cases h
 | .map ..,h=>by cases h
 | .yld ..,h=>by cases h
 | .fn f a b,h=>by simp only [hf,Zqb] at h;simp only [CI];rw [GJ a h.1,GJ b h.2]
 | .iface t v,h=>by simp only [CI];rw [FF v h]
 | .agg l,h=>by simp only [CI];rw [GJ l h]
 | .tup l,h=>by simp only [CI];rw [GJ l h]
 | .bool _,_|.int _ _,_|.str _,_|.nilp,_|.nils,_|.es,_|.ez,_|.nilm,_|.nilf,_|.nili,_|.any,_|.fz _ _ _,_|.fp _,_=>rfl
theorem GJ:∀ (l:List AV),hfs l=true→CE n cs l=l
 | [],_=>rfl
 | v::l,h=>by simp only [hfs,Zqb] at h;simp only [CE];rw [FF v h.1,GJ l h.2]
end
variable {n:Nat}{cs:List AV}
theorem Ni:∀ (l m:List AV),CE n cs (l++m)=CE n cs l++CE n cs m
 | [],m=>rfl
 | v::l,m=>by simp only [List.cons_append,CE];rw [Ni l m]
theorem TD:∀ (l:List AV),(CE n cs l).length=l.length
 | []=>rfl
 | v::l=>by simp only [CE,Zq3];rw [TD l]
theorem Ul:∀ {l:List AV}{i:Nat}{v:AV},(CE n cs l)[i]?=some v→∃ u,l[i]?=some u∧v=CI n cs u
 | [],i,v,h=>by simp [CE] at h
 | x::l,i,v,h=>by
  simp only [CE] at h
  cases i with
  | zero=>simp at h;exact ⟨x,by simp,h.symm⟩
  | succ i=>simpa using Ul (l:=l) (by simpa using h)
def SA (n:Nat) (cs:List AV):List (AV×AV×Nat)→List (AV×AV×Nat)
 | []=>[]
 | (a,b,c)::l=>(CI n cs a,CI n cs b,c)::SA n cs l
def EE (n:Nat) (cs:List AV):AObj→AObj
 | .row e l=>.row e (CE n cs l)
 | .map es c=>.map (SA n cs es) c
 | .iter m b se l=>cond (Nat.beq m n) .dead (.iter m b se l)
 | o=>o
def FN (n:Nat) (cs:List AV):List AObj→List AObj
 | []=>[]
 | o::l=>EE n cs o::FN n cs l
theorem TE:∀ (l:List AObj),(FN n cs l).length=l.length
 | []=>rfl
 | v::l=>by simp only [FN,Zq3];rw [TE l]
theorem Um:∀ {l:List AObj}{i:Nat}{v:AObj},(FN n cs l)[i]?=some v→∃ u,l[i]?=some u∧v=EE n cs u
 | [],i,v,h=>by simp [FN] at h
 | x::l,i,v,h=>by
  simp only [FN] at h
  cases i with
  | zero=>simp at h;exact ⟨x,by simp,h.symm⟩
  | succ i=>simpa using Um (l:=l) (by simpa using h)
def MI (n:Nat) (cs:List AV):List (Nat×AV)→List (Nat×AV)
 | []=>[]
 | p::l=>(p.1,CI n cs p.2)::MI n cs l
theorem Ns (o:AObj) (h:BC (EE n cs o)=true):BC o=true:=by
 cases o <;> first|rfl|exact h
section
variable {P:Program}{γ γ2:Gam}{n:Nat}{cs:List AV}
mutual
theorem Kv (hz:∀ b c,γ.fz b=some c→γ2.fz b=some c) (hl:∀ r,r≠n→∀ L,γ r=some L→γ2 r=some L)
 (hc:∀ L,γ n=some L→L.o=0∧∃ c:Array Value,γ2.fz L.b=some c∧∃ vs:List Value,(∀ (j:Nat) (u:Value),vs[j]?=some u→c[j]?=some u)∧(∀ u ∈ vs,u.oneCell'=true)∧All2 (VR γ2) cs vs) (hf:hfs cs=true)
 (hm:∀ L v,γ n=some L→v=Value.map (some L.b)∨v=Value.func (.yield L.b) #[] #[]→v.oneCell'=true):∀ (v:AV) {v':Value},VR γ v v'→VR γ2 (CI n cs v) v'
 | .bool b,_,h=>by cases h;exact .bool _
 | .int k n,_,h=>by cases h;exact .int _ _
 | .str l,_,h=>by cases h;rename_i s e;exact .str _ s e
 | .ptr r o,_,h=>by
  cases h with
  | ptr _ _ L e=>
   show VR γ2 (cond (Nat.beq r n) (.fp (cs.drop o)) (.ptr r o)) _
   cases hb:Nat.beq r n with
   | false=>exact .ptr r o L (hl r (Zre hb) L e)
   | true=>
    have:=Zqf hb;subst this
    obtain ⟨h0,c,h1,vs,h2,h3,h4⟩:=hc L e
    rw [h0,Zqo]
    exact .fp _ (vs.drop o) L.b o c h1 (fun j u hu=>h2 (o+j) u (by rwa [Zqk] at hu)) (fun u hu=>h3 u (Zrl hu)) (h4.drop o) (NJ hf o)
 | .nilp,_,h=>by cases h;exact .nilp
 | .sl r o m c,_,h=>by
  show VR γ2 (cond (Nat.beq r n) (.fz m none (cs.drop o)) (.sl r o m c)) _
  cases hb:Nat.beq r n with
  | false=>
   have hne:=Zre hb
   cases h with
   | sl _ _ _ c L e a=>exact .sl r o m c _ (hl r hne _ e) a
   | slu _ _ _ c L e a b d=>exact .slu r o m c _ (hl r hne _ e) a b d
  | true=>
   have:=Zqf hb;subst this
   have key:∀ (L:Loc) (cc:Nat),γ r=some L→m≤cc→VR γ2 (.fz m none (cs.drop o)) (.slice (some ⟨L.b,L.o+o,none⟩) m cc):=by
    intro L cc e hnc
    obtain ⟨h0,cl,h1,vs,h2,h3,h4⟩:=hc L e
    rw [h0,Zqo]
    exact .fz m none _ (vs.drop o) L.b o cc cl h1 (fun j u hu=>h2 (o+j) u (by rwa [Zqk] at hu)) (fun u hu=>h3 u (Zrl hu)) (h4.drop o) hnc (fun k hk=>by cases hk) (NJ hf o)
   cases h with
   | sl _ _ _ c L e a=>exact key L c e a
   | slu _ _ _ c L e a b d=>exact key L c e a
 | .nils,_,h=>by cases h;exact .nils
 | .es,_,h=>by cases h;exact .es _ _
 | .ez,_,h=>by cases h;exact .ez _
 | .map r,_,h=>by
  cases h with
  | map _ L e=>
   show VR γ2 (cond (Nat.beq r n) .any (.map r)) _
   cases hb:Nat.beq r n with
   | false=>exact .map r L (hl r (Zre hb) L e)
   | true=>
    have:=Zqf hb;subst this
    exact .any _ (hm L _ e (.inl rfl))
 | .nilm,_,h=>by cases h;exact .nilm
 | .fn f xs ys,_,h=>by
  cases h with
  | fn _ _ _ as bs a b=>exact .fn f _ _ as bs (LV hz hl hc hf hm xs a) (LV hz hl hc hf hm ys b)
 | .yld l,_,h=>by
  cases h with
  | yld _ L e=>
   show VR γ2 (cond (Nat.beq l n) .any (.yld l)) _
   cases hb:Nat.beq l n with
   | false=>exact .yld l L (hl l (Zre hb) L e)
   | true=>
    have:=Zqf hb;subst this
    exact .any _ (hm L _ e (.inr rfl))
 | .nilf,_,h=>by cases h;exact .nilf
 | .iface t v,_,h=>by
  cases h with
  | iface _ _ v' e=>exact .iface t _ v' (Kv hz hl hc hf hm v e)
 | .nili,_,h=>by cases h;exact .nili
 | .agg l,_,h=>by
  cases h with
  | agg _ a e o=>exact .agg _ a (LV hz hl hc hf hm l e) o
 | .tup l,_,h=>by
  cases h with
  | tup _ a e=>exact .tup _ a (LV hz hl hc hf hm l e)
 | .any,_,h=>by cases h;rename_i e;exact .any _ e
 | .fz m c l,_,h=>Hi hz (.fz m c l) rfl h
 | .fp l,_,h=>Hi hz (.fp l) rfl h
theorem LV (hz:∀ b c,γ.fz b=some c→γ2.fz b=some c) (hl:∀ r,r≠n→∀ L,γ r=some L→γ2 r=some L)
 (hc:∀ L,γ n=some L→L.o=0∧∃ c:Array Value,γ2.fz L.b=some c∧∃ vs:List Value,(∀ (j:Nat) (u:Value),vs[j]?=some u→c[j]?=some u)∧(∀ u ∈ vs,u.oneCell'=true)∧All2 (VR γ2) cs vs) (hf:hfs cs=true)
 (hm:∀ L v,γ n=some L→v=Value.map (some L.b)∨v=Value.func (.yield L.b) #[] #[]→v.oneCell'=true):∀ (l:List AV) {m:List Value},All2 (VR γ) l m→All2 (VR γ2) (CE n cs l) m
 | [],_,h=>by cases h;exact .nil
 | v::l,_,h=>by
  cases h with
  | cons a b=>exact .cons (Kv hz hl hc hf hm v a) (LV hz hl hc hf hm l b)
end
theorem Zd9 {k:Nat}(hk:k≤n) (hz:∀ b c,γ.fz b=some c→γ2.fz b=some c) (hl:∀ r,r≠n→∀ L,γ r=some L→γ2 r=some L)
 (hc:∀ L,γ n=some L→L.o=0∧∃ c:Array Value,γ2.fz L.b=some c∧∃ vs:List Value,(∀ (j:Nat) (u:Value),vs[j]?=some u→c[j]?=some u)∧(∀ u ∈ vs,u.oneCell'=true)∧All2 (VR γ2) cs vs) (hf:hfs cs=true)
 (hm:∀ L v,γ n=some L→v=Value.map (some L.b)∨v=Value.func (.yield L.b) #[] #[]→v.oneCell'=true) {L:Loc}{o:AObj}{hp:Array Obj}(hb:Dx k (n+1) o=true) (h:ObjR P γ L o hp):ObjR P γ2 L (EE n cs o) hp:=by
 cases o with
 | row e l=>
  obtain ⟨c,h1,h2,h3,h4,h5,h6,h7⟩:=h
  refine ⟨c,h1,h2,h3,h4,by rw [TD];exact h5,fun i v hv=>?_,h7⟩
  obtain ⟨u,hu,rfl⟩:=Ul hv
  obtain ⟨v',a,b,d⟩:=h6 i u hu
  exact ⟨v',a,Kv hz hl hc hf hm u b,d⟩
 | dead=>trivial
 | map es clock=>
  obtain ⟨ms,h1,h2⟩:=h
  refine ⟨ms,h1,?_⟩
  have:∀ (es:List (AV×AV×Nat)) (ms:List MapEntry),All2 (fun (x:AV×AV×Nat) (m:MapEntry)=>VR γ x.1 m.key∧VR γ x.2.1 m.val∧m.born=x.2.2) es ms→All2 (fun (x:AV×AV×Nat) (m:MapEntry)=>VR γ2 x.1 m.key∧VR γ2 x.2.1 m.val∧m.born=x.2.2) (SA n cs es) ms:=by
   intro es
   induction es with
   | nil=>intro ms h;cases h;exact .nil
   | cons x es ih=>
    intro ms h
    obtain ⟨a,b,c⟩:=x
    cases h with
    | cons h1 h2=>exact .cons ⟨Kv hz hl hc hf hm a h1.1,Kv hz hl hc hf hm b h1.2.1,h1.2.2⟩ (ih _ h2)
  exact this es _ h2
 | loop st pend fn tm ps asg body d=>
  obtain ⟨lp,h1,h2,h3,h4,h5,h6,D,h8,h10⟩:=h
  simp only [Dx,Zqb] at hb
  have hd:d<k:=by simpa using hb.2
  have hlk:∀ r,r<k→∀ L,γ r=some L→γ2 r=some L:=fun r hr L e=>hl r (by omega) L e
  exact ⟨lp,h1,h2,h3,fun i v hv=>(let ⟨v',a,b⟩:=h4 i v hv;⟨v',a,Im (ρ:=fun r=>r) hz hlk v (Rt hb.1 hv) (by rw [NZ (n:=k) (fun _ _=>rfl) v (Rt hb.1 hv)];exact b)⟩),h5,h6,D,hl d (by omega) D h8,h10⟩
 | defd=>exact h
 | iter m b se l=>
  obtain ⟨h0,M,h1,h2⟩:=h
  show ObjR P γ2 L (cond (Nat.beq m n) .dead (.iter m b se l)) hp
  cases hb:Nat.beq m n with
  | true=>trivial
  | false=>exact ⟨h0,M,hl m (Zre hb) M h1,h2⟩
end
variable {o:AObj}
theorem JG (os:List AObj) {r:Nat}(h:(Al St0 os).get r=some o):os[r]?=some o:=by
 have:=JL os St0 (Zqs r) (fun _ _=>rfl) h
 have hz:r-St0.next=r:=Nat.sub_zero r
 rwa [hz] at this
theorem Z5 {α:Type}{x:α}:∀ {n k:Nat},k<2^n-1→(T.sing x n k).get k=some x:=by
 intro n
 induction n with
 | zero=>intro k h;simp at h
 | succ n ih=>
  intro k h
  cases k with
  | zero=>rfl
  | succ k=>
   have hk:Nat.div k 2<2^n-1:=by
    show k / 2<2^n-1
    rw [Nat.pow_succ] at h;omega
   change T.get (Bool.rec (T.nd none .lf (T.sing x n (Nat.div k 2))) (T.nd none (T.sing x n (Nat.div k 2)) .lf) (Nat.beq (Nat.mod k 2) 0)) (k+1)=some x
   cases hb:Nat.beq (Nat.mod k 2) 0
   ·change (Bool.rec (T.get (T.sing x n (Nat.div k 2)) (Nat.div k 2)) (T.get T.lf (Nat.div k 2)) (Nat.beq (Nat.mod k 2) 0):Option α)=some x
    rw [hb];exact ih hk
   ·change (Bool.rec (T.get T.lf (Nat.div k 2)) (T.get (T.sing x n (Nat.div k 2)) (Nat.div k 2)) (Nat.beq (Nat.mod k 2) 0):Option α)=some x
    rw [hb];exact ih hk
theorem Us {α:Type}{x:α}:∀ {t:T α}{k:Nat},k<2^64-1→(t.set x k).get k=some x:=by
 intro t
 induction t with
 | lf=>intro k h;exact Z5 h
 | nd v l r il ir=>
  intro k h
  cases k with
  | zero=>rfl
  | succ k=>
   have hk:Nat.div k 2<2^64-1:=by
    show k / 2<2^64-1
    omega
   change T.get (Bool.rec (T.nd v l (r.set x (Nat.div k 2))) (T.nd v (l.set x (Nat.div k 2)) r) (Nat.beq (Nat.mod k 2) 0)) (k+1)=some x
   cases hb:Nat.beq (Nat.mod k 2) 0
   ·change (Bool.rec (T.get (r.set x (Nat.div k 2)) (Nat.div k 2)) (T.get l (Nat.div k 2)) (Nat.beq (Nat.mod k 2) 0):Option α)=some x
    rw [hb];exact ir hk
   ·change (Bool.rec (T.get r (Nat.div k 2)) (T.get (l.set x (Nat.div k 2)) (Nat.div k 2)) (Nat.beq (Nat.mod k 2) 0):Option α)=some x
    rw [hb];exact il hk
theorem TB (s:St) (o:AObj) (h:s.next<2^64-1):(s.alloc o).get s.next=some o:=by
 cases s;exact Us h
theorem UX:∀ (l:List AObj) (s:St) {i:Nat}{o:AObj},s.next+l.length<2^64→l[i]?=some o→(Al s l).get (s.next+i)=some o
 | [],s,i,o,_,h=>by simp at h
 | x::l,s,i,o,hn,h=>by
  rw [Zq3] at hn
  rw [Al]
  cases i with
  | zero=>
   simp at h;subst h
   rw [IM l _ (by rw [C9];omega)]
   exact TB s x (by omega)
  | succ i=>
   have:=UX l (s.alloc x) (i:=i) (o:=o) (by rw [C9];omega) (by simpa using h)
   rw [C9] at this
   rw [show s.next+(i+1)=s.next+1+i by omega];exact this
theorem Qq (l:List AObj) {i:Nat}(hn:l.length<2^64) (h:l[i]?=some o):(Al St0 l).get i=some o:=by
 have:=UX l St0 (i:=i) (o:=o) (by show 0+_<_;omega) h
 rwa [show St0.next+i=i from Zqo i] at this
def K2:List (Nat×AV)→Bool
 | []=>true
 | p::l=>Nat.blt p.1 18446744073709551615 && K2 l
variable {n:Nat}{cs:List AV}
theorem Vm:∀ {l:List (Nat×AV)}{i:Nat}{v:AV},K2 l=true→(A5 (MI n cs l)).get i=some v→∃ u,(A5 l).get i=some u∧v=CI n cs u
 | [],i,v,_,h=>by cases h
 | p::l,i,v,hb,h=>by
  simp only [K2,Zqb] at hb
  rcases FB h with ⟨rfl,rfl⟩|⟨hne,h⟩
  ·exact ⟨p.2,Us (by have:=(Zrr (x:=p.1) (y:=18446744073709551615)) ▸ hb.1;omega),rfl⟩
  ·obtain ⟨u,h1,h2⟩:=Vm hb.2 h
   exact ⟨u,TH hne h1,h2⟩
variable {P:Program}{k e:Nat}{tl:List (Nat×AV)}{os:List AObj}{ds:List Nat}
theorem UI (hds:∀ d ∈ ds,d<os.length) (hf:hfs cs=true) (hk:k≤os.length) (hb:∀ o ∈ os,Dx k (os.length+1) o=true)
 (hal:∀ o ∈ os.take k,BC o=true) (hn:os.length+1<2^64) (ht:K2 tl=true):
 Tells P k (A5 tl) (Al St0 (os++[.row e cs])) ds (A5 (MI os.length cs tl)) (Al St0 (FN os.length cs os)) ds:=by
 intro γ w tm D γ0 s0 w0 hT hS hD hP h8 h9 h10
 have hlen:(os++[AObj.row e cs]).length<2^64:=by simpa using hn
 have gn:(Al St0 (os++[.row e cs])).get os.length=some (.row e cs):=Qq _ hlen (by simp)
 have gr:∀ r o,os[r]?=some o→(Al St0 (os++[.row e cs])).get r=some o:=fun r o h=>Qq _ hlen (by rw [Zqt (Zqa.1 h).1];exact h)
 have nx1:(Al St0 (os++[.row e cs])).next=os.length+1:=by rw [Ek];simp
 have nx2:(Al St0 (FN os.length cs os)).next=os.length:=by rw [Ek,TE]
 let fz2:Nat→Option (Array Value):=fun b=>match γ os.length with
  | some L=>if b=L.b then (match w.heap[b]? with|some (.cells c _ _)=>some c|_=>none) else γ.fz b
  | none=>γ.fz b
 let γ2:Gam:=⟨fun r=>if r<os.length then γ r else none,fz2⟩
 have g2:∀ r,r<os.length→γ2 r=γ r:=fun r hr=>Zqd hr
 have g2s:∀ r L,γ2 r=some L→r<os.length∧γ r=some L:=fun r L e=>by
  by_cases hr:r<os.length
  ·rw [g2 r hr] at e;exact ⟨hr,e⟩
  ·have:γ2 r=none:=Zqh hr
   rw [this] at e;cases e
 have rowN:∀ L,γ os.length=some L→γ.fz L.b=none:=fun L hL=>hS.fzr _ _ L gn rfl hL
 have fz2e:∀ L,γ os.length=some L→∀ b,fz2 b=if b=L.b then (match w.heap[b]? with|some (.cells c _ _)=>some c|_=>none) else γ.fz b:=by
  intro L hL b
  show (match γ os.length with
  | some L=>if b=L.b then (match w.heap[b]? with|some (.cells c _ _)=>some c|_=>none) else γ.fz b
  | none=>γ.fz b)=_
  rw [hL]
 have fz2n:γ os.length=none→∀ b,fz2 b=γ.fz b:=by
  intro hL b
  show (match γ os.length with
  | some L=>if b=L.b then (match w.heap[b]? with|some (.cells c _ _)=>some c|_=>none) else γ.fz b
  | none=>γ.fz b)=_
  rw [hL]
 have hz:∀ b c,γ.fz b=some c→γ2.fz b=some c:=by
  intro b c hc
  show fz2 b=some c
  cases hL:γ os.length with
  | none=>rw [fz2n hL];exact hc
  | some L=>
   rw [fz2e L hL]
   by_cases hbl:b=L.b
   ·subst hbl;rw [rowN L hL] at hc;cases hc
   ·rw [Zqh hbl];exact hc
 have hfz2:∀ b c,fz2 b=some c→γ.fz b=some c∨(∃ L,γ os.length=some L∧b=L.b∧∃ e fr,w.heap[b]?=some (.cells c e fr)):=by
  intro b c hc
  cases hL:γ os.length with
  | none=>rw [fz2n hL] at hc;exact .inl hc
  | some L=>
   rw [fz2e L hL] at hc
   by_cases hbl:b=L.b
   ·rw [Zqd hbl] at hc
    split at hc
    ·rename_i c' t fr hh;cases hc;exact .inr ⟨L,rfl,hbl,t,fr,hh⟩
    ·cases hc
   ·rw [Zqh hbl] at hc;exact .inl hc
 have hbn:∀ L,γ os.length=some L→w0.heap.size≤L.b:=by
  intro L hL
  have h0:γ0 os.length=none:=h9 _ hk
  rcases (hP.new _ L hL h0).2 with h|⟨r0,L0,e0,e1⟩
  ·exact h
  ·exfalso
   have hr0:r0<k:=Nat.lt_of_not_le fun hle=>by rw [h9 r0 hle] at e0;cases e0
   have hr1:r0<os.length:=by omega
   have hget:=gr r0 _ (Zp9 hr1)
   have ha:=hal os[r0] (Zr3.2 ⟨r0,by rw [Zrm,Zqd hr0];exact Zp9 hr1⟩)
   exact hS.inj r0 os.length _ _ L0 L hget gn ha rfl (hP.le.loc _ _ e0) hL (by omega) e1
 -- the frozen row
 have hc:∀ L,γ os.length=some L→L.o=0∧∃ c:Array Value,γ2.fz L.b=some c∧∃ vs:List Value,(∀ (j:Nat) (u:Value),vs[j]?=some u→c[j]?=some u)∧(∀ u ∈ vs,u.oneCell'=true)∧All2 (VR γ2) cs vs:=by
  intro L hL
  obtain ⟨c,e1,e2,e3,e4,e5,e6,e7⟩:=hS.obj _ _ L gn hL
  refine ⟨e2,c,?_,c.toList.take cs.length,?_,?_,?_⟩
  ·show fz2 L.b=some c
   rw [fz2e L hL,Zqd rfl,e1]
  ·intro j u hj
   rw [Zrm] at hj
   split at hj
   ·simpa using hj
   ·cases hj
  ·intro u hu;exact e7 u (Zrg hu)
  ·refine Gt hz cs hf (Ey (by simp;omega) ?_)
   intro i v v' hv hv'
   obtain ⟨v1,h1,h2,_⟩:=e6 i v hv
   rw [Zrm,Zqd (Zqa.1 hv).1] at hv'
   have:c[i]?=some v':=by simpa using hv'
   rw [h1] at this;cases this;exact h2
 have hl:∀ r,r≠os.length→∀ L,γ r=some L→γ2 r=some L:=by
  intro r hr L e
  have:r<os.length:=by
   refine Nat.lt_of_not_le fun hle=>?_
   have:=hS.nx r (by rw [nx1];omega)
   rw [this] at e;cases e
  rw [g2 r this];exact e
 have hm:∀ L v,γ os.length=some L→v=Value.map (some L.b)∨v=Value.func (.yield L.b) #[] #[]→v.oneCell'=true:=by
  rintro L v _ (rfl|rfl) <;> rfl
 have bk:∀ r o,(Al St0 (FN os.length cs os)).get r=some o→r<os.length∧∃ o',(Al St0 (os++[.row e cs])).get r=some o'∧Dx k (os.length+1) o'=true∧o=EE os.length cs o':=by
  intro r o ho
  obtain ⟨u,h1,h2⟩:=Um (JG _ ho)
  exact ⟨(Zqa.1 h1).1,u,gr r u h1,hb u (Zqv h1),h2⟩
 have hlt0:∀ r L,γ0 r=some L→r<k:=fun r L e=>Nat.lt_of_not_le fun hk'=>by rw [h9 r hk'] at e;cases e
 refine ⟨γ2,?_,⟨?_,?_,?_,?_,?_,?_,?_⟩,?_,⟨⟨?_,?_⟩,?_,?_,hP.size,hP.os,hP.tape,hP.output,hP.blk,?_,?_⟩⟩
 ·intro i v hv
  obtain ⟨u,h1,rfl⟩:=Vm ht hv
  obtain ⟨v',e1,e2⟩:=hT i u h1
  exact ⟨v',e1,Kv hz hl hc hf hm u e2⟩
 ·intro r o L ho hL
  obtain ⟨hr,o',h1,h2,rfl⟩:=bk r o ho
  exact Zd9 hk hz hl hc hf hm h2 (hS.obj r o' L h1 (g2s r L hL).2)
 ·intro r r' o o' L L' ho ho' ha ha' hL hL' hne
  obtain ⟨hr,p,h1,h2,rfl⟩:=bk r o ho
  obtain ⟨hr',p',h1',h2',rfl⟩:=bk r' o' ho'
  exact hS.inj r r' p p' L L' h1 h1' (Ns _ ha) (Ns _ ha') (g2s r L hL).2 (g2s r' L' hL').2 hne
 ·intro r L hL;exact hS.lt r L (g2s r L hL).2
 ·intro r hr;rw [nx2] at hr;exact Zqh (by omega)
 ·intro r o ho;rw [nx2];exact (bk r o ho).1
 ·intro b c hbc
  rcases hfz2 b c hbc with h|⟨_,_,_,h⟩
  ·exact hS.fzc b c h
  ·exact h
 ·intro r o L ho ha hL
  obtain ⟨hr,p,h1,h2,rfl⟩:=bk r o ho
  have hL':=(g2s r L hL).2
  show fz2 L.b=none
  cases hq:fz2 L.b with
  | none=>rfl
  | some c=>
   exfalso
   rcases hfz2 _ c hq with h|⟨Ln,hLn,hbe,_⟩
   ·rw [hS.fzr r p L h1 (Ns _ ha) hL'] at h;cases h
   ·exact hS.inj r os.length p _ L Ln h1 gn (Ns _ ha) rfl hL' hLn (by omega) hbe
 ·have hD2:∀ (l:List Nat) (D':List Deferred),(∀ d ∈ l,d<os.length)→DR γ l D'→DR γ2 l D':=by
   intro l
   induction l with
   | nil=>intro D' _ h;cases h;exact .nil
   | cons d l ih=>
    intro D' hd h
    cases h with
    | cons h1 h2=>
     obtain ⟨L,e1,e2⟩:=h1
     exact .cons ⟨L,(g2 d (hd d (by simp))).trans e1,e2⟩ (ih _ (fun x hx=>hd x (by simp [hx])) h2)
  exact hD2 ds D hds hD
 ·intro r L e0
  rw [g2 r (by have:=hlt0 r L e0;omega)];exact hP.le.loc r L e0
 ·intro b c e0;exact hz b c (hP.le.fz b c e0)
 ·intro r L e1 e0
  have:=hP.new r L (g2s r L e1).2 e0
  exact this
 ·rw [h8,nx2];exact hk
 ·intro r e0 hr
  obtain ⟨L,hL⟩:=h10 r (by omega)
  rw [hL] at e0;cases e0
 ·intro b c e1 e0
  rcases hfz2 b c e1 with h|⟨L,hL,hbe,_⟩
  ·exact hP.fzn b c h e0
  ·rw [hbe];exact hbn L hL
variable {t:AT}{s:St}{rs:List Nat}
theorem Abs.toK (h:Abs t s tl os rs):AbsK 0 t s tl os rs:=by
 refine ⟨rfl,h.nd,h.tmp,?_⟩
 have:∀ (n:Nat) (all:List Nat) (l:List AObj) (rs:List Nat),RowOk n all s l rs→RowOkK 0 n all s l rs:=by
  intro n all l
  induction l with
  | nil=>intro rs h;cases rs with
   | nil=>trivial
   | cons=>exact h
  | cons o l ih=>intro rs h;cases rs with
   | nil=>exact h
   | cons r rs=>exact ⟨h.1,ih rs h.2⟩
 exact this _ _ _ _ h.row
def Ml:Nat→List AObj→Bool
 | 0,_=>true
 | _+1,[]=>true
 | k+1,o::l=>BC o && Ml k l
theorem Q0:∀ {k:Nat}{l:List AObj},Ml k l=true→∀ o ∈ l.take k,BC o=true
 | 0,l,_,o,ho=>by simp at ho
 | k+1,[],_,o,ho=>by simp at ho
 | k+1,x::l,h,o,ho=>by
  simp only [Ml,Zqb] at h
  rcases Zrj.1 (by simpa using ho) with rfl|ho
  ·exact h.1
  ·exact Q0 h.2 o ho
variable {tl2:List (Nat×AV)}{os2:List AObj}
theorem AbsK.frz (h:AbsK k t s tl (os++[.row e cs]) rs) (hn:os.length=n) (hf:hfs cs=true) (hk:Nat.ble k n=true)
 (hal:Ml k os=true) (hl:Nat.blt n 1000000=true) (ht:K2 tl=true) (e1:MI n cs tl=tl2) (e2:FN n cs os=os2):
 Tells P k t s [] (A5 tl2) (Al St0 os2) []:=by
 subst hn e1 e2
 refine h.tells.trans (UI (fun d hd=>by simp at hd) hf (Zqx hk) ?_ (Q0 hal) (by have:=(Zrr (x:=os.length) (y:=1000000)) ▸ hl;omega) ht)
 intro o ho
 obtain ⟨i,hi⟩:=Zr3.1 ho
 obtain ⟨r,_,hb,_⟩:=h.row.get.2 i o (by rw [Zqt (Zqa.1 hi).1];exact hi)
 simpa using hb
structure AbsD (k:Nat) (t:AT) (s:St) (ds:List Nat) (tl:List (Nat×AV)) (os:List AObj) (rs:List Nat) (ds2:List Nat):Prop where
 a:AbsK k t s tl os rs
 d:ds=ds2.map (nm rs)
 l:∀ d ∈ ds2,d<os.length
variable {ds2:List Nat}
theorem AbsD.tells (h:AbsD k t s ds tl os rs ds2):Tells P k t s ds (A5 tl) (Al St0 os) ds2:=by
 have hr:=h.a.ren
 exact Ren.tells ⟨hr.id,hr.le,hr.inj,hr.tmp,hr.obj,⟨h.d,fun d hd=>by rw [Ek];exact h.l d hd⟩⟩
theorem AbsD.frz (h:AbsD k t s ds tl (os++[.row e cs]) rs ds2) (hn:os.length=n) (hd:∀ d ∈ ds2,d<n) (hf:hfs cs=true) (hk:Nat.ble k n=true)
 (hal:Ml k os=true) (hl:Nat.blt n 1000000=true) (ht:K2 tl=true) (e1:MI n cs tl=tl2) (e2:FN n cs os=os2):
 Tells P k t s ds (A5 tl2) (Al St0 os2) ds2:=by
 subst hn e1 e2
 refine h.tells.trans (UI hd hf (Zqx hk) ?_ (Q0 hal) (by have:=(Zrr (x:=os.length) (y:=1000000)) ▸ hl;omega) ht)
 intro o ho
 obtain ⟨i,hi⟩:=Zr3.1 ho
 obtain ⟨r,_,hb,_⟩:=h.a.row.get.2 i o (by rw [Zqt (Zqa.1 hi).1];exact hi)
 simpa using hb
end Go.AM
namespace Go.AM
variable {n:Int}
theorem Zkk (h:0≤n∧n<4294967296):IntKind.u32.wrap n=n:=by
 rw [← Ez]
 obtain ⟨m,rfl⟩:∃ m:Nat,n=Int.ofNat m:=⟨n.toNat,by show n=(n.toNat:Int);omega⟩
 have hm:m<4294967296:=by have:Int.ofNat m=(m:Int):=rfl;omega
 show Int.ofNat (m % 4294967296)=_
 rw [Zr5 hm]
theorem Vd (n:Int):IntKind.u32.wrap n=n % 4294967296:=by
 show IntKind.wrap .u32 n=_
 simp [IntKind.wrap,IntKind.bits,IntKind.signed]
theorem Zor (h:0≤n∧n<256):IntKind.u8.wrap n=n:=by
 rw [← Ez]
 obtain ⟨m,rfl⟩:∃ m:Nat,n=Int.ofNat m:=⟨n.toNat,by show n=(n.toNat:Int);omega⟩
 have hm:m<256:=by have:Int.ofNat m=(m:Int):=rfl;omega
 show Int.ofNat (m % 256)=_
 rw [Zr5 hm]
theorem Zkp {v:AV}{b:Bool}{x y z:Prop}(hv:v=.bool b) (h1:b=true→y) (h2:b=false→z):(BR.rec (motive:=fun _=>Prop) x y z (asBool v)):=by
 subst hv
 cases b with
 | true=>exact h1 rfl
 | false=>exact h2 rfl
section
variable {t:AT}{s:St}{k:AV→St→Prop}{x y:AO}
variable {es n:Nat}{l:List AV}{v:AV}
theorem AA (hx:ev x t=.some v) (h:Sl es n l v) (hk:k (.int .i64 (n:Int)) s):EPrim (.len x) t s k:=Nx hx h hk
theorem Lm {r o n:Nat}{c:Option Nat}(hx:ev x t=.some (.sl r o n c)) (hk:k (.int .i64 (n:Int)) s):EPrim (.len x) t s k:=Zav hx hk
theorem JJ {n:Nat}{c:Option Nat}{l:List AV}(hx:ev x t=.some (.fz n c l)) (hk:k (.int .i64 (n:Int)) s):EPrim (.len x) t s k:=by
 refine EPrim.mk (v:=.int .i64 (n:Int)) (s':=s) (fun e rec=>?_) hk
 show wth x t _=_;unfold wth;rw [hx];rfl
theorem TK (hx:ev x t=.some .nils) (hk:k (.int .i64 0) s):EPrim (.len x) t s k:=by
 refine EPrim.mk (v:=.int .i64 0) (s':=s) (fun e rec=>?_) hk
 show wth x t _=_;unfold wth;rw [hx];rfl
theorem N0 {q q':IntKind}{a:Int}(hx:ev x t=.some (.int q a)) (hw:q'.wrap a=a) (hk:k (.int q' a) s):EPrim (.cvi q' x) t s k:=by
 refine EPrim.mk (v:=.int q' a) (s':=s) (fun e rec=>?_) hk
 show wth x t _=_;unfold wth;rw [hx]
 show RV.ok (.int q' (Er q' a)) s=_
 rw [Ez,hw]
theorem TM {a b:Int}(hx:ev x t=.some (.int .u32 a)) (hy:ev y t=.some (.int .u32 b)) (hk:k (.int .u32 ((a+b) % 4294967296)) s):EPrim (.bin .add x y) t s k:=
 EPrim.add hx hy (by rw [Vd];exact hk)
theorem TJ {a b:Int}(hx:ev x t=.some (.int .u32 a)) (hy:ev y t=.some (.int .u32 b)) (hk:k (.int .u32 ((a-b) % 4294967296)) s):EPrim (.bin .sub x y) t s k:=
 EPrim.sub hx hy (by rw [Vd];exact hk)
variable {a:Int}{q:IntKind}
theorem Zaw (hx:ev x t=.some v) (hs:Sl es n l v) (hy:ev y t=.some (.int q a)) (h0:0≤a) (h:a<n) (hk:k (.fp (l.drop (a.toNat*es))) s):EPrim (.ixs es x y) t s k:=by
 obtain ⟨m,rfl⟩:∃ m:Nat,a=Int.ofNat m:=⟨a.toNat,by show a=(a.toNat:Int);omega⟩
 exact Cr hx hs hy (by have:Int.ofNat m=(m:Int):=rfl;omega) hk
variable {r o:Nat}
theorem HD {c:Option Nat}(hx:ev x t=.some (.sl r o n c)) (hy:ev y t=.some (.int q a)) (h0:0≤a) (h:a<n) (hk:k (.ptr r (o+a.toNat*es)) s):EPrim (.ixs es x y) t s k:=by
 obtain ⟨m,rfl⟩:∃ m:Nat,a=Int.ofNat m:=⟨a.toNat,by show a=(a.toNat:Int);omega⟩
 exact GH hx hy (by have:Int.ofNat m=(m:Int):=rfl;omega) hk
theorem Ny (hx:ev x t=.some (.ptr r o)) (hy:ev y t=.some (.int q a)) (h0:0≤a) (h:a<n) (hk:k (.ptr r (o+a.toNat*es)) s):EPrim (.ixa n es x y) t s k:=by
 obtain ⟨m,rfl⟩:∃ m:Nat,a=Int.ofNat m:=⟨a.toNat,by show a=(a.toNat:Int);omega⟩
 exact Nz hx hy (by have:Int.ofNat m=(m:Int):=rfl;omega) hk
theorem Uz {neg a b:Bool}(hx:ev x t=.some (.bool a)) (hy:ev y t=.some (.bool b)) (hk:k (.bool (D1 neg (a == b))) s):EPrim (.eqb 0 neg x y) t s k:=by
 refine EPrim.mk (v:=.bool (D1 neg (a == b))) (s':=s) (fun e rec=>?_) hk
 show wth x t _=_;unfold wth;rw [hx]
 show wth y t _=_;unfold wth;rw [hy];rfl
theorem Uy {ks:List Nat}{neg:Bool}{a b:List AV}{c:Bool}(hx:ev x t=.some (.agg a)) (hy:ev y t=.some (.agg b)) (h:FZ ks a b=some c) (hk:k (.bool (D1 neg c)) s):EPrim (.eqf ks neg x y) t s k:=by
 refine EPrim.mk (v:=.bool (D1 neg c)) (s':=s) (fun e rec=>?_) hk
 show wth x t _=_;unfold wth;rw [hx]
 show wth y t _=_;unfold wth;rw [hy]
 show (Option.rec .fail (fun c=>.ok (.bool (D1 neg c)) s) (FZ ks a b):RV)=_
 rw [h]
theorem GI {bs:List Nat}(hx:ev x t=.some v) (h:Sl 1 n (Ab bs) v) (hb:∀ b ∈ bs,b<256) (hk:k (.str bs) s):EPrim (.b2s x) t s k:=by
 have hbo:∀ {bs:List Nat},(∀ b ∈ bs,b<256)→Cs (Ab bs)=some bs:=by
  intro bs
  induction bs with
  | nil=>intro _;rfl
  | cons b bs ih=>
   intro h
   show (Bool.rec none (Option.rec none (fun r=>some (b::r)) (Cs (Ab bs))) (Nat.blt b 256):Option (List Nat))=_
   rw [ih (fun x hx=>h x (by simp [hx])),show Nat.blt b 256=true by simpa using h b (by simp)]
 refine EPrim.mk (v:=.str bs) (s':=s) (fun e rec=>?_) hk
 show wth x t _=_;unfold wth;rw [hx]
 rcases h with ⟨rfl,rfl,h⟩|⟨rfl,rfl,h⟩|⟨c,rfl,hl⟩
 ·have:bs=[]:=List.map_eq_nil_iff.1 h
  subst this;rfl
 ·have:bs=[]:=List.map_eq_nil_iff.1 h
  subst this;rfl
 ·show (Option.rec .fail (fun cs=>Option.rec .fail (fun b=>.ok (.str b) s) (Cs cs)) (Bg n (Ab bs)):RV)=_
  rw [Fg (by omega),Zqi (by omega)]
  show (Option.rec .fail (fun b=>.ok (.str b) s) (Cs (Ab bs)):RV)=_
  rw [hbo hb]
variable {b:List Nat}
theorem Nj {a:List Nat}(hx:ev x t=.some (.str a)) (hy:ev y t=.some (.str b)) (h1:a≠b→k (.bool true) s) (h2:a=b→k (.bool false) s):EPrim (.bin .neq x y) t s k:=by
 refine DJ hx hy (v:=.bool (!EW a b)) rfl ?_
 rw [LQ]
 by_cases h:a=b
 ·rw [show (a == b)=true by simpa using h];exact h2 h
 ·rw [show (a == b)=false by simpa using h];exact h1 h
theorem Zh {a:List Nat}(hx:ev x t=.some (.str a)) (hy:ev y t=.some (.str b)) (h1:a=b→k (.bool true) s) (h2:a≠b→k (.bool false) s):EPrim (.bin .eql x y) t s k:=by
 refine DJ hx hy (v:=.bool (EW a b)) rfl ?_
 rw [LQ]
 by_cases h:a=b
 ·rw [show (a == b)=true by simpa using h];exact h1 h
 ·rw [show (a == b)=false by simpa using h];exact h2 h
end
end Go.AM
namespace Go.AM
variable {P:Program}{f:Nat}
theorem Da {R:List AV→AV→Prop}(hb:FG P f) (h:∀ args u,R args u→hfs args=true∧AM.hf u=true∧C P f args St0 (fun v s'=>Frz s' v u)):OvOk P f (Ag R):=
 VY hb fun args u hR s=>(h args u hR).elim fun ha h=>RY ha h.1 h.2 s
structure Fam (α:Type) where
 ok:α→Prop
 enc:α→List AV
 out:α→AV
 inj:∀ x y,ok x→ok y→enc x=enc y→out x=out y
noncomputable def Fam.O {α:Type}(F:Fam α):Ov:=Ag (fun args u=>∃ x,F.ok x∧args=F.enc x∧u=F.out x)
variable {e:Env}{s:St}{k:AV→St→Prop}{u:AV}
theorem ESc.fam {α:Type}(F:Fam α) (hi:Con e f F.O) (x:α) (hx:F.ok x) (hu:F.out x=u) (hk:k u s):ESc e f (F.enc x) s k:=by
 refine ESc.rel hi ⟨_,x,hx,rfl,rfl⟩ ?_
 rintro u' ⟨y,hy,e,rfl⟩
 rw [← F.inj x y hx hy e,hu];exact hk
theorem ECall.fam {α:Type}(F:Fam α) (hi:Con e f F.O) (x:α) (hx:F.ok x) (hu:F.out x=u) (hk:k u s):ECall e f (F.enc x) s k:=by
 refine ECall.rel hi ⟨_,x,hx,rfl,rfl⟩ ?_
 rintro u' ⟨y,hy,e,rfl⟩
 rw [← F.inj x y hx hy e,hu];exact hk
theorem Cx {α:Type}{F:Fam α}(hb:FG P f) (h:∀ x,F.ok x→hfs (F.enc x)=true∧AM.hf (F.out x)=true∧C P f (F.enc x) St0 (fun v s'=>Frz s' v (F.out x))):OvOk P f F.O:=by
 refine Da hb ?_
 rintro args u ⟨x,hx,rfl,rfl⟩
 exact h x hx
variable {t:AT}{x y:AO}{a b:Int}
theorem w7 (hx:ev x t=.some (.int .i64 a)) (hy:ev y t=.some (.int .i64 b)) (h:-9223372036854775808≤a+b∧a+b≤9223372036854775807) (hk:k (.int .i64 (a+b)) s):EPrim (.bin .add x y) t s k:=N1 hx hy h hk
abbrev w1:=@Bb
abbrev w2:=@Nw
abbrev w3:=@Ux
abbrev w4:=@DF
abbrev w5:=@HI
abbrev w6:=@JI
abbrev w8:=@Qr
abbrev w9:=@Cl
abbrev w10:=@TM
abbrev w11:=@TJ
abbrev w12:=@IJ
abbrev w13:=@HH
abbrev w14:=@N0
abbrev w15:=@Uz
abbrev w16:=@TK
abbrev w17:=@JJ
abbrev w18:=@Lm
abbrev w19:=@Zkp
variable {q:IntKind}
theorem v1 (h1:a<b→k (.bool true) s) (h2:b≤a→k (.bool false) s) (hx:ev x t=.some (.int q a):=by rfl) (hy:ev y t=.some (.int q b):=by rfl):EPrim (.bin .lss x y) t s k:=Bb hx hy h1 h2
theorem v2 (h1:a≤b→k (.bool true) s) (h2:b<a→k (.bool false) s) (hx:ev x t=.some (.int q a):=by rfl) (hy:ev y t=.some (.int q b):=by rfl):EPrim (.bin .leq x y) t s k:=Nw hx hy h1 h2
theorem v3 (h1:b<a→k (.bool true) s) (h2:a≤b→k (.bool false) s) (hx:ev x t=.some (.int q a):=by rfl) (hy:ev y t=.some (.int q b):=by rfl):EPrim (.bin .gtr x y) t s k:=Ux hx hy h1 h2
theorem v4 (h1:b≤a→k (.bool true) s) (h2:a<b→k (.bool false) s) (hx:ev x t=.some (.int q a):=by rfl) (hy:ev y t=.some (.int q b):=by rfl):EPrim (.bin .geq x y) t s k:=DF hx hy h1 h2
theorem v5 (h1:a=b→k (.bool true) s) (h2:a≠b→k (.bool false) s) (hx:ev x t=.some (.int q a):=by rfl) (hy:ev y t=.some (.int q b):=by rfl):EPrim (.bin .eql x y) t s k:=HI hx hy h1 h2
theorem v6 (h1:a≠b→k (.bool true) s) (h2:a=b→k (.bool false) s) (hx:ev x t=.some (.int q a):=by rfl) (hy:ev y t=.some (.int q b):=by rfl):EPrim (.bin .neq x y) t s k:=JI hx hy h1 h2
theorem v7 (hk:k (.int .i64 (a+b)) s) (hx:ev x t=.some (.int .i64 a):=by rfl) (hy:ev y t=.some (.int .i64 b):=by rfl) (h:-9223372036854775808≤a+b∧a+b≤9223372036854775807:=by omega):EPrim (.bin .add x y) t s k:=N1 hx hy h hk
theorem v8 (hk:k (.int .i64 (a-b)) s) (hx:ev x t=.some (.int .i64 a):=by rfl) (hy:ev y t=.some (.int .i64 b):=by rfl) (h:-9223372036854775808≤a-b∧a-b≤9223372036854775807:=by omega):EPrim (.bin .sub x y) t s k:=Qr hx hy h hk
theorem v9 (hk:k (.int .i64 (a*b)) s) (hx:ev x t=.some (.int .i64 a):=by rfl) (hy:ev y t=.some (.int .i64 b):=by rfl) (h:-9223372036854775808≤a*b∧a*b≤9223372036854775807:=by omega):EPrim (.bin .mul x y) t s k:=Cl hx hy h hk
theorem C6 (hk:k (.int .u32 ((a+b) % 4294967296)) s) (hx:ev x t=.some (.int .u32 a):=by rfl) (hy:ev y t=.some (.int .u32 b):=by rfl):EPrim (.bin .add x y) t s k:=TM hx hy hk
theorem C5 (hk:k (.int .u32 ((a-b) % 4294967296)) s) (hx:ev x t=.some (.int .u32 a):=by rfl) (hy:ev y t=.some (.int .u32 b):=by rfl):EPrim (.bin .sub x y) t s k:=TJ hx hy hk
theorem An (hk:k (.bool false) s) (hx:ev x t=.some (.bool true):=by rfl):EPrim (.un .not x) t s k:=IJ hx hk
theorem As (hk:k (.bool true) s) (hx:ev x t=.some (.bool false):=by rfl):EPrim (.un .not x) t s k:=HH hx hk
theorem Cj (hk:k (.int .i64 a) s) (hx:ev x t=.some (.int q a):=by rfl) (hw:IntKind.i64.wrap a=a:=by exact i64_in (by omega)):EPrim (.cvi .i64 x) t s k:=N0 hx hw hk
theorem CG (hk:k (.int .u32 a) s) (hx:ev x t=.some (.int q a):=by rfl) (hw:IntKind.u32.wrap a=a:=by exact Zkk (by omega)):EPrim (.cvi .u32 x) t s k:=N0 hx hw hk
theorem CU (hk:k (.int .u8 a) s) (hx:ev x t=.some (.int q a):=by rfl) (hw:IntKind.u8.wrap a=a:=by exact Zor (by omega)):EPrim (.cvi .u8 x) t s k:=N0 hx hw hk
theorem Cp {neg a b:Bool}(hk:k (.bool (D1 neg (a == b))) s) (hx:ev x t=.some (.bool a):=by rfl) (hy:ev y t=.some (.bool b):=by rfl):EPrim (.eqb 0 neg x y) t s k:=Uz hx hy hk
theorem CK (hk:k (.int .i64 0) s) (hx:ev x t=.some .nils:=by rfl):EPrim (.len x) t s k:=TK hx hk
variable {n:Nat}{c:Option Nat}{l:List AV}
theorem CX (hk:k (.int .i64 (n:Int)) s) (hx:ev x t=.some (.fz n c l):=by rfl):EPrim (.len x) t s k:=JJ hx hk
theorem BY {r o:Nat}(hk:k (.int .i64 (n:Int)) s) (hx:ev x t=.some (.sl r o n c):=by rfl):EPrim (.len x) t s k:=Lm hx hk
variable {v:AV}
theorem Ai {es:Nat}(h:Sl es n l v) (hk:k (.int .i64 (n:Int)) s) (hx:ev x t=.some v:=by rfl):EPrim (.len x) t s k:=AA hx h hk
theorem Ap {k:AV→Prop}(hk:k v) (h:l[0]?=some v:=by rfl):EHead l k:=EHead.mk h hk
section
variable {t:AT}{s:St}{k:AV→St→Prop}{x y:AO}
variable {el es m:Nat}{v c:AV}{cs:List AV}
theorem TL (hx:ev x t=.some .nils) (hy:ev y t=.some v) (hv:CS es v s=some (c::cs)) (hm':(c::cs).length=m*es) (he:0<es) (h1:m≤1000000) (hk:k (.sl s.next 0 m none) (s.alloc (.row el (c::cs)))):EPrim (.app el es x y) t s k:=by
 have hm:(c::cs).length / es=m:=by rw [hm'];exact Nat.mul_div_cancel m he
 refine EPrim.mk (fun e rec=>?_) hk
 show wth x t _=_;unfold wth;rw [hx]
 show wth y t _=_;unfold wth;rw [hy]
 show (Option.rec .fail _ (CS es v s):RV)=_
 rw [hv]
 show Ct el (Nat.div (A6 (c::cs)) es) (c::cs) s=_
 unfold Ct
 rw [CN,show Nat.div (c::cs).length es=m from hm]
 show gd (Nat.ble m 1000000) _=_
 rw [Zq0 h1];rfl
theorem CJ (hk:k (.sl s.next 0 m none) (s.alloc (.row el (c::cs)))) (hx:ev x t=.some .nils:=by rfl) (hy:ev y t=.some v:=by rfl) (hv:CS es v s=some (c::cs):=by rfl) (hm':(c::cs).length=m*es:=by rfl) (he:0<es:=by decide) (h1:m≤1000000:=by decide):EPrim (.app el es x y) t s k:=TL hx hy hv hm' he h1 hk
variable {n:Nat}
theorem Cw {r:Nat}{old:List AV}(hx:ev x t=.some (.sl r 0 n none)) (hy:ev y t=.some v) (hv:CS es v s=some (c::cs)) (hr:s.get r=some (.row el old)) (ho:old.length=n*es) (hm':(c::cs).length=m*es) (he:0<es) (h1:n+m≤1000000)
 (hk:k (.sl s.next 0 (n+m) none) ((s.put r .dead).alloc (.row el (old++(c::cs))))):EPrim (.app el es x y) t s k:=by
 have hm:(c::cs).length / es=m:=by rw [hm'];exact Nat.mul_div_cancel m he
 refine EPrim.mk (fun e rec=>?_) hk
 show wth x t _=_;unfold wth;rw [hx]
 show wth y t _=_;unfold wth;rw [hy]
 show (Option.rec .fail _ (CS es v s):RV)=_
 rw [hv]
 show AM.app1 el es (c::cs) (Nat.div (A6 (c::cs)) es) r 0 n none s=_
 unfold AM.app1
 rw [CN,show Nat.div (c::cs).length es=m from hm,GR hr (by show 0+n*es≤_;omega)]
 have e1:List.take (Nat.mul n es) (List.drop 0 old)=old:=by rw [List.drop_zero];exact Zqi (by show _≤n*es;omega)
 rw [e1]
 show gd (Nat.beq 0 0 && Me r el s) (Ct el (n+m) (Ba old (c::cs)) (s.put r .dead))=_
 have e2:Me r el s=true:=by unfold Me;rw [NF hr];show Nat.beq el el=true;exact Zrw el
 rw [e2]
 unfold Ct
 show gd (Nat.ble (n+m) 1000000) _=_
 rw [Zq0 h1,Db]
 show RV.ok (AV.sl (s.put r .dead).next 0 (n+m) none) _=_
 rw [Do]
theorem Zc2 {c:Nat}{z:List AV}{q q':IntKind}(hx:ev x t=.some (.int q (Int.ofNat n))) (hy:ev y t=.some (.int q' (Int.ofNat c))) (h1:n≤c) (h2:c≤1000000) (hk:k (.sl s.next 0 n (some c)) (s.alloc (.row el (Bp z c)))):EPrim (.mks el es z x y) t s k:=by
 refine EPrim.mk (fun e rec=>?_) hk
 show (NR.rec .fail (fun l=>NR.rec .fail (fun c=>gd (Nat.ble l c && Nat.ble c 1000000) (FO (.row el (Bp z c)) (fun r=>.sl r 0 l (some c)) s)) (Hm (ev y t))) (Hm (ev x t)):RV)=_
 rw [hx,hy]
 show gd (Nat.ble n c && Nat.ble c 1000000) _=_
 rw [Zq0 h1,Zq0 h2];rfl
end
theorem VX:∀ (n:Nat),Bp [.int .u8 0] n=Ab (List.replicate n 0)
 | 0=>rfl
 | n+1=>by
  show AV.int .u8 0::Bp [.int .u8 0] n=_
  rw [VX n,List.replicate_succ];rfl
end Go.AM
namespace Go.AM
variable {n:Nat}{t:AT}{s:St}
theorem Lt {el:Nat}{q q':IntKind}{k:AV→St→Prop}{x y:AO}(hx:ev x t=.some (.int q (Int.ofNat (n+1)))) (hy:ev y t=.some (.int q' (Int.ofNat (n+1)))) (h2:n+1≤1000000) (hk:k (.sl s.next 0 (n+1) (some (n+1))) (s.alloc (.row el (Ab (0::List.replicate n 0))))):EPrim (.mks el 1 [.int .u8 0] x y) t s k:=by
 refine Zc2 hx hy (Zqu _) h2 ?_
 rw [VX];exact hk
variable {k e:Nat}{cs:List AV}
theorem Bd (h:hfs cs=true):Dx k n (.row e cs)=true:=HW _ h
variable {ρ:Nat→Nat}
theorem AX (h:hfs cs=true):Bv ρ (.row e cs)=.row e cs:=by
 show AObj.row e (AG ρ cs)=_;rw [HN _ h]
theorem o9 {x:Option AObj}(h:hfs cs=true:=by assumption) (p:x=some (.row e cs):=by rfl):Dx k n (.row e cs)=true∧x=some (Bv ρ (.row e cs)):=⟨Bd h,by rw [AX h];exact p⟩
theorem HY {ds:List AV}(h:hfs cs=true):EE n ds (.row e cs)=.row e cs:=by
 show AObj.row e (CE n ds cs)=_;rw [GJ _ h]
variable {tl:List (Nat×AV)}{os:List AObj}{rs:List Nat}
theorem Abs.a (h:rs.Nodup:=by decide) (h1:TmpOk os.length rs t tl:=by repeat' (first|exact trivial|exact r9|exact t9|exact o9|apply And.intro)) (h2:RowOk os.length rs s os rs:=by repeat' (first|exact trivial|exact r9|exact t9|exact o9|apply And.intro)):Abs t s tl os rs:=⟨h,h1,h2⟩
theorem AbsK.a (h:rs.Nodup:=by decide) (h1:TmpOk os.length rs t tl:=by repeat' (first|exact trivial|exact r9|exact t9|exact o9|apply And.intro)) (h2:RowOkK k os.length rs s os rs:=by repeat' (first|exact trivial|exact r9|exact t9|exact o9|apply And.intro)) (h0:rs.take k=List.range k:=by rfl):AbsK k t s tl os rs:=⟨h0,h,h1,h2⟩
variable {P:Program}{rd:Option Nat}{ds:List Nat}
theorem Br {e:Env}{Q:EQ}{a b:AC}(hE:EM P e) (h:VW P e k a t s rd ds (IC (fun t s ds=>W P k rd b t s ds Q) Q)):W P k rd (.seq a b) t s ds Q:=
 W.seq ((L4 hE.1 hE.2 h).mono fun x t s ds h=>by cases x <;> exact h)
theorem Hb {e:Env}{res:List ARes}{K:AV→St→Prop}{c:AC}(hE:EM P e) (h:VW P e k c t s rd ds (BW res K)):W P k rd c t s ds (BG res K):=
 (L4 hE.1 hE.2 h).mono fun _ _ _ _ h=>IL h
section
variable {t:AT}{s:St}{k:AV→St→Prop}{x y:AO}
theorem Qs {el es r m:Nat}{v:AV}{c:AV}{cs:List AV}(hx:ev x t=.some (.sl r 0 0 (some 0))) (hy:ev y t=.some v) (hv:CS es v s=some (c::cs)) (hr:s.get r=some (.row el [])) (hm':(c::cs).length=m*es) (he:0<es) (h0:0<m) (h1:m≤1000000) (hk:k (.sl s.next 0 m none) (s.alloc (.row el (c::cs)))):EPrim (.app el es x y) t s k:=by
 have hm:(c::cs).length / es=m:=by rw [hm'];exact Nat.mul_div_cancel m he
 refine EPrim.mk (fun e rec=>?_) hk
 show wth x t _=_;unfold wth;rw [hx]
 show wth y t _=_;unfold wth;rw [hy]
 show (Option.rec .fail _ (CS es v s):RV)=_
 rw [hv]
 show AM.app1 el es (c::cs) (Nat.div (A6 (c::cs)) es) r 0 0 (some 0) s=_
 unfold AM.app1
 rw [CN,show Nat.div (c::cs).length es=m from hm,show Nat.mul 0 es=0 from Nat.zero_mul es,GR hr (by simp)]
 show (Bool.rec (Ct el (0+m) (Ba [] (c::cs)) s) _ (Nat.ble (0+m) 0):RV)=_
 rw [Zqo,show Nat.ble m 0=false by rw [← Zr8];intro e;have:=Zqx e;omega]
 show gd (Nat.ble m 1000000) _=_
 rw [Zq0 h1];rfl
end
end Go.AM
namespace Go.AM
def F1 (w:World):Gam:=⟨fun _=>none,fun b=>match w.heap[b]? with|some (.cells c _ _)=>some c|_=>none⟩
theorem Zew {P:Program}(w:World):Sim P (F1 w) St0 w:=by
 refine OS (φ:=(F1 w).fz) fun b c h=>?_
 have h:(match w.heap[b]? with|some (.cells c _ _)=>some c|_=>none)=some c:=h
 split at h
 ·rename_i c' e fr hh;cases h;exact ⟨e,fr,hh⟩
 ·cases h
theorem W6 {w:World}{a:Addr}{v:Value}(h:w.cell? a=some v):a.spot=none∧∃ c,(F1 w).fz a.block=some c∧c[a.off]?=some v:=by
 unfold World.cell? at h
 split at h
 ·rename_i c t fr hh
  split at h
  ·cases h
  ·rename_i hs
   refine ⟨by simpa using hs,c,?_,h⟩
   show (match w.heap[a.block]? with|some (.cells c _ _)=>some c|_=>none)=some c
   rw [hh]
 ·cases h
inductive Ty where
 | bool
 | int (k:IntKind)
 | sl (e:Ty)
 | st (fs:List Ty)
mutual
inductive TyOf (P:Program):TypeId→Ty→Nat→Prop
 | bool (t:TypeId):P.underlying t=some .bool→TyOf P t .bool 1
 | int (t:TypeId) (k:IntKind):P.underlying t=some (.int k)→TyOf P t (.int k) 1
 | sl (t e:TypeId) (E:Ty) (n:Nat):P.underlying t=some (.slice e)→P.cellsOf e=n→0<n→TyOf P e E n→TyOf P t (.sl E) 1
 | st (t:TypeId) (fs:Array Field) (Fs:List Ty) (n:Nat):P.underlying t=some (.struct fs)→P.cellsOf t=n→Flds P fs.toList 0 Fs n→TyOf P t (.st Fs) n
inductive Flds (P:Program):List Field→Nat→List Ty→Nat→Prop
 | nil (o:Nat):Flds P [] o [] o
 | cons (f:Field) (l:List Field) (o:Nat) (T:Ty) (m:Nat) (Ts:List Ty) (n:Nat):f.offset=o→P.cellsOf f.type=m→TyOf P f.type T m→Flds P l (o+m) Ts n→Flds P (f::l) o (T::Ts) n
end
mutual
inductive Shape:Ty→List AV→Prop
 | bool (b:Bool):Shape .bool [.bool b]
 | int (k:IntKind) (n:Int):(Lit.int k n).wf=true→Shape (.int k) [.int k n]
 | nil (E:Ty):Shape (.sl E) [.nils]
 | es (E:Ty):Shape (.sl E) [.es]
 | fz (E:Ty) (n m:Nat) (c:Option Nat) (ls:List (List AV)):ls.length=n→0<n→n≤maxLen→(∀ l ∈ ls,Shape E l)→(∀ l ∈ ls,l.length=m)→Shape (.sl E) [.fz n c ls.flatten]
 | st (Fs:List Ty) (l:List AV):Shapes Fs l→Shape (.st Fs) l
inductive Shapes:List Ty→List AV→Prop
 | nil:Shapes [] []
 | cons (T:Ty) (Ts:List Ty) (l m:List AV):Shape T l→Shapes Ts m→Shapes (T::Ts) (l++m)
end
mutual
theorem Shape.hfs:∀ {T:Ty}{l:List AV},Shape T l→AM.hfs l=true
 | _,_,.bool b=>rfl
 | _,_,.int k n _=>rfl
 | _,_,.nil E=>rfl
 | _,_,.es E=>rfl
 | _,_,.fz E n m c ls _ _ _ _ _=>rfl
 | _,_,.st Fs l h=>Shapes.hfs h
theorem Shapes.hfs:∀ {Ts:List Ty}{l:List AV},Shapes Ts l→AM.hfs l=true
 | _,_,.nil=>rfl
 | _,_,.cons T Ts l m a b=>by
  rw [hfs_iff]
  intro v hv
  rcases Zq1.1 hv with h|h
  ·exact hfs_iff.1 (Shape.hfs a) v h
  ·exact hfs_iff.1 (Shapes.hfs b) v h
end
section
variable {H:Type}{enc:TypeId×Value→H}{P:Program}{w:World}{spare:Nat→Bool}
theorem Uf:∀ (fuel:Nat) {t:TypeId}{T:Ty}{n:Nat}{cs:List Value}{x:DataW H×List MemPlace},TyOf P t T n→DataW.trod enc P w 0 spare true fuel t cs=some x→
 ∃ l,Shape T l∧l.length=n∧All2 (VR (F1 w)) l cs∧∀ v ∈ cs,v.oneCell'=true:=by
 intro fuel
 induction fuel with
 | zero=>intro t T n cs x _ h;simp [DataW.trod] at h
 | succ fuel ih=>
  intro t T n cs x hT h
  cases hT with
  | bool _ hu=>
   obtain ⟨b,rfl,_⟩:=DataW.trod_bool hu h
   exact ⟨_,.bool b,rfl,.cons (.bool b) .nil,by simp [Value.oneCell']⟩
  | int _ k hu=>
   obtain ⟨m,rfl,_,hw⟩:=DataW.trod_int hu h
   exact ⟨_,.int k m hw,rfl,.cons (.int k m) .nil,by simp [Value.oneCell']⟩
  | st _ fs Fs _ hu hn hF=>
   obtain ⟨xs,n',e1,_,hlen,hxl,hx⟩:=DataW.trod_struct hu h
   cases e1
   rw [hn] at hlen
   have key:∀ (l:List Field) (o:Nat) (Ts:List Ty) (m:Nat),Flds P l o Ts m→(∀ f ∈ l,∃ y,DataW.trod enc P w 0 spare true fuel f.type ((cs.drop f.offset).take (P.cellsOf f.type))=some y)→m≤cs.length→o≤m∧∃ r,Shapes Ts r∧r.length=m-o∧All2 (VR (F1 w)) r ((cs.drop o).take (m-o))∧∀ v ∈ (cs.drop o).take (m-o),v.oneCell'=true:=by
    intro l
    induction l with
    | nil=>
     intro o Ts m hf _ hm
     cases hf
     refine ⟨Zqu _,[],.nil,by simp,?_,by simp⟩
     simp;exact .nil
    | cons f l ihl=>
     intro o Ts m hf hall hm
     cases hf with
     | cons _ _ _ T k Ts _ h1 h2 h3 h4=>
      obtain ⟨y,hy⟩:=hall f (by simp)
      obtain ⟨l1,a1,a2,a3,a4⟩:=ih h3 hy
      obtain ⟨hle,r,b1,b2,b3,b4⟩:=ihl (o+k) Ts m h4 (fun g hg=>hall g (by simp [hg])) hm
      rw [h1,h2] at a3 a4
      have hsplit:(cs.drop o).take (m-o)=(cs.drop o).take k++(cs.drop (o+k)).take (m-(o+k)):=by
       rw [show m-o=k+(m-(o+k)) by omega,List.take_add,List.drop_drop]
      refine ⟨by omega,l1++r,.cons T Ts l1 r a1 b1,by rw [Zqn,a2,b2];omega,?_,?_⟩
      ·rw [hsplit];exact a3.append b3
      ·intro v hv
       rw [hsplit] at hv
       rcases Zq1.1 hv with h|h
       ·exact a4 v h
       ·exact b4 v h
   obtain ⟨_,r,b1,b2,b3,b4⟩:=key fs.toList 0 Fs n hF (fun f hf=>by
    obtain ⟨i,hi⟩:=Zr0 hf
    have hi':fs[i]?=some f:=by simpa using hi
    have:=hx i f hi'
    have hlt:i<xs.length:=by rw [hxl];exact (Zrd.1 hi').1
    rw [Zp9 hlt] at this
    exact ⟨_,this⟩) (by omega)
   rw [List.drop_zero,Nat.sub_zero,Zqi (by omega)] at b3 b4
   exact ⟨r,.st Fs r b1,by omega,b3,b4⟩
  | sl _ e E m hu hm hm0 hE=>
   rcases DataW.trod_slice hu h with ⟨rfl,_⟩|⟨a,len,cap,elems,rest,n',e1,rfl,_,_,hlc,hcm,hel,hall,_,_⟩
   ·exact ⟨_,.nil E,rfl,.cons .nils .nil,by simp [Value.oneCell']⟩
   ·cases e1
    rw [hm] at hall
    by_cases h0:len=0
    ·subst h0
     exact ⟨_,.es E,rfl,.cons (.es a cap) .nil,by simp [Value.oneCell']⟩
    ·have hget:∀ i,i<len→∃ ci,w.cells? 0 (a.add (i*m)) m=some ci∧∃ y,DataW.trod enc P w 0 spare true fuel e ci=some y:=by
      intro i hi
      have:=hall i hi
      rw [Zp9 (by omega)] at this
      obtain ⟨ci,h1,h2⟩:=Option.bind_eq_some_iff.1 this
      exact ⟨ci,h1,_,h2⟩
     obtain ⟨c0,hc0,_⟩:=hget 0 (by omega)
     rw [Nat.zero_mul] at hc0
     obtain ⟨_,hl0,hcell0⟩:=World.cells?_some hc0
     have hcl:=hcell0 0 hm0
     rw [Zp9 (by omega)] at hcl
     obtain ⟨hsp,c,hfz,_⟩:=W6 hcl
     have haz:(a.add 0).add 0=a:=by simp [Addr.add]
     have key:∀ k,k≤len→∃ (ls:List (List AV)) (vs:List Value),ls.length=k∧(∀ l ∈ ls,Shape E l)∧(∀ l ∈ ls,l.length=m)∧All2 (VR (F1 w)) ls.flatten vs∧vs.length=k*m∧(∀ u ∈ vs,u.oneCell'=true)∧∀ (j:Nat) u,vs[j]?=some u→c[a.off+j]?=some u:=by
      intro k
      induction k with
      | zero=>intro _;exact ⟨[],[],rfl,by simp,by simp,.nil,by simp,by simp,by simp⟩
      | succ k ihk=>
       intro hk
       obtain ⟨ls,vs,b1,b2,b3,b4,b5,b6,b7⟩:=ihk (by omega)
       obtain ⟨ci,hci,y,hy⟩:=hget k (by omega)
       obtain ⟨l1,a1,a2,a3,a4⟩:=ih hE hy
       obtain ⟨_,hlci,hcell⟩:=World.cells?_some hci
       refine ⟨ls++[l1],vs++ci,by simp [b1],?_,?_,by simpa using b4.append a3,by rw [Zqn,b5,hlci,Nat.succ_mul],?_,?_⟩
       ·intro l hl
        rcases Zq1.1 hl with h|h
        ·exact b2 l h
        ·simp at h;subst h;exact a1
       ·intro l hl
        rcases Zq1.1 hl with h|h
        ·exact b3 l h
        ·simp at h;subst h;exact a2
       ·intro u hu'
        rcases Zq1.1 hu' with h|h
        ·exact b6 u h
        ·exact a4 u h
       ·intro j u hj
        by_cases hjl:j<vs.length
        ·rw [Zqt hjl] at hj;exact b7 j u hj
        ·rw [Zq4 (by omega)] at hj
         have hjr:=(Zqa.1 hj).1
         have hq:=hcell (j-vs.length) (by omega)
         rw [hj] at hq
         obtain ⟨_,c',hz',hv'⟩:=W6 hq
         have hblk:((a.add (k*m)).add (j-vs.length)).block=a.block:=by unfold Addr.add;split <;> split <;> rfl
         have hoff:((a.add (k*m)).add (j-vs.length)).off=a.off+j:=by unfold Addr.add;split <;> split <;> simp <;> omega
         have hb0:((a.add 0).add 0).block=a.block:=by rw [haz]
         rw [hblk] at hz'
         rw [hb0] at hfz
         rw [hfz] at hz';cases hz'
         rw [hoff] at hv';exact hv'
     obtain ⟨ls,vs,b1,b2,b3,b4,b5,b6,b7⟩:=key len (Zqu _)
     have hsp':a.spot=none:=by rw [haz] at hsp;exact hsp
     have hfz':(F1 w).fz a.block=some c:=by rw [haz] at hfz;exact hfz
     refine ⟨[.fz len (some cap) ls.flatten],.fz E len m (some cap) ls b1 (by omega) (by omega) b2 b3,rfl,.cons ?_ .nil,by simp [Value.oneCell']⟩
     have hA:a=⟨a.block,a.off,none⟩:=by cases a;simp at hsp';subst hsp';rfl
     rw [hA]
     refine .fz len (some cap) ls.flatten vs a.block a.off cap c hfz' b7 b6 b4 hlc (fun k hk=>by cases hk;rfl) ?_
     rw [hfs_iff]
     intro v hv
     obtain ⟨l,hl,hv⟩:=List.mem_flatten.1 hv
     exact hfs_iff.1 (b2 l hl).hfs v hv
end
end Go.AM
namespace Go.AM
noncomputable def DN (s:St):List Nat→List AObj→St
 | r::rs,o::os=>DN (s.put r o) rs os
 | _,_=>s
theorem Ug:∀ (rs:List Nat) (l:List AObj) (s:St),(DN s rs l).next=s.next
 | [],_,_=>rfl
 | _::_,[],_=>rfl
 | r::rs,o::l,s=>by rw [DN,Ug rs l,Do]
theorem Q4:∀ (rs:List Nat) (l:List AObj) (s:St) {r:Nat},r ∉ rs→(DN s rs l).get r=s.get r
 | [],_,_,_,_=>rfl
 | _::_,[],_,_,_=>rfl
 | r0::rs,o::l,s,r,h=>by
  rw [DN,Q4 rs l _ (fun e=>h (by simp [e])),HC (fun e=>h (by simp [e]))]
theorem U5:∀ (rs:List Nat) (l:List AObj) (s:St) {r:Nat}{o:AObj},rs.length=l.length→(DN s rs l).get r=some o→(∃ i:Nat,rs[i]?=some r∧l[i]?=some o)∨(r ∉ rs∧s.get r=some o)
 | [],_,_,_,_,_,h=>.inr ⟨by simp,h⟩
 | _::_,[],_,_,_,hl,_=>by cases hl
 | r0::rs,o0::l,s,r,o,hl,h=>by
  rw [DN] at h
  rcases U5 rs l _ (by simpa using hl) h with ⟨i,h1,h2⟩|⟨h1,h2⟩
  ·exact .inl ⟨i+1,by simpa using h1,by simpa using h2⟩
  ·rcases F9 h2 with ⟨rfl,rfl⟩|⟨hne,h2⟩
   ·exact .inl ⟨0,by simp,by simp⟩
   ·exact .inr ⟨by simp [hne,h1],h2⟩
def D0 (rs:List Nat) (n r:Nat):Nat:=if r<rs.length then nm rs r else n+(r-rs.length)
variable {P:Program}{f:Nat}{args0:List AV}{u:AV}{os os2:List AObj}{rs:List Nat}{s:St}
theorem Zc9 (nd:rs.Nodup) (hl:os.length=rs.length)
 (row:∀ (i:Nat) o r,os[i]?=some o→rs[i]?=some r→s.get r=some (Bv (nm rs) o)∧Dx 0 os.length o=true∧BC o=true) (nmd:∀ i,i<os.length→Hl i args0=true) (hba:Bj os.length args0=true)
 (hk:os.length≤os2.length) (hn:os2.length<1000000) (hp:∀ o ∈ os2,Oq o=true)
 (h:C1 P f args0 (Al St0 os) (fun v s'=>Tells P os.length (A5 [(0,v)]) s' [] (A5 [(0,u)]) (Al St0 os2) [])):
 C P f (AG (nm rs) args0) s (fun v s'=>v=AY (D0 rs s.next) u∧s'=Al (DN s rs ((os2.take os.length).map (Bv (D0 rs s.next)))) ((os2.drop os.length).map (Bv (D0 rs s.next)))):=by
 intro γ vals w m hA hs
 let γ0:Gam:=⟨fun r=>if r<os.length then γ (nm rs r) else none,γ.fz⟩
 have g0:∀ r,r<os.length→γ0 r=γ (nm rs r):=fun r hr=>Zqd hr
 have g0n:∀ r,os.length≤r→γ0 r=none:=fun r hr=>Zqh (by omega)
 have g0s:∀ r L,γ0 r=some L→r<os.length∧γ (nm rs r)=some L:=fun r L e=>by
  by_cases hr:r<os.length
  ·rw [g0 r hr] at e;exact ⟨hr,e⟩
  ·rw [g0n r (by omega)] at e;cases e
 have nmr:∀ r,r<os.length→rs[r]?=some (nm rs r):=fun r hr=>by
  have h1:=Zp9 (l:=rs) (i:=r) (by omega)
  rw [EO h1];exact h1
 have nmj:∀ r r',r<os.length→r'<os.length→nm rs r=nm rs r'→r=r':=fun r r' hr hr' e=>by
  have e1:=EO (Zp9 (l:=rs) (i:=r) (by omega))
  have e2:=EO (Zp9 (l:=rs) (i:=r') (by omega))
  rw [e1,e2] at e
  exact (List.getElem_inj nd).1 e
 have rowN:∀ r,r<os.length→∃ o,os[r]?=some o∧s.get (nm rs r)=some (Bv (nm rs) o)∧Dx 0 os.length o=true∧BC o=true:=fun r hr=>⟨os[r],Zp9 hr,row r _ _ (Zp9 hr) (nmr r hr)⟩
 have nmlt:∀ r,r<os.length→nm rs r<s.next:=fun r hr=>by
  obtain ⟨o,_,h1,_⟩:=rowN r hr
  exact hs.dom _ _ h1
 have hz:∀ b c,γ.fz b=some c→γ0.fz b=some c:=fun _ _ e=>e
 have hlm:∀ r,r<os.length→∀ L,γ (nm rs r)=some L→γ0 r=some L:=fun r hr L e=>by rw [g0 r hr];exact e
 have hA0:All2 (VR γ0) args0 vals:=Kj hz hlm args0 hba hA
 have hall:∀ r,r<os.length→∃ L,γ0 r=some L:=fun r hr=>JO args0 (nmd r hr) hA0
 have hs0:Sim P γ0 (Al St0 os) w:=by
  refine ⟨?_,?_,?_,?_,?_,hs.fzc,?_⟩
  ·intro r o L ho hL
   have ho:=JG os ho
   obtain ⟨hr,hL⟩:=g0s r L hL
   obtain ⟨h1,h2,_⟩:=row r o _ ho (nmr r hr)
   exact Vn (k:=0) (n:=os.length) hz hlm (fun r hr=>absurd hr (Nat.not_lt_zero r)) (Zqs _) h2 (hs.obj _ _ L h1 hL)
  ·intro r r' o o' L L' ho ho' ha ha' hL hL' hne
   have ho:=JG os ho
   have ho':=JG os ho'
   obtain ⟨hr,hL⟩:=g0s r L hL
   obtain ⟨hr',hL'⟩:=g0s r' L' hL'
   exact hs.inj _ _ _ _ L L' (row r o _ ho (nmr r hr)).1 (row r' o' _ ho' (nmr r' hr')).1 (by rw [Fe];exact ha) (by rw [Fe];exact ha') hL hL' (fun e=>hne (nmj r r' hr hr' e))
  ·intro r L hL;exact hs.lt _ L (g0s r L hL).2
  ·intro r hr;rw [Ek] at hr;exact g0n r hr
  ·intro r o ho;rw [Ek];exact (Zqa.1 (JG os ho)).1
  ·intro r o L ho ha hL
   obtain ⟨hr,hL⟩:=g0s r L hL
   exact hs.fzr _ _ L (row r o _ (JG os ho) (nmr r hr)).1 (by rw [Fe];exact ha) hL
 refine CallsIn.mono (h γ0 vals w m (fun r hr=>hall r (by rwa [Ek] at hr)) hA0 hs0) ?_
 rintro e w' ⟨v,s',hab,v',γ',rfl,hst,hsim,hv⟩
 have hT:TR γ' (A5 [(0,v)]) #[v']:=by
  intro i x hx
  rcases FB hx with ⟨rfl,rfl⟩|⟨_,h⟩
  ·exact ⟨v',rfl,hv⟩
  ·cases h
 obtain ⟨γ2,t2,s2,_,st2⟩:=hab γ' w' #[v'] [] γ0 (Al St0 os) w hT hsim .nil hst (Ek os) g0n (fun r hr=>hall r hr)
 obtain ⟨w2,e1,e2⟩:=t2 0 u rfl
 cases e1
 have at2:∀ i o,os2[i]?=some o→(Al St0 os2).get i=some o:=fun i o hi=>Qq os2 (by omega) hi
 have g2:∀ r,r<os.length→γ2 r=γ (nm rs r):=fun r hr=>by
  obtain ⟨L,hL⟩:=hall r hr
  rw [st2.le.loc r L hL,← g0 r hr,hL]
 let γf:Gam:=⟨fun r=>if r<s.next then γ r else γ2 (os.length+(r-s.next)),γ2.fz⟩
 have f1:∀ r,r<s.next→γf r=γ r:=fun r hr=>Zqd hr
 have f2:∀ r,¬ r<s.next→γf r=γ2 (os.length+(r-s.next)):=fun r hr=>Zqh hr
 have hσ:∀ i,γf (D0 rs s.next i)=γ2 i:=fun i=>by
  unfold D0
  by_cases hi:i<os.length
  ·rw [Zqd (by omega),f1 _ (nmlt i hi),g2 i hi]
  ·rw [Zqh (by omega),f2 _ (by omega)];congr 1;omega
 have hσl:∀ i L,γ2 i=some L→γf (D0 rs s.next i)=some L:=fun i L e=>by rw [hσ];exact e
 have glt:∀ r L,γ r=some L→r<s.next:=fun r L e=>Nat.lt_of_not_le fun hle=>by rw [hs.nx r hle] at e;cases e
 have hle:Le γ γf:=⟨fun r L e=>(f1 r (glt r L e)).trans e,fun b c e=>st2.le.fz b c e⟩
 -- a row that was not handed: its block stays
 have hold:∀ r o L,r ∉ rs→s.get r=some o→BC o=true→γ r=some L→w'.heap[L.b]?=w.heap[L.b]?:=fun r o L hr ho ha hL=>
  st2.blk L.b (hs.lt r L hL) fun r' L' e=>by
   obtain ⟨hr',hL'⟩:=g0s r' L' e
   obtain ⟨o',_,h1,_,h3⟩:=rowN r' hr'
   exact hs.inj _ _ _ _ L' L h1 ho (by rw [Fe];exact h3) ha hL' hL (fun e=>hr (by rw [← e];exact Zqv (nmr r' hr')))
 have hout:∀ i,i<os.length→D0 rs s.next i=nm rs i:=fun i hi=>Zqd (by omega)
 have hnone:∀ r,s.next≤r→s.get r=none:=fun r hr=>by
  cases hg:s.get r with
  | none=>rfl
  | some o=>exact absurd (hs.dom r o hg) (by omega)
 have hS1:(DN s rs ((os2.take os.length).map (Bv (D0 rs s.next)))).next=s.next:=Ug _ _ _
 have hlen1:rs.length=((os2.take os.length).map (Bv (D0 rs s.next))).length:=by rw [Zqg,Zqz];omega
 have back:∀ r o,(Al (DN s rs ((os2.take os.length).map (Bv (D0 rs s.next)))) ((os2.drop os.length).map (Bv (D0 rs s.next)))).get r=some o→(r<s.next∧r ∉ rs∧s.get r=some o)∨(∃ (i:Nat) (o':AObj),os2[i]?=some o'∧r=D0 rs s.next i∧o=Bv (D0 rs s.next) o'):=by
  intro r o hg
  by_cases hr:r<s.next
  ·rw [IM _ _ (by rw [hS1];exact hr)] at hg
   rcases U5 rs _ s hlen1 hg with ⟨i,h1,h2⟩|⟨h1,h2⟩
   ·rw [Zq8] at h2
    cases hq:(os2.take os.length)[i]? with
    | none=>rw [hq] at h2;cases h2
    | some o'=>
     rw [hq] at h2
     rw [Zrm] at hq
     split at hq
     ·rename_i hi
      refine .inr ⟨i,o',hq,?_,(Zrh h2).symm⟩
      rw [hout i hi,EO h1]
     ·cases hq
   ·exact .inl ⟨hr,h1,h2⟩
  ·have:=JL _ _ (by rw [hS1];omega) (fun q hq=>by
    rw [hS1] at hq
    have hq':q ∉ rs:=fun hm=>by
     obtain ⟨i,hi⟩:=Zr3.1 hm
     have hi':=(Zqa.1 hi).1
     have:=nmlt i (by omega)
     rw [EO hi] at this;omega
    rw [Q4 _ _ _ hq'];exact hnone q hq) hg
   rw [hS1,Zq8] at this
   cases hq:(os2.drop os.length)[r-s.next]? with
   | none=>rw [hq] at this;cases this
   | some o'=>
    rw [hq] at this
    rw [Zqk] at hq
    refine .inr ⟨os.length+(r-s.next),o',hq,?_,(Zrh this).symm⟩
    unfold D0
    rw [Zqh (by omega)];omega
 have hlast:os2.length=(os2.drop os.length).length+os.length:=by rw [List.length_drop];omega
 refine ⟨_,_,⟨rfl,rfl⟩,v',γf,rfl,?_,?_,Jd (γ:=γ2) (γ2:=γf) (fun _ _ e=>e) hσl u e2⟩
 ·refine ⟨hle,?_,by rw [GE,hS1];omega,st2.size,st2.os,st2.tape,st2.output,?_,?_,?_⟩
  ·intro r L e e0
   by_cases hr:r<s.next
   ·rw [f1 r hr,e0] at e;cases e
   ·rw [f2 r hr] at e
    refine ⟨by omega,?_⟩
    rcases (st2.new _ L e (g0n _ (by omega))).2 with hq|⟨r0,L0,h1,h2⟩
    ·exact .inl hq
    ·exact .inr ⟨_,L0,(g0s r0 L0 h1).2,h2⟩
  ·intro b hb hno
   exact st2.blk b hb fun r L e=>hno _ L (g0s r L e).2
  ·intro r e hr
   rw [IM _ _ (by rw [hS1];exact hr)]
   refine Q4 _ _ _ fun hm=>?_
   obtain ⟨i,hi⟩:=Zr3.1 hm
   have hi':=(Zqa.1 hi).1
   obtain ⟨L,hL⟩:=hall i (by omega)
   have:=(g0s i L hL).2
   rw [EO hi,e] at this;cases this
  ·intro b c e e0;exact st2.fzn b c e e0
 ·refine ⟨?_,?_,?_,?_,?_,s2.fzc,?_⟩
  ·intro r o L ho hL
   rcases back r o ho with ⟨hr,hn,hg⟩|⟨i,o',hi,rfl,rfl⟩
   ·rw [f1 r hr] at hL
    cases ha:BC o with
    | true=>exact ((hs.obj r o L hg hL).mono hle).heap (hold r o L hn hg ha hL)
    | false=>cases o <;> first|trivial|cases ha
   ·rw [hσ] at hL
    exact Vo (γ:=γ2) (γ2:=γf) (fun _ _ e=>e) hσl (hp o' (Zqv hi)) (s2.obj i o' L (at2 i o' hi) hL)
  ·have cross:∀ r o L i o' L',r<s.next→r ∉ rs→s.get r=some o→BC o=true→γ r=some L→os2[i]?=some o'→γ2 i=some L'→L.b≠L'.b:=by
    intro r o L i o' L' hr hn hg ha hL hi hL'
    have hlt:=hs.lt r L hL
    have key:∀ r0 L0,γ0 r0=some L0→L.b≠L0.b:=fun r0 L0 e=>by
     obtain ⟨h0,h1⟩:=g0s r0 L0 e
     obtain ⟨o1,_,q1,_,q3⟩:=rowN r0 h0
     exact fun hb=>hs.inj _ _ _ _ L0 L q1 hg (by rw [Fe];exact q3) ha h1 hL (fun e=>hn (by rw [← e];exact Zqv (nmr r0 h0))) hb.symm
    cases hq:γ0 i with
    | some L0=>
     have:=st2.le.loc i L0 hq
     rw [hL'] at this;cases this
     exact key i L' hq
    | none=>
     rcases (st2.new i L' hL' hq).2 with hb|⟨r0,L0,h1,h2⟩
     ·omega
     ·rw [← h2];exact key r0 L0 h1
   intro r r' o o' L L' ho ho' ha ha' hL hL' hne
   rcases back r o ho with ⟨hr,hn,hg⟩|⟨i,p,hi,rfl,rfl⟩ <;> rcases back r' o' ho' with ⟨hr',hn',hg'⟩|⟨i',p',hi',rfl,rfl⟩
   ·rw [f1 r hr] at hL;rw [f1 r' hr'] at hL'
    exact hs.inj r r' o o' L L' hg hg' ha ha' hL hL' hne
   ·rw [f1 r hr] at hL;rw [hσ] at hL'
    exact cross r o L i' p' L' hr hn hg ha hL hi' hL'
   ·rw [hσ] at hL;rw [f1 r' hr'] at hL'
    exact fun e=>cross r' o' L' i p L hr' hn' hg' ha' hL' hi hL e.symm
   ·rw [hσ] at hL hL'
    rw [Fe] at ha ha'
    exact s2.inj i i' p p' L L' (at2 i p hi) (at2 i' p' hi') ha ha' hL hL' (fun e=>hne (by rw [e]))
  ·intro r L hL
   by_cases hr:r<s.next
   ·rw [f1 r hr] at hL;have:=hs.lt r L hL;have:=st2.size;omega
   ·rw [f2 r hr] at hL;exact s2.lt _ L hL
  ·intro r hr
   rw [GE,hS1,Zqg] at hr
   rw [f2 r (by omega)]
   refine s2.nx _ ?_
   rw [Ek];omega
  ·intro r o ho
   rw [GE,hS1,Zqg]
   rcases back r o ho with ⟨hr,_,_⟩|⟨i,o',hi,rfl,_⟩
   ·omega
   ·have hi':=(Zqa.1 hi).1
    unfold D0
    split
    ·have:=nmlt i (by omega);omega
    ·omega
  ·intro r o L ho ha hL
   rcases back r o ho with ⟨hr,hn,hg⟩|⟨i,o',hi,rfl,rfl⟩
   ·rw [f1 r hr] at hL
    have h0:=hs.fzr r o L hg ha hL
    show γ2.fz L.b=none
    cases hc:γ2.fz L.b with
    | none=>rfl
    | some c=>exact absurd (st2.fzn L.b c hc h0) (by have:=hs.lt r L hL;omega)
   ·rw [hσ] at hL
    rw [Fe] at ha
    exact s2.fzr i o' L (at2 i o' hi) ha hL
theorem Zda (nd:rs.Nodup) (hl:os.length=rs.length)
 (row:∀ (i:Nat) o r,os[i]?=some o→rs[i]?=some r→s.get r=some (Bv (nm rs) o)∧Dx 0 os.length o=true∧BC o=true) (nmd:∀ i,i<os.length→Hl i args0=true) (hba:Bj os.length args0=true)
 (hk:os.length≤os2.length) (hn:os2.length<1000000) (hp:∀ o ∈ os2,Oq o=true)
 (h:C1 P f args0 (Al St0 os) (fun v s'=>∃ qs,AbsK os.length (T.set .lf v 0) s' [(0,u)] os2 qs)):
 C P f (AG (nm rs) args0) s (fun v s'=>v=AY (D0 rs s.next) u∧s'=Al (DN s rs ((os2.take os.length).map (Bv (D0 rs s.next)))) ((os2.drop os.length).map (Bv (D0 rs s.next)))):=
 Zc9 nd hl row nmd hba hk hn hp fun γ vals w m h1 h2 h3=>CallsIn.mono (h γ vals w m h1 h2 h3) fun e w' ⟨v,s',⟨qs,hab⟩,hp⟩=>⟨v,s',hab.tells,hp⟩
open Go.RowKit Go.WideShapes Go.ChangeShapes
section
variable {H:Type}{enc:TypeId×Value→H}{P:Program}
theorem post_new {f:Func}{s:ChangeSpec}{apart FO handsOn again:Bool}{W W':World}{args:Array Value}{v:Value}{ds gs:List (DataW H)}{before pa pv:List MemPlace}
 (hW:DataW.Whole enc P f.params.toList s.vars apart W args.toList ds gs before) (hb:Below W.heap.size W W') (hps:before=pa++pv)
 (hres:∀ (b:Nat) (sp:Nat→Bool) (hd:Bool),DataW.TrodAll enc P W' b sp hd f.resultTypes.toList (v.resultList f.resultTypes.size) (s.fn H (ds++gs)).results [])
 (hargs:∀ sp:Nat→Bool,(∀ p ∈ before,sp p.block=true)→DataW.TrodAll enc P W' 0 sp true f.params.toList args.toList (s.fn H (ds++gs)).args pa)
 (hvars:∀ sp:Nat→Bool,(∀ p ∈ before,sp p.block=true)→DataW.TrodVars enc P W' sp s.vars (s.fn H (ds++gs)).vars pv)
 (hok:∀ (j:Nat) (t:TypeId) (r:Value),f.resultTypes[j]?=some t→(v.resultList f.resultTypes.size)[j]?=some r→Value.okWide P W' .any 0 t r):
 s.post enc P f apart FO handsOn again W args v W':=by
 have old:∀ p ∈ before,p.block<W.heap.size:=fun p hp=>hW.lt p hp
 have oldB:∀ p ∈ before,(fun b=>decide (b<W.heap.size)) p.block=true:=fun p hp=>Zqe (old p hp)
 have hmem:∀ p,p ∈ pa++pv↔p ∈ before:=fun p=>by rw [hps]
 have hkept:W.keptBut W' (· ∈ before):=hb.frame (· ∈ before)
 refine ⟨ds,gs,before,[],pa,pv,hW,hres _ _ _,hargs _ oldB,hvars _ oldB,World.keptBut_mono ?_ hkept,?_⟩
 ·intro p hp
  refine ⟨hp,.inr ?_⟩
  exact Zq1.1 ((hmem p).2 hp)
 ·intro _
  obtain ⟨_,_,_,_,_,notFrozen,once⟩:=hW
  refine ⟨hok,_,_,([]++pa)++pv,⟨[]++pa,pv,trodAll_append (hargs _ (fun _ _=>rfl)) (hres _ _ _),hvars _ (fun _ _=>rfl),rfl,fun b off hp=>?_,fun ha=>?_⟩,fun p hp _=>?_⟩
  ·have hin:MemPlace.cell b off ∈ before:=(hmem _).1 hp
   rw [hb.frozen (old _ hin)]
   exact notFrozen b off hin
  ·have h1:=once ha
   rw [hps] at h1
   exact h1
  ·exact (hmem p).1 hp
end
end Go.AM
namespace Go.AM
open Go.RowKit
theorem trodAll_below {H:Type}{enc:TypeId×Value→H}{P:Program}{W W':World}(hl:laidOutB P=true) (hb:Below W.heap.size W W') (sp:Nat→Bool):∀ {ts:List TypeId}{vs:List Value}{ds:List (DataW H)}{ps:List MemPlace},(ts.all fun t=>P.readableRec t && decide (t<P.types.size))=true→
 DataW.TrodAll enc P W 0 (fun _=>true) true ts vs ds ps→(∀ x ∈ ps,x.block<W.heap.size)→(∀ x ∈ ps,sp x.block=true)→DataW.TrodAll enc P W' 0 sp true ts vs ds ps
 | [],[],[],ps,_,h,_,_=>h
 | [],_::_,_,_,_,h,_,_=>h.elim
 | [],[],_::_,_,_,h,_,_=>h.elim
 | _::_,[],_,_,_,h,_,_=>h.elim
 | _::_,_::_,[],_,_,h,_,_=>h.elim
 | t::ts,v::vs,d::ds,ps,hall,h,hlt,hsp=>by
  obtain ⟨p,q,h1,h2,rfl⟩:=h
  rw [List.all_cons,Zqb,Zqb] at hall
  refine ⟨p,q,?_,trodAll_below hl hb sp hall.2 h2 (fun x hx=>hlt x (by simp [hx])) (fun x hx=>hsp x (by simp [hx])),rfl⟩
  exact WideElems.Trod_stays hl hall.1.1 (Zrq hall.1.2) h1 (fun x hx=>hb.same (hlt x (by simp [hx]))) (fun x hx=>hsp x (by simp [hx]))
end Go.AM
