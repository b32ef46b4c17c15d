/- Contracts of functions over the abstract machine. No conditions. -/
import Derived.Below
import Derived.Lib.Overlaps
import Derived.Laws.Externs
import Derived.ChangeArms
import Derived.DataReads
import Derived.Carry
import Derived.ChangeSame
import Derived.Test.YtacmbogmbfmjeaaGreatAM4
set_option linter.unusedVariables false
set_option linter.unusedSimpArgs false
set_option maxRecDepth 100000
namespace Go.AM
section
variable {t:AT}{s:St}{k:AV->St->Prop}{x y:AO}
theorem Mk (q:IntKind):Ch q q=true:=by cases q <;> rfl
variable {q:IntKind}{a b:Int}
theorem KF {f:Int->Int->Bool}:G1 f (.int q a) (.int q b)=.some (.bool (f a b)):=by
 show (Bool.rec .none (.some (.bool (f a b))) (Ch q q):OV)=_;rw [Mk]
theorem SJ {f:IntKind->Int->Int->Int}:ar f (.int q a) (.int q b)=.some (.int q (f q a b)):=by
 show (Bool.rec .none (.some (.int q (f q a b))) (Ch q q):OV)=_;rw [Mk]
theorem Ea {op:BinOp}{a b v:AV}(hx:ev x t=.some a) (hy:ev y t=.some b) (h:PK op a b=.some v) (hk:k v s):EPrim (.bin op x y) t s k:=by
 refine EPrim.mk (fun e rec=>?_) hk
 show wth x t _=_;unfold wth;rw [hx]
 show wth y t _=_;unfold wth;rw [hy]
 show ret _ s=_;rw [h];rfl
theorem Zef (hx:ev x t=.some (.int q a)) (hy:ev y t=.some (.int q b)) (hk:∀ c:Bool,(c=true↔a<b)->k (.bool c) s):EPrim (.bin .lss x y) t s k:=
 Ea hx hy KF (hk _ (by rw [Gb];simp))
theorem Zeg (hx:ev x t=.some (.int q a)) (hy:ev y t=.some (.int q b)) (hk:∀ c:Bool,(c=true↔a≤b)->k (.bool c) s):EPrim (.bin .leq x y) t s k:=
 Ea hx hy (KF (f:=fun a b=>!E6 b a)) (hk _ (by rw [Gb];simp))
theorem Zeh (hx:ev x t=.some (.int q a)) (hy:ev y t=.some (.int q b)) (hk:∀ c:Bool,(c=true↔b<a)->k (.bool c) s):EPrim (.bin .gtr x y) t s k:=
 Ea hx hy (KF (f:=fun a b=>E6 b a)) (hk _ (by rw [Gb];simp))
theorem Zei (hx:ev x t=.some (.int q a)) (hy:ev y t=.some (.int q b)) (hk:∀ c:Bool,(c=true↔b≤a)->k (.bool c) s):EPrim (.bin .geq x y) t s k:=
 Ea hx hy (KF (f:=fun a b=>!E6 a b)) (hk _ (by rw [Gb];simp))
theorem Zej (hx:ev x t=.some (.int q a)) (hy:ev y t=.some (.int q b)) (hk:∀ c:Bool,(c=true↔a=b)->k (.bool c) s):EPrim (.bin .eql x y) t s k:=
 Ea hx hy (by show Ka (G1 D9 _ _) _=_;rw [KF];rfl) (hk _ (by rw [Gc];simp))
theorem Zee (hx:ev x t=.some (.int q a)) (hy:ev y t=.some (.int q b)) (hk:∀ c:Bool,(c=true↔a≠b)->k (.bool c) s):EPrim (.bin .neq x y) t s k:=
 Ea hx hy (by show Ka (G1 (fun a b=>!D9 a b) _ _) _=_;rw [KF];rfl) (hk _ (by rw [Gc];simp))
theorem Bl {q:IntKind}{a b:Int}(hx:ev x t=.some (.int q a)) (hy:ev y t=.some (.int q b)) (h1:a<b->k (.bool true) s) (h2:b≤a->k (.bool false) s):EPrim (.bin .lss x y) t s k:=
 Zef hx hy fun c hc=>by cases c with|true=>exact h1 (hc.1 rfl)|false=>exact h2 (by simp at hc;omega)
theorem NW {q:IntKind}{a b:Int}(hx:ev x t=.some (.int q a)) (hy:ev y t=.some (.int q b)) (h1:a≤b->k (.bool true) s) (h2:b<a->k (.bool false) s):EPrim (.bin .leq x y) t s k:=
 Zeg hx hy fun c hc=>by cases c with|true=>exact h1 (hc.1 rfl)|false=>exact h2 (by simp at hc;omega)
theorem Vj {q:IntKind}{a b:Int}(hx:ev x t=.some (.int q a)) (hy:ev y t=.some (.int q b)) (h1:b<a->k (.bool true) s) (h2:a≤b->k (.bool false) s):EPrim (.bin .gtr x y) t s k:=
 Zeh hx hy fun c hc=>by cases c with|true=>exact h1 (hc.1 rfl)|false=>exact h2 (by simp at hc;omega)
theorem DV {q:IntKind}{a b:Int}(hx:ev x t=.some (.int q a)) (hy:ev y t=.some (.int q b)) (h1:b≤a->k (.bool true) s) (h2:a<b->k (.bool false) s):EPrim (.bin .geq x y) t s k:=
 Zei hx hy fun c hc=>by cases c with|true=>exact h1 (hc.1 rfl)|false=>exact h2 (by simp at hc;omega)
theorem Il {q:IntKind}{a b:Int}(hx:ev x t=.some (.int q a)) (hy:ev y t=.some (.int q b)) (h1:a=b->k (.bool true) s) (h2:a≠b->k (.bool false) s):EPrim (.bin .eql x y) t s k:=
 Zej hx hy fun c hc=>by cases c with|true=>exact h1 (hc.1 rfl)|false=>exact h2 (by simpa using hc)
theorem Kq {q:IntKind}{a b:Int}(hx:ev x t=.some (.int q a)) (hy:ev y t=.some (.int q b)) (h1:a≠b->k (.bool true) s) (h2:a=b->k (.bool false) s):EPrim (.bin .neq x y) t s k:=
 Zee hx hy fun c hc=>by cases c with|true=>exact h1 (hc.1 rfl)|false=>exact h2 (by simpa using hc)
theorem EPrim.add (hx:ev x t=.some (.int q a)) (hy:ev y t=.some (.int q b)) (hk:k (.int q (q.wrap (a+b))) s):EPrim (.bin .add x y) t s k:=
 Ea hx hy (by show Ka (ar _ _ _) _=_;rw [SJ];rfl) (by rw [ED,X8];exact hk)
theorem EPrim.sub (hx:ev x t=.some (.int q a)) (hy:ev y t=.some (.int q b)) (hk:k (.int q (q.wrap (a-b))) s):EPrim (.bin .sub x y) t s k:=
 Ea hx hy (SJ (f:=fun k a b=>E1 k (P0 a b))) (by rw [ED,R0];exact hk)
theorem EPrim.mul (hx:ev x t=.some (.int q a)) (hy:ev y t=.some (.int q b)) (hk:k (.int q (q.wrap (a*b))) s):EPrim (.bin .mul x y) t s k:=
 Ea hx hy (SJ (f:=fun k a b=>E1 k (P8 a b))) (by rw [ED,RF];exact hk)
theorem i64_in {n:Int}(h:-9223372036854775808≤n∧n≤9223372036854775807):IntKind.i64.wrap n=n:=IntWalk.i64_in n h
theorem Ob (hx:ev x t=.some (.int .i64 a)) (hy:ev y t=.some (.int .i64 b)) (h:-9223372036854775808≤a+b∧a+b≤9223372036854775807) (hk:k (.int .i64 (a+b)) s):EPrim (.bin .add x y) t s k:=
 EPrim.add hx hy (by rw [i64_in h];exact hk)
theorem QT {a b:Int}(hx:ev x t=.some (.int .i64 a)) (hy:ev y t=.some (.int .i64 b)) (h:-9223372036854775808≤a-b∧a-b≤9223372036854775807) (hk:k (.int .i64 (a-b)) s):EPrim (.bin .sub x y) t s k:=
 EPrim.sub hx hy (by rw [i64_in h];exact hk)
theorem Cs {a b:Int}(hx:ev x t=.some (.int .i64 a)) (hy:ev y t=.some (.int .i64 b)) (h:-9223372036854775808≤a*b∧a*b≤9223372036854775807) (hk:k (.int .i64 (a*b)) s):EPrim (.bin .mul x y) t s k:=
 EPrim.mul hx hy (by rw [i64_in h];exact hk)
theorem Zed (hx:ev x t=.some (.int q a)) (hy:ev y t=.some (.int q b)) (h:b≠0) (hk:k (.int q (a.tmod b)) s):EPrim (.bin .rem x y) t s k:=by
 refine Ea hx hy (v:=.int q (a.tmod b)) ?_ hk
 show (Bool.rec .none (Bool.rec (.some (.int q (SO a b))) .none (D9 b 0)) (Ch q q):OV)=_
 rw [Mk,Gc,show (b == 0)=false by simpa using h,VX]
theorem Kp (hx:ev x t=.some (.int q a)) (hy:ev y t=.some (.int q b)) (h:0≤a∧0<b) (hk:k (.int q (a % b)) s):EPrim (.bin .rem x y) t s k:=
 Zed hx hy (by omega) (by rw [Int.tmod_eq_emod_of_nonneg h.1];exact hk)
theorem Jn (hx:ev x t=.some (.bool true)) (hk:k (.bool false) s):EPrim (.un .not x) t s k:=by
 refine EPrim.mk (v:=.bool false) (s':=s) (fun e rec=>?_) hk
 show wth x t _=_;unfold wth;rw [hx];rfl
theorem Ik (hx:ev x t=.some (.bool false)) (hk:k (.bool true) s):EPrim (.un .not x) t s k:=by
 refine EPrim.mk (v:=.bool true) (s':=s) (fun e rec=>?_) hk
 show wth x t _=_;unfold wth;rw [hx];rfl
theorem EPrim.min2 {l:List AO}(hx:Cr t l=some [.int q a,.int q b]) (hk:k (.int q (min a b)) s):EPrim (.mn false l) t s k:=by
 refine EPrim.mk (v:=.int q (min a b)) (s':=s) (fun e rec=>?_) hk
 show (Option.rec .fail (fun l=>List.rec .fail (fun x l _=>ret (mm false l x) s) l) (Cr t l):RV)=_
 rw [hx]
 show ret (Bool.rec .none (.some (.int q (Bool.rec a b (E6 b a)))) (Ch q q):OV) s=_
 rw [Mk,Gb]
 by_cases h:b<a
 ·rw [Zpo h,show min a b=b by omega];rfl
 ·rw [Zp0 h,show min a b=a by omega];rfl
end
end Go.AM
namespace Go.AM
noncomputable def A6:List (Nat×AV)->AT
 | []=>.lf
 | p::l=>(A6 l).set p.2 p.1
theorem RC:∀ {l:List (Nat×AV)}{i:Nat}{v:AV},(A6 l).get i=some v->∃ p ∈ l,p.1=i∧p.2=v
 | [],i,v,h=>by cases h
 | p::l,i,v,h=>by
  rcases FT h with ⟨rfl,rfl⟩|⟨_,h⟩
  ·exact ⟨p,by simp,rfl,rfl⟩
  ·obtain ⟨q,hq,e⟩:=RC h
   exact ⟨q,by simp [hq],e⟩
def nm (rs:List Nat):Nat->Nat:=fun j=>getD rs j
 where getD:List Nat->Nat->Nat
  | [],_=>0
  | x::_,0=>x
  | _::l,j+1=>getD l j
variable {rs:List Nat}
theorem Fe {j r:Nat}(h:rs[j]?=some r):nm rs j=r:=by
 unfold nm
 induction rs generalizing j with
 | nil=>simp at h
 | cons x l ih=>cases j with
  | zero=>simp at h;exact h
  | succ j=>exact ih (by simpa using h)
@[reducible] def TmpOk (n:Nat) (rs:List Nat) (t:AT):List (Nat×AV)->Prop
 | []=>True
 | p::l=>(bd n p.2=true∧t.get p.1=some (Bg (nm rs) p.2))∧TmpOk n rs t l
@[reducible] def RowOk (n:Nat) (all:List Nat) (s:St):List AObj->List Nat->Prop
 | [],[]=>True
 | o::l,r::rs=>(Dw 0 n o=true∧s.get r=some (Bw (nm all) o))∧RowOk n all s l rs
 | _,_=>False
structure Abs (t:AT) (s:St) (tl:List (Nat×AV)) (os:List AObj) (rs:List Nat):Prop where
 nd:rs.Nodup
 tmp:TmpOk os.length rs t tl
 row:RowOk os.length rs s os rs
variable {n:Nat}{t:AT}
theorem TmpOk.get:∀ {l:List (Nat×AV)},TmpOk n rs t l->∀ p ∈ l,bd n p.2=true∧t.get p.1=some (Bg (nm rs) p.2)
 | [],_,p,hp=>by simp at hp
 | q::l,h,p,hp=>by
  rcases Zqt.1 hp with rfl|hp
  ·exact h.1
  ·exact TmpOk.get h.2 p hp
variable {s:St}
theorem RowOk.get {all:List Nat}:∀ {l:List AObj}{rs:List Nat},RowOk n all s l rs->l.length=rs.length∧∀ (j:Nat) o,l[j]?=some o->∃ r,rs[j]?=some r∧Dw 0 n o=true∧s.get r=some (Bw (nm all) o)
 | [],[],_=>⟨rfl,fun j o h=>by simp at h⟩
 | [],_::_,h=>h.elim
 | _::_,[],h=>h.elim
 | o::l,r::rs,h=>by
  obtain ⟨h1,h2⟩:=RowOk.get h.2
  refine ⟨by simp [h1],fun j o' hj=>?_⟩
  cases j with
  | zero=>simp at hj;subst hj;exact ⟨r,by simp,h.1⟩
  | succ j=>simpa using h2 j o' (by simpa using hj)
theorem Ev (os:List AObj):(Aj St0 os).next=os.length:=by rw [Ha];show 0+_=_;omega
theorem Abs.ren {tl:List (Nat×AV)}{os:List AObj}(h:Abs t s tl os rs):Ren 0 (nm rs) t s [] (A6 tl) (Aj St0 os) []:=by
 obtain ⟨hl,hr⟩:=h.row.get
 refine ⟨fun r hr=>by omega,Zp2 _,?_,?_,?_,⟨rfl,by simp⟩⟩
 ·intro i j hi hj e
  rw [Ev] at hi hj
  have e1:=Fe (Zpj (l:=rs) (i:=i) (by omega))
  have e2:=Fe (Zpj (l:=rs) (i:=j) (by omega))
  rw [e1,e2] at e
  exact (List.getElem_inj h.nd).1 e
 ·intro i v hv
  obtain ⟨p,hp,rfl,rfl⟩:=RC hv
  rw [Ev]
  exact h.tmp.get p hp
 ·intro r o ho
  have:=Kt os St0 (Zp2 r) (fun _ _=>rfl) ho
  have hz:r-St0.next=r:=Nat.sub_zero r
  rw [hz] at this
  obtain ⟨q,hq,hb,hg⟩:=hr r o this
  rw [Ev,Fe hq]
  exact ⟨(Zpk.1 this).1,hb,hg⟩
section
variable {P:Program}{rd:Option Nat}{ac:AC}{t:AT}{s:St}{Q:EQ}
theorem W.abs (tl:List (Nat×AV)) (os:List AObj) (rs:List Nat) (h:Abs t s tl os rs) (hw:W P 0 rd ac (A6 tl) (Aj St0 os) [] Q):W P 0 rd ac t s [] Q:=W.ren h.ren hw
theorem M0 {α:Type}(tl:α->List (Nat×AV)) (os:α->List AObj) (μ:α->Nat) (I:α->Prop) (x0:α) (rs:List Nat) (h0:I x0) (ha:Abs t s (tl x0) (os x0) rs)
 (hr:∀ x,I x->W P 0 rd ac (A6 (tl x)) (Aj St0 (os x)) [] (IY (fun t s ds=>ds=[]∧∃ x',I x'∧μ x'<μ x∧∃ rs,Abs t s (tl x') (os x') rs) Q)):W P 0 rd (.loop ac) t s [] Q:=by
 refine W.loop (fun n t s ds=>ds=[]∧∃ x,n=μ x∧I x∧∃ rs,Abs t s (tl x) (os x) rs) (μ x0) ⟨rfl,x0,rfl,h0,rs,ha⟩ ?_
 rintro n t s ds ⟨rfl,x,rfl,hi,rs,ha⟩
 refine W.ren ha.ren ((hr x hi).mono ?_)
 intro y t s ds hq
 cases y with
 | normal=>
  obtain ⟨rfl,x',hi',hm,rs,ha⟩:=(show ds=[]∧∃ x',I x'∧μ x'<μ x∧∃ rs,Abs t s (tl x') (os x') rs from hq)
  exact ⟨μ x',hm,rfl,x',rfl,hi',rs,ha⟩
 | exit id=>exact hq
 | ret=>exact hq
end
end Go.AM
namespace Go.AM
theorem BE {α:Type}{x:Option α}{K:α->Prop}(v:α) (h:x=some v) (hk:K v):(Option.rec (motive:=fun _=>Prop) False K x):=by rw [h];exact hk
section
variable {t:AT}{s:St}{k:AV->St->Prop}{x y:AO}
variable {r o n es i:Nat}{q:IntKind}
theorem NZ (hx:ev x t=.some (.ptr r o)) (hy:ev y t=.some (.int q (Int.ofNat i))) (h:i<n) (hk:k (.ptr r (o+i*es)) s):EPrim (.ixa n es x y) t s k:=by
 refine EPrim.mk (fun e rec=>?_) hk
 show wth x t _=_;unfold wth;rw [hx]
 show wth y t _=_;unfold wth;rw [hy]
 show gd (Nat.blt i n) _=_
 rw [show Nat.blt i n=true by simpa using h];rfl
variable {c:Option Nat}
theorem He (hx:ev x t=.some (.sl r o n c)) (hy:ev y t=.some (.int q (Int.ofNat i))) (h:i<n) (hk:k (.ptr r (o+i*es)) s):EPrim (.ixs es x y) t s k:=by
 refine EPrim.mk (fun e rec=>?_) hk
 show wth x t _=_;unfold wth;rw [hx]
 show wth y t _=_;unfold wth;rw [hy]
 show gd (Nat.blt i n) _=_
 rw [show Nat.blt i n=true by simpa using h];rfl
variable {l:List AV}
theorem Zca (hx:ev x t=.some (.fz n c l)) (hy:ev y t=.some (.int q (Int.ofNat i))) (h:i<n) (hk:k (.fp (l.drop (i*es))) s):EPrim (.ixs es x y) t s k:=by
 rw [← Hk] at hk
 refine EPrim.mk (fun e rec=>?_) hk
 show wth x t _=_;unfold wth;rw [hx]
 show wth y t _=_;unfold wth;rw [hy]
 show gd (Nat.blt i n) _=_
 rw [show Nat.blt i n=true by simpa using h];rfl
def Sl (es n:Nat) (l:List AV) (v:AV):Prop:=(v=.nils∧n=0∧l=[])∨(v=.es∧n=0∧l=[])∨(∃ c,v=.fz n c l∧l.length=n*es)
variable {v:AV}
theorem Sl.hf (h:Sl es n l v):hf v=true:=by
 rcases h with ⟨rfl,_⟩|⟨rfl,_⟩|⟨c,rfl,_⟩ <;> rfl
theorem NX (hx:ev x t=.some v) (h:Sl es n l v) (hk:k (.int .i64 (Int.ofNat n)) s):EPrim (.len x) t s k:=by
 refine EPrim.mk (v:=.int .i64 (Int.ofNat n)) (s':=s) (fun e rec=>?_) hk
 show wth x t _=_;unfold wth;rw [hx]
 rcases h with ⟨rfl,rfl,_⟩|⟨rfl,rfl,_⟩|⟨c,rfl,_⟩ <;> rfl
theorem Cz (hx:ev x t=.some v) (hs:Sl es n l v) (hy:ev y t=.some (.int q (Int.ofNat i))) (h:i<n) (hk:k (.fp (l.drop (i*es))) s):EPrim (.ixs es x y) t s k:=by
 rcases hs with ⟨rfl,rfl,_⟩|⟨rfl,rfl,_⟩|⟨c,rfl,_⟩
 ·omega
 ·omega
 ·exact Zca hx hy h hk
theorem Zb8 (hx:ev x t=.some (.sl r o n c)) (hk:k (.int .i64 (Int.ofNat n)) s):EPrim (.len x) t s k:=by
 refine EPrim.mk (v:=.int .i64 (Int.ofNat n)) (s':=s) (fun e rec=>?_) hk
 show wth x t _=_;unfold wth;rw [hx];rfl
variable {a b:Nat}
theorem QF (hx:ev x t=.some (.int .u32 (Int.ofNat a))) (hy:ev y t=.some (.int .u32 (Int.ofNat b))) (ha:a<4294967296) (hb:b<4294967296) (hk:k (.int .u32 (Int.ofNat (a ^^^ b))) s):EPrim (.bin .xor x y) t s k:=by
 refine Ea hx hy (v:=.int .u32 (Int.ofNat (a ^^^ b))) ?_ hk
 show OV.some (.int .u32 (Int.ofNat (Nat.xor (a % 4294967296) (b % 4294967296))))=_
 rw [Zrf ha,Zrf hb];rfl
theorem UQ (hx:ev x t=.some (.int .u32 (Int.ofNat a))) (hy:ev y t=.some (.int .u32 (Int.ofNat b))) (ha:a<4294967296) (hb:b<4294967296) (hk:k (.int .u32 (Int.ofNat (a &&& b))) s):EPrim (.bin .and x y) t s k:=by
 refine Ea hx hy (v:=.int .u32 (Int.ofNat (a &&& b))) ?_ hk
 show OV.some (.int .u32 (Int.ofNat (Nat.land (a % 4294967296) (b % 4294967296))))=_
 rw [Zrf ha,Zrf hb];rfl
theorem UO (hx:ev x t=.some (.int .u32 (Int.ofNat a))) (ha:a<4294967296) (hk:k (.int .u32 (Int.ofNat (a ^^^ 4294967295))) s):EPrim (.un .xor x) t s k:=by
 refine EPrim.mk (v:=.int .u32 (Int.ofNat (a ^^^ 4294967295))) (s':=s) (fun e rec=>?_) hk
 show wth x t _=_;unfold wth;rw [hx]
 show RV.ok (.int .u32 (Int.ofNat (Nat.xor (4294967295 % 4294967296) (a % 4294967296)))) s=_
 rw [Zrf ha,Zrf (by omega)]
 show RV.ok (.int .u32 (Int.ofNat (4294967295 ^^^ a))) s=_
 rw [Nat.xor_comm]
theorem NV {r:IntKind}(hx:ev x t=.some (.int q (Int.ofNat a))) (hy:ev y t=.some (.int r (Int.ofNat n))) (hn:n≤q.bits) (hk:k (.int q (Int.ofNat (a / 2^n))) s):EPrim (.bin .shr x y) t s k:=by
 refine Ea hx hy (v:=.int q (Int.ofNat (a / 2^n))) ?_ hk
 show OV.some (.int q (Int.ofNat (a / 2^(Nat.min n q.bits))))=_
 rw [show Nat.min n q.bits=n from Nat.min_eq_left hn]
theorem Zcf (ha:a<4294967296):E1 .u32 (Int.ofNat a)=Int.ofNat a:=by
 show Int.ofNat (a % 4294967296)=_;rw [Zrf ha]
theorem ZU (hx:ev x t=.some (.int q (Int.ofNat a))) (ha:a<4294967296) (hk:k (.int .u32 (Int.ofNat a)) s):EPrim (.cvi .u32 x) t s k:=by
 refine EPrim.mk (v:=.int .u32 (Int.ofNat a)) (s':=s) (fun e rec=>?_) hk
 show wth x t _=_;unfold wth;rw [hx]
 show RV.ok (.int .u32 (E1 .u32 (Int.ofNat a))) s=_
 rw [Zcf ha]
theorem Vi {b:Int}(hx:ev x t=.some (.int .i64 (Int.ofNat a))) (hy:ev y t=.some (.int .i64 b)) (hb:b=1) (h:a<9223372036854775807) (hk:k (.int .i64 (Int.ofNat (a+1))) s):EPrim (.bin .add x y) t s k:=by
 subst hb
 refine Ob hx hy ?_ ?_
 ·have:Int.ofNat a=(a:Int):=rfl
  omega
 ·exact hk
theorem Vh (hx:ev x t=.some (.int q (Int.ofNat a))) (hy:ev y t=.some (.int q (Int.ofNat b))) (h1:a<b->k (.bool true) s) (h2:b≤a->k (.bool false) s):EPrim (.bin .lss x y) t s k:=
 Bl hx hy (fun h=>h1 (by have e1:Int.ofNat a=(a:Int):=rfl;have e2:Int.ofNat b=(b:Int):=rfl;omega)) (fun h=>h2 (by have e1:Int.ofNat a=(a:Int):=rfl;have e2:Int.ofNat b=(b:Int):=rfl;omega))
end
def byV (b:Nat):AV:=.int .u8 (Int.ofNat b)
def Ad (l:List Nat):List AV:=l.map byV
theorem ZQ {l:List Nat}{i:Nat}(h:i<l.length):((Ad l).drop (i*1))[0]?=some (.int .u8 (Int.ofNat l[i])):=by
 rw [Zpu];simp [Ad,byV,h]
end Go.AM
namespace Go.AM
mutual
def sc:AV->Bool
 | .ptr ..|.sl ..|.map ..|.yld ..|.fz ..|.fp ..=>false
 | .fn _ a b=>Jc a && Jc b
 | .iface _ v=>sc v
 | .agg l|.tup l=>Jc l
 | _=>true
def Jc:List AV->Bool
 | []=>true
 | v::l=>sc v && Jc l
end
section
variable {P:Program}{γ γ2:Gam}
mutual
theorem Th:∀ (v:AV) {v':Value},sc v=true->VR γ v v'->VR γ2 v v'
 | .bool b,_,_,.bool _=>.bool _
 | .int k n,_,_,.int _ _=>.int _ _
 | .str l,_,_,.str _ s e=>.str _ s e
 | .ptr _ _,_,h,_=>by cases h
 | .nilp,_,_,.nilp=>.nilp
 | .sl ..,_,h,_=>by cases h
 | .nils,_,_,.nils=>.nils
 | .es,_,_,.es a c=>.es a c
 | .ez,_,_,.ez a=>.ez a
 | .map _,_,h,_=>by cases h
 | .nilm,_,_,.nilm=>.nilm
 | .fn f xs ys,_,h,.fn _ _ _ as bs a b=>by
  simp only [sc,Zpl] at h
  exact .fn f xs ys as bs (MH xs h.1 a) (MH ys h.2 b)
 | .yld _,_,h,_=>by cases h
 | .nilf,_,_,.nilf=>.nilf
 | .iface t v,_,h,.iface _ _ v' e=>.iface t v v' (Th v h e)
 | .nili,_,_,.nili=>.nili
 | .agg l,_,h,.agg _ a e o=>.agg l a (MH l h e) o
 | .tup l,_,h,.tup _ a e=>.tup l a (MH l h e)
 | .any,_,_,.any v e=>.any v e
 | .fz ..,_,h,_=>by cases h
 | .fp _,_,h,_=>by cases h
theorem MH:∀ (l:List AV) {m:List Value},Jc l=true->All2 (VR γ) l m->All2 (VR γ2) l m
 | [],_,_,.nil=>.nil
 | v::l,_,h,.cons a b=>by
  simp only [Jc,Zpl] at h
  exact .cons (Th v h.1 a) (MH l h.2 b)
end
variable {s:St}
theorem IE {f:Nat}{args args2:List AV}{u:AV}(hF:All2 (Frz s) args args2) (hu:sc u=true) (h:C P f args2 St0 (fun v s'=>v=u∧s'=Aj St0 [])):C P f args s (fun v s'=>v=u∧s'=s):=by
 intro γ vals w m hA hs
 let φ:Nat->Option (Array Value):=fun b=>match w.heap[b]? with|some (.cells c _ _)=>some c|_=>none
 have hφ:∀ b c,φ b=some c->∃ e fr,w.heap[b]?=some (.cells c e fr):=by
  intro b c hc
  have hc:(match w.heap[b]? with|some (.cells c _ _)=>some c|_=>none)=some c:=hc
  split at hc
  ·rename_i c' e fr hh;cases hc;exact ⟨e,fr,hh⟩
  ·cases hc
 have hφ2:∀ b c e fr,w.heap[b]?=some (.cells c e fr)->φ b=some c:=by
  intro b c e fr hc
  show (match w.heap[b]? with|some (.cells c _ _)=>some c|_=>none)=some c
  rw [hc]
 have hA2:All2 (VR ⟨fun _=>none,φ⟩) args2 vals:=I4 hs (fun b c e=>by obtain ⟨t,fr,hh⟩:=hs.fzc b c e;exact hφ2 b c t fr hh) (fun r e cs L c _ _ hh=>hφ2 L.b c e (0,0) hh) hF hA
 refine CallsIn.mono (h ⟨fun _=>none,φ⟩ vals w m hA2 (P3 hφ)) ?_
 rintro e w' ⟨v,s',⟨rfl,rfl⟩,v',γ',rfl,hst,hsim,hv⟩
 have hblk:∀ b,b<w.heap.size->w'.heap[b]?=w.heap[b]?:=fun b hb=>hst.blk b hb (fun r L e=>by cases e)
 refine ⟨_,_,⟨rfl,rfl⟩,v',γ,rfl,?_,?_,Th v hu hv⟩
 ·exact ⟨Le.refl γ,fun r L h h'=>(by rw [h] at h';cases h'),Zp4 _,hst.size,hst.os,hst.tape,hst.output,fun b hb _=>hblk b hb,fun _ _ _=>rfl,fun b c h h'=>(by rw [h] at h';cases h')⟩
 ·refine ⟨fun r o L ho hL=>(hs.obj r o L ho hL).heap (hblk _ (hs.lt r L hL)),hs.inj,fun r L hL=>Zrc (hs.lt r L hL) hst.size,hs.nx,hs.dom,fun b c e=>?_,hs.fzr⟩
  obtain ⟨t,fr,hh⟩:=hs.fzc b c e
  exact ⟨t,fr,(hblk b (hs.fzlt e)).trans hh⟩
noncomputable def I1 (s:St) (v:AV):Option (List Nat):=
 SR.rec none (fun r o n _=>Option.rec none C0 (load r o n s)) (some []) (some []) (fun n _ l=>Bool.rec none (C0 l) (Nat.beq (A7 l) n)) (B6 v)
theorem UL:∀ {l:List AV}{bs:List Nat},C0 l=some bs->l=Ad bs∧∀ b ∈ bs,b<256:=by
 intro l
 induction l with
 | nil=>intro bs h;cases h;exact ⟨rfl,by simp⟩
 | cons x l ih=>
  intro bs h
  change (IR.rec none (fun k n=>Bool.rec none (Int.rec (fun a=>Bool.rec none (Option.rec none (fun r=>some (a::r)) (C0 l)) (Nat.blt a 256)) (fun _=>none) n) (Nat.beq (GF k) 4)) (asInt x):Option (List Nat))=some bs at h
  cases hc:asInt x with
  | no=>rw [hc] at h;cases h
  | int k n=>
   rw [hc] at h
   dsimp only at h
   cases hk:Nat.beq (GF k) 4 with
   | false=>rw [hk] at h;cases h
   | true=>
    rw [hk] at h
    have hku:k=.u8:=by cases k <;> first|rfl|cases hk
    subst hku
    cases n with
    | negSucc n=>cases h
    | ofNat a=>
     dsimp only at h
     cases hb:Nat.blt a 256 with
     | false=>rw [hb] at h;cases h
     | true=>
      rw [hb] at h
      rw [Zq1] at hb
      cases hbo:C0 l with
      | none=>rw [hbo] at h;cases h
      | some r=>
       rw [hbo] at h;cases h
       obtain ⟨e1,e2⟩:=ih hbo
       refine ⟨by rw [EE hc,e1];rfl,?_⟩
       intro b hb'
       rcases Zqt.1 hb' with rfl|hb'
       ·exact hb
       ·exact e2 b hb'
theorem BH (bs:List Nat):hfs (Ad bs)=true:=hfs_iff.2 fun v hv=>by
 obtain ⟨b,_,rfl⟩:=Zqj.1 hv;rfl
theorem Mw:∀ (bs:List Nat),All2 (Frz s) (Ad bs) (Ad bs)
 | []=>.nil
 | b::bs=>.cons (.plain _ rfl) (Mw bs)
theorem B2 (bs:List Nat):(Ad bs).length=bs.length:=Zpq ..
theorem U2 {v:AV}{bs:List Nat}(h:I1 s v=some bs):∃ v2,Frz s v v2∧Sl 1 bs.length (Ad bs) v2∧∀ b ∈ bs,b<256:=by
 unfold I1 at h
 cases hq:B6 v with
 | no=>rw [hq] at h;cases h
 | nils=>rw [hq] at h;cases h;rw [Ok hq];exact ⟨.nils,.plain _ rfl,.inl ⟨rfl,rfl,rfl⟩,by simp⟩
 | es=>rw [hq] at h;cases h;rw [ON hq];exact ⟨.es,.plain _ rfl,.inr (.inl ⟨rfl,rfl,rfl⟩),by simp⟩
 | sl r o n c=>
  rw [hq] at h
  change (Option.rec none C0 (load r o n s):Option (List Nat))=some bs at h
  cases hl:load r o n s with
  | none=>rw [hl] at h;cases h
  | some cs=>
   rw [hl] at h
   obtain ⟨rfl,hb⟩:=UL (show C0 cs=some bs from h)
   rw [OM hq]
   unfold load at hl
   cases hr:Dm r s with
   | no=>rw [hr] at hl;cases hl
   | row e rs=>
    rw [hr] at hl
    change Bo n (D0 o rs)=some (Ad bs) at hl
    obtain ⟨e1,e2⟩:=Km n hl
    rw [Hk] at e1 e2
    have hn:bs.length=n:=by
     have:=congrArg List.length e1
     rw [B2,Zp9] at this
     omega
    refine ⟨.fz n none (Ad bs),.sl r o n c none e rs (Ad bs) (Ad bs) (Kn hr) ?_ (Mw bs) (.inl rfl),.inr (.inr ⟨none,by rw [hn],by rw [B2,Zqm]⟩),hb⟩
    intro i x hx
    rw [e1,Zqw] at hx
    split at hx
    ·rwa [Zpu] at hx
    ·cases hx
 | fz n c l=>
  rw [hq] at h
  change (Bool.rec none (C0 l) (Nat.beq (A7 l) n):Option (List Nat))=some bs at h
  cases hl:Nat.beq (A7 l) n with
  | false=>rw [hl] at h;cases h
  | true=>
   rw [hl] at h
   obtain ⟨rfl,hb⟩:=UL (show C0 l=some bs from h)
   rw [Sf hq]
   have hn:bs.length=n:=by
    have:=Zpp hl
    rw [CY,B2] at this
    exact this
   exact ⟨_,.plain _ rfl,.inr (.inr ⟨c,by rw [hn],by rw [B2,Zqm]⟩),hb⟩
end
end Go.AM
namespace Go.AM
theorem Z9 {α:Type}{x:α}:∀ (n k:Nat),k+1<2^n->(T.sing x n k).get k=some x:=by
 intro n
 induction n with
 | zero=>intro k h;simp at h
 | succ n ih=>
  intro k h
  cases k with
  | zero=>rfl
  | succ k=>
   have hk:k / 2+1<2^n:=by rw [Nat.pow_succ] at h;omega
   show T.get (Bool.rec (T.nd none .lf (T.sing x n (Nat.div k 2))) (T.nd none (T.sing x n (Nat.div k 2)) .lf) (Nat.beq (Nat.mod k 2) 0)) (k+1)=some x
   cases hb:Nat.beq (Nat.mod k 2) 0
   ·show (Bool.rec (T.get (T.sing x n (Nat.div k 2)) (Nat.div k 2)) _ (Nat.beq (Nat.mod k 2) 0):Option α)=some x
    rw [hb];exact ih _ hk
   ·show (Bool.rec _ (T.get (T.sing x n (Nat.div k 2)) (Nat.div k 2)) (Nat.beq (Nat.mod k 2) 0):Option α)=some x
    rw [hb];exact ih _ hk
theorem Us {α:Type}{x:α}:∀ (t:T α) (k:Nat),k<1000000000->(t.set x k).get k=some x:=by
 intro t
 induction t with
 | lf=>intro k h;exact Z9 64 k (by omega)
 | nd v l r il ir=>
  intro k h
  cases k with
  | zero=>rfl
  | succ k=>
   have hk:k / 2<1000000000:=by omega
   show T.get (Bool.rec (T.nd v l (r.set x (Nat.div k 2))) (T.nd v (l.set x (Nat.div k 2)) r) (Nat.beq (Nat.mod k 2) 0)) (k+1)=some x
   cases hb:Nat.beq (Nat.mod k 2) 0
   ·show (Bool.rec (T.get (r.set x (Nat.div k 2)) (Nat.div k 2)) _ (Nat.beq (Nat.mod k 2) 0):Option α)=some x
    rw [hb];exact ir _ hk
   ·show (Bool.rec _ (T.get (l.set x (Nat.div k 2)) (Nat.div k 2)) (Nat.beq (Nat.mod k 2) 0):Option α)=some x
    rw [hb];exact il _ hk
variable {s:St}{o:AObj}
theorem QB (h:s.next<1000000000):(s.alloc o).get s.next=some o:=by
 cases s;exact Us _ _ h
variable {r:Nat}
theorem LK (h:r<1000000000):(s.put r o).get r=some o:=by
 cases s;exact Us _ _ h
variable {e:Nat}{cs:List AV}
theorem Ot (h:s.get r=some (.row e cs)):Dm r s=.row e cs:=by
 unfold Dm;rw [h];rfl
theorem G8 {o n:Nat}(h:s.get r=some (.row e cs)) (hl:o+n≤cs.length):load r o n s=some ((cs.drop o).take n):=by
 unfold load;rw [Ot h]
 show Bo n (D0 o cs)=_
 rw [Hk];exact Fz (by simp;omega)
theorem Zlr:∀ {vs:List AV}{o:Nat}{l:List AV},o+vs.length≤l.length->E5 vs o l=some (l.take o++vs++l.drop (o+vs.length)):=by
 have hH:∀ {vs l:List AV},vs.length≤l.length->JK vs l=some (vs++l.drop vs.length):=by
  intro vs
  induction vs with
  | nil=>intro l _;rfl
  | cons v vs ih=>intro l h;cases l with
   | nil=>simp at h
   | cons x l=>
    show (Option.rec none (fun r=>some (v::r)) (JK vs l):Option (List AV))=_
    rw [ih (by simpa using h)];rfl
 intro vs o
 induction o with
 | zero=>intro l h;show JK vs l=_;rw [hH (by omega)];simp
 | succ o ih=>intro l h;cases l with
  | nil=>simp at h
  | cons x l=>
   show (Option.rec none (fun r=>some (x::r)) (E5 vs o l):Option (List AV))=_
   rw [ih (by simp at h;omega),show o+1+vs.length=(o+vs.length)+1 by omega];rfl
theorem FU {o:Nat}{vs:List AV}(h:s.get r=some (.row e cs)) (hl:o+vs.length≤cs.length):storeAt r o vs s=some (s.put r (.row e (cs.take o++vs++cs.drop (o+vs.length)))):=by
 unfold storeAt;rw [Ot h]
 show (Option.rec none (fun cs'=>some (s.put r (.row e cs'))) (E5 vs o cs):Option St)=_
 rw [Zlr hl]
section
variable {t:AT}{s:St}{k:AV->St->Prop}{x y:AO}
theorem Vg {es r o n l h:Nat}{lo hi:Option AO}(hx:ev x t=.some (.sl r o n none)) (hlo:C8 t lo 0=.n l) (hhi:C8 t hi n=.n h) (h1:l≤h) (h2:h≤n) (h3:l<n) (hk:k (.sl r (o+l*es) (h-l) none) s):EPrim (.slc es x lo hi none) t s k:=by
 refine EPrim.mk (fun e rec=>?_) hk
 show wth x t _=_;unfold wth;rw [hx]
 show (NR.rec .fail _ (C8 t lo 0):RV)=_;rw [hlo]
 show (NR.rec .fail _ (C8 t hi n):RV)=_;rw [hhi]
 show gd (Nat.ble l h && Nat.ble h n) (Bool.rec (.ok .es s) (.ok (.sl r (o+l*es) (h-l) none) s) (Nat.blt l n))=_
 rw [Zqa h1,Zqa h2,show Nat.blt l n=true by simpa using h3];rfl
theorem Zce {a b:Nat}(hx:ev x t=.some (.int .i64 (Int.ofNat a))) (hy:ev y t=.some (.int .i64 (Int.ofNat b))) (h:a+b<9223372036854775807) (hk:k (.int .i64 (Int.ofNat (a+b))) s):EPrim (.bin .add x y) t s k:=
 Ob hx hy (by have e1:Int.ofNat a=(a:Int):=rfl;have e2:Int.ofNat b=(b:Int):=rfl;omega) hk
end
section
variable {P:Program}{γ γ0:Gam}{s s0 S:St}{w w0:World}
end
end Go.AM
namespace Go.AM
open Go.RowKit
noncomputable def Jd {α:Type}:List (Nat×α)->T α
 | []=>.lf
 | p::l=>(Jd l).set p.2 p.1
theorem OA {α:Type}:∀ {l:List (Nat×α)}{f:Nat}{a:α},(Jd l).get f=some a->∃ p ∈ l,p.1=f∧p.2=a
 | [],_,_,h=>by cases h
 | p::l,f,a,h=>by
  rcases FT h with ⟨rfl,rfl⟩|⟨_,h⟩
  ·exact ⟨p,by simp,rfl,rfl⟩
  ·obtain ⟨q,hq,e⟩:=OA h
   exact ⟨q,by simp [hq],e⟩
def GOk (P : Program) (p : Nat × AFn) : Prop := ∃ fn, P.funcs[p.1]? = some fn ∧ Gi P fn = some p.2 ∧ (fn.name == "runtime.NumGoroutine") = false
def Ek (P:Program) (p:Nat×Ov):Prop:=OvOk P p.1 p.2
def XOk (P:Program) (p:Nat×Ov):Prop:=∀ γ args vals s w v s',All2 (VR γ) args vals->Sim P γ s w->p.2 args s=.ok v s'->
 ∃ v' γ' w',(callFunc p.1 vals.toArray).run P w=.ok (.value v') w'∧Stp γ s w γ' s' w'∧Sim P γ' s' w'∧VR γ' v v'
def All {α:Type}(p:α->Prop):List α->Prop
 | []=>True
 | x::l=>p x∧All p l
theorem All.get {α:Type}{p:α->Prop}:∀ {l:List α},All p l->∀ x ∈ l,p x
 | [],_,x,h=>by simp at h
 | y::l,h,x,hx=>by
  rcases Zqt.1 hx with rfl|hx
  ·exact h.1
  ·exact All.get h.2 x hx
theorem Zos {P:Program}{e:Env}{gl:List (Nat×AFn)}{ol xl:List (Nat×Ov)}(hG:e.G=Jd gl) (hO:e.O=Jd ol) (hX:e.X=Jd xl) (g:All (GOk P) gl) (o:All (Ek P) ol) (x:All (XOk P) xl):EnvOk P e:=by
 refine ⟨fun f af h=>?_,fun f h hh=>?_,fun f h hh=>?_⟩
 ·rw [hG] at h
  obtain ⟨p,hp,rfl,rfl⟩:=OA h
  exact g.get p hp
 ·rw [hO] at hh
  obtain ⟨p,hp,rfl,rfl⟩:=OA hh
  exact Zg4 (o.get p hp)
 ·rw [hX] at hh
  obtain ⟨p,hp,rfl,rfl⟩:=OA hh
  exact x.get p hp
noncomputable def S2 (r:RV):Bool:=RV.rec false (fun v _=>BR.rec false true false (asBool v)) r
theorem Zdl {r:RV}(h:S2 r=true):∃ s',r=.ok (.bool true) s':=by
 cases r with
 | fail=>cases h
 | ok v s=>
  have h:(BR.rec false true false (asBool v):Bool)=true:=h
  cases hb:asBool v with
  | no=>rw [hb] at h;cases h
  | tt=>rw [Mb hb];exact ⟨s,rfl⟩
  | ff=>rw [hb] at h;cases h
end Go.AM
namespace Go.AM
def FE (l:Nat) (s:St) (K:LoopState->Option Nat->Nat->AT->List Nat->AC->AC->Nat->Prop):Prop:=LP.rec False K (Db l s)
def Ti (l:Nat) (k:AV->St->Prop):EQ:=fun x _ s _=>
 Ex.rec (FE l s fun _ _ fn tm ps asg body d=>k (.bool true) (s.put l (.loop .ready none fn tm ps asg body d)))
  (fun id=>FE l s fun _ _ fn tm ps asg body d=>k (.bool false) (s.put l (.loop .done (some (id+1)) fn tm ps asg body d)))
  (FE l s fun _ _ fn tm ps asg body d=>k (.bool false) (s.put l (.loop .done (some 0) fn tm ps asg body d))) x
def Z4 (e:Env) (l:Nat) (body:AC) (k:AV->St->Prop):EQ:=fun x t s ds=>
 Ex.rec (FE l s fun st pend fn tm ps asg b d=>LoopState.rec (VE e body t (s.put l (.loop .busy pend fn tm ps asg b d)) (some l) ds (Ti l k)) False False False st) (fun _=>False) False x
def YN (e:Env) (l:Nat) (vs:List AV) (s:St) (k:AV->St->Prop):Prop:=
 FE l s fun _ _ _ tm ps asg body _=>wB (Nat.beq (A7 vs) (A7 ps)) (VE e asg (Lc ps vs tm) s (some l) [] (Z4 e l body k)) False
theorem K3 {l:Nat}{s:St}{K:LoopState->Option Nat->Nat->AT->List Nat->AC->AC->Nat->Prop}(h:FE l s K):∃ a b c d e f g i,Db l s=.lp a b c d e f g i∧K a b c d e f g i:=by
 unfold FE at h
 cases hq:Db l s with
 | no=>rw [hq] at h;exact h.elim
 | lp a b c d e f g i=>rw [hq] at h;exact ⟨a,b,c,d,e,f,g,i,rfl,h⟩
section
variable {P:Program}{e:Env}
variable {s:St}
theorem EExec.elim {c:AC}{t:AT}{rd:Option Nat}{ds:List Nat}{Q:EQ}(h:EExec e c t s rd ds Q):∃ n x t' s' ds',exec e n c t s rd ds=.ok x t' s' ds'∧Q x t' s' ds':=by
 unfold EExec at h;exact h
theorem ERound.mk {l:Nat}{vs:List AV}{k:AV->St->Prop}(h:YN e l vs s k):ERound e l vs s k:=by
 unfold YN at h
 obtain ⟨st,pend,fn,tm,ps,asg,body,d,hl,h⟩:=K3 h
 have hb:Nat.beq (A7 vs) (A7 ps)=true:=by
  cases hq:Nat.beq (A7 vs) (A7 ps) with
  | true=>rfl
  | false=>rw [hq] at h;exact (show False from h).elim
 rw [hb] at h
 have h:VE e asg (Lc ps vs tm) s (some l) [] (Z4 e l body k):=h
 obtain ⟨n,x,t1,s1,ds1,h1,h⟩:=(On h).elim
 cases x with
 | exit id=>exact (show False from h).elim
 | ret=>exact (show False from h).elim
 | normal=>
  obtain ⟨st1,pend1,fn1,tm1,ps1,asg1,b1,d1,hl1,h⟩:=K3 (show FE l s1 (fun st pend fn tm ps asg b d=>LoopState.rec (VE e body t1 (s1.put l (.loop .busy pend fn tm ps asg b d)) (some l) ds1 (Ti l k)) False False False st) from h)
  cases st1 with
  | busy=>exact (show False from h).elim
  | done=>exact (show False from h).elim
  | exhausted=>exact (show False from h).elim
  | ready=>
   obtain ⟨m,x2,t2,s2,ds2,h2,h⟩:=(On (show VE e body t1 (s1.put l (.loop .busy pend1 fn1 tm1 ps1 asg1 b1 d1)) (some l) ds1 (Ti l k) from h)).elim
   have key:∃ v s',Hj l (.ok x2 t2 s2 ds2)=.ok v s'∧k v s':=by
    cases x2 with
    | normal=>
     obtain ⟨a,b,c,dd,ee,f,g,i,hq,hk⟩:=K3 (show FE l s2 (fun _ _ fn tm ps asg body d=>k (.bool true) (s2.put l (.loop .ready none fn tm ps asg body d))) from h)
     refine ⟨_,_,?_,hk⟩
     show FV l .ready none true s2=_
     unfold FV;rw [hq]
    | exit id=>
     obtain ⟨a,b,c,dd,ee,f,g,i,hq,hk⟩:=K3 (show FE l s2 (fun _ _ fn tm ps asg body d=>k (.bool false) (s2.put l (.loop .done (some (id+1)) fn tm ps asg body d))) from h)
     refine ⟨_,_,?_,hk⟩
     show FV l .done (some (id+1)) false s2=_
     unfold FV;rw [hq]
    | ret=>
     obtain ⟨a,b,c,dd,ee,f,g,i,hq,hk⟩:=K3 (show FE l s2 (fun _ _ fn tm ps asg body d=>k (.bool false) (s2.put l (.loop .done (some 0) fn tm ps asg body d))) from h)
     refine ⟨_,_,?_,hk⟩
     show FV l .done (some 0) false s2=_
     unfold FV;rw [hq]
   obtain ⟨v,s',hre,hk⟩:=key
   unfold ERound
   refine ⟨max n m,v,s',?_,hk⟩
   unfold I8
   rw [hl]
   show gd (Nat.beq (A7 vs) (A7 ps)) (Mo (exec e (max n m)) l body (exec e (max n m) asg (Lc ps vs tm) s (some l) []))=_
   rw [hb,G9 (Nat.le_max_left n m) _ _ _ _ _ _ _ _ _ h1]
   show (LP.rec .fail (fun st pend fn tm ps asg b d=>LoopState.rec (Hj l (exec e (max n m) body t1 (s1.put l (.loop .busy pend fn tm ps asg b d)) (some l) ds1)) .fail .fail .fail st) (Db l s1):RV)=_
   rw [hl1]
   show Hj l (exec e (max n m) body t1 (s1.put l (.loop .busy pend1 fn1 tm1 ps1 asg1 b1 d1)) (some l) ds1)=_
   rw [G9 (Nat.le_max_right n m) _ _ _ _ _ _ _ _ _ h2]
   exact hre
end
mutual
def LC (r:Nat):AV->Bool
 | .ptr r' _=>Nat.beq r' r
 | .sl r' _ _ _=>Nat.beq r' r
 | .map r'=>Nat.beq r' r
 | .yld r'=>Nat.beq r' r
 | .fn _ a b=>HH r a || HH r b
 | .iface _ v=>LC r v
 | .agg l=>HH r l
 | .tup l=>HH r l
 | _=>false
def HH (r:Nat):List AV->Bool
 | []=>false
 | v::l=>LC r v || HH r l
end
section
variable {P:Program}{γ:Gam}
mutual
variable {r:Nat}
theorem OB:∀ (v:AV) {v':Value},LC r v=true->VR γ v v'->∃ L,γ r=some L
 | .ptr r' o,_,h,.ptr _ _ L e=>⟨L,by rw [← Zpp (show Nat.beq r' r=true from h)];exact e⟩
 | .sl r' o n (some c),_,h,.sl _ _ _ _ L e _=>⟨L,by rw [← Zpp (show Nat.beq r' r=true from h)];exact e⟩
 | .sl r' o n none,_,h,.slu _ _ _ _ L e _ _ _=>⟨L,by rw [← Zpp (show Nat.beq r' r=true from h)];exact e⟩
 | .map r',_,h,.map _ L e=>⟨L,by rw [← Zpp (show Nat.beq r' r=true from h)];exact e⟩
 | .yld r',_,h,.yld _ L e=>⟨L,by rw [← Zpp (show Nat.beq r' r=true from h)];exact e⟩
 | .fn f xs ys,_,h,.fn _ _ _ as bs a b=>by
  simp only [LC,Zq8] at h
  rcases h with h|h
  ·exact Kw xs h a
  ·exact Kw ys h b
 | .iface t v,_,h,.iface _ _ v' e=>OB v h e
 | .agg l,_,h,.agg _ a e o=>Kw l h e
 | .tup l,_,h,.tup _ a e=>Kw l h e
 | .bool _,_,h,_=>by cases h
 | .int _ _,_,h,_=>by cases h
 | .str _,_,h,_=>by cases h
 | .nilp,_,h,_=>by cases h
 | .nils,_,h,_=>by cases h
 | .es,_,h,_=>by cases h
 | .ez,_,h,_=>by cases h
 | .nilm,_,h,_=>by cases h
 | .nilf,_,h,_=>by cases h
 | .nili,_,h,_=>by cases h
 | .any,_,h,_=>by cases h
 | .fz ..,_,h,_=>by cases h
 | .fp _,_,h,_=>by cases h
theorem Kw:∀ (l:List AV) {m:List Value},HH r l=true->All2 (VR γ) l m->∃ L,γ r=some L
 | [],_,h,_=>by cases h
 | v::l,_,h,.cons a b=>by
  simp only [HH,Zq8] at h
  rcases h with h|h
  ·exact OB v h a
  ·exact Kw l h b
end
inductive Named (t:AT) (s:St):Nat->Prop
 | tmp {r:Nat}(i:Nat) (v:AV):t.get i=some v->LC r v=true->Named t s r
 | cell {r:Nat}(r' e:Nat) (cs:List AV) (i:Nat) (v:AV):Named t s r'->s.get r'=some (.row e cs)->cs[i]?=some v->LC r v=true->Named t s r
theorem Named.loc {t:AT}{s:St}{w:World}{tm:Array Value}(ht:TR γ t tm) (hs:Sim P γ s w) {r:Nat}(h:Named t s r):∃ L,γ r=some L:=by
 induction h with
 | tmp i v h1 h2=>
  obtain ⟨v',_,hv⟩:=ht i v h1
  exact OB v h2 hv
 | cell r' e cs i v _ h1 h2 h3 ih=>
  obtain ⟨L,hL⟩:=ih
  obtain ⟨c,e1,_,_,_,_,e6,_⟩:=hs.obj r' _ L h1 hL
  obtain ⟨v',_,hv,_⟩:=e6 i v h2
  exact OB v h3 hv
end
def Pw (l fn:Nat) (tm:AT) (ps:List Nat) (asg body:AC) (d:Nat) (pend:Option Nat) (ds:List Nat) (t:AT) (s:St) (Q:EQ):Prop:=
 Option.rec (Q .normal t (s.put l (.loop .exhausted pend fn tm ps asg body d)) ds) (fun i=>Nat.rec (Q .ret t (s.put l (.loop .exhausted pend fn tm ps asg body d)) ds) (fun id _=>Q (.exit id) t (s.put l (.loop .exhausted pend fn tm ps asg body d)) ds) i) pend
def KX (l:Nat) (ds:List Nat) (t:AT) (s:St) (Q:EQ):Prop:=
 FE l s fun st pend fn tm ps asg body d=>LoopState.rec (Pw l fn tm ps asg body d pend ds t s Q) False (Pw l fn tm ps asg body d pend ds t s Q) (Pw l fn tm ps asg body d pend ds t s Q) st
theorem Zc2 {l:Nat}{ds:List Nat}{t:AT}{s:St}{Q:EQ}(h:KX l ds t s Q):∃ x t' s' ds',J1 l ds t s=.ok x t' s' ds'∧Q x t' s' ds':=by
 obtain ⟨st,pend,fn,tm,ps,asg,body,d,hl,h⟩:=K3 h
 have fin:Pw l fn tm ps asg body d pend ds t s Q->∃ x t' s' ds',K8 l fn tm ps asg body d pend ds t s=.ok x t' s' ds'∧Q x t' s' ds':=by
  intro h
  cases pend with
  | none=>exact ⟨_,_,_,_,rfl,h⟩
  | some i=>cases i with
   | zero=>exact ⟨_,_,_,_,rfl,h⟩
   | succ id=>exact ⟨_,_,_,_,rfl,h⟩
 unfold J1
 rw [hl]
 cases st with
 | busy=>exact (show False from h).elim
 | ready=>exact fin h
 | done=>exact fin h
 | exhausted=>exact fin h
section
variable {P:Program}{γ:Gam}{s:St}{w:World}{t:AT}
variable {ds:List Nat}
theorem Ze8 {N m:Nat}{b:Option Nat}{γ0:Gam}{s0:St}{w0:World}{l:Nat}{L:Loc}{a:Act}{x:Ex}{t':AT}{s':St}{ds':List Nat}{v':Value}{R:Exit->Act->World->Prop}(hR:∀ ex a w,Du P γ0 s0 w0 N x t' s' ds' ex a w->R ex a w) (hN:N≤a.tmps.size) (ht:TR γ t a.tmps) (hs:Sim P γ s w) (hL:γ l=some L) (hd:DR γ ds a.defers) (hst:Stp γ0 s0 w0 γ s w)
 (h:J1 l ds t s=.ok x t' s' ds'):rangePost (BX b) m P L.b R a (.returned v') w:=by
 unfold J1 at h
 obtain ⟨st,pend,fn,tm,ps,asg,body,d,hg,h⟩:=Pm h
 obtain ⟨lp,k1,k2,k3,_⟩:=hs.obj l _ L hg hL
 have hend:st≠.busy->(Instr.endLoop L.b).run P w=.ok lp.pending { w with heap:=w.heap.setIfInBounds L.b (.loop { lp with state:=.exhausted,pending:=lp.pending }) }:=by
  intro hb
  have:(lp.state == LoopState.busy)=false:=by rw [k2];cases st <;> first|rfl|exact absurd rfl hb
  simp only [Instr.endLoop,Zpt,Kl k1,Zpm,this]
  simp only [Bool.false_eq_true,if_false,Zpt,Zpz,Zpm,NI _ k1]
 obtain ⟨hst2,hs2⟩:=Og (st':=.exhausted) (pend':=pend) (pc':=lp.pending) hs hg hL k1 k3
 have fin:st≠.busy->K8 l fn tm ps asg body d pend ds t s=.ok x t' s' ds'->rangePost (BX b) m P L.b R a (.returned v') w:=by
  intro hb hk
  refine ⟨_,_,hend hb,?_⟩
  have hpost:Du P γ0 s0 w0 N x t (s.put l (.loop .exhausted pend fn tm ps asg body d)) ds (Nw x) a { w with heap:=w.heap.setIfInBounds L.b (.loop { lp with state:=.exhausted,pending:=lp.pending }) }:=
   ⟨rfl,hN,γ,hst.trans hst2,hs2,ht,hd⟩
  cases pend with
  | none=>
   cases hk
   rw [show lp.pending=none from k3] at hpost ⊢
   exact hR _ _ _ hpost
  | some i=>
   cases i with
   | zero=>
    cases hk
    rw [show lp.pending=some .ret from k3] at hpost ⊢
    exact wpIn_ret (hR _ _ _ hpost)
   | succ id=>
    cases hk
    rw [show lp.pending=some (.exit id) from k3] at hpost ⊢
    exact wpIn_exit (hR _ _ _ hpost)
 cases st with
 | ready=>exact fin (by simp) h
 | busy=>cases h
 | done=>exact fin (by simp) h
 | exhausted=>exact fin (by simp) h
theorem Pl {k f:Nat}{first cap:List AV}{g:AO}{ps:List Nat}{asg body:AC}{Q:EQ}(hB:Ga P f) (hg:ev g t=.some (.fn f first cap)) (hmap:∀ r,r<s.next->Named t s r)
 (hC:C1 P f (first++.yld (s.next+1)::cap) ((s.alloc .defd).alloc (.loop .ready none 0 t ps asg body s.next)) (fun _ s'=>KX (s.next+1) (s.next::ds) t s' Q)):W P k none (.rng g ps asg body) t s ds Q:=by
 intro N c γ w a b γ0 s0 w0 m h1 h2 h3 h4 h5 h6 h7 h8 h9 h10
 obtain ⟨y,qs,c1,c2,rfl,ey,rfl,e1,e2,hps⟩:=(GB h1:∃ y qs c1 c2,c=.rangeFunc y qs c1 c2∧Ai y=some g∧qs.toList=ps∧Bh P N c1=some asg∧Bh P N c2=some body∧∀ p ∈ ps,p<N)
 cases h5
 refine wpIn_rangeFunc fun fn _=>?_
 have hgR:=Pv h3 ey hg
 obtain ⟨hst1,hs1⟩:=h4.alloc .defd (.deferred (some [])) 0 0 (by show (w.heap.push _)[w.heap.size]?=_;simp)
 have hn1:(s.alloc .defd).next=s.next+1:=CH _ _
 have hle1:=hst1.le
 obtain ⟨γ1,hγ1⟩:∃ γ1,γ1=γ1:=⟨γ,rfl⟩
 obtain ⟨hst2,hs2⟩:=hs1.alloc (.loop .ready none 0 t qs.toList asg body s.next) (.loop { state:=.ready,pending:=none,fn:=fn,tmps:=a.tmps,params:=qs,assign:=c1,body:=c2,defers:=w.heap.size }) 0 0
  ⟨{ state:=.ready,pending:=none,fn:=fn,tmps:=a.tmps,params:=qs,assign:=c1,body:=c2,defers:=w.heap.size },by show ((w.heap.push _).push _)[(w.heap.push _).size]?=_;rw [Array.getElem?_push,Zpn rfl],rfl,rfl,(h3.mono hle1).mono (F6 (hs1.nx _ (Zp4 _))),rfl,⟨N,h2,e1,e2,hps⟩,⟨w.heap.size,0,0,0⟩,(F6 (hs1.nx _ (Zp4 _))).loc _ _ (BB _ _ _),rfl⟩
 have hgR2:=(hgR.mono hle1).mono hst2.le
 rw [hn1] at hst2 hs2 hgR2
 generalize hv:a.eval y=vy at hgR2
 cases hgR2 with
 | fn _ _ _ as bs a1 a2=>
  obtain ⟨fn',cc,f1,f2,f3⟩:=hB
  have f3' : fn'.name ≠ "runtime.NumGoroutine" := by simpa using f3
  have hall:∀ r,r<((s.alloc .defd).alloc (.loop .ready none 0 t qs.toList asg body s.next)).next->∃ L,(ext (ext γ s.next ⟨w.heap.size,0,0,0⟩) (s.next+1) ⟨(w.alloc (.deferred (some []))).heap.size,0,0,0⟩) r=some L:=by
   intro r hr
   rw [CH,hn1] at hr
   rcases Nat.lt_or_ge r s.next with hlt|hge
   ·obtain ⟨L,hL⟩:=(hmap r hlt).loc h3 h4
    exact ⟨L,hst2.le.loc _ _ (hle1.loc _ _ hL)⟩
   ·rcases Nat.eq_or_lt_of_le hge with rfl|hgt
    ·exact ⟨_,hst2.le.loc _ _ (BB _ _ _)⟩
    ·have:r=s.next+1:=by omega
     subst this
     exact ⟨_,BB _ _ _⟩
  have hargs:All2 (VR (ext (ext γ s.next ⟨w.heap.size,0,0,0⟩) (s.next+1) ⟨(w.alloc (.deferred (some []))).heap.size,0,0,0⟩)) (first++.yld (s.next+1)::cap) (as.toList++(Value.func (.yield (w.alloc (.deferred (some []))).heap.size) #[] #[]::bs.toList)):=
   a1.append (.cons (.yld _ _ (BB _ _ _)) a2)
  have hcalls:=hC _ (as.toList++(Value.func (.yield (w.alloc (.deferred (some []))).heap.size) #[] #[]::bs.toList)) _ (m-1) hall hargs hs2
  have heq:(as.toList++(Value.func (.yield (w.alloc (.deferred (some []))).heap.size) #[] #[]::bs.toList)).toArray=as++#[Value.func (.yield (w.alloc (.deferred (some []))).heap.size) #[] #[]]++bs:=by simp
  rw [heq] at hcalls
  refine ⟨(w.alloc (.deferred (some []))).heap.size,[{ target:=.collected w.heap.size,args:=#[] }],((w.alloc (.deferred (some []))).alloc (.loop { state:=.ready,pending:=none,fn:=fn,tmps:=a.tmps,params:=qs,assign:=c1,body:=c2,defers:=w.heap.size })),{ target:=.fn (.func f) bs,args:=as++#[Value.func (.yield (w.alloc (.deferred (some []))).heap.size) #[] #[]] },((w.alloc (.deferred (some []))).alloc (.loop { state:=.ready,pending:=none,fn:=fn,tmps:=a.tmps,params:=qs,assign:=c1,body:=c2,defers:=w.heap.size })),f,as++#[Value.func (.yield (w.alloc (.deferred (some []))).heap.size) #[] #[]]++bs,_,?_,?_,fun f' _=>IB none f',?_,LZ none m,NN (CallsIn.mono hcalls ?_)⟩
  ·rw [Rb]
   simp only [Instr.enterLoop,Zpt,Ir,Zpm,Zpz]
  ·have hmp:(#[Operand.const (.func (.yield (w.alloc (.deferred (some []))).heap.size) #[] #[])]:Array Operand).map a.eval=#[.func (.yield (w.alloc (.deferred (some []))).heap.size) #[] #[]]:=by simp [Act.eval]
   show (Deferred.ofValue (a.eval y) ((#[Operand.const (.func (.yield (w.alloc (.deferred (some []))).heap.size) #[] #[])]:Array Operand).map a.eval)).run P _=_
   rw [hmp,hv];rfl
  ·simp [invoke,callFunc,f1,f3',f2]
  ·rintro _ w3 ⟨v,s3,hout,v',γ3,rfl,hst3,hs3,_⟩
   obtain ⟨x,t',s',ds',hgo,hq⟩:=Zc2 hout
   refine Ze8 (L:=⟨(w.alloc (.deferred (some []))).heap.size,0,0,0⟩) (a:={ a with defers:=[{ target:=.collected w.heap.size,args:=#[] }]++a.defers }) (γ0:=γ0) (s0:=s0) (w0:=w0) (N:=N) (fun ex a w hp=>⟨x,t',s',ds',hq,hp⟩) h2 (((h3.mono hle1).mono hst2.le).mono hst3.le) hs3 (hst3.le.loc _ _ (BB _ _ _)) ?_ (((h7.trans hst1).trans hst2).trans hst3) hgo
   have hdr:DR (ext γ s.next ⟨w.heap.size,0,0,0⟩) (s.next::ds) ([{ target:=.collected w.heap.size,args:=#[] }]++a.defers):=.cons ⟨_,BB _ _ _,rfl⟩ (h6.mono hle1)
   exact (hdr.mono hst2.le).mono hst3.le
end
@[reducible] def RowOkK (k n:Nat) (all:List Nat) (s:St):List AObj->List Nat->Prop
 | [],[]=>True
 | o::l,r::rs=>(Dw k n o=true∧s.get r=some (Bw (nm all) o))∧RowOkK k n all s l rs
 | _,_=>False
structure AbsK (k:Nat) (t:AT) (s:St) (tl:List (Nat×AV)) (os:List AObj) (rs:List Nat):Prop where
 fix:rs.take k=List.range k
 nd:rs.Nodup
 tmp:TmpOk os.length rs t tl
 row:RowOkK k os.length rs s os rs
variable {k:Nat}{s:St}
theorem RowOkK.get {n:Nat}{all:List Nat}:∀ {l:List AObj}{rs:List Nat},RowOkK k n all s l rs->l.length=rs.length∧∀ (j:Nat) o,l[j]?=some o->∃ r,rs[j]?=some r∧Dw k n o=true∧s.get r=some (Bw (nm all) o)
 | [],[],_=>⟨rfl,fun j o h=>by simp at h⟩
 | [],_::_,h=>h.elim
 | _::_,[],h=>h.elim
 | o::l,r::rs,h=>by
  obtain ⟨h1,h2⟩:=RowOkK.get h.2
  refine ⟨by simp [h1],fun j o' hj=>?_⟩
  cases j with
  | zero=>simp at hj;subst hj;exact ⟨r,by simp,h.1⟩
  | succ j=>simpa using h2 j o' (by simpa using hj)
theorem AbsK.ren {t:AT}{tl:List (Nat×AV)}{os:List AObj}{rs:List Nat}(h:AbsK k t s tl os rs):Ren k (nm rs) t s [] (A6 tl) (Aj St0 os) []:=by
 obtain ⟨hl,hr⟩:=h.row.get
 have hk:k≤rs.length:=by
  have:=congrArg List.length h.fix
  simp at this;omega
 have hj:∀ j,j<k->rs[j]?=some j:=by
  intro j hj
  have:(rs.take k)[j]?=(List.range k)[j]?:=by rw [h.fix]
  rw [Zqw,Zpn hj,List.getElem?_range hj] at this
  exact this
 refine ⟨fun r hr=>Fe (hj r hr),by rw [Ev];omega,?_,?_,?_,⟨rfl,by simp⟩⟩
 ·intro i j hi hj e
  rw [Ev] at hi hj
  have e1:=Fe (Zpj (l:=rs) (i:=i) (by omega))
  have e2:=Fe (Zpj (l:=rs) (i:=j) (by omega))
  rw [e1,e2] at e
  exact (List.getElem_inj h.nd).1 e
 ·intro i v hv
  obtain ⟨p,hp,rfl,rfl⟩:=RC hv
  rw [Ev]
  exact h.tmp.get p hp
 ·intro r o ho
  have:=Kt os St0 (Zp2 r) (fun _ _=>rfl) ho
  have hz:r-St0.next=r:=Nat.sub_zero r
  rw [hz] at this
  obtain ⟨q,hq,hb,hg⟩:=hr r o this
  rw [Ev,Fe hq]
  exact ⟨(Zpk.1 this).1,hb,hg⟩
section
variable {P:Program}{rd:Option Nat}{ac:AC}{t:AT}{s:St}{Q:EQ}{k:Nat}
theorem X9 {α:Type}(tl:α->List (Nat×AV)) (os:α->List AObj) (μ:α->Nat) (I:α->Prop) (x0:α) (rs:List Nat) (h0:I x0) (ha:AbsK k t s (tl x0) (os x0) rs)
 (hr:∀ x,I x->W P k rd ac (A6 (tl x)) (Aj St0 (os x)) [] (IY (fun t s ds=>ds=[]∧∃ x',I x'∧μ x'<μ x∧∃ rs,AbsK k t s (tl x') (os x') rs) Q)):W P k rd (.loop ac) t s [] Q:=by
 refine W.loop (fun n t s ds=>ds=[]∧∃ x,n=μ x∧I x∧∃ rs,AbsK k t s (tl x) (os x) rs) (μ x0) ⟨rfl,x0,rfl,h0,rs,ha⟩ ?_
 rintro n t s ds ⟨rfl,x,rfl,hi,rs,ha⟩
 refine W.ren ha.ren ((hr x hi).mono ?_)
 intro y t s ds hq
 cases y with
 | normal=>
  obtain ⟨rfl,x',hi',hm,rs,ha⟩:=(show ds=[]∧∃ x',I x'∧μ x'<μ x∧∃ rs,AbsK k t s (tl x') (os x') rs from hq)
  exact ⟨μ x',hm,rfl,x',rfl,hi',rs,ha⟩
 | exit id=>exact hq
 | ret=>exact hq
end
noncomputable def Ao (R:List AV->AV->Prop):Ov:=fun args s=>open Classical in if h:∃ u,R args u then .ok (Classical.choose h) s else .fail
variable {P:Program}{f:Nat}
theorem WU {R:List AV->AV->Prop}(hb:Ga P f) (h:∀ args u,R args u->∀ s,C P f args s (fun v s'=>v=u∧s'=s)):OvOk P f (Ao R):=by
 refine ⟨hb,fun args s v s' hh=>?_⟩
 unfold Ao at hh
 split at hh
 ·rename_i hx
  cases hh
  exact h args _ (Zqy hx) s
 ·cases hh
variable {e:Env}{vs:List AV}{s:St}{k:AV->St->Prop}
theorem ESc.rel {R:List AV->AV->Prop}(hi:Con e f (Ao R)) (hx:∃ u,R vs u) (hk:∀ u,R vs u->k u s):ESc e f vs s k:=by
 refine ESc.ov hi (v:=Classical.choose hx) (s':=s) ?_ (hk _ (Zqy hx))
 unfold Ao
 rw [dif_pos hx]
theorem ECall.rel {R:List AV->AV->Prop}(hi:Con e f (Ao R)) (hx:∃ u,R vs u) (hk:∀ u,R vs u->k u s):ECall e f vs s k:=by
 refine ECall.ov hi.O (v:=Classical.choose hx) (s':=s) ?_ (hk _ (Zqy hx))
 unfold Ao
 rw [dif_pos hx]
theorem C.abs {args:List AV}{u:AV}{l:List AObj}(h:C P f args St0 (fun v s'=>∃ rs,Abs (T.set .lf v 0) s' [(0,u)] l rs)):C P f args St0 (fun v s'=>v=u∧s'=Aj St0 l):=by
 intro γ vals w m hA hs
 refine CallsIn.mono (h γ vals w m hA hs) ?_
 rintro e w' ⟨v,s',⟨rs,hab⟩,v',γ',rfl,hst,hsim,hv⟩
 have hT:TR γ' (T.set .lf v 0) #[v']:=by
  intro i x hx
  rcases FT hx with ⟨rfl,rfl⟩|⟨_,h⟩
  ·exact ⟨v',rfl,hv⟩
  ·cases h
 obtain ⟨γ2,g1,g2,_,g4⟩:=hab.ren.sim (D:=[]) hT hsim .nil hst rfl hs.nx (fun r hr=>absurd hr (Nat.not_lt_zero r))
 obtain ⟨w2,e1,e2⟩:=g1 0 u rfl
 cases e1
 exact ⟨u,_,⟨rfl,rfl⟩,v',γ2,rfl,g4,g2,e2⟩
end Go.AM
namespace Go.AM
def Tells (P:Program) (k:Nat) (t:AT) (s:St) (ds:List Nat) (t2:AT) (s2:St) (ds2:List Nat):Prop:=
 ∀ (γ:Gam) (w:World) (tm:Array Value) (D:List Deferred) (γ0:Gam) (s0:St) (w0:World),TR γ t tm->Sim P γ s w->DR γ ds D->Stp γ0 s0 w0 γ s w->s0.next=k->(∀ r,k≤r->γ0 r=none)->(∀ r,r<k->∃ L,γ0 r=some L)->
  ∃ γ2,TR γ2 t2 tm∧Sim P γ2 s2 w∧DR γ2 ds2 D∧Stp γ0 s0 w0 γ2 s2 w
section
variable {P:Program}{k:Nat}{rd:Option Nat}{ac:AC}{t:AT}{s:St}{ds:List Nat}{t2:AT}{s2:St}{ds2:List Nat}{Q:EQ}
theorem Tells.refl:Tells P k t s ds t s ds:=fun γ w tm D γ0 s0 w0 h1 h2 h3 h4 _ _ _=>⟨γ,h1,h2,h3,h4⟩
theorem Tells.trans {t3:AT}{s3:St}{ds3:List Nat}(h:Tells P k t s ds t2 s2 ds2) (h':Tells P k t2 s2 ds2 t3 s3 ds3):Tells P k t s ds t3 s3 ds3:=by
 intro γ w tm D γ0 s0 w0 h1 h2 h3 h4 h5 h6 h7
 obtain ⟨γ2,q1,q2,q3,q4⟩:=h γ w tm D γ0 s0 w0 h1 h2 h3 h4 h5 h6 h7
 exact h' γ2 w tm D γ0 s0 w0 q1 q2 q3 q4 h5 h6 h7
theorem Ren.tells {ρ:Nat->Nat}(h:Ren k ρ t s ds t2 s2 ds2):Tells P k t s ds t2 s2 ds2:=fun γ w tm D γ0 s0 w0 h1 h2 h3 h4 h5 h6 h7=>h.sim h1 h2 h3 h4 h5 h6 h7
variable {tl:List (Nat×AV)}{os:List AObj}{rs:List Nat}
theorem Abs.tells (h:Abs t s tl os rs):Tells P 0 t s [] (A6 tl) (Aj St0 os) []:=h.ren.tells
theorem AbsK.tells (h:AbsK k t s tl os rs):Tells P k t s [] (A6 tl) (Aj St0 os) []:=h.ren.tells
theorem W.tells (h:Tells P k t s ds t2 s2 ds2) (hw:W P k rd ac t2 s2 ds2 Q):W P k rd ac t s ds Q:=by
 intro N c γ w a b γ0 s0 w0 m h1 h2 h3 h4 h5 h6 h7 h8 h9 h10
 obtain ⟨γ2,hT,hS,hD,hP⟩:=h γ w a.tmps a.defers γ0 s0 w0 h3 h4 h6 h7 h8 h9 h10
 exact hw N c γ2 w a b γ0 s0 w0 m h1 h2 hT hS h5 hD hP h8 h9 h10
theorem DZ {α:Type}(tl:α->List (Nat×AV)) (os:α->List AObj) (μ:α->Nat) (I:α->Prop) (x0:α) (h0:I x0) (ha:Tells P k t s [] (A6 (tl x0)) (Aj St0 (os x0)) [])
 (hr:∀ x,I x->W P k rd ac (A6 (tl x)) (Aj St0 (os x)) [] (IY (fun t s ds=>ds=[]∧∃ x',I x'∧μ x'<μ x∧Tells P k t s [] (A6 (tl x')) (Aj St0 (os x')) []) Q)):W P k rd (.loop ac) t s [] Q:=by
 refine W.loop (fun n t s ds=>ds=[]∧∃ x,n=μ x∧I x∧Tells P k t s [] (A6 (tl x)) (Aj St0 (os x)) []) (μ x0) ⟨rfl,x0,rfl,h0,ha⟩ ?_
 rintro n t s ds ⟨rfl,x,rfl,hi,ha⟩
 refine W.tells ha ((hr x hi).mono ?_)
 intro y t s ds hq
 cases y with
 | normal=>
  obtain ⟨rfl,x',hi',hm,ha⟩:=(show ds=[]∧∃ x',I x'∧μ x'<μ x∧Tells P k t s [] (A6 (tl x')) (Aj St0 (os x')) [] from hq)
  exact ⟨μ x',hm,rfl,x',rfl,hi',ha⟩
 | exit id=>exact hq
 | ret=>exact hq
end
mutual
def CT (n:Nat) (cs:List AV):AV->AV
 | .ptr r o=>cond (Nat.beq r n) (.fp (cs.drop o)) (.ptr r o)
 | .sl r o m c=>cond (Nat.beq r n) (.fz m none (cs.drop o)) (.sl r o m c)
 | .fn f a b=>.fn f (CK n cs a) (CK n cs b)
 | .iface t v=>.iface t (CT n cs v)
 | .agg l=>.agg (CK n cs l)
 | .tup l=>.tup (CK n cs l)
 | .map r=>cond (Nat.beq r n) .any (.map r)
 | .yld r=>cond (Nat.beq r n) .any (.yld r)
 | v=>v
def CK (n:Nat) (cs:List AV):List AV->List AV
 | []=>[]
 | v::l=>CT n cs v::CK n cs l
end
mutual
variable {n:Nat}{cs:List AV}
theorem FZ:∀ (v:AV),hf v=true->CT n cs v=v
 | .ptr ..,h=>by cases h
 | .sl ..,h=>by cases h
 | .map ..,h=>by cases h
 | .yld ..,h=>by cases h
 | .fn f a b,h=>by simp only [hf,Zpl] at h;simp only [CT];rw [Hh a h.1,Hh b h.2]
 | .iface t v,h=>by simp only [CT];rw [FZ v h]
 | .agg l,h=>by simp only [CT];rw [Hh l h]
 | .tup l,h=>by simp only [CT];rw [Hh l h]
 | .bool _,_|.int _ _,_|.str _,_|.nilp,_|.nils,_|.es,_|.ez,_|.nilm,_|.nilf,_|.nili,_|.any,_|.fz _ _ _,_|.fp _,_=>rfl
theorem Hh:∀ (l:List AV),hfs l=true->CK n cs l=l
 | [],_=>rfl
 | v::l,h=>by simp only [hfs,Zpl] at h;simp only [CK];rw [FZ v h.1,Hh l h.2]
end
variable {n:Nat}{cs:List AV}
theorem NJ:∀ (l m:List AV),CK n cs (l++m)=CK n cs l++CK n cs m
 | [],m=>rfl
 | v::l,m=>by simp only [List.cons_append,CK];rw [NJ l m]
theorem Uz:∀ (l:List AV),(CK n cs l).length=l.length
 | []=>rfl
 | v::l=>by simp only [CK,Zqd];rw [Uz l]
theorem UX:∀ {l:List AV}{i:Nat}{v:AV},(CK n cs l)[i]?=some v->∃ u,l[i]?=some u∧v=CT n cs u
 | [],i,v,h=>by simp [CK] at h
 | x::l,i,v,h=>by
  simp only [CK] at h
  cases i with
  | zero=>simp at h;exact ⟨x,by simp,h.symm⟩
  | succ i=>simpa using UX (l:=l) (by simpa using h)
def T0 (n:Nat) (cs:List AV):List (AV×AV×Nat)->List (AV×AV×Nat)
 | []=>[]
 | (a,b,c)::l=>(CT n cs a,CT n cs b,c)::T0 n cs l
def E3 (n:Nat) (cs:List AV):AObj->AObj
 | .row e l=>.row e (CK n cs l)
 | .map es c=>.map (T0 n cs es) c
 | .iter m b se l=>cond (Nat.beq m n) .dead (.iter m b se l)
 | o=>o
def Gg (n:Nat) (cs:List AV):List AObj->List AObj
 | []=>[]
 | o::l=>E3 n cs o::Gg n cs l
theorem U0:∀ (l:List AObj),(Gg n cs l).length=l.length
 | []=>rfl
 | v::l=>by simp only [Gg,Zqd];rw [U0 l]
theorem UY:∀ {l:List AObj}{i:Nat}{v:AObj},(Gg n cs l)[i]?=some v->∃ u,l[i]?=some u∧v=E3 n cs u
 | [],i,v,h=>by simp [Gg] at h
 | x::l,i,v,h=>by
  simp only [Gg] at h
  cases i with
  | zero=>simp at h;exact ⟨x,by simp,h.symm⟩
  | succ i=>simpa using UY (l:=l) (by simpa using h)
def Nv (n:Nat) (cs:List AV):List (Nat×AV)->List (Nat×AV)
 | []=>[]
 | p::l=>(p.1,CT n cs p.2)::Nv n cs l
theorem NT (o:AObj) (h:BO (E3 n cs o)=true):BO o=true:=by
 cases o <;> first|rfl|exact h
section
variable {P:Program}{γ γ2:Gam}{n:Nat}{cs:List AV}
mutual
theorem KW (hz:∀ b c,γ.fz b=some c->γ2.fz b=some c) (hl:∀ r,r≠n->∀ L,γ r=some L->γ2 r=some L)
 (hc:∀ L,γ n=some L->L.o=0∧∃ c:Array Value,γ2.fz L.b=some c∧∃ vs:List Value,(∀ (j:Nat) (u:Value),vs[j]?=some u->c[j]?=some u)∧(∀ u ∈ vs,u.oneCell'=true)∧All2 (VR γ2) cs vs) (hf:hfs cs=true)
 (hm:∀ L v,γ n=some L->v=Value.map (some L.b)∨v=Value.func (.yield L.b) #[] #[]->v.oneCell'=true):∀ (v:AV) {v':Value},VR γ v v'->VR γ2 (CT n cs v) v'
 | .bool b,_,h=>by cases h;exact .bool _
 | .int k n,_,h=>by cases h;exact .int _ _
 | .str l,_,h=>by cases h;rename_i s e;exact .str _ s e
 | .ptr r o,_,h=>by
  cases h with
  | ptr _ _ L e=>
   show VR γ2 (cond (Nat.beq r n) (.fp (cs.drop o)) (.ptr r o)) _
   cases hb:Nat.beq r n with
   | false=>exact .ptr r o L (hl r (Zqo hb) L e)
   | true=>
    have:=Zpp hb;subst this
    obtain ⟨h0,c,h1,vs,h2,h3,h4⟩:=hc L e
    rw [h0,Zpy]
    exact .fp _ (vs.drop o) L.b o c h1 (fun j u hu=>h2 (o+j) u (by rwa [Zpu] at hu)) (fun u hu=>h3 u (Zqv hu)) (h4.drop o) (Oy hf o)
 | .nilp,_,h=>by cases h;exact .nilp
 | .sl r o m c,_,h=>by
  show VR γ2 (cond (Nat.beq r n) (.fz m none (cs.drop o)) (.sl r o m c)) _
  cases hb:Nat.beq r n with
  | false=>
   have hne:=Zqo hb
   cases h with
   | sl _ _ _ c L e a=>exact .sl r o m c _ (hl r hne _ e) a
   | slu _ _ _ c L e a b d=>exact .slu r o m c _ (hl r hne _ e) a b d
  | true=>
   have:=Zpp hb;subst this
   have key:∀ (L:Loc) (cc:Nat),γ r=some L->m≤cc->VR γ2 (.fz m none (cs.drop o)) (.slice (some ⟨L.b,L.o+o,none⟩) m cc):=by
    intro L cc e hnc
    obtain ⟨h0,cl,h1,vs,h2,h3,h4⟩:=hc L e
    rw [h0,Zpy]
    exact .fz m none _ (vs.drop o) L.b o cc cl h1 (fun j u hu=>h2 (o+j) u (by rwa [Zpu] at hu)) (fun u hu=>h3 u (Zqv hu)) (h4.drop o) hnc (fun k hk=>by cases hk) (Oy hf o)
   cases h with
   | sl _ _ _ c L e a=>exact key L c e a
   | slu _ _ _ c L e a b d=>exact key L c e a
 | .nils,_,h=>by cases h;exact .nils
 | .es,_,h=>by cases h;exact .es _ _
 | .ez,_,h=>by cases h;exact .ez _
 | .map r,_,h=>by
  cases h with
  | map _ L e=>
   show VR γ2 (cond (Nat.beq r n) .any (.map r)) _
   cases hb:Nat.beq r n with
   | false=>exact .map r L (hl r (Zqo hb) L e)
   | true=>
    have:=Zpp hb;subst this
    exact .any _ (hm L _ e (.inl rfl))
 | .nilm,_,h=>by cases h;exact .nilm
 | .fn f xs ys,_,h=>by
  cases h with
  | fn _ _ _ as bs a b=>exact .fn f _ _ as bs (M2 hz hl hc hf hm xs a) (M2 hz hl hc hf hm ys b)
 | .yld l,_,h=>by
  cases h with
  | yld _ L e=>
   show VR γ2 (cond (Nat.beq l n) .any (.yld l)) _
   cases hb:Nat.beq l n with
   | false=>exact .yld l L (hl l (Zqo hb) L e)
   | true=>
    have:=Zpp hb;subst this
    exact .any _ (hm L _ e (.inr rfl))
 | .nilf,_,h=>by cases h;exact .nilf
 | .iface t v,_,h=>by
  cases h with
  | iface _ _ v' e=>exact .iface t _ v' (KW hz hl hc hf hm v e)
 | .nili,_,h=>by cases h;exact .nili
 | .agg l,_,h=>by
  cases h with
  | agg _ a e o=>exact .agg _ a (M2 hz hl hc hf hm l e) o
 | .tup l,_,h=>by
  cases h with
  | tup _ a e=>exact .tup _ a (M2 hz hl hc hf hm l e)
 | .any,_,h=>by cases h;rename_i e;exact .any _ e
 | .fz m c l,_,h=>HE hz (.fz m c l) rfl h
 | .fp l,_,h=>HE hz (.fp l) rfl h
theorem M2 (hz:∀ b c,γ.fz b=some c->γ2.fz b=some c) (hl:∀ r,r≠n->∀ L,γ r=some L->γ2 r=some L)
 (hc:∀ L,γ n=some L->L.o=0∧∃ c:Array Value,γ2.fz L.b=some c∧∃ vs:List Value,(∀ (j:Nat) (u:Value),vs[j]?=some u->c[j]?=some u)∧(∀ u ∈ vs,u.oneCell'=true)∧All2 (VR γ2) cs vs) (hf:hfs cs=true)
 (hm:∀ L v,γ n=some L->v=Value.map (some L.b)∨v=Value.func (.yield L.b) #[] #[]->v.oneCell'=true):∀ (l:List AV) {m:List Value},All2 (VR γ) l m->All2 (VR γ2) (CK n cs l) m
 | [],_,h=>by cases h;exact .nil
 | v::l,_,h=>by
  cases h with
  | cons a b=>exact .cons (KW hz hl hc hf hm v a) (M2 hz hl hc hf hm l b)
end
theorem Zff {k:Nat}(hk:k≤n) (hz:∀ b c,γ.fz b=some c->γ2.fz b=some c) (hl:∀ r,r≠n->∀ L,γ r=some L->γ2 r=some L)
 (hc:∀ L,γ n=some L->L.o=0∧∃ c:Array Value,γ2.fz L.b=some c∧∃ vs:List Value,(∀ (j:Nat) (u:Value),vs[j]?=some u->c[j]?=some u)∧(∀ u ∈ vs,u.oneCell'=true)∧All2 (VR γ2) cs vs) (hf:hfs cs=true)
 (hm:∀ L v,γ n=some L->v=Value.map (some L.b)∨v=Value.func (.yield L.b) #[] #[]->v.oneCell'=true) {L:Loc}{o:AObj}{hp:Array Obj}(hb:Dw k (n+1) o=true) (h:ObjR P γ L o hp):ObjR P γ2 L (E3 n cs o) hp:=by
 cases o with
 | row e l=>
  obtain ⟨c,h1,h2,h3,h4,h5,h6,h7⟩:=h
  refine ⟨c,h1,h2,h3,h4,by rw [Uz];exact h5,fun i v hv=>?_,h7⟩
  obtain ⟨u,hu,rfl⟩:=UX hv
  obtain ⟨v',a,b,d⟩:=h6 i u hu
  exact ⟨v',a,KW hz hl hc hf hm u b,d⟩
 | dead=>trivial
 | map es clock=>
  obtain ⟨ms,h1,h2⟩:=h
  refine ⟨ms,h1,?_⟩
  have:∀ (es:List (AV×AV×Nat)) (ms:List MapEntry),All2 (fun (x:AV×AV×Nat) (m:MapEntry)=>VR γ x.1 m.key∧VR γ x.2.1 m.val∧m.born=x.2.2) es ms->All2 (fun (x:AV×AV×Nat) (m:MapEntry)=>VR γ2 x.1 m.key∧VR γ2 x.2.1 m.val∧m.born=x.2.2) (T0 n cs es) ms:=by
   intro es
   induction es with
   | nil=>intro ms h;cases h;exact .nil
   | cons x es ih=>
    intro ms h
    obtain ⟨a,b,c⟩:=x
    cases h with
    | cons h1 h2=>exact .cons ⟨KW hz hl hc hf hm a h1.1,KW hz hl hc hf hm b h1.2.1,h1.2.2⟩ (ih _ h2)
  exact this es _ h2
 | loop st pend fn tm ps asg body d=>
  obtain ⟨lp,h1,h2,h3,h4,h5,h6,D,h8,h10⟩:=h
  simp only [Dw,Zpl] at hb
  have hd:d<k:=by simpa using hb.2
  have hlk:∀ r,r<k->∀ L,γ r=some L->γ2 r=some L:=fun r hr L e=>hl r (by omega) L e
  exact ⟨lp,h1,h2,h3,fun i v hv=>(let ⟨v',a,b⟩:=h4 i v hv;⟨v',a,ID (ρ:=fun r=>r) hz hlk v (Se hb.1 hv) (by rw [OD (n:=k) (fun _ _=>rfl) v (Se hb.1 hv)];exact b)⟩),h5,h6,D,hl d (by omega) D h8,h10⟩
 | defd=>exact h
 | iter m b se l=>
  obtain ⟨h0,M,h1,h2⟩:=h
  show ObjR P γ2 L (cond (Nat.beq m n) .dead (.iter m b se l)) hp
  cases hb:Nat.beq m n with
  | true=>trivial
  | false=>exact ⟨h0,M,hl m (Zqo hb) M h1,h2⟩
end
variable {o:AObj}
theorem Ko (os:List AObj) {r:Nat}(h:(Aj St0 os).get r=some o):os[r]?=some o:=by
 have:=Kt os St0 (Zp2 r) (fun _ _=>rfl) h
 have hz:r-St0.next=r:=Nat.sub_zero r
 rwa [hz] at this
theorem Zar {α:Type}{x:α}:∀ {n k:Nat},k<2^n-1->(T.sing x n k).get k=some x:=by
 intro n
 induction n with
 | zero=>intro k h;simp at h
 | succ n ih=>
  intro k h
  cases k with
  | zero=>rfl
  | succ k=>
   have hk:Nat.div k 2<2^n-1:=by
    show k / 2<2^n-1
    rw [Nat.pow_succ] at h;omega
   change T.get (Bool.rec (T.nd none .lf (T.sing x n (Nat.div k 2))) (T.nd none (T.sing x n (Nat.div k 2)) .lf) (Nat.beq (Nat.mod k 2) 0)) (k+1)=some x
   cases hb:Nat.beq (Nat.mod k 2) 0
   ·change (Bool.rec (T.get (T.sing x n (Nat.div k 2)) (Nat.div k 2)) (T.get T.lf (Nat.div k 2)) (Nat.beq (Nat.mod k 2) 0):Option α)=some x
    rw [hb];exact ih hk
   ·change (Bool.rec (T.get T.lf (Nat.div k 2)) (T.get (T.sing x n (Nat.div k 2)) (Nat.div k 2)) (Nat.beq (Nat.mod k 2) 0):Option α)=some x
    rw [hb];exact ih hk
theorem Ve {α:Type}{x:α}:∀ {t:T α}{k:Nat},k<2^64-1->(t.set x k).get k=some x:=by
 intro t
 induction t with
 | lf=>intro k h;exact Zar h
 | nd v l r il ir=>
  intro k h
  cases k with
  | zero=>rfl
  | succ k=>
   have hk:Nat.div k 2<2^64-1:=by
    show k / 2<2^64-1
    omega
   change T.get (Bool.rec (T.nd v l (r.set x (Nat.div k 2))) (T.nd v (l.set x (Nat.div k 2)) r) (Nat.beq (Nat.mod k 2) 0)) (k+1)=some x
   cases hb:Nat.beq (Nat.mod k 2) 0
   ·change (Bool.rec (T.get (r.set x (Nat.div k 2)) (Nat.div k 2)) (T.get l (Nat.div k 2)) (Nat.beq (Nat.mod k 2) 0):Option α)=some x
    rw [hb];exact ir hk
   ·change (Bool.rec (T.get r (Nat.div k 2)) (T.get (l.set x (Nat.div k 2)) (Nat.div k 2)) (Nat.beq (Nat.mod k 2) 0):Option α)=some x
    rw [hb];exact il hk
theorem Ux (s:St) (o:AObj) (h:s.next<2^64-1):(s.alloc o).get s.next=some o:=by
 cases s;exact Ve h
theorem VN:∀ (l:List AObj) (s:St) {i:Nat}{o:AObj},s.next+l.length<2^64->l[i]?=some o->(Aj s l).get (s.next+i)=some o
 | [],s,i,o,_,h=>by simp at h
 | x::l,s,i,o,hn,h=>by
  rw [Zqd] at hn
  rw [Aj]
  cases i with
  | zero=>
   simp at h;subst h
   rw [Jq l _ (by rw [CH];omega)]
   exact Ux s x (by omega)
  | succ i=>
   have:=VN l (s.alloc x) (i:=i) (o:=o) (by rw [CH];omega) (by simpa using h)
   rw [CH] at this
   rw [show s.next+(i+1)=s.next+1+i by omega];exact this
theorem QS (l:List AObj) {i:Nat}(hn:l.length<2^64) (h:l[i]?=some o):(Aj St0 l).get i=some o:=by
 have:=VN l St0 (i:=i) (o:=o) (by show 0+_<_;omega) h
 rwa [show St0.next+i=i from Zpy i] at this
def Lb:List (Nat×AV)->Bool
 | []=>true
 | p::l=>Nat.blt p.1 18446744073709551615 && Lb l
variable {n:Nat}{cs:List AV}
theorem Wi:∀ {l:List (Nat×AV)}{i:Nat}{v:AV},Lb l=true->(A6 (Nv n cs l)).get i=some v->∃ u,(A6 l).get i=some u∧v=CT n cs u
 | [],i,v,_,h=>by cases h
 | p::l,i,v,hb,h=>by
  simp only [Lb,Zpl] at hb
  rcases FT h with ⟨rfl,rfl⟩|⟨hne,h⟩
  ·exact ⟨p.2,Ve (by have:=(Zq1 (x:=p.1) (y:=18446744073709551615)) ▸ hb.1;omega),rfl⟩
  ·obtain ⟨u,h1,h2⟩:=Wi hb.2 h
   exact ⟨u,U3 hne h1,h2⟩
variable {P:Program}{k e:Nat}{tl:List (Nat×AV)}{os:List AObj}{ds:List Nat}
theorem V6 (hds:∀ d ∈ ds,d<os.length) (hf:hfs cs=true) (hk:k≤os.length) (hb:∀ o ∈ os,Dw k (os.length+1) o=true)
 (hal:∀ o ∈ os.take k,BO o=true) (hn:os.length+1<2^64) (ht:Lb tl=true):
 Tells P k (A6 tl) (Aj St0 (os++[.row e cs])) ds (A6 (Nv os.length cs tl)) (Aj St0 (Gg os.length cs os)) ds:=by
 intro γ w tm D γ0 s0 w0 hT hS hD hP h8 h9 h10
 have hlen:(os++[AObj.row e cs]).length<2^64:=by simpa using hn
 have gn:(Aj St0 (os++[.row e cs])).get os.length=some (.row e cs):=QS _ hlen (by simp)
 have gr:∀ r o,os[r]?=some o->(Aj St0 (os++[.row e cs])).get r=some o:=fun r o h=>QS _ hlen (by rw [Zp3 (Zpk.1 h).1];exact h)
 have nx1:(Aj St0 (os++[.row e cs])).next=os.length+1:=by rw [Ev];simp
 have nx2:(Aj St0 (Gg os.length cs os)).next=os.length:=by rw [Ev,U0]
 let fz2:Nat->Option (Array Value):=fun b=>match γ os.length with
  | some L=>if b=L.b then (match w.heap[b]? with|some (.cells c _ _)=>some c|_=>none) else γ.fz b
  | none=>γ.fz b
 let γ2:Gam:=⟨fun r=>if r<os.length then γ r else none,fz2⟩
 have g2:∀ r,r<os.length->γ2 r=γ r:=fun r hr=>Zpn hr
 have g2s:∀ r L,γ2 r=some L->r<os.length∧γ r=some L:=fun r L e=>by
  by_cases hr:r<os.length
  ·rw [g2 r hr] at e;exact ⟨hr,e⟩
  ·have:γ2 r=none:=Zpr hr
   rw [this] at e;cases e
 have rowN:∀ L,γ os.length=some L->γ.fz L.b=none:=fun L hL=>hS.fzr _ _ L gn rfl hL
 have fz2e:∀ L,γ os.length=some L->∀ b,fz2 b=if b=L.b then (match w.heap[b]? with|some (.cells c _ _)=>some c|_=>none) else γ.fz b:=by
  intro L hL b
  show (match γ os.length with
  | some L=>if b=L.b then (match w.heap[b]? with|some (.cells c _ _)=>some c|_=>none) else γ.fz b
  | none=>γ.fz b)=_
  rw [hL]
 have fz2n:γ os.length=none->∀ b,fz2 b=γ.fz b:=by
  intro hL b
  show (match γ os.length with
  | some L=>if b=L.b then (match w.heap[b]? with|some (.cells c _ _)=>some c|_=>none) else γ.fz b
  | none=>γ.fz b)=_
  rw [hL]
 have hz:∀ b c,γ.fz b=some c->γ2.fz b=some c:=by
  intro b c hc
  show fz2 b=some c
  cases hL:γ os.length with
  | none=>rw [fz2n hL];exact hc
  | some L=>
   rw [fz2e L hL]
   by_cases hbl:b=L.b
   ·subst hbl;rw [rowN L hL] at hc;cases hc
   ·rw [Zpr hbl];exact hc
 have hfz2:∀ b c,fz2 b=some c->γ.fz b=some c∨(∃ L,γ os.length=some L∧b=L.b∧∃ e fr,w.heap[b]?=some (.cells c e fr)):=by
  intro b c hc
  cases hL:γ os.length with
  | none=>rw [fz2n hL] at hc;exact .inl hc
  | some L=>
   rw [fz2e L hL] at hc
   by_cases hbl:b=L.b
   ·rw [Zpn hbl] at hc
    split at hc
    ·rename_i c' t fr hh;cases hc;exact .inr ⟨L,rfl,hbl,t,fr,hh⟩
    ·cases hc
   ·rw [Zpr hbl] at hc;exact .inl hc
 have hbn:∀ L,γ os.length=some L->w0.heap.size≤L.b:=by
  intro L hL
  have h0:γ0 os.length=none:=h9 _ hk
  rcases (hP.new _ L hL h0).2 with h|⟨r0,L0,e0,e1⟩
  ·exact h
  ·exfalso
   have hr0:r0<k:=Nat.lt_of_not_le fun hle=>by rw [h9 r0 hle] at e0;cases e0
   have hr1:r0<os.length:=by omega
   have hget:=gr r0 _ (Zpj hr1)
   have ha:=hal os[r0] (Zrd.2 ⟨r0,by rw [Zqw,Zpn hr0];exact Zpj hr1⟩)
   exact hS.inj r0 os.length _ _ L0 L hget gn ha rfl (hP.le.loc _ _ e0) hL (by omega) e1
 -- the frozen row
 have hc:∀ L,γ os.length=some L->L.o=0∧∃ c:Array Value,γ2.fz L.b=some c∧∃ vs:List Value,(∀ (j:Nat) (u:Value),vs[j]?=some u->c[j]?=some u)∧(∀ u ∈ vs,u.oneCell'=true)∧All2 (VR γ2) cs vs:=by
  intro L hL
  obtain ⟨c,e1,e2,e3,e4,e5,e6,e7⟩:=hS.obj _ _ L gn hL
  refine ⟨e2,c,?_,c.toList.take cs.length,?_,?_,?_⟩
  ·show fz2 L.b=some c
   rw [fz2e L hL,Zpn rfl,e1]
  ·intro j u hj
   rw [Zqw] at hj
   split at hj
   ·simpa using hj
   ·cases hj
  ·intro u hu;exact e7 u (Zqq hu)
  ·refine GD hz cs hf (EB (by simp;omega) ?_)
   intro i v v' hv hv'
   obtain ⟨v1,h1,h2,_⟩:=e6 i v hv
   rw [Zqw,Zpn (Zpk.1 hv).1] at hv'
   have:c[i]?=some v':=by simpa using hv'
   rw [h1] at this;cases this;exact h2
 have hl:∀ r,r≠os.length->∀ L,γ r=some L->γ2 r=some L:=by
  intro r hr L e
  have:r<os.length:=by
   refine Nat.lt_of_not_le fun hle=>?_
   have:=hS.nx r (by rw [nx1];omega)
   rw [this] at e;cases e
  rw [g2 r this];exact e
 have hm:∀ L v,γ os.length=some L->v=Value.map (some L.b)∨v=Value.func (.yield L.b) #[] #[]->v.oneCell'=true:=by
  rintro L v _ (rfl|rfl) <;> rfl
 have bk:∀ r o,(Aj St0 (Gg os.length cs os)).get r=some o->r<os.length∧∃ o',(Aj St0 (os++[.row e cs])).get r=some o'∧Dw k (os.length+1) o'=true∧o=E3 os.length cs o':=by
  intro r o ho
  obtain ⟨u,h1,h2⟩:=UY (Ko _ ho)
  exact ⟨(Zpk.1 h1).1,u,gr r u h1,hb u (Zp5 h1),h2⟩
 have hlt0:∀ r L,γ0 r=some L->r<k:=fun r L e=>Nat.lt_of_not_le fun hk'=>by rw [h9 r hk'] at e;cases e
 refine ⟨γ2,?_,⟨?_,?_,?_,?_,?_,?_,?_⟩,?_,⟨⟨?_,?_⟩,?_,?_,hP.size,hP.os,hP.tape,hP.output,hP.blk,?_,?_⟩⟩
 ·intro i v hv
  obtain ⟨u,h1,rfl⟩:=Wi ht hv
  obtain ⟨v',e1,e2⟩:=hT i u h1
  exact ⟨v',e1,KW hz hl hc hf hm u e2⟩
 ·intro r o L ho hL
  obtain ⟨hr,o',h1,h2,rfl⟩:=bk r o ho
  exact Zff hk hz hl hc hf hm h2 (hS.obj r o' L h1 (g2s r L hL).2)
 ·intro r r' o o' L L' ho ho' ha ha' hL hL' hne
  obtain ⟨hr,p,h1,h2,rfl⟩:=bk r o ho
  obtain ⟨hr',p',h1',h2',rfl⟩:=bk r' o' ho'
  exact hS.inj r r' p p' L L' h1 h1' (NT _ ha) (NT _ ha') (g2s r L hL).2 (g2s r' L' hL').2 hne
 ·intro r L hL;exact hS.lt r L (g2s r L hL).2
 ·intro r hr;rw [nx2] at hr;exact Zpr (by omega)
 ·intro r o ho;rw [nx2];exact (bk r o ho).1
 ·intro b c hbc
  rcases hfz2 b c hbc with h|⟨_,_,_,h⟩
  ·exact hS.fzc b c h
  ·exact h
 ·intro r o L ho ha hL
  obtain ⟨hr,p,h1,h2,rfl⟩:=bk r o ho
  have hL':=(g2s r L hL).2
  show fz2 L.b=none
  cases hq:fz2 L.b with
  | none=>rfl
  | some c=>
   exfalso
   rcases hfz2 _ c hq with h|⟨Ln,hLn,hbe,_⟩
   ·rw [hS.fzr r p L h1 (NT _ ha) hL'] at h;cases h
   ·exact hS.inj r os.length p _ L Ln h1 gn (NT _ ha) rfl hL' hLn (by omega) hbe
 ·have hD2:∀ (l:List Nat) (D':List Deferred),(∀ d ∈ l,d<os.length)->DR γ l D'->DR γ2 l D':=by
   intro l
   induction l with
   | nil=>intro D' _ h;cases h;exact .nil
   | cons d l ih=>
    intro D' hd h
    cases h with
    | cons h1 h2=>
     obtain ⟨L,e1,e2⟩:=h1
     exact .cons ⟨L,(g2 d (hd d (by simp))).trans e1,e2⟩ (ih _ (fun x hx=>hd x (by simp [hx])) h2)
  exact hD2 ds D hds hD
 ·intro r L e0
  rw [g2 r (by have:=hlt0 r L e0;omega)];exact hP.le.loc r L e0
 ·intro b c e0;exact hz b c (hP.le.fz b c e0)
 ·intro r L e1 e0
  have:=hP.new r L (g2s r L e1).2 e0
  exact this
 ·rw [h8,nx2];exact hk
 ·intro r e0 hr
  obtain ⟨L,hL⟩:=h10 r (by omega)
  rw [hL] at e0;cases e0
 ·intro b c e1 e0
  rcases hfz2 b c e1 with h|⟨L,hL,hbe,_⟩
  ·exact hP.fzn b c h e0
  ·rw [hbe];exact hbn L hL
variable {t:AT}{s:St}{rs:List Nat}
theorem Abs.toK (h:Abs t s tl os rs):AbsK 0 t s tl os rs:=by
 refine ⟨rfl,h.nd,h.tmp,?_⟩
 have:∀ (n:Nat) (all:List Nat) (l:List AObj) (rs:List Nat),RowOk n all s l rs->RowOkK 0 n all s l rs:=by
  intro n all l
  induction l with
  | nil=>intro rs h;cases rs with
   | nil=>trivial
   | cons=>exact h
  | cons o l ih=>intro rs h;cases rs with
   | nil=>exact h
   | cons r rs=>exact ⟨h.1,ih rs h.2⟩
 exact this _ _ _ _ h.row
def MG:Nat->List AObj->Bool
 | 0,_=>true
 | _+1,[]=>true
 | k+1,o::l=>BO o && MG k l
theorem Rd:∀ {k:Nat}{l:List AObj},MG k l=true->∀ o ∈ l.take k,BO o=true
 | 0,l,_,o,ho=>by simp at ho
 | k+1,[],_,o,ho=>by simp at ho
 | k+1,x::l,h,o,ho=>by
  simp only [MG,Zpl] at h
  rcases Zqt.1 (by simpa using ho) with rfl|ho
  ·exact h.1
  ·exact Rd h.2 o ho
variable {tl2:List (Nat×AV)}{os2:List AObj}
theorem AbsK.frz (h:AbsK k t s tl (os++[.row e cs]) rs) (hn:os.length=n) (hf:hfs cs=true) (hk:Nat.ble k n=true)
 (hal:MG k os=true) (hl:Nat.blt n 1000000=true) (ht:Lb tl=true) (e1:Nv n cs tl=tl2) (e2:Gg n cs os=os2):
 Tells P k t s [] (A6 tl2) (Aj St0 os2) []:=by
 subst hn e1 e2
 refine h.tells.trans (V6 (fun d hd=>by simp at hd) hf (Zp7 hk) ?_ (Rd hal) (by have:=(Zq1 (x:=os.length) (y:=1000000)) ▸ hl;omega) ht)
 intro o ho
 obtain ⟨i,hi⟩:=Zrd.1 ho
 obtain ⟨r,_,hb,_⟩:=h.row.get.2 i o (by rw [Zp3 (Zpk.1 hi).1];exact hi)
 simpa using hb
structure AbsD (k:Nat) (t:AT) (s:St) (ds:List Nat) (tl:List (Nat×AV)) (os:List AObj) (rs:List Nat) (ds2:List Nat):Prop where
 a:AbsK k t s tl os rs
 d:ds=ds2.map (nm rs)
 l:∀ d ∈ ds2,d<os.length
variable {ds2:List Nat}
theorem AbsD.tells (h:AbsD k t s ds tl os rs ds2):Tells P k t s ds (A6 tl) (Aj St0 os) ds2:=by
 have hr:=h.a.ren
 exact Ren.tells ⟨hr.id,hr.le,hr.inj,hr.tmp,hr.obj,⟨h.d,fun d hd=>by rw [Ev];exact h.l d hd⟩⟩
theorem AbsD.frz (h:AbsD k t s ds tl (os++[.row e cs]) rs ds2) (hn:os.length=n) (hd:∀ d ∈ ds2,d<n) (hf:hfs cs=true) (hk:Nat.ble k n=true)
 (hal:MG k os=true) (hl:Nat.blt n 1000000=true) (ht:Lb tl=true) (e1:Nv n cs tl=tl2) (e2:Gg n cs os=os2):
 Tells P k t s ds (A6 tl2) (Aj St0 os2) ds2:=by
 subst hn e1 e2
 refine h.tells.trans (V6 hd hf (Zp7 hk) ?_ (Rd hal) (by have:=(Zq1 (x:=os.length) (y:=1000000)) ▸ hl;omega) ht)
 intro o ho
 obtain ⟨i,hi⟩:=Zrd.1 ho
 obtain ⟨r,_,hb,_⟩:=h.a.row.get.2 i o (by rw [Zp3 (Zpk.1 hi).1];exact hi)
 simpa using hb
end Go.AM
namespace Go.AM
variable {n:Int}
theorem Zls (h:0≤n∧n<4294967296):IntKind.u32.wrap n=n:=by
 rw [← ED]
 obtain ⟨m,rfl⟩:∃ m:Nat,n=Int.ofNat m:=⟨n.toNat,by show n=(n.toNat:Int);omega⟩
 have hm:m<4294967296:=by have:Int.ofNat m=(m:Int):=rfl;omega
 show Int.ofNat (m % 4294967296)=_
 rw [Zrf hm]
theorem VV (n:Int):IntKind.u32.wrap n=n % 4294967296:=by
 show IntKind.wrap .u32 n=_
 simp [IntKind.wrap,IntKind.bits,IntKind.signed]
theorem Zn9 (h:0≤n∧n<256):IntKind.u8.wrap n=n:=by
 rw [← ED]
 obtain ⟨m,rfl⟩:∃ m:Nat,n=Int.ofNat m:=⟨n.toNat,by show n=(n.toNat:Int);omega⟩
 have hm:m<256:=by have:Int.ofNat m=(m:Int):=rfl;omega
 show Int.ofNat (m % 256)=_
 rw [Zrf hm]
theorem Zly {v:AV}{b:Bool}{x y z:Prop}(hv:v=.bool b) (h1:b=true->y) (h2:b=false->z):(BR.rec (motive:=fun _=>Prop) x y z (asBool v)):=by
 subst hv
 cases b with
 | true=>exact h1 rfl
 | false=>exact h2 rfl
section
variable {t:AT}{s:St}{k:AV->St->Prop}{x y:AO}
variable {es n:Nat}{l:List AV}{v:AV}
theorem AD (hx:ev x t=.some v) (h:Sl es n l v) (hk:k (.int .i64 (n:Int)) s):EPrim (.len x) t s k:=NX hx h hk
theorem LQ {r o n:Nat}{c:Option Nat}(hx:ev x t=.some (.sl r o n c)) (hk:k (.int .i64 (n:Int)) s):EPrim (.len x) t s k:=Zb8 hx hk
theorem Kr {n:Nat}{c:Option Nat}{l:List AV}(hx:ev x t=.some (.fz n c l)) (hk:k (.int .i64 (n:Int)) s):EPrim (.len x) t s k:=by
 refine EPrim.mk (v:=.int .i64 (n:Int)) (s':=s) (fun e rec=>?_) hk
 show wth x t _=_;unfold wth;rw [hx];rfl
theorem U6 (hx:ev x t=.some .nils) (hk:k (.int .i64 0) s):EPrim (.len x) t s k:=by
 refine EPrim.mk (v:=.int .i64 0) (s':=s) (fun e rec=>?_) hk
 show wth x t _=_;unfold wth;rw [hx];rfl
theorem Oa {q q':IntKind}{a:Int}(hx:ev x t=.some (.int q a)) (hw:q'.wrap a=a) (hk:k (.int q' a) s):EPrim (.cvi q' x) t s k:=by
 refine EPrim.mk (v:=.int q' a) (s':=s) (fun e rec=>?_) hk
 show wth x t _=_;unfold wth;rw [hx]
 show RV.ok (.int q' (E1 q' a)) s=_
 rw [ED,hw]
theorem U8 {a b:Int}(hx:ev x t=.some (.int .u32 a)) (hy:ev y t=.some (.int .u32 b)) (hk:k (.int .u32 ((a+b) % 4294967296)) s):EPrim (.bin .add x y) t s k:=
 EPrim.add hx hy (by rw [VV];exact hk)
theorem U5 {a b:Int}(hx:ev x t=.some (.int .u32 a)) (hy:ev y t=.some (.int .u32 b)) (hk:k (.int .u32 ((a-b) % 4294967296)) s):EPrim (.bin .sub x y) t s k:=
 EPrim.sub hx hy (by rw [VV];exact hk)
variable {a:Int}{q:IntKind}
theorem Zb9 (hx:ev x t=.some v) (hs:Sl es n l v) (hy:ev y t=.some (.int q a)) (h0:0≤a) (h:a<n) (hk:k (.fp (l.drop (a.toNat*es))) s):EPrim (.ixs es x y) t s k:=by
 obtain ⟨m,rfl⟩:∃ m:Nat,a=Int.ofNat m:=⟨a.toNat,by show a=(a.toNat:Int);omega⟩
 exact Cz hx hs hy (by have:Int.ofNat m=(m:Int):=rfl;omega) hk
variable {r o:Nat}
theorem G4 {c:Option Nat}(hx:ev x t=.some (.sl r o n c)) (hy:ev y t=.some (.int q a)) (h0:0≤a) (h:a<n) (hk:k (.ptr r (o+a.toNat*es)) s):EPrim (.ixs es x y) t s k:=by
 obtain ⟨m,rfl⟩:∃ m:Nat,a=Int.ofNat m:=⟨a.toNat,by show a=(a.toNat:Int);omega⟩
 exact He hx hy (by have:Int.ofNat m=(m:Int):=rfl;omega) hk
theorem NY (hx:ev x t=.some (.ptr r o)) (hy:ev y t=.some (.int q a)) (h0:0≤a) (h:a<n) (hk:k (.ptr r (o+a.toNat*es)) s):EPrim (.ixa n es x y) t s k:=by
 obtain ⟨m,rfl⟩:∃ m:Nat,a=Int.ofNat m:=⟨a.toNat,by show a=(a.toNat:Int);omega⟩
 exact NZ hx hy (by have:Int.ofNat m=(m:Int):=rfl;omega) hk
theorem Vl {neg a b:Bool}(hx:ev x t=.some (.bool a)) (hy:ev y t=.some (.bool b)) (hk:k (.bool (DF neg (a == b))) s):EPrim (.eqb 0 neg x y) t s k:=by
 refine EPrim.mk (v:=.bool (DF neg (a == b))) (s':=s) (fun e rec=>?_) hk
 show wth x t _=_;unfold wth;rw [hx]
 show wth y t _=_;unfold wth;rw [hy];rfl
theorem Vk {ks:List Nat}{neg:Bool}{a b:List AV}{c:Bool}(hx:ev x t=.some (.agg a)) (hy:ev y t=.some (.agg b)) (h:Gq ks a b=some c) (hk:k (.bool (DF neg c)) s):EPrim (.eqf ks neg x y) t s k:=by
 refine EPrim.mk (v:=.bool (DF neg c)) (s':=s) (fun e rec=>?_) hk
 show wth x t _=_;unfold wth;rw [hx]
 show wth y t _=_;unfold wth;rw [hy]
 show (Option.rec .fail (fun c=>.ok (.bool (DF neg c)) s) (Gq ks a b):RV)=_
 rw [h]
theorem Hf {bs:List Nat}(hx:ev x t=.some v) (h:Sl 1 n (Ad bs) v) (hb:∀ b ∈ bs,b<256) (hk:k (.str bs) s):EPrim (.b2s x) t s k:=by
 have hbo:∀ {bs:List Nat},(∀ b ∈ bs,b<256)->C0 (Ad bs)=some bs:=by
  intro bs
  induction bs with
  | nil=>intro _;rfl
  | cons b bs ih=>
   intro h
   show (Bool.rec none (Option.rec none (fun r=>some (b::r)) (C0 (Ad bs))) (Nat.blt b 256):Option (List Nat))=_
   rw [ih (fun x hx=>h x (by simp [hx])),show Nat.blt b 256=true by simpa using h b (by simp)]
 refine EPrim.mk (v:=.str bs) (s':=s) (fun e rec=>?_) hk
 show wth x t _=_;unfold wth;rw [hx]
 rcases h with ⟨rfl,rfl,h⟩|⟨rfl,rfl,h⟩|⟨c,rfl,hl⟩
 ·have:bs=[]:=List.map_eq_nil_iff.1 h
  subst this;rfl
 ·have:bs=[]:=List.map_eq_nil_iff.1 h
  subst this;rfl
 ·show (Option.rec .fail (fun cs=>Option.rec .fail (fun b=>.ok (.str b) s) (C0 cs)) (Bo n (Ad bs)):RV)=_
  rw [Fz (by omega),Zps (by omega)]
  show (Option.rec .fail (fun b=>.ok (.str b) s) (C0 (Ad bs)):RV)=_
  rw [hbo hb]
variable {b:List Nat}
theorem NK {a:List Nat}(hx:ev x t=.some (.str a)) (hy:ev y t=.some (.str b)) (h1:a≠b->k (.bool true) s) (h2:a=b->k (.bool false) s):EPrim (.bin .neq x y) t s k:=by
 refine Ea hx hy (v:=.bool (!Fo a b)) rfl ?_
 rw [My]
 by_cases h:a=b
 ·rw [show (a == b)=true by simpa using h];exact h2 h
 ·rw [show (a == b)=false by simpa using h];exact h1 h
theorem ZT {a:List Nat}(hx:ev x t=.some (.str a)) (hy:ev y t=.some (.str b)) (h1:a=b->k (.bool true) s) (h2:a≠b->k (.bool false) s):EPrim (.bin .eql x y) t s k:=by
 refine Ea hx hy (v:=.bool (Fo a b)) rfl ?_
 rw [My]
 by_cases h:a=b
 ·rw [show (a == b)=true by simpa using h];exact h1 h
 ·rw [show (a == b)=false by simpa using h];exact h2 h
end
end Go.AM
namespace Go.AM
variable {P:Program}{f:Nat}
theorem CX {R:List AV->AV->Prop}(hb:Ga P f) (h:∀ args u,R args u->hfs args=true∧AM.hf u=true∧C P f args St0 (fun v s'=>Frz s' v u)):OvOk P f (Ao R):=
 WU hb fun args u hR s=>(h args u hR).elim fun ha h=>MI ha h.1 h.2 s
structure Fam (α:Type) where
 ok:α->Prop
 enc:α->List AV
 out:α->AV
 inj:∀ x y,ok x->ok y->enc x=enc y->out x=out y
noncomputable def Fam.O {α:Type}(F:Fam α):Ov:=Ao (fun args u=>∃ x,F.ok x∧args=F.enc x∧u=F.out x)
variable {e:Env}{s:St}{k:AV->St->Prop}{u:AV}
theorem ESc.fam {α:Type}(F:Fam α) (hi:Con e f F.O) (x:α) (hx:F.ok x) (hu:F.out x=u) (hk:k u s):ESc e f (F.enc x) s k:=by
 refine ESc.rel hi ⟨_,x,hx,rfl,rfl⟩ ?_
 rintro u' ⟨y,hy,e,rfl⟩
 rw [← F.inj x y hx hy e,hu];exact hk
theorem ECall.fam {α:Type}(F:Fam α) (hi:Con e f F.O) (x:α) (hx:F.ok x) (hu:F.out x=u) (hk:k u s):ECall e f (F.enc x) s k:=by
 refine ECall.rel hi ⟨_,x,hx,rfl,rfl⟩ ?_
 rintro u' ⟨y,hy,e,rfl⟩
 rw [← F.inj x y hx hy e,hu];exact hk
theorem C7 {α:Type}{F:Fam α}(hb:Ga P f) (h:∀ x,F.ok x->hfs (F.enc x)=true∧AM.hf (F.out x)=true∧C P f (F.enc x) St0 (fun v s'=>Frz s' v (F.out x))):OvOk P f F.O:=by
 refine CX hb ?_
 rintro args u ⟨x,hx,rfl,rfl⟩
 exact h x hx
variable {t:AT}{x y:AO}{a b:Int}
theorem w7 (hx:ev x t=.some (.int .i64 a)) (hy:ev y t=.some (.int .i64 b)) (h:-9223372036854775808≤a+b∧a+b≤9223372036854775807) (hk:k (.int .i64 (a+b)) s):EPrim (.bin .add x y) t s k:=Ob hx hy h hk
abbrev w1:=@Bl
abbrev w2:=@NW
abbrev w3:=@Vj
abbrev w4:=@DV
abbrev w5:=@Il
abbrev w6:=@Kq
abbrev w8:=@QT
abbrev w9:=@Cs
abbrev w10:=@U8
abbrev w11:=@U5
abbrev w12:=@Jn
abbrev w13:=@Ik
abbrev w14:=@Oa
abbrev w15:=@Vl
abbrev w16:=@U6
abbrev w17:=@Kr
abbrev w18:=@LQ
abbrev w19:=@Zly
variable {q:IntKind}
theorem Aa (h1:a<b->k (.bool true) s) (h2:b≤a->k (.bool false) s) (hx:ev x t=.some (.int q a):=by rfl) (hy:ev y t=.some (.int q b):=by rfl):EPrim (.bin .lss x y) t s k:=Bl hx hy h1 h2
theorem B8 (h1:a≤b->k (.bool true) s) (h2:b<a->k (.bool false) s) (hx:ev x t=.some (.int q a):=by rfl) (hy:ev y t=.some (.int q b):=by rfl):EPrim (.bin .leq x y) t s k:=NW hx hy h1 h2
theorem Ax (h1:b<a->k (.bool true) s) (h2:a≤b->k (.bool false) s) (hx:ev x t=.some (.int q a):=by rfl) (hy:ev y t=.some (.int q b):=by rfl):EPrim (.bin .gtr x y) t s k:=Vj hx hy h1 h2
theorem AR (h1:b≤a->k (.bool true) s) (h2:a<b->k (.bool false) s) (hx:ev x t=.some (.int q a):=by rfl) (hy:ev y t=.some (.int q b):=by rfl):EPrim (.bin .geq x y) t s k:=DV hx hy h1 h2
theorem Ap (h1:a=b->k (.bool true) s) (h2:a≠b->k (.bool false) s) (hx:ev x t=.some (.int q a):=by rfl) (hy:ev y t=.some (.int q b):=by rfl):EPrim (.bin .eql x y) t s k:=Il hx hy h1 h2
theorem Al (h1:a≠b->k (.bool true) s) (h2:a=b->k (.bool false) s) (hx:ev x t=.some (.int q a):=by rfl) (hy:ev y t=.some (.int q b):=by rfl):EPrim (.bin .neq x y) t s k:=Kq hx hy h1 h2
theorem Ac (hk:k (.int .i64 (a+b)) s) (hx:ev x t=.some (.int .i64 a):=by rfl) (hy:ev y t=.some (.int .i64 b):=by rfl) (h:-9223372036854775808≤a+b∧a+b≤9223372036854775807:=by omega):EPrim (.bin .add x y) t s k:=Ob hx hy h hk
theorem AL (hk:k (.int .i64 (a-b)) s) (hx:ev x t=.some (.int .i64 a):=by rfl) (hy:ev y t=.some (.int .i64 b):=by rfl) (h:-9223372036854775808≤a-b∧a-b≤9223372036854775807:=by omega):EPrim (.bin .sub x y) t s k:=QT hx hy h hk
theorem CW (hk:k (.int .i64 (a*b)) s) (hx:ev x t=.some (.int .i64 a):=by rfl) (hy:ev y t=.some (.int .i64 b):=by rfl) (h:-9223372036854775808≤a*b∧a*b≤9223372036854775807:=by omega):EPrim (.bin .mul x y) t s k:=Cs hx hy h hk
theorem CS (hk:k (.int .u32 ((a+b) % 4294967296)) s) (hx:ev x t=.some (.int .u32 a):=by rfl) (hy:ev y t=.some (.int .u32 b):=by rfl):EPrim (.bin .add x y) t s k:=U8 hx hy hk
theorem CQ (hk:k (.int .u32 ((a-b) % 4294967296)) s) (hx:ev x t=.some (.int .u32 a):=by rfl) (hy:ev y t=.some (.int .u32 b):=by rfl):EPrim (.bin .sub x y) t s k:=U5 hx hy hk
theorem Au (hk:k (.bool false) s) (hx:ev x t=.some (.bool true):=by rfl):EPrim (.un .not x) t s k:=Jn hx hk
theorem Av (hk:k (.bool true) s) (hx:ev x t=.some (.bool false):=by rfl):EPrim (.un .not x) t s k:=Ik hx hk
theorem Cp (hk:k (.int .i64 a) s) (hx:ev x t=.some (.int q a):=by rfl) (hw:IntKind.i64.wrap a=a:=by exact i64_in (by omega)):EPrim (.cvi .i64 x) t s k:=Oa hx hw hk
theorem CJ (hk:k (.int .u32 a) s) (hx:ev x t=.some (.int q a):=by rfl) (hw:IntKind.u32.wrap a=a:=by exact Zls (by omega)):EPrim (.cvi .u32 x) t s k:=Oa hx hw hk
theorem De (hk:k (.int .u8 a) s) (hx:ev x t=.some (.int q a):=by rfl) (hw:IntKind.u8.wrap a=a:=by exact Zn9 (by omega)):EPrim (.cvi .u8 x) t s k:=Oa hx hw hk
theorem Cx {neg a b:Bool}(hk:k (.bool (DF neg (a == b))) s) (hx:ev x t=.some (.bool a):=by rfl) (hy:ev y t=.some (.bool b):=by rfl):EPrim (.eqb 0 neg x y) t s k:=Vl hx hy hk
theorem CP (hk:k (.int .i64 0) s) (hx:ev x t=.some .nils:=by rfl):EPrim (.len x) t s k:=U6 hx hk
variable {n:Nat}{c:Option Nat}{l:List AV}
theorem Dg (hk:k (.int .i64 (n:Int)) s) (hx:ev x t=.some (.fz n c l):=by rfl):EPrim (.len x) t s k:=Kr hx hk
theorem Cw {r o:Nat}(hk:k (.int .i64 (n:Int)) s) (hx:ev x t=.some (.sl r o n c):=by rfl):EPrim (.len x) t s k:=LQ hx hk
variable {v:AV}
theorem Am {es:Nat}(h:Sl es n l v) (hk:k (.int .i64 (n:Int)) s) (hx:ev x t=.some v:=by rfl):EPrim (.len x) t s k:=AD hx h hk
theorem As {k:AV->Prop}(hk:k v) (h:l[0]?=some v:=by rfl):EHead l k:=EHead.mk h hk
section
variable {t:AT}{s:St}{k:AV->St->Prop}{x y:AO}
variable {el es m:Nat}{v c:AV}{cs:List AV}
theorem U7 (hx:ev x t=.some .nils) (hy:ev y t=.some v) (hv:Dd es v s=some (c::cs)) (hm':(c::cs).length=m*es) (he:0<es) (h1:m≤1000000) (hk:k (.sl s.next 0 m none) (s.alloc (.row el (c::cs)))):EPrim (.app el es x y) t s k:=by
 have hm:(c::cs).length / es=m:=by rw [hm'];exact Nat.mul_div_cancel m he
 refine EPrim.mk (fun e rec=>?_) hk
 show wth x t _=_;unfold wth;rw [hx]
 show wth y t _=_;unfold wth;rw [hy]
 show (Option.rec .fail _ (Dd es v s):RV)=_
 rw [hv]
 show C2 el (Nat.div (A7 (c::cs)) es) (c::cs) s=_
 unfold C2
 rw [CY,show Nat.div (c::cs).length es=m from hm]
 show gd (Nat.ble m 1000000) _=_
 rw [Zqa h1];rfl
theorem CO (hk:k (.sl s.next 0 m none) (s.alloc (.row el (c::cs)))) (hx:ev x t=.some .nils:=by rfl) (hy:ev y t=.some v:=by rfl) (hv:Dd es v s=some (c::cs):=by rfl) (hm':(c::cs).length=m*es:=by rfl) (he:0<es:=by decide) (h1:m≤1000000:=by decide):EPrim (.app el es x y) t s k:=U7 hx hy hv hm' he h1 hk
variable {n:Nat}
theorem C6 {r:Nat}{old:List AV}(hx:ev x t=.some (.sl r 0 n none)) (hy:ev y t=.some v) (hv:Dd es v s=some (c::cs)) (hr:s.get r=some (.row el old)) (ho:old.length=n*es) (hm':(c::cs).length=m*es) (he:0<es) (h1:n+m≤1000000)
 (hk:k (.sl s.next 0 (n+m) none) ((s.put r .dead).alloc (.row el (old++(c::cs))))):EPrim (.app el es x y) t s k:=by
 have hm:(c::cs).length / es=m:=by rw [hm'];exact Nat.mul_div_cancel m he
 refine EPrim.mk (fun e rec=>?_) hk
 show wth x t _=_;unfold wth;rw [hx]
 show wth y t _=_;unfold wth;rw [hy]
 show (Option.rec .fail _ (Dd es v s):RV)=_
 rw [hv]
 show AM.app1 el es (c::cs) (Nat.div (A7 (c::cs)) es) r 0 n none s=_
 unfold AM.app1
 rw [CY,show Nat.div (c::cs).length es=m from hm,G8 hr (by show 0+n*es≤_;omega)]
 have e1:List.take (Nat.mul n es) (List.drop 0 old)=old:=by rw [List.drop_zero];exact Zps (by show _≤n*es;omega)
 rw [e1]
 show gd (Nat.beq 0 0 && MA r el s) (C2 el (n+m) (Be old (c::cs)) (s.put r .dead))=_
 have e2:MA r el s=true:=by unfold MA;rw [Ot hr];show Nat.beq el el=true;exact Zq6 el
 rw [e2]
 unfold C2
 show gd (Nat.ble (n+m) 1000000) _=_
 rw [Zqa h1,Da]
 show RV.ok (AV.sl (s.put r .dead).next 0 (n+m) none) _=_
 rw [Dx]
theorem VQ {c:Nat}{z:List AV}{q q':IntKind}(hx:ev x t=.some (.int q (Int.ofNat n))) (hy:ev y t=.some (.int q' (Int.ofNat c))) (h1:n≤c) (h2:c≤1000000) (hk:k (.sl s.next 0 n (some c)) (s.alloc (.row el (Bp z c)))):EPrim (.mks el es z x y) t s k:=by
 refine EPrim.mk (fun e rec=>?_) hk
 show (NR.rec .fail (fun l=>NR.rec .fail (fun c=>gd (Nat.ble l c && Nat.ble c 1000000) (Gh (.row el (Bp z c)) (fun r=>.sl r 0 l (some c)) s)) (HI (ev y t))) (HI (ev x t)):RV)=_
 rw [hx,hy]
 show gd (Nat.ble n c && Nat.ble c 1000000) _=_
 rw [Zqa h1,Zqa h2];rfl
end
theorem WT:∀ (n:Nat),Bp [.int .u8 0] n=Ad (List.replicate n 0)
 | 0=>rfl
 | n+1=>by
  show AV.int .u8 0::Bp [.int .u8 0] n=_
  rw [WT n,List.replicate_succ];rfl
end Go.AM
namespace Go.AM
variable {n:Nat}{t:AT}{s:St}
theorem LV {el:Nat}{q q':IntKind}{k:AV->St->Prop}{x y:AO}(hx:ev x t=.some (.int q (Int.ofNat (n+1)))) (hy:ev y t=.some (.int q' (Int.ofNat (n+1)))) (h2:n+1≤1000000) (hk:k (.sl s.next 0 (n+1) (some (n+1))) (s.alloc (.row el (Ad (0::List.replicate n 0))))):EPrim (.mks el 1 [.int .u8 0] x y) t s k:=by
 refine VQ hx hy (Zp4 _) h2 ?_
 rw [WT];exact hk
variable {k e:Nat}{cs:List AV}
theorem Bj (h:hfs cs=true):Dw k n (.row e cs)=true:=Hp _ h
variable {ρ:Nat->Nat}
theorem AU (h:hfs cs=true):Bw ρ (.row e cs)=.row e cs:=by
 show AObj.row e (AF ρ cs)=_;rw [G6 _ h]
theorem o9 {x:Option AObj}(h:hfs cs=true:=by assumption) (p:x=some (.row e cs):=by rfl):Dw k n (.row e cs)=true∧x=some (Bw ρ (.row e cs)):=⟨Bj h,by rw [AU h];exact p⟩
theorem Hq {ds:List AV}(h:hfs cs=true):E3 n ds (.row e cs)=.row e cs:=by
 show AObj.row e (CK n ds cs)=_;rw [Hh _ h]
variable {tl:List (Nat×AV)}{os:List AObj}{rs:List Nat}
theorem Abs.a (h:rs.Nodup:=by decide) (h1:TmpOk os.length rs t tl:=by repeat' (first|exact trivial|exact r9|exact t9|exact o9|apply And.intro)) (h2:RowOk os.length rs s os rs:=by repeat' (first|exact trivial|exact r9|exact t9|exact o9|apply And.intro)):Abs t s tl os rs:=⟨h,h1,h2⟩
theorem AbsK.a (h:rs.Nodup:=by decide) (h1:TmpOk os.length rs t tl:=by repeat' (first|exact trivial|exact r9|exact t9|exact o9|apply And.intro)) (h2:RowOkK k os.length rs s os rs:=by repeat' (first|exact trivial|exact r9|exact t9|exact o9|apply And.intro)) (h0:rs.take k=List.range k:=by rfl):AbsK k t s tl os rs:=⟨h0,h,h1,h2⟩
variable {P:Program}{rd:Option Nat}{ds:List Nat}
theorem Bz {e:Env}{Q:EQ}{a b:AC}(hE:EM P e) (h:VW P e k a t s rd ds (Jg (fun t s ds=>W P k rd b t s ds Q) Q)):W P k rd (.seq a b) t s ds Q:=
 W.seq ((Mc hE.1 hE.2 h).mono fun x t s ds h=>by cases x <;> exact h)
theorem Hz {e:Env}{res:List ARes}{K:AV->St->Prop}{c:AC}(hE:EM P e) (h:VW P e k c t s rd ds (Cq res K)):W P k rd c t s ds (BS res K):=
 (Mc hE.1 hE.2 h).mono fun _ _ _ _ h=>Jp h
section
variable {t:AT}{s:St}{k:AV->St->Prop}{x y:AO}
theorem QU {el es r m:Nat}{v:AV}{c:AV}{cs:List AV}(hx:ev x t=.some (.sl r 0 0 (some 0))) (hy:ev y t=.some v) (hv:Dd es v s=some (c::cs)) (hr:s.get r=some (.row el [])) (hm':(c::cs).length=m*es) (he:0<es) (h0:0<m) (h1:m≤1000000) (hk:k (.sl s.next 0 m none) (s.alloc (.row el (c::cs)))):EPrim (.app el es x y) t s k:=by
 have hm:(c::cs).length / es=m:=by rw [hm'];exact Nat.mul_div_cancel m he
 refine EPrim.mk (fun e rec=>?_) hk
 show wth x t _=_;unfold wth;rw [hx]
 show wth y t _=_;unfold wth;rw [hy]
 show (Option.rec .fail _ (Dd es v s):RV)=_
 rw [hv]
 show AM.app1 el es (c::cs) (Nat.div (A7 (c::cs)) es) r 0 0 (some 0) s=_
 unfold AM.app1
 rw [CY,show Nat.div (c::cs).length es=m from hm,show Nat.mul 0 es=0 from Nat.zero_mul es,G8 hr (by simp)]
 show (Bool.rec (C2 el (0+m) (Be [] (c::cs)) s) _ (Nat.ble (0+m) 0):RV)=_
 rw [Zpy,show Nat.ble m 0=false by rw [← Zrj];intro e;have:=Zp7 e;omega]
 show gd (Nat.ble m 1000000) _=_
 rw [Zqa h1];rfl
end
end Go.AM
namespace Go.AM
def FJ (w:World):Gam:=⟨fun _=>none,fun b=>match w.heap[b]? with|some (.cells c _ _)=>some c|_=>none⟩
theorem Zf2 {P:Program}(w:World):Sim P (FJ w) St0 w:=by
 refine P3 (φ:=(FJ w).fz) fun b c h=>?_
 have h:(match w.heap[b]? with|some (.cells c _ _)=>some c|_=>none)=some c:=h
 split at h
 ·rename_i c' e fr hh;cases h;exact ⟨e,fr,hh⟩
 ·cases h
theorem X3 {w:World}{a:Addr}{v:Value}(h:w.cell? a=some v):a.spot=none∧∃ c,(FJ w).fz a.block=some c∧c[a.off]?=some v:=by
 unfold World.cell? at h
 split at h
 ·rename_i c t fr hh
  split at h
  ·cases h
  ·rename_i hs
   refine ⟨by simpa using hs,c,?_,h⟩
   show (match w.heap[a.block]? with|some (.cells c _ _)=>some c|_=>none)=some c
   rw [hh]
 ·cases h
inductive Ty where
 | bool
 | int (k:IntKind)
 | sl (e:Ty)
 | st (fs:List Ty)
mutual
inductive TyOf (P:Program):TypeId->Ty->Nat->Prop
 | bool (t:TypeId):P.underlying t=some .bool->TyOf P t .bool 1
 | int (t:TypeId) (k:IntKind):P.underlying t=some (.int k)->TyOf P t (.int k) 1
 | sl (t e:TypeId) (E:Ty) (n:Nat):P.underlying t=some (.slice e)->P.cellsOf e=n->0<n->TyOf P e E n->TyOf P t (.sl E) 1
 | st (t:TypeId) (fs:Array Field) (Fs:List Ty) (n:Nat):P.underlying t=some (.struct fs)->P.cellsOf t=n->Flds P fs.toList 0 Fs n->TyOf P t (.st Fs) n
inductive Flds (P:Program):List Field->Nat->List Ty->Nat->Prop
 | nil (o:Nat):Flds P [] o [] o
 | cons (f:Field) (l:List Field) (o:Nat) (T:Ty) (m:Nat) (Ts:List Ty) (n:Nat):f.offset=o->P.cellsOf f.type=m->TyOf P f.type T m->Flds P l (o+m) Ts n->Flds P (f::l) o (T::Ts) n
end
mutual
inductive Shape:Ty->List AV->Prop
 | bool (b:Bool):Shape .bool [.bool b]
 | int (k:IntKind) (n:Int):(Lit.int k n).wf=true->Shape (.int k) [.int k n]
 | nil (E:Ty):Shape (.sl E) [.nils]
 | es (E:Ty):Shape (.sl E) [.es]
 | fz (E:Ty) (n m:Nat) (c:Option Nat) (ls:List (List AV)):ls.length=n->0<n->n≤maxLen->(∀ l ∈ ls,Shape E l)->(∀ l ∈ ls,l.length=m)->Shape (.sl E) [.fz n c ls.flatten]
 | st (Fs:List Ty) (l:List AV):Shapes Fs l->Shape (.st Fs) l
inductive Shapes:List Ty->List AV->Prop
 | nil:Shapes [] []
 | cons (T:Ty) (Ts:List Ty) (l m:List AV):Shape T l->Shapes Ts m->Shapes (T::Ts) (l++m)
end
mutual
theorem Shape.hfs:∀ {T:Ty}{l:List AV},Shape T l->AM.hfs l=true
 | _,_,.bool b=>rfl
 | _,_,.int k n _=>rfl
 | _,_,.nil E=>rfl
 | _,_,.es E=>rfl
 | _,_,.fz E n m c ls _ _ _ _ _=>rfl
 | _,_,.st Fs l h=>Shapes.hfs h
theorem Shapes.hfs:∀ {Ts:List Ty}{l:List AV},Shapes Ts l->AM.hfs l=true
 | _,_,.nil=>rfl
 | _,_,.cons T Ts l m a b=>by
  rw [hfs_iff]
  intro v hv
  rcases Zqb.1 hv with h|h
  ·exact hfs_iff.1 (Shape.hfs a) v h
  ·exact hfs_iff.1 (Shapes.hfs b) v h
end
section
variable {H:Type}{enc:TypeId×Value->H}{P:Program}{w:World}{spare:Nat->Bool}
theorem UR:∀ (fuel:Nat) {t:TypeId}{T:Ty}{n:Nat}{cs:List Value}{x:DataW H×List MemPlace},TyOf P t T n->DataW.trod enc P w 0 spare true fuel t cs=some x->
 ∃ l,Shape T l∧l.length=n∧All2 (VR (FJ w)) l cs∧∀ v ∈ cs,v.oneCell'=true:=by
 intro fuel
 induction fuel with
 | zero=>intro t T n cs x _ h;simp [DataW.trod] at h
 | succ fuel ih=>
  intro t T n cs x hT h
  cases hT with
  | bool _ hu=>
   obtain ⟨b,rfl,_⟩:=DataW.trod_bool hu h
   exact ⟨_,.bool b,rfl,.cons (.bool b) .nil,by simp [Value.oneCell']⟩
  | int _ k hu=>
   obtain ⟨m,rfl,_,hw⟩:=DataW.trod_int hu h
   exact ⟨_,.int k m hw,rfl,.cons (.int k m) .nil,by simp [Value.oneCell']⟩
  | st _ fs Fs _ hu hn hF=>
   obtain ⟨xs,n',e1,_,hlen,hxl,hx⟩:=DataW.trod_struct hu h
   cases e1
   rw [hn] at hlen
   have key:∀ (l:List Field) (o:Nat) (Ts:List Ty) (m:Nat),Flds P l o Ts m->(∀ f ∈ l,∃ y,DataW.trod enc P w 0 spare true fuel f.type ((cs.drop f.offset).take (P.cellsOf f.type))=some y)->m≤cs.length->o≤m∧∃ r,Shapes Ts r∧r.length=m-o∧All2 (VR (FJ w)) r ((cs.drop o).take (m-o))∧∀ v ∈ (cs.drop o).take (m-o),v.oneCell'=true:=by
    intro l
    induction l with
    | nil=>
     intro o Ts m hf _ hm
     cases hf
     refine ⟨Zp4 _,[],.nil,by simp,?_,by simp⟩
     simp;exact .nil
    | cons f l ihl=>
     intro o Ts m hf hall hm
     cases hf with
     | cons _ _ _ T k Ts _ h1 h2 h3 h4=>
      obtain ⟨y,hy⟩:=hall f (by simp)
      obtain ⟨l1,a1,a2,a3,a4⟩:=ih h3 hy
      obtain ⟨hle,r,b1,b2,b3,b4⟩:=ihl (o+k) Ts m h4 (fun g hg=>hall g (by simp [hg])) hm
      rw [h1,h2] at a3 a4
      have hsplit:(cs.drop o).take (m-o)=(cs.drop o).take k++(cs.drop (o+k)).take (m-(o+k)):=by
       rw [show m-o=k+(m-(o+k)) by omega,List.take_add,List.drop_drop]
      refine ⟨by omega,l1++r,.cons T Ts l1 r a1 b1,by rw [Zpx,a2,b2];omega,?_,?_⟩
      ·rw [hsplit];exact a3.append b3
      ·intro v hv
       rw [hsplit] at hv
       rcases Zqb.1 hv with h|h
       ·exact a4 v h
       ·exact b4 v h
   obtain ⟨_,r,b1,b2,b3,b4⟩:=key fs.toList 0 Fs n hF (fun f hf=>by
    obtain ⟨i,hi⟩:=Zra hf
    have hi':fs[i]?=some f:=by simpa using hi
    have:=hx i f hi'
    have hlt:i<xs.length:=by rw [hxl];exact (Zqn.1 hi').1
    rw [Zpj hlt] at this
    exact ⟨_,this⟩) (by omega)
   rw [List.drop_zero,Nat.sub_zero,Zps (by omega)] at b3 b4
   exact ⟨r,.st Fs r b1,by omega,b3,b4⟩
  | sl _ e E m hu hm hm0 hE=>
   rcases DataW.trod_slice hu h with ⟨rfl,_⟩|⟨a,len,cap,elems,rest,n',e1,rfl,_,_,hlc,hcm,hel,hall,_,_⟩
   ·exact ⟨_,.nil E,rfl,.cons .nils .nil,by simp [Value.oneCell']⟩
   ·cases e1
    rw [hm] at hall
    by_cases h0:len=0
    ·subst h0
     exact ⟨_,.es E,rfl,.cons (.es a cap) .nil,by simp [Value.oneCell']⟩
    ·have hget:∀ i,i<len->∃ ci,w.cells? 0 (a.add (i*m)) m=some ci∧∃ y,DataW.trod enc P w 0 spare true fuel e ci=some y:=by
      intro i hi
      have:=hall i hi
      rw [Zpj (by omega)] at this
      obtain ⟨ci,h1,h2⟩:=Option.bind_eq_some_iff.1 this
      exact ⟨ci,h1,_,h2⟩
     obtain ⟨c0,hc0,_⟩:=hget 0 (by omega)
     rw [Nat.zero_mul] at hc0
     obtain ⟨_,hl0,hcell0⟩:=World.cells?_some hc0
     have hcl:=hcell0 0 hm0
     rw [Zpj (by omega)] at hcl
     obtain ⟨hsp,c,hfz,_⟩:=X3 hcl
     have haz:(a.add 0).add 0=a:=by simp [Addr.add]
     have key:∀ k,k≤len->∃ (ls:List (List AV)) (vs:List Value),ls.length=k∧(∀ l ∈ ls,Shape E l)∧(∀ l ∈ ls,l.length=m)∧All2 (VR (FJ w)) ls.flatten vs∧vs.length=k*m∧(∀ u ∈ vs,u.oneCell'=true)∧∀ (j:Nat) u,vs[j]?=some u->c[a.off+j]?=some u:=by
      intro k
      induction k with
      | zero=>intro _;exact ⟨[],[],rfl,by simp,by simp,.nil,by simp,by simp,by simp⟩
      | succ k ihk=>
       intro hk
       obtain ⟨ls,vs,b1,b2,b3,b4,b5,b6,b7⟩:=ihk (by omega)
       obtain ⟨ci,hci,y,hy⟩:=hget k (by omega)
       obtain ⟨l1,a1,a2,a3,a4⟩:=ih hE hy
       obtain ⟨_,hlci,hcell⟩:=World.cells?_some hci
       refine ⟨ls++[l1],vs++ci,by simp [b1],?_,?_,by simpa using b4.append a3,by rw [Zpx,b5,hlci,Nat.succ_mul],?_,?_⟩
       ·intro l hl
        rcases Zqb.1 hl with h|h
        ·exact b2 l h
        ·simp at h;subst h;exact a1
       ·intro l hl
        rcases Zqb.1 hl with h|h
        ·exact b3 l h
        ·simp at h;subst h;exact a2
       ·intro u hu'
        rcases Zqb.1 hu' with h|h
        ·exact b6 u h
        ·exact a4 u h
       ·intro j u hj
        by_cases hjl:j<vs.length
        ·rw [Zp3 hjl] at hj;exact b7 j u hj
        ·rw [Zqe (by omega)] at hj
         have hjr:=(Zpk.1 hj).1
         have hq:=hcell (j-vs.length) (by omega)
         rw [hj] at hq
         obtain ⟨_,c',hz',hv'⟩:=X3 hq
         have hblk:((a.add (k*m)).add (j-vs.length)).block=a.block:=by unfold Addr.add;split <;> split <;> rfl
         have hoff:((a.add (k*m)).add (j-vs.length)).off=a.off+j:=by unfold Addr.add;split <;> split <;> simp <;> omega
         have hb0:((a.add 0).add 0).block=a.block:=by rw [haz]
         rw [hblk] at hz'
         rw [hb0] at hfz
         rw [hfz] at hz';cases hz'
         rw [hoff] at hv';exact hv'
     obtain ⟨ls,vs,b1,b2,b3,b4,b5,b6,b7⟩:=key len (Zp4 _)
     have hsp':a.spot=none:=by rw [haz] at hsp;exact hsp
     have hfz':(FJ w).fz a.block=some c:=by rw [haz] at hfz;exact hfz
     refine ⟨[.fz len (some cap) ls.flatten],.fz E len m (some cap) ls b1 (by omega) (by omega) b2 b3,rfl,.cons ?_ .nil,by simp [Value.oneCell']⟩
     have hA:a=⟨a.block,a.off,none⟩:=by cases a;simp at hsp';subst hsp';rfl
     rw [hA]
     refine .fz len (some cap) ls.flatten vs a.block a.off cap c hfz' b7 b6 b4 hlc (fun k hk=>by cases hk;rfl) ?_
     rw [hfs_iff]
     intro v hv
     obtain ⟨l,hl,hv⟩:=List.mem_flatten.1 hv
     exact hfs_iff.1 (b2 l hl).hfs v hv
end
end Go.AM
namespace Go.AM
noncomputable def Ed (s:St):List Nat->List AObj->St
 | r::rs,o::os=>Ed (s.put r o) rs os
 | _,_=>s
theorem US:∀ (rs:List Nat) (l:List AObj) (s:St),(Ed s rs l).next=s.next
 | [],_,_=>rfl
 | _::_,[],_=>rfl
 | r::rs,o::l,s=>by rw [Ed,US rs l,Dx]
theorem Rh:∀ (rs:List Nat) (l:List AObj) (s:St) {r:Nat},r ∉ rs->(Ed s rs l).get r=s.get r
 | [],_,_,_,_=>rfl
 | _::_,[],_,_,_=>rfl
 | r0::rs,o::l,s,r,h=>by
  rw [Ed,Rh rs l _ (fun e=>h (by simp [e])),Ig (fun e=>h (by simp [e]))]
theorem Vs:∀ (rs:List Nat) (l:List AObj) (s:St) {r:Nat}{o:AObj},rs.length=l.length->(Ed s rs l).get r=some o->(∃ i:Nat,rs[i]?=some r∧l[i]?=some o)∨(r ∉ rs∧s.get r=some o)
 | [],_,_,_,_,_,h=>.inr ⟨by simp,h⟩
 | _::_,[],_,_,_,hl,_=>by cases hl
 | r0::rs,o0::l,s,r,o,hl,h=>by
  rw [Ed] at h
  rcases Vs rs l _ (by simpa using hl) h with ⟨i,h1,h2⟩|⟨h1,h2⟩
  ·exact .inl ⟨i+1,by simpa using h1,by simpa using h2⟩
  ·rcases FQ h2 with ⟨rfl,rfl⟩|⟨hne,h2⟩
   ·exact .inl ⟨0,by simp,by simp⟩
   ·exact .inr ⟨by simp [hne,h1],h2⟩
def DE (rs:List Nat) (n r:Nat):Nat:=if r<rs.length then nm rs r else n+(r-rs.length)
variable {P:Program}{f:Nat}{args0:List AV}{u:AV}{os os2:List AObj}{rs:List Nat}{s:St}
theorem Zel (nd:rs.Nodup) (hl:os.length=rs.length)
 (row:∀ (i:Nat) o r,os[i]?=some o->rs[i]?=some r->s.get r=some (Bw (nm rs) o)∧Dw 0 os.length o=true∧BO o=true) (nmd:∀ i,i<os.length->HH i args0=true) (hba:Bq os.length args0=true)
 (hk:os.length≤os2.length) (hn:os2.length<1000000) (hp:∀ o ∈ os2,OU o=true)
 (h:C1 P f args0 (Aj St0 os) (fun v s'=>Tells P os.length (A6 [(0,v)]) s' [] (A6 [(0,u)]) (Aj St0 os2) [])):
 C P f (AF (nm rs) args0) s (fun v s'=>v=Bg (DE rs s.next) u∧s'=Aj (Ed s rs ((os2.take os.length).map (Bw (DE rs s.next)))) ((os2.drop os.length).map (Bw (DE rs s.next)))):=by
 intro γ vals w m hA hs
 let γ0:Gam:=⟨fun r=>if r<os.length then γ (nm rs r) else none,γ.fz⟩
 have g0:∀ r,r<os.length->γ0 r=γ (nm rs r):=fun r hr=>Zpn hr
 have g0n:∀ r,os.length≤r->γ0 r=none:=fun r hr=>Zpr (by omega)
 have g0s:∀ r L,γ0 r=some L->r<os.length∧γ (nm rs r)=some L:=fun r L e=>by
  by_cases hr:r<os.length
  ·rw [g0 r hr] at e;exact ⟨hr,e⟩
  ·rw [g0n r (by omega)] at e;cases e
 have nmr:∀ r,r<os.length->rs[r]?=some (nm rs r):=fun r hr=>by
  have h1:=Zpj (l:=rs) (i:=r) (by omega)
  rw [Fe h1];exact h1
 have nmj:∀ r r',r<os.length->r'<os.length->nm rs r=nm rs r'->r=r':=fun r r' hr hr' e=>by
  have e1:=Fe (Zpj (l:=rs) (i:=r) (by omega))
  have e2:=Fe (Zpj (l:=rs) (i:=r') (by omega))
  rw [e1,e2] at e
  exact (List.getElem_inj nd).1 e
 have rowN:∀ r,r<os.length->∃ o,os[r]?=some o∧s.get (nm rs r)=some (Bw (nm rs) o)∧Dw 0 os.length o=true∧BO o=true:=fun r hr=>⟨os[r],Zpj hr,row r _ _ (Zpj hr) (nmr r hr)⟩
 have nmlt:∀ r,r<os.length->nm rs r<s.next:=fun r hr=>by
  obtain ⟨o,_,h1,_⟩:=rowN r hr
  exact hs.dom _ _ h1
 have hz:∀ b c,γ.fz b=some c->γ0.fz b=some c:=fun _ _ e=>e
 have hlm:∀ r,r<os.length->∀ L,γ (nm rs r)=some L->γ0 r=some L:=fun r hr L e=>by rw [g0 r hr];exact e
 have hA0:All2 (VR γ0) args0 vals:=KH hz hlm args0 hba hA
 have hall:∀ r,r<os.length->∃ L,γ0 r=some L:=fun r hr=>Kw args0 (nmd r hr) hA0
 have hs0:Sim P γ0 (Aj St0 os) w:=by
  refine ⟨?_,?_,?_,?_,?_,hs.fzc,?_⟩
  ·intro r o L ho hL
   have ho:=Ko os ho
   obtain ⟨hr,hL⟩:=g0s r L hL
   obtain ⟨h1,h2,_⟩:=row r o _ ho (nmr r hr)
   exact Wj (k:=0) (n:=os.length) hz hlm (fun r hr=>absurd hr (Nat.not_lt_zero r)) (Zp2 _) h2 (hs.obj _ _ L h1 hL)
  ·intro r r' o o' L L' ho ho' ha ha' hL hL' hne
   have ho:=Ko os ho
   have ho':=Ko os ho'
   obtain ⟨hr,hL⟩:=g0s r L hL
   obtain ⟨hr',hL'⟩:=g0s r' L' hL'
   exact hs.inj _ _ _ _ L L' (row r o _ ho (nmr r hr)).1 (row r' o' _ ho' (nmr r' hr')).1 (by rw [Fx];exact ha) (by rw [Fx];exact ha') hL hL' (fun e=>hne (nmj r r' hr hr' e))
  ·intro r L hL;exact hs.lt _ L (g0s r L hL).2
  ·intro r hr;rw [Ev] at hr;exact g0n r hr
  ·intro r o ho;rw [Ev];exact (Zpk.1 (Ko os ho)).1
  ·intro r o L ho ha hL
   obtain ⟨hr,hL⟩:=g0s r L hL
   exact hs.fzr _ _ L (row r o _ (Ko os ho) (nmr r hr)).1 (by rw [Fx];exact ha) hL
 refine CallsIn.mono (h γ0 vals w m (fun r hr=>hall r (by rwa [Ev] at hr)) hA0 hs0) ?_
 rintro e w' ⟨v,s',hab,v',γ',rfl,hst,hsim,hv⟩
 have hT:TR γ' (A6 [(0,v)]) #[v']:=by
  intro i x hx
  rcases FT hx with ⟨rfl,rfl⟩|⟨_,h⟩
  ·exact ⟨v',rfl,hv⟩
  ·cases h
 obtain ⟨γ2,t2,s2,_,st2⟩:=hab γ' w' #[v'] [] γ0 (Aj St0 os) w hT hsim .nil hst (Ev os) g0n (fun r hr=>hall r hr)
 obtain ⟨w2,e1,e2⟩:=t2 0 u rfl
 cases e1
 have at2:∀ i o,os2[i]?=some o->(Aj St0 os2).get i=some o:=fun i o hi=>QS os2 (by omega) hi
 have g2:∀ r,r<os.length->γ2 r=γ (nm rs r):=fun r hr=>by
  obtain ⟨L,hL⟩:=hall r hr
  rw [st2.le.loc r L hL,← g0 r hr,hL]
 let γf:Gam:=⟨fun r=>if r<s.next then γ r else γ2 (os.length+(r-s.next)),γ2.fz⟩
 have f1:∀ r,r<s.next->γf r=γ r:=fun r hr=>Zpn hr
 have f2:∀ r,¬ r<s.next->γf r=γ2 (os.length+(r-s.next)):=fun r hr=>Zpr hr
 have hσ:∀ i,γf (DE rs s.next i)=γ2 i:=fun i=>by
  unfold DE
  by_cases hi:i<os.length
  ·rw [Zpn (by omega),f1 _ (nmlt i hi),g2 i hi]
  ·rw [Zpr (by omega),f2 _ (by omega)];congr 1;omega
 have hσl:∀ i L,γ2 i=some L->γf (DE rs s.next i)=some L:=fun i L e=>by rw [hσ];exact e
 have glt:∀ r L,γ r=some L->r<s.next:=fun r L e=>Nat.lt_of_not_le fun hle=>by rw [hs.nx r hle] at e;cases e
 have hle:Le γ γf:=⟨fun r L e=>(f1 r (glt r L e)).trans e,fun b c e=>st2.le.fz b c e⟩
 -- a row that was not handed: its block stays
 have hold:∀ r o L,r ∉ rs->s.get r=some o->BO o=true->γ r=some L->w'.heap[L.b]?=w.heap[L.b]?:=fun r o L hr ho ha hL=>
  st2.blk L.b (hs.lt r L hL) fun r' L' e=>by
   obtain ⟨hr',hL'⟩:=g0s r' L' e
   obtain ⟨o',_,h1,_,h3⟩:=rowN r' hr'
   exact hs.inj _ _ _ _ L' L h1 ho (by rw [Fx];exact h3) ha hL' hL (fun e=>hr (by rw [← e];exact Zp5 (nmr r' hr')))
 have hout:∀ i,i<os.length->DE rs s.next i=nm rs i:=fun i hi=>Zpn (by omega)
 have hnone:∀ r,s.next≤r->s.get r=none:=fun r hr=>by
  cases hg:s.get r with
  | none=>rfl
  | some o=>exact absurd (hs.dom r o hg) (by omega)
 have hS1:(Ed s rs ((os2.take os.length).map (Bw (DE rs s.next)))).next=s.next:=US _ _ _
 have hlen1:rs.length=((os2.take os.length).map (Bw (DE rs s.next))).length:=by rw [Zpq,Zp9];omega
 have back:∀ r o,(Aj (Ed s rs ((os2.take os.length).map (Bw (DE rs s.next)))) ((os2.drop os.length).map (Bw (DE rs s.next)))).get r=some o->(r<s.next∧r ∉ rs∧s.get r=some o)∨(∃ (i:Nat) (o':AObj),os2[i]?=some o'∧r=DE rs s.next i∧o=Bw (DE rs s.next) o'):=by
  intro r o hg
  by_cases hr:r<s.next
  ·rw [Jq _ _ (by rw [hS1];exact hr)] at hg
   rcases Vs rs _ s hlen1 hg with ⟨i,h1,h2⟩|⟨h1,h2⟩
   ·rw [Zqi] at h2
    cases hq:(os2.take os.length)[i]? with
    | none=>rw [hq] at h2;cases h2
    | some o'=>
     rw [hq] at h2
     rw [Zqw] at hq
     split at hq
     ·rename_i hi
      refine .inr ⟨i,o',hq,?_,(Zqr h2).symm⟩
      rw [hout i hi,Fe h1]
     ·cases hq
   ·exact .inl ⟨hr,h1,h2⟩
  ·have:=Kt _ _ (by rw [hS1];omega) (fun q hq=>by
    rw [hS1] at hq
    have hq':q ∉ rs:=fun hm=>by
     obtain ⟨i,hi⟩:=Zrd.1 hm
     have hi':=(Zpk.1 hi).1
     have:=nmlt i (by omega)
     rw [Fe hi] at this;omega
    rw [Rh _ _ _ hq'];exact hnone q hq) hg
   rw [hS1,Zqi] at this
   cases hq:(os2.drop os.length)[r-s.next]? with
   | none=>rw [hq] at this;cases this
   | some o'=>
    rw [hq] at this
    rw [Zpu] at hq
    refine .inr ⟨os.length+(r-s.next),o',hq,?_,(Zqr this).symm⟩
    unfold DE
    rw [Zpr (by omega)];omega
 have hlast:os2.length=(os2.drop os.length).length+os.length:=by rw [List.length_drop];omega
 refine ⟨_,_,⟨rfl,rfl⟩,v',γf,rfl,?_,?_,J6 (γ:=γ2) (γ2:=γf) (fun _ _ e=>e) hσl u e2⟩
 ·refine ⟨hle,?_,by rw [Ha,hS1];omega,st2.size,st2.os,st2.tape,st2.output,?_,?_,?_⟩
  ·intro r L e e0
   by_cases hr:r<s.next
   ·rw [f1 r hr,e0] at e;cases e
   ·rw [f2 r hr] at e
    refine ⟨by omega,?_⟩
    rcases (st2.new _ L e (g0n _ (by omega))).2 with hq|⟨r0,L0,h1,h2⟩
    ·exact .inl hq
    ·exact .inr ⟨_,L0,(g0s r0 L0 h1).2,h2⟩
  ·intro b hb hno
   exact st2.blk b hb fun r L e=>hno _ L (g0s r L e).2
  ·intro r e hr
   rw [Jq _ _ (by rw [hS1];exact hr)]
   refine Rh _ _ _ fun hm=>?_
   obtain ⟨i,hi⟩:=Zrd.1 hm
   have hi':=(Zpk.1 hi).1
   obtain ⟨L,hL⟩:=hall i (by omega)
   have:=(g0s i L hL).2
   rw [Fe hi,e] at this;cases this
  ·intro b c e e0;exact st2.fzn b c e e0
 ·refine ⟨?_,?_,?_,?_,?_,s2.fzc,?_⟩
  ·intro r o L ho hL
   rcases back r o ho with ⟨hr,hn,hg⟩|⟨i,o',hi,rfl,rfl⟩
   ·rw [f1 r hr] at hL
    cases ha:BO o with
    | true=>exact ((hs.obj r o L hg hL).mono hle).heap (hold r o L hn hg ha hL)
    | false=>cases o <;> first|trivial|cases ha
   ·rw [hσ] at hL
    exact Wk (γ:=γ2) (γ2:=γf) (fun _ _ e=>e) hσl (hp o' (Zp5 hi)) (s2.obj i o' L (at2 i o' hi) hL)
  ·have cross:∀ r o L i o' L',r<s.next->r ∉ rs->s.get r=some o->BO o=true->γ r=some L->os2[i]?=some o'->γ2 i=some L'->L.b≠L'.b:=by
    intro r o L i o' L' hr hn hg ha hL hi hL'
    have hlt:=hs.lt r L hL
    have key:∀ r0 L0,γ0 r0=some L0->L.b≠L0.b:=fun r0 L0 e=>by
     obtain ⟨h0,h1⟩:=g0s r0 L0 e
     obtain ⟨o1,_,q1,_,q3⟩:=rowN r0 h0
     exact fun hb=>hs.inj _ _ _ _ L0 L q1 hg (by rw [Fx];exact q3) ha h1 hL (fun e=>hn (by rw [← e];exact Zp5 (nmr r0 h0))) hb.symm
    cases hq:γ0 i with
    | some L0=>
     have:=st2.le.loc i L0 hq
     rw [hL'] at this;cases this
     exact key i L' hq
    | none=>
     rcases (st2.new i L' hL' hq).2 with hb|⟨r0,L0,h1,h2⟩
     ·omega
     ·rw [← h2];exact key r0 L0 h1
   intro r r' o o' L L' ho ho' ha ha' hL hL' hne
   rcases back r o ho with ⟨hr,hn,hg⟩|⟨i,p,hi,rfl,rfl⟩ <;> rcases back r' o' ho' with ⟨hr',hn',hg'⟩|⟨i',p',hi',rfl,rfl⟩
   ·rw [f1 r hr] at hL;rw [f1 r' hr'] at hL'
    exact hs.inj r r' o o' L L' hg hg' ha ha' hL hL' hne
   ·rw [f1 r hr] at hL;rw [hσ] at hL'
    exact cross r o L i' p' L' hr hn hg ha hL hi' hL'
   ·rw [hσ] at hL;rw [f1 r' hr'] at hL'
    exact fun e=>cross r' o' L' i p L hr' hn' hg' ha' hL' hi hL e.symm
   ·rw [hσ] at hL hL'
    rw [Fx] at ha ha'
    exact s2.inj i i' p p' L L' (at2 i p hi) (at2 i' p' hi') ha ha' hL hL' (fun e=>hne (by rw [e]))
  ·intro r L hL
   by_cases hr:r<s.next
   ·rw [f1 r hr] at hL;have:=hs.lt r L hL;have:=st2.size;omega
   ·rw [f2 r hr] at hL;exact s2.lt _ L hL
  ·intro r hr
   rw [Ha,hS1,Zpq] at hr
   rw [f2 r (by omega)]
   refine s2.nx _ ?_
   rw [Ev];omega
  ·intro r o ho
   rw [Ha,hS1,Zpq]
   rcases back r o ho with ⟨hr,_,_⟩|⟨i,o',hi,rfl,_⟩
   ·omega
   ·have hi':=(Zpk.1 hi).1
    unfold DE
    split
    ·have:=nmlt i (by omega);omega
    ·omega
  ·intro r o L ho ha hL
   rcases back r o ho with ⟨hr,hn,hg⟩|⟨i,o',hi,rfl,rfl⟩
   ·rw [f1 r hr] at hL
    have h0:=hs.fzr r o L hg ha hL
    show γ2.fz L.b=none
    cases hc:γ2.fz L.b with
    | none=>rfl
    | some c=>exact absurd (st2.fzn L.b c hc h0) (by have:=hs.lt r L hL;omega)
   ·rw [hσ] at hL
    rw [Fx] at ha
    exact s2.fzr i o' L (at2 i o' hi) ha hL
theorem Zem (nd:rs.Nodup) (hl:os.length=rs.length)
 (row:∀ (i:Nat) o r,os[i]?=some o->rs[i]?=some r->s.get r=some (Bw (nm rs) o)∧Dw 0 os.length o=true∧BO o=true) (nmd:∀ i,i<os.length->HH i args0=true) (hba:Bq os.length args0=true)
 (hk:os.length≤os2.length) (hn:os2.length<1000000) (hp:∀ o ∈ os2,OU o=true)
 (h:C1 P f args0 (Aj St0 os) (fun v s'=>∃ qs,AbsK os.length (T.set .lf v 0) s' [(0,u)] os2 qs)):
 C P f (AF (nm rs) args0) s (fun v s'=>v=Bg (DE rs s.next) u∧s'=Aj (Ed s rs ((os2.take os.length).map (Bw (DE rs s.next)))) ((os2.drop os.length).map (Bw (DE rs s.next)))):=
 Zel nd hl row nmd hba hk hn hp fun γ vals w m h1 h2 h3=>CallsIn.mono (h γ vals w m h1 h2 h3) fun e w' ⟨v,s',⟨qs,hab⟩,hp⟩=>⟨v,s',hab.tells,hp⟩
open Go.RowKit Go.WideShapes Go.ChangeShapes
section
variable {H:Type}{enc:TypeId×Value->H}{P:Program}
theorem post_new {f:Func}{s:ChangeSpec}{apart Gh handsOn again:Bool}{W W':World}{args:Array Value}{v:Value}{ds gs:List (DataW H)}{before pa pv:List MemPlace}
 (hW:DataW.Whole enc P f.params.toList s.vars apart W args.toList ds gs before) (hb:Below W.heap.size W W') (hps:before=pa++pv)
 (hres:∀ (b:Nat) (sp:Nat->Bool) (hd:Bool),DataW.TrodAll enc P W' b sp hd f.resultTypes.toList (v.resultList f.resultTypes.size) (s.fn H (ds++gs)).results [])
 (hargs:∀ sp:Nat->Bool,(∀ p ∈ before,sp p.block=true)->DataW.TrodAll enc P W' 0 sp true f.params.toList args.toList (s.fn H (ds++gs)).args pa)
 (hvars:∀ sp:Nat->Bool,(∀ p ∈ before,sp p.block=true)->DataW.TrodVars enc P W' sp s.vars (s.fn H (ds++gs)).vars pv)
 (hok:∀ (j:Nat) (t:TypeId) (r:Value),f.resultTypes[j]?=some t->(v.resultList f.resultTypes.size)[j]?=some r->Value.okWide P W' .any 0 t r):
 s.post enc P f apart Gh handsOn again W args v W':=by
 have old:∀ p ∈ before,p.block<W.heap.size:=fun p hp=>hW.lt p hp
 have oldB:∀ p ∈ before,(fun b=>decide (b<W.heap.size)) p.block=true:=fun p hp=>Zpo (old p hp)
 have hmem:∀ p,p ∈ pa++pv↔p ∈ before:=fun p=>by rw [hps]
 have hkept:W.keptBut W' (· ∈ before):=hb.frame (· ∈ before)
 refine ⟨ds,gs,before,[],pa,pv,hW,hres _ _ _,hargs _ oldB,hvars _ oldB,World.keptBut_mono ?_ hkept,?_⟩
 ·intro p hp
  refine ⟨hp,.inr ?_⟩
  exact Zqb.1 ((hmem p).2 hp)
 ·intro _
  obtain ⟨_,_,_,_,_,notFrozen,once⟩:=hW
  refine ⟨hok,_,_,([]++pa)++pv,⟨[]++pa,pv,trodAll_append (hargs _ (fun _ _=>rfl)) (hres _ _ _),hvars _ (fun _ _=>rfl),rfl,fun b off hp=>?_,fun ha=>?_⟩,fun p hp _=>?_⟩
  ·have hin:MemPlace.cell b off ∈ before:=(hmem _).1 hp
   rw [hb.frozen (old _ hin)]
   exact notFrozen b off hin
  ·have h1:=once ha
   rw [hps] at h1
   exact h1
  ·exact (hmem p).1 hp
end
end Go.AM
namespace Go.AM
open Go.RowKit
theorem trodAll_below {H:Type}{enc:TypeId×Value->H}{P:Program}{W W':World}(hl:laidOutB P=true) (hb:Below W.heap.size W W') (sp:Nat->Bool):∀ {ts:List TypeId}{vs:List Value}{ds:List (DataW H)}{ps:List MemPlace},(ts.all fun t=>P.readableRec t && decide (t<P.types.size))=true->
 DataW.TrodAll enc P W 0 (fun _=>true) true ts vs ds ps->(∀ x ∈ ps,x.block<W.heap.size)->(∀ x ∈ ps,sp x.block=true)->DataW.TrodAll enc P W' 0 sp true ts vs ds ps
 | [],[],[],ps,_,h,_,_=>h
 | [],_::_,_,_,_,h,_,_=>h.elim
 | [],[],_::_,_,_,h,_,_=>h.elim
 | _::_,[],_,_,_,h,_,_=>h.elim
 | _::_,_::_,[],_,_,h,_,_=>h.elim
 | t::ts,v::vs,d::ds,ps,hall,h,hlt,hsp=>by
  obtain ⟨p,q,h1,h2,rfl⟩:=h
  rw [List.all_cons,Zpl,Zpl] at hall
  refine ⟨p,q,?_,trodAll_below hl hb sp hall.2 h2 (fun x hx=>hlt x (by simp [hx])) (fun x hx=>hsp x (by simp [hx])),rfl⟩
  exact WideElems.Trod_stays hl hall.1.1 (Zq0 hall.1.2) h1 (fun x hx=>hb.same (hlt x (by simp [hx]))) (fun x hx=>hsp x (by simp [hx]))
end Go.AM
