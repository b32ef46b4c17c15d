/- Contracts of functions over the abstract machine. No conditions. -/
import GoSem.Dispatch
import Derived.Laws.AppendOwn
import Derived.Laws.CopyRow
import Derived.Laws.Cells
set_option linter.unusedVariables false
set_option linter.unusedSimpArgs false
set_option maxRecDepth 100000
namespace Go.AM
abbrev Zpj:=@List.getElem?_eq_getElem
abbrev Zpk:=@List.getElem?_eq_some_iff
abbrev Zpl:=@Bool.and_eq_true
abbrev Zpm:=@Result.andThen_ok
abbrev Zpn:=@if_pos
abbrev Zpo:=@decide_eq_true
abbrev Zpp:=@Nat.eq_of_beq_eq_true
abbrev Zpq:=@List.length_map
abbrev Zpr:=@if_neg
abbrev Zps:=@List.take_of_length_le
abbrev Zpt:=@Sem.run_bind
abbrev Zpu:=@List.getElem?_drop
abbrev Zpv:=@List.cons.inj
abbrev Zpw:=@List.take_succ_eq_append_getElem
abbrev Zpx:=@List.length_append
abbrev Zpy:=@Nat.zero_add
abbrev Zpz:=@Sem.run_pure
abbrev Zp0:=@decide_eq_false
abbrev Zp1:=@run_underlying
abbrev Zp2:=@Nat.zero_le
abbrev Zp3:=@List.getElem?_append_left
abbrev Zp4:=@Nat.le_refl
abbrev Zp5:=@List.mem_of_getElem?
abbrev Zp6:=@List.drop_eq_getElem_cons
abbrev Zp7:=@Nat.le_of_ble_eq_true
abbrev Zp8:=@List.map_append
abbrev Zp9:=@List.length_take
abbrev Zqa:=@Nat.ble_eq_true_of_le
abbrev Zqb:=@List.mem_append
abbrev Zqc:=@List.getD_eq_getElem?_getD
abbrev Zqd:=@List.length_cons
abbrev Zqe:=@List.getElem?_append_right
abbrev Zqf:=@List.drop_eq_nil_of_le
abbrev Zqg:=@decide_eq_true_eq
abbrev Zqh:=@List.length_eq_zero_iff
abbrev Zqi:=@List.getElem?_map
abbrev Zqj:=@List.mem_map
abbrev Zqk:=@List.getElem_mem
abbrev Zql:=@Array.getD_eq_getD_getElem?
abbrev Zqm:=@Nat.mul_one
abbrev Zqn:=@Array.getElem?_eq_some_iff
abbrev Zqo:=@Nat.ne_of_beq_eq_false
abbrev Zqp:=@decide_eq_false_iff_not
abbrev Zqq:=@List.mem_of_mem_take
abbrev Zqr:=@Option.some.inj
abbrev Zqs:=@Nat.add_zero
abbrev Zqt:=@List.mem_cons
abbrev Zqu:=@List.append_nil
abbrev Zqv:=@List.mem_of_mem_drop
abbrev Zqw:=@List.getElem?_take
abbrev Zqx:=@Array.getElem?_setIfInBounds
abbrev Zqy:=@Classical.choose_spec
abbrev Zqz:=@List.map_cons
abbrev Zq0:=@of_decide_eq_true
abbrev Zq1:=@Nat.blt_eq
abbrev Zq2:=@Int.natCast_nonneg
abbrev Zq3:=@Int.emod_nonneg
abbrev Zq4:=@Bool.or_eq_false_iff
abbrev Zq5:=@Int.emod_lt_of_pos
abbrev Zq6:=@Nat.beq_refl
abbrev Zq7:=@List.map_toArray
abbrev Zq8:=@Bool.or_eq_true
abbrev Zq9:=@Nat.xor_lt_two_pow
abbrev Zra:=@List.getElem?_of_mem
abbrev Zrb:=@Nat.lt_succ_iff_lt_or_eq
abbrev Zrc:=@Nat.lt_of_lt_of_le
abbrev Zrd:=@List.mem_iff_getElem?
abbrev Zre:=@List.getElem?_toArray
abbrev Zrf:=@Nat.mod_eq_of_lt
abbrev Zrg:=@Nat.add_assoc
abbrev Zrh:=@List.eq_of_mem_replicate
abbrev Zri:=@List.all_eq_true
abbrev Zrj:=@Bool.not_eq_true
abbrev Zrk:=@Array.length_toList
abbrev Zrl:=@List.getElem?_eq_none
abbrev Zrm:=@List.map_nil
noncomputable section
theorem r9 {α β:Type}{a b:α}{c d:β}(h:a=b:=by rfl) (h':c=d:=by rfl):a=b∧c=d:=⟨h,h'⟩
inductive AV where
 | bool (b:Bool)|int (k:IntKind) (n:Int)|str (l:List Nat)
 | ptr (r o:Nat)|nilp
 | sl (r o len:Nat) (cap:Option Nat)|nils|es
 | map (r:Nat)|nilm
 | fn (f:Nat) (first cap:List AV)|yld (l:Nat)|nilf
 | iface (t:Nat) (v:AV)|nili
 | agg (l:List AV)|tup (l:List AV)
 | any
 | fz (n:Nat) (cap:Option Nat) (l:List AV)|fp (l:List AV)
 | ez
inductive AO where
 | t (n:Nat)|c (v:AV)
inductive AOp where
 | mv (x:AO)
 | pick (c a b:AO)
 | new (elem es:Nat) (z:List AV)
 | box (elem n:Nat) (x:AO)
 | build (z:List AV) (ps:List (Nat×Nat×AO))
 | bsl (elem es len:Nat) (z:List AV) (ps:List (Nat×Nat×AO))
 | ld1 (x:AO)|ldn (n:Nat) (x:AO)
 | st (n:Nat) (a x:AO)
 | nilck (x:AO)
 | bin (op:BinOp) (x y:AO)
 | eqb (kd:Nat) (neg:Bool) (x y:AO)
 | eqf (ks:List Nat) (neg:Bool) (x y:AO)
 | un (op:UnOp) (x:AO)
 | cvi (k:IntKind) (x:AO)
 | b2s (x:AO)
 | mkfn (f:Nat) (first cap:List AO)
 | mks (elem es:Nat) (z:List AV) (l c:AO)
 | slc (es:Nat) (x:AO) (lo hi mx:Option AO)
 | sla (es n:Nat) (x:AO) (lo hi mx:Option AO)
 | fa (off:Nat) (x:AO)
 | fld1 (off:Nat) (x:AO)
 | fldn (off n:Nat) (x:AO)
 | ixs (es:Nat) (x i:AO)
 | ixa (len es:Nat) (x i:AO)
 | ixv (len:Nat) (x i:AO)
 | ext (x:AO) (i:Nat)
 | len (x:AO)|lenm (x:AO)|alen (n:Nat)
 | mn (isMax:Bool) (xs:List AO)
 | app (elem es:Nat) (s x:AO)
 | copy (es:Nat) (d s:AO)
 | call (f:AO) (args:List AO)
 | scall (f:Nat) (args:List AO)
 | mkmap
 | mset (m k v:AO)
 | mget (z:AV) (ok:Bool) (m k:AO)
 | mdel (m k:AO)
 | clr (z:List AV) (x:AO)
 | capo (x:AO)
 | app0 (elem es:Nat) (z:List AV) (s k:AO)
 | msetp (m k v:AO)
 | rngm (x:AO)|nextm (x:AO)|entm (x:AO)
 | ixvn (len es:Nat) (x i:AO)
 | mki (ty:Nat) (x:AO)
 | tas (ty:Nat) (z:AV) (x:AO)
 | inv (tb:List (Nat×Nat)) (x:AO) (args:List AO)
 | bad
inductive AOper where
 | mk (dst:Nat) (op:AOp) (guard:Option (Nat×Bool))
 | chk (dst:Nat) (op:AOp) (guard:Option (Nat×Bool))
inductive AC where
 | skip
 | reg (ops:List AOper)
 | seq (a b:AC)
 | cond (c:AO) (a b:AC)
 | block (id:Nat) (b:AC)
 | loop (b:AC)
 | rng (g:AO) (ps:List Nat) (assign body:AC)
 | exit (id:Nat)
 | ret
 | scope (b:AC)
 | lab
inductive ARes where
 | tmp (t:Nat)|cell (t:Nat)|cells (t n:Nat)
inductive AFn where
 | mk (code:AC) (res:List ARes)
inductive T (α:Type) where
 | lf|nd (v:Option α) (l r:T α)
namespace T
def get {α:Type}(t:T α):Nat->Option α:=
 T.rec (motive:=fun _=>Nat->Option α) (fun _=>none)
  (fun v _ _ il ir k=>Nat.rec (motive:=fun _=>Option α) v (fun k _=>Bool.rec (ir (Nat.div k 2)) (il (Nat.div k 2)) (Nat.beq (Nat.mod k 2) 0)) k) t
def sing {α:Type}(x:α):Nat->Nat->T α:=
 Nat.rec (motive:=fun _=>Nat->T α) (fun _=>.lf)
  (fun _ ih k=>Nat.rec (motive:=fun _=>T α) (.nd (some x) .lf .lf) (fun k _=>Bool.rec (.nd none .lf (ih (Nat.div k 2))) (.nd none (ih (Nat.div k 2)) .lf) (Nat.beq (Nat.mod k 2) 0)) k)
def set {α:Type}(t:T α):α->Nat->T α:=
 T.rec (motive:=fun _=>α->Nat->T α) (fun x k=>sing x 64 k)
  (fun v l r il ir x k=>Nat.rec (motive:=fun _=>T α) (.nd (some x) l r) (fun k _=>Bool.rec (.nd v l (ir x (Nat.div k 2))) (.nd v (il x (Nat.div k 2)) r) (Nat.beq (Nat.mod k 2) 0)) k) t
end T
inductive AObj where
 | row (elem:Nat) (cells:List AV)
 | dead
 | map (es:List (AV×AV×Nat)) (clock:Nat)
 | loop (st:LoopState) (pend:Option Nat) (fn:Nat) (tmps:T AV) (ps:List Nat) (assign body:AC) (d:Nat)
 | defd
 | iter (m since:Nat) (seen:List Nat) (last:Nat)
inductive St where
 | mk (next:Nat) (heap:T AObj)
abbrev AT:=T AV
inductive RV where
 | fail|ok (v:AV) (s:St)
inductive OV where
 | none|some (v:AV)
inductive PR where|no|ptr (r o:Nat)|fp (l:List AV)
def Bs (v:AV):PR:=AV.rec (motive_1:=fun _=>PR) (motive_2:=fun _=>Unit)
 (fun _=>.no) (fun _ _=>.no) (fun _=>.no) (fun r o=>.ptr r o) (.no) (fun _ _ _ _=>.no) (.no) (.no) (fun _=>.no) (.no) (fun _ _ _ _ _=>.no) (fun _=>.no) (.no) (fun _ _ _=>.no) (.no) (fun _ _=>.no) (fun _ _=>.no) (.no) (fun _ _ _ _=>.no) (fun l _=>.fp l) (.no)
 () (fun _ _ _ _=>()) v
inductive IR where|no|int (k:IntKind) (n:Int)
def asInt (v:AV):IR:=AV.rec (motive_1:=fun _=>IR) (motive_2:=fun _=>Unit)
 (fun _=>.no) (fun k n=>.int k n) (fun _=>.no) (fun _ _=>.no) (.no) (fun _ _ _ _=>.no) (.no) (.no) (fun _=>.no) (.no) (fun _ _ _ _ _=>.no) (fun _=>.no) (.no) (fun _ _ _=>.no) (.no) (fun _ _=>.no) (fun _ _=>.no) (.no) (fun _ _ _ _=>.no) (fun _ _=>.no) (.no)
 () (fun _ _ _ _=>()) v
inductive BR where|no|tt|ff
def asBool (v:AV):BR:=AV.rec (motive_1:=fun _=>BR) (motive_2:=fun _=>Unit)
 (fun b=>Bool.rec .ff .tt b) (fun _ _=>.no) (fun _=>.no) (fun _ _=>.no) (.no) (fun _ _ _ _=>.no) (.no) (.no) (fun _=>.no) (.no) (fun _ _ _ _ _=>.no) (fun _=>.no) (.no) (fun _ _ _=>.no) (.no) (fun _ _=>.no) (fun _ _=>.no) (.no) (fun _ _ _ _=>.no) (fun _ _=>.no) (.no)
 () (fun _ _ _ _=>()) v
inductive SR where|no|sl (r o len:Nat) (cap:Option Nat)|nils|es|fz (n:Nat) (cap:Option Nat) (l:List AV)
def B6 (v:AV):SR:=AV.rec (motive_1:=fun _=>SR) (motive_2:=fun _=>Unit)
 (fun _=>.no) (fun _ _=>.no) (fun _=>.no) (fun _ _=>.no) (.no) (fun r o n c=>.sl r o n c) (.nils) (.es) (fun _=>.no) (.no) (fun _ _ _ _ _=>.no) (fun _=>.no) (.no) (fun _ _ _=>.no) (.no) (fun _ _=>.no) (fun _ _=>.no) (.no) (fun n c l _=>.fz n c l) (fun _ _=>.no) (.no)
 () (fun _ _ _ _=>()) v
inductive LR where|no|l (l:List AV)
def asAgg (v:AV):LR:=AV.rec (motive_1:=fun _=>LR) (motive_2:=fun _=>Unit)
 (fun _=>.no) (fun _ _=>.no) (fun _=>.no) (fun _ _=>.no) (.no) (fun _ _ _ _=>.no) (.no) (.no) (fun _=>.no) (.no) (fun _ _ _ _ _=>.no) (fun _=>.no) (.no) (fun _ _ _=>.no) (.no) (fun l _=>.l l) (fun _ _=>.no) (.no) (fun _ _ _ _=>.no) (fun _ _=>.no) (.no)
 () (fun _ _ _ _=>()) v
def IM (v:AV):LR:=AV.rec (motive_1:=fun _=>LR) (motive_2:=fun _=>Unit)
 (fun _=>.no) (fun _ _=>.no) (fun _=>.no) (fun _ _=>.no) (.no) (fun _ _ _ _=>.no) (.no) (.no) (fun _=>.no) (.no) (fun _ _ _ _ _=>.no) (fun _=>.no) (.no) (fun _ _ _=>.no) (.no) (fun _ _=>.no) (fun l _=>.l l) (.no) (fun _ _ _ _=>.no) (fun _ _=>.no) (.no)
 () (fun _ _ _ _=>()) v
inductive NR where|no|n (n:Nat)
def HD (v:AV):NR:=AV.rec (motive_1:=fun _=>NR) (motive_2:=fun _=>Unit)
 (fun _=>.no) (fun _ n=>Int.rec (fun n=>.n n) (fun _=>.no) n) (fun _=>.no) (fun _ _=>.no) (.no) (fun _ _ _ _=>.no) (.no) (.no) (fun _=>.no) (.no) (fun _ _ _ _ _=>.no) (fun _=>.no) (.no) (fun _ _ _=>.no) (.no) (fun _ _=>.no) (fun _ _=>.no) (.no) (fun _ _ _ _=>.no) (fun _ _=>.no) (.no)
 () (fun _ _ _ _=>()) v
inductive MR where|no|m (r:Nat)|nil
def FD (v:AV):MR:=AV.rec (motive_1:=fun _=>MR) (motive_2:=fun _=>Unit)
 (fun _=>.no) (fun _ _=>.no) (fun _=>.no) (fun _ _=>.no) (.no) (fun _ _ _ _=>.no) (.no) (.no) (fun r=>.m r) (.nil) (fun _ _ _ _ _=>.no) (fun _=>.no) (.no) (fun _ _ _=>.no) (.no) (fun _ _=>.no) (fun _ _=>.no) (.no) (fun _ _ _ _=>.no) (fun _ _=>.no) (.no)
 () (fun _ _ _ _=>()) v
inductive FR where|no|fn (f:Nat) (first cap:List AV)|yld (l:Nat)
def EY (v:AV):FR:=AV.rec (motive_1:=fun _=>FR) (motive_2:=fun _=>Unit)
 (fun _=>.no) (fun _ _=>.no) (fun _=>.no) (fun _ _=>.no) (.no) (fun _ _ _ _=>.no) (.no) (.no) (fun _=>.no) (.no) (fun f a b _ _=>.fn f a b) (fun l=>.yld l) (.no) (fun _ _ _=>.no) (.no) (fun _ _=>.no) (fun _ _=>.no) (.no) (fun _ _ _ _=>.no) (fun _ _=>.no) (.no)
 () (fun _ _ _ _=>()) v
inductive XR where|no|x (t:Nat) (v:AV)
def Lu (v:AV):XR:=AV.rec (motive_1:=fun _=>XR) (motive_2:=fun _=>Unit)
 (fun _=>.no) (fun _ _=>.no) (fun _=>.no) (fun _ _=>.no) (.no) (fun _ _ _ _=>.no) (.no) (.no) (fun _=>.no) (.no) (fun _ _ _ _ _=>.no) (fun _=>.no) (.no) (fun t v _=>.x t v) (.no) (fun _ _=>.no) (fun _ _=>.no) (.no) (fun _ _ _ _=>.no) (fun _ _=>.no) (.no)
 () (fun _ _ _ _=>()) v
inductive TR0 where|no|s (l:List Nat)
def Gj (v:AV):TR0:=AV.rec (motive_1:=fun _=>TR0) (motive_2:=fun _=>Unit)
 (fun _=>.no) (fun _ _=>.no) (fun l=>.s l) (fun _ _=>.no) (.no) (fun _ _ _ _=>.no) (.no) (.no) (fun _=>.no) (.no) (fun _ _ _ _ _=>.no) (fun _=>.no) (.no) (fun _ _ _=>.no) (.no) (fun _ _=>.no) (fun _ _=>.no) (.no) (fun _ _ _ _=>.no) (fun _ _=>.no) (.no)
 () (fun _ _ _ _=>()) v
def cellsOf (v:AV):List AV:=AV.rec (motive_1:=fun _=>List AV) (motive_2:=fun _=>Unit)
 (fun _=>[v]) (fun _ _=>[v]) (fun _=>[v]) (fun _ _=>[v]) ([v]) (fun _ _ _ _=>[v]) ([v]) ([v]) (fun _=>[v]) ([v]) (fun _ _ _ _ _=>[v]) (fun _=>[v]) ([v]) (fun _ _ _=>[v]) ([v]) (fun l _=>l) (fun _ _=>[]) ([v]) (fun _ _ _ _=>[v]) (fun _ _=>[v]) ([v])
 () (fun _ _ _ _=>()) v
def M9 (v:AV):Bool:=AV.rec (motive_1:=fun _=>Bool) (motive_2:=fun _=>Unit)
 (fun _=>false) (fun _ _=>false) (fun _=>false) (fun _ _=>false) (true) (fun _ _ _ _=>false) (false) (false) (fun _=>false) (false) (fun _ _ _ _ _=>false) (fun _=>false) (true) (fun _ _ _=>false) (true) (fun _ _=>false) (fun _ _=>false) (true) (fun _ _ _ _=>false) (fun _ _=>false) (false)
 () (fun _ _ _ _=>()) v
def B4 (v:AV):Bool:=AV.rec (motive_1:=fun _=>Bool) (motive_2:=fun _=>Unit)
 (fun _=>false) (fun _ _=>false) (fun _=>false) (fun _ _=>false) (false) (fun _ _ _ _=>false) (false) (false) (fun _=>false) (false) (fun _ _ _ _ _=>false) (fun _=>false) (false) (fun _ _ _=>false) (false) (fun _ _=>false) (fun _ _=>false) (true) (fun _ _ _ _=>false) (fun _ _=>false) (false)
 () (fun _ _ _ _=>()) v
def JP (v:AV):Bool:=AV.rec (motive_1:=fun _=>Bool) (motive_2:=fun _=>Unit)
 (fun _=>false) (fun _ _=>false) (fun _=>false) (fun _ _=>false) (false) (fun _ _ _ _=>false) (false) (false) (fun _=>false) (false) (fun _ _ _ _ _=>false) (fun _=>false) (false) (fun _ _ _=>false) (false) (fun _ _=>false) (fun _ _=>false) (false) (fun _ _ _ _=>false) (fun _ _=>false) (true)
 () (fun _ _ _ _=>()) v
def Ep (v:AV):Nat:=AV.rec (motive_1:=fun _=>Nat) (motive_2:=fun _=>Unit)
 (fun _=>0) (fun _ _=>1) (fun _=>2) (fun _ _=>3) (4) (fun _ _ _ _=>5) (6) (7) (fun _=>8) (9) (fun _ _ _ _ _=>10) (fun _=>11) (12) (fun _ _ _=>13) (14) (fun _ _=>15) (fun _ _=>16) (17) (fun _ _ _ _=>18) (fun _ _=>19) (20)
 () (fun _ _ _ _=>()) v
def evT (n:Nat) (t:AT):OV:=Option.rec .none (fun v=>.some v) (t.get n)
def evC (v:AV) (_:AT):OV:=.some v
def ev (x:AO):AT->OV:=AO.rec evT evC x
def wth (x:AO) (t:AT) (k:AV->RV):RV:=OV.rec .fail k (ev x t)
def Cr (t:AT) (l:List AO):Option (List AV):=
 List.rec (some []) (fun x _ ih=>OV.rec none (fun v=>Option.rec none (fun vs=>some (v::vs)) ih) (ev x t)) l
def BQ (d:Nat) (v:AV) (t:AT):AT:=Nat.rec t (fun d _=>t.set v d) d
def St.alloc (o:AObj) (s:St):St:=St.rec (fun n h=>.mk (Nat.succ n) (h.set o n)) s
def St.put (r:Nat) (o:AObj) (s:St):St:=St.rec (fun n h=>.mk n (h.set o r)) s
def St.get (r:Nat) (s:St):Option AObj:=St.rec (fun _ h=>h.get r) s
def St.next (s:St):Nat:=St.rec (fun n _=>n) s
def A7 {α:Type}(l:List α):Nat:=List.rec 0 (fun _ _ ih=>Nat.succ ih) l
def FI {α:Type}(l:List α):Nat->Option α:=
 List.rec (motive:=fun _=>Nat->Option α) (fun _=>none) (fun x _ ih n=>Nat.rec (some x) (fun n _=>ih n) n) l
def D0 {α:Type}(n:Nat):List α->List α:=
 Nat.rec (motive:=fun _=>List α->List α) (fun l=>l) (fun _ ih l=>List.rec [] (fun _ l _=>ih l) l) n
def Bo {α:Type}(n:Nat):List α->Option (List α):=
 Nat.rec (motive:=fun _=>List α->Option (List α)) (fun _=>some []) (fun _ ih l=>List.rec none (fun x l _=>Option.rec none (fun r=>some (x::r)) (ih l)) l) n
def Be {α:Type}(a b:List α):List α:=List.rec b (fun x _ ih=>x::ih) a
def JK (vs:List AV):List AV->Option (List AV):=
 List.rec (motive:=fun _=>List AV->Option (List AV)) (fun l=>some l) (fun v _ ih l=>List.rec none (fun _ l _=>Option.rec none (fun r=>some (v::r)) (ih l)) l) vs
def E5 (vs:List AV) (o:Nat):List AV->Option (List AV):=
 Nat.rec (motive:=fun _=>List AV->Option (List AV)) (JK vs) (fun _ ih l=>List.rec none (fun x l _=>Option.rec none (fun r=>some (x::r)) (ih l)) l) o
def Bp (z:List AV) (n:Nat):List AV:=Nat.rec [] (fun _ ih=>Be z ih) n
inductive RW where|no|row (elem:Nat) (cells:List AV)
def Zpd (o:AObj):RW:=AObj.rec (fun e c=>.row e c) .no (fun _ _=>.no) (fun _ _ _ _ _ _ _ _=>.no) .no (fun _ _ _ _=>.no) o
def Dm (r:Nat) (s:St):RW:=Option.rec .no Zpd (s.get r)
def load1 (r o:Nat) (s:St):Option AV:=RW.rec none (fun _ cs=>FI cs o) (Dm r s)
def load (r o n:Nat) (s:St):Option (List AV):=RW.rec none (fun _ cs=>Bo n (D0 o cs)) (Dm r s)
def storeAt (r o:Nat) (vs:List AV) (s:St):Option St:=
 RW.rec none (fun e cs=>Option.rec none (fun cs'=>some (s.put r (.row e cs'))) (E5 vs o cs)) (Dm r s)
def Fo (a:List Nat):List Nat->Bool:=
 List.rec (motive:=fun _=>List Nat->Bool) (fun b=>List.rec true (fun _ _ _=>false) b) (fun x _ ih b=>List.rec false (fun y b _=>Bool.rec false (ih b) (Nat.beq x y)) b) a
def D9 (a b:Int):Bool:=Int.rec (fun a=>Int.rec (fun b=>Nat.beq a b) (fun _=>false) b) (fun a=>Int.rec (fun _=>false) (fun b=>Nat.beq a b) b) a
def E6 (a b:Int):Bool:=Int.rec (fun a=>Int.rec (fun b=>Nat.blt a b) (fun _=>false) b) (fun a=>Int.rec (fun _=>true) (fun b=>Nat.blt b a) b) a
def GF (k:IntKind):Nat:=IntKind.rec 0 1 2 3 4 5 6 7 k
def Ch (a b:IntKind):Bool:=Nat.beq (GF a) (GF b)
def Yg (k:IntKind) (m:Nat):Int:=
 IntKind.rec (IntKind.i8.wrap m) (IntKind.i16.wrap m) (IntKind.i32.wrap m) (Bool.rec (IntKind.i64.wrap m) (.ofNat m) (Nat.blt m 9223372036854775808))
  (.ofNat (Nat.mod m 256)) (.ofNat (Nat.mod m 65536)) (.ofNat (Nat.mod m 4294967296)) (.ofNat (Nat.mod m 18446744073709551616)) k
def Zn4 (k:IntKind) (m:Nat):Int:=
 Bool.rec (k.wrap (.negSucc m)) (Bool.rec (k.wrap (.negSucc m)) (.negSucc m) (Nat.blt m 9223372036854775808)) (Nat.beq (GF k) 3)
def E1 (k:IntKind) (n:Int):Int:=Int.rec (Yg k) (Zn4 k) n
def Zz (a b:Int):Int:=Int.rec (fun x=>Int.rec (fun y=>.ofNat (Nat.add x y)) (fun _=>Int.add a b) b) (fun _=>Int.add a b) a
def P8 (a b:Int):Int:=Int.rec (fun x=>Int.rec (fun y=>.ofNat (Nat.mul x y)) (fun _=>Int.mul a b) b) (fun _=>Int.mul a b) a
def P0 (a b:Int):Int:=Int.rec (fun x=>Int.rec (fun y=>Bool.rec (Int.sub a b) (.ofNat (Nat.sub x y)) (Nat.ble y x)) (fun _=>Int.sub a b) b) (fun _=>Int.sub a b) a
def FC (g:(n:Nat)->BitVec n->BitVec n->BitVec n) (k:IntKind) (a b:Int):Int:=k.wrap (g k.bits (BitVec.ofInt k.bits a) (BitVec.ofInt k.bits b)).toNat
def YD (f:Nat->Nat->Nat) (g:(n:Nat)->BitVec n->BitVec n->BitVec n) (k:IntKind) (x y:Nat):Int:=
 IntKind.rec (FC g .i8 x y) (FC g .i16 x y) (FC g .i32 x y) (FC g .i64 x y) (.ofNat (f (Nat.mod x 256) (Nat.mod y 256))) (FC g .u16 x y) (.ofNat (f (Nat.mod x 4294967296) (Nat.mod y 4294967296))) (FC g .u64 x y) k
def Na (f:Nat->Nat->Nat) (g:(n:Nat)->BitVec n->BitVec n->BitVec n) (k:IntKind) (a b:Int):Int:=
 Int.rec (fun x=>Int.rec (fun y=>YD f g k x y) (fun _=>FC g k a b) b) (fun _=>FC g k a b) a
def ar (f:IntKind->Int->Int->Int) (x y:AV):OV:=
 IR.rec .none (fun k a=>IR.rec .none (fun k' b=>Bool.rec .none (.some (.int k (f k a b))) (Ch k k')) (asInt y)) (asInt x)
def G1 (f:Int->Int->Bool) (x y:AV):OV:=
 IR.rec .none (fun k a=>IR.rec .none (fun k' b=>Bool.rec .none (.some (.bool (f a b))) (Ch k k')) (asInt y)) (asInt x)
def P1 (f:List Nat->List Nat->AV) (x y:AV):OV:=
 TR0.rec .none (fun a=>TR0.rec .none (fun b=>.some (f a b)) (Gj y)) (Gj x)
def Ka (x:OV) (y:OV):OV:=OV.rec y (fun v=>.some v) x
def Sn (x y:AV):OV:=TR0.rec .none (fun a=>TR0.rec .none (fun b=>Bool.rec .none (.some (.str (Be a b))) (Nat.ble (A7 a+A7 b) 1000000)) (Gj y)) (Gj x)
def addA (x y:AV):OV:=Ka (ar (fun k a b=>E1 k (Zz a b)) x y) (Sn x y)
def subA:AV->AV->OV:=ar (fun k a b=>E1 k (P0 a b))
def mulA:AV->AV->OV:=ar (fun k a b=>E1 k (P8 a b))
def dvd (f:IntKind->Int->Int->Int) (x y:AV):OV:=
 IR.rec .none (fun k a=>IR.rec .none (fun k' b=>Bool.rec .none (Bool.rec (.some (.int k (f k a b))) .none (D9 b 0)) (Ch k k')) (asInt y)) (asInt x)
def SP (a b:Int):Int:=Int.rec (fun x=>Int.rec (fun y=>.ofNat (Nat.div x y)) (fun _=>a.tdiv b) b) (fun _=>a.tdiv b) a
def SO (a b:Int):Int:=Int.rec (fun x=>Int.rec (fun y=>.ofNat (Nat.mod x y)) (fun _=>a.tmod b) b) (fun _=>a.tmod b) a
def quoA:AV->AV->OV:=dvd (fun k a b=>E1 k (SP a b))
def remA:AV->AV->OV:=dvd (fun _ a b=>SO a b)
def andA:AV->AV->OV:=ar (Na Nat.land (fun _=>BitVec.and))
def orA:AV->AV->OV:=ar (Na Nat.lor (fun _=>BitVec.or))
def xorA:AV->AV->OV:=ar (Na Nat.xor (fun _=>BitVec.xor))
def eqlA (x y:AV):OV:=Ka (G1 D9 x y) (P1 (fun a b=>.bool (Fo a b)) x y)
def neqA (x y:AV):OV:=Ka (G1 (fun a b=>!D9 a b) x y) (P1 (fun a b=>.bool (!Fo a b)) x y)
def lssA:AV->AV->OV:=G1 E6
def leqA:AV->AV->OV:=G1 (fun a b=>!E6 b a)
def gtrA:AV->AV->OV:=G1 (fun a b=>E6 b a)
def geqA:AV->AV->OV:=G1 (fun a b=>!E6 a b)
def sh (f:IntKind->Int->Nat->Int) (x y:AV):OV:=
 IR.rec .none (fun k a=>NR.rec .none (fun b=>.some (.int k (f k a b))) (HD y)) (asInt x)
def Y3 (a:Int) (m:Nat):Int:=Int.rec (fun x=>.ofNat (Nat.div x m)) (fun _=>a.fdiv m) a
def shlA:AV->AV->OV:=sh (fun k a b=>E1 k (P8 a (.ofNat (Nat.pow 2 (Nat.min b k.bits)))))
def shrA:AV->AV->OV:=sh (fun k a b=>Y3 a (Nat.pow 2 (Nat.min b k.bits)))
def noA (_ _:AV):OV:=.none
def PK (op:BinOp):AV->AV->OV:=match op with
 | .add=>addA|.sub=>subA|.mul=>mulA|.quo=>quoA|.rem=>remA|.and=>andA|.or=>orA|.xor=>xorA|.andNot=>noA|.shl=>shlA|.shr=>shrA
 | .eql=>eqlA|.neq=>neqA|.lss=>lssA|.leq=>leqA|.gtr=>gtrA|.geq=>geqA
def unA (op:UnOp) (x:AV):OV:=match op with
 | .not=>BR.rec .none (.some (.bool false)) (.some (.bool true)) (asBool x)
 | .neg=>IR.rec .none (fun k n=>.some (.int k (E1 k (P0 0 n)))) (asInt x)
 | .xor=>IR.rec .none (fun k n=>.some (.int k (Na Nat.xor (fun _=>BitVec.xor) k (if k.signed then -1 else k.max) n))) (asInt x)
 | _=>.none
def JQ (kd:Nat) (x y:AV):Option Bool:=match kd,x,y with
 | 0,.bool a,.bool b=>some (a == b)
 | 1,.nilp,.nilp=>some true
 | 1,.nilp,.ptr ..=>some false
 | 1,.ptr ..,.nilp=>some false
 | 1,.nilp,.fp ..=>some false
 | 1,.fp ..,.nilp=>some false
 | 2,.nils,.nils=>some true
 | 2,.nils,.sl ..=>some false
 | 2,.sl ..,.nils=>some false
 | 2,.nils,.es=>some false
 | 2,.es,.nils=>some false
 | 2,.nils,.fz ..=>some false
 | 2,.fz ..,.nils=>some false
 | 3,.nili,.iface ..=>some false
 | 3,.iface ..,.nili=>some false
 | 4,.nilf,.nilf=>some true
 | 4,.nilf,.fn ..=>some false
 | 4,.fn ..,.nilf=>some false
 | _,_,_=>none
def LF (kd:Nat) (x y:AV):Option Bool:=match kd,x,y with
 | 0,.int k a,.int k' b=>cond (Ch k k') (some (D9 a b)) none
 | 1,.bool a,.bool b=>some (a == b)
 | 2,.str a,.str b=>some (Fo a b)
 | _,_,_=>none
def Gq:List Nat->List AV->List AV->Option Bool
 | [],[],[]=>some true
 | k::ks,x::xs,y::ys=>match LF k x y with
  | some true=>Gq ks xs ys
  | some false=>some false
  | none=>none
 | _,_,_=>none
def fill (t:AT) (ps:List (Nat×Nat×AO)):List AV->Option (List AV):=
 List.rec (motive:=fun _=>List AV->Option (List AV)) (fun z=>some z)
  (fun p _ ih z=>OV.rec none (fun v=>Bool.rec none (Option.rec none (fun z'=>ih z') (E5 (cellsOf v) p.1 z)) (Nat.beq (A7 (cellsOf v)) p.2.1)) (ev p.2.2 t)) ps
def HI (x:OV):NR:=OV.rec .no HD x
def C8 (t:AT) (x:Option AO) (d:Nat):NR:=Option.rec (.n d) (fun x=>HI (ev x t)) x
def C0 (l:List AV):Option (List Nat):=
 List.rec (some []) (fun v _ ih=>IR.rec none (fun k n=>Bool.rec none (Int.rec (fun a=>Bool.rec none (Option.rec none (fun r=>some (a::r)) ih) (Nat.blt a 256)) (fun _=>none) n) (Nat.beq (GF k) 4)) (asInt v)) l
def ofBytes (l:List Nat):List AV:=List.rec [] (fun b _ ih=>AV.int .u8 (.ofNat b)::ih) l
def mm (mx:Bool) (l:List AV):AV->OV:=
 List.rec (motive:=fun _=>AV->OV) (fun x=>.some x) (fun y _ ih x=>IR.rec .none (fun k a=>IR.rec .none (fun k' b=>Bool.rec .none (ih (.int k (Bool.rec a b (Bool.rec (E6 b a) (E6 a b) mx)))) (Ch k k')) (asInt y)) (asInt x)) l
def Fi (k k':AV):Option Bool:=match k,k' with
 | .int a x,.int b y=>cond (Ch a b) (some (D9 x y)) none
 | _,_=>none
def CM (k:AV):List (AV×AV×Nat)->Option (Option AV)
 | []=>some none
 | (k',v,_)::l=>match Fi k k' with
  | some true=>some (some v)
  | some false=>CM k l
  | none=>none
def HG (k v:AV):List (AV×AV×Nat)->List (AV×AV×Nat)
 | []=>[]
 | (k',v',b)::l=>match Fi k k' with
  | some true=>(k,v,b)::l
  | _=>(k',v',b)::HG k v l
def Fq (k:AV):List (AV×AV×Nat)->List (AV×AV×Nat)
 | []=>[]
 | (k',v',b)::l=>match Fi k k' with
  | some true=>l
  | _=>(k',v',b)::Fq k l
def Gh (o:AObj) (v:Nat->AV) (s:St):RV:=.ok (v s.next) (s.alloc o)
def ret (x:OV) (s:St):RV:=OV.rec .fail (fun v=>.ok v s) x
def retO (x:Option AV) (s:St):RV:=Option.rec .fail (fun v=>.ok v s) x
def Gm (v:AV) (x:Option St):RV:=Option.rec .fail (fun s=>.ok v s) x
def gd (b:Bool) (r:RV):RV:=Bool.rec .fail r b
abbrev OpR:=AT->St->RV
def mvA (x:AO):OpR:=fun t s=>wth x t fun v=>.ok v s
def Yp (c a b:AO):OpR:=fun t s=>wth c t fun c=>BR.rec .fail (ret (ev a t) s) (ret (ev b t) s) (asBool c)
def YY (e es:Nat) (z:List AV):OpR:=fun _ s=>Gh (.row e z) (fun r=>.ptr r 0) s
def Zv (e n:Nat) (x:AO):OpR:=fun t s=>wth x t fun v=>gd (Nat.beq (A7 (cellsOf v)) n) (Gh (.row e (cellsOf v)) (fun r=>.ptr r 0) s)
def Ya (z:List AV) (ps:List (Nat×Nat×AO)):OpR:=fun t s=>Option.rec .fail (fun cs=>.ok (.agg cs) s) (fill t ps z)
def Zu (e es n:Nat) (z:List AV) (ps:List (Nat×Nat×AO)):OpR:=fun t s=>Option.rec .fail (fun cs=>Gh (.row e cs) (fun r=>.sl r 0 n (some n)) s) (fill t ps z)
def Ze (x:AO):OpR:=fun t s=>wth x t fun v=>PR.rec .fail (fun r o=>retO (load1 r o s) s) (fun l=>retO (FI l 0) s) (Bs v)
def Zd (n:Nat) (x:AO):OpR:=fun t s=>wth x t fun v=>PR.rec .fail (fun r o=>Option.rec .fail (fun cs=>.ok (.agg cs) s) (load r o n s)) (fun l=>Option.rec .fail (fun cs=>.ok (.agg cs) s) (Bo n l)) (Bs v)
def stA (n:Nat) (a x:AO):OpR:=fun t s=>wth a t fun p=>wth x t fun v=>PR.rec .fail (fun r o=>gd (Nat.beq (A7 (cellsOf v)) n) (Gm (.tup []) (storeAt r o (cellsOf v) s))) (fun _=>.fail) (Bs p)
def XG (x:AO):OpR:=fun t s=>wth x t fun v=>Bool.rec (.ok v s) .fail (M9 v)
def YE (op:BinOp) (x y:AO):OpR:=fun t s=>wth x t fun a=>wth y t fun b=>ret (PK op a b) s
def DF (neg b:Bool):Bool:=Bool.rec b (!b) neg
def Y5 (kd:Nat) (neg:Bool) (x y:AO):OpR:=fun t s=>wth x t fun a=>wth y t fun b=>Option.rec .fail (fun c=>.ok (.bool (DF neg c)) s) (JQ kd a b)
def Y4 (ks:List Nat) (neg:Bool) (x y:AO):OpR:=fun t s=>wth x t fun a=>wth y t fun b=>
 LR.rec .fail (fun a=>LR.rec .fail (fun b=>Option.rec .fail (fun c=>.ok (.bool (DF neg c)) s) (Gq ks a b)) (asAgg b)) (asAgg a)
def YR (op:UnOp) (x:AO):OpR:=fun t s=>wth x t fun a=>ret (unA op a) s
def Zl (k:IntKind) (x:AO):OpR:=fun t s=>wth x t fun a=>IR.rec .fail (fun _ n=>.ok (.int k (E1 k n)) s) (asInt a)
def Zw (x:AO):OpR:=fun t s=>wth x t fun a=>SR.rec .fail (fun r o n _=>Option.rec .fail (fun cs=>Option.rec .fail (fun l=>.ok (.str l) s) (C0 cs)) (load r o n s)) (.ok (.str []) s) (.ok (.str []) s) (fun n _ l=>Option.rec .fail (fun cs=>Option.rec .fail (fun b=>.ok (.str b) s) (C0 cs)) (Bo n l)) (B6 a)
def Yt (f:Nat) (a b:List AO):OpR:=fun t s=>Option.rec .fail (fun x=>Option.rec .fail (fun y=>.ok (.fn f x y) s) (Cr t b)) (Cr t a)
def YZ (e es:Nat) (z:List AV) (l c:AO):OpR:=fun t s=>NR.rec .fail (fun l=>NR.rec .fail (fun c=>gd (Nat.ble l c && Nat.ble c 1000000) (Gh (.row e (Bp z c)) (fun r=>.sl r 0 l (some c)) s)) (HI (ev c t))) (HI (ev l t))
def Tm (es r o n:Nat) (cap:Option Nat) (l h:Nat) (s:St):RV:=
 Option.rec (gd (Nat.ble l h && Nat.ble h n) (Bool.rec (.ok .es s) (.ok (.sl r (o+l*es) (h-l) none) s) (Nat.blt l n)))
  (fun c=>gd (Nat.ble l h && Nat.ble h c) (.ok (.sl r (Bool.rec (o+l*es) o (Nat.beq c l)) (h-l) (some (c-l))) s)) cap
def YU (es r o n:Nat) (cap:Option Nat) (l h m:Nat) (s:St):RV:=
 gd (Nat.ble l h && Nat.ble h m && Nat.ble m (Option.rec n (fun c=>c) cap)) (.ok (.sl r (Bool.rec (o+l*es) o (Nat.beq m l)) (h-l) (some (m-l))) s)
def Nh (es n:Nat) (cap:Option Nat) (cs:List AV) (l h:Nat) (s:St):RV:=
 gd (Nat.ble l h && Nat.ble h n) (Bool.rec (.ok .es s) (Option.rec .fail (fun cs'=>.ok (.fz (h-l) (Option.rec none (fun c=>some (c-l)) cap) cs') s) (Bo (Nat.mul (h-l) es) (D0 (Nat.mul l es) cs))) (Nat.blt l n))
def Yj (es n:Nat) (cs:List AV) (l h m:Nat) (s:St):RV:=
 gd (Nat.ble l h && Nat.ble h m && Nat.ble m n) (Bool.rec (.ok .ez s) (Option.rec .fail (fun cs'=>.ok (.fz (h-l) (some (m-l)) cs') s) (Bo (Nat.mul (h-l) es) (D0 (Nat.mul l es) cs))) (Nat.blt l m))
def YT (es:Nat) (x:AO) (lo hi mx:Option AO):OpR:=fun t s=>wth x t fun a=>SR.rec .fail
 (fun r o n cap=>NR.rec .fail (fun l=>NR.rec .fail (fun h=>Option.rec (Tm es r o n cap l h s) (fun m=>NR.rec .fail (fun m=>YU es r o n cap l h m s) (HI (ev m t))) mx) (C8 t hi n)) (C8 t lo 0))
 (NR.rec .fail (fun l=>NR.rec .fail (fun h=>NR.rec .fail (fun m=>gd (Nat.beq (l+h+m) 0) (.ok .nils s)) (C8 t mx 0)) (C8 t hi 0)) (C8 t lo 0))
 (NR.rec .fail (fun l=>NR.rec .fail (fun h=>NR.rec .fail (fun m=>gd (Nat.beq (l+h+m) 0) (.ok (Option.rec .es (fun _=>.ez) mx) s)) (C8 t mx 0)) (C8 t hi 0)) (C8 t lo 0))
 (fun n cap cs=>NR.rec .fail (fun l=>NR.rec .fail (fun h=>Option.rec (Nh es n cap cs l h s) (fun m=>NR.rec .fail (fun m=>Yj es n cs l h m s) (HI (ev m t))) mx) (C8 t hi n)) (C8 t lo 0)) (B6 a)
def YV (es n:Nat) (x:AO) (lo hi mx:Option AO):OpR:=fun t s=>wth x t fun a=>PR.rec .fail (fun r o=>
 NR.rec .fail (fun l=>NR.rec .fail (fun h=>NR.rec .fail (fun m=>gd (Nat.ble l h && Nat.ble h m && Nat.ble m n) (.ok (.sl r (Bool.rec (o+l*es) o (Nat.beq m l)) (h-l) (some (m-l))) s)) (C8 t mx n)) (C8 t hi n)) (C8 t lo 0)) (fun _=>.fail) (Bs a)
def faA (off:Nat) (x:AO):OpR:=fun t s=>wth x t fun a=>PR.rec .fail (fun r o=>.ok (.ptr r (Nat.add o off)) s) (fun l=>.ok (.fp (D0 off l)) s) (Bs a)
def Y2 (off:Nat) (x:AO):OpR:=fun t s=>wth x t fun a=>LR.rec .fail (fun l=>retO (FI l off) s) (asAgg a)
def Y1 (off n:Nat) (x:AO):OpR:=fun t s=>wth x t fun a=>LR.rec .fail (fun l=>Option.rec .fail (fun cs=>.ok (.agg cs) s) (Bo n (D0 off l))) (asAgg a)
def Zg (es:Nat) (x i:AO):OpR:=fun t s=>wth x t fun a=>wth i t fun i=>NR.rec .fail (fun i=>SR.rec .fail (fun r o n _=>gd (Nat.blt i n) (.ok (.ptr r (Nat.add o (Nat.mul i es))) s)) .fail .fail (fun n _ l=>gd (Nat.blt i n) (.ok (.fp (D0 (Nat.mul i es) l)) s)) (B6 a)) (HD i)
def Zh (n es:Nat) (x i:AO):OpR:=fun t s=>wth x t fun a=>wth i t fun i=>NR.rec .fail (fun i=>PR.rec .fail (fun r o=>gd (Nat.blt i n) (.ok (.ptr r (Nat.add o (Nat.mul i es))) s)) (fun l=>gd (Nat.blt i n) (.ok (.fp (D0 (Nat.mul i es) l)) s)) (Bs a)) (HD i)
def Zf (n:Nat) (x i:AO):OpR:=fun t s=>wth x t fun a=>wth i t fun i=>NR.rec .fail (fun i=>LR.rec .fail (fun l=>gd (Nat.blt i n) (retO (FI l i) s)) (asAgg a)) (HD i)
def Yz (n es:Nat) (x i:AO):OpR:=fun t s=>wth x t fun a=>wth i t fun i=>NR.rec .fail (fun i=>LR.rec .fail (fun l=>gd (Nat.blt i n) (Option.rec .fail (fun cs=>.ok (.agg cs) s) (Bo es (D0 (Nat.mul i es) l)))) (asAgg a)) (HD i)
def Za (ty:Nat) (x:AO):OpR:=fun t s=>wth x t fun v=>.ok (.iface ty v) s
def YS (ty:Nat) (z:AV) (x:AO):OpR:=fun t s=>wth x t fun a=>XR.rec .fail (fun t' v=>.ok (.tup (Bool.rec [z,.bool false] [v,.bool true] (Nat.beq t' ty))) s) (Lu a)
def JB (tb:List (Nat×Nat)) (k:Nat):Option Nat:=List.rec none (fun p _ ih=>Bool.rec ih (some p.2) (Nat.beq p.1 k)) tb
def Zk (x:AO) (i:Nat):OpR:=fun t s=>wth x t fun a=>LR.rec .fail (fun l=>retO (FI l i) s) (IM a)
def C4 (n:Nat):AV:=.int .i64 (.ofNat n)
def Zc (x:AO):OpR:=fun t s=>wth x t fun a=>SR.rec .fail (fun _ _ n _=>.ok (C4 n) s) (.ok (C4 0) s) (.ok (C4 0) s) (fun n _ _=>.ok (C4 n) s) (B6 a)
def mapAt (r:Nat) (s:St):Option (List (AV×AV×Nat)×Nat):=Option.rec none (fun o=>AObj.rec (fun _ _=>none) none (fun es c=>some (es,c)) (fun _ _ _ _ _ _ _ _=>none) none (fun _ _ _ _=>none) o) (s.get r)
def Yy (x:AO):OpR:=fun t s=>wth x t fun a=>MR.rec .fail (fun r=>Option.rec .fail (fun m=>.ok (C4 (A7 m.1)) s) (mapAt r s)) (.ok (C4 0) s) (FD a)
def YJ (n:Nat):OpR:=fun _ s=>.ok (C4 n) s
def mnA (m:Bool) (xs:List AO):OpR:=fun t s=>Option.rec .fail (fun l=>List.rec .fail (fun x l _=>ret (mm m l x) s) l) (Cr t xs)
def Dd (es:Nat) (x:AV) (s:St):Option (List AV):=SR.rec none (fun r o n _=>load r o (Nat.mul n es) s) (some []) (some []) (fun n _ l=>Bo (Nat.mul n es) l) (B6 x)
def C2 (e n:Nat) (cs:List AV) (s:St):RV:=gd (Nat.ble n 1000000) (Gh (.row e cs) (fun r=>.sl r 0 n none) s)
def MA (r e:Nat) (s:St):Bool:=RW.rec false (fun e' _=>Nat.beq e' e) (Dm r s)
def app1 (e es:Nat) (cs:List AV) (m:Nat) (r o n:Nat) (cap:Option Nat) (s:St):RV:=
 Option.rec .fail (fun old=>
  Option.rec (gd (Nat.beq o 0 && MA r e s) (C2 e (n+m) (Be old cs) (s.put r .dead)))
   (fun c=>Bool.rec (C2 e (n+m) (Be old cs) s) (Gm (.sl r o (n+m) (some c)) (storeAt r (o+n*es) cs s)) (Nat.ble (n+m) c)) cap) (load r o (Nat.mul n es) s)
def Zx (e es:Nat) (cs:List AV) (m n:Nat) (cap:Option Nat) (l:List AV) (s:St):RV:=
 Option.rec .fail (fun c=>Bool.rec (Option.rec .fail (fun old=>C2 e (n+m) (Be old cs) s) (Bo (Nat.mul n es) l)) .fail (Nat.ble (n+m) c)) cap
def Zy (e es:Nat) (a x:AO):OpR:=fun t s=>wth a t fun a=>wth x t fun x=>Option.rec .fail (fun cs=>
 List.rec (SR.rec .fail (fun r o n c=>.ok (.sl r o n c) s) (.ok .nils s) (.ok .es s) (fun n c l=>.ok (.fz n c l) s) (B6 a))
  (fun _ _ _=>SR.rec .fail (fun r o n c=>app1 e es cs (Nat.div (A7 cs) es) r o n c s) (C2 e (Nat.div (A7 cs) es) cs s) .fail (fun n c l=>Zx e es cs (Nat.div (A7 cs) es) n c l s) (B6 a)) cs) (Dd es x s)
def Y8 (es:Nat) (d x:AO):OpR:=fun t s=>wth d t fun d=>wth x t fun x=>
 SR.rec .fail (fun r o n _=>SR.rec .fail (fun r' o' n' _=>Option.rec .fail (fun cs=>Gm (C4 (Nat.min n' n)) (storeAt r o cs s)) (load r' o' (Nat.mul (Nat.min n' n) es) s)) (.ok (C4 0) s) (.ok (C4 0) s) (fun n' _ l=>Option.rec .fail (fun cs=>Gm (C4 (Nat.min n' n)) (storeAt r o cs s)) (Bo (Nat.mul (Nat.min n' n) es) l)) (B6 x))
  (SR.rec .fail (fun _ _ _ _=>.ok (C4 0) s) (.ok (C4 0) s) (.ok (C4 0) s) (fun _ _ _=>.ok (C4 0) s) (B6 x)) (SR.rec .fail (fun _ _ _ _=>.ok (C4 0) s) (.ok (C4 0) s) (.ok (C4 0) s) (fun _ _ _=>.ok (C4 0) s) (B6 x)) (fun _ _ _=>.fail) (B6 d)
def Zt (x:AO):OpR:=fun t s=>wth x t fun a=>SR.rec .fail (fun _ _ _ cap=>Option.rec .fail (fun c=>.ok (C4 c) s) cap) .fail .fail (fun _ cap _=>Option.rec .fail (fun c=>.ok (C4 c) s) cap) (B6 a)
def YH (e es:Nat) (z:List AV) (a k:AO):OpR:=fun t s=>wth a t fun a=>wth k t fun k=>NR.rec .fail (fun k=>Bool.rec (Bool.rec (SR.rec .fail (fun r o n cap=>Option.rec .fail (fun old=>
 Option.rec .fail (fun c=>Bool.rec (gd (Nat.blt 0 k) (C2 e (n+k) (Be old (Bp z k)) s)) .fail (Nat.ble (n+k) c)) cap) (load r o (Nat.mul n es) s)) (C2 e k (Bp z k) s) .fail
 (fun n cap l=>Option.rec .fail (fun c=>Bool.rec (Option.rec .fail (fun old=>C2 e (n+k) (Be old (Bp z k)) s) (Bo (Nat.mul n es) l)) .fail (Nat.ble (n+k) c)) cap) (B6 a)) (C2 e k (Bp z k) s) (JP a))
 (Bool.rec (SR.rec .fail (fun r o n c=>.ok (.sl r o n c) s) (.ok .nils s) (.ok .es s) (fun n c l=>.ok (.fz n c l) s) (B6 a)) (.ok .es s) (JP a)) (Nat.beq k 0)) (HD k)
def XK:OpR:=fun _ s=>Gh (.map [] 0) .map s
def Ys (m k v:AO):OpR:=fun t s=>wth m t fun m=>wth k t fun k=>wth v t fun v=>MR.rec .fail (fun r=>Option.rec .fail (fun mp=>
 Option.rec .fail (fun f=>Option.rec (.ok (.tup []) (s.put r (.map (Be mp.1 [(k,v,mp.2)]) (mp.2+1)))) (fun _=>.ok (.tup []) (s.put r (.map (HG k v mp.1) mp.2))) f) (CM k mp.1)) (mapAt r s)) .fail (FD m)
def SV (z:AV) (ok:Bool) (f:Option AV) (s:St):RV:=Option.rec (.ok (Bool.rec z (.tup [z,.bool false]) ok) s) (fun v=>.ok (Bool.rec v (.tup [v,.bool true]) ok) s) f
def isIntV (v:AV):Bool:=IR.rec false (fun _ _=>true) (asInt v)
def Yu (z:AV) (ok:Bool) (m k:AO):OpR:=fun t s=>wth m t fun m=>wth k t fun k=>MR.rec .fail (fun r=>Option.rec .fail (fun mp=>Option.rec .fail (fun f=>SV z ok f s) (CM k mp.1)) (mapAt r s)) (SV z ok none s) (FD m)
def Yv (m k:AO):OpR:=fun t s=>wth m t fun m=>wth k t fun k=>MR.rec .fail (fun r=>Option.rec .fail (fun mp=>Option.rec .fail (fun _=>.ok (.tup []) (s.put r (.map (Fq k mp.1) mp.2))) (CM k mp.1)) (mapAt r s)) .fail (FD m)
def Tq (r o:Nat) (es:List (AV×AV×Nat)):Bool:=
 List.rec true (fun x _ ih=>PR.rec false (fun r' o'=>Bool.rec false (Bool.rec ih false (Nat.beq o o')) (Nat.beq r r')) (fun _=>false) (Bs x.1)) es
def XH (m k v:AO):OpR:=fun t s=>wth m t fun m=>wth k t fun k=>wth v t fun v=>MR.rec .fail (fun rm=>Option.rec .fail (fun mp=>
 PR.rec .fail (fun r o=>gd (Tq r o mp.1) (.ok (.tup []) (s.put rm (.map (Be mp.1 [(k,v,mp.2)]) (mp.2+1))))) (fun _=>.fail) (Bs k)) (mapAt rm s)) .fail (FD m)
def Yn (x:AO):OpR:=fun t s=>wth x t fun v=>MR.rec .fail (fun r=>Option.rec .fail (fun m=>Gh (.iter r m.2 [] m.2) (fun i=>.ptr i 0) s) (mapAt r s)) .fail (FD v)
inductive IT where|no|it (m since:Nat) (seen:List Nat) (last:Nat)
def Znv (o:AObj):IT:=AObj.rec (fun _ _=>.no) .no (fun _ _=>.no) (fun _ _ _ _ _ _ _ _=>.no) .no (fun a b c d=>.it a b c d) o
def Pa (r:Nat) (s:St):IT:=Option.rec .no Znv (s.get r)
def SY (l:List Nat):Option Nat:=List.rec none (fun x _ ih=>Option.rec (some x) (fun y=>some y) ih) l
def Tf (n:Nat) (es:List (AV×AV×Nat)):Option (AV×AV×Nat):=List.rec none (fun x _ ih=>Bool.rec ih (some x) (Nat.beq x.2.2 n)) es
def Y6 (x:AO):OpR:=fun t s=>wth x t fun v=>PR.rec .fail (fun ri o=>gd (Nat.beq o 0) (IT.rec .fail (fun m _ seen last=>Option.rec .fail (fun n=>Option.rec .fail (fun mp=>gd (Nat.beq mp.2 last)
 (Option.rec .fail (fun e=>.ok (.tup [e.1,e.2.1]) s) (Tf n mp.1))) (mapAt m s)) (SY seen)) (Pa ri s))) (fun _=>.fail) (Bs v)
def Zn (z:List AV) (x:AO):OpR:=fun t s=>wth x t fun a=>SR.rec .fail (fun r o n _=>Gm (.tup []) (storeAt r o (Bp z n) s)) (.ok (.tup []) s) (.ok (.tup []) s) (fun _ _ _=>.fail) (B6 a)
inductive Ex where
 | normal|exit (id:Nat)|ret
inductive R where
 | fail|ok (e:Ex) (t:AT) (s:St) (ds:List Nat)
abbrev Rec:=AC->AT->St->Option Nat->List Nat->R
abbrev Ov:=List AV->St->RV
structure Env where
 G:T AFn
 O:T Ov
 X:T Ov
def An (vs:List AV):Nat->AT->AT:=
 List.rec (motive:=fun _=>Nat->AT->AT) (fun _ t=>t) (fun v _ ih i t=>ih (Nat.succ i) (t.set v i)) vs
def P4 (t:AT) (s:St) (x:ARes):Option AV:=ARes.rec (fun i=>t.get i)
 (fun i=>Option.rec none (fun v=>PR.rec none (fun r o=>load1 r o s) (fun _=>none) (Bs v)) (t.get i))
 (fun i n=>Option.rec none (fun v=>PR.rec none (fun r o=>Option.rec none (fun cs=>some (.agg cs)) (load r o n s)) (fun _=>none) (Bs v)) (t.get i)) x
def Ds (t:AT) (s:St) (l:List ARes):Option (List AV):=
 List.rec (some []) (fun x _ ih=>Option.rec none (fun v=>Option.rec none (fun vs=>some (v::vs)) ih) (P4 t s x)) l
def one (l:List AV):AV:=List.rec (.tup []) (fun x xs _=>List.rec x (fun _ _ _=>.tup l) xs) l
def FG (ds:List Nat):St->Option St:=
 List.rec (motive:=fun _=>St->Option St) (fun s=>some s) (fun d _ ih s=>Option.rec none (fun o=>AObj.rec (fun _ _=>none) none (fun _ _=>none) (fun _ _ _ _ _ _ _ _=>none) (ih (s.put d .dead)) (fun _ _ _ _=>none) o) (s.get d)) ds
def KG (res:List ARes) (r:R):RV:=R.rec .fail (fun x t s ds=>
 Ex.rec (Option.rec .fail (fun s=>Option.rec .fail (fun l=>.ok (one l) s) (Ds t s res)) (FG ds s)) (fun _=>.fail) (Option.rec .fail (fun s=>Option.rec .fail (fun l=>.ok (one l) s) (Ds t s res)) (FG ds s)) x) r
def FB (e:Env) (rec:Rec) (f:Nat) (args:List AV) (s:St):RV:=
 Option.rec .fail (fun af=>AFn.rec (fun code res=>KG res (rec code (An args 0 .lf) s none [])) af) (e.G.get f)
def Cu (e:Env) (rec:Rec) (f:Nat) (args:List AV) (s:St):RV:=Option.rec (FB e rec f args s) (fun h=>RV.rec (FB e rec f args s) (fun v s'=>.ok v s') (h args s)) (e.O.get f)
def Lc (ps:List Nat):List AV->AT->AT:=
 List.rec (motive:=fun _=>List AV->AT->AT) (fun _ t=>t) (fun p _ ih as t=>List.rec t (fun a as _=>ih as (t.set a p)) as) ps
inductive LP where|no|lp (st:LoopState) (pend:Option Nat) (fn:Nat) (tmps:AT) (ps:List Nat) (assign body:AC) (d:Nat)
def Znu (o:AObj):LP:=AObj.rec (fun _ _=>.no) .no (fun _ _=>.no) (fun a b c d e f g h=>.lp a b c d e f g h) .no (fun _ _ _ _=>.no) o
def Db (l:Nat) (s:St):LP:=Option.rec .no Znu (s.get l)
def FV (l:Nat) (st:LoopState) (pend:Option Nat) (v:Bool) (s:St):RV:=
 LP.rec .fail (fun _ _ fn tm ps asg body d=>.ok (.bool v) (s.put l (.loop st pend fn tm ps asg body d))) (Db l s)
def Hj (l:Nat) (r:R):RV:=
 R.rec .fail (fun x _ s _=>Ex.rec (FV l .ready none true s) (fun id=>FV l .done (some (id+1)) false s) (FV l .done (some 0) false s) x) r
def Mo (rec:Rec) (l:Nat) (body:AC) (r:R):RV:=
 R.rec .fail (fun x t s ds=>Ex.rec (LP.rec .fail (fun st pend fn tm ps asg b d=>LoopState.rec (Hj l (rec body t (s.put l (.loop .busy pend fn tm ps asg b d)) (some l) ds)) .fail .fail .fail st) (Db l s)) (fun _=>.fail) .fail x) r
def I8 (rec:Rec) (l:Nat) (args:List AV) (s:St):RV:=
 LP.rec .fail (fun _ _ _ tm ps asg body _=>gd (Nat.beq (A7 args) (A7 ps)) (Mo rec l body (rec asg (Lc ps args tm) s (some l) []))) (Db l s)
def Ff (e:Env) (rec:Rec) (f:AV) (args:List AV) (s:St):RV:=
 FR.rec .fail (fun f first cap=>Cu e rec f (Be first (Be args cap)) s) (fun l=>I8 rec l args s) (EY f)
def KU (e:Env) (rec:Rec) (f:AV) (args:List AV) (s:St):RV:=
 FR.rec .fail (fun f first cap=>Cu e rec f (Be first (Be args cap)) s) (fun _=>.fail) (EY f)
abbrev OpE:=Env->Rec->AT->St->RV
def Zl8 (f:Nat) (args:List AO):OpE:=fun e rec t s=>Option.rec .fail (fun vs=>Option.rec (Cu e rec f vs s) (fun h=>h vs s) (e.X.get f)) (Cr t args)
def Zni (f:AO) (args:List AO):OpE:=fun e rec t s=>wth f t fun fv=>Option.rec .fail (fun vs=>Ff e rec fv vs s) (Cr t args)
def invA (tb:List (Nat×Nat)) (x:AO) (args:List AO):OpE:=fun e rec t s=>wth x t fun a=>Option.rec .fail (fun vs=>XR.rec .fail (fun k v=>Option.rec .fail (fun f=>Cu e rec f (v::vs) s) (JB tb k)) (Lu a)) (Cr t args)
def AQ (op:AOp):OpE:=AOp.rec (motive:=fun _=>OpE)
 (fun x _ _=>mvA x) (fun a b c _ _=>Yp a b c) (fun a b c _ _=>YY a b c) (fun a b c _ _=>Zv a b c) (fun a b _ _=>Ya a b) (fun a b c d e _ _=>Zu a b c d e)
 (fun a _ _=>Ze a) (fun a b _ _=>Zd a b) (fun a b c _ _=>stA a b c) (fun a _ _=>XG a) (fun a b c _ _=>YE a b c) (fun a b c d _ _=>Y5 a b c d) (fun a b c d _ _=>Y4 a b c d) (fun a b _ _=>YR a b) (fun a b _ _=>Zl a b) (fun a _ _=>Zw a)
 (fun a b c _ _=>Yt a b c) (fun a b c d e _ _=>YZ a b c d e) (fun a b c d e _ _=>YT a b c d e) (fun a b c d e f _ _=>YV a b c d e f) (fun a b _ _=>faA a b) (fun a b _ _=>Y2 a b) (fun a b c _ _=>Y1 a b c)
 (fun a b c _ _=>Zg a b c) (fun a b c d _ _=>Zh a b c d) (fun a b c _ _=>Zf a b c) (fun a b _ _=>Zk a b) (fun a _ _=>Zc a) (fun a _ _=>Yy a) (fun a _ _=>YJ a) (fun a b _ _=>mnA a b)
 (fun a b c d _ _=>Zy a b c d) (fun a b c _ _=>Y8 a b c) (fun a b=>Zni a b) (fun a b=>Zl8 a b) (fun _ _=>XK) (fun a b c _ _=>Ys a b c) (fun a b c d _ _=>Yu a b c d)
 (fun a b _ _=>Yv a b) (fun a b _ _=>Zn a b) (fun a _ _=>Zt a) (fun a b c d e _ _=>YH a b c d e) (fun a b c _ _=>XH a b c) (fun a _ _=>Yn a) (fun _ _ _ _ _=>.fail) (fun a _ _=>Y6 a) (fun a b c d _ _=>Yz a b c d) (fun a b _ _=>Za a b) (fun a b c _ _=>YS a b c) (fun a b c=>invA a b c) (fun _ _ _ _=>.fail) op
def HM (a b:Option Nat):Bool:=Option.rec (Option.rec true (fun _=>false) b) (fun x=>Option.rec false (fun y=>Nat.beq x y) b) a
def S5 {α:Type}(l:List α):Bool:=List.rec true (fun _ _ _=>false) l
def Ke (a:AV):AV->Bool:=AV.rec (motive_1:=fun _=>AV->Bool) (motive_2:=fun _=>List AV->Bool)
 (fun x b=>BR.rec false (Bool.rec false true x) (Bool.rec true false x) (asBool b))
 (fun k n b=>IR.rec false (fun k' n'=>Bool.rec false (D9 n n') (Ch k k')) (asInt b))
 (fun l b=>TR0.rec false (fun l'=>Fo l l') (Gj b))
 (fun r o b=>PR.rec false (fun r' o'=>Bool.rec false (Nat.beq o o') (Nat.beq r r')) (fun _=>false) (Bs b))
 (fun b=>Nat.beq (Ep b) 4)
 (fun r o n c b=>SR.rec false (fun r' o' n' c'=>Bool.rec false (Bool.rec false (Bool.rec false (HM c c') (Nat.beq n n')) (Nat.beq o o')) (Nat.beq r r')) false false (fun _ _ _=>false) (B6 b))
 (fun b=>Nat.beq (Ep b) 6) (fun b=>Nat.beq (Ep b) 7)
 (fun r b=>MR.rec false (fun r'=>Nat.beq r r') false (FD b))
 (fun b=>Nat.beq (Ep b) 9)
 (fun f _ _ ix iy b=>FR.rec false (fun f' x' y'=>Bool.rec false (Bool.rec false (iy y') (ix x')) (Nat.beq f f')) (fun _=>false) (EY b))
 (fun l b=>FR.rec false (fun _ _ _=>false) (fun l'=>Nat.beq l l') (EY b)) (fun b=>Nat.beq (Ep b) 12)
 (fun t _ iv b=>XR.rec false (fun t' v'=>Bool.rec false (iv v') (Nat.beq t t')) (Lu b)) (fun b=>Nat.beq (Ep b) 14)
 (fun _ il b=>LR.rec false (fun l'=>il l') (asAgg b)) (fun _ il b=>LR.rec false (fun l'=>il l') (IM b)) (fun b=>Nat.beq (Ep b) 17)
 (fun n c _ il b=>SR.rec false (fun _ _ _ _=>false) false false (fun n' c' l'=>Bool.rec false (Bool.rec false (il l') (HM c c')) (Nat.beq n n')) (B6 b))
 (fun _ il b=>PR.rec false (fun _ _=>false) (fun l'=>il l') (Bs b)) (fun b=>Nat.beq (Ep b) 20)
 (fun b=>S5 b) (fun _ _ ia il b=>List.rec false (fun y b _=>Bool.rec false (il b) (ia y)) b) a
def Fp (a:List AV):List AV->Bool:=AV.rec_1 (motive_1:=fun _=>AV->Bool) (motive_2:=fun _=>List AV->Bool)
 (fun x b=>BR.rec false (Bool.rec false true x) (Bool.rec true false x) (asBool b))
 (fun k n b=>IR.rec false (fun k' n'=>Bool.rec false (D9 n n') (Ch k k')) (asInt b))
 (fun l b=>TR0.rec false (fun l'=>Fo l l') (Gj b))
 (fun r o b=>PR.rec false (fun r' o'=>Bool.rec false (Nat.beq o o') (Nat.beq r r')) (fun _=>false) (Bs b))
 (fun b=>Nat.beq (Ep b) 4)
 (fun r o n c b=>SR.rec false (fun r' o' n' c'=>Bool.rec false (Bool.rec false (Bool.rec false (HM c c') (Nat.beq n n')) (Nat.beq o o')) (Nat.beq r r')) false false (fun _ _ _=>false) (B6 b))
 (fun b=>Nat.beq (Ep b) 6) (fun b=>Nat.beq (Ep b) 7)
 (fun r b=>MR.rec false (fun r'=>Nat.beq r r') false (FD b))
 (fun b=>Nat.beq (Ep b) 9)
 (fun f _ _ ix iy b=>FR.rec false (fun f' x' y'=>Bool.rec false (Bool.rec false (iy y') (ix x')) (Nat.beq f f')) (fun _=>false) (EY b))
 (fun l b=>FR.rec false (fun _ _ _=>false) (fun l'=>Nat.beq l l') (EY b)) (fun b=>Nat.beq (Ep b) 12)
 (fun t _ iv b=>XR.rec false (fun t' v'=>Bool.rec false (iv v') (Nat.beq t t')) (Lu b)) (fun b=>Nat.beq (Ep b) 14)
 (fun _ il b=>LR.rec false (fun l'=>il l') (asAgg b)) (fun _ il b=>LR.rec false (fun l'=>il l') (IM b)) (fun b=>Nat.beq (Ep b) 17)
 (fun n c _ il b=>SR.rec false (fun _ _ _ _=>false) false false (fun n' c' l'=>Bool.rec false (Bool.rec false (il l') (HM c c')) (Nat.beq n n')) (B6 b))
 (fun _ il b=>PR.rec false (fun _ _=>false) (fun l'=>il l') (Bs b)) (fun b=>Nat.beq (Ep b) 20)
 (fun b=>S5 b) (fun _ _ ia il b=>List.rec false (fun y b _=>Bool.rec false (il b) (ia y)) b) a
def BZ (a b:AV):Bool:=Ke a b
def AS (g:Option (Nat×Bool)) (t:AT):Nat:=Option.rec 2 (fun p=>Option.rec 0 (fun v=>BR.rec (Bool.rec 1 0 (B4 v)) (Bool.rec 1 2 p.2) (Bool.rec 2 1 p.2) (asBool v)) (t.get p.1)) g
inductive RT where
 | fail|ok (t:AT) (s:St)
def AE (e:Env) (rec:Rec) (l:List AOper):AT->St->RT:=
 List.rec (motive:=fun _=>AT->St->RT) (fun t s=>.ok t s)
  (fun o _ ih t s=>AOper.rec (fun dst op g=>Nat.rec .fail (fun w _=>Nat.rec (ih (BQ dst (.tup []) t) s) (fun _ _=>RV.rec .fail (fun v s'=>ih (BQ dst v t) s') (AQ op e rec t s)) w) (AS g t))
    (fun dst op g=>Nat.rec .fail (fun w _=>Nat.rec (ih t s) (fun _ _=>RV.rec .fail (fun v _=>Option.rec .fail (fun v0=>Bool.rec .fail (ih t s) (BZ v v0)) (t.get dst)) (AQ op e rec t s)) w) (AS g t)) o) l
abbrev CR:=Env->Rec->AT->St->Option Nat->List Nat->R
def Yl:CR:=fun _ _ t s _ ds=>.ok .normal t s ds
def regC (ops:List AOper):CR:=fun e rec t s _ ds=>RT.rec .fail (fun t' s'=>.ok .normal t' s' ds) (AE e rec ops t s)
def IP (rec:Rec) (b:AC) (rd:Option Nat) (r:R):R:=R.rec .fail (fun x t s ds=>Ex.rec (rec b t s rd ds) (fun id=>.ok (.exit id) t s ds) (.ok .ret t s ds) x) r
def seqC (a b:AC):CR:=fun _ rec t s rd ds=>IP rec b rd (rec a t s rd ds)
def Zox (x:AO) (a b:AC):CR:=fun _ rec t s rd ds=>OV.rec .fail (fun v=>BR.rec .fail (rec a t s rd ds) (rec b t s rd ds) (asBool v)) (ev x t)
def MF (id:Nat) (r:R):R:=R.rec .fail (fun x t s ds=>Ex.rec (.ok .normal t s ds) (fun id'=>Bool.rec (.ok (.exit id') t s ds) (.ok .normal t s ds) (Nat.beq id id')) (.ok .ret t s ds) x) r
def Znr (id:Nat) (b:AC):CR:=fun _ rec t s rd ds=>MF id (rec b t s rd ds)
def Zom (b:AC):CR:=fun _ rec t s rd ds=>IP rec (.loop b) rd (rec b t s rd ds)
def K8 (l fn:Nat) (tm:AT) (ps:List Nat) (asg body:AC) (d:Nat) (pend:Option Nat) (ds:List Nat) (t:AT) (s:St):R:=
 Option.rec (.ok .normal t (s.put l (.loop .exhausted pend fn tm ps asg body d)) ds) (fun i=>Nat.rec (.ok .ret t (s.put l (.loop .exhausted pend fn tm ps asg body d)) ds) (fun id _=>.ok (.exit id) t (s.put l (.loop .exhausted pend fn tm ps asg body d)) ds) i) pend
def J1 (l:Nat) (ds:List Nat) (t:AT) (s:St):R:=
 LP.rec .fail (fun st pend fn tm ps asg body d=>LoopState.rec (K8 l fn tm ps asg body d pend ds t s) .fail (K8 l fn tm ps asg body d pend ds t s) (K8 l fn tm ps asg body d pend ds t s) st) (Db l s)
def Gd (e:Env) (rec:Rec) (gv:AV) (ps:List Nat) (asg body:AC) (t:AT) (d:Nat) (ds:List Nat) (s0:St):R:=
 RV.rec .fail (fun _ s2=>J1 s0.next ds t s2) (KU e rec gv [.yld s0.next] (s0.alloc (.loop .ready none 0 t ps asg body d)))
def To (g:AO) (ps:List Nat) (asg body:AC):CR:=fun e rec t s rd ds=>OV.rec .fail (fun gv=>
 Option.rec (Gd e rec gv ps asg body t s.next (s.next::ds) (s.alloc .defd)) (fun l=>LP.rec .fail (fun _ _ _ _ _ _ _ d=>Gd e rec gv ps asg body t d ds s) (Db l s)) rd) (ev g t)
def Zl7 (b:AC):CR:=fun _ rec t s rd ds=>rec b t s rd ds
def Zor (id:Nat):CR:=fun _ _ t s _ ds=>.ok (.exit id) t s ds
def retC:CR:=fun _ _ t s _ ds=>.ok .ret t s ds
def acF (c:AC):CR:=AC.rec (motive:=fun _=>CR) Yl regC (fun a b _ _=>seqC a b) (fun x a b _ _=>Zox x a b) (fun i b _=>Znr i b) (fun b _=>Zom b) (fun g ps a b _ _=>To g ps a b) Zor retC (fun b _=>Zl7 b) Yl c
def exec (e:Env) (n:Nat):Rec:=Nat.rec (motive:=fun _=>Rec) (fun _ _ _ _ _=>.fail) (fun _ rec c=>acF c e rec) n
def ovlO (args:List AV) (s:St):RV:=match args with
 | [a,b]=>SR.rec .fail (fun r o n _=>SR.rec .fail (fun r' o' n' _=>gd (Bool.rec true false (Nat.beq r r'))
  (RW.rec .fail (fun _ _=>RW.rec .fail (fun _ cs=>List.rec .fail (fun _ _ _=>.ok (.bool false) s) cs) (Dm r' s)) (Dm r s))) .fail .fail (fun _ _ _=>.fail) (B6 b)) .fail .fail (fun _ _ _=>.fail) (B6 a)
 | _=>.fail
end
end Go.AM
namespace Go.AM
def LG (v:Value):Option AV:=match v with
 | .bool b=>some (.bool b)
 | .int k n=>some (.int k n)
 | .string s=>some (.str (s.data.toList.map UInt8.toNat))
 | .pointer none=>some .nilp
 | .slice none 0 0=>some .nils
 | .map none=>some .nilm
 | .nilFunc=>some .nilf
 | .nilIface=>some .nili
 | .func (.func f) a b=>match a.toList,b.toList with
  | [],[]=>some (.fn f [] [])
  | _,_=>none
 | _=>none
def HV:List Value->Option (List AV)
 | []=>some []
 | v::l=>match LG v,HV l with
  | some x,some y=>some (x::y)
  | _,_=>none
def av (v:Value):Option AV:=match v with
 | .agg cs=>(HV cs.toList).map .agg
 | .tuple cs=>(HV cs.toList).map .tup
 | v=>LG v
def Ai (x:Operand):Option AO:=match x with
 | .tmp t=>some (.t t)
 | .const v=>(av v).map .c
 | .func f=>some (.c (.fn f [] []))
 | .global _=>none
def Fr:List Operand->Option (List AO)
 | []=>some []
 | x::l=>match Ai x,Fr l with
  | some a,some b=>some (a::b)
  | _,_=>none
def Eg (x:Option Operand):Option (Option AO):=match x with
 | none=>some none
 | some x=>(Ai x).map some
def En (P:Program) (t:TypeId):Option (List AV):=match P.info? t with
 | some i=>match i.zero with
  | some z=>HV z.cells.toList
  | none=>none
 | none=>none
def AA (P:Program) (t:TypeId):Option Nat:=(P.info? t).map (·.size)
def HP (P:Program) (t:TypeId):Option Nat:=(P.info? t).map (·.bytes)
def Dh (P:Program) (t:TypeId):Option Bool:=match P.underlying t with
 | some (.struct _)|some (.array _ _)=>some true
 | some _=>some false
 | none=>none
def I9 (P:Program) (t:TypeId):Option Nat:=match P.underlying t with
 | some (.int _)=>some 0
 | some .bool=>some 1
 | some .string=>some 2
 | _=>none
def NS (P:Program):List Field->Nat->Option (List Nat)
 | [],_=>some []
 | f :: l, i => if f.name = "_" ∨ f.offset ≠ i then none else match I9 P f.type, NS P l (i + 1) with
  | some k,some r=>some (k::r)
  | _,_=>none
def Pt (P:Program) (t:TypeId):Option (List Nat):=match P.underlying t with
 | some (.struct fs)=>if P.stoodInHeld t=false∧P.eqGuardType P.depth t=false then NS P fs.toList 0 else none
 | some (.array n e)=>if AA P e=some 1∧P.eqGuardType P.depth t=false then (I9 P e).map (List.replicate n ·) else none
 | _=>none
def Nb (P:Program) (t:TypeId):Option Nat:=match P.underlying t with
 | some .bool=>some 0
 | some (.pointer _)=>some 1
 | some (.slice _)=>some 2
 | some (.interface _)=>some 3
 | some (.func ..)=>some 4
 | _=>none
def M5 (P:Program) (fs:Array Field):List (Nat×Operand)->Option (List (Nat×Nat×AO))
 | []=>some []
 | (i,x)::l=>match fs[i]?,Ai x,M5 P fs l with
  | some f,some a,some r=>match AA P f.type with
   | some (n+1)=>some ((f.offset,n+1,a)::r)
   | _=>none
  | _,_,_=>none
def J2 (es:Nat):List (Nat×Operand)->Option (List (Nat×Nat×AO))
 | []=>some []
 | (i,x)::l=>match Ai x,J2 es l with
  | some a,some r=>some ((i*es,es,a)::r)
  | _,_=>none
def FF (z:List AV):Nat->List AV
 | 0=>[]
 | n+1=>z++FF z n
def NM (P:Program) (b:Builtin) (ts:List TypeId) (args:List Operand):Option AOp:=match b,args,ts with
 | .len,[x],[T]=>match P.underlying T with
  | some (.array n _)=>some (.alen n)
  | some (.slice _)=>(Ai x).map .len
  | some (.map _ _)=>(Ai x).map .lenm
  | _=>none
 | .min,xs,_=>(Fr xs).map (.mn false)
 | .max,xs,_=>(Fr xs).map (.mn true)
 | .cap,[x],[T]=>match P.underlying T with
  | some (.slice _)=>(Ai x).map .capo
  | _=>none
 | .append,[s,x],[T,U]=>if T≠U then (match P.underlying T,P.underlying U,Ai s,Ai x with
  | some (.slice e),some (.int _),some s,some x=>match AA P e,HP P e,En P e with
   | some n,some b,some z=>if 1≤n∧b≤4096∧z.length=n then some (.app0 e n z s x) else none
   | _,_,_=>none
  | _,_,_,_=>none) else match P.underlying T,Ai s,Ai x with
  | some (.slice e),some s,some x=>match AA P e,HP P e,En P e with
   | some n,some b,some z=>if 1≤n∧b≤4096∧z.length=n then some (.app e n s x) else none
   | _,_,_=>none
  | _,_,_=>none
 | .copy,[d,s],[T,_]=>match P.underlying T,Ai d,Ai s with
  | some (.slice e),some d,some s=>(AA P e).map (.copy · d s)
  | _,_,_=>none
 | .delete,[m,k],[T,_]=>match P.underlying T,Ai m,Ai k with
  | some (.map kt _),some m,some k=>match P.underlying kt with
   | some (.int _)=>some (.mdel m k)
   | _=>none
  | _,_,_=>none
 | .clear,[x],[T]=>match P.underlying T,Ai x with
  | some (.slice e),some x=>match AA P e,En P e with
   | some n,some z=>if 1≤n∧z.length=n then some (.clr z x) else none
   | _,_=>none
  | _,_=>none
 | _,_,_=>none
def Pb (P:Program) (t:TypeId):Bool:=match P.underlying t with
 | some (.map kt _)=>match P.underlying kt with|some (.int _)=>true|_=>false
 | _=>false
def OT (P:Program) (t:TypeId):Bool:=match P.underlying t with
 | some (.map kt _)=>match P.underlying kt with
  | some (.pointer e)=>(match AA P e with|some (_+1)=>true|_=>false)
  | _=>false
 | _=>false
def PB (P:Program) (t:TypeId):Bool:=match P.underlying t with
 | some (.map _ _)=>true
 | _=>false
def JF (P:Program) (t:TypeId):Bool:=match P.underlying t with
 | some (.interface _)=>false
 | some _=>true
 | none=>false
def Lf (P:Program) (name:String) (i:Nat):Option Nat:=match P.info? i with
 | some inf=>match inf.methods.find? (·.name == name) with
  | some m=>match m.func with
   | some (f,false)=>if m.path.isEmpty then (match P.underlying i with
    | some (.pointer _)=>none
    | some _=>some f
    | none=>none) else none
   | _=>none
  | none=>none
 | none=>none
def XN (P:Program) (name:String):List (Nat×Nat):=(List.range P.types.size).filterMap fun i=>(Lf P name i).map fun f=>(i,f)
def AI (P:Program) (o:Oper):Option AOp:=match o.op with
 | .move x|.assign x=>(Ai x).map .mv
 | .pick c a b=>match Ai c,Ai a,Ai b with
  | some c,some a,some b=>some (.pick c a b)
  | _,_,_=>none
 | .alloc t=>match AA P t,En P t with
  | some n,some z=>some (.new t n z)
  | _,_=>none
 | .box t x=>match AA P t,Ai x with
  | some (n+1),some x=>some (.box t (n+1) x)
  | _,_=>none
 | .build t parts=>match En P t,P.underlying t with
  | some z,some (.struct fs)=>if fs.toList.all (fun f=>(AA P f.type).isSome) then (M5 P fs parts.toList).map (.build z) else none
  | some z,some (.array _ e)=>match AA P e with
   | some (n+1)=>(J2 (n+1) parts.toList).map (.build z)
   | _=>none
  | _,_=>none
 | .buildSlice t n parts=>match P.underlying t with
  | some (.slice e)=>match AA P e,En P e with
   | some m,some z=>if 1≤m∧z.length=m∧n*m≤16777216 then (J2 m parts.toList).map (.bsl e m n (FF z n)) else none
   | _,_=>none
  | _=>none
 | .load t a=>match Dh P t,AA P t,Ai a with
  | some true,some n,some a=>some (.ldn n a)
  | some false,_,some a=>some (.ld1 a)
  | _,_,_=>none
 | .store t a x=>match o.dst,AA P t,Ai a,Ai x with
  | none,some (n+1),some a,some x=>some (.st (n+1) a x)
  | _,_,_,_=>none
 | .nilCheck x=>(Ai x).map .nilck
 | .binOp op t x y _=>match Ai x,Ai y with
  | some a,some b=>
   match op with
   | .eql=>match P.underlying t with
    | some (.int _)|some .string=>some (.bin .eql a b)
    | _=>match Nb P t with
     | some k=>some (.eqb k false a b)
     | none=>(Pt P t).map (.eqf · false a b)
   | .neq=>match P.underlying t with
    | some (.int _)|some .string=>some (.bin .neq a b)
    | _=>match Nb P t with
     | some k=>some (.eqb k true a b)
     | none=>(Pt P t).map (.eqf · true a b)
   | _=>some (.bin op a b)
  | _,_=>none
 | .unOp op _ x=>(Ai x).map (.un op)
 | .convert s d x=>match P.underlying s,P.underlying d,Ai x with
  | some (.int _),some (.int k),some a=>some (.cvi k a)
  | some (.slice e),some .string,some a=>match P.underlying e with
   | some (.int .u8)=>some (.b2s a)
   | _=>none
  | _,_,_=>none
 | .makeFunc (.func f) a b=>match Fr a.toList,Fr b.toList with
  | some a,some b=>some (.mkfn f a b)
  | _,_=>none
 | .makeMap t none=>some .mkmap
 | .makeSlice t l c=>match P.underlying t,Ai l,Ai c with
  | some (.slice e),some l,some c=>match AA P e,HP P e,En P e with
   | some n,some b,some z=>if 1≤n∧b≤4096∧z.length=n then some (.mks e n z l c) else none
   | _,_,_=>none
  | _,_,_=>none
 | .slice t x lo hi mx=>match P.underlying t,Ai x,Eg lo,Eg hi,Eg mx with
  | some (.slice e),some x,some lo,some hi,some mx=>if mx.isSome && !hi.isSome then none else (AA P e).map (.slc · x lo hi mx)
  | some (.array n e),some x,some lo,some hi,some mx=>if mx.isSome && !hi.isSome then none else (AA P e).map (.sla · n x lo hi mx)
  | _,_,_,_,_=>none
 | .fieldAddr s x f=>match P.underlying s,Ai x with
  | some (.struct fs),some x=>match fs[f]? with
   | some fd=>match AA P fd.type with
    | some (_+1)=>some (.fa fd.offset x)
    | _=>none
   | none=>none
  | _,_=>none
 | .field s x f=>match P.underlying s,Ai x with
  | some (.struct fs),some x=>match fs[f]? with
   | some fd=>match Dh P fd.type,AA P fd.type with
    | some true,some n=>some (.fldn fd.offset n x)
    | some false,_=>some (.fld1 fd.offset x)
    | _,_=>none
   | none=>none
  | _,_=>none
 | .indexAddr t x i=>match P.underlying t,Ai x,Ai i with
  | some (.slice e),some x,some i=>(AA P e).map (.ixs · x i)
  | some (.array n e),some x,some i=>(AA P e).map (.ixa n · x i)
  | _,_,_=>none
 | .index t x i=>match P.underlying t,Ai x,Ai i with
  | some (.array n e),some x,some i=>match AA P e,Dh P e with
   | some 1,some false=>some (.ixv n x i)
   | some m,some true=>some (.ixvn n m x i)
   | _,_=>none
  | _,_,_=>none
 | .extract x i=>(Ai x).map (.ext · i)
 | .lookup t m k ok=>match P.underlying t,Ai m,Ai k with
  | some (.map _ e),some m,some k=>if Pb P t then (match P.info? e with
   | some i=>match i.zero with
    | some z=>(LG z).map (.mget · ok m k)
    | none=>none
   | none=>none) else none
  | _,_,_=>none
 | .mapUpdate t m k v|.insert t m k v=>match o.dst,Ai m,Ai k,Ai v with
  | none,some m,some k,some v=>if Pb P t then some (.mset m k v) else if OT P t then some (.msetp m k v) else none
  | _,_,_,_=>none
 | .range t x=>if PB P t then (Ai x).map .rngm else none
 | .next x false=>(Ai x).map .nextm
 | .entry x=>(Ai x).map .entm
 | .call c=>match c.callee with
  | .value (.func f)=>(Fr c.args.toList).map (.scall f)
  | .value f=>match Ai f,Fr c.args.toList with
   | some f,some a=>some (.call f a)
   | _,_=>none
  | .builtin b=>NM P b c.argTypes.toList c.args.toList
  | .invoke r name=>match Ai r,Fr c.args.toList with
   | some r,some a=>some (.inv (XN P name) r a)
   | _,_=>none
 | .makeInterface t x=>if JF P t then (Ai x).map (.mki t) else none
 | .typeAssert x _ ty true=>if JF P ty then (match P.info? ty with
  | some i=>match i.zero with
   | some z=>match Ai x,av z with
    | some a,some zv=>some (.tas ty zv a)
    | _,_=>none
   | none=>none
  | none=>none) else none
 | _=>none
def IC (P:Program) (o:Oper):Option AOp:=some ((AI P o).getD .bad)
def G7 (ops:Array Oper) (N:Nat) (g:Option (Nat×Bool)):Option (Option (Nat×Bool)):=match g with
 | none=>some none
 | some (j,b)=>match (ops[j]?).bind (·.dst) with
  | some d=>some (some (d,b))
  | none=>none
def EH (N:Nat) (d:Option Tmp):Option Nat:=match d with
 | none=>some 0
 | some d=>if d<N then some (d+1) else none
def Hi (P:Program) (N:Nat) (ops:Array Oper):List Oper->Option (List AOper)
 | []=>some []
 | o::l=>match EH N o.dst,IC P o,G7 ops N o.guard,Hi P N ops l with
  | some d,some p,some g,some r=>some (.mk d p g::r)
  | _,_,_,_=>none
inductive It where
 | op (i:Nat)|chk (i:Nat)
def II:AOp->Bool
 | .st ..|.app ..|.app0 ..|.copy ..|.call ..|.scall ..|.mset ..|.mdel ..|.clr ..|.msetp ..|.rngm ..|.nextm ..|.entm ..|.inv ..=>true
 | _=>false
def isNx:AOp->Bool
 | .nextm ..=>true
 | _=>false
def Hu:AOp->Bool
 | .ld1 ..|.ldn ..|.b2s ..|.lenm ..|.mget ..=>true
 | _=>false
def Gn:AOper->AOp
 | .mk _ p _=>p
 | .chk _ p _=>p
def FX (acc:List Nat):List Edge->Nat
 | []=>0
 | e::l=>if Region.binds .any e then (2^e.on ||| acc.getD e.on 0) ||| FX acc l else FX acc l
def BK:List Oper->List Nat->List Nat
 | [],acc=>acc
 | o::l,acc=>BK l (acc++[FX acc o.after.toList])
def Eo (ops:Array Oper) (o:Oper):List Nat:=
 (o.op.operands.toList.filterMap fun|.tmp t=>some t|_=>none)++(match o.guard with|some (j,_)=>((ops[j]?).bind (·.dst)).toList|none=>[])
def Su (bf:List Nat) (cs:List AOper) (ds:List (Option Nat)) (rs:List (List Nat)) (j i:Nat):Bool:=
 let before:=(bf.getD i 0).testBit j
 let dj:=ds.getD j none
 let di:=ds.getD i none
 (i != j) && (before || !(match cs[j]? with|some c=>II (Gn c)|none=>true)) &&
 (match dj with
   | none=>true
   | some x=>(di != some x) && (before || !(rs.getD i []).contains x)) &&
 (match di with
   | none=>true
   | some x=>before || !(rs.getD j []).contains x)
def Sq (ds:List (Option Nat)) (rs:List (List Nat)) (i:Nat):Bool:=
 match ds.getD i none with
 | none=>true
 | some x=>!(rs.getD i []).contains x
def Mr (bf:List Nat) (cs:List AOper) (ds:List (Option Nat)) (rs:List (List Nat)):List It->Bool
 | []=>true
 | .chk _::l=>Mr bf cs ds rs l
 | .op j::l=>Sq ds rs j && (l.all fun|.op i=>Su bf cs ds rs j i|.chk _=>true) && Mr bf cs ds rs l
def J0 (cs:List AOper) (i:Nat):List It->Bool
 | []=>false
 | .chk j::l=>i == j || J0 cs i l
 | .op j::l=>!(match cs[j]? with|some c=>II (Gn c)|none=>true) && J0 cs i l
def J5 (bf:List Nat) (cs:List AOper) (i:Nat):List It->Bool
 | []=>true
 | .chk _::l=>J5 bf cs i l
 | .op j::l=>(!(match cs[j]? with|some c=>II (Gn c)|none=>true) || (bf.getD j 0).testBit i || J0 cs i l) && J5 bf cs i l
def WV (bf:List Nat) (ds:List (Option Nat)) (rs:List (List Nat)) (n i:Nat):Bool:=
 (List.range n).all fun j=>match ds.getD j none with
   | none=>true
   | some x=>(bf.getD i 0).testBit j || !(rs.getD i []).contains x
def Ms (bf:List Nat) (cs:List AOper):List It->Bool
 | []=>true
 | .chk _::l=>Ms bf cs l
 | .op i::l=>(!(match cs[i]? with|some c=>Hu (Gn c)|none=>true) || J5 bf cs i l) && Ms bf cs l
def MW (i:Nat):List It->Bool
 | []=>false
 | .op j::l=>i == j || MW i l
 | .chk _::l=>MW i l
def Hy:List Oper->Nat->Bool
 | [],_=>true
 | o::l,i=>(o.after.toList.all fun e=>!Region.binds .any e || decide (e.on<i)) && Hy l (i+1)
def XT (bf:List Nat) (cs:List AOper) (ds:List (Option Nat)) (rs:List (List Nat)) (ops:List Oper) (its:List It):Bool:=
 Hy ops 0 && ((List.range ops.length).all fun i=>MW i its) && (its.all fun|.op i=>decide (i<ops.length)|.chk i=>WV bf ds rs ops.length i) && Mr bf cs ds rs its && Ms bf cs its && cs.all (fun c=>!isNx (Gn c))
def KK (cs:List AOper):It->Option AOper
 | .op i=>cs[i]?
 | .chk i=>match cs[i]? with
  | some (.mk (d+1) p g)=>if Hu p then some (.chk d p g) else none
  | _=>none
def OC (cs:List AOper):List It->Option (List AOper)
 | []=>some []
 | x::l=>match KK cs x,OC cs l with
  | some a,some r=>some (a::r)
  | _,_=>none
def BV (cs:List AOper) (i:Nat):Bool:=match cs[i]? with|some c=>II (Gn c)|none=>true
def loadAt (cs:List AOper) (i:Nat):Bool:=match cs[i]? with|some c=>Hu (Gn c)|none=>false
def Yq (bf:List Nat) (cs:List AOper) (cnt:List (Nat×Nat)) (last:Option Nat) (k:Nat):List It:=
 (match last with
   | none=>[]
   | some e=>(cnt.filter fun p=>loadAt cs p.1 && decide (p.2<k) && !(bf.getD e 0).testBit p.1).map fun p=>.chk p.1) ++
 ((cnt.filter fun p=>p.2 == k && !BV cs p.1).map fun p=>.op p.1)++((cnt.filter fun p=>p.2 == k && BV cs p.1).map fun p=>.op p.1)
def XF (bf:List Nat) (cs:List AOper) (cnt:List (Nat×Nat)) (effs:List Nat) (last:Option Nat) (k:Nat):List It:=
 match effs with
 | []=>Yq bf cs cnt last k
 | e::l=>Yq bf cs cnt last k++XF bf cs cnt l (some e) (k+1)
def RA (bf:List Nat) (cs:List AOper) (n:Nat):List It:=
 let effs:=(List.range n).filter (BV cs)
 let cnt:=(List.range n).map fun i=>(i,(effs.filter fun e=>(bf.getD i 0).testBit e).length)
 XF bf cs cnt effs none 0
def Iu (P:Program) (N:Nat) (ops:Array Oper):Option (List AOper):=
 match Hi P N ops ops.toList with
 | none=>none
 | some cs=>
  let bf:=BK ops.toList []
  let its:=RA bf cs ops.size
  if XT bf cs (ops.toList.map (·.dst)) (ops.toList.map (Eo ops)) ops.toList its then OC cs its else none
def Nx:AC:=.reg [.mk 0 .bad none]
def Bh (P:Program) (N:Nat):Code->Option AC
 | .skip=>some .skip
 | .region _ ops false=>(Hi P N ops ops.toList).map .reg
 | .region _ ops true=>some (((Iu P N ops).map .reg).getD Nx)
 | .seq a b=>match Bh P N a,Bh P N b with
  | some x,some y=>some (.seq x y)
  | _,_=>none
 | .cond c a b=>match Ai c,Bh P N a,Bh P N b with
  | some c,some x,some y=>some (.cond c x y)
  | _,_,_=>none
 | .block id b=>(Bh P N b).map (.block id)
 | .loop b=>(Bh P N b).map .loop
 | .rangeFunc f ps a b=>match Ai f,Bh P N a,Bh P N b with
  | some f,some x,some y=>if ps.toList.all (·<N) then some (.rng f ps.toList x y) else none
  | _,_,_=>none
 | .exit id=>some (.exit id)
 | .ret=>some .ret
 | .scope b=>(Bh P N b).map .scope
 | .label _=>some .lab
 | _=>some Nx
def KE (P:Program):List ResultVar->Option (List ARes)
 | []=>some []
 | r::l=>match (match r with
  | .tmp t=>some (.tmp t)
  | .cell a t=>match Dh P t,AA P t with
   | some true,some n=>some (.cells a n)
   | some false,_=>some (.cell a)
   | _,_=>none:Option ARes),KE P l with
  | some x,some y=>some (x::y)
  | _,_=>none
def Gi (P:Program) (f:Func):Option AFn:=match f.body with
 | some b=>match Bh P f.ntmps b,KE P f.results.toList with
  | some c,some r=>some (.mk c r)
  | _,_=>none
 | none=>none
theorem Zb6 {α:Type}{x:α}:∀ {n k j:Nat}{y:α},(T.sing x n k).get j=some y->j=k∧y=x:=by
 intro n
 induction n with
 | zero=>intro k j y h;cases h
 | succ n ih=>
  intro k j y h
  cases k with
  | zero=>
   cases j with
   | zero=>cases h;exact ⟨rfl,rfl⟩
   | succ j=>
    change (Bool.rec (T.get T.lf (Nat.div j 2)) (T.get T.lf (Nat.div j 2)) (Nat.beq (Nat.mod j 2) 0):Option α)=some y at h
    cases hb:Nat.beq (Nat.mod j 2) 0 <;> rw [hb] at h <;> cases h
  | succ k=>
   change T.get (Bool.rec (T.nd none .lf (T.sing x n (Nat.div k 2))) (T.nd none (T.sing x n (Nat.div k 2)) .lf) (Nat.beq (Nat.mod k 2) 0)) j=some y at h
   cases hb:Nat.beq (Nat.mod k 2) 0 <;> rw [hb] at h
   ·cases j with
    | zero=>cases h
    | succ j=>
     change (Bool.rec (T.get (T.sing x n (Nat.div k 2)) (Nat.div j 2)) (T.get T.lf (Nat.div j 2)) (Nat.beq (Nat.mod j 2) 0):Option α)=some y at h
     cases hc:Nat.beq (Nat.mod j 2) 0 <;> rw [hc] at h
     ·obtain ⟨e,rfl⟩:=ih h
      refine ⟨?_,rfl⟩
      have h1:=Zqo hb
      have h2:=Zqo hc
      have e':j / 2=k / 2:=e
      have h1':k % 2≠0:=h1
      have h2':j % 2≠0:=h2
      omega
     ·cases h
   ·cases j with
    | zero=>cases h
    | succ j=>
     change (Bool.rec (T.get T.lf (Nat.div j 2)) (T.get (T.sing x n (Nat.div k 2)) (Nat.div j 2)) (Nat.beq (Nat.mod j 2) 0):Option α)=some y at h
     cases hc:Nat.beq (Nat.mod j 2) 0 <;> rw [hc] at h
     ·cases h
     ·obtain ⟨e,rfl⟩:=ih h
      refine ⟨?_,rfl⟩
      have h1:=Zpp hb
      have h2:=Zpp hc
      have e':j / 2=k / 2:=e
      have h1':k % 2=0:=h1
      have h2':j % 2=0:=h2
      omega
theorem FT {α:Type}{x:α}:∀ {t:T α}{k j:Nat}{y:α},(t.set x k).get j=some y->(j=k∧y=x)∨(j≠k∧t.get j=some y):=by
 intro t
 induction t with
 | lf=>intro k j y h;exact .inl (Zb6 (n:=64) h)
 | nd v l r il ir=>
  intro k j y h
  cases k with
  | zero=>
   cases j with
   | zero=>cases h;exact .inl ⟨rfl,rfl⟩
   | succ j=>exact .inr ⟨by omega,h⟩
  | succ k=>
   change T.get (Bool.rec (T.nd v l (r.set x (Nat.div k 2))) (T.nd v (l.set x (Nat.div k 2)) r) (Nat.beq (Nat.mod k 2) 0)) j=some y at h
   cases j with
   | zero=>
    refine .inr ⟨by omega,?_⟩
    cases hb:Nat.beq (Nat.mod k 2) 0 <;> rw [hb] at h <;> exact h
   | succ j=>
    change _∨(_∧(Bool.rec (T.get r (Nat.div j 2)) (T.get l (Nat.div j 2)) (Nat.beq (Nat.mod j 2) 0):Option α)=some y)
    cases hb:Nat.beq (Nat.mod k 2) 0 <;> rw [hb] at h
    ·change (Bool.rec (T.get (r.set x (Nat.div k 2)) (Nat.div j 2)) (T.get l (Nat.div j 2)) (Nat.beq (Nat.mod j 2) 0):Option α)=some y at h
     have h1':k % 2≠0:=Zqo hb
     cases hc:Nat.beq (Nat.mod j 2) 0 <;> rw [hc] at h
     ·have h2':j % 2≠0:=Zqo hc
      rcases ir h with ⟨e,rfl⟩|⟨e,h⟩
      ·have e':j / 2=k / 2:=e
       exact .inl ⟨by omega,rfl⟩
      ·exact .inr ⟨fun e2=>e (by have e3:j=k:=by omega
                                 rw [e3]),h⟩
     ·have h2':j % 2=0:=Zpp hc
      exact .inr ⟨by omega,h⟩
    ·change (Bool.rec (T.get r (Nat.div j 2)) (T.get (l.set x (Nat.div k 2)) (Nat.div j 2)) (Nat.beq (Nat.mod j 2) 0):Option α)=some y at h
     have h1':k % 2=0:=Zpp hb
     cases hc:Nat.beq (Nat.mod j 2) 0 <;> rw [hc] at h
     ·have h2':j % 2≠0:=Zqo hc
      exact .inr ⟨by omega,h⟩
     ·have h2':j % 2=0:=Zpp hc
      rcases il h with ⟨e,rfl⟩|⟨e,h⟩
      ·have e':j / 2=k / 2:=e
       exact .inl ⟨by omega,rfl⟩
      ·exact .inr ⟨fun e2=>e (by have e3:j=k:=by omega
                                 rw [e3]),h⟩
theorem U3 {α:Type}{x:α}:∀ {t:T α}{k j:Nat}{y:α},j≠k->t.get j=some y->(t.set x k).get j=some y:=by
 intro t
 induction t with
 | lf=>intro k j y _ h;cases h
 | nd v l r il ir=>
  intro k j y hne h
  cases k with
  | zero=>
   cases j with
   | zero=>exact absurd rfl hne
   | succ j=>exact h
  | succ k=>
   change T.get (Bool.rec (T.nd v l (r.set x (Nat.div k 2))) (T.nd v (l.set x (Nat.div k 2)) r) (Nat.beq (Nat.mod k 2) 0)) j=some y
   cases j with
   | zero=>cases hb:Nat.beq (Nat.mod k 2) 0 <;> exact h
   | succ j=>
    change (Bool.rec (T.get r (Nat.div j 2)) (T.get l (Nat.div j 2)) (Nat.beq (Nat.mod j 2) 0):Option α)=some y at h
    cases hb:Nat.beq (Nat.mod k 2) 0 <;> cases hc:Nat.beq (Nat.mod j 2) 0 <;> rw [hc] at h
    ·change (Bool.rec (T.get (r.set x (Nat.div k 2)) (Nat.div j 2)) (T.get l (Nat.div j 2)) (Nat.beq (Nat.mod j 2) 0):Option α)=some y
     rw [hc]
     refine ir (fun e=>hne ?_) h
     have e':j / 2=k / 2:=e
     have h1':k % 2≠0:=Zqo hb
     have h2':j % 2≠0:=Zqo hc
     omega
    ·change (Bool.rec (T.get (r.set x (Nat.div k 2)) (Nat.div j 2)) (T.get l (Nat.div j 2)) (Nat.beq (Nat.mod j 2) 0):Option α)=some y
     rw [hc];exact h
    ·change (Bool.rec (T.get r (Nat.div j 2)) (T.get (l.set x (Nat.div k 2)) (Nat.div j 2)) (Nat.beq (Nat.mod j 2) 0):Option α)=some y
     rw [hc];exact h
    ·change (Bool.rec (T.get r (Nat.div j 2)) (T.get (l.set x (Nat.div k 2)) (Nat.div j 2)) (Nat.beq (Nat.mod j 2) 0):Option α)=some y
     rw [hc]
     refine il (fun e=>hne ?_) h
     have e':j / 2=k / 2:=e
     have h1':k % 2=0:=Zpp hb
     have h2':j % 2=0:=Zpp hc
     omega
theorem U4 {α:Type}{x:α}{t:T α}{k j:Nat}(hne:j≠k):(t.set x k).get j=t.get j:=by
 cases h:t.get j with
 | some y=>exact U3 hne h
 | none=>
  cases h':(t.set x k).get j with
  | none=>rfl
  | some y=>
   rcases FT h' with ⟨e,_⟩|⟨_,e⟩
   ·exact absurd e hne
   ·rw [h] at e;cases e
structure Loc where
 b:Nat
 o:Nat
 sz:Nat
 es:Nat
structure Gam where
 loc:Nat->Option Loc
 fz:Nat->Option (Array Value)
instance:CoeFun Gam (fun _=>Nat->Option Loc):=⟨Gam.loc⟩
inductive All2 {α β:Type}(R:α->β->Prop):List α->List β->Prop
 | nil:All2 R [] []
 | cons {a b l m}:R a b->All2 R l m->All2 R (a::l) (b::m)
theorem All2.length {α β:Type}{R:α->β->Prop}{l:List α}{m:List β}(h:All2 R l m):l.length=m.length:=by
 induction h with
 | nil=>rfl
 | cons _ _ ih=>simp [ih]
theorem All2.imp {α β:Type}{R S:α->β->Prop}(hi:∀ a b,R a b->S a b) {l:List α}{m:List β}(h:All2 R l m):All2 S l m:=by
 induction h with
 | nil=>exact .nil
 | cons h _ ih=>exact .cons (hi _ _ h) ih
theorem All2.get {α β:Type}{R:α->β->Prop}{l:List α}{m:List β}(h:All2 R l m):∀ {i:Nat}{a:α},l[i]?=some a->∃ b,m[i]?=some b∧R a b:=by
 induction h with
 | nil=>intro i a h;simp at h
 | @cons a b l m h _ ih=>
  intro i x hx
  cases i with
  | zero=>simp at hx;subst hx;exact ⟨b,by simp,h⟩
  | succ i=>simpa using ih (by simpa using hx)
theorem EB {α β:Type}{R:α->β->Prop}:∀ {l:List α}{m:List β},l.length=m.length->(∀ (i:Nat) (a:α) (b:β),l[i]?=some a->m[i]?=some b->R a b)->All2 R l m
 | [],[],_,_=>.nil
 | [],_::_,h,_=>by simp at h
 | _::_,[],h,_=>by simp at h
 | a::l,b::m,h,hr=>.cons (hr 0 a b (by simp) (by simp)) (EB (by simpa using h) fun i x y hx hy=>hr (i+1) x y (by simpa using hx) (by simpa using hy))
theorem All2.append {α β:Type}{R:α->β->Prop}{l l':List α}{m m':List β}(h:All2 R l m) (h':All2 R l' m'):All2 R (l++l') (m++m'):=by
 induction h with
 | nil=>exact h'
 | cons h _ ih=>exact .cons h ih
theorem All2.take {α β:Type}{R:α->β->Prop}{l:List α}{m:List β}(h:All2 R l m):∀ n,All2 R (l.take n) (m.take n):=by
 induction h with
 | nil=>intro n;simp;exact .nil
 | cons h _ ih=>intro n;cases n with
  | zero=>exact .nil
  | succ n=>exact .cons h (ih n)
theorem All2.drop {α β:Type}{R:α->β->Prop}{l:List α}{m:List β}(h:All2 R l m):∀ n,All2 R (l.drop n) (m.drop n):=by
 induction h with
 | nil=>intro n;simp;exact .nil
 | cons h t ih=>intro n;cases n with
  | zero=>exact .cons h t
  | succ n=>exact ih n
mutual
def hf:AV->Bool
 | .ptr ..|.sl ..|.map ..|.yld ..=>false
 | .fn _ a b=>hfs a && hfs b
 | .iface _ v=>hf v
 | .agg l|.tup l=>hfs l
 | _=>true
def hfs:List AV->Bool
 | []=>true
 | v::l=>hf v && hfs l
end
theorem hfs_iff:∀ {l:List AV},hfs l=true↔∀ v ∈ l,hf v=true
 | []=>by simp [hfs]
 | x::l=>by simp [hfs,hfs_iff (l:=l)]
variable {l:List AV}
theorem Oy (h:hfs l=true) (k:Nat):hfs (l.drop k)=true:=hfs_iff.2 fun v hv=>hfs_iff.1 h v (Zqv hv)
theorem Zfx (h:hfs l=true) (k:Nat):hfs (l.take k)=true:=hfs_iff.2 fun v hv=>hfs_iff.1 h v (Zqq hv)
inductive VR (γ:Gam):AV->Value->Prop
 | bool (b:Bool):VR γ (.bool b) (.bool b)
 | int (k:IntKind) (n:Int):VR γ (.int k n) (.int k n)
 | str (l:List Nat) (s:ByteArray):s.data.toList.map UInt8.toNat=l->VR γ (.str l) (.string s)
 | ptr (r o:Nat) (L:Loc):γ r=some L->VR γ (.ptr r o) (.pointer (some ⟨L.b,L.o+o,none⟩))
 | nilp:VR γ .nilp (.pointer none)
 | sl (r o n c:Nat) (L:Loc):γ r=some L->n≤c->VR γ (.sl r o n (some c)) (.slice (some ⟨L.b,L.o+o,none⟩) n c)
 | slu (r o n c:Nat) (L:Loc):γ r=some L->n≤c->c≤maxLen->(o=0->c*L.es≤L.sz)->VR γ (.sl r o n none) (.slice (some ⟨L.b,L.o+o,none⟩) n c)
 | nils:VR γ .nils (.slice none 0 0)
 | es (a:Addr) (c:Nat):VR γ .es (.slice (some a) 0 c)
 | ez (a:Addr):VR γ .ez (.slice (some a) 0 0)
 | map (r:Nat) (L:Loc):γ r=some L->VR γ (.map r) (.map (some L.b))
 | nilm:VR γ .nilm (.map none)
 | fn (f:Nat) (xs ys:List AV) (as bs:Array Value):All2 (VR γ) xs as.toList->All2 (VR γ) ys bs.toList->VR γ (.fn f xs ys) (.func (.func f) as bs)
 | yld (l:Nat) (L:Loc):γ l=some L->VR γ (.yld l) (.func (.yield L.b) #[] #[])
 | nilf:VR γ .nilf .nilFunc
 | iface (t:Nat) (v:AV) (v':Value):VR γ v v'->VR γ (.iface t v) (.iface t v')
 | nili:VR γ .nili .nilIface
 | agg (l:List AV) (a:Array Value):All2 (VR γ) l a.toList->(∀ v ∈ a.toList,v.oneCell'=true)->VR γ (.agg l) (.agg a)
 | tup (l:List AV) (a:Array Value):All2 (VR γ) l a.toList->VR γ (.tup l) (.tuple a)
 | any (v:Value):v.oneCell'=true->VR γ .any v
 | fz (n:Nat) (cap:Option Nat) (l:List AV) (vs:List Value) (b o c:Nat) (cs:Array Value):γ.fz b=some cs->(∀ (j:Nat) (u:Value),vs[j]?=some u->cs[o+j]?=some u)->(∀ u ∈ vs,u.oneCell'=true)->All2 (VR γ) l vs->n≤c->(∀ k,cap=some k->c=k)->hfs l=true->VR γ (.fz n cap l) (.slice (some ⟨b,o,none⟩) n c)
 | fp (l:List AV) (vs:List Value) (b o:Nat) (cs:Array Value):γ.fz b=some cs->(∀ (j:Nat) (u:Value),vs[j]?=some u->cs[o+j]?=some u)->(∀ u ∈ vs,u.oneCell'=true)->All2 (VR γ) l vs->hfs l=true->VR γ (.fp l) (.pointer (some ⟨b,o,none⟩))
structure Le (γ γ':Gam):Prop where
 loc:∀ r L,γ r=some L->γ' r=some L
 fz:∀ b c,γ.fz b=some c->γ'.fz b=some c
theorem Le.refl (γ:Gam):Le γ γ:=⟨fun _ _ h=>h,fun _ _ h=>h⟩
theorem Le.trans {γ γ1 γ2:Gam}(h:Le γ γ1) (k:Le γ1 γ2):Le γ γ2:=⟨fun r L e=>k.loc r L (h.loc r L e),fun b c e=>k.fz b c (h.fz b c e)⟩
mutual
variable {γ γ':Gam}
theorem VR.mono (h:Le γ γ'):∀ {v:AV}{v':Value},VR γ v v'->VR γ' v v'
 | _,_,.bool b=>.bool b
 | _,_,.int k n=>.int k n
 | _,_,.str l s e=>.str l s e
 | _,_,.ptr r o L e=>.ptr r o L (h.loc _ _ e)
 | _,_,.nilp=>.nilp
 | _,_,.sl r o n c L e a=>.sl r o n c L (h.loc _ _ e) a
 | _,_,.slu r o n c L e a b d=>.slu r o n c L (h.loc _ _ e) a b d
 | _,_,.nils=>.nils
 | _,_,.es a c=>.es a c
 | _,_,.ez a=>.ez a
 | _,_,.map r L e=>.map r L (h.loc _ _ e)
 | _,_,.nilm=>.nilm
 | _,_,.fn f xs ys as bs a b=>.fn f xs ys as bs (Jt h a) (Jt h b)
 | _,_,.yld l L e=>.yld l L (h.loc _ _ e)
 | _,_,.nilf=>.nilf
 | _,_,.iface t v v' e=>.iface t v v' (VR.mono h e)
 | _,_,.nili=>.nili
 | _,_,.agg l a e o=>.agg l a (Jt h e) o
 | _,_,.tup l a e=>.tup l a (Jt h e)
 | _,_,.any v e=>.any v e
 | _,_,.fz n cap l vs b o c cs e1 e2 e3 e4 e5 e6 e7=>.fz n cap l vs b o c cs (h.fz _ _ e1) e2 e3 (Jt h e4) e5 e6 e7
 | _,_,.fp l vs b o cs e1 e2 e3 e4 e5=>.fp l vs b o cs (h.fz _ _ e1) e2 e3 (Jt h e4) e5
theorem Jt (h:Le γ γ'):∀ {l:List AV}{m:List Value},All2 (VR γ) l m->All2 (VR γ') l m
 | _,_,.nil=>.nil
 | _,_,.cons a b=>.cons (VR.mono h a) (Jt h b)
end
def TR (γ:Gam) (t:AT) (tm:Array Value):Prop:=∀ i v,t.get i=some v->∃ v',tm[i]?=some v'∧VR γ v v'
variable {γ γ':Gam}
theorem TR.mono (h:Le γ γ') {t:AT}{tm:Array Value}(ht:TR γ t tm):TR γ' t tm:=fun i v hv=>let ⟨v',a,b⟩:=ht i v hv;⟨v',a,b.mono h⟩
def SS (p:Option Nat) (c:Option Code):Prop:=match p with
 | none=>c=none
 | some 0=>c=some .ret
 | some (id+1)=>c=some (.exit id)
def BO:AObj->Bool
 | .dead=>false
 | _=>true
def ObjR (P:Program) (γ:Gam) (L:Loc) (o:AObj) (hp:Array Obj):Prop:=match o with
 | .row e cs=>∃ c:Array Value,hp[L.b]?=some (.cells c e (0,0))∧L.o=0∧c.size=L.sz∧AA P e=some L.es∧
  cs.length≤c.size∧(∀ (i:Nat) v,cs[i]?=some v->∃ v',c[i]?=some v'∧VR γ v v'∧v'.oneCell'=true)∧∀ v' ∈ c.toList,v'.oneCell'=true
 | .dead=>True
 | .map es clock=>∃ ms:Array MapEntry,hp[L.b]?=some (.map ms clock)∧All2 (fun (x:AV×AV×Nat) (m:MapEntry)=>VR γ x.1 m.key∧VR γ x.2.1 m.val∧m.born=x.2.2) es ms.toList
 | .loop st pend fn tm ps asg body d=>∃ lp:Loop,hp[L.b]?=some (.loop lp)∧lp.state=st∧SS pend lp.pending∧TR γ tm lp.tmps∧lp.params.toList=ps∧
  (∃ N,N≤lp.tmps.size∧Bh P N lp.assign=some asg∧Bh P N lp.body=some body∧∀ p ∈ ps,p<N)∧∃ D,γ d=some D∧lp.defers=D.b
 | .defd=>hp[L.b]?=some (.deferred (some []))
 | .iter m since seen last=>L.o=0∧∃ M,γ m=some M∧hp[L.b]?=some (.mapIter (some M.b) since seen.toArray last)
variable {P:Program}{L:Loc}{o:AObj}{hp:Array Obj}
theorem ObjR.mono (h:Le γ γ') (ho:ObjR P γ L o hp):ObjR P γ' L o hp:=by
 cases o with
 | row e cs=>obtain ⟨c,h1,h2,h3,h4,h5,h6,h7⟩:=ho;exact ⟨c,h1,h2,h3,h4,h5,fun i v hv=>(let ⟨v',a,b,d⟩:=h6 i v hv;⟨v',a,b.mono h,d⟩),h7⟩
 | dead=>trivial
 | map es clock=>obtain ⟨ms,h1,h2⟩:=ho;exact ⟨ms,h1,h2.imp fun _ _ ⟨a,b,c⟩=>⟨a.mono h,b.mono h,c⟩⟩
 | loop st pend fn tm ps asg body d=>obtain ⟨lp,h1,h2,h3,h4,h5,h6,D,h8,h10⟩:=ho;exact ⟨lp,h1,h2,h3,h4.mono h,h5,h6,D,h.loc _ _ h8,h10⟩
 | defd=>exact ho
 | iter m since seen last=>obtain ⟨h0,M,h1,h2⟩:=ho;exact ⟨h0,M,h.loc _ _ h1,h2⟩
theorem ObjR.heap {hp':Array Obj}(ho:ObjR P γ L o hp) (e:hp'[L.b]?=hp[L.b]?):ObjR P γ L o hp':=by
 cases o with
 | row e' cs=>obtain ⟨c,h1,h2⟩:=ho;exact ⟨c,e.trans h1,h2⟩
 | dead=>trivial
 | map es clock=>obtain ⟨ms,h1,h2⟩:=ho;exact ⟨ms,e.trans h1,h2⟩
 | loop st pend fn tm ps asg body d=>obtain ⟨lp,h1,h2⟩:=ho;exact ⟨lp,e.trans h1,h2⟩
 | defd=>exact e.trans ho
 | iter m since seen last=>obtain ⟨h0,M,h1,h2⟩:=ho;exact ⟨h0,M,h1,e.trans h2⟩
structure Sim (P:Program) (γ:Gam) (s:St) (w:World):Prop where
 obj:∀ r o L,s.get r=some o->γ r=some L->ObjR P γ L o w.heap
 inj:∀ r r' o o' L L',s.get r=some o->s.get r'=some o'->BO o=true->BO o'=true->γ r=some L->γ r'=some L'->r≠r'->L.b≠L'.b
 lt:∀ r L,γ r=some L->L.b<w.heap.size
 nx:∀ r,s.next≤r->γ r=none
 dom:∀ r o,s.get r=some o->r<s.next
 fzc:∀ b c,γ.fz b=some c->∃ e fr,w.heap[b]?=some (.cells c e fr)
 fzr:∀ r o L,s.get r=some o->BO o=true->γ r=some L->γ.fz L.b=none
variable {s:St}{w:World}{b:Nat}
theorem Sim.fzlt (h:Sim P γ s w) {c:Array Value}(hb:γ.fz b=some c):b<w.heap.size:=by
 obtain ⟨e,fr,h1⟩:=h.fzc b c hb
 exact (Zqn.1 h1).1
theorem Sim.fzout (h:Sim P γ s w) (hb:w.heap.size≤b):γ.fz b=none:=by
 cases hc:γ.fz b with
 | none=>rfl
 | some c=>exact absurd (h.fzlt hc) (by omega)
structure Stp (γ:Gam) (s:St) (w:World) (γ':Gam) (s':St) (w':World):Prop where
 le:Le γ γ'
 new:∀ r L,γ' r=some L->γ r=none->s.next≤r∧(w.heap.size≤L.b∨∃ r0 L0,γ r0=some L0∧L0.b=L.b)
 next:s.next≤s'.next
 size:w.heap.size≤w'.heap.size
 os:w'.os=w.os
 tape:w'.tape=w.tape
 output:w'.output=w.output
 blk:∀ b,b<w.heap.size->(∀ r L,γ r=some L->L.b≠b)->w'.heap[b]?=w.heap[b]?
 keep:∀ r,γ r=none->r<s.next->s'.get r=s.get r
 fzn:∀ b c,γ'.fz b=some c->γ.fz b=none->w.heap.size≤b
theorem Stp.refl (γ:Gam) (s:St) (w:World):Stp γ s w γ s w:=
 ⟨Le.refl γ,fun r L h h'=>(by rw [h] at h';cases h'),Zp4 _,Zp4 _,rfl,rfl,rfl,fun _ _ _=>rfl,fun _ _ _=>rfl,fun b c h h'=>(by rw [h] at h';cases h')⟩
theorem Stp.trans {γ1 γ2:Gam}{s1 s2:St}{w1 w2:World}(h:Stp γ s w γ1 s1 w1) (k:Stp γ1 s1 w1 γ2 s2 w2):Stp γ s w γ2 s2 w2:=by
 have step:∀ r L,γ1 r=some L->(w.heap.size≤L.b∨∃ r0 L0,γ r0=some L0∧L0.b=L.b):=by
  intro r L h1
  cases hg:γ r with
  | none=>exact (h.new r L h1 hg).2
  | some L'=>exact .inr ⟨r,L',hg,by rw [Zqr ((h.le.loc r L' hg).symm.trans h1)]⟩
 refine ⟨h.le.trans k.le,?_,Nat.le_trans h.next k.next,Nat.le_trans h.size k.size,k.os.trans h.os,k.tape.trans h.tape,k.output.trans h.output,?_,?_,?_⟩
 ·intro r L h2 h0
  cases h1:γ1 r with
  | some L1=>have e:=Zqr ((k.le.loc r L1 h1).symm.trans h2);rw [← e];exact h.new r L1 h1 h0
  | none=>
   obtain ⟨a,b⟩:=k.new r L h2 h1
   refine ⟨Nat.le_trans h.next a,?_⟩
   rcases b with b|⟨r0,L0,e0,e1⟩
   ·exact .inl (Nat.le_trans h.size b)
   ·rw [← e1];exact step r0 L0 e0
 ·intro b hb hn
  rw [k.blk b (Zrc hb h.size) ?_,h.blk b hb hn]
  intro r L h1 e
  rcases step r L h1 with a|⟨r0,L0,e0,e1⟩
  ·omega
  ·exact hn r0 L0 e0 (e1.trans e)
 ·intro r h0 hr
  refine (k.keep r ?_ (Zrc hr h.next)).trans (h.keep r h0 hr)
  cases h1:γ1 r with
  | none=>rfl
  | some L1=>exact absurd (h.new r L1 h1 h0).1 (by omega)
 ·intro b c hb h0
  cases h1:γ1.fz b with
  | none=>exact Nat.le_trans h.size (k.fzn b c hb h1)
  | some c1=>exact h.fzn b c1 h1 h0
variable {x:AObj}{r:Nat}
theorem G3 (h:(s.alloc o).get r=some x):(r=s.next∧x=o)∨(r≠s.next∧s.get r=some x):=by
 cases s;exact FT h
variable {k:Nat}
theorem FQ (h:(s.put k o).get r=some x):(r=k∧x=o)∨(r≠k∧s.get r=some x):=by
 cases s;exact FT h
theorem Ie (hne:r≠s.next):(s.alloc o).get r=s.get r:=by
 cases s;exact U4 hne
theorem Ig (hne:r≠k):(s.put k o).get r=s.get r:=by
 cases s;exact U4 hne
theorem CH (s:St) (o:AObj):(s.alloc o).next=s.next+1:=by cases s;rfl
theorem Dx (s:St) (r:Nat) (o:AObj):(s.put r o).next=s.next:=by cases s;rfl
def ext (γ:Gam) (r:Nat) (L:Loc):Gam:=⟨fun k=>if k=r then some L else γ k,γ.fz⟩
theorem F6 (h:γ r=none):Le γ (ext γ r L):=by
 refine ⟨fun k M hk=>?_,fun _ _ h=>h⟩
 show (if k=r then some L else γ k)=some M
 by_cases e:k=r
 ·subst e;rw [h] at hk;cases hk
 ·rw [Zpr e];exact hk
theorem BB (γ:Gam) (r:Nat) (L:Loc):ext γ r L r=some L:=by show (if r=r then some L else γ r)=some L;rw [Zpn rfl]
theorem Ct (γ:Gam) (L:Loc) (h:k≠r):ext γ r L k=γ k:=by show (if k=r then some L else γ k)=γ k;rw [Zpr h]
theorem Sim.alloc (h:Sim P γ s w) (o:AObj) (O:Obj) (sz es:Nat)
 (ho:ObjR P (ext γ s.next ⟨w.heap.size,0,sz,es⟩) ⟨w.heap.size,0,sz,es⟩ o (w.alloc O).heap):
 Stp γ s w (ext γ s.next ⟨w.heap.size,0,sz,es⟩) (s.alloc o) (w.alloc O)∧Sim P (ext γ s.next ⟨w.heap.size,0,sz,es⟩) (s.alloc o) (w.alloc O):=by
 have hn:=h.nx s.next (Zp4 _)
 have hle:=F6 (L:=⟨w.heap.size,0,sz,es⟩) hn
 have hold:∀ b,b<w.heap.size->(w.alloc O).heap[b]?=w.heap[b]?:=fun b hb=>by
  show (w.heap.push O)[b]?=_
  rw [Array.getElem?_push,Zpr (by omega)]
 have hsz:(w.alloc O).heap.size=w.heap.size+1:=by show (w.heap.push O).size=_;simp
 refine ⟨⟨hle,?_,by rw [CH];omega,by omega,rfl,rfl,rfl,fun b hb _=>hold b hb,fun r _ hr=>Ie (by omega),fun b c h h'=>(by rw [show γ.fz b=some c from h] at h';cases h')⟩,⟨?_,?_,?_,?_,?_,?_,?_⟩⟩
 ·intro r L h1 h2
  by_cases e:r=s.next
  ·subst e;rw [BB] at h1;cases h1;exact ⟨Zp4 _,.inl (Zp4 _)⟩
  ·rw [Ct _ _ e,h2] at h1;cases h1
 ·intro r x L hx hL
  rcases G3 hx with ⟨rfl,rfl⟩|⟨e,hx⟩
  ·rw [BB] at hL;cases hL;exact ho
  ·rw [Ct _ _ e] at hL
   exact ((h.obj r x L hx hL).mono hle).heap (hold _ (h.lt r L hL))
 ·intro r r' x x' L L' hx hx' ha ha' hL hL' hne
  rcases G3 hx with ⟨rfl,rfl⟩|⟨e,hx⟩ <;> rcases G3 hx' with ⟨rfl,rfl⟩|⟨e',hx'⟩
  ·exact absurd rfl hne
  ·rw [BB] at hL;rw [Ct _ _ e'] at hL';cases hL
   have:=h.lt _ _ hL';show w.heap.size≠L'.b;omega
  ·rw [BB] at hL';rw [Ct _ _ e] at hL;cases hL'
   have:=h.lt _ _ hL;show L.b≠w.heap.size;omega
  ·rw [Ct _ _ e] at hL;rw [Ct _ _ e'] at hL'
   exact h.inj r r' x x' L L' hx hx' ha ha' hL hL' hne
 ·intro r L hL
  by_cases e:r=s.next
  ·subst e;rw [BB] at hL;cases hL;rw [hsz];exact Nat.lt_succ_self _
  ·rw [Ct _ _ e] at hL;have:=h.lt r L hL;omega
 ·intro r hr
  rw [CH] at hr
  rw [Ct _ _ (by omega)]
  exact h.nx r (by omega)
 ·intro r x hx
  rw [CH]
  rcases G3 hx with ⟨rfl,_⟩|⟨_,hx⟩
  ·omega
  ·have:=h.dom r x hx;omega
 ·intro b c hb
  obtain ⟨e,fr,h1⟩:=h.fzc b c hb
  exact ⟨e,fr,(hold b (h.fzlt hb)).trans h1⟩
 ·intro r x L hx ha hL
  rcases G3 hx with ⟨rfl,rfl⟩|⟨e,hx⟩
  ·rw [BB] at hL;cases hL;exact h.fzout (Zp4 _)
  ·rw [Ct _ _ e] at hL;exact h.fzr r x L hx ha hL
variable {w':World}
theorem Sim.turn (h:Sim P γ s w) (hx:s.get r=some x) (hL:γ r=some L) (ha:BO x=true)
 (hother:∀ b,b≠L.b->w'.heap[b]?=w.heap[b]?) (hsize:w'.heap.size=w.heap.size) (h1:w'.os=w.os) (h2:w'.tape=w.tape) (h3:w'.output=w.output)
 (ho:ObjR P γ L o w'.heap):Stp γ s w γ (s.put r o) w'∧Sim P γ (s.put r o) w':=by
 refine ⟨⟨Le.refl γ,fun r L h h'=>(by rw [h] at h';cases h'),by rw [Dx];exact Zp4 _,by omega,h1,h2,h3,fun b _ hn=>hother b (fun e=>hn r L hL e.symm),fun k hk _=>Ig (fun e=>by rw [e,hL] at hk;cases hk),fun b c h h'=>(by rw [h] at h';cases h')⟩,⟨?_,?_,?_,?_,?_,?_,?_⟩⟩
 ·intro k y M hy hM
  rcases FQ hy with ⟨rfl,rfl⟩|⟨e,hy⟩
  ·rw [hL] at hM;cases hM;exact ho
  ·cases hd:BO y with
   | false=>cases y <;> simp [BO] at hd;trivial
   | true=>exact (h.obj k y M hy hM).heap (hother _ (h.inj k r y x M L hy hx hd ha hM hL e))
 ·intro k k' y y' M M' hy hy' ha1 ha2 hM hM' hne
  have back:∀ {j:Nat}{z:AObj},(s.put r o).get j=some z->BO z=true->∃ z',s.get j=some z'∧BO z'=true:=by
   intro j z hz hza
   rcases FQ hz with ⟨rfl,rfl⟩|⟨e,hz⟩
   ·exact ⟨x,hx,ha⟩
   ·exact ⟨z,hz,hza⟩
  obtain ⟨z,hz,hza⟩:=back hy ha1
  obtain ⟨z',hz',hza'⟩:=back hy' ha2
  exact h.inj k k' z z' M M' hz hz' hza hza' hM hM' hne
 ·intro k M hM;rw [hsize];exact h.lt k M hM
 ·intro k hk;rw [Dx] at hk;exact h.nx k hk
 ·intro k y hy
  rw [Dx]
  rcases FQ hy with ⟨rfl,_⟩|⟨_,hy⟩
  ·exact h.dom k x hx
  ·exact h.dom k y hy
 ·intro b c hb
  obtain ⟨e,fr,h1⟩:=h.fzc b c hb
  exact ⟨e,fr,(hother b (fun q=>by rw [q,h.fzr r x L hx ha hL] at hb;cases hb)).trans h1⟩
 ·intro k y M hy hya hM
  rcases FQ hy with ⟨rfl,rfl⟩|⟨e,hy⟩
  ·exact h.fzr k x M hx ha hM
  ·exact h.fzr k y M hy hya hM
theorem Sim.move (h:Sim P γ s w) (hx:s.get r=some x) (hL:γ r=some L) (ha:BO x=true)
 (hother:∀ b,b≠L.b->w'.heap[b]?=w.heap[b]?) (hsize:w'.heap.size=w.heap.size) (h1:w'.os=w.os) (h2:w'.tape=w.tape) (h3:w'.output=w.output)
 (ho:ObjR P (ext γ s.next L) L o w'.heap):Stp γ s w (ext γ s.next L) ((s.put r .dead).alloc o) w'∧Sim P (ext γ s.next L) ((s.put r .dead).alloc o) w':=by
 have hn:=h.nx s.next (Zp4 _)
 have hle:=F6 (L:=L) hn
 have hnr:r≠s.next:=fun e=>by rw [e,hn] at hL;cases hL
 have get2:∀ {k:Nat}{y:AObj},((s.put r .dead).alloc o).get k=some y->(k=s.next∧y=o)∨(k=r∧y=.dead)∨(k≠s.next∧k≠r∧s.get k=some y):=by
  intro k y hy
  rcases G3 hy with ⟨e,e2⟩|⟨e,hy⟩
  ·rw [Dx] at e;exact .inl ⟨e,e2⟩
  ·rw [Dx] at e
   rcases FQ hy with ⟨e',e2⟩|⟨e',hy⟩
   ·exact .inr (.inl ⟨e',e2⟩)
   ·exact .inr (.inr ⟨e,e',hy⟩)
 refine ⟨⟨hle,?_,by rw [CH,Dx];omega,by omega,h1,h2,h3,fun b _ hn=>hother b (fun e=>hn r L hL e.symm),fun k hk hlt=>(Ie (by rw [Dx];omega)).trans (Ig (fun e=>by rw [e,hL] at hk;cases hk)),fun b c h h'=>(by rw [show γ.fz b=some c from h] at h';cases h')⟩,⟨?_,?_,?_,?_,?_,?_,?_⟩⟩
 ·intro k M hM hk
  by_cases e:k=s.next
  ·subst e;rw [BB] at hM;cases hM;exact ⟨Zp4 _,.inr ⟨r,L,hL,rfl⟩⟩
  ·rw [Ct _ _ e,hk] at hM;cases hM
 ·intro k y M hy hM
  rcases get2 hy with ⟨rfl,rfl⟩|⟨rfl,rfl⟩|⟨e,e',hy⟩
  ·rw [BB] at hM;cases hM;exact ho
  ·trivial
  ·rw [Ct _ _ e] at hM
   cases hd:BO y with
   | false=>cases y <;> simp [BO] at hd;trivial
   | true=>exact ((h.obj k y M hy hM).mono hle).heap (hother _ (h.inj k r y x M L hy hx hd ha hM hL e'))
 ·intro k k' y y' M M' hy hy' ha1 ha2 hM hM' hne
  rcases get2 hy with ⟨rfl,rfl⟩|⟨rfl,rfl⟩|⟨e,e',hyy⟩
  ·rcases get2 hy' with ⟨rfl,rfl⟩|⟨rfl,rfl⟩|⟨g,g',hy'⟩
   ·exact absurd rfl hne
   ·simp [BO] at ha2
   ·rw [BB] at hM;cases hM;rw [Ct _ _ g] at hM'
    exact fun q=>h.inj k' r y' x M' L hy' hx ha2 ha hM' hL g' q.symm
  ·simp [BO] at ha1
  ·rw [Ct _ _ e] at hM
   have hy0:=hyy
   rcases get2 hy' with ⟨rfl,rfl⟩|⟨rfl,rfl⟩|⟨g,g',hy'⟩
   ·rw [BB] at hM';cases hM'
    exact h.inj k r y x M L hy0 hx ha1 ha hM hL e'
   ·simp [BO] at ha2
   ·rw [Ct _ _ g] at hM'
    exact h.inj k k' y y' M M' hyy hy' ha1 ha2 hM hM' hne
 ·intro k M hM
  rw [hsize]
  by_cases e:k=s.next
  ·subst e;rw [BB] at hM;cases hM;exact h.lt r L hL
  ·rw [Ct _ _ e] at hM;exact h.lt k M hM
 ·intro k hk
  rw [CH,Dx] at hk
  rw [Ct _ _ (by omega)]
  exact h.nx k (by omega)
 ·intro k y hy
  rw [CH,Dx]
  rcases get2 hy with ⟨rfl,_⟩|⟨rfl,_⟩|⟨_,_,hy⟩
  ·omega
  ·have:=h.dom k x hx;omega
  ·have:=h.dom k y hy;omega
 ·intro b c hb
  obtain ⟨e,fr,h1⟩:=h.fzc b c hb
  exact ⟨e,fr,(hother b (fun q=>by have hb':γ.fz b=some c:=hb;rw [q,h.fzr r x L hx ha hL] at hb';cases hb')).trans h1⟩
 ·intro k y M hy hya hM
  rcases get2 hy with ⟨rfl,rfl⟩|⟨rfl,rfl⟩|⟨e,e',hy⟩
  ·rw [BB] at hM;cases hM;exact h.fzr r x L hx ha hL
  ·simp [BO] at hya
  ·rw [Ct _ _ e] at hM;exact h.fzr k y M hy hya hM
theorem Sim.drew (h:Sim P γ s w):Sim P γ s w.drew:=⟨h.obj,h.inj,h.lt,h.nx,h.dom,h.fzc,h.fzr⟩
theorem Stp.drew:Stp γ s w γ s w.drew:=
 ⟨Le.refl γ,fun r L h h'=>(by rw [h] at h';cases h'),Zp4 _,Zp4 _,rfl,rfl,rfl,fun _ _ _=>rfl,fun _ _ _=>rfl,fun b c h h'=>(by rw [h] at h';cases h')⟩
end Go.AM
namespace Go.AM
theorem CY {α:Type}(l:List α):A7 l=l.length:=by
 induction l with
 | nil=>rfl
 | cons x l ih=>show Nat.succ (A7 l)=_;rw [ih];rfl
theorem Jw {α:Type}(l:List α):∀ i,FI l i=l[i]?:=by
 induction l with
 | nil=>intro i;rfl
 | cons x l ih=>intro i;cases i with
  | zero=>rfl
  | succ i=>show FI l i=_;rw [ih];simp
theorem Hk {α:Type}(n:Nat):∀ l:List α,D0 n l=l.drop n:=by
 induction n with
 | zero=>intro l;rfl
 | succ n ih=>intro l;cases l with
  | nil=>rfl
  | cons x l=>show D0 n l=_;rw [ih];rfl
theorem Km {α:Type}(n:Nat):∀ {l r:List α},Bo n l=some r->r=l.take n∧n≤l.length:=by
 induction n with
 | zero=>intro l r h;cases h;exact ⟨rfl,Zp2 _⟩
 | succ n ih=>intro l r h;cases l with
  | nil=>cases h
  | cons x l=>
   change (Option.rec none (fun r=>some (x::r)) (Bo n l):Option (List α))=some r at h
   cases ht:Bo n l with
   | none=>rw [ht] at h;cases h
   | some q=>rw [ht] at h;cases h;obtain ⟨e,hl⟩:=ih ht;exact ⟨by rw [e];rfl,by simp;omega⟩
theorem Da {α:Type}(a b:List α):Be a b=a++b:=by
 induction a with
 | nil=>rfl
 | cons x a ih=>show x::Be a b=_;rw [ih];rfl
theorem Zcl (vs:List AV):∀ {l r:List AV},JK vs l=some r->r=vs++l.drop vs.length∧vs.length≤l.length:=by
 induction vs with
 | nil=>intro l r h;cases h;exact ⟨rfl,Zp2 _⟩
 | cons v vs ih=>intro l r h;cases l with
  | nil=>cases h
  | cons x l=>
   change (Option.rec none (fun r=>some (v::r)) (JK vs l):Option (List AV))=some r at h
   cases ht:JK vs l with
   | none=>rw [ht] at h;cases h
   | some q=>rw [ht] at h;cases h;obtain ⟨e,hl⟩:=ih ht;exact ⟨by rw [e];simp,by simp;omega⟩
theorem VT (vs:List AV) (o:Nat):∀ {l r:List AV},E5 vs o l=some r->r=l.take o++vs++l.drop (o+vs.length)∧o+vs.length≤l.length:=by
 induction o with
 | zero=>intro l r h;obtain ⟨e,hl⟩:=Zcl vs h;exact ⟨by simpa using e,by omega⟩
 | succ o ih=>intro l r h;cases l with
  | nil=>cases h
  | cons x l=>
   change (Option.rec none (fun r=>some (x::r)) (E5 vs o l):Option (List AV))=some r at h
   cases ht:E5 vs o l with
   | none=>rw [ht] at h;cases h
   | some q=>
    rw [ht] at h;cases h;obtain ⟨e,hl⟩:=ih ht
    exact ⟨by rw [e,show o+1+vs.length=(o+vs.length)+1 by omega];simp,by simp;omega⟩
theorem Ss (z:List AV) (n:Nat):Bp z n=FF z n:=by
 induction n with
 | zero=>rfl
 | succ n ih=>show Be z (Bp z n)=_;rw [Da,ih];rfl
variable {v:AV}{r o:Nat}
theorem Ml (h:Bs v=.ptr r o):v=.ptr r o:=by
 cases v <;> first|(cases h;rfl)|cases h
variable {l:List AV}
theorem Zg0 (h:Bs v=.fp l):v=.fp l:=by
 cases v <;> first|(cases h;rfl)|cases h
variable {n:Nat}{c:Option Nat}
theorem Sf (h:B6 v=.fz n c l):v=.fz n c l:=by
 cases v <;> first|(cases h;rfl)|cases h
theorem EE {k:IntKind}{n:Int}(h:asInt v=.int k n):v=.int k n:=by
 cases v <;> first|(cases h;rfl)|cases h
theorem Zg2 (h:asAgg v=.l l):v=.agg l:=by
 cases v <;> first|(cases h;rfl)|cases h
theorem Zgz (h:IM v=.l l):v=.tup l:=by
 cases v <;> first|(cases h;rfl)|cases h
theorem O3 {l:List Nat}(h:Gj v=.s l):v=.str l:=by
 cases v <;> first|(cases h;rfl)|cases h
theorem OM (h:B6 v=.sl r o n c):v=.sl r o n c:=by
 cases v <;> first|(cases h;rfl)|cases h
theorem Ok (h:B6 v=.nils):v=.nils:=by
 cases v <;> first|rfl|cases h
theorem ON (h:B6 v=.es):v=.es:=by
 cases v <;> first|rfl|cases h
theorem Zlg (h:FD v=.m r):v=.map r:=by
 cases v <;> first|(cases h;rfl)|cases h
theorem Zd5 (h:FD v=.nil):v=.nilm:=by
 cases v <;> first|rfl|cases h
theorem Jr (h:HD v=.n n):∃ k,v=.int k (.ofNat n):=by
 cases v with
 | int k i=>cases i with
  | ofNat m=>cases h;exact ⟨k,rfl⟩
  | negSucc m=>cases h
 | _=>cases h
theorem Mb (h:asBool v=.tt):v=.bool true:=by
 cases v with
 | bool b=>cases b with
  | true=>rfl
  | false=>cases h
 | _=>cases h
theorem Ol (h:asBool v=.ff):v=.bool false:=by
 cases v with
 | bool b=>cases b with
  | false=>rfl
  | true=>cases h
 | _=>cases h
theorem X7 {f:Nat}{a b:List AV}(h:EY v=.fn f a b):v=.fn f a b:=by
 cases v <;> first|(cases h;rfl)|cases h
theorem Zg1 {l:Nat}(h:EY v=.yld l):v=.yld l:=by
 cases v <;> first|(cases h;rfl)|cases h
variable {s:St}
theorem AH {x:AO}{t:AT}{k:AV->RV}(h:wth x t k=.ok v s):∃ a,ev x t=.some a∧k a=.ok v s:=by
 unfold wth at h
 cases hx:ev x t with
 | none=>rw [hx] at h;cases h
 | some a=>rw [hx] at h;exact ⟨a,rfl,h⟩
variable {a:AV}{k:Nat->Nat->RV}
theorem OS (h:(PR.rec .fail k (fun _=>.fail) (Bs a):RV)=.ok v s):∃ r o,a=.ptr r o∧k r o=.ok v s:=by
 cases hx:Bs a with
 | no=>rw [hx] at h;cases h
 | ptr r o=>rw [hx] at h;exact ⟨r,o,Ml hx,h⟩
 | fp l=>rw [hx] at h;cases h
theorem O9 {kf:List AV->RV}(h:(PR.rec .fail k kf (Bs a):RV)=.ok v s):(∃ r o,a=.ptr r o∧k r o=.ok v s)∨∃ l,a=.fp l∧kf l=.ok v s:=by
 cases hx:Bs a with
 | no=>rw [hx] at h;cases h
 | ptr r o=>rw [hx] at h;exact .inl ⟨r,o,Ml hx,h⟩
 | fp l=>rw [hx] at h;exact .inr ⟨l,Zg0 hx,h⟩
theorem Zm3 {k:IntKind->Int->RV}(h:(IR.rec .fail k (asInt a):RV)=.ok v s):∃ r o,a=.int r o∧k r o=.ok v s:=by
 cases hx:asInt a with
 | no=>rw [hx] at h;cases h
 | int r o=>rw [hx] at h;exact ⟨r,o,EE hx,h⟩
theorem KV {k:List AV->RV}(h:(LR.rec .fail k (asAgg a):RV)=.ok v s):∃ l,a=.agg l∧k l=.ok v s:=by
 cases hx:asAgg a with
 | no=>rw [hx] at h;cases h
 | l l=>rw [hx] at h;exact ⟨l,Zg2 hx,h⟩
theorem Zlv {k:List AV->RV}(h:(LR.rec .fail k (IM a):RV)=.ok v s):∃ l,a=.tup l∧k l=.ok v s:=by
 cases hx:IM a with
 | no=>rw [hx] at h;cases h
 | l l=>rw [hx] at h;exact ⟨l,Zgz hx,h⟩
variable {x y:RV}
theorem Yk {k:Nat->Nat->Nat->Option Nat->RV}(h:(SR.rec .fail k x y (fun _ _ _=>.fail) (B6 a):RV)=.ok v s):
 (∃ r o n c,a=.sl r o n c∧k r o n c=.ok v s)∨(a=.nils∧x=.ok v s)∨(a=.es∧y=.ok v s):=by
 cases hx:B6 a with
 | no=>rw [hx] at h;cases h
 | sl r o n c=>rw [hx] at h;exact .inl ⟨r,o,n,c,OM hx,h⟩
 | nils=>rw [hx] at h;exact .inr (.inl ⟨Ok hx,h⟩)
 | es=>rw [hx] at h;exact .inr (.inr ⟨ON hx,h⟩)
 | fz n c l=>rw [hx] at h;cases h
theorem F4 {k:Nat->Nat->Nat->Option Nat->RV}{kf:Nat->Option Nat->List AV->RV}(h:(SR.rec .fail k x y kf (B6 a):RV)=.ok v s):
 (∃ r o n c,a=.sl r o n c∧k r o n c=.ok v s)∨(a=.nils∧x=.ok v s)∨(a=.es∧y=.ok v s)∨∃ n c l,a=.fz n c l∧kf n c l=.ok v s:=by
 cases hx:B6 a with
 | no=>rw [hx] at h;cases h
 | sl r o n c=>rw [hx] at h;exact .inl ⟨r,o,n,c,OM hx,h⟩
 | nils=>rw [hx] at h;exact .inr (.inl ⟨Ok hx,h⟩)
 | es=>rw [hx] at h;exact .inr (.inr (.inl ⟨ON hx,h⟩))
 | fz n c l=>rw [hx] at h;exact .inr (.inr (.inr ⟨n,c,l,Sf hx,h⟩))
theorem KL {k:Nat->RV}(h:(MR.rec .fail k x (FD a):RV)=.ok v s):(∃ r,a=.map r∧k r=.ok v s)∨(a=.nilm∧x=.ok v s):=by
 cases hx:FD a with
 | no=>rw [hx] at h;cases h
 | m r=>rw [hx] at h;exact .inl ⟨r,Zlg hx,h⟩
 | nil=>rw [hx] at h;exact .inr ⟨Zd5 hx,h⟩
theorem C9 {a:NR}{k:Nat->RV}(h:(NR.rec .fail k a:RV)=.ok v s):∃ n,a=.n n∧k n=.ok v s:=by
 cases a with
 | no=>cases h
 | n n=>exact ⟨n,rfl,h⟩
theorem AJ {α:Type}{a:Option α}{k:α->RV}(h:(Option.rec .fail k a:RV)=.ok v s):∃ x,a=some x∧k x=.ok v s:=by
 cases a with
 | none=>cases h
 | some x=>exact ⟨x,rfl,h⟩
theorem BF {b:Bool}{r:RV}(h:gd b r=.ok v s):b=true∧r=.ok v s:=by
 cases b with
 | false=>cases h
 | true=>exact ⟨rfl,h⟩
variable {s':St}
theorem M4 {x:OV}(h:ret x s'=.ok v s):x=.some v∧s'=s:=by
 cases x with
 | none=>cases h
 | some a=>cases h;exact ⟨rfl,rfl⟩
theorem K9 {x:Option AV}(h:retO x s'=.ok v s):x=some v∧s'=s:=by
 cases x with
 | none=>cases h
 | some a=>cases h;exact ⟨rfl,rfl⟩
theorem Mp {x:Option St}{u:AV}(h:Gm u x=.ok v s):x=some s∧u=v:=by
 cases x with
 | none=>cases h
 | some a=>cases h;exact ⟨rfl,rfl⟩
theorem M7 {x:OV}(h:HI x=.n n):∃ k,x=.some (.int k (.ofNat n)):=by
 cases x with
 | none=>cases h
 | some v=>obtain ⟨k,rfl⟩:=Jr h;exact ⟨k,rfl⟩
section
variable {P:Program}{γ:Gam}{s:St}{w:World}
variable {r e:Nat}{cs:List AV}
theorem Kn (h:Dm r s=.row e cs):s.get r=some (.row e cs):=by
 unfold Dm at h
 cases hg:s.get r with
 | none=>rw [hg] at h;cases h
 | some o=>rw [hg] at h;cases o <;> first|(cases h;rfl)|cases h
variable {L:Loc}
theorem Sim.row (h:Sim P γ s w) (hr:s.get r=some (.row e cs)) (hL:γ r=some L):
 ∃ c:Array Value,w.heap[L.b]?=some (.cells c e (0,0))∧L.o=0∧c.size=L.sz∧AA P e=some L.es∧cs.length≤c.size∧
  ∀ (i:Nat) v,cs[i]?=some v->∃ v',c[i]?=some v'∧VR γ v v'∧v'.oneCell'=true:=by
 obtain ⟨c,h1,h2,h3,h4,h5,h6,h7⟩:=h.obj r _ L hr hL
 exact ⟨c,h1,h2,h3,h4,h5,h6⟩
theorem Sim.rowA (h:Sim P γ s w) (hr:s.get r=some (.row e cs)) (hL:γ r=some L):
 ∃ c:Array Value,w.heap[L.b]?=some (.cells c e (0,0))∧L.o=0∧c.size=L.sz∧AA P e=some L.es∧cs.length≤c.size∧
  (∀ (i:Nat) v,cs[i]?=some v->∃ v',c[i]?=some v'∧VR γ v v'∧v'.oneCell'=true)∧∀ v' ∈ c.toList,v'.oneCell'=true:=h.obj r _ L hr hL
variable {o:Nat}
theorem UI (h:Sim P γ s w) {v:AV}(hl:load1 r o s=some v) (hL:γ r=some L):
 ∃ v',w.cell? ⟨L.b,L.o+o,none⟩=some v'∧VR γ v v'∧v'.oneCell'=true:=by
 unfold load1 at hl
 cases hr:Dm r s with
 | no=>rw [hr] at hl;cases hl
 | row e cs=>
  rw [hr] at hl
  change FI cs o=some v at hl
  rw [Jw] at hl
  obtain ⟨c,hc,ho,_,_,_,hv⟩:=h.row (Kn hr) hL
  obtain ⟨v',hv',hR,h1⟩:=hv o v hl
  refine ⟨v',?_,hR,h1⟩
  rw [ho,Zpy]
  simp [World.cell?,hc,hv']
variable {b:Nat}
theorem Xm (h:Sim P γ s w) {cs:Array Value}(hb:γ.fz b=some cs) {u:Value}(hu:cs[o]?=some u):w.cell? ⟨b,o,none⟩=some u:=by
 obtain ⟨e,fr,h1⟩:=h.fzc b cs hb
 simp [World.cell?,h1,hu]
variable {n:Nat}{l:List AV}{v':Value}
theorem FN {cap:Option Nat}(h:VR γ (.fz n cap l) v'):∃ b o c cs vs,v'=.slice (some ⟨b,o,none⟩) n c∧γ.fz b=some cs∧(∀ (j:Nat) (u:Value),vs[j]?=some u->cs[o+j]?=some u)∧(∀ u ∈ vs,u.oneCell'=true)∧All2 (VR γ) l vs∧n≤c∧(∀ k,cap=some k->c=k)∧hfs l=true:=by
 cases h with
 | fz n cap l vs b o c cs h1 h2 h3 h4 h5 h6 h7=>exact ⟨b,o,c,cs,vs,rfl,h1,h2,h3,h4,h5,h6,h7⟩
theorem fpV (h:VR γ (.fp l) v'):∃ b o cs vs,v'=.pointer (some ⟨b,o,none⟩)∧γ.fz b=some cs∧(∀ (j:Nat) (u:Value),vs[j]?=some u->cs[o+j]?=some u)∧(∀ u ∈ vs,u.oneCell'=true)∧All2 (VR γ) l vs∧hfs l=true:=by
 cases h with
 | fp l vs b o cs h1 h2 h3 h4 h5=>exact ⟨b,o,cs,vs,rfl,h1,h2,h3,h4,h5⟩
theorem DX (b o j:Nat):(⟨b,o,none⟩:Addr).add j=⟨b,o+j,none⟩:=by unfold Addr.add;split <;> simp_all
theorem Jm (h:Sim P γ s w) (hl:load r o n s=some cs) (hL:γ r=some L):
 ∃ vs:List Value,vs.length=n∧(∀ j u,vs[j]?=some u->w.cell? ((⟨L.b,L.o+o,none⟩:Addr).add j)=some u)∧All2 (VR γ) cs vs∧(∀ v ∈ vs,v.oneCell'=true):=by
 unfold load at hl
 cases hr:Dm r s with
 | no=>rw [hr] at hl;cases hl
 | row e rs=>
  rw [hr] at hl
  change Bo n (D0 o rs)=some cs at hl
  obtain ⟨e1,hn⟩:=Km n hl
  rw [Hk] at e1 hn
  subst e1
  obtain ⟨c,hc,ho,_,_,hlen,hv⟩:=h.row (Kn hr) hL
  simp at hn
  refine ⟨(c.toList.drop o).take n,?_,?_,?_,?_⟩
  ·simp;omega
  ·intro j u hu
   rw [DX,ho,Zpy]
   rw [Zqw] at hu
   split at hu
   ·rw [Zpu] at hu
    simp [World.cell?,hc]
    simpa using hu
   ·cases hu
  ·refine EB (by simp;omega) ?_
   intro i a b ha hb
   rw [Zqw] at ha hb
   split at ha
   ·rw [Zpn ‹_›] at hb
    rw [Zpu] at ha hb
    obtain ⟨v',hv',hR,_⟩:=hv _ _ ha
    have:c[o+i]?=some b:=by simpa using hb
    rw [this] at hv';cases hv';exact hR
   ·cases ha
  ·intro v hv'
   obtain ⟨i,hi⟩:=Zra hv'
   rw [Zqw] at hi
   split at hi
   ·rw [Zpu] at hi
    have hci:c[o+i]?=some v:=by simpa using hi
    obtain ⟨u,_,hu⟩:∃ u,rs[o+i]?=some u∧True:=⟨rs[o+i]'(by omega),by rw [Zpj],trivial⟩
    obtain ⟨v',hv',_,h1⟩:=hv (o+i) (rs[o+i]'(by omega)) (Zpj _)
    rw [hci] at hv';cases hv';exact h1
   ·cases hi
variable {k:Nat}{cs':List AV}{vs:List Value}
theorem Iz (h:Sim P γ s w) {cs:Array Value}(hb:γ.fz b=some cs) (h2:∀ (j:Nat) (u:Value),vs[j]?=some u->cs[o+j]?=some u) (h3:∀ u ∈ vs,u.oneCell'=true) (h4:All2 (VR γ) l vs) (ht:Bo n (D0 k l)=some cs'):
 ∃ us:List Value,us.length=n∧(∀ (j:Nat) (u:Value),us[j]?=some u->cs[o+k+j]?=some u)∧All2 (VR γ) cs' us∧(∀ v ∈ us,v.oneCell'=true):=by
 obtain ⟨e1,hn⟩:=Km n ht
 rw [Hk] at e1 hn
 subst e1
 have hl:=h4.length
 refine ⟨(vs.drop k).take n,?_,?_,(h4.drop k).take n,fun v hv=>h3 v (Zqv (Zqq hv))⟩
 ·simp at hn ⊢;omega
 ·intro j u hj
  rw [Zqw] at hj
  split at hj
  ·rw [Zpu] at hj;rw [Zrg];exact h2 _ _ hj
  ·cases hj
theorem XO (h:hfs l=true) (ht:Bo n (D0 k l)=some cs'):hfs cs'=true:=by
 obtain ⟨e1,_⟩:=Km n ht
 rw [Hk] at e1;subst e1
 exact Zfx (Oy h k) n
theorem Ky (h:Sim P γ s w) {cs:Array Value}{us:List Value}(hb:γ.fz b=some cs) (h2:∀ (j:Nat) (u:Value),us[j]?=some u->cs[o+j]?=some u):∀ j u,us[j]?=some u->w.cell? ((⟨b,o,none⟩:Addr).add j)=some u:=by
 intro j u hj
 rw [DX]
 exact Xm h hb (h2 j u hj)
theorem RO {cs:Array Value}(hb:γ.fz b=some cs) (h2:∀ (j:Nat) (u:Value),vs[j]?=some u->cs[o+j]?=some u) (h3:∀ u ∈ vs,u.oneCell'=true) (h4:All2 (VR γ) l vs) (h5:hfs l=true):VR γ (.fp (D0 k l)) (.pointer (some ⟨b,o+k,none⟩)):=by
 rw [Hk]
 refine .fp _ (vs.drop k) b (o+k) cs hb (fun j u hj=>?_) (fun u hu=>h3 u (Zqv hu)) (h4.drop k) (Oy h5 k)
 rw [Zpu] at hj
 rw [Zrg];exact h2 _ _ hj
theorem UC (w:World) (g:Nat) (cs:Array Value):(w.setRow g cs).heap.size=w.heap.size:=by simp [World.setRow]
theorem LN (h:Sim P γ s w) {s':St}(hs:storeAt r o cs s=some s') (hL:γ r=some L) (hR:All2 (VR γ) cs vs) (h1:∀ v ∈ vs,v.oneCell'=true):
 ∃ w',(storeCells ⟨L.b,L.o+o,none⟩ vs).run P w=.ok () w'∧Stp γ s w γ s' w'∧Sim P γ s' w':=by
 unfold storeAt at hs
 cases hr:Dm r s with
 | no=>rw [hr] at hs;cases hs
 | row e rs=>
  rw [hr] at hs
  change (Option.rec none (fun cs'=>some (s.put r (.row e cs'))) (E5 cs o rs):Option St)=some s' at hs
  cases hu:E5 cs o rs with
  | none=>rw [hu] at hs;cases hs
  | some rs'=>
   rw [hu] at hs
   cases hs
   obtain ⟨e1,hn⟩:=VT cs o hu
   have hg:=Kn hr
   obtain ⟨c,hc,ho,hsz,hes,hlen,hv,hall⟩:=h.rowA hg hL
   have hl:=hR.length
   have hrun:=run_storeCells_at (P:=P) L.b o e vs 0 c w hc (by omega) h1
   simp only [Zqs] at hrun
   refine ⟨_,by rw [ho,Zpy];exact hrun,?_⟩
   refine h.turn hg hL rfl (fun b hb=>setRow_other w L.b b _ hb) (UC _ _ _) rfl rfl rfl ?_
   refine ⟨_,setRow_heap w L.b c _ e _ hc,ho,?_,hes,?_,?_,fun v' hv'=>?_⟩
   rotate_right
   ·simp only [List.append_assoc,Zqb] at hv'
    rcases hv' with hv'|hv'|hv'
    ·exact hall _ (Zqq hv')
    ·exact h1 _ hv'
    ·exact hall _ (Zqv hv')
   ·simp;omega
   ·subst e1;simp;omega
   ·intro i v hi
    subst e1
    by_cases hi1:i<o
    ·rw [List.append_assoc,Zp3 (by simp;omega),Zqw,Zpn hi1] at hi
     obtain ⟨v',hv',hRv,hone⟩:=hv i v hi
     refine ⟨v',?_,hRv,hone⟩
     rw [Zre,List.append_assoc,Zp3 (by simp;omega),Zqw,Zpn hi1]
     simpa using hv'
    ·by_cases hi2:i<o+cs.length
     ·rw [List.append_assoc,Zqe (by simp;omega),Zp3 (by simp;omega)] at hi
      simp only [Zp9,Nat.min_eq_left (show o≤rs.length by omega)] at hi
      obtain ⟨v',hv',hRv⟩:=hR.get hi
      refine ⟨v',?_,hRv,h1 v' (Zp5 hv')⟩
      rw [Zre,List.append_assoc,Zqe (by simp;omega),Zp3 (by simp;omega)]
      simp only [Zp9,Zrk,Nat.min_eq_left (show o≤c.size by omega)]
      exact hv'
     ·rw [Zqe (by simp;omega),Zpu] at hi
      simp only [Zpx,Zp9,Nat.min_eq_left (show o≤rs.length by omega)] at hi
      rw [show o+cs.length+(i-(o+cs.length))=i by omega] at hi
      obtain ⟨v',hv',hRv,hone⟩:=hv i v hi
      refine ⟨v',?_,hRv,hone⟩
      rw [Zre,Zqe (by simp;omega),Zpu]
      simp only [Zpx,Zp9,Zrk,Nat.min_eq_left (show o≤c.size by omega)]
      rw [show o+vs.length+(i-(o+vs.length))=i by omega]
      simpa using hv'
theorem OQ {es:Nat}{vs:Array Value}(hes:AA P e=some es) (hR:All2 (VR γ) cs vs.toList) (h1:∀ v ∈ vs.toList,v.oneCell'=true) {γ':Gam}(hle:Le γ γ'):
 ObjR P γ' ⟨w.heap.size,0,vs.size,es⟩ (.row e cs) (w.alloc (.cells vs e)).heap:=by
 have hl:=hR.length
 refine ⟨vs,?_,rfl,rfl,hes,by simpa using Nat.le_of_eq hl,?_,h1⟩
 ·show (w.heap.push _)[w.heap.size]?=_;simp
 ·intro i v hi
  obtain ⟨v',hv',hr⟩:=hR.get hi
  exact ⟨v',by simpa using hv',hr.mono hle,h1 v' (Zp5 hv')⟩
end
end Go.AM
namespace Go.AM
section
variable {P:Program}{γ:Gam}{s:St}{w:World}{t:AT}{ρ:Operand->Value}
variable {a:AV}
theorem SH {v:Value}(h:LG v=some a):VR γ a v∧v.oneCell'=true:=by
 unfold LG at h
 split at h
 case h_9 f as bs=>
  split at h
  ·rename_i h1 h2
   cases h
   refine ⟨.fn _ _ _ _ _ (by rw [h1];exact .nil) (by rw [h2];exact .nil),rfl⟩
  ·cases h
 all_goals first
  | (cases h;first
      | exact ⟨.bool _,rfl⟩|exact ⟨.int _ _,rfl⟩|exact ⟨.str _ _ rfl,rfl⟩|exact ⟨.nilp,rfl⟩|exact ⟨.nils,rfl⟩|exact ⟨.nilm,rfl⟩|exact ⟨.nilf,rfl⟩|exact ⟨.nili,rfl⟩)
  | cases h
theorem GC:∀ {l:List Value}{m:List AV},HV l=some m->All2 (VR γ) m l∧∀ v ∈ l,v.oneCell'=true
 | [],m,h=>by cases h;exact ⟨.nil,by simp⟩
 | v::l,m,h=>by
  simp only [HV] at h
  split at h
  ·rename_i x y h1 h2
   cases h
   obtain ⟨a,b⟩:=SH (γ:=γ) h1
   obtain ⟨c,d⟩:=GC h2
   exact ⟨.cons a c,by simp [b];exact d⟩
  ·cases h
theorem Tg {v:Value}(h:av v=some a):VR γ a v:=by
 unfold av at h
 split at h
 ·rename_i cs
  cases ha:HV cs.toList with
  | none=>rw [ha] at h;cases h
  | some l=>rw [ha] at h;cases h;obtain ⟨x,y⟩:=GC (γ:=γ) ha;exact .agg _ _ x y
 ·rename_i cs
  cases ha:HV cs.toList with
  | none=>rw [ha] at h;cases h
  | some l=>rw [ha] at h;cases h;exact .tup _ _ (GC ha).1
 ·exact (SH h).1
def Evs (γ:Gam) (t:AT) (ρ:Operand->Value) (xs:List Operand):Prop:=∀ x ∈ xs,∀ a v,Ai x=some a->ev a t=.some v->VR γ v (ρ x)
theorem Js {xs:List Operand}:∀ {as:List AO}{vs:List AV},Fr xs=some as->Cr t as=some vs->Evs γ t ρ xs->All2 (VR γ) vs (xs.map ρ):=by
 induction xs with
 | nil=>intro as vs h1 h2 _;cases h1;cases h2;exact .nil
 | cons x xs ih=>
  intro as vs h1 h2 he
  simp only [Fr] at h1
  split at h1
  ·rename_i a b ha hb
   cases h1
   change (OV.rec none (fun v=>Option.rec none (fun vs=>some (v::vs)) (Cr t b)) (ev a t):Option (List AV))=some vs at h2
   cases hv:ev a t with
   | none=>rw [hv] at h2;cases h2
   | some v=>
    rw [hv] at h2
    cases hw:Cr t b with
    | none=>rw [hw] at h2;cases h2
    | some ws=>
     rw [hw] at h2
     cases h2
     exact .cons (he x (by simp) a v ha hv) (ih hb hw fun y hy=>he y (by simp [hy]))
  ·cases h1
def OpOk (P:Program) (γ:Gam) (s:St) (w:World) (ρ:Operand->Value) (o:Oper) (v:AV) (s':St):Prop:=
 ∃ γ' w',Stp γ s w γ' s' w'∧Sim P γ' s' w'∧((∃ v',(execOp ρ o).run P w=.ok (.value v') w'∧VR γ' v v')∨((execOp ρ o).run P w=.ok .skip w'∧o.dst=none))
variable {o:Oper}{v:AV}
theorem Ay (h:Sim P γ s w) (v':Value) (hr:(execOp ρ o).run P w=.ok (.value v') w) (hv:VR γ v v'):OpOk P γ s w ρ o v s:=
 ⟨γ,w,.refl _ _ _,h,.inl ⟨v',hr,hv⟩⟩
variable {n:Nat}
theorem QR {v':Value}(h:VR γ v v') (hone:Nat.beq (A7 (cellsOf v)) (n+1)=true):All2 (VR γ) (cellsOf v) v'.cells.toList∧∀ u ∈ v'.cells.toList,u.oneCell'=true:=by
 cases h with
 | agg l a h1 h2=>exact ⟨h1,h2⟩
 | tup l a h1=>cases hone
 | any _ ho=>cases v' <;> first|(exfalso;simp [Value.oneCell'] at ho;done)|exact ⟨.cons (.any _ ho) .nil,by simp [Value.cells,Value.oneCell']⟩
 | _=>exact ⟨.cons (by constructor <;> assumption) .nil,by simp [Value.cells,Value.oneCell']⟩
variable {s':St}
theorem A0 (h:RV.ok a s=RV.ok v s'):a=v∧s=s':=by cases h;exact ⟨rfl,rfl⟩
def Fresh (P:Program) (γ:Gam) (w:World) (ρ:Operand->Value) (o:Oper) (s:St) (v:AV) (s':St):Prop:=
 ∃ (obj:AObj) (mkv:Nat->AV) (O:Obj) (sz es:Nat) (v':Value),v=mkv s.next∧s'=s.alloc obj∧(execOp ρ o).run P w=.ok (.value v') (w.alloc O)∧
  ∀ (γ':Gam) (r:Nat),Le γ γ'->γ' r=some ⟨w.heap.size,0,sz,es⟩->ObjR P γ' ⟨w.heap.size,0,sz,es⟩ obj (w.alloc O).heap∧VR γ' (mkv r) v'
theorem Fresh.ok (hs:Sim P γ s w) (h:Fresh P γ w ρ o s v s'):OpOk P γ s w ρ o v s':=by
 obtain ⟨obj,mkv,O,sz,es,v',rfl,rfl,hr,hk⟩:=h
 have hle:=F6 (L:=⟨w.heap.size,0,sz,es⟩) (hs.nx s.next (Zp4 _))
 obtain ⟨h1,h2⟩:=hk _ s.next hle (BB _ _ _)
 obtain ⟨hst,hsim⟩:=hs.alloc obj O sz es h1
 exact ⟨_,_,hst,hsim,.inl ⟨v',hr,h2⟩⟩
variable {x:Operand}
theorem Wl (hs:Sim P γ s w) {a:AO}(hx:Ai x=some a) (ho:o.op=.move x∨o.op=.assign x) (he:Evs γ t ρ [x])
 (h:mvA a t s=.ok v s'):OpOk P γ s w ρ o v s':=by
 obtain ⟨u,hu,h⟩:=AH h
 obtain ⟨rfl,rfl⟩:=A0 h
 have hv:=he x (by simp) a u hx hu
 refine Ay hs (ρ x) ?_ hv
 rcases ho with ho|ho <;> simp [execOp,ho]
theorem Za9 (hs:Sim P γ s w) {c y:Operand}{ac ax ay:AO}(hc:Ai c=some ac) (hx:Ai x=some ax) (hy:Ai y=some ay) (ho:o.op=.pick c x y) (he:Evs γ t ρ [c,x,y])
 (h:Yp ac ax ay t s=.ok v s'):OpOk P γ s w ρ o v s':=by
 obtain ⟨u,hu,h⟩:=AH h
 have hcv:=he c (by simp) ac u hc hu
 cases hb:asBool u with
 | no=>rw [hb] at h;cases h
 | tt=>
  rw [hb] at h
  obtain ⟨e1,rfl⟩:=M4 h
  rw [Mb hb] at hcv
  generalize hcc:ρ c=cv at hcv
  cases hcv
  exact Ay hs (ρ x) (by simp [execOp,ho,hcc,Go.asBool]) (he x (by simp) ax v hx e1)
 | ff=>
  rw [hb] at h
  obtain ⟨e1,rfl⟩:=M4 h
  rw [Ol hb] at hcv
  generalize hcc:ρ c=cv at hcv
  cases hcv
  exact Ay hs (ρ y) (by simp [execOp,ho,hcc,Go.asBool]) (he y (by simp) ay v hy e1)
theorem GZ {t:TypeId}{i:TypeInfo}{z:Value}(hi:P.info? t=some i) (hz:i.zero=some z) (w:World):(zeroValue t).run P w=.ok z w:=by
 simp [zeroValue,typeInfo,hi,hz]
theorem CB {t:TypeId}(h:AA P t=some n) (w:World):(Go.sizeOf t).run P w=.ok n w:=by
 unfold AA at h
 cases hi:P.info? t with
 | none=>rw [hi] at h;cases h
 | some i=>rw [hi] at h;cases h;simp [Go.sizeOf,typeInfo,hi]
theorem Io {t:TypeId}{b:Bool}(h:Dh P t=some b) (w:World):(isAgg t).run P w=.ok b w:=by
 unfold Dh at h
 cases hu:P.underlying t with
 | none=>rw [hu] at h;cases h
 | some d=>rw [hu] at h;cases d <;> cases h <;> simp [isAgg,Zp1 hu]
variable {z:List AV}
theorem Ji {t:TypeId}(h:En P t=some z):∃ i zv,P.info? t=some i∧i.zero=some zv∧HV zv.cells.toList=some z:=by
 unfold En at h
 split at h
 ·rename_i i hi
  split at h
  ·rename_i zv hz;exact ⟨i,zv,hi,hz,h⟩
  ·cases h
 ·cases h
variable {ty:Nat}
theorem Zc7 (hn:AA P ty=some n) (hz:En P ty=some z) (ho:o.op=.alloc ty)
 (h:YY ty n z t s=.ok v s'):Fresh P γ w ρ o s v s':=by
 cases h
 obtain ⟨i,zv,hi,hzz,ha⟩:=Ji hz
 obtain ⟨h1,h2⟩:=GC (γ:=γ) ha
 refine ⟨.row ty z,fun r=>.ptr r 0,.cells zv.cells ty,zv.cells.size,n,.pointer (some ⟨w.heap.size,0,none⟩),rfl,rfl,?_,fun γ' r hle hr=>⟨OQ hn h1 h2 hle,.ptr r 0 _ hr⟩⟩
 simp [execOp,ho,Instr.alloc,GZ hi hzz,newVar,newRow]
theorem Zd2 {a:AO}(hn:AA P ty=some (n+1)) (hx:Ai x=some a) (ho:o.op=.box ty x) (he:Evs γ t ρ [x])
 (h:Zv ty (n+1) a t s=.ok v s'):Fresh P γ w ρ o s v s':=by
 obtain ⟨u,hu,h⟩:=AH h
 obtain ⟨hl,h⟩:=BF h
 obtain ⟨rfl,rfl⟩:=A0 h
 have hv:=he x (by simp) a u hx hu
 obtain ⟨h1,h2⟩:=QR hv hl
 refine ⟨.row ty (cellsOf u),fun r=>.ptr r 0,.cells (ρ x).cells ty,(ρ x).cells.size,n+1,.pointer (some ⟨w.heap.size,0,none⟩),rfl,rfl,?_,fun γ' r hle hr=>⟨OQ hn h1 h2 hle,.ptr r 0 _ hr⟩⟩
 simp [execOp,ho,Instr.box,newVar,newRow]
end
end Go.AM
namespace Go.AM
section
variable {P:Program}{γ:Gam}{s:St}{w:World}{t:AT}{ρ:Operand->Value}
theorem Wy:∀ (vs:List Value) (off:Nat) (cells:Array Value) (k:Nat),off+k+vs.length≤cells.size->
 (vs.zipIdx k).foldl (fun (cs:Array Value) (x:Value×Nat)=>cs.setIfInBounds (off+x.2) x.1) cells=(cells.toList.take (off+k)++vs++cells.toList.drop (off+k+vs.length)).toArray
 | [],off,cells,k,_=>by simp
 | v::vs,off,cells,k,h=>by
  simp only [List.zipIdx_cons,List.foldl_cons]
  rw [Wy vs off _ (k+1) (by simp at h ⊢;omega)]
  congr 1
  simp only [Zqd] at h
  apply List.ext_getElem?
  intro i
  simp only [Array.toList_setIfInBounds]
  by_cases h1:i<off+k
  ·rw [List.append_assoc,List.append_assoc,Zp3 (by simp;omega),Zp3 (by simp;omega),Zqw,Zqw,Zpn (by omega),Zpn h1,List.getElem?_set]
   rw [Zpr (by omega)]
  ·by_cases h2:i=off+k
   ·subst h2
    rw [List.append_assoc,Zp3 (by simp;omega),Zqw,Zpn (by omega),List.getElem?_set]
    rw [List.append_assoc,Zqe (by simp;omega),Zpn rfl]
    simp only [Zp9,Zrk]
    rw [Nat.min_eq_left (by omega),Zpn (by omega)]
    simp
   ·by_cases h3:i<off+k+1+vs.length
    ·rw [List.append_assoc,Zqe (by simp;omega),Zp3 (by simp;omega)]
     rw [List.append_assoc,Zqe (by simp;omega),Zp3 (by simp;omega)]
     simp only [Zp9,List.length_set,Zrk]
     rw [Nat.min_eq_left (by omega),Nat.min_eq_left (by omega),show i-(off+k)=(i-(off+(k+1)))+1 by omega]
     simp
    ·rw [Zqe (by simp;omega),Zqe (by simp;omega),Zpu,Zpu,List.getElem?_set]
     simp only [Zpx,Zp9,List.length_set,Zrk,Zqd]
     rw [Zpr (by omega)]
     congr 1
     omega
theorem QQ (place:Nat->Option (Nat×Nat)) (ps:List (Nat×Operand)):∀ (as:List (Nat×Nat×AO)) (z z':List AV) (zv:Array Value),
 (∀ x ∈ ps.map (·.2),∀ a v,Ai x=some a->ev a t=.some v->VR γ v (ρ x))->
 All2 (fun (p:Nat×Operand) (q:Nat×Nat×AO)=>Ai p.2=some q.2.2∧place p.1=some (q.1,q.2.1)∧1≤q.2.1) ps as->
 fill t as z=some z'->All2 (VR γ) z zv.toList->(∀ v ∈ zv.toList,v.oneCell'=true)->
 ∃ zv':Array Value,Instr.fill place zv (ps.map fun (p:Nat×Operand)=>(p.1,ρ p.2))=some zv'∧All2 (VR γ) z' zv'.toList∧(∀ v ∈ zv'.toList,v.oneCell'=true):=by
 induction ps with
 | nil=>intro as z z' zv _ ha hf hz h1;cases ha;cases hf;exact ⟨zv,rfl,hz,h1⟩
 | cons p ps ih=>
  intro as z z' zv hev ha hf hz h1
  cases ha with
  | @cons _ q _ qs hq hqs=>
   obtain ⟨hq1,hq2,hq3⟩:=hq
   change (OV.rec none (fun v=>Bool.rec none (Option.rec none (fun z'=>fill t qs z') (E5 (cellsOf v) q.1 z)) (Nat.beq (A7 (cellsOf v)) q.2.1)) (ev q.2.2 t):Option (List AV))=some z' at hf
   cases hv:ev q.2.2 t with
   | none=>rw [hv] at hf;cases hf
   | some v=>
    rw [hv] at hf
    dsimp only at hf
    cases hb:Nat.beq (A7 (cellsOf v)) q.2.1 with
    | false=>rw [hb] at hf;cases hf
    | true=>
     rw [hb] at hf
     dsimp only at hf
     cases hu:E5 (cellsOf v) q.1 z with
     | none=>rw [hu] at hf;cases hf
     | some z1=>
      rw [hu] at hf
      dsimp only at hf
      have hvr:=hev p.2 (by simp) _ _ hq1 hv
      obtain ⟨n,hn⟩:∃ n,q.2.1=n+1:=⟨q.2.1-1,by omega⟩
      obtain ⟨c1,c2⟩:=QR (n:=n) hvr (by rw [← hn];exact hb)
      obtain ⟨e1,hle⟩:=VT _ _ hu
      have hlen:=c1.length
      have hl2:(cellsOf v).length=q.2.1:=by have:=Zpp hb;rwa [CY] at this
      have hzl:=hz.length
      simp only [Zrk] at hlen hzl
      have hfold:=Wy (ρ p.2).cells.toList q.1 zv 0 (by simp;omega)
      obtain ⟨zv',r1,r2,r3⟩:=ih qs z1 z' (zv.toList.take q.1++(ρ p.2).cells.toList++zv.toList.drop (q.1+(ρ p.2).cells.toList.length)).toArray
       (fun x hx=>hev x (by simp at hx ⊢;exact .inr hx)) hqs hf
       (by subst e1;show All2 _ _ (_++_++_);rw [← c1.length];exact ((hz.take _).append c1).append (hz.drop _))
       (by
         intro u hu
         simp only [Zqb] at hu
         rcases hu with (hu|hu)|hu
         ·exact h1 u (Zqq hu)
         ·exact c2 u hu
         ·exact h1 u (Zqv hu))
      refine ⟨zv',?_,r2,r3⟩
      simp only [Zqz,Instr.fill,hq2]
      rw [Zpr (by simp;omega)]
      rw [← r1]
      congr 1
      have hz0:(ρ p.2).cells.zipIdx=(((ρ p.2).cells.toList.zipIdx 0).toArray):=by
       apply Array.ext';simp
      rw [hz0,List.foldl_toArray]
      simpa using hfold
theorem UT {fs:Array Field}:∀ {ps:List (Nat×Operand)}{as:List (Nat×Nat×AO)},M5 P fs ps=some as->
 All2 (fun (p:Nat×Operand) (q:Nat×Nat×AO)=>Ai p.2=some q.2.2∧(∃ f,fs[p.1]?=some f∧q.1=f.offset∧AA P f.type=some q.2.1)∧1≤q.2.1) ps as
 | [],as,h=>by cases h;exact .nil
 | (i,x)::l,as,h=>by
  simp only [M5] at h
  split at h
  ·rename_i f a r h1 h2 h3
   split at h
   ·rename_i n h4
    cases h
    exact .cons ⟨h2,⟨f,h1,rfl,h4⟩,by simp⟩ (UT h3)
   ·cases h
  ·cases h
theorem QL {es:Nat}(hes:1≤es):∀ {ps:List (Nat×Operand)}{as:List (Nat×Nat×AO)},J2 es ps=some as->
 All2 (fun (p:Nat×Operand) (q:Nat×Nat×AO)=>Ai p.2=some q.2.2∧some (p.1*es,es)=some (q.1,q.2.1)∧1≤q.2.1) ps as
 | [],as,h=>by cases h;exact .nil
 | (i,x)::l,as,h=>by
  simp only [J2] at h
  split at h
  ·rename_i a r h1 h2
   cases h
   exact .cons ⟨h1,rfl,hes⟩ (QL hes h2)
  ·cases h
theorem Za4 {fs:List Field}:∀ (w:World),(∀ f ∈ fs,∃ n,AA P f.type=some n)->
 (fs.mapM (m:=Sem) fun f=>do pure (f.offset,← Go.sizeOf f.type)).run P w=.ok (fs.map fun f=>(f.offset,(AA P f.type).getD 0)) w:=by
 induction fs with
 | nil=>intro w _;simp
 | cons f fs ih=>
  intro w h
  obtain ⟨n,hn⟩:=h f (by simp)
  simp only [List.mapM_cons,Zpt,Zpz,Zpm,CB hn,ih w (fun g hg=>h g (by simp [hg])),hn,Zqz,Option.getD_some]
variable {o:Oper}{ty:Nat}{parts:Array (Nat×Operand)}{z:List AV}{as:List (Nat×Nat×AO)}{v:AV}{s':St}
theorem UM (hs:Sim P γ s w) (hz:En P ty=some z)
 (hu:(∃ fs,P.underlying ty=some (.struct fs)∧(∀ f ∈ fs.toList,∃ n,AA P f.type=some n)∧M5 P fs parts.toList=some as)∨
   (∃ n e m,P.underlying ty=some (.array n e)∧AA P e=some (m+1)∧J2 (m+1) parts.toList=some as))
 (ho:o.op=.build ty parts) (he:Evs γ t ρ (parts.toList.map (·.2))) (h:Ya z as t s=.ok v s'):OpOk P γ s w ρ o v s':=by
 obtain ⟨z',hf,h⟩:=AJ h
 obtain ⟨rfl,rfl⟩:=A0 h
 obtain ⟨i,zv,hi,hzz,ha⟩:=Ji hz
 obtain ⟨h1,h2⟩:=GC (γ:=γ) ha
 rcases hu with ⟨fs,hu,hsz,hp⟩|⟨n,e,m,hu,hm,hp⟩
 ·have hall:=UT hp
  obtain ⟨zv',r1,r2,r3⟩:=QQ (γ:=γ) (t:=t) (ρ:=ρ) (fun i=>(fs.map fun f=>(f.offset,(AA P f.type).getD 0))[i]?) parts.toList as z z' zv.cells he
   (hall.imp fun p q ⟨a,⟨f,b1,b2,b3⟩,c⟩=>⟨a,by simp [b1,b2,b3],c⟩) hf h1 h2
  refine Ay hs (.agg zv') ?_ (.agg _ _ r2 r3)
  have hpl:(fs.mapM (m:=Sem) fun f=>do pure (f.offset,← Go.sizeOf f.type)).run P w=.ok (fs.map fun f=>(f.offset,(AA P f.type).getD 0)) w:=by
   rw [Array.mapM_eq_mapM_toList]
   have:=Za4 (P:=P) (fs:=fs.toList) w hsz
   simp only [map_eq_pure_bind,Zpt,this,Zpm,Zpz]
   congr 1
   apply Array.ext';simp
  simp only [execOp,ho,Instr.build,Zpt,GZ hi hzz,Zp1 hu,Zpm,hpl,Zpz,Array.toList_map,r1]
 ·have hall:=QL (Nat.le_add_left 1 m) hp
  obtain ⟨zv',r1,r2,r3⟩:=QQ (γ:=γ) (t:=t) (ρ:=ρ) (fun i=>some (i*(m+1),m+1)) parts.toList as z z' zv.cells he hall hf h1 h2
  refine Ay hs (.agg zv') ?_ (.agg _ _ r2 r3)
  simp only [execOp,ho,Instr.build,Zpt,GZ hi hzz,Zp1 hu,Zpm,CB hm,Zpz,Array.toList_map,r1]
theorem Ir (P:Program) (w:World) (o:Obj):(newObj o).run P w=.ok w.heap.size (w.alloc o):=rfl
theorem UF (z:List AV):∀ n,(FF z n).length=n*z.length
 | 0=>by simp [FF]
 | n+1=>by simp [FF,UF z n,Nat.add_mul];omega
theorem Ku {zc:Array Value}(h1:All2 (VR γ) z zc.toList) (h2:∀ v ∈ zc.toList,v.oneCell'=true) (hpos:1≤zc.size):∀ n,
 All2 (VR γ) (FF z n) ((Array.range (n*zc.size)).map (fun i=>zc[i % zc.size]!)).toList∧∀ v ∈ ((Array.range (n*zc.size)).map (fun i=>zc[i % zc.size]!)).toList,v.oneCell'=true:=by
 intro n
 have hl:z.length=zc.size:=by simpa using h1.length
 have key:∀ n i,(FF z n)[i]?=if i<n*z.length then z[i % z.length]? else none:=by
  intro n
  induction n with
  | zero=>intro i;simp [FF]
  | succ n ih=>
   intro i
   simp only [FF]
   by_cases hi:i<z.length
   ·rw [Zp3 hi,Zpn (by rw [Nat.add_mul];omega),Zrf hi]
   ·rw [Zqe (by omega),ih]
    by_cases hi2:i<(n+1)*z.length
    ·rw [Zpn (by rw [Nat.add_mul] at hi2;omega),Zpn hi2]
     rw [Nat.mod_eq_sub_mod (a:=i) (by omega)]
    ·rw [Zpr (by rw [Nat.add_mul] at hi2;omega),Zpr hi2]
 refine ⟨EB (by simp [UF,hl]) ?_,?_⟩
 ·intro i a b ha hb
  rw [key] at ha
  split at ha
  ·rename_i hi
   obtain ⟨b',hb',hR⟩:=h1.get ha
   simp only [Array.toList_map,Array.toList_range,Zqi] at hb
   rw [List.getElem?_range (by rw [← hl];exact hi)] at hb
   simp only [Option.map_some,Option.some.injEq] at hb
   subst hb
   rw [← hl]
   have hlt:i % z.length<zc.size:=by rw [← hl];exact Nat.mod_lt _ (by omega)
   rw [getElem!_pos zc (i % z.length) hlt]
   have:zc[i % z.length]?=some b':=by simpa using hb'
   rw [Array.getElem?_eq_getElem hlt] at this
   cases this;exact hR
  ·cases ha
 ·intro v hv
  simp only [Array.toList_map,Array.toList_range,Zqj,List.mem_range] at hv
  obtain ⟨i,hi,rfl⟩:=hv
  have hlt:i % zc.size<zc.size:=Nat.mod_lt _ (by omega)
  rw [getElem!_pos zc (i % zc.size) hlt]
  exact h2 _ (by simp)
theorem Zd1 {e m n:Nat}(hu:P.underlying ty=some (.slice e))
 (hm:AA P e=some m) (hz:En P e=some z) (h1m:1≤m) (hzl:z.length=m) (hn:n*m≤16777216) (hp:J2 m parts.toList=some as)
 (ho:o.op=.buildSlice ty n parts) (he:Evs γ t ρ (parts.toList.map (·.2))) (h:Zu e m n (FF z n) as t s=.ok v s'):Fresh P γ w ρ o s v s':=by
 obtain ⟨z',hf,h⟩:=AJ h
 obtain ⟨rfl,rfl⟩:=A0 h
 obtain ⟨i,zv,hi,hzz,ha⟩:=Ji hz
 obtain ⟨h1,h2⟩:=GC (γ:=γ) ha
 have hzs:zv.cells.size=m:=by rw [← hzl];simpa using h1.length.symm
 obtain ⟨y1,y2⟩:=Ku h1 h2 (by omega) n
 have hall:=QL h1m hp
 obtain ⟨zv',r1,r2,r3⟩:=QQ (γ:=γ) (t:=t) (ρ:=ρ) (fun i=>some (i*m,m)) parts.toList as _ z' _ he hall hf y1 y2
 refine ⟨.row e z',fun r=>.sl r 0 n (some n),.cells zv' e,zv'.size,m,.slice (some ⟨w.heap.size,0,none⟩) n n,rfl,rfl,?_,fun γ' r hle hr=>⟨OQ hm r2 r3 hle,.sl r 0 n n _ hr (Zp4 _)⟩⟩
 simp only [execOp,ho,Instr.buildSlice,Zpt,Zp1 hu,Zpm,CB hm]
 rw [Zpr (by omega)]
 by_cases h0:n*m=0
 ·have hrow:(Array.range (n*m)).map (fun x=>(#[]:Array Value)[x % (#[]:Array Value).size]!)=(Array.range (n*zv.cells.size)).map (fun i=>zv.cells[i % zv.cells.size]!):=by
   rw [hzs,h0];simp
  simp only [Zpn h0,Zpt,Zpz,Zpm,hrow,Array.toList_map,r1,newRow,Ir]
 ·have hrow:(Array.range (n*m)).map (fun x=>zv.cells[x % zv.cells.size]!)=(Array.range (n*zv.cells.size)).map (fun i=>zv.cells[i % zv.cells.size]!):=by
   rw [hzs]
  simp only [Zpr h0,Zpt,Zpz,GZ hi hzz,Zpm,hrow,Array.toList_map,r1,newRow,Ir]
end
end Go.AM
