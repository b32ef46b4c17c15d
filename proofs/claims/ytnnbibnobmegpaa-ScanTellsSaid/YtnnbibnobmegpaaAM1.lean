/-
 Functions of the program as the abstract machine reads them, and what is stated of them, checked by the kernel. No conditions.
-/
import GoSem.Dispatch
import Derived.Laws.AppendOwn
import Derived.Laws.CopyRow
import Derived.Laws.Cells
set_option linter.unusedVariables false
set_option linter.unusedSimpArgs false
namespace Go.AM
noncomputable section
inductive AV where
 | bool (b:Bool)|int (k:IntKind) (n:Int)|str (l:List Nat)
 | ptr (r o:Nat)|nilp
 | sl (r o len:Nat) (cap:Option Nat)|nils|es
 | map (r:Nat)|nilm
 | fn (f:Nat) (first cap:List AV)|yld (l:Nat)|nilf
 | iface (t:Nat) (v:AV)|nili
 | agg (l:List AV)|tup (l:List AV)
 | any
 | fz (n:Nat) (cap:Option Nat) (l:List AV)|fp (l:List AV)
inductive AO where
 | t (n:Nat)|c (v:AV)
inductive AOp where
 | mv (x:AO)
 | pick (c a b:AO)
 | new (elem es:Nat) (z:List AV)
 | box (elem n:Nat) (x:AO)
 | build (z:List AV) (ps:List (Nat×Nat×AO))
 | bsl (elem es len:Nat) (z:List AV) (ps:List (Nat×Nat×AO))
 | ld1 (x:AO)|ldn (n:Nat) (x:AO)
 | st (n:Nat) (a x:AO)
 | nilck (x:AO)
 | bin (op:BinOp) (x y:AO)
 | eqb (kd:Nat) (neg:Bool) (x y:AO)
 | eqf (ks:List Nat) (neg:Bool) (x y:AO)
 | un (op:UnOp) (x:AO)
 | cvi (k:IntKind) (x:AO)
 | b2s (x:AO)
 | mkfn (f:Nat) (first cap:List AO)
 | mks (elem es:Nat) (z:List AV) (l c:AO)
 | slc (es:Nat) (x:AO) (lo hi mx:Option AO)
 | sla (es n:Nat) (x:AO) (lo hi mx:Option AO)
 | fa (off:Nat) (x:AO)
 | fld1 (off:Nat) (x:AO)
 | fldn (off n:Nat) (x:AO)
 | ixs (es:Nat) (x i:AO)
 | ixa (len es:Nat) (x i:AO)
 | ixv (len:Nat) (x i:AO)
 | ext (x:AO) (i:Nat)
 | len (x:AO)|lenm (x:AO)|alen (n:Nat)
 | mn (isMax:Bool) (xs:List AO)
 | app (elem es:Nat) (s x:AO)
 | copy (es:Nat) (d s:AO)
 | call (f:AO) (args:List AO)
 | scall (f:Nat) (args:List AO)
 | mkmap
 | mset (m k v:AO)
 | mget (z:AV) (ok:Bool) (m k:AO)
 | mdel (m k:AO)
 | clr (z:List AV) (x:AO)
 | capo (x:AO)
 | app0 (elem es:Nat) (z:List AV) (s k:AO)
 | msetp (m k v:AO)
 | rngm (x:AO)|nextm (x:AO)|entm (x:AO)
 | ixvn (len es:Nat) (x i:AO)
 | mki (ty:Nat) (x:AO)
 | tas (ty:Nat) (z:AV) (x:AO)
 | inv (tb:List (Nat×Nat)) (x:AO) (args:List AO)
 | bad
inductive AOper where
 | mk (dst:Nat) (op:AOp) (guard:Option (Nat×Bool))
 | chk (dst:Nat) (op:AOp) (guard:Option (Nat×Bool))
inductive AC where
 | skip
 | reg (ops:List AOper)
 | seq (a b:AC)
 | cond (c:AO) (a b:AC)
 | block (id:Nat) (b:AC)
 | loop (b:AC)
 | rng (g:AO) (ps:List Nat) (assign body:AC)
 | exit (id:Nat)
 | ret
 | scope (b:AC)
 | lab
inductive ARes where
 | tmp (t:Nat)|cell (t:Nat)|cells (t n:Nat)
inductive AFn where
 | mk (code:AC) (res:List ARes)
inductive T (α:Type) where
 | lf|nd (v:Option α) (l r:T α)
namespace T
def get {α:Type}(t:T α):Nat→Option α:=
 T.rec (motive:=fun _=>Nat→Option α) (fun _=>none)
  (fun v _ _ il ir k=>Nat.rec (motive:=fun _=>Option α) v (fun k _=>Bool.rec (ir (Nat.div k 2)) (il (Nat.div k 2)) (Nat.beq (Nat.mod k 2) 0)) k) t
def sing {α:Type}(x:α):Nat→Nat→T α:=
 Nat.rec (motive:=fun _=>Nat→T α) (fun _=>.lf)
  (fun _ ih k=>Nat.rec (motive:=fun _=>T α) (.nd (some x) .lf .lf) (fun k _=>Bool.rec (.nd none .lf (ih (Nat.div k 2))) (.nd none (ih (Nat.div k 2)) .lf) (Nat.beq (Nat.mod k 2) 0)) k)
def set {α:Type}(t:T α):α→Nat→T α:=
 T.rec (motive:=fun _=>α→Nat→T α) (fun x k=>sing x 64 k)
  (fun v l r il ir x k=>Nat.rec (motive:=fun _=>T α) (.nd (some x) l r) (fun k _=>Bool.rec (.nd v l (ir x (Nat.div k 2))) (.nd v (il x (Nat.div k 2)) r) (Nat.beq (Nat.mod k 2) 0)) k) t
end T
inductive AObj where
 | row (elem:Nat) (cells:List AV)
 | dead
 | map (es:List (AV×AV×Nat)) (clock:Nat)
 | loop (st:LoopState) (pend:Option Nat) (fn:Nat) (tmps:T AV) (ps:List Nat) (assign body:AC) (d:Nat)
 | defd
 | iter (m since:Nat) (seen:List Nat) (last:Nat)
inductive St where
 | mk (next:Nat) (heap:T AObj)
abbrev AT:=T AV
inductive RV where
 | fail|ok (v:AV) (s:St)
inductive OV where
 | none|some (v:AV)
inductive PR where|no|ptr (r o:Nat)|fp (l:List AV)
def Zcp (v:AV):PR:=AV.rec (motive_1:=fun _=>PR) (motive_2:=fun _=>Unit)
 (fun _=>.no) (fun _ _=>.no) (fun _=>.no) (fun r o=>.ptr r o) (.no) (fun _ _ _ _=>.no) (.no) (.no) (fun _=>.no) (.no) (fun _ _ _ _ _=>.no) (fun _=>.no) (.no) (fun _ _ _=>.no) (.no) (fun _ _=>.no) (fun _ _=>.no) (.no) (fun _ _ _ _=>.no) (fun l _=>.fp l)
 () (fun _ _ _ _=>()) v
inductive IR where|no|int (k:IntKind) (n:Int)
def asInt (v:AV):IR:=AV.rec (motive_1:=fun _=>IR) (motive_2:=fun _=>Unit)
 (fun _=>.no) (fun k n=>.int k n) (fun _=>.no) (fun _ _=>.no) (.no) (fun _ _ _ _=>.no) (.no) (.no) (fun _=>.no) (.no) (fun _ _ _ _ _=>.no) (fun _=>.no) (.no) (fun _ _ _=>.no) (.no) (fun _ _=>.no) (fun _ _=>.no) (.no) (fun _ _ _ _=>.no) (fun _ _=>.no)
 () (fun _ _ _ _=>()) v
inductive BR where|no|tt|ff
def asBool (v:AV):BR:=AV.rec (motive_1:=fun _=>BR) (motive_2:=fun _=>Unit)
 (fun b=>Bool.rec .ff .tt b) (fun _ _=>.no) (fun _=>.no) (fun _ _=>.no) (.no) (fun _ _ _ _=>.no) (.no) (.no) (fun _=>.no) (.no) (fun _ _ _ _ _=>.no) (fun _=>.no) (.no) (fun _ _ _=>.no) (.no) (fun _ _=>.no) (fun _ _=>.no) (.no) (fun _ _ _ _=>.no) (fun _ _=>.no)
 () (fun _ _ _ _=>()) v
inductive SR where|no|sl (r o len:Nat) (cap:Option Nat)|nils|es|fz (n:Nat) (cap:Option Nat) (l:List AV)
def Zi8 (v:AV):SR:=AV.rec (motive_1:=fun _=>SR) (motive_2:=fun _=>Unit)
 (fun _=>.no) (fun _ _=>.no) (fun _=>.no) (fun _ _=>.no) (.no) (fun r o n c=>.sl r o n c) (.nils) (.es) (fun _=>.no) (.no) (fun _ _ _ _ _=>.no) (fun _=>.no) (.no) (fun _ _ _=>.no) (.no) (fun _ _=>.no) (fun _ _=>.no) (.no) (fun n c l _=>.fz n c l) (fun _ _=>.no)
 () (fun _ _ _ _=>()) v
inductive LR where|no|l (l:List AV)
def asAgg (v:AV):LR:=AV.rec (motive_1:=fun _=>LR) (motive_2:=fun _=>Unit)
 (fun _=>.no) (fun _ _=>.no) (fun _=>.no) (fun _ _=>.no) (.no) (fun _ _ _ _=>.no) (.no) (.no) (fun _=>.no) (.no) (fun _ _ _ _ _=>.no) (fun _=>.no) (.no) (fun _ _ _=>.no) (.no) (fun l _=>.l l) (fun _ _=>.no) (.no) (fun _ _ _ _=>.no) (fun _ _=>.no)
 () (fun _ _ _ _=>()) v
def Zs7 (v:AV):LR:=AV.rec (motive_1:=fun _=>LR) (motive_2:=fun _=>Unit)
 (fun _=>.no) (fun _ _=>.no) (fun _=>.no) (fun _ _=>.no) (.no) (fun _ _ _ _=>.no) (.no) (.no) (fun _=>.no) (.no) (fun _ _ _ _ _=>.no) (fun _=>.no) (.no) (fun _ _ _=>.no) (.no) (fun _ _=>.no) (fun l _=>.l l) (.no) (fun _ _ _ _=>.no) (fun _ _=>.no)
 () (fun _ _ _ _=>()) v
inductive NR where|no|n (n:Nat)
def Zq6 (v:AV):NR:=AV.rec (motive_1:=fun _=>NR) (motive_2:=fun _=>Unit)
 (fun _=>.no) (fun _ n=>Int.rec (fun n=>.n n) (fun _=>.no) n) (fun _=>.no) (fun _ _=>.no) (.no) (fun _ _ _ _=>.no) (.no) (.no) (fun _=>.no) (.no) (fun _ _ _ _ _=>.no) (fun _=>.no) (.no) (fun _ _ _=>.no) (.no) (fun _ _=>.no) (fun _ _=>.no) (.no) (fun _ _ _ _=>.no) (fun _ _=>.no)
 () (fun _ _ _ _=>()) v
inductive MR where|no|m (r:Nat)|nil
def Zmb (v:AV):MR:=AV.rec (motive_1:=fun _=>MR) (motive_2:=fun _=>Unit)
 (fun _=>.no) (fun _ _=>.no) (fun _=>.no) (fun _ _=>.no) (.no) (fun _ _ _ _=>.no) (.no) (.no) (fun r=>.m r) (.nil) (fun _ _ _ _ _=>.no) (fun _=>.no) (.no) (fun _ _ _=>.no) (.no) (fun _ _=>.no) (fun _ _=>.no) (.no) (fun _ _ _ _=>.no) (fun _ _=>.no)
 () (fun _ _ _ _=>()) v
inductive FR where|no|fn (f:Nat) (first cap:List AV)|yld (l:Nat)
def Zxe (v:AV):FR:=AV.rec (motive_1:=fun _=>FR) (motive_2:=fun _=>Unit)
 (fun _=>.no) (fun _ _=>.no) (fun _=>.no) (fun _ _=>.no) (.no) (fun _ _ _ _=>.no) (.no) (.no) (fun _=>.no) (.no) (fun f a b _ _=>.fn f a b) (fun l=>.yld l) (.no) (fun _ _ _=>.no) (.no) (fun _ _=>.no) (fun _ _=>.no) (.no) (fun _ _ _ _=>.no) (fun _ _=>.no)
 () (fun _ _ _ _=>()) v
inductive XR where|no|x (t:Nat) (v:AV)
def asIf (v:AV):XR:=AV.rec (motive_1:=fun _=>XR) (motive_2:=fun _=>Unit)
 (fun _=>.no) (fun _ _=>.no) (fun _=>.no) (fun _ _=>.no) (.no) (fun _ _ _ _=>.no) (.no) (.no) (fun _=>.no) (.no) (fun _ _ _ _ _=>.no) (fun _=>.no) (.no) (fun t v _=>.x t v) (.no) (fun _ _=>.no) (fun _ _=>.no) (.no) (fun _ _ _ _=>.no) (fun _ _=>.no)
 () (fun _ _ _ _=>()) v
inductive TR0 where|no|s (l:List Nat)
def Zoh (v:AV):TR0:=AV.rec (motive_1:=fun _=>TR0) (motive_2:=fun _=>Unit)
 (fun _=>.no) (fun _ _=>.no) (fun l=>.s l) (fun _ _=>.no) (.no) (fun _ _ _ _=>.no) (.no) (.no) (fun _=>.no) (.no) (fun _ _ _ _ _=>.no) (fun _=>.no) (.no) (fun _ _ _=>.no) (.no) (fun _ _=>.no) (fun _ _=>.no) (.no) (fun _ _ _ _=>.no) (fun _ _=>.no)
 () (fun _ _ _ _=>()) v
def cellsOf (v:AV):List AV:=AV.rec (motive_1:=fun _=>List AV) (motive_2:=fun _=>Unit)
 (fun _=>[v]) (fun _ _=>[v]) (fun _=>[v]) (fun _ _=>[v]) ([v]) (fun _ _ _ _=>[v]) ([v]) ([v]) (fun _=>[v]) ([v]) (fun _ _ _ _ _=>[v]) (fun _=>[v]) ([v]) (fun _ _ _=>[v]) ([v]) (fun l _=>l) (fun _ _=>[]) ([v]) (fun _ _ _ _=>[v]) (fun _ _=>[v])
 () (fun _ _ _ _=>()) v
def Zse (v:AV):Bool:=AV.rec (motive_1:=fun _=>Bool) (motive_2:=fun _=>Unit)
 (fun _=>false) (fun _ _=>false) (fun _=>false) (fun _ _=>false) (true) (fun _ _ _ _=>false) (false) (false) (fun _=>false) (false) (fun _ _ _ _ _=>false) (fun _=>false) (true) (fun _ _ _=>false) (true) (fun _ _=>false) (fun _ _=>false) (true) (fun _ _ _ _=>false) (fun _ _=>false)
 () (fun _ _ _ _=>()) v
def Zc8 (v:AV):Bool:=AV.rec (motive_1:=fun _=>Bool) (motive_2:=fun _=>Unit)
 (fun _=>false) (fun _ _=>false) (fun _=>false) (fun _ _=>false) (false) (fun _ _ _ _=>false) (false) (false) (fun _=>false) (false) (fun _ _ _ _ _=>false) (fun _=>false) (false) (fun _ _ _=>false) (false) (fun _ _=>false) (fun _ _=>false) (true) (fun _ _ _ _=>false) (fun _ _=>false)
 () (fun _ _ _ _=>()) v
def Zjw (v:AV):Nat:=AV.rec (motive_1:=fun _=>Nat) (motive_2:=fun _=>Unit)
 (fun _=>0) (fun _ _=>1) (fun _=>2) (fun _ _=>3) (4) (fun _ _ _ _=>5) (6) (7) (fun _=>8) (9) (fun _ _ _ _ _=>10) (fun _=>11) (12) (fun _ _ _=>13) (14) (fun _ _=>15) (fun _ _=>16) (17) (fun _ _ _ _=>18) (fun _ _=>19)
 () (fun _ _ _ _=>()) v
def evT (n:Nat) (t:AT):OV:=Option.rec .none (fun v=>.some v) (t.get n)
def evC (v:AV) (_:AT):OV:=.some v
def ev (x:AO):AT→OV:=AO.rec evT evC x
def wth (x:AO) (t:AT) (k:AV→RV):RV:=OV.rec .fail k (ev x t)
def evs (t:AT) (l:List AO):Option (List AV):=
 List.rec (some []) (fun x _ ih=>OV.rec none (fun v=>Option.rec none (fun vs=>some (v::vs)) ih) (ev x t)) l
def Zim (d:Nat) (v:AV) (t:AT):AT:=Nat.rec t (fun d _=>t.set v d) d
def St.alloc (o:AObj) (s:St):St:=St.rec (fun n h=>.mk (Nat.succ n) (h.set o n)) s
def St.put (r:Nat) (o:AObj) (s:St):St:=St.rec (fun n h=>.mk n (h.set o r)) s
def St.get (r:Nat) (s:St):Option AObj:=St.rec (fun _ h=>h.get r) s
def St.next (s:St):Nat:=St.rec (fun n _=>n) s
def Zd0 {α:Type}(l:List α):Nat:=List.rec 0 (fun _ _ ih=>Nat.succ ih) l
def Zra {α:Type}(l:List α):Nat→Option α:=
 List.rec (motive:=fun _=>Nat→Option α) (fun _=>none) (fun x _ ih n=>Nat.rec (some x) (fun n _=>ih n) n) l
def Zgs {α:Type}(n:Nat):List α→List α:=
 Nat.rec (motive:=fun _=>List α→List α) (fun l=>l) (fun _ ih l=>List.rec [] (fun _ l _=>ih l) l) n
def Zdf {α:Type}(n:Nat):List α→Option (List α):=
 Nat.rec (motive:=fun _=>List α→Option (List α)) (fun _=>some []) (fun _ ih l=>List.rec none (fun x l _=>Option.rec none (fun r=>some (x::r)) (ih l)) l) n
def Zgx {α:Type}(a b:List α):List α:=List.rec b (fun x _ ih=>x::ih) a
def updH (vs:List AV):List AV→Option (List AV):=
 List.rec (motive:=fun _=>List AV→Option (List AV)) (fun l=>some l) (fun v _ ih l=>List.rec none (fun _ l _=>Option.rec none (fun r=>some (v::r)) (ih l)) l) vs
def upd (vs:List AV) (o:Nat):List AV→Option (List AV):=
 Nat.rec (motive:=fun _=>List AV→Option (List AV)) (updH vs) (fun _ ih l=>List.rec none (fun x l _=>Option.rec none (fun r=>some (x::r)) (ih l)) l) o
def rep (z:List AV) (n:Nat):List AV:=Nat.rec [] (fun _ ih=>Zgx z ih) n
inductive RW where|no|row (elem:Nat) (cells:List AV)
def asRow (o:AObj):RW:=AObj.rec (fun e c=>.row e c) .no (fun _ _=>.no) (fun _ _ _ _ _ _ _ _=>.no) .no (fun _ _ _ _=>.no) o
def Zf1 (r:Nat) (s:St):RW:=Option.rec .no asRow (s.get r)
def load1 (r o:Nat) (s:St):Option AV:=RW.rec none (fun _ cs=>Zra cs o) (Zf1 r s)
def load (r o n:Nat) (s:St):Option (List AV):=RW.rec none (fun _ cs=>Zdf n (Zgs o cs)) (Zf1 r s)
def storeAt (r o:Nat) (vs:List AV) (s:St):Option St:=
 RW.rec none (fun e cs=>Option.rec none (fun cs'=>some (s.put r (.row e cs'))) (upd vs o cs)) (Zf1 r s)
def Zyr (a:List Nat):List Nat→Bool:=
 List.rec (motive:=fun _=>List Nat→Bool) (fun b=>List.rec true (fun _ _ _=>false) b) (fun x _ ih b=>List.rec false (fun y b _=>Bool.rec false (ih b) (Nat.beq x y)) b) a
def eqI (a b:Int):Bool:=Int.rec (fun a=>Int.rec (fun b=>Nat.beq a b) (fun _=>false) b) (fun a=>Int.rec (fun _=>false) (fun b=>Nat.beq a b) b) a
def ltI (a b:Int):Bool:=Int.rec (fun a=>Int.rec (fun b=>Nat.blt a b) (fun _=>false) b) (fun a=>Int.rec (fun _=>true) (fun b=>Nat.blt b a) b) a
def Zoy (k:IntKind):Nat:=IntKind.rec 0 1 2 3 4 5 6 7 k
def eqK (a b:IntKind):Bool:=Nat.beq (Zoy a) (Zoy b)
def wrapN (k:IntKind) (m:Nat):Int:=
 IntKind.rec (IntKind.i8.wrap m) (IntKind.i16.wrap m) (IntKind.i32.wrap m) (Bool.rec (IntKind.i64.wrap m) (.ofNat m) (Nat.blt m 9223372036854775808))
  (.ofNat (Nat.mod m 256)) (.ofNat (Nat.mod m 65536)) (.ofNat (Nat.mod m 4294967296)) (.ofNat (Nat.mod m 18446744073709551616)) k
def wrapM (k:IntKind) (m:Nat):Int:=
 Bool.rec (k.wrap (.negSucc m)) (Bool.rec (k.wrap (.negSucc m)) (.negSucc m) (Nat.blt m 9223372036854775808)) (Nat.beq (Zoy k) 3)
def Zhw (k:IntKind) (n:Int):Int:=Int.rec (wrapN k) (wrapM k) n
def addI (a b:Int):Int:=Int.rec (fun x=>Int.rec (fun y=>.ofNat (Nat.add x y)) (fun _=>Int.add a b) b) (fun _=>Int.add a b) a
def mulI (a b:Int):Int:=Int.rec (fun x=>Int.rec (fun y=>.ofNat (Nat.mul x y)) (fun _=>Int.mul a b) b) (fun _=>Int.mul a b) a
def subI (a b:Int):Int:=Int.rec (fun x=>Int.rec (fun y=>Bool.rec (Int.sub a b) (.ofNat (Nat.sub x y)) (Nat.ble y x)) (fun _=>Int.sub a b) b) (fun _=>Int.sub a b) a
def Zma (g:(n:Nat)→BitVec n→BitVec n→BitVec n) (k:IntKind) (a b:Int):Int:=k.wrap (g k.bits (BitVec.ofInt k.bits a) (BitVec.ofInt k.bits b)).toNat
def bitsN (f:Nat→Nat→Nat) (g:(n:Nat)→BitVec n→BitVec n→BitVec n) (k:IntKind) (x y:Nat):Int:=
 IntKind.rec (Zma g .i8 x y) (Zma g .i16 x y) (Zma g .i32 x y) (Zma g .i64 x y) (.ofNat (f (Nat.mod x 256) (Nat.mod y 256))) (Zma g .u16 x y) (.ofNat (f (Nat.mod x 4294967296) (Nat.mod y 4294967296))) (Zma g .u64 x y) k
def Ydn (f:Nat→Nat→Nat) (g:(n:Nat)→BitVec n→BitVec n→BitVec n) (k:IntKind) (a b:Int):Int:=
 Int.rec (fun x=>Int.rec (fun y=>bitsN f g k x y) (fun _=>Zma g k a b) b) (fun _=>Zma g k a b) a
def ar (f:IntKind→Int→Int→Int) (x y:AV):OV:=
 IR.rec .none (fun k a=>IR.rec .none (fun k' b=>Bool.rec .none (.some (.int k (f k a b))) (eqK k k')) (asInt y)) (asInt x)
def cmp (f:Int→Int→Bool) (x y:AV):OV:=
 IR.rec .none (fun k a=>IR.rec .none (fun k' b=>Bool.rec .none (.some (.bool (f a b))) (eqK k k')) (asInt y)) (asInt x)
def strs (f:List Nat→List Nat→AV) (x y:AV):OV:=
 TR0.rec .none (fun a=>TR0.rec .none (fun b=>.some (f a b)) (Zoh y)) (Zoh x)
def orE (x:OV) (y:OV):OV:=OV.rec y (fun v=>.some v) x
def Zz3 (x y:AV):OV:=TR0.rec .none (fun a=>TR0.rec .none (fun b=>Bool.rec .none (.some (.str (Zgx a b))) (Nat.ble (Zd0 a+Zd0 b) 1000000)) (Zoh y)) (Zoh x)
def addA (x y:AV):OV:=orE (ar (fun k a b=>Zhw k (addI a b)) x y) (Zz3 x y)
def subA:AV→AV→OV:=ar (fun k a b=>Zhw k (subI a b))
def mulA:AV→AV→OV:=ar (fun k a b=>Zhw k (mulI a b))
def dvd (f:IntKind→Int→Int→Int) (x y:AV):OV:=
 IR.rec .none (fun k a=>IR.rec .none (fun k' b=>Bool.rec .none (Bool.rec (.some (.int k (f k a b))) .none (eqI b 0)) (eqK k k')) (asInt y)) (asInt x)
def tdivQ (a b:Int):Int:=Int.rec (fun x=>Int.rec (fun y=>.ofNat (Nat.div x y)) (fun _=>a.tdiv b) b) (fun _=>a.tdiv b) a
def tmodQ (a b:Int):Int:=Int.rec (fun x=>Int.rec (fun y=>.ofNat (Nat.mod x y)) (fun _=>a.tmod b) b) (fun _=>a.tmod b) a
def quoA:AV→AV→OV:=dvd (fun k a b=>Zhw k (tdivQ a b))
def remA:AV→AV→OV:=dvd (fun _ a b=>tmodQ a b)
def andA:AV→AV→OV:=ar (Ydn Nat.land (fun _=>BitVec.and))
def orA:AV→AV→OV:=ar (Ydn Nat.lor (fun _=>BitVec.or))
def xorA:AV→AV→OV:=ar (Ydn Nat.xor (fun _=>BitVec.xor))
def eqlA (x y:AV):OV:=orE (cmp eqI x y) (strs (fun a b=>.bool (Zyr a b)) x y)
def neqA (x y:AV):OV:=orE (cmp (fun a b=>!eqI a b) x y) (strs (fun a b=>.bool (!Zyr a b)) x y)
def lssA:AV→AV→OV:=cmp ltI
def leqA:AV→AV→OV:=cmp (fun a b=>!ltI b a)
def gtrA:AV→AV→OV:=cmp (fun a b=>ltI b a)
def geqA:AV→AV→OV:=cmp (fun a b=>!ltI a b)
def sh (f:IntKind→Int→Nat→Int) (x y:AV):OV:=
 IR.rec .none (fun k a=>NR.rec .none (fun b=>.some (.int k (f k a b))) (Zq6 y)) (asInt x)
def fdivQ (a:Int) (m:Nat):Int:=Int.rec (fun x=>.ofNat (Nat.div x m)) (fun _=>a.fdiv m) a
def shlA:AV→AV→OV:=sh (fun k a b=>Zhw k (mulI a (.ofNat (Nat.pow 2 (Nat.min b k.bits)))))
def shrA:AV→AV→OV:=sh (fun k a b=>fdivQ a (Nat.pow 2 (Nat.min b k.bits)))
def noA (_ _:AV):OV:=.none
def binA (op:BinOp):AV→AV→OV:=match op with
 | .add=>addA|.sub=>subA|.mul=>mulA|.quo=>quoA|.rem=>remA|.and=>andA|.or=>orA|.xor=>xorA|.andNot=>noA|.shl=>shlA|.shr=>shrA
 | .eql=>eqlA|.neq=>neqA|.lss=>lssA|.leq=>leqA|.gtr=>gtrA|.geq=>geqA
def unA (op:UnOp) (x:AV):OV:=match op with
 | .not=>BR.rec .none (.some (.bool false)) (.some (.bool true)) (asBool x)
 | .neg=>IR.rec .none (fun k n=>.some (.int k (Zhw k (subI 0 n)))) (asInt x)
 | .xor=>IR.rec .none (fun k n=>.some (.int k (Ydn Nat.xor (fun _=>BitVec.xor) k (if k.signed then -1 else k.max) n))) (asInt x)
 | _=>.none
def eqbA (kd:Nat) (x y:AV):Option Bool:=match kd,x,y with
 | 0,.bool a,.bool b=>some (a == b)
 | 1,.nilp,.nilp=>some true
 | 1,.nilp,.ptr ..=>some false
 | 1,.ptr ..,.nilp=>some false
 | 1,.nilp,.fp ..=>some false
 | 1,.fp ..,.nilp=>some false
 | 2,.nils,.nils=>some true
 | 2,.nils,.sl ..=>some false
 | 2,.sl ..,.nils=>some false
 | 2,.nils,.es=>some false
 | 2,.es,.nils=>some false
 | 2,.nils,.fz ..=>some false
 | 2,.fz ..,.nils=>some false
 | 3,.nili,.iface ..=>some false
 | 3,.iface ..,.nili=>some false
 | 4,.nilf,.nilf=>some true
 | 4,.nilf,.fn ..=>some false
 | 4,.fn ..,.nilf=>some false
 | _,_,_=>none
def eq1 (kd:Nat) (x y:AV):Option Bool:=match kd,x,y with
 | 0,.int k a,.int k' b=>cond (eqK k k') (some (eqI a b)) none
 | 1,.bool a,.bool b=>some (a == b)
 | 2,.str a,.str b=>some (Zyr a b)
 | _,_,_=>none
def Zyq:List Nat→List AV→List AV→Option Bool
 | [],[],[]=>some true
 | k::ks,x::xs,y::ys=>match eq1 k x y with
  | some true=>Zyq ks xs ys
  | some false=>some false
  | none=>none
 | _,_,_=>none
def fill (t:AT) (ps:List (Nat×Nat×AO)):List AV→Option (List AV):=
 List.rec (motive:=fun _=>List AV→Option (List AV)) (fun z=>some z)
  (fun p _ ih z=>OV.rec none (fun v=>Bool.rec none (Option.rec none (fun z'=>ih z') (upd (cellsOf v) p.1 z)) (Nat.beq (Zd0 (cellsOf v)) p.2.1)) (ev p.2.2 t)) ps
def Yif (x:OV):NR:=OV.rec .no Zq6 x
def Zeg (t:AT) (x:Option AO) (d:Nat):NR:=Option.rec (.n d) (fun x=>Yif (ev x t)) x
def Zbm (l:List AV):Option (List Nat):=
 List.rec (some []) (fun v _ ih=>IR.rec none (fun k n=>Bool.rec none (Int.rec (fun a=>Bool.rec none (Option.rec none (fun r=>some (a::r)) ih) (Nat.blt a 256)) (fun _=>none) n) (Nat.beq (Zoy k) 4)) (asInt v)) l
def ofBytes (l:List Nat):List AV:=List.rec [] (fun b _ ih=>AV.int .u8 (.ofNat b)::ih) l
def mm (mx:Bool) (l:List AV):AV→OV:=
 List.rec (motive:=fun _=>AV→OV) (fun x=>.some x) (fun y _ ih x=>IR.rec .none (fun k a=>IR.rec .none (fun k' b=>Bool.rec .none (ih (.int k (Bool.rec a b (Bool.rec (ltI b a) (ltI a b) mx)))) (eqK k k')) (asInt y)) (asInt x)) l
def Zsp (k k':AV):Option Bool:=match k,k' with
 | .int a x,.int b y=>cond (eqK a b) (some (eqI x y)) none
 | _,_=>none
def Zo0 (k:AV):List (AV×AV×Nat)→Option (Option AV)
 | []=>some none
 | (k',v,_)::l=>match Zsp k k' with
  | some true=>some (some v)
  | some false=>Zo0 k l
  | none=>none
def setK (k v:AV):List (AV×AV×Nat)→List (AV×AV×Nat)
 | []=>[]
 | (k',v',b)::l=>match Zsp k k' with
  | some true=>(k,v,b)::l
  | _=>(k',v',b)::setK k v l
def Yeo (k:AV):List (AV×AV×Nat)→List (AV×AV×Nat)
 | []=>[]
 | (k',v',b)::l=>match Zsp k k' with
  | some true=>l
  | _=>(k',v',b)::Yeo k l
def Zn1 (o:AObj) (v:Nat→AV) (s:St):RV:=.ok (v s.next) (s.alloc o)
def ret (x:OV) (s:St):RV:=OV.rec .fail (fun v=>.ok v s) x
def retO (x:Option AV) (s:St):RV:=Option.rec .fail (fun v=>.ok v s) x
def Yei (v:AV) (x:Option St):RV:=Option.rec .fail (fun s=>.ok v s) x
def gd (b:Bool) (r:RV):RV:=Bool.rec .fail r b
abbrev OpR:=AT→St→RV
def mvA (x:AO):OpR:=fun t s=>wth x t fun v=>.ok v s
def pickA (c a b:AO):OpR:=fun t s=>wth c t fun c=>BR.rec .fail (ret (ev a t) s) (ret (ev b t) s) (asBool c)
def newA (e es:Nat) (z:List AV):OpR:=fun _ s=>Zn1 (.row e z) (fun r=>.ptr r 0) s
def boxA (e n:Nat) (x:AO):OpR:=fun t s=>wth x t fun v=>gd (Nat.beq (Zd0 (cellsOf v)) n) (Zn1 (.row e (cellsOf v)) (fun r=>.ptr r 0) s)
def Yi3 (z:List AV) (ps:List (Nat×Nat×AO)):OpR:=fun t s=>Option.rec .fail (fun cs=>.ok (.agg cs) s) (fill t ps z)
def bslA (e es n:Nat) (z:List AV) (ps:List (Nat×Nat×AO)):OpR:=fun t s=>Option.rec .fail (fun cs=>Zn1 (.row e cs) (fun r=>.sl r 0 n (some n)) s) (fill t ps z)
def ld1A (x:AO):OpR:=fun t s=>wth x t fun v=>PR.rec .fail (fun r o=>retO (load1 r o s) s) (fun l=>retO (Zra l 0) s) (Zcp v)
def ldnA (n:Nat) (x:AO):OpR:=fun t s=>wth x t fun v=>PR.rec .fail (fun r o=>Option.rec .fail (fun cs=>.ok (.agg cs) s) (load r o n s)) (fun l=>Option.rec .fail (fun cs=>.ok (.agg cs) s) (Zdf n l)) (Zcp v)
def stA (n:Nat) (a x:AO):OpR:=fun t s=>wth a t fun p=>wth x t fun v=>PR.rec .fail (fun r o=>gd (Nat.beq (Zd0 (cellsOf v)) n) (Yei (.tup []) (storeAt r o (cellsOf v) s))) (fun _=>.fail) (Zcp p)
def Yie (x:AO):OpR:=fun t s=>wth x t fun v=>Bool.rec (.ok v s) .fail (Zse v)
def bin'A (op:BinOp) (x y:AO):OpR:=fun t s=>wth x t fun a=>wth y t fun b=>ret (binA op a b) s
def Zwf (neg b:Bool):Bool:=Bool.rec b (!b) neg
def eqb'A (kd:Nat) (neg:Bool) (x y:AO):OpR:=fun t s=>wth x t fun a=>wth y t fun b=>Option.rec .fail (fun c=>.ok (.bool (Zwf neg c)) s) (eqbA kd a b)
def eqf'A (ks:List Nat) (neg:Bool) (x y:AO):OpR:=fun t s=>wth x t fun a=>wth y t fun b=>
 LR.rec .fail (fun a=>LR.rec .fail (fun b=>Option.rec .fail (fun c=>.ok (.bool (Zwf neg c)) s) (Zyq ks a b)) (asAgg b)) (asAgg a)
def un'A (op:UnOp) (x:AO):OpR:=fun t s=>wth x t fun a=>ret (unA op a) s
def cviA (k:IntKind) (x:AO):OpR:=fun t s=>wth x t fun a=>IR.rec .fail (fun _ n=>.ok (.int k (Zhw k n)) s) (asInt a)
def b2sA (x:AO):OpR:=fun t s=>wth x t fun a=>SR.rec .fail (fun r o n _=>Option.rec .fail (fun cs=>Option.rec .fail (fun l=>.ok (.str l) s) (Zbm cs)) (load r o n s)) (.ok (.str []) s) (.ok (.str []) s) (fun n _ l=>Option.rec .fail (fun cs=>Option.rec .fail (fun b=>.ok (.str b) s) (Zbm cs)) (Zdf n l)) (Zi8 a)
def mkfnA (f:Nat) (a b:List AO):OpR:=fun t s=>Option.rec .fail (fun x=>Option.rec .fail (fun y=>.ok (.fn f x y) s) (evs t b)) (evs t a)
def mksA (e es:Nat) (z:List AV) (l c:AO):OpR:=fun t s=>NR.rec .fail (fun l=>NR.rec .fail (fun c=>gd (Nat.ble l c && Nat.ble c 1000000) (Zn1 (.row e (rep z c)) (fun r=>.sl r 0 l (some c)) s)) (Yif (ev c t))) (Yif (ev l t))
def slc1 (es r o n:Nat) (cap:Option Nat) (l h:Nat) (s:St):RV:=
 Option.rec (gd (Nat.ble l h && Nat.ble h n) (Bool.rec (.ok .es s) (.ok (.sl r (o+l*es) (h-l) none) s) (Nat.blt l n)))
  (fun c=>gd (Nat.ble l h && Nat.ble h c) (.ok (.sl r (Bool.rec (o+l*es) o (Nat.beq c l)) (h-l) (some (c-l))) s)) cap
def slc2 (es r o n:Nat) (cap:Option Nat) (l h m:Nat) (s:St):RV:=
 gd (Nat.ble l h && Nat.ble h m && Nat.ble m (Option.rec n (fun c=>c) cap)) (.ok (.sl r (Bool.rec (o+l*es) o (Nat.beq m l)) (h-l) (some (m-l))) s)
def slcF (es n:Nat) (cap:Option Nat) (cs:List AV) (l h:Nat) (s:St):RV:=
 gd (Nat.ble l h && Nat.ble h n && (Nat.beq l 0 || Option.rec true (fun c=>Nat.blt 0 c) cap)) (Bool.rec (.ok .es s) (Option.rec .fail (fun cs'=>.ok (.fz (h-l) (Option.rec none (fun c=>some (c-l)) cap) cs') s) (Zdf (Nat.mul (h-l) es) (Zgs (Nat.mul l es) cs))) (Nat.blt l n))
def slcF3 (es n:Nat) (cs:List AV) (l h m:Nat) (s:St):RV:=
 gd (Nat.ble l h && Nat.ble h m && Nat.ble m n) (Bool.rec (.ok .es s) (Option.rec .fail (fun cs'=>.ok (.fz (h-l) (some (m-l)) cs') s) (Zdf (Nat.mul (h-l) es) (Zgs (Nat.mul l es) cs))) (Nat.blt l m))
def slcA (es:Nat) (x:AO) (lo hi mx:Option AO):OpR:=fun t s=>wth x t fun a=>SR.rec .fail
 (fun r o n cap=>NR.rec .fail (fun l=>NR.rec .fail (fun h=>Option.rec (slc1 es r o n cap l h s) (fun m=>NR.rec .fail (fun m=>slc2 es r o n cap l h m s) (Yif (ev m t))) mx) (Zeg t hi n)) (Zeg t lo 0))
 (NR.rec .fail (fun l=>NR.rec .fail (fun h=>NR.rec .fail (fun m=>gd (Nat.beq (l+h+m) 0) (.ok .nils s)) (Zeg t mx 0)) (Zeg t hi 0)) (Zeg t lo 0))
 (NR.rec .fail (fun l=>NR.rec .fail (fun h=>NR.rec .fail (fun m=>gd (Nat.beq (l+h+m) 0) (.ok .es s)) (Zeg t mx 0)) (Zeg t hi 0)) (Zeg t lo 0))
 (fun n cap cs=>NR.rec .fail (fun l=>NR.rec .fail (fun h=>Option.rec (slcF es n cap cs l h s) (fun m=>NR.rec .fail (fun m=>gd (Option.rec true (fun c=>Nat.blt 0 c) cap) (slcF3 es n cs l h m s)) (Yif (ev m t))) mx) (Zeg t hi n)) (Zeg t lo 0)) (Zi8 a)
def slaA (es n:Nat) (x:AO) (lo hi mx:Option AO):OpR:=fun t s=>wth x t fun a=>PR.rec .fail (fun r o=>
 NR.rec .fail (fun l=>NR.rec .fail (fun h=>NR.rec .fail (fun m=>gd (Nat.ble l h && Nat.ble h m && Nat.ble m n) (.ok (.sl r (Bool.rec (o+l*es) o (Nat.beq m l)) (h-l) (some (m-l))) s)) (Zeg t mx n)) (Zeg t hi n)) (Zeg t lo 0)) (fun _=>.fail) (Zcp a)
def faA (off:Nat) (x:AO):OpR:=fun t s=>wth x t fun a=>PR.rec .fail (fun r o=>.ok (.ptr r (Nat.add o off)) s) (fun l=>.ok (.fp (Zgs off l)) s) (Zcp a)
def fld1A (off:Nat) (x:AO):OpR:=fun t s=>wth x t fun a=>LR.rec .fail (fun l=>retO (Zra l off) s) (asAgg a)
def fldnA (off n:Nat) (x:AO):OpR:=fun t s=>wth x t fun a=>LR.rec .fail (fun l=>Option.rec .fail (fun cs=>.ok (.agg cs) s) (Zdf n (Zgs off l))) (asAgg a)
def ixsA (es:Nat) (x i:AO):OpR:=fun t s=>wth x t fun a=>wth i t fun i=>NR.rec .fail (fun i=>SR.rec .fail (fun r o n _=>gd (Nat.blt i n) (.ok (.ptr r (Nat.add o (Nat.mul i es))) s)) .fail .fail (fun n _ l=>gd (Nat.blt i n) (.ok (.fp (Zgs (Nat.mul i es) l)) s)) (Zi8 a)) (Zq6 i)
def ixaA (n es:Nat) (x i:AO):OpR:=fun t s=>wth x t fun a=>wth i t fun i=>NR.rec .fail (fun i=>PR.rec .fail (fun r o=>gd (Nat.blt i n) (.ok (.ptr r (Nat.add o (Nat.mul i es))) s)) (fun l=>gd (Nat.blt i n) (.ok (.fp (Zgs (Nat.mul i es) l)) s)) (Zcp a)) (Zq6 i)
def ixvA (n:Nat) (x i:AO):OpR:=fun t s=>wth x t fun a=>wth i t fun i=>NR.rec .fail (fun i=>LR.rec .fail (fun l=>gd (Nat.blt i n) (retO (Zra l i) s)) (asAgg a)) (Zq6 i)
def ixvnA (n es:Nat) (x i:AO):OpR:=fun t s=>wth x t fun a=>wth i t fun i=>NR.rec .fail (fun i=>LR.rec .fail (fun l=>gd (Nat.blt i n) (Option.rec .fail (fun cs=>.ok (.agg cs) s) (Zdf es (Zgs (Nat.mul i es) l)))) (asAgg a)) (Zq6 i)
def mkiA (ty:Nat) (x:AO):OpR:=fun t s=>wth x t fun v=>.ok (.iface ty v) s
def tasA (ty:Nat) (z:AV) (x:AO):OpR:=fun t s=>wth x t fun a=>XR.rec .fail (fun t' v=>.ok (.tup (Bool.rec [z,.bool false] [v,.bool true] (Nat.beq t' ty))) s) (asIf a)
def Zuy (tb:List (Nat×Nat)) (k:Nat):Option Nat:=List.rec none (fun p _ ih=>Bool.rec ih (some p.2) (Nat.beq p.1 k)) tb
def extA (x:AO) (i:Nat):OpR:=fun t s=>wth x t fun a=>LR.rec .fail (fun l=>retO (Zra l i) s) (Zs7 a)
def Zml (n:Nat):AV:=.int .i64 (.ofNat n)
def lenA (x:AO):OpR:=fun t s=>wth x t fun a=>SR.rec .fail (fun _ _ n _=>.ok (Zml n) s) (.ok (Zml 0) s) (.ok (Zml 0) s) (fun n _ _=>.ok (Zml n) s) (Zi8 a)
def mapAt (r:Nat) (s:St):Option (List (AV×AV×Nat)×Nat):=Option.rec none (fun o=>AObj.rec (fun _ _=>none) none (fun es c=>some (es,c)) (fun _ _ _ _ _ _ _ _=>none) none (fun _ _ _ _=>none) o) (s.get r)
def lenmA (x:AO):OpR:=fun t s=>wth x t fun a=>MR.rec .fail (fun r=>Option.rec .fail (fun m=>.ok (Zml (Zd0 m.1)) s) (mapAt r s)) (.ok (Zml 0) s) (Zmb a)
def alenA (n:Nat):OpR:=fun _ s=>.ok (Zml n) s
def mnA (m:Bool) (xs:List AO):OpR:=fun t s=>Option.rec .fail (fun l=>List.rec .fail (fun x l _=>ret (mm m l x) s) l) (evs t xs)
def Zgl (es:Nat) (x:AV) (s:St):Option (List AV):=SR.rec none (fun r o n _=>load r o (Nat.mul n es) s) (some []) (some []) (fun n _ l=>Zdf (Nat.mul n es) l) (Zi8 x)
def Ze9 (e n:Nat) (cs:List AV) (s:St):RV:=gd (Nat.ble n 1000000) (Zn1 (.row e cs) (fun r=>.sl r 0 n none) s)
def Zsq (r e:Nat) (s:St):Bool:=RW.rec false (fun e' _=>Nat.beq e' e) (Zf1 r s)
def app1 (e es:Nat) (cs:List AV) (m:Nat) (r o n:Nat) (cap:Option Nat) (s:St):RV:=
 Option.rec .fail (fun old=>
  Option.rec (gd (Nat.beq o 0 && Zsq r e s) (Ze9 e (n+m) (Zgx old cs) (s.put r .dead)))
   (fun c=>Bool.rec (Ze9 e (n+m) (Zgx old cs) s) (Yei (.sl r o (n+m) (some c)) (storeAt r (o+n*es) cs s)) (Nat.ble (n+m) c)) cap) (load r o (Nat.mul n es) s)
def appF (e es:Nat) (cs:List AV) (m n:Nat) (cap:Option Nat) (l:List AV) (s:St):RV:=
 Option.rec .fail (fun c=>gd (Nat.blt 0 c) (Bool.rec (Option.rec .fail (fun old=>Ze9 e (n+m) (Zgx old cs) s) (Zdf (Nat.mul n es) l)) .fail (Nat.ble (n+m) c))) cap
def appA (e es:Nat) (a x:AO):OpR:=fun t s=>wth a t fun a=>wth x t fun x=>Option.rec .fail (fun cs=>
 List.rec (SR.rec .fail (fun r o n c=>.ok (.sl r o n c) s) (.ok .nils s) (.ok .es s) (fun n c l=>.ok (.fz n c l) s) (Zi8 a))
  (fun _ _ _=>SR.rec .fail (fun r o n c=>app1 e es cs (Nat.div (Zd0 cs) es) r o n c s) (Ze9 e (Nat.div (Zd0 cs) es) cs s) .fail (fun n c l=>appF e es cs (Nat.div (Zd0 cs) es) n c l s) (Zi8 a)) cs) (Zgl es x s)
def copyA (es:Nat) (d x:AO):OpR:=fun t s=>wth d t fun d=>wth x t fun x=>
 SR.rec .fail (fun r o n _=>SR.rec .fail (fun r' o' n' _=>Option.rec .fail (fun cs=>Yei (Zml (Nat.min n' n)) (storeAt r o cs s)) (load r' o' (Nat.mul (Nat.min n' n) es) s)) (.ok (Zml 0) s) (.ok (Zml 0) s) (fun n' _ l=>Option.rec .fail (fun cs=>Yei (Zml (Nat.min n' n)) (storeAt r o cs s)) (Zdf (Nat.mul (Nat.min n' n) es) l)) (Zi8 x))
  (SR.rec .fail (fun _ _ _ _=>.ok (Zml 0) s) (.ok (Zml 0) s) (.ok (Zml 0) s) (fun _ _ _=>.ok (Zml 0) s) (Zi8 x)) (SR.rec .fail (fun _ _ _ _=>.ok (Zml 0) s) (.ok (Zml 0) s) (.ok (Zml 0) s) (fun _ _ _=>.ok (Zml 0) s) (Zi8 x)) (fun _ _ _=>.fail) (Zi8 d)
def capA (x:AO):OpR:=fun t s=>wth x t fun a=>SR.rec .fail (fun _ _ _ cap=>Option.rec .fail (fun c=>.ok (Zml c) s) cap) .fail .fail (fun _ cap _=>Option.rec .fail (fun c=>gd (Nat.blt 0 c) (.ok (Zml c) s)) cap) (Zi8 a)
def app0A (e es:Nat) (z:List AV) (a k:AO):OpR:=fun t s=>wth a t fun a=>wth k t fun k=>NR.rec .fail (fun k=>SR.rec .fail (fun r o n cap=>Option.rec .fail (fun old=>
 Option.rec .fail (fun c=>Bool.rec (gd (Nat.blt 0 k) (Ze9 e (n+k) (Zgx old (rep z k)) s)) .fail (Nat.ble (n+k) c)) cap) (load r o (Nat.mul n es) s)) (gd (Nat.beq k 0) (.ok .nils s)) .fail (fun _ _ _=>.fail) (Zi8 a)) (Zq6 k)
def Yih:OpR:=fun _ s=>Zn1 (.map [] 0) .map s
def msetA (m k v:AO):OpR:=fun t s=>wth m t fun m=>wth k t fun k=>wth v t fun v=>MR.rec .fail (fun r=>Option.rec .fail (fun mp=>
 Option.rec .fail (fun f=>Option.rec (.ok (.tup []) (s.put r (.map (Zgx mp.1 [(k,v,mp.2)]) (mp.2+1)))) (fun _=>.ok (.tup []) (s.put r (.map (setK k v mp.1) mp.2))) f) (Zo0 k mp.1)) (mapAt r s)) .fail (Zmb m)
def mgetR (z:AV) (ok:Bool) (f:Option AV) (s:St):RV:=Option.rec (.ok (Bool.rec z (.tup [z,.bool false]) ok) s) (fun v=>.ok (Bool.rec v (.tup [v,.bool true]) ok) s) f
def isIntV (v:AV):Bool:=IR.rec false (fun _ _=>true) (asInt v)
def mgetA (z:AV) (ok:Bool) (m k:AO):OpR:=fun t s=>wth m t fun m=>wth k t fun k=>MR.rec .fail (fun r=>Option.rec .fail (fun mp=>Option.rec .fail (fun f=>mgetR z ok f s) (Zo0 k mp.1)) (mapAt r s)) (mgetR z ok none s) (Zmb m)
def mdelA (m k:AO):OpR:=fun t s=>wth m t fun m=>wth k t fun k=>MR.rec .fail (fun r=>Option.rec .fail (fun mp=>Option.rec .fail (fun _=>.ok (.tup []) (s.put r (.map (Yeo k mp.1) mp.2))) (Zo0 k mp.1)) (mapAt r s)) .fail (Zmb m)
def othK (r o:Nat) (es:List (AV×AV×Nat)):Bool:=
 List.rec true (fun x _ ih=>PR.rec false (fun r' o'=>Bool.rec false (Bool.rec ih false (Nat.beq o o')) (Nat.beq r r')) (fun _=>false) (Zcp x.1)) es
def Yig (m k v:AO):OpR:=fun t s=>wth m t fun m=>wth k t fun k=>wth v t fun v=>MR.rec .fail (fun rm=>Option.rec .fail (fun mp=>
 PR.rec .fail (fun r o=>gd (othK r o mp.1) (.ok (.tup []) (s.put rm (.map (Zgx mp.1 [(k,v,mp.2)]) (mp.2+1))))) (fun _=>.fail) (Zcp k)) (mapAt rm s)) .fail (Zmb m)
def rngmA (x:AO):OpR:=fun t s=>wth x t fun v=>MR.rec .fail (fun r=>Option.rec .fail (fun m=>Zn1 (.iter r m.2 [] m.2) (fun i=>.ptr i 0) s) (mapAt r s)) .fail (Zmb v)
inductive IT where|no|it (m since:Nat) (seen:List Nat) (last:Nat)
def asIter (o:AObj):IT:=AObj.rec (fun _ _=>.no) .no (fun _ _=>.no) (fun _ _ _ _ _ _ _ _=>.no) .no (fun a b c d=>.it a b c d) o
def Zpn (r:Nat) (s:St):IT:=Option.rec .no asIter (s.get r)
def Zyh (l:List Nat):Option Nat:=List.rec none (fun x _ ih=>Option.rec (some x) (fun y=>some y) ih) l
def Zu4 (n:Nat) (es:List (AV×AV×Nat)):Option (AV×AV×Nat):=List.rec none (fun x _ ih=>Bool.rec ih (some x) (Nat.beq x.2.2 n)) es
def entmA (x:AO):OpR:=fun t s=>wth x t fun v=>PR.rec .fail (fun ri o=>gd (Nat.beq o 0) (IT.rec .fail (fun m _ seen last=>Option.rec .fail (fun n=>Option.rec .fail (fun mp=>gd (Nat.beq mp.2 last)
 (Option.rec .fail (fun e=>.ok (.tup [e.1,e.2.1]) s) (Zu4 n mp.1))) (mapAt m s)) (Zyh seen)) (Zpn ri s))) (fun _=>.fail) (Zcp v)
def clrA (z:List AV) (x:AO):OpR:=fun t s=>wth x t fun a=>SR.rec .fail (fun r o n _=>Yei (.tup []) (storeAt r o (rep z n) s)) (.ok (.tup []) s) (.ok (.tup []) s) (fun _ _ _=>.fail) (Zi8 a)
inductive Ex where
 | normal|exit (id:Nat)|ret
inductive R where
 | fail|ok (e:Ex) (t:AT) (s:St) (ds:List Nat)
abbrev Rec:=AC→AT→St→Option Nat→List Nat→R
abbrev Ov:=List AV→St→RV
structure Env where
 G:T AFn
 O:T Ov
 X:T Ov
def Zax (vs:List AV):Nat→AT→AT:=
 List.rec (motive:=fun _=>Nat→AT→AT) (fun _ t=>t) (fun v _ ih i t=>ih (Nat.succ i) (t.set v i)) vs
def res1 (t:AT) (s:St) (x:ARes):Option AV:=ARes.rec (fun i=>t.get i)
 (fun i=>Option.rec none (fun v=>PR.rec none (fun r o=>load1 r o s) (fun _=>none) (Zcp v)) (t.get i))
 (fun i n=>Option.rec none (fun v=>PR.rec none (fun r o=>Option.rec none (fun cs=>some (.agg cs)) (load r o n s)) (fun _=>none) (Zcp v)) (t.get i)) x
def Zpf (t:AT) (s:St) (l:List ARes):Option (List AV):=
 List.rec (some []) (fun x _ ih=>Option.rec none (fun v=>Option.rec none (fun vs=>some (v::vs)) ih) (res1 t s x)) l
def one (l:List AV):AV:=List.rec (.tup []) (fun x xs _=>List.rec x (fun _ _ _=>.tup l) xs) l
def Zzk (ds:List Nat):St→Option St:=
 List.rec (motive:=fun _=>St→Option St) (fun s=>some s) (fun d _ ih s=>Option.rec none (fun o=>AObj.rec (fun _ _=>none) none (fun _ _=>none) (fun _ _ _ _ _ _ _ _=>none) (ih (s.put d .dead)) (fun _ _ _ _=>none) o) (s.get d)) ds
def Zlk (res:List ARes) (r:R):RV:=R.rec .fail (fun x t s ds=>
 Ex.rec (Option.rec .fail (fun s=>Option.rec .fail (fun l=>.ok (one l) s) (Zpf t s res)) (Zzk ds s)) (fun _=>.fail) (Option.rec .fail (fun s=>Option.rec .fail (fun l=>.ok (one l) s) (Zpf t s res)) (Zzk ds s)) x) r
def Zl9 (e:Env) (rec:Rec) (f:Nat) (args:List AV) (s:St):RV:=
 Option.rec .fail (fun af=>AFn.rec (fun code res=>Zlk res (rec code (Zax args 0 .lf) s none [])) af) (e.G.get f)
def Zfl (e:Env) (rec:Rec) (f:Nat) (args:List AV) (s:St):RV:=Option.rec (Zl9 e rec f args s) (fun h=>RV.rec (Zl9 e rec f args s) (fun v s'=>.ok v s') (h args s)) (e.O.get f)
def Zxs (ps:List Nat):List AV→AT→AT:=
 List.rec (motive:=fun _=>List AV→AT→AT) (fun _ t=>t) (fun p _ ih as t=>List.rec t (fun a as _=>ih as (t.set a p)) as) ps
inductive LP where|no|lp (st:LoopState) (pend:Option Nat) (fn:Nat) (tmps:AT) (ps:List Nat) (assign body:AC) (d:Nat)
def asLoop (o:AObj):LP:=AObj.rec (fun _ _=>.no) .no (fun _ _=>.no) (fun a b c d e f g h=>.lp a b c d e f g h) .no (fun _ _ _ _=>.no) o
def Zdq (l:Nat) (s:St):LP:=Option.rec .no asLoop (s.get l)
def Zef (l:Nat) (st:LoopState) (pend:Option Nat) (v:Bool) (s:St):RV:=
 LP.rec .fail (fun _ _ fn tm ps asg body d=>.ok (.bool v) (s.put l (.loop st pend fn tm ps asg body d))) (Zdq l s)
def Zfi (l:Nat) (r:R):RV:=
 R.rec .fail (fun x _ s _=>Ex.rec (Zef l .ready none true s) (fun id=>Zef l .done (some (id+1)) false s) (Zef l .done (some 0) false s) x) r
def Znb (rec:Rec) (l:Nat) (body:AC) (r:R):RV:=
 R.rec .fail (fun x t s ds=>Ex.rec (LP.rec .fail (fun st pend fn tm ps asg b d=>LoopState.rec (Zfi l (rec body t (s.put l (.loop .busy pend fn tm ps asg b d)) (some l) ds)) .fail .fail .fail st) (Zdq l s)) (fun _=>.fail) .fail x) r
def Zlw (rec:Rec) (l:Nat) (args:List AV) (s:St):RV:=
 LP.rec .fail (fun _ _ _ tm ps asg body _=>gd (Nat.beq (Zd0 args) (Zd0 ps)) (Znb rec l body (rec asg (Zxs ps args tm) s (some l) []))) (Zdq l s)
def Zgt (e:Env) (rec:Rec) (f:AV) (args:List AV) (s:St):RV:=
 FR.rec .fail (fun f first cap=>Zfl e rec f (Zgx first (Zgx args cap)) s) (fun l=>Zlw rec l args s) (Zxe f)
def Zpu (e:Env) (rec:Rec) (f:AV) (args:List AV) (s:St):RV:=
 FR.rec .fail (fun f first cap=>Zfl e rec f (Zgx first (Zgx args cap)) s) (fun _=>.fail) (Zxe f)
abbrev OpE:=Env→Rec→AT→St→RV
def scallA (f:Nat) (args:List AO):OpE:=fun e rec t s=>Option.rec .fail (fun vs=>Option.rec (Zfl e rec f vs s) (fun h=>h vs s) (e.X.get f)) (evs t args)
def dcallA (f:AO) (args:List AO):OpE:=fun e rec t s=>wth f t fun fv=>Option.rec .fail (fun vs=>Zgt e rec fv vs s) (evs t args)
def invA (tb:List (Nat×Nat)) (x:AO) (args:List AO):OpE:=fun e rec t s=>wth x t fun a=>Option.rec .fail (fun vs=>XR.rec .fail (fun k v=>Option.rec .fail (fun f=>Zfl e rec f (v::vs) s) (Zuy tb k)) (asIf a)) (evs t args)
def opA (op:AOp):OpE:=AOp.rec (motive:=fun _=>OpE)
 (fun x _ _=>mvA x) (fun a b c _ _=>pickA a b c) (fun a b c _ _=>newA a b c) (fun a b c _ _=>boxA a b c) (fun a b _ _=>Yi3 a b) (fun a b c d e _ _=>bslA a b c d e)
 (fun a _ _=>ld1A a) (fun a b _ _=>ldnA a b) (fun a b c _ _=>stA a b c) (fun a _ _=>Yie a) (fun a b c _ _=>bin'A a b c) (fun a b c d _ _=>eqb'A a b c d) (fun a b c d _ _=>eqf'A a b c d) (fun a b _ _=>un'A a b) (fun a b _ _=>cviA a b) (fun a _ _=>b2sA a)
 (fun a b c _ _=>mkfnA a b c) (fun a b c d e _ _=>mksA a b c d e) (fun a b c d e _ _=>slcA a b c d e) (fun a b c d e f _ _=>slaA a b c d e f) (fun a b _ _=>faA a b) (fun a b _ _=>fld1A a b) (fun a b c _ _=>fldnA a b c)
 (fun a b c _ _=>ixsA a b c) (fun a b c d _ _=>ixaA a b c d) (fun a b c _ _=>ixvA a b c) (fun a b _ _=>extA a b) (fun a _ _=>lenA a) (fun a _ _=>lenmA a) (fun a _ _=>alenA a) (fun a b _ _=>mnA a b)
 (fun a b c d _ _=>appA a b c d) (fun a b c _ _=>copyA a b c) (fun a b=>dcallA a b) (fun a b=>scallA a b) (fun _ _=>Yih) (fun a b c _ _=>msetA a b c) (fun a b c d _ _=>mgetA a b c d)
 (fun a b _ _=>mdelA a b) (fun a b _ _=>clrA a b) (fun a _ _=>capA a) (fun a b c d e _ _=>app0A a b c d e) (fun a b c _ _=>Yig a b c) (fun a _ _=>rngmA a) (fun _ _ _ _ _=>.fail) (fun a _ _=>entmA a) (fun a b c d _ _=>ixvnA a b c d) (fun a b _ _=>mkiA a b) (fun a b c _ _=>tasA a b c) (fun a b c=>invA a b c) (fun _ _ _ _=>.fail) op
def Yg4 (a b:Option Nat):Bool:=Option.rec (Option.rec true (fun _=>false) b) (fun x=>Option.rec false (fun y=>Nat.beq x y) b) a
def Yb3 {α:Type}(l:List α):Bool:=List.rec true (fun _ _ _=>false) l
def eqA (a:AV):AV→Bool:=AV.rec (motive_1:=fun _=>AV→Bool) (motive_2:=fun _=>List AV→Bool)
 (fun x b=>BR.rec false (Bool.rec false true x) (Bool.rec true false x) (asBool b))
 (fun k n b=>IR.rec false (fun k' n'=>Bool.rec false (eqI n n') (eqK k k')) (asInt b))
 (fun l b=>TR0.rec false (fun l'=>Zyr l l') (Zoh b))
 (fun r o b=>PR.rec false (fun r' o'=>Bool.rec false (Nat.beq o o') (Nat.beq r r')) (fun _=>false) (Zcp b))
 (fun b=>Nat.beq (Zjw b) 4)
 (fun r o n c b=>SR.rec false (fun r' o' n' c'=>Bool.rec false (Bool.rec false (Bool.rec false (Yg4 c c') (Nat.beq n n')) (Nat.beq o o')) (Nat.beq r r')) false false (fun _ _ _=>false) (Zi8 b))
 (fun b=>Nat.beq (Zjw b) 6) (fun b=>Nat.beq (Zjw b) 7)
 (fun r b=>MR.rec false (fun r'=>Nat.beq r r') false (Zmb b))
 (fun b=>Nat.beq (Zjw b) 9)
 (fun f _ _ ix iy b=>FR.rec false (fun f' x' y'=>Bool.rec false (Bool.rec false (iy y') (ix x')) (Nat.beq f f')) (fun _=>false) (Zxe b))
 (fun l b=>FR.rec false (fun _ _ _=>false) (fun l'=>Nat.beq l l') (Zxe b)) (fun b=>Nat.beq (Zjw b) 12)
 (fun t _ iv b=>XR.rec false (fun t' v'=>Bool.rec false (iv v') (Nat.beq t t')) (asIf b)) (fun b=>Nat.beq (Zjw b) 14)
 (fun _ il b=>LR.rec false (fun l'=>il l') (asAgg b)) (fun _ il b=>LR.rec false (fun l'=>il l') (Zs7 b)) (fun b=>Nat.beq (Zjw b) 17)
 (fun n c _ il b=>SR.rec false (fun _ _ _ _=>false) false false (fun n' c' l'=>Bool.rec false (Bool.rec false (il l') (Yg4 c c')) (Nat.beq n n')) (Zi8 b))
 (fun _ il b=>PR.rec false (fun _ _=>false) (fun l'=>il l') (Zcp b))
 (fun b=>Yb3 b) (fun _ _ ia il b=>List.rec false (fun y b _=>Bool.rec false (il b) (ia y)) b) a
def Zys (a:List AV):List AV→Bool:=AV.rec_1 (motive_1:=fun _=>AV→Bool) (motive_2:=fun _=>List AV→Bool)
 (fun x b=>BR.rec false (Bool.rec false true x) (Bool.rec true false x) (asBool b))
 (fun k n b=>IR.rec false (fun k' n'=>Bool.rec false (eqI n n') (eqK k k')) (asInt b))
 (fun l b=>TR0.rec false (fun l'=>Zyr l l') (Zoh b))
 (fun r o b=>PR.rec false (fun r' o'=>Bool.rec false (Nat.beq o o') (Nat.beq r r')) (fun _=>false) (Zcp b))
 (fun b=>Nat.beq (Zjw b) 4)
 (fun r o n c b=>SR.rec false (fun r' o' n' c'=>Bool.rec false (Bool.rec false (Bool.rec false (Yg4 c c') (Nat.beq n n')) (Nat.beq o o')) (Nat.beq r r')) false false (fun _ _ _=>false) (Zi8 b))
 (fun b=>Nat.beq (Zjw b) 6) (fun b=>Nat.beq (Zjw b) 7)
 (fun r b=>MR.rec false (fun r'=>Nat.beq r r') false (Zmb b))
 (fun b=>Nat.beq (Zjw b) 9)
 (fun f _ _ ix iy b=>FR.rec false (fun f' x' y'=>Bool.rec false (Bool.rec false (iy y') (ix x')) (Nat.beq f f')) (fun _=>false) (Zxe b))
 (fun l b=>FR.rec false (fun _ _ _=>false) (fun l'=>Nat.beq l l') (Zxe b)) (fun b=>Nat.beq (Zjw b) 12)
 (fun t _ iv b=>XR.rec false (fun t' v'=>Bool.rec false (iv v') (Nat.beq t t')) (asIf b)) (fun b=>Nat.beq (Zjw b) 14)
 (fun _ il b=>LR.rec false (fun l'=>il l') (asAgg b)) (fun _ il b=>LR.rec false (fun l'=>il l') (Zs7 b)) (fun b=>Nat.beq (Zjw b) 17)
 (fun n c _ il b=>SR.rec false (fun _ _ _ _=>false) false false (fun n' c' l'=>Bool.rec false (Bool.rec false (il l') (Yg4 c c')) (Nat.beq n n')) (Zi8 b))
 (fun _ il b=>PR.rec false (fun _ _=>false) (fun l'=>il l') (Zcp b))
 (fun b=>Yb3 b) (fun _ _ ia il b=>List.rec false (fun y b _=>Bool.rec false (il b) (ia y)) b) a
def eqV (a b:AV):Bool:=eqA a b
def Zay (g:Option (Nat×Bool)) (t:AT):Nat:=Option.rec 2 (fun p=>Option.rec 0 (fun v=>BR.rec (Bool.rec 1 0 (Zc8 v)) (Bool.rec 1 2 p.2) (Bool.rec 2 1 p.2) (asBool v)) (t.get p.1)) g
inductive RT where
 | fail|ok (t:AT) (s:St)
def Zdz (e:Env) (rec:Rec) (l:List AOper):AT→St→RT:=
 List.rec (motive:=fun _=>AT→St→RT) (fun t s=>.ok t s)
  (fun o _ ih t s=>AOper.rec (fun dst op g=>Nat.rec .fail (fun w _=>Nat.rec (ih (Zim dst (.tup []) t) s) (fun _ _=>RV.rec .fail (fun v s'=>ih (Zim dst v t) s') (opA op e rec t s)) w) (Zay g t))
    (fun dst op g=>Nat.rec .fail (fun w _=>Nat.rec (ih t s) (fun _ _=>RV.rec .fail (fun v _=>Option.rec .fail (fun v0=>Bool.rec .fail (ih t s) (eqV v v0)) (t.get dst)) (opA op e rec t s)) w) (Zay g t)) o) l
abbrev CR:=Env→Rec→AT→St→Option Nat→List Nat→R
def skipC:CR:=fun _ _ t s _ ds=>.ok .normal t s ds
def regC (ops:List AOper):CR:=fun e rec t s _ ds=>RT.rec .fail (fun t' s'=>.ok .normal t' s' ds) (Zdz e rec ops t s)
def Yh4 (rec:Rec) (b:AC) (rd:Option Nat) (r:R):R:=R.rec .fail (fun x t s ds=>Ex.rec (rec b t s rd ds) (fun id=>.ok (.exit id) t s ds) (.ok .ret t s ds) x) r
def seqC (a b:AC):CR:=fun _ rec t s rd ds=>Yh4 rec b rd (rec a t s rd ds)
def condC (x:AO) (a b:AC):CR:=fun _ rec t s rd ds=>OV.rec .fail (fun v=>BR.rec .fail (rec a t s rd ds) (rec b t s rd ds) (asBool v)) (ev x t)
def Zs4 (id:Nat) (r:R):R:=R.rec .fail (fun x t s ds=>Ex.rec (.ok .normal t s ds) (fun id'=>Bool.rec (.ok (.exit id') t s ds) (.ok .normal t s ds) (Nat.beq id id')) (.ok .ret t s ds) x) r
def blockC (id:Nat) (b:AC):CR:=fun _ rec t s rd ds=>Zs4 id (rec b t s rd ds)
def loopC (b:AC):CR:=fun _ rec t s rd ds=>Yh4 rec (.loop b) rd (rec b t s rd ds)
def Zk1 (l fn:Nat) (tm:AT) (ps:List Nat) (asg body:AC) (d:Nat) (pend:Option Nat) (ds:List Nat) (t:AT) (s:St):R:=
 Option.rec (.ok .normal t (s.put l (.loop .exhausted pend fn tm ps asg body d)) ds) (fun i=>Nat.rec (.ok .ret t (s.put l (.loop .exhausted pend fn tm ps asg body d)) ds) (fun id _=>.ok (.exit id) t (s.put l (.loop .exhausted pend fn tm ps asg body d)) ds) i) pend
def Znd (l:Nat) (ds:List Nat) (t:AT) (s:St):R:=
 LP.rec .fail (fun st pend fn tm ps asg body d=>LoopState.rec (Zk1 l fn tm ps asg body d pend ds t s) .fail (Zk1 l fn tm ps asg body d pend ds t s) (Zk1 l fn tm ps asg body d pend ds t s) st) (Zdq l s)
def Znc (e:Env) (rec:Rec) (gv:AV) (ps:List Nat) (asg body:AC) (t:AT) (d:Nat) (ds:List Nat) (s0:St):R:=
 RV.rec .fail (fun _ s2=>Znd s0.next ds t s2) (Zpu e rec gv [.yld s0.next] (s0.alloc (.loop .ready none 0 t ps asg body d)))
def rngC (g:AO) (ps:List Nat) (asg body:AC):CR:=fun e rec t s rd ds=>OV.rec .fail (fun gv=>
 Option.rec (Znc e rec gv ps asg body t s.next (s.next::ds) (s.alloc .defd)) (fun l=>LP.rec .fail (fun _ _ _ _ _ _ _ d=>Znc e rec gv ps asg body t d ds s) (Zdq l s)) rd) (ev g t)
def scopeC (b:AC):CR:=fun _ rec t s rd ds=>rec b t s rd ds
def exitC (id:Nat):CR:=fun _ _ t s _ ds=>.ok (.exit id) t s ds
def retC:CR:=fun _ _ t s _ ds=>.ok .ret t s ds
def acF (c:AC):CR:=AC.rec (motive:=fun _=>CR) skipC regC (fun a b _ _=>seqC a b) (fun x a b _ _=>condC x a b) (fun i b _=>blockC i b) (fun b _=>loopC b) (fun g ps a b _ _=>rngC g ps a b) exitC retC (fun b _=>scopeC b) skipC c
def exec (e:Env) (n:Nat):Rec:=Nat.rec (motive:=fun _=>Rec) (fun _ _ _ _ _=>.fail) (fun _ rec c=>acF c e rec) n
def Zfr (args:List AV) (s:St):RV:=match args with
 | [a,b]=>SR.rec .fail (fun r o n _=>SR.rec .fail (fun r' o' n' _=>gd (Bool.rec true false (Nat.beq r r'))
  (RW.rec .fail (fun _ _=>RW.rec .fail (fun _ cs=>List.rec .fail (fun _ _ _=>.ok (.bool false) s) cs) (Zf1 r' s)) (Zf1 r s))) .fail .fail (fun _ _ _=>.fail) (Zi8 b)) .fail .fail (fun _ _ _=>.fail) (Zi8 a)
 | _=>.fail
end
end Go.AM
namespace Go.AM
def av1 (v:Value):Option AV:=match v with
 | .bool b=>some (.bool b)
 | .int k n=>some (.int k n)
 | .string s=>some (.str (s.data.toList.map UInt8.toNat))
 | .pointer none=>some .nilp
 | .slice none 0 0=>some .nils
 | .map none=>some .nilm
 | .nilFunc=>some .nilf
 | .nilIface=>some .nili
 | .func (.func f) a b=>match a.toList,b.toList with
  | [],[]=>some (.fn f [] [])
  | _,_=>none
 | _=>none
def avs:List Value→Option (List AV)
 | []=>some []
 | v::l=>match av1 v,avs l with
  | some x,some y=>some (x::y)
  | _,_=>none
def av (v:Value):Option AV:=match v with
 | .agg cs=>(avs cs.toList).map .agg
 | .tuple cs=>(avs cs.toList).map .tup
 | v=>av1 v
def aop (x:Operand):Option AO:=match x with
 | .tmp t=>some (.t t)
 | .const v=>(av v).map .c
 | .func f=>some (.c (.fn f [] []))
 | .global _=>none
def Zy5:List Operand→Option (List AO)
 | []=>some []
 | x::l=>match aop x,Zy5 l with
  | some a,some b=>some (a::b)
  | _,_=>none
def Ztk (x:Option Operand):Option (Option AO):=match x with
 | none=>some none
 | some x=>(aop x).map some
def Zfd (P:Program) (t:TypeId):Option (List AV):=match P.info? t with
 | some i=>match i.zero with
  | some z=>avs z.cells.toList
  | none=>none
 | none=>none
def Zdd (P:Program) (t:TypeId):Option Nat:=(P.info? t).map (·.size)
def Yhn (P:Program) (t:TypeId):Option Nat:=(P.info? t).map (·.bytes)
def Zo5 (P:Program) (t:TypeId):Option Bool:=match P.underlying t with
 | some (.struct _)|some (.array _ _)=>some true
 | some _=>some false
 | none=>none
def Zly (P:Program) (t:TypeId):Option Nat:=match P.underlying t with
 | some (.int _)=>some 0
 | some .bool=>some 1
 | some .string=>some 2
 | _=>none
def Zis (P:Program):List Field→Nat→Option (List Nat)
 | [],_=>some []
 | f :: l, i => if f.name = "_" ∨ f.offset ≠ i then none else match Zly P f.type, Zis P l (i + 1) with
  | some k,some r=>some (k::r)
  | _,_=>none
def Ygy (P:Program) (t:TypeId):Option (List Nat):=match P.underlying t with
 | some (.struct fs)=>if P.stoodInHeld t=false∧P.eqGuardType P.depth t=false then Zis P fs.toList 0 else none
 | some (.array n e)=>if Zdd P e=some 1∧P.eqGuardType P.depth t=false then (Zly P e).map (List.replicate n ·) else none
 | _=>none
def Ydq (P:Program) (t:TypeId):Option Nat:=match P.underlying t with
 | some .bool=>some 0
 | some (.pointer _)=>some 1
 | some (.slice _)=>some 2
 | some (.interface _)=>some 3
 | some (.func ..)=>some 4
 | _=>none
def Zr0 (P:Program) (fs:Array Field):List (Nat×Operand)→Option (List (Nat×Nat×AO))
 | []=>some []
 | (i,x)::l=>match fs[i]?,aop x,Zr0 P fs l with
  | some f,some a,some r=>match Zdd P f.type with
   | some (n+1)=>some ((f.offset,n+1,a)::r)
   | _=>none
  | _,_,_=>none
def Zni (es:Nat):List (Nat×Operand)→Option (List (Nat×Nat×AO))
 | []=>some []
 | (i,x)::l=>match aop x,Zni es l with
  | some a,some r=>some ((i*es,es,a)::r)
  | _,_=>none
def Zzj (z:List AV):Nat→List AV
 | 0=>[]
 | n+1=>z++Zzj z n
def Zfy (P:Program) (b:Builtin) (ts:List TypeId) (args:List Operand):Option AOp:=match b,args,ts with
 | .len,[x],[T]=>match P.underlying T with
  | some (.array n _)=>some (.alen n)
  | some (.slice _)=>(aop x).map .len
  | some (.map _ _)=>(aop x).map .lenm
  | _=>none
 | .min,xs,_=>(Zy5 xs).map (.mn false)
 | .max,xs,_=>(Zy5 xs).map (.mn true)
 | .cap,[x],[T]=>match P.underlying T with
  | some (.slice _)=>(aop x).map .capo
  | _=>none
 | .append,[s,x],[T,U]=>if T≠U then (match P.underlying T,P.underlying U,aop s,aop x with
  | some (.slice e),some (.int _),some s,some x=>match Zdd P e,Yhn P e,Zfd P e with
   | some n,some b,some z=>if 1≤n∧b≤4096∧z.length=n then some (.app0 e n z s x) else none
   | _,_,_=>none
  | _,_,_,_=>none) else match P.underlying T,aop s,aop x with
  | some (.slice e),some s,some x=>match Zdd P e,Yhn P e,Zfd P e with
   | some n,some b,some z=>if 1≤n∧b≤4096∧z.length=n then some (.app e n s x) else none
   | _,_,_=>none
  | _,_,_=>none
 | .copy,[d,s],[T,_]=>match P.underlying T,aop d,aop s with
  | some (.slice e),some d,some s=>(Zdd P e).map (.copy · d s)
  | _,_,_=>none
 | .delete,[m,k],[T,_]=>match P.underlying T,aop m,aop k with
  | some (.map kt _),some m,some k=>match P.underlying kt with
   | some (.int _)=>some (.mdel m k)
   | _=>none
  | _,_,_=>none
 | .clear,[x],[T]=>match P.underlying T,aop x with
  | some (.slice e),some x=>match Zdd P e,Zfd P e with
   | some n,some z=>if 1≤n∧z.length=n then some (.clr z x) else none
   | _,_=>none
  | _,_=>none
 | _,_,_=>none
def Zwj (P:Program) (t:TypeId):Bool:=match P.underlying t with
 | some (.map kt _)=>match P.underlying kt with|some (.int _)=>true|_=>false
 | _=>false
def Zv3 (P:Program) (t:TypeId):Bool:=match P.underlying t with
 | some (.map kt _)=>match P.underlying kt with
  | some (.pointer e)=>(match Zdd P e with|some (_+1)=>true|_=>false)
  | _=>false
 | _=>false
def mapT (P:Program) (t:TypeId):Bool:=match P.underlying t with
 | some (.map _ _)=>true
 | _=>false
def Zu1 (P:Program) (t:TypeId):Bool:=match P.underlying t with
 | some (.interface _)=>false
 | some _=>true
 | none=>false
def Zyj (P:Program) (name:String) (i:Nat):Option Nat:=match P.info? i with
 | some inf=>match inf.methods.find? (·.name == name) with
  | some m=>match m.func with
   | some (f,false)=>if m.path.isEmpty then (match P.underlying i with
    | some (.pointer _)=>none
    | some _=>some f
    | none=>none) else none
   | _=>none
  | none=>none
 | none=>none
def Yil (P:Program) (name:String):List (Nat×Nat):=(List.range P.types.size).filterMap fun i=>(Zyj P name i).map fun f=>(i,f)
def Zaq (P:Program) (o:Oper):Option AOp:=match o.op with
 | .move x|.assign x=>(aop x).map .mv
 | .pick c a b=>match aop c,aop a,aop b with
  | some c,some a,some b=>some (.pick c a b)
  | _,_,_=>none
 | .alloc t=>match Zdd P t,Zfd P t with
  | some n,some z=>some (.new t n z)
  | _,_=>none
 | .box t x=>match Zdd P t,aop x with
  | some (n+1),some x=>some (.box t (n+1) x)
  | _,_=>none
 | .build t parts=>match Zfd P t,P.underlying t with
  | some z,some (.struct fs)=>if fs.toList.all (fun f=>(Zdd P f.type).isSome) then (Zr0 P fs parts.toList).map (.build z) else none
  | some z,some (.array _ e)=>match Zdd P e with
   | some (n+1)=>(Zni (n+1) parts.toList).map (.build z)
   | _=>none
  | _,_=>none
 | .buildSlice t n parts=>match P.underlying t with
  | some (.slice e)=>match Zdd P e,Zfd P e with
   | some m,some z=>if 1≤m∧z.length=m∧n*m≤16777216 then (Zni m parts.toList).map (.bsl e m n (Zzj z n)) else none
   | _,_=>none
  | _=>none
 | .load t a=>match Zo5 P t,Zdd P t,aop a with
  | some true,some n,some a=>some (.ldn n a)
  | some false,_,some a=>some (.ld1 a)
  | _,_,_=>none
 | .store t a x=>match o.dst,Zdd P t,aop a,aop x with
  | none,some (n+1),some a,some x=>some (.st (n+1) a x)
  | _,_,_,_=>none
 | .nilCheck x=>(aop x).map .nilck
 | .binOp op t x y _=>match aop x,aop y with
  | some a,some b=>
   match op with
   | .eql=>match P.underlying t with
    | some (.int _)|some .string=>some (.bin .eql a b)
    | _=>match Ydq P t with
     | some k=>some (.eqb k false a b)
     | none=>(Ygy P t).map (.eqf · false a b)
   | .neq=>match P.underlying t with
    | some (.int _)|some .string=>some (.bin .neq a b)
    | _=>match Ydq P t with
     | some k=>some (.eqb k true a b)
     | none=>(Ygy P t).map (.eqf · true a b)
   | _=>some (.bin op a b)
  | _,_=>none
 | .unOp op _ x=>(aop x).map (.un op)
 | .convert s d x=>match P.underlying s,P.underlying d,aop x with
  | some (.int _),some (.int k),some a=>some (.cvi k a)
  | some (.slice e),some .string,some a=>match P.underlying e with
   | some (.int .u8)=>some (.b2s a)
   | _=>none
  | _,_,_=>none
 | .makeFunc (.func f) a b=>match Zy5 a.toList,Zy5 b.toList with
  | some a,some b=>some (.mkfn f a b)
  | _,_=>none
 | .makeMap t none=>some .mkmap
 | .makeSlice t l c=>match P.underlying t,aop l,aop c with
  | some (.slice e),some l,some c=>match Zdd P e,Yhn P e,Zfd P e with
   | some n,some b,some z=>if 1≤n∧b≤4096∧z.length=n then some (.mks e n z l c) else none
   | _,_,_=>none
  | _,_,_=>none
 | .slice t x lo hi mx=>match P.underlying t,aop x,Ztk lo,Ztk hi,Ztk mx with
  | some (.slice e),some x,some lo,some hi,some mx=>if mx.isSome && !hi.isSome then none else (Zdd P e).map (.slc · x lo hi mx)
  | some (.array n e),some x,some lo,some hi,some mx=>if mx.isSome && !hi.isSome then none else (Zdd P e).map (.sla · n x lo hi mx)
  | _,_,_,_,_=>none
 | .fieldAddr s x f=>match P.underlying s,aop x with
  | some (.struct fs),some x=>match fs[f]? with
   | some fd=>match Zdd P fd.type with
    | some (_+1)=>some (.fa fd.offset x)
    | _=>none
   | none=>none
  | _,_=>none
 | .field s x f=>match P.underlying s,aop x with
  | some (.struct fs),some x=>match fs[f]? with
   | some fd=>match Zo5 P fd.type,Zdd P fd.type with
    | some true,some n=>some (.fldn fd.offset n x)
    | some false,_=>some (.fld1 fd.offset x)
    | _,_=>none
   | none=>none
  | _,_=>none
 | .indexAddr t x i=>match P.underlying t,aop x,aop i with
  | some (.slice e),some x,some i=>(Zdd P e).map (.ixs · x i)
  | some (.array n e),some x,some i=>(Zdd P e).map (.ixa n · x i)
  | _,_,_=>none
 | .index t x i=>match P.underlying t,aop x,aop i with
  | some (.array n e),some x,some i=>match Zdd P e,Zo5 P e with
   | some 1,some false=>some (.ixv n x i)
   | some m,some true=>some (.ixvn n m x i)
   | _,_=>none
  | _,_,_=>none
 | .extract x i=>(aop x).map (.ext · i)
 | .lookup t m k ok=>match P.underlying t,aop m,aop k with
  | some (.map _ e),some m,some k=>if Zwj P t then (match P.info? e with
   | some i=>match i.zero with
    | some z=>(av1 z).map (.mget · ok m k)
    | none=>none
   | none=>none) else none
  | _,_,_=>none
 | .mapUpdate t m k v|.insert t m k v=>match o.dst,aop m,aop k,aop v with
  | none,some m,some k,some v=>if Zwj P t then some (.mset m k v) else if Zv3 P t then some (.msetp m k v) else none
  | _,_,_,_=>none
 | .range t x=>if mapT P t then (aop x).map .rngm else none
 | .next x false=>(aop x).map .nextm
 | .entry x=>(aop x).map .entm
 | .call c=>match c.callee with
  | .value (.func f)=>(Zy5 c.args.toList).map (.scall f)
  | .value f=>match aop f,Zy5 c.args.toList with
   | some f,some a=>some (.call f a)
   | _,_=>none
  | .builtin b=>Zfy P b c.argTypes.toList c.args.toList
  | .invoke r name=>match aop r,Zy5 c.args.toList with
   | some r,some a=>some (.inv (Yil P name) r a)
   | _,_=>none
 | .makeInterface t x=>if Zu1 P t then (aop x).map (.mki t) else none
 | .typeAssert x _ ty true=>if Zu1 P ty then (match P.info? ty with
  | some i=>match i.zero with
   | some z=>match aop x,av z with
    | some a,some zv=>some (.tas ty zv a)
    | _,_=>none
   | none=>none
  | none=>none) else none
 | _=>none
def Zh8 (P:Program) (o:Oper):Option AOp:=some ((Zaq P o).getD .bad)
def Zdr (ops:Array Oper) (N:Nat) (g:Option (Nat×Bool)):Option (Option (Nat×Bool)):=match g with
 | none=>some none
 | some (j,b)=>match (ops[j]?).bind (·.dst) with
  | some d=>some (some (d,b))
  | none=>none
def Zc9 (N:Nat) (d:Option Tmp):Option Nat:=match d with
 | none=>some 0
 | some d=>if d<N then some (d+1) else none
def Zce (P:Program) (N:Nat) (ops:Array Oper):List Oper→Option (List AOper)
 | []=>some []
 | o::l=>match Zc9 N o.dst,Zh8 P o,Zdr ops N o.guard,Zce P N ops l with
  | some d,some p,some g,some r=>some (.mk d p g::r)
  | _,_,_,_=>none
inductive It where
 | op (i:Nat)|chk (i:Nat)
def Zsf:AOp→Bool
 | .st ..|.app ..|.app0 ..|.copy ..|.call ..|.scall ..|.mset ..|.mdel ..|.clr ..|.msetp ..|.rngm ..|.nextm ..|.entm ..|.inv ..=>true
 | _=>false
def isNx:AOp→Bool
 | .nextm ..=>true
 | _=>false
def Zkb:AOp→Bool
 | .ld1 ..|.ldn ..|.b2s ..|.lenm ..|.mget ..=>true
 | _=>false
def Zx4:AOper→AOp
 | .mk _ p _=>p
 | .chk _ p _=>p
def Zei (acc:List Nat):List Edge→Nat
 | []=>0
 | e::l=>if Region.binds .any e then (2^e.on ||| acc.getD e.on 0) ||| Zei acc l else Zei acc l
def Zbk:List Oper→List Nat→List Nat
 | [],acc=>acc
 | o::l,acc=>Zbk l (acc++[Zei acc o.after.toList])
def Zfe (ops:Array Oper) (o:Oper):List Nat:=
 (o.op.operands.toList.filterMap fun|.tmp t=>some t|_=>none)++(match o.guard with|some (j,_)=>((ops[j]?).bind (·.dst)).toList|none=>[])
def Ya3 (bf:List Nat) (cs:List AOper) (ds:List (Option Nat)) (rs:List (List Nat)) (j i:Nat):Bool:=
 let before:=(bf.getD i 0).testBit j
 let dj:=ds.getD j none
 let di:=ds.getD i none
 (i != j) && (before || !(match cs[j]? with|some c=>Zsf (Zx4 c)|none=>true)) &&
 (match dj with
   | none=>true
   | some x=>(di != some x) && (before || !(rs.getD i []).contains x)) &&
 (match di with
   | none=>true
   | some x=>before || !(rs.getD j []).contains x)
def Yac (ds:List (Option Nat)) (rs:List (List Nat)) (i:Nat):Bool:=
 match ds.getD i none with
 | none=>true
 | some x=>!(rs.getD i []).contains x
def Znj (bf:List Nat) (cs:List AOper) (ds:List (Option Nat)) (rs:List (List Nat)):List It→Bool
 | []=>true
 | .chk _::l=>Znj bf cs ds rs l
 | .op j::l=>Yac ds rs j && (l.all fun|.op i=>Ya3 bf cs ds rs j i|.chk _=>true) && Znj bf cs ds rs l
def Zm7 (cs:List AOper) (i:Nat):List It→Bool
 | []=>false
 | .chk j::l=>i == j || Zm7 cs i l
 | .op j::l=>!(match cs[j]? with|some c=>Zsf (Zx4 c)|none=>true) && Zm7 cs i l
def Zoc (bf:List Nat) (cs:List AOper) (i:Nat):List It→Bool
 | []=>true
 | .chk _::l=>Zoc bf cs i l
 | .op j::l=>(!(match cs[j]? with|some c=>Zsf (Zx4 c)|none=>true) || (bf.getD j 0).testBit i || Zm7 cs i l) && Zoc bf cs i l
def Yaw (bf:List Nat) (ds:List (Option Nat)) (rs:List (List Nat)) (n i:Nat):Bool:=
 (List.range n).all fun j=>match ds.getD j none with
   | none=>true
   | some x=>(bf.getD i 0).testBit j || !(rs.getD i []).contains x
def Znq (bf:List Nat) (cs:List AOper):List It→Bool
 | []=>true
 | .chk _::l=>Znq bf cs l
 | .op i::l=>(!(match cs[i]? with|some c=>Zkb (Zx4 c)|none=>true) || Zoc bf cs i l) && Znq bf cs l
def Ycc (i:Nat):List It→Bool
 | []=>false
 | .op j::l=>i == j || Ycc i l
 | .chk _::l=>Ycc i l
def Zia:List Oper→Nat→Bool
 | [],_=>true
 | o::l,i=>(o.after.toList.all fun e=>!Region.binds .any e || decide (e.on<i)) && Zia l (i+1)
def Ycx (bf:List Nat) (cs:List AOper) (ds:List (Option Nat)) (rs:List (List Nat)) (ops:List Oper) (its:List It):Bool:=
 Zia ops 0 && ((List.range ops.length).all fun i=>Ycc i its) && (its.all fun|.op i=>decide (i<ops.length)|.chk i=>Yaw bf ds rs ops.length i) && Znj bf cs ds rs its && Znq bf cs its && cs.all (fun c=>!isNx (Zx4 c))
def Zl0 (cs:List AOper):It→Option AOper
 | .op i=>cs[i]?
 | .chk i=>match cs[i]? with
  | some (.mk (d+1) p g)=>if Zkb p then some (.chk d p g) else none
  | _=>none
def Zla (cs:List AOper):List It→Option (List AOper)
 | []=>some []
 | x::l=>match Zl0 cs x,Zla cs l with
  | some a,some r=>some (a::r)
  | _,_=>none
def Zd1 (cs:List AOper) (i:Nat):Bool:=match cs[i]? with|some c=>Zsf (Zx4 c)|none=>true
def loadAt (cs:List AOper) (i:Nat):Bool:=match cs[i]? with|some c=>Zkb (Zx4 c)|none=>false
def phase (bf:List Nat) (cs:List AOper) (cnt:List (Nat×Nat)) (last:Option Nat) (k:Nat):List It:=
 (match last with
   | none=>[]
   | some e=>(cnt.filter fun p=>loadAt cs p.1 && decide (p.2<k) && !(bf.getD e 0).testBit p.1).map fun p=>.chk p.1) ++
 ((cnt.filter fun p=>p.2 == k && !Zd1 cs p.1).map fun p=>.op p.1)++((cnt.filter fun p=>p.2 == k && Zd1 cs p.1).map fun p=>.op p.1)
def Yib (bf:List Nat) (cs:List AOper) (cnt:List (Nat×Nat)) (effs:List Nat) (last:Option Nat) (k:Nat):List It:=
 match effs with
 | []=>phase bf cs cnt last k
 | e::l=>phase bf cs cnt last k++Yib bf cs cnt l (some e) (k+1)
def Zuc (bf:List Nat) (cs:List AOper) (n:Nat):List It:=
 let effs:=(List.range n).filter (Zd1 cs)
 let cnt:=(List.range n).map fun i=>(i,(effs.filter fun e=>(bf.getD i 0).testBit e).length)
 Yib bf cs cnt effs none 0
def Zdu (P:Program) (N:Nat) (ops:Array Oper):Option (List AOper):=
 match Zce P N ops ops.toList with
 | none=>none
 | some cs=>
  let bf:=Zbk ops.toList []
  let its:=Zuc bf cs ops.size
  if Ycx bf cs (ops.toList.map (·.dst)) (ops.toList.map (Zfe ops)) ops.toList its then Zla cs its else none
def badC:AC:=.reg [.mk 0 .bad none]
def Zcs (P:Program) (N:Nat):Code→Option AC
 | .skip=>some .skip
 | .region _ ops false=>(Zce P N ops ops.toList).map .reg
 | .region _ ops true=>some (((Zdu P N ops).map .reg).getD badC)
 | .seq a b=>match Zcs P N a,Zcs P N b with
  | some x,some y=>some (.seq x y)
  | _,_=>none
 | .cond c a b=>match aop c,Zcs P N a,Zcs P N b with
  | some c,some x,some y=>some (.cond c x y)
  | _,_,_=>none
 | .block id b=>(Zcs P N b).map (.block id)
 | .loop b=>(Zcs P N b).map .loop
 | .rangeFunc f ps a b=>match aop f,Zcs P N a,Zcs P N b with
  | some f,some x,some y=>if ps.toList.all (·<N) then some (.rng f ps.toList x y) else none
  | _,_,_=>none
 | .exit id=>some (.exit id)
 | .ret=>some .ret
 | .scope b=>(Zcs P N b).map .scope
 | .label _=>some .lab
 | _=>some badC
def Zh6 (P:Program):List ResultVar→Option (List ARes)
 | []=>some []
 | r::l=>match (match r with
  | .tmp t=>some (.tmp t)
  | .cell a t=>match Zo5 P t,Zdd P t with
   | some true,some n=>some (.cells a n)
   | some false,_=>some (.cell a)
   | _,_=>none:Option ARes),Zh6 P l with
  | some x,some y=>some (x::y)
  | _,_=>none
def Zaj (P:Program) (f:Func):Option AFn:=match f.body with
 | some b=>match Zcs P f.ntmps b,Zh6 P f.results.toList with
  | some c,some r=>some (.mk c r)
  | _,_=>none
 | none=>none
end Go.AM
namespace Go.AM
theorem Zy7 {α:Type}{x:α}:∀ {n k j:Nat}{y:α},(T.sing x n k).get j=some y→j=k∧y=x:=by
 intro n
 induction n with
 | zero=>intro k j y h;cases h
 | succ n ih=>
  intro k j y h
  cases k with
  | zero=>
   cases j with
   | zero=>cases h;exact ⟨rfl,rfl⟩
   | succ j=>
    change (Bool.rec (T.get T.lf (Nat.div j 2)) (T.get T.lf (Nat.div j 2)) (Nat.beq (Nat.mod j 2) 0):Option α)=some y at h
    cases hb:Nat.beq (Nat.mod j 2) 0 <;> rw [hb] at h <;> cases h
  | succ k=>
   change T.get (Bool.rec (T.nd none .lf (T.sing x n (Nat.div k 2))) (T.nd none (T.sing x n (Nat.div k 2)) .lf) (Nat.beq (Nat.mod k 2) 0)) j=some y at h
   cases hb:Nat.beq (Nat.mod k 2) 0 <;> rw [hb] at h
   ·cases j with
    | zero=>cases h
    | succ j=>
     change (Bool.rec (T.get (T.sing x n (Nat.div k 2)) (Nat.div j 2)) (T.get T.lf (Nat.div j 2)) (Nat.beq (Nat.mod j 2) 0):Option α)=some y at h
     cases hc:Nat.beq (Nat.mod j 2) 0 <;> rw [hc] at h
     ·obtain ⟨e,rfl⟩:=ih h
      refine ⟨?_,rfl⟩
      have h1:=Nat.ne_of_beq_eq_false hb
      have h2:=Nat.ne_of_beq_eq_false hc
      have e':j / 2=k / 2:=e
      have h1':k % 2≠0:=h1
      have h2':j % 2≠0:=h2
      omega
     ·cases h
   ·cases j with
    | zero=>cases h
    | succ j=>
     change (Bool.rec (T.get T.lf (Nat.div j 2)) (T.get (T.sing x n (Nat.div k 2)) (Nat.div j 2)) (Nat.beq (Nat.mod j 2) 0):Option α)=some y at h
     cases hc:Nat.beq (Nat.mod j 2) 0 <;> rw [hc] at h
     ·cases h
     ·obtain ⟨e,rfl⟩:=ih h
      refine ⟨?_,rfl⟩
      have h1:=Nat.eq_of_beq_eq_true hb
      have h2:=Nat.eq_of_beq_eq_true hc
      have e':j / 2=k / 2:=e
      have h1':k % 2=0:=h1
      have h2':j % 2=0:=h2
      omega
theorem Zds {α:Type}{x:α}:∀ {t:T α}{k j:Nat}{y:α},(t.set x k).get j=some y→(j=k∧y=x)∨(j≠k∧t.get j=some y):=by
 intro t
 induction t with
 | lf=>intro k j y h;exact .inl (Zy7 (n:=64) h)
 | nd v l r il ir=>
  intro k j y h
  cases k with
  | zero=>
   cases j with
   | zero=>cases h;exact .inl ⟨rfl,rfl⟩
   | succ j=>exact .inr ⟨by omega,h⟩
  | succ k=>
   change T.get (Bool.rec (T.nd v l (r.set x (Nat.div k 2))) (T.nd v (l.set x (Nat.div k 2)) r) (Nat.beq (Nat.mod k 2) 0)) j=some y at h
   cases j with
   | zero=>
    refine .inr ⟨by omega,?_⟩
    cases hb:Nat.beq (Nat.mod k 2) 0 <;> rw [hb] at h <;> exact h
   | succ j=>
    change _∨(_∧(Bool.rec (T.get r (Nat.div j 2)) (T.get l (Nat.div j 2)) (Nat.beq (Nat.mod j 2) 0):Option α)=some y)
    cases hb:Nat.beq (Nat.mod k 2) 0 <;> rw [hb] at h
    ·change (Bool.rec (T.get (r.set x (Nat.div k 2)) (Nat.div j 2)) (T.get l (Nat.div j 2)) (Nat.beq (Nat.mod j 2) 0):Option α)=some y at h
     have h1':k % 2≠0:=Nat.ne_of_beq_eq_false hb
     cases hc:Nat.beq (Nat.mod j 2) 0 <;> rw [hc] at h
     ·have h2':j % 2≠0:=Nat.ne_of_beq_eq_false hc
      rcases ir h with ⟨e,rfl⟩|⟨e,h⟩
      ·have e':j / 2=k / 2:=e
       exact .inl ⟨by omega,rfl⟩
      ·exact .inr ⟨fun e2=>e (by have e3:j=k:=by omega
                                 rw [e3]),h⟩
     ·have h2':j % 2=0:=Nat.eq_of_beq_eq_true hc
      exact .inr ⟨by omega,h⟩
    ·change (Bool.rec (T.get r (Nat.div j 2)) (T.get (l.set x (Nat.div k 2)) (Nat.div j 2)) (Nat.beq (Nat.mod j 2) 0):Option α)=some y at h
     have h1':k % 2=0:=Nat.eq_of_beq_eq_true hb
     cases hc:Nat.beq (Nat.mod j 2) 0 <;> rw [hc] at h
     ·have h2':j % 2≠0:=Nat.ne_of_beq_eq_false hc
      exact .inr ⟨by omega,h⟩
     ·have h2':j % 2=0:=Nat.eq_of_beq_eq_true hc
      rcases il h with ⟨e,rfl⟩|⟨e,h⟩
      ·have e':j / 2=k / 2:=e
       exact .inl ⟨by omega,rfl⟩
      ·exact .inr ⟨fun e2=>e (by have e3:j=k:=by omega
                                 rw [e3]),h⟩
theorem Zbh {α:Type}{x:α}:∀ {t:T α}{k j:Nat}{y:α},j≠k→t.get j=some y→(t.set x k).get j=some y:=by
 intro t
 induction t with
 | lf=>intro k j y _ h;cases h
 | nd v l r il ir=>
  intro k j y hne h
  cases k with
  | zero=>
   cases j with
   | zero=>exact absurd rfl hne
   | succ j=>exact h
  | succ k=>
   change T.get (Bool.rec (T.nd v l (r.set x (Nat.div k 2))) (T.nd v (l.set x (Nat.div k 2)) r) (Nat.beq (Nat.mod k 2) 0)) j=some y
   cases j with
   | zero=>cases hb:Nat.beq (Nat.mod k 2) 0 <;> exact h
   | succ j=>
    change (Bool.rec (T.get r (Nat.div j 2)) (T.get l (Nat.div j 2)) (Nat.beq (Nat.mod j 2) 0):Option α)=some y at h
    cases hb:Nat.beq (Nat.mod k 2) 0 <;> cases hc:Nat.beq (Nat.mod j 2) 0 <;> rw [hc] at h
    ·change (Bool.rec (T.get (r.set x (Nat.div k 2)) (Nat.div j 2)) (T.get l (Nat.div j 2)) (Nat.beq (Nat.mod j 2) 0):Option α)=some y
     rw [hc]
     refine ir (fun e=>hne ?_) h
     have e':j / 2=k / 2:=e
     have h1':k % 2≠0:=Nat.ne_of_beq_eq_false hb
     have h2':j % 2≠0:=Nat.ne_of_beq_eq_false hc
     omega
    ·change (Bool.rec (T.get (r.set x (Nat.div k 2)) (Nat.div j 2)) (T.get l (Nat.div j 2)) (Nat.beq (Nat.mod j 2) 0):Option α)=some y
     rw [hc];exact h
    ·change (Bool.rec (T.get r (Nat.div j 2)) (T.get (l.set x (Nat.div k 2)) (Nat.div j 2)) (Nat.beq (Nat.mod j 2) 0):Option α)=some y
     rw [hc];exact h
    ·change (Bool.rec (T.get r (Nat.div j 2)) (T.get (l.set x (Nat.div k 2)) (Nat.div j 2)) (Nat.beq (Nat.mod j 2) 0):Option α)=some y
     rw [hc]
     refine il (fun e=>hne ?_) h
     have e':j / 2=k / 2:=e
     have h1':k % 2=0:=Nat.eq_of_beq_eq_true hb
     have h2':j % 2=0:=Nat.eq_of_beq_eq_true hc
     omega
theorem Zl4 {α:Type}{x:α}{t:T α}{k j:Nat}(hne:j≠k):(t.set x k).get j=t.get j:=by
 cases h:t.get j with
 | some y=>exact Zbh hne h
 | none=>
  cases h':(t.set x k).get j with
  | none=>rfl
  | some y=>
   rcases Zds h' with ⟨e,_⟩|⟨_,e⟩
   ·exact absurd e hne
   ·rw [h] at e;cases e
structure Loc where
 b:Nat
 o:Nat
 sz:Nat
 es:Nat
structure FzC where
 cs:Array Value
 old:Bool
instance:GetElem? FzC Nat Value (fun c i=>i<c.cs.size) where
 getElem c i h:=c.cs[i]'h
 getElem? c i:=c.cs[i]?
 getElem! c i:=c.cs[i]!
def CapR (cs:FzC) (o c:Nat):Option Nat→Prop
 | none=>cs.old=true
 | some 0=>cs.old=false∧o=0
 | some (k+1)=>c=k+1∧cs.old=true
structure Gam where
 loc:Nat→Option Loc
 fz:Nat→Option FzC
instance:CoeFun Gam (fun _=>Nat→Option Loc):=⟨Gam.loc⟩
inductive All2 {α β:Type}(R:α→β→Prop):List α→List β→Prop
 | nil:All2 R [] []
 | cons {a b l m}:R a b→All2 R l m→All2 R (a::l) (b::m)
theorem All2.length {α β:Type}{R:α→β→Prop}{l:List α}{m:List β}(h:All2 R l m):l.length=m.length:=by
 induction h with
 | nil=>rfl
 | cons _ _ ih=>simp [ih]
theorem All2.imp {α β:Type}{R S:α→β→Prop}(hi:∀ a b,R a b→S a b) {l:List α}{m:List β}(h:All2 R l m):All2 S l m:=by
 induction h with
 | nil=>exact .nil
 | cons h _ ih=>exact .cons (hi _ _ h) ih
theorem All2.get {α β:Type}{R:α→β→Prop}{l:List α}{m:List β}(h:All2 R l m):∀ {i:Nat}{a:α},l[i]?=some a→∃ b,m[i]?=some b∧R a b:=by
 induction h with
 | nil=>intro i a h;simp at h
 | @cons a b l m h _ ih=>
  intro i x hx
  cases i with
  | zero=>simp at hx;subst hx;exact ⟨b,by simp,h⟩
  | succ i=>simpa using ih (by simpa using hx)
theorem Zhj {α β:Type}{R:α→β→Prop}:∀ {l:List α}{m:List β},l.length=m.length→(∀ (i:Nat) (a:α) (b:β),l[i]?=some a→m[i]?=some b→R a b)→All2 R l m
 | [],[],_,_=>.nil
 | [],_::_,h,_=>by simp at h
 | _::_,[],h,_=>by simp at h
 | a::l,b::m,h,hr=>.cons (hr 0 a b (by simp) (by simp)) (Zhj (by simpa using h) fun i x y hx hy=>hr (i+1) x y (by simpa using hx) (by simpa using hy))
theorem All2.append {α β:Type}{R:α→β→Prop}{l l':List α}{m m':List β}(h:All2 R l m) (h':All2 R l' m'):All2 R (l++l') (m++m'):=by
 induction h with
 | nil=>exact h'
 | cons h _ ih=>exact .cons h ih
theorem All2.take {α β:Type}{R:α→β→Prop}{l:List α}{m:List β}(h:All2 R l m):∀ n,All2 R (l.take n) (m.take n):=by
 induction h with
 | nil=>intro n;simp;exact .nil
 | cons h _ ih=>intro n;cases n with
  | zero=>exact .nil
  | succ n=>exact .cons h (ih n)
theorem All2.drop {α β:Type}{R:α→β→Prop}{l:List α}{m:List β}(h:All2 R l m):∀ n,All2 R (l.drop n) (m.drop n):=by
 induction h with
 | nil=>intro n;simp;exact .nil
 | cons h t ih=>intro n;cases n with
  | zero=>exact .cons h t
  | succ n=>exact ih n
mutual
def hf:AV→Bool
 | .ptr ..|.sl ..|.map ..|.yld ..=>false
 | .fn _ a b=>hfs a && hfs b
 | .iface _ v=>hf v
 | .agg l|.tup l=>hfs l
 | _=>true
def hfs:List AV→Bool
 | []=>true
 | v::l=>hf v && hfs l
end
theorem hfs_iff:∀ {l:List AV},hfs l=true↔∀ v ∈ l,hf v=true
 | []=>by simp [hfs]
 | x::l=>by simp [hfs,hfs_iff (l:=l)]
theorem Zmn {l:List AV}(h:hfs l=true) (k:Nat):hfs (l.drop k)=true:=hfs_iff.2 fun v hv=>hfs_iff.1 h v (List.mem_of_mem_drop hv)
theorem Ygm {l:List AV}(h:hfs l=true) (k:Nat):hfs (l.take k)=true:=hfs_iff.2 fun v hv=>hfs_iff.1 h v (List.mem_of_mem_take hv)
inductive VR (γ:Gam):AV→Value→Prop
 | bool (b:Bool):VR γ (.bool b) (.bool b)
 | int (k:IntKind) (n:Int):VR γ (.int k n) (.int k n)
 | str (l:List Nat) (s:ByteArray):s.data.toList.map UInt8.toNat=l→VR γ (.str l) (.string s)
 | ptr (r o:Nat) (L:Loc):γ r=some L→VR γ (.ptr r o) (.pointer (some ⟨L.b,L.o+o,none⟩))
 | nilp:VR γ .nilp (.pointer none)
 | sl (r o n c:Nat) (L:Loc):γ r=some L→n≤c→VR γ (.sl r o n (some c)) (.slice (some ⟨L.b,L.o+o,none⟩) n c)
 | slu (r o n c:Nat) (L:Loc):γ r=some L→n≤c→c≤maxLen→(o=0→c*L.es≤L.sz)→VR γ (.sl r o n none) (.slice (some ⟨L.b,L.o+o,none⟩) n c)
 | nils:VR γ .nils (.slice none 0 0)
 | es (a:Addr) (c:Nat):VR γ .es (.slice (some a) 0 c)
 | map (r:Nat) (L:Loc):γ r=some L→VR γ (.map r) (.map (some L.b))
 | nilm:VR γ .nilm (.map none)
 | fn (f:Nat) (xs ys:List AV) (as bs:Array Value):All2 (VR γ) xs as.toList→All2 (VR γ) ys bs.toList→VR γ (.fn f xs ys) (.func (.func f) as bs)
 | yld (l:Nat) (L:Loc):γ l=some L→VR γ (.yld l) (.func (.yield L.b) #[] #[])
 | nilf:VR γ .nilf .nilFunc
 | iface (t:Nat) (v:AV) (v':Value):VR γ v v'→VR γ (.iface t v) (.iface t v')
 | nili:VR γ .nili .nilIface
 | agg (l:List AV) (a:Array Value):All2 (VR γ) l a.toList→(∀ v ∈ a.toList,v.oneCell'=true)→VR γ (.agg l) (.agg a)
 | tup (l:List AV) (a:Array Value):All2 (VR γ) l a.toList→VR γ (.tup l) (.tuple a)
 | any (v:Value):v.oneCell'=true→VR γ .any v
 | fz (n:Nat) (cap:Option Nat) (l:List AV) (vs:List Value) (b o c:Nat) (cs:FzC):γ.fz b=some cs→(∀ (j:Nat) (u:Value),vs[j]?=some u→cs[o+j]?=some u)→(∀ u ∈ vs,u.oneCell'=true)→All2 (VR γ) l vs→n≤c→CapR cs o c cap→hfs l=true→VR γ (.fz n cap l) (.slice (some ⟨b,o,none⟩) n c)
 | fp (l:List AV) (vs:List Value) (b o:Nat) (cs:FzC):γ.fz b=some cs→(∀ (j:Nat) (u:Value),vs[j]?=some u→cs[o+j]?=some u)→(∀ u ∈ vs,u.oneCell'=true)→All2 (VR γ) l vs→hfs l=true→VR γ (.fp l) (.pointer (some ⟨b,o,none⟩))
structure Le (γ γ':Gam):Prop where
 loc:∀ r L,γ r=some L→γ' r=some L
 fz:∀ b c,γ.fz b=some c→γ'.fz b=some c
theorem Le.refl (γ:Gam):Le γ γ:=⟨fun _ _ h=>h,fun _ _ h=>h⟩
theorem Le.trans {γ γ1 γ2:Gam}(h:Le γ γ1) (k:Le γ1 γ2):Le γ γ2:=⟨fun r L e=>k.loc r L (h.loc r L e),fun b c e=>k.fz b c (h.fz b c e)⟩
mutual
theorem VR.mono {γ γ':Gam}(h:Le γ γ'):∀ {v:AV}{v':Value},VR γ v v'→VR γ' v v'
 | _,_,.bool b=>.bool b
 | _,_,.int k n=>.int k n
 | _,_,.str l s e=>.str l s e
 | _,_,.ptr r o L e=>.ptr r o L (h.loc _ _ e)
 | _,_,.nilp=>.nilp
 | _,_,.sl r o n c L e a=>.sl r o n c L (h.loc _ _ e) a
 | _,_,.slu r o n c L e a b d=>.slu r o n c L (h.loc _ _ e) a b d
 | _,_,.nils=>.nils
 | _,_,.es a c=>.es a c
 | _,_,.map r L e=>.map r L (h.loc _ _ e)
 | _,_,.nilm=>.nilm
 | _,_,.fn f xs ys as bs a b=>.fn f xs ys as bs (Zhd h a) (Zhd h b)
 | _,_,.yld l L e=>.yld l L (h.loc _ _ e)
 | _,_,.nilf=>.nilf
 | _,_,.iface t v v' e=>.iface t v v' (VR.mono h e)
 | _,_,.nili=>.nili
 | _,_,.agg l a e o=>.agg l a (Zhd h e) o
 | _,_,.tup l a e=>.tup l a (Zhd h e)
 | _,_,.any v e=>.any v e
 | _,_,.fz n cap l vs b o c cs e1 e2 e3 e4 e5 e6 e7=>.fz n cap l vs b o c cs (h.fz _ _ e1) e2 e3 (Zhd h e4) e5 e6 e7
 | _,_,.fp l vs b o cs e1 e2 e3 e4 e5=>.fp l vs b o cs (h.fz _ _ e1) e2 e3 (Zhd h e4) e5
theorem Zhd {γ γ':Gam}(h:Le γ γ'):∀ {l:List AV}{m:List Value},All2 (VR γ) l m→All2 (VR γ') l m
 | _,_,.nil=>.nil
 | _,_,.cons a b=>.cons (VR.mono h a) (Zhd h b)
end
def TR (γ:Gam) (t:AT) (tm:Array Value):Prop:=∀ i v,t.get i=some v→∃ v',tm[i]?=some v'∧VR γ v v'
theorem TR.mono {γ γ':Gam}(h:Le γ γ') {t:AT}{tm:Array Value}(ht:TR γ t tm):TR γ' t tm:=fun i v hv=>let ⟨v',a,b⟩:=ht i v hv;⟨v',a,b.mono h⟩
def pendR (p:Option Nat) (c:Option Code):Prop:=match p with
 | none=>c=none
 | some 0=>c=some .ret
 | some (id+1)=>c=some (.exit id)
def alive:AObj→Bool
 | .dead=>false
 | _=>true
def ObjR (P:Program) (γ:Gam) (L:Loc) (o:AObj) (hp:Array Obj):Prop:=match o with
 | .row e cs=>∃ c:Array Value,hp[L.b]?=some (.cells c e (0,0))∧L.o=0∧c.size=L.sz∧Zdd P e=some L.es∧
  cs.length≤c.size∧(∀ (i:Nat) v,cs[i]?=some v→∃ v',c[i]?=some v'∧VR γ v v'∧v'.oneCell'=true)∧∀ v' ∈ c.toList,v'.oneCell'=true
 | .dead=>True
 | .map es clock=>∃ ms:Array MapEntry,hp[L.b]?=some (.map ms clock)∧All2 (fun (x:AV×AV×Nat) (m:MapEntry)=>VR γ x.1 m.key∧VR γ x.2.1 m.val∧m.born=x.2.2) es ms.toList
 | .loop st pend fn tm ps asg body d=>∃ lp:Loop,hp[L.b]?=some (.loop lp)∧lp.state=st∧pendR pend lp.pending∧TR γ tm lp.tmps∧lp.params.toList=ps∧
  (∃ N,N≤lp.tmps.size∧Zcs P N lp.assign=some asg∧Zcs P N lp.body=some body∧∀ p ∈ ps,p<N)∧∃ D,γ d=some D∧lp.defers=D.b
 | .defd=>hp[L.b]?=some (.deferred (some []))
 | .iter m since seen last=>L.o=0∧∃ M,γ m=some M∧hp[L.b]?=some (.mapIter (some M.b) since seen.toArray last)
theorem ObjR.mono {P:Program}{γ γ':Gam}(h:Le γ γ') {L:Loc}{o:AObj}{hp:Array Obj}(ho:ObjR P γ L o hp):ObjR P γ' L o hp:=by
 cases o with
 | row e cs=>obtain ⟨c,h1,h2,h3,h4,h5,h6,h7⟩:=ho;exact ⟨c,h1,h2,h3,h4,h5,fun i v hv=>(let ⟨v',a,b,d⟩:=h6 i v hv;⟨v',a,b.mono h,d⟩),h7⟩
 | dead=>trivial
 | map es clock=>obtain ⟨ms,h1,h2⟩:=ho;exact ⟨ms,h1,h2.imp fun _ _ ⟨a,b,c⟩=>⟨a.mono h,b.mono h,c⟩⟩
 | loop st pend fn tm ps asg body d=>obtain ⟨lp,h1,h2,h3,h4,h5,h6,D,h8,h10⟩:=ho;exact ⟨lp,h1,h2,h3,h4.mono h,h5,h6,D,h.loc _ _ h8,h10⟩
 | defd=>exact ho
 | iter m since seen last=>obtain ⟨h0,M,h1,h2⟩:=ho;exact ⟨h0,M,h.loc _ _ h1,h2⟩
theorem ObjR.heap {P:Program}{γ:Gam}{L:Loc}{o:AObj}{hp hp':Array Obj}(ho:ObjR P γ L o hp) (e:hp'[L.b]?=hp[L.b]?):ObjR P γ L o hp':=by
 cases o with
 | row e' cs=>obtain ⟨c,h1,h2⟩:=ho;exact ⟨c,e.trans h1,h2⟩
 | dead=>trivial
 | map es clock=>obtain ⟨ms,h1,h2⟩:=ho;exact ⟨ms,e.trans h1,h2⟩
 | loop st pend fn tm ps asg body d=>obtain ⟨lp,h1,h2⟩:=ho;exact ⟨lp,e.trans h1,h2⟩
 | defd=>exact e.trans ho
 | iter m since seen last=>obtain ⟨h0,M,h1,h2⟩:=ho;exact ⟨h0,M,h1,e.trans h2⟩
def FzOk (P:Program) (c:FzC) (e:Nat) (fr:Nat×Nat):Prop:=c.old=false→fr=(0,0)∧(∃ es,Zdd P e=some es)∧∀ v ∈ c.cs.toList,v.oneCell'=true
structure Sim (P:Program) (γ:Gam) (s:St) (w:World):Prop where
 obj:∀ r o L,s.get r=some o→γ r=some L→ObjR P γ L o w.heap
 inj:∀ r r' o o' L L',s.get r=some o→s.get r'=some o'→alive o=true→alive o'=true→γ r=some L→γ r'=some L'→r≠r'→L.b≠L'.b
 lt:∀ r L,γ r=some L→L.b<w.heap.size
 nx:∀ r,s.next≤r→γ r=none
 dom:∀ r o,s.get r=some o→r<s.next
 fzc:∀ b c,γ.fz b=some c→∃ e fr,w.heap[b]?=some (.cells c.cs e fr)∧FzOk P c e fr
 fzr:∀ r o L,s.get r=some o→alive o=true→γ r=some L→γ.fz L.b=none
theorem Sim.fzlt {P:Program}{γ:Gam}{s:St}{w:World}(h:Sim P γ s w) {b:Nat}{c:FzC}(hb:γ.fz b=some c):b<w.heap.size:=by
 obtain ⟨e,fr,h1,_⟩:=h.fzc b c hb
 exact (Array.getElem?_eq_some_iff.1 h1).1
theorem Sim.fzout {P:Program}{γ:Gam}{s:St}{w:World}(h:Sim P γ s w) {b:Nat}(hb:w.heap.size≤b):γ.fz b=none:=by
 cases hc:γ.fz b with
 | none=>rfl
 | some c=>exact absurd (h.fzlt hc) (by omega)
structure Stp (γ:Gam) (s:St) (w:World) (γ':Gam) (s':St) (w':World):Prop where
 le:Le γ γ'
 new:∀ r L,γ' r=some L→γ r=none→s.next≤r∧(w.heap.size≤L.b∨∃ r0 L0,γ r0=some L0∧L0.b=L.b)
 next:s.next≤s'.next
 size:w.heap.size≤w'.heap.size
 os:w'.os=w.os
 tape:w'.tape=w.tape
 output:w'.output=w.output
 blk:∀ b,b<w.heap.size→(∀ r L,γ r=some L→L.b≠b)→w'.heap[b]?=w.heap[b]?
 keep:∀ r,γ r=none→r<s.next→s'.get r=s.get r
 fzn:∀ b c,γ'.fz b=some c→γ.fz b=none→w.heap.size≤b
theorem Stp.refl (γ:Gam) (s:St) (w:World):Stp γ s w γ s w:=
 ⟨Le.refl γ,fun r L h h'=>(by rw [h] at h';cases h'),Nat.le_refl _,Nat.le_refl _,rfl,rfl,rfl,fun _ _ _=>rfl,fun _ _ _=>rfl,fun b c h h'=>(by rw [h] at h';cases h')⟩
theorem Stp.trans {γ γ1 γ2:Gam}{s s1 s2:St}{w w1 w2:World}(h:Stp γ s w γ1 s1 w1) (k:Stp γ1 s1 w1 γ2 s2 w2):Stp γ s w γ2 s2 w2:=by
 have step:∀ r L,γ1 r=some L→(w.heap.size≤L.b∨∃ r0 L0,γ r0=some L0∧L0.b=L.b):=by
  intro r L h1
  cases hg:γ r with
  | none=>exact (h.new r L h1 hg).2
  | some L'=>exact .inr ⟨r,L',hg,by rw [Option.some.inj ((h.le.loc r L' hg).symm.trans h1)]⟩
 refine ⟨h.le.trans k.le,?_,Nat.le_trans h.next k.next,Nat.le_trans h.size k.size,k.os.trans h.os,k.tape.trans h.tape,k.output.trans h.output,?_,?_,?_⟩
 ·intro r L h2 h0
  cases h1:γ1 r with
  | some L1=>have e:=Option.some.inj ((k.le.loc r L1 h1).symm.trans h2);rw [← e];exact h.new r L1 h1 h0
  | none=>
   obtain ⟨a,b⟩:=k.new r L h2 h1
   refine ⟨Nat.le_trans h.next a,?_⟩
   rcases b with b|⟨r0,L0,e0,e1⟩
   ·exact .inl (Nat.le_trans h.size b)
   ·rw [← e1];exact step r0 L0 e0
 ·intro b hb hn
  rw [k.blk b (Nat.lt_of_lt_of_le hb h.size) ?_,h.blk b hb hn]
  intro r L h1 e
  rcases step r L h1 with a|⟨r0,L0,e0,e1⟩
  ·omega
  ·exact hn r0 L0 e0 (e1.trans e)
 ·intro r h0 hr
  refine (k.keep r ?_ (Nat.lt_of_lt_of_le hr h.next)).trans (h.keep r h0 hr)
  cases h1:γ1 r with
  | none=>rfl
  | some L1=>exact absurd (h.new r L1 h1 h0).1 (by omega)
 ·intro b c hb h0
  cases h1:γ1.fz b with
  | none=>exact Nat.le_trans h.size (k.fzn b c hb h1)
  | some c1=>exact h.fzn b c1 h1 h0
theorem Zbv {s:St}{o x:AObj}{r:Nat}(h:(s.alloc o).get r=some x):(r=s.next∧x=o)∨(r≠s.next∧s.get r=some x):=by
 cases s;exact Zds h
theorem Zcw {s:St}{o x:AObj}{r k:Nat}(h:(s.put k o).get r=some x):(r=k∧x=o)∨(r≠k∧s.get r=some x):=by
 cases s;exact Zds h
theorem Zbl {s:St}{o:AObj}{r:Nat}(hne:r≠s.next):(s.alloc o).get r=s.get r:=by
 cases s;exact Zl4 hne
theorem Zcg {s:St}{o:AObj}{r k:Nat}(hne:r≠k):(s.put k o).get r=s.get r:=by
 cases s;exact Zl4 hne
theorem Zar (s:St) (o:AObj):(s.alloc o).next=s.next+1:=by cases s;rfl
theorem Zbc (s:St) (r:Nat) (o:AObj):(s.put r o).next=s.next:=by cases s;rfl
def ext (γ:Gam) (r:Nat) (L:Loc):Gam:=⟨fun k=>if k=r then some L else γ k,γ.fz⟩
theorem Zgr {γ:Gam}{r:Nat}{L:Loc}(h:γ r=none):Le γ (ext γ r L):=by
 refine ⟨fun k M hk=>?_,fun _ _ h=>h⟩
 show (if k=r then some L else γ k)=some M
 by_cases e:k=r
 ·subst e;rw [h] at hk;cases hk
 ·rw [if_neg e];exact hk
theorem Za8 (γ:Gam) (r:Nat) (L:Loc):ext γ r L r=some L:=by show (if r=r then some L else γ r)=some L;rw [if_pos rfl]
theorem Zba (γ:Gam) {r k:Nat}(L:Loc) (h:k≠r):ext γ r L k=γ k:=by show (if k=r then some L else γ k)=γ k;rw [if_neg h]
theorem Sim.alloc {P:Program}{γ:Gam}{s:St}{w:World}(h:Sim P γ s w) (o:AObj) (O:Obj) (sz es:Nat)
 (ho:ObjR P (ext γ s.next ⟨w.heap.size,0,sz,es⟩) ⟨w.heap.size,0,sz,es⟩ o (w.alloc O).heap):
 Stp γ s w (ext γ s.next ⟨w.heap.size,0,sz,es⟩) (s.alloc o) (w.alloc O)∧Sim P (ext γ s.next ⟨w.heap.size,0,sz,es⟩) (s.alloc o) (w.alloc O):=by
 have hn:=h.nx s.next (Nat.le_refl _)
 have hle:=Zgr (L:=⟨w.heap.size,0,sz,es⟩) hn
 have hold:∀ b,b<w.heap.size→(w.alloc O).heap[b]?=w.heap[b]?:=fun b hb=>by
  show (w.heap.push O)[b]?=_
  rw [Array.getElem?_push,if_neg (by omega)]
 have hsz:(w.alloc O).heap.size=w.heap.size+1:=by show (w.heap.push O).size=_;simp
 refine ⟨⟨hle,?_,by rw [Zar];omega,by omega,rfl,rfl,rfl,fun b hb _=>hold b hb,fun r _ hr=>Zbl (by omega),fun b c h h'=>(by rw [show γ.fz b=some c from h] at h';cases h')⟩,⟨?_,?_,?_,?_,?_,?_,?_⟩⟩
 ·intro r L h1 h2
  by_cases e:r=s.next
  ·subst e;rw [Za8] at h1;cases h1;exact ⟨Nat.le_refl _,.inl (Nat.le_refl _)⟩
  ·rw [Zba _ _ e,h2] at h1;cases h1
 ·intro r x L hx hL
  rcases Zbv hx with ⟨rfl,rfl⟩|⟨e,hx⟩
  ·rw [Za8] at hL;cases hL;exact ho
  ·rw [Zba _ _ e] at hL
   exact ((h.obj r x L hx hL).mono hle).heap (hold _ (h.lt r L hL))
 ·intro r r' x x' L L' hx hx' ha ha' hL hL' hne
  rcases Zbv hx with ⟨rfl,rfl⟩|⟨e,hx⟩ <;> rcases Zbv hx' with ⟨rfl,rfl⟩|⟨e',hx'⟩
  ·exact absurd rfl hne
  ·rw [Za8] at hL;rw [Zba _ _ e'] at hL';cases hL
   have:=h.lt _ _ hL';show w.heap.size≠L'.b;omega
  ·rw [Za8] at hL';rw [Zba _ _ e] at hL;cases hL'
   have:=h.lt _ _ hL;show L.b≠w.heap.size;omega
  ·rw [Zba _ _ e] at hL;rw [Zba _ _ e'] at hL'
   exact h.inj r r' x x' L L' hx hx' ha ha' hL hL' hne
 ·intro r L hL
  by_cases e:r=s.next
  ·subst e;rw [Za8] at hL;cases hL;rw [hsz];exact Nat.lt_succ_self _
  ·rw [Zba _ _ e] at hL;have:=h.lt r L hL;omega
 ·intro r hr
  rw [Zar] at hr
  rw [Zba _ _ (by omega)]
  exact h.nx r (by omega)
 ·intro r x hx
  rw [Zar]
  rcases Zbv hx with ⟨rfl,_⟩|⟨_,hx⟩
  ·omega
  ·have:=h.dom r x hx;omega
 ·intro b c hb
  obtain ⟨e,fr,h1,h1'⟩:=h.fzc b c hb
  exact ⟨e,fr,(hold b (h.fzlt hb)).trans h1,h1'⟩
 ·intro r x L hx ha hL
  rcases Zbv hx with ⟨rfl,rfl⟩|⟨e,hx⟩
  ·rw [Za8] at hL;cases hL;exact h.fzout (Nat.le_refl _)
  ·rw [Zba _ _ e] at hL;exact h.fzr r x L hx ha hL
theorem Sim.turn {P:Program}{γ:Gam}{s:St}{w w':World}(h:Sim P γ s w) {r:Nat}{x o:AObj}{L:Loc}(hx:s.get r=some x) (hL:γ r=some L) (ha:alive x=true)
 (hother:∀ b,b≠L.b→w'.heap[b]?=w.heap[b]?) (hsize:w'.heap.size=w.heap.size) (h1:w'.os=w.os) (h2:w'.tape=w.tape) (h3:w'.output=w.output)
 (ho:ObjR P γ L o w'.heap):Stp γ s w γ (s.put r o) w'∧Sim P γ (s.put r o) w':=by
 refine ⟨⟨Le.refl γ,fun r L h h'=>(by rw [h] at h';cases h'),by rw [Zbc];exact Nat.le_refl _,by omega,h1,h2,h3,fun b _ hn=>hother b (fun e=>hn r L hL e.symm),fun k hk _=>Zcg (fun e=>by rw [e,hL] at hk;cases hk),fun b c h h'=>(by rw [h] at h';cases h')⟩,⟨?_,?_,?_,?_,?_,?_,?_⟩⟩
 ·intro k y M hy hM
  rcases Zcw hy with ⟨rfl,rfl⟩|⟨e,hy⟩
  ·rw [hL] at hM;cases hM;exact ho
  ·cases hd:alive y with
   | false=>cases y <;> simp [alive] at hd;trivial
   | true=>exact (h.obj k y M hy hM).heap (hother _ (h.inj k r y x M L hy hx hd ha hM hL e))
 ·intro k k' y y' M M' hy hy' ha1 ha2 hM hM' hne
  have back:∀ {j:Nat}{z:AObj},(s.put r o).get j=some z→alive z=true→∃ z',s.get j=some z'∧alive z'=true:=by
   intro j z hz hza
   rcases Zcw hz with ⟨rfl,rfl⟩|⟨e,hz⟩
   ·exact ⟨x,hx,ha⟩
   ·exact ⟨z,hz,hza⟩
  obtain ⟨z,hz,hza⟩:=back hy ha1
  obtain ⟨z',hz',hza'⟩:=back hy' ha2
  exact h.inj k k' z z' M M' hz hz' hza hza' hM hM' hne
 ·intro k M hM;rw [hsize];exact h.lt k M hM
 ·intro k hk;rw [Zbc] at hk;exact h.nx k hk
 ·intro k y hy
  rw [Zbc]
  rcases Zcw hy with ⟨rfl,_⟩|⟨_,hy⟩
  ·exact h.dom k x hx
  ·exact h.dom k y hy
 ·intro b c hb
  obtain ⟨e,fr,h1,h1'⟩:=h.fzc b c hb
  exact ⟨e,fr,(hother b (fun q=>by rw [q,h.fzr r x L hx ha hL] at hb;cases hb)).trans h1,h1'⟩
 ·intro k y M hy hya hM
  rcases Zcw hy with ⟨rfl,rfl⟩|⟨e,hy⟩
  ·exact h.fzr k x M hx ha hM
  ·exact h.fzr k y M hy hya hM
theorem Sim.move {P:Program}{γ:Gam}{s:St}{w w':World}(h:Sim P γ s w) {r:Nat}{x o:AObj}{L:Loc}(hx:s.get r=some x) (hL:γ r=some L) (ha:alive x=true)
 (hother:∀ b,b≠L.b→w'.heap[b]?=w.heap[b]?) (hsize:w'.heap.size=w.heap.size) (h1:w'.os=w.os) (h2:w'.tape=w.tape) (h3:w'.output=w.output)
 (ho:ObjR P (ext γ s.next L) L o w'.heap):Stp γ s w (ext γ s.next L) ((s.put r .dead).alloc o) w'∧Sim P (ext γ s.next L) ((s.put r .dead).alloc o) w':=by
 have hn:=h.nx s.next (Nat.le_refl _)
 have hle:=Zgr (L:=L) hn
 have hnr:r≠s.next:=fun e=>by rw [e,hn] at hL;cases hL
 have get2:∀ {k:Nat}{y:AObj},((s.put r .dead).alloc o).get k=some y→(k=s.next∧y=o)∨(k=r∧y=.dead)∨(k≠s.next∧k≠r∧s.get k=some y):=by
  intro k y hy
  rcases Zbv hy with ⟨e,e2⟩|⟨e,hy⟩
  ·rw [Zbc] at e;exact .inl ⟨e,e2⟩
  ·rw [Zbc] at e
   rcases Zcw hy with ⟨e',e2⟩|⟨e',hy⟩
   ·exact .inr (.inl ⟨e',e2⟩)
   ·exact .inr (.inr ⟨e,e',hy⟩)
 refine ⟨⟨hle,?_,by rw [Zar,Zbc];omega,by omega,h1,h2,h3,fun b _ hn=>hother b (fun e=>hn r L hL e.symm),fun k hk hlt=>(Zbl (by rw [Zbc];omega)).trans (Zcg (fun e=>by rw [e,hL] at hk;cases hk)),fun b c h h'=>(by rw [show γ.fz b=some c from h] at h';cases h')⟩,⟨?_,?_,?_,?_,?_,?_,?_⟩⟩
 ·intro k M hM hk
  by_cases e:k=s.next
  ·subst e;rw [Za8] at hM;cases hM;exact ⟨Nat.le_refl _,.inr ⟨r,L,hL,rfl⟩⟩
  ·rw [Zba _ _ e,hk] at hM;cases hM
 ·intro k y M hy hM
  rcases get2 hy with ⟨rfl,rfl⟩|⟨rfl,rfl⟩|⟨e,e',hy⟩
  ·rw [Za8] at hM;cases hM;exact ho
  ·trivial
  ·rw [Zba _ _ e] at hM
   cases hd:alive y with
   | false=>cases y <;> simp [alive] at hd;trivial
   | true=>exact ((h.obj k y M hy hM).mono hle).heap (hother _ (h.inj k r y x M L hy hx hd ha hM hL e'))
 ·intro k k' y y' M M' hy hy' ha1 ha2 hM hM' hne
  rcases get2 hy with ⟨rfl,rfl⟩|⟨rfl,rfl⟩|⟨e,e',hyy⟩
  ·rcases get2 hy' with ⟨rfl,rfl⟩|⟨rfl,rfl⟩|⟨g,g',hy'⟩
   ·exact absurd rfl hne
   ·simp [alive] at ha2
   ·rw [Za8] at hM;cases hM;rw [Zba _ _ g] at hM'
    exact fun q=>h.inj k' r y' x M' L hy' hx ha2 ha hM' hL g' q.symm
  ·simp [alive] at ha1
  ·rw [Zba _ _ e] at hM
   have hy0:=hyy
   rcases get2 hy' with ⟨rfl,rfl⟩|⟨rfl,rfl⟩|⟨g,g',hy'⟩
   ·rw [Za8] at hM';cases hM'
    exact h.inj k r y x M L hy0 hx ha1 ha hM hL e'
   ·simp [alive] at ha2
   ·rw [Zba _ _ g] at hM'
    exact h.inj k k' y y' M M' hyy hy' ha1 ha2 hM hM' hne
 ·intro k M hM
  rw [hsize]
  by_cases e:k=s.next
  ·subst e;rw [Za8] at hM;cases hM;exact h.lt r L hL
  ·rw [Zba _ _ e] at hM;exact h.lt k M hM
 ·intro k hk
  rw [Zar,Zbc] at hk
  rw [Zba _ _ (by omega)]
  exact h.nx k (by omega)
 ·intro k y hy
  rw [Zar,Zbc]
  rcases get2 hy with ⟨rfl,_⟩|⟨rfl,_⟩|⟨_,_,hy⟩
  ·omega
  ·have:=h.dom k x hx;omega
  ·have:=h.dom k y hy;omega
 ·intro b c hb
  obtain ⟨e,fr,h1,h1'⟩:=h.fzc b c hb
  exact ⟨e,fr,(hother b (fun q=>by have hb':γ.fz b=some c:=hb;rw [q,h.fzr r x L hx ha hL] at hb';cases hb')).trans h1,h1'⟩
 ·intro k y M hy hya hM
  rcases get2 hy with ⟨rfl,rfl⟩|⟨rfl,rfl⟩|⟨e,e',hy⟩
  ·rw [Za8] at hM;cases hM;exact h.fzr r x L hx ha hL
  ·simp [alive] at hya
  ·rw [Zba _ _ e] at hM;exact h.fzr k y M hy hya hM
theorem Sim.drew {P:Program}{γ:Gam}{s:St}{w:World}(h:Sim P γ s w):Sim P γ s w.drew:=⟨h.obj,h.inj,h.lt,h.nx,h.dom,h.fzc,h.fzr⟩
theorem Stp.drew {γ:Gam}{s:St}{w:World}:Stp γ s w γ s w.drew:=
 ⟨Le.refl γ,fun r L h h'=>(by rw [h] at h';cases h'),Nat.le_refl _,Nat.le_refl _,rfl,rfl,rfl,fun _ _ _=>rfl,fun _ _ _=>rfl,fun b c h h'=>(by rw [h] at h';cases h')⟩
end Go.AM
namespace Go.AM
theorem Zbu {α:Type}(l:List α):Zd0 l=l.length:=by
 induction l with
 | nil=>rfl
 | cons x l ih=>show Nat.succ (Zd0 l)=_;rw [ih];rfl
theorem Zg5 {α:Type}(l:List α):∀ i,Zra l i=l[i]?:=by
 induction l with
 | nil=>intro i;rfl
 | cons x l ih=>intro i;cases i with
  | zero=>rfl
  | succ i=>show Zra l i=_;rw [ih];simp
theorem Ze1 {α:Type}(n:Nat):∀ l:List α,Zgs n l=l.drop n:=by
 induction n with
 | zero=>intro l;rfl
 | succ n ih=>intro l;cases l with
  | nil=>rfl
  | cons x l=>show Zgs n l=_;rw [ih];rfl
theorem Zfm {α:Type}(n:Nat):∀ {l r:List α},Zdf n l=some r→r=l.take n∧n≤l.length:=by
 induction n with
 | zero=>intro l r h;cases h;exact ⟨rfl,Nat.zero_le _⟩
 | succ n ih=>intro l r h;cases l with
  | nil=>cases h
  | cons x l=>
   change (Option.rec none (fun r=>some (x::r)) (Zdf n l):Option (List α))=some r at h
   cases ht:Zdf n l with
   | none=>rw [ht] at h;cases h
   | some q=>rw [ht] at h;cases h;obtain ⟨e,hl⟩:=ih ht;exact ⟨by rw [e];rfl,by simp;omega⟩
theorem Zda {α:Type}(a b:List α):Zgx a b=a++b:=by
 induction a with
 | nil=>rfl
 | cons x a ih=>show x::Zgx a b=_;rw [ih];rfl
theorem Zzs (vs:List AV):∀ {l r:List AV},updH vs l=some r→r=vs++l.drop vs.length∧vs.length≤l.length:=by
 induction vs with
 | nil=>intro l r h;cases h;exact ⟨rfl,Nat.zero_le _⟩
 | cons v vs ih=>intro l r h;cases l with
  | nil=>cases h
  | cons x l=>
   change (Option.rec none (fun r=>some (v::r)) (updH vs l):Option (List AV))=some r at h
   cases ht:updH vs l with
   | none=>rw [ht] at h;cases h
   | some q=>rw [ht] at h;cases h;obtain ⟨e,hl⟩:=ih ht;exact ⟨by rw [e];simp,by simp;omega⟩
theorem Zvk (vs:List AV) (o:Nat):∀ {l r:List AV},upd vs o l=some r→r=l.take o++vs++l.drop (o+vs.length)∧o+vs.length≤l.length:=by
 induction o with
 | zero=>intro l r h;obtain ⟨e,hl⟩:=Zzs vs h;exact ⟨by simpa using e,by omega⟩
 | succ o ih=>intro l r h;cases l with
  | nil=>cases h
  | cons x l=>
   change (Option.rec none (fun r=>some (x::r)) (upd vs o l):Option (List AV))=some r at h
   cases ht:upd vs o l with
   | none=>rw [ht] at h;cases h
   | some q=>
    rw [ht] at h;cases h;obtain ⟨e,hl⟩:=ih ht
    exact ⟨by rw [e,show o+1+vs.length=(o+vs.length)+1 by omega];simp,by simp;omega⟩
theorem Yau (z:List AV) (n:Nat):rep z n=Zzj z n:=by
 induction n with
 | zero=>rfl
 | succ n ih=>show Zgx z (rep z n)=_;rw [Zda,ih];rfl
theorem Zkp {v:AV}{r o:Nat}(h:Zcp v=.ptr r o):v=.ptr r o:=by
 cases v <;> first|(cases h;rfl)|cases h
theorem Yhq {v:AV}{l:List AV}(h:Zcp v=.fp l):v=.fp l:=by
 cases v <;> first|(cases h;rfl)|cases h
theorem Zu8 {v:AV}{n:Nat}{c:Option Nat}{l:List AV}(h:Zi8 v=.fz n c l):v=.fz n c l:=by
 cases v <;> first|(cases h;rfl)|cases h
theorem Zc2 {v:AV}{k:IntKind}{n:Int}(h:asInt v=.int k n):v=.int k n:=by
 cases v <;> first|(cases h;rfl)|cases h
theorem Yhs {v:AV}{l:List AV}(h:asAgg v=.l l):v=.agg l:=by
 cases v <;> first|(cases h;rfl)|cases h
theorem Yhp {v:AV}{l:List AV}(h:Zs7 v=.l l):v=.tup l:=by
 cases v <;> first|(cases h;rfl)|cases h
theorem Zmv {v:AV}{l:List Nat}(h:Zoh v=.s l):v=.str l:=by
 cases v <;> first|(cases h;rfl)|cases h
theorem Zq4 {v:AV}{r o n:Nat}{c:Option Nat}(h:Zi8 v=.sl r o n c):v=.sl r o n c:=by
 cases v <;> first|(cases h;rfl)|cases h
theorem Zko {v:AV}(h:Zi8 v=.nils):v=.nils:=by
 cases v <;> first|rfl|cases h
theorem Zq5 {v:AV}(h:Zi8 v=.es):v=.es:=by
 cases v <;> first|rfl|cases h
theorem asMap_m {v:AV}{r:Nat}(h:Zmb v=.m r):v=.map r:=by
 cases v <;> first|(cases h;rfl)|cases h
theorem Ydt {v:AV}(h:Zmb v=.nil):v=.nilm:=by
 cases v <;> first|rfl|cases h
theorem Zg9 {v:AV}{n:Nat}(h:Zq6 v=.n n):∃ k,v=.int k (.ofNat n):=by
 cases v with
 | int k i=>cases i with
  | ofNat m=>cases h;exact ⟨k,rfl⟩
  | negSucc m=>cases h
 | _=>cases h
theorem Zkq {v:AV}(h:asBool v=.tt):v=.bool true:=by
 cases v with
 | bool b=>cases b with
  | true=>rfl
  | false=>cases h
 | _=>cases h
theorem Zkr {v:AV}(h:asBool v=.ff):v=.bool false:=by
 cases v with
 | bool b=>cases b with
  | false=>rfl
  | true=>cases h
 | _=>cases h
theorem Ydu {v:AV}{f:Nat}{a b:List AV}(h:Zxe v=.fn f a b):v=.fn f a b:=by
 cases v <;> first|(cases h;rfl)|cases h
theorem Yhr {v:AV}{l:Nat}(h:Zxe v=.yld l):v=.yld l:=by
 cases v <;> first|(cases h;rfl)|cases h
theorem Za5 {x:AO}{t:AT}{k:AV→RV}{v:AV}{s:St}(h:wth x t k=.ok v s):∃ a,ev x t=.some a∧k a=.ok v s:=by
 unfold wth at h
 cases hx:ev x t with
 | none=>rw [hx] at h;cases h
 | some a=>rw [hx] at h;exact ⟨a,rfl,h⟩
theorem Zv2 {a:AV}{k:Nat→Nat→RV}{v:AV}{s:St}(h:(PR.rec .fail k (fun _=>.fail) (Zcp a):RV)=.ok v s):∃ r o,a=.ptr r o∧k r o=.ok v s:=by
 cases hx:Zcp a with
 | no=>rw [hx] at h;cases h
 | ptr r o=>rw [hx] at h;exact ⟨r,o,Zkp hx,h⟩
 | fp l=>rw [hx] at h;cases h
theorem Zqg {a:AV}{k:Nat→Nat→RV}{kf:List AV→RV}{v:AV}{s:St}(h:(PR.rec .fail k kf (Zcp a):RV)=.ok v s):(∃ r o,a=.ptr r o∧k r o=.ok v s)∨∃ l,a=.fp l∧kf l=.ok v s:=by
 cases hx:Zcp a with
 | no=>rw [hx] at h;cases h
 | ptr r o=>rw [hx] at h;exact .inl ⟨r,o,Zkp hx,h⟩
 | fp l=>rw [hx] at h;exact .inr ⟨l,Yhq hx,h⟩
theorem int_ok {a:AV}{k:IntKind→Int→RV}{v:AV}{s:St}(h:(IR.rec .fail k (asInt a):RV)=.ok v s):∃ r o,a=.int r o∧k r o=.ok v s:=by
 cases hx:asInt a with
 | no=>rw [hx] at h;cases h
 | int r o=>rw [hx] at h;exact ⟨r,o,Zc2 hx,h⟩
theorem Zpw {a:AV}{k:List AV→RV}{v:AV}{s:St}(h:(LR.rec .fail k (asAgg a):RV)=.ok v s):∃ l,a=.agg l∧k l=.ok v s:=by
 cases hx:asAgg a with
 | no=>rw [hx] at h;cases h
 | l l=>rw [hx] at h;exact ⟨l,Yhs hx,h⟩
theorem tup_ok {a:AV}{k:List AV→RV}{v:AV}{s:St}(h:(LR.rec .fail k (Zs7 a):RV)=.ok v s):∃ l,a=.tup l∧k l=.ok v s:=by
 cases hx:Zs7 a with
 | no=>rw [hx] at h;cases h
 | l l=>rw [hx] at h;exact ⟨l,Yhp hx,h⟩
theorem Yaa {a:AV}{k:Nat→Nat→Nat→Option Nat→RV}{x y:RV}{v:AV}{s:St}(h:(SR.rec .fail k x y (fun _ _ _=>.fail) (Zi8 a):RV)=.ok v s):
 (∃ r o n c,a=.sl r o n c∧k r o n c=.ok v s)∨(a=.nils∧x=.ok v s)∨(a=.es∧y=.ok v s):=by
 cases hx:Zi8 a with
 | no=>rw [hx] at h;cases h
 | sl r o n c=>rw [hx] at h;exact .inl ⟨r,o,n,c,Zq4 hx,h⟩
 | nils=>rw [hx] at h;exact .inr (.inl ⟨Zko hx,h⟩)
 | es=>rw [hx] at h;exact .inr (.inr ⟨Zq5 hx,h⟩)
 | fz n c l=>rw [hx] at h;cases h
theorem Zi4 {a:AV}{k:Nat→Nat→Nat→Option Nat→RV}{x y:RV}{kf:Nat→Option Nat→List AV→RV}{v:AV}{s:St}(h:(SR.rec .fail k x y kf (Zi8 a):RV)=.ok v s):
 (∃ r o n c,a=.sl r o n c∧k r o n c=.ok v s)∨(a=.nils∧x=.ok v s)∨(a=.es∧y=.ok v s)∨∃ n c l,a=.fz n c l∧kf n c l=.ok v s:=by
 cases hx:Zi8 a with
 | no=>rw [hx] at h;cases h
 | sl r o n c=>rw [hx] at h;exact .inl ⟨r,o,n,c,Zq4 hx,h⟩
 | nils=>rw [hx] at h;exact .inr (.inl ⟨Zko hx,h⟩)
 | es=>rw [hx] at h;exact .inr (.inr (.inl ⟨Zq5 hx,h⟩))
 | fz n c l=>rw [hx] at h;exact .inr (.inr (.inr ⟨n,c,l,Zu8 hx,h⟩))
theorem Zpj {a:AV}{k:Nat→RV}{x:RV}{v:AV}{s:St}(h:(MR.rec .fail k x (Zmb a):RV)=.ok v s):(∃ r,a=.map r∧k r=.ok v s)∨(a=.nilm∧x=.ok v s):=by
 cases hx:Zmb a with
 | no=>rw [hx] at h;cases h
 | m r=>rw [hx] at h;exact .inl ⟨r,asMap_m hx,h⟩
 | nil=>rw [hx] at h;exact .inr ⟨Ydt hx,h⟩
theorem Zc1 {a:NR}{k:Nat→RV}{v:AV}{s:St}(h:(NR.rec .fail k a:RV)=.ok v s):∃ n,a=.n n∧k n=.ok v s:=by
 cases a with
 | no=>cases h
 | n n=>exact ⟨n,rfl,h⟩
theorem Za3 {α:Type}{a:Option α}{k:α→RV}{v:AV}{s:St}(h:(Option.rec .fail k a:RV)=.ok v s):∃ x,a=some x∧k x=.ok v s:=by
 cases a with
 | none=>cases h
 | some x=>exact ⟨x,rfl,h⟩
theorem Zco {b:Bool}{r:RV}{v:AV}{s:St}(h:gd b r=.ok v s):b=true∧r=.ok v s:=by
 cases b with
 | false=>cases h
 | true=>exact ⟨rfl,h⟩
theorem Zru {x:OV}{s':St}{v:AV}{s:St}(h:ret x s'=.ok v s):x=.some v∧s'=s:=by
 cases x with
 | none=>cases h
 | some a=>cases h;exact ⟨rfl,rfl⟩
theorem Zk2 {x:Option AV}{s':St}{v:AV}{s:St}(h:retO x s'=.ok v s):x=some v∧s'=s:=by
 cases x with
 | none=>cases h
 | some a=>cases h;exact ⟨rfl,rfl⟩
theorem Zne {x:Option St}{u v:AV}{s:St}(h:Yei u x=.ok v s):x=some s∧u=v:=by
 cases x with
 | none=>cases h
 | some a=>cases h;exact ⟨rfl,rfl⟩
theorem Zr7 {x:OV}{n:Nat}(h:Yif x=.n n):∃ k,x=.some (.int k (.ofNat n)):=by
 cases x with
 | none=>cases h
 | some v=>obtain ⟨k,rfl⟩:=Zg9 h;exact ⟨k,rfl⟩
section
variable {P:Program}{γ:Gam}{s:St}{w:World}
theorem Zd4 {r e:Nat}{cs:List AV}(h:Zf1 r s=.row e cs):s.get r=some (.row e cs):=by
 unfold Zf1 at h
 cases hg:s.get r with
 | none=>rw [hg] at h;cases h
 | some o=>rw [hg] at h;cases o <;> first|(cases h;rfl)|cases h
theorem Sim.row (h:Sim P γ s w) {r e:Nat}{cs:List AV}{L:Loc}(hr:s.get r=some (.row e cs)) (hL:γ r=some L):
 ∃ c:Array Value,w.heap[L.b]?=some (.cells c e (0,0))∧L.o=0∧c.size=L.sz∧Zdd P e=some L.es∧cs.length≤c.size∧
  ∀ (i:Nat) v,cs[i]?=some v→∃ v',c[i]?=some v'∧VR γ v v'∧v'.oneCell'=true:=by
 obtain ⟨c,h1,h2,h3,h4,h5,h6,h7⟩:=h.obj r _ L hr hL
 exact ⟨c,h1,h2,h3,h4,h5,h6⟩
theorem Sim.rowA (h:Sim P γ s w) {r e:Nat}{cs:List AV}{L:Loc}(hr:s.get r=some (.row e cs)) (hL:γ r=some L):
 ∃ c:Array Value,w.heap[L.b]?=some (.cells c e (0,0))∧L.o=0∧c.size=L.sz∧Zdd P e=some L.es∧cs.length≤c.size∧
  (∀ (i:Nat) v,cs[i]?=some v→∃ v',c[i]?=some v'∧VR γ v v'∧v'.oneCell'=true)∧∀ v' ∈ c.toList,v'.oneCell'=true:=h.obj r _ L hr hL
theorem Znr (h:Sim P γ s w) {r o:Nat}{v:AV}{L:Loc}(hl:load1 r o s=some v) (hL:γ r=some L):
 ∃ v',w.cell? ⟨L.b,L.o+o,none⟩=some v'∧VR γ v v'∧v'.oneCell'=true:=by
 unfold load1 at hl
 cases hr:Zf1 r s with
 | no=>rw [hr] at hl;cases hl
 | row e cs=>
  rw [hr] at hl
  change Zra cs o=some v at hl
  rw [Zg5] at hl
  obtain ⟨c,hc,ho,_,_,_,hv⟩:=h.row (Zd4 hr) hL
  obtain ⟨v',hv',hR,h1⟩:=hv o v hl
  refine ⟨v',?_,hR,h1⟩
  rw [ho,Nat.zero_add]
  simp [World.cell?,hc,hv']
theorem Yck (h:Sim P γ s w) {b:Nat}{cs:FzC}(hb:γ.fz b=some cs) {o:Nat}{u:Value}(hu:cs[o]?=some u):w.cell? ⟨b,o,none⟩=some u:=by
 obtain ⟨e,fr,h1,_⟩:=h.fzc b cs hb
 have hu':cs.cs[o]?=some u:=hu
 simp [World.cell?,h1,hu']
theorem fzV {n:Nat}{cap:Option Nat}{l:List AV}{v':Value}(h:VR γ (.fz n cap l) v'):∃ b o c cs vs,v'=.slice (some ⟨b,o,none⟩) n c∧γ.fz b=some cs∧(∀ (j:Nat) (u:Value),vs[j]?=some u→cs[o+j]?=some u)∧(∀ u ∈ vs,u.oneCell'=true)∧All2 (VR γ) l vs∧n≤c∧CapR cs o c cap∧hfs l=true:=by
 cases h with
 | fz n cap l vs b o c cs h1 h2 h3 h4 h5 h6 h7=>exact ⟨b,o,c,cs,vs,rfl,h1,h2,h3,h4,h5,h6,h7⟩
theorem fpV {l:List AV}{v':Value}(h:VR γ (.fp l) v'):∃ b o cs vs,v'=.pointer (some ⟨b,o,none⟩)∧γ.fz b=some cs∧(∀ (j:Nat) (u:Value),vs[j]?=some u→cs[o+j]?=some u)∧(∀ u ∈ vs,u.oneCell'=true)∧All2 (VR γ) l vs∧hfs l=true:=by
 cases h with
 | fp l vs b o cs h1 h2 h3 h4 h5=>exact ⟨b,o,cs,vs,rfl,h1,h2,h3,h4,h5⟩
theorem Zcf (b o j:Nat):(⟨b,o,none⟩:Addr).add j=⟨b,o+j,none⟩:=by unfold Addr.add;split <;> simp_all
theorem Zeu (h:Sim P γ s w) {r o n:Nat}{cs:List AV}{L:Loc}(hl:load r o n s=some cs) (hL:γ r=some L):
 ∃ vs:List Value,vs.length=n∧(∀ j u,vs[j]?=some u→w.cell? ((⟨L.b,L.o+o,none⟩:Addr).add j)=some u)∧All2 (VR γ) cs vs∧(∀ v ∈ vs,v.oneCell'=true):=by
 unfold load at hl
 cases hr:Zf1 r s with
 | no=>rw [hr] at hl;cases hl
 | row e rs=>
  rw [hr] at hl
  change Zdf n (Zgs o rs)=some cs at hl
  obtain ⟨e1,hn⟩:=Zfm n hl
  rw [Ze1] at e1 hn
  subst e1
  obtain ⟨c,hc,ho,_,_,hlen,hv⟩:=h.row (Zd4 hr) hL
  simp at hn
  refine ⟨(c.toList.drop o).take n,?_,?_,?_,?_⟩
  ·simp;omega
  ·intro j u hu
   rw [Zcf,ho,Nat.zero_add]
   rw [List.getElem?_take] at hu
   split at hu
   ·rw [List.getElem?_drop] at hu
    simp [World.cell?,hc]
    simpa using hu
   ·cases hu
  ·refine Zhj (by simp;omega) ?_
   intro i a b ha hb
   rw [List.getElem?_take] at ha hb
   split at ha
   ·rw [if_pos ‹_›] at hb
    rw [List.getElem?_drop] at ha hb
    obtain ⟨v',hv',hR,_⟩:=hv _ _ ha
    have:c[o+i]?=some b:=by simpa using hb
    rw [this] at hv';cases hv';exact hR
   ·cases ha
  ·intro v hv'
   obtain ⟨i,hi⟩:=List.getElem?_of_mem hv'
   rw [List.getElem?_take] at hi
   split at hi
   ·rw [List.getElem?_drop] at hi
    have hci:c[o+i]?=some v:=by simpa using hi
    obtain ⟨u,_,hu⟩:∃ u,rs[o+i]?=some u∧True:=⟨rs[o+i]'(by omega),by rw [List.getElem?_eq_getElem],trivial⟩
    obtain ⟨v',hv',_,h1⟩:=hv (o+i) (rs[o+i]'(by omega)) (List.getElem?_eq_getElem _)
    rw [hci] at hv';cases hv';exact h1
   ·cases hi
theorem Zjm (h:Sim P γ s w) {b o k n:Nat}{cs:FzC}{l cs':List AV}{vs:List Value}(hb:γ.fz b=some cs) (h2:∀ (j:Nat) (u:Value),vs[j]?=some u→cs[o+j]?=some u) (h3:∀ u ∈ vs,u.oneCell'=true) (h4:All2 (VR γ) l vs) (ht:Zdf n (Zgs k l)=some cs'):
 ∃ us:List Value,us.length=n∧(∀ (j:Nat) (u:Value),us[j]?=some u→cs[o+k+j]?=some u)∧All2 (VR γ) cs' us∧(∀ v ∈ us,v.oneCell'=true):=by
 obtain ⟨e1,hn⟩:=Zfm n ht
 rw [Ze1] at e1 hn
 subst e1
 have hl:=h4.length
 refine ⟨(vs.drop k).take n,?_,?_,(h4.drop k).take n,fun v hv=>h3 v (List.mem_of_mem_drop (List.mem_of_mem_take hv))⟩
 ·simp at hn ⊢;omega
 ·intro j u hj
  rw [List.getElem?_take] at hj
  split at hj
  ·rw [List.getElem?_drop] at hj;rw [Nat.add_assoc];exact h2 _ _ hj
  ·cases hj
theorem Yir {k n:Nat}{l cs':List AV}(h:hfs l=true) (ht:Zdf n (Zgs k l)=some cs'):hfs cs'=true:=by
 obtain ⟨e1,_⟩:=Zfm n ht
 rw [Ze1] at e1;subst e1
 exact Ygm (Zmn h k) n
theorem Zkd (h:Sim P γ s w) {b o:Nat}{cs:FzC}{us:List Value}(hb:γ.fz b=some cs) (h2:∀ (j:Nat) (u:Value),us[j]?=some u→cs[o+j]?=some u):∀ j u,us[j]?=some u→w.cell? ((⟨b,o,none⟩:Addr).add j)=some u:=by
 intro j u hj
 rw [Zcf]
 exact Yck h hb (h2 j u hj)
theorem Zux {b o k:Nat}{cs:FzC}{l:List AV}{vs:List Value}(hb:γ.fz b=some cs) (h2:∀ (j:Nat) (u:Value),vs[j]?=some u→cs[o+j]?=some u) (h3:∀ u ∈ vs,u.oneCell'=true) (h4:All2 (VR γ) l vs) (h5:hfs l=true):VR γ (.fp (Zgs k l)) (.pointer (some ⟨b,o+k,none⟩)):=by
 rw [Ze1]
 refine .fp _ (vs.drop k) b (o+k) cs hb (fun j u hj=>?_) (fun u hu=>h3 u (List.mem_of_mem_drop hu)) (h4.drop k) (Zmn h5 k)
 rw [List.getElem?_drop] at hj
 rw [Nat.add_assoc];exact h2 _ _ hj
theorem Zm6 (w:World) (g:Nat) (cs:Array Value):(w.setRow g cs).heap.size=w.heap.size:=by simp [World.setRow]
theorem Zfq (h:Sim P γ s w) {r o:Nat}{cs:List AV}{vs:List Value}{s':St}{L:Loc}(hs:storeAt r o cs s=some s') (hL:γ r=some L) (hR:All2 (VR γ) cs vs) (h1:∀ v ∈ vs,v.oneCell'=true):
 ∃ w',(storeCells ⟨L.b,L.o+o,none⟩ vs).run P w=.ok () w'∧Stp γ s w γ s' w'∧Sim P γ s' w':=by
 unfold storeAt at hs
 cases hr:Zf1 r s with
 | no=>rw [hr] at hs;cases hs
 | row e rs=>
  rw [hr] at hs
  change (Option.rec none (fun cs'=>some (s.put r (.row e cs'))) (upd cs o rs):Option St)=some s' at hs
  cases hu:upd cs o rs with
  | none=>rw [hu] at hs;cases hs
  | some rs'=>
   rw [hu] at hs
   cases hs
   obtain ⟨e1,hn⟩:=Zvk cs o hu
   have hg:=Zd4 hr
   obtain ⟨c,hc,ho,hsz,hes,hlen,hv,hall⟩:=h.rowA hg hL
   have hl:=hR.length
   have hrun:=run_storeCells_at (P:=P) L.b o e vs 0 c w hc (by omega) h1
   simp only [Nat.add_zero] at hrun
   refine ⟨_,by rw [ho,Nat.zero_add];exact hrun,?_⟩
   refine h.turn hg hL rfl (fun b hb=>setRow_other w L.b b _ hb) (Zm6 _ _ _) rfl rfl rfl ?_
   refine ⟨_,setRow_heap w L.b c _ e _ hc,ho,?_,hes,?_,?_,fun v' hv'=>?_⟩
   rotate_right
   ·simp only [List.append_assoc,List.mem_append] at hv'
    rcases hv' with hv'|hv'|hv'
    ·exact hall _ (List.mem_of_mem_take hv')
    ·exact h1 _ hv'
    ·exact hall _ (List.mem_of_mem_drop hv')
   ·simp;omega
   ·subst e1;simp;omega
   ·intro i v hi
    subst e1
    by_cases hi1:i<o
    ·rw [List.append_assoc,List.getElem?_append_left (by simp;omega),List.getElem?_take,if_pos hi1] at hi
     obtain ⟨v',hv',hRv,hone⟩:=hv i v hi
     refine ⟨v',?_,hRv,hone⟩
     rw [List.getElem?_toArray,List.append_assoc,List.getElem?_append_left (by simp;omega),List.getElem?_take,if_pos hi1]
     simpa using hv'
    ·by_cases hi2:i<o+cs.length
     ·rw [List.append_assoc,List.getElem?_append_right (by simp;omega),List.getElem?_append_left (by simp;omega)] at hi
      simp only [List.length_take,Nat.min_eq_left (show o≤rs.length by omega)] at hi
      obtain ⟨v',hv',hRv⟩:=hR.get hi
      refine ⟨v',?_,hRv,h1 v' (List.mem_of_getElem? hv')⟩
      rw [List.getElem?_toArray,List.append_assoc,List.getElem?_append_right (by simp;omega),List.getElem?_append_left (by simp;omega)]
      simp only [List.length_take,Array.length_toList,Nat.min_eq_left (show o≤c.size by omega)]
      exact hv'
     ·rw [List.getElem?_append_right (by simp;omega),List.getElem?_drop] at hi
      simp only [List.length_append,List.length_take,Nat.min_eq_left (show o≤rs.length by omega)] at hi
      rw [show o+cs.length+(i-(o+cs.length))=i by omega] at hi
      obtain ⟨v',hv',hRv,hone⟩:=hv i v hi
      refine ⟨v',?_,hRv,hone⟩
      rw [List.getElem?_toArray,List.getElem?_append_right (by simp;omega),List.getElem?_drop]
      simp only [List.length_append,List.length_take,Array.length_toList,Nat.min_eq_left (show o≤c.size by omega)]
      rw [show o+vs.length+(i-(o+vs.length))=i by omega]
      simpa using hv'
theorem Zvy {e es:Nat}{cs:List AV}{vs:Array Value}(hes:Zdd P e=some es) (hR:All2 (VR γ) cs vs.toList) (h1:∀ v ∈ vs.toList,v.oneCell'=true) {γ':Gam}(hle:Le γ γ'):
 ObjR P γ' ⟨w.heap.size,0,vs.size,es⟩ (.row e cs) (w.alloc (.cells vs e)).heap:=by
 have hl:=hR.length
 refine ⟨vs,?_,rfl,rfl,hes,by simpa using Nat.le_of_eq hl,?_,h1⟩
 ·show (w.heap.push _)[w.heap.size]?=_;simp
 ·intro i v hi
  obtain ⟨v',hv',hr⟩:=hR.get hi
  exact ⟨v',by simpa using hv',hr.mono hle,h1 v' (List.mem_of_getElem? hv')⟩
end
end Go.AM
