/-
  AN ABSTRACT MACHINE: a run of Go code over rows with names of their own. No conditions: definitions alone.
-/
import GoSem.Dispatch
set_option linter.unusedVariables false
set_option linter.unusedSimpArgs false
namespace Go.AM
noncomputable section

inductive AV where
  | bool (b : Bool) | int (k : IntKind) (n : Int) | str (l : List Nat)
  | ptr (r o : Nat) | nilp
  | sl (r o len : Nat) (cap : Option Nat) | nils | es
  | map (r : Nat) | nilm
  | fn (f : Nat) (first cap : List AV) | yld (l : Nat) | nilf
  | iface (t : Nat) (v : AV) | nili
  | agg (l : List AV) | tup (l : List AV)
  | any
  | fz (n : Nat) (cap : Option Nat) (l : List AV) | fp (l : List AV)

inductive AO where
  | t (n : Nat) | c (v : AV)

inductive AOp where
  | mv (x : AO)
  | pick (c a b : AO)
  | new (elem es : Nat) (z : List AV)
  | box (elem n : Nat) (x : AO)
  | build (z : List AV) (ps : List (Nat × Nat × AO))
  | bsl (elem es len : Nat) (z : List AV) (ps : List (Nat × Nat × AO))
  | ld1 (x : AO) | ldn (n : Nat) (x : AO)
  | st (n : Nat) (a x : AO)
  | nilck (x : AO)
  | bin (op : BinOp) (x y : AO)
  | eqb (kd : Nat) (neg : Bool) (x y : AO)
  | eqf (ks : List Nat) (neg : Bool) (x y : AO)
  | un (op : UnOp) (x : AO)
  | cvi (k : IntKind) (x : AO)
  | b2s (x : AO)
  | mkfn (f : Nat) (first cap : List AO)
  | mks (elem es : Nat) (z : List AV) (l c : AO)
  | slc (es : Nat) (x : AO) (lo hi mx : Option AO)
  | sla (es n : Nat) (x : AO) (lo hi mx : Option AO)
  | fa (off : Nat) (x : AO)
  | fld1 (off : Nat) (x : AO)
  | fldn (off n : Nat) (x : AO)
  | ixs (es : Nat) (x i : AO)
  | ixa (len es : Nat) (x i : AO)
  | ixv (len : Nat) (x i : AO)
  | ext (x : AO) (i : Nat)
  | len (x : AO) | lenm (x : AO) | alen (n : Nat)
  | mn (isMax : Bool) (xs : List AO)
  | app (elem es : Nat) (s x : AO)
  | copy (es : Nat) (d s : AO)
  | call (f : AO) (args : List AO)
  | scall (f : Nat) (args : List AO)
  | mkmap
  | mset (m k v : AO)
  | mget (z : AV) (ok : Bool) (m k : AO)
  | mdel (m k : AO)
  | clr (z : List AV) (x : AO)
  | capo (x : AO)
  | app0 (elem es : Nat) (z : List AV) (s k : AO)
  | bad

inductive AOper where
  | mk (dst : Nat) (op : AOp) (guard : Option (Nat × Bool))
  | chk (dst : Nat) (op : AOp) (guard : Option (Nat × Bool))

inductive AC where
  | skip
  | reg (ops : List AOper)
  | seq (a b : AC)
  | cond (c : AO) (a b : AC)
  | block (id : Nat) (b : AC)
  | loop (b : AC)
  | rng (g : AO) (ps : List Nat) (assign body : AC)
  | exit (id : Nat)
  | ret

inductive ARes where
  | tmp (t : Nat) | cell (t : Nat) | cells (t n : Nat)

inductive AFn where
  | mk (code : AC) (res : List ARes)

inductive T (α : Type) where
  | lf | nd (v : Option α) (l r : T α)
namespace T
def get {α : Type} (t : T α) : Nat → Option α :=
  T.rec (motive := fun _ => Nat → Option α) (fun _ => none)
    (fun v _ _ il ir k => Nat.rec (motive := fun _ => Option α) v (fun k _ => Bool.rec (ir (Nat.div k 2)) (il (Nat.div k 2)) (Nat.beq (Nat.mod k 2) 0)) k) t
def sing {α : Type} (x : α) : Nat → Nat → T α :=
  Nat.rec (motive := fun _ => Nat → T α) (fun _ => .lf)
    (fun _ ih k => Nat.rec (motive := fun _ => T α) (.nd (some x) .lf .lf) (fun k _ => Bool.rec (.nd none .lf (ih (Nat.div k 2))) (.nd none (ih (Nat.div k 2)) .lf) (Nat.beq (Nat.mod k 2) 0)) k)
def set {α : Type} (t : T α) : α → Nat → T α :=
  T.rec (motive := fun _ => α → Nat → T α) (fun x k => sing x 64 k)
    (fun v l r il ir x k => Nat.rec (motive := fun _ => T α) (.nd (some x) l r) (fun k _ => Bool.rec (.nd v l (ir x (Nat.div k 2))) (.nd v (il x (Nat.div k 2)) r) (Nat.beq (Nat.mod k 2) 0)) k) t
end T

inductive AObj where
  | row (elem : Nat) (cells : List AV)
  | dead
  | map (es : List (AV × AV × Nat)) (clock : Nat)
  | loop (st : LoopState) (pend : Option Nat) (fn : Nat) (tmps : T AV) (ps : List Nat) (assign body : AC) (d : Nat)
  | defd

inductive St where
  | mk (next : Nat) (heap : T AObj)

abbrev AT := T AV
inductive RV where
  | fail | ok (v : AV) (s : St)
inductive OV where
  | none | some (v : AV)

inductive PR where | no | ptr (r o : Nat) | fp (l : List AV)
def asPtr (v : AV) : PR := AV.rec (motive_1 := fun _ => PR) (motive_2 := fun _ => Unit)
  (fun _ => .no) (fun _ _ => .no) (fun _ => .no) (fun r o => .ptr r o) (.no) (fun _ _ _ _ => .no) (.no) (.no) (fun _ => .no) (.no) (fun _ _ _ _ _ => .no) (fun _ => .no) (.no) (fun _ _ _ => .no) (.no) (fun _ _ => .no) (fun _ _ => .no) (.no) (fun _ _ _ _ => .no) (fun l _ => .fp l)
  () (fun _ _ _ _ => ()) v
inductive IR where | no | int (k : IntKind) (n : Int)
def asInt (v : AV) : IR := AV.rec (motive_1 := fun _ => IR) (motive_2 := fun _ => Unit)
  (fun _ => .no) (fun k n => .int k n) (fun _ => .no) (fun _ _ => .no) (.no) (fun _ _ _ _ => .no) (.no) (.no) (fun _ => .no) (.no) (fun _ _ _ _ _ => .no) (fun _ => .no) (.no) (fun _ _ _ => .no) (.no) (fun _ _ => .no) (fun _ _ => .no) (.no) (fun _ _ _ _ => .no) (fun _ _ => .no)
  () (fun _ _ _ _ => ()) v
inductive BR where | no | tt | ff
def asBool (v : AV) : BR := AV.rec (motive_1 := fun _ => BR) (motive_2 := fun _ => Unit)
  (fun b => Bool.rec .ff .tt b) (fun _ _ => .no) (fun _ => .no) (fun _ _ => .no) (.no) (fun _ _ _ _ => .no) (.no) (.no) (fun _ => .no) (.no) (fun _ _ _ _ _ => .no) (fun _ => .no) (.no) (fun _ _ _ => .no) (.no) (fun _ _ => .no) (fun _ _ => .no) (.no) (fun _ _ _ _ => .no) (fun _ _ => .no)
  () (fun _ _ _ _ => ()) v
inductive SR where | no | sl (r o len : Nat) (cap : Option Nat) | nils | es | fz (n : Nat) (cap : Option Nat) (l : List AV)
def asSl (v : AV) : SR := AV.rec (motive_1 := fun _ => SR) (motive_2 := fun _ => Unit)
  (fun _ => .no) (fun _ _ => .no) (fun _ => .no) (fun _ _ => .no) (.no) (fun r o n c => .sl r o n c) (.nils) (.es) (fun _ => .no) (.no) (fun _ _ _ _ _ => .no) (fun _ => .no) (.no) (fun _ _ _ => .no) (.no) (fun _ _ => .no) (fun _ _ => .no) (.no) (fun n c l _ => .fz n c l) (fun _ _ => .no)
  () (fun _ _ _ _ => ()) v
inductive LR where | no | l (l : List AV)
def asAgg (v : AV) : LR := AV.rec (motive_1 := fun _ => LR) (motive_2 := fun _ => Unit)
  (fun _ => .no) (fun _ _ => .no) (fun _ => .no) (fun _ _ => .no) (.no) (fun _ _ _ _ => .no) (.no) (.no) (fun _ => .no) (.no) (fun _ _ _ _ _ => .no) (fun _ => .no) (.no) (fun _ _ _ => .no) (.no) (fun l _ => .l l) (fun _ _ => .no) (.no) (fun _ _ _ _ => .no) (fun _ _ => .no)
  () (fun _ _ _ _ => ()) v
def asTup (v : AV) : LR := AV.rec (motive_1 := fun _ => LR) (motive_2 := fun _ => Unit)
  (fun _ => .no) (fun _ _ => .no) (fun _ => .no) (fun _ _ => .no) (.no) (fun _ _ _ _ => .no) (.no) (.no) (fun _ => .no) (.no) (fun _ _ _ _ _ => .no) (fun _ => .no) (.no) (fun _ _ _ => .no) (.no) (fun _ _ => .no) (fun l _ => .l l) (.no) (fun _ _ _ _ => .no) (fun _ _ => .no)
  () (fun _ _ _ _ => ()) v
inductive NR where | no | n (n : Nat)
def asNat (v : AV) : NR := AV.rec (motive_1 := fun _ => NR) (motive_2 := fun _ => Unit)
  (fun _ => .no) (fun _ n => Int.rec (fun n => .n n) (fun _ => .no) n) (fun _ => .no) (fun _ _ => .no) (.no) (fun _ _ _ _ => .no) (.no) (.no) (fun _ => .no) (.no) (fun _ _ _ _ _ => .no) (fun _ => .no) (.no) (fun _ _ _ => .no) (.no) (fun _ _ => .no) (fun _ _ => .no) (.no) (fun _ _ _ _ => .no) (fun _ _ => .no)
  () (fun _ _ _ _ => ()) v
inductive MR where | no | m (r : Nat) | nil
def asMap (v : AV) : MR := AV.rec (motive_1 := fun _ => MR) (motive_2 := fun _ => Unit)
  (fun _ => .no) (fun _ _ => .no) (fun _ => .no) (fun _ _ => .no) (.no) (fun _ _ _ _ => .no) (.no) (.no) (fun r => .m r) (.nil) (fun _ _ _ _ _ => .no) (fun _ => .no) (.no) (fun _ _ _ => .no) (.no) (fun _ _ => .no) (fun _ _ => .no) (.no) (fun _ _ _ _ => .no) (fun _ _ => .no)
  () (fun _ _ _ _ => ()) v
inductive FR where | no | fn (f : Nat) (first cap : List AV) | yld (l : Nat)
def asFn (v : AV) : FR := AV.rec (motive_1 := fun _ => FR) (motive_2 := fun _ => Unit)
  (fun _ => .no) (fun _ _ => .no) (fun _ => .no) (fun _ _ => .no) (.no) (fun _ _ _ _ => .no) (.no) (.no) (fun _ => .no) (.no) (fun f a b _ _ => .fn f a b) (fun l => .yld l) (.no) (fun _ _ _ => .no) (.no) (fun _ _ => .no) (fun _ _ => .no) (.no) (fun _ _ _ _ => .no) (fun _ _ => .no)
  () (fun _ _ _ _ => ()) v
inductive XR where | no | x (t : Nat) (v : AV)
def asIf (v : AV) : XR := AV.rec (motive_1 := fun _ => XR) (motive_2 := fun _ => Unit)
  (fun _ => .no) (fun _ _ => .no) (fun _ => .no) (fun _ _ => .no) (.no) (fun _ _ _ _ => .no) (.no) (.no) (fun _ => .no) (.no) (fun _ _ _ _ _ => .no) (fun _ => .no) (.no) (fun t v _ => .x t v) (.no) (fun _ _ => .no) (fun _ _ => .no) (.no) (fun _ _ _ _ => .no) (fun _ _ => .no)
  () (fun _ _ _ _ => ()) v
inductive TR0 where | no | s (l : List Nat)
def asStr (v : AV) : TR0 := AV.rec (motive_1 := fun _ => TR0) (motive_2 := fun _ => Unit)
  (fun _ => .no) (fun _ _ => .no) (fun l => .s l) (fun _ _ => .no) (.no) (fun _ _ _ _ => .no) (.no) (.no) (fun _ => .no) (.no) (fun _ _ _ _ _ => .no) (fun _ => .no) (.no) (fun _ _ _ => .no) (.no) (fun _ _ => .no) (fun _ _ => .no) (.no) (fun _ _ _ _ => .no) (fun _ _ => .no)
  () (fun _ _ _ _ => ()) v
def cellsOf (v : AV) : List AV := AV.rec (motive_1 := fun _ => List AV) (motive_2 := fun _ => Unit)
  (fun _ => [v]) (fun _ _ => [v]) (fun _ => [v]) (fun _ _ => [v]) ([v]) (fun _ _ _ _ => [v]) ([v]) ([v]) (fun _ => [v]) ([v]) (fun _ _ _ _ _ => [v]) (fun _ => [v]) ([v]) (fun _ _ _ => [v]) ([v]) (fun l _ => l) (fun _ _ => []) ([v]) (fun _ _ _ _ => [v]) (fun _ _ => [v])
  () (fun _ _ _ _ => ()) v
def isNilV (v : AV) : Bool := AV.rec (motive_1 := fun _ => Bool) (motive_2 := fun _ => Unit)
  (fun _ => false) (fun _ _ => false) (fun _ => false) (fun _ _ => false) (true) (fun _ _ _ _ => false) (false) (false) (fun _ => false) (false) (fun _ _ _ _ _ => false) (fun _ => false) (true) (fun _ _ _ => false) (true) (fun _ _ => false) (fun _ _ => false) (true) (fun _ _ _ _ => false) (fun _ _ => false)
  () (fun _ _ _ _ => ()) v
def isAny (v : AV) : Bool := AV.rec (motive_1 := fun _ => Bool) (motive_2 := fun _ => Unit)
  (fun _ => false) (fun _ _ => false) (fun _ => false) (fun _ _ => false) (false) (fun _ _ _ _ => false) (false) (false) (fun _ => false) (false) (fun _ _ _ _ _ => false) (fun _ => false) (false) (fun _ _ _ => false) (false) (fun _ _ => false) (fun _ _ => false) (true) (fun _ _ _ _ => false) (fun _ _ => false)
  () (fun _ _ _ _ => ()) v
def tagOf (v : AV) : Nat := AV.rec (motive_1 := fun _ => Nat) (motive_2 := fun _ => Unit)
  (fun _ => 0) (fun _ _ => 1) (fun _ => 2) (fun _ _ => 3) (4) (fun _ _ _ _ => 5) (6) (7) (fun _ => 8) (9) (fun _ _ _ _ _ => 10) (fun _ => 11) (12) (fun _ _ _ => 13) (14) (fun _ _ => 15) (fun _ _ => 16) (17) (fun _ _ _ _ => 18) (fun _ _ => 19)
  () (fun _ _ _ _ => ()) v

def evT (n : Nat) (t : AT) : OV := Option.rec .none (fun v => .some v) (t.get n)
def evC (v : AV) (_ : AT) : OV := .some v
def ev (x : AO) : AT → OV := AO.rec evT evC x
/-- an operand's value, handed on -/
def wth (x : AO) (t : AT) (k : AV → RV) : RV := OV.rec .fail k (ev x t)
def evs (t : AT) (l : List AO) : Option (List AV) :=
  List.rec (some []) (fun x _ ih => OV.rec none (fun v => Option.rec none (fun vs => some (v :: vs)) ih) (ev x t)) l
def putT (d : Nat) (v : AV) (t : AT) : AT := Nat.rec t (fun d _ => t.set v d) d

def St.alloc (o : AObj) (s : St) : St := St.rec (fun n h => .mk (Nat.succ n) (h.set o n)) s
def St.put (r : Nat) (o : AObj) (s : St) : St := St.rec (fun n h => .mk n (h.set o r)) s
def St.get (r : Nat) (s : St) : Option AObj := St.rec (fun _ h => h.get r) s
def St.next (s : St) : Nat := St.rec (fun n _ => n) s

def lenL {α : Type} (l : List α) : Nat := List.rec 0 (fun _ _ ih => Nat.succ ih) l
def getL {α : Type} (l : List α) : Nat → Option α :=
  List.rec (motive := fun _ => Nat → Option α) (fun _ => none) (fun x _ ih n => Nat.rec (some x) (fun n _ => ih n) n) l
def dropL {α : Type} (n : Nat) : List α → List α :=
  Nat.rec (motive := fun _ => List α → List α) (fun l => l) (fun _ ih l => List.rec [] (fun _ l _ => ih l) l) n
def takeL {α : Type} (n : Nat) : List α → Option (List α) :=
  Nat.rec (motive := fun _ => List α → Option (List α)) (fun _ => some []) (fun _ ih l => List.rec none (fun x l _ => Option.rec none (fun r => some (x :: r)) (ih l)) l) n
def appL {α : Type} (a b : List α) : List α := List.rec b (fun x _ ih => x :: ih) a
def updH (vs : List AV) : List AV → Option (List AV) :=
  List.rec (motive := fun _ => List AV → Option (List AV)) (fun l => some l) (fun v _ ih l => List.rec none (fun _ l _ => Option.rec none (fun r => some (v :: r)) (ih l)) l) vs
def upd (vs : List AV) (o : Nat) : List AV → Option (List AV) :=
  Nat.rec (motive := fun _ => List AV → Option (List AV)) (updH vs) (fun _ ih l => List.rec none (fun x l _ => Option.rec none (fun r => some (x :: r)) (ih l)) l) o
def rep (z : List AV) (n : Nat) : List AV := Nat.rec [] (fun _ ih => appL z ih) n

inductive RW where | no | row (elem : Nat) (cells : List AV)
def asRow (o : AObj) : RW := AObj.rec (fun e c => .row e c) .no (fun _ _ => .no) (fun _ _ _ _ _ _ _ _ => .no) .no o
def rowAt (r : Nat) (s : St) : RW := Option.rec .no asRow (s.get r)
def load1 (r o : Nat) (s : St) : Option AV := RW.rec none (fun _ cs => getL cs o) (rowAt r s)
def load (r o n : Nat) (s : St) : Option (List AV) := RW.rec none (fun _ cs => takeL n (dropL o cs)) (rowAt r s)
def storeAt (r o : Nat) (vs : List AV) (s : St) : Option St :=
  RW.rec none (fun e cs => Option.rec none (fun cs' => some (s.put r (.row e cs'))) (upd vs o cs)) (rowAt r s)

def eqNs (a : List Nat) : List Nat → Bool :=
  List.rec (motive := fun _ => List Nat → Bool) (fun b => List.rec true (fun _ _ _ => false) b) (fun x _ ih b => List.rec false (fun y b _ => Bool.rec false (ih b) (Nat.beq x y)) b) a
def eqI (a b : Int) : Bool := Int.rec (fun a => Int.rec (fun b => Nat.beq a b) (fun _ => false) b) (fun a => Int.rec (fun _ => false) (fun b => Nat.beq a b) b) a
def ltI (a b : Int) : Bool := Int.rec (fun a => Int.rec (fun b => Nat.blt a b) (fun _ => false) b) (fun a => Int.rec (fun _ => true) (fun b => Nat.blt b a) b) a
def kCode (k : IntKind) : Nat := IntKind.rec 0 1 2 3 4 5 6 7 k
def eqK (a b : IntKind) : Bool := Nat.beq (kCode a) (kCode b)

/-- wrap, quickly where it fits -/
def wrapN (k : IntKind) (m : Nat) : Int :=
  IntKind.rec (IntKind.i8.wrap m) (IntKind.i16.wrap m) (IntKind.i32.wrap m) (Bool.rec (IntKind.i64.wrap m) (.ofNat m) (Nat.blt m 9223372036854775808))
    (.ofNat (Nat.mod m 256)) (.ofNat (Nat.mod m 65536)) (.ofNat (Nat.mod m 4294967296)) (.ofNat (Nat.mod m 18446744073709551616)) k
def wrapM (k : IntKind) (m : Nat) : Int :=
  Bool.rec (k.wrap (.negSucc m)) (Bool.rec (k.wrap (.negSucc m)) (.negSucc m) (Nat.blt m 9223372036854775808)) (Nat.beq (kCode k) 3)
def wrapQ (k : IntKind) (n : Int) : Int := Int.rec (wrapN k) (wrapM k) n
def addI (a b : Int) : Int := Int.rec (fun x => Int.rec (fun y => .ofNat (Nat.add x y)) (fun _ => Int.add a b) b) (fun _ => Int.add a b) a
def mulI (a b : Int) : Int := Int.rec (fun x => Int.rec (fun y => .ofNat (Nat.mul x y)) (fun _ => Int.mul a b) b) (fun _ => Int.mul a b) a
def subI (a b : Int) : Int := Int.rec (fun x => Int.rec (fun y => Bool.rec (Int.sub a b) (.ofNat (Nat.sub x y)) (Nat.ble y x)) (fun _ => Int.sub a b) b) (fun _ => Int.sub a b) a
def bitsS (g : (n : Nat) → BitVec n → BitVec n → BitVec n) (k : IntKind) (a b : Int) : Int := k.wrap (g k.bits (BitVec.ofInt k.bits a) (BitVec.ofInt k.bits b)).toNat
def bitsN (f : Nat → Nat → Nat) (g : (n : Nat) → BitVec n → BitVec n → BitVec n) (k : IntKind) (x y : Nat) : Int :=
  IntKind.rec (bitsS g .i8 x y) (bitsS g .i16 x y) (bitsS g .i32 x y) (bitsS g .i64 x y) (.ofNat (f (Nat.mod x 256) (Nat.mod y 256))) (bitsS g .u16 x y) (.ofNat (f (Nat.mod x 4294967296) (Nat.mod y 4294967296))) (bitsS g .u64 x y) k
def bitsQ (f : Nat → Nat → Nat) (g : (n : Nat) → BitVec n → BitVec n → BitVec n) (k : IntKind) (a b : Int) : Int :=
  Int.rec (fun x => Int.rec (fun y => bitsN f g k x y) (fun _ => bitsS g k a b) b) (fun _ => bitsS g k a b) a

def ar (f : IntKind → Int → Int → Int) (x y : AV) : OV :=
  IR.rec .none (fun k a => IR.rec .none (fun k' b => Bool.rec .none (.some (.int k (f k a b))) (eqK k k')) (asInt y)) (asInt x)
def cmp (f : Int → Int → Bool) (x y : AV) : OV :=
  IR.rec .none (fun k a => IR.rec .none (fun k' b => Bool.rec .none (.some (.bool (f a b))) (eqK k k')) (asInt y)) (asInt x)
def strs (f : List Nat → List Nat → AV) (x y : AV) : OV :=
  TR0.rec .none (fun a => TR0.rec .none (fun b => .some (f a b)) (asStr y)) (asStr x)
def orE (x : OV) (y : OV) : OV := OV.rec y (fun v => .some v) x
def strAdd (x y : AV) : OV := TR0.rec .none (fun a => TR0.rec .none (fun b => Bool.rec .none (.some (.str (appL a b))) (Nat.ble (lenL a + lenL b) 1000000)) (asStr y)) (asStr x)
def addA (x y : AV) : OV := orE (ar (fun k a b => wrapQ k (addI a b)) x y) (strAdd x y)
def subA : AV → AV → OV := ar (fun k a b => wrapQ k (subI a b))
def mulA : AV → AV → OV := ar (fun k a b => wrapQ k (mulI a b))
def dvd (f : IntKind → Int → Int → Int) (x y : AV) : OV :=
  IR.rec .none (fun k a => IR.rec .none (fun k' b => Bool.rec .none (Bool.rec (.some (.int k (f k a b))) .none (eqI b 0)) (eqK k k')) (asInt y)) (asInt x)
def tdivQ (a b : Int) : Int := Int.rec (fun x => Int.rec (fun y => .ofNat (Nat.div x y)) (fun _ => a.tdiv b) b) (fun _ => a.tdiv b) a
def tmodQ (a b : Int) : Int := Int.rec (fun x => Int.rec (fun y => .ofNat (Nat.mod x y)) (fun _ => a.tmod b) b) (fun _ => a.tmod b) a
def quoA : AV → AV → OV := dvd (fun k a b => wrapQ k (tdivQ a b))
def remA : AV → AV → OV := dvd (fun _ a b => tmodQ a b)
def andA : AV → AV → OV := ar (bitsQ Nat.land (fun _ => BitVec.and))
def orA : AV → AV → OV := ar (bitsQ Nat.lor (fun _ => BitVec.or))
def xorA : AV → AV → OV := ar (bitsQ Nat.xor (fun _ => BitVec.xor))
def eqlA (x y : AV) : OV := orE (cmp eqI x y) (strs (fun a b => .bool (eqNs a b)) x y)
def neqA (x y : AV) : OV := orE (cmp (fun a b => !eqI a b) x y) (strs (fun a b => .bool (!eqNs a b)) x y)
def lssA : AV → AV → OV := cmp ltI
def leqA : AV → AV → OV := cmp (fun a b => !ltI b a)
def gtrA : AV → AV → OV := cmp (fun a b => ltI b a)
def geqA : AV → AV → OV := cmp (fun a b => !ltI a b)
def sh (f : IntKind → Int → Nat → Int) (x y : AV) : OV :=
  IR.rec .none (fun k a => NR.rec .none (fun b => .some (.int k (f k a b))) (asNat y)) (asInt x)
def fdivQ (a : Int) (m : Nat) : Int := Int.rec (fun x => .ofNat (Nat.div x m)) (fun _ => a.fdiv m) a
def shlA : AV → AV → OV := sh (fun k a b => wrapQ k (mulI a (.ofNat (Nat.pow 2 (Nat.min b k.bits)))))
def shrA : AV → AV → OV := sh (fun k a b => fdivQ a (Nat.pow 2 (Nat.min b k.bits)))
def noA (_ _ : AV) : OV := .none
def binA (op : BinOp) : AV → AV → OV := match op with
  | .add => addA | .sub => subA | .mul => mulA | .quo => quoA | .rem => remA | .and => andA | .or => orA | .xor => xorA | .andNot => noA | .shl => shlA | .shr => shrA
  | .eql => eqlA | .neq => neqA | .lss => lssA | .leq => leqA | .gtr => gtrA | .geq => geqA
def unA (op : UnOp) (x : AV) : OV := match op with
  | .not => BR.rec .none (.some (.bool false)) (.some (.bool true)) (asBool x)
  | .neg => IR.rec .none (fun k n => .some (.int k (wrapQ k (subI 0 n)))) (asInt x)
  | .xor => IR.rec .none (fun k n => .some (.int k (bitsQ Nat.xor (fun _ => BitVec.xor) k (if k.signed then -1 else k.max) n))) (asInt x)
  | _ => .none

/-- equality of two values one of which may be nil, or of two bools: 0 bool, 1 pointer, 2 slice, 3 interface, 4 func -/
def eqbA (kd : Nat) (x y : AV) : Option Bool := match kd, x, y with
  | 0, .bool a, .bool b => some (a == b)
  | 1, .nilp, .nilp => some true
  | 1, .nilp, .ptr .. => some false
  | 1, .ptr .., .nilp => some false
  | 1, .nilp, .fp .. => some false
  | 1, .fp .., .nilp => some false
  | 2, .nils, .nils => some true
  | 2, .nils, .sl .. => some false
  | 2, .sl .., .nils => some false
  | 2, .nils, .es => some false
  | 2, .es, .nils => some false
  | 2, .nils, .fz .. => some false
  | 2, .fz .., .nils => some false
  | 3, .nili, .iface .. => some false
  | 3, .iface .., .nili => some false
  | 4, .nilf, .nilf => some true
  | 4, .nilf, .fn .. => some false
  | 4, .fn .., .nilf => some false
  | _, _, _ => none
/-- equality of two plain cells: 0 int, 1 bool, 2 string -/
def eq1 (kd : Nat) (x y : AV) : Option Bool := match kd, x, y with
  | 0, .int k a, .int k' b => cond (eqK k k') (some (eqI a b)) none
  | 1, .bool a, .bool b => some (a == b)
  | 2, .str a, .str b => some (eqNs a b)
  | _, _, _ => none
def eqfA : List Nat → List AV → List AV → Option Bool
  | [], [], [] => some true
  | k :: ks, x :: xs, y :: ys => match eq1 k x y with
    | some true => eqfA ks xs ys
    | some false => some false
    | none => none
  | _, _, _ => none

def fill (t : AT) (ps : List (Nat × Nat × AO)) : List AV → Option (List AV) :=
  List.rec (motive := fun _ => List AV → Option (List AV)) (fun z => some z)
    (fun p _ ih z => OV.rec none (fun v => Bool.rec none (Option.rec none (fun z' => ih z') (upd (cellsOf v) p.1 z)) (Nat.beq (lenL (cellsOf v)) p.2.1)) (ev p.2.2 t)) ps

def natO (x : OV) : NR := OV.rec .no asNat x
def optNat (t : AT) (x : Option AO) (d : Nat) : NR := Option.rec (.n d) (fun x => natO (ev x t)) x

def bytesOf (l : List AV) : Option (List Nat) :=
  List.rec (some []) (fun v _ ih => IR.rec none (fun k n => Bool.rec none (Int.rec (fun a => Bool.rec none (Option.rec none (fun r => some (a :: r)) ih) (Nat.blt a 256)) (fun _ => none) n) (Nat.beq (kCode k) 4)) (asInt v)) l
def ofBytes (l : List Nat) : List AV := List.rec [] (fun b _ ih => AV.int .u8 (.ofNat b) :: ih) l

def mm (mx : Bool) (l : List AV) : AV → OV :=
  List.rec (motive := fun _ => AV → OV) (fun x => .some x) (fun y _ ih x => IR.rec .none (fun k a => IR.rec .none (fun k' b => Bool.rec .none (ih (.int k (Bool.rec a b (Bool.rec (ltI b a) (ltI a b) mx)))) (eqK k k')) (asInt y)) (asInt x)) l

def eqKey (k k' : AV) : Option Bool := match k, k' with
  | .int a x, .int b y => cond (eqK a b) (some (eqI x y)) none
  | _, _ => none
def findK (k : AV) : List (AV × AV × Nat) → Option (Option AV)
  | [] => some none
  | (k', v, _) :: l => match eqKey k k' with
    | some true => some (some v)
    | some false => findK k l
    | none => none
def setK (k v : AV) : List (AV × AV × Nat) → List (AV × AV × Nat)
  | [] => []
  | (k', v', b) :: l => match eqKey k k' with
    | some true => (k, v, b) :: l
    | _ => (k', v', b) :: setK k v l
def delK (k : AV) : List (AV × AV × Nat) → List (AV × AV × Nat)
  | [] => []
  | (k', v', b) :: l => match eqKey k k' with
    | some true => l
    | _ => (k', v', b) :: delK k l

def fresh (o : AObj) (v : Nat → AV) (s : St) : RV := .ok (v s.next) (s.alloc o)
def ret (x : OV) (s : St) : RV := OV.rec .fail (fun v => .ok v s) x
def retO (x : Option AV) (s : St) : RV := Option.rec .fail (fun v => .ok v s) x
def retS (v : AV) (x : Option St) : RV := Option.rec .fail (fun s => .ok v s) x
def gd (b : Bool) (r : RV) : RV := Bool.rec .fail r b

abbrev OpR := AT → St → RV
def mvA (x : AO) : OpR := fun t s => wth x t fun v => .ok v s
def pickA (c a b : AO) : OpR := fun t s => wth c t fun c => BR.rec .fail (ret (ev a t) s) (ret (ev b t) s) (asBool c)
def newA (e es : Nat) (z : List AV) : OpR := fun _ s => fresh (.row e z) (fun r => .ptr r 0) s
def boxA (e n : Nat) (x : AO) : OpR := fun t s => wth x t fun v => gd (Nat.beq (lenL (cellsOf v)) n) (fresh (.row e (cellsOf v)) (fun r => .ptr r 0) s)
def buildA (z : List AV) (ps : List (Nat × Nat × AO)) : OpR := fun t s => Option.rec .fail (fun cs => .ok (.agg cs) s) (fill t ps z)
def bslA (e es n : Nat) (z : List AV) (ps : List (Nat × Nat × AO)) : OpR := fun t s => Option.rec .fail (fun cs => fresh (.row e cs) (fun r => .sl r 0 n (some n)) s) (fill t ps z)
def ld1A (x : AO) : OpR := fun t s => wth x t fun v => PR.rec .fail (fun r o => retO (load1 r o s) s) (fun l => retO (getL l 0) s) (asPtr v)
def ldnA (n : Nat) (x : AO) : OpR := fun t s => wth x t fun v => PR.rec .fail (fun r o => Option.rec .fail (fun cs => .ok (.agg cs) s) (load r o n s)) (fun l => Option.rec .fail (fun cs => .ok (.agg cs) s) (takeL n l)) (asPtr v)
def stA (n : Nat) (a x : AO) : OpR := fun t s => wth a t fun p => wth x t fun v => PR.rec .fail (fun r o => gd (Nat.beq (lenL (cellsOf v)) n) (retS (.tup []) (storeAt r o (cellsOf v) s))) (fun _ => .fail) (asPtr p)
def nilckA (x : AO) : OpR := fun t s => wth x t fun v => Bool.rec (.ok v s) .fail (isNilV v)
def bin'A (op : BinOp) (x y : AO) : OpR := fun t s => wth x t fun a => wth y t fun b => ret (binA op a b) s
def negB (neg b : Bool) : Bool := Bool.rec b (!b) neg
def eqb'A (kd : Nat) (neg : Bool) (x y : AO) : OpR := fun t s => wth x t fun a => wth y t fun b => Option.rec .fail (fun c => .ok (.bool (negB neg c)) s) (eqbA kd a b)
def eqf'A (ks : List Nat) (neg : Bool) (x y : AO) : OpR := fun t s => wth x t fun a => wth y t fun b =>
  LR.rec .fail (fun a => LR.rec .fail (fun b => Option.rec .fail (fun c => .ok (.bool (negB neg c)) s) (eqfA ks a b)) (asAgg b)) (asAgg a)
def un'A (op : UnOp) (x : AO) : OpR := fun t s => wth x t fun a => ret (unA op a) s
def cviA (k : IntKind) (x : AO) : OpR := fun t s => wth x t fun a => IR.rec .fail (fun _ n => .ok (.int k (wrapQ k n)) s) (asInt a)
def b2sA (x : AO) : OpR := fun t s => wth x t fun a => SR.rec .fail (fun r o n _ => Option.rec .fail (fun cs => Option.rec .fail (fun l => .ok (.str l) s) (bytesOf cs)) (load r o n s)) (.ok (.str []) s) (.ok (.str []) s) (fun n _ l => Option.rec .fail (fun cs => Option.rec .fail (fun b => .ok (.str b) s) (bytesOf cs)) (takeL n l)) (asSl a)
def mkfnA (f : Nat) (a b : List AO) : OpR := fun t s => Option.rec .fail (fun x => Option.rec .fail (fun y => .ok (.fn f x y) s) (evs t b)) (evs t a)
def mksA (e es : Nat) (z : List AV) (l c : AO) : OpR := fun t s => NR.rec .fail (fun l => NR.rec .fail (fun c => gd (Nat.ble l c && Nat.ble c 1000000) (fresh (.row e (rep z c)) (fun r => .sl r 0 l (some c)) s)) (natO (ev c t))) (natO (ev l t))
def slc1 (es r o n : Nat) (cap : Option Nat) (l h : Nat) (s : St) : RV :=
  Option.rec (gd (Nat.ble l h && Nat.ble h n) (Bool.rec (.ok .es s) (.ok (.sl r (o + l * es) (h - l) none) s) (Nat.blt l n)))
    (fun c => gd (Nat.ble l h && Nat.ble h c) (.ok (.sl r (Bool.rec (o + l * es) o (Nat.beq c l)) (h - l) (some (c - l))) s)) cap
def slc2 (es r o n : Nat) (cap : Option Nat) (l h m : Nat) (s : St) : RV :=
  gd (Nat.ble l h && Nat.ble h m && Nat.ble m (Option.rec n (fun c => c) cap)) (.ok (.sl r (Bool.rec (o + l * es) o (Nat.beq m l)) (h - l) (some (m - l))) s)
def slcF (es n : Nat) (cap : Option Nat) (cs : List AV) (l h : Nat) (s : St) : RV :=
  gd (Nat.ble l h && Nat.ble h n) (Bool.rec (.ok .es s) (Option.rec .fail (fun cs' => .ok (.fz (h - l) (Option.rec none (fun c => some (c - l)) cap) cs') s) (takeL (Nat.mul (h - l) es) (dropL (Nat.mul l es) cs))) (Nat.blt l n))
def slcF3 (es n : Nat) (cs : List AV) (l h m : Nat) (s : St) : RV :=
  gd (Nat.ble l h && Nat.ble h m && Nat.ble m n) (Bool.rec (.ok .es s) (Option.rec .fail (fun cs' => .ok (.fz (h - l) (some (m - l)) cs') s) (takeL (Nat.mul (h - l) es) (dropL (Nat.mul l es) cs))) (Nat.blt l m))
def slcA (es : Nat) (x : AO) (lo hi mx : Option AO) : OpR := fun t s => wth x t fun a => SR.rec .fail
  (fun r o n cap => NR.rec .fail (fun l => NR.rec .fail (fun h => Option.rec (slc1 es r o n cap l h s) (fun m => NR.rec .fail (fun m => slc2 es r o n cap l h m s) (natO (ev m t))) mx) (optNat t hi n)) (optNat t lo 0))
  (NR.rec .fail (fun l => NR.rec .fail (fun h => NR.rec .fail (fun m => gd (Nat.beq (l + h + m) 0) (.ok .nils s)) (optNat t mx 0)) (optNat t hi 0)) (optNat t lo 0))
  (NR.rec .fail (fun l => NR.rec .fail (fun h => NR.rec .fail (fun m => gd (Nat.beq (l + h + m) 0) (.ok .es s)) (optNat t mx 0)) (optNat t hi 0)) (optNat t lo 0))
  (fun n cap cs => NR.rec .fail (fun l => NR.rec .fail (fun h => Option.rec (slcF es n cap cs l h s) (fun m => NR.rec .fail (fun m => slcF3 es n cs l h m s) (natO (ev m t))) mx) (optNat t hi n)) (optNat t lo 0)) (asSl a)
def slaA (es n : Nat) (x : AO) (lo hi mx : Option AO) : OpR := fun t s => wth x t fun a => PR.rec .fail (fun r o =>
  NR.rec .fail (fun l => NR.rec .fail (fun h => NR.rec .fail (fun m => gd (Nat.ble l h && Nat.ble h m && Nat.ble m n) (.ok (.sl r (Bool.rec (o + l * es) o (Nat.beq m l)) (h - l) (some (m - l))) s)) (optNat t mx n)) (optNat t hi n)) (optNat t lo 0)) (fun _ => .fail) (asPtr a)
def faA (off : Nat) (x : AO) : OpR := fun t s => wth x t fun a => PR.rec .fail (fun r o => .ok (.ptr r (Nat.add o off)) s) (fun l => .ok (.fp (dropL off l)) s) (asPtr a)
def fld1A (off : Nat) (x : AO) : OpR := fun t s => wth x t fun a => LR.rec .fail (fun l => retO (getL l off) s) (asAgg a)
def fldnA (off n : Nat) (x : AO) : OpR := fun t s => wth x t fun a => LR.rec .fail (fun l => Option.rec .fail (fun cs => .ok (.agg cs) s) (takeL n (dropL off l))) (asAgg a)
def ixsA (es : Nat) (x i : AO) : OpR := fun t s => wth x t fun a => wth i t fun i => NR.rec .fail (fun i => SR.rec .fail (fun r o n _ => gd (Nat.blt i n) (.ok (.ptr r (Nat.add o (Nat.mul i es))) s)) .fail .fail (fun n _ l => gd (Nat.blt i n) (.ok (.fp (dropL (Nat.mul i es) l)) s)) (asSl a)) (asNat i)
def ixaA (n es : Nat) (x i : AO) : OpR := fun t s => wth x t fun a => wth i t fun i => NR.rec .fail (fun i => PR.rec .fail (fun r o => gd (Nat.blt i n) (.ok (.ptr r (Nat.add o (Nat.mul i es))) s)) (fun l => gd (Nat.blt i n) (.ok (.fp (dropL (Nat.mul i es) l)) s)) (asPtr a)) (asNat i)
def ixvA (n : Nat) (x i : AO) : OpR := fun t s => wth x t fun a => wth i t fun i => NR.rec .fail (fun i => LR.rec .fail (fun l => gd (Nat.blt i n) (retO (getL l i) s)) (asAgg a)) (asNat i)
def extA (x : AO) (i : Nat) : OpR := fun t s => wth x t fun a => LR.rec .fail (fun l => retO (getL l i) s) (asTup a)
def intN (n : Nat) : AV := .int .i64 (.ofNat n)
def lenA (x : AO) : OpR := fun t s => wth x t fun a => SR.rec .fail (fun _ _ n _ => .ok (intN n) s) (.ok (intN 0) s) (.ok (intN 0) s) (fun n _ _ => .ok (intN n) s) (asSl a)
def mapAt (r : Nat) (s : St) : Option (List (AV × AV × Nat) × Nat) := Option.rec none (fun o => AObj.rec (fun _ _ => none) none (fun es c => some (es, c)) (fun _ _ _ _ _ _ _ _ => none) none o) (s.get r)
def lenmA (x : AO) : OpR := fun t s => wth x t fun a => MR.rec .fail (fun r => Option.rec .fail (fun m => .ok (intN (lenL m.1)) s) (mapAt r s)) (.ok (intN 0) s) (asMap a)
def alenA (n : Nat) : OpR := fun _ s => .ok (intN n) s
def mnA (m : Bool) (xs : List AO) : OpR := fun t s => Option.rec .fail (fun l => List.rec .fail (fun x l _ => ret (mm m l x) s) l) (evs t xs)
def srcOf (es : Nat) (x : AV) (s : St) : Option (List AV) := SR.rec none (fun r o n _ => load r o (Nat.mul n es) s) (some []) (some []) (fun n _ l => takeL (Nat.mul n es) l) (asSl x)
def appNew (e n : Nat) (cs : List AV) (s : St) : RV := gd (Nat.ble n 1000000) (fresh (.row e cs) (fun r => .sl r 0 n none) s)
def elemIs (r e : Nat) (s : St) : Bool := RW.rec false (fun e' _ => Nat.beq e' e) (rowAt r s)
def app1 (e es : Nat) (cs : List AV) (m : Nat) (r o n : Nat) (cap : Option Nat) (s : St) : RV :=
  Option.rec .fail (fun old =>
    Option.rec (gd (Nat.beq o 0 && elemIs r e s) (appNew e (n + m) (appL old cs) (s.put r .dead)))
      (fun c => Bool.rec (appNew e (n + m) (appL old cs) s) (retS (.sl r o (n + m) (some c)) (storeAt r (o + n * es) cs s)) (Nat.ble (n + m) c)) cap) (load r o (Nat.mul n es) s)
def appF (e es : Nat) (cs : List AV) (m n : Nat) (cap : Option Nat) (l : List AV) (s : St) : RV :=
  Option.rec .fail (fun c => Bool.rec (Option.rec .fail (fun old => appNew e (n + m) (appL old cs) s) (takeL (Nat.mul n es) l)) .fail (Nat.ble (n + m) c)) cap
def appA (e es : Nat) (a x : AO) : OpR := fun t s => wth a t fun a => wth x t fun x => Option.rec .fail (fun cs =>
  List.rec (SR.rec .fail (fun r o n c => .ok (.sl r o n c) s) (.ok .nils s) (.ok .es s) (fun n c l => .ok (.fz n c l) s) (asSl a))
    (fun _ _ _ => SR.rec .fail (fun r o n c => app1 e es cs (Nat.div (lenL cs) es) r o n c s) (appNew e (Nat.div (lenL cs) es) cs s) .fail (fun n c l => appF e es cs (Nat.div (lenL cs) es) n c l s) (asSl a)) cs) (srcOf es x s)
def copyA (es : Nat) (d x : AO) : OpR := fun t s => wth d t fun d => wth x t fun x =>
  SR.rec .fail (fun r o n _ => SR.rec .fail (fun r' o' n' _ => Option.rec .fail (fun cs => retS (intN (Nat.min n' n)) (storeAt r o cs s)) (load r' o' (Nat.mul (Nat.min n' n) es) s)) (.ok (intN 0) s) (.ok (intN 0) s) (fun n' _ l => Option.rec .fail (fun cs => retS (intN (Nat.min n' n)) (storeAt r o cs s)) (takeL (Nat.mul (Nat.min n' n) es) l)) (asSl x))
    (SR.rec .fail (fun _ _ _ _ => .ok (intN 0) s) (.ok (intN 0) s) (.ok (intN 0) s) (fun _ _ _ => .ok (intN 0) s) (asSl x)) (SR.rec .fail (fun _ _ _ _ => .ok (intN 0) s) (.ok (intN 0) s) (.ok (intN 0) s) (fun _ _ _ => .ok (intN 0) s) (asSl x)) (fun _ _ _ => .fail) (asSl d)
def capA (x : AO) : OpR := fun t s => wth x t fun a => SR.rec .fail (fun _ _ _ cap => Option.rec .fail (fun c => .ok (intN c) s) cap) .fail .fail (fun _ cap _ => Option.rec .fail (fun c => .ok (intN c) s) cap) (asSl a)
/-- append of so many zero values, where there is no room -/
def app0A (e es : Nat) (z : List AV) (a k : AO) : OpR := fun t s => wth a t fun a => wth k t fun k => NR.rec .fail (fun k => SR.rec .fail (fun r o n cap => Option.rec .fail (fun old =>
  Option.rec .fail (fun c => Bool.rec (gd (Nat.blt 0 k) (appNew e (n + k) (appL old (rep z k)) s)) .fail (Nat.ble (n + k) c)) cap) (load r o (Nat.mul n es) s)) .fail .fail (fun _ _ _ => .fail) (asSl a)) (asNat k)
def mkmapA : OpR := fun _ s => fresh (.map [] 0) .map s
def msetA (m k v : AO) : OpR := fun t s => wth m t fun m => wth k t fun k => wth v t fun v => MR.rec .fail (fun r => Option.rec .fail (fun mp =>
  Option.rec .fail (fun f => Option.rec (.ok (.tup []) (s.put r (.map (appL mp.1 [(k, v, mp.2)]) (mp.2 + 1)))) (fun _ => .ok (.tup []) (s.put r (.map (setK k v mp.1) mp.2))) f) (findK k mp.1)) (mapAt r s)) .fail (asMap m)
def mgetR (z : AV) (ok : Bool) (f : Option AV) (s : St) : RV := Option.rec (.ok (Bool.rec z (.tup [z, .bool false]) ok) s) (fun v => .ok (Bool.rec v (.tup [v, .bool true]) ok) s) f
def isIntV (v : AV) : Bool := IR.rec false (fun _ _ => true) (asInt v)
def mgetA (z : AV) (ok : Bool) (m k : AO) : OpR := fun t s => wth m t fun m => wth k t fun k => MR.rec .fail (fun r => Option.rec .fail (fun mp => Option.rec .fail (fun f => mgetR z ok f s) (findK k mp.1)) (mapAt r s)) (mgetR z ok none s) (asMap m)
def mdelA (m k : AO) : OpR := fun t s => wth m t fun m => wth k t fun k => MR.rec .fail (fun r => Option.rec .fail (fun mp => Option.rec .fail (fun _ => .ok (.tup []) (s.put r (.map (delK k mp.1) mp.2))) (findK k mp.1)) (mapAt r s)) .fail (asMap m)
def clrA (z : List AV) (x : AO) : OpR := fun t s => wth x t fun a => SR.rec .fail (fun r o n _ => retS (.tup []) (storeAt r o (rep z n) s)) (.ok (.tup []) s) (.ok (.tup []) s) (fun _ _ _ => .fail) (asSl a)

inductive Ex where
  | normal | exit (id : Nat) | ret
inductive R where
  | fail | ok (e : Ex) (t : AT) (s : St) (ds : List Nat)

abbrev Rec := AC → AT → St → Option Nat → List Nat → R
abbrev Ov := List AV → St → RV
structure Env where
  G : T AFn
  O : T Ov
  X : T Ov

def initT (vs : List AV) : Nat → AT → AT :=
  List.rec (motive := fun _ => Nat → AT → AT) (fun _ t => t) (fun v _ ih i t => ih (Nat.succ i) (t.set v i)) vs

def res1 (t : AT) (s : St) (x : ARes) : Option AV := ARes.rec (fun i => t.get i)
  (fun i => Option.rec none (fun v => PR.rec none (fun r o => load1 r o s) (fun _ => none) (asPtr v)) (t.get i))
  (fun i n => Option.rec none (fun v => PR.rec none (fun r o => Option.rec none (fun cs => some (.agg cs)) (load r o n s)) (fun _ => none) (asPtr v)) (t.get i)) x
def resA (t : AT) (s : St) (l : List ARes) : Option (List AV) :=
  List.rec (some []) (fun x _ ih => Option.rec none (fun v => Option.rec none (fun vs => some (v :: vs)) ih) (res1 t s x)) l
def one (l : List AV) : AV := List.rec (.tup []) (fun x xs _ => List.rec x (fun _ _ _ => .tup l) xs) l
/-- the blocks for the rounds' deferred calls are given up -/
def quit (ds : List Nat) : St → Option St :=
  List.rec (motive := fun _ => St → Option St) (fun s => some s) (fun d _ ih s => Option.rec none (fun o => AObj.rec (fun _ _ => none) none (fun _ _ => none) (fun _ _ _ _ _ _ _ _ => none) (ih (s.put d .dead)) o) (s.get d)) ds

def callEnd (res : List ARes) (r : R) : RV := R.rec .fail (fun x t s ds =>
  Ex.rec (Option.rec .fail (fun s => Option.rec .fail (fun l => .ok (one l) s) (resA t s res)) (quit ds s)) (fun _ => .fail) (Option.rec .fail (fun s => Option.rec .fail (fun l => .ok (one l) s) (resA t s res)) (quit ds s)) x) r
def callG (e : Env) (rec : Rec) (f : Nat) (args : List AV) (s : St) : RV :=
  Option.rec .fail (fun af => AFn.rec (fun code res => callEnd res (rec code (initT args 0 .lf) s none [])) af) (e.G.get f)
def callA (e : Env) (rec : Rec) (f : Nat) (args : List AV) (s : St) : RV := Option.rec (callG e rec f args s) (fun h => RV.rec (callG e rec f args s) (fun v s' => .ok v s') (h args s)) (e.O.get f)

def setPs (ps : List Nat) : List AV → AT → AT :=
  List.rec (motive := fun _ => List AV → AT → AT) (fun _ t => t) (fun p _ ih as t => List.rec t (fun a as _ => ih as (t.set a p)) as) ps
inductive LP where | no | lp (st : LoopState) (pend : Option Nat) (fn : Nat) (tmps : AT) (ps : List Nat) (assign body : AC) (d : Nat)
def asLoop (o : AObj) : LP := AObj.rec (fun _ _ => .no) .no (fun _ _ => .no) (fun a b c d e f g h => .lp a b c d e f g h) .no o
def loopAt (l : Nat) (s : St) : LP := Option.rec .no asLoop (s.get l)
/-- a round's end: what the record bears is read anew -/
def roundPut (l : Nat) (st : LoopState) (pend : Option Nat) (v : Bool) (s : St) : RV :=
  LP.rec .fail (fun _ _ fn tm ps asg body d => .ok (.bool v) (s.put l (.loop st pend fn tm ps asg body d))) (loopAt l s)
def roundEnd (l : Nat) (r : R) : RV :=
  R.rec .fail (fun x _ s _ => Ex.rec (roundPut l .ready none true s) (fun id => roundPut l .done (some (id + 1)) false s) (roundPut l .done (some 0) false s) x) r
def roundGo (rec : Rec) (l : Nat) (body : AC) (r : R) : RV :=
  R.rec .fail (fun x t s ds => Ex.rec (LP.rec .fail (fun st pend fn tm ps asg b d => LoopState.rec (roundEnd l (rec body t (s.put l (.loop .busy pend fn tm ps asg b d)) (some l) ds)) .fail .fail .fail st) (loopAt l s)) (fun _ => .fail) .fail x) r
def roundA (rec : Rec) (l : Nat) (args : List AV) (s : St) : RV :=
  LP.rec .fail (fun _ _ _ tm ps asg body _ => gd (Nat.beq (lenL args) (lenL ps)) (roundGo rec l body (rec asg (setPs ps args tm) s (some l) []))) (loopAt l s)

def applyA (e : Env) (rec : Rec) (f : AV) (args : List AV) (s : St) : RV :=
  FR.rec .fail (fun f first cap => callA e rec f (appL first (appL args cap)) s) (fun l => roundA rec l args s) (asFn f)

def applyF (e : Env) (rec : Rec) (f : AV) (args : List AV) (s : St) : RV :=
  FR.rec .fail (fun f first cap => callA e rec f (appL first (appL args cap)) s) (fun _ => .fail) (asFn f)

abbrev OpE := Env → Rec → AT → St → RV
def scallA (f : Nat) (args : List AO) : OpE := fun e rec t s => Option.rec .fail (fun vs => Option.rec (callA e rec f vs s) (fun h => h vs s) (e.X.get f)) (evs t args)
def dcallA (f : AO) (args : List AO) : OpE := fun e rec t s => wth f t fun fv => Option.rec .fail (fun vs => applyA e rec fv vs s) (evs t args)

def opA (op : AOp) : OpE := AOp.rec (motive := fun _ => OpE)
  (fun x _ _ => mvA x) (fun a b c _ _ => pickA a b c) (fun a b c _ _ => newA a b c) (fun a b c _ _ => boxA a b c) (fun a b _ _ => buildA a b) (fun a b c d e _ _ => bslA a b c d e)
  (fun a _ _ => ld1A a) (fun a b _ _ => ldnA a b) (fun a b c _ _ => stA a b c) (fun a _ _ => nilckA a) (fun a b c _ _ => bin'A a b c) (fun a b c d _ _ => eqb'A a b c d) (fun a b c d _ _ => eqf'A a b c d) (fun a b _ _ => un'A a b) (fun a b _ _ => cviA a b) (fun a _ _ => b2sA a)
  (fun a b c _ _ => mkfnA a b c) (fun a b c d e _ _ => mksA a b c d e) (fun a b c d e _ _ => slcA a b c d e) (fun a b c d e f _ _ => slaA a b c d e f) (fun a b _ _ => faA a b) (fun a b _ _ => fld1A a b) (fun a b c _ _ => fldnA a b c)
  (fun a b c _ _ => ixsA a b c) (fun a b c d _ _ => ixaA a b c d) (fun a b c _ _ => ixvA a b c) (fun a b _ _ => extA a b) (fun a _ _ => lenA a) (fun a _ _ => lenmA a) (fun a _ _ => alenA a) (fun a b _ _ => mnA a b)
  (fun a b c d _ _ => appA a b c d) (fun a b c _ _ => copyA a b c) (fun a b => dcallA a b) (fun a b => scallA a b) (fun _ _ => mkmapA) (fun a b c _ _ => msetA a b c) (fun a b c d _ _ => mgetA a b c d)
  (fun a b _ _ => mdelA a b) (fun a b _ _ => clrA a b) (fun a _ _ => capA a) (fun a b c d e _ _ => app0A a b c d e) (fun _ _ _ _ => .fail) op

def eqOn (a b : Option Nat) : Bool := Option.rec (Option.rec true (fun _ => false) b) (fun x => Option.rec false (fun y => Nat.beq x y) b) a
def isNilL {α : Type} (l : List α) : Bool := List.rec true (fun _ _ _ => false) l
/-- one value is another one -/
def eqA (a : AV) : AV → Bool := AV.rec (motive_1 := fun _ => AV → Bool) (motive_2 := fun _ => List AV → Bool)
  (fun x b => BR.rec false (Bool.rec false true x) (Bool.rec true false x) (asBool b))
  (fun k n b => IR.rec false (fun k' n' => Bool.rec false (eqI n n') (eqK k k')) (asInt b))
  (fun l b => TR0.rec false (fun l' => eqNs l l') (asStr b))
  (fun r o b => PR.rec false (fun r' o' => Bool.rec false (Nat.beq o o') (Nat.beq r r')) (fun _ => false) (asPtr b))
  (fun b => Nat.beq (tagOf b) 4)
  (fun r o n c b => SR.rec false (fun r' o' n' c' => Bool.rec false (Bool.rec false (Bool.rec false (eqOn c c') (Nat.beq n n')) (Nat.beq o o')) (Nat.beq r r')) false false (fun _ _ _ => false) (asSl b))
  (fun b => Nat.beq (tagOf b) 6) (fun b => Nat.beq (tagOf b) 7)
  (fun r b => MR.rec false (fun r' => Nat.beq r r') false (asMap b))
  (fun b => Nat.beq (tagOf b) 9)
  (fun f _ _ ix iy b => FR.rec false (fun f' x' y' => Bool.rec false (Bool.rec false (iy y') (ix x')) (Nat.beq f f')) (fun _ => false) (asFn b))
  (fun l b => FR.rec false (fun _ _ _ => false) (fun l' => Nat.beq l l') (asFn b)) (fun b => Nat.beq (tagOf b) 12)
  (fun t _ iv b => XR.rec false (fun t' v' => Bool.rec false (iv v') (Nat.beq t t')) (asIf b)) (fun b => Nat.beq (tagOf b) 14)
  (fun _ il b => LR.rec false (fun l' => il l') (asAgg b)) (fun _ il b => LR.rec false (fun l' => il l') (asTup b)) (fun b => Nat.beq (tagOf b) 17)
  (fun n c _ il b => SR.rec false (fun _ _ _ _ => false) false false (fun n' c' l' => Bool.rec false (Bool.rec false (il l') (eqOn c c')) (Nat.beq n n')) (asSl b))
  (fun _ il b => PR.rec false (fun _ _ => false) (fun l' => il l') (asPtr b))
  (fun b => isNilL b) (fun _ _ ia il b => List.rec false (fun y b _ => Bool.rec false (il b) (ia y)) b) a
def eqAs (a : List AV) : List AV → Bool := AV.rec_1 (motive_1 := fun _ => AV → Bool) (motive_2 := fun _ => List AV → Bool)
  (fun x b => BR.rec false (Bool.rec false true x) (Bool.rec true false x) (asBool b))
  (fun k n b => IR.rec false (fun k' n' => Bool.rec false (eqI n n') (eqK k k')) (asInt b))
  (fun l b => TR0.rec false (fun l' => eqNs l l') (asStr b))
  (fun r o b => PR.rec false (fun r' o' => Bool.rec false (Nat.beq o o') (Nat.beq r r')) (fun _ => false) (asPtr b))
  (fun b => Nat.beq (tagOf b) 4)
  (fun r o n c b => SR.rec false (fun r' o' n' c' => Bool.rec false (Bool.rec false (Bool.rec false (eqOn c c') (Nat.beq n n')) (Nat.beq o o')) (Nat.beq r r')) false false (fun _ _ _ => false) (asSl b))
  (fun b => Nat.beq (tagOf b) 6) (fun b => Nat.beq (tagOf b) 7)
  (fun r b => MR.rec false (fun r' => Nat.beq r r') false (asMap b))
  (fun b => Nat.beq (tagOf b) 9)
  (fun f _ _ ix iy b => FR.rec false (fun f' x' y' => Bool.rec false (Bool.rec false (iy y') (ix x')) (Nat.beq f f')) (fun _ => false) (asFn b))
  (fun l b => FR.rec false (fun _ _ _ => false) (fun l' => Nat.beq l l') (asFn b)) (fun b => Nat.beq (tagOf b) 12)
  (fun t _ iv b => XR.rec false (fun t' v' => Bool.rec false (iv v') (Nat.beq t t')) (asIf b)) (fun b => Nat.beq (tagOf b) 14)
  (fun _ il b => LR.rec false (fun l' => il l') (asAgg b)) (fun _ il b => LR.rec false (fun l' => il l') (asTup b)) (fun b => Nat.beq (tagOf b) 17)
  (fun n c _ il b => SR.rec false (fun _ _ _ _ => false) false false (fun n' c' l' => Bool.rec false (Bool.rec false (il l') (eqOn c c')) (Nat.beq n n')) (asSl b))
  (fun _ il b => PR.rec false (fun _ _ => false) (fun l' => il l') (asPtr b))
  (fun b => isNilL b) (fun _ _ ia il b => List.rec false (fun y b _ => Bool.rec false (il b) (ia y)) b) a
def eqV (a b : AV) : Bool := eqA a b

/-- 0: it can't be told; 1: no; 2: yes -/
def wantedA (g : Option (Nat × Bool)) (t : AT) : Nat := Option.rec 2 (fun p => Option.rec 0 (fun v => BR.rec (Bool.rec 1 0 (isAny v)) (Bool.rec 1 2 p.2) (Bool.rec 2 1 p.2) (asBool v)) (t.get p.1)) g
inductive RT where
  | fail | ok (t : AT) (s : St)
def opsA (e : Env) (rec : Rec) (l : List AOper) : AT → St → RT :=
  List.rec (motive := fun _ => AT → St → RT) (fun t s => .ok t s)
    (fun o _ ih t s => AOper.rec (fun dst op g => Nat.rec .fail (fun w _ => Nat.rec (ih (putT dst (.tup []) t) s) (fun _ _ => RV.rec .fail (fun v s' => ih (putT dst v t) s') (opA op e rec t s)) w) (wantedA g t))
      (fun dst op g => Nat.rec .fail (fun w _ => Nat.rec (ih t s) (fun _ _ => RV.rec .fail (fun v _ => Option.rec .fail (fun v0 => Bool.rec .fail (ih t s) (eqV v v0)) (t.get dst)) (opA op e rec t s)) w) (wantedA g t)) o) l

abbrev CR := Env → Rec → AT → St → Option Nat → List Nat → R
def skipC : CR := fun _ _ t s _ ds => .ok .normal t s ds
def regC (ops : List AOper) : CR := fun e rec t s _ ds => RT.rec .fail (fun t' s' => .ok .normal t' s' ds) (opsA e rec ops t s)
def seqE (rec : Rec) (b : AC) (rd : Option Nat) (r : R) : R := R.rec .fail (fun x t s ds => Ex.rec (rec b t s rd ds) (fun id => .ok (.exit id) t s ds) (.ok .ret t s ds) x) r
def seqC (a b : AC) : CR := fun _ rec t s rd ds => seqE rec b rd (rec a t s rd ds)
def condC (x : AO) (a b : AC) : CR := fun _ rec t s rd ds => OV.rec .fail (fun v => BR.rec .fail (rec a t s rd ds) (rec b t s rd ds) (asBool v)) (ev x t)
def blockE (id : Nat) (r : R) : R := R.rec .fail (fun x t s ds => Ex.rec (.ok .normal t s ds) (fun id' => Bool.rec (.ok (.exit id') t s ds) (.ok .normal t s ds) (Nat.beq id id')) (.ok .ret t s ds) x) r
def blockC (id : Nat) (b : AC) : CR := fun _ rec t s rd ds => blockE id (rec b t s rd ds)
def loopC (b : AC) : CR := fun _ rec t s rd ds => seqE rec (.loop b) rd (rec b t s rd ds)
def rngPend (l fn : Nat) (tm : AT) (ps : List Nat) (asg body : AC) (d : Nat) (pend : Option Nat) (ds : List Nat) (t : AT) (s : St) : R :=
  Option.rec (.ok .normal t (s.put l (.loop .exhausted pend fn tm ps asg body d)) ds) (fun i => Nat.rec (.ok .ret t (s.put l (.loop .exhausted pend fn tm ps asg body d)) ds) (fun id _ => .ok (.exit id) t (s.put l (.loop .exhausted pend fn tm ps asg body d)) ds) i) pend
def rngEnd (l : Nat) (ds : List Nat) (t : AT) (s : St) : R :=
  LP.rec .fail (fun st pend fn tm ps asg body d => LoopState.rec (rngPend l fn tm ps asg body d pend ds t s) .fail (rngPend l fn tm ps asg body d pend ds t s) (rngPend l fn tm ps asg body d pend ds t s) st) (loopAt l s)
def rngGo (e : Env) (rec : Rec) (gv : AV) (ps : List Nat) (asg body : AC) (t : AT) (d : Nat) (ds : List Nat) (s0 : St) : R :=
  RV.rec .fail (fun _ s2 => rngEnd s0.next ds t s2) (applyF e rec gv [.yld s0.next] (s0.alloc (.loop .ready none 0 t ps asg body d)))
def rngC (g : AO) (ps : List Nat) (asg body : AC) : CR := fun e rec t s rd ds => OV.rec .fail (fun gv =>
  Option.rec (rngGo e rec gv ps asg body t s.next (s.next :: ds) (s.alloc .defd)) (fun l => LP.rec .fail (fun _ _ _ _ _ _ _ d => rngGo e rec gv ps asg body t d ds s) (loopAt l s)) rd) (ev g t)
def exitC (id : Nat) : CR := fun _ _ t s _ ds => .ok (.exit id) t s ds
def retC : CR := fun _ _ t s _ ds => .ok .ret t s ds
def acF (c : AC) : CR := AC.rec (motive := fun _ => CR) skipC regC (fun a b _ _ => seqC a b) (fun x a b _ _ => condC x a b) (fun i b _ => blockC i b) (fun b _ => loopC b) (fun g ps a b _ _ => rngC g ps a b) exitC retC c
def exec (e : Env) (n : Nat) : Rec := Nat.rec (motive := fun _ => Rec) (fun _ _ _ _ _ => .fail) (fun _ rec c => acF c e rec) n
/-- two slices in two rows do not overlap -/
def ovlO (args : List AV) (s : St) : RV := match args with
  | [a, b] => SR.rec .fail (fun r o n _ => SR.rec .fail (fun r' o' n' _ => gd (Bool.rec true false (Nat.beq r r'))
    (RW.rec .fail (fun _ _ => RW.rec .fail (fun _ cs => List.rec .fail (fun _ _ _ => .ok (.bool false) s) cs) (rowAt r' s)) (rowAt r s))) .fail .fail (fun _ _ _ => .fail) (asSl b)) .fail .fail (fun _ _ _ => .fail) (asSl a)
  | _ => .fail
end
end Go.AM
