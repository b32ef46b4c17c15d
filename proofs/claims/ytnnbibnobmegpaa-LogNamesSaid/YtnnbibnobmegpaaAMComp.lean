/-
  THE ABSTRACT MACHINE: how the model's code is read as its own. Definitions alone.
-/
import Derived.Test.YtnnbibnobmegpaaAMDefs
set_option linter.unusedVariables false
set_option linter.unusedSimpArgs false
namespace Go.AM

def av1 (v : Value) : Option AV := match v with
  | .bool b => some (.bool b)
  | .int k n => some (.int k n)
  | .string s => some (.str (s.data.toList.map UInt8.toNat))
  | .pointer none => some .nilp
  | .slice none 0 0 => some .nils
  | .map none => some .nilm
  | .nilFunc => some .nilf
  | .nilIface => some .nili
  | .func (.func f) a b => match a.toList, b.toList with
    | [], [] => some (.fn f [] [])
    | _, _ => none
  | _ => none
def avs : List Value → Option (List AV)
  | [] => some []
  | v :: l => match av1 v, avs l with
    | some x, some y => some (x :: y)
    | _, _ => none
def av (v : Value) : Option AV := match v with
  | .agg cs => (avs cs.toList).map .agg
  | .tuple cs => (avs cs.toList).map .tup
  | v => av1 v
def aop (x : Operand) : Option AO := match x with
  | .tmp t => some (.t t)
  | .const v => (av v).map .c
  | .func f => some (.c (.fn f [] []))
  | .global _ => none
def aops : List Operand → Option (List AO)
  | [] => some []
  | x :: l => match aop x, aops l with
    | some a, some b => some (a :: b)
    | _, _ => none
def optO (x : Option Operand) : Option (Option AO) := match x with
  | none => some none
  | some x => (aop x).map some
def zeroOf (P : Program) (t : TypeId) : Option (List AV) := match P.info? t with
  | some i => match i.zero with
    | some z => avs z.cells.toList
    | none => none
  | none => none
def szOf (P : Program) (t : TypeId) : Option Nat := (P.info? t).map (·.size)
def byOf (P : Program) (t : TypeId) : Option Nat := (P.info? t).map (·.bytes)
def aggT (P : Program) (t : TypeId) : Option Bool := match P.underlying t with
  | some (.struct _) | some (.array _ _) => some true
  | some _ => some false
  | none => none
/-- a type whose cells are compared one by one: 0 int, 1 bool, 2 string -/
def plainK (P : Program) (t : TypeId) : Option Nat := match P.underlying t with
  | some (.int _) => some 0
  | some .bool => some 1
  | some .string => some 2
  | _ => none
def flatFields (P : Program) : List Field → Nat → Option (List Nat)
  | [], _ => some []
  | f :: l, i => if f.name = "_" ∨ f.offset ≠ i then none else match plainK P f.type, flatFields P l (i + 1) with
    | some k, some r => some (k :: r)
    | _, _ => none
def flatT (P : Program) (t : TypeId) : Option (List Nat) := match P.underlying t with
  | some (.struct fs) => if P.stoodInHeld t = false ∧ P.eqGuardType P.depth t = false then flatFields P fs.toList 0 else none
  | _ => none
def baseK (P : Program) (t : TypeId) : Option Nat := match P.underlying t with
  | some .bool => some 0
  | some (.pointer _) => some 1
  | some (.slice _) => some 2
  | some (.interface _) => some 3
  | some (.func ..) => some 4
  | _ => none
def partsS (P : Program) (fs : Array Field) : List (Nat × Operand) → Option (List (Nat × Nat × AO))
  | [] => some []
  | (i, x) :: l => match fs[i]?, aop x, partsS P fs l with
    | some f, some a, some r => match szOf P f.type with
      | some (n + 1) => some ((f.offset, n + 1, a) :: r)
      | _ => none
    | _, _, _ => none
def partsA (es : Nat) : List (Nat × Operand) → Option (List (Nat × Nat × AO))
  | [] => some []
  | (i, x) :: l => match aop x, partsA es l with
    | some a, some r => some ((i * es, es, a) :: r)
    | _, _ => none
def repL (z : List AV) : Nat → List AV
  | 0 => []
  | n + 1 => z ++ repL z n
def compBuiltin (P : Program) (b : Builtin) (ts : List TypeId) (args : List Operand) : Option AOp := match b, args, ts with
  | .len, [x], [T] => match P.underlying T with
    | some (.array n _) => some (.alen n)
    | some (.slice _) => (aop x).map .len
    | some (.map _ _) => (aop x).map .lenm
    | _ => none
  | .min, xs, _ => (aops xs).map (.mn false)
  | .max, xs, _ => (aops xs).map (.mn true)
  | .cap, [x], [T] => match P.underlying T with
    | some (.slice _) => (aop x).map .capo
    | _ => none
  | .append, [s, x], [T, U] => if T ≠ U then (match P.underlying T, P.underlying U, aop s, aop x with
    | some (.slice e), some (.int _), some s, some x => match szOf P e, byOf P e, zeroOf P e with
      | some n, some b, some z => if 1 ≤ n ∧ b ≤ 4096 ∧ z.length = n then some (.app0 e n z s x) else none
      | _, _, _ => none
    | _, _, _, _ => none) else match P.underlying T, aop s, aop x with
    | some (.slice e), some s, some x => match szOf P e, byOf P e, zeroOf P e with
      | some n, some b, some z => if 1 ≤ n ∧ b ≤ 4096 ∧ z.length = n then some (.app e n s x) else none
      | _, _, _ => none
    | _, _, _ => none
  | .copy, [d, s], [T, _] => match P.underlying T, aop d, aop s with
    | some (.slice e), some d, some s => (szOf P e).map (.copy · d s)
    | _, _, _ => none
  | .delete, [m, k], [T, _] => match P.underlying T, aop m, aop k with
    | some (.map kt _), some m, some k => match P.underlying kt with
      | some (.int _) => some (.mdel m k)
      | _ => none
    | _, _, _ => none
  | .clear, [x], [T] => match P.underlying T, aop x with
    | some (.slice e), some x => match szOf P e, zeroOf P e with
      | some n, some z => if 1 ≤ n ∧ z.length = n then some (.clr z x) else none
      | _, _ => none
    | _, _ => none
  | _, _, _ => none
def intKey (P : Program) (t : TypeId) : Bool := match P.underlying t with
  | some (.map kt _) => match P.underlying kt with | some (.int _) => true | _ => false
  | _ => false
def compOp0 (P : Program) (o : Oper) : Option AOp := match o.op with
  | .move x | .assign x => (aop x).map .mv
  | .pick c a b => match aop c, aop a, aop b with
    | some c, some a, some b => some (.pick c a b)
    | _, _, _ => none
  | .alloc t => match szOf P t, zeroOf P t with
    | some n, some z => some (.new t n z)
    | _, _ => none
  | .box t x => match szOf P t, aop x with
    | some (n + 1), some x => some (.box t (n + 1) x)
    | _, _ => none
  | .build t parts => match zeroOf P t, P.underlying t with
    | some z, some (.struct fs) => if fs.toList.all (fun f => (szOf P f.type).isSome) then (partsS P fs parts.toList).map (.build z) else none
    | some z, some (.array _ e) => match szOf P e with
      | some (n + 1) => (partsA (n + 1) parts.toList).map (.build z)
      | _ => none
    | _, _ => none
  | .buildSlice t n parts => match P.underlying t with
    | some (.slice e) => match szOf P e, zeroOf P e with
      | some m, some z => if 1 ≤ m ∧ z.length = m ∧ n * m ≤ 16777216 then (partsA m parts.toList).map (.bsl e m n (repL z n)) else none
      | _, _ => none
    | _ => none
  | .load t a => match aggT P t, szOf P t, aop a with
    | some true, some n, some a => some (.ldn n a)
    | some false, _, some a => some (.ld1 a)
    | _, _, _ => none
  | .store t a x => match o.dst, szOf P t, aop a, aop x with
    | none, some (n + 1), some a, some x => some (.st (n + 1) a x)
    | _, _, _, _ => none
  | .nilCheck x => (aop x).map .nilck
  | .binOp op t x y _ => match aop x, aop y with
    | some a, some b =>
      match op with
      | .eql => match P.underlying t with
        | some (.int _) | some .string => some (.bin .eql a b)
        | _ => match baseK P t with
          | some k => some (.eqb k false a b)
          | none => (flatT P t).map (.eqf · false a b)
      | .neq => match P.underlying t with
        | some (.int _) | some .string => some (.bin .neq a b)
        | _ => match baseK P t with
          | some k => some (.eqb k true a b)
          | none => (flatT P t).map (.eqf · true a b)
      | _ => some (.bin op a b)
    | _, _ => none
  | .unOp op _ x => (aop x).map (.un op)
  | .convert s d x => match P.underlying s, P.underlying d, aop x with
    | some (.int _), some (.int k), some a => some (.cvi k a)
    | some (.slice e), some .string, some a => match P.underlying e with
      | some (.int .u8) => some (.b2s a)
      | _ => none
    | _, _, _ => none
  | .makeFunc (.func f) a b => match aops a.toList, aops b.toList with
    | some a, some b => some (.mkfn f a b)
    | _, _ => none
  | .makeMap t none => some .mkmap
  | .makeSlice t l c => match P.underlying t, aop l, aop c with
    | some (.slice e), some l, some c => match szOf P e, byOf P e, zeroOf P e with
      | some n, some b, some z => if 1 ≤ n ∧ b ≤ 4096 ∧ z.length = n then some (.mks e n z l c) else none
      | _, _, _ => none
    | _, _, _ => none
  | .slice t x lo hi mx => match P.underlying t, aop x, optO lo, optO hi, optO mx with
    | some (.slice e), some x, some lo, some hi, some mx => if mx.isSome && !hi.isSome then none else (szOf P e).map (.slc · x lo hi mx)
    | some (.array n e), some x, some lo, some hi, some mx => if mx.isSome && !hi.isSome then none else (szOf P e).map (.sla · n x lo hi mx)
    | _, _, _, _, _ => none
  | .fieldAddr s x f => match P.underlying s, aop x with
    | some (.struct fs), some x => match fs[f]? with
      | some fd => match szOf P fd.type with
        | some (_ + 1) => some (.fa fd.offset x)
        | _ => none
      | none => none
    | _, _ => none
  | .field s x f => match P.underlying s, aop x with
    | some (.struct fs), some x => match fs[f]? with
      | some fd => match aggT P fd.type, szOf P fd.type with
        | some true, some n => some (.fldn fd.offset n x)
        | some false, _ => some (.fld1 fd.offset x)
        | _, _ => none
      | none => none
    | _, _ => none
  | .indexAddr t x i => match P.underlying t, aop x, aop i with
    | some (.slice e), some x, some i => (szOf P e).map (.ixs · x i)
    | some (.array n e), some x, some i => (szOf P e).map (.ixa n · x i)
    | _, _, _ => none
  | .index t x i => match P.underlying t, aop x, aop i with
    | some (.array n e), some x, some i => match szOf P e, aggT P e with
      | some 1, some false => some (.ixv n x i)
      | _, _ => none
    | _, _, _ => none
  | .extract x i => (aop x).map (.ext · i)
  | .lookup t m k ok => match P.underlying t, aop m, aop k with
    | some (.map _ e), some m, some k => if intKey P t then (match P.info? e with
        | some i => match i.zero with
          | some z => (av1 z).map (.mget · ok m k)
          | none => none
        | none => none) else none
    | _, _, _ => none
  | .mapUpdate t m k v | .insert t m k v => match o.dst, aop m, aop k, aop v with
    | none, some m, some k, some v => if intKey P t then some (.mset m k v) else none
    | _, _, _, _ => none
  | .call c => match c.callee with
    | .value (.func f) => (aops c.args.toList).map (.scall f)
    | .value f => match aop f, aops c.args.toList with
      | some f, some a => some (.call f a)
      | _, _ => none
    | .builtin b => compBuiltin P b c.argTypes.toList c.args.toList
    | .invoke .. => none
  | _ => none
/-- what is not covered fails when it is run -/
def compOp (P : Program) (o : Oper) : Option AOp := some ((compOp0 P o).getD .bad)
def compGuard (ops : Array Oper) (N : Nat) (g : Option (Nat × Bool)) : Option (Option (Nat × Bool)) := match g with
  | none => some none
  | some (j, b) => match (ops[j]?).bind (·.dst) with
    | some d => some (some (d, b))
    | none => none
def compDst (N : Nat) (d : Option Tmp) : Option Nat := match d with
  | none => some 0
  | some d => if d < N then some (d + 1) else none
def compOpers (P : Program) (N : Nat) (ops : Array Oper) : List Oper → Option (List AOper)
  | [] => some []
  | o :: l => match compDst N o.dst, compOp P o, compGuard ops N o.guard, compOpers P N ops l with
    | some d, some p, some g, some r => some (.mk d p g :: r)
    | _, _, _, _ => none
/-! regions that draw their order: the machine's own order, and what it asks -/
inductive It where
  | op (i : Nat) | chk (i : Nat)
def isEff : AOp → Bool
  | .st .. | .app .. | .app0 .. | .copy .. | .call .. | .scall .. | .mset .. | .mdel .. | .clr .. => true
  | _ => false
def isLoad : AOp → Bool
  | .ld1 .. | .ldn .. | .b2s .. | .lenm .. | .mget .. => true
  | _ => false
def opOf : AOper → AOp
  | .mk _ p _ => p
  | .chk _ p _ => p
/-- who stands before, by edges that bind -/
def edgeBits (acc : List Nat) : List Edge → Nat
  | [] => 0
  | e :: l => if Region.binds .any e then (2 ^ e.on ||| acc.getD e.on 0) ||| edgeBits acc l else edgeBits acc l
def befores : List Oper → List Nat → List Nat
  | [], acc => acc
  | o :: l, acc => befores l (acc ++ [edgeBits acc o.after.toList])
def slotsR (ops : Array Oper) (o : Oper) : List Nat :=
  (o.op.operands.toList.filterMap fun | .tmp t => some t | _ => none) ++ (match o.guard with | some (j, _) => ((ops[j]?).bind (·.dst)).toList | none => [])
/-- what is asked of two operations of which the first one comes first -/
def pairOk (bf : List Nat) (cs : List AOper) (ds : List (Option Nat)) (rs : List (List Nat)) (j i : Nat) : Bool :=
  let before := (bf.getD i 0).testBit j
  let dj := ds.getD j none
  let di := ds.getD i none
  (i != j) && (before || !(match cs[j]? with | some c => isEff (opOf c) | none => true)) &&
  (match dj with
    | none => true
    | some x => (di != some x) && (before || !(rs.getD i []).contains x)) &&
  (match di with
    | none => true
    | some x => before || !(rs.getD j []).contains x)
def selfOk (ds : List (Option Nat)) (rs : List (List Nat)) (i : Nat) : Bool :=
  match ds.getD i none with
  | none => true
  | some x => !(rs.getD i []).contains x
def pairsOk (bf : List Nat) (cs : List AOper) (ds : List (Option Nat)) (rs : List (List Nat)) : List It → Bool
  | [] => true
  | .chk _ :: l => pairsOk bf cs ds rs l
  | .op j :: l => selfOk ds rs j && (l.all fun | .op i => pairOk bf cs ds rs j i | .chk _ => true) && pairsOk bf cs ds rs l
/-- a check of i comes before the next effect -/
def segHas (cs : List AOper) (i : Nat) : List It → Bool
  | [] => false
  | .chk j :: l => i == j || segHas cs i l
  | .op j :: l => !(match cs[j]? with | some c => isEff (opOf c) | none => true) && segHas cs i l
def chksOf (bf : List Nat) (cs : List AOper) (i : Nat) : List It → Bool
  | [] => true
  | .chk _ :: l => chksOf bf cs i l
  | .op j :: l => (!(match cs[j]? with | some c => isEff (opOf c) | none => true) || (bf.getD j 0).testBit i || segHas cs i l) && chksOf bf cs i l
/-- what a check reads is written by nobody later -/
def readsOk (bf : List Nat) (ds : List (Option Nat)) (rs : List (List Nat)) (n i : Nat) : Bool :=
  (List.range n).all fun j => match ds.getD j none with
    | none => true
    | some x => (bf.getD i 0).testBit j || !(rs.getD i []).contains x
def loadsOk (bf : List Nat) (cs : List AOper) : List It → Bool
  | [] => true
  | .chk _ :: l => loadsOk bf cs l
  | .op i :: l => (!(match cs[i]? with | some c => isLoad (opOf c) | none => true) || chksOf bf cs i l) && loadsOk bf cs l
def hasOp (i : Nat) : List It → Bool
  | [] => false
  | .op j :: l => i == j || hasOp i l
  | .chk _ :: l => hasOp i l
def backOk : List Oper → Nat → Bool
  | [], _ => true
  | o :: l, i => (o.after.toList.all fun e => !Region.binds .any e || decide (e.on < i)) && backOk l (i + 1)
def drawOk (bf : List Nat) (cs : List AOper) (ds : List (Option Nat)) (rs : List (List Nat)) (ops : List Oper) (its : List It) : Bool :=
  backOk ops 0 && ((List.range ops.length).all fun i => hasOp i its) && (its.all fun | .op i => decide (i < ops.length) | .chk i => readsOk bf ds rs ops.length i) && pairsOk bf cs ds rs its && loadsOk bf cs its
def mkItem (cs : List AOper) : It → Option AOper
  | .op i => cs[i]?
  | .chk i => match cs[i]? with
    | some (.mk (d + 1) p g) => if isLoad p then some (.chk d p g) else none
    | _ => none
def mkItems (cs : List AOper) : List It → Option (List AOper)
  | [] => some []
  | x :: l => match mkItem cs x, mkItems cs l with
    | some a, some r => some (a :: r)
    | _, _ => none
def effAt (cs : List AOper) (i : Nat) : Bool := match cs[i]? with | some c => isEff (opOf c) | none => true
def loadAt (cs : List AOper) (i : Nat) : Bool := match cs[i]? with | some c => isLoad (opOf c) | none => false
def phase (bf : List Nat) (cs : List AOper) (cnt : List (Nat × Nat)) (last : Option Nat) (k : Nat) : List It :=
  (match last with
    | none => []
    | some e => (cnt.filter fun p => loadAt cs p.1 && decide (p.2 < k) && !(bf.getD e 0).testBit p.1).map fun p => .chk p.1) ++
  ((cnt.filter fun p => p.2 == k && !effAt cs p.1).map fun p => .op p.1) ++ ((cnt.filter fun p => p.2 == k && effAt cs p.1).map fun p => .op p.1)
def phases (bf : List Nat) (cs : List AOper) (cnt : List (Nat × Nat)) (effs : List Nat) (last : Option Nat) (k : Nat) : List It :=
  match effs with
  | [] => phase bf cs cnt last k
  | e :: l => phase bf cs cnt last k ++ phases bf cs cnt l (some e) (k + 1)
def orderOf (bf : List Nat) (cs : List AOper) (n : Nat) : List It :=
  let effs := (List.range n).filter (effAt cs)
  let cnt := (List.range n).map fun i => (i, (effs.filter fun e => (bf.getD i 0).testBit e).length)
  phases bf cs cnt effs none 0
def compDraw (P : Program) (N : Nat) (ops : Array Oper) : Option (List AOper) :=
  match compOpers P N ops ops.toList with
  | none => none
  | some cs =>
    let bf := befores ops.toList []
    let its := orderOf bf cs ops.size
    if drawOk bf cs (ops.toList.map (·.dst)) (ops.toList.map (slotsR ops)) ops.toList its then mkItems cs its else none
def badC : AC := .reg [.mk 0 .bad none]
def comp (P : Program) (N : Nat) : Code → Option AC
  | .skip => some .skip
  | .region _ ops false => (compOpers P N ops ops.toList).map .reg
  | .region _ ops true => some (((compDraw P N ops).map .reg).getD badC)
  | .seq a b => match comp P N a, comp P N b with
    | some x, some y => some (.seq x y)
    | _, _ => none
  | .cond c a b => match aop c, comp P N a, comp P N b with
    | some c, some x, some y => some (.cond c x y)
    | _, _, _ => none
  | .block id b => (comp P N b).map (.block id)
  | .loop b => (comp P N b).map .loop
  | .rangeFunc f ps a b => match aop f, comp P N a, comp P N b with
    | some f, some x, some y => if ps.toList.all (· < N) then some (.rng f ps.toList x y) else none
    | _, _, _ => none
  | .exit id => some (.exit id)
  | .ret => some .ret
  | _ => some badC
def compRes (P : Program) : List ResultVar → Option (List ARes)
  | [] => some []
  | r :: l => match (match r with
      | .tmp t => some (.tmp t)
      | .cell a t => match aggT P t, szOf P t with
        | some true, some n => some (.cells a n)
        | some false, _ => some (.cell a)
        | _, _ => none : Option ARes), compRes P l with
    | some x, some y => some (x :: y)
    | _, _ => none
def compF (P : Program) (f : Func) : Option AFn := match f.body with
  | some b => match comp P f.ntmps b, compRes P f.results.toList with
    | some c, some r => some (.mk c r)
    | _, _ => none
  | none => none
end Go.AM
