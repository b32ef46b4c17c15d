/-
 Functions of the program as the abstract machine reads them, and what is stated of them, checked by the kernel. No conditions.
-/
import Derived.Test.YtnnbibnobmegpaaSeatCfg
import Derived.Test.YtnnbibnobmegpaaXN
set_option linter.unusedVariables false
set_option linter.unusedSimpArgs false
set_option maxRecDepth 100000
namespace Go.AM
attribute [local irreducible] W
open X
structure Lv where
 seq:Int
 stripe:Int
 blocks:Int
 par:Bool
 sure:Bool
 home:Bool
def Lv.c (x:Lv):List AV:=[.int .u32 x.seq,.int .i64 x.stripe,.int .i64 x.blocks,.bool x.par,.bool x.sure,.bool x.home]
structure Lv.ok (x:Lv):Prop where
 seq:Zgi x.seq
 stripe:Zc4 x.stripe
 blocks:Zc4 x.blocks
def lvs (L:List Lv):List AV:=L.flatMap Lv.c
theorem Ygf (x:Lv) (L:List Lv):lvs (x::L)=x.c++lvs L:=rfl
theorem Zpl:∀ (L:List Lv),(lvs L).length=L.length*6
 | []=>rfl
 | x::L=>by rw [Ygf,List.length_append,Zpl L,List.length_cons];show 6+_=_;omega
structure Log where
 age:Int
 seq:Int
 tail:Int
 used:Int
 live:List Lv
structure Log.ok (l:Log):Prop where
 age:Zgi l.age
 seq:Zgi l.seq
 tail:Zc4 l.tail
 used:Zc4 l.used
 live:∀ x ∈ l.live,x.ok
 len:l.live.length≤1000
def Log.c (l:Log) (v:AV):List AV:=[.int .u32 l.age,.int .u32 l.seq,.int .i64 l.tail,.int .i64 l.used,v]
def LSl (L:List Lv) (v:AV):Prop:=Sl 6 L.length (lvs L) v
structure Ring where
 l:Log
 c:Cfg
structure Ring.ok (r:Ring):Prop where
 l:r.l.ok
 c:r.c.ok
def Ring.cs (r:Ring) (v:AV):List AV:=r.l.c v++r.c.c
def dAdd (k:Int) (l:List Int):List Int:=if k ∈ l then l else l++[k]
section
variable {t:AT}{s:St}{q:AV→St→Prop}{x y z:AO}
end
def dStep (l:List Int) (x:Lv):List Int:=if x.par then (dAdd x.stripe l).erase x.stripe else dAdd x.stripe l
def dirtyL (L:List Lv):List Int:=L.foldl dStep []
theorem Zgc {n:Nat}{l cs:List AV}{k:List AV→Prop}(h:Zdf n l=some cs) (hk:k cs):ETake n l k:=by
 unfold ETake;exact ⟨cs,h,hk⟩
def hTake (tk:List Int) (x:Lv):List Int:=if x.home && x.par then dAdd x.stripe tk else tk
def hBad (tk:List Int) (x:Lv):Bool:=x.home && (!x.sure || !decide (x.stripe ∈ hTake tk x))
def Yim:List Lv→List Int→Bool
 | [],_=>true
 | x::l,tk=>!hBad tk x && Yim l (hTake tk x)
def homesB (L:List Lv):Bool:=Yim L.reverse []
def Zj0:AC→Option (AC×AC)
 | .rng _ _ a b=>some (a,b)
 | .seq a b=>match Zj0 a with|some x=>some x|none=>Zj0 b
 | .block _ b=>Zj0 b
 | .loop b=>Zj0 b
 | _=>none
theorem Sl.cells {es n:Nat}{l:List AV}{v:AV}(h:Sl es n l v):cellsOf v=[v]:=by
 rcases h with ⟨rfl,_⟩|⟨rfl,_⟩|⟨c,rfl,_⟩ <;> rfl
def roomB (r:Ring):Bool:=decide (r.l.used≤r.c.log) && decide ((r.c.members+1)*((dirtyL r.l.live).length:Int)≤IntKind.i64.wrap (r.c.log-r.l.used))
end Go.AM
set_option maxRecDepth 100000
namespace Go.AM
attribute [local irreducible] W
open X
def lvBad (r:Ring) (i:Nat) (sure:Bool) (x:Lv):Prop:=
 x.stripe<0∨r.c.chunk*r.c.rows≤x.stripe∨x.blocks<2∨r.c.members+1<x.blocks∨x.seq=0∨x.seq≠(r.l.seq-((r.l.live.length:Int)-i)) % 4294967296∨(x.sure=true∧sure=false)
instance (r:Ring) (i:Nat) (sure:Bool) (x:Lv):Decidable (lvBad r i sure x):=by unfold lvBad;infer_instance
def Yh6 (r:Ring):Nat→Int→Bool→List Lv→Option Int
 | _,u,_,[]=>some u
 | i,u,s,x::l=>if lvBad r i s x then none else Yh6 r (i+1) (u+x.blocks) x.sure l
def topB (r:Ring):Prop:=Ybg r.l.age=true∧Ybg r.l.seq=true∧0≤r.l.tail∧r.l.tail<r.c.log∧(r.l.live.length:Int)≤r.c.log∧r.l.used≤r.c.log
instance (r:Ring):Decidable (topB r):=by unfold topB;infer_instance
def rightB (r:Ring):Bool:=decide (topB r) && (match Yh6 r 0 0 true r.l.live with
 | none=>false
 | some u=>decide (u=r.l.used) && decide ((r.l.live.length:Int)<r.l.seq) && homesB r.l.live && roomB r)
structure CL where
 c:Cfg
 l:Log
 v:AV
structure CL.ok (x:CL):Prop where
 c:x.c.ok
 l:x.l.ok
 v:LSl x.l.live x.v
def CL.lv (x:CL):AV:=.agg (x.l.c x.v)
def CL.ring (x:CL):Ring:=⟨x.l,x.c⟩
def CL.good (x:CL):Prop:=x.c.may∧rightB x.ring=true
instance (x:CL):Decidable x.good:=by unfold CL.good;infer_instance
def CL.args (x:CL):List AV:=[x.c.v,x.lv]
end Go.AM
set_option maxRecDepth 100000
namespace Go.AM
attribute [local irreducible] W
open X
section
variable {t:AT}{s:St}{k:AV→St→Prop}{x y:AO}
theorem EPrim.app1 {el es r m:Nat}{v:AV}{c:AV}{cs:List AV}(hx:ev x t=.some (.sl r 0 0 (some 0))) (hy:ev y t=.some v) (hv:Zgl es v s=some (c::cs)) (hr:s.get r=some (.row el [])) (hm:(c::cs).length / es=m) (h0:0<m) (h1:m≤1000000) (hk:k (.sl s.next 0 m none) (s.alloc (.row el (c::cs)))):EPrim (.app el es x y) t s k:=by
 refine EPrim.mk (fun e rec=>?_) hk
 show wth x t _=_;unfold wth;rw [hx]
 show wth y t _=_;unfold wth;rw [hy]
 show (Option.rec .fail _ (Zgl es v s):RV)=_
 rw [hv]
 show AM.app1 el es (c::cs) (Nat.div (Zd0 (c::cs)) es) r 0 0 (some 0) s=_
 unfold AM.app1
 rw [Zbu,show Nat.div (c::cs).length es=m from hm,show Nat.mul 0 es=0 from Nat.zero_mul es,Zqo hr (by simp)]
 show (Bool.rec (Ze9 el (0+m) (Zgx [] (c::cs)) s) _ (Nat.ble (0+m) 0):RV)=_
 rw [Nat.zero_add,show Nat.ble m 0=false by rw [← Bool.not_eq_true];intro e;have:=Nat.le_of_ble_eq_true e;omega]
 show gd (Nat.ble m 1000000) _=_
 rw [Nat.ble_eq_true_of_le h1];rfl
end
theorem eqbNil {t:AT}{s:St}{k:AV→St→Prop}{x y:AO}{v:AV}(hx:ev x t=.some v) (hy:ev y t=.some .nils) (h:v=.es∨∃ n c l,v=.fz n c l) (hk:k (.bool false) s):EPrim (.eqb 2 false x y) t s k:=by
 refine EPrim.mk (v:=.bool false) (s':=s) (fun e rec=>?_) hk
 show wth x t _=_;unfold wth;rw [hx]
 show wth y t _=_;unfold wth;rw [hy]
 rcases h with rfl|⟨n,c,l,rfl⟩ <;> rfl
end Go.AM
