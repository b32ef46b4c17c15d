/-
 Functions of the program as the abstract machine reads them, and what is stated of them, checked by the kernel. No conditions.
-/
import Derived.Test.YtnnbibnobmegpaaAM1
import Derived.Laws.Strings
import Derived.IntWalk
import Derived.Laws.StructEq
import Derived.Laws.BytesString
import Derived.ChangeKeysEq
import Derived.Lib.AppendZerosOnto
import Derived.Maps.RangeRun
set_option linter.unusedVariables false
set_option linter.unusedSimpArgs false
namespace Go.AM
section
variable {P:Program}{γ:Gam}{s:St}{w:World}{t:AT}{ρ:Operand→Value}
theorem Yds {v:Value}{a:AV}(h:av1 v=some a):VR γ a v∧v.oneCell'=true:=by
 unfold av1 at h
 split at h
 case h_9 f as bs=>
  split at h
  ·rename_i h1 h2
   cases h
   refine ⟨.fn _ _ _ _ _ (by rw [h1];exact .nil) (by rw [h2];exact .nil),rfl⟩
  ·cases h
 all_goals first
  | (cases h;first
      | exact ⟨.bool _,rfl⟩|exact ⟨.int _ _,rfl⟩|exact ⟨.str _ _ rfl,rfl⟩|exact ⟨.nilp,rfl⟩|exact ⟨.nils,rfl⟩|exact ⟨.nilm,rfl⟩|exact ⟨.nilf,rfl⟩|exact ⟨.nili,rfl⟩)
  | cases h
theorem Zi7:∀ {l:List Value}{m:List AV},avs l=some m→All2 (VR γ) m l∧∀ v ∈ l,v.oneCell'=true
 | [],m,h=>by cases h;exact ⟨.nil,by simp⟩
 | v::l,m,h=>by
  simp only [avs] at h
  split at h
  ·rename_i x y h1 h2
   cases h
   obtain ⟨a,b⟩:=Yds (γ:=γ) h1
   obtain ⟨c,d⟩:=Zi7 h2
   exact ⟨.cons a c,by simp [b];exact d⟩
  ·cases h
theorem av_VR {v:Value}{a:AV}(h:av v=some a):VR γ a v:=by
 unfold av at h
 split at h
 ·rename_i cs
  cases ha:avs cs.toList with
  | none=>rw [ha] at h;cases h
  | some l=>rw [ha] at h;cases h;obtain ⟨x,y⟩:=Zi7 (γ:=γ) ha;exact .agg _ _ x y
 ·rename_i cs
  cases ha:avs cs.toList with
  | none=>rw [ha] at h;cases h
  | some l=>rw [ha] at h;cases h;exact .tup _ _ (Zi7 ha).1
 ·exact (Yds h).1
def Evs (γ:Gam) (t:AT) (ρ:Operand→Value) (xs:List Operand):Prop:=∀ x ∈ xs,∀ a v,aop x=some a→ev a t=.some v→VR γ v (ρ x)
theorem Zha {xs:List Operand}:∀ {as:List AO}{vs:List AV},Zy5 xs=some as→evs t as=some vs→Evs γ t ρ xs→All2 (VR γ) vs (xs.map ρ):=by
 induction xs with
 | nil=>intro as vs h1 h2 _;cases h1;cases h2;exact .nil
 | cons x xs ih=>
  intro as vs h1 h2 he
  simp only [Zy5] at h1
  split at h1
  ·rename_i a b ha hb
   cases h1
   change (OV.rec none (fun v=>Option.rec none (fun vs=>some (v::vs)) (evs t b)) (ev a t):Option (List AV))=some vs at h2
   cases hv:ev a t with
   | none=>rw [hv] at h2;cases h2
   | some v=>
    rw [hv] at h2
    cases hw:evs t b with
    | none=>rw [hw] at h2;cases h2
    | some ws=>
     rw [hw] at h2
     cases h2
     exact .cons (he x (by simp) a v ha hv) (ih hb hw fun y hy=>he y (by simp [hy]))
  ·cases h1
def OpOk (P:Program) (γ:Gam) (s:St) (w:World) (ρ:Operand→Value) (o:Oper) (v:AV) (s':St):Prop:=
 ∃ γ' w',Stp γ s w γ' s' w'∧Sim P γ' s' w'∧((∃ v',(execOp ρ o).run P w=.ok (.value v') w'∧VR γ' v v')∨((execOp ρ o).run P w=.ok .skip w'∧o.dst=none))
theorem Zag (h:Sim P γ s w) {o:Oper}{v:AV}(v':Value) (hr:(execOp ρ o).run P w=.ok (.value v') w) (hv:VR γ v v'):OpOk P γ s w ρ o v s:=
 ⟨γ,w,.refl _ _ _,h,.inl ⟨v',hr,hv⟩⟩
theorem Zlj {v:AV}{v':Value}{n:Nat}(h:VR γ v v') (hone:Nat.beq (Zd0 (cellsOf v)) (n+1)=true):All2 (VR γ) (cellsOf v) v'.cells.toList∧∀ u ∈ v'.cells.toList,u.oneCell'=true:=by
 cases h with
 | agg l a h1 h2=>exact ⟨h1,h2⟩
 | tup l a h1=>cases hone
 | any _ ho=>cases v' <;> first|(exfalso;simp [Value.oneCell'] at ho;done)|exact ⟨.cons (.any _ ho) .nil,by simp [Value.cells,Value.oneCell']⟩
 | _=>exact ⟨.cons (by constructor <;> assumption) .nil,by simp [Value.cells,Value.oneCell']⟩
theorem Zau {a v:AV}{s s':St}(h:RV.ok a s=RV.ok v s'):a=v∧s=s':=by cases h;exact ⟨rfl,rfl⟩
def Fresh (P:Program) (γ:Gam) (w:World) (ρ:Operand→Value) (o:Oper) (s:St) (v:AV) (s':St):Prop:=
 ∃ (obj:AObj) (mkv:Nat→AV) (O:Obj) (sz es:Nat) (v':Value),v=mkv s.next∧s'=s.alloc obj∧(execOp ρ o).run P w=.ok (.value v') (w.alloc O)∧
  ∀ (γ':Gam) (r:Nat),Le γ γ'→γ' r=some ⟨w.heap.size,0,sz,es⟩→ObjR P γ' ⟨w.heap.size,0,sz,es⟩ obj (w.alloc O).heap∧VR γ' (mkv r) v'
theorem Fresh.ok (hs:Sim P γ s w) {o:Oper}{v:AV}{s':St}(h:Fresh P γ w ρ o s v s'):OpOk P γ s w ρ o v s':=by
 obtain ⟨obj,mkv,O,sz,es,v',rfl,rfl,hr,hk⟩:=h
 have hle:=Zgr (L:=⟨w.heap.size,0,sz,es⟩) (hs.nx s.next (Nat.le_refl _))
 obtain ⟨h1,h2⟩:=hk _ s.next hle (Za8 _ _ _)
 obtain ⟨hst,hsim⟩:=hs.alloc obj O sz es h1
 exact ⟨_,_,hst,hsim,.inl ⟨v',hr,h2⟩⟩
theorem Zwg (hs:Sim P γ s w) {o:Oper}{x:Operand}{a:AO}{v:AV}{s':St}(hx:aop x=some a) (ho:o.op=.move x∨o.op=.assign x) (he:Evs γ t ρ [x])
 (h:mvA a t s=.ok v s'):OpOk P γ s w ρ o v s':=by
 obtain ⟨u,hu,h⟩:=Za5 h
 obtain ⟨rfl,rfl⟩:=Zau h
 have hv:=he x (by simp) a u hx hu
 refine Zag hs (ρ x) ?_ hv
 rcases ho with ho|ho <;> simp [execOp,ho]
theorem Zx2 (hs:Sim P γ s w) {o:Oper}{c x y:Operand}{ac ax ay:AO}{v:AV}{s':St}(hc:aop c=some ac) (hx:aop x=some ax) (hy:aop y=some ay) (ho:o.op=.pick c x y) (he:Evs γ t ρ [c,x,y])
 (h:pickA ac ax ay t s=.ok v s'):OpOk P γ s w ρ o v s':=by
 obtain ⟨u,hu,h⟩:=Za5 h
 have hcv:=he c (by simp) ac u hc hu
 cases hb:asBool u with
 | no=>rw [hb] at h;cases h
 | tt=>
  rw [hb] at h
  obtain ⟨e1,rfl⟩:=Zru h
  rw [Zkq hb] at hcv
  generalize hcc:ρ c=cv at hcv
  cases hcv
  exact Zag hs (ρ x) (by simp [execOp,ho,hcc,Go.asBool]) (he x (by simp) ax v hx e1)
 | ff=>
  rw [hb] at h
  obtain ⟨e1,rfl⟩:=Zru h
  rw [Zkr hb] at hcv
  generalize hcc:ρ c=cv at hcv
  cases hcv
  exact Zag hs (ρ y) (by simp [execOp,ho,hcc,Go.asBool]) (he y (by simp) ay v hy e1)
theorem Zb1 {P:Program}{t:TypeId}{i:TypeInfo}{z:Value}(hi:P.info? t=some i) (hz:i.zero=some z) (w:World):(zeroValue t).run P w=.ok z w:=by
 simp [zeroValue,typeInfo,hi,hz]
theorem Za9 {P:Program}{t:TypeId}{n:Nat}(h:Zdd P t=some n) (w:World):(Go.sizeOf t).run P w=.ok n w:=by
 unfold Zdd at h
 cases hi:P.info? t with
 | none=>rw [hi] at h;cases h
 | some i=>rw [hi] at h;cases h;simp [Go.sizeOf,typeInfo,hi]
theorem Ze5 {P:Program}{t:TypeId}{b:Bool}(h:Zo5 P t=some b) (w:World):(isAgg t).run P w=.ok b w:=by
 unfold Zo5 at h
 cases hu:P.underlying t with
 | none=>rw [hu] at h;cases h
 | some d=>rw [hu] at h;cases d <;> cases h <;> simp [isAgg,run_underlying hu]
theorem Zdw {P:Program}{t:TypeId}{z:List AV}(h:Zfd P t=some z):∃ i zv,P.info? t=some i∧i.zero=some zv∧avs zv.cells.toList=some z:=by
 unfold Zfd at h
 split at h
 ·rename_i i hi
  split at h
  ·rename_i zv hz;exact ⟨i,zv,hi,hz,h⟩
  ·cases h
 ·cases h
theorem Ybn {o:Oper}{ty n:Nat}{z:List AV}{v:AV}{s':St}(hn:Zdd P ty=some n) (hz:Zfd P ty=some z) (ho:o.op=.alloc ty)
 (h:newA ty n z t s=.ok v s'):Fresh P γ w ρ o s v s':=by
 cases h
 obtain ⟨i,zv,hi,hzz,ha⟩:=Zdw hz
 obtain ⟨h1,h2⟩:=Zi7 (γ:=γ) ha
 refine ⟨.row ty z,fun r=>.ptr r 0,.cells zv.cells ty,zv.cells.size,n,.pointer (some ⟨w.heap.size,0,none⟩),rfl,rfl,?_,fun γ' r hle hr=>⟨Zvy hn h1 h2 hle,.ptr r 0 _ hr⟩⟩
 simp [execOp,ho,Instr.alloc,Zb1 hi hzz,newVar,newRow]
theorem Ydm {o:Oper}{ty n:Nat}{x:Operand}{a:AO}{v:AV}{s':St}(hn:Zdd P ty=some (n+1)) (hx:aop x=some a) (ho:o.op=.box ty x) (he:Evs γ t ρ [x])
 (h:boxA ty (n+1) a t s=.ok v s'):Fresh P γ w ρ o s v s':=by
 obtain ⟨u,hu,h⟩:=Za5 h
 obtain ⟨hl,h⟩:=Zco h
 obtain ⟨rfl,rfl⟩:=Zau h
 have hv:=he x (by simp) a u hx hu
 obtain ⟨h1,h2⟩:=Zlj hv hl
 refine ⟨.row ty (cellsOf u),fun r=>.ptr r 0,.cells (ρ x).cells ty,(ρ x).cells.size,n+1,.pointer (some ⟨w.heap.size,0,none⟩),rfl,rfl,?_,fun γ' r hle hr=>⟨Zvy hn h1 h2 hle,.ptr r 0 _ hr⟩⟩
 simp [execOp,ho,Instr.box,newVar,newRow]
end
end Go.AM
namespace Go.AM
section
variable {P:Program}{γ:Gam}{s:St}{w:World}{t:AT}{ρ:Operand→Value}
theorem Zwu:∀ (vs:List Value) (off:Nat) (cells:Array Value) (k:Nat),off+k+vs.length≤cells.size→
 (vs.zipIdx k).foldl (fun (cs:Array Value) (x:Value×Nat)=>cs.setIfInBounds (off+x.2) x.1) cells=(cells.toList.take (off+k)++vs++cells.toList.drop (off+k+vs.length)).toArray
 | [],off,cells,k,_=>by simp
 | v::vs,off,cells,k,h=>by
  simp only [List.zipIdx_cons,List.foldl_cons]
  rw [Zwu vs off _ (k+1) (by simp at h ⊢;omega)]
  congr 1
  simp only [List.length_cons] at h
  apply List.ext_getElem?
  intro i
  simp only [Array.toList_setIfInBounds]
  by_cases h1:i<off+k
  ·rw [List.append_assoc,List.append_assoc,List.getElem?_append_left (by simp;omega),List.getElem?_append_left (by simp;omega),List.getElem?_take,List.getElem?_take,if_pos (by omega),if_pos h1,List.getElem?_set]
   rw [if_neg (by omega)]
  ·by_cases h2:i=off+k
   ·subst h2
    rw [List.append_assoc,List.getElem?_append_left (by simp;omega),List.getElem?_take,if_pos (by omega),List.getElem?_set]
    rw [List.append_assoc,List.getElem?_append_right (by simp;omega),if_pos rfl]
    simp only [List.length_take,Array.length_toList]
    rw [Nat.min_eq_left (by omega),if_pos (by omega)]
    simp
   ·by_cases h3:i<off+k+1+vs.length
    ·rw [List.append_assoc,List.getElem?_append_right (by simp;omega),List.getElem?_append_left (by simp;omega)]
     rw [List.append_assoc,List.getElem?_append_right (by simp;omega),List.getElem?_append_left (by simp;omega)]
     simp only [List.length_take,List.length_set,Array.length_toList]
     rw [Nat.min_eq_left (by omega),Nat.min_eq_left (by omega),show i-(off+k)=(i-(off+(k+1)))+1 by omega]
     simp
    ·rw [List.getElem?_append_right (by simp;omega),List.getElem?_append_right (by simp;omega),List.getElem?_drop,List.getElem?_drop,List.getElem?_set]
     simp only [List.length_append,List.length_take,List.length_set,Array.length_toList,List.length_cons]
     rw [if_neg (by omega)]
     congr 1
     omega
theorem Zld (place:Nat→Option (Nat×Nat)) (ps:List (Nat×Operand)):∀ (as:List (Nat×Nat×AO)) (z z':List AV) (zv:Array Value),
 (∀ x ∈ ps.map (·.2),∀ a v,aop x=some a→ev a t=.some v→VR γ v (ρ x))→
 All2 (fun (p:Nat×Operand) (q:Nat×Nat×AO)=>aop p.2=some q.2.2∧place p.1=some (q.1,q.2.1)∧1≤q.2.1) ps as→
 fill t as z=some z'→All2 (VR γ) z zv.toList→(∀ v ∈ zv.toList,v.oneCell'=true)→
 ∃ zv':Array Value,Instr.fill place zv (ps.map fun (p:Nat×Operand)=>(p.1,ρ p.2))=some zv'∧All2 (VR γ) z' zv'.toList∧(∀ v ∈ zv'.toList,v.oneCell'=true):=by
 induction ps with
 | nil=>intro as z z' zv _ ha hf hz h1;cases ha;cases hf;exact ⟨zv,rfl,hz,h1⟩
 | cons p ps ih=>
  intro as z z' zv hev ha hf hz h1
  cases ha with
  | @cons _ q _ qs hq hqs=>
   obtain ⟨hq1,hq2,hq3⟩:=hq
   change (OV.rec none (fun v=>Bool.rec none (Option.rec none (fun z'=>fill t qs z') (upd (cellsOf v) q.1 z)) (Nat.beq (Zd0 (cellsOf v)) q.2.1)) (ev q.2.2 t):Option (List AV))=some z' at hf
   cases hv:ev q.2.2 t with
   | none=>rw [hv] at hf;cases hf
   | some v=>
    rw [hv] at hf
    dsimp only at hf
    cases hb:Nat.beq (Zd0 (cellsOf v)) q.2.1 with
    | false=>rw [hb] at hf;cases hf
    | true=>
     rw [hb] at hf
     dsimp only at hf
     cases hu:upd (cellsOf v) q.1 z with
     | none=>rw [hu] at hf;cases hf
     | some z1=>
      rw [hu] at hf
      dsimp only at hf
      have hvr:=hev p.2 (by simp) _ _ hq1 hv
      obtain ⟨n,hn⟩:∃ n,q.2.1=n+1:=⟨q.2.1-1,by omega⟩
      obtain ⟨c1,c2⟩:=Zlj (n:=n) hvr (by rw [← hn];exact hb)
      obtain ⟨e1,hle⟩:=Zvk _ _ hu
      have hlen:=c1.length
      have hl2:(cellsOf v).length=q.2.1:=by have:=Nat.eq_of_beq_eq_true hb;rwa [Zbu] at this
      have hzl:=hz.length
      simp only [Array.length_toList] at hlen hzl
      have hfold:=Zwu (ρ p.2).cells.toList q.1 zv 0 (by simp;omega)
      obtain ⟨zv',r1,r2,r3⟩:=ih qs z1 z' (zv.toList.take q.1++(ρ p.2).cells.toList++zv.toList.drop (q.1+(ρ p.2).cells.toList.length)).toArray
       (fun x hx=>hev x (by simp at hx ⊢;exact .inr hx)) hqs hf
       (by subst e1;show All2 _ _ (_++_++_);rw [← c1.length];exact ((hz.take _).append c1).append (hz.drop _))
       (by
         intro u hu
         simp only [List.mem_append] at hu
         rcases hu with (hu|hu)|hu
         ·exact h1 u (List.mem_of_mem_take hu)
         ·exact c2 u hu
         ·exact h1 u (List.mem_of_mem_drop hu))
      refine ⟨zv',?_,r2,r3⟩
      simp only [List.map_cons,Instr.fill,hq2]
      rw [if_neg (by simp;omega)]
      rw [← r1]
      congr 1
      have hz0:(ρ p.2).cells.zipIdx=(((ρ p.2).cells.toList.zipIdx 0).toArray):=by
       apply Array.ext';simp
      rw [hz0,List.foldl_toArray]
      simpa using hfold
theorem Zpg {fs:Array Field}:∀ {ps:List (Nat×Operand)}{as:List (Nat×Nat×AO)},Zr0 P fs ps=some as→
 All2 (fun (p:Nat×Operand) (q:Nat×Nat×AO)=>aop p.2=some q.2.2∧(∃ f,fs[p.1]?=some f∧q.1=f.offset∧Zdd P f.type=some q.2.1)∧1≤q.2.1) ps as
 | [],as,h=>by cases h;exact .nil
 | (i,x)::l,as,h=>by
  simp only [Zr0] at h
  split at h
  ·rename_i f a r h1 h2 h3
   split at h
   ·rename_i n h4
    cases h
    exact .cons ⟨h2,⟨f,h1,rfl,h4⟩,by simp⟩ (Zpg h3)
   ·cases h
  ·cases h
theorem Zk5 {es:Nat}(hes:1≤es):∀ {ps:List (Nat×Operand)}{as:List (Nat×Nat×AO)},Zni es ps=some as→
 All2 (fun (p:Nat×Operand) (q:Nat×Nat×AO)=>aop p.2=some q.2.2∧some (p.1*es,es)=some (q.1,q.2.1)∧1≤q.2.1) ps as
 | [],as,h=>by cases h;exact .nil
 | (i,x)::l,as,h=>by
  simp only [Zni] at h
  split at h
  ·rename_i a r h1 h2
   cases h
   exact .cons ⟨h1,rfl,hes⟩ (Zk5 hes h2)
  ·cases h
theorem Zxx {fs:List Field}:∀ (w:World),(∀ f ∈ fs,∃ n,Zdd P f.type=some n)→
 (fs.mapM (m:=Sem) fun f=>do pure (f.offset,← Go.sizeOf f.type)).run P w=.ok (fs.map fun f=>(f.offset,(Zdd P f.type).getD 0)) w:=by
 induction fs with
 | nil=>intro w _;simp
 | cons f fs ih=>
  intro w h
  obtain ⟨n,hn⟩:=h f (by simp)
  simp only [List.mapM_cons,Sem.run_bind,Sem.run_pure,Result.andThen_ok,Za9 hn,ih w (fun g hg=>h g (by simp [hg])),hn,List.map_cons,Option.getD_some]
theorem Zoe (hs:Sim P γ s w) {o:Oper}{ty:Nat}{parts:Array (Nat×Operand)}{z:List AV}{as:List (Nat×Nat×AO)}{v:AV}{s':St}(hz:Zfd P ty=some z)
 (hu:(∃ fs,P.underlying ty=some (.struct fs)∧(∀ f ∈ fs.toList,∃ n,Zdd P f.type=some n)∧Zr0 P fs parts.toList=some as)∨
   (∃ n e m,P.underlying ty=some (.array n e)∧Zdd P e=some (m+1)∧Zni (m+1) parts.toList=some as))
 (ho:o.op=.build ty parts) (he:Evs γ t ρ (parts.toList.map (·.2))) (h:Yi3 z as t s=.ok v s'):OpOk P γ s w ρ o v s':=by
 obtain ⟨z',hf,h⟩:=Za3 h
 obtain ⟨rfl,rfl⟩:=Zau h
 obtain ⟨i,zv,hi,hzz,ha⟩:=Zdw hz
 obtain ⟨h1,h2⟩:=Zi7 (γ:=γ) ha
 rcases hu with ⟨fs,hu,hsz,hp⟩|⟨n,e,m,hu,hm,hp⟩
 ·have hall:=Zpg hp
  obtain ⟨zv',r1,r2,r3⟩:=Zld (γ:=γ) (t:=t) (ρ:=ρ) (fun i=>(fs.map fun f=>(f.offset,(Zdd P f.type).getD 0))[i]?) parts.toList as z z' zv.cells he
   (hall.imp fun p q ⟨a,⟨f,b1,b2,b3⟩,c⟩=>⟨a,by simp [b1,b2,b3],c⟩) hf h1 h2
  refine Zag hs (.agg zv') ?_ (.agg _ _ r2 r3)
  have hpl:(fs.mapM (m:=Sem) fun f=>do pure (f.offset,← Go.sizeOf f.type)).run P w=.ok (fs.map fun f=>(f.offset,(Zdd P f.type).getD 0)) w:=by
   rw [Array.mapM_eq_mapM_toList]
   have:=Zxx (P:=P) (fs:=fs.toList) w hsz
   simp only [map_eq_pure_bind,Sem.run_bind,this,Result.andThen_ok,Sem.run_pure]
   congr 1
   apply Array.ext';simp
  simp only [execOp,ho,Instr.build,Sem.run_bind,Zb1 hi hzz,run_underlying hu,Result.andThen_ok,hpl,Sem.run_pure,Array.toList_map,r1]
 ·have hall:=Zk5 (Nat.le_add_left 1 m) hp
  obtain ⟨zv',r1,r2,r3⟩:=Zld (γ:=γ) (t:=t) (ρ:=ρ) (fun i=>some (i*(m+1),m+1)) parts.toList as z z' zv.cells he hall hf h1 h2
  refine Zag hs (.agg zv') ?_ (.agg _ _ r2 r3)
  simp only [execOp,ho,Instr.build,Sem.run_bind,Zb1 hi hzz,run_underlying hu,Result.andThen_ok,Za9 hm,Sem.run_pure,Array.toList_map,r1]
theorem Zf4 (P:Program) (w:World) (o:Obj):(newObj o).run P w=.ok w.heap.size (w.alloc o):=rfl
theorem Zng (z:List AV):∀ n,(Zzj z n).length=n*z.length
 | 0=>by simp [Zzj]
 | n+1=>by simp [Zzj,Zng z n,Nat.add_mul];omega
theorem Zij {z:List AV}{zc:Array Value}(h1:All2 (VR γ) z zc.toList) (h2:∀ v ∈ zc.toList,v.oneCell'=true) (hpos:1≤zc.size):∀ n,
 All2 (VR γ) (Zzj z n) ((Array.range (n*zc.size)).map (fun i=>zc[i % zc.size]!)).toList∧∀ v ∈ ((Array.range (n*zc.size)).map (fun i=>zc[i % zc.size]!)).toList,v.oneCell'=true:=by
 intro n
 have hl:z.length=zc.size:=by simpa using h1.length
 have key:∀ n i,(Zzj z n)[i]?=if i<n*z.length then z[i % z.length]? else none:=by
  intro n
  induction n with
  | zero=>intro i;simp [Zzj]
  | succ n ih=>
   intro i
   simp only [Zzj]
   by_cases hi:i<z.length
   ·rw [List.getElem?_append_left hi,if_pos (by rw [Nat.add_mul];omega),Nat.mod_eq_of_lt hi]
   ·rw [List.getElem?_append_right (by omega),ih]
    by_cases hi2:i<(n+1)*z.length
    ·rw [if_pos (by rw [Nat.add_mul] at hi2;omega),if_pos hi2]
     rw [Nat.mod_eq_sub_mod (a:=i) (by omega)]
    ·rw [if_neg (by rw [Nat.add_mul] at hi2;omega),if_neg hi2]
 refine ⟨Zhj (by simp [Zng,hl]) ?_,?_⟩
 ·intro i a b ha hb
  rw [key] at ha
  split at ha
  ·rename_i hi
   obtain ⟨b',hb',hR⟩:=h1.get ha
   simp only [Array.toList_map,Array.toList_range,List.getElem?_map] at hb
   rw [List.getElem?_range (by rw [← hl];exact hi)] at hb
   simp only [Option.map_some,Option.some.injEq] at hb
   subst hb
   rw [← hl]
   have hlt:i % z.length<zc.size:=by rw [← hl];exact Nat.mod_lt _ (by omega)
   rw [getElem!_pos zc (i % z.length) hlt]
   have:zc[i % z.length]?=some b':=by simpa using hb'
   rw [Array.getElem?_eq_getElem hlt] at this
   cases this;exact hR
  ·cases ha
 ·intro v hv
  simp only [Array.toList_map,Array.toList_range,List.mem_map,List.mem_range] at hv
  obtain ⟨i,hi,rfl⟩:=hv
  have hlt:i % zc.size<zc.size:=Nat.mod_lt _ (by omega)
  rw [getElem!_pos zc (i % zc.size) hlt]
  exact h2 _ (by simp)
theorem Ydl {o:Oper}{ty e m n:Nat}{parts:Array (Nat×Operand)}{z:List AV}{as:List (Nat×Nat×AO)}{v:AV}{s':St}(hu:P.underlying ty=some (.slice e))
 (hm:Zdd P e=some m) (hz:Zfd P e=some z) (h1m:1≤m) (hzl:z.length=m) (hn:n*m≤16777216) (hp:Zni m parts.toList=some as)
 (ho:o.op=.buildSlice ty n parts) (he:Evs γ t ρ (parts.toList.map (·.2))) (h:bslA e m n (Zzj z n) as t s=.ok v s'):Fresh P γ w ρ o s v s':=by
 obtain ⟨z',hf,h⟩:=Za3 h
 obtain ⟨rfl,rfl⟩:=Zau h
 obtain ⟨i,zv,hi,hzz,ha⟩:=Zdw hz
 obtain ⟨h1,h2⟩:=Zi7 (γ:=γ) ha
 have hzs:zv.cells.size=m:=by rw [← hzl];simpa using h1.length.symm
 obtain ⟨y1,y2⟩:=Zij h1 h2 (by omega) n
 have hall:=Zk5 h1m hp
 obtain ⟨zv',r1,r2,r3⟩:=Zld (γ:=γ) (t:=t) (ρ:=ρ) (fun i=>some (i*m,m)) parts.toList as _ z' _ he hall hf y1 y2
 refine ⟨.row e z',fun r=>.sl r 0 n (some n),.cells zv' e,zv'.size,m,.slice (some ⟨w.heap.size,0,none⟩) n n,rfl,rfl,?_,fun γ' r hle hr=>⟨Zvy hm r2 r3 hle,.sl r 0 n n _ hr (Nat.le_refl _)⟩⟩
 simp only [execOp,ho,Instr.buildSlice,Sem.run_bind,run_underlying hu,Result.andThen_ok,Za9 hm]
 rw [if_neg (by omega)]
 by_cases h0:n*m=0
 ·have hrow:(Array.range (n*m)).map (fun x=>(#[]:Array Value)[x % (#[]:Array Value).size]!)=(Array.range (n*zv.cells.size)).map (fun i=>zv.cells[i % zv.cells.size]!):=by
   rw [hzs,h0];simp
  simp only [if_pos h0,Sem.run_bind,Sem.run_pure,Result.andThen_ok,hrow,Array.toList_map,r1,newRow,Zf4]
 ·have hrow:(Array.range (n*m)).map (fun x=>zv.cells[x % zv.cells.size]!)=(Array.range (n*zv.cells.size)).map (fun i=>zv.cells[i % zv.cells.size]!):=by
   rw [hzs]
  simp only [if_neg h0,Sem.run_bind,Sem.run_pure,Zb1 hi hzz,Result.andThen_ok,hrow,Array.toList_map,r1,newRow,Zf4]
end
end Go.AM
namespace Go.AM
section
variable {P:Program}{γ:Gam}{s:St}{w:World}{t:AT}{ρ:Operand→Value}
theorem Yh8 {r o:Nat}{v':Value}(h:VR γ (.ptr r o) v'):∃ L,γ r=some L∧v'=.pointer (some ⟨L.b,L.o+o,none⟩):=by
 cases h with
 | ptr _ _ L hL=>exact ⟨L,hL,rfl⟩
theorem Zev {k:IntKind}{n:Int}{v':Value}(h:VR γ (.int k n) v'):v'=.int k n:=by cases h;rfl
theorem Zo3 {b:Bool}{v':Value}(h:VR γ (.bool b) v'):v'=.bool b:=by cases h;rfl
theorem Ybw (hs:Sim P γ s w) {o:Oper}{ty:Nat}{x:Operand}{a:AO}{v:AV}{s':St}(hag:Zo5 P ty=some false) (hx:aop x=some a) (ho:o.op=.load ty x) (he:Evs γ t ρ [x])
 (h:ld1A a t s=.ok v s'):OpOk P γ s w ρ o v s':=by
 obtain ⟨u,hu,h⟩:=Za5 h
 rcases Zqg h with ⟨r,i,rfl,h⟩|⟨l,rfl,h⟩
 ·obtain ⟨hl,rfl⟩:=Zk2 h
  obtain ⟨L,hL,hv⟩:=Yh8 (he x (by simp) a _ hx hu)
  obtain ⟨v',hc,hR,_⟩:=Znr hs hl hL
  refine Zag hs v' ?_ hR
  simp only [execOp,ho,Instr.loadAt,hv,Instr.sureAddr,Sem.run_bind,Sem.run_pure,Result.andThen_ok,loadVar,Ze5 hag]
  simp [run_load,hc]
 ·obtain ⟨hl,rfl⟩:=Zk2 h
  obtain ⟨b,i,cs,vs,hv,hb,h2,h3,h4,h5⟩:=fpV (he x (by simp) a _ hx hu)
  rw [Zg5] at hl
  obtain ⟨v',hv',hR⟩:=h4.get hl
  have hc:=Yck hs hb (h2 0 v' hv')
  refine Zag hs v' ?_ hR
  simp only [execOp,ho,Instr.loadAt,hv,Instr.sureAddr,Sem.run_bind,Sem.run_pure,Result.andThen_ok,loadVar,Ze5 hag]
  rw [Nat.add_zero] at hc
  simp [run_load,hc]
theorem Ybv (hs:Sim P γ s w) {o:Oper}{ty n:Nat}{x:Operand}{a:AO}{v:AV}{s':St}(hag:Zo5 P ty=some true) (hn:Zdd P ty=some n) (hx:aop x=some a) (ho:o.op=.load ty x) (he:Evs γ t ρ [x])
 (h:ldnA n a t s=.ok v s'):OpOk P γ s w ρ o v s':=by
 obtain ⟨u,hu,h⟩:=Za5 h
 rcases Zqg h with ⟨r,i,rfl,h⟩|⟨l,rfl,h⟩
 ·obtain ⟨cs,hl,h⟩:=Za3 h
  obtain ⟨rfl,rfl⟩:=Zau h
  obtain ⟨L,hL,hv⟩:=Yh8 (he x (by simp) a _ hx hu)
  obtain ⟨vs,e1,hc,hR,h1⟩:=Zeu hs hl hL
  have hrun:=run_loadCells_list (P:=P) w _ vs hc
  rw [e1] at hrun
  refine Zag hs (.agg vs.toArray) ?_ (.agg _ _ hR h1)
  simp only [execOp,ho,Instr.loadAt,hv,Instr.sureAddr,Sem.run_bind,Sem.run_pure,Result.andThen_ok,loadVar,Ze5 hag,Za9 hn,hrun,if_true]
 ·obtain ⟨cs,hl,h⟩:=Za3 h
  obtain ⟨rfl,rfl⟩:=Zau h
  obtain ⟨b,i,cc,vs,hv,hb,h2,h3,h4,h5⟩:=fpV (he x (by simp) a _ hx hu)
  obtain ⟨us,e1,g2,hR,h1⟩:=Zjm (k:=0) hs hb h2 h3 h4 hl
  have hrun:=run_loadCells_list (P:=P) w _ us (Zkd hs hb g2)
  rw [e1] at hrun
  refine Zag hs (.agg us.toArray) ?_ (.agg _ _ hR h1)
  rw [Nat.add_zero] at hrun
  simp only [execOp,ho,Instr.loadAt,hv,Instr.sureAddr,Sem.run_bind,Sem.run_pure,Result.andThen_ok,loadVar,Ze5 hag,Za9 hn,hrun,if_true]
theorem Ye8 (hs:Sim P γ s w) {o:Oper}{ty n:Nat}{x y:Operand}{a b:AO}{v:AV}{s':St}(hd:o.dst=none) (hn:Zdd P ty=some (n+1)) (hx:aop x=some a) (hy:aop y=some b) (ho:o.op=.store ty x y) (he:Evs γ t ρ [x,y])
 (h:stA (n+1) a b t s=.ok v s'):OpOk P γ s w ρ o v s':=by
 obtain ⟨p,hp,h⟩:=Za5 h
 obtain ⟨u,hu,h⟩:=Za5 h
 obtain ⟨r,i,rfl,h⟩:=Zv2 h
 obtain ⟨hl,h⟩:=Zco h
 obtain ⟨hk,rfl⟩:=Zne h
 obtain ⟨L,hL,hv⟩:=Yh8 (he x (by simp) a _ hx hp)
 obtain ⟨c1,c2⟩:=Zlj (he y (by simp) b _ hy hu) hl
 obtain ⟨w',hrun,hst,hsim⟩:=Zfq hs hk hL c1 c2
 refine ⟨γ,w',hst,hsim,.inr ⟨?_,hd⟩⟩
 have hsz:(ρ y).cells.size=n+1:=by
  have e1:=Nat.eq_of_beq_eq_true hl
  rw [Zbu] at e1
  have:=c1.length
  simp at this
  omega
 simp only [execOp,ho,Instr.storeAt,hv,Instr.sureAddr,Sem.run_bind,Sem.run_pure,Result.andThen_ok,storeVar,Za9 hn,hsz]
 simp [hrun]
theorem Zuh (hs:Sim P γ s w) {o:Oper}{x:Operand}{a:AO}{v:AV}{s':St}(hx:aop x=some a) (ho:o.op=.nilCheck x) (he:Evs γ t ρ [x])
 (h:Yie a t s=.ok v s'):OpOk P γ s w ρ o v s':=by
 obtain ⟨u,hu,h⟩:=Za5 h
 have hv:=he x (by simp) a u hx hu
 cases hn:Zse u with
 | true=>rw [hn] at h;cases h
 | false=>
  rw [hn] at h
  obtain ⟨rfl,rfl⟩:=Zau h
  refine Zag hs (ρ x) ?_ hv
  simp only [execOp,ho]
  generalize ρ x=vx at hv
  cases hv <;> first|rfl|(cases hn)
theorem Yg1 (hs:Sim P γ s w) {o:Oper}{ty f n:Nat}{fs:Array Field}{fd:Field}{x:Operand}{a:AO}{v:AV}{s':St}(hu:P.underlying ty=some (.struct fs)) (hf:fs[f]?=some fd) (hn:Zdd P fd.type=some (n+1))
 (hx:aop x=some a) (ho:o.op=.fieldAddr ty x f) (he:Evs γ t ρ [x]) (h:faA fd.offset a t s=.ok v s'):OpOk P γ s w ρ o v s':=by
 obtain ⟨u,hu',h⟩:=Za5 h
 rcases Zqg h with ⟨r,i,rfl,h⟩|⟨l,rfl,h⟩
 ·obtain ⟨rfl,rfl⟩:=Zau h
  obtain ⟨L,hL,hv⟩:=Yh8 (he x (by simp) a _ hx hu')
  refine Zag hs (.pointer (some ⟨L.b,L.o+(i+fd.offset),none⟩)) ?_ (.ptr r _ L hL)
  simp only [execOp,ho,Instr.fieldAt,hv,Instr.sureAddr,Sem.run_bind,Sem.run_pure,Result.andThen_ok,run_underlying hu,hf,fieldPlace,Za9 hn]
  simp [Zcf,Nat.add_assoc]
 ·obtain ⟨rfl,rfl⟩:=Zau h
  obtain ⟨b,i,cc,vs,hv,hb,h2,h3,h4,h5⟩:=fpV (he x (by simp) a _ hx hu')
  refine Zag hs (.pointer (some ⟨b,i+fd.offset,none⟩)) ?_ (Zux hb h2 h3 h4 h5)
  simp only [execOp,ho,Instr.fieldAt,hv,Instr.sureAddr,Sem.run_bind,Sem.run_pure,Result.andThen_ok,run_underlying hu,hf,fieldPlace,Za9 hn]
  simp [Zcf]
theorem Zt9 {cs:Array Value}{ty off:Nat}{v:Value}(hag:Zo5 P ty=some false) (h:cs[off]?=some v):(part ty cs off).run P w=.ok v w:=by
 simp [part,Ze5 hag,h]
theorem partn {cs:Array Value}{ty off n:Nat}(hag:Zo5 P ty=some true) (hn:Zdd P ty=some n):(part ty cs off).run P w=.ok (.agg (cs.extract off (off+n))) w:=by
 simp [part,Ze5 hag,Za9 hn]
theorem aggV {l:List AV}{v':Value}(h:VR γ (.agg l) v'):∃ a,v'=.agg a∧All2 (VR γ) l a.toList∧∀ v ∈ a.toList,v.oneCell'=true:=by
 cases h with
 | agg _ a h1 h2=>exact ⟨a,rfl,h1,h2⟩
theorem Zyn (hs:Sim P γ s w) {o:Oper}{ty f:Nat}{fs:Array Field}{fd:Field}{x:Operand}{a:AO}{v:AV}{s':St}(hu:P.underlying ty=some (.struct fs)) (hf:fs[f]?=some fd) (hag:Zo5 P fd.type=some false)
 (hx:aop x=some a) (ho:o.op=.field ty x f) (he:Evs γ t ρ [x]) (h:fld1A fd.offset a t s=.ok v s'):OpOk P γ s w ρ o v s':=by
 obtain ⟨u,hu',h⟩:=Za5 h
 obtain ⟨l,rfl,h⟩:=Zpw h
 obtain ⟨hk,rfl⟩:=Zk2 h
 rw [Zg5] at hk
 obtain ⟨c,hv,hR,_⟩:=aggV (he x (by simp) a _ hx hu')
 obtain ⟨v',hv',hRv⟩:=hR.get hk
 refine Zag hs v' ?_ hRv
 simp only [execOp,ho,Instr.field,hv,Sem.run_bind,Sem.run_pure,Result.andThen_ok,run_underlying hu,hf,asAgg,Zt9 hag (show c[fd.offset]?=some v' by simpa using hv')]
 simp [Zt9 hag (show c[fd.offset]?=some v' by simpa using hv'),Go.asAgg]
theorem Zym (hs:Sim P γ s w) {o:Oper}{ty f n:Nat}{fs:Array Field}{fd:Field}{x:Operand}{a:AO}{v:AV}{s':St}(hu:P.underlying ty=some (.struct fs)) (hf:fs[f]?=some fd) (hag:Zo5 P fd.type=some true) (hn:Zdd P fd.type=some n)
 (hx:aop x=some a) (ho:o.op=.field ty x f) (he:Evs γ t ρ [x]) (h:fldnA fd.offset n a t s=.ok v s'):OpOk P γ s w ρ o v s':=by
 obtain ⟨u,hu',h⟩:=Za5 h
 obtain ⟨l,rfl,h⟩:=Zpw h
 obtain ⟨cs,hk,h'⟩:=Za3 h
 obtain ⟨rfl,rfl⟩:=Zau h'
 obtain ⟨e1,hle⟩:=Zfm _ hk
 rw [Ze1] at e1 hle
 subst e1
 obtain ⟨c,hv,hR,h1⟩:=aggV (he x (by simp) a _ hx hu')
 have e2:(c.extract fd.offset (fd.offset+n)).toList=(c.toList.drop fd.offset).take n:=by simp [Array.toList_extract,List.extract_eq_take_drop]
 refine Zag hs (.agg (c.extract fd.offset (fd.offset+n))) ?_ (.agg _ _ (by rw [e2];exact (hR.drop _).take _) (by rw [e2];exact fun v hv=>h1 v (List.mem_of_mem_drop (List.mem_of_mem_take hv))))
 simp [execOp,ho,Instr.field,hv,run_underlying hu,hf,Go.asAgg,partn hag hn]
theorem Ycm (hs:Sim P γ s w) {o:Oper}{i:Nat}{x:Operand}{a:AO}{v:AV}{s':St}(hx:aop x=some a) (ho:o.op=.extract x i) (he:Evs γ t ρ [x])
 (h:extA a i t s=.ok v s'):OpOk P γ s w ρ o v s':=by
 obtain ⟨u,hu',h⟩:=Za5 h
 obtain ⟨l,rfl,h⟩:=tup_ok h
 obtain ⟨hk,rfl⟩:=Zk2 h
 rw [Zg5] at hk
 have hv:=he x (by simp) a _ hx hu'
 generalize hxx:ρ x=vx at hv
 cases hv with
 | tup _ c hR=>
  obtain ⟨v',hv',hRv⟩:=hR.get hk
  refine Zag hs v' ?_ hRv
  have:c[i]?=some v':=by simpa using hv'
  simp [execOp,ho,Instr.extract,hxx,this]
theorem Ycz (hs:Sim P γ s w) {o:Oper}{sr ds:Nat}{k:IntKind}{sd:TypeDesc}{x:Operand}{a:AO}{v:AV}{s':St}(hsr:P.underlying sr=some sd) (hd:P.underlying ds=some (.int k)) (hx:aop x=some a) (ho:o.op=.convert sr ds x) (he:Evs γ t ρ [x])
 (hq:∀ k n,Zhw k n=k.wrap n) (h:cviA k a t s=.ok v s'):OpOk P γ s w ρ o v s':=by
 obtain ⟨u,hu',h⟩:=Za5 h
 obtain ⟨k',n,rfl,h⟩:=int_ok h
 obtain ⟨rfl,rfl⟩:=Zau h
 have hv:=Zev (he x (by simp) a _ hx hu')
 refine Zag hs (.int k (k.wrap n)) ?_ (by rw [hq];exact .int _ _)
 simp [execOp,ho,convert,hv,run_underlying hsr,run_underlying hd,Conv.intToInt]
theorem Zya (hs:Sim P γ s w) {o:Oper}{f:Nat}{as bs:Array Operand}{xs ys:List AO}{v:AV}{s':St}(hx:Zy5 as.toList=some xs) (hy:Zy5 bs.toList=some ys) (ho:o.op=.makeFunc (.func f) as bs) (he:Evs γ t ρ (as.toList++bs.toList))
 (h:mkfnA f xs ys t s=.ok v s'):OpOk P γ s w ρ o v s':=by
 obtain ⟨p,hp,h⟩:=Za3 h
 obtain ⟨q,hq,h⟩:=Za3 h
 obtain ⟨rfl,rfl⟩:=Zau h
 have h1:=Zha (γ:=γ) (ρ:=ρ) hx hp (fun x hx=>he x (by simp at hx ⊢;exact .inl hx))
 have h2:=Zha (γ:=γ) (ρ:=ρ) hy hq (fun x hx=>he x (by simp at hx ⊢;exact .inr hx))
 refine Zag hs (.func (.func f) (as.map ρ) (bs.map ρ)) ?_ (.fn _ _ _ _ _ (by simpa using h1) (by simpa using h2))
 simp [execOp,ho,Instr.makeFunc]
end
end Go.AM
namespace Go.AM
theorem Zh3 {a b:IntKind}(h:eqK a b=true):a=b:=by
 cases a <;> cases b <;> first|rfl|cases h
theorem Zkh (a b:Int):eqI a b=(a == b):=by
 cases a with
 | ofNat a=>cases b with
  | ofNat b=>show Nat.beq a b=_;rw [Bool.eq_iff_iff,Nat.beq_eq];simp;omega
  | negSucc b=>show false=_;rw [eq_comm,beq_eq_false_iff_ne];simp
 | negSucc a=>cases b with
  | ofNat b=>show false=_;rw [eq_comm,beq_eq_false_iff_ne];simp
  | negSucc b=>show Nat.beq a b=_;rw [Bool.eq_iff_iff,Nat.beq_eq];simp
theorem Zhl (a b:Int):ltI a b=decide (a<b):=by
 cases a with
 | ofNat a=>cases b with
  | ofNat b=>show Nat.blt a b=_;rw [Bool.eq_iff_iff,Nat.blt_eq];simp
  | negSucc b=>show false=_;rw [eq_comm,decide_eq_false_iff_not];simp;omega
 | negSucc a=>cases b with
  | ofNat b=>show true=_;rw [eq_comm,decide_eq_true_iff];simp;omega
  | negSucc b=>show Nat.blt b a=_;rw [Bool.eq_iff_iff,Nat.blt_eq];simp;omega
theorem Yd2 (a b:Int):addI a b=a+b:=by
 cases a <;> cases b <;> rfl
theorem Zqm (a b:Int):mulI a b=a*b:=by
 cases a <;> cases b <;> rfl
theorem Ztu (a b:Int):subI a b=a-b:=by
 cases a with
 | ofNat a=>cases b with
  | ofNat b=>
   show (Bool.rec (Int.sub (.ofNat a) (.ofNat b)) (.ofNat (Nat.sub a b)) (Nat.ble b a):Int)=_
   cases hb:Nat.ble b a with
   | false=>rfl
   | true=>have:=Nat.le_of_ble_eq_true hb;show ((a-b:Nat):Int)=(a:Int)-(b:Int);omega
  | negSucc b=>rfl
 | negSucc a=>rfl
theorem Zck (k:IntKind) (n:Int):Zhw k n=k.wrap n:=by
 cases n with
 | ofNat m=>
  show wrapN k m=k.wrap (m:Int)
  cases k <;> try rfl
  show (Bool.rec (IntKind.i64.wrap m) (.ofNat m) (Nat.blt m 9223372036854775808):Int)=_
  cases hb:Nat.blt m 9223372036854775808 with
  | false=>rfl
  | true=>
   rw [Nat.blt_eq] at hb
   exact (IntWalk.i64_in (m:Int) ⟨by omega,by omega⟩).symm
 | negSucc m=>
  show (Bool.rec (k.wrap (.negSucc m)) (Bool.rec (k.wrap (.negSucc m)) (.negSucc m) (Nat.blt m 9223372036854775808)) (Nat.beq (Zoy k) 3):Int)=_
  have h3:k=.i64∨Nat.beq (Zoy k) 3=false:=by cases k <;> first|exact .inl rfl|exact .inr rfl
  rcases h3 with rfl|h3
  ·show (Bool.rec (IntKind.i64.wrap (.negSucc m)) (.negSucc m) (Nat.blt m 9223372036854775808):Int)=_
   cases hb:Nat.blt m 9223372036854775808 with
   | false=>rfl
   | true=>
    rw [Nat.blt_eq] at hb
    exact (IntWalk.i64_in (Int.negSucc m) ⟨by omega,by omega⟩).symm
  ·rw [h3]
theorem Zmt {f:Nat→Nat→Nat}{g:(n:Nat)→BitVec n→BitVec n→BitVec n}(hf:∀ n x y,(g n x y).toNat=f x.toNat y.toNat) (k:IntKind) (a b:Int):Ydn f g k a b=Zma g k a b:=by
 cases a with
 | ofNat x=>cases b with
  | ofNat y=>
   show bitsN f g k x y=_
   cases k <;> try rfl
   ·show ((f (x % 256) (y % 256):Nat):Int)=_
    have e:f (x % 256) (y % 256)=(g 8 (BitVec.ofInt 8 x) (BitVec.ofInt 8 y)).toNat:=by
     rw [hf];simp
    rw [e]
    have hlt:=(g 8 (BitVec.ofInt 8 x) (BitVec.ofInt 8 y)).isLt
    simp only [Zma,IntKind.wrap,IntKind.bits,IntKind.signed]
    simp
    omega
   ·show ((f (x % 4294967296) (y % 4294967296):Nat):Int)=_
    have e:f (x % 4294967296) (y % 4294967296)=(g 32 (BitVec.ofInt 32 x) (BitVec.ofInt 32 y)).toNat:=by
     rw [hf];simp
    rw [e]
    have hlt:=(g 32 (BitVec.ofInt 32 x) (BitVec.ofInt 32 y)).isLt
    simp only [Zma,IntKind.wrap,IntKind.bits,IntKind.signed]
    simp
    omega
  | negSucc y=>rfl
 | negSucc x=>rfl
theorem Zn7 (a:List Nat):∀ b,Zyr a b=(a == b):=by
 induction a with
 | nil=>intro b;cases b <;> rfl
 | cons x a ih=>intro b;cases b with
  | nil=>rfl
  | cons y b=>
   show (Bool.rec false (Zyr a b) (Nat.beq x y):Bool)=_
   rw [ih]
   cases hb:Nat.beq x y with
   | false=>have:=Nat.ne_of_beq_eq_false hb;simp [this]
   | true=>have:=Nat.eq_of_beq_eq_true hb;simp [this]
section
variable {P:Program}{γ:Gam}{s:St}{w:World}{t:AT}{ρ:Operand→Value}
theorem Zfc {f:IntKind→Int→Int→Int}{x y v:AV}(h:ar f x y=.some v):∃ k a b,x=.int k a∧y=.int k b∧v=.int k (f k a b):=by
 unfold ar at h
 cases hx:asInt x with
 | no=>rw [hx] at h;cases h
 | int k a=>
  rw [hx] at h
  cases hy:asInt y with
  | no=>rw [hy] at h;cases h
  | int k' b=>
   rw [hy] at h
   dsimp only at h
   cases hk:eqK k k' with
   | false=>rw [hk] at h;cases h
   | true=>rw [hk] at h;cases h;cases Zh3 hk;exact ⟨k,a,b,Zc2 hx,Zc2 hy,rfl⟩
theorem Zdv {f:Int→Int→Bool}{x y v:AV}(h:cmp f x y=.some v):∃ k a b,x=.int k a∧y=.int k b∧v=.bool (f a b):=by
 unfold cmp at h
 cases hx:asInt x with
 | no=>rw [hx] at h;cases h
 | int k a=>
  rw [hx] at h
  cases hy:asInt y with
  | no=>rw [hy] at h;cases h
  | int k' b=>
   rw [hy] at h
   dsimp only at h
   cases hk:eqK k k' with
   | false=>rw [hk] at h;cases h
   | true=>rw [hk] at h;cases h;cases Zh3 hk;exact ⟨k,a,b,Zc2 hx,Zc2 hy,rfl⟩
theorem Zmq {f:IntKind→Int→Int→Int}{x y v:AV}(h:dvd f x y=.some v):∃ k a b,x=.int k a∧y=.int k b∧b≠0∧v=.int k (f k a b):=by
 unfold dvd at h
 cases hx:asInt x with
 | no=>rw [hx] at h;cases h
 | int k a=>
  rw [hx] at h
  cases hy:asInt y with
  | no=>rw [hy] at h;cases h
  | int k' b=>
   rw [hy] at h
   dsimp only at h
   cases hk:eqK k k' with
   | false=>rw [hk] at h;cases h
   | true=>
    rw [hk] at h
    dsimp only at h
    cases hb:eqI b 0 with
    | true=>rw [hb] at h;cases h
    | false=>
     rw [hb] at h;cases h;cases Zh3 hk
     exact ⟨k,a,b,Zc2 hx,Zc2 hy,by rw [Zkh] at hb;simpa using hb,rfl⟩
theorem Zp8 {f:IntKind→Int→Nat→Int}{x y v:AV}(h:sh f x y=.some v):∃ k a k' b,x=.int k a∧y=.int k' (.ofNat b)∧v=.int k (f k a b):=by
 unfold sh at h
 cases hx:asInt x with
 | no=>rw [hx] at h;cases h
 | int k a=>
  rw [hx] at h
  cases hy:Zq6 y with
  | no=>rw [hy] at h;cases h
  | n b=>rw [hy] at h;cases h;obtain ⟨k',rfl⟩:=Zg9 hy;exact ⟨k,a,k',b,Zc2 hx,rfl,rfl⟩
theorem Zjy {f:List Nat→List Nat→AV}{x y v:AV}(h:strs f x y=.some v):∃ a b,x=.str a∧y=.str b∧v=f a b:=by
 unfold strs at h
 cases hx:Zoh x with
 | no=>rw [hx] at h;cases h
 | s a=>
  rw [hx] at h
  cases hy:Zoh y with
  | no=>rw [hy] at h;cases h
  | s b=>rw [hy] at h;cases h;exact ⟨a,b,Zmv hx,Zmv hy,rfl⟩
theorem Zm0 {x y v:AV}(h:Zz3 x y=.some v):∃ a b,x=.str a∧y=.str b∧a.length+b.length≤1000000∧v=.str (Zgx a b):=by
 unfold Zz3 at h
 cases hx:Zoh x with
 | no=>rw [hx] at h;cases h
 | s a=>
  rw [hx] at h
  cases hy:Zoh y with
  | no=>rw [hy] at h;cases h
  | s b=>
   rw [hy] at h
   dsimp only at h
   cases hb:Nat.ble (Zd0 a+Zd0 b) 1000000 with
   | false=>rw [hb] at h;cases h
   | true=>
    rw [hb] at h;cases h
    have:=Nat.le_of_ble_eq_true hb
    rw [Zbu,Zbu] at this
    exact ⟨a,b,Zmv hx,Zmv hy,this,rfl⟩
theorem Ziq {x y:OV}{v:AV}(h:orE x y=.some v):x=.some v∨y=.some v:=by
 cases x with
 | none=>exact .inr h
 | some a=>exact .inl h
def BinOk (P:Program) (w:World) (γ:Gam) (op:BinOp) (ty:TypeId) (x y:Value) (v:AV):Prop:=∃ v',(binOp op ty x y).run P w=.ok v' w∧VR γ v v'
theorem Zvq (a b:Int):tdivQ a b=a.tdiv b:=by cases a <;> cases b <;> rfl
theorem Zvo (a b:Int):tmodQ a b=a.tmod b:=by
 cases a with
 | ofNat a=>cases b with
  | ofNat b=>rfl
  | negSucc b=>rfl
 | negSucc a=>rfl
theorem Yg0 (a:Int) (m:Nat):fdivQ a m=a.fdiv m:=by
 cases a with
 | ofNat a=>show ((a / m:Nat):Int)=_;simp [Int.fdiv_eq_ediv_of_nonneg]
 | negSucc a=>rfl
theorem Zz2 {a b:List Nat}{x y:ByteArray}(hx:x.data.toList.map UInt8.toNat=a) (hy:y.data.toList.map UInt8.toNat=b):(x.toList == y.toList)=(a == b):=by
 have key:∀ z:ByteArray,z.toList=z.data.toList:=ByteArray.toList_eq
 rw [Bool.eq_iff_iff,beq_iff_eq,beq_iff_eq,← hx,← hy,key,key]
 constructor
 ·intro h;rw [h]
 ·intro h
  exact (List.map_inj_right (fun p q e=>UInt8.toNat_inj.1 e)).1 h
theorem Zy3 {op:BinOp}{ty:TypeId}{x y v:AV}{x' y':Value}(hx:VR γ x x') (hy:VR γ y y') (h:binA op x y=.some v):BinOk P w γ op ty x' y' v:=by
 cases op with
 | add=>
  rcases Ziq h with h|h
  ·obtain ⟨k,a,b,rfl,rfl,rfl⟩:=Zfc h
   rw [Zev hx,Zev hy,Zck,Yd2]
   exact ⟨_,by simp [binOp,Op.intArith],.int _ _⟩
  ·obtain ⟨a,b,rfl,rfl,hl,rfl⟩:=Zm0 h
   cases hx with
   | str _ sx e1=>cases hy with
    | str _ sy e2=>
     have l1:a.length=sx.size:=by rw [← e1,List.length_map,Array.length_toList];rfl
     have l2:b.length=sy.size:=by rw [← e2,List.length_map,Array.length_toList];rfl
     refine ⟨.string (sx++sy),?_,.str _ _ ?_⟩
     ·have hlt:¬ (((sx.size+sy.size:Nat):Int)>IntKind.i64.max):=by
       have:IntKind.i64.max=9223372036854775807:=rfl
       omega
      simp only [binOp,Op.stringOp,if_neg hlt]
      rfl
     ·rw [Zda,← e1,← e2];simp [ByteArray.data_append]
 | sub=>
  obtain ⟨k,a,b,rfl,rfl,rfl⟩:=Zfc h
  rw [Zev hx,Zev hy,Zck,Ztu]
  exact ⟨_,by simp [binOp,Op.intArith],.int _ _⟩
 | mul=>
  obtain ⟨k,a,b,rfl,rfl,rfl⟩:=Zfc h
  rw [Zev hx,Zev hy,Zck,Zqm]
  exact ⟨_,by simp [binOp,Op.intArith],.int _ _⟩
 | quo=>
  obtain ⟨k,a,b,rfl,rfl,hb,rfl⟩:=Zmq h
  rw [Zev hx,Zev hy,Zck,Zvq]
  exact ⟨_,by simp [binOp,Op.intDiv,hb],.int _ _⟩
 | rem=>
  obtain ⟨k,a,b,rfl,rfl,hb,rfl⟩:=Zmq h
  rw [Zev hx,Zev hy,Zvo]
  exact ⟨_,by simp [binOp,Op.intDiv,hb],.int _ _⟩
 | and=>
  obtain ⟨k,a,b,rfl,rfl,rfl⟩:=Zfc h
  rw [Zev hx,Zev hy,Zmt (by intro n x y;rfl)]
  exact ⟨_,by simp [binOp,Op.intBits];rfl,.int _ _⟩
 | or=>
  obtain ⟨k,a,b,rfl,rfl,rfl⟩:=Zfc h
  rw [Zev hx,Zev hy,Zmt (by intro n x y;rfl)]
  exact ⟨_,by simp [binOp,Op.intBits];rfl,.int _ _⟩
 | xor=>
  obtain ⟨k,a,b,rfl,rfl,rfl⟩:=Zfc h
  rw [Zev hx,Zev hy,Zmt (by intro n x y;rfl)]
  exact ⟨_,by simp [binOp,Op.intBits];rfl,.int _ _⟩
 | andNot=>cases h
 | shl=>
  obtain ⟨k,a,k',b,rfl,rfl,rfl⟩:=Zp8 h
  rw [Zev hx,Zev hy,Zck,Zqm]
  refine ⟨_,?_,.int _ _⟩
  have hb0:¬ ((b:Int)<0):=by omega
  simp [binOp,Op.shift,Nat.min_def,hb0]
 | shr=>
  obtain ⟨k,a,k',b,rfl,rfl,rfl⟩:=Zp8 h
  rw [Zev hx,Zev hy,Yg0]
  refine ⟨_,?_,.int _ _⟩
  have hb0:¬ ((b:Int)<0):=by omega
  simp [binOp,Op.shift,Nat.min_def,hb0]
 | eql=>
  rcases Ziq h with h|h
  ·obtain ⟨k,a,b,rfl,rfl,rfl⟩:=Zdv h
   rw [Zev hx,Zev hy,Zkh]
   exact ⟨_,by simp [binOp,Op.intCmp],.bool _⟩
  ·obtain ⟨a,b,rfl,rfl,rfl⟩:=Zjy h
   cases hx with
   | str _ sx e1=>cases hy with
    | str _ sy e2=>
     rw [Zn7,← Zz2 e1 e2]
     exact ⟨_,by simp only [binOp,Op.stringOp];rfl,.bool _⟩
 | neq=>
  rcases Ziq h with h|h
  ·obtain ⟨k,a,b,rfl,rfl,rfl⟩:=Zdv h
   rw [Zev hx,Zev hy,Zkh]
   exact ⟨_,by simp [binOp,Op.intCmp];rfl,.bool _⟩
  ·obtain ⟨a,b,rfl,rfl,rfl⟩:=Zjy h
   cases hx with
   | str _ sx e1=>cases hy with
    | str _ sy e2=>
     rw [Zn7,← Zz2 e1 e2]
     exact ⟨_,by simp only [binOp,Op.stringOp];rfl,.bool _⟩
 | lss=>
  obtain ⟨k,a,b,rfl,rfl,rfl⟩:=Zdv h
  rw [Zev hx,Zev hy,Zhl]
  exact ⟨_,by simp [binOp,Op.intCmp],.bool _⟩
 | leq=>
  obtain ⟨k,a,b,rfl,rfl,rfl⟩:=Zdv h
  rw [Zev hx,Zev hy,Zhl]
  exact ⟨.bool (decide (a≤b)),by simp [binOp,Op.intCmp],by rw [show (!decide (b<a))=decide (a≤b) by rw [Bool.eq_iff_iff];simp];exact .bool _⟩
 | gtr=>
  obtain ⟨k,a,b,rfl,rfl,rfl⟩:=Zdv h
  rw [Zev hx,Zev hy,Zhl]
  exact ⟨_,by simp [binOp,Op.intCmp],.bool _⟩
 | geq=>
  obtain ⟨k,a,b,rfl,rfl,rfl⟩:=Zdv h
  rw [Zev hx,Zev hy,Zhl]
  exact ⟨.bool (decide (b≤a)),by simp [binOp,Op.intCmp],by rw [show (!decide (a<b))=decide (b≤a) by rw [Bool.eq_iff_iff];simp];exact .bool _⟩
end
end Go.AM
namespace Go.AM
section
variable {P:Program}{γ:Gam}{s:St}{w:World}{t:AT}{ρ:Operand→Value}
theorem Zm9 (op:BinOp) (ty:TypeId) (x y:Operand) (k:IntKind) (a:Int) (b:Value):(eqGuard op ty x y (.int k a) b).run P w=.ok () w:=by
 cases op <;> simp [eqGuard]
theorem Zm8 (op:BinOp) (ty:TypeId) (x y:Operand) (a:ByteArray) (b:Value):(eqGuard op ty x y (.string a) b).run P w=.ok () w:=by
 cases op <;> simp [eqGuard]
theorem Ydo {op:BinOp}{x y v:AV}(h:binA op x y=.some v):(∃ k a,x=.int k a)∨(∃ a,x=.str a):=by
 cases op with
 | add=>
  rcases Ziq h with h|h
  ·obtain ⟨k,a,b,e,_⟩:=Zfc h;exact .inl ⟨k,a,e⟩
  ·obtain ⟨a,b,e,_⟩:=Zm0 h;exact .inr ⟨a,e⟩
 | sub=>obtain ⟨k,a,b,e,_⟩:=Zfc h;exact .inl ⟨k,a,e⟩
 | mul=>obtain ⟨k,a,b,e,_⟩:=Zfc h;exact .inl ⟨k,a,e⟩
 | quo=>obtain ⟨k,a,b,e,_⟩:=Zmq h;exact .inl ⟨k,a,e⟩
 | rem=>obtain ⟨k,a,b,e,_⟩:=Zmq h;exact .inl ⟨k,a,e⟩
 | and=>obtain ⟨k,a,b,e,_⟩:=Zfc h;exact .inl ⟨k,a,e⟩
 | or=>obtain ⟨k,a,b,e,_⟩:=Zfc h;exact .inl ⟨k,a,e⟩
 | xor=>obtain ⟨k,a,b,e,_⟩:=Zfc h;exact .inl ⟨k,a,e⟩
 | andNot=>cases h
 | shl=>obtain ⟨k,a,k',b,e,_⟩:=Zp8 h;exact .inl ⟨k,a,e⟩
 | shr=>obtain ⟨k,a,k',b,e,_⟩:=Zp8 h;exact .inl ⟨k,a,e⟩
 | eql=>
  rcases Ziq h with h|h
  ·obtain ⟨k,a,b,e,_⟩:=Zdv h;exact .inl ⟨k,a,e⟩
  ·obtain ⟨a,b,e,_⟩:=Zjy h;exact .inr ⟨a,e⟩
 | neq=>
  rcases Ziq h with h|h
  ·obtain ⟨k,a,b,e,_⟩:=Zdv h;exact .inl ⟨k,a,e⟩
  ·obtain ⟨a,b,e,_⟩:=Zjy h;exact .inr ⟨a,e⟩
 | lss=>obtain ⟨k,a,b,e,_⟩:=Zdv h;exact .inl ⟨k,a,e⟩
 | leq=>obtain ⟨k,a,b,e,_⟩:=Zdv h;exact .inl ⟨k,a,e⟩
 | gtr=>obtain ⟨k,a,b,e,_⟩:=Zdv h;exact .inl ⟨k,a,e⟩
 | geq=>obtain ⟨k,a,b,e,_⟩:=Zdv h;exact .inl ⟨k,a,e⟩
theorem Zh9 (hs:Sim P γ s w) {o:Oper}{op:BinOp}{ty yt:Nat}{x y:Operand}{a b:AO}{v:AV}{s':St}(hx:aop x=some a) (hy:aop y=some b) (ho:o.op=.binOp op ty x y yt) (he:Evs γ t ρ [x,y])
 (h:bin'A op a b t s=.ok v s'):OpOk P γ s w ρ o v s':=by
 obtain ⟨u1,hu1,h⟩:=Za5 h
 obtain ⟨u2,hu2,h⟩:=Za5 h
 obtain ⟨hb,rfl⟩:=Zru h
 have h1:=he x (by simp) a u1 hx hu1
 have h2:=he y (by simp) b u2 hy hu2
 obtain ⟨v',hr,hv⟩:=Zy3 (P:=P) (w:=w) (ty:=ty) h1 h2 hb
 refine Zag hs v' ?_ hv
 have hg:(eqGuard op ty x y (ρ x) (ρ y)).run P w=.ok () w:=by
  rcases Ydo hb with ⟨k,n,rfl⟩|⟨l,rfl⟩
  ·rw [Zev h1];exact Zm9 _ _ _ _ _ _ _
  ·generalize ρ x=vx at h1
   cases h1 with
   | str _ sx e=>exact Zm8 _ _ _ _ _ _
 simp only [execOp,ho,Sem.run_bind,hg,Result.andThen_ok,hr,Sem.run_pure]
theorem Yeu (hs:Sim P γ s w) {o:Oper}{op:UnOp}{ty:Nat}{x:Operand}{a:AO}{v:AV}{s':St}(hx:aop x=some a) (ho:o.op=.unOp op ty x) (he:Evs γ t ρ [x])
 (h:un'A op a t s=.ok v s'):OpOk P γ s w ρ o v s':=by
 obtain ⟨u,hu,h⟩:=Za5 h
 obtain ⟨hb,rfl⟩:=Zru h
 have h1:=he x (by simp) a u hx hu
 cases op with
 | not=>
  unfold unA at hb
  cases hc:asBool u with
  | no=>rw [hc] at hb;cases hb
  | tt=>rw [hc] at hb;cases hb;rw [Zkq hc] at h1;exact Zag hs (.bool false) (by simp [execOp,ho,Op.unary,Zo3 h1]) (.bool _)
  | ff=>rw [hc] at hb;cases hb;rw [Zkr hc] at h1;exact Zag hs (.bool true) (by simp [execOp,ho,Op.unary,Zo3 h1]) (.bool _)
 | neg=>
  unfold unA at hb
  cases hc:asInt u with
  | no=>rw [hc] at hb;cases hb
  | int k n=>
   rw [hc] at hb;cases hb;rw [Zc2 hc] at h1
   refine Zag hs (.int k (k.wrap (0-n))) (by simp [execOp,ho,Op.unary,Zev h1,Op.intArith]) ?_
   rw [Zck,Ztu];exact .int _ _
 | xor=>
  unfold unA at hb
  cases hc:asInt u with
  | no=>rw [hc] at hb;cases hb
  | int k n=>
   rw [hc] at hb;cases hb;rw [Zc2 hc] at h1
   refine Zag hs (.int k (Zma (fun _=>BitVec.xor) k (if k.signed then -1 else k.max) n)) (by simp [execOp,ho,Op.unary,Zev h1,Op.intBits];rfl) ?_
   rw [Zmt (by intro n x y;rfl)];exact .int _ _
 | _=>cases hb
def Yb4:BinOp→Bool|.neq=>true|_=>false
theorem Ze6 (ty:TypeId) {x y:Value}{b:Bool}(h:∀ d,(Op.equalIn (d+1) ty x y).run P w=.ok b w):(Op.equal ty x y).run P w=.ok b w:=h 9999
theorem Zn6 {kd:Nat}{ty:TypeId}{x' y':Value}{c:Bool}{X Y:Operand}(op:BinOp) (hop:op=.eql∨op=.neq) (hg:(eqGuard op ty X Y x' y').run P w=.ok () w)
 (h1:binOp .eql ty x' y'=(do pure (.bool (← Op.equal ty x' y')))) (h2:binOp .neq ty x' y'=(do pure (.bool (!(← Op.equal ty x' y'))))) (h:(Op.equal ty x' y').run P w=.ok c w):
 (eqGuard op ty X Y x' y').run P w=.ok () w∧(binOp op ty x' y').run P w=.ok (.bool (Zwf (Yb4 op) c)) w:=by
 refine ⟨hg,?_⟩
 rcases hop with rfl|rfl
 ·rw [h1];simp [h,Zwf,Yb4]
 ·rw [h2];simp [h,Zwf,Yb4]
theorem Zc5 (op:BinOp) (ty:TypeId) (X Y:Operand) {a b:Value}(h1:∀ x,a≠.agg x) (h2:a≠.nilIface∨b≠.nilIface):(eqGuard op ty X Y a b).run P w=.ok () w:=by
 unfold eqGuard
 cases op <;> simp <;> (split <;> first|(rcases h2 with h2|h2 <;> exact absurd rfl h2)|exact absurd rfl (h1 _)|simp)
set_option maxHeartbeats 2000000 in
theorem eqb_run {kd:Nat}{ty:TypeId}{x y:AV}{x' y':Value}{c:Bool}{X Y:Operand}(op:BinOp) (hop:op=.eql∨op=.neq) (hk:Ydq P ty=some kd) (hx:VR γ x x') (hy:VR γ y y') (h:eqbA kd x y=some c):
 (eqGuard op ty X Y x' y').run P w=.ok () w∧(binOp op ty x' y').run P w=.ok (.bool (Zwf (Yb4 op) c)) w:=by
 have hu:(kd=0→P.underlying ty=some .bool)∧(kd=1→∃ e,P.underlying ty=some (.pointer e))∧(kd=2→∃ e,P.underlying ty=some (.slice e))∧(kd=3→∃ e,P.underlying ty=some (.interface e))∧(kd=4→∃ a b c,P.underlying ty=some (.func a b c)):=by
  unfold Ydq at hk
  split at hk <;> first|(cases hk;simp_all;done)|cases hk
 obtain ⟨u0,u1,u2,u3,u4⟩:=hu
 unfold eqbA at h
 split at h
 ·have hu:=u0 rfl
  cases h
  rw [Zo3 hx,Zo3 hy]
  (refine Zn6 (kd:=0) op hop ?_ ?_ ?_ ?_;exact Zc5 _ _ _ _ (by simp) (by simp);rfl;rfl;exact Ze6 ty fun d=>by simp [Op.equalIn,run_underlying hu])
 all_goals first
  | (obtain ⟨e,hu⟩:=u1 rfl
     cases h;cases hx <;> cases hy <;>
     (refine Zn6 (kd:=0) op hop ?_ ?_ ?_ ?_;exact Zc5 _ _ _ _ (by simp) (by simp);rfl;rfl;exact Ze6 ty fun d=>by simp [Op.equalIn,run_underlying hu]))
  | (obtain ⟨e,hu⟩:=u2 rfl
     cases h;cases hx <;> cases hy <;>
     (refine Zn6 (kd:=0) op hop ?_ ?_ ?_ ?_;exact Zc5 _ _ _ _ (by simp) (by simp);rfl;rfl;exact Ze6 ty fun d=>by simp [Op.equalIn,run_underlying hu]))
  | (obtain ⟨e,hu⟩:=u3 rfl
     cases h;cases hx <;> cases hy <;>
     (refine Zn6 (kd:=0) op hop ?_ ?_ ?_ ?_;exact Zc5 _ _ _ _ (by simp) (by simp);rfl;rfl;exact Ze6 ty fun d=>by simp [Op.equalIn,run_underlying hu]))
  | (obtain ⟨a,b,e,hu⟩:=u4 rfl
     cases h;cases hx <;> cases hy <;>
     (refine Zn6 (kd:=0) op hop ?_ ?_ ?_ ?_;exact Zc5 _ _ _ _ (by simp) (by simp);rfl;rfl;exact Ze6 ty fun d=>by simp [Op.equalIn,run_underlying hu]))
  | (cases h;done)
theorem Zsm (hs:Sim P γ s w) {o:Oper}{op:BinOp}{kd ty yt:Nat}{neg:Bool}{x y:Operand}{a b:AO}{v:AV}{s':St}(hop:(op=.eql∧neg=false)∨(op=.neq∧neg=true)) (hk:Ydq P ty=some kd) (hx:aop x=some a) (hy:aop y=some b)
 (ho:o.op=.binOp op ty x y yt) (he:Evs γ t ρ [x,y]) (h:eqb'A kd neg a b t s=.ok v s'):OpOk P γ s w ρ o v s':=by
 obtain ⟨u1,hu1,h⟩:=Za5 h
 obtain ⟨u2,hu2,h⟩:=Za5 h
 obtain ⟨c,hc,h⟩:=Za3 h
 obtain ⟨rfl,rfl⟩:=Zau h
 have h1:=he x (by simp) a u1 hx hu1
 have h2:=he y (by simp) b u2 hy hu2
 obtain ⟨r1,r2⟩:=eqb_run (P:=P) (w:=w) (X:=x) (Y:=y) op (by rcases hop with ⟨h,_⟩|⟨h,_⟩ <;> simp [h]) hk h1 h2 hc
 refine Zag hs (.bool (Zwf neg c)) ?_ (.bool _)
 have e:Yb4 op=neg:=by rcases hop with ⟨rfl,rfl⟩|⟨rfl,rfl⟩ <;> rfl
 rw [e] at r2
 simp only [execOp,ho,Sem.run_bind,r1,Result.andThen_ok,r2,Sem.run_pure]
end
end Go.AM
namespace Go.AM
section
variable {P:Program}{γ:Gam}{s:St}{w:World}{t:AT}{ρ:Operand→Value}
theorem Ycp {kd ty:Nat}{x y:AV}{x' y':Value}{c:Bool}(hk:Zly P ty=some kd) (hx:VR γ x x') (hy:VR γ y y') (h:eq1 kd x y=some c) (d:Nat):(Op.equalIn (d+1) ty x' y').run P w=.ok c w:=by
 have hu:(kd=0→∃ k,P.underlying ty=some (.int k))∧(kd=1→P.underlying ty=some .bool)∧(kd=2→P.underlying ty=some .string):=by
  unfold Zly at hk
  split at hk <;> first|(cases hk;simp_all;done)|cases hk
 obtain ⟨u0,u1,u2⟩:=hu
 unfold eq1 at h
 split at h
 ·rename_i k a k' b
  obtain ⟨kk,hu⟩:=u0 rfl
  rw [Zev hx,Zev hy]
  cases hkk:eqK k k' with
  | false=>rw [hkk] at h;cases h
  | true=>rw [hkk] at h;cases h;cases Zh3 hkk;rw [Zkh];exact run_equalIn_int w d ty k kk a b hu
 ·cases h
  rw [Zo3 hx,Zo3 hy]
  exact run_equalIn_bool' w d ty _ _ (u1 rfl)
 ·cases h
  cases hx with
  | str _ sx e1=>cases hy with
   | str _ sy e2=>
    rw [Zn7,← Zz2 e1 e2]
    exact run_equalIn_string w d ty _ _ (u2 rfl)
 ·cases h
theorem Ygx {xs ys:Array Value}(d:Nat):∀ (fs:List Field) (i:Nat) (ks:List Nat) (l m:List AV) (c:Bool),Zis P fs i=some ks→Zyq ks l m=some c→
 All2 (VR γ) l (xs.toList.drop i)→All2 (VR γ) m (ys.toList.drop i)→(Op.eqFields (d+1) xs ys fs).run P w=.ok c w:=by
 intro fs
 induction fs with
 | nil=>
  intro i ks l m c hf he h1 h2
  cases hf
  cases l <;> cases m <;> first|(cases he;simp [Op.eqFields])|cases he
 | cons f fs ih=>
  intro i ks l m c hf he h1 h2
  unfold Zis at hf
  split at hf
  ·cases hf
  ·rename_i hn
   split at hf
   ·rename_i k r hk hr
    cases hf
    have hname : f.name ≠ "_" := fun e => hn (.inl e)
    have hoff:f.offset=i:=Classical.byContradiction fun e=>hn (.inr e)
    cases l with
    | nil=>cases he
    | cons x l=>cases m with
     | nil=>cases he
     | cons y m=>
      have hpl:Zo5 P f.type=some false:=by
       unfold Zly at hk
       unfold Zo5
       split at hk <;> first|(rename_i hu;rw [hu])|cases hk
      obtain ⟨x',hx',hRx⟩:=h1.get (i:=0) (a:=x) (by simp)
      obtain ⟨y',hy',hRy⟩:=h2.get (i:=0) (a:=y) (by simp)
      rw [List.getElem?_drop] at hx' hy'
      have ex:xs[i]?=some x':=by simpa using hx'
      have ey:ys[i]?=some y':=by simpa using hy'
      have t1:All2 (VR γ) l (xs.toList.drop (i+1)):=by have:=h1.drop 1;simpa [List.drop_drop] using this
      have t2:All2 (VR γ) m (ys.toList.drop (i+1)):=by have:=h2.drop 1;simpa [List.drop_drop] using this
      simp only [Zyq] at he
      simp only [Op.eqFields,hname,ne_eq,not_false_eq_true,if_true,hoff,Sem.run_bind,Zt9 hpl ex,Zt9 hpl ey,Result.andThen_ok]
      cases hq:eq1 k x y with
      | none=>rw [hq] at he;cases he
      | some b=>
       rw [hq] at he
       rw [Ycp hk hRx hRy hq d]
       cases b with
       | true=>simpa using ih (i+1) r l m c hr he t1 t2
       | false=>cases he;simp
   ·cases hf
theorem Yb0 {e k:Nat}{xs ys:Array Value}(hk:Zly P e=some k) (d:Nat):∀ (n i:Nat) (l m:List AV) (c:Bool),Zyq (List.replicate n k) l m=some c→
 All2 (VR γ) l (xs.toList.drop i)→All2 (VR γ) m (ys.toList.drop i)→(Op.eqItems (d+1) e 1 xs ys (List.range' i n)).run P w=.ok c w:=by
 have hpl:Zo5 P e=some false:=by
  unfold Zly at hk
  unfold Zo5
  split at hk <;> first|(rename_i hu;rw [hu])|cases hk
 intro n
 induction n with
 | zero=>
  intro i l m c he h1 h2
  cases l <;> cases m <;> first|(cases he;simp [Op.eqItems])|cases he
 | succ n ih=>
  intro i l m c he h1 h2
  rw [List.replicate_succ] at he
  cases l with
  | nil=>cases he
  | cons x l=>cases m with
   | nil=>cases he
   | cons y m=>
    obtain ⟨x',hx',hRx⟩:=h1.get (i:=0) (a:=x) (by simp)
    obtain ⟨y',hy',hRy⟩:=h2.get (i:=0) (a:=y) (by simp)
    rw [List.getElem?_drop] at hx' hy'
    have ex:xs[i]?=some x':=by simpa using hx'
    have ey:ys[i]?=some y':=by simpa using hy'
    have t1:All2 (VR γ) l (xs.toList.drop (i+1)):=by have:=h1.drop 1;simpa [List.drop_drop] using this
    have t2:All2 (VR γ) m (ys.toList.drop (i+1)):=by have:=h2.drop 1;simpa [List.drop_drop] using this
    simp only [Zyq] at he
    simp only [List.range'_succ,Op.eqItems,Nat.mul_one,Sem.run_bind,Zt9 hpl ex,Zt9 hpl ey,Result.andThen_ok]
    cases hq:eq1 k x y with
    | none=>rw [hq] at he;cases he
    | some b=>
     rw [hq] at he
     rw [Ycp hk hRx hRy hq d]
     cases b with
     | true=>simpa using ih (i+1) l m c he t1 t2
     | false=>cases he;simp
theorem Zsl (hs:Sim P γ s w) {o:Oper}{op:BinOp}{ty yt:Nat}{ks:List Nat}{neg:Bool}{x y:Operand}{a b:AO}{v:AV}{s':St}(hop:(op=.eql∧neg=false)∨(op=.neq∧neg=true)) (hk:Ygy P ty=some ks) (hx:aop x=some a) (hy:aop y=some b)
 (ho:o.op=.binOp op ty x y yt) (he:Evs γ t ρ [x,y]) (h:eqf'A ks neg a b t s=.ok v s'):OpOk P γ s w ρ o v s':=by
 obtain ⟨u1,hu1,h⟩:=Za5 h
 obtain ⟨u2,hu2,h⟩:=Za5 h
 obtain ⟨l,rfl,h⟩:=Zpw h
 obtain ⟨m,rfl,h⟩:=Zpw h
 obtain ⟨c,hc,h⟩:=Za3 h
 obtain ⟨rfl,rfl⟩:=Zau h
 obtain ⟨xs,e1,r1,_⟩:=aggV (he x (by simp) a _ hx hu1)
 obtain ⟨ys,e2,r2,_⟩:=aggV (he y (by simp) b _ hy hu2)
 unfold Ygy at hk
 split at hk
 ·rename_i fs hu
  split at hk
  ·rename_i hcond
   have hf:P.fieldsOf ty=fs:=by simp [Program.fieldsOf,hu]
   have hrun:(Op.equalIn 10000 ty (.agg xs) (.agg ys)).run P w=.ok c w:=by
    rw [run_equalIn_struct w 9999 ty xs ys (by rw [hf];exact hu) hcond.1,hf]
    exact Ygx 9998 fs.toList 0 ks l m c hk hc (by simpa using r1) (by simpa using r2)
   refine Zag hs (.bool (Zwf neg c)) ?_ (.bool _)
   rcases hop with ⟨rfl,rfl⟩|⟨rfl,rfl⟩
   ·simp only [execOp,ho,Sem.run_bind,e1,e2,run_eqGuard_agg w _ _ _ _ _ _ hcond.2,Result.andThen_ok,run_eql_struct,hrun,Sem.run_pure];rfl
   ·simp only [execOp,ho,Sem.run_bind,e1,e2,run_eqGuard_agg w _ _ _ _ _ _ hcond.2,Result.andThen_ok,run_neq_struct,hrun,Sem.run_pure];rfl
  ·cases hk
 ·rename_i n e hu
  split at hk
  ·rename_i hcond
   cases hpk:Zly P e with
   | none=>rw [hpk] at hk;cases hk
   | some kk=>
    rw [hpk] at hk
    cases hk
    have h1:P.cellsOf e=1:=by
     have:=hcond.1
     unfold Zdd at this
     unfold Program.cellsOf
     rw [this];rfl
    cases hi:P.info? e with
    | none=>have:=hcond.1;unfold Zdd at this;rw [hi] at this;cases this
    | some inf=>
    have hrun:(Op.equalIn 10000 ty (.agg xs) (.agg ys)).run P w=.ok c w:=by
     rw [run_equalIn_array w 9999 xs ys hu hi,h1,List.range_eq_range']
     exact Yb0 hpk 9998 n 0 l m c hc (by simpa using r1) (by simpa using r2)
    refine Zag hs (.bool (Zwf neg c)) ?_ (.bool _)
    rcases hop with ⟨rfl,rfl⟩|⟨rfl,rfl⟩
    ·simp only [execOp,ho,Sem.run_bind,e1,e2,run_eqGuard_agg w _ _ _ _ _ _ hcond.2,Result.andThen_ok,run_eql_struct,hrun,Sem.run_pure];rfl
    ·simp only [execOp,ho,Sem.run_bind,e1,e2,run_eqGuard_agg w _ _ _ _ _ _ hcond.2,Result.andThen_ok,run_neq_struct,hrun,Sem.run_pure];rfl
  ·cases hk
 ·cases hk
theorem Zs0:∀ (cs:List AV) (vs:List Value) (l:List Nat) (acc:ByteArray),Zbm cs=some l→All2 (VR γ) cs vs→
 ∃ bs:List UInt8,bs.map UInt8.toNat=l∧vs=bs.map (fun b=>Value.int .u8 b.toNat):=by
 intro cs
 induction cs with
 | nil=>intro vs l acc h hr;cases h;cases hr;exact ⟨[],rfl,rfl⟩
 | cons c cs ih=>
  intro vs l acc h hr
  cases hr with
  | @cons _ v _ vs' h1 h2=>
   change (IR.rec none (fun k n=>Bool.rec none (Int.rec (fun a=>Bool.rec none (Option.rec none (fun r=>some (a::r)) (Zbm cs)) (Nat.blt a 256)) (fun _=>none) n) (Nat.beq (Zoy k) 4)) (asInt c):Option (List Nat))=some l at h
   cases hc:asInt c with
   | no=>rw [hc] at h;cases h
   | int k n=>
    rw [hc] at h
    dsimp only at h
    cases hk:Nat.beq (Zoy k) 4 with
    | false=>rw [hk] at h;cases h
    | true=>
     rw [hk] at h
     have hku:k=.u8:=by cases k <;> first|rfl|cases hk
     subst hku
     cases n with
     | negSucc n=>cases h
     | ofNat a=>
      dsimp only at h
      cases hb:Nat.blt a 256 with
      | false=>rw [hb] at h;cases h
      | true=>
       rw [hb] at h
       rw [Nat.blt_eq] at hb
       cases hbo:Zbm cs with
       | none=>rw [hbo] at h;cases h
       | some r=>
        rw [hbo] at h;cases h
        obtain ⟨bs,e1,e2⟩:=ih vs' r acc hbo h2
        rw [Zc2 hc] at h1
        refine ⟨UInt8.ofNat a::bs,?_,?_⟩
        ·simp [e1];omega
        ·rw [Zev h1,e2]
         simp
         omega
theorem Zk4:∀ (bs:List UInt8) (acc:ByteArray),((bs.map (fun b=>(b.toNat:Int))).foldl (fun r n=>r.push (UInt8.ofNat n.toNat)) acc).data.toList=acc.data.toList++bs
 | [],acc=>by simp
 | b::bs,acc=>by rw [List.map_cons,List.foldl_cons,Zk4 bs];simp [ByteArray.push]
theorem Ydr (hs:Sim P γ s w) {o:Oper}{sr ds e:Nat}{x:Operand}{a:AO}{v:AV}{s':St}(hsr:P.underlying sr=some (.slice e)) (hd:P.underlying ds=some .string) (hu8:P.underlying e=some (.int .u8)) (hx:aop x=some a) (ho:o.op=.convert sr ds x) (he:Evs γ t ρ [x])
 (h:b2sA a t s=.ok v s'):OpOk P γ s w ρ o v s':=by
 obtain ⟨u,hu',h⟩:=Za5 h
 have hv:=he x (by simp) a u hx hu'
 have hconv:∀ (p:Option Addr) (m c:Nat),(convert sr ds (.slice p m c)).run P w=(Conv.bytesToString (.slice p m c)).run P w:=by
  intro p m c;simp [convert,run_underlying hsr,run_underlying hd,run_underlying hu8]
 rcases Zi4 h with ⟨r,i,n,c,rfl,h⟩|⟨rfl,h⟩|⟨rfl,h⟩|⟨n,c,l0,rfl,h⟩
 ·obtain ⟨cs,hl,h⟩:=Za3 h
  obtain ⟨l,hb,h⟩:=Za3 h
  obtain ⟨rfl,rfl⟩:=Zau h
  obtain ⟨L,cc,hL,hval⟩:∃ L cc,γ r=some L∧ρ x=.slice (some ⟨L.b,L.o+i,none⟩) n cc:=by
   generalize ρ x=vx at hv
   cases hv with
   | sl _ _ _ c L hL=>exact ⟨L,_,hL,rfl⟩
   | slu _ _ _ c L hL=>exact ⟨L,_,hL,rfl⟩
  obtain ⟨vs,e1,hc,hR,h1⟩:=Zeu hs hl hL
  obtain ⟨bs,e2,e3⟩:=Zs0 cs vs l ByteArray.empty hb hR
  have hrun:=run_loadCells_list (P:=P) w _ vs hc
  rw [e1] at hrun
  have hb:=run_bytesToString (P:=P) w ⟨L.b,L.o+i,none⟩ n cc (bs.map (fun b=>(b.toNat:Int))) (by rw [hrun,e3];simp)
  refine Zag hs (.string ((bs.map (fun b=>(b.toNat:Int))).foldl (fun r n=>r.push (UInt8.ofNat n.toNat)) ByteArray.empty)) (by simp only [execOp,ho,Sem.run_bind,hval];rw [hconv,hb];simp only [Result.andThen_ok,Sem.run_pure]) (.str _ _ ?_)
  rw [Zk4];show List.map UInt8.toNat ([]++bs)=l;exact e2
 ·obtain ⟨rfl,rfl⟩:=Zau h
  generalize hxx:ρ x=vx at hv
  cases hv
  refine Zag hs (.string .empty) (by simp only [execOp,ho,Sem.run_bind,hxx];rw [hconv];simp [Conv.bytesToString]) (.str _ _ rfl)
 ·obtain ⟨rfl,rfl⟩:=Zau h
  generalize hxx:ρ x=vx at hv
  cases hv with
  | es ad c=>
   have hb:=run_bytesToString (P:=P) w ad 0 c [] (by simp [loadCells,loadCellsFrom])
   refine Zag hs (.string .empty) (by simp only [execOp,ho,Sem.run_bind,hxx];rw [hconv,hb];simp only [Result.andThen_ok,Sem.run_pure,List.foldl_nil]) (.str _ _ rfl)
 ·obtain ⟨cs,hl,h⟩:=Za3 h
  obtain ⟨l,hb,h⟩:=Za3 h
  obtain ⟨rfl,rfl⟩:=Zau h
  obtain ⟨b,i,cc,cz,vs,hval,hbz,h2,h3,h4,_,_,h5⟩:=fzV hv
  obtain ⟨us,e1,g2,hR,h1⟩:=Zjm (k:=0) hs hbz h2 h3 h4 hl
  obtain ⟨bs,e2,e3⟩:=Zs0 cs us l ByteArray.empty hb hR
  rw [Nat.add_zero] at g2
  have hrun:=run_loadCells_list (P:=P) w _ us (Zkd hs hbz g2)
  rw [e1] at hrun
  have hb:=run_bytesToString (P:=P) w ⟨b,i,none⟩ n cc (bs.map (fun b=>(b.toNat:Int))) (by rw [hrun,e3];simp)
  refine Zag hs (.string ((bs.map (fun b=>(b.toNat:Int))).foldl (fun r n=>r.push (UInt8.ofNat n.toNat)) ByteArray.empty)) (by simp only [execOp,ho,Sem.run_bind,hval];rw [hconv,hb];simp only [Result.andThen_ok,Sem.run_pure]) (.str _ _ ?_)
  rw [Zk4];show List.map UInt8.toNat ([]++bs)=l;exact e2
theorem slV {r i n:Nat}{c:Option Nat}{v':Value}(h:VR γ (.sl r i n c) v'):∃ L cc,γ r=some L∧v'=.slice (some ⟨L.b,L.o+i,none⟩) n cc∧(∀ k,c=some k→cc=k):=by
 cases h with
 | sl _ _ _ c L hL=>exact ⟨L,_,hL,rfl,fun k e=>Option.some.inj e⟩
 | slu _ _ _ c L hL=>exact ⟨L,_,hL,rfl,fun k e=>by cases e⟩
theorem Ybq {o:Oper}{ty e n by_:Nat}{z:List AV}{x y:Operand}{a b:AO}{v:AV}{s':St}(hu:P.underlying ty=some (.slice e)) (hn:Zdd P e=some n) (hby:Yhn P e=some by_) (hz:Zfd P e=some z) (h1n:1≤n) (hbl:by_≤4096) (hzl:z.length=n)
 (hx:aop x=some a) (hy:aop y=some b) (ho:o.op=.makeSlice ty x y) (he:Evs γ t ρ [x,y]) (h:mksA e n z a b t s=.ok v s'):Fresh P γ w ρ o s v s':=by
 obtain ⟨l,hl,h⟩:=Zc1 h
 obtain ⟨c,hc,h⟩:=Zc1 h
 obtain ⟨hcond,h⟩:=Zco h
 obtain ⟨rfl,rfl⟩:=Zau h
 obtain ⟨k1,h1⟩:=Zr7 hl
 obtain ⟨k2,h2⟩:=Zr7 hc
 have v1:ρ x=.int k1 (l:Int):=Zev (he x (by simp) a _ hx h1)
 have v2:ρ y=.int k2 (c:Int):=Zev (he y (by simp) b _ hy h2)
 simp only [Bool.and_eq_true] at hcond
 have hlc:=Nat.le_of_ble_eq_true hcond.1
 have hcm:=Nat.le_of_ble_eq_true hcond.2
 obtain ⟨i,zv,hi,hzz,ha⟩:=Zdw hz
 obtain ⟨y1,y2⟩:=Zi7 (γ:=γ) ha
 have hzs:zv.cells.size=n:=by rw [← hzl];simpa using y1.length.symm
 obtain ⟨q1,q2⟩:=Zij y1 y2 (by omega) c
 rw [hzs] at q1 q2
 rw [Yau]
 refine ⟨.row e (Zzj z c),fun r=>.sl r 0 l (some c),.cells _ e,_,n,.slice (some ⟨w.heap.size,0,none⟩) l c,rfl,rfl,?_,fun γ' r hle hr=>⟨Zvy hn q1 q2 hle,.sl r 0 l c _ hr hlc⟩⟩
 have hib:i.bytes=by_:=by simp [Yhn,hi] at hby;exact hby
 have hw1:IntKind.i64.wrap (l:Int)=(l:Int):=IntWalk.i64_in (l:Int) ⟨by omega,by omega⟩
 have hw2:IntKind.i64.wrap (c:Int)=(c:Int):=IntWalk.i64_in (c:Int) ⟨by omega,by omega⟩
 have hbc:i.bytes*c≤4096*1000000:=by rw [hib];exact Nat.mul_le_mul hbl hcm
 have hroom:¬ (c*i.bytes>roomBytes):=by rw [Nat.mul_comm];simp only [roomBytes];omega
 have hlarge:((decide ((c:Int)<0) || decide ((i.bytes:Int)*(c:Int)>2^48)) || decide ((l:Int)<0) || decide ((l:Int)>(c:Int)))=false:=by
  have:(i.bytes:Int)*(c:Int)=((i.bytes*c:Nat):Int):=by simp
  rw [this]
  simp
  omega
 simp only [execOp,ho,Instr.makeSlice,Sem.run_bind,run_underlying hu,Result.andThen_ok,Go.asInt,asIntOf,v1,v2,Sem.run_pure,typeInfo,run_program,hi,hw1,hw2,hlarge]
 rw [if_neg (by simp)]
 have hroom':(askRoom (c*i.bytes)).run P w=.ok () w:=by unfold askRoom;rw [if_neg hroom];rfl
 simp only [Int.toNat_natCast,Sem.run_bind,hroom',Result.andThen_ok,Za9 hn]
 by_cases h0:c*n=0
 ·have hrow:(Array.range (c*n)).map (fun x=>(#[]:Array Value)[x % (#[]:Array Value).size]!)=(Array.range (c*n)).map (fun i=>zv.cells[i % n]!):=by
   rw [h0];simp
  simp only [if_pos h0,Sem.run_bind,Sem.run_pure,Result.andThen_ok,hrow,newRow,Zf4]
 ·simp only [if_neg h0,Sem.run_bind,Sem.run_pure,Zb1 hi hzz,Result.andThen_ok,hzs,newRow,Zf4]
theorem Zv9 {x:Option AO}{d n:Nat}(h:Zeg t x d=.n n):(x=none∧n=d)∨∃ a k,x=some a∧ev a t=.some (.int k (.ofNat n)):=by
 cases x with
 | none=>cases h;exact .inl ⟨rfl,rfl⟩
 | some a=>obtain ⟨k,hk⟩:=Zr7 h;exact .inr ⟨a,k,rfl,hk⟩
theorem Zot (k:IntKind) (i y:Nat) (code:BoundsCode) (h:i≤y):(Instr.sliceBound (.int k (i:Int)) y code).run P w=.ok i w:=by
 simp [Instr.sliceBound,asIntOf,h]
def Zhi (ρ:Operand→Value) (x:Option Operand) (d n:Nat):Prop:=(x=none∧n=d)∨∃ y k,x=some y∧ρ y=.int k (n:Int)
theorem Zey {x:Option Operand}{a:Option AO}{d n:Nat}(hx:Ztk x=some a) (he:∀ y,x=some y→Evs γ t ρ [y]) (h:Zeg t a d=.n n):Zhi ρ x d n:=by
 cases x with
 | none=>cases hx;rcases Zv9 h with ⟨_,e⟩|⟨a,k,e,_⟩
         ·exact .inl ⟨rfl,e⟩
         ·cases e
 | some y=>
  simp only [Ztk] at hx
  cases ha:aop y with
  | none=>rw [ha] at hx;cases hx
  | some b=>
   rw [ha] at hx;cases hx
   rcases Zv9 h with ⟨e,_⟩|⟨b',k,e,hk⟩
   ·cases e
   ·cases e;exact .inr ⟨y,k,rfl,Zev (he y rfl y (by simp) b _ ha hk)⟩
theorem Zhz (sl:Bool) {len cap:Nat}{lo hi mx:Option Operand}{l h m:Nat}(h1:Zhi ρ lo 0 l) (h2:Zhi ρ hi len h) (h3:Zhi ρ mx cap m) (hm:mx.isSome=true→hi.isSome=true) (hlh:l≤h) (hhm:h≤m) (hmc:m≤cap):
 (Instr.sliceBounds sl len cap (lo.map ρ) (hi.map ρ) (mx.map ρ)).run P w=.ok (l,h,m) w:=by
 rcases h1 with ⟨rfl,rfl⟩|⟨y1,k1,rfl,hy1⟩ <;> rcases h2 with ⟨rfl,rfl⟩|⟨y2,k2,rfl,hy2⟩ <;> rcases h3 with ⟨rfl,rfl⟩|⟨y3,k3,rfl,hy3⟩ <;>
  first
  | (simp [Instr.sliceBounds, *,Zot];done)
  | exact absurd (hm rfl) (by simp)
theorem Zz8 (hs:Sim P γ s w) {o:Oper}{ty e es:Nat}{x:Operand}{a:AO}{lo hi mx:Option Operand}{alo ahi amx:Option AO}{v:AV}{s':St}(hu:P.underlying ty=some (.slice e)) (hes:Zdd P e=some es)
 (hx:aop x=some a) (hlo:Ztk lo=some alo) (hhi:Ztk hi=some ahi) (hmx:Ztk mx=some amx) (hm:amx.isSome=true→ahi.isSome=true) (ho:o.op=.slice ty x lo hi mx)
 (he:Evs γ t ρ ([x]++lo.toList++hi.toList++mx.toList)) (h:slcA es a alo ahi amx t s=.ok v s'):OpOk P γ s w ρ o v s':=by
 obtain ⟨u,hu',h⟩:=Za5 h
 have hv:=he x (by simp) a u hx hu'
 have hlo':∀ y,lo=some y→Evs γ t ρ [y]:=fun y hy z hz=>he z (by simp at hz;subst hz;simp [hy])
 have hhi':∀ y,hi=some y→Evs γ t ρ [y]:=fun y hy z hz=>he z (by simp at hz;subst hz;simp [hy])
 have hmx':∀ y,mx=some y→Evs γ t ρ [y]:=fun y hy z hz=>he z (by simp at hz;subst hz;simp [hy])
 have hms:mx.isSome=true→hi.isSome=true:=by
  intro hq
  cases mx with
  | none=>cases hq
  | some y=>cases hi with
   | some z=>rfl
   | none=>
    simp only [Ztk] at hmx hhi
    cases hhi
    cases hay:aop y with
    | none=>rw [hay] at hmx;cases hmx
    | some b=>rw [hay] at hmx;cases hmx;exact absurd (hm rfl) (by simp)
 have hfin:∀ {ad:Option Addr}{n c l h m:Nat},ρ x=.slice ad n c→Zhi ρ lo 0 l→Zhi ρ hi n h→Zhi ρ mx c m→l≤h→h≤m→m≤c→
  (execOp ρ o).run P w=.ok (.value (.slice (if m=l then ad else ad.map (·.add (l*es))) (h-l) (m-l))) w:=by
  intro ad n c l h m e1 e2 e3 e4 e5 e6 e7
  simp only [execOp,ho,Instr.sliceAt,Sem.run_bind,run_underlying hu,Result.andThen_ok,e1,Instr.slice,Zhz (P:=P) (w:=w) true e2 e3 e4 hms e5 e6 e7,Za9 hes,Sem.run_pure]
 rcases Zi4 h with ⟨r,i,n,c,rfl,h⟩|⟨rfl,h⟩|⟨rfl,h⟩|⟨n,cap,l0,rfl,h⟩
 ·obtain ⟨l,hl,h⟩:=Zc1 h
  obtain ⟨q,hq,h⟩:=Zc1 h
  have b1:=Zey hlo hlo' hl
  have b2:=Zey hhi hhi' hq
  cases amx with
  | none=>
   have hmn:mx=none:=by
    cases mx with
    | none=>rfl
    | some y=>simp only [Ztk] at hmx;cases hay:aop y <;> rw [hay] at hmx <;> cases hmx
   subst hmn
   change slc1 es r i n c l q s=.ok v s' at h
   cases c with
   | some c=>
    obtain ⟨hc,h⟩:=Zco h
    obtain ⟨rfl,rfl⟩:=Zau h
    simp only [Bool.and_eq_true] at hc
    have c1:=Nat.le_of_ble_eq_true hc.1
    have c2:=Nat.le_of_ble_eq_true hc.2
    generalize hxx:ρ x=vx at hv
    cases hv with
    | sl _ _ _ _ L hL=>
     have hr:=hfin hxx b1 b2 (.inl ⟨rfl,rfl⟩) c1 c2 (Nat.le_refl _)
     refine Zag hs _ hr ?_
     cases hcl:Nat.beq c l with
     | true=>
      have:=Nat.eq_of_beq_eq_true hcl
      rw [if_pos this];exact .sl _ _ _ _ L hL (by omega)
     | false=>
      have:=Nat.ne_of_beq_eq_false hcl
      rw [if_neg this]
      simp only [Option.map_some,Zcf,Nat.add_assoc];exact .sl _ _ _ _ L hL (by omega)
   | none=>
    obtain ⟨hc,h⟩:=Zco h
    simp only [Bool.and_eq_true] at hc
    have c1:=Nat.le_of_ble_eq_true hc.1
    have c2:=Nat.le_of_ble_eq_true hc.2
    generalize hxx:ρ x=vx at hv
    cases hv with
    | slu _ _ _ c L hL hnc hcm hcs=>
     have hr:=hfin hxx b1 b2 (.inl ⟨rfl,rfl⟩) c1 (Nat.le_trans c2 hnc) (Nat.le_refl _)
     cases hln:Nat.blt l n with
     | true=>
      rw [hln] at h
      obtain ⟨rfl,rfl⟩:=Zau h
      rw [Nat.blt_eq] at hln
      refine Zag hs _ hr ?_
      rw [if_neg (by omega)]
      simp only [Option.map_some,Zcf,Nat.add_assoc]
      refine .slu _ _ _ _ L hL (by omega) (by omega) (fun e=>?_)
      have:=hcs (by omega)
      exact Nat.le_trans (Nat.mul_le_mul_right _ (Nat.sub_le _ _)) this
     | false=>
      rw [hln] at h
      obtain ⟨rfl,rfl⟩:=Zau h
      have:¬ l<n:=fun e=>by rw [← Nat.blt_eq,hln] at e;cases e
      have hq0:q-l=0:=by omega
      refine Zag hs _ hr ?_
      rw [hq0]
      by_cases e:c=l
      ·rw [if_pos e];exact .es _ _
      ·rw [if_neg e];exact .es _ _
  | some m=>
   obtain ⟨mm,hmm,h⟩:=Zc1 h
   obtain ⟨hc,h⟩:=Zco h
   obtain ⟨rfl,rfl⟩:=Zau h
   simp only [Bool.and_eq_true] at hc
   have c1:=Nat.le_of_ble_eq_true hc.1.1
   have c2:=Nat.le_of_ble_eq_true hc.1.2
   have c3:=Nat.le_of_ble_eq_true hc.2
   obtain ⟨k,hmm⟩:=Zr7 hmm
   obtain ⟨cc,hbm,hval,hle⟩:∃ L cc,γ r=some L∧ρ x=.slice (some ⟨L.b,L.o+i,none⟩) n cc∧mm≤cc:=by
    generalize ρ x=vx at hv
    cases hv with
    | sl _ _ _ c L hL=>exact ⟨L,c,hL,rfl,c3⟩
    | slu _ _ _ c L hL hnc=>exact ⟨L,c,hL,rfl,Nat.le_trans c3 hnc⟩
   have b3:Zhi ρ mx hbm mm:=by
    cases mx with
    | none=>cases hmx
    | some y=>
     simp only [Ztk] at hmx
     cases hay:aop y with
     | none=>rw [hay] at hmx;cases hmx
     | some b=>
      rw [hay] at hmx
      obtain rfl:b=m:=by simpa using hmx
      exact .inr ⟨y,k,rfl,Zev (hmx' y rfl y (by simp) b _ hay hmm)⟩
   have hr:=hfin hle.1 b1 b2 b3 c1 c2 hle.2
   refine Zag hs _ hr ?_
   cases hcl:Nat.beq mm l with
   | true=>
    have:=Nat.eq_of_beq_eq_true hcl
    rw [if_pos this];exact .sl _ _ _ _ cc hval (by omega)
   | false=>
    have:=Nat.ne_of_beq_eq_false hcl
    rw [if_neg this]
    simp only [Option.map_some,Zcf,Nat.add_assoc];exact .sl _ _ _ _ cc hval (by omega)
 ·obtain ⟨l,hl,h⟩:=Zc1 h
  obtain ⟨q,hq,h⟩:=Zc1 h
  obtain ⟨m,hmq,h⟩:=Zc1 h
  obtain ⟨hc,h⟩:=Zco h
  obtain ⟨rfl,rfl⟩:=Zau h
  have hc:=Nat.eq_of_beq_eq_true hc
  have b1:=Zey hlo hlo' hl
  have b2:=Zey hhi hhi' hq
  have b3:=Zey hmx hmx' hmq
  obtain rfl:l=0:=by omega
  obtain rfl:q=0:=by omega
  obtain rfl:m=0:=by omega
  generalize hxx:ρ x=vx at hv
  cases hv
  refine Zag hs _ (hfin hxx b1 b2 b3 (Nat.le_refl _) (Nat.le_refl _) (Nat.le_refl _)) ?_
  exact .nils
 ·obtain ⟨l,hl,h⟩:=Zc1 h
  obtain ⟨q,hq,h⟩:=Zc1 h
  obtain ⟨m,hmq,h⟩:=Zc1 h
  obtain ⟨hc,h⟩:=Zco h
  obtain ⟨rfl,rfl⟩:=Zau h
  have hc:=Nat.eq_of_beq_eq_true hc
  have b1:=Zey hlo hlo' hl
  have b2:=Zey hhi hhi' hq
  have b3:=Zey hmx hmx' hmq
  obtain rfl:l=0:=by omega
  obtain rfl:q=0:=by omega
  obtain rfl:m=0:=by omega
  generalize hxx:ρ x=vx at hv
  cases hv with
  | es ad c=>
   rcases b3 with ⟨rfl,_⟩|⟨y,k,rfl,hy⟩
   ·refine Zag hs _ (hfin hxx b1 b2 (.inl ⟨rfl,rfl⟩) (Nat.le_refl _) (Nat.zero_le _) (Nat.le_refl _)) ?_
    by_cases e:c=0
    ·rw [if_pos e];exact .es _ _
    ·rw [if_neg e];exact .es _ _
   ·refine Zag hs _ (hfin hxx b1 b2 (.inr ⟨y,k,rfl,hy⟩) (Nat.le_refl _) (Nat.le_refl _) (Nat.zero_le _)) ?_
    exact .es _ _
 ·obtain ⟨l,hl,h⟩:=Zc1 h
  obtain ⟨q,hq,h⟩:=Zc1 h
  have b1:=Zey hlo hlo' hl
  have b2:=Zey hhi hhi' hq
  obtain ⟨b,i,cc,cz,vs,hval,hbz,h2,h3,h4,hnc,hck,h5⟩:=fzV hv
  cases amx with
  | none=>
   have hmn:mx=none:=by
    cases mx with
    | none=>rfl
    | some y=>simp only [Ztk] at hmx;cases hay:aop y <;> rw [hay] at hmx <;> cases hmx
   subst hmn
   change slcF es n cap l0 l q s=.ok v s' at h
   obtain ⟨hc,h⟩:=Zco h
   simp only [Bool.and_eq_true] at hc
   have c1:=Nat.le_of_ble_eq_true hc.1.1
   have c2:=Nat.le_of_ble_eq_true hc.1.2
   have hr:=hfin hval b1 b2 (.inl ⟨rfl,rfl⟩) c1 (Nat.le_trans c2 hnc) (Nat.le_refl _)
   cases hln:Nat.blt l n with
   | true=>
    rw [hln] at h
    obtain ⟨cs',ht,h⟩:=Za3 h
    obtain ⟨rfl,rfl⟩:=Zau h
    rw [Nat.blt_eq] at hln
    refine Zag hs _ hr ?_
    rw [if_neg (by omega)]
    simp only [Option.map_some,Zcf]
    obtain ⟨us,e1,g2,hR,h1⟩:=Zjm hs hbz h2 h3 h4 ht
    refine .fz _ _ _ us b _ _ cz hbz g2 h1 hR (by omega) ?_ (Yir h5 ht)
    rcases cap with _|_|c
    ·exact hck
    ·have hl0:l=0:=by
      rcases Bool.or_eq_true_iff.1 hc.2 with h|h
      ·exact Nat.eq_of_beq_eq_true h
      ·cases h
     subst hl0
     exact ⟨hck.1,by rw [hck.2];omega⟩
    ·obtain ⟨k,hk⟩:∃ k,c+1-l=k+1:=⟨c-l,by have:=hck.1;omega⟩
     show CapR cz _ _ (some (c+1-l))
     rw [hk]
     exact ⟨by rw [← hk,hck.1],hck.2⟩
   | false=>
    rw [hln] at h
    obtain ⟨rfl,rfl⟩:=Zau h
    have:¬ l<n:=fun e=>by rw [← Nat.blt_eq,hln] at e;cases e
    have hq0:q-l=0:=by omega
    refine Zag hs _ hr ?_
    rw [hq0]
    by_cases e:cc=l
    ·rw [if_pos e];exact .es _ _
    ·rw [if_neg e];exact .es _ _
  | some m=>
   obtain ⟨mm,hmm,h⟩:=Zc1 h
   obtain ⟨hcap,h⟩:=Zco h
   have hck2:cz.old=true:=by
    rcases cap with _|_|c
    ·exact hck
    ·cases hcap
    ·exact hck.2
   obtain ⟨hc,h⟩:=Zco h
   simp only [Bool.and_eq_true] at hc
   have c1:=Nat.le_of_ble_eq_true hc.1.1
   have c2:=Nat.le_of_ble_eq_true hc.1.2
   have c3:=Nat.le_of_ble_eq_true hc.2
   obtain ⟨k,hmm⟩:=Zr7 hmm
   have b3:Zhi ρ mx cc mm:=by
    cases mx with
    | none=>cases hmx
    | some y=>
     simp only [Ztk] at hmx
     cases hay:aop y with
     | none=>rw [hay] at hmx;cases hmx
     | some b=>
      rw [hay] at hmx
      obtain rfl:b=m:=by simpa using hmx
      exact .inr ⟨y,k,rfl,Zev (hmx' y rfl y (by simp) b _ hay hmm)⟩
   have hr:=hfin hval b1 b2 b3 c1 c2 (Nat.le_trans c3 hnc)
   cases hln:Nat.blt l mm with
   | true=>
    rw [hln] at h
    obtain ⟨cs',ht,h⟩:=Za3 h
    obtain ⟨rfl,rfl⟩:=Zau h
    rw [Nat.blt_eq] at hln
    refine Zag hs _ hr ?_
    rw [if_neg (by omega)]
    simp only [Option.map_some,Zcf]
    obtain ⟨us,e1,g2,hR,h1⟩:=Zjm hs hbz h2 h3 h4 ht
    exact .fz _ _ _ us b _ _ cz hbz g2 h1 hR (by omega) (by
     obtain ⟨k,hk⟩:∃ k,mm-l=k+1:=⟨mm-l-1,by omega⟩
     rw [hk];exact ⟨rfl,hck2⟩) (Yir h5 ht)
   | false=>
    rw [hln] at h
    obtain ⟨rfl,rfl⟩:=Zau h
    have:¬ l<mm:=fun e=>by rw [← Nat.blt_eq,hln] at e;cases e
    have hq0:q-l=0:=by omega
    refine Zag hs _ hr ?_
    rw [hq0]
    by_cases e:mm=l
    ·rw [if_pos e];exact .es _ _
    ·rw [if_neg e];exact .es _ _
theorem Zz9 (hs:Sim P γ s w) {o:Oper}{ty e n es:Nat}{x:Operand}{a:AO}{lo hi mx:Option Operand}{alo ahi amx:Option AO}{v:AV}{s':St}(hu:P.underlying ty=some (.array n e)) (hes:Zdd P e=some es)
 (hx:aop x=some a) (hlo:Ztk lo=some alo) (hhi:Ztk hi=some ahi) (hmx:Ztk mx=some amx) (hms:mx.isSome=true→hi.isSome=true) (ho:o.op=.slice ty x lo hi mx)
 (he:Evs γ t ρ ([x]++lo.toList++hi.toList++mx.toList)) (h:slaA es n a alo ahi amx t s=.ok v s'):OpOk P γ s w ρ o v s':=by
 obtain ⟨u,hu',h⟩:=Za5 h
 have hlo':∀ y,lo=some y→Evs γ t ρ [y]:=fun y hy z hz=>he z (by simp at hz;subst hz;simp [hy])
 have hhi':∀ y,hi=some y→Evs γ t ρ [y]:=fun y hy z hz=>he z (by simp at hz;subst hz;simp [hy])
 have hmx':∀ y,mx=some y→Evs γ t ρ [y]:=fun y hy z hz=>he z (by simp at hz;subst hz;simp [hy])
 obtain ⟨r,i,rfl,h⟩:=Zv2 h
 obtain ⟨L,hL,hv⟩:=Yh8 (he x (by simp) a _ hx hu')
 obtain ⟨l,hl,h⟩:=Zc1 h
 obtain ⟨q,hq,h⟩:=Zc1 h
 obtain ⟨m,hmq,h⟩:=Zc1 h
 obtain ⟨hc,h⟩:=Zco h
 obtain ⟨rfl,rfl⟩:=Zau h
 simp only [Bool.and_eq_true] at hc
 have c1:=Nat.le_of_ble_eq_true hc.1.1
 have c2:=Nat.le_of_ble_eq_true hc.1.2
 have c3:=Nat.le_of_ble_eq_true hc.2
 have b1:=Zey hlo hlo' hl
 have b2:=Zey hhi hhi' hq
 have b3:=Zey hmx hmx' hmq
 refine Zag hs (.slice (some (if m=l then ⟨L.b,L.o+i,none⟩ else (⟨L.b,L.o+i,none⟩:Addr).add (l*es))) (q-l) (m-l)) ?_ ?_
 ·simp only [execOp,ho,Instr.sliceAt,Sem.run_bind,run_underlying hu,Result.andThen_ok,hv,Instr.sureAddr,Zhz (P:=P) (w:=w) false b1 b2 b3 hms c1 c2 c3,Za9 hes,Sem.run_pure]
 ·cases hcl:Nat.beq m l with
  | true=>
   have:=Nat.eq_of_beq_eq_true hcl
   rw [if_pos this];exact .sl _ _ _ _ L hL (by omega)
  | false=>
   have:=Nat.ne_of_beq_eq_false hcl
   rw [if_neg this]
   simp only [Zcf,Nat.add_assoc];exact .sl _ _ _ _ L hL (by omega)
theorem Yby (hs:Sim P γ s w) {o:Oper}{ty e es:Nat}{x y:Operand}{a b:AO}{v:AV}{s':St}(hu:P.underlying ty=some (.slice e)) (hes:Zdd P e=some es) (hx:aop x=some a) (hy:aop y=some b) (ho:o.op=.indexAddr ty x y) (he:Evs γ t ρ [x,y])
 (h:ixsA es a b t s=.ok v s'):OpOk P γ s w ρ o v s':=by
 obtain ⟨u1,hu1,h⟩:=Za5 h
 obtain ⟨u2,hu2,h⟩:=Za5 h
 obtain ⟨i,hi,h⟩:=Zc1 h
 obtain ⟨k,rfl⟩:=Zg9 hi
 rcases Zi4 h with ⟨r,o',n,c,rfl,h⟩|⟨rfl,h⟩|⟨rfl,h⟩|⟨n,c,l,rfl,h⟩
 ·obtain ⟨hc,h⟩:=Zco h
  obtain ⟨rfl,rfl⟩:=Zau h
  rw [Nat.blt_eq] at hc
  obtain ⟨L,cc,hL,hv,_⟩:=slV (he x (by simp) a _ hx hu1)
  have hv2:ρ y=.int k (i:Int):=Zev (he y (by simp) b _ hy hu2)
  refine Zag hs (.pointer (some ⟨L.b,L.o+(o'+i*es),none⟩)) ?_ (.ptr _ _ L hL)
  simp [execOp,ho,Instr.indexAt,hv,hv2,asIntOf,run_underlying hu,hc,Za9 hes,Zcf,Nat.add_assoc]
 ·cases h
 ·cases h
 ·obtain ⟨hc,h⟩:=Zco h
  obtain ⟨rfl,rfl⟩:=Zau h
  rw [Nat.blt_eq] at hc
  obtain ⟨bb,o',cc,cz,vs,hv,hbz,h2,h3,h4,_,_,h5⟩:=fzV (he x (by simp) a _ hx hu1)
  have hv2:ρ y=.int k (i:Int):=Zev (he y (by simp) b _ hy hu2)
  refine Zag hs (.pointer (some ⟨bb,o'+i*es,none⟩)) ?_ (Zux hbz h2 h3 h4 h5)
  simp [execOp,ho,Instr.indexAt,hv,hv2,asIntOf,run_underlying hu,hc,Za9 hes,Zcf]
theorem Ybz (hs:Sim P γ s w) {o:Oper}{ty n e es:Nat}{x y:Operand}{a b:AO}{v:AV}{s':St}(hu:P.underlying ty=some (.array n e)) (hes:Zdd P e=some es) (hx:aop x=some a) (hy:aop y=some b) (ho:o.op=.indexAddr ty x y) (he:Evs γ t ρ [x,y])
 (h:ixaA n es a b t s=.ok v s'):OpOk P γ s w ρ o v s':=by
 obtain ⟨u1,hu1,h⟩:=Za5 h
 obtain ⟨u2,hu2,h⟩:=Za5 h
 obtain ⟨i,hi,h⟩:=Zc1 h
 obtain ⟨k,rfl⟩:=Zg9 hi
 have hv2:ρ y=.int k (i:Int):=Zev (he y (by simp) b _ hy hu2)
 rcases Zqg h with ⟨r,o',rfl,h⟩|⟨l,rfl,h⟩
 ·obtain ⟨hc,h⟩:=Zco h
  obtain ⟨rfl,rfl⟩:=Zau h
  rw [Nat.blt_eq] at hc
  obtain ⟨L,hL,hv⟩:=Yh8 (he x (by simp) a _ hx hu1)
  refine Zag hs (.pointer (some ⟨L.b,L.o+(o'+i*es),none⟩)) ?_ (.ptr _ _ L hL)
  simp [execOp,ho,Instr.indexAt,hv,hv2,asIntOf,run_underlying hu,hc,Za9 hes,Zcf,Nat.add_assoc,Instr.sureAddr]
 ·obtain ⟨hc,h⟩:=Zco h
  obtain ⟨rfl,rfl⟩:=Zau h
  rw [Nat.blt_eq] at hc
  obtain ⟨bb,o',cz,vs,hv,hbz,h2,h3,h4,h5⟩:=fpV (he x (by simp) a _ hx hu1)
  refine Zag hs (.pointer (some ⟨bb,o'+i*es,none⟩)) ?_ (Zux hbz h2 h3 h4 h5)
  simp [execOp,ho,Instr.indexAt,hv,hv2,asIntOf,run_underlying hu,hc,Za9 hes,Zcf,Instr.sureAddr]
theorem Ybx (hs:Sim P γ s w) {o:Oper}{ty n e:Nat}{x y:Operand}{a b:AO}{v:AV}{s':St}(hu:P.underlying ty=some (.array n e)) (hes:Zdd P e=some 1) (hag:Zo5 P e=some false) (hx:aop x=some a) (hy:aop y=some b) (ho:o.op=.index ty x y) (he:Evs γ t ρ [x,y])
 (h:ixvA n a b t s=.ok v s'):OpOk P γ s w ρ o v s':=by
 obtain ⟨u1,hu1,h⟩:=Za5 h
 obtain ⟨u2,hu2,h⟩:=Za5 h
 obtain ⟨i,hi,h⟩:=Zc1 h
 obtain ⟨k,rfl⟩:=Zg9 hi
 obtain ⟨l,rfl,h⟩:=Zpw h
 obtain ⟨hc,h⟩:=Zco h
 obtain ⟨hk,rfl⟩:=Zk2 h
 rw [Zg5] at hk
 rw [Nat.blt_eq] at hc
 obtain ⟨cs,hv,hR,_⟩:=aggV (he x (by simp) a _ hx hu1)
 have hv2:ρ y=.int k (i:Int):=Zev (he y (by simp) b _ hy hu2)
 obtain ⟨v',hv',hRv⟩:=hR.get hk
 refine Zag hs v' ?_ hRv
 have hp:=Zt9 (P:=P) (w:=w) hag (show cs[i]?=some v' by simpa using hv')
 simp [execOp,ho,Instr.index,hv,hv2,asIntOf,run_underlying hu,hc,Za9 hes,hp]
theorem Zyi (hs:Sim P γ s w) {o:Oper}{ty n e m:Nat}{x y:Operand}{a b:AO}{v:AV}{s':St}(hu:P.underlying ty=some (.array n e)) (hes:Zdd P e=some m) (hag:Zo5 P e=some true) (hx:aop x=some a) (hy:aop y=some b) (ho:o.op=.index ty x y) (he:Evs γ t ρ [x,y])
 (h:ixvnA n m a b t s=.ok v s'):OpOk P γ s w ρ o v s':=by
 obtain ⟨u1,hu1,h⟩:=Za5 h
 obtain ⟨u2,hu2,h⟩:=Za5 h
 obtain ⟨i,hi,h⟩:=Zc1 h
 obtain ⟨k,rfl⟩:=Zg9 hi
 obtain ⟨l,rfl,h⟩:=Zpw h
 obtain ⟨hc,h⟩:=Zco h
 obtain ⟨cs,hk,h'⟩:=Za3 h
 obtain ⟨rfl,rfl⟩:=Zau h'
 rw [Nat.blt_eq] at hc
 obtain ⟨e1,hle⟩:=Zfm _ hk
 rw [Ze1] at e1 hle
 subst e1
 obtain ⟨c,hv,hR,h1⟩:=aggV (he x (by simp) a _ hx hu1)
 have hv2:ρ y=.int k (i:Int):=Zev (he y (by simp) b _ hy hu2)
 have e2:(c.extract (i*m) (i*m+m)).toList=(c.toList.drop (i*m)).take m:=by simp [Array.toList_extract,List.extract_eq_take_drop]
 refine Zag hs (.agg (c.extract (i*m) (i*m+m))) ?_ (.agg _ _ (by rw [e2];exact (hR.drop _).take _) (by rw [e2];exact fun v hv=>h1 v (List.mem_of_mem_drop (List.mem_of_mem_take hv))))
 simp [execOp,ho,Instr.index,hv,hv2,asIntOf,run_underlying hu,hc,Za9 hes,partn hag hes]
theorem Zav {o:Oper}{b:Builtin}{args:Array Operand}{ts:Array TypeId}(ho:o.op=.call { callee:=.builtin b,args:=args,argTypes:=ts }):
 (execOp ρ o).run P w=(builtin b ts o.type (args.map fun|.const _=>true|_=>false) (args.map ρ)).run P w:=by
 simp only [execOp,ho,resolve,Sem.run_bind,Sem.run_pure,Result.andThen_ok,invoke]
 rfl
theorem Ybu (hs:Sim P γ s w) {o:Oper}{T e:Nat}{x:Operand}{a:AO}{v:AV}{s':St}(hu:P.underlying T=some (.slice e)) (hx:aop x=some a) (ho:o.op=.call { callee:=.builtin .len,args:=#[x],argTypes:=#[T] }) (he:Evs γ t ρ [x])
 (h:lenA a t s=.ok v s'):OpOk P γ s w ρ o v s':=by
 obtain ⟨u,hu',h⟩:=Za5 h
 have hv:=he x (by simp) a u hx hu'
 have hrun:∀ (p:Option Addr) (n c:Nat),ρ x=.slice p n c→(execOp ρ o).run P w=.ok (.value (.int .i64 n)) w:=by
  intro p n c e1
  rw [Zav ho]
  have hl:∀ ty,(Builtin.len_ #[T] ty #[.slice p n c]).run P w=.ok (goInt n) w:=fun ty=>by simp [Builtin.len_,run_underlying hu]
  simp only [builtin,List.map_toArray,List.map_cons,List.map_nil,e1,Sem.run_bind,hl,Result.andThen_ok,Sem.run_pure]
  rfl
 rcases Zi4 h with ⟨r,i,n,c,rfl,h⟩|⟨rfl,h⟩|⟨rfl,h⟩|⟨n,c,l,rfl,h⟩
 ·obtain ⟨rfl,rfl⟩:=Zau h
  obtain ⟨L,cc,hL,hval,_⟩:=slV hv
  exact Zag hs _ (hrun _ _ _ hval) (.int _ _)
 ·obtain ⟨rfl,rfl⟩:=Zau h
  generalize hxx:ρ x=vx at hv
  cases hv
  exact Zag hs _ (hrun _ _ _ hxx) (.int _ _)
 ·obtain ⟨rfl,rfl⟩:=Zau h
  generalize hxx:ρ x=vx at hv
  cases hv
  exact Zag hs _ (hrun _ _ _ hxx) (.int _ _)
 ·obtain ⟨rfl,rfl⟩:=Zau h
  obtain ⟨bb,o',cc,cz,vs,hval,_⟩:=fzV hv
  exact Zag hs _ (hrun _ _ _ hval) (.int _ _)
theorem Zy6 (hs:Sim P γ s w) {o:Oper}{T n e:Nat}{x:Operand}{v:AV}{s':St}(hu:P.underlying T=some (.array n e)) (ho:o.op=.call { callee:=.builtin .len,args:=#[x],argTypes:=#[T] })
 (h:alenA n t s=.ok v s'):OpOk P γ s w ρ o v s':=by
 obtain ⟨rfl,rfl⟩:=Zau h
 refine Zag hs (.int .i64 n) ?_ (.int _ _)
 rw [Zav ho]
 have hl:∀ ty u,(Builtin.len_ #[T] ty #[u]).run P w=.ok (goInt n) w:=fun ty u=>by simp [Builtin.len_,run_underlying hu]
 simp only [builtin,List.map_toArray,List.map_cons,List.map_nil,Sem.run_bind,hl,Result.andThen_ok,Sem.run_pure]
 rfl
end
end Go.AM
namespace Go.AM
section
variable {P:Program}{γ:Gam}{s:St}{w:World}{t:AT}{ρ:Operand→Value}
theorem mm_run (mx:Bool):∀ (l:List AV) (x v:AV) (x':Value) (l':List Value),mm mx l x=.some v→VR γ x x'→All2 (VR γ) l l'→
 ∃ v',(l'.foldlM (if mx then Builtin.max2 else Builtin.min2) x').run P w=.ok v' w∧VR γ v v':=by
 intro l
 induction l with
 | nil=>intro x v x' l' h hx hl;cases hl;cases h;exact ⟨x',rfl,hx⟩
 | cons y l ih=>
  intro x v x' l' h hx hl
  cases hl with
  | @cons _ y' _ l'' hy hl=>
   change (IR.rec .none (fun k a=>IR.rec .none (fun k' b=>Bool.rec .none (mm mx l (.int k (Bool.rec a b (Bool.rec (ltI b a) (ltI a b) mx)))) (eqK k k')) (asInt y)) (asInt x):OV)=.some v at h
   cases hx1:asInt x with
   | no=>rw [hx1] at h;cases h
   | int k a=>
    rw [hx1] at h
    cases hy1:asInt y with
    | no=>rw [hy1] at h;cases h
    | int k' b=>
     rw [hy1] at h
     dsimp only at h
     cases hk:eqK k k' with
     | false=>rw [hk] at h;cases h
     | true=>
      rw [hk] at h
      dsimp only at h
      rw [Zc2 hx1] at hx
      rw [Zc2 hy1] at hy
      rw [Zev hx,Zev hy]
      obtain ⟨v',r1,r2⟩:=ih _ v (.int k (Bool.rec a b (Bool.rec (ltI b a) (ltI a b) mx))) l'' h (.int _ _) hl
      refine ⟨v',?_,r2⟩
      rw [← r1]
      simp only [List.foldlM_cons,Sem.run_bind]
      cases mx with
      | true=>
       simp only [if_true,Builtin.max2,Sem.run_pure,Result.andThen_ok,Zhl]
       by_cases hab:a<b <;> simp [hab]
      | false=>
       simp only [Bool.false_eq_true,if_false,Builtin.min2,Sem.run_pure,Result.andThen_ok,Zhl]
       by_cases hab:b<a <;> simp [hab]
theorem Zwh (hs:Sim P γ s w) {o:Oper}{mx:Bool}{ts:Array TypeId}{xs:Array Operand}{as:List AO}{v:AV}{s':St}(hx:Zy5 xs.toList=some as) (ho:o.op=.call { callee:=.builtin (if mx then .max else .min),args:=xs,argTypes:=ts }) (he:Evs γ t ρ xs.toList)
 (h:mnA mx as t s=.ok v s'):OpOk P γ s w ρ o v s':=by
 obtain ⟨l,hl,h⟩:=Za3 h
 have hR:=Zha (γ:=γ) (ρ:=ρ) hx hl he
 cases l with
 | nil=>cases h
 | cons x l=>
  obtain ⟨hm,rfl⟩:=Zru h
  generalize hvs:xs.toList.map ρ=vs at hR
  cases hR with
  | @cons _ x' _ l' h1 h2=>
   obtain ⟨v',r1,r2⟩:=mm_run (P:=P) (w:=w) mx l x v x' l' hm h1 h2
   refine Zag hs v' ?_ r2
   rw [Zav ho]
   cases mx with
   | true=>
    simp only [if_true] at r1 ⊢
    simp only [builtin,Builtin.max_,Array.toList_map,hvs,Sem.run_bind,r1,Result.andThen_ok,Sem.run_pure]
   | false=>
    simp only [Bool.false_eq_true,if_false] at r1 ⊢
    simp only [builtin,Builtin.min_,Array.toList_map,hvs,Sem.run_bind,r1,Result.andThen_ok,Sem.run_pure]
theorem Zz5 (hs:Sim P γ s w) {es:Nat}{x:AV}{x':Value}{cs:List AV}(hx:VR γ x x') (h:Zgl es x s=some cs):
 ∃ p n c vs,x'=.slice p n c∧All2 (VR γ) cs vs∧(∀ v ∈ vs,v.oneCell'=true)∧vs.length=n*es∧(p=none→n=0)∧∀ a,p=some a→∀ j u,vs[j]?=some u→w.cell? (a.add j)=some u:=by
 unfold Zgl at h
 cases hsl:Zi8 x with
 | no=>rw [hsl] at h;cases h
 | sl r i n c=>
  rw [hsl] at h
  rw [Zq4 hsl] at hx
  obtain ⟨L,cc,hL,rfl,_⟩:=slV hx
  obtain ⟨vs,e1,hc,hR,h1⟩:=Zeu hs h hL
  exact ⟨_,n,cc,vs,rfl,hR,h1,e1,(fun e=>by cases e),(fun a e=>by cases e;exact hc)⟩
 | nils=>
  rw [hsl] at h;cases h
  rw [Zko hsl] at hx
  cases hx
  exact ⟨none,0,0,[],rfl,.nil,by simp,by simp,fun _=>rfl,(fun a e=>by cases e)⟩
 | es=>
  rw [hsl] at h;cases h
  rw [Zq5 hsl] at hx
  cases hx with
  | es a c=>exact ⟨some a,0,c,[],rfl,.nil,by simp,by simp,fun _=>rfl,fun a _ j u hu=>by simp at hu⟩
 | fz n c l=>
  rw [hsl] at h
  rw [Zu8 hsl] at hx
  obtain ⟨b,o,cc,cz,vs,rfl,hbz,h2,h3,h4,_,_,h5⟩:=fzV hx
  obtain ⟨us,e1,g2,hR,h1⟩:=Zjm (k:=0) hs hbz h2 h3 h4 h
  rw [Nat.add_zero] at g2
  exact ⟨_,n,cc,us,rfl,hR,h1,e1,(fun e=>by cases e),(fun a e=>by cases e;exact Zkd hs hbz g2)⟩
theorem Zyy (hs:Sim P γ s w) {o:Oper}{T U e es:Nat}{x y:Operand}{a b:AO}{v:AV}{s':St}(hu:P.underlying T=some (.slice e)) (hes:Zdd P e=some es) (hx:aop x=some a) (hy:aop y=some b) (ho:o.op=.call { callee:=.builtin .copy,args:=#[x,y],argTypes:=#[T,U] }) (he:Evs γ t ρ [x,y])
 (h:copyA es a b t s=.ok v s'):OpOk P γ s w ρ o v s':=by
 obtain ⟨u1,hu1,h⟩:=Za5 h
 obtain ⟨u2,hu2,h⟩:=Za5 h
 have h1:=he x (by simp) a u1 hx hu1
 have h2:=he y (by simp) b u2 hy hu2
 have hzero:∀ (p q:Option Addr) (n n' c c':Nat),ρ x=.slice p n c→ρ y=.slice q n' c'→Nat.min n' n=0→(execOp ρ o).run P w=.ok (.value (.int .i64 (0:Nat))) w:=by
  intro p q n n' c c' e1 e2 e3
  rw [Zav ho]
  have hf:(Builtin.firstCells es 0 (.slice q n' c')).run P w=.ok #[] w:=by cases q <;> simp [Builtin.firstCells,loadCells,loadCellsFrom]
  have hl:∀ ty,(Builtin.copy_ #[T,U] ty #[.slice p n c,.slice q n' c']).run P w=.ok (goInt (0:Nat)) w:=by
   intro ty
   simp only [Builtin.copy_,List.getElem?_toArray,List.getElem?_cons_zero,List.getElem?_cons_succ,Sem.run_bind,run_underlying hu,Result.andThen_ok,Builtin.lenOf,Sem.run_pure,Za9 hes,e3,hf]
   cases p <;> simp [storeCells]
  simp only [builtin,List.map_toArray,List.map_cons,List.map_nil,e1,e2,Sem.run_bind,hl,Result.andThen_ok,Sem.run_pure]
  rfl
 rcases Yaa h with ⟨r,i,n,c,rfl,h⟩|⟨rfl,h⟩|⟨rfl,h⟩
 ·obtain ⟨L,cc,hL,hv1,_⟩:=slV h1
  rcases Zi4 h with ⟨r',i',n',c',rfl,h⟩|⟨rfl,h⟩|⟨rfl,h⟩|⟨n',c',l',rfl,h⟩
  ·obtain ⟨cs,hl,h⟩:=Za3 h
   obtain ⟨hst,rfl⟩:=Zne h
   obtain ⟨L',cc',hL',hv2,_⟩:=slV h2
   obtain ⟨vs,e1,hc,hR,h1'⟩:=Zeu hs hl hL'
   obtain ⟨w',hrun,hstp,hsim⟩:=Zfq hs hst hL hR h1'
   refine ⟨γ,w',hstp,hsim,.inl ⟨.int .i64 (Nat.min n' n:Nat),?_,.int _ _⟩⟩
   rw [Zav ho]
   have hlc:=run_loadCells_list (P:=P) w _ vs hc
   rw [e1] at hlc
   have hf:(Builtin.firstCells es (Nat.min n' n) (.slice (some ⟨L'.b,L'.o+i',none⟩) n' cc')).run P w=.ok vs.toArray w:=by
    simp only [Builtin.firstCells];exact hlc
   have hll:∀ ty,(Builtin.copy_ #[T,U] ty #[.slice (some ⟨L.b,L.o+i,none⟩) n cc,.slice (some ⟨L'.b,L'.o+i',none⟩) n' cc']).run P w=.ok (goInt (Nat.min n' n:Nat)) w':=by
    intro ty
    simp only [Builtin.copy_,List.getElem?_toArray,List.getElem?_cons_zero,List.getElem?_cons_succ,Sem.run_bind,run_underlying hu,Result.andThen_ok,Builtin.lenOf,Sem.run_pure,Za9 hes,hf,hrun]
   simp only [builtin,List.map_toArray,List.map_cons,List.map_nil,hv1,hv2,Sem.run_bind,hll,Result.andThen_ok,Sem.run_pure]
   rfl
  ·obtain ⟨rfl,rfl⟩:=Zau h
   generalize hyy:ρ y=vy at h2
   cases h2
   exact Zag hs _ (hzero _ _ _ _ _ _ hv1 hyy (by simp)) (.int _ _)
  ·obtain ⟨rfl,rfl⟩:=Zau h
   generalize hyy:ρ y=vy at h2
   cases h2
   exact Zag hs _ (hzero _ _ _ _ _ _ hv1 hyy (by simp)) (.int _ _)
  ·obtain ⟨cs,hl,h⟩:=Za3 h
   obtain ⟨hst,rfl⟩:=Zne h
   obtain ⟨bz,oz,cc',cz,zs,hv2,hbz,g1,g3,g4,_,_,g5⟩:=fzV h2
   obtain ⟨vs,e1,g2,hR,h1'⟩:=Zjm (k:=0) hs hbz g1 g3 g4 hl
   rw [Nat.add_zero] at g2
   obtain ⟨w',hrun,hstp,hsim⟩:=Zfq hs hst hL hR h1'
   refine ⟨γ,w',hstp,hsim,.inl ⟨.int .i64 (Nat.min n' n:Nat),?_,.int _ _⟩⟩
   rw [Zav ho]
   have hlc:=run_loadCells_list (P:=P) w _ vs (Zkd hs hbz g2)
   rw [e1] at hlc
   have hf:(Builtin.firstCells es (Nat.min n' n) (.slice (some ⟨bz,oz,none⟩) n' cc')).run P w=.ok vs.toArray w:=by
    simp only [Builtin.firstCells];exact hlc
   have hll:∀ ty,(Builtin.copy_ #[T,U] ty #[.slice (some ⟨L.b,L.o+i,none⟩) n cc,.slice (some ⟨bz,oz,none⟩) n' cc']).run P w=.ok (goInt (Nat.min n' n:Nat)) w':=by
    intro ty
    simp only [Builtin.copy_,List.getElem?_toArray,List.getElem?_cons_zero,List.getElem?_cons_succ,Sem.run_bind,run_underlying hu,Result.andThen_ok,Builtin.lenOf,Sem.run_pure,Za9 hes,hf,hrun]
   simp only [builtin,List.map_toArray,List.map_cons,List.map_nil,hv1,hv2,Sem.run_bind,hll,Result.andThen_ok,Sem.run_pure]
   rfl
 all_goals
  obtain ⟨q,n',c',hyv⟩:∃ q n' c',ρ y=.slice q n' c':=by
   rcases Zi4 h with ⟨r',i',n',c',rfl,h⟩|⟨rfl,h⟩|⟨rfl,h⟩|⟨n',c',l',rfl,h⟩
   ·obtain ⟨L',cc',hL',hv2,_⟩:=slV h2;exact ⟨_,_,_,hv2⟩
   ·generalize ρ y=vy at h2;cases h2;exact ⟨_,_,_,rfl⟩
   ·generalize ρ y=vy at h2;cases h2;exact ⟨_,_,_,rfl⟩
   ·obtain ⟨bz,oz,cc',cz,zs,hv2,_⟩:=fzV h2;exact ⟨_,_,_,hv2⟩
  obtain ⟨rfl,rfl⟩:v=Zml 0∧s'=s:=by
   rcases Zi4 h with ⟨r',i',n',c',rfl,h⟩|⟨rfl,h⟩|⟨rfl,h⟩|⟨n',c',l',rfl,h⟩ <;> (cases h;exact ⟨rfl,rfl⟩)
  generalize hxx:ρ x=vx at h1
  cases h1
  exact Zag hs _ (hzero _ _ _ _ _ _ hxx hyv (by simp)) (.int _ _)
theorem Yde (hs:Sim P γ s w) {o:Oper}{T e n:Nat}{z:List AV}{x:Operand}{a:AO}{v:AV}{s':St}(hu:P.underlying T=some (.slice e)) (hn:Zdd P e=some n) (hz:Zfd P e=some z) (h1n:1≤n) (hzl:z.length=n) (hx:aop x=some a)
 (ho:o.op=.call { callee:=.builtin .clear,args:=#[x],argTypes:=#[T] }) (he:Evs γ t ρ [x]) (h:clrA z a t s=.ok v s'):OpOk P γ s w ρ o v s':=by
 obtain ⟨u,hu',h⟩:=Za5 h
 have hv:=he x (by simp) a u hx hu'
 obtain ⟨i,zv,hi,hzz,ha⟩:=Zdw hz
 obtain ⟨y1,y2⟩:=Zi7 (γ:=γ) ha
 have hzs:zv.cells.size=n:=by rw [← hzl];simpa using y1.length.symm
 rcases Yaa h with ⟨r,o',k,c,rfl,h⟩|⟨rfl,h⟩|⟨rfl,h⟩
 ·obtain ⟨hst,rfl⟩:=Zne h
  obtain ⟨L,cc,hL,hv1,_⟩:=slV hv
  obtain ⟨q1,q2⟩:=Zij y1 y2 (by omega) k
  rw [Yau] at hst
  obtain ⟨w',hrun,hstp,hsim⟩:=Zfq hs hst hL q1 q2
  refine ⟨γ,w',hstp,hsim,.inl ⟨.tuple #[],?_,.tup _ _ .nil⟩⟩
  rw [Zav ho]
  have hzc:Builtin.zeroCells zv.cells k=(Array.range (k*zv.cells.size)).map (fun i=>zv.cells[i % zv.cells.size]!):=rfl
  have hl:∀ ty,(Builtin.clear_ #[T] ty #[.slice (some ⟨L.b,L.o+o',none⟩) k cc]).run P w=.ok (.tuple #[]) w':=by
   intro ty
   cases k with
   | zero=>
    have:w'=w:=by simp [storeCells] at hrun;exact hrun.symm
    subst this
    simp [Builtin.clear_,run_underlying hu]
   | succ k=>
    simp only [Builtin.clear_,List.getElem?_toArray,List.getElem?_cons_zero,Sem.run_bind,run_underlying hu,Result.andThen_ok,Zb1 hi hzz,hzc,hrun,Sem.run_pure]
  simp only [builtin,List.map_toArray,List.map_cons,List.map_nil,hv1,Sem.run_bind,hl,Result.andThen_ok,Sem.run_pure]
 ·obtain ⟨rfl,rfl⟩:=Zau h
  generalize hxx:ρ x=vx at hv
  cases hv
  refine Zag hs (.tuple #[]) ?_ (.tup _ _ .nil)
  rw [Zav ho]
  have hl:∀ ty,(Builtin.clear_ #[T] ty #[.slice none 0 0]).run P w=.ok (.tuple #[]) w:=by
   intro ty;simp [Builtin.clear_,run_underlying hu]
  simp only [builtin,List.map_toArray,List.map_cons,List.map_nil,hxx,Sem.run_bind,hl,Result.andThen_ok,Sem.run_pure]
 ·obtain ⟨rfl,rfl⟩:=Zau h
  generalize hxx:ρ x=vx at hv
  cases hv with
  | es ad c=>
   refine Zag hs (.tuple #[]) ?_ (.tup _ _ .nil)
   rw [Zav ho]
   have hl:∀ ty,(Builtin.clear_ #[T] ty #[.slice (some ad) 0 c]).run P w=.ok (.tuple #[]) w:=by
    intro ty;simp [Builtin.clear_,run_underlying hu]
   simp only [builtin,List.map_toArray,List.map_cons,List.map_nil,hxx,Sem.run_bind,hl,Result.andThen_ok,Sem.run_pure]
end
end Go.AM
namespace Go.AM
section
variable {P:Program}{γ:Gam}{s:St}{w:World}{t:AT}{ρ:Operand→Value}
theorem sluV {r i n:Nat}{v':Value}(h:VR γ (.sl r i n none) v'):∃ L cc,γ r=some L∧v'=.slice (some ⟨L.b,L.o+i,none⟩) n cc∧n≤cc∧cc≤maxLen∧(i=0→cc*L.es≤L.sz):=by
 cases h with
 | slu _ _ _ c L hL a b d=>exact ⟨L,c,hL,rfl,a,b,d⟩
theorem Sim.kill (h:Sim P γ s w) {r:Nat}{L:Loc}(hL:γ r=some L):Stp γ s w γ (s.put r .dead) w∧Sim P γ (s.put r .dead) w:=by
 refine ⟨⟨Le.refl γ,fun r L h h'=>(by rw [h] at h';cases h'),by rw [Zbc];exact Nat.le_refl _,Nat.le_refl _,rfl,rfl,rfl,fun _ _ _=>rfl,fun k hk _=>Zcg (fun e=>by rw [e,hL] at hk;cases hk),fun b c h h'=>(by rw [h] at h';cases h')⟩,⟨?_,?_,h.lt,?_,?_,h.fzc,fun k y M hy hya hM=>?_⟩⟩
 rotate_right
 ·rcases Zcw hy with ⟨rfl,rfl⟩|⟨e,hy⟩
  ·simp [alive] at hya
  ·exact h.fzr k y M hy hya hM
 ·intro k y M hy hM
  rcases Zcw hy with ⟨rfl,rfl⟩|⟨e,hy⟩
  ·trivial
  ·exact h.obj k y M hy hM
 ·intro k k' y y' M M' hy hy' ha1 ha2 hM hM' hne
  rcases Zcw hy with ⟨rfl,rfl⟩|⟨e,hy⟩
  ·simp [alive] at ha1
  ·rcases Zcw hy' with ⟨rfl,rfl⟩|⟨e',hy'⟩
   ·simp [alive] at ha2
   ·exact h.inj k k' y y' M M' hy hy' ha1 ha2 hM hM' hne
 ·intro k hk;rw [Zbc] at hk;exact h.nx k hk
 ·intro k y hy
  rw [Zbc]
  rcases Zcw hy with ⟨rfl,_⟩|⟨_,hy⟩
  ·refine Nat.lt_of_not_le fun hle=>?_
   rw [h.nx k hle] at hL;cases hL
  ·exact h.dom k y hy
theorem Zk9 (h:Sim P γ s w) (e:Nat) (cs:List AV) (vs:Array Value) (us:List Value) (es:Nat) (hes:Zdd P e=some es) (hR:All2 (VR γ) cs us) (h1:∀ v ∈ us,v.oneCell'=true) (hpre:∀ (i:Nat) v,us[i]?=some v→vs[i]?=some v) (hle:us.length≤vs.size) (hall:∀ v ∈ vs.toList,v.oneCell'=true):
 Stp γ s w (ext γ s.next ⟨w.heap.size,0,vs.size,es⟩) (s.alloc (.row e cs)) (w.alloc (.cells vs e))∧Sim P (ext γ s.next ⟨w.heap.size,0,vs.size,es⟩) (s.alloc (.row e cs)) (w.alloc (.cells vs e)):=by
 refine h.alloc _ _ _ _ ?_
 have hl:=hR.length
 refine ⟨vs,?_,rfl,rfl,hes,by omega,?_,hall⟩
 ·show (w.heap.push _)[w.heap.size]?=_;simp
 ·intro i v hi
  obtain ⟨v',hv',hr⟩:=hR.get hi
  exact ⟨v',hpre i v' hv',hr.mono (Zgr (h.nx _ (Nat.le_refl _))),h1 v' (List.mem_of_getElem? hv')⟩
theorem Zc7 {T ty e:Nat}{i:TypeInfo}(ht:P.underlying T=some (.slice e)) (hi:P.info? e=some i) (p q:Option Addr) (n c c':Nat) (hnc:n≤c):
 (Builtin.append_ #[T,T] ty #[.slice p n c,.slice q 0 c']).run P w=.ok (.slice p n c) w:=by
 have hf:(Builtin.firstCells i.size 0 (.slice q 0 c')).run P w=.ok #[] w:=by cases q <;> simp [Builtin.firstCells,loadCells,loadCellsFrom]
 cases p <;> simp [Builtin.append_,run_underlying ht,Go.sizeOf,typeInfo,hi,Builtin.lenOf,hnc,hf,storeCells]
theorem Zi5 {T ty e:Nat}{i:TypeInfo}(ht:P.underlying T=some (.slice e)) (hi:P.info? e=some i) (b a:Addr) (n c m c':Nat) (news:List Value) (hl:news.length=m*i.size) (hnews:∀ j u,news[j]?=some u→w.cell? (a.add j)=some u)
 (hroom:n+m≤c) {w':World}(hst:(storeCells (b.add (n*i.size)) news).run P w=.ok () w'):
 (Builtin.append_ #[T,T] ty #[.slice (some b) n c,.slice (some a) m c']).run P w=.ok (.slice (some b) (n+m) c) w':=by
 have hlc:=run_loadCells_list (P:=P) w a news hnews
 rw [hl] at hlc
 have hf:(Builtin.firstCells i.size m (.slice (some a) m c')).run P w=.ok news.toArray w:=by simp only [Builtin.firstCells];exact hlc
 simp [Builtin.append_,run_underlying ht,Go.sizeOf,typeInfo,hi,Builtin.lenOf,hroom,hf,hst]
theorem Ydy (hs:Sim P γ s w) {o:Oper}{T e es by_:Nat}{z:List AV}{x y:Operand}{a b:AO}{v:AV}{s':St}(hu:P.underlying T=some (.slice e)) (hes:Zdd P e=some es) (hby:Yhn P e=some by_) (hz:Zfd P e=some z) (h1es:1≤es) (hbl:by_≤4096) (hzl:z.length=es)
 (hx:aop x=some a) (hy:aop y=some b) (ho:o.op=.call { callee:=.builtin .append,args:=#[x,y],argTypes:=#[T,T] }) (he:Evs γ t ρ [x,y]) (h:appA e es a b t s=.ok v s'):OpOk P γ s w ρ o v s':=by
 obtain ⟨u1,hu1,h⟩:=Za5 h
 obtain ⟨u2,hu2,h⟩:=Za5 h
 obtain ⟨cs,hsrc,h⟩:=Za3 h
 have h1:=he x (by simp) a u1 hx hu1
 have h2:=he y (by simp) b u2 hy hu2
 obtain ⟨q,m,c',news,hyv,hRn,h1n,hln,hqn,hcn⟩:=Zz5 hs h2 hsrc
 obtain ⟨i,zv,hi,hzz,ha⟩:=Zdw hz
 obtain ⟨y1,y2⟩:=Zi7 (γ:=γ) ha
 have his:i.size=es:=by simp [Zdd,hi] at hes;exact hes
 have hib:i.bytes=by_:=by simp [Yhn,hi] at hby;exact hby
 have hzs:zv.cells.size=es:=by rw [← hzl];simpa using y1.length.symm
 have hz1:∀ k,∀ v ∈ (Builtin.zeroCells zv.cells k).toList,v.oneCell'=true:=fun k=>(Zij y1 y2 (by omega) k).2
 have hrunb:∀ {xv:Value}{r:Value}{w':World},ρ x=xv→(∀ ty,(Builtin.append_ #[T,T] ty #[xv,.slice q m c']).run P w=.ok r w')→(execOp ρ o).run P w=.ok (.value r) w':=by
  intro xv r w' e1 hr
  rw [Zav ho]
  simp only [builtin,List.map_toArray,List.map_cons,List.map_nil,e1,hyv,Sem.run_bind,hr,Result.andThen_ok,Sem.run_pure]
 have hcl:=hRn.length
 cases cs with
 | nil=>
  have hm:m=0:=by
   have e0:news.length=0:=by simpa using hcl.symm
   rcases Nat.mul_eq_zero.1 (hln.symm.trans e0) with e|e <;> omega
  subst hm
  rcases Zi4 h with ⟨r,j,n,c,rfl,h⟩|⟨rfl,h⟩|⟨rfl,h⟩|⟨n,c,l0,rfl,h⟩
  rotate_right
  ·obtain ⟨rfl,rfl⟩:=Zau h
   obtain ⟨bz,oz,cc,cz,zs,hxx,_,_,_,_,hnc,_,_⟩:=fzV h1
   exact Zag hs _ (hrunb hxx fun ty=>Zc7 hu hi _ _ _ _ _ hnc) (by rw [← hxx];exact h1)
  ·obtain ⟨rfl,rfl⟩:=Zau h
   generalize hxx:ρ x=vx at h1
   have h1':=h1
   cases h1 with
   | sl _ _ _ c L hL hnc=>exact Zag hs _ (hrunb hxx fun ty=>Zc7 hu hi _ _ _ _ _ hnc) h1'
   | slu _ _ _ c L hL hnc=>exact Zag hs _ (hrunb hxx fun ty=>Zc7 hu hi _ _ _ _ _ hnc) h1'
  ·obtain ⟨rfl,rfl⟩:=Zau h
   generalize hxx:ρ x=vx at h1
   cases h1
   exact Zag hs _ (hrunb hxx fun ty=>Zc7 hu hi _ _ _ _ _ (Nat.le_refl _)) .nils
  ·obtain ⟨rfl,rfl⟩:=Zau h
   generalize hxx:ρ x=vx at h1
   cases h1 with
   | es ad c=>exact Zag hs _ (hrunb hxx fun ty=>Zc7 hu hi _ _ _ _ _ (Nat.zero_le _)) (.es _ _)
 | cons c0 cs0=>
  have hh:(SR.rec .fail (fun r o n c=>app1 e es (c0::cs0) (Nat.div (Zd0 (c0::cs0)) es) r o n c s) (Ze9 e (Nat.div (Zd0 (c0::cs0)) es) (c0::cs0) s) .fail (fun n c l=>appF e es (c0::cs0) (Nat.div (Zd0 (c0::cs0)) es) n c l s) (Zi8 u1):RV)=.ok v s':=h
  clear h
  have hcpos:1≤(c0::cs0).length:=by simp
  generalize c0::cs0=cs at *
  have hm0:1≤m:=by
   rcases Nat.eq_zero_or_pos m with e|e
   ·subst e;simp at hln;rw [hln] at hcl;simp at hcl;rw [hcl] at hcpos;simp at hcpos
   ·exact e
  obtain ⟨ad,rfl⟩:∃ ad,q=some ad:=by
   cases q with
   | none=>have:=hqn rfl;omega
   | some ad=>exact ⟨ad,rfl⟩
  have hcell:=hcn ad rfl
  have hlm:Zd0 cs / es=m:=by rw [Zbu,hcl,hln];exact Nat.mul_div_cancel _ (by omega)
  have hlm':Nat.div (Zd0 cs) es=m:=hlm
  rw [← his] at hln
  rw [hlm'] at hh
  -- a new array
  have grow:∀ (ad0:Addr) (n cc:Nat) (old:List AV) (olds:List Value),ρ x=.slice (some ad0) n cc→olds.length=n*i.size→(∀ j u,olds[j]?=some u→w.cell? (ad0.add j)=some u)→All2 (VR γ) old olds→(∀ v ∈ olds,v.oneCell'=true)→cc<n+m→n+m≤1000000→∀ s1,Sim P γ s1 w→Stp γ s w γ s1 w→Zn1 (.row e (Zgx old cs)) (fun r=>.sl r 0 (n+m) none) s1=.ok v s'→OpOk P γ s w ρ o v s':=by
   intro ad0 n cc old olds hxv e1' hco hRo h1o hlt hbm s1 hs1 hst1 hok
   obtain ⟨rfl,rfl⟩:=Zau hok
   have hmb:(n+m)*i.bytes≤1000000*4096:=by rw [hib];exact Nat.mul_le_mul hbm hbl
   have hrun:=fun ty=>run_append_grow (P:=P) w T ty e i zv hu hi hzz ad0 n cc olds e1' hco ad m c' news hln hcell hlt (by omega) (growslice_fits hlt (by omega))
   have hRa:All2 (VR γ) (Zgx old cs) (olds++news):=by rw [Zda];exact hRo.append hRn
   obtain ⟨hst,hsim⟩:=Zk9 hs1.drew e (Zgx old cs) (olds.toArray++news.toArray++Builtin.zeroCells zv.cells (grownCap w (n+m) cc e-(n+m))) (olds++news) es hes hRa
    (by intro u hu;rcases List.mem_append.1 hu with hu|hu;exact h1o u hu;exact h1n u hu)
    (fun k u hk=>by
      rw [Array.getElem?_append_left (by have:=(List.getElem?_eq_some_iff.1 hk).1;simpa using this)]
      simpa using hk) (by simp) (by
      intro u hu
      simp only [Array.toList_append,List.append_assoc,List.mem_append] at hu
      rcases hu with hu|hu|hu
      ·exact h1o u hu
      ·exact h1n u hu
      ·exact hz1 _ u hu)
   refine ⟨_,_,(hst1.trans Stp.drew).trans hst,hsim,.inl ⟨_,hrunb hxv hrun,?_⟩⟩
   refine .slu s1.next 0 (n+m) _ _ (Za8 _ _ _) (grownCap_ge _ _ _ _) (grownCap_le_maxLen _ _ _ _ (by unfold maxLen;omega)) (fun _=>?_)
   have hge:=grownCap_ge w (n+m) cc e
   simp only [Array.size_append,List.size_toArray,size_zeroCells,hln,e1',his,hzs]
   rw [← Nat.add_mul,← Nat.add_mul]
   exact Nat.mul_le_mul_right _ (by omega)
  rcases Zi4 hh with ⟨r,j,n,c,rfl,hk⟩|⟨rfl,hk⟩|⟨rfl,hk⟩|⟨n,c,l0,rfl,hk⟩
  ·obtain ⟨old,hold,hk⟩:=Za3 hk
   obtain ⟨L,cc,hL,hxv,hck⟩:=slV h1
   obtain ⟨olds,e1,hco,hRo,h1o⟩:=Zeu hs hold hL
   have e1':olds.length=n*i.size:=by rw [his];exact e1
   have grow:=grow _ n cc old olds hxv e1' hco hRo h1o
   cases c with
   | some c=>
    have hcc:=hck c rfl
    subst hcc
    change (Bool.rec (Ze9 e (n+m) (Zgx old cs) s) (Yei (.sl r j (n+m) (some cc)) (storeAt r (j+n*es) cs s)) (Nat.ble (n+m) cc):RV)=.ok v s' at hk
    cases hb:Nat.ble (n+m) cc with
    | true=>
     rw [hb] at hk
     obtain ⟨hst,rfl⟩:=Zne hk
     have hle:=Nat.le_of_ble_eq_true hb
     obtain ⟨w',hrun,hstp,hsim⟩:=Zfq hs hst hL hRn h1n
     refine ⟨γ,w',hstp,hsim,.inl ⟨_,hrunb hxv fun ty=>Zi5 hu hi ⟨L.b,L.o+j,none⟩ ad n cc m c' news hln hcell hle (by rw [Zcf,his,Nat.add_assoc];exact hrun),.sl _ _ _ _ L hL hle⟩⟩
    | false=>
     rw [hb] at hk
     obtain ⟨hbd,hk⟩:=Zco hk
     have hnle:¬ (n+m≤cc):=fun e=>by rw [Nat.ble_eq_true_of_le e] at hb;cases hb
     exact grow (by omega) (Nat.le_of_ble_eq_true hbd) s hs (.refl _ _ _) hk
   | none=>
    obtain ⟨hcond,hk1⟩:=Zco hk
    obtain ⟨hbd,hk2⟩:=Zco hk1
    have hbm:=Nat.le_of_ble_eq_true hbd
    simp only [Bool.and_eq_true] at hcond
    have hj:=Nat.eq_of_beq_eq_true hcond.1
    by_cases hroom:n+m≤cc
    ·-- in its own array
     have hcs:cc*L.es≤L.sz∧cc≤maxLen:=by
      obtain ⟨L',c2,hL',hx2,_,hcm,hcs⟩:=sluV h1
      rw [hL] at hL';cases hL'
      rw [hxv] at hx2
      cases hx2
      exact ⟨hcs hj,hcm⟩
     have a1:old.length=n*es:=hRo.length.trans e1
     obtain ⟨rs,hrow⟩:∃ rs,s.get r=some (.row e rs):=by
      have he2:=hcond.2
      unfold Zsq at he2
      cases hra:Zf1 r s with
      | no=>rw [hra] at he2;cases he2
      | row e' rs=>
       rw [hra] at he2
       have:e'=e:=Nat.eq_of_beq_eq_true he2
       subst this
       exact ⟨rs,Zd4 hra⟩
     obtain ⟨cur,hc,ho0,hsz,hes',hlen,hv,hall⟩:=hs.rowA hrow hL
     have hees:L.es=es:=by rw [hes] at hes';exact (Option.some.inj hes').symm
     have hfit:n*es+news.length≤cur.size:=by
      rw [hln,his,← Nat.add_mul,hsz]
      refine Nat.le_trans (Nat.mul_le_mul_right _ hroom) ?_
      rw [← hees];exact hcs.1
     have hst:=run_storeCells_at (P:=P) L.b (n*es) e news 0 cur w hc (by omega) h1n
     simp only [Nat.add_zero] at hst
     have hrun:=fun ty=>Zi5 (ty:=ty) hu hi ⟨L.b,L.o+j,none⟩ ad n cc m c' news hln hcell hroom (by rw [Zcf,ho0,hj,his,Nat.zero_add];exact hst)
     obtain ⟨rfl,rfl⟩:=Zau hk2
     have hle2:=Zgr (γ:=γ) (L:=L) (hs.nx s.next (Nat.le_refl _))
     obtain ⟨hstp,hsim⟩:=hs.move (w':=w.setRow L.b (cur.toList.take (n*es)++news++cur.toList.drop (n*es+news.length)).toArray) hrow hL rfl
      (o:=.row e (Zgx old cs)) (fun b hb=>setRow_other w L.b b _ hb) (Zm6 _ _ _) rfl rfl rfl (by
        refine ⟨_,setRow_heap w L.b cur _ e _ hc,ho0,?_,hes',?_,?_,fun v' hv'=>?_⟩
        rotate_right
        ·simp only [List.append_assoc,List.mem_append] at hv'
         rcases hv' with hv'|hv'|hv'
         ·exact hall _ (List.mem_of_mem_take hv')
         ·exact h1n _ hv'
         ·exact hall _ (List.mem_of_mem_drop hv')
        ·simp;omega
        ·rw [Zda,List.length_append,a1]
         simp only [List.size_toArray,List.length_append,List.length_take,List.length_drop,Array.length_toList]
         omega
        ·intro k u hku
         rw [Zda] at hku
         obtain ⟨u',hu',hRu⟩:=(hRo.append hRn).get hku
         have hone:u'.oneCell'=true:=by
          rcases List.mem_append.1 (List.mem_of_getElem? hu') with hm|hm
          ·exact h1o _ hm
          ·exact h1n _ hm
         refine ⟨u',?_,hRu.mono hle2,hone⟩
         rw [List.getElem?_toArray]
         by_cases hkn:k<n*es
         ·rw [List.getElem?_append_left (by rw [e1];exact hkn)] at hu'
          have hcu:=hco k u' hu'
          rw [Zcf,ho0,hj] at hcu
          simp [World.cell?,hc] at hcu
          rw [List.append_assoc,List.getElem?_append_left (by simp;omega),List.getElem?_take,if_pos hkn]
          simpa using hcu
         ·rw [List.getElem?_append_right (by rw [e1];exact Nat.le_of_not_lt hkn),e1] at hu'
          have hkl:k-n*es<news.length:=(List.getElem?_eq_some_iff.1 hu').1
          have htl:(cur.toList.take (n*es)).length=n*es:=by rw [List.length_take,Array.length_toList];exact Nat.min_eq_left (by omega)
          rw [List.append_assoc,List.getElem?_append_right (by rw [htl];omega),htl,List.getElem?_append_left hkl]
          exact hu')
     refine ⟨_,_,hstp,hsim,.inl ⟨_,hrunb hxv hrun,?_⟩⟩
     rw [hj]
     have hnx:(s.put r .dead).next=s.next:=Zbc _ _ _
     rw [hnx]
     exact .slu s.next 0 (n+m) cc L (Za8 _ _ _) hroom hcs.2 (fun _=>hcs.1)
    ·obtain ⟨hq1,hq2⟩:=hs.kill (r:=r) (by assumption)
     exact grow (by omega) hbm _ hq2 hq1 hk2
  ·obtain ⟨hbound,hk⟩:=Zco hk
   obtain ⟨rfl,rfl⟩:=Zau hk
   have hbm:=Nat.le_of_ble_eq_true hbound
   generalize hxx:ρ x=vx at h1
   cases h1
   have hmb:m*i.bytes≤1000000*4096:=by rw [hib];exact Nat.mul_le_mul hbm hbl
   have hrun:=fun ty=>run_append_nil (P:=P) w T ty e i zv hu hi hzz ad m c' news hln hcell (by omega) (by omega) (by omega)
   obtain ⟨hst,hsim⟩:=Zk9 hs.drew e cs (news.toArray++Builtin.zeroCells zv.cells (grownCap w m 0 e-m)) news es hes hRn h1n
    (fun k u hk=>by rw [Array.getElem?_append_left (by have:=(List.getElem?_eq_some_iff.1 hk).1;simpa using this)];simpa using hk) (by simp) (by
      intro u hu
      simp only [Array.toList_append,List.mem_append] at hu
      rcases hu with hu|hu
      ·exact h1n u hu
      ·exact hz1 _ u hu)
   refine ⟨_,_,Stp.drew.trans hst,hsim,.inl ⟨_,hrunb hxx hrun,?_⟩⟩
   refine .slu s.next 0 m _ _ (Za8 _ _ _) (grownCap_ge _ _ _ _) (grownCap_le_maxLen _ _ _ _ (by unfold maxLen;omega)) (fun _=>?_)
   have hge:=grownCap_ge w m 0 e
   simp only [Array.size_append,List.size_toArray,size_zeroCells,hln,his,hzs]
   rw [← Nat.add_mul]
   exact Nat.mul_le_mul_right _ (by omega)
  ·cases hk
  ·obtain ⟨c,rfl,hk⟩:=Za3 hk
   obtain ⟨bz,oz,cc,cz,zs,hxx,hbz,g1,g3,g4,hnc,hck,g5⟩:=fzV h1
   obtain ⟨hc0,hk⟩:=Zco hk
   have hcc:cc=c:=by
    cases c with
    | zero=>cases hc0
    | succ k=>exact hck.1
   subst hcc
   change (Bool.rec (Option.rec .fail (fun old=>Ze9 e (n+m) (Zgx old cs) s) (Zdf (Nat.mul n es) l0)) .fail (Nat.ble (n+m) cc):RV)=.ok v s' at hk
   cases hb:Nat.ble (n+m) cc with
   | true=>rw [hb] at hk;cases hk
   | false=>
    rw [hb] at hk
    obtain ⟨old,hold,hk⟩:=Za3 hk
    obtain ⟨olds,e1,g2,hRo,h1o⟩:=Zjm (k:=0) hs hbz g1 g3 g4 hold
    rw [Nat.add_zero] at g2
    obtain ⟨hbd,hk⟩:=Zco hk
    have hnle:¬ (n+m≤cc):=fun e=>by rw [Nat.ble_eq_true_of_le e] at hb;cases hb
    exact grow _ n cc old olds hxx (by rw [his];exact e1) (Zkd hs hbz g2) hRo h1o (by omega) (Nat.le_of_ble_eq_true hbd) s hs (.refl _ _ _) hk
end
end Go.AM
namespace Go.AM
section
variable {P:Program}{γ:Gam}{s:St}{w:World}{t:AT}{ρ:Operand→Value}
abbrev EntR (γ:Gam) (x:AV×AV×Nat) (m:MapEntry):Prop:=VR γ x.1 m.key∧VR γ x.2.1 m.val∧m.born=x.2.2
theorem Zpq {a b:AV}{c:Bool}(h:Zsp a b=some c):∃ k x y,a=.int k x∧b=.int k y∧c=(x == y):=by
 unfold Zsp at h
 split at h
 ·rename_i k x k' y
  cases hk:eqK k k' with
  | false=>rw [hk] at h;cases h
  | true=>rw [hk] at h;cases h;cases Zh3 hk;exact ⟨k,x,y,rfl,rfl,Zkh _ _⟩
 ·cases h
theorem Zn3 {kk:IntKind}{k:AV}{k':Value}(hk:VR γ k k'):∀ {es:List (AV×AV×Nat)}{ms:List MapEntry}(i:Nat),All2 (EntR γ) es ms→Zo0 k es=some none→Instr.findNow (.int kk) k' ms i=some none:=by
 intro es
 induction es with
 | nil=>intro ms i h _;cases h;rfl
 | cons x es ih=>
  intro ms i h hf
  cases h with
  | @cons _ m _ ms' h1 h2=>
   obtain ⟨xk,xv,xb⟩:=x
   simp only [Zo0] at hf
   cases he:Zsp k xk with
   | none=>rw [he] at hf;cases hf
   | some c=>
    rw [he] at hf
    obtain ⟨q,a,b,rfl,rfl,hc⟩:=Zpq he
    have e1:=Zev hk
    have e2:=Zev h1.1
    cases c with
    | true=>cases hf
    | false=>
     simp only [Instr.findNow,e1,e2,Instr.sameNow,if_true,← hc]
     rw [← e1];exact ih (i+1) h2 hf
theorem Zn2 {kk:IntKind}{k v:AV}{k':Value}(hk:VR γ k k'):∀ {es:List (AV×AV×Nat)}{ms:List MapEntry}(i:Nat),All2 (EntR γ) es ms→Zo0 k es=some (some v)→
 ∃ j m,Instr.findNow (.int kk) k' ms i=some (some (i+j,m.val))∧ms[j]?=some m∧m.key=k'∧(∃ q a,k'=.int q a)∧VR γ v m.val∧
  (∀ x x' ,VR γ x x'→All2 (EntR γ) (setK k x es) (ms.set j { m with key:=k',val:=x' }))∧All2 (EntR γ) (Yeo k es) (ms.eraseIdx j):=by
 intro es
 induction es with
 | nil=>intro ms i _ hf;cases hf
 | cons x es ih=>
  intro ms i h hf
  cases h with
  | @cons _ m _ ms' h1 h2=>
   obtain ⟨xk,xv,xb⟩:=x
   simp only [Zo0] at hf
   cases he:Zsp k xk with
   | none=>rw [he] at hf;cases hf
   | some c=>
    rw [he] at hf
    obtain ⟨q,a,b,rfl,rfl,hc⟩:=Zpq he
    have e1:=Zev hk
    have e2:=Zev h1.1
    cases c with
    | true=>
     cases hf
     have hab:a=b:=by simpa using hc.symm
     subst hab
     refine ⟨0,m,?_,by simp,by rw [e1,e2],⟨q,a,e1⟩,h1.2.1,?_,?_⟩
     ·simp [Instr.findNow,e1,e2,Instr.sameNow]
     ·intro x x' hx
      simp only [setK,he,List.set_cons_zero]
      exact .cons ⟨hk,hx,h1.2.2⟩ h2
     ·simp only [Yeo,he,List.eraseIdx_cons_zero];exact h2
    | false=>
     obtain ⟨j,m',r1,r2,r3,r4,r5,r6,r7⟩:=ih (i+1) h2 hf
     refine ⟨j+1,m',?_,by simpa using r2,r3,r4,r5,?_,?_⟩
     ·simp only [Instr.findNow,e1,e2,Instr.sameNow,if_true,← hc]
      rw [← e1,r1]
      congr 3
      omega
     ·intro x x' hx
      simp only [setK,he,List.set_cons_succ]
      exact .cons h1 (r6 x x' hx)
     ·simp only [Yeo,he,List.eraseIdx_cons_succ]
      exact .cons h1 r7
theorem Zd7 {r c:Nat}{es:List (AV×AV×Nat)}(h:mapAt r s=some (es,c)):s.get r=some (.map es c):=by
 unfold mapAt at h
 cases hg:s.get r with
 | none=>rw [hg] at h;cases h
 | some o=>rw [hg] at h;cases o <;> first|(cases h;rfl)|cases h
theorem Zc6 {kt:Nat}{kk:IntKind}(hu:P.underlying kt=some (.int kk)) (b:Bool) (v:Value):(Instr.checkKey b 10000 kt v).run P w=.ok () w:=by
 show (Instr.checkKey b (9999+1) kt v).run P w=_
 unfold Instr.checkKey
 simp only [Sem.run_bind,run_underlying hu,Result.andThen_ok]
 rfl
theorem Zdy {kt:Nat}{kk:IntKind}(hu:P.underlying kt=some (.int kk)) {k:Value}{ms:List MapEntry}{r:Option (Nat×Value)}(h:Instr.findNow (.int kk) k ms 0=some r):(Instr.findKey kt k ms).run P w=.ok r w:=by
 simp only [Instr.findKey,Sem.run_bind,run_underlying hu,Result.andThen_ok,h,Sem.run_pure]
theorem Zb2 {r c:Nat}{ms:Array MapEntry}(h:w.heap[r]?=some (.map ms c)):(getObj r).run P w=.ok (.map ms c) w:=by
 simp [getObj,Sem.run,h]
theorem Zdo {r c:Nat}{ms:Array MapEntry}(o:Obj) (h:w.heap[r]?=some (.map ms c)):(setObj r o).run P w=.ok () { w with heap:=w.heap.setIfInBounds r o }:=by
 simp [setObj,Sem.run,h]
theorem Zk0 (hs:Sim P γ s w) {r:Nat}{L:Loc}{x o:AObj}{O:Obj}(hx:s.get r=some x) (hL:γ r=some L) (ha:alive x=true) (ho:ObjR P γ L o (w.heap.setIfInBounds L.b O)):
 Stp γ s w γ (s.put r o) { w with heap:=w.heap.setIfInBounds L.b O }∧Sim P γ (s.put r o) { w with heap:=w.heap.setIfInBounds L.b O }:=
 hs.turn hx hL ha (fun b hb=>by show (w.heap.setIfInBounds L.b O)[b]?=_;rw [Array.getElem?_setIfInBounds,if_neg (fun e=>hb e.symm)]) (by simp) rfl rfl rfl ho
theorem Zui {o:Oper}{ty:Nat}{v:AV}{s':St}(ho:o.op=.makeMap ty none) (h:Yih t s=.ok v s'):Fresh P γ w ρ o s v s':=by
 obtain ⟨rfl,rfl⟩:=Zau h
 refine ⟨.map [] 0,.map,.map #[] 0,0,0,.map (some w.heap.size),rfl,rfl,?_,fun γ' r hle hr=>⟨⟨#[],by show (w.heap.push _)[w.heap.size]?=_;simp,.nil⟩,.map r _ hr⟩⟩
 simp only [execOp,ho,Instr.makeMap,Option.map_none,Sem.run_bind,Zf4,Result.andThen_ok,Sem.run_pure]
theorem Zyf (hs:Sim P γ s w) {o:Oper}{T kt e:Nat}{x:Operand}{a:AO}{v:AV}{s':St}(hu:P.underlying T=some (.map kt e)) (hx:aop x=some a) (ho:o.op=.call { callee:=.builtin .len,args:=#[x],argTypes:=#[T] }) (he:Evs γ t ρ [x])
 (h:lenmA a t s=.ok v s'):OpOk P γ s w ρ o v s':=by
 obtain ⟨u,hu',h⟩:=Za5 h
 have hv:=he x (by simp) a u hx hu'
 rcases Zpj h with ⟨r,rfl,hk⟩|⟨rfl,hk⟩
 ·obtain ⟨⟨es,c⟩,hm,hk⟩:=Za3 hk
  obtain ⟨rfl,rfl⟩:=Zau hk
  generalize hxx:ρ x=vx at hv
  cases hv with
  | map _ L hL=>
   obtain ⟨ms,hms,hR⟩:=hs.obj r _ L (Zd7 hm) hL
   refine Zag hs (.int .i64 ms.size) ?_ ?_
   ·rw [Zav ho]
    have hl:∀ ty,(Builtin.len_ #[T] ty #[.map (some L.b)]).run P w=.ok (goInt ms.size) w:=fun ty=>by simp [Builtin.len_,run_underlying hu,Zb2 hms]
    simp only [builtin,List.map_toArray,List.map_cons,List.map_nil,hxx,Sem.run_bind,hl,Result.andThen_ok,Sem.run_pure]
    rfl
   ·have:=hR.length
    simp at this
    rw [Zbu,this];exact .int _ _
 ·obtain ⟨rfl,rfl⟩:=Zau hk
  generalize hxx:ρ x=vx at hv
  cases hv
  refine Zag hs (.int .i64 (0:Nat)) ?_ (.int _ _)
  rw [Zav ho]
  have hl:∀ ty,(Builtin.len_ #[T] ty #[.map none]).run P w=.ok (goInt (0:Nat)) w:=fun ty=>by simp [Builtin.len_,run_underlying hu]
  simp only [builtin,List.map_toArray,List.map_cons,List.map_nil,hxx,Sem.run_bind,hl,Result.andThen_ok,Sem.run_pure]
  rfl
theorem Zrq (q:IntKind) (a:Int):Instr.sameBits 10000 (.int q a) (.int q a)=true:=by simp [Instr.sameBits]
theorem Zpi (hs:Sim P γ s w) {o:Oper}{ty kt e:Nat}{kk:IntKind}{x y z:Operand}{a b c:AO}{v:AV}{s':St}(hd:o.dst=none) (hu:P.underlying ty=some (.map kt e)) (hku:P.underlying kt=some (.int kk)) (hx:aop x=some a) (hy:aop y=some b) (hz:aop z=some c)
 (ho:o.op=.mapUpdate ty x y z∨o.op=.insert ty x y z) (he:Evs γ t ρ [x,y,z]) (h:msetA a b c t s=.ok v s'):OpOk P γ s w ρ o v s':=by
 obtain ⟨u1,hu1,h⟩:=Za5 h
 obtain ⟨u2,hu2,h⟩:=Za5 h
 obtain ⟨u3,hu3,h⟩:=Za5 h
 have h1:=he x (by simp) a u1 hx hu1
 have h2:=he y (by simp) b u2 hy hu2
 have h3:=he z (by simp) c u3 hz hu3
 rcases Zpj h with ⟨r,rfl,hk⟩|⟨rfl,hk⟩
 ·obtain ⟨⟨es,cl⟩,hm,hk⟩:=Za3 hk
  obtain ⟨f,hf,hk⟩:=Za3 hk
  have hg:=Zd7 hm
  obtain ⟨L,hL,hxv⟩:∃ L,γ r=some L∧ρ x=.map (some L.b):=by
   generalize ρ x=vx at h1
   cases h1 with
   | map _ L hL=>exact ⟨L,hL,rfl⟩
  obtain ⟨ms,hms,hR⟩:=hs.obj r _ L hg hL
  have hlt:=hs.lt r L hL
  cases f with
  | none=>
   obtain ⟨rfl,rfl⟩:=Zau hk
   have hfn:=Zn3 (kk:=kk) h2 0 hR hf
   obtain ⟨hst,hsim⟩:=Zk0 (O:=.map (ms.push { key:=ρ y,val:=ρ z,born:=cl }) (cl+1)) (o:=.map (Zgx es [(u2,u3,cl)]) (cl+1)) hs hg hL rfl
    ⟨_,by rw [Array.getElem?_setIfInBounds,if_pos rfl,if_pos hlt],by rw [Zda,Array.toList_push];exact hR.append (.cons ⟨h2,h3,rfl⟩ .nil)⟩
   refine ⟨γ,_,hst,hsim,.inr ⟨?_,hd⟩⟩
   rcases ho with ho|ho <;>
    simp only [execOp,ho,Instr.mapUpdate,Sem.run_bind,run_underlying hu,Result.andThen_ok,hxv,Zb2 hms,Zc6 hku,Zdy hku hfn,Zdo _ hms,Sem.run_pure]
  | some w0=>
   obtain ⟨rfl,rfl⟩:=Zau hk
   obtain ⟨j,m,r1,r2,r3,⟨q,n,r4⟩,r5,r6,r7⟩:=Zn2 (kk:=kk) h2 0 hR hf
   rw [Nat.zero_add] at r1
   have hjl:j<ms.size:=by have:=(List.getElem?_eq_some_iff.1 r2).1;simpa using this
   have hjm:ms[j]?=some m:=by simpa using r2
   obtain ⟨hst,hsim⟩:=Zk0 (O:=.map (ms.modify j fun e=>{ e with key:=ρ y,val:=ρ z }) cl) (o:=.map (setK u2 u3 es) cl) hs hg hL rfl
    ⟨_,by rw [Array.getElem?_setIfInBounds,if_pos rfl,if_pos hlt],by
      have e1:(ms.modify j fun e=>{ e with key:=ρ y,val:=ρ z }).toList=ms.toList.set j { m with key:=ρ y,val:=ρ z }:=by
       apply List.ext_getElem?
       intro k
       rw [Array.getElem?_toList,Array.getElem?_modify,List.getElem?_set]
       by_cases hjk:j=k
       ·subst hjk
        have hmj:ms[j]=m:=by
         have h0:=hjm
         rw [Array.getElem?_eq_getElem hjl] at h0
         exact Option.some.inj h0
        simp [hjl,hmj]
       ·simp [hjk]
      rw [e1];exact r6 _ _ h3⟩
   refine ⟨γ,_,hst,hsim,.inr ⟨?_,hd⟩⟩
   have hks:(Instr.keyThatStays (((ms[j]?).map (·.key)).getD (ρ y)) (ρ y)).run P w=.ok (ρ y) w:=by
    simp only [hjm,Option.map_some,Option.getD_some,r3,Instr.keyThatStays,r4,Zrq,if_true,Sem.run_pure]
   rcases ho with ho|ho <;>
    simp only [execOp,ho,Instr.mapUpdate,Sem.run_bind,run_underlying hu,Result.andThen_ok,hxv,Zb2 hms,Zc6 hku,Zdy hku r1,hks,Zdo _ hms,Sem.run_pure]
 ·cases hk
theorem Zyb (hs:Sim P γ s w) {o:Oper}{ty kt e:Nat}{kk:IntKind}{x y:Operand}{a b:AO}{i:TypeInfo}{zv:Value}{z v:AV}{ok:Bool}{s':St}(hu:P.underlying ty=some (.map kt e)) (hku:P.underlying kt=some (.int kk)) (hi:P.info? e=some i) (hzz:i.zero=some zv) (hz:av1 zv=some z)
 (hx:aop x=some a) (hy:aop y=some b) (ho:o.op=.lookup ty x y ok) (he:Evs γ t ρ [x,y]) (h:mgetA z ok a b t s=.ok v s'):OpOk P γ s w ρ o v s':=by
 obtain ⟨u1,hu1,h⟩:=Za5 h
 obtain ⟨u2,hu2,h⟩:=Za5 h
 have h1:=he x (by simp) a u1 hx hu1
 have h2:=he y (by simp) b u2 hy hu2
 have hzR:=(Yds (γ:=γ) hz).1
 rcases Zpj h with ⟨r,rfl,hk⟩|⟨rfl,hk⟩
 ·obtain ⟨⟨es,cl⟩,hm,hk⟩:=Za3 hk
  obtain ⟨f,hf,hk⟩:=Za3 hk
  have hg:=Zd7 hm
  obtain ⟨L,hL,hxv⟩:∃ L,γ r=some L∧ρ x=.map (some L.b):=by
   generalize ρ x=vx at h1
   cases h1 with
   | map _ L hL=>exact ⟨L,hL,rfl⟩
  obtain ⟨ms,hms,hR⟩:=hs.obj r _ L hg hL
  cases f with
  | none=>
   obtain ⟨rfl,rfl⟩:=Zau hk
   have hfn:=Zn3 (kk:=kk) h2 0 hR hf
   refine Zag hs (if ok then .tuple #[zv,.bool false] else zv) ?_ ?_
   ·simp only [execOp,ho,Instr.lookup,Sem.run_bind,run_underlying hu,Result.andThen_ok,hxv,Zb2 hms,Sem.run_pure,Zc6 hku,Zdy hku hfn,Zb1 hi hzz]
   ·cases ok
    ·exact hzR
    ·exact .tup _ _ (.cons hzR (.cons (.bool _) .nil))
  | some w0=>
   obtain ⟨rfl,rfl⟩:=Zau hk
   obtain ⟨j,m,r1,r2,r3,_,r5,_,_⟩:=Zn2 (kk:=kk) h2 0 hR hf
   refine Zag hs (if ok then .tuple #[m.val,.bool true] else m.val) ?_ ?_
   ·simp only [execOp,ho,Instr.lookup,Sem.run_bind,run_underlying hu,Result.andThen_ok,hxv,Zb2 hms,Sem.run_pure,Zc6 hku,Zdy hku r1]
   ·cases ok
    ·exact r5
    ·exact .tup _ _ (.cons r5 (.cons (.bool _) .nil))
 ·obtain ⟨rfl,rfl⟩:=Zau hk
  generalize hxx:ρ x=vx at h1
  cases h1
  refine Zag hs (if ok then .tuple #[zv,.bool false] else zv) ?_ ?_
  ·have hfn:Instr.findNow (.int kk) (ρ y) [] 0=some none:=rfl
   simp only [execOp,ho,Instr.lookup,Sem.run_bind,run_underlying hu,Result.andThen_ok,hxx,Sem.run_pure,Zc6 hku,Zdy hku hfn,Zb1 hi hzz]
  ·cases ok
   ·exact hzR
   ·exact .tup _ _ (.cons hzR (.cons (.bool _) .nil))
theorem Zyc (hs:Sim P γ s w) {o:Oper}{T U kt e:Nat}{kk:IntKind}{x y:Operand}{a b:AO}{v:AV}{s':St}(hu:P.underlying T=some (.map kt e)) (hku:P.underlying kt=some (.int kk)) (hx:aop x=some a) (hy:aop y=some b)
 (ho:o.op=.call { callee:=.builtin .delete,args:=#[x,y],argTypes:=#[T,U] }) (he:Evs γ t ρ [x,y]) (h:mdelA a b t s=.ok v s'):OpOk P γ s w ρ o v s':=by
 obtain ⟨u1,hu1,h⟩:=Za5 h
 obtain ⟨u2,hu2,h⟩:=Za5 h
 have h1:=he x (by simp) a u1 hx hu1
 have h2:=he y (by simp) b u2 hy hu2
 rcases Zpj h with ⟨r,rfl,hk⟩|⟨rfl,hk⟩
 ·obtain ⟨⟨es,cl⟩,hm,hk⟩:=Za3 hk
  obtain ⟨f,hf,hk⟩:=Za3 hk
  obtain ⟨rfl,rfl⟩:=Zau hk
  have hg:=Zd7 hm
  obtain ⟨L,hL,hxv⟩:∃ L,γ r=some L∧ρ x=.map (some L.b):=by
   generalize ρ x=vx at h1
   cases h1 with
   | map _ L hL=>exact ⟨L,hL,rfl⟩
  obtain ⟨ms,hms,hR⟩:=hs.obj r _ L hg hL
  have hlt:=hs.lt r L hL
  have fin:∀ (ms':Array MapEntry),All2 (EntR γ) (Yeo u2 es) ms'.toList→(∀ ty,(Builtin.delete_ #[T,U] ty #[.map (some L.b),ρ y]).run P w=.ok (.tuple #[]) { w with heap:=w.heap.setIfInBounds L.b (.map ms' cl) })→OpOk P γ s w ρ o (.tup []) (s.put r (.map (Yeo u2 es) cl)):=by
   intro ms' hR' hrun
   obtain ⟨hst,hsim⟩:=Zk0 (O:=.map ms' cl) (o:=.map (Yeo u2 es) cl) hs hg hL rfl ⟨_,by rw [Array.getElem?_setIfInBounds,if_pos rfl,if_pos hlt],hR'⟩
   refine ⟨γ,_,hst,hsim,.inl ⟨.tuple #[],?_,.tup _ _ .nil⟩⟩
   rw [Zav ho]
   simp only [builtin,List.map_toArray,List.map_cons,List.map_nil,hxv,Sem.run_bind,hrun,Result.andThen_ok,Sem.run_pure]
  cases f with
  | none=>
   have hfn:=Zn3 (kk:=kk) h2 0 hR hf
   have hdel:∀ {es:List (AV×AV×Nat)},Zo0 u2 es=some none→Yeo u2 es=es:=by
    intro es
    induction es with
    | nil=>intro _;rfl
    | cons x es ih=>
     intro hf
     obtain ⟨xk,xv,xb⟩:=x
     simp only [Zo0] at hf
     simp only [Yeo]
     cases he:Zsp u2 xk with
     | none=>rw [he] at hf;cases hf
     | some c=>cases c with
      | true=>rw [he] at hf;cases hf
      | false=>rw [he] at hf;simp [ih hf]
   refine fin ms (by rw [hdel hf];exact hR) fun ty=>?_
   simp only [Builtin.delete_,List.getElem?_toArray,List.getElem?_cons_zero,List.getElem?_cons_succ,Sem.run_bind,run_underlying hu,Result.andThen_ok,Zb2 hms,Zc6 hku,Zdy hku hfn,Zdo _ hms,Sem.run_pure]
  | some w0=>
   obtain ⟨j,m,r1,r2,r3,_,r5,_,r7⟩:=Zn2 (kk:=kk) h2 0 hR hf
   rw [Nat.zero_add] at r1
   refine fin (ms.eraseIdxIfInBounds j) (by simpa using r7) fun ty=>?_
   simp only [Builtin.delete_,List.getElem?_toArray,List.getElem?_cons_zero,List.getElem?_cons_succ,Sem.run_bind,run_underlying hu,Result.andThen_ok,Zb2 hms,Zc6 hku,Zdy hku r1,Zdo _ hms,Sem.run_pure]
 ·cases hk
end
end Go.AM
namespace Go.AM
section
variable {P:Program}{γ:Gam}{s:St}{w:World}{t:AT}{ρ:Operand→Value}
theorem Ydh (hs:Sim P γ s w) {o:Oper}{T e:Nat}{x:Operand}{a:AO}{v:AV}{s':St}(hu:P.underlying T=some (.slice e)) (hx:aop x=some a) (ho:o.op=.call { callee:=.builtin .cap,args:=#[x],argTypes:=#[T] }) (he:Evs γ t ρ [x])
 (h:capA a t s=.ok v s'):OpOk P γ s w ρ o v s':=by
 obtain ⟨u,hu',h⟩:=Za5 h
 have hv:=he x (by simp) a u hx hu'
 rcases Zi4 h with ⟨r,i,n,c,rfl,h⟩|⟨rfl,h⟩|⟨rfl,h⟩|⟨n,c,l0,rfl,h⟩
 rotate_right
 ·obtain ⟨c,rfl,h⟩:=Za3 h
  obtain ⟨hc0,h⟩:=Zco h
  obtain ⟨rfl,rfl⟩:=Zau h
  obtain ⟨bz,oz,cc,cz,zs,hval,_,_,_,_,_,hck,_⟩:=fzV hv
  have:cc=c:=by
   cases c with
   | zero=>cases hc0
   | succ k=>exact hck.1
  subst this
  refine Zag hs (.int .i64 cc) ?_ (.int _ _)
  rw [Zav ho]
  have hl:∀ ty,(Builtin.cap_ #[T] ty #[.slice (some ⟨bz,oz,none⟩) n cc]).run P w=.ok (goInt cc) w:=fun ty=>by simp [Builtin.cap_,run_underlying hu]
  simp only [builtin,List.map_toArray,List.map_cons,List.map_nil,hval,Sem.run_bind,hl,Result.andThen_ok,Sem.run_pure]
  rfl
 ·obtain ⟨c,rfl,h⟩:=Za3 h
  obtain ⟨rfl,rfl⟩:=Zau h
  obtain ⟨L,cc,hL,hval,hcc⟩:=slV hv
  have:=hcc c rfl
  subst this
  refine Zag hs (.int .i64 cc) ?_ (.int _ _)
  rw [Zav ho]
  have hl:∀ ty,(Builtin.cap_ #[T] ty #[.slice (some ⟨L.b,L.o+i,none⟩) n cc]).run P w=.ok (goInt cc) w:=fun ty=>by simp [Builtin.cap_,run_underlying hu]
  simp only [builtin,List.map_toArray,List.map_cons,List.map_nil,hval,Sem.run_bind,hl,Result.andThen_ok,Sem.run_pure]
  rfl
 ·cases h
 ·cases h
theorem Zy4 (hs:Sim P γ s w) {o:Oper}{T U e es by_:Nat}{kn:IntKind}{z:List AV}{x y:Operand}{a b:AO}{v:AV}{s':St}(hu:P.underlying T=some (.slice e)) (hU:P.underlying U=some (.int kn)) (hes:Zdd P e=some es) (hby:Yhn P e=some by_) (hz:Zfd P e=some z) (h1es:1≤es) (hbl:by_≤4096) (hzl:z.length=es)
 (hx:aop x=some a) (hy:aop y=some b) (ho:o.op=.call { callee:=.builtin .append,args:=#[x,y],argTypes:=#[T,U] }) (he:Evs γ t ρ [x,y]) (h:app0A e es z a b t s=.ok v s'):OpOk P γ s w ρ o v s':=by
 obtain ⟨u1,hu1,h⟩:=Za5 h
 obtain ⟨u2,hu2,h⟩:=Za5 h
 have h1:=he x (by simp) a u1 hx hu1
 have h2:=he y (by simp) b u2 hy hu2
 obtain ⟨k,hk,h⟩:=Zc1 h
 obtain ⟨kk,rfl⟩:=Zg9 hk
 obtain ⟨i,zv,hi,hzz,ha⟩:=Zdw hz
 obtain ⟨y1,y2⟩:=Zi7 (γ:=γ) ha
 have his:i.size=es:=by simp [Zdd,hi] at hes;exact hes
 have hib:i.bytes=by_:=by simp [Yhn,hi] at hby;exact hby
 have hzs:zv.cells.size=es:=by rw [← hzl];simpa using y1.length.symm
 have hkv:ρ y=.int kk k:=by generalize ρ y=q at h2;cases h2;rfl
 rcases Yaa h with ⟨r,j,n,c,rfl,h⟩|⟨rfl,h⟩|⟨rfl,h⟩
 ·obtain ⟨old,hold,h⟩:=Za3 h
  obtain ⟨c,rfl,h⟩:=Za3 h
  obtain ⟨L,cc,hL,hxv,hck⟩:=slV h1
  have hcc:=hck c rfl
  subst hcc
  obtain ⟨olds,e1,hco,hRo,h1o⟩:=Zeu hs hold hL
  have e1':olds.length=n*i.size:=by rw [his];exact e1
  change (Bool.rec (gd (Nat.blt 0 k) (Ze9 e (n+k) (Zgx old (rep z k)) s)) .fail (Nat.ble (n+k) cc):RV)=.ok v s' at h
  cases hb:Nat.ble (n+k) cc with
  | true=>rw [hb] at h;cases h
  | false=>
   rw [hb] at h
   obtain ⟨hk0,h⟩:=Zco h
   obtain ⟨hbd,h⟩:=Zco h
   have hnle:¬ (n+k≤cc):=fun e=>by rw [Nat.ble_eq_true_of_le e] at hb;cases hb
   have hbm:=Nat.le_of_ble_eq_true hbd
   have hkp:0<k:=by
    rcases Nat.eq_zero_or_pos k with e|e
    ·subst e;cases hk0
    ·exact e
   obtain ⟨rfl,rfl⟩:=Zau h
   obtain ⟨q1,q2⟩:=Zij y1 y2 (by omega) k
   have hzc:Builtin.zeroCells zv.cells k=(Array.range (k*zv.cells.size)).map (fun i=>zv.cells[i % zv.cells.size]!):=rfl
   rw [← hzc] at q1 q2
   have hmb:(n+k)*i.bytes≤1000000*4096:=by rw [hib];exact Nat.mul_le_mul hbm hbl
   have hmb':k*i.bytes≤1000000*4096:=by rw [hib];exact Nat.mul_le_mul (by omega) hbl
   have hold':(Builtin.firstCells i.size n (.slice (some ⟨L.b,L.o+j,none⟩) n cc)).run P w.drew=.ok olds.toArray w.drew:=
    run_firstCells_some w.drew i.size n ⟨L.b,L.o+j,none⟩ n cc olds e1' (fun jj u hj=>hco jj u hj)
   have hrun:=fun ty=>Lib.run_append_grow_zeros (P:=P) w T U ty e i zv kk kn hu hU hi hzz (some ⟨L.b,L.o+j,none⟩) n cc olds hold' k hkp (by omega) (by omega) (by omega) (by omega) (growslice_fits (by omega) (by omega))
   have hRa:All2 (VR γ) (Zgx old (rep z k)) (olds++(Builtin.zeroCells zv.cells k).toList):=by rw [Zda,Yau];exact hRo.append q1
   obtain ⟨hst,hsim⟩:=Zk9 hs.drew e (Zgx old (rep z k)) (olds.toArray++Builtin.zeroCells zv.cells k++Builtin.zeroCells zv.cells (grownCap w (n+k) cc e-(n+k))) (olds++(Builtin.zeroCells zv.cells k).toList) es hes hRa
    (by intro u hu;rcases List.mem_append.1 hu with hu|hu;exact h1o u hu;exact q2 u hu)
    (fun j u hj=>by
      rw [Array.getElem?_append_left (by have:=(List.getElem?_eq_some_iff.1 hj).1;simpa using this)]
      rw [← Array.getElem?_toList];simpa using hj) (by simp) (by
       intro u hu
       simp only [Array.toList_append,List.append_assoc,List.mem_append] at hu
       rcases hu with hu|hu|hu
       ·exact h1o u hu
       ·exact q2 u hu
       ·exact (Zij y1 y2 (by omega) _).2 u hu)
   refine ⟨_,_,(Stp.drew).trans hst,hsim,.inl ⟨.slice (some ⟨w.heap.size,0,none⟩) (n+k) (grownCap w (n+k) cc e),?_,?_⟩⟩
   ·rw [Zav ho]
    simp only [builtin,List.map_toArray,List.map_cons,List.map_nil,hxv,hkv,Sem.run_bind,hrun,Result.andThen_ok,Sem.run_pure]
   ·refine .slu s.next 0 (n+k) _ _ (Za8 _ _ _) (grownCap_ge _ _ _ _) (grownCap_le_maxLen _ _ _ _ (by unfold maxLen;omega)) (fun _=>?_)
    have hge:=grownCap_ge w (n+k) cc e
    simp only [Array.size_append,List.size_toArray,size_zeroCells,e1',his,hzs]
    rw [← Nat.add_mul,← Nat.add_mul]
    exact Nat.mul_le_mul_right _ (by omega)
 ·obtain ⟨hk0,h⟩:=Zco h
  have hk0:=Nat.eq_of_beq_eq_true hk0
  subst hk0
  obtain ⟨rfl,rfl⟩:=Zau h
  have hxv:ρ x=.slice none 0 0:=by generalize ρ x=q at h1;cases h1;rfl
  have hw0:IntKind.i64.wrap 0=0:=by rw [IntKind.wrap_i64];decide
  have hrun':∀ (ty:TypeId) (kk:IntKind),(Builtin.append_ #[T,U] ty #[.slice none 0 0,.int kk 0]).run P w=.ok (.slice none 0 0) w:=fun ty kk=>by
   simp [Builtin.append_,run_underlying hu,run_underlying hU,sizeOf,typeInfo,hi,Go.asInt,Go.asIntOf,hw0]
  refine Zag hs (.slice none 0 0) ?_ .nils
  rw [Zav ho]
  have hkv':ρ y=.int kk 0:=hkv
  simp only [builtin,List.map_toArray,List.map_cons,List.map_nil,hxv,hkv',Sem.run_bind,hrun',Result.andThen_ok,Sem.run_pure]
 ·cases h
end
end Go.AM
namespace Go.AM
section
variable {P:Program}{γ:Gam}{s:St}{w:World}{t:AT}{ρ:Operand→Value}
theorem Yf0 {r o:Nat}:∀ {es:List (AV×AV×Nat)},othK r o es=true→∀ x ∈ es,∃ o',x.1=.ptr r o'∧o≠o':=by
 intro es
 induction es with
 | nil=>intro _ x hx;cases hx
 | cons y es ih=>
  intro h x hx
  simp only [othK] at h
  cases hp:Zcp y.1 with
  | no=>rw [hp] at h;cases h
  | fp l=>rw [hp] at h;cases h
  | ptr r' o'=>
   rw [hp] at h
   cases hr:Nat.beq r r' with
   | false=>simp only [hr] at h;cases h
   | true=>
    simp only [hr] at h
    cases ho:Nat.beq o o' with
    | true=>simp only [ho] at h;cases h
    | false=>
     simp only [ho] at h
     cases hx with
     | head=>
      refine ⟨o',?_,?_⟩
      ·rw [Nat.eq_of_beq_eq_true hr];exact Zkp hp
      ·intro e;subst e;rw [Nat.beq_refl] at ho;cases ho
     | tail _ hx=>exact ih h x hx
theorem Zqa {kt e:Nat}(hu:P.underlying kt=some (.pointer e)) (b:Bool) (v:Value):(Instr.checkKey b 10000 kt v).run P w=.ok () w:=by
 show (Instr.checkKey b (9999+1) kt v).run P w=_
 unfold Instr.checkKey
 simp only [Sem.run_bind,run_underlying hu,Result.andThen_ok]
 rfl
theorem Zxz {kt e n:Nat}(hu:P.underlying kt=some (.pointer e)) (hn:Zdd P e=some (n+1)) {a b:Addr}(hab:a.block=b.block) (hne:a≠b):
 (Op.equal kt (.pointer (some a)) (.pointer (some b))).run P w=.ok false w:=by
 show (Op.equalIn (9999+1) kt _ _).run P w=_
 unfold Op.equalIn
 have hb:(a == b)=false:=by simpa using hne
 simp [Sem.run_bind,run_underlying hu,Result.andThen_ok,Za9 hn,sameAddr,hab,hb]
theorem Zrt {kt e n:Nat}(hu:P.underlying kt=some (.pointer e)) (hn:Zdd P e=some (n+1)) {L:Loc}{r o:Nat}(hL:γ r=some L):
 ∀ {es:List (AV×AV×Nat)}{ms:List MapEntry}(i:Nat),All2 (EntR γ) es ms→(∀ x ∈ es,∃ o',x.1=.ptr r o'∧o≠o')→
  (Instr.findAsking kt (.pointer (some ⟨L.b,L.o+o,none⟩)) ms i).run P w=.ok none w:=by
 intro es
 induction es with
 | nil=>intro ms i h _;cases h;rfl
 | cons x es ih=>
  intro ms i h hf
  cases h with
  | @cons _ m _ ms' h1 h2=>
   obtain ⟨o',hx,hne⟩:=hf x (by simp)
   have hk:=h1.1
   rw [hx] at hk
   have hkey:m.key=.pointer (some ⟨L.b,L.o+o',none⟩):=by
    generalize m.key=kv at hk
    cases hk with
    | ptr _ _ L' hL'=>rw [hL] at hL';cases hL';rfl
   unfold Instr.findAsking
   rw [hkey]
   have hne':(⟨L.b,L.o+o,none⟩:Addr)≠⟨L.b,L.o+o',none⟩:=fun e=>by injection e with _ e2 _;omega
   simp only [Sem.run_bind,Zxz hu hn (a:=⟨L.b,L.o+o,none⟩) (b:=⟨L.b,L.o+o',none⟩) rfl hne',Result.andThen_ok,Bool.false_eq_true,if_false]
   exact ih (i+1) h2 fun y hy=>hf y (by simp [hy])
theorem Zrs {kt e n:Nat}(hu:P.underlying kt=some (.pointer e)) (hn:Zdd P e=some (n+1)) {L:Loc}{r o:Nat}(hL:γ r=some L)
 {es:List (AV×AV×Nat)}{ms:List MapEntry}(h:All2 (EntR γ) es ms) (hf:∀ x ∈ es,∃ o',x.1=.ptr r o'∧o≠o'):
  (Instr.findKey kt (.pointer (some ⟨L.b,L.o+o,none⟩)) ms).run P w=.ok none w:=by
 have hask:=Zrt (P:=P) (w:=w) hu hn hL 0 h hf
 cases h with
 | nil=>simp only [Instr.findKey,Sem.run_bind,run_underlying hu,Result.andThen_ok,Instr.findNow,Sem.run_pure]
 | cons h1 h2=>
  simp only [Instr.findKey,Sem.run_bind,run_underlying hu,Result.andThen_ok,Instr.findNow,Instr.sameNow]
  exact hask
theorem Zt8 {ty:Nat}(h:Zv3 P ty=true):∃ kt e el n,P.underlying ty=some (.map kt e)∧P.underlying kt=some (.pointer el)∧Zdd P el=some (n+1):=by
 unfold Zv3 at h
 split at h
 ·rename_i kt e hu
  split at h
  ·rename_i el hk
   split at h
   ·rename_i n hn;exact ⟨kt,e,el,n,hu,hk,hn⟩
   ·cases h
  ·cases h
 ·cases h
theorem Zno (hs:Sim P γ s w) {o:Oper}{ty:Nat}{x y z:Operand}{a b c:AO}{v:AV}{s':St}(hd:o.dst=none) (hpk:Zv3 P ty=true) (hx:aop x=some a) (hy:aop y=some b) (hz:aop z=some c)
 (ho:o.op=.mapUpdate ty x y z∨o.op=.insert ty x y z) (he:Evs γ t ρ [x,y,z]) (h:Yig a b c t s=.ok v s'):OpOk P γ s w ρ o v s':=by
 obtain ⟨kt,e,el,n,hu,hku,hn⟩:=Zt8 hpk
 obtain ⟨u1,hu1,h⟩:=Za5 h
 obtain ⟨u2,hu2,h⟩:=Za5 h
 obtain ⟨u3,hu3,h⟩:=Za5 h
 have h1:=he x (by simp) a u1 hx hu1
 have h2:=he y (by simp) b u2 hy hu2
 have h3:=he z (by simp) c u3 hz hu3
 rcases Zpj h with ⟨r,rfl,hk⟩|⟨rfl,hk⟩
 ·obtain ⟨⟨es,cl⟩,hm,hk⟩:=Za3 hk
  obtain ⟨kr,ko,rfl,hk⟩:=Zv2 hk
  obtain ⟨hoth,hk⟩:=Zco hk
  have hg:=Zd7 hm
  obtain ⟨L,hL,hxv⟩:∃ L,γ r=some L∧ρ x=.map (some L.b):=by
   generalize ρ x=vx at h1
   cases h1 with
   | map _ L hL=>exact ⟨L,hL,rfl⟩
  obtain ⟨K,hK,hyv⟩:∃ K,γ kr=some K∧ρ y=.pointer (some ⟨K.b,K.o+ko,none⟩):=by
   generalize ρ y=vy at h2
   cases h2 with
   | ptr _ _ K hK=>exact ⟨K,hK,rfl⟩
  obtain ⟨ms,hms,hR⟩:=hs.obj r _ L hg hL
  have hlt:=hs.lt r L hL
  obtain ⟨rfl,rfl⟩:=Zau hk
  have hfn:=Zrs (P:=P) (w:=w) hku hn hK hR (Yf0 hoth)
  obtain ⟨hst,hsim⟩:=Zk0 (O:=.map (ms.push { key:=ρ y,val:=ρ z,born:=cl }) (cl+1)) (o:=.map (Zgx es [(.ptr kr ko,u3,cl)]) (cl+1)) hs hg hL rfl
   ⟨_,by rw [Array.getElem?_setIfInBounds,if_pos rfl,if_pos hlt],by rw [Zda,Array.toList_push];exact hR.append (.cons ⟨h2,h3,rfl⟩ .nil)⟩
  refine ⟨γ,_,hst,hsim,.inr ⟨?_,hd⟩⟩
  rw [← hyv] at hfn
  rcases ho with ho|ho <;>
   simp only [execOp,ho,Instr.mapUpdate,Sem.run_bind,run_underlying hu,Result.andThen_ok,hxv,Zb2 hms,Zqa hku,hfn,Zdo _ hms,Sem.run_pure]
 ·cases hk
theorem Ybs {ty:Nat}(h:mapT P ty=true):∃ kt e,P.underlying ty=some (.map kt e):=by
 unfold mapT at h
 split at h
 ·rename_i kt e hu;exact ⟨kt,e,hu⟩
 ·cases h
theorem Zx0 (hs:Sim P γ s w) {o:Oper}{ty:Nat}{x:Operand}{a:AO}{v:AV}{s':St}(hpk:mapT P ty=true) (hx:aop x=some a)
 (ho:o.op=.range ty x) (he:Evs γ t ρ [x]) (h:rngmA a t s=.ok v s'):OpOk P γ s w ρ o v s':=by
 obtain ⟨kt,e,hu⟩:=Ybs hpk
 obtain ⟨u1,hu1,h⟩:=Za5 h
 have h1:=he x (by simp) a u1 hx hu1
 rcases Zpj h with ⟨r,rfl,hk⟩|⟨rfl,hk⟩
 ·obtain ⟨⟨es,cl⟩,hm,hk⟩:=Za3 hk
  have hg:=Zd7 hm
  obtain ⟨L,hL,hxv⟩:∃ L,γ r=some L∧ρ x=.map (some L.b):=by
   generalize ρ x=vx at h1
   cases h1 with
   | map _ L hL=>exact ⟨L,hL,rfl⟩
  obtain ⟨ms,hms,hR⟩:=hs.obj r _ L hg hL
  obtain ⟨rfl,rfl⟩:=Zau hk
  refine Fresh.ok hs ⟨.iter r cl [] cl,fun i=>.ptr i 0,.mapIter (some L.b) cl #[] cl,0,0,.pointer (some ⟨w.heap.size,0,none⟩),rfl,rfl,?_,fun γ' i hle hi=>⟨⟨rfl,L,hle.loc _ _ hL,by show (w.heap.push _)[w.heap.size]?=_;simp⟩,?_⟩⟩
  ·simp only [execOp,ho,hxv,Sem.run_bind,run_range_map w ty kt e L.b ms cl hu hms,Result.andThen_ok,Sem.run_pure]
  ·have:=VR.ptr (γ:=γ') i 0 _ hi
   simpa using this
 ·cases hk
theorem Zsc {l:List Nat}{n:Nat}:Zyh l=some n→∃ l',l=l'++[n]:=by
 induction l with
 | nil=>intro h;cases h
 | cons x l ih=>
  intro h
  simp only [Zyh] at h ih
  cases hl:(List.rec (motive:=fun _=>Option Nat) none (fun x _ ih=>Option.rec (some x) (fun y=>some y) ih) l) with
  | none=>
   rw [hl] at h;cases h
   cases l with
   | nil=>exact ⟨[],rfl⟩
   | cons y l=>
    exfalso
    simp only at hl
    cases hq:(List.rec (motive:=fun _=>Option Nat) none (fun x _ ih=>Option.rec (some x) (fun y=>some y) ih) l) with
    | none=>rw [hq] at hl;cases hl
    | some q=>rw [hq] at hl;cases hl
  | some q=>
   rw [hl] at h;cases h
   obtain ⟨l',e⟩:=ih hl
   exact ⟨x::l',by rw [e];rfl⟩
theorem Zy1 {n:Nat}{e:AV×AV×Nat}:∀ {es:List (AV×AV×Nat)}{ms:List MapEntry},All2 (EntR γ) es ms→Zu4 n es=some e→∃ m,ms.find? (·.born == n)=some m∧EntR γ e m:=by
 intro es
 induction es with
 | nil=>intro ms h hf;cases hf
 | cons x es ih=>
  intro ms h hf
  cases h with
  | @cons _ m _ ms' h1 h2=>
   simp only [Zu4] at hf
   cases hb:Nat.beq x.2.2 n with
   | true=>
    rw [hb] at hf;cases hf
    exact ⟨m,by rw [List.find?_cons_of_pos];rw [h1.2.2];exact beq_iff_eq.2 (Nat.eq_of_beq_eq_true hb),h1⟩
   | false=>
    rw [hb] at hf
    obtain ⟨m',e1,e2⟩:=ih h2 hf
    refine ⟨m',?_,e2⟩
    rw [List.find?_cons_of_neg,e1]
    rw [h1.2.2]
    intro hc
    rw [beq_iff_eq.1 hc,Nat.beq_refl] at hb;cases hb
theorem Zup {r m since last:Nat}{seen:List Nat}(h:Zpn r s=.it m since seen last):s.get r=some (.iter m since seen last):=by
 unfold Zpn at h
 cases hg:s.get r with
 | none=>rw [hg] at h;cases h
 | some o=>
  rw [hg] at h
  cases o with
  | iter a b c d=>cases h;rfl
  | _=>cases h
theorem Zyt (hs:Sim P γ s w) {o:Oper}{x:Operand}{a:AO}{v:AV}{s':St}(hx:aop x=some a)
 (ho:o.op=.entry x) (he:Evs γ t ρ [x]) (h:entmA a t s=.ok v s'):OpOk P γ s w ρ o v s':=by
 obtain ⟨u1,hu1,h⟩:=Za5 h
 have h1:=he x (by simp) a u1 hx hu1
 obtain ⟨ri,oi,rfl,hk⟩:=Zv2 h
 obtain ⟨h0,hk⟩:=Zco hk
 have h0:=Nat.eq_of_beq_eq_true h0
 subst h0
 cases hit:Zpn ri s with
 | no=>rw [hit] at hk;cases hk
 | it m since seen last=>
  rw [hit] at hk
  obtain ⟨n,hln,hk⟩:=Za3 hk
  obtain ⟨⟨es,cl⟩,hm,hk⟩:=Za3 hk
  obtain ⟨hcl,hk2⟩:=Zco hk
  have hcl:cl=last:=Nat.eq_of_beq_eq_true hcl
  subst hcl
  obtain ⟨ent,hb,hk3⟩:=Za3 hk2
  obtain ⟨rfl,rfl⟩:=Zau hk3
  have hgi:=Zup hit
  have hg:=Zd7 hm
  obtain ⟨I,hI,hxv⟩:∃ I,γ ri=some I∧ρ x=.pointer (some ⟨I.b,I.o+0,none⟩):=by
   generalize ρ x=vx at h1
   cases h1 with
   | ptr _ _ I hI=>exact ⟨I,hI,rfl⟩
  obtain ⟨hIo,M,hM,hitr⟩:=hs.obj ri _ I hgi hI
  obtain ⟨ms,hms,hR⟩:=hs.obj m _ M hg hM
  obtain ⟨me,hfind,hE⟩:=Zy1 hR hb
  obtain ⟨l',rfl⟩:=Zsc hln
  refine Zag hs (.tuple #[me.key,me.val]) ?_ (.tup _ _ (.cons hE.1 (.cons hE.2.1 .nil)))
  rw [hIo] at hxv
  have hback:((l'++[n]).toArray).back?=some n:=by simp
  have hfa:ms.find? (·.born == n)=some me:=by rw [← Array.find?_toList];exact hfind
  simp only [execOp,ho,hxv,Instr.entry,getObj,Sem.run_bind,Sem.run,hitr,hms,Result.andThen,hback,bne_self_eq_false,Bool.false_eq_true,if_false,hfa]
  rfl
theorem if_ok {k:Nat→AV→RV}{a v:AV}{s':St}(h:(XR.rec .fail k (asIf a):RV)=.ok v s'):∃ t u,a=.iface t u∧k t u=.ok v s':=by
 cases a with
 | iface t u=>exact ⟨t,u,rfl,h⟩
 | _=>cases h
theorem Ybr (hs:Sim P γ s w) {o:Oper}{ty:Nat}{x:Operand}{a:AO}{v:AV}{s':St}(hT:Zu1 P ty=true) (hx:aop x=some a)
 (ho:o.op=.makeInterface ty x) (he:Evs γ t ρ [x]) (h:mkiA ty a t s=.ok v s'):OpOk P γ s w ρ o v s':=by
 obtain ⟨u,hu,h⟩:=Za5 h
 obtain ⟨rfl,rfl⟩:=Zau h
 have hv:=he x (by simp) a _ hx hu
 refine Zag hs (.iface ty (ρ x)) ?_ (.iface _ _ _ hv)
 unfold Zu1 at hT
 cases hd:P.underlying ty with
 | none=>rw [hd] at hT;cases hT
 | some d=>cases d <;> first|(simp [hd] at hT;done)|simp [execOp,ho,Instr.makeInterface,run_underlying hd]
theorem Zzz (hs:Sim P γ s w) {o:Oper}{ty xt:Nat}{i:TypeInfo}{z:Value}{zv:AV}{x:Operand}{a:AO}{v:AV}{s':St}(hT:Zu1 P ty=true) (hi:P.info? ty=some i) (hz:i.zero=some z) (hzv:av z=some zv) (hx:aop x=some a)
 (ho:o.op=.typeAssert x xt ty true) (he:Evs γ t ρ [x]) (h:tasA ty zv a t s=.ok v s'):OpOk P γ s w ρ o v s':=by
 obtain ⟨u,hu,h⟩:=Za5 h
 obtain ⟨t',u',rfl,h⟩:=if_ok h
 obtain ⟨rfl,rfl⟩:=Zau h
 have hv:=he x (by simp) a _ hx hu
 generalize hxx:ρ x=vx at hv
 cases hv with
 | iface _ _ v' hv'=>
  have hzr:=Zb1 (P:=P) hi hz w
  cases hb:Nat.beq t' ty with
  | true=>
   have e:=Nat.eq_of_beq_eq_true hb
   subst e
   refine Zag hs (.tuple #[v',.bool true]) ?_ (.tup _ _ (.cons hv' (.cons (.bool _) .nil)))
   unfold Zu1 at hT
   cases hd:P.underlying t' with
   | none=>rw [hd] at hT;cases hT
   | some d=>cases d <;> first|(simp [hd] at hT;done)|simp [execOp,ho,hxx,Instr.typeAssert,run_underlying hd]
  | false=>
   have e:=Nat.ne_of_beq_eq_false hb
   refine Zag hs (.tuple #[z,.bool false]) ?_ (.tup _ _ (.cons (av_VR hzv) (.cons (.bool _) .nil)))
   unfold Zu1 at hT
   cases hd:P.underlying ty with
   | none=>rw [hd] at hT;cases hT
   | some d=>cases d <;> first|(simp [hd] at hT;done)|simp [execOp,ho,hxx,Instr.typeAssert,run_underlying hd,e,hzr]
theorem Zyo {tb:List (Nat×Nat)}{k f:Nat}(h:Zuy tb k=some f):(k,f) ∈ tb:=by
 induction tb with
 | nil=>cases h
 | cons p tb ih=>
  change (Bool.rec (Zuy tb k) (some p.2) (Nat.beq p.1 k):Option Nat)=some f at h
  cases hb:Nat.beq p.1 k with
  | true=>
   rw [hb] at h
   have e:=Nat.eq_of_beq_eq_true hb
   have e2:p.2=f:=Option.some.inj h
   rw [← e,← e2];exact List.mem_cons_self ..
  | false=>rw [hb] at h;exact List.mem_cons_of_mem _ (ih h)
theorem Zuq {name:String}{k f:Nat}(h:Zuy (Yil P name) k=some f):Zyj P name k=some f:=by
 obtain ⟨i,_,hi⟩:=List.mem_filterMap.1 (Zyo h)
 cases ha:Zyj P name i with
 | none=>rw [ha] at hi;cases hi
 | some g=>rw [ha] at hi;cases hi;exact ha
theorem Zxy {name:String}{k f:Nat}{v:Value}(h:Zyj P name k=some f):(method (P.types.size+Made.depth) k v name).run P w=.ok (f,v) w:=by
 unfold Zyj at h
 split at h
 ·rename_i inf hi
  split at h
  ·rename_i m hm
   split at h
   ·rename_i g hf
    split at h
    ·rename_i hp
     have hpath:m.path=#[]:=by simpa using hp
     split at h
     ·cases h
     ·rename_i d hne hd
      cases h
      rw [show P.types.size+Made.depth=(P.types.size+99)+1 from rfl]
      generalize P.types.size+99=n
      cases d with
      | pointer e=>exact absurd rfl (hne e)
      | _=>simp [method,typeInfo,hi,hm,hpath,follow,hf,receiverAt,run_underlying hd,Place.get]
     ·cases h
    ·cases h
   ·cases h
  ·cases h
 ·cases h
end
end Go.AM
