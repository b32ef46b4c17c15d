/-
 Functions of the program as the abstract machine reads them, and what is stated of them, checked by the kernel. No conditions.
-/
import Derived.Test.YtnnbibnobmegpaaSeatL
import Derived.Test.YtnnbibnobmegpaaAM5
set_option linter.unusedVariables false
set_option linter.unusedSimpArgs false
set_option maxRecDepth 100000
namespace Go.AM
attribute [local irreducible] W
open X
end Go.AM
set_option maxRecDepth 100000
namespace Go.AM
open Go.RowKit
theorem Zhk {n:Int}(h:(Lit.int .i64 n).wf=true):Zc4 n:=by
 unfold Zc4
 simp [Lit.wf,IntKind.min,IntKind.max,IntKind.bits,IntKind.signed] at h
 omega
theorem Zvi {n:Int}(h:(Lit.int .u32 n).wf=true):Zgi n:=by
 unfold Zgi
 simp [Lit.wf,IntKind.min,IntKind.max,IntKind.bits,IntKind.signed] at h
 omega
def tCfg:List Ty:=[.int .u32,.int .i64,.int .i64,.int .i64,.int .i64,.int .i64]
def tLv:List Ty:=[.int .u32,.int .i64,.int .i64,.bool,.bool,.bool]
def tLog:List Ty:=[.int .u32,.int .u32,.int .i64,.int .i64,.sl (.st tLv)]
theorem Zm5 {k:IntKind}{l:List AV}(h:Shape (.int k) l):∃ n,l=[.int k n]∧(Lit.int k n).wf=true:=by
 cases h with|int _ n h=>exact ⟨n,rfl,h⟩
theorem Zxr {l:List AV}(h:Shape .bool l):∃ b,l=[.bool b]:=by
 cases h with|bool b=>exact ⟨b,rfl⟩
theorem Zcr {T:Ty}{Ts:List Ty}{l:List AV}(h:Shapes (T::Ts) l):∃ a b,l=a++b∧Shape T a∧Shapes Ts b:=by
 cases h with|cons _ _ a b h1 h2=>exact ⟨a,b,rfl,h1,h2⟩
theorem Zfn {l:List AV}(h:Shapes [] l):l=[]:=by cases h;rfl
theorem Zbs {k:IntKind}{Ts:List Ty}{l:List AV}(h:Shapes (.int k::Ts) l):∃ n b,l=.int k n::b∧(Lit.int k n).wf=true∧Shapes Ts b:=by
 obtain ⟨a,b,rfl,h1,h2⟩:=Zcr h
 obtain ⟨n,rfl,hw⟩:=Zm5 h1
 exact ⟨n,b,rfl,hw,h2⟩
theorem Zg0 {Ts:List Ty}{l:List AV}(h:Shapes (.bool::Ts) l):∃ x b,l=.bool x::b∧Shapes Ts b:=by
 obtain ⟨a,b,rfl,h1,h2⟩:=Zcr h
 obtain ⟨n,rfl⟩:=Zxr h1
 exact ⟨n,b,rfl,h2⟩
theorem cfg_of {l:List AV}(h:Shapes tCfg l):∃ c:Cfg,c.ok∧l=c.c:=by
 obtain ⟨a1,b1,rfl,w1,g1⟩:=Zbs h
 obtain ⟨a2,b2,rfl,w2,g2⟩:=Zbs g1
 obtain ⟨a3,b3,rfl,w3,g3⟩:=Zbs g2
 obtain ⟨a4,b4,rfl,w4,g4⟩:=Zbs g3
 obtain ⟨a5,b5,rfl,w5,g5⟩:=Zbs g4
 obtain ⟨a6,b6,rfl,w6,g6⟩:=Zbs g5
 rw [Zfn g6]
 exact ⟨⟨a1,a2,a3,a4,a5,a6⟩,⟨Zvi w1,Zhk w2,Zhk w3,Zhk w4,Zhk w5,Zhk w6⟩,rfl⟩
theorem lv_of {l:List AV}(h:Shapes tLv l):∃ x:Lv,x.ok∧l=x.c:=by
 obtain ⟨a1,b1,rfl,w1,g1⟩:=Zbs h
 obtain ⟨a2,b2,rfl,w2,g2⟩:=Zbs g1
 obtain ⟨a3,b3,rfl,w3,g3⟩:=Zbs g2
 obtain ⟨a4,b4,rfl,g4⟩:=Zg0 g3
 obtain ⟨a5,b5,rfl,g5⟩:=Zg0 g4
 obtain ⟨a6,b6,rfl,g6⟩:=Zg0 g5
 rw [Zfn g6]
 exact ⟨⟨a1,a2,a3,a4,a5,a6⟩,⟨Zvi w1,Zhk w2,Zhk w3⟩,rfl⟩
theorem lvs_of {ls:List (List AV)}(h:∀ l ∈ ls,Shape (.st tLv) l):∃ L:List Lv,(∀ x ∈ L,x.ok)∧ls.flatten=lvs L∧L.length=ls.length:=by
 induction ls with
 | nil=>exact ⟨[],by simp,rfl,rfl⟩
 | cons l ls ih=>
  obtain ⟨L,h1,h2,h3⟩:=ih (fun m hm=>h m (by simp [hm]))
  obtain ⟨x,hx,rfl⟩:=lv_of (by have:=h l (by simp);cases this with|st _ _ hs=>exact hs)
  refine ⟨x::L,?_,?_,by simp [h3]⟩
  ·intro y hy
   rcases List.mem_cons.1 hy with rfl|hy
   ·exact hx
   ·exact h1 y hy
  ·rw [List.flatten_cons,h2];rfl
theorem live_of {l:List AV}(h:Shape (.sl (.st tLv)) l):∃ (v:AV) (L:List Lv),l=[v]∧LSl L v∧∀ x ∈ L,x.ok:=by
 cases h with
 | nil _=>exact ⟨.nils,[],rfl,.inl ⟨rfl,rfl,rfl⟩,by simp⟩
 | es _=>exact ⟨.es,[],rfl,.inr (.inl ⟨rfl,rfl,rfl⟩),by simp⟩
 | fz _ n m c ls h1 h2 h3 h4 h5 _=>
  obtain ⟨L,g1,g2,g3⟩:=lvs_of h4
  refine ⟨_,L,rfl,.inr (.inr ⟨c,by rw [g2,g3,h1],Zpl L⟩),g1⟩
theorem log_of {l:List AV}(h:Shapes tLog l):∃ (ag sq tl us:Int) (v:AV) (L:List Lv),l=[.int .u32 ag,.int .u32 sq,.int .i64 tl,.int .i64 us,v]∧Zgi ag∧Zgi sq∧Zc4 tl∧Zc4 us∧LSl L v∧∀ x ∈ L,x.ok:=by
 obtain ⟨a1,b1,rfl,w1,g1⟩:=Zbs h
 obtain ⟨a2,b2,rfl,w2,g2⟩:=Zbs g1
 obtain ⟨a3,b3,rfl,w3,g3⟩:=Zbs g2
 obtain ⟨a4,b4,rfl,w4,g4⟩:=Zbs g3
 obtain ⟨a,b,rfl,h1,h2⟩:=Zcr g4
 obtain ⟨v,L,rfl,h3,h4⟩:=live_of h1
 rw [Zfn h2]
 exact ⟨a1,a2,a3,a4,v,L,rfl,Zvi w1,Zvi w2,Zhk w3,Zhk w4,h3,h4⟩
theorem arg_struct {H:Type}{enc:TypeId×Value→H}{P:Program}{W:World}{t:TypeId}{Fs:List Ty}{n:Nat}{v:Value}{d:DataW H}{ps:List MemPlace}{fs:Array Field}{r:Reach}{base:Nat}(hu:P.underlying t=some (.struct fs)) (hT:TyOf P t (.st Fs) n) (hval:Value.okWide P W r base t v) (h:DataW.Trod enc P W 0 (fun _=>true) true t v d ps):
 ∃ l,Shapes Fs l∧VR (Zyl W) (.agg l) v:=by
 obtain ⟨cs,rfl,_⟩:=WideShapes.okWide_struct hu hval
 obtain ⟨fuel,hf⟩:=h
 obtain ⟨l,h1,h2,h3,h4⟩:=Zxl fuel hT hf
 cases h1 with
 | st _ _ hs=>exact ⟨l,hs,.agg l cs h3 h4⟩
theorem law_args {P:Program}{f:Nat}{args:List AV}{vals:List Value}{w:World}(hA:All2 (VR (Zyl w)) args vals) (hC:C P f args St0 (fun v _=>v=.bool true)):
 Calls P f vals.toArray w fun x w'=>x=.returned (.bool true)∧Below w.heap.size w w':=by
 have hc:=hC (Zyl w) vals w 0 hA (Zwn w)
 refine callsIn_wide.1 (CallsIn.mono hc ?_)
 rintro x w' ⟨v,s',rfl,v',γ',rfl,hst,_,hv⟩
 cases hv
 exact ⟨rfl,hst.os,hst.tape,hst.output,hst.size,fun b hb=>hst.blk b hb (fun r L hL=>by cases hL)⟩
end Go.AM
