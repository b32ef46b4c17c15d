/-
 Functions of the program as the abstract machine reads them, and what is stated of them, checked by the kernel. No conditions.
-/
import Derived.Test.YtnnbibnobmegpaaSeatD
import Derived.Test.YtnnbibnobmegpaaAM5
import Derived.Test.YtnnbibnobmegpaaSeatS
set_option linter.unusedVariables false
set_option linter.unusedSimpArgs false
set_option maxRecDepth 100000
namespace Go.AM
attribute [local irreducible] W
open X
theorem Ydi:∀ {l m:List Nat},bys l=bys m→l=m
 | [],[],_=>rfl
 | [],_::_,h=>by cases h
 | _::_,[],h=>by cases h
 | a::l,b::m,h=>by
  have h:AV.int .u8 (Int.ofNat a)::bys l=.int .u8 (Int.ofNat b)::bys m:=h
  injection h with h1 h2
  injection h1 with _ h1
  injection h1 with h1
  rw [h1,Ydi h2]
def BAt (u:AV) (b:List Nat):Prop:=Sl 1 b.length (bys b) u∧∀ x ∈ b,x<256
theorem BAt.inj {u:AV}{b c:List Nat}(h:BAt u b) (h':BAt u c):b=c:=Ydi (h.1.l_inj h'.1)
structure DB where
 st:Int
 sv:AV
 sl:List Int
 bv:AV
 us:List AV
 bs:List (List Nat)
 pv:AV
 pb:List Nat
def DB.d (x:DB):Dl:=⟨x.st,x.sv,x.sl,⟨x.bv,x.us,x.bs.map List.length⟩,x.pv,x.pb.length⟩
structure DB.ok (x:DB):Prop where
 d:x.d.ok
 bs:All2 BAt x.us x.bs
 pb:BAt x.pv x.pb
def Zrf (b:List Nat):List Nat:=b++List.replicate (128-b.length) 0
def Zs6 (b:List Nat):Bool:=(Zrf b).headD 0 == 78
def Zgk (b:List Nat):List Nat:=if Zs6 b then (Zrf b).set 0 0 else Zrf b
def recN (p:Int×List Nat):Rc:=⟨p.1,Zs6 p.2,(Zen (Zgk p.2):Int)⟩
def fzB (b:List Nat):AV:=.fz 128 none (bys b)
def Zz4 (p:Int×List Nat):AV:=fzB (Zgk p.2)
def DB.prs (x:DB):List (Int×List Nat):=x.sl.zip x.bs++(if x.pb.length=0 then [] else [(255,x.pb)])
theorem Zcx:∀ (L:List Rc),hfs (rcs L)=true
 | []=>rfl
 | x::L=>by
  show (true && (true && (true && hfs (rcs L))))=true
  rw [Zcx L];rfl
theorem Zil (L M:List Rc):rcs (L++M)=rcs L++rcs M:=by unfold rcs;rw [List.flatMap_append]
theorem Zjr {s:St}{r e n:Nat}{c:Option Nat}{bs:List Nat}(h:s.get r=some (.row e (bys bs))) (hn:bs.length=n) (hb:∀ b ∈ bs,b<256):Zbf s (.sl r 0 n c)=some bs:=by
 have h1:load r 0 n s=some (bys bs):=Ze7 h (by rw [Zan];exact hn)
 show (Option.rec none Zbm (load r 0 n s):Option (List Nat))=some bs
 rw [h1]
 have hbo:∀ {bs:List Nat},(∀ b ∈ bs,b<256)→Zbm (bys bs)=some bs:=by
  intro bs
  induction bs with
  | nil=>intro _;rfl
  | cons b bs ih=>
   intro h
   show (Bool.rec none (Option.rec none (fun r=>some (b::r)) (Zbm (bys bs))) (Nat.blt b 256):Option (List Nat))=_
   rw [ih (fun x hx=>h x (by simp [hx])),show Nat.blt b 256=true by simpa using h b (by simp)]
 exact hbo hb
theorem Zv6 {s:St}{r e:Nat}{c:Option Nat}{bs:List Nat}(h:s.get r=some (.row e (bys bs))) (hn:bs.length=128) (hb:∀ b ∈ bs,b<256):Zjh [.int .u32 0,.sl r 0 128 c] s=.ok (.int .u32 ((Zen bs:Nat):Int)) s:=by
 show (Option.rec .fail (fun bs=>gd (Nat.blt (Zd0 bs) 1000000) (.ok (.int .u32 (.ofNat (Nat.xor (Zfx bs (Nat.xor 0 4294967295)) 4294967295))) s)) (Zbf s (.sl r 0 128 c)):RV)=_
 rw [Zjr h hn hb]
 show gd (Nat.blt (Zd0 bs) 1000000) _=_
 rw [Zbu,hn];rfl
structure BD where
 c:Cfg
 age:Int
 seq:Int
 d:DB
structure BD.ok (x:BD):Prop where
 c:x.c.ok
 age:Zgi x.age
 seq:Zgi x.seq
 d:x.d.ok
def BD.enc (x:BD):List AV:=[x.c.v,.int .u32 x.age,.int .u32 x.seq,x.d.d.v]
def BD.note (x:BD):Nt:=⟨x.c.id,x.age,x.seq,x.d.st,.nils,x.d.prs.map recN⟩
def Zbt (n:Nt):List Nat:=Zb8 (Zb3 n n.recs.length) 124 (Zen ((Zb3 n n.recs.length).take 124)) 4
theorem Ybi (id ag sq st:Int) (v v':AV) (R:List Rc):∀ i,Zb3 ⟨id,ag,sq,st,v,R⟩ i=Zb3 ⟨id,ag,sq,st,v',R⟩ i
 | 0=>rfl
 | i+1=>by
  have h:=Ybi id ag sq st v v' R i
  show (match R[i]? with|some r=>Zhs (Zb3 ⟨id,ag,sq,st,v,R⟩ i) i r|none=>Zb3 ⟨id,ag,sq,st,v,R⟩ i)=(match R[i]? with|some r=>Zhs (Zb3 ⟨id,ag,sq,st,v',R⟩ i) i r|none=>Zb3 ⟨id,ag,sq,st,v',R⟩ i)
  rw [h]
theorem Zwe (id ag sq st:Int) (v v':AV) (R:List Rc):Zbt ⟨id,ag,sq,st,v,R⟩=Zbt ⟨id,ag,sq,st,v',R⟩:=by
 unfold Zbt
 rw [Ybi id ag sq st v v' R]
theorem Ztw {top:Int}{l:List Int}(h:Zcb top l=true):0<l.length:=by
 unfold Zcb at h
 rw [Bool.and_eq_true] at h
 exact of_decide_eq_true h.2
theorem Zbr {ρ:Nat→Nat}{L:List AV}{x:AV}(h:hfs L=true):Zbx ρ (L++[x])=L++[Zed ρ x]:=by
 induction L with
 | nil=>rfl
 | cons y L ih=>
  simp only [hfs,Bool.and_eq_true] at h
  show Zed ρ y::Zbx ρ (L++[x])=_
  rw [Zao y h.1,ih h.2];rfl
theorem Zcz {n:Nat}{L:List AV}{x:AV}(h:hfs L=true):bds n (L++[x])=bd n x:=by
 induction L with
 | nil=>show (bd n x && true)=_;rw [Bool.and_true]
 | cons y L ih=>
  simp only [hfs,Bool.and_eq_true] at h
  show (bd n y && bds n (L++[x]))=_
  rw [Zbe y h.1,ih h.2];rfl
theorem Zro {top:Int}:∀ {l:List Int}{la:Int},Zgz top la l=true→l=[]∨la+l.length≤top
 | [],la,_=>.inl rfl
 | x::l,la,h=>by
  have h:(decide (la<x∧x≤top) && Zgz top x l)=true:=h
  rw [Bool.and_eq_true,decide_eq_true_eq] at h
  right
  rw [List.length_cons]
  push_cast
  rcases Zro h.2 with rfl|g
  ·simp;omega
  ·omega
theorem Zm3 {top:Int}{l:List Int}(h:Zcb top l=true):(l.length:Int)≤top+1:=by
 have h0:=Ztw h
 unfold Zcb at h
 rw [Bool.and_eq_true] at h
 rcases Zro h.1 with rfl|g
 ·simp at h0
 ·omega
def DB.n (d:DB):Nat:=d.prs.length+1
end Go.AM
set_option maxRecDepth 100000
namespace Go.AM
attribute [local irreducible] W
open X
structure DB.any (x:DB):Prop where
 st:Zc4 x.st
 sl:Sl 1 x.sl.length (Zd8 x.sl) x.sv
 sb:∀ s ∈ x.sl,Zc4 s
 bl:Sl 1 x.us.length x.us x.bv
 bs:All2 BAt x.us x.bs
 pb:BAt x.pv x.pb
theorem DB.inja {x y:DB}(hx:x.any) (hy:y.any) (h:x.d.v=y.d.v):x=y:=by
 obtain ⟨st,sv,sl,bv,us,bs,pv,pb⟩:=x
 obtain ⟨st',sv',sl',bv',us',bs',pv',pb'⟩:=y
 have h:=AV.agg.inj h
 unfold DB.d Dl.c at h
 injection h with e1 h
 injection h with e2 h
 injection h with e3 h
 injection h with e4 h
 injection e1 with _ e1
 dsimp only at e1 e2 e3 e4
 subst e1 e2 e3 e4
 have e5:=Zmk (hx.sl.l_inj hy.sl)
 have e6:=hx.bl.l_inj hy.bl
 have e7:=hx.pb.inj hy.pb
 dsimp only at e5 e6 e7
 subst e5 e6 e7
 have:∀ {us:List AV}{bs bs':List (List Nat)},All2 BAt us bs→All2 BAt us bs'→bs=bs':=by
  intro us
  induction us with
  | nil=>intro _ _ a b;cases a;cases b;rfl
  | cons u us ih=>
   intro _ _ a b
   cases a with
   | cons a1 a2=>cases b with
    | cons b1 b2=>rw [a1.inj b1,ih a2 b2]
 have e11:=this hx.bs hy.bs
 dsimp only at e11
 subst e11;rfl
theorem Zxj {x:DB}(h:x.any):AM.hf x.d.v=true:=by
 show (true && (AM.hf x.sv && (AM.hf x.bv && (AM.hf x.pv && true))))=true
 rw [h.sl.hf,h.bl.hf,h.pb.1.hf];rfl
end Go.AM
