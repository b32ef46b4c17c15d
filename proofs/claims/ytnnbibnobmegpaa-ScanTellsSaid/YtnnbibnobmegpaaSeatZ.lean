/-
 Functions of the program as the abstract machine reads them, and what is stated of them, checked by the kernel. No conditions.
-/
import Derived.Test.YtnnbibnobmegpaaAM5
import Derived.Test.YtnnbibnobmegpaaSeatT
import Derived.Test.YtnnbibnobmegpaaSeatU
import Derived.Test.YtnnbibnobmegpaaSeatV
import Derived.Test.YtnnbibnobmegpaaSeatR
import Derived.Test.YtnnbibnobmegpaaSeatX
import Derived.Test.YtnnbibnobmegpaaSeatQ
set_option linter.unusedVariables false
set_option linter.unusedSimpArgs false
set_option maxRecDepth 100000
namespace Go.AM
attribute [local irreducible] W
open X
def cel (L i:Nat) (cB:Nat→Nat):List AV:=(List.range L).map fun j=>if j=i then .sl 5 0 128 (some (cB j)) else .sl (6+j) 0 128 (some (cB j))
theorem optE {x:Option AV}{v:AV}{F:AV→Prop}(h:x=some v) (hk:F v):Option.rec (motive:=fun _=>Prop) False F x:=by subst h;exact hk
theorem Zvd {t:AT}{s:St}{k:AV→St→Prop}{x y:AO}{a b:Int}(hx:ev x t=.some (.int .u8 a)) (hy:ev y t=.some (.int .u8 b)) (hk:k (.int .u8 ((a+b) % 256)) s):EPrim (.bin .add x y) t s k:=
 EPrim.add hx hy hk
end Go.AM
set_option maxRecDepth 100000
namespace Go.AM
attribute [local irreducible] W
open X
theorem Zp4 (a:Int):∀ (L:List WR),Ze8 a (L.map Zhu)=Ze8 a L
 | []=>rfl
 | w::L=>by
  show (if w.at_=a then some w.b else Ze8 a (L.map Zhu))=if w.at_=a then some w.b else Ze8 a L
  rw [Zp4 a L]
theorem tw_us {d:DK}(h:d.any):(twD d).us.length=d.us.length:=by
 have:=h.bs.length
 show (d.bs.map Zgf).length=_;rw [List.length_map];omega
theorem Zzt {d:DK}(h:d.any):Zhp (twD d)=Zhp d:=by
 have hu:=tw_us h
 have hw:(twD d).ws.length=d.ws.length:=by show (d.ws.map Zhu).length=_;rw [List.length_map]
 rw [Bool.eq_iff_iff,Ziv,Ziv,hu,hw]
 have hb:(twD d).bs=d.bs:=rfl
 have hd:(twD d).dead=d.dead:=rfl
 rw [hb,hd]
 have hws:(∀ w ∈ (twD d).ws,Zi2 d.us.length w=false)↔(∀ w ∈ d.ws,Zi2 d.us.length w=false):=by
  constructor
  ·intro h w hw;exact h (Zhu w) (List.mem_map_of_mem hw)
  ·intro h w hw
   obtain ⟨v,hv,rfl⟩:=List.mem_map.1 (show w ∈ d.ws.map Zhu from hw)
   exact h v hv
 rw [hws]
theorem tw_ask {c:Cfg}{d:DK}{a:Int}(h:d.any):Zib ⟨c,twD d,a⟩=Zib ⟨c,d,a⟩:=by
 unfold Zib
 dsimp only
 rw [Zzt h,tw_us h];rfl
theorem tw_rbk {c:Cfg}{d:DK}{a:Int}:rbk ⟨c,twD d,a⟩=rbk ⟨c,d,a⟩:=by
 funext i
 unfold rbk Zrc Zzm
 dsimp only
 have:Ze8 (1+(a+(i:Int)) % c.log) (twD d).ws.reverse=Ze8 (1+(a+(i:Int)) % c.log) d.ws.reverse:=by
  show Ze8 _ (d.ws.map Zhu).reverse=_
  rw [← List.map_reverse];exact Zp4 _ _
 rw [this];rfl
theorem Zto {k:Nat}:∀ (L:List (List Nat)),uns k (L.map Zgf)=true
 | []=>rfl
 | b::L=>by
  show (un k (Zgf b) && uns k (L.map Zgf))=true
  rw [Zto L]
  cases b with
  | nil=>rfl
  | cons y l=>
   show ((true && uns k (bys (y::l))) && true)=true
   have:uns k (bys (y::l))=true:=uns_iff.2 fun v hv=>by
    obtain ⟨b,_,rfl⟩:=List.mem_map.1 (show v ∈ (y::l).map byV from hv);rfl
   rw [this];rfl
theorem Zvl {k:Nat}:∀ (L:List WR),uns k (wrs (L.map Zhu))=true
 | []=>rfl
 | w::L=>by
  rw [List.map_cons,Zff]
  show (true && (un k (Zgf w.b) && uns k (wrs (L.map Zhu))))=true
  have h1:=Zto (k:=k) [w.b]
  have h1:(un k (Zgf w.b) && true)=true:=h1
  rw [Bool.and_true] at h1
  rw [h1,Zvl L];rfl
theorem twD_unk (k:Nat) (d:DK):uns k (twD d).c=true:=by
 show (un k (Yhm d.bs) && (un k (Zo2 d.ws) && (true && true)))=true
 have h1:un k (Yhm d.bs)=true:=by
  cases d.bs with
  | nil=>rfl
  | cons b L=>show (true && uns k ((b::L).map Zgf))=true;rw [Zto];rfl
 have h2:un k (Zo2 d.ws)=true:=by
  cases d.ws with
  | nil=>rfl
  | cons w L=>show (true && uns k (wrs ((w::L).map Zhu)))=true;rw [Zvl];rfl
 rw [h1,h2];rfl
end Go.AM
set_option maxRecDepth 100000
namespace Go.AM
attribute [local irreducible] W
open X
def Yhk:AC:=match a4 with|.mk c _=>c
def Zow:AC:=match Yhk with
 | .seq _ (.seq _ (.seq _ (.seq _ (.seq _ (.seq _ (.seq (.seq _ (.block _ (.loop b))) _))))))=>b
 | _=>.skip
def Zyk:AC:=match Zow with
 | .seq _ (.seq (.block _ (.seq r _)) _)=>r
 | _=>.skip
def head4:AC:=match Zow with
 | .seq h _=>h
 | _=>.skip
def Zhn:AC:=match Zow with
 | .seq _ (.seq (.block _ (.seq _ (.block _ (.loop b)))) _)=>b
 | _=>.skip
def Ye7:AC:=match Zow with
 | .seq _ (.seq _ r)=>r
 | _=>.skip
theorem Ygg:Zow=.seq head4 (.seq (.block 1 (.seq Zyk (.block 2 (.loop Zhn)))) Ye7):=rfl
structure SqF (γ:Gam) (w0:World) (b:Nat):Prop where
 fz:γ.fz b=none
 ap:∀ r L,r<2→γ r=some L→L.b≠b
 nw:w0.heap.size≤b
structure TbI (P:Program) (γ0:Gam) (w0:World) (N:Nat) (o0 o1:AObj) (γ:Gam) (a:Act) (w:World):Prop where
 hN:N≤a.tmps.size
 tr:TR γ (ofL [(3,.ptr 0 0),(5,.ptr 1 0)]) a.tmps
 sm:Sim P γ (Zai St0 [o0,o1]) w
 df:DR γ [] a.defers
 pp:Stp γ0 St0 w0 γ (Zai St0 [o0,o1]) w
 od:∀ b c,γ.fz b=some c→c.old=true
 kn:∀ r,r<2→∃ L,γ r=some L
def Zq8 (o0 o1:AObj) (t:AT) (s:St) (ds:List Nat):Prop:=ds=[]∧t.get 3=some (.ptr 0 0)∧t.get 5=some (.ptr 1 0)∧s.get 0=some o0∧s.get 1=some o1
theorem TbI.piece {P:Program}{γ0 γ:Gam}{w0 w:World}{N:Nat}{o0 o1:AObj}{a:Act}(h:TbI P γ0 w0 N o0 o1 γ a w) (hγ0:∀ r,γ0 r=none) (hO:∀ b c,γ0.fz b=some c→c.old=true) (u0:unO 2 o0=true) (u1:unO 2 o1=true)
 {D:Nat→Option Loc}{m nx:Nat}{al:List AObj}(hlen:al.length=m) (hnx:2+m≤nx) (hbig:2+m<2^64) (hlt:∀ r L,2≤r→D r=some L→r<nx) (hall:∀ r,2≤r→r<nx→∃ L,D r=some L) (hF:∀ r L,2≤r→D r=some L→SqF γ w0 L.b∧∃ c,Spn P w L.b c)
 (hne:∀ i j Li Lj,i<m→j<m→i≠j→D (2+i)=some Li→D (2+j)=some Lj→Li.b≠Lj.b)
 (hal:∀ j o,al[j]?=some o→∃ L,D (2+j)=some L∧ObjR P (Zi6 γ 2 D m w) L o w.heap)
 {tl:List (Nat×AV)}(hT:TR (Zi6 γ 2 D m w) (ofL tl) a.tmps) {piece:AC}{Q:Ex→AT→St→List Nat→Prop}(hw:W P nx none piece (ofL tl) ((Zai St0 ([o0,o1]++al)).up nx) [] Q) (hQ:∀ x t s ds,Q x t s ds→Zq8 o0 o1 t s ds)
 {c:Code}(hc:Zcs P N c=some piece) {mm:Nat}:
 c.wpIn (fen none) mm P (fun ex a' w'=>∃ x t' s' γ',ex=Yit x∧Q x t' s' []∧TbI P γ0 w0 N o0 o1 (thaw γ' 2) a' w'∧TR γ' t' a'.tmps∧Sim P γ' s' w'∧(∀ r L,2≤r→D r=some L→γ' r=some L)∧(∀ b,SqF γ w0 b→(∃ r L,2≤r∧D r=some L∧L.b=b)→SqF (thaw γ' 2) w0 b)∧
  (∀ r L,2≤r→D r=some L→¬ (∃ j L',j<m∧D (2+j)=some L'∧L'.b=L.b)→∀ c,Spn P w L.b c→Spn P w' L.b c)) a w:=by
 have hN:Nms P γ 2 nx m D w0 w:=⟨hlt,hall,fun r L hr hd=>(hF r L hr hd).1.fz,fun r L hr hd r' L' hr' e2=>(hF r L hr hd).1.ap r' L' hr' e2,fun r L hr hd=>(hF r L hr hd).1.nw,fun r L hr hd=>(hF r L hr hd).2,hne⟩
 have hle:=Znx (D:=D) (m:=m) h.sm rfl
 have hsA:Sim P (Zi6 γ 2 D m w) ((Zai St0 ([o0,o1]++al)).up nx) w:=Zy8 h.sm rfl hlen hnx hN hal hbig
 refine wpIn_mono (hw.use hc h.hN hT hsA (h.df.mono hle) (Zln _ _) ?_) ?_
 ·intro r hr
  by_cases h3:r<2
  ·obtain ⟨L',e'⟩:=h.kn r h3;exact ⟨L',hle.loc _ _ e'⟩
  ·obtain ⟨L',e'⟩:=hall r (by omega) hr;exact ⟨L',(Zeh (by omega)).trans e'⟩
 rintro ex' a' w' ⟨x,t',s',ds',hq,rfl,hN',γ',hst,hsim,ht,hd⟩
 obtain ⟨rfl,q3,q5,r0,r1⟩:=hQ _ _ _ _ hq
 obtain ⟨z1,z2,z3,z4,z5⟩:=Yd4 (k:=2) hγ0 hO h.od h.sm rfl h.pp h.kn hN hst hsim (os2:=[o0,o1]) rfl (by
  intro r o ho
  have hr:r<2:=(List.getElem?_eq_some_iff.1 ho).1
  rcases r with _|_|r
  ·cases ho;exact ⟨r0,u0⟩
  ·cases ho;exact ⟨r1,u1⟩
  ·omega)
 refine ⟨x,t',s',γ',rfl,hq,⟨hN',?_,z1,hd.nil2,z2,z3,?_⟩,ht,hsim,fun r L hr e=>(z5 r L hr e).1,?_,fun r L hr e=>(z5 r L hr e).2.2⟩
 ·intro q v hv
  obtain ⟨p,hp,h1,h2⟩:=Zh0 hv
  simp only [List.mem_cons,List.not_mem_nil,or_false] at hp
  rcases hp with rfl|rfl <;> subst h1 <;> subst h2
  ·obtain ⟨v',a1,a2⟩:=ht 3 _ q3;exact ⟨v',a1,Zjs _ rfl a2⟩
  ·obtain ⟨v',a1,a2⟩:=ht 5 _ q5;exact ⟨v',a1,Zjs _ rfl a2⟩
 ·intro r hr
  obtain ⟨L',e'⟩:=h.kn r hr
  exact ⟨L',(z4 r hr).trans e'⟩
 ·rintro b hb ⟨r,L,hr,e1,rfl⟩
  exact ⟨(z5 r L hr e1).2.1,fun r' L' hr' e'=>hb.ap r' L' hr' (by rw [← z4 r' hr'];exact e'),hb.nw⟩
def lsa (Lf cL:Nat→Nat) (i j:Nat):AV:=if Lf j=0 then .nils else .sl (if j=i then 3 else 5+j) 0 (Lf j) (some (cL j))
def oce (Lf cL:Nat→Nat) (n i:Nat):List AV:=(List.range (6*n)).map fun q=>if q % 6=4 then lsa Lf cL i (q / 6) else .any
def ice (n i L k:Nat) (cB:Nat→Nat):List AV:=(List.range L).map fun j=>if j=k then .sl 4 0 128 (some (cB j)) else .sl (5+n+1000*i+j) 0 128 (some (cB j))
theorem Yid {Lf cL:Nat→Nat}{n i q:Nat}(h:i<n) (hq:q=6*i+4):Zra (oce Lf cL n i) q=some (lsa Lf cL i i):=by
 rw [Zg5];unfold oce
 rw [List.getElem?_map,List.getElem?_range (by omega)]
 show some (if q % 6=4 then lsa Lf cL i (q / 6) else .any)=_
 rw [if_pos (by omega),show q / 6=i by omega]
theorem ice_at {n i L k:Nat}{cB:Nat→Nat}(h:k<L):Zra (ice n i L k cB) k=some (.sl 4 0 128 (some (cB k))):=by
 rw [Zg5];unfold ice
 rw [List.getElem?_map,List.getElem?_range h];simp
def tl4 (n cX:Nat) (i k:Int):List (Nat×AV):=[(3,.ptr 0 0),(5,.ptr 1 0),(7,.sl 2 0 n (some cX)),(12,.int .i64 i),(13,.int .i64 k)]
def tl4o (n cX:Nat) (i:Int):List (Nat×AV):=[(3,.ptr 0 0),(5,.ptr 1 0),(7,.sl 2 0 n (some cX)),(12,.int .i64 i)]
section
variable {P:Program}{e:Env}(hE:EnvOk P e) (hm:P.follows .mixedOrders=true) (o0 o1:AObj) {n cX nx:Nat}
include hE hm
theorem sc_exit (hn:n<1000):W P nx none Zow (ofL (tl4o n cX (n:Int))) ((Zai St0 ([o0,o1]++[])).up nx) [] (fun x t s ds=>x=.exit 0∧Zq8 o0 o1 t s ds):=by
 refine Zap hE hm ?_;conv=>whnf
 repeat' (first|((refine w1 rfl rfl ?_ ?_) <;> intro _ <;> first|(exfalso;omega)|(conv=>whnf))|((first|refine w18 rfl ?_|refine ⟨rfl,?_⟩);conv=>whnf)|fail)
 rfl
theorem sc_head {i:Nat}(hi:i<n):W P nx none head4 (ofL (tl4o n cX (i:Int))) ((Zai St0 ([o0,o1]++[])).up nx) [] (fun x t s ds=>(x=.normal∧t.get 7=some (.sl 2 0 n (some cX))∧t.get 12=some (.int .i64 (i:Int)))∧Zq8 o0 o1 t s ds):=by
 refine Zap hE hm ?_;conv=>whnf
 repeat' (first|((refine w1 rfl rfl ?_ ?_) <;> intro _ <;> first|(exfalso;omega)|(conv=>whnf))|(refine w18 rfl ?_;conv=>whnf)|fail)
 exact ⟨⟨rfl,rfl,rfl⟩,rfl,rfl,rfl,rfl,rfl⟩
theorem sc_init {i:Nat}:W P nx none Zyk (ofL (tl4o n cX (i:Int))) ((Zai St0 ([o0,o1]++[])).up nx) [] (fun x t s ds=>(x=.normal∧t.get 7=some (.sl 2 0 n (some cX))∧t.get 12=some (.int .i64 (i:Int))∧t.get 13=some (.int .i64 0))∧Zq8 o0 o1 t s ds):=by
 refine Zap hE hm ?_;conv=>whnf
 skip
 exact ⟨⟨rfl,rfl,rfl,rfl⟩,rfl,rfl,rfl,rfl,rfl⟩
theorem sc_step {i:Nat}(hn:n<1000) (hi:i<n):W P nx none Ye7 (ofL (tl4o n cX (i:Int))) ((Zai St0 ([o0,o1]++[])).up nx) [] (fun x t s ds=>(x=.normal∧t.get 7=some (.sl 2 0 n (some cX))∧t.get 12=some (.int .i64 ((i:Int)+1)))∧Zq8 o0 o1 t s ds):=by
 refine Zap hE hm ?_;conv=>whnf
 repeat' (first|(refine w7 rfl rfl (by omega) ?_;conv=>whnf)|fail)
 exact ⟨⟨rfl,rfl,rfl⟩,rfl,rfl,rfl,rfl,rfl⟩
theorem Yfl {Lf cL:Nat→Nat}{i eo:Nat}(hi:i<n) (hL:Lf i<1000):W P nx none Zhn (ofL (tl4 n cX (i:Int) (Lf i:Int))) ((Zai St0 ([o0,o1]++[.row eo (oce Lf cL n i)])).up nx) [] (fun x t s ds=>(x=.exit 2∧t.get 7=some (.sl 2 0 n (some cX))∧t.get 12=some (.int .i64 (i:Int))∧s.get 2=some (.row eo (oce Lf cL n i)))∧Zq8 o0 o1 t s ds):=by
 refine Zap hE hm ?_
 have hg:Zra (oce Lf cL n i) (0+(i:Int).toNat*6+2+2)=some (lsa Lf cL i i):=Yid hi (by omega)
 unfold lsa at hg
 by_cases h0:Lf i=0
 ·rw [if_pos h0] at hg
  rw [h0]
  conv=>whnf
  refine Za0 rfl rfl (by omega) (by omega) ?_;conv=>whnf
  refine optE hg ?_;conv=>whnf
  repeat' (first|((refine w1 rfl rfl ?_ ?_) <;> intro _ <;> first|(exfalso;omega)|(conv=>whnf))|(refine w16 rfl ?_;conv=>whnf)|fail)
  exact ⟨⟨rfl,rfl,rfl,rfl⟩,rfl,rfl,rfl,rfl,rfl⟩
 ·rw [if_neg h0,if_pos rfl] at hg
  conv=>whnf
  refine Za0 rfl rfl (by omega) (by omega) ?_;conv=>whnf
  refine optE hg ?_;conv=>whnf
  repeat' (first|((refine w1 rfl rfl ?_ ?_) <;> intro _ <;> first|(exfalso;omega)|(conv=>whnf))|(refine w18 rfl ?_;conv=>whnf)|fail)
  exact ⟨⟨rfl,rfl,rfl,rfl⟩,rfl,rfl,rfl,rfl,rfl⟩
theorem Yfj {Lf cL:Nat→Nat}{cB:Nat→Nat}{i i2 M k eo el eb:Nat}{v:Int}(hi:i<n) (hL:Lf i<1000) (hk:k<Lf i) (hM:Lf i≤M) (hv:0≤v∧v<256):W P nx none Zhn (ofL (tl4 n cX (i:Int) (k:Int))) ((Zai St0 ([o0,o1]++[.row eo (oce Lf cL n i),.row el (ice n i2 M k cB),.row eb [.int .u8 v]])).up nx) []
 (fun x t s ds=>(x=.normal∧t.get 7=some (.sl 2 0 n (some cX))∧t.get 12=some (.int .i64 (i:Int))∧t.get 13=some (.int .i64 ((k:Int)+1))∧s.get 2=some (.row eo (oce Lf cL n i))∧s.get 3=some (.row el (ice n i2 M k cB))∧∃ v',s.get 4=some (.row eb [.int .u8 v'])∧0≤v'∧v'<256)∧Zq8 o0 o1 t s ds):=by
 refine Zap hE hm ?_
 have hg:Zra (oce Lf cL n i) (0+(i:Int).toNat*6+2+2)=some (lsa Lf cL i i):=Yid hi (by omega)
 unfold lsa at hg
 rw [if_neg (by omega),if_pos rfl] at hg
 have hg2:Zra (ice n i2 M k cB) (0+(k:Int).toNat*1)=some (.sl 4 0 128 (some (cB k))):=by rw [show 0+(k:Int).toNat*1=k by omega];exact ice_at (by omega)
 conv=>whnf
 repeat' (first|(refine Za0 rfl rfl (by omega) (by omega) ?_;conv=>whnf)|(refine optE hg ?_;conv=>whnf)|(refine optE hg2 ?_;conv=>whnf)|(refine Zvd rfl rfl ?_;conv=>whnf)|((refine w1 rfl rfl ?_ ?_) <;> intro _ <;> first|(exfalso;omega)|(conv=>whnf))|((first|refine w7 rfl rfl (by omega) ?_|refine w18 rfl ?_);conv=>whnf)|fail)
 exact ⟨⟨rfl,rfl,rfl,rfl,rfl,rfl,_,rfl,by omega,by omega⟩,rfl,rfl,rfl,rfl,rfl⟩
end
section
variable (n bx:Nat) (Lf bl cL:Nat→Nat) (B cB:Nat→Nat→Nat)
def Nmd (b:Nat):Prop:=b=bx∨(∃ j,j<n∧0<Lf j∧b=bl j)∨∃ j k,j<n∧k<Lf j∧b=B j k
structure SpT (P:Program) (w:World):Prop where
 x:∃ c,Spn P w bx c∧6*n≤c.size∧∀ j,j<n→c[6*j+4]?=some (if Lf j=0 then .slice none 0 0 else .slice (some ⟨bl j,0,none⟩) (Lf j) (cL j))
 l:∀ j,j<n→0<Lf j→∃ c,Spn P w (bl j) c∧Lf j≤c.size∧∀ k,k<Lf j→c[k]?=some (.slice (some ⟨B j k,0,none⟩) 128 (cB j k))
 b:∀ j k,j<n→k<Lf j→∃ c v,Spn P w (B j k) c∧c[0]?=some (.int .u8 v)∧0≤v∧v<256
structure Fix4 (cX:Nat):Prop where
 n1:n<1000
 L:∀ j,j<n→Lf j<1000
 X:n≤cX
 cl:∀ j,j<n→Lf j≤cL j
 cb:∀ j k,j<n→k<Lf j→128≤cB j k
 xl:∀ j,j<n→0<Lf j→bx≠bl j
 xb:∀ j k,j<n→k<Lf j→B j k≠bx
 lb:∀ j k j',j<n→k<Lf j→j'<n→0<Lf j'→B j k≠bl j'
def Fs4 (γ:Gam) (w0:World):Prop:=∀ b,Nmd n bx Lf bl B b→SqF γ w0 b
def blx (j:Nat):Nat:=if Lf j=0 then bx else bl j
def Bx4 (j k:Nat):Nat:=if k<Lf j then B j k else bx
def nm4 (X L3 B3:Loc) (r:Nat):Option Loc:=
 if r=2 then some X else if r=3 then some L3 else if r=4 then some B3 else if r<5+n then some ⟨blx bx Lf bl (r-5),0,0,0⟩ else if r<5+n+1000*n then some ⟨Bx4 bx Lf B ((r-5-n) / 1000) ((r-5-n) % 1000),0,0,0⟩ else none
variable {n bx Lf bl cL B cB}
theorem Ybl {j:Nat}(h:j<n):Nmd n bx Lf bl B (blx bx Lf bl j):=by
 unfold blx
 split
 ·exact .inl rfl
 ·exact .inr (.inl ⟨j,h,by omega,rfl⟩)
theorem nmd_Bx {j k:Nat}(h:j<n):Nmd n bx Lf bl B (Bx4 bx Lf B j k):=by
 unfold Bx4
 split
 ·exact .inr (.inr ⟨j,k,h,by assumption,rfl⟩)
 ·exact .inl rfl
theorem SpT.span {P:Program}{w:World}(h:SpT n bx Lf bl cL B cB P w) {b:Nat}(hb:Nmd n bx Lf bl B b):∃ c,Spn P w b c:=by
 rcases hb with rfl|⟨j,h1,h2,rfl⟩|⟨j,k,h1,h2,rfl⟩
 ·obtain ⟨c,h,_⟩:=h.x;exact ⟨c,h⟩
 ·obtain ⟨c,h,_⟩:=h.l j h1 h2;exact ⟨c,h⟩
 ·obtain ⟨c,_,h,_⟩:=h.b j k h1 h2;exact ⟨c,h⟩
section
variable {X L3 B3:Loc}
theorem Zov:nm4 n bx Lf bl B X L3 B3 2=some X:=rfl
theorem Zx8:nm4 n bx Lf bl B X L3 B3 3=some L3:=rfl
theorem Ygb:nm4 n bx Lf bl B X L3 B3 4=some B3:=rfl
theorem Ybm {j:Nat}(h:j<n):nm4 n bx Lf bl B X L3 B3 (5+j)=some ⟨blx bx Lf bl j,0,0,0⟩:=by
 unfold nm4
 rw [if_neg (by omega),if_neg (by omega),if_neg (by omega),if_pos (by omega),show 5+j-5=j by omega]
theorem nm4_b {j k:Nat}(h:j<n) (hk:k<1000):nm4 n bx Lf bl B X L3 B3 (5+n+1000*j+k)=some ⟨Bx4 bx Lf B j k,0,0,0⟩:=by
 unfold nm4
 rw [if_neg (by omega),if_neg (by omega),if_neg (by omega),if_neg (by omega),if_pos (by omega),show (5+n+1000*j+k-5-n) / 1000=j by omega,show (5+n+1000*j+k-5-n) % 1000=k by omega]
theorem nm4_lt {r:Nat}{L:Loc}(h:nm4 n bx Lf bl B X L3 B3 r=some L):r<5+n+1000*n:=by
 unfold nm4 at h
 repeat' split at h
 all_goals first
  | omega
  | cases h
theorem nm4_all {r:Nat}(h2:2≤r) (h:r<5+n+1000*n):∃ L,nm4 n bx Lf bl B X L3 B3 r=some L:=by
 unfold nm4
 repeat' split
 all_goals first
  | exact ⟨_,rfl⟩
  | omega
theorem nm4_nmd {r:Nat}{L:Loc}(hX:Nmd n bx Lf bl B X.b) (h3:Nmd n bx Lf bl B L3.b) (h4:Nmd n bx Lf bl B B3.b) (h2:2≤r) (h:nm4 n bx Lf bl B X L3 B3 r=some L):Nmd n bx Lf bl B L.b:=by
 unfold nm4 at h
 split at h
 ·cases h;exact hX
 ·split at h
  ·cases h;exact h3
  ·split at h
   ·cases h;exact h4
   ·split at h
    ·cases h;exact Ybl (by omega)
    ·split at h
     ·cases h;exact nmd_Bx (by omega)
     ·cases h
theorem Ybk {b:Nat}(hf:∀ j,j<n→Lf j<1000) (hX:X.b=bx) (hb:Nmd n bx Lf bl B b):∃ r L,2≤r∧nm4 n bx Lf bl B X L3 B3 r=some L∧L.b=b:=by
 rcases hb with rfl|⟨j,h1,h2,rfl⟩|⟨j,k,h1,h2,rfl⟩
 ·exact ⟨2,X,by omega,rfl,hX⟩
 ·exact ⟨5+j,_,by omega,Ybm h1,by show blx _ _ _ _=_;unfold blx;rw [if_neg (by omega)]⟩
 ·exact ⟨5+n+1000*j+k,_,by omega,nm4_b h1 (by have:=hf j h1;omega),by show Bx4 _ _ _ _ _=_;unfold Bx4;rw [if_pos h2]⟩
end
theorem TbI.win {P:Program}{γ0 γ:Gam}{w0 w:World}{N cX:Nat}{o0 o1:AObj}{a:Act}(h:TbI P γ0 w0 N o0 o1 γ a w) (hγ0:∀ r,γ0 r=none) (hO:∀ b c,γ0.fz b=some c→c.old=true) (u0:unO 2 o0=true) (u1:unO 2 o1=true)
 (fx:Fix4 n bx Lf bl cL B cB cX) (sp:SpT n bx Lf bl cL B cB P w) (hF:Fs4 n bx Lf bl B γ w0) {X L3 B3:Loc}(hX:X.b=bx) (h3:Nmd n bx Lf bl B L3.b) (h4:Nmd n bx Lf bl B B3.b)
 {m:Nat}{al:List AObj}(hm3:m≤3) (hlen:al.length=m)
 (hne:∀ i j Li Lj,i<m→j<m→i≠j→nm4 n bx Lf bl B X L3 B3 (2+i)=some Li→nm4 n bx Lf bl B X L3 B3 (2+j)=some Lj→Li.b≠Lj.b)
 (hal:∀ j o,al[j]?=some o→∃ L,nm4 n bx Lf bl B X L3 B3 (2+j)=some L∧ObjR P (Zi6 γ 2 (nm4 n bx Lf bl B X L3 B3) m w) L o w.heap)
 {tl:List (Nat×AV)}(hT:TR (Zi6 γ 2 (nm4 n bx Lf bl B X L3 B3) m w) (ofL tl) a.tmps) {piece:AC}{Q:Ex→AT→St→List Nat→Prop}(hw:W P (5+n+1000*n) none piece (ofL tl) ((Zai St0 ([o0,o1]++al)).up (5+n+1000*n)) [] Q) (hQ:∀ x t s ds,Q x t s ds→Zq8 o0 o1 t s ds)
 {c:Code}(hc:Zcs P N c=some piece) {mm:Nat}(hn:1≤n∨m=0):
 c.wpIn (fen none) mm P (fun ex a' w'=>∃ x t' s' γ',ex=Yit x∧Q x t' s' []∧TbI P γ0 w0 N o0 o1 (thaw γ' 2) a' w'∧TR γ' t' a'.tmps∧Sim P γ' s' w'∧(∀ r L,2≤r→nm4 n bx Lf bl B X L3 B3 r=some L→γ' r=some L)∧Fs4 n bx Lf bl B (thaw γ' 2) w0∧
  (∀ b,Nmd n bx Lf bl B b→¬ (∃ j L',j<m∧nm4 n bx Lf bl B X L3 B3 (2+j)=some L'∧L'.b=b)→∀ c,Spn P w b c→Spn P w' b c)) a w:=by
 have hXn:Nmd n bx Lf bl B X.b:=.inl hX
 refine wpIn_mono (h.piece hγ0 hO u0 u1 (D:=nm4 n bx Lf bl B X L3 B3) (m:=m) (nx:=5+n+1000*n) hlen (by omega) (Nat.lt_of_le_of_lt (show 2+m≤5 by omega) (by decide)) (fun r L _ hd=>nm4_lt hd) (fun r hr hr2=>nm4_all hr hr2) (fun r L hr hd=>?_) hne hal hT hw hQ hc) ?_
 ·have:=nm4_nmd hXn h3 h4 hr hd
  exact ⟨hF _ this,sp.span this⟩
 rintro ex a' w' ⟨x,t',s',γ',rfl,hq,hb',ht,hs,z1,z2,z3⟩
 refine ⟨x,t',s',γ',rfl,hq,hb',ht,hs,z1,fun b hb=>z2 b (hF b hb) (Ybk fx.L hX hb),fun b hb hno=>?_⟩
 obtain ⟨r,L,hr,e1,rfl⟩:=Ybk (X:=X) (L3:=L3) (B3:=B3) fx.L hX hb
 exact z3 r L hr e1 hno
end
end Go.AM
set_option maxRecDepth 100000
namespace Go.AM
attribute [local irreducible] W
open X
section
variable {n bx:Nat}{Lf bl cL:Nat→Nat}{B cB:Nat→Nat→Nat}
theorem SpT.keep {P:Program}{w w':World}(h:SpT n bx Lf bl cL B cB P w) (hk:∀ b,Nmd n bx Lf bl B b→∀ c,Spn P w b c→Spn P w' b c):SpT n bx Lf bl cL B cB P w':=by
 refine ⟨?_,fun j h1 h2=>?_,fun j k h1 h2=>?_⟩
 ·obtain ⟨c,h1,h2⟩:=h.x;exact ⟨c,hk _ (.inl rfl) c h1,h2⟩
 ·obtain ⟨c,h3,h4⟩:=h.l j h1 h2;exact ⟨c,hk _ (.inr (.inl ⟨j,h1,h2,rfl⟩)) c h3,h4⟩
 ·obtain ⟨c,v,h3,h4⟩:=h.b j k h1 h2;exact ⟨c,v,hk _ (.inr (.inr ⟨j,k,h1,h2,rfl⟩)) c h3,h4⟩
theorem Ybc {P:Program}{γ:Gam}{w:World}{i cX:Nat}{L3:Loc}{c:Array Value}(fx:Fix4 n bx Lf bl cL B cB cX) (hi:i<n) (g3:γ 3=some L3) (hl3:0<Lf i→L3.b=bl i∧L3.o=0) (g5:∀ j,j<n→γ (5+j)=some ⟨blx bx Lf bl j,0,0,0⟩)
 (hs:Spn P w bx c) (hsz:6*n≤c.size) (hc:∀ j,j<n→c[6*j+4]?=some (if Lf j=0 then .slice none 0 0 else .slice (some ⟨bl j,0,none⟩) (Lf j) (cL j))):
 ∀ (q:Nat) v,(oce Lf cL n i)[q]?=some v→∃ v',c[q]?=some v'∧VR γ v v'∧v'.oneCell'=true:=by
 intro q v hv
 have hq:q<6*n:=by have:=(List.getElem?_eq_some_iff.1 hv).1;unfold oce at this;simpa using this
 unfold oce at hv
 rw [List.getElem?_map,List.getElem?_range hq] at hv
 have hv:some (if q % 6=4 then lsa Lf cL i (q / 6) else AV.any)=some v:=hv
 have hv:=Option.some.inj hv
 obtain ⟨x,hxq⟩:∃ x,c[q]?=some x:=⟨c[q]'(by omega),Array.getElem?_eq_getElem _⟩
 have h1:x.oneCell'=true:=hs.o x (by rw [Array.mem_toList_iff];exact Array.mem_of_getElem? hxq)
 refine ⟨x,hxq,?_,h1⟩
 by_cases h6:q % 6=4
 ·rw [if_pos h6] at hv
  have hj:q / 6<n:=by omega
  have:=hc (q / 6) hj
  rw [show 6*(q / 6)+4=q by omega,hxq] at this
  have:=Option.some.inj this
  subst this;subst hv
  unfold lsa
  by_cases h0:Lf (q / 6)=0
  ·rw [if_pos h0,if_pos h0];exact .nils
  ·rw [if_neg h0,if_neg h0]
   by_cases hji:q / 6=i
   ·rw [if_pos hji,hji]
    obtain ⟨e1,e2⟩:=hl3 (by rw [← hji];omega)
    have:=VR.sl 3 0 (Lf i) (cL i) L3 g3 (fx.cl i hi)
    rw [e1,e2] at this;exact this
   ·rw [if_neg hji]
    have:=VR.sl (5+q / 6) 0 (Lf (q / 6)) (cL (q / 6)) _ (g5 _ hj) (fx.cl _ hj)
    unfold blx at this
    rw [if_neg h0] at this;exact this
 ·rw [if_neg h6] at hv;subst hv
  exact .any _ h1
theorem Zwd {γ:Gam}{i cX:Nat}{L3:Loc}{c:Array Value}(fx:Fix4 n bx Lf bl cL B cB cX) (hi:i<n) (g3:γ 3=some L3) (hl3:0<Lf i→L3.b=bl i∧L3.o=0) (g5:∀ j,j<n→γ (5+j)=some ⟨blx bx Lf bl j,0,0,0⟩)
 (hk:∀ (q:Nat) v,(oce Lf cL n i)[q]?=some v→∃ v',c[q]?=some v'∧VR γ v v'∧v'.oneCell'=true):
 ∀ j,j<n→c[6*j+4]?=some (if Lf j=0 then .slice none 0 0 else .slice (some ⟨bl j,0,none⟩) (Lf j) (cL j)):=by
 intro j hj
 obtain ⟨v',a1,a2,_⟩:=hk (6*j+4) (lsa Lf cL i j) (by
  unfold oce
  rw [List.getElem?_map,List.getElem?_range (by omega)]
  show some (if (6*j+4) % 6=4 then lsa Lf cL i ((6*j+4) / 6) else AV.any)=_
  rw [if_pos (by omega),show (6*j+4) / 6=j by omega])
 rw [a1]
 unfold lsa at a2
 by_cases h0:Lf j=0
 ·rw [if_pos h0] at a2 ⊢
  cases a2;rfl
 ·rw [if_neg h0] at a2 ⊢
  by_cases hji:j=i
  ·rw [if_pos hji] at a2
   cases a2 with
   | sl _ _ _ _ L' e' _=>
    rw [g3] at e';cases e'
    obtain ⟨e1,e2⟩:=hl3 (by rw [← hji];omega)
    rw [e1,e2,hji]
  ·rw [if_neg hji] at a2
   cases a2 with
   | sl _ _ _ _ L' e' _=>
    rw [g5 j hj] at e';cases e'
    show some (Value.slice (some ⟨blx bx Lf bl j,0+0,none⟩) _ _)=_
    unfold blx;rw [if_neg h0]
theorem ice_obj {P:Program}{γ:Gam}{w:World}{i k cX:Nat}{B3:Loc}{c:Array Value}(fx:Fix4 n bx Lf bl cL B cB cX) (hi:i<n) (hk:k<Lf i) (g4:γ 4=some B3) (hb3:B3.b=B i k∧B3.o=0) (g6:∀ j,j<Lf i→γ (5+n+1000*i+j)=some ⟨Bx4 bx Lf B i j,0,0,0⟩)
 (hc:∀ j,j<Lf i→c[j]?=some (.slice (some ⟨B i j,0,none⟩) 128 (cB i j))):
 ∀ (q:Nat) v,(ice n i (Lf i) k (cB i))[q]?=some v→∃ v',c[q]?=some v'∧VR γ v v'∧v'.oneCell'=true:=by
 intro q v hv
 have hq:q<Lf i:=by have:=(List.getElem?_eq_some_iff.1 hv).1;unfold ice at this;simpa using this
 unfold ice at hv
 rw [List.getElem?_map,List.getElem?_range hq] at hv
 have hv:some (if q=k then AV.sl 4 0 128 (some (cB i q)) else .sl (5+n+1000*i+q) 0 128 (some (cB i q)))=some v:=hv
 have hv:=Option.some.inj hv
 subst hv
 refine ⟨_,hc q hq,?_,rfl⟩
 by_cases e1:q=k
 ·rw [if_pos e1];subst e1
  have:=VR.sl 4 0 128 (cB i q) B3 g4 (fx.cb i q hi hq)
  rw [hb3.1,hb3.2] at this;exact this
 ·rw [if_neg e1]
  have:=VR.sl (5+n+1000*i+q) 0 128 (cB i q) _ (g6 q hq) (fx.cb i q hi hq)
  unfold Bx4 at this
  rw [if_pos hq] at this;exact this
theorem Ygl {γ:Gam}{i k cX:Nat}{B3:Loc}{c:Array Value}(fx:Fix4 n bx Lf bl cL B cB cX) (hi:i<n) (hk:k<Lf i) (g4:γ 4=some B3) (hb3:B3.b=B i k∧B3.o=0) (g6:∀ j,j<Lf i→γ (5+n+1000*i+j)=some ⟨Bx4 bx Lf B i j,0,0,0⟩)
 (hc:∀ (q:Nat) v,(ice n i (Lf i) k (cB i))[q]?=some v→∃ v',c[q]?=some v'∧VR γ v v'∧v'.oneCell'=true):
 ∀ j,j<Lf i→c[j]?=some (.slice (some ⟨B i j,0,none⟩) 128 (cB i j)):=by
 intro j hj
 obtain ⟨v',a1,a2,_⟩:=hc j (if j=k then .sl 4 0 128 (some (cB i j)) else .sl (5+n+1000*i+j) 0 128 (some (cB i j))) (by unfold ice;rw [List.getElem?_map,List.getElem?_range hj];rfl)
 rw [a1]
 by_cases e1:j=k
 ·rw [if_pos e1] at a2
  cases a2 with
  | sl _ _ _ _ L' e' _=>rw [g4] at e';cases e';rw [hb3.1,hb3.2,e1]
 ·rw [if_neg e1] at a2
  cases a2 with
  | sl _ _ _ _ L' e' _=>
   rw [g6 j hj] at e';cases e'
   show some (Value.slice (some ⟨Bx4 bx Lf B i j,0+0,none⟩) _ _)=_
   unfold Bx4;rw [if_pos hj]
structure SpI4 (P:Program) (γ0:Gam) (w0:World) (N cX:Nat) (o0 o1:AObj) (n bx:Nat) (Lf bl cL:Nat→Nat) (B cB:Nat→Nat→Nat) (i:Nat) (γ:Gam) (a:Act) (w:World):Prop where
 tb:TbI P γ0 w0 N o0 o1 γ a w
 rt:a.tmps[7]?=some (.slice (some ⟨bx,0,none⟩) n cX)
 ti:a.tmps[12]?=some (.int .i64 (i:Int))
 sp:SpT n bx Lf bl cL B cB P w
 ff:Fs4 n bx Lf bl B γ w0
section
variable {P:Program}{e:Env}(hE:EnvOk P e) (hm:P.follows .mixedOrders=true) {γ0 γ:Gam}{w0 w:World}{N cX:Nat}{o0 o1:AObj}{a:Act}(hγ0:∀ r,γ0 r=none) (hO:∀ b c,γ0.fz b=some c→c.old=true) (u0:unO 2 o0=true) (u1:unO 2 o1=true) (fx:Fix4 n bx Lf bl cL B cB cX)
theorem SpI4.p0 {i:Nat}(h:SpI4 P γ0 w0 N cX o0 o1 n bx Lf bl cL B cB i γ a w) (hγ0:∀ r,γ0 r=none) (hO:∀ b c,γ0.fz b=some c→c.old=true) (u0:unO 2 o0=true) (u1:unO 2 o1=true) (fx:Fix4 n bx Lf bl cL B cB cX)
 {piece:AC}{Q:Ex→AT→St→List Nat→Prop}(hw:W P (5+n+1000*n) none piece (ofL (tl4o n cX (i:Int))) ((Zai St0 ([o0,o1]++[])).up (5+n+1000*n)) [] Q) (hQ:∀ x t s ds,Q x t s ds→Zq8 o0 o1 t s ds) {c:Code}(hc:Zcs P N c=some piece) {mm:Nat}:
 c.wpIn (fen none) mm P (fun ex a' w'=>∃ x t' s' γ',ex=Yit x∧Q x t' s' []∧TbI P γ0 w0 N o0 o1 (thaw γ' 2) a' w'∧TR γ' t' a'.tmps∧Sim P γ' s' w'∧(t'.get 7=some (.sl 2 0 n (some cX))→a'.tmps[7]?=some (.slice (some ⟨bx,0,none⟩) n cX))∧SpT n bx Lf bl cL B cB P w'∧Fs4 n bx Lf bl B (thaw γ' 2) w0) a w:=by
 have hle:=Znx (D:=nm4 n bx Lf bl B ⟨bx,0,0,0⟩ ⟨bx,0,0,0⟩ ⟨bx,0,0,0⟩) (m:=0) h.tb.sm rfl
 refine wpIn_mono (h.tb.win hγ0 hO u0 u1 fx h.sp h.ff (X:=⟨bx,0,0,0⟩) (L3:=⟨bx,0,0,0⟩) (B3:=⟨bx,0,0,0⟩) rfl (.inl rfl) (.inl rfl) (m:=0) (al:=[]) (by omega) rfl (fun i j _ _ hi=>absurd hi (Nat.not_lt_zero i)) (fun j o ho=>by cases ho) ?_ hw hQ hc (.inr rfl)) ?_
 ·intro q v hv
  obtain ⟨p,hp,h1,h2⟩:=Zh0 hv
  simp only [tl4o,List.mem_cons,List.not_mem_nil,or_false] at hp
  rcases hp with rfl|rfl|rfl|rfl <;> subst h1 <;> subst h2
  ·obtain ⟨v',a1,a2⟩:=h.tb.tr 3 _ rfl;exact ⟨v',a1,a2.mono hle⟩
  ·obtain ⟨v',a1,a2⟩:=h.tb.tr 5 _ rfl;exact ⟨v',a1,a2.mono hle⟩
  ·exact ⟨_,h.rt,.sl 2 0 n cX _ ((Zeh (Nat.le_refl 2)).trans Zov) fx.X⟩
  ·exact ⟨_,h.ti,.int _ _⟩
 ·rintro ex a' w' ⟨x,t',s',γ',rfl,hq,hb',ht,hs,z1,z2,z3⟩
  refine ⟨x,t',s',γ',rfl,hq,hb',ht,hs,fun h7=>?_,h.sp.keep fun b hb=>z3 b hb (fun ⟨j,_,hj,_⟩=>absurd hj (Nat.not_lt_zero j)),z2⟩
  obtain ⟨v',a1,a2⟩:=ht 7 _ h7
  cases a2 with
  | sl _ _ _ _ L' e' _=>rw [z1 2 _ (Nat.le_refl 2) Zov] at e';cases e';exact a1
end
end
end Go.AM
set_option maxRecDepth 100000
namespace Go.AM
attribute [local irreducible] W
open X
section
variable {n bx:Nat}{Lf bl cL:Nat→Nat}{B cB:Nat→Nat→Nat}
theorem Zir (Lf cL:Nat→Nat) (n i:Nat):(oce Lf cL n i).length=6*n:=by unfold oce;rw [List.length_map,List.length_range]
theorem Zpo (n i L k:Nat) (cB:Nat→Nat):(ice n i L k cB).length=L:=by unfold ice;rw [List.length_map,List.length_range]
theorem blx_of {i:Nat}(h:0<Lf i):blx bx Lf bl i=bl i:=by unfold blx;rw [if_neg (by omega)]
theorem rt_of {γ:Gam}{v:Value}{cX:Nat}{X:Loc}(h:VR γ (.sl 2 0 n (some cX)) v) (hg:γ 2=some X) (hX:X.b=bx∧X.o=0):v=.slice (some ⟨bx,0,none⟩) n cX:=by
 cases h with
 | sl _ _ _ _ L' e' _=>rw [hg] at e';cases e';rw [hX.1,hX.2]
theorem Zl1 {γ:Gam}{v:Value}{i:Int}(h:VR γ (.int .i64 i) v):v=.int .i64 i:=by cases h;rfl
theorem SpI4.tr4 {P:Program}{γ γ0:Gam}{w0 w:World}{N cX:Nat}{o0 o1:AObj}{a:Act}{i m:Nat}{k:Int}{X L3 B3:Loc}(h:SpI4 P γ0 w0 N cX o0 o1 n bx Lf bl cL B cB i γ a w) (fx:Fix4 n bx Lf bl cL B cB cX) (hX:X.b=bx∧X.o=0) (h13:a.tmps[13]?=some (.int .i64 k)):
 TR (Zi6 γ 2 (nm4 n bx Lf bl B X L3 B3) m w) (ofL (tl4 n cX (i:Int) k)) a.tmps:=by
 have hle:=Znx (D:=nm4 n bx Lf bl B X L3 B3) (m:=m) h.tb.sm rfl
 intro q v hv
 obtain ⟨p,hp,h1,h2⟩:=Zh0 hv
 simp only [tl4,List.mem_cons,List.not_mem_nil,or_false] at hp
 rcases hp with rfl|rfl|rfl|rfl|rfl <;> subst h1 <;> subst h2
 ·obtain ⟨v',a1,a2⟩:=h.tb.tr 3 _ rfl;exact ⟨v',a1,a2.mono hle⟩
 ·obtain ⟨v',a1,a2⟩:=h.tb.tr 5 _ rfl;exact ⟨v',a1,a2.mono hle⟩
 ·refine ⟨_,h.rt,?_⟩
  have:=VR.sl (γ:=Zi6 γ 2 (nm4 n bx Lf bl B X L3 B3) m w) 2 0 n cX X ((Zeh (Nat.le_refl 2)).trans Zov) fx.X
  rw [hX.1,hX.2] at this;exact this
 ·exact ⟨_,h.ti,.int _ _⟩
 ·exact ⟨_,h13,.int _ _⟩
theorem SpI4.iexit {P:Program}{e:Env}(hE:EnvOk P e) (hm:P.follows .mixedOrders=true) {γ γ0:Gam}{w0 w:World}{N cX:Nat}{o0 o1:AObj}{a:Act}{i:Nat}(h:SpI4 P γ0 w0 N cX o0 o1 n bx Lf bl cL B cB i γ a w) (hγ0:∀ r,γ0 r=none) (hO:∀ b c,γ0.fz b=some c→c.old=true) (u0:unO 2 o0=true) (u1:unO 2 o1=true)
 (fx:Fix4 n bx Lf bl cL B cB cX) (hi:i<n) (h13:a.tmps[13]?=some (.int .i64 (Lf i:Int))) {c:Code}(hc:Zcs P N c=some Zhn) {mm:Nat}:
 c.wpIn (fen none) mm P (fun ex a' w'=>ex=.exit 2∧∃ γ',SpI4 P γ0 w0 N cX o0 o1 n bx Lf bl cL B cB i γ' a' w') a w:=by
 obtain ⟨cx,hx,hxz,hxc⟩:=h.sp.x
 obtain ⟨ex,hxh,esx,hxs⟩:=hx.h
 have g2:Zi6 γ 2 (nm4 n bx Lf bl B ⟨bx,0,cx.size,esx⟩ ⟨blx bx Lf bl i,0,0,0⟩ ⟨bx,0,0,0⟩) 1 w 2=some ⟨bx,0,cx.size,esx⟩:=(Zeh (Nat.le_refl 2)).trans Zov
 have g3:Zi6 γ 2 (nm4 n bx Lf bl B ⟨bx,0,cx.size,esx⟩ ⟨blx bx Lf bl i,0,0,0⟩ ⟨bx,0,0,0⟩) 1 w 3=some ⟨blx bx Lf bl i,0,0,0⟩:=(Zeh (by decide)).trans Zx8
 have g5:∀ j,j<n→Zi6 γ 2 (nm4 n bx Lf bl B ⟨bx,0,cx.size,esx⟩ ⟨blx bx Lf bl i,0,0,0⟩ ⟨bx,0,0,0⟩) 1 w (5+j)=some ⟨blx bx Lf bl j,0,0,0⟩:=fun j hj=>(Zeh (by omega)).trans (Ybm hj)
 have hl3:0<Lf i→(⟨blx bx Lf bl i,0,0,0⟩:Loc).b=bl i∧(⟨blx bx Lf bl i,0,0,0⟩:Loc).o=0:=fun h0=>⟨blx_of h0,rfl⟩
 refine wpIn_mono (h.tb.win hγ0 hO u0 u1 fx h.sp h.ff (X:=⟨bx,0,cx.size,esx⟩) (L3:=⟨blx bx Lf bl i,0,0,0⟩) (B3:=⟨bx,0,0,0⟩) rfl (Ybl hi) (.inl rfl) (m:=1) (al:=[.row ex (oce Lf cL n i)]) (by omega) rfl (fun p q _ _ hp hq hpq=>by omega) ?_ (h.tr4 fx ⟨rfl,rfl⟩ h13) (Yfl hE hm o0 o1 hi (fx.L i hi)) (fun x t s ds hq=>hq.2) hc (.inl (by omega))) ?_
 ·intro j o ho
  have hj:j=0:=by have:=(List.getElem?_eq_some_iff.1 ho).1;simp at this;exact this
  subst hj
  cases ho
  exact ⟨_,Zov,cx,hxh,rfl,rfl,hxs,by rw [Zir];exact hxz,Ybc fx hi g3 hl3 g5 hx hxz hxc,hx.o⟩
 ·rintro ex' a' w' ⟨x,t',s',γ',rfl,⟨⟨rfl,q7,q12,r2⟩,_⟩,hb',ht,hs,z1,z2,z3⟩
  have y2:=z1 2 _ (Nat.le_refl 2) Zov
  have y3:=z1 3 _ (by decide) Zx8
  have y5:=fun j (hj:j<n)=>z1 (5+j) _ (by omega) (Ybm hj)
  obtain ⟨v7,a7,b7⟩:=ht 7 _ q7
  obtain ⟨v12,a12,b12⟩:=ht 12 _ q12
  obtain ⟨cx',k1,_,_,k2,k3,k4,k5⟩:=hs.obj 2 _ _ r2 y2
  have no:∀ b,b≠bx→¬ (∃ j L',j<1∧nm4 n bx Lf bl B ⟨bx,0,cx.size,esx⟩ ⟨blx bx Lf bl i,0,0,0⟩ ⟨bx,0,0,0⟩ (2+j)=some L'∧L'.b=b):=by
   rintro b hb ⟨j,L',hj,e1,e2⟩
   obtain rfl:j=0:=by omega
   rw [Zov] at e1;cases e1;exact hb e2.symm
  refine ⟨rfl,thaw γ' 2,hb',by rw [a7,rt_of b7 y2 ⟨rfl,rfl⟩],by rw [a12,Zl1 b12],⟨⟨cx',⟨⟨_,k1,_,k2⟩,k5⟩,by rw [Zir] at k3;exact k3,Zwd fx hi y3 hl3 y5 k4⟩,fun j h1 h2=>?_,fun j k h1 h2=>?_⟩,z2⟩
  ·obtain ⟨c',h3,h4⟩:=h.sp.l j h1 h2
   exact ⟨c',z3 _ (.inr (.inl ⟨j,h1,h2,rfl⟩)) (no _ (fx.xl j h1 h2).symm) c' h3,h4⟩
  ·obtain ⟨c',v,h3,h4⟩:=h.sp.b j k h1 h2
   exact ⟨c',v,z3 _ (.inr (.inr ⟨j,k,h1,h2,rfl⟩)) (no _ (fx.xb j k h1 h2)) c' h3,h4⟩
theorem Yii {p:Nat→Prop}(f:Nat→Nat):∀ (n:Nat),(∃ i,i<n∧p i)→∃ m,m<n∧p m∧∀ j,j<n→p j→f j≤f m
 | 0,⟨i,h,_⟩=>by omega
 | n+1,⟨i,hi,hp⟩=>by
  by_cases h:∃ i,i<n∧p i
  ·obtain ⟨m,h1,h2,h3⟩:=Yii f n h
   by_cases hn:p n∧f m≤f n
   ·refine ⟨n,by omega,hn.1,fun j hj hpj=>?_⟩
    by_cases e:j=n
    ·rw [e];exact Nat.le_refl _
    ·exact Nat.le_trans (h3 j (by omega) hpj) hn.2
   ·refine ⟨m,by omega,h2,fun j hj hpj=>?_⟩
    by_cases e:j=n
    ·subst e
     exact Nat.le_of_not_lt fun hlt=>hn ⟨hpj,Nat.le_of_lt hlt⟩
    ·exact h3 j (by omega) hpj
  ·have:i=n:=by
    rcases Nat.lt_or_ge i n with h1|h1
    ·exact (h ⟨i,h1,hp⟩).elim
    ·omega
   subst this
   refine ⟨i,by omega,hp,fun j hj hpj=>?_⟩
   by_cases e:j=i
   ·rw [e];exact Nat.le_refl _
   ·exact (h ⟨j,by omega,hpj⟩).elim
theorem Spn.uniq {P:Program}{w:World}{b:Nat}{c c':Array Value}(h:Spn P w b c) (h':Spn P w b c'):c=c':=by
 obtain ⟨e,h1,_⟩:=h.h
 obtain ⟨e',h2,_⟩:=h'.h
 rw [h1] at h2;cases h2;rfl
theorem SpT.same {P:Program}{w:World}(h:SpT n bx Lf bl cL B cB P w) {i j k:Nat}(hi:i<n) (hj:j<n) (ki:k<Lf i) (kj:k<Lf j) (e:bl j=bl i):B j k=B i k∧cB j k=cB i k:=by
 obtain ⟨c,h1,_,h2⟩:=h.l i hi (by omega)
 obtain ⟨c',h3,_,h4⟩:=h.l j hj (by omega)
 rw [e] at h3
 have:=h3.uniq h1
 subst this
 have h5:=(h4 k kj).symm.trans (h2 k ki)
 injection h5 with h5
 injection h5 with h6 h7 h8
 injection h6 with h6
 injection h6 with h6 _ _
 exact ⟨h6,h8⟩
theorem SpI4.round {P:Program}{e:Env}(hE:EnvOk P e) (hm:P.follows .mixedOrders=true) {γ γ0:Gam}{w0 w:World}{N cX:Nat}{o0 o1:AObj}{a:Act}{i k:Nat}(h:SpI4 P γ0 w0 N cX o0 o1 n bx Lf bl cL B cB i γ a w) (hγ0:∀ r,γ0 r=none) (hO:∀ b c,γ0.fz b=some c→c.old=true) (u0:unO 2 o0=true) (u1:unO 2 o1=true)
 (fx:Fix4 n bx Lf bl cL B cB cX) (hi:i<n) (hk:k<Lf i) (h13:a.tmps[13]?=some (.int .i64 (k:Int))) {c:Code}(hc:Zcs P N c=some Zhn) {mm:Nat}:
 c.wpIn (fen none) mm P (fun ex a' w'=>ex=.normal∧(∃ γ',SpI4 P γ0 w0 N cX o0 o1 n bx Lf bl cL B cB i γ' a' w')∧a'.tmps[13]?=some (.int .i64 ((k+1:Nat):Int))) a w:=by
 have h0:0<Lf i:=by omega
 obtain ⟨cx,hx,hxz,hxc⟩:=h.sp.x
 obtain ⟨ex,hxh,esx,hxs⟩:=hx.h
 obtain ⟨i2,hi2,⟨h02,hbe⟩,hmx⟩:=Yii (p:=fun j=>0<Lf j∧bl j=bl i) Lf n ⟨i,hi,h0,rfl⟩
 have hM:=hmx i hi ⟨h0,rfl⟩
 have hk2:k<Lf i2:=by omega
 obtain ⟨cl,hl,hlz,hlc⟩:=h.sp.l i2 hi2 h02
 obtain ⟨el,hlh,esl,hls⟩:=hl.h
 obtain ⟨cb,v,hb,hb0,hv⟩:=h.sp.b i2 k hi2 hk2
 obtain ⟨eb,hbh,esb,hbs⟩:=hb.h
 obtain ⟨X,hX⟩:∃ X:Loc,X=⟨bx,0,cx.size,esx⟩:=⟨_,rfl⟩
 obtain ⟨L3,hL3⟩:∃ X:Loc,X=⟨bl i2,0,cl.size,esl⟩:=⟨_,rfl⟩
 obtain ⟨B3,hB3⟩:∃ X:Loc,X=⟨B i2 k,0,cb.size,esb⟩:=⟨_,rfl⟩
 have g3:Zi6 γ 2 (nm4 n bx Lf bl B X L3 B3) 3 w 3=some L3:=(Zeh (by decide)).trans Zx8
 have g4:Zi6 γ 2 (nm4 n bx Lf bl B X L3 B3) 3 w 4=some B3:=(Zeh (by decide)).trans Ygb
 have g5:∀ j,j<n→Zi6 γ 2 (nm4 n bx Lf bl B X L3 B3) 3 w (5+j)=some ⟨blx bx Lf bl j,0,0,0⟩:=fun j hj=>(Zeh (by omega)).trans (Ybm hj)
 have hLi:=fx.L i2 hi2
 have g6:∀ j,j<Lf i2→Zi6 γ 2 (nm4 n bx Lf bl B X L3 B3) 3 w (5+n+1000*i2+j)=some ⟨Bx4 bx Lf B i2 j,0,0,0⟩:=fun j hj=>(Zeh (by omega)).trans (nm4_b hi2 (by omega))
 have hXb:X.b=bx∧X.o=0:=by rw [hX];exact ⟨rfl,rfl⟩
 have hl3:0<Lf i→L3.b=bl i∧L3.o=0:=fun _=>by rw [hL3];exact ⟨hbe,rfl⟩
 have hb3:B3.b=B i2 k∧B3.o=0:=by rw [hB3];exact ⟨rfl,rfl⟩
 have nl:Nmd n bx Lf bl B L3.b:=by rw [hL3];exact .inr (.inl ⟨i2,hi2,h02,rfl⟩)
 have nb:Nmd n bx Lf bl B B3.b:=by rw [hB3];exact .inr (.inr ⟨i2,k,hi2,hk2,rfl⟩)
 have hxl:=fx.xl i hi h0
 have hxb:=fx.xb i2 k hi2 hk2
 have hlb:=fx.lb i2 k i hi2 hk2 hi h0
 have op:∀ {j:Nat}{L':Loc},j<3→nm4 n bx Lf bl B X L3 B3 (2+j)=some L'→(j=0∧L'=X)∨(j=1∧L'=L3)∨(j=2∧L'=B3):=by
  intro j L' hj e1
  rcases j with _|_|_|j
  ·rw [Zov] at e1;cases e1;exact .inl ⟨rfl,rfl⟩
  ·rw [Zx8] at e1;cases e1;exact .inr (.inl ⟨rfl,rfl⟩)
  ·rw [Ygb] at e1;cases e1;exact .inr (.inr ⟨rfl,rfl⟩)
  ·omega
 refine wpIn_mono (h.tb.win hγ0 hO u0 u1 fx h.sp h.ff (X:=X) (L3:=L3) (B3:=B3) hXb.1 nl nb (m:=3) (al:=[.row ex (oce Lf cL n i),.row el (ice n i2 (Lf i2) k (cB i2)),.row eb [.int .u8 v]]) (by omega) rfl ?_ ?_ (h.tr4 fx hXb h13) (Yfj hE hm o0 o1 hi (fx.L i hi) hk hM hv) (fun x t s ds hq=>hq.2) hc (.inl (by omega))) ?_
 ·intro p q Li Lj hp hq hpq e1 e2
  rcases op hp e1 with ⟨rfl,rfl⟩|⟨rfl,rfl⟩|⟨rfl,rfl⟩ <;> rcases op hq e2 with ⟨rfl,rfl⟩|⟨rfl,rfl⟩|⟨rfl,rfl⟩
  ·omega
  ·rw [hXb.1,(hl3 h0).1];exact hxl
  ·rw [hXb.1,hb3.1];exact hxb.symm
  ·rw [hXb.1,(hl3 h0).1];exact hxl.symm
  ·omega
  ·rw [(hl3 h0).1,hb3.1];exact hlb.symm
  ·rw [hXb.1,hb3.1];exact hxb
  ·rw [(hl3 h0).1,hb3.1];exact hlb
  ·omega
 ·intro j o ho
  have hj:j<3:=(List.getElem?_eq_some_iff.1 ho).1
  rcases j with _|_|_|j
  ·cases ho
   refine ⟨_,Zov,cx,?_,hXb.2,?_,?_,by rw [Zir];exact hxz,Ybc fx hi g3 hl3 g5 hx hxz hxc,hx.o⟩
   ·rw [hXb.1];exact hxh
   ·rw [hX]
   ·rw [hX];exact hxs
  ·cases ho
   refine ⟨_,Zx8,cl,?_,(hl3 h0).2,?_,?_,by rw [Zpo];exact hlz,ice_obj (P:=P) (w:=w) fx hi2 hk2 g4 hb3 g6 hlc,hl.o⟩
   ·rw [hL3];exact hlh
   ·rw [hL3]
   ·rw [hL3];exact hls
  ·cases ho
   refine ⟨_,Ygb,cb,?_,hb3.2,?_,?_,?_,?_,hb.o⟩
   ·rw [hb3.1];exact hbh
   ·rw [hB3]
   ·rw [hB3];exact hbs
   ·show 1≤cb.size
    have:=(Array.getElem?_eq_some_iff.1 hb0).1;omega
   ·intro q u hu
    have hq:q<1:=(List.getElem?_eq_some_iff.1 hu).1
    obtain rfl:q=0:=by omega
    cases hu
    exact ⟨_,hb0,.int _ _,rfl⟩
  ·omega
 ·rintro ex' a' w' ⟨x,t',s',γ',rfl,⟨⟨rfl,q7,q12,q13,r2,r3,v',r4,hv'⟩,_⟩,hb',ht,hs,z1,z2,z3⟩
  have y2:=z1 2 _ (Nat.le_refl 2) Zov
  have y3:=z1 3 _ (by decide) Zx8
  have y4:=z1 4 _ (by decide) Ygb
  have y5:=fun j (hj:j<n)=>z1 (5+j) _ (by omega) (Ybm hj)
  have y6:=fun j (hj:j<Lf i2)=>z1 (5+n+1000*i2+j) _ (by omega) (nm4_b hi2 (by omega))
  obtain ⟨v7,a7,b7⟩:=ht 7 _ q7
  obtain ⟨v12,a12,b12⟩:=ht 12 _ q12
  obtain ⟨v13,a13,b13⟩:=ht 13 _ q13
  obtain ⟨cx',k1,_,_,k2,k3,k4,k5⟩:=hs.obj 2 _ _ r2 y2
  obtain ⟨cl',l1,_,_,l2,l3,l4,l5⟩:=hs.obj 3 _ _ r3 y3
  obtain ⟨cb',b1,_,_,b2,b3,b4,b5⟩:=hs.obj 4 _ _ r4 y4
  rw [hXb.1] at k1
  rw [(hl3 h0).1] at l1
  rw [hb3.1] at b1
  have no:∀ b,b≠bx→b≠bl i→b≠B i2 k→¬ (∃ j L',j<3∧nm4 n bx Lf bl B X L3 B3 (2+j)=some L'∧L'.b=b):=by
   rintro b n1 n2 n3 ⟨j,L',hj,e1,e2⟩
   rcases op hj e1 with ⟨rfl,rfl⟩|⟨rfl,rfl⟩|⟨rfl,rfl⟩
   ·exact n1 (by rw [← e2];exact hXb.1)
   ·exact n2 (by rw [← e2];exact (hl3 h0).1)
   ·exact n3 (by rw [← e2];exact hb3.1)
  refine ⟨rfl,⟨thaw γ' 2,hb',by rw [a7,rt_of b7 y2 hXb],by rw [a12,Zl1 b12],⟨⟨cx',⟨⟨_,k1,_,k2⟩,k5⟩,by rw [Zir] at k3;exact k3,Zwd fx hi y3 hl3 y5 k4⟩,fun j h1 h2=>?_,fun j k' h1 h2=>?_⟩,z2⟩,by rw [a13,Zl1 b13];rfl⟩
  ·by_cases e1:bl j=bl i
   ·have hj2:=hmx j h1 ⟨h2,e1⟩
    have hbk:=Ygl fx hi2 hk2 y4 hb3 y6 l4
    rw [e1]
    refine ⟨cl',⟨⟨_,l1,_,l2⟩,l5⟩,by rw [Zpo] at l3;omega,fun q hq=>?_⟩
    obtain ⟨f1,f2⟩:=h.sp.same hi2 h1 (show q<Lf i2 by omega) hq (e1.trans hbe.symm)
    rw [hbk q (by omega),f1,f2]
   ·obtain ⟨c',h3,h4⟩:=h.sp.l j h1 h2
    exact ⟨c',z3 _ (.inr (.inl ⟨j,h1,h2,rfl⟩)) (no _ (fx.xl j h1 h2).symm e1 (fun e3=>fx.lb i2 k j hi2 hk2 h1 h2 e3.symm)) c' h3,h4⟩
  ·by_cases e1:B j k'=B i2 k
   ·rw [e1]
    obtain ⟨u,a1,a2,_⟩:=b4 0 _ rfl
    cases a2
    exact ⟨cb',v',⟨⟨_,b1,_,b2⟩,b5⟩,a1,hv'⟩
   ·obtain ⟨c',v2,h3,h4⟩:=h.sp.b j k' h1 h2
    exact ⟨c',v2,z3 _ (.inr (.inr ⟨j,k',h1,h2,rfl⟩)) (no _ (fx.xb j k' h1 h2) (fx.lb j k' i h1 h2 hi h0) e1) c' h3,h4⟩
end
end Go.AM
set_option maxRecDepth 100000
namespace Go.AM
attribute [local irreducible] W
open X
section
variable {n bx:Nat}{Lf bl cL:Nat→Nat}{B cB:Nat→Nat→Nat}
theorem SpI4.inner {P:Program}{e:Env}(hE:EnvOk P e) (hm:P.follows .mixedOrders=true) {γ0 γ:Gam}{w0 w:World}{N cX:Nat}{o0 o1:AObj}{a:Act}{i:Nat}(hγ0:∀ r,γ0 r=none) (hO:∀ b c,γ0.fz b=some c→c.old=true) (u0:unO 2 o0=true) (u1:unO 2 o1=true)
 (fx:Fix4 n bx Lf bl cL B cB cX) (hi:i<n) (h:SpI4 P γ0 w0 N cX o0 o1 n bx Lf bl cL B cB i γ a w) (h13:a.tmps[13]?=some (.int .i64 ((0:Nat):Int))) {c:Code}(hc:Zcs P N c=some Zhn) {mm:Nat}:
 (Code.loop c).wpIn (fen none) mm P (fun ex a' w'=>ex=.exit 2∧∃ γ',SpI4 P γ0 w0 N cX o0 o1 n bx Lf bl cL B cB i γ' a' w') a w:=by
 refine Zo6 (I:=fun m a w=>∃ k γ,m+k=Lf i∧SpI4 P γ0 w0 N cX o0 o1 n bx Lf bl cL B cB i γ a w∧a.tmps[13]?=some (.int .i64 (k:Int))) ?_ (n:=Lf i) ⟨0,_,rfl,h,h13⟩
 rintro m a w ⟨k,γ,hmk,hI,h13⟩
 by_cases hk:k<Lf i
 ·refine wpIn_mono (hI.round hE hm hγ0 hO u0 u1 fx hi hk h13 hc) ?_
  rintro ex a' w' ⟨rfl,⟨γ',hI'⟩,h13'⟩
  exact ⟨m-1,by omega,k+1,γ',by omega,hI',h13'⟩
 ·obtain rfl:k=Lf i:=by omega
  refine wpIn_mono (hI.iexit hE hm hγ0 hO u0 u1 fx hi h13 hc) ?_
  rintro ex a' w' ⟨rfl,γ',hI'⟩
  exact ⟨rfl,γ',hI'⟩
theorem SpI4.loop {P:Program}{e:Env}(hE:EnvOk P e) (hm:P.follows .mixedOrders=true) {γ0 γ:Gam}{w0 w:World}{N cX:Nat}{o0 o1:AObj}{a:Act}(hγ0:∀ r,γ0 r=none) (hO:∀ b c,γ0.fz b=some c→c.old=true) (u0:unO 2 o0=true) (u1:unO 2 o1=true)
 (fx:Fix4 n bx Lf bl cL B cB cX) (h:SpI4 P γ0 w0 N cX o0 o1 n bx Lf bl cL B cB 0 γ a w) {c:Code}(hc:Zcs P N c=some Zow) {mm:Nat}:
 (Code.loop c).wpIn (fen none) mm P (fun ex a' w'=>ex=.exit 0∧∃ γ',TbI P γ0 w0 N o0 o1 γ' a' w') a w:=by
 refine Zo6 (I:=fun m a w=>∃ i γ,m+i=n∧SpI4 P γ0 w0 N cX o0 o1 n bx Lf bl cL B cB i γ a w) ?_ (n:=n) ⟨0,_,rfl,h⟩
 rintro m a w ⟨i,γ,hmi,hI⟩
 by_cases hi:i<n
 ·rw [Ygg] at hc
  obtain ⟨ch,cr,rfl,e1,e2⟩:=(Zek hc:∃ c1 c2,c=.seq c1 c2∧Zcs P N c1=some head4∧Zcs P N c2=some (.seq (.block 1 (.seq Zyk (.block 2 (.loop Zhn)))) Ye7))
  obtain ⟨cb,cs,rfl,e3,e4⟩:=(Zek e2:∃ c1 c2,cr=.seq c1 c2∧Zcs P N c1=some (.block 1 (.seq Zyk (.block 2 (.loop Zhn))))∧Zcs P N c2=some Ye7)
  obtain ⟨cb1,rfl,e5⟩:=(Zek e3:∃ c1,cb=.block 1 c1∧Zcs P N c1=some (.seq Zyk (.block 2 (.loop Zhn))))
  obtain ⟨ci,cl,rfl,e6,e7⟩:=(Zek e5:∃ c1 c2,cb1=.seq c1 c2∧Zcs P N c1=some Zyk∧Zcs P N c2=some (.block 2 (.loop Zhn)))
  obtain ⟨cl1,rfl,e8⟩:=(Zek e7:∃ c1,cl=.block 2 c1∧Zcs P N c1=some (.loop Zhn))
  obtain ⟨cin,rfl,e9⟩:=(Zek e8:∃ c1,cl1=.loop c1∧Zcs P N c1=some Zhn)
  refine wpIn_seq (wpIn_mono (hI.p0 hγ0 hO u0 u1 fx (sc_head hE hm o0 o1 hi) (fun x t s ds hq=>hq.2) e1) ?_)
  rintro ex a1 w1 ⟨x,t1,s1,γ1,rfl,⟨⟨rfl,p7,p12⟩,_⟩,hb1,ht1,hs1,hr1,hsp1,hf1⟩
  obtain ⟨v12,a12,b12⟩:=ht1 12 _ p12
  have hI1:SpI4 P γ0 w0 N cX o0 o1 n bx Lf bl cL B cB i (thaw γ1 2) a1 w1:=⟨hb1,hr1 p7,by rw [a12,Zl1 b12],hsp1,hf1⟩
  refine wpIn_seq (wpIn_block (wpIn_seq (wpIn_mono (hI1.p0 hγ0 hO u0 u1 fx (sc_init hE hm o0 o1) (fun x t s ds hq=>hq.2) e6) ?_)))
  rintro ex a2 w2 ⟨x,t2,s2,γ2,rfl,⟨⟨rfl,r7,r12,r13⟩,_⟩,hb2,ht2,hs2,hr2,hsp2,hf2⟩
  obtain ⟨v12',a12',b12'⟩:=ht2 12 _ r12
  obtain ⟨v13',a13',b13'⟩:=ht2 13 _ r13
  have hI2:SpI4 P γ0 w0 N cX o0 o1 n bx Lf bl cL B cB i (thaw γ2 2) a2 w2:=⟨hb2,hr2 r7,by rw [a12',Zl1 b12'],hsp2,hf2⟩
  refine wpIn_block (wpIn_mono (hI2.inner hE hm hγ0 hO u0 u1 fx hi (by rw [a13',Zl1 b13'];rfl) e9) ?_)
  rintro ex a3 w3 ⟨rfl,γ3,hI3⟩
  unfold Exit.inBlock
  dsimp only
  rw [if_pos rfl]
  unfold Exit.then
  dsimp only
  refine wpIn_mono (hI3.p0 hγ0 hO u0 u1 fx (sc_step hE hm o0 o1 fx.n1 hi) (fun x t s ds hq=>hq.2) e4) ?_
  rintro ex a4 w4 ⟨x,t4,s4,γ4,rfl,⟨⟨rfl,q7,q12⟩,_⟩,hb4,ht4,hs4,hr4,hsp4,hf4⟩
  obtain ⟨u12,c12,d12⟩:=ht4 12 _ q12
  exact ⟨m-1,by omega,i+1,thaw γ4 2,by omega,hb4,hr4 q7,by rw [c12,Zl1 d12];rfl,hsp4,hf4⟩
 ·obtain rfl:i=n:=by omega
  refine wpIn_mono (hI.p0 hγ0 hO u0 u1 fx (sc_exit hE hm o0 o1 fx.n1) (fun x t s ds hq=>hq.2) hc) ?_
  rintro ex a1 w1 ⟨x,t1,s1,γ1,rfl,⟨rfl,_⟩,hb1,_⟩
  exact ⟨rfl,_,hb1⟩
end
theorem Zwy {L:List Fd}{j:Nat}(h:j<L.length):(Zf0 L)[6*j+4]?=some (Zj2 (L[j]).y.S)∧(Zf0 L)[6*j]?=some (.int .u32 (L[j]).n.age):=by
 have h1:(Zf0 L).drop (6*j)=(L[j]).c++Zf0 (L.drop (j+1)):=by
  have hd:∀ (L:List Fd) (i:Nat),(Zf0 L).drop (6*i)=Zf0 (L.drop i):=by
   intro L i
   induction i generalizing L with
   | zero=>simp
   | succ i ih=>
    cases L with
    | nil=>simp [Zf0]
    | cons f L=>
     rw [Zgq,show 6*(i+1)=f.c.length+6*i by show _=6+_;omega,← List.drop_drop,List.drop_left,ih,List.drop_succ_cons]
  rw [hd,List.drop_eq_getElem_cons h,Zgq]
 have h2:∀ q,(Zf0 L)[6*j+q]?=((L[j]).c++Zf0 (L.drop (j+1)))[q]?:=fun q=>by rw [← h1,List.getElem?_drop]
 exact ⟨(h2 4).trans rfl,(h2 0).trans rfl⟩
def tl4i (v:AV):List (Nat×AV):=[(3,.ptr 0 0),(5,.ptr 1 0),(7,v),(12,.int .i64 0)]
theorem sc_loop {P:Program}{e:Env}(hE:EnvOk P e) (hm:P.follows .mixedOrders=true) {e0 e1:Nat}{C0 C1:List AV}(w0:hfs C0=true) (w1:hfs C1=true) (u0:uns 2 C0=true) (u1:uns 2 C1=true) {L:List Fd}(hL:L.length<1000) (hy:∀ f ∈ L,f.y.ok):
 WO P (.loop Zow) (ofL (tl4i (lsV L))) (Zai St0 [.row e0 C0,.row e1 C1]) [] (fun x t s ds=>x=.exit 0∧Tells P 0 t s ds (ofL [(3,.ptr 0 0),(5,.ptr 1 0)]) (Zai St0 [.row e0 C0,.row e1 C1]) []):=by
 obtain ⟨o0,h0e⟩:∃ o,o=AObj.row e0 C0:=⟨_,rfl⟩
 obtain ⟨o1,h1e⟩:∃ o,o=AObj.row e1 C1:=⟨_,rfl⟩
 have u0:unO 2 o0=true:=by rw [h0e];exact u0
 have u1:unO 2 o1=true:=by rw [h1e];exact u1
 rw [← h0e,← h1e]
 cases L with
 | nil=>
  refine WO.of_W ?_
  have hw:W P 0 none (.loop Zow) (ofL (tl4i .nils)) (Zai St0 [o0,o1]) [] (fun x t s ds=>x=.exit 0∧ds=[]∧t.get 3=some (.ptr 0 0)∧t.get 5=some (.ptr 1 0)∧s.get 0=some o0∧s.get 1=some o1):=by
   refine W.loop (fun n t s ds=>n=0∧t=ofL (tl4i .nils)∧s=Zai St0 [o0,o1]∧ds=[]) 0 ⟨rfl,rfl,rfl,rfl⟩ ?_
   rintro n t s ds ⟨rfl,rfl,rfl,rfl⟩
   refine Zap hE hm ?_;conv=>whnf
   repeat' (first|(refine Zab (a:=0) (b:=0) rfl rfl (fun h=>by omega) (fun _=>?_);conv=>whnf)|((first|refine w16 rfl ?_|refine ⟨rfl,?_⟩);conv=>whnf)|fail)
   rfl
  refine hw.mono ?_
  rintro x t s ds ⟨rfl,rfl,q3,q5,r0,r1⟩
  subst h0e h1e
  exact ⟨rfl,Abs.tells (tl:=[(3,.ptr 0 0),(5,.ptr 1 0)]) (os:=[.row e0 C0,.row e1 C1]) (rs:=[0,1]) ⟨by decide,⟨⟨rfl,q3⟩,⟨rfl,q5⟩,trivial⟩,⟨⟨Za6 w0,by rw [Zac w0];exact r0⟩,⟨Za6 w1,by rw [Zac w1];exact r1⟩,trivial⟩⟩⟩
 | cons f0 L0=>
 obtain ⟨L,hLe⟩:∃ L,L=f0::L0:=⟨_,rfl⟩
 have hv:lsV (f0::L0)=.fz L.length (some 0) (Zf0 L):=by rw [hLe];rfl
 have hn0:0<L.length:=by rw [hLe];exact Nat.succ_pos _
 rw [hv]
 rw [← hLe] at hL hy
 clear hv hLe f0 L0
 intro N c γ w a γ0 w0' m h1 h2 hT hS hD hP hγ0 hO
 obtain ⟨c1,rfl,e1⟩:=(Zek h1:∃ c1,c=.loop c1∧Zcs P N c1=some Zow)
 obtain ⟨v0,t0,t0'⟩:=hT 3 _ rfl
 obtain ⟨v1,t1,t1'⟩:=hT 5 _ rfl
 obtain ⟨v7,t7,t7'⟩:=hT 7 _ rfl
 obtain ⟨M0,y0⟩:∃ L,γ 0=some L:=by cases t0' with|ptr _ _ L e=>exact ⟨L,e⟩
 obtain ⟨M1,y1⟩:∃ L,γ 1=some L:=by cases t1' with|ptr _ _ L e=>exact ⟨L,e⟩
 have gt:∀ r o,[o0,o1][r]?=some o→(Zai St0 [o0,o1]).get r=some o:=fun r o h=>Zix _ (show 2<2^64 by decide) h
 obtain ⟨bx,ox,cX,fl,ls,rfl,fl1,fl2,fl3,fl4,fl5,fl6,_⟩:=fzV t7'
 obtain ⟨fo,rfl⟩:=fl6
 obtain ⟨ex,frx,fxh,fxk⟩:=hS.fzc bx fl fl1
 obtain ⟨rfl,fxs,fxo⟩:=fxk fo
 -- a deal's list
 have lst:∀ j,j<L.length→∃ (bl cL:Nat) (Bs cBs:Nat→Nat),((L.getD j ⟨⟨0,0,0,0,.nils,[]⟩,⟨[],none⟩⟩).y.S.length≤17)∧fl.cs[6*j+4]?=some (if (L.getD j ⟨⟨0,0,0,0,.nils,[]⟩,⟨[],none⟩⟩).y.S.length=0 then .slice none 0 0 else .slice (some ⟨bl,0,none⟩) ((L.getD j ⟨⟨0,0,0,0,.nils,[]⟩,⟨[],none⟩⟩).y.S.length) cL)∧
  (0<(L.getD j ⟨⟨0,0,0,0,.nils,[]⟩,⟨[],none⟩⟩).y.S.length→(∃ c,Spn P w bl c∧(L.getD j ⟨⟨0,0,0,0,.nils,[]⟩,⟨[],none⟩⟩).y.S.length≤c.size∧∀ k,k<(L.getD j ⟨⟨0,0,0,0,.nils,[]⟩,⟨[],none⟩⟩).y.S.length→c[k]?=some (.slice (some ⟨Bs k,0,none⟩) 128 (cBs k)))∧(L.getD j ⟨⟨0,0,0,0,.nils,[]⟩,⟨[],none⟩⟩).y.S.length≤cL∧(∃ f,γ.fz bl=some f∧f.old=false)∧
    ∀ k,k<(L.getD j ⟨⟨0,0,0,0,.nils,[]⟩,⟨[],none⟩⟩).y.S.length→128≤cBs k∧(∃ c v,Spn P w (Bs k) c∧c[0]?=some (.int .u8 v)∧0≤v∧v<256)∧∃ f,γ.fz (Bs k)=some f∧f.old=false):=by
  intro j hj
  have hjy:=hy _ (List.getElem_mem hj)
  have hg:L.getD j ⟨⟨0,0,0,0,.nils,[]⟩,⟨[],none⟩⟩=L[j]:=by rw [List.getD_eq_getElem?_getD,List.getElem?_eq_getElem hj];rfl
  rw [hg]
  obtain ⟨x4,hx4,hx4'⟩:=fl4.get (Zwy hj).1
  have hx4:fl.cs[6*j+4]?=some x4:=by have:=fl2 _ _ hx4;rwa [Nat.zero_add] at this
  generalize (L[j]).y=y at *
  obtain ⟨S,p⟩:=y
  have hy17:=hjy.n
  have hys:=hjy.s
  dsimp only at hy17 hys hx4' ⊢
  cases S with
  | nil=>
   refine ⟨0,0,fun _=>0,fun _=>0,Nat.zero_le _,?_,fun h=>absurd h (Nat.lt_irrefl 0)⟩
   rw [hx4]
   cases hx4';rfl
  | cons q0 S=>
  obtain ⟨S2,hS2⟩:∃ S2,S2=q0::S:=⟨_,rfl⟩
  have hx4':VR γ (.fz S2.length (some 0) (S2.map fun p=>fzN p.2)) x4:=by rw [hS2];exact hx4'
  rw [← hS2] at hy17 hys ⊢
  have hp:0<S2.length:=by rw [hS2];exact Nat.succ_pos _
  clear hS2
  obtain ⟨bl,ol,cL,g,ks,rfl,g1,g2,g3,g4,g5,g6,_⟩:=fzV hx4'
  obtain ⟨go,rfl⟩:=g6
  obtain ⟨el,frl,glh,glk⟩:=hS.fzc bl g g1
  obtain ⟨rfl,gls,glo⟩:=glk go
  have hlen:ks.length=S2.length:=by rw [← g4.length,List.length_map]
  have blk:∀ k,k<S2.length→∃ B cB:Nat,ks[k]?=some (.slice (some ⟨B,0,none⟩) 128 cB)∧128≤cB∧(∃ c v,Spn P w B c∧c[0]?=some (.int .u8 v)∧0≤v∧v<256)∧∃ f,γ.fz B=some f∧f.old=false:=by
   intro k hk
   obtain ⟨q,hq⟩:∃ q,S2[k]?=some q:=⟨_,List.getElem?_eq_getElem hk⟩
   obtain ⟨u,hu,hu'⟩:=g4.get (show (S2.map fun p=>fzN p.2)[k]?=some (fzN q.2) by rw [List.getElem?_map,hq];rfl)
   obtain ⟨B,oB,cB,f,bs,rfl,f1,f2,f3,f4,f5,f6,_⟩:=fzV (show VR γ (.fz 128 (some 0) (bys q.2)) u from hu')
   obtain ⟨f7,rfl⟩:=f6
   obtain ⟨eB,frB,f8,f9⟩:=hS.fzc B f f1
   obtain ⟨rfl,f10,f11⟩:=f9 f7
   obtain ⟨hb1,hb2⟩:=(hys q (List.mem_of_getElem? hq)).2
   obtain ⟨b0,bt,hbe⟩:∃ b0 bt,q.2=b0::bt:=by
    cases hz:q.2 with
    | nil=>rw [hz] at hb1;exact absurd hb1 (by decide)
    | cons x y=>exact ⟨x,y,rfl⟩
   rw [hbe] at f4 hb2
   have h0:b0<256:=hb2 b0 (by simp)
   cases f4 with
   | cons k1 k2=>
    cases k1
    exact ⟨B,cB,hu,f5,⟨f.cs,_,⟨⟨_,f8,f10⟩,f11⟩,f2 0 _ rfl,Int.natCast_nonneg _,Int.ofNat_lt.2 h0⟩,f,f1,f7⟩
  have hch:∃ Bs cBs:Nat→Nat,∀ k,k<S2.length→ks[k]?=some (.slice (some ⟨Bs k,0,none⟩) 128 (cBs k))∧128≤cBs k∧(∃ c v,Spn P w (Bs k) c∧c[0]?=some (.int .u8 v)∧0≤v∧v<256)∧∃ f,γ.fz (Bs k)=some f∧f.old=false:=by
   refine ⟨fun k=>if h:k<S2.length then (blk k h).choose else 0,fun k=>if h:k<S2.length then (blk k h).choose_spec.choose else 0,fun k hk=>?_⟩
   dsimp only
   rw [dif_pos hk,dif_pos hk]
   exact (blk k hk).choose_spec.choose_spec
  obtain ⟨Bs,cBs,hBs⟩:=hch
  refine ⟨bl,cL,Bs,cBs,hy17,by rw [hx4,if_neg (by omega)],fun _=>⟨⟨g.cs,⟨⟨_,glh,gls⟩,glo⟩,?_,fun k hk=>?_⟩,g5,⟨g,g1,go⟩,fun k hk=>(hBs k hk).2⟩⟩
  ·have:=g2 (S2.length-1) (ks[S2.length-1]'(by omega)) (List.getElem?_eq_getElem _)
   have:=(Array.getElem?_eq_some_iff.1 (show g.cs[0+(S2.length-1)]?=some _ from this)).1
   omega
  ·have:=g2 k _ (hBs k hk).1
   rwa [Nat.zero_add] at this
 have hch:∃ (bl cL:Nat→Nat) (B cB:Nat→Nat→Nat),∀ j,j<L.length→((L.getD j ⟨⟨0,0,0,0,.nils,[]⟩,⟨[],none⟩⟩).y.S.length≤17)∧fl.cs[6*j+4]?=some (if (L.getD j ⟨⟨0,0,0,0,.nils,[]⟩,⟨[],none⟩⟩).y.S.length=0 then .slice none 0 0 else .slice (some ⟨bl j,0,none⟩) ((L.getD j ⟨⟨0,0,0,0,.nils,[]⟩,⟨[],none⟩⟩).y.S.length) (cL j))∧
  (0<(L.getD j ⟨⟨0,0,0,0,.nils,[]⟩,⟨[],none⟩⟩).y.S.length→(∃ c,Spn P w (bl j) c∧(L.getD j ⟨⟨0,0,0,0,.nils,[]⟩,⟨[],none⟩⟩).y.S.length≤c.size∧∀ k,k<(L.getD j ⟨⟨0,0,0,0,.nils,[]⟩,⟨[],none⟩⟩).y.S.length→c[k]?=some (.slice (some ⟨B j k,0,none⟩) 128 (cB j k)))∧(L.getD j ⟨⟨0,0,0,0,.nils,[]⟩,⟨[],none⟩⟩).y.S.length≤cL j∧(∃ f,γ.fz (bl j)=some f∧f.old=false)∧
    ∀ k,k<(L.getD j ⟨⟨0,0,0,0,.nils,[]⟩,⟨[],none⟩⟩).y.S.length→128≤cB j k∧(∃ c v,Spn P w (B j k) c∧c[0]?=some (.int .u8 v)∧0≤v∧v<256)∧∃ f,γ.fz (B j k)=some f∧f.old=false):=by
  refine ⟨fun j=>if h:j<L.length then (lst j h).choose else 0,fun j=>if h:j<L.length then (lst j h).choose_spec.choose else 0,fun j=>if h:j<L.length then (lst j h).choose_spec.choose_spec.choose else fun _=>0,fun j=>if h:j<L.length then (lst j h).choose_spec.choose_spec.choose_spec.choose else fun _=>0,fun j hj=>?_⟩
  dsimp only
  rw [dif_pos hj,dif_pos hj,dif_pos hj,dif_pos hj]
  exact (lst j hj).choose_spec.choose_spec.choose_spec.choose_spec
 obtain ⟨bl,cL,B,cB,hB⟩:=hch
 obtain ⟨Lf,hLf⟩:∃ Lf:Nat→Nat,Lf=fun j=>(L.getD j ⟨⟨0,0,0,0,.nils,[]⟩,⟨[],none⟩⟩).y.S.length:=⟨_,rfl⟩
 have hB:∀ j,j<L.length→Lf j≤17∧fl.cs[6*j+4]?=some (if Lf j=0 then .slice none 0 0 else .slice (some ⟨bl j,0,none⟩) (Lf j) (cL j))∧
  (0<Lf j→(∃ c,Spn P w (bl j) c∧Lf j≤c.size∧∀ k,k<Lf j→c[k]?=some (.slice (some ⟨B j k,0,none⟩) 128 (cB j k)))∧Lf j≤cL j∧(∃ f,γ.fz (bl j)=some f∧f.old=false)∧
    ∀ k,k<Lf j→128≤cB j k∧(∃ c v,Spn P w (B j k) c∧c[0]?=some (.int .u8 v)∧0≤v∧v<256)∧∃ f,γ.fz (B j k)=some f∧f.old=false):=by rw [hLf];exact hB
 clear hLf lst
 have hlen:ls.length=L.length*6:=by rw [← fl4.length,Zfv]
 have spx:Spn P w bx fl.cs:=⟨⟨_,fxh,fxs⟩,fxo⟩
 -- the first cell of each kind of block
 have cx0:∃ n,fl.cs[0]?=some (.int .u32 n):=by
  obtain ⟨x0,hx0,hx0'⟩:=fl4.get (Zwy (j:=0) hn0).2
  have:=fl2 _ _ hx0
  cases hx0'
  exact ⟨_,by rwa [Nat.zero_add] at this⟩
 obtain ⟨n0,cx0⟩:=cx0
 have fx:Fix4 L.length bx Lf bl cL B cB cX:=by
  refine ⟨hL,fun j hj=>?_,fl5,fun j hj=>?_,fun j k hj hk=>?_,fun j hj h0 e'=>?_,fun j k hj hk e'=>?_,fun j k j' hj hk hj' h0 e'=>?_⟩
  ·have:=(hB j hj).1;omega
  ·rcases Nat.eq_zero_or_pos (Lf j) with h0|h0
   ·omega
   ·exact ((hB j hj).2.2 h0).2.1
  ·exact (((hB j hj).2.2 (by omega)).2.2.2 k hk).1
  ·obtain ⟨⟨c,g1,_,g3⟩,_⟩:=(hB j hj).2.2 h0
   rw [← e'] at g1
   have:=g1.uniq spx
   subst this
   have:=(g3 0 h0).symm.trans cx0
   cases this
  ·obtain ⟨_,⟨c,v,g1,g2,_⟩,_⟩:=((hB j hj).2.2 (by omega)).2.2.2 k hk
   rw [e'] at g1
   have:=g1.uniq spx
   subst this
   have:=g2.symm.trans cx0
   cases this
  ·obtain ⟨_,⟨c,v,g1,g2,_⟩,_⟩:=((hB j hj).2.2 (by omega)).2.2.2 k hk
   obtain ⟨⟨c',k1,_,k3⟩,_⟩:=(hB j' hj').2.2 h0
   rw [e'] at g1
   have:=g1.uniq k1
   subst this
   have:=g2.symm.trans (k3 0 h0)
   cases this
 have dif:∀ b f,γ.fz b=some f→f.old=false→SqF (thaw γ 2) w0' b:=by
  intro b f hb hf
  refine ⟨?_,?_,?_⟩
  ·cases hq:(thaw γ 2).fz b with
   | none=>rfl
   | some c=>
    obtain ⟨q1,q2⟩:=Zf3 hq
    rw [hb] at q1;cases q1;rw [hf] at q2;cases q2
  ·intro r L' hr e' e''
   obtain ⟨_,e3⟩:=Ze4 e'
   have:∃ o,(Zai St0 [o0,o1]).get r=some o∧alive o=true:=by
    have hal:∀ {o:AObj},unO 2 o=true→alive o=true:=fun {o} h=>by cases o <;> first|rfl|cases h
    rcases r with _|_|r
    ·exact ⟨_,gt 0 _ rfl,hal u0⟩
    ·exact ⟨_,gt 1 _ rfl,hal u1⟩
    ·omega
   obtain ⟨o,ho,ha⟩:=this
   have:=hS.fzr r o L' ho ha e3
   rw [e'',hb] at this;cases this
  ·cases hq:γ0.fz b with
   | none=>exact hP.fzn b f hb hq
   | some c=>
    have:=hP.le.fz b c hq
    rw [hb] at this;cases this
    rw [hO b _ hq] at hf;cases hf
 have hst:SpI4 P γ0 w0' N cX o0 o1 L.length bx Lf bl cL B cB 0 (thaw γ 2) a w:=by
  refine ⟨⟨h2,?_,?_,hD.nil2,hP.thaw hγ0 hO,fun b c hc=>(Zf3 hc).2,?_⟩,t7,?_,⟨⟨fl.cs,spx,?_,fun j hj=>(hB j hj).2.1⟩,fun j hj h0=>((hB j hj).2.2 h0).1,fun j k hj hk=>(((hB j hj).2.2 (by omega)).2.2.2 k hk).2.1⟩,?_⟩
  ·intro q v hv
   obtain ⟨pp,hp,h1,h2⟩:=Zh0 hv
   simp only [List.mem_cons,List.not_mem_nil,or_false] at hp
   rcases hp with rfl|rfl <;> subst h1 <;> subst h2
   ·exact ⟨_,t0,Zjs _ rfl t0'⟩
   ·exact ⟨_,t1,Zjs _ rfl t1'⟩
  ·refine hS.thawS rfl fun r o ho=>?_
   have:=Ziw _ ho
   have hr:r<2:=(List.getElem?_eq_some_iff.1 this).1
   rcases r with _|_|r
   ·cases this;exact ⟨hr,gt 0 _ rfl,u0⟩
   ·cases this;exact ⟨hr,gt 1 _ rfl,u1⟩
   ·omega
  ·intro r hr
   rcases r with _|_|r
   ·exact ⟨_,(Zfg hr).trans y0⟩
   ·exact ⟨_,(Zfg hr).trans y1⟩
   ·omega
  ·obtain ⟨v',a1,a2⟩:=hT 12 _ rfl;rw [a1,Zl1 a2];rfl
  ·have:=fl2 (L.length*6-1) (ls[L.length*6-1]'(by omega)) (List.getElem?_eq_getElem _)
   have:=(Array.getElem?_eq_some_iff.1 (show fl.cs[0+(L.length*6-1)]?=some _ from this)).1
   omega
  ·rintro b (rfl|⟨j,hj,h0,rfl⟩|⟨j,k,hj,hk,rfl⟩)
   ·exact dif _ fl fl1 fo
   ·obtain ⟨_,_,⟨f,g1,g2⟩,_⟩:=(hB j hj).2.2 h0;exact dif _ f g1 g2
   ·obtain ⟨_,_,f,g1,g2⟩:=((hB j hj).2.2 (by omega)).2.2.2 k hk;exact dif _ f g1 g2
 refine wpIn_mono (hst.loop hE hm hγ0 hO u0 u1 fx e1) ?_
 rintro ex a' w' ⟨rfl,γ',hb⟩
 exact ⟨.exit 0,_,_,_,⟨rfl,Tells.refl⟩,rfl,hb.hN,γ',hb.pp,hb.sm,hb.tr,hb.df⟩
end Go.AM
set_option maxRecDepth 100000
namespace Go.AM
attribute [local irreducible] W
open X
theorem tw_rdF {c:Cfg}{d:DK}(h:d.any) (a:Int):rdF ⟨c,twD d,a⟩=rdF ⟨c,d,a⟩:=by
 unfold rdF
 rw [tw_ask h,tw_rbk]
theorem Ztp {d:DK}:Zcy (twD d)=Zcy d:=by
 unfold Zcy Zrc Zzm
 have:Ze8 0 (twD d).ws.reverse=Ze8 0 d.ws.reverse:=by
  show Ze8 _ (d.ws.map Zhu).reverse=_
  rw [← List.map_reverse];exact Zp4 _ _
 rw [this];rfl
theorem Zzu {c:Cfg}{d:DK}(h:d.any):Zdn ⟨c,twD d⟩=Zdn ⟨c,d⟩:=by
 have hE:Zlc ⟨c,twD d⟩=Zlc ⟨c,d⟩:=by
  unfold Zlc
  dsimp only
  rw [Zzt h,tw_us h,Ztp];rfl
 have hL:Zo4 ⟨c,twD d⟩=Zo4 ⟨c,d⟩:=by
  unfold Zo4
  dsimp only
  rw [Ztp]
  have:(fun u:Nat=>rdF ⟨c,twD d,(Zgj (Zcy d)+(u:Int)) % c.log⟩)=(fun u:Nat=>rdF ⟨c,d,(Zgj (Zcy d)+(u:Int)) % c.log⟩):=funext fun u=>tw_rdF h _
  rw [this]
 unfold Zdn
 rw [hE,hL]
 dsimp only
 rw [Ztp]
theorem Yhu {x:CK}(hx:x.ok):∃ (r1 r2 r3 r4 n:Int) (L:List Fd),Zdn x=.tup [.agg [.int .u32 r1,.int .u32 r2,.int .u32 r3,.int .i64 r4],lsV L,.int .i64 n]∧FdL L∧L.length<1000:=by
 by_cases hz:Zlc x=0
 ·have hJ:=allL_G x
  obtain ⟨hM,_,_,_,_⟩:=fst0 hz
  have hM':=hM
  unfold Cfg.may at hM'
  have hle:=Zvj (Zo4 x)
  have hle2:=hJ.le
  refine ⟨_,_,_,_,0,Zo4 x,(by unfold Zdn;rw [if_pos hz];rfl),⟨by omega,fun f hf=>?_⟩,by omega⟩
  obtain ⟨i,hi⟩:=List.mem_iff_getElem?.1 hf
  have h1:=(hJ.get i f hi).1
  have hg:=Zik h1
  have hl:=hg.len (Yik hx hz _)
  have:=(Zph (Zgm (Yik hx hz _) hg.ask 0).2).stripe
  exact ⟨by rw [hg.n];exact this,hl.1⟩
 ·exact ⟨0,0,0,0,Zlc x,[],(by unfold Zdn;rw [if_neg hz];rfl),⟨by show 0<_;decide,fun f h=>by cases h⟩,by show 0<1000;decide⟩
structure STIn (e:Env):Prop where
 h21:Con e 21 grt4F.O
 h22:Con e 22 twn4F.O
 h27:Con e 27 allF.O
 h28:Con e 28 allF.O
 h29:Con e 29 sfF.O
 h26:Con e 26 sam4F.O
def end4:AC:=match Yhk with
 | .seq _ (.seq _ (.seq _ (.seq _ (.seq _ (.seq _ (.seq _ r))))))=>r
 | _=>.skip
theorem Zzw (P:Program) (e:Env) (hE:EnvOk P e) (hm:P.follows .mixedOrders=true) (hI:STIn e) (c:Cfg) (hc:c.ok) (d:DK) (hd:d.any) (hu:uns 2 d.c=true):
 WO P Yhk (Zax [c.v,d.v] 0 .lf) St0 [] (Zhv [.tmp 4] fun u _=>u=.bool true):=by
 obtain ⟨h21,h22,h27,h28,h29,h26⟩:=hI
 have hG:=fun (K:AV→St→Prop) (s:St) (hk:K (.bool (Zsh d)) s)=>ESc.fam (k:=K) (s:=s) grt4F h21 d hd rfl hk
 have hok:=fun (h:Zsh d=false)=>grt4_ok hd h
 have hT:=fun (h:d.ok) (K:AV→St→Prop) (s:St) (hk:K (twD d).v s)=>ESc.fam (k:=K) (s:=s) twn4F h22 d h rfl hk
 have hS:=fun (h:d.ok) (K:AV→St→Prop) (s:St) (hk:K (.bool true) s)=>ESc.fam (k:=K) (s:=s) sam4F h26 d h rfl hk
 have hR1:=fun (h:d.ok) (K:AV→St→Prop) (s:St) (hk:K (Zdn ⟨c,d⟩) s)=>ESc.fam (k:=K) (s:=s) allF h27 ⟨c,twD d⟩ ⟨hc,Zvn h⟩ (u:=Zdn ⟨c,d⟩) (Zzu hd) hk
 have hR2:=fun (h:d.ok) (K:AV→St→Prop) (s:St) (hk:K (Zdn ⟨c,d⟩) s)=>ESc.fam (k:=K) (s:=s) allF h28 ⟨c,d⟩ ⟨hc,h⟩ (u:=Zdn ⟨c,d⟩) rfl hk
 have hF:=fun (h:d.ok)=>Yhu (x:=⟨c,d⟩) ⟨hc,h⟩
 have hU2:uns 2 (twD d).c=true:=twD_unk 2 d
 have hdf0:=Zp0 hd.wl hd.bl (d:=d.dead)
 have hdf2:d.ok→hfs [(twD d).bv,(twD d).wv,.bool (twD d).dead]=true:=fun h=>Zp0 (Zvn h).a.wl (Zvn h).a.bl
 generalize Zdn ⟨c,d⟩=D at hR1 hR2 hF
 generalize Zsh d=q at hG hok
 obtain ⟨id,mb,ch,rw',lg,hdd⟩:=c
 have hR1:∀ (h:d.ok) (K:AV→St→Prop) (s:St),K D s→ESc e 27 [.agg [.int .u32 id,.int .i64 mb,.int .i64 ch,.int .i64 rw',.int .i64 lg,.int .i64 hdd],(twD d).v] s K:=hR1
 have hR2:∀ (h:d.ok) (K:AV→St→Prop) (s:St),K D s→ESc e 28 [.agg [.int .u32 id,.int .i64 mb,.int .i64 ch,.int .i64 rw',.int .i64 lg,.int .i64 hdd],d.v] s K:=hR2
 have hS:∀ (h:d.ok) (K:AV→St→Prop) (s:St),K (.bool true) s→ESc e 26 [(twD d).v,d.v] s K:=hS
 generalize twD d=y at *
 obtain ⟨bv,us,bs,wv,ws,dd⟩:=d
 obtain ⟨bv2,us2,bs2,wv2,ws2,dd2⟩:=y
 dsimp only at hdf0 hdf2
 have hu:uns 2 [bv,wv,.bool dd]=true:=hu
 have hU2:uns 2 [bv2,wv2,.bool dd2]=true:=hU2
 show WO P Yhk (Zax [.agg [.int .u32 id,.int .i64 mb,.int .i64 ch,.int .i64 rw',.int .i64 lg,.int .i64 hdd],.agg [bv,wv,.bool dd]] 0 .lf) St0 [] _
 refine WO.seqV hE hm ?_;conv=>whnf
 refine WO.seqV hE hm ?_;conv=>whnf
 refine hG _ _ ?_
 cases q
 ·have hok:=hok rfl
  have hdf2:=hdf2 hok
  obtain ⟨r1,r2,r3,r4,er,L,hD,hL,hLn⟩:=hF hok
  have hsf:=fun (K:AV→St→Prop) (s:St) (hk:K (.bool true) s)=>ESc.fam (k:=K) (s:=s) sfF h29 L hL (u:=.bool true) rfl hk
  have hlf:=Znt L
  have hloop:=fun {e0 e1:Nat}{C0 C1:List AV} w0 w1 u0 u1=>sc_loop (P:=P) hE hm (e0:=e0) (e1:=e1) (C0:=C0) (C1:=C1) w0 w1 u0 u1 hLn fun f hf=>(hL.f f hf).2
  have hsf:∀ (K:AV→St→Prop) (s:St),K (.bool true) s→ESc e 29 [lsV L,lsV L] s K:=hsf
  subst hD
  generalize lsV L=lv at *
  conv=>whnf
  refine WO.seqV hE hm ?_;conv=>whnf
  refine hT hok _ _ ?_;conv=>whnf
  refine WO.seqV hE hm ?_;conv=>whnf
  refine hR1 hok _ _ ?_;conv=>whnf
  refine WO.seqV hE hm ?_;conv=>whnf
  refine hR2 hok _ _ ?_;conv=>whnf
  refine WO.seqV hE hm ?_;conv=>whnf
  repeat' (first|(refine Zzf rfl rfl (eqf4 _ _ _ _) ?_;conv=>whnf)|(refine hsf _ _ ?_;conv=>whnf)|(refine Zas (a:=er) (b:=er) rfl rfl (fun h=>absurd rfl h) (fun _=>?_);conv=>whnf)|(refine w12 rfl ?_;conv=>whnf)|fail)
  refine WO.tells (Abs.tells (tl:=[(3,.ptr 0 0),(5,.ptr 1 0),(7,lv)]) (os:=[.row 28 [bv,wv,.bool dd],.row 28 [bv2,wv2,.bool dd2]]) (rs:=[1,2])
   ⟨by decide,⟨⟨rfl,rfl⟩,⟨rfl,rfl⟩,⟨Zbe _ hlf,by rw [Zao _ hlf];rfl⟩,trivial⟩,⟨⟨Za6 hdf0,by rw [Zac hdf0];rfl⟩,⟨Za6 hdf2,by rw [Zac hdf2];rfl⟩,trivial⟩⟩) ?_
  refine WO.seq ?_
  refine WO.seqV hE hm ?_;conv=>whnf
  refine WO.tells (Abs.tells (tl:=tl4i lv) (os:=[.row 28 [bv,wv,.bool dd],.row 28 [bv2,wv2,.bool dd2]]) (rs:=[0,1])
   ⟨by decide,⟨⟨rfl,rfl⟩,⟨rfl,rfl⟩,⟨Zbe _ hlf,by rw [Zao _ hlf];rfl⟩,⟨rfl,rfl⟩,trivial⟩,⟨⟨Za6 hdf0,by rw [Zac hdf0];rfl⟩,⟨Za6 hdf2,by rw [Zac hdf2];rfl⟩,trivial⟩⟩) ?_
  refine WO.block ((hloop hdf0 hdf2 hu hU2).mono ?_)
  rintro x t s ds ⟨rfl,hte⟩
  have hnext:WO P end4 t s ds (Zhv [.tmp 4] fun u _=>u=.bool true):=by
   refine WO.tells hte (WO.of_W (Zkt hE hm ?_))
   show VW P e 0 end4 (ofL [(3,.ptr 0 0),(5,.ptr 1 0)]) (Zai St0 [.row 28 [bv,wv,.bool dd],.row 28 [bv2,wv2,.bool dd2]]) none [] _
   conv=>whnf
   refine hS hok _ _ ?_;conv=>whnf
   rfl
  exact hnext
 ·conv=>whnf
  skip
  exact ⟨.inr rfl,_,_,rfl,rfl,rfl⟩
end Go.AM
set_option maxRecDepth 100000
namespace Go.AM
mutual
theorem Shape.uns {k:Nat}:∀ {T:Ty}{l:List AV},Shape T l→AM.uns k l=true
 | _,_,.bool b=>rfl
 | _,_,.int q n _=>rfl
 | _,_,.nil E=>rfl
 | _,_,.es E=>rfl
 | _,_,.fz E n m c ls _ _ _ h _ hc=>by
  have h1:AM.uns k ls.flatten=true:=by
   rw [uns_iff]
   intro v hv
   obtain ⟨l,hl,hv⟩:=List.mem_flatten.1 hv
   exact uns_iff.1 (Shape.uns (h l hl)) v hv
  rcases c with _|_|c
  ·show ((true && AM.uns k ls.flatten) && true)=true
   rw [h1];rfl
  ·exact absurd rfl hc
  ·show ((true && AM.uns k ls.flatten) && true)=true
   rw [h1];rfl
 | _,_,.st Fs l h=>Shapes.uns h
theorem Shapes.uns {k:Nat}:∀ {Ts:List Ty}{l:List AV},Shapes Ts l→AM.uns k l=true
 | _,_,.nil=>rfl
 | _,_,.cons T Ts l m a b=>by
  rw [uns_iff]
  intro v hv
  rcases List.mem_append.1 hv with h|h
  ·exact uns_iff.1 (Shape.uns a) v h
  ·exact uns_iff.1 (Shapes.uns b) v h
end
theorem disk_ofU2 {l:List AV}(h:Shapes tDisk l):∃ d:DK,d.any∧l=d.c∧uns 2 d.c=true:=by
 obtain ⟨d,h1,h2⟩:=disk_of h
 exact ⟨d,h1,h2,by rw [← h2];exact h.uns⟩
end Go.AM
