/-
 Functions of the program as the abstract machine reads them, and what is stated of them, checked by the kernel. No conditions.
-/
import Derived.Test.YtnnbibnobmegpaaAM3
set_option linter.unusedVariables false
set_option linter.unusedSimpArgs false
namespace Go.AM
def CodeOf (P:Program) (N:Nat) (c:Code):AC→Prop
 | .skip=>c=.skip
 | .reg _=>∃ id ops dr,c=.region id ops dr∨Zcs P N c=some badC
 | .seq a b=>∃ c1 c2,c=.seq c1 c2∧Zcs P N c1=some a∧Zcs P N c2=some b
 | .cond x a b=>∃ y c1 c2,c=.cond y c1 c2∧aop y=some x∧Zcs P N c1=some a∧Zcs P N c2=some b
 | .block id a=>∃ c1,c=.block id c1∧Zcs P N c1=some a
 | .loop a=>∃ c1,c=.loop c1∧Zcs P N c1=some a
 | .rng g ps a b=>∃ y qs c1 c2,c=.rangeFunc y qs c1 c2∧aop y=some g∧qs.toList=ps∧Zcs P N c1=some a∧Zcs P N c2=some b∧∀ p ∈ ps,p<N
 | .exit id=>c=.exit id
 | .scope a=>∃ c1,c=.scope c1∧Zcs P N c1=some a
 | .lab=>∃ l,c=.label l
 | .ret=>c=.ret
theorem Zek {P:Program}{N:Nat}{c:Code}{ac:AC}(h:Zcs P N c=some ac):CodeOf P N c ac:=by
 cases c with
 | skip=>cases h;rfl
 | ret=>cases h;rfl
 | exit id=>cases h;rfl
 | label l=>cases h;exact ⟨l,rfl⟩
 | scope c1=>
  obtain ⟨a,h1,rfl⟩:=map_some (show (Zcs P N c1).map AC.scope=some ac from h)
  exact ⟨_,rfl,h1⟩
 | region id ops dr=>
  cases dr with
  | false=>obtain ⟨al,_,rfl⟩:=map_some (show (Zce P N ops ops.toList).map AC.reg=some ac from h);exact ⟨_,_,_,.inl rfl⟩
  | true=>
   have h':some (((Zdu P N ops).map AC.reg).getD badC)=some ac:=h
   cases hal:Zdu P N ops with
   | none=>rw [hal] at h';cases h';exact ⟨_,_,_,.inl rfl⟩
   | some al=>rw [hal] at h';cases h';exact ⟨_,_,_,.inl rfl⟩
 | seq c1 c2=>
  simp only [Zcs] at h
  split at h
  ·rename_i a b h1 h2;cases h;exact ⟨_,_,rfl,h1,h2⟩
  ·cases h
 | cond y c1 c2=>
  simp only [Zcs] at h
  split at h
  ·rename_i x a b h0 h1 h2;cases h;exact ⟨_,_,_,rfl,h0,h1,h2⟩
  ·cases h
 | block id c1=>
  obtain ⟨a,h1,rfl⟩:=map_some (show (Zcs P N c1).map (AC.block id)=some ac from h)
  exact ⟨_,rfl,h1⟩
 | loop c1=>
  obtain ⟨a,h1,rfl⟩:=map_some (show (Zcs P N c1).map AC.loop=some ac from h)
  exact ⟨_,rfl,h1⟩
 | rangeFunc f ps asg body=>
  simp only [Zcs] at h
  split at h
  ·rename_i y a b h0 h1 h2
   split at h
   ·rename_i hps
    cases h
    refine ⟨_,_,_,_,rfl,h0,rfl,h1,h2,fun p hp=>?_⟩
    have:=List.all_eq_true.1 hps p hp
    simpa using this
   ·cases h
  ·cases h
 | _=>cases h;exact ⟨0,#[],false,.inr rfl⟩
def W (P:Program) (k:Nat) (rd:Option Nat) (ac:AC) (t:AT) (s:St) (ds:List Nat) (Q:Ex→AT→St→List Nat→Prop):Prop:=
 ∀ (N:Nat) (c:Code) (γ:Gam) (w:World) (a:Act) (b:Option Nat) (γ0:Gam) (s0:St) (w0:World) (m:Nat),
  Zcs P N c=some ac→N≤a.tmps.size→TR γ t a.tmps→Sim P γ s w→RD γ0 rd b→DR γ ds a.defers→Stp γ0 s0 w0 γ s w→s0.next=k→(∀ r,k≤r→γ0 r=none)→(∀ r,r<k→∃ L,γ0 r=some L)→
  c.wpIn (fen b) m P (fun ex a' w'=>∃ x t' s' ds',Q x t' s' ds'∧Zmd P γ0 s0 w0 N x t' s' ds' ex a' w') a w
section
variable {P:Program}{k:Nat}{rd:Option Nat}{t:AT}{s:St}{ds:List Nat}{Q:Ex→AT→St→List Nat→Prop}
theorem W.mono {ac:AC}{Q':Ex→AT→St→List Nat→Prop}(h:W P k rd ac t s ds Q) (hq:∀ x t s ds,Q x t s ds→Q' x t s ds):W P k rd ac t s ds Q':=
 fun N c γ w a b γ0 s0 w0 m h1 h2 h3 h4 h5 h6 h7 h8 h9 h10=>wpIn_mono (h N c γ w a b γ0 s0 w0 m h1 h2 h3 h4 h5 h6 h7 h8 h9 h10) fun _ _ _ ⟨x,t',s',ds',hQ,hp⟩=>⟨x,t',s',ds',hq _ _ _ _ hQ,hp⟩
theorem W.exec {n:Nat}{rec:Rec}{ac:AC}{x:Ex}{t':AT}{s':St}{ds':List Nat}(hG:Zq9 P n rec) (h:rec ac t s rd ds=.ok x t' s' ds') (hq:Q x t' s' ds'):W P k rd ac t s ds Q:=
 fun N c γ w a b γ0 s0 w0 m h1 h2 h3 h4 h5 h6 h7 h8 h9 h10=>wpIn_mono (hG N c ac γ t s w a rd b ds x t' s' ds' γ0 s0 w0 m h1 h2 h3 h4 h5 h6 h7 h).1 fun _ _ _ hp=>⟨x,t',s',ds',hq,hp⟩
theorem W.skip (h:Q .normal t s ds):W P k rd .skip t s ds Q:=by
 intro N c γ w a b γ0 s0 w0 m h1 h2 h3 h4 h5 h6 h7 h8 h9 h10
 cases (Zek h1:c=.skip)
 exact wpIn_skip ⟨_,_,_,_,h,rfl,h2,γ,h7,h4,h3,h6⟩
theorem W.ret (h:Q .ret t s ds):W P k rd .ret t s ds Q:=by
 intro N c γ w a b γ0 s0 w0 m h1 h2 h3 h4 h5 h6 h7 h8 h9 h10
 cases (Zek h1:c=.ret)
 exact wpIn_ret ⟨_,_,_,_,h,rfl,h2,γ,h7,h4,h3,h6⟩
theorem W.exit {id:Nat}(h:Q (.exit id) t s ds):W P k rd (.exit id) t s ds Q:=by
 intro N c γ w a b γ0 s0 w0 m h1 h2 h3 h4 h5 h6 h7 h8 h9 h10
 cases (Zek h1:c=.exit id)
 exact wpIn_exit ⟨_,_,_,_,h,rfl,h2,γ,h7,h4,h3,h6⟩
theorem W.lab (h:Q .normal t s ds):W P k rd .lab t s ds Q:=by
 intro N c γ w a b γ0 s0 w0 m h1 h2 h3 h4 h5 h6 h7 h8 h9 h10
 obtain ⟨l,rfl⟩:=(Zek h1:∃ l,c=.label l)
 exact wpIn_label ⟨_,_,_,_,h,rfl,h2,γ,h7,h4,h3,h6⟩
theorem W.scope {x:AC}(h:W P k rd x t s ds Q):W P k rd (.scope x) t s ds Q:=by
 intro N c γ w a b γ0 s0 w0 m h1 h2 h3 h4 h5 h6 h7 h8 h9 h10
 obtain ⟨c1,rfl,e1⟩:=(Zek h1:∃ c1,c=.scope c1∧Zcs P N c1=some x)
 refine Zmw ?_ (h N c1 γ w a b γ0 s0 w0 m e1 h2 h3 h4 h5 h6 h7 h8 h9 h10)
 rintro l a w ⟨x,t',s',ds',_,hp,_⟩
 cases x <;> simp [Yit] at hp
def Yjc (K:AT→St→List Nat→Prop) (Q:Ex→AT→St→List Nat→Prop) (x:Ex) (t:AT) (s:St) (ds:List Nat):Prop:=match x with
 | .normal=>K t s ds
 | .exit id=>Q (.exit id) t s ds
 | .ret=>Q .ret t s ds
theorem Zju {N:Nat}{γ0:Gam}{s0:St}{w0:World}{K:AT→St→List Nat→Prop}{J:Act→World→Prop}
 (hK:∀ t1 s1 ds1 γ1 a1 w1,K t1 s1 ds1→N≤a1.tmps.size→TR γ1 t1 a1.tmps→Sim P γ1 s1 w1→DR γ1 ds1 a1.defers→Stp γ0 s0 w0 γ1 s1 w1→J a1 w1):
 ∀ ex a1 w1,(∃ x t' s' ds',Yjc K Q x t' s' ds'∧Zmd P γ0 s0 w0 N x t' s' ds' ex a1 w1)→Exit.then J (fun ex a' w'=>∃ x t' s' ds',Q x t' s' ds'∧Zmd P γ0 s0 w0 N x t' s' ds' ex a' w') ex a1 w1:=by
 rintro ex a1 w1 ⟨x,t',s',ds',hq,hp⟩
 obtain ⟨rfl,q1,γ1,q2,q3,q4,q5⟩:=hp
 cases x with
 | normal=>exact hK t' s' ds' γ1 a1 w1 hq q1 q4 q3 q5 q2
 | exit id=>exact ⟨_,_,_,_,hq,rfl,q1,γ1,q2,q3,q4,q5⟩
 | ret=>exact ⟨_,_,_,_,hq,rfl,q1,γ1,q2,q3,q4,q5⟩
theorem W.seq {x y:AC}(h:W P k rd x t s ds (Yjc (fun t s ds=>W P k rd y t s ds Q) Q)):W P k rd (.seq x y) t s ds Q:=by
 intro N c γ w a b γ0 s0 w0 m h1 h2 h3 h4 h5 h6 h7 h8 h9 h10
 obtain ⟨c1,c2,rfl,e1,e2⟩:=(Zek h1:∃ c1 c2,c=.seq c1 c2∧Zcs P N c1=some x∧Zcs P N c2=some y)
 refine wpIn_seq (wpIn_mono (h N c1 γ w a b γ0 s0 w0 m e1 h2 h3 h4 h5 h6 h7 h8 h9 h10) (Zju ?_))
 intro t1 s1 ds1 γ1 a1 w1 hk q1 q2 q3 q4 q5
 exact hk N c2 γ1 w1 a1 b γ0 s0 w0 m e2 q1 q2 q3 h5 q4 q5 h8 h9 h10
theorem Yja {x:AO}{y z:AC}{b:Bool}(hb:ev x t=.some (.bool b)) (h1:b=true→W P k rd y t s ds Q) (h2:b=false→W P k rd z t s ds Q):W P k rd (.cond x y z) t s ds Q:=by
 intro N c γ w a b' γ0 s0 w0 m g1 g2 g3 g4 g5 g6 g7 g8 g9 g10
 obtain ⟨o,c1,c2,rfl,e0,e1,e2⟩:=(Zek g1:∃ o c1 c2,c=.cond o c1 c2∧aop o=some x∧Zcs P N c1=some y∧Zcs P N c2=some z)
 have hR:=Yg3 g3 e0 hb
 cases b with
 | true=>exact wpIn_cond_true (Zo3 hR) (h1 rfl N c1 γ w a b' γ0 s0 w0 m e1 g2 g3 g4 g5 g6 g7 g8 g9 g10)
 | false=>exact wpIn_cond_false (Zo3 hR) (h2 rfl N c2 γ w a b' γ0 s0 w0 m e2 g2 g3 g4 g5 g6 g7 g8 g9 g10)
def Yh1 (id:Nat) (Q:Ex→AT→St→List Nat→Prop) (x:Ex) (t:AT) (s:St) (ds:List Nat):Prop:=match x with
 | .normal=>Q .normal t s ds
 | .exit id'=>if id'=id then Q .normal t s ds else Q (.exit id') t s ds
 | .ret=>Q .ret t s ds
theorem W.block {id:Nat}{x:AC}(h:W P k rd x t s ds (Yh1 id Q)):W P k rd (.block id x) t s ds Q:=by
 intro N c γ w a b γ0 s0 w0 m h1 h2 h3 h4 h5 h6 h7 h8 h9 h10
 obtain ⟨c1,rfl,e1⟩:=(Zek h1:∃ c1,c=.block id c1∧Zcs P N c1=some x)
 refine wpIn_block (wpIn_mono (h N c1 γ w a b γ0 s0 w0 m e1 h2 h3 h4 h5 h6 h7 h8 h9 h10) ?_)
 rintro ex a1 w1 ⟨x1,t',s',ds',hq,rfl,q1,γ1,q2,q3,q4,q5⟩
 cases x1 with
 | normal=>exact ⟨_,_,_,_,hq,rfl,q1,γ1,q2,q3,q4,q5⟩
 | ret=>exact ⟨_,_,_,_,hq,rfl,q1,γ1,q2,q3,q4,q5⟩
 | exit id'=>
  show if id'=id then _ else _
  simp only [Yh1] at hq
  split
  ·rename_i e;rw [if_pos e] at hq;exact ⟨_,_,_,_,hq,rfl,q1,γ1,q2,q3,q4,q5⟩
  ·rename_i e;rw [if_neg e] at hq;exact ⟨_,_,_,_,hq,rfl,q1,γ1,q2,q3,q4,q5⟩
theorem W.loop {x:AC}(I:Nat→AT→St→List Nat→Prop) (n:Nat) (h0:I n t s ds)
 (hr:∀ n t s ds,I n t s ds→W P k rd x t s ds (Yjc (fun t s ds=>∃ n',n'<n∧I n' t s ds) Q)):W P k rd (.loop x) t s ds Q:=by
 intro N c γ w a b γ0 s0 w0 m h1 h2 h3 h4 h5 h6 h7 h8 h9 h10
 obtain ⟨c1,rfl,e1⟩:=(Zek h1:∃ c1,c=.loop c1∧Zcs P N c1=some x)
 have key:∀ (j n:Nat) (t:AT) (s:St) (ds:List Nat) (γ:Gam) (a:Act) (w:World),n<j→I n t s ds→N≤a.tmps.size→TR γ t a.tmps→Sim P γ s w→DR γ ds a.defers→Stp γ0 s0 w0 γ s w→
  Code.roundsIn (fen b) m P c1 (fun ex a' w'=>∃ x t' s' ds',Q x t' s' ds'∧Zmd P γ0 s0 w0 N x t' s' ds' ex a' w') j a w:=by
  intro j
  induction j with
  | zero=>intro n t s ds γ a w hn;omega
  | succ j ih=>
   intro n t s ds γ a w hn hi q1 q2 q3 q4 q5
   rw [roundsIn_succ]
   refine wpIn_mono (hr n t s ds hi N c1 γ w a b γ0 s0 w0 m e1 q1 q2 q3 h5 q4 q5 h8 h9 h10) (Zju ?_)
   rintro t1 s1 ds1 γ1 a1 w1 ⟨n',hn',hi'⟩ r1 r2 r3 r4 r5
   exact ih n' t1 s1 ds1 γ1 a1 w1 (by omega) hi' r1 r2 r3 r4 r5
 exact wpIn_loop_rounds (n+1) (key (n+1) n t s ds γ a w (Nat.lt_succ_self _) h0 h2 h3 h4 h6 h7)
end
end Go.AM
namespace Go.AM
mutual
def Zed (ρ:Nat→Nat):AV→AV
 | .ptr r o=>.ptr (ρ r) o
 | .sl r o n c=>.sl (ρ r) o n c
 | .map r=>.map (ρ r)
 | .yld l=>.yld (ρ l)
 | .fn f a b=>.fn f (Zbx ρ a) (Zbx ρ b)
 | .iface t v=>.iface t (Zed ρ v)
 | .agg l=>.agg (Zbx ρ l)
 | .tup l=>.tup (Zbx ρ l)
 | v=>v
def Zbx (ρ:Nat→Nat):List AV→List AV
 | []=>[]
 | v::l=>Zed ρ v::Zbx ρ l
end
mutual
def bd (n:Nat):AV→Bool
 | .ptr r _=>Nat.blt r n
 | .sl r _ _ _=>Nat.blt r n
 | .map r=>Nat.blt r n
 | .yld l=>Nat.blt l n
 | .fn _ a b=>bds n a && bds n b
 | .iface _ v=>bd n v
 | .agg l=>bds n l
 | .tup l=>bds n l
 | _=>true
def bds (n:Nat):List AV→Bool
 | []=>true
 | v::l=>bd n v && bds n l
end
section
variable {P:Program}{γ γ2:Gam}{ρ:Nat→Nat}{n:Nat}
mutual
theorem Zq7 (hz:∀ b c,γ.fz b=some c→γ2.fz b=some c):∀ (v:AV) {v':Value},hf v=true→VR γ v v'→VR γ2 v v'
 | .bool b,_,_,.bool _=>.bool _
 | .int k n,_,_,.int _ _=>.int _ _
 | .str l,_,_,.str _ s e=>.str _ s e
 | .ptr _ _,_,h,_=>by cases h
 | .nilp,_,_,.nilp=>.nilp
 | .sl ..,_,h,_=>by cases h
 | .nils,_,_,.nils=>.nils
 | .es,_,_,.es a c=>.es a c
 | .map _,_,h,_=>by cases h
 | .nilm,_,_,.nilm=>.nilm
 | .fn f xs ys,_,h,.fn _ _ _ as bs a b=>by
  simp only [hf,Bool.and_eq_true] at h
  exact .fn f xs ys as bs (Zi9 hz xs h.1 a) (Zi9 hz ys h.2 b)
 | .yld _,_,h,_=>by cases h
 | .nilf,_,_,.nilf=>.nilf
 | .iface t v,_,h,.iface _ _ v' e=>.iface t v v' (Zq7 hz v h e)
 | .nili,_,_,.nili=>.nili
 | .agg l,_,h,.agg _ a e o=>.agg l a (Zi9 hz l h e) o
 | .tup l,_,h,.tup _ a e=>.tup l a (Zi9 hz l h e)
 | .any,_,_,.any v e=>.any v e
 | .fz n c l,_,_,.fz _ _ _ vs b o cc cs e1 e2 e3 e4 e5 e6 e7=>.fz n c l vs b o cc cs (hz _ _ e1) e2 e3 (Zi9 hz l e7 e4) e5 e6 e7
 | .fp l,_,_,.fp _ vs b o cs e1 e2 e3 e4 e5=>.fp l vs b o cs (hz _ _ e1) e2 e3 (Zi9 hz l e5 e4) e5
theorem Zi9 (hz:∀ b c,γ.fz b=some c→γ2.fz b=some c):∀ (l:List AV) {m:List Value},hfs l=true→All2 (VR γ) l m→All2 (VR γ2) l m
 | [],_,_,.nil=>.nil
 | v::l,_,h,.cons a b=>by
  simp only [hfs,Bool.and_eq_true] at h
  exact .cons (Zq7 hz v h.1 a) (Zi9 hz l h.2 b)
end
mutual
theorem Zl3 (hz:∀ b c,γ.fz b=some c→γ2.fz b=some c) (hl:∀ r,r<n→∀ L,γ (ρ r)=some L→γ2 r=some L):∀ (v:AV) {v':Value},bd n v=true→VR γ (Zed ρ v) v'→VR γ2 v v'
 | .bool b,_,_,h=>by cases h;exact .bool _
 | .int k n,_,_,h=>by cases h;exact .int _ _
 | .str l,_,_,h=>by cases h;rename_i s e;exact .str _ s e
 | .ptr r o,_,hb,h=>by
  cases h with
  | ptr _ _ L e=>exact .ptr r o L (hl r (by simpa [bd] using hb) L e)
 | .nilp,_,_,h=>by cases h;exact .nilp
 | .sl r o m c,_,hb,h=>by
  cases h with
  | sl _ _ _ c L e a=>exact .sl r o m c L (hl r (by simpa [bd] using hb) L e) a
  | slu _ _ _ c L e a b d=>exact .slu r o m c L (hl r (by simpa [bd] using hb) L e) a b d
 | .nils,_,_,h=>by cases h;exact .nils
 | .es,_,_,h=>by cases h;exact .es _ _
 | .map r,_,hb,h=>by
  cases h with
  | map _ L e=>exact .map r L (hl r (by simpa [bd] using hb) L e)
 | .nilm,_,_,h=>by cases h;exact .nilm
 | .fn f xs ys,_,hb,h=>by
  simp only [bd,Bool.and_eq_true] at hb
  cases h with
  | fn _ _ _ as bs a b=>exact .fn f xs ys as bs (Zoj hz hl xs hb.1 a) (Zoj hz hl ys hb.2 b)
 | .yld l,_,hb,h=>by
  cases h with
  | yld _ L e=>exact .yld l L (hl l (by simpa [bd] using hb) L e)
 | .nilf,_,_,h=>by cases h;exact .nilf
 | .iface t v,_,hb,h=>by
  cases h with
  | iface _ _ v' e=>exact .iface t v v' (Zl3 hz hl v hb e)
 | .nili,_,_,h=>by cases h;exact .nili
 | .agg l,_,hb,h=>by
  cases h with
  | agg _ a e o=>exact .agg l a (Zoj hz hl l hb e) o
 | .tup l,_,hb,h=>by
  cases h with
  | tup _ a e=>exact .tup l a (Zoj hz hl l hb e)
 | .any,_,_,h=>by cases h;rename_i e;exact .any _ e
 | .fz m c l,_,_,h=>Zq7 hz (.fz m c l) rfl h
 | .fp l,_,_,h=>Zq7 hz (.fp l) rfl h
theorem Zoj (hz:∀ b c,γ.fz b=some c→γ2.fz b=some c) (hl:∀ r,r<n→∀ L,γ (ρ r)=some L→γ2 r=some L):∀ (l:List AV) {m:List Value},bds n l=true→All2 (VR γ) (Zbx ρ l) m→All2 (VR γ2) l m
 | [],_,_,h=>by cases h;exact .nil
 | v::l,_,hb,h=>by
  simp only [bds,Bool.and_eq_true] at hb
  cases h with
  | cons a b=>exact .cons (Zl3 hz hl v hb.1 a) (Zoj hz hl l hb.2 b)
end
mutual
theorem Zqn (hρ:∀ r,r<n→ρ r=r):∀ (v:AV),bd n v=true→Zed ρ v=v
 | .ptr r o,h=>by simp only [Zed];rw [hρ r (by simpa [bd] using h)]
 | .sl r o m c,h=>by simp only [Zed];rw [hρ r (by simpa [bd] using h)]
 | .map r,h=>by simp only [Zed];rw [hρ r (by simpa [bd] using h)]
 | .yld r,h=>by simp only [Zed];rw [hρ r (by simpa [bd] using h)]
 | .fn f a b,h=>by simp only [bd,Bool.and_eq_true] at h;simp only [Zed];rw [Zj8 hρ a h.1,Zj8 hρ b h.2]
 | .iface t v,h=>by simp only [Zed];rw [Zqn hρ v h]
 | .agg l,h=>by simp only [Zed];rw [Zj8 hρ l h]
 | .tup l,h=>by simp only [Zed];rw [Zj8 hρ l h]
 | .bool _,_|.int _ _,_|.str _,_|.nilp,_|.nils,_|.es,_|.nilm,_|.nilf,_|.nili,_|.any,_|.fz _ _ _,_|.fp _,_=>rfl
theorem Zj8 (hρ:∀ r,r<n→ρ r=r):∀ (l:List AV),bds n l=true→Zbx ρ l=l
 | [],_=>rfl
 | v::l,h=>by simp only [bds,Bool.and_eq_true] at h;simp only [Zbx];rw [Zqn hρ v h.1,Zj8 hρ l h.2]
end
mutual
theorem Zbe:∀ (v:AV),hf v=true→bd n v=true
 | .ptr ..,h=>by cases h
 | .sl ..,h=>by cases h
 | .map ..,h=>by cases h
 | .yld ..,h=>by cases h
 | .fn f a b,h=>by simp only [hf,Bool.and_eq_true] at h;simp only [bd,Bool.and_eq_true];exact ⟨Zex a h.1,Zex b h.2⟩
 | .iface t v,h=>Zbe v h
 | .agg l,h=>Zex l h
 | .tup l,h=>Zex l h
 | .bool _,_|.int _ _,_|.str _,_|.nilp,_|.nils,_|.es,_|.nilm,_|.nilf,_|.nili,_|.any,_|.fz _ _ _,_|.fp _,_=>rfl
theorem Zex:∀ (l:List AV),hfs l=true→bds n l=true
 | [],_=>rfl
 | v::l,h=>by simp only [hfs,Bool.and_eq_true] at h;simp only [bds,Bool.and_eq_true];exact ⟨Zbe v h.1,Zex l h.2⟩
end
mutual
theorem Zao:∀ (v:AV),hf v=true→Zed ρ v=v
 | .ptr ..,h=>by cases h
 | .sl ..,h=>by cases h
 | .map ..,h=>by cases h
 | .yld ..,h=>by cases h
 | .fn f a b,h=>by simp only [hf,Bool.and_eq_true] at h;simp only [Zed];rw [Zcv a h.1,Zcv b h.2]
 | .iface t v,h=>by simp only [Zed];rw [Zao v h]
 | .agg l,h=>by simp only [Zed];rw [Zcv l h]
 | .tup l,h=>by simp only [Zed];rw [Zcv l h]
 | .bool _,_|.int _ _,_|.str _,_|.nilp,_|.nils,_|.es,_|.nilm,_|.nilf,_|.nili,_|.any,_|.fz _ _ _,_|.fp _,_=>rfl
theorem Zcv:∀ (l:List AV),hfs l=true→Zbx ρ l=l
 | [],_=>rfl
 | v::l,h=>by simp only [hfs,Bool.and_eq_true] at h;simp only [Zbx];rw [Zao v h.1,Zcv l h.2]
end
def Yge (ρ:Nat→Nat):List (AV×AV×Nat)→List (AV×AV×Nat)
 | []=>[]
 | (a,b,c)::l=>(Zed ρ a,Zed ρ b,c)::Yge ρ l
def bdE (n:Nat):List (AV×AV×Nat)→Bool
 | []=>true
 | (a,b,_)::l=>bd n a && bd n b && bdE n l
def bdT (n:Nat):T AV→Bool
 | .lf=>true
 | .nd v l r=>(match v with|none=>true|some v=>bd n v) && bdT n l && bdT n r
theorem Zu7 {n:Nat}:∀ {t:T AV}{i:Nat}{v:AV},bdT n t=true→t.get i=some v→bd n v=true:=by
 intro t
 induction t with
 | lf=>intro i v _ h;cases h
 | nd x l r il ir=>
  intro i v hb h
  simp only [bdT,Bool.and_eq_true] at hb
  cases i with
  | zero=>change x=some v at h;subst h;exact hb.1.1
  | succ i=>
   change (Bool.rec (T.get r (Nat.div i 2)) (T.get l (Nat.div i 2)) (Nat.beq (Nat.mod i 2) 0):Option AV)=some v at h
   cases hc:Nat.beq (Nat.mod i 2) 0 <;> rw [hc] at h
   ·exact ir hb.2 h
   ·exact il hb.1.2 h
def Zr9 (ρ:Nat→Nat):AObj→AObj
 | .row e cs=>.row e (Zbx ρ cs)
 | .map es c=>.map (Yge ρ es) c
 | .iter m b se l=>.iter (ρ m) b se l
 | o=>o
def bdO (k n:Nat):AObj→Bool
 | .row _ cs=>bds n cs
 | .map es _=>bdE n es
 | .iter m _ _ _=>Nat.blt m n
 | .loop _ _ _ tm _ _ _ d=>bdT k tm && Nat.blt d k
 | _=>true
theorem Ydp {n:Nat}:∀ {l:List AV}{i:Nat}{v:AV},bds n l=true→l[i]?=some v→bd n v=true
 | [],i,v,_,h=>by simp at h
 | x::l,i,v,hb,h=>by
  simp only [bds,Bool.and_eq_true] at hb
  cases i with
  | zero=>simp at h;subst h;exact hb.1
  | succ i=>exact Ydp hb.2 (by simpa using h)
theorem Zr8:∀ {l:List AV}{i:Nat}{v:AV},l[i]?=some v→(Zbx ρ l)[i]?=some (Zed ρ v)
 | [],i,v,h=>by simp at h
 | x::l,i,v,h=>by
  cases i with
  | zero=>simp at h;subst h;rfl
  | succ i=>simp only [Zbx];simpa using Zr8 (l:=l) (by simpa using h)
theorem Zh2:∀ (l:List AV),(Zbx ρ l).length=l.length
 | []=>rfl
 | x::l=>by simp [Zbx,Zh2 l]
theorem Yf3 {k:Nat}(hz:∀ b c,γ.fz b=some c→γ2.fz b=some c) (hl:∀ r,r<n→∀ L,γ (ρ r)=some L→γ2 r=some L) (hk:∀ r,r<k→ρ r=r) (hkn:k≤n) {L:Loc}{o:AObj}{hp:Array Obj}(hb:bdO k n o=true) (h:ObjR P γ L (Zr9 ρ o) hp):ObjR P γ2 L o hp:=by
 have hlk:∀ r,r<k→∀ L,γ r=some L→γ2 r=some L:=fun r hr L e=>hl r (by omega) L (by rw [hk r hr];exact e)
 have hid:∀ v,bd k v=true→∀ {v':Value},VR γ v v'→VR γ2 v v':=fun v hv v' e=>Zl3 (ρ:=fun r=>r) hz hlk v hv (by rw [Zqn (n:=k) (fun _ _=>rfl) v hv];exact e)
 cases o with
 | row e cs=>
  obtain ⟨c,h1,h2,h3,h4,h5,h6,h7⟩:=h
  rw [Zh2] at h5
  refine ⟨c,h1,h2,h3,h4,h5,fun i v hv=>?_,h7⟩
  obtain ⟨v',a,b,d⟩:=h6 i _ (Zr8 hv)
  exact ⟨v',a,Zl3 hz hl v (Ydp hb hv) b,d⟩
 | dead=>trivial
 | map es clock=>
  obtain ⟨ms,h1,h2⟩:=h
  refine ⟨ms,h1,?_⟩
  have:∀ (es:List (AV×AV×Nat)) (ms:List MapEntry),bdE n es=true→All2 (fun (x:AV×AV×Nat) (m:MapEntry)=>VR γ x.1 m.key∧VR γ x.2.1 m.val∧m.born=x.2.2) (Yge ρ es) ms→All2 (fun (x:AV×AV×Nat) (m:MapEntry)=>VR γ2 x.1 m.key∧VR γ2 x.2.1 m.val∧m.born=x.2.2) es ms:=by
   intro es
   induction es with
   | nil=>intro ms _ h;cases h;exact .nil
   | cons x es ih=>
    intro ms hb h
    obtain ⟨a,b,c⟩:=x
    simp only [bdE,Bool.and_eq_true] at hb
    cases h with
    | cons h1 h2=>exact .cons ⟨Zl3 hz hl a hb.1.1 h1.1,Zl3 hz hl b hb.1.2 h1.2.1,h1.2.2⟩ (ih _ hb.2 h2)
  exact this es _ hb h2
 | loop st pend fn tm ps asg body d=>
  obtain ⟨lp,h1,h2,h3,h4,h5,h6,D,h8,h10⟩:=h
  simp only [bdO,Bool.and_eq_true] at hb
  exact ⟨lp,h1,h2,h3,fun i v hv=>(let ⟨v',a,b⟩:=h4 i v hv;⟨v',a,hid v (Zu7 hb.1 hv) b⟩),h5,h6,D,hlk d (by simpa using hb.2) D h8,h10⟩
 | defd=>exact h
 | iter m b se l=>
  obtain ⟨h0,M,h1,h2⟩:=h
  exact ⟨h0,M,hl m (by simpa [bdO] using hb) M h1,h2⟩
structure Ren (k:Nat) (ρ:Nat→Nat) (t:AT) (s:St) (ds:List Nat) (t2:AT) (s2:St) (ds2:List Nat):Prop where
 id:∀ r,r<k→ρ r=r
 le:k≤s2.next
 inj:∀ r r',r<s2.next→r'<s2.next→ρ r=ρ r'→r=r'
 tmp:∀ i v,t2.get i=some v→bd s2.next v=true∧t.get i=some (Zed ρ v)
 obj:∀ r o,s2.get r=some o→r<s2.next∧bdO k s2.next o=true∧s.get (ρ r)=some (Zr9 ρ o)
 ds:ds=ds2.map ρ∧∀ d ∈ ds2,d<s2.next
theorem Zgu (o:AObj):alive (Zr9 ρ o)=alive o:=by cases o <;> rfl
theorem Ren.sim {k:Nat}{t:AT}{s:St}{ds:List Nat}{t2:AT}{s2:St}{ds2:List Nat}(hR:Ren k ρ t s ds t2 s2 ds2) {γ:Gam}{w:World}{tm:Array Value}{D:List Deferred}{γ0:Gam}{s0:St}{w0:World}(h3:TR γ t tm) (h4:Sim P γ s w) (h6:DR γ ds D) (h7:Stp γ0 s0 w0 γ s w) (h8:s0.next=k) (h9:∀ r,k≤r→γ0 r=none) (h10:∀ r,r<k→∃ L,γ0 r=some L):
 ∃ γ2,TR γ2 t2 tm∧Sim P γ2 s2 w∧DR γ2 ds2 D∧Stp γ0 s0 w0 γ2 s2 w:=by
 let γ2:Gam:=⟨fun r=>if r<s2.next then γ (ρ r) else none,γ.fz⟩
 have g2:∀ r,r<s2.next→γ2 r=γ (ρ r):=fun r hr=>by show (if r<s2.next then γ (ρ r) else none)=_;rw [if_pos hr]
 have g2n:∀ r,¬ r<s2.next→γ2 r=none:=fun r hr=>by show (if r<s2.next then γ (ρ r) else none)=_;rw [if_neg hr]
 have g2s:∀ r L,γ2 r=some L→r<s2.next∧γ (ρ r)=some L:=fun r L e=>by
  by_cases hr:r<s2.next
  ·rw [g2 r hr] at e;exact ⟨hr,e⟩
  ·rw [g2n r hr] at e;cases e
 have hz:∀ b c,γ.fz b=some c→γ2.fz b=some c:=fun _ _ e=>e
 have hl:∀ r,r<s2.next→∀ L,γ (ρ r)=some L→γ2 r=some L:=fun r hr L e=>by rw [g2 r hr];exact e
 have hT:TR γ2 t2 tm:=by
  intro i v hv
  obtain ⟨hb,ht⟩:=hR.tmp i v hv
  obtain ⟨v',e1,e2⟩:=h3 i _ ht
  exact ⟨v',e1,Zl3 hz hl v hb e2⟩
 have hS:Sim P γ2 s2 w:=by
  refine ⟨?_,?_,?_,?_,?_,?_,?_⟩
  ·intro r o L ho hL
   obtain ⟨hr,hb,hs⟩:=hR.obj r o ho
   obtain ⟨_,hL⟩:=g2s r L hL
   exact Yf3 hz hl hR.id hR.le hb (h4.obj _ _ L hs hL)
  ·intro r r' o o' L L' ho ho' ha ha' hL hL' hne
   obtain ⟨hr,hb,hs⟩:=hR.obj r o ho
   obtain ⟨hr',hb',hs'⟩:=hR.obj r' o' ho'
   exact h4.inj _ _ _ _ L L' hs hs' (by rw [Zgu];exact ha) (by rw [Zgu];exact ha') (g2s r L hL).2 (g2s r' L' hL').2 (fun e=>hne (hR.inj r r' hr hr' e))
  ·intro r L hL;exact h4.lt _ L (g2s r L hL).2
  ·intro r hr;exact g2n r (by omega)
  ·intro r o ho;exact (hR.obj r o ho).1
  ·exact h4.fzc
  ·intro r o L ho ha hL
   obtain ⟨hr,hb,hs⟩:=hR.obj r o ho
   exact h4.fzr _ _ L hs (by rw [Zgu];exact ha) (g2s r L hL).2
 have hD:DR γ2 ds2 D:=by
  obtain ⟨e,hd⟩:=hR.ds
  rw [e] at h6
  have:∀ (l:List Nat) (D':List Deferred),(∀ d ∈ l,d<s2.next)→DR γ (l.map ρ) D'→DR γ2 l D':=by
   intro l
   induction l with
   | nil=>intro D' _ h;cases h;exact .nil
   | cons d l ih=>
    intro D' hd h
    cases h with
    | cons h1 h2=>
     obtain ⟨L,e1,e2⟩:=h1
     exact .cons ⟨L,hl d (hd d (by simp)) L e1,e2⟩ (ih _ (fun x hx=>hd x (by simp [hx])) h2)
  exact this ds2 _ hd h6
 have hlt0:∀ r L,γ0 r=some L→r<k:=fun r L e=>by
  refine Nat.lt_of_not_le fun hk=>?_
  rw [h9 r hk] at e;cases e
 have hP:Stp γ0 s0 w0 γ2 s2 w:=by
  refine ⟨⟨?_,h7.le.fz⟩,?_,by rw [h8];exact hR.le,h7.size,h7.os,h7.tape,h7.output,h7.blk,?_,h7.fzn⟩
  ·intro r L e
   have hr:=hlt0 r L e
   rw [g2 r (Nat.lt_of_lt_of_le hr hR.le),hR.id r hr]
   exact h7.le.loc r L e
  ·intro r L e e0
   obtain ⟨hr,e⟩:=g2s r L e
   by_cases hk:r<k
   ·rw [hR.id r hk] at e
    exact h7.new r L e e0
   ·refine ⟨by omega,?_⟩
    cases hq:γ0 (ρ r) with
    | none=>exact (h7.new _ L e hq).2
    | some L'=>
     have:=h7.le.loc _ L' hq
     rw [e] at this;cases this
     exact .inr ⟨_,_,hq,rfl⟩
  ·intro r e0 hr
   obtain ⟨L,hL⟩:=h10 r (by omega)
   rw [hL] at e0;cases e0
 exact ⟨γ2,hT,hS,hD,hP⟩
theorem W.ren {k:Nat}{rd:Option Nat}{t:AT}{s:St}{ds:List Nat}{Q:Ex→AT→St→List Nat→Prop}{ac:AC}{t2:AT}{s2:St}{ds2:List Nat}(hR:Ren k ρ t s ds t2 s2 ds2) (h:W P k rd ac t2 s2 ds2 Q):W P k rd ac t s ds Q:=by
 intro N c γ w a b γ0 s0 w0 m h1 h2 h3 h4 h5 h6 h7 h8 h9 h10
 obtain ⟨γ2,hT,hS,hD,hP⟩:=hR.sim h3 h4 h6 h7 h8 h9 h10
 exact h N c γ2 w a b γ0 s0 w0 m h1 h2 hT hS h5 hD hP h8 h9 h10
end
end Go.AM
namespace Go.AM
section
variable {P:Program}
def Zaf (P : Program) (f : Nat) : Prop := ∃ fn c, P.funcs[f]? = some fn ∧ fn.body = some c ∧ (fn.name == "runtime.NumGoroutine") = false
def C (P:Program) (f:Nat) (args:List AV) (s:St) (Q:AV→St→Prop):Prop:=
 ∀ (γ:Gam) (vals:List Value) (w:World) (m:Nat),All2 (VR γ) args vals→Sim P γ s w→CallsIn Fence.wide m P f vals.toArray w (fun e w'=>∃ v s',Q v s'∧Zch P γ s w v s' e w')
theorem C.mono {f:Nat}{args:List AV}{s:St}{Q Q':AV→St→Prop}(h:C P f args s Q) (hq:∀ v s,Q v s→Q' v s):C P f args s Q':=
 fun γ vals w m h1 h2=>CallsIn.mono (h γ vals w m h1 h2) fun _ _ ⟨v,s',q,p⟩=>⟨v,s',hq _ _ q,p⟩
def Zhv (res:List ARes) (Q:AV→St→Prop) (x:Ex) (t:AT) (s:St) (ds:List Nat):Prop:=
 (x=.normal∨x=.ret)∧∃ s2 l,Zzk ds s=some s2∧Zpf t s2 res=some l∧Q (one l) s2
def C1 (P:Program) (f:Nat) (args:List AV) (s:St) (Q:AV→St→Prop):Prop:=
 ∀ (γ:Gam) (vals:List Value) (w:World) (m:Nat),(∀ r,r<s.next→∃ L,γ r=some L)→All2 (VR γ) args vals→Sim P γ s w→CallsIn Fence.wide m P f vals.toArray w (fun e w'=>∃ v s',Q v s'∧Zch P γ s w v s' e w')
theorem C1.of_W {f:Nat}{fn:Func}{code:AC}{res:List ARes}{args:List AV}{s:St}{Q:AV→St→Prop}(hf:P.funcs[f]?=some fn) (hc:Zaj P fn=some (.mk code res))
 (h:W P s.next none code (Zax args 0 .lf) s [] (Zhv res Q)):C1 P f args s Q:=by
 intro γ vals w m hall hA hs
 unfold Zaj at hc
 split at hc
 ·rename_i b hb
  split at hc
  ·rename_i cd rs hcd hrs
   cases hc
   refine callsIn_of_wp_marks hf hb trivial ?_
   have hTR:TR γ (Zax args 0 .lf) (vals.toArray++Array.replicate (fn.ntmps-vals.toArray.size) undef):=by
    refine Zmm args vals _ 0 .lf hA (Yhx _) ?_
    intro j u hj
    rw [Nat.zero_add,Array.getElem?_append]
    have hlt:=(List.getElem?_eq_some_iff.1 hj).1
    rw [if_pos (by simpa using hlt)]
    simpa using hj
   have hsz:fn.ntmps≤(vals.toArray++Array.replicate (fn.ntmps-vals.toArray.size) undef).size:=by simp;omega
   have hw:=h fn.ntmps b γ w { tmps:=vals.toArray++Array.replicate (fn.ntmps-vals.toArray.size) undef,defers:=[] } none γ s w m hcd hsz hTR hs rfl .nil (.refl _ _ _) rfl hs.nx hall
   refine wpIn_mono hw ?_
   rintro ex a' w' ⟨x,t',s',ds',⟨hx,s2,l,hq,hl,hQ⟩,rfl,_,γ',hst,hsim,ht,hd⟩
   have fin:LeavesInM Fence.wide m P fn a'.tmps (fun e w'=>∃ v s',Q v s'∧Zch P γ s w v s' e w') a'.defers .returning w':=by
    exact Zga (s2:=s2) hrs (fun e w' hp=>⟨_,_,hQ,hp⟩) m ds' a'.defers s' w' hd hq hsim hst ht hl
   rcases hx with rfl|rfl
   ·exact fin
   ·exact fin
  ·cases hc
 ·cases hc
theorem C.of_W {f:Nat}{fn:Func}{code:AC}{res:List ARes}{args:List AV}{Q:AV→St→Prop}(hf:P.funcs[f]?=some fn) (hc:Zaj P fn=some (.mk code res))
 (h:W P 0 none code (Zax args 0 .lf) (.mk 0 .lf) [] (Zhv res Q)):C P f args (.mk 0 .lf) Q:=
 fun γ vals w m hA hs=>C1.of_W (s:=.mk 0 .lf) hf hc h γ vals w m (fun r hr=>absurd hr (Nat.not_lt_zero r)) hA hs
end
end Go.AM
namespace Go.AM
section
variable {P:Program}{γ γ2:Gam}{σ:Nat→Nat}
mutual
theorem Zpx (hz:∀ b c,γ.fz b=some c→γ2.fz b=some c) (hl:∀ r L,γ r=some L→γ2 (σ r)=some L):∀ (v:AV) {v':Value},VR γ v v'→VR γ2 (Zed σ v) v'
 | .bool b,_,h=>by cases h;exact .bool _
 | .int k n,_,h=>by cases h;exact .int _ _
 | .str l,_,h=>by cases h;rename_i s e;exact .str _ s e
 | .ptr r o,_,h=>by
  cases h with
  | ptr _ _ L e=>exact .ptr _ o L (hl r L e)
 | .nilp,_,h=>by cases h;exact .nilp
 | .sl r o m c,_,h=>by
  cases h with
  | sl _ _ _ c L e a=>exact .sl _ o m c L (hl r L e) a
  | slu _ _ _ c L e a b d=>exact .slu _ o m c L (hl r L e) a b d
 | .nils,_,h=>by cases h;exact .nils
 | .es,_,h=>by cases h;exact .es _ _
 | .map r,_,h=>by
  cases h with
  | map _ L e=>exact .map _ L (hl r L e)
 | .nilm,_,h=>by cases h;exact .nilm
 | .fn f xs ys,_,h=>by
  cases h with
  | fn _ _ _ as bs a b=>exact .fn f _ _ as bs (Zok hz hl xs a) (Zok hz hl ys b)
 | .yld l,_,h=>by
  cases h with
  | yld _ L e=>exact .yld _ L (hl l L e)
 | .nilf,_,h=>by cases h;exact .nilf
 | .iface t v,_,h=>by
  cases h with
  | iface _ _ v' e=>exact .iface t _ v' (Zpx hz hl v e)
 | .nili,_,h=>by cases h;exact .nili
 | .agg l,_,h=>by
  cases h with
  | agg _ a e o=>exact .agg _ a (Zok hz hl l e) o
 | .tup l,_,h=>by
  cases h with
  | tup _ a e=>exact .tup _ a (Zok hz hl l e)
 | .any,_,h=>by cases h;rename_i e;exact .any _ e
 | .fz m c l,_,h=>Zq7 hz (.fz m c l) rfl h
 | .fp l,_,h=>Zq7 hz (.fp l) rfl h
theorem Zok (hz:∀ b c,γ.fz b=some c→γ2.fz b=some c) (hl:∀ r L,γ r=some L→γ2 (σ r)=some L):∀ (l:List AV) {m:List Value},All2 (VR γ) l m→All2 (VR γ2) (Zbx σ l) m
 | [],_,h=>by cases h;exact .nil
 | v::l,_,h=>by
  cases h with
  | cons a b=>exact .cons (Zpx hz hl v a) (Zok hz hl l b)
end
theorem Zpk:∀ {l:List AV}{i:Nat}{v:AV},(Zbx σ l)[i]?=some v→∃ u,l[i]?=some u∧v=Zed σ u
 | [],i,v,h=>by simp [Zbx] at h
 | x::l,i,v,h=>by
  simp only [Zbx] at h
  cases i with
  | zero=>simp at h;exact ⟨x,by simp,h.symm⟩
  | succ i=>simpa using Zpk (l:=l) (by simpa using h)
def Yia:AObj→Bool
 | .loop ..=>false
 | _=>true
theorem Yf4 (hz:∀ b c,γ.fz b=some c→γ2.fz b=some c) (hl:∀ r L,γ r=some L→γ2 (σ r)=some L) {L:Loc}{o:AObj}{hp:Array Obj}(hb:Yia o=true) (h:ObjR P γ L o hp):ObjR P γ2 L (Zr9 σ o) hp:=by
 cases o with
 | row e cs=>
  obtain ⟨c,h1,h2,h3,h4,h5,h6,h7⟩:=h
  refine ⟨c,h1,h2,h3,h4,by rw [Zh2];exact h5,fun i v hv=>?_,h7⟩
  obtain ⟨u,hu,rfl⟩:=Zpk hv
  obtain ⟨v',a,b,d⟩:=h6 i u hu
  exact ⟨v',a,Zpx hz hl u b,d⟩
 | dead=>trivial
 | map es clock=>
  obtain ⟨ms,h1,h2⟩:=h
  refine ⟨ms,h1,?_⟩
  have:∀ (es:List (AV×AV×Nat)) (ms:List MapEntry),All2 (fun (x:AV×AV×Nat) (m:MapEntry)=>VR γ x.1 m.key∧VR γ x.2.1 m.val∧m.born=x.2.2) es ms→All2 (fun (x:AV×AV×Nat) (m:MapEntry)=>VR γ2 x.1 m.key∧VR γ2 x.2.1 m.val∧m.born=x.2.2) (Yge σ es) ms:=by
   intro es
   induction es with
   | nil=>intro ms h;cases h;exact .nil
   | cons x es ih=>
    intro ms h
    obtain ⟨a,b,c⟩:=x
    cases h with
    | cons h1 h2=>exact .cons ⟨Zpx hz hl a h1.1,Zpx hz hl b h1.2.1,h1.2.2⟩ (ih _ h2)
  exact this es _ h2
 | loop st pend fn tm ps asg body d=>cases hb
 | defd=>exact h
 | iter m b se l=>obtain ⟨h0,M,h1,h2⟩:=h;exact ⟨h0,M,hl m M h1,h2⟩
noncomputable def Zai (s:St):List AObj→St
 | []=>s
 | o::l=>Zai (s.alloc o) l
theorem Zez:∀ (l:List AObj) (s:St),(Zai s l).next=s.next+l.length
 | [],s=>rfl
 | o::l,s=>by rw [Zai,Zez l,Zar,List.length_cons];omega
theorem Zic:∀ (l:List AObj) (s:St) {r:Nat},r<s.next→(Zai s l).get r=s.get r
 | [],s,r,_=>rfl
 | o::l,s,r,h=>by rw [Zai,Zic l _ (by rw [Zar];omega),Zbl (by omega)]
theorem Zid:∀ (l:List AObj) (s:St) {r:Nat}{o:AObj},s.next≤r→(∀ r,s.next≤r→s.get r=none)→(Zai s l).get r=some o→l[r-s.next]?=some o
 | [],s,r,o,h,hn,hg=>by
  have e:s.get r=some o:=hg
  rw [hn r h] at e;cases e
 | x::l,s,r,o,h,hn,hg=>by
  rw [Zai] at hg
  by_cases e:r=s.next
  ·subst e
   rw [Zic l _ (by rw [Zar];omega)] at hg
   rcases Zbv hg with ⟨_,rfl⟩|⟨e,_⟩
   ·simp
   ·exact absurd rfl e
  ·have:=Zid l (s.alloc x) (r:=r) (by rw [Zar];omega) (fun r hr=>by rw [Zar] at hr;rw [Zbl (by omega)];exact hn r (by omega)) hg
   rw [Zar] at this
   rw [show r-s.next=(r-(s.next+1))+1 by omega]
   simpa using this
abbrev St0:St:=.mk 0 .lf
theorem sim0 {w:World}{φ:Nat→Option FzC}(h:∀ b c,φ b=some c→∃ e fr,w.heap[b]?=some (.cells c.cs e fr)∧FzOk P c e fr):Sim P ⟨fun _=>none,φ⟩ St0 w:=
 ⟨fun r o L h=>(by cases h),fun r r' o o' L L' h=>(by cases h),fun r L h=>(by cases h),fun r _=>rfl,fun r o h=>(by cases h),h,fun r o L h=>(by cases h)⟩
theorem C.frame {f:Nat}{args:List AV}{u:AV}{l:List AObj}(ha:hfs args=true) (hl:∀ o ∈ l,Yia o=true) (hlen:0<l.length∨l=[])
 (h:C P f args St0 (fun v s'=>v=u∧s'=Zai St0 l)) (hall:∀ i o,l[i]?=some o→(Zai St0 l).get i=some o) (s:St):C P f args s (fun v s'=>v=Zed (·+s.next) u∧s'=Zai s (l.map (Zr9 (·+s.next)))):=by
 intro γ vals w m hA hs
 have hA':=Zi9 (γ:=γ) (γ2:=⟨fun _=>none,γ.fz⟩) (fun _ _ e=>e) args ha hA
 refine CallsIn.mono (h ⟨fun _=>none,γ.fz⟩ vals w m hA' (sim0 hs.fzc)) ?_
 rintro e w' ⟨v,s',⟨rfl,rfl⟩,v',γ',rfl,hst,hsim,hv⟩
 refine ⟨_,_,⟨rfl,rfl⟩,v',⟨fun r=>if r<s.next then γ r else γ' (r-s.next),γ'.fz⟩,rfl,?_,?_,?_⟩
 rotate_right
 ·refine Zpx (γ:=γ') (γ2:=⟨fun r=>if r<s.next then γ r else γ' (r-s.next),γ'.fz⟩) (fun _ _ e=>e) (fun r L e=>?_) v hv
  show (if r+s.next<s.next then γ (r+s.next) else γ' (r+s.next-s.next))=some L
  rw [if_neg (by omega),Nat.add_sub_cancel];exact e
 all_goals
  have g1:∀ r,r<s.next→(⟨fun r=>if r<s.next then γ r else γ' (r-s.next),γ'.fz⟩:Gam) r=γ r:=fun r hr=>if_pos hr
  have g2:∀ r,¬ r<s.next→(⟨fun r=>if r<s.next then γ r else γ' (r-s.next),γ'.fz⟩:Gam) r=γ' (r-s.next):=fun r hr=>if_neg hr
  have glt:∀ r L,γ r=some L→r<s.next:=fun r L e=>Nat.lt_of_not_le fun hle=>by rw [hs.nx r hle] at e;cases e
  have hnew:∀ r L,γ' r=some L→w.heap.size≤L.b:=fun r L e=>by
   rcases (hst.new r L e rfl).2 with h|⟨_,_,h,_⟩
   ·exact h
   ·cases h
  have hblk:∀ b,b<w.heap.size→w'.heap[b]?=w.heap[b]?:=fun b hb=>hst.blk b hb (fun r L e=>by cases e)
  have hle:Le γ ⟨fun r=>if r<s.next then γ r else γ' (r-s.next),γ'.fz⟩:=⟨fun r L e=>(g1 r (glt r L e)).trans e,fun b c e=>hst.le.fz b c e⟩
 ·refine ⟨hle,?_,by rw [Zez];omega,hst.size,hst.os,hst.tape,hst.output,fun b hb _=>hblk b hb,fun r _ hr=>Zic _ _ hr,fun b c e e0=>hst.fzn b c e e0⟩
  intro r L e e0
  by_cases hr:r<s.next
  ·rw [g1 r hr,e0] at e;cases e
  ·rw [g2 r hr] at e;exact ⟨by omega,.inl (hnew _ L e)⟩
 ·have hnone:∀ r,s.next≤r→s.get r=none:=fun r hr=>by
   cases hg:s.get r with
   | none=>rfl
   | some o=>exact absurd (hs.dom r o hg) (by omega)
  have back:∀ r o,(Zai s (l.map (Zr9 (·+s.next)))).get r=some o→(r<s.next∧s.get r=some o)∨(s.next≤r∧∃ o',l[r-s.next]?=some o'∧o=Zr9 (·+s.next) o'):=by
   intro r o hg
   by_cases hr:r<s.next
   ·rw [Zic _ _ hr] at hg;exact .inl ⟨hr,hg⟩
   ·have:=Zid _ s (by omega) hnone hg
    rw [List.getElem?_map] at this
    cases hl':l[r-s.next]? with
    | none=>rw [hl'] at this;cases this
    | some o'=>rw [hl'] at this;exact .inr ⟨by omega,o',rfl,(Option.some.inj this).symm⟩
  refine ⟨?_,?_,?_,?_,?_,hsim.fzc,?_⟩
  ·intro r o L ho hL
   rcases back r o ho with ⟨hr,hg⟩|⟨hr,o',hg,rfl⟩
   ·rw [g1 r hr] at hL
    exact ((hs.obj r o L hg hL).mono hle).heap (hblk _ (hs.lt r L hL))
   ·rw [g2 r (by omega)] at hL
    refine Yf4 (γ:=γ') (γ2:=⟨fun r=>if r<s.next then γ r else γ' (r-s.next),γ'.fz⟩) (fun _ _ e=>e) (fun q M e=>?_) (hl o' (List.mem_of_getElem? hg)) (hsim.obj _ _ L (hall _ _ hg) hL)
    show (if q+s.next<s.next then γ (q+s.next) else γ' (q+s.next-s.next))=some M
    rw [if_neg (by omega),Nat.add_sub_cancel];exact e
  ·intro r r' o o' L L' ho ho' ha1 ha2 hL hL' hne
   rcases back r o ho with ⟨hr,hg⟩|⟨hr,p,hg,rfl⟩ <;> rcases back r' o' ho' with ⟨hr',hg'⟩|⟨hr',p',hg',rfl⟩
   ·rw [g1 r hr] at hL;rw [g1 r' hr'] at hL'
    exact hs.inj r r' o o' L L' hg hg' ha1 ha2 hL hL' hne
   ·rw [g1 r hr] at hL;rw [g2 r' (by omega)] at hL'
    have:=hs.lt r L hL;have:=hnew _ L' hL';omega
   ·rw [g2 r (by omega)] at hL;rw [g1 r' hr'] at hL'
    have:=hs.lt r' L' hL';have:=hnew _ L hL;omega
   ·rw [g2 r (by omega)] at hL;rw [g2 r' (by omega)] at hL'
    rw [Zgu] at ha1 ha2
    exact hsim.inj _ _ p p' L L' (hall _ _ hg) (hall _ _ hg') ha1 ha2 hL hL' (by omega)
  ·intro r L hL
   by_cases hr:r<s.next
   ·rw [g1 r hr] at hL;have:=hs.lt r L hL;have:=hst.size;omega
   ·rw [g2 r hr] at hL;exact hsim.lt _ L hL
  ·intro r hr
   rw [Zez,List.length_map] at hr
   rw [g2 r (by omega)]
   refine hsim.nx _ ?_
   rw [Zez]
   show 0+l.length≤_
   omega
  ·intro r o ho
   rw [Zez,List.length_map]
   rcases back r o ho with ⟨hr,hg⟩|⟨hr,p,hg,rfl⟩
   ·omega
   ·have:=(List.getElem?_eq_some_iff.1 hg).1;omega
  ·intro r o L ho ha1 hL
   rcases back r o ho with ⟨hr,hg⟩|⟨hr,p,hg,rfl⟩
   ·rw [g1 r hr] at hL
    have h0:=hs.fzr r o L hg ha1 hL
    show γ'.fz L.b=none
    cases hc:γ'.fz L.b with
    | none=>rfl
    | some c=>exact absurd (hst.fzn L.b c hc h0) (by have:=hs.lt r L hL;omega)
   ·rw [g2 r (by omega)] at hL
    rw [Zgu] at ha1
    exact hsim.fzr _ p L (hall _ _ hg) ha1 hL
end
end Go.AM
namespace Go.AM
section
variable {P:Program}
inductive Frz (s:St):AV→AV→Prop
 | plain (v:AV):hf v=true→Frz s v v
 | sl (r o n:Nat) (cap cap':Option Nat) (e:Nat) (cs l us:List AV):s.get r=some (.row e cs)→(∀ (i:Nat) x,l[i]?=some x→cs[o+i]?=some x)→All2 (Frz s) l us→(cap'=none∨cap'=cap∧cap≠some 0)→Frz s (.sl r o n cap) (.fz n cap' us)
 | ptr (r o:Nat) (e:Nat) (cs l us:List AV):s.get r=some (.row e cs)→(∀ (i:Nat) x,l[i]?=some x→cs[o+i]?=some x)→All2 (Frz s) l us→Frz s (.ptr r o) (.fp us)
 | agg (l us:List AV):All2 (Frz s) l us→Frz s (.agg l) (.agg us)
 | tup (l us:List AV):All2 (Frz s) l us→Frz s (.tup l) (.tup us)
 | fn (f:Nat) (xs ys us ws:List AV):All2 (Frz s) xs us→All2 (Frz s) ys ws→Frz s (.fn f xs ys) (.fn f us ws)
mutual
theorem Frz.hf {s:St}:∀ {v u:AV},Frz s v u→hf u=true
 | _,_,.plain v h=>h
 | _,_,.sl ..=>rfl
 | _,_,.ptr ..=>rfl
 | _,_,.agg l us h=>Frz.hfs h
 | _,_,.tup l us h=>Frz.hfs h
 | _,_,.fn f xs ys us ws h1 h2=>by
  simp only [AM.hf,Bool.and_eq_true]
  exact ⟨Frz.hfs h1,Frz.hfs h2⟩
theorem Frz.hfs {s:St}:∀ {l us:List AV},All2 (Frz s) l us→hfs us=true
 | _,_,.nil=>rfl
 | _,_,.cons a b=>by
  simp only [AM.hfs,Bool.and_eq_true]
  exact ⟨Frz.hf a,Frz.hfs b⟩
end
variable {γ γ2:Gam}{s:St}{w:World}
mutual
theorem Frz.VR (hs:Sim P γ s w) (hz:∀ b c,γ.fz b=some c→γ2.fz b=some c) (hr:∀ r e cs L c,s.get r=some (.row e cs)→γ r=some L→w.heap[L.b]?=some (.cells c e (0,0))→γ2.fz L.b=some ⟨c,true⟩):
 ∀ {v u:AV}{v':Value},Frz s v u→VR γ v v'→VR γ2 u v'
 | _,_,_,.plain v h,hv=>Zq7 hz v h hv
 | _,_,_,.sl r o n cap cap' e cs l us h1 h2 h3 h4,hv=>by
  obtain ⟨L,cc,hL,hval,hck⟩:=slV hv
  obtain ⟨c,e1,e2,e3,e4,e5,e6⟩:=hs.row h1 hL
  have hnc:n≤cc:=by
   cases hv with
   | sl _ _ _ c' L' e a=>injection hval with _ _ q;omega
   | slu _ _ _ c' L' e a b d=>injection hval with _ _ q;omega
  rw [hval,e2,Nat.zero_add]
  have hz2:=hr r e cs L c h1 hL e1
  -- the values
  have hx:∀ (l us:List AV) (k:Nat),(∀ (i:Nat) x,l[i]?=some x→cs[k+i]?=some x)→All2 (Frz s) l us→∃ vs:List Value,(∀ (j:Nat) (u:Value),vs[j]?=some u→c[k+j]?=some u)∧(∀ u ∈ vs,u.oneCell'=true)∧All2 (AM.VR γ) l vs:=by
   intro l
   induction l with
   | nil=>intro us k _ _;exact ⟨[],by simp,by simp,.nil⟩
   | cons x l ih=>
    intro us k hl h
    cases h with
    | cons ha hb=>
     obtain ⟨vs,q1,q2,q3⟩:=ih _ (k+1) (fun i y hy=>by rw [Nat.add_assoc,Nat.add_comm 1 i];exact hl (i+1) y (by simpa using hy)) hb
     obtain ⟨v',p1,p2,p3⟩:=e6 k x (by simpa using hl 0 x (by simp))
     refine ⟨v'::vs,?_,?_,.cons p2 q3⟩
     ·intro j u hj
      cases j with
      | zero=>simp at hj;subst hj;simpa using p1
      | succ j=>rw [show k+(j+1)=k+1+j by omega];exact q1 j u (by simpa using hj)
     ·intro u hu
      rcases List.mem_cons.1 hu with rfl|hu
      ·exact p3
      ·exact q2 u hu
  obtain ⟨vs,q1,q2,q3⟩:=hx l us o h2 h3
  refine .fz n cap' us vs L.b o cc ⟨c,true⟩ hz2 q1 q2 (Zhf hs hz hr h3 q3) hnc ?_ (Frz.hfs h3)
  rcases h4 with h4|⟨h4,h5⟩
  ·rw [h4];exact (rfl:true=true)
  ·rw [h4]
   rcases cap with _|_|k
   ·exact (rfl:true=true)
   ·exact absurd rfl h5
   ·exact ⟨hck _ rfl,rfl⟩
 | _,_,_,.ptr r o e cs l us h1 h2 h3,hv=>by
  cases hv with
  | ptr _ _ L hL=>
   obtain ⟨c,e1,e2,e3,e4,e5,e6⟩:=hs.row h1 hL
   rw [e2,Nat.zero_add]
   have hz2:=hr r e cs L c h1 hL e1
   -- the values
   have hx:∀ (l us:List AV) (k:Nat),(∀ (i:Nat) x,l[i]?=some x→cs[k+i]?=some x)→All2 (Frz s) l us→∃ vs:List Value,(∀ (j:Nat) (u:Value),vs[j]?=some u→c[k+j]?=some u)∧(∀ u ∈ vs,u.oneCell'=true)∧All2 (AM.VR γ) l vs:=by
    intro l
    induction l with
    | nil=>intro us k _ _;exact ⟨[],by simp,by simp,.nil⟩
    | cons x l ih=>
     intro us k hl h
     cases h with
     | cons ha hb=>
      obtain ⟨vs,q1,q2,q3⟩:=ih _ (k+1) (fun i y hy=>by rw [Nat.add_assoc,Nat.add_comm 1 i];exact hl (i+1) y (by simpa using hy)) hb
      obtain ⟨v',p1,p2,p3⟩:=e6 k x (by simpa using hl 0 x (by simp))
      refine ⟨v'::vs,?_,?_,.cons p2 q3⟩
      ·intro j u hj
       cases j with
       | zero=>simp at hj;subst hj;simpa using p1
       | succ j=>rw [show k+(j+1)=k+1+j by omega];exact q1 j u (by simpa using hj)
      ·intro u hu
       rcases List.mem_cons.1 hu with rfl|hu
       ·exact p3
       ·exact q2 u hu
   obtain ⟨vs,q1,q2,q3⟩:=hx l us o h2 h3
   exact .fp us vs L.b o ⟨c,true⟩ hz2 q1 q2 (Zhf hs hz hr h3 q3) (Frz.hfs h3)
 | _,_,_,.agg l us h,hv=>by
  cases hv with
  | agg _ a e o=>exact .agg us a (Zhf hs hz hr h e) o
 | _,_,_,.tup l us h,hv=>by
  cases hv with
  | tup _ a e=>exact .tup us a (Zhf hs hz hr h e)
 | _,_,_,.fn f xs ys us ws h1 h2,hv=>by
  cases hv with
  | fn _ _ _ as bs a b=>exact .fn f us ws as bs (Zhf hs hz hr h1 a) (Zhf hs hz hr h2 b)
theorem Zhf (hs:Sim P γ s w) (hz:∀ b c,γ.fz b=some c→γ2.fz b=some c) (hr:∀ r e cs L c,s.get r=some (.row e cs)→γ r=some L→w.heap[L.b]?=some (.cells c e (0,0))→γ2.fz L.b=some ⟨c,true⟩):
 ∀ {l us:List AV}{m:List Value},All2 (Frz s) l us→All2 (AM.VR γ) l m→All2 (AM.VR γ2) us m
 | _,_,_,.nil,hv=>by cases hv;exact .nil
 | _,_,_,.cons a b,hv=>by
  cases hv with
  | cons p q=>exact .cons (Frz.VR hs hz hr a p) (Zhf hs hz hr b q)
end
theorem Zky {f:Nat}{args:List AV}{u:AV}(ha:hfs args=true) (h:C P f args St0 (fun v s'=>Frz s' v u)):C P f args St0 (fun v s'=>v=u∧s'=Zai St0 []):=by
 intro γ vals w m hA hs
 have hA':=Zi9 (γ:=γ) (γ2:=⟨fun _=>none,γ.fz⟩) (fun _ _ e=>e) args ha hA
 refine CallsIn.mono (h ⟨fun _=>none,γ.fz⟩ vals w m hA' (sim0 hs.fzc)) ?_
 rintro e w' ⟨v,s',hF,v',γ',rfl,hst,hsim,hv⟩
 let γ2:Gam:=⟨γ,fun b=>match γ'.fz b with
  | some c=>some c
  | none=>if w.heap.size≤b then (match w'.heap[b]? with|some (.cells c _ _)=>some ⟨c,true⟩|_=>none) else none⟩
 have hz:∀ b c,γ'.fz b=some c→γ2.fz b=some c:=fun b c e=>by
  show (match γ'.fz b with|some c=>some c|none=>_)=some c
  rw [e]
 have hnew:∀ r L,γ' r=some L→w.heap.size≤L.b:=fun r L e=>by
  rcases (hst.new r L e rfl).2 with h|⟨_,_,h,_⟩
  ·exact h
  ·cases h
 have hfz2:∀ b c,γ2.fz b=some c→γ'.fz b=some c∨(γ'.fz b=none∧w.heap.size≤b∧∃ e fr,w'.heap[b]?=some (.cells c.cs e fr)∧FzOk P c e fr):=by
  intro b c e
  have e:(match γ'.fz b with
   | some c=>some c
   | none=>if w.heap.size≤b then (match w'.heap[b]? with|some (.cells c _ _)=>some ⟨c,true⟩|_=>none) else none)=some c:=e
  cases h1:γ'.fz b with
  | some c'=>rw [h1] at e;exact .inl e
  | none=>
   rw [h1] at e
   simp only at e
   split at e
   ·rename_i hle
    split at e
    ·rename_i c' t fr hc;cases e;exact .inr ⟨rfl,hle,t,fr,hc,fun h=>by cases h⟩
    ·cases e
   ·cases e
 refine ⟨u,St0,⟨rfl,rfl⟩,v',γ2,rfl,?_,?_,?_⟩
 ·refine ⟨⟨fun r L e=>e,fun b c e=>hz b c (hst.le.fz b c e)⟩,fun r L e e0=>?_,Nat.le_refl _,hst.size,hst.os,hst.tape,hst.output,fun b hb _=>hst.blk b hb (fun r L e=>by cases e),fun _ _ _=>rfl,fun b c e e0=>?_⟩
  ·have e':γ r=some L:=e
   rw [e0] at e';cases e'
  ·rcases hfz2 b c e with h|⟨_,h,_⟩
   ·exact hst.fzn b c h e0
   ·exact h
 ·refine ⟨fun r o L h=>(by cases h),fun r r' o o' L L' h=>(by cases h),fun r L e=>?_,fun r hr=>hs.nx r hr,fun r o h=>(by cases h),fun b c e=>?_,fun r o L h=>(by cases h)⟩
  ·exact Nat.lt_of_lt_of_le (hs.lt r L e) hst.size
  ·rcases hfz2 b c e with h|⟨_,_,h⟩
   ·exact hsim.fzc b c h
   ·exact h
 ·refine Frz.VR hsim hz ?_ hF hv
  intro r e cs L c h1 hL hc
  show (match γ'.fz L.b with
   | some c=>some c
   | none=>if w.heap.size≤L.b then (match w'.heap[L.b]? with|some (.cells c _ _)=>some ⟨c,true⟩|_=>none) else none)=some ⟨c,true⟩
  cases h2:γ'.fz L.b with
  | some c'=>
   have h3:=hsim.fzr r _ L h1 rfl hL
   rw [h2] at h3;cases h3
  | none=>simp only;rw [if_pos (hnew r L hL),hc]
theorem Zth {f:Nat}{args:List AV}{u:AV}(ha:hfs args=true) (hu:hf u=true) (h:C P f args St0 (fun v s'=>Frz s' v u)) (s:St):C P f args s (fun v s'=>v=u∧s'=s):=by
 refine (C.frame (l:=[]) ha (by simp) (.inr rfl) (Zky ha h) (fun i o h=>by simp at h) s).mono ?_
 rintro v s' ⟨rfl,rfl⟩
 exact ⟨Zao u hu,rfl⟩
def OvOk (P:Program) (f:Nat) (h:Ov):Prop:=Zaf P f∧∀ args s v s',h args s=.ok v s'→C P f args s (fun v' s''=>v'=v∧s''=s')
theorem Yhz {f : Nat} {h : Ov} (hO : OvOk P f h) : (∃ fn c, P.funcs[f]? = some fn ∧ fn.body = some c ∧ (fn.name == "runtime.NumGoroutine") = false) ∧
 ∀ γ args vals s w v s',All2 (VR γ) args vals→Sim P γ s w→h args s=.ok v s'→∀ m,CallsIn Fence.wide m P f vals.toArray w (Zch P γ s w v s'):=by
 refine ⟨hO.1,fun γ args vals s w v s' hA hs he m=>?_⟩
 refine CallsIn.mono (hO.2 args s v s' he γ vals w m hA hs) ?_
 rintro e w' ⟨v1,s1,⟨rfl,rfl⟩,hp⟩
 exact hp
end
end Go.AM
namespace Go.AM
def RLe (a b:Rec):Prop:=∀ c t s rd ds x t' s' ds',a c t s rd ds=.ok x t' s' ds'→b c t s rd ds=.ok x t' s' ds'
section
variable {e:Env}{a b:Rec}
theorem Zy0 {res:List ARes}{r r':R}(h:∀ x t s ds,r=.ok x t s ds→r'=.ok x t s ds) {v:AV}{s:St}(hv:Zlk res r=.ok v s):Zlk res r'=.ok v s:=by
 cases r with
 | fail=>cases hv
 | ok x t s ds=>rw [h x t s ds rfl];exact hv
theorem Zxa (h:RLe a b) {f:Nat}{args:List AV}{s:St}{v:AV}{s':St}(hv:Zl9 e a f args s=.ok v s'):Zl9 e b f args s=.ok v s':=by
 unfold Zl9 at hv ⊢
 cases hg:e.G.get f with
 | none=>rw [hg] at hv;cases hv
 | some af=>
  rw [hg] at hv
  obtain ⟨code,res⟩:=af
  exact Zy0 (fun x t s ds he=>h _ _ _ _ _ _ _ _ _ he) hv
theorem Zmr (h:RLe a b) {f:Nat}{args:List AV}{s:St}{v:AV}{s':St}(hv:Zfl e a f args s=.ok v s'):Zfl e b f args s=.ok v s':=by
 unfold Zfl at hv ⊢
 cases ho:e.O.get f with
 | none=>rw [ho] at hv;exact Zxa h hv
 | some hh=>
  rw [ho] at hv
  change (RV.rec (Zl9 e a f args s) (fun v s'=>.ok v s') (hh args s):RV)=.ok v s' at hv
  show (RV.rec (Zl9 e b f args s) (fun v s'=>.ok v s') (hh args s):RV)=.ok v s'
  cases hq:hh args s with
  | fail=>rw [hq] at hv;exact Zxa h hv
  | ok v1 s1=>rw [hq] at hv;exact hv
theorem Ztz {l:Nat}{r r':R}(h:∀ x t s ds,r=.ok x t s ds→r'=.ok x t s ds) {v:AV}{s:St}(hv:Zfi l r=.ok v s):Zfi l r'=.ok v s:=by
 cases r with
 | fail=>cases hv
 | ok x t s ds=>rw [h x t s ds rfl];exact hv
theorem Yao (h:RLe a b) {l:Nat}{args:List AV}{s:St}{v:AV}{s':St}(hv:Zlw a l args s=.ok v s'):Zlw b l args s=.ok v s':=by
 unfold Zlw at hv ⊢
 obtain ⟨st,pend,fn,tm,ps,asg,body,d,hg,hv⟩:=Ybt hv
 unfold Zdq;rw [hg]
 obtain ⟨h1,hv⟩:=Zco hv
 show gd _ _=_
 rw [h1]
 show Znb b l body (b asg (Zxs ps args tm) s (some l) [])=.ok v s'
 unfold Znb at hv ⊢
 obtain ⟨x,t1,s1,ds,hr,hv⟩:=R_ok hv
 rw [h _ _ _ _ _ _ _ _ _ hr]
 cases x with
 | normal=>
  obtain ⟨st,pend,fn,tm,ps,asg,body',d,hg,hv⟩:=Ybt (s:=s1) hv
  show (LP.rec .fail _ (Zdq l s1):RV)=_
  unfold Zdq;rw [hg]
  cases st with
  | ready=>exact Ztz (fun x t s ds he=>h _ _ _ _ _ _ _ _ _ he) hv
  | busy=>exact hv
  | done=>exact hv
  | exhausted=>exact hv
 | exit id=>exact hv
 | ret=>exact hv
theorem Ydx (h:RLe a b) {f:AV}{args:List AV}{s:St}{v:AV}{s':St}(hv:Zgt e a f args s=.ok v s'):Zgt e b f args s=.ok v s':=by
 unfold Zgt at hv ⊢
 cases hq:Zxe f with
 | no=>rw [hq] at hv;cases hv
 | fn g x y=>rw [hq] at hv;exact Zmr h hv
 | yld l=>rw [hq] at hv;exact Yao h hv
theorem Ydw (h:RLe a b) {f:AV}{args:List AV}{s:St}{v:AV}{s':St}(hv:Zpu e a f args s=.ok v s'):Zpu e b f args s=.ok v s':=by
 unfold Zpu at hv ⊢
 cases hq:Zxe f with
 | no=>rw [hq] at hv;cases hv
 | fn g x y=>rw [hq] at hv;exact Zmr h hv
 | yld l=>rw [hq] at hv;cases hv
theorem Zwb (h:RLe a b) {p:AOp}{t:AT}{s:St}{v:AV}{s':St}(hv:opA p e a t s=.ok v s'):opA p e b t s=.ok v s':=by
 cases p with
 | call f args=>
  obtain ⟨fv,hf,hv⟩:=Za5 hv
  obtain ⟨vs,hvs,hv⟩:=Za3 hv
  show wth f t (fun fv=>Option.rec .fail (fun vs=>Zgt e b fv vs s) (evs t args))=.ok v s'
  unfold wth
  rw [hf]
  show (Option.rec .fail (fun vs=>Zgt e b fv vs s) (evs t args):RV)=.ok v s'
  rw [hvs]
  exact Ydx h hv
 | scall f args=>
  obtain ⟨vs,hvs,hv⟩:=Za3 hv
  show (Option.rec .fail (fun vs=>Option.rec (Zfl e b f vs s) (fun h=>h vs s) (e.X.get f)) (evs t args):RV)=.ok v s'
  rw [hvs]
  show (Option.rec (Zfl e b f vs s) (fun h=>h vs s) (e.X.get f):RV)=.ok v s'
  cases hX:e.X.get f with
  | none=>rw [hX] at hv;exact Zmr h hv
  | some hh=>rw [hX] at hv;exact hv
 | inv tb x args=>
  obtain ⟨xv,hx,hv⟩:=Za5 hv
  obtain ⟨vs,hvs,hv⟩:=Za3 hv
  obtain ⟨k,u,rfl,hv⟩:=if_ok hv
  obtain ⟨f,hf,hv⟩:=Za3 hv
  show wth x t (fun a=>Option.rec .fail (fun vs=>XR.rec .fail (fun k v=>Option.rec .fail (fun f=>Zfl e b f (v::vs) s) (Zuy tb k)) (asIf a)) (evs t args))=.ok v s'
  unfold wth
  rw [hx]
  show (Option.rec .fail (fun vs=>Option.rec .fail (fun f=>Zfl e b f (u::vs) s) (Zuy tb k)) (evs t args):RV)=.ok v s'
  rw [hvs]
  show (Option.rec .fail (fun f=>Zfl e b f (u::vs) s) (Zuy tb k):RV)=.ok v s'
  rw [hf]
  exact Zmr h hv
 | _=>exact hv
theorem Zud (h:RLe a b):∀ {l:List AOper}{t:AT}{s:St}{t':AT}{s':St},Zdz e a l t s=.ok t' s'→Zdz e b l t s=.ok t' s':=by
 intro l
 induction l with
 | nil=>intro t s t' s' hv;exact hv
 | cons o l ih=>
  intro t s t' s' hv
  cases o with
  | mk d p g=>
   change (Nat.rec .fail (fun w _=>Nat.rec (Zdz e a l (Zim d (.tup []) t) s) (fun _ _=>RV.rec .fail (fun v s'=>Zdz e a l (Zim d v t) s') (opA p e a t s)) w) (Zay g t):RT)=.ok t' s' at hv
   show (Nat.rec .fail (fun w _=>Nat.rec (Zdz e b l (Zim d (.tup []) t) s) (fun _ _=>RV.rec .fail (fun v s'=>Zdz e b l (Zim d v t) s') (opA p e b t s)) w) (Zay g t):RT)=.ok t' s'
   cases hw:Zay g t with
   | zero=>rw [hw] at hv;cases hv
   | succ n=>
    rw [hw] at hv
    cases n with
    | zero=>exact ih hv
    | succ n=>
     change (RV.rec .fail (fun v s'=>Zdz e a l (Zim d v t) s') (opA p e a t s):RT)=.ok t' s' at hv
     show (RV.rec .fail (fun v s'=>Zdz e b l (Zim d v t) s') (opA p e b t s):RT)=.ok t' s'
     cases ho:opA p e a t s with
     | fail=>rw [ho] at hv;cases hv
     | ok v s1=>rw [ho] at hv;rw [Zwb h ho];exact ih hv
  | chk d p g=>
   change (Nat.rec .fail (fun w _=>Nat.rec (Zdz e a l t s) (fun _ _=>RV.rec .fail (fun v _=>Option.rec .fail (fun v0=>Bool.rec .fail (Zdz e a l t s) (eqV v v0)) (t.get d)) (opA p e a t s)) w) (Zay g t):RT)=.ok t' s' at hv
   show (Nat.rec .fail (fun w _=>Nat.rec (Zdz e b l t s) (fun _ _=>RV.rec .fail (fun v _=>Option.rec .fail (fun v0=>Bool.rec .fail (Zdz e b l t s) (eqV v v0)) (t.get d)) (opA p e b t s)) w) (Zay g t):RT)=.ok t' s'
   cases hw:Zay g t with
   | zero=>rw [hw] at hv;cases hv
   | succ n=>
    rw [hw] at hv
    cases n with
    | zero=>exact ih hv
    | succ n=>
     change (RV.rec .fail (fun v _=>Option.rec .fail (fun v0=>Bool.rec .fail (Zdz e a l t s) (eqV v v0)) (t.get d)) (opA p e a t s):RT)=.ok t' s' at hv
     show (RV.rec .fail (fun v _=>Option.rec .fail (fun v0=>Bool.rec .fail (Zdz e b l t s) (eqV v v0)) (t.get d)) (opA p e b t s):RT)=.ok t' s'
     cases ho:opA p e a t s with
     | fail=>rw [ho] at hv;cases hv
     | ok v s1=>
      rw [ho] at hv;rw [Zwb h ho]
      change (Option.rec .fail (fun v0=>Bool.rec .fail (Zdz e a l t s) (eqV v v0)) (t.get d):RT)=.ok t' s' at hv
      show (Option.rec .fail (fun v0=>Bool.rec .fail (Zdz e b l t s) (eqV v v0)) (t.get d):RT)=.ok t' s'
      cases hd:t.get d with
      | none=>rw [hd] at hv;cases hv
      | some v0=>
       rw [hd] at hv
       change (Bool.rec .fail (Zdz e a l t s) (eqV v v0):RT)=.ok t' s' at hv
       show (Bool.rec .fail (Zdz e b l t s) (eqV v v0):RT)=.ok t' s'
       cases hq:eqV v v0 with
       | false=>rw [hq] at hv;cases hv
       | true=>rw [hq] at hv;exact ih hv
theorem acF_le (h:RLe a b) (c:AC):RLe (fun _=>acF c e a) (fun _=>acF c e b):=by
 intro _ t s rd ds x t' s' ds' hv
 cases c with
 | skip=>exact hv
 | lab=>exact hv
 | scope c1=>exact h _ _ _ _ _ _ _ _ _ hv
 | exit id=>exact hv
 | ret=>exact hv
 | reg ops=>
  obtain ⟨t1,s1,ho,hk⟩:=RT_ok (show (RT.rec .fail (fun t' s'=>.ok .normal t' s' ds) (Zdz e a ops t s):R)=.ok x t' s' ds' from hv)
  show (RT.rec .fail (fun t' s'=>.ok .normal t' s' ds) (Zdz e b ops t s):R)=.ok x t' s' ds'
  rw [Zud h ho];exact hk
 | seq c1 c2=>
  obtain ⟨x1,t1,s1,ds1,hr,hk⟩:=Zy9 (show (R.rec .fail (fun x t s ds=>Ex.rec (a c2 t s rd ds) (fun id=>.ok (.exit id) t s ds) (.ok .ret t s ds) x) (a c1 t s rd ds):R)=.ok x t' s' ds' from hv)
  show (R.rec .fail (fun x t s ds=>Ex.rec (b c2 t s rd ds) (fun id=>.ok (.exit id) t s ds) (.ok .ret t s ds) x) (b c1 t s rd ds):R)=.ok x t' s' ds'
  rw [h _ _ _ _ _ _ _ _ _ hr]
  cases x1 with
  | normal=>exact h _ _ _ _ _ _ _ _ _ hk
  | exit id=>exact hk
  | ret=>exact hk
 | cond y c1 c2=>
  obtain ⟨v,hv',hk⟩:=Yh0 (show (OV.rec .fail (fun v=>BR.rec .fail (a c1 t s rd ds) (a c2 t s rd ds) (asBool v)) (ev y t):R)=.ok x t' s' ds' from hv)
  show (OV.rec .fail (fun v=>BR.rec .fail (b c1 t s rd ds) (b c2 t s rd ds) (asBool v)) (ev y t):R)=.ok x t' s' ds'
  rw [hv']
  show (BR.rec .fail (b c1 t s rd ds) (b c2 t s rd ds) (asBool v):R)=.ok x t' s' ds'
  cases hb:asBool v with
  | no=>rw [hb] at hk;cases hk
  | tt=>rw [hb] at hk;exact h _ _ _ _ _ _ _ _ _ hk
  | ff=>rw [hb] at hk;exact h _ _ _ _ _ _ _ _ _ hk
 | block id c1=>
  obtain ⟨x1,t1,s1,ds1,hr,hk⟩:=Zy9 (show (R.rec .fail (fun x t s ds=>Ex.rec (.ok .normal t s ds) (fun id'=>Bool.rec (.ok (.exit id') t s ds) (.ok .normal t s ds) (Nat.beq id id')) (.ok .ret t s ds) x) (a c1 t s rd ds):R)=.ok x t' s' ds' from hv)
  show (R.rec .fail (fun x t s ds=>Ex.rec (.ok .normal t s ds) (fun id'=>Bool.rec (.ok (.exit id') t s ds) (.ok .normal t s ds) (Nat.beq id id')) (.ok .ret t s ds) x) (b c1 t s rd ds):R)=.ok x t' s' ds'
  rw [h _ _ _ _ _ _ _ _ _ hr];exact hk
 | loop c1=>
  obtain ⟨x1,t1,s1,ds1,hr,hk⟩:=Zy9 (show (R.rec .fail (fun x t s ds=>Ex.rec (a (.loop c1) t s rd ds) (fun id=>.ok (.exit id) t s ds) (.ok .ret t s ds) x) (a c1 t s rd ds):R)=.ok x t' s' ds' from hv)
  show (R.rec .fail (fun x t s ds=>Ex.rec (b (.loop c1) t s rd ds) (fun id=>.ok (.exit id) t s ds) (.ok .ret t s ds) x) (b c1 t s rd ds):R)=.ok x t' s' ds'
  rw [h _ _ _ _ _ _ _ _ _ hr]
  cases x1 with
  | normal=>exact h _ _ _ _ _ _ _ _ _ hk
  | exit id=>exact hk
  | ret=>exact hk
 | rng g ps asg body=>
  have go:∀ gv t d ds s0,Znc e a gv ps asg body t d ds s0=.ok x t' s' ds'→Znc e b gv ps asg body t d ds s0=.ok x t' s' ds':=by
   intro gv t d ds s0 hg
   unfold Znc at hg ⊢
   obtain ⟨v,s2,hc,hk⟩:=RV_ok hg
   rw [Ydw h hc];exact hk
  obtain ⟨gv,hgv,hk⟩:=Yh0 (show (OV.rec .fail (fun gv=>Option.rec (Znc e a gv ps asg body t s.next (s.next::ds) (s.alloc .defd)) (fun l=>LP.rec .fail (fun _ _ _ _ _ _ _ d=>Znc e a gv ps asg body t d ds s) (Zdq l s)) rd) (ev g t):R)=.ok x t' s' ds' from hv)
  show (OV.rec .fail (fun gv=>Option.rec (Znc e b gv ps asg body t s.next (s.next::ds) (s.alloc .defd)) (fun l=>LP.rec .fail (fun _ _ _ _ _ _ _ d=>Znc e b gv ps asg body t d ds s) (Zdq l s)) rd) (ev g t):R)=.ok x t' s' ds'
  rw [hgv]
  cases rd with
  | none=>exact go _ _ _ _ _ hk
  | some l=>
   obtain ⟨st,pend,fn,tm,ps',asg',body',d,hg,hk⟩:=Zxh hk
   show (LP.rec .fail _ (Zdq l s):R)=_
   unfold Zdq;rw [hg]
   exact go _ _ _ _ _ hk
theorem Yg2:∀ n,RLe (exec e n) (exec e (n+1)):=by
 intro n
 induction n with
 | zero=>intro c t s rd ds x t' s' ds' h;cases h
 | succ n ih=>
  intro c t s rd ds x t' s' ds' h
  exact acF_le ih c .skip t s rd ds x t' s' ds' h
theorem Zgd {n m:Nat}(h:n≤m):RLe (exec e n) (exec e m):=by
 induction h with
 | refl=>intro c t s rd ds x t' s' ds' h;exact h
 | step _ ih=>intro c t s rd ds x t' s' ds' h;exact Yg2 _ _ _ _ _ _ _ _ _ _ (ih _ _ _ _ _ _ _ _ _ h)
end
end Go.AM
namespace Go.AM
def wV (x:OV) (k:AV→Prop):Prop:=OV.rec False k x
def wO {α:Type}(x:Option α) (k:α→Prop):Prop:=Option.rec False k x
def wB (b:Bool) (y z:Prop):Prop:=Bool.rec z y b
def wC (v:AV) (y z:Prop):Prop:=BR.rec False y z (asBool v)
def wP (v:AV) (k:Nat→Nat→Prop) (kf:List AV→Prop):Prop:=PR.rec False k kf (Zcp v)
def EPrim (p:AOp) (t:AT) (s:St) (k:AV→St→Prop):Prop:=∀ e rec,∃ v s',opA p e rec t s=.ok v s'∧k v s'
def EHead (l:List AV) (k:AV→Prop):Prop:=∃ v,Zra l 0=some v∧k v
def ETake (n:Nat) (l:List AV) (k:List AV→Prop):Prop:=∃ cs,Zdf n l=some cs∧k cs
def ECall (e:Env) (f:Nat) (vs:List AV) (s:St) (k:AV→St→Prop):Prop:=∃ n v s',Zfl e (exec e n) f vs s=.ok v s'∧k v s'
def ERound (e:Env) (l:Nat) (vs:List AV) (s:St) (k:AV→St→Prop):Prop:=∃ n v s',Zlw (exec e n) l vs s=.ok v s'∧k v s'
def EExec (e:Env) (c:AC) (t:AT) (s:St) (rd:Option Nat) (ds:List Nat) (Q:Ex→AT→St→List Nat→Prop):Prop:=∃ n x t' s' ds',exec e n c t s rd ds=.ok x t' s' ds'∧Q x t' s' ds'
def ESc (e:Env) (f:Nat) (vs:List AV) (s:St) (k:AV→St→Prop):Prop:=Option.rec (ECall e f vs s k) (fun h=>RV.rec False k (h vs s)) (e.X.get f)
def Yjd (e:Env) (f:AV) (vs:List AV) (s:St) (k:AV→St→Prop):Prop:=
 FR.rec False (fun f xs ys=>ECall e f (Zgx xs (Zgx vs ys)) s k) (fun l=>ERound e l vs s k) (Zxe f)
def EOp (e:Env) (p:AOp) (t:AT) (s:St) (k:AV→St→Prop):Prop:=match p with
 | .mv x=>wV (ev x t) fun v=>k v s
 | .pick c a b=>wV (ev c t) fun c=>wC c (wV (ev a t) fun v=>k v s) (wV (ev b t) fun v=>k v s)
 | .new el _ z=>k (.ptr s.next 0) (s.alloc (.row el z))
 | .box el n x=>wV (ev x t) fun v=>wB (Nat.beq (Zd0 (cellsOf v)) n) (k (.ptr s.next 0) (s.alloc (.row el (cellsOf v)))) False
 | .build z ps=>wO (fill t ps z) fun cs=>k (.agg cs) s
 | .bsl el _ n z ps=>wO (fill t ps z) fun cs=>k (.sl s.next 0 n (some n)) (s.alloc (.row el cs))
 | .ld1 x=>wV (ev x t) fun v=>wP v (fun r o=>wO (load1 r o s) fun u=>k u s) (fun l=>EHead l fun u=>k u s)
 | .ldn n x=>wV (ev x t) fun v=>wP v (fun r o=>wO (load r o n s) fun cs=>k (.agg cs) s) (fun l=>ETake n l fun cs=>k (.agg cs) s)
 | .st n a x=>wV (ev a t) fun p=>wV (ev x t) fun v=>wP p (fun r o=>wB (Nat.beq (Zd0 (cellsOf v)) n) (wO (storeAt r o (cellsOf v) s) fun s'=>k (.tup []) s') False) (fun _=>False)
 | .nilck x=>wV (ev x t) fun v=>wB (Zse v) False (k v s)
 | .mkfn f a b=>wO (evs t a) fun x=>wO (evs t b) fun y=>k (.fn f x y) s
 | .fa off x=>wV (ev x t) fun v=>wP v (fun r o=>k (.ptr r (Nat.add o off)) s) (fun l=>k (.fp (Zgs off l)) s)
 | .fld1 off x=>wV (ev x t) fun v=>LR.rec False (fun l=>wO (Zra l off) fun u=>k u s) (asAgg v)
 | .fldn off n x=>wV (ev x t) fun v=>LR.rec False (fun l=>wO (Zdf n (Zgs off l)) fun cs=>k (.agg cs) s) (asAgg v)
 | .ext x i=>wV (ev x t) fun v=>LR.rec False (fun l=>wO (Zra l i) fun u=>k u s) (Zs7 v)
 | .alen n=>k (Zml n) s
 | .mkmap=>k (.map s.next) (s.alloc (.map [] 0))
 | .call f args=>wV (ev f t) fun fv=>wO (evs t args) fun vs=>Yjd e fv vs s k
 | .scall f args=>wO (evs t args) fun vs=>ESc e f vs s k
 | p=>EPrim p t s k
def EGrd (g:Option (Nat×Bool)) (t:AT) (y z:Prop):Prop:=
 Option.rec y (fun p=>wO (t.get p.1) fun v=>BR.rec (wB (Zc8 v) False z) (wB p.2 y z) (wB p.2 z y) (asBool v)) g
def Yep (e:Env) (l:List AOper):AT→St→(AT→St→Prop)→Prop:=
 List.rec (motive:=fun _=>AT→St→(AT→St→Prop)→Prop) (fun t s K=>K t s)
  (fun o _ ih t s K=>AOper.rec (fun d p g=>EGrd g t (EOp e p t s fun v s'=>ih (Zim d v t) s' K) (ih (Zim d (.tup []) t) s K))
    (fun d p g=>EGrd g t (EOp e p t s fun v _=>wO (t.get d) fun v0=>v=v0∧ih t s K) (ih t s K)) o) l
abbrev EQ:=Ex→AT→St→List Nat→Prop
def Bhd (K:AT→St→List Nat→Prop) (Q:EQ):EQ:=fun x t s ds=>Ex.rec (K t s ds) (fun id=>Q (.exit id) t s ds) (Q .ret t s ds) x
def Blk (id:Nat) (Q:EQ):EQ:=fun x t s ds=>Ex.rec (Q .normal t s ds) (fun id'=>wB (Nat.beq id id') (Q .normal t s ds) (Q (.exit id') t s ds)) (Q .ret t s ds) x
abbrev EC:=AT→St→Option Nat→List Nat→EQ→Prop
def VE (e:Env) (c:AC):EC:=AC.rec (motive:=fun _=>EC) (fun t s _ ds Q=>Q .normal t s ds) (fun ops t s _ ds Q=>Yep e ops t s fun t' s'=>Q .normal t' s' ds)
 (fun _ _ ia ib t s rd ds Q=>ia t s rd ds (Bhd (fun t s ds=>ib t s rd ds Q) Q))
 (fun x _ _ ia ib t s rd ds Q=>wV (ev x t) fun v=>wC v (ia t s rd ds Q) (ib t s rd ds Q))
 (fun id _ ia t s rd ds Q=>ia t s rd ds (Blk id Q))
 (fun a _ t s rd ds Q=>EExec e (.loop a) t s rd ds Q) (fun g ps a b _ _ t s rd ds Q=>EExec e (.rng g ps a b) t s rd ds Q)
 (fun id t s _ ds Q=>Q (.exit id) t s ds) (fun t s _ ds Q=>Q .ret t s ds) (fun _ ia t s rd ds Q=>ia t s rd ds Q) (fun t s _ ds Q=>Q .normal t s ds) c
def VW (P:Program) (e:Env) (k:Nat) (c:AC):EC:=AC.rec (motive:=fun _=>EC) (fun t s _ ds Q=>Q .normal t s ds) (fun ops t s _ ds Q=>Yep e ops t s fun t' s'=>Q .normal t' s' ds)
 (fun _ _ ia ib t s rd ds Q=>ia t s rd ds (Bhd (fun t s ds=>ib t s rd ds Q) Q))
 (fun x _ _ ia ib t s rd ds Q=>wV (ev x t) fun v=>wC v (ia t s rd ds Q) (ib t s rd ds Q))
 (fun id _ ia t s rd ds Q=>ia t s rd ds (Blk id Q))
 (fun a _ t s rd ds Q=>W P k rd (.loop a) t s ds Q) (fun g ps a b _ _ t s rd ds Q=>W P k rd (.rng g ps a b) t s ds Q)
 (fun id t s _ ds Q=>Q (.exit id) t s ds) (fun t s _ ds Q=>Q .ret t s ds) (fun _ ia t s rd ds Q=>ia t s rd ds Q) (fun t s _ ds Q=>Q .normal t s ds) c
def Zfa (res:List ARes) (k:AV→St→Prop):EQ:=fun x t s ds=>
 Ex.rec (wO (Zzk ds s) fun s2=>wO (Zpf t s2 res) fun l=>k (one l) s2) (fun _=>False) (wO (Zzk ds s) fun s2=>wO (Zpf t s2 res) fun l=>k (one l) s2) x
section
variable {P:Program}{e:Env}
theorem Zhy {x:OV}{k:AV→Prop}(h:wV x k):∃ v,x=.some v∧k v:=by cases x with|none=>exact h.elim|some v=>exact ⟨v,rfl,h⟩
theorem Zhq {α:Type}{x:Option α}{k:α→Prop}(h:wO x k):∃ v,x=some v∧k v:=by cases x with|none=>exact h.elim|some v=>exact ⟨v,rfl,h⟩
theorem wC_ok {v:AV}{y z:Prop}(h:wC v y z):(asBool v=.tt∧y)∨(asBool v=.ff∧z):=by
 unfold wC at h
 cases hb:asBool v with
 | no=>rw [hb] at h;exact h.elim
 | tt=>rw [hb] at h;exact .inl ⟨rfl,h⟩
 | ff=>rw [hb] at h;exact .inr ⟨rfl,h⟩
theorem Yet {v:AV}{k:Nat→Nat→Prop}{kf:List AV→Prop}(h:wP v k kf):(∃ r o,Zcp v=.ptr r o∧k r o)∨∃ l,Zcp v=.fp l∧kf l:=by
 unfold wP at h
 cases hb:Zcp v with
 | no=>rw [hb] at h;exact h.elim
 | ptr r o=>rw [hb] at h;exact .inl ⟨r,o,rfl,h⟩
 | fp l=>rw [hb] at h;exact .inr ⟨l,rfl,h⟩
theorem lr_ok {x:LR}{k:List AV→Prop}(h:(LR.rec False k x:Prop)):∃ l,x=.l l∧k l:=by cases x with|no=>exact h.elim|l l=>exact ⟨l,rfl,h⟩
theorem Zn8 {p:AOp}{t:AT}{s:St}{k:AV→St→Prop}(h:EOp e p t s k):∃ n v s',opA p e (exec e n) t s=.ok v s'∧k v s':=by
 unfold EOp at h
 split at h
 ·obtain ⟨v,h1,hk⟩:=Zhy h
  exact ⟨0,v,s,by show wth _ t _=_;unfold wth;rw [h1],hk⟩
 ·obtain ⟨c,h1,hk⟩:=Zhy h
  rcases wC_ok hk with ⟨hb,hk⟩|⟨hb,hk⟩
  ·obtain ⟨v,h2,hk⟩:=Zhy hk
   refine ⟨0,v,s,?_,hk⟩
   show wth _ t _=_;unfold wth;rw [h1]
   show (BR.rec .fail _ _ (asBool c):RV)=_;rw [hb]
   show ret _ s=_;rw [h2];rfl
  ·obtain ⟨v,h2,hk⟩:=Zhy hk
   refine ⟨0,v,s,?_,hk⟩
   show wth _ t _=_;unfold wth;rw [h1]
   show (BR.rec .fail _ _ (asBool c):RV)=_;rw [hb]
   show ret _ s=_;rw [h2];rfl
 ·exact ⟨0,_,_,rfl,h⟩
 ·rename_i el n x
  obtain ⟨v,h1,hk⟩:=Zhy h
  cases hb:Nat.beq (Zd0 (cellsOf v)) n with
  | false=>rw [hb] at hk;exact hk.elim
  | true=>
   rw [hb] at hk
   refine ⟨0,_,_,?_,hk⟩
   show wth _ t _=_;unfold wth;rw [h1]
   show gd (Nat.beq (Zd0 (cellsOf v)) n) _=_;rw [hb];rfl
 ·obtain ⟨cs,h1,hk⟩:=Zhq h
  refine ⟨0,_,_,?_,hk⟩
  show (Option.rec .fail _ (fill t _ _):RV)=_;rw [h1]
 ·obtain ⟨cs,h1,hk⟩:=Zhq h
  refine ⟨0,_,_,?_,hk⟩
  show (Option.rec .fail _ (fill t _ _):RV)=_;rw [h1];rfl
 ·obtain ⟨v,h1,hk⟩:=Zhy h
  rcases Yet hk with ⟨r,o,hb,hk⟩|⟨l,hb,hk⟩
  ·obtain ⟨u,h2,hk⟩:=Zhq hk
   refine ⟨0,u,s,?_,hk⟩
   show wth _ t _=_;unfold wth;rw [h1]
   show (PR.rec .fail _ _ (Zcp v):RV)=_;rw [hb]
   show retO _ s=_;rw [h2];rfl
  ·obtain ⟨u,h2,hk⟩:=hk
   refine ⟨0,u,s,?_,hk⟩
   show wth _ t _=_;unfold wth;rw [h1]
   show (PR.rec .fail _ _ (Zcp v):RV)=_;rw [hb]
   show retO _ s=_;rw [h2];rfl
 ·obtain ⟨v,h1,hk⟩:=Zhy h
  rcases Yet hk with ⟨r,o,hb,hk⟩|⟨l,hb,hk⟩
  ·obtain ⟨u,h2,hk⟩:=Zhq hk
   refine ⟨0,.agg u,s,?_,hk⟩
   show wth _ t _=_;unfold wth;rw [h1]
   show (PR.rec .fail _ _ (Zcp v):RV)=_;rw [hb]
   show (Option.rec .fail _ (load r o _ s):RV)=_;rw [h2]
  ·obtain ⟨u,h2,hk⟩:=hk
   refine ⟨0,.agg u,s,?_,hk⟩
   show wth _ t _=_;unfold wth;rw [h1]
   show (PR.rec .fail _ _ (Zcp v):RV)=_;rw [hb]
   show (Option.rec .fail _ (Zdf _ l):RV)=_;rw [h2]
 ·rename_i n a x
  obtain ⟨p,h1,hk⟩:=Zhy h
  obtain ⟨v,h2,hk⟩:=Zhy hk
  rcases Yet hk with ⟨r,o,hb,hk⟩|⟨l,hb,hk⟩
  ·cases hc:Nat.beq (Zd0 (cellsOf v)) n with
   | false=>rw [hc] at hk;exact hk.elim
   | true=>
    rw [hc] at hk
    obtain ⟨s',h3,hk⟩:=Zhq hk
    refine ⟨0,_,s',?_,hk⟩
    show wth _ t _=_;unfold wth;rw [h1]
    show wth _ t _=_;unfold wth;rw [h2]
    show (PR.rec .fail _ _ (Zcp p):RV)=_;rw [hb]
    show gd (Nat.beq (Zd0 (cellsOf v)) n) _=_;rw [hc]
    show Yei _ (storeAt r o (cellsOf v) s)=_;rw [h3];rfl
  ·exact hk.elim
 ·obtain ⟨v,h1,hk⟩:=Zhy h
  cases hb:Zse v with
  | true=>rw [hb] at hk;exact hk.elim
  | false=>
   rw [hb] at hk
   refine ⟨0,v,s,?_,hk⟩
   show wth _ t _=_;unfold wth;rw [h1]
   show (Bool.rec _ _ (Zse v):RV)=_;rw [hb]
 ·obtain ⟨x,h1,hk⟩:=Zhq h
  obtain ⟨y,h2,hk⟩:=Zhq hk
  refine ⟨0,_,s,?_,hk⟩
  show (Option.rec .fail _ (evs t _):RV)=_;rw [h1]
  show (Option.rec .fail _ (evs t _):RV)=_;rw [h2]
 ·obtain ⟨v,h1,hk⟩:=Zhy h
  rcases Yet hk with ⟨r,o,hb,hk⟩|⟨l,hb,hk⟩
  ·refine ⟨0,_,s,?_,hk⟩
   show wth _ t _=_;unfold wth;rw [h1]
   show (PR.rec .fail _ _ (Zcp v):RV)=_;rw [hb]
  ·refine ⟨0,_,s,?_,hk⟩
   show wth _ t _=_;unfold wth;rw [h1]
   show (PR.rec .fail _ _ (Zcp v):RV)=_;rw [hb]
 ·obtain ⟨v,h1,hk⟩:=Zhy h
  obtain ⟨l,hb,hk⟩:=lr_ok hk
  obtain ⟨u,h2,hk⟩:=Zhq hk
  refine ⟨0,u,s,?_,hk⟩
  show wth _ t _=_;unfold wth;rw [h1]
  show (LR.rec .fail _ (asAgg v):RV)=_;rw [hb]
  show retO _ s=_;rw [h2];rfl
 ·obtain ⟨v,h1,hk⟩:=Zhy h
  obtain ⟨l,hb,hk⟩:=lr_ok hk
  obtain ⟨u,h2,hk⟩:=Zhq hk
  refine ⟨0,_,s,?_,hk⟩
  show wth _ t _=_;unfold wth;rw [h1]
  show (LR.rec .fail _ (asAgg v):RV)=_;rw [hb]
  show (Option.rec .fail _ (Zdf _ _):RV)=_;rw [h2]
 ·obtain ⟨v,h1,hk⟩:=Zhy h
  obtain ⟨l,hb,hk⟩:=lr_ok hk
  obtain ⟨u,h2,hk⟩:=Zhq hk
  refine ⟨0,u,s,?_,hk⟩
  show wth _ t _=_;unfold wth;rw [h1]
  show (LR.rec .fail _ (Zs7 v):RV)=_;rw [hb]
  show retO _ s=_;rw [h2];rfl
 ·exact ⟨0,_,_,rfl,h⟩
 ·exact ⟨0,_,_,rfl,h⟩
 ·obtain ⟨fv,h1,hk⟩:=Zhy h
  obtain ⟨vs,h2,hk⟩:=Zhq hk
  unfold Yjd at hk
  cases hf:Zxe fv with
  | no=>rw [hf] at hk;exact hk.elim
  | fn f xs ys=>
   rw [hf] at hk
   obtain ⟨n,v,s',h3,hk⟩:=hk
   refine ⟨n,v,s',?_,hk⟩
   show wth _ t _=_;unfold wth;rw [h1]
   show (Option.rec .fail _ (evs t _):RV)=_;rw [h2]
   show Zgt e _ fv vs s=_;unfold Zgt;rw [hf];exact h3
  | yld l=>
   rw [hf] at hk
   obtain ⟨n,v,s',h3,hk⟩:=hk
   refine ⟨n,v,s',?_,hk⟩
   show wth _ t _=_;unfold wth;rw [h1]
   show (Option.rec .fail _ (evs t _):RV)=_;rw [h2]
   show Zgt e _ fv vs s=_;unfold Zgt;rw [hf];exact h3
 ·rename_i f args
  obtain ⟨vs,h2,hk⟩:=Zhq h
  unfold ESc at hk
  cases hx:e.X.get f with
  | none=>
   rw [hx] at hk
   obtain ⟨n,v,s',h3,hk⟩:=hk
   refine ⟨n,v,s',?_,hk⟩
   show (Option.rec .fail (fun vs=>Option.rec (Zfl e (exec e n) f vs s) (fun h=>h vs s) (e.X.get f)) (evs t args):RV)=_
   rw [h2,hx];exact h3
  | some hh=>
   rw [hx] at hk
   change (RV.rec False k (hh vs s):Prop) at hk
   cases hq:hh vs s with
   | fail=>rw [hq] at hk;exact hk.elim
   | ok v s'=>
    rw [hq] at hk
    refine ⟨0,v,s',?_,hk⟩
    show (Option.rec .fail (fun vs=>Option.rec (Zfl e (exec e 0) f vs s) (fun h=>h vs s) (e.X.get f)) (evs t args):RV)=_
    rw [h2,hx];exact hq
 ·obtain ⟨v,s',h1,hk⟩:=h e (exec e 0)
  exact ⟨0,v,s',h1,hk⟩
theorem Ycq {g:Option (Nat×Bool)}{t:AT}{y z:Prop}(h:EGrd g t y z):(Zay g t=2∧y)∨(Zay g t=1∧z):=by
 cases g with
 | none=>exact .inl ⟨rfl,h⟩
 | some p=>
  obtain ⟨j,b⟩:=p
  obtain ⟨v,h1,hk⟩:=Zhq (show wO (t.get j) (fun v=>BR.rec (wB (Zc8 v) False z) (wB b y z) (wB b z y) (asBool v)) from h)
  have hw:Zay (some (j,b)) t=(BR.rec (Bool.rec 1 0 (Zc8 v)) (Bool.rec 1 2 b) (Bool.rec 2 1 b) (asBool v):Nat):=by
   show (Option.rec 0 (fun v=>BR.rec (Bool.rec 1 0 (Zc8 v)) (Bool.rec 1 2 b) (Bool.rec 2 1 b) (asBool v)) (t.get j):Nat)=_
   rw [h1]
  rw [hw]
  revert hk
  cases asBool v with
  | no=>
   intro hk
   cases hi:Zc8 v with
   | true=>rw [hi] at hk;exact hk.elim
   | false=>rw [hi] at hk;exact .inr ⟨rfl,hk⟩
  | tt=>intro hk;cases b with
   | true=>exact .inl ⟨rfl,hk⟩
   | false=>exact .inr ⟨rfl,hk⟩
  | ff=>intro hk;cases b with
   | true=>exact .inr ⟨rfl,hk⟩
   | false=>exact .inl ⟨rfl,hk⟩
theorem Zle:∀ {l:List AOper}{t:AT}{s:St}{K:AT→St→Prop},Yep e l t s K→∃ n t' s',Zdz e (exec e n) l t s=.ok t' s'∧K t' s':=by
 intro l
 induction l with
 | nil=>intro t s K h;exact ⟨0,t,s,rfl,h⟩
 | cons o l ih=>
  intro t s K h
  cases o with
  | mk d p g=>
   rcases Ycq (show EGrd g t (EOp e p t s fun v s'=>Yep e l (Zim d v t) s' K) (Yep e l (Zim d (.tup []) t) s K) from h) with ⟨hw,h⟩|⟨hw,h⟩
   ·obtain ⟨n,v,s1,h1,h⟩:=Zn8 h
    obtain ⟨m,t',s',h2,hk⟩:=ih h
    refine ⟨max n m,t',s',?_,hk⟩
    show (Nat.rec .fail (fun w _=>Nat.rec (Zdz e (exec e (max n m)) l (Zim d (.tup []) t) s) (fun _ _=>RV.rec .fail (fun v s'=>Zdz e (exec e (max n m)) l (Zim d v t) s') (opA p e (exec e (max n m)) t s)) w) (Zay g t):RT)=.ok t' s'
    rw [hw,Zwb (Zgd (Nat.le_max_left n m)) h1]
    exact Zud (Zgd (Nat.le_max_right n m)) h2
   ·obtain ⟨m,t',s',h2,hk⟩:=ih h
    refine ⟨m,t',s',?_,hk⟩
    show (Nat.rec .fail (fun w _=>Nat.rec (Zdz e (exec e m) l (Zim d (.tup []) t) s) (fun _ _=>RV.rec .fail (fun v s'=>Zdz e (exec e m) l (Zim d v t) s') (opA p e (exec e m) t s)) w) (Zay g t):RT)=.ok t' s'
    rw [hw];exact h2
  | chk d p g=>
   rcases Ycq (show EGrd g t (EOp e p t s fun v _=>wO (t.get d) fun v0=>v=v0∧Yep e l t s K) (Yep e l t s K) from h) with ⟨hw,h⟩|⟨hw,h⟩
   ·obtain ⟨n,v,s1,h1,h⟩:=Zn8 h
    obtain ⟨v0,hd,rfl,h⟩:=Zhq h
    obtain ⟨m,t',s',h2,hk⟩:=ih h
    refine ⟨max n m,t',s',?_,hk⟩
    show (Nat.rec .fail (fun w _=>Nat.rec (Zdz e (exec e (max n m)) l t s) (fun _ _=>RV.rec .fail (fun v _=>Option.rec .fail (fun v0=>Bool.rec .fail (Zdz e (exec e (max n m)) l t s) (eqV v v0)) (t.get d)) (opA p e (exec e (max n m)) t s)) w) (Zay g t):RT)=.ok t' s'
    rw [hw,Zwb (Zgd (Nat.le_max_left n m)) h1]
    show (Option.rec .fail (fun v0=>Bool.rec .fail (Zdz e (exec e (max n m)) l t s) (eqV v v0)) (t.get d):RT)=.ok t' s'
    rw [hd]
    show (Bool.rec .fail (Zdz e (exec e (max n m)) l t s) (eqV v v):RT)=.ok t' s'
    rw [show eqV v v=true from Zqv v]
    exact Zud (Zgd (Nat.le_max_right n m)) h2
   ·obtain ⟨m,t',s',h2,hk⟩:=ih h
    refine ⟨m,t',s',?_,hk⟩
    show (Nat.rec .fail (fun w _=>Nat.rec (Zdz e (exec e m) l t s) (fun _ _=>RV.rec .fail (fun v _=>Option.rec .fail (fun v0=>Bool.rec .fail (Zdz e (exec e m) l t s) (eqV v v0)) (t.get d)) (opA p e (exec e m) t s)) w) (Zay g t):RT)=.ok t' s'
    rw [hw];exact h2
theorem Zmf:∀ {c:AC}{t:AT}{s:St}{rd:Option Nat}{ds:List Nat}{Q:EQ},VE e c t s rd ds Q→EExec e c t s rd ds Q:=by
 intro c
 induction c with
 | skip=>intro t s rd ds Q h;exact ⟨1,_,_,_,_,rfl,h⟩
 | exit id=>intro t s rd ds Q h;exact ⟨1,_,_,_,_,rfl,h⟩
 | lab=>intro t s rd ds Q h;exact ⟨1,_,_,_,_,rfl,h⟩
 | scope a ia=>
  intro t s rd ds Q h
  obtain ⟨n,x,t1,s1,ds1,h1,hk⟩:=ia h
  exact ⟨n+1,_,_,_,_,h1,hk⟩
 | ret=>intro t s rd ds Q h;exact ⟨1,_,_,_,_,rfl,h⟩
 | reg ops=>
  intro t s rd ds Q h
  obtain ⟨n,t',s',h1,hk⟩:=Zle (show Yep e ops t s (fun t' s'=>Q .normal t' s' ds) from h)
  refine ⟨n+1,_,_,_,_,?_,hk⟩
  show (RT.rec .fail (fun t' s'=>.ok .normal t' s' ds) (Zdz e (exec e n) ops t s):R)=_
  rw [h1]
 | seq a b ia ib=>
  intro t s rd ds Q h
  obtain ⟨n,x,t1,s1,ds1,h1,hk⟩:=ia (show VE e a t s rd ds (Bhd (fun t s ds=>VE e b t s rd ds Q) Q) from h)
  cases x with
  | normal=>
   obtain ⟨m,x2,t2,s2,ds2,h2,hk⟩:=ib (show VE e b t1 s1 rd ds1 Q from hk)
   refine ⟨max n m+1,_,_,_,_,?_,hk⟩
   show Yh4 (exec e (max n m)) b rd (exec e (max n m) a t s rd ds)=_
   rw [Zgd (Nat.le_max_left n m) _ _ _ _ _ _ _ _ _ h1]
   exact Zgd (Nat.le_max_right n m) _ _ _ _ _ _ _ _ _ h2
  | exit id=>
   refine ⟨n+1,_,_,_,_,?_,hk⟩
   show Yh4 (exec e n) b rd (exec e n a t s rd ds)=_
   rw [h1];rfl
  | ret=>
   refine ⟨n+1,_,_,_,_,?_,hk⟩
   show Yh4 (exec e n) b rd (exec e n a t s rd ds)=_
   rw [h1];rfl
 | cond x a b ia ib=>
  intro t s rd ds Q h
  obtain ⟨v,hv,h⟩:=Zhy (show wV (ev x t) (fun v=>wC v (VE e a t s rd ds Q) (VE e b t s rd ds Q)) from h)
  rcases wC_ok h with ⟨hb,h⟩|⟨hb,h⟩
  ·obtain ⟨n,x1,t1,s1,ds1,h1,hk⟩:=ia h
   refine ⟨n+1,_,_,_,_,?_,hk⟩
   show (OV.rec .fail (fun v=>BR.rec .fail (exec e n a t s rd ds) (exec e n b t s rd ds) (asBool v)) (ev x t):R)=_
   rw [hv];show (BR.rec .fail (exec e n a t s rd ds) (exec e n b t s rd ds) (asBool v):R)=_;rw [hb];exact h1
  ·obtain ⟨n,x1,t1,s1,ds1,h1,hk⟩:=ib h
   refine ⟨n+1,_,_,_,_,?_,hk⟩
   show (OV.rec .fail (fun v=>BR.rec .fail (exec e n a t s rd ds) (exec e n b t s rd ds) (asBool v)) (ev x t):R)=_
   rw [hv];show (BR.rec .fail (exec e n a t s rd ds) (exec e n b t s rd ds) (asBool v):R)=_;rw [hb];exact h1
 | block id a ia=>
  intro t s rd ds Q h
  obtain ⟨n,x,t1,s1,ds1,h1,hk⟩:=ia (show VE e a t s rd ds (Blk id Q) from h)
  cases x with
  | normal=>
   refine ⟨n+1,_,_,_,_,?_,hk⟩
   show Zs4 id (exec e n a t s rd ds)=_;rw [h1];rfl
  | ret=>
   refine ⟨n+1,_,_,_,_,?_,hk⟩
   show Zs4 id (exec e n a t s rd ds)=_;rw [h1];rfl
  | exit id'=>
   have hk:wB (Nat.beq id id') (Q .normal t1 s1 ds1) (Q (.exit id') t1 s1 ds1):=hk
   cases hb:Nat.beq id id' with
   | true=>
    rw [hb] at hk
    refine ⟨n+1,_,_,_,_,?_,hk⟩
    show Zs4 id (exec e n a t s rd ds)=_;rw [h1]
    show (Bool.rec _ _ (Nat.beq id id'):R)=_;rw [hb]
   | false=>
    rw [hb] at hk
    refine ⟨n+1,_,_,_,_,?_,hk⟩
    show Zs4 id (exec e n a t s rd ds)=_;rw [h1]
    show (Bool.rec _ _ (Nat.beq id id'):R)=_;rw [hb]
 | loop a ia=>intro t s rd ds Q h;exact h
 | rng g ps a b ia ib=>intro t s rd ds Q h;exact h
theorem Zap (hE:EnvOk P e) (hm:P.follows .mixedOrders=true) {k:Nat}:∀ {c:AC}{t:AT}{s:St}{rd:Option Nat}{ds:List Nat}{Q:EQ},VW P e k c t s rd ds Q→W P k rd c t s ds Q:=by
 intro c
 induction c with
 | skip=>intro t s rd ds Q h;exact W.skip h
 | exit id=>intro t s rd ds Q h;exact W.exit h
 | lab=>intro t s rd ds Q h;exact W.lab h
 | scope a ia=>intro t s rd ds Q h;exact W.scope (ia h)
 | ret=>intro t s rd ds Q h;exact W.ret h
 | reg ops=>
  intro t s rd ds Q h
  obtain ⟨n,t',s',h1,hk⟩:=Zle (show Yep e ops t s (fun t' s'=>Q .normal t' s' ds) from h)
  refine W.exec (Zn5 hE hm (n+1)) (t':=t') (s':=s') (ds':=ds) (x:=.normal) ?_ hk
  show (RT.rec .fail (fun t' s'=>.ok .normal t' s' ds) (Zdz e (exec e n) ops t s):R)=_
  rw [h1]
 | seq a b ia ib=>
  intro t s rd ds Q h
  refine W.seq ((ia (show VW P e k a t s rd ds (Bhd (fun t s ds=>VW P e k b t s rd ds Q) Q) from h)).mono ?_)
  intro x t1 s1 ds1 hq
  cases x with
  | normal=>exact ib hq
  | exit id=>exact hq
  | ret=>exact hq
 | cond x a b ia ib=>
  intro t s rd ds Q h
  obtain ⟨v,hv,h⟩:=Zhy (show wV (ev x t) (fun v=>wC v (VW P e k a t s rd ds Q) (VW P e k b t s rd ds Q)) from h)
  rcases wC_ok h with ⟨hb,h⟩|⟨hb,h⟩
  ·exact Yja (b:=true) (by rw [hv,Zkq hb]) (fun _=>ia h) (fun e=>by cases e)
  ·exact Yja (b:=false) (by rw [hv,Zkr hb]) (fun e=>by cases e) (fun _=>ib h)
 | block id a ia=>
  intro t s rd ds Q h
  refine W.block ((ia (show VW P e k a t s rd ds (Blk id Q) from h)).mono ?_)
  intro x t1 s1 ds1 hq
  cases x with
  | normal=>exact hq
  | ret=>exact hq
  | exit id'=>
   have hq:wB (Nat.beq id id') (Q .normal t1 s1 ds1) (Q (.exit id') t1 s1 ds1):=hq
   show if id'=id then _ else _
   cases hb:Nat.beq id id' with
   | true=>rw [hb] at hq;rw [if_pos (Nat.eq_of_beq_eq_true hb).symm];exact hq
   | false=>rw [hb] at hq;rw [if_neg (fun e=>Nat.ne_of_beq_eq_false hb e.symm)];exact hq
 | loop a ia=>intro t s rd ds Q h;exact h
 | rng g ps a b ia ib=>intro t s rd ds Q h;exact h
theorem Zbz {res:List ARes}{k:AV→St→Prop}{x:Ex}{t:AT}{s:St}{ds:List Nat}(h:Zfa res k x t s ds):Zhv res k x t s ds:=by
 cases x with
 | normal=>
  obtain ⟨s2,h1,h⟩:=Zhq (show wO (Zzk ds s) (fun s2=>wO (Zpf t s2 res) fun l=>k (one l) s2) from h)
  obtain ⟨l,h2,h⟩:=Zhq h
  exact ⟨.inl rfl,s2,l,h1,h2,h⟩
 | ret=>
  obtain ⟨s2,h1,h⟩:=Zhq (show wO (Zzk ds s) (fun s2=>wO (Zpf t s2 res) fun l=>k (one l) s2) from h)
  obtain ⟨l,h2,h⟩:=Zhq h
  exact ⟨.inr rfl,s2,l,h1,h2,h⟩
 | exit id=>exact (show False from h).elim
theorem C.of_V (hE:EnvOk P e) (hm:P.follows .mixedOrders=true) {f:Nat}{fn:Func}{code:AC}{res:List ARes}{args:List AV}{Q:AV→St→Prop}(hf:P.funcs[f]?=some fn) (hc:Zaj P fn=some (.mk code res))
 (h:VW P e 0 code (Zax args 0 .lf) St0 none [] (Zfa res Q)):C P f args St0 Q:=
 C.of_W hf hc ((Zap hE hm h).mono fun _ _ _ _ h=>Zbz h)
theorem C1.of_V (hE:EnvOk P e) (hm:P.follows .mixedOrders=true) {f:Nat}{fn:Func}{code:AC}{res:List ARes}{args:List AV}{s:St}{Q:AV→St→Prop}(hf:P.funcs[f]?=some fn) (hc:Zaj P fn=some (.mk code res))
 (h:VW P e s.next code (Zax args 0 .lf) s none [] (Zfa res Q)):C1 P f args s Q:=
 C1.of_W hf hc ((Zap hE hm h).mono fun _ _ _ _ h=>Zbz h)
theorem ECall.inl {f:Nat}{vs:List AV}{s:St}{k:AV→St→Prop}{code:AC}{res:List ARes}(hO:e.O.get f=none) (hG:e.G.get f=some (.mk code res))
 (h:VE e code (Zax vs 0 .lf) s none [] (Zfa res k)):ECall e f vs s k:=by
 obtain ⟨n,x,t',s',ds',h1,hk⟩:=Zmf h
 obtain ⟨hx,s2,l,h2,h3,hk⟩:=Zbz hk
 refine ⟨n,one l,s2,?_,hk⟩
 unfold Zfl
 rw [hO]
 show Zl9 e _ f vs s=_
 unfold Zl9
 rw [hG]
 show Zlk res (exec e n code (Zax vs 0 .lf) s none [])=_
 rw [h1]
 rcases hx with rfl|rfl
 ·show (Option.rec .fail (fun s=>Option.rec .fail (fun l=>.ok (one l) s) (Zpf t' s res)) (Zzk ds' s'):RV)=_
  rw [h2];show (Option.rec .fail (fun l=>.ok (one l) s2) (Zpf t' s2 res):RV)=_;rw [h3]
 ·show (Option.rec .fail (fun s=>Option.rec .fail (fun l=>.ok (one l) s) (Zpf t' s res)) (Zzk ds' s'):RV)=_
  rw [h2];show (Option.rec .fail (fun l=>.ok (one l) s2) (Zpf t' s2 res):RV)=_;rw [h3]
theorem ECall.ov {f:Nat}{vs:List AV}{s:St}{k:AV→St→Prop}{h:Ov}{v:AV}{s':St}(hO:e.O.get f=some h) (hh:h vs s=.ok v s') (hk:k v s'):ECall e f vs s k:=by
 refine ⟨0,v,s',?_,hk⟩
 unfold Zfl
 rw [hO]
 show (RV.rec _ _ (h vs s):RV)=_
 rw [hh]
theorem EPrim.mk {p:AOp}{t:AT}{s:St}{k:AV→St→Prop}{v:AV}{s':St}(h:∀ e rec,opA p e rec t s=.ok v s') (hk:k v s'):EPrim p t s k:=fun e rec=>⟨v,s',h e rec,hk⟩
theorem EHead.mk {l:List AV}{k:AV→Prop}{v:AV}(h:l[0]?=some v) (hk:k v):EHead l k:=⟨v,by rw [Zg5];exact h,hk⟩
theorem Zgy {α:Type}:∀ {n:Nat}{l:List α},n≤l.length→Zdf n l=some (l.take n)
 | 0,l,_=>rfl
 | n+1,[],h=>by simp at h
 | n+1,x::l,h=>by
  show (Option.rec none (fun r=>some (x::r)) (Zdf n l):Option (List α))=_
  rw [Zgy (n:=n) (l:=l) (by simpa using h)];rfl
theorem EExec.loop {a:AC}{t:AT}{s:St}{rd:Option Nat}{ds:List Nat}{Q:EQ}(h:VE e a t s rd ds (Bhd (fun t s ds=>EExec e (.loop a) t s rd ds Q) Q)):EExec e (.loop a) t s rd ds Q:=by
 obtain ⟨n,x,t1,s1,ds1,h1,hk⟩:=Zmf h
 cases x with
 | normal=>
  obtain ⟨m,x2,t2,s2,ds2,h2,hk⟩:=(show EExec e (.loop a) t1 s1 rd ds1 Q from hk)
  refine ⟨max n m+1,_,_,_,_,?_,hk⟩
  show Yh4 (exec e (max n m)) (.loop a) rd (exec e (max n m) a t s rd ds)=_
  rw [Zgd (Nat.le_max_left n m) _ _ _ _ _ _ _ _ _ h1]
  exact Zgd (Nat.le_max_right n m) _ _ _ _ _ _ _ _ _ h2
 | exit id=>
  refine ⟨n+1,_,_,_,_,?_,hk⟩
  show Yh4 (exec e n) (.loop a) rd (exec e n a t s rd ds)=_
  rw [h1];rfl
 | ret=>
  refine ⟨n+1,_,_,_,_,?_,hk⟩
  show Yh4 (exec e n) (.loop a) rd (exec e n a t s rd ds)=_
  rw [h1];rfl
structure Inl (e:Env) (f:Nat) (code:AC) (res:List ARes):Prop where
 X:e.X.get f=none
 O:e.O.get f=none
 G:e.G.get f=some (.mk code res)
structure Con (e:Env) (f:Nat) (h:Ov):Prop where
 X:e.X.get f=none
 O:e.O.get f=some h
theorem ESc.inl {f:Nat}{vs:List AV}{s:St}{k:AV→St→Prop}{code:AC}{res:List ARes}(hi:Inl e f code res) (h:VE e code (Zax vs 0 .lf) s none [] (Zfa res k)):ESc e f vs s k:=by
 unfold ESc;rw [hi.X];exact ECall.inl hi.O hi.G h
theorem ESc.ov {f:Nat}{vs:List AV}{s:St}{k:AV→St→Prop}{h:Ov}{v:AV}{s':St}(hi:Con e f h) (hh:h vs s=.ok v s') (hk:k v s'):ESc e f vs s k:=by
 unfold ESc;rw [hi.X];exact ECall.ov hi.O hh hk
end
attribute [irreducible] EPrim EHead ETake ECall ERound EExec ESc
end Go.AM
namespace Go.AM
section
variable {t:AT}{s:St}{k:AV→St→Prop}{x y:AO}
theorem Ziu (q:IntKind):eqK q q=true:=by cases q <;> rfl
theorem Zli {f:Int→Int→Bool}{q:IntKind}{a b:Int}:cmp f (.int q a) (.int q b)=.some (.bool (f a b)):=by
 show (Bool.rec .none (.some (.bool (f a b))) (eqK q q):OV)=_;rw [Ziu]
theorem Ydv {f:IntKind→Int→Int→Int}{q:IntKind}{a b:Int}:ar f (.int q a) (.int q b)=.some (.int q (f q a b)):=by
 show (Bool.rec .none (.some (.int q (f q a b))) (eqK q q):OV)=_;rw [Ziu]
theorem Zeq {op:BinOp}{a b v:AV}(hx:ev x t=.some a) (hy:ev y t=.some b) (h:binA op a b=.some v) (hk:k v s):EPrim (.bin op x y) t s k:=by
 refine EPrim.mk (fun e rec=>?_) hk
 show wth x t _=_;unfold wth;rw [hx]
 show wth y t _=_;unfold wth;rw [hy]
 show ret _ s=_;rw [h];rfl
theorem Yee {q:IntKind}{a b:Int}(hx:ev x t=.some (.int q a)) (hy:ev y t=.some (.int q b)) (hk:∀ c:Bool,(c=true↔a<b)→k (.bool c) s):EPrim (.bin .lss x y) t s k:=
 Zeq hx hy Zli (hk _ (by rw [Zhl];simp))
theorem Yef {q:IntKind}{a b:Int}(hx:ev x t=.some (.int q a)) (hy:ev y t=.some (.int q b)) (hk:∀ c:Bool,(c=true↔a≤b)→k (.bool c) s):EPrim (.bin .leq x y) t s k:=
 Zeq hx hy (Zli (f:=fun a b=>!ltI b a)) (hk _ (by rw [Zhl];simp))
theorem Yeg {q:IntKind}{a b:Int}(hx:ev x t=.some (.int q a)) (hy:ev y t=.some (.int q b)) (hk:∀ c:Bool,(c=true↔b<a)→k (.bool c) s):EPrim (.bin .gtr x y) t s k:=
 Zeq hx hy (Zli (f:=fun a b=>ltI b a)) (hk _ (by rw [Zhl];simp))
theorem Yeh {q:IntKind}{a b:Int}(hx:ev x t=.some (.int q a)) (hy:ev y t=.some (.int q b)) (hk:∀ c:Bool,(c=true↔b≤a)→k (.bool c) s):EPrim (.bin .geq x y) t s k:=
 Zeq hx hy (Zli (f:=fun a b=>!ltI a b)) (hk _ (by rw [Zhl];simp))
theorem Zih {q:IntKind}{a b:Int}(hx:ev x t=.some (.int q a)) (hy:ev y t=.some (.int q b)) (hk:∀ c:Bool,(c=true↔a=b)→k (.bool c) s):EPrim (.bin .eql x y) t s k:=
 Zeq hx hy (by show orE (cmp eqI _ _) _=_;rw [Zli];rfl) (hk _ (by rw [Zkh];simp))
theorem Yec {q:IntKind}{a b:Int}(hx:ev x t=.some (.int q a)) (hy:ev y t=.some (.int q b)) (hk:∀ c:Bool,(c=true↔a≠b)→k (.bool c) s):EPrim (.bin .neq x y) t s k:=
 Zeq hx hy (by show orE (cmp (fun a b=>!eqI a b) _ _) _=_;rw [Zli];rfl) (hk _ (by rw [Zkh];simp))
theorem Zab {q:IntKind}{a b:Int}(hx:ev x t=.some (.int q a)) (hy:ev y t=.some (.int q b)) (h1:a<b→k (.bool true) s) (h2:b≤a→k (.bool false) s):EPrim (.bin .lss x y) t s k:=
 Yee hx hy fun c hc=>by cases c with|true=>exact h1 (hc.1 rfl)|false=>exact h2 (by simp at hc;omega)
theorem Zlq {q:IntKind}{a b:Int}(hx:ev x t=.some (.int q a)) (hy:ev y t=.some (.int q b)) (h1:a≤b→k (.bool true) s) (h2:b<a→k (.bool false) s):EPrim (.bin .leq x y) t s k:=
 Yef hx hy fun c hc=>by cases c with|true=>exact h1 (hc.1 rfl)|false=>exact h2 (by simp at hc;omega)
theorem Zb5 {q:IntKind}{a b:Int}(hx:ev x t=.some (.int q a)) (hy:ev y t=.some (.int q b)) (h1:b<a→k (.bool true) s) (h2:a≤b→k (.bool false) s):EPrim (.bin .gtr x y) t s k:=
 Yeg hx hy fun c hc=>by cases c with|true=>exact h1 (hc.1 rfl)|false=>exact h2 (by simp at hc;omega)
theorem Zbj {q:IntKind}{a b:Int}(hx:ev x t=.some (.int q a)) (hy:ev y t=.some (.int q b)) (h1:b≤a→k (.bool true) s) (h2:a<b→k (.bool false) s):EPrim (.bin .geq x y) t s k:=
 Yeh hx hy fun c hc=>by cases c with|true=>exact h1 (hc.1 rfl)|false=>exact h2 (by simp at hc;omega)
theorem Za7 {q:IntKind}{a b:Int}(hx:ev x t=.some (.int q a)) (hy:ev y t=.some (.int q b)) (h1:a=b→k (.bool true) s) (h2:a≠b→k (.bool false) s):EPrim (.bin .eql x y) t s k:=
 Zih hx hy fun c hc=>by cases c with|true=>exact h1 (hc.1 rfl)|false=>exact h2 (by simpa using hc)
theorem Zas {q:IntKind}{a b:Int}(hx:ev x t=.some (.int q a)) (hy:ev y t=.some (.int q b)) (h1:a≠b→k (.bool true) s) (h2:a=b→k (.bool false) s):EPrim (.bin .neq x y) t s k:=
 Yec hx hy fun c hc=>by cases c with|true=>exact h1 (hc.1 rfl)|false=>exact h2 (by simpa using hc)
theorem EPrim.add {q:IntKind}{a b:Int}(hx:ev x t=.some (.int q a)) (hy:ev y t=.some (.int q b)) (hk:k (.int q (q.wrap (a+b))) s):EPrim (.bin .add x y) t s k:=
 Zeq hx hy (by show orE (ar _ _ _) _=_;rw [Ydv];rfl) (by rw [Zck,Yd2];exact hk)
theorem EPrim.sub {q:IntKind}{a b:Int}(hx:ev x t=.some (.int q a)) (hy:ev y t=.some (.int q b)) (hk:k (.int q (q.wrap (a-b))) s):EPrim (.bin .sub x y) t s k:=
 Zeq hx hy (Ydv (f:=fun k a b=>Zhw k (subI a b))) (by rw [Zck,Ztu];exact hk)
theorem EPrim.mul {q:IntKind}{a b:Int}(hx:ev x t=.some (.int q a)) (hy:ev y t=.some (.int q b)) (hk:k (.int q (q.wrap (a*b))) s):EPrim (.bin .mul x y) t s k:=
 Zeq hx hy (Ydv (f:=fun k a b=>Zhw k (mulI a b))) (by rw [Zck,Zqm];exact hk)
theorem i64_in {n:Int}(h:-9223372036854775808≤n∧n≤9223372036854775807):IntKind.i64.wrap n=n:=IntWalk.i64_in n h
theorem Zah {a b:Int}(hx:ev x t=.some (.int .i64 a)) (hy:ev y t=.some (.int .i64 b)) (h:-9223372036854775808≤a+b∧a+b≤9223372036854775807) (hk:k (.int .i64 (a+b)) s):EPrim (.bin .add x y) t s k:=
 EPrim.add hx hy (by rw [i64_in h];exact hk)
theorem Zcc {a b:Int}(hx:ev x t=.some (.int .i64 a)) (hy:ev y t=.some (.int .i64 b)) (h:-9223372036854775808≤a-b∧a-b≤9223372036854775807) (hk:k (.int .i64 (a-b)) s):EPrim (.bin .sub x y) t s k:=
 EPrim.sub hx hy (by rw [i64_in h];exact hk)
theorem Za2 {a b:Int}(hx:ev x t=.some (.int .i64 a)) (hy:ev y t=.some (.int .i64 b)) (h:-9223372036854775808≤a*b∧a*b≤9223372036854775807) (hk:k (.int .i64 (a*b)) s):EPrim (.bin .mul x y) t s k:=
 EPrim.mul hx hy (by rw [i64_in h];exact hk)
theorem Yd9 {q:IntKind}{a b:Int}(hx:ev x t=.some (.int q a)) (hy:ev y t=.some (.int q b)) (h:b≠0) (hk:k (.int q (a.tmod b)) s):EPrim (.bin .rem x y) t s k:=by
 refine Zeq hx hy (v:=.int q (a.tmod b)) ?_ hk
 show (Bool.rec .none (Bool.rec (.some (.int q (tmodQ a b))) .none (eqI b 0)) (eqK q q):OV)=_
 rw [Ziu,Zkh,show (b == 0)=false by simpa using h,Zvo]
theorem Zdk {q:IntKind}{a b:Int}(hx:ev x t=.some (.int q a)) (hy:ev y t=.some (.int q b)) (h:0≤a∧0<b) (hk:k (.int q (a % b)) s):EPrim (.bin .rem x y) t s k:=
 Yd9 hx hy (by omega) (by rw [Int.tmod_eq_emod_of_nonneg h.1];exact hk)
theorem Zbp (hx:ev x t=.some (.bool true)) (hk:k (.bool false) s):EPrim (.un .not x) t s k:=by
 refine EPrim.mk (v:=.bool false) (s':=s) (fun e rec=>?_) hk
 show wth x t _=_;unfold wth;rw [hx];rfl
theorem Zeb (hx:ev x t=.some (.bool false)) (hk:k (.bool true) s):EPrim (.un .not x) t s k:=by
 refine EPrim.mk (v:=.bool true) (s':=s) (fun e rec=>?_) hk
 show wth x t _=_;unfold wth;rw [hx];rfl
theorem EPrim.max2 {q:IntKind}{a b:Int}{l:List AO}(hx:evs t l=some [.int q a,.int q b]) (hk:k (.int q (max a b)) s):EPrim (.mn true l) t s k:=by
 refine EPrim.mk (v:=.int q (max a b)) (s':=s) (fun e rec=>?_) hk
 show (Option.rec .fail (fun l=>List.rec .fail (fun x l _=>ret (mm true l x) s) l) (evs t l):RV)=_
 rw [hx]
 show ret (Bool.rec .none (.some (.int q (Bool.rec a b (ltI a b)))) (eqK q q):OV) s=_
 rw [Ziu,Zhl]
 by_cases h:a<b
 ·rw [decide_eq_true h,show max a b=b by omega];rfl
 ·rw [decide_eq_false h,show max a b=a by omega];rfl
theorem EPrim.min2 {q:IntKind}{a b:Int}{l:List AO}(hx:evs t l=some [.int q a,.int q b]) (hk:k (.int q (min a b)) s):EPrim (.mn false l) t s k:=by
 refine EPrim.mk (v:=.int q (min a b)) (s':=s) (fun e rec=>?_) hk
 show (Option.rec .fail (fun l=>List.rec .fail (fun x l _=>ret (mm false l x) s) l) (evs t l):RV)=_
 rw [hx]
 show ret (Bool.rec .none (.some (.int q (Bool.rec a b (ltI b a)))) (eqK q q):OV) s=_
 rw [Ziu,Zhl]
 by_cases h:b<a
 ·rw [decide_eq_true h,show min a b=b by omega];rfl
 ·rw [decide_eq_false h,show min a b=a by omega];rfl
end
end Go.AM
namespace Go.AM
noncomputable def ofL:List (Nat×AV)→AT
 | []=>.lf
 | p::l=>(ofL l).set p.2 p.1
theorem Zh0:∀ {l:List (Nat×AV)}{i:Nat}{v:AV},(ofL l).get i=some v→∃ p ∈ l,p.1=i∧p.2=v
 | [],i,v,h=>by cases h
 | p::l,i,v,h=>by
  rcases Zds h with ⟨rfl,rfl⟩|⟨_,h⟩
  ·exact ⟨p,by simp,rfl,rfl⟩
  ·obtain ⟨q,hq,e⟩:=Zh0 h
   exact ⟨q,by simp [hq],e⟩
def nm (rs:List Nat):Nat→Nat:=fun j=>getD rs j
 where getD:List Nat→Nat→Nat
  | [],_=>0
  | x::_,0=>x
  | _::l,j+1=>getD l j
theorem Znn {rs:List Nat}{j r:Nat}(h:rs[j]?=some r):nm rs j=r:=by
 unfold nm
 induction rs generalizing j with
 | nil=>simp at h
 | cons x l ih=>cases j with
  | zero=>simp at h;exact h
  | succ j=>exact ih (by simpa using h)
@[reducible] def TmpOk (n:Nat) (rs:List Nat) (t:AT):List (Nat×AV)→Prop
 | []=>True
 | p::l=>(bd n p.2=true∧t.get p.1=some (Zed (nm rs) p.2))∧TmpOk n rs t l
@[reducible] def RowOk (n:Nat) (all:List Nat) (s:St):List AObj→List Nat→Prop
 | [],[]=>True
 | o::l,r::rs=>(bdO 0 n o=true∧s.get r=some (Zr9 (nm all) o))∧RowOk n all s l rs
 | _,_=>False
structure Abs (t:AT) (s:St) (tl:List (Nat×AV)) (os:List AObj) (rs:List Nat):Prop where
 nd:rs.Nodup
 tmp:TmpOk os.length rs t tl
 row:RowOk os.length rs s os rs
theorem TmpOk.get {n:Nat}{rs:List Nat}{t:AT}:∀ {l:List (Nat×AV)},TmpOk n rs t l→∀ p ∈ l,bd n p.2=true∧t.get p.1=some (Zed (nm rs) p.2)
 | [],_,p,hp=>by simp at hp
 | q::l,h,p,hp=>by
  rcases List.mem_cons.1 hp with rfl|hp
  ·exact h.1
  ·exact TmpOk.get h.2 p hp
theorem RowOk.get {n:Nat}{all:List Nat}{s:St}:∀ {l:List AObj}{rs:List Nat},RowOk n all s l rs→l.length=rs.length∧∀ (j:Nat) o,l[j]?=some o→∃ r,rs[j]?=some r∧bdO 0 n o=true∧s.get r=some (Zr9 (nm all) o)
 | [],[],_=>⟨rfl,fun j o h=>by simp at h⟩
 | [],_::_,h=>h.elim
 | _::_,[],h=>h.elim
 | o::l,r::rs,h=>by
  obtain ⟨h1,h2⟩:=RowOk.get h.2
  refine ⟨by simp [h1],fun j o' hj=>?_⟩
  cases j with
  | zero=>simp at hj;subst hj;exact ⟨r,by simp,h.1⟩
  | succ j=>simpa using h2 j o' (by simpa using hj)
theorem Zbq (os:List AObj):(Zai St0 os).next=os.length:=by rw [Zez];show 0+_=_;omega
theorem Abs.ren {t:AT}{s:St}{tl:List (Nat×AV)}{os:List AObj}{rs:List Nat}(h:Abs t s tl os rs):Ren 0 (nm rs) t s [] (ofL tl) (Zai St0 os) []:=by
 obtain ⟨hl,hr⟩:=h.row.get
 refine ⟨fun r hr=>by omega,Nat.zero_le _,?_,?_,?_,⟨rfl,by simp⟩⟩
 ·intro i j hi hj e
  rw [Zbq] at hi hj
  have e1:=Znn (List.getElem?_eq_getElem (l:=rs) (i:=i) (by omega))
  have e2:=Znn (List.getElem?_eq_getElem (l:=rs) (i:=j) (by omega))
  rw [e1,e2] at e
  exact (List.getElem_inj h.nd).1 e
 ·intro i v hv
  obtain ⟨p,hp,rfl,rfl⟩:=Zh0 hv
  rw [Zbq]
  exact h.tmp.get p hp
 ·intro r o ho
  have:=Zid os St0 (Nat.zero_le r) (fun _ _=>rfl) ho
  have hz:r-St0.next=r:=Nat.sub_zero r
  rw [hz] at this
  obtain ⟨q,hq,hb,hg⟩:=hr r o this
  rw [Zbq,Znn hq]
  exact ⟨(List.getElem?_eq_some_iff.1 this).1,hb,hg⟩
section
variable {P:Program}{rd:Option Nat}{ac:AC}{t:AT}{s:St}{Q:EQ}
theorem W.abs (tl:List (Nat×AV)) (os:List AObj) (rs:List Nat) (h:Abs t s tl os rs) (hw:W P 0 rd ac (ofL tl) (Zai St0 os) [] Q):W P 0 rd ac t s [] Q:=W.ren h.ren hw
theorem Zhc {α:Type}(tl:α→List (Nat×AV)) (os:α→List AObj) (μ:α→Nat) (I:α→Prop) (x0:α) (rs:List Nat) (h0:I x0) (ha:Abs t s (tl x0) (os x0) rs)
 (hr:∀ x,I x→W P 0 rd ac (ofL (tl x)) (Zai St0 (os x)) [] (Yjc (fun t s ds=>ds=[]∧∃ x',I x'∧μ x'<μ x∧∃ rs,Abs t s (tl x') (os x') rs) Q)):W P 0 rd (.loop ac) t s [] Q:=by
 refine W.loop (fun n t s ds=>ds=[]∧∃ x,n=μ x∧I x∧∃ rs,Abs t s (tl x) (os x) rs) (μ x0) ⟨rfl,x0,rfl,h0,rs,ha⟩ ?_
 rintro n t s ds ⟨rfl,x,rfl,hi,rs,ha⟩
 refine W.ren ha.ren ((hr x hi).mono ?_)
 intro y t s ds hq
 cases y with
 | normal=>
  obtain ⟨rfl,x',hi',hm,rs,ha⟩:=(show ds=[]∧∃ x',I x'∧μ x'<μ x∧∃ rs,Abs t s (tl x') (os x') rs from hq)
  exact ⟨μ x',hm,rfl,x',rfl,hi',rs,ha⟩
 | exit id=>exact hq
 | ret=>exact hq
end
end Go.AM
namespace Go.AM
open Go.ChangeMaps (setBlock)
section
variable {P:Program}{γ:Gam}{s:St}{w:World}{t:AT}{ρ:Operand→Value}
theorem Znp {cs:List AOper}:∀ {its:List It}{al:List AOper},Zla cs its=some al→∀ a ∈ al,∃ x,Zl0 cs x=some a
 | [],al,h,a,ha=>by cases h;cases ha
 | x::its,al,h,a,ha=>by
  simp only [Zla] at h
  split at h
  ·rename_i b r h1 h2
   cases h
   rcases List.mem_cons.1 ha with rfl|ha
   ·exact ⟨x,h1⟩
   ·exact Znp h2 a ha
  ·cases h
theorem Ycw {N:Nat}{ops:Array Oper}{al:List AOper}(h:Zdu P N ops=some al):∀ a ∈ al,isNx (Zx4 a)=false:=by
 unfold Zdu at h
 split at h
 ·cases h
 ·rename_i cs hcs
  simp only at h
  split at h
  ·rename_i hok
   simp only [Ycx,Bool.and_eq_true] at hok
   have hall:=hok.2
   intro a ha
   obtain ⟨x,hx⟩:=Znp h a ha
   cases x with
   | op i=>
    have:=List.all_eq_true.1 hall a (List.mem_of_getElem? hx)
    simpa using this
   | chk i=>
    simp only [Zl0] at hx
    split at hx
    ·rename_i d p g hc
     split at hx
     ·cases hx
      have:=List.all_eq_true.1 hall _ (List.mem_of_getElem? hc)
      simpa [Zx4] using this
     ·cases hx
    ·cases hx
  ·cases h
def NxOut (ri m since:Nat) (seen:List Nat) (es:List (AV×AV×Nat)) (cl:Nat) (s:St) (v:AV) (s':St):Prop:=
 ((∀ e ∈ es,e.2.2 ∈ seen)∧v=.tup [.bool false]∧s'=s)∨
 ∃ e ∈ es,e.2.2 ∉ seen∧v=.tup [.bool true,e.1,e.2.1]∧s'=s.put ri (.iter m since (seen++[e.2.2]) cl)
theorem Zkz {α β:Type}{R:α→β→Prop}:∀ {l:List α}{m:List β},All2 R l m→∀ x ∈ l,∃ y ∈ m,R x y
 | _,_,.nil,x,hx=>by cases hx
 | _,_,.cons h1 h2,x,hx=>by
  rcases List.mem_cons.1 hx with rfl|hx
  ·exact ⟨_,by simp,h1⟩
  ·obtain ⟨y,hy,hR⟩:=Zkz h2 x hx;exact ⟨y,by simp [hy],hR⟩
theorem Zgh {α β:Type}{R:α→β→Prop}:∀ {l:List α}{m:List β},All2 R l m→∀ y ∈ m,∃ x ∈ l,R x y
 | _,_,.nil,x,hx=>by cases hx
 | _,_,.cons h1 h2,x,hx=>by
  rcases List.mem_cons.1 hx with rfl|hx
  ·exact ⟨_,by simp,h1⟩
  ·obtain ⟨y,hy,hR⟩:=Zgh h2 x hx;exact ⟨y,by simp [hy],hR⟩
theorem next_ok (hs:Sim P γ s w) {o:Oper}{x:Operand}{a:AO}{ri m since last cl:Nat}{seen:List Nat}{es:List (AV×AV×Nat)}(ho:o.op=.next x false) (hx:aop x=some a) (he:Evs γ t ρ [x])
 (hv:ev a t=.some (.ptr ri 0)) (hi:s.get ri=some (.iter m since seen last)) (hm:s.get m=some (.map es cl)) (hold:∀ e ∈ es,e.2.2<since) (hsl:since≤last):
 ∃ v s',NxOut ri m since seen es cl s v s'∧OpOk P γ s w ρ o v s':=by
 have h1:=he x (by simp) a _ hx hv
 obtain ⟨I,hI,hxv⟩:∃ I,γ ri=some I∧ρ x=.pointer (some ⟨I.b,I.o+0,none⟩):=by
  generalize ρ x=vx at h1
  cases h1 with
  | ptr _ _ I hI=>exact ⟨I,hI,rfl⟩
 obtain ⟨hIo,M,hM,hitr⟩:=hs.obj ri _ I hi hI
 obtain ⟨ms,hms,hR⟩:=hs.obj m _ M hm hM
 rw [hIo] at hxv
 have hold':∀ y ∈ ms.toList,y.born<since:=fun y hy=>by
  obtain ⟨e,he,hE⟩:=Zgh hR y hy
  rw [hE.2.2];exact hold e he
 have hrunE:∀ (v':Value) (w':World),(∀ ty,(Instr.next (.pointer (some ⟨I.b,0,none⟩)) false ty).run P w=.ok v' w')→(execOp ρ o).run P w=.ok (.value v') w':=by
  intro v' w' h
  simp only [execOp,ho,hxv,Sem.run_bind,h,Result.andThen_ok,Sem.run_pure]
 have hlt:=hs.lt ri I hI
 rcases run_next_at (P:=P) w o.type I.b M.b since last seen.toArray ms cl hitr hms hold' hsl with ⟨h0,hr⟩|⟨e,he,w1,hw1,hr⟩
 ·refine ⟨_,_,.inl ⟨?_,rfl,rfl⟩,γ,w,.refl _ _ _,hs,.inl ⟨_,?_,.tup _ _ (.cons (.bool _) .nil)⟩⟩
  ·intro e he
   obtain ⟨y,hy,hE⟩:=Zkz hR e he
   refine Classical.byContradiction fun hns=>?_
   have:y ∈ (leftOf ms seen.toArray):=by
    unfold leftOf
    rw [Array.mem_filter]
    refine ⟨by simpa using hy,?_⟩
    rw [hE.2.2];simpa using hns
   have hz:leftOf ms seen.toArray=#[]:=Array.eq_empty_of_size_eq_zero h0
   rw [hz] at this
   simp at this
  ·simp only [execOp,ho,hxv,Sem.run_bind]
   rw [hr];rfl
 ·have hem:e ∈ ms.toList∧e.born ∉ seen:=by
   have he':e ∈ leftOf ms seen.toArray:=by simpa using he
   unfold leftOf at he'
   rw [Array.mem_filter] at he'
   exact ⟨by simpa using he'.1,by simpa using he'.2⟩
  obtain ⟨e0,he0,hE⟩:=Zgh hR e hem.1
  have hb:=hE.2.2
  have key:∀ w1:World,w1.heap=w.heap→Sim P γ s w1→Stp γ s w1 γ (s.put ri (.iter m since (seen++[e0.2.2]) cl)) (setBlock w1 I.b (.mapIter (some M.b) since (seen.toArray.push e.born) cl))∧Sim P γ (s.put ri (.iter m since (seen++[e0.2.2]) cl)) (setBlock w1 I.b (.mapIter (some M.b) since (seen.toArray.push e.born) cl)):=by
   intro w1 hh hs1
   refine Zk0 (O:=.mapIter (some M.b) since (seen.toArray.push e.born) cl) hs1 hi hI rfl ⟨hIo,M,hM,?_⟩
   rw [Array.getElem?_setIfInBounds,if_pos rfl,if_pos (by rw [hh];exact hlt),hb]
   simp
  refine ⟨_,_,.inr ⟨e0,he0,by rw [← hb];exact hem.2,rfl,rfl⟩,γ,setBlock w1 I.b (.mapIter (some M.b) since (seen.toArray.push e.born) cl),?_,?_,.inl ⟨_,?_,.tup _ _ (.cons (.bool _) (.cons hE.1 (.cons hE.2.1 .nil)))⟩⟩
  ·rcases hw1 with rfl|rfl
   ·exact (key _ rfl hs).1
   ·exact Stp.drew.trans (key w.drew rfl hs.drew).1
  ·rcases hw1 with rfl|rfl
   ·exact (key _ rfl hs).2
   ·exact (key w.drew rfl hs.drew).2
  ·simp only [execOp,ho,hxv,Sem.run_bind]
   rw [hr];rfl
end
section
variable {P:Program}{e:Env}{k:Nat}{rd:Option Nat}{t:AT}{s:St}{ds:List Nat}{Q:EQ}
theorem Zun {rec:Rec}{n:Nat}(hG:Zq9 P n rec) (hE:EnvOk P e) {N m:Nat}{b:Option Nat}{ops:Array Oper}{γ0:Gam}{s0:St}{w0:World}{t':AT}{s':St}{ds:List Nat}{R:Exit→Act→World→Prop}
 (hR:∀ ex a w,Zmd P γ0 s0 w0 N .normal t' s' ds ex a w→R ex a w):∀ (l:List Oper) (al:List AOper) (γ:Gam) (t:AT) (s:St) (w:World) (a:Act),
 Zce P N ops l=some al→N≤a.tmps.size→TR γ t a.tmps→Sim P γ s w→DR γ ds a.defers→Stp γ0 s0 w0 γ s w→Zdz e rec al t s=.ok t' s'→
 wpListIn (fen b) m P ops R l a w:=by
 intro l
 induction l with
 | nil=>
  intro al γ t s w a hc hN ht hs hd hst h
  cases hc;cases h
  exact hR _ _ _ ⟨rfl,hN,γ,hst,hs,ht,hd⟩
 | cons o l ih=>
  intro al γ t s w a hc hN ht hs hd hst h
  simp only [Zce] at hc
  split at hc
  ·rename_i d p g r h1 h2 h3 h4
   cases hc
   obtain ⟨hw2,hw1⟩:=Zhx ht h3
   simp only [wpListIn]
   rcases Znl h with ⟨hw,h⟩|⟨hw,v,s1,hop,h⟩
   ·rw [if_neg (by rw [hw1 hw];simp)]
    refine ⟨fun f _=>Zkg b f,?_⟩
    exact ih r γ _ s w _ h4 (by rw [Zf8];exact hN) (ht.put hN h1 (.inl Zp3)) hs (by rw [Zd5];exact hd) hst h
   ·rw [if_pos (hw2 hw)]
    refine Zgn hG hE h2 (Zie ht _) hs hop ?_
    intro γ' w' v' hst' hs' hv
    exact ih r γ' _ s1 w' _ h4 (by rw [Zf8];exact hN) ((ht.mono hst'.le).put hN h1 hv) hs' (by rw [Zd5];exact hd.mono hst'.le) (hst.trans hst') h
  ·cases hc
theorem W.next {d ri m since last cl:Nat}{seen:List Nat}{es:List (AV×AV×Nat)}{x:AO}{l:List AOper}(hE:EnvOk P e) (hmix:P.follows .mixedOrders=true)
 (hv:ev x t=.some (.ptr ri 0)) (hi:s.get ri=some (.iter m since seen last)) (hm:s.get m=some (.map es cl)) (hold:∀ e ∈ es,e.2.2<since) (hsl:since≤last)
 (h:∀ v s',NxOut ri m since seen es cl s v s'→Yep e l (Zim d v t) s' fun t' s'=>Q .normal t' s' ds):W P k rd (.reg (.mk d (.nextm x) none::l)) t s ds Q:=by
 intro N c γ w a b γ0 s0 w0 mm h1 h2 h3 h4 h5 h6 h7 h8 h9 h10
 have hcode:∃ id ops,c=.region id ops false∧Zce P N ops ops.toList=some (.mk d (.nextm x) none::l):=by
  cases c with
  | region id ops dr=>
   cases dr with
   | false=>
    obtain ⟨al,hal,e1⟩:=map_some (show (Zce P N ops ops.toList).map AC.reg=some _ from h1)
    cases e1
    exact ⟨id,ops,rfl,hal⟩
   | true=>
    exfalso
    have h':some (((Zdu P N ops).map AC.reg).getD badC)=some (AC.reg (.mk d (.nextm x) none::l)):=h1
    cases hal:Zdu P N ops with
    | none=>rw [hal] at h';cases h'
    | some al=>
     rw [hal] at h';cases h'
     have:=Ycw hal _ (List.mem_cons_self ..)
     cases this
  | seq c1 c2=>simp only [Zcs] at h1;split at h1 <;> cases h1
  | cond y c1 c2=>simp only [Zcs] at h1;split at h1 <;> cases h1
  | block id c1=>obtain ⟨_,_,e1⟩:=map_some (show (Zcs P N c1).map (AC.block id)=some _ from h1);cases e1
  | scope c1=>obtain ⟨_,_,e1⟩:=map_some (show (Zcs P N c1).map AC.scope=some _ from h1);cases e1
  | loop c1=>obtain ⟨_,_,e1⟩:=map_some (show (Zcs P N c1).map AC.loop=some _ from h1);cases e1
  | rangeFunc f ps asg body=>
   simp only [Zcs] at h1
   split at h1
   ·split at h1 <;> cases h1
   ·cases h1
  | _=>cases h1
 obtain ⟨id,ops,rfl,hal⟩:=hcode
 refine wpIn_region_list ?_
 cases hl:ops.toList with
 | nil=>rw [hl] at hal;cases hal
 | cons o ol=>
  rw [hl] at hal
  simp only [Zce] at hal
  split at hal
  ·rename_i d' p' g' r' e1 e2 e3 e4
   cases hal
   obtain ⟨hw2,_⟩:=Zhx h3 e3
   simp only [wpListIn]
   rw [if_pos (hw2 rfl)]
   have hop:∃ y,o.op=.next y false∧aop y=some x:=by
    rcases Zh7 e2 with hc|hc
    ·cases hq:o.op with
     | next y str=>
      cases str with
      | true=>simp only [Zaq,hq] at hc;cases hc
      | false=>
       simp only [Zaq,hq] at hc
       obtain ⟨z,hz,e⟩:=map_some hc
       cases e
       exact ⟨y,rfl,hz⟩
     | call c=>
      exfalso
      obtain ⟨cal,args,ts⟩:=c
      simp only [Zaq,hq] at hc
      cases cal with
      | builtin bi=>
       simp only at hc
       unfold Zfy at hc
       repeat' split at hc
       all_goals first
        | (cases hc;done)
        | (obtain ⟨_,_,hh⟩:=map_some hc;cases hh;done)
      | value f=>
       repeat' split at hc
       all_goals first
        | (cases hc;done)
        | (obtain ⟨_,_,hh⟩:=map_some hc;cases hh;done)
        | (rename_i hqq;cases hqq;done)
      | invoke r mth=>
       simp only at hc
       split at hc <;> cases hc
     | makeFunc f as bs=>
      exfalso
      cases f with
      | func f=>
       simp only [Zaq,hq] at hc
       split at hc <;> cases hc
      | _=>simp only [Zaq,hq] at hc;cases hc
     | makeMap ty r=>
      exfalso
      cases r with
      | none=>simp only [Zaq,hq] at hc;cases hc
      | some r=>simp only [Zaq,hq] at hc;cases hc
     | typeAssert x' xt ty ok=>
      exfalso
      cases ok with
      | false=>simp only [Zaq,hq] at hc;cases hc
      | true=>
       simp only [Zaq,hq] at hc
       repeat' split at hc
       all_goals (cases hc;done)
     | _=>
      exfalso
      simp only [Zaq,hq] at hc
      repeat' split at hc
      all_goals first
       | (cases hc;done)
       | (obtain ⟨_,_,hh⟩:=map_some hc;cases hh;done)
    ·cases hc
   obtain ⟨y,hop,hy⟩:=hop
   have hops:o.op.operands.toList=[y]:=by rw [hop];rfl
   obtain ⟨v,s',hN,hok⟩:=next_ok (ρ:=a.eval) h4 hop hy (Zie h3 [y]) hv hi hm hold hsl
   refine Zip (fun c hc=>by rw [hop] at hc;cases hc) hok ?_
   intro γ' w' v' hst' hs' hvv
   obtain ⟨n,t',s'',hrun,hq⟩:=Zle (h v s' hN)
   exact Zun (n:=n) (Zn5 hE hmix n) hE (fun ex a w hp=>⟨_,_,_,_,hq,hp⟩) ol l γ' _ s' w' _ e4 (by rw [Zf8];exact h2) ((h3.mono hst'.le).put h2 e1 hvv) hs' (by rw [Zd5];exact h6.mono hst'.le) (h7.trans hst') hrun
  ·cases hal
end
end Go.AM
namespace Go.AM
def WC (P:Program) (k:Nat) (rd:Option Nat) (N:Nat) (c:Code) (t:AT) (s:St) (ds:List Nat) (Q:Ex→AT→St→List Nat→Prop):Prop:=
 ∀ (γ:Gam) (w:World) (a:Act) (b:Option Nat) (γ0:Gam) (s0:St) (w0:World) (m:Nat),
  N≤a.tmps.size→TR γ t a.tmps→Sim P γ s w→RD γ0 rd b→DR γ ds a.defers→Stp γ0 s0 w0 γ s w→s0.next=k→(∀ r,k≤r→γ0 r=none)→(∀ r,r<k→∃ L,γ0 r=some L)→
  c.wpIn (fen b) m P (fun ex a' w'=>∃ x t' s' ds',Q x t' s' ds'∧Zmd P γ0 s0 w0 N x t' s' ds' ex a' w') a w
section
variable {P:Program}{e:Env}{k N:Nat}{rd:Option Nat}{t:AT}{s:St}{ds:List Nat}{Q:EQ}
theorem Yjb {ac:AC}{c:Code}(hc:Zcs P N c=some ac) (h:W P k rd ac t s ds Q):WC P k rd N c t s ds Q:=
 fun γ w a b γ0 s0 w0 m h2 h3 h4 h5 h6 h7 h8 h9 h10=>h N c γ w a b γ0 s0 w0 m hc h2 h3 h4 h5 h6 h7 h8 h9 h10
theorem WC.seq {c1 c2:Code}(h:WC P k rd N c1 t s ds (Yjc (fun t s ds=>WC P k rd N c2 t s ds Q) Q)):WC P k rd N (.seq c1 c2) t s ds Q:=by
 intro γ w a b γ0 s0 w0 m h2 h3 h4 h5 h6 h7 h8 h9 h10
 refine wpIn_seq (wpIn_mono (h γ w a b γ0 s0 w0 m h2 h3 h4 h5 h6 h7 h8 h9 h10) (Zju ?_))
 intro t1 s1 ds1 γ1 a1 w1 hk q1 q2 q3 q4 q5
 exact hk γ1 w1 a1 b γ0 s0 w0 m q1 q2 q3 h5 q4 q5 h8 h9 h10
theorem WC.any {id:Nat}{ops:Array Oper}(hE:EnvOk P e) (hmix:P.follows .mixedOrders=true) (hback:Zia ops.toList 0=true) (J:(Nat→Prop)→AT→St→Prop) (h0:J (fun _=>False) t s)
 (hstep:∀ (D:Nat→Prop) (t:AT) (s:St) (i:Nat) (o:Oper),J D t s→ops[i]?=some o→¬ D i→(∀ e ∈ o.after.toList,Region.binds .any e=true→D e.on)→
   ∃ d p,Zc9 N o.dst=some d∧Zh8 P o=some p∧o.guard=none∧EOp e p t s fun v s'=>J (fun j=>D j∨j=i) (Zim d v t) s')
 (hend:∀ (D:Nat→Prop) (t:AT) (s:St),J D t s→(∀ i,i<ops.size→D i)→Q .normal t s ds):WC P k rd N (.region id ops true) t s ds Q:=by
 intro γ w a b γ0 s0 w0 m h2 h3 h4 h5 h6 h7 h8 h9 h10
 refine wpIn_region_any hmix ?_
 have key:∀ (fuel:Nat) (listed:Array Bool) (t:AT) (s:St) (γ:Gam) (a:Act) (w:World),listed.size=ops.size→listed.toList.count false≤fuel→J (Dn listed) t s→N≤a.tmps.size→TR γ t a.tmps→Sim P γ s w→DR γ ds a.defers→Stp γ0 s0 w0 γ s w→
  wpAnyIn (fen b) m P .any ops (fun ex a' w'=>∃ x t' s' ds',Q x t' s' ds'∧Zmd P γ0 s0 w0 N x t' s' ds' ex a' w') fuel listed a w:=by
  intro fuel
  induction fuel with
  | zero=>
   intro listed t s γ a w hsz hcnt hJ q1 q2 q3 q4 q5
   have hall:∀ i,i<ops.size→Dn listed i:=by
    intro i hi
    unfold Dn
    cases hd:listed.getD i false with
    | true=>rfl
    | false=>
     exfalso
     have h0:listed.toList.count false=0:=by omega
     rw [List.count_eq_zero] at h0
     apply h0
     have:listed[i]?=some (listed[i]'(by omega)):=by simp [hsz,hi]
     rw [Array.getD_eq_getD_getElem?,this] at hd
     simp at hd
     rw [← hd];simp
   refine ⟨?_,_,_,_,_,hend _ t s hJ hall,rfl,q1,γ,q5,q3,q2,q4⟩
   cases hrd:Region.ready .any ops listed with
   | nil=>rfl
   | cons i l=>
    obtain ⟨o,ho,hi,_⟩:=Zj7 (show i ∈ Region.ready .any ops listed by rw [hrd];simp)
    have hil:i<ops.size:=(Array.getElem?_eq_some_iff.1 ho).1
    have h1:=hall i hil
    unfold Dn at h1
    have:listed[i]?=some (listed[i]'(by omega)):=by simp [hsz,hil]
    rw [Array.getD_eq_getD_getElem?,this] at h1 hi
    simp at h1 hi
    rw [h1] at hi;cases hi
  | succ fuel ih=>
   intro listed t s γ a w hsz hcnt hJ q1 q2 q3 q4 q5
   refine ⟨fun hrd=>⟨_,_,_,_,hend _ t s hJ (Zpv hback hsz hrd),rfl,q1,γ,q5,q3,q2,q4⟩,fun i hi=>?_⟩
   obtain ⟨o,ho,hd,hpre⟩:=Zj7 hi
   have hil:i<ops.size:=(Array.getElem?_eq_some_iff.1 ho).1
   have hget:listed[i]?=some (listed[i]'(by omega)):=by simp [hsz,hil]
   have hfalse:listed[i]'(by omega)=false:=by
    rw [Array.getD_eq_getD_getElem?,hget] at hd;simpa using hd
   have hni:¬ Dn listed i:=by unfold Dn;rw [Array.getD_eq_getD_getElem?,hget];simp [hfalse]
   obtain ⟨d,p,hcd,hcp,hg,hop⟩:=hstep (Dn listed) t s i o hJ ho hni hpre
   obtain ⟨n,v,s',hrun,hJ'⟩:=Zn8 hop
   unfold wpOpIn
   simp only [ho]
   rw [if_pos (by unfold Region.wanted;rw [hg])]
   refine Zgn (Zn5 hE hmix n) hE hcp (Zie q2 _) q3 hrun ?_
   intro γ' w' v' hst' hs' hv
   have hJ2:J (Dn (listed.setIfInBounds i true)) (Zim d v t) s':=by rw [Yje (by omega)];exact hJ'
   refine ih _ _ s' γ' _ w' (by simp [hsz]) ?_ hJ2 (by rw [Zf8];exact q1) ((q2.mono hst'.le).put q1 hcd hv) hs' (by rw [Zd5];exact q4.mono hst'.le) (q5.trans hst')
   rw [Array.toList_setIfInBounds,List.count_set (by simpa [hsz] using hil)]
   simp [hfalse]
   have hpos:0<listed.toList.count false:=List.count_pos_iff.2 (by rw [← hfalse];simp)
   simp at hpos hcnt
   omega
 have hno:Dn (Array.replicate ops.size false)=fun _=>False:=by
  funext i
  unfold Dn
  rw [Array.getD_eq_getD_getElem?,Array.getElem?_replicate]
  split <;> simp
 exact key ops.size _ t s γ a _ (by simp) (by simp) (by rw [hno];exact h0) h2 h3 h4.drew h6 (h7.trans Stp.drew)
theorem C.of_WC {f:Nat}{fn:Func}{b:Code}{res:List ARes}{args:List AV}{Q:AV→St→Prop}(hf:P.funcs[f]?=some fn) (hb:fn.body=some b) (hrs:Zh6 P fn.results.toList=some res)
 (h:WC P 0 none fn.ntmps b (Zax args 0 .lf) St0 [] (Zhv res Q)):C P f args St0 Q:=by
 intro γ vals w m hA hs
 refine callsIn_of_wp_marks hf hb trivial ?_
 have hTR:TR γ (Zax args 0 .lf) (vals.toArray++Array.replicate (fn.ntmps-vals.toArray.size) undef):=by
  refine Zmm args vals _ 0 .lf hA (Yhx _) ?_
  intro j u hj
  rw [Nat.zero_add,Array.getElem?_append]
  have hlt:=(List.getElem?_eq_some_iff.1 hj).1
  rw [if_pos (by simpa using hlt)]
  simpa using hj
 have hsz:fn.ntmps≤(vals.toArray++Array.replicate (fn.ntmps-vals.toArray.size) undef).size:=by simp;omega
 have hw:=h γ w { tmps:=vals.toArray++Array.replicate (fn.ntmps-vals.toArray.size) undef,defers:=[] } none γ St0 w m hsz hTR hs rfl .nil (.refl _ _ _) rfl hs.nx (fun r hr=>absurd hr (Nat.not_lt_zero r))
 refine wpIn_mono hw ?_
 rintro ex a' w' ⟨x,t',s',ds',⟨hx,s2,l,hq,hl,hQ⟩,rfl,_,γ',hst,hsim,ht,hd⟩
 have fin:LeavesInM Fence.wide m P fn a'.tmps (fun e w'=>∃ v s',Q v s'∧Zch P γ St0 w v s' e w') a'.defers .returning w':=by
  exact Zga (s2:=s2) hrs (fun e w' hp=>⟨_,_,hQ,hp⟩) m ds' a'.defers s' w' hd hq hsim hst ht hl
 rcases hx with rfl|rfl
 ·exact fin
 ·exact fin
end
end Go.AM
