/- A part. -/
import Derived.Test.YtnphfnhhpcelbaaGreatYe
import Derived.IntWalk
noncomputable section
namespace Go.DD
theorem Imp.weak{s s':DS}(oC:∀ t,s'.sv t=s.sv t\/s'.sv t=.any)(iZ:∀ id,s'.ho id=s.ho id\/s'.ho id=none)(Um:s.nx<=s'.nx):Imp s s':=by
 intro C a w ⟨hR,β,hs⟩
 refine ⟨λid h=>Bp (hR id h) Um,β,?_⟩
 have h:=hs.hh.less (U':=Us C s'.nx) (β':=β) (V':=s'.vw C) (λid h=>⟨Bp h.1 Um,h.2⟩) (λ_=>.inl rfl) (λid=>by
  unfold DS.vw Lm
  rcases iZ id with e | e
  .rw [e];exact .inl rfl
  .rw [e]
   cases hq:s.ho id with
   | none=>exact .inl rfl
   | some o=>
    refine .inr ?_
    cases hy:C.Y id with
    | none=>rfl
    | some o'=>rw [hs.yd id o' hy] at hq;cases hq)
 refine ⟨h.1,h.2.2.mark hs.df,hs.sz,λt=>?_,λx d hx=>h.2.1 _ _ (hs.gh x d hx),λid o hy=>?_⟩
 .rcases oC t with e | e
  .rw [e];exact h.2.1 _ _ (hs.sl t)
  .rw [e];exact WV.any
 .rcases iZ id with e | e
  .rw [e];exact hs.yd id o hy
  .exact e
def Qz(a b:Option DObj):Option DObj:=match a,b with
 | some x,some y=>if iM x y then some x else none
 | _,_=>none
def Ra(a b:Option DV):Option DV:=match a,b with
 | some x,some y=>if Oz 6 x y then some x else none
 | _,_=>none
def Nf{α:Type}(f:Option α->Option α->Option α):Tr α->Tr α->Tr α
 | .n l v r,.n l' v' r'=>.n (Nf f l l') (f v v') (Nf f r r')
 | _,_=>.e
theorem Y3{α:Type}{f:Option α->Option α->Option α}(hf:f none none=none):∀ (a b:Tr α) (k:Nat),(Nf f a b).get k=f (a.get k) (b.get k)\/(Nf f a b).get k=none
 | .n l v r,.n l' v' r',0=>.inl rfl
 | .n l v r,.n l' v' r',k+1=>by
  simp only [Nf,Tr.get]
  split
  .exact Y3 hf l l' _
  .exact Y3 hf r r' _
 | .e,_,_=>.inr rfl
 | .n _ _ _,.e,_=>.inr rfl
theorem Bj8(a b:Option DObj):(Qz a b=a/\Qz a b=b)\/Qz a b=none:=by
 unfold Qz
 split
 .split
  .rename_i h;rw [Bj4 h];exact .inl ⟨rfl,rfl⟩
  .exact .inr rfl
 .exact .inr rfl
theorem Bj9(a b:Option DV):(Ra a b=a/\Ra a b=b)\/Ra a b=none:=by
 unfold Ra
 split
 .split
  .rename_i h;rw [R8 _ _ _ h];exact .inl ⟨rfl,rfl⟩
  .exact .inr rfl
 .exact .inr rfl
def dN(a b:ES):ES:=⟨Nf Ra a.sl b.sl,Nf Qz a.hp b.hp,max a.nx b.nx⟩
structure Less (s s':DS):Prop where
 sv:∀ t,s'.sv t=s.sv t\/s'.sv t=.any
 ho:∀ id,s'.ho id=s.ho id\/s'.ho id=none
 nx:s.nx<=s'.nx
theorem Less.refl(s:DS):Less s s:=⟨λ_=>.inl rfl,λ_=>.inl rfl,Ai _⟩
theorem Less.trans{a b c:DS}(h:Less a b)(h':Less b c):Less a c:=by
 refine ⟨λt=>?_,λid=>?_,Ep h.nx h'.nx⟩
 .rcases h'.sv t with e | e
  .rw [e];exact h.sv t
  .exact .inr e
 .rcases h'.ho id with e | e
  .rw [e];exact h.ho id
  .exact .inr e
theorem Cn2(a b:ES):Less a.ds (dN a b).ds:=by
 refine ⟨λt=>?_,λid=>?_,Nat.le_max_left _ _⟩
 .show ((Nf Ra a.sl b.sl).get t).getD .any=(a.sl.get t).getD .any\/((Nf Ra a.sl b.sl).get t).getD .any=.any
  rcases Y3 (f:=Ra) rfl a.sl b.sl t with h | h
  .rcases Bj9 (a.sl.get t) (b.sl.get t) with h2 | h2
   .rw [h,h2.1];exact .inl rfl
   .rw [h,h2];exact .inr rfl
  .rw [h];exact .inr rfl
 .show (Nf Qz a.hp b.hp).get id=a.hp.get id\/_
  rcases Y3 (f:=Qz) rfl a.hp b.hp id with h | h
  .rcases Bj8 (a.hp.get id) (b.hp.get id) with h2 | h2
   .rw [h];exact .inl h2.1
   .exact .inr (by show (Nf Qz a.hp b.hp).get id=none;rw [h,h2])
  .exact .inr h
theorem Cn3(a b:ES):Less b.ds (dN a b).ds:=by
 refine ⟨λt=>?_,λid=>?_,Nat.le_max_right _ _⟩
 .show ((Nf Ra a.sl b.sl).get t).getD .any=(b.sl.get t).getD .any\/((Nf Ra a.sl b.sl).get t).getD .any=.any
  rcases Y3 (f:=Ra) rfl a.sl b.sl t with h | h
  .rcases Bj9 (a.sl.get t) (b.sl.get t) with h2 | h2
   .rw [h,h2.2];exact .inl rfl
   .rw [h,h2];exact .inr rfl
  .rw [h];exact .inr rfl
 .show (Nf Qz a.hp b.hp).get id=b.hp.get id\/_
  rcases Y3 (f:=Qz) rfl a.hp b.hp id with h | h
  .rcases Bj8 (a.hp.get id) (b.hp.get id) with h2 | h2
   .rw [h];exact .inl h2.2
   .exact .inr (by show (Nf Qz a.hp b.hp).get id=none;rw [h,h2])
  .exact .inr h
def Sm{α β:Type}(f:α->Option (List β)):List α->Option (List β)
 | []=>some []
 | a::r=>match f a with
  | some b=>match Sm f r with
   | some c=>some (b++c)
   | none=>none
  | none=>none
theorem TK{α β:Type}{f:α->Option (List β)} : ∀ {l:List α} {m:List β},Sm f l=some m->∀ a∈l,∃ b,f a=some b/\∀ x∈b,x∈m
 | [],_,_,a,ha=>by cases ha
 | a::r,m,h,a',ha=>by
  unfold Sm at h
  split at h
  rotate_left
  .cases h
  rename_i b hb
  split at h
  rotate_left
  .cases h
  rename_i c hc
  cases h
  rcases Aq.1 ha with rfl | ha
  .exact ⟨b,hb,λx hx=>Aw.2 (.inl hx)⟩
  .obtain ⟨b',h1,h2⟩:=TK hc a' ha
   exact ⟨b',h1,λx hx=>Aw.2 (.inr (h2 x hx))⟩
def runN:List DR->Bg->ES->Option (List ES)
 | [],_,es=>some [es]
 | r::rest,call,es=>match r.op,r.g with
  | .nxm k x,none=>match Wp es.ds k x with
   | some l=>Sm (λp=>runN rest call ((ES.mk es.sl (Mc es.hp es.nx p.2) es.nx).putE (Fc r.dst) p.1)) l
   | none=>none
  | _,_=>match Xp r call es with
   | some es'=>runN rest call es'
   | none=>none
def Xv(f:ES->Option (List (Exit×ES))):Nat->ES->Option (List (Exit×ES))
 | 0,_=>none
 | n+1,es=>match f es with
  | some l=>Sm (λp=>match p.1 with
   | .normal=>Xv f n p.2
   | e=>some [(e,p.2)]) l
  | none=>none
def Nm(n nt:Nat):DC->Bg->ES->Option (List (Exit×ES))
 | .skip,_,es=>some [(.normal,es)]
 | .ret,_,es=>some [(.ret,es)]
 | .exit id,_,es=>some [(.exit id,es)]
 | .seq a b,call,es=>match Nm n nt a call es with
  | some l=>Sm (λp=>match p.1 with
   | .normal=>Nm n nt b call p.2
   | e=>some [(e,p.2)]) l
  | none=>none
 | .cond x a b,call,es=>match Ae es (.of x) with
  | .v (.bool t)=>if t then Nm n nt a call es else Nm n nt b call es
  | _=>none
 | .blk id c,call,es=>match Nm n nt c call es with
  | some l=>some (l.map λp=>match p.1 with
   | .exit i=>if i=id then (.normal,p.2) else (.exit i,p.2)
   | e=>(e,p.2))
  | none=>none
 | .loop c,call,es=>Xv (Nm n nt c call) n es
 | .reg false ops _,call,es=>match runN ops call es with
  | some l=>some (l.map λe=>(.normal,e))
  | none=>none
 | d,call,es=>match Dt n nt false d call es with
  | some p=>some [p]
  | none=>none
def EvL(P:Program)(nt:Nat)(c:DC)(es:ES)(l:List (Exit×ES)):Prop:=
 (∀ p∈l,Gw es.ds p.2.ds)/\∀ (C:Ctx) (Q:Exit->DS->Prop),C.P=P->C.nt=nt->C.rd=none->(∀ p∈l,Q p.1 p.2.ds)->DW C c Q es.ds
theorem TY{P:Program}{call:Bg}(hc:Vs P call):∀ (ops:List DR) (es:ES) (l:List ES),runN ops call es=some l->es.ds.Fr->(∀ e∈l,Gw es.ds e.ds)/\∀ K:DS->Prop,(∀ e∈l,K e.ds)->Zn P ops es.ds K
 | [],es,l,h,_=>by
  have h3:some [es]=some l:=h
  cases h3
  exact ⟨λe he=>by rw [Am] at he;subst he;exact Gw.refl _,λK hK=>hK es (by simp)⟩
 | r::rest,es,l,h,Ct=>by
  unfold runN at h
  split at h
  .rename_i k x ho hg
   split at h
   rotate_left
   .cases h
   rename_i lo Gg
   have Pc:∀ p∈lo,((ES.mk es.sl (Mc es.hp es.nx p.2) es.nx).putE (Fc r.dst) p.1).ds=(es.ds.upd es.ds.nx p.2).put r.dst p.1:=λp _=>by
    have e:(ES.mk es.sl (Mc es.hp es.nx p.2) es.nx).ds=es.ds.upd es.ds.nx p.2:=by
     simp only [ES.ds,W9];rfl
    rw [dA,e]
   have oX:∀ p∈lo,Gw es.ds ((ES.mk es.sl (Mc es.hp es.nx p.2) es.nx).putE (Fc r.dst) p.1).ds:=λp hp=>by
    rw [Pc p hp]
    exact (ue (NO Gg p hp).1 (NO Gg p hp).2 _).trans (Gw.put _ _ _)
   refine ⟨λe he=>?_,λK hK=>?_⟩
   .have key:∀ {GB:List (DV×Upd)} {l':List ES},(∀ p∈GB,p∈lo)->Sm (λp=>runN rest call ((ES.mk es.sl (Mc es.hp es.nx p.2) es.nx).putE (Fc r.dst) p.1)) GB=some l'->∀ e∈l',Gw es.ds e.ds:=by
     intro GB
     induction GB with
     | nil=>intro l' _ h e he;cases h;cases he
     | cons p GB ih=>
      intro l' Ow h e he
      unfold Sm at h
      split at h
      rotate_left
      .cases h
      rename_i b hb
      split at h
      rotate_left
      .cases h
      rename_i c Te
      cases h
      rcases Aw.1 he with he | he
      .have hp:=Ow p (by simp)
       exact (oX p hp).trans ((TY hc rest _ b hb (Gw.fr Ct (oX p hp))).1 e he)
      .exact ih (λq hq=>Ow q (by simp [hq])) Te e he
    exact key (λp hp=>hp) h e he
   .simp only [Zn,hg,DS.wanted]
    unfold Nb
    rw [ho]
    simp only [Gg]
    intro p hp
    obtain ⟨b,h1,h2⟩:=TK h p hp
    rw [<- Pc p hp]
    exact (TY hc rest _ b h1 (Gw.fr Ct (oX p hp))).2 K λe he=>hK e (h2 e he)
  .split at h
   rotate_left
   .cases h
   rename_i An h1
   obtain ⟨g1,k1⟩:=ud hc h1 Ct
   obtain ⟨g2,k2⟩:=TY hc rest An l h (Gw.fr Ct g1)
   exact ⟨λe he=>g1.trans (g2 e he),λK hK=>k1 (k2 K hK)⟩
theorem wx{α:Type}{s:DS}{g:α->DS}{f:α->Option (List (Exit×ES))}(hg:∀ a b,f a=some b->Gw s (g a)->∀ p∈b,Gw s p.2.ds):∀ {l:List α} {m:List (Exit×ES)},(∀ a∈l,Gw s (g a))->Sm f l=some m->∀ p∈m,Gw s p.2.ds
 | [],m,_,h,p,hp=>by cases h;cases hp
 | a::r,m,hl,h,p,hp=>by
  unfold Sm at h
  split at h
  rotate_left
  .cases h
  rename_i b hb
  split at h
  rotate_left
  .cases h
  rename_i c Te
  cases h
  rcases Aw.1 hp with hp | hp
  .exact hg a b hb (hl a (by simp)) p hp
  .exact wx hg (λx hx=>hl x (by simp [hx])) Te p hp
theorem B62{P:Program}{call:Bg}(hc:Vs P call)(hm:P.follows .mixedOrders=true){n nt:Nat} : ∀ (c:DC) (es:ES) (l:List (Exit×ES)),Nm n nt c call es=some l->es.ds.Fr->EvL P nt c es l:=by
 intro c
 have one:∀ (d:DC) (es:ES) (l:List (Exit×ES)),(match Dt n nt false d call es with
  | some p=>some [p]
  | none=>none)=some l->es.ds.Fr->EvL P nt d es l:=by
  intro d es l h Ct
  split at h
  rotate_left
  .cases h
  rename_i p hp
  cases h
  obtain ⟨e,es'⟩:=p
  obtain ⟨g,k⟩:=NN hc hm d es e es' hp Ct
  exact ⟨λq hq=>by rw [Am] at hq;subst hq;exact g,λC Q hP Hk Hw hQ=>k C Q hP Hk (λ_=>Hw) (hQ (e,es') (by simp))⟩
 induction c with
 | skip=>
  intro es l h Ct
  have h':some [(Exit.normal,es)]=some l:=h
  cases h'
  exact ⟨λq hq=>by rw [Am] at hq;subst hq;exact Gw.refl _,λC Q _ _ _ hQ=>DW.skip (hQ (.normal,es) (by simp))⟩
 | ret=>
  intro es l h Ct
  have h':some [(Exit.ret,es)]=some l:=h
  cases h'
  exact ⟨λq hq=>by rw [Am] at hq;subst hq;exact Gw.refl _,λC Q _ _ _ hQ=>DW.ret (hQ (.ret,es) (by simp))⟩
 | exit id=>
  intro es l h Ct
  have h':some [(Exit.exit id,es)]=some l:=h
  cases h'
  exact ⟨λq hq=>by rw [Am] at hq;subst hq;exact Gw.refl _,λC Q _ _ _ hQ=>DW.exit (hQ (.exit id,es) (by simp))⟩
 | seq a b kD kC=>
  intro es l h Ct
  unfold Nm at h
  split at h
  rotate_left
  .cases h
  rename_i la hla
  obtain ⟨ga,ka⟩:=kD es la hla Ct
  refine ⟨?_,λC Q hP Hk Hw hQ=>DW.seq (ka C _ hP Hk Hw λp hp=>?_)⟩
  .refine wx (g:=λp:Exit×ES=>p.2.ds) (λp b hb L4 q hq=>?_) ga h
   split at hb
   .exact L4.trans ((kC p.2 b hb (Gw.fr Ct L4)).1 q hq)
   .cases hb;rw [Am] at hq;subst hq;exact L4
  .obtain ⟨m,h1,h2⟩:=TK h p hp
   obtain ⟨e,An⟩:=p
   cases e with
   | normal=>exact (kC An m h1 (Gw.fr Ct (ga _ hp))).2 C Q hP Hk Hw λq hq=>hQ q (h2 q hq)
   | _=>cases h1;exact hQ _ (h2 _ (by simp))
 | cond x a b kD kC=>
  intro es l h Ct
  unfold Nm at h
  split at h
  rotate_left
  .cases h
  rename_i t ht
  rw [Ui] at ht
  have Xd:=mr ht
  split at h
  .rename_i I6
   obtain ⟨g,k⟩:=kD es l h Ct
   exact ⟨g,λC Q hP Hk Hw hQ=>DW.cond Xd (λ_=>k C Q hP Hk Hw hQ) (λh=>by rw [I6] at h;cases h)⟩
  .rename_i I6
   obtain ⟨g,k⟩:=kC es l h Ct
   exact ⟨g,λC Q hP Hk Hw hQ=>DW.cond Xd (λh=>absurd h I6) (λ_=>k C Q hP Hk Hw hQ)⟩
 | blk id c ih=>
  intro es l h Ct
  unfold Nm at h
  split at h
  rotate_left
  .cases h
  rename_i lc eE
  cases h
  obtain ⟨g,k⟩:=ih es lc eE Ct
  refine ⟨λp hp=>?_,λC Q hP Hk Hw hQ=>DW.blk (k C _ hP Hk Hw λp hp=>?_)⟩
  .obtain ⟨q,hq,rfl⟩:=Bm.1 hp
   obtain ⟨e,An⟩:=q
   have:=g _ hq
   cases e <;> first | exact this | (simp only;split <;> exact this)
  .have:=hQ _ (Bm.2 ⟨p,hp,rfl⟩)
   obtain ⟨e,An⟩:=p
   cases e with
   | exit i=>
    simp only [iC] at this ⊢
    split
    .rename_i hi;rw [Af hi] at this;exact this
    .rename_i hi;rw [Ad hi] at this;exact this
   | _=>exact this
 | loop c ih=>
  intro es l h Ct
  have h':Xv (Nm n nt c call) n es=some l:=h
  have gw:∀ (m:Nat) (es:ES) (l:List (Exit×ES)),Xv (Nm n nt c call) m es=some l->es.ds.Fr->∀ p∈l,Gw es.ds p.2.ds:=by
   intro m
   induction m with
   | zero=>intro es l h _;cases h
   | succ m im=>
    intro es l h Ct
    unfold Xv at h
    split at h
    rotate_left
    .cases h
    rename_i lc eE
    obtain ⟨g,_⟩:=ih es lc eE Ct
    refine wx (g:=λp:Exit×ES=>p.2.ds) (λp b hb L4 q hq=>?_) g h
    split at hb
    .exact L4.trans (im p.2 b hb (Gw.fr Ct L4) q hq)
    .cases hb;rw [Am] at hq;subst hq;exact L4
  refine ⟨gw n es l h' Ct,λC Q hP Hk Hw hQ=>?_⟩
  refine DW.loop (I:=λk s=>∃ An l1,s=An.ds/\An.ds.Fr/\Xv (Nm n nt c call) k An=some l1/\∀ p∈l1,Q p.1 p.2.ds) n ⟨es,l,rfl,Ct,h',hQ⟩ ?_
  rintro k s ⟨An,l1,rfl,eJ,h1,hQ1⟩
  cases k with
  | zero=>cases h1
  | succ k=>
   unfold Xv at h1
   split at h1
   rotate_left
   .cases h1
   rename_i lc eE
   obtain ⟨g,kk⟩:=ih An lc eE eJ
   refine kk C _ hP Hk Hw λp hp=>?_
   obtain ⟨m,h2,h3⟩:=TK h1 p hp
   obtain ⟨e,Cb⟩:=p
   cases e with
   | normal=>exact ⟨k,Fq k,Cb,m,rfl,Gw.fr eJ (g _ hp),h2,λq hq=>hQ1 q (h3 q hq)⟩
   | _=>cases h2;exact hQ1 _ (h3 _ (by simp))
 | reg draw ops info=>
  intro es l h Ct
  cases draw with
  | false=>
   unfold Nm at h
   split at h
   rotate_left
   .cases h
   rename_i lc eE
   cases h
   obtain ⟨g,k⟩:=TY hc ops es lc eE Ct
   refine ⟨λp hp=>?_,λC Q hP Hk Hw hQ=>DW.reg (by rw [hP];exact k _ λe he=>hQ _ (Bm.2 ⟨e,he,rfl⟩))⟩
   obtain ⟨e,he,rfl⟩:=Bm.1 hp
   exact g e he
  | true=>exact one _ es l h Ct
 | rng g ps a b _ _=>intro es l h Ct;exact one _ es l h Ct
 | dfq t g cap=>intro es l h Ct;exact one _ es l h Ct
 | bad=>intro es l h Ct;exact one _ es l h Ct
def Xu:List (Exit×ES)->Option ES
 | []=>none
 | [p]=>match p.1 with
  | .normal=>some p.2
  | .ret=>some p.2
  | _=>none
 | p::r=>match p.1,Xu r with
  | .normal,some es=>some (dN p.2 es)
  | .ret,some es=>some (dN p.2 es)
  | _,_=>none
theorem Bk0:∀ {l:List (Exit×ES)} {es:ES},Xu l=some es->∀ p∈l,(p.1=.normal\/p.1=.ret)/\Less p.2.ds es.ds
 | [p],es,h,q,hq=>by
  rw [Am] at hq
  subst hq
  obtain ⟨e,An⟩:=q
  cases e <;> simp only [Xu] at h <;> first | (cases h;done) | skip
  .cases h;exact ⟨.inl rfl,Less.refl _⟩
  .cases h;exact ⟨.inr rfl,Less.refl _⟩
 | p::p'::r,es,h,q,hq=>by
  obtain ⟨e,An⟩:=p
  cases hm:Xu (p'::r) with
  | none=>cases e <;> simp [Xu,hm] at h
  | some Cb=>
   have Yv:(e=.normal\/e=.ret)/\es=dN An Cb:=by
    cases e <;> simp only [Xu,hm] at h <;> first | (cases h;done) | (cases h;first | exact ⟨.inl rfl,rfl⟩ | exact ⟨.inr rfl,rfl⟩)
   obtain ⟨h1,rfl⟩:=Yv
   rcases Aq.1 hq with rfl | hq
   .exact ⟨h1,Cn2 _ _⟩
   .have:=Bk0 hm q hq
    exact ⟨this.1,this.2.trans (Cn3 _ _)⟩
def DC.hasN:DC->Bool
 | .seq a b=>a.hasN||b.hasN
 | .cond _ a b=>a.hasN||b.hasN
 | .blk _ c=>c.hasN
 | .loop c=>c.hasN
 | .reg false ops _=>ops.any λr=>match r.op with
  | .nxm _ _=>true
  | _=>false
 | _=>false
def cM(n nt:Nat)(c:DC):CE:=λcall es=>match Nm n nt c call es with
 | some l=>match Xu l with
  | some es'=>some (.ret,es')
  | none=>none
 | none=>none
def nF(n nt:Nat)(c:DC):CE:=Bool.rec (motive:=λ_=>CE) (Dt n nt false c) (cM n nt c) c.hasN
theorem Cn4{P:Program}{call:Bg}(hc:Vs P call)(hm:P.follows .mixedOrders=true){n nt:Nat}{c:DC}{es es':ES}{e:Exit}(h:nF n nt c call es=some (e,es'))(Ct:es.ds.Fr) :
  Gw es.ds es'.ds/\∀ (C:Ctx) (Q:Exit->DS->Prop),C.P=P->C.nt=nt->C.rd=none->(∀ e',e'=e\/e'=.normal\/e'=.ret->Q e' es'.ds)->DW C c Q es.ds:=by
 unfold nF at h
 cases hh:c.hasN with
 | false=>
  rw [hh] at h
  obtain ⟨g,k⟩:=NN hc hm c es e es' h Ct
  exact ⟨g,λC Q hP Hk Hw hQ=>k C Q hP Hk (λ_=>Hw) (hQ e (.inl rfl))⟩
 | true=>
  rw [hh] at h
  have h':cM n nt c call es=some (e,es'):=h
  unfold cM at h'
  split at h'
  rotate_left
  .cases h'
  rename_i l hl
  split at h'
  rotate_left
  .cases h'
  rename_i Cb tV
  cases h'
  obtain ⟨g,k⟩:=B62 hc hm c es l hl Ct
  have Wr:=Bk0 tV
  have Ha:∃ p,p∈l:=by
   cases l with
   | nil=>cases tV
   | cons p r=>exact ⟨p,by simp⟩
  obtain ⟨p0,Ng⟩:=Ha
  refine ⟨⟨Ep (g p0 Ng).le (Wr p0 Ng).2.nx,λid h1 h2=>?_⟩,λC Q hP Hk Hw hQ=>?_⟩
  .have cK:=(Wr p0 Ng).2
   rcases cK.ho id with e | e
   .rw [e] at h2
    have:=(g p0 Ng).new id h1 h2
    exact ⟨this.1,Bp this.2 cK.nx⟩
   .exact absurd e h2
  .intro code jE a w hs
   refine wpIn_mono (k C (λe s=>(e=.normal\/e=.ret)/\Less s es'.ds) hP Hk Hw (λp hp=>Wr p hp) code jE a w hs) ?_
   rintro e a' w' ⟨s,⟨he,IU⟩,hh⟩
   exact ⟨es'.ds,hQ e (.inr he),Imp.weak IU.sv IU.ho IU.nx C a' w' hh⟩
end Go.DD

/- The evaluator's calls; what a closed run shows. -/
namespace Go.DD
theorem wu(ds:List DV)(t:Nat):((Vp ds).get t).getD .any=Yn ds t:=by
 have key:∀ (ds:List DV) (i:Nat) (tr:Tr DV),(List.rec (motive:=λ_=>Nat->Tr DV->Tr DV) (λ_ t=>t) (λd _ ih i t=>ih (i+1) (sP (Cm i) (some d) t)) ds i tr:Tr DV).get t=if i<=t/\t<i+ds.length then ds[t-i]? else tr.get t:=by
  intro ds
  induction ds with
  | nil=>
   intro i tr
   rw [Ad (by simp only [My];omega)]
  | cons d ds ih=>
   intro i tr
   show (List.rec (motive:=λ_=>Nat->Tr DV->Tr DV) (λ_ t=>t) (λd _ ih i t=>ih (i+1) (sP (Cm i) (some d) t)) ds (i+1) (sP (Cm i) (some d) tr):Tr DV).get t=_
   rw [ih,sk]
   by_cases h1:i+1<=t/\t<i+1+ds.length
   .rw [Af h1,Af (by simp;omega)]
    rw [show t-i=(t-(i+1))+1 by omega]
    simp
   .rw [Ad h1]
    by_cases h2:i=t
    .subst h2
     rw [Af rfl,Af (by simp)]
     simp
    .rw [Ad h2,Ad (by simp;omega)]
 have:=key ds 0 .e
 unfold Vp Yn
 rw [this]
 by_cases h:t<ds.length
 .rw [Af (by omega)];simp
 .rw [Ad (by omega),Fh (by omega)]
  cases t <;> rfl
theorem Bk1:∀ (ps:List Nat) (ds:List DV) (sl:Tr DV),(λu=>((Ov ps ds sl).get u).getD .any)=aV ps ds λu=>(sl.get u).getD .any
 | [],ds,sl=>by cases ds <;> rfl
 | p::ps,[],sl=>rfl
 | p::ps,d::ds,sl=>by
  have e:Ov (p::ps) (d::ds) sl=Ov ps ds (sP (Cm p) (some d) sl):=rfl
  rw [e,Bk1 ps ds]
  simp only [aV]
  congr 1
  funext u
  rw [sk]
  by_cases h:p=u
  .simp [h]
  .simp [h]
theorem Cx8{k:Option Nat}{t:Nat}{es:ES}{d:DV}(h:AL k (.t (Cm t)) es=some d):Zb es.ds (t,some k)=some d:=by
 unfold AL at h
 rcases NS h with ⟨_,_,h⟩ | ⟨id,off,ha,h⟩
 .cases h
 .obtain ⟨T,cs,hr,h⟩:=ve h
  have uB:es.ds.rv (.tmp t)=.pt id off:=by rw [<- Ui];exact ha
  have ho:es.ds.ho id=some (.row T cs):=hr
  simp only [Zb,eS uB (by rw [ho];rfl),ho]
  rw [<- jU,<- X6]
  exact h
theorem Cn5{es:ES}{q:Nat×Option (Option Nat)}{d:DV}(h:Wo es q=some d):Zb es.ds q=some d:=by
 obtain ⟨t,k⟩:=q
 cases k with
 | none=>
  have h':some (Oc es (.t (Cm t)))=some d:=h
  have e:Oc es (.t (Cm t))=es.ds.ev (.tmp t):=mQ es (.tmp t)
  rw [e] at h'
  exact h'
 | some k=>exact Cx8 h
theorem Bu9{es:ES} : ∀ {qs:List (Nat×Option (Option Nat))} {ds:List DV},qs.mapM (Wo es)=some ds->qs.mapM (Zb es.ds)=some ds
 | [],ds,h=>by simpa using h
 | q::qs,ds,h=>by
  simp only [Gx,Gc,Az,Hf] at h ⊢
  obtain ⟨d,hd,dt,jj,h⟩:=h
  exact ⟨d,Cn5 hd,dt,Bu9 jj,h⟩
theorem Bv0{es:ES}{qs:List (Nat×Option (Option Nat))}{d:DV}{hp:Tr DObj}{nx:Nat}(h:Nl qs es=some (d,hp,nx)):bC es.ds qs=some d/\hp=es.hp/\nx=es.nx:=by
 unfold Nl at h
 cases hm:qs.mapM (Wo es) with
 | none=>rw [hm] at h;cases h
 | some ds=>
  rw [hm] at h
  have h2:=Bu9 hm
  unfold bC
  rw [h2]
  match ds,h with
  | [],h=>cases h;exact ⟨rfl,rfl,rfl⟩
  | [x],h=>cases h;exact ⟨rfl,rfl,rfl⟩
  | x::y::l,h=>cases h;exact ⟨rfl,rfl,rfl⟩
def mh(P:Program)(n:Nat)(fn:Func):Option FE:=match Yo P fn with
 | some df=>some ⟨nF n df.nt df.code,df.res,df.nt⟩
 | none=>none
def TbAt(P:Program)(n f:Nat)(fe:FE):Prop:=Uj P f=true/\∃ fn df,P.funcs[f]?=some fn/\Yo P fn=some df/\fe.run=nF n df.nt df.code/\fe.res=df.res/\fe.nt=df.nt
def fF(P:Program)(n:Nat)(tb:Nat->Option FE):Prop:=∀ f fe,tb f=some fe->TbAt P n f fe
theorem TbAt.of{P:Program}{n f:Nat}{fe:FE}{fn:Func}(h1:P.funcs[f]?=some fn)(h2:Uj P f=true)(h3:mh P n fn=some fe):TbAt P n f fe:=by
 unfold mh at h3
 split at h3
 .rename_i df hd
  cases h3
  exact ⟨h2,fn,df,h1,hd,rfl,rfl,rfl⟩
 .cases h3
def VQ(P:Program)(n f:Nat):Option FE:=Fw (Uj P f) (Option.rec (motive:=λ_=>Option FE) none (λfn=>mh P n fn) (P.funcs[f]?)) none
theorem sg(P:Program)(n:Nat):fF P n (VQ P n):=by
 intro f fe h
 obtain ⟨h1,h2⟩:=fJ h
 obtain ⟨fn,h3,h4⟩:=Jt h2
 exact TbAt.of h3 h1 h4
theorem Cd3(es:ES)(id:Nat)(o:Option DObj):(ES.mk es.sl (es.hp.set id o) es.nx).ds=es.ds.lay id o:=by
 rw [Si,Tr.set_ho];rfl
theorem Cd4{es:ES}{id:Nat}{o:DObj}{x:DObj}(h:es.hp.get id=some x):Gw es.ds (ES.mk es.sl (es.hp.set id (some o)) es.nx).ds:=by
 rw [Cd3]
 refine ⟨Ai _,λj h1 h2=>?_⟩
 simp only [DS.lay,setH] at h2
 split at h2
 .rename_i e
  have zN:es.hp.get j=none:=h1
  rw [e,h] at zN;cases zN
 .exact absurd h1 h2
theorem wq{P:Program}(hm:P.follows .mixedOrders=true){tb:Nat->Option FE}{n' n:Nat}(iR:fF P n' tb){call:Bg}(ih:Vs P call):Vs P (Xq tb n call):=by
  intro tg ds hp nx d Ao Bk h Ct
  cases tg with
  | fn f=>
   have h0:(match tb f with
    | some fe=>if ds.length<=fe.nt then match fe.run call ⟨Vp ds,hp,nx⟩ with
      | some (.normal,es)=>Nl fe.res es
      | some (.ret,es)=>Nl fe.res es
      | _=>none
     else none
    | none=>none)=some (d,Ao,Bk):=h
   split at h0
   rotate_left
   .cases h0
   rename_i fe ja
   obtain ⟨Sh,fn,df,hf,jF,e1,e2,e3⟩:=iR f fe ja
   split at h0
   rotate_left
   .cases h0
   rename_i hlen
   rw [e1] at h0
   have Fo:∃ e es,nF n' df.nt df.code call ⟨Vp ds,hp,nx⟩=some (e,es)/\(e=.normal\/e=.ret)/\Nl fe.res es=some (d,Ao,Bk):=by
    revert h0
    split
    .rename_i es he;exact λh0=>⟨_,es,he,.inl rfl,h0⟩
    .rename_i es he;exact λh0=>⟨_,es,he,.inr rfl,h0⟩
    .intro h0;cases h0
   obtain ⟨e,es,Ty,Yv,Pe⟩:=Fo
   obtain ⟨dZ,rfl,rfl⟩:=Bv0 Pe
   obtain ⟨g1,g2⟩:=Cn4 ih hm Ty Ct
   refine ⟨g1.le,g1.new,Sh,λsv K hK=>.inl ⟨fn,df,hf,jF,by rw [<- e3];exact hlen,λS G w0 X M Y R=>?_⟩⟩
   have If:(ES.mk (Vp ds) hp nx).ds=⟨Yn ds,hp.get,nx⟩:=by
    rw [Si]
    congr 1
    funext t
    exact wu ds t
   have:=g2 ⟨P,S,G,w0,df.nt,X,M,none,Y,R⟩ (λe s'=>(e=.normal\/e=.ret)/\∃ d,bC s' df.res=some d/\K ⟨sv,s'.ho,s'.nx⟩ d) rfl rfl rfl (λe' Ma=>⟨by rcases Ma with rfl | h | h;exact Yv;exact .inl h;exact .inr h,d,by rw [<- e2];exact dZ,hK⟩)
   rw [If] at this
   exact this
  | yl id=>
   have h0:(match hp.get id with
   | some (.loop lp)=>match lp.st,lp.sl with
    | .ready,.t sl=>if ds.length=lp.ps.length/\lp.ps.all (λt=>Nat.blt t lp.nt)=true then
      match Dt n lp.nt true lp.asg call ⟨Ov lp.ps ds sl,hp,nx⟩ with
      | some (.normal,An)=>match An.hp.get id with
       | some (.loop Tt)=>match Tt.st with
        | .ready=>match Dt n lp.nt true lp.body call { An with hp:=An.hp.set id (some (.loop { Tt with st:=.busy })) } with
         | some (e,Cb)=>match Cb.hp.get id with
          | some (.loop Pp)=>match e with
           | .normal=>some (.v (.bool true),Cb.hp.set id (some (.loop { Pp with st:=.ready,pend:=none })),Cb.nx)
           | .ret=>some (.v (.bool false),Cb.hp.set id (some (.loop { Pp with st:=.done,pend:=some .ret })),Cb.nx)
           | .exit i=>some (.v (.bool false),Cb.hp.set id (some (.loop { Pp with st:=.done,pend:=some (.exit i) })),Cb.nx)
           | _=>none
          | _=>none
         | none=>none
        | _=>none
       | _=>none
      | _=>none
     else none
    | _,_=>none
   | _=>none)=some (d,Ao,Bk):=h
   split at h0
   rotate_left
   .cases h0
   rename_i lp bL
   split at h0
   rotate_left
   .cases h0
   rename_i sl If yH
   split at h0
   rotate_left
   .cases h0
   rename_i hlen
   obtain ⟨hlen,Gy⟩:=hlen
   split at h0
   rotate_left
   .cases h0
   rename_i An jg
   split at h0
   rotate_left
   .cases h0
   rename_i Tt IV
   split at h0
   rotate_left
   .cases h0
   rename_i I8
   split at h0
   rotate_left
   .cases h0
   rename_i e Cb jf
   split at h0
   rotate_left
   .cases h0
   rename_i Pp tQ
   obtain ⟨g1,k1⟩:=NN ih hm lp.asg _ _ _ jg Ct
   have iy:(ES.mk (Ov lp.ps ds sl) hp nx).ds.Fr:=Ct
   have eJ:An.ds.Fr:=Gw.fr iy g1
   have gs1:=Cd4 (o:=.loop { Tt with st:=.busy }) IV
   obtain ⟨g2,k2⟩:=NN ih hm lp.body _ _ _ jf (Gw.fr eJ gs1)
   have hz:(ES.mk (Ov lp.ps ds sl) hp nx).ds=⟨aV lp.ps ds lp.sl.get,hp.get,nx⟩:=by
    rw [Si,yH]
    congr 1
    exact Bk1 lp.ps ds sl
   have Ka:∀ t∈lp.ps,t<lp.nt:=λt ht=>by
    have:=Bi.1 Gy t ht
    simpa [Lb] using this
   have KZ:∀ o,Gw (ES.mk (Ov lp.ps ds sl) hp nx).ds (ES.mk Cb.sl (Cb.hp.set id (some o)) Cb.nx).ds:=λo=>((g1.trans gs1).trans g2).trans (Cd4 tQ)
   have fin:∀ (o:DObj) (b:Bool),(d=.v (.bool b)/\Ao=Cb.hp.set id (some o)/\Bk=Cb.nx)->
     (∀ (sv:Nat->DV) (K:DS->DV->Prop),K ⟨sv,Ao.get,Bk⟩ d->(λ(e:Exit) (s2:DS)=>∃ Pp,s2.ho id=some (.loop Pp)/\match e with
      | .normal=>K ⟨sv,setH s2.ho id (some (.loop { Pp with st:=.ready,pend:=none })),s2.nx⟩ (.v (.bool true))
      | .ret=>K ⟨sv,setH s2.ho id (some (.loop { Pp with st:=.done,pend:=some .ret })),s2.nx⟩ (.v (.bool false))
      | .exit i=>K ⟨sv,setH s2.ho id (some (.loop { Pp with st:=.done,pend:=some (.exit i) })),s2.nx⟩ (.v (.bool false))
      | _=>False) e Cb.ds)->
     nx<=Bk/\(∀ id,hp.get id=none->Ao.get id≠none->nx<=id/\id<Bk)/\∀ (sv:Nat->DV) (K:DS->DV->Prop),K ⟨sv,Ao.get,Bk⟩ d->OD P id ds ⟨sv,hp.get,nx⟩ K:=λo b ⟨q1,q2,q3⟩ Pe=>by
    have gw:=KZ o
    subst q2 q3
    refine ⟨gw.le,gw.new,λsv K hK=>⟨lp,bL,If,hlen,Ka,λS G w0 X M Y R l=>?_⟩⟩
    rw [<- hz]
    refine k1 _ _ rfl rfl (λh=>by cases h) ⟨rfl,Tt,IV,I8,?_⟩
    rw [<- Cd3]
    exact k2 _ _ rfl rfl (λh=>by cases h) (Pe sv K hK)
   split at h0
   .cases h0
    refine fin _ true ⟨rfl,rfl,rfl⟩ λsv K hK=>⟨Pp,tQ,?_⟩
    rw [Tr.set_ho] at hK
    exact hK
   .cases h0
    refine fin _ false ⟨rfl,rfl,rfl⟩ λsv K hK=>⟨Pp,tQ,?_⟩
    rw [Tr.set_ho] at hK
    exact hK
   .cases h0
    refine fin _ false ⟨rfl,rfl,rfl⟩ λsv K hK=>⟨Pp,tQ,?_⟩
    rw [Tr.set_ho] at hK
    exact hK
   .cases h0
theorem Bk2{P:Program}(hm:P.follows .mixedOrders=true){tb:Nat->Option FE}{n' n:Nat}(iR:fF P n' tb):∀ k,Vs P (jL tb n k)
 | 0=>λtg ds hp nx d Ao Bk h=>by cases h
 | k+1=>wq hm iR (Bk2 hm iR k)
abbrev lM:Type:=Tr (List (List DV×DV))
def H8(l:List (List DV×DV))(ds:List DV):Option DV:=List.rec (motive:=λ_=>Option DV) none (λe _ ih=>Bool.rec (motive:=λ_=>Option DV) ih (some e.2) (Jo (Oz 8) e.1 ds)) l
def xD(mm:lM)(call:Bg):Bg:=λtg ds hp nx=>match tg with
 | .fn f=>Option.rec (motive:=λ_=>Option (DV×Tr DObj×Nat)) (call (.fn f) ds hp nx) (λl=>Option.rec (motive:=λ_=>Option (DV×Tr DObj×Nat)) (call (.fn f) ds hp nx) (λd=>some (d,hp,nx)) (H8 l ds)) (gN mm f)
 | .yl id=>call (.yl id) ds hp nx
def qF(tb:Nat->Option FE)(mm:lM)(n:Nat):Nat->Bg
 | 0=>λ_ _ _ _=>none
 | k+1=>Xq tb n (xD mm (qF tb mm n k))
def Known(P:Program)(f:Nat)(ds:List DV)(d:DV):Prop:=Uj P f=true/\(∀ x∈ds,x.refs=[])/\DCall P f ds λd'=>d'=d
def MemoOK(P:Program)(mm:lM):Prop:=∀ f l,mm.get f=some l->∀ e∈l,Known P f e.1 e.2
theorem Bk3{ds:List DV}{d:DV} : ∀ {l:List (List DV×DV)},H8 l ds=some d->(ds,d)∈l
 | [],h=>by cases h
 | e::l,h=>by
  have h':Bool.rec (motive:=λ_=>Option DV) (H8 l ds) (some e.2) (Jo (Oz 8) e.1 ds)=some d:=h
  cases hs:Jo (Oz 8) e.1 ds with
  | true=>
   rw [hs] at h'
   cases h'
   have:=X5 (R8 8) hs
   obtain ⟨a,b⟩:=e
   simp only at this
   subst this
   simp
  | false=>
   rw [hs] at h'
   exact Be _ (Bk3 h')
theorem B63{P:Program}{mm:lM}(T9:MemoOK P mm){call:Bg}(hc:Vs P call):Vs P (xD mm call):=by
 intro tg ds hp nx d Ao Bk h Ct
 cases tg with
 | yl id=>exact hc (.yl id) ds hp nx d Ao Bk h Ct
 | fn f=>
  have h0:Option.rec (motive:=λ_=>Option (DV×Tr DObj×Nat)) (call (.fn f) ds hp nx) (λl=>Option.rec (motive:=λ_=>Option (DV×Tr DObj×Nat)) (call (.fn f) ds hp nx) (λd=>some (d,hp,nx)) (H8 l ds)) (gN mm f)=some (d,Ao,Bk):=h
  cases hg:gN mm f with
  | none=>rw [hg] at h0;exact hc (.fn f) ds hp nx d Ao Bk h0 Ct
  | some l=>
   rw [hg] at h0
   cases hl:H8 l ds with
   | none=>
    have h1:Option.rec (motive:=λ_=>Option (DV×Tr DObj×Nat)) (call (.fn f) ds hp nx) (λd=>some (d,hp,nx)) (H8 l ds)=some (d,Ao,Bk):=h0
    rw [hl] at h1
    exact hc (.fn f) ds hp nx d Ao Bk h1 Ct
   | some d0=>
    have h1:Option.rec (motive:=λ_=>Option (DV×Tr DObj×Nat)) (call (.fn f) ds hp nx) (λd=>some (d,hp,nx)) (H8 l ds)=some (d,Ao,Bk):=h0
    rw [hl] at h1
    cases h1
    rw [La] at hg
    obtain ⟨k1,k2,k3⟩:=T9 f l hg _ (Bk3 hl)
    exact ⟨Ai _,λid h2 h3=>absurd h2 h3,k1,λsv K hK=>.inr ⟨_,k2,k3,hK⟩⟩
theorem Bk4{P:Program}(hm:P.follows .mixedOrders=true){tb:Nat->Option FE}{n' n:Nat}(iR:fF P n' tb){mm:lM}(T9:MemoOK P mm):∀ k,Vs P (qF tb mm n k)
 | 0=>λtg ds hp nx d Ao Bk h=>by cases h
 | k+1=>wq hm iR (B63 T9 (Bk4 hm iR T9 k))
theorem MemoOK.nil(P:Program):MemoOK P .e:=λf l h=>by cases f <;> cases h
theorem uc:∀ (n:Nat) (d r:DV),rz (λ_=>none) n d=some r->r=d
 | 0,d,r,h=>by
  simp only [rz] at h
  split at h
  .cases h;rfl
  .cases h
 | n+1,d,r,h=>by
  have hl:∀ cs l,qX (rz (λ_=>none) n) cs=some l->l=cs:=λcs l hz=>by
   obtain ⟨h1,h2⟩:=SX hz
   apply Ir
   intro j
   by_cases hj:j<cs.length
   .have e1:=Aa hj
    have e2:=Aa (l:=l) (i:=j) (by omega)
    rcases h2 j _ _ e1 e2 with ⟨_,h3⟩ | h3
    .rw [e1,e2,h3]
    .rw [e1,e2,uc n _ _ h3]
   .rw [Fh (by omega),Fh (by omega)]
  cases d with
  | agg cs=>obtain ⟨l,hz,rfl⟩:=Ac.1 h;rw [hl cs l hz]
  | tup cs=>obtain ⟨l,hz,rfl⟩:=Ac.1 h;rw [hl cs l hz]
  | fn f cs=>obtain ⟨l,hz,rfl⟩:=Ac.1 h;rw [hl cs l hz]
  | ifc T d=>obtain ⟨e,hz,rfl⟩:=Ac.1 h;rw [uc n _ _ hz]
  | ms id off k es=>simp [rz] at h
  | pt id off=>simp [rz] at h
  | mp id=>simp [rz] at h
  | yl id=>simp [rz] at h
  | any=>simp [rz] at h;exact h.symm
  | v x=>simp [rz] at h;exact h.symm
  | sl cs k=>simp [rz] at h;exact h.symm
  | ia cs=>simp [rz] at h;exact h.symm
theorem DCall.of_callC{P:Program}{f:FuncId}{args:List DV}{R:DV->Prop}{sv:Nat->DV}(h:callC P f args ⟨sv,λ_=>none,0⟩ λs d=>∃ r,rz s.ho 6 d=some r/\R r):DCall P f args R:=by
 rcases h with h | ⟨d,h1,h2,r,h3,h4⟩
 .exact DCall.of_callI h
 .have hd:r=d:=uc 6 _ _ h3
  subst hd
  exact h2.mono λd hd=>by rw [hd];exact h4
def LF(ds:List DV):Bool:=ds.all λd=>(Vv d).isEmpty
def CL(x:Option (DV×Tr DObj×Nat))(d:DV):Bool:=match x with
 | some (d',hp,_)=>match rz hp.get 6 d' with
  | some r=>Oz 12 r d
  | none=>false
 | none=>false
theorem A98{P:Program}(hm:P.follows .mixedOrders=true){tb:Nat->Option FE}{n' n k f:Nat}(iR:fF P n' tb){mm:lM}(T9:MemoOK P mm){ds:List DV}{d:DV}(hf:LF ds=true)(h:CL (qF tb mm n k (.fn f) ds .e 0) d=true):Known P f ds d:=by
 unfold CL at h
 split at h
 rotate_left
 .cases h
 rename_i d' hp nx hr
 split at h
 rotate_left
 .cases h
 rename_i r HQ
 have hd:=R8 _ _ _ h
 subst hd
 obtain ⟨_,_,Sh,hI⟩:=Bk4 hm iR T9 k _ _ _ _ _ _ _ hr (λid _=>by cases id <;> rfl)
 refine ⟨Sh,λx hx=>?_,DCall.of_callC (sv:=λ_=>.any) ?_⟩
 .have:=Bi.1 hf x hx
  rw [X7] at this
  simpa using this
 .have:=hI (λ_=>.any) (λs d=>∃ r',rz s.ho 6 d=some r'/\r'=r) ⟨r,HQ,rfl⟩
  have e:(Tr.e:Tr DObj).get=λ_=>none:=by funext id;cases id <;> rfl
  rw [e] at this
  exact this
theorem Bk5{P:Program}(hm:P.follows .mixedOrders=true){tb:Nat->Option FE}{n' n k f:Nat}(iR:fF P n' tb)(h:G6 (jL tb n k (.fn f) [] .e 0)=true):Uj P f=true/\DCall P f [] λd=>d=.v (.bool true):=by
 unfold G6 at h
 split at h
 rotate_left
 .cases h
 rename_i b hp nx hr
 subst h
 obtain ⟨_,_,Sh,hI⟩:=Bk2 hm iR k _ _ _ _ _ _ _ hr (λid _=>by cases id <;> rfl)
 refine ⟨Sh,DCall.of_callC (sv:=λ_=>.any) ?_⟩
 have:=hI (λ_=>.any) (λs d=>∃ r,rz s.ho 6 d=some r/\r=.v (.bool true)) ⟨.v (.bool true),rfl,rfl⟩
 have e:(Tr.e:Tr DObj).get=λ_=>none:=by funext id;cases id <;> rfl
 rw [e] at this
 exact this
end Go.DD

/- The evaluator, read with symbols: what a piece of code leads to. -/
namespace Go.DD
def EW(c:CE)(call:Bg)(es:ES)(Q:Exit->ES->Prop):Prop:=∃ e es',c call es=some (e,es')/\Q e es'
def SW(s:Oo)(call:Bg)(es:ES)(Q:ES->Prop):Prop:=∃ es',s call es=some es'/\Q es'
def XW(x:Option DV)(Q:DV->Prop):Prop:=∃ d,x=some d/\Q d
def Og(next:ES->Prop)(Q:Exit->ES->Prop):Exit->ES->Prop
 | .normal,es=>next es
 | e,es=>Q e es
def Pk(id:Nat)(Q:Exit->ES->Prop):Exit->ES->Prop
 | .exit i,es=>if i=id then Q .normal es else Q (.exit i) es
 | e,es=>Q e es
theorem EW.mono{c:CE}{call:Bg}{es:ES}{Q Q':Exit->ES->Prop}(h:EW c call es Q)(hq:∀ e es,Q e es->Q' e es):EW c call es Q':=by
 obtain ⟨e,es',h1,h2⟩:=h
 exact ⟨e,es',h1,hq _ _ h2⟩
theorem EW.s{a b:CE}{call:Bg}{es:ES}{Q:Exit->ES->Prop}(h:EW a call es (Og (λAn=>EW b call An Q) Q)):EW (cS a b) call es Q:=by
 obtain ⟨e,An,h1,h2⟩:=h
 cases e with
 | normal=>
  obtain ⟨e2,Cb,h3,h4⟩:=h2
  refine ⟨e2,Cb,?_,h4⟩
  unfold cS;rw [h1];exact h3
 | _=>exact ⟨_,An,by unfold cS;rw [h1],h2⟩
theorem EW.n{s:Oo}{call:Bg}{es:ES}{Q:Exit->ES->Prop}(h:SW s call es (Q .normal)):EW (cN s) call es Q:=by
 obtain ⟨An,h1,h2⟩:=h
 exact ⟨_,An,by unfold cN;rw [h1],h2⟩
theorem EW.e{e:Exit}{call:Bg}{es:ES}{Q:Exit->ES->Prop}(h:Q e es):EW (cE e) call es Q:=⟨e,es,rfl,h⟩
theorem EW.c{x:EO}{a b:CE}{call:Bg}{es:ES}{Q:Exit->ES->Prop}(t:Bool)(ht:Ae es x=.v (.bool t))(h1:t=true->EW a call es Q)(h2:t=false->EW b call es Q):EW (cC x a b) call es Q:=by
 have e:cC x a b call es=Bool.rec (motive:=λ_=>Option (Exit×ES)) (b call es) (a call es) t:=by unfold cC;rw [ht];rfl
 cases t with
 | true=>obtain ⟨e1,An,h3,h4⟩:=h1 rfl;exact ⟨e1,An,e.trans h3,h4⟩
 | false=>obtain ⟨e1,An,h3,h4⟩:=h2 rfl;exact ⟨e1,An,e.trans h3,h4⟩
theorem EW.b{id:Nat}{c:CE}{call:Bg}{es:ES}{Q:Exit->ES->Prop}(h:EW c call es (Pk id Q)):EW (cB id c) call es Q:=by
 obtain ⟨e,An,h1,h2⟩:=h
 cases e with
 | exit i=>
  have e1:cB id c call es=Fw (Nat.beq i id) (some (.normal,An)) (some (.exit i,An)):=by unfold cB;rw [h1]
  rw [Ti] at e1
  simp only [Pk] at h2
  by_cases hi:i=id
  .subst hi
   rw [Af (Nat.beq_refl i)] at e1
   rw [Af rfl] at h2
   exact ⟨_,_,e1,h2⟩
  .rw [Ad (λh=>hi (Fg h))] at e1
   rw [Ad hi] at h2
   exact ⟨_,_,e1,h2⟩
 | _=>exact ⟨_,An,by unfold cB;rw [h1],h2⟩
theorem EW.l{c:CE}{call:Bg}{Q:Exit->ES->Prop}(I:Nat->ES->Prop)(step:∀ n es,I n es->EW c call es (Og (λAn=>∃ m,m<n/\I m An) Q)):∀ (n k:Nat) (es:ES),I n es->n<k->EW (cL k c) call es Q:=by
 intro n
 induction n using Nat.strongRecOn with
 | _ n ih=>
  intro k es h hk
  cases k with
  | zero=>omega
  | succ k=>
   show EW (cS c (cL k c)) call es Q
   refine EW.s ((step n es h).mono ?_)
   intro e An h1
   cases e with
   | normal=>
    obtain ⟨m,hm,hI⟩:=h1
    exact ih m hm k An hI (by omega)
   | _=>exact h1
theorem SW.q{s k:Oo}{call:Bg}{es:ES}{Q:ES->Prop}(h:SW s call es λAn=>SW k call An Q):SW (sq s k) call es Q:=by
 obtain ⟨An,h1,Cb,h2,h3⟩:=h
 exact ⟨Cb,by unfold sq;rw [h1];exact h2,h3⟩
theorem SW.z{call:Bg}{es:ES}{Q:ES->Prop}(h:Q es):SW sK call es Q:=⟨es,rfl,h⟩
theorem SW.m{dst:Option Pa}{x:EO}{call:Bg}{es:ES}{Q:ES->Prop}(h:Q (es.putE dst (Ae es x))):SW (sM dst x) call es Q:=⟨_,rfl,h⟩
theorem SW.x{dst:Option Pa}{x:XP}{call:Bg}{es:ES}{Q:ES->Prop}(d:DV)(hx:x es=some d)(h:Q (es.putE dst d)):SW (sX dst x) call es Q:=⟨_,by unfold sX;rw [hx],h⟩
theorem SW.call{f:Nat}{args:List EO}{dst:Option Pa}{call:Bg}{es:ES}{Q:ES->Prop}(d:DV)(hp:Tr DObj)(nx:Nat)(hc:call (.fn f) (args.map (Ae es)) es.hp es.nx=some (d,hp,nx))(h:Q ((ES.mk es.sl hp nx).putE dst d)):SW (Bj f args dst) call es Q:=by
 refine ⟨_,?_,h⟩
 unfold Bj iI Yw
 rw [rX,hc];rfl
theorem lE{α:Type}(p:Pa):gP p (.e:Tr α)=none:=by cases p <;> rfl
theorem NF{α:Type} : ∀ (p:Pa) (v:Option α) (t:Tr α),gP p (sP p v t)=v
 | .o,v,t=>by cases t <;> rfl
 | .l p,v,.e=>NF p v .e
 | .l p,v,.n l _ _=>NF p v l
 | .r p,v,.e=>NF p v .e
 | .r p,v,.n _ _ r=>NF p v r
theorem NM{α:Type} : ∀ {p q:Pa} (v:Option α) (t:Tr α),q≠p->gP p (sP q v t)=gP p t
 | .o,.o,v,t,h=>absurd rfl h
 | .o,.l q,v,t,_=>by cases t <;> rfl
 | .o,.r q,v,t,_=>by cases t <;> rfl
 | .l p,.o,v,t,_=>by cases t <;> first | rfl | exact lE p
 | .l p,.r q,v,t,_=>by cases t <;> first | rfl | exact lE p
 | .r p,.o,v,t,_=>by cases t <;> first | rfl | exact lE p
 | .r p,.l q,v,t,_=>by cases t <;> first | rfl | exact lE p
 | .l p,.l q,v,.e,h=>show gP p (sP q v .e)=none from (NM (p:=p) (q:=q) v .e λe=>h (by rw [e])).trans (lE p)
 | .l p,.l q,v,.n l _ _,h=>NM v l λe=>h (by rw [e])
 | .r p,.r q,v,.e,h=>show gP p (sP q v .e)=none from (NM (p:=p) (q:=q) v .e λe=>h (by rw [e])).trans (lE p)
 | .r p,.r q,v,.n _ _ r,h=>NM v r λe=>h (by rw [e])
theorem Cn6(sl:Tr DV)(hp:Tr DObj)(nx:Nat)(p:Pa)(d:DV):Ae (ES.putE ⟨sl,hp,nx⟩ (some p) d) (.t p)=d:=by
 show Option.rec (motive:=λ_=>DV) _ _ (gP p (sP p (some d) sl))=d
 rw [NF]
theorem Hx(es:ES){p q:Pa}(d:DV)(h:q≠p):Ae (ES.putE es (some q) d) (.t p)=Ae es (.t p):=by
 obtain ⟨sl,hp,nx⟩:=es
 show Option.rec (motive:=λ_=>DV) _ _ (gP p (sP q (some d) sl))=Option.rec (motive:=λ_=>DV) _ _ (gP p sl)
 rw [NM _ _ h]
theorem Gk(es:ES)(p:Pa)(d:DV):Ae (ES.putE es (some p) d) (.t p)=d:=by
 obtain ⟨sl,hp,nx⟩:=es
 exact Cn6 sl hp nx p d
theorem Uv(es:ES)(p:Option Pa)(d:DV):(ES.putE es p d).hp=es.hp:=by cases p <;> rfl
theorem nx_put(es:ES)(p:Option Pa)(d:DV):(ES.putE es p d).nx=es.nx:=by cases p <;> rfl
theorem Is(es:ES)(hp:Tr DObj)(nx:Nat)(p:Option Pa)(d:DV):ES.putE (ES.mk es.sl hp nx) p d=ES.mk (ES.putE es p d).sl hp nx:=by cases p <;> rfl
theorem Cd5(b:Bool):Zc (some (.bool b))=some (.v (.bool b)):=by cases b <;> rfl
theorem Cx9(k:IntKind)(n:Int):Zc (some (.int k n))=some (.v (.int k n)):=by
 show ss n (λn=>some (DV.v (.int k n)))=_
 rw [A89]
def CW(d:DV)(A B:Prop):Prop:=∃ t,d=.v (.bool t)/\(t=true->A)/\(t=false->B)
def KW(call:Bg)(tg:Tg)(ds:List DV)(hp:Tr DObj)(nx:Nat)(K:DV->Tr DObj->Nat->Prop):Prop:=∃ d Ao Bk,call tg ds hp nx=some (d,Ao,Bk)/\K d Ao Bk
theorem ew_s{a b:CE}{call:Bg}{es:ES}{Q:Exit->ES->Prop} : EW (cS a b) call es Q↔EW a call es (Og (λAn=>EW b call An Q) Q):=by
 refine ⟨λ⟨e,es',h1,h2⟩=>?_,EW.s⟩
 rcases UA h1 with ⟨An,h3,h4⟩ | ⟨h3,Ha⟩
 .exact ⟨.normal,An,h3,e,es',h4,h2⟩
 .refine ⟨e,es',h3,?_⟩
  cases e <;> first | exact h2 | exact absurd rfl Ha
theorem Zj{s:Oo}{call:Bg}{es:ES}{Q:Exit->ES->Prop} : EW (cN s) call es Q↔SW s call es (Q .normal):=by
 refine ⟨λ⟨e,es',h1,h2⟩=>?_,EW.n⟩
 obtain ⟨h3,rfl⟩:=TZ h1
 exact ⟨es',h3,h2⟩
theorem Kb{e:Exit}{call:Bg}{es:ES}{Q:Exit->ES->Prop} : EW (cE e) call es Q↔Q e es:=by
 refine ⟨λ⟨e',es',h1,h2⟩=>?_,EW.e⟩
 have h3:some (e,es)=some (e',es'):=h1
 cases h3;exact h2
theorem mq{x:EO}{a b:CE}{call:Bg}{es:ES}{Q:Exit->ES->Prop}(h:CW (Ae es x) (EW a call es Q) (EW b call es Q)):EW (cC x a b) call es Q:=by
 obtain ⟨t,h1,h2,h3⟩:=h
 exact EW.c t h1 h2 h3
theorem Jg{x:EO}{a b:CE}{call:Bg}{es:ES}{Q:Exit->ES->Prop} : EW (cC x a b) call es Q↔CW (Ae es x) (EW a call es Q) (EW b call es Q):=by
 refine ⟨λ⟨e,es',h1,h2⟩=>?_,mq⟩
 unfold cC at h1
 obtain ⟨v,hv,h1⟩:=uP h1
 cases v with
 | bool t=>
  refine ⟨t,hv,λht=>?_,λht=>?_⟩
  .subst ht;exact ⟨e,es',h1,h2⟩
  .subst ht;exact ⟨e,es',h1,h2⟩
 | _=>cases h1
theorem uE{id:Nat}{c:CE}{call:Bg}{es:ES}{Q:Exit->ES->Prop} : EW (cB id c) call es Q↔EW c call es (Pk id Q):=by
 refine ⟨λ⟨e,es',h1,h2⟩=>?_,EW.b⟩
 obtain ⟨⟨e1,An⟩,h3,h4⟩:=Jt h1
 refine ⟨e1,An,h3,?_⟩
 cases e1 with
 | exit i=>
  have h5:Fw (Nat.beq i id) (some (Exit.normal,An)) (some (Exit.exit i,An))=some (e,es'):=h4
  rw [Ti] at h5
  simp only [Pk]
  split at h5
  .rename_i hb
   cases h5
   rw [Af (Fg hb)];exact h2
  .rename_i hb
   cases h5
   rw [Ad (λe=>hb (by rw [e];exact Nat.beq_refl id))];exact h2
 | _=>cases h4;exact h2
theorem E6{s k:Oo}{call:Bg}{es:ES}{Q:ES->Prop} : SW (sq s k) call es Q↔SW s call es λAn=>SW k call An Q:=by
 refine ⟨λ⟨es',h1,h2⟩=>?_,SW.q⟩
 obtain ⟨An,h3,h4⟩:=Jt h1
 exact ⟨An,h3,es',h4,h2⟩
theorem E5{call:Bg}{es:ES}{Q:ES->Prop} : SW sK call es Q↔Q es:=by
 refine ⟨λ⟨es',h1,h2⟩=>?_,SW.z⟩
 have h3:some es=some es':=h1
 cases h3;exact h2
theorem Cn{s:Oo}{l:List Oo}{call:Bg}{es:ES}{Q:ES->Prop} : SW (sL (s::l)) call es Q↔SW s call es λAn=>SW (sL l) call An Q:=E6
theorem Fb{call:Bg}{es:ES}{Q:ES->Prop} : SW (sL []) call es Q↔Q es:=E5
theorem Jv{l:List Oo}{c:CE}{call:Bg}{es:ES}{Q:Exit->ES->Prop} : EW (cT l c) call es Q↔SW (sL l) call es λAn=>EW c call An Q:=ew_s.trans Zj
theorem sw_m{dst:Option Pa}{x:EO}{call:Bg}{es:ES}{Q:ES->Prop} : SW (sM dst x) call es Q↔Q (es.putE dst (Ae es x)):=by
 refine ⟨λ⟨es',h1,h2⟩=>?_,SW.m⟩
 have h3:some (es.putE dst (Ae es x))=some es':=h1
 cases h3;exact h2
theorem Ij{dst:Option Pa}{x:XP}{call:Bg}{es:ES}{Q:ES->Prop} : SW (sX dst x) call es Q↔XW (x es) λd=>Q (es.putE dst d):=by
 refine ⟨λ⟨es',h1,h2⟩=>?_,λ⟨d,h1,h2⟩=>SW.x d h1 h2⟩
 obtain ⟨d,h3,h4⟩:=Jt h1
 have h5:some (es.putE dst d)=some es':=h4
 cases h5
 exact ⟨d,h3,h2⟩
theorem xw_some{d:DV}{Q:DV->Prop} : XW (some d) Q↔Q d:=⟨λ⟨d',h1,h2⟩=>(by cases h1;exact h2),λh=>⟨d,rfl,h⟩⟩
theorem sw_call{f:Nat}{args:List EO}{dst:Option Pa}{call:Bg}{es:ES}{Q:ES->Prop} : SW (Bj f args dst) call es Q↔KW call (.fn f) (args.map (Ae es)) es.hp es.nx λd hp nx=>Q ((ES.mk es.sl hp nx).putE dst d):=by
 have e:Bj f args dst call es=iI (.fn f) (args.map (Ae es)) dst call es:=by unfold Bj Yw;rw [rX]
 constructor
 .rintro ⟨es',h1,h2⟩
  rw [e] at h1
  obtain ⟨⟨d,hp,nx⟩,h3,h4⟩:=Jt h1
  have h5:some ((ES.mk es.sl hp nx).putE dst d)=some es':=h4
  cases h5
  exact ⟨d,hp,nx,h3,h2⟩
 .rintro ⟨d,hp,nx,h1,h2⟩
  exact SW.call d hp nx h1 h2
theorem P1{t:Bool}{A B:Prop} : CW (.v (.bool t)) A B↔(t=true->A)/\(t=false->B):=⟨λ⟨_,h1,h2⟩=>(by cases h1;exact h2),λh=>⟨t,rfl,h⟩⟩
def Ds(op:BinOp)(a b:DV):Option DV:=(Pl op a b).map .v
theorem Jn(op:BinOp)(x y:EO)(es:ES):Av op x y es=Ds op (Ae es x) (Ae es y):=by
 cases hx:Ae es x with
 | v a=>
  cases hy:Ae es y with
  | v b=>
   cases a with
   | int k m=>
    cases b with
    | int k' n=>
     have e:Av op x y es=Zc (Fw (Rq op) (vR op k m n) (Fw (Nat.beq k.ctorIdx k'.ctorIdx) (Rf op k m n) none)):=by unfold Av;rw [hx,hy];rfl
     rw [e,Ti,Ti]
     have hk:(Nat.beq k.ctorIdx k'.ctorIdx=true)↔k=k':=by cases k <;> cases k' <;> simp [IntKind.ctorIdx]
     have Lq:∀ v:Option Value,(∀ w,v=some w->(∃ t,w=.bool t)\/∃ k n,w=.int k n)->Zc v=v.map DV.v:=by
      intro v hv
      cases v with
      | none=>rfl
      | some w=>
       rcases hv w rfl with ⟨t,rfl⟩ | ⟨k,n,rfl⟩
       .exact Cd5 t
       .exact Cx9 k n
     have J0:∀ w,vR op k m n=some w->(∃ t,w=.bool t)\/∃ k n,w=.int k n:=by
      intro w hw
      unfold vR at hw
      split at hw
      .cases hw
      .split at hw <;> first | (cases hw;exact .inr ⟨_,_,rfl⟩) | cases hw
     have hbi:∀ w,Rf op k m n=some w->(∃ t,w=.bool t)\/∃ k n,w=.int k n:=by
      intro w hw
      unfold Rf at hw
      split at hw <;> first | (cases hw;exact .inr ⟨_,_,rfl⟩) | (cases hw;exact .inl ⟨_,rfl⟩) | (split at hw <;> first | (cases hw;exact .inr ⟨_,_,rfl⟩) | cases hw) | cases hw
     simp only [Ds,Pl]
     split
     .exact Lq _ J0
     .by_cases h:k=k'
      .rw [Af (hk.2 h),Af h];exact Lq _ hbi
      .rw [Ad (λh'=>h (hk.1 h')),Ad h];rfl
    | _=>unfold Av;rw [hx,hy];rfl
   | string m=>
    cases b with
    | string n=>
     have e:Av op x y es=Zc (fB op m n):=by unfold Av;rw [hx,hy];rfl
     rw [e]
     simp only [Ds,Pl]
     have N3:∀ w,fB op m n=some w->(∃ t,w=.bool t)\/∃ s,w=.string s:=by
      intro w hw
      unfold fB at hw
      split at hw <;> first | (cases hw;exact .inl ⟨_,rfl⟩) | (split at hw <;> first | (cases hw;exact .inr ⟨_,rfl⟩) | cases hw) | cases hw
     cases hv:fB op m n with
     | none=>rfl
     | some w=>
      rcases N3 w hv with ⟨t,rfl⟩ | ⟨s,rfl⟩
      .exact Cd5 t
      .rfl
    | _=>unfold Av;rw [hx,hy];rfl
   | _=>unfold Av;rw [hx,hy];rfl
  | _=>unfold Av;rw [hx,hy];cases a <;> rfl
 | _=>unfold Av;rw [hx];rfl
theorem Eo{n:Int}(h : -9223372036854775808<=n/\n<=9223372036854775807):IntKind.i64.wrap n=n:=IntWalk.i64_in n h
theorem jN(k:IntKind)(a b:Int):Ds .lss (.v (.int k a)) (.v (.int k b))=some (.v (.bool (decide (a<b)))):=by simp [Ds,Pl,Rq,Rf]
theorem A9(k:IntKind)(a b:Int):Ds .gtr (.v (.int k a)) (.v (.int k b))=some (.v (.bool (decide (a>b)))):=by simp [Ds,Pl,Rq,Rf]
theorem jO(k:IntKind)(a b:Int):Ds .leq (.v (.int k a)) (.v (.int k b))=some (.v (.bool (decide (a<=b)))):=by simp [Ds,Pl,Rq,Rf]
theorem fC(k:IntKind)(a b:Int):Ds .geq (.v (.int k a)) (.v (.int k b))=some (.v (.bool (decide (a≥b)))):=by simp [Ds,Pl,Rq,Rf]
theorem MG(k:IntKind)(a b:Int):Ds .eql (.v (.int k a)) (.v (.int k b))=some (.v (.bool (a==b))):=by simp [Ds,Pl,Rq,Rf]
theorem MF(k:IntKind)(a b:Int):Ds .neq (.v (.int k a)) (.v (.int k b))=some (.v (.bool (a != b))):=by simp [Ds,Pl,Rq,Rf]
theorem B0(k:IntKind)(a b:Int):Ds .add (.v (.int k a)) (.v (.int k b))=some (.v (.int k (k.wrap (a+b)))):=by simp [Ds,Pl,Rq,Rf]
theorem Ml(k:IntKind)(a b:Int):Ds .sub (.v (.int k a)) (.v (.int k b))=some (.v (.int k (k.wrap (a-b)))):=by simp [Ds,Pl,Rq,Rf]
theorem qI(k:IntKind)(a b:Int):Ds .mul (.v (.int k a)) (.v (.int k b))=some (.v (.int k (k.wrap (a*b)))):=by simp [Ds,Pl,Rq,Rf]
end Go.DD

/- Contracts in the evaluator's terms. -/
namespace Go.DD
structure Al (hp:Tr DObj) (nx:Nat) (Ao:Tr DObj) (Bk:Nat):Prop where
 le:nx<=Bk
 same:∀ id,id<nx->Ao.get id=hp.get id
theorem Al.refl(hp:Tr DObj)(nx:Nat):Al hp nx hp nx:=⟨Ai _,λ_ _=>rfl⟩
theorem Al.trans{h1 h2 h3:Tr DObj}{n1 n2 n3:Nat}(a:Al h1 n1 h2 n2)(b:Al h2 n2 h3 n3):Al h1 n1 h3 n3:=
 ⟨Ep a.le b.le,λid h=>by rw [b.same id (by have:=a.le;omega),a.same id h]⟩
def qL(es:ES)(args:List DV):Prop:=∀ i d,args[i]?=some d->Ae es (.t (Cm i))=d
theorem Bv2(args:List DV)(hp:Tr DObj)(nx:Nat):qL ⟨Vp args,hp,nx⟩ args:=λi d h=>by
 have e:Ae ⟨Vp args,hp,nx⟩ (.t (Cm i))=Yn args i:=by
  rw [SA]
  exact wu args i
 rw [e]
 simp [Yn,h]
end Go.DD

/- The evaluator, read with symbols: regions that draw their order. -/
namespace Go.DD
def TW(s:Kd)(call:Bg)(n0 m:Nat)(δ:DSt)(Q:DSt->Prop):Prop:=∃ δ',s call n0 m δ=some δ'/\Q δ'
theorem Cd6{m:Nat}{s:Kd}{call:Bg}{es:ES}{Q:ES->Prop} : SW (Gq m s) call es Q↔TW s call es.nx m ⟨⟨es.sl,es.hp,es.nx+m⟩,[],[],[]⟩ λd=>Qw es.nx m d.ws d.ps=true/\Q d.es:=by
 have e:Gq m s call es=Option.rec (motive:=λ_=>Option ES) none (λd=>Fw (Qw es.nx m d.ws d.ps) (some d.es) none) (s call es.nx m ⟨⟨es.sl,es.hp,es.nx+m⟩,[],[],[]⟩):=by
  unfold Gq;rw [eW,dD]
 constructor
 .rintro ⟨es',h1,h2⟩
  rw [e] at h1
  obtain ⟨d,h3,h4⟩:=Jt h1
  obtain ⟨h5,h6⟩:=fJ h4
  cases h6
  exact ⟨d,h3,h5,h2⟩
 .rintro ⟨d,h1,h2,h3⟩
  exact ⟨d.es,by rw [e,h1];show Fw _ _ _=_;rw [h2];rfl,h3⟩
theorem E2{s k:Kd}{call:Bg}{n0 m:Nat}{δ:DSt}{Q:DSt->Prop} : TW (dq s k) call n0 m δ Q↔TW s call n0 m δ λδ'=>TW k call n0 m δ' Q:=by
 constructor
 .rintro ⟨δ',h1,h2⟩
  obtain ⟨δ1,h3,h4⟩:=Jt h1
  exact ⟨δ1,h3,δ',h4,h2⟩
 .rintro ⟨δ1,h1,δ',h2,h3⟩
  exact ⟨δ',by unfold dq;rw [h1];exact h2,h3⟩
theorem E1{call:Bg}{n0 m:Nat}{δ:DSt}{Q:DSt->Prop} : TW P0 call n0 m δ Q↔Q δ:=by
 constructor
 .rintro ⟨δ',h1,h2⟩
  have h3:some δ=some δ':=h1
  cases h3;exact h2
 .exact λh=>⟨δ,rfl,h⟩
theorem vJ{s:Kd}{l:List Kd}{call:Bg}{n0 m:Nat}{δ:DSt}{Q:DSt->Prop} : TW (dL (s::l)) call n0 m δ Q↔TW s call n0 m δ λδ'=>TW (dL l) call n0 m δ' Q:=E2
theorem vI{call:Bg}{n0 m:Nat}{δ:DSt}{Q:DSt->Prop} : TW (dL []) call n0 m δ Q↔Q δ:=E1
theorem Cd7{an:List Nat}{ps:List Pa}{s:Kd}{call:Bg}{n0 m:Nat}{δ:DSt}{Q:DSt->Prop} : TW (By an ps s) call n0 m δ Q↔Ug (refsL δ.es ps) (λid=>Cs n0 m an δ.es.hp id)=true/\TW s call n0 m δ Q:=by
 constructor
 .rintro ⟨δ',h1,h2⟩
  obtain ⟨h3,h4⟩:=fJ (show Fw _ _ _=_ from h1)
  exact ⟨h3,δ',h4,h2⟩
 .rintro ⟨h1,δ',h2,h3⟩
  exact ⟨δ',by unfold By;rw [h1];exact h2,h3⟩
theorem vL{an:List Nat}{ps:List Pa}{i:Nat}{dst:Option Pa}{x:XP}{call:Bg}{n0 m:Nat}{δ:DSt}{Q:DSt->Prop} : TW (dX an ps i dst x) call n0 m δ Q↔TW (By an ps (Ch i an false false dst (λ_=>x) ps)) call n0 m δ Q:=Da
theorem vK{an:List Nat}{ps:List Pa}{i:Nat}{dst:Option Pa}{x:XP}{call:Bg}{n0 m:Nat}{δ:DSt}{Q:DSt->Prop} : TW (dY an ps i dst x) call n0 m δ Q↔TW (By an ps (Ch i an false true dst (λ_=>x) ps)) call n0 m δ Q:=Da
theorem vM{an:List Nat}{i:Nat}{dst:Option Pa}{p:Pa}{call:Bg}{n0 m:Nat}{δ:DSt}{Q:DSt->Prop} : TW (dP an i dst p) call n0 m δ Q↔TW (By an [p] (Ch i an false false dst (λ_ es=>some (Ae es (.t p))) [p])) call n0 m δ Q:=Da
theorem Bv3{i:Nat}{an:List Nat}{wide c:Bool}{dst:Option Pa}{x:Nat->XP}{ps:List Pa}{call:Bg}{n0 m:Nat}{es:ES}{lo:List Nat}{ws:List Look}{pp:List Past}{Q:DSt->Prop} :
  TW (Ch i an wide c dst x ps) call n0 m ⟨es,lo,ws,pp⟩ Q↔XW (x (n0+i) es) λv=>Q ⟨es.putE dst v,lo,Gt i an wide c (refsL es ps) n0 lo ws,pp⟩:=by
 constructor
 .rintro ⟨δ',h1,h2⟩
  obtain ⟨v,h3,h4⟩:=Jt h1
  have h5:some (⟨es.putE dst v,lo,Gt i an wide c (refsL es ps) n0 lo ws,pp⟩:DSt)=some δ':=h4
  cases h5
  exact ⟨v,h3,h2⟩
 .rintro ⟨v,h1,h2⟩
  have e:Ch i an wide c dst x ps call n0 m ⟨es,lo,ws,pp⟩=Option.rec (motive:=λ_=>Option DSt) none (λv=>some ⟨es.putE dst v,lo,Gt i an wide c (refsL es ps) n0 lo ws,pp⟩) (x (n0+i) es):=rfl
  exact ⟨_,by rw [e,h1],h2⟩
theorem Cd8(i:Nat)(c:Bool)(an refs lo:List Nat)(n0:Nat)(ws:List Look):Gt i an false c refs n0 lo ws=ws:=rfl
theorem ND(n0 m:Nat)(ps:List Past):Qw n0 m [] ps=true:=rfl
theorem Bk6(es:ES):refsL es []=[]:=rfl
theorem fI{hp:Tr DObj}{d:DV}(h:d.refs=[]):Cd hp d=d:=by
 unfold Cd;rw [X7,h];rfl
theorem lQ(es:ES)(t:Nat):es.ds.ev (.tmp t)=Cd es.hp (Ae es (.t (Cm t))):=(mQ es (.tmp t)).symm
theorem Cd9(cs:List DV)(n:Nat):(DV.sl cs n).refs=[]:=rfl
theorem Ce0(v:Value):(DV.v v).refs=[]:=rfl
theorem Ce1(cs:List DV):(DV.ia cs).refs=[]:=rfl
def uF(neg:Bool)(ks:List Nat):DV->DV->Option DV
 | .agg xs,.agg ys=>(Rw ks xs ys).map λb=>.v (.bool (xor neg b))
 | _,_=>none
end Go.DD

/- Lists of records, as their cells lie. -/
namespace Go.DD
end Go.DD

/- The evaluator, read with symbols: guards, choices, parts of tuples; contracts without a heap. -/
namespace Go.DD
def GW(d:DV)(b:Bool)(A B:Prop):Prop:=(∃ c,d=.v (.bool c)/\(c=b->A)/\(c≠b->B))\/(∃ vs,d=.v (.tuple vs)/\B)
theorem XK{p:Pa}{b:Bool}{dst:Option Pa}{s:Oo}{call:Bg}{es:ES}{Q:ES->Prop} : GW (Ae es (.t p)) b (SW s call es Q) (Q (es.putE dst (.v undef)))->SW (sG p b dst s) call es Q:=by
 rintro (⟨c,h1,h2,h3⟩ | ⟨vs,h1,h2⟩)
 .have hw:Ku es p b=some (c==b):=by unfold Ku;rw [h1];rfl
  unfold SW sG
  rw [hw]
  by_cases hc:c=b
  .obtain ⟨es',h4,h5⟩:=h2 hc
   refine ⟨es',?_,h5⟩
   subst hc
   simp only [Ji]
   exact h4
  .refine ⟨_,?_,h3 hc⟩
   have:(c==b)=false:=by simpa using hc
   rw [this]
 .have hw:Ku es p b=some false:=by unfold Ku;rw [h1];rfl
  exact ⟨_,by unfold sG;rw [hw],h2⟩
theorem Oh{p:Pa}{b:Bool}{dst:Option Pa}{s:Oo}{call:Bg}{es:ES}{Q:ES->Prop} : SW (sG p b dst s) call es Q↔GW (Ae es (.t p)) b (SW s call es Q) (Q (es.putE dst (.v undef))):=by
 refine ⟨?_,XK⟩
 rintro ⟨es',h1,h2⟩
 unfold sG at h1
 obtain ⟨c,h3,h4⟩:=Jt h1
 unfold Ku at h3
 obtain ⟨v,hv,h3⟩:=uP h3
 cases v with
 | bool t=>
  refine .inl ⟨t,hv,λe=>?_,λe=>?_⟩
  .have h5:some (t==b)=some c:=h3
   cases h5
   subst e
   simp only [Ji] at h4
   exact ⟨es',h4,h2⟩
  .have h5:some (t==b)=some c:=h3
   cases h5
   have:(t==b)=false:=by simpa using e
   rw [this] at h4
   cases h4
   exact h2
 | tuple vs=>
  refine .inr ⟨vs,hv,?_⟩
  have h5:some false=some c:=h3
  cases h5
  cases h4
  exact h2
 | _=>cases h3
theorem pS{c b:Bool}{A B:Prop} : GW (.v (.bool c)) b A B↔(c=b->A)/\(c≠b->B):=by
 constructor
 .rintro (⟨c',h1,h2⟩ | ⟨vs,h1,_⟩)
  .cases h1;exact h2
  .cases h1
 .exact λh=>.inl ⟨c,rfl,h⟩
theorem KX{b:Bool}{A B:Prop} : GW (.v undef) b A B↔B:=by
 constructor
 .rintro (⟨c',h1,h2⟩ | ⟨vs,_,h⟩)
  .cases h1
  .exact h
 .exact λh=>.inr ⟨_,rfl,h⟩
def Zx(c x y:DV):Option DV:=match c with
 | .v (.bool t)=>some (if t then x else y)
 | _=>none
theorem lO(c x y:EO)(es:ES):Co c x y es=Zx (Ae es c) (Ae es x) (Ae es y):=by
 unfold Co
 cases Ae es c with
 | v a=>cases a <;> first | rfl | (rename_i t;cases t <;> rfl)
 | _=>rfl
theorem mO(t:Bool)(x y:DV):Zx (.v (.bool t)) x y=some (if t then x else y):=rfl
def E0(op:UnOp)(x:DV):Option DV:=match x with
 | .v v=>(AV op (.v v)).map .v
 | _=>none
theorem dE(op:UnOp)(x:EO)(es:ES):Qs op x es=E0 op (Ae es x):=by
 unfold Qs
 cases Ae es x with
 | v a=>
  show Zc _=_
  rw [UD];rfl
 | _=>rfl
def qG(rel:Nat->List DV->Option DV):Bg:=λtg ds hp nx=>match tg with
 | .fn f=>match rel f ds with
  | some d=>some (d,hp,nx)
  | none=>none
 | .yl _=>none
theorem Bk7{P:Program}{rel:Nat->List DV->Option DV}(h:∀ f ds d,rel f ds=some d->Known P f ds d):Vs P (qG rel):=by
 intro tg ds hp nx d Ao Bk hc _
 cases tg with
 | yl id=>cases hc
 | fn f=>
  have Kz:(match rel f ds with
   | some d=>some (d,hp,nx)
   | none=>none)=some (d,Ao,Bk):=hc
  split at Kz
  .rename_i d0 hd
   cases Kz
   obtain ⟨k1,k2,k3⟩:=h f ds d hd
   exact ⟨Ai _,λid h2 h3=>absurd h2 h3,k1,λsv K hK=>.inr ⟨_,k2,k3,hK⟩⟩
  .cases Kz
end Go.DD

/- The evaluator, read with symbols: steps that lay or write; loops counted upwards; contracts by families. -/
namespace Go.DD
open Go
theorem EW.up{c:CE}{call:Bg}{Q:Exit->ES->Prop}(n:Nat)(St:Nat->ES->Prop)(step:∀ i es,i<=n->St i es->EW c call es (Og (λAn=>i<n/\St (i+1) An) Q)){k:Nat}{es:ES}(h0:St 0 es)(hk:n<k):EW (cL k c) call es Q:=
 EW.l (I:=λm es=>∃ i,m=n-i/\i<=n/\St i es) (by
  rintro m es ⟨i,rfl,hi,hs⟩
  refine (step i es hi hs).mono λe An h=>?_
  cases e with
  | normal=>obtain ⟨Ez,Mz⟩:=h;exact ⟨n-(i+1),by omega,i+1,rfl,by omega,Mz⟩
  | _=>exact h) n k es ⟨0,rfl,by omega,h0⟩ hk
def UW(x:Option (DV×Upd))(K:DV->Upd->Prop):Prop:=∃ d u,x=some (d,u)/\K d u
theorem Q6{d:DV}{u:Upd}{K:DV->Upd->Prop} : UW (some (d,u)) K↔K d u:=⟨λ⟨_,_,h1,h2⟩=>(by cases h1;exact h2),λh=>⟨d,u,rfl,h⟩⟩
def ES.up(es:ES)(u:Upd):ES:=⟨es.sl,Mc es.hp es.nx u,if u.new then es.nx+1 else es.nx⟩
theorem aO(es:ES)(o:DObj):es.up (.lay o)=⟨es.sl,Ki es.hp es.nx (some o),es.nx+1⟩:=rfl
theorem Kh(es:ES)(id:Nat)(o:DObj):es.up (.wr id o)=⟨es.sl,Ki es.hp id (some o),es.nx⟩:=rfl
theorem Ce2(es:ES)(o:DObj):es.up (.mv none o)=⟨es.sl,Ki es.hp es.nx (some o),es.nx+1⟩:=rfl
theorem Ce3(es:ES)(i:Nat)(o:DObj):es.up (.mv (some i) o)=⟨es.sl,Ki (Ki es.hp i none) es.nx (some o),es.nx+1⟩:=rfl
theorem sw_u{dst:Option Pa}{x:XU}{call:Bg}{es:ES}{Q:ES->Prop} : SW (sU dst x) call es Q↔UW (x es es.nx) λd u=>Q ((es.up u).putE dst d):=by
 have key:∀ d u,x es es.nx=some (d,u)->sU dst x call es=some ((es.up u).putE dst d):=by
  intro d u h
  unfold sU
  rw [h]
  show es.cs (λsl hp nx=>Fw u.new (bY (nx+1) λn=>some ((ES.mk sl (Mc hp nx u) n).putE dst d)) (some ((ES.mk sl (Mc hp nx u) nx).putE dst d)))=_
  rw [eW,dD,Ti]
  unfold ES.up
  cases u.new <;> rfl
 constructor
 .rintro ⟨es',h1,h2⟩
  cases hx:x es es.nx with
  | none=>
   have:sU dst x call es=none:=by unfold sU;rw [hx]
   rw [this] at h1;cases h1
  | some p=>
   obtain ⟨d,u⟩:=p
   rw [key d u hx] at h1
   cases h1
   exact ⟨d,u,rfl,h2⟩
 .rintro ⟨d,u,h1,h2⟩
  exact ⟨_,key d u h1,h2⟩
theorem Fi(o:DOp)(es:ES)(nid:Nat):Bd o es nid=Ay nid es.ds o:=rfl
theorem get_set(t:Tr DObj)(k j:Nat)(v:Option DObj):(Ki t k v).get j=if j=k then v else t.get j:=by rw [C8]
theorem Ns(hp:Tr DObj)(v:Value):Cd hp (.v v)=.v v:=fI rfl
theorem Bv4(hp:Tr DObj)(cs:List DV)(n:Nat):Cd hp (.sl cs n)=.sl cs n:=fI rfl
theorem Bv5(hp:Tr DObj)(cs:List DV):Cd hp (.ia cs)=.ia cs:=fI rfl
theorem Wc{hp:Tr DObj}{d:DV}(h:∀ id∈d.refs,(hp.get id).isSome=true):Cd hp d=d:=by
 unfold Cd
 rw [X7,NH,Ti,Af]
 rw [Bi]
 intro id hi
 rw [qT,La]
 exact h id hi
theorem Rl{hp:Tr DObj}{id off n es:Nat}{o:DObj}(h:hp.get id=some o):Cd hp (.ms id off n es)=.ms id off n es:=Wc λi hi=>by
 have:i=id:=by simpa [DV.refs] using hi
 rw [this,h];rfl
theorem Rk{hp:Tr DObj}{id off:Nat}{o:DObj}(h:hp.get id=some o):Cd hp (.pt id off)=.pt id off:=Wc λi hi=>by
 have:i=id:=by simpa [DV.refs] using hi
 rw [this,h];rfl
theorem Yq{hp:Tr DObj}{id:Nat}{o:DObj}(h:hp.get id=some o):Cd hp (.mp id)=.mp id:=Wc λi hi=>by
 have:i=id:=by simpa [DV.refs] using hi
 rw [this,h];rfl
def gG:DV->Option DV
 | .v (.string b)=>some (.v (.int .i64 b.size))
 | _=>none
def Rp:DV->DV->Option DV
 | .v (.string b),.v (.int _ j)=>if 0<=j then (b[j.toNat]?).map λc=>.v (.int .u8 (c.toNat:Int)) else none
 | _,_=>none
def Iw(x:Option DV):Option (DV×Upd):=x.map λd=>(d,.keep)
theorem Bv6{d:DV}{K:DV->Upd->Prop} : UW (Iw (some d)) K↔K d .keep:=Q6
theorem AJ{t:Nat}{es:ES}{nid:Nat} : Bd (.lns (.tmp t)) es nid=Iw (gG (Cd es.hp (Ae es (.t (Cm t))))):=by
 rw [Fi,<- lQ]
 simp only [Ay]
 cases es.ds.ev (.tmp t) with
 | v x=>cases x <;> rfl
 | _=>rfl
theorem AK{t u:Nat}{es:ES}{nid:Nat} : Bd (.ixs (.tmp t) (.tmp u)) es nid=Iw (Rp (Cd es.hp (Ae es (.t (Cm t)))) (Cd es.hp (Ae es (.t (Cm u))))):=by
 rw [Fi,<- lQ,<- lQ]
 simp only [Ay]
 cases es.ds.ev (.tmp t) with
 | v x=>cases x <;> cases es.ds.ev (.tmp u) with
  | v y=>cases y <;> first | rfl | (simp only [Lh,Rp,Iw];split <;> first | rfl | (cases ByteArray.get? _ _ <;> rfl) | (simp only [Option.map_map];rfl))
  | _=>rfl
 | _=>cases es.ds.ev (.tmp u) with
  | v y=>cases y <;> rfl
  | _=>rfl
def sO:DV->Option DV
 | .v (.string b)=>some (.sl (b.data.toList.map λc=>.v (.int .u8 (c.toNat:Int))) b.size)
 | _=>none
theorem AI{t:Nat}{es:ES}{nid:Nat} : Bd (.s2b (.tmp t)) es nid=Iw (sO (Cd es.hp (Ae es (.t (Cm t))))):=by
 rw [Fi,<- lQ]
 simp only [Ay]
 cases es.ds.ev (.tmp t) with
 | v x=>cases x <;> rfl
 | _=>rfl
end Go.DD

/- The evaluator, read with symbols: guarded steps as data, not as branches; operations that lay nothing as data. -/
namespace Go.DD
open Go
theorem nr{α:Sort _}{a b:α}(h:a=b):a=b:=h
@[congr] theorem LL{c:CE}{call:Bg}{es es':ES}{Q:Exit->ES->Prop}(h:es=es'):EW c call es Q=EW c call es' Q:=by rw [h]
@[congr] theorem BQ{s:Oo}{call:Bg}{es es':ES}{Q:ES->Prop}(h:es=es'):SW s call es Q=SW s call es' Q:=by rw [h]
@[congr] theorem AG{x x':Option DV}{K:DV->Prop}(h:x=x'):XW x K=XW x' K:=by rw [h]
@[congr] theorem AQ{x x':Option (DV×Upd)}{K:DV->Upd->Prop}(h:x=x'):UW x K=UW x' K:=by rw [h]
@[congr] theorem GI{call:Bg}{tg:Tg}{ds fP:List DV}{hp Ao:Tr DObj}{nx Bk:Nat}{K:DV->Tr DObj->Nat->Prop}(h1:ds=fP)(h2:hp=Ao)(h3:nx=Bk):KW call tg ds hp nx K=KW call tg fP Ao Bk K:=by rw [h1,h2,h3]
@[congr] theorem LP{d d':DV}{A B:Prop}(h:d=d'):CW d A B=CW d' A B:=by rw [h]
@[congr] theorem KY{d d':DV}{b:Bool}{A B:Prop}(h:d=d'):GW d b A B=GW d' b A B:=by rw [h]
@[congr] theorem BF{s:Kd}{call:Bg}{n0 m:Nat}{d d':DSt}{Q:DSt->Prop}(h:d=d'):TW s call n0 m d Q=TW s call n0 m d' Q:=by rw [h]
@[congr] theorem E3{n:ES->Prop}{Q:Exit->ES->Prop}{e:Exit}{es:ES} : Og n Q e es=Og n Q e es:=nr rfl
@[congr] theorem V3{i:Nat}{Q:Exit->ES->Prop}{e:Exit}{es:ES} : Pk i Q e es=Pk i Q e es:=nr rfl
theorem Wb{n:ES->Prop}{Q:Exit->ES->Prop}{es:ES} : Og n Q .normal es=n es:=nr rfl
theorem Q3{n:ES->Prop}{Q:Exit->ES->Prop}{es:ES} : Og n Q .ret es=Q .ret es:=nr rfl
theorem RX{n:ES->Prop}{Q:Exit->ES->Prop}{i:Nat}{es:ES} : Og n Q (.exit i) es=Q (.exit i) es:=nr rfl
theorem fA{i:Nat}{Q:Exit->ES->Prop}{es:ES} : Pk i Q .normal es=Q .normal es:=nr rfl
theorem eZ{i:Nat}{Q:Exit->ES->Prop}{es:ES} : Pk i Q .ret es=Q .ret es:=nr rfl
theorem jM{i:Nat}{Q:Exit->ES->Prop}{es:ES} : Pk i Q (.exit i) es=Q .normal es:=by simp [Pk]
theorem A5{i j:Nat}{Q:Exit->ES->Prop}{es:ES}(h:j≠i):Pk i Q (.exit j) es=Q (.exit j) es:=by simp [Pk,h]
def mk1(d:DV):Option DV:=some d
theorem Mg(d:DV):mk1 d=some d:=nr rfl
theorem Dy{dst:Option Pa}{x:EO}{call:Bg}{es:ES}{Q:ES->Prop} : SW (sM dst x) call es Q↔XW (mk1 (Ae es x)) λd=>Q (es.putE dst d):=sw_m.trans (xw_some (Q:=λd=>Q (es.putE dst d))).symm
def eR(g:DV)(b:Bool)(x:Option DV):Option DV:=match g with
 | .v (.bool c)=>if c=b then x else some (.v undef)
 | .v (.tuple _)=>some (.v undef)
 | _=>none
theorem Bv7{es:ES}{p:Pa}{b c:Bool}(h:Ku es p b=some c):(∃ t,Ae es (.t p)=.v (.bool t)/\c=(t==b))\/(∃ vs,Ae es (.t p)=.v (.tuple vs)/\c=false):=by
 unfold Ku at h
 obtain ⟨v,hv,h⟩:=uP h
 cases v with
 | bool t=>
  have h5:some (t==b)=some c:=h
  cases h5
  exact .inl ⟨t,hv,rfl⟩
 | tuple vs=>
  have h5:some false=some c:=h
  cases h5
  exact .inr ⟨vs,hv,rfl⟩
 | _=>cases h
theorem nC{p:Pa}{b:Bool}{dst:Option Pa}{s:Oo}{X:ES->Option DV}{call:Bg}{es:ES}{Q:ES->Prop}
  (hs:∀ Q:ES->Prop,SW s call es Q↔XW (X es) λd=>Q (es.putE dst d)):SW (sG p b dst s) call es Q↔XW (eR (Ae es (.t p)) b (X es)) λd=>Q (es.putE dst d):=by
 rw [Oh]
 constructor
 .rintro (⟨c,h1,h2,h3⟩ | ⟨vs,h1,h2⟩)
  .rw [h1]
   simp only [eR]
   by_cases hc:c=b
   .rw [Af hc];exact (hs Q).1 (h2 hc)
   .rw [Ad hc];exact ⟨_,rfl,h3 hc⟩
  .rw [h1];exact ⟨_,rfl,h2⟩
 .rintro ⟨d,h1,h2⟩
  unfold eR at h1
  split at h1
  .rename_i c hr
   refine .inl ⟨c,hr,λhc=>?_,λhc=>?_⟩
   .rw [Af hc] at h1;exact (hs Q).2 ⟨d,h1,h2⟩
   .rw [Ad hc] at h1;cases h1;exact h2
  .rename_i vs hr
   cases h1
   exact .inr ⟨_,hr,h2⟩
  .cases h1
theorem BN{p:Pa}{b:Bool}{dst:Option Pa}{x:XP}{call:Bg}{es:ES}{Q:ES->Prop} : SW (sG p b dst (sX dst x)) call es Q↔XW (eR (Ae es (.t p)) b (x es)) λd=>Q (es.putE dst d):=nC λ_=>Ij
theorem BO{p:Pa}{b:Bool}{dst:Option Pa}{x:EO}{call:Bg}{es:ES}{Q:ES->Prop} : SW (sG p b dst (sM dst x)) call es Q↔XW (eR (Ae es (.t p)) b (some (Ae es x))) λd=>Q (es.putE dst d):=
 nC (X:=λes=>some (Ae es x)) λQ=>by rw [sw_m];exact (xw_some (Q:=λd=>Q (es.putE dst d))).symm
theorem TX{dst:Option Pa}{x:XU}{X:XP}(h:∀ es nid,x es nid=Iw (X es)):sU dst x=sX dst X:=by
 funext call es
 unfold sU sX
 rw [h]
 unfold Iw
 cases X es with
 | none=>rfl
 | some d=>
  show es.cs (λsl hp nx=>Fw Upd.keep.new (bY (nx+1) λn=>some ((ES.mk sl (Mc hp nx .keep) n).putE dst d)) (some ((ES.mk sl (Mc hp nx .keep) nx).putE dst d)))=_
  rfl
def sE(t:Nat):XP:=λes=>gG (Cd es.hp (Ae es (.t (Cm t))))
def sF(t u:Nat):XP:=λes=>Rp (Cd es.hp (Ae es (.t (Cm t)))) (Cd es.hp (Ae es (.t (Cm u))))
def D5(t:Nat):XP:=λes=>sO (Cd es.hp (Ae es (.t (Cm t))))
theorem sf{dst:Option Pa}{t:Nat}{call:Bg}{es:ES}{Q:ES->Prop} : SW (sU dst (Bd (.lns (.tmp t)))) call es Q↔XW (sE t es) λd=>Q (es.putE dst d):=by rw [TX (X:=sE t) λ_ _=>AJ];exact Ij
theorem se{dst:Option Pa}{t u:Nat}{call:Bg}{es:ES}{Q:ES->Prop} : SW (sU dst (Bd (.ixs (.tmp t) (.tmp u)))) call es Q↔XW (sF t u es) λd=>Q (es.putE dst d):=by rw [TX (X:=sF t u) λ_ _=>AK];exact Ij
theorem Ce4{dst:Option Pa}{t:Nat}{call:Bg}{es:ES}{Q:ES->Prop} : SW (sU dst (Bd (.s2b (.tmp t)))) call es Q↔XW (D5 t es) λd=>Q (es.putE dst d):=by rw [TX (X:=D5 t) λ_ _=>AI];exact Ij
theorem Vx(b:Bool):E0 .not (.v (.bool b))=some (.v (.bool !b)):=nr rfl
theorem FF(k:IntKind)(n:Int):E0 .neg (.v (.int k n))=some (.v (.int k (k.wrap (0-n)))):=nr rfl
theorem Px(es:ES)(d:DV):Ae es (.c d)=d:=nr rfl
theorem Dl(es:ES)(hp:Tr DObj)(nx:Nat)(p:Pa):Ae (ES.mk es.sl hp nx) (.t p)=Ae es (.t p):=nr rfl
theorem wZ(b:ByteArray):gG (.v (.string b))=some (.v (.int .i64 b.size)):=nr rfl
theorem wT(b:ByteArray):sO (.v (.string b))=some (.sl (b.data.toList.map λc=>.v (.int .u8 (c.toNat:Int))) b.size):=nr rfl
theorem FD(es:ES):es.up .keep=es:=nr rfl
theorem Ce5(t:Nat)(es:ES):sE t es=gG (Cd es.hp (Ae es (.t (Cm t)))):=nr rfl
theorem Ce6(t u:Nat)(es:ES):sF t u es=Rp (Cd es.hp (Ae es (.t (Cm t)))) (Cd es.hp (Ae es (.t (Cm u)))):=nr rfl
theorem Ce7(t:Nat)(es:ES):D5 t es=sO (Cd es.hp (Ae es (.t (Cm t)))):=nr rfl
theorem Cn7{p:Pa}{b:Bool}{dst:Option Pa}{t:Nat}{call:Bg}{es:ES}{Q:ES->Prop} : SW (sG p b dst (sU dst (Bd (.lns (.tmp t))))) call es Q↔XW (eR (Ae es (.t p)) b (sE t es)) λd=>Q (es.putE dst d):=nC λ_=>sf
theorem Cn8{p:Pa}{b:Bool}{dst:Option Pa}{t u:Nat}{call:Bg}{es:ES}{Q:ES->Prop} : SW (sG p b dst (sU dst (Bd (.ixs (.tmp t) (.tmp u))))) call es Q↔XW (eR (Ae es (.t p)) b (sF t u es)) λd=>Q (es.putE dst d):=nC λ_=>se
section
variable {c:Bool}
theorem lk{x:Option DV} : eR (.v (.bool c)) true x=if c=true then x else some (.v undef):=nr rfl
theorem lr{x:Option DV} : eR (.v (.bool c)) false x=if c=true then some (.v undef) else x:=by cases c <;> rfl
theorem lj{b:Bool}{x:Option DV} : eR (.v undef) b x=some (.v undef):=nr rfl
theorem lq{a a':DV}{b:Bool}{x:Option DV} : eR (if c=true then a else a') b x=if c=true then eR a b x else eR a' b x:=by cases c <;> rfl
theorem Cy0{a b:DV} : (if c=true then some a else some b)=some (if c=true then a else b):=by cases c <;> rfl
theorem av{α:Type}{a b d:α} : (if c=true then (if c=true then a else b) else d)=if c=true then a else d:=by cases c <;> rfl
theorem az{α:Type}{a b d:α} : (if c=true then a else (if c=true then b else d))=if c=true then a else d:=by cases c <;> rfl
theorem Cy1{op:BinOp}{a b y:DV} : Ds op (if c=true then a else b) y=if c=true then Ds op a y else Ds op b y:=by cases c <;> rfl
theorem Cy2{op:BinOp}{a b y:DV} : Ds op y (if c=true then a else b)=if c=true then Ds op y a else Ds op y b:=by cases c <;> rfl
theorem au{op:UnOp}{a b:DV} : E0 op (if c=true then a else b)=if c=true then E0 op a else E0 op b:=by cases c <;> rfl
theorem Cn9{a b x y:DV} : Zx (if c=true then a else b) x y=if c=true then Zx a x y else Zx b x y:=by cases c <;> rfl
theorem Cy3{hp:Tr DObj}{a b:DV} : Cd hp (if c=true then a else b)=if c=true then Cd hp a else Cd hp b:=by cases c <;> rfl
theorem GR{a b:DV} : gG (if c=true then a else b)=if c=true then gG a else gG b:=by cases c <;> rfl
theorem Cy4{a b y:DV} : Rp (if c=true then a else b) y=if c=true then Rp a y else Rp b y:=by cases c <;> rfl
theorem Cy5{a b y:DV} : Rp y (if c=true then a else b)=if c=true then Rp y a else Rp y b:=by cases c <;> rfl
theorem aq{x y:Bool} : (if c=true then DV.v (.bool x) else .v (.bool y))=.v (.bool (if c=true then x else y)):=by cases c <;> rfl
theorem aw{w:Bool} : (if c=true then true else w)=(c||w):=by cases c <;> rfl
theorem GX{w:Bool} : (if c=true then w else false)=(c&&w):=by cases c <;> rfl
end
theorem Cy6(t:Bool)(x y:DV):Zx (.v (.bool t)) x y=some (if t=true then x else y):=by cases t <;> rfl
def mL(hp:Tr DObj)(id:Nat):Bool:=(hp.get id).isSome
def Qo(hp:Tr DObj)(x:DV):Option DV:=match x with
 | .sl _ n=>some (.v (.int .i64 n))
 | .v (.slice none n _)=>some (.v (.int .i64 n))
 | .ms id _ n _=>if mL hp id=true then some (.v (.int .i64 n)) else none
 | _=>none
def Rr(hp:Tr DObj)(es:Nat)(x i:DV):Option DV:=match i with
 | .v (.int _ j)=>match x with
  | .sl cs n=>if 0<=j/\j<n then some (.ia (cs.drop (j.toNat*es))) else none
  | .ms id off n _=>if mL hp id=true/\0<=j/\j<n then some (.pt id (off+j.toNat*es)) else none
  | _=>none
 | _=>none
def Gl(hp:Tr DObj)(k:Option Nat)(x:DV):Option DV:=match x with
 | .ia cs=>Iu k cs
 | .pt id off=>match hp.get id with
  | some (.row _ cs)=>Iu k (cs.drop off)
  | _=>none
 | _=>none
def On(hp:Tr DObj)(off:Nat)(x:DV):Option DV:=match x with
 | .ia cs=>some (.ia (cs.drop off))
 | .pt id o=>if mL hp id=true then some (.pt id (o+off)) else none
 | _=>none
theorem Zp(x:EO)(es:ES):Dp x es=Qo es.hp (Ae es x):=by
 unfold Dp Qo
 cases Ae es x with
 | v a=>
  cases a with
  | slice a n c=>cases a <;> rfl
  | _=>rfl
 | sl cs n=>show bY n (λn=>some (DV.v (.int .i64 (.ofNat n))))=some (DV.v (.int .i64 n));rw [dD];rfl
 | ms id off n es'=>
  show Fw (Sa (gN es.hp id)) (bY n λn=>some (DV.v (.int .i64 (.ofNat n)))) (none:Option DV)=if mL es.hp id=true then some (DV.v (.int .i64 n)) else none
  rw [dD,Ti,qT,La];rfl
 | _=>rfl
theorem Ce8{α:Type}(j:Int)(n:Nat)(f:Nat->Option α):uI j n f none=if 0<=j/\j<n then f j.toNat else none:=by
 cases j with
 | ofNat m=>
  show Fw (Nat.blt m n) (f m) none=_
  rw [Ti]
  by_cases h:m<n
  .rw [Af (by simpa [Lb] using h),Af ⟨by simp,by simpa using h⟩];rfl
  .rw [Ad (by simpa [Lb] using h),Ad (λhh=>h (by simpa using hh.2))]
 | negSucc m=>
  rw [Ad (λhh=>absurd hh.1 (by simp))];rfl
theorem D4(es':Nat)(x i:EO)(es:ES):Gf es' x i es=Rr es.hp es' (Ae es x) (Ae es i):=by
 unfold Gf Rr
 cases Ae es i with
 | v a=>
  cases a with
  | int k j=>
   show RP (Ae es x) _ _ _ _=_
   cases Ae es x with
   | sl cs n=>show uI j n (λm=>some (DV.ia (Ls (m*es') cs))) none=_;rw [Ce8];simp only [jU]
   | ms id off n e=>
    show Fw (Sa (gN es.hp id)) (uI j n (λm=>bY (off+m*es') λo=>some (DV.pt id o)) none) none=_
    rw [Ti,qT,La,Ce8]
    simp only [dD,mL]
    by_cases h1:(es.hp.get id).isSome=true <;> by_cases h2:0<=j/\j<n <;> simp [h1,h2]
   | _=>rfl
  | _=>rfl
 | _=>rfl
theorem aW(k:Option Nat)(x:EO)(es:ES):Cj k x es=Gl es.hp k (Ae es x):=by
 unfold Cj Gl
 cases Ae es x with
 | ia cs=>exact X6 k cs
 | pt id off=>
  show Ym es.hp id (λ_ cs=>Tq k (Ls off cs)) (none:Option DV)=match es.hp.get id with
   | some (.row _ cs)=>Iu k (cs.drop off)
   | _=>none
  unfold Ym
  rw [La]
  cases es.hp.get id with
  | none=>rfl
  | some o=>
   cases o with
   | row T cs=>show Tq k (Ls off cs)=Iu k (cs.drop off);rw [X6,jU]
   | _=>rfl
 | _=>rfl
theorem dF(off:Nat)(x:EO)(es:ES):Eg off x es=On es.hp off (Ae es x):=by
 unfold Eg On
 cases Ae es x with
 | ia cs=>show some (DV.ia (Ls off cs))=_;rw [jU]
 | pt id o=>
  show Fw (Sa (gN es.hp id)) (bY (o+off) λn=>some (DV.pt id n)) none=_
  rw [Ti,qT,La,dD];rfl
 | _=>rfl
theorem xF(hp:Tr DObj)(cs:List DV)(n:Nat):Qo hp (.sl cs n)=some (.v (.int .i64 n)):=nr rfl
theorem ao{hp:Tr DObj}{es n i:Nat}{k:IntKind}{cs:List DV}(h:i<n):Rr hp es (.sl cs n) (.v (.int k (i:Int)))=some (.ia (cs.drop (i*es))):=by
 show (if 0<=(i:Int)/\(i:Int)<n then some (DV.ia (cs.drop ((i:Int).toNat*es))) else none)=_
 rw [Af ⟨by omega,by omega⟩];rfl
theorem GF(hp:Tr DObj)(k:Option Nat)(cs:List DV):Gl hp k (.ia cs)=Iu k cs:=nr rfl
theorem Ro{hp:Tr DObj}{k:Option Nat}{id off:Nat}{T:TypeId}{cs:List DV}(h:hp.get id=some (.row T cs)):Gl hp k (.pt id off)=Iu k (cs.drop off):=by
 unfold Gl;simp only [h]
theorem O8(hp:Tr DObj)(off:Nat)(cs:List DV):On hp off (.ia cs)=some (.ia (cs.drop off)):=nr rfl
theorem Qq{hp:Tr DObj}{id o off:Nat}{x:DObj}(h:hp.get id=some x):On hp off (.pt id o)=some (.pt id (o+off)):=by
 unfold On mL;simp only [h];rfl
section
variable {c:Bool}
theorem GS{hp:Tr DObj}{a b:DV} : Qo hp (if c=true then a else b)=if c=true then Qo hp a else Qo hp b:=by cases c <;> rfl
theorem GV{hp:Tr DObj}{es:Nat}{a b y:DV} : Rr hp es (if c=true then a else b) y=if c=true then Rr hp es a y else Rr hp es b y:=by cases c <;> rfl
theorem GU{hp:Tr DObj}{es:Nat}{a b y:DV} : Rr hp es y (if c=true then a else b)=if c=true then Rr hp es y a else Rr hp es y b:=by cases c <;> rfl
theorem ax{hp:Tr DObj}{k:Option Nat}{a b:DV} : Gl hp k (if c=true then a else b)=if c=true then Gl hp k a else Gl hp k b:=by cases c <;> rfl
theorem ay{hp:Tr DObj}{k:Nat}{a b:DV} : On hp k (if c=true then a else b)=if c=true then On hp k a else On hp k b:=by cases c <;> rfl
end
end Go.DD

/- The evaluator, read with symbols: the operations one by one; own rows, maps, strings' iterators; calls of function values; calls in drawn regions. -/
namespace Go.DD
open Go
theorem aY{dst:Option Pa}{x:XU}{X:XP}(h:∀ es nid,x es nid=Iw (X es)){call:Bg}{es:ES}{Q:ES->Prop} : SW (sU dst x) call es Q↔XW (X es) λd=>Q (es.putE dst d):=by
 rw [TX h];exact Ij
theorem mX{p:Pa}{b:Bool}{dst:Option Pa}{x:XU}{X:XP}(h:∀ es nid,x es nid=Iw (X es)){call:Bg}{es:ES}{Q:ES->Prop} : SW (sG p b dst (sU dst x)) call es Q↔XW (eR (Ae es (.t p)) b (X es)) λd=>Q (es.putE dst d):=nC λ_=>aY h
theorem Cg(es:ES)(t:Nat):es.ds.ev (.tmp t)=Cd es.hp (Ae es (.t (Cm t))):=nr (lQ es t)
theorem xA(es:ES)(v:Value):es.ds.ev (.const v)=Qt v:=nr rfl
theorem wX(k:IntKind)(n:Int):Qt (.int k n)=.v (.int k n):=nr rfl
theorem wY(b:Bool):Qt (.bool b)=.v (.bool b):=nr rfl
theorem wU(b:ByteArray):Qt (.string b)=.v (.string b):=nr rfl
theorem wW(n m:Nat):Qt (.slice none n m)=.v (.slice none n m):=nr rfl
theorem wV:Qt (.pointer none)=.v (.pointer none):=nr rfl
theorem NC(hp:Tr DObj)(f:Nat):Cd hp (.fn (.func f) [.tup []])=.fn (.func f) [.tup []]:=nr (fI rfl)
def tA(mx:Bool)(x y:DV):Option DV:=match x,y with
 | .v (.int k a),.v (.int _ b)=>some (.v (.int k (if mx then (if b>a then b else a) else (if b<a then b else a))))
 | _,_=>none
def MD(neg:Bool)(x y:DV):Option DV:=match x,y with
 | .v (.bool a),.v (.bool b)=>some (.v (.bool (xor neg (a==b))))
 | _,_=>none
def Wz(k:IntKind)(x:DV):Option DV:=match x with
 | .v (.int _ n)=>some (.v (.int k (k.wrap n)))
 | _=>none
theorem I1(b:Bool)(x y:Operand)(es:ES)(nid:Nat):Bd (.mm b x y) es nid=Iw (tA b (es.ds.ev x) (es.ds.ev y)):=by
 rw [Fi];simp only [Ay]
 cases es.ds.ev x with
 | v a=>cases a <;> cases es.ds.ev y with
  | v c=>cases c <;> rfl
  | _=>rfl
 | _=>cases es.ds.ev y <;> rfl
theorem GP(b:Bool)(x y:Operand)(es:ES)(nid:Nat):Bd (.bb b x y) es nid=Iw (MD b (es.ds.ev x) (es.ds.ev y)):=by
 rw [Fi];simp only [Ay]
 cases es.ds.ev x with
 | v a=>cases a <;> cases es.ds.ev y with
  | v c=>cases c <;> rfl
  | _=>rfl
 | _=>cases es.ds.ev y <;> rfl
theorem GO(neg:Bool)(ks:List Nat)(x y:Operand)(es:ES)(nid:Nat):Bd (.eqs neg ks x y) es nid=Iw (uF neg ks (es.ds.ev x) (es.ds.ev y)):=by
 rw [Fi];simp only [Ay]
 cases es.ds.ev x with
 | agg xs=>cases es.ds.ev y with
  | agg ys=>show (Rw ks xs ys).map _=Iw ((Rw ks xs ys).map _);cases Rw ks xs ys <;> rfl
  | _=>rfl
 | _=>cases es.ds.ev y <;> rfl
theorem yA(k:IntKind)(x:Operand)(es:ES)(nid:Nat):Bd (.cvi k x) es nid=Iw (Wz k (es.ds.ev x)):=by
 rw [Fi];simp only [Ay]
 cases es.ds.ev x with
 | v a=>cases a <;> rfl
 | _=>rfl
theorem GN(f:Fn)(fst cap:List Operand)(es:ES)(nid:Nat):Bd (.mkf f fst cap) es nid=Iw (some (.fn f (.tup (fst.map es.ds.ev)::cap.map es.ds.ev))):=rfl
theorem vO{dst:Option Pa}{b:Bool}{x y:Operand}{call:Bg}{es:ES}{Q:ES->Prop} : SW (sU dst (Bd (.mm b x y))) call es Q↔XW (tA b (es.ds.ev x) (es.ds.ev y)) λd=>Q (es.putE dst d):=aY (I1 b x y)
theorem Cy7{p:Pa}{g:Bool}{dst:Option Pa}{b:Bool}{x y:Operand}{call:Bg}{es:ES}{Q:ES->Prop} : SW (sG p g dst (sU dst (Bd (.mm b x y)))) call es Q↔XW (eR (Ae es (.t p)) g (tA b (es.ds.ev x) (es.ds.ev y))) λd=>Q (es.putE dst d):=mX (I1 b x y)
theorem vP{dst:Option Pa}{b:Bool}{x y:Operand}{call:Bg}{es:ES}{Q:ES->Prop} : SW (sU dst (Bd (.bb b x y))) call es Q↔XW (MD b (es.ds.ev x) (es.ds.ev y)) λd=>Q (es.putE dst d):=aY (GP b x y)
theorem Cy8{p:Pa}{g:Bool}{dst:Option Pa}{b:Bool}{x y:Operand}{call:Bg}{es:ES}{Q:ES->Prop} : SW (sG p g dst (sU dst (Bd (.bb b x y)))) call es Q↔XW (eR (Ae es (.t p)) g (MD b (es.ds.ev x) (es.ds.ev y))) λd=>Q (es.putE dst d):=mX (GP b x y)
theorem ua{dst:Option Pa}{k:IntKind}{x:Operand}{call:Bg}{es:ES}{Q:ES->Prop} : SW (sU dst (Bd (.cvi k x))) call es Q↔XW (Wz k (es.ds.ev x)) λd=>Q (es.putE dst d):=aY (yA k x)
theorem Ce9{dst:Option Pa}{f:Fn}{fst cap:List Operand}{call:Bg}{es:ES}{Q:ES->Prop} : SW (sU dst (Bd (.mkf f fst cap))) call es Q↔XW (some (.fn f (.tup (fst.map es.ds.ev)::cap.map es.ds.ev))) λd=>Q (es.putE dst d):=aY (GN f fst cap)
theorem Cf0(k k':IntKind)(a b:Int):tA false (.v (.int k a)) (.v (.int k' b))=some (.v (.int k (min a b))):=by
 show some (DV.v (.int k (if b<a then b else a)))=_
 congr 3;omega
theorem Cy9(k k':IntKind)(a b:Int):tA true (.v (.int k a)) (.v (.int k' b))=some (.v (.int k (max a b))):=by
 show some (DV.v (.int k (if b>a then b else a)))=_
 congr 3;omega
theorem A1(k k':IntKind)(n:Int):Wz k (.v (.int k' n))=some (.v (.int k (k.wrap n))):=nr rfl
theorem aJ(neg:Bool)(ks:List Nat)(xs ys:List DV):uF neg ks (.agg xs) (.agg ys)=(Rw ks xs ys).map λb=>.v (.bool (xor neg b)):=nr rfl
theorem A6(op:BinOp)(a b:ByteArray):Ds op (.v (.string a)) (.v (.string b))=(fB op a b).map .v:=nr rfl
def P3(nid:Nat)(T:TypeId)(d:DV):Option (DV×Upd):=if d.okC=true then some (.pt nid 0,.lay (.row T d.cells)) else none
theorem sw_bx{dst:Option Pa}{T:TypeId}{x:EO}{call:Bg}{es:ES}{Q:ES->Prop} : SW (sU dst (Pn T x)) call es Q↔UW (P3 es.nx T (Oc es x)) λd u=>Q ((es.up u).putE dst d):=by
 rw [sw_u]
 have e:Pn T x es es.nx=P3 es.nx T (Oc es x):=by
  unfold Pn P3
  rw [Ti,OB,Y4]
 rw [e]
theorem sw_al{dst:Option Pa}{T:TypeId}{z:List DV}{call:Bg}{es:ES}{Q:ES->Prop} : SW (sU dst (Rz T z)) call es Q↔Q ((es.up (.lay (.row T z))).putE dst (.pt es.nx 0)):=by
 rw [sw_u];exact Q6
def OR(hp:Tr DObj)(n:Nat)(a x:DV):Option (DV×Upd):=match a with
 | .pt id off=>match hp.get id with
  | some (.row T cs)=>if x.okC=true/\x.cells.length=n/\off+n<=cs.length then some (.any,.wr id (.row T (cs.take off++x.cells++cs.drop (off+n)))) else none
  | _=>none
 | _=>none
theorem mW{dst:Option Pa}{n:Nat}{a x:EO}{call:Bg}{es:ES}{Q:ES->Prop} : SW (sU dst (Jr n a x)) call es Q↔UW (OR es.hp n (Ae es a) (Oc es x)) λd u=>Q ((es.up u).putE dst d):=by
 rw [sw_u]
 have e:Jr n a x es es.nx=OR es.hp n (Ae es a) (Oc es x):=by
  unfold Jr OR
  cases Ae es a with
  | pt id off=>
   show Ym es.hp id _ _=_
   unfold Ym
   rw [La]
   simp only []
   cases es.hp.get id with
   | none=>rfl
   | some o=>
    cases o with
    | row T cs=>
     show Fw (PG (Oc es x)) (Fw (Nat.beq (Z8 (Oc es x)).length n) (Fw (Nat.ble (off+n) cs.length) (B8 (Lx (Xn off cs) (Lx (Z8 (Oc es x)) (Ls (off+n) cs))) λl=>some (DV.any,Upd.wr id (.row T l))) none) none) none=if (Oc es x).okC=true/\(Oc es x).cells.length=n/\off+n<=cs.length then some (.any,.wr id (.row T (cs.take off++(Oc es x).cells++cs.drop (off+n)))) else none
     rw [Ti,Ti,Ti,OB,Y4,TA,fU,fU,SQ,jU]
     by_cases h1:(Oc es x).okC=true
     .by_cases h2:(Oc es x).cells.length=n
      .by_cases h3:off+n<=cs.length
       .simp [h1,h2,h3]
       .simp [h1,h2,h3]
      .have:¬ (Nat.beq (Oc es x).cells.length n=true):=λe=>h2 (Fg e)
       simp [h1,h2,this]
     .simp [h1]
    | _=>rfl
  | _=>rfl
 rw [e]
def BS(id off n:Nat)(x:DV)(o:Option DObj):Option (DV×Upd):=match o with
 | some (.row T cs)=>if x.okC=true/\x.cells.length=n/\off+n<=cs.length then some (.any,.wr id (.row T (cs.take off++x.cells++cs.drop (off+n)))) else none
 | _=>none
theorem nA(hp:Tr DObj)(n id off:Nat)(x:DV):OR hp n (.pt id off) x=BS id off n x (hp.get id):=by
 show (match hp.get id with
  | some (.row T cs)=>if x.okC=true/\x.cells.length=n/\off+n<=cs.length then some (DV.any,Upd.wr id (.row T (cs.take off++x.cells++cs.drop (off+n)))) else none
  | _=>none)=BS id off n x (hp.get id)
 unfold BS
 generalize hp.get id=o
 cases o with
 | none=>rfl
 | some o=>cases o <;> rfl
theorem E7(id off n:Nat)(x:DV)(T:TypeId)(cs:List DV)(h1:x.okC=true)(h2:x.cells.length=n)(h3:off+n<=cs.length):BS id off n x (some (.row T cs))=some (.any,.wr id (.row T (cs.take off++x.cells++cs.drop (off+n)))):=by
 show (if x.okC=true/\x.cells.length=n/\off+n<=cs.length then _ else _)=_
 rw [Af ⟨h1,h2,h3⟩]
theorem E8(id n:Nat)(ds:List DV)(T:TypeId)(cs:List DV)(h2:ds.length=n)(h3:cs.length=n):BS id 0 n (.agg ds) (some (.row T cs))=some (.any,.wr id (.row T ds)):=by
 rw [E7 id 0 n (.agg ds) T cs rfl h2 (by omega)]
 have e:cs.take 0++(DV.agg ds).cells++cs.drop (0+n)=ds:=by
  rw [Cp,Bc (by omega)]
  simp [DV.cells]
 rw [e]
end Go.DD

/- The evaluator, read with symbols: calls that are walked in place; rounds of a loop over a function; regions that draw their order. -/
namespace Go.DD
open Go
def Hh(tb:Nat->Option FE)(n:Nat)(rel:Nat->List DV->Option DV):Nat->Bg
 | 0=>qG rel
 | k+1=>λtg ds hp nx=>match tg with
  | .fn f=>match rel f ds with
   | some d=>some (d,hp,nx)
   | none=>Xq tb n (Hh tb n rel k) (.fn f) ds hp nx
  | .yl id=>Xq tb n (Hh tb n rel k) (.yl id) ds hp nx
theorem R4{P:Program}(hm:P.follows .mixedOrders=true){tb:Nat->Option FE}{n' n:Nat}(iR:fF P n' tb){rel:Nat->List DV->Option DV}(h:∀ f ds d,rel f ds=some d->Known P f ds d):∀ k,Vs P (Hh tb n rel k)
 | 0=>Bk7 h
 | k+1=>λtg ds hp nx d Ao Bk hc hf=>by
  have ih:=wq hm (n:=n) iR (R4 (n:=n) hm iR h k)
  cases tg with
  | yl id=>exact ih (.yl id) ds hp nx d Ao Bk hc hf
  | fn f=>
   have Kz:(match rel f ds with
    | some d=>some (d,hp,nx)
    | none=>Xq tb n (Hh tb n rel k) (.fn f) ds hp nx)=some (d,Ao,Bk):=hc
   cases hr:rel f ds with
   | none=>rw [hr] at Kz;exact ih (.fn f) ds hp nx d Ao Bk Kz hf
   | some d0=>
    rw [hr] at Kz
    have Yg:qG rel (.fn f) ds hp nx=some (d,Ao,Bk):=by
     show (match rel f ds with
      | some d=>some (d,hp,nx)
      | none=>none)=_
     rw [hr];exact Kz
    exact Bk7 h _ _ _ _ _ _ _ Yg hf
section
variable {tb:Nat->Option FE} {n:Nat} {rel:Nat->List DV->Option DV} {k f nt:Nat} {c:CE} {ds:List DV} {hp:Tr DObj} {nx:Nat} {K:DV->Tr DObj->Nat->Prop}
theorem NZ{d:DV}(h:rel f ds=some d)(hK:K d hp nx):KW (Hh tb n rel (k+1)) (.fn f) ds hp nx K:=
 ⟨d,hp,nx,show (match rel f ds with
  | some d=>some (d,hp,nx)
  | none=>Xq tb n (Hh tb n rel k) (.fn f) ds hp nx)=_ by rw [h],hK⟩
theorem dQ{res:List (Nat×Option (Option Nat))}(hr:rel f ds=none)(hf:tb f=some ⟨c,res,nt⟩)(hn:ds.length<=nt)
  (h:∀ es,es.hp=hp->es.nx=nx->qL es ds->EW c (Hh tb n rel k) es λe es=>(e=.normal\/e=.ret)/\∃ d,Nl res es=some (d,es.hp,es.nx)/\K d es.hp es.nx):KW (Hh tb n rel (k+1)) (.fn f) ds hp nx K:=by
 obtain ⟨e,es,h1,h2,d,h3,h4⟩:=h ⟨Vp ds,hp,nx⟩ rfl rfl (Bv2 ds hp nx)
 refine ⟨d,es.hp,es.nx,?_,h4⟩
 show (match rel f ds with
  | some d=>some (d,hp,nx)
  | none=>match tb f with
   | some fe=>if ds.length<=fe.nt then match fe.run (Hh tb n rel k) ⟨Vp ds,hp,nx⟩ with
     | some (.normal,es)=>Nl fe.res es
     | some (.ret,es)=>Nl fe.res es
     | _=>none
    else none
   | none=>none)=_
 rw [hr,hf]
 simp only
 rw [Af hn,h1]
 rcases h2 with rfl | rfl
 .exact h3
 .exact h3
theorem fe0(es:ES):Nl [] es=some (.tup [],es.hp,es.nx):=by
 unfold Nl
 simp only [Uy,Hf,Zv]
theorem fe1(es:ES)(t:Nat):Nl [(t,none)] es=some (Cd es.hp (Ae es (.t (Cm t))),es.hp,es.nx):=by
 have e:Wo es (t,none)=some (Cd es.hp (Ae es (.t (Cm t)))):=rfl
 unfold Nl
 simp only [Gx,Uy,e,Hf,Gc,Pr,Zv]
theorem fe2(es:ES)(t u:Nat):Nl [(t,none),(u,none)] es=some (.tup [Cd es.hp (Ae es (.t (Cm t))),Cd es.hp (Ae es (.t (Cm u)))],es.hp,es.nx):=by
 have e:∀ t,Wo es (t,none)=some (Cd es.hp (Ae es (.t (Cm t)))):=λ_=>rfl
 unfold Nl
 simp only [Gx,Uy,e,Hf,Gc,Pr,Zv]
theorem Ss(hr:rel f ds=none)(hf:tb f=some ⟨c,[],nt⟩)(hn:ds.length<=nt)
  (h:∀ es,es.hp=hp->es.nx=nx->qL es ds->EW c (Hh tb n rel k) es λe es=>(e=.normal\/e=.ret)/\K (.tup []) es.hp es.nx):KW (Hh tb n rel (k+1)) (.fn f) ds hp nx K:=
 dQ hr hf hn λes h1 h2 h3=>(h es h1 h2 h3).mono λ_ es ⟨h4,h5⟩=>⟨h4,_,fe0 es,h5⟩
theorem En{t:Nat}(hr:rel f ds=none)(hf:tb f=some ⟨c,[(t,none)],nt⟩)(hn:ds.length<=nt)
  (h:∀ es,es.hp=hp->es.nx=nx->qL es ds->EW c (Hh tb n rel k) es λe es=>(e=.normal\/e=.ret)/\K (Cd es.hp (Ae es (.t (Cm t)))) es.hp es.nx):KW (Hh tb n rel (k+1)) (.fn f) ds hp nx K:=
 dQ hr hf hn λes h1 h2 h3=>(h es h1 h2 h3).mono λ_ es ⟨h4,h5⟩=>⟨h4,_,fe1 es t,h5⟩
theorem nZ{t u:Nat}(hr:rel f ds=none)(hf:tb f=some ⟨c,[(t,none),(u,none)],nt⟩)(hn:ds.length<=nt)
  (h:∀ es,es.hp=hp->es.nx=nx->qL es ds->EW c (Hh tb n rel k) es λe es=>(e=.normal\/e=.ret)/\K (.tup [Cd es.hp (Ae es (.t (Cm t))),Cd es.hp (Ae es (.t (Cm u)))]) es.hp es.nx):KW (Hh tb n rel (k+1)) (.fn f) ds hp nx K:=
 dQ hr hf hn λes h1 h2 h3=>(h es h1 h2 h3).mono λ_ es ⟨h4,h5⟩=>⟨h4,_,fe2 es t u,h5⟩
theorem nW{id:Nat}{lp:DLoop}{sl:Tr DV}{es0:ES}(hl:hp.get id=some (.loop lp))(hs:lp.st=.ready)(yH:lp.sl=.t sl)(QH:ds.length=lp.ps.length)(Gy:lp.ps.all (λt=>Nat.blt t lp.nt)=true)(h0:es0=⟨Ov lp.ps ds sl,hp,nx⟩)
  (h:EW (Dt n lp.nt true lp.asg) (Hh tb n rel k) es0 λe An=>e=.normal/\∃ Tt,An.hp.get id=some (.loop Tt)/\Tt.st=.ready/\
   EW (Dt n lp.nt true lp.body) (Hh tb n rel k) ⟨An.sl,An.hp.set id (some (.loop { Tt with st:=.busy })),An.nx⟩ λe Cb=>∃ Pp,Cb.hp.get id=some (.loop Pp)/\
    match e with
    | .normal=>K (.v (.bool true)) (Cb.hp.set id (some (.loop { Pp with st:=.ready,pend:=none }))) Cb.nx
    | .ret=>K (.v (.bool false)) (Cb.hp.set id (some (.loop { Pp with st:=.done,pend:=some .ret }))) Cb.nx
    | .exit i=>K (.v (.bool false)) (Cb.hp.set id (some (.loop { Pp with st:=.done,pend:=some (.exit i) }))) Cb.nx
    | _=>False):KW (Hh tb n rel (k+1)) (.yl id) ds hp nx K:=by
 subst h0
 obtain ⟨e,An,h1,rfl,Tt,h2,h3,e2,Cb,h4,Pp,h5,h6⟩:=h
 have key:∀ r,(match Dt n lp.nt true lp.asg (Hh tb n rel k) ⟨Ov lp.ps ds sl,hp,nx⟩ with
      | some (.normal,An)=>match An.hp.get id with
       | some (.loop Tt)=>match Tt.st with
        | .ready=>match Dt n lp.nt true lp.body (Hh tb n rel k) { An with hp:=An.hp.set id (some (.loop { Tt with st:=.busy })) } with
         | some (e,Cb)=>match Cb.hp.get id with
          | some (.loop Pp)=>match e with
           | .normal=>some (.v (.bool true),Cb.hp.set id (some (.loop { Pp with st:=.ready,pend:=none })),Cb.nx)
           | .ret=>some (.v (.bool false),Cb.hp.set id (some (.loop { Pp with st:=.done,pend:=some .ret })),Cb.nx)
           | .exit i=>some (.v (.bool false),Cb.hp.set id (some (.loop { Pp with st:=.done,pend:=some (.exit i) })),Cb.nx)
           | _=>none
          | _=>none
         | none=>none
        | _=>none
       | _=>none
      | _=>none)=r->Hh tb n rel (k+1) (.yl id) ds hp nx=r:=by
  intro r hr
  show (match hp.get id with
   | some (.loop lp)=>match lp.st,lp.sl with
    | .ready,.t sl=>if ds.length=lp.ps.length/\lp.ps.all (λt=>Nat.blt t lp.nt)=true then
      match Dt n lp.nt true lp.asg (Hh tb n rel k) ⟨Ov lp.ps ds sl,hp,nx⟩ with
      | some (.normal,An)=>match An.hp.get id with
       | some (.loop Tt)=>match Tt.st with
        | .ready=>match Dt n lp.nt true lp.body (Hh tb n rel k) { An with hp:=An.hp.set id (some (.loop { Tt with st:=.busy })) } with
         | some (e,Cb)=>match Cb.hp.get id with
          | some (.loop Pp)=>match e with
           | .normal=>some (.v (.bool true),Cb.hp.set id (some (.loop { Pp with st:=.ready,pend:=none })),Cb.nx)
           | .ret=>some (.v (.bool false),Cb.hp.set id (some (.loop { Pp with st:=.done,pend:=some .ret })),Cb.nx)
           | .exit i=>some (.v (.bool false),Cb.hp.set id (some (.loop { Pp with st:=.done,pend:=some (.exit i) })),Cb.nx)
           | _=>none
          | _=>none
         | none=>none
        | _=>none
       | _=>none
      | _=>none
     else none
    | _,_=>none
   | _=>none)=r
  rw [hl]
  simp only [hs,yH]
  rw [Af ⟨QH,Gy⟩]
  exact hr
 cases e2 with
 | normal=>exact ⟨_,_,_,key _ (by rw [h1];simp only [h2,h3];rw [h4];simp only [h5]),h6⟩
 | ret=>exact ⟨_,_,_,key _ (by rw [h1];simp only [h2,h3];rw [h4];simp only [h5]),h6⟩
 | exit i=>exact ⟨_,_,_,key _ (by rw [h1];simp only [h2,h3];rw [h4];simp only [h5]),h6⟩
 | _=>exact h6.elim
end
theorem Cf1{nt:Nat}{g:EO}{ps:List Nat}{a b:DC}{call:Bg}{es:ES}{Q:Exit->ES->Prop}{f:Nat}{cs:List DV}(hg:Oc es g=.fn (.func f) (.tup []::cs))
  (h:KW call (.fn f) (.yl es.nx::cs) (es.hp.set es.nx (some (.loop ⟨nt,.t es.sl,ps,a,b,.ready,none⟩))) (es.nx+1) λ_ hp nx=>∃ lp,hp.get es.nx=some (.loop lp)/\lp.st≠.busy/\
   ((lp.pend=none/\Q .normal ⟨es.sl,hp.set es.nx none,nx⟩)\/(lp.pend=some .ret/\Q .ret ⟨es.sl,hp.set es.nx none,nx⟩)\/∃ i,lp.pend=some (.exit i)/\Q (.exit i) ⟨es.sl,hp.set es.nx none,nx⟩)):EW (cR nt false g ps a b) call es Q:=by
 obtain ⟨d,Ao,Bk,h1,lp,h2,h3,h4⟩:=h
 have key:∀ r,(match lp.pend with
     | none=>some (Exit.normal,(⟨es.sl,Ao.set es.nx none,Bk⟩:ES))
     | some .ret=>some (.ret,⟨es.sl,Ao.set es.nx none,Bk⟩)
     | some (.exit i)=>some (.exit i,⟨es.sl,Ao.set es.nx none,Bk⟩)
     | _=>none)=r->cR nt false g ps a b call es=r:=by
  intro r hr
  unfold cR
  rw [Ad (by simp),hg]
  simp only [DV.asFn]
  rw [h1]
  simp only [h2]
  cases If:lp.st with
  | busy=>exact absurd If h3
  | _=>exact hr
 rcases h4 with ⟨h4,h5⟩ | ⟨h4,h5⟩ | ⟨i,h4,h5⟩
 .exact ⟨_,_,key _ (by rw [h4]),h5⟩
 .exact ⟨_,_,key _ (by rw [h4]),h5⟩
 .exact ⟨_,_,key _ (by rw [h4]),h5⟩
end Go.DD

/- The evaluator, read with symbols: regions that draw their order, with guards, calls and new objects; rows of bytes. -/
namespace Go.DD
open Go
section
variable {call:Bg} {n0 m i:Nat} {es:ES} {lo an:List Nat} {ws:List Look} {pp:List Past} {Q:DSt->Prop} {ps:List Pa} {dst:Option Pa}
theorem BE{p:Pa}{b:Bool}{s:Kd} : TW (dG p b dst s) call n0 m ⟨es,lo,ws,pp⟩ Q↔GW (Ae es (.t p)) b (TW s call n0 m ⟨es,lo,ws,pp⟩ Q) (Q ⟨es.putE dst (.v undef),lo,ws,pp⟩):=by
 have key:∀ c,Ku es p b=some c->dG p b dst s call n0 m ⟨es,lo,ws,pp⟩=Bool.rec (motive:=λ_=>Option DSt) (some ⟨es.putE dst (.v undef),lo,ws,pp⟩) (s call n0 m ⟨es,lo,ws,pp⟩) c:=by
  intro c hc
  unfold dG
  show Option.rec (motive:=λ_=>Option DSt) none _ (Ku es p b)=_
  rw [hc];rfl
 constructor
 .rintro ⟨δ',h1,h2⟩
  have h0:∃ c,Ku es p b=some c:=by
   unfold dG at h1
   obtain ⟨c,h3,_⟩:=Jt h1
   exact ⟨c,h3⟩
  obtain ⟨c,hc⟩:=h0
  rw [key c hc] at h1
  rcases Bv7 hc with ⟨t,h3,rfl⟩ | ⟨vs,h3,rfl⟩
  .refine .inl ⟨t,h3,λe=>?_,λe=>?_⟩
   .subst e
    simp only [Ji] at h1
    exact ⟨δ',h1,h2⟩
   .have:(t==b)=false:=by simpa using e
    rw [this] at h1
    cases h1
    exact h2
  .cases h1
   exact .inr ⟨vs,h3,h2⟩
 .rintro (⟨c,h1,h2,h3⟩ | ⟨vs,h1,h2⟩)
  .have hw:Ku es p b=some (c==b):=by unfold Ku;rw [h1];rfl
   by_cases hc:c=b
   .obtain ⟨δ',h4,h5⟩:=h2 hc
    refine ⟨δ',?_,h5⟩
    rw [key _ hw]
    subst hc
    simp only [Ji]
    exact h4
   .have:(c==b)=false:=by simpa using hc
    exact ⟨_,by rw [key _ hw,this],h3 hc⟩
  .have hw:Ku es p b=some false:=by unfold Ku;rw [h1];rfl
   exact ⟨_,by rw [key _ hw],h2⟩
theorem Co0{s:Oo}(hid:(lo.filter λj=>!an.contains j)=[]):TW (Cx i an s) call n0 m ⟨es,lo,ws,pp⟩ Q↔SW s call es λes'=>es.nx<=es'.nx/\Q ⟨es',[],ws,⟨i,an,es.hp,es'.hp⟩::pp⟩:=by
 have key:Cx i an s call n0 m ⟨es,lo,ws,pp⟩=Option.rec (motive:=λ_=>Option DSt) none (λes'=>Fw (Nat.ble es.nx es'.nx) (some ⟨es',[],ws,⟨i,an,es.hp,es'.hp⟩::pp⟩) none) (s call es):=by
  unfold Cx
  show B8 (lo.filter λj=>!an.contains j) _=_
  rw [TA,hid]
  rfl
 constructor
 .rintro ⟨δ',h1,h2⟩
  rw [key] at h1
  obtain ⟨es',h3,h4⟩:=Jt h1
  obtain ⟨h5,h6⟩:=fJ h4
  cases h6
  exact ⟨es',h3,Ab h5,h2⟩
 .rintro ⟨es',h1,h2,h3⟩
  refine ⟨_,?_,h3⟩
  rw [key,h1]
  show Fw (Nat.ble es.nx es'.nx) _ _=_
  rw [Ti,Af (Nat.ble_eq_true_of_le h2)]
def LW(x:Option (DV×Upd))(K:DV->DObj->Prop):Prop:=∃ d o,x=some (d,.lay o)/\K d o
@[congr] theorem FW{x x':Option (DV×Upd)}{K:DV->DObj->Prop}(h:x=x'):LW x K=LW x' K:=by rw [h]
def ES.layAt(es:ES)(id:Nat)(o:DObj):ES:=⟨es.sl,Ki es.hp id (some o),es.nx⟩
theorem tz(es:ES)(id:Nat)(o:DObj)(p:Pa):Ae (es.layAt id o) (.t p)=Ae es (.t p):=nr rfl
theorem sd(es:ES)(id:Nat)(o:DObj):(es.layAt id o).hp=Ki es.hp id (some o):=nr rfl
theorem sb(es:ES)(id:Nat)(o:DObj):(es.layAt id o).nx=es.nx:=nr rfl
theorem Cf2{wide c:Bool}{x:XU} : TW (Rx i an wide c dst x ps) call n0 m ⟨es,lo,ws,pp⟩ Q↔LW (x es (n0+i)) λd o=>Q ⟨(es.layAt (n0+i) o).putE dst d,i::lo,Gt i an wide c (refsL es ps) n0 lo ws,pp⟩:=by
 have key:Rx i an wide c dst x ps call n0 m ⟨es,lo,ws,pp⟩=Option.rec (motive:=λ_=>Option DSt) none (λp=>Upd.casesOn (motive:=λ_=>Option DSt) p.2 none
  (λo=>some ⟨(ES.mk es.sl (Ki es.hp (n0+i) (some o)) es.nx).putE dst p.1,i::lo,Gt i an wide c (refsL es ps) n0 lo ws,pp⟩) (λ_ _=>none) (λ_ _=>none)) (x es (n0+i)):=by
  obtain ⟨sl,hp,nx⟩:=es
  unfold Rx DSt.cs ES.cs
  dsimp only
  rw [dD]
 constructor
 .rintro ⟨δ',h1,h2⟩
  rw [key] at h1
  obtain ⟨⟨d,u⟩,h3,h4⟩:=Jt h1
  cases u with
  | lay o=>cases h4;exact ⟨d,o,h3,h2⟩
  | _=>cases h4
 .rintro ⟨d,o,h1,h2⟩
  exact ⟨_,by rw [key,h1];rfl,h2⟩
theorem Yi{A B:Prop} : GW (.v (.bool true)) true A B↔A:=by rw [pS];simp
theorem Yj{A B:Prop} : GW (.v (.bool false)) false A B↔A:=by rw [pS];simp
theorem zO{A B:Prop} : GW (.v (.bool true)) false A B↔B:=by rw [pS];simp
theorem zP{A B:Prop} : GW (.v (.bool false)) true A B↔B:=by rw [pS];simp
theorem qE{A B:Prop} : CW (.v (.bool true)) A B↔A:=by rw [P1];simp
theorem Ry{A B:Prop} : CW (.v (.bool false)) A B↔B:=by rw [P1];simp
def Ii(d:DV)(f:Nat->Bool):Prop:=∀ id∈d.refs,f id=true
theorem Bw2(f:Nat->Bool):(Ug (refsL es []) f=true)↔True:=⟨λ_=>trivial,λ_=>rfl⟩
theorem Bk9{α:Type}(l:List α)(f:α->Bool):Ug l f=true↔∀ x∈l,f x=true:=by rw [NH];simp
theorem vt(es:ES)(p:Pa)(ps:List Pa):refsL es (p::ps)=(Ae es (.t p)).refs++refsL es ps:=by
 show Lx (Vv (Ae es (.t p))) (refsL es ps)=_
 rw [fU,X7]
theorem Bl0(p:Pa)(f:Nat->Bool):(Ug (refsL es (p::ps)) f=true)↔Ii (Ae es (.t p)) f/\Ug (refsL es ps) f=true:=by
 rw [vt,Bk9,Bk9]
 simp only [Aw,Ii]
 exact ⟨λh=>⟨λx hx=>h x (.inl hx),λx hx=>h x (.inr hx)⟩,λh x hx=>hx.elim (h.1 x) (h.2 x)⟩
theorem MZ{d:DV}{f:Nat->Bool}(h:d.refs=[]):Ii d f↔True:=⟨λ_=>trivial,λ_ id hid=>by rw [h] at hid;cases hid⟩
theorem CB(v:Value)(f:Nat->Bool):Ii (.v v) f↔True:=MZ rfl
theorem vV(cs:List DV)(n:Nat)(f:Nat->Bool):Ii (.sl cs n) f↔True:=MZ rfl
theorem vZ(cs:List DV)(f:Nat->Bool):Ii (.ia cs) f↔True:=MZ rfl
theorem vX(id off n e:Nat)(f:Nat->Bool):Ii (.ms id off n e) f↔f id=true:=by simp [Ii,DV.refs]
theorem vW(id off:Nat)(f:Nat->Bool):Ii (.pt id off) f↔f id=true:=by simp [Ii,DV.refs]
theorem vY(id:Nat)(f:Nat->Bool):Ii (.mp id) f↔f id=true:=by simp [Ii,DV.refs]
theorem sC(hp:Tr DObj)(id:Nat):(Cs n0 m an hp id=true)↔(hp.get id).isSome=true/\(id<n0\/n0+m<=id\/an.contains (id-n0)=true):=by
 unfold Cs
 rw [Ti,qT,La,Ti,Ti]
 by_cases h1:(hp.get id).isSome=true
 .by_cases h2:id<n0
  .simp [h1,h2,Lb]
  .by_cases h3:n0+m<=id
   .simp [h1,h3,Sn]
   .simp [h1,h2,h3,Lb,Sn]
 .simp [h1]
theorem Bl1(ws:List Look):Qw n0 m ws []=true:=by
 unfold Qw
 simp
theorem look_nil(wide c:Bool):Gt i an wide c [] n0 lo ws=ws:=by cases wide <;> rfl
theorem fW{x:XU}{X:XP}(h:∀ es nid,x es nid=Iw (X es))(nid:Nat):Gd x nid es=X es:=by
 unfold Gd
 rw [h]
 unfold Iw
 cases X es <;> rfl
end
theorem Cf3(k:IntKind)(x:Operand)(nid:Nat)(es:ES):Gd (Bd (.cvi k x)) nid es=Wz k (es.ds.ev x):=fW (X:=λes=>Wz k (es.ds.ev x)) (yA k x) nid
theorem vE(b:Bool)(x y:Operand)(nid:Nat)(es:ES):Gd (Bd (.mm b x y)) nid es=tA b (es.ds.ev x) (es.ds.ev y):=fW (X:=λes=>tA b (es.ds.ev x) (es.ds.ev y)) (I1 b x y) nid
def ub(n:Nat):DV:=.v (.int .u8 (n:Int))
def Cl:DV:=.v (.slice none 0 0)
theorem wo{cs:List DV}{i:Nat}{d:DV}(h:cs[i]?=some d):Iu none (cs.drop i)=some d:=by
 obtain ⟨hi,rfl⟩:=As.1 h
 rw [Bb hi];rfl
theorem lN{a b:Nat}(h:a+b<9223372036854775808):Ds .add (.v (.int .i64 (a:Int))) (.v (.int .i64 (b:Int)))=some (.v (.int .i64 ((a+b:Nat):Int))):=by
 rw [B0,Eo (by omega)];rfl
theorem Jx{a:Nat}(h:a<9000000000000000000):Ds .add (.v (.int .i64 (a:Int))) (.v (.int .i64 1))=some (.v (.int .i64 ((a+1:Nat):Int))):=by
 rw [B0,Eo (by omega)];rfl
end Go.DD

/- The evaluator, read with symbols: where simp is to stop; rows that grow; stores. -/
namespace Go.DD
open Go
class Hold (α:Type) where
 val:α
def Nr(s:Oo)(call:Bg)(es:ES)[q:Hold (ES->Prop)]:Prop:=SW s call es q.val
def EWs(c:CE)(call:Bg)(es:ES)[q:Hold (Exit->ES->Prop)]:Prop:=EW c call es q.val
def KWs(call:Bg)(tg:Tg)(ds:List DV)(hp:Tr DObj)(nx:Nat)[q:Hold (DV->Tr DObj->Nat->Prop)]:Prop:=KW call tg ds hp nx q.val
def P7(s:Kd)(call:Bg)(n0 m:Nat)(es:ES)(lo:List Nat)(ws:List Look)(pp:List Past)[q:Hold (DSt->Prop)]:Prop:=TW s call n0 m ⟨es,lo,ws,pp⟩ q.val
section
variable {call:Bg} {es:ES} {Q:ES->Prop} {dst:Option Pa} {R:Exit->ES->Prop}
theorem vC{T e b:Nat}{d x:Operand} : SW (sU dst (Bd (.app T e b d x))) call es Q↔@Nr (sU dst (Bd (.app T e b d x))) call es ⟨Q⟩:=Da
theorem Mi{T n e:Nat}{z:List Value}{ps:List (Nat×Nat×Operand)} : SW (sU dst (Bd (.bsl T n e z ps))) call es Q↔@Nr (sU dst (Bd (.bsl T n e z ps))) call es ⟨Q⟩:=Da
theorem D1{n:Nat}{a x:EO} : SW (sU dst (Jr n a x)) call es Q↔@Nr (sU dst (Jr n a x)) call es ⟨Q⟩:=Da
theorem uU{e:Nat}{x:Operand}{lo hi:Option Operand} : SW (sU dst (Bd (.sli e x lo hi))) call es Q↔@Nr (sU dst (Bd (.sli e x lo hi))) call es ⟨Q⟩:=Da
theorem uZ{x:Operand} : SW (sU dst (Bd (.b2s x))) call es Q↔@Nr (sU dst (Bd (.b2s x))) call es ⟨Q⟩:=Da
theorem jV{tb:Option (List (TypeId×FuncId))}{x:EO}{args:List EO} : SW (aZ tb x args dst) call es Q↔@Nr (aZ tb x args dst) call es ⟨Q⟩:=Da
theorem Xb{f:Nat}{args:List EO} : SW (Bj f args dst) call es Q↔@KWs call (.fn f) (args.map (Ae es)) es.hp es.nx ⟨λd hp nx=>Q ((ES.mk es.sl hp nx).putE dst d)⟩:=sw_call
theorem UN{k:Nat}{c:CE} : EW (cL k c) call es R↔@EWs (cL k c) call es ⟨R⟩:=Da
theorem xm{nt:Nat}{rd:Bool}{g:EO}{ps:List Nat}{a b:DC} : EW (cR nt rd g ps a b) call es R↔@EWs (cR nt rd g ps a b) call es ⟨R⟩:=Da
end
section
variable {call:Bg} {es:ES} {dst:Option Pa} {q:Hold (ES->Prop)}
theorem mN{a x:EO}{id off T:Nat}{v:DV}{cs:List DV}(ea:Ae es a=.pt id off)(hg:es.hp.get id=some (.row T cs))(ev:Oc es x=v)(hv:v.okC=true/\v.cells=[v])(J6:off<cs.length)
  (h:∀ Ao,Ao.get id=some (.row T (cs.set off v))->(∀ j,j≠id->Ao.get j=es.hp.get j)->q.val ((ES.mk es.sl Ao es.nx).putE dst .any)) :
  Nr (sU dst (Jr 1 a x)) call es:=by
 show SW _ _ _ _
 rw [mW,ea,nA,hg,ev,E7 id off 1 v T cs hv.1 (by rw [hv.2];rfl) (by omega),Q6]
 have e:cs.take off++v.cells++cs.drop (off+1)=cs.set off v:=by
  rw [hv.2,List.set_eq_take_append_cons_drop,Af J6];simp
 rw [e]
 exact h (es.up (.wr id (.row T (cs.set off v)))).hp (by rw [Kh,get_set,Af rfl]) λj hj=>by rw [Kh,get_set,Ad hj]
theorem Uu{n:Nat}{a x:EO}{id T:Nat}{ds cs:List DV}(ea:Ae es a=.pt id 0)(hg:es.hp.get id=some (.row T cs))(ev:Oc es x=.agg ds)(h2:ds.length=n)(h3:cs.length=n)
  (h:∀ Ao,Ao.get id=some (.row T ds)->(∀ j,j≠id->Ao.get j=es.hp.get j)->q.val ((ES.mk es.sl Ao es.nx).putE dst .any)) :
  Nr (sU dst (Jr n a x)) call es:=by
 show SW _ _ _ _
 rw [mW,ea,nA,hg,ev,E8 id n ds T cs h2 h3,Q6]
 exact h (es.up (.wr id (.row T ds))).hp (by rw [Kh,get_set,Af rfl]) λj hj=>by rw [Kh,get_set,Ad hj]
theorem Y2(es:ES)(x:Operand)(n:Int):Im es.ds n (some x)=Lh (es.ds.ev x):=rfl
theorem SZ(es:ES)(n:Int):Im es.ds n none=some n:=rfl
end
theorem Hl(es:ES)(p:Pa):Oc es (.t p)=Cd es.hp (Ae es (.t p)):=nr rfl
theorem dK(id off n e:Nat):(DV.ms id off n e).okC=true/\(DV.ms id off n e).cells=[.ms id off n e]:=⟨rfl,rfl⟩
theorem Cz0{k:IntKind}{n:Nat}(h:n<256):Wz .u8 (.v (.int k (n:Int)))=some (ub n):=by
 show some (DV.v (.int .u8 (IntKind.u8.wrap (n:Int))))=_
 rw [IntWalk.u8_in _ (by omega)];rfl
theorem Bw3{k:IntKind}{n:Nat}(h:n<9223372036854775808):Wz .i64 (.v (.int k (n:Int)))=some (.v (.int .i64 (n:Int))):=by
 show some (DV.v (.int .i64 (IntKind.i64.wrap (n:Int))))=_
 rw [Eo (by omega)]
theorem dJ(es:ES)(d:DV):ES.putE es none d=es:=nr rfl
section
variable {call:Bg} {n0 m i:Nat} {es:ES} {lo an:List Nat} {ws:List Look} {pp:List Past} {Q:DSt->Prop} {q:Hold (DSt->Prop)} {ps:List Pa} {dst:Option Pa}
theorem Cf4{s:Oo} : TW (Cx i an s) call n0 m ⟨es,lo,ws,pp⟩ Q↔@P7 (Cx i an s) call n0 m es lo ws pp ⟨Q⟩:=Da
theorem uY{wide c:Bool}{x:XU} : TW (Rx i an wide c dst x ps) call n0 m ⟨es,lo,ws,pp⟩ Q↔@P7 (Rx i an wide c dst x ps) call n0 m es lo ws pp ⟨Q⟩:=Da
theorem Nt{s:Oo}(hid:(lo.filter λj=>!an.contains j)=[])(h : @Nr s call es ⟨λes'=>es.nx<=es'.nx/\q.val ⟨es',[],ws,⟨i,an,es.hp,es'.hp⟩::pp⟩⟩):P7 (Cx i an s) call n0 m es lo ws pp:=(Co0 hid).2 h
theorem Mp{hp:Tr DObj}{id:Nat}{o:DObj}(h:hp.get id=some o)(hl:id<n0):Cs n0 m an hp id=true:=(sC hp id).2 ⟨by rw [h];rfl,.inl hl⟩
theorem sB{hp:Tr DObj}{o:DObj}(h:hp.get (n0+i)=some o)(hc:an.contains i=true):Cs n0 m an hp (n0+i)=true:=(sC hp _).2 ⟨by rw [h];rfl,.inr (.inr (by rw [Wf];exact hc))⟩
theorem qM{hp:Tr DObj}{id T:Nat}{d:DV}(h:hp.get id=some (.row T [d])):Gl hp none (.pt id 0)=some d:=by rw [Ro h];rfl
end
def Fv(hp:Tr DObj)(d:DV)(i:Nat):Option DV:=match d with
 | .tup ds=>match ds[i]? with
  | some (.v v)=>some (.v v)
  | some _=>match Cd hp (.tup ds) with
   | .tup ds=>ds[i]?
   | _=>none
  | none=>none
 | _=>none
theorem Yz(p:Pa)(i:Nat)(es:ES):Ga (.t p) i es=Fv es.hp (Ae es (.t p)) i:=by
 have Ty:Oc es (.t p)=Cd es.hp (Ae es (.t p)):=rfl
 have hn:∀ ds:List DV,bD i ds=ds[i]?:=by
  intro ds
  unfold bD
  rw [jU,<- List.head?_drop]
  cases ds.drop i <;> rfl
 unfold Ga Fv
 rw [Ty]
 cases Ae es (.t p) with
 | tup ds=>
  show Option.rec (motive:=λ_=>Option DV) none (λd=>vD d (λv=>some (.v v)) (qH (Cd es.hp (.tup ds)) (λds=>bD i ds) none)) (bD i ds)=_
  rw [hn]
  simp only []
  cases ds[i]? with
  | none=>rfl
  | some d=>
   have e:∀ x:DV,qH x (λds=>bD i ds) (none:Option DV)=match x with
    | .tup ds=>ds[i]?
    | _=>none:=by
    intro x
    cases x <;> first | rfl | exact hn _
   cases d <;> first | rfl | exact e _
 | _=>rfl
theorem B64{hp:Tr DObj}{ds:List DV}(h:∀ id∈DV.refsL ds,(hp.get id).isSome=true):Cd hp (.tup ds)=.tup ds:=Wc λid hid=>h id (by rwa [DV.refs] at hid)
theorem C1{hp:Tr DObj}{ds:List DV}{i:Nat}(h:∀ id∈DV.refsL ds,(hp.get id).isSome=true):Fv hp (.tup ds) i=ds[i]?:=by
 unfold Fv
 simp only [B64 h]
 cases ds[i]? with
 | none=>rfl
 | some d=>cases d <;> rfl
theorem Yk{hp:Tr DObj}{d:DV}{v:Value} : Fv hp (.tup [d,.v v]) 1=some (.v v):=nr rfl
theorem zS{hp:Tr DObj}{d:DV}{w v:Value} : Fv hp (.tup [d,.v w,.v v]) 1=some (.v w):=nr rfl
theorem zR{hp:Tr DObj}{d e:DV}{v:Value} : Fv hp (.tup [d,e,.v v]) 2=some (.v v):=nr rfl
theorem p0:Cm 0=.o:=nr rfl
theorem p1:Cm 1=.l .o:=nr rfl
theorem p2:Cm 2=.r .o:=nr rfl
theorem p3:Cm 3=.l (.l .o):=nr rfl
theorem p4:Cm 4=.r (.l .o):=nr rfl
theorem p5:Cm 5=.l (.r .o):=nr rfl
theorem p6:Cm 6=.r (.r .o):=nr rfl
theorem p7:Cm 7=.l (.l (.l .o)):=nr rfl
theorem p8:Cm 8=.r (.l (.l .o)):=nr rfl
theorem p9:Cm 9=.l (.r (.l .o)):=nr rfl
theorem ZQ:Cm 10=.r (.r (.l .o)):=nr rfl
theorem PE:Cm 11=.l (.l (.r .o)):=nr rfl
theorem p12:Cm 12=.r (.l (.r .o)):=nr rfl
theorem p13:Cm 13=.l (.r (.r .o)):=nr rfl
theorem YK:Cm 14=.r (.r (.r .o)):=nr rfl
theorem YJ:Cm 15=.l (.l (.l (.l .o))):=nr rfl
theorem p16:Cm 16=.r (.l (.l (.l .o))):=nr rfl
theorem EK:Cm 17=.l (.r (.l (.l .o))):=nr rfl
theorem p18:Cm 18=.r (.r (.l (.l .o))):=nr rfl
theorem p19:Cm 19=.l (.l (.r (.l .o))):=nr rfl
theorem YG:Cm 20=.r (.l (.r (.l .o))):=nr rfl
theorem EJ:Cm 21=.l (.r (.r (.l .o))):=nr rfl
theorem p22:Cm 22=.r (.r (.r (.l .o))):=nr rfl
theorem p23:Cm 23=.l (.l (.l (.r .o))):=nr rfl
theorem p24:Cm 24=.r (.l (.l (.r .o))):=nr rfl
theorem p25:Cm 25=.l (.r (.l (.r .o))):=nr rfl
theorem p26:Cm 26=.r (.r (.l (.r .o))):=nr rfl
theorem p27:Cm 27=.l (.l (.r (.r .o))):=nr rfl
theorem p28:Cm 28=.r (.l (.r (.r .o))):=nr rfl
theorem p29:Cm 29=.l (.r (.r (.r .o))):=nr rfl
theorem p30:Cm 30=.r (.r (.r (.r .o))):=nr rfl
theorem p31:Cm 31=.l (.l (.l (.l (.l .o)))):=nr rfl
theorem p32:Cm 32=.r (.l (.l (.l (.l .o)))):=nr rfl
theorem p33:Cm 33=.l (.r (.l (.l (.l .o)))):=nr rfl
theorem p34:Cm 34=.r (.r (.l (.l (.l .o)))):=nr rfl
theorem p35:Cm 35=.l (.l (.r (.l (.l .o)))):=nr rfl
theorem p36:Cm 36=.r (.l (.r (.l (.l .o)))):=nr rfl
theorem p37:Cm 37=.l (.r (.r (.l (.l .o)))):=nr rfl
theorem p38:Cm 38=.r (.r (.r (.l (.l .o)))):=nr rfl
theorem p39:Cm 39=.l (.l (.l (.r (.l .o)))):=nr rfl
theorem p40:Cm 40=.r (.l (.l (.r (.l .o)))):=nr rfl
theorem p41:Cm 41=.l (.r (.l (.r (.l .o)))):=nr rfl
theorem p42:Cm 42=.r (.r (.l (.r (.l .o)))):=nr rfl
theorem p43:Cm 43=.l (.l (.r (.r (.l .o)))):=nr rfl
theorem p44:Cm 44=.r (.l (.r (.r (.l .o)))):=nr rfl
theorem p45:Cm 45=.l (.r (.r (.r (.l .o)))):=nr rfl
theorem p46:Cm 46=.r (.r (.r (.r (.l .o)))):=nr rfl
theorem p47:Cm 47=.l (.l (.l (.l (.r .o)))):=nr rfl
theorem p48:Cm 48=.r (.l (.l (.l (.r .o)))):=nr rfl
theorem p49:Cm 49=.l (.r (.l (.l (.r .o)))):=nr rfl
theorem p50:Cm 50=.r (.r (.l (.l (.r .o)))):=nr rfl
theorem p51:Cm 51=.l (.l (.r (.l (.r .o)))):=nr rfl
theorem p52:Cm 52=.r (.l (.r (.l (.r .o)))):=nr rfl
theorem p53:Cm 53=.l (.r (.r (.l (.r .o)))):=nr rfl
theorem p54:Cm 54=.r (.r (.r (.l (.r .o)))):=nr rfl
theorem p55:Cm 55=.l (.l (.l (.r (.r .o)))):=nr rfl
theorem p56:Cm 56=.r (.l (.l (.r (.r .o)))):=nr rfl
theorem p57:Cm 57=.l (.r (.l (.r (.r .o)))):=nr rfl
theorem p58:Cm 58=.r (.r (.l (.r (.r .o)))):=nr rfl
theorem p59:Cm 59=.l (.l (.r (.r (.r .o)))):=nr rfl
theorem p60:Cm 60=.r (.l (.r (.r (.r .o)))):=nr rfl
theorem p61:Cm 61=.l (.r (.r (.r (.r .o)))):=nr rfl
theorem p62:Cm 62=.r (.r (.r (.r (.r .o)))):=nr rfl
theorem p63:Cm 63=.l (.l (.l (.l (.l (.l .o))))):=nr rfl
theorem p64:Cm 64=.r (.l (.l (.l (.l (.l .o))))):=nr rfl
theorem p65:Cm 65=.l (.r (.l (.l (.l (.l .o))))):=nr rfl
theorem p66:Cm 66=.r (.r (.l (.l (.l (.l .o))))):=nr rfl
theorem p67:Cm 67=.l (.l (.r (.l (.l (.l .o))))):=nr rfl
theorem p68:Cm 68=.r (.l (.r (.l (.l (.l .o))))):=nr rfl
theorem p69:Cm 69=.l (.r (.r (.l (.l (.l .o))))):=nr rfl
theorem p70:Cm 70=.r (.r (.r (.l (.l (.l .o))))):=nr rfl
theorem p71:Cm 71=.l (.l (.l (.r (.l (.l .o))))):=nr rfl
theorem p72:Cm 72=.r (.l (.l (.r (.l (.l .o))))):=nr rfl
theorem p73:Cm 73=.l (.r (.l (.r (.l (.l .o))))):=nr rfl
theorem p74:Cm 74=.r (.r (.l (.r (.l (.l .o))))):=nr rfl
theorem p75:Cm 75=.l (.l (.r (.r (.l (.l .o))))):=nr rfl
theorem p76:Cm 76=.r (.l (.r (.r (.l (.l .o))))):=nr rfl
theorem p77:Cm 77=.l (.r (.r (.r (.l (.l .o))))):=nr rfl
theorem p78:Cm 78=.r (.r (.r (.r (.l (.l .o))))):=nr rfl
theorem p79:Cm 79=.l (.l (.l (.l (.r (.l .o))))):=nr rfl
theorem p80:Cm 80=.r (.l (.l (.l (.r (.l .o))))):=nr rfl
theorem p81:Cm 81=.l (.r (.l (.l (.r (.l .o))))):=nr rfl
theorem p82:Cm 82=.r (.r (.l (.l (.r (.l .o))))):=nr rfl
theorem p83:Cm 83=.l (.l (.r (.l (.r (.l .o))))):=nr rfl
theorem p84:Cm 84=.r (.l (.r (.l (.r (.l .o))))):=nr rfl
theorem p85:Cm 85=.l (.r (.r (.l (.r (.l .o))))):=nr rfl
theorem p86:Cm 86=.r (.r (.r (.l (.r (.l .o))))):=nr rfl
theorem p87:Cm 87=.l (.l (.l (.r (.r (.l .o))))):=nr rfl
theorem p88:Cm 88=.r (.l (.l (.r (.r (.l .o))))):=nr rfl
theorem p89:Cm 89=.l (.r (.l (.r (.r (.l .o))))):=nr rfl
theorem p90:Cm 90=.r (.r (.l (.r (.r (.l .o))))):=nr rfl
theorem p91:Cm 91=.l (.l (.r (.r (.r (.l .o))))):=nr rfl
theorem p92:Cm 92=.r (.l (.r (.r (.r (.l .o))))):=nr rfl
theorem p93:Cm 93=.l (.r (.r (.r (.r (.l .o))))):=nr rfl
theorem p94:Cm 94=.r (.r (.r (.r (.r (.l .o))))):=nr rfl
theorem p95:Cm 95=.l (.l (.l (.l (.l (.r .o))))):=nr rfl
theorem p96:Cm 96=.r (.l (.l (.l (.l (.r .o))))):=nr rfl
theorem p97:Cm 97=.l (.r (.l (.l (.l (.r .o))))):=nr rfl
theorem p98:Cm 98=.r (.r (.l (.l (.l (.r .o))))):=nr rfl
theorem p99:Cm 99=.l (.l (.r (.l (.l (.r .o))))):=nr rfl
end Go.DD

/- The evaluator, read with symbols: calls of function values and of rounds; what a drawn region has looked at. -/
namespace Go.DD
open Go
section
variable {call:Bg} {es:ES} {dst:Option Pa} {q:Hold (ES->Prop)}
theorem Xi{f:Nat}{args:List EO}(h:KW call (.fn f) (args.map (Ae es)) es.hp es.nx λd hp nx=>q.val ((ES.mk es.sl hp nx).putE dst d)):Nr (Bj f args dst) call es:=sw_call.2 h
theorem doc{tg:Tg}{ds:List DV}(h:KW call tg ds es.hp es.nx λd hp nx=>q.val ((ES.mk es.sl hp nx).putE dst d)):SW (iI tg ds dst) call es q.val:=by
 obtain ⟨d,Ao,Bk,h1,h2⟩:=h
 refine ⟨_,?_,h2⟩
 unfold iI
 rw [h1];rfl
theorem mV{p:Pa}{args:List EO}{L:Nat}{o:DObj}(h0:Ae es (.t p)=.yl L)(hL:es.hp.get L=some o)(h:KW call (.yl L) (args.map (Ae es)) es.hp es.nx λd hp nx=>q.val ((ES.mk es.sl hp nx).putE dst d)):Nr (aZ none (.t p) args dst) call es:=by
 have he:Oc es (.t p)=.yl L:=by
  rw [Hl,h0]
  exact Wc λi hi=>by
   have:i=L:=by simpa [DV.refs] using hi
   rw [this,hL];rfl
 obtain ⟨es',h1,h2⟩:=doc h
 refine ⟨es',?_,h2⟩
 unfold aZ
 rw [he]
 have e:Yw es args=args.map (Ae es):=by unfold Yw;rw [rX]
 show iI (.yl L) (Yw es args) dst call es=_
 rw [e];exact h1
theorem Xo{p:Pa}{args:List EO}{f:Nat}{fs cs:List DV}(h0:Oc es (.t p)=.fn (.func f) (.tup fs::cs))(h:KW call (.fn f) (fs++(args.map (Ae es)++cs)) es.hp es.nx λd hp nx=>q.val ((ES.mk es.sl hp nx).putE dst d)):Nr (aZ none (.t p) args dst) call es:=by
 obtain ⟨es',h1,h2⟩:=doc h
 refine ⟨es',?_,h2⟩
 unfold aZ
 rw [h0]
 have e:Yw es args=args.map (Ae es):=by unfold Yw;rw [rX]
 show iI (.fn f) (Lx fs (Lx (Yw es args) cs)) dst call es=_
 rw [e,fU,fU];exact h1
end
section
variable {call:Bg} {es:ES} {dst:Option Pa} {q:Hold (ES->Prop)} {Q:ES->Prop}
theorem D3{T:TypeId}{z:List DV} : SW (sU dst (Rz T z)) call es Q↔@Nr (sU dst (Rz T z)) call es ⟨Q⟩:=Da
theorem AD{T:TypeId}{x:EO} : SW (sU dst (Pn T x)) call es Q↔@Nr (sU dst (Pn T x)) call es ⟨Q⟩:=Da
theorem Vr{T:TypeId}{z:List DV}(h:∀ Ao,Ao.get es.nx=some (.row T z)->(∀ j,j≠es.nx->Ao.get j=es.hp.get j)->q.val ((ES.mk es.sl Ao (es.nx+1)).putE dst (.pt es.nx 0))):Nr (sU dst (Rz T z)) call es:=
 sw_al.2 (h (es.up (.lay (.row T z))).hp (by rw [aO,get_set,Af rfl]) λj hj=>by rw [aO,get_set,Ad hj])
theorem Z5{T:TypeId}{x:EO}{v:DV}(hv:Oc es x=v)(hk:v.okC=true/\v.cells=[v])(h:∀ Ao,Ao.get es.nx=some (.row T [v])->(∀ j,j≠es.nx->Ao.get j=es.hp.get j)->q.val ((ES.mk es.sl Ao (es.nx+1)).putE dst (.pt es.nx 0))):Nr (sU dst (Pn T x)) call es:=by
 refine sw_bx.2 ⟨.pt es.nx 0,.lay (.row T [v]),?_,h (es.up (.lay (.row T [v]))).hp (by rw [aO,get_set,Af rfl]) λj hj=>by rw [aO,get_set,Ad hj]⟩
 unfold P3
 rw [hv,Af hk.1,hk.2]
theorem uX:SW (sU dst (Bd .mkm)) call es Q↔@Nr (sU dst (Bd .mkm)) call es ⟨Q⟩:=Da
theorem Bw4(h:∀ Ao,Ao.get es.nx=some (.mapo 0 [])->(∀ j,j≠es.nx->Ao.get j=es.hp.get j)->q.val ((ES.mk es.sl Ao (es.nx+1)).putE dst (.mp es.nx))):Nr (sU dst (Bd .mkm)) call es:=
 sw_u.2 ⟨.mp es.nx,.lay (.mapo 0 []),rfl,h (es.up (.lay (.mapo 0 []))).hp (by rw [aO,get_set,Af rfl]) λj hj=>by rw [aO,get_set,Ad hj]⟩
end
theorem vr{f:DV->DV->Bool} : ∀ {l:List DV},(∀ c∈l,f c c=true)->Jo f l l=true
 | [],_=>rfl
 | a::l,h=>by
  show (f a a&&Jo f l l)=true
  rw [h a (Dv ..),vr λc hc=>h c (Be _ hc)];rfl
theorem Cz1(n:Nat)(k:IntKind)(x:Int):Oz (n+1) (.v (.int k x)) (.v (.int k x))=true:=by simp [Oz,Qy]
theorem NV{H H':Tr DObj}{id:Nat}{T:TypeId}{cs:List DV}(h:H.get id=some (.row T cs))(he:H'.get id=H.get id)(hc:∀ c∈cs,Oz 6 c c=true):sameAt H H' id=true:=by
 unfold sameAt
 rw [he,h]
 show (T==T&&Jo (Oz 6) cs cs)=true
 rw [vr hc];simp
section
variable {n0 m i:Nat} {an refs lo:List Nat} {c:Bool} {ws:List Look} {ps:List Past}
theorem okl_cons{w:Look} : Qw n0 m (w::ws) ps=true↔(∀ p∈ps,(w.an.contains p.q||p.an.contains w.i||(if Nat.blt w.id n0||Nat.ble (n0+m) w.id then (if w.c then sameAt p.a p.b w.id else uM p.a p.b w.id) else w.own && !p.an.contains (w.id-n0)))=true)/\Qw n0 m ws ps=true:=by
 unfold Qw
 rw [List.all_cons,Bo,Bi]
theorem sA(h:∀ id∈refs,id<n0/\∀ p∈ps,p.an.contains i=true\/an.contains p.q=true\/(if c=true then sameAt p.a p.b id=true else uM p.a p.b id=true))(h2:Qw n0 m ws ps=true):Qw n0 m (Gt i an true c refs n0 lo ws) ps=true:=by
 have e:Gt i an true c refs n0 lo ws=(refs.map λid=>⟨i,an,id,lo.contains (id-n0),c⟩)++ws:=by
  show Lx (gE _ refs) ws=_
  rw [fU,rX]
 rw [e]
 clear e
 induction refs with
 | nil=>exact h2
 | cons id refs ih=>
  rw [Ag,Ll,okl_cons]
  refine ⟨λp hp=>?_,ih λid hid=>h id (Be _ hid)⟩
  obtain ⟨h3,h4⟩:=h id (Dv ..)
  simp only
  have hb:(Nat.blt id n0||Nat.ble (n0+m) id)=true:=by
   rw [Jz];exact .inl (by simpa [Lb] using h3)
  rw [Af hb]
  rcases h4 p hp with h | h | h
  .rw [h];simp
  .rw [h];simp
  .cases c with
   | true=>simp only [Ex] at h;simp [h]
   | false=>simp at h;simp [h]
end
end Go.DD

/- The evaluator, read with symbols: rows of integers; maps of numbers. -/
namespace Go.DD
open Go
section
variable {call:Bg} {es:ES} {dst:Option Pa} {q:Hold (ES->Prop)} {n0 m i:Nat} {lo an:List Nat} {ws:List Look} {pp:List Past} {r:Hold (DSt->Prop)} {ps:List Pa}
def Rb(hp:Tr DObj)(kd:KD)(z:Value)(x k:DV):Option DV:=match Tu k with
 | some kv=>if fS kd kv=true then (match x with
  | .v (.map none)=>some (Gj false (.v z) false)
  | .mp id=>match hp.get id with
   | some (.mapo _ es)=>match findD kd kv es 0 with
    | some (some p)=>some (Gj false p.2.v true)
    | some none=>some (Gj false (.v z) false)
    | none=>none
   | _=>none
  | _=>none) else none
 | none=>none
theorem Cf5(kd:KD)(z:Value)(x k:Operand)(nid:Nat)(es:ES):Gd (Bd (.lkp kd z x k false)) nid es=Rb es.hp kd z (es.ds.ev x) (es.ds.ev k):=by
 refine fW (X:=λes=>Rb es.hp kd z (es.ds.ev x) (es.ds.ev k)) (λes nid=>?_) nid
 rw [Fi]
 simp only [Ay,Rb]
 cases Tu (es.ds.ev k) with
 | none=>rfl
 | some kv=>
  simp only []
  by_cases hk:fS kd kv=true
  .rw [Af hk,Af hk]
   cases es.ds.ev x with
   | v a=>
    cases a with
    | map a=>cases a <;> rfl
    | _=>rfl
   | mp id=>
    show (match es.hp.get id with
     | some (.mapo _ es)=>match findD kd kv es 0 with
      | some (some p)=>some (Gj false p.2.v true,Upd.keep)
      | some none=>some (Gj false (.v z) false,.keep)
      | none=>none
     | _=>none)=Iw (match es.hp.get id with
     | some (.mapo _ es)=>match findD kd kv es 0 with
      | some (some p)=>some (Gj false p.2.v true)
      | some none=>some (Gj false (.v z) false)
      | none=>none
     | _=>none)
    cases es.hp.get id with
    | none=>rfl
    | some o=>
     cases o with
     | mapo c l=>
      simp only []
      cases findD kd kv l 0 with
      | none=>rfl
      | some r=>cases r <;> rfl
     | _=>rfl
   | _=>rfl
  .rw [Ad hk,Ad hk];rfl
end
section
variable {call:Bg} {es:ES} {dst:Option Pa} {q:Hold (ES->Prop)}
theorem Q2{p:Pa}{args:List EO}{f:Nat}{fs cs:List DV}(h0:Oc es (.t p)=.fn (.func f) (.tup fs::cs))(h:KW call (.fn f) (fs++(args.map (Ae es)++cs)) es.hp es.nx λd hp nx=>q.val ((ES.mk es.sl hp nx).putE dst d)):Nr (jY none (.t p) args dst) call es:=by
 obtain ⟨es',h1,h2⟩:=doc h
 refine ⟨es',?_,h2⟩
 unfold jY
 rw [h0]
 have e:Yw es args=args.map (Ae es):=by unfold Yw;rw [rX]
 show iI (.fn f) (Lx fs (Lx (Yw es args) cs)) dst call es=_
 rw [e,fU,fU];exact h1
end
theorem Zu(f:Nat)(id off:Nat)(g:Nat->Bool):Ii (.fn (.func f) [.tup [],.pt id off]) g↔g id=true:=by simp [Ii,DV.refs,DV.refsL]
theorem SM{hp:Tr DObj}{f id off:Nat}{o:DObj}(h:hp.get id=some o):Cd hp (.fn (.func f) [.tup [],.pt id off])=.fn (.func f) [.tup [],.pt id off]:=Wc λi hi=>by
 have:i=id:=by simpa [DV.refs,DV.refsL] using hi
 rw [this,h];rfl
end Go.DD

/- The evaluator, read with symbols: bytes as strings; empty slices; numbers that are turned and divided. -/
namespace Go.DD
open Go
section
variable {call:Bg} {es:ES} {dst:Option Pa} {q:Hold (ES->Prop)}
end
end Go.DD

/- The evaluator, read with symbols: records and rows of them; the test for nil. -/
namespace Go.DD
open Go
section
variable {call:Bg} {es:ES} {dst:Option Pa} {q:Hold (ES->Prop)} {Q:ES->Prop}
theorem Oe{z:List Value}{ps:List (Nat×Nat×Operand)} : SW (sU dst (Bd (.bld z ps))) call es Q↔@Nr (sU dst (Bd (.bld z ps))) call es ⟨Q⟩:=Da
theorem uV{k:Nat}{neg:Bool}{x y:Operand} : SW (sU dst (Bd (.nilq k neg x y))) call es Q↔@Nr (sU dst (Bd (.nilq k neg x y))) call es ⟨Q⟩:=Da
theorem fT{z:List Value}{ps:List (Nat×Nat×Operand)}{cs:List DV}(hf:Ia (z.map .v) (ps.map λp=>(p.1,p.2.1,es.ds.ev p.2.2))=some cs)(h:q.val (es.putE dst (.agg cs))):Nr (sU dst (Bd (.bld z ps))) call es:=by
 show SW _ _ _ _
 rw [sw_u,Fi]
 refine ⟨.agg cs,.keep,?_,h⟩
 simp only [Ay,hf]
theorem iJ{k:Nat}{neg:Bool}{x y:Operand}(b:Bool)(hx:isNil k (es.ds.ev x)=some b)(hy:isNil k (es.ds.ev y)=some true)(h:q.val (es.putE dst (.v (.bool (xor neg b))))):Nr (sU dst (Bd (.nilq k neg x y))) call es:=by
 show SW _ _ _ _
 rw [sw_u,Fi]
 refine ⟨.v (.bool (xor neg b)),.keep,?_,h⟩
 cases b <;> simp only [Ay,hx,hy]
end
end Go.DD

/- The evaluator, read with symbols: parts of slices in regions that draw their order; new rows of bytes; copies. -/
namespace Go.DD
open Go
def iD(n:Int):Option DV->Option Int
 | none=>some n
 | some d=>Lh d
theorem Cz2(es:ES)(n:Int)(o:Option Operand):Im es.ds n o=iD n (o.map es.ds.ev):=by cases o <;> rfl
def sliE(e:Nat)(x:DV)(lo hi:Option DV):Option DV:=match x with
 | .sl cs n=>match iD 0 lo,iD n hi with
  | some l,some h=>if 0<=l/\l<=h/\h<=n then some (.sl ((cs.drop (l.toNat*e)).take ((h.toNat-l.toNat)*e)) (h.toNat-l.toNat)) else none
  | _,_=>none
 | .ms id off n e'=>match iD 0 lo,iD n hi with
  | some l,some h=>if e'=e/\0<=l/\l<=h/\h<=n then some (if l<h\/l=0 then .ms id (off+l.toNat*e) (h.toNat-l.toNat) e else .sl [] 0) else none
  | _,_=>none
 | .v (.slice none 0 0)=>match iD 0 lo,iD 0 hi with
  | some l,some h=>if l=0/\h=0 then some (.v (.slice none 0 0)) else none
  | _,_=>none
 | _=>none
theorem Cz3(e:Nat)(x:Operand)(lo hi:Option Operand)(nid:Nat)(es:ES):Gd (Bd (.sli e x lo hi)) nid es=sliE e (es.ds.ev x) (lo.map es.ds.ev) (hi.map es.ds.ev):=by
 refine fW (X:=λes=>sliE e (es.ds.ev x) (lo.map es.ds.ev) (hi.map es.ds.ev)) (λes nid=>?_) nid
 rw [Fi]
 simp only [Ay,sliE,Cz2]
 cases es.ds.ev x with
 | sl cs n=>
  simp only
  cases iD 0 (lo.map es.ds.ev) with
  | none=>rfl
  | some l=>
   cases iD n (hi.map es.ds.ev) with
   | none=>rfl
   | some h=>simp only;split <;> rfl
 | ms id off n e'=>
  simp only
  cases iD 0 (lo.map es.ds.ev) with
  | none=>rfl
  | some l=>
   cases iD n (hi.map es.ds.ev) with
   | none=>rfl
   | some h=>simp only;split <;> rfl
 | v a=>
  cases a with
  | slice a n c=>
   cases a with
   | none=>
    cases n with
    | zero=>
     cases c with
     | zero=>
      simp only
      cases iD 0 (lo.map es.ds.ev) with
      | none=>rfl
      | some l=>
       cases iD 0 (hi.map es.ds.ev) with
       | none=>rfl
       | some h=>simp only;split <;> rfl
     | succ c=>rfl
    | succ n=>rfl
   | some a=>rfl
  | _=>rfl
 | _=>rfl
section
variable {call:Bg} {es:ES} {dst:Option Pa} {q:Hold (ES->Prop)} {Q:ES->Prop}
end
theorem Co1{k:IntKind}{n:Nat}(h:n<9223372036854775808):Wz .u64 (.v (.int k (n:Int)))=some (.v (.int .u64 (n:Int))):=by
 show some (DV.v (.int .u64 (IntKind.u64.wrap (n:Int))))=_
 rw [IntWalk.u64_in _ (by omega)]
end Go.DD

/- The evaluator, read with symbols: bytes as strings in regions that draw their order; when strings of bytes are equal. -/
namespace Go.DD
open Go
end Go.DD

/- The evaluator, read with symbols: lists of records, as content or as own rows. -/
namespace Go.DD
open Go
section
variable {α:Type} {f:α->List DV} {e:Nat}
theorem Ba1(hf:∀ x,(f x).length=e):∀ (l:List α) (i:Nat),(l.flatMap f).drop (i*e)=(l.drop i).flatMap f
 | [],i=>by simp
 | a::l,0=>by simp
 | a::l,i+1=>by
  rw [Ou,List.drop_succ_cons,<- Ba1 hf l i,List.drop_append,hf,Dz,Qm,So,Xk (by rw [hf];omega),Bv]
theorem Ba2(hf:∀ x,(f x).length=e):∀ (l:List α) (i:Nat),(l.flatMap f).take (i*e)=(l.take i).flatMap f
 | [],i=>by simp
 | a::l,0=>by simp
 | a::l,i+1=>by
  rw [Ou,List.take_succ_cons,Ou,<- Ba2 hf l i,List.take_append,hf,Dz,Qm,So,Cc (by rw [hf];omega)]
end
def Ca(e:Nat):DV->Nat->DV
 | .sl cs _,i=>.ia (cs.drop (i*e))
 | .ms id off _ _,i=>.pt id (off+i*e)
 | _,_=>.any
def Gi:DV->Nat->DV
 | .ia cs,k=>.ia (cs.drop k)
 | .pt id off,k=>.pt id (off+k)
 | _,_=>.any
section
variable {α:Type} {T e:Nat} {f:α->List DV} {hp Ao:Tr DObj} {d:DV} {l:List α}
end
section
variable {α:Type} {T e:Nat} {f:α->List DV} {call:Bg} {es:ES} {dst:Option Pa} {q:Hold (ES->Prop)}
end
end Go.DD

/- The evaluator, read with symbols: small rules. -/
namespace Go.DD
open Go
abbrev iv(n:Int):DV:=.v (.int .i64 n)
abbrev bv(b:Bool):DV:=.v (.bool b)
abbrev sv(s:ByteArray):DV:=.v (.string s)
theorem tx(hp:Tr DObj)(s:ByteArray):Cd hp (sv s)=sv s:=Ns hp _
section
variable {call:Bg} {es:ES} {dst:Option Pa} {q:Hold (ES->Prop)} {Q:ES->Prop}
theorem Fl{tg:Tg}{ds:List DV}{hp:Tr DObj}{nx:Nat}{q:Hold (DV->Tr DObj->Nat->Prop)}(h:KW call tg ds hp nx q.val):KWs call tg ds hp nx:=h
theorem Zo{T:TypeId}{x:EO}{cs:List DV}(hv:Oc es x=.agg cs)(h:∀ Ao,Ao.get es.nx=some (.row T cs)->(∀ j,j≠es.nx->Ao.get j=es.hp.get j)->q.val ((ES.mk es.sl Ao (es.nx+1)).putE dst (.pt es.nx 0))):Nr (sU dst (Pn T x)) call es:=by
 refine sw_bx.2 ⟨.pt es.nx 0,.lay (.row T cs),?_,h (es.up (.lay (.row T cs))).hp (by rw [aO,get_set,Af rfl]) λj hj=>by rw [aO,get_set,Ad hj]⟩
 unfold P3
 rw [hv]
 rfl
end
def Rng(n n':Nat)(d:DV):Prop:=∀ id∈d.refs,n<=id/\id<n'
theorem Rng.nil(n n':Nat):Rng n n' Cl:=λ_ h=>by cases h
theorem Rng.ms{n n' id off m e:Nat}(h1:n<=id)(h2:id<n'):Rng n n' (.ms id off m e):=λj hj=>by
 have:j=id:=by simpa [DV.refs] using hj
 subst this;exact ⟨h1,h2⟩
theorem Q1(k:IntKind)(a b:Int):Ds .eql (.v (.int k a)) (.v (.int k b))=some (.v (.bool (decide (a=b)))):=by rw [MG];rfl
theorem rR(k:IntKind)(a b:Int):Ds .neq (.v (.int k a)) (.v (.int k b))=some (.v (.bool (decide (a≠b)))):=by
 rw [MF]
 by_cases h:a=b
 .subst h;simp
 .have:(a != b)=true:=by simp [h]
  rw [this,Ar h]
theorem Cf6{k:IntKind}{a b:Nat}(h:b≠0):Ds .rem (.v (.int k (a:Int))) (.v (.int k (b:Int)))=some (.v (.int k ((a % b:Nat):Int))):=by
 have e:(a:Int).tmod (b:Int)=((a % b:Nat):Int):=rfl
 have hb:¬ (b:Int)=0:=by omega
 have e2:Rf .rem k (a:Int) (b:Int)=some (.int k ((a % b:Nat):Int)):=by
  unfold Rf
  simp only
  rw [Ad hb,e]
 simp only [Ds,Pl,Rq]
 simp [e2]
end Go.DD
