/- A part. -/
import Derived.Test.YtnphfnhhpcelbaaGreatYd
import Derived.IntWalk
noncomputable section
set_option linter.unusedSectionVars false
set_option linter.unusedVariables false
namespace Go.DD
def EW(c:CE)(call:Bf)(es:ES)(Q:Exit->ES->Prop):Prop:=∃ e es',c call es=some (e,es')/\Q e es'
def SW(s:Od)(call:Bf)(es:ES)(Q:ES->Prop):Prop:=∃ es',s call es=some es'/\Q es'
def XW(x:Option DV)(Q:DV->Prop):Prop:=∃ d,x=some d/\Q d
def No(next:ES->Prop)(Q:Exit->ES->Prop):Exit->ES->Prop
 | .normal,es=>next es
 | e,es=>Q e es
def Vv(id:Nat)(Q:Exit->ES->Prop):Exit->ES->Prop
 | .exit i,es=>if i=id then Q .normal es else Q (.exit i) es
 | e,es=>Q e es
theorem EW.mono{c:CE}{call:Bf}{es:ES}{Q Q':Exit->ES->Prop}(h:EW c call es Q)(hq:∀ e es,Q e es->Q' e es):EW c call es Q':=by
 obtain ⟨e,es',h1,h2⟩:=h
 exact ⟨e,es',h1,hq _ _ h2⟩
theorem EW.s{a b:CE}{call:Bf}{es:ES}{Q:Exit->ES->Prop}(h:EW a call es (No (λes1=>EW b call es1 Q) Q)):EW (cS a b) call es Q:=by
 obtain ⟨e,es1,h1,h2⟩:=h
 cases e with
 | normal=>
  obtain ⟨e2,By,h3,h4⟩:=h2
  refine ⟨e2,By,?_,h4⟩
  unfold cS;rw [h1];exact h3
 | _=>exact ⟨_,es1,by unfold cS;rw [h1],h2⟩
theorem EW.n{s:Od}{call:Bf}{es:ES}{Q:Exit->ES->Prop}(h:SW s call es (Q .normal)):EW (cN s) call es Q:=by
 obtain ⟨es1,h1,h2⟩:=h
 exact ⟨_,es1,by unfold cN;rw [h1],h2⟩
theorem EW.e{e:Exit}{call:Bf}{es:ES}{Q:Exit->ES->Prop}(h:Q e es):EW (cE e) call es Q:=⟨e,es,rfl,h⟩
theorem EW.c{x:EO}{a b:CE}{call:Bf}{es:ES}{Q:Exit->ES->Prop}(t:Bool)(ht:Ac es x=.v (.bool t))(h1:t=true->EW a call es Q)(h2:t=false->EW b call es Q):EW (cC x a b) call es Q:=by
 have e:cC x a b call es=Bool.rec (motive:=λ_=>Option (Exit×ES)) (b call es) (a call es) t:=by unfold cC;rw [ht];rfl
 cases t with
 | true=>obtain ⟨e1,es1,h3,h4⟩:=h1 rfl;exact ⟨e1,es1,e.trans h3,h4⟩
 | false=>obtain ⟨e1,es1,h3,h4⟩:=h2 rfl;exact ⟨e1,es1,e.trans h3,h4⟩
theorem EW.b{id:Nat}{c:CE}{call:Bf}{es:ES}{Q:Exit->ES->Prop}(h:EW c call es (Vv id Q)):EW (cB id c) call es Q:=by
 obtain ⟨e,es1,h1,h2⟩:=h
 cases e with
 | exit i=>
  have e1:cB id c call es=Fo (Nat.beq i id) (some (.normal,es1)) (some (.exit i,es1)):=by unfold cB;rw [h1]
  rw [Ry] at e1
  simp only [Vv] at h2
  by_cases hi:i=id
  .subst hi
   rw [Ah (Nat.beq_refl i)] at e1
   rw [Ah rfl] at h2
   exact ⟨_,_,e1,h2⟩
  .rw [Ae (λh=>hi (Ey h))] at e1
   rw [Ae hi] at h2
   exact ⟨_,_,e1,h2⟩
 | _=>exact ⟨_,es1,by unfold cB;rw [h1],h2⟩
theorem EW.l{c:CE}{call:Bf}{Q:Exit->ES->Prop}(I:Nat->ES->Prop)(step:∀ n es,I n es->EW c call es (No (λes1=>∃ m,m<n/\I m es1) Q)):∀ (n k:Nat) (es:ES),I n es->n<k->EW (cL k c) call es Q:=by
 intro n
 induction n using Nat.strongRecOn with
 | _ n ih=>
  intro k es h hk
  cases k with
  | zero=>omega
  | succ k=>
   show EW (cS c (cL k c)) call es Q
   refine EW.s ((step n es h).mono ?_)
   intro e es1 h1
   cases e with
   | normal=>
    obtain ⟨m,hm,hI⟩:=h1
    exact ih m hm k es1 hI (by omega)
   | _=>exact h1
theorem SW.q{s k:Od}{call:Bf}{es:ES}{Q:ES->Prop}(h:SW s call es λes1=>SW k call es1 Q):SW (sq s k) call es Q:=by
 obtain ⟨es1,h1,By,h2,h3⟩:=h
 exact ⟨By,by unfold sq;rw [h1];exact h2,h3⟩
theorem SW.z{call:Bf}{es:ES}{Q:ES->Prop}(h:Q es):SW tX call es Q:=⟨es,rfl,h⟩
theorem SW.m{dst:Option Pa}{x:EO}{call:Bf}{es:ES}{Q:ES->Prop}(h:Q (es.putE dst (Ac es x))):SW (sM dst x) call es Q:=⟨_,rfl,h⟩
theorem SW.x{dst:Option Pa}{x:XP}{call:Bf}{es:ES}{Q:ES->Prop}(d:DV)(hx:x es=some d)(h:Q (es.putE dst d)):SW (sX dst x) call es Q:=⟨_,by unfold sX;rw [hx],h⟩
theorem SW.call{f:Nat}{args:List EO}{dst:Option Pa}{call:Bf}{es:ES}{Q:ES->Prop}(d:DV)(hp:Tr DObj)(nx:Nat)(hc:call (.fn f) (args.map (Ac es)) es.hp es.nx=some (d,hp,nx))(h:Q ((ES.mk es.sl hp nx).putE dst d)):SW (Au f args dst) call es Q:=by
 refine ⟨_,?_,h⟩
 unfold Au jE dK
 rw [wH,hc];rfl
theorem mM{α:Type}(p:Pa):gP p (.e:Tr α)=none:=by cases p <;> rfl
theorem RW{α:Type} : ∀ (p:Pa) (v:Option α) (t:Tr α),gP p (sP p v t)=v
 | .o,v,t=>by cases t <;> rfl
 | .l p,v,.e=>RW p v .e
 | .l p,v,.n l _ _=>RW p v l
 | .r p,v,.e=>RW p v .e
 | .r p,v,.n _ _ r=>RW p v r
theorem SH{α:Type} : ∀ {p q:Pa} (v:Option α) (t:Tr α),q≠p->gP p (sP q v t)=gP p t
 | .o,.o,v,t,h=>absurd rfl h
 | .o,.l q,v,t,_=>by cases t <;> rfl
 | .o,.r q,v,t,_=>by cases t <;> rfl
 | .l p,.o,v,t,_=>by cases t <;> first | rfl | exact mM p
 | .l p,.r q,v,t,_=>by cases t <;> first | rfl | exact mM p
 | .r p,.o,v,t,_=>by cases t <;> first | rfl | exact mM p
 | .r p,.l q,v,t,_=>by cases t <;> first | rfl | exact mM p
 | .l p,.l q,v,.e,h=>show gP p (sP q v .e)=none from (SH (p:=p) (q:=q) v .e λe=>h (by rw [e])).trans (mM p)
 | .l p,.l q,v,.n l _ _,h=>SH v l λe=>h (by rw [e])
 | .r p,.r q,v,.e,h=>show gP p (sP q v .e)=none from (SH (p:=p) (q:=q) v .e λe=>h (by rw [e])).trans (mM p)
 | .r p,.r q,v,.n _ _ r,h=>SH v r λe=>h (by rw [e])
theorem Cm0(sl:Tr DV)(hp:Tr DObj)(nx:Nat)(p:Pa)(d:DV):Ac (ES.putE ⟨sl,hp,nx⟩ (some p) d) (.t p)=d:=by
 show Option.rec (motive:=λ_=>DV) _ _ (gP p (sP p (some d) sl))=d
 rw [RW]
theorem A59(es:ES){p q:Pa}(d:DV)(h:q≠p):Ac (ES.putE es (some q) d) (.t p)=Ac es (.t p):=by
 obtain ⟨sl,hp,nx⟩:=es
 show Option.rec (motive:=λ_=>DV) _ _ (gP p (sP q (some d) sl))=Option.rec (motive:=λ_=>DV) _ _ (gP p sl)
 rw [SH _ _ h]
theorem zv(es:ES)(p:Pa)(d:DV):Ac (ES.putE es (some p) d) (.t p)=d:=by
 obtain ⟨sl,hp,nx⟩:=es
 exact Cm0 sl hp nx p d
theorem zu(es:ES)(p:Option Pa)(d:DV):(ES.putE es p d).hp=es.hp:=by cases p <;> rfl
theorem nx_put(es:ES)(p:Option Pa)(d:DV):(ES.putE es p d).nx=es.nx:=by cases p <;> rfl
theorem zt(es:ES)(hp:Tr DObj)(nx:Nat)(p:Option Pa)(d:DV):ES.putE (ES.mk es.sl hp nx) p d=ES.mk (ES.putE es p d).sl hp nx:=by cases p <;> rfl
theorem Cb5(b:Bool):Xz (some (.bool b))=some (.v (.bool b)):=by cases b <;> rfl
theorem Cu6(k:IntKind)(n:Int):Xz (some (.int k n))=some (.v (.int k n)):=by
 show Br5 n (λn=>some (DV.v (.int k n)))=_
 rw [A98]
def CW(d:DV)(A B:Prop):Prop:=∃ t,d=.v (.bool t)/\(t=true->A)/\(t=false->B)
def KW(call:Bf)(tg:Tg)(ds:List DV)(hp:Tr DObj)(nx:Nat)(K:DV->Tr DObj->Nat->Prop):Prop:=∃ d Ap Ba,call tg ds hp nx=some (d,Ap,Ba)/\K d Ap Ba
theorem ew_s{a b:CE}{call:Bf}{es:ES}{Q:Exit->ES->Prop} : EW (cS a b) call es Q↔EW a call es (No (λes1=>EW b call es1 Q) Q):=by
 refine ⟨λ⟨e,es',h1,h2⟩=>?_,EW.s⟩
 rcases ZE h1 with ⟨es1,h3,h4⟩ | ⟨h3,Hu⟩
 .exact ⟨.normal,es1,h3,e,es',h4,h2⟩
 .refine ⟨e,es',h3,?_⟩
  cases e <;> first | exact h2 | exact absurd rfl Hu
theorem W7{s:Od}{call:Bf}{es:ES}{Q:Exit->ES->Prop} : EW (cN s) call es Q↔SW s call es (Q .normal):=by
 refine ⟨λ⟨e,es',h1,h2⟩=>?_,EW.n⟩
 obtain ⟨h3,rfl⟩:=ZD h1
 exact ⟨es',h3,h2⟩
theorem QD{e:Exit}{call:Bf}{es:ES}{Q:Exit->ES->Prop} : EW (cE e) call es Q↔Q e es:=by
 refine ⟨λ⟨e',es',h1,h2⟩=>?_,EW.e⟩
 have h3:some (e,es)=some (e',es'):=h1
 cases h3;exact h2
theorem uy{x:EO}{a b:CE}{call:Bf}{es:ES}{Q:Exit->ES->Prop}(h:CW (Ac es x) (EW a call es Q) (EW b call es Q)):EW (cC x a b) call es Q:=by
 obtain ⟨t,h1,h2,h3⟩:=h
 exact EW.c t h1 h2 h3
theorem E7{x:EO}{a b:CE}{call:Bf}{es:ES}{Q:Exit->ES->Prop} : EW (cC x a b) call es Q↔CW (Ac es x) (EW a call es Q) (EW b call es Q):=by
 refine ⟨λ⟨e,es',h1,h2⟩=>?_,uy⟩
 unfold cC at h1
 obtain ⟨v,hv,h1⟩:=wG h1
 cases v with
 | bool t=>
  refine ⟨t,hv,λht=>?_,λht=>?_⟩
  .subst ht;exact ⟨e,es',h1,h2⟩
  .subst ht;exact ⟨e,es',h1,h2⟩
 | _=>cases h1
theorem ew_b{id:Nat}{c:CE}{call:Bf}{es:ES}{Q:Exit->ES->Prop} : EW (cB id c) call es Q↔EW c call es (Vv id Q):=by
 refine ⟨λ⟨e,es',h1,h2⟩=>?_,EW.b⟩
 obtain ⟨⟨e1,es1⟩,h3,h4⟩:=Jp h1
 refine ⟨e1,es1,h3,?_⟩
 cases e1 with
 | exit i=>
  have h5:Fo (Nat.beq i id) (some (Exit.normal,es1)) (some (Exit.exit i,es1))=some (e,es'):=h4
  rw [Ry] at h5
  simp only [Vv]
  split at h5
  .rename_i hb
   cases h5
   rw [Ah (Ey hb)];exact h2
  .rename_i hb
   cases h5
   rw [Ae (λe=>hb (by rw [e];exact Nat.beq_refl id))];exact h2
 | _=>cases h4;exact h2
theorem K9{s k:Od}{call:Bf}{es:ES}{Q:ES->Prop} : SW (sq s k) call es Q↔SW s call es λes1=>SW k call es1 Q:=by
 refine ⟨λ⟨es',h1,h2⟩=>?_,SW.q⟩
 obtain ⟨es1,h3,h4⟩:=Jp h1
 exact ⟨es1,h3,es',h4,h2⟩
theorem K8{call:Bf}{es:ES}{Q:ES->Prop} : SW tX call es Q↔Q es:=by
 refine ⟨λ⟨es',h1,h2⟩=>?_,SW.z⟩
 have h3:some es=some es':=h1
 cases h3;exact h2
theorem xK{s:Od}{l:List Od}{call:Bf}{es:ES}{Q:ES->Prop} : SW (sL (s::l)) call es Q↔SW s call es λes1=>SW (sL l) call es1 Q:=K9
theorem xJ{call:Bf}{es:ES}{Q:ES->Prop} : SW (sL []) call es Q↔Q es:=K8
theorem PX{l:List Od}{c:CE}{call:Bf}{es:ES}{Q:Exit->ES->Prop} : EW (cT l c) call es Q↔SW (sL l) call es λes1=>EW c call es1 Q:=ew_s.trans W7
theorem sw_m{dst:Option Pa}{x:EO}{call:Bf}{es:ES}{Q:ES->Prop} : SW (sM dst x) call es Q↔Q (es.putE dst (Ac es x)):=by
 refine ⟨λ⟨es',h1,h2⟩=>?_,SW.m⟩
 have h3:some (es.putE dst (Ac es x))=some es':=h1
 cases h3;exact h2
theorem fW{dst:Option Pa}{x:XP}{call:Bf}{es:ES}{Q:ES->Prop} : SW (sX dst x) call es Q↔XW (x es) λd=>Q (es.putE dst d):=by
 refine ⟨λ⟨es',h1,h2⟩=>?_,λ⟨d,h1,h2⟩=>SW.x d h1 h2⟩
 obtain ⟨d,h3,h4⟩:=Jp h1
 have h5:some (es.putE dst d)=some es':=h4
 cases h5
 exact ⟨d,h3,h2⟩
theorem ZC{d:DV}{Q:DV->Prop} : XW (some d) Q↔Q d:=⟨λ⟨d',h1,h2⟩=>(by cases h1;exact h2),λh=>⟨d,rfl,h⟩⟩
theorem sw_call{f:Nat}{args:List EO}{dst:Option Pa}{call:Bf}{es:ES}{Q:ES->Prop} : SW (Au f args dst) call es Q↔KW call (.fn f) (args.map (Ac es)) es.hp es.nx λd hp nx=>Q ((ES.mk es.sl hp nx).putE dst d):=by
 have e:Au f args dst call es=jE (.fn f) (args.map (Ac es)) dst call es:=by unfold Au dK;rw [wH]
 constructor
 .rintro ⟨es',h1,h2⟩
  rw [e] at h1
  obtain ⟨⟨d,hp,nx⟩,h3,h4⟩:=Jp h1
  have h5:some ((ES.mk es.sl hp nx).putE dst d)=some es':=h4
  cases h5
  exact ⟨d,hp,nx,h3,h2⟩
 .rintro ⟨d,hp,nx,h1,h2⟩
  exact SW.call d hp nx h1 h2
theorem X0{t:Bool}{A B:Prop} : CW (.v (.bool t)) A B↔(t=true->A)/\(t=false->B):=⟨λ⟨_,h1,h2⟩=>(by cases h1;exact h2),λh=>⟨t,rfl,h⟩⟩
def Cl(op:BinOp)(a b:DV):Option DV:=(Lw op a b).map .v
theorem wY(op:BinOp)(x y:EO)(es:ES):Aj op x y es=Cl op (Ac es x) (Ac es y):=by
 cases hx:Ac es x with
 | v a=>
  cases hy:Ac es y with
  | v b=>
   cases a with
   | int k m=>
    cases b with
    | int k' n=>
     have e:Aj op x y es=Xz (Fo (Nh op) (nB op k m n) (Fo (Nat.beq k.ctorIdx k'.ctorIdx) (Mq op k m n) none)):=by unfold Aj;rw [hx,hy];rfl
     rw [e,Ry,Ry]
     have hk:(Nat.beq k.ctorIdx k'.ctorIdx=true)↔k=k':=by cases k <;> cases k' <;> simp [IntKind.ctorIdx]
     have Ni:∀ v:Option Value,(∀ w,v=some w->(∃ t,w=.bool t)\/∃ k n,w=.int k n)->Xz v=v.map DV.v:=by
      intro v hv
      cases v with
      | none=>rfl
      | some w=>
       rcases hv w rfl with ⟨t,rfl⟩ | ⟨k,n,rfl⟩
       .exact Cb5 t
       .exact Cu6 k n
     have LM:∀ w,nB op k m n=some w->(∃ t,w=.bool t)\/∃ k n,w=.int k n:=by
      intro w hw
      unfold nB at hw
      split at hw
      .cases hw
      .split at hw <;> first | (cases hw;exact .inr ⟨_,_,rfl⟩) | cases hw
     have hbi:∀ w,Mq op k m n=some w->(∃ t,w=.bool t)\/∃ k n,w=.int k n:=by
      intro w hw
      unfold Mq at hw
      split at hw <;> first | (cases hw;exact .inr ⟨_,_,rfl⟩) | (cases hw;exact .inl ⟨_,rfl⟩) | (split at hw <;> first | (cases hw;exact .inr ⟨_,_,rfl⟩) | cases hw) | cases hw
     simp only [Cl,Lw]
     split
     .exact Ni _ LM
     .by_cases h:k=k'
      .rw [Ah (hk.2 h),Ah h];exact Ni _ hbi
      .rw [Ae (λh'=>h (hk.1 h')),Ae h];rfl
    | _=>unfold Aj;rw [hx,hy];rfl
   | string m=>
    cases b with
    | string n=>
     have e:Aj op x y es=Xz (eC op m n):=by unfold Aj;rw [hx,hy];rfl
     rw [e]
     simp only [Cl,Lw]
     have OC:∀ w,eC op m n=some w->(∃ t,w=.bool t)\/∃ s,w=.string s:=by
      intro w hw
      unfold eC at hw
      split at hw <;> first | (cases hw;exact .inl ⟨_,rfl⟩) | (split at hw <;> first | (cases hw;exact .inr ⟨_,rfl⟩) | cases hw) | cases hw
     cases hv:eC op m n with
     | none=>rfl
     | some w=>
      rcases OC w hv with ⟨t,rfl⟩ | ⟨s,rfl⟩
      .exact Cb5 t
      .rfl
    | _=>unfold Aj;rw [hx,hy];rfl
   | _=>unfold Aj;rw [hx,hy];rfl
  | _=>unfold Aj;rw [hx,hy];cases a <;> rfl
 | _=>unfold Aj;rw [hx];rfl
theorem Dk{n:Int}(h : -9223372036854775808<=n/\n<=9223372036854775807):IntKind.i64.wrap n=n:=IntWalk.i64_in n h
theorem H2(k:IntKind)(a b:Int):Cl .lss (.v (.int k a)) (.v (.int k b))=some (.v (.bool (decide (a<b)))):=by simp [Cl,Lw,Nh,Mq]
theorem H4(k:IntKind)(a b:Int):Cl .gtr (.v (.int k a)) (.v (.int k b))=some (.v (.bool (decide (a>b)))):=by simp [Cl,Lw,Nh,Mq]
theorem H3(k:IntKind)(a b:Int):Cl .leq (.v (.int k a)) (.v (.int k b))=some (.v (.bool (decide (a<=b)))):=by simp [Cl,Lw,Nh,Mq]
theorem H5(k:IntKind)(a b:Int):Cl .geq (.v (.int k a)) (.v (.int k b))=some (.v (.bool (decide (a≥b)))):=by simp [Cl,Lw,Nh,Mq]
theorem QR(k:IntKind)(a b:Int):Cl .eql (.v (.int k a)) (.v (.int k b))=some (.v (.bool (a==b))):=by simp [Cl,Lw,Nh,Mq]
theorem QQ(k:IntKind)(a b:Int):Cl .neq (.v (.int k a)) (.v (.int k b))=some (.v (.bool (a != b))):=by simp [Cl,Lw,Nh,Mq]
theorem H6(k:IntKind)(a b:Int):Cl .add (.v (.int k a)) (.v (.int k b))=some (.v (.int k (k.wrap (a+b)))):=by simp [Cl,Lw,Nh,Mq]
theorem Lh(k:IntKind)(a b:Int):Cl .sub (.v (.int k a)) (.v (.int k b))=some (.v (.int k (k.wrap (a-b)))):=by simp [Cl,Lw,Nh,Mq]
theorem Zq(k:IntKind)(a b:Int):Cl .mul (.v (.int k a)) (.v (.int k b))=some (.v (.int k (k.wrap (a*b)))):=by simp [Cl,Lw,Nh,Mq]
end Go.DD

/- Contracts in the evaluator's terms. -/
namespace Go.DD
theorem Cu7{es:ES}{p:Pa}{d:DV}(h:Ac es (.t p)=d)(hr:d.refs=[]):Mz es (.t p)=d:=by
 have e:Mz es (.t p)=Ch es.hp (Ac es (.t p)):=rfl
 rw [e,h]
 unfold Ch
 rw [Y9,hr]
 rfl
theorem uu{es:ES}{t:Nat}{d:DV}(h:Ac es (.t (Cn t))=d)(hr:d.refs=[]):Mb [(t,none)] es=some (d,es.hp,es.nx):=by
 have e:Np es (t,none)=some d:=Rh some (Cu7 h hr)
 unfold Mb
 simp only [Ez,Ly,e,Fc,Ee,Je,Uf]
structure Al (hp:Tr DObj) (nx:Nat) (Ap:Tr DObj) (Ba:Nat):Prop where
 le:nx<=Ba
 same:∀ id,id<nx->Ap.get id=hp.get id
theorem Al.refl(hp:Tr DObj)(nx:Nat):Al hp nx hp nx:=⟨Af _,λ_ _=>rfl⟩
theorem Al.trans{h1 h2 h3:Tr DObj}{n1 n2 n3:Nat}(a:Al h1 n1 h2 n2)(b:Al h2 n2 h3 n3):Al h1 n1 h3 n3:=
 ⟨Es a.le b.le,λid h=>by rw [b.same id (by have:=a.le;omega),a.same id h]⟩
def vX(es:ES)(args:List DV):Prop:=∀ i d,args[i]?=some d->Ac es (.t (Cn i))=d
theorem Bt5(args:List DV)(hp:Tr DObj)(nx:Nat):vX ⟨Vw args,hp,nx⟩ args:=λi d h=>by
 have e:Ac ⟨Vw args,hp,nx⟩ (.t (Cn i))=Ym args i:=by
  rw [Bs0]
  exact Bj0 args i
 rw [e]
 simp [Ym,h]
end Go.DD

/- The evaluator, read with symbols: regions that draw their order. -/
namespace Go.DD
def TW(s:Ka)(call:Bf)(n0 m:Nat)(δ:DSt)(Q:DSt->Prop):Prop:=∃ δ',s call n0 m δ=some δ'/\Q δ'
theorem Cb6{m:Nat}{s:Ka}{call:Bf}{es:ES}{Q:ES->Prop} : SW (Dg m s) call es Q↔TW s call es.nx m ⟨⟨es.sl,es.hp,es.nx+m⟩,[],[],[]⟩ λd=>Oj es.nx m d.ws d.ps=true/\Q d.es:=by
 have e:Dg m s call es=Option.rec (motive:=λ_=>Option ES) none (λd=>Fo (Oj es.nx m d.ws d.ps) (some d.es) none) (s call es.nx m ⟨⟨es.sl,es.hp,es.nx+m⟩,[],[],[]⟩):=by
  unfold Dg;rw [dR,aW]
 constructor
 .rintro ⟨es',h1,h2⟩
  rw [e] at h1
  obtain ⟨d,h3,h4⟩:=Jp h1
  obtain ⟨h5,h6⟩:=eO h4
  cases h6
  exact ⟨d,h3,h5,h2⟩
 .rintro ⟨d,h1,h2,h3⟩
  exact ⟨d.es,by rw [e,h1];show Fo _ _ _=_;rw [h2];rfl,h3⟩
theorem K5{s k:Ka}{call:Bf}{n0 m:Nat}{δ:DSt}{Q:DSt->Prop} : TW (dq s k) call n0 m δ Q↔TW s call n0 m δ λδ'=>TW k call n0 m δ' Q:=by
 constructor
 .rintro ⟨δ',h1,h2⟩
  obtain ⟨δ1,h3,h4⟩:=Jp h1
  exact ⟨δ1,h3,δ',h4,h2⟩
 .rintro ⟨δ1,h1,δ',h2,h3⟩
  exact ⟨δ',by unfold dq;rw [h1];exact h2,h3⟩
theorem K4{call:Bf}{n0 m:Nat}{δ:DSt}{Q:DSt->Prop} : TW W9 call n0 m δ Q↔Q δ:=by
 constructor
 .rintro ⟨δ',h1,h2⟩
  have h3:some δ=some δ':=h1
  cases h3;exact h2
 .exact λh=>⟨δ,rfl,h⟩
theorem xB{s:Ka}{l:List Ka}{call:Bf}{n0 m:Nat}{δ:DSt}{Q:DSt->Prop} : TW (dL (s::l)) call n0 m δ Q↔TW s call n0 m δ λδ'=>TW (dL l) call n0 m δ' Q:=K5
theorem xA{call:Bf}{n0 m:Nat}{δ:DSt}{Q:DSt->Prop} : TW (dL []) call n0 m δ Q↔Q δ:=K4
theorem Cb7{an:List Nat}{ps:List Pa}{s:Ka}{call:Bf}{n0 m:Nat}{δ:DSt}{Q:DSt->Prop} : TW (Az an ps s) call n0 m δ Q↔Te (refsL δ.es ps) (λid=>Cp n0 m an δ.es.hp id)=true/\TW s call n0 m δ Q:=by
 constructor
 .rintro ⟨δ',h1,h2⟩
  obtain ⟨h3,h4⟩:=eO (show Fo _ _ _=_ from h1)
  exact ⟨h3,δ',h4,h2⟩
 .rintro ⟨h1,δ',h2,h3⟩
  exact ⟨δ',by unfold Az;rw [h1];exact h2,h3⟩
theorem xD{an:List Nat}{ps:List Pa}{i:Nat}{dst:Option Pa}{x:XP}{call:Bf}{n0 m:Nat}{δ:DSt}{Q:DSt->Prop} : TW (dX an ps i dst x) call n0 m δ Q↔TW (Az an ps (Bi i an false false dst (λ_=>x) ps)) call n0 m δ Q:=Dp
theorem xC{an:List Nat}{ps:List Pa}{i:Nat}{dst:Option Pa}{x:XP}{call:Bf}{n0 m:Nat}{δ:DSt}{Q:DSt->Prop} : TW (dY an ps i dst x) call n0 m δ Q↔TW (Az an ps (Bi i an false true dst (λ_=>x) ps)) call n0 m δ Q:=Dp
theorem xE{an:List Nat}{i:Nat}{dst:Option Pa}{p:Pa}{call:Bf}{n0 m:Nat}{δ:DSt}{Q:DSt->Prop} : TW (dP an i dst p) call n0 m δ Q↔TW (Az an [p] (Bi i an false false dst (λ_ es=>some (Ac es (.t p))) [p])) call n0 m δ Q:=Dp
theorem Bt6{i:Nat}{an:List Nat}{wide c:Bool}{dst:Option Pa}{x:Nat->XP}{ps:List Pa}{call:Bf}{n0 m:Nat}{es:ES}{lo:List Nat}{ws:List Look}{pp:List Past}{Q:DSt->Prop} :
  TW (Bi i an wide c dst x ps) call n0 m ⟨es,lo,ws,pp⟩ Q↔XW (x (n0+i) es) λv=>Q ⟨es.putE dst v,lo,Gj i an wide c (refsL es ps) n0 lo ws,pp⟩:=by
 constructor
 .rintro ⟨δ',h1,h2⟩
  obtain ⟨v,h3,h4⟩:=Jp h1
  have h5:some (⟨es.putE dst v,lo,Gj i an wide c (refsL es ps) n0 lo ws,pp⟩:DSt)=some δ':=h4
  cases h5
  exact ⟨v,h3,h2⟩
 .rintro ⟨v,h1,h2⟩
  have e:Bi i an wide c dst x ps call n0 m ⟨es,lo,ws,pp⟩=Option.rec (motive:=λ_=>Option DSt) none (λv=>some ⟨es.putE dst v,lo,Gj i an wide c (refsL es ps) n0 lo ws,pp⟩) (x (n0+i) es):=rfl
  exact ⟨_,by rw [e,h1],h2⟩
theorem Cb8(i:Nat)(c:Bool)(an refs lo:List Nat)(n0:Nat)(ws:List Look):Gj i an false c refs n0 lo ws=ws:=rfl
theorem BU(n0 m:Nat)(ps:List Past):Oj n0 m [] ps=true:=rfl
theorem Bj6(es:ES):refsL es []=[]:=rfl
theorem eL{hp:Tr DObj}{d:DV}(h:d.refs=[]):Ch hp d=d:=by
 unfold Ch;rw [Y9,h];rfl
theorem Y3(es:ES)(t:Nat):es.ds.ev (.tmp t)=Ch es.hp (Ac es (.t (Cn t))):=(sF es (.tmp t)).symm
theorem Cb9(cs:List DV)(n:Nat):(DV.sl cs n).refs=[]:=rfl
theorem Cc0(v:Value):(DV.v v).refs=[]:=rfl
theorem Cc1(cs:List DV):(DV.ia cs).refs=[]:=rfl
def vU(neg:Bool)(ks:List Nat):DV->DV->Option DV
 | .agg xs,.agg ys=>(Qu ks xs ys).map λb=>.v (.bool (xor neg b))
 | _,_=>none
end Go.DD

/- Lists of records, as their cells lie. -/
namespace Go.DD
end Go.DD

/- The evaluator, read with symbols: guards, choices, parts of tuples; contracts without a heap. -/
namespace Go.DD
def GW(d:DV)(b:Bool)(A B:Prop):Prop:=(∃ c,d=.v (.bool c)/\(c=b->A)/\(c≠b->B))\/(∃ vs,d=.v (.tuple vs)/\B)
theorem eg{p:Pa}{b:Bool}{dst:Option Pa}{s:Od}{call:Bf}{es:ES}{Q:ES->Prop} : GW (Ac es (.t p)) b (SW s call es Q) (Q (es.putE dst (.v undef)))->SW (sG p b dst s) call es Q:=by
 rintro (⟨c,h1,h2,h3⟩ | ⟨vs,h1,h2⟩)
 .have hw:Kk es p b=some (c==b):=by unfold Kk;rw [h1];rfl
  unfold SW sG
  rw [hw]
  by_cases hc:c=b
  .obtain ⟨es',h4,h5⟩:=h2 hc
   refine ⟨es',?_,h5⟩
   subst hc
   simp only [Ol]
   exact h4
  .refine ⟨_,?_,h3 hc⟩
   have:(c==b)=false:=by simpa using hc
   rw [this]
 .have hw:Kk es p b=some false:=by unfold Kk;rw [h1];rfl
  exact ⟨_,by unfold sG;rw [hw],h2⟩
theorem oD{p:Pa}{b:Bool}{dst:Option Pa}{s:Od}{call:Bf}{es:ES}{Q:ES->Prop} : SW (sG p b dst s) call es Q↔GW (Ac es (.t p)) b (SW s call es Q) (Q (es.putE dst (.v undef))):=by
 refine ⟨?_,eg⟩
 rintro ⟨es',h1,h2⟩
 unfold sG at h1
 obtain ⟨c,h3,h4⟩:=Jp h1
 unfold Kk at h3
 obtain ⟨v,hv,h3⟩:=wG h3
 cases v with
 | bool t=>
  refine .inl ⟨t,hv,λe=>?_,λe=>?_⟩
  .have h5:some (t==b)=some c:=h3
   cases h5
   subst e
   simp only [Ol] at h4
   exact ⟨es',h4,h2⟩
  .have h5:some (t==b)=some c:=h3
   cases h5
   have:(t==b)=false:=by simpa using e
   rw [this] at h4
   cases h4
   exact h2
 | tuple vs=>
  refine .inr ⟨vs,hv,?_⟩
  have h5:some false=some c:=h3
  cases h5
  cases h4
  exact h2
 | _=>cases h3
theorem vR{c b:Bool}{A B:Prop} : GW (.v (.bool c)) b A B↔(c=b->A)/\(c≠b->B):=by
 constructor
 .rintro (⟨c',h1,h2⟩ | ⟨vs,h1,_⟩)
  .cases h1;exact h2
  .cases h1
 .exact λh=>.inl ⟨c,rfl,h⟩
theorem PC{b:Bool}{A B:Prop} : GW (.v undef) b A B↔B:=by
 constructor
 .rintro (⟨c',h1,h2⟩ | ⟨vs,_,h⟩)
  .cases h1
  .exact h
 .exact λh=>.inr ⟨_,rfl,h⟩
def Yt(c x y:DV):Option DV:=match c with
 | .v (.bool t)=>some (if t then x else y)
 | _=>none
theorem Cc2(c x y:EO)(es:ES):Bz c x y es=Yt (Ac es c) (Ac es x) (Ac es y):=by
 unfold Bz
 cases Ac es c with
 | v a=>cases a <;> first | rfl | (rename_i t;cases t <;> rfl)
 | _=>rfl
theorem Cc3(t:Bool)(x y:DV):Yt (.v (.bool t)) x y=some (if t then x else y):=rfl
def K3(op:UnOp)(x:DV):Option DV:=match x with
 | .v v=>(EJ op (.v v)).map .v
 | _=>none
theorem DZ(op:UnOp)(x:EO)(es:ES):Lk op x es=K3 op (Ac es x):=by
 unfold Lk
 cases Ac es x with
 | v a=>
  show Xz _=_
  rw [ZH];rfl
 | _=>rfl
def rS(rel:Nat->List DV->Option DV):Bf:=λtg ds hp nx=>match tg with
 | .fn f=>match rel f ds with
  | some d=>some (d,hp,nx)
  | none=>none
 | .yl _=>none
theorem Bj7{P:Program}{rel:Nat->List DV->Option DV}(h:∀ f ds d,rel f ds=some d->Known P f ds d):Vy P (rS rel):=by
 intro tg ds hp nx d Ap Ba hc _
 cases tg with
 | yl id=>cases hc
 | fn f=>
  have Jd:(match rel f ds with
   | some d=>some (d,hp,nx)
   | none=>none)=some (d,Ap,Ba):=hc
  split at Jd
  .rename_i d0 hd
   cases Jd
   obtain ⟨k1,k2,k3⟩:=h f ds d hd
   exact ⟨Af _,λid h2 h3=>absurd h2 h3,k1,λsv K hK=>.inr ⟨_,k2,k3,hK⟩⟩
  .cases Jd
theorem Known.of{P:Program}(hm:P.follows .mixedOrders=true){tb:Nat->Option FE}{n':Nat}(aY:Yn P n' tb){f:Nat}{fe:FE}{args:List DV}{r:DV}{call:Bf}(hc:Vy P call)(hf:tb f=some fe)(hn:args.length<=fe.nt)(hr:∀ x∈args,x.refs=[])
  (h:EW fe.run call ⟨Vw args,.e,0⟩ λe es=>(e=.normal\/e=.ret)/\∃ d,Mb fe.res es=some (d,es.hp,es.nx)/\rz es.hp.get 6 d=some r):Known P f args r:=by
 obtain ⟨e,es,h1,h2,d,h3,h4⟩:=h
 have hs:Ue tb 0 call (.fn f) args .e 0=some (d,es.hp,es.nx):=by
  show (match tb f with
   | some fe=>if args.length<=fe.nt then match fe.run call ⟨Vw args,.e,0⟩ with
     | some (.normal,es)=>Mb fe.res es
     | some (.ret,es)=>Mb fe.res es
     | _=>none
    else none
   | none=>none)=some (d,es.hp,es.nx)
  rw [hf]
  simp only
  rw [Ah hn,h1]
  rcases h2 with rfl | rfl
  .exact h3
  .exact h3
 obtain ⟨_,_,Yi,hI⟩:=XY hm aY hc _ _ _ _ _ _ _ hs (λid _=>by cases id <;> rfl)
 refine ⟨Yi,hr,DCall.of_callC (sv:=λ_=>.any) ?_⟩
 have:=hI (λ_=>.any) (λs d=>∃ r',rz s.ho 6 d=some r'/\r'=r) ⟨r,h4,rfl⟩
 have e:(Tr.e:Tr DObj).get=λ_=>none:=by funext id;cases id <;> rfl
 rw [e] at this
 exact this
theorem Cm1{ho:Nat->Option DObj}{n:Nat}{d:DV}(h:d.flat=true):rz ho (n+1) d=some d:=by
 cases d <;> first | rfl | (simp [DV.flat] at h)
theorem Known.run1{P:Program}(hm:P.follows .mixedOrders=true){tb:Nat->Option FE}{n':Nat}(aY:Yn P n' tb){f t:Nat}{c:CE}{nt:Nat}{args:List DV}{r:DV}{call:Bf}(hc:Vy P call)(hf:tb f=some ⟨c,[(t,none)],nt⟩)(hn:args.length<=nt)(hr:∀ x∈args,x.refs=[])(hrr:r.refs=[])(hz:∀ ho,rz ho 6 r=some r)
  (h:∀ es,vX es args->EW c call es λe es'=>(e=.normal\/e=.ret)/\Ac es' (.t (Cn t))=r):Known P f args r:=
 Known.of hm aY hc hf hn hr ((h _ (Bt5 args .e 0)).mono λ_ _ ⟨h1,h2⟩=>⟨h1,r,uu h2 hrr,hz _⟩)
end Go.DD

/- The evaluator, read with symbols: steps that lay or write; loops counted upwards; contracts by families. -/
namespace Go.DD
open Go
theorem EW.up{c:CE}{call:Bf}{Q:Exit->ES->Prop}(n:Nat)(St:Nat->ES->Prop)(step:∀ i es,i<=n->St i es->EW c call es (No (λes1=>i<n/\St (i+1) es1) Q)){k:Nat}{es:ES}(h0:St 0 es)(hk:n<k):EW (cL k c) call es Q:=
 EW.l (I:=λm es=>∃ i,m=n-i/\i<=n/\St i es) (by
  rintro m es ⟨i,rfl,hi,hs⟩
  refine (step i es hi hs).mono λe es1 h=>?_
  cases e with
  | normal=>obtain ⟨Fb,Co⟩:=h;exact ⟨n-(i+1),by omega,i+1,rfl,by omega,Co⟩
  | _=>exact h) n k es ⟨0,rfl,by omega,h0⟩ hk
def UW(x:Option (DV×Upd))(K:DV->Upd->Prop):Prop:=∃ d u,x=some (d,u)/\K d u
theorem I9{d:DV}{u:Upd}{K:DV->Upd->Prop} : UW (some (d,u)) K↔K d u:=⟨λ⟨_,_,h1,h2⟩=>(by cases h1;exact h2),λh=>⟨d,u,rfl,h⟩⟩
def ES.up(es:ES)(u:Upd):ES:=⟨es.sl,Vh es.hp es.nx u,if u.new then es.nx+1 else es.nx⟩
theorem fK(es:ES)(o:DObj):es.up (.lay o)=⟨es.sl,Kq es.hp es.nx (some o),es.nx+1⟩:=rfl
theorem Mk(es:ES)(id:Nat)(o:DObj):es.up (.wr id o)=⟨es.sl,Kq es.hp id (some o),es.nx⟩:=rfl
theorem Cc4(es:ES)(o:DObj):es.up (.mv none o)=⟨es.sl,Kq es.hp es.nx (some o),es.nx+1⟩:=rfl
theorem Cc5(es:ES)(i:Nat)(o:DObj):es.up (.mv (some i) o)=⟨es.sl,Kq (Kq es.hp i none) es.nx (some o),es.nx+1⟩:=rfl
theorem sw_u{dst:Option Pa}{x:XU}{call:Bf}{es:ES}{Q:ES->Prop} : SW (sU dst x) call es Q↔UW (x es es.nx) λd u=>Q ((es.up u).putE dst d):=by
 have key:∀ d u,x es es.nx=some (d,u)->sU dst x call es=some ((es.up u).putE dst d):=by
  intro d u h
  unfold sU
  rw [h]
  show es.cs (λsl hp nx=>Fo u.new (Zu (nx+1) λn=>some ((ES.mk sl (Vh hp nx u) n).putE dst d)) (some ((ES.mk sl (Vh hp nx u) nx).putE dst d)))=_
  rw [dR,aW,Ry]
  unfold ES.up
  cases u.new <;> rfl
 constructor
 .rintro ⟨es',h1,h2⟩
  cases hx:x es es.nx with
  | none=>
   have:sU dst x call es=none:=by unfold sU;rw [hx]
   rw [this] at h1;cases h1
  | some p=>
   obtain ⟨d,u⟩:=p
   rw [key d u hx] at h1
   cases h1
   exact ⟨d,u,rfl,h2⟩
 .rintro ⟨d,u,h1,h2⟩
  exact ⟨_,key d u h1,h2⟩
theorem Hf(o:DOp)(es:ES)(nid:Nat):Bc o es nid=Bb nid es.ds o:=rfl
theorem get_set(t:Tr DObj)(k j:Nat)(v:Option DObj):(Kq t k v).get j=if j=k then v else t.get j:=by rw [J7]
theorem Sd(hp:Tr DObj)(v:Value):Ch hp (.v v)=.v v:=eL rfl
theorem Bt7(hp:Tr DObj)(cs:List DV)(n:Nat):Ch hp (.sl cs n)=.sl cs n:=eL rfl
theorem Bt8(hp:Tr DObj)(cs:List DV):Ch hp (.ia cs)=.ia cs:=eL rfl
theorem Wh{hp:Tr DObj}{d:DV}(h:∀ id∈d.refs,(hp.get id).isSome=true):Ch hp d=d:=by
 unfold Ch
 rw [Y9,RY,Ry,Ah]
 rw [Ay]
 intro id hi
 rw [nX,Ju]
 exact h id hi
theorem eK{hp:Tr DObj}{id off n es:Nat}{o:DObj}(h:hp.get id=some o):Ch hp (.ms id off n es)=.ms id off n es:=Wh λi hi=>by
 have:i=id:=by simpa [DV.refs] using hi
 rw [this,h];rfl
theorem Qv{hp:Tr DObj}{id off:Nat}{o:DObj}(h:hp.get id=some o):Ch hp (.pt id off)=.pt id off:=Wh λi hi=>by
 have:i=id:=by simpa [DV.refs] using hi
 rw [this,h];rfl
theorem tH{hp:Tr DObj}{id:Nat}{o:DObj}(h:hp.get id=some o):Ch hp (.mp id)=.mp id:=Wh λi hi=>by
 have:i=id:=by simpa [DV.refs] using hi
 rw [this,h];rfl
def gC:DV->Option DV
 | .v (.string b)=>some (.v (.int .i64 b.size))
 | _=>none
def Qq:DV->DV->Option DV
 | .v (.string b),.v (.int _ j)=>if 0<=j then (b[j.toNat]?).map λc=>.v (.int .u8 (c.toNat:Int)) else none
 | _,_=>none
def Iw(x:Option DV):Option (DV×Upd):=x.map λd=>(d,.keep)
theorem Bt9{d:DV}{K:DV->Upd->Prop} : UW (Iw (some d)) K↔K d .keep:=I9
theorem EB{t:Nat}{es:ES}{nid:Nat} : Bc (.lns (.tmp t)) es nid=Iw (gC (Ch es.hp (Ac es (.t (Cn t))))):=by
 rw [Hf,<- Y3]
 simp only [Bb]
 cases es.ds.ev (.tmp t) with
 | v x=>cases x <;> rfl
 | _=>rfl
theorem ED{t u:Nat}{es:ES}{nid:Nat} : Bc (.ixs (.tmp t) (.tmp u)) es nid=Iw (Qq (Ch es.hp (Ac es (.t (Cn t)))) (Ch es.hp (Ac es (.t (Cn u))))):=by
 rw [Hf,<- Y3,<- Y3]
 simp only [Bb]
 cases es.ds.ev (.tmp t) with
 | v x=>cases x <;> cases es.ds.ev (.tmp u) with
  | v y=>cases y <;> first | rfl | (simp only [Mx,Qq,Iw];split <;> first | rfl | (cases ByteArray.get? _ _ <;> rfl) | (simp only [Option.map_map];rfl))
  | _=>rfl
 | _=>cases es.ds.ev (.tmp u) with
  | v y=>cases y <;> rfl
  | _=>rfl
def tY:DV->Option DV
 | .v (.string b)=>some (.sl (b.data.toList.map λc=>.v (.int .u8 (c.toNat:Int))) b.size)
 | _=>none
theorem EA{t:Nat}{es:ES}{nid:Nat} : Bc (.s2b (.tmp t)) es nid=Iw (tY (Ch es.hp (Ac es (.t (Cn t))))):=by
 rw [Hf,<- Y3]
 simp only [Bb]
 cases es.ds.ev (.tmp t) with
 | v x=>cases x <;> rfl
 | _=>rfl
end Go.DD

/- The evaluator, read with symbols: guarded steps as data, not as branches; operations that lay nothing as data. -/
namespace Go.DD
open Go
theorem nr{α:Sort _}{a b:α}(h:a=b):a=b:=h
@[congr] theorem QE{c:CE}{call:Bf}{es es':ES}{Q:Exit->ES->Prop}(h:es=es'):EW c call es Q=EW c call es' Q:=by rw [h]
@[congr] theorem FD{s:Od}{call:Bf}{es es':ES}{Q:ES->Prop}(h:es=es'):SW s call es Q=SW s call es' Q:=by rw [h]
@[congr] theorem DU{x x':Option DV}{K:DV->Prop}(h:x=x'):XW x K=XW x' K:=by rw [h]
@[congr] theorem EH{x x':Option (DV×Upd)}{K:DV->Upd->Prop}(h:x=x'):UW x K=UW x' K:=by rw [h]
@[congr] theorem JZ{call:Bf}{tg:Tg}{ds fG:List DV}{hp Ap:Tr DObj}{nx Ba:Nat}{K:DV->Tr DObj->Nat->Prop}(h1:ds=fG)(h2:hp=Ap)(h3:nx=Ba):KW call tg ds hp nx K=KW call tg fG Ap Ba K:=by rw [h1,h2,h3]
@[congr] theorem QL{d d':DV}{A B:Prop}(h:d=d'):CW d A B=CW d' A B:=by rw [h]
@[congr] theorem PD{d d':DV}{b:Bool}{A B:Prop}(h:d=d'):GW d b A B=GW d' b A B:=by rw [h]
@[congr] theorem ER{s:Ka}{call:Bf}{n0 m:Nat}{d d':DSt}{Q:DSt->Prop}(h:d=d'):TW s call n0 m d Q=TW s call n0 m d' Q:=by rw [h]
@[congr] theorem K6{n:ES->Prop}{Q:Exit->ES->Prop}{e:Exit}{es:ES} : No n Q e es=No n Q e es:=nr rfl
@[congr] theorem BK{i:Nat}{Q:Exit->ES->Prop}{e:Exit}{es:ES} : Vv i Q e es=Vv i Q e es:=nr rfl
theorem Cc6{n:ES->Prop}{Q:Exit->ES->Prop}{es:ES} : No n Q .normal es=n es:=nr rfl
theorem Cc7{n:ES->Prop}{Q:Exit->ES->Prop}{es:ES} : No n Q .ret es=Q .ret es:=nr rfl
theorem Cc8{n:ES->Prop}{Q:Exit->ES->Prop}{i:Nat}{es:ES} : No n Q (.exit i) es=Q (.exit i) es:=nr rfl
theorem G7{i:Nat}{Q:Exit->ES->Prop}{es:ES} : Vv i Q .normal es=Q .normal es:=nr rfl
theorem G6{i:Nat}{Q:Exit->ES->Prop}{es:ES} : Vv i Q .ret es=Q .ret es:=nr rfl
theorem G5{i:Nat}{Q:Exit->ES->Prop}{es:ES} : Vv i Q (.exit i) es=Q .normal es:=by simp [Vv]
theorem G4{i j:Nat}{Q:Exit->ES->Prop}{es:ES}(h:j≠i):Vv i Q (.exit j) es=Q (.exit j) es:=by simp [Vv,h]
def mk1(d:DV):Option DV:=some d
theorem Cc9(d:DV):mk1 d=some d:=nr rfl
theorem xI{dst:Option Pa}{x:EO}{call:Bf}{es:ES}{Q:ES->Prop} : SW (sM dst x) call es Q↔XW (mk1 (Ac es x)) λd=>Q (es.putE dst d):=sw_m.trans (ZC (Q:=λd=>Q (es.putE dst d))).symm
def dH(g:DV)(b:Bool)(x:Option DV):Option DV:=match g with
 | .v (.bool c)=>if c=b then x else some (.v undef)
 | .v (.tuple _)=>some (.v undef)
 | _=>none
theorem Bu0{es:ES}{p:Pa}{b c:Bool}(h:Kk es p b=some c):(∃ t,Ac es (.t p)=.v (.bool t)/\c=(t==b))\/(∃ vs,Ac es (.t p)=.v (.tuple vs)/\c=false):=by
 unfold Kk at h
 obtain ⟨v,hv,h⟩:=wG h
 cases v with
 | bool t=>
  have h5:some (t==b)=some c:=h
  cases h5
  exact .inl ⟨t,hv,rfl⟩
 | tuple vs=>
  have h5:some false=some c:=h
  cases h5
  exact .inr ⟨vs,hv,rfl⟩
 | _=>cases h
theorem oF{p:Pa}{b:Bool}{dst:Option Pa}{s:Od}{X:ES->Option DV}{call:Bf}{es:ES}{Q:ES->Prop}
  (hs:∀ Q:ES->Prop,SW s call es Q↔XW (X es) λd=>Q (es.putE dst d)):SW (sG p b dst s) call es Q↔XW (dH (Ac es (.t p)) b (X es)) λd=>Q (es.putE dst d):=by
 rw [oD]
 constructor
 .rintro (⟨c,h1,h2,h3⟩ | ⟨vs,h1,h2⟩)
  .rw [h1]
   simp only [dH]
   by_cases hc:c=b
   .rw [Ah hc];exact (hs Q).1 (h2 hc)
   .rw [Ae hc];exact ⟨_,rfl,h3 hc⟩
  .rw [h1];exact ⟨_,rfl,h2⟩
 .rintro ⟨d,h1,h2⟩
  unfold dH at h1
  split at h1
  .rename_i c hr
   refine .inl ⟨c,hr,λhc=>?_,λhc=>?_⟩
   .rw [Ah hc] at h1;exact (hs Q).2 ⟨d,h1,h2⟩
   .rw [Ae hc] at h1;cases h1;exact h2
  .rename_i vs hr
   cases h1
   exact .inr ⟨_,hr,h2⟩
  .cases h1
theorem FA{p:Pa}{b:Bool}{dst:Option Pa}{x:XP}{call:Bf}{es:ES}{Q:ES->Prop} : SW (sG p b dst (sX dst x)) call es Q↔XW (dH (Ac es (.t p)) b (x es)) λd=>Q (es.putE dst d):=oF λ_=>fW
theorem FB{p:Pa}{b:Bool}{dst:Option Pa}{x:EO}{call:Bf}{es:ES}{Q:ES->Prop} : SW (sG p b dst (sM dst x)) call es Q↔XW (dH (Ac es (.t p)) b (some (Ac es x))) λd=>Q (es.putE dst d):=
 oF (X:=λes=>some (Ac es x)) λQ=>by rw [sw_m];exact (ZC (Q:=λd=>Q (es.putE dst d))).symm
theorem ZB{dst:Option Pa}{x:XU}{X:XP}(h:∀ es nid,x es nid=Iw (X es)):sU dst x=sX dst X:=by
 funext call es
 unfold sU sX
 rw [h]
 unfold Iw
 cases X es with
 | none=>rfl
 | some d=>
  show es.cs (λsl hp nx=>Fo Upd.keep.new (Zu (nx+1) λn=>some ((ES.mk sl (Vh hp nx .keep) n).putE dst d)) (some ((ES.mk sl (Vh hp nx .keep) nx).putE dst d)))=_
  rfl
def tN(t:Nat):XP:=λes=>gC (Ch es.hp (Ac es (.t (Cn t))))
def tO(t u:Nat):XP:=λes=>Qq (Ch es.hp (Ac es (.t (Cn t)))) (Ch es.hp (Ac es (.t (Cn u))))
def J9(t:Nat):XP:=λes=>tY (Ch es.hp (Ac es (.t (Cn t))))
theorem zr{dst:Option Pa}{t:Nat}{call:Bf}{es:ES}{Q:ES->Prop} : SW (sU dst (Bc (.lns (.tmp t)))) call es Q↔XW (tN t es) λd=>Q (es.putE dst d):=by rw [ZB (X:=tN t) λ_ _=>EB];exact fW
theorem zq{dst:Option Pa}{t u:Nat}{call:Bf}{es:ES}{Q:ES->Prop} : SW (sU dst (Bc (.ixs (.tmp t) (.tmp u)))) call es Q↔XW (tO t u es) λd=>Q (es.putE dst d):=by rw [ZB (X:=tO t u) λ_ _=>ED];exact fW
theorem Cd0{dst:Option Pa}{t:Nat}{call:Bf}{es:ES}{Q:ES->Prop} : SW (sU dst (Bc (.s2b (.tmp t)))) call es Q↔XW (J9 t es) λd=>Q (es.putE dst d):=by rw [ZB (X:=J9 t) λ_ _=>EA];exact fW
theorem yN(b:Bool):K3 .not (.v (.bool b))=some (.v (.bool !b)):=nr rfl
theorem IZ(k:IntKind)(n:Int):K3 .neg (.v (.int k n))=some (.v (.int k (k.wrap (0-n)))):=nr rfl
theorem jz(es:ES)(d:DV):Ac es (.c d)=d:=nr rfl
theorem N2(es:ES)(hp:Tr DObj)(nx:Nat)(p:Pa):Ac (ES.mk es.sl hp nx) (.t p)=Ac es (.t p):=nr rfl
theorem yO(b:ByteArray):gC (.v (.string b))=some (.v (.int .i64 b.size)):=nr rfl
theorem yH(b:ByteArray):tY (.v (.string b))=some (.sl (b.data.toList.map λc=>.v (.int .u8 (c.toNat:Int))) b.size):=nr rfl
theorem IY(es:ES):es.up .keep=es:=nr rfl
theorem Cd1(t:Nat)(es:ES):tN t es=gC (Ch es.hp (Ac es (.t (Cn t)))):=nr rfl
theorem Cd2(t u:Nat)(es:ES):tO t u es=Qq (Ch es.hp (Ac es (.t (Cn t)))) (Ch es.hp (Ac es (.t (Cn u)))):=nr rfl
theorem Cd3(t:Nat)(es:ES):J9 t es=tY (Ch es.hp (Ac es (.t (Cn t)))):=nr rfl
theorem Cm2{p:Pa}{b:Bool}{dst:Option Pa}{t:Nat}{call:Bf}{es:ES}{Q:ES->Prop} : SW (sG p b dst (sU dst (Bc (.lns (.tmp t))))) call es Q↔XW (dH (Ac es (.t p)) b (tN t es)) λd=>Q (es.putE dst d):=oF λ_=>zr
theorem Cm3{p:Pa}{b:Bool}{dst:Option Pa}{t u:Nat}{call:Bf}{es:ES}{Q:ES->Prop} : SW (sG p b dst (sU dst (Bc (.ixs (.tmp t) (.tmp u))))) call es Q↔XW (dH (Ac es (.t p)) b (tO t u es)) λd=>Q (es.putE dst d):=oF λ_=>zq
section
variable {c:Bool}
theorem tq{x:Option DV} : dH (.v (.bool c)) true x=if c=true then x else some (.v undef):=nr rfl
theorem tt{x:Option DV} : dH (.v (.bool c)) false x=if c=true then some (.v undef) else x:=by cases c <;> rfl
theorem tp{b:Bool}{x:Option DV} : dH (.v undef) b x=some (.v undef):=nr rfl
theorem ts{a a':DV}{b:Bool}{x:Option DV} : dH (if c=true then a else a') b x=if c=true then dH a b x else dH a' b x:=by cases c <;> rfl
theorem Cu8{a b:DV} : (if c=true then some a else some b)=some (if c=true then a else b):=by cases c <;> rfl
theorem lf{α:Type}{a b d:α} : (if c=true then (if c=true then a else b) else d)=if c=true then a else d:=by cases c <;> rfl
theorem ll{α:Type}{a b d:α} : (if c=true then a else (if c=true then b else d))=if c=true then a else d:=by cases c <;> rfl
theorem Cu9{op:BinOp}{a b y:DV} : Cl op (if c=true then a else b) y=if c=true then Cl op a y else Cl op b y:=by cases c <;> rfl
theorem Cv0{op:BinOp}{a b y:DV} : Cl op y (if c=true then a else b)=if c=true then Cl op y a else Cl op y b:=by cases c <;> rfl
theorem kz{op:UnOp}{a b:DV} : K3 op (if c=true then a else b)=if c=true then K3 op a else K3 op b:=by cases c <;> rfl
theorem Cm4{a b x y:DV} : Yt (if c=true then a else b) x y=if c=true then Yt a x y else Yt b x y:=by cases c <;> rfl
theorem Cv1{hp:Tr DObj}{a b:DV} : Ch hp (if c=true then a else b)=if c=true then Ch hp a else Ch hp b:=by cases c <;> rfl
theorem KK{a b:DV} : gC (if c=true then a else b)=if c=true then gC a else gC b:=by cases c <;> rfl
theorem Cv2{a b y:DV} : Qq (if c=true then a else b) y=if c=true then Qq a y else Qq b y:=by cases c <;> rfl
theorem Cv3{a b y:DV} : Qq y (if c=true then a else b)=if c=true then Qq y a else Qq y b:=by cases c <;> rfl
theorem ky{x y:Bool} : (if c=true then DV.v (.bool x) else .v (.bool y))=.v (.bool (if c=true then x else y)):=by cases c <;> rfl
theorem lg{w:Bool} : (if c=true then true else w)=(c||w):=by cases c <;> rfl
theorem KO{w:Bool} : (if c=true then w else false)=(c&&w):=by cases c <;> rfl
end
theorem Cv4(t:Bool)(x y:DV):Yt (.v (.bool t)) x y=some (if t=true then x else y):=by cases t <;> rfl
def fH(hp:Tr DObj)(id:Nat):Bool:=(hp.get id).isSome
def Qp(hp:Tr DObj)(x:DV):Option DV:=match x with
 | .sl _ n=>some (.v (.int .i64 n))
 | .v (.slice none n _)=>some (.v (.int .i64 n))
 | .ms id _ n _=>if fH hp id=true then some (.v (.int .i64 n)) else none
 | _=>none
def Ms(hp:Tr DObj)(es:Nat)(x i:DV):Option DV:=match i with
 | .v (.int _ j)=>match x with
  | .sl cs n=>if 0<=j/\j<n then some (.ia (cs.drop (j.toNat*es))) else none
  | .ms id off n _=>if fH hp id=true/\0<=j/\j<n then some (.pt id (off+j.toNat*es)) else none
  | _=>none
 | _=>none
def Hk(hp:Tr DObj)(k:Option Nat)(x:DV):Option DV:=match x with
 | .ia cs=>Jc k cs
 | .pt id off=>match hp.get id with
  | some (.row _ cs)=>Jc k (cs.drop off)
  | _=>none
 | _=>none
def Ow(hp:Tr DObj)(off:Nat)(x:DV):Option DV:=match x with
 | .ia cs=>some (.ia (cs.drop off))
 | .pt id o=>if fH hp id=true then some (.pt id (o+off)) else none
 | _=>none
theorem wX(x:EO)(es:ES):Cy x es=Qp es.hp (Ac es x):=by
 unfold Cy Qp
 cases Ac es x with
 | v a=>
  cases a with
  | slice a n c=>cases a <;> rfl
  | _=>rfl
 | sl cs n=>show Zu n (λn=>some (DV.v (.int .i64 (.ofNat n))))=some (DV.v (.int .i64 n));rw [aW];rfl
 | ms id off n es'=>
  show Fo (Pu (gN es.hp id)) (Zu n λn=>some (DV.v (.int .i64 (.ofNat n)))) (none:Option DV)=if fH es.hp id=true then some (DV.v (.int .i64 n)) else none
  rw [aW,Ry,nX,Ju];rfl
 | _=>rfl
theorem XG{α:Type}(j:Int)(n:Nat)(f:Nat->Option α):rY j n f none=if 0<=j/\j<n then f j.toNat else none:=by
 cases j with
 | ofNat m=>
  show Fo (Nat.blt m n) (f m) none=_
  rw [Ry]
  by_cases h:m<n
  .rw [Ah (by simpa [Km] using h),Ah ⟨by simp,by simpa using h⟩];rfl
  .rw [Ae (by simpa [Km] using h),Ae (λhh=>h (by simpa using hh.2))]
 | negSucc m=>
  rw [Ae (λhh=>absurd hh.1 (by simp))];rfl
theorem EE(es':Nat)(x i:EO)(es:ES):Cs es' x i es=Ms es.hp es' (Ac es x) (Ac es i):=by
 unfold Cs Ms
 cases Ac es i with
 | v a=>
  cases a with
  | int k j=>
   show WX (Ac es x) _ _ _ _=_
   cases Ac es x with
   | sl cs n=>show rY j n (λm=>some (DV.ia (Jv (m*es') cs))) none=_;rw [XG];simp only [fP]
   | ms id off n e=>
    show Fo (Pu (gN es.hp id)) (rY j n (λm=>Zu (off+m*es') λo=>some (DV.pt id o)) none) none=_
    rw [Ry,nX,Ju,XG]
    simp only [aW,fH]
    by_cases h1:(es.hp.get id).isSome=true <;> by_cases h2:0<=j/\j<n <;> simp [h1,h2]
   | _=>rfl
  | _=>rfl
 | _=>rfl
theorem EC(k:Option Nat)(x:EO)(es:ES):Bs k x es=Hk es.hp k (Ac es x):=by
 unfold Bs Hk
 cases Ac es x with
 | ia cs=>exact Y8 k cs
 | pt id off=>
  show Ub es.hp id (λ_ cs=>Qb k (Jv off cs)) (none:Option DV)=match es.hp.get id with
   | some (.row _ cs)=>Jc k (cs.drop off)
   | _=>none
  unfold Ub
  rw [Ju]
  cases es.hp.get id with
  | none=>rfl
  | some o=>
   cases o with
   | row T cs=>show Qb k (Jv off cs)=Jc k (cs.drop off);rw [Y8,fP]
   | _=>rfl
 | _=>rfl
theorem EF(off:Nat)(x:EO)(es:ES):Dl off x es=Ow es.hp off (Ac es x):=by
 unfold Dl Ow
 cases Ac es x with
 | ia cs=>show some (DV.ia (Jv off cs))=_;rw [fP]
 | pt id o=>
  show Fo (Pu (gN es.hp id)) (Zu (o+off) λn=>some (DV.pt id n)) none=_
  rw [Ry,nX,Ju,aW];rfl
 | _=>rfl
theorem yU(hp:Tr DObj)(cs:List DV)(n:Nat):Qp hp (.sl cs n)=some (.v (.int .i64 n)):=nr rfl
theorem kx{hp:Tr DObj}{es n i:Nat}{k:IntKind}{cs:List DV}(h:i<n):Ms hp es (.sl cs n) (.v (.int k (i:Int)))=some (.ia (cs.drop (i*es))):=by
 show (if 0<=(i:Int)/\(i:Int)<n then some (DV.ia (cs.drop ((i:Int).toNat*es))) else none)=_
 rw [Ah ⟨by omega,by omega⟩];rfl
theorem JU(hp:Tr DObj)(k:Option Nat)(cs:List DV):Hk hp k (.ia cs)=Jc k cs:=nr rfl
theorem Nt{hp:Tr DObj}{k:Option Nat}{id off:Nat}{T:TypeId}{cs:List DV}(h:hp.get id=some (.row T cs)):Hk hp k (.pt id off)=Jc k (cs.drop off):=by
 unfold Hk;simp only [h]
theorem W6(hp:Tr DObj)(off:Nat)(cs:List DV):Ow hp off (.ia cs)=some (.ia (cs.drop off)):=nr rfl
theorem Pp{hp:Tr DObj}{id o off:Nat}{x:DObj}(h:hp.get id=some x):Ow hp off (.pt id o)=some (.pt id (o+off)):=by
 unfold Ow fH;simp only [h];rfl
section
variable {c:Bool}
theorem KL{hp:Tr DObj}{a b:DV} : Qp hp (if c=true then a else b)=if c=true then Qp hp a else Qp hp b:=by cases c <;> rfl
theorem KN{hp:Tr DObj}{es:Nat}{a b y:DV} : Ms hp es (if c=true then a else b) y=if c=true then Ms hp es a y else Ms hp es b y:=by cases c <;> rfl
theorem KM{hp:Tr DObj}{es:Nat}{a b y:DV} : Ms hp es y (if c=true then a else b)=if c=true then Ms hp es y a else Ms hp es y b:=by cases c <;> rfl
theorem lj{hp:Tr DObj}{k:Option Nat}{a b:DV} : Hk hp k (if c=true then a else b)=if c=true then Hk hp k a else Hk hp k b:=by cases c <;> rfl
theorem lk{hp:Tr DObj}{k:Nat}{a b:DV} : Ow hp k (if c=true then a else b)=if c=true then Ow hp k a else Ow hp k b:=by cases c <;> rfl
end
end Go.DD

/- The evaluator, read with symbols: the operations one by one; own rows, maps, strings' iterators; calls of function values; calls in drawn regions. -/
namespace Go.DD
open Go
theorem Zz{dst:Option Pa}{x:XU}{X:XP}(h:∀ es nid,x es nid=Iw (X es)){call:Bf}{es:ES}{Q:ES->Prop} : SW (sU dst x) call es Q↔XW (X es) λd=>Q (es.putE dst d):=by
 rw [ZB h];exact fW
theorem oC{p:Pa}{b:Bool}{dst:Option Pa}{x:XU}{X:XP}(h:∀ es nid,x es nid=Iw (X es)){call:Bf}{es:ES}{Q:ES->Prop} : SW (sG p b dst (sU dst x)) call es Q↔XW (dH (Ac es (.t p)) b (X es)) λd=>Q (es.putE dst d):=oF λ_=>Zz h
theorem Dh(es:ES)(t:Nat):es.ds.ev (.tmp t)=Ch es.hp (Ac es (.t (Cn t))):=nr (Y3 es t)
theorem yP(es:ES)(v:Value):es.ds.ev (.const v)=aC v:=nr rfl
theorem yL(k:IntKind)(n:Int):aC (.int k n)=.v (.int k n):=nr rfl
theorem yM(b:Bool):aC (.bool b)=.v (.bool b):=nr rfl
theorem yI(b:ByteArray):aC (.string b)=.v (.string b):=nr rfl
theorem yK(n m:Nat):aC (.slice none n m)=.v (.slice none n m):=nr rfl
theorem yJ:aC (.pointer none)=.v (.pointer none):=nr rfl
theorem RV(hp:Tr DObj)(f:Nat):Ch hp (.fn (.func f) [.tup []])=.fn (.func f) [.tup []]:=nr (eL rfl)
def uL(mx:Bool)(x y:DV):Option DV:=match x,y with
 | .v (.int k a),.v (.int _ b)=>some (.v (.int k (if mx then (if b>a then b else a) else (if b<a then b else a))))
 | _,_=>none
def QP(neg:Bool)(x y:DV):Option DV:=match x,y with
 | .v (.bool a),.v (.bool b)=>some (.v (.bool (xor neg (a==b))))
 | _,_=>none
def Xm(k:IntKind)(x:DV):Option DV:=match x with
 | .v (.int _ n)=>some (.v (.int k (k.wrap n)))
 | _=>none
theorem O5(b:Bool)(x y:Operand)(es:ES)(nid:Nat):Bc (.mm b x y) es nid=Iw (uL b (es.ds.ev x) (es.ds.ev y)):=by
 rw [Hf];simp only [Bb]
 cases es.ds.ev x with
 | v a=>cases a <;> cases es.ds.ev y with
  | v c=>cases c <;> rfl
  | _=>rfl
 | _=>cases es.ds.ev y <;> rfl
theorem KG(b:Bool)(x y:Operand)(es:ES)(nid:Nat):Bc (.bb b x y) es nid=Iw (QP b (es.ds.ev x) (es.ds.ev y)):=by
 rw [Hf];simp only [Bb]
 cases es.ds.ev x with
 | v a=>cases a <;> cases es.ds.ev y with
  | v c=>cases c <;> rfl
  | _=>rfl
 | _=>cases es.ds.ev y <;> rfl
theorem KF(neg:Bool)(ks:List Nat)(x y:Operand)(es:ES)(nid:Nat):Bc (.eqs neg ks x y) es nid=Iw (vU neg ks (es.ds.ev x) (es.ds.ev y)):=by
 rw [Hf];simp only [Bb]
 cases es.ds.ev x with
 | agg xs=>cases es.ds.ev y with
  | agg ys=>show (Qu ks xs ys).map _=Iw ((Qu ks xs ys).map _);cases Qu ks xs ys <;> rfl
  | _=>rfl
 | _=>cases es.ds.ev y <;> rfl
theorem zY(k:IntKind)(x:Operand)(es:ES)(nid:Nat):Bc (.cvi k x) es nid=Iw (Xm k (es.ds.ev x)):=by
 rw [Hf];simp only [Bb]
 cases es.ds.ev x with
 | v a=>cases a <;> rfl
 | _=>rfl
theorem KE(f:Fn)(fst cap:List Operand)(es:ES)(nid:Nat):Bc (.mkf f fst cap) es nid=Iw (some (.fn f (.tup (fst.map es.ds.ev)::cap.map es.ds.ev))):=rfl
theorem xH{dst:Option Pa}{b:Bool}{x y:Operand}{call:Bf}{es:ES}{Q:ES->Prop} : SW (sU dst (Bc (.mm b x y))) call es Q↔XW (uL b (es.ds.ev x) (es.ds.ev y)) λd=>Q (es.putE dst d):=Zz (O5 b x y)
theorem Cv5{p:Pa}{g:Bool}{dst:Option Pa}{b:Bool}{x y:Operand}{call:Bf}{es:ES}{Q:ES->Prop} : SW (sG p g dst (sU dst (Bc (.mm b x y)))) call es Q↔XW (dH (Ac es (.t p)) g (uL b (es.ds.ev x) (es.ds.ev y))) λd=>Q (es.putE dst d):=oC (O5 b x y)
theorem xL{dst:Option Pa}{b:Bool}{x y:Operand}{call:Bf}{es:ES}{Q:ES->Prop} : SW (sU dst (Bc (.bb b x y))) call es Q↔XW (QP b (es.ds.ev x) (es.ds.ev y)) λd=>Q (es.putE dst d):=Zz (KG b x y)
theorem Cv6{p:Pa}{g:Bool}{dst:Option Pa}{b:Bool}{x y:Operand}{call:Bf}{es:ES}{Q:ES->Prop} : SW (sG p g dst (sU dst (Bc (.bb b x y)))) call es Q↔XW (dH (Ac es (.t p)) g (QP b (es.ds.ev x) (es.ds.ev y))) λd=>Q (es.putE dst d):=oC (KG b x y)
theorem Bu3{dst:Option Pa}{k:IntKind}{x:Operand}{call:Bf}{es:ES}{Q:ES->Prop} : SW (sU dst (Bc (.cvi k x))) call es Q↔XW (Xm k (es.ds.ev x)) λd=>Q (es.putE dst d):=Zz (zY k x)
theorem Cd4{dst:Option Pa}{f:Fn}{fst cap:List Operand}{call:Bf}{es:ES}{Q:ES->Prop} : SW (sU dst (Bc (.mkf f fst cap))) call es Q↔XW (some (.fn f (.tup (fst.map es.ds.ev)::cap.map es.ds.ev))) λd=>Q (es.putE dst d):=Zz (KE f fst cap)
theorem Cd5(k k':IntKind)(a b:Int):uL false (.v (.int k a)) (.v (.int k' b))=some (.v (.int k (min a b))):=by
 show some (DV.v (.int k (if b<a then b else a)))=_
 congr 3;omega
theorem Cv7(k k':IntKind)(a b:Int):uL true (.v (.int k a)) (.v (.int k' b))=some (.v (.int k (max a b))):=by
 show some (DV.v (.int k (if b>a then b else a)))=_
 congr 3;omega
theorem G0(k k':IntKind)(n:Int):Xm k (.v (.int k' n))=some (.v (.int k (k.wrap n))):=nr rfl
theorem Zk(neg:Bool)(ks:List Nat)(xs ys:List DV):vU neg ks (.agg xs) (.agg ys)=(Qu ks xs ys).map λb=>.v (.bool (xor neg b)):=nr rfl
theorem G8(op:BinOp)(a b:ByteArray):Cl op (.v (.string a)) (.v (.string b))=(eC op a b).map .v:=nr rfl
def X1(nid:Nat)(T:TypeId)(d:DV):Option (DV×Upd):=if d.okC=true then some (.pt nid 0,.lay (.row T d.cells)) else none
theorem sw_bx{dst:Option Pa}{T:TypeId}{x:EO}{call:Bf}{es:ES}{Q:ES->Prop} : SW (sU dst (Mj T x)) call es Q↔UW (X1 es.nx T (Mz es x)) λd u=>Q ((es.up u).putE dst d):=by
 rw [sw_u]
 have e:Mj T x es es.nx=X1 es.nx T (Mz es x):=by
  unfold Mj X1
  rw [Ry,SZ,CI]
 rw [e]
theorem sw_al{dst:Option Pa}{T:TypeId}{z:List DV}{call:Bf}{es:ES}{Q:ES->Prop} : SW (sU dst (Me T z)) call es Q↔Q ((es.up (.lay (.row T z))).putE dst (.pt es.nx 0)):=by
 rw [sw_u];exact I9
def TN(hp:Tr DObj)(n:Nat)(a x:DV):Option (DV×Upd):=match a with
 | .pt id off=>match hp.get id with
  | some (.row T cs)=>if x.okC=true/\x.cells.length=n/\off+n<=cs.length then some (.any,.wr id (.row T (cs.take off++x.cells++cs.drop (off+n)))) else none
  | _=>none
 | _=>none
theorem jJ{dst:Option Pa}{n:Nat}{a x:EO}{call:Bf}{es:ES}{Q:ES->Prop} : SW (sU dst (Ej n a x)) call es Q↔UW (TN es.hp n (Ac es a) (Mz es x)) λd u=>Q ((es.up u).putE dst d):=by
 rw [sw_u]
 have e:Ej n a x es es.nx=TN es.hp n (Ac es a) (Mz es x):=by
  unfold Ej TN
  cases Ac es a with
  | pt id off=>
   show Ub es.hp id _ _=_
   unfold Ub
   rw [Ju]
   simp only []
   cases es.hp.get id with
   | none=>rfl
   | some o=>
    cases o with
    | row T cs=>
     show Fo (UF (Mz es x)) (Fo (Nat.beq (DG (Mz es x)).length n) (Fo (Nat.ble (off+n) cs.length) (I5 (Li (Wm off cs) (Li (DG (Mz es x)) (Jv (off+n) cs))) λl=>some (DV.any,Upd.wr id (.row T l))) none) none) none=if (Mz es x).okC=true/\(Mz es x).cells.length=n/\off+n<=cs.length then some (.any,.wr id (.row T (cs.take off++(Mz es x).cells++cs.drop (off+n)))) else none
     rw [Ry,Ry,Ry,SZ,CI,YK,fN,fN,YC,fP]
     by_cases h1:(Mz es x).okC=true
     .by_cases h2:(Mz es x).cells.length=n
      .by_cases h3:off+n<=cs.length
       .simp [h1,h2,h3]
       .simp [h1,h2,h3]
      .have:¬ (Nat.beq (Mz es x).cells.length n=true):=λe=>h2 (Ey e)
       simp [h1,h2,this]
     .simp [h1]
    | _=>rfl
  | _=>rfl
 rw [e]
def FH(id off n:Nat)(x:DV)(o:Option DObj):Option (DV×Upd):=match o with
 | some (.row T cs)=>if x.okC=true/\x.cells.length=n/\off+n<=cs.length then some (.any,.wr id (.row T (cs.take off++x.cells++cs.drop (off+n)))) else none
 | _=>none
theorem jK(hp:Tr DObj)(n id off:Nat)(x:DV):TN hp n (.pt id off) x=FH id off n x (hp.get id):=by
 show (match hp.get id with
  | some (.row T cs)=>if x.okC=true/\x.cells.length=n/\off+n<=cs.length then some (DV.any,Upd.wr id (.row T (cs.take off++x.cells++cs.drop (off+n)))) else none
  | _=>none)=FH id off n x (hp.get id)
 unfold FH
 generalize hp.get id=o
 cases o with
 | none=>rfl
 | some o=>cases o <;> rfl
theorem tU(id off n:Nat)(x:DV)(T:TypeId)(cs:List DV)(h1:x.okC=true)(h2:x.cells.length=n)(h3:off+n<=cs.length):FH id off n x (some (.row T cs))=some (.any,.wr id (.row T (cs.take off++x.cells++cs.drop (off+n)))):=by
 show (if x.okC=true/\x.cells.length=n/\off+n<=cs.length then _ else _)=_
 rw [Ah ⟨h1,h2,h3⟩]
theorem L3(id n:Nat)(ds:List DV)(T:TypeId)(cs:List DV)(h2:ds.length=n)(h3:cs.length=n):FH id 0 n (.agg ds) (some (.row T cs))=some (.any,.wr id (.row T ds)):=by
 rw [tU id 0 n (.agg ds) T cs rfl h2 (by omega)]
 have e:cs.take 0++(DV.agg ds).cells++cs.drop (0+n)=ds:=by
  rw [Er,Av (by omega)]
  simp [DV.cells]
 rw [e]
end Go.DD

/- The evaluator, read with symbols: calls that are walked in place; rounds of a loop over a function; regions that draw their order. -/
namespace Go.DD
open Go
def Hb(tb:Nat->Option FE)(n:Nat)(rel:Nat->List DV->Option DV):Nat->Bf
 | 0=>rS rel
 | k+1=>λtg ds hp nx=>match tg with
  | .fn f=>match rel f ds with
   | some d=>some (d,hp,nx)
   | none=>Ue tb n (Hb tb n rel k) (.fn f) ds hp nx
  | .yl id=>Ue tb n (Hb tb n rel k) (.yl id) ds hp nx
theorem Bj9{P:Program}(hm:P.follows .mixedOrders=true){tb:Nat->Option FE}{n' n:Nat}(aY:Yn P n' tb){rel:Nat->List DV->Option DV}(h:∀ f ds d,rel f ds=some d->Known P f ds d):∀ k,Vy P (Hb tb n rel k)
 | 0=>Bj7 h
 | k+1=>λtg ds hp nx d Ap Ba hc hf=>by
  have ih:=XY hm (n:=n) aY (Bj9 (n:=n) hm aY h k)
  cases tg with
  | yl id=>exact ih (.yl id) ds hp nx d Ap Ba hc hf
  | fn f=>
   have Jd:(match rel f ds with
    | some d=>some (d,hp,nx)
    | none=>Ue tb n (Hb tb n rel k) (.fn f) ds hp nx)=some (d,Ap,Ba):=hc
   cases hr:rel f ds with
   | none=>rw [hr] at Jd;exact ih (.fn f) ds hp nx d Ap Ba Jd hf
   | some d0=>
    rw [hr] at Jd
    have Wb:rS rel (.fn f) ds hp nx=some (d,Ap,Ba):=by
     show (match rel f ds with
      | some d=>some (d,hp,nx)
      | none=>none)=_
     rw [hr];exact Jd
    exact Bj7 h _ _ _ _ _ _ _ Wb hf
section
variable {tb:Nat->Option FE} {n:Nat} {rel:Nat->List DV->Option DV} {k f nt:Nat} {c:CE} {ds:List DV} {hp:Tr DObj} {nx:Nat} {K:DV->Tr DObj->Nat->Prop}
theorem RS{d:DV}(h:rel f ds=some d)(hK:K d hp nx):KW (Hb tb n rel (k+1)) (.fn f) ds hp nx K:=
 ⟨d,hp,nx,show (match rel f ds with
  | some d=>some (d,hp,nx)
  | none=>Ue tb n (Hb tb n rel k) (.fn f) ds hp nx)=_ by rw [h],hK⟩
theorem Yw{res:List (Nat×Option (Option Nat))}(hr:rel f ds=none)(hf:tb f=some ⟨c,res,nt⟩)(hn:ds.length<=nt)
  (h:∀ es,es.hp=hp->es.nx=nx->vX es ds->EW c (Hb tb n rel k) es λe es=>(e=.normal\/e=.ret)/\∃ d,Mb res es=some (d,es.hp,es.nx)/\K d es.hp es.nx):KW (Hb tb n rel (k+1)) (.fn f) ds hp nx K:=by
 obtain ⟨e,es,h1,h2,d,h3,h4⟩:=h ⟨Vw ds,hp,nx⟩ rfl rfl (Bt5 ds hp nx)
 refine ⟨d,es.hp,es.nx,?_,h4⟩
 show (match rel f ds with
  | some d=>some (d,hp,nx)
  | none=>match tb f with
   | some fe=>if ds.length<=fe.nt then match fe.run (Hb tb n rel k) ⟨Vw ds,hp,nx⟩ with
     | some (.normal,es)=>Mb fe.res es
     | some (.ret,es)=>Mb fe.res es
     | _=>none
    else none
   | none=>none)=_
 rw [hr,hf]
 simp only
 rw [Ah hn,h1]
 rcases h2 with rfl | rfl
 .exact h3
 .exact h3
theorem fe0(es:ES):Mb [] es=some (.tup [],es.hp,es.nx):=by
 unfold Mb
 simp only [Ly,Fc,Uf]
theorem fe1(es:ES)(t:Nat):Mb [(t,none)] es=some (Ch es.hp (Ac es (.t (Cn t))),es.hp,es.nx):=by
 have e:Np es (t,none)=some (Ch es.hp (Ac es (.t (Cn t)))):=rfl
 unfold Mb
 simp only [Ez,Ly,e,Fc,Ee,Je,Uf]
theorem fe2(es:ES)(t u:Nat):Mb [(t,none),(u,none)] es=some (.tup [Ch es.hp (Ac es (.t (Cn t))),Ch es.hp (Ac es (.t (Cn u)))],es.hp,es.nx):=by
 have e:∀ t,Np es (t,none)=some (Ch es.hp (Ac es (.t (Cn t)))):=λ_=>rfl
 unfold Mb
 simp only [Ez,Ly,e,Fc,Ee,Je,Uf]
theorem Oq(hr:rel f ds=none)(hf:tb f=some ⟨c,[],nt⟩)(hn:ds.length<=nt)
  (h:∀ es,es.hp=hp->es.nx=nx->vX es ds->EW c (Hb tb n rel k) es λe es=>(e=.normal\/e=.ret)/\K (.tup []) es.hp es.nx):KW (Hb tb n rel (k+1)) (.fn f) ds hp nx K:=
 Yw hr hf hn λes h1 h2 h3=>(h es h1 h2 h3).mono λ_ es ⟨h4,h5⟩=>⟨h4,_,fe0 es,h5⟩
theorem Ds{t:Nat}(hr:rel f ds=none)(hf:tb f=some ⟨c,[(t,none)],nt⟩)(hn:ds.length<=nt)
  (h:∀ es,es.hp=hp->es.nx=nx->vX es ds->EW c (Hb tb n rel k) es λe es=>(e=.normal\/e=.ret)/\K (Ch es.hp (Ac es (.t (Cn t)))) es.hp es.nx):KW (Hb tb n rel (k+1)) (.fn f) ds hp nx K:=
 Yw hr hf hn λes h1 h2 h3=>(h es h1 h2 h3).mono λ_ es ⟨h4,h5⟩=>⟨h4,_,fe1 es t,h5⟩
theorem bT{t u:Nat}(hr:rel f ds=none)(hf:tb f=some ⟨c,[(t,none),(u,none)],nt⟩)(hn:ds.length<=nt)
  (h:∀ es,es.hp=hp->es.nx=nx->vX es ds->EW c (Hb tb n rel k) es λe es=>(e=.normal\/e=.ret)/\K (.tup [Ch es.hp (Ac es (.t (Cn t))),Ch es.hp (Ac es (.t (Cn u)))]) es.hp es.nx):KW (Hb tb n rel (k+1)) (.fn f) ds hp nx K:=
 Yw hr hf hn λes h1 h2 h3=>(h es h1 h2 h3).mono λ_ es ⟨h4,h5⟩=>⟨h4,_,fe2 es t u,h5⟩
theorem pE{id:Nat}{lp:DLoop}{sl:Tr DV}{es0:ES}(hl:hp.get id=some (.loop lp))(hs:lp.st=.ready)(nE:lp.sl=.t sl)(AU:ds.length=lp.ps.length)(Ht:lp.ps.all (λt=>Nat.blt t lp.nt)=true)(h0:es0=⟨Lo lp.ps ds sl,hp,nx⟩)
  (h:EW (En n lp.nt true lp.asg) (Hb tb n rel k) es0 λe es1=>e=.normal/\∃ So,es1.hp.get id=some (.loop So)/\So.st=.ready/\
   EW (En n lp.nt true lp.body) (Hb tb n rel k) ⟨es1.sl,es1.hp.set id (some (.loop { So with st:=.busy })),es1.nx⟩ λe By=>∃ Og,By.hp.get id=some (.loop Og)/\
    match e with
    | .normal=>K (.v (.bool true)) (By.hp.set id (some (.loop { Og with st:=.ready,pend:=none }))) By.nx
    | .ret=>K (.v (.bool false)) (By.hp.set id (some (.loop { Og with st:=.done,pend:=some .ret }))) By.nx
    | .exit i=>K (.v (.bool false)) (By.hp.set id (some (.loop { Og with st:=.done,pend:=some (.exit i) }))) By.nx
    | _=>False):KW (Hb tb n rel (k+1)) (.yl id) ds hp nx K:=by
 subst h0
 obtain ⟨e,es1,h1,rfl,So,h2,h3,e2,By,h4,Og,h5,h6⟩:=h
 have key:∀ r,(match En n lp.nt true lp.asg (Hb tb n rel k) ⟨Lo lp.ps ds sl,hp,nx⟩ with
      | some (.normal,es1)=>match es1.hp.get id with
       | some (.loop So)=>match So.st with
        | .ready=>match En n lp.nt true lp.body (Hb tb n rel k) { es1 with hp:=es1.hp.set id (some (.loop { So with st:=.busy })) } with
         | some (e,By)=>match By.hp.get id with
          | some (.loop Og)=>match e with
           | .normal=>some (.v (.bool true),By.hp.set id (some (.loop { Og with st:=.ready,pend:=none })),By.nx)
           | .ret=>some (.v (.bool false),By.hp.set id (some (.loop { Og with st:=.done,pend:=some .ret })),By.nx)
           | .exit i=>some (.v (.bool false),By.hp.set id (some (.loop { Og with st:=.done,pend:=some (.exit i) })),By.nx)
           | _=>none
          | _=>none
         | none=>none
        | _=>none
       | _=>none
      | _=>none)=r->Hb tb n rel (k+1) (.yl id) ds hp nx=r:=by
  intro r hr
  show (match hp.get id with
   | some (.loop lp)=>match lp.st,lp.sl with
    | .ready,.t sl=>if ds.length=lp.ps.length/\lp.ps.all (λt=>Nat.blt t lp.nt)=true then
      match En n lp.nt true lp.asg (Hb tb n rel k) ⟨Lo lp.ps ds sl,hp,nx⟩ with
      | some (.normal,es1)=>match es1.hp.get id with
       | some (.loop So)=>match So.st with
        | .ready=>match En n lp.nt true lp.body (Hb tb n rel k) { es1 with hp:=es1.hp.set id (some (.loop { So with st:=.busy })) } with
         | some (e,By)=>match By.hp.get id with
          | some (.loop Og)=>match e with
           | .normal=>some (.v (.bool true),By.hp.set id (some (.loop { Og with st:=.ready,pend:=none })),By.nx)
           | .ret=>some (.v (.bool false),By.hp.set id (some (.loop { Og with st:=.done,pend:=some .ret })),By.nx)
           | .exit i=>some (.v (.bool false),By.hp.set id (some (.loop { Og with st:=.done,pend:=some (.exit i) })),By.nx)
           | _=>none
          | _=>none
         | none=>none
        | _=>none
       | _=>none
      | _=>none
     else none
    | _,_=>none
   | _=>none)=r
  rw [hl]
  simp only [hs,nE]
  rw [Ah ⟨AU,Ht⟩]
  exact hr
 cases e2 with
 | normal=>exact ⟨_,_,_,key _ (by rw [h1];simp only [h2,h3];rw [h4];simp only [h5]),h6⟩
 | ret=>exact ⟨_,_,_,key _ (by rw [h1];simp only [h2,h3];rw [h4];simp only [h5]),h6⟩
 | exit i=>exact ⟨_,_,_,key _ (by rw [h1];simp only [h2,h3];rw [h4];simp only [h5]),h6⟩
 | _=>exact h6.elim
end
theorem zp{nt:Nat}{g:EO}{ps:List Nat}{a b:DC}{call:Bf}{es:ES}{Q:Exit->ES->Prop}{f:Nat}{cs:List DV}(hg:Mz es g=.fn (.func f) (.tup []::cs))
  (h:KW call (.fn f) (.yl es.nx::cs) (es.hp.set es.nx (some (.loop ⟨nt,.t es.sl,ps,a,b,.ready,none⟩))) (es.nx+1) λ_ hp nx=>∃ lp,hp.get es.nx=some (.loop lp)/\lp.st≠.busy/\
   ((lp.pend=none/\Q .normal ⟨es.sl,hp.set es.nx none,nx⟩)\/(lp.pend=some .ret/\Q .ret ⟨es.sl,hp.set es.nx none,nx⟩)\/∃ i,lp.pend=some (.exit i)/\Q (.exit i) ⟨es.sl,hp.set es.nx none,nx⟩)):EW (cR nt false g ps a b) call es Q:=by
 obtain ⟨d,Ap,Ba,h1,lp,h2,h3,h4⟩:=h
 have key:∀ r,(match lp.pend with
     | none=>some (Exit.normal,(⟨es.sl,Ap.set es.nx none,Ba⟩:ES))
     | some .ret=>some (.ret,⟨es.sl,Ap.set es.nx none,Ba⟩)
     | some (.exit i)=>some (.exit i,⟨es.sl,Ap.set es.nx none,Ba⟩)
     | _=>none)=r->cR nt false g ps a b call es=r:=by
  intro r hr
  unfold cR
  rw [Ae (by simp),hg]
  simp only [DV.asFn]
  rw [h1]
  simp only [h2]
  cases Ro:lp.st with
  | busy=>exact absurd Ro h3
  | _=>exact hr
 rcases h4 with ⟨h4,h5⟩ | ⟨h4,h5⟩ | ⟨i,h4,h5⟩
 .exact ⟨_,_,key _ (by rw [h4]),h5⟩
 .exact ⟨_,_,key _ (by rw [h4]),h5⟩
 .exact ⟨_,_,key _ (by rw [h4]),h5⟩
end Go.DD

/- The evaluator, read with symbols: regions that draw their order, with guards, calls and new objects; rows of bytes. -/
namespace Go.DD
open Go
section
variable {call:Bf} {n0 m i:Nat} {es:ES} {lo an:List Nat} {ws:List Look} {pp:List Past} {Q:DSt->Prop} {ps:List Pa} {dst:Option Pa}
theorem EP{p:Pa}{b:Bool}{s:Ka} : TW (dG p b dst s) call n0 m ⟨es,lo,ws,pp⟩ Q↔GW (Ac es (.t p)) b (TW s call n0 m ⟨es,lo,ws,pp⟩ Q) (Q ⟨es.putE dst (.v undef),lo,ws,pp⟩):=by
 have key:∀ c,Kk es p b=some c->dG p b dst s call n0 m ⟨es,lo,ws,pp⟩=Bool.rec (motive:=λ_=>Option DSt) (some ⟨es.putE dst (.v undef),lo,ws,pp⟩) (s call n0 m ⟨es,lo,ws,pp⟩) c:=by
  intro c hc
  unfold dG
  show Option.rec (motive:=λ_=>Option DSt) none _ (Kk es p b)=_
  rw [hc];rfl
 constructor
 .rintro ⟨δ',h1,h2⟩
  have h0:∃ c,Kk es p b=some c:=by
   unfold dG at h1
   obtain ⟨c,h3,_⟩:=Jp h1
   exact ⟨c,h3⟩
  obtain ⟨c,hc⟩:=h0
  rw [key c hc] at h1
  rcases Bu0 hc with ⟨t,h3,rfl⟩ | ⟨vs,h3,rfl⟩
  .refine .inl ⟨t,h3,λe=>?_,λe=>?_⟩
   .subst e
    simp only [Ol] at h1
    exact ⟨δ',h1,h2⟩
   .have:(t==b)=false:=by simpa using e
    rw [this] at h1
    cases h1
    exact h2
  .cases h1
   exact .inr ⟨vs,h3,h2⟩
 .rintro (⟨c,h1,h2,h3⟩ | ⟨vs,h1,h2⟩)
  .have hw:Kk es p b=some (c==b):=by unfold Kk;rw [h1];rfl
   by_cases hc:c=b
   .obtain ⟨δ',h4,h5⟩:=h2 hc
    refine ⟨δ',?_,h5⟩
    rw [key _ hw]
    subst hc
    simp only [Ol]
    exact h4
   .have:(c==b)=false:=by simpa using hc
    exact ⟨_,by rw [key _ hw,this],h3 hc⟩
  .have hw:Kk es p b=some false:=by unfold Kk;rw [h1];rfl
   exact ⟨_,by rw [key _ hw],h2⟩
theorem Cm5{s:Od}(hid:(lo.filter λj=>!an.contains j)=[]):TW (Bt i an s) call n0 m ⟨es,lo,ws,pp⟩ Q↔SW s call es λes'=>es.nx<=es'.nx/\Q ⟨es',[],ws,⟨i,an,es.hp,es'.hp⟩::pp⟩:=by
 have key:Bt i an s call n0 m ⟨es,lo,ws,pp⟩=Option.rec (motive:=λ_=>Option DSt) none (λes'=>Fo (Nat.ble es.nx es'.nx) (some ⟨es',[],ws,⟨i,an,es.hp,es'.hp⟩::pp⟩) none) (s call es):=by
  unfold Bt
  show I5 (lo.filter λj=>!an.contains j) _=_
  rw [YK,hid]
  rfl
 constructor
 .rintro ⟨δ',h1,h2⟩
  rw [key] at h1
  obtain ⟨es',h3,h4⟩:=Jp h1
  obtain ⟨h5,h6⟩:=eO h4
  cases h6
  exact ⟨es',h3,Ab h5,h2⟩
 .rintro ⟨es',h1,h2,h3⟩
  refine ⟨_,?_,h3⟩
  rw [key,h1]
  show Fo (Nat.ble es.nx es'.nx) _ _=_
  rw [Ry,Ah (Nat.ble_eq_true_of_le h2)]
def LW(x:Option (DV×Upd))(K:DV->DObj->Prop):Prop:=∃ d o,x=some (d,.lay o)/\K d o
@[congr] theorem JP{x x':Option (DV×Upd)}{K:DV->DObj->Prop}(h:x=x'):LW x K=LW x' K:=by rw [h]
def ES.layAt(es:ES)(id:Nat)(o:DObj):ES:=⟨es.sl,Kq es.hp id (some o),es.nx⟩
theorem Bd9(es:ES)(id:Nat)(o:DObj)(p:Pa):Ac (es.layAt id o) (.t p)=Ac es (.t p):=nr rfl
theorem zo(es:ES)(id:Nat)(o:DObj):(es.layAt id o).hp=Kq es.hp id (some o):=nr rfl
theorem zn(es:ES)(id:Nat)(o:DObj):(es.layAt id o).nx=es.nx:=nr rfl
theorem Cd6{wide c:Bool}{x:XU} : TW (Ox i an wide c dst x ps) call n0 m ⟨es,lo,ws,pp⟩ Q↔LW (x es (n0+i)) λd o=>Q ⟨(es.layAt (n0+i) o).putE dst d,i::lo,Gj i an wide c (refsL es ps) n0 lo ws,pp⟩:=by
 have key:Ox i an wide c dst x ps call n0 m ⟨es,lo,ws,pp⟩=Option.rec (motive:=λ_=>Option DSt) none (λp=>Upd.casesOn (motive:=λ_=>Option DSt) p.2 none
  (λo=>some ⟨(ES.mk es.sl (Kq es.hp (n0+i) (some o)) es.nx).putE dst p.1,i::lo,Gj i an wide c (refsL es ps) n0 lo ws,pp⟩) (λ_ _=>none) (λ_ _=>none)) (x es (n0+i)):=by
  obtain ⟨sl,hp,nx⟩:=es
  unfold Ox DSt.cs ES.cs
  dsimp only
  rw [aW]
 constructor
 .rintro ⟨δ',h1,h2⟩
  rw [key] at h1
  obtain ⟨⟨d,u⟩,h3,h4⟩:=Jp h1
  cases u with
  | lay o=>cases h4;exact ⟨d,o,h3,h2⟩
  | _=>cases h4
 .rintro ⟨d,o,h1,h2⟩
  exact ⟨_,by rw [key,h1];rfl,h2⟩
theorem E0{A B:Prop} : GW (.v (.bool true)) true A B↔A:=by rw [vR];simp
theorem E3{A B:Prop} : GW (.v (.bool false)) false A B↔A:=by rw [vR];simp
theorem E1{A B:Prop} : GW (.v (.bool true)) false A B↔B:=by rw [vR];simp
theorem E2{A B:Prop} : GW (.v (.bool false)) true A B↔B:=by rw [vR];simp
theorem xy{A B:Prop} : CW (.v (.bool true)) A B↔A:=by rw [X0];simp
theorem xz{A B:Prop} : CW (.v (.bool false)) A B↔B:=by rw [X0];simp
def Ib(d:DV)(f:Nat->Bool):Prop:=∀ id∈d.refs,f id=true
theorem Bu7(f:Nat->Bool):(Te (refsL es []) f=true)↔True:=⟨λ_=>trivial,λ_=>rfl⟩
theorem Bk0{α:Type}(l:List α)(f:α->Bool):Te l f=true↔∀ x∈l,f x=true:=by rw [RY];simp
theorem As9(es:ES)(p:Pa)(ps:List Pa):refsL es (p::ps)=(Ac es (.t p)).refs++refsL es ps:=by
 show Li (Ug (Ac es (.t p))) (refsL es ps)=_
 rw [fN,Y9]
theorem Bk1(p:Pa)(f:Nat->Bool):(Te (refsL es (p::ps)) f=true)↔Ib (Ac es (.t p)) f/\Te (refsL es ps) f=true:=by
 rw [As9,Bk0,Bk0]
 simp only [Bo,Ib]
 exact ⟨λh=>⟨λx hx=>h x (.inl hx),λx hx=>h x (.inr hx)⟩,λh x hx=>hx.elim (h.1 x) (h.2 x)⟩
theorem RR{d:DV}{f:Nat->Bool}(h:d.refs=[]):Ib d f↔True:=⟨λ_=>trivial,λ_ id hid=>by rw [h] at hid;cases hid⟩
theorem FT(v:Value)(f:Nat->Bool):Ib (.v v) f↔True:=RR rfl
theorem xP(cs:List DV)(n:Nat)(f:Nat->Bool):Ib (.sl cs n) f↔True:=RR rfl
theorem xT(cs:List DV)(f:Nat->Bool):Ib (.ia cs) f↔True:=RR rfl
theorem xR(id off n e:Nat)(f:Nat->Bool):Ib (.ms id off n e) f↔f id=true:=by simp [Ib,DV.refs]
theorem xQ(id off:Nat)(f:Nat->Bool):Ib (.pt id off) f↔f id=true:=by simp [Ib,DV.refs]
theorem xS(id:Nat)(f:Nat->Bool):Ib (.mp id) f↔f id=true:=by simp [Ib,DV.refs]
theorem tJ(hp:Tr DObj)(id:Nat):(Cp n0 m an hp id=true)↔(hp.get id).isSome=true/\(id<n0\/n0+m<=id\/an.contains (id-n0)=true):=by
 unfold Cp
 rw [Ry,nX,Ju,Ry,Ry]
 by_cases h1:(hp.get id).isSome=true
 .by_cases h2:id<n0
  .simp [h1,h2,Km]
  .by_cases h3:n0+m<=id
   .simp [h1,h3,Ri]
   .simp [h1,h2,h3,Km,Ri]
 .simp [h1]
theorem Bk2(ws:List Look):Oj n0 m ws []=true:=by
 unfold Oj
 simp
theorem look_nil(wide c:Bool):Gj i an wide c [] n0 lo ws=ws:=by cases wide <;> rfl
theorem fS{x:XU}{X:XP}(h:∀ es nid,x es nid=Iw (X es))(nid:Nat):Dz x nid es=X es:=by
 unfold Dz
 rw [h]
 unfold Iw
 cases X es <;> rfl
end
theorem Cd7(k:IntKind)(x:Operand)(nid:Nat)(es:ES):Dz (Bc (.cvi k x)) nid es=Xm k (es.ds.ev x):=fS (X:=λes=>Xm k (es.ds.ev x)) (zY k x) nid
theorem wW(b:Bool)(x y:Operand)(nid:Nat)(es:ES):Dz (Bc (.mm b x y)) nid es=uL b (es.ds.ev x) (es.ds.ev y):=fS (X:=λes=>uL b (es.ds.ev x) (es.ds.ev y)) (O5 b x y) nid
def ub(n:Nat):DV:=.v (.int .u8 (n:Int))
def Bv:DV:=.v (.slice none 0 0)
theorem A62{cs:List DV}{i:Nat}{d:DV}(h:cs[i]?=some d):Jc none (cs.drop i)=some d:=by
 obtain ⟨hi,rfl⟩:=Ar.1 h
 rw [As hi];rfl
theorem Wg{a b:Nat}(h:a+b<9223372036854775808):Cl .add (.v (.int .i64 (a:Int))) (.v (.int .i64 (b:Int)))=some (.v (.int .i64 ((a+b:Nat):Int))):=by
 rw [H6,Dk (by omega)];rfl
theorem Hn{a:Nat}(h:a<9000000000000000000):Cl .add (.v (.int .i64 (a:Int))) (.v (.int .i64 1))=some (.v (.int .i64 ((a+1:Nat):Int))):=by
 rw [H6,Dk (by omega)];rfl
end Go.DD

/- The evaluator, read with symbols: where simp is to stop; rows that grow; stores. -/
namespace Go.DD
open Go
class Hold (α:Type) where
 val:α
def Mv(s:Od)(call:Bf)(es:ES)[q:Hold (ES->Prop)]:Prop:=SW s call es q.val
def EWs(c:CE)(call:Bf)(es:ES)[q:Hold (Exit->ES->Prop)]:Prop:=EW c call es q.val
def KWs(call:Bf)(tg:Tg)(ds:List DV)(hp:Tr DObj)(nx:Nat)[q:Hold (DV->Tr DObj->Nat->Prop)]:Prop:=KW call tg ds hp nx q.val
def X6(s:Ka)(call:Bf)(n0 m:Nat)(es:ES)(lo:List Nat)(ws:List Look)(pp:List Past)[q:Hold (DSt->Prop)]:Prop:=TW s call n0 m ⟨es,lo,ws,pp⟩ q.val
section
variable {call:Bf} {es:ES} {Q:ES->Prop} {dst:Option Pa} {R:Exit->ES->Prop}
theorem wV{T e b:Nat}{d x:Operand} : SW (sU dst (Bc (.app T e b d x))) call es Q↔@Mv (sU dst (Bc (.app T e b d x))) call es ⟨Q⟩:=Dp
theorem wS{T n e:Nat}{z:List Value}{ps:List (Nat×Nat×Operand)} : SW (sU dst (Bc (.bsl T n e z ps))) call es Q↔@Mv (sU dst (Bc (.bsl T n e z ps))) call es ⟨Q⟩:=Dp
theorem DK{n:Nat}{a x:EO} : SW (sU dst (Ej n a x)) call es Q↔@Mv (sU dst (Ej n a x)) call es ⟨Q⟩:=Dp
theorem wM{e:Nat}{x:Operand}{lo hi:Option Operand} : SW (sU dst (Bc (.sli e x lo hi))) call es Q↔@Mv (sU dst (Bc (.sli e x lo hi))) call es ⟨Q⟩:=Dp
theorem wU{x:Operand} : SW (sU dst (Bc (.b2s x))) call es Q↔@Mv (sU dst (Bc (.b2s x))) call es ⟨Q⟩:=Dp
theorem J8{tb:Option (List (TypeId×FuncId))}{x:EO}{args:List EO} : SW (eP tb x args dst) call es Q↔@Mv (eP tb x args dst) call es ⟨Q⟩:=Dp
theorem Cd8{f:Nat}{args:List EO} : SW (Au f args dst) call es Q↔@KWs call (.fn f) (args.map (Ac es)) es.hp es.nx ⟨λd hp nx=>Q ((ES.mk es.sl hp nx).putE dst d)⟩:=sw_call
theorem z_l{k:Nat}{c:CE} : EW (cL k c) call es R↔@EWs (cL k c) call es ⟨R⟩:=Dp
theorem z_r{nt:Nat}{rd:Bool}{g:EO}{ps:List Nat}{a b:DC} : EW (cR nt rd g ps a b) call es R↔@EWs (cR nt rd g ps a b) call es ⟨R⟩:=Dp
end
section
variable {call:Bf} {es:ES} {dst:Option Pa} {q:Hold (ES->Prop)}
theorem Pt{a x:EO}{id off T:Nat}{v:DV}{cs:List DV}(ea:Ac es a=.pt id off)(hg:es.hp.get id=some (.row T cs))(ev:Mz es x=v)(hv:v.okC=true/\v.cells=[v])(oe:off<cs.length)
  (h:∀ Ap,Ap.get id=some (.row T (cs.set off v))->(∀ j,j≠id->Ap.get j=es.hp.get j)->q.val ((ES.mk es.sl Ap es.nx).putE dst .any)) :
  Mv (sU dst (Ej 1 a x)) call es:=by
 show SW _ _ _ _
 rw [jJ,ea,jK,hg,ev,tU id off 1 v T cs hv.1 (by rw [hv.2];rfl) (by omega),I9]
 have e:cs.take off++v.cells++cs.drop (off+1)=cs.set off v:=by
  rw [hv.2,List.set_eq_take_append_cons_drop,Ah oe];simp
 rw [e]
 exact h (es.up (.wr id (.row T (cs.set off v)))).hp (by rw [Mk,get_set,Ah rfl]) λj hj=>by rw [Mk,get_set,Ae hj]
theorem Oi{n:Nat}{a x:EO}{id T:Nat}{ds cs:List DV}(ea:Ac es a=.pt id 0)(hg:es.hp.get id=some (.row T cs))(ev:Mz es x=.agg ds)(h2:ds.length=n)(h3:cs.length=n)
  (h:∀ Ap,Ap.get id=some (.row T ds)->(∀ j,j≠id->Ap.get j=es.hp.get j)->q.val ((ES.mk es.sl Ap es.nx).putE dst .any)) :
  Mv (sU dst (Ej n a x)) call es:=by
 show SW _ _ _ _
 rw [jJ,ea,jK,hg,ev,L3 id n ds T cs h2 h3,I9]
 exact h (es.up (.wr id (.row T ds))).hp (by rw [Mk,get_set,Ah rfl]) λj hj=>by rw [Mk,get_set,Ae hj]
theorem SM(es:ES)(x:Operand)(n:Int):Kt es.ds n (some x)=Mx (es.ds.ev x):=rfl
theorem YJ(es:ES)(n:Int):Kt es.ds n none=some n:=rfl
end
theorem Di(es:ES)(p:Pa):Mz es (.t p)=Ch es.hp (Ac es (.t p)):=nr rfl
theorem bL(id off n e:Nat):(DV.ms id off n e).okC=true/\(DV.ms id off n e).cells=[.ms id off n e]:=⟨rfl,rfl⟩
theorem Cv8{k:IntKind}{n:Nat}(h:n<256):Xm .u8 (.v (.int k (n:Int)))=some (ub n):=by
 show some (DV.v (.int .u8 (IntKind.u8.wrap (n:Int))))=_
 rw [IntWalk.u8_in _ (by omega)];rfl
theorem Be0{k:IntKind}{n:Nat}(h:n<9223372036854775808):Xm .i64 (.v (.int k (n:Int)))=some (.v (.int .i64 (n:Int))):=by
 show some (DV.v (.int .i64 (IntKind.i64.wrap (n:Int))))=_
 rw [Dk (by omega)]
theorem oN(es:ES)(d:DV):ES.putE es none d=es:=nr rfl
section
variable {call:Bf} {n0 m i:Nat} {es:ES} {lo an:List Nat} {ws:List Look} {pp:List Past} {Q:DSt->Prop} {q:Hold (DSt->Prop)} {ps:List Pa} {dst:Option Pa}
theorem Cd9{s:Od} : TW (Bt i an s) call n0 m ⟨es,lo,ws,pp⟩ Q↔@X6 (Bt i an s) call n0 m es lo ws pp ⟨Q⟩:=Dp
theorem wR{wide c:Bool}{x:XU} : TW (Ox i an wide c dst x ps) call n0 m ⟨es,lo,ws,pp⟩ Q↔@X6 (Ox i an wide c dst x ps) call n0 m es lo ws pp ⟨Q⟩:=Dp
theorem Ge{s:Od}(hid:(lo.filter λj=>!an.contains j)=[])(h : @Mv s call es ⟨λes'=>es.nx<=es'.nx/\q.val ⟨es',[],ws,⟨i,an,es.hp,es'.hp⟩::pp⟩⟩):X6 (Bt i an s) call n0 m es lo ws pp:=(Cm5 hid).2 h
theorem Il{hp:Tr DObj}{id:Nat}{o:DObj}(h:hp.get id=some o)(hl:id<n0):Cp n0 m an hp id=true:=(tJ hp id).2 ⟨by rw [h];rfl,.inl hl⟩
theorem lJ{hp:Tr DObj}{o:DObj}(h:hp.get (n0+i)=some o)(hc:an.contains i=true):Cp n0 m an hp (n0+i)=true:=(tJ hp _).2 ⟨by rw [h];rfl,.inr (.inr (by rw [Vb];exact hc))⟩
theorem Of{hp:Tr DObj}{id T:Nat}{d:DV}(h:hp.get id=some (.row T [d])):Hk hp none (.pt id 0)=some d:=by rw [Nt h];rfl
end
def Fg(hp:Tr DObj)(d:DV)(i:Nat):Option DV:=match d with
 | .tup ds=>match ds[i]? with
  | some (.v v)=>some (.v v)
  | some _=>match Ch hp (.tup ds) with
   | .tup ds=>ds[i]?
   | _=>none
  | none=>none
 | _=>none
theorem DY(p:Pa)(i:Nat)(es:ES):Ea (.t p) i es=Fg es.hp (Ac es (.t p)) i:=by
 have Tx:Mz es (.t p)=Ch es.hp (Ac es (.t p)):=rfl
 have hn:∀ ds:List DV,aD i ds=ds[i]?:=by
  intro ds
  unfold aD
  rw [fP,<- List.head?_drop]
  cases ds.drop i <;> rfl
 unfold Ea Fg
 rw [Tx]
 cases Ac es (.t p) with
 | tup ds=>
  show Option.rec (motive:=λ_=>Option DV) none (λd=>vD d (λv=>some (.v v)) (rT (Ch es.hp (.tup ds)) (λds=>aD i ds) none)) (aD i ds)=_
  rw [hn]
  simp only []
  cases ds[i]? with
  | none=>rfl
  | some d=>
   have e:∀ x:DV,rT x (λds=>aD i ds) (none:Option DV)=match x with
    | .tup ds=>ds[i]?
    | _=>none:=by
    intro x
    cases x <;> first | rfl | exact hn _
   cases d <;> first | rfl | exact e _
 | _=>rfl
theorem B62{hp:Tr DObj}{ds:List DV}(h:∀ id∈DV.refsL ds,(hp.get id).isSome=true):Ch hp (.tup ds)=.tup ds:=Wh λid hid=>h id (by rwa [DV.refs] at hid)
theorem tG{hp:Tr DObj}{ds:List DV}{i:Nat}(h:∀ id∈DV.refsL ds,(hp.get id).isSome=true):Fg hp (.tup ds) i=ds[i]?:=by
 unfold Fg
 simp only [B62 h]
 cases ds[i]? with
 | none=>rfl
 | some d=>cases d <;> rfl
theorem Mo{hp:Tr DObj}{d:DV}{v:Value} : Fg hp (.tup [d,.v v]) 1=some (.v v):=nr rfl
theorem E6{hp:Tr DObj}{d:DV}{w v:Value} : Fg hp (.tup [d,.v w,.v v]) 1=some (.v w):=nr rfl
theorem E5{hp:Tr DObj}{d e:DV}{v:Value} : Fg hp (.tup [d,e,.v v]) 2=some (.v v):=nr rfl
theorem p0:Cn 0=.o:=nr rfl
theorem p1:Cn 1=.l .o:=nr rfl
theorem p2:Cn 2=.r .o:=nr rfl
theorem p3:Cn 3=.l (.l .o):=nr rfl
theorem p4:Cn 4=.r (.l .o):=nr rfl
theorem p5:Cn 5=.l (.r .o):=nr rfl
theorem p6:Cn 6=.r (.r .o):=nr rfl
theorem p7:Cn 7=.l (.l (.l .o)):=nr rfl
theorem p8:Cn 8=.r (.l (.l .o)):=nr rfl
theorem p9:Cn 9=.l (.r (.l .o)):=nr rfl
theorem p10:Cn 10=.r (.r (.l .o)):=nr rfl
theorem p11:Cn 11=.l (.l (.r .o)):=nr rfl
theorem Z8:Cn 12=.r (.l (.r .o)):=nr rfl
theorem p13:Cn 13=.l (.r (.r .o)):=nr rfl
theorem UD:Cn 14=.r (.r (.r .o)):=nr rfl
theorem UC:Cn 15=.l (.l (.l (.l .o))):=nr rfl
theorem p16:Cn 16=.r (.l (.l (.l .o))):=nr rfl
theorem p17:Cn 17=.l (.r (.l (.l .o))):=nr rfl
theorem p18:Cn 18=.r (.r (.l (.l .o))):=nr rfl
theorem p19:Cn 19=.l (.l (.r (.l .o))):=nr rfl
theorem p20:Cn 20=.r (.l (.r (.l .o))):=nr rfl
theorem p21:Cn 21=.l (.r (.r (.l .o))):=nr rfl
theorem p22:Cn 22=.r (.r (.r (.l .o))):=nr rfl
theorem p23:Cn 23=.l (.l (.l (.r .o))):=nr rfl
theorem p24:Cn 24=.r (.l (.l (.r .o))):=nr rfl
theorem p25:Cn 25=.l (.r (.l (.r .o))):=nr rfl
theorem p26:Cn 26=.r (.r (.l (.r .o))):=nr rfl
theorem p27:Cn 27=.l (.l (.r (.r .o))):=nr rfl
theorem p28:Cn 28=.r (.l (.r (.r .o))):=nr rfl
theorem p29:Cn 29=.l (.r (.r (.r .o))):=nr rfl
theorem p30:Cn 30=.r (.r (.r (.r .o))):=nr rfl
theorem p31:Cn 31=.l (.l (.l (.l (.l .o)))):=nr rfl
theorem p32:Cn 32=.r (.l (.l (.l (.l .o)))):=nr rfl
theorem p33:Cn 33=.l (.r (.l (.l (.l .o)))):=nr rfl
theorem p34:Cn 34=.r (.r (.l (.l (.l .o)))):=nr rfl
theorem p35:Cn 35=.l (.l (.r (.l (.l .o)))):=nr rfl
theorem p36:Cn 36=.r (.l (.r (.l (.l .o)))):=nr rfl
theorem p37:Cn 37=.l (.r (.r (.l (.l .o)))):=nr rfl
theorem p38:Cn 38=.r (.r (.r (.l (.l .o)))):=nr rfl
theorem p39:Cn 39=.l (.l (.l (.r (.l .o)))):=nr rfl
theorem p40:Cn 40=.r (.l (.l (.r (.l .o)))):=nr rfl
theorem p41:Cn 41=.l (.r (.l (.r (.l .o)))):=nr rfl
theorem p42:Cn 42=.r (.r (.l (.r (.l .o)))):=nr rfl
theorem p43:Cn 43=.l (.l (.r (.r (.l .o)))):=nr rfl
theorem p44:Cn 44=.r (.l (.r (.r (.l .o)))):=nr rfl
theorem p45:Cn 45=.l (.r (.r (.r (.l .o)))):=nr rfl
theorem p46:Cn 46=.r (.r (.r (.r (.l .o)))):=nr rfl
theorem p47:Cn 47=.l (.l (.l (.l (.r .o)))):=nr rfl
theorem p48:Cn 48=.r (.l (.l (.l (.r .o)))):=nr rfl
theorem p49:Cn 49=.l (.r (.l (.l (.r .o)))):=nr rfl
theorem p50:Cn 50=.r (.r (.l (.l (.r .o)))):=nr rfl
theorem p51:Cn 51=.l (.l (.r (.l (.r .o)))):=nr rfl
theorem p52:Cn 52=.r (.l (.r (.l (.r .o)))):=nr rfl
theorem p53:Cn 53=.l (.r (.r (.l (.r .o)))):=nr rfl
theorem p54:Cn 54=.r (.r (.r (.l (.r .o)))):=nr rfl
theorem p55:Cn 55=.l (.l (.l (.r (.r .o)))):=nr rfl
theorem p56:Cn 56=.r (.l (.l (.r (.r .o)))):=nr rfl
theorem p57:Cn 57=.l (.r (.l (.r (.r .o)))):=nr rfl
theorem p58:Cn 58=.r (.r (.l (.r (.r .o)))):=nr rfl
theorem p59:Cn 59=.l (.l (.r (.r (.r .o)))):=nr rfl
theorem p60:Cn 60=.r (.l (.r (.r (.r .o)))):=nr rfl
theorem p61:Cn 61=.l (.r (.r (.r (.r .o)))):=nr rfl
theorem p62:Cn 62=.r (.r (.r (.r (.r .o)))):=nr rfl
theorem p63:Cn 63=.l (.l (.l (.l (.l (.l .o))))):=nr rfl
theorem p64:Cn 64=.r (.l (.l (.l (.l (.l .o))))):=nr rfl
theorem p65:Cn 65=.l (.r (.l (.l (.l (.l .o))))):=nr rfl
theorem p66:Cn 66=.r (.r (.l (.l (.l (.l .o))))):=nr rfl
theorem p67:Cn 67=.l (.l (.r (.l (.l (.l .o))))):=nr rfl
theorem p68:Cn 68=.r (.l (.r (.l (.l (.l .o))))):=nr rfl
theorem p69:Cn 69=.l (.r (.r (.l (.l (.l .o))))):=nr rfl
theorem p70:Cn 70=.r (.r (.r (.l (.l (.l .o))))):=nr rfl
theorem p71:Cn 71=.l (.l (.l (.r (.l (.l .o))))):=nr rfl
theorem p72:Cn 72=.r (.l (.l (.r (.l (.l .o))))):=nr rfl
theorem p73:Cn 73=.l (.r (.l (.r (.l (.l .o))))):=nr rfl
theorem p74:Cn 74=.r (.r (.l (.r (.l (.l .o))))):=nr rfl
theorem p75:Cn 75=.l (.l (.r (.r (.l (.l .o))))):=nr rfl
theorem p76:Cn 76=.r (.l (.r (.r (.l (.l .o))))):=nr rfl
theorem p77:Cn 77=.l (.r (.r (.r (.l (.l .o))))):=nr rfl
theorem p78:Cn 78=.r (.r (.r (.r (.l (.l .o))))):=nr rfl
theorem p79:Cn 79=.l (.l (.l (.l (.r (.l .o))))):=nr rfl
theorem p80:Cn 80=.r (.l (.l (.l (.r (.l .o))))):=nr rfl
theorem p81:Cn 81=.l (.r (.l (.l (.r (.l .o))))):=nr rfl
theorem p82:Cn 82=.r (.r (.l (.l (.r (.l .o))))):=nr rfl
theorem p83:Cn 83=.l (.l (.r (.l (.r (.l .o))))):=nr rfl
theorem p84:Cn 84=.r (.l (.r (.l (.r (.l .o))))):=nr rfl
theorem p85:Cn 85=.l (.r (.r (.l (.r (.l .o))))):=nr rfl
theorem p86:Cn 86=.r (.r (.r (.l (.r (.l .o))))):=nr rfl
theorem p87:Cn 87=.l (.l (.l (.r (.r (.l .o))))):=nr rfl
theorem p88:Cn 88=.r (.l (.l (.r (.r (.l .o))))):=nr rfl
theorem p89:Cn 89=.l (.r (.l (.r (.r (.l .o))))):=nr rfl
theorem p90:Cn 90=.r (.r (.l (.r (.r (.l .o))))):=nr rfl
theorem p91:Cn 91=.l (.l (.r (.r (.r (.l .o))))):=nr rfl
theorem p92:Cn 92=.r (.l (.r (.r (.r (.l .o))))):=nr rfl
theorem p93:Cn 93=.l (.r (.r (.r (.r (.l .o))))):=nr rfl
theorem p94:Cn 94=.r (.r (.r (.r (.r (.l .o))))):=nr rfl
theorem p95:Cn 95=.l (.l (.l (.l (.l (.r .o))))):=nr rfl
theorem p96:Cn 96=.r (.l (.l (.l (.l (.r .o))))):=nr rfl
theorem p97:Cn 97=.l (.r (.l (.l (.l (.r .o))))):=nr rfl
theorem p98:Cn 98=.r (.r (.l (.l (.l (.r .o))))):=nr rfl
theorem p99:Cn 99=.l (.l (.r (.l (.l (.r .o))))):=nr rfl
end Go.DD

/- The evaluator, read with symbols: calls of function values and of rounds; what a drawn region has looked at. -/
namespace Go.DD
open Go
section
variable {call:Bf} {es:ES} {dst:Option Pa} {q:Hold (ES->Prop)}
theorem Tf{f:Nat}{args:List EO}(h:KW call (.fn f) (args.map (Ac es)) es.hp es.nx λd hp nx=>q.val ((ES.mk es.sl hp nx).putE dst d)):Mv (Au f args dst) call es:=sw_call.2 h
theorem doc{tg:Tg}{ds:List DV}(h:KW call tg ds es.hp es.nx λd hp nx=>q.val ((ES.mk es.sl hp nx).putE dst d)):SW (jE tg ds dst) call es q.val:=by
 obtain ⟨d,Ap,Ba,h1,h2⟩:=h
 refine ⟨_,?_,h2⟩
 unfold jE
 rw [h1];rfl
theorem xG{p:Pa}{args:List EO}{L:Nat}{o:DObj}(h0:Ac es (.t p)=.yl L)(hL:es.hp.get L=some o)(h:KW call (.yl L) (args.map (Ac es)) es.hp es.nx λd hp nx=>q.val ((ES.mk es.sl hp nx).putE dst d)):Mv (eP none (.t p) args dst) call es:=by
 have he:Mz es (.t p)=.yl L:=by
  rw [Di,h0]
  exact Wh λi hi=>by
   have:i=L:=by simpa [DV.refs] using hi
   rw [this,hL];rfl
 obtain ⟨es',h1,h2⟩:=doc h
 refine ⟨es',?_,h2⟩
 unfold eP
 rw [he]
 have e:dK es args=args.map (Ac es):=by unfold dK;rw [wH]
 show jE (.yl L) (dK es args) dst call es=_
 rw [e];exact h1
theorem bI{p:Pa}{args:List EO}{f:Nat}{fs cs:List DV}(h0:Mz es (.t p)=.fn (.func f) (.tup fs::cs))(h:KW call (.fn f) (fs++(args.map (Ac es)++cs)) es.hp es.nx λd hp nx=>q.val ((ES.mk es.sl hp nx).putE dst d)):Mv (eP none (.t p) args dst) call es:=by
 obtain ⟨es',h1,h2⟩:=doc h
 refine ⟨es',?_,h2⟩
 unfold eP
 rw [h0]
 have e:dK es args=args.map (Ac es):=by unfold dK;rw [wH]
 show jE (.fn f) (Li fs (Li (dK es args) cs)) dst call es=_
 rw [e,fN,fN];exact h1
end
section
variable {call:Bf} {es:ES} {dst:Option Pa} {q:Hold (ES->Prop)} {Q:ES->Prop}
theorem DP{T:TypeId}{z:List DV} : SW (sU dst (Me T z)) call es Q↔@Mv (sU dst (Me T z)) call es ⟨Q⟩:=Dp
theorem DO{T:TypeId}{x:EO} : SW (sU dst (Mj T x)) call es Q↔@Mv (sU dst (Mj T x)) call es ⟨Q⟩:=Dp
theorem Oe{T:TypeId}{z:List DV}(h:∀ Ap,Ap.get es.nx=some (.row T z)->(∀ j,j≠es.nx->Ap.get j=es.hp.get j)->q.val ((ES.mk es.sl Ap (es.nx+1)).putE dst (.pt es.nx 0))):Mv (sU dst (Me T z)) call es:=
 sw_al.2 (h (es.up (.lay (.row T z))).hp (by rw [fK,get_set,Ah rfl]) λj hj=>by rw [fK,get_set,Ae hj])
theorem DB{T:TypeId}{x:EO}{v:DV}(hv:Mz es x=v)(hk:v.okC=true/\v.cells=[v])(h:∀ Ap,Ap.get es.nx=some (.row T [v])->(∀ j,j≠es.nx->Ap.get j=es.hp.get j)->q.val ((ES.mk es.sl Ap (es.nx+1)).putE dst (.pt es.nx 0))):Mv (sU dst (Mj T x)) call es:=by
 refine sw_bx.2 ⟨.pt es.nx 0,.lay (.row T [v]),?_,h (es.up (.lay (.row T [v]))).hp (by rw [fK,get_set,Ah rfl]) λj hj=>by rw [fK,get_set,Ae hj]⟩
 unfold X1
 rw [hv,Ah hk.1,hk.2]
theorem wP:SW (sU dst (Bc .mkm)) call es Q↔@Mv (sU dst (Bc .mkm)) call es ⟨Q⟩:=Dp
theorem Cm6(h:∀ Ap,Ap.get es.nx=some (.mapo 0 [])->(∀ j,j≠es.nx->Ap.get j=es.hp.get j)->q.val ((ES.mk es.sl Ap (es.nx+1)).putE dst (.mp es.nx))):Mv (sU dst (Bc .mkm)) call es:=
 sw_u.2 ⟨.mp es.nx,.lay (.mapo 0 []),rfl,h (es.up (.lay (.mapo 0 []))).hp (by rw [fK,get_set,Ah rfl]) λj hj=>by rw [fK,get_set,Ae hj]⟩
end
theorem At0{f:DV->DV->Bool} : ∀ {l:List DV},(∀ c∈l,f c c=true)->Ji f l l=true
 | [],_=>rfl
 | a::l,h=>by
  show (f a a&&Ji f l l)=true
  rw [h a (Hz ..),At0 λc hc=>h c (Bn _ hc)];rfl
theorem Z2{H H':Tr DObj}{id:Nat}{T:TypeId}{cs:List DV}(h:H.get id=some (.row T cs))(he:H'.get id=H.get id)(hc:∀ c∈cs,Nb 6 c c=true):sameAt H H' id=true:=by
 unfold sameAt
 rw [he,h]
 show (T==T&&Ji (Nb 6) cs cs)=true
 rw [At0 hc];simp
section
variable {n0 m i:Nat} {an refs lo:List Nat} {c:Bool} {ws:List Look} {ps:List Past}
theorem okl_cons{w:Look} : Oj n0 m (w::ws) ps=true↔(∀ p∈ps,(w.an.contains p.q||p.an.contains w.i||(if Nat.blt w.id n0||Nat.ble (n0+m) w.id then (if w.c then sameAt p.a p.b w.id else tD p.a p.b w.id) else w.own && !p.an.contains (w.id-n0)))=true)/\Oj n0 m ws ps=true:=by
 unfold Oj
 rw [List.all_cons,Bq,Ay]
theorem nT(h:∀ id∈refs,id<n0/\∀ p∈ps,p.an.contains i=true\/an.contains p.q=true\/(if c=true then sameAt p.a p.b id=true else tD p.a p.b id=true))(h2:Oj n0 m ws ps=true):Oj n0 m (Gj i an true c refs n0 lo ws) ps=true:=by
 have e:Gj i an true c refs n0 lo ws=(refs.map λid=>⟨i,an,id,lo.contains (id-n0),c⟩)++ws:=by
  show Li (fY _ refs) ws=_
  rw [fN,wH]
 rw [e]
 clear e
 induction refs with
 | nil=>exact h2
 | cons id refs ih=>
  rw [Ao,Ky,okl_cons]
  refine ⟨λp hp=>?_,ih λid hid=>h id (Bn _ hid)⟩
  obtain ⟨h3,h4⟩:=h id (Hz ..)
  simp only
  have hb:(Nat.blt id n0||Nat.ble (n0+m) id)=true:=by
   rw [Jw];exact .inl (by simpa [Km] using h3)
  rw [Ah hb]
  rcases h4 p hp with h | h | h
  .rw [h];simp
  .rw [h];simp
  .cases c with
   | true=>simp only [Ip] at h;simp [h]
   | false=>simp at h;simp [h]
end
end Go.DD

/- The evaluator, read with symbols: rows of integers; maps of numbers. -/
namespace Go.DD
open Go
section
variable {call:Bf} {es:ES} {dst:Option Pa} {q:Hold (ES->Prop)} {n0 m i:Nat} {lo an:List Nat} {ws:List Look} {pp:List Past} {r:Hold (DSt->Prop)} {ps:List Pa}
def Qo(hp:Tr DObj)(kd:KD)(z:Value)(x k:DV):Option DV:=match Ya k with
 | some kv=>if nN kd kv=true then (match x with
  | .v (.map none)=>some (Io false (.v z) false)
  | .mp id=>match hp.get id with
   | some (.mapo _ es)=>match findD kd kv es 0 with
    | some (some p)=>some (Io false p.2.v true)
    | some none=>some (Io false (.v z) false)
    | none=>none
   | _=>none
  | _=>none) else none
 | none=>none
theorem Ce0(kd:KD)(z:Value)(x k:Operand)(nid:Nat)(es:ES):Dz (Bc (.lkp kd z x k false)) nid es=Qo es.hp kd z (es.ds.ev x) (es.ds.ev k):=by
 refine fS (X:=λes=>Qo es.hp kd z (es.ds.ev x) (es.ds.ev k)) (λes nid=>?_) nid
 rw [Hf]
 simp only [Bb,Qo]
 cases Ya (es.ds.ev k) with
 | none=>rfl
 | some kv=>
  simp only []
  by_cases hk:nN kd kv=true
  .rw [Ah hk,Ah hk]
   cases es.ds.ev x with
   | v a=>
    cases a with
    | map a=>cases a <;> rfl
    | _=>rfl
   | mp id=>
    show (match es.hp.get id with
     | some (.mapo _ es)=>match findD kd kv es 0 with
      | some (some p)=>some (Io false p.2.v true,Upd.keep)
      | some none=>some (Io false (.v z) false,.keep)
      | none=>none
     | _=>none)=Iw (match es.hp.get id with
     | some (.mapo _ es)=>match findD kd kv es 0 with
      | some (some p)=>some (Io false p.2.v true)
      | some none=>some (Io false (.v z) false)
      | none=>none
     | _=>none)
    cases es.hp.get id with
    | none=>rfl
    | some o=>
     cases o with
     | mapo c l=>
      simp only []
      cases findD kd kv l 0 with
      | none=>rfl
      | some r=>cases r <;> rfl
     | _=>rfl
   | _=>rfl
  .rw [Ae hk,Ae hk];rfl
end
section
variable {call:Bf} {es:ES} {dst:Option Pa} {q:Hold (ES->Prop)}
theorem Zt{p:Pa}{args:List EO}{f:Nat}{fs cs:List DV}(h0:Mz es (.t p)=.fn (.func f) (.tup fs::cs))(h:KW call (.fn f) (fs++(args.map (Ac es)++cs)) es.hp es.nx λd hp nx=>q.val ((ES.mk es.sl hp nx).putE dst d)):Mv (Vi none (.t p) args dst) call es:=by
 obtain ⟨es',h1,h2⟩:=doc h
 refine ⟨es',?_,h2⟩
 unfold Vi
 rw [h0]
 have e:dK es args=args.map (Ac es):=by unfold dK;rw [wH]
 show jE (.fn f) (Li fs (Li (dK es args) cs)) dst call es=_
 rw [e,fN,fN];exact h1
end
theorem Ys(f:Nat)(id off:Nat)(g:Nat->Bool):Ib (.fn (.func f) [.tup [],.pt id off]) g↔g id=true:=by simp [Ib,DV.refs,DV.refsL]
theorem XX{hp:Tr DObj}{f id off:Nat}{o:DObj}(h:hp.get id=some o):Ch hp (.fn (.func f) [.tup [],.pt id off])=.fn (.func f) [.tup [],.pt id off]:=Wh λi hi=>by
 have:i=id:=by simpa [DV.refs,DV.refsL] using hi
 rw [this,h];rfl
end Go.DD

/- The evaluator, read with symbols: bytes as strings; empty slices; numbers that are turned and divided. -/
namespace Go.DD
open Go
section
variable {call:Bf} {es:ES} {dst:Option Pa} {q:Hold (ES->Prop)}
end
end Go.DD

/- The evaluator, read with symbols: records and rows of them; the test for nil. -/
namespace Go.DD
open Go
section
variable {call:Bf} {es:ES} {dst:Option Pa} {q:Hold (ES->Prop)} {Q:ES->Prop}
theorem wT{z:List Value}{ps:List (Nat×Nat×Operand)} : SW (sU dst (Bc (.bld z ps))) call es Q↔@Mv (sU dst (Bc (.bld z ps))) call es ⟨Q⟩:=Dp
theorem wN{k:Nat}{neg:Bool}{x y:Operand} : SW (sU dst (Bc (.nilq k neg x y))) call es Q↔@Mv (sU dst (Bc (.nilq k neg x y))) call es ⟨Q⟩:=Dp
theorem sJ{z:List Value}{ps:List (Nat×Nat×Operand)}{cs:List DV}(hf:Hi (z.map .v) (ps.map λp=>(p.1,p.2.1,es.ds.ev p.2.2))=some cs)(h:q.val (es.putE dst (.agg cs))):Mv (sU dst (Bc (.bld z ps))) call es:=by
 show SW _ _ _ _
 rw [sw_u,Hf]
 refine ⟨.agg cs,.keep,?_,h⟩
 simp only [Bb,hf]
theorem fM{k:Nat}{neg:Bool}{x y:Operand}(b:Bool)(hx:isNil k (es.ds.ev x)=some b)(hy:isNil k (es.ds.ev y)=some true)(h:q.val (es.putE dst (.v (.bool (xor neg b))))):Mv (sU dst (Bc (.nilq k neg x y))) call es:=by
 show SW _ _ _ _
 rw [sw_u,Hf]
 refine ⟨.v (.bool (xor neg b)),.keep,?_,h⟩
 cases b <;> simp only [Bb,hx,hy]
end
end Go.DD

/- The evaluator, read with symbols: parts of slices in regions that draw their order; new rows of bytes; copies. -/
namespace Go.DD
open Go
def iX(n:Int):Option DV->Option Int
 | none=>some n
 | some d=>Mx d
theorem Cv9(es:ES)(n:Int)(o:Option Operand):Kt es.ds n o=iX n (o.map es.ds.ev):=by cases o <;> rfl
def sliE(e:Nat)(x:DV)(lo hi:Option DV):Option DV:=match x with
 | .sl cs n=>match iX 0 lo,iX n hi with
  | some l,some h=>if 0<=l/\l<=h/\h<=n then some (.sl ((cs.drop (l.toNat*e)).take ((h.toNat-l.toNat)*e)) (h.toNat-l.toNat)) else none
  | _,_=>none
 | .ms id off n e'=>match iX 0 lo,iX n hi with
  | some l,some h=>if e'=e/\0<=l/\l<=h/\h<=n then some (if l<h\/l=0 then .ms id (off+l.toNat*e) (h.toNat-l.toNat) e else .sl [] 0) else none
  | _,_=>none
 | .v (.slice none 0 0)=>match iX 0 lo,iX 0 hi with
  | some l,some h=>if l=0/\h=0 then some (.v (.slice none 0 0)) else none
  | _,_=>none
 | _=>none
theorem Cw0(e:Nat)(x:Operand)(lo hi:Option Operand)(nid:Nat)(es:ES):Dz (Bc (.sli e x lo hi)) nid es=sliE e (es.ds.ev x) (lo.map es.ds.ev) (hi.map es.ds.ev):=by
 refine fS (X:=λes=>sliE e (es.ds.ev x) (lo.map es.ds.ev) (hi.map es.ds.ev)) (λes nid=>?_) nid
 rw [Hf]
 simp only [Bb,sliE,Cv9]
 cases es.ds.ev x with
 | sl cs n=>
  simp only
  cases iX 0 (lo.map es.ds.ev) with
  | none=>rfl
  | some l=>
   cases iX n (hi.map es.ds.ev) with
   | none=>rfl
   | some h=>simp only;split <;> rfl
 | ms id off n e'=>
  simp only
  cases iX 0 (lo.map es.ds.ev) with
  | none=>rfl
  | some l=>
   cases iX n (hi.map es.ds.ev) with
   | none=>rfl
   | some h=>simp only;split <;> rfl
 | v a=>
  cases a with
  | slice a n c=>
   cases a with
   | none=>
    cases n with
    | zero=>
     cases c with
     | zero=>
      simp only
      cases iX 0 (lo.map es.ds.ev) with
      | none=>rfl
      | some l=>
       cases iX 0 (hi.map es.ds.ev) with
       | none=>rfl
       | some h=>simp only;split <;> rfl
     | succ c=>rfl
    | succ n=>rfl
   | some a=>rfl
  | _=>rfl
 | _=>rfl
section
variable {call:Bf} {es:ES} {dst:Option Pa} {q:Hold (ES->Prop)} {Q:ES->Prop}
end
theorem Be1{k:IntKind}{n:Nat}(h:n<9223372036854775808):Xm .u64 (.v (.int k (n:Int)))=some (.v (.int .u64 (n:Int))):=by
 show some (DV.v (.int .u64 (IntKind.u64.wrap (n:Int))))=_
 rw [IntWalk.u64_in _ (by omega)]
end Go.DD

/- The evaluator, read with symbols: bytes as strings in regions that draw their order; when strings of bytes are equal. -/
namespace Go.DD
open Go
end Go.DD

/- The evaluator, read with symbols: lists of records, as content or as own rows. -/
namespace Go.DD
open Go
section
variable {α:Type} {f:α->List DV} {e:Nat}
theorem Bb0(hf:∀ x,(f x).length=e):∀ (l:List α) (i:Nat),(l.flatMap f).drop (i*e)=(l.drop i).flatMap f
 | [],i=>by simp
 | a::l,0=>by simp
 | a::l,i+1=>by
  rw [Kg,List.drop_succ_cons,<- Bb0 hf l i,List.drop_append,hf,Gg,Mr,Rj,Wi (by rw [hf];omega),Bh]
theorem Bb1(hf:∀ x,(f x).length=e):∀ (l:List α) (i:Nat),(l.flatMap f).take (i*e)=(l.take i).flatMap f
 | [],i=>by simp
 | a::l,0=>by simp
 | a::l,i+1=>by
  rw [Kg,List.take_succ_cons,Kg,<- Bb1 hf l i,List.take_append,hf,Gg,Mr,Rj,Bm (by rw [hf];omega)]
end
def Cf(e:Nat):DV->Nat->DV
 | .sl cs _,i=>.ia (cs.drop (i*e))
 | .ms id off _ _,i=>.pt id (off+i*e)
 | _,_=>.any
def It:DV->Nat->DV
 | .ia cs,k=>.ia (cs.drop k)
 | .pt id off,k=>.pt id (off+k)
 | _,_=>.any
section
variable {α:Type} {T e:Nat} {f:α->List DV} {hp Ap:Tr DObj} {d:DV} {l:List α}
end
section
variable {α:Type} {T e:Nat} {f:α->List DV} {call:Bf} {es:ES} {dst:Option Pa} {q:Hold (ES->Prop)}
end
end Go.DD

/- The evaluator, read with symbols: small rules. -/
namespace Go.DD
open Go
abbrev iv(n:Int):DV:=.v (.int .i64 n)
abbrev bv(b:Bool):DV:=.v (.bool b)
abbrev sv(s:ByteArray):DV:=.v (.string s)
theorem Be2(hp:Tr DObj)(s:ByteArray):Ch hp (sv s)=sv s:=Sd hp _
section
variable {call:Bf} {es:ES} {dst:Option Pa} {q:Hold (ES->Prop)} {Q:ES->Prop}
theorem Dt{tg:Tg}{ds:List DV}{hp:Tr DObj}{nx:Nat}{q:Hold (DV->Tr DObj->Nat->Prop)}(h:KW call tg ds hp nx q.val):KWs call tg ds hp nx:=h
theorem Tm{T:TypeId}{x:EO}{cs:List DV}(hv:Mz es x=.agg cs)(h:∀ Ap,Ap.get es.nx=some (.row T cs)->(∀ j,j≠es.nx->Ap.get j=es.hp.get j)->q.val ((ES.mk es.sl Ap (es.nx+1)).putE dst (.pt es.nx 0))):Mv (sU dst (Mj T x)) call es:=by
 refine sw_bx.2 ⟨.pt es.nx 0,.lay (.row T cs),?_,h (es.up (.lay (.row T cs))).hp (by rw [fK,get_set,Ah rfl]) λj hj=>by rw [fK,get_set,Ae hj]⟩
 unfold X1
 rw [hv]
 rfl
end
theorem EW.seq{a c:CE}{call:Bf}{es:ES}{Q:Exit->ES->Prop}(R:ES->Prop)(h1:EW a call es (No R Q))(h2:∀ es1,R es1->EW c call es1 Q):EW (cS a c) call es Q:=
 ew_s.2 (h1.mono λe es1 h=>by cases e <;> first | exact h2 es1 h | exact h)
def Rng(n n':Nat)(d:DV):Prop:=∀ id∈d.refs,n<=id/\id<n'
theorem Rng.nil(n n':Nat):Rng n n' Bv:=λ_ h=>by cases h
theorem Rng.ms{n n' id off m e:Nat}(h1:n<=id)(h2:id<n'):Rng n n' (.ms id off m e):=λj hj=>by
 have:j=id:=by simpa [DV.refs] using hj
 subst this;exact ⟨h1,h2⟩
theorem Ce1(k:IntKind)(a b:Int):Cl .eql (.v (.int k a)) (.v (.int k b))=some (.v (.bool (decide (a=b)))):=by rw [QR];rfl
theorem Ce2(k:IntKind)(a b:Int):Cl .neq (.v (.int k a)) (.v (.int k b))=some (.v (.bool (decide (a≠b)))):=by
 rw [QQ]
 by_cases h:a=b
 .subst h;simp
 .have:(a != b)=true:=by simp [h]
  rw [this,Ai h]
theorem Cw1{k:IntKind}{a b:Nat}(h:b≠0):Cl .rem (.v (.int k (a:Int))) (.v (.int k (b:Int)))=some (.v (.int k ((a % b:Nat):Int))):=by
 have e:(a:Int).tmod (b:Int)=((a % b:Nat):Int):=rfl
 have hb:¬ (b:Int)=0:=by omega
 have e2:Mq .rem k (a:Int) (b:Int)=some (.int k ((a % b:Nat):Int)):=by
  unfold Mq
  simp only
  rw [Ae hb,e]
 simp only [Cl,Lw,Nh]
 simp [e2]
end Go.DD

/- What values read as, by a type's layout, in any heap. -/
namespace Go.DD
open Go
structure Rep (α:Type) where
 e:Nat
 T:Nat
 dep:Nat
 rd:Tr DObj->(Nat->Prop)->List DV->α->Prop
 cells:α->List DV
 e0:0<e
 d6:dep<=6
 len:∀ {hp p ds x},rd hp p ds x->ds.length=e
 keep:∀ {hp Ap p ds x},rd hp p ds x->(∀ j,p j->Ap.get j=hp.get j)->rd Ap p ds x
 mono:∀ {hp p q ds x},rd hp p ds x->(∀ j,p j->q j)->rd hp q ds x
 refs:∀ {hp p ds x},rd hp p ds x->∀ id∈DV.refsL ds,p id/\(hp.get id).isSome=true
 pure:∀ hp p x,rd hp p (cells x) x
 ok:∀ {hp p ds x},rd hp p ds x->∀ c∈ds,c.okC=true/\c.cells=[c]
 same:∀ {hp p ds x},rd hp p ds x->∀ c∈ds,∀ n,dep<=n->Nb n c c=true
 samec:∀ x,∀ c∈cells x,∀ n,dep<=n->Nb n c c=true
section
variable {α:Type} {R:Rep α} {hp Ap:Tr DObj} {p q:Nat->Prop} {d:DV} {l m:List α}
def Rows(R:Rep α)(hp:Tr DObj)(p:Nat->Prop):List DV->List α->Prop
 | ds,[]=>ds=[]
 | ds,x::l=>∃ a b,ds=a++b/\R.rd hp p a x/\Rows R hp p b l
theorem Rows.len:∀ {l:List α} {ds:List DV},Rows R hp p ds l->ds.length=l.length*R.e
 | [],ds,h=>by cases h;simp
 | x::l,ds,⟨a,b,e,h1,h2⟩=>by rw [e,Bp,R.len h1,Rows.len h2,Fi,Gg,Mr,Nat.add_comm]
theorem Rows.keep:∀ {l:List α} {ds:List DV},Rows R hp p ds l->(∀ j,p j->Ap.get j=hp.get j)->Rows R Ap p ds l
 | [],_,h,_=>h
 | _::_,_,⟨a,b,e,h1,h2⟩,hk=>⟨a,b,e,R.keep h1 hk,h2.keep hk⟩
theorem Rows.mono:∀ {l:List α} {ds:List DV},Rows R hp p ds l->(∀ j,p j->q j)->Rows R hp q ds l
 | [],_,h,_=>h
 | _::_,_,⟨a,b,e,h1,h2⟩,hk=>⟨a,b,e,R.mono h1 hk,h2.mono hk⟩
theorem Bb2:∀ (a b:List DV),DV.refsL (a++b)=DV.refsL a++DV.refsL b
 | [],b=>rfl
 | c::a,b=>by simp only [Ky,DV.refsL,Bb2 a b,Ce]
theorem Rows.pure(hp:Tr DObj)(p:Nat->Prop):∀ l:List α,Rows R hp p (l.flatMap R.cells) l
 | []=>rfl
 | x::l=>⟨R.cells x,l.flatMap R.cells,rfl,R.pure hp p x,Rows.pure hp p l⟩
theorem Rows.app:∀ {l m:List α} {a b:List DV},Rows R hp p a l->Rows R hp p b m->Rows R hp p (a++b) (l++m)
 | [],_,_,_,h,h2=>by cases h;exact h2
 | _::_,_,_,b,⟨a1,b1,e,h1,h3⟩,h2=>⟨a1,b1++b,by rw [e,Ce],h1,h3.app h2⟩
theorem Rows.one{ds:List DV}{x:α}(h:R.rd hp p ds x):Rows R hp p ds [x]:=⟨ds,[],by simp,h,rfl⟩
theorem Rows.drop:∀ {l:List α} {ds:List DV} (i:Nat),Rows R hp p ds l->Rows R hp p (ds.drop (i*R.e)) (l.drop i)
 | [],ds,i,h=>by cases h;simp [Rows]
 | _::_,_,0,h=>by simpa using h
 | _::l,_,i+1,⟨a,b,e,h1,h2⟩=>by
  subst e
  rw [List.drop_succ_cons,List.drop_append,R.len h1,Wi (by rw [R.len h1,Gg];omega),Gg,Mr,Rj,Bh]
  exact h2.drop i
theorem Rows.take:∀ {l:List α} {ds:List DV} (i:Nat),Rows R hp p ds l->Rows R hp p (ds.take (i*R.e)) (l.take i)
 | [],ds,i,h=>by cases h;simp [Rows]
 | _::_,_,0,h=>by simp [Rows]
 | _::l,_,i+1,⟨a,b,e,h1,h2⟩=>by
  subst e
  rw [List.take_succ_cons,List.take_append,R.len h1,Bm (by rw [R.len h1,Gg];omega),Gg,Mr,Rj]
  exact ⟨a,_,rfl,h1,h2.take i⟩
theorem Rows.at{ds:List DV}(h:Rows R hp p ds l){i:Nat}(hi:i<l.length):∃ rest,ds.drop (i*R.e)=((ds.drop (i*R.e)).take R.e)++rest/\R.rd hp p ((ds.drop (i*R.e)).take R.e) l[i]:=by
 have h1:=h.drop i
 rw [As hi] at h1
 obtain ⟨a,b,e,h2,h3⟩:=h1
 have e2:(ds.drop (i*R.e)).take R.e=a:=by rw [e,List.take_left' (R.len h2)]
 exact ⟨b,by rw [e2,e],by rw [e2];exact h2⟩
theorem Rows.same:∀ {l:List α} {ds:List DV},Rows R hp p ds l->∀ c∈ds,∀ n,R.dep<=n->Nb n c c=true
 | [],_,h,c,hc=>by cases h;cases hc
 | _::_,_,⟨a,b,e,h1,h2⟩,c,hc=>by
  subst e
  rcases Bo.1 hc with hc | hc
  .exact R.same h1 c hc
  .exact h2.same c hc
inductive RL (R:Rep α) (hp:Tr DObj) (p:Nat->Prop):DV->List α->Prop where
 | nil:RL R hp p Bv []
 | sl (l:List α):RL R hp p (.sl (l.flatMap R.cells) l.length) l
 | ms (id off:Nat) (fl:List DV) (l:List α) (h:hp.get id=some (.row R.T fl)) (hid:p id) (hl:off+l.length*R.e<=fl.length) (hr:Rows R hp p ((fl.drop off).take (l.length*R.e)) l) (hs:∀ c∈fl,Nb 6 c c=true):RL R hp p (.ms id off l.length R.e) l
inductive OL (R:Rep α) (hp:Tr DObj) (p:Nat->Prop):DV->List α->Prop where
 | nil:OL R hp p Bv []
 | ms (id:Nat) (fl:List DV) (l:List α) (h:hp.get id=some (.row R.T fl)) (hr:Rows R hp p fl l):OL R hp p (.ms id 0 l.length R.e) l
theorem RL.keep(h:RL R hp p d l)(hk:∀ j,p j->Ap.get j=hp.get j):RL R Ap p d l:=by
 cases h with
 | nil=>exact .nil
 | sl=>exact .sl _
 | ms id off fl l h hid hl hr hs=>exact .ms id off fl l ((hk id hid).trans h) hid hl (hr.keep hk) hs
theorem RL.mono(h:RL R hp p d l)(hk:∀ j,p j->q j):RL R hp q d l:=by
 cases h with
 | nil=>exact .nil
 | sl=>exact .sl _
 | ms id off fl l h hid hl hr hs=>exact .ms id off fl l h (hk id hid) hl (hr.mono hk) hs
theorem RL.refs(h:RL R hp p d l):∀ id∈d.refs,p id/\(hp.get id).isSome=true:=by
 cases h with
 | nil=>intro id h;cases h
 | sl=>intro id h;cases h
 | ms id off fl l h hid hl hr hs=>
  intro j hj
  have:j=id:=by simpa [DV.refs] using hj
  rw [this,h];exact ⟨hid,rfl⟩
theorem RL.live(h:RL R hp p d l):Ch hp d=d:=Wh λid hid=>(h.refs id hid).2
theorem RL.ok(h:RL R hp p d l):d.okC=true/\d.cells=[d]:=by cases h <;> exact ⟨rfl,rfl⟩
theorem RL.len(h:RL R hp p d l):Qp hp d=some (.v (.int .i64 (l.length:Int))):=by
 cases h with
 | nil=>rfl
 | sl=>rfl
 | ms id off fl l h hid hl hr hs=>
  show (if fH hp id=true then _ else none)=_
  rw [Ah (by unfold fH;rw [h];rfl)]
theorem RL.ia(h:RL R hp p d l){i:Nat}(hi:i<l.length):Ms hp R.e d (.v (.int .i64 (i:Int)))=some (Cf R.e d i):=by
 cases h with
 | nil=>simp at hi
 | sl=>
  show (if 0<=(i:Int)/\(i:Int)<(l.length:Int) then some (DV.ia ((l.flatMap R.cells).drop ((i:Int).toNat*R.e))) else none)=_
  rw [Ah ⟨by omega,by omega⟩];rfl
 | ms id off fl l h hid hl hr hs=>
  show (if fH hp id=true/\0<=(i:Int)/\(i:Int)<(l.length:Int) then some (DV.pt id (off+(i:Int).toNat*R.e)) else none)=_
  rw [Ah ⟨by unfold fH;rw [h];rfl,by omega,by omega⟩];rfl
theorem RL.fa(h:RL R hp p d l){i k:Nat}(hi:i<l.length):Ow hp k (Cf R.e d i)=some (It (Cf R.e d i) k):=by
 cases h with
 | nil=>simp at hi
 | sl=>exact W6 hp k _
 | ms id off fl l h hid hl hr hs=>exact Pp h
theorem RL.at(h:RL R hp p d l){i:Nat}(hi:i<l.length):∃ ds,R.rd hp p ds l[i]/\Hk hp (some R.e) (Cf R.e d i)=some (.agg ds)/\(∀ x,ds[0]?=some x->Hk hp none (Cf R.e d i)=some x)/\∀ k x,ds[k]?=some x->Hk hp none (It (Cf R.e d i) k)=some x:=by
 have key:∀ (cs:List DV) (a:DV),(∀ k,Hk hp k a=Jc k cs)->(∀ k j,Hk hp k (It a j)=Jc k (cs.drop j))->(∃ rest,cs=cs.take R.e++rest)->R.rd hp p (cs.take R.e) l[i]->∃ ds,R.rd hp p ds l[i]/\Hk hp (some R.e) a=some (.agg ds)/\(∀ x,ds[0]?=some x->Hk hp none a=some x)/\∀ k x,ds[k]?=some x->Hk hp none (It a k)=some x:=by
  intro cs a h1 h2 ⟨rest,h3⟩ h4
  have hl:=R.len h4
  refine ⟨cs.take R.e,h4,?_,λx hx=>?_,λk x hx=>?_⟩
  .rw [h1]
   show (if R.e<=cs.length then some (DV.agg (cs.take R.e)) else none)=_
   rw [Ah (by rw [Ca] at hl;omega)]
  .rw [h1]
   have:=A62 (cs:=cs) (i:=0) (d:=x) (by rw [h3,Cm (by rw [hl];exact R.e0)];exact hx)
   rwa [Fx] at this
  .rw [h2]
   have hk:k<(cs.take R.e).length:=(Ar.1 hx).1
   exact A62 (by rw [h3,Cm hk];exact hx)
 cases h with
 | nil=>simp at hi
 | sl=>
  obtain ⟨rest,h1,h2⟩:=(Rows.pure (R:=R) hp p l).at hi
  exact key _ (.ia ((l.flatMap R.cells).drop (i*R.e))) (λ_=>rfl) (λ_ _=>rfl) ⟨rest,h1⟩ h2
 | ms id off fl l h hid hl hr hs=>
  obtain ⟨rest,h1,h2⟩:=hr.at hi
  have hle:i*R.e+R.e<=l.length*R.e:=by
   have:=Ep R.e hi
   rw [Nat.succ_mul] at this;exact this
  have e1:(((fl.drop off).take (l.length*R.e)).drop (i*R.e)).take R.e=(fl.drop (off+i*R.e)).take R.e:=by
   rw [List.drop_take,Nd,List.take_take]
   congr 1;omega
  rw [e1] at h1 h2
  refine key (fl.drop (off+i*R.e)) (.pt id (off+i*R.e)) (λk=>Nt h) (λk j=>?_) ⟨_,(Gk R.e _).symm⟩ h2
  show Hk hp k (.pt id (off+i*R.e+j))=_
  rw [Nt h,<- Nd]
theorem RL.srcD{es:ES}(h:RL R es.hp p d l):∃ ds,Go.DD.srcD es.ds R.T R.e d=some (ds,l.length)/\Rows R es.hp p ds l:=by
 cases h with
 | nil=>exact ⟨[],rfl,rfl⟩
 | sl=>exact ⟨_,rfl,Rows.pure _ _ l⟩
 | ms id off fl l h hid hl hr hs=>
  refine ⟨_,?_,hr⟩
  show (match es.hp.get id with
  | some (.row T' cs)=>if T'=R.T/\R.e=R.e/\off+l.length*R.e<=cs.length then some ((cs.drop off).take (l.length*R.e),l.length) else none
  | _=>none)=_
  rw [h]
  simp only []
  rw [Ah ⟨trivial,trivial,hl⟩]
theorem A63{es:ES}{id:Nat}{ds:List DV}{x:α}(h:es.hp.get id=some (.row R.T ds))(hr:R.rd es.hp p ds x):Go.DD.srcD es.ds R.T R.e (.ms id 0 1 R.e)=some (ds,[x].length):=by
 have hl:=R.len hr
 show (match es.hp.get id with
  | some (.row T' cs)=>if T'=R.T/\R.e=R.e/\0+1*R.e<=cs.length then some ((cs.drop 0).take (1*R.e),1) else none
  | _=>none)=_
 rw [h]
 simp only []
 rw [Ah ⟨trivial,trivial,by omega⟩,Fx,Mr,Bm (by omega)];rfl
theorem BT{es:ES}{id:Nat}{ds:List DV}{x:α}(h:es.hp.get id=some (.row R.T ds))(hr:R.rd es.hp p ds x):∃ fG,Go.DD.srcD es.ds R.T R.e (.ms id 0 1 R.e)=some (fG,[x].length)/\Rows R es.hp p fG [x]:=⟨ds,A63 h hr,Rows.one hr⟩
theorem wK(e:Nat)(d:DV)(i:Nat):∀ id∈(Cf e d i).refs,id∈d.refs:=by
 cases d with
 | ms id off n e=>intro j hj;exact hj
 | _=>intro j hj;cases hj
theorem Bk3(d:DV)(k:Nat):∀ id∈(It d k).refs,id∈d.refs:=by
 cases d with
 | pt id off=>intro j hj;exact hj
 | _=>intro j hj;cases hj
theorem RL.ro{n0 m:Nat}{an:List Nat}(h:RL R hp p d l)(ho:∀ j,p j->j<n0):Ib d (λid=>Cp n0 m an hp id):=λid hid=>(tJ hp id).2 ⟨(h.refs id hid).2,.inl (ho id (h.refs id hid).1)⟩
theorem RL.roa{n0 m i:Nat}{an:List Nat}(h:RL R hp p d l)(ho:∀ j,p j->j<n0):Ib (Cf R.e d i) (λid=>Cp n0 m an hp id):=λid hid=>h.ro ho id (wK R.e d i id hid)
theorem RL.rof{n0 m i k:Nat}{an:List Nat}(h:RL R hp p d l)(ho:∀ j,p j->j<n0):Ib (It (Cf R.e d i) k) (λid=>Cp n0 m an hp id):=λid hid=>h.ro ho id (wK R.e d i id (Bk3 _ k id hid))
theorem RL.same(h:RL R hp p d l){n:Nat}(hn:R.dep+1<=n):Nb n d d=true:=by
 obtain ⟨n,rfl⟩:∃ k,n=k+1:=⟨n-1,by omega⟩
 cases h with
 | nil=>simp [Nb,Pv,Bv]
 | sl=>
  show (l.length==l.length&&Ji (Nb n) (l.flatMap R.cells) (l.flatMap R.cells))=true
  rw [At0 λc hc=>by obtain ⟨x,_,hx⟩:=Gn.1 hc;exact R.samec x c hx n (by omega)]
  simp
 | ms id off fl l h hid hl hr hs=>simp [Nb]
theorem OL.rl(h:OL R hp p d l):RL R hp (λj=>p j\/j∈d.refs) d l:=by
 cases h with
 | nil=>exact .nil
 | ms id fl l h hr=>
  have:=hr.len
  exact .ms id 0 fl l h (.inr (by simp [DV.refs])) (by omega) (by rw [Fx,Bm (by omega)];exact hr.mono λ_ h=>.inl h) λc hc=>hr.same c hc 6 R.d6
theorem OL.keep(h:OL R hp p d l)(hk:∀ j,p j\/j∈d.refs->Ap.get j=hp.get j):OL R Ap p d l:=by
 cases h with
 | nil=>exact .nil
 | ms id fl l h hr=>exact .ms id fl l ((hk id (.inr (by simp [DV.refs]))).trans h) (hr.keep λj hj=>hk j (.inl hj))
theorem OL.mono(h:OL R hp p d l)(hk:∀ j,p j->q j):OL R hp q d l:=by
 cases h with
 | nil=>exact .nil
 | ms id fl l h hr=>exact .ms id fl l h (hr.mono hk)
theorem OL.dstD{es:ES}(h:OL R es.hp p d l):∃ o fl,Go.DD.dstD es.ds R.T R.e d=some (o,fl,l.length)/\Rows R es.hp p fl l/\(∀ id,o=some id->id∈d.refs)/\Ch es.hp d=d/\(fl=[]\/∃ id,d=.ms id 0 l.length R.e/\es.hp.get id=some (.row R.T fl)):=by
 cases h with
 | nil=>exact ⟨none,[],rfl,rfl,(λ_ h=>by cases h),eL rfl,.inl rfl⟩
 | ms id fl l h hr=>
  refine ⟨some id,fl,?_,hr,λ_ h=>by cases h;simp [DV.refs],eK h,.inr ⟨id,rfl,h⟩⟩
  show (match es.hp.get id with
  | some (.row T' cs)=>if T'=R.T/\R.e=R.e/\cs.length=l.length*R.e then some (some id,cs,l.length) else none
  | _=>none)=_
  rw [h]
  simp only []
  rw [Ah ⟨trivial,trivial,hr.len⟩]
end
section
variable {α:Type} {R:Rep α} {call:Bf} {es:ES} {dst:Option Pa} {q:Hold (ES->Prop)} {p p2:Nat->Prop}
theorem Bk4{b t:Nat}{u:Operand}{T e:Nat}{d d2:DV}{ds:List DV}{l m:List α}(e1:Ac es (.t (Cn t))=d)(hd:OL R es.hp p d l)(e2:es.ds.ev u=d2)(hs:Go.DD.srcD es.ds R.T R.e d2=some (ds,m.length))(AF:Rows R es.hp p2 ds m)(hT:T=R.T)(he:e=R.e)(hl:l.length+m.length<=2147483648)(hb:b<=65536)
  (h:∀ Ap,(∀ j,j≠es.nx->j∉d.refs->Ap.get j=es.hp.get j)->(∀ p',(∀ j,p j\/p2 j->p' j/\j≠es.nx/\j∉d.refs)->OL R Ap p' (.ms es.nx 0 (l++m).length R.e) (l++m))->(∀ Q:DV->Prop,(∀ id fl,d=.ms id 0 l.length R.e->es.hp.get id=some (.row R.T fl)->∀ c∈fl,Q c)->(∀ c∈ds,Q c)->∃ fl,Ap.get es.nx=some (.row R.T fl)/\∀ c∈fl,Q c)->q.val ((ES.mk es.sl Ap (es.nx+1)).putE dst (.ms es.nx 0 (l++m).length R.e))) :
  Mv (sU dst (Bc (.app T e b (.tmp t) u))) call es:=by
 subst hT he
 obtain ⟨o,fl,ho,Qr,hor,Xs,hfl⟩:=hd.dstD
 show SW _ _ _ _
 rw [sw_u,Hf]
 refine ⟨.ms es.nx 0 (l.length+m.length) R.e,.mv o (.row R.T (fl++ds)),?_,?_⟩
 .have f1:es.ds.ev (.tmp t)=d:=by rw [Y3,e1,Xs]
  simp only [Bb,f1,e2,ho,hs]
  rw [Ah ⟨AF.len,R.e0,hl,hb⟩]
 .have hg:(es.up (.mv o (.row R.T (fl++ds)))).hp.get es.nx=some (.row R.T (fl++ds)):=by
   cases o with
   | none=>rw [Cc4,get_set,Ah rfl]
   | some i=>rw [Cc5,get_set,Ah rfl]
  have hk:∀ j,j≠es.nx->j∉d.refs->(es.up (.mv o (.row R.T (fl++ds)))).hp.get j=es.hp.get j:=by
   intro j hj hjd
   cases o with
   | none=>rw [Cc4,get_set,Ae hj]
   | some i=>rw [Cc5,get_set,Ae hj,get_set,Ae (λe=>hjd (by rw [e];exact hor i rfl))]
  have hh:=h _ hk (λp' Ap=>.ms es.nx _ _ hg ((((Qr.mono (q:=λj=>p j\/p2 j) λ_=>.inl).app (AF.mono λ_=>.inr)).keep λj hj=>hk j (Ap j hj).2.1 (Ap j hj).2.2).mono λj hj=>(Ap j hj).1)) λQ h1 h2=>⟨_,hg,λc hc=>(Bo.1 hc).elim (λhc=>by
   rcases hfl with rfl | ⟨id,e,hi⟩
   .cases hc
   .exact h1 id fl e hi c hc) (h2 c)⟩
  rw [Bp] at hh
  exact hh
theorem fL{b t:Nat}{u:Operand}{T e:Nat}{d d2:DV}{l m:List α}(e1:Ac es (.t (Cn t))=d)(hd:OL R es.hp p d l)(e2:es.ds.ev u=d2)(hm:∃ ds,Go.DD.srcD es.ds R.T R.e d2=some (ds,m.length)/\Rows R es.hp p2 ds m)(hT:T=R.T)(he:e=R.e)(hl:l.length+m.length<=2147483648)(hb:b<=65536)
  (h:∀ Ap,(∀ j,j≠es.nx->j∉d.refs->Ap.get j=es.hp.get j)->(∀ p',(∀ j,p j\/p2 j->p' j/\j≠es.nx/\j∉d.refs)->OL R Ap p' (.ms es.nx 0 (l++m).length R.e) (l++m))->q.val ((ES.mk es.sl Ap (es.nx+1)).putE dst (.ms es.nx 0 (l++m).length R.e))) :
  Mv (sU dst (Bc (.app T e b (.tmp t) u))) call es:=by
 obtain ⟨ds,hs,AF⟩:=hm
 exact Bk4 e1 hd e2 hs AF hT he hl hb λAp h1 h2 _=>h Ap h1 h2
end
theorem DA{α:Type}{R:Rep α}{hp:Tr DObj}{p:Nat->Prop}{d:DV}{l:List α}{n m i:Nat}{an refs lo:List Nat}{c:Bool}{ws:List Look}{ps:List Past}(h:RL R hp p d l)(eR:∀ j,p j->j<n)
  (Ht:∀ q∈ps,(∀ j,p j->q.a.get j=hp.get j)/\∀ j,p j->q.b.get j=hp.get j) (hr:∀ j∈refs,j∈d.refs) (h2:Oj n m ws ps=true):Oj n m (Gj i an true c refs n lo ws) ps=true:=
 nT (λj hj=>by
  have eY:=hr j hj
  refine ⟨eR j (h.refs j eY).1,λq hq=>.inr (.inr ?_)⟩
  obtain ⟨h3,h4⟩:=Ht q hq
  cases h with
  | nil=>cases eY
  | sl=>cases eY
  | ms id off fl l h hid hl hr hs=>
   have:j=id:=by simpa [DV.refs] using eY
   subst this
   have e3:=(h3 j hid).trans h
   have e4:=(h4 j hid).trans h
   cases c with
   | true=>rw [Ah rfl];exact Z2 e3 (e4.trans e3.symm) hs
   | false=>rw [Ae (by simp)];simp [tD,e3,e4]) h2
end Go.DD

/- What values read as: slices that are laid, parts of slices, kinds of layouts. -/
namespace Go.DD
open Go
section
variable {α:Type} {R:Rep α} {call:Bf} {es:ES} {dst:Option Pa} {q:Hold (ES->Prop)} {p:Nat->Prop} {n0 m i:Nat} {lo an:List Nat} {ws:List Look} {pp:List Past} {r:Hold (DSt->Prop)} {ps:List Pa}
theorem jF{T n e:Nat}{z:List Value}{xs:List (Nat×Nat×Operand)}{fl:List DV}(hz:z.length=e)(hf:Hi ((List.replicate n (z.map .v)).flatten) (xs.map λp=>(p.1,p.2.1,es.ds.ev p.2.2))=some fl)
  (h:∀ Ap,Ap.get es.nx=some (.row T fl)->(∀ j,j≠es.nx->Ap.get j=es.hp.get j)->q.val ((ES.mk es.sl Ap (es.nx+1)).putE dst (.ms es.nx 0 n e))) :
  Mv (sU dst (Bc (.bsl T n e z xs))) call es:=by
 show SW _ _ _ _
 rw [sw_u,Hf]
 refine ⟨.ms es.nx 0 n e,.lay (.row T fl),?_,?_⟩
 .simp only [Bb,hf,hz]
  rw [Ah trivial]
 .exact h (es.up (.lay (.row T fl))).hp (by rw [fK,get_set,Ah rfl]) λj hj=>by rw [fK,get_set,Ae hj]
theorem SG{wide c:Bool}{T n e:Nat}{z:List Value}{xs:List (Nat×Nat×Operand)}{fl:List DV}(hz:z.length=e)(hf:Hi ((List.replicate n (z.map .v)).flatten) (xs.map λp=>(p.1,p.2.1,es.ds.ev p.2.2))=some fl)
  (h:∀ Ap,Ap.get (n0+i)=some (.row T fl)->(∀ j,j≠n0+i->Ap.get j=es.hp.get j)->r.val ⟨(ES.mk es.sl Ap es.nx).putE dst (.ms (n0+i) 0 n e),i::lo,Gj i an wide c (refsL es ps) n0 lo ws,pp⟩) :
  X6 (Ox i an wide c dst (Bc (.bsl T n e z xs)) ps) call n0 m es lo ws pp:=by
 show TW _ _ _ _ _ _
 rw [Cd6]
 refine ⟨.ms (n0+i) 0 n e,.row T fl,?_,?_⟩
 .rw [Hf]
  simp only [Bb,hf,hz]
  rw [Ah trivial]
 .exact h _ (by rw [J7];simp) λj hj=>by rw [J7];simp [hj]
def tW(e a z:Nat):DV->DV
 | .sl cs _=>.sl ((cs.drop (a*e)).take ((z-a)*e)) (z-a)
 | .ms id off _ _=>if a<z\/a=0 then .ms id (off+a*e) (z-a) e else .sl [] 0
 | d=>d
theorem Rep.clen(R:Rep α)(x:α):(R.cells x).length=R.e:=R.len (R.pure .e (λ_=>True) x)
theorem RL.part{hp:Tr DObj}{d:DV}{l:List α}(h:RL R hp p d l){a z:Nat}(haz:a<=z)(hz:z<=l.length):RL R hp p (tW R.e a z d) ((l.drop a).take (z-a)):=by
 have hlen:((l.drop a).take (z-a)).length=z-a:=by rw [Ca,Cv];omega
 cases h with
 | nil=>
  have:a=0/\z=0:=by simp at hz;omega
  obtain ⟨rfl,rfl⟩:=this
  exact .nil
 | sl=>
  have e1:((l.flatMap R.cells).drop (a*R.e)).take ((z-a)*R.e)=((l.drop a).take (z-a)).flatMap R.cells:=by
   rw [Bb0 R.clen,Bb1 R.clen]
  have:=RL.sl (R:=R) (hp:=hp) (p:=p) ((l.drop a).take (z-a))
  rw [hlen,<- e1] at this
  exact this
 | ms id off fl l h hid hl hr hs=>
  show RL R hp p (if a<z\/a=0 then .ms id (off+a*R.e) (z-a) R.e else .sl [] 0) _
  by_cases Fb:a<z\/a=0
  .rw [Ah Fb]
   have h2:=(hr.drop a).take (z-a)
   have hm:a*R.e+(z-a)*R.e=z*R.e:=by rw [<- Gg];congr 1;omega
   have pW:z*R.e<=l.length*R.e:=Ep _ hz
   have e1:(((fl.drop off).take (l.length*R.e)).drop (a*R.e)).take ((z-a)*R.e)=(fl.drop (off+a*R.e)).take ((z-a)*R.e):=by
    rw [List.drop_take,Nd,List.take_take]
    congr 1;omega
   rw [e1] at h2
   have:=RL.ms (R:=R) (hp:=hp) (p:=p) id (off+a*R.e) fl _ h hid (by rw [hlen];omega) (by rw [hlen];exact h2) hs
   rwa [hlen] at this
  .rw [Ae Fb]
   have:z-a=0:=by omega
   rw [this,List.take_zero]
   exact .sl []
theorem RU{t a z e:Nat}{lo hi:Option Operand}{d:DV}{l:List α}(e1:Ac es (.t (Cn t))=d)(hd:RL R es.hp p d l)(he:e=R.e)(Hv:Kt es.ds 0 lo=some (a:Int))(Tl:∀ n:Int,n=l.length->Kt es.ds n hi=some (z:Int))(haz:a<=z)(hz:z<=l.length)
  (h:q.val (es.putE dst (tW R.e a z d))):Mv (sU dst (Bc (.sli e (.tmp t) lo hi))) call es:=by
 subst he
 show SW _ _ _ _
 rw [sw_u,Hf]
 have f1:es.ds.ev (.tmp t)=d:=by rw [Y3,e1,hd.live]
 cases hd with
 | nil=>
  have ha:a=0/\z=0:=by simp at hz;omega
  obtain ⟨rfl,rfl⟩:=ha
  have hh:=Tl 0 rfl
  refine ⟨Bv,.keep,?_,h⟩
  simp only [Bb,f1,Bv,Hv,hh]
  rfl
 | sl=>
  have hh:=Tl l.length rfl
  refine ⟨_,.keep,?_,h⟩
  simp only [Bb,f1,Hv,hh]
  rw [Ah ⟨by omega,by omega,by omega⟩]
  simp only [Fy];rfl
 | ms id off fl l hg hid hl hr hs=>
  have hh:=Tl l.length rfl
  refine ⟨_,.keep,?_,h⟩
  simp only [Bb,f1,Hv,hh]
  rw [Ah ⟨trivial,by omega,by omega,by omega⟩]
  simp only [Fy]
  have e2:((a:Int)<(z:Int)\/(a:Int)=0)↔(a<z\/a=0):=by omega
  unfold tW
  simp only [e2]
end
def bK{α:Type}(e T:Nat)(f:α->List DV)(e0:0<e)(hl:∀ x,(f x).length=e)(hf:∀ x,∀ c∈f x,c.refs=[]/\(c.okC=true/\c.cells=[c])/\∀ n,1<=n->Nb n c c=true):Rep α where
 e:=e
 T:=T
 dep:=1
 rd _ _ ds x:=ds=f x
 cells:=f
 e0:=e0
 d6:=by decide
 len:=λh=>by rw [h,hl]
 keep:=λh _=>h
 mono:=λh _=>h
 refs:=λ{_ _ ds x} h id hi=>by
  obtain ⟨c,hc,hi⟩:=DV.mem_refsL hi
  rw [h] at hc
  rw [(hf x c hc).1] at hi;cases hi
 pure:=λ_ _ _=>rfl
 ok:=λ{_ _ ds x} h c hc=>(hf x c (h ▸ hc)).2.1
 same:=λ{_ _ ds x} h c hc=>(hf x c (h ▸ hc)).2.2
 samec:=λx c hc=>(hf x c hc).2.2
def Qx{α:Type}(R:Rep α)(T:Nat)(hd:R.dep+1<=6:=by decide):Rep (List α) where
 e:=1
 T:=T
 dep:=R.dep+1
 rd hp p ds l:=∃ d,ds=[d]/\RL R hp p d l
 cells l:=[.sl (l.flatMap R.cells) l.length]
 e0:=Nat.one_pos
 d6:=hd
 len:=λ⟨_,h,_⟩=>by rw [h];rfl
 keep:=λ⟨d,h,h2⟩ hk=>⟨d,h,h2.keep hk⟩
 mono:=λ⟨d,h,h2⟩ hk=>⟨d,h,h2.mono hk⟩
 refs:=λ⟨d,h,h2⟩ id hi=>by
  subst h
  exact h2.refs id (by simpa [DV.refsL] using hi)
 pure:=λ_ _ l=>⟨_,rfl,.sl l⟩
 ok:=λ⟨d,h,h2⟩ c hc=>by
  subst h
  obtain rfl:=Bk.1 hc
  exact h2.ok
 same:=λ⟨d,h,h2⟩ c hc n hn=>by
  subst h
  obtain rfl:=Bk.1 hc
  exact h2.same hn
 samec:=λl c hc n hn=>by
  obtain rfl:=Bk.1 hc
  exact (RL.sl (R:=R) (hp:=.e) (p:=λ_=>True) l).same hn
def jM{α β γ:Type}(A:Rep α)(B:Rep β)(T:Nat)(f:γ->α)(g:γ->β):Rep γ where
 e:=A.e+B.e
 T:=T
 dep:=max A.dep B.dep
 rd hp p ds x:=∃ a b,ds=a++b/\A.rd hp p a (f x)/\B.rd hp p b (g x)
 cells x:=A.cells (f x)++B.cells (g x)
 e0:=by have:=A.e0;omega
 d6:=by have:=A.d6;have:=B.d6;omega
 len:=λ⟨a,b,h,h1,h2⟩=>by rw [h,Bp,A.len h1,B.len h2]
 keep:=λ⟨a,b,h,h1,h2⟩ hk=>⟨a,b,h,A.keep h1 hk,B.keep h2 hk⟩
 mono:=λ⟨a,b,h,h1,h2⟩ hk=>⟨a,b,h,A.mono h1 hk,B.mono h2 hk⟩
 refs:=λ⟨a,b,h,h1,h2⟩ id hi=>by
  subst h
  rw [Bb2] at hi
  rcases Bo.1 hi with hi | hi
  .exact A.refs h1 id hi
  .exact B.refs h2 id hi
 pure:=λhp p x=>⟨_,_,rfl,A.pure hp p _,B.pure hp p _⟩
 ok:=λ⟨a,b,h,h1,h2⟩ c hc=>by
  subst h
  rcases Bo.1 hc with hc | hc
  .exact A.ok h1 c hc
  .exact B.ok h2 c hc
 same:=λ⟨a,b,h,h1,h2⟩ c hc n hn=>by
  subst h
  rcases Bo.1 hc with hc | hc
  .exact A.same h1 c hc n (by omega)
  .exact B.same h2 c hc n (by omega)
 samec:=λx c hc n hn=>by
  rcases Bo.1 hc with hc | hc
  .exact A.samec _ c hc n (by omega)
  .exact B.samec _ c hc n (by omega)
end Go.DD

/- What values read as: integers, values, dimensions, attributes, cells, arrays. -/
namespace Go.DD
open Go
structure PVal where
 kind:Int
 n:Int
 d:Int
 s:ByteArray
 deriving DecidableEq,Inhabited
structure PDim where
 name:ByteArray
 lo:Int
 hi:Int
 deriving DecidableEq,Inhabited
structure PAttr where
 name:ByteArray
 type:Int
 deriving DecidableEq,Inhabited
structure PCell where
 pos:List Int
 vals:List PVal
 deriving DecidableEq,Inhabited
structure PArr where
 dims:List PDim
 attrs:List PAttr
 cells:List PCell
 deriving DecidableEq,Inhabited
def vc(v:PVal):List DV:=[iv v.kind,iv v.n,iv v.d,sv v.s]
def dc(x:PDim):List DV:=[sv x.name,iv x.lo,iv x.hi]
def ac(x:PAttr):List DV:=[sv x.name,iv x.type]
def fw(c:DV):Prop:=c.refs=[]/\(c.okC=true/\c.cells=[c])/\∀ n,1<=n->Nb n c c=true
theorem Wt(n:Int):fw (iv n):=⟨rfl,⟨rfl,rfl⟩,λn h=>by
 obtain ⟨n,rfl⟩:∃ k,n=k+1:=⟨n-1,by omega⟩
 simp [Nb,Pv]⟩
theorem II(b:Bool):fw (bv b):=⟨rfl,⟨rfl,rfl⟩,λn h=>by
 obtain ⟨n,rfl⟩:∃ k,n=k+1:=⟨n-1,by omega⟩
 simp [Nb,Pv]⟩
theorem oP(s:ByteArray):fw (sv s):=⟨rfl,⟨rfl,rfl⟩,λn h=>by
 obtain ⟨n,rfl⟩:∃ k,n=k+1:=⟨n-1,by omega⟩
 simp [Nb,Pv]⟩
def rInt:Rep Int:=bK 1 3 (λn=>[iv n]) (by decide) (λ_=>rfl) λx c h=>by
 obtain rfl:=Bk.1 h
 exact Wt x
def rVal:Rep PVal:=bK 4 41 vc (by decide) (λ_=>rfl) λx c h=>by
 simp only [vc,Ak,Om,or_false] at h
 rcases h with rfl | rfl | rfl | rfl
 .exact Wt _
 .exact Wt _
 .exact Wt _
 .exact oP _
def rDim:Rep PDim:=bK 3 129 dc (by decide) (λ_=>rfl) λx c h=>by
 simp only [dc,Ak,Om,or_false] at h
 rcases h with rfl | rfl | rfl
 .exact oP _
 .exact Wt _
 .exact Wt _
def rAttr:Rep PAttr:=bK 2 131 ac (by decide) (λ_=>rfl) λx c h=>by
 simp only [ac,Ak,Om,or_false] at h
 rcases h with rfl | rfl
 .exact oP _
 .exact Wt _
def oJ:Rep (List Int):=Qx rInt 36
def xX:Rep (List PVal):=Qx rVal 37
def rCell:Rep PCell:=jM oJ xX 39 PCell.pos PCell.vals
theorem Cm7{hp:Tr DObj}{p:Nat->Prop}{ds:List DV}{x:Int} : rInt.rd hp p ds x↔ds=[iv x]:=Dp
theorem Bu8{hp:Tr DObj}{p:Nat->Prop}{ds:List DV}{x:PVal} : rVal.rd hp p ds x↔ds=vc x:=Dp
theorem Cm8{hp:Tr DObj}{p:Nat->Prop}{ds:List DV}{x:PDim} : rDim.rd hp p ds x↔ds=dc x:=Dp
theorem B63{hp:Tr DObj}{p:Nat->Prop}{ds:List DV}{x:PAttr} : rAttr.rd hp p ds x↔ds=ac x:=Dp
theorem rCell_rd{hp:Tr DObj}{p:Nat->Prop}{ds:List DV}{x:PCell} : rCell.rd hp p ds x↔∃ a b,ds=[a,b]/\RL rInt hp p a x.pos/\RL rVal hp p b x.vals:=by
 constructor
 .rintro ⟨_,_,rfl,⟨a,rfl,h1⟩,⟨b,rfl,h2⟩⟩
  exact ⟨a,b,rfl,h1,h2⟩
 .rintro ⟨a,b,rfl,h1,h2⟩
  exact ⟨[a],[b],rfl,⟨a,rfl,h1⟩,⟨b,rfl,h2⟩⟩
section
variable {hp:Tr DObj} {p:Nat->Prop} {d:DV}
theorem ints_at{l:List Int}(h:RL rInt hp p d l){i:Nat}(hi:i<l.length):Hk hp none (Cf 1 d i)=some (iv l[i]):=by
 obtain ⟨ds,hr,_,h2,_⟩:=h.at hi
 rw [Cm7] at hr
 exact h2 _ (by rw [hr];rfl)
theorem BS{l:List PVal}(h:RL rVal hp p d l){i:Nat}(hi:i<l.length):Hk hp (some 4) (Cf 4 d i)=some (.agg (vc l[i])):=by
 obtain ⟨ds,hr,h1,_⟩:=h.at hi
 rw [Bu8] at hr
 rw [hr] at h1;exact h1
theorem tF{l:List PDim}(h:RL rDim hp p d l){i:Nat}(hi:i<l.length):Hk hp (some 3) (Cf 3 d i)=some (.agg (dc l[i]))/\Hk hp none (Cf 3 d i)=some (sv l[i].name)/\Hk hp none (It (Cf 3 d i) 0)=some (sv l[i].name)/\Hk hp none (It (Cf 3 d i) 1)=some (iv l[i].lo)/\Hk hp none (It (Cf 3 d i) 2)=some (iv l[i].hi):=by
 obtain ⟨ds,hr,h1,h0,h2⟩:=h.at hi
 rw [Cm8] at hr
 rw [hr] at h1
 exact ⟨h1,h0 _ (by rw [hr];rfl),h2 0 _ (by rw [hr];rfl),h2 1 _ (by rw [hr];rfl),h2 2 _ (by rw [hr];rfl)⟩
theorem J5{l:List PAttr}(h:RL rAttr hp p d l){i:Nat}(hi:i<l.length):Hk hp (some 2) (Cf 2 d i)=some (.agg (ac l[i]))/\Hk hp none (Cf 2 d i)=some (sv l[i].name)/\Hk hp none (It (Cf 2 d i) 0)=some (sv l[i].name)/\Hk hp none (It (Cf 2 d i) 1)=some (iv l[i].type):=by
 obtain ⟨ds,hr,h1,h0,h2⟩:=h.at hi
 rw [B63] at hr
 rw [hr] at h1
 exact ⟨h1,h0 _ (by rw [hr];rfl),h2 0 _ (by rw [hr];rfl),h2 1 _ (by rw [hr];rfl)⟩
theorem Ed{l:List PCell}(h:RL rCell hp p d l){i:Nat}(hi:i<l.length):∃ a b,RL rInt hp p a l[i].pos/\RL rVal hp p b l[i].vals/\Hk hp (some 2) (Cf 2 d i)=some (.agg [a,b])/\Hk hp none (Cf 2 d i)=some a/\Hk hp none (It (Cf 2 d i) 0)=some a/\Hk hp none (It (Cf 2 d i) 1)=some b:=by
 obtain ⟨ds,hr,h1,h0,h2⟩:=h.at hi
 obtain ⟨a,b,rfl,h3,h4⟩:=rCell_rd.1 hr
 exact ⟨a,b,h3,h4,h1,h0 _ rfl,h2 0 _ rfl,h2 1 _ rfl⟩
end
def Bl(n:Nat):Nat->Prop:=λj=>j<n
def Bw(n m:Nat):Nat->Prop:=λj=>n<=j/\j<m
section
variable {α:Type} {R:Rep α} {hp Ap:Tr DObj} {n n':Nat} {d:DV} {l:List α}
end
end Go.DD

/- Chapters 01 and 02 in plain Lean: which names, values, schemas, cells and arrays are valid; the order of coordinates. -/
namespace Go.DD
open Go
def lD(c:UInt8):Bool:=decide ((97:Int)<=(c.toNat:Int))&&decide ((c.toNat:Int)<=122)
def Nq(c:UInt8):Bool:=lD c||(decide ((48:Int)<=(c.toNat:Int))&&decide ((c.toNat:Int)<=57))||decide ((c.toNat:Int)=95)
def Sm:List UInt8->Bool
 | []=>false
 | c::cs=>lD c&&cs.all Nq
def Nr(s:ByteArray):Bool:=decide (s.size<=12)&&Sm s.data.toList
def QG(s:ByteArray):Bool:=s.toList==(bs []).toList
def CZ(v:PVal):Bool:=decide (v.d=0)&&QG v.s
def oO(c:UInt8):Bool:=decide ((32:Int)<=(c.toNat:Int))&&decide ((c.toNat:Int)<=126)
def Uw(s:ByteArray):Bool:=s.data.toList.all oO
def kV(v:PVal):Bool:=
 if v.kind=0 then CZ v&&(decide (1<=v.n)&&decide (v.n<=255))
 else if v.kind=1 then CZ v&&(decide (v.n=0)||decide (v.n=1))
 else if v.kind=2 then QG v.s&&(decide (1<=v.d)&&(decide (v.d<=1099511627776)&&(decide (-1099511627776<=v.n)&&(decide (v.n<=1099511627776)&&decide (Nat.gcd v.n.natAbs v.d.natAbs=1)))))
 else if v.kind=3 then decide (v.n=0)&&(decide (v.d=0)&&(decide (v.s.size<=16)&&Uw v.s))
 else false
def Zi(v:PVal)(t:Int):Bool:=
 if kV v=false\/t<1\/4<t then false
 else if v.kind=1 then decide (t=1)
 else if v.kind=2 then decide (t=3)||(decide (t=2)&&decide (v.d=1))
 else if v.kind=3 then decide (t=4)
 else true
def BR(d:PDim):Bool:=decide (-1073741824<=d.lo)&&(decide (d.lo<=1073741824)&&(decide (d.lo<=d.hi)&&decide (d.hi<=1073741825)))
def bN(s:ByteArray)(l:List ByteArray):Bool:=l.any λt=>decide (t=s)
def Zl:List ByteArray->List PDim->Int
 | _,[]=>0
 | met,x::l=>if Nr x.name=false\/bN x.name met=true then 11 else if BR x=false then 3 else Zl (met ++ [x.name]) l
def Ob(l:List PDim):Int:=if l.length<1\/4<l.length then 13 else Zl [] l
def CY:List ByteArray->List PAttr->Int
 | _,[]=>0
 | met,x::l=>if Nr x.name=false\/bN x.name met=true then 11 else if x.type<1\/4<x.type then 12 else CY (met ++ [x.name]) l
def lH(d:List PDim)(a:List PAttr):Int:=if Ob d≠0 then Ob d else if a.length<1\/6<a.length then 9 else CY (d.map PDim.name) a
def bO(d:PDim):Int:=min d.hi 1073741824
def jN:List PDim->List Int->Bool
 | d::ds,x::xs=>if x<d.lo\/bO d<x then false else jN ds xs
 | _,_=>true
def uF(d:List PDim)(x:List Int):Bool:=decide (x.length=d.length)&&jN d x
def Oa:List PVal->List PAttr->Bool
 | v::vs,a::as=>if Zi v a.type=false then false else Oa vs as
 | _,_=>true
def Gy(d:List PDim)(a:List PAttr)(c:PCell):Int:=if c.pos.length≠d.length\/c.vals.length≠a.length then 13 else if uF d c.pos=false then 3 else if Oa c.vals a=false then 12 else 0
def Mc(a b:Int):Int:=if a<b then -1 else if b<a then 1 else 0
def Cd:List Int->List Int->Int
 | [],[]=>0
 | [],_::_=>-1
 | _::_,[]=>1
 | a::l,b::m=>if Mc a b=0 then Cd l m else Mc a b
def Pq(d:List PDim)(a:List PAttr):Option PCell->List PCell->Int
 | _,[]=>0
 | none,c::l=>if Gy d a c≠0 then Gy d a c else Pq d a (some c) l
 | some b,c::l=>if Gy d a c≠0 then Gy d a c else if Cd b.pos c.pos=0 then 5 else if Cd b.pos c.pos=1 then 2 else Pq d a (some c) l
def Ff(x:PArr):Int:=if lH x.dims x.attrs≠0 then lH x.dims x.attrs else if 4096<x.cells.length then 9 else Pq x.dims x.attrs none x.cells
theorem Bo1(a b:Int):Mc a b = -1\/Mc a b=0\/Mc a b=1:=by
 unfold Mc
 split
 .exact .inl rfl
 .split
  .exact .inr (.inr rfl)
  .exact .inr (.inl rfl)
theorem cmpI_0{a b:Int} : Mc a b=0↔a=b:=by
 unfold Mc
 split
 .constructor
  .intro h;exact absurd h (by decide)
  .intro h;omega
 .split
  .constructor
   .intro h;exact absurd h (by decide)
   .intro h;omega
  .constructor
   .intro _;omega
   .intro _;rfl
theorem mZ:∀ l m:List Int,Cd l m = -1\/Cd l m=0\/Cd l m=1
 | [],[]=>.inr (.inl rfl)
 | [],_::_=>.inl rfl
 | _::_,[]=>.inr (.inr rfl)
 | a::l,b::m=>by
  unfold Cd
  split
  .exact mZ l m
  .exact Bo1 a b
theorem cmpL_0:∀ {l m:List Int},Cd l m=0↔l=m
 | [],[]=>by simp [Cd]
 | [],_::_=>by simp [Cd]
 | _::_,[]=>by simp [Cd]
 | a::l,b::m=>by
  unfold Cd
  by_cases h:Mc a b=0
  .rw [Ah h,cmpL_0,List.cons.injEq,cmpI_0.1 h];simp
  .rw [Ae h,List.cons.injEq]
   constructor
   .intro h2;exact absurd h2 h
   .intro h2;exact absurd (cmpI_0.2 h2.1) h
theorem B64(a b:Int):Mc b a = - Mc a b:=by
 unfold Mc
 by_cases h:a<b
 .rw [Ah h,Ae (by omega),Ah h];rfl
 .by_cases h2:b<a
  .rw [Ah h2,Ae h,Ah h2]
  .rw [Ae h,Ae h2,Ae h2,Ae h];rfl
theorem wJ:∀ l m:List Int,Cd m l = - Cd l m
 | [],[]=>rfl
 | [],_::_=>rfl
 | _::_,[]=>rfl
 | a::l,b::m=>by
  unfold Cd
  rw [B64 a b]
  by_cases h:Mc a b=0
  .rw [Ah h,Ah (by omega),wJ l m]
  .rw [Ae h,Ae (by omega)]
theorem Cm9{a b:Int} : Mc a b = -1↔a<b:=by
 unfold Mc
 by_cases h:a<b
 .simp [h]
 .rw [Ae h]
  constructor
  .intro h2;split at h2 <;> exact absurd h2 (by decide)
  .intro h2;exact absurd h2 h
theorem nZ:∀ {l m n:List Int},Cd l m = -1->Cd m n = -1->Cd l n = -1
 | [],[],_,h,_=>by simp [Cd] at h
 | [],_::_,[],_,h=>by simp [Cd] at h
 | [],_::_,_::_,_,_=>rfl
 | _::_,[],_,h,_=>by simp [Cd] at h
 | _::_,_::_,[],_,h=>by simp [Cd] at h
 | a::l,b::m,c::n,h1,h2=>by
  unfold Cd at h1 h2 ⊢
  by_cases e1:Mc a b=0
  .have:=cmpI_0.1 e1
   subst this
   rw [Ah e1] at h1
   by_cases e2:Mc a c=0
   .rw [Ah e2] at h2 ⊢
    exact nZ h1 h2
   .rw [Ae e2] at h2 ⊢;exact h2
  .rw [Ae e1] at h1
   by_cases e2:Mc b c=0
   .have:=cmpI_0.1 e2
    subst this
    rw [Ae e1];exact h1
   .rw [Ae e2] at h2
    have h3:Mc a c = -1:=by rw [Cm9] at h1 h2 ⊢;omega
    rw [Ae (by omega)];exact h3
end Go.DD
