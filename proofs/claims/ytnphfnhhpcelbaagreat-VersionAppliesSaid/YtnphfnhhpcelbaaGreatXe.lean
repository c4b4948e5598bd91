/- A part. -/
import Derived.Test.YtnphfnhhpcelbaaGreatXd
import Derived.IntWalk
set_option linter.unusedSectionVars false
set_option linter.unusedVariables false
namespace Go.DD
def EW (c:CE) (call:CallT) (es:ES) (Q:Exit→ES→Prop):Prop:=∃ e es',c call es=some (e,es')∧Q e es'
def SW (s:Stp) (call:CallT) (es:ES) (Q:ES→Prop):Prop:=∃ es',s call es=some es'∧Q es'
def XW (x:Option DV) (Q:DV→Prop):Prop:=∃ d,x=some d∧Q d
def thenE (next:ES→Prop) (Q:Exit→ES→Prop):Exit→ES→Prop
 | .normal,es=>next es
 | e,es=>Q e es
def blkE (id:Nat) (Q:Exit→ES→Prop):Exit→ES→Prop
 | .exit i,es=>if i=id then Q .normal es else Q (.exit i) es
 | e,es=>Q e es
theorem EW.mono {c:CE} {call:CallT} {es:ES} {Q Q':Exit→ES→Prop} (h:EW c call es Q) (hq:∀ e es,Q e es→Q' e es):EW c call es Q':=by
 obtain ⟨e,es',h1,h2⟩:=h
 exact ⟨e,es',h1,hq _ _ h2⟩
theorem EW.s {a b:CE} {call:CallT} {es:ES} {Q:Exit→ES→Prop} (h:EW a call es (thenE (fun es1=>EW b call es1 Q) Q)):EW (cS a b) call es Q:=by
 obtain ⟨e,es1,h1,h2⟩:=h
 cases e with
 | normal=>
  obtain ⟨e2,es2,h3,h4⟩:=h2
  refine ⟨e2,es2,?_,h4⟩
  unfold cS; rw [h1]; exact h3
 | _=>exact ⟨_,es1,by unfold cS; rw [h1],h2⟩
theorem EW.n {s:Stp} {call:CallT} {es:ES} {Q:Exit→ES→Prop} (h:SW s call es (Q .normal)):EW (cN s) call es Q:=by
 obtain ⟨es1,h1,h2⟩:=h
 exact ⟨_,es1,by unfold cN; rw [h1],h2⟩
theorem EW.e {e:Exit} {call:CallT} {es:ES} {Q:Exit→ES→Prop} (h:Q e es):EW (cE e) call es Q:=⟨e,es,rfl,h⟩
theorem EW.c {x:EO} {a b:CE} {call:CallT} {es:ES} {Q:Exit→ES→Prop} (t:Bool) (ht:rawE es x=.v (.bool t)) (h1:t=true→EW a call es Q) (h2:t=false→EW b call es Q):EW (cC x a b) call es Q:=by
 have e:cC x a b call es=Bool.rec (motive:=fun _=>Option (Exit×ES)) (b call es) (a call es) t:=by unfold cC; rw [ht]; rfl
 cases t with
 | true=>obtain ⟨e1,es1,h3,h4⟩:=h1 rfl; exact ⟨e1,es1,e.trans h3,h4⟩
 | false=>obtain ⟨e1,es1,h3,h4⟩:=h2 rfl; exact ⟨e1,es1,e.trans h3,h4⟩
theorem EW.b {id:Nat} {c:CE} {call:CallT} {es:ES} {Q:Exit→ES→Prop} (h:EW c call es (blkE id Q)):EW (cB id c) call es Q:=by
 obtain ⟨e,es1,h1,h2⟩:=h
 cases e with
 | exit i=>
  have e1:cB id c call es=iteB (Nat.beq i id) (some (.normal,es1)) (some (.exit i,es1)):=by unfold cB; rw [h1]
  rw [Ab2] at e1
  simp only [blkE] at h2
  by_cases hi:i=id
  ·subst hi
   rw [if_pos (Nat.beq_refl i)] at e1
   rw [if_pos rfl] at h2
   exact ⟨_,_,e1,h2⟩
  ·rw [if_neg (fun h=>hi (Nat.eq_of_beq_eq_true h))] at e1
   rw [if_neg hi] at h2
   exact ⟨_,_,e1,h2⟩
 | _=>exact ⟨_,es1,by unfold cB; rw [h1],h2⟩
theorem EW.l {c:CE} {call:CallT} {Q:Exit→ES→Prop} (I:Nat→ES→Prop) (step:∀ n es,I n es→EW c call es (thenE (fun es1=>∃ m,m < n∧I m es1) Q)):∀ (n k:Nat) (es:ES),I n es→n < k→EW (cL k c) call es Q:=by
 intro n
 induction n using Nat.strongRecOn with
 | _ n ih=>
  intro k es h hk
  cases k with
  | zero=>omega
  | succ k=>
   show EW (cS c (cL k c)) call es Q
   refine EW.s ((step n es h).mono ?_)
   intro e es1 h1
   cases e with
   | normal=>
    obtain ⟨m,hm,hI⟩:=h1
    exact ih m hm k es1 hI (by omega)
   | _=>exact h1
theorem SW.q {s k:Stp} {call:CallT} {es:ES} {Q:ES→Prop} (h:SW s call es fun es1=>SW k call es1 Q):SW (sq s k) call es Q:=by
 obtain ⟨es1,h1,es2,h2,h3⟩:=h
 exact ⟨es2,by unfold sq; rw [h1]; exact h2,h3⟩
theorem SW.z {call:CallT} {es:ES} {Q:ES→Prop} (h:Q es):SW sEnd call es Q:=⟨es,rfl,h⟩
theorem SW.m {dst:Option Pa} {x:EO} {call:CallT} {es:ES} {Q:ES→Prop} (h:Q (es.putE dst (rawE es x))):SW (sM dst x) call es Q:=⟨_,rfl,h⟩
theorem SW.x {dst:Option Pa} {x:XP} {call:CallT} {es:ES} {Q:ES→Prop} (d:DV) (hx:x es=some d) (h:Q (es.putE dst d)):SW (sX dst x) call es Q:=⟨_,by unfold sX; rw [hx],h⟩
theorem SW.call {f:Nat} {args:List EO} {dst:Option Pa} {call:CallT} {es:ES} {Q:ES→Prop} (d:DV) (hp:Tr DObj) (nx:Nat) (hc:call (.fn f) (args.map (rawE es)) es.hp es.nx=some (d,hp,nx)) (h:Q ((ES.mk es.sl hp nx).putE dst d)):SW (sCall f args dst) call es Q:=by
 refine ⟨_,?_,h⟩
 unfold sCall Ai8 evL
 rw [Am1,hc]; rfl
theorem gP_e {α:Type} (p:Pa):gP p (.e:Tr α)=none:=by cases p <;> rfl
theorem Aw4 {α:Type} : ∀ (p:Pa) (v:Option α) (t:Tr α),gP p (sP p v t)=v
 | .o,v,t=>by cases t <;> rfl
 | .l p,v,.e=>Aw4 p v .e
 | .l p,v,.n l _ _=>Aw4 p v l
 | .r p,v,.e=>Aw4 p v .e
 | .r p,v,.n _ _ r=>Aw4 p v r
theorem Ap8 {α:Type} : ∀ {p q:Pa} (v:Option α) (t:Tr α),q≠p→gP p (sP q v t)=gP p t
 | .o,.o,v,t,h=>absurd rfl h
 | .o,.l q,v,t,_=>by cases t <;> rfl
 | .o,.r q,v,t,_=>by cases t <;> rfl
 | .l p,.o,v,t,_=>by cases t <;> first | rfl | exact gP_e p
 | .l p,.r q,v,t,_=>by cases t <;> first | rfl | exact gP_e p
 | .r p,.o,v,t,_=>by cases t <;> first | rfl | exact gP_e p
 | .r p,.l q,v,t,_=>by cases t <;> first | rfl | exact gP_e p
 | .l p,.l q,v,.e,h=>show gP p (sP q v .e)=none from (Ap8 (p:=p) (q:=q) v .e fun e=>h (by rw [e])).trans (gP_e p)
 | .l p,.l q,v,.n l _ _,h=>Ap8 v l fun e=>h (by rw [e])
 | .r p,.r q,v,.e,h=>show gP p (sP q v .e)=none from (Ap8 (p:=p) (q:=q) v .e fun e=>h (by rw [e])).trans (gP_e p)
 | .r p,.r q,v,.n _ _ r,h=>Ap8 v r fun e=>h (by rw [e])
theorem Ce5 (sl:Tr DV) (hp:Tr DObj) (nx:Nat) (p:Pa) (d:DV):rawE (ES.putE ⟨sl,hp,nx⟩ (some p) d) (.t p)=d:=by
 show Option.rec (motive:=fun _=>DV) _ _ (gP p (sP p (some d) sl))=d
 rw [Aw4]
theorem A21 (es:ES) {p q:Pa} (d:DV) (h:q≠p):rawE (ES.putE es (some q) d) (.t p)=rawE es (.t p):=by
 obtain ⟨sl,hp,nx⟩:=es
 show Option.rec (motive:=fun _=>DV) _ _ (gP p (sP q (some d) sl))=Option.rec (motive:=fun _=>DV) _ _ (gP p sl)
 rw [Ap8 _ _ h]
theorem Bn7 (es:ES) (p:Pa) (d:DV):rawE (ES.putE es (some p) d) (.t p)=d:=by
 obtain ⟨sl,hp,nx⟩:=es
 exact Ce5 sl hp nx p d
theorem Bn8 (es:ES) (p:Option Pa) (d:DV):(ES.putE es p d).hp=es.hp:=by cases p <;> rfl
theorem nx_put (es:ES) (p:Option Pa) (d:DV):(ES.putE es p d).nx=es.nx:=by cases p <;> rfl
theorem Bn9 (es:ES) (hp:Tr DObj) (nx:Nat) (p:Option Pa) (d:DV):ES.putE (ES.mk es.sl hp nx) p d=ES.mk (ES.putE es p d).sl hp nx:=by cases p <;> rfl
theorem B39 (b:Bool):outV (some (.bool b))=some (.v (.bool b)):=by cases b <;> rfl
theorem Cm5 (k:IntKind) (n:Int):outV (some (.int k n))=some (.v (.int k n)):=by
 show Bl9 n (fun n=>some (DV.v (.int k n)))=_
 rw [A48]
def CW (d:DV) (A B:Prop):Prop:=∃ t,d=.v (.bool t)∧(t=true→A)∧(t=false→B)
def KW (call:CallT) (tg:Tg) (ds:List DV) (hp:Tr DObj) (nx:Nat) (K:DV→Tr DObj→Nat→Prop):Prop:=∃ d hp' nx',call tg ds hp nx=some (d,hp',nx')∧K d hp' nx'
theorem ew_s {a b:CE} {call:CallT} {es:ES} {Q:Exit→ES→Prop} : EW (cS a b) call es Q↔EW a call es (thenE (fun es1=>EW b call es1 Q) Q):=by
 refine ⟨fun ⟨e,es',h1,h2⟩=>?_,EW.s⟩
 rcases A18 h1 with ⟨es1,h3,h4⟩ | ⟨h3,hne⟩
 ·exact ⟨.normal,es1,h3,e,es',h4,h2⟩
 ·refine ⟨e,es',h3,?_⟩
  cases e <;> first | exact h2 | exact absurd rfl hne
theorem ew_n {s:Stp} {call:CallT} {es:ES} {Q:Exit→ES→Prop} : EW (cN s) call es Q↔SW s call es (Q .normal):=by
 refine ⟨fun ⟨e,es',h1,h2⟩=>?_,EW.n⟩
 obtain ⟨h3,rfl⟩:=A19 h1
 exact ⟨es',h3,h2⟩
theorem ew_e {e:Exit} {call:CallT} {es:ES} {Q:Exit→ES→Prop} : EW (cE e) call es Q↔Q e es:=by
 refine ⟨fun ⟨e',es',h1,h2⟩=>?_,EW.e⟩
 have h3:some (e,es)=some (e',es'):=h1
 cases h3; exact h2
theorem ew_c {x:EO} {a b:CE} {call:CallT} {es:ES} {Q:Exit→ES→Prop} (h:CW (rawE es x) (EW a call es Q) (EW b call es Q)):EW (cC x a b) call es Q:=by
 obtain ⟨t,h1,h2,h3⟩:=h
 exact EW.c t h1 h2 h3
theorem ew_c' {x:EO} {a b:CE} {call:CallT} {es:ES} {Q:Exit→ES→Prop} : EW (cC x a b) call es Q↔CW (rawE es x) (EW a call es Q) (EW b call es Q):=by
 refine ⟨fun ⟨e,es',h1,h2⟩=>?_,ew_c⟩
 unfold cC at h1
 obtain ⟨v,hv,h1⟩:=Ak8 h1
 cases v with
 | bool t=>
  refine ⟨t,hv,fun ht=>?_,fun ht=>?_⟩
  ·subst ht; exact ⟨e,es',h1,h2⟩
  ·subst ht; exact ⟨e,es',h1,h2⟩
 | _=>cases h1
theorem ew_b {id:Nat} {c:CE} {call:CallT} {es:ES} {Q:Exit→ES→Prop} : EW (cB id c) call es Q↔EW c call es (blkE id Q):=by
 refine ⟨fun ⟨e,es',h1,h2⟩=>?_,EW.b⟩
 obtain ⟨⟨e1,es1⟩,h3,h4⟩:=optR h1
 refine ⟨e1,es1,h3,?_⟩
 cases e1 with
 | exit i=>
  have h5:iteB (Nat.beq i id) (some (Exit.normal,es1)) (some (Exit.exit i,es1))=some (e,es'):=h4
  rw [Ab2] at h5
  simp only [blkE]
  split at h5
  ·rename_i hb
   cases h5
   rw [if_pos (Nat.eq_of_beq_eq_true hb)]; exact h2
  ·rename_i hb
   cases h5
   rw [if_neg (fun e=>hb (by rw [e]; exact Nat.beq_refl id))]; exact h2
 | _=>cases h4; exact h2
theorem sw_q {s k:Stp} {call:CallT} {es:ES} {Q:ES→Prop} : SW (sq s k) call es Q↔SW s call es fun es1=>SW k call es1 Q:=by
 refine ⟨fun ⟨es',h1,h2⟩=>?_,SW.q⟩
 obtain ⟨es1,h3,h4⟩:=optR h1
 exact ⟨es1,h3,es',h4,h2⟩
theorem sw_z {call:CallT} {es:ES} {Q:ES→Prop} : SW sEnd call es Q↔Q es:=by
 refine ⟨fun ⟨es',h1,h2⟩=>?_,SW.z⟩
 have h3:some es=some es':=h1
 cases h3; exact h2
theorem sw_lc {s:Stp} {l:List Stp} {call:CallT} {es:ES} {Q:ES→Prop} : SW (sL (s :: l)) call es Q↔SW s call es fun es1=>SW (sL l) call es1 Q:=sw_q
theorem sw_ln {call:CallT} {es:ES} {Q:ES→Prop} : SW (sL []) call es Q↔Q es:=sw_z
theorem ew_t {l:List Stp} {c:CE} {call:CallT} {es:ES} {Q:Exit→ES→Prop} : EW (cT l c) call es Q↔SW (sL l) call es fun es1=>EW c call es1 Q:=ew_s.trans ew_n
theorem sw_m {dst:Option Pa} {x:EO} {call:CallT} {es:ES} {Q:ES→Prop} : SW (sM dst x) call es Q↔Q (es.putE dst (rawE es x)):=by
 refine ⟨fun ⟨es',h1,h2⟩=>?_,SW.m⟩
 have h3:some (es.putE dst (rawE es x))=some es':=h1
 cases h3; exact h2
theorem sw_x {dst:Option Pa} {x:XP} {call:CallT} {es:ES} {Q:ES→Prop} : SW (sX dst x) call es Q↔XW (x es) fun d=>Q (es.putE dst d):=by
 refine ⟨fun ⟨es',h1,h2⟩=>?_,fun ⟨d,h1,h2⟩=>SW.x d h1 h2⟩
 obtain ⟨d,h3,h4⟩:=optR h1
 have h5:some (es.putE dst d)=some es':=h4
 cases h5
 exact ⟨d,h3,h2⟩
theorem A22 {d:DV} {Q:DV→Prop} : XW (some d) Q↔Q d:=⟨fun ⟨d',h1,h2⟩=>(by cases h1; exact h2),fun h=>⟨d,rfl,h⟩⟩
theorem sw_call {f:Nat} {args:List EO} {dst:Option Pa} {call:CallT} {es:ES} {Q:ES→Prop} : SW (sCall f args dst) call es Q↔KW call (.fn f) (args.map (rawE es)) es.hp es.nx fun d hp nx=>Q ((ES.mk es.sl hp nx).putE dst d):=by
 have e:sCall f args dst call es=Ai8 (.fn f) (args.map (rawE es)) dst call es:=by unfold sCall evL; rw [Am1]
 constructor
 ·rintro ⟨es',h1,h2⟩
  rw [e] at h1
  obtain ⟨⟨d,hp,nx⟩,h3,h4⟩:=optR h1
  have h5:some ((ES.mk es.sl hp nx).putE dst d)=some es':=h4
  cases h5
  exact ⟨d,hp,nx,h3,h2⟩
 ·rintro ⟨d,hp,nx,h1,h2⟩
  exact SW.call d hp nx h1 h2
theorem cw_b {t:Bool} {A B:Prop} : CW (.v (.bool t)) A B↔(t=true→A)∧(t=false→B):=⟨fun ⟨_,h1,h2⟩=>(by cases h1; exact h2),fun h=>⟨t,rfl,h⟩⟩
def binD (op:BinOp) (a b:DV):Option DV:=(binV op a b).map .v
theorem x_bin (op:BinOp) (x y:EO) (es:ES):xBin op x y es=binD op (rawE es x) (rawE es y):=by
 cases hx:rawE es x with
 | v a=>
  cases hy:rawE es y with
  | v b=>
   cases a with
   | int k m=>
    cases b with
    | int k' n=>
     have e:xBin op x y es=outV (iteB (isSh op) (shI op k m n) (iteB (Nat.beq k.ctorIdx k'.ctorIdx) (binI op k m n) none)):=by unfold xBin; rw [hx,hy]; rfl
     rw [e,Ab2,Ab2]
     have hk:(Nat.beq k.ctorIdx k'.ctorIdx=true)↔k=k':=by cases k <;> cases k' <;> simp [IntKind.ctorIdx]
     have hout:∀ v:Option Value,(∀ w,v=some w→(∃ t,w=.bool t)∨∃ k n,w=.int k n)→outV v=v.map DV.v:=by
      intro v hv
      cases v with
      | none=>rfl
      | some w=>
       rcases hv w rfl with ⟨t,rfl⟩ | ⟨k,n,rfl⟩
       ·exact B39 t
       ·exact Cm5 k n
     have hsh:∀ w,shI op k m n=some w→(∃ t,w=.bool t)∨∃ k n,w=.int k n:=by
      intro w hw
      unfold shI at hw
      split at hw
      ·cases hw
      ·split at hw <;> first | (cases hw; exact .inr ⟨_,_,rfl⟩) | cases hw
     have hbi:∀ w,binI op k m n=some w→(∃ t,w=.bool t)∨∃ k n,w=.int k n:=by
      intro w hw
      unfold binI at hw
      split at hw <;> first | (cases hw; exact .inr ⟨_,_,rfl⟩) | (cases hw; exact .inl ⟨_,rfl⟩) | (split at hw <;> first | (cases hw; exact .inr ⟨_,_,rfl⟩) | cases hw) | cases hw
     simp only [binD,binV]
     split
     ·exact hout _ hsh
     ·by_cases h:k=k'
      ·rw [if_pos (hk.2 h),if_pos h]; exact hout _ hbi
      ·rw [if_neg (fun h'=>h (hk.1 h')),if_neg h]; rfl
    | _=>unfold xBin; rw [hx,hy]; rfl
   | string m=>
    cases b with
    | string n=>
     have e:xBin op x y es=outV (binS op m n):=by unfold xBin; rw [hx,hy]; rfl
     rw [e]
     simp only [binD,binV]
     have hbs:∀ w,binS op m n=some w→(∃ t,w=.bool t)∨∃ s,w=.string s:=by
      intro w hw
      unfold binS at hw
      split at hw <;> first | (cases hw; exact .inl ⟨_,rfl⟩) | (split at hw <;> first | (cases hw; exact .inr ⟨_,rfl⟩) | cases hw) | cases hw
     cases hv:binS op m n with
     | none=>rfl
     | some w=>
      rcases hbs w hv with ⟨t,rfl⟩ | ⟨s,rfl⟩
      ·exact B39 t
      ·rfl
    | _=>unfold xBin; rw [hx,hy]; rfl
   | _=>unfold xBin; rw [hx,hy]; rfl
  | _=>unfold xBin; rw [hx,hy]; cases a <;> rfl
 | _=>unfold xBin; rw [hx]; rfl
theorem wrap_in {n:Int} (h : -9223372036854775808≤n∧n≤9223372036854775807):IntKind.i64.wrap n=n:=IntWalk.i64_in n h
theorem b_lss (k:IntKind) (a b:Int):binD .lss (.v (.int k a)) (.v (.int k b))=some (.v (.bool (decide (a < b)))):=by simp [binD,binV,isSh,binI]
theorem b_gtr (k:IntKind) (a b:Int):binD .gtr (.v (.int k a)) (.v (.int k b))=some (.v (.bool (decide (a > b)))):=by simp [binD,binV,isSh,binI]
theorem b_leq (k:IntKind) (a b:Int):binD .leq (.v (.int k a)) (.v (.int k b))=some (.v (.bool (decide (a≤b)))):=by simp [binD,binV,isSh,binI]
theorem b_geq (k:IntKind) (a b:Int):binD .geq (.v (.int k a)) (.v (.int k b))=some (.v (.bool (decide (a≥b)))):=by simp [binD,binV,isSh,binI]
theorem b_eql (k:IntKind) (a b:Int):binD .eql (.v (.int k a)) (.v (.int k b))=some (.v (.bool (a == b))):=by simp [binD,binV,isSh,binI]
theorem b_neq (k:IntKind) (a b:Int):binD .neq (.v (.int k a)) (.v (.int k b))=some (.v (.bool (a != b))):=by simp [binD,binV,isSh,binI]
theorem b_add (k:IntKind) (a b:Int):binD .add (.v (.int k a)) (.v (.int k b))=some (.v (.int k (k.wrap (a+b)))):=by simp [binD,binV,isSh,binI]
theorem b_sub (k:IntKind) (a b:Int):binD .sub (.v (.int k a)) (.v (.int k b))=some (.v (.int k (k.wrap (a - b)))):=by simp [binD,binV,isSh,binI]
theorem b_mul (k:IntKind) (a b:Int):binD .mul (.v (.int k a)) (.v (.int k b))=some (.v (.int k (k.wrap (a*b)))):=by simp [binD,binV,isSh,binI]
end Go.DD

/- Contracts in the evaluator's terms. -/
namespace Go.DD
theorem Cm6 {es:ES} {p:Pa} {d:DV} (h:rawE es (.t p)=d) (hr:d.refs=[]):evE es (.t p)=d:=by
 have e:evE es (.t p)=liveE es.hp (rawE es (.t p)):=rfl
 rw [e,h]
 unfold liveE
 rw [Ak7,hr]
 rfl
theorem fin1 {es:ES} {t:Nat} {d:DV} (h:rawE es (.t (pth t))=d) (hr:d.refs=[]):finE [(t,none)] es=some (d,es.hp,es.nx):=by
 have e:resE es (t,none)=some d:=congrArg some (Cm6 h hr)
 unfold finE
 simp only [List.mapM_cons,List.mapM_nil,e,Option.pure_def,Option.bind_eq_bind,Option.bind_some,resVE]
structure Al (hp:Tr DObj) (nx:Nat) (hp':Tr DObj) (nx':Nat):Prop where
 le:nx≤nx'
 same:∀ id,id < nx→hp'.get id=hp.get id
theorem Al.refl (hp:Tr DObj) (nx:Nat):Al hp nx hp nx:=⟨Nat.le_refl _,fun _ _=>rfl⟩
theorem Al.trans {h1 h2 h3:Tr DObj} {n1 n2 n3:Nat} (a:Al h1 n1 h2 n2) (b:Al h2 n2 h3 n3):Al h1 n1 h3 n3:=
 ⟨Nat.le_trans a.le b.le,fun id h=>by rw [b.same id (by have:=a.le; omega),a.same id h]⟩
def Ent (es:ES) (args:List DV):Prop:=∀ i d,args[i]?=some d→rawE es (.t (pth i))=d
theorem Bo0 (args:List DV) (hp:Tr DObj) (nx:Nat):Ent ⟨argT args,hp,nx⟩ args:=fun i d h=>by
 have e:rawE ⟨argT args,hp,nx⟩ (.t (pth i))=argF args i:=by
  rw [Bm5]
  exact Bd0 args i
 rw [e]
 simp [argF,h]
end Go.DD

/- The evaluator, read with symbols: regions that draw their order. -/
namespace Go.DD
def TW (s:DStp) (call:CallT) (n0 m:Nat) (δ:DSt) (Q:DSt→Prop):Prop:=∃ δ',s call n0 m δ=some δ'∧Q δ'
theorem B40 {m:Nat} {s:DStp} {call:CallT} {es:ES} {Q:ES→Prop} : SW (regE m s) call es Q↔TW s call es.nx m ⟨⟨es.sl,es.hp,es.nx+m⟩,[],[],[]⟩ fun d=>Ag3 es.nx m d.ws d.ps=true∧Q d.es:=by
 have e:regE m s call es=Option.rec (motive:=fun _=>Option ES) none (fun d=>iteB (Ag3 es.nx m d.ws d.ps) (some d.es) none) (s call es.nx m ⟨⟨es.sl,es.hp,es.nx+m⟩,[],[],[]⟩):=by
  unfold regE; rw [cs_eq,Ab4]
 constructor
 ·rintro ⟨es',h1,h2⟩
  rw [e] at h1
  obtain ⟨d,h3,h4⟩:=optR h1
  obtain ⟨h5,h6⟩:=Ab8 h4
  cases h6
  exact ⟨d,h3,h5,h2⟩
 ·rintro ⟨d,h1,h2,h3⟩
  exact ⟨d.es,by rw [e,h1]; show iteB _ _ _=_; rw [h2]; rfl,h3⟩
theorem tw_q {s k:DStp} {call:CallT} {n0 m:Nat} {δ:DSt} {Q:DSt→Prop} : TW (dq s k) call n0 m δ Q↔TW s call n0 m δ fun δ'=>TW k call n0 m δ' Q:=by
 constructor
 ·rintro ⟨δ',h1,h2⟩
  obtain ⟨δ1,h3,h4⟩:=optR h1
  exact ⟨δ1,h3,δ',h4,h2⟩
 ·rintro ⟨δ1,h1,δ',h2,h3⟩
  exact ⟨δ',by unfold dq; rw [h1]; exact h2,h3⟩
theorem tw_z {call:CallT} {n0 m:Nat} {δ:DSt} {Q:DSt→Prop} : TW dEnd call n0 m δ Q↔Q δ:=by
 constructor
 ·rintro ⟨δ',h1,h2⟩
  have h3:some δ=some δ':=h1
  cases h3; exact h2
 ·exact fun h=>⟨δ,rfl,h⟩
theorem tw_lc {s:DStp} {l:List DStp} {call:CallT} {n0 m:Nat} {δ:DSt} {Q:DSt→Prop} : TW (dL (s :: l)) call n0 m δ Q↔TW s call n0 m δ fun δ'=>TW (dL l) call n0 m δ' Q:=tw_q
theorem tw_ln {call:CallT} {n0 m:Nat} {δ:DSt} {Q:DSt→Prop} : TW (dL []) call n0 m δ Q↔Q δ:=tw_z
theorem B41 {an:List Nat} {ps:List Pa} {s:DStp} {call:CallT} {n0 m:Nat} {δ:DSt} {Q:DSt→Prop} : TW (dChk an ps s) call n0 m δ Q↔allL (refsL δ.es ps) (fun id=>okRef n0 m an δ.es.hp id)=true∧TW s call n0 m δ Q:=by
 constructor
 ·rintro ⟨δ',h1,h2⟩
  obtain ⟨h3,h4⟩:=Ab8 (show iteB _ _ _=_ from h1)
  exact ⟨h3,δ',h4,h2⟩
 ·rintro ⟨h1,δ',h2,h3⟩
  exact ⟨δ',by unfold dChk; rw [h1]; exact h2,h3⟩
theorem tw_dx {an:List Nat} {ps:List Pa} {i:Nat} {dst:Option Pa} {x:XP} {call:CallT} {n0 m:Nat} {δ:DSt} {Q:DSt→Prop} : TW (dX an ps i dst x) call n0 m δ Q↔TW (dChk an ps (dRead i an false false dst (fun _=>x) ps)) call n0 m δ Q:=Iff.rfl
theorem tw_dy {an:List Nat} {ps:List Pa} {i:Nat} {dst:Option Pa} {x:XP} {call:CallT} {n0 m:Nat} {δ:DSt} {Q:DSt→Prop} : TW (dY an ps i dst x) call n0 m δ Q↔TW (dChk an ps (dRead i an false true dst (fun _=>x) ps)) call n0 m δ Q:=Iff.rfl
theorem tw_dp {an:List Nat} {i:Nat} {dst:Option Pa} {p:Pa} {call:CallT} {n0 m:Nat} {δ:DSt} {Q:DSt→Prop} : TW (dP an i dst p) call n0 m δ Q↔TW (dChk an [p] (dRead i an false false dst (fun _ es=>some (rawE es (.t p))) [p])) call n0 m δ Q:=Iff.rfl
theorem Bo1 {i:Nat} {an:List Nat} {wide c:Bool} {dst:Option Pa} {x:Nat→XP} {ps:List Pa} {call:CallT} {n0 m:Nat} {es:ES} {lo:List Nat} {ws:List Look} {pp:List Past} {Q:DSt→Prop} :
  TW (dRead i an wide c dst x ps) call n0 m ⟨es,lo,ws,pp⟩ Q↔XW (x (n0+i) es) fun v=>Q ⟨es.putE dst v,lo,lookE i an wide c (refsL es ps) n0 lo ws,pp⟩:=by
 constructor
 ·rintro ⟨δ',h1,h2⟩
  obtain ⟨v,h3,h4⟩:=optR h1
  have h5:some (⟨es.putE dst v,lo,lookE i an wide c (refsL es ps) n0 lo ws,pp⟩:DSt)=some δ':=h4
  cases h5
  exact ⟨v,h3,h2⟩
 ·rintro ⟨v,h1,h2⟩
  have e:dRead i an wide c dst x ps call n0 m ⟨es,lo,ws,pp⟩=Option.rec (motive:=fun _=>Option DSt) none (fun v=>some ⟨es.putE dst v,lo,lookE i an wide c (refsL es ps) n0 lo ws,pp⟩) (x (n0+i) es):=rfl
  exact ⟨_,by rw [e,h1],h2⟩
theorem B42 (i:Nat) (c:Bool) (an refs lo:List Nat) (n0:Nat) (ws:List Look):lookE i an false c refs n0 lo ws=ws:=rfl
theorem Aw5 (n0 m:Nat) (ps:List Past):Ag3 n0 m [] ps=true:=rfl
theorem Bd6 (es:ES):refsL es []=[]:=rfl
theorem Ab6 {hp:Tr DObj} {d:DV} (h:d.refs=[]):liveE hp d=d:=by
 unfold liveE; rw [Ak7,h]; rfl
theorem Ao3 (es:ES) (t:Nat):es.ds.ev (.tmp t)=liveE es.hp (rawE es (.t (pth t))):=(Am0 es (.tmp t)).symm
theorem B43 (cs:List DV) (n:Nat):(DV.sl cs n).refs=[]:=rfl
theorem B44 (v:Value):(DV.v v).refs=[]:=rfl
theorem B45 (cs:List DV):(DV.ia cs).refs=[]:=rfl
def eqsD (neg:Bool) (ks:List Nat):DV→DV→Option DV
 | .agg xs,.agg ys=>(eqL ks xs ys).map fun b=>.v (.bool (xor neg b))
 | _,_=>none
end Go.DD

/- Lists of records, as their cells lie. -/
namespace Go.DD
end Go.DD

/- The evaluator, read with symbols: guards, choices, parts of tuples; contracts without a heap. -/
namespace Go.DD
def GW (d:DV) (b:Bool) (A B:Prop):Prop:=(∃ c,d=.v (.bool c)∧(c=b→A)∧(c≠b→B))∨(∃ vs,d=.v (.tuple vs)∧B)
theorem sw_g {p:Pa} {b:Bool} {dst:Option Pa} {s:Stp} {call:CallT} {es:ES} {Q:ES→Prop} : GW (rawE es (.t p)) b (SW s call es Q) (Q (es.putE dst (.v undef)))→SW (sG p b dst s) call es Q:=by
 rintro (⟨c,h1,h2,h3⟩ | ⟨vs,h1,h2⟩)
 ·have hw:wantE es p b=some (c == b):=by unfold wantE; rw [h1]; rfl
  unfold SW sG
  rw [hw]
  by_cases hc:c=b
  ·obtain ⟨es',h4,h5⟩:=h2 hc
   refine ⟨es',?_,h5⟩
   subst hc
   simp only [beq_self_eq_true]
   exact h4
  ·refine ⟨_,?_,h3 hc⟩
   have:(c == b)=false:=by simpa using hc
   rw [this]
 ·have hw:wantE es p b=some false:=by unfold wantE; rw [h1]; rfl
  exact ⟨_,by unfold sG; rw [hw],h2⟩
theorem sw_g' {p:Pa} {b:Bool} {dst:Option Pa} {s:Stp} {call:CallT} {es:ES} {Q:ES→Prop} : SW (sG p b dst s) call es Q↔GW (rawE es (.t p)) b (SW s call es Q) (Q (es.putE dst (.v undef))):=by
 refine ⟨?_,sw_g⟩
 rintro ⟨es',h1,h2⟩
 unfold sG at h1
 obtain ⟨c,h3,h4⟩:=optR h1
 unfold wantE at h3
 obtain ⟨v,hv,h3⟩:=Ak8 h3
 cases v with
 | bool t=>
  refine .inl ⟨t,hv,fun e=>?_,fun e=>?_⟩
  ·have h5:some (t == b)=some c:=h3
   cases h5
   subst e
   simp only [beq_self_eq_true] at h4
   exact ⟨es',h4,h2⟩
  ·have h5:some (t == b)=some c:=h3
   cases h5
   have:(t == b)=false:=by simpa using e
   rw [this] at h4
   cases h4
   exact h2
 | tuple vs=>
  refine .inr ⟨vs,hv,?_⟩
  have h5:some false=some c:=h3
  cases h5
  cases h4
  exact h2
 | _=>cases h3
theorem gw_b {c b:Bool} {A B:Prop} : GW (.v (.bool c)) b A B↔(c=b→A)∧(c≠b→B):=by
 constructor
 ·rintro (⟨c',h1,h2⟩ | ⟨vs,h1,_⟩)
  ·cases h1; exact h2
  ·cases h1
 ·exact fun h=>.inl ⟨c,rfl,h⟩
theorem gw_u {b:Bool} {A B:Prop} : GW (.v undef) b A B↔B:=by
 constructor
 ·rintro (⟨c',h1,h2⟩ | ⟨vs,_,h⟩)
  ·cases h1
  ·exact h
 ·exact fun h=>.inr ⟨_,rfl,h⟩
def pickD (c x y:DV):Option DV:=match c with
 | .v (.bool t)=>some (if t then x else y)
 | _=>none
theorem B46 (c x y:EO) (es:ES):xPick c x y es=pickD (rawE es c) (rawE es x) (rawE es y):=by
 unfold xPick
 cases rawE es c with
 | v a=>cases a <;> first | rfl | (rename_i t; cases t <;> rfl)
 | _=>rfl
theorem B47 (t:Bool) (x y:DV):pickD (.v (.bool t)) x y=some (if t then x else y):=rfl
def unD (op:UnOp) (x:DV):Option DV:=match x with
 | .v v=>(unV op (.v v)).map .v
 | _=>none
theorem x_un (op:UnOp) (x:EO) (es:ES):xUn op x es=unD op (rawE es x):=by
 unfold xUn
 cases rawE es x with
 | v a=>
  show outV _=_
  rw [A13]; rfl
 | _=>rfl
noncomputable def callG (rel:Nat→List DV→Option DV):CallT:=fun tg ds hp nx=>match tg with
 | .fn f=>match rel f ds with
  | some d=>some (d,hp,nx)
  | none=>none
 | .yl _=>none
theorem Bd7 {P:Program} {rel:Nat→List DV→Option DV} (h:∀ f ds d,rel f ds=some d→Known P f ds d):Ad9 P (callG rel):=by
 intro tg ds hp nx d hp' nx' hc _
 cases tg with
 | yl id=>cases hc
 | fn f=>
  have hc':(match rel f ds with
   | some d=>some (d,hp,nx)
   | none=>none)=some (d,hp',nx'):=hc
  split at hc'
  ·rename_i d0 hd
   cases hc'
   obtain ⟨k1,k2,k3⟩:=h f ds d hd
   exact ⟨Nat.le_refl _,fun id h2 h3=>absurd h2 h3,k1,fun sv K hK=>.inr ⟨_,k2,k3,hK⟩⟩
  ·cases hc'
theorem Known.of {P:Program} (hm:P.follows .mixedOrders=true) {tb:Nat→Option FE} {n':Nat} (htb:TbOK P n' tb) {f:Nat} {fe:FE} {args:List DV} {r:DV} {call:CallT} (hc:Ad9 P call) (hf:tb f=some fe) (hn:args.length≤fe.nt) (hr:∀ x∈args,x.refs=[])
  (h:EW fe.run call ⟨argT args,.e,0⟩ fun e es=>(e=.normal∨e=.ret)∧∃ d,finE fe.res es=some (d,es.hp,es.nx)∧rz es.hp.get 6 d=some r):Known P f args r:=by
 obtain ⟨e,es,h1,h2,d,h3,h4⟩:=h
 have hs:stepC tb 0 call (.fn f) args .e 0=some (d,es.hp,es.nx):=by
  show (match tb f with
   | some fe=>if args.length≤fe.nt then match fe.run call ⟨argT args,.e,0⟩ with
     | some (.normal,es)=>finE fe.res es
     | some (.ret,es)=>finE fe.res es
     | _=>none
    else none
   | none=>none)=some (d,es.hp,es.nx)
  rw [hf]
  simp only
  rw [if_pos hn,h1]
  rcases h2 with rfl | rfl
  ·exact h3
  ·exact h3
 obtain ⟨_,_,hcb,hI⟩:=At3 hm htb hc _ _ _ _ _ _ _ hs (fun id _=>by cases id <;> rfl)
 refine ⟨hcb,hr,DCall.of_callC (sv:=fun _=>.any) ?_⟩
 have:=hI (fun _=>.any) (fun s d=>∃ r',rz s.ho 6 d=some r'∧r'=r) ⟨r,h4,rfl⟩
 have e:(Tr.e:Tr DObj).get=fun _=>none:=by funext id; cases id <;> rfl
 rw [e] at this
 exact this
theorem Ce6 {ho:Nat→Option DObj} {n:Nat} {d:DV} (h:d.flat=true):rz ho (n+1) d=some d:=by
 cases d <;> first | rfl | (simp [DV.flat] at h)
theorem Known.run1 {P:Program} (hm:P.follows .mixedOrders=true) {tb:Nat→Option FE} {n':Nat} (htb:TbOK P n' tb) {f t:Nat} {c:CE} {nt:Nat} {args:List DV} {r:DV} {call:CallT} (hc:Ad9 P call) (hf:tb f=some ⟨c,[(t,none)],nt⟩) (hn:args.length≤nt) (hr:∀ x∈args,x.refs=[]) (hrr:r.refs=[]) (hz:∀ ho,rz ho 6 r=some r)
  (h:∀ es,Ent es args→EW c call es fun e es'=>(e=.normal∨e=.ret)∧rawE es' (.t (pth t))=r):Known P f args r:=
 Known.of hm htb hc hf hn hr ((h _ (Bo0 args .e 0)).mono fun _ _ ⟨h1,h2⟩=>⟨h1,r,fin1 h2 hrr,hz _⟩)
end Go.DD

/- The evaluator, read with symbols: steps that lay or write; loops counted upwards; contracts by families. -/
namespace Go.DD
open Go
theorem EW.up {c:CE} {call:CallT} {Q:Exit→ES→Prop} (n:Nat) (St:Nat→ES→Prop) (step:∀ i es,i≤n→St i es→EW c call es (thenE (fun es1=>i < n∧St (i+1) es1) Q)) {k:Nat} {es:ES} (h0:St 0 es) (hk:n < k):EW (cL k c) call es Q:=
 EW.l (I:=fun m es=>∃ i,m=n - i∧i≤n∧St i es) (by
  rintro m es ⟨i,rfl,hi,hs⟩
  refine (step i es hi hs).mono fun e es1 h=>?_
  cases e with
  | normal=>obtain ⟨hlt,hs1⟩:=h; exact ⟨n - (i+1),by omega,i+1,rfl,by omega,hs1⟩
  | _=>exact h) n k es ⟨0,rfl,by omega,h0⟩ hk
def UW (x:Option (DV×Upd)) (K:DV→Upd→Prop):Prop:=∃ d u,x=some (d,u)∧K d u
theorem Am7 {d:DV} {u:Upd} {K:DV→Upd→Prop} : UW (some (d,u)) K↔K d u:=⟨fun ⟨_,_,h1,h2⟩=>(by cases h1; exact h2),fun h=>⟨d,u,rfl,h⟩⟩
noncomputable def ES.up (es:ES) (u:Upd):ES:=⟨es.sl,updE es.hp es.nx u,if u.new then es.nx+1 else es.nx⟩
theorem Al5 (es:ES) (o:DObj):es.up (.lay o)=⟨es.sl,setN es.hp es.nx (some o),es.nx+1⟩:=rfl
theorem up_wr (es:ES) (id:Nat) (o:DObj):es.up (.wr id o)=⟨es.sl,setN es.hp id (some o),es.nx⟩:=rfl
theorem B48 (es:ES) (o:DObj):es.up (.mv none o)=⟨es.sl,setN es.hp es.nx (some o),es.nx+1⟩:=rfl
theorem B49 (es:ES) (i:Nat) (o:DObj):es.up (.mv (some i) o)=⟨es.sl,setN (setN es.hp i none) es.nx (some o),es.nx+1⟩:=rfl
theorem sw_u {dst:Option Pa} {x:XU} {call:CallT} {es:ES} {Q:ES→Prop} : SW (sU dst x) call es Q↔UW (x es es.nx) fun d u=>Q ((es.up u).putE dst d):=by
 have key:∀ d u,x es es.nx=some (d,u)→sU dst x call es=some ((es.up u).putE dst d):=by
  intro d u h
  unfold sU
  rw [h]
  show es.cs (fun sl hp nx=>iteB u.new (Af5 (nx+1) fun n=>some ((ES.mk sl (updE hp nx u) n).putE dst d)) (some ((ES.mk sl (updE hp nx u) nx).putE dst d)))=_
  rw [cs_eq,Ab4,Ab2]
  unfold ES.up
  cases u.new <;> rfl
 constructor
 ·rintro ⟨es',h1,h2⟩
  cases hx:x es es.nx with
  | none=>
   have:sU dst x call es=none:=by unfold sU; rw [hx]
   rw [this] at h1; cases h1
  | some p=>
   obtain ⟨d,u⟩:=p
   rw [key d u hx] at h1
   cases h1
   exact ⟨d,u,rfl,h2⟩
 ·rintro ⟨d,u,h1,h2⟩
  exact ⟨_,key d u h1,h2⟩
theorem x_any (o:DOp) (es:ES) (nid:Nat):xAny o es nid=execU nid es.ds o:=rfl
theorem get_set (t:Tr DObj) (k j:Nat) (v:Option DObj):(setN t k v).get j=if j=k then v else t.get j:=by rw [As8]
theorem Aj0 (hp:Tr DObj) (v:Value):liveE hp (.v v)=.v v:=Ab6 rfl
theorem Bo2 (hp:Tr DObj) (cs:List DV) (n:Nat):liveE hp (.sl cs n)=.sl cs n:=Ab6 rfl
theorem Bo3 (hp:Tr DObj) (cs:List DV):liveE hp (.ia cs)=.ia cs:=Ab6 rfl
theorem Ah8 {hp:Tr DObj} {d:DV} (h:∀ id∈d.refs,(hp.get id).isSome=true):liveE hp d=d:=by
 unfold liveE
 rw [Ak7,Aw0,Ab2,if_pos]
 rw [List.all_eq_true]
 intro id hi
 rw [Af6,gN_eq]
 exact h id hi
theorem Ah4 {hp:Tr DObj} {id off n es:Nat} {o:DObj} (h:hp.get id=some o):liveE hp (.ms id off n es)=.ms id off n es:=Ah8 fun i hi=>by
 have:i=id:=by simpa [DV.refs] using hi
 rw [this,h]; rfl
theorem Aq9 {hp:Tr DObj} {id off:Nat} {o:DObj} (h:hp.get id=some o):liveE hp (.pt id off)=.pt id off:=Ah8 fun i hi=>by
 have:i=id:=by simpa [DV.refs] using hi
 rw [this,h]; rfl
theorem Ce7 {hp:Tr DObj} {id:Nat} {o:DObj} (h:hp.get id=some o):liveE hp (.mp id)=.mp id:=Ah8 fun i hi=>by
 have:i=id:=by simpa [DV.refs] using hi
 rw [this,h]; rfl
def lnsD:DV→Option DV
 | .v (.string b)=>some (.v (.int .i64 b.size))
 | _=>none
def ixsD:DV→DV→Option DV
 | .v (.string b),.v (.int _ j)=>if 0≤j then (b[j.toNat]?).map fun c=>.v (.int .u8 (c.toNat:Int)) else none
 | _,_=>none
def keepU (x:Option DV):Option (DV×Upd):=x.map fun d=>(d,.keep)
theorem Bo4 {d:DV} {K:DV→Upd→Prop} : UW (keepU (some d)) K↔K d .keep:=Am7
theorem x_lns {t:Nat} {es:ES} {nid:Nat} : xAny (.lns (.tmp t)) es nid=keepU (lnsD (liveE es.hp (rawE es (.t (pth t))))):=by
 rw [x_any,← Ao3]
 simp only [execU]
 cases es.ds.ev (.tmp t) with
 | v x=>cases x <;> rfl
 | _=>rfl
theorem x_ixs {t u:Nat} {es:ES} {nid:Nat} : xAny (.ixs (.tmp t) (.tmp u)) es nid=keepU (ixsD (liveE es.hp (rawE es (.t (pth t)))) (liveE es.hp (rawE es (.t (pth u))))):=by
 rw [x_any,← Ao3,← Ao3]
 simp only [execU]
 cases es.ds.ev (.tmp t) with
 | v x=>cases x <;> cases es.ds.ev (.tmp u) with
  | v y=>cases y <;> first | rfl | (simp only [intD,ixsD,keepU]; split <;> first | rfl | (cases ByteArray.get? _ _ <;> rfl) | (simp only [Option.map_map]; rfl))
  | _=>rfl
 | _=>cases es.ds.ev (.tmp u) with
  | v y=>cases y <;> rfl
  | _=>rfl
def s2bD:DV→Option DV
 | .v (.string b)=>some (.sl (b.data.toList.map fun c=>.v (.int .u8 (c.toNat:Int))) b.size)
 | _=>none
theorem x_s2b {t:Nat} {es:ES} {nid:Nat} : xAny (.s2b (.tmp t)) es nid=keepU (s2bD (liveE es.hp (rawE es (.t (pth t))))):=by
 rw [x_any,← Ao3]
 simp only [execU]
 cases es.ds.ev (.tmp t) with
 | v x=>cases x <;> rfl
 | _=>rfl
end Go.DD

/- The evaluator, read with symbols: guarded steps as data, not as branches; operations that lay nothing as data. -/
namespace Go.DD
open Go
theorem nr {α:Sort _} {a b:α} (h:a=b):a=b:=h
@[congr] theorem ew_congr {c:CE} {call:CallT} {es es':ES} {Q:Exit→ES→Prop} (h:es=es'):EW c call es Q=EW c call es' Q:=by rw [h]
@[congr] theorem sw_congr {s:Stp} {call:CallT} {es es':ES} {Q:ES→Prop} (h:es=es'):SW s call es Q=SW s call es' Q:=by rw [h]
@[congr] theorem xw_congr {x x':Option DV} {K:DV→Prop} (h:x=x'):XW x K=XW x' K:=by rw [h]
@[congr] theorem uw_congr {x x':Option (DV×Upd)} {K:DV→Upd→Prop} (h:x=x'):UW x K=UW x' K:=by rw [h]
@[congr] theorem kw_congr {call:CallT} {tg:Tg} {ds ds':List DV} {hp hp':Tr DObj} {nx nx':Nat} {K:DV→Tr DObj→Nat→Prop} (h1:ds=ds') (h2:hp=hp') (h3:nx=nx'):KW call tg ds hp nx K=KW call tg ds' hp' nx' K:=by rw [h1,h2,h3]
@[congr] theorem cw_congr {d d':DV} {A B:Prop} (h:d=d'):CW d A B=CW d' A B:=by rw [h]
@[congr] theorem gw_congr {d d':DV} {b:Bool} {A B:Prop} (h:d=d'):GW d b A B=GW d' b A B:=by rw [h]
@[congr] theorem tw_congr {s:DStp} {call:CallT} {n0 m:Nat} {d d':DSt} {Q:DSt→Prop} (h:d=d'):TW s call n0 m d Q=TW s call n0 m d' Q:=by rw [h]
@[congr] theorem then_congr {n:ES→Prop} {Q:Exit→ES→Prop} {e:Exit} {es:ES} : thenE n Q e es=thenE n Q e es:=nr rfl
@[congr] theorem blk_congr {i:Nat} {Q:Exit→ES→Prop} {e:Exit} {es:ES} : blkE i Q e es=blkE i Q e es:=nr rfl
theorem B50 {n:ES→Prop} {Q:Exit→ES→Prop} {es:ES} : thenE n Q .normal es=n es:=nr rfl
theorem B51 {n:ES→Prop} {Q:Exit→ES→Prop} {es:ES} : thenE n Q .ret es=Q .ret es:=nr rfl
theorem B52 {n:ES→Prop} {Q:Exit→ES→Prop} {i:Nat} {es:ES} : thenE n Q (.exit i) es=Q (.exit i) es:=nr rfl
theorem blk_n {i:Nat} {Q:Exit→ES→Prop} {es:ES} : blkE i Q .normal es=Q .normal es:=nr rfl
theorem blk_r {i:Nat} {Q:Exit→ES→Prop} {es:ES} : blkE i Q .ret es=Q .ret es:=nr rfl
theorem blk_x {i:Nat} {Q:Exit→ES→Prop} {es:ES} : blkE i Q (.exit i) es=Q .normal es:=by simp [blkE]
theorem blk_y {i j:Nat} {Q:Exit→ES→Prop} {es:ES} (h:j≠i):blkE i Q (.exit j) es=Q (.exit j) es:=by simp [blkE,h]
def mk1 (d:DV):Option DV:=some d
theorem B53 (d:DV):mk1 d=some d:=nr rfl
theorem sw_m1 {dst:Option Pa} {x:EO} {call:CallT} {es:ES} {Q:ES→Prop} : SW (sM dst x) call es Q↔XW (mk1 (rawE es x)) fun d=>Q (es.putE dst d):=sw_m.trans (A22 (Q:=fun d=>Q (es.putE dst d))).symm
def gdO (g:DV) (b:Bool) (x:Option DV):Option DV:=match g with
 | .v (.bool c)=>if c=b then x else some (.v undef)
 | .v (.tuple _)=>some (.v undef)
 | _=>none
theorem Bo5 {es:ES} {p:Pa} {b c:Bool} (h:wantE es p b=some c):(∃ t,rawE es (.t p)=.v (.bool t)∧c=(t == b))∨(∃ vs,rawE es (.t p)=.v (.tuple vs)∧c=false):=by
 unfold wantE at h
 obtain ⟨v,hv,h⟩:=Ak8 h
 cases v with
 | bool t=>
  have h5:some (t == b)=some c:=h
  cases h5
  exact .inl ⟨t,hv,rfl⟩
 | tuple vs=>
  have h5:some false=some c:=h
  cases h5
  exact .inr ⟨vs,hv,rfl⟩
 | _=>cases h
theorem sg_x {p:Pa} {b:Bool} {dst:Option Pa} {s:Stp} {X:ES→Option DV} {call:CallT} {es:ES} {Q:ES→Prop}
  (hs:∀ Q:ES→Prop,SW s call es Q↔XW (X es) fun d=>Q (es.putE dst d)):SW (sG p b dst s) call es Q↔XW (gdO (rawE es (.t p)) b (X es)) fun d=>Q (es.putE dst d):=by
 rw [sw_g']
 constructor
 ·rintro (⟨c,h1,h2,h3⟩ | ⟨vs,h1,h2⟩)
  ·rw [h1]
   simp only [gdO]
   by_cases hc:c=b
   ·rw [if_pos hc]; exact (hs Q).1 (h2 hc)
   ·rw [if_neg hc]; exact ⟨_,rfl,h3 hc⟩
  ·rw [h1]; exact ⟨_,rfl,h2⟩
 ·rintro ⟨d,h1,h2⟩
  unfold gdO at h1
  split at h1
  ·rename_i c hr
   refine .inl ⟨c,hr,fun hc=>?_,fun hc=>?_⟩
   ·rw [if_pos hc] at h1; exact (hs Q).2 ⟨d,h1,h2⟩
   ·rw [if_neg hc] at h1; cases h1; exact h2
  ·rename_i vs hr
   cases h1
   exact .inr ⟨_,hr,h2⟩
  ·cases h1
theorem sw_gx {p:Pa} {b:Bool} {dst:Option Pa} {x:XP} {call:CallT} {es:ES} {Q:ES→Prop} : SW (sG p b dst (sX dst x)) call es Q↔XW (gdO (rawE es (.t p)) b (x es)) fun d=>Q (es.putE dst d):=sg_x fun _=>sw_x
theorem sw_gm {p:Pa} {b:Bool} {dst:Option Pa} {x:EO} {call:CallT} {es:ES} {Q:ES→Prop} : SW (sG p b dst (sM dst x)) call es Q↔XW (gdO (rawE es (.t p)) b (some (rawE es x))) fun d=>Q (es.putE dst d):=
 sg_x (X:=fun es=>some (rawE es x)) fun Q=>by rw [sw_m]; exact (A22 (Q:=fun d=>Q (es.putE dst d))).symm
theorem A23 {dst:Option Pa} {x:XU} {X:XP} (h:∀ es nid,x es nid=keepU (X es)):sU dst x=sX dst X:=by
 funext call es
 unfold sU sX
 rw [h]
 unfold keepU
 cases X es with
 | none=>rfl
 | some d=>
  show es.cs (fun sl hp nx=>iteB Upd.keep.new (Af5 (nx+1) fun n=>some ((ES.mk sl (updE hp nx .keep) n).putE dst d)) (some ((ES.mk sl (updE hp nx .keep) nx).putE dst d)))=_
  rfl
noncomputable def xLns (t:Nat):XP:=fun es=>lnsD (liveE es.hp (rawE es (.t (pth t))))
noncomputable def xIxs (t u:Nat):XP:=fun es=>ixsD (liveE es.hp (rawE es (.t (pth t)))) (liveE es.hp (rawE es (.t (pth u))))
noncomputable def xS2b (t:Nat):XP:=fun es=>s2bD (liveE es.hp (rawE es (.t (pth t))))
theorem Bo6 {dst:Option Pa} {t:Nat} {call:CallT} {es:ES} {Q:ES→Prop} : SW (sU dst (xAny (.lns (.tmp t)))) call es Q↔XW (xLns t es) fun d=>Q (es.putE dst d):=by rw [A23 (X:=xLns t) fun _ _=>x_lns]; exact sw_x
theorem Bo7 {dst:Option Pa} {t u:Nat} {call:CallT} {es:ES} {Q:ES→Prop} : SW (sU dst (xAny (.ixs (.tmp t) (.tmp u)))) call es Q↔XW (xIxs t u es) fun d=>Q (es.putE dst d):=by rw [A23 (X:=xIxs t u) fun _ _=>x_ixs]; exact sw_x
theorem B54 {dst:Option Pa} {t:Nat} {call:CallT} {es:ES} {Q:ES→Prop} : SW (sU dst (xAny (.s2b (.tmp t)))) call es Q↔XW (xS2b t es) fun d=>Q (es.putE dst d):=by rw [A23 (X:=xS2b t) fun _ _=>x_s2b]; exact sw_x
theorem n_not (b:Bool):unD .not (.v (.bool b))=some (.v (.bool !b)):=nr rfl
theorem n_neg (k:IntKind) (n:Int):unD .neg (.v (.int k n))=some (.v (.int k (k.wrap (0 - n)))):=nr rfl
theorem n_c (es:ES) (d:DV):rawE es (.c d)=d:=nr rfl
theorem n_mk (es:ES) (hp:Tr DObj) (nx:Nat) (p:Pa):rawE (ES.mk es.sl hp nx) (.t p)=rawE es (.t p):=nr rfl
theorem n_lns (b:ByteArray):lnsD (.v (.string b))=some (.v (.int .i64 b.size)):=nr rfl
theorem n_s2b (b:ByteArray):s2bD (.v (.string b))=some (.sl (b.data.toList.map fun c=>.v (.int .u8 (c.toNat:Int))) b.size):=nr rfl
theorem n_up (es:ES):es.up .keep=es:=nr rfl
theorem B55 (t:Nat) (es:ES):xLns t es=lnsD (liveE es.hp (rawE es (.t (pth t)))):=nr rfl
theorem B56 (t u:Nat) (es:ES):xIxs t u es=ixsD (liveE es.hp (rawE es (.t (pth t)))) (liveE es.hp (rawE es (.t (pth u)))):=nr rfl
theorem B57 (t:Nat) (es:ES):xS2b t es=s2bD (liveE es.hp (rawE es (.t (pth t)))):=nr rfl
theorem Ce8 {p:Pa} {b:Bool} {dst:Option Pa} {t:Nat} {call:CallT} {es:ES} {Q:ES→Prop} : SW (sG p b dst (sU dst (xAny (.lns (.tmp t))))) call es Q↔XW (gdO (rawE es (.t p)) b (xLns t es)) fun d=>Q (es.putE dst d):=sg_x fun _=>Bo6
theorem Ce9 {p:Pa} {b:Bool} {dst:Option Pa} {t u:Nat} {call:CallT} {es:ES} {Q:ES→Prop} : SW (sG p b dst (sU dst (xAny (.ixs (.tmp t) (.tmp u))))) call es Q↔XW (gdO (rawE es (.t p)) b (xIxs t u es)) fun d=>Q (es.putE dst d):=sg_x fun _=>Bo7
section
variable {c:Bool}
theorem gd_t {x:Option DV} : gdO (.v (.bool c)) true x=if c=true then x else some (.v undef):=nr rfl
theorem gd_f {x:Option DV} : gdO (.v (.bool c)) false x=if c=true then some (.v undef) else x:=by cases c <;> rfl
theorem gd_u {b:Bool} {x:Option DV} : gdO (.v undef) b x=some (.v undef):=nr rfl
theorem gd_i {a a':DV} {b:Bool} {x:Option DV} : gdO (if c=true then a else a') b x=if c=true then gdO a b x else gdO a' b x:=by cases c <;> rfl
theorem Cm7 {a b:DV} : (if c=true then some a else some b)=some (if c=true then a else b):=by cases c <;> rfl
theorem i_tt {α:Type} {a b d:α} : (if c=true then (if c=true then a else b) else d)=if c=true then a else d:=by cases c <;> rfl
theorem i_ee {α:Type} {a b d:α} : (if c=true then a else (if c=true then b else d))=if c=true then a else d:=by cases c <;> rfl
theorem Cm8 {op:BinOp} {a b y:DV} : binD op (if c=true then a else b) y=if c=true then binD op a y else binD op b y:=by cases c <;> rfl
theorem Cm9 {op:BinOp} {a b y:DV} : binD op y (if c=true then a else b)=if c=true then binD op y a else binD op y b:=by cases c <;> rfl
theorem i_un {op:UnOp} {a b:DV} : unD op (if c=true then a else b)=if c=true then unD op a else unD op b:=by cases c <;> rfl
theorem Cf0 {a b x y:DV} : pickD (if c=true then a else b) x y=if c=true then pickD a x y else pickD b x y:=by cases c <;> rfl
theorem Cn0 {hp:Tr DObj} {a b:DV} : liveE hp (if c=true then a else b)=if c=true then liveE hp a else liveE hp b:=by cases c <;> rfl
theorem i_lns {a b:DV} : lnsD (if c=true then a else b)=if c=true then lnsD a else lnsD b:=by cases c <;> rfl
theorem Cn1 {a b y:DV} : ixsD (if c=true then a else b) y=if c=true then ixsD a y else ixsD b y:=by cases c <;> rfl
theorem Cn2 {a b y:DV} : ixsD y (if c=true then a else b)=if c=true then ixsD y a else ixsD y b:=by cases c <;> rfl
theorem i_vb {x y:Bool} : (if c=true then DV.v (.bool x) else .v (.bool y))=.v (.bool (if c=true then x else y)):=by cases c <;> rfl
theorem i_or {w:Bool} : (if c=true then true else w)=(c || w):=by cases c <;> rfl
theorem i_and {w:Bool} : (if c=true then w else false)=(c && w):=by cases c <;> rfl
end
theorem Cn3 (t:Bool) (x y:DV):pickD (.v (.bool t)) x y=some (if t=true then x else y):=by cases t <;> rfl
def alv (hp:Tr DObj) (id:Nat):Bool:=(hp.get id).isSome
def lenD (hp:Tr DObj) (x:DV):Option DV:=match x with
 | .sl _ n=>some (.v (.int .i64 n))
 | .v (.slice none n _)=>some (.v (.int .i64 n))
 | .ms id _ n _=>if alv hp id=true then some (.v (.int .i64 n)) else none
 | _=>none
def iaD (hp:Tr DObj) (es:Nat) (x i:DV):Option DV:=match i with
 | .v (.int _ j)=>match x with
  | .sl cs n=>if 0≤j∧j < n then some (.ia (cs.drop (j.toNat*es))) else none
  | .ms id off n _=>if alv hp id=true∧0≤j∧j < n then some (.pt id (off+j.toNat*es)) else none
  | _=>none
 | _=>none
def ldD (hp:Tr DObj) (k:Option Nat) (x:DV):Option DV:=match x with
 | .ia cs=>partD k cs
 | .pt id off=>match hp.get id with
  | some (.row _ cs)=>partD k (cs.drop off)
  | _=>none
 | _=>none
def faD (hp:Tr DObj) (off:Nat) (x:DV):Option DV:=match x with
 | .ia cs=>some (.ia (cs.drop off))
 | .pt id o=>if alv hp id=true then some (.pt id (o+off)) else none
 | _=>none
theorem x_len (x:EO) (es:ES):xLen x es=lenD es.hp (rawE es x):=by
 unfold xLen lenD
 cases rawE es x with
 | v a=>
  cases a with
  | slice a n c=>cases a <;> rfl
  | _=>rfl
 | sl cs n=>show Af5 n (fun n=>some (DV.v (.int .i64 (.ofNat n))))=some (DV.v (.int .i64 n)); rw [Ab4]; rfl
 | ms id off n es'=>
  show iteB (someB (gN es.hp id)) (Af5 n fun n=>some (DV.v (.int .i64 (.ofNat n)))) (none:Option DV)=if alv es.hp id=true then some (DV.v (.int .i64 n)) else none
  rw [Ab4,Ab2,Af6,gN_eq]; rfl
 | _=>rfl
theorem B58 {α:Type} (j:Int) (n:Nat) (f:Nat→Option α):cIx j n f none=if 0≤j∧j < n then f j.toNat else none:=by
 cases j with
 | ofNat m=>
  show iteB (Nat.blt m n) (f m) none=_
  rw [Ab2]
  by_cases h:m < n
  ·rw [if_pos (by simpa [Nat.blt_eq] using h),if_pos ⟨by simp,by simpa using h⟩]; rfl
  ·rw [if_neg (by simpa [Nat.blt_eq] using h),if_neg (fun hh=>h (by simpa using hh.2))]
 | negSucc m=>
  rw [if_neg (fun hh=>absurd hh.1 (by simp))]; rfl
theorem x_ia (es':Nat) (x i:EO) (es:ES):xIa es' x i es=iaD es.hp es' (rawE es x) (rawE es i):=by
 unfold xIa iaD
 cases rawE es i with
 | v a=>
  cases a with
  | int k j=>
   show cSl (rawE es x) _ _ _ _=_
   cases rawE es x with
   | sl cs n=>show cIx j n (fun m=>some (DV.ia (dropL (m*es') cs))) none=_; rw [B58]; simp only [Ae4]
   | ms id off n e=>
    show iteB (someB (gN es.hp id)) (cIx j n (fun m=>Af5 (off+m*es') fun o=>some (DV.pt id o)) none) none=_
    rw [Ab2,Af6,gN_eq,B58]
    simp only [Ab4,alv]
    by_cases h1:(es.hp.get id).isSome=true <;> by_cases h2:0≤j∧j < n <;> simp [h1,h2]
   | _=>rfl
  | _=>rfl
 | _=>rfl
theorem x_ld (k:Option Nat) (x:EO) (es:ES):xLd k x es=ldD es.hp k (rawE es x):=by
 unfold xLd ldD
 cases rawE es x with
 | ia cs=>exact An2 k cs
 | pt id off=>
  show cRow es.hp id (fun _ cs=>partE k (dropL off cs)) (none:Option DV)=match es.hp.get id with
   | some (.row _ cs)=>partD k (cs.drop off)
   | _=>none
  unfold cRow
  rw [gN_eq]
  cases es.hp.get id with
  | none=>rfl
  | some o=>
   cases o with
   | row T cs=>show partE k (dropL off cs)=partD k (cs.drop off); rw [An2,Ae4]
   | _=>rfl
 | _=>rfl
theorem x_fa (off:Nat) (x:EO) (es:ES):xFa off x es=faD es.hp off (rawE es x):=by
 unfold xFa faD
 cases rawE es x with
 | ia cs=>show some (DV.ia (dropL off cs))=_; rw [Ae4]
 | pt id o=>
  show iteB (someB (gN es.hp id)) (Af5 (o+off) fun n=>some (DV.pt id n)) none=_
  rw [Ab2,Af6,gN_eq,Ab4]; rfl
 | _=>rfl
theorem len_s (hp:Tr DObj) (cs:List DV) (n:Nat):lenD hp (.sl cs n)=some (.v (.int .i64 n)):=nr rfl
theorem ia_s {hp:Tr DObj} {es n i:Nat} {k:IntKind} {cs:List DV} (h:i < n):iaD hp es (.sl cs n) (.v (.int k (i:Int)))=some (.ia (cs.drop (i*es))):=by
 show (if 0≤(i:Int)∧(i:Int) < n then some (DV.ia (cs.drop ((i:Int).toNat*es))) else none)=_
 rw [if_pos ⟨by omega,by omega⟩]; rfl
theorem ld_i (hp:Tr DObj) (k:Option Nat) (cs:List DV):ldD hp k (.ia cs)=partD k cs:=nr rfl
theorem ld_p {hp:Tr DObj} {k:Option Nat} {id off:Nat} {T:TypeId} {cs:List DV} (h:hp.get id=some (.row T cs)):ldD hp k (.pt id off)=partD k (cs.drop off):=by
 unfold ldD; simp only [h]
theorem fa_i (hp:Tr DObj) (off:Nat) (cs:List DV):faD hp off (.ia cs)=some (.ia (cs.drop off)):=nr rfl
theorem fa_p {hp:Tr DObj} {id o off:Nat} {x:DObj} (h:hp.get id=some x):faD hp off (.pt id o)=some (.pt id (o+off)):=by
 unfold faD alv; simp only [h]; rfl
section
variable {c:Bool}
theorem i_len {hp:Tr DObj} {a b:DV} : lenD hp (if c=true then a else b)=if c=true then lenD hp a else lenD hp b:=by cases c <;> rfl
theorem i_ia1 {hp:Tr DObj} {es:Nat} {a b y:DV} : iaD hp es (if c=true then a else b) y=if c=true then iaD hp es a y else iaD hp es b y:=by cases c <;> rfl
theorem i_ia2 {hp:Tr DObj} {es:Nat} {a b y:DV} : iaD hp es y (if c=true then a else b)=if c=true then iaD hp es y a else iaD hp es y b:=by cases c <;> rfl
theorem i_ld {hp:Tr DObj} {k:Option Nat} {a b:DV} : ldD hp k (if c=true then a else b)=if c=true then ldD hp k a else ldD hp k b:=by cases c <;> rfl
theorem i_fa {hp:Tr DObj} {k:Nat} {a b:DV} : faD hp k (if c=true then a else b)=if c=true then faD hp k a else faD hp k b:=by cases c <;> rfl
end
end Go.DD

/- The evaluator, read with symbols: the operations one by one; own rows, maps, strings' iterators; calls of function values; calls in drawn regions. -/
namespace Go.DD
open Go
theorem sw_k {dst:Option Pa} {x:XU} {X:XP} (h:∀ es nid,x es nid=keepU (X es)) {call:CallT} {es:ES} {Q:ES→Prop} : SW (sU dst x) call es Q↔XW (X es) fun d=>Q (es.putE dst d):=by
 rw [A23 h]; exact sw_x
theorem sw_gk {p:Pa} {b:Bool} {dst:Option Pa} {x:XU} {X:XP} (h:∀ es nid,x es nid=keepU (X es)) {call:CallT} {es:ES} {Q:ES→Prop} : SW (sG p b dst (sU dst x)) call es Q↔XW (gdO (rawE es (.t p)) b (X es)) fun d=>Q (es.putE dst d):=sg_x fun _=>sw_k h
theorem n_ev (es:ES) (t:Nat):es.ds.ev (.tmp t)=liveE es.hp (rawE es (.t (pth t))):=nr (Ao3 es t)
theorem n_evc (es:ES) (v:Value):es.ds.ev (.const v)=ofV v:=nr rfl
theorem n_ofi (k:IntKind) (n:Int):ofV (.int k n)=.v (.int k n):=nr rfl
theorem n_ofb (b:Bool):ofV (.bool b)=.v (.bool b):=nr rfl
theorem n_ofs (b:ByteArray):ofV (.string b)=.v (.string b):=nr rfl
theorem n_ofl (n m:Nat):ofV (.slice none n m)=.v (.slice none n m):=nr rfl
theorem n_ofp:ofV (.pointer none)=.v (.pointer none):=nr rfl
theorem A24 (hp:Tr DObj) (f:Nat):liveE hp (.fn (.func f) [.tup []])=.fn (.func f) [.tup []]:=nr (Ab6 rfl)
def mmD (mx:Bool) (x y:DV):Option DV:=match x,y with
 | .v (.int k a),.v (.int _ b)=>some (.v (.int k (if mx then (if b > a then b else a) else (if b < a then b else a))))
 | _,_=>none
def bbD (neg:Bool) (x y:DV):Option DV:=match x,y with
 | .v (.bool a),.v (.bool b)=>some (.v (.bool (xor neg (a == b))))
 | _,_=>none
def cviE (k:IntKind) (x:DV):Option DV:=match x with
 | .v (.int _ n)=>some (.v (.int k (k.wrap n)))
 | _=>none
theorem k_mm (b:Bool) (x y:Operand) (es:ES) (nid:Nat):xAny (.mm b x y) es nid=keepU (mmD b (es.ds.ev x) (es.ds.ev y)):=by
 rw [x_any]; simp only [execU]
 cases es.ds.ev x with
 | v a=>cases a <;> cases es.ds.ev y with
  | v c=>cases c <;> rfl
  | _=>rfl
 | _=>cases es.ds.ev y <;> rfl
theorem k_bb (b:Bool) (x y:Operand) (es:ES) (nid:Nat):xAny (.bb b x y) es nid=keepU (bbD b (es.ds.ev x) (es.ds.ev y)):=by
 rw [x_any]; simp only [execU]
 cases es.ds.ev x with
 | v a=>cases a <;> cases es.ds.ev y with
  | v c=>cases c <;> rfl
  | _=>rfl
 | _=>cases es.ds.ev y <;> rfl
theorem k_eqs (neg:Bool) (ks:List Nat) (x y:Operand) (es:ES) (nid:Nat):xAny (.eqs neg ks x y) es nid=keepU (eqsD neg ks (es.ds.ev x) (es.ds.ev y)):=by
 rw [x_any]; simp only [execU]
 cases es.ds.ev x with
 | agg xs=>cases es.ds.ev y with
  | agg ys=>show (eqL ks xs ys).map _=keepU ((eqL ks xs ys).map _); cases eqL ks xs ys <;> rfl
  | _=>rfl
 | _=>cases es.ds.ev y <;> rfl
theorem k_cvi (k:IntKind) (x:Operand) (es:ES) (nid:Nat):xAny (.cvi k x) es nid=keepU (cviE k (es.ds.ev x)):=by
 rw [x_any]; simp only [execU]
 cases es.ds.ev x with
 | v a=>cases a <;> rfl
 | _=>rfl
theorem k_mkf (f:Fn) (fst cap:List Operand) (es:ES) (nid:Nat):xAny (.mkf f fst cap) es nid=keepU (some (.fn f (.tup (fst.map es.ds.ev) :: cap.map es.ds.ev))):=rfl
theorem sw_mm {dst:Option Pa} {b:Bool} {x y:Operand} {call:CallT} {es:ES} {Q:ES→Prop} : SW (sU dst (xAny (.mm b x y))) call es Q↔XW (mmD b (es.ds.ev x) (es.ds.ev y)) fun d=>Q (es.putE dst d):=sw_k (k_mm b x y)
theorem Cn4 {p:Pa} {g:Bool} {dst:Option Pa} {b:Bool} {x y:Operand} {call:CallT} {es:ES} {Q:ES→Prop} : SW (sG p g dst (sU dst (xAny (.mm b x y)))) call es Q↔XW (gdO (rawE es (.t p)) g (mmD b (es.ds.ev x) (es.ds.ev y))) fun d=>Q (es.putE dst d):=sw_gk (k_mm b x y)
theorem sw_bb {dst:Option Pa} {b:Bool} {x y:Operand} {call:CallT} {es:ES} {Q:ES→Prop} : SW (sU dst (xAny (.bb b x y))) call es Q↔XW (bbD b (es.ds.ev x) (es.ds.ev y)) fun d=>Q (es.putE dst d):=sw_k (k_bb b x y)
theorem Cn5 {p:Pa} {g:Bool} {dst:Option Pa} {b:Bool} {x y:Operand} {call:CallT} {es:ES} {Q:ES→Prop} : SW (sG p g dst (sU dst (xAny (.bb b x y)))) call es Q↔XW (gdO (rawE es (.t p)) g (bbD b (es.ds.ev x) (es.ds.ev y))) fun d=>Q (es.putE dst d):=sw_gk (k_bb b x y)
theorem Bo8 {dst:Option Pa} {k:IntKind} {x:Operand} {call:CallT} {es:ES} {Q:ES→Prop} : SW (sU dst (xAny (.cvi k x))) call es Q↔XW (cviE k (es.ds.ev x)) fun d=>Q (es.putE dst d):=sw_k (k_cvi k x)
theorem B59 {dst:Option Pa} {f:Fn} {fst cap:List Operand} {call:CallT} {es:ES} {Q:ES→Prop} : SW (sU dst (xAny (.mkf f fst cap))) call es Q↔XW (some (.fn f (.tup (fst.map es.ds.ev) :: cap.map es.ds.ev))) fun d=>Q (es.putE dst d):=sw_k (k_mkf f fst cap)
theorem Cn6 (k k':IntKind) (a b:Int):mmD false (.v (.int k a)) (.v (.int k' b))=some (.v (.int k (min a b))):=by
 show some (DV.v (.int k (if b < a then b else a)))=_
 congr 3; omega
theorem Cn7 (k k':IntKind) (a b:Int):mmD true (.v (.int k a)) (.v (.int k' b))=some (.v (.int k (max a b))):=by
 show some (DV.v (.int k (if b > a then b else a)))=_
 congr 3; omega
theorem cvi_i (k k':IntKind) (n:Int):cviE k (.v (.int k' n))=some (.v (.int k (k.wrap n))):=nr rfl
theorem eqs_a (neg:Bool) (ks:List Nat) (xs ys:List DV):eqsD neg ks (.agg xs) (.agg ys)=(eqL ks xs ys).map fun b=>.v (.bool (xor neg b)):=nr rfl
theorem bin_s (op:BinOp) (a b:ByteArray):binD op (.v (.string a)) (.v (.string b))=(binS op a b).map .v:=nr rfl
def bxD (nid:Nat) (T:TypeId) (d:DV):Option (DV×Upd):=if d.okC=true then some (.pt nid 0,.lay (.row T d.cells)) else none
theorem sw_bx {dst:Option Pa} {T:TypeId} {x:EO} {call:CallT} {es:ES} {Q:ES→Prop} : SW (sU dst (xBx T x)) call es Q↔UW (bxD es.nx T (evE es x)) fun d u=>Q ((es.up u).putE dst d):=by
 rw [sw_u]
 have e:xBx T x es es.nx=bxD es.nx T (evE es x):=by
  unfold xBx bxD
  rw [Ab2,Bb8,Am2]
 rw [e]
theorem sw_al {dst:Option Pa} {T:TypeId} {z:List DV} {call:CallT} {es:ES} {Q:ES→Prop} : SW (sU dst (xAl T z)) call es Q↔Q ((es.up (.lay (.row T z))).putE dst (.pt es.nx 0)):=by
 rw [sw_u]; exact Am7
def stD (hp:Tr DObj) (n:Nat) (a x:DV):Option (DV×Upd):=match a with
 | .pt id off=>match hp.get id with
  | some (.row T cs)=>if x.okC=true∧x.cells.length=n∧off+n≤cs.length then some (.any,.wr id (.row T (cs.take off ++ x.cells ++ cs.drop (off+n)))) else none
  | _=>none
 | _=>none
theorem sw_st {dst:Option Pa} {n:Nat} {a x:EO} {call:CallT} {es:ES} {Q:ES→Prop} : SW (sU dst (xSt n a x)) call es Q↔UW (stD es.hp n (rawE es a) (evE es x)) fun d u=>Q ((es.up u).putE dst d):=by
 rw [sw_u]
 have e:xSt n a x es es.nx=stD es.hp n (rawE es a) (evE es x):=by
  unfold xSt stD
  cases rawE es a with
  | pt id off=>
   show cRow es.hp id _ _=_
   unfold cRow
   rw [gN_eq]
   simp only []
   cases es.hp.get id with
   | none=>rfl
   | some o=>
    cases o with
    | row T cs=>
     show iteB (okE (evE es x)) (iteB (Nat.beq (Ay7 (evE es x)).length n) (iteB (Nat.ble (off+n) cs.length) (Ar7 (appL (takeL off cs) (appL (Ay7 (evE es x)) (dropL (off+n) cs))) fun l=>some (DV.any,Upd.wr id (.row T l))) none) none) none=if (evE es x).okC=true∧(evE es x).cells.length=n∧off+n≤cs.length then some (.any,.wr id (.row T (cs.take off ++ (evE es x).cells ++ cs.drop (off+n)))) else none
     rw [Ab2,Ab2,Ab2,Bb8,Am2,Ap6,Af0,Af0,As9,Ae4]
     by_cases h1:(evE es x).okC=true
     ·by_cases h2:(evE es x).cells.length=n
      ·by_cases h3:off+n≤cs.length
       ·simp [h1,h2,h3]
       ·simp [h1,h2,h3]
      ·have:¬ (Nat.beq (evE es x).cells.length n=true):=fun e=>h2 (Nat.eq_of_beq_eq_true e)
       simp [h1,h2,this]
     ·simp [h1]
    | _=>rfl
  | _=>rfl
 rw [e]
def stR (id off n:Nat) (x:DV) (o:Option DObj):Option (DV×Upd):=match o with
 | some (.row T cs)=>if x.okC=true∧x.cells.length=n∧off+n≤cs.length then some (.any,.wr id (.row T (cs.take off ++ x.cells ++ cs.drop (off+n)))) else none
 | _=>none
theorem st_pt (hp:Tr DObj) (n id off:Nat) (x:DV):stD hp n (.pt id off) x=stR id off n x (hp.get id):=by
 show (match hp.get id with
  | some (.row T cs)=>if x.okC=true∧x.cells.length=n∧off+n≤cs.length then some (DV.any,Upd.wr id (.row T (cs.take off ++ x.cells ++ cs.drop (off+n)))) else none
  | _=>none)=stR id off n x (hp.get id)
 unfold stR
 generalize hp.get id=o
 cases o with
 | none=>rfl
 | some o=>cases o <;> rfl
theorem st_r (id off n:Nat) (x:DV) (T:TypeId) (cs:List DV) (h1:x.okC=true) (h2:x.cells.length=n) (h3:off+n≤cs.length):stR id off n x (some (.row T cs))=some (.any,.wr id (.row T (cs.take off ++ x.cells ++ cs.drop (off+n)))):=by
 show (if x.okC=true∧x.cells.length=n∧off+n≤cs.length then _ else _)=_
 rw [if_pos ⟨h1,h2,h3⟩]
theorem st_all (id n:Nat) (ds:List DV) (T:TypeId) (cs:List DV) (h2:ds.length=n) (h3:cs.length=n):stR id 0 n (.agg ds) (some (.row T cs))=some (.any,.wr id (.row T ds)):=by
 rw [st_r id 0 n (.agg ds) T cs rfl h2 (by omega)]
 have e:cs.take 0 ++ (DV.agg ds).cells ++ cs.drop (0+n)=ds:=by
  rw [Nat.zero_add,List.drop_eq_nil_of_le (by omega)]
  simp [DV.cells]
 rw [e]
end Go.DD

/- The evaluator, read with symbols: calls that are walked in place; rounds of a loop over a function; regions that draw their order. -/
namespace Go.DD
open Go
noncomputable def callN (tb:Nat→Option FE) (n:Nat) (rel:Nat→List DV→Option DV):Nat→CallT
 | 0=>callG rel
 | k+1=>fun tg ds hp nx=>match tg with
  | .fn f=>match rel f ds with
   | some d=>some (d,hp,nx)
   | none=>stepC tb n (callN tb n rel k) (.fn f) ds hp nx
  | .yl id=>stepC tb n (callN tb n rel k) (.yl id) ds hp nx
theorem Bd8 {P:Program} (hm:P.follows .mixedOrders=true) {tb:Nat→Option FE} {n' n:Nat} (htb:TbOK P n' tb) {rel:Nat→List DV→Option DV} (h:∀ f ds d,rel f ds=some d→Known P f ds d):∀ k,Ad9 P (callN tb n rel k)
 | 0=>Bd7 h
 | k+1=>fun tg ds hp nx d hp' nx' hc hf=>by
  have ih:=At3 hm (n:=n) htb (Bd8 (n:=n) hm htb h k)
  cases tg with
  | yl id=>exact ih (.yl id) ds hp nx d hp' nx' hc hf
  | fn f=>
   have hc':(match rel f ds with
    | some d=>some (d,hp,nx)
    | none=>stepC tb n (callN tb n rel k) (.fn f) ds hp nx)=some (d,hp',nx'):=hc
   cases hr:rel f ds with
   | none=>rw [hr] at hc'; exact ih (.fn f) ds hp nx d hp' nx' hc' hf
   | some d0=>
    rw [hr] at hc'
    have hc2:callG rel (.fn f) ds hp nx=some (d,hp',nx'):=by
     show (match rel f ds with
      | some d=>some (d,hp,nx)
      | none=>none)=_
     rw [hr]; exact hc'
    exact Bd7 h _ _ _ _ _ _ _ hc2 hf
section
variable {tb:Nat→Option FE} {n:Nat} {rel:Nat→List DV→Option DV} {k f nt:Nat} {c:CE} {ds:List DV} {hp:Tr DObj} {nx:Nat} {K:DV→Tr DObj→Nat→Prop}
theorem A57 {d:DV} (h:rel f ds=some d) (hK:K d hp nx):KW (callN tb n rel (k+1)) (.fn f) ds hp nx K:=
 ⟨d,hp,nx,show (match rel f ds with
  | some d=>some (d,hp,nx)
  | none=>stepC tb n (callN tb n rel k) (.fn f) ds hp nx)=_ by rw [h],hK⟩
theorem kn_fn {res:List (Nat×Option (Option Nat))} (hr:rel f ds=none) (hf:tb f=some ⟨c,res,nt⟩) (hn:ds.length≤nt)
  (h:∀ es,es.hp=hp→es.nx=nx→Ent es ds→EW c (callN tb n rel k) es fun e es=>(e=.normal∨e=.ret)∧∃ d,finE res es=some (d,es.hp,es.nx)∧K d es.hp es.nx):KW (callN tb n rel (k+1)) (.fn f) ds hp nx K:=by
 obtain ⟨e,es,h1,h2,d,h3,h4⟩:=h ⟨argT ds,hp,nx⟩ rfl rfl (Bo0 ds hp nx)
 refine ⟨d,es.hp,es.nx,?_,h4⟩
 show (match rel f ds with
  | some d=>some (d,hp,nx)
  | none=>match tb f with
   | some fe=>if ds.length≤fe.nt then match fe.run (callN tb n rel k) ⟨argT ds,hp,nx⟩ with
     | some (.normal,es)=>finE fe.res es
     | some (.ret,es)=>finE fe.res es
     | _=>none
    else none
   | none=>none)=_
 rw [hr,hf]
 simp only
 rw [if_pos hn,h1]
 rcases h2 with rfl | rfl
 ·exact h3
 ·exact h3
theorem fe0 (es:ES):finE [] es=some (.tup [],es.hp,es.nx):=by
 unfold finE
 simp only [List.mapM_nil,Option.pure_def,resVE]
theorem fe1 (es:ES) (t:Nat):finE [(t,none)] es=some (liveE es.hp (rawE es (.t (pth t))),es.hp,es.nx):=by
 have e:resE es (t,none)=some (liveE es.hp (rawE es (.t (pth t)))):=rfl
 unfold finE
 simp only [List.mapM_cons,List.mapM_nil,e,Option.pure_def,Option.bind_eq_bind,Option.bind_some,resVE]
theorem fe2 (es:ES) (t u:Nat):finE [(t,none),(u,none)] es=some (.tup [liveE es.hp (rawE es (.t (pth t))),liveE es.hp (rawE es (.t (pth u)))],es.hp,es.nx):=by
 have e:∀ t,resE es (t,none)=some (liveE es.hp (rawE es (.t (pth t)))):=fun _=>rfl
 unfold finE
 simp only [List.mapM_cons,List.mapM_nil,e,Option.pure_def,Option.bind_eq_bind,Option.bind_some,resVE]
theorem kn_0 (hr:rel f ds=none) (hf:tb f=some ⟨c,[],nt⟩) (hn:ds.length≤nt)
  (h:∀ es,es.hp=hp→es.nx=nx→Ent es ds→EW c (callN tb n rel k) es fun e es=>(e=.normal∨e=.ret)∧K (.tup []) es.hp es.nx):KW (callN tb n rel (k+1)) (.fn f) ds hp nx K:=
 kn_fn hr hf hn fun es h1 h2 h3=>(h es h1 h2 h3).mono fun _ es ⟨h4,h5⟩=>⟨h4,_,fe0 es,h5⟩
theorem kn_1 {t:Nat} (hr:rel f ds=none) (hf:tb f=some ⟨c,[(t,none)],nt⟩) (hn:ds.length≤nt)
  (h:∀ es,es.hp=hp→es.nx=nx→Ent es ds→EW c (callN tb n rel k) es fun e es=>(e=.normal∨e=.ret)∧K (liveE es.hp (rawE es (.t (pth t)))) es.hp es.nx):KW (callN tb n rel (k+1)) (.fn f) ds hp nx K:=
 kn_fn hr hf hn fun es h1 h2 h3=>(h es h1 h2 h3).mono fun _ es ⟨h4,h5⟩=>⟨h4,_,fe1 es t,h5⟩
theorem kn_2 {t u:Nat} (hr:rel f ds=none) (hf:tb f=some ⟨c,[(t,none),(u,none)],nt⟩) (hn:ds.length≤nt)
  (h:∀ es,es.hp=hp→es.nx=nx→Ent es ds→EW c (callN tb n rel k) es fun e es=>(e=.normal∨e=.ret)∧K (.tup [liveE es.hp (rawE es (.t (pth t))),liveE es.hp (rawE es (.t (pth u)))]) es.hp es.nx):KW (callN tb n rel (k+1)) (.fn f) ds hp nx K:=
 kn_fn hr hf hn fun es h1 h2 h3=>(h es h1 h2 h3).mono fun _ es ⟨h4,h5⟩=>⟨h4,_,fe2 es t u,h5⟩
theorem kn_yl {id:Nat} {lp:DLoop} {sl:Tr DV} {es0:ES} (hl:hp.get id=some (.loop lp)) (hs:lp.st=.ready) (hsl:lp.sl=.t sl) (hds:ds.length=lp.ps.length) (hps:lp.ps.all (fun t=>Nat.blt t lp.nt)=true) (h0:es0=⟨zipT lp.ps ds sl,hp,nx⟩)
  (h:EW (evalE n lp.nt true lp.asg) (callN tb n rel k) es0 fun e es1=>e=.normal∧∃ lp1,es1.hp.get id=some (.loop lp1)∧lp1.st=.ready∧
   EW (evalE n lp.nt true lp.body) (callN tb n rel k) ⟨es1.sl,es1.hp.set id (some (.loop { lp1 with st:=.busy })),es1.nx⟩ fun e es2=>∃ lp2,es2.hp.get id=some (.loop lp2)∧
    match e with
    | .normal=>K (.v (.bool true)) (es2.hp.set id (some (.loop { lp2 with st:=.ready,pend:=none }))) es2.nx
    | .ret=>K (.v (.bool false)) (es2.hp.set id (some (.loop { lp2 with st:=.done,pend:=some .ret }))) es2.nx
    | .exit i=>K (.v (.bool false)) (es2.hp.set id (some (.loop { lp2 with st:=.done,pend:=some (.exit i) }))) es2.nx
    | _=>False):KW (callN tb n rel (k+1)) (.yl id) ds hp nx K:=by
 subst h0
 obtain ⟨e,es1,h1,rfl,lp1,h2,h3,e2,es2,h4,lp2,h5,h6⟩:=h
 have key:∀ r,(match evalE n lp.nt true lp.asg (callN tb n rel k) ⟨zipT lp.ps ds sl,hp,nx⟩ with
      | some (.normal,es1)=>match es1.hp.get id with
       | some (.loop lp1)=>match lp1.st with
        | .ready=>match evalE n lp.nt true lp.body (callN tb n rel k) { es1 with hp:=es1.hp.set id (some (.loop { lp1 with st:=.busy })) } with
         | some (e,es2)=>match es2.hp.get id with
          | some (.loop lp2)=>match e with
           | .normal=>some (.v (.bool true),es2.hp.set id (some (.loop { lp2 with st:=.ready,pend:=none })),es2.nx)
           | .ret=>some (.v (.bool false),es2.hp.set id (some (.loop { lp2 with st:=.done,pend:=some .ret })),es2.nx)
           | .exit i=>some (.v (.bool false),es2.hp.set id (some (.loop { lp2 with st:=.done,pend:=some (.exit i) })),es2.nx)
           | _=>none
          | _=>none
         | none=>none
        | _=>none
       | _=>none
      | _=>none)=r→callN tb n rel (k+1) (.yl id) ds hp nx=r:=by
  intro r hr
  show (match hp.get id with
   | some (.loop lp)=>match lp.st,lp.sl with
    | .ready,.t sl=>if ds.length=lp.ps.length∧lp.ps.all (fun t=>Nat.blt t lp.nt)=true then
      match evalE n lp.nt true lp.asg (callN tb n rel k) ⟨zipT lp.ps ds sl,hp,nx⟩ with
      | some (.normal,es1)=>match es1.hp.get id with
       | some (.loop lp1)=>match lp1.st with
        | .ready=>match evalE n lp.nt true lp.body (callN tb n rel k) { es1 with hp:=es1.hp.set id (some (.loop { lp1 with st:=.busy })) } with
         | some (e,es2)=>match es2.hp.get id with
          | some (.loop lp2)=>match e with
           | .normal=>some (.v (.bool true),es2.hp.set id (some (.loop { lp2 with st:=.ready,pend:=none })),es2.nx)
           | .ret=>some (.v (.bool false),es2.hp.set id (some (.loop { lp2 with st:=.done,pend:=some .ret })),es2.nx)
           | .exit i=>some (.v (.bool false),es2.hp.set id (some (.loop { lp2 with st:=.done,pend:=some (.exit i) })),es2.nx)
           | _=>none
          | _=>none
         | none=>none
        | _=>none
       | _=>none
      | _=>none
     else none
    | _,_=>none
   | _=>none)=r
  rw [hl]
  simp only [hs,hsl]
  rw [if_pos ⟨hds,hps⟩]
  exact hr
 cases e2 with
 | normal=>exact ⟨_,_,_,key _ (by rw [h1]; simp only [h2,h3]; rw [h4]; simp only [h5]),h6⟩
 | ret=>exact ⟨_,_,_,key _ (by rw [h1]; simp only [h2,h3]; rw [h4]; simp only [h5]),h6⟩
 | exit i=>exact ⟨_,_,_,key _ (by rw [h1]; simp only [h2,h3]; rw [h4]; simp only [h5]),h6⟩
 | _=>exact h6.elim
end
theorem Cn8 {nt:Nat} {g:EO} {ps:List Nat} {a b:DC} {call:CallT} {es:ES} {Q:Exit→ES→Prop} {f:Nat} {cs:List DV} (hg:evE es g=.fn (.func f) (.tup [] :: cs))
  (h:KW call (.fn f) (.yl es.nx :: cs) (es.hp.set es.nx (some (.loop ⟨nt,.t es.sl,ps,a,b,.ready,none⟩))) (es.nx+1) fun _ hp nx=>∃ lp,hp.get es.nx=some (.loop lp)∧lp.st≠.busy∧
   ((lp.pend=none∧Q .normal ⟨es.sl,hp.set es.nx none,nx⟩)∨(lp.pend=some .ret∧Q .ret ⟨es.sl,hp.set es.nx none,nx⟩)∨∃ i,lp.pend=some (.exit i)∧Q (.exit i) ⟨es.sl,hp.set es.nx none,nx⟩)):EW (cR nt false g ps a b) call es Q:=by
 obtain ⟨d,hp',nx',h1,lp,h2,h3,h4⟩:=h
 have key:∀ r,(match lp.pend with
     | none=>some (Exit.normal,(⟨es.sl,hp'.set es.nx none,nx'⟩:ES))
     | some .ret=>some (.ret,⟨es.sl,hp'.set es.nx none,nx'⟩)
     | some (.exit i)=>some (.exit i,⟨es.sl,hp'.set es.nx none,nx'⟩)
     | _=>none)=r→cR nt false g ps a b call es=r:=by
  intro r hr
  unfold cR
  rw [if_neg (by simp),hg]
  simp only [DV.asFn]
  rw [h1]
  simp only [h2]
  cases hst:lp.st with
  | busy=>exact absurd hst h3
  | _=>exact hr
 rcases h4 with ⟨h4,h5⟩ | ⟨h4,h5⟩ | ⟨i,h4,h5⟩
 ·exact ⟨_,_,key _ (by rw [h4]),h5⟩
 ·exact ⟨_,_,key _ (by rw [h4]),h5⟩
 ·exact ⟨_,_,key _ (by rw [h4]),h5⟩
end Go.DD

/- The evaluator, read with symbols: regions that draw their order, with guards, calls and new objects; rows of bytes. -/
namespace Go.DD
open Go
section
variable {call:CallT} {n0 m i:Nat} {es:ES} {lo an:List Nat} {ws:List Look} {pp:List Past} {Q:DSt→Prop} {ps:List Pa} {dst:Option Pa}
theorem tw_g {p:Pa} {b:Bool} {s:DStp} : TW (dG p b dst s) call n0 m ⟨es,lo,ws,pp⟩ Q↔GW (rawE es (.t p)) b (TW s call n0 m ⟨es,lo,ws,pp⟩ Q) (Q ⟨es.putE dst (.v undef),lo,ws,pp⟩):=by
 have key:∀ c,wantE es p b=some c→dG p b dst s call n0 m ⟨es,lo,ws,pp⟩=Bool.rec (motive:=fun _=>Option DSt) (some ⟨es.putE dst (.v undef),lo,ws,pp⟩) (s call n0 m ⟨es,lo,ws,pp⟩) c:=by
  intro c hc
  unfold dG
  show Option.rec (motive:=fun _=>Option DSt) none _ (wantE es p b)=_
  rw [hc]; rfl
 constructor
 ·rintro ⟨δ',h1,h2⟩
  have h0:∃ c,wantE es p b=some c:=by
   unfold dG at h1
   obtain ⟨c,h3,_⟩:=optR h1
   exact ⟨c,h3⟩
  obtain ⟨c,hc⟩:=h0
  rw [key c hc] at h1
  rcases Bo5 hc with ⟨t,h3,rfl⟩ | ⟨vs,h3,rfl⟩
  ·refine .inl ⟨t,h3,fun e=>?_,fun e=>?_⟩
   ·subst e
    simp only [beq_self_eq_true] at h1
    exact ⟨δ',h1,h2⟩
   ·have:(t == b)=false:=by simpa using e
    rw [this] at h1
    cases h1
    exact h2
  ·cases h1
   exact .inr ⟨vs,h3,h2⟩
 ·rintro (⟨c,h1,h2,h3⟩ | ⟨vs,h1,h2⟩)
  ·have hw:wantE es p b=some (c == b):=by unfold wantE; rw [h1]; rfl
   by_cases hc:c=b
   ·obtain ⟨δ',h4,h5⟩:=h2 hc
    refine ⟨δ',?_,h5⟩
    rw [key _ hw]
    subst hc
    simp only [beq_self_eq_true]
    exact h4
   ·have:(c == b)=false:=by simpa using hc
    exact ⟨_,by rw [key _ hw,this],h3 hc⟩
  ·have hw:wantE es p b=some false:=by unfold wantE; rw [h1]; rfl
   exact ⟨_,by rw [key _ hw],h2⟩
theorem Cf1 {s:Stp} (hid:(lo.filter fun j=>!an.contains j)=[]):TW (dMain i an s) call n0 m ⟨es,lo,ws,pp⟩ Q↔SW s call es fun es'=>es.nx≤es'.nx∧Q ⟨es',[],ws,⟨i,an,es.hp,es'.hp⟩ :: pp⟩:=by
 have key:dMain i an s call n0 m ⟨es,lo,ws,pp⟩=Option.rec (motive:=fun _=>Option DSt) none (fun es'=>iteB (Nat.ble es.nx es'.nx) (some ⟨es',[],ws,⟨i,an,es.hp,es'.hp⟩ :: pp⟩) none) (s call es):=by
  unfold dMain
  show Ar7 (lo.filter fun j=>!an.contains j) _=_
  rw [Ap6,hid]
  rfl
 constructor
 ·rintro ⟨δ',h1,h2⟩
  rw [key] at h1
  obtain ⟨es',h3,h4⟩:=optR h1
  obtain ⟨h5,h6⟩:=Ab8 h4
  cases h6
  exact ⟨es',h3,Nat.le_of_ble_eq_true h5,h2⟩
 ·rintro ⟨es',h1,h2,h3⟩
  refine ⟨_,?_,h3⟩
  rw [key,h1]
  show iteB (Nat.ble es.nx es'.nx) _ _=_
  rw [Ab2,if_pos (Nat.ble_eq_true_of_le h2)]
def LW (x:Option (DV×Upd)) (K:DV→DObj→Prop):Prop:=∃ d o,x=some (d,.lay o)∧K d o
@[congr] theorem lw_congr {x x':Option (DV×Upd)} {K:DV→DObj→Prop} (h:x=x'):LW x K=LW x' K:=by rw [h]
noncomputable def ES.layAt (es:ES) (id:Nat) (o:DObj):ES:=⟨es.sl,setN es.hp id (some o),es.nx⟩
theorem A83 (es:ES) (id:Nat) (o:DObj) (p:Pa):rawE (es.layAt id o) (.t p)=rawE es (.t p):=nr rfl
theorem Bo9 (es:ES) (id:Nat) (o:DObj):(es.layAt id o).hp=setN es.hp id (some o):=nr rfl
theorem Bp0 (es:ES) (id:Nat) (o:DObj):(es.layAt id o).nx=es.nx:=nr rfl
theorem Cn9 {wide c:Bool} {x:XU} : TW (dLay i an wide c dst x ps) call n0 m ⟨es,lo,ws,pp⟩ Q↔LW (x es (n0+i)) fun d o=>Q ⟨(es.layAt (n0+i) o).putE dst d,i :: lo,lookE i an wide c (refsL es ps) n0 lo ws,pp⟩:=by
 have key:dLay i an wide c dst x ps call n0 m ⟨es,lo,ws,pp⟩=Option.rec (motive:=fun _=>Option DSt) none (fun p=>Upd.casesOn (motive:=fun _=>Option DSt) p.2 none
  (fun o=>some ⟨(ES.mk es.sl (setN es.hp (n0+i) (some o)) es.nx).putE dst p.1,i :: lo,lookE i an wide c (refsL es ps) n0 lo ws,pp⟩) (fun _ _=>none) (fun _ _=>none)) (x es (n0+i)):=by
  obtain ⟨sl,hp,nx⟩:=es
  unfold dLay DSt.cs ES.cs
  dsimp only
  rw [Ab4]
 constructor
 ·rintro ⟨δ',h1,h2⟩
  rw [key] at h1
  obtain ⟨⟨d,u⟩,h3,h4⟩:=optR h1
  cases u with
  | lay o=>cases h4; exact ⟨d,o,h3,h2⟩
  | _=>cases h4
 ·rintro ⟨d,o,h1,h2⟩
  exact ⟨_,by rw [key,h1]; rfl,h2⟩
theorem gw_tt {A B:Prop} : GW (.v (.bool true)) true A B↔A:=by rw [gw_b]; simp
theorem gw_ff {A B:Prop} : GW (.v (.bool false)) false A B↔A:=by rw [gw_b]; simp
theorem gw_tf {A B:Prop} : GW (.v (.bool true)) false A B↔B:=by rw [gw_b]; simp
theorem gw_ft {A B:Prop} : GW (.v (.bool false)) true A B↔B:=by rw [gw_b]; simp
theorem cw_t {A B:Prop} : CW (.v (.bool true)) A B↔A:=by rw [cw_b]; simp
theorem cw_f {A B:Prop} : CW (.v (.bool false)) A B↔B:=by rw [cw_b]; simp
def Aa6 (d:DV) (f:Nat→Bool):Prop:=∀ id∈d.refs,f id=true
theorem Bp1 (f:Nat→Bool):(allL (refsL es []) f=true)↔True:=⟨fun _=>trivial,fun _=>rfl⟩
theorem Bd9 {α:Type} (l:List α) (f:α→Bool):allL l f=true↔∀ x∈l,f x=true:=by rw [Aw0]; simp
theorem Ar0 (es:ES) (p:Pa) (ps:List Pa):refsL es (p :: ps)=(rawE es (.t p)).refs ++ refsL es ps:=by
 show appL (refsE (rawE es (.t p))) (refsL es ps)=_
 rw [Af0,Ak7]
theorem Be0 (p:Pa) (f:Nat→Bool):(allL (refsL es (p :: ps)) f=true)↔Aa6 (rawE es (.t p)) f∧allL (refsL es ps) f=true:=by
 rw [Ar0,Bd9,Bd9]
 simp only [List.mem_append,Aa6]
 exact ⟨fun h=>⟨fun x hx=>h x (.inl hx),fun x hx=>h x (.inr hx)⟩,fun h x hx=>hx.elim (h.1 x) (h.2 x)⟩
theorem A58 {d:DV} {f:Nat→Bool} (h:d.refs=[]):Aa6 d f↔True:=⟨fun _=>trivial,fun _ id hid=>by rw [h] at hid; cases hid⟩
theorem ro_v (v:Value) (f:Nat→Bool):Aa6 (.v v) f↔True:=A58 rfl
theorem ro_sl (cs:List DV) (n:Nat) (f:Nat→Bool):Aa6 (.sl cs n) f↔True:=A58 rfl
theorem ro_ia (cs:List DV) (f:Nat→Bool):Aa6 (.ia cs) f↔True:=A58 rfl
theorem ro_ms (id off n e:Nat) (f:Nat→Bool):Aa6 (.ms id off n e) f↔f id=true:=by simp [Aa6,DV.refs]
theorem ro_pt (id off:Nat) (f:Nat→Bool):Aa6 (.pt id off) f↔f id=true:=by simp [Aa6,DV.refs]
theorem ro_mp (id:Nat) (f:Nat→Bool):Aa6 (.mp id) f↔f id=true:=by simp [Aa6,DV.refs]
theorem Af7 (hp:Tr DObj) (id:Nat):(okRef n0 m an hp id=true)↔(hp.get id).isSome=true∧(id < n0∨n0+m≤id∨an.contains (id - n0)=true):=by
 unfold okRef
 rw [Ab2,Af6,gN_eq,Ab2,Ab2]
 by_cases h1:(hp.get id).isSome=true
 ·by_cases h2:id < n0
  ·simp [h1,h2,Nat.blt_eq]
  ·by_cases h3:n0+m≤id
   ·simp [h1,h3,Nat.ble_eq]
   ·simp [h1,h2,h3,Nat.blt_eq,Nat.ble_eq]
 ·simp [h1]
theorem Be1 (ws:List Look):Ag3 n0 m ws []=true:=by
 unfold Ag3
 simp
theorem look_nil (wide c:Bool):lookE i an wide c [] n0 lo ws=ws:=by cases wide <;> rfl
theorem xk_k {x:XU} {X:XP} (h:∀ es nid,x es nid=keepU (X es)) (nid:Nat):xKeep x nid es=X es:=by
 unfold xKeep
 rw [h]
 unfold keepU
 cases X es <;> rfl
end
theorem B60 (k:IntKind) (x:Operand) (nid:Nat) (es:ES):xKeep (xAny (.cvi k x)) nid es=cviE k (es.ds.ev x):=xk_k (X:=fun es=>cviE k (es.ds.ev x)) (k_cvi k x) nid
theorem xk_mm (b:Bool) (x y:Operand) (nid:Nat) (es:ES):xKeep (xAny (.mm b x y)) nid es=mmD b (es.ds.ev x) (es.ds.ev y):=xk_k (X:=fun es=>mmD b (es.ds.ev x) (es.ds.ev y)) (k_mm b x y) nid
def ub (n:Nat):DV:=.v (.int .u8 (n:Int))
def nilS:DV:=.v (.slice none 0 0)
theorem A25 {cs:List DV} {i:Nat} {d:DV} (h:cs[i]?=some d):partD none (cs.drop i)=some d:=by
 obtain ⟨hi,rfl⟩:=List.getElem?_eq_some_iff.1 h
 rw [List.drop_eq_getElem_cons hi]; rfl
theorem Ae0 {a b:Nat} (h:a+b < 9223372036854775808):binD .add (.v (.int .i64 (a:Int))) (.v (.int .i64 (b:Int)))=some (.v (.int .i64 ((a+b:Nat):Int))):=by
 rw [b_add,wrap_in (by omega)]; rfl
theorem Aa3 {a:Nat} (h:a < 9000000000000000000):binD .add (.v (.int .i64 (a:Int))) (.v (.int .i64 1))=some (.v (.int .i64 ((a+1:Nat):Int))):=by
 rw [b_add,wrap_in (by omega)]; rfl
end Go.DD

/- The evaluator, read with symbols: where simp is to stop; rows that grow; stores. -/
namespace Go.DD
open Go
class Hold (α:Type) where
 val:α
def SWs (s:Stp) (call:CallT) (es:ES) [q:Hold (ES→Prop)]:Prop:=SW s call es q.val
def EWs (c:CE) (call:CallT) (es:ES) [q:Hold (Exit→ES→Prop)]:Prop:=EW c call es q.val
def KWs (call:CallT) (tg:Tg) (ds:List DV) (hp:Tr DObj) (nx:Nat) [q:Hold (DV→Tr DObj→Nat→Prop)]:Prop:=KW call tg ds hp nx q.val
def TWs (s:DStp) (call:CallT) (n0 m:Nat) (es:ES) (lo:List Nat) (ws:List Look) (pp:List Past) [q:Hold (DSt→Prop)]:Prop:=TW s call n0 m ⟨es,lo,ws,pp⟩ q.val
section
variable {call:CallT} {es:ES} {Q:ES→Prop} {dst:Option Pa} {R:Exit→ES→Prop}
theorem z_app {T e b:Nat} {d x:Operand} : SW (sU dst (xAny (.app T e b d x))) call es Q↔@SWs (sU dst (xAny (.app T e b d x))) call es ⟨Q⟩:=Iff.rfl
theorem z_bsl {T n e:Nat} {z:List Value} {ps:List (Nat×Nat×Operand)} : SW (sU dst (xAny (.bsl T n e z ps))) call es Q↔@SWs (sU dst (xAny (.bsl T n e z ps))) call es ⟨Q⟩:=Iff.rfl
theorem z_st {n:Nat} {a x:EO} : SW (sU dst (xSt n a x)) call es Q↔@SWs (sU dst (xSt n a x)) call es ⟨Q⟩:=Iff.rfl
theorem z_sli {e:Nat} {x:Operand} {lo hi:Option Operand} : SW (sU dst (xAny (.sli e x lo hi))) call es Q↔@SWs (sU dst (xAny (.sli e x lo hi))) call es ⟨Q⟩:=Iff.rfl
theorem z_b2s {x:Operand} : SW (sU dst (xAny (.b2s x))) call es Q↔@SWs (sU dst (xAny (.b2s x))) call es ⟨Q⟩:=Iff.rfl
theorem z_cv {tb:Option (List (TypeId×FuncId))} {x:EO} {args:List EO} : SW (sCv tb x args dst) call es Q↔@SWs (sCv tb x args dst) call es ⟨Q⟩:=Iff.rfl
theorem B61 {f:Nat} {args:List EO} : SW (sCall f args dst) call es Q↔@KWs call (.fn f) (args.map (rawE es)) es.hp es.nx ⟨fun d hp nx=>Q ((ES.mk es.sl hp nx).putE dst d)⟩:=sw_call
theorem z_l {k:Nat} {c:CE} : EW (cL k c) call es R↔@EWs (cL k c) call es ⟨R⟩:=Iff.rfl
theorem z_r {nt:Nat} {rd:Bool} {g:EO} {ps:List Nat} {a b:DC} : EW (cR nt rd g ps a b) call es R↔@EWs (cR nt rd g ps a b) call es ⟨R⟩:=Iff.rfl
end
section
variable {call:CallT} {es:ES} {dst:Option Pa} {q:Hold (ES→Prop)}
theorem Am8 {a x:EO} {id off T:Nat} {v:DV} {cs:List DV} (ea:rawE es a=.pt id off) (hg:es.hp.get id=some (.row T cs)) (ev:evE es x=v) (hv:v.okC=true∧v.cells=[v]) (hoff:off < cs.length)
  (h:∀ hp',hp'.get id=some (.row T (cs.set off v))→(∀ j,j≠id→hp'.get j=es.hp.get j)→q.val ((ES.mk es.sl hp' es.nx).putE dst .any)) :
  SWs (sU dst (xSt 1 a x)) call es:=by
 show SW _ _ _ _
 rw [sw_st,ea,st_pt,hg,ev,st_r id off 1 v T cs hv.1 (by rw [hv.2]; rfl) (by omega),Am7]
 have e:cs.take off ++ v.cells ++ cs.drop (off+1)=cs.set off v:=by
  rw [hv.2,List.set_eq_take_append_cons_drop,if_pos hoff]; simp
 rw [e]
 exact h (es.up (.wr id (.row T (cs.set off v)))).hp (by rw [up_wr,get_set,if_pos rfl]) fun j hj=>by rw [up_wr,get_set,if_neg hj]
theorem Ac0 {n:Nat} {a x:EO} {id T:Nat} {ds cs:List DV} (ea:rawE es a=.pt id 0) (hg:es.hp.get id=some (.row T cs)) (ev:evE es x=.agg ds) (h2:ds.length=n) (h3:cs.length=n)
  (h:∀ hp',hp'.get id=some (.row T ds)→(∀ j,j≠id→hp'.get j=es.hp.get j)→q.val ((ES.mk es.sl hp' es.nx).putE dst .any)) :
  SWs (sU dst (xSt n a x)) call es:=by
 show SW _ _ _ _
 rw [sw_st,ea,st_pt,hg,ev,st_all id n ds T cs h2 h3,Am7]
 exact h (es.up (.wr id (.row T ds))).hp (by rw [up_wr,get_set,if_pos rfl]) fun j hj=>by rw [up_wr,get_set,if_neg hj]
theorem Af8 (es:ES) (x:Operand) (n:Int):bndD es.ds n (some x)=intD (es.ds.ev x):=rfl
theorem Ak1 (es:ES) (n:Int):bndD es.ds n none=some n:=rfl
end
theorem evt (es:ES) (p:Pa):evE es (.t p)=liveE es.hp (rawE es (.t p)):=nr rfl
theorem ok_ms (id off n e:Nat):(DV.ms id off n e).okC=true∧(DV.ms id off n e).cells=[.ms id off n e]:=⟨rfl,rfl⟩
theorem Co0 {k:IntKind} {n:Nat} (h:n < 256):cviE .u8 (.v (.int k (n:Int)))=some (ub n):=by
 show some (DV.v (.int .u8 (IntKind.u8.wrap (n:Int))))=_
 rw [IntWalk.u8_in _ (by omega)]; rfl
theorem A84 {k:IntKind} {n:Nat} (h:n < 9223372036854775808):cviE .i64 (.v (.int k (n:Int)))=some (.v (.int .i64 (n:Int))):=by
 show some (DV.v (.int .i64 (IntKind.i64.wrap (n:Int))))=_
 rw [wrap_in (by omega)]
theorem put_n (es:ES) (d:DV):ES.putE es none d=es:=nr rfl
section
variable {call:CallT} {n0 m i:Nat} {es:ES} {lo an:List Nat} {ws:List Look} {pp:List Past} {Q:DSt→Prop} {q:Hold (DSt→Prop)} {ps:List Pa} {dst:Option Pa}
theorem B62 {s:Stp} : TW (dMain i an s) call n0 m ⟨es,lo,ws,pp⟩ Q↔@TWs (dMain i an s) call n0 m es lo ws pp ⟨Q⟩:=Iff.rfl
theorem z_lay {wide c:Bool} {x:XU} : TW (dLay i an wide c dst x ps) call n0 m ⟨es,lo,ws,pp⟩ Q↔@TWs (dLay i an wide c dst x ps) call n0 m es lo ws pp ⟨Q⟩:=Iff.rfl
theorem Aa0 {s:Stp} (hid:(lo.filter fun j=>!an.contains j)=[]) (h : @SWs s call es ⟨fun es'=>es.nx≤es'.nx∧q.val ⟨es',[],ws,⟨i,an,es.hp,es'.hp⟩ :: pp⟩⟩):TWs (dMain i an s) call n0 m es lo ws pp:=(Cf1 hid).2 h
theorem Aa1 {hp:Tr DObj} {id:Nat} {o:DObj} (h:hp.get id=some o) (hl:id < n0):okRef n0 m an hp id=true:=(Af7 hp id).2 ⟨by rw [h]; rfl,.inl hl⟩
theorem Ak2 {hp:Tr DObj} {o:DObj} (h:hp.get (n0+i)=some o) (hc:an.contains i=true):okRef n0 m an hp (n0+i)=true:=(Af7 hp _).2 ⟨by rw [h]; rfl,.inr (.inr (by rw [Nat.add_sub_cancel_left]; exact hc))⟩
theorem Ah9 {hp:Tr DObj} {id T:Nat} {d:DV} (h:hp.get id=some (.row T [d])):ldD hp none (.pt id 0)=some d:=by rw [ld_p h]; rfl
end
noncomputable def extD (hp:Tr DObj) (d:DV) (i:Nat):Option DV:=match d with
 | .tup ds=>match ds[i]? with
  | some (.v v)=>some (.v v)
  | some _=>match liveE hp (.tup ds) with
   | .tup ds=>ds[i]?
   | _=>none
  | none=>none
 | _=>none
theorem x_xe (p:Pa) (i:Nat) (es:ES):xExt (.t p) i es=extD es.hp (rawE es (.t p)) i:=by
 have hev:evE es (.t p)=liveE es.hp (rawE es (.t p)):=rfl
 have hn:∀ ds:List DV,nthL i ds=ds[i]?:=by
  intro ds
  unfold nthL
  rw [Ae4,← List.head?_drop]
  cases ds.drop i <;> rfl
 unfold xExt extD
 rw [hev]
 cases rawE es (.t p) with
 | tup ds=>
  show Option.rec (motive:=fun _=>Option DV) none (fun d=>vD d (fun v=>some (.v v)) (cTup (liveE es.hp (.tup ds)) (fun ds=>nthL i ds) none)) (nthL i ds)=_
  rw [hn]
  simp only []
  cases ds[i]? with
  | none=>rfl
  | some d=>
   have e:∀ x:DV,cTup x (fun ds=>nthL i ds) (none:Option DV)=match x with
    | .tup ds=>ds[i]?
    | _=>none:=by
    intro x
    cases x <;> first | rfl | exact hn _
   cases d <;> first | rfl | exact e _
 | _=>rfl
theorem By9 {hp:Tr DObj} {ds:List DV} (h:∀ id∈DV.refsL ds,(hp.get id).isSome=true):liveE hp (.tup ds)=.tup ds:=Ah8 fun id hid=>h id (by rwa [DV.refs] at hid)
theorem Ao4 {hp:Tr DObj} {ds:List DV} {i:Nat} (h:∀ id∈DV.refsL ds,(hp.get id).isSome=true):extD hp (.tup ds) i=ds[i]?:=by
 unfold extD
 simp only [By9 h]
 cases ds[i]? with
 | none=>rfl
 | some d=>cases d <;> rfl
theorem ext21 {hp:Tr DObj} {d:DV} {v:Value} : extD hp (.tup [d,.v v]) 1=some (.v v):=nr rfl
theorem ext31 {hp:Tr DObj} {d:DV} {w v:Value} : extD hp (.tup [d,.v w,.v v]) 1=some (.v w):=nr rfl
theorem ext32 {hp:Tr DObj} {d e:DV} {v:Value} : extD hp (.tup [d,e,.v v]) 2=some (.v v):=nr rfl
theorem p0:pth 0=.o:=nr rfl
theorem p1:pth 1=.l .o:=nr rfl
theorem p2:pth 2=.r .o:=nr rfl
theorem p3:pth 3=.l (.l .o):=nr rfl
theorem p4:pth 4=.r (.l .o):=nr rfl
theorem p5:pth 5=.l (.r .o):=nr rfl
theorem p6:pth 6=.r (.r .o):=nr rfl
theorem p7:pth 7=.l (.l (.l .o)):=nr rfl
theorem p8:pth 8=.r (.l (.l .o)):=nr rfl
theorem p9:pth 9=.l (.r (.l .o)):=nr rfl
theorem p10:pth 10=.r (.r (.l .o)):=nr rfl
theorem p11:pth 11=.l (.l (.r .o)):=nr rfl
theorem p12:pth 12=.r (.l (.r .o)):=nr rfl
theorem p13:pth 13=.l (.r (.r .o)):=nr rfl
theorem p14:pth 14=.r (.r (.r .o)):=nr rfl
theorem p15:pth 15=.l (.l (.l (.l .o))):=nr rfl
theorem p16:pth 16=.r (.l (.l (.l .o))):=nr rfl
theorem p17:pth 17=.l (.r (.l (.l .o))):=nr rfl
theorem p18:pth 18=.r (.r (.l (.l .o))):=nr rfl
theorem p19:pth 19=.l (.l (.r (.l .o))):=nr rfl
theorem p20:pth 20=.r (.l (.r (.l .o))):=nr rfl
theorem p21:pth 21=.l (.r (.r (.l .o))):=nr rfl
theorem p22:pth 22=.r (.r (.r (.l .o))):=nr rfl
theorem p23:pth 23=.l (.l (.l (.r .o))):=nr rfl
theorem p24:pth 24=.r (.l (.l (.r .o))):=nr rfl
theorem p25:pth 25=.l (.r (.l (.r .o))):=nr rfl
theorem p26:pth 26=.r (.r (.l (.r .o))):=nr rfl
theorem p27:pth 27=.l (.l (.r (.r .o))):=nr rfl
theorem p28:pth 28=.r (.l (.r (.r .o))):=nr rfl
theorem p29:pth 29=.l (.r (.r (.r .o))):=nr rfl
theorem p30:pth 30=.r (.r (.r (.r .o))):=nr rfl
theorem p31:pth 31=.l (.l (.l (.l (.l .o)))):=nr rfl
theorem p32:pth 32=.r (.l (.l (.l (.l .o)))):=nr rfl
theorem p33:pth 33=.l (.r (.l (.l (.l .o)))):=nr rfl
theorem p34:pth 34=.r (.r (.l (.l (.l .o)))):=nr rfl
theorem p35:pth 35=.l (.l (.r (.l (.l .o)))):=nr rfl
theorem p36:pth 36=.r (.l (.r (.l (.l .o)))):=nr rfl
theorem p37:pth 37=.l (.r (.r (.l (.l .o)))):=nr rfl
theorem p38:pth 38=.r (.r (.r (.l (.l .o)))):=nr rfl
theorem p39:pth 39=.l (.l (.l (.r (.l .o)))):=nr rfl
theorem p40:pth 40=.r (.l (.l (.r (.l .o)))):=nr rfl
theorem p41:pth 41=.l (.r (.l (.r (.l .o)))):=nr rfl
theorem p42:pth 42=.r (.r (.l (.r (.l .o)))):=nr rfl
theorem p43:pth 43=.l (.l (.r (.r (.l .o)))):=nr rfl
theorem p44:pth 44=.r (.l (.r (.r (.l .o)))):=nr rfl
theorem p45:pth 45=.l (.r (.r (.r (.l .o)))):=nr rfl
theorem p46:pth 46=.r (.r (.r (.r (.l .o)))):=nr rfl
theorem p47:pth 47=.l (.l (.l (.l (.r .o)))):=nr rfl
theorem p48:pth 48=.r (.l (.l (.l (.r .o)))):=nr rfl
theorem p49:pth 49=.l (.r (.l (.l (.r .o)))):=nr rfl
theorem p50:pth 50=.r (.r (.l (.l (.r .o)))):=nr rfl
theorem p51:pth 51=.l (.l (.r (.l (.r .o)))):=nr rfl
theorem p52:pth 52=.r (.l (.r (.l (.r .o)))):=nr rfl
theorem p53:pth 53=.l (.r (.r (.l (.r .o)))):=nr rfl
theorem p54:pth 54=.r (.r (.r (.l (.r .o)))):=nr rfl
theorem p55:pth 55=.l (.l (.l (.r (.r .o)))):=nr rfl
theorem p56:pth 56=.r (.l (.l (.r (.r .o)))):=nr rfl
theorem p57:pth 57=.l (.r (.l (.r (.r .o)))):=nr rfl
theorem p58:pth 58=.r (.r (.l (.r (.r .o)))):=nr rfl
theorem p59:pth 59=.l (.l (.r (.r (.r .o)))):=nr rfl
theorem p60:pth 60=.r (.l (.r (.r (.r .o)))):=nr rfl
theorem p61:pth 61=.l (.r (.r (.r (.r .o)))):=nr rfl
theorem p62:pth 62=.r (.r (.r (.r (.r .o)))):=nr rfl
theorem p63:pth 63=.l (.l (.l (.l (.l (.l .o))))):=nr rfl
theorem p64:pth 64=.r (.l (.l (.l (.l (.l .o))))):=nr rfl
theorem p65:pth 65=.l (.r (.l (.l (.l (.l .o))))):=nr rfl
theorem p66:pth 66=.r (.r (.l (.l (.l (.l .o))))):=nr rfl
theorem p67:pth 67=.l (.l (.r (.l (.l (.l .o))))):=nr rfl
theorem p68:pth 68=.r (.l (.r (.l (.l (.l .o))))):=nr rfl
theorem p69:pth 69=.l (.r (.r (.l (.l (.l .o))))):=nr rfl
theorem p70:pth 70=.r (.r (.r (.l (.l (.l .o))))):=nr rfl
theorem p71:pth 71=.l (.l (.l (.r (.l (.l .o))))):=nr rfl
theorem p72:pth 72=.r (.l (.l (.r (.l (.l .o))))):=nr rfl
theorem p73:pth 73=.l (.r (.l (.r (.l (.l .o))))):=nr rfl
theorem p74:pth 74=.r (.r (.l (.r (.l (.l .o))))):=nr rfl
theorem p75:pth 75=.l (.l (.r (.r (.l (.l .o))))):=nr rfl
theorem p76:pth 76=.r (.l (.r (.r (.l (.l .o))))):=nr rfl
theorem p77:pth 77=.l (.r (.r (.r (.l (.l .o))))):=nr rfl
theorem p78:pth 78=.r (.r (.r (.r (.l (.l .o))))):=nr rfl
theorem p79:pth 79=.l (.l (.l (.l (.r (.l .o))))):=nr rfl
theorem p80:pth 80=.r (.l (.l (.l (.r (.l .o))))):=nr rfl
theorem p81:pth 81=.l (.r (.l (.l (.r (.l .o))))):=nr rfl
theorem p82:pth 82=.r (.r (.l (.l (.r (.l .o))))):=nr rfl
theorem p83:pth 83=.l (.l (.r (.l (.r (.l .o))))):=nr rfl
theorem p84:pth 84=.r (.l (.r (.l (.r (.l .o))))):=nr rfl
theorem p85:pth 85=.l (.r (.r (.l (.r (.l .o))))):=nr rfl
theorem p86:pth 86=.r (.r (.r (.l (.r (.l .o))))):=nr rfl
theorem p87:pth 87=.l (.l (.l (.r (.r (.l .o))))):=nr rfl
theorem p88:pth 88=.r (.l (.l (.r (.r (.l .o))))):=nr rfl
theorem p89:pth 89=.l (.r (.l (.r (.r (.l .o))))):=nr rfl
theorem p90:pth 90=.r (.r (.l (.r (.r (.l .o))))):=nr rfl
theorem p91:pth 91=.l (.l (.r (.r (.r (.l .o))))):=nr rfl
theorem p92:pth 92=.r (.l (.r (.r (.r (.l .o))))):=nr rfl
theorem p93:pth 93=.l (.r (.r (.r (.r (.l .o))))):=nr rfl
theorem p94:pth 94=.r (.r (.r (.r (.r (.l .o))))):=nr rfl
theorem p95:pth 95=.l (.l (.l (.l (.l (.r .o))))):=nr rfl
theorem p96:pth 96=.r (.l (.l (.l (.l (.r .o))))):=nr rfl
theorem p97:pth 97=.l (.r (.l (.l (.l (.r .o))))):=nr rfl
theorem p98:pth 98=.r (.r (.l (.l (.l (.r .o))))):=nr rfl
theorem p99:pth 99=.l (.l (.r (.l (.l (.r .o))))):=nr rfl
end Go.DD

/- The evaluator, read with symbols: calls of function values and of rounds; what a drawn region has looked at. -/
namespace Go.DD
open Go
section
variable {call:CallT} {es:ES} {dst:Option Pa} {q:Hold (ES→Prop)}
theorem Aa7 {f:Nat} {args:List EO} (h:KW call (.fn f) (args.map (rawE es)) es.hp es.nx fun d hp nx=>q.val ((ES.mk es.sl hp nx).putE dst d)):SWs (sCall f args dst) call es:=sw_call.2 h
theorem doc {tg:Tg} {ds:List DV} (h:KW call tg ds es.hp es.nx fun d hp nx=>q.val ((ES.mk es.sl hp nx).putE dst d)):SW (Ai8 tg ds dst) call es q.val:=by
 obtain ⟨d,hp',nx',h1,h2⟩:=h
 refine ⟨_,?_,h2⟩
 unfold Ai8
 rw [h1]; rfl
theorem sws_y {p:Pa} {args:List EO} {L:Nat} {o:DObj} (h0:rawE es (.t p)=.yl L) (hL:es.hp.get L=some o) (h:KW call (.yl L) (args.map (rawE es)) es.hp es.nx fun d hp nx=>q.val ((ES.mk es.sl hp nx).putE dst d)):SWs (sCv none (.t p) args dst) call es:=by
 have he:evE es (.t p)=.yl L:=by
  rw [evt,h0]
  exact Ah8 fun i hi=>by
   have:i=L:=by simpa [DV.refs] using hi
   rw [this,hL]; rfl
 obtain ⟨es',h1,h2⟩:=doc h
 refine ⟨es',?_,h2⟩
 unfold sCv
 rw [he]
 have e:evL es args=args.map (rawE es):=by unfold evL; rw [Am1]
 show Ai8 (.yl L) (evL es args) dst call es=_
 rw [e]; exact h1
theorem sws_f {p:Pa} {args:List EO} {f:Nat} {fs cs:List DV} (h0:evE es (.t p)=.fn (.func f) (.tup fs :: cs)) (h:KW call (.fn f) (fs ++ (args.map (rawE es) ++ cs)) es.hp es.nx fun d hp nx=>q.val ((ES.mk es.sl hp nx).putE dst d)):SWs (sCv none (.t p) args dst) call es:=by
 obtain ⟨es',h1,h2⟩:=doc h
 refine ⟨es',?_,h2⟩
 unfold sCv
 rw [h0]
 have e:evL es args=args.map (rawE es):=by unfold evL; rw [Am1]
 show Ai8 (.fn f) (appL fs (appL (evL es args) cs)) dst call es=_
 rw [e,Af0,Af0]; exact h1
end
section
variable {call:CallT} {es:ES} {dst:Option Pa} {q:Hold (ES→Prop)} {Q:ES→Prop}
theorem z_al {T:TypeId} {z:List DV} : SW (sU dst (xAl T z)) call es Q↔@SWs (sU dst (xAl T z)) call es ⟨Q⟩:=Iff.rfl
theorem z_bx {T:TypeId} {x:EO} : SW (sU dst (xBx T x)) call es Q↔@SWs (sU dst (xBx T x)) call es ⟨Q⟩:=Iff.rfl
theorem Ac5 {T:TypeId} {z:List DV} (h:∀ hp',hp'.get es.nx=some (.row T z)→(∀ j,j≠es.nx→hp'.get j=es.hp.get j)→q.val ((ES.mk es.sl hp' (es.nx+1)).putE dst (.pt es.nx 0))):SWs (sU dst (xAl T z)) call es:=
 sw_al.2 (h (es.up (.lay (.row T z))).hp (by rw [Al5,get_set,if_pos rfl]) fun j hj=>by rw [Al5,get_set,if_neg hj])
theorem Bp2 {T:TypeId} {x:EO} {v:DV} (hv:evE es x=v) (hk:v.okC=true∧v.cells=[v]) (h:∀ hp',hp'.get es.nx=some (.row T [v])→(∀ j,j≠es.nx→hp'.get j=es.hp.get j)→q.val ((ES.mk es.sl hp' (es.nx+1)).putE dst (.pt es.nx 0))):SWs (sU dst (xBx T x)) call es:=by
 refine sw_bx.2 ⟨.pt es.nx 0,.lay (.row T [v]),?_,h (es.up (.lay (.row T [v]))).hp (by rw [Al5,get_set,if_pos rfl]) fun j hj=>by rw [Al5,get_set,if_neg hj]⟩
 unfold bxD
 rw [hv,if_pos hk.1,hk.2]
theorem z_mkm:SW (sU dst (xAny .mkm)) call es Q↔@SWs (sU dst (xAny .mkm)) call es ⟨Q⟩:=Iff.rfl
theorem Cf2 (h:∀ hp',hp'.get es.nx=some (.mapo 0 [])→(∀ j,j≠es.nx→hp'.get j=es.hp.get j)→q.val ((ES.mk es.sl hp' (es.nx+1)).putE dst (.mp es.nx))):SWs (sU dst (xAny .mkm)) call es:=
 sw_u.2 ⟨.mp es.nx,.lay (.mapo 0 []),rfl,h (es.up (.lay (.mapo 0 []))).hp (by rw [Al5,get_set,if_pos rfl]) fun j hj=>by rw [Al5,get_set,if_neg hj]⟩
end
theorem Ar1 {f:DV→DV→Bool} : ∀ {l:List DV},(∀ c∈l,f c c=true)→sameL f l l=true
 | [],_=>rfl
 | a :: l,h=>by
  show (f a a && sameL f l l)=true
  rw [h a (List.mem_cons_self ..),Ar1 fun c hc=>h c (List.mem_cons_of_mem _ hc)]; rfl
theorem Aj1 {H H':Tr DObj} {id:Nat} {T:TypeId} {cs:List DV} (h:H.get id=some (.row T cs)) (he:H'.get id=H.get id) (hc:∀ c∈cs,Ab1 6 c c=true):sameAt H H' id=true:=by
 unfold sameAt
 rw [he,h]
 show (T == T && sameL (Ab1 6) cs cs)=true
 rw [Ar1 hc]; simp
section
variable {n0 m i:Nat} {an refs lo:List Nat} {c:Bool} {ws:List Look} {ps:List Past}
theorem Bz0 {w:Look} : Ag3 n0 m (w :: ws) ps=true↔(∀ p∈ps,(w.an.contains p.q || p.an.contains w.i || (if Nat.blt w.id n0 || Nat.ble (n0+m) w.id then (if w.c then sameAt p.a p.b w.id else Av9 p.a p.b w.id) else w.own && !p.an.contains (w.id - n0)))=true)∧Ag3 n0 m ws ps=true:=by
 unfold Ag3
 rw [List.all_cons,Bool.and_eq_true,List.all_eq_true]
theorem Ai2 (h:∀ id∈refs,id < n0∧∀ p∈ps,p.an.contains i=true∨an.contains p.q=true∨(if c=true then sameAt p.a p.b id=true else Av9 p.a p.b id=true)) (h2:Ag3 n0 m ws ps=true):Ag3 n0 m (lookE i an true c refs n0 lo ws) ps=true:=by
 have e:lookE i an true c refs n0 lo ws=(refs.map fun id=>⟨i,an,id,lo.contains (id - n0),c⟩) ++ ws:=by
  show appL (mapL _ refs) ws=_
  rw [Af0,Am1]
 rw [e]
 clear e
 induction refs with
 | nil=>exact h2
 | cons id refs ih=>
  rw [List.map_cons,List.cons_append,Bz0]
  refine ⟨fun p hp=>?_,ih fun id hid=>h id (List.mem_cons_of_mem _ hid)⟩
  obtain ⟨h3,h4⟩:=h id (List.mem_cons_self ..)
  simp only
  have hb:(Nat.blt id n0 || Nat.ble (n0+m) id)=true:=by
   rw [Bool.or_eq_true]; exact .inl (by simpa [Nat.blt_eq] using h3)
  rw [if_pos hb]
  rcases h4 p hp with h | h | h
  ·rw [h]; simp
  ·rw [h]; simp
  ·cases c with
   | true=>simp only [if_true] at h; simp [h]
   | false=>simp at h; simp [h]
end
end Go.DD

/- The evaluator, read with symbols: rows of integers; maps of numbers. -/
namespace Go.DD
open Go
section
variable {call:CallT} {es:ES} {dst:Option Pa} {q:Hold (ES→Prop)} {n0 m i:Nat} {lo an:List Nat} {ws:List Look} {pp:List Past} {r:Hold (DSt→Prop)} {ps:List Pa}
def lkpD (hp:Tr DObj) (kd:KD) (z:Value) (x k:DV):Option DV:=match kvOf k with
 | some kv=>if Al3 kd kv=true then (match x with
  | .v (.map none)=>some (lkRes false (.v z) false)
  | .mp id=>match hp.get id with
   | some (.mapo _ es)=>match findD kd kv es 0 with
    | some (some p)=>some (lkRes false p.2.v true)
    | some none=>some (lkRes false (.v z) false)
    | none=>none
   | _=>none
  | _=>none) else none
 | none=>none
theorem B63 (kd:KD) (z:Value) (x k:Operand) (nid:Nat) (es:ES):xKeep (xAny (.lkp kd z x k false)) nid es=lkpD es.hp kd z (es.ds.ev x) (es.ds.ev k):=by
 refine xk_k (X:=fun es=>lkpD es.hp kd z (es.ds.ev x) (es.ds.ev k)) (fun es nid=>?_) nid
 rw [x_any]
 simp only [execU,lkpD]
 cases kvOf (es.ds.ev k) with
 | none=>rfl
 | some kv=>
  simp only []
  by_cases hk:Al3 kd kv=true
  ·rw [if_pos hk,if_pos hk]
   cases es.ds.ev x with
   | v a=>
    cases a with
    | map a=>cases a <;> rfl
    | _=>rfl
   | mp id=>
    show (match es.hp.get id with
     | some (.mapo _ es)=>match findD kd kv es 0 with
      | some (some p)=>some (lkRes false p.2.v true,Upd.keep)
      | some none=>some (lkRes false (.v z) false,.keep)
      | none=>none
     | _=>none)=keepU (match es.hp.get id with
     | some (.mapo _ es)=>match findD kd kv es 0 with
      | some (some p)=>some (lkRes false p.2.v true)
      | some none=>some (lkRes false (.v z) false)
      | none=>none
     | _=>none)
    cases es.hp.get id with
    | none=>rfl
    | some o=>
     cases o with
     | mapo c l=>
      simp only []
      cases findD kd kv l 0 with
      | none=>rfl
      | some r=>cases r <;> rfl
     | _=>rfl
   | _=>rfl
  ·rw [if_neg hk,if_neg hk]; rfl
end
section
variable {call:CallT} {es:ES} {dst:Option Pa} {q:Hold (ES→Prop)}
theorem Af2 {p:Pa} {args:List EO} {f:Nat} {fs cs:List DV} (h0:evE es (.t p)=.fn (.func f) (.tup fs :: cs)) (h:KW call (.fn f) (fs ++ (args.map (rawE es) ++ cs)) es.hp es.nx fun d hp nx=>q.val ((ES.mk es.sl hp nx).putE dst d)):SWs (sCf none (.t p) args dst) call es:=by
 obtain ⟨es',h1,h2⟩:=doc h
 refine ⟨es',?_,h2⟩
 unfold sCf
 rw [h0]
 have e:evL es args=args.map (rawE es):=by unfold evL; rw [Am1]
 show Ai8 (.fn f) (appL fs (appL (evL es args) cs)) dst call es=_
 rw [e,Af0,Af0]; exact h1
end
theorem ro_fn (f:Nat) (id off:Nat) (g:Nat→Bool):Aa6 (.fn (.func f) [.tup [],.pt id off]) g↔g id=true:=by simp [Aa6,DV.refs,DV.refsL]
theorem At4 {hp:Tr DObj} {f id off:Nat} {o:DObj} (h:hp.get id=some o):liveE hp (.fn (.func f) [.tup [],.pt id off])=.fn (.func f) [.tup [],.pt id off]:=Ah8 fun i hi=>by
 have:i=id:=by simpa [DV.refs,DV.refsL] using hi
 rw [this,h]; rfl
theorem Cf3 {k:IntKind} {n:Nat} (h:n < 4294967296):cviE .u32 (.v (.int k (n:Int)))=some (.v (.int .u32 (n:Int))):=by
 show some (DV.v (.int .u32 (IntKind.u32.wrap (n:Int))))=_
 rw [IntWalk.u32_in _ (by omega)]
end Go.DD

/- The evaluator, read with symbols: bytes as strings; empty slices; numbers that are turned and divided. -/
namespace Go.DD
open Go
section
variable {call:CallT} {es:ES} {dst:Option Pa} {q:Hold (ES→Prop)}
end
end Go.DD

/- The evaluator, read with symbols: records and rows of them; the test for nil. -/
namespace Go.DD
open Go
section
variable {call:CallT} {es:ES} {dst:Option Pa} {q:Hold (ES→Prop)} {Q:ES→Prop}
theorem z_bld {z:List Value} {ps:List (Nat×Nat×Operand)} : SW (sU dst (xAny (.bld z ps))) call es Q↔@SWs (sU dst (xAny (.bld z ps))) call es ⟨Q⟩:=Iff.rfl
theorem z_nil {k:Nat} {neg:Bool} {x y:Operand} : SW (sU dst (xAny (.nilq k neg x y))) call es Q↔@SWs (sU dst (xAny (.nilq k neg x y))) call es ⟨Q⟩:=Iff.rfl
theorem Ak9 {z:List Value} {ps:List (Nat×Nat×Operand)} {cs:List DV} (hf:fillD (z.map .v) (ps.map fun p=>(p.1,p.2.1,es.ds.ev p.2.2))=some cs) (h:q.val (es.putE dst (.agg cs))):SWs (sU dst (xAny (.bld z ps))) call es:=by
 show SW _ _ _ _
 rw [sw_u,x_any]
 refine ⟨.agg cs,.keep,?_,h⟩
 simp only [execU,hf]
theorem Am9 {k:Nat} {neg:Bool} {x y:Operand} (b:Bool) (hx:isNil k (es.ds.ev x)=some b) (hy:isNil k (es.ds.ev y)=some true) (h:q.val (es.putE dst (.v (.bool (xor neg b))))):SWs (sU dst (xAny (.nilq k neg x y))) call es:=by
 show SW _ _ _ _
 rw [sw_u,x_any]
 refine ⟨.v (.bool (xor neg b)),.keep,?_,h⟩
 cases b <;> simp only [execU,hx,hy]
end
end Go.DD

/- The evaluator, read with symbols: parts of slices in regions that draw their order; new rows of bytes; copies. -/
namespace Go.DD
open Go
section
variable {call:CallT} {es:ES} {dst:Option Pa} {q:Hold (ES→Prop)} {Q:ES→Prop}
end
theorem A26 {k:IntKind} {n:Nat} (h:n < 9223372036854775808):cviE .u64 (.v (.int k (n:Int)))=some (.v (.int .u64 (n:Int))):=by
 show some (DV.v (.int .u64 (IntKind.u64.wrap (n:Int))))=_
 rw [IntWalk.u64_in _ (by omega)]
end Go.DD

/- The evaluator, read with symbols: bytes as strings in regions that draw their order; when strings of bytes are equal. -/
namespace Go.DD
open Go
end Go.DD

/- The evaluator, read with symbols: lists of records, as content or as own rows. -/
namespace Go.DD
open Go
section
variable {α:Type} {f:α→List DV} {e:Nat}
theorem A59 (hf:∀ x,(f x).length=e):∀ (l:List α) (i:Nat),(l.flatMap f).drop (i*e)=(l.drop i).flatMap f
 | [],i=>by simp
 | a :: l,0=>by simp
 | a :: l,i+1=>by
  rw [List.flatMap_cons,List.drop_succ_cons,← A59 hf l i,List.drop_append,hf,Nat.add_mul,Nat.one_mul,Nat.add_sub_cancel,List.drop_of_length_le (by rw [hf]; omega),List.nil_append]
theorem A60 (hf:∀ x,(f x).length=e):∀ (l:List α) (i:Nat),(l.flatMap f).take (i*e)=(l.take i).flatMap f
 | [],i=>by simp
 | a :: l,0=>by simp
 | a :: l,i+1=>by
  rw [List.flatMap_cons,List.take_succ_cons,List.flatMap_cons,← A60 hf l i,List.take_append,hf,Nat.add_mul,Nat.one_mul,Nat.add_sub_cancel,List.take_of_length_le (by rw [hf]; omega)]
end
def adrE (e:Nat):DV→Nat→DV
 | .sl cs _,i=>.ia (cs.drop (i*e))
 | .ms id off _ _,i=>.pt id (off+i*e)
 | _,_=>.any
def adrF:DV→Nat→DV
 | .ia cs,k=>.ia (cs.drop k)
 | .pt id off,k=>.pt id (off+k)
 | _,_=>.any
section
variable {α:Type} {T e:Nat} {f:α→List DV} {hp hp':Tr DObj} {d:DV} {l:List α}
end
section
variable {α:Type} {T e:Nat} {f:α→List DV} {call:CallT} {es:ES} {dst:Option Pa} {q:Hold (ES→Prop)}
end
end Go.DD

/- The evaluator, read with symbols: small rules. -/
namespace Go.DD
open Go
abbrev iv (n:Int):DV:=.v (.int .i64 n)
abbrev bv (b:Bool):DV:=.v (.bool b)
abbrev sv (s:ByteArray):DV:=.v (.string s)
theorem A85 (hp:Tr DObj) (s:ByteArray):liveE hp (sv s)=sv s:=Aj0 hp _
section
variable {call:CallT} {es:ES} {dst:Option Pa} {q:Hold (ES→Prop)} {Q:ES→Prop}
theorem kws {tg:Tg} {ds:List DV} {hp:Tr DObj} {nx:Nat} {q:Hold (DV→Tr DObj→Nat→Prop)} (h:KW call tg ds hp nx q.val):KWs call tg ds hp nx:=h
theorem Ab0 {T:TypeId} {x:EO} {cs:List DV} (hv:evE es x=.agg cs) (h:∀ hp',hp'.get es.nx=some (.row T cs)→(∀ j,j≠es.nx→hp'.get j=es.hp.get j)→q.val ((ES.mk es.sl hp' (es.nx+1)).putE dst (.pt es.nx 0))):SWs (sU dst (xBx T x)) call es:=by
 refine sw_bx.2 ⟨.pt es.nx 0,.lay (.row T cs),?_,h (es.up (.lay (.row T cs))).hp (by rw [Al5,get_set,if_pos rfl]) fun j hj=>by rw [Al5,get_set,if_neg hj]⟩
 unfold bxD
 rw [hv]
 rfl
end
theorem EW.seq {a c:CE} {call:CallT} {es:ES} {Q:Exit→ES→Prop} (R:ES→Prop) (h1:EW a call es (thenE R Q)) (h2:∀ es1,R es1→EW c call es1 Q):EW (cS a c) call es Q:=
 ew_s.2 (h1.mono fun e es1 h=>by cases e <;> first | exact h2 es1 h | exact h)
def Rng (n n':Nat) (d:DV):Prop:=∀ id∈d.refs,n≤id∧id < n'
theorem Rng.nil (n n':Nat):Rng n n' nilS:=fun _ h=>by cases h
theorem Rng.ms {n n' id off m e:Nat} (h1:n≤id) (h2:id < n'):Rng n n' (.ms id off m e):=fun j hj=>by
 have:j=id:=by simpa [DV.refs] using hj
 subst this; exact ⟨h1,h2⟩
theorem B64 (k:IntKind) (a b:Int):binD .eql (.v (.int k a)) (.v (.int k b))=some (.v (.bool (decide (a=b)))):=by rw [b_eql]; rfl
theorem B65 (k:IntKind) (a b:Int):binD .neq (.v (.int k a)) (.v (.int k b))=some (.v (.bool (decide (a≠b)))):=by
 rw [b_neq]
 by_cases h:a=b
 ·subst h; simp
 ·have:(a != b)=true:=by simp [h]
  rw [this,decide_eq_true h]
theorem Bp3 {k:IntKind} {a b:Nat} (h:b≠0):binD .rem (.v (.int k (a:Int))) (.v (.int k (b:Int)))=some (.v (.int k ((a % b:Nat):Int))):=by
 have e:(a:Int).tmod (b:Int)=((a % b:Nat):Int):=rfl
 have hb:¬ (b:Int)=0:=by omega
 have e2:binI .rem k (a:Int) (b:Int)=some (.int k ((a % b:Nat):Int)):=by
  unfold binI
  simp only
  rw [if_neg hb,e]
 simp only [binD,binV,isSh]
 simp [e2]
theorem B66 {a b:Nat} (h:b≠0) (ha:a < 18446744073709551616):binD .quo (.v (.int .u64 (a:Int))) (.v (.int .u64 (b:Int)))=some (.v (.int .u64 ((a / b:Nat):Int))):=by
 have e:(a:Int).tdiv (b:Int)=((a / b:Nat):Int):=rfl
 have hb:¬ (b:Int)=0:=by omega
 have hq:a / b≤a:=Nat.div_le_self a b
 generalize a / b=q at e hq ⊢
 have e2:binI .quo .u64 (a:Int) (b:Int)=some (.int .u64 (q:Int)):=by
  unfold binI
  simp only
  rw [if_neg hb,e,IntWalk.u64_in _ (by omega)]
 simp only [binD,binV,isSh]
 simp [e2]
end Go.DD

/- What values read as, by a type's layout, in any heap. -/
namespace Go.DD
open Go
structure Rep (α:Type) where
 e:Nat
 T:Nat
 dep:Nat
 rd:Tr DObj→(Nat→Prop)→List DV→α→Prop
 cells:α→List DV
 e0:0 < e
 d6:dep≤6
 len:∀ {hp p ds x},rd hp p ds x→ds.length=e
 keep:∀ {hp hp' p ds x},rd hp p ds x→(∀ j,p j→hp'.get j=hp.get j)→rd hp' p ds x
 mono:∀ {hp p q ds x},rd hp p ds x→(∀ j,p j→q j)→rd hp q ds x
 refs:∀ {hp p ds x},rd hp p ds x→∀ id∈DV.refsL ds,p id∧(hp.get id).isSome=true
 pure:∀ hp p x,rd hp p (cells x) x
 ok:∀ {hp p ds x},rd hp p ds x→∀ c∈ds,c.okC=true∧c.cells=[c]
 same:∀ {hp p ds x},rd hp p ds x→∀ c∈ds,∀ n,dep≤n→Ab1 n c c=true
 samec:∀ x,∀ c∈cells x,∀ n,dep≤n→Ab1 n c c=true
section
variable {α:Type} {R:Rep α} {hp hp':Tr DObj} {p q:Nat→Prop} {d:DV} {l m:List α}
def Rows (R:Rep α) (hp:Tr DObj) (p:Nat→Prop):List DV→List α→Prop
 | ds,[]=>ds=[]
 | ds,x :: l=>∃ a b,ds=a ++ b∧R.rd hp p a x∧Rows R hp p b l
theorem Rows.len:∀ {l:List α} {ds:List DV},Rows R hp p ds l→ds.length=l.length*R.e
 | [],ds,h=>by cases h; simp
 | x :: l,ds,⟨a,b,e,h1,h2⟩=>by rw [e,List.length_append,R.len h1,Rows.len h2,List.length_cons,Nat.add_mul,Nat.one_mul,Nat.add_comm]
theorem Rows.keep:∀ {l:List α} {ds:List DV},Rows R hp p ds l→(∀ j,p j→hp'.get j=hp.get j)→Rows R hp' p ds l
 | [],_,h,_=>h
 | _ :: _,_,⟨a,b,e,h1,h2⟩,hk=>⟨a,b,e,R.keep h1 hk,h2.keep hk⟩
theorem Rows.mono:∀ {l:List α} {ds:List DV},Rows R hp p ds l→(∀ j,p j→q j)→Rows R hp q ds l
 | [],_,h,_=>h
 | _ :: _,_,⟨a,b,e,h1,h2⟩,hk=>⟨a,b,e,R.mono h1 hk,h2.mono hk⟩
theorem A61:∀ (a b:List DV),DV.refsL (a ++ b)=DV.refsL a ++ DV.refsL b
 | [],b=>rfl
 | c :: a,b=>by simp only [List.cons_append,DV.refsL,A61 a b,List.append_assoc]
theorem Rows.pure (hp:Tr DObj) (p:Nat→Prop):∀ l:List α,Rows R hp p (l.flatMap R.cells) l
 | []=>rfl
 | x :: l=>⟨R.cells x,l.flatMap R.cells,rfl,R.pure hp p x,Rows.pure hp p l⟩
theorem Rows.app:∀ {l m:List α} {a b:List DV},Rows R hp p a l→Rows R hp p b m→Rows R hp p (a ++ b) (l ++ m)
 | [],_,_,_,h,h2=>by cases h; exact h2
 | _ :: _,_,_,b,⟨a1,b1,e,h1,h3⟩,h2=>⟨a1,b1 ++ b,by rw [e,List.append_assoc],h1,h3.app h2⟩
theorem Rows.one {ds:List DV} {x:α} (h:R.rd hp p ds x):Rows R hp p ds [x]:=⟨ds,[],by simp,h,rfl⟩
theorem Rows.drop:∀ {l:List α} {ds:List DV} (i:Nat),Rows R hp p ds l→Rows R hp p (ds.drop (i*R.e)) (l.drop i)
 | [],ds,i,h=>by cases h; simp [Rows]
 | _ :: _,_,0,h=>by simpa using h
 | _ :: l,_,i+1,⟨a,b,e,h1,h2⟩=>by
  subst e
  rw [List.drop_succ_cons,List.drop_append,R.len h1,List.drop_of_length_le (by rw [R.len h1,Nat.add_mul]; omega),Nat.add_mul,Nat.one_mul,Nat.add_sub_cancel,List.nil_append]
  exact h2.drop i
theorem Rows.take:∀ {l:List α} {ds:List DV} (i:Nat),Rows R hp p ds l→Rows R hp p (ds.take (i*R.e)) (l.take i)
 | [],ds,i,h=>by cases h; simp [Rows]
 | _ :: _,_,0,h=>by simp [Rows]
 | _ :: l,_,i+1,⟨a,b,e,h1,h2⟩=>by
  subst e
  rw [List.take_succ_cons,List.take_append,R.len h1,List.take_of_length_le (by rw [R.len h1,Nat.add_mul]; omega),Nat.add_mul,Nat.one_mul,Nat.add_sub_cancel]
  exact ⟨a,_,rfl,h1,h2.take i⟩
theorem Rows.at {ds:List DV} (h:Rows R hp p ds l) {i:Nat} (hi:i < l.length):∃ rest,ds.drop (i*R.e)=((ds.drop (i*R.e)).take R.e) ++ rest∧R.rd hp p ((ds.drop (i*R.e)).take R.e) l[i]:=by
 have h1:=h.drop i
 rw [List.drop_eq_getElem_cons hi] at h1
 obtain ⟨a,b,e,h2,h3⟩:=h1
 have e2:(ds.drop (i*R.e)).take R.e=a:=by rw [e,List.take_left' (R.len h2)]
 exact ⟨b,by rw [e2,e],by rw [e2]; exact h2⟩
theorem Rows.same:∀ {l:List α} {ds:List DV},Rows R hp p ds l→∀ c∈ds,∀ n,R.dep≤n→Ab1 n c c=true
 | [],_,h,c,hc=>by cases h; cases hc
 | _ :: _,_,⟨a,b,e,h1,h2⟩,c,hc=>by
  subst e
  rcases List.mem_append.1 hc with hc | hc
  ·exact R.same h1 c hc
  ·exact h2.same c hc
inductive RL (R:Rep α) (hp:Tr DObj) (p:Nat→Prop):DV→List α→Prop where
 | nil:RL R hp p nilS []
 | sl (l:List α):RL R hp p (.sl (l.flatMap R.cells) l.length) l
 | ms (id off:Nat) (fl:List DV) (l:List α) (h:hp.get id=some (.row R.T fl)) (hid:p id) (hl:off+l.length*R.e≤fl.length) (hr:Rows R hp p ((fl.drop off).take (l.length*R.e)) l) (hs:∀ c∈fl,Ab1 6 c c=true):RL R hp p (.ms id off l.length R.e) l
inductive OL (R:Rep α) (hp:Tr DObj) (p:Nat→Prop):DV→List α→Prop where
 | nil:OL R hp p nilS []
 | ms (id:Nat) (fl:List DV) (l:List α) (h:hp.get id=some (.row R.T fl)) (hr:Rows R hp p fl l):OL R hp p (.ms id 0 l.length R.e) l
theorem RL.keep (h:RL R hp p d l) (hk:∀ j,p j→hp'.get j=hp.get j):RL R hp' p d l:=by
 cases h with
 | nil=>exact .nil
 | sl=>exact .sl _
 | ms id off fl l h hid hl hr hs=>exact .ms id off fl l ((hk id hid).trans h) hid hl (hr.keep hk) hs
theorem RL.mono (h:RL R hp p d l) (hk:∀ j,p j→q j):RL R hp q d l:=by
 cases h with
 | nil=>exact .nil
 | sl=>exact .sl _
 | ms id off fl l h hid hl hr hs=>exact .ms id off fl l h (hk id hid) hl (hr.mono hk) hs
theorem RL.refs (h:RL R hp p d l):∀ id∈d.refs,p id∧(hp.get id).isSome=true:=by
 cases h with
 | nil=>intro id h; cases h
 | sl=>intro id h; cases h
 | ms id off fl l h hid hl hr hs=>
  intro j hj
  have:j=id:=by simpa [DV.refs] using hj
  rw [this,h]; exact ⟨hid,rfl⟩
theorem RL.live (h:RL R hp p d l):liveE hp d=d:=Ah8 fun id hid=>(h.refs id hid).2
theorem RL.ok (h:RL R hp p d l):d.okC=true∧d.cells=[d]:=by cases h <;> exact ⟨rfl,rfl⟩
theorem RL.len (h:RL R hp p d l):lenD hp d=some (.v (.int .i64 (l.length:Int))):=by
 cases h with
 | nil=>rfl
 | sl=>rfl
 | ms id off fl l h hid hl hr hs=>
  show (if alv hp id=true then _ else none)=_
  rw [if_pos (by unfold alv; rw [h]; rfl)]
theorem RL.ia (h:RL R hp p d l) {i:Nat} (hi:i < l.length):iaD hp R.e d (.v (.int .i64 (i:Int)))=some (adrE R.e d i):=by
 cases h with
 | nil=>simp at hi
 | sl=>
  show (if 0≤(i:Int)∧(i:Int) < (l.length:Int) then some (DV.ia ((l.flatMap R.cells).drop ((i:Int).toNat*R.e))) else none)=_
  rw [if_pos ⟨by omega,by omega⟩]; rfl
 | ms id off fl l h hid hl hr hs=>
  show (if alv hp id=true∧0≤(i:Int)∧(i:Int) < (l.length:Int) then some (DV.pt id (off+(i:Int).toNat*R.e)) else none)=_
  rw [if_pos ⟨by unfold alv; rw [h]; rfl,by omega,by omega⟩]; rfl
theorem RL.fa (h:RL R hp p d l) {i k:Nat} (hi:i < l.length):faD hp k (adrE R.e d i)=some (adrF (adrE R.e d i) k):=by
 cases h with
 | nil=>simp at hi
 | sl=>exact fa_i hp k _
 | ms id off fl l h hid hl hr hs=>exact fa_p h
theorem RL.at (h:RL R hp p d l) {i:Nat} (hi:i < l.length):∃ ds,R.rd hp p ds l[i]∧ldD hp (some R.e) (adrE R.e d i)=some (.agg ds)∧(∀ x,ds[0]?=some x→ldD hp none (adrE R.e d i)=some x)∧∀ k x,ds[k]?=some x→ldD hp none (adrF (adrE R.e d i) k)=some x:=by
 have key:∀ (cs:List DV) (a:DV),(∀ k,ldD hp k a=partD k cs)→(∀ k j,ldD hp k (adrF a j)=partD k (cs.drop j))→(∃ rest,cs=cs.take R.e ++ rest)→R.rd hp p (cs.take R.e) l[i]→∃ ds,R.rd hp p ds l[i]∧ldD hp (some R.e) a=some (.agg ds)∧(∀ x,ds[0]?=some x→ldD hp none a=some x)∧∀ k x,ds[k]?=some x→ldD hp none (adrF a k)=some x:=by
  intro cs a h1 h2 ⟨rest,h3⟩ h4
  have hl:=R.len h4
  refine ⟨cs.take R.e,h4,?_,fun x hx=>?_,fun k x hx=>?_⟩
  ·rw [h1]
   show (if R.e≤cs.length then some (DV.agg (cs.take R.e)) else none)=_
   rw [if_pos (by rw [List.length_take] at hl; omega)]
  ·rw [h1]
   have:=A25 (cs:=cs) (i:=0) (d:=x) (by rw [h3,List.getElem?_append_left (by rw [hl]; exact R.e0)]; exact hx)
   rwa [List.drop_zero] at this
  ·rw [h2]
   have hk:k < (cs.take R.e).length:=(List.getElem?_eq_some_iff.1 hx).1
   exact A25 (by rw [h3,List.getElem?_append_left hk]; exact hx)
 cases h with
 | nil=>simp at hi
 | sl=>
  obtain ⟨rest,h1,h2⟩:=(Rows.pure (R:=R) hp p l).at hi
  exact key _ (.ia ((l.flatMap R.cells).drop (i*R.e))) (fun _=>rfl) (fun _ _=>rfl) ⟨rest,h1⟩ h2
 | ms id off fl l h hid hl hr hs=>
  obtain ⟨rest,h1,h2⟩:=hr.at hi
  have hle:i*R.e+R.e≤l.length*R.e:=by
   have:=Nat.mul_le_mul_right R.e hi
   rw [Nat.succ_mul] at this; exact this
  have e1:(((fl.drop off).take (l.length*R.e)).drop (i*R.e)).take R.e=(fl.drop (off+i*R.e)).take R.e:=by
   rw [List.drop_take,List.drop_drop,List.take_take]
   congr 1; omega
  rw [e1] at h1 h2
  refine key (fl.drop (off+i*R.e)) (.pt id (off+i*R.e)) (fun k=>ld_p h) (fun k j=>?_) ⟨_,(List.take_append_drop R.e _).symm⟩ h2
  show ldD hp k (.pt id (off+i*R.e+j))=_
  rw [ld_p h,← List.drop_drop]
theorem RL.srcD {es:ES} (h:RL R es.hp p d l):∃ ds,Go.DD.srcD es.ds R.T R.e d=some (ds,l.length)∧Rows R es.hp p ds l:=by
 cases h with
 | nil=>exact ⟨[],rfl,rfl⟩
 | sl=>exact ⟨_,rfl,Rows.pure _ _ l⟩
 | ms id off fl l h hid hl hr hs=>
  refine ⟨_,?_,hr⟩
  show (match es.hp.get id with
  | some (.row T' cs)=>if T'=R.T∧R.e=R.e∧off+l.length*R.e≤cs.length then some ((cs.drop off).take (l.length*R.e),l.length) else none
  | _=>none)=_
  rw [h]
  simp only []
  rw [if_pos ⟨trivial,trivial,hl⟩]
theorem Be2 {es:ES} {id:Nat} {ds:List DV} {x:α} (h:es.hp.get id=some (.row R.T ds)) (hr:R.rd es.hp p ds x):Go.DD.srcD es.ds R.T R.e (.ms id 0 1 R.e)=some (ds,[x].length):=by
 have hl:=R.len hr
 show (match es.hp.get id with
  | some (.row T' cs)=>if T'=R.T∧R.e=R.e∧0+1*R.e≤cs.length then some ((cs.drop 0).take (1*R.e),1) else none
  | _=>none)=_
 rw [h]
 simp only []
 rw [if_pos ⟨trivial,trivial,by omega⟩,List.drop_zero,Nat.one_mul,List.take_of_length_le (by omega)]; rfl
theorem Aw6 {es:ES} {id:Nat} {ds:List DV} {x:α} (h:es.hp.get id=some (.row R.T ds)) (hr:R.rd es.hp p ds x):∃ ds',Go.DD.srcD es.ds R.T R.e (.ms id 0 1 R.e)=some (ds',[x].length)∧Rows R es.hp p ds' [x]:=⟨ds,Be2 h hr,Rows.one hr⟩
theorem At5 (e:Nat) (d:DV) (i:Nat):∀ id∈(adrE e d i).refs,id∈d.refs:=by
 cases d with
 | ms id off n e=>intro j hj; exact hj
 | _=>intro j hj; cases hj
theorem Bz1 (d:DV) (k:Nat):∀ id∈(adrF d k).refs,id∈d.refs:=by
 cases d with
 | pt id off=>intro j hj; exact hj
 | _=>intro j hj; cases hj
theorem RL.ro {n0 m:Nat} {an:List Nat} (h:RL R hp p d l) (ho:∀ j,p j→j < n0):Aa6 d (fun id=>okRef n0 m an hp id):=fun id hid=>(Af7 hp id).2 ⟨(h.refs id hid).2,.inl (ho id (h.refs id hid).1)⟩
theorem RL.roa {n0 m i:Nat} {an:List Nat} (h:RL R hp p d l) (ho:∀ j,p j→j < n0):Aa6 (adrE R.e d i) (fun id=>okRef n0 m an hp id):=fun id hid=>h.ro ho id (At5 R.e d i id hid)
theorem RL.rof {n0 m i k:Nat} {an:List Nat} (h:RL R hp p d l) (ho:∀ j,p j→j < n0):Aa6 (adrF (adrE R.e d i) k) (fun id=>okRef n0 m an hp id):=fun id hid=>h.ro ho id (At5 R.e d i id (Bz1 _ k id hid))
theorem rd_ro {ds:List DV} {x:α} {n0 m:Nat} {an:List Nat} (h:R.rd hp p ds x) (ho:∀ j,p j→j < n0):Aa6 (.agg ds) (fun id=>okRef n0 m an hp id):=fun id hid=>by
 have:=R.refs h id (by rwa [DV.refs] at hid)
 exact (Af7 hp id).2 ⟨this.2,.inl (ho id this.1)⟩
theorem RL.same (h:RL R hp p d l) {n:Nat} (hn:R.dep+1≤n):Ab1 n d d=true:=by
 obtain ⟨n,rfl⟩:∃ k,n=k+1:=⟨n - 1,by omega⟩
 cases h with
 | nil=>simp [Ab1,sameV,nilS]
 | sl=>
  show (l.length == l.length && sameL (Ab1 n) (l.flatMap R.cells) (l.flatMap R.cells))=true
  rw [Ar1 fun c hc=>by obtain ⟨x,_,hx⟩:=List.mem_flatMap.1 hc; exact R.samec x c hx n (by omega)]
  simp
 | ms id off fl l h hid hl hr hs=>simp [Ab1]
theorem OL.rl (h:OL R hp p d l):RL R hp (fun j=>p j∨j∈d.refs) d l:=by
 cases h with
 | nil=>exact .nil
 | ms id fl l h hr=>
  have:=hr.len
  exact .ms id 0 fl l h (.inr (by simp [DV.refs])) (by omega) (by rw [List.drop_zero,List.take_of_length_le (by omega)]; exact hr.mono fun _ h=>.inl h) fun c hc=>hr.same c hc 6 R.d6
theorem OL.keep (h:OL R hp p d l) (hk:∀ j,p j∨j∈d.refs→hp'.get j=hp.get j):OL R hp' p d l:=by
 cases h with
 | nil=>exact .nil
 | ms id fl l h hr=>exact .ms id fl l ((hk id (.inr (by simp [DV.refs]))).trans h) (hr.keep fun j hj=>hk j (.inl hj))
theorem OL.mono (h:OL R hp p d l) (hk:∀ j,p j→q j):OL R hp q d l:=by
 cases h with
 | nil=>exact .nil
 | ms id fl l h hr=>exact .ms id fl l h (hr.mono hk)
theorem OL.dstD {es:ES} (h:OL R es.hp p d l):∃ o fl,Go.DD.dstD es.ds R.T R.e d=some (o,fl,l.length)∧Rows R es.hp p fl l∧(∀ id,o=some id→id∈d.refs)∧liveE es.hp d=d∧(fl=[]∨∃ id,d=.ms id 0 l.length R.e∧es.hp.get id=some (.row R.T fl)):=by
 cases h with
 | nil=>exact ⟨none,[],rfl,rfl,(fun _ h=>by cases h),Ab6 rfl,.inl rfl⟩
 | ms id fl l h hr=>
  refine ⟨some id,fl,?_,hr,fun _ h=>by cases h; simp [DV.refs],Ah4 h,.inr ⟨id,rfl,h⟩⟩
  show (match es.hp.get id with
  | some (.row T' cs)=>if T'=R.T∧R.e=R.e∧cs.length=l.length*R.e then some (some id,cs,l.length) else none
  | _=>none)=_
  rw [h]
  simp only []
  rw [if_pos ⟨trivial,trivial,hr.len⟩]
end
section
variable {α:Type} {R:Rep α} {call:CallT} {es:ES} {dst:Option Pa} {q:Hold (ES→Prop)} {p p2:Nat→Prop}
theorem Be3 {b t:Nat} {u:Operand} {T e:Nat} {d d2:DV} {ds:List DV} {l m:List α} (e1:rawE es (.t (pth t))=d) (hd:OL R es.hp p d l) (e2:es.ds.ev u=d2) (hs:Go.DD.srcD es.ds R.T R.e d2=some (ds,m.length)) (hrs:Rows R es.hp p2 ds m) (hT:T=R.T) (he:e=R.e) (hl:l.length+m.length≤2147483648) (hb:b≤65536)
  (h:∀ hp',(∀ j,j≠es.nx→j∉d.refs→hp'.get j=es.hp.get j)→(∀ p',(∀ j,p j∨p2 j→p' j∧j≠es.nx∧j∉d.refs)→OL R hp' p' (.ms es.nx 0 (l ++ m).length R.e) (l ++ m))→(∀ Q:DV→Prop,(∀ id fl,d=.ms id 0 l.length R.e→es.hp.get id=some (.row R.T fl)→∀ c∈fl,Q c)→(∀ c∈ds,Q c)→∃ fl,hp'.get es.nx=some (.row R.T fl)∧∀ c∈fl,Q c)→q.val ((ES.mk es.sl hp' (es.nx+1)).putE dst (.ms es.nx 0 (l ++ m).length R.e))) :
  SWs (sU dst (xAny (.app T e b (.tmp t) u))) call es:=by
 subst hT he
 obtain ⟨o,fl,ho,hrd,hor,hlv,hfl⟩:=hd.dstD
 show SW _ _ _ _
 rw [sw_u,x_any]
 refine ⟨.ms es.nx 0 (l.length+m.length) R.e,.mv o (.row R.T (fl ++ ds)),?_,?_⟩
 ·have f1:es.ds.ev (.tmp t)=d:=by rw [Ao3,e1,hlv]
  simp only [execU,f1,e2,ho,hs]
  rw [if_pos ⟨hrs.len,R.e0,hl,hb⟩]
 ·have hg:(es.up (.mv o (.row R.T (fl ++ ds)))).hp.get es.nx=some (.row R.T (fl ++ ds)):=by
   cases o with
   | none=>rw [B48,get_set,if_pos rfl]
   | some i=>rw [B49,get_set,if_pos rfl]
  have hk:∀ j,j≠es.nx→j∉d.refs→(es.up (.mv o (.row R.T (fl ++ ds)))).hp.get j=es.hp.get j:=by
   intro j hj hjd
   cases o with
   | none=>rw [B48,get_set,if_neg hj]
   | some i=>rw [B49,get_set,if_neg hj,get_set,if_neg (fun e=>hjd (by rw [e]; exact hor i rfl))]
  have hh:=h _ hk (fun p' hp'=>.ms es.nx _ _ hg ((((hrd.mono (q:=fun j=>p j∨p2 j) fun _=>.inl).app (hrs.mono fun _=>.inr)).keep fun j hj=>hk j (hp' j hj).2.1 (hp' j hj).2.2).mono fun j hj=>(hp' j hj).1)) fun Q h1 h2=>⟨_,hg,fun c hc=>(List.mem_append.1 hc).elim (fun hc=>by
   rcases hfl with rfl | ⟨id,e,hi⟩
   ·cases hc
   ·exact h1 id fl e hi c hc) (h2 c)⟩
  rw [List.length_append] at hh
  exact hh
theorem Ad7 {b t:Nat} {u:Operand} {T e:Nat} {d d2:DV} {l m:List α} (e1:rawE es (.t (pth t))=d) (hd:OL R es.hp p d l) (e2:es.ds.ev u=d2) (hm:∃ ds,Go.DD.srcD es.ds R.T R.e d2=some (ds,m.length)∧Rows R es.hp p2 ds m) (hT:T=R.T) (he:e=R.e) (hl:l.length+m.length≤2147483648) (hb:b≤65536)
  (h:∀ hp',(∀ j,j≠es.nx→j∉d.refs→hp'.get j=es.hp.get j)→(∀ p',(∀ j,p j∨p2 j→p' j∧j≠es.nx∧j∉d.refs)→OL R hp' p' (.ms es.nx 0 (l ++ m).length R.e) (l ++ m))→q.val ((ES.mk es.sl hp' (es.nx+1)).putE dst (.ms es.nx 0 (l ++ m).length R.e))) :
  SWs (sU dst (xAny (.app T e b (.tmp t) u))) call es:=by
 obtain ⟨ds,hs,hrs⟩:=hm
 exact Be3 e1 hd e2 hs hrs hT he hl hb fun hp' h1 h2 _=>h hp' h1 h2
end
theorem Az1 {α:Type} {R:Rep α} {hp:Tr DObj} {p:Nat→Prop} {d:DV} {l:List α} {n m i:Nat} {an refs lo:List Nat} {c:Bool} {ws:List Look} {ps:List Past} (h:RL R hp p d l) (hp0:∀ j,p j→j < n)
  (hps:∀ q∈ps,(∀ j,p j→q.a.get j=hp.get j)∧∀ j,p j→q.b.get j=hp.get j) (hr:∀ j∈refs,j∈d.refs) (h2:Ag3 n m ws ps=true):Ag3 n m (lookE i an true c refs n lo ws) ps=true:=
 Ai2 (fun j hj=>by
  have hj':=hr j hj
  refine ⟨hp0 j (h.refs j hj').1,fun q hq=>.inr (.inr ?_)⟩
  obtain ⟨h3,h4⟩:=hps q hq
  cases h with
  | nil=>cases hj'
  | sl=>cases hj'
  | ms id off fl l h hid hl hr hs=>
   have:j=id:=by simpa [DV.refs] using hj'
   subst this
   have e3:=(h3 j hid).trans h
   have e4:=(h4 j hid).trans h
   cases c with
   | true=>rw [if_pos rfl]; exact Aj1 e3 (e4.trans e3.symm) hs
   | false=>rw [if_neg (by simp)]; simp [Av9,e3,e4]) h2
end Go.DD

/- What values read as: slices that are laid, parts of slices, kinds of layouts. -/
namespace Go.DD
open Go
section
variable {α:Type} {R:Rep α} {call:CallT} {es:ES} {dst:Option Pa} {q:Hold (ES→Prop)} {p:Nat→Prop} {n0 m i:Nat} {lo an:List Nat} {ws:List Look} {pp:List Past} {r:Hold (DSt→Prop)} {ps:List Pa}
theorem Ah5 {T n e:Nat} {z:List Value} {xs:List (Nat×Nat×Operand)} {fl:List DV} (hz:z.length=e) (hf:fillD ((List.replicate n (z.map .v)).flatten) (xs.map fun p=>(p.1,p.2.1,es.ds.ev p.2.2))=some fl)
  (h:∀ hp',hp'.get es.nx=some (.row T fl)→(∀ j,j≠es.nx→hp'.get j=es.hp.get j)→q.val ((ES.mk es.sl hp' (es.nx+1)).putE dst (.ms es.nx 0 n e))) :
  SWs (sU dst (xAny (.bsl T n e z xs))) call es:=by
 show SW _ _ _ _
 rw [sw_u,x_any]
 refine ⟨.ms es.nx 0 n e,.lay (.row T fl),?_,?_⟩
 ·simp only [execU,hf,hz]
  rw [if_pos trivial]
 ·exact h (es.up (.lay (.row T fl))).hp (by rw [Al5,get_set,if_pos rfl]) fun j hj=>by rw [Al5,get_set,if_neg hj]
theorem Ap9 {wide c:Bool} {T n e:Nat} {z:List Value} {xs:List (Nat×Nat×Operand)} {fl:List DV} (hz:z.length=e) (hf:fillD ((List.replicate n (z.map .v)).flatten) (xs.map fun p=>(p.1,p.2.1,es.ds.ev p.2.2))=some fl)
  (h:∀ hp',hp'.get (n0+i)=some (.row T fl)→(∀ j,j≠n0+i→hp'.get j=es.hp.get j)→r.val ⟨(ES.mk es.sl hp' es.nx).putE dst (.ms (n0+i) 0 n e),i :: lo,lookE i an wide c (refsL es ps) n0 lo ws,pp⟩) :
  TWs (dLay i an wide c dst (xAny (.bsl T n e z xs)) ps) call n0 m es lo ws pp:=by
 show TW _ _ _ _ _ _
 rw [Cn9]
 refine ⟨.ms (n0+i) 0 n e,.row T fl,?_,?_⟩
 ·rw [x_any]
  simp only [execU,hf,hz]
  rw [if_pos trivial]
 ·exact h _ (by rw [As8]; simp) fun j hj=>by rw [As8]; simp [hj]
def slD (e a z:Nat):DV→DV
 | .sl cs _=>.sl ((cs.drop (a*e)).take ((z - a)*e)) (z - a)
 | .ms id off _ _=>if a < z∨a=0 then .ms id (off+a*e) (z - a) e else .sl [] 0
 | d=>d
theorem Rep.clen (R:Rep α) (x:α):(R.cells x).length=R.e:=R.len (R.pure .e (fun _=>True) x)
theorem RL.part {hp:Tr DObj} {d:DV} {l:List α} (h:RL R hp p d l) {a z:Nat} (haz:a≤z) (hz:z≤l.length):RL R hp p (slD R.e a z d) ((l.drop a).take (z - a)):=by
 have hlen:((l.drop a).take (z - a)).length=z - a:=by rw [List.length_take,List.length_drop]; omega
 cases h with
 | nil=>
  have:a=0∧z=0:=by simp at hz; omega
  obtain ⟨rfl,rfl⟩:=this
  exact .nil
 | sl=>
  have e1:((l.flatMap R.cells).drop (a*R.e)).take ((z - a)*R.e)=((l.drop a).take (z - a)).flatMap R.cells:=by
   rw [A59 R.clen,A60 R.clen]
  have:=RL.sl (R:=R) (hp:=hp) (p:=p) ((l.drop a).take (z - a))
  rw [hlen,← e1] at this
  exact this
 | ms id off fl l h hid hl hr hs=>
  show RL R hp p (if a < z∨a=0 then .ms id (off+a*R.e) (z - a) R.e else .sl [] 0) _
  by_cases hlt:a < z∨a=0
  ·rw [if_pos hlt]
   have h2:=(hr.drop a).take (z - a)
   have hm:a*R.e+(z - a)*R.e=z*R.e:=by rw [← Nat.add_mul]; congr 1; omega
   have hm2:z*R.e≤l.length*R.e:=Nat.mul_le_mul_right _ hz
   have e1:(((fl.drop off).take (l.length*R.e)).drop (a*R.e)).take ((z - a)*R.e)=(fl.drop (off+a*R.e)).take ((z - a)*R.e):=by
    rw [List.drop_take,List.drop_drop,List.take_take]
    congr 1; omega
   rw [e1] at h2
   have:=RL.ms (R:=R) (hp:=hp) (p:=p) id (off+a*R.e) fl _ h hid (by rw [hlen]; omega) (by rw [hlen]; exact h2) hs
   rwa [hlen] at this
  ·rw [if_neg hlt]
   have:z - a=0:=by omega
   rw [this,List.take_zero]
   exact .sl []
theorem Al0 {t a z e:Nat} {lo hi:Option Operand} {d:DV} {l:List α} (e1:rawE es (.t (pth t))=d) (hd:RL R es.hp p d l) (he:e=R.e) (hlo:bndD es.ds 0 lo=some (a:Int)) (hhi:∀ n:Int,n=l.length→bndD es.ds n hi=some (z:Int)) (haz:a≤z) (hz:z≤l.length)
  (h:q.val (es.putE dst (slD R.e a z d))):SWs (sU dst (xAny (.sli e (.tmp t) lo hi))) call es:=by
 subst he
 show SW _ _ _ _
 rw [sw_u,x_any]
 have f1:es.ds.ev (.tmp t)=d:=by rw [Ao3,e1,hd.live]
 cases hd with
 | nil=>
  have ha:a=0∧z=0:=by simp at hz; omega
  obtain ⟨rfl,rfl⟩:=ha
  have hh:=hhi 0 rfl
  refine ⟨nilS,.keep,?_,h⟩
  simp only [execU,f1,nilS,hlo,hh]
  rfl
 | sl=>
  have hh:=hhi l.length rfl
  refine ⟨_,.keep,?_,h⟩
  simp only [execU,f1,hlo,hh]
  rw [if_pos ⟨by omega,by omega,by omega⟩]
  simp only [Int.toNat_natCast]; rfl
 | ms id off fl l hg hid hl hr hs=>
  have hh:=hhi l.length rfl
  refine ⟨_,.keep,?_,h⟩
  simp only [execU,f1,hlo,hh]
  rw [if_pos ⟨trivial,by omega,by omega,by omega⟩]
  simp only [Int.toNat_natCast]
  have e2:((a:Int) < (z:Int)∨(a:Int)=0)↔(a < z∨a=0):=by omega
  unfold slD
  simp only [e2]
end
def rFlat {α:Type} (e T:Nat) (f:α→List DV) (e0:0 < e) (hl:∀ x,(f x).length=e) (hf:∀ x,∀ c∈f x,c.refs=[]∧(c.okC=true∧c.cells=[c])∧∀ n,1≤n→Ab1 n c c=true):Rep α where
 e:=e
 T:=T
 dep:=1
 rd _ _ ds x:=ds=f x
 cells:=f
 e0:=e0
 d6:=by decide
 len:=fun h=>by rw [h,hl]
 keep:=fun h _=>h
 mono:=fun h _=>h
 refs:=fun {_ _ ds x} h id hi=>by
  obtain ⟨c,hc,hi⟩:=DV.mem_refsL hi
  rw [h] at hc
  rw [(hf x c hc).1] at hi; cases hi
 pure:=fun _ _ _=>rfl
 ok:=fun {_ _ ds x} h c hc=>(hf x c (h ▸ hc)).2.1
 same:=fun {_ _ ds x} h c hc=>(hf x c (h ▸ hc)).2.2
 samec:=fun x c hc=>(hf x c hc).2.2
def rList {α:Type} (R:Rep α) (T:Nat) (hd:R.dep+1≤6:=by decide):Rep (List α) where
 e:=1
 T:=T
 dep:=R.dep+1
 rd hp p ds l:=∃ d,ds=[d]∧RL R hp p d l
 cells l:=[.sl (l.flatMap R.cells) l.length]
 e0:=Nat.one_pos
 d6:=hd
 len:=fun ⟨_,h,_⟩=>by rw [h]; rfl
 keep:=fun ⟨d,h,h2⟩ hk=>⟨d,h,h2.keep hk⟩
 mono:=fun ⟨d,h,h2⟩ hk=>⟨d,h,h2.mono hk⟩
 refs:=fun ⟨d,h,h2⟩ id hi=>by
  subst h
  exact h2.refs id (by simpa [DV.refsL] using hi)
 pure:=fun _ _ l=>⟨_,rfl,.sl l⟩
 ok:=fun ⟨d,h,h2⟩ c hc=>by
  subst h
  obtain rfl:=List.mem_singleton.1 hc
  exact h2.ok
 same:=fun ⟨d,h,h2⟩ c hc n hn=>by
  subst h
  obtain rfl:=List.mem_singleton.1 hc
  exact h2.same hn
 samec:=fun l c hc n hn=>by
  obtain rfl:=List.mem_singleton.1 hc
  exact (RL.sl (R:=R) (hp:=.e) (p:=fun _=>True) l).same hn
def rPair {α β γ:Type} (A:Rep α) (B:Rep β) (T:Nat) (f:γ→α) (g:γ→β):Rep γ where
 e:=A.e+B.e
 T:=T
 dep:=max A.dep B.dep
 rd hp p ds x:=∃ a b,ds=a ++ b∧A.rd hp p a (f x)∧B.rd hp p b (g x)
 cells x:=A.cells (f x) ++ B.cells (g x)
 e0:=by have:=A.e0; omega
 d6:=by have:=A.d6; have:=B.d6; omega
 len:=fun ⟨a,b,h,h1,h2⟩=>by rw [h,List.length_append,A.len h1,B.len h2]
 keep:=fun ⟨a,b,h,h1,h2⟩ hk=>⟨a,b,h,A.keep h1 hk,B.keep h2 hk⟩
 mono:=fun ⟨a,b,h,h1,h2⟩ hk=>⟨a,b,h,A.mono h1 hk,B.mono h2 hk⟩
 refs:=fun ⟨a,b,h,h1,h2⟩ id hi=>by
  subst h
  rw [A61] at hi
  rcases List.mem_append.1 hi with hi | hi
  ·exact A.refs h1 id hi
  ·exact B.refs h2 id hi
 pure:=fun hp p x=>⟨_,_,rfl,A.pure hp p _,B.pure hp p _⟩
 ok:=fun ⟨a,b,h,h1,h2⟩ c hc=>by
  subst h
  rcases List.mem_append.1 hc with hc | hc
  ·exact A.ok h1 c hc
  ·exact B.ok h2 c hc
 same:=fun ⟨a,b,h,h1,h2⟩ c hc n hn=>by
  subst h
  rcases List.mem_append.1 hc with hc | hc
  ·exact A.same h1 c hc n (by omega)
  ·exact B.same h2 c hc n (by omega)
 samec:=fun x c hc n hn=>by
  rcases List.mem_append.1 hc with hc | hc
  ·exact A.samec _ c hc n (by omega)
  ·exact B.samec _ c hc n (by omega)
end Go.DD

/- What values read as: integers, values, dimensions, attributes, cells, arrays. -/
namespace Go.DD
open Go
structure PVal where
 kind:Int
 n:Int
 d:Int
 s:ByteArray
 deriving DecidableEq,Inhabited
structure PDim where
 name:ByteArray
 lo:Int
 hi:Int
 deriving DecidableEq,Inhabited
structure PAttr where
 name:ByteArray
 type:Int
 deriving DecidableEq,Inhabited
structure PCell where
 pos:List Int
 vals:List PVal
 deriving DecidableEq,Inhabited
structure PArr where
 dims:List PDim
 attrs:List PAttr
 cells:List PCell
 deriving DecidableEq,Inhabited
def vc (v:PVal):List DV:=[iv v.kind,iv v.n,iv v.d,sv v.s]
def dc (x:PDim):List DV:=[sv x.name,iv x.lo,iv x.hi]
def ac (x:PAttr):List DV:=[sv x.name,iv x.type]
def plC (c:DV):Prop:=c.refs=[]∧(c.okC=true∧c.cells=[c])∧∀ n,1≤n→Ab1 n c c=true
theorem pl_iv (n:Int):plC (iv n):=⟨rfl,⟨rfl,rfl⟩,fun n h=>by
 obtain ⟨n,rfl⟩:∃ k,n=k+1:=⟨n - 1,by omega⟩
 simp [Ab1,sameV]⟩
theorem pl_sv (s:ByteArray):plC (sv s):=⟨rfl,⟨rfl,rfl⟩,fun n h=>by
 obtain ⟨n,rfl⟩:∃ k,n=k+1:=⟨n - 1,by omega⟩
 simp [Ab1,sameV]⟩
def rInt:Rep Int:=rFlat 1 3 (fun n=>[iv n]) (by decide) (fun _=>rfl) fun x c h=>by
 obtain rfl:=List.mem_singleton.1 h
 exact pl_iv x
def rVal:Rep PVal:=rFlat 4 41 vc (by decide) (fun _=>rfl) fun x c h=>by
 simp only [vc,List.mem_cons,List.mem_nil_iff,or_false] at h
 rcases h with rfl | rfl | rfl | rfl
 ·exact pl_iv _
 ·exact pl_iv _
 ·exact pl_iv _
 ·exact pl_sv _
def rDim:Rep PDim:=rFlat 3 129 dc (by decide) (fun _=>rfl) fun x c h=>by
 simp only [dc,List.mem_cons,List.mem_nil_iff,or_false] at h
 rcases h with rfl | rfl | rfl
 ·exact pl_sv _
 ·exact pl_iv _
 ·exact pl_iv _
def rAttr:Rep PAttr:=rFlat 2 131 ac (by decide) (fun _=>rfl) fun x c h=>by
 simp only [ac,List.mem_cons,List.mem_nil_iff,or_false] at h
 rcases h with rfl | rfl
 ·exact pl_sv _
 ·exact pl_iv _
def rInts:Rep (List Int):=rList rInt 36
def rVals:Rep (List PVal):=rList rVal 37
def rCell:Rep PCell:=rPair rInts rVals 39 PCell.pos PCell.vals
theorem rInt_rd {hp:Tr DObj} {p:Nat→Prop} {ds:List DV} {x:Int} : rInt.rd hp p ds x↔ds=[iv x]:=Iff.rfl
theorem rVal_rd {hp:Tr DObj} {p:Nat→Prop} {ds:List DV} {x:PVal} : rVal.rd hp p ds x↔ds=vc x:=Iff.rfl
theorem rDim_rd {hp:Tr DObj} {p:Nat→Prop} {ds:List DV} {x:PDim} : rDim.rd hp p ds x↔ds=dc x:=Iff.rfl
theorem rAttr_rd {hp:Tr DObj} {p:Nat→Prop} {ds:List DV} {x:PAttr} : rAttr.rd hp p ds x↔ds=ac x:=Iff.rfl
theorem rCell_rd {hp:Tr DObj} {p:Nat→Prop} {ds:List DV} {x:PCell} : rCell.rd hp p ds x↔∃ a b,ds=[a,b]∧RL rInt hp p a x.pos∧RL rVal hp p b x.vals:=by
 constructor
 ·rintro ⟨_,_,rfl,⟨a,rfl,h1⟩,⟨b,rfl,h2⟩⟩
  exact ⟨a,b,rfl,h1,h2⟩
 ·rintro ⟨a,b,rfl,h1,h2⟩
  exact ⟨[a],[b],rfl,⟨a,rfl,h1⟩,⟨b,rfl,h2⟩⟩
section
variable {hp:Tr DObj} {p:Nat→Prop} {d:DV}
theorem ints_at {l:List Int} (h:RL rInt hp p d l) {i:Nat} (hi:i < l.length):ldD hp none (adrE 1 d i)=some (iv l[i]):=by
 obtain ⟨ds,hr,_,h2,_⟩:=h.at hi
 rw [rInt_rd] at hr
 exact h2 _ (by rw [hr]; rfl)
theorem Ao5 {l:List PVal} (h:RL rVal hp p d l) {i:Nat} (hi:i < l.length):ldD hp (some 4) (adrE 4 d i)=some (.agg (vc l[i])):=by
 obtain ⟨ds,hr,h1,_⟩:=h.at hi
 rw [rVal_rd] at hr
 rw [hr] at h1; exact h1
theorem Ad1 {l:List PDim} (h:RL rDim hp p d l) {i:Nat} (hi:i < l.length):ldD hp (some 3) (adrE 3 d i)=some (.agg (dc l[i]))∧ldD hp none (adrE 3 d i)=some (sv l[i].name)∧ldD hp none (adrF (adrE 3 d i) 0)=some (sv l[i].name)∧ldD hp none (adrF (adrE 3 d i) 1)=some (iv l[i].lo)∧ldD hp none (adrF (adrE 3 d i) 2)=some (iv l[i].hi):=by
 obtain ⟨ds,hr,h1,h0,h2⟩:=h.at hi
 rw [rDim_rd] at hr
 rw [hr] at h1
 exact ⟨h1,h0 _ (by rw [hr]; rfl),h2 0 _ (by rw [hr]; rfl),h2 1 _ (by rw [hr]; rfl),h2 2 _ (by rw [hr]; rfl)⟩
theorem Ae5 {l:List PAttr} (h:RL rAttr hp p d l) {i:Nat} (hi:i < l.length):ldD hp (some 2) (adrE 2 d i)=some (.agg (ac l[i]))∧ldD hp none (adrE 2 d i)=some (sv l[i].name)∧ldD hp none (adrF (adrE 2 d i) 0)=some (sv l[i].name)∧ldD hp none (adrF (adrE 2 d i) 1)=some (iv l[i].type):=by
 obtain ⟨ds,hr,h1,h0,h2⟩:=h.at hi
 rw [rAttr_rd] at hr
 rw [hr] at h1
 exact ⟨h1,h0 _ (by rw [hr]; rfl),h2 0 _ (by rw [hr]; rfl),h2 1 _ (by rw [hr]; rfl)⟩
theorem cells_at {l:List PCell} (h:RL rCell hp p d l) {i:Nat} (hi:i < l.length):∃ a b,RL rInt hp p a l[i].pos∧RL rVal hp p b l[i].vals∧ldD hp (some 2) (adrE 2 d i)=some (.agg [a,b])∧ldD hp none (adrE 2 d i)=some a∧ldD hp none (adrF (adrE 2 d i) 0)=some a∧ldD hp none (adrF (adrE 2 d i) 1)=some b:=by
 obtain ⟨ds,hr,h1,h0,h2⟩:=h.at hi
 obtain ⟨a,b,rfl,h3,h4⟩:=rCell_rd.1 hr
 exact ⟨a,b,h3,h4,h1,h0 _ rfl,h2 0 _ rfl,h2 1 _ rfl⟩
end
def Bl (n:Nat):Nat→Prop:=fun j=>j < n
def Bw (n m:Nat):Nat→Prop:=fun j=>n≤j∧j < m
section
variable {α:Type} {R:Rep α} {hp hp':Tr DObj} {n n':Nat} {d:DV} {l:List α}
theorem RL.inl (h:RL R hp (Bw n n') d l):RL R hp (Bl n') d l:=h.mono fun _ hj=>hj.2
end
end Go.DD

/- Chapters 01 and 02 in plain Lean: which names, values, schemas, cells and arrays are valid; the order of coordinates. -/
namespace Go.DD
open Go
def Ag9 (c:UInt8):Bool:=decide ((97:Int)≤(c.toNat:Int)) && decide ((c.toNat:Int)≤122)
def nextB (c:UInt8):Bool:=Ag9 c || (decide ((48:Int)≤(c.toNat:Int)) && decide ((c.toNat:Int)≤57)) || decide ((c.toNat:Int)=95)
def nameL:List UInt8→Bool
 | []=>false
 | c :: cs=>Ag9 c && cs.all nextB
def nameS (s:ByteArray):Bool:=decide (s.size≤12) && nameL s.data.toList
def emp (s:ByteArray):Bool:=s.toList == (bs []).toList
def Ar9 (v:PVal):Bool:=decide (v.d=0) && emp v.s
def prnt (c:UInt8):Bool:=decide ((32:Int)≤(c.toNat:Int)) && decide ((c.toNat:Int)≤126)
def ascii (s:ByteArray):Bool:=s.data.toList.all prnt
def Af3 (v:PVal):Bool:=
 if v.kind=0 then Ar9 v && (decide (1≤v.n) && decide (v.n≤255))
 else if v.kind=1 then Ar9 v && (decide (v.n=0) || decide (v.n=1))
 else if v.kind=2 then emp v.s && (decide (1≤v.d) && (decide (v.d≤1099511627776) && (decide (-1099511627776≤v.n) && (decide (v.n≤1099511627776) && decide (Nat.gcd v.n.natAbs v.d.natAbs=1)))))
 else if v.kind=3 then decide (v.n=0) && (decide (v.d=0) && (decide (v.s.size≤16) && ascii v.s))
 else false
def fitsV (v:PVal) (t:Int):Bool:=
 if Af3 v=false∨t < 1∨4 < t then false
 else if v.kind=1 then decide (t=1)
 else if v.kind=2 then decide (t=3) || (decide (t=2) && decide (v.d=1))
 else if v.kind=3 then decide (t=4)
 else true
def Al1 (d:PDim):Bool:=decide (-1073741824≤d.lo) && (decide (d.lo≤1073741824) && (decide (d.lo≤d.hi) && decide (d.hi≤1073741825)))
def memB (s:ByteArray) (l:List ByteArray):Bool:=l.any fun t=>decide (t=s)
def dimsF:List ByteArray→List PDim→Int
 | _,[]=>0
 | met,x :: l=>if nameS x.name=false∨memB x.name met=true then 11 else if Al1 x=false then 3 else dimsF (met ++ [x.name]) l
def dimsE (l:List PDim):Int:=if l.length < 1∨4 < l.length then 13 else dimsF [] l
def As0:List ByteArray→List PAttr→Int
 | _,[]=>0
 | met,x :: l=>if nameS x.name=false∨memB x.name met=true then 11 else if x.type < 1∨4 < x.type then 12 else As0 (met ++ [x.name]) l
def Ae3 (d:List PDim) (a:List PAttr):Int:=if dimsE d≠0 then dimsE d else if a.length < 1∨6 < a.length then 9 else As0 (d.map PDim.name) a
def lastC (d:PDim):Int:=min d.hi 1073741824
def ofF:List PDim→List Int→Bool
 | d :: ds,x :: xs=>if x < d.lo∨lastC d < x then false else ofF ds xs
 | _,_=>true
def ofB (d:List PDim) (x:List Int):Bool:=decide (x.length=d.length) && ofF d x
def fitsL:List PVal→List PAttr→Bool
 | v :: vs,a :: as=>if fitsV v a.type=false then false else fitsL vs as
 | _,_=>true
def cellE (d:List PDim) (a:List PAttr) (c:PCell):Int:=if c.pos.length≠d.length∨c.vals.length≠a.length then 13 else if ofB d c.pos=false then 3 else if fitsL c.vals a=false then 12 else 0
def cmpI (a b:Int):Int:=if a < b then -1 else if b < a then 1 else 0
def cmpL:List Int→List Int→Int
 | [],[]=>0
 | [],_ :: _=>-1
 | _ :: _,[]=>1
 | a :: l,b :: m=>if cmpI a b=0 then cmpL l m else cmpI a b
def chkF (d:List PDim) (a:List PAttr):Option PCell→List PCell→Int
 | _,[]=>0
 | none,c :: l=>if cellE d a c≠0 then cellE d a c else chkF d a (some c) l
 | some b,c :: l=>if cellE d a c≠0 then cellE d a c else if cmpL b.pos c.pos=0 then 5 else if cmpL b.pos c.pos=1 then 2 else chkF d a (some c) l
def Ac3 (x:PArr):Int:=if Ae3 x.dims x.attrs≠0 then Ae3 x.dims x.attrs else if 4096 < x.cells.length then 9 else chkF x.dims x.attrs none x.cells
theorem Bi5 (a b:Int):cmpI a b = -1∨cmpI a b=0∨cmpI a b=1:=by
 unfold cmpI
 split
 ·exact .inl rfl
 ·split
  ·exact .inr (.inr rfl)
  ·exact .inr (.inl rfl)
theorem cmpI_0 {a b:Int} : cmpI a b=0↔a=b:=by
 unfold cmpI
 split
 ·constructor
  ·intro h; exact absurd h (by decide)
  ·intro h; omega
 ·split
  ·constructor
   ·intro h; exact absurd h (by decide)
   ·intro h; omega
  ·constructor
   ·intro _; omega
   ·intro _; rfl
theorem Ac1:∀ l m:List Int,cmpL l m = -1∨cmpL l m=0∨cmpL l m=1
 | [],[]=>.inr (.inl rfl)
 | [],_ :: _=>.inl rfl
 | _ :: _,[]=>.inr (.inr rfl)
 | a :: l,b :: m=>by
  unfold cmpL
  split
  ·exact Ac1 l m
  ·exact Bi5 a b
theorem cmpL_0:∀ {l m:List Int},cmpL l m=0↔l=m
 | [],[]=>by simp [cmpL]
 | [],_ :: _=>by simp [cmpL]
 | _ :: _,[]=>by simp [cmpL]
 | a :: l,b :: m=>by
  unfold cmpL
  by_cases h:cmpI a b=0
  ·rw [if_pos h,cmpL_0,List.cons.injEq,cmpI_0.1 h]; simp
  ·rw [if_neg h,List.cons.injEq]
   constructor
   ·intro h2; exact absurd h2 h
   ·intro h2; exact absurd (cmpI_0.2 h2.1) h
theorem Bz2 (a b:Int):cmpI b a = - cmpI a b:=by
 unfold cmpI
 by_cases h:a < b
 ·rw [if_pos h,if_neg (by omega),if_pos h]; rfl
 ·by_cases h2:b < a
  ·rw [if_pos h2,if_neg h,if_pos h2]
  ·rw [if_neg h,if_neg h2,if_neg h2,if_neg h]; rfl
theorem Ai3:∀ l m:List Int,cmpL m l = - cmpL l m
 | [],[]=>rfl
 | [],_ :: _=>rfl
 | _ :: _,[]=>rfl
 | a :: l,b :: m=>by
  unfold cmpL
  rw [Bz2 a b]
  by_cases h:cmpI a b=0
  ·rw [if_pos h,if_pos (by omega),Ai3 l m]
  ·rw [if_neg h,if_neg (by omega)]
theorem cmpI_lt {a b:Int} : cmpI a b = -1↔a < b:=by
 unfold cmpI
 by_cases h:a < b
 ·simp [h]
 ·rw [if_neg h]
  constructor
  ·intro h2; split at h2 <;> exact absurd h2 (by decide)
  ·intro h2; exact absurd h2 h
theorem Ad4:∀ {l m n:List Int},cmpL l m = -1→cmpL m n = -1→cmpL l n = -1
 | [],[],_,h,_=>by simp [cmpL] at h
 | [],_ :: _,[],_,h=>by simp [cmpL] at h
 | [],_ :: _,_ :: _,_,_=>rfl
 | _ :: _,[],_,h,_=>by simp [cmpL] at h
 | _ :: _,_ :: _,[],_,h=>by simp [cmpL] at h
 | a :: l,b :: m,c :: n,h1,h2=>by
  unfold cmpL at h1 h2 ⊢
  by_cases e1:cmpI a b=0
  ·have:=cmpI_0.1 e1
   subst this
   rw [if_pos e1] at h1
   by_cases e2:cmpI a c=0
   ·rw [if_pos e2] at h2 ⊢
    exact Ad4 h1 h2
   ·rw [if_neg e2] at h2 ⊢; exact h2
  ·rw [if_neg e1] at h1
   by_cases e2:cmpI b c=0
   ·have:=cmpI_0.1 e2
    subst this
    rw [if_neg e1]; exact h1
   ·rw [if_neg e2] at h2
    have h3:cmpI a c = -1:=by rw [cmpI_lt] at h1 h2 ⊢; omega
    rw [if_neg (by omega)]; exact h3
end Go.DD
