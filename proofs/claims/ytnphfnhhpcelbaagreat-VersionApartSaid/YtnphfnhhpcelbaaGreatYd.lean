/- A part. -/
import Derived.Test.YtnphfnhhpcelbaaGreatYc
noncomputable section
namespace Go.DD
theorem Br7{α:Type} : ∀ (f k:Nat) (t:Tr α),k<=f->gP (To f k) t=t.get k
 | 0,k,t,h=>by
  obtain rfl:k=0:=by omega
  cases t <;> rfl
 | f+1,0,t,_=>by cases t <;> rfl
 | f+1,k+1,t,h=>by
  have ih:=λ(t:Tr α)=>Br7 f (k / 2) t (by omega)
  simp only [To]
  by_cases hk:k % 2=0
  .rw [Ah hk]
   cases t with
   | e=>rfl
   | n l v r=>simp only [Tr.get,Ah hk,<- ih];rfl
  .rw [Ae hk]
   cases t with
   | e=>rfl
   | n l v r=>simp only [Tr.get,Ae hk,<- ih];rfl
theorem Ct5{α:Type}(k:Nat)(t:Tr α):gP (Cn k) t=t.get k:=Br7 k k t (Af _)
theorem Br8{α:Type} : ∀ (f k j:Nat) (v:Option α) (t:Tr α),k<=f->(sP (To f k) v t).get j=if k=j then v else t.get j
 | 0,k,j,v,t,h=>by
  obtain rfl:k=0:=by omega
  cases t <;> cases j <;> simp [sP,To,Tr.get]
 | f+1,0,j,v,t,_=>by cases t <;> cases j <;> simp [sP,To,Tr.get]
 | f+1,k+1,j,v,t,h=>by
  have ih:=λ(t:Tr α) j=>Br8 f (k / 2) j v t (by omega)
  simp only [To]
  by_cases hk:k % 2=0
  .rw [Ah hk]
   cases t with
   | e=>
    show (Tr.n (sP (To f (k / 2)) v .e) none .e).get j=_
    cases j with
    | zero=>simp [Tr.get]
    | succ j=>
     simp only [Tr.get]
     by_cases hj:j % 2=0
     .rw [Ah hj,ih]
      by_cases he:k=j
      .subst he;simp
      .rw [Ae (by omega),Ae (by omega)];rfl
     .rw [Ae hj,Ae (by omega)]
   | n l x r=>
    show (Tr.n (sP (To f (k / 2)) v l) x r).get j=_
    cases j with
    | zero=>simp [Tr.get]
    | succ j=>
     simp only [Tr.get]
     by_cases hj:j % 2=0
     .rw [Ah hj,Ah hj,ih]
      by_cases he:k=j
      .subst he;simp
      .rw [Ae (by omega),Ae (by omega)]
     .rw [Ae hj,Ae hj,Ae (by omega)]
  .rw [Ae hk]
   cases t with
   | e=>
    show (Tr.n .e none (sP (To f (k / 2)) v .e)).get j=_
    cases j with
    | zero=>simp [Tr.get]
    | succ j=>
     simp only [Tr.get]
     by_cases hj:j % 2=0
     .rw [Ah hj,Ae (by omega)]
     .rw [Ae hj,ih]
      by_cases he:k=j
      .subst he;simp
      .rw [Ae (by omega),Ae (by omega)];rfl
   | n l x r=>
    show (Tr.n l x (sP (To f (k / 2)) v r)).get j=_
    cases j with
    | zero=>simp [Tr.get]
    | succ j=>
     simp only [Tr.get]
     by_cases hj:j % 2=0
     .rw [Ah hj,Ah hj,Ae (by omega)]
     .rw [Ae hj,Ae hj,ih]
      by_cases he:k=j
      .subst he;simp
      .rw [Ae (by omega),Ae (by omega)]
theorem Br9{α:Type}(k j:Nat)(v:Option α)(t:Tr α):(sP (Cn k) v t).get j=if k=j then v else t.get j:=Br8 k k j v t (Af _)
theorem Bd5(j:Nat):Nat.beq (Nat.mod j 2) 0=decide (j % 2=0):=by
 show Nat.beq (j % 2) 0=_
 cases h:Nat.beq (j % 2) 0 with
 | true=>have:=Ey h;simp [this]
 | false=>have:=Nat.ne_of_beq_eq_false h;simp [this]
theorem Ju{α:Type} : ∀ (t:Tr α) (k:Nat),gN t k=t.get k
 | .e,k=>rfl
 | .n l v r,0=>rfl
 | .n l v r,k+1=>by
  have e:gN (.n l v r) (k+1)=Bool.rec (gN r (Nat.div k 2)) (gN l (Nat.div k 2)) (Nat.beq (Nat.mod k 2) 0):=rfl
  rw [e,Bd5]
  simp only [Tr.get]
  have h1:gN r (Nat.div k 2)=r.get (k / 2):=Ju r _
  have h2:gN l (Nat.div k 2)=l.get (k / 2):=Ju l _
  by_cases hk:k % 2=0
  .simp only [hk,decide_true,Ip];exact h2
  .simp only [hk,decide_false,Ph];exact h1
theorem Cb0{α:Type} : ∀ (f k j:Nat) (v:Option α) (t:Tr α),k<=f->(sN f v t k).get j=if k=j then v else t.get j
 | 0,k,j,v,t,h=>by
  obtain rfl:k=0:=by omega
  cases t <;> cases j <;> simp [sN,Tr.get]
 | f+1,0,j,v,t,_=>by cases t <;> cases j <;> simp [sN,Tr.get]
 | f+1,k+1,j,v,t,h=>by
  have ih:=λ(t:Tr α) j=>Cb0 f (k / 2) j v t (by omega)
  have UO:∀ t j,(sN f v t (Nat.div k 2)).get j=if k / 2=j then v else t.get j:=ih
  by_cases hk:k % 2=0
  .have hb:Nat.beq (Nat.mod k 2) 0=true:=by rw [Bd5];simp [hk]
   cases t with
   | e=>
    have e:sN (f+1) v .e (k+1)=.n (sN f v .e (Nat.div k 2)) none .e:=by
     have e0:sN (f+1) v .e (k+1)=Bool.rec (motive:=λ_=>Tr α) (.n .e none (sN f v .e (Nat.div k 2))) (.n (sN f v .e (Nat.div k 2)) none .e) (Nat.beq (Nat.mod k 2) 0):=rfl
     rw [e0,hb]
    rw [e]
    cases j with
    | zero=>simp [Tr.get]
    | succ j=>
     simp only [Tr.get]
     by_cases hj:j % 2=0
     .rw [Ah hj,UO]
      by_cases he:k=j
      .subst he;simp
      .rw [Ae (by omega),Ae (by omega)];rfl
     .rw [Ae hj,Ae (by omega)]
   | n l x r=>
    have e:sN (f+1) v (.n l x r) (k+1)=.n (sN f v l (Nat.div k 2)) x r:=by
     have e0:sN (f+1) v (.n l x r) (k+1)=Bool.rec (motive:=λ_=>Tr α) (.n l x (sN f v r (Nat.div k 2))) (.n (sN f v l (Nat.div k 2)) x r) (Nat.beq (Nat.mod k 2) 0):=rfl
     rw [e0,hb]
    rw [e]
    cases j with
    | zero=>simp [Tr.get]
    | succ j=>
     simp only [Tr.get]
     by_cases hj:j % 2=0
     .rw [Ah hj,Ah hj,UO]
      by_cases he:k=j
      .subst he;simp
      .rw [Ae (by omega),Ae (by omega)]
     .rw [Ae hj,Ae hj,Ae (by omega)]
  .have hb:Nat.beq (Nat.mod k 2) 0=false:=by rw [Bd5];simp [hk]
   cases t with
   | e=>
    have e:sN (f+1) v .e (k+1)=.n .e none (sN f v .e (Nat.div k 2)):=by
     have e0:sN (f+1) v .e (k+1)=Bool.rec (motive:=λ_=>Tr α) (.n .e none (sN f v .e (Nat.div k 2))) (.n (sN f v .e (Nat.div k 2)) none .e) (Nat.beq (Nat.mod k 2) 0):=rfl
     rw [e0,hb]
    rw [e]
    cases j with
    | zero=>simp [Tr.get]
    | succ j=>
     simp only [Tr.get]
     by_cases hj:j % 2=0
     .rw [Ah hj,Ae (by omega)]
     .rw [Ae hj,UO]
      by_cases he:k=j
      .subst he;simp
      .rw [Ae (by omega),Ae (by omega)];rfl
   | n l x r=>
    have e:sN (f+1) v (.n l x r) (k+1)=.n l x (sN f v r (Nat.div k 2)):=by
     have e0:sN (f+1) v (.n l x r) (k+1)=Bool.rec (motive:=λ_=>Tr α) (.n l x (sN f v r (Nat.div k 2))) (.n (sN f v l (Nat.div k 2)) x r) (Nat.beq (Nat.mod k 2) 0):=rfl
     rw [e0,hb]
    rw [e]
    cases j with
    | zero=>simp [Tr.get]
    | succ j=>
     simp only [Tr.get]
     by_cases hj:j % 2=0
     .rw [Ah hj,Ah hj,Ae (by omega)]
     .rw [Ae hj,Ae hj,UO]
      by_cases he:k=j
      .subst he;simp
      .rw [Ae (by omega),Ae (by omega)]
theorem J7{α:Type}(t:Tr α)(k:Nat)(v:Option α):(Kq t k v).get=λj=>if j=k then v else t.get j:=by
 funext j
 unfold Kq
 rw [Cb0 k k j v t (Af _)]
 by_cases h:k=j
 .rw [Ah h,Ah h.symm]
 .rw [Ae h,Ae (Hj h)]
theorem Y4{t:Tr DObj}{k:Nat}{v:Option DObj} : (Kq t k v).get=Gr t.get k v:=J7 t k v
theorem Tr.set_ho{t:Tr DObj}{k:Nat}{v:Option DObj} : (t.set k v).get=Gr t.get k v:=by
 funext j
 rw [Tr.get_set]
 unfold Gr
 by_cases h:k=j
 .rw [Ah h,Ah h.symm]
 .rw [Ae h,Ae (Hj h)]
theorem Y9(d:DV):Ug d=d.refs:=by cases d <;> simp [Ug,DV.refs]
theorem RY{α:Type}(l:List α)(f:α->Bool):Te l f=l.all f:=by
 induction l with
 | nil=>rfl
 | cons a l ih=>
  have e:Te (a::l) f=Bool.rec false (Te l f) (f a):=rfl
  rw [e,ih,List.all_cons]
  cases f a <;> rfl
theorem nX{α:Type}(x:Option α):Pu x=x.isSome:=by cases x <;> rfl
theorem Ry{α:Type}(b:Bool)(x y:α):Fo b x y=if b=true then x else y:=by cases b <;> rfl
theorem B48(es:ES)(d:DV):Ch es.hp d=if es.ds.live d=true then d else .any:=by
 unfold Ch
 rw [Ry,RY,Y9]
 simp only [nX,Ju]
 rfl
theorem Ud(es:ES)(x:Operand):Ac es (.of x)=es.ds.rv x:=by
 cases x with
 | tmp t=>
  show (Option.rec .any (λd=>d) (gP (Cn t) es.sl):DV)=(es.sl.get t).getD .any
  rw [Ct5]
  cases es.sl.get t <;> rfl
 | _=>rfl
theorem sF(es:ES)(x:Operand):Mz es (.of x)=es.ds.ev x:=by
 cases x with
 | tmp t=>
  have h:=Ud es (.tmp t)
  show Ch es.hp (Ac es (.of (.tmp t)))=_
  rw [h,B48]
  rfl
 | _=>rfl
theorem Bs0(es:ES)(t:Nat):Ac es (.t (Cn t))=es.ds.sv t:=Ud es (.tmp t)
theorem aW{α:Type}(n:Nat)(k:Nat->α):Zu n k=k n:=by cases n <;> rfl
theorem A98{α:Type}(n:Int)(k:Int->α):Br5 n k=k n:=by
 cases n with
 | ofNat m=>exact aW m λm=>k (.ofNat m)
 | negSucc m=>exact aW m λm=>k (.negSucc m)
theorem YK{β α:Type}(l:List β)(k:List β->α):I5 l k=k l:=by
 induction l generalizing k with
 | nil=>rfl
 | cons a l ih=>
  have e:I5 (a::l) k=I5 l (λt=>k (a::t)):=rfl
  rw [e,ih]
theorem fP{α:Type} : ∀ (n:Nat) (l:List α),Jv n l=l.drop n
 | 0,l=>rfl
 | n+1,[]=>rfl
 | n+1,a::l=>by
  have e:Jv (n+1) (a::l)=Jv n l:=rfl
  rw [e,fP n l];rfl
theorem YC{α:Type} : ∀ (n:Nat) (l:List α),Wm n l=l.take n
 | 0,l=>rfl
 | n+1,[]=>rfl
 | n+1,a::l=>by
  have e:Wm (n+1) (a::l)=a::Wm n l:=rfl
  rw [e,YC n l];rfl
theorem fN{α:Type}(a b:List α):Li a b=a++b:=by
 induction a with
 | nil=>rfl
 | cons x a ih=>
  have e:Li (x::a) b=x::Li a b:=rfl
  rw [e,ih];rfl
theorem wH{α β:Type}(f:α->β)(l:List α):fY f l=l.map f:=by
 induction l with
 | nil=>rfl
 | cons x a ih=>
  have e:fY f (x::a)=f x::fY f a:=rfl
  rw [e,ih];rfl
theorem CI(d:DV):DG d=d.cells:=by cases d <;> rfl
theorem SZ(d:DV):UF d=d.okC:=by cases d <;> rfl
theorem Y8(k:Option Nat)(cs:List DV):Qb k cs=Jc k cs:=by
 cases k with
 | none=>cases cs <;> rfl
 | some n=>
  have e:Qb (some n) cs=Fo (Nat.ble n cs.length) (some (.agg (Wm n cs))) none:=rfl
  rw [e,Ry,YC]
  simp [Jc,Ri]
theorem wG{α:Type}{d:DV}{f:Value->Option α}{x:α}(h:cV d f none=some x):∃ v,d=.v v/\f v=some x:=by
 cases d with
 | v y=>exact ⟨y,rfl,h⟩
 | _=>cases h
theorem SP{α:Type}{v:Value}{fb:Bool->Option α}{fi:IntKind->Int->Option α}{fs:ByteArray->Option α}{x:α}(h:dZ v fb fi fs none=some x) :
  (∃ b,v=.bool b/\fb b=some x)\/(∃ k n,v=.int k n/\fi k n=some x)\/∃ s,v=.string s/\fs s=some x:=by
 cases v with
 | bool b=>exact .inl ⟨b,rfl,h⟩
 | int k n=>exact .inr (.inl ⟨k,n,rfl,h⟩)
 | string s=>exact .inr (.inr ⟨s,rfl,h⟩)
 | _=>cases h
theorem ZH(x:Option Value):Xz x=x.map .v:=by
 cases x with
 | none=>rfl
 | some v=>
  cases v with
  | bool b=>cases b <;> rfl
  | int k n=>exact A98 n λn=>some (DV.v (.int k n))
  | _=>rfl
theorem Ck5(k k':IntKind):Nat.beq k.ctorIdx k'.ctorIdx=true↔k=k':=by cases k <;> cases k' <;> decide
theorem Xk{s:DS}{x:Operand}{v:Value}(h:s.rv x=.v v):s.ev x=.v v:=by
 cases x with
 | tmp t=>
  have h':s.sv t=.v v:=h
  simp [DS.ev,h',DS.live,DV.refs]
 | _=>exact h
theorem rN{s:DS}{x:Operand}{cs:List DV}(h:s.rv x=.ia cs):s.ev x=.ia cs:=by
 cases x with
 | tmp t=>
  have h':s.sv t=.ia cs:=h
  simp [DS.ev,h',DS.live,DV.refs]
 | _=>exact h
theorem E8{s:DS}{x:Operand}{cs:List DV}{n:Nat}(h:s.rv x=.sl cs n):s.ev x=.sl cs n:=by
 cases x with
 | tmp t=>
  have h':s.sv t=.sl cs n:=h
  simp [DS.ev,h',DS.live,DV.refs]
 | _=>exact h
theorem dJ{s:DS}{x:Operand}{id off:Nat}(h:s.rv x=.pt id off)(ha:(s.ho id).isSome=true):s.ev x=.pt id off:=by
 cases x with
 | tmp t=>
  have h':s.sv t=.pt id off:=h
  simp [DS.ev,h',DS.live,DV.refs,ha]
 | _=>exact h
theorem E9{s:DS}{x:Operand}{id off n es:Nat}(h:s.rv x=.ms id off n es)(ha:(s.ho id).isSome=true):s.ev x=.ms id off n es:=by
 cases x with
 | tmp t=>
  have h':s.sv t=.ms id off n es:=h
  simp [DS.ev,h',DS.live,DV.refs,ha]
 | _=>exact h
theorem SO{α:Type}{d:DV}{fi:List DV->Option α}{fp:Nat->Nat->Option α}{x:α}(h:iU d fi fp none=some x):(∃ cs,d=.ia cs/\fi cs=some x)\/∃ id off,d=.pt id off/\fp id off=some x:=by
 cases d with
 | ia cs=>exact .inl ⟨cs,rfl,h⟩
 | pt id off=>exact .inr ⟨id,off,rfl,h⟩
 | _=>cases h
theorem Ay3{α:Type}{hp:Tr DObj}{id:Nat}{f:TypeId->List DV->Option α}{x:α}(h:Ub hp id f none=some x):∃ T cs,hp.get id=some (.row T cs)/\f T cs=some x:=by
 unfold Ub at h
 rw [Ju] at h
 cases ho:hp.get id with
 | none=>rw [ho] at h;cases h
 | some o=>
  rw [ho] at h
  cases o with
  | row T cs=>exact ⟨T,cs,rfl,h⟩
  | _=>cases h
theorem Bh9{α:Type}{d:DV}{fv:Value->Option α}{fs:List DV->Nat->Option α}{fm:Nat->Nat->Nat->Nat->Option α}{x:α}(h:WX d fv fs fm none=some x) :
  (∃ v,d=.v v/\fv v=some x)\/(∃ cs n,d=.sl cs n/\fs cs n=some x)\/∃ id off n es,d=.ms id off n es/\fm id off n es=some x:=by
 cases d with
 | v v=>exact .inl ⟨v,rfl,h⟩
 | sl cs n=>exact .inr (.inl ⟨cs,n,rfl,h⟩)
 | ms id off n es=>exact .inr (.inr ⟨id,off,n,es,rfl,h⟩)
 | _=>cases h
theorem Bs1{α:Type}{d:DV}{f:Int->Option α}{x:α}(h:cI d f none=some x):∃ k n,d=.v (.int k n)/\f n=some x:=by
 obtain ⟨v,rfl,h⟩:=wG h
 rcases SP h with ⟨_,_,h⟩ | ⟨k,n,rfl,h⟩ | ⟨_,_,h⟩
 .cases h
 .exact ⟨k,n,rfl,h⟩
 .cases h
theorem YB{α:Type}{j:Int}{n:Nat}{f:Nat->Option α}{x:α}(h:rY j n f none=some x):0<=j/\j<n/\f j.toNat=some x:=by
 cases j with
 | ofNat m=>
  have e:rY (.ofNat m) n f none=Fo (Nat.blt m n) (f m) none:=rfl
  rw [e,Ry] at h
  split at h
  .rename_i hb
   have:m<n:=by simpa [Km] using hb
   refine ⟨Int.natCast_nonneg m,?_,h⟩
   show (m:Int)<n
   omega
  .cases h
 | negSucc m=>cases h
theorem eO{α:Type}{b:Bool}{y:Option α}{x:α}(h:Fo b y none=some x):b=true/\y=some x:=by
 cases b
 .cases h
 .exact ⟨rfl,h⟩
theorem Ba0{α:Type}{d:DV}{f:List DV->Option α}{x:α}(h:rT d f none=some x):∃ ds,d=.tup ds/\f ds=some x:=by
 cases d with
 | tup ds=>exact ⟨ds,rfl,h⟩
 | _=>cases h
theorem Bs2{o:DOp}{x:XP}(hx:Xx o=some x){es:ES}{d:DV}(h:x es=some d)(nid:Nat):Bb nid es.ds o=some (d,.keep):=by
 cases o <;> simp only [Xx,Eg] at hx <;> first | (cases hx;done) | skip
 case pick c a b=>
  subst hx
  obtain ⟨v,hv,h⟩:=wG h
  rw [Ud] at hv
  rcases SP h with ⟨t,rfl,h2⟩ | ⟨_,_,_,h2⟩ | ⟨_,_,h2⟩
  .rw [Ud,Ud,Ry] at h2
   cases h2
   simp [Bb,Xk hv]
  .cases h2
  .cases h2
 case ld k a=>
  subst hx
  rcases SO h with ⟨cs,ha,h⟩ | ⟨id,off,ha,h⟩
  .rw [Ud] at ha
   rw [Y8] at h
   simp [Bb,rN ha,h]
  .rw [Ud] at ha
   obtain ⟨T,cs,hr,h⟩:=Ay3 h
   rw [Y8,fP] at h
   have ho:es.ds.ho id=some (.row T cs):=hr
   simp [Bb,dJ ha (by rw [ho];rfl),ho,h]
 case bin op a b=>
  subst hx
  obtain ⟨v,hv,h⟩:=wG h
  obtain ⟨w,hw,h⟩:=wG h
  rw [Ud] at hv hw
  rcases SP h with ⟨_,_,h2⟩ | ⟨k,p,rfl,h2⟩ | ⟨s,rfl,h2⟩
  .cases h2
  .rcases SP h2 with ⟨_,_,h3⟩ | ⟨k',q,rfl,h3⟩ | ⟨_,_,h3⟩
   .cases h3
   .rw [ZH] at h3
    obtain ⟨u,hu,rfl⟩:=Ag.1 h3
    rw [Ry,Ry] at hu
    simp only [Ck5] at hu
    simp [Bb,Xk hv,Xk hw,Lw,hu]
   .cases h3
  .rcases SP h2 with ⟨_,_,h3⟩ | ⟨_,_,_,h3⟩ | ⟨s',rfl,h3⟩
   .cases h3
   .cases h3
   .rw [ZH] at h3
    obtain ⟨u,hu,rfl⟩:=Ag.1 h3
    simp [Bb,Xk hv,Xk hw,Lw,hu]
 case un op a=>
  subst hx
  obtain ⟨v,hv,h2⟩:=wG h
  rw [Ud] at hv
  rw [ZH] at h2
  obtain ⟨u,hu,rfl⟩:=Ag.1 h2
  simp [Bb,Xk hv,hu]
 case fa off a=>
  subst hx
  rcases SO h with ⟨cs,ha,h⟩ | ⟨id,o,ha,h⟩
  .rw [Ud] at ha
   rw [fP] at h
   cases h
   simp [Bb,rN ha]
  .rw [Ud] at ha
   obtain ⟨hl,h⟩:=eO h
   rw [nX,Ju] at hl
   rw [aW] at h
   cases h
   simp [Bb,dJ ha hl]
 case ia es' a i=>
  subst hx
  obtain ⟨k,j,hj,h⟩:=Bs1 h
  rw [Ud] at hj
  rcases Bh9 h with ⟨_,_,h⟩ | ⟨cs,n,ha,h⟩ | ⟨id,off,n,By,ha,h⟩
  .cases h
  .rw [Ud] at ha
   obtain ⟨h0,h1,h⟩:=YB h
   rw [fP] at h
   cases h
   simp [Bb,Xk hj,E8 ha,Mx,h0,h1]
  .rw [Ud] at ha
   obtain ⟨hl,h⟩:=eO h
   rw [nX,Ju] at hl
   obtain ⟨h0,h1,h⟩:=YB h
   rw [aW] at h
   cases h
   simp [Bb,Xk hj,E9 ha hl,Mx,h0,h1]
 case fx n es' a i=>
  subst hx
  obtain ⟨k,j,hj,h⟩:=Bs1 h
  rw [Ud] at hj
  rcases SO h with ⟨cs,ha,h⟩ | ⟨id,off,ha,h⟩
  .rw [Ud] at ha
   obtain ⟨h0,h1,h⟩:=YB h
   rw [fP] at h
   cases h
   simp [Bb,Xk hj,rN ha,Mx,h0,h1]
  .rw [Ud] at ha
   obtain ⟨hl,h⟩:=eO h
   rw [nX,Ju] at hl
   obtain ⟨h0,h1,h⟩:=YB h
   rw [aW] at h
   cases h
   simp [Bb,Xk hj,dJ ha hl,Mx,h0,h1]
 case len a=>
  subst hx
  rcases Bh9 h with ⟨v,ha,h⟩ | ⟨cs,n,ha,h⟩ | ⟨id,off,n,By,ha,h⟩
  .rw [Ud] at ha
   cases v <;> first | (cases h;done) | skip
   rename_i ad n c
   cases ad with
   | none=>
    cases h
    simp [Bb,Xk ha]
   | some ad=>cases h
  .rw [Ud] at ha
   rw [aW] at h
   cases h
   simp [Bb,E8 ha]
  .rw [Ud] at ha
   obtain ⟨hl,h⟩:=eO h
   rw [nX,Ju] at hl
   rw [aW] at h
   cases h
   simp [Bb,E9 ha hl]
 case ext a i=>
  subst hx
  obtain ⟨ds,ha,h⟩:=Ba0 h
  rw [Ud] at ha
  have hn:∀ ds:List DV,aD i ds=ds[i]?:=λds=>by
   unfold aD
   rw [fP,<- List.head?_drop]
   cases ds.drop i <;> rfl
  rw [hn] at h
  cases hd:ds[i]? with
  | none=>rw [hd] at h;cases h
  | some d0=>
   rw [hd] at h
   cases d0 with
   | v v=>
    have h':some (DV.v v)=some d:=h
    cases h'
    simp [Bb,ha,rM,hd]
   | _=>
    obtain ⟨fG,vP,h⟩:=Ba0 h
    rw [sF] at vP
    rw [hn] at h
    simp [Bb,ha,rM,hd,vP,h]
theorem ZG{o:DOp}{es:ES}{nid:Nat}{d:DV}{u:Upd}(h:Tn o es nid=some (d,u)):Bb nid es.ds o=some (d,u):=by
 unfold Tn at h
 split at h
 .rename_i n a x
  unfold Ej at h
  rcases SO h with ⟨_,_,h⟩ | ⟨id,off,ha,h⟩
  .cases h
  .rw [Ud] at ha
   obtain ⟨T,cs,hr,h⟩:=Ay3 h
   obtain ⟨h1,h⟩:=eO h
   obtain ⟨h2,h⟩:=eO h
   obtain ⟨h3,h⟩:=eO h
   rw [YK] at h
   rw [SZ,sF] at h1
   rw [CI,sF] at h2
   have D9:=Ey h2
   have h3':off+n<=cs.length:=by simpa [Ri] using h3
   simp only [CI,sF,fN,YC,fP] at h
   have ho:es.ds.ho id=some (.row T cs):=hr
   simp only [Bb,dJ ha (by rw [ho];rfl),ho,h1,D9,h3',and_self,Ip]
   rw [<- h,Ce]
 .rename_i T x
  unfold Mj at h
  obtain ⟨h1,h⟩:=eO h
  rw [SZ,sF] at h1
  rw [CI,sF] at h
  simp only [Bb,h1,Ip]
  exact h
 .exact h
 .exact h
theorem Bi0(es:ES)(t:Nat)(b:Bool):Kk es (Cn t) b=es.ds.wanted (some (t,b)):=by
 unfold Kk
 rw [Bs0]
 simp only [DS.wanted]
 cases hd:es.ds.sv t with
 | v x=>cases x <;> rfl
 | _=>rfl
theorem nR(es:ES)(dst:Option Nat)(d:DV):(es.putE (Hg dst) d).ds=es.ds.put dst d:=by
 obtain ⟨sl,hp,nx⟩:=es
 cases dst with
 | none=>rfl
 | some t=>
  show ES.ds ⟨sP (Cn t) (some d) sl,hp,nx⟩=_
  simp only [ES.ds,DS.put]
  congr 1
  funext u
  rw [Br9]
  split <;> simp
theorem Bd6(hp:Tr DObj)(nid:Nat)(u:Upd):(Vh hp nid u).get=u.app nid hp.get:=by
 cases u with
 | keep=>rfl
 | lay o=>exact Y4
 | wr id o=>exact Y4
 | mv Iy o=>
  cases Iy with
  | none=>exact Y4
  | some i=>
   show (Kq (Kq hp i none) nid (some o)).get=_
   rw [Y4,Y4];rfl
end Go.DD

/- The evaluator's steps, in the text's order. -/
namespace Go.DD
def DS.Fr(s:DS):Prop:=∀ id,s.nx<=id->s.ho id=none
structure Gw (s s':DS):Prop where
 le:s.nx<=s'.nx
 new:∀ id,s.ho id=none->s'.ho id≠none->s.nx<=id/\id<s'.nx
theorem Gw.refl(s:DS):Gw s s:=⟨Af _,λ_ h1 h2=>absurd h1 h2⟩
theorem Gw.of{s s':DS}(h1:s'.ho=s.ho)(h2:s'.nx=s.nx):Gw s s':=⟨by omega,λid h3 h4=>by rw [h1] at h4;exact absurd h3 h4⟩
theorem Gw.trans{s s' s'':DS}(h1:Gw s s')(h2:Gw s' s''):Gw s s'':=by
 refine ⟨Es h1.le h2.le,λid h3 h4=>?_⟩
 have:=h1.le
 have:=h2.le
 by_cases h5:s'.ho id=none
 .have:=h2.new id h5 h4;omega
 .have:=h1.new id h3 h5;omega
theorem Gw.fr{s s':DS}(h1:s.Fr)(h2:Gw s s'):s'.Fr:=λid h=>by
 have h3:=h2.le
 cases h4:s'.ho id with
 | none=>rfl
 | some o=>
  have:=h2.new id (h1 id (by omega)) (by rw [h4];simp)
  omega
theorem Gw.put(s:DS)(dst:Option Nat)(d:DV):Gw s (s.put dst d):=Gw.of (DS.ho_put s dst d) (DS.nx_put s dst d)
theorem Gw.congr{s s' t t':DS}(h:Gw s s')(h1:t.ho=s.ho)(h2:t.nx=s.nx)(h3:t'.ho=s'.ho)(h4:t'.nx=s'.nx):Gw t t':=⟨by rw [h2,h4];exact h.le,λid=>by rw [h1,h2,h3,h4];exact h.new id⟩
theorem As6{nid:Nat}{s:DS}{op:DOp}{d:DV}{u:Upd}(h:Bb nid s op=some (d,u)):s.hasU u=true:=by
 cases u with
 | keep=>rfl
 | lay o=>rfl
 | wr id o=>
  cases op <;> simp only [Bb] at h
  case st n a x=>
   split at h
   .split at h
    .rename_i pF off e T cs ho
     split at h
     .cases h;simp [DS.hasU,ho]
     .cases h
    .cases h
   .cases h
  case mup kd x k y=>
   split at h
   .split at h
    .split at h
     .split at h
      .rename_i ho
       split at h
       .cases h;simp [DS.hasU,ho]
       .cases h
      .cases h
     .cases h
    .cases h
   .cases h
  case nxs x=>
   split at h
   .split at h
    .rename_i ho
     split at h
     .cases h;simp [DS.hasU,ho]
     .cases h
    .cases h
   .cases h
  case cpy es x y=>
   split at h
   .split at h
    .rename_i ho
     split at h
     .cases h;simp [DS.hasU,ho]
     .cases h
    .cases h
   .cases h
  all_goals (repeat' (first | (cases h;done) | split at h | (obtain ⟨_,_,h'⟩:=Ag.1 h;cases h';done)))
 | mv Iy o=>
  cases Iy with
  | none=>rfl
  | some id=>
   cases op <;> simp only [Bb] at h
   case app T es bytes d x=>
    split at h
    .rename_i Iy cs n news m e1 e2
     split at h
     .cases h
      unfold dstD at e1
      split at e1
      .cases e1
      .split at e1
       .rename_i ho
        simp only [DS.hasU]
        split at e1
        .cases e1;simp [ho]
        .cases e1
       .cases e1
      .cases e1
     .cases h
    .cases h
   all_goals (repeat' (first | (cases h;done) | split at h | (obtain ⟨_,_,h'⟩:=Ag.1 h;cases h';done)))
theorem Ct6{s:DS}(hf:s.Fr){u:Upd}(h:s.hasU u=true):Gw s { s.upd s.nx u with nx:=if u.new then s.nx+1 else s.nx }:=by
 have hn:s.ho s.nx=none:=hf _ (Af _)
 cases u with
 | keep=>exact Gw.of rfl rfl
 | lay o=>
  refine ⟨by simp [Upd.new],λid h1 h2=>?_⟩
  simp only [DS.upd,Upd.app,Gr,Upd.new,Ip] at h2 ⊢
  split at h2
  .omega
  .exact absurd h1 h2
 | wr Yz o=>
  refine ⟨by simp [Upd.new],λid h1 h2=>?_⟩
  simp only [DS.upd,Upd.app,Gr] at h2
  split at h2
  .rename_i e;subst e;simp [DS.hasU,h1] at h
  .exact absurd h1 h2
 | mv Iy o=>
  refine ⟨by simp [Upd.new],λid h1 h2=>?_⟩
  simp only [DS.upd,Upd.app,Gr,Upd.new,Ip] at h2 ⊢
  split at h2
  .omega
  .cases Iy with
   | none=>exact absurd h1 h2
   | some i=>
    simp only [SB,Gr] at h2
    split at h2
    .exact absurd rfl h2
    .exact absurd h1 h2
def callC(P:Program)(f:FuncId)(ds:List DV)(s:DS)(K:DS->DV->Prop):Prop:=Sz P f ds s K\/∃ d,(∀ x∈ds,x.refs=[])/\DCall P f ds (λd'=>d'=d)/\K s d
theorem callC.k{P:Program}{f:FuncId}{ds:List DV}{s:DS}{K:DS->DV->Prop}(h:callC P f ds s K):dS P f ds s K:=by
 rcases h with h | ⟨d,h1,h2,h3⟩
 .exact .inr (.inr (.inr h))
 .exact .inl ⟨_,h1,h2,λd' hd=>by rw [hd];exact h3⟩
theorem callC.i{P:Program}{f:FuncId}{ds:List DV}{s:DS}{K:DS->DV->Prop}(Hu:∃ x∈ds,x.refs≠[])(h:callC P f ds s K):Sz P f ds s K:=by
 rcases h with h | ⟨d,h1,_⟩
 .exact h
 .obtain ⟨x,hx,hr⟩:=Hu
  exact absurd (h1 x hx) hr
def Vy(P:Program)(call:Bf):Prop:=∀ (tg:Tg) (ds:List DV) (hp:Tr DObj) (nx:Nat) (d:DV) (Ap:Tr DObj) (Ba:Nat),call tg ds hp nx=some (d,Ap,Ba)->(∀ id,nx<=id->hp.get id=none)->
 nx<=Ba/\(∀ id,hp.get id=none->Ap.get id≠none->nx<=id/\id<Ba)/\match tg with
 | .fn f=>eM P f=true/\∀ (sv:Nat->DV) (K:DS->DV->Prop),K ⟨sv,Ap.get,Ba⟩ d->callC P f ds ⟨sv,hp.get,nx⟩ K
 | .yl id=>∀ (sv:Nat->DV) (K:DS->DV->Prop),K ⟨sv,Ap.get,Ba⟩ d->TE P id ds ⟨sv,hp.get,nx⟩ K
theorem Jp{α β:Type}{x:Option α}{f:α->Option β}{y:β}(h:(Option.rec (motive:=λ_=>Option β) none f x)=some y):∃ a,x=some a/\f a=some y:=by
 cases x with
 | none=>cases h
 | some a=>exact ⟨a,rfl,h⟩
theorem dR{α:Type}(es:ES)(f:Tr DV->Tr DObj->Nat->α):es.cs f=f es.sl es.hp es.nx:=rfl
theorem SN{call:Bf}{tg:Tg}{ds:List DV}{dst:Option Nat}{es es':ES}(h:jE tg ds (Hg dst) call es=some es'):∃ d hp nx,call tg ds es.hp es.nx=some (d,hp,nx)/\es'.ds=(⟨es.ds.sv,hp.get,nx⟩:DS).put dst d:=by
 obtain ⟨⟨d,hp,nx⟩,h1,h2⟩:=Jp h
 have h3:some ((ES.mk es.sl hp nx).putE (Hg dst) d)=some es':=h2
 cases h3
 exact ⟨d,hp,nx,h1,nR _ _ _⟩
theorem XJ(es:ES)(args:List Operand):dK es (args.map EO.of)=args.map es.ds.rv:=by
 unfold dK
 rw [wH,List.map_map]
 exact Eu λx _=>Ud es x
theorem B49{P:Program}{call:Bf}(hc:Vy P call){f:Nat}{args:List Operand}{dst:Option Nat}{es es':ES}(h:Au f (args.map EO.of) (Hg dst) call es=some es')(Fv:es.ds.Fr){K:DS->Prop}(hK:K es'.ds) :
  Gw es.ds es'.ds/\eM P f=true/\callC P f (args.map es.ds.rv) es.ds λs' d=>K (s'.put dst d):=by
 unfold Au at h
 rw [XJ] at h
 obtain ⟨d,hp,nx,h1,h2⟩:=SN h
 obtain ⟨n1,n2,g1,g2⟩:=hc _ _ _ _ _ _ _ h1 Fv
 refine ⟨(⟨n1,n2⟩:Gw es.ds ⟨es.ds.sv,hp.get,nx⟩).trans (by rw [h2];exact Gw.put _ _ _),g1,g2 es.ds.sv _ ?_⟩
 rw [<- h2];exact hK
theorem Ct7{P:Program}{call:Bf}(hc:Vy P call){tb:Option (List (TypeId×FuncId))}{x:Operand}{args:List Operand}{dst:Option Nat}{es es':ES}(h:eP tb (.of x) (args.map EO.of) (Hg dst) call es=some es')(Fv:es.ds.Fr){K:DS->Prop}(hK:K es'.ds) :
  Gw es.ds es'.ds/\match (es.ds.ev x).tgt tb with
  | some (f,fr,cs)=>eM P f=true/\callC P f (fr++args.map es.ds.rv++cs) es.ds λs' d=>K (s'.put dst d)
  | none=>match (es.ds.ev x).tgY tb with
   | some i=>TE P i (args.map es.ds.rv) es.ds λs' d=>K (s'.put dst d)
   | none=>False:=by
 unfold eP at h
 rw [sF,XJ] at h
 cases hf:(es.ds.ev x).tgt tb with
 | some p=>
  obtain ⟨f,fr,cs⟩:=p
  rw [hf] at h
  have h':jE (.fn f) (Li fr (Li (args.map es.ds.rv) cs)) (Hg dst) call es=some es':=h
  rw [fN,fN,<- Ce] at h'
  obtain ⟨d,hp,nx,h1,h2⟩:=SN h'
  obtain ⟨n1,n2,g1,g2⟩:=hc _ _ _ _ _ _ _ h1 Fv
  refine ⟨(⟨n1,n2⟩:Gw es.ds ⟨es.ds.sv,hp.get,nx⟩).trans (by rw [h2];exact Gw.put _ _ _),g1,g2 es.ds.sv _ ?_⟩
  rw [<- h2];exact hK
 | none=>
  rw [hf] at h
  cases hy:(es.ds.ev x).tgY tb with
  | none=>rw [hy] at h;cases h
  | some i=>
   rw [hy] at h
   have h':jE (.yl i) (args.map es.ds.rv) (Hg dst) call es=some es':=h
   obtain ⟨d,hp,nx,h1,h2⟩:=SN h'
   obtain ⟨n1,n2,g2⟩:=hc _ _ _ _ _ _ _ h1 Fv
   refine ⟨(⟨n1,n2⟩:Gw es.ds ⟨es.ds.sv,hp.get,nx⟩).trans (by rw [h2];exact Gw.put _ _ _),g2 es.ds.sv _ ?_⟩
   show K _
   rw [<- h2];exact hK
theorem B50{s:DS}{k:Bool}{x:Operand}{l:List (DV×Upd)}(h:oT s k x=some l):∀ p∈l,s.hasU p.2=true/\p.2.new=false:=by
 cases h
theorem Ck6{s:DS}{u:Upd}(h:s.hasU u=true)(hn:u.new=false)(n:Nat):Gw s (s.upd n u):=by
 cases u with
 | keep=>exact Gw.of rfl rfl
 | lay o=>cases hn
 | mv Iy o=>cases hn
 | wr Yz o=>
  refine ⟨Af _,λid h1 h2=>?_⟩
  simp only [DS.upd,Upd.app,Gr] at h2
  split at h2
  .rename_i e;subst e;simp [DS.hasU,h1] at h
  .exact absurd h1 h2
theorem Ct8{k:Bool}{x:Operand}{dst:Option Nat}{call:Bf}{es es':ES}(h:en k x (Hg dst) call es=some es'):∃ p,oT es.ds k x=some [p]/\es'.ds=(es.ds.upd es.ds.nx p.2).put dst p.1/\Gw es.ds es'.ds:=by
 unfold en at h
 split at h
 .rename_i p hp
  have h1:=B50 hp p (by simp)
  split at h
  .cases h
  .cases h
   have e:(ES.mk es.sl (Vh es.hp es.nx p.2) es.nx).ds=es.ds.upd es.ds.nx p.2:=by
    simp only [ES.ds,Bd6];rfl
   refine ⟨p,hp,by rw [nR,e],?_⟩
   rw [nR,e]
   exact (Ck6 h1.1 h1.2 _).trans (Gw.put _ _ _)
 .cases h
def Exd(s:DS)(o:DOp)(dst:Option Nat)(s':DS):Prop:=∃ d u,Bb s.nx s o=some (d,u)/\s'=({ s.upd s.nx u with nx:=if u.new then s.nx+1 else s.nx } : DS).put dst d
theorem FL{x:XU}{o:DOp}(hx:∀ es nid d u,x es nid=some (d,u)->Bb nid es.ds o=some (d,u)){dst:Option Nat}{call:Bf}{es es':ES}(h:sU (Hg dst) x call es=some es'):Exd es.ds o dst es'.ds:=by
 obtain ⟨⟨d,u⟩,h1,h2⟩:=Jp h
 have h3:Fo u.new (Zu (es.nx+1) λn=>some ((ES.mk es.sl (Vh es.hp es.nx u) n).putE (Hg dst) d)) (some ((ES.mk es.sl (Vh es.hp es.nx u) es.nx).putE (Hg dst) d))=some es':=h2
 have hex:=hx _ _ _ _ h1
 rw [Ry,aW] at h3
 refine ⟨d,u,hex,?_⟩
 split at h3
 .rename_i hu
  cases h3
  rw [nR]
  simp only [ES.ds,Bd6,hu]
  rfl
 .rename_i hu
  cases h3
  rw [nR]
  simp only [ES.ds,Bd6,hu]
  rfl
theorem FK{x:XP}{o:DOp}(hx:∀ es d,x es=some d->∀ nid,Bb nid es.ds o=some (d,.keep)){dst:Option Nat}{call:Bf}{es es':ES}(h:sX (Hg dst) x call es=some es'):Exd es.ds o dst es'.ds:=by
 obtain ⟨d,h1,h2⟩:=Jp h
 have h3:some (es.putE (Hg dst) d)=some es':=h2
 cases h3
 exact ⟨d,.keep,hx _ _ h1 _,nR _ _ _⟩
theorem Exd.gw{s s':DS}{o:DOp}{dst:Option Nat}(hf:s.Fr)(h:Exd s o dst s'):Gw s s':=by
 obtain ⟨d,u,h1,rfl⟩:=h
 exact (Ct6 hf (As6 h1)).trans (Gw.put _ _ _)
theorem A53{dst:Option Nat}{op:DOp}{call:Bf}{es es':ES}(bC:∀ f args,op≠.call f args)(aZ:∀ tb x args,op≠.cv tb x args)(R1:∀ k x,op≠.nxm k x)(h:Sg (Hg dst) op call es=some es'):Exd es.ds op dst es'.ds:=by
 by_cases AK:∃ x,op=.mv x
 .obtain ⟨x,rfl⟩:=AK
  have h3:some (es.putE (Hg dst) (Ac es (.of x)))=some es':=h
  cases h3
  exact ⟨es.ds.rv x,.keep,rfl,by rw [nR,Ud];rfl⟩
 .have Hm:Sg (Hg dst) op=match Xx op with
   | some x=>sX (Hg dst) x
   | none=>sU (Hg dst) (Tn op):=by
   cases op <;> first | rfl | (exact absurd ⟨_,rfl⟩ AK) | (exact absurd rfl (bC _ _)) | (exact absurd rfl (aZ _ _ _)) | (exact absurd rfl (R1 _ _))
  rw [Hm] at h
  cases hx:Xx op with
  | some x=>
   rw [hx] at h
   exact FK (λes d hd nid=>Bs2 hx hd nid) h
  | none=>
   rw [hx] at h
   exact FL (λes nid d u hd=>ZG hd) h
theorem YA{P:Program}{call:Bf}(hc:Vy P call){r:DR}{es es':ES}(h:Sg (Hg r.dst) r.op call es=some es')(Fv:es.ds.Fr){K:DS->Prop}(hK:K es'.ds):Gw es.ds es'.ds/\Sf P r es.ds K:=by
 by_cases Up:∃ f args,r.op=.call f args
 .obtain ⟨f,args,ho⟩:=Up
  rw [ho] at h
  obtain ⟨g0,g1,g2⟩:=B49 hc h Fv hK
  refine ⟨g0,?_⟩
  unfold Sf
  rw [ho]
  exact ⟨g1,g2.k⟩
 .by_cases cU:∃ tb x args,r.op=.cv tb x args
  .obtain ⟨tb,x,args,ho⟩:=cU
   rw [ho] at h
   obtain ⟨g0,h1⟩:=Ct7 hc h Fv hK
   refine ⟨g0,?_⟩
   unfold Sf
   rw [ho]
   simp only
   cases hf:(es.ds.ev x).tgt tb with
   | some p=>
    rw [hf] at h1
    exact ⟨h1.1,h1.2.k⟩
   | none=>
    rw [hf] at h1
    simp only at h1 ⊢
    cases hy:(es.ds.ev x).tgY tb with
    | none=>rw [hy] at h1;exact h1
    | some i=>rw [hy] at h1;exact h1
  .by_cases Vm:∃ k x,r.op=.nxm k x
   .obtain ⟨k,x,ho⟩:=Vm
    rw [ho] at h
    obtain ⟨p,h1,h2,h3⟩:=Ct8 (call:=call) (es:=es) (k:=k) (x:=x) (dst:=r.dst) h
    cases h1
   .have hex:=A53 (λf args e=>Up ⟨f,args,e⟩) (λtb x args e=>cU ⟨tb,x,args,e⟩) (λk x e=>Vm ⟨k,x,e⟩) h
    refine ⟨hex.gw Fv,?_⟩
    obtain ⟨d,u,h1,h2⟩:=hex
    unfold Sf
    split
    .rename_i f args ho;exact absurd ⟨f,args,ho⟩ Up
    .rename_i tb x args ho;exact absurd ⟨tb,x,args,ho⟩ cU
    .rename_i k x ho;exact absurd ⟨k,x,ho⟩ Vm
    .unfold exec
     rw [h1]
     simp only
     rw [<- h2];exact hK
theorem Ck7{P:Program}{call:Bf}(hc:Vy P call){r:DR}{es es':ES}(h:tT r call es=some es')(Fv:es.ds.Fr):Gw es.ds es'.ds/\∀ {rest:List DR} {K:DS->Prop},sH P rest es'.ds K->sH P (r::rest) es.ds K:=by
 unfold tT at h
 simp only [sH]
 cases hg:r.g with
 | none=>
  rw [hg] at h
  simp only [DS.wanted]
  exact ⟨(YA hc h Fv (K:=λ_=>True) trivial).1,λ{rest K} hK=>(YA hc h Fv (K:=λs'=>sH P rest s' K) hK).2⟩
 | some p=>
  obtain ⟨t,b⟩:=p
  rw [hg] at h
  simp only at h
  obtain ⟨c,h1,h2⟩:=Jp h
  rw [Bi0] at h1
  rw [h1]
  cases c with
  | true=>exact ⟨(YA hc h2 Fv (K:=λ_=>True) trivial).1,λ{rest K} hK=>(YA hc h2 Fv (K:=λs'=>sH P rest s' K) hK).2⟩
  | false=>
   have h3:some (es.putE (Hg r.dst) (.v undef))=some es':=h2
   cases h3
   rw [nR]
   exact ⟨Gw.put _ _ _,λ{rest K} hK=>hK⟩
theorem Bs3{P:Program}{call:Bf}(hc:Vy P call):∀ (ops:List DR) (es es':ES),oI ops call es=some es'->es.ds.Fr->Gw es.ds es'.ds/\∀ K:DS->Prop,K es'.ds->sH P ops es.ds K
 | [],es,es',h,_=>by
  have h3:some es=some es':=h
  cases h3
  exact ⟨Gw.refl _,λK hK=>hK⟩
 | r::rest,es,es',h,Fv=>by
  have h':sq (tT r) (oI rest) call es=some es':=h
  obtain ⟨e1,h1,h2⟩:=Jp h'
  obtain ⟨g1,k1⟩:=Ck7 hc h1 Fv
  obtain ⟨g2,k2⟩:=Bs3 hc rest e1 es' h2 (Gw.fr Fv g1)
  exact ⟨g1.trans g2,λK hK=>k1 (k2 K hK)⟩
end Go.DD

/- The evaluator's regions that draw their order: what each step has done. -/
namespace Go.DD
structure Rec where
 d:DV
 lay:Option DObj
 tgt:Option Nat
 ob:DObj
 mn:Bool
 H:Nat->Option DObj
 N:Nat
def Rec.nil:Rec:=⟨.any,none,none,.row 0 [],false,λ_=>none,0⟩
def RT(P:Program)(op:DOp)(s:DS)(d:DV)(H:Nat->Option DObj)(N:Nat):Prop:=match op with
 | .call f args=>∀ sv,Zo P f (args.map s.rv) ⟨sv,s.ho,s.nx⟩ d H N
 | .cv tb x args=>∃ f fr cs,(s.ev x).tgt tb=some (f,fr,cs)/\∀ sv,Zo P f (fr++args.map s.rv++cs) ⟨sv,s.ho,s.nx⟩ d H N
 | op=>∃ u,s.hasU u=true/\Bb s.nx s op=some (d,u)/\H=u.app s.nx s.ho/\N=if u.new then s.nx+1 else s.nx
theorem Exd.main{P:Program}{s s':DS}{o:DOp}{dst:Option Nat}(h:Exd s o dst s')(bC:∀ f args,o≠.call f args)(aZ:∀ tb x args,o≠.cv tb x args):∃ d,s'.sv=(s.put dst d).sv/\RT P o s d s'.ho s'.nx:=by
 obtain ⟨d,u,h1,rfl⟩:=h
 refine ⟨d,by cases dst <;> rfl,?_⟩
 have key:∃ u',s.hasU u'=true/\Bb s.nx s o=some (d,u')/\(({ s.upd s.nx u with nx:=if u.new then s.nx+1 else s.nx } : DS).put dst d).ho=u'.app s.nx s.ho/\(({ s.upd s.nx u with nx:=if u.new then s.nx+1 else s.nx } : DS).put dst d).nx=if u'.new then s.nx+1 else s.nx:=
  ⟨u,As6 h1,h1,by rw [DS.ho_put];rfl,by rw [DS.nx_put]⟩
 unfold RT
 split
 .rename_i f args;exact absurd rfl (bC f args)
 .rename_i tb x args;exact absurd rfl (aZ tb x args)
 .exact key
theorem B51{P:Program}{call:Bf}(hc:Vy P call){dst:Option Nat}{op:DOp}{es es':ES}(h:Yq (Hg dst) op call es=some es')(Fv:es.ds.Fr) :
  ∃ d,Gw es.ds es'.ds/\es'.ds.sv=(es.ds.put dst d).sv/\RT P op es.ds d es'.ds.ho es'.ds.nx:=by
 have Ua:∀ {f:Nat} {ds:List DV} {d:DV} {hp:Tr DObj} {nx:Nat},call (.fn f) ds es.hp es.nx=some (d,hp,nx)->es'.ds=(⟨es.ds.sv,hp.get,nx⟩:DS).put dst d->
   Gw es.ds es'.ds/\es'.ds.sv=(es.ds.put dst d).sv/\∀ sv,Zo P f ds ⟨sv,es.ds.ho,es.ds.nx⟩ d es'.ds.ho es'.ds.nx:=λ{f ds d hp nx} h1 h2=>by
  obtain ⟨n1,n2,g1,g2⟩:=hc _ _ _ _ _ _ _ h1 Fv
  refine ⟨(⟨n1,n2⟩:Gw es.ds ⟨es.ds.sv,hp.get,nx⟩).trans (by rw [h2];exact Gw.put _ _ _),by rw [h2];cases dst <;> rfl,λsv=>⟨g1,?_⟩⟩
  rcases g2 sv (λs' d'=>d'=d/\s'.ho=es'.ds.ho/\s'.nx=es'.ds.nx) ⟨rfl,by rw [h2,DS.ho_put],by rw [h2,DS.nx_put]⟩ with h | ⟨d0,k1,k2,k3⟩
  .exact .inl h
  .obtain ⟨rfl,k4,k5⟩:=k3
   exact .inr ⟨k4.symm,k5.symm,k1,k2⟩
 by_cases Up:∃ f args,op=.call f args
 .obtain ⟨f,args,rfl⟩:=Up
  have h':Au f (args.map EO.of) (Hg dst) call es=some es':=h
  unfold Au at h'
  rw [XJ] at h'
  obtain ⟨d,hp,nx,h1,h2⟩:=SN h'
  obtain ⟨g1,g2,g3⟩:=Ua h1 h2
  exact ⟨d,g1,g2,g3⟩
 .by_cases cU:∃ tb x args,op=.cv tb x args
  .obtain ⟨tb,x,args,rfl⟩:=cU
   have h':Vi tb (.of x) (args.map EO.of) (Hg dst) call es=some es':=h
   unfold Vi at h'
   rw [sF,XJ] at h'
   obtain ⟨⟨f,fr,cs⟩,hf,h'⟩:=Jp h'
   have WD:jE (.fn f) (Li fr (Li (args.map es.ds.rv) cs)) (Hg dst) call es=some es':=h'
   rw [fN,fN,<- Ce] at WD
   obtain ⟨d,hp,nx,h1,h2⟩:=SN WD
   obtain ⟨g1,g2,g3⟩:=Ua h1 h2
   exact ⟨d,g1,g2,f,fr,cs,hf,g3⟩
  .by_cases Vm:∃ k x,op=.nxm k x
   .obtain ⟨k,x,rfl⟩:=Vm
    cases h
   .have bC:∀ f args,op≠.call f args:=λf args e=>Up ⟨f,args,e⟩
    have aZ:∀ tb x args,op≠.cv tb x args:=λtb x args e=>cU ⟨tb,x,args,e⟩
    have R1:∀ k x,op≠.nxm k x:=λk x e=>Vm ⟨k,x,e⟩
    have he:Yq (Hg dst) op=Sg (Hg dst) op:=by
     unfold Yq
     split
     .exact absurd rfl (aZ _ _ _)
     .exact absurd rfl (R1 _ _)
     .rfl
    rw [he] at h
    have hex:=A53 bC aZ R1 h
    obtain ⟨d,g1,g2⟩:=hex.main (P:=P) bC aZ
    exact ⟨d,hex.gw Fv,g1,g2⟩
def eJ(s:DS)(o:DOp)(id:Nat):Prop:=∃ t,.tmp t∈o.opnds/\id∈(s.sv t).refs
theorem refsL_mem(es:ES)(o:DOp)(id:Nat):id∈refsL es ((jD o).map Cn)↔eJ es.ds o id:=by
 have key:∀ l:List Nat,id∈refsL es (l.map Cn)↔∃ t∈l,id∈(es.ds.sv t).refs:=by
  intro l
  induction l with
  | nil=>exact ⟨λh=>(by cases h),λ⟨t,h,_⟩=>(by cases h)⟩
  | cons t l ih=>
   have e:refsL es ((t::l).map Cn)=Li (Ug (Ac es (.t (Cn t)))) (refsL es (l.map Cn)):=rfl
   rw [e,fN,Y9,Bs0,Bo,ih]
   constructor
   .rintro (h | ⟨u,hu,h⟩)
    .exact ⟨t,by simp,h⟩
    .exact ⟨u,by simp [hu],h⟩
   .rintro ⟨u,hu,h⟩
    rcases Ak.1 hu with rfl | hu
    .exact .inl h
    .exact .inr ⟨u,hu,h⟩
 rw [key]
 unfold eJ jD
 constructor
 .rintro ⟨t,ht,h⟩
  obtain ⟨x,hx,hxt⟩:=Gp.1 ht
  cases x <;> simp at hxt
  subst hxt
  exact ⟨_,hx,h⟩
 .rintro ⟨t,ht,h⟩
  exact ⟨t,Gp.2 ⟨_,ht,rfl⟩,h⟩
def wD(n0 m:Nat)(an:List Nat)(s:DS)(id:Nat):Prop:=(s.ho id).isSome=true/\(id<n0\/n0+m<=id\/an.contains (id-n0)=true)
theorem B52{n0 m:Nat}{an:List Nat}{es:ES}{id:Nat}(h:Cp n0 m an es.hp id=true):wD n0 m an es.ds id:=by
 unfold Cp at h
 simp only [Ry,nX,Ju] at h
 split at h
 .rename_i h1
  refine ⟨h1,?_⟩
  split at h
  .rename_i h2;exact .inl (by simpa [Km] using h2)
  .split at h
   .rename_i h3;exact .inr (.inl (by simpa [Ri] using h3))
   .exact .inr (.inr h)
 .cases h
theorem A16(n0:Nat):∀ (js:List Nat) (hp:Tr DObj),(Y5 n0 hp js).get=λid=>if ∃ j∈js,id=n0+j then none else hp.get id
 | [],hp=>by funext id;simp [Y5]
 | j::js,hp=>by
  funext id
  simp only [Y5]
  rw [A16 n0 js,Tr.set_ho]
  by_cases h1:∃ j∈js,id=n0+j
  .simp only [h1,Ip]
   rw [Ah]
   obtain ⟨x,hx,e⟩:=h1
   exact ⟨x,by simp [hx],e⟩
  .simp only [h1,Ph,Gr]
   by_cases h2:id=n0+j
   .rw [Ah h2,Ah ⟨j,by simp,h2⟩]
   .rw [Ae h2,Ae]
    rintro ⟨x,hx,e⟩
    rcases Ak.1 hx with rfl | hx
    .exact h2 e
    .exact h1 ⟨x,hx,e⟩
theorem Bi2(n0:Nat)(Iy:Tr DObj):∀ (js:List Nat) (hp:Tr DObj),(Td n0 Iy hp js).get=λid=>if ∃ j∈js,id=n0+j then Iy.get id else hp.get id
 | [],hp=>by funext id;simp [Td]
 | j::js,hp=>by
  funext id
  simp only [Td]
  rw [Bi2 n0 Iy js,Tr.set_ho]
  by_cases h1:∃ j∈js,id=n0+j
  .simp only [h1,Ip]
   rw [Ah]
   obtain ⟨x,hx,e⟩:=h1
   exact ⟨x,by simp [hx],e⟩
  .simp only [h1,Ph,Gr]
   by_cases h2:id=n0+j
   .rw [Ah h2,Ah ⟨j,by simp,h2⟩,h2]
   .rw [Ae h2,Ae]
    rintro ⟨x,hx,e⟩
    rcases Ak.1 hx with rfl | hx
    .exact h2 e
    .exact h1 ⟨x,hx,e⟩
inductive Sem (P:Program) (n0 m i:Nat) (r:DR) (o:OI) (δ δ':DSt) (ρ:Rec):Prop
 | off (hw:δ.es.ds.wanted r.g=some false) (hd:ρ.d=.v undef) (hl:ρ.lay=none) (ht:ρ.tgt=none) (hm:ρ.mn=false) (he:δ'.es.ds=δ.es.ds.put r.dst (.v undef)) (Hv:δ'.lo=δ.lo) (Ma:δ'.ws=δ.ws) (Ht:δ'.ps=δ.ps)
 | read (hw:δ.es.ds.wanted r.g=some true) (Kw:∀ id,eJ δ.es.ds r.op id->wD n0 m o.an δ.es.ds id) (hx:Bb (n0+i) δ.es.ds r.op=some (ρ.d,.keep))
   (hl:ρ.lay=none) (ht:ρ.tgt=none) (hm:ρ.mn=false) (he:δ'.es.ds=δ.es.ds.put r.dst ρ.d) (Hv:δ'.lo=δ.lo) (Ma:∀ w∈δ.ws,w∈δ'.ws) (Tv:o.wide=true->∀ id,eJ δ.es.ds r.op id->⟨i,o.an,id,δ.lo.contains (id-n0),r.op.rdC⟩∈δ'.ws) (Ht:δ'.ps=δ.ps)
 | lay (ob:DObj) (hw:δ.es.ds.wanted r.g=some true) (Kw:∀ id,eJ δ.es.ds r.op id->wD n0 m o.an δ.es.ds id) (hx:Bb (n0+i) δ.es.ds r.op=some (ρ.d,.lay ob))
   (hl:ρ.lay=some ob) (ht:ρ.tgt=none) (hm:ρ.mn=false) (he:δ'.es.ds=(⟨δ.es.ds.sv,Gr δ.es.ds.ho (n0+i) (some ob),δ.es.ds.nx⟩:DS).put r.dst ρ.d) (Hv:δ'.lo=i::δ.lo) (Ma:∀ w∈δ.ws,w∈δ'.ws) (Tv:o.wide=true->∀ id,eJ δ.es.ds r.op id->⟨i,o.an,id,δ.lo.contains (id-n0),r.op.rdC⟩∈δ'.ws) (Ht:δ'.ps=δ.ps)
 | wr (ob:DObj) (hw:δ.es.ds.wanted r.g=some true) (hc:o.cls≠0/\o.cls≠1/\o.cls≠2) (Kw:∀ id,eJ δ.es.ds r.op id->wD n0 m o.an δ.es.ds id) (hx:Bb (n0+i) δ.es.ds r.op=some (ρ.d,.wr (n0+o.tgt) ob))
   (Ql:∀ id,eJ δ.es.ds r.op id->id=n0+o.tgt) (Fb:o.tgt∈δ.lo) (Kc:o.an.contains o.tgt=true)
   (hl:ρ.lay=none) (ht:ρ.tgt=some o.tgt) (mA:ρ.ob=ob) (hm:ρ.mn=false) (he:δ'.es.ds=(⟨δ.es.ds.sv,Gr δ.es.ds.ho (n0+o.tgt) (some ob),δ.es.ds.nx⟩:DS).put r.dst ρ.d) (Hv:δ'.lo=δ.lo) (Ma:δ'.ws=δ.ws) (Ht:δ'.ps=δ.ps)
 | main (hid:List Nat) (hs:DS) (Rr:hid=δ.lo.filter λj=>!o.an.contains j) (eZ:hs=⟨δ.es.ds.sv,(λid=>if ∃ j∈hid,id=n0+j then none else δ.es.ds.ho id),δ.es.ds.nx⟩) (hw:δ.es.ds.wanted r.g=some true) (hc:o.cls=2) (Kw:∀ id,eJ δ.es.ds r.op id->wD n0 m o.an δ.es.ds id)
   (hx:RT P r.op hs ρ.d ρ.H ρ.N) (hg:Gw hs ⟨δ.es.ds.sv,ρ.H,ρ.N⟩)
   (hl:ρ.lay=none) (ht:ρ.tgt=none) (hm:ρ.mn=true) (he:δ'.es.ds=(⟨δ.es.ds.sv,(λid=>if ∃ j∈hid,id=n0+j then δ.es.ds.ho id else ρ.H id),ρ.N⟩:DS).put r.dst ρ.d) (Hv:δ'.lo=hid) (Ma:δ'.ws=δ.ws) (Ht:δ'.ps=⟨i,o.an,δ.es.hp,δ'.es.hp⟩::δ.ps)
theorem Bs4{s:DS}(h:s.Fr)(f:Nat->Prop)[DecidablePred f]:(⟨s.sv,(λid=>if f id then none else s.ho id),s.nx⟩:DS).Fr:=λid hi=>by
 show (if f id then none else s.ho id)=none
 split
 .rfl
 .exact h id hi
theorem put_eq(s:DS)(dst:Option Nat)(d:DV):s.put dst d=⟨(s.put dst d).sv,s.ho,s.nx⟩:=by cases dst <;> rfl
theorem Ct9{s t:DS}(h:s.sv=t.sv)(dst:Option Nat)(d:DV):(s.put dst d).sv=(t.put dst d).sv:=by cases dst <;> simp [DS.put,h]
theorem Uu(es:ES):es.ds=⟨es.ds.sv,es.hp.get,es.nx⟩:=rfl
theorem B53{x:XU}{nid:Nat}{es:ES}{d:DV}(h:Dz x nid es=some d):x es nid=some (d,.keep):=by
 obtain ⟨⟨d',u⟩,h1,h2⟩:=Jp h
 cases u with
 | keep=>have h3:some d'=some d:=h2;cases h3;exact h1
 | _=>cases h2
theorem Ba2{i n0:Nat}{an:List Nat}{wide c:Bool}{refs lo:List Nat}{ws:List Look} : (∀ w∈ws,w∈Gj i an wide c refs n0 lo ws)/\(wide=true->∀ id∈refs,(⟨i,an,id,lo.contains (id-n0),c⟩:Look)∈Gj i an wide c refs n0 lo ws):=by
 unfold Gj
 rw [Ry,fN,wH]
 constructor
 .intro w hw
  split
  .simp [hw]
  .exact hw
 .intro h id hid
  rw [Ah h]
  exact Dw _ (Ei.2 ⟨id,hid,rfl⟩)
theorem Bi3{P:Program}{call:Bf}(hc:Vy P call){n0 m i:Nat}{r:DR}{o:OI}{δ δ':DSt}(Fv:δ.es.ds.Fr)(hw:δ.es.ds.wanted r.g=some true)(h:vW i r o call n0 m δ=some δ'):∃ ρ,Sem P n0 m i r o δ δ' ρ:=by
 unfold vW Az at h
 obtain ⟨h1,h⟩:=eO h
 rw [RY] at h1
 have Kw:∀ id,eJ δ.es.ds r.op id->wD n0 m o.an δ.es.ds id:=λid hid=>B52 (Ay.1 h1 id ((refsL_mem _ _ _).2 hid))
 obtain ⟨es,lo,ws,ps⟩:=δ
 obtain ⟨sl,hp,nx⟩:=es
 have h4c:o.cls=2\/o.cls=0\/o.cls=1\/∃ n,o.cls=n+3:=by
  rcases Cj o.cls 3 with h | h
  .omega
  .exact .inr (.inr (.inr ⟨o.cls-3,by omega⟩))
 rcases h4c with cW | cW | cW | ⟨n,cW⟩
 .rw [cW] at h
  replace h:Bt i o.an (Yq (Hg r.dst) r.op) call n0 m ⟨⟨sl,hp,nx⟩,lo,ws,ps⟩=some δ':=h
  unfold Bt at h
  have h':I5 (lo.filter λj=>!o.an.contains j) (λhid=>Option.rec (motive:=λ_=>Option DSt) none (λes'=>es'.cs λei Ap Ba=>Fo (Nat.ble nx Ba) (some ⟨⟨ei,Td n0 hp Ap hid,Ba⟩,hid,ws,⟨i,o.an,hp,Td n0 hp Ap hid⟩::ps⟩) none) (Yq (Hg r.dst) r.op call ⟨sl,Y5 n0 hp hid,nx⟩))=some δ':=h
  rw [YK] at h'
  obtain ⟨es',h2,h3⟩:=Jp h'
  rw [dR] at h3
  obtain ⟨_,h4⟩:=eO h3
  cases h4
  have AU:(⟨sl,Y5 n0 hp (lo.filter λj=>!o.an.contains j),nx⟩:ES).ds=⟨(ES.mk sl hp nx).ds.sv,(λid=>if ∃ j∈(lo.filter λj=>!o.an.contains j),id=n0+j then none else (ES.mk sl hp nx).ds.ho id),(ES.mk sl hp nx).ds.nx⟩:=by
   rw [Uu,A16];rfl
  obtain ⟨d,g1,g2,g3⟩:=B51 hc h2 (by rw [AU];exact Bs4 Fv _)
  rw [AU] at g1 g2 g3
  refine ⟨⟨d,none,none,.row 0 [],true,es'.ds.ho,es'.ds.nx⟩,.main _ _ rfl rfl hw cW Kw g3 (g1.congr rfl rfl rfl rfl) rfl rfl rfl ?_ rfl rfl rfl⟩
  rw [Uu,Bi2]
  rw [put_eq]
  have e:(ES.mk es'.sl (Td n0 hp es'.hp (lo.filter λj=>!o.an.contains j)) es'.nx).ds.sv=es'.ds.sv:=rfl
  rw [e,g2]
  congr 1
  exact Ct9 (by rfl) _ _
 .rw [cW] at h
  replace h:Bi i o.an o.wide r.op.rdC (Hg r.dst) (match r.op with
   | .mv x=>λ_ es=>some (Ac es (.of x))
   | op=>match Xx op with
    | some x=>λ_=>x
    | none=>Dz (Tn op)) ((jD r.op).map Cn) call n0 m ⟨⟨sl,hp,nx⟩,lo,ws,ps⟩=some δ':=h
  unfold Bi at h
  obtain ⟨v,h2,h3⟩:=Jp h
  have h4:some (⟨(ES.mk sl hp nx).putE (Hg r.dst) v,lo,Gj i o.an o.wide r.op.rdC (refsL ⟨sl,hp,nx⟩ ((jD r.op).map Cn)) n0 lo ws,ps⟩:DSt)=some δ':=h3
  cases h4
  have hx:Bb (n0+i) (ES.mk sl hp nx).ds r.op=some (v,.keep):=by
   by_cases AK:∃ x,r.op=.mv x
   .obtain ⟨x,ho⟩:=AK
    rw [ho] at h2
    have h5:some (Ac ⟨sl,hp,nx⟩ (.of x))=some v:=h2
    cases h5
    rw [Ud,ho];rfl
   .have Hm:(match r.op with
     | .mv x=>λ_ es=>some (Ac es (.of x))
     | op=>match Xx op with
      | some x=>λ_=>x
      | none=>Dz (Tn op):Nat->XP)=match Xx r.op with
      | some x=>λ_=>x
      | none=>Dz (Tn r.op):=by
     generalize r.op=op at AK
     cases op <;> first | rfl | (exact absurd ⟨_,rfl⟩ AK)
    rw [Hm] at h2
    cases hx:Xx r.op with
    | some x=>rw [hx] at h2;exact Bs2 hx h2 _
    | none=>rw [hx] at h2;exact ZG (B53 h2)
  obtain ⟨w1,w2⟩:=@Ba2 i n0 o.an o.wide r.op.rdC (refsL ⟨sl,hp,nx⟩ ((jD r.op).map Cn)) lo ws
  exact ⟨⟨v,none,none,.row 0 [],false,λ_=>none,0⟩,.read hw Kw hx rfl rfl rfl (nR _ _ _) rfl w1 (λmf id hid=>w2 mf id ((refsL_mem _ _ _).2 hid)) rfl⟩
 .rw [cW] at h
  replace h:Ox i o.an o.wide r.op.rdC (Hg r.dst) (Tn r.op) ((jD r.op).map Cn) call n0 m ⟨⟨sl,hp,nx⟩,lo,ws,ps⟩=some δ':=h
  unfold Ox at h
  have h':Zu (n0+i) (λnid=>Option.rec (motive:=λ_=>Option DSt) none (λp=>Upd.casesOn (motive:=λ_=>Option DSt) p.2 none
   (λob=>some ⟨(ES.mk sl (Kq hp nid (some ob)) nx).putE (Hg r.dst) p.1,i::lo,Gj i o.an o.wide r.op.rdC (refsL ⟨sl,hp,nx⟩ ((jD r.op).map Cn)) n0 lo ws,ps⟩) (λ_ _=>none) (λ_ _=>none)) (Tn r.op ⟨sl,hp,nx⟩ nid))=some δ':=h
  rw [aW] at h'
  obtain ⟨⟨d,u⟩,h2,h3⟩:=Jp h'
  cases u with
  | lay ob=>
   have h4:some (⟨(ES.mk sl (Kq hp (n0+i) (some ob)) nx).putE (Hg r.dst) d,i::lo,Gj i o.an o.wide r.op.rdC (refsL ⟨sl,hp,nx⟩ ((jD r.op).map Cn)) n0 lo ws,ps⟩:DSt)=some δ':=h3
   cases h4
   obtain ⟨w1,w2⟩:=@Ba2 i n0 o.an o.wide r.op.rdC (refsL ⟨sl,hp,nx⟩ ((jD r.op).map Cn)) lo ws
   refine ⟨⟨d,some ob,none,.row 0 [],false,λ_=>none,0⟩,.lay ob hw Kw (ZG h2) rfl rfl rfl ?_ rfl w1 (λmf id hid=>w2 mf id ((refsL_mem _ _ _).2 hid)) rfl⟩
   show (ES.putE _ _ _).ds=_
   rw [nR,Uu]
   show (DS.mk _ (Kq hp (n0+i) (some ob)).get nx).put _ _=_
   rw [Y4];rfl
  | _=>cases h3
 .rw [cW] at h
  replace h:F9 i o.an o.tgt (Hg r.dst) (Tn r.op) ((jD r.op).map Cn) call n0 m ⟨⟨sl,hp,nx⟩,lo,ws,ps⟩=some δ':=h
  unfold F9 at h
  obtain ⟨⟨d,u⟩,h2,h3⟩:=Jp h
  cases u with
  | wr id ob=>
   have h4:Fo (Nat.beq id (n0+o.tgt)&&lo.contains o.tgt&&o.an.contains o.tgt&&Te (refsL ⟨sl,hp,nx⟩ ((jD r.op).map Cn)) (λr=>Nat.beq r (n0+o.tgt))) (some (⟨(ES.mk sl (Kq hp id (some ob)) nx).putE (Hg r.dst) d,lo,ws,ps⟩:DSt)) none=some δ':=h3
   obtain ⟨h5,h6⟩:=eO h4
   simp only [Bq,RY] at h5
   obtain ⟨⟨⟨e1,e2⟩,e3⟩,e4⟩:=h5
   have e1:id=n0+o.tgt:=Ey e1
   subst e1
   cases h6
   refine ⟨⟨d,none,some o.tgt,ob,false,λ_=>none,0⟩,.wr ob hw ⟨by omega,by omega,by omega⟩ Kw (ZG h2) (λid hid=>Ey (Ay.1 e4 id ((refsL_mem _ _ _).2 hid))) (by simpa using e2) e3 rfl rfl rfl rfl ?_ rfl rfl rfl⟩
   show (ES.putE _ _ _).ds=_
   rw [nR,Uu]
   show (DS.mk _ (Kq hp (n0+o.tgt) (some ob)).get nx).put _ _=_
   rw [Y4];rfl
  | _=>cases h3
theorem Ba3{P:Program}{call:Bf}(hc:Vy P call){n0 m i:Nat}{r:DR}{o:OI}{δ δ':DSt}(Fv:δ.es.ds.Fr)(h:dQ i r o call n0 m δ=some δ'):∃ ρ,Sem P n0 m i r o δ δ' ρ:=by
 unfold dQ at h
 cases hg:r.g with
 | none=>
  rw [hg] at h
  exact Bi3 hc Fv (by rw [hg];rfl) h
 | some p=>
  obtain ⟨t,b⟩:=p
  rw [hg] at h
  simp only at h
  obtain ⟨c,h1,h2⟩:=Jp h
  rw [Bi0] at h1
  cases c with
  | true=>exact Bi3 hc Fv (by rw [hg];exact h1) h2
  | false=>
   have h3:some (⟨δ.es.putE (Hg r.dst) (.v undef),δ.lo,δ.ws,δ.ps⟩:DSt)=some δ':=h2
   cases h3
   exact ⟨⟨.v undef,none,none,.row 0 [],false,λ_=>none,0⟩,.off (by rw [hg];exact h1) rfl rfl rfl rfl (nR _ _ _) rfl rfl rfl⟩
end Go.DD

/- The evaluator's regions that draw their order: the run in the text's order serves every order. -/
namespace Go.DD
def Vz(rs:List DR)(i:Nat):Nat:=((rs[i]?).map λr=>if (XN rs r.op).isSome then 3 else r.op.kind).getD 0
def Kz(rs:List DR)(r:DR):Nat:=(XN rs r.op).getD 0
def nM(rs:List DR):List Nat:=(List.range rs.length).filter λi=>Vz rs i==2
theorem KC(rs:List DR)(i:Nat):Vz rs i<=3:=by
 unfold Vz
 cases rs[i]? with
 | none=>simp
 | some r=>
  simp only [Cb,Gm]
  split
  .omega
  .have:r.op.kind<=2:=by cases r.op <;> simp [DOp.kind]
   omega
theorem Cb1(rs:List DR)(i:Nat):(((List.range rs.length).map (Vz rs))[i]?).getD 0=Vz rs i:=by
 by_cases h:i<rs.length
 .simp [h]
 .simp [h,Vz]
def jn(rs:List DR):Bool:=
  (rs.zipIdx.all λ(r,i)=>(r.pre.all λj=>decide (j<i)) &&
   (match r.dst with | some t=>Sy rs t==some i | none=>true) &&
   r.tmps.all λt=>match Sy rs t with | some p=>Ek rs i p||Ek rs p i||p==i | none=>true) &&
  ((nM rs).all λb=>(nM rs).all λa=>!(decide (a<b))||Ek rs b a) &&
  ((rs.zipIdx.map λ(r,i)=>{ an:=Uc rs i,cls:=Vz rs i,tgt:=Kz rs r,wide:=(nM rs).any λq=>!Ek rs q i && !Ek rs i q:OI }).zipIdx.all λ(o,w)=>o.cls != 3||(Ek rs w o.tgt&&(List.range rs.length).all λi=>!Ek rs i o.tgt||Ek rs i w||Ek rs w i||w==i))
theorem ZF(rs:List DR):mW rs = { l:=rs.zipIdx.map λ(r,i)=>{ an:=Uc rs i,cls:=Vz rs i,tgt:=Kz rs r,wide:=(nM rs).any λq=>!Ek rs q i && !Ek rs i q:OI },ok:=jn rs }:=by
 have e:(λi=>(((List.range rs.length).map (Vz rs))[i]?).getD 0)=Vz rs:=funext λi=>Cb1 rs i
 have e':∀ i,(((List.range rs.length).map (Vz rs))[i]?).getD 0=Vz rs i:=Cb1 rs
 have h:mW rs=(λK:Nat->Nat=>({ l:=rs.zipIdx.map λ(r,i)=>{ an:=Uc rs i,cls:=K i,tgt:=Kz rs r,wide:=((List.range rs.length).filter λi=>K i==2).any λq=>!Ek rs q i && !Ek rs i q:OI },ok:=
  (rs.zipIdx.all λ(r,i)=>(r.pre.all λj=>decide (j<i)) &&
   (match r.dst with | some t=>Sy rs t==some i | none=>true) &&
   r.tmps.all λt=>match Sy rs t with | some p=>Ek rs i p||Ek rs p i||p==i | none=>true) &&
  (((List.range rs.length).filter λi=>K i==2).all λb=>((List.range rs.length).filter λi=>K i==2).all λa=>!(decide (a<b))||Ek rs b a) &&
  ((rs.zipIdx.map λ(r,i)=>{ an:=Uc rs i,cls:=K i,tgt:=Kz rs r,wide:=((List.range rs.length).filter λi=>K i==2).any λq=>!Ek rs q i && !Ek rs i q:OI }).zipIdx.all λ(o,w)=>o.cls != 3||(Ek rs w o.tgt&&(List.range rs.length).all λi=>!Ek rs i o.tgt||Ek rs i w||Ek rs w i||w==i)) } : RI)) (λi=>(((List.range rs.length).map (Vz rs))[i]?).getD 0):=rfl
 rw [h,e]
 rfl
theorem Bi4{rs:List DR}{i:Nat}{r:DR}(hr:rs[i]?=some r):(mW rs).l[i]?=some { an:=Uc rs i,cls:=Vz rs i,tgt:=Kz rs r,wide:=(nM rs).any λq=>!Ek rs q i && !Ek rs i q:OI }:=by
 rw [ZF]
 simp [Df,List.getElem?_zipIdx,hr]
theorem B54(rs:List DR):(mW rs).l.length=rs.length:=by rw [ZF];simp
theorem A17{α:Type}{l:List α}{i:Nat}{x:α}(h:l[i]?=some x):(x,i)∈l.zipIdx:=by
 rw [List.mem_zipIdx_iff_getElem?];exact h
structure OkI (rs:List DR):Prop where
 pre:∀ (k:Nat) (r:DR),rs[k]?=some r->∀ j∈r.pre,j<k
 dst:∀ (i:Nat) (r:DR) (t:Nat),rs[i]?=some r->r.dst=some t->Sy rs t=some i
 rd:∀ (i:Nat) (r:DR) (t p:Nat),rs[i]?=some r->t∈r.tmps->Sy rs t=some p->Ek rs i p=true\/Ek rs p i=true\/p=i
 ch:∀ a b,a<rs.length->b<rs.length->Vz rs a=2->Vz rs b=2->a<b->Ek rs b a=true
 wr:∀ (w:Nat) (r:DR),rs[w]?=some r->Vz rs w=3->Ek rs w (Kz rs r)=true/\∀ i,i<rs.length->Ek rs i (Kz rs r)=true->Ek rs i w=true\/Ek rs w i=true\/w=i
theorem Cu0{rs:List DR}(h:(mW rs).ok=true):OkI rs:=by
 rw [ZF] at h
 replace h:jn rs=true:=h
 unfold jn at h
 rw [Bq,Bq] at h
 obtain ⟨⟨h1,h2⟩,h3⟩:=h
 have k1:∀ (i:Nat) (r:DR),rs[i]?=some r->_:=λi r hr=>Ay.1 h1 (r,i) (A17 hr)
 simp only [Bq] at k1
 have hm:∀ a,a<rs.length->Vz rs a=2->a∈nM rs:=λa h1 h2=>by simp [nM,h1,h2]
 refine ⟨λk r hr j hj=>?_,λi r t hr ht=>?_,λi r t p hr ht hp=>?_,λa b ha hb ka kb Fb=>?_,λw r hr hk=>?_⟩
 .simpa using Ay.1 (k1 k r hr).1.1 j hj
 .have:=(k1 i r hr).1.2
  rw [ht] at this
  simpa using this
 .have:=Ay.1 (k1 i r hr).2 t ht
  rw [hp] at this
  simp only [Jw,Gl] at this
  rcases this with (h | h) | h
  .exact .inl h
  .exact .inr (.inl h)
  .exact .inr (.inr h)
 .have:=Ay.1 (Ay.1 h2 b (hm b hb kb)) a (hm a ha ka)
  simpa [Fb] using this
 .have hl:=Bi4 hr
  rw [ZF] at hl
  have:=Ay.1 h3 _ (A17 hl)
  simp only [hk,Jw,Bq] at this
  rcases this with h | ⟨h4,h5⟩
  .simp at h
  .refine ⟨h4,λi hi AS=>?_⟩
   have:=Ay.1 h5 i (by simpa using hi)
   simp only [AS,Bool.not_true,Gz,Jw,Gl] at this
   rcases this with (h | h) | h
   .exact .inl h
   .exact .inr (.inl h)
   .exact .inr (.inr h)
theorem Ba4:∀ (rs:List DR) (acc:List (List Nat)) (k:Nat) (r:DR) (l:List Nat),rs[k]?=some r->(∀ (k:Nat) (r:DR),rs[k]?=some r->∀ j∈r.pre,j<acc.length+k)->(Ku rs acc)[acc.length+k]?=some l->
  ∀ x,(x∈r.pre\/∃ j∈r.pre,∃ l',(Ku rs acc)[j]?=some l'/\x∈l')->x∈l
 | [],acc,k,r,l,h,_,_=>by simp at h
 | r0::rs,acc,0,r,l,h,hb,hl=>by
  simp at h;subst h
  intro x hx
  have jX:l=(r0.pre++r0.pre.flatMap λj=>(acc[j]?).getD []).eraseDups:=by
   simp only [Ku] at hl
   rw [SQ rs _ _ (by simp)] at hl
   simpa using hl.symm
  rw [jX,Rk,Bo]
  rcases hx with hx | ⟨j,hj,l',Yf,hx⟩
  .exact .inl hx
  .have Xt:j<acc.length:=hb 0 r0 rfl j hj
   refine .inr (Gn.2 ⟨j,hj,?_⟩)
   simp only [Ku] at Yf
   rw [SQ rs _ j (by simp;omega),Cm Xt] at Yf
   rw [Yf];exact hx
 | r0::rs,acc,k+1,r,l,h,hb,hl=>by
  have key:=Ba4 rs (acc ++ [(r0.pre++r0.pre.flatMap λj=>(acc[j]?).getD []).eraseDups]) k r l (by simpa using h)
   (λk' r' bY j hj=>by have:=hb (k'+1) r' (by simpa using bY) j hj;simp;omega)
   (by simp only [Ku] at hl;rw [<- hl];congr 1;simp;omega)
  simpa only [Ku] using key
section
variable {rs:List DR} (hI:OkI rs)
theorem zy{i:Nat}{r:DR}(hr:rs[i]?=some r):(Ku rs [])[i]?=some (Uc rs i):=by
 have qE:i<(Ku rs []).length:=by rw [YF];have:=(Ar.1 hr).1;simpa using this
 simp [Uc,Aa qE]
include hI
theorem XI{i:Nat}{r:DR}(hr:rs[i]?=some r)(x:Nat):Ek rs i x=true↔x∈r.pre\/∃ j∈r.pre,Ek rs j x=true:=by
 have hb:∀ (k:Nat) (r:DR),rs[k]?=some r->∀ j∈r.pre,j<([]:List (List Nat)).length+k:=λk r' hk j hj=>by have:=hI.pre k r' hk j hj;simp;omega
 have Ot:∀ j∈r.pre,∃ rj,rs[j]?=some rj:=λj hj=>by
  have h1:=hI.pre i r hr j hj
  have h2:=(Ar.1 hr).1
  exact ⟨rs[j],Aa (by omega)⟩
 constructor
 .intro h
  rcases ZJ rs [] i r _ hr hb (by simpa using zy hr) x (by simpa [Ek] using h) with h | ⟨j,hj,l',jX,hx⟩
  .exact .inl h
  .exact .inr ⟨j,hj,by simp [Ek,Uc,jX,hx]⟩
 .intro h
  have:=Ba4 rs [] i r _ hr hb (by simpa using zy hr) x (by
   rcases h with h | ⟨j,hj,h⟩
   .exact .inl h
   .obtain ⟨rj,UT⟩:=Ot j hj
    exact .inr ⟨j,hj,_,zy UT,by simpa [Ek] using h⟩)
  simpa [Ek] using this
theorem eF{i j:Nat}(hi:i<rs.length)(h:Ek rs i j=true):j<i:=by
 induction i using Nat.strongRecOn with
 | _ i ih=>
  have hr:rs[i]?=some rs[i]:=Aa hi
  rcases (XI hI hr j).1 h with h | ⟨x,hx,h⟩
  .exact hI.pre i _ hr j h
  .have h1:=hI.pre i _ hr x hx
   have:=ih x h1 (by omega) h
   omega
theorem B55{a b c:Nat}(ha:a<rs.length)(h1:Ek rs a b=true)(h2:Ek rs b c=true):Ek rs a c=true:=by
 induction a using Nat.strongRecOn with
 | _ a ih=>
  have hr:rs[a]?=some rs[a]:=Aa ha
  rcases (XI hI hr b).1 h1 with h | ⟨x,hx,h⟩
  .exact (XI hI hr c).2 (.inr ⟨b,h,h2⟩)
  .have hxl:=hI.pre a _ hr x hx
   exact (XI hI hr c).2 (.inr ⟨x,hx,ih x hxl (by omega) h⟩)
end
theorem A55:∀ {a b:Value},Pv a b=true->a=b:=by
 intro a b h
 unfold Pv at h
 split at h
 .simpa using h
 .simp only [Bq,Gl] at h;rw [h.1,h.2]
 .rename_i a b
  have h1:a.data.toList=b.data.toList:=by simpa using h
  have h2:a.data=b.data:=Jf.1 h1
  obtain ⟨a⟩:=a;obtain ⟨b⟩:=b
  simp only at h2;rw [h2]
 .rfl
 .simp only [Bq,Gl] at h;rw [h.1,h.2]
 .rfl
 .rfl
 .rfl
 .cases h
theorem CB{f:DV->DV->Bool}(hf:∀ a b,f a b=true->a=b):∀ {a b:List DV},Ji f a b=true->a=b
 | [],[],_=>rfl
 | a::as,b::bs,h=>by
  simp only [Ji,Bq] at h
  rw [hf a b h.1,CB hf h.2]
 | [],_::_,h=>by cases h
 | _::_,[],h=>by cases h
theorem Bs6{a b:Fn}(h:Br6 a b=true):a=b:=by
 unfold Br6 at h
 split at h
 .rw [Gl.1 h]
 .cases h
theorem CH:∀ (n:Nat) (a b:DV),Nb n a b=true->a=b
 | 0,_,_,h=>by cases h
 | n+1,a,b,h=>by
  have ih:=CH n
  cases a <;> cases b <;> simp only [Nb,Bq,Gl] at h <;> first
   | rfl
   | (cases h;done)
   | (rw [A55 h];done)
   | (rw [CB ih h];done)
   | (rw [h.1,CB ih h.2];done)
   | (rw [Bs6 h.1,CB ih h.2];done)
   | (rw [h.1,ih _ _ h.2];done)
   | (rw [h];done)
   | (obtain ⟨⟨⟨h1,h2⟩,h3⟩,h4⟩:=h;rw [h1,h2,h3,h4];done)
   | (obtain ⟨h1,h2⟩:=h;rw [h1,h2];done)
theorem B56{a b:Value}(h:TA a b=true):a=b:=by
 unfold TA at h
 split at h
 .rename_i x y
  have key:∀ l m:List Value,Ji (λx y=>match x,y with | .v x,.v y=>Pv x y | _,_=>false) (l.map .v) (m.map .v)=true->l=m:=by
   intro l
   induction l with
   | nil=>intro m h;cases m with
    | nil=>rfl
    | cons _ _=>simp [Ji] at h
   | cons u l ih=>intro m h;cases m with
    | nil=>simp [Ji] at h
    | cons v m=>
     simp only [Ao,Ji,Bq] at h
     rw [A55 h.1,ih m h.2]
  rw [Jf.1 (key _ _ h)]
 .exact A55 h
theorem Bi6{n:Nat} : ∀ {a b:List ME},Sh n a b=true->a=b
 | [],[],_=>rfl
 | ⟨k,v,c⟩::a,⟨k',v',c'⟩::b,h=>by
  simp only [Sh,Bq,Gl] at h
  obtain ⟨⟨⟨h1,h2⟩,h3⟩,h4⟩:=h
  rw [B56 h1,CH n _ _ h2,h3,Bi6 h4]
 | [],_::_,h=>by simp [Sh] at h
 | _::_,[],h=>by simp [Sh] at h
theorem Ba5:∀ {a b:List Nat},DE a b=true->a=b
 | [],[],_=>rfl
 | x::a,y::b,h=>by
  simp only [DE,Bq,Gl] at h
  rw [h.1,Ba5 h.2]
 | [],_::_,h=>by simp [DE] at h
 | _::_,[],h=>by simp [DE] at h
theorem B57{a b:DObj}(h:oG a b=true):a=b:=by
 unfold oG at h
 split at h
 .simp only [Bq,Gl] at h
  rw [h.1,CB (CH 6) h.2]
 .simp only [Bq,Gl] at h
  rw [h.1,Bi6 h.2]
 .simp only [Bq,Gl] at h
  obtain ⟨⟨⟨h1,h2⟩,h3⟩,h4⟩:=h
  rw [CH 2 _ _ h1,h2,Ba5 h3,h4]
 .cases h
theorem Bs7{a b:Tr DObj}{id:Nat}(h:sameAt a b id=true):a.get id=b.get id:=by
 unfold sameAt at h
 split at h
 .rename_i h1 h2;rw [h1,h2,B57 h]
 .cases h
structure Run (P:Program) (rs:List DR) (s0:DS) (Δ:Nat->DSt) (ρ:Nat->Rec):Prop where
 ok:OkI rs
 fr:s0.Fr
 z:(Δ 0).es.ds=⟨s0.sv,s0.ho,s0.nx+rs.length⟩
 lo0:(Δ 0).lo=[]
 sem:∀ i r o,rs[i]?=some r->(mW rs).l[i]?=some o->Sem P s0.nx rs.length i r o (Δ i) (Δ (i+1)) (ρ i)
 nil:∀ i,rs.length<=i->ρ i=Rec.nil
 look:Oj s0.nx rs.length (Δ rs.length).ws (Δ rs.length).ps=true
theorem Sem.gw{P:Program}{n0 m i:Nat}{r:DR}{o:OI}{δ δ':DSt}{ρ:Rec}(h:Sem P n0 m i r o δ δ' ρ)(hi:i<m)(hn:n0+m<=δ.es.nx):δ.es.nx<=δ'.es.nx/\∀ id,δ.es.ds.ho id=none->δ'.es.ds.ho id≠none->n0<=id/\id<δ'.es.nx:=by
 have oU:∀ {s:DS} {d:DV},δ'.es.ds=s.put r.dst d->δ'.es.nx=s.nx/\δ'.es.ds.ho=s.ho:=λ{s d} h=>by
  have h1:δ'.es.ds.nx=s.nx:=by rw [h,DS.nx_put]
  exact ⟨h1,by rw [h,DS.ho_put]⟩
 have nxd:δ.es.ds.nx=δ.es.nx:=rfl
 cases h with
 | off hw hd hl ht hm he Hv Ma Ht=>
  obtain ⟨e1,e2⟩:=oU he
  rw [e1,e2]
  exact ⟨Af _,λid h1 h2=>absurd h1 h2⟩
 | read hw Kw hx hl ht hm he Hv Ma Tv Ht=>
  obtain ⟨e1,e2⟩:=oU he
  rw [e1,e2]
  exact ⟨Af _,λid h1 h2=>absurd h1 h2⟩
 | lay ob hw Kw hx hl ht hm he Hv Ma Tv Ht=>
  obtain ⟨e1,e2⟩:=oU he
  rw [e1,e2]
  refine ⟨Af _,λid h1 h2=>?_⟩
  simp only [Gr] at h2
  split at h2
  .show n0<=id/\id<δ.es.nx;omega
  .exact absurd h1 h2
 | wr ob hw hc Kw hx Ql Fb Kc hl ht mA hm he Hv Ma Ht=>
  obtain ⟨e1,e2⟩:=oU he
  rw [e1,e2]
  refine ⟨Af _,λid h1 h2=>?_⟩
  simp only [Gr] at h2
  split at h2
  .rename_i e
   have:=As6 hx
   simp only [DS.hasU] at this
   rw [e] at h1;rw [h1] at this;cases this
  .exact absurd h1 h2
 | main hid hs Rr eZ hw hc Kw hx hg hl ht hm he Hv Ma Ht=>
  obtain ⟨e1,e2⟩:=oU he
  rw [e1,e2]
  have hle:δ.es.nx<=ρ.N:=by have:=hg.le;rw [eZ] at this;exact this
  refine ⟨hle,λid h1 h2=>?_⟩
  simp only at h2
  split at h2
  .exact absurd h1 h2
  .rename_i hnh
   have:=hg.new id (by rw [eZ];simp only;rw [Ae hnh];exact h1) h2
   rw [eZ] at this
   have h3:δ.es.nx<=id/\id<ρ.N:=this
   exact ⟨by omega,h3.2⟩
theorem Sem.fr{P:Program}{n0 m i:Nat}{r:DR}{o:OI}{δ δ':DSt}{ρ:Rec}(h:Sem P n0 m i r o δ δ' ρ)(hi:i<m)(hn:n0+m<=δ.es.nx)(Fv:δ.es.ds.Fr):δ'.es.ds.Fr:=λid hid=>by
 obtain ⟨h1,h2⟩:=h.gw hi hn
 have aWy:δ'.es.nx<=id:=hid
 cases h4:δ'.es.ds.ho id with
 | none=>rfl
 | some o=>
  have:=h2 id (Fv id (by show δ.es.nx<=id;omega)) (by rw [h4];simp)
  omega
theorem Ba6{P:Program}{call:Bf}(hc:Vy P call){n0 m:Nat} : ∀ (rs:List DR) (os:List OI) (i:Nat) (δ δ':DSt),rs.length=os.length->i+rs.length<=m->Pb rs os i call n0 m δ=some δ'->δ.es.ds.Fr->n0+m<=δ.es.nx->
  ∃ (Δ:Nat->DSt) (ρ:Nat->Rec),Δ 0=δ/\Δ rs.length=δ'/\∀ j r o,rs[j]?=some r->os[j]?=some o->Sem P n0 m (i+j) r o (Δ j) (Δ (j+1)) (ρ j)
 | [],os,i,δ,δ',hl,hm,h,Fv,hn=>by
  have h3:some δ=some δ':=by
   cases os <;> exact h
  cases h3
  exact ⟨λ_=>δ,λ_=>Rec.nil,rfl,rfl,λj r o hr=>by simp at hr⟩
 | r::rs,[],i,δ,δ',hl,hm,h,Fv,hn=>by simp at hl
 | r::rs,o::os,i,δ,δ',hl,hm,h,Fv,hn=>by
  have h':dq (dQ i r o) (Pb rs os (i+1)) call n0 m δ=some δ':=h
  obtain ⟨δ1,h1,h2⟩:=Jp h'
  obtain ⟨ρ0,hs⟩:=Ba3 hc Fv h1
  have vF:i<m:=by simp at hm;omega
  obtain ⟨g1,_⟩:=hs.gw vF hn
  obtain ⟨Δ,ρ,e1,e2,e3⟩:=Ba6 hc rs os (i+1) δ1 δ' (by simpa using hl) (by simp at hm;omega) h2 (hs.fr vF hn Fv) (by omega)
  refine ⟨λj=>match j with | 0=>δ | j+1=>Δ j,λj=>match j with | 0=>ρ0 | j+1=>ρ j,rfl,e2,λj r' o' hr ho=>?_⟩
  cases j with
  | zero=>
   simp at hr ho
   subst hr;subst ho
   show Sem P n0 m (i+0) r o δ (Δ 0) ρ0
   rw [e1];exact hs
  | succ j=>
   have:=e3 j r' o' (by simpa using hr) (by simpa using ho)
   rw [show i+(j+1)=i+1+j by omega]
   exact this
theorem Cu1{P:Program}{call:Bf}(hc:Vy P call){rs:List DR}{es es':ES}(Vl:(mW rs).ok=true)(h:Dg rs.length (Pb rs (mW rs).l 0) call es=some es')(Fv:es.ds.Fr):∃ Δ ρ,Run P rs es.ds Δ ρ/\(Δ rs.length).es=es':=by
 unfold Dg at h
 obtain ⟨δ',h1,h2⟩:=Jp h
 obtain ⟨h3,h4⟩:=eO h2
 cases h4
 rw [dR,aW] at h1
 obtain ⟨Δ,ρ,e1,e2,e3⟩:=Ba6 hc rs (mW rs).l 0 _ _ (B54 rs).symm (by omega) h1 (λid hid=>Fv id (by
  have:es.nx+rs.length<=id:=hid
  show es.nx<=id;omega)) (Af _)
 refine ⟨Δ,λi=>if i<rs.length then ρ i else Rec.nil,⟨Cu0 Vl,Fv,by rw [e1];rfl,by rw [e1],λi r o hr ho=>?_,λi hi=>Ae (by omega),by rw [e2];exact h3⟩,by rw [e2]⟩
 have:=e3 i r o hr ho
 rw [Er] at this
 rw [Ah (Ar.1 hr).1]
 exact this
end Go.DD

/- The evaluator's regions that draw their order, second part. -/
namespace Go.DD
def iS(f:Nat->Bool)(i:Nat):Nat:=((List.range i).filter f).length
theorem J6(f:Nat->Bool)(i:Nat):iS f (i+1)=iS f i+(if f i=true then 1 else 0):=by
 unfold iS
 rw [List.range_succ,List.filter_append,Bp]
 congr 1
 by_cases h:f i=true
 .simp [h]
 .simp [h]
theorem Mp(f:Nat->Bool){i j:Nat}(h:i<=j):iS f i<=iS f j:=by
 induction h with
 | refl=>exact Af _
 | step _ ih=>rw [J6];omega
theorem aS(f:Nat->Bool){i j:Nat}(h:i<j)(hf:f i=true):iS f i<iS f j:=by
 have:=Mp f (Nat.succ_le_of_lt h)
 have h2:=J6 f i
 rw [Ah hf] at h2
 have:iS f (i+1)<=iS f j:=this
 omega
theorem Bo0(f:Nat->Bool):∀ (m k q:Nat),((List.range m).filter f)[k]?=some q↔q<m/\f q=true/\iS f q=k:=by
 intro m
 induction m with
 | zero=>intro k q;simp
 | succ m ih=>
  intro k q
  rw [List.range_succ,List.filter_append]
  rcases Cj k ((List.range m).filter f).length with h | h
  .rw [Cm h,ih]
   constructor
   .rintro ⟨h1,h2,h3⟩;exact ⟨by omega,h2,h3⟩
   .rintro ⟨h1,h2,h3⟩
    refine ⟨?_,h2,h3⟩
    have:q≠m:=λe=>by subst e;unfold iS at h3;omega
    omega
  .rw [Ko h]
   by_cases hm:f m=true
   .rw [Vd hm,List.filter_nil]
    constructor
    .intro h1
     have hk:k=((List.range m).filter f).length:=by
      rcases Cj ((List.range m).filter f).length k with h2 | h2
      .rw [Ie (by simp;omega)] at h1;cases h1
      .omega
     subst hk
     simp at h1
     subst h1
     exact ⟨by omega,hm,rfl⟩
    .rintro ⟨h1,h2,h3⟩
     have hq:q=m:=by
      rcases Cj q m with h4 | h4
      .have:=aS f h4 h2
       have e:iS f m=((List.range m).filter f).length:=rfl
       omega
      .omega
     subst hq
     have:k-((List.range q).filter f).length=0:=by unfold iS at h3;omega
     rw [this];rfl
   .rw [Ve hm,List.filter_nil]
    constructor
    .intro h1;simp at h1
    .rintro ⟨h1,h2,h3⟩
     exfalso
     have hq:q≠m:=λe=>hm (by rw [<- e];exact h2)
     have:=aS f (show q<m by omega) h2
     have e:iS f m=((List.range m).filter f).length:=rfl
     omega
def JB(ρ:Nat->Rec)(h0:Nat->Option DObj)(main:List Nat):Nat->Nat->Option DObj
 | 0=>h0
 | k+1=>match main[k]? with
  | some q=>(ρ q).H
  | none=>λ_=>none
def uM(ρ:Nat->Rec)(n:Nat)(main:List Nat):Nat->Nat
 | 0=>n
 | k+1=>match main[k]? with
  | some q=>(ρ q).N
  | none=>uM ρ n main k
def Eo(ρ:Nat->Rec)(s0:DS)(m:Nat):RG where
 d i:=(ρ i).d
 lay i:=(ρ i).lay
 tgt i:=(ρ i).tgt
 ob i:=(ρ i).ob
 main:=(List.range m).filter λi=>(ρ i).mn
 H:=JB ρ s0.ho ((List.range m).filter λi=>(ρ i).mn)
 N:=uM ρ (s0.nx+m) ((List.range m).filter λi=>(ρ i).mn)
def kI(ρ:Nat->Rec)(i:Nat):Nat:=iS (λi=>(ρ i).mn) i
def Lt(i:Nat):Nat->Bool:=λj=>decide (j<i)
section
variable {P:Program} {rs:List DR} {s0:DS} {Δ:Nat->DSt} {ρ:Nat->Rec} (R:Run P rs s0 Δ ρ)
include R
omit R in
theorem main_get{q k m:Nat} : (Eo ρ s0 m).main[k]?=some q↔q<m/\(ρ q).mn=true/\kI ρ q=k:=Bo0 _ _ _ _
omit R in
theorem B58{m:Nat} : (Eo ρ s0 m).main.length=kI ρ m:=rfl
theorem semAt{i:Nat}{r:DR}(hr:rs[i]?=some r):Sem P s0.nx rs.length i r { an:=Uc rs i,cls:=Vz rs i,tgt:=Kz rs r,wide:=(nM rs).any λq=>!Ek rs q i && !Ek rs i q:OI } (Δ i) (Δ (i+1)) (ρ i):=R.sem i r _ hr (Bi4 hr)
theorem XH{i:Nat}(hi:i<rs.length)(h:(ρ i).mn=true):Vz rs i=2/\(ρ i).lay=none/\(ρ i).tgt=none:=by
 have hr:rs[i]?=some rs[i]:=Aa hi
 cases semAt R hr with
 | off hw hd hl ht hm he Hv Ma Ht=>rw [hm] at h;cases h
 | read hw Kw hx hl ht hm he Hv Ma Tv Ht=>rw [hm] at h;cases h
 | lay ob hw Kw hx hl ht hm he Hv Ma Tv Ht=>rw [hm] at h;cases h
 | wr ob hw hc Kw hx Ql Fb Kc hl ht mA hm he Hv Ma Ht=>rw [hm] at h;cases h
 | main hid hs Rr eZ hw hc Kw hx hg hl ht hm he Hv Ma Ht=>exact ⟨hc,hl,ht⟩
theorem zx{w j:Nat}(h:(ρ w).tgt=some j):w<rs.length/\Ek rs w j=true/\∀ i,i<rs.length->Ek rs i j=true->Ek rs i w=true\/Ek rs w i=true\/w=i:=by
 rcases Cj w rs.length with hi | hi
 .have hr:rs[w]?=some rs[w]:=Aa hi
  cases semAt R hr with
  | off hw hd hl ht hm he Hv Ma Ht=>rw [ht] at h;cases h
  | read hw Kw hx hl ht hm he Hv Ma Tv Ht=>rw [ht] at h;cases h
  | lay ob hw Kw hx hl ht hm he Hv Ma Tv Ht=>rw [ht] at h;cases h
  | wr ob hw hc Kw hx Ql Fb Kc hl ht mA hm he Hv Ma Ht=>
   rw [ht] at h
   have hj:Kz rs rs[w]=j:=Im h
   have h3:Vz rs w=3:=by
    have h1:=KC rs w
    have h2:Vz rs w≠0/\Vz rs w≠1/\Vz rs w≠2:=hc
    omega
   have:=R.ok.wr w _ hr h3
   rw [hj] at this
   exact ⟨hi,this⟩
  | main hid hs Rr eZ hw hc Kw hx hg hl ht hm he Hv Ma Ht=>rw [ht] at h;cases h
 .rw [R.nil w hi] at h;cases h
theorem Uh:∀ i,i<=rs.length->(Eo ρ s0 rs.length).N (kI ρ i)=(Δ i).es.nx/\s0.nx+rs.length<=(Δ i).es.nx/\(Δ i).es.ds.Fr
 | 0,_=>by
  have e:(Δ 0).es.nx=s0.nx+rs.length:=by have:=Rh DS.nx R.z;exact this
  refine ⟨by rw [e];rfl,by rw [e];omega,?_⟩
  rw [R.z]
  intro id hid
  have:s0.nx+rs.length<=id:=hid
  exact R.fr id (by omega)
 | i+1,hi=>by
  obtain ⟨h1,h2,h3⟩:=Uh i (by omega)
  have hr:rs[i]?=some rs[i]:=Aa (by omega)
  have hs:=semAt R hr
  have hg:=hs.gw (by omega) h2
  have hf:=hs.fr (by omega) h2 h3
  refine ⟨?_,by omega,hf⟩
  have same:(ρ i).mn=false->(Δ (i+1)).es.nx=(Δ i).es.nx->(Eo ρ s0 rs.length).N (kI ρ (i+1))=(Δ (i+1)).es.nx:=λh4 h5=>by
   have:kI ρ (i+1)=kI ρ i:=by unfold kI;rw [J6];simp [h4]
   rw [this,h1,h5]
  have oU:∀ {s:DS} {d:DV},(Δ (i+1)).es.ds=s.put rs[i].dst d->(Δ (i+1)).es.nx=s.nx:=λ{s d} h=>by
   have h1:(Δ (i+1)).es.ds.nx=s.nx:=by rw [h,DS.nx_put]
   exact h1
  cases hs with
  | off hw hd hl ht hm he Hv Ma Ht=>exact same hm (oU he)
  | read hw Kw hx hl ht hm he Hv Ma Tv Ht=>exact same hm (oU he)
  | lay ob hw Kw hx hl ht hm he Hv Ma Tv Ht=>exact same hm (oU he)
  | wr ob hw hc Kw hx Ql Fb Kc hl ht mA hm he Hv Ma Ht=>exact same hm (oU he)
  | main hid hs Rr eZ hw hc Kw hx hg hl ht hm he Hv Ma Ht=>
   rw [oU he]
   have e:kI ρ (i+1)=kI ρ i+1:=by unfold kI;rw [J6];simp [hm]
   have hmg:((List.range rs.length).filter λi=>(ρ i).mn)[kI ρ i]?=some i:=(main_get (s0:=s0)).2 ⟨by omega,hm,rfl⟩
   rw [e]
   show uM ρ _ _ _=_
   simp only [uM,hmg]
theorem BV:(Eo ρ s0 rs.length).OKs rs s0 where
 pre:=R.ok.pre
 dst i j r r' t h1 h2 h3 h4:=by
  have e1:=R.ok.dst i r t h1 h3
  have e2:=R.ok.dst j r' t h2 h4
  rw [e1] at e2
  exact Im e2
 rd:=R.ok.rd
 chain a b i j h1 h2 h3:=by
  obtain ⟨g1,g2,g3⟩:=main_get.1 h1
  obtain ⟨f1,f2,f3⟩:=main_get.1 h2
  have Nm:i<j:=by
   rcases Cj i j with h | h
   .exact h
   .have:kI ρ j<=kI ρ i:=Mp _ h
    omega
  exact R.ok.ch i j g1 f1 (XH R g1 g2).1 (XH R f1 f2).1 Nm
 mlt a i h:=by
  obtain ⟨g1,g2,g3⟩:=main_get.1 h
  exact ⟨g1,(XH R g1 g2).2⟩
 wr1 w j h:=(zx R h).2.1
 wr2 i j w hi hw ha ht:=(zx R ht).2.2 i hi ha
 h0:=rfl
 n0:=rfl
 mono k:=by
  cases hm:(Eo ρ s0 rs.length).main[k]? with
  | none=>
   have jW:((List.range rs.length).filter λi=>(ρ i).mn)[k]?=none:=hm
   show uM ρ _ _ k<=uM ρ _ _ (k+1)
   simp only [uM,jW]
   exact Af _
  | some q=>
   obtain ⟨g1,g2,g3⟩:=main_get.1 hm
   have e1:=Uh R q (by omega)
   have e2:=Uh R (q+1) (by omega)
   have hr:rs[q]?=some rs[q]:=Aa g1
   have:=((semAt R hr).gw g1 e1.2.1).1
   have ek:kI ρ (q+1)=k+1:=by
    have h5:=J6 (λi=>(ρ i).mn) q
    rw [Ah g2] at h5
    unfold kI at g3 ⊢
    omega
   rw [<- ek,e2.1,<- g3,e1.1]
   exact this
structure Inv (P:Program) (rs:List DR) (s0:DS) (Δ:Nat->DSt) (ρ:Nat->Rec) (i:Nat):Prop where
 sv:(Δ i).es.ds.sv=(Eo ρ s0 rs.length).sv rs s0 (Lt i)
 ho:(Δ i).es.ds.ho=(Eo ρ s0 rs.length).full rs s0 (Lt i) (kI ρ i)
 lo:∀ j,j∈(Δ i).lo↔j<i/\(ρ j).lay.isSome=true/\(Eo ρ s0 rs.length).pr rs (kI ρ i) j=false
theorem XZ{i:Nat}(hi:i<=rs.length):Done rs (Eo ρ s0 rs.length) (Lt i) (kI ρ i) where
 cl i' h1 h2 j h3:=by
  have h4:=eF R.ok h1 h3
  simp only [Lt,Iq] at h2 ⊢
  omega
 le:=Mp _ hi
 mn q j h:=by
  obtain ⟨g1,g2,g3⟩:=main_get.1 h
  simp only [Lt,Iq]
  constructor
  .intro h;rw [<- g3];exact aS _ h g2
  .intro h
   rcases Cj j i with h' | h'
   .exact h'
   .have:kI ρ i<=kI ρ j:=Mp _ h'
    omega
omit R in
theorem Ck8(i:Nat)(j:Nat):Lt (i+1) j=(j==i||Lt i j):=by
 unfold Lt
 by_cases h:j=i
 .subst h;simp
 .have:decide (j<i+1)=decide (j<i):=by simp;omega
  rw [this,Da.2 h,Gz]
theorem kT{i:Nat}(hi:i<rs.length)(j:Nat)(h:Ek rs i j=true):Lt i j=true:=by
 simp only [Lt,Iq];exact eF R.ok hi h
omit R in
theorem RX(i:Nat):Lt i i=false:=by simp [Lt]
theorem Ck9{i k:Nat}(hk:k<=kI ρ i):(Eo ρ s0 rs.length).pr rs k i=false:=by
 unfold RG.pr
 rw [List.any_eq_false]
 intro q hq
 obtain ⟨p,hp,rfl⟩:=Bx.1 hq
 rw [Ca] at hp
 have hm:(Eo ρ s0 rs.length).main[p]?=some ((Eo ρ s0 rs.length).main.take k)[p]:=by
  rw [Ew];exact Aa (by omega)
 obtain ⟨g1,g2,g3⟩:=main_get.1 hm
 intro ha
 have h1:=eF R.ok g1 ha
 have h2:kI ρ i<kI ρ ((Eo ρ s0 rs.length).main.take k)[p]\/kI ρ i<=kI ρ ((Eo ρ s0 rs.length).main.take k)[p]:=.inr (Mp _ (Nat.le_of_lt h1))
 omega
theorem seen{i:Nat}(hi:i<rs.length)(I:Inv P rs s0 Δ ρ i)(id:Nat):((Eo ρ s0 rs.length).st rs s0 i (kI ρ i)).ho id=if ∃ j∈(Δ i).lo.filter (λj=>!(Uc rs i).contains j),id=s0.nx+j then none else (Δ i).es.ds.ho id:=by
 have hr:rs[i]?=some rs[i]:=Aa hi
 have hv:=Ay1 (D:=Eo ρ s0 rs.length) (rs:=rs) (s0:=s0) (L:=Lt i) (k:=kI ρ i) (BV R) (XZ R (by omega)) hr (RX i) (kT R hi) id
 show (Eo ρ s0 rs.length).full rs s0 (Ek rs i) (kI ρ i) id=_
 rw [hv,I.ho]
 cases hu:(Eo ρ s0 rs.length).unp rs s0 (kI ρ i) id with
 | none=>
  rw [Ae]
  rintro ⟨j,hj,e⟩
  rw [Gh,I.lo] at hj
  obtain ⟨⟨h1,h2,h3⟩,_⟩:=hj
  have:(Eo ρ s0 rs.length).unp rs s0 (kI ρ i) id=some j:=by
   unfold RG.unp
   have e':id-s0.nx=j:=by omega
   rw [e',Ah ⟨by omega,by omega,h2,h3⟩]
  rw [hu] at this;cases this
 | some j=>
  obtain ⟨e1,e2,e3,e4⟩:=bG hu
  simp only
  by_cases ha:Ek rs i j=true
  .rw [Ah ha,Ae]
   rintro ⟨j',hj,e⟩
   have:j'=j:=by omega
   subst this
   have h1:=(Gh.1 hj).2
   have h2:(Uc rs i).contains j'=true:=ha
   rw [h2] at h1;cases h1
  .rw [Ae ha]
   rcases Cj j i with Nl | Nl
   .rw [Ah]
    refine ⟨j,Gh.2 ⟨(I.lo j).2 ⟨Nl,e3,e4⟩,?_⟩,e1⟩
    have h2:¬ (Uc rs i).contains j=true:=ha
    simpa using h2
   .have cF:(Eo ρ s0 rs.length).full rs s0 (Lt i) (kI ρ i) id=none:=by
     unfold RG.full
     rw [hu]
     have:Lt i j=false:=by simp [Lt];omega
     simp [this]
    rw [cF]
    split <;> rfl
theorem B59{i:Nat}(hi:i<rs.length)(I:Inv P rs s0 Δ ρ i):Inv P rs s0 Δ ρ (i+1):=by
 have hr:rs[i]?=some rs[i]:=Aa hi
 have Ia:=BV R
 have hD:=XZ R (Nat.le_of_lt hi)
 have Kc:=kT R hi
 have Mu:=Ck8 i
 have hs:=semAt R hr
 have Yy:(ρ i).mn=false->kI ρ (i+1)=kI ρ i:=λh4=>by unfold kI;rw [J6];simp [h4]
 have fin:∀ {ho:Nat->Option DObj} {nx:Nat},(Δ (i+1)).es.ds=(⟨(Δ i).es.ds.sv,ho,nx⟩:DS).put rs[i].dst (ρ i).d->ho=(Eo ρ s0 rs.length).full rs s0 (Lt (i+1)) (kI ρ (i+1))->
   (∀ j,j∈(Δ (i+1)).lo↔j<i+1/\(ρ j).lay.isSome=true/\(Eo ρ s0 rs.length).pr rs (kI ρ (i+1)) j=false)->Inv P rs s0 Δ ρ (i+1):=λ{ho nx} h1 h2 h3=>by
  obtain ⟨e1,e2⟩:=Br3 (D:=Eo ρ s0 rs.length) (L:=Lt i) (L':=Lt (i+1)) Ia hr Mu (kI ρ (i+1)) ⟨(Δ i).es.ds.sv,ho,nx⟩ I.sv h2
  exact ⟨by rw [h1];exact e1.symm,by rw [h1];exact e2.symm,h3⟩
 have gB:(ρ i).mn=false->(ρ i).lay=none->(Δ (i+1)).lo=(Δ i).lo->∀ j,j∈(Δ (i+1)).lo↔j<i+1/\(ρ j).lay.isSome=true/\(Eo ρ s0 rs.length).pr rs (kI ρ (i+1)) j=false:=λh1 h2 h3 j=>by
  rw [h3,Yy h1,I.lo]
  constructor
  .rintro ⟨g1,g2⟩;exact ⟨by omega,g2⟩
  .rintro ⟨g1,g2,g3⟩
   refine ⟨?_,g2,g3⟩
   have:j≠i:=λe=>by rw [e,h2] at g2;cases g2
   omega
 cases hs with
 | off hw hd hl ht hm he Hv Ma Ht=>
  refine fin (ho:=(Δ i).es.ds.ho) (nx:=(Δ i).es.ds.nx) (by rw [hd];exact he) ?_ (gB hm hl Hv)
  rw [Yy hm,I.ho]
  exact (YL (D:=Eo ρ s0 rs.length) (L:=Lt i) (L':=Lt (i+1)) (i:=i) Mu hl ht).symm
 | read hw Kw hx hl ht hm he Hv Ma Tv Ht=>
  refine fin (ho:=(Δ i).es.ds.ho) (nx:=(Δ i).es.ds.nx) he ?_ (gB hm hl Hv)
  rw [Yy hm,I.ho]
  exact (YL (D:=Eo ρ s0 rs.length) (L:=Lt i) (L':=Lt (i+1)) (i:=i) Mu hl ht).symm
 | lay ob hw Kw hx hl ht hm he Hv Ma Tv Ht=>
  refine fin he ?_ λj=>?_
  .rw [Yy hm,I.ho]
   exact (Bh7 (D:=Eo ρ s0 rs.length) (L:=Lt i) (L':=Lt (i+1)) Ia hD hr (RX i) Mu hl ht).symm
  .rw [Hv,Ak,Yy hm,I.lo]
   constructor
   .rintro (rfl | ⟨g1,g2⟩)
    .exact ⟨by omega,by rw [hl];rfl,Ck9 R (Af _)⟩
    .exact ⟨by omega,g2⟩
   .rintro ⟨g1,g2⟩
    by_cases Nl:j=i
    .exact .inl Nl
    .exact .inr ⟨by omega,g2⟩
 | wr ob hw hc Kw hx Ql Fb vO hl ht mA hm he Hv Ma Ht=>
  refine fin he ?_ (gB hm hl Hv)
  obtain ⟨g1,g2,g3⟩:=(I.lo _).1 Fb
  have hu:(Eo ρ s0 rs.length).unp rs s0 (kI ρ i) (s0.nx+Kz rs rs[i])=some (Kz rs rs[i]):=by
   unfold RG.unp
   have g1':Kz rs rs[i]<i:=g1
   have e':s0.nx+Kz rs rs[i]-s0.nx=Kz rs rs[i]:=by omega
   rw [e',Ah ⟨by omega,by omega,g2,g3⟩]
  rw [Yy hm,I.ho,<- mA]
  exact (Br4 (D:=Eo ρ s0 rs.length) (L:=Lt i) (L':=Lt (i+1)) Ia hD hr (RX i) Kc Mu hu vO ht hl).symm
 | main hid hs Rr eZ hw hc Kw hx hg hl ht hm he Hv Ma Ht=>
  have B6:(Eo ρ s0 rs.length).main[kI ρ i]?=some i:=main_get.2 ⟨hi,hm,rfl⟩
  have hk:kI ρ (i+1)=kI ρ i+1:=by unfold kI;rw [J6];simp [hm]
  have hH:(Eo ρ s0 rs.length).H (kI ρ i+1)=(ρ i).H:=by
   have:((List.range rs.length).filter λi=>(ρ i).mn)[kI ρ i]?=some i:=B6
   show JB ρ s0.ho ((List.range rs.length).filter λi=>(ρ i).mn) (kI ρ i+1)=_
   simp only [JB,this]
  have Vm:=Uh R i (by omega)
  have Ss:∀ j,j∈hid↔j∈(Δ i).lo/\Ek rs i j=false:=λj=>by
   rw [Rr,Gh]
   show _/\(!(Ek rs i j))=true↔_
   simp
  refine fin he ?_ λj=>?_
  .funext id
   rw [hk,Ay0 (D:=Eo ρ s0 rs.length) (L:=Lt i) (L':=Lt (i+1)) Mu B6 hl ht id,hH]
   cases hu:(Eo ρ s0 rs.length).unp rs s0 (kI ρ i) id with
   | none=>
    simp only
    rw [Ae]
    rintro ⟨j,hj,e⟩
    obtain ⟨h1,h2,h3⟩:=(I.lo j).1 ((Ss j).1 hj).1
    have:(Eo ρ s0 rs.length).unp rs s0 (kI ρ i) id=some j:=by
     unfold RG.unp
     have e':id-s0.nx=j:=by omega
     rw [e',Ah ⟨by omega,by omega,h2,h3⟩]
    rw [hu] at this;cases this
   | some j=>
    obtain ⟨e1,e2,e3,e4⟩:=bG hu
    simp only
    by_cases ha:Ek rs i j=true
    .rw [Ah ha,Ae]
     rintro ⟨j',hj,e⟩
     have:j'=j:=by omega
     subst this
     rw [((Ss j').1 hj).2] at ha;cases ha
    .rw [Ae ha]
     have Xg:(Eo ρ s0 rs.length).full rs s0 (Lt i) (kI ρ i) id=if Lt i j=true then (Eo ρ s0 rs.length).cur rs (Lt i) j else none:=by
      unfold RG.full;rw [hu]
     rcases Cj j i with Nl | Nl
     .rw [Ah ⟨j,(Ss j).2 ⟨(I.lo j).2 ⟨Nl,e3,e4⟩,by simpa using ha⟩,e1⟩,I.ho,Xg]
     .have iJ:Lt i j=false:=by simp [Lt];omega
      rw [iJ]
      rw [iJ] at Xg
      simp only [Mi,Ph] at Xg ⊢
      rw [Ae (λ⟨j',hj,e⟩=>by
       have:j'=j:=by omega
       subst this
       have:=((I.lo j').1 ((Ss j').1 hj).1).1
       omega)]
      cases hx:(ρ i).H id with
      | none=>rfl
      | some x=>
       exfalso
       have hn:hs.ho id=none:=by
        rw [eZ]
        simp only
        rw [I.ho,Xg]
        split <;> rfl
       have:=(hg.new id hn (by show (ρ i).H id≠none;rw [hx];simp)).1
       rw [eZ] at this
       have h7:(Δ i).es.nx<=id:=this
       have:=Vm.2.1
       omega
  .rw [Hv,Ss,I.lo,hk,RZ B6,Pk]
   constructor
   .rintro ⟨⟨g1,g2,g3⟩,g4⟩;exact ⟨by omega,g2,g3,g4⟩
   .rintro ⟨g1,g2,g3,g4⟩
    have:j≠i:=λe=>by rw [e,hl] at g2;cases g2
    exact ⟨⟨by omega,g2,g3⟩,g4⟩
theorem J0:∀ i,i<=rs.length->Inv P rs s0 Δ ρ i
 | 0,_=>by
  refine ⟨?_,?_,λj=>by rw [R.lo0];simp⟩
  .funext t
   rw [R.z]
   show s0.sv t=RG.sv rs s0 _ _ t
   unfold RG.sv
   split
   .simp [Lt]
   .rfl
  .funext id
   rw [R.z]
   show s0.ho id=RG.full rs s0 _ _ _ id
   unfold RG.full
   cases hu:(Eo ρ s0 rs.length).unp rs s0 (kI ρ 0) id with
   | none=>rfl
   | some j=>
    have:=bG hu
    simp [Lt]
    exact R.fr id (by omega)
 | i+1,hi=>B59 R (by omega) (J0 i (by omega))
end
end Go.DD

/- The evaluator's regions that draw their order, third part: the theorem. -/
namespace Go.DD
theorem Cu2{s:DS}{op:DOp}{x:Operand}(hx:x∈op.opnds){id:Nat}(h:id∈(s.ev x).refs):eJ s op id:=by
 cases x with
 | tmp t=>
  simp only [DS.ev] at h
  split at h
  .exact ⟨t,hx,h⟩
  .simp [DV.refs] at h
 | const x=>simp only [DS.ev] at h;rw [Bg2] at h;cases h
 | func f=>simp [DS.ev,DV.refs,DV.refsL] at h
 | global g=>simp only [DS.ev] at h;rw [Bg1] at h;cases h
def HoEq(c:Bool)(a b:Option DObj):Prop:=if c=true then a=b else a.isSome=b.isSome
theorem HoEq.of{c:Bool}{a b:Option DObj}(h:a=b):HoEq c a b:=by
 unfold HoEq;subst h;split <;> rfl
theorem HoEq.some{c:Bool}{a b:Option DObj}(h:HoEq c a b):a.isSome=b.isSome:=by
 unfold HoEq at h;split at h
 .rw [h]
 .exact h
theorem HoEq.symm{c:Bool}{a b:Option DObj}(h:HoEq c a b):HoEq c b a:=by
 unfold HoEq at *
 split at h
 .rename_i hc;rw [Ah hc];exact h.symm
 .rename_i hc;rw [Ae hc];exact h.symm
theorem HoEq.trans{c:Bool}{a b d:Option DObj}(h:HoEq c a b)(h':HoEq c b d):HoEq c a d:=by
 unfold HoEq at *
 split at h
 .rename_i hc;rw [Ah hc] at h' ⊢;exact h.trans h'
 .rename_i hc;rw [Ae hc] at h' ⊢;exact h.trans h'
theorem look_eq{c:Bool}{a b:Tr DObj}{id:Nat}(h:(if c=true then sameAt a b id else tD a b id)=true):HoEq c (a.get id) (b.get id):=by
 unfold HoEq
 split at h
 .rename_i hc;rw [Ah hc];exact Bs7 h
 .rename_i hc;rw [Ae hc];unfold tD at h;simpa using h
theorem Bi8{op:DOp}{s s':DS}(uS:∀ t,.tmp t∈op.opnds->s'.sv t=s.sv t)(qG:∀ id,eJ s op id->HoEq op.rdC (s'.ho id) (s.ho id)):Agree op s s':=by
 refine ⟨λx hx=>?_,λx hx=>?_,λhc x hx id hid=>(by have:=qG id (Cu2 hx hid);unfold HoEq at this;rwa [Ah hc] at this)⟩
 .cases x with
  | tmp t=>
   have h1:=uS t hx
   have h2:s'.live (s'.sv t)=s.live (s.sv t):=by
    rw [h1]
    unfold DS.live
    rw [Bool.eq_iff_iff,Ay,Ay]
    constructor
    .intro h id hid;rw [<- (qG id ⟨t,hx,hid⟩).some];exact h id hid
    .intro h id hid;rw [(qG id ⟨t,hx,hid⟩).some];exact h id hid
   simp only [DS.ev]
   rw [h2,h1]
  | _=>rfl
 .cases x with
  | tmp t=>exact uS t hx
  | _=>rfl
section
variable {P:Program} {rs:List DR} {s0:DS} {Δ:Nat->DSt} {ρ:Nat->Rec} (R:Run P rs s0 Δ ρ)
include R
theorem Cl0{i:Nat}(hi:i<rs.length):(∀ w∈(Δ i).ws,w∈(Δ (i+1)).ws)/\(∀ p∈(Δ i).ps,p∈(Δ (i+1)).ps):=by
 cases semAt R (Aa hi) with
 | off hw hd hl ht hm he Hv Ma Ht=>rw [Ma,Ht];exact ⟨λ_ h=>h,λ_ h=>h⟩
 | read hw Kw hx hl ht hm he Hv Ma Tv Ht=>rw [Ht];exact ⟨Ma,λ_ h=>h⟩
 | lay ob hw Kw hx hl ht hm he Hv Ma Tv Ht=>rw [Ht];exact ⟨Ma,λ_ h=>h⟩
 | wr ob hw hc Kw hx Ql Fb Kc hl ht mA hm he Hv Ma Ht=>rw [Ma,Ht];exact ⟨λ_ h=>h,λ_ h=>h⟩
 | main hid hs Rr eZ hw hc Kw hx hg hl ht hm he Hv Ma Ht=>rw [Ma,Ht];exact ⟨λ_ h=>h,λ_ h=>Bn _ h⟩
theorem Cb2{i j:Nat}(h:i<=j)(hj:j<=rs.length):(∀ w∈(Δ i).ws,w∈(Δ j).ws)/\(∀ p∈(Δ i).ps,p∈(Δ j).ps):=by
 induction h with
 | refl=>exact ⟨λ_ h=>h,λ_ h=>h⟩
 | @step j h ih=>
  obtain ⟨h1,h2⟩:=ih (by have:j+1<=rs.length:=hj;omega)
  obtain ⟨h3,h4⟩:=Cl0 R (i:=j) hj
  exact ⟨λw hw=>h3 w (h1 w hw),λp hp=>h4 p (h2 p hp)⟩
theorem Cl1{q:Nat}(hq:q<rs.length)(hm:(ρ q).mn=true):(⟨q,Uc rs q,(Δ q).es.hp,(Δ (q+1)).es.hp⟩:Past)∈(Δ rs.length).ps:=by
 refine (Cb2 R (i:=q+1) (by omega) (Af _)).2 _ ?_
 cases semAt R (Aa hq) with
 | off hw hd hl ht jW he Hv Ma Ht=>rw [hm] at jW;cases jW
 | read hw Kw hx hl ht jW he Hv Ma Tv Ht=>rw [hm] at jW;cases jW
 | lay ob hw Kw hx hl ht jW he Hv Ma Tv Ht=>rw [hm] at jW;cases jW
 | wr ob hw hc Kw hx Ql Fb Kc hl ht mA jW he Hv Ma Ht=>rw [hm] at jW;cases jW
 | main hid hs Rr eZ hw hc Kw hx hg hl ht jW he Hv Ma Ht=>rw [Ht];exact Hz ..
theorem oE{i:Nat}{r:DR}(hr:rs[i]?=some r)(k:Nat){t:Nat}(ht:t∈r.tmps):((Eo ρ s0 rs.length).st rs s0 i k).sv t=(Δ i).es.ds.sv t:=by
 have hi:=(Ar.1 hr).1
 have I:=J0 R i (by omega)
 rw [I.sv]
 exact (XK (D:=Eo ρ s0 rs.length) (L:=Lt i) (k:=kI ρ i) (BV R) (XZ R (by omega)) hr (RX i) (kT R hi) t ht).symm
omit R in
theorem Bi9{r:DR}{t:Nat}(h : .tmp t∈r.op.opnds):t∈r.tmps:=by
 simp only [DR.tmps,Bo,Gp]
 exact .inl ⟨_,h,rfl⟩
theorem FG{i:Nat}{r:DR}(hr:rs[i]?=some r){id:Nat}(h:wD s0.nx rs.length (Uc rs i) (Δ i).es.ds id):((Eo ρ s0 rs.length).st rs s0 i (kI ρ i)).ho id=(Δ i).es.ds.ho id:=by
 have hi:=(Ar.1 hr).1
 have I:=J0 R i (by omega)
 rw [seen R hi I,Ae]
 rintro ⟨j,hj,e⟩
 have h1:=(Gh.1 hj)
 have h2:=(I.lo j).1 h1.1
 rcases h.2 with h3 | h3 | h3
 .omega
 .omega
 .have:id-s0.nx=j:=by omega
  rw [this] at h3
  have h4:=h1.2
  rw [h3] at h4;cases h4
theorem B60{i:Nat}{r:DR}(hr:rs[i]?=some r){id:Nat}(Tv:((nM rs).any λq=>!Ek rs q i && !Ek rs i q)=true->(⟨i,Uc rs i,id,(Δ i).lo.contains (id-s0.nx),r.op.rdC⟩:Look)∈(Δ (i+1)).ws)
  {q p:Nat} (hq:(Eo ρ s0 rs.length).main[q]?=some p) (h1:Ek rs p i=false) (h2:Ek rs i p=false) :
  HoEq r.op.rdC (((Eo ρ s0 rs.length).st rs s0 i (q+1)).ho id) (((Eo ρ s0 rs.length).st rs s0 i q).ho id):=by
 have hi:=(Ar.1 hr).1
 obtain ⟨g1,g2,g3⟩:=main_get.1 hq
 have jQ:((nM rs).any λq=>!Ek rs q i && !Ek rs i q)=true:=by
  rw [On]
  exact ⟨p,by simp [nM,g1,(XH R g1 g2).1],by simp [h1,h2]⟩
 have hl:=(Cb2 R (i:=i+1) (by omega) (Af _)).1 _ (Tv jQ)
 have hp:=Cl1 R g1 g2
 have Vl:=Ay.1 (Ay.1 R.look _ hl) _ hp
 simp only at Vl
 have e1:(Uc rs i).contains p=false:=h2
 have e2:(Uc rs p).contains i=false:=h1
 rw [e1,e2,Gz,Gz] at Vl
 have hkp:kI ρ (p+1)=q+1:=by
  have h5:=J6 (λi=>(ρ i).mn) p
  rw [Ah g2] at h5
  unfold kI at g3 ⊢
  omega
 split at Vl
 .rename_i Ni
  have Ni:id<s0.nx\/s0.nx+rs.length<=id:=by
   rw [Jw] at Ni
   rcases Ni with h | h
   .exact .inl (by simpa [Km] using h)
   .exact .inr (by simpa [Ri] using h)
  have hu:∀ k,(Eo ρ s0 rs.length).unp rs s0 k id=none:=λk=>by
   unfold RG.unp
   rw [Ae (λhc=>by omega)]
  have hf:∀ L k,(Eo ρ s0 rs.length).full rs s0 L k id=(Eo ρ s0 rs.length).H k id:=λL k=>by
   unfold RG.full;rw [hu]
  show HoEq _ ((Eo ρ s0 rs.length).full rs s0 _ _ id) ((Eo ρ s0 rs.length).full rs s0 _ _ id)
  rw [hf,hf]
  have hs:=look_eq Vl
  have i1:=congrFun (J0 R p (by omega)).ho id
  have i2:=congrFun (J0 R (p+1) (by omega)).ho id
  rw [hf] at i1 i2
  rw [g3] at i1
  rw [hkp] at i2
  rw [<- i1,<- i2]
  exact hs.symm
 .rename_i vE
  rw [Bq] at Vl
  have vC:s0.nx<=id/\id<s0.nx+rs.length:=by
   rw [Jw] at vE
   refine ⟨?_,?_⟩
   .rcases Cj id s0.nx with h | h
    .exact absurd (.inl (by simpa [Km] using h)) vE
    .exact h
   .rcases Cj id (s0.nx+rs.length) with h | h
    .exact h
    .exact absurd (.inr (by simpa [Ri] using h)) vE
  have Hv:id-s0.nx∈(Δ i).lo:=by simpa using Vl.1
  obtain ⟨l1,l2,l3⟩:=((J0 R i (by omega)).lo _).1 Hv
  have hpj:Ek rs p (id-s0.nx)=false:=by
   have:(!(Ek rs p (id-s0.nx)))=true:=Vl.2
   simpa using this
  have Q6:(Eo ρ s0 rs.length).pr rs q (id-s0.nx)=false:=by
   unfold RG.pr
   rw [List.any_eq_false]
   intro x hx
   obtain ⟨n,hn,rfl⟩:=Bx.1 hx
   rw [Ca] at hn
   have hm:(Eo ρ s0 rs.length).main[n]?=some ((Eo ρ s0 rs.length).main.take q)[n]:=by
    rw [Ew];exact Aa (by omega)
   have Uq:=(BV R).chain n q _ _ hm hq (by omega)
   intro h
   have:=B55 R.ok g1 Uq h
   rw [hpj] at this;cases this
  have UR:(Eo ρ s0 rs.length).unp rs s0 q id=some (id-s0.nx):=by
   unfold RG.unp
   rw [Ah ⟨vC.1,vC.2,l2,Q6⟩]
  have UQ:(Eo ρ s0 rs.length).unp rs s0 (q+1) id=some (id-s0.nx):=by
   unfold RG.unp
   rw [Ah ⟨vC.1,vC.2,l2,by rw [RZ hq,Q6,hpj];rfl⟩]
  refine HoEq.of ?_
  show (Eo ρ s0 rs.length).full rs s0 _ _ id=(Eo ρ s0 rs.length).full rs s0 _ _ id
  unfold RG.full
  rw [UR,UQ]
theorem Ay5{i:Nat}(hi:i<rs.length){k:Nat}(h:(Eo ρ s0 rs.length).may rs i k){q p:Nat}(hq:(Eo ρ s0 rs.length).main[q]?=some p)(hb:(kI ρ i<=q/\q<k)\/(k<=q/\q<kI ρ i)):Ek rs p i=false/\Ek rs i p=false:=by
 obtain ⟨g1,g2,g3⟩:=main_get.1 hq
 rcases hb with ⟨h1,h2⟩ | ⟨h1,h2⟩
 .refine ⟨h.2.1 q p h2 hq,?_⟩
  cases hx:Ek rs i p with
  | false=>rfl
  | true=>
   have h3:=eF R.ok hi hx
   have:kI ρ p<kI ρ i:=aS _ h3 g2
   omega
 .refine ⟨?_,h.2.2 q p h1 hq⟩
  cases hx:Ek rs p i with
  | false=>rfl
  | true=>
   have h3:=eF R.ok g1 hx
   have:kI ρ i<=kI ρ p:=Mp _ (by omega)
   omega
omit R in
theorem Bd7{c:Bool}{f:Nat->Option DObj}{a b:Nat}(Vu:a<=b)(h:∀ q,a<=q->q<b->HoEq c (f (q+1)) (f q)):HoEq c (f b) (f a):=by
 induction Vu with
 | refl=>exact HoEq.of rfl
 | @step m hm ih=>
  exact (h m hm (Nat.lt_succ_self m)).trans (ih λq h1 h2=>h q h1 (by omega))
theorem win{i:Nat}{r:DR}(hr:rs[i]?=some r){id:Nat}(Tv:((nM rs).any λq=>!Ek rs q i && !Ek rs i q)=true->(⟨i,Uc rs i,id,(Δ i).lo.contains (id-s0.nx),r.op.rdC⟩:Look)∈(Δ (i+1)).ws)
  {k:Nat} (h:(Eo ρ s0 rs.length).may rs i k):HoEq r.op.rdC (((Eo ρ s0 rs.length).st rs s0 i k).ho id) (((Eo ρ s0 rs.length).st rs s0 i (kI ρ i)).ho id):=by
 have hi:=(Ar.1 hr).1
 have jR:∀ q,(kI ρ i<=q/\q<k)\/(k<=q/\q<kI ρ i)->HoEq r.op.rdC (((Eo ρ s0 rs.length).st rs s0 i (q+1)).ho id) (((Eo ρ s0 rs.length).st rs s0 i q).ho id):=λq hb=>by
  have hql:q<(Eo ρ s0 rs.length).main.length:=by
   have h1:=h.1
   have h2:kI ρ i<=(Eo ρ s0 rs.length).main.length:=Mp _ (Nat.le_of_lt hi)
   omega
  have hq:=Aa hql
  obtain ⟨h1,h2⟩:=Ay5 R hi h hq hb
  exact B60 R hr Tv hq h1 h2
 rcases Nat.le_total (kI ρ i) k with hle | hle
 .exact Bd7 (f:=λq=>((Eo ρ s0 rs.length).st rs s0 i q).ho id) hle λq h1 h2=>jR q (.inl ⟨h1,h2⟩)
 .exact (Bd7 (f:=λq=>((Eo ρ s0 rs.length).st rs s0 i q).ho id) hle λq h1 h2=>jR q (.inr ⟨h1,h2⟩)).symm
theorem Bs9{i:Nat}{r:DR}(hr:rs[i]?=some r)(Kw:∀ id,eJ (Δ i).es.ds r.op id->wD s0.nx rs.length (Uc rs i) (Δ i).es.ds id){k:Nat}(hk:∀ id,eJ (Δ i).es.ds r.op id->HoEq r.op.rdC (((Eo ρ s0 rs.length).st rs s0 i k).ho id) (((Eo ρ s0 rs.length).st rs s0 i (kI ρ i)).ho id)) :
  Qy ((Eo ρ s0 rs.length).st rs s0 i k) r/\Agree r.op (Δ i).es.ds ((Eo ρ s0 rs.length).st rs s0 i k):=by
 have uS:∀ t,.tmp t∈r.op.opnds->((Eo ρ s0 rs.length).st rs s0 i k).sv t=(Δ i).es.ds.sv t:=λt ht=>oE R hr k (Bi9 ht)
 have qG:∀ id,eJ (Δ i).es.ds r.op id->HoEq r.op.rdC (((Eo ρ s0 rs.length).st rs s0 i k).ho id) ((Δ i).es.ds.ho id):=λid hid=>(hk id hid).trans (HoEq.of (FG R hr (Kw id hid)))
 refine ⟨λt ht=>?_,Bi8 uS qG⟩
 rw [uS t ht]
 unfold DS.live
 rw [Ay]
 intro id hid
 rw [(qG id ⟨t,ht,hid⟩).some]
 exact (Kw id ⟨t,ht,hid⟩).1
theorem Cu3(i:Nat)(r:DR)(hr:rs[i]?=some r):(Eo ρ s0 rs.length).ev rs s0 P i r:=by
 have hi:=(Ar.1 hr).1
 have I:=J0 R i (by omega)
 have KY:((Eo ρ s0 rs.length).st rs s0 i 0).wanted r.g=(Δ i).es.ds.wanted r.g:=by
  unfold DS.wanted
  cases hg:r.g with
  | none=>rfl
  | some p=>
   obtain ⟨t,b⟩:=p
   have:=oE R hr 0 (t:=t) (by simp [DR.tmps,hg])
   simp only [this]
 have AI:(ρ i).mn=false->i∉(Eo ρ s0 rs.length).main:=λh Ss=>by
  obtain ⟨k,hk⟩:=List.mem_iff_getElem?.1 Ss
  have:=(main_get.1 hk).2.1
  rw [h] at this;cases this
 unfold RG.ev
 rw [KY]
 have hs:=semAt R hr
 have uH:∀ {nid:Nat} {d:DV} {u:Upd},Bb nid (Δ i).es.ds r.op=some (d,u)->(∀ f args,r.op≠.call f args)/\∀ tb x args,r.op≠.cv tb x args:=λ{nid d u} h=>⟨λf args e=>(by rw [e] at h;cases h),λtb x args e=>(by rw [e] at h;cases h)⟩
 have aE:∀ {u0:Upd},(ρ i).mn=false->(Δ i).es.ds.wanted r.g=some true->Bb (s0.nx+i) (Δ i).es.ds r.op=some ((ρ i).d,u0)->(∀ id,eJ (Δ i).es.ds r.op id->wD s0.nx rs.length (Uc rs i) (Δ i).es.ds id)->
   (∀ k,(Eo ρ s0 rs.length).may rs i k->(∀ id,eJ (Δ i).es.ds r.op id->HoEq r.op.rdC (((Eo ρ s0 rs.length).st rs s0 i k).ho id) (((Eo ρ s0 rs.length).st rs s0 i (kI ρ i)).ho id))/\match u0 with
     | .keep=>(ρ i).lay=none/\(ρ i).tgt=none
     | .lay o=>(ρ i).lay=some o/\(ρ i).tgt=none
     | .wr id o=>∃ j,(Eo ρ s0 rs.length).unp rs s0 k id=some j/\Ek rs i j=true/\(ρ i).tgt=some j/\(ρ i).ob=o/\(ρ i).lay=none
     | _=>False)->(Eo ρ s0 rs.length).ev rs s0 P i r:=λ{u0} hm hw hx Kw hk=>by
  have B4:=uH hx
  unfold RG.ev
  rw [KY,hw]
  simp only
  have key:∀ k,(Eo ρ s0 rs.length).may rs i k->Qy ((Eo ρ s0 rs.length).st rs s0 i k) r/\∃ u,Bb (s0.nx+i) ((Eo ρ s0 rs.length).st rs s0 i k) r.op=some ((Eo ρ s0 rs.length).d i,u)/\match u with
     | .keep=>(Eo ρ s0 rs.length).lay i=none/\(Eo ρ s0 rs.length).tgt i=none
     | .lay o=>(Eo ρ s0 rs.length).lay i=some o/\(Eo ρ s0 rs.length).tgt i=none
     | .wr id o=>∃ j,(Eo ρ s0 rs.length).unp rs s0 k id=some j/\Ek rs i j=true/\(Eo ρ s0 rs.length).tgt i=some j/\(Eo ρ s0 rs.length).ob i=o/\(Eo ρ s0 rs.length).lay i=none
     | _=>False:=λk Vo=>by
   obtain ⟨h1,h2⟩:=hk k Vo
   obtain ⟨h3,h4⟩:=Bs9 R hr Kw h1
   refine ⟨h3,u0,by rw [YQ h4];exact hx,h2⟩
  split
  .rename_i f args ho;exact absurd ho (B4.1 f args)
  .rename_i tb x args ho;exact absurd ho (B4.2 tb x args)
  .exact .inr ⟨AI hm,key⟩
 cases hs with
 | off hw hd hl ht hm he Hv Ma Ht=>rw [hw];exact ⟨hd,hl,ht,AI hm⟩
 | read hw Kw hx hl ht hm he Hv Ma Tv Ht=>
  have:=aE hm hw hx Kw λk Vo=>⟨λid hid=>win R hr (λh=>Tv h id hid) Vo,hl,ht⟩
  unfold RG.ev at this
  rwa [KY] at this
 | lay ob hw Kw hx hl ht hm he Hv Ma Tv Ht=>
  have:=aE hm hw hx Kw λk Vo=>⟨λid hid=>win R hr (λh=>Tv h id hid) Vo,hl,ht⟩
  unfold RG.ev at this
  rwa [KY] at this
 | wr ob hw hc Kw hx Ql Fb vO hl ht mA hm he Hv Ma Ht=>
  obtain ⟨g1,g2,g3⟩:=(I.lo _).1 Fb
  have g1':Kz rs r<i:=g1
  have LC:∀ k,(Eo ρ s0 rs.length).may rs i k->(Eo ρ s0 rs.length).unp rs s0 k (s0.nx+Kz rs r)=some (Kz rs r):=λk Vo=>by
   have Q6:(Eo ρ s0 rs.length).pr rs k (Kz rs r)=false:=by
    unfold RG.pr
    rw [List.any_eq_false]
    intro x hx
    obtain ⟨n,hn,rfl⟩:=Bx.1 hx
    rw [Ca] at hn
    have ov:(Eo ρ s0 rs.length).main[n]?=some ((Eo ρ s0 rs.length).main.take k)[n]:=by
     rw [Ew];exact Aa (by omega)
    obtain ⟨f1,f2,f3⟩:=main_get.1 ov
    intro h
    rcases Cj n (kI ρ i) with R2 | Xu
    .have:(Eo ρ s0 rs.length).pr rs (kI ρ i) (Kz rs r)=true:=by
      unfold RG.pr
      rw [On]
      refine ⟨_,List.mem_iff_getElem?.2 ⟨n,?_⟩,h⟩
      rw [Cx,Ah R2];exact ov
     have W4:(Eo ρ s0 rs.length).pr rs (kI ρ i) (Kz rs r)=false:=g3
     rw [W4] at this;cases this
    .obtain ⟨u1,u2⟩:=Ay5 R hi Vo ov (.inl ⟨Xu,by omega⟩)
     rcases (zx R ht).2.2 _ f1 h with h' | h' | h'
     .rw [u1] at h';cases h'
     .rw [u2] at h';cases h'
     .rw [<- h'] at f2;rw [hm] at f2;cases f2
   unfold RG.unp
   have e':s0.nx+Kz rs r-s0.nx=Kz rs r:=by omega
   rw [e',Ah ⟨by omega,by omega,g2,Q6⟩]
  have MU:(Eo ρ s0 rs.length).may rs i (kI ρ i):=ZI (D:=Eo ρ s0 rs.length) (L:=Lt i) (BV R) (XZ R (by omega)) (RX i) (kT R hi)
  have Xg:∀ k,(Eo ρ s0 rs.length).may rs i k->((Eo ρ s0 rs.length).st rs s0 i k).ho (s0.nx+Kz rs r)=(Eo ρ s0 rs.length).cur rs (Ek rs i) (Kz rs r):=λk Vo=>by
   show (Eo ρ s0 rs.length).full rs s0 _ _ _=_
   unfold RG.full
   rw [LC k Vo]
   have ha:Ek rs i (Kz rs r)=true:=vO
   simp only
   rw [Ah ha]
  have:=aE hm hw hx Kw λk Vo=>⟨λid hid=>by
   have e:id=s0.nx+Kz rs r:=Ql id hid
   exact HoEq.of (by rw [e,Xg k Vo,Xg _ MU]),⟨_,LC k Vo,vO,ht,mA,hl⟩⟩
  unfold RG.ev at this
  rwa [KY] at this
 | main hid hs Rr eZ hw hc Kw hx hg hl ht hm he Hv Ma Ht=>
  rw [hw]
  simp only
  have B6:(Eo ρ s0 rs.length).main[kI ρ i]?=some i:=main_get.2 ⟨hi,hm,rfl⟩
  have qQ:((List.range rs.length).filter λi=>(ρ i).mn)[kI ρ i]?=some i:=B6
  have hH:(Eo ρ s0 rs.length).H (kI ρ i+1)=(ρ i).H:=by
   show JB ρ s0.ho ((List.range rs.length).filter λi=>(ρ i).mn) (kI ρ i+1)=_
   simp only [JB,qQ]
  have hN:(Eo ρ s0 rs.length).N (kI ρ i+1)=(ρ i).N:=by
   show uM ρ (s0.nx+rs.length) ((List.range rs.length).filter λi=>(ρ i).mn) (kI ρ i+1)=_
   simp only [uM,qQ]
  have Vm:=(Uh R i (by omega)).1
  obtain ⟨Xs,_⟩:=Bs9 R hr Kw (k:=kI ρ i) λ_ _=>HoEq.of rfl
  have pI:hs.ho=((Eo ρ s0 rs.length).st rs s0 i (kI ρ i)).ho:=by
   funext id
   rw [seen R hi I,eZ,Rr]
  have uT:hs.nx=((Eo ρ s0 rs.length).st rs s0 i (kI ρ i)).nx:=by
   rw [eZ]
   exact Vm.symm
  have nj:∀ t,.tmp t∈r.op.opnds->((Eo ρ s0 rs.length).st rs s0 i (kI ρ i)).sv t=hs.sv t:=λt mw=>by
   rw [eZ];exact oE R hr _ (Bi9 mw)
  have rF:Agree r.op hs ((Eo ρ s0 rs.length).st rs s0 i (kI ρ i)):=Bi8 nj λid _=>HoEq.of (by rw [pI])
  have Ro:(⟨((Eo ρ s0 rs.length).st rs s0 i (kI ρ i)).sv,hs.ho,hs.nx⟩:DS)=(Eo ρ s0 rs.length).st rs s0 i (kI ρ i):=by rw [pI,uT]
  have Fh:∀ (args:List Operand),(∀ x∈args,x∈r.op.opnds)->args.map ((Eo ρ s0 rs.length).st rs s0 i (kI ρ i)).rv=args.map hs.rv:=λargs Lc=>Eu λx hx=>rF.rv x (Lc x hx)
  unfold RT at hx
  split
  .rename_i f args ho
   rw [ho] at hx
   simp only at hx
   refine ⟨kI ρ i,B6,Xs,?_⟩
   rw [Fh args (λx hx=>by rw [ho];exact hx),hH,hN,<- Ro]
   exact hx _
  .rename_i tb x args ho
   rw [ho] at hx
   simp only at hx
   obtain ⟨f,fr,cs,h1,h2⟩:=hx
   refine ⟨kI ρ i,f,fr,cs,B6,Xs,?_,?_⟩
   .rw [rF.ev x (by rw [ho];simp [DOp.opnds])];exact h1
   .rw [Fh args (λy hy=>by rw [ho];simp [DOp.opnds,hy]),hH,hN,<- Ro]
    exact h2 _
  .rename_i bC aZ
   have P3:∃ u,hs.hasU u=true/\Bb hs.nx hs r.op=some ((ρ i).d,u)/\(ρ i).H=u.app hs.nx hs.ho/\(ρ i).N=if u.new then hs.nx+1 else hs.nx:=by
    revert hx
    split
    .rename_i f args ho;exact absurd ho (bC f args)
    .rename_i tb x args ho;exact absurd ho (aZ tb x args)
    .exact id
   obtain ⟨u,h1,h2,h3,h4⟩:=P3
   refine .inl ⟨kI ρ i,u,B6,Xs,?_,?_,?_,?_⟩
   .cases u with
    | wr id o=>simp only [DS.hasU] at h1 ⊢;rw [<- pI];exact h1
    | mv Iy o=>
     cases Iy with
     | none=>rfl
     | some id=>simp only [DS.hasU] at h1 ⊢;rw [<- pI];exact h1
    | _=>rfl
   .have e:hs.nx=(Eo ρ s0 rs.length).N (kI ρ i):=uT
    rw [YQ rF,<- e]
    exact h2
   .have e:hs.nx=(Eo ρ s0 rs.length).N (kI ρ i):=uT
    rw [hH,h3,pI,e]
   .have e:hs.nx=(Eo ρ s0 rs.length).N (kI ρ i):=uT
    rw [hN,h4,e]
theorem Cu4:(Eo ρ s0 rs.length).OK rs s0 P:={ BV R with ev:=Cu3 R }
theorem uB:(Eo ρ s0 rs.length).at_ rs s0 (λ_=>true) (Eo ρ s0 rs.length).main.length=(Δ rs.length).es.ds:=by
 have I:=J0 R rs.length (Af _)
 have hN:=(Uh R rs.length (Af _)).1
 have uS:(Eo ρ s0 rs.length).sv rs s0 (λ_=>true)=(Eo ρ s0 rs.length).sv rs s0 (Lt rs.length):=by
  funext t
  unfold RG.sv
  cases hp:rs.findIdx? (λr=>r.dst==some t) with
  | none=>rfl
  | some p=>
   have:p<rs.length:=(Hp.1 hp).1
   simp [Lt,this]
 have qG:(Eo ρ s0 rs.length).full rs s0 (λ_=>true) (kI ρ rs.length)=(Eo ρ s0 rs.length).full rs s0 (Lt rs.length) (kI ρ rs.length):=by
  funext id
  unfold RG.full
  cases hu:(Eo ρ s0 rs.length).unp rs s0 (kI ρ rs.length) id with
  | none=>rfl
  | some j=>
   have hj:=(bG hu).2.1
   have hc:(Eo ρ s0 rs.length).cur rs (λ_=>true) j=(Eo ρ s0 rs.length).cur rs (Lt rs.length) j:=by
    unfold RG.cur
    rw [SX (L:=Lt rs.length) (L':=λ_=>true) λw hw _=>by simp [Lt,hw]]
   simp [Lt,hj,hc]
 show (⟨_,_,_⟩:DS)=_
 rw [B58,uS,qG,hN,<- I.sv,<- I.ho]
 rfl
end
theorem Cl2{C:Ctx}{call:Bf}(hc:Vy C.P call)(hm:C.P.follows .mixedOrders=true){rs:List DR}{es es':ES}(Vl:(mW rs).ok=true)(h:Dg rs.length (Pb rs (mW rs).l 0) call es=some es')(Fv:es.ds.Fr) :
  Gw es.ds es'.ds/\∀ (info:RI) (Q:Exit->DS->Prop),Q .normal es'.ds->DW C (.reg true rs info) Q es.ds:=by
 obtain ⟨Δ,ρ,R,rfl⟩:=Cu1 hc Vl h Fv
 refine ⟨?_,λinfo Q hQ=>DW.regd (Eo ρ es.ds rs.length) hm (Cu4 R) (by rw [uB R];exact hQ)⟩
 have key:∀ i,i<=rs.length->∀ id,es.ds.ho id=none->(Δ i).es.ds.ho id≠none->es.ds.nx<=id/\id<(Δ i).es.nx:=by
  intro i
  induction i with
  | zero=>intro _ id h1 h2;rw [R.z] at h2;exact absurd h1 h2
  | succ i ih=>
   intro hi id h1 h2
   have hn:=(Uh R i (by omega)).2.1
   obtain ⟨g1,g2⟩:=(semAt R (Aa (show i<rs.length by omega))).gw (by omega) hn
   cases h3:(Δ i).es.ds.ho id with
   | none=>exact g2 id h3 h2
   | some o=>
    have:=ih (by omega) id h1 (by rw [h3];simp)
    omega
 have hn:=(Uh R rs.length (Af _)).2.1
 exact ⟨by show es.ds.nx<=(Δ rs.length).es.nx;omega,key _ (Af _)⟩
end Go.DD

/- The contract of a function, out of its body. -/
namespace Go.DD
open Go.RowKit (Below)
def vS(s:DS)(rs:List (Nat×Option (Option Nat))):Option DV:=
 match aB s rs with
 | some d=>rz s.ho 6 d
 | none=>none
theorem DCall.intro{P:Program}{f:FuncId}{fn:Func}{df:DF}{args:List DV}{R:DV->Prop}(hf:P.funcs[f]?=some fn)(hc:DH P fn=some df)(hn:args.length<=df.nt)
  (h:∀ (S:Nat->Prop) (w0:World),DW ⟨P,S,λ_=>False,w0,df.nt,λ_ _=>False,λ_=>False,none,λ_=>none,λ_=>False⟩ df.code (λe s=>(e=.normal\/e=.ret)/\∃ r,vS s df.res=some r/\R r) ⟨Ym args,λ_=>none,0⟩):DCall P f args R:=by
 intro w S vs hS hl Ct NP
 unfold DH at hc
 split at hc
 rotate_left
 .cases hc
 rename_i body hb
 split at hc
 rotate_left
 .cases hc
 rename_i c r Sw mI
 cases hc
 refine callsIn_wide.1 (callsIn_of_wp_marks (n:=0) hf hb trivial ?_)
 have hhh:HH ⟨P,S,λ_=>False,w,fn.ntmps,λ_ _=>False,λ_=>False,none,λ_=>none,λ_=>False⟩ (Us ⟨P,S,λ_=>False,w,fn.ntmps,λ_ _=>False,λ_=>False,none,λ_=>none,λ_=>False⟩ 0) (Ll (λ_=>none) (λ_=>none)) (λ_=>none) w:=
  ⟨hS,⟨rfl,rfl,rfl,Af _,λ_ _ _=>rfl⟩,λ_ _ h=>(by cases h),λ_ _ _ h=>(by cases h),λ_ _=>rfl,λ_ _ h=>(by cases h)⟩
 have T1:=A90 (C:=⟨P,S,λ_=>False,w,fn.ntmps,λ_ _=>False,λ_=>False,none,λ_=>none,λ_=>False⟩) (ho:=λ_=>none) (nx:=0) (args:=args) (vs:=vs) hhh
  (λx d h=>h.elim False.elim λh=>WV.flat (.imm _ _ ((NP x d h).mono λb hb=>⟨⟨.inl hb,hS b hb,λ_ h=>(by cases h)⟩,rfl⟩)) (Aw8 (NP x d h))) (λ_ _ h=>(by cases h)) (λ_ h=>h.elim) hn hl
  (λj v d hv hd=>WV.flat (.imm _ _ ((Ct j v d hv hd).mono λb hb=>⟨⟨.inl hb,hS b hb,λ_ h=>(by cases h)⟩,rfl⟩)) (Aw8 (Ct j v d hv hd)))
 refine wpIn_mono (h S w body Sw _ w ⟨λ_ h=>h.elim,_,T1⟩) ?_
 have Tw:∀ (s:DS) (a:Act) (w':World),Holds ⟨P,S,λ_=>False,w,fn.ntmps,λ_ _=>False,λ_=>False,none,λ_=>none,λ_=>False⟩ s a w'->(∃ d,vS s r=some d/\R d)->LeavesInM Fence.wide 0 P fn a.tmps (λe w'=>∃ v' d,e=.returned v'/\R d/\Below w.heap.size w w'/\RelI w' (λb=>(S b\/w.heap.size<=b)/\b<w'.heap.size) v' d) a.defers .returning w':=by
  rintro s ⟨tmps,l⟩ w' ⟨_,β,hs⟩ ⟨d,hd,hR⟩
  unfold vS at hd
  split at hd
  .rename_i d0 hd0
   refine ZL mI hd0 tmps (λv ZQ hs hr=>?_) l w' hs
   have Oh:=hs.hh.bel
   exact ⟨v,d,rfl,hR,⟨Oh.os,Oh.tape,Oh.output,Oh.size,λk hk=>Oh.block k hk (λh=>h)⟩,(xN hs.hh (λid o ho=>mV ho) 6 v d0 d hr hd).mono λb hb=>⟨⟨hb.1.imp id (λh=>h.resolve_right (λh=>h)),hb.2⟩,rfl⟩⟩
  .cases hd
 rintro e a w' ⟨s,⟨h1,h2⟩,hs⟩
 rcases h1 with rfl | rfl
 .exact Tw s a w' hs h2
 .exact Tw s a w' hs h2
theorem DCall.of_callI{P:Program}{f:FuncId}{args:List DV}{R:DV->Prop}{sv:Nat->DV}(h:Sz P f args ⟨sv,λ_=>none,0⟩ λs d=>∃ r,rz s.ho 6 d=some r/\R r):DCall P f args R:=by
 obtain ⟨fn,df,hf,hc,hn,hw⟩:=h
 refine DCall.intro hf hc hn λS w0=>(hw S (λ_=>False) w0 (λ_ _=>False) (λ_=>False) (λ_=>none) (λ_=>False)).mono ?_
 rintro e s ⟨h1,d,h2,r,h3,h4⟩
 refine ⟨h1,r,?_,h4⟩
 unfold vS
 rw [h2]
 exact h3
end Go.DD

/- The evaluator's code and calls. -/
namespace Go.DD
theorem Au2{P:Program}{call:Bf}(hc:Vy P call){n0 m:Nat} : ∀ (rs:List DR) (os:List OI) (i:Nat) (δ δ':DSt),i+rs.length<=m->Pb rs os i call n0 m δ=some δ'->δ.es.ds.Fr->n0+m<=δ.es.nx->
  δ.es.nx<=δ'.es.nx/\∀ id,δ.es.ds.ho id=none->δ'.es.ds.ho id≠none->n0<=id/\id<δ'.es.nx
 | [],os,i,δ,δ',hm,h,Fv,hn=>by
  have h3:some δ=some δ':=by cases os <;> exact h
  cases h3
  exact ⟨Af _,λid h1 h2=>absurd h1 h2⟩
 | r::rs,[],i,δ,δ',hm,h,Fv,hn=>by
  have h3:some δ=some δ':=h
  cases h3
  exact ⟨Af _,λid h1 h2=>absurd h1 h2⟩
 | r::rs,o::os,i,δ,δ',hm,h,Fv,hn=>by
  have h':dq (dQ i r o) (Pb rs os (i+1)) call n0 m δ=some δ':=h
  obtain ⟨δ1,h1,h2⟩:=Jp h'
  obtain ⟨ρ0,hs⟩:=Ba3 hc Fv h1
  have vF:i<m:=by simp at hm;omega
  obtain ⟨g1,g2⟩:=hs.gw vF hn
  obtain ⟨g3,g4⟩:=Au2 hc rs os (i+1) δ1 δ' (by simp at hm;omega) h2 (hs.fr vF hn Fv) (by omega)
  refine ⟨by omega,λid k1 k2=>?_⟩
  cases k3:δ1.es.ds.ho id with
  | none=>exact g4 id k3 k2
  | some x=>
   have:=g2 id k1 (by rw [k3];simp)
   omega
theorem Cl3{P:Program}{call:Bf}(hc:Vy P call){rs:List DR}{os:List OI}{es es':ES}(h:Dg rs.length (Pb rs os 0) call es=some es')(Fv:es.ds.Fr):Gw es.ds es'.ds:=by
 unfold Dg at h
 obtain ⟨δ',h1,h2⟩:=Jp h
 obtain ⟨h3,h4⟩:=eO h2
 cases h4
 rw [dR,aW] at h1
 obtain ⟨g1,g2⟩:=Au2 hc rs os 0 _ _ (by omega) h1 (λid hid=>Fv id (by
  have:es.nx+rs.length<=id:=hid
  show es.nx<=id;omega)) (Af _)
 exact ⟨by (have:es.nx+rs.length<=δ'.es.nx:=g1);show es.nx<=δ'.es.nx;omega,λid k1 k2=>g2 id k1 k2⟩
theorem evv{s:DS}{x:Operand}{v:Value}(h:s.rv x=.v v):s.ev x=.v v:=by
 cases x with
 | tmp t=>
  have h':s.sv t=.v v:=h
  simp only [DS.ev]
  rw [h',Ah]
  rfl
 | _=>exact h
theorem ZE{a b:CE}{call:Bf}{es es':ES}{e:Exit}(h:cS a b call es=some (e,es')):(∃ es1,a call es=some (.normal,es1)/\b call es1=some (e,es'))\/(a call es=some (e,es')/\e≠.normal):=by
 obtain ⟨⟨e1,es1⟩,h1,h2⟩:=Jp h
 cases e1 with
 | normal=>exact .inl ⟨es1,h1,h2⟩
 | _=>
  cases h2
  exact .inr ⟨h1,by simp⟩
theorem ZD{s:Od}{call:Bf}{es es':ES}{e:Exit}(h:cN s call es=some (e,es')):s call es=some es'/\e=.normal:=by
 obtain ⟨es1,h1,h2⟩:=Jp h
 cases h2
 exact ⟨h1,rfl⟩
theorem Cl4{x:Operand}{a b:CE}{call:Bf}{es es':ES}{e:Exit}(h:cC (.of x) a b call es=some (e,es')):∃ t,es.ds.ev x=.v (.bool t)/\(if t=true then a call es else b call es)=some (e,es'):=by
 unfold cC at h
 rw [Ud] at h
 obtain ⟨v,hv,h⟩:=wG h
 cases v with
 | bool t=>
  refine ⟨t,evv hv,?_⟩
  cases t <;> exact h
 | _=>cases h
theorem Cl5{id:Nat}{c:CE}{call:Bf}{es es':ES}{e:Exit}(h:cB id c call es=some (e,es')):∃ e1,c call es=some (e1,es')/\∀ (Q:Exit->DS->Prop),Q e es'.ds->rZ id Q e1 es'.ds:=by
 obtain ⟨⟨e1,es1⟩,h1,h2⟩:=Jp h
 cases e1 with
 | exit i=>
  have h3:Fo (Nat.beq i id) (some (Exit.normal,es1)) (some (Exit.exit i,es1))=some (e,es'):=h2
  rw [Ry] at h3
  split at h3
  .rename_i hb
   cases h3
   exact ⟨_,h1,λQ hQ=>by simp only [rZ];rw [Ah (Ey hb)];exact hQ⟩
  .rename_i hb
   cases h3
   refine ⟨_,h1,λQ hQ=>?_⟩
   simp only [rZ]
   rw [Ae (λe=>hb (by rw [e];exact Nat.beq_refl id))];exact hQ
 | _=>
  cases h2
  exact ⟨_,h1,λQ hQ=>hQ⟩
def X7(P:Program)(nt:Nat)(rd:Bool)(c:DC)(es:ES)(e:Exit)(es':ES):Prop:=
 Gw es.ds es'.ds/\∀ (C:Ctx) (Q:Exit->DS->Prop),C.P=P->C.nt=nt->(rd=false->C.rd=none)->Q e es'.ds->DW C c Q es.ds
theorem Cl6{P:Program}{call:Bf}{n nt:Nat}{rd:Bool}{c:DC}(ih:∀ es e es',En n nt rd c call es=some (e,es')->es.ds.Fr->X7 P nt rd c es e es'):∀ (m:Nat) (es:ES) (e:Exit) (es':ES),cL m (En n nt rd c) call es=some (e,es')->es.ds.Fr->X7 P nt rd (.loop c) es e es':=by
 have gw:∀ (m:Nat) (es:ES) (e:Exit) (es':ES),cL m (En n nt rd c) call es=some (e,es')->es.ds.Fr->Gw es.ds es'.ds:=by
  intro m
  induction m with
  | zero=>intro es e es' h _;cases h
  | succ m im=>
   intro es e es' h Fv
   have h':cS (En n nt rd c) (cL m (En n nt rd c)) call es=some (e,es'):=h
   rcases ZE h' with ⟨es1,h1,h2⟩ | ⟨h1,_⟩
   .have g1:=(ih _ _ _ h1 Fv).1
    exact g1.trans (im es1 e es' h2 (Gw.fr Fv g1))
   .exact (ih _ _ _ h1 Fv).1
 intro m es e es' h Fv
 refine ⟨gw m es e es' h Fv,λC Q hP Ps Qr hQ=>?_⟩
 refine DW.loop (I:=λk s=>∃ es1,s=es1.ds/\es1.ds.Fr/\cL k (En n nt rd c) call es1=some (e,es')) m ⟨es,rfl,Fv,h⟩ ?_
 rintro k s ⟨es1,rfl,qP,h1⟩
 cases k with
 | zero=>cases h1
 | succ k=>
  have h':cS (En n nt rd c) (cL k (En n nt rd c)) call es1=some (e,es'):=h1
  rcases ZE h' with ⟨By,h2,h3⟩ | ⟨h2,Hu⟩
  .obtain ⟨g1,g2⟩:=ih _ _ _ h2 qP
   exact g2 C _ hP Ps Qr ⟨k,Nat.lt_succ_self k,By,rfl,Gw.fr qP g1,h3⟩
  .obtain ⟨g1,g2⟩:=ih _ _ _ h2 qP
   refine g2 C _ hP Ps Qr ?_
   cases e <;> first | exact hQ | exact absurd rfl Hu
theorem A58{P:Program}{call:Bf}(hc:Vy P call)(hm:P.follows .mixedOrders=true){n nt:Nat}{rd:Bool} : ∀ (c:DC) (es:ES) (e:Exit) (es':ES),En n nt rd c call es=some (e,es')->es.ds.Fr->X7 P nt rd c es e es':=by
 intro c
 induction c with
 | skip=>
  intro es e es' h Fv
  have h':some (Exit.normal,es)=some (e,es'):=h
  cases h'
  exact ⟨Gw.refl _,λC Q _ _ _ hQ=>DW.skip hQ⟩
 | ret=>
  intro es e es' h Fv
  have h':some (Exit.ret,es)=some (e,es'):=h
  cases h'
  exact ⟨Gw.refl _,λC Q _ _ _ hQ=>DW.ret hQ⟩
 | exit id=>
  intro es e es' h Fv
  have h':some (Exit.exit id,es)=some (e,es'):=h
  cases h'
  exact ⟨Gw.refl _,λC Q _ _ _ hQ=>DW.exit hQ⟩
 | seq a b KI UN=>
  intro es e es' h Fv
  have h':cS (En n nt rd a) (En n nt rd b) call es=some (e,es'):=h
  rcases ZE h' with ⟨es1,h1,h2⟩ | ⟨h1,Hu⟩
  .obtain ⟨g1,k1⟩:=KI _ _ _ h1 Fv
   obtain ⟨g2,k2⟩:=UN _ _ _ h2 (Gw.fr Fv g1)
   exact ⟨g1.trans g2,λC Q hP Ps Qr hQ=>DW.seq (k1 C _ hP Ps Qr (k2 C Q hP Ps Qr hQ))⟩
  .obtain ⟨g1,k1⟩:=KI _ _ _ h1 Fv
   refine ⟨g1,λC Q hP Ps Qr hQ=>DW.seq (k1 C _ hP Ps Qr ?_)⟩
   cases e <;> first | exact hQ | exact absurd rfl Hu
 | cond x a b KI UN=>
  intro es e es' h Fv
  have h':cC (.of x) (En n nt rd a) (En n nt rd b) call es=some (e,es'):=h
  obtain ⟨t,ht,h2⟩:=Cl4 h'
  cases t with
  | true=>
   rw [Ah rfl] at h2
   obtain ⟨g1,k1⟩:=KI _ _ _ h2 Fv
   exact ⟨g1,λC Q hP Ps Qr hQ=>DW.cond ht (λ_=>k1 C Q hP Ps Qr hQ) (λh=>by cases h)⟩
  | false=>
   rw [Ae (by simp)] at h2
   obtain ⟨g1,k1⟩:=UN _ _ _ h2 Fv
   exact ⟨g1,λC Q hP Ps Qr hQ=>DW.cond ht (λh=>by cases h) (λ_=>k1 C Q hP Ps Qr hQ)⟩
 | blk id c ih=>
  intro es e es' h Fv
  have h':cB id (En n nt rd c) call es=some (e,es'):=h
  obtain ⟨e1,h1,h2⟩:=Cl5 h'
  obtain ⟨g1,k1⟩:=ih _ _ _ h1 Fv
  exact ⟨g1,λC Q hP Ps Qr hQ=>DW.blk (k1 C _ hP Ps Qr (h2 Q hQ))⟩
 | loop c ih=>
  intro es e es' h Fv
  exact Cl6 ih n es e es' h Fv
 | reg draw ops info=>
  intro es e es' h Fv
  cases draw with
  | false=>
   have h':cN (oI ops) call es=some (e,es'):=h
   obtain ⟨h1,rfl⟩:=ZD h'
   obtain ⟨g1,k1⟩:=Bs3 hc ops es es' h1 Fv
   exact ⟨g1,λC Q hP Ps Qr hQ=>DW.reg (by rw [hP];exact k1 _ hQ)⟩
  | true=>
   cases Vl:info.ok with
   | false=>
    have h':(match info.ok with
     | true=>cN (Dg ops.length (Pb ops info.l 0))
     | false=>λ_ _=>none:CE) call es=some (e,es'):=h
    rw [Vl] at h'
    cases h'
   | true=>
    have h':(match info.ok with
     | true=>cN (Dg ops.length (Pb ops info.l 0))
     | false=>λ_ _=>none:CE) call es=some (e,es'):=h
    rw [Vl] at h'
    have WD:cN (Dg ops.length (Pb ops info.l 0)) call es=some (e,es'):=h'
    obtain ⟨h1,rfl⟩:=ZD WD
    refine ⟨Cl3 hc h1 Fv,λC Q hP Ps Qr hQ=>?_⟩
    intro code D1
    obtain ⟨id,os,OB,hl,hi⟩:=Aw4 D1
    have Wa:=hi rfl
    subst Wa
    subst hP
    exact (Cl2 hc hm Vl h1 Fv).2 _ Q hQ code D1
 | rng g ps a b KI UN=>
  intro es e es' h Fv
  have h':cR nt rd (.of g) ps a b call es=some (e,es'):=h
  unfold cR at h'
  split at h'
  .cases h'
  rename_i nu
  rw [sF] at h'
  split at h'
  rotate_left
  .cases h'
  rename_i f cs qQ
  split at h'
  rotate_left
  .cases h'
  rename_i d hp nx Ny
  obtain ⟨n1,n2,Yi,hcI⟩:=hc _ _ _ _ _ _ _ Ny (λid hid=>by
   rw [Tr.set_ho]
   simp only [Gr]
   rw [Ae (by omega)]
   exact Fv id (by show es.nx<=id;omega))
  rw [Tr.set_ho] at n2 hcI
  have gw:∀ By:ES,By.hp=hp.set es.nx none->By.nx=nx->Gw es.ds By.ds:=λBy e1 e2=>by
   refine ⟨by show es.nx<=By.nx;omega,λid k1 k2=>?_⟩
   have O8:By.hp.get id≠none:=k2
   rw [e1,Tr.set_ho] at O8
   simp only [Gr] at O8
   split at O8
   .exact absurd rfl O8
   .rename_i Hu
    have:=n2 id (by simp only [Gr];rw [Ae Hu];exact k1) O8
    show es.nx<=id/\id<By.nx
    omega
  have dw:∀ (C:Ctx) (Q:Exit->DS->Prop),C.P=P->C.nt=nt->(rd=false->C.rd=none)->(∃ lp,hp.get es.nx=some (.loop lp)/\lp.st≠.busy/\match lp.pend with
   | none=>Q .normal ⟨es.ds.sv,Gr hp.get es.nx none,nx⟩
   | some .ret=>Q .ret ⟨es.ds.sv,Gr hp.get es.nx none,nx⟩
   | some (.exit i)=>Q (.exit i) ⟨es.ds.sv,Gr hp.get es.nx none,nx⟩
   | _=>False)->DW C (.rng g ps a b) Q es.ds:=λC Q hP Ps Qr hQ=>by
   subst hP Ps
   exact DW.rng (sl:=.t es.sl) rfl (Qr (by simpa using nu)) qQ Yi (callC.i (ds:=.yl es.nx::cs) ⟨.yl es.nx,Hz,by simp [DV.refs]⟩ (hcI es.ds.sv _ hQ))
  split at h'
  rotate_left
  .cases h'
  rename_i lp Ze
  have Ro:lp.st≠.busy:=λhb=>by
   rw [hb] at h'
   cases h'
  have Tu:(match lp.pend with
     | none=>some (Exit.normal,⟨es.sl,hp.set es.nx none,nx⟩)
     | some .ret=>some (Exit.ret,⟨es.sl,hp.set es.nx none,nx⟩)
     | some (.exit i)=>some (Exit.exit i,⟨es.sl,hp.set es.nx none,nx⟩)
     | _=>none)=some (e,es'):=by
   revert h'
   split
   .rename_i hb;exact absurd hb Ro
   .exact id
  have Tw:∀ By:ES,By=⟨es.sl,hp.set es.nx none,nx⟩->By.ds=⟨es.ds.sv,Gr hp.get es.nx none,nx⟩:=λBy he=>by
   subst he
   rw [Uu,Tr.set_ho];rfl
  cases MC:lp.pend with
  | none=>
   rw [MC] at Tu
   cases Tu
   refine ⟨gw _ rfl rfl,λC Q hP Ps Qr hQ=>dw C Q hP Ps Qr ⟨lp,Ze,Ro,?_⟩⟩
   rw [MC]
   rw [Tw _ rfl] at hQ
   exact hQ
  | some p=>
   rw [MC] at Tu
   cases p with
   | ret=>
    cases Tu
    refine ⟨gw _ rfl rfl,λC Q hP Ps Qr hQ=>dw C Q hP Ps Qr ⟨lp,Ze,Ro,?_⟩⟩
    rw [MC]
    rw [Tw _ rfl] at hQ
    exact hQ
   | exit i=>
    cases Tu
    refine ⟨gw _ rfl rfl,λC Q hP Ps Qr hQ=>dw C Q hP Ps Qr ⟨lp,Ze,Ro,?_⟩⟩
    rw [MC]
    rw [Tw _ rfl] at hQ
    exact hQ
   | _=>cases Tu
 | dfq t g cap=>
  intro es e es' h Fv
  cases rd with
  | true=>cases h
  | false=>
   have h':cN (Sg (some (Cn t)) (.mkf (.func g) [] cap)) call es=some (e,es'):=h
   obtain ⟨h1,rfl⟩:=ZD h'
   have hex:Exd es.ds (.mkf (.func g) [] cap) (some t) es'.ds:=A53 (dst:=some t) (λ_ _ e=>by cases e) (λ_ _ _ e=>by cases e) (λ_ _ e=>by cases e) h1
   refine ⟨hex.gw Fv,λC Q hP Ps Qr hQ=>DW.dfq (Qr rfl) ?_⟩
   obtain ⟨d,u,h2,h3⟩:=hex
   have h4:some (DV.fn (.func g) (.tup []::cap.map es.ds.ev),Upd.keep)=some (d,u):=h2
   cases h4
   rw [h3] at hQ
   exact hQ
 | bad=>
  intro es e es' h Fv
  cases h
end Go.DD

/- Functions that range over maps: all orders are run; what they leave alike is kept. -/
namespace Go.DD
def uC(n nt:Nat)(c:DC):CE:=En n nt false c
theorem Cl7{P:Program}{call:Bf}(hc:Vy P call)(hm:P.follows .mixedOrders=true){n nt:Nat}{c:DC}{es es':ES}{e:Exit}(h:uC n nt c call es=some (e,es'))(Fv:es.ds.Fr) :
  Gw es.ds es'.ds/\∀ (C:Ctx) (Q:Exit->DS->Prop),C.P=P->C.nt=nt->C.rd=none->(∀ e',e'=e\/e'=.normal\/e'=.ret->Q e' es'.ds)->DW C c Q es.ds:=by
 obtain ⟨g,k⟩:=A58 hc hm c es e es' h Fv
 exact ⟨g,λC Q hP Ps Qr hQ=>k C Q hP Ps (λ_=>Qr) (hQ e (.inl rfl))⟩
end Go.DD

/- The evaluator's calls; what a closed run shows. -/
namespace Go.DD
theorem Bj0(ds:List DV)(t:Nat):((Vw ds).get t).getD .any=Ym ds t:=by
 have key:∀ (ds:List DV) (i:Nat) (tr:Tr DV),(List.rec (motive:=λ_=>Nat->Tr DV->Tr DV) (λ_ t=>t) (λd _ ih i t=>ih (i+1) (sP (Cn i) (some d) t)) ds i tr:Tr DV).get t=if i<=t/\t<i+ds.length then ds[t-i]? else tr.get t:=by
  intro ds
  induction ds with
  | nil=>
   intro i tr
   rw [Ae (by simp only [Md];omega)]
  | cons d ds ih=>
   intro i tr
   show (List.rec (motive:=λ_=>Nat->Tr DV->Tr DV) (λ_ t=>t) (λd _ ih i t=>ih (i+1) (sP (Cn i) (some d) t)) ds (i+1) (sP (Cn i) (some d) tr):Tr DV).get t=_
   rw [ih,Br9]
   by_cases h1:i+1<=t/\t<i+1+ds.length
   .rw [Ah h1,Ah (by simp;omega)]
    rw [show t-i=(t-(i+1))+1 by omega]
    simp
   .rw [Ae h1]
    by_cases h2:i=t
    .subst h2
     rw [Ah rfl,Ah (by simp)]
     simp
    .rw [Ae h2,Ae (by simp;omega)]
 have:=key ds 0 .e
 unfold Vw Ym
 rw [this]
 by_cases h:t<ds.length
 .rw [Ah (by omega)];simp
 .rw [Ae (by omega),Ie (by omega)]
  cases t <;> rfl
theorem Bj1:∀ (ps:List Nat) (ds:List DV) (sl:Tr DV),(λu=>((Lo ps ds sl).get u).getD .any)=Zx ps ds λu=>(sl.get u).getD .any
 | [],ds,sl=>by cases ds <;> rfl
 | p::ps,[],sl=>rfl
 | p::ps,d::ds,sl=>by
  have e:Lo (p::ps) (d::ds) sl=Lo ps ds (sP (Cn p) (some d) sl):=rfl
  rw [e,Bj1 ps ds]
  simp only [Zx]
  congr 1
  funext u
  rw [Br9]
  by_cases h:p=u
  .simp [h]
  .simp [h]
theorem Cu5{k:Option Nat}{t:Nat}{es:ES}{d:DV}(h:K0 k (.t (Cn t)) es=some d):Xy es.ds (t,some k)=some d:=by
 unfold K0 at h
 rcases SO h with ⟨_,_,h⟩ | ⟨id,off,ha,h⟩
 .cases h
 .obtain ⟨T,cs,hr,h⟩:=Ay3 h
  have vP:es.ds.rv (.tmp t)=.pt id off:=by rw [<- Ud];exact ha
  have ho:es.ds.ho id=some (.row T cs):=hr
  simp only [Xy,dJ vP (by rw [ho];rfl),ho]
  rw [<- fP,<- Y8]
  exact h
theorem Cl8{es:ES}{q:Nat×Option (Option Nat)}{d:DV}(h:Np es q=some d):Xy es.ds q=some d:=by
 obtain ⟨t,k⟩:=q
 cases k with
 | none=>
  have h':some (Mz es (.t (Cn t)))=some d:=h
  have e:Mz es (.t (Cn t))=es.ds.ev (.tmp t):=sF es (.tmp t)
  rw [e] at h'
  exact h'
 | some k=>exact Cu5 h
theorem Bt0{es:ES} : ∀ {qs:List (Nat×Option (Option Nat))} {ds:List DV},qs.mapM (Np es)=some ds->qs.mapM (Xy es.ds)=some ds
 | [],ds,h=>by simpa using h
 | q::qs,ds,h=>by
  simp only [Ez,Ee,Bg,Fc] at h ⊢
  obtain ⟨d,hd,dt,qy,h⟩:=h
  exact ⟨d,Cl8 hd,dt,Bt0 qy,h⟩
theorem Cl9{es:ES}{qs:List (Nat×Option (Option Nat))}{d:DV}{hp:Tr DObj}{nx:Nat}(h:Mb qs es=some (d,hp,nx)):aB es.ds qs=some d/\hp=es.hp/\nx=es.nx:=by
 unfold Mb at h
 cases hm:qs.mapM (Np es) with
 | none=>rw [hm] at h;cases h
 | some ds=>
  rw [hm] at h
  have h2:=Bt0 hm
  unfold aB
  rw [h2]
  match ds,h with
  | [],h=>cases h;exact ⟨rfl,rfl,rfl⟩
  | [x],h=>cases h;exact ⟨rfl,rfl,rfl⟩
  | x::y::l,h=>cases h;exact ⟨rfl,rfl,rfl⟩
def ug(P:Program)(n:Nat)(fn:Func):Option FE:=match DH P fn with
 | some df=>some ⟨uC n df.nt df.code,df.res,df.nt⟩
 | none=>none
def TbAt(P:Program)(n f:Nat)(fe:FE):Prop:=eM P f=true/\∃ fn df,P.funcs[f]?=some fn/\DH P fn=some df/\fe.run=uC n df.nt df.code/\fe.res=df.res/\fe.nt=df.nt
def Yn(P:Program)(n:Nat)(tb:Nat->Option FE):Prop:=∀ f fe,tb f=some fe->TbAt P n f fe
theorem TbAt.of{P:Program}{n f:Nat}{fe:FE}{fn:Func}(h1:P.funcs[f]?=some fn)(h2:eM P f=true)(h3:ug P n fn=some fe):TbAt P n f fe:=by
 unfold ug at h3
 split at h3
 .rename_i df hd
  cases h3
  exact ⟨h2,fn,df,h1,hd,rfl,rfl,rfl⟩
 .cases h3
def ZX(P:Program)(n f:Nat):Option FE:=Fo (eM P f) (Option.rec (motive:=λ_=>Option FE) none (λfn=>ug P n fn) (P.funcs[f]?)) none
theorem zw(P:Program)(n:Nat):Yn P n (ZX P n):=by
 intro f fe h
 obtain ⟨h1,h2⟩:=eO h
 obtain ⟨fn,h3,h4⟩:=Jp h2
 exact TbAt.of h3 h1 h4
theorem Cb3(es:ES)(id:Nat)(o:Option DObj):(ES.mk es.sl (es.hp.set id o) es.nx).ds=es.ds.lay id o:=by
 rw [Uu,Tr.set_ho];rfl
theorem Cb4{es:ES}{id:Nat}{o:DObj}{x:DObj}(h:es.hp.get id=some x):Gw es.ds (ES.mk es.sl (es.hp.set id (some o)) es.nx).ds:=by
 rw [Cb3]
 refine ⟨Af _,λj h1 h2=>?_⟩
 simp only [DS.lay,Gr] at h2
 split at h2
 .rename_i e
  have V7:es.hp.get j=none:=h1
  rw [e,h] at V7;cases V7
 .exact absurd h1 h2
theorem XY{P:Program}(hm:P.follows .mixedOrders=true){tb:Nat->Option FE}{n' n:Nat}(aY:Yn P n' tb){call:Bf}(ih:Vy P call):Vy P (Ue tb n call):=by
  intro tg ds hp nx d Ap Ba h Fv
  cases tg with
  | fn f=>
   have h0:(match tb f with
    | some fe=>if ds.length<=fe.nt then match fe.run call ⟨Vw ds,hp,nx⟩ with
      | some (.normal,es)=>Mb fe.res es
      | some (.ret,es)=>Mb fe.res es
      | _=>none
     else none
    | none=>none)=some (d,Ap,Ba):=h
   split at h0
   rotate_left
   .cases h0
   rename_i fe qu
   obtain ⟨Yi,fn,df,hf,hcf,e1,e2,e3⟩:=aY f fe qu
   split at h0
   rotate_left
   .cases h0
   rename_i hlen
   rw [e1] at h0
   have Hl:∃ e es,uC n' df.nt df.code call ⟨Vw ds,hp,nx⟩=some (e,es)/\(e=.normal\/e=.ret)/\Mb fe.res es=some (d,Ap,Ba):=by
    revert h0
    split
    .rename_i es he;exact λh0=>⟨_,es,he,.inl rfl,h0⟩
    .rename_i es he;exact λh0=>⟨_,es,he,.inr rfl,h0⟩
    .intro h0;cases h0
   obtain ⟨e,es,Tx,qx,Tw⟩:=Hl
   obtain ⟨lQ,rfl,rfl⟩:=Cl9 Tw
   obtain ⟨g1,g2⟩:=Cl7 ih hm Tx Fv
   refine ⟨g1.le,g1.new,Yi,λsv K hK=>.inl ⟨fn,df,hf,hcf,by rw [<- e3];exact hlen,λS G w0 X M Y R=>?_⟩⟩
   have Ro:(ES.mk (Vw ds) hp nx).ds=⟨Ym ds,hp.get,nx⟩:=by
    rw [Uu]
    congr 1
    funext t
    exact Bj0 ds t
   have:=g2 ⟨P,S,G,w0,df.nt,X,M,none,Y,R⟩ (λe s'=>(e=.normal\/e=.ret)/\∃ d,aB s' df.res=some d/\K ⟨sv,s'.ho,s'.nx⟩ d) rfl rfl rfl (λe' Ty=>⟨by rcases Ty with rfl | h | h;exact qx;exact .inl h;exact .inr h,d,by rw [<- e2];exact lQ,hK⟩)
   rw [Ro] at this
   exact this
  | yl id=>
   have h0:(match hp.get id with
   | some (.loop lp)=>match lp.st,lp.sl with
    | .ready,.t sl=>if ds.length=lp.ps.length/\lp.ps.all (λt=>Nat.blt t lp.nt)=true then
      match En n lp.nt true lp.asg call ⟨Lo lp.ps ds sl,hp,nx⟩ with
      | some (.normal,es1)=>match es1.hp.get id with
       | some (.loop So)=>match So.st with
        | .ready=>match En n lp.nt true lp.body call { es1 with hp:=es1.hp.set id (some (.loop { So with st:=.busy })) } with
         | some (e,By)=>match By.hp.get id with
          | some (.loop Og)=>match e with
           | .normal=>some (.v (.bool true),By.hp.set id (some (.loop { Og with st:=.ready,pend:=none })),By.nx)
           | .ret=>some (.v (.bool false),By.hp.set id (some (.loop { Og with st:=.done,pend:=some .ret })),By.nx)
           | .exit i=>some (.v (.bool false),By.hp.set id (some (.loop { Og with st:=.done,pend:=some (.exit i) })),By.nx)
           | _=>none
          | _=>none
         | none=>none
        | _=>none
       | _=>none
      | _=>none
     else none
    | _,_=>none
   | _=>none)=some (d,Ap,Ba):=h
   split at h0
   rotate_left
   .cases h0
   rename_i lp Ze
   split at h0
   rotate_left
   .cases h0
   rename_i sl Ro nE
   split at h0
   rotate_left
   .cases h0
   rename_i hlen
   obtain ⟨hlen,Ht⟩:=hlen
   split at h0
   rotate_left
   .cases h0
   rename_i es1 qw
   split at h0
   rotate_left
   .cases h0
   rename_i So MX
   split at h0
   rotate_left
   .cases h0
   rename_i P7
   split at h0
   rotate_left
   .cases h0
   rename_i e By qv
   split at h0
   rotate_left
   .cases h0
   rename_i Og uX
   obtain ⟨g1,k1⟩:=A58 ih hm lp.asg _ _ _ qw Fv
   have qq:(ES.mk (Lo lp.ps ds sl) hp nx).ds.Fr:=Fv
   have qP:es1.ds.Fr:=Gw.fr qq g1
   have gs1:=Cb4 (o:=.loop { So with st:=.busy }) MX
   obtain ⟨g2,k2⟩:=A58 ih hm lp.body _ _ _ qv (Gw.fr qP gs1)
   have hz:(ES.mk (Lo lp.ps ds sl) hp nx).ds=⟨Zx lp.ps ds lp.sl.get,hp.get,nx⟩:=by
    rw [Uu,nE]
    congr 1
    exact Bj1 lp.ps ds sl
   have Qe:∀ t∈lp.ps,t<lp.nt:=λt ht=>by
    have:=Ay.1 Ht t ht
    simpa [Km] using this
   have PE:∀ o,Gw (ES.mk (Lo lp.ps ds sl) hp nx).ds (ES.mk By.sl (By.hp.set id (some o)) By.nx).ds:=λo=>((g1.trans gs1).trans g2).trans (Cb4 uX)
   have fin:∀ (o:DObj) (b:Bool),(d=.v (.bool b)/\Ap=By.hp.set id (some o)/\Ba=By.nx)->
     (∀ (sv:Nat->DV) (K:DS->DV->Prop),K ⟨sv,Ap.get,Ba⟩ d->(λ(e:Exit) (s2:DS)=>∃ Og,s2.ho id=some (.loop Og)/\match e with
      | .normal=>K ⟨sv,Gr s2.ho id (some (.loop { Og with st:=.ready,pend:=none })),s2.nx⟩ (.v (.bool true))
      | .ret=>K ⟨sv,Gr s2.ho id (some (.loop { Og with st:=.done,pend:=some .ret })),s2.nx⟩ (.v (.bool false))
      | .exit i=>K ⟨sv,Gr s2.ho id (some (.loop { Og with st:=.done,pend:=some (.exit i) })),s2.nx⟩ (.v (.bool false))
      | _=>False) e By.ds)->
     nx<=Ba/\(∀ id,hp.get id=none->Ap.get id≠none->nx<=id/\id<Ba)/\∀ (sv:Nat->DV) (K:DS->DV->Prop),K ⟨sv,Ap.get,Ba⟩ d->TE P id ds ⟨sv,hp.get,nx⟩ K:=λo b ⟨q1,q2,q3⟩ Tw=>by
    have gw:=PE o
    subst q2 q3
    refine ⟨gw.le,gw.new,λsv K hK=>⟨lp,Ze,Ro,hlen,Qe,λS G w0 X M Y R l=>?_⟩⟩
    rw [<- hz]
    refine k1 _ _ rfl rfl (λh=>by cases h) ⟨rfl,So,MX,P7,?_⟩
    rw [<- Cb3]
    exact k2 _ _ rfl rfl (λh=>by cases h) (Tw sv K hK)
   split at h0
   .cases h0
    refine fin _ true ⟨rfl,rfl,rfl⟩ λsv K hK=>⟨Og,uX,?_⟩
    rw [Tr.set_ho] at hK
    exact hK
   .cases h0
    refine fin _ false ⟨rfl,rfl,rfl⟩ λsv K hK=>⟨Og,uX,?_⟩
    rw [Tr.set_ho] at hK
    exact hK
   .cases h0
    refine fin _ false ⟨rfl,rfl,rfl⟩ λsv K hK=>⟨Og,uX,?_⟩
    rw [Tr.set_ho] at hK
    exact hK
   .cases h0
theorem Bj2{P:Program}(hm:P.follows .mixedOrders=true){tb:Nat->Option FE}{n' n:Nat}(aY:Yn P n' tb):∀ k,Vy P (kK tb n k)
 | 0=>λtg ds hp nx d Ap Ba h=>by cases h
 | k+1=>XY hm aY (Bj2 hm aY k)
abbrev mT:Type:=Tr (List (List DV×DV))
def O2(l:List (List DV×DV))(ds:List DV):Option DV:=List.rec (motive:=λ_=>Option DV) none (λe _ ih=>Bool.rec (motive:=λ_=>Option DV) ih (some e.2) (Ji (Nb 8) e.1 ds)) l
def yS(mm:mT)(call:Bf):Bf:=λtg ds hp nx=>match tg with
 | .fn f=>Option.rec (motive:=λ_=>Option (DV×Tr DObj×Nat)) (call (.fn f) ds hp nx) (λl=>Option.rec (motive:=λ_=>Option (DV×Tr DObj×Nat)) (call (.fn f) ds hp nx) (λd=>some (d,hp,nx)) (O2 l ds)) (gN mm f)
 | .yl id=>call (.yl id) ds hp nx
def rR(tb:Nat->Option FE)(mm:mT)(n:Nat):Nat->Bf
 | 0=>λ_ _ _ _=>none
 | k+1=>Ue tb n (yS mm (rR tb mm n k))
def Known(P:Program)(f:Nat)(ds:List DV)(d:DV):Prop:=eM P f=true/\(∀ x∈ds,x.refs=[])/\DCall P f ds λd'=>d'=d
def MemoOK(P:Program)(mm:mT):Prop:=∀ f l,mm.get f=some l->∀ e∈l,Known P f e.1 e.2
theorem Bj3{ds:List DV}{d:DV} : ∀ {l:List (List DV×DV)},O2 l ds=some d->(ds,d)∈l
 | [],h=>by cases h
 | e::l,h=>by
  have h':Bool.rec (motive:=λ_=>Option DV) (O2 l ds) (some e.2) (Ji (Nb 8) e.1 ds)=some d:=h
  cases hs:Ji (Nb 8) e.1 ds with
  | true=>
   rw [hs] at h'
   cases h'
   have:=CB (CH 8) hs
   obtain ⟨a,b⟩:=e
   simp only at this
   subst this
   simp
  | false=>
   rw [hs] at h'
   exact Bn _ (Bj3 h')
theorem B61{P:Program}{mm:mT}(AM:MemoOK P mm){call:Bf}(hc:Vy P call):Vy P (yS mm call):=by
 intro tg ds hp nx d Ap Ba h Fv
 cases tg with
 | yl id=>exact hc (.yl id) ds hp nx d Ap Ba h Fv
 | fn f=>
  have h0:Option.rec (motive:=λ_=>Option (DV×Tr DObj×Nat)) (call (.fn f) ds hp nx) (λl=>Option.rec (motive:=λ_=>Option (DV×Tr DObj×Nat)) (call (.fn f) ds hp nx) (λd=>some (d,hp,nx)) (O2 l ds)) (gN mm f)=some (d,Ap,Ba):=h
  cases hg:gN mm f with
  | none=>rw [hg] at h0;exact hc (.fn f) ds hp nx d Ap Ba h0 Fv
  | some l=>
   rw [hg] at h0
   cases hl:O2 l ds with
   | none=>
    have h1:Option.rec (motive:=λ_=>Option (DV×Tr DObj×Nat)) (call (.fn f) ds hp nx) (λd=>some (d,hp,nx)) (O2 l ds)=some (d,Ap,Ba):=h0
    rw [hl] at h1
    exact hc (.fn f) ds hp nx d Ap Ba h1 Fv
   | some d0=>
    have h1:Option.rec (motive:=λ_=>Option (DV×Tr DObj×Nat)) (call (.fn f) ds hp nx) (λd=>some (d,hp,nx)) (O2 l ds)=some (d,Ap,Ba):=h0
    rw [hl] at h1
    cases h1
    rw [Ju] at hg
    obtain ⟨k1,k2,k3⟩:=AM f l hg _ (Bj3 hl)
    exact ⟨Af _,λid h2 h3=>absurd h2 h3,k1,λsv K hK=>.inr ⟨_,k2,k3,hK⟩⟩
theorem Bj4{P:Program}(hm:P.follows .mixedOrders=true){tb:Nat->Option FE}{n' n:Nat}(aY:Yn P n' tb){mm:mT}(AM:MemoOK P mm):∀ k,Vy P (rR tb mm n k)
 | 0=>λtg ds hp nx d Ap Ba h=>by cases h
 | k+1=>XY hm aY (B61 AM (Bj4 hm aY AM k))
theorem MemoOK.nil(P:Program):MemoOK P .e:=λf l h=>by cases f <;> cases h
theorem Bd8:∀ (n:Nat) (d r:DV),rz (λ_=>none) n d=some r->r=d
 | 0,d,r,h=>by
  simp only [rz] at h
  split at h
  .cases h;rfl
  .cases h
 | n+1,d,r,h=>by
  have hl:∀ cs l,sO (rz (λ_=>none) n) cs=some l->l=cs:=λcs l hz=>by
   obtain ⟨h1,h2⟩:=YG hz
   apply List.ext_getElem?
   intro j
   by_cases hj:j<cs.length
   .have e1:=Aa hj
    have e2:=Aa (l:=l) (i:=j) (by omega)
    rcases h2 j _ _ e1 e2 with ⟨_,h3⟩ | h3
    .rw [e1,e2,h3]
    .rw [e1,e2,Bd8 n _ _ h3]
   .rw [Ie (by omega),Ie (by omega)]
  cases d with
  | agg cs=>obtain ⟨l,hz,rfl⟩:=Ag.1 h;rw [hl cs l hz]
  | tup cs=>obtain ⟨l,hz,rfl⟩:=Ag.1 h;rw [hl cs l hz]
  | fn f cs=>obtain ⟨l,hz,rfl⟩:=Ag.1 h;rw [hl cs l hz]
  | ifc T d=>obtain ⟨e,hz,rfl⟩:=Ag.1 h;rw [Bd8 n _ _ hz]
  | ms id off k es=>simp [rz] at h
  | pt id off=>simp [rz] at h
  | mp id=>simp [rz] at h
  | yl id=>simp [rz] at h
  | any=>simp [rz] at h;exact h.symm
  | v x=>simp [rz] at h;exact h.symm
  | sl cs k=>simp [rz] at h;exact h.symm
  | ia cs=>simp [rz] at h;exact h.symm
theorem DCall.of_callC{P:Program}{f:FuncId}{args:List DV}{R:DV->Prop}{sv:Nat->DV}(h:callC P f args ⟨sv,λ_=>none,0⟩ λs d=>∃ r,rz s.ho 6 d=some r/\R r):DCall P f args R:=by
 rcases h with h | ⟨d,h1,h2,r,h3,h4⟩
 .exact DCall.of_callI h
 .have hd:r=d:=Bd8 6 _ _ h3
  subst hd
  exact h2.mono λd hd=>by rw [hd];exact h4
def PN(ds:List DV):Bool:=ds.all λd=>(Ug d).isEmpty
def FZ(x:Option (DV×Tr DObj×Nat))(d:DV):Bool:=match x with
 | some (d',hp,_)=>match rz hp.get 6 d' with
  | some r=>Nb 12 r d
  | none=>false
 | none=>false
theorem Ba7{P:Program}(hm:P.follows .mixedOrders=true){tb:Nat->Option FE}{n' n k f:Nat}(aY:Yn P n' tb){mm:mT}(AM:MemoOK P mm){ds:List DV}{d:DV}(hf:PN ds=true)(h:FZ (rR tb mm n k (.fn f) ds .e 0) d=true):Known P f ds d:=by
 unfold FZ at h
 split at h
 rotate_left
 .cases h
 rename_i d' hp nx hr
 split at h
 rotate_left
 .cases h
 rename_i r LQ
 have hd:=CH _ _ _ h
 subst hd
 obtain ⟨_,_,Yi,hI⟩:=Bj4 hm aY AM k _ _ _ _ _ _ _ hr (λid _=>by cases id <;> rfl)
 refine ⟨Yi,λx hx=>?_,DCall.of_callC (sv:=λ_=>.any) ?_⟩
 .have:=Ay.1 hf x hx
  rw [Y9] at this
  simpa using this
 .have:=hI (λ_=>.any) (λs d=>∃ r',rz s.ho 6 d=some r'/\r'=r) ⟨r,LQ,rfl⟩
  have e:(Tr.e:Tr DObj).get=λ_=>none:=by funext id;cases id <;> rfl
  rw [e] at this
  exact this
theorem Bj5{P:Program}(hm:P.follows .mixedOrders=true){tb:Nat->Option FE}{n' n k f:Nat}(aY:Yn P n' tb)(h:N0 (kK tb n k (.fn f) [] .e 0)=true):eM P f=true/\DCall P f [] λd=>d=.v (.bool true):=by
 unfold N0 at h
 split at h
 rotate_left
 .cases h
 rename_i b hp nx hr
 subst h
 obtain ⟨_,_,Yi,hI⟩:=Bj2 hm aY k _ _ _ _ _ _ _ hr (λid _=>by cases id <;> rfl)
 refine ⟨Yi,DCall.of_callC (sv:=λ_=>.any) ?_⟩
 have:=hI (λ_=>.any) (λs d=>∃ r,rz s.ho 6 d=some r/\r=.v (.bool true)) ⟨.v (.bool true),rfl,rfl⟩
 have e:(Tr.e:Tr DObj).get=λ_=>none:=by funext id;cases id <;> rfl
 rw [e] at this
 exact this
end Go.DD
