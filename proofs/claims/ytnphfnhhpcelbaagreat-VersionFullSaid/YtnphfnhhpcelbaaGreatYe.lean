/- A part. -/
import Derived.Test.YtnphfnhhpcelbaaGreatYd
namespace Go.DD
theorem Bt7{α:Type} : ∀ (f k:Nat) (t:Tr α),k<=f->gP (Va f k) t=t.get k
 | 0,k,t,h=>by
  obtain rfl:k=0:=by omega
  cases t <;> rfl
 | f+1,0,t,_=>by cases t <;> rfl
 | f+1,k+1,t,h=>by
  have ih:=λ(t:Tr α)=>Bt7 f (k / 2) t (by omega)
  simp only [Va]
  by_cases hk:k % 2=0
  .rw [Af hk]
   cases t with
   | e=>rfl
   | n l v r=>simp only [Tr.get,Af hk,<- ih];rfl
  .rw [Ad hk]
   cases t with
   | e=>rfl
   | n l v r=>simp only [Tr.get,Ad hk,<- ih];rfl
theorem Cw9{α:Type}(k:Nat)(t:Tr α):gP (Cm k) t=t.get k:=Bt7 k k t (Ai _)
theorem Bt8{α:Type} : ∀ (f k j:Nat) (v:Option α) (t:Tr α),k<=f->(sP (Va f k) v t).get j=if k=j then v else t.get j
 | 0,k,j,v,t,h=>by
  obtain rfl:k=0:=by omega
  cases t <;> cases j <;> simp [sP,Va,Tr.get]
 | f+1,0,j,v,t,_=>by cases t <;> cases j <;> simp [sP,Va,Tr.get]
 | f+1,k+1,j,v,t,h=>by
  have ih:=λ(t:Tr α) j=>Bt8 f (k / 2) j v t (by omega)
  simp only [Va]
  by_cases hk:k % 2=0
  .rw [Af hk]
   cases t with
   | e=>
    show (Tr.n (sP (Va f (k / 2)) v .e) none .e).get j=_
    cases j with
    | zero=>simp [Tr.get]
    | succ j=>
     simp only [Tr.get]
     by_cases hj:j % 2=0
     .rw [Af hj,ih]
      by_cases he:k=j
      .subst he;simp
      .rw [Ad (by omega),Ad (by omega)];rfl
     .rw [Ad hj,Ad (by omega)]
   | n l x r=>
    show (Tr.n (sP (Va f (k / 2)) v l) x r).get j=_
    cases j with
    | zero=>simp [Tr.get]
    | succ j=>
     simp only [Tr.get]
     by_cases hj:j % 2=0
     .rw [Af hj,Af hj,ih]
      by_cases he:k=j
      .subst he;simp
      .rw [Ad (by omega),Ad (by omega)]
     .rw [Ad hj,Ad hj,Ad (by omega)]
  .rw [Ad hk]
   cases t with
   | e=>
    show (Tr.n .e none (sP (Va f (k / 2)) v .e)).get j=_
    cases j with
    | zero=>simp [Tr.get]
    | succ j=>
     simp only [Tr.get]
     by_cases hj:j % 2=0
     .rw [Af hj,Ad (by omega)]
     .rw [Ad hj,ih]
      by_cases he:k=j
      .subst he;simp
      .rw [Ad (by omega),Ad (by omega)];rfl
   | n l x r=>
    show (Tr.n l x (sP (Va f (k / 2)) v r)).get j=_
    cases j with
    | zero=>simp [Tr.get]
    | succ j=>
     simp only [Tr.get]
     by_cases hj:j % 2=0
     .rw [Af hj,Af hj,Ad (by omega)]
     .rw [Ad hj,Ad hj,ih]
      by_cases he:k=j
      .subst he;simp
      .rw [Ad (by omega),Ad (by omega)]
theorem sk{α:Type}(k j:Nat)(v:Option α)(t:Tr α):(sP (Cm k) v t).get j=if k=j then v else t.get j:=Bt8 k k j v t (Ai _)
theorem uf(j:Nat):Nat.beq (Nat.mod j 2) 0=decide (j % 2=0):=by
 show Nat.beq (j % 2) 0=_
 cases h:Nat.beq (j % 2) 0 with
 | true=>have:=Fg h;simp [this]
 | false=>have:=Nat.ne_of_beq_eq_false h;simp [this]
theorem La{α:Type} : ∀ (t:Tr α) (k:Nat),gN t k=t.get k
 | .e,k=>rfl
 | .n l v r,0=>rfl
 | .n l v r,k+1=>by
  have e:gN (.n l v r) (k+1)=Bool.rec (gN r (Nat.div k 2)) (gN l (Nat.div k 2)) (Nat.beq (Nat.mod k 2) 0):=rfl
  rw [e,uf]
  simp only [Tr.get]
  have h1:gN r (Nat.div k 2)=r.get (k / 2):=La r _
  have h2:gN l (Nat.div k 2)=l.get (k / 2):=La l _
  by_cases hk:k % 2=0
  .simp only [hk,Ql,Ex];exact h2
  .simp only [hk,Hn,Ib];exact h1
theorem Cc9{α:Type} : ∀ (f k j:Nat) (v:Option α) (t:Tr α),k<=f->(sN f v t k).get j=if k=j then v else t.get j
 | 0,k,j,v,t,h=>by
  obtain rfl:k=0:=by omega
  cases t <;> cases j <;> simp [sN,Tr.get]
 | f+1,0,j,v,t,_=>by cases t <;> cases j <;> simp [sN,Tr.get]
 | f+1,k+1,j,v,t,h=>by
  have ih:=λ(t:Tr α) j=>Cc9 f (k / 2) j v t (by omega)
  have PK:∀ t j,(sN f v t (Nat.div k 2)).get j=if k / 2=j then v else t.get j:=ih
  by_cases hk:k % 2=0
  .have hb:Nat.beq (Nat.mod k 2) 0=true:=by rw [uf];simp [hk]
   cases t with
   | e=>
    have e:sN (f+1) v .e (k+1)=.n (sN f v .e (Nat.div k 2)) none .e:=by
     have e0:sN (f+1) v .e (k+1)=Bool.rec (motive:=λ_=>Tr α) (.n .e none (sN f v .e (Nat.div k 2))) (.n (sN f v .e (Nat.div k 2)) none .e) (Nat.beq (Nat.mod k 2) 0):=rfl
     rw [e0,hb]
    rw [e]
    cases j with
    | zero=>simp [Tr.get]
    | succ j=>
     simp only [Tr.get]
     by_cases hj:j % 2=0
     .rw [Af hj,PK]
      by_cases he:k=j
      .subst he;simp
      .rw [Ad (by omega),Ad (by omega)];rfl
     .rw [Ad hj,Ad (by omega)]
   | n l x r=>
    have e:sN (f+1) v (.n l x r) (k+1)=.n (sN f v l (Nat.div k 2)) x r:=by
     have e0:sN (f+1) v (.n l x r) (k+1)=Bool.rec (motive:=λ_=>Tr α) (.n l x (sN f v r (Nat.div k 2))) (.n (sN f v l (Nat.div k 2)) x r) (Nat.beq (Nat.mod k 2) 0):=rfl
     rw [e0,hb]
    rw [e]
    cases j with
    | zero=>simp [Tr.get]
    | succ j=>
     simp only [Tr.get]
     by_cases hj:j % 2=0
     .rw [Af hj,Af hj,PK]
      by_cases he:k=j
      .subst he;simp
      .rw [Ad (by omega),Ad (by omega)]
     .rw [Ad hj,Ad hj,Ad (by omega)]
  .have hb:Nat.beq (Nat.mod k 2) 0=false:=by rw [uf];simp [hk]
   cases t with
   | e=>
    have e:sN (f+1) v .e (k+1)=.n .e none (sN f v .e (Nat.div k 2)):=by
     have e0:sN (f+1) v .e (k+1)=Bool.rec (motive:=λ_=>Tr α) (.n .e none (sN f v .e (Nat.div k 2))) (.n (sN f v .e (Nat.div k 2)) none .e) (Nat.beq (Nat.mod k 2) 0):=rfl
     rw [e0,hb]
    rw [e]
    cases j with
    | zero=>simp [Tr.get]
    | succ j=>
     simp only [Tr.get]
     by_cases hj:j % 2=0
     .rw [Af hj,Ad (by omega)]
     .rw [Ad hj,PK]
      by_cases he:k=j
      .subst he;simp
      .rw [Ad (by omega),Ad (by omega)];rfl
   | n l x r=>
    have e:sN (f+1) v (.n l x r) (k+1)=.n l x (sN f v r (Nat.div k 2)):=by
     have e0:sN (f+1) v (.n l x r) (k+1)=Bool.rec (motive:=λ_=>Tr α) (.n l x (sN f v r (Nat.div k 2))) (.n (sN f v l (Nat.div k 2)) x r) (Nat.beq (Nat.mod k 2) 0):=rfl
     rw [e0,hb]
    rw [e]
    cases j with
    | zero=>simp [Tr.get]
    | succ j=>
     simp only [Tr.get]
     by_cases hj:j % 2=0
     .rw [Af hj,Af hj,Ad (by omega)]
     .rw [Ad hj,Ad hj,PK]
      by_cases he:k=j
      .subst he;simp
      .rw [Ad (by omega),Ad (by omega)]
theorem C8{α:Type}(t:Tr α)(k:Nat)(v:Option α):(Ki t k v).get=λj=>if j=k then v else t.get j:=by
 funext j
 unfold Ki
 rw [Cc9 k k j v t (Ai _)]
 by_cases h:k=j
 .rw [Af h,Af h.symm]
 .rw [Ad h,Ad (Ek h)]
theorem Q7{t:Tr DObj}{k:Nat}{v:Option DObj} : (Ki t k v).get=setH t.get k v:=C8 t k v
theorem Tr.set_ho{t:Tr DObj}{k:Nat}{v:Option DObj} : (t.set k v).get=setH t.get k v:=by
 funext j
 rw [Tr.get_set]
 unfold setH
 by_cases h:k=j
 .rw [Af h,Af h.symm]
 .rw [Ad h,Ad (Ek h)]
theorem X7(d:DV):Vv d=d.refs:=by cases d <;> simp [Vv,DV.refs]
theorem NH{α:Type}(l:List α)(f:α->Bool):Ug l f=l.all f:=by
 induction l with
 | nil=>rfl
 | cons a l ih=>
  have e:Ug (a::l) f=Bool.rec false (Ug l f) (f a):=rfl
  rw [e,ih,List.all_cons]
  cases f a <;> rfl
theorem qT{α:Type}(x:Option α):Sa x=x.isSome:=by cases x <;> rfl
theorem Ti{α:Type}(b:Bool)(x y:α):Fw b x y=if b=true then x else y:=by cases b <;> rfl
theorem B51(es:ES)(d:DV):Cd es.hp d=if es.ds.live d=true then d else .any:=by
 unfold Cd
 rw [Ti,NH,X7]
 simp only [qT,La]
 rfl
theorem Ui(es:ES)(x:Operand):Ae es (.of x)=es.ds.rv x:=by
 cases x with
 | tmp t=>
  show (Option.rec .any (λd=>d) (gP (Cm t) es.sl):DV)=(es.sl.get t).getD .any
  rw [Cw9]
  cases es.sl.get t <;> rfl
 | _=>rfl
theorem mQ(es:ES)(x:Operand):Oc es (.of x)=es.ds.ev x:=by
 cases x with
 | tmp t=>
  have h:=Ui es (.tmp t)
  show Cd es.hp (Ae es (.of (.tmp t)))=_
  rw [h,B51]
  rfl
 | _=>rfl
theorem SA(es:ES)(t:Nat):Ae es (.t (Cm t))=es.ds.sv t:=Ui es (.tmp t)
theorem dD{α:Type}(n:Nat)(k:Nat->α):bY n k=k n:=by cases n <;> rfl
theorem A89{α:Type}(n:Int)(k:Int->α):ss n k=k n:=by
 cases n with
 | ofNat m=>exact dD m λm=>k (.ofNat m)
 | negSucc m=>exact dD m λm=>k (.negSucc m)
theorem TA{β α:Type}(l:List β)(k:List β->α):B8 l k=k l:=by
 induction l generalizing k with
 | nil=>rfl
 | cons a l ih=>
  have e:B8 (a::l) k=B8 l (λt=>k (a::t)):=rfl
  rw [e,ih]
theorem jU{α:Type} : ∀ (n:Nat) (l:List α),Ls n l=l.drop n
 | 0,l=>rfl
 | n+1,[]=>rfl
 | n+1,a::l=>by
  have e:Ls (n+1) (a::l)=Ls n l:=rfl
  rw [e,jU n l];rfl
theorem SQ{α:Type} : ∀ (n:Nat) (l:List α),Xn n l=l.take n
 | 0,l=>rfl
 | n+1,[]=>rfl
 | n+1,a::l=>by
  have e:Xn (n+1) (a::l)=a::Xn n l:=rfl
  rw [e,SQ n l];rfl
theorem fU{α:Type}(a b:List α):Lx a b=a++b:=by
 induction a with
 | nil=>rfl
 | cons x a ih=>
  have e:Lx (x::a) b=x::Lx a b:=rfl
  rw [e,ih];rfl
theorem rX{α β:Type}(f:α->β)(l:List α):gE f l=l.map f:=by
 induction l with
 | nil=>rfl
 | cons x a ih=>
  have e:gE f (x::a)=f x::gE f a:=rfl
  rw [e,ih];rfl
theorem Y4(d:DV):Z8 d=d.cells:=by cases d <;> rfl
theorem OB(d:DV):PG d=d.okC:=by cases d <;> rfl
theorem X6(k:Option Nat)(cs:List DV):Tq k cs=Iu k cs:=by
 cases k with
 | none=>cases cs <;> rfl
 | some n=>
  have e:Tq (some n) cs=Fw (Nat.ble n cs.length) (some (.agg (Xn n cs))) none:=rfl
  rw [e,Ti,SQ]
  simp [Iu,Sn]
theorem uP{α:Type}{d:DV}{f:Value->Option α}{x:α}(h:cV d f none=some x):∃ v,d=.v v/\f v=some x:=by
 cases d with
 | v y=>exact ⟨y,rfl,h⟩
 | _=>cases h
theorem NT{α:Type}{v:Value}{fb:Bool->Option α}{fi:IntKind->Int->Option α}{fs:ByteArray->Option α}{x:α}(h:eY v fb fi fs none=some x) :
  (∃ b,v=.bool b/\fb b=some x)\/(∃ k n,v=.int k n/\fi k n=some x)\/∃ s,v=.string s/\fs s=some x:=by
 cases v with
 | bool b=>exact .inl ⟨b,rfl,h⟩
 | int k n=>exact .inr (.inl ⟨k,n,rfl,h⟩)
 | string s=>exact .inr (.inr ⟨s,rfl,h⟩)
 | _=>cases h
theorem UD(x:Option Value):Zc x=x.map .v:=by
 cases x with
 | none=>rfl
 | some v=>
  cases v with
  | bool b=>cases b <;> rfl
  | int k n=>exact A89 n λn=>some (DV.v (.int k n))
  | _=>rfl
theorem Cm2(k k':IntKind):Nat.beq k.ctorIdx k'.ctorIdx=true↔k=k':=by cases k <;> cases k' <;> decide
theorem Yl{s:DS}{x:Operand}{v:Value}(h:s.rv x=.v v):s.ev x=.v v:=by
 cases x with
 | tmp t=>
  have h':s.sv t=.v v:=h
  simp [DS.ev,h',DS.live,DV.refs]
 | _=>exact h
theorem pX{s:DS}{x:Operand}{cs:List DV}(h:s.rv x=.ia cs):s.ev x=.ia cs:=by
 cases x with
 | tmp t=>
  have h':s.sv t=.ia cs:=h
  simp [DS.ev,h',DS.live,DV.refs]
 | _=>exact h
theorem zT{s:DS}{x:Operand}{cs:List DV}{n:Nat}(h:s.rv x=.sl cs n):s.ev x=.sl cs n:=by
 cases x with
 | tmp t=>
  have h':s.sv t=.sl cs n:=h
  simp [DS.ev,h',DS.live,DV.refs]
 | _=>exact h
theorem eS{s:DS}{x:Operand}{id off:Nat}(h:s.rv x=.pt id off)(ha:(s.ho id).isSome=true):s.ev x=.pt id off:=by
 cases x with
 | tmp t=>
  have h':s.sv t=.pt id off:=h
  simp [DS.ev,h',DS.live,DV.refs,ha]
 | _=>exact h
theorem zU{s:DS}{x:Operand}{id off n es:Nat}(h:s.rv x=.ms id off n es)(ha:(s.ho id).isSome=true):s.ev x=.ms id off n es:=by
 cases x with
 | tmp t=>
  have h':s.sv t=.ms id off n es:=h
  simp [DS.ev,h',DS.live,DV.refs,ha]
 | _=>exact h
theorem NS{α:Type}{d:DV}{fi:List DV->Option α}{fp:Nat->Nat->Option α}{x:α}(h:lJ d fi fp none=some x):(∃ cs,d=.ia cs/\fi cs=some x)\/∃ id off,d=.pt id off/\fp id off=some x:=by
 cases d with
 | ia cs=>exact .inl ⟨cs,rfl,h⟩
 | pt id off=>exact .inr ⟨id,off,rfl,h⟩
 | _=>cases h
theorem ve{α:Type}{hp:Tr DObj}{id:Nat}{f:TypeId->List DV->Option α}{x:α}(h:Ym hp id f none=some x):∃ T cs,hp.get id=some (.row T cs)/\f T cs=some x:=by
 unfold Ym at h
 rw [La] at h
 cases ho:hp.get id with
 | none=>rw [ho] at h;cases h
 | some o=>
  rw [ho] at h
  cases o with
  | row T cs=>exact ⟨T,cs,rfl,h⟩
  | _=>cases h
theorem Bi7{α:Type}{d:DV}{fv:Value->Option α}{fs:List DV->Nat->Option α}{fm:Nat->Nat->Nat->Nat->Option α}{x:α}(h:RP d fv fs fm none=some x) :
  (∃ v,d=.v v/\fv v=some x)\/(∃ cs n,d=.sl cs n/\fs cs n=some x)\/∃ id off n es,d=.ms id off n es/\fm id off n es=some x:=by
 cases d with
 | v v=>exact .inl ⟨v,rfl,h⟩
 | sl cs n=>exact .inr (.inl ⟨cs,n,rfl,h⟩)
 | ms id off n es=>exact .inr (.inr ⟨id,off,n,es,rfl,h⟩)
 | _=>cases h
theorem Bu0{α:Type}{d:DV}{f:Int->Option α}{x:α}(h:cI d f none=some x):∃ k n,d=.v (.int k n)/\f n=some x:=by
 obtain ⟨v,rfl,h⟩:=uP h
 rcases NT h with ⟨_,_,h⟩ | ⟨k,n,rfl,h⟩ | ⟨_,_,h⟩
 .cases h
 .exact ⟨k,n,rfl,h⟩
 .cases h
theorem SP{α:Type}{j:Int}{n:Nat}{f:Nat->Option α}{x:α}(h:uI j n f none=some x):0<=j/\j<n/\f j.toNat=some x:=by
 cases j with
 | ofNat m=>
  have e:uI (.ofNat m) n f none=Fw (Nat.blt m n) (f m) none:=rfl
  rw [e,Ti] at h
  split at h
  .rename_i hb
   have:m<n:=by simpa [Lb] using hb
   refine ⟨Int.natCast_nonneg m,?_,h⟩
   show (m:Int)<n
   omega
  .cases h
 | negSucc m=>cases h
theorem fJ{α:Type}{b:Bool}{y:Option α}{x:α}(h:Fw b y none=some x):b=true/\y=some x:=by
 cases b
 .cases h
 .exact ⟨rfl,h⟩
theorem A91{α:Type}{d:DV}{f:List DV->Option α}{x:α}(h:qH d f none=some x):∃ ds,d=.tup ds/\f ds=some x:=by
 cases d with
 | tup ds=>exact ⟨ds,rfl,h⟩
 | _=>cases h
theorem Bu1{o:DOp}{x:XP}(hx:Yy o=some x){es:ES}{d:DV}(h:x es=some d)(nid:Nat):Ay nid es.ds o=some (d,.keep):=by
 cases o <;> simp only [Yy,Ed] at hx <;> first | (cases hx;done) | skip
 case pick c a b=>
  subst hx
  obtain ⟨v,hv,h⟩:=uP h
  rw [Ui] at hv
  rcases NT h with ⟨t,rfl,h2⟩ | ⟨_,_,_,h2⟩ | ⟨_,_,h2⟩
  .rw [Ui,Ui,Ti] at h2
   cases h2
   simp [Ay,Yl hv]
  .cases h2
  .cases h2
 case ld k a=>
  subst hx
  rcases NS h with ⟨cs,ha,h⟩ | ⟨id,off,ha,h⟩
  .rw [Ui] at ha
   rw [X6] at h
   simp [Ay,pX ha,h]
  .rw [Ui] at ha
   obtain ⟨T,cs,hr,h⟩:=ve h
   rw [X6,jU] at h
   have ho:es.ds.ho id=some (.row T cs):=hr
   simp [Ay,eS ha (by rw [ho];rfl),ho,h]
 case bin op a b=>
  subst hx
  obtain ⟨v,hv,h⟩:=uP h
  obtain ⟨w,hw,h⟩:=uP h
  rw [Ui] at hv hw
  rcases NT h with ⟨_,_,h2⟩ | ⟨k,p,rfl,h2⟩ | ⟨s,rfl,h2⟩
  .cases h2
  .rcases NT h2 with ⟨_,_,h3⟩ | ⟨k',q,rfl,h3⟩ | ⟨_,_,h3⟩
   .cases h3
   .rw [UD] at h3
    obtain ⟨u,hu,rfl⟩:=Ac.1 h3
    rw [Ti,Ti] at hu
    simp only [Cm2] at hu
    simp [Ay,Yl hv,Yl hw,Pl,hu]
   .cases h3
  .rcases NT h2 with ⟨_,_,h3⟩ | ⟨_,_,_,h3⟩ | ⟨s',rfl,h3⟩
   .cases h3
   .cases h3
   .rw [UD] at h3
    obtain ⟨u,hu,rfl⟩:=Ac.1 h3
    simp [Ay,Yl hv,Yl hw,Pl,hu]
 case un op a=>
  subst hx
  obtain ⟨v,hv,h2⟩:=uP h
  rw [Ui] at hv
  rw [UD] at h2
  obtain ⟨u,hu,rfl⟩:=Ac.1 h2
  simp [Ay,Yl hv,hu]
 case fa off a=>
  subst hx
  rcases NS h with ⟨cs,ha,h⟩ | ⟨id,o,ha,h⟩
  .rw [Ui] at ha
   rw [jU] at h
   cases h
   simp [Ay,pX ha]
  .rw [Ui] at ha
   obtain ⟨hl,h⟩:=fJ h
   rw [qT,La] at hl
   rw [dD] at h
   cases h
   simp [Ay,eS ha hl]
 case ia es' a i=>
  subst hx
  obtain ⟨k,j,hj,h⟩:=Bu0 h
  rw [Ui] at hj
  rcases Bi7 h with ⟨_,_,h⟩ | ⟨cs,n,ha,h⟩ | ⟨id,off,n,Cb,ha,h⟩
  .cases h
  .rw [Ui] at ha
   obtain ⟨h0,h1,h⟩:=SP h
   rw [jU] at h
   cases h
   simp [Ay,Yl hj,zT ha,Lh,h0,h1]
  .rw [Ui] at ha
   obtain ⟨hl,h⟩:=fJ h
   rw [qT,La] at hl
   obtain ⟨h0,h1,h⟩:=SP h
   rw [dD] at h
   cases h
   simp [Ay,Yl hj,zU ha hl,Lh,h0,h1]
 case fx n es' a i=>
  subst hx
  obtain ⟨k,j,hj,h⟩:=Bu0 h
  rw [Ui] at hj
  rcases NS h with ⟨cs,ha,h⟩ | ⟨id,off,ha,h⟩
  .rw [Ui] at ha
   obtain ⟨h0,h1,h⟩:=SP h
   rw [jU] at h
   cases h
   simp [Ay,Yl hj,pX ha,Lh,h0,h1]
  .rw [Ui] at ha
   obtain ⟨hl,h⟩:=fJ h
   rw [qT,La] at hl
   obtain ⟨h0,h1,h⟩:=SP h
   rw [dD] at h
   cases h
   simp [Ay,Yl hj,eS ha hl,Lh,h0,h1]
 case len a=>
  subst hx
  rcases Bi7 h with ⟨v,ha,h⟩ | ⟨cs,n,ha,h⟩ | ⟨id,off,n,Cb,ha,h⟩
  .rw [Ui] at ha
   cases v <;> first | (cases h;done) | skip
   rename_i ad n c
   cases ad with
   | none=>
    cases h
    simp [Ay,Yl ha]
   | some ad=>cases h
  .rw [Ui] at ha
   rw [dD] at h
   cases h
   simp [Ay,zT ha]
  .rw [Ui] at ha
   obtain ⟨hl,h⟩:=fJ h
   rw [qT,La] at hl
   rw [dD] at h
   cases h
   simp [Ay,zU ha hl]
 case ext a i=>
  subst hx
  obtain ⟨ds,ha,h⟩:=A91 h
  rw [Ui] at ha
  have hn:∀ ds:List DV,bD i ds=ds[i]?:=λds=>by
   unfold bD
   rw [jU,<- List.head?_drop]
   cases ds.drop i <;> rfl
  rw [hn] at h
  cases hd:ds[i]? with
  | none=>rw [hd] at h;cases h
  | some d0=>
   rw [hd] at h
   cases d0 with
   | v v=>
    have h':some (DV.v v)=some d:=h
    cases h'
    simp [Ay,ha,pW,hd]
   | _=>
    obtain ⟨fP,uB,h⟩:=A91 h
    rw [mQ] at uB
    rw [hn] at h
    simp [Ay,ha,pW,hd,uB,h]
theorem UC{o:DOp}{es:ES}{nid:Nat}{d:DV}{u:Upd}(h:Uz o es nid=some (d,u)):Ay nid es.ds o=some (d,u):=by
 unfold Uz at h
 split at h
 .rename_i n a x
  unfold Jr at h
  rcases NS h with ⟨_,_,h⟩ | ⟨id,off,ha,h⟩
  .cases h
  .rw [Ui] at ha
   obtain ⟨T,cs,hr,h⟩:=ve h
   obtain ⟨h1,h⟩:=fJ h
   obtain ⟨h2,h⟩:=fJ h
   obtain ⟨h3,h⟩:=fJ h
   rw [TA] at h
   rw [OB,mQ] at h1
   rw [Y4,mQ] at h2
   have zM:=Fg h2
   have h3':off+n<=cs.length:=by simpa [Sn] using h3
   simp only [Y4,mQ,fU,SQ,jU] at h
   have ho:es.ds.ho id=some (.row T cs):=hr
   simp only [Ay,eS ha (by rw [ho];rfl),ho,h1,zM,h3',and_self,Ex]
   rw [<- h,Bu]
 .rename_i T x
  unfold Pn at h
  obtain ⟨h1,h⟩:=fJ h
  rw [OB,mQ] at h1
  rw [Y4,mQ] at h
  simp only [Ay,h1,Ex]
  exact h
 .exact h
 .exact h
theorem Bi8(es:ES)(t:Nat)(b:Bool):Ku es (Cm t) b=es.ds.wanted (some (t,b)):=by
 unfold Ku
 rw [SA]
 simp only [DS.wanted]
 cases hd:es.ds.sv t with
 | v x=>cases x <;> rfl
 | _=>rfl
theorem dA(es:ES)(dst:Option Nat)(d:DV):(es.putE (Fc dst) d).ds=es.ds.put dst d:=by
 obtain ⟨sl,hp,nx⟩:=es
 cases dst with
 | none=>rfl
 | some t=>
  show ES.ds ⟨sP (Cm t) (some d) sl,hp,nx⟩=_
  simp only [ES.ds,DS.put]
  congr 1
  funext u
  rw [sk]
  split <;> simp
theorem W9(hp:Tr DObj)(nid:Nat)(u:Upd):(Mc hp nid u).get=u.app nid hp.get:=by
 cases u with
 | keep=>rfl
 | lay o=>exact Q7
 | wr id o=>exact Q7
 | mv Hv o=>
  cases Hv with
  | none=>exact Q7
  | some i=>
   show (Ki (Ki hp i none) nid (some o)).get=_
   rw [Q7,Q7];rfl
end Go.DD

/- The evaluator's steps, in the text's order. -/
namespace Go.DD
def DS.Fr(s:DS):Prop:=∀ id,s.nx<=id->s.ho id=none
structure Gw (s s':DS):Prop where
 le:s.nx<=s'.nx
 new:∀ id,s.ho id=none->s'.ho id≠none->s.nx<=id/\id<s'.nx
theorem Gw.refl(s:DS):Gw s s:=⟨Ai _,λ_ h1 h2=>absurd h1 h2⟩
theorem Gw.of{s s':DS}(h1:s'.ho=s.ho)(h2:s'.nx=s.nx):Gw s s':=⟨by omega,λid h3 h4=>by rw [h1] at h4;exact absurd h3 h4⟩
theorem Gw.trans{s s' yb:DS}(h1:Gw s s')(h2:Gw s' yb):Gw s yb:=by
 refine ⟨Ep h1.le h2.le,λid h3 h4=>?_⟩
 have:=h1.le
 have:=h2.le
 by_cases h5:s'.ho id=none
 .have:=h2.new id h5 h4;omega
 .have:=h1.new id h3 h5;omega
theorem Gw.fr{s s':DS}(h1:s.Fr)(h2:Gw s s'):s'.Fr:=λid h=>by
 have h3:=h2.le
 cases h4:s'.ho id with
 | none=>rfl
 | some o=>
  have:=h2.new id (h1 id (by omega)) (by rw [h4];simp)
  omega
theorem Gw.put(s:DS)(dst:Option Nat)(d:DV):Gw s (s.put dst d):=Gw.of (DS.ho_put s dst d) (DS.nx_put s dst d)
theorem Gw.congr{s s' t t':DS}(h:Gw s s')(h1:t.ho=s.ho)(h2:t.nx=s.nx)(h3:t'.ho=s'.ho)(h4:t'.nx=s'.nx):Gw t t':=⟨by rw [h2,h4];exact h.le,λid=>by rw [h1,h2,h3,h4];exact h.new id⟩
theorem vu{nid:Nat}{s:DS}{op:DOp}{d:DV}{u:Upd}(h:Ay nid s op=some (d,u)):s.hasU u=true:=by
 cases u with
 | keep=>rfl
 | lay o=>rfl
 | wr id o=>
  cases op <;> simp only [Ay] at h
  case st n a x=>
   split at h
   .split at h
    .rename_i bG off e T cs ho
     split at h
     .cases h;simp [DS.hasU,ho]
     .cases h
    .cases h
   .cases h
  case mup kd x k y=>
   split at h
   .split at h
    .split at h
     .split at h
      .rename_i ho
       split at h
       .cases h;simp [DS.hasU,ho]
       .cases h
      .cases h
     .cases h
    .cases h
   .cases h
  case mdl kd x k=>
   split at h
   .split at h
    .split at h
     .split at h
      .rename_i ho
       split at h
       .cases h;simp [DS.hasU,ho]
       .cases h;simp [DS.hasU,ho]
       .cases h
      .cases h
     .cases h
    .cases h
   .cases h
  case men kd z x k=>
   split at h
   .split at h
    .split at h
     .split at h
      .rename_i ho
       split at h
       .cases h;simp [DS.hasU,ho]
       .cases h;simp [DS.hasU,ho]
       .cases h
      .cases h
     .cases h
    .cases h
   .cases h
  case mes x q y=>
   split at h
   .split at h
    .rename_i ho
     split at h
     .cases h;simp [DS.hasU,ho]
     .cases h
    .cases h
   .cases h
  case nxs x=>
   split at h
   .split at h
    .rename_i ho
     split at h
     .cases h;simp [DS.hasU,ho]
     .cases h
    .cases h
   .cases h
  case cpy es x y=>
   split at h
   .split at h
    .rename_i ho
     split at h
     .cases h;simp [DS.hasU,ho]
     .cases h
    .cases h
   .cases h
  all_goals (repeat' (first | (cases h;done) | split at h | (obtain ⟨_,_,h'⟩:=Ac.1 h;cases h';done)))
 | mv Hv o=>
  cases Hv with
  | none=>rfl
  | some id=>
   cases op <;> simp only [Ay] at h
   case app T es bytes d x=>
    split at h
    .rename_i Hv cs n news m e1 e2
     split at h
     .cases h
      unfold dstD at e1
      split at e1
      .cases e1
      .split at e1
       .rename_i ho
        simp only [DS.hasU]
        split at e1
        .cases e1;simp [ho]
        .cases e1
       .cases e1
      .cases e1
     .cases h
    .cases h
   case frz x=>
    split at h
    .split at h
     .rename_i ho
      split at h
      .cases h;simp [DS.hasU,ho]
      .cases h
     .cases h
    .cases h
   all_goals (repeat' (first | (cases h;done) | split at h | (obtain ⟨_,_,h'⟩:=Ac.1 h;cases h';done)))
theorem Cd0{s:DS}(hf:s.Fr){u:Upd}(h:s.hasU u=true):Gw s { s.upd s.nx u with nx:=if u.new then s.nx+1 else s.nx }:=by
 have hn:s.ho s.nx=none:=hf _ (Ai _)
 cases u with
 | keep=>exact Gw.of rfl rfl
 | lay o=>
  refine ⟨by simp [Upd.new],λid h1 h2=>?_⟩
  simp only [DS.upd,Upd.app,setH,Upd.new,Ex] at h2 ⊢
  split at h2
  .omega
  .exact absurd h1 h2
 | wr aB o=>
  refine ⟨by simp [Upd.new],λid h1 h2=>?_⟩
  simp only [DS.upd,Upd.app,setH] at h2
  split at h2
  .rename_i e;subst e;simp [DS.hasU,h1] at h
  .exact absurd h1 h2
 | mv Hv o=>
  refine ⟨by simp [Upd.new],λid h1 h2=>?_⟩
  simp only [DS.upd,Upd.app,setH,Upd.new,Ex] at h2 ⊢
  split at h2
  .omega
  .cases Hv with
   | none=>exact absurd h1 h2
   | some i=>
    simp only [NJ,setH] at h2
    split at h2
    .exact absurd rfl h2
    .exact absurd h1 h2
def callC(P:Program)(f:FuncId)(ds:List DV)(s:DS)(K:DS->DV->Prop):Prop:=Uc P f ds s K\/∃ d,(∀ x∈ds,x.refs=[])/\DCall P f ds (λd'=>d'=d)/\K s d
theorem callC.k{P:Program}{f:FuncId}{ds:List DV}{s:DS}{K:DS->DV->Prop}(h:callC P f ds s K):eX P f ds s K:=by
 rcases h with h | ⟨d,h1,h2,h3⟩
 .exact .inr (.inr (.inr h))
 .exact .inl ⟨_,h1,h2,λd' hd=>by rw [hd];exact h3⟩
theorem callC.i{P:Program}{f:FuncId}{ds:List DV}{s:DS}{K:DS->DV->Prop}(Ha:∃ x∈ds,x.refs≠[])(h:callC P f ds s K):Uc P f ds s K:=by
 rcases h with h | ⟨d,h1,_⟩
 .exact h
 .obtain ⟨x,hx,hr⟩:=Ha
  exact absurd (h1 x hx) hr
def Vs(P:Program)(call:Bg):Prop:=∀ (tg:Tg) (ds:List DV) (hp:Tr DObj) (nx:Nat) (d:DV) (Ao:Tr DObj) (Bk:Nat),call tg ds hp nx=some (d,Ao,Bk)->(∀ id,nx<=id->hp.get id=none)->
 nx<=Bk/\(∀ id,hp.get id=none->Ao.get id≠none->nx<=id/\id<Bk)/\match tg with
 | .fn f=>Uj P f=true/\∀ (sv:Nat->DV) (K:DS->DV->Prop),K ⟨sv,Ao.get,Bk⟩ d->callC P f ds ⟨sv,hp.get,nx⟩ K
 | .yl id=>∀ (sv:Nat->DV) (K:DS->DV->Prop),K ⟨sv,Ao.get,Bk⟩ d->OD P id ds ⟨sv,hp.get,nx⟩ K
theorem Jt{α β:Type}{x:Option α}{f:α->Option β}{y:β}(h:(Option.rec (motive:=λ_=>Option β) none f x)=some y):∃ a,x=some a/\f a=some y:=by
 cases x with
 | none=>cases h
 | some a=>exact ⟨a,rfl,h⟩
theorem eW{α:Type}(es:ES)(f:Tr DV->Tr DObj->Nat->α):es.cs f=f es.sl es.hp es.nx:=rfl
theorem NR{call:Bg}{tg:Tg}{ds:List DV}{dst:Option Nat}{es es':ES}(h:iI tg ds (Fc dst) call es=some es'):∃ d hp nx,call tg ds es.hp es.nx=some (d,hp,nx)/\es'.ds=(⟨es.ds.sv,hp.get,nx⟩:DS).put dst d:=by
 obtain ⟨⟨d,hp,nx⟩,h1,h2⟩:=Jt h
 have h3:some ((ES.mk es.sl hp nx).putE (Fc dst) d)=some es':=h2
 cases h3
 exact ⟨d,hp,nx,h1,dA _ _ _⟩
theorem Z6(es:ES)(args:List Operand):Yw es (args.map EO.of)=args.map es.ds.rv:=by
 unfold Yw
 rw [rX,List.map_map]
 exact Ea λx _=>Ui es x
theorem B52{P:Program}{call:Bg}(hc:Vs P call){f:Nat}{args:List Operand}{dst:Option Nat}{es es':ES}(h:Bj f (args.map EO.of) (Fc dst) call es=some es')(Ct:es.ds.Fr){K:DS->Prop}(hK:K es'.ds) :
  Gw es.ds es'.ds/\Uj P f=true/\callC P f (args.map es.ds.rv) es.ds λs' d=>K (s'.put dst d):=by
 unfold Bj at h
 rw [Z6] at h
 obtain ⟨d,hp,nx,h1,h2⟩:=NR h
 obtain ⟨n1,n2,g1,g2⟩:=hc _ _ _ _ _ _ _ h1 Ct
 refine ⟨(⟨n1,n2⟩:Gw es.ds ⟨es.ds.sv,hp.get,nx⟩).trans (by rw [h2];exact Gw.put _ _ _),g1,g2 es.ds.sv _ ?_⟩
 rw [<- h2];exact hK
theorem Cx0{P:Program}{call:Bg}(hc:Vs P call){tb:Option (List (TypeId×FuncId))}{x:Operand}{args:List Operand}{dst:Option Nat}{es es':ES}(h:aZ tb (.of x) (args.map EO.of) (Fc dst) call es=some es')(Ct:es.ds.Fr){K:DS->Prop}(hK:K es'.ds) :
  Gw es.ds es'.ds/\match (es.ds.ev x).tgt tb with
  | some (f,fr,cs)=>Uj P f=true/\callC P f (fr++args.map es.ds.rv++cs) es.ds λs' d=>K (s'.put dst d)
  | none=>match (es.ds.ev x).tgY tb with
   | some i=>OD P i (args.map es.ds.rv) es.ds λs' d=>K (s'.put dst d)
   | none=>False:=by
 unfold aZ at h
 rw [mQ,Z6] at h
 cases hf:(es.ds.ev x).tgt tb with
 | some p=>
  obtain ⟨f,fr,cs⟩:=p
  rw [hf] at h
  have h':iI (.fn f) (Lx fr (Lx (args.map es.ds.rv) cs)) (Fc dst) call es=some es':=h
  rw [fU,fU,<- Bu] at h'
  obtain ⟨d,hp,nx,h1,h2⟩:=NR h'
  obtain ⟨n1,n2,g1,g2⟩:=hc _ _ _ _ _ _ _ h1 Ct
  refine ⟨(⟨n1,n2⟩:Gw es.ds ⟨es.ds.sv,hp.get,nx⟩).trans (by rw [h2];exact Gw.put _ _ _),g1,g2 es.ds.sv _ ?_⟩
  rw [<- h2];exact hK
 | none=>
  rw [hf] at h
  cases hy:(es.ds.ev x).tgY tb with
  | none=>rw [hy] at h;cases h
  | some i=>
   rw [hy] at h
   have h':iI (.yl i) (args.map es.ds.rv) (Fc dst) call es=some es':=h
   obtain ⟨d,hp,nx,h1,h2⟩:=NR h'
   obtain ⟨n1,n2,g2⟩:=hc _ _ _ _ _ _ _ h1 Ct
   refine ⟨(⟨n1,n2⟩:Gw es.ds ⟨es.ds.sv,hp.get,nx⟩).trans (by rw [h2];exact Gw.put _ _ _),g2 es.ds.sv _ ?_⟩
   show K _
   rw [<- h2];exact hK
theorem NO{s:DS}{k:Bool}{x:Operand}{l:List (DV×Upd)}(h:Wp s k x=some l):∀ p∈l,s.hasU p.2=true/\p.2.new=false:=by
 unfold Wp at h
 split at h
 .unfold qC at h
  repeat' (first | (cases h;done) | split at h)
  all_goals (cases h;intro p hp;rw [Am] at hp;subst hp;exact ⟨rfl,rfl⟩)
 split at h
 .rename_i id hx
  split at h
  .cases h;intro p hp;rw [Am] at hp;subst hp;exact ⟨rfl,rfl⟩
  .rename_i im since seen last hid
   split at h
   .split at h
    .cases h
    .cases h
     intro p hp
     obtain ⟨c,_,rfl⟩:=Bm.1 hp
     cases c with
     | none=>exact ⟨rfl,rfl⟩
     | some e=>exact ⟨by simp [kA,kB,DS.hasU,hid],rfl⟩
   .cases h
  .cases h
 .cases h
theorem ue{s:DS}{u:Upd}(h:s.hasU u=true)(hn:u.new=false)(n:Nat):Gw s (s.upd n u):=by
 cases u with
 | keep=>exact Gw.of rfl rfl
 | lay o=>cases hn
 | mv Hv o=>cases hn
 | wr aB o=>
  refine ⟨Ai _,λid h1 h2=>?_⟩
  simp only [DS.upd,Upd.app,setH] at h2
  split at h2
  .rename_i e;subst e;simp [DS.hasU,h1] at h
  .exact absurd h1 h2
theorem Cx1{k:Bool}{x:Operand}{dst:Option Nat}{call:Bg}{es es':ES}(h:XM k x (Fc dst) call es=some es'):∃ p,Wp es.ds k x=some [p]/\es'.ds=(es.ds.upd es.ds.nx p.2).put dst p.1/\Gw es.ds es'.ds:=by
 unfold XM at h
 split at h
 .rename_i p hp
  have h1:=NO hp p (by simp)
  split at h
  .cases h
  .cases h
   have e:(ES.mk es.sl (Mc es.hp es.nx p.2) es.nx).ds=es.ds.upd es.ds.nx p.2:=by
    simp only [ES.ds,W9];rfl
   refine ⟨p,hp,by rw [dA,e],?_⟩
   rw [dA,e]
   exact (ue h1.1 h1.2 _).trans (Gw.put _ _ _)
 .cases h
def Exd(s:DS)(o:DOp)(dst:Option Nat)(s':DS):Prop:=∃ d u,Ay s.nx s o=some (d,u)/\s'=({ s.upd s.nx u with nx:=if u.new then s.nx+1 else s.nx } : DS).put dst d
theorem BU{x:XU}{o:DOp}(hx:∀ es nid d u,x es nid=some (d,u)->Ay nid es.ds o=some (d,u)){dst:Option Nat}{call:Bg}{es es':ES}(h:sU (Fc dst) x call es=some es'):Exd es.ds o dst es'.ds:=by
 obtain ⟨⟨d,u⟩,h1,h2⟩:=Jt h
 have h3:Fw u.new (bY (es.nx+1) λn=>some ((ES.mk es.sl (Mc es.hp es.nx u) n).putE (Fc dst) d)) (some ((ES.mk es.sl (Mc es.hp es.nx u) es.nx).putE (Fc dst) d))=some es':=h2
 have hex:=hx _ _ _ _ h1
 rw [Ti,dD] at h3
 refine ⟨d,u,hex,?_⟩
 split at h3
 .rename_i hu
  cases h3
  rw [dA]
  simp only [ES.ds,W9,hu]
  rfl
 .rename_i hu
  cases h3
  rw [dA]
  simp only [ES.ds,W9,hu]
  rfl
theorem BT{x:XP}{o:DOp}(hx:∀ es d,x es=some d->∀ nid,Ay nid es.ds o=some (d,.keep)){dst:Option Nat}{call:Bg}{es es':ES}(h:sX (Fc dst) x call es=some es'):Exd es.ds o dst es'.ds:=by
 obtain ⟨d,h1,h2⟩:=Jt h
 have h3:some (es.putE (Fc dst) d)=some es':=h2
 cases h3
 exact ⟨d,.keep,hx _ _ h1 _,dA _ _ _⟩
theorem Exd.gw{s s':DS}{o:DOp}{dst:Option Nat}(hf:s.Fr)(h:Exd s o dst s'):Gw s s':=by
 obtain ⟨d,u,h1,rfl⟩:=h
 exact (Cd0 hf (vu h1)).trans (Gw.put _ _ _)
theorem wz{dst:Option Nat}{op:DOp}{call:Bg}{es es':ES}(Ya:∀ f args,op≠.call f args)(fL:∀ tb x args,op≠.cv tb x args)(PX:∀ k x,op≠.nxm k x)(h:Tm (Fc dst) op call es=some es'):Exd es.ds op dst es'.ds:=by
 by_cases iY:∃ x,op=.mv x
 .obtain ⟨x,rfl⟩:=iY
  have h3:some (es.putE (Fc dst) (Ae es (.of x)))=some es':=h
  cases h3
  exact ⟨es.ds.rv x,.keep,rfl,by rw [dA,Ui];rfl⟩
 .have Hg:Tm (Fc dst) op=match Yy op with
   | some x=>sX (Fc dst) x
   | none=>sU (Fc dst) (Uz op):=by
   cases op <;> first | rfl | (exact absurd ⟨_,rfl⟩ iY) | (exact absurd rfl (Ya _ _)) | (exact absurd rfl (fL _ _ _)) | (exact absurd rfl (PX _ _))
  rw [Hg] at h
  cases hx:Yy op with
  | some x=>
   rw [hx] at h
   exact BT (λes d hd nid=>Bu1 hx hd nid) h
  | none=>
   rw [hx] at h
   exact BU (λes nid d u hd=>UC hd) h
theorem SO{P:Program}{call:Bg}(hc:Vs P call){r:DR}{es es':ES}(h:Tm (Fc r.dst) r.op call es=some es')(Ct:es.ds.Fr){K:DS->Prop}(hK:K es'.ds):Gw es.ds es'.ds/\Nb P r es.ds K:=by
 by_cases Vn:∃ f args,r.op=.call f args
 .obtain ⟨f,args,ho⟩:=Vn
  rw [ho] at h
  obtain ⟨g0,g1,g2⟩:=B52 hc h Ct hK
  refine ⟨g0,?_⟩
  unfold Nb
  rw [ho]
  exact ⟨g1,g2.k⟩
 .by_cases mF:∃ tb x args,r.op=.cv tb x args
  .obtain ⟨tb,x,args,ho⟩:=mF
   rw [ho] at h
   obtain ⟨g0,h1⟩:=Cx0 hc h Ct hK
   refine ⟨g0,?_⟩
   unfold Nb
   rw [ho]
   simp only
   cases hf:(es.ds.ev x).tgt tb with
   | some p=>
    rw [hf] at h1
    exact ⟨h1.1,h1.2.k⟩
   | none=>
    rw [hf] at h1
    simp only at h1 ⊢
    cases hy:(es.ds.ev x).tgY tb with
    | none=>rw [hy] at h1;exact h1
    | some i=>rw [hy] at h1;exact h1
  .by_cases Um:∃ k x,r.op=.nxm k x
   .obtain ⟨k,x,ho⟩:=Um
    rw [ho] at h
    obtain ⟨p,h1,h2,h3⟩:=Cx1 (call:=call) (es:=es) (k:=k) (x:=x) (dst:=r.dst) h
    refine ⟨h3,?_⟩
    unfold Nb
    rw [ho]
    simp only [h1]
    intro q hq
    rw [Am] at hq
    subst hq
    rw [<- h2];exact hK
   .have hex:=wz (λf args e=>Vn ⟨f,args,e⟩) (λtb x args e=>mF ⟨tb,x,args,e⟩) (λk x e=>Um ⟨k,x,e⟩) h
    refine ⟨hex.gw Ct,?_⟩
    obtain ⟨d,u,h1,h2⟩:=hex
    unfold Nb
    split
    .rename_i f args ho;exact absurd ⟨f,args,ho⟩ Vn
    .rename_i tb x args ho;exact absurd ⟨tb,x,args,ho⟩ mF
    .rename_i k x ho;exact absurd ⟨k,x,ho⟩ Um
    .unfold exec
     rw [h1]
     simp only
     rw [<- h2];exact hK
theorem ud{P:Program}{call:Bg}(hc:Vs P call){r:DR}{es es':ES}(h:Xp r call es=some es')(Ct:es.ds.Fr):Gw es.ds es'.ds/\∀ {rest:List DR} {K:DS->Prop},Zn P rest es'.ds K->Zn P (r::rest) es.ds K:=by
 unfold Xp at h
 simp only [Zn]
 cases hg:r.g with
 | none=>
  rw [hg] at h
  simp only [DS.wanted]
  exact ⟨(SO hc h Ct (K:=λ_=>True) trivial).1,λ{rest K} hK=>(SO hc h Ct (K:=λs'=>Zn P rest s' K) hK).2⟩
 | some p=>
  obtain ⟨t,b⟩:=p
  rw [hg] at h
  simp only at h
  obtain ⟨c,h1,h2⟩:=Jt h
  rw [Bi8] at h1
  rw [h1]
  cases c with
  | true=>exact ⟨(SO hc h2 Ct (K:=λ_=>True) trivial).1,λ{rest K} hK=>(SO hc h2 Ct (K:=λs'=>Zn P rest s' K) hK).2⟩
  | false=>
   have h3:some (es.putE (Fc r.dst) (.v undef))=some es':=h2
   cases h3
   rw [dA]
   exact ⟨Gw.put _ _ _,λ{rest K} hK=>hK⟩
theorem Bu2{P:Program}{call:Bg}(hc:Vs P call):∀ (ops:List DR) (es es':ES),nG ops call es=some es'->es.ds.Fr->Gw es.ds es'.ds/\∀ K:DS->Prop,K es'.ds->Zn P ops es.ds K
 | [],es,es',h,_=>by
  have h3:some es=some es':=h
  cases h3
  exact ⟨Gw.refl _,λK hK=>hK⟩
 | r::rest,es,es',h,Ct=>by
  have h':sq (Xp r) (nG rest) call es=some es':=h
  obtain ⟨e1,h1,h2⟩:=Jt h'
  obtain ⟨g1,k1⟩:=ud hc h1 Ct
  obtain ⟨g2,k2⟩:=Bu2 hc rest e1 es' h2 (Gw.fr Ct g1)
  exact ⟨g1.trans g2,λK hK=>k1 (k2 K hK)⟩
end Go.DD

/- The evaluator's regions that draw their order: what each step has done. -/
namespace Go.DD
structure Rec where
 d:DV
 lay:Option DObj
 tgt:Option Nat
 ob:DObj
 mn:Bool
 H:Nat->Option DObj
 N:Nat
def Rec.nil:Rec:=⟨.any,none,none,.row 0 [],false,λ_=>none,0⟩
def OA(P:Program)(op:DOp)(s:DS)(d:DV)(H:Nat->Option DObj)(N:Nat):Prop:=match op with
 | .call f args=>∀ sv,aN P f (args.map s.rv) ⟨sv,s.ho,s.nx⟩ d H N
 | .cv tb x args=>∃ f fr cs,(s.ev x).tgt tb=some (f,fr,cs)/\∀ sv,aN P f (fr++args.map s.rv++cs) ⟨sv,s.ho,s.nx⟩ d H N
 | op=>∃ u,s.hasU u=true/\Ay s.nx s op=some (d,u)/\H=u.app s.nx s.ho/\N=if u.new then s.nx+1 else s.nx
theorem Exd.main{P:Program}{s s':DS}{o:DOp}{dst:Option Nat}(h:Exd s o dst s')(Ya:∀ f args,o≠.call f args)(fL:∀ tb x args,o≠.cv tb x args):∃ d,s'.sv=(s.put dst d).sv/\OA P o s d s'.ho s'.nx:=by
 obtain ⟨d,u,h1,rfl⟩:=h
 refine ⟨d,by cases dst <;> rfl,?_⟩
 have key:∃ u',s.hasU u'=true/\Ay s.nx s o=some (d,u')/\(({ s.upd s.nx u with nx:=if u.new then s.nx+1 else s.nx } : DS).put dst d).ho=u'.app s.nx s.ho/\(({ s.upd s.nx u with nx:=if u.new then s.nx+1 else s.nx } : DS).put dst d).nx=if u'.new then s.nx+1 else s.nx:=
  ⟨u,vu h1,h1,by rw [DS.ho_put];rfl,by rw [DS.nx_put]⟩
 unfold OA
 split
 .rename_i f args;exact absurd rfl (Ya f args)
 .rename_i tb x args;exact absurd rfl (fL tb x args)
 .exact key
theorem B53{P:Program}{call:Bg}(hc:Vs P call){dst:Option Nat}{op:DOp}{es es':ES}(h:Zr (Fc dst) op call es=some es')(Ct:es.ds.Fr) :
  ∃ d,Gw es.ds es'.ds/\es'.ds.sv=(es.ds.put dst d).sv/\OA P op es.ds d es'.ds.ho es'.ds.nx:=by
 have Vo:∀ {f:Nat} {ds:List DV} {d:DV} {hp:Tr DObj} {nx:Nat},call (.fn f) ds es.hp es.nx=some (d,hp,nx)->es'.ds=(⟨es.ds.sv,hp.get,nx⟩:DS).put dst d->
   Gw es.ds es'.ds/\es'.ds.sv=(es.ds.put dst d).sv/\∀ sv,aN P f ds ⟨sv,es.ds.ho,es.ds.nx⟩ d es'.ds.ho es'.ds.nx:=λ{f ds d hp nx} h1 h2=>by
  obtain ⟨n1,n2,g1,g2⟩:=hc _ _ _ _ _ _ _ h1 Ct
  refine ⟨(⟨n1,n2⟩:Gw es.ds ⟨es.ds.sv,hp.get,nx⟩).trans (by rw [h2];exact Gw.put _ _ _),by rw [h2];cases dst <;> rfl,λsv=>⟨g1,?_⟩⟩
  rcases g2 sv (λs' d'=>d'=d/\s'.ho=es'.ds.ho/\s'.nx=es'.ds.nx) ⟨rfl,by rw [h2,DS.ho_put],by rw [h2,DS.nx_put]⟩ with h | ⟨d0,k1,k2,k3⟩
  .exact .inl h
  .obtain ⟨rfl,k4,k5⟩:=k3
   exact .inr ⟨k4.symm,k5.symm,k1,k2⟩
 by_cases Vn:∃ f args,op=.call f args
 .obtain ⟨f,args,rfl⟩:=Vn
  have h':Bj f (args.map EO.of) (Fc dst) call es=some es':=h
  unfold Bj at h'
  rw [Z6] at h'
  obtain ⟨d,hp,nx,h1,h2⟩:=NR h'
  obtain ⟨g1,g2,g3⟩:=Vo h1 h2
  exact ⟨d,g1,g2,g3⟩
 .by_cases mF:∃ tb x args,op=.cv tb x args
  .obtain ⟨tb,x,args,rfl⟩:=mF
   have h':jY tb (.of x) (args.map EO.of) (Fc dst) call es=some es':=h
   unfold jY at h'
   rw [mQ,Z6] at h'
   obtain ⟨⟨f,fr,cs⟩,hf,h'⟩:=Jt h'
   have QS:iI (.fn f) (Lx fr (Lx (args.map es.ds.rv) cs)) (Fc dst) call es=some es':=h'
   rw [fU,fU,<- Bu] at QS
   obtain ⟨d,hp,nx,h1,h2⟩:=NR QS
   obtain ⟨g1,g2,g3⟩:=Vo h1 h2
   exact ⟨d,g1,g2,f,fr,cs,hf,g3⟩
  .by_cases Um:∃ k x,op=.nxm k x
   .obtain ⟨k,x,rfl⟩:=Um
    cases h
   .have Ya:∀ f args,op≠.call f args:=λf args e=>Vn ⟨f,args,e⟩
    have fL:∀ tb x args,op≠.cv tb x args:=λtb x args e=>mF ⟨tb,x,args,e⟩
    have PX:∀ k x,op≠.nxm k x:=λk x e=>Um ⟨k,x,e⟩
    have he:Zr (Fc dst) op=Tm (Fc dst) op:=by
     unfold Zr
     split
     .exact absurd rfl (fL _ _ _)
     .exact absurd rfl (PX _ _)
     .rfl
    rw [he] at h
    have hex:=wz Ya fL PX h
    obtain ⟨d,g1,g2⟩:=hex.main (P:=P) Ya fL
    exact ⟨d,hex.gw Ct,g1,g2⟩
def fG(s:DS)(o:DOp)(id:Nat):Prop:=∃ t,.tmp t∈o.opnds/\id∈(s.sv t).refs
theorem refsL_mem(es:ES)(o:DOp)(id:Nat):id∈refsL es ((iH o).map Cm)↔fG es.ds o id:=by
 have key:∀ l:List Nat,id∈refsL es (l.map Cm)↔∃ t∈l,id∈(es.ds.sv t).refs:=by
  intro l
  induction l with
  | nil=>exact ⟨λh=>(by cases h),λ⟨t,h,_⟩=>(by cases h)⟩
  | cons t l ih=>
   have e:refsL es ((t::l).map Cm)=Lx (Vv (Ae es (.t (Cm t)))) (refsL es (l.map Cm)):=rfl
   rw [e,fU,X7,SA,Aw,ih]
   constructor
   .rintro (h | ⟨u,hu,h⟩)
    .exact ⟨t,by simp,h⟩
    .exact ⟨u,by simp [hu],h⟩
   .rintro ⟨u,hu,h⟩
    rcases Aq.1 hu with rfl | hu
    .exact .inl h
    .exact .inr ⟨u,hu,h⟩
 rw [key]
 unfold fG iH
 constructor
 .rintro ⟨t,ht,h⟩
  obtain ⟨x,hx,hxt⟩:=Gn.1 ht
  cases x <;> simp at hxt
  subst hxt
  exact ⟨_,hx,h⟩
 .rintro ⟨t,ht,h⟩
  exact ⟨t,Gn.2 ⟨_,ht,rfl⟩,h⟩
def uL(n0 m:Nat)(an:List Nat)(s:DS)(id:Nat):Prop:=(s.ho id).isSome=true/\(id<n0\/n0+m<=id\/an.contains (id-n0)=true)
theorem B54{n0 m:Nat}{an:List Nat}{es:ES}{id:Nat}(h:Cs n0 m an es.hp id=true):uL n0 m an es.ds id:=by
 unfold Cs at h
 simp only [Ti,qT,La] at h
 split at h
 .rename_i h1
  refine ⟨h1,?_⟩
  split at h
  .rename_i h2;exact .inl (by simpa [Lb] using h2)
  .split at h
   .rename_i h3;exact .inr (.inl (by simpa [Sn] using h3))
   .exact .inr (.inr h)
 .cases h
theorem A14(n0:Nat):∀ (js:List Nat) (hp:Tr DObj),(Q8 n0 hp js).get=λid=>if ∃ j∈js,id=n0+j then none else hp.get id
 | [],hp=>by funext id;simp [Q8]
 | j::js,hp=>by
  funext id
  simp only [Q8]
  rw [A14 n0 js,Tr.set_ho]
  by_cases h1:∃ j∈js,id=n0+j
  .simp only [h1,Ex]
   rw [Af]
   obtain ⟨x,hx,e⟩:=h1
   exact ⟨x,by simp [hx],e⟩
  .simp only [h1,Ib,setH]
   by_cases h2:id=n0+j
   .rw [Af h2,Af ⟨j,by simp,h2⟩]
   .rw [Ad h2,Ad]
    rintro ⟨x,hx,e⟩
    rcases Aq.1 hx with rfl | hx
    .exact h2 e
    .exact h1 ⟨x,hx,e⟩
theorem Bi9(n0:Nat)(Hv:Tr DObj):∀ (js:List Nat) (hp:Tr DObj),(Ue n0 Hv hp js).get=λid=>if ∃ j∈js,id=n0+j then Hv.get id else hp.get id
 | [],hp=>by funext id;simp [Ue]
 | j::js,hp=>by
  funext id
  simp only [Ue]
  rw [Bi9 n0 Hv js,Tr.set_ho]
  by_cases h1:∃ j∈js,id=n0+j
  .simp only [h1,Ex]
   rw [Af]
   obtain ⟨x,hx,e⟩:=h1
   exact ⟨x,by simp [hx],e⟩
  .simp only [h1,Ib,setH]
   by_cases h2:id=n0+j
   .rw [Af h2,Af ⟨j,by simp,h2⟩,h2]
   .rw [Ad h2,Ad]
    rintro ⟨x,hx,e⟩
    rcases Aq.1 hx with rfl | hx
    .exact h2 e
    .exact h1 ⟨x,hx,e⟩
inductive Sem (P:Program) (n0 m i:Nat) (r:DR) (o:OI) (δ δ':DSt) (ρ:Rec):Prop
 | off (hw:δ.es.ds.wanted r.g=some false) (hd:ρ.d=.v undef) (hl:ρ.lay=none) (ht:ρ.tgt=none) (hm:ρ.mn=false) (he:δ'.es.ds=δ.es.ds.put r.dst (.v undef)) (Gg:δ'.lo=δ.lo) (Ms:δ'.ws=δ.ws) (Gy:δ'.ps=δ.ps)
 | read (hw:δ.es.ds.wanted r.g=some true) (Lj:∀ id,fG δ.es.ds r.op id->uL n0 m o.an δ.es.ds id) (hx:Ay (n0+i) δ.es.ds r.op=some (ρ.d,.keep))
   (hl:ρ.lay=none) (ht:ρ.tgt=none) (hm:ρ.mn=false) (he:δ'.es.ds=δ.es.ds.put r.dst ρ.d) (Gg:δ'.lo=δ.lo) (Ms:∀ w∈δ.ws,w∈δ'.ws) (Vi:o.wide=true->∀ id,fG δ.es.ds r.op id->⟨i,o.an,id,δ.lo.contains (id-n0),r.op.rdC⟩∈δ'.ws) (Gy:δ'.ps=δ.ps)
 | lay (ob:DObj) (hw:δ.es.ds.wanted r.g=some true) (Lj:∀ id,fG δ.es.ds r.op id->uL n0 m o.an δ.es.ds id) (hx:Ay (n0+i) δ.es.ds r.op=some (ρ.d,.lay ob))
   (hl:ρ.lay=some ob) (ht:ρ.tgt=none) (hm:ρ.mn=false) (he:δ'.es.ds=(⟨δ.es.ds.sv,setH δ.es.ds.ho (n0+i) (some ob),δ.es.ds.nx⟩:DS).put r.dst ρ.d) (Gg:δ'.lo=i::δ.lo) (Ms:∀ w∈δ.ws,w∈δ'.ws) (Vi:o.wide=true->∀ id,fG δ.es.ds r.op id->⟨i,o.an,id,δ.lo.contains (id-n0),r.op.rdC⟩∈δ'.ws) (Gy:δ'.ps=δ.ps)
 | wr (ob:DObj) (hw:δ.es.ds.wanted r.g=some true) (hc:o.cls≠0/\o.cls≠1/\o.cls≠2) (Lj:∀ id,fG δ.es.ds r.op id->uL n0 m o.an δ.es.ds id) (hx:Ay (n0+i) δ.es.ds r.op=some (ρ.d,.wr (n0+o.tgt) ob))
   (Rj:∀ id,fG δ.es.ds r.op id->id=n0+o.tgt) (Ez:o.tgt∈δ.lo) (Kp:o.an.contains o.tgt=true)
   (hl:ρ.lay=none) (ht:ρ.tgt=some o.tgt) (kK:ρ.ob=ob) (hm:ρ.mn=false) (he:δ'.es.ds=(⟨δ.es.ds.sv,setH δ.es.ds.ho (n0+o.tgt) (some ob),δ.es.ds.nx⟩:DS).put r.dst ρ.d) (Gg:δ'.lo=δ.lo) (Ms:δ'.ws=δ.ws) (Gy:δ'.ps=δ.ps)
 | main (hid:List Nat) (hs:DS) (Sv:hid=δ.lo.filter λj=>!o.an.contains j) (fM:hs=⟨δ.es.ds.sv,(λid=>if ∃ j∈hid,id=n0+j then none else δ.es.ds.ho id),δ.es.ds.nx⟩) (hw:δ.es.ds.wanted r.g=some true) (hc:o.cls=2) (Lj:∀ id,fG δ.es.ds r.op id->uL n0 m o.an δ.es.ds id)
   (hx:OA P r.op hs ρ.d ρ.H ρ.N) (hg:Gw hs ⟨δ.es.ds.sv,ρ.H,ρ.N⟩)
   (hl:ρ.lay=none) (ht:ρ.tgt=none) (hm:ρ.mn=true) (he:δ'.es.ds=(⟨δ.es.ds.sv,(λid=>if ∃ j∈hid,id=n0+j then δ.es.ds.ho id else ρ.H id),ρ.N⟩:DS).put r.dst ρ.d) (Gg:δ'.lo=hid) (Ms:δ'.ws=δ.ws) (Gy:δ'.ps=⟨i,o.an,δ.es.hp,δ'.es.hp⟩::δ.ps)
theorem Bu3{s:DS}(h:s.Fr)(f:Nat->Prop)[DecidablePred f]:(⟨s.sv,(λid=>if f id then none else s.ho id),s.nx⟩:DS).Fr:=λid hi=>by
 show (if f id then none else s.ho id)=none
 split
 .rfl
 .exact h id hi
theorem put_eq(s:DS)(dst:Option Nat)(d:DV):s.put dst d=⟨(s.put dst d).sv,s.ho,s.nx⟩:=by cases dst <;> rfl
theorem Cx2{s t:DS}(h:s.sv=t.sv)(dst:Option Nat)(d:DV):(s.put dst d).sv=(t.put dst d).sv:=by cases dst <;> simp [DS.put,h]
theorem Si(es:ES):es.ds=⟨es.ds.sv,es.hp.get,es.nx⟩:=rfl
theorem B55{x:XU}{nid:Nat}{es:ES}{d:DV}(h:Gd x nid es=some d):x es nid=some (d,.keep):=by
 obtain ⟨⟨d',u⟩,h1,h2⟩:=Jt h
 cases u with
 | keep=>have h3:some d'=some d:=h2;cases h3;exact h1
 | _=>cases h2
theorem A93{i n0:Nat}{an:List Nat}{wide c:Bool}{refs lo:List Nat}{ws:List Look} : (∀ w∈ws,w∈Gt i an wide c refs n0 lo ws)/\(wide=true->∀ id∈refs,(⟨i,an,id,lo.contains (id-n0),c⟩:Look)∈Gt i an wide c refs n0 lo ws):=by
 unfold Gt
 rw [Ti,fU,rX]
 constructor
 .intro w hw
  split
  .simp [hw]
  .exact hw
 .intro h id hid
  rw [Af h]
  exact Dq _ (Bm.2 ⟨id,hid,rfl⟩)
theorem Bj0{P:Program}{call:Bg}(hc:Vs P call){n0 m i:Nat}{r:DR}{o:OI}{δ δ':DSt}(Ct:δ.es.ds.Fr)(hw:δ.es.ds.wanted r.g=some true)(h:uG i r o call n0 m δ=some δ'):∃ ρ,Sem P n0 m i r o δ δ' ρ:=by
 unfold uG By at h
 obtain ⟨h1,h⟩:=fJ h
 rw [NH] at h1
 have Lj:∀ id,fG δ.es.ds r.op id->uL n0 m o.an δ.es.ds id:=λid hid=>B54 (Bi.1 h1 id ((refsL_mem _ _ _).2 hid))
 obtain ⟨es,lo,ws,ps⟩:=δ
 obtain ⟨sl,hp,nx⟩:=es
 have h4c:o.cls=2\/o.cls=0\/o.cls=1\/∃ n,o.cls=n+3:=by
  rcases Dd o.cls 3 with h | h
  .omega
  .exact .inr (.inr (.inr ⟨o.cls-3,by omega⟩))
 rcases h4c with eM | eM | eM | ⟨n,eM⟩
 .rw [eM] at h
  replace h:Cx i o.an (Zr (Fc r.dst) r.op) call n0 m ⟨⟨sl,hp,nx⟩,lo,ws,ps⟩=some δ':=h
  unfold Cx at h
  have h':B8 (lo.filter λj=>!o.an.contains j) (λhid=>Option.rec (motive:=λ_=>Option DSt) none (λes'=>es'.cs λXL Ao Bk=>Fw (Nat.ble nx Bk) (some ⟨⟨XL,Ue n0 hp Ao hid,Bk⟩,hid,ws,⟨i,o.an,hp,Ue n0 hp Ao hid⟩::ps⟩) none) (Zr (Fc r.dst) r.op call ⟨sl,Q8 n0 hp hid,nx⟩))=some δ':=h
  rw [TA] at h'
  obtain ⟨es',h2,h3⟩:=Jt h'
  rw [eW] at h3
  obtain ⟨_,h4⟩:=fJ h3
  cases h4
  have QH:(⟨sl,Q8 n0 hp (lo.filter λj=>!o.an.contains j),nx⟩:ES).ds=⟨(ES.mk sl hp nx).ds.sv,(λid=>if ∃ j∈(lo.filter λj=>!o.an.contains j),id=n0+j then none else (ES.mk sl hp nx).ds.ho id),(ES.mk sl hp nx).ds.nx⟩:=by
   rw [Si,A14];rfl
  obtain ⟨d,g1,g2,g3⟩:=B53 hc h2 (by rw [QH];exact Bu3 Ct _)
  rw [QH] at g1 g2 g3
  refine ⟨⟨d,none,none,.row 0 [],true,es'.ds.ho,es'.ds.nx⟩,.main _ _ rfl rfl hw eM Lj g3 (g1.congr rfl rfl rfl rfl) rfl rfl rfl ?_ rfl rfl rfl⟩
  rw [Si,Bi9]
  rw [put_eq]
  have e:(ES.mk es'.sl (Ue n0 hp es'.hp (lo.filter λj=>!o.an.contains j)) es'.nx).ds.sv=es'.ds.sv:=rfl
  rw [e,g2]
  congr 1
  exact Cx2 (by rfl) _ _
 .rw [eM] at h
  replace h:Ch i o.an o.wide r.op.rdC (Fc r.dst) (match r.op with
   | .mv x=>λ_ es=>some (Ae es (.of x))
   | op=>match Yy op with
    | some x=>λ_=>x
    | none=>Gd (Uz op)) ((iH r.op).map Cm) call n0 m ⟨⟨sl,hp,nx⟩,lo,ws,ps⟩=some δ':=h
  unfold Ch at h
  obtain ⟨v,h2,h3⟩:=Jt h
  have h4:some (⟨(ES.mk sl hp nx).putE (Fc r.dst) v,lo,Gt i o.an o.wide r.op.rdC (refsL ⟨sl,hp,nx⟩ ((iH r.op).map Cm)) n0 lo ws,ps⟩:DSt)=some δ':=h3
  cases h4
  have hx:Ay (n0+i) (ES.mk sl hp nx).ds r.op=some (v,.keep):=by
   by_cases iY:∃ x,r.op=.mv x
   .obtain ⟨x,ho⟩:=iY
    rw [ho] at h2
    have h5:some (Ae ⟨sl,hp,nx⟩ (.of x))=some v:=h2
    cases h5
    rw [Ui,ho];rfl
   .have Hg:(match r.op with
     | .mv x=>λ_ es=>some (Ae es (.of x))
     | op=>match Yy op with
      | some x=>λ_=>x
      | none=>Gd (Uz op):Nat->XP)=match Yy r.op with
      | some x=>λ_=>x
      | none=>Gd (Uz r.op):=by
     generalize r.op=op at iY
     cases op <;> first | rfl | (exact absurd ⟨_,rfl⟩ iY)
    rw [Hg] at h2
    cases hx:Yy r.op with
    | some x=>rw [hx] at h2;exact Bu1 hx h2 _
    | none=>rw [hx] at h2;exact UC (B55 h2)
  obtain ⟨w1,w2⟩:=@A93 i n0 o.an o.wide r.op.rdC (refsL ⟨sl,hp,nx⟩ ((iH r.op).map Cm)) lo ws
  exact ⟨⟨v,none,none,.row 0 [],false,λ_=>none,0⟩,.read hw Lj hx rfl rfl rfl (dA _ _ _) rfl w1 (λbh id hid=>w2 bh id ((refsL_mem _ _ _).2 hid)) rfl⟩
 .rw [eM] at h
  replace h:Rx i o.an o.wide r.op.rdC (Fc r.dst) (Uz r.op) ((iH r.op).map Cm) call n0 m ⟨⟨sl,hp,nx⟩,lo,ws,ps⟩=some δ':=h
  unfold Rx at h
  have h':bY (n0+i) (λnid=>Option.rec (motive:=λ_=>Option DSt) none (λp=>Upd.casesOn (motive:=λ_=>Option DSt) p.2 none
   (λob=>some ⟨(ES.mk sl (Ki hp nid (some ob)) nx).putE (Fc r.dst) p.1,i::lo,Gt i o.an o.wide r.op.rdC (refsL ⟨sl,hp,nx⟩ ((iH r.op).map Cm)) n0 lo ws,ps⟩) (λ_ _=>none) (λ_ _=>none)) (Uz r.op ⟨sl,hp,nx⟩ nid))=some δ':=h
  rw [dD] at h'
  obtain ⟨⟨d,u⟩,h2,h3⟩:=Jt h'
  cases u with
  | lay ob=>
   have h4:some (⟨(ES.mk sl (Ki hp (n0+i) (some ob)) nx).putE (Fc r.dst) d,i::lo,Gt i o.an o.wide r.op.rdC (refsL ⟨sl,hp,nx⟩ ((iH r.op).map Cm)) n0 lo ws,ps⟩:DSt)=some δ':=h3
   cases h4
   obtain ⟨w1,w2⟩:=@A93 i n0 o.an o.wide r.op.rdC (refsL ⟨sl,hp,nx⟩ ((iH r.op).map Cm)) lo ws
   refine ⟨⟨d,some ob,none,.row 0 [],false,λ_=>none,0⟩,.lay ob hw Lj (UC h2) rfl rfl rfl ?_ rfl w1 (λbh id hid=>w2 bh id ((refsL_mem _ _ _).2 hid)) rfl⟩
   show (ES.putE _ _ _).ds=_
   rw [dA,Si]
   show (DS.mk _ (Ki hp (n0+i) (some ob)).get nx).put _ _=_
   rw [Q7];rfl
  | _=>cases h3
 .rw [eM] at h
  replace h:zZ i o.an o.tgt (Fc r.dst) (Uz r.op) ((iH r.op).map Cm) call n0 m ⟨⟨sl,hp,nx⟩,lo,ws,ps⟩=some δ':=h
  unfold zZ at h
  obtain ⟨⟨d,u⟩,h2,h3⟩:=Jt h
  cases u with
  | wr id ob=>
   have h4:Fw (Nat.beq id (n0+o.tgt)&&lo.contains o.tgt&&o.an.contains o.tgt&&Ug (refsL ⟨sl,hp,nx⟩ ((iH r.op).map Cm)) (λr=>Nat.beq r (n0+o.tgt))) (some (⟨(ES.mk sl (Ki hp id (some ob)) nx).putE (Fc r.dst) d,lo,ws,ps⟩:DSt)) none=some δ':=h3
   obtain ⟨h5,h6⟩:=fJ h4
   simp only [Bo,NH] at h5
   obtain ⟨⟨⟨e1,e2⟩,e3⟩,e4⟩:=h5
   have e1:id=n0+o.tgt:=Fg e1
   subst e1
   cases h6
   refine ⟨⟨d,none,some o.tgt,ob,false,λ_=>none,0⟩,.wr ob hw ⟨by omega,by omega,by omega⟩ Lj (UC h2) (λid hid=>Fg (Bi.1 e4 id ((refsL_mem _ _ _).2 hid))) (by simpa using e2) e3 rfl rfl rfl rfl ?_ rfl rfl rfl⟩
   show (ES.putE _ _ _).ds=_
   rw [dA,Si]
   show (DS.mk _ (Ki hp (n0+o.tgt) (some ob)).get nx).put _ _=_
   rw [Q7];rfl
  | _=>cases h3
theorem A94{P:Program}{call:Bg}(hc:Vs P call){n0 m i:Nat}{r:DR}{o:OI}{δ δ':DSt}(Ct:δ.es.ds.Fr)(h:eT i r o call n0 m δ=some δ'):∃ ρ,Sem P n0 m i r o δ δ' ρ:=by
 unfold eT at h
 cases hg:r.g with
 | none=>
  rw [hg] at h
  exact Bj0 hc Ct (by rw [hg];rfl) h
 | some p=>
  obtain ⟨t,b⟩:=p
  rw [hg] at h
  simp only at h
  obtain ⟨c,h1,h2⟩:=Jt h
  rw [Bi8] at h1
  cases c with
  | true=>exact Bj0 hc Ct (by rw [hg];exact h1) h2
  | false=>
   have h3:some (⟨δ.es.putE (Fc r.dst) (.v undef),δ.lo,δ.ws,δ.ps⟩:DSt)=some δ':=h2
   cases h3
   exact ⟨⟨.v undef,none,none,.row 0 [],false,λ_=>none,0⟩,.off (by rw [hg];exact h1) rfl rfl rfl rfl (dA _ _ _) rfl rfl rfl⟩
end Go.DD

/- The evaluator's regions that draw their order: the run in the text's order serves every order. -/
namespace Go.DD
def Xc(rs:List DR)(i:Nat):Nat:=((rs[i]?).map λr=>if (SF rs r.op).isSome then 3 else r.op.kind).getD 0
def Ln(rs:List DR)(r:DR):Nat:=(SF rs r.op).getD 0
def mP(rs:List DR):List Nat:=(List.range rs.length).filter λi=>Xc rs i==2
theorem GL(rs:List DR)(i:Nat):Xc rs i<=3:=by
 unfold Xc
 cases rs[i]? with
 | none=>simp
 | some r=>
  simp only [Cf,Hu]
  split
  .omega
  .have:r.op.kind<=2:=by cases r.op <;> simp [DOp.kind]
   omega
theorem Cd1(rs:List DR)(i:Nat):(((List.range rs.length).map (Xc rs))[i]?).getD 0=Xc rs i:=by
 by_cases h:i<rs.length
 .simp [h]
 .simp [h,Xc]
def ZU(rs:List DR):Bool:=
  (rs.zipIdx.all λ(r,i)=>(r.pre.all λj=>decide (j<i)) &&
   (match r.dst with | some t=>Ua rs t==some i | none=>true) &&
   r.tmps.all λt=>match Ua rs t with | some p=>Es rs i p||Es rs p i||p==i | none=>true) &&
  ((mP rs).all λb=>(mP rs).all λa=>!(decide (a<b))||Es rs b a) &&
  ((rs.zipIdx.map λ(r,i)=>{ an:=Vq rs i,cls:=Xc rs i,tgt:=Ln rs r,wide:=(mP rs).any λq=>!Es rs q i && !Es rs i q:OI }).zipIdx.all λ(o,w)=>o.cls != 3||(Es rs w o.tgt&&(List.range rs.length).all λi=>!Es rs i o.tgt||Es rs i w||Es rs w i||w==i))
theorem UB(rs:List DR):lR rs = { l:=rs.zipIdx.map λ(r,i)=>{ an:=Vq rs i,cls:=Xc rs i,tgt:=Ln rs r,wide:=(mP rs).any λq=>!Es rs q i && !Es rs i q:OI },ok:=ZU rs }:=by
 have e:(λi=>(((List.range rs.length).map (Xc rs))[i]?).getD 0)=Xc rs:=funext λi=>Cd1 rs i
 have e':∀ i,(((List.range rs.length).map (Xc rs))[i]?).getD 0=Xc rs i:=Cd1 rs
 have h:lR rs=(λK:Nat->Nat=>({ l:=rs.zipIdx.map λ(r,i)=>{ an:=Vq rs i,cls:=K i,tgt:=Ln rs r,wide:=((List.range rs.length).filter λi=>K i==2).any λq=>!Es rs q i && !Es rs i q:OI },ok:=
  (rs.zipIdx.all λ(r,i)=>(r.pre.all λj=>decide (j<i)) &&
   (match r.dst with | some t=>Ua rs t==some i | none=>true) &&
   r.tmps.all λt=>match Ua rs t with | some p=>Es rs i p||Es rs p i||p==i | none=>true) &&
  (((List.range rs.length).filter λi=>K i==2).all λb=>((List.range rs.length).filter λi=>K i==2).all λa=>!(decide (a<b))||Es rs b a) &&
  ((rs.zipIdx.map λ(r,i)=>{ an:=Vq rs i,cls:=K i,tgt:=Ln rs r,wide:=((List.range rs.length).filter λi=>K i==2).any λq=>!Es rs q i && !Es rs i q:OI }).zipIdx.all λ(o,w)=>o.cls != 3||(Es rs w o.tgt&&(List.range rs.length).all λi=>!Es rs i o.tgt||Es rs i w||Es rs w i||w==i)) } : RI)) (λi=>(((List.range rs.length).map (Xc rs))[i]?).getD 0):=rfl
 rw [h,e]
 rfl
theorem Bj1{rs:List DR}{i:Nat}{r:DR}(hr:rs[i]?=some r):(lR rs).l[i]?=some { an:=Vq rs i,cls:=Xc rs i,tgt:=Ln rs r,wide:=(mP rs).any λq=>!Es rs q i && !Es rs i q:OI }:=by
 rw [UB]
 simp [Ee,List.getElem?_zipIdx,hr]
theorem B56(rs:List DR):(lR rs).l.length=rs.length:=by rw [UB];simp
theorem A15{α:Type}{l:List α}{i:Nat}{x:α}(h:l[i]?=some x):(x,i)∈l.zipIdx:=by
 rw [List.mem_zipIdx_iff_getElem?];exact h
structure OkI (rs:List DR):Prop where
 pre:∀ (k:Nat) (r:DR),rs[k]?=some r->∀ j∈r.pre,j<k
 dst:∀ (i:Nat) (r:DR) (t:Nat),rs[i]?=some r->r.dst=some t->Ua rs t=some i
 rd:∀ (i:Nat) (r:DR) (t p:Nat),rs[i]?=some r->t∈r.tmps->Ua rs t=some p->Es rs i p=true\/Es rs p i=true\/p=i
 ch:∀ a b,a<rs.length->b<rs.length->Xc rs a=2->Xc rs b=2->a<b->Es rs b a=true
 wr:∀ (w:Nat) (r:DR),rs[w]?=some r->Xc rs w=3->Es rs w (Ln rs r)=true/\∀ i,i<rs.length->Es rs i (Ln rs r)=true->Es rs i w=true\/Es rs w i=true\/w=i
theorem Cx3{rs:List DR}(h:(lR rs).ok=true):OkI rs:=by
 rw [UB] at h
 replace h:ZU rs=true:=h
 unfold ZU at h
 rw [Bo,Bo] at h
 obtain ⟨⟨h1,h2⟩,h3⟩:=h
 have k1:∀ (i:Nat) (r:DR),rs[i]?=some r->_:=λi r hr=>Bi.1 h1 (r,i) (A15 hr)
 simp only [Bo] at k1
 have hm:∀ a,a<rs.length->Xc rs a=2->a∈mP rs:=λa h1 h2=>by simp [mP,h1,h2]
 refine ⟨λk r hr j hj=>?_,λi r t hr ht=>?_,λi r t p hr ht hp=>?_,λa b ha hb ka kb Ez=>?_,λw r hr hk=>?_⟩
 .simpa using Bi.1 (k1 k r hr).1.1 j hj
 .have:=(k1 i r hr).1.2
  rw [ht] at this
  simpa using this
 .have:=Bi.1 (k1 i r hr).2 t ht
  rw [hp] at this
  simp only [Jz,Gm] at this
  rcases this with (h | h) | h
  .exact .inl h
  .exact .inr (.inl h)
  .exact .inr (.inr h)
 .have:=Bi.1 (Bi.1 h2 b (hm b hb kb)) a (hm a ha ka)
  simpa [Ez] using this
 .have hl:=Bj1 hr
  rw [UB] at hl
  have:=Bi.1 h3 _ (A15 hl)
  simp only [hk,Jz,Bo] at this
  rcases this with h | ⟨h4,h5⟩
  .simp at h
  .refine ⟨h4,λi hi kQ=>?_⟩
   have:=Bi.1 h5 i (by simpa using hi)
   simp only [kQ,Hs,Gp,Jz,Gm] at this
   rcases this with (h | h) | h
   .exact .inl h
   .exact .inr (.inl h)
   .exact .inr (.inr h)
theorem A95:∀ (rs:List DR) (acc:List (List Nat)) (k:Nat) (r:DR) (l:List Nat),rs[k]?=some r->(∀ (k:Nat) (r:DR),rs[k]?=some r->∀ j∈r.pre,j<acc.length+k)->(Li rs acc)[acc.length+k]?=some l->
  ∀ x,(x∈r.pre\/∃ j∈r.pre,∃ l',(Li rs acc)[j]?=some l'/\x∈l')->x∈l
 | [],acc,k,r,l,h,_,_=>by simp at h
 | r0::rs,acc,0,r,l,h,hb,hl=>by
  simp at h;subst h
  intro x hx
  have eF:l=(r0.pre++r0.pre.flatMap λj=>(acc[j]?).getD []).eraseDups:=by
   simp only [Li] at hl
   rw [NU rs _ _ (by simp)] at hl
   simpa using hl.symm
  rw [eF,Sp,Aw]
  rcases hx with hx | ⟨j,hj,l',mC,hx⟩
  .exact .inl hx
  .have Wu:j<acc.length:=hb 0 r0 rfl j hj
   refine .inr (Pt.2 ⟨j,hj,?_⟩)
   simp only [Li] at mC
   rw [NU rs _ j (by simp;omega),Cz Wu] at mC
   rw [mC];exact hx
 | r0::rs,acc,k+1,r,l,h,hb,hl=>by
  have key:=A95 rs (acc ++ [(r0.pre++r0.pre.flatMap λj=>(acc[j]?).getD []).eraseDups]) k r l (by simpa using h)
   (λk' r' eA j hj=>by have:=hb (k'+1) r' (by simpa using eA) j hj;simp;omega)
   (by simp only [Li] at hl;rw [<- hl];congr 1;simp;omega)
  simpa only [Li] using key
section
variable {rs:List DR} (hI:OkI rs)
theorem sj{i:Nat}{r:DR}(hr:rs[i]?=some r):(Li rs [])[i]?=some (Vq rs i):=by
 have kS:i<(Li rs []).length:=by rw [SV];have:=(As.1 hr).1;simpa using this
 simp [Vq,Aa kS]
include hI
theorem RZ{i:Nat}{r:DR}(hr:rs[i]?=some r)(x:Nat):Es rs i x=true↔x∈r.pre\/∃ j∈r.pre,Es rs j x=true:=by
 have hb:∀ (k:Nat) (r:DR),rs[k]?=some r->∀ j∈r.pre,j<([]:List (List Nat)).length+k:=λk r' hk j hj=>by have:=hI.pre k r' hk j hj;simp;omega
 have Vf:∀ j∈r.pre,∃ rj,rs[j]?=some rj:=λj hj=>by
  have h1:=hI.pre i r hr j hj
  have h2:=(As.1 hr).1
  exact ⟨rs[j],Aa (by omega)⟩
 constructor
 .intro h
  rcases UF rs [] i r _ hr hb (by simpa using sj hr) x (by simpa [Es] using h) with h | ⟨j,hj,l',eF,hx⟩
  .exact .inl h
  .exact .inr ⟨j,hj,by simp [Es,Vq,eF,hx]⟩
 .intro h
  have:=A95 rs [] i r _ hr hb (by simpa using sj hr) x (by
   rcases h with h | ⟨j,hj,h⟩
   .exact .inl h
   .obtain ⟨rj,PU⟩:=Vf j hj
    exact .inr ⟨j,hj,_,sj PU,by simpa [Es] using h⟩)
  simpa [Es] using this
theorem fD{i j:Nat}(hi:i<rs.length)(h:Es rs i j=true):j<i:=by
 induction i using Nat.strongRecOn with
 | _ i ih=>
  have hr:rs[i]?=some rs[i]:=Aa hi
  rcases (RZ hI hr j).1 h with h | ⟨x,hx,h⟩
  .exact hI.pre i _ hr j h
  .have h1:=hI.pre i _ hr x hx
   have:=ih x h1 (by omega) h
   omega
theorem B57{a b c:Nat}(ha:a<rs.length)(h1:Es rs a b=true)(h2:Es rs b c=true):Es rs a c=true:=by
 induction a using Nat.strongRecOn with
 | _ a ih=>
  have hr:rs[a]?=some rs[a]:=Aa ha
  rcases (RZ hI hr b).1 h1 with h | ⟨x,hx,h⟩
  .exact (RZ hI hr c).2 (.inr ⟨b,h,h2⟩)
  .have PL:=hI.pre a _ hr x hx
   exact (RZ hI hr c).2 (.inr ⟨x,hx,ih x PL (by omega) h⟩)
end
theorem wy:∀ {a b:Value},Qy a b=true->a=b:=by
 intro a b h
 unfold Qy at h
 split at h
 .simpa using h
 .simp only [Bo,Gm] at h;rw [h.1,h.2]
 .rename_i a b
  have h1:a.data.toList=b.data.toList:=by simpa using h
  have h2:a.data=b.data:=Jl.1 h1
  obtain ⟨a⟩:=a;obtain ⟨b⟩:=b
  simp only at h2;rw [h2]
 .rfl
 .simp only [Bo,Gm] at h;rw [h.1,h.2]
 .rfl
 .rfl
 .rfl
 .cases h
theorem X5{f:DV->DV->Bool}(hf:∀ a b,f a b=true->a=b):∀ {a b:List DV},Jo f a b=true->a=b
 | [],[],_=>rfl
 | a::as,b::bs,h=>by
  simp only [Jo,Bo] at h
  rw [hf a b h.1,X5 hf h.2]
 | [],_::_,h=>by cases h
 | _::_,[],h=>by cases h
theorem Bu5{a b:Fn}(h:sn a b=true):a=b:=by
 unfold sn at h
 split at h
 .rw [Gm.1 h]
 .cases h
theorem R8:∀ (n:Nat) (a b:DV),Oz n a b=true->a=b
 | 0,_,_,h=>by cases h
 | n+1,a,b,h=>by
  have ih:=R8 n
  cases a <;> cases b <;> simp only [Oz,Bo,Gm] at h <;> first
   | rfl
   | (cases h;done)
   | (rw [wy h];done)
   | (rw [X5 ih h];done)
   | (rw [h.1,X5 ih h.2];done)
   | (rw [Bu5 h.1,X5 ih h.2];done)
   | (rw [h.1,ih _ _ h.2];done)
   | (rw [h];done)
   | (obtain ⟨⟨⟨h1,h2⟩,h3⟩,h4⟩:=h;rw [h1,h2,h3,h4];done)
   | (obtain ⟨h1,h2⟩:=h;rw [h1,h2];done)
theorem B58{a b:Value}(h:sm a b=true):a=b:=by
 unfold sm at h
 split at h
 .rename_i x y
  have key:∀ l m:List Value,Jo (λx y=>match x,y with | .v x,.v y=>Qy x y | _,_=>false) (l.map .v) (m.map .v)=true->l=m:=by
   intro l
   induction l with
   | nil=>intro m h;cases m with
    | nil=>rfl
    | cons _ _=>simp [Jo] at h
   | cons u l ih=>intro m h;cases m with
    | nil=>simp [Jo] at h
    | cons v m=>
     simp only [Ag,Jo,Bo] at h
     rw [wy h.1,ih m h.2]
  rw [Jl.1 (key _ _ h)]
 .exact wy h
theorem Bj3{n:Nat} : ∀ {a b:List ME},Zt n a b=true->a=b
 | [],[],_=>rfl
 | ⟨k,v,c⟩::a,⟨k',v',c'⟩::b,h=>by
  simp only [Zt,Bo,Gm] at h
  obtain ⟨⟨⟨h1,h2⟩,h3⟩,h4⟩:=h
  rw [B58 h1,R8 n _ _ h2,h3,Bj3 h4]
 | [],_::_,h=>by simp [Zt] at h
 | _::_,[],h=>by simp [Zt] at h
theorem A96:∀ {a b:List Nat},Z7 a b=true->a=b
 | [],[],_=>rfl
 | x::a,y::b,h=>by
  simp only [Z7,Bo,Gm] at h
  rw [h.1,A96 h.2]
 | [],_::_,h=>by simp [Z7] at h
 | _::_,[],h=>by simp [Z7] at h
theorem Bj4{a b:DObj}(h:iM a b=true):a=b:=by
 unfold iM at h
 split at h
 .simp only [Bo,Gm] at h
  rw [h.1,X5 (R8 6) h.2]
 .simp only [Bo,Gm] at h
  rw [h.1,Bj3 h.2]
 .simp only [Bo,Gm] at h
  obtain ⟨⟨⟨h1,h2⟩,h3⟩,h4⟩:=h
  rw [R8 2 _ _ h1,h2,A96 h3,h4]
 .cases h
theorem Bu6{a b:Tr DObj}{id:Nat}(h:sameAt a b id=true):a.get id=b.get id:=by
 unfold sameAt at h
 split at h
 .rename_i h1 h2;rw [h1,h2,Bj4 h]
 .cases h
structure Run (P:Program) (rs:List DR) (s0:DS) (Δ:Nat->DSt) (ρ:Nat->Rec):Prop where
 ok:OkI rs
 fr:s0.Fr
 z:(Δ 0).es.ds=⟨s0.sv,s0.ho,s0.nx+rs.length⟩
 lo0:(Δ 0).lo=[]
 sem:∀ i r o,rs[i]?=some r->(lR rs).l[i]?=some o->Sem P s0.nx rs.length i r o (Δ i) (Δ (i+1)) (ρ i)
 nil:∀ i,rs.length<=i->ρ i=Rec.nil
 look:Qw s0.nx rs.length (Δ rs.length).ws (Δ rs.length).ps=true
theorem Sem.gw{P:Program}{n0 m i:Nat}{r:DR}{o:OI}{δ δ':DSt}{ρ:Rec}(h:Sem P n0 m i r o δ δ' ρ)(hi:i<m)(hn:n0+m<=δ.es.nx):δ.es.nx<=δ'.es.nx/\∀ id,δ.es.ds.ho id=none->δ'.es.ds.ho id≠none->n0<=id/\id<δ'.es.nx:=by
 have nK:∀ {s:DS} {d:DV},δ'.es.ds=s.put r.dst d->δ'.es.nx=s.nx/\δ'.es.ds.ho=s.ho:=λ{s d} h=>by
  have h1:δ'.es.ds.nx=s.nx:=by rw [h,DS.nx_put]
  exact ⟨h1,by rw [h,DS.ho_put]⟩
 have nxd:δ.es.ds.nx=δ.es.nx:=rfl
 cases h with
 | off hw hd hl ht hm he Gg Ms Gy=>
  obtain ⟨e1,e2⟩:=nK he
  rw [e1,e2]
  exact ⟨Ai _,λid h1 h2=>absurd h1 h2⟩
 | read hw Lj hx hl ht hm he Gg Ms Vi Gy=>
  obtain ⟨e1,e2⟩:=nK he
  rw [e1,e2]
  exact ⟨Ai _,λid h1 h2=>absurd h1 h2⟩
 | lay ob hw Lj hx hl ht hm he Gg Ms Vi Gy=>
  obtain ⟨e1,e2⟩:=nK he
  rw [e1,e2]
  refine ⟨Ai _,λid h1 h2=>?_⟩
  simp only [setH] at h2
  split at h2
  .show n0<=id/\id<δ.es.nx;omega
  .exact absurd h1 h2
 | wr ob hw hc Lj hx Rj Ez Kp hl ht kK hm he Gg Ms Gy=>
  obtain ⟨e1,e2⟩:=nK he
  rw [e1,e2]
  refine ⟨Ai _,λid h1 h2=>?_⟩
  simp only [setH] at h2
  split at h2
  .rename_i e
   have:=vu hx
   simp only [DS.hasU] at this
   rw [e] at h1;rw [h1] at this;cases this
  .exact absurd h1 h2
 | main hid hs Sv fM hw hc Lj hx hg hl ht hm he Gg Ms Gy=>
  obtain ⟨e1,e2⟩:=nK he
  rw [e1,e2]
  have hle:δ.es.nx<=ρ.N:=by have:=hg.le;rw [fM] at this;exact this
  refine ⟨hle,λid h1 h2=>?_⟩
  simp only at h2
  split at h2
  .exact absurd h1 h2
  .rename_i hnh
   have:=hg.new id (by rw [fM];simp only;rw [Ad hnh];exact h1) h2
   rw [fM] at this
   have h3:δ.es.nx<=id/\id<ρ.N:=this
   exact ⟨by omega,h3.2⟩
theorem Sem.fr{P:Program}{n0 m i:Nat}{r:DR}{o:OI}{δ δ':DSt}{ρ:Rec}(h:Sem P n0 m i r o δ δ' ρ)(hi:i<m)(hn:n0+m<=δ.es.nx)(Ct:δ.es.ds.Fr):δ'.es.ds.Fr:=λid hid=>by
 obtain ⟨h1,h2⟩:=h.gw hi hn
 have aR3:δ'.es.nx<=id:=hid
 cases h4:δ'.es.ds.ho id with
 | none=>rfl
 | some o=>
  have:=h2 id (Ct id (by show δ.es.nx<=id;omega)) (by rw [h4];simp)
  omega
theorem A97{P:Program}{call:Bg}(hc:Vs P call){n0 m:Nat} : ∀ (rs:List DR) (os:List OI) (i:Nat) (δ δ':DSt),rs.length=os.length->i+rs.length<=m->Qg rs os i call n0 m δ=some δ'->δ.es.ds.Fr->n0+m<=δ.es.nx->
  ∃ (Δ:Nat->DSt) (ρ:Nat->Rec),Δ 0=δ/\Δ rs.length=δ'/\∀ j r o,rs[j]?=some r->os[j]?=some o->Sem P n0 m (i+j) r o (Δ j) (Δ (j+1)) (ρ j)
 | [],os,i,δ,δ',hl,hm,h,Ct,hn=>by
  have h3:some δ=some δ':=by
   cases os <;> exact h
  cases h3
  exact ⟨λ_=>δ,λ_=>Rec.nil,rfl,rfl,λj r o hr=>by simp at hr⟩
 | r::rs,[],i,δ,δ',hl,hm,h,Ct,hn=>by simp at hl
 | r::rs,o::os,i,δ,δ',hl,hm,h,Ct,hn=>by
  have h':dq (eT i r o) (Qg rs os (i+1)) call n0 m δ=some δ':=h
  obtain ⟨δ1,h1,h2⟩:=Jt h'
  obtain ⟨ρ0,hs⟩:=A94 hc Ct h1
  have Uo:i<m:=by simp at hm;omega
  obtain ⟨g1,_⟩:=hs.gw Uo hn
  obtain ⟨Δ,ρ,e1,e2,e3⟩:=A97 hc rs os (i+1) δ1 δ' (by simpa using hl) (by simp at hm;omega) h2 (hs.fr Uo hn Ct) (by omega)
  refine ⟨λj=>match j with | 0=>δ | j+1=>Δ j,λj=>match j with | 0=>ρ0 | j+1=>ρ j,rfl,e2,λj r' o' hr ho=>?_⟩
  cases j with
  | zero=>
   simp at hr ho
   subst hr;subst ho
   show Sem P n0 m (i+0) r o δ (Δ 0) ρ0
   rw [e1];exact hs
  | succ j=>
   have:=e3 j r' o' (by simpa using hr) (by simpa using ho)
   rw [show i+(j+1)=i+1+j by omega]
   exact this
theorem Cx4{P:Program}{call:Bg}(hc:Vs P call){rs:List DR}{es es':ES}(Pq:(lR rs).ok=true)(h:Gq rs.length (Qg rs (lR rs).l 0) call es=some es')(Ct:es.ds.Fr):∃ Δ ρ,Run P rs es.ds Δ ρ/\(Δ rs.length).es=es':=by
 unfold Gq at h
 obtain ⟨δ',h1,h2⟩:=Jt h
 obtain ⟨h3,h4⟩:=fJ h2
 cases h4
 rw [eW,dD] at h1
 obtain ⟨Δ,ρ,e1,e2,e3⟩:=A97 hc rs (lR rs).l 0 _ _ (B56 rs).symm (by omega) h1 (λid hid=>Ct id (by
  have:es.nx+rs.length<=id:=hid
  show es.nx<=id;omega)) (Ai _)
 refine ⟨Δ,λi=>if i<rs.length then ρ i else Rec.nil,⟨Cx3 Pq,Ct,by rw [e1];rfl,by rw [e1],λi r o hr ho=>?_,λi hi=>Ad (by omega),by rw [e2];exact h3⟩,by rw [e2]⟩
 have:=e3 i r o hr ho
 rw [Cp] at this
 rw [Af (As.1 hr).1]
 exact this
end Go.DD

/- The evaluator's regions that draw their order, second part. -/
namespace Go.DD
def iB(f:Nat->Bool)(i:Nat):Nat:=((List.range i).filter f).length
theorem C7(f:Nat->Bool)(i:Nat):iB f (i+1)=iB f i+(if f i=true then 1 else 0):=by
 unfold iB
 rw [Mw,Na,Ap]
 congr 1
 by_cases h:f i=true
 .simp [h]
 .simp [h]
theorem No(f:Nat->Bool){i j:Nat}(h:i<=j):iB f i<=iB f j:=by
 induction h with
 | refl=>exact Ai _
 | step _ ih=>rw [C7];omega
theorem bW(f:Nat->Bool){i j:Nat}(h:i<j)(hf:f i=true):iB f i<iB f j:=by
 have:=No f (Nat.succ_le_of_lt h)
 have h2:=C7 f i
 rw [Af hf] at h2
 have:iB f (i+1)<=iB f j:=this
 omega
theorem Bp2(f:Nat->Bool):∀ (m k q:Nat),((List.range m).filter f)[k]?=some q↔q<m/\f q=true/\iB f q=k:=by
 intro m
 induction m with
 | zero=>intro k q;simp
 | succ m ih=>
  intro k q
  rw [Mw,Na]
  rcases Dd k ((List.range m).filter f).length with h | h
  .rw [Cz h,ih]
   constructor
   .rintro ⟨h1,h2,h3⟩;exact ⟨by omega,h2,h3⟩
   .rintro ⟨h1,h2,h3⟩
    refine ⟨?_,h2,h3⟩
    have:q≠m:=λe=>by subst e;unfold iB at h3;omega
    omega
  .rw [List.getElem?_append_right h]
   by_cases hm:f m=true
   .rw [Wi hm,List.filter_nil]
    constructor
    .intro h1
     have hk:k=((List.range m).filter f).length:=by
      rcases Dd ((List.range m).filter f).length k with h2 | h2
      .rw [Fh (by simp;omega)] at h1;cases h1
      .omega
     subst hk
     simp at h1
     subst h1
     exact ⟨by omega,hm,rfl⟩
    .rintro ⟨h1,h2,h3⟩
     have hq:q=m:=by
      rcases Dd q m with h4 | h4
      .have:=bW f h4 h2
       have e:iB f m=((List.range m).filter f).length:=rfl
       omega
      .omega
     subst hq
     have:k-((List.range q).filter f).length=0:=by unfold iB at h3;omega
     rw [this];rfl
   .rw [Wj hm,List.filter_nil]
    constructor
    .intro h1;simp at h1
    .rintro ⟨h1,h2,h3⟩
     exfalso
     have hq:q≠m:=λe=>hm (by rw [<- e];exact h2)
     have:=bW f (show q<m by omega) h2
     have e:iB f m=((List.range m).filter f).length:=rfl
     omega
def FH(ρ:Nat->Rec)(h0:Nat->Option DObj)(main:List Nat):Nat->Nat->Option DObj
 | 0=>h0
 | k+1=>match main[k]? with
  | some q=>(ρ q).H
  | none=>λ_=>none
def tB(ρ:Nat->Rec)(n:Nat)(main:List Nat):Nat->Nat
 | 0=>n
 | k+1=>match main[k]? with
  | some q=>(ρ q).N
  | none=>tB ρ n main k
def Ew(ρ:Nat->Rec)(s0:DS)(m:Nat):RG where
 d i:=(ρ i).d
 lay i:=(ρ i).lay
 tgt i:=(ρ i).tgt
 ob i:=(ρ i).ob
 main:=(List.range m).filter λi=>(ρ i).mn
 H:=FH ρ s0.ho ((List.range m).filter λi=>(ρ i).mn)
 N:=tB ρ (s0.nx+m) ((List.range m).filter λi=>(ρ i).mn)
def kI(ρ:Nat->Rec)(i:Nat):Nat:=iB (λi=>(ρ i).mn) i
def Lt(i:Nat):Nat->Bool:=λj=>decide (j<i)
section
variable {P:Program} {rs:List DR} {s0:DS} {Δ:Nat->DSt} {ρ:Nat->Rec} (R:Run P rs s0 Δ ρ)
include R
omit R in
theorem main_get{q k m:Nat} : (Ew ρ s0 m).main[k]?=some q↔q<m/\(ρ q).mn=true/\kI ρ q=k:=Bp2 _ _ _ _
omit R in
theorem B59{m:Nat} : (Ew ρ s0 m).main.length=kI ρ m:=rfl
theorem semAt{i:Nat}{r:DR}(hr:rs[i]?=some r):Sem P s0.nx rs.length i r { an:=Vq rs i,cls:=Xc rs i,tgt:=Ln rs r,wide:=(mP rs).any λq=>!Es rs q i && !Es rs i q:OI } (Δ i) (Δ (i+1)) (ρ i):=R.sem i r _ hr (Bj1 hr)
theorem RY{i:Nat}(hi:i<rs.length)(h:(ρ i).mn=true):Xc rs i=2/\(ρ i).lay=none/\(ρ i).tgt=none:=by
 have hr:rs[i]?=some rs[i]:=Aa hi
 cases semAt R hr with
 | off hw hd hl ht hm he Gg Ms Gy=>rw [hm] at h;cases h
 | read hw Lj hx hl ht hm he Gg Ms Vi Gy=>rw [hm] at h;cases h
 | lay ob hw Lj hx hl ht hm he Gg Ms Vi Gy=>rw [hm] at h;cases h
 | wr ob hw hc Lj hx Rj Ez Kp hl ht kK hm he Gg Ms Gy=>rw [hm] at h;cases h
 | main hid hs Sv fM hw hc Lj hx hg hl ht hm he Gg Ms Gy=>exact ⟨hc,hl,ht⟩
theorem si{w j:Nat}(h:(ρ w).tgt=some j):w<rs.length/\Es rs w j=true/\∀ i,i<rs.length->Es rs i j=true->Es rs i w=true\/Es rs w i=true\/w=i:=by
 rcases Dd w rs.length with hi | hi
 .have hr:rs[w]?=some rs[w]:=Aa hi
  cases semAt R hr with
  | off hw hd hl ht hm he Gg Ms Gy=>rw [ht] at h;cases h
  | read hw Lj hx hl ht hm he Gg Ms Vi Gy=>rw [ht] at h;cases h
  | lay ob hw Lj hx hl ht hm he Gg Ms Vi Gy=>rw [ht] at h;cases h
  | wr ob hw hc Lj hx Rj Ez Kp hl ht kK hm he Gg Ms Gy=>
   rw [ht] at h
   have hj:Ln rs rs[w]=j:=Ge h
   have h3:Xc rs w=3:=by
    have h1:=GL rs w
    have h2:Xc rs w≠0/\Xc rs w≠1/\Xc rs w≠2:=hc
    omega
   have:=R.ok.wr w _ hr h3
   rw [hj] at this
   exact ⟨hi,this⟩
  | main hid hs Sv fM hw hc Lj hx hg hl ht hm he Gg Ms Gy=>rw [ht] at h;cases h
 .rw [R.nil w hi] at h;cases h
theorem Vw:∀ i,i<=rs.length->(Ew ρ s0 rs.length).N (kI ρ i)=(Δ i).es.nx/\s0.nx+rs.length<=(Δ i).es.nx/\(Δ i).es.ds.Fr
 | 0,_=>by
  have e:(Δ 0).es.nx=s0.nx+rs.length:=by have:=Mq DS.nx R.z;exact this
  refine ⟨by rw [e];rfl,by rw [e];omega,?_⟩
  rw [R.z]
  intro id hid
  have:s0.nx+rs.length<=id:=hid
  exact R.fr id (by omega)
 | i+1,hi=>by
  obtain ⟨h1,h2,h3⟩:=Vw i (by omega)
  have hr:rs[i]?=some rs[i]:=Aa (by omega)
  have hs:=semAt R hr
  have hg:=hs.gw (by omega) h2
  have hf:=hs.fr (by omega) h2 h3
  refine ⟨?_,by omega,hf⟩
  have same:(ρ i).mn=false->(Δ (i+1)).es.nx=(Δ i).es.nx->(Ew ρ s0 rs.length).N (kI ρ (i+1))=(Δ (i+1)).es.nx:=λh4 h5=>by
   have:kI ρ (i+1)=kI ρ i:=by unfold kI;rw [C7];simp [h4]
   rw [this,h1,h5]
  have nK:∀ {s:DS} {d:DV},(Δ (i+1)).es.ds=s.put rs[i].dst d->(Δ (i+1)).es.nx=s.nx:=λ{s d} h=>by
   have h1:(Δ (i+1)).es.ds.nx=s.nx:=by rw [h,DS.nx_put]
   exact h1
  cases hs with
  | off hw hd hl ht hm he Gg Ms Gy=>exact same hm (nK he)
  | read hw Lj hx hl ht hm he Gg Ms Vi Gy=>exact same hm (nK he)
  | lay ob hw Lj hx hl ht hm he Gg Ms Vi Gy=>exact same hm (nK he)
  | wr ob hw hc Lj hx Rj Ez Kp hl ht kK hm he Gg Ms Gy=>exact same hm (nK he)
  | main hid hs Sv fM hw hc Lj hx hg hl ht hm he Gg Ms Gy=>
   rw [nK he]
   have e:kI ρ (i+1)=kI ρ i+1:=by unfold kI;rw [C7];simp [hm]
   have fc:((List.range rs.length).filter λi=>(ρ i).mn)[kI ρ i]?=some i:=(main_get (s0:=s0)).2 ⟨by omega,hm,rfl⟩
   rw [e]
   show tB ρ _ _ _=_
   simp only [tB,fc]
theorem W8:(Ew ρ s0 rs.length).OKs rs s0 where
 pre:=R.ok.pre
 dst i j r r' t h1 h2 h3 h4:=by
  have e1:=R.ok.dst i r t h1 h3
  have e2:=R.ok.dst j r' t h2 h4
  rw [e1] at e2
  exact Ge e2
 rd:=R.ok.rd
 chain a b i j h1 h2 h3:=by
  obtain ⟨g1,g2,g3⟩:=main_get.1 h1
  obtain ⟨f1,f2,f3⟩:=main_get.1 h2
  have Oy:i<j:=by
   rcases Dd i j with h | h
   .exact h
   .have:kI ρ j<=kI ρ i:=No _ h
    omega
  exact R.ok.ch i j g1 f1 (RY R g1 g2).1 (RY R f1 f2).1 Oy
 mlt a i h:=by
  obtain ⟨g1,g2,g3⟩:=main_get.1 h
  exact ⟨g1,(RY R g1 g2).2⟩
 wr1 w j h:=(si R h).2.1
 wr2 i j w hi hw ha ht:=(si R ht).2.2 i hi ha
 h0:=rfl
 n0:=rfl
 mono k:=by
  cases hm:(Ew ρ s0 rs.length).main[k]? with
  | none=>
   have cH:((List.range rs.length).filter λi=>(ρ i).mn)[k]?=none:=hm
   show tB ρ _ _ k<=tB ρ _ _ (k+1)
   simp only [tB,cH]
   exact Ai _
  | some q=>
   obtain ⟨g1,g2,g3⟩:=main_get.1 hm
   have e1:=Vw R q (by omega)
   have e2:=Vw R (q+1) (by omega)
   have hr:rs[q]?=some rs[q]:=Aa g1
   have:=((semAt R hr).gw g1 e1.2.1).1
   have ek:kI ρ (q+1)=k+1:=by
    have h5:=C7 (λi=>(ρ i).mn) q
    rw [Af g2] at h5
    unfold kI at g3 ⊢
    omega
   rw [<- ek,e2.1,<- g3,e1.1]
   exact this
structure Inv (P:Program) (rs:List DR) (s0:DS) (Δ:Nat->DSt) (ρ:Nat->Rec) (i:Nat):Prop where
 sv:(Δ i).es.ds.sv=(Ew ρ s0 rs.length).sv rs s0 (Lt i)
 ho:(Δ i).es.ds.ho=(Ew ρ s0 rs.length).full rs s0 (Lt i) (kI ρ i)
 lo:∀ j,j∈(Δ i).lo↔j<i/\(ρ j).lay.isSome=true/\(Ew ρ s0 rs.length).pr rs (kI ρ i) j=false
theorem SN{i:Nat}(hi:i<=rs.length):Done rs (Ew ρ s0 rs.length) (Lt i) (kI ρ i) where
 cl i' h1 h2 j h3:=by
  have h4:=fD R.ok h1 h3
  simp only [Lt,Km] at h2 ⊢
  omega
 le:=No _ hi
 mn q j h:=by
  obtain ⟨g1,g2,g3⟩:=main_get.1 h
  simp only [Lt,Km]
  constructor
  .intro h;rw [<- g3];exact bW _ h g2
  .intro h
   rcases Dd j i with h' | h'
   .exact h'
   .have:kI ρ i<=kI ρ j:=No _ h'
    omega
omit R in
theorem Cm3(i:Nat)(j:Nat):Lt (i+1) j=(j==i||Lt i j):=by
 unfold Lt
 by_cases h:j=i
 .subst h;simp
 .have:decide (j<i+1)=decide (j<i):=by simp;omega
  rw [this,Dn.2 h,Gp]
theorem jP{i:Nat}(hi:i<rs.length)(j:Nat)(h:Es rs i j=true):Lt i j=true:=by
 simp only [Lt,Km];exact fD R.ok hi h
omit R in
theorem NG(i:Nat):Lt i i=false:=by simp [Lt]
theorem Cm4{i k:Nat}(hk:k<=kI ρ i):(Ew ρ s0 rs.length).pr rs k i=false:=by
 unfold RG.pr
 rw [List.any_eq_false]
 intro q hq
 obtain ⟨p,hp,rfl⟩:=Bq.1 hq
 rw [Bs] at hp
 have hm:(Ew ρ s0 rs.length).main[p]?=some ((Ew ρ s0 rs.length).main.take k)[p]:=by
  rw [Er];exact Aa (by omega)
 obtain ⟨g1,g2,g3⟩:=main_get.1 hm
 intro ha
 have h1:=fD R.ok g1 ha
 have h2:kI ρ i<kI ρ ((Ew ρ s0 rs.length).main.take k)[p]\/kI ρ i<=kI ρ ((Ew ρ s0 rs.length).main.take k)[p]:=.inr (No _ (Nat.le_of_lt h1))
 omega
theorem seen{i:Nat}(hi:i<rs.length)(I:Inv P rs s0 Δ ρ i)(id:Nat):((Ew ρ s0 rs.length).st rs s0 i (kI ρ i)).ho id=if ∃ j∈(Δ i).lo.filter (λj=>!(Vq rs i).contains j),id=s0.nx+j then none else (Δ i).es.ds.ho id:=by
 have hr:rs[i]?=some rs[i]:=Aa hi
 have hv:=vf (D:=Ew ρ s0 rs.length) (rs:=rs) (s0:=s0) (L:=Lt i) (k:=kI ρ i) (W8 R) (SN R (by omega)) hr (NG i) (jP R hi) id
 show (Ew ρ s0 rs.length).full rs s0 (Es rs i) (kI ρ i) id=_
 rw [hv,I.ho]
 cases hu:(Ew ρ s0 rs.length).unp rs s0 (kI ρ i) id with
 | none=>
  rw [Ad]
  rintro ⟨j,hj,e⟩
  rw [Ey,I.lo] at hj
  obtain ⟨⟨h1,h2,h3⟩,_⟩:=hj
  have:(Ew ρ s0 rs.length).unp rs s0 (kI ρ i) id=some j:=by
   unfold RG.unp
   have e':id-s0.nx=j:=by omega
   rw [e',Af ⟨by omega,by omega,h2,h3⟩]
  rw [hu] at this;cases this
 | some j=>
  obtain ⟨e1,e2,e3,e4⟩:=cZ hu
  simp only
  by_cases ha:Es rs i j=true
  .rw [Af ha,Ad]
   rintro ⟨j',hj,e⟩
   have:j'=j:=by omega
   subst this
   have h1:=(Ey.1 hj).2
   have h2:(Vq rs i).contains j'=true:=ha
   rw [h2] at h1;cases h1
  .rw [Ad ha]
   rcases Dd j i with Nu | Nu
   .rw [Af]
    refine ⟨j,Ey.2 ⟨(I.lo j).2 ⟨Nu,e3,e4⟩,?_⟩,e1⟩
    have h2:¬ (Vq rs i).contains j=true:=ha
    simpa using h2
   .have eC:(Ew ρ s0 rs.length).full rs s0 (Lt i) (kI ρ i) id=none:=by
     unfold RG.full
     rw [hu]
     have:Lt i j=false:=by simp [Lt];omega
     simp [this]
    rw [eC]
    split <;> rfl
theorem B60{i:Nat}(hi:i<rs.length)(I:Inv P rs s0 Δ ρ i):Inv P rs s0 Δ ρ (i+1):=by
 have hr:rs[i]?=some rs[i]:=Aa hi
 have Ih:=W8 R
 have hD:=SN R (Nat.le_of_lt hi)
 have Kp:=jP R hi
 have Nw:=Cm3 i
 have hs:=semAt R hr
 have aA:(ρ i).mn=false->kI ρ (i+1)=kI ρ i:=λh4=>by unfold kI;rw [C7];simp [h4]
 have fin:∀ {ho:Nat->Option DObj} {nx:Nat},(Δ (i+1)).es.ds=(⟨(Δ i).es.ds.sv,ho,nx⟩:DS).put rs[i].dst (ρ i).d->ho=(Ew ρ s0 rs.length).full rs s0 (Lt (i+1)) (kI ρ (i+1))->
   (∀ j,j∈(Δ (i+1)).lo↔j<i+1/\(ρ j).lay.isSome=true/\(Ew ρ s0 rs.length).pr rs (kI ρ (i+1)) j=false)->Inv P rs s0 Δ ρ (i+1):=λ{ho nx} h1 h2 h3=>by
  obtain ⟨e1,e2⟩:=Bt2 (D:=Ew ρ s0 rs.length) (L:=Lt i) (L':=Lt (i+1)) Ih hr Nw (kI ρ (i+1)) ⟨(Δ i).es.ds.sv,ho,nx⟩ I.sv h2
  exact ⟨by rw [h1];exact e1.symm,by rw [h1];exact e2.symm,h3⟩
 have gF:(ρ i).mn=false->(ρ i).lay=none->(Δ (i+1)).lo=(Δ i).lo->∀ j,j∈(Δ (i+1)).lo↔j<i+1/\(ρ j).lay.isSome=true/\(Ew ρ s0 rs.length).pr rs (kI ρ (i+1)) j=false:=λh1 h2 h3 j=>by
  rw [h3,aA h1,I.lo]
  constructor
  .rintro ⟨g1,g2⟩;exact ⟨by omega,g2⟩
  .rintro ⟨g1,g2,g3⟩
   refine ⟨?_,g2,g3⟩
   have:j≠i:=λe=>by rw [e,h2] at g2;cases g2
   omega
 cases hs with
 | off hw hd hl ht hm he Gg Ms Gy=>
  refine fin (ho:=(Δ i).es.ds.ho) (nx:=(Δ i).es.ds.nx) (by rw [hd];exact he) ?_ (gF hm hl Gg)
  rw [aA hm,I.ho]
  exact (TD (D:=Ew ρ s0 rs.length) (L:=Lt i) (L':=Lt (i+1)) (i:=i) Nw hl ht).symm
 | read hw Lj hx hl ht hm he Gg Ms Vi Gy=>
  refine fin (ho:=(Δ i).es.ds.ho) (nx:=(Δ i).es.ds.nx) he ?_ (gF hm hl Gg)
  rw [aA hm,I.ho]
  exact (TD (D:=Ew ρ s0 rs.length) (L:=Lt i) (L':=Lt (i+1)) (i:=i) Nw hl ht).symm
 | lay ob hw Lj hx hl ht hm he Gg Ms Vi Gy=>
  refine fin he ?_ λj=>?_
  .rw [aA hm,I.ho]
   exact (Bi4 (D:=Ew ρ s0 rs.length) (L:=Lt i) (L':=Lt (i+1)) Ih hD hr (NG i) Nw hl ht).symm
  .rw [Gg,Aq,aA hm,I.lo]
   constructor
   .rintro (rfl | ⟨g1,g2⟩)
    .exact ⟨by omega,by rw [hl];rfl,Cm4 R (Ai _)⟩
    .exact ⟨by omega,g2⟩
   .rintro ⟨g1,g2⟩
    by_cases Nu:j=i
    .exact .inl Nu
    .exact .inr ⟨by omega,g2⟩
 | wr ob hw hc Lj hx Rj Ez uA hl ht kK hm he Gg Ms Gy=>
  refine fin he ?_ (gF hm hl Gg)
  obtain ⟨g1,g2,g3⟩:=(I.lo _).1 Ez
  have hu:(Ew ρ s0 rs.length).unp rs s0 (kI ρ i) (s0.nx+Ln rs rs[i])=some (Ln rs rs[i]):=by
   unfold RG.unp
   have g1':Ln rs rs[i]<i:=g1
   have e':s0.nx+Ln rs rs[i]-s0.nx=Ln rs rs[i]:=by omega
   rw [e',Af ⟨by omega,by omega,g2,g3⟩]
  rw [aA hm,I.ho,<- kK]
  exact (Bt3 (D:=Ew ρ s0 rs.length) (L:=Lt i) (L':=Lt (i+1)) Ih hD hr (NG i) Kp Nw hu uA ht hl).symm
 | main hid hs Sv fM hw hc Lj hx hg hl ht hm he Gg Ms Gy=>
  have yT:(Ew ρ s0 rs.length).main[kI ρ i]?=some i:=main_get.2 ⟨hi,hm,rfl⟩
  have hk:kI ρ (i+1)=kI ρ i+1:=by unfold kI;rw [C7];simp [hm]
  have hH:(Ew ρ s0 rs.length).H (kI ρ i+1)=(ρ i).H:=by
   have:((List.range rs.length).filter λi=>(ρ i).mn)[kI ρ i]?=some i:=yT
   show FH ρ s0.ho ((List.range rs.length).filter λi=>(ρ i).mn) (kI ρ i+1)=_
   simp only [FH,this]
  have Um:=Vw R i (by omega)
  have Lr:∀ j,j∈hid↔j∈(Δ i).lo/\Es rs i j=false:=λj=>by
   rw [Sv,Ey]
   show _/\(!(Es rs i j))=true↔_
   simp
  refine fin he ?_ λj=>?_
  .funext id
   rw [hk,vg (D:=Ew ρ s0 rs.length) (L:=Lt i) (L':=Lt (i+1)) Nw yT hl ht id,hH]
   cases hu:(Ew ρ s0 rs.length).unp rs s0 (kI ρ i) id with
   | none=>
    simp only
    rw [Ad]
    rintro ⟨j,hj,e⟩
    obtain ⟨h1,h2,h3⟩:=(I.lo j).1 ((Lr j).1 hj).1
    have:(Ew ρ s0 rs.length).unp rs s0 (kI ρ i) id=some j:=by
     unfold RG.unp
     have e':id-s0.nx=j:=by omega
     rw [e',Af ⟨by omega,by omega,h2,h3⟩]
    rw [hu] at this;cases this
   | some j=>
    obtain ⟨e1,e2,e3,e4⟩:=cZ hu
    simp only
    by_cases ha:Es rs i j=true
    .rw [Af ha,Ad]
     rintro ⟨j',hj,e⟩
     have:j'=j:=by omega
     subst this
     rw [((Lr j').1 hj).2] at ha;cases ha
    .rw [Ad ha]
     have Yd:(Ew ρ s0 rs.length).full rs s0 (Lt i) (kI ρ i) id=if Lt i j=true then (Ew ρ s0 rs.length).cur rs (Lt i) j else none:=by
      unfold RG.full;rw [hu]
     rcases Dd j i with Nu | Nu
     .rw [Af ⟨j,(Lr j).2 ⟨(I.lo j).2 ⟨Nu,e3,e4⟩,by simpa using ha⟩,e1⟩,I.ho,Yd]
     .have gY:Lt i j=false:=by simp [Lt];omega
      rw [gY]
      rw [gY] at Yd
      simp only [Eh,Ib] at Yd ⊢
      rw [Ad (λ⟨j',hj,e⟩=>by
       have:j'=j:=by omega
       subst this
       have:=((I.lo j').1 ((Lr j').1 hj).1).1
       omega)]
      cases hx:(ρ i).H id with
      | none=>rfl
      | some x=>
       exfalso
       have hn:hs.ho id=none:=by
        rw [fM]
        simp only
        rw [I.ho,Yd]
        split <;> rfl
       have:=(hg.new id hn (by show (ρ i).H id≠none;rw [hx];simp)).1
       rw [fM] at this
       have h7:(Δ i).es.nx<=id:=this
       have:=Um.2.1
       omega
  .rw [Gg,Lr,I.lo,hk,NI yT,Ld]
   constructor
   .rintro ⟨⟨g1,g2,g3⟩,g4⟩;exact ⟨by omega,g2,g3,g4⟩
   .rintro ⟨g1,g2,g3,g4⟩
    have:j≠i:=λe=>by rw [e,hl] at g2;cases g2
    exact ⟨⟨by omega,g2,g3⟩,g4⟩
theorem C3:∀ i,i<=rs.length->Inv P rs s0 Δ ρ i
 | 0,_=>by
  refine ⟨?_,?_,λj=>by rw [R.lo0];simp⟩
  .funext t
   rw [R.z]
   show s0.sv t=RG.sv rs s0 _ _ t
   unfold RG.sv
   split
   .simp [Lt]
   .rfl
  .funext id
   rw [R.z]
   show s0.ho id=RG.full rs s0 _ _ _ id
   unfold RG.full
   cases hu:(Ew ρ s0 rs.length).unp rs s0 (kI ρ 0) id with
   | none=>rfl
   | some j=>
    have:=cZ hu
    simp [Lt]
    exact R.fr id (by omega)
 | i+1,hi=>B60 R (by omega) (C3 i (by omega))
end
end Go.DD

/- The evaluator's regions that draw their order, third part: the theorem. -/
namespace Go.DD
theorem Cx5{s:DS}{op:DOp}{x:Operand}(hx:x∈op.opnds){id:Nat}(h:id∈(s.ev x).refs):fG s op id:=by
 cases x with
 | tmp t=>
  simp only [DS.ev] at h
  split at h
  .exact ⟨t,hx,h⟩
  .simp [DV.refs] at h
 | const x=>simp only [DS.ev] at h;rw [R6] at h;cases h
 | func f=>simp [DS.ev,DV.refs,DV.refsL] at h
 | global g=>simp only [DS.ev] at h;rw [Bg7] at h;cases h
def HoEq(c:Bool)(a b:Option DObj):Prop:=if c=true then a=b else a.isSome=b.isSome
theorem HoEq.of{c:Bool}{a b:Option DObj}(h:a=b):HoEq c a b:=by
 unfold HoEq;subst h;split <;> rfl
theorem HoEq.some{c:Bool}{a b:Option DObj}(h:HoEq c a b):a.isSome=b.isSome:=by
 unfold HoEq at h;split at h
 .rw [h]
 .exact h
theorem HoEq.symm{c:Bool}{a b:Option DObj}(h:HoEq c a b):HoEq c b a:=by
 unfold HoEq at *
 split at h
 .rename_i hc;rw [Af hc];exact h.symm
 .rename_i hc;rw [Ad hc];exact h.symm
theorem HoEq.trans{c:Bool}{a b d:Option DObj}(h:HoEq c a b)(h':HoEq c b d):HoEq c a d:=by
 unfold HoEq at *
 split at h
 .rename_i hc;rw [Af hc] at h' ⊢;exact h.trans h'
 .rename_i hc;rw [Ad hc] at h' ⊢;exact h.trans h'
theorem look_eq{c:Bool}{a b:Tr DObj}{id:Nat}(h:(if c=true then sameAt a b id else uM a b id)=true):HoEq c (a.get id) (b.get id):=by
 unfold HoEq
 split at h
 .rename_i hc;rw [Af hc];exact Bu6 h
 .rename_i hc;rw [Ad hc];unfold uM at h;simpa using h
theorem Bj6{op:DOp}{s s':DS}(oC:∀ t,.tmp t∈op.opnds->s'.sv t=s.sv t)(iZ:∀ id,fG s op id->HoEq op.rdC (s'.ho id) (s.ho id)):Agree op s s':=by
 refine ⟨λx hx=>?_,λx hx=>?_,λhc x hx id hid=>(by have:=iZ id (Cx5 hx hid);unfold HoEq at this;rwa [Af hc] at this)⟩
 .cases x with
  | tmp t=>
   have h1:=oC t hx
   have h2:s'.live (s'.sv t)=s.live (s.sv t):=by
    rw [h1]
    unfold DS.live
    rw [Yr,Bi,Bi]
    constructor
    .intro h id hid;rw [<- (iZ id ⟨t,hx,hid⟩).some];exact h id hid
    .intro h id hid;rw [(iZ id ⟨t,hx,hid⟩).some];exact h id hid
   simp only [DS.ev]
   rw [h2,h1]
  | _=>rfl
 .cases x with
  | tmp t=>exact oC t hx
  | _=>rfl
section
variable {P:Program} {rs:List DR} {s0:DS} {Δ:Nat->DSt} {ρ:Nat->Rec} (R:Run P rs s0 Δ ρ)
include R
theorem Cm5{i:Nat}(hi:i<rs.length):(∀ w∈(Δ i).ws,w∈(Δ (i+1)).ws)/\(∀ p∈(Δ i).ps,p∈(Δ (i+1)).ps):=by
 cases semAt R (Aa hi) with
 | off hw hd hl ht hm he Gg Ms Gy=>rw [Ms,Gy];exact ⟨λ_ h=>h,λ_ h=>h⟩
 | read hw Lj hx hl ht hm he Gg Ms Vi Gy=>rw [Gy];exact ⟨Ms,λ_ h=>h⟩
 | lay ob hw Lj hx hl ht hm he Gg Ms Vi Gy=>rw [Gy];exact ⟨Ms,λ_ h=>h⟩
 | wr ob hw hc Lj hx Rj Ez Kp hl ht kK hm he Gg Ms Gy=>rw [Ms,Gy];exact ⟨λ_ h=>h,λ_ h=>h⟩
 | main hid hs Sv fM hw hc Lj hx hg hl ht hm he Gg Ms Gy=>rw [Ms,Gy];exact ⟨λ_ h=>h,λ_ h=>Be _ h⟩
theorem Cd2{i j:Nat}(h:i<=j)(hj:j<=rs.length):(∀ w∈(Δ i).ws,w∈(Δ j).ws)/\(∀ p∈(Δ i).ps,p∈(Δ j).ps):=by
 induction h with
 | refl=>exact ⟨λ_ h=>h,λ_ h=>h⟩
 | @step j h ih=>
  obtain ⟨h1,h2⟩:=ih (by have:j+1<=rs.length:=hj;omega)
  obtain ⟨h3,h4⟩:=Cm5 R (i:=j) hj
  exact ⟨λw hw=>h3 w (h1 w hw),λp hp=>h4 p (h2 p hp)⟩
theorem Cm6{q:Nat}(hq:q<rs.length)(hm:(ρ q).mn=true):(⟨q,Vq rs q,(Δ q).es.hp,(Δ (q+1)).es.hp⟩:Past)∈(Δ rs.length).ps:=by
 refine (Cd2 R (i:=q+1) (by omega) (Ai _)).2 _ ?_
 cases semAt R (Aa hq) with
 | off hw hd hl ht cH he Gg Ms Gy=>rw [hm] at cH;cases cH
 | read hw Lj hx hl ht cH he Gg Ms Vi Gy=>rw [hm] at cH;cases cH
 | lay ob hw Lj hx hl ht cH he Gg Ms Vi Gy=>rw [hm] at cH;cases cH
 | wr ob hw hc Lj hx Rj Ez Kp hl ht kK cH he Gg Ms Gy=>rw [hm] at cH;cases cH
 | main hid hs Sv fM hw hc Lj hx hg hl ht cH he Gg Ms Gy=>rw [Gy];exact Dv ..
theorem mZ{i:Nat}{r:DR}(hr:rs[i]?=some r)(k:Nat){t:Nat}(ht:t∈r.tmps):((Ew ρ s0 rs.length).st rs s0 i k).sv t=(Δ i).es.ds.sv t:=by
 have hi:=(As.1 hr).1
 have I:=C3 R i (by omega)
 rw [I.sv]
 exact (SB (D:=Ew ρ s0 rs.length) (L:=Lt i) (k:=kI ρ i) (W8 R) (SN R (by omega)) hr (NG i) (jP R hi) t ht).symm
omit R in
theorem Bj7{r:DR}{t:Nat}(h : .tmp t∈r.op.opnds):t∈r.tmps:=by
 simp only [DR.tmps,Aw,Gn]
 exact .inl ⟨_,h,rfl⟩
theorem BR{i:Nat}{r:DR}(hr:rs[i]?=some r){id:Nat}(h:uL s0.nx rs.length (Vq rs i) (Δ i).es.ds id):((Ew ρ s0 rs.length).st rs s0 i (kI ρ i)).ho id=(Δ i).es.ds.ho id:=by
 have hi:=(As.1 hr).1
 have I:=C3 R i (by omega)
 rw [seen R hi I,Ad]
 rintro ⟨j,hj,e⟩
 have h1:=(Ey.1 hj)
 have h2:=(I.lo j).1 h1.1
 rcases h.2 with h3 | h3 | h3
 .omega
 .omega
 .have:id-s0.nx=j:=by omega
  rw [this] at h3
  have h4:=h1.2
  rw [h3] at h4;cases h4
theorem B61{i:Nat}{r:DR}(hr:rs[i]?=some r){id:Nat}(Vi:((mP rs).any λq=>!Es rs q i && !Es rs i q)=true->(⟨i,Vq rs i,id,(Δ i).lo.contains (id-s0.nx),r.op.rdC⟩:Look)∈(Δ (i+1)).ws)
  {q p:Nat} (hq:(Ew ρ s0 rs.length).main[q]?=some p) (h1:Es rs p i=false) (h2:Es rs i p=false) :
  HoEq r.op.rdC (((Ew ρ s0 rs.length).st rs s0 i (q+1)).ho id) (((Ew ρ s0 rs.length).st rs s0 i q).ho id):=by
 have hi:=(As.1 hr).1
 obtain ⟨g1,g2,g3⟩:=main_get.1 hq
 have iQ:((mP rs).any λq=>!Es rs q i && !Es rs i q)=true:=by
  rw [Wl]
  exact ⟨p,by simp [mP,g1,(RY R g1 g2).1],by simp [h1,h2]⟩
 have hl:=(Cd2 R (i:=i+1) (by omega) (Ai _)).1 _ (Vi iQ)
 have hp:=Cm6 R g1 g2
 have Pq:=Bi.1 (Bi.1 R.look _ hl) _ hp
 simp only at Pq
 have e1:(Vq rs i).contains p=false:=h2
 have e2:(Vq rs p).contains i=false:=h1
 rw [e1,e2,Gp,Gp] at Pq
 have hkp:kI ρ (p+1)=q+1:=by
  have h5:=C7 (λi=>(ρ i).mn) p
  rw [Af g2] at h5
  unfold kI at g3 ⊢
  omega
 split at Pq
 .rename_i Lq
  have Lq:id<s0.nx\/s0.nx+rs.length<=id:=by
   rw [Jz] at Lq
   rcases Lq with h | h
   .exact .inl (by simpa [Lb] using h)
   .exact .inr (by simpa [Sn] using h)
  have hu:∀ k,(Ew ρ s0 rs.length).unp rs s0 k id=none:=λk=>by
   unfold RG.unp
   rw [Ad (λhc=>by omega)]
  have hf:∀ L k,(Ew ρ s0 rs.length).full rs s0 L k id=(Ew ρ s0 rs.length).H k id:=λL k=>by
   unfold RG.full;rw [hu]
  show HoEq _ ((Ew ρ s0 rs.length).full rs s0 _ _ id) ((Ew ρ s0 rs.length).full rs s0 _ _ id)
  rw [hf,hf]
  have hs:=look_eq Pq
  have i1:=congrFun (C3 R p (by omega)).ho id
  have i2:=congrFun (C3 R (p+1) (by omega)).ho id
  rw [hf] at i1 i2
  rw [g3] at i1
  rw [hkp] at i2
  rw [<- i1,<- i2]
  exact hs.symm
 .rename_i cO
  rw [Bo] at Pq
  have tS:s0.nx<=id/\id<s0.nx+rs.length:=by
   rw [Jz] at cO
   refine ⟨?_,?_⟩
   .rcases Dd id s0.nx with h | h
    .exact absurd (.inl (by simpa [Lb] using h)) cO
    .exact h
   .rcases Dd id (s0.nx+rs.length) with h | h
    .exact h
    .exact absurd (.inr (by simpa [Sn] using h)) cO
  have Gg:id-s0.nx∈(Δ i).lo:=by simpa using Pq.1
  obtain ⟨l1,l2,l3⟩:=((C3 R i (by omega)).lo _).1 Gg
  have oM:Es rs p (id-s0.nx)=false:=by
   have:(!(Es rs p (id-s0.nx)))=true:=Pq.2
   simpa using this
  have kH:(Ew ρ s0 rs.length).pr rs q (id-s0.nx)=false:=by
   unfold RG.pr
   rw [List.any_eq_false]
   intro x hx
   obtain ⟨n,hn,rfl⟩:=Bq.1 hx
   rw [Bs] at hn
   have hm:(Ew ρ s0 rs.length).main[n]?=some ((Ew ρ s0 rs.length).main.take q)[n]:=by
    rw [Er];exact Aa (by omega)
   have Yf:=(W8 R).chain n q _ _ hm hq (by omega)
   intro h
   have:=B57 R.ok g1 Yf h
   rw [oM] at this;cases this
  have hu1:(Ew ρ s0 rs.length).unp rs s0 q id=some (id-s0.nx):=by
   unfold RG.unp
   rw [Af ⟨tS.1,tS.2,l2,kH⟩]
  have hu2:(Ew ρ s0 rs.length).unp rs s0 (q+1) id=some (id-s0.nx):=by
   unfold RG.unp
   rw [Af ⟨tS.1,tS.2,l2,by rw [NI hq,kH,oM];rfl⟩]
  refine HoEq.of ?_
  show (Ew ρ s0 rs.length).full rs s0 _ _ id=(Ew ρ s0 rs.length).full rs s0 _ _ id
  unfold RG.full
  rw [hu1,hu2]
theorem Ay4{i:Nat}(hi:i<rs.length){k:Nat}(h:(Ew ρ s0 rs.length).may rs i k){q p:Nat}(hq:(Ew ρ s0 rs.length).main[q]?=some p)(hb:(kI ρ i<=q/\q<k)\/(k<=q/\q<kI ρ i)):Es rs p i=false/\Es rs i p=false:=by
 obtain ⟨g1,g2,g3⟩:=main_get.1 hq
 rcases hb with ⟨h1,h2⟩ | ⟨h1,h2⟩
 .refine ⟨h.2.1 q p h2 hq,?_⟩
  cases hx:Es rs i p with
  | false=>rfl
  | true=>
   have h3:=fD R.ok hi hx
   have:kI ρ p<kI ρ i:=bW _ h3 g2
   omega
 .refine ⟨?_,h.2.2 q p h1 hq⟩
  cases hx:Es rs p i with
  | false=>rfl
  | true=>
   have h3:=fD R.ok g1 hx
   have:kI ρ i<=kI ρ p:=No _ (by omega)
   omega
omit R in
theorem Be1{c:Bool}{f:Nat->Option DObj}{a b:Nat}(mI:a<=b)(h:∀ q,a<=q->q<b->HoEq c (f (q+1)) (f q)):HoEq c (f b) (f a):=by
 induction mI with
 | refl=>exact HoEq.of rfl
 | @step m hm ih=>
  exact (h m hm (Fq m)).trans (ih λq h1 h2=>h q h1 (by omega))
theorem xn{i:Nat}{r:DR}(hr:rs[i]?=some r){id:Nat}(Vi:((mP rs).any λq=>!Es rs q i && !Es rs i q)=true->(⟨i,Vq rs i,id,(Δ i).lo.contains (id-s0.nx),r.op.rdC⟩:Look)∈(Δ (i+1)).ws)
  {k:Nat} (h:(Ew ρ s0 rs.length).may rs i k):HoEq r.op.rdC (((Ew ρ s0 rs.length).st rs s0 i k).ho id) (((Ew ρ s0 rs.length).st rs s0 i (kI ρ i)).ho id):=by
 have hi:=(As.1 hr).1
 have Pc:∀ q,(kI ρ i<=q/\q<k)\/(k<=q/\q<kI ρ i)->HoEq r.op.rdC (((Ew ρ s0 rs.length).st rs s0 i (q+1)).ho id) (((Ew ρ s0 rs.length).st rs s0 i q).ho id):=λq hb=>by
  have hql:q<(Ew ρ s0 rs.length).main.length:=by
   have h1:=h.1
   have h2:kI ρ i<=(Ew ρ s0 rs.length).main.length:=No _ (Nat.le_of_lt hi)
   omega
  have hq:=Aa hql
  obtain ⟨h1,h2⟩:=Ay4 R hi h hq hb
  exact B61 R hr Vi hq h1 h2
 rcases Nat.le_total (kI ρ i) k with hle | hle
 .exact Be1 (f:=λq=>((Ew ρ s0 rs.length).st rs s0 i q).ho id) hle λq h1 h2=>Pc q (.inl ⟨h1,h2⟩)
 .exact (Be1 (f:=λq=>((Ew ρ s0 rs.length).st rs s0 i q).ho id) hle λq h1 h2=>Pc q (.inr ⟨h1,h2⟩)).symm
theorem Bu8{i:Nat}{r:DR}(hr:rs[i]?=some r)(Lj:∀ id,fG (Δ i).es.ds r.op id->uL s0.nx rs.length (Vq rs i) (Δ i).es.ds id){k:Nat}(hk:∀ id,fG (Δ i).es.ds r.op id->HoEq r.op.rdC (((Ew ρ s0 rs.length).st rs s0 i k).ho id) (((Ew ρ s0 rs.length).st rs s0 i (kI ρ i)).ho id)) :
  Sd ((Ew ρ s0 rs.length).st rs s0 i k) r/\Agree r.op (Δ i).es.ds ((Ew ρ s0 rs.length).st rs s0 i k):=by
 have oC:∀ t,.tmp t∈r.op.opnds->((Ew ρ s0 rs.length).st rs s0 i k).sv t=(Δ i).es.ds.sv t:=λt ht=>mZ R hr k (Bj7 ht)
 have iZ:∀ id,fG (Δ i).es.ds r.op id->HoEq r.op.rdC (((Ew ρ s0 rs.length).st rs s0 i k).ho id) ((Δ i).es.ds.ho id):=λid hid=>(hk id hid).trans (HoEq.of (BR R hr (Lj id hid)))
 refine ⟨λt ht=>?_,Bj6 oC iZ⟩
 rw [oC t ht]
 unfold DS.live
 rw [Bi]
 intro id hid
 rw [(iZ id ⟨t,ht,hid⟩).some]
 exact (Lj id ⟨t,ht,hid⟩).1
theorem Cx6(i:Nat)(r:DR)(hr:rs[i]?=some r):(Ew ρ s0 rs.length).ev rs s0 P i r:=by
 have hi:=(As.1 hr).1
 have I:=C3 R i (by omega)
 have HF:((Ew ρ s0 rs.length).st rs s0 i 0).wanted r.g=(Δ i).es.ds.wanted r.g:=by
  unfold DS.wanted
  cases hg:r.g with
  | none=>rfl
  | some p=>
   obtain ⟨t,b⟩:=p
   have:=mZ R hr 0 (t:=t) (by simp [DR.tmps,hg])
   simp only [this]
 have T5:(ρ i).mn=false->i∉(Ew ρ s0 rs.length).main:=λh Lr=>by
  obtain ⟨k,hk⟩:=List.mem_iff_getElem?.1 Lr
  have:=(main_get.1 hk).2.1
  rw [h] at this;cases this
 unfold RG.ev
 rw [HF]
 have hs:=semAt R hr
 have sW:∀ {nid:Nat} {d:DV} {u:Upd},Ay nid (Δ i).es.ds r.op=some (d,u)->(∀ f args,r.op≠.call f args)/\∀ tb x args,r.op≠.cv tb x args:=λ{nid d u} h=>⟨λf args e=>(by rw [e] at h;cases h),λtb x args e=>(by rw [e] at h;cases h)⟩
 have bE:∀ {u0:Upd},(ρ i).mn=false->(Δ i).es.ds.wanted r.g=some true->Ay (s0.nx+i) (Δ i).es.ds r.op=some ((ρ i).d,u0)->(∀ id,fG (Δ i).es.ds r.op id->uL s0.nx rs.length (Vq rs i) (Δ i).es.ds id)->
   (∀ k,(Ew ρ s0 rs.length).may rs i k->(∀ id,fG (Δ i).es.ds r.op id->HoEq r.op.rdC (((Ew ρ s0 rs.length).st rs s0 i k).ho id) (((Ew ρ s0 rs.length).st rs s0 i (kI ρ i)).ho id))/\match u0 with
     | .keep=>(ρ i).lay=none/\(ρ i).tgt=none
     | .lay o=>(ρ i).lay=some o/\(ρ i).tgt=none
     | .wr id o=>∃ j,(Ew ρ s0 rs.length).unp rs s0 k id=some j/\Es rs i j=true/\(ρ i).tgt=some j/\(ρ i).ob=o/\(ρ i).lay=none
     | _=>False)->(Ew ρ s0 rs.length).ev rs s0 P i r:=λ{u0} hm hw hx Lj hk=>by
  have kP:=sW hx
  unfold RG.ev
  rw [HF,hw]
  simp only
  have key:∀ k,(Ew ρ s0 rs.length).may rs i k->Sd ((Ew ρ s0 rs.length).st rs s0 i k) r/\∃ u,Ay (s0.nx+i) ((Ew ρ s0 rs.length).st rs s0 i k) r.op=some ((Ew ρ s0 rs.length).d i,u)/\match u with
     | .keep=>(Ew ρ s0 rs.length).lay i=none/\(Ew ρ s0 rs.length).tgt i=none
     | .lay o=>(Ew ρ s0 rs.length).lay i=some o/\(Ew ρ s0 rs.length).tgt i=none
     | .wr id o=>∃ j,(Ew ρ s0 rs.length).unp rs s0 k id=some j/\Es rs i j=true/\(Ew ρ s0 rs.length).tgt i=some j/\(Ew ρ s0 rs.length).ob i=o/\(Ew ρ s0 rs.length).lay i=none
     | _=>False:=λk Wt=>by
   obtain ⟨h1,h2⟩:=hk k Wt
   obtain ⟨h3,h4⟩:=Bu8 R hr Lj h1
   refine ⟨h3,u0,by rw [TM h4];exact hx,h2⟩
  split
  .rename_i f args ho;exact absurd ho (kP.1 f args)
  .rename_i tb x args ho;exact absurd ho (kP.2 tb x args)
  .exact .inr ⟨T5 hm,key⟩
 cases hs with
 | off hw hd hl ht hm he Gg Ms Gy=>rw [hw];exact ⟨hd,hl,ht,T5 hm⟩
 | read hw Lj hx hl ht hm he Gg Ms Vi Gy=>
  have:=bE hm hw hx Lj λk Wt=>⟨λid hid=>xn R hr (λh=>Vi h id hid) Wt,hl,ht⟩
  unfold RG.ev at this
  rwa [HF] at this
 | lay ob hw Lj hx hl ht hm he Gg Ms Vi Gy=>
  have:=bE hm hw hx Lj λk Wt=>⟨λid hid=>xn R hr (λh=>Vi h id hid) Wt,hl,ht⟩
  unfold RG.ev at this
  rwa [HF] at this
 | wr ob hw hc Lj hx Rj Ez uA hl ht kK hm he Gg Ms Gy=>
  obtain ⟨g1,g2,g3⟩:=(I.lo _).1 Ez
  have g1':Ln rs r<i:=g1
  have HJ:∀ k,(Ew ρ s0 rs.length).may rs i k->(Ew ρ s0 rs.length).unp rs s0 k (s0.nx+Ln rs r)=some (Ln rs r):=λk Wt=>by
   have kH:(Ew ρ s0 rs.length).pr rs k (Ln rs r)=false:=by
    unfold RG.pr
    rw [List.any_eq_false]
    intro x hx
    obtain ⟨n,hn,rfl⟩:=Bq.1 hx
    rw [Bs] at hn
    have PY:(Ew ρ s0 rs.length).main[n]?=some ((Ew ρ s0 rs.length).main.take k)[n]:=by
     rw [Er];exact Aa (by omega)
    obtain ⟨f1,f2,f3⟩:=main_get.1 PY
    intro h
    rcases Dd n (kI ρ i) with K2 | Yc
    .have:(Ew ρ s0 rs.length).pr rs (kI ρ i) (Ln rs r)=true:=by
      unfold RG.pr
      rw [Wl]
      refine ⟨_,List.mem_iff_getElem?.2 ⟨n,?_⟩,h⟩
      rw [Bz,Af K2];exact PY
     have g3':(Ew ρ s0 rs.length).pr rs (kI ρ i) (Ln rs r)=false:=g3
     rw [g3'] at this;cases this
    .obtain ⟨u1,u2⟩:=Ay4 R hi Wt PY (.inl ⟨Yc,by omega⟩)
     rcases (si R ht).2.2 _ f1 h with h' | h' | h'
     .rw [u1] at h';cases h'
     .rw [u2] at h';cases h'
     .rw [<- h'] at f2;rw [hm] at f2;cases f2
   unfold RG.unp
   have e':s0.nx+Ln rs r-s0.nx=Ln rs r:=by omega
   rw [e',Af ⟨by omega,by omega,g2,kH⟩]
  have IT:(Ew ρ s0 rs.length).may rs i (kI ρ i):=UE (D:=Ew ρ s0 rs.length) (L:=Lt i) (W8 R) (SN R (by omega)) (NG i) (jP R hi)
  have Yd:∀ k,(Ew ρ s0 rs.length).may rs i k->((Ew ρ s0 rs.length).st rs s0 i k).ho (s0.nx+Ln rs r)=(Ew ρ s0 rs.length).cur rs (Es rs i) (Ln rs r):=λk Wt=>by
   show (Ew ρ s0 rs.length).full rs s0 _ _ _=_
   unfold RG.full
   rw [HJ k Wt]
   have ha:Es rs i (Ln rs r)=true:=uA
   simp only
   rw [Af ha]
  have:=bE hm hw hx Lj λk Wt=>⟨λid hid=>by
   have e:id=s0.nx+Ln rs r:=Rj id hid
   exact HoEq.of (by rw [e,Yd k Wt,Yd _ IT]),⟨_,HJ k Wt,uA,ht,kK,hl⟩⟩
  unfold RG.ev at this
  rwa [HF] at this
 | main hid hs Sv fM hw hc Lj hx hg hl ht hm he Gg Ms Gy=>
  rw [hw]
  simp only
  have yT:(Ew ρ s0 rs.length).main[kI ρ i]?=some i:=main_get.2 ⟨hi,hm,rfl⟩
  have jC:((List.range rs.length).filter λi=>(ρ i).mn)[kI ρ i]?=some i:=yT
  have hH:(Ew ρ s0 rs.length).H (kI ρ i+1)=(ρ i).H:=by
   show FH ρ s0.ho ((List.range rs.length).filter λi=>(ρ i).mn) (kI ρ i+1)=_
   simp only [FH,jC]
  have hN:(Ew ρ s0 rs.length).N (kI ρ i+1)=(ρ i).N:=by
   show tB ρ (s0.nx+rs.length) ((List.range rs.length).filter λi=>(ρ i).mn) (kI ρ i+1)=_
   simp only [tB,jC]
  have Um:=(Vw R i (by omega)).1
  obtain ⟨bK,_⟩:=Bu8 R hr Lj (k:=kI ρ i) λ_ _=>HoEq.of rfl
  have oD:hs.ho=((Ew ρ s0 rs.length).st rs s0 i (kI ρ i)).ho:=by
   funext id
   rw [seen R hi I,fM,Sv]
  have tJ:hs.nx=((Ew ρ s0 rs.length).st rs s0 i (kI ρ i)).nx:=by
   rw [fM]
   exact Um.symm
  have cw:∀ t,.tmp t∈r.op.opnds->((Ew ρ s0 rs.length).st rs s0 i (kI ρ i)).sv t=hs.sv t:=λt cd=>by
   rw [fM];exact mZ R hr _ (Bj7 cd)
  have pO:Agree r.op hs ((Ew ρ s0 rs.length).st rs s0 i (kI ρ i)):=Bj6 cw λid _=>HoEq.of (by rw [oD])
  have If:(⟨((Ew ρ s0 rs.length).st rs s0 i (kI ρ i)).sv,hs.ho,hs.nx⟩:DS)=(Ew ρ s0 rs.length).st rs s0 i (kI ρ i):=by rw [oD,tJ]
  have Di:∀ (args:List Operand),(∀ x∈args,x∈r.op.opnds)->args.map ((Ew ρ s0 rs.length).st rs s0 i (kI ρ i)).rv=args.map hs.rv:=λargs Ow=>Ea λx hx=>pO.rv x (Ow x hx)
  unfold OA at hx
  split
  .rename_i f args ho
   rw [ho] at hx
   simp only at hx
   refine ⟨kI ρ i,yT,bK,?_⟩
   rw [Di args (λx hx=>by rw [ho];exact hx),hH,hN,<- If]
   exact hx _
  .rename_i tb x args ho
   rw [ho] at hx
   simp only at hx
   obtain ⟨f,fr,cs,h1,h2⟩:=hx
   refine ⟨kI ρ i,f,fr,cs,yT,bK,?_,?_⟩
   .rw [pO.ev x (by rw [ho];simp [DOp.opnds])];exact h1
   .rw [Di args (λy hy=>by rw [ho];simp [DOp.opnds,hy]),hH,hN,<- If]
    exact h2 _
  .rename_i Ya fL
   have HD:∃ u,hs.hasU u=true/\Ay hs.nx hs r.op=some ((ρ i).d,u)/\(ρ i).H=u.app hs.nx hs.ho/\(ρ i).N=if u.new then hs.nx+1 else hs.nx:=by
    revert hx
    split
    .rename_i f args ho;exact absurd ho (Ya f args)
    .rename_i tb x args ho;exact absurd ho (fL tb x args)
    .exact id
   obtain ⟨u,h1,h2,h3,h4⟩:=HD
   refine .inl ⟨kI ρ i,u,yT,bK,?_,?_,?_,?_⟩
   .cases u with
    | wr id o=>simp only [DS.hasU] at h1 ⊢;rw [<- oD];exact h1
    | mv Hv o=>
     cases Hv with
     | none=>rfl
     | some id=>simp only [DS.hasU] at h1 ⊢;rw [<- oD];exact h1
    | _=>rfl
   .have e:hs.nx=(Ew ρ s0 rs.length).N (kI ρ i):=tJ
    rw [TM pO,<- e]
    exact h2
   .have e:hs.nx=(Ew ρ s0 rs.length).N (kI ρ i):=tJ
    rw [hH,h3,oD,e]
   .have e:hs.nx=(Ew ρ s0 rs.length).N (kI ρ i):=tJ
    rw [hN,h4,e]
theorem Cx7:(Ew ρ s0 rs.length).OK rs s0 P:={ W8 R with ev:=Cx6 R }
theorem sS:(Ew ρ s0 rs.length).at_ rs s0 (λ_=>true) (Ew ρ s0 rs.length).main.length=(Δ rs.length).es.ds:=by
 have I:=C3 R rs.length (Ai _)
 have hN:=(Vw R rs.length (Ai _)).1
 have oC:(Ew ρ s0 rs.length).sv rs s0 (λ_=>true)=(Ew ρ s0 rs.length).sv rs s0 (Lt rs.length):=by
  funext t
  unfold RG.sv
  cases hp:rs.findIdx? (λr=>r.dst==some t) with
  | none=>rfl
  | some p=>
   have:p<rs.length:=(Hi.1 hp).1
   simp [Lt,this]
 have iZ:(Ew ρ s0 rs.length).full rs s0 (λ_=>true) (kI ρ rs.length)=(Ew ρ s0 rs.length).full rs s0 (Lt rs.length) (kI ρ rs.length):=by
  funext id
  unfold RG.full
  cases hu:(Ew ρ s0 rs.length).unp rs s0 (kI ρ rs.length) id with
  | none=>rfl
  | some j=>
   have hj:=(cZ hu).2.1
   have hc:(Ew ρ s0 rs.length).cur rs (λ_=>true) j=(Ew ρ s0 rs.length).cur rs (Lt rs.length) j:=by
    unfold RG.cur
    rw [NW (L:=Lt rs.length) (L':=λ_=>true) λw hw _=>by simp [Lt,hw]]
   simp [Lt,hj,hc]
 show (⟨_,_,_⟩:DS)=_
 rw [B59,oC,iZ,hN,<- I.sv,<- I.ho]
 rfl
end
theorem Cm7{C:Ctx}{call:Bg}(hc:Vs C.P call)(hm:C.P.follows .mixedOrders=true){rs:List DR}{es es':ES}(Pq:(lR rs).ok=true)(h:Gq rs.length (Qg rs (lR rs).l 0) call es=some es')(Ct:es.ds.Fr) :
  Gw es.ds es'.ds/\∀ (info:RI) (Q:Exit->DS->Prop),Q .normal es'.ds->DW C (.reg true rs info) Q es.ds:=by
 obtain ⟨Δ,ρ,R,rfl⟩:=Cx4 hc Pq h Ct
 refine ⟨?_,λinfo Q hQ=>DW.regd (Ew ρ es.ds rs.length) hm (Cx7 R) (by rw [sS R];exact hQ)⟩
 have key:∀ i,i<=rs.length->∀ id,es.ds.ho id=none->(Δ i).es.ds.ho id≠none->es.ds.nx<=id/\id<(Δ i).es.nx:=by
  intro i
  induction i with
  | zero=>intro _ id h1 h2;rw [R.z] at h2;exact absurd h1 h2
  | succ i ih=>
   intro hi id h1 h2
   have hn:=(Vw R i (by omega)).2.1
   obtain ⟨g1,g2⟩:=(semAt R (Aa (show i<rs.length by omega))).gw (by omega) hn
   cases h3:(Δ i).es.ds.ho id with
   | none=>exact g2 id h3 h2
   | some o=>
    have:=ih (by omega) id h1 (by rw [h3];simp)
    omega
 have hn:=(Vw R rs.length (Ai _)).2.1
 exact ⟨by show es.ds.nx<=(Δ rs.length).es.nx;omega,key _ (Ai _)⟩
end Go.DD

/- The contract of a function, out of its body. -/
namespace Go.DD
open Go.RowKit (Below)
def uD(s:DS)(rs:List (Nat×Option (Option Nat))):Option DV:=
 match bC s rs with
 | some d=>rz s.ho 6 d
 | none=>none
theorem DCall.intro{P:Program}{f:FuncId}{fn:Func}{df:DF}{args:List DV}{R:DV->Prop}(hf:P.funcs[f]?=some fn)(hc:Yo P fn=some df)(hn:args.length<=df.nt)
  (h:∀ (S:Nat->Prop) (w0:World),DW ⟨P,S,λ_=>False,w0,df.nt,λ_ _=>False,λ_=>False,none,λ_=>none,λ_=>False⟩ df.code (λe s=>(e=.normal\/e=.ret)/\∃ r,uD s df.res=some r/\R r) ⟨Yn args,λ_=>none,0⟩):DCall P f args R:=by
 intro w S vs hS hl Ce JN
 unfold Yo at hc
 split at hc
 rotate_left
 .cases hc
 rename_i body hb
 split at hc
 rotate_left
 .cases hc
 rename_i c r Te gU
 cases hc
 refine callsIn_wide.1 (callsIn_of_wp_marks (n:=0) hf hb trivial ?_)
 have hhh:HH ⟨P,S,λ_=>False,w,fn.ntmps,λ_ _=>False,λ_=>False,none,λ_=>none,λ_=>False⟩ (Us ⟨P,S,λ_=>False,w,fn.ntmps,λ_ _=>False,λ_=>False,none,λ_=>none,λ_=>False⟩ 0) (Lm (λ_=>none) (λ_=>none)) (λ_=>none) w:=
  ⟨hS,⟨rfl,rfl,rfl,Ai _,λ_ _ _=>rfl⟩,λ_ _ h=>(by cases h),λ_ _ _ h=>(by cases h),λ_ _=>rfl,λ_ _ h=>(by cases h)⟩
 have M7:=A82 (C:=⟨P,S,λ_=>False,w,fn.ntmps,λ_ _=>False,λ_=>False,none,λ_=>none,λ_=>False⟩) (ho:=λ_=>none) (nx:=0) (args:=args) (vs:=vs) hhh
  (λx d h=>h.elim False.elim λh=>WV.flat (.imm _ _ ((JN x d h).mono λb hb=>⟨⟨.inl hb,hS b hb,λ_ h=>(by cases h)⟩,rfl⟩)) (vl (JN x d h))) (λ_ _ h=>(by cases h)) (λ_ h=>h.elim) hn hl
  (λj v d hv hd=>WV.flat (.imm _ _ ((Ce j v d hv hd).mono λb hb=>⟨⟨.inl hb,hS b hb,λ_ h=>(by cases h)⟩,rfl⟩)) (vl (Ce j v d hv hd)))
 refine wpIn_mono (h S w body Te _ w ⟨λ_ h=>h.elim,_,M7⟩) ?_
 have Pe:∀ (s:DS) (a:Act) (w':World),Holds ⟨P,S,λ_=>False,w,fn.ntmps,λ_ _=>False,λ_=>False,none,λ_=>none,λ_=>False⟩ s a w'->(∃ d,uD s r=some d/\R d)->LeavesInM Fence.wide 0 P fn a.tmps (λe w'=>∃ v' d,e=.returned v'/\R d/\Below w.heap.size w w'/\RelI w' (λb=>(S b\/w.heap.size<=b)/\b<w'.heap.size) v' d) a.defers .returning w':=by
  rintro s ⟨tmps,l⟩ w' ⟨_,β,hs⟩ ⟨d,hd,hR⟩
  unfold uD at hd
  split at hd
  .rename_i d0 JY
   refine UH gU JY tmps (λv UT hs hr=>?_) l w' hs
   have Mt:=hs.hh.bel
   exact ⟨v,d,rfl,hR,⟨Mt.os,Mt.tape,Mt.output,Mt.size,λk hk=>Mt.block k hk (λh=>h)⟩,(vS hs.hh (λid o ho=>dB ho) 6 v d0 d hr hd).mono λb hb=>⟨⟨hb.1.imp id (λh=>h.resolve_right (λh=>h)),hb.2⟩,rfl⟩⟩
  .cases hd
 rintro e a w' ⟨s,⟨h1,h2⟩,hs⟩
 rcases h1 with rfl | rfl
 .exact Pe s a w' hs h2
 .exact Pe s a w' hs h2
theorem DCall.of_callI{P:Program}{f:FuncId}{args:List DV}{R:DV->Prop}{sv:Nat->DV}(h:Uc P f args ⟨sv,λ_=>none,0⟩ λs d=>∃ r,rz s.ho 6 d=some r/\R r):DCall P f args R:=by
 obtain ⟨fn,df,hf,hc,hn,hw⟩:=h
 refine DCall.intro hf hc hn λS w0=>(hw S (λ_=>False) w0 (λ_ _=>False) (λ_=>False) (λ_=>none) (λ_=>False)).mono ?_
 rintro e s ⟨h1,d,h2,r,h3,h4⟩
 refine ⟨h1,r,?_,h4⟩
 unfold uD
 rw [h2]
 exact h3
end Go.DD

/- The evaluator's code and calls. -/
namespace Go.DD
theorem Au2{P:Program}{call:Bg}(hc:Vs P call){n0 m:Nat} : ∀ (rs:List DR) (os:List OI) (i:Nat) (δ δ':DSt),i+rs.length<=m->Qg rs os i call n0 m δ=some δ'->δ.es.ds.Fr->n0+m<=δ.es.nx->
  δ.es.nx<=δ'.es.nx/\∀ id,δ.es.ds.ho id=none->δ'.es.ds.ho id≠none->n0<=id/\id<δ'.es.nx
 | [],os,i,δ,δ',hm,h,Ct,hn=>by
  have h3:some δ=some δ':=by cases os <;> exact h
  cases h3
  exact ⟨Ai _,λid h1 h2=>absurd h1 h2⟩
 | r::rs,[],i,δ,δ',hm,h,Ct,hn=>by
  have h3:some δ=some δ':=h
  cases h3
  exact ⟨Ai _,λid h1 h2=>absurd h1 h2⟩
 | r::rs,o::os,i,δ,δ',hm,h,Ct,hn=>by
  have h':dq (eT i r o) (Qg rs os (i+1)) call n0 m δ=some δ':=h
  obtain ⟨δ1,h1,h2⟩:=Jt h'
  obtain ⟨ρ0,hs⟩:=A94 hc Ct h1
  have Uo:i<m:=by simp at hm;omega
  obtain ⟨g1,g2⟩:=hs.gw Uo hn
  obtain ⟨g3,g4⟩:=Au2 hc rs os (i+1) δ1 δ' (by simp at hm;omega) h2 (hs.fr Uo hn Ct) (by omega)
  refine ⟨by omega,λid k1 k2=>?_⟩
  cases k3:δ1.es.ds.ho id with
  | none=>exact g4 id k3 k2
  | some x=>
   have:=g2 id k1 (by rw [k3];simp)
   omega
theorem Cm8{P:Program}{call:Bg}(hc:Vs P call){rs:List DR}{os:List OI}{es es':ES}(h:Gq rs.length (Qg rs os 0) call es=some es')(Ct:es.ds.Fr):Gw es.ds es'.ds:=by
 unfold Gq at h
 obtain ⟨δ',h1,h2⟩:=Jt h
 obtain ⟨h3,h4⟩:=fJ h2
 cases h4
 rw [eW,dD] at h1
 obtain ⟨g1,g2⟩:=Au2 hc rs os 0 _ _ (by omega) h1 (λid hid=>Ct id (by
  have:es.nx+rs.length<=id:=hid
  show es.nx<=id;omega)) (Ai _)
 exact ⟨by (have:es.nx+rs.length<=δ'.es.nx:=g1);show es.nx<=δ'.es.nx;omega,λid k1 k2=>g2 id k1 k2⟩
theorem mr{s:DS}{x:Operand}{v:Value}(h:s.rv x=.v v):s.ev x=.v v:=by
 cases x with
 | tmp t=>
  have h':s.sv t=.v v:=h
  simp only [DS.ev]
  rw [h',Af]
  rfl
 | _=>exact h
theorem UA{a b:CE}{call:Bg}{es es':ES}{e:Exit}(h:cS a b call es=some (e,es')):(∃ An,a call es=some (.normal,An)/\b call An=some (e,es'))\/(a call es=some (e,es')/\e≠.normal):=by
 obtain ⟨⟨e1,An⟩,h1,h2⟩:=Jt h
 cases e1 with
 | normal=>exact .inl ⟨An,h1,h2⟩
 | _=>
  cases h2
  exact .inr ⟨h1,by simp⟩
theorem TZ{s:Oo}{call:Bg}{es es':ES}{e:Exit}(h:cN s call es=some (e,es')):s call es=some es'/\e=.normal:=by
 obtain ⟨An,h1,h2⟩:=Jt h
 cases h2
 exact ⟨h1,rfl⟩
theorem Cm9{x:Operand}{a b:CE}{call:Bg}{es es':ES}{e:Exit}(h:cC (.of x) a b call es=some (e,es')):∃ t,es.ds.ev x=.v (.bool t)/\(if t=true then a call es else b call es)=some (e,es'):=by
 unfold cC at h
 rw [Ui] at h
 obtain ⟨v,hv,h⟩:=uP h
 cases v with
 | bool t=>
  refine ⟨t,mr hv,?_⟩
  cases t <;> exact h
 | _=>cases h
theorem Cn0{id:Nat}{c:CE}{call:Bg}{es es':ES}{e:Exit}(h:cB id c call es=some (e,es')):∃ e1,c call es=some (e1,es')/\∀ (Q:Exit->DS->Prop),Q e es'.ds->iC id Q e1 es'.ds:=by
 obtain ⟨⟨e1,An⟩,h1,h2⟩:=Jt h
 cases e1 with
 | exit i=>
  have h3:Fw (Nat.beq i id) (some (Exit.normal,An)) (some (Exit.exit i,An))=some (e,es'):=h2
  rw [Ti] at h3
  split at h3
  .rename_i hb
   cases h3
   exact ⟨_,h1,λQ hQ=>by simp only [iC];rw [Af (Fg hb)];exact hQ⟩
  .rename_i hb
   cases h3
   refine ⟨_,h1,λQ hQ=>?_⟩
   simp only [iC]
   rw [Ad (λe=>hb (by rw [e];exact Nat.beq_refl id))];exact hQ
 | _=>
  cases h2
  exact ⟨_,h1,λQ hQ=>hQ⟩
def P8(P:Program)(nt:Nat)(rd:Bool)(c:DC)(es:ES)(e:Exit)(es':ES):Prop:=
 Gw es.ds es'.ds/\∀ (C:Ctx) (Q:Exit->DS->Prop),C.P=P->C.nt=nt->(rd=false->C.rd=none)->Q e es'.ds->DW C c Q es.ds
theorem Cn1{P:Program}{call:Bg}{n nt:Nat}{rd:Bool}{c:DC}(ih:∀ es e es',Dt n nt rd c call es=some (e,es')->es.ds.Fr->P8 P nt rd c es e es'):∀ (m:Nat) (es:ES) (e:Exit) (es':ES),cL m (Dt n nt rd c) call es=some (e,es')->es.ds.Fr->P8 P nt rd (.loop c) es e es':=by
 have gw:∀ (m:Nat) (es:ES) (e:Exit) (es':ES),cL m (Dt n nt rd c) call es=some (e,es')->es.ds.Fr->Gw es.ds es'.ds:=by
  intro m
  induction m with
  | zero=>intro es e es' h _;cases h
  | succ m im=>
   intro es e es' h Ct
   have h':cS (Dt n nt rd c) (cL m (Dt n nt rd c)) call es=some (e,es'):=h
   rcases UA h' with ⟨An,h1,h2⟩ | ⟨h1,_⟩
   .have g1:=(ih _ _ _ h1 Ct).1
    exact g1.trans (im An e es' h2 (Gw.fr Ct g1))
   .exact (ih _ _ _ h1 Ct).1
 intro m es e es' h Ct
 refine ⟨gw m es e es' h Ct,λC Q hP Hk Hw hQ=>?_⟩
 refine DW.loop (I:=λk s=>∃ An,s=An.ds/\An.ds.Fr/\cL k (Dt n nt rd c) call An=some (e,es')) m ⟨es,rfl,Ct,h⟩ ?_
 rintro k s ⟨An,rfl,eJ,h1⟩
 cases k with
 | zero=>cases h1
 | succ k=>
  have h':cS (Dt n nt rd c) (cL k (Dt n nt rd c)) call An=some (e,es'):=h1
  rcases UA h' with ⟨Cb,h2,h3⟩ | ⟨h2,Ha⟩
  .obtain ⟨g1,g2⟩:=ih _ _ _ h2 eJ
   exact g2 C _ hP Hk Hw ⟨k,Fq k,Cb,rfl,Gw.fr eJ g1,h3⟩
  .obtain ⟨g1,g2⟩:=ih _ _ _ h2 eJ
   refine g2 C _ hP Hk Hw ?_
   cases e <;> first | exact hQ | exact absurd rfl Ha
theorem NN{P:Program}{call:Bg}(hc:Vs P call)(hm:P.follows .mixedOrders=true){n nt:Nat}{rd:Bool} : ∀ (c:DC) (es:ES) (e:Exit) (es':ES),Dt n nt rd c call es=some (e,es')->es.ds.Fr->P8 P nt rd c es e es':=by
 intro c
 induction c with
 | skip=>
  intro es e es' h Ct
  have h':some (Exit.normal,es)=some (e,es'):=h
  cases h'
  exact ⟨Gw.refl _,λC Q _ _ _ hQ=>DW.skip hQ⟩
 | ret=>
  intro es e es' h Ct
  have h':some (Exit.ret,es)=some (e,es'):=h
  cases h'
  exact ⟨Gw.refl _,λC Q _ _ _ hQ=>DW.ret hQ⟩
 | exit id=>
  intro es e es' h Ct
  have h':some (Exit.exit id,es)=some (e,es'):=h
  cases h'
  exact ⟨Gw.refl _,λC Q _ _ _ hQ=>DW.exit hQ⟩
 | seq a b kD kC=>
  intro es e es' h Ct
  have h':cS (Dt n nt rd a) (Dt n nt rd b) call es=some (e,es'):=h
  rcases UA h' with ⟨An,h1,h2⟩ | ⟨h1,Ha⟩
  .obtain ⟨g1,k1⟩:=kD _ _ _ h1 Ct
   obtain ⟨g2,k2⟩:=kC _ _ _ h2 (Gw.fr Ct g1)
   exact ⟨g1.trans g2,λC Q hP Hk Hw hQ=>DW.seq (k1 C _ hP Hk Hw (k2 C Q hP Hk Hw hQ))⟩
  .obtain ⟨g1,k1⟩:=kD _ _ _ h1 Ct
   refine ⟨g1,λC Q hP Hk Hw hQ=>DW.seq (k1 C _ hP Hk Hw ?_)⟩
   cases e <;> first | exact hQ | exact absurd rfl Ha
 | cond x a b kD kC=>
  intro es e es' h Ct
  have h':cC (.of x) (Dt n nt rd a) (Dt n nt rd b) call es=some (e,es'):=h
  obtain ⟨t,ht,h2⟩:=Cm9 h'
  cases t with
  | true=>
   rw [Af rfl] at h2
   obtain ⟨g1,k1⟩:=kD _ _ _ h2 Ct
   exact ⟨g1,λC Q hP Hk Hw hQ=>DW.cond ht (λ_=>k1 C Q hP Hk Hw hQ) (λh=>by cases h)⟩
  | false=>
   rw [Ad (by simp)] at h2
   obtain ⟨g1,k1⟩:=kC _ _ _ h2 Ct
   exact ⟨g1,λC Q hP Hk Hw hQ=>DW.cond ht (λh=>by cases h) (λ_=>k1 C Q hP Hk Hw hQ)⟩
 | blk id c ih=>
  intro es e es' h Ct
  have h':cB id (Dt n nt rd c) call es=some (e,es'):=h
  obtain ⟨e1,h1,h2⟩:=Cn0 h'
  obtain ⟨g1,k1⟩:=ih _ _ _ h1 Ct
  exact ⟨g1,λC Q hP Hk Hw hQ=>DW.blk (k1 C _ hP Hk Hw (h2 Q hQ))⟩
 | loop c ih=>
  intro es e es' h Ct
  exact Cn1 ih n es e es' h Ct
 | reg draw ops info=>
  intro es e es' h Ct
  cases draw with
  | false=>
   have h':cN (nG ops) call es=some (e,es'):=h
   obtain ⟨h1,rfl⟩:=TZ h'
   obtain ⟨g1,k1⟩:=Bu2 hc ops es es' h1 Ct
   exact ⟨g1,λC Q hP Hk Hw hQ=>DW.reg (by rw [hP];exact k1 _ hQ)⟩
  | true=>
   cases Pq:info.ok with
   | false=>
    have h':(match info.ok with
     | true=>cN (Gq ops.length (Qg ops info.l 0))
     | false=>λ_ _=>none:CE) call es=some (e,es'):=h
    rw [Pq] at h'
    cases h'
   | true=>
    have h':(match info.ok with
     | true=>cN (Gq ops.length (Qg ops info.l 0))
     | false=>λ_ _=>none:CE) call es=some (e,es'):=h
    rw [Pq] at h'
    have QS:cN (Gq ops.length (Qg ops info.l 0)) call es=some (e,es'):=h'
    obtain ⟨h1,rfl⟩:=TZ QS
    refine ⟨Cm8 hc h1 Ct,λC Q hP Hk Hw hQ=>?_⟩
    intro code jE
    obtain ⟨id,os,KC,hl,hi⟩:=vn jE
    have Xe:=hi rfl
    subst Xe
    subst hP
    exact (Cm7 hc hm Pq h1 Ct).2 _ Q hQ code jE
 | rng g ps a b kD kC=>
  intro es e es' h Ct
  have h':cR nt rd (.of g) ps a b call es=some (e,es'):=h
  unfold cR at h'
  split at h'
  .cases h'
  rename_i dg
  rw [mQ] at h'
  split at h'
  rotate_left
  .cases h'
  rename_i f cs jC
  split at h'
  rotate_left
  .cases h'
  rename_i d hp nx Pg
  obtain ⟨n1,n2,Sh,hcI⟩:=hc _ _ _ _ _ _ _ Pg (λid hid=>by
   rw [Tr.set_ho]
   simp only [setH]
   rw [Ad (by omega)]
   exact Ct id (by show es.nx<=id;omega))
  rw [Tr.set_ho] at n2 hcI
  have gw:∀ Cb:ES,Cb.hp=hp.set es.nx none->Cb.nx=nx->Gw es.ds Cb.ds:=λCb e1 e2=>by
   refine ⟨by show es.nx<=Cb.nx;omega,λid k1 k2=>?_⟩
   have I2:Cb.hp.get id≠none:=k2
   rw [e1,Tr.set_ho] at I2
   simp only [setH] at I2
   split at I2
   .exact absurd rfl I2
   .rename_i Ha
    have:=n2 id (by simp only [setH];rw [Ad Ha];exact k1) I2
    show es.nx<=id/\id<Cb.nx
    omega
  have dw:∀ (C:Ctx) (Q:Exit->DS->Prop),C.P=P->C.nt=nt->(rd=false->C.rd=none)->(∃ lp,hp.get es.nx=some (.loop lp)/\lp.st≠.busy/\match lp.pend with
   | none=>Q .normal ⟨es.ds.sv,setH hp.get es.nx none,nx⟩
   | some .ret=>Q .ret ⟨es.ds.sv,setH hp.get es.nx none,nx⟩
   | some (.exit i)=>Q (.exit i) ⟨es.ds.sv,setH hp.get es.nx none,nx⟩
   | _=>False)->DW C (.rng g ps a b) Q es.ds:=λC Q hP Hk Hw hQ=>by
   subst hP Hk
   exact DW.rng (sl:=.t es.sl) rfl (Hw (by simpa using dg)) jC Sh (callC.i (ds:=.yl es.nx::cs) ⟨.yl es.nx,Dv,by simp [DV.refs]⟩ (hcI es.ds.sv _ hQ))
  split at h'
  rotate_left
  .cases h'
  rename_i lp bL
  have If:lp.st≠.busy:=λhb=>by
   rw [hb] at h'
   cases h'
  have Vh:(match lp.pend with
     | none=>some (Exit.normal,⟨es.sl,hp.set es.nx none,nx⟩)
     | some .ret=>some (Exit.ret,⟨es.sl,hp.set es.nx none,nx⟩)
     | some (.exit i)=>some (Exit.exit i,⟨es.sl,hp.set es.nx none,nx⟩)
     | _=>none)=some (e,es'):=by
   revert h'
   split
   .rename_i hb;exact absurd hb If
   .exact id
  have Pe:∀ Cb:ES,Cb=⟨es.sl,hp.set es.nx none,nx⟩->Cb.ds=⟨es.ds.sv,setH hp.get es.nx none,nx⟩:=λCb he=>by
   subst he
   rw [Si,Tr.set_ho];rfl
  cases HZ:lp.pend with
  | none=>
   rw [HZ] at Vh
   cases Vh
   refine ⟨gw _ rfl rfl,λC Q hP Hk Hw hQ=>dw C Q hP Hk Hw ⟨lp,bL,If,?_⟩⟩
   rw [HZ]
   rw [Pe _ rfl] at hQ
   exact hQ
  | some p=>
   rw [HZ] at Vh
   cases p with
   | ret=>
    cases Vh
    refine ⟨gw _ rfl rfl,λC Q hP Hk Hw hQ=>dw C Q hP Hk Hw ⟨lp,bL,If,?_⟩⟩
    rw [HZ]
    rw [Pe _ rfl] at hQ
    exact hQ
   | exit i=>
    cases Vh
    refine ⟨gw _ rfl rfl,λC Q hP Hk Hw hQ=>dw C Q hP Hk Hw ⟨lp,bL,If,?_⟩⟩
    rw [HZ]
    rw [Pe _ rfl] at hQ
    exact hQ
   | _=>cases Vh
 | dfq t g cap=>
  intro es e es' h Ct
  cases rd with
  | true=>cases h
  | false=>
   have h':cN (Tm (some (Cm t)) (.mkf (.func g) [] cap)) call es=some (e,es'):=h
   obtain ⟨h1,rfl⟩:=TZ h'
   have hex:Exd es.ds (.mkf (.func g) [] cap) (some t) es'.ds:=wz (dst:=some t) (λ_ _ e=>by cases e) (λ_ _ _ e=>by cases e) (λ_ _ e=>by cases e) h1
   refine ⟨hex.gw Ct,λC Q hP Hk Hw hQ=>DW.dfq (Hw rfl) ?_⟩
   obtain ⟨d,u,h2,h3⟩:=hex
   have h4:some (DV.fn (.func g) (.tup []::cap.map es.ds.ev),Upd.keep)=some (d,u):=h2
   cases h4
   rw [h3] at hQ
   exact hQ
 | bad=>
  intro es e es' h Ct
  cases h
end Go.DD
