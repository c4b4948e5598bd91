/- A part. -/
import Derived.Test.YtnphfnhhpcelbaaGreatYd
noncomputable section
namespace Go.DD
theorem Bu3{α:Type} : ∀ (f k:Nat) (t:Tr α),k<=f->gP (Ug f k) t=t.get k
 | 0,k,t,h=>by
  obtain rfl:k=0:=by omega
  cases t <;> rfl
 | f+1,0,t,_=>by cases t <;> rfl
 | f+1,k+1,t,h=>by
  have ih:=λ(t:Tr α)=>Bu3 f (k / 2) t (by omega)
  simp only [Ug]
  by_cases hk:k % 2=0
  .rw [Af hk]
   cases t with
   | e=>rfl
   | n l v r=>simp only [Tr.get,Af hk,<- ih];rfl
  .rw [Ae hk]
   cases t with
   | e=>rfl
   | n l v r=>simp only [Tr.get,Ae hk,<- ih];rfl
theorem Cz2{α:Type}(k:Nat)(t:Tr α):gP (Cq k) t=t.get k:=Bu3 k k t (Ag _)
theorem Bu4{α:Type} : ∀ (f k j:Nat) (v:Option α) (t:Tr α),k<=f->(sP (Ug f k) v t).get j=if k=j then v else t.get j
 | 0,k,j,v,t,h=>by
  obtain rfl:k=0:=by omega
  cases t <;> cases j <;> simp [sP,Ug,Tr.get]
 | f+1,0,j,v,t,_=>by cases t <;> cases j <;> simp [sP,Ug,Tr.get]
 | f+1,k+1,j,v,t,h=>by
  have ih:=λ(t:Tr α) j=>Bu4 f (k / 2) j v t (by omega)
  simp only [Ug]
  by_cases hk:k % 2=0
  .rw [Af hk]
   cases t with
   | e=>
    show (Tr.n (sP (Ug f (k / 2)) v .e) none .e).get j=_
    cases j with
    | zero=>simp [Tr.get]
    | succ j=>
     simp only [Tr.get]
     by_cases hj:j % 2=0
     .rw [Af hj,ih]
      by_cases he:k=j
      .subst he;simp
      .rw [Ae (by omega),Ae (by omega)];rfl
     .rw [Ae hj,Ae (by omega)]
   | n l x r=>
    show (Tr.n (sP (Ug f (k / 2)) v l) x r).get j=_
    cases j with
    | zero=>simp [Tr.get]
    | succ j=>
     simp only [Tr.get]
     by_cases hj:j % 2=0
     .rw [Af hj,Af hj,ih]
      by_cases he:k=j
      .subst he;simp
      .rw [Ae (by omega),Ae (by omega)]
     .rw [Ae hj,Ae hj,Ae (by omega)]
  .rw [Ae hk]
   cases t with
   | e=>
    show (Tr.n .e none (sP (Ug f (k / 2)) v .e)).get j=_
    cases j with
    | zero=>simp [Tr.get]
    | succ j=>
     simp only [Tr.get]
     by_cases hj:j % 2=0
     .rw [Af hj,Ae (by omega)]
     .rw [Ae hj,ih]
      by_cases he:k=j
      .subst he;simp
      .rw [Ae (by omega),Ae (by omega)];rfl
   | n l x r=>
    show (Tr.n l x (sP (Ug f (k / 2)) v r)).get j=_
    cases j with
    | zero=>simp [Tr.get]
    | succ j=>
     simp only [Tr.get]
     by_cases hj:j % 2=0
     .rw [Af hj,Af hj,Ae (by omega)]
     .rw [Ae hj,Ae hj,ih]
      by_cases he:k=j
      .subst he;simp
      .rw [Ae (by omega),Ae (by omega)]
theorem uw{α:Type}(k j:Nat)(v:Option α)(t:Tr α):(sP (Cq k) v t).get j=if k=j then v else t.get j:=Bu4 k k j v t (Ag _)
theorem wg(j:Nat):Nat.beq (Nat.mod j 2) 0=decide (j % 2=0):=by
 show Nat.beq (j % 2) 0=_
 cases h:Nat.beq (j % 2) 0 with
 | true=>have:=Fc h;simp [this]
 | false=>have:=Nat.ne_of_beq_eq_false h;simp [this]
theorem Kn{α:Type} : ∀ (t:Tr α) (k:Nat),gN t k=t.get k
 | .e,k=>rfl
 | .n l v r,0=>rfl
 | .n l v r,k+1=>by
  have e:gN (.n l v r) (k+1)=Bool.rec (gN r (Nat.div k 2)) (gN l (Nat.div k 2)) (Nat.beq (Nat.mod k 2) 0):=rfl
  rw [e,wg]
  simp only [Tr.get]
  have h1:gN r (Nat.div k 2)=r.get (k / 2):=Kn r _
  have h2:gN l (Nat.div k 2)=l.get (k / 2):=Kn l _
  by_cases hk:k % 2=0
  .simp only [hk,decide_true,Gl];exact h2
  .simp only [hk,decide_false,Kp];exact h1
theorem Cd9{α:Type} : ∀ (f k j:Nat) (v:Option α) (t:Tr α),k<=f->(sN f v t k).get j=if k=j then v else t.get j
 | 0,k,j,v,t,h=>by
  obtain rfl:k=0:=by omega
  cases t <;> cases j <;> simp [sN,Tr.get]
 | f+1,0,j,v,t,_=>by cases t <;> cases j <;> simp [sN,Tr.get]
 | f+1,k+1,j,v,t,h=>by
  have ih:=λ(t:Tr α) j=>Cd9 f (k / 2) j v t (by omega)
  have RA:∀ t j,(sN f v t (Nat.div k 2)).get j=if k / 2=j then v else t.get j:=ih
  by_cases hk:k % 2=0
  .have hb:Nat.beq (Nat.mod k 2) 0=true:=by rw [wg];simp [hk]
   cases t with
   | e=>
    have e:sN (f+1) v .e (k+1)=.n (sN f v .e (Nat.div k 2)) none .e:=by
     have e0:sN (f+1) v .e (k+1)=Bool.rec (motive:=λ_=>Tr α) (.n .e none (sN f v .e (Nat.div k 2))) (.n (sN f v .e (Nat.div k 2)) none .e) (Nat.beq (Nat.mod k 2) 0):=rfl
     rw [e0,hb]
    rw [e]
    cases j with
    | zero=>simp [Tr.get]
    | succ j=>
     simp only [Tr.get]
     by_cases hj:j % 2=0
     .rw [Af hj,RA]
      by_cases he:k=j
      .subst he;simp
      .rw [Ae (by omega),Ae (by omega)];rfl
     .rw [Ae hj,Ae (by omega)]
   | n l x r=>
    have e:sN (f+1) v (.n l x r) (k+1)=.n (sN f v l (Nat.div k 2)) x r:=by
     have e0:sN (f+1) v (.n l x r) (k+1)=Bool.rec (motive:=λ_=>Tr α) (.n l x (sN f v r (Nat.div k 2))) (.n (sN f v l (Nat.div k 2)) x r) (Nat.beq (Nat.mod k 2) 0):=rfl
     rw [e0,hb]
    rw [e]
    cases j with
    | zero=>simp [Tr.get]
    | succ j=>
     simp only [Tr.get]
     by_cases hj:j % 2=0
     .rw [Af hj,Af hj,RA]
      by_cases he:k=j
      .subst he;simp
      .rw [Ae (by omega),Ae (by omega)]
     .rw [Ae hj,Ae hj,Ae (by omega)]
  .have hb:Nat.beq (Nat.mod k 2) 0=false:=by rw [wg];simp [hk]
   cases t with
   | e=>
    have e:sN (f+1) v .e (k+1)=.n .e none (sN f v .e (Nat.div k 2)):=by
     have e0:sN (f+1) v .e (k+1)=Bool.rec (motive:=λ_=>Tr α) (.n .e none (sN f v .e (Nat.div k 2))) (.n (sN f v .e (Nat.div k 2)) none .e) (Nat.beq (Nat.mod k 2) 0):=rfl
     rw [e0,hb]
    rw [e]
    cases j with
    | zero=>simp [Tr.get]
    | succ j=>
     simp only [Tr.get]
     by_cases hj:j % 2=0
     .rw [Af hj,Ae (by omega)]
     .rw [Ae hj,RA]
      by_cases he:k=j
      .subst he;simp
      .rw [Ae (by omega),Ae (by omega)];rfl
   | n l x r=>
    have e:sN (f+1) v (.n l x r) (k+1)=.n l x (sN f v r (Nat.div k 2)):=by
     have e0:sN (f+1) v (.n l x r) (k+1)=Bool.rec (motive:=λ_=>Tr α) (.n l x (sN f v r (Nat.div k 2))) (.n (sN f v l (Nat.div k 2)) x r) (Nat.beq (Nat.mod k 2) 0):=rfl
     rw [e0,hb]
    rw [e]
    cases j with
    | zero=>simp [Tr.get]
    | succ j=>
     simp only [Tr.get]
     by_cases hj:j % 2=0
     .rw [Af hj,Af hj,Ae (by omega)]
     .rw [Ae hj,Ae hj,RA]
      by_cases he:k=j
      .subst he;simp
      .rw [Ae (by omega),Ae (by omega)]
theorem F5{α:Type}(t:Tr α)(k:Nat)(v:Option α):(Ka t k v).get=λj=>if j=k then v else t.get j:=by
 funext j
 unfold Ka
 rw [Cd9 k k j v t (Ag _)]
 by_cases h:k=j
 .rw [Af h,Af h.symm]
 .rw [Ae h,Ae (Eo h)]
theorem T8{t:Tr DObj}{k:Nat}{v:Option DObj} : (Ka t k v).get=Gf t.get k v:=F5 t k v
theorem Tr.set_ho{t:Tr DObj}{k:Nat}{v:Option DObj} : (t.set k v).get=Gf t.get k v:=by
 funext j
 rw [Tr.get_set]
 unfold Gf
 by_cases h:k=j
 .rw [Af h,Af h.symm]
 .rw [Ae h,Ae (Eo h)]
theorem AA(d:DV):Uz d=d.refs:=by cases d <;> simp [Uz,DV.refs]
theorem OX{α:Type}(l:List α)(f:α->Bool):Tp l f=l.all f:=by
 induction l with
 | nil=>rfl
 | cons a l ih=>
  have e:Tp (a::l) f=Bool.rec false (Tp l f) (f a):=rfl
  rw [e,ih,List.all_cons]
  cases f a <;> rfl
theorem qM{α:Type}(x:Option α):Rm x=x.isSome:=by cases x <;> rfl
theorem Sq{α:Type}(b:Bool)(x y:α):Fv b x y=if b=true then x else y:=by cases b <;> rfl
theorem B68(es:ES)(d:DV):Cg es.hp d=if es.ds.live d=true then d else .any:=by
 unfold Cg
 rw [Sq,OX,AA]
 simp only [qM,Kn]
 rfl
theorem Ts(es:ES)(x:Operand):Ad es (.of x)=es.ds.rv x:=by
 cases x with
 | tmp t=>
  show (Option.rec .any (λd=>d) (gP (Cq t) es.sl):DV)=(es.sl.get t).getD .any
  rw [Cz2]
  cases es.sl.get t <;> rfl
 | _=>rfl
theorem lY(es:ES)(x:Operand):My es (.of x)=es.ds.ev x:=by
 cases x with
 | tmp t=>
  have h:=Ts es (.tmp t)
  show Cg es.hp (Ad es (.of (.tmp t)))=_
  rw [h,B68]
  rfl
 | _=>rfl
theorem uv(es:ES)(t:Nat):Ad es (.t (Cq t))=es.ds.sv t:=Ts es (.tmp t)
theorem bM{α:Type}(n:Nat)(k:Nat->α):aX n k=k n:=by cases n <;> rfl
theorem A94{α:Type}(n:Int)(k:Int->α):uz n k=k n:=by
 cases n with
 | ofNat m=>exact bM m λm=>k (.ofNat m)
 | negSucc m=>exact bM m λm=>k (.negSucc m)
theorem UR{β α:Type}(l:List β)(k:List β->α):E1 l k=k l:=by
 induction l generalizing k with
 | nil=>rfl
 | cons a l ih=>
  have e:E1 (a::l) k=E1 l (λt=>k (a::t)):=rfl
  rw [e,ih]
theorem jB{α:Type} : ∀ (n:Nat) (l:List α),Lk n l=l.drop n
 | 0,l=>rfl
 | n+1,[]=>rfl
 | n+1,a::l=>by
  have e:Lk (n+1) (a::l)=Lk n l:=rfl
  rw [e,jB n l];rfl
theorem UJ{α:Type} : ∀ (n:Nat) (l:List α),Wu n l=l.take n
 | 0,l=>rfl
 | n+1,[]=>rfl
 | n+1,a::l=>by
  have e:Wu (n+1) (a::l)=a::Wu n l:=rfl
  rw [e,UJ n l];rfl
theorem dT{α:Type}(a b:List α):Kw a b=a++b:=by
 induction a with
 | nil=>rfl
 | cons x a ih=>
  have e:Kw (x::a) b=x::Kw a b:=rfl
  rw [e,ih];rfl
theorem qL{α β:Type}(f:α->β)(l:List α):bT f l=l.map f:=by
 induction l with
 | nil=>rfl
 | cons x a ih=>
  have e:bT f (x::a)=f x::bT f a:=rfl
  rw [e,ih];rfl
theorem AI(d:DV):AX d=d.cells:=by cases d <;> rfl
theorem PX(d:DV):QW d=d.okC:=by cases d <;> rfl
theorem Z9(k:Option Nat)(cs:List DV):Sx k cs=Io k cs:=by
 cases k with
 | none=>cases cs <;> rfl
 | some n=>
  have e:Sx (some n) cs=Fv (Nat.ble n cs.length) (some (.agg (Wu n cs))) none:=rfl
  rw [e,Sq,UJ]
  simp [Io,Oz]
theorem uQ{α:Type}{d:DV}{f:Value->Option α}{x:α}(h:cV d f none=some x):∃ v,d=.v v/\f v=some x:=by
 cases d with
 | v y=>exact ⟨y,rfl,h⟩
 | _=>cases h
theorem PN{α:Type}{v:Value}{fb:Bool->Option α}{fi:IntKind->Int->Option α}{fs:ByteArray->Option α}{x:α}(h:dJ v fb fi fs none=some x) :
  (∃ b,v=.bool b/\fb b=some x)\/(∃ k n,v=.int k n/\fi k n=some x)\/∃ s,v=.string s/\fs s=some x:=by
 cases v with
 | bool b=>exact .inl ⟨b,rfl,h⟩
 | int k n=>exact .inr (.inl ⟨k,n,rfl,h⟩)
 | string s=>exact .inr (.inr ⟨s,rfl,h⟩)
 | _=>cases h
theorem VR(x:Option Value):Yg x=x.map .v:=by
 cases x with
 | none=>rfl
 | some v=>
  cases v with
  | bool b=>cases b <;> rfl
  | int k n=>exact A94 n λn=>some (DV.v (.int k n))
  | _=>rfl
theorem Cn9(k k':IntKind):Nat.beq k.ctorIdx k'.ctorIdx=true↔k=k':=by cases k <;> cases k' <;> decide
theorem Xq{s:DS}{x:Operand}{v:Value}(h:s.rv x=.v v):s.ev x=.v v:=by
 cases x with
 | tmp t=>
  have h':s.sv t=.v v:=h
  simp [DS.ev,h',DS.live,DV.refs]
 | _=>exact h
theorem pT{s:DS}{x:Operand}{cs:List DV}(h:s.rv x=.ia cs):s.ev x=.ia cs:=by
 cases x with
 | tmp t=>
  have h':s.sv t=.ia cs:=h
  simp [DS.ev,h',DS.live,DV.refs]
 | _=>exact h
theorem A9{s:DS}{x:Operand}{cs:List DV}{n:Nat}(h:s.rv x=.sl cs n):s.ev x=.sl cs n:=by
 cases x with
 | tmp t=>
  have h':s.sv t=.sl cs n:=h
  simp [DS.ev,h',DS.live,DV.refs]
 | _=>exact h
theorem dD{s:DS}{x:Operand}{id off:Nat}(h:s.rv x=.pt id off)(ha:(s.ho id).isSome=true):s.ev x=.pt id off:=by
 cases x with
 | tmp t=>
  have h':s.sv t=.pt id off:=h
  simp [DS.ev,h',DS.live,DV.refs,ha]
 | _=>exact h
theorem B0{s:DS}{x:Operand}{id off n es:Nat}(h:s.rv x=.ms id off n es)(ha:(s.ho id).isSome=true):s.ev x=.ms id off n es:=by
 cases x with
 | tmp t=>
  have h':s.sv t=.ms id off n es:=h
  simp [DS.ev,h',DS.live,DV.refs,ha]
 | _=>exact h
theorem PM{α:Type}{d:DV}{fi:List DV->Option α}{fp:Nat->Nat->Option α}{x:α}(h:kO d fi fp none=some x):(∃ cs,d=.ia cs/\fi cs=some x)\/∃ id off,d=.pt id off/\fp id off=some x:=by
 cases d with
 | ia cs=>exact .inl ⟨cs,rfl,h⟩
 | pt id off=>exact .inr ⟨id,off,rfl,h⟩
 | _=>cases h
theorem xv{α:Type}{hp:Tr DObj}{id:Nat}{f:TypeId->List DV->Option α}{x:α}(h:Xs hp id f none=some x):∃ T cs,hp.get id=some (.row T cs)/\f T cs=some x:=by
 unfold Xs at h
 rw [Kn] at h
 cases ho:hp.get id with
 | none=>rw [ho] at h;cases h
 | some o=>
  rw [ho] at h
  cases o with
  | row T cs=>exact ⟨T,cs,rfl,h⟩
  | _=>cases h
theorem Bi7{α:Type}{d:DV}{fv:Value->Option α}{fs:List DV->Nat->Option α}{fm:Nat->Nat->Nat->Nat->Option α}{x:α}(h:TH d fv fs fm none=some x) :
  (∃ v,d=.v v/\fv v=some x)\/(∃ cs n,d=.sl cs n/\fs cs n=some x)\/∃ id off n es,d=.ms id off n es/\fm id off n es=some x:=by
 cases d with
 | v v=>exact .inl ⟨v,rfl,h⟩
 | sl cs n=>exact .inr (.inl ⟨cs,n,rfl,h⟩)
 | ms id off n es=>exact .inr (.inr ⟨id,off,n,es,rfl,h⟩)
 | _=>cases h
theorem Bu7{α:Type}{d:DV}{f:Int->Option α}{x:α}(h:cI d f none=some x):∃ k n,d=.v (.int k n)/\f n=some x:=by
 obtain ⟨v,rfl,h⟩:=uQ h
 rcases PN h with ⟨_,_,h⟩ | ⟨k,n,rfl,h⟩ | ⟨_,_,h⟩
 .cases h
 .exact ⟨k,n,rfl,h⟩
 .cases h
theorem UI{α:Type}{j:Int}{n:Nat}{f:Nat->Option α}{x:α}(h:uH j n f none=some x):0<=j/\j<n/\f j.toNat=some x:=by
 cases j with
 | ofNat m=>
  have e:uH (.ofNat m) n f none=Fv (Nat.blt m n) (f m) none:=rfl
  rw [e,Sq] at h
  split at h
  .rename_i hb
   have:m<n:=by simpa [Kq] using hb
   refine ⟨Int.natCast_nonneg m,?_,h⟩
   show (m:Int)<n
   omega
  .cases h
 | negSucc m=>cases h
theorem dZ{α:Type}{b:Bool}{y:Option α}{x:α}(h:Fv b y none=some x):b=true/\y=some x:=by
 cases b
 .cases h
 .exact ⟨rfl,h⟩
theorem A96{α:Type}{d:DV}{f:List DV->Option α}{x:α}(h:qB d f none=some x):∃ ds,d=.tup ds/\f ds=some x:=by
 cases d with
 | tup ds=>exact ⟨ds,rfl,h⟩
 | _=>cases h
theorem Bu8{o:DOp}{x:XP}(hx:Yd o=some x){es:ES}{d:DV}(h:x es=some d)(nid:Nat):Ba nid es.ds o=some (d,.keep):=by
 cases o <;> simp only [Yd,Ed] at hx <;> first | (cases hx;done) | skip
 case pick c a b=>
  subst hx
  obtain ⟨v,hv,h⟩:=uQ h
  rw [Ts] at hv
  rcases PN h with ⟨t,rfl,h2⟩ | ⟨_,_,_,h2⟩ | ⟨_,_,h2⟩
  .rw [Ts,Ts,Sq] at h2
   cases h2
   simp [Ba,Xq hv]
  .cases h2
  .cases h2
 case ld k a=>
  subst hx
  rcases PM h with ⟨cs,ha,h⟩ | ⟨id,off,ha,h⟩
  .rw [Ts] at ha
   rw [Z9] at h
   simp [Ba,pT ha,h]
  .rw [Ts] at ha
   obtain ⟨T,cs,hr,h⟩:=xv h
   rw [Z9,jB] at h
   have ho:es.ds.ho id=some (.row T cs):=hr
   simp [Ba,dD ha (by rw [ho];rfl),ho,h]
 case bin op a b=>
  subst hx
  obtain ⟨v,hv,h⟩:=uQ h
  obtain ⟨w,hw,h⟩:=uQ h
  rw [Ts] at hv hw
  rcases PN h with ⟨_,_,h2⟩ | ⟨k,p,rfl,h2⟩ | ⟨s,rfl,h2⟩
  .cases h2
  .rcases PN h2 with ⟨_,_,h3⟩ | ⟨k',q,rfl,h3⟩ | ⟨_,_,h3⟩
   .cases h3
   .rw [VR] at h3
    obtain ⟨u,hu,rfl⟩:=Ac.1 h3
    rw [Sq,Sq] at hu
    simp only [Cn9] at hu
    simp [Ba,Xq hv,Xq hw,Nv,hu]
   .cases h3
  .rcases PN h2 with ⟨_,_,h3⟩ | ⟨_,_,_,h3⟩ | ⟨s',rfl,h3⟩
   .cases h3
   .cases h3
   .rw [VR] at h3
    obtain ⟨u,hu,rfl⟩:=Ac.1 h3
    simp [Ba,Xq hv,Xq hw,Nv,hu]
 case un op a=>
  subst hx
  obtain ⟨v,hv,h2⟩:=uQ h
  rw [Ts] at hv
  rw [VR] at h2
  obtain ⟨u,hu,rfl⟩:=Ac.1 h2
  simp [Ba,Xq hv,hu]
 case fa off a=>
  subst hx
  rcases PM h with ⟨cs,ha,h⟩ | ⟨id,o,ha,h⟩
  .rw [Ts] at ha
   rw [jB] at h
   cases h
   simp [Ba,pT ha]
  .rw [Ts] at ha
   obtain ⟨hl,h⟩:=dZ h
   rw [qM,Kn] at hl
   rw [bM] at h
   cases h
   simp [Ba,dD ha hl]
 case ia es' a i=>
  subst hx
  obtain ⟨k,j,hj,h⟩:=Bu7 h
  rw [Ts] at hj
  rcases Bi7 h with ⟨_,_,h⟩ | ⟨cs,n,ha,h⟩ | ⟨id,off,n,Cd,ha,h⟩
  .cases h
  .rw [Ts] at ha
   obtain ⟨h0,h1,h⟩:=UI h
   rw [jB] at h
   cases h
   simp [Ba,Xq hj,A9 ha,Ku,h0,h1]
  .rw [Ts] at ha
   obtain ⟨hl,h⟩:=dZ h
   rw [qM,Kn] at hl
   obtain ⟨h0,h1,h⟩:=UI h
   rw [bM] at h
   cases h
   simp [Ba,Xq hj,B0 ha hl,Ku,h0,h1]
 case fx n es' a i=>
  subst hx
  obtain ⟨k,j,hj,h⟩:=Bu7 h
  rw [Ts] at hj
  rcases PM h with ⟨cs,ha,h⟩ | ⟨id,off,ha,h⟩
  .rw [Ts] at ha
   obtain ⟨h0,h1,h⟩:=UI h
   rw [jB] at h
   cases h
   simp [Ba,Xq hj,pT ha,Ku,h0,h1]
  .rw [Ts] at ha
   obtain ⟨hl,h⟩:=dZ h
   rw [qM,Kn] at hl
   obtain ⟨h0,h1,h⟩:=UI h
   rw [bM] at h
   cases h
   simp [Ba,Xq hj,dD ha hl,Ku,h0,h1]
 case len a=>
  subst hx
  rcases Bi7 h with ⟨v,ha,h⟩ | ⟨cs,n,ha,h⟩ | ⟨id,off,n,Cd,ha,h⟩
  .rw [Ts] at ha
   cases v <;> first | (cases h;done) | skip
   rename_i ad n c
   cases ad with
   | none=>
    cases h
    simp [Ba,Xq ha]
   | some ad=>cases h
  .rw [Ts] at ha
   rw [bM] at h
   cases h
   simp [Ba,A9 ha]
  .rw [Ts] at ha
   obtain ⟨hl,h⟩:=dZ h
   rw [qM,Kn] at hl
   rw [bM] at h
   cases h
   simp [Ba,B0 ha hl]
 case ext a i=>
  subst hx
  obtain ⟨ds,ha,h⟩:=A96 h
  rw [Ts] at ha
  have hn:∀ ds:List DV,aF i ds=ds[i]?:=λds=>by
   unfold aF
   rw [jB,<- List.head?_drop]
   cases ds.drop i <;> rfl
  rw [hn] at h
  cases hd:ds[i]? with
  | none=>rw [hd] at h;cases h
  | some d0=>
   rw [hd] at h
   cases d0 with
   | v v=>
    have h':some (DV.v v)=some d:=h
    cases h'
    simp [Ba,ha,pS,hd]
   | _=>
    obtain ⟨eH,uA,h⟩:=A96 h
    rw [lY] at uA
    rw [hn] at h
    simp [Ba,ha,pS,hd,uA,h]
theorem VQ{o:DOp}{es:ES}{nid:Nat}{d:DV}{u:Upd}(h:Ue o es nid=some (d,u)):Ba nid es.ds o=some (d,u):=by
 unfold Ue at h
 split at h
 .rename_i n a x
  unfold Is at h
  rcases PM h with ⟨_,_,h⟩ | ⟨id,off,ha,h⟩
  .cases h
  .rw [Ts] at ha
   obtain ⟨T,cs,hr,h⟩:=xv h
   obtain ⟨h1,h⟩:=dZ h
   obtain ⟨h2,h⟩:=dZ h
   obtain ⟨h3,h⟩:=dZ h
   rw [UR] at h
   rw [PX,lY] at h1
   rw [AI,lY] at h2
   have zZ:=Fc h2
   have h3':off+n<=cs.length:=by simpa [Oz] using h3
   simp only [AI,lY,dT,UJ,jB] at h
   have ho:es.ds.ho id=some (.row T cs):=hr
   simp only [Ba,dD ha (by rw [ho];rfl),ho,h1,zZ,h3',and_self,Gl]
   rw [<- h,Bv]
 .rename_i T x
  unfold Nx at h
  obtain ⟨h1,h⟩:=dZ h
  rw [PX,lY] at h1
  rw [AI,lY] at h
  simp only [Ba,h1,Gl]
  exact h
 .exact h
 .exact h
theorem Bi8(es:ES)(t:Nat)(b:Bool):Kk es (Cq t) b=es.ds.wanted (some (t,b)):=by
 unfold Kk
 rw [uv]
 simp only [DS.wanted]
 cases hd:es.ds.sv t with
 | v x=>cases x <;> rfl
 | _=>rfl
theorem eN(es:ES)(dst:Option Nat)(d:DV):(es.putE (Fp dst) d).ds=es.ds.put dst d:=by
 obtain ⟨sl,hp,nx⟩:=es
 cases dst with
 | none=>rfl
 | some t=>
  show ES.ds ⟨sP (Cq t) (some d) sl,hp,nx⟩=_
  simp only [ES.ds,DS.put]
  congr 1
  funext u
  rw [uw]
  split <;> simp
theorem Z0(hp:Tr DObj)(nid:Nat)(u:Upd):(Lv hp nid u).get=u.app nid hp.get:=by
 cases u with
 | keep=>rfl
 | lay o=>exact T8
 | wr id o=>exact T8
 | mv Hr o=>
  cases Hr with
  | none=>exact T8
  | some i=>
   show (Ka (Ka hp i none) nid (some o)).get=_
   rw [T8,T8];rfl
end Go.DD

/- The evaluator's steps, in the text's order. -/
namespace Go.DD
def DS.Fr(s:DS):Prop:=∀ id,s.nx<=id->s.ho id=none
structure Gw (s s':DS):Prop where
 le:s.nx<=s'.nx
 new:∀ id,s.ho id=none->s'.ho id≠none->s.nx<=id/\id<s'.nx
theorem Gw.refl(s:DS):Gw s s:=⟨Ag _,λ_ h1 h2=>absurd h1 h2⟩
theorem Gw.of{s s':DS}(h1:s'.ho=s.ho)(h2:s'.nx=s.nx):Gw s s':=⟨by omega,λid h3 h4=>by rw [h1] at h4;exact absurd h3 h4⟩
theorem Gw.trans{s s' s'':DS}(h1:Gw s s')(h2:Gw s' s''):Gw s s'':=by
 refine ⟨Dz h1.le h2.le,λid h3 h4=>?_⟩
 have:=h1.le
 have:=h2.le
 by_cases h5:s'.ho id=none
 .have:=h2.new id h5 h4;omega
 .have:=h1.new id h3 h5;omega
theorem Gw.fr{s s':DS}(h1:s.Fr)(h2:Gw s s'):s'.Fr:=λid h=>by
 have h3:=h2.le
 cases h4:s'.ho id with
 | none=>rfl
 | some o=>
  have:=h2.new id (h1 id (by omega)) (by rw [h4];simp)
  omega
theorem Gw.put(s:DS)(dst:Option Nat)(d:DV):Gw s (s.put dst d):=Gw.of (DS.ho_put s dst d) (DS.nx_put s dst d)
theorem Gw.congr{s s' t t':DS}(h:Gw s s')(h1:t.ho=s.ho)(h2:t.nx=s.nx)(h3:t'.ho=s'.ho)(h4:t'.nx=s'.nx):Gw t t':=⟨by rw [h2,h4];exact h.le,λid=>by rw [h1,h2,h3,h4];exact h.new id⟩
theorem yn{nid:Nat}{s:DS}{op:DOp}{d:DV}{u:Upd}(h:Ba nid s op=some (d,u)):s.hasU u=true:=by
 cases u with
 | keep=>rfl
 | lay o=>rfl
 | wr id o=>
  cases op <;> simp only [Ba] at h
  case st n a x=>
   split at h
   .split at h
    .rename_i Vy off e T cs ho
     split at h
     .cases h;simp [DS.hasU,ho]
     .cases h
    .cases h
   .cases h
  case mup kd x k y=>
   split at h
   .split at h
    .split at h
     .split at h
      .rename_i ho
       split at h
       .cases h;simp [DS.hasU,ho]
       .cases h
      .cases h
     .cases h
    .cases h
   .cases h
  case men kd z x k=>
   split at h
   .split at h
    .split at h
     .split at h
      .rename_i ho
       split at h
       .cases h;simp [DS.hasU,ho]
       .cases h;simp [DS.hasU,ho]
       .cases h
      .cases h
     .cases h
    .cases h
   .cases h
  case mes x q y=>
   split at h
   .split at h
    .rename_i ho
     split at h
     .cases h;simp [DS.hasU,ho]
     .cases h
    .cases h
   .cases h
  case nxs x=>
   split at h
   .split at h
    .rename_i ho
     split at h
     .cases h;simp [DS.hasU,ho]
     .cases h
    .cases h
   .cases h
  case cpy es x y=>
   split at h
   .split at h
    .rename_i ho
     split at h
     .cases h;simp [DS.hasU,ho]
     .cases h
    .cases h
   .cases h
  all_goals (repeat' (first | (cases h;done) | split at h | (obtain ⟨_,_,h'⟩:=Ac.1 h;cases h';done)))
 | mv Hr o=>
  cases Hr with
  | none=>rfl
  | some id=>
   cases op <;> simp only [Ba] at h
   case app T es bytes d x=>
    split at h
    .rename_i Hr cs n news m e1 e2
     split at h
     .cases h
      unfold dstD at e1
      split at e1
      .cases e1
      .split at e1
       .rename_i ho
        simp only [DS.hasU]
        split at e1
        .cases e1;simp [ho]
        .cases e1
       .cases e1
      .cases e1
     .cases h
    .cases h
   case frz x=>
    split at h
    .split at h
     .rename_i ho
      split at h
      .cases h;simp [DS.hasU,ho]
      .cases h
     .cases h
    .cases h
   all_goals (repeat' (first | (cases h;done) | split at h | (obtain ⟨_,_,h'⟩:=Ac.1 h;cases h';done)))
theorem Ce0{s:DS}(hf:s.Fr){u:Upd}(h:s.hasU u=true):Gw s { s.upd s.nx u with nx:=if u.new then s.nx+1 else s.nx }:=by
 have hn:s.ho s.nx=none:=hf _ (Ag _)
 cases u with
 | keep=>exact Gw.of rfl rfl
 | lay o=>
  refine ⟨by simp [Upd.new],λid h1 h2=>?_⟩
  simp only [DS.upd,Upd.app,Gf,Upd.new,Gl] at h2 ⊢
  split at h2
  .omega
  .exact absurd h1 h2
 | wr Za o=>
  refine ⟨by simp [Upd.new],λid h1 h2=>?_⟩
  simp only [DS.upd,Upd.app,Gf] at h2
  split at h2
  .rename_i e;subst e;simp [DS.hasU,h1] at h
  .exact absurd h1 h2
 | mv Hr o=>
  refine ⟨by simp [Upd.new],λid h1 h2=>?_⟩
  simp only [DS.upd,Upd.app,Gf,Upd.new,Gl] at h2 ⊢
  split at h2
  .omega
  .cases Hr with
   | none=>exact absurd h1 h2
   | some i=>
    simp only [PA,Gf] at h2
    split at h2
    .exact absurd rfl h2
    .exact absurd h1 h2
def callC(P:Program)(f:FuncId)(ds:List DV)(s:DS)(K:DS->DV->Prop):Prop:=Tj P f ds s K\/∃ d,(∀ x∈ds,x.refs=[])/\DCall P f ds (λd'=>d'=d)/\K s d
theorem callC.k{P:Program}{f:FuncId}{ds:List DV}{s:DS}{K:DS->DV->Prop}(h:callC P f ds s K):dI P f ds s K:=by
 rcases h with h | ⟨d,h1,h2,h3⟩
 .exact .inr (.inr (.inr h))
 .exact .inl ⟨_,h1,h2,λd' hd=>by rw [hd];exact h3⟩
theorem callC.i{P:Program}{f:FuncId}{ds:List DV}{s:DS}{K:DS->DV->Prop}(Gt:∃ x∈ds,x.refs≠[])(h:callC P f ds s K):Tj P f ds s K:=by
 rcases h with h | ⟨d,h1,_⟩
 .exact h
 .obtain ⟨x,hx,hr⟩:=Gt
  exact absurd (h1 x hx) hr
def Uw(P:Program)(call:Bg):Prop:=∀ (tg:Tg) (ds:List DV) (hp:Tr DObj) (nx:Nat) (d:DV) (An:Tr DObj) (Bm:Nat),call tg ds hp nx=some (d,An,Bm)->(∀ id,nx<=id->hp.get id=none)->
 nx<=Bm/\(∀ id,hp.get id=none->An.get id≠none->nx<=id/\id<Bm)/\match tg with
 | .fn f=>Uc P f=true/\∀ (sv:Nat->DV) (K:DS->DV->Prop),K ⟨sv,An.get,Bm⟩ d->callC P f ds ⟨sv,hp.get,nx⟩ K
 | .yl id=>∀ (sv:Nat->DV) (K:DS->DV->Prop),K ⟨sv,An.get,Bm⟩ d->PZ P id ds ⟨sv,hp.get,nx⟩ K
theorem Jo{α β:Type}{x:Option α}{f:α->Option β}{y:β}(h:(Option.rec (motive:=λ_=>Option β) none f x)=some y):∃ a,x=some a/\f a=some y:=by
 cases x with
 | none=>cases h
 | some a=>exact ⟨a,rfl,h⟩
theorem dH{α:Type}(es:ES)(f:Tr DV->Tr DObj->Nat->α):es.cs f=f es.sl es.hp es.nx:=rfl
theorem PL{call:Bg}{tg:Tg}{ds:List DV}{dst:Option Nat}{es es':ES}(h:gH tg ds (Fp dst) call es=some es'):∃ d hp nx,call tg ds es.hp es.nx=some (d,hp,nx)/\es'.ds=(⟨es.ds.sv,hp.get,nx⟩:DS).put dst d:=by
 obtain ⟨⟨d,hp,nx⟩,h1,h2⟩:=Jo h
 have h3:some ((ES.mk es.sl hp nx).putE (Fp dst) d)=some es':=h2
 cases h3
 exact ⟨d,hp,nx,h1,eN _ _ _⟩
theorem PW(es:ES)(args:List Operand):Zk es (args.map EO.of)=args.map es.ds.rv:=by
 unfold Zk
 rw [qL,List.map_map]
 exact El λx _=>Ts es x
theorem B69{P:Program}{call:Bg}(hc:Uw P call){f:Nat}{args:List Operand}{dst:Option Nat}{es es':ES}(h:Bj f (args.map EO.of) (Fp dst) call es=some es')(Cy:es.ds.Fr){K:DS->Prop}(hK:K es'.ds) :
  Gw es.ds es'.ds/\Uc P f=true/\callC P f (args.map es.ds.rv) es.ds λs' d=>K (s'.put dst d):=by
 unfold Bj at h
 rw [PW] at h
 obtain ⟨d,hp,nx,h1,h2⟩:=PL h
 obtain ⟨n1,n2,g1,g2⟩:=hc _ _ _ _ _ _ _ h1 Cy
 refine ⟨(⟨n1,n2⟩:Gw es.ds ⟨es.ds.sv,hp.get,nx⟩).trans (by rw [h2];exact Gw.put _ _ _),g1,g2 es.ds.sv _ ?_⟩
 rw [<- h2];exact hK
theorem Cz3{P:Program}{call:Bg}(hc:Uw P call){tb:Option (List (TypeId×FuncId))}{x:Operand}{args:List Operand}{dst:Option Nat}{es es':ES}(h:eA tb (.of x) (args.map EO.of) (Fp dst) call es=some es')(Cy:es.ds.Fr){K:DS->Prop}(hK:K es'.ds) :
  Gw es.ds es'.ds/\match (es.ds.ev x).tgt tb with
  | some (f,fr,cs)=>Uc P f=true/\callC P f (fr++args.map es.ds.rv++cs) es.ds λs' d=>K (s'.put dst d)
  | none=>match (es.ds.ev x).tgY tb with
   | some i=>PZ P i (args.map es.ds.rv) es.ds λs' d=>K (s'.put dst d)
   | none=>False:=by
 unfold eA at h
 rw [lY,PW] at h
 cases hf:(es.ds.ev x).tgt tb with
 | some p=>
  obtain ⟨f,fr,cs⟩:=p
  rw [hf] at h
  have h':gH (.fn f) (Kw fr (Kw (args.map es.ds.rv) cs)) (Fp dst) call es=some es':=h
  rw [dT,dT,<- Bv] at h'
  obtain ⟨d,hp,nx,h1,h2⟩:=PL h'
  obtain ⟨n1,n2,g1,g2⟩:=hc _ _ _ _ _ _ _ h1 Cy
  refine ⟨(⟨n1,n2⟩:Gw es.ds ⟨es.ds.sv,hp.get,nx⟩).trans (by rw [h2];exact Gw.put _ _ _),g1,g2 es.ds.sv _ ?_⟩
  rw [<- h2];exact hK
 | none=>
  rw [hf] at h
  cases hy:(es.ds.ev x).tgY tb with
  | none=>rw [hy] at h;cases h
  | some i=>
   rw [hy] at h
   have h':gH (.yl i) (args.map es.ds.rv) (Fp dst) call es=some es':=h
   obtain ⟨d,hp,nx,h1,h2⟩:=PL h'
   obtain ⟨n1,n2,g2⟩:=hc _ _ _ _ _ _ _ h1 Cy
   refine ⟨(⟨n1,n2⟩:Gw es.ds ⟨es.ds.sv,hp.get,nx⟩).trans (by rw [h2];exact Gw.put _ _ _),g2 es.ds.sv _ ?_⟩
   show K _
   rw [<- h2];exact hK
theorem PI{s:DS}{k:Bool}{x:Operand}{l:List (DV×Upd)}(h:Vw s k x=some l):∀ p∈l,s.hasU p.2=true/\p.2.new=false:=by
 unfold Vw at h
 split at h
 .unfold pV at h
  repeat' (first | (cases h;done) | split at h)
  all_goals (cases h;intro p hp;rw [Aj] at hp;subst hp;exact ⟨rfl,rfl⟩)
 split at h
 .rename_i id hx
  split at h
  .cases h;intro p hp;rw [Aj] at hp;subst hp;exact ⟨rfl,rfl⟩
  .rename_i im since seen last hid
   split at h
   .split at h
    .cases h
    .cases h
     intro p hp
     obtain ⟨c,_,rfl⟩:=Bn.1 hp
     cases c with
     | none=>exact ⟨rfl,rfl⟩
     | some e=>exact ⟨by simp [jH,jI,DS.hasU,hid],rfl⟩
   .cases h
  .cases h
 .cases h
theorem we{s:DS}{u:Upd}(h:s.hasU u=true)(hn:u.new=false)(n:Nat):Gw s (s.upd n u):=by
 cases u with
 | keep=>exact Gw.of rfl rfl
 | lay o=>cases hn
 | mv Hr o=>cases hn
 | wr Za o=>
  refine ⟨Ag _,λid h1 h2=>?_⟩
  simp only [DS.upd,Upd.app,Gf] at h2
  split at h2
  .rename_i e;subst e;simp [DS.hasU,h1] at h
  .exact absurd h1 h2
theorem Cz4{k:Bool}{x:Operand}{dst:Option Nat}{call:Bg}{es es':ES}(h:YP k x (Fp dst) call es=some es'):∃ p,Vw es.ds k x=some [p]/\es'.ds=(es.ds.upd es.ds.nx p.2).put dst p.1/\Gw es.ds es'.ds:=by
 unfold YP at h
 split at h
 .rename_i p hp
  have h1:=PI hp p (by simp)
  split at h
  .cases h
  .cases h
   have e:(ES.mk es.sl (Lv es.hp es.nx p.2) es.nx).ds=es.ds.upd es.ds.nx p.2:=by
    simp only [ES.ds,Z0];rfl
   refine ⟨p,hp,by rw [eN,e],?_⟩
   rw [eN,e]
   exact (we h1.1 h1.2 _).trans (Gw.put _ _ _)
 .cases h
def Exd(s:DS)(o:DOp)(dst:Option Nat)(s':DS):Prop:=∃ d u,Ba s.nx s o=some (d,u)/\s'=({ s.upd s.nx u with nx:=if u.new then s.nx+1 else s.nx } : DS).put dst d
theorem DK{x:XU}{o:DOp}(hx:∀ es nid d u,x es nid=some (d,u)->Ba nid es.ds o=some (d,u)){dst:Option Nat}{call:Bg}{es es':ES}(h:sU (Fp dst) x call es=some es'):Exd es.ds o dst es'.ds:=by
 obtain ⟨⟨d,u⟩,h1,h2⟩:=Jo h
 have h3:Fv u.new (aX (es.nx+1) λn=>some ((ES.mk es.sl (Lv es.hp es.nx u) n).putE (Fp dst) d)) (some ((ES.mk es.sl (Lv es.hp es.nx u) es.nx).putE (Fp dst) d))=some es':=h2
 have hex:=hx _ _ _ _ h1
 rw [Sq,bM] at h3
 refine ⟨d,u,hex,?_⟩
 split at h3
 .rename_i hu
  cases h3
  rw [eN]
  simp only [ES.ds,Z0,hu]
  rfl
 .rename_i hu
  cases h3
  rw [eN]
  simp only [ES.ds,Z0,hu]
  rfl
theorem DJ{x:XP}{o:DOp}(hx:∀ es d,x es=some d->∀ nid,Ba nid es.ds o=some (d,.keep)){dst:Option Nat}{call:Bg}{es es':ES}(h:sX (Fp dst) x call es=some es'):Exd es.ds o dst es'.ds:=by
 obtain ⟨d,h1,h2⟩:=Jo h
 have h3:some (es.putE (Fp dst) d)=some es':=h2
 cases h3
 exact ⟨d,.keep,hx _ _ h1 _,eN _ _ _⟩
theorem Exd.gw{s s':DS}{o:DOp}{dst:Option Nat}(hf:s.Fr)(h:Exd s o dst s'):Gw s s':=by
 obtain ⟨d,u,h1,rfl⟩:=h
 exact (Ce0 hf (yn h1)).trans (Gw.put _ _ _)
theorem zl{dst:Option Nat}{op:DOp}{call:Bg}{es es':ES}(Xh:∀ f args,op≠.call f args)(eC:∀ tb x args,op≠.cv tb x args)(RS:∀ k x,op≠.nxm k x)(h:Su (Fp dst) op call es=some es'):Exd es.ds op dst es'.ds:=by
 by_cases iB:∃ x,op=.mv x
 .obtain ⟨x,rfl⟩:=iB
  have h3:some (es.putE (Fp dst) (Ad es (.of x)))=some es':=h
  cases h3
  exact ⟨es.ds.rv x,.keep,rfl,by rw [eN,Ts];rfl⟩
 .have He:Su (Fp dst) op=match Yd op with
   | some x=>sX (Fp dst) x
   | none=>sU (Fp dst) (Ue op):=by
   cases op <;> first | rfl | (exact absurd ⟨_,rfl⟩ iB) | (exact absurd rfl (Xh _ _)) | (exact absurd rfl (eC _ _ _)) | (exact absurd rfl (RS _ _))
  rw [He] at h
  cases hx:Yd op with
  | some x=>
   rw [hx] at h
   exact DJ (λes d hd nid=>Bu8 hx hd nid) h
  | none=>
   rw [hx] at h
   exact DK (λes nid d u hd=>VQ hd) h
theorem UH{P:Program}{call:Bg}(hc:Uw P call){r:DR}{es es':ES}(h:Su (Fp r.dst) r.op call es=some es')(Cy:es.ds.Fr){K:DS->Prop}(hK:K es'.ds):Gw es.ds es'.ds/\Nd P r es.ds K:=by
 by_cases Tz:∃ f args,r.op=.call f args
 .obtain ⟨f,args,ho⟩:=Tz
  rw [ho] at h
  obtain ⟨g0,g1,g2⟩:=B69 hc h Cy hK
  refine ⟨g0,?_⟩
  unfold Nd
  rw [ho]
  exact ⟨g1,g2.k⟩
 .by_cases lN:∃ tb x args,r.op=.cv tb x args
  .obtain ⟨tb,x,args,ho⟩:=lN
   rw [ho] at h
   obtain ⟨g0,h1⟩:=Cz3 hc h Cy hK
   refine ⟨g0,?_⟩
   unfold Nd
   rw [ho]
   simp only
   cases hf:(es.ds.ev x).tgt tb with
   | some p=>
    rw [hf] at h1
    exact ⟨h1.1,h1.2.k⟩
   | none=>
    rw [hf] at h1
    simp only at h1 ⊢
    cases hy:(es.ds.ev x).tgY tb with
    | none=>rw [hy] at h1;exact h1
    | some i=>rw [hy] at h1;exact h1
  .by_cases Tw:∃ k x,r.op=.nxm k x
   .obtain ⟨k,x,ho⟩:=Tw
    rw [ho] at h
    obtain ⟨p,h1,h2,h3⟩:=Cz4 (call:=call) (es:=es) (k:=k) (x:=x) (dst:=r.dst) h
    refine ⟨h3,?_⟩
    unfold Nd
    rw [ho]
    simp only [h1]
    intro q hq
    rw [Aj] at hq
    subst hq
    rw [<- h2];exact hK
   .have hex:=zl (λf args e=>Tz ⟨f,args,e⟩) (λtb x args e=>lN ⟨tb,x,args,e⟩) (λk x e=>Tw ⟨k,x,e⟩) h
    refine ⟨hex.gw Cy,?_⟩
    obtain ⟨d,u,h1,h2⟩:=hex
    unfold Nd
    split
    .rename_i f args ho;exact absurd ⟨f,args,ho⟩ Tz
    .rename_i tb x args ho;exact absurd ⟨tb,x,args,ho⟩ lN
    .rename_i k x ho;exact absurd ⟨k,x,ho⟩ Tw
    .unfold exec
     rw [h1]
     simp only
     rw [<- h2];exact hK
theorem wb{P:Program}{call:Bg}(hc:Uw P call){r:DR}{es es':ES}(h:Ye r call es=some es')(Cy:es.ds.Fr):Gw es.ds es'.ds/\∀ {rest:List DR} {K:DS->Prop},bK P rest es'.ds K->bK P (r::rest) es.ds K:=by
 unfold Ye at h
 simp only [bK]
 cases hg:r.g with
 | none=>
  rw [hg] at h
  simp only [DS.wanted]
  exact ⟨(UH hc h Cy (K:=λ_=>True) trivial).1,λ{rest K} hK=>(UH hc h Cy (K:=λs'=>bK P rest s' K) hK).2⟩
 | some p=>
  obtain ⟨t,b⟩:=p
  rw [hg] at h
  simp only at h
  obtain ⟨c,h1,h2⟩:=Jo h
  rw [Bi8] at h1
  rw [h1]
  cases c with
  | true=>exact ⟨(UH hc h2 Cy (K:=λ_=>True) trivial).1,λ{rest K} hK=>(UH hc h2 Cy (K:=λs'=>bK P rest s' K) hK).2⟩
  | false=>
   have h3:some (es.putE (Fp r.dst) (.v undef))=some es':=h2
   cases h3
   rw [eN]
   exact ⟨Gw.put _ _ _,λ{rest K} hK=>hK⟩
theorem Bu9{P:Program}{call:Bg}(hc:Uw P call):∀ (ops:List DR) (es es':ES),mR ops call es=some es'->es.ds.Fr->Gw es.ds es'.ds/\∀ K:DS->Prop,K es'.ds->bK P ops es.ds K
 | [],es,es',h,_=>by
  have h3:some es=some es':=h
  cases h3
  exact ⟨Gw.refl _,λK hK=>hK⟩
 | r::rest,es,es',h,Cy=>by
  have h':sq (Ye r) (mR rest) call es=some es':=h
  obtain ⟨e1,h1,h2⟩:=Jo h'
  obtain ⟨g1,k1⟩:=wb hc h1 Cy
  obtain ⟨g2,k2⟩:=Bu9 hc rest e1 es' h2 (Gw.fr Cy g1)
  exact ⟨g1.trans g2,λK hK=>k1 (k2 K hK)⟩
end Go.DD

/- The evaluator's regions that draw their order: what each step has done. -/
namespace Go.DD
structure Rec where
 d:DV
 lay:Option DObj
 tgt:Option Nat
 ob:DObj
 mn:Bool
 H:Nat->Option DObj
 N:Nat
def Rec.nil:Rec:=⟨.any,none,none,.row 0 [],false,λ_=>none,0⟩
def PV(P:Program)(op:DOp)(s:DS)(d:DV)(H:Nat->Option DObj)(N:Nat):Prop:=match op with
 | .call f args=>∀ sv,Zq P f (args.map s.rv) ⟨sv,s.ho,s.nx⟩ d H N
 | .cv tb x args=>∃ f fr cs,(s.ev x).tgt tb=some (f,fr,cs)/\∀ sv,Zq P f (fr++args.map s.rv++cs) ⟨sv,s.ho,s.nx⟩ d H N
 | op=>∃ u,s.hasU u=true/\Ba s.nx s op=some (d,u)/\H=u.app s.nx s.ho/\N=if u.new then s.nx+1 else s.nx
theorem Exd.main{P:Program}{s s':DS}{o:DOp}{dst:Option Nat}(h:Exd s o dst s')(Xh:∀ f args,o≠.call f args)(eC:∀ tb x args,o≠.cv tb x args):∃ d,s'.sv=(s.put dst d).sv/\PV P o s d s'.ho s'.nx:=by
 obtain ⟨d,u,h1,rfl⟩:=h
 refine ⟨d,by cases dst <;> rfl,?_⟩
 have key:∃ u',s.hasU u'=true/\Ba s.nx s o=some (d,u')/\(({ s.upd s.nx u with nx:=if u.new then s.nx+1 else s.nx } : DS).put dst d).ho=u'.app s.nx s.ho/\(({ s.upd s.nx u with nx:=if u.new then s.nx+1 else s.nx } : DS).put dst d).nx=if u'.new then s.nx+1 else s.nx:=
  ⟨u,yn h1,h1,by rw [DS.ho_put];rfl,by rw [DS.nx_put]⟩
 unfold PV
 split
 .rename_i f args;exact absurd rfl (Xh f args)
 .rename_i tb x args;exact absurd rfl (eC tb x args)
 .exact key
theorem B70{P:Program}{call:Bg}(hc:Uw P call){dst:Option Nat}{op:DOp}{es es':ES}(h:Ys (Fp dst) op call es=some es')(Cy:es.ds.Fr) :
  ∃ d,Gw es.ds es'.ds/\es'.ds.sv=(es.ds.put dst d).sv/\PV P op es.ds d es'.ds.ho es'.ds.nx:=by
 have Ut:∀ {f:Nat} {ds:List DV} {d:DV} {hp:Tr DObj} {nx:Nat},call (.fn f) ds es.hp es.nx=some (d,hp,nx)->es'.ds=(⟨es.ds.sv,hp.get,nx⟩:DS).put dst d->
   Gw es.ds es'.ds/\es'.ds.sv=(es.ds.put dst d).sv/\∀ sv,Zq P f ds ⟨sv,es.ds.ho,es.ds.nx⟩ d es'.ds.ho es'.ds.nx:=λ{f ds d hp nx} h1 h2=>by
  obtain ⟨n1,n2,g1,g2⟩:=hc _ _ _ _ _ _ _ h1 Cy
  refine ⟨(⟨n1,n2⟩:Gw es.ds ⟨es.ds.sv,hp.get,nx⟩).trans (by rw [h2];exact Gw.put _ _ _),by rw [h2];cases dst <;> rfl,λsv=>⟨g1,?_⟩⟩
  rcases g2 sv (λs' d'=>d'=d/\s'.ho=es'.ds.ho/\s'.nx=es'.ds.nx) ⟨rfl,by rw [h2,DS.ho_put],by rw [h2,DS.nx_put]⟩ with h | ⟨d0,k1,k2,k3⟩
  .exact .inl h
  .obtain ⟨rfl,k4,k5⟩:=k3
   exact .inr ⟨k4.symm,k5.symm,k1,k2⟩
 by_cases Tz:∃ f args,op=.call f args
 .obtain ⟨f,args,rfl⟩:=Tz
  have h':Bj f (args.map EO.of) (Fp dst) call es=some es':=h
  unfold Bj at h'
  rw [PW] at h'
  obtain ⟨d,hp,nx,h1,h2⟩:=PL h'
  obtain ⟨g1,g2,g3⟩:=Ut h1 h2
  exact ⟨d,g1,g2,g3⟩
 .by_cases lN:∃ tb x args,op=.cv tb x args
  .obtain ⟨tb,x,args,rfl⟩:=lN
   have h':jF tb (.of x) (args.map EO.of) (Fp dst) call es=some es':=h
   unfold jF at h'
   rw [lY,PW] at h'
   obtain ⟨⟨f,fr,cs⟩,hf,h'⟩:=Jo h'
   have SK:gH (.fn f) (Kw fr (Kw (args.map es.ds.rv) cs)) (Fp dst) call es=some es':=h'
   rw [dT,dT,<- Bv] at SK
   obtain ⟨d,hp,nx,h1,h2⟩:=PL SK
   obtain ⟨g1,g2,g3⟩:=Ut h1 h2
   exact ⟨d,g1,g2,f,fr,cs,hf,g3⟩
  .by_cases Tw:∃ k x,op=.nxm k x
   .obtain ⟨k,x,rfl⟩:=Tw
    cases h
   .have Xh:∀ f args,op≠.call f args:=λf args e=>Tz ⟨f,args,e⟩
    have eC:∀ tb x args,op≠.cv tb x args:=λtb x args e=>lN ⟨tb,x,args,e⟩
    have RS:∀ k x,op≠.nxm k x:=λk x e=>Tw ⟨k,x,e⟩
    have he:Ys (Fp dst) op=Su (Fp dst) op:=by
     unfold Ys
     split
     .exact absurd rfl (eC _ _ _)
     .exact absurd rfl (RS _ _)
     .rfl
    rw [he] at h
    have hex:=zl Xh eC RS h
    obtain ⟨d,g1,g2⟩:=hex.main (P:=P) Xh eC
    exact ⟨d,hex.gw Cy,g1,g2⟩
def dR(s:DS)(o:DOp)(id:Nat):Prop:=∃ t,.tmp t∈o.opnds/\id∈(s.sv t).refs
theorem refsL_mem(es:ES)(o:DOp)(id:Nat):id∈refsL es ((gG o).map Cq)↔dR es.ds o id:=by
 have key:∀ l:List Nat,id∈refsL es (l.map Cq)↔∃ t∈l,id∈(es.ds.sv t).refs:=by
  intro l
  induction l with
  | nil=>exact ⟨λh=>(by cases h),λ⟨t,h,_⟩=>(by cases h)⟩
  | cons t l ih=>
   have e:refsL es ((t::l).map Cq)=Kw (Uz (Ad es (.t (Cq t)))) (refsL es (l.map Cq)):=rfl
   rw [e,dT,AA,uv,Ax,ih]
   constructor
   .rintro (h | ⟨u,hu,h⟩)
    .exact ⟨t,by simp,h⟩
    .exact ⟨u,by simp [hu],h⟩
   .rintro ⟨u,hu,h⟩
    rcases Ap.1 hu with rfl | hu
    .exact .inl h
    .exact .inr ⟨u,hu,h⟩
 rw [key]
 unfold dR gG
 constructor
 .rintro ⟨t,ht,h⟩
  obtain ⟨x,hx,hxt⟩:=Gq.1 ht
  cases x <;> simp at hxt
  subst hxt
  exact ⟨_,hx,h⟩
 .rintro ⟨t,ht,h⟩
  exact ⟨t,Gq.2 ⟨_,ht,rfl⟩,h⟩
def uN(n0 m:Nat)(an:List Nat)(s:DS)(id:Nat):Prop:=(s.ho id).isSome=true/\(id<n0\/n0+m<=id\/an.contains (id-n0)=true)
theorem B71{n0 m:Nat}{an:List Nat}{es:ES}{id:Nat}(h:Cp n0 m an es.hp id=true):uN n0 m an es.ds id:=by
 unfold Cp at h
 simp only [Sq,qM,Kn] at h
 split at h
 .rename_i h1
  refine ⟨h1,?_⟩
  split at h
  .rename_i h2;exact .inl (by simpa [Kq] using h2)
  .split at h
   .rename_i h3;exact .inr (.inl (by simpa [Oz] using h3))
   .exact .inr (.inr h)
 .cases h
theorem A13(n0:Nat):∀ (js:List Nat) (hp:Tr DObj),(T9 n0 hp js).get=λid=>if ∃ j∈js,id=n0+j then none else hp.get id
 | [],hp=>by funext id;simp [T9]
 | j::js,hp=>by
  funext id
  simp only [T9]
  rw [A13 n0 js,Tr.set_ho]
  by_cases h1:∃ j∈js,id=n0+j
  .simp only [h1,Gl]
   rw [Af]
   obtain ⟨x,hx,e⟩:=h1
   exact ⟨x,by simp [hx],e⟩
  .simp only [h1,Kp,Gf]
   by_cases h2:id=n0+j
   .rw [Af h2,Af ⟨j,by simp,h2⟩]
   .rw [Ae h2,Ae]
    rintro ⟨x,hx,e⟩
    rcases Ap.1 hx with rfl | hx
    .exact h2 e
    .exact h1 ⟨x,hx,e⟩
theorem Bi9(n0:Nat)(Hr:Tr DObj):∀ (js:List Nat) (hp:Tr DObj),(Tm n0 Hr hp js).get=λid=>if ∃ j∈js,id=n0+j then Hr.get id else hp.get id
 | [],hp=>by funext id;simp [Tm]
 | j::js,hp=>by
  funext id
  simp only [Tm]
  rw [Bi9 n0 Hr js,Tr.set_ho]
  by_cases h1:∃ j∈js,id=n0+j
  .simp only [h1,Gl]
   rw [Af]
   obtain ⟨x,hx,e⟩:=h1
   exact ⟨x,by simp [hx],e⟩
  .simp only [h1,Kp,Gf]
   by_cases h2:id=n0+j
   .rw [Af h2,Af ⟨j,by simp,h2⟩,h2]
   .rw [Ae h2,Ae]
    rintro ⟨x,hx,e⟩
    rcases Ap.1 hx with rfl | hx
    .exact h2 e
    .exact h1 ⟨x,hx,e⟩
inductive Sem (P:Program) (n0 m i:Nat) (r:DR) (o:OI) (δ δ':DSt) (ρ:Rec):Prop
 | off (hw:δ.es.ds.wanted r.g=some false) (hd:ρ.d=.v undef) (hl:ρ.lay=none) (ht:ρ.tgt=none) (hm:ρ.mn=false) (he:δ'.es.ds=δ.es.ds.put r.dst (.v undef)) (Gi:δ'.lo=δ.lo) (Mc:δ'.ws=δ.ws) (Gy:δ'.ps=δ.ps)
 | read (hw:δ.es.ds.wanted r.g=some true) (Kz:∀ id,dR δ.es.ds r.op id->uN n0 m o.an δ.es.ds id) (hx:Ba (n0+i) δ.es.ds r.op=some (ρ.d,.keep))
   (hl:ρ.lay=none) (ht:ρ.tgt=none) (hm:ρ.mn=false) (he:δ'.es.ds=δ.es.ds.put r.dst ρ.d) (Gi:δ'.lo=δ.lo) (Mc:∀ w∈δ.ws,w∈δ'.ws) (Ta:o.wide=true->∀ id,dR δ.es.ds r.op id->⟨i,o.an,id,δ.lo.contains (id-n0),r.op.rdC⟩∈δ'.ws) (Gy:δ'.ps=δ.ps)
 | lay (ob:DObj) (hw:δ.es.ds.wanted r.g=some true) (Kz:∀ id,dR δ.es.ds r.op id->uN n0 m o.an δ.es.ds id) (hx:Ba (n0+i) δ.es.ds r.op=some (ρ.d,.lay ob))
   (hl:ρ.lay=some ob) (ht:ρ.tgt=none) (hm:ρ.mn=false) (he:δ'.es.ds=(⟨δ.es.ds.sv,Gf δ.es.ds.ho (n0+i) (some ob),δ.es.ds.nx⟩:DS).put r.dst ρ.d) (Gi:δ'.lo=i::δ.lo) (Mc:∀ w∈δ.ws,w∈δ'.ws) (Ta:o.wide=true->∀ id,dR δ.es.ds r.op id->⟨i,o.an,id,δ.lo.contains (id-n0),r.op.rdC⟩∈δ'.ws) (Gy:δ'.ps=δ.ps)
 | wr (ob:DObj) (hw:δ.es.ds.wanted r.g=some true) (hc:o.cls≠0/\o.cls≠1/\o.cls≠2) (Kz:∀ id,dR δ.es.ds r.op id->uN n0 m o.an δ.es.ds id) (hx:Ba (n0+i) δ.es.ds r.op=some (ρ.d,.wr (n0+o.tgt) ob))
   (Rt:∀ id,dR δ.es.ds r.op id->id=n0+o.tgt) (Et:o.tgt∈δ.lo) (Jx:o.an.contains o.tgt=true)
   (hl:ρ.lay=none) (ht:ρ.tgt=some o.tgt) (jQ:ρ.ob=ob) (hm:ρ.mn=false) (he:δ'.es.ds=(⟨δ.es.ds.sv,Gf δ.es.ds.ho (n0+o.tgt) (some ob),δ.es.ds.nx⟩:DS).put r.dst ρ.d) (Gi:δ'.lo=δ.lo) (Mc:δ'.ws=δ.ws) (Gy:δ'.ps=δ.ps)
 | main (hid:List Nat) (hs:DS) (Sh:hid=δ.lo.filter λj=>!o.an.contains j) (eE:hs=⟨δ.es.ds.sv,(λid=>if ∃ j∈hid,id=n0+j then none else δ.es.ds.ho id),δ.es.ds.nx⟩) (hw:δ.es.ds.wanted r.g=some true) (hc:o.cls=2) (Kz:∀ id,dR δ.es.ds r.op id->uN n0 m o.an δ.es.ds id)
   (hx:PV P r.op hs ρ.d ρ.H ρ.N) (hg:Gw hs ⟨δ.es.ds.sv,ρ.H,ρ.N⟩)
   (hl:ρ.lay=none) (ht:ρ.tgt=none) (hm:ρ.mn=true) (he:δ'.es.ds=(⟨δ.es.ds.sv,(λid=>if ∃ j∈hid,id=n0+j then δ.es.ds.ho id else ρ.H id),ρ.N⟩:DS).put r.dst ρ.d) (Gi:δ'.lo=hid) (Mc:δ'.ws=δ.ws) (Gy:δ'.ps=⟨i,o.an,δ.es.hp,δ'.es.hp⟩::δ.ps)
theorem Bv0{s:DS}(h:s.Fr)(f:Nat->Prop)[DecidablePred f]:(⟨s.sv,(λid=>if f id then none else s.ho id),s.nx⟩:DS).Fr:=λid hi=>by
 show (if f id then none else s.ho id)=none
 split
 .rfl
 .exact h id hi
theorem put_eq(s:DS)(dst:Option Nat)(d:DV):s.put dst d=⟨(s.put dst d).sv,s.ho,s.nx⟩:=by cases dst <;> rfl
theorem Cz5{s t:DS}(h:s.sv=t.sv)(dst:Option Nat)(d:DV):(s.put dst d).sv=(t.put dst d).sv:=by cases dst <;> simp [DS.put,h]
theorem Rv(es:ES):es.ds=⟨es.ds.sv,es.hp.get,es.nx⟩:=rfl
theorem B72{x:XU}{nid:Nat}{es:ES}{d:DV}(h:Fu x nid es=some d):x es nid=some (d,.keep):=by
 obtain ⟨⟨d',u⟩,h1,h2⟩:=Jo h
 cases u with
 | keep=>have h3:some d'=some d:=h2;cases h3;exact h1
 | _=>cases h2
theorem A99{i n0:Nat}{an:List Nat}{wide c:Bool}{refs lo:List Nat}{ws:List Look} : (∀ w∈ws,w∈Gg i an wide c refs n0 lo ws)/\(wide=true->∀ id∈refs,(⟨i,an,id,lo.contains (id-n0),c⟩:Look)∈Gg i an wide c refs n0 lo ws):=by
 unfold Gg
 rw [Sq,dT,qL]
 constructor
 .intro w hw
  split
  .simp [hw]
  .exact hw
 .intro h id hid
  rw [Af h]
  exact Cj _ (Bn.2 ⟨id,hid,rfl⟩)
theorem Bj0{P:Program}{call:Bg}(hc:Uw P call){n0 m i:Nat}{r:DR}{o:OI}{δ δ':DSt}(Cy:δ.es.ds.Fr)(hw:δ.es.ds.wanted r.g=some true)(h:uF i r o call n0 m δ=some δ'):∃ ρ,Sem P n0 m i r o δ δ' ρ:=by
 unfold uF Bx at h
 obtain ⟨h1,h⟩:=dZ h
 rw [OX] at h1
 have Kz:∀ id,dR δ.es.ds r.op id->uN n0 m o.an δ.es.ds id:=λid hid=>B71 (Bd.1 h1 id ((refsL_mem _ _ _).2 hid))
 obtain ⟨es,lo,ws,ps⟩:=δ
 obtain ⟨sl,hp,nx⟩:=es
 have h4c:o.cls=2\/o.cls=0\/o.cls=1\/∃ n,o.cls=n+3:=by
  rcases Cr o.cls 3 with h | h
  .omega
  .exact .inr (.inr (.inr ⟨o.cls-3,by omega⟩))
 rcases h4c with cY | cY | cY | ⟨n,cY⟩
 .rw [cY] at h
  replace h:Cx i o.an (Ys (Fp r.dst) r.op) call n0 m ⟨⟨sl,hp,nx⟩,lo,ws,ps⟩=some δ':=h
  unfold Cx at h
  have h':E1 (lo.filter λj=>!o.an.contains j) (λhid=>Option.rec (motive:=λ_=>Option DSt) none (λes'=>es'.cs λYO An Bm=>Fv (Nat.ble nx Bm) (some ⟨⟨YO,Tm n0 hp An hid,Bm⟩,hid,ws,⟨i,o.an,hp,Tm n0 hp An hid⟩::ps⟩) none) (Ys (Fp r.dst) r.op call ⟨sl,T9 n0 hp hid,nx⟩))=some δ':=h
  rw [UR] at h'
  obtain ⟨es',h2,h3⟩:=Jo h'
  rw [dH] at h3
  obtain ⟨_,h4⟩:=dZ h3
  cases h4
  have SB:(⟨sl,T9 n0 hp (lo.filter λj=>!o.an.contains j),nx⟩:ES).ds=⟨(ES.mk sl hp nx).ds.sv,(λid=>if ∃ j∈(lo.filter λj=>!o.an.contains j),id=n0+j then none else (ES.mk sl hp nx).ds.ho id),(ES.mk sl hp nx).ds.nx⟩:=by
   rw [Rv,A13];rfl
  obtain ⟨d,g1,g2,g3⟩:=B70 hc h2 (by rw [SB];exact Bv0 Cy _)
  rw [SB] at g1 g2 g3
  refine ⟨⟨d,none,none,.row 0 [],true,es'.ds.ho,es'.ds.nx⟩,.main _ _ rfl rfl hw cY Kz g3 (g1.congr rfl rfl rfl rfl) rfl rfl rfl ?_ rfl rfl rfl⟩
  rw [Rv,Bi9]
  rw [put_eq]
  have e:(ES.mk es'.sl (Tm n0 hp es'.hp (lo.filter λj=>!o.an.contains j)) es'.nx).ds.sv=es'.ds.sv:=rfl
  rw [e,g2]
  congr 1
  exact Cz5 (by rfl) _ _
 .rw [cY] at h
  replace h:Ch i o.an o.wide r.op.rdC (Fp r.dst) (match r.op with
   | .mv x=>λ_ es=>some (Ad es (.of x))
   | op=>match Yd op with
    | some x=>λ_=>x
    | none=>Fu (Ue op)) ((gG r.op).map Cq) call n0 m ⟨⟨sl,hp,nx⟩,lo,ws,ps⟩=some δ':=h
  unfold Ch at h
  obtain ⟨v,h2,h3⟩:=Jo h
  have h4:some (⟨(ES.mk sl hp nx).putE (Fp r.dst) v,lo,Gg i o.an o.wide r.op.rdC (refsL ⟨sl,hp,nx⟩ ((gG r.op).map Cq)) n0 lo ws,ps⟩:DSt)=some δ':=h3
  cases h4
  have hx:Ba (n0+i) (ES.mk sl hp nx).ds r.op=some (v,.keep):=by
   by_cases iB:∃ x,r.op=.mv x
   .obtain ⟨x,ho⟩:=iB
    rw [ho] at h2
    have h5:some (Ad ⟨sl,hp,nx⟩ (.of x))=some v:=h2
    cases h5
    rw [Ts,ho];rfl
   .have He:(match r.op with
     | .mv x=>λ_ es=>some (Ad es (.of x))
     | op=>match Yd op with
      | some x=>λ_=>x
      | none=>Fu (Ue op):Nat->XP)=match Yd r.op with
      | some x=>λ_=>x
      | none=>Fu (Ue r.op):=by
     generalize r.op=op at iB
     cases op <;> first | rfl | (exact absurd ⟨_,rfl⟩ iB)
    rw [He] at h2
    cases hx:Yd r.op with
    | some x=>rw [hx] at h2;exact Bu8 hx h2 _
    | none=>rw [hx] at h2;exact VQ (B72 h2)
  obtain ⟨w1,w2⟩:=@A99 i n0 o.an o.wide r.op.rdC (refsL ⟨sl,hp,nx⟩ ((gG r.op).map Cq)) lo ws
  exact ⟨⟨v,none,none,.row 0 [],false,λ_=>none,0⟩,.read hw Kz hx rfl rfl rfl (eN _ _ _) rfl w1 (λdu id hid=>w2 du id ((refsL_mem _ _ _).2 hid)) rfl⟩
 .rw [cY] at h
  replace h:Qa i o.an o.wide r.op.rdC (Fp r.dst) (Ue r.op) ((gG r.op).map Cq) call n0 m ⟨⟨sl,hp,nx⟩,lo,ws,ps⟩=some δ':=h
  unfold Qa at h
  have h':aX (n0+i) (λnid=>Option.rec (motive:=λ_=>Option DSt) none (λp=>Upd.casesOn (motive:=λ_=>Option DSt) p.2 none
   (λob=>some ⟨(ES.mk sl (Ka hp nid (some ob)) nx).putE (Fp r.dst) p.1,i::lo,Gg i o.an o.wide r.op.rdC (refsL ⟨sl,hp,nx⟩ ((gG r.op).map Cq)) n0 lo ws,ps⟩) (λ_ _=>none) (λ_ _=>none)) (Ue r.op ⟨sl,hp,nx⟩ nid))=some δ':=h
  rw [bM] at h'
  obtain ⟨⟨d,u⟩,h2,h3⟩:=Jo h'
  cases u with
  | lay ob=>
   have h4:some (⟨(ES.mk sl (Ka hp (n0+i) (some ob)) nx).putE (Fp r.dst) d,i::lo,Gg i o.an o.wide r.op.rdC (refsL ⟨sl,hp,nx⟩ ((gG r.op).map Cq)) n0 lo ws,ps⟩:DSt)=some δ':=h3
   cases h4
   obtain ⟨w1,w2⟩:=@A99 i n0 o.an o.wide r.op.rdC (refsL ⟨sl,hp,nx⟩ ((gG r.op).map Cq)) lo ws
   refine ⟨⟨d,some ob,none,.row 0 [],false,λ_=>none,0⟩,.lay ob hw Kz (VQ h2) rfl rfl rfl ?_ rfl w1 (λdu id hid=>w2 du id ((refsL_mem _ _ _).2 hid)) rfl⟩
   show (ES.putE _ _ _).ds=_
   rw [eN,Rv]
   show (DS.mk _ (Ka hp (n0+i) (some ob)).get nx).put _ _=_
   rw [T8];rfl
  | _=>cases h3
 .rw [cY] at h
  replace h:B5 i o.an o.tgt (Fp r.dst) (Ue r.op) ((gG r.op).map Cq) call n0 m ⟨⟨sl,hp,nx⟩,lo,ws,ps⟩=some δ':=h
  unfold B5 at h
  obtain ⟨⟨d,u⟩,h2,h3⟩:=Jo h
  cases u with
  | wr id ob=>
   have h4:Fv (Nat.beq id (n0+o.tgt)&&lo.contains o.tgt&&o.an.contains o.tgt&&Tp (refsL ⟨sl,hp,nx⟩ ((gG r.op).map Cq)) (λr=>Nat.beq r (n0+o.tgt))) (some (⟨(ES.mk sl (Ka hp id (some ob)) nx).putE (Fp r.dst) d,lo,ws,ps⟩:DSt)) none=some δ':=h3
   obtain ⟨h5,h6⟩:=dZ h4
   simp only [Bo,OX] at h5
   obtain ⟨⟨⟨e1,e2⟩,e3⟩,e4⟩:=h5
   have e1:id=n0+o.tgt:=Fc e1
   subst e1
   cases h6
   refine ⟨⟨d,none,some o.tgt,ob,false,λ_=>none,0⟩,.wr ob hw ⟨by omega,by omega,by omega⟩ Kz (VQ h2) (λid hid=>Fc (Bd.1 e4 id ((refsL_mem _ _ _).2 hid))) (by simpa using e2) e3 rfl rfl rfl rfl ?_ rfl rfl rfl⟩
   show (ES.putE _ _ _).ds=_
   rw [eN,Rv]
   show (DS.mk _ (Ka hp (n0+o.tgt) (some ob)).get nx).put _ _=_
   rw [T8];rfl
  | _=>cases h3
theorem Ba0{P:Program}{call:Bg}(hc:Uw P call){n0 m i:Nat}{r:DR}{o:OI}{δ δ':DSt}(Cy:δ.es.ds.Fr)(h:dE i r o call n0 m δ=some δ'):∃ ρ,Sem P n0 m i r o δ δ' ρ:=by
 unfold dE at h
 cases hg:r.g with
 | none=>
  rw [hg] at h
  exact Bj0 hc Cy (by rw [hg];rfl) h
 | some p=>
  obtain ⟨t,b⟩:=p
  rw [hg] at h
  simp only at h
  obtain ⟨c,h1,h2⟩:=Jo h
  rw [Bi8] at h1
  cases c with
  | true=>exact Bj0 hc Cy (by rw [hg];exact h1) h2
  | false=>
   have h3:some (⟨δ.es.putE (Fp r.dst) (.v undef),δ.lo,δ.ws,δ.ps⟩:DSt)=some δ':=h2
   cases h3
   exact ⟨⟨.v undef,none,none,.row 0 [],false,λ_=>none,0⟩,.off (by rw [hg];exact h1) rfl rfl rfl rfl (eN _ _ _) rfl rfl rfl⟩
end Go.DD

/- The evaluator's regions that draw their order: the run in the text's order serves every order. -/
namespace Go.DD
def Wh(rs:List DR)(i:Nat):Nat:=((rs[i]?).map λr=>if (TZ rs r.op).isSome then 3 else r.op.kind).getD 0
def Le(rs:List DR)(r:DR):Nat:=(TZ rs r.op).getD 0
def lX(rs:List DR):List Nat:=(List.range rs.length).filter λi=>Wh rs i==2
theorem HV(rs:List DR)(i:Nat):Wh rs i<=3:=by
 unfold Wh
 cases rs[i]? with
 | none=>simp
 | some r=>
  simp only [Ca,Hq]
  split
  .omega
  .have:r.op.kind<=2:=by cases r.op <;> simp [DOp.kind]
   omega
theorem Ce1(rs:List DR)(i:Nat):(((List.range rs.length).map (Wh rs))[i]?).getD 0=Wh rs i:=by
 by_cases h:i<rs.length
 .simp [h]
 .simp [h,Wh]
def be(rs:List DR):Bool:=
  (rs.zipIdx.all λ(r,i)=>(r.pre.all λj=>decide (j<i)) &&
   (match r.dst with | some t=>Th rs t==some i | none=>true) &&
   r.tmps.all λt=>match Th rs t with | some p=>Eu rs i p||Eu rs p i||p==i | none=>true) &&
  ((lX rs).all λb=>(lX rs).all λa=>!(decide (a<b))||Eu rs b a) &&
  ((rs.zipIdx.map λ(r,i)=>{ an:=Uv rs i,cls:=Wh rs i,tgt:=Le rs r,wide:=(lX rs).any λq=>!Eu rs q i && !Eu rs i q:OI }).zipIdx.all λ(o,w)=>o.cls != 3||(Eu rs w o.tgt&&(List.range rs.length).all λi=>!Eu rs i o.tgt||Eu rs i w||Eu rs w i||w==i))
theorem VP(rs:List DR):kU rs = { l:=rs.zipIdx.map λ(r,i)=>{ an:=Uv rs i,cls:=Wh rs i,tgt:=Le rs r,wide:=(lX rs).any λq=>!Eu rs q i && !Eu rs i q:OI },ok:=be rs }:=by
 have e:(λi=>(((List.range rs.length).map (Wh rs))[i]?).getD 0)=Wh rs:=funext λi=>Ce1 rs i
 have e':∀ i,(((List.range rs.length).map (Wh rs))[i]?).getD 0=Wh rs i:=Ce1 rs
 have h:kU rs=(λK:Nat->Nat=>({ l:=rs.zipIdx.map λ(r,i)=>{ an:=Uv rs i,cls:=K i,tgt:=Le rs r,wide:=((List.range rs.length).filter λi=>K i==2).any λq=>!Eu rs q i && !Eu rs i q:OI },ok:=
  (rs.zipIdx.all λ(r,i)=>(r.pre.all λj=>decide (j<i)) &&
   (match r.dst with | some t=>Th rs t==some i | none=>true) &&
   r.tmps.all λt=>match Th rs t with | some p=>Eu rs i p||Eu rs p i||p==i | none=>true) &&
  (((List.range rs.length).filter λi=>K i==2).all λb=>((List.range rs.length).filter λi=>K i==2).all λa=>!(decide (a<b))||Eu rs b a) &&
  ((rs.zipIdx.map λ(r,i)=>{ an:=Uv rs i,cls:=K i,tgt:=Le rs r,wide:=((List.range rs.length).filter λi=>K i==2).any λq=>!Eu rs q i && !Eu rs i q:OI }).zipIdx.all λ(o,w)=>o.cls != 3||(Eu rs w o.tgt&&(List.range rs.length).all λi=>!Eu rs i o.tgt||Eu rs i w||Eu rs w i||w==i)) } : RI)) (λi=>(((List.range rs.length).map (Wh rs))[i]?).getD 0):=rfl
 rw [h,e]
 rfl
theorem Bj1{rs:List DR}{i:Nat}{r:DR}(hr:rs[i]?=some r):(kU rs).l[i]?=some { an:=Uv rs i,cls:=Wh rs i,tgt:=Le rs r,wide:=(lX rs).any λq=>!Eu rs q i && !Eu rs i q:OI }:=by
 rw [VP]
 simp [Dr,List.getElem?_zipIdx,hr]
theorem B73(rs:List DR):(kU rs).l.length=rs.length:=by rw [VP];simp
theorem A14{α:Type}{l:List α}{i:Nat}{x:α}(h:l[i]?=some x):(x,i)∈l.zipIdx:=by
 rw [List.mem_zipIdx_iff_getElem?];exact h
structure OkI (rs:List DR):Prop where
 pre:∀ (k:Nat) (r:DR),rs[k]?=some r->∀ j∈r.pre,j<k
 dst:∀ (i:Nat) (r:DR) (t:Nat),rs[i]?=some r->r.dst=some t->Th rs t=some i
 rd:∀ (i:Nat) (r:DR) (t p:Nat),rs[i]?=some r->t∈r.tmps->Th rs t=some p->Eu rs i p=true\/Eu rs p i=true\/p=i
 ch:∀ a b,a<rs.length->b<rs.length->Wh rs a=2->Wh rs b=2->a<b->Eu rs b a=true
 wr:∀ (w:Nat) (r:DR),rs[w]?=some r->Wh rs w=3->Eu rs w (Le rs r)=true/\∀ i,i<rs.length->Eu rs i (Le rs r)=true->Eu rs i w=true\/Eu rs w i=true\/w=i
theorem Cz6{rs:List DR}(h:(kU rs).ok=true):OkI rs:=by
 rw [VP] at h
 replace h:be rs=true:=h
 unfold be at h
 rw [Bo,Bo] at h
 obtain ⟨⟨h1,h2⟩,h3⟩:=h
 have k1:∀ (i:Nat) (r:DR),rs[i]?=some r->_:=λi r hr=>Bd.1 h1 (r,i) (A14 hr)
 simp only [Bo] at k1
 have hm:∀ a,a<rs.length->Wh rs a=2->a∈lX rs:=λa h1 h2=>by simp [lX,h1,h2]
 refine ⟨λk r hr j hj=>?_,λi r t hr ht=>?_,λi r t p hr ht hp=>?_,λa b ha hb ka kb Et=>?_,λw r hr hk=>?_⟩
 .simpa using Bd.1 (k1 k r hr).1.1 j hj
 .have:=(k1 i r hr).1.2
  rw [ht] at this
  simpa using this
 .have:=Bd.1 (k1 i r hr).2 t ht
  rw [hp] at this
  simp only [Ii,Gp] at this
  rcases this with (h | h) | h
  .exact .inl h
  .exact .inr (.inl h)
  .exact .inr (.inr h)
 .have:=Bd.1 (Bd.1 h2 b (hm b hb kb)) a (hm a ha ka)
  simpa [Et] using this
 .have hl:=Bj1 hr
  rw [VP] at hl
  have:=Bd.1 h3 _ (A14 hl)
  simp only [hk,Ii,Bo] at this
  rcases this with h | ⟨h4,h5⟩
  .simp at h
  .refine ⟨h4,λi hi jV=>?_⟩
   have:=Bd.1 h5 i (by simpa using hi)
   simp only [jV,Bool.not_true,Gs,Ii,Gp] at this
   rcases this with (h | h) | h
   .exact .inl h
   .exact .inr (.inl h)
   .exact .inr (.inr h)
theorem Ba1:∀ (rs:List DR) (acc:List (List Nat)) (k:Nat) (r:DR) (l:List Nat),rs[k]?=some r->(∀ (k:Nat) (r:DR),rs[k]?=some r->∀ j∈r.pre,j<acc.length+k)->(Kx rs acc)[acc.length+k]?=some l->
  ∀ x,(x∈r.pre\/∃ j∈r.pre,∃ l',(Kx rs acc)[j]?=some l'/\x∈l')->x∈l
 | [],acc,k,r,l,h,_,_=>by simp at h
 | r0::rs,acc,0,r,l,h,hb,hl=>by
  simp at h;subst h
  intro x hx
  have cK:l=(r0.pre++r0.pre.flatMap λj=>(acc[j]?).getD []).eraseDups:=by
   simp only [Kx] at hl
   rw [PO rs _ _ (by simp)] at hl
   simpa using hl.symm
  rw [cK,Sc,Ax]
  rcases hx with hx | ⟨j,hj,l',lI,hx⟩
  .exact .inl hx
  .have Wb:j<acc.length:=hb 0 r0 rfl j hj
   refine .inr (Pc.2 ⟨j,hj,?_⟩)
   simp only [Kx] at lI
   rw [PO rs _ j (by simp;omega),Ci Wb] at lI
   rw [lI];exact hx
 | r0::rs,acc,k+1,r,l,h,hb,hl=>by
  have key:=Ba1 rs (acc ++ [(r0.pre++r0.pre.flatMap λj=>(acc[j]?).getD []).eraseDups]) k r l (by simpa using h)
   (λk' r' fI j hj=>by have:=hb (k'+1) r' (by simpa using fI) j hj;simp;omega)
   (by simp only [Kx] at hl;rw [<- hl];congr 1;simp;omega)
  simpa only [Kx] using key
section
variable {rs:List DR} (hI:OkI rs)
theorem uu{i:Nat}{r:DR}(hr:rs[i]?=some r):(Kx rs [])[i]?=some (Uv rs i):=by
 have oM:i<(Kx rs []).length:=by rw [UM];have:=(Aq.1 hr).1;simpa using this
 simp [Uv,Aa oM]
include hI
theorem TT{i:Nat}{r:DR}(hr:rs[i]?=some r)(x:Nat):Eu rs i x=true↔x∈r.pre\/∃ j∈r.pre,Eu rs j x=true:=by
 have hb:∀ (k:Nat) (r:DR),rs[k]?=some r->∀ j∈r.pre,j<([]:List (List Nat)).length+k:=λk r' hk j hj=>by have:=hI.pre k r' hk j hj;simp;omega
 have Ul:∀ j∈r.pre,∃ rj,rs[j]?=some rj:=λj hj=>by
  have h1:=hI.pre i r hr j hj
  have h2:=(Aq.1 hr).1
  exact ⟨rs[j],Aa (by omega)⟩
 constructor
 .intro h
  rcases VT rs [] i r _ hr hb (by simpa using uu hr) x (by simpa [Eu] using h) with h | ⟨j,hj,l',cK,hx⟩
  .exact .inl h
  .exact .inr ⟨j,hj,by simp [Eu,Uv,cK,hx]⟩
 .intro h
  have:=Ba1 rs [] i r _ hr hb (by simpa using uu hr) x (by
   rcases h with h | ⟨j,hj,h⟩
   .exact .inl h
   .obtain ⟨rj,RO⟩:=Ul j hj
    exact .inr ⟨j,hj,_,uu RO,by simpa [Eu] using h⟩)
  simpa [Eu] using this
theorem dM{i j:Nat}(hi:i<rs.length)(h:Eu rs i j=true):j<i:=by
 induction i using Nat.strongRecOn with
 | _ i ih=>
  have hr:rs[i]?=some rs[i]:=Aa hi
  rcases (TT hI hr j).1 h with h | ⟨x,hx,h⟩
  .exact hI.pre i _ hr j h
  .have h1:=hI.pre i _ hr x hx
   have:=ih x h1 (by omega) h
   omega
theorem B74{a b c:Nat}(ha:a<rs.length)(h1:Eu rs a b=true)(h2:Eu rs b c=true):Eu rs a c=true:=by
 induction a using Nat.strongRecOn with
 | _ a ih=>
  have hr:rs[a]?=some rs[a]:=Aa ha
  rcases (TT hI hr b).1 h1 with h | ⟨x,hx,h⟩
  .exact (TT hI hr c).2 (.inr ⟨b,h,h2⟩)
  .have RB:=hI.pre a _ hr x hx
   exact (TT hI hr c).2 (.inr ⟨x,hx,ih x RB (by omega) h⟩)
end
theorem zk:∀ {a b:Value},Qh a b=true->a=b:=by
 intro a b h
 unfold Qh at h
 split at h
 .simpa using h
 .simp only [Bo,Gp] at h;rw [h.1,h.2]
 .rename_i a b
  have h1:a.data.toList=b.data.toList:=by simpa using h
  have h2:a.data=b.data:=Jb.1 h1
  obtain ⟨a⟩:=a;obtain ⟨b⟩:=b
  simp only at h2;rw [h2]
 .rfl
 .simp only [Bo,Gp] at h;rw [h.1,h.2]
 .rfl
 .rfl
 .rfl
 .cases h
theorem Z8{f:DV->DV->Bool}(hf:∀ a b,f a b=true->a=b):∀ {a b:List DV},Je f a b=true->a=b
 | [],[],_=>rfl
 | a::as,b::bs,h=>by
  simp only [Je,Bo] at h
  rw [hf a b h.1,Z8 hf h.2]
 | [],_::_,h=>by cases h
 | _::_,[],h=>by cases h
theorem Bv2{a b:Fn}(h:uy a b=true):a=b:=by
 unfold uy at h
 split at h
 .rw [Gp.1 h]
 .cases h
theorem U4:∀ (n:Nat) (a b:DV),Nk n a b=true->a=b
 | 0,_,_,h=>by cases h
 | n+1,a,b,h=>by
  have ih:=U4 n
  cases a <;> cases b <;> simp only [Nk,Bo,Gp] at h <;> first
   | rfl
   | (cases h;done)
   | (rw [zk h];done)
   | (rw [Z8 ih h];done)
   | (rw [h.1,Z8 ih h.2];done)
   | (rw [Bv2 h.1,Z8 ih h.2];done)
   | (rw [h.1,ih _ _ h.2];done)
   | (rw [h];done)
   | (obtain ⟨⟨⟨h1,h2⟩,h3⟩,h4⟩:=h;rw [h1,h2,h3,h4];done)
   | (obtain ⟨h1,h2⟩:=h;rw [h1,h2];done)
theorem B75{a b:Value}(h:ux a b=true):a=b:=by
 unfold ux at h
 split at h
 .rename_i x y
  have key:∀ l m:List Value,Je (λx y=>match x,y with | .v x,.v y=>Qh x y | _,_=>false) (l.map .v) (m.map .v)=true->l=m:=by
   intro l
   induction l with
   | nil=>intro m h;cases m with
    | nil=>rfl
    | cons _ _=>simp [Je] at h
   | cons u l ih=>intro m h;cases m with
    | nil=>simp [Je] at h
    | cons v m=>
     simp only [Am,Je,Bo] at h
     rw [zk h.1,ih m h.2]
  rw [Jb.1 (key _ _ h)]
 .exact zk h
theorem Bj3{n:Nat} : ∀ {a b:List ME},Yt n a b=true->a=b
 | [],[],_=>rfl
 | ⟨k,v,c⟩::a,⟨k',v',c'⟩::b,h=>by
  simp only [Yt,Bo,Gp] at h
  obtain ⟨⟨⟨h1,h2⟩,h3⟩,h4⟩:=h
  rw [B75 h1,U4 n _ _ h2,h3,Bj3 h4]
 | [],_::_,h=>by simp [Yt] at h
 | _::_,[],h=>by simp [Yt] at h
theorem Ba2:∀ {a b:List Nat},AW a b=true->a=b
 | [],[],_=>rfl
 | x::a,y::b,h=>by
  simp only [AW,Bo,Gp] at h
  rw [h.1,Ba2 h.2]
 | [],_::_,h=>by simp [AW] at h
 | _::_,[],h=>by simp [AW] at h
theorem Bj4{a b:DObj}(h:gK a b=true):a=b:=by
 unfold gK at h
 split at h
 .simp only [Bo,Gp] at h
  rw [h.1,Z8 (U4 6) h.2]
 .simp only [Bo,Gp] at h
  rw [h.1,Bj3 h.2]
 .simp only [Bo,Gp] at h
  obtain ⟨⟨⟨h1,h2⟩,h3⟩,h4⟩:=h
  rw [U4 2 _ _ h1,h2,Ba2 h3,h4]
 .cases h
theorem Bv3{a b:Tr DObj}{id:Nat}(h:sameAt a b id=true):a.get id=b.get id:=by
 unfold sameAt at h
 split at h
 .rename_i h1 h2;rw [h1,h2,Bj4 h]
 .cases h
structure Run (P:Program) (rs:List DR) (s0:DS) (Δ:Nat->DSt) (ρ:Nat->Rec):Prop where
 ok:OkI rs
 fr:s0.Fr
 z:(Δ 0).es.ds=⟨s0.sv,s0.ho,s0.nx+rs.length⟩
 lo0:(Δ 0).lo=[]
 sem:∀ i r o,rs[i]?=some r->(kU rs).l[i]?=some o->Sem P s0.nx rs.length i r o (Δ i) (Δ (i+1)) (ρ i)
 nil:∀ i,rs.length<=i->ρ i=Rec.nil
 look:Pl s0.nx rs.length (Δ rs.length).ws (Δ rs.length).ps=true
theorem Sem.gw{P:Program}{n0 m i:Nat}{r:DR}{o:OI}{δ δ':DSt}{ρ:Rec}(h:Sem P n0 m i r o δ δ' ρ)(hi:i<m)(hn:n0+m<=δ.es.nx):δ.es.nx<=δ'.es.nx/\∀ id,δ.es.ds.ho id=none->δ'.es.ds.ho id≠none->n0<=id/\id<δ'.es.nx:=by
 have mY:∀ {s:DS} {d:DV},δ'.es.ds=s.put r.dst d->δ'.es.nx=s.nx/\δ'.es.ds.ho=s.ho:=λ{s d} h=>by
  have h1:δ'.es.ds.nx=s.nx:=by rw [h,DS.nx_put]
  exact ⟨h1,by rw [h,DS.ho_put]⟩
 have nxd:δ.es.ds.nx=δ.es.nx:=rfl
 cases h with
 | off hw hd hl ht hm he Gi Mc Gy=>
  obtain ⟨e1,e2⟩:=mY he
  rw [e1,e2]
  exact ⟨Ag _,λid h1 h2=>absurd h1 h2⟩
 | read hw Kz hx hl ht hm he Gi Mc Ta Gy=>
  obtain ⟨e1,e2⟩:=mY he
  rw [e1,e2]
  exact ⟨Ag _,λid h1 h2=>absurd h1 h2⟩
 | lay ob hw Kz hx hl ht hm he Gi Mc Ta Gy=>
  obtain ⟨e1,e2⟩:=mY he
  rw [e1,e2]
  refine ⟨Ag _,λid h1 h2=>?_⟩
  simp only [Gf] at h2
  split at h2
  .show n0<=id/\id<δ.es.nx;omega
  .exact absurd h1 h2
 | wr ob hw hc Kz hx Rt Et Jx hl ht jQ hm he Gi Mc Gy=>
  obtain ⟨e1,e2⟩:=mY he
  rw [e1,e2]
  refine ⟨Ag _,λid h1 h2=>?_⟩
  simp only [Gf] at h2
  split at h2
  .rename_i e
   have:=yn hx
   simp only [DS.hasU] at this
   rw [e] at h1;rw [h1] at this;cases this
  .exact absurd h1 h2
 | main hid hs Sh eE hw hc Kz hx hg hl ht hm he Gi Mc Gy=>
  obtain ⟨e1,e2⟩:=mY he
  rw [e1,e2]
  have hle:δ.es.nx<=ρ.N:=by have:=hg.le;rw [eE] at this;exact this
  refine ⟨hle,λid h1 h2=>?_⟩
  simp only at h2
  split at h2
  .exact absurd h1 h2
  .rename_i hnh
   have:=hg.new id (by rw [eE];simp only;rw [Ae hnh];exact h1) h2
   rw [eE] at this
   have h3:δ.es.nx<=id/\id<ρ.N:=this
   exact ⟨by omega,h3.2⟩
theorem Sem.fr{P:Program}{n0 m i:Nat}{r:DR}{o:OI}{δ δ':DSt}{ρ:Rec}(h:Sem P n0 m i r o δ δ' ρ)(hi:i<m)(hn:n0+m<=δ.es.nx)(Cy:δ.es.ds.Fr):δ'.es.ds.Fr:=λid hid=>by
 obtain ⟨h1,h2⟩:=h.gw hi hn
 have aU5:δ'.es.nx<=id:=hid
 cases h4:δ'.es.ds.ho id with
 | none=>rfl
 | some o=>
  have:=h2 id (Cy id (by show δ.es.nx<=id;omega)) (by rw [h4];simp)
  omega
theorem Ba3{P:Program}{call:Bg}(hc:Uw P call){n0 m:Nat} : ∀ (rs:List DR) (os:List OI) (i:Nat) (δ δ':DSt),rs.length=os.length->i+rs.length<=m->Pn rs os i call n0 m δ=some δ'->δ.es.ds.Fr->n0+m<=δ.es.nx->
  ∃ (Δ:Nat->DSt) (ρ:Nat->Rec),Δ 0=δ/\Δ rs.length=δ'/\∀ j r o,rs[j]?=some r->os[j]?=some o->Sem P n0 m (i+j) r o (Δ j) (Δ (j+1)) (ρ j)
 | [],os,i,δ,δ',hl,hm,h,Cy,hn=>by
  have h3:some δ=some δ':=by
   cases os <;> exact h
  cases h3
  exact ⟨λ_=>δ,λ_=>Rec.nil,rfl,rfl,λj r o hr=>by simp at hr⟩
 | r::rs,[],i,δ,δ',hl,hm,h,Cy,hn=>by simp at hl
 | r::rs,o::os,i,δ,δ',hl,hm,h,Cy,hn=>by
  have h':dq (dE i r o) (Pn rs os (i+1)) call n0 m δ=some δ':=h
  obtain ⟨δ1,h1,h2⟩:=Jo h'
  obtain ⟨ρ0,hs⟩:=Ba0 hc Cy h1
  have Ty:i<m:=by simp at hm;omega
  obtain ⟨g1,_⟩:=hs.gw Ty hn
  obtain ⟨Δ,ρ,e1,e2,e3⟩:=Ba3 hc rs os (i+1) δ1 δ' (by simpa using hl) (by simp at hm;omega) h2 (hs.fr Ty hn Cy) (by omega)
  refine ⟨λj=>match j with | 0=>δ | j+1=>Δ j,λj=>match j with | 0=>ρ0 | j+1=>ρ j,rfl,e2,λj r' o' hr ho=>?_⟩
  cases j with
  | zero=>
   simp at hr ho
   subst hr;subst ho
   show Sem P n0 m (i+0) r o δ (Δ 0) ρ0
   rw [e1];exact hs
  | succ j=>
   have:=e3 j r' o' (by simpa using hr) (by simpa using ho)
   rw [show i+(j+1)=i+1+j by omega]
   exact this
theorem Cz7{P:Program}{call:Bg}(hc:Uw P call){rs:List DR}{es es':ES}(Ph:(kU rs).ok=true)(h:Gk rs.length (Pn rs (kU rs).l 0) call es=some es')(Cy:es.ds.Fr):∃ Δ ρ,Run P rs es.ds Δ ρ/\(Δ rs.length).es=es':=by
 unfold Gk at h
 obtain ⟨δ',h1,h2⟩:=Jo h
 obtain ⟨h3,h4⟩:=dZ h2
 cases h4
 rw [dH,bM] at h1
 obtain ⟨Δ,ρ,e1,e2,e3⟩:=Ba3 hc rs (kU rs).l 0 _ _ (B73 rs).symm (by omega) h1 (λid hid=>Cy id (by
  have:es.nx+rs.length<=id:=hid
  show es.nx<=id;omega)) (Ag _)
 refine ⟨Δ,λi=>if i<rs.length then ρ i else Rec.nil,⟨Cz6 Ph,Cy,by rw [e1];rfl,by rw [e1],λi r o hr ho=>?_,λi hi=>Ae (by omega),by rw [e2];exact h3⟩,by rw [e2]⟩
 have:=e3 i r o hr ho
 rw [Df] at this
 rw [Af (Aq.1 hr).1]
 exact this
end Go.DD

/- The evaluator's regions that draw their order, second part. -/
namespace Go.DD
def fY(f:Nat->Bool)(i:Nat):Nat:=((List.range i).filter f).length
theorem F4(f:Nat->Bool)(i:Nat):fY f (i+1)=fY f i+(if f i=true then 1 else 0):=by
 unfold fY
 rw [Ih,Jn,Ao]
 congr 1
 by_cases h:f i=true
 .simp [h]
 .simp [h]
theorem Mq(f:Nat->Bool){i j:Nat}(h:i<=j):fY f i<=fY f j:=by
 induction h with
 | refl=>exact Ag _
 | step _ ih=>rw [F4];omega
theorem aV(f:Nat->Bool){i j:Nat}(h:i<j)(hf:f i=true):fY f i<fY f j:=by
 have:=Mq f (Nat.succ_le_of_lt h)
 have h2:=F4 f i
 rw [Af hf] at h2
 have:fY f (i+1)<=fY f j:=this
 omega
theorem Bp6(f:Nat->Bool):∀ (m k q:Nat),((List.range m).filter f)[k]?=some q↔q<m/\f q=true/\fY f q=k:=by
 intro m
 induction m with
 | zero=>intro k q;simp
 | succ m ih=>
  intro k q
  rw [Ih,Jn]
  rcases Cr k ((List.range m).filter f).length with h | h
  .rw [Ci h,ih]
   constructor
   .rintro ⟨h1,h2,h3⟩;exact ⟨by omega,h2,h3⟩
   .rintro ⟨h1,h2,h3⟩
    refine ⟨?_,h2,h3⟩
    have:q≠m:=λe=>by subst e;unfold fY at h3;omega
    omega
  .rw [Hu h]
   by_cases hm:f m=true
   .rw [Vq hm,List.filter_nil]
    constructor
    .intro h1
     have hk:k=((List.range m).filter f).length:=by
      rcases Cr ((List.range m).filter f).length k with h2 | h2
      .rw [Ff (by simp;omega)] at h1;cases h1
      .omega
     subst hk
     simp at h1
     subst h1
     exact ⟨by omega,hm,rfl⟩
    .rintro ⟨h1,h2,h3⟩
     have hq:q=m:=by
      rcases Cr q m with h4 | h4
      .have:=aV f h4 h2
       have e:fY f m=((List.range m).filter f).length:=rfl
       omega
      .omega
     subst hq
     have:k-((List.range q).filter f).length=0:=by unfold fY at h3;omega
     rw [this];rfl
   .rw [Vr hm,List.filter_nil]
    constructor
    .intro h1;simp at h1
    .rintro ⟨h1,h2,h3⟩
     exfalso
     have hq:q≠m:=λe=>hm (by rw [<- e];exact h2)
     have:=aV f (show q<m by omega) h2
     have e:fY f m=((List.range m).filter f).length:=rfl
     omega
def GS(ρ:Nat->Rec)(h0:Nat->Option DObj)(main:List Nat):Nat->Nat->Option DObj
 | 0=>h0
 | k+1=>match main[k]? with
  | some q=>(ρ q).H
  | none=>λ_=>none
def sZ(ρ:Nat->Rec)(n:Nat)(main:List Nat):Nat->Nat
 | 0=>n
 | k+1=>match main[k]? with
  | some q=>(ρ q).N
  | none=>sZ ρ n main k
def Ew(ρ:Nat->Rec)(s0:DS)(m:Nat):RG where
 d i:=(ρ i).d
 lay i:=(ρ i).lay
 tgt i:=(ρ i).tgt
 ob i:=(ρ i).ob
 main:=(List.range m).filter λi=>(ρ i).mn
 H:=GS ρ s0.ho ((List.range m).filter λi=>(ρ i).mn)
 N:=sZ ρ (s0.nx+m) ((List.range m).filter λi=>(ρ i).mn)
def kI(ρ:Nat->Rec)(i:Nat):Nat:=fY (λi=>(ρ i).mn) i
def Lt(i:Nat):Nat->Bool:=λj=>decide (j<i)
section
variable {P:Program} {rs:List DR} {s0:DS} {Δ:Nat->DSt} {ρ:Nat->Rec} (R:Run P rs s0 Δ ρ)
include R
omit R in
theorem main_get{q k m:Nat} : (Ew ρ s0 m).main[k]?=some q↔q<m/\(ρ q).mn=true/\kI ρ q=k:=Bp6 _ _ _ _
omit R in
theorem B76{m:Nat} : (Ew ρ s0 m).main.length=kI ρ m:=rfl
theorem semAt{i:Nat}{r:DR}(hr:rs[i]?=some r):Sem P s0.nx rs.length i r { an:=Uv rs i,cls:=Wh rs i,tgt:=Le rs r,wide:=(lX rs).any λq=>!Eu rs q i && !Eu rs i q:OI } (Δ i) (Δ (i+1)) (ρ i):=R.sem i r _ hr (Bj1 hr)
theorem TS{i:Nat}(hi:i<rs.length)(h:(ρ i).mn=true):Wh rs i=2/\(ρ i).lay=none/\(ρ i).tgt=none:=by
 have hr:rs[i]?=some rs[i]:=Aa hi
 cases semAt R hr with
 | off hw hd hl ht hm he Gi Mc Gy=>rw [hm] at h;cases h
 | read hw Kz hx hl ht hm he Gi Mc Ta Gy=>rw [hm] at h;cases h
 | lay ob hw Kz hx hl ht hm he Gi Mc Ta Gy=>rw [hm] at h;cases h
 | wr ob hw hc Kz hx Rt Et Jx hl ht jQ hm he Gi Mc Gy=>rw [hm] at h;cases h
 | main hid hs Sh eE hw hc Kz hx hg hl ht hm he Gi Mc Gy=>exact ⟨hc,hl,ht⟩
theorem uo{w j:Nat}(h:(ρ w).tgt=some j):w<rs.length/\Eu rs w j=true/\∀ i,i<rs.length->Eu rs i j=true->Eu rs i w=true\/Eu rs w i=true\/w=i:=by
 rcases Cr w rs.length with hi | hi
 .have hr:rs[w]?=some rs[w]:=Aa hi
  cases semAt R hr with
  | off hw hd hl ht hm he Gi Mc Gy=>rw [ht] at h;cases h
  | read hw Kz hx hl ht hm he Gi Mc Ta Gy=>rw [ht] at h;cases h
  | lay ob hw Kz hx hl ht hm he Gi Mc Ta Gy=>rw [ht] at h;cases h
  | wr ob hw hc Kz hx Rt Et Jx hl ht jQ hm he Gi Mc Gy=>
   rw [ht] at h
   have hj:Le rs rs[w]=j:=Hc h
   have h3:Wh rs w=3:=by
    have h1:=HV rs w
    have h2:Wh rs w≠0/\Wh rs w≠1/\Wh rs w≠2:=hc
    omega
   have:=R.ok.wr w _ hr h3
   rw [hj] at this
   exact ⟨hi,this⟩
  | main hid hs Sh eE hw hc Kz hx hg hl ht hm he Gi Mc Gy=>rw [ht] at h;cases h
 .rw [R.nil w hi] at h;cases h
theorem Va:∀ i,i<=rs.length->(Ew ρ s0 rs.length).N (kI ρ i)=(Δ i).es.nx/\s0.nx+rs.length<=(Δ i).es.nx/\(Δ i).es.ds.Fr
 | 0,_=>by
  have e:(Δ 0).es.nx=s0.nx+rs.length:=by have:=congrArg DS.nx R.z;exact this
  refine ⟨by rw [e];rfl,by rw [e];omega,?_⟩
  rw [R.z]
  intro id hid
  have:s0.nx+rs.length<=id:=hid
  exact R.fr id (by omega)
 | i+1,hi=>by
  obtain ⟨h1,h2,h3⟩:=Va i (by omega)
  have hr:rs[i]?=some rs[i]:=Aa (by omega)
  have hs:=semAt R hr
  have hg:=hs.gw (by omega) h2
  have hf:=hs.fr (by omega) h2 h3
  refine ⟨?_,by omega,hf⟩
  have same:(ρ i).mn=false->(Δ (i+1)).es.nx=(Δ i).es.nx->(Ew ρ s0 rs.length).N (kI ρ (i+1))=(Δ (i+1)).es.nx:=λh4 h5=>by
   have:kI ρ (i+1)=kI ρ i:=by unfold kI;rw [F4];simp [h4]
   rw [this,h1,h5]
  have mY:∀ {s:DS} {d:DV},(Δ (i+1)).es.ds=s.put rs[i].dst d->(Δ (i+1)).es.nx=s.nx:=λ{s d} h=>by
   have h1:(Δ (i+1)).es.ds.nx=s.nx:=by rw [h,DS.nx_put]
   exact h1
  cases hs with
  | off hw hd hl ht hm he Gi Mc Gy=>exact same hm (mY he)
  | read hw Kz hx hl ht hm he Gi Mc Ta Gy=>exact same hm (mY he)
  | lay ob hw Kz hx hl ht hm he Gi Mc Ta Gy=>exact same hm (mY he)
  | wr ob hw hc Kz hx Rt Et Jx hl ht jQ hm he Gi Mc Gy=>exact same hm (mY he)
  | main hid hs Sh eE hw hc Kz hx hg hl ht hm he Gi Mc Gy=>
   rw [mY he]
   have e:kI ρ (i+1)=kI ρ i+1:=by unfold kI;rw [F4];simp [hm]
   have hmg:((List.range rs.length).filter λi=>(ρ i).mn)[kI ρ i]?=some i:=(main_get (s0:=s0)).2 ⟨by omega,hm,rfl⟩
   rw [e]
   show sZ ρ _ _ _=_
   simp only [sZ,hmg]
theorem Y9:(Ew ρ s0 rs.length).OKs rs s0 where
 pre:=R.ok.pre
 dst i j r r' t h1 h2 h3 h4:=by
  have e1:=R.ok.dst i r t h1 h3
  have e2:=R.ok.dst j r' t h2 h4
  rw [e1] at e2
  exact Hc e2
 rd:=R.ok.rd
 chain a b i j h1 h2 h3:=by
  obtain ⟨g1,g2,g3⟩:=main_get.1 h1
  obtain ⟨f1,f2,f3⟩:=main_get.1 h2
  have Nu:i<j:=by
   rcases Cr i j with h | h
   .exact h
   .have:kI ρ j<=kI ρ i:=Mq _ h
    omega
  exact R.ok.ch i j g1 f1 (TS R g1 g2).1 (TS R f1 f2).1 Nu
 mlt a i h:=by
  obtain ⟨g1,g2,g3⟩:=main_get.1 h
  exact ⟨g1,(TS R g1 g2).2⟩
 wr1 w j h:=(uo R h).2.1
 wr2 i j w hi hw ha ht:=(uo R ht).2.2 i hi ha
 h0:=rfl
 n0:=rfl
 mono k:=by
  cases hm:(Ew ρ s0 rs.length).main[k]? with
  | none=>
   have bE:((List.range rs.length).filter λi=>(ρ i).mn)[k]?=none:=hm
   show sZ ρ _ _ k<=sZ ρ _ _ (k+1)
   simp only [sZ,bE]
   exact Ag _
  | some q=>
   obtain ⟨g1,g2,g3⟩:=main_get.1 hm
   have e1:=Va R q (by omega)
   have e2:=Va R (q+1) (by omega)
   have hr:rs[q]?=some rs[q]:=Aa g1
   have:=((semAt R hr).gw g1 e1.2.1).1
   have ek:kI ρ (q+1)=k+1:=by
    have h5:=F4 (λi=>(ρ i).mn) q
    rw [Af g2] at h5
    unfold kI at g3 ⊢
    omega
   rw [<- ek,e2.1,<- g3,e1.1]
   exact this
structure Inv (P:Program) (rs:List DR) (s0:DS) (Δ:Nat->DSt) (ρ:Nat->Rec) (i:Nat):Prop where
 sv:(Δ i).es.ds.sv=(Ew ρ s0 rs.length).sv rs s0 (Lt i)
 ho:(Δ i).es.ds.ho=(Ew ρ s0 rs.length).full rs s0 (Lt i) (kI ρ i)
 lo:∀ j,j∈(Δ i).lo↔j<i/\(ρ j).lay.isSome=true/\(Ew ρ s0 rs.length).pr rs (kI ρ i) j=false
theorem UG{i:Nat}(hi:i<=rs.length):Done rs (Ew ρ s0 rs.length) (Lt i) (kI ρ i) where
 cl i' h1 h2 j h3:=by
  have h4:=dM R.ok h1 h3
  simp only [Lt,Fz] at h2 ⊢
  omega
 le:=Mq _ hi
 mn q j h:=by
  obtain ⟨g1,g2,g3⟩:=main_get.1 h
  simp only [Lt,Fz]
  constructor
  .intro h;rw [<- g3];exact aV _ h g2
  .intro h
   rcases Cr j i with h' | h'
   .exact h'
   .have:kI ρ i<=kI ρ j:=Mq _ h'
    omega
omit R in
theorem Co0(i:Nat)(j:Nat):Lt (i+1) j=(j==i||Lt i j):=by
 unfold Lt
 by_cases h:j=i
 .subst h;simp
 .have:decide (j<i+1)=decide (j<i):=by simp;omega
  rw [this,Dl.2 h,Gs]
theorem iS{i:Nat}(hi:i<rs.length)(j:Nat)(h:Eu rs i j=true):Lt i j=true:=by
 simp only [Lt,Fz];exact dM R.ok hi h
omit R in
theorem OW(i:Nat):Lt i i=false:=by simp [Lt]
theorem Co1{i k:Nat}(hk:k<=kI ρ i):(Ew ρ s0 rs.length).pr rs k i=false:=by
 unfold RG.pr
 rw [List.any_eq_false]
 intro q hq
 obtain ⟨p,hp,rfl⟩:=Br.1 hq
 rw [Bt] at hp
 have hm:(Ew ρ s0 rs.length).main[p]?=some ((Ew ρ s0 rs.length).main.take k)[p]:=by
  rw [Er];exact Aa (by omega)
 obtain ⟨g1,g2,g3⟩:=main_get.1 hm
 intro ha
 have h1:=dM R.ok g1 ha
 have h2:kI ρ i<kI ρ ((Ew ρ s0 rs.length).main.take k)[p]\/kI ρ i<=kI ρ ((Ew ρ s0 rs.length).main.take k)[p]:=.inr (Mq _ (Nat.le_of_lt h1))
 omega
theorem seen{i:Nat}(hi:i<rs.length)(I:Inv P rs s0 Δ ρ i)(id:Nat):((Ew ρ s0 rs.length).st rs s0 i (kI ρ i)).ho id=if ∃ j∈(Δ i).lo.filter (λj=>!(Uv rs i).contains j),id=s0.nx+j then none else (Δ i).es.ds.ho id:=by
 have hr:rs[i]?=some rs[i]:=Aa hi
 have hv:=xw (D:=Ew ρ s0 rs.length) (rs:=rs) (s0:=s0) (L:=Lt i) (k:=kI ρ i) (Y9 R) (UG R (by omega)) hr (OW i) (iS R hi) id
 show (Ew ρ s0 rs.length).full rs s0 (Eu rs i) (kI ρ i) id=_
 rw [hv,I.ho]
 cases hu:(Ew ρ s0 rs.length).unp rs s0 (kI ρ i) id with
 | none=>
  rw [Ae]
  rintro ⟨j,hj,e⟩
  rw [Dp,I.lo] at hj
  obtain ⟨⟨h1,h2,h3⟩,_⟩:=hj
  have:(Ew ρ s0 rs.length).unp rs s0 (kI ρ i) id=some j:=by
   unfold RG.unp
   have e':id-s0.nx=j:=by omega
   rw [e',Af ⟨by omega,by omega,h2,h3⟩]
  rw [hu] at this;cases this
 | some j=>
  obtain ⟨e1,e2,e3,e4⟩:=bJ hu
  simp only
  by_cases ha:Eu rs i j=true
  .rw [Af ha,Ae]
   rintro ⟨j',hj,e⟩
   have:j'=j:=by omega
   subst this
   have h1:=(Dp.1 hj).2
   have h2:(Uv rs i).contains j'=true:=ha
   rw [h2] at h1;cases h1
  .rw [Ae ha]
   rcases Cr j i with Nt | Nt
   .rw [Af]
    refine ⟨j,Dp.2 ⟨(I.lo j).2 ⟨Nt,e3,e4⟩,?_⟩,e1⟩
    have h2:¬ (Uv rs i).contains j=true:=ha
    simpa using h2
   .have cH:(Ew ρ s0 rs.length).full rs s0 (Lt i) (kI ρ i) id=none:=by
     unfold RG.full
     rw [hu]
     have:Lt i j=false:=by simp [Lt];omega
     simp [this]
    rw [cH]
    split <;> rfl
theorem B77{i:Nat}(hi:i<rs.length)(I:Inv P rs s0 Δ ρ i):Inv P rs s0 Δ ρ (i+1):=by
 have hr:rs[i]?=some rs[i]:=Aa hi
 have Hx:=Y9 R
 have hD:=UG R (Nat.le_of_lt hi)
 have Jx:=iS R hi
 have Mu:=Co0 i
 have hs:=semAt R hr
 have Yz:(ρ i).mn=false->kI ρ (i+1)=kI ρ i:=λh4=>by unfold kI;rw [F4];simp [h4]
 have fin:∀ {ho:Nat->Option DObj} {nx:Nat},(Δ (i+1)).es.ds=(⟨(Δ i).es.ds.sv,ho,nx⟩:DS).put rs[i].dst (ρ i).d->ho=(Ew ρ s0 rs.length).full rs s0 (Lt (i+1)) (kI ρ (i+1))->
   (∀ j,j∈(Δ (i+1)).lo↔j<i+1/\(ρ j).lay.isSome=true/\(Ew ρ s0 rs.length).pr rs (kI ρ (i+1)) j=false)->Inv P rs s0 Δ ρ (i+1):=λ{ho nx} h1 h2 h3=>by
  obtain ⟨e1,e2⟩:=Bt8 (D:=Ew ρ s0 rs.length) (L:=Lt i) (L':=Lt (i+1)) Hx hr Mu (kI ρ (i+1)) ⟨(Δ i).es.ds.sv,ho,nx⟩ I.sv h2
  exact ⟨by rw [h1];exact e1.symm,by rw [h1];exact e2.symm,h3⟩
 have fA:(ρ i).mn=false->(ρ i).lay=none->(Δ (i+1)).lo=(Δ i).lo->∀ j,j∈(Δ (i+1)).lo↔j<i+1/\(ρ j).lay.isSome=true/\(Ew ρ s0 rs.length).pr rs (kI ρ (i+1)) j=false:=λh1 h2 h3 j=>by
  rw [h3,Yz h1,I.lo]
  constructor
  .rintro ⟨g1,g2⟩;exact ⟨by omega,g2⟩
  .rintro ⟨g1,g2,g3⟩
   refine ⟨?_,g2,g3⟩
   have:j≠i:=λe=>by rw [e,h2] at g2;cases g2
   omega
 cases hs with
 | off hw hd hl ht hm he Gi Mc Gy=>
  refine fin (ho:=(Δ i).es.ds.ho) (nx:=(Δ i).es.ds.nx) (by rw [hd];exact he) ?_ (fA hm hl Gi)
  rw [Yz hm,I.ho]
  exact (US (D:=Ew ρ s0 rs.length) (L:=Lt i) (L':=Lt (i+1)) (i:=i) Mu hl ht).symm
 | read hw Kz hx hl ht hm he Gi Mc Ta Gy=>
  refine fin (ho:=(Δ i).es.ds.ho) (nx:=(Δ i).es.ds.nx) he ?_ (fA hm hl Gi)
  rw [Yz hm,I.ho]
  exact (US (D:=Ew ρ s0 rs.length) (L:=Lt i) (L':=Lt (i+1)) (i:=i) Mu hl ht).symm
 | lay ob hw Kz hx hl ht hm he Gi Mc Ta Gy=>
  refine fin he ?_ λj=>?_
  .rw [Yz hm,I.ho]
   exact (Bi5 (D:=Ew ρ s0 rs.length) (L:=Lt i) (L':=Lt (i+1)) Hx hD hr (OW i) Mu hl ht).symm
  .rw [Gi,Ap,Yz hm,I.lo]
   constructor
   .rintro (rfl | ⟨g1,g2⟩)
    .exact ⟨by omega,by rw [hl];rfl,Co1 R (Ag _)⟩
    .exact ⟨by omega,g2⟩
   .rintro ⟨g1,g2⟩
    by_cases Nt:j=i
    .exact .inl Nt
    .exact .inr ⟨by omega,g2⟩
 | wr ob hw hc Kz hx Rt Et tZ hl ht jQ hm he Gi Mc Gy=>
  refine fin he ?_ (fA hm hl Gi)
  obtain ⟨g1,g2,g3⟩:=(I.lo _).1 Et
  have hu:(Ew ρ s0 rs.length).unp rs s0 (kI ρ i) (s0.nx+Le rs rs[i])=some (Le rs rs[i]):=by
   unfold RG.unp
   have g1':Le rs rs[i]<i:=g1
   have e':s0.nx+Le rs rs[i]-s0.nx=Le rs rs[i]:=by omega
   rw [e',Af ⟨by omega,by omega,g2,g3⟩]
  rw [Yz hm,I.ho,<- jQ]
  exact (Bt9 (D:=Ew ρ s0 rs.length) (L:=Lt i) (L':=Lt (i+1)) Hx hD hr (OW i) Jx Mu hu tZ ht hl).symm
 | main hid hs Sh eE hw hc Kz hx hg hl ht hm he Gi Mc Gy=>
  have zH:(Ew ρ s0 rs.length).main[kI ρ i]?=some i:=main_get.2 ⟨hi,hm,rfl⟩
  have hk:kI ρ (i+1)=kI ρ i+1:=by unfold kI;rw [F4];simp [hm]
  have hH:(Ew ρ s0 rs.length).H (kI ρ i+1)=(ρ i).H:=by
   have:((List.range rs.length).filter λi=>(ρ i).mn)[kI ρ i]?=some i:=zH
   show GS ρ s0.ho ((List.range rs.length).filter λi=>(ρ i).mn) (kI ρ i+1)=_
   simp only [GS,this]
  have Tw:=Va R i (by omega)
  have Lw:∀ j,j∈hid↔j∈(Δ i).lo/\Eu rs i j=false:=λj=>by
   rw [Sh,Dp]
   show _/\(!(Eu rs i j))=true↔_
   simp
  refine fin he ?_ λj=>?_
  .funext id
   rw [hk,xx (D:=Ew ρ s0 rs.length) (L:=Lt i) (L':=Lt (i+1)) Mu zH hl ht id,hH]
   cases hu:(Ew ρ s0 rs.length).unp rs s0 (kI ρ i) id with
   | none=>
    simp only
    rw [Ae]
    rintro ⟨j,hj,e⟩
    obtain ⟨h1,h2,h3⟩:=(I.lo j).1 ((Lw j).1 hj).1
    have:(Ew ρ s0 rs.length).unp rs s0 (kI ρ i) id=some j:=by
     unfold RG.unp
     have e':id-s0.nx=j:=by omega
     rw [e',Af ⟨by omega,by omega,h2,h3⟩]
    rw [hu] at this;cases this
   | some j=>
    obtain ⟨e1,e2,e3,e4⟩:=bJ hu
    simp only
    by_cases ha:Eu rs i j=true
    .rw [Af ha,Ae]
     rintro ⟨j',hj,e⟩
     have:j'=j:=by omega
     subst this
     rw [((Lw j').1 hj).2] at ha;cases ha
    .rw [Ae ha]
     have Vg:(Ew ρ s0 rs.length).full rs s0 (Lt i) (kI ρ i) id=if Lt i j=true then (Ew ρ s0 rs.length).cur rs (Lt i) j else none:=by
      unfold RG.full;rw [hu]
     rcases Cr j i with Nt | Nt
     .rw [Af ⟨j,(Lw j).2 ⟨(I.lo j).2 ⟨Nt,e3,e4⟩,by simpa using ha⟩,e1⟩,I.ho,Vg]
     .have fT:Lt i j=false:=by simp [Lt];omega
      rw [fT]
      rw [fT] at Vg
      simp only [Hv,Kp] at Vg ⊢
      rw [Ae (λ⟨j',hj,e⟩=>by
       have:j'=j:=by omega
       subst this
       have:=((I.lo j').1 ((Lw j').1 hj).1).1
       omega)]
      cases hx:(ρ i).H id with
      | none=>rfl
      | some x=>
       exfalso
       have hn:hs.ho id=none:=by
        rw [eE]
        simp only
        rw [I.ho,Vg]
        split <;> rfl
       have:=(hg.new id hn (by show (ρ i).H id≠none;rw [hx];simp)).1
       rw [eE] at this
       have h7:(Δ i).es.nx<=id:=this
       have:=Tw.2.1
       omega
  .rw [Gi,Lw,I.lo,hk,OY zH,Kr]
   constructor
   .rintro ⟨⟨g1,g2,g3⟩,g4⟩;exact ⟨by omega,g2,g3,g4⟩
   .rintro ⟨g1,g2,g3,g4⟩
    have:j≠i:=λe=>by rw [e,hl] at g2;cases g2
    exact ⟨⟨by omega,g2,g3⟩,g4⟩
theorem E5:∀ i,i<=rs.length->Inv P rs s0 Δ ρ i
 | 0,_=>by
  refine ⟨?_,?_,λj=>by rw [R.lo0];simp⟩
  .funext t
   rw [R.z]
   show s0.sv t=RG.sv rs s0 _ _ t
   unfold RG.sv
   split
   .simp [Lt]
   .rfl
  .funext id
   rw [R.z]
   show s0.ho id=RG.full rs s0 _ _ _ id
   unfold RG.full
   cases hu:(Ew ρ s0 rs.length).unp rs s0 (kI ρ 0) id with
   | none=>rfl
   | some j=>
    have:=bJ hu
    simp [Lt]
    exact R.fr id (by omega)
 | i+1,hi=>B77 R (by omega) (E5 i (by omega))
end
end Go.DD

/- The evaluator's regions that draw their order, third part: the theorem. -/
namespace Go.DD
theorem Cz8{s:DS}{op:DOp}{x:Operand}(hx:x∈op.opnds){id:Nat}(h:id∈(s.ev x).refs):dR s op id:=by
 cases x with
 | tmp t=>
  simp only [DS.ev] at h
  split at h
  .exact ⟨t,hx,h⟩
  .simp [DV.refs] at h
 | const x=>simp only [DS.ev] at h;rw [U2] at h;cases h
 | func f=>simp [DS.ev,DV.refs,DV.refsL] at h
 | global g=>simp only [DS.ev] at h;rw [Bg8] at h;cases h
def HoEq(c:Bool)(a b:Option DObj):Prop:=if c=true then a=b else a.isSome=b.isSome
theorem HoEq.of{c:Bool}{a b:Option DObj}(h:a=b):HoEq c a b:=by
 unfold HoEq;subst h;split <;> rfl
theorem HoEq.some{c:Bool}{a b:Option DObj}(h:HoEq c a b):a.isSome=b.isSome:=by
 unfold HoEq at h;split at h
 .rw [h]
 .exact h
theorem HoEq.symm{c:Bool}{a b:Option DObj}(h:HoEq c a b):HoEq c b a:=by
 unfold HoEq at *
 split at h
 .rename_i hc;rw [Af hc];exact h.symm
 .rename_i hc;rw [Ae hc];exact h.symm
theorem HoEq.trans{c:Bool}{a b d:Option DObj}(h:HoEq c a b)(h':HoEq c b d):HoEq c a d:=by
 unfold HoEq at *
 split at h
 .rename_i hc;rw [Af hc] at h' ⊢;exact h.trans h'
 .rename_i hc;rw [Ae hc] at h' ⊢;exact h.trans h'
theorem look_eq{c:Bool}{a b:Tr DObj}{id:Nat}(h:(if c=true then sameAt a b id else rL a b id)=true):HoEq c (a.get id) (b.get id):=by
 unfold HoEq
 split at h
 .rename_i hc;rw [Af hc];exact Bv3 h
 .rename_i hc;rw [Ae hc];unfold rL at h;simpa using h
theorem Bj6{op:DOp}{s s':DS}(nQ:∀ t,.tmp t∈op.opnds->s'.sv t=s.sv t)(iD:∀ id,dR s op id->HoEq op.rdC (s'.ho id) (s.ho id)):Agree op s s':=by
 refine ⟨λx hx=>?_,λx hx=>?_,λhc x hx id hid=>(by have:=iD id (Cz8 hx hid);unfold HoEq at this;rwa [Af hc] at this)⟩
 .cases x with
  | tmp t=>
   have h1:=nQ t hx
   have h2:s'.live (s'.sv t)=s.live (s.sv t):=by
    rw [h1]
    unfold DS.live
    rw [Bool.eq_iff_iff,Bd,Bd]
    constructor
    .intro h id hid;rw [<- (iD id ⟨t,hx,hid⟩).some];exact h id hid
    .intro h id hid;rw [(iD id ⟨t,hx,hid⟩).some];exact h id hid
   simp only [DS.ev]
   rw [h2,h1]
  | _=>rfl
 .cases x with
  | tmp t=>exact nQ t hx
  | _=>rfl
section
variable {P:Program} {rs:List DR} {s0:DS} {Δ:Nat->DSt} {ρ:Nat->Rec} (R:Run P rs s0 Δ ρ)
include R
theorem Co2{i:Nat}(hi:i<rs.length):(∀ w∈(Δ i).ws,w∈(Δ (i+1)).ws)/\(∀ p∈(Δ i).ps,p∈(Δ (i+1)).ps):=by
 cases semAt R (Aa hi) with
 | off hw hd hl ht hm he Gi Mc Gy=>rw [Mc,Gy];exact ⟨λ_ h=>h,λ_ h=>h⟩
 | read hw Kz hx hl ht hm he Gi Mc Ta Gy=>rw [Gy];exact ⟨Mc,λ_ h=>h⟩
 | lay ob hw Kz hx hl ht hm he Gi Mc Ta Gy=>rw [Gy];exact ⟨Mc,λ_ h=>h⟩
 | wr ob hw hc Kz hx Rt Et Jx hl ht jQ hm he Gi Mc Gy=>rw [Mc,Gy];exact ⟨λ_ h=>h,λ_ h=>h⟩
 | main hid hs Sh eE hw hc Kz hx hg hl ht hm he Gi Mc Gy=>rw [Mc,Gy];exact ⟨λ_ h=>h,λ_ h=>Bh _ h⟩
theorem Ce2{i j:Nat}(h:i<=j)(hj:j<=rs.length):(∀ w∈(Δ i).ws,w∈(Δ j).ws)/\(∀ p∈(Δ i).ps,p∈(Δ j).ps):=by
 induction h with
 | refl=>exact ⟨λ_ h=>h,λ_ h=>h⟩
 | @step j h ih=>
  obtain ⟨h1,h2⟩:=ih (by have:j+1<=rs.length:=hj;omega)
  obtain ⟨h3,h4⟩:=Co2 R (i:=j) hj
  exact ⟨λw hw=>h3 w (h1 w hw),λp hp=>h4 p (h2 p hp)⟩
theorem Co3{q:Nat}(hq:q<rs.length)(hm:(ρ q).mn=true):(⟨q,Uv rs q,(Δ q).es.hp,(Δ (q+1)).es.hp⟩:Past)∈(Δ rs.length).ps:=by
 refine (Ce2 R (i:=q+1) (by omega) (Ag _)).2 _ ?_
 cases semAt R (Aa hq) with
 | off hw hd hl ht bE he Gi Mc Gy=>rw [hm] at bE;cases bE
 | read hw Kz hx hl ht bE he Gi Mc Ta Gy=>rw [hm] at bE;cases bE
 | lay ob hw Kz hx hl ht bE he Gi Mc Ta Gy=>rw [hm] at bE;cases bE
 | wr ob hw hc Kz hx Rt Et Jx hl ht jQ bE he Gi Mc Gy=>rw [hm] at bE;cases bE
 | main hid hs Sh eE hw hc Kz hx hg hl ht bE he Gi Mc Gy=>rw [Gy];exact Ct ..
theorem mK{i:Nat}{r:DR}(hr:rs[i]?=some r)(k:Nat){t:Nat}(ht:t∈r.tmps):((Ew ρ s0 rs.length).st rs s0 i k).sv t=(Δ i).es.ds.sv t:=by
 have hi:=(Aq.1 hr).1
 have I:=E5 R i (by omega)
 rw [I.sv]
 exact (TU (D:=Ew ρ s0 rs.length) (L:=Lt i) (k:=kI ρ i) (Y9 R) (UG R (by omega)) hr (OW i) (iS R hi) t ht).symm
omit R in
theorem Bj7{r:DR}{t:Nat}(h : .tmp t∈r.op.opnds):t∈r.tmps:=by
 simp only [DR.tmps,Ax,Gq]
 exact .inl ⟨_,h,rfl⟩
theorem DH{i:Nat}{r:DR}(hr:rs[i]?=some r){id:Nat}(h:uN s0.nx rs.length (Uv rs i) (Δ i).es.ds id):((Ew ρ s0 rs.length).st rs s0 i (kI ρ i)).ho id=(Δ i).es.ds.ho id:=by
 have hi:=(Aq.1 hr).1
 have I:=E5 R i (by omega)
 rw [seen R hi I,Ae]
 rintro ⟨j,hj,e⟩
 have h1:=(Dp.1 hj)
 have h2:=(I.lo j).1 h1.1
 rcases h.2 with h3 | h3 | h3
 .omega
 .omega
 .have:id-s0.nx=j:=by omega
  rw [this] at h3
  have h4:=h1.2
  rw [h3] at h4;cases h4
theorem B78{i:Nat}{r:DR}(hr:rs[i]?=some r){id:Nat}(Ta:((lX rs).any λq=>!Eu rs q i && !Eu rs i q)=true->(⟨i,Uv rs i,id,(Δ i).lo.contains (id-s0.nx),r.op.rdC⟩:Look)∈(Δ (i+1)).ws)
  {q p:Nat} (hq:(Ew ρ s0 rs.length).main[q]?=some p) (h1:Eu rs p i=false) (h2:Eu rs i p=false) :
  HoEq r.op.rdC (((Ew ρ s0 rs.length).st rs s0 i (q+1)).ho id) (((Ew ρ s0 rs.length).st rs s0 i q).ho id):=by
 have hi:=(Aq.1 hr).1
 obtain ⟨g1,g2,g3⟩:=main_get.1 hq
 have gR:((lX rs).any λq=>!Eu rs q i && !Eu rs i q)=true:=by
  rw [Vs]
  exact ⟨p,by simp [lX,g1,(TS R g1 g2).1],by simp [h1,h2]⟩
 have hl:=(Ce2 R (i:=i+1) (by omega) (Ag _)).1 _ (Ta gR)
 have hp:=Co3 R g1 g2
 have Ph:=Bd.1 (Bd.1 R.look _ hl) _ hp
 simp only at Ph
 have e1:(Uv rs i).contains p=false:=h2
 have e2:(Uv rs p).contains i=false:=h1
 rw [e1,e2,Gs,Gs] at Ph
 have hkp:kI ρ (p+1)=q+1:=by
  have h5:=F4 (λi=>(ρ i).mn) p
  rw [Af g2] at h5
  unfold kI at g3 ⊢
  omega
 split at Ph
 .rename_i Lj
  have Lj:id<s0.nx\/s0.nx+rs.length<=id:=by
   rw [Ii] at Lj
   rcases Lj with h | h
   .exact .inl (by simpa [Kq] using h)
   .exact .inr (by simpa [Oz] using h)
  have hu:∀ k,(Ew ρ s0 rs.length).unp rs s0 k id=none:=λk=>by
   unfold RG.unp
   rw [Ae (λhc=>by omega)]
  have hf:∀ L k,(Ew ρ s0 rs.length).full rs s0 L k id=(Ew ρ s0 rs.length).H k id:=λL k=>by
   unfold RG.full;rw [hu]
  show HoEq _ ((Ew ρ s0 rs.length).full rs s0 _ _ id) ((Ew ρ s0 rs.length).full rs s0 _ _ id)
  rw [hf,hf]
  have hs:=look_eq Ph
  have i1:=congrFun (E5 R p (by omega)).ho id
  have i2:=congrFun (E5 R (p+1) (by omega)).ho id
  rw [hf] at i1 i2
  rw [g3] at i1
  rw [hkp] at i2
  rw [<- i1,<- i2]
  exact hs.symm
 .rename_i lJ
  rw [Bo] at Ph
  have tR:s0.nx<=id/\id<s0.nx+rs.length:=by
   rw [Ii] at lJ
   refine ⟨?_,?_⟩
   .rcases Cr id s0.nx with h | h
    .exact absurd (.inl (by simpa [Kq] using h)) lJ
    .exact h
   .rcases Cr id (s0.nx+rs.length) with h | h
    .exact h
    .exact absurd (.inr (by simpa [Oz] using h)) lJ
  have Gi:id-s0.nx∈(Δ i).lo:=by simpa using Ph.1
  obtain ⟨l1,l2,l3⟩:=((E5 R i (by omega)).lo _).1 Gi
  have oB:Eu rs p (id-s0.nx)=false:=by
   have:(!(Eu rs p (id-s0.nx)))=true:=Ph.2
   simpa using this
  have jN:(Ew ρ s0 rs.length).pr rs q (id-s0.nx)=false:=by
   unfold RG.pr
   rw [List.any_eq_false]
   intro x hx
   obtain ⟨n,hn,rfl⟩:=Br.1 hx
   rw [Bt] at hn
   have hm:(Ew ρ s0 rs.length).main[n]?=some ((Ew ρ s0 rs.length).main.take q)[n]:=by
    rw [Er];exact Aa (by omega)
   have Xm:=(Y9 R).chain n q _ _ hm hq (by omega)
   intro h
   have:=B74 R.ok g1 Xm h
   rw [oB] at this;cases this
  have hu1:(Ew ρ s0 rs.length).unp rs s0 q id=some (id-s0.nx):=by
   unfold RG.unp
   rw [Af ⟨tR.1,tR.2,l2,jN⟩]
  have hu2:(Ew ρ s0 rs.length).unp rs s0 (q+1) id=some (id-s0.nx):=by
   unfold RG.unp
   rw [Af ⟨tR.1,tR.2,l2,by rw [OY hq,jN,oB];rfl⟩]
  refine HoEq.of ?_
  show (Ew ρ s0 rs.length).full rs s0 _ _ id=(Ew ρ s0 rs.length).full rs s0 _ _ id
  unfold RG.full
  rw [hu1,hu2]
theorem Ay2{i:Nat}(hi:i<rs.length){k:Nat}(h:(Ew ρ s0 rs.length).may rs i k){q p:Nat}(hq:(Ew ρ s0 rs.length).main[q]?=some p)(hb:(kI ρ i<=q/\q<k)\/(k<=q/\q<kI ρ i)):Eu rs p i=false/\Eu rs i p=false:=by
 obtain ⟨g1,g2,g3⟩:=main_get.1 hq
 rcases hb with ⟨h1,h2⟩ | ⟨h1,h2⟩
 .refine ⟨h.2.1 q p h2 hq,?_⟩
  cases hx:Eu rs i p with
  | false=>rfl
  | true=>
   have h3:=dM R.ok hi hx
   have:kI ρ p<kI ρ i:=aV _ h3 g2
   omega
 .refine ⟨?_,h.2.2 q p h1 hq⟩
  cases hx:Eu rs p i with
  | false=>rfl
  | true=>
   have h3:=dM R.ok g1 hx
   have:kI ρ i<=kI ρ p:=Mq _ (by omega)
   omega
omit R in
theorem Be3{c:Bool}{f:Nat->Option DObj}{a b:Nat}(iL:a<=b)(h:∀ q,a<=q->q<b->HoEq c (f (q+1)) (f q)):HoEq c (f b) (f a):=by
 induction iL with
 | refl=>exact HoEq.of rfl
 | @step m hm ih=>
  exact (h m hm (Ex m)).trans (ih λq h1 h2=>h q h1 (by omega))
theorem win{i:Nat}{r:DR}(hr:rs[i]?=some r){id:Nat}(Ta:((lX rs).any λq=>!Eu rs q i && !Eu rs i q)=true->(⟨i,Uv rs i,id,(Δ i).lo.contains (id-s0.nx),r.op.rdC⟩:Look)∈(Δ (i+1)).ws)
  {k:Nat} (h:(Ew ρ s0 rs.length).may rs i k):HoEq r.op.rdC (((Ew ρ s0 rs.length).st rs s0 i k).ho id) (((Ew ρ s0 rs.length).st rs s0 i (kI ρ i)).ho id):=by
 have hi:=(Aq.1 hr).1
 have Of:∀ q,(kI ρ i<=q/\q<k)\/(k<=q/\q<kI ρ i)->HoEq r.op.rdC (((Ew ρ s0 rs.length).st rs s0 i (q+1)).ho id) (((Ew ρ s0 rs.length).st rs s0 i q).ho id):=λq hb=>by
  have hql:q<(Ew ρ s0 rs.length).main.length:=by
   have h1:=h.1
   have h2:kI ρ i<=(Ew ρ s0 rs.length).main.length:=Mq _ (Nat.le_of_lt hi)
   omega
  have hq:=Aa hql
  obtain ⟨h1,h2⟩:=Ay2 R hi h hq hb
  exact B78 R hr Ta hq h1 h2
 rcases Nat.le_total (kI ρ i) k with hle | hle
 .exact Be3 (f:=λq=>((Ew ρ s0 rs.length).st rs s0 i q).ho id) hle λq h1 h2=>Of q (.inl ⟨h1,h2⟩)
 .exact (Be3 (f:=λq=>((Ew ρ s0 rs.length).st rs s0 i q).ho id) hle λq h1 h2=>Of q (.inr ⟨h1,h2⟩)).symm
theorem Bv5{i:Nat}{r:DR}(hr:rs[i]?=some r)(Kz:∀ id,dR (Δ i).es.ds r.op id->uN s0.nx rs.length (Uv rs i) (Δ i).es.ds id){k:Nat}(hk:∀ id,dR (Δ i).es.ds r.op id->HoEq r.op.rdC (((Ew ρ s0 rs.length).st rs s0 i k).ho id) (((Ew ρ s0 rs.length).st rs s0 i (kI ρ i)).ho id)) :
  Rp ((Ew ρ s0 rs.length).st rs s0 i k) r/\Agree r.op (Δ i).es.ds ((Ew ρ s0 rs.length).st rs s0 i k):=by
 have nQ:∀ t,.tmp t∈r.op.opnds->((Ew ρ s0 rs.length).st rs s0 i k).sv t=(Δ i).es.ds.sv t:=λt ht=>mK R hr k (Bj7 ht)
 have iD:∀ id,dR (Δ i).es.ds r.op id->HoEq r.op.rdC (((Ew ρ s0 rs.length).st rs s0 i k).ho id) ((Δ i).es.ds.ho id):=λid hid=>(hk id hid).trans (HoEq.of (DH R hr (Kz id hid)))
 refine ⟨λt ht=>?_,Bj6 nQ iD⟩
 rw [nQ t ht]
 unfold DS.live
 rw [Bd]
 intro id hid
 rw [(iD id ⟨t,ht,hid⟩).some]
 exact (Kz id ⟨t,ht,hid⟩).1
theorem Cz9(i:Nat)(r:DR)(hr:rs[i]?=some r):(Ew ρ s0 rs.length).ev rs s0 P i r:=by
 have hi:=(Aq.1 hr).1
 have I:=E5 R i (by omega)
 have IL:((Ew ρ s0 rs.length).st rs s0 i 0).wanted r.g=(Δ i).es.ds.wanted r.g:=by
  unfold DS.wanted
  cases hg:r.g with
  | none=>rfl
  | some p=>
   obtain ⟨t,b⟩:=p
   have:=mK R hr 0 (t:=t) (by simp [DR.tmps,hg])
   simp only [this]
 have V8:(ρ i).mn=false->i∉(Ew ρ s0 rs.length).main:=λh Lw=>by
  obtain ⟨k,hk⟩:=List.mem_iff_getElem?.1 Lw
  have:=(main_get.1 hk).2.1
  rw [h] at this;cases this
 unfold RG.ev
 rw [IL]
 have hs:=semAt R hr
 have sT:∀ {nid:Nat} {d:DV} {u:Upd},Ba nid (Δ i).es.ds r.op=some (d,u)->(∀ f args,r.op≠.call f args)/\∀ tb x args,r.op≠.cv tb x args:=λ{nid d u} h=>⟨λf args e=>(by rw [e] at h;cases h),λtb x args e=>(by rw [e] at h;cases h)⟩
 have aG:∀ {u0:Upd},(ρ i).mn=false->(Δ i).es.ds.wanted r.g=some true->Ba (s0.nx+i) (Δ i).es.ds r.op=some ((ρ i).d,u0)->(∀ id,dR (Δ i).es.ds r.op id->uN s0.nx rs.length (Uv rs i) (Δ i).es.ds id)->
   (∀ k,(Ew ρ s0 rs.length).may rs i k->(∀ id,dR (Δ i).es.ds r.op id->HoEq r.op.rdC (((Ew ρ s0 rs.length).st rs s0 i k).ho id) (((Ew ρ s0 rs.length).st rs s0 i (kI ρ i)).ho id))/\match u0 with
     | .keep=>(ρ i).lay=none/\(ρ i).tgt=none
     | .lay o=>(ρ i).lay=some o/\(ρ i).tgt=none
     | .wr id o=>∃ j,(Ew ρ s0 rs.length).unp rs s0 k id=some j/\Eu rs i j=true/\(ρ i).tgt=some j/\(ρ i).ob=o/\(ρ i).lay=none
     | _=>False)->(Ew ρ s0 rs.length).ev rs s0 P i r:=λ{u0} hm hw hx Kz hk=>by
  have jT:=sT hx
  unfold RG.ev
  rw [IL,hw]
  simp only
  have key:∀ k,(Ew ρ s0 rs.length).may rs i k->Rp ((Ew ρ s0 rs.length).st rs s0 i k) r/\∃ u,Ba (s0.nx+i) ((Ew ρ s0 rs.length).st rs s0 i k) r.op=some ((Ew ρ s0 rs.length).d i,u)/\match u with
     | .keep=>(Ew ρ s0 rs.length).lay i=none/\(Ew ρ s0 rs.length).tgt i=none
     | .lay o=>(Ew ρ s0 rs.length).lay i=some o/\(Ew ρ s0 rs.length).tgt i=none
     | .wr id o=>∃ j,(Ew ρ s0 rs.length).unp rs s0 k id=some j/\Eu rs i j=true/\(Ew ρ s0 rs.length).tgt i=some j/\(Ew ρ s0 rs.length).ob i=o/\(Ew ρ s0 rs.length).lay i=none
     | _=>False:=λk Wa=>by
   obtain ⟨h1,h2⟩:=hk k Wa
   obtain ⟨h3,h4⟩:=Bv5 R hr Kz h1
   refine ⟨h3,u0,by rw [VC h4];exact hx,h2⟩
  split
  .rename_i f args ho;exact absurd ho (jT.1 f args)
  .rename_i tb x args ho;exact absurd ho (jT.2 tb x args)
  .exact .inr ⟨V8 hm,key⟩
 cases hs with
 | off hw hd hl ht hm he Gi Mc Gy=>rw [hw];exact ⟨hd,hl,ht,V8 hm⟩
 | read hw Kz hx hl ht hm he Gi Mc Ta Gy=>
  have:=aG hm hw hx Kz λk Wa=>⟨λid hid=>win R hr (λh=>Ta h id hid) Wa,hl,ht⟩
  unfold RG.ev at this
  rwa [IL] at this
 | lay ob hw Kz hx hl ht hm he Gi Mc Ta Gy=>
  have:=aG hm hw hx Kz λk Wa=>⟨λid hid=>win R hr (λh=>Ta h id hid) Wa,hl,ht⟩
  unfold RG.ev at this
  rwa [IL] at this
 | wr ob hw hc Kz hx Rt Et tZ hl ht jQ hm he Gi Mc Gy=>
  obtain ⟨g1,g2,g3⟩:=(I.lo _).1 Et
  have g1':Le rs r<i:=g1
  have IP:∀ k,(Ew ρ s0 rs.length).may rs i k->(Ew ρ s0 rs.length).unp rs s0 k (s0.nx+Le rs r)=some (Le rs r):=λk Wa=>by
   have jN:(Ew ρ s0 rs.length).pr rs k (Le rs r)=false:=by
    unfold RG.pr
    rw [List.any_eq_false]
    intro x hx
    obtain ⟨n,hn,rfl⟩:=Br.1 hx
    rw [Bt] at hn
    have RT:(Ew ρ s0 rs.length).main[n]?=some ((Ew ρ s0 rs.length).main.take k)[n]:=by
     rw [Er];exact Aa (by omega)
    obtain ⟨f1,f2,f3⟩:=main_get.1 RT
    intro h
    rcases Cr n (kI ρ i) with N2 | Xj
    .have:(Ew ρ s0 rs.length).pr rs (kI ρ i) (Le rs r)=true:=by
      unfold RG.pr
      rw [Vs]
      refine ⟨_,List.mem_iff_getElem?.2 ⟨n,?_⟩,h⟩
      rw [Cc,Af N2];exact RT
     have g3':(Ew ρ s0 rs.length).pr rs (kI ρ i) (Le rs r)=false:=g3
     rw [g3'] at this;cases this
    .obtain ⟨u1,u2⟩:=Ay2 R hi Wa RT (.inl ⟨Xj,by omega⟩)
     rcases (uo R ht).2.2 _ f1 h with h' | h' | h'
     .rw [u1] at h';cases h'
     .rw [u2] at h';cases h'
     .rw [<- h'] at f2;rw [hm] at f2;cases f2
   unfold RG.unp
   have e':s0.nx+Le rs r-s0.nx=Le rs r:=by omega
   rw [e',Af ⟨by omega,by omega,g2,jN⟩]
  have JZ:(Ew ρ s0 rs.length).may rs i (kI ρ i):=VS (D:=Ew ρ s0 rs.length) (L:=Lt i) (Y9 R) (UG R (by omega)) (OW i) (iS R hi)
  have Vg:∀ k,(Ew ρ s0 rs.length).may rs i k->((Ew ρ s0 rs.length).st rs s0 i k).ho (s0.nx+Le rs r)=(Ew ρ s0 rs.length).cur rs (Eu rs i) (Le rs r):=λk Wa=>by
   show (Ew ρ s0 rs.length).full rs s0 _ _ _=_
   unfold RG.full
   rw [IP k Wa]
   have ha:Eu rs i (Le rs r)=true:=tZ
   simp only
   rw [Af ha]
  have:=aG hm hw hx Kz λk Wa=>⟨λid hid=>by
   have e:id=s0.nx+Le rs r:=Rt id hid
   exact HoEq.of (by rw [e,Vg k Wa,Vg _ JZ]),⟨_,IP k Wa,tZ,ht,jQ,hl⟩⟩
  unfold RG.ev at this
  rwa [IL] at this
 | main hid hs Sh eE hw hc Kz hx hg hl ht hm he Gi Mc Gy=>
  rw [hw]
  simp only
  have zH:(Ew ρ s0 rs.length).main[kI ρ i]?=some i:=main_get.2 ⟨hi,hm,rfl⟩
  have iI:((List.range rs.length).filter λi=>(ρ i).mn)[kI ρ i]?=some i:=zH
  have hH:(Ew ρ s0 rs.length).H (kI ρ i+1)=(ρ i).H:=by
   show GS ρ s0.ho ((List.range rs.length).filter λi=>(ρ i).mn) (kI ρ i+1)=_
   simp only [GS,iI]
  have hN:(Ew ρ s0 rs.length).N (kI ρ i+1)=(ρ i).N:=by
   show sZ ρ (s0.nx+rs.length) ((List.range rs.length).filter λi=>(ρ i).mn) (kI ρ i+1)=_
   simp only [sZ,iI]
  have Tw:=(Va R i (by omega)).1
  obtain ⟨Xx,_⟩:=Bv5 R hr Kz (k:=kI ρ i) λ_ _=>HoEq.of rfl
  have nS:hs.ho=((Ew ρ s0 rs.length).st rs s0 i (kI ρ i)).ho:=by
   funext id
   rw [seen R hi I,eE,Sh]
  have tG:hs.nx=((Ew ρ s0 rs.length).st rs s0 i (kI ρ i)).nx:=by
   rw [eE]
   exact Tw.symm
  have fc:∀ t,.tmp t∈r.op.opnds->((Ew ρ s0 rs.length).st rs s0 i (kI ρ i)).sv t=hs.sv t:=λt ei=>by
   rw [eE];exact mK R hr _ (Bj7 ei)
  have pI:Agree r.op hs ((Ew ρ s0 rs.length).st rs s0 i (kI ρ i)):=Bj6 fc λid _=>HoEq.of (by rw [nS])
  have Ib:(⟨((Ew ρ s0 rs.length).st rs s0 i (kI ρ i)).sv,hs.ho,hs.nx⟩:DS)=(Ew ρ s0 rs.length).st rs s0 i (kI ρ i):=by rw [nS,tG]
  have Du:∀ (args:List Operand),(∀ x∈args,x∈r.op.opnds)->args.map ((Ew ρ s0 rs.length).st rs s0 i (kI ρ i)).rv=args.map hs.rv:=λargs Oe=>El λx hx=>pI.rv x (Oe x hx)
  unfold PV at hx
  split
  .rename_i f args ho
   rw [ho] at hx
   simp only at hx
   refine ⟨kI ρ i,zH,Xx,?_⟩
   rw [Du args (λx hx=>by rw [ho];exact hx),hH,hN,<- Ib]
   exact hx _
  .rename_i tb x args ho
   rw [ho] at hx
   simp only at hx
   obtain ⟨f,fr,cs,h1,h2⟩:=hx
   refine ⟨kI ρ i,f,fr,cs,zH,Xx,?_,?_⟩
   .rw [pI.ev x (by rw [ho];simp [DOp.opnds])];exact h1
   .rw [Du args (λy hy=>by rw [ho];simp [DOp.opnds,hy]),hH,hN,<- Ib]
    exact h2 _
  .rename_i Xh eC
   have IK:∃ u,hs.hasU u=true/\Ba hs.nx hs r.op=some ((ρ i).d,u)/\(ρ i).H=u.app hs.nx hs.ho/\(ρ i).N=if u.new then hs.nx+1 else hs.nx:=by
    revert hx
    split
    .rename_i f args ho;exact absurd ho (Xh f args)
    .rename_i tb x args ho;exact absurd ho (eC tb x args)
    .exact id
   obtain ⟨u,h1,h2,h3,h4⟩:=IK
   refine .inl ⟨kI ρ i,u,zH,Xx,?_,?_,?_,?_⟩
   .cases u with
    | wr id o=>simp only [DS.hasU] at h1 ⊢;rw [<- nS];exact h1
    | mv Hr o=>
     cases Hr with
     | none=>rfl
     | some id=>simp only [DS.hasU] at h1 ⊢;rw [<- nS];exact h1
    | _=>rfl
   .have e:hs.nx=(Ew ρ s0 rs.length).N (kI ρ i):=tG
    rw [VC pI,<- e]
    exact h2
   .have e:hs.nx=(Ew ρ s0 rs.length).N (kI ρ i):=tG
    rw [hH,h3,nS,e]
   .have e:hs.nx=(Ew ρ s0 rs.length).N (kI ρ i):=tG
    rw [hN,h4,e]
theorem C00:(Ew ρ s0 rs.length).OK rs s0 P:={ Y9 R with ev:=Cz9 R }
theorem sK:(Ew ρ s0 rs.length).at_ rs s0 (λ_=>true) (Ew ρ s0 rs.length).main.length=(Δ rs.length).es.ds:=by
 have I:=E5 R rs.length (Ag _)
 have hN:=(Va R rs.length (Ag _)).1
 have nQ:(Ew ρ s0 rs.length).sv rs s0 (λ_=>true)=(Ew ρ s0 rs.length).sv rs s0 (Lt rs.length):=by
  funext t
  unfold RG.sv
  cases hp:rs.findIdx? (λr=>r.dst==some t) with
  | none=>rfl
  | some p=>
   have:p<rs.length:=(Hi.1 hp).1
   simp [Lt,this]
 have iD:(Ew ρ s0 rs.length).full rs s0 (λ_=>true) (kI ρ rs.length)=(Ew ρ s0 rs.length).full rs s0 (Lt rs.length) (kI ρ rs.length):=by
  funext id
  unfold RG.full
  cases hu:(Ew ρ s0 rs.length).unp rs s0 (kI ρ rs.length) id with
  | none=>rfl
  | some j=>
   have hj:=(bJ hu).2.1
   have hc:(Ew ρ s0 rs.length).cur rs (λ_=>true) j=(Ew ρ s0 rs.length).cur rs (Lt rs.length) j:=by
    unfold RG.cur
    rw [PS (L:=Lt rs.length) (L':=λ_=>true) λw hw _=>by simp [Lt,hw]]
   simp [Lt,hj,hc]
 show (⟨_,_,_⟩:DS)=_
 rw [B76,nQ,iD,hN,<- I.sv,<- I.ho]
 rfl
end
theorem Co4{C:Ctx}{call:Bg}(hc:Uw C.P call)(hm:C.P.follows .mixedOrders=true){rs:List DR}{es es':ES}(Ph:(kU rs).ok=true)(h:Gk rs.length (Pn rs (kU rs).l 0) call es=some es')(Cy:es.ds.Fr) :
  Gw es.ds es'.ds/\∀ (info:RI) (Q:Exit->DS->Prop),Q .normal es'.ds->DW C (.reg true rs info) Q es.ds:=by
 obtain ⟨Δ,ρ,R,rfl⟩:=Cz7 hc Ph h Cy
 refine ⟨?_,λinfo Q hQ=>DW.regd (Ew ρ es.ds rs.length) hm (C00 R) (by rw [sK R];exact hQ)⟩
 have key:∀ i,i<=rs.length->∀ id,es.ds.ho id=none->(Δ i).es.ds.ho id≠none->es.ds.nx<=id/\id<(Δ i).es.nx:=by
  intro i
  induction i with
  | zero=>intro _ id h1 h2;rw [R.z] at h2;exact absurd h1 h2
  | succ i ih=>
   intro hi id h1 h2
   have hn:=(Va R i (by omega)).2.1
   obtain ⟨g1,g2⟩:=(semAt R (Aa (show i<rs.length by omega))).gw (by omega) hn
   cases h3:(Δ i).es.ds.ho id with
   | none=>exact g2 id h3 h2
   | some o=>
    have:=ih (by omega) id h1 (by rw [h3];simp)
    omega
 have hn:=(Va R rs.length (Ag _)).2.1
 exact ⟨by show es.ds.nx<=(Δ rs.length).es.nx;omega,key _ (Ag _)⟩
end Go.DD

/- The contract of a function, out of its body. -/
namespace Go.DD
open Go.RowKit (Below)
def uC(s:DS)(rs:List (Nat×Option (Option Nat))):Option DV:=
 match aE s rs with
 | some d=>rz s.ho 6 d
 | none=>none
theorem DCall.intro{P:Program}{f:FuncId}{fn:Func}{df:DF}{args:List DV}{R:DV->Prop}(hf:P.funcs[f]?=some fn)(hc:Yp P fn=some df)(hn:args.length<=df.nt)
  (h:∀ (S:Nat->Prop) (w0:World),DW ⟨P,S,λ_=>False,w0,df.nt,λ_ _=>False,λ_=>False,none,λ_=>none,λ_=>False⟩ df.code (λe s=>(e=.normal\/e=.ret)/\∃ r,uC s df.res=some r/\R r) ⟨Xt args,λ_=>none,0⟩):DCall P f args R:=by
 intro w S vs hS hl Cl KV
 unfold Yp at hc
 split at hc
 rotate_left
 .cases hc
 rename_i body hb
 split at hc
 rotate_left
 .cases hc
 rename_i c r Qg fO
 cases hc
 refine callsIn_wide.1 (callsIn_of_wp_marks (n:=0) hf hb trivial ?_)
 have hhh:HH ⟨P,S,λ_=>False,w,fn.ntmps,λ_ _=>False,λ_=>False,none,λ_=>none,λ_=>False⟩ (Us ⟨P,S,λ_=>False,w,fn.ntmps,λ_ _=>False,λ_=>False,none,λ_=>none,λ_=>False⟩ 0) (Lc (λ_=>none) (λ_=>none)) (λ_=>none) w:=
  ⟨hS,⟨rfl,rfl,rfl,Ag _,λ_ _ _=>rfl⟩,λ_ _ h=>(by cases h),λ_ _ _ h=>(by cases h),λ_ _=>rfl,λ_ _ h=>(by cases h)⟩
 have P5:=A87 (C:=⟨P,S,λ_=>False,w,fn.ntmps,λ_ _=>False,λ_=>False,none,λ_=>none,λ_=>False⟩) (ho:=λ_=>none) (nx:=0) (args:=args) (vs:=vs) hhh
  (λx d h=>h.elim False.elim λh=>WV.flat (.imm _ _ ((KV x d h).mono λb hb=>⟨⟨.inl hb,hS b hb,λ_ h=>(by cases h)⟩,rfl⟩)) (yc (KV x d h))) (λ_ _ h=>(by cases h)) (λ_ h=>h.elim) hn hl
  (λj v d hv hd=>WV.flat (.imm _ _ ((Cl j v d hv hd).mono λb hb=>⟨⟨.inl hb,hS b hb,λ_ h=>(by cases h)⟩,rfl⟩)) (yc (Cl j v d hv hd)))
 refine wpIn_mono (h S w body Qg _ w ⟨λ_ h=>h.elim,_,P5⟩) ?_
 have Oj:∀ (s:DS) (a:Act) (w':World),Holds ⟨P,S,λ_=>False,w,fn.ntmps,λ_ _=>False,λ_=>False,none,λ_=>none,λ_=>False⟩ s a w'->(∃ d,uC s r=some d/\R d)->LeavesInM Fence.wide 0 P fn a.tmps (λe w'=>∃ v' d,e=.returned v'/\R d/\Below w.heap.size w w'/\RelI w' (λb=>(S b\/w.heap.size<=b)/\b<w'.heap.size) v' d) a.defers .returning w':=by
  rintro s ⟨tmps,l⟩ w' ⟨_,β,hs⟩ ⟨d,hd,hR⟩
  unfold uC at hd
  split at hd
  .rename_i d0 LJ
   refine VV fO LJ tmps (λv WG hs hr=>?_) l w' hs
   have Mb:=hs.hh.bel
   exact ⟨v,d,rfl,hR,⟨Mb.os,Mb.tape,Mb.output,Mb.size,λk hk=>Mb.block k hk (λh=>h)⟩,(wA hs.hh (λid o ho=>bL ho) 6 v d0 d hr hd).mono λb hb=>⟨⟨hb.1.imp id (λh=>h.resolve_right (λh=>h)),hb.2⟩,rfl⟩⟩
  .cases hd
 rintro e a w' ⟨s,⟨h1,h2⟩,hs⟩
 rcases h1 with rfl | rfl
 .exact Oj s a w' hs h2
 .exact Oj s a w' hs h2
theorem DCall.of_callI{P:Program}{f:FuncId}{args:List DV}{R:DV->Prop}{sv:Nat->DV}(h:Tj P f args ⟨sv,λ_=>none,0⟩ λs d=>∃ r,rz s.ho 6 d=some r/\R r):DCall P f args R:=by
 obtain ⟨fn,df,hf,hc,hn,hw⟩:=h
 refine DCall.intro hf hc hn λS w0=>(hw S (λ_=>False) w0 (λ_ _=>False) (λ_=>False) (λ_=>none) (λ_=>False)).mono ?_
 rintro e s ⟨h1,d,h2,r,h3,h4⟩
 refine ⟨h1,r,?_,h4⟩
 unfold uC
 rw [h2]
 exact h3
end Go.DD

/- The evaluator's code and calls. -/
namespace Go.DD
theorem At7{P:Program}{call:Bg}(hc:Uw P call){n0 m:Nat} : ∀ (rs:List DR) (os:List OI) (i:Nat) (δ δ':DSt),i+rs.length<=m->Pn rs os i call n0 m δ=some δ'->δ.es.ds.Fr->n0+m<=δ.es.nx->
  δ.es.nx<=δ'.es.nx/\∀ id,δ.es.ds.ho id=none->δ'.es.ds.ho id≠none->n0<=id/\id<δ'.es.nx
 | [],os,i,δ,δ',hm,h,Cy,hn=>by
  have h3:some δ=some δ':=by cases os <;> exact h
  cases h3
  exact ⟨Ag _,λid h1 h2=>absurd h1 h2⟩
 | r::rs,[],i,δ,δ',hm,h,Cy,hn=>by
  have h3:some δ=some δ':=h
  cases h3
  exact ⟨Ag _,λid h1 h2=>absurd h1 h2⟩
 | r::rs,o::os,i,δ,δ',hm,h,Cy,hn=>by
  have h':dq (dE i r o) (Pn rs os (i+1)) call n0 m δ=some δ':=h
  obtain ⟨δ1,h1,h2⟩:=Jo h'
  obtain ⟨ρ0,hs⟩:=Ba0 hc Cy h1
  have Ty:i<m:=by simp at hm;omega
  obtain ⟨g1,g2⟩:=hs.gw Ty hn
  obtain ⟨g3,g4⟩:=At7 hc rs os (i+1) δ1 δ' (by simp at hm;omega) h2 (hs.fr Ty hn Cy) (by omega)
  refine ⟨by omega,λid k1 k2=>?_⟩
  cases k3:δ1.es.ds.ho id with
  | none=>exact g4 id k3 k2
  | some x=>
   have:=g2 id k1 (by rw [k3];simp)
   omega
theorem Co5{P:Program}{call:Bg}(hc:Uw P call){rs:List DR}{os:List OI}{es es':ES}(h:Gk rs.length (Pn rs os 0) call es=some es')(Cy:es.ds.Fr):Gw es.ds es'.ds:=by
 unfold Gk at h
 obtain ⟨δ',h1,h2⟩:=Jo h
 obtain ⟨h3,h4⟩:=dZ h2
 cases h4
 rw [dH,bM] at h1
 obtain ⟨g1,g2⟩:=At7 hc rs os 0 _ _ (by omega) h1 (λid hid=>Cy id (by
  have:es.nx+rs.length<=id:=hid
  show es.nx<=id;omega)) (Ag _)
 exact ⟨by (have:es.nx+rs.length<=δ'.es.nx:=g1);show es.nx<=δ'.es.nx;omega,λid k1 k2=>g2 id k1 k2⟩
theorem ot{s:DS}{x:Operand}{v:Value}(h:s.rv x=.v v):s.ev x=.v v:=by
 cases x with
 | tmp t=>
  have h':s.sv t=.v v:=h
  simp only [DS.ev]
  rw [h',Af]
  rfl
 | _=>exact h
theorem VO{a b:CE}{call:Bg}{es es':ES}{e:Exit}(h:cS a b call es=some (e,es')):(∃ Ai,a call es=some (.normal,Ai)/\b call Ai=some (e,es'))\/(a call es=some (e,es')/\e≠.normal):=by
 obtain ⟨⟨e1,Ai⟩,h1,h2⟩:=Jo h
 cases e1 with
 | normal=>exact .inl ⟨Ai,h1,h2⟩
 | _=>
  cases h2
  exact .inr ⟨h1,by simp⟩
theorem VN{s:Nw}{call:Bg}{es es':ES}{e:Exit}(h:cN s call es=some (e,es')):s call es=some es'/\e=.normal:=by
 obtain ⟨Ai,h1,h2⟩:=Jo h
 cases h2
 exact ⟨h1,rfl⟩
theorem Co6{x:Operand}{a b:CE}{call:Bg}{es es':ES}{e:Exit}(h:cC (.of x) a b call es=some (e,es')):∃ t,es.ds.ev x=.v (.bool t)/\(if t=true then a call es else b call es)=some (e,es'):=by
 unfold cC at h
 rw [Ts] at h
 obtain ⟨v,hv,h⟩:=uQ h
 cases v with
 | bool t=>
  refine ⟨t,ot hv,?_⟩
  cases t <;> exact h
 | _=>cases h
theorem Co7{id:Nat}{c:CE}{call:Bg}{es es':ES}{e:Exit}(h:cB id c call es=some (e,es')):∃ e1,c call es=some (e1,es')/\∀ (Q:Exit->DS->Prop),Q e es'.ds->fZ id Q e1 es'.ds:=by
 obtain ⟨⟨e1,Ai⟩,h1,h2⟩:=Jo h
 cases e1 with
 | exit i=>
  have h3:Fv (Nat.beq i id) (some (Exit.normal,Ai)) (some (Exit.exit i,Ai))=some (e,es'):=h2
  rw [Sq] at h3
  split at h3
  .rename_i hb
   cases h3
   exact ⟨_,h1,λQ hQ=>by simp only [fZ];rw [Af (Fc hb)];exact hQ⟩
  .rename_i hb
   cases h3
   refine ⟨_,h1,λQ hQ=>?_⟩
   simp only [fZ]
   rw [Ae (λe=>hb (by rw [e];exact Nat.beq_refl id))];exact hQ
 | _=>
  cases h2
  exact ⟨_,h1,λQ hQ=>hQ⟩
def S7(P:Program)(nt:Nat)(rd:Bool)(c:DC)(es:ES)(e:Exit)(es':ES):Prop:=
 Gw es.ds es'.ds/\∀ (C:Ctx) (Q:Exit->DS->Prop),C.P=P->C.nt=nt->(rd=false->C.rd=none)->Q e es'.ds->DW C c Q es.ds
theorem Co8{P:Program}{call:Bg}{n nt:Nat}{rd:Bool}{c:DC}(ih:∀ es e es',Dv n nt rd c call es=some (e,es')->es.ds.Fr->S7 P nt rd c es e es'):∀ (m:Nat) (es:ES) (e:Exit) (es':ES),cL m (Dv n nt rd c) call es=some (e,es')->es.ds.Fr->S7 P nt rd (.loop c) es e es':=by
 have gw:∀ (m:Nat) (es:ES) (e:Exit) (es':ES),cL m (Dv n nt rd c) call es=some (e,es')->es.ds.Fr->Gw es.ds es'.ds:=by
  intro m
  induction m with
  | zero=>intro es e es' h _;cases h
  | succ m im=>
   intro es e es' h Cy
   have h':cS (Dv n nt rd c) (cL m (Dv n nt rd c)) call es=some (e,es'):=h
   rcases VO h' with ⟨Ai,h1,h2⟩ | ⟨h1,_⟩
   .have g1:=(ih _ _ _ h1 Cy).1
    exact g1.trans (im Ai e es' h2 (Gw.fr Cy g1))
   .exact (ih _ _ _ h1 Cy).1
 intro m es e es' h Cy
 refine ⟨gw m es e es' h Cy,λC Q hP Hk Hs hQ=>?_⟩
 refine DW.loop (I:=λk s=>∃ Ai,s=Ai.ds/\Ai.ds.Fr/\cL k (Dv n nt rd c) call Ai=some (e,es')) m ⟨es,rfl,Cy,h⟩ ?_
 rintro k s ⟨Ai,rfl,cU,h1⟩
 cases k with
 | zero=>cases h1
 | succ k=>
  have h':cS (Dv n nt rd c) (cL k (Dv n nt rd c)) call Ai=some (e,es'):=h1
  rcases VO h' with ⟨Cd,h2,h3⟩ | ⟨h2,Gt⟩
  .obtain ⟨g1,g2⟩:=ih _ _ _ h2 cU
   exact g2 C _ hP Hk Hs ⟨k,Ex k,Cd,rfl,Gw.fr cU g1,h3⟩
  .obtain ⟨g1,g2⟩:=ih _ _ _ h2 cU
   refine g2 C _ hP Hk Hs ?_
   cases e <;> first | exact hQ | exact absurd rfl Gt
theorem PH{P:Program}{call:Bg}(hc:Uw P call)(hm:P.follows .mixedOrders=true){n nt:Nat}{rd:Bool} : ∀ (c:DC) (es:ES) (e:Exit) (es':ES),Dv n nt rd c call es=some (e,es')->es.ds.Fr->S7 P nt rd c es e es':=by
 intro c
 induction c with
 | skip=>
  intro es e es' h Cy
  have h':some (Exit.normal,es)=some (e,es'):=h
  cases h'
  exact ⟨Gw.refl _,λC Q _ _ _ hQ=>DW.skip hQ⟩
 | ret=>
  intro es e es' h Cy
  have h':some (Exit.ret,es)=some (e,es'):=h
  cases h'
  exact ⟨Gw.refl _,λC Q _ _ _ hQ=>DW.ret hQ⟩
 | exit id=>
  intro es e es' h Cy
  have h':some (Exit.exit id,es)=some (e,es'):=h
  cases h'
  exact ⟨Gw.refl _,λC Q _ _ _ hQ=>DW.exit hQ⟩
 | seq a b jK jJ=>
  intro es e es' h Cy
  have h':cS (Dv n nt rd a) (Dv n nt rd b) call es=some (e,es'):=h
  rcases VO h' with ⟨Ai,h1,h2⟩ | ⟨h1,Gt⟩
  .obtain ⟨g1,k1⟩:=jK _ _ _ h1 Cy
   obtain ⟨g2,k2⟩:=jJ _ _ _ h2 (Gw.fr Cy g1)
   exact ⟨g1.trans g2,λC Q hP Hk Hs hQ=>DW.seq (k1 C _ hP Hk Hs (k2 C Q hP Hk Hs hQ))⟩
  .obtain ⟨g1,k1⟩:=jK _ _ _ h1 Cy
   refine ⟨g1,λC Q hP Hk Hs hQ=>DW.seq (k1 C _ hP Hk Hs ?_)⟩
   cases e <;> first | exact hQ | exact absurd rfl Gt
 | cond x a b jK jJ=>
  intro es e es' h Cy
  have h':cC (.of x) (Dv n nt rd a) (Dv n nt rd b) call es=some (e,es'):=h
  obtain ⟨t,ht,h2⟩:=Co6 h'
  cases t with
  | true=>
   rw [Af rfl] at h2
   obtain ⟨g1,k1⟩:=jK _ _ _ h2 Cy
   exact ⟨g1,λC Q hP Hk Hs hQ=>DW.cond ht (λ_=>k1 C Q hP Hk Hs hQ) (λh=>by cases h)⟩
  | false=>
   rw [Ae (by simp)] at h2
   obtain ⟨g1,k1⟩:=jJ _ _ _ h2 Cy
   exact ⟨g1,λC Q hP Hk Hs hQ=>DW.cond ht (λh=>by cases h) (λ_=>k1 C Q hP Hk Hs hQ)⟩
 | blk id c ih=>
  intro es e es' h Cy
  have h':cB id (Dv n nt rd c) call es=some (e,es'):=h
  obtain ⟨e1,h1,h2⟩:=Co7 h'
  obtain ⟨g1,k1⟩:=ih _ _ _ h1 Cy
  exact ⟨g1,λC Q hP Hk Hs hQ=>DW.blk (k1 C _ hP Hk Hs (h2 Q hQ))⟩
 | loop c ih=>
  intro es e es' h Cy
  exact Co8 ih n es e es' h Cy
 | reg draw ops info=>
  intro es e es' h Cy
  cases draw with
  | false=>
   have h':cN (mR ops) call es=some (e,es'):=h
   obtain ⟨h1,rfl⟩:=VN h'
   obtain ⟨g1,k1⟩:=Bu9 hc ops es es' h1 Cy
   exact ⟨g1,λC Q hP Hk Hs hQ=>DW.reg (by rw [hP];exact k1 _ hQ)⟩
  | true=>
   cases Ph:info.ok with
   | false=>
    have h':(match info.ok with
     | true=>cN (Gk ops.length (Pn ops info.l 0))
     | false=>λ_ _=>none:CE) call es=some (e,es'):=h
    rw [Ph] at h'
    cases h'
   | true=>
    have h':(match info.ok with
     | true=>cN (Gk ops.length (Pn ops info.l 0))
     | false=>λ_ _=>none:CE) call es=some (e,es'):=h
    rw [Ph] at h'
    have SK:cN (Gk ops.length (Pn ops info.l 0)) call es=some (e,es'):=h'
    obtain ⟨h1,rfl⟩:=VN SK
    refine ⟨Co5 hc h1 Cy,λC Q hP Hk Hs hQ=>?_⟩
    intro code iJ
    obtain ⟨id,os,LM,hl,hi⟩:=yf iJ
    have Wj:=hi rfl
    subst Wj
    subst hP
    exact (Co4 hc hm Ph h1 Cy).2 _ Q hQ code iJ
 | rng g ps a b jK jJ=>
  intro es e es' h Cy
  have h':cR nt rd (.of g) ps a b call es=some (e,es'):=h
  unfold cR at h'
  split at h'
  .cases h'
  rename_i fo
  rw [lY] at h'
  split at h'
  rotate_left
  .cases h'
  rename_i f cs iI
  split at h'
  rotate_left
  .cases h'
  rename_i d hp nx Om
  obtain ⟨n1,n2,Uq,hcI⟩:=hc _ _ _ _ _ _ _ Om (λid hid=>by
   rw [Tr.set_ho]
   simp only [Gf]
   rw [Ae (by omega)]
   exact Cy id (by show es.nx<=id;omega))
  rw [Tr.set_ho] at n2 hcI
  have gw:∀ Cd:ES,Cd.hp=hp.set es.nx none->Cd.nx=nx->Gw es.ds Cd.ds:=λCd e1 e2=>by
   refine ⟨by show es.nx<=Cd.nx;omega,λid k1 k2=>?_⟩
   have L3:Cd.hp.get id≠none:=k2
   rw [e1,Tr.set_ho] at L3
   simp only [Gf] at L3
   split at L3
   .exact absurd rfl L3
   .rename_i Gt
    have:=n2 id (by simp only [Gf];rw [Ae Gt];exact k1) L3
    show es.nx<=id/\id<Cd.nx
    omega
  have dw:∀ (C:Ctx) (Q:Exit->DS->Prop),C.P=P->C.nt=nt->(rd=false->C.rd=none)->(∃ lp,hp.get es.nx=some (.loop lp)/\lp.st≠.busy/\match lp.pend with
   | none=>Q .normal ⟨es.ds.sv,Gf hp.get es.nx none,nx⟩
   | some .ret=>Q .ret ⟨es.ds.sv,Gf hp.get es.nx none,nx⟩
   | some (.exit i)=>Q (.exit i) ⟨es.ds.sv,Gf hp.get es.nx none,nx⟩
   | _=>False)->DW C (.rng g ps a b) Q es.ds:=λC Q hP Hk Hs hQ=>by
   subst hP Hk
   exact DW.rng (sl:=.t es.sl) rfl (Hs (by simpa using fo)) iI Uq (callC.i (ds:=.yl es.nx::cs) ⟨.yl es.nx,Ct,by simp [DV.refs]⟩ (hcI es.ds.sv _ hQ))
  split at h'
  rotate_left
  .cases h'
  rename_i lp aK
  have Ib:lp.st≠.busy:=λhb=>by
   rw [hb] at h'
   cases h'
  have Uo:(match lp.pend with
     | none=>some (Exit.normal,⟨es.sl,hp.set es.nx none,nx⟩)
     | some .ret=>some (Exit.ret,⟨es.sl,hp.set es.nx none,nx⟩)
     | some (.exit i)=>some (Exit.exit i,⟨es.sl,hp.set es.nx none,nx⟩)
     | _=>none)=some (e,es'):=by
   revert h'
   split
   .rename_i hb;exact absurd hb Ib
   .exact id
  have Oj:∀ Cd:ES,Cd=⟨es.sl,hp.set es.nx none,nx⟩->Cd.ds=⟨es.ds.sv,Gf hp.get es.nx none,nx⟩:=λCd he=>by
   subst he
   rw [Rv,Tr.set_ho];rfl
  cases JJ:lp.pend with
  | none=>
   rw [JJ] at Uo
   cases Uo
   refine ⟨gw _ rfl rfl,λC Q hP Hk Hs hQ=>dw C Q hP Hk Hs ⟨lp,aK,Ib,?_⟩⟩
   rw [JJ]
   rw [Oj _ rfl] at hQ
   exact hQ
  | some p=>
   rw [JJ] at Uo
   cases p with
   | ret=>
    cases Uo
    refine ⟨gw _ rfl rfl,λC Q hP Hk Hs hQ=>dw C Q hP Hk Hs ⟨lp,aK,Ib,?_⟩⟩
    rw [JJ]
    rw [Oj _ rfl] at hQ
    exact hQ
   | exit i=>
    cases Uo
    refine ⟨gw _ rfl rfl,λC Q hP Hk Hs hQ=>dw C Q hP Hk Hs ⟨lp,aK,Ib,?_⟩⟩
    rw [JJ]
    rw [Oj _ rfl] at hQ
    exact hQ
   | _=>cases Uo
 | dfq t g cap=>
  intro es e es' h Cy
  cases rd with
  | true=>cases h
  | false=>
   have h':cN (Su (some (Cq t)) (.mkf (.func g) [] cap)) call es=some (e,es'):=h
   obtain ⟨h1,rfl⟩:=VN h'
   have hex:Exd es.ds (.mkf (.func g) [] cap) (some t) es'.ds:=zl (dst:=some t) (λ_ _ e=>by cases e) (λ_ _ _ e=>by cases e) (λ_ _ e=>by cases e) h1
   refine ⟨hex.gw Cy,λC Q hP Hk Hs hQ=>DW.dfq (Hs rfl) ?_⟩
   obtain ⟨d,u,h2,h3⟩:=hex
   have h4:some (DV.fn (.func g) (.tup []::cap.map es.ds.ev),Upd.keep)=some (d,u):=h2
   cases h4
   rw [h3] at hQ
   exact hQ
 | bad=>
  intro es e es' h Cy
  cases h
end Go.DD

/- Functions that range over maps: all orders are run; what they leave alike is kept. -/
namespace Go.DD
theorem Imp.weak{s s':DS}(nQ:∀ t,s'.sv t=s.sv t\/s'.sv t=.any)(iD:∀ id,s'.ho id=s.ho id\/s'.ho id=none)(Tw:s.nx<=s'.nx):Imp s s':=by
 intro C a w ⟨hR,β,hs⟩
 refine ⟨λid h=>Bs (hR id h) Tw,β,?_⟩
 have h:=hs.hh.less (U':=Us C s'.nx) (β':=β) (V':=s'.vw C) (λid h=>⟨Bs h.1 Tw,h.2⟩) (λ_=>.inl rfl) (λid=>by
  unfold DS.vw Lc
  rcases iD id with e | e
  .rw [e];exact .inl rfl
  .rw [e]
   cases hq:s.ho id with
   | none=>exact .inl rfl
   | some o=>
    refine .inr ?_
    cases hy:C.Y id with
    | none=>rfl
    | some o'=>rw [hs.yd id o' hy] at hq;cases hq)
 refine ⟨h.1,h.2.2.mark hs.df,hs.sz,λt=>?_,λx d hx=>h.2.1 _ _ (hs.gh x d hx),λid o hy=>?_⟩
 .rcases nQ t with e | e
  .rw [e];exact h.2.1 _ _ (hs.sl t)
  .rw [e];exact WV.any
 .rcases iD id with e | e
  .rw [e];exact hs.yd id o hy
  .exact e
def Qj(a b:Option DObj):Option DObj:=match a,b with
 | some x,some y=>if gK x y then some x else none
 | _,_=>none
def Qk(a b:Option DV):Option DV:=match a,b with
 | some x,some y=>if Nk 6 x y then some x else none
 | _,_=>none
def Mk{α:Type}(f:Option α->Option α->Option α):Tr α->Tr α->Tr α
 | .n l v r,.n l' v' r'=>.n (Mk f l l') (f v v') (Mk f r r')
 | _,_=>.e
theorem AH{α:Type}{f:Option α->Option α->Option α}(hf:f none none=none):∀ (a b:Tr α) (k:Nat),(Mk f a b).get k=f (a.get k) (b.get k)\/(Mk f a b).get k=none
 | .n l v r,.n l' v' r',0=>.inl rfl
 | .n l v r,.n l' v' r',k+1=>by
  simp only [Mk,Tr.get]
  split
  .exact AH hf l l' _
  .exact AH hf r r' _
 | .e,_,_=>.inr rfl
 | .n _ _ _,.e,_=>.inr rfl
theorem Bj8(a b:Option DObj):(Qj a b=a/\Qj a b=b)\/Qj a b=none:=by
 unfold Qj
 split
 .split
  .rename_i h;rw [Bj4 h];exact .inl ⟨rfl,rfl⟩
  .exact .inr rfl
 .exact .inr rfl
theorem Bj9(a b:Option DV):(Qk a b=a/\Qk a b=b)\/Qk a b=none:=by
 unfold Qk
 split
 .split
  .rename_i h;rw [U4 _ _ _ h];exact .inl ⟨rfl,rfl⟩
  .exact .inr rfl
 .exact .inr rfl
def bS(a b:ES):ES:=⟨Mk Qk a.sl b.sl,Mk Qj a.hp b.hp,max a.nx b.nx⟩
structure Less (s s':DS):Prop where
 sv:∀ t,s'.sv t=s.sv t\/s'.sv t=.any
 ho:∀ id,s'.ho id=s.ho id\/s'.ho id=none
 nx:s.nx<=s'.nx
theorem Less.refl(s:DS):Less s s:=⟨λ_=>.inl rfl,λ_=>.inl rfl,Ag _⟩
theorem Less.trans{a b c:DS}(h:Less a b)(h':Less b c):Less a c:=by
 refine ⟨λt=>?_,λid=>?_,Dz h.nx h'.nx⟩
 .rcases h'.sv t with e | e
  .rw [e];exact h.sv t
  .exact .inr e
 .rcases h'.ho id with e | e
  .rw [e];exact h.ho id
  .exact .inr e
theorem Co9(a b:ES):Less a.ds (bS a b).ds:=by
 refine ⟨λt=>?_,λid=>?_,Nat.le_max_left _ _⟩
 .show ((Mk Qk a.sl b.sl).get t).getD .any=(a.sl.get t).getD .any\/((Mk Qk a.sl b.sl).get t).getD .any=.any
  rcases AH (f:=Qk) rfl a.sl b.sl t with h | h
  .rcases Bj9 (a.sl.get t) (b.sl.get t) with h2 | h2
   .rw [h,h2.1];exact .inl rfl
   .rw [h,h2];exact .inr rfl
  .rw [h];exact .inr rfl
 .show (Mk Qj a.hp b.hp).get id=a.hp.get id\/_
  rcases AH (f:=Qj) rfl a.hp b.hp id with h | h
  .rcases Bj8 (a.hp.get id) (b.hp.get id) with h2 | h2
   .rw [h];exact .inl h2.1
   .exact .inr (by show (Mk Qj a.hp b.hp).get id=none;rw [h,h2])
  .exact .inr h
theorem Cp0(a b:ES):Less b.ds (bS a b).ds:=by
 refine ⟨λt=>?_,λid=>?_,Nat.le_max_right _ _⟩
 .show ((Mk Qk a.sl b.sl).get t).getD .any=(b.sl.get t).getD .any\/((Mk Qk a.sl b.sl).get t).getD .any=.any
  rcases AH (f:=Qk) rfl a.sl b.sl t with h | h
  .rcases Bj9 (a.sl.get t) (b.sl.get t) with h2 | h2
   .rw [h,h2.2];exact .inl rfl
   .rw [h,h2];exact .inr rfl
  .rw [h];exact .inr rfl
 .show (Mk Qj a.hp b.hp).get id=b.hp.get id\/_
  rcases AH (f:=Qj) rfl a.hp b.hp id with h | h
  .rcases Bj8 (a.hp.get id) (b.hp.get id) with h2 | h2
   .rw [h];exact .inl h2.2
   .exact .inr (by show (Mk Qj a.hp b.hp).get id=none;rw [h,h2])
  .exact .inr h
def Ry{α β:Type}(f:α->Option (List β)):List α->Option (List β)
 | []=>some []
 | a::r=>match f a with
  | some b=>match Ry f r with
   | some c=>some (b++c)
   | none=>none
  | none=>none
theorem VA{α β:Type}{f:α->Option (List β)} : ∀ {l:List α} {m:List β},Ry f l=some m->∀ a∈l,∃ b,f a=some b/\∀ x∈b,x∈m
 | [],_,_,a,ha=>by cases ha
 | a::r,m,h,a',ha=>by
  unfold Ry at h
  split at h
  rotate_left
  .cases h
  rename_i b hb
  split at h
  rotate_left
  .cases h
  rename_i c hc
  cases h
  rcases Ap.1 ha with rfl | ha
  .exact ⟨b,hb,λx hx=>Ax.2 (.inl hx)⟩
  .obtain ⟨b',h1,h2⟩:=VA hc a' ha
   exact ⟨b',h1,λx hx=>Ax.2 (.inr (h2 x hx))⟩
def runN:List DR->Bg->ES->Option (List ES)
 | [],_,es=>some [es]
 | r::rest,call,es=>match r.op,r.g with
  | .nxm k x,none=>match Vw es.ds k x with
   | some l=>Ry (λp=>runN rest call ((ES.mk es.sl (Lv es.hp es.nx p.2) es.nx).putE (Fp r.dst) p.1)) l
   | none=>none
  | _,_=>match Ye r call es with
   | some es'=>runN rest call es'
   | none=>none
def Xd(f:ES->Option (List (Exit×ES))):Nat->ES->Option (List (Exit×ES))
 | 0,_=>none
 | n+1,es=>match f es with
  | some l=>Ry (λp=>match p.1 with
   | .normal=>Xd f n p.2
   | e=>some [(e,p.2)]) l
  | none=>none
def Mp(n nt:Nat):DC->Bg->ES->Option (List (Exit×ES))
 | .skip,_,es=>some [(.normal,es)]
 | .ret,_,es=>some [(.ret,es)]
 | .exit id,_,es=>some [(.exit id,es)]
 | .seq a b,call,es=>match Mp n nt a call es with
  | some l=>Ry (λp=>match p.1 with
   | .normal=>Mp n nt b call p.2
   | e=>some [(e,p.2)]) l
  | none=>none
 | .cond x a b,call,es=>match Ad es (.of x) with
  | .v (.bool t)=>if t then Mp n nt a call es else Mp n nt b call es
  | _=>none
 | .blk id c,call,es=>match Mp n nt c call es with
  | some l=>some (l.map λp=>match p.1 with
   | .exit i=>if i=id then (.normal,p.2) else (.exit i,p.2)
   | e=>(e,p.2))
  | none=>none
 | .loop c,call,es=>Xd (Mp n nt c call) n es
 | .reg false ops _,call,es=>match runN ops call es with
  | some l=>some (l.map λe=>(.normal,e))
  | none=>none
 | d,call,es=>match Dv n nt false d call es with
  | some p=>some [p]
  | none=>none
def EvL(P:Program)(nt:Nat)(c:DC)(es:ES)(l:List (Exit×ES)):Prop:=
 (∀ p∈l,Gw es.ds p.2.ds)/\∀ (C:Ctx) (Q:Exit->DS->Prop),C.P=P->C.nt=nt->C.rd=none->(∀ p∈l,Q p.1 p.2.ds)->DW C c Q es.ds
theorem VM{P:Program}{call:Bg}(hc:Uw P call):∀ (ops:List DR) (es:ES) (l:List ES),runN ops call es=some l->es.ds.Fr->(∀ e∈l,Gw es.ds e.ds)/\∀ K:DS->Prop,(∀ e∈l,K e.ds)->bK P ops es.ds K
 | [],es,l,h,_=>by
  have h3:some [es]=some l:=h
  cases h3
  exact ⟨λe he=>by rw [Aj] at he;subst he;exact Gw.refl _,λK hK=>hK es (by simp)⟩
 | r::rest,es,l,h,Cy=>by
  unfold runN at h
  split at h
  .rename_i k x ho hg
   split at h
   rotate_left
   .cases h
   rename_i lo Gi
   have Of:∀ p∈lo,((ES.mk es.sl (Lv es.hp es.nx p.2) es.nx).putE (Fp r.dst) p.1).ds=(es.ds.upd es.ds.nx p.2).put r.dst p.1:=λp _=>by
    have e:(ES.mk es.sl (Lv es.hp es.nx p.2) es.nx).ds=es.ds.upd es.ds.nx p.2:=by
     simp only [ES.ds,Z0];rfl
    rw [eN,e]
   have oP:∀ p∈lo,Gw es.ds ((ES.mk es.sl (Lv es.hp es.nx p.2) es.nx).putE (Fp r.dst) p.1).ds:=λp hp=>by
    rw [Of p hp]
    exact (we (PI Gi p hp).1 (PI Gi p hp).2 _).trans (Gw.put _ _ _)
   refine ⟨λe he=>?_,λK hK=>?_⟩
   .have key:∀ {HO:List (DV×Upd)} {l':List ES},(∀ p∈HO,p∈lo)->Ry (λp=>runN rest call ((ES.mk es.sl (Lv es.hp es.nx p.2) es.nx).putE (Fp r.dst) p.1)) HO=some l'->∀ e∈l',Gw es.ds e.ds:=by
     intro HO
     induction HO with
     | nil=>intro l' _ h e he;cases h;cases he
     | cons p HO ih=>
      intro l' Oe h e he
      unfold Ry at h
      split at h
      rotate_left
      .cases h
      rename_i b hb
      split at h
      rotate_left
      .cases h
      rename_i c Qg
      cases h
      rcases Ax.1 he with he | he
      .have hp:=Oe p (by simp)
       exact (oP p hp).trans ((VM hc rest _ b hb (Gw.fr Cy (oP p hp))).1 e he)
      .exact ih (λq hq=>Oe q (by simp [hq])) Qg e he
    exact key (λp hp=>hp) h e he
   .simp only [bK,hg,DS.wanted]
    unfold Nd
    rw [ho]
    simp only [Gi]
    intro p hp
    obtain ⟨b,h1,h2⟩:=VA h p hp
    rw [<- Of p hp]
    exact (VM hc rest _ b h1 (Gw.fr Cy (oP p hp))).2 K λe he=>hK e (h2 e he)
  .split at h
   rotate_left
   .cases h
   rename_i Ai h1
   obtain ⟨g1,k1⟩:=wb hc h1 Cy
   obtain ⟨g2,k2⟩:=VM hc rest Ai l h (Gw.fr Cy g1)
   exact ⟨λe he=>g1.trans (g2 e he),λK hK=>k1 (k2 K hK)⟩
theorem zj{α:Type}{s:DS}{g:α->DS}{f:α->Option (List (Exit×ES))}(hg:∀ a b,f a=some b->Gw s (g a)->∀ p∈b,Gw s p.2.ds):∀ {l:List α} {m:List (Exit×ES)},(∀ a∈l,Gw s (g a))->Ry f l=some m->∀ p∈m,Gw s p.2.ds
 | [],m,_,h,p,hp=>by cases h;cases hp
 | a::r,m,hl,h,p,hp=>by
  unfold Ry at h
  split at h
  rotate_left
  .cases h
  rename_i b hb
  split at h
  rotate_left
  .cases h
  rename_i c Qg
  cases h
  rcases Ax.1 hp with hp | hp
  .exact hg a b hb (hl a (by simp)) p hp
  .exact zj hg (λx hx=>hl x (by simp [hx])) Qg p hp
theorem B79{P:Program}{call:Bg}(hc:Uw P call)(hm:P.follows .mixedOrders=true){n nt:Nat} : ∀ (c:DC) (es:ES) (l:List (Exit×ES)),Mp n nt c call es=some l->es.ds.Fr->EvL P nt c es l:=by
 intro c
 have one:∀ (d:DC) (es:ES) (l:List (Exit×ES)),(match Dv n nt false d call es with
  | some p=>some [p]
  | none=>none)=some l->es.ds.Fr->EvL P nt d es l:=by
  intro d es l h Cy
  split at h
  rotate_left
  .cases h
  rename_i p hp
  cases h
  obtain ⟨e,es'⟩:=p
  obtain ⟨g,k⟩:=PH hc hm d es e es' hp Cy
  exact ⟨λq hq=>by rw [Aj] at hq;subst hq;exact g,λC Q hP Hk Hs hQ=>k C Q hP Hk (λ_=>Hs) (hQ (e,es') (by simp))⟩
 induction c with
 | skip=>
  intro es l h Cy
  have h':some [(Exit.normal,es)]=some l:=h
  cases h'
  exact ⟨λq hq=>by rw [Aj] at hq;subst hq;exact Gw.refl _,λC Q _ _ _ hQ=>DW.skip (hQ (.normal,es) (by simp))⟩
 | ret=>
  intro es l h Cy
  have h':some [(Exit.ret,es)]=some l:=h
  cases h'
  exact ⟨λq hq=>by rw [Aj] at hq;subst hq;exact Gw.refl _,λC Q _ _ _ hQ=>DW.ret (hQ (.ret,es) (by simp))⟩
 | exit id=>
  intro es l h Cy
  have h':some [(Exit.exit id,es)]=some l:=h
  cases h'
  exact ⟨λq hq=>by rw [Aj] at hq;subst hq;exact Gw.refl _,λC Q _ _ _ hQ=>DW.exit (hQ (.exit id,es) (by simp))⟩
 | seq a b jK jJ=>
  intro es l h Cy
  unfold Mp at h
  split at h
  rotate_left
  .cases h
  rename_i la hla
  obtain ⟨ga,ka⟩:=jK es la hla Cy
  refine ⟨?_,λC Q hP Hk Hs hQ=>DW.seq (ka C _ hP Hk Hs λp hp=>?_)⟩
  .refine zj (g:=λp:Exit×ES=>p.2.ds) (λp b hb O2 q hq=>?_) ga h
   split at hb
   .exact O2.trans ((jJ p.2 b hb (Gw.fr Cy O2)).1 q hq)
   .cases hb;rw [Aj] at hq;subst hq;exact O2
  .obtain ⟨m,h1,h2⟩:=VA h p hp
   obtain ⟨e,Ai⟩:=p
   cases e with
   | normal=>exact (jJ Ai m h1 (Gw.fr Cy (ga _ hp))).2 C Q hP Hk Hs λq hq=>hQ q (h2 q hq)
   | _=>cases h1;exact hQ _ (h2 _ (by simp))
 | cond x a b jK jJ=>
  intro es l h Cy
  unfold Mp at h
  split at h
  rotate_left
  .cases h
  rename_i t ht
  rw [Ts] at ht
  have Wi:=ot ht
  split at h
  .rename_i L7
   obtain ⟨g,k⟩:=jK es l h Cy
   exact ⟨g,λC Q hP Hk Hs hQ=>DW.cond Wi (λ_=>k C Q hP Hk Hs hQ) (λh=>by rw [L7] at h;cases h)⟩
  .rename_i L7
   obtain ⟨g,k⟩:=jJ es l h Cy
   exact ⟨g,λC Q hP Hk Hs hQ=>DW.cond Wi (λh=>absurd h L7) (λ_=>k C Q hP Hk Hs hQ)⟩
 | blk id c ih=>
  intro es l h Cy
  unfold Mp at h
  split at h
  rotate_left
  .cases h
  rename_i lc cJ
  cases h
  obtain ⟨g,k⟩:=ih es lc cJ Cy
  refine ⟨λp hp=>?_,λC Q hP Hk Hs hQ=>DW.blk (k C _ hP Hk Hs λp hp=>?_)⟩
  .obtain ⟨q,hq,rfl⟩:=Bn.1 hp
   obtain ⟨e,Ai⟩:=q
   have:=g _ hq
   cases e <;> first | exact this | (simp only;split <;> exact this)
  .have:=hQ _ (Bn.2 ⟨p,hp,rfl⟩)
   obtain ⟨e,Ai⟩:=p
   cases e with
   | exit i=>
    simp only [fZ] at this ⊢
    split
    .rename_i hi;rw [Af hi] at this;exact this
    .rename_i hi;rw [Ae hi] at this;exact this
   | _=>exact this
 | loop c ih=>
  intro es l h Cy
  have h':Xd (Mp n nt c call) n es=some l:=h
  have gw:∀ (m:Nat) (es:ES) (l:List (Exit×ES)),Xd (Mp n nt c call) m es=some l->es.ds.Fr->∀ p∈l,Gw es.ds p.2.ds:=by
   intro m
   induction m with
   | zero=>intro es l h _;cases h
   | succ m im=>
    intro es l h Cy
    unfold Xd at h
    split at h
    rotate_left
    .cases h
    rename_i lc cJ
    obtain ⟨g,_⟩:=ih es lc cJ Cy
    refine zj (g:=λp:Exit×ES=>p.2.ds) (λp b hb O2 q hq=>?_) g h
    split at hb
    .exact O2.trans (im p.2 b hb (Gw.fr Cy O2) q hq)
    .cases hb;rw [Aj] at hq;subst hq;exact O2
  refine ⟨gw n es l h' Cy,λC Q hP Hk Hs hQ=>?_⟩
  refine DW.loop (I:=λk s=>∃ Ai l1,s=Ai.ds/\Ai.ds.Fr/\Xd (Mp n nt c call) k Ai=some l1/\∀ p∈l1,Q p.1 p.2.ds) n ⟨es,l,rfl,Cy,h',hQ⟩ ?_
  rintro k s ⟨Ai,l1,rfl,cU,h1,hQ1⟩
  cases k with
  | zero=>cases h1
  | succ k=>
   unfold Xd at h1
   split at h1
   rotate_left
   .cases h1
   rename_i lc cJ
   obtain ⟨g,kk⟩:=ih Ai lc cJ cU
   refine kk C _ hP Hk Hs λp hp=>?_
   obtain ⟨m,h2,h3⟩:=VA h1 p hp
   obtain ⟨e,Cd⟩:=p
   cases e with
   | normal=>exact ⟨k,Ex k,Cd,m,rfl,Gw.fr cU (g _ hp),h2,λq hq=>hQ1 q (h3 q hq)⟩
   | _=>cases h2;exact hQ1 _ (h3 _ (by simp))
 | reg draw ops info=>
  intro es l h Cy
  cases draw with
  | false=>
   unfold Mp at h
   split at h
   rotate_left
   .cases h
   rename_i lc cJ
   cases h
   obtain ⟨g,k⟩:=VM hc ops es lc cJ Cy
   refine ⟨λp hp=>?_,λC Q hP Hk Hs hQ=>DW.reg (by rw [hP];exact k _ λe he=>hQ _ (Bn.2 ⟨e,he,rfl⟩))⟩
   obtain ⟨e,he,rfl⟩:=Bn.1 hp
   exact g e he
  | true=>exact one _ es l h Cy
 | rng g ps a b _ _=>intro es l h Cy;exact one _ es l h Cy
 | dfq t g cap=>intro es l h Cy;exact one _ es l h Cy
 | bad=>intro es l h Cy;exact one _ es l h Cy
def Xc:List (Exit×ES)->Option ES
 | []=>none
 | [p]=>match p.1 with
  | .normal=>some p.2
  | .ret=>some p.2
  | _=>none
 | p::r=>match p.1,Xc r with
  | .normal,some es=>some (bS p.2 es)
  | .ret,some es=>some (bS p.2 es)
  | _,_=>none
theorem Bk0:∀ {l:List (Exit×ES)} {es:ES},Xc l=some es->∀ p∈l,(p.1=.normal\/p.1=.ret)/\Less p.2.ds es.ds
 | [p],es,h,q,hq=>by
  rw [Aj] at hq
  subst hq
  obtain ⟨e,Ai⟩:=q
  cases e <;> simp only [Xc] at h <;> first | (cases h;done) | skip
  .cases h;exact ⟨.inl rfl,Less.refl _⟩
  .cases h;exact ⟨.inr rfl,Less.refl _⟩
 | p::p'::r,es,h,q,hq=>by
  obtain ⟨e,Ai⟩:=p
  cases hm:Xc (p'::r) with
  | none=>cases e <;> simp [Xc,hm] at h
  | some Cd=>
   have Xy:(e=.normal\/e=.ret)/\es=bS Ai Cd:=by
    cases e <;> simp only [Xc,hm] at h <;> first | (cases h;done) | (cases h;first | exact ⟨.inl rfl,rfl⟩ | exact ⟨.inr rfl,rfl⟩)
   obtain ⟨h1,rfl⟩:=Xy
   rcases Ap.1 hq with rfl | hq
   .exact ⟨h1,Co9 _ _⟩
   .have:=Bk0 hm q hq
    exact ⟨this.1,this.2.trans (Cp0 _ _)⟩
def DC.hasN:DC->Bool
 | .seq a b=>a.hasN||b.hasN
 | .cond _ a b=>a.hasN||b.hasN
 | .blk _ c=>c.hasN
 | .loop c=>c.hasN
 | .reg false ops _=>ops.any λr=>match r.op with
  | .nxm _ _=>true
  | _=>false
 | _=>false
def cM(n nt:Nat)(c:DC):CE:=λcall es=>match Mp n nt c call es with
 | some l=>match Xc l with
  | some es'=>some (.ret,es')
  | none=>none
 | none=>none
def mQ(n nt:Nat)(c:DC):CE:=Bool.rec (motive:=λ_=>CE) (Dv n nt false c) (cM n nt c) c.hasN
theorem Cp1{P:Program}{call:Bg}(hc:Uw P call)(hm:P.follows .mixedOrders=true){n nt:Nat}{c:DC}{es es':ES}{e:Exit}(h:mQ n nt c call es=some (e,es'))(Cy:es.ds.Fr) :
  Gw es.ds es'.ds/\∀ (C:Ctx) (Q:Exit->DS->Prop),C.P=P->C.nt=nt->C.rd=none->(∀ e',e'=e\/e'=.normal\/e'=.ret->Q e' es'.ds)->DW C c Q es.ds:=by
 unfold mQ at h
 cases hh:c.hasN with
 | false=>
  rw [hh] at h
  obtain ⟨g,k⟩:=PH hc hm c es e es' h Cy
  exact ⟨g,λC Q hP Hk Hs hQ=>k C Q hP Hk (λ_=>Hs) (hQ e (.inl rfl))⟩
 | true=>
  rw [hh] at h
  have h':cM n nt c call es=some (e,es'):=h
  unfold cM at h'
  split at h'
  rotate_left
  .cases h'
  rename_i l hl
  split at h'
  rotate_left
  .cases h'
  rename_i Cd tU
  cases h'
  obtain ⟨g,k⟩:=B79 hc hm c es l hl Cy
  have Yj:=Bk0 tU
  have Gt:∃ p,p∈l:=by
   cases l with
   | nil=>cases tU
   | cons p r=>exact ⟨p,by simp⟩
  obtain ⟨p0,Nr⟩:=Gt
  refine ⟨⟨Dz (g p0 Nr).le (Yj p0 Nr).2.nx,λid h1 h2=>?_⟩,λC Q hP Hk Hs hQ=>?_⟩
  .have bF:=(Yj p0 Nr).2
   rcases bF.ho id with e | e
   .rw [e] at h2
    have:=(g p0 Nr).new id h1 h2
    exact ⟨this.1,Bs this.2 bF.nx⟩
   .exact absurd e h2
  .intro code iJ a w hs
   refine wpIn_mono (k C (λe s=>(e=.normal\/e=.ret)/\Less s es'.ds) hP Hk Hs (λp hp=>Yj p hp) code iJ a w hs) ?_
   rintro e a' w' ⟨s,⟨he,KA⟩,hh⟩
   exact ⟨es'.ds,hQ e (.inr he),Imp.weak KA.sv KA.ho KA.nx C a' w' hh⟩
end Go.DD
