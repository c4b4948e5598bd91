/- A part. -/
import Derived.Test.YtnphfnhhpcelbaaGreatXc
namespace Go.DD
theorem Bm2 {α:Type} : ∀ (f k:Nat) (t:Tr α),k≤f→gP (pthF f k) t=t.get k
 | 0,k,t,h=>by
  obtain rfl:k=0:=by omega
  cases t <;> rfl
 | f+1,0,t,_=>by cases t <;> rfl
 | f+1,k+1,t,h=>by
  have ih:=fun (t:Tr α)=>Bm2 f (k / 2) t (by omega)
  simp only [pthF]
  by_cases hk:k % 2=0
  ·rw [if_pos hk]
   cases t with
   | e=>rfl
   | n l v r=>simp only [Tr.get,if_pos hk,← ih]; rfl
  ·rw [if_neg hk]
   cases t with
   | e=>rfl
   | n l v r=>simp only [Tr.get,if_neg hk,← ih]; rfl
theorem Cl4 {α:Type} (k:Nat) (t:Tr α):gP (pth k) t=t.get k:=Bm2 k k t (Nat.le_refl _)
theorem Bm3 {α:Type} : ∀ (f k j:Nat) (v:Option α) (t:Tr α),k≤f→(sP (pthF f k) v t).get j=if k=j then v else t.get j
 | 0,k,j,v,t,h=>by
  obtain rfl:k=0:=by omega
  cases t <;> cases j <;> simp [sP,pthF,Tr.get]
 | f+1,0,j,v,t,_=>by cases t <;> cases j <;> simp [sP,pthF,Tr.get]
 | f+1,k+1,j,v,t,h=>by
  have ih:=fun (t:Tr α) j=>Bm3 f (k / 2) j v t (by omega)
  simp only [pthF]
  by_cases hk:k % 2=0
  ·rw [if_pos hk]
   cases t with
   | e=>
    show (Tr.n (sP (pthF f (k / 2)) v .e) none .e).get j=_
    cases j with
    | zero=>simp [Tr.get]
    | succ j=>
     simp only [Tr.get]
     by_cases hj:j % 2=0
     ·rw [if_pos hj,ih]
      by_cases he:k=j
      ·subst he; simp
      ·rw [if_neg (by omega),if_neg (by omega)]; rfl
     ·rw [if_neg hj,if_neg (by omega)]
   | n l x r=>
    show (Tr.n (sP (pthF f (k / 2)) v l) x r).get j=_
    cases j with
    | zero=>simp [Tr.get]
    | succ j=>
     simp only [Tr.get]
     by_cases hj:j % 2=0
     ·rw [if_pos hj,if_pos hj,ih]
      by_cases he:k=j
      ·subst he; simp
      ·rw [if_neg (by omega),if_neg (by omega)]
     ·rw [if_neg hj,if_neg hj,if_neg (by omega)]
  ·rw [if_neg hk]
   cases t with
   | e=>
    show (Tr.n .e none (sP (pthF f (k / 2)) v .e)).get j=_
    cases j with
    | zero=>simp [Tr.get]
    | succ j=>
     simp only [Tr.get]
     by_cases hj:j % 2=0
     ·rw [if_pos hj,if_neg (by omega)]
     ·rw [if_neg hj,ih]
      by_cases he:k=j
      ·subst he; simp
      ·rw [if_neg (by omega),if_neg (by omega)]; rfl
   | n l x r=>
    show (Tr.n l x (sP (pthF f (k / 2)) v r)).get j=_
    cases j with
    | zero=>simp [Tr.get]
    | succ j=>
     simp only [Tr.get]
     by_cases hj:j % 2=0
     ·rw [if_pos hj,if_pos hj,if_neg (by omega)]
     ·rw [if_neg hj,if_neg hj,ih]
      by_cases he:k=j
      ·subst he; simp
      ·rw [if_neg (by omega),if_neg (by omega)]
theorem Bm4 {α:Type} (k j:Nat) (v:Option α) (t:Tr α):(sP (pth k) v t).get j=if k=j then v else t.get j:=Bm3 k k j v t (Nat.le_refl _)
theorem A79 (j:Nat):Nat.beq (Nat.mod j 2) 0=decide (j % 2=0):=by
 show Nat.beq (j % 2) 0=_
 cases h:Nat.beq (j % 2) 0 with
 | true=>have:=Nat.eq_of_beq_eq_true h; simp [this]
 | false=>have:=Nat.ne_of_beq_eq_false h; simp [this]
theorem gN_eq {α:Type} : ∀ (t:Tr α) (k:Nat),gN t k=t.get k
 | .e,k=>rfl
 | .n l v r,0=>rfl
 | .n l v r,k+1=>by
  have e:gN (.n l v r) (k+1)=Bool.rec (gN r (Nat.div k 2)) (gN l (Nat.div k 2)) (Nat.beq (Nat.mod k 2) 0):=rfl
  rw [e,A79]
  simp only [Tr.get]
  have h1:gN r (Nat.div k 2)=r.get (k / 2):=gN_eq r _
  have h2:gN l (Nat.div k 2)=l.get (k / 2):=gN_eq l _
  by_cases hk:k % 2=0
  ·simp only [hk,decide_true,if_true]; exact h2
  ·simp only [hk,decide_false,if_false]; exact h1
theorem B34 {α:Type} : ∀ (f k j:Nat) (v:Option α) (t:Tr α),k≤f→(sN f v t k).get j=if k=j then v else t.get j
 | 0,k,j,v,t,h=>by
  obtain rfl:k=0:=by omega
  cases t <;> cases j <;> simp [sN,Tr.get]
 | f+1,0,j,v,t,_=>by cases t <;> cases j <;> simp [sN,Tr.get]
 | f+1,k+1,j,v,t,h=>by
  have ih:=fun (t:Tr α) j=>B34 f (k / 2) j v t (by omega)
  have ih':∀ t j,(sN f v t (Nat.div k 2)).get j=if k / 2=j then v else t.get j:=ih
  by_cases hk:k % 2=0
  ·have hb:Nat.beq (Nat.mod k 2) 0=true:=by rw [A79]; simp [hk]
   cases t with
   | e=>
    have e:sN (f+1) v .e (k+1)=.n (sN f v .e (Nat.div k 2)) none .e:=by
     have e0:sN (f+1) v .e (k+1)=Bool.rec (motive:=fun _=>Tr α) (.n .e none (sN f v .e (Nat.div k 2))) (.n (sN f v .e (Nat.div k 2)) none .e) (Nat.beq (Nat.mod k 2) 0):=rfl
     rw [e0,hb]
    rw [e]
    cases j with
    | zero=>simp [Tr.get]
    | succ j=>
     simp only [Tr.get]
     by_cases hj:j % 2=0
     ·rw [if_pos hj,ih']
      by_cases he:k=j
      ·subst he; simp
      ·rw [if_neg (by omega),if_neg (by omega)]; rfl
     ·rw [if_neg hj,if_neg (by omega)]
   | n l x r=>
    have e:sN (f+1) v (.n l x r) (k+1)=.n (sN f v l (Nat.div k 2)) x r:=by
     have e0:sN (f+1) v (.n l x r) (k+1)=Bool.rec (motive:=fun _=>Tr α) (.n l x (sN f v r (Nat.div k 2))) (.n (sN f v l (Nat.div k 2)) x r) (Nat.beq (Nat.mod k 2) 0):=rfl
     rw [e0,hb]
    rw [e]
    cases j with
    | zero=>simp [Tr.get]
    | succ j=>
     simp only [Tr.get]
     by_cases hj:j % 2=0
     ·rw [if_pos hj,if_pos hj,ih']
      by_cases he:k=j
      ·subst he; simp
      ·rw [if_neg (by omega),if_neg (by omega)]
     ·rw [if_neg hj,if_neg hj,if_neg (by omega)]
  ·have hb:Nat.beq (Nat.mod k 2) 0=false:=by rw [A79]; simp [hk]
   cases t with
   | e=>
    have e:sN (f+1) v .e (k+1)=.n .e none (sN f v .e (Nat.div k 2)):=by
     have e0:sN (f+1) v .e (k+1)=Bool.rec (motive:=fun _=>Tr α) (.n .e none (sN f v .e (Nat.div k 2))) (.n (sN f v .e (Nat.div k 2)) none .e) (Nat.beq (Nat.mod k 2) 0):=rfl
     rw [e0,hb]
    rw [e]
    cases j with
    | zero=>simp [Tr.get]
    | succ j=>
     simp only [Tr.get]
     by_cases hj:j % 2=0
     ·rw [if_pos hj,if_neg (by omega)]
     ·rw [if_neg hj,ih']
      by_cases he:k=j
      ·subst he; simp
      ·rw [if_neg (by omega),if_neg (by omega)]; rfl
   | n l x r=>
    have e:sN (f+1) v (.n l x r) (k+1)=.n l x (sN f v r (Nat.div k 2)):=by
     have e0:sN (f+1) v (.n l x r) (k+1)=Bool.rec (motive:=fun _=>Tr α) (.n l x (sN f v r (Nat.div k 2))) (.n (sN f v l (Nat.div k 2)) x r) (Nat.beq (Nat.mod k 2) 0):=rfl
     rw [e0,hb]
    rw [e]
    cases j with
    | zero=>simp [Tr.get]
    | succ j=>
     simp only [Tr.get]
     by_cases hj:j % 2=0
     ·rw [if_pos hj,if_pos hj,if_neg (by omega)]
     ·rw [if_neg hj,if_neg hj,ih']
      by_cases he:k=j
      ·subst he; simp
      ·rw [if_neg (by omega),if_neg (by omega)]
theorem As8 {α:Type} (t:Tr α) (k:Nat) (v:Option α):(setN t k v).get=fun j=>if j=k then v else t.get j:=by
 funext j
 unfold setN
 rw [B34 k k j v t (Nat.le_refl _)]
 by_cases h:k=j
 ·rw [if_pos h,if_pos h.symm]
 ·rw [if_neg h,if_neg (Ne.symm h)]
theorem Ao2 {t:Tr DObj} {k:Nat} {v:Option DObj} : (setN t k v).get=setH t.get k v:=As8 t k v
theorem Tr.set_ho {t:Tr DObj} {k:Nat} {v:Option DObj} : (t.set k v).get=setH t.get k v:=by
 funext j
 rw [Tr.get_set]
 unfold setH
 by_cases h:k=j
 ·rw [if_pos h,if_pos h.symm]
 ·rw [if_neg h,if_neg (Ne.symm h)]
theorem Ak7 (d:DV):refsE d=d.refs:=by cases d <;> simp [refsE,DV.refs]
theorem Aw0 {α:Type} (l:List α) (f:α→Bool):allL l f=l.all f:=by
 induction l with
 | nil=>rfl
 | cons a l ih=>
  have e:allL (a :: l) f=Bool.rec false (allL l f) (f a):=rfl
  rw [e,ih,List.all_cons]
  cases f a <;> rfl
theorem Af6 {α:Type} (x:Option α):someB x=x.isSome:=by cases x <;> rfl
theorem Ab2 {α:Type} (b:Bool) (x y:α):iteB b x y=if b=true then x else y:=by cases b <;> rfl
theorem Bx5 (es:ES) (d:DV):liveE es.hp d=if es.ds.live d=true then d else .any:=by
 unfold liveE
 rw [Ab2,Aw0,Ak7]
 simp only [Af6,gN_eq]
 rfl
theorem Ab5 (es:ES) (x:Operand):rawE es (.of x)=es.ds.rv x:=by
 cases x with
 | tmp t=>
  show (Option.rec .any (fun d=>d) (gP (pth t) es.sl):DV)=(es.sl.get t).getD .any
  rw [Cl4]
  cases es.sl.get t <;> rfl
 | _=>rfl
theorem Am0 (es:ES) (x:Operand):evE es (.of x)=es.ds.ev x:=by
 cases x with
 | tmp t=>
  have h:=Ab5 es (.tmp t)
  show liveE es.hp (rawE es (.of (.tmp t)))=_
  rw [h,Bx5]
  rfl
 | _=>rfl
theorem Bm5 (es:ES) (t:Nat):rawE es (.t (pth t))=es.ds.sv t:=Ab5 es (.tmp t)
theorem Ab4 {α:Type} (n:Nat) (k:Nat→α):Af5 n k=k n:=by cases n <;> rfl
theorem A48 {α:Type} (n:Int) (k:Int→α):Bl9 n k=k n:=by
 cases n with
 | ofNat m=>exact Ab4 m fun m=>k (.ofNat m)
 | negSucc m=>exact Ab4 m fun m=>k (.negSucc m)
theorem Ap6 {β α:Type} (l:List β) (k:List β→α):Ar7 l k=k l:=by
 induction l generalizing k with
 | nil=>rfl
 | cons a l ih=>
  have e:Ar7 (a :: l) k=Ar7 l (fun t=>k (a :: t)):=rfl
  rw [e,ih]
theorem Ae4 {α:Type} : ∀ (n:Nat) (l:List α),dropL n l=l.drop n
 | 0,l=>rfl
 | n+1,[]=>rfl
 | n+1,a :: l=>by
  have e:dropL (n+1) (a :: l)=dropL n l:=rfl
  rw [e,Ae4 n l]; rfl
theorem As9 {α:Type} : ∀ (n:Nat) (l:List α),takeL n l=l.take n
 | 0,l=>rfl
 | n+1,[]=>rfl
 | n+1,a :: l=>by
  have e:takeL (n+1) (a :: l)=a :: takeL n l:=rfl
  rw [e,As9 n l]; rfl
theorem Af0 {α:Type} (a b:List α):appL a b=a ++ b:=by
 induction a with
 | nil=>rfl
 | cons x a ih=>
  have e:appL (x :: a) b=x :: appL a b:=rfl
  rw [e,ih]; rfl
theorem Am1 {α β:Type} (f:α→β) (l:List α):mapL f l=l.map f:=by
 induction l with
 | nil=>rfl
 | cons x a ih=>
  have e:mapL f (x :: a)=f x :: mapL f a:=rfl
  rw [e,ih]; rfl
theorem Am2 (d:DV):Ay7 d=d.cells:=by cases d <;> rfl
theorem Bb8 (d:DV):okE d=d.okC:=by cases d <;> rfl
theorem An2 (k:Option Nat) (cs:List DV):partE k cs=partD k cs:=by
 cases k with
 | none=>cases cs <;> rfl
 | some n=>
  have e:partE (some n) cs=iteB (Nat.ble n cs.length) (some (.agg (takeL n cs))) none:=rfl
  rw [e,Ab2,As9]
  simp [partD,Nat.ble_eq]
theorem Ak8 {α:Type} {d:DV} {f:Value→Option α} {x:α} (h:cV d f none=some x):∃ v,d=.v v∧f v=some x:=by
 cases d with
 | v y=>exact ⟨y,rfl,h⟩
 | _=>cases h
theorem Am3 {α:Type} {v:Value} {fb:Bool→Option α} {fi:IntKind→Int→Option α} {fs:ByteArray→Option α} {x:α} (h:cVal v fb fi fs none=some x) :
  (∃ b,v=.bool b∧fb b=some x)∨(∃ k n,v=.int k n∧fi k n=some x)∨∃ s,v=.string s∧fs s=some x:=by
 cases v with
 | bool b=>exact .inl ⟨b,rfl,h⟩
 | int k n=>exact .inr (.inl ⟨k,n,rfl,h⟩)
 | string s=>exact .inr (.inr ⟨s,rfl,h⟩)
 | _=>cases h
theorem A13 (x:Option Value):outV x=x.map .v:=by
 cases x with
 | none=>rfl
 | some v=>
  cases v with
  | bool b=>cases b <;> rfl
  | int k n=>exact A48 n fun n=>some (DV.v (.int k n))
  | _=>rfl
theorem Cd0 (k k':IntKind):Nat.beq k.ctorIdx k'.ctorIdx=true↔k=k':=by cases k <;> cases k' <;> decide
theorem ev_v {s:DS} {x:Operand} {v:Value} (h:s.rv x=.v v):s.ev x=.v v:=by
 cases x with
 | tmp t=>
  have h':s.sv t=.v v:=h
  simp [DS.ev,h',DS.live,DV.refs]
 | _=>exact h
theorem ev_ia {s:DS} {x:Operand} {cs:List DV} (h:s.rv x=.ia cs):s.ev x=.ia cs:=by
 cases x with
 | tmp t=>
  have h':s.sv t=.ia cs:=h
  simp [DS.ev,h',DS.live,DV.refs]
 | _=>exact h
theorem ev_sl {s:DS} {x:Operand} {cs:List DV} {n:Nat} (h:s.rv x=.sl cs n):s.ev x=.sl cs n:=by
 cases x with
 | tmp t=>
  have h':s.sv t=.sl cs n:=h
  simp [DS.ev,h',DS.live,DV.refs]
 | _=>exact h
theorem ev_pt {s:DS} {x:Operand} {id off:Nat} (h:s.rv x=.pt id off) (ha:(s.ho id).isSome=true):s.ev x=.pt id off:=by
 cases x with
 | tmp t=>
  have h':s.sv t=.pt id off:=h
  simp [DS.ev,h',DS.live,DV.refs,ha]
 | _=>exact h
theorem ev_ms {s:DS} {x:Operand} {id off n es:Nat} (h:s.rv x=.ms id off n es) (ha:(s.ho id).isSome=true):s.ev x=.ms id off n es:=by
 cases x with
 | tmp t=>
  have h':s.sv t=.ms id off n es:=h
  simp [DS.ev,h',DS.live,DV.refs,ha]
 | _=>exact h
theorem Am4 {α:Type} {d:DV} {fi:List DV→Option α} {fp:Nat→Nat→Option α} {x:α} (h:cAdr d fi fp none=some x):(∃ cs,d=.ia cs∧fi cs=some x)∨∃ id off,d=.pt id off∧fp id off=some x:=by
 cases d with
 | ia cs=>exact .inl ⟨cs,rfl,h⟩
 | pt id off=>exact .inr ⟨id,off,rfl,h⟩
 | _=>cases h
theorem Aw1 {α:Type} {hp:Tr DObj} {id:Nat} {f:TypeId→List DV→Option α} {x:α} (h:cRow hp id f none=some x):∃ T cs,hp.get id=some (.row T cs)∧f T cs=some x:=by
 unfold cRow at h
 rw [gN_eq] at h
 cases ho:hp.get id with
 | none=>rw [ho] at h; cases h
 | some o=>
  rw [ho] at h
  cases o with
  | row T cs=>exact ⟨T,cs,rfl,h⟩
  | _=>cases h
theorem Bb9 {α:Type} {d:DV} {fv:Value→Option α} {fs:List DV→Nat→Option α} {fm:Nat→Nat→Nat→Nat→Option α} {x:α} (h:cSl d fv fs fm none=some x) :
  (∃ v,d=.v v∧fv v=some x)∨(∃ cs n,d=.sl cs n∧fs cs n=some x)∨∃ id off n es,d=.ms id off n es∧fm id off n es=some x:=by
 cases d with
 | v v=>exact .inl ⟨v,rfl,h⟩
 | sl cs n=>exact .inr (.inl ⟨cs,n,rfl,h⟩)
 | ms id off n es=>exact .inr (.inr ⟨id,off,n,es,rfl,h⟩)
 | _=>cases h
theorem Bm6 {α:Type} {d:DV} {f:Int→Option α} {x:α} (h:cI d f none=some x):∃ k n,d=.v (.int k n)∧f n=some x:=by
 obtain ⟨v,rfl,h⟩:=Ak8 h
 rcases Am3 h with ⟨_,_,h⟩ | ⟨k,n,rfl,h⟩ | ⟨_,_,h⟩
 ·cases h
 ·exact ⟨k,n,rfl,h⟩
 ·cases h
theorem At0 {α:Type} {j:Int} {n:Nat} {f:Nat→Option α} {x:α} (h:cIx j n f none=some x):0≤j∧j < n∧f j.toNat=some x:=by
 cases j with
 | ofNat m=>
  have e:cIx (.ofNat m) n f none=iteB (Nat.blt m n) (f m) none:=rfl
  rw [e,Ab2] at h
  split at h
  ·rename_i hb
   have:m < n:=by simpa [Nat.blt_eq] using hb
   refine ⟨Int.natCast_nonneg m,?_,h⟩
   show (m:Int) < n
   omega
  ·cases h
 | negSucc m=>cases h
theorem Ab8 {α:Type} {b:Bool} {y:Option α} {x:α} (h:iteB b y none=some x):b=true∧y=some x:=by
 cases b
 ·cases h
 ·exact ⟨rfl,h⟩
theorem A49 {α:Type} {d:DV} {f:List DV→Option α} {x:α} (h:cTup d f none=some x):∃ ds,d=.tup ds∧f ds=some x:=by
 cases d with
 | tup ds=>exact ⟨ds,rfl,h⟩
 | _=>cases h
theorem Bm7 {o:DOp} {x:XP} (hx:xopP o=some x) {es:ES} {d:DV} (h:x es=some d) (nid:Nat):execU nid es.ds o=some (d,.keep):=by
 cases o <;> simp only [xopP,Option.some.injEq] at hx <;> first | (cases hx; done) | skip
 case pick c a b=>
  subst hx
  obtain ⟨v,hv,h⟩:=Ak8 h
  rw [Ab5] at hv
  rcases Am3 h with ⟨t,rfl,h2⟩ | ⟨_,_,_,h2⟩ | ⟨_,_,h2⟩
  ·rw [Ab5,Ab5,Ab2] at h2
   cases h2
   simp [execU,ev_v hv]
  ·cases h2
  ·cases h2
 case ld k a=>
  subst hx
  rcases Am4 h with ⟨cs,ha,h⟩ | ⟨id,off,ha,h⟩
  ·rw [Ab5] at ha
   rw [An2] at h
   simp [execU,ev_ia ha,h]
  ·rw [Ab5] at ha
   obtain ⟨T,cs,hr,h⟩:=Aw1 h
   rw [An2,Ae4] at h
   have ho:es.ds.ho id=some (.row T cs):=hr
   simp [execU,ev_pt ha (by rw [ho]; rfl),ho,h]
 case bin op a b=>
  subst hx
  obtain ⟨v,hv,h⟩:=Ak8 h
  obtain ⟨w,hw,h⟩:=Ak8 h
  rw [Ab5] at hv hw
  rcases Am3 h with ⟨_,_,h2⟩ | ⟨k,p,rfl,h2⟩ | ⟨s,rfl,h2⟩
  ·cases h2
  ·rcases Am3 h2 with ⟨_,_,h3⟩ | ⟨k',q,rfl,h3⟩ | ⟨_,_,h3⟩
   ·cases h3
   ·rw [A13] at h3
    obtain ⟨u,hu,rfl⟩:=Option.map_eq_some_iff.1 h3
    rw [Ab2,Ab2] at hu
    simp only [Cd0] at hu
    simp [execU,ev_v hv,ev_v hw,binV,hu]
   ·cases h3
  ·rcases Am3 h2 with ⟨_,_,h3⟩ | ⟨_,_,_,h3⟩ | ⟨s',rfl,h3⟩
   ·cases h3
   ·cases h3
   ·rw [A13] at h3
    obtain ⟨u,hu,rfl⟩:=Option.map_eq_some_iff.1 h3
    simp [execU,ev_v hv,ev_v hw,binV,hu]
 case un op a=>
  subst hx
  obtain ⟨v,hv,h2⟩:=Ak8 h
  rw [Ab5] at hv
  rw [A13] at h2
  obtain ⟨u,hu,rfl⟩:=Option.map_eq_some_iff.1 h2
  simp [execU,ev_v hv,hu]
 case fa off a=>
  subst hx
  rcases Am4 h with ⟨cs,ha,h⟩ | ⟨id,o,ha,h⟩
  ·rw [Ab5] at ha
   rw [Ae4] at h
   cases h
   simp [execU,ev_ia ha]
  ·rw [Ab5] at ha
   obtain ⟨hl,h⟩:=Ab8 h
   rw [Af6,gN_eq] at hl
   rw [Ab4] at h
   cases h
   simp [execU,ev_pt ha hl]
 case ia es' a i=>
  subst hx
  obtain ⟨k,j,hj,h⟩:=Bm6 h
  rw [Ab5] at hj
  rcases Bb9 h with ⟨_,_,h⟩ | ⟨cs,n,ha,h⟩ | ⟨id,off,n,es2,ha,h⟩
  ·cases h
  ·rw [Ab5] at ha
   obtain ⟨h0,h1,h⟩:=At0 h
   rw [Ae4] at h
   cases h
   simp [execU,ev_v hj,ev_sl ha,intD,h0,h1]
  ·rw [Ab5] at ha
   obtain ⟨hl,h⟩:=Ab8 h
   rw [Af6,gN_eq] at hl
   obtain ⟨h0,h1,h⟩:=At0 h
   rw [Ab4] at h
   cases h
   simp [execU,ev_v hj,ev_ms ha hl,intD,h0,h1]
 case fx n es' a i=>
  subst hx
  obtain ⟨k,j,hj,h⟩:=Bm6 h
  rw [Ab5] at hj
  rcases Am4 h with ⟨cs,ha,h⟩ | ⟨id,off,ha,h⟩
  ·rw [Ab5] at ha
   obtain ⟨h0,h1,h⟩:=At0 h
   rw [Ae4] at h
   cases h
   simp [execU,ev_v hj,ev_ia ha,intD,h0,h1]
  ·rw [Ab5] at ha
   obtain ⟨hl,h⟩:=Ab8 h
   rw [Af6,gN_eq] at hl
   obtain ⟨h0,h1,h⟩:=At0 h
   rw [Ab4] at h
   cases h
   simp [execU,ev_v hj,ev_pt ha hl,intD,h0,h1]
 case len a=>
  subst hx
  rcases Bb9 h with ⟨v,ha,h⟩ | ⟨cs,n,ha,h⟩ | ⟨id,off,n,es2,ha,h⟩
  ·rw [Ab5] at ha
   cases v <;> first | (cases h; done) | skip
   rename_i ad n c
   cases ad with
   | none=>
    cases h
    simp [execU,ev_v ha]
   | some ad=>cases h
  ·rw [Ab5] at ha
   rw [Ab4] at h
   cases h
   simp [execU,ev_sl ha]
  ·rw [Ab5] at ha
   obtain ⟨hl,h⟩:=Ab8 h
   rw [Af6,gN_eq] at hl
   rw [Ab4] at h
   cases h
   simp [execU,ev_ms ha hl]
 case ext a i=>
  subst hx
  obtain ⟨ds,ha,h⟩:=A49 h
  rw [Ab5] at ha
  have hn:∀ ds:List DV,nthL i ds=ds[i]?:=fun ds=>by
   unfold nthL
   rw [Ae4,← List.head?_drop]
   cases ds.drop i <;> rfl
  rw [hn] at h
  cases hd:ds[i]? with
  | none=>rw [hd] at h; cases h
  | some d0=>
   rw [hd] at h
   cases d0 with
   | v v=>
    have h':some (DV.v v)=some d:=h
    cases h'
    simp [execU,ha,extV,hd]
   | _=>
    obtain ⟨ds',ha',h⟩:=A49 h
    rw [Am0] at ha'
    rw [hn] at h
    simp [execU,ha,extV,hd,ha',h]
theorem A14 {o:DOp} {es:ES} {nid:Nat} {d:DV} {u:Upd} (h:xopU o es nid=some (d,u)):execU nid es.ds o=some (d,u):=by
 unfold xopU at h
 split at h
 ·rename_i n a x
  unfold xSt at h
  rcases Am4 h with ⟨_,_,h⟩ | ⟨id,off,ha,h⟩
  ·cases h
  ·rw [Ab5] at ha
   obtain ⟨T,cs,hr,h⟩:=Aw1 h
   obtain ⟨h1,h⟩:=Ab8 h
   obtain ⟨h2,h⟩:=Ab8 h
   obtain ⟨h3,h⟩:=Ab8 h
   rw [Ap6] at h
   rw [Bb8,Am0] at h1
   rw [Am2,Am0] at h2
   have h2':=Nat.eq_of_beq_eq_true h2
   have h3':off+n≤cs.length:=by simpa [Nat.ble_eq] using h3
   simp only [Am2,Am0,Af0,As9,Ae4] at h
   have ho:es.ds.ho id=some (.row T cs):=hr
   simp only [execU,ev_pt ha (by rw [ho]; rfl),ho,h1,h2',h3',and_self,if_true]
   rw [← h,List.append_assoc]
 ·rename_i T x
  unfold xBx at h
  obtain ⟨h1,h⟩:=Ab8 h
  rw [Bb8,Am0] at h1
  rw [Am2,Am0] at h
  simp only [execU,h1,if_true]
  exact h
 ·exact h
 ·exact h
theorem Bc0 (es:ES) (t:Nat) (b:Bool):wantE es (pth t) b=es.ds.wanted (some (t,b)):=by
 unfold wantE
 rw [Bm5]
 simp only [DS.wanted]
 cases hd:es.ds.sv t with
 | v x=>cases x <;> rfl
 | _=>rfl
theorem Ah3 (es:ES) (dst:Option Nat) (d:DV):(es.putE (pthO dst) d).ds=es.ds.put dst d:=by
 obtain ⟨sl,hp,nx⟩:=es
 cases dst with
 | none=>rfl
 | some t=>
  show ES.ds ⟨sP (pth t) (some d) sl,hp,nx⟩=_
  simp only [ES.ds,DS.put]
  congr 1
  funext u
  rw [Bm4]
  split <;> simp
theorem A80 (hp:Tr DObj) (nid:Nat) (u:Upd):(updE hp nid u).get=u.app nid hp.get:=by
 cases u with
 | keep=>rfl
 | lay o=>exact Ao2
 | wr id o=>exact Ao2
 | mv old o=>
  cases old with
  | none=>exact Ao2
  | some i=>
   show (setN (setN hp i none) nid (some o)).get=_
   rw [Ao2,Ao2]; rfl
end Go.DD

/- The evaluator's steps, in the text's order. -/
namespace Go.DD
def DS.Fr (s:DS):Prop:=∀ id,s.nx≤id→s.ho id=none
structure Gw (s s':DS):Prop where
 le:s.nx≤s'.nx
 new:∀ id,s.ho id=none→s'.ho id≠none→s.nx≤id∧id < s'.nx
theorem Gw.refl (s:DS):Gw s s:=⟨Nat.le_refl _,fun _ h1 h2=>absurd h1 h2⟩
theorem Gw.of {s s':DS} (h1:s'.ho=s.ho) (h2:s'.nx=s.nx):Gw s s':=⟨by omega,fun id h3 h4=>by rw [h1] at h4; exact absurd h3 h4⟩
theorem Gw.trans {s s' s'':DS} (h1:Gw s s') (h2:Gw s' s''):Gw s s'':=by
 refine ⟨Nat.le_trans h1.le h2.le,fun id h3 h4=>?_⟩
 have:=h1.le
 have:=h2.le
 by_cases h5:s'.ho id=none
 ·have:=h2.new id h5 h4; omega
 ·have:=h1.new id h3 h5; omega
theorem Gw.fr {s s':DS} (h1:s.Fr) (h2:Gw s s'):s'.Fr:=fun id h=>by
 have h3:=h2.le
 cases h4:s'.ho id with
 | none=>rfl
 | some o=>
  have:=h2.new id (h1 id (by omega)) (by rw [h4]; simp)
  omega
theorem Gw.put (s:DS) (dst:Option Nat) (d:DV):Gw s (s.put dst d):=Gw.of (DS.ho_put s dst d) (DS.nx_put s dst d)
theorem Gw.congr {s s' t t':DS} (h:Gw s s') (h1:t.ho=s.ho) (h2:t.nx=s.nx) (h3:t'.ho=s'.ho) (h4:t'.nx=s'.nx):Gw t t':=⟨by rw [h2,h4]; exact h.le,fun id=>by rw [h1,h2,h3,h4]; exact h.new id⟩
theorem Aq7 {nid:Nat} {s:DS} {op:DOp} {d:DV} {u:Upd} (h:execU nid s op=some (d,u)):s.hasU u=true:=by
 cases u with
 | keep=>rfl
 | lay o=>rfl
 | wr id o=>
  cases op <;> simp only [execU] at h
  case st n a x=>
   split at h
   ·split at h
    ·rename_i id' off e T cs ho
     split at h
     ·cases h; simp [DS.hasU,ho]
     ·cases h
    ·cases h
   ·cases h
  case mup kd x k y=>
   split at h
   ·split at h
    ·split at h
     ·split at h
      ·rename_i ho
       split at h
       ·cases h; simp [DS.hasU,ho]
       ·cases h
      ·cases h
     ·cases h
    ·cases h
   ·cases h
  case nxs x=>
   split at h
   ·split at h
    ·rename_i ho
     split at h
     ·cases h; simp [DS.hasU,ho]
     ·cases h
    ·cases h
   ·cases h
  case cpy es x y=>
   split at h
   ·split at h
    ·rename_i ho
     split at h
     ·cases h; simp [DS.hasU,ho]
     ·cases h
    ·cases h
   ·cases h
  all_goals (repeat' (first | (cases h; done) | split at h | (obtain ⟨_,_,h'⟩:=Option.map_eq_some_iff.1 h; cases h'; done)))
 | mv old o=>
  cases old with
  | none=>rfl
  | some id=>
   cases op <;> simp only [execU] at h
   case app T es bytes d x=>
    split at h
    ·rename_i old cs n news m e1 e2
     split at h
     ·cases h
      unfold dstD at e1
      split at e1
      ·cases e1
      ·split at e1
       ·rename_i ho
        simp only [DS.hasU]
        split at e1
        ·cases e1; simp [ho]
        ·cases e1
       ·cases e1
      ·cases e1
     ·cases h
    ·cases h
   all_goals (repeat' (first | (cases h; done) | split at h | (obtain ⟨_,_,h'⟩:=Option.map_eq_some_iff.1 h; cases h'; done)))
theorem Cl5 {s:DS} (hf:s.Fr) {u:Upd} (h:s.hasU u=true):Gw s { s.upd s.nx u with nx:=if u.new then s.nx+1 else s.nx }:=by
 have hn:s.ho s.nx=none:=hf _ (Nat.le_refl _)
 cases u with
 | keep=>exact Gw.of rfl rfl
 | lay o=>
  refine ⟨by simp [Upd.new],fun id h1 h2=>?_⟩
  simp only [DS.upd,Upd.app,setH,Upd.new,if_true] at h2 ⊢
  split at h2
  ·omega
  ·exact absurd h1 h2
 | wr id0 o=>
  refine ⟨by simp [Upd.new],fun id h1 h2=>?_⟩
  simp only [DS.upd,Upd.app,setH] at h2
  split at h2
  ·rename_i e; subst e; simp [DS.hasU,h1] at h
  ·exact absurd h1 h2
 | mv old o=>
  refine ⟨by simp [Upd.new],fun id h1 h2=>?_⟩
  simp only [DS.upd,Upd.app,setH,Upd.new,if_true] at h2 ⊢
  split at h2
  ·omega
  ·cases old with
   | none=>exact absurd h1 h2
   | some i=>
    simp only [Au2,setH] at h2
    split at h2
    ·exact absurd rfl h2
    ·exact absurd h1 h2
def callC (P:Program) (f:FuncId) (ds:List DV) (s:DS) (K:DS→DV→Prop):Prop:=callI P f ds s K∨∃ d,(∀ x∈ds,x.refs=[])∧DCall P f ds (fun d'=>d'=d)∧K s d
theorem callC.k {P:Program} {f:FuncId} {ds:List DV} {s:DS} {K:DS→DV→Prop} (h:callC P f ds s K):callK P f ds s K:=by
 rcases h with h | ⟨d,h1,h2,h3⟩
 ·exact .inr (.inr (.inr h))
 ·exact .inl ⟨_,h1,h2,fun d' hd=>by rw [hd]; exact h3⟩
theorem callC.i {P:Program} {f:FuncId} {ds:List DV} {s:DS} {K:DS→DV→Prop} (hne:∃ x∈ds,x.refs≠[]) (h:callC P f ds s K):callI P f ds s K:=by
 rcases h with h | ⟨d,h1,_⟩
 ·exact h
 ·obtain ⟨x,hx,hr⟩:=hne
  exact absurd (h1 x hx) hr
def Ad9 (P:Program) (call:CallT):Prop:=∀ (tg:Tg) (ds:List DV) (hp:Tr DObj) (nx:Nat) (d:DV) (hp':Tr DObj) (nx':Nat),call tg ds hp nx=some (d,hp',nx')→(∀ id,nx≤id→hp.get id=none)→
 nx≤nx'∧(∀ id,hp.get id=none→hp'.get id≠none→nx≤id∧id < nx')∧match tg with
 | .fn f=>Ac7 P f=true∧∀ (sv:Nat→DV) (K:DS→DV→Prop),K ⟨sv,hp'.get,nx'⟩ d→callC P f ds ⟨sv,hp.get,nx⟩ K
 | .yl id=>∀ (sv:Nat→DV) (K:DS→DV→Prop),K ⟨sv,hp'.get,nx'⟩ d→A42 P id ds ⟨sv,hp.get,nx⟩ K
theorem optR {α β:Type} {x:Option α} {f:α→Option β} {y:β} (h:(Option.rec (motive:=fun _=>Option β) none f x)=some y):∃ a,x=some a∧f a=some y:=by
 cases x with
 | none=>cases h
 | some a=>exact ⟨a,rfl,h⟩
theorem cs_eq {α:Type} (es:ES) (f:Tr DV→Tr DObj→Nat→α):es.cs f=f es.sl es.hp es.nx:=rfl
theorem Am5 {call:CallT} {tg:Tg} {ds:List DV} {dst:Option Nat} {es es':ES} (h:Ai8 tg ds (pthO dst) call es=some es'):∃ d hp nx,call tg ds es.hp es.nx=some (d,hp,nx)∧es'.ds=(⟨es.ds.sv,hp.get,nx⟩:DS).put dst d:=by
 obtain ⟨⟨d,hp,nx⟩,h1,h2⟩:=optR h
 have h3:some ((ES.mk es.sl hp nx).putE (pthO dst) d)=some es':=h2
 cases h3
 exact ⟨d,hp,nx,h1,Ah3 _ _ _⟩
theorem Bc1 (es:ES) (args:List Operand):evL es (args.map EO.of)=args.map es.ds.rv:=by
 unfold evL
 rw [Am1,List.map_map]
 exact List.map_congr_left fun x _=>Ab5 es x
theorem Bx6 {P:Program} {call:CallT} (hc:Ad9 P call) {f:Nat} {args:List Operand} {dst:Option Nat} {es es':ES} (h:sCall f (args.map EO.of) (pthO dst) call es=some es') (hfr:es.ds.Fr) {K:DS→Prop} (hK:K es'.ds) :
  Gw es.ds es'.ds∧Ac7 P f=true∧callC P f (args.map es.ds.rv) es.ds fun s' d=>K (s'.put dst d):=by
 unfold sCall at h
 rw [Bc1] at h
 obtain ⟨d,hp,nx,h1,h2⟩:=Am5 h
 obtain ⟨n1,n2,g1,g2⟩:=hc _ _ _ _ _ _ _ h1 hfr
 refine ⟨(⟨n1,n2⟩:Gw es.ds ⟨es.ds.sv,hp.get,nx⟩).trans (by rw [h2]; exact Gw.put _ _ _),g1,g2 es.ds.sv _ ?_⟩
 rw [← h2]; exact hK
theorem Cl6 {P:Program} {call:CallT} (hc:Ad9 P call) {tb:Option (List (TypeId×FuncId))} {x:Operand} {args:List Operand} {dst:Option Nat} {es es':ES} (h:sCv tb (.of x) (args.map EO.of) (pthO dst) call es=some es') (hfr:es.ds.Fr) {K:DS→Prop} (hK:K es'.ds) :
  Gw es.ds es'.ds∧match (es.ds.ev x).tgt tb with
  | some (f,fr,cs)=>Ac7 P f=true∧callC P f (fr ++ args.map es.ds.rv ++ cs) es.ds fun s' d=>K (s'.put dst d)
  | none=>match (es.ds.ev x).tgY tb with
   | some i=>A42 P i (args.map es.ds.rv) es.ds fun s' d=>K (s'.put dst d)
   | none=>False:=by
 unfold sCv at h
 rw [Am0,Bc1] at h
 cases hf:(es.ds.ev x).tgt tb with
 | some p=>
  obtain ⟨f,fr,cs⟩:=p
  rw [hf] at h
  have h':Ai8 (.fn f) (appL fr (appL (args.map es.ds.rv) cs)) (pthO dst) call es=some es':=h
  rw [Af0,Af0,← List.append_assoc] at h'
  obtain ⟨d,hp,nx,h1,h2⟩:=Am5 h'
  obtain ⟨n1,n2,g1,g2⟩:=hc _ _ _ _ _ _ _ h1 hfr
  refine ⟨(⟨n1,n2⟩:Gw es.ds ⟨es.ds.sv,hp.get,nx⟩).trans (by rw [h2]; exact Gw.put _ _ _),g1,g2 es.ds.sv _ ?_⟩
  rw [← h2]; exact hK
 | none=>
  rw [hf] at h
  cases hy:(es.ds.ev x).tgY tb with
  | none=>rw [hy] at h; cases h
  | some i=>
   rw [hy] at h
   have h':Ai8 (.yl i) (args.map es.ds.rv) (pthO dst) call es=some es':=h
   obtain ⟨d,hp,nx,h1,h2⟩:=Am5 h'
   obtain ⟨n1,n2,g2⟩:=hc _ _ _ _ _ _ _ h1 hfr
   refine ⟨(⟨n1,n2⟩:Gw es.ds ⟨es.ds.sv,hp.get,nx⟩).trans (by rw [h2]; exact Gw.put _ _ _),g2 es.ds.sv _ ?_⟩
   show K _
   rw [← h2]; exact hK
theorem Bx7 {s:DS} {k:Bool} {x:Operand} {l:List (DV×Upd)} (h:nxmL s k x=some l):∀ p∈l,s.hasU p.2=true∧p.2.new=false:=by
 cases h
theorem Cd1 {s:DS} {u:Upd} (h:s.hasU u=true) (hn:u.new=false) (n:Nat):Gw s (s.upd n u):=by
 cases u with
 | keep=>exact Gw.of rfl rfl
 | lay o=>cases hn
 | mv old o=>cases hn
 | wr id0 o=>
  refine ⟨Nat.le_refl _,fun id h1 h2=>?_⟩
  simp only [DS.upd,Upd.app,setH] at h2
  split at h2
  ·rename_i e; subst e; simp [DS.hasU,h1] at h
  ·exact absurd h1 h2
theorem Cl7 {k:Bool} {x:Operand} {dst:Option Nat} {call:CallT} {es es':ES} (h:sNx k x (pthO dst) call es=some es'):∃ p,nxmL es.ds k x=some [p]∧es'.ds=(es.ds.upd es.ds.nx p.2).put dst p.1∧Gw es.ds es'.ds:=by
 unfold sNx at h
 split at h
 ·rename_i p hp
  have h1:=Bx7 hp p (by simp)
  split at h
  ·cases h
  ·cases h
   have e:(ES.mk es.sl (updE es.hp es.nx p.2) es.nx).ds=es.ds.upd es.ds.nx p.2:=by
    simp only [ES.ds,A80]; rfl
   refine ⟨p,hp,by rw [Ah3,e],?_⟩
   rw [Ah3,e]
   exact (Cd1 h1.1 h1.2 _).trans (Gw.put _ _ _)
 ·cases h
def Exd (s:DS) (o:DOp) (dst:Option Nat) (s':DS):Prop:=∃ d u,execU s.nx s o=some (d,u)∧s'=({ s.upd s.nx u with nx:=if u.new then s.nx+1 else s.nx } : DS).put dst d
theorem sU_ok {x:XU} {o:DOp} (hx:∀ es nid d u,x es nid=some (d,u)→execU nid es.ds o=some (d,u)) {dst:Option Nat} {call:CallT} {es es':ES} (h:sU (pthO dst) x call es=some es'):Exd es.ds o dst es'.ds:=by
 obtain ⟨⟨d,u⟩,h1,h2⟩:=optR h
 have h3:iteB u.new (Af5 (es.nx+1) fun n=>some ((ES.mk es.sl (updE es.hp es.nx u) n).putE (pthO dst) d)) (some ((ES.mk es.sl (updE es.hp es.nx u) es.nx).putE (pthO dst) d))=some es':=h2
 have hex:=hx _ _ _ _ h1
 rw [Ab2,Ab4] at h3
 refine ⟨d,u,hex,?_⟩
 split at h3
 ·rename_i hu
  cases h3
  rw [Ah3]
  simp only [ES.ds,A80,hu]
  rfl
 ·rename_i hu
  cases h3
  rw [Ah3]
  simp only [ES.ds,A80,hu]
  rfl
theorem sX_ok {x:XP} {o:DOp} (hx:∀ es d,x es=some d→∀ nid,execU nid es.ds o=some (d,.keep)) {dst:Option Nat} {call:CallT} {es es':ES} (h:sX (pthO dst) x call es=some es'):Exd es.ds o dst es'.ds:=by
 obtain ⟨d,h1,h2⟩:=optR h
 have h3:some (es.putE (pthO dst) d)=some es':=h2
 cases h3
 exact ⟨d,.keep,hx _ _ h1 _,Ah3 _ _ _⟩
theorem Exd.gw {s s':DS} {o:DOp} {dst:Option Nat} (hf:s.Fr) (h:Exd s o dst s'):Gw s s':=by
 obtain ⟨d,u,h1,rfl⟩:=h
 exact (Cl5 hf (Aq7 h1)).trans (Gw.put _ _ _)
theorem A15 {dst:Option Nat} {op:DOp} {call:CallT} {es es':ES} (hn2:∀ f args,op≠.call f args) (hn3:∀ tb x args,op≠.cv tb x args) (hn4:∀ k x,op≠.nxm k x) (h:stepE (pthO dst) op call es=some es'):Exd es.ds op dst es'.ds:=by
 by_cases hmv:∃ x,op=.mv x
 ·obtain ⟨x,rfl⟩:=hmv
  have h3:some (es.putE (pthO dst) (rawE es (.of x)))=some es':=h
  cases h3
  exact ⟨es.ds.rv x,.keep,rfl,by rw [Ah3,Ab5]; rfl⟩
 ·have hother:stepE (pthO dst) op=match xopP op with
   | some x=>sX (pthO dst) x
   | none=>sU (pthO dst) (xopU op):=by
   cases op <;> first | rfl | (exact absurd ⟨_,rfl⟩ hmv) | (exact absurd rfl (hn2 _ _)) | (exact absurd rfl (hn3 _ _ _)) | (exact absurd rfl (hn4 _ _))
  rw [hother] at h
  cases hx:xopP op with
  | some x=>
   rw [hx] at h
   exact sX_ok (fun es d hd nid=>Bm7 hx hd nid) h
  | none=>
   rw [hx] at h
   exact sU_ok (fun es nid d u hd=>A14 hd) h
theorem At1 {P:Program} {call:CallT} (hc:Ad9 P call) {r:DR} {es es':ES} (h:stepE (pthO r.dst) r.op call es=some es') (hfr:es.ds.Fr) {K:DS→Prop} (hK:K es'.ds):Gw es.ds es'.ds∧stepR P r es.ds K:=by
 by_cases hcl:∃ f args,r.op=.call f args
 ·obtain ⟨f,args,ho⟩:=hcl
  rw [ho] at h
  obtain ⟨g0,g1,g2⟩:=Bx6 hc h hfr hK
  refine ⟨g0,?_⟩
  unfold stepR
  rw [ho]
  exact ⟨g1,g2.k⟩
 ·by_cases hcv:∃ tb x args,r.op=.cv tb x args
  ·obtain ⟨tb,x,args,ho⟩:=hcv
   rw [ho] at h
   obtain ⟨g0,h1⟩:=Cl6 hc h hfr hK
   refine ⟨g0,?_⟩
   unfold stepR
   rw [ho]
   simp only
   cases hf:(es.ds.ev x).tgt tb with
   | some p=>
    rw [hf] at h1
    exact ⟨h1.1,h1.2.k⟩
   | none=>
    rw [hf] at h1
    simp only at h1 ⊢
    cases hy:(es.ds.ev x).tgY tb with
    | none=>rw [hy] at h1; exact h1
    | some i=>rw [hy] at h1; exact h1
  ·by_cases hnx:∃ k x,r.op=.nxm k x
   ·obtain ⟨k,x,ho⟩:=hnx
    rw [ho] at h
    obtain ⟨p,h1,h2,h3⟩:=Cl7 (call:=call) (es:=es) (k:=k) (x:=x) (dst:=r.dst) h
    cases h1
   ·have hex:=A15 (fun f args e=>hcl ⟨f,args,e⟩) (fun tb x args e=>hcv ⟨tb,x,args,e⟩) (fun k x e=>hnx ⟨k,x,e⟩) h
    refine ⟨hex.gw hfr,?_⟩
    obtain ⟨d,u,h1,h2⟩:=hex
    unfold stepR
    split
    ·rename_i f args ho; exact absurd ⟨f,args,ho⟩ hcl
    ·rename_i tb x args ho; exact absurd ⟨tb,x,args,ho⟩ hcv
    ·rename_i k x ho; exact absurd ⟨k,x,ho⟩ hnx
    ·unfold exec
     rw [h1]
     simp only
     rw [← h2]; exact hK
theorem Cd2 {P:Program} {call:CallT} (hc:Ad9 P call) {r:DR} {es es':ES} (h:stpR r call es=some es') (hfr:es.ds.Fr):Gw es.ds es'.ds∧∀ {rest:List DR} {K:DS→Prop},Al8 P rest es'.ds K→Al8 P (r :: rest) es.ds K:=by
 unfold stpR at h
 simp only [Al8]
 cases hg:r.g with
 | none=>
  rw [hg] at h
  simp only [DS.wanted]
  exact ⟨(At1 hc h hfr (K:=fun _=>True) trivial).1,fun {rest K} hK=>(At1 hc h hfr (K:=fun s'=>Al8 P rest s' K) hK).2⟩
 | some p=>
  obtain ⟨t,b⟩:=p
  rw [hg] at h
  simp only at h
  obtain ⟨c,h1,h2⟩:=optR h
  rw [Bc0] at h1
  rw [h1]
  cases c with
  | true=>exact ⟨(At1 hc h2 hfr (K:=fun _=>True) trivial).1,fun {rest K} hK=>(At1 hc h2 hfr (K:=fun s'=>Al8 P rest s' K) hK).2⟩
  | false=>
   have h3:some (es.putE (pthO r.dst) (.v undef))=some es':=h2
   cases h3
   rw [Ah3]
   exact ⟨Gw.put _ _ _,fun {rest K} hK=>hK⟩
theorem Bm8 {P:Program} {call:CallT} (hc:Ad9 P call):∀ (ops:List DR) (es es':ES),runE ops call es=some es'→es.ds.Fr→Gw es.ds es'.ds∧∀ K:DS→Prop,K es'.ds→Al8 P ops es.ds K
 | [],es,es',h,_=>by
  have h3:some es=some es':=h
  cases h3
  exact ⟨Gw.refl _,fun K hK=>hK⟩
 | r :: rest,es,es',h,hfr=>by
  have h':sq (stpR r) (runE rest) call es=some es':=h
  obtain ⟨e1,h1,h2⟩:=optR h'
  obtain ⟨g1,k1⟩:=Cd2 hc h1 hfr
  obtain ⟨g2,k2⟩:=Bm8 hc rest e1 es' h2 (Gw.fr hfr g1)
  exact ⟨g1.trans g2,fun K hK=>k1 (k2 K hK)⟩
end Go.DD

/- The evaluator's regions that draw their order: what each step has done. -/
namespace Go.DD
structure Rec where
 d:DV
 lay:Option DObj
 tgt:Option Nat
 ob:DObj
 mn:Bool
 H:Nat→Option DObj
 N:Nat
def Rec.nil:Rec:=⟨.any,none,none,.row 0 [],false,fun _=>none,0⟩
def A50 (P:Program) (op:DOp) (s:DS) (d:DV) (H:Nat→Option DObj) (N:Nat):Prop:=match op with
 | .call f args=>∀ sv,callM P f (args.map s.rv) ⟨sv,s.ho,s.nx⟩ d H N
 | .cv tb x args=>∃ f fr cs,(s.ev x).tgt tb=some (f,fr,cs)∧∀ sv,callM P f (fr ++ args.map s.rv ++ cs) ⟨sv,s.ho,s.nx⟩ d H N
 | op=>∃ u,s.hasU u=true∧execU s.nx s op=some (d,u)∧H=u.app s.nx s.ho∧N=if u.new then s.nx+1 else s.nx
theorem Exd.main {P:Program} {s s':DS} {o:DOp} {dst:Option Nat} (h:Exd s o dst s') (hn2:∀ f args,o≠.call f args) (hn3:∀ tb x args,o≠.cv tb x args):∃ d,s'.sv=(s.put dst d).sv∧A50 P o s d s'.ho s'.nx:=by
 obtain ⟨d,u,h1,rfl⟩:=h
 refine ⟨d,by cases dst <;> rfl,?_⟩
 have key:∃ u',s.hasU u'=true∧execU s.nx s o=some (d,u')∧(({ s.upd s.nx u with nx:=if u.new then s.nx+1 else s.nx } : DS).put dst d).ho=u'.app s.nx s.ho∧(({ s.upd s.nx u with nx:=if u.new then s.nx+1 else s.nx } : DS).put dst d).nx=if u'.new then s.nx+1 else s.nx:=
  ⟨u,Aq7 h1,h1,by rw [DS.ho_put]; rfl,by rw [DS.nx_put]⟩
 unfold A50
 split
 ·rename_i f args; exact absurd rfl (hn2 f args)
 ·rename_i tb x args; exact absurd rfl (hn3 tb x args)
 ·exact key
theorem Bx8 {P:Program} {call:CallT} (hc:Ad9 P call) {dst:Option Nat} {op:DOp} {es es':ES} (h:stepF (pthO dst) op call es=some es') (hfr:es.ds.Fr) :
  ∃ d,Gw es.ds es'.ds∧es'.ds.sv=(es.ds.put dst d).sv∧A50 P op es.ds d es'.ds.ho es'.ds.nx:=by
 have hcallM:∀ {f:Nat} {ds:List DV} {d:DV} {hp:Tr DObj} {nx:Nat},call (.fn f) ds es.hp es.nx=some (d,hp,nx)→es'.ds=(⟨es.ds.sv,hp.get,nx⟩:DS).put dst d→
   Gw es.ds es'.ds∧es'.ds.sv=(es.ds.put dst d).sv∧∀ sv,callM P f ds ⟨sv,es.ds.ho,es.ds.nx⟩ d es'.ds.ho es'.ds.nx:=fun {f ds d hp nx} h1 h2=>by
  obtain ⟨n1,n2,g1,g2⟩:=hc _ _ _ _ _ _ _ h1 hfr
  refine ⟨(⟨n1,n2⟩:Gw es.ds ⟨es.ds.sv,hp.get,nx⟩).trans (by rw [h2]; exact Gw.put _ _ _),by rw [h2]; cases dst <;> rfl,fun sv=>⟨g1,?_⟩⟩
  rcases g2 sv (fun s' d'=>d'=d∧s'.ho=es'.ds.ho∧s'.nx=es'.ds.nx) ⟨rfl,by rw [h2,DS.ho_put],by rw [h2,DS.nx_put]⟩ with h | ⟨d0,k1,k2,k3⟩
  ·exact .inl h
  ·obtain ⟨rfl,k4,k5⟩:=k3
   exact .inr ⟨k4.symm,k5.symm,k1,k2⟩
 by_cases hcl:∃ f args,op=.call f args
 ·obtain ⟨f,args,rfl⟩:=hcl
  have h':sCall f (args.map EO.of) (pthO dst) call es=some es':=h
  unfold sCall at h'
  rw [Bc1] at h'
  obtain ⟨d,hp,nx,h1,h2⟩:=Am5 h'
  obtain ⟨g1,g2,g3⟩:=hcallM h1 h2
  exact ⟨d,g1,g2,g3⟩
 ·by_cases hcv:∃ tb x args,op=.cv tb x args
  ·obtain ⟨tb,x,args,rfl⟩:=hcv
   have h':sCf tb (.of x) (args.map EO.of) (pthO dst) call es=some es':=h
   unfold sCf at h'
   rw [Am0,Bc1] at h'
   obtain ⟨⟨f,fr,cs⟩,hf,h'⟩:=optR h'
   have h'':Ai8 (.fn f) (appL fr (appL (args.map es.ds.rv) cs)) (pthO dst) call es=some es':=h'
   rw [Af0,Af0,← List.append_assoc] at h''
   obtain ⟨d,hp,nx,h1,h2⟩:=Am5 h''
   obtain ⟨g1,g2,g3⟩:=hcallM h1 h2
   exact ⟨d,g1,g2,f,fr,cs,hf,g3⟩
  ·by_cases hnx:∃ k x,op=.nxm k x
   ·obtain ⟨k,x,rfl⟩:=hnx
    cases h
   ·have hn2:∀ f args,op≠.call f args:=fun f args e=>hcl ⟨f,args,e⟩
    have hn3:∀ tb x args,op≠.cv tb x args:=fun tb x args e=>hcv ⟨tb,x,args,e⟩
    have hn4:∀ k x,op≠.nxm k x:=fun k x e=>hnx ⟨k,x,e⟩
    have he:stepF (pthO dst) op=stepE (pthO dst) op:=by
     unfold stepF
     split
     ·exact absurd rfl (hn3 _ _ _)
     ·exact absurd rfl (hn4 _ _)
     ·rfl
    rw [he] at h
    have hex:=A15 hn2 hn3 hn4 h
    obtain ⟨d,g1,g2⟩:=hex.main (P:=P) hn2 hn3
    exact ⟨d,hex.gw hfr,g1,g2⟩
def Ag8 (s:DS) (o:DOp) (id:Nat):Prop:=∃ t,.tmp t∈o.opnds∧id∈(s.sv t).refs
theorem refsL_mem (es:ES) (o:DOp) (id:Nat):id∈refsL es ((Ai9 o).map pth)↔Ag8 es.ds o id:=by
 have key:∀ l:List Nat,id∈refsL es (l.map pth)↔∃ t∈l,id∈(es.ds.sv t).refs:=by
  intro l
  induction l with
  | nil=>exact ⟨fun h=>(by cases h),fun ⟨t,h,_⟩=>(by cases h)⟩
  | cons t l ih=>
   have e:refsL es ((t :: l).map pth)=appL (refsE (rawE es (.t (pth t)))) (refsL es (l.map pth)):=rfl
   rw [e,Af0,Ak7,Bm5,List.mem_append,ih]
   constructor
   ·rintro (h | ⟨u,hu,h⟩)
    ·exact ⟨t,by simp,h⟩
    ·exact ⟨u,by simp [hu],h⟩
   ·rintro ⟨u,hu,h⟩
    rcases List.mem_cons.1 hu with rfl | hu
    ·exact .inl h
    ·exact .inr ⟨u,hu,h⟩
 rw [key]
 unfold Ag8 Ai9
 constructor
 ·rintro ⟨t,ht,h⟩
  obtain ⟨x,hx,hxt⟩:=List.mem_filterMap.1 ht
  cases x <;> simp at hxt
  subst hxt
  exact ⟨_,hx,h⟩
 ·rintro ⟨t,ht,h⟩
  exact ⟨t,List.mem_filterMap.2 ⟨_,ht,rfl⟩,h⟩
def Ap7 (n0 m:Nat) (an:List Nat) (s:DS) (id:Nat):Prop:=(s.ho id).isSome=true∧(id < n0∨n0+m≤id∨an.contains (id - n0)=true)
theorem Bx9 {n0 m:Nat} {an:List Nat} {es:ES} {id:Nat} (h:okRef n0 m an es.hp id=true):Ap7 n0 m an es.ds id:=by
 unfold okRef at h
 simp only [Ab2,Af6,gN_eq] at h
 split at h
 ·rename_i h1
  refine ⟨h1,?_⟩
  split at h
  ·rename_i h2; exact .inl (by simpa [Nat.blt_eq] using h2)
  ·split at h
   ·rename_i h3; exact .inr (.inl (by simpa [Nat.ble_eq] using h3))
   ·exact .inr (.inr h)
 ·cases h
theorem Ay9 (n0:Nat):∀ (js:List Nat) (hp:Tr DObj),(Ao1 n0 hp js).get=fun id=>if ∃ j∈js,id=n0+j then none else hp.get id
 | [],hp=>by funext id; simp [Ao1]
 | j :: js,hp=>by
  funext id
  simp only [Ao1]
  rw [Ay9 n0 js,Tr.set_ho]
  by_cases h1:∃ j∈js,id=n0+j
  ·simp only [h1,if_true]
   rw [if_pos]
   obtain ⟨x,hx,e⟩:=h1
   exact ⟨x,by simp [hx],e⟩
  ·simp only [h1,if_false,setH]
   by_cases h2:id=n0+j
   ·rw [if_pos h2,if_pos ⟨j,by simp,h2⟩]
   ·rw [if_neg h2,if_neg]
    rintro ⟨x,hx,e⟩
    rcases List.mem_cons.1 hx with rfl | hx
    ·exact h2 e
    ·exact h1 ⟨x,hx,e⟩
theorem Bc2 (n0:Nat) (old:Tr DObj):∀ (js:List Nat) (hp:Tr DObj),(backL n0 old hp js).get=fun id=>if ∃ j∈js,id=n0+j then old.get id else hp.get id
 | [],hp=>by funext id; simp [backL]
 | j :: js,hp=>by
  funext id
  simp only [backL]
  rw [Bc2 n0 old js,Tr.set_ho]
  by_cases h1:∃ j∈js,id=n0+j
  ·simp only [h1,if_true]
   rw [if_pos]
   obtain ⟨x,hx,e⟩:=h1
   exact ⟨x,by simp [hx],e⟩
  ·simp only [h1,if_false,setH]
   by_cases h2:id=n0+j
   ·rw [if_pos h2,if_pos ⟨j,by simp,h2⟩,h2]
   ·rw [if_neg h2,if_neg]
    rintro ⟨x,hx,e⟩
    rcases List.mem_cons.1 hx with rfl | hx
    ·exact h2 e
    ·exact h1 ⟨x,hx,e⟩
inductive Sem (P:Program) (n0 m i:Nat) (r:DR) (o:OI) (δ δ':DSt) (ρ:Rec):Prop
 | off (hw:δ.es.ds.wanted r.g=some false) (hd:ρ.d=.v undef) (hl:ρ.lay=none) (ht:ρ.tgt=none) (hm:ρ.mn=false) (he:δ'.es.ds=δ.es.ds.put r.dst (.v undef)) (hlo:δ'.lo=δ.lo) (hws:δ'.ws=δ.ws) (hps:δ'.ps=δ.ps)
 | read (hw:δ.es.ds.wanted r.g=some true) (hrf:∀ id,Ag8 δ.es.ds r.op id→Ap7 n0 m o.an δ.es.ds id) (hx:execU (n0+i) δ.es.ds r.op=some (ρ.d,.keep))
   (hl:ρ.lay=none) (ht:ρ.tgt=none) (hm:ρ.mn=false) (he:δ'.es.ds=δ.es.ds.put r.dst ρ.d) (hlo:δ'.lo=δ.lo) (hws:∀ w∈δ.ws,w∈δ'.ws) (hlk:o.wide=true→∀ id,Ag8 δ.es.ds r.op id→⟨i,o.an,id,δ.lo.contains (id - n0),r.op.rdC⟩∈δ'.ws) (hps:δ'.ps=δ.ps)
 | lay (ob:DObj) (hw:δ.es.ds.wanted r.g=some true) (hrf:∀ id,Ag8 δ.es.ds r.op id→Ap7 n0 m o.an δ.es.ds id) (hx:execU (n0+i) δ.es.ds r.op=some (ρ.d,.lay ob))
   (hl:ρ.lay=some ob) (ht:ρ.tgt=none) (hm:ρ.mn=false) (he:δ'.es.ds=(⟨δ.es.ds.sv,setH δ.es.ds.ho (n0+i) (some ob),δ.es.ds.nx⟩:DS).put r.dst ρ.d) (hlo:δ'.lo=i :: δ.lo) (hws:∀ w∈δ.ws,w∈δ'.ws) (hlk:o.wide=true→∀ id,Ag8 δ.es.ds r.op id→⟨i,o.an,id,δ.lo.contains (id - n0),r.op.rdC⟩∈δ'.ws) (hps:δ'.ps=δ.ps)
 | wr (ob:DObj) (hw:δ.es.ds.wanted r.g=some true) (hc:o.cls≠0∧o.cls≠1∧o.cls≠2) (hrf:∀ id,Ag8 δ.es.ds r.op id→Ap7 n0 m o.an δ.es.ds id) (hx:execU (n0+i) δ.es.ds r.op=some (ρ.d,.wr (n0+o.tgt) ob))
   (hal:∀ id,Ag8 δ.es.ds r.op id→id=n0+o.tgt) (hlt:o.tgt∈δ.lo) (han:o.an.contains o.tgt=true)
   (hl:ρ.lay=none) (ht:ρ.tgt=some o.tgt) (hob:ρ.ob=ob) (hm:ρ.mn=false) (he:δ'.es.ds=(⟨δ.es.ds.sv,setH δ.es.ds.ho (n0+o.tgt) (some ob),δ.es.ds.nx⟩:DS).put r.dst ρ.d) (hlo:δ'.lo=δ.lo) (hws:δ'.ws=δ.ws) (hps:δ'.ps=δ.ps)
 | main (hid:List Nat) (hs:DS) (hhid:hid=δ.lo.filter fun j=>!o.an.contains j) (hhs:hs=⟨δ.es.ds.sv,(fun id=>if ∃ j∈hid,id=n0+j then none else δ.es.ds.ho id),δ.es.ds.nx⟩) (hw:δ.es.ds.wanted r.g=some true) (hc:o.cls=2) (hrf:∀ id,Ag8 δ.es.ds r.op id→Ap7 n0 m o.an δ.es.ds id)
   (hx:A50 P r.op hs ρ.d ρ.H ρ.N) (hg:Gw hs ⟨δ.es.ds.sv,ρ.H,ρ.N⟩)
   (hl:ρ.lay=none) (ht:ρ.tgt=none) (hm:ρ.mn=true) (he:δ'.es.ds=(⟨δ.es.ds.sv,(fun id=>if ∃ j∈hid,id=n0+j then δ.es.ds.ho id else ρ.H id),ρ.N⟩:DS).put r.dst ρ.d) (hlo:δ'.lo=hid) (hws:δ'.ws=δ.ws) (hps:δ'.ps=⟨i,o.an,δ.es.hp,δ'.es.hp⟩ :: δ.ps)
theorem Bm9 {s:DS} (h:s.Fr) (f:Nat→Prop) [DecidablePred f]:(⟨s.sv,(fun id=>if f id then none else s.ho id),s.nx⟩:DS).Fr:=fun id hi=>by
 show (if f id then none else s.ho id)=none
 split
 ·rfl
 ·exact h id hi
theorem put_eq (s:DS) (dst:Option Nat) (d:DV):s.put dst d=⟨(s.put dst d).sv,s.ho,s.nx⟩:=by cases dst <;> rfl
theorem Cl8 {s t:DS} (h:s.sv=t.sv) (dst:Option Nat) (d:DV):(s.put dst d).sv=(t.put dst d).sv:=by cases dst <;> simp [DS.put,h]
theorem ds_eq (es:ES):es.ds=⟨es.ds.sv,es.hp.get,es.nx⟩:=rfl
theorem By0 {x:XU} {nid:Nat} {es:ES} {d:DV} (h:xKeep x nid es=some d):x es nid=some (d,.keep):=by
 obtain ⟨⟨d',u⟩,h1,h2⟩:=optR h
 cases u with
 | keep=>have h3:some d'=some d:=h2; cases h3; exact h1
 | _=>cases h2
theorem A51 {i n0:Nat} {an:List Nat} {wide c:Bool} {refs lo:List Nat} {ws:List Look} : (∀ w∈ws,w∈lookE i an wide c refs n0 lo ws)∧(wide=true→∀ id∈refs,(⟨i,an,id,lo.contains (id - n0),c⟩:Look)∈lookE i an wide c refs n0 lo ws):=by
 unfold lookE
 rw [Ab2,Af0,Am1]
 constructor
 ·intro w hw
  split
  ·simp [hw]
  ·exact hw
 ·intro h id hid
  rw [if_pos h]
  exact List.mem_append_left _ (List.mem_map.2 ⟨id,hid,rfl⟩)
theorem Bc3 {P:Program} {call:CallT} (hc:Ad9 P call) {n0 m i:Nat} {r:DR} {o:OI} {δ δ':DSt} (hfr:δ.es.ds.Fr) (hw:δ.es.ds.wanted r.g=some true) (h:dstp i r o call n0 m δ=some δ'):∃ ρ,Sem P n0 m i r o δ δ' ρ:=by
 unfold dstp dChk at h
 obtain ⟨h1,h⟩:=Ab8 h
 rw [Aw0] at h1
 have hrf:∀ id,Ag8 δ.es.ds r.op id→Ap7 n0 m o.an δ.es.ds id:=fun id hid=>Bx9 (List.all_eq_true.1 h1 id ((refsL_mem _ _ _).2 hid))
 obtain ⟨es,lo,ws,ps⟩:=δ
 obtain ⟨sl,hp,nx⟩:=es
 have h4c:o.cls=2∨o.cls=0∨o.cls=1∨∃ n,o.cls=n+3:=by
  rcases Nat.lt_or_ge o.cls 3 with h | h
  ·omega
  ·exact .inr (.inr (.inr ⟨o.cls - 3,by omega⟩))
 rcases h4c with hcls | hcls | hcls | ⟨n,hcls⟩
 ·rw [hcls] at h
  replace h:dMain i o.an (stepF (pthO r.dst) r.op) call n0 m ⟨⟨sl,hp,nx⟩,lo,ws,ps⟩=some δ':=h
  unfold dMain at h
  have h':Ar7 (lo.filter fun j=>!o.an.contains j) (fun hid=>Option.rec (motive:=fun _=>Option DSt) none (fun es'=>es'.cs fun sl' hp' nx'=>iteB (Nat.ble nx nx') (some ⟨⟨sl',backL n0 hp hp' hid,nx'⟩,hid,ws,⟨i,o.an,hp,backL n0 hp hp' hid⟩ :: ps⟩) none) (stepF (pthO r.dst) r.op call ⟨sl,Ao1 n0 hp hid,nx⟩))=some δ':=h
  rw [Ap6] at h'
  obtain ⟨es',h2,h3⟩:=optR h'
  rw [cs_eq] at h3
  obtain ⟨_,h4⟩:=Ab8 h3
  cases h4
  have hds:(⟨sl,Ao1 n0 hp (lo.filter fun j=>!o.an.contains j),nx⟩:ES).ds=⟨(ES.mk sl hp nx).ds.sv,(fun id=>if ∃ j∈(lo.filter fun j=>!o.an.contains j),id=n0+j then none else (ES.mk sl hp nx).ds.ho id),(ES.mk sl hp nx).ds.nx⟩:=by
   rw [ds_eq,Ay9]; rfl
  obtain ⟨d,g1,g2,g3⟩:=Bx8 hc h2 (by rw [hds]; exact Bm9 hfr _)
  rw [hds] at g1 g2 g3
  refine ⟨⟨d,none,none,.row 0 [],true,es'.ds.ho,es'.ds.nx⟩,.main _ _ rfl rfl hw hcls hrf g3 (g1.congr rfl rfl rfl rfl) rfl rfl rfl ?_ rfl rfl rfl⟩
  rw [ds_eq,Bc2]
  rw [put_eq]
  have e:(ES.mk es'.sl (backL n0 hp es'.hp (lo.filter fun j=>!o.an.contains j)) es'.nx).ds.sv=es'.ds.sv:=rfl
  rw [e,g2]
  congr 1
  exact Cl8 (by rfl) _ _
 ·rw [hcls] at h
  replace h:dRead i o.an o.wide r.op.rdC (pthO r.dst) (match r.op with
   | .mv x=>fun _ es=>some (rawE es (.of x))
   | op=>match xopP op with
    | some x=>fun _=>x
    | none=>xKeep (xopU op)) ((Ai9 r.op).map pth) call n0 m ⟨⟨sl,hp,nx⟩,lo,ws,ps⟩=some δ':=h
  unfold dRead at h
  obtain ⟨v,h2,h3⟩:=optR h
  have h4:some (⟨(ES.mk sl hp nx).putE (pthO r.dst) v,lo,lookE i o.an o.wide r.op.rdC (refsL ⟨sl,hp,nx⟩ ((Ai9 r.op).map pth)) n0 lo ws,ps⟩:DSt)=some δ':=h3
  cases h4
  have hx:execU (n0+i) (ES.mk sl hp nx).ds r.op=some (v,.keep):=by
   by_cases hmv:∃ x,r.op=.mv x
   ·obtain ⟨x,ho⟩:=hmv
    rw [ho] at h2
    have h5:some (rawE ⟨sl,hp,nx⟩ (.of x))=some v:=h2
    cases h5
    rw [Ab5,ho]; rfl
   ·have hother:(match r.op with
     | .mv x=>fun _ es=>some (rawE es (.of x))
     | op=>match xopP op with
      | some x=>fun _=>x
      | none=>xKeep (xopU op):Nat→XP)=match xopP r.op with
      | some x=>fun _=>x
      | none=>xKeep (xopU r.op):=by
     generalize r.op=op at hmv
     cases op <;> first | rfl | (exact absurd ⟨_,rfl⟩ hmv)
    rw [hother] at h2
    cases hx:xopP r.op with
    | some x=>rw [hx] at h2; exact Bm7 hx h2 _
    | none=>rw [hx] at h2; exact A14 (By0 h2)
  obtain ⟨w1,w2⟩:=@A51 i n0 o.an o.wide r.op.rdC (refsL ⟨sl,hp,nx⟩ ((Ai9 r.op).map pth)) lo ws
  exact ⟨⟨v,none,none,.row 0 [],false,fun _=>none,0⟩,.read hw hrf hx rfl rfl rfl (Ah3 _ _ _) rfl w1 (fun hwd id hid=>w2 hwd id ((refsL_mem _ _ _).2 hid)) rfl⟩
 ·rw [hcls] at h
  replace h:dLay i o.an o.wide r.op.rdC (pthO r.dst) (xopU r.op) ((Ai9 r.op).map pth) call n0 m ⟨⟨sl,hp,nx⟩,lo,ws,ps⟩=some δ':=h
  unfold dLay at h
  have h':Af5 (n0+i) (fun nid=>Option.rec (motive:=fun _=>Option DSt) none (fun p=>Upd.casesOn (motive:=fun _=>Option DSt) p.2 none
   (fun ob=>some ⟨(ES.mk sl (setN hp nid (some ob)) nx).putE (pthO r.dst) p.1,i :: lo,lookE i o.an o.wide r.op.rdC (refsL ⟨sl,hp,nx⟩ ((Ai9 r.op).map pth)) n0 lo ws,ps⟩) (fun _ _=>none) (fun _ _=>none)) (xopU r.op ⟨sl,hp,nx⟩ nid))=some δ':=h
  rw [Ab4] at h'
  obtain ⟨⟨d,u⟩,h2,h3⟩:=optR h'
  cases u with
  | lay ob=>
   have h4:some (⟨(ES.mk sl (setN hp (n0+i) (some ob)) nx).putE (pthO r.dst) d,i :: lo,lookE i o.an o.wide r.op.rdC (refsL ⟨sl,hp,nx⟩ ((Ai9 r.op).map pth)) n0 lo ws,ps⟩:DSt)=some δ':=h3
   cases h4
   obtain ⟨w1,w2⟩:=@A51 i n0 o.an o.wide r.op.rdC (refsL ⟨sl,hp,nx⟩ ((Ai9 r.op).map pth)) lo ws
   refine ⟨⟨d,some ob,none,.row 0 [],false,fun _=>none,0⟩,.lay ob hw hrf (A14 h2) rfl rfl rfl ?_ rfl w1 (fun hwd id hid=>w2 hwd id ((refsL_mem _ _ _).2 hid)) rfl⟩
   show (ES.putE _ _ _).ds=_
   rw [Ah3,ds_eq]
   show (DS.mk _ (setN hp (n0+i) (some ob)).get nx).put _ _=_
   rw [Ao2]; rfl
  | _=>cases h3
 ·rw [hcls] at h
  replace h:dWr i o.an o.tgt (pthO r.dst) (xopU r.op) ((Ai9 r.op).map pth) call n0 m ⟨⟨sl,hp,nx⟩,lo,ws,ps⟩=some δ':=h
  unfold dWr at h
  obtain ⟨⟨d,u⟩,h2,h3⟩:=optR h
  cases u with
  | wr id ob=>
   have h4:iteB (Nat.beq id (n0+o.tgt) && lo.contains o.tgt && o.an.contains o.tgt && allL (refsL ⟨sl,hp,nx⟩ ((Ai9 r.op).map pth)) (fun r=>Nat.beq r (n0+o.tgt))) (some (⟨(ES.mk sl (setN hp id (some ob)) nx).putE (pthO r.dst) d,lo,ws,ps⟩:DSt)) none=some δ':=h3
   obtain ⟨h5,h6⟩:=Ab8 h4
   simp only [Bool.and_eq_true,Aw0] at h5
   obtain ⟨⟨⟨e1,e2⟩,e3⟩,e4⟩:=h5
   have e1:id=n0+o.tgt:=Nat.eq_of_beq_eq_true e1
   subst e1
   cases h6
   refine ⟨⟨d,none,some o.tgt,ob,false,fun _=>none,0⟩,.wr ob hw ⟨by omega,by omega,by omega⟩ hrf (A14 h2) (fun id hid=>Nat.eq_of_beq_eq_true (List.all_eq_true.1 e4 id ((refsL_mem _ _ _).2 hid))) (by simpa using e2) e3 rfl rfl rfl rfl ?_ rfl rfl rfl⟩
   show (ES.putE _ _ _).ds=_
   rw [Ah3,ds_eq]
   show (DS.mk _ (setN hp (n0+o.tgt) (some ob)).get nx).put _ _=_
   rw [Ao2]; rfl
  | _=>cases h3
theorem A52 {P:Program} {call:CallT} (hc:Ad9 P call) {n0 m i:Nat} {r:DR} {o:OI} {δ δ':DSt} (hfr:δ.es.ds.Fr) (h:dstpG i r o call n0 m δ=some δ'):∃ ρ,Sem P n0 m i r o δ δ' ρ:=by
 unfold dstpG at h
 cases hg:r.g with
 | none=>
  rw [hg] at h
  exact Bc3 hc hfr (by rw [hg]; rfl) h
 | some p=>
  obtain ⟨t,b⟩:=p
  rw [hg] at h
  simp only at h
  obtain ⟨c,h1,h2⟩:=optR h
  rw [Bc0] at h1
  cases c with
  | true=>exact Bc3 hc hfr (by rw [hg]; exact h1) h2
  | false=>
   have h3:some (⟨δ.es.putE (pthO r.dst) (.v undef),δ.lo,δ.ws,δ.ps⟩:DSt)=some δ':=h2
   cases h3
   exact ⟨⟨.v undef,none,none,.row 0 [],false,fun _=>none,0⟩,.off (by rw [hg]; exact h1) rfl rfl rfl rfl (Ah3 _ _ _) rfl rfl rfl⟩
end Go.DD

/- The evaluator's regions that draw their order: the run in the text's order serves every order. -/
namespace Go.DD
def kdI (rs:List DR) (i:Nat):Nat:=((rs[i]?).map fun r=>if (A96 rs r.op).isSome then 3 else r.op.kind).getD 0
def tgtI (rs:List DR) (r:DR):Nat:=(A96 rs r.op).getD 0
def Al4 (rs:List DR):List Nat:=(List.range rs.length).filter fun i=>kdI rs i == 2
theorem kd_le (rs:List DR) (i:Nat):kdI rs i≤3:=by
 unfold kdI
 cases rs[i]? with
 | none=>simp
 | some r=>
  simp only [Option.map_some,Option.getD_some]
  split
  ·omega
  ·have:r.op.kind≤2:=by cases r.op <;> simp [DOp.kind]
   omega
theorem B35 (rs:List DR) (i:Nat):(((List.range rs.length).map (kdI rs))[i]?).getD 0=kdI rs i:=by
 by_cases h:i < rs.length
 ·simp [h]
 ·simp [h,kdI]
def okI (rs:List DR):Bool:=
  (rs.zipIdx.all fun (r,i)=>(r.pre.all fun j=>decide (j < i)) &&
   (match r.dst with | some t=>dstIx rs t == some i | none=>true) &&
   r.tmps.all fun t=>match dstIx rs t with | some p=>anB rs i p || anB rs p i || p == i | none=>true) &&
  ((Al4 rs).all fun b=>(Al4 rs).all fun a=>!(decide (a < b)) || anB rs b a) &&
  ((rs.zipIdx.map fun (r,i)=>{ an:=anR rs i,cls:=kdI rs i,tgt:=tgtI rs r,wide:=(Al4 rs).any fun q=>!anB rs q i && !anB rs i q:OI }).zipIdx.all fun (o,w)=>o.cls != 3 || (anB rs w o.tgt && (List.range rs.length).all fun i=>!anB rs i o.tgt || anB rs i w || anB rs w i || w == i))
theorem A16 (rs:List DR):Ag5 rs = { l:=rs.zipIdx.map fun (r,i)=>{ an:=anR rs i,cls:=kdI rs i,tgt:=tgtI rs r,wide:=(Al4 rs).any fun q=>!anB rs q i && !anB rs i q:OI },ok:=okI rs }:=by
 have e:(fun i=>(((List.range rs.length).map (kdI rs))[i]?).getD 0)=kdI rs:=funext fun i=>B35 rs i
 have e':∀ i,(((List.range rs.length).map (kdI rs))[i]?).getD 0=kdI rs i:=B35 rs
 have h:Ag5 rs=(fun K:Nat→Nat=>({ l:=rs.zipIdx.map fun (r,i)=>{ an:=anR rs i,cls:=K i,tgt:=tgtI rs r,wide:=((List.range rs.length).filter fun i=>K i == 2).any fun q=>!anB rs q i && !anB rs i q:OI },ok:=
  (rs.zipIdx.all fun (r,i)=>(r.pre.all fun j=>decide (j < i)) &&
   (match r.dst with | some t=>dstIx rs t == some i | none=>true) &&
   r.tmps.all fun t=>match dstIx rs t with | some p=>anB rs i p || anB rs p i || p == i | none=>true) &&
  (((List.range rs.length).filter fun i=>K i == 2).all fun b=>((List.range rs.length).filter fun i=>K i == 2).all fun a=>!(decide (a < b)) || anB rs b a) &&
  ((rs.zipIdx.map fun (r,i)=>{ an:=anR rs i,cls:=K i,tgt:=tgtI rs r,wide:=((List.range rs.length).filter fun i=>K i == 2).any fun q=>!anB rs q i && !anB rs i q:OI }).zipIdx.all fun (o,w)=>o.cls != 3 || (anB rs w o.tgt && (List.range rs.length).all fun i=>!anB rs i o.tgt || anB rs i w || anB rs w i || w == i)) } : RI)) (fun i=>(((List.range rs.length).map (kdI rs))[i]?).getD 0):=rfl
 rw [h,e]
 rfl
theorem Bc4 {rs:List DR} {i:Nat} {r:DR} (hr:rs[i]?=some r):(Ag5 rs).l[i]?=some { an:=anR rs i,cls:=kdI rs i,tgt:=tgtI rs r,wide:=(Al4 rs).any fun q=>!anB rs q i && !anB rs i q:OI }:=by
 rw [A16]
 simp [List.getElem?_map,List.getElem?_zipIdx,hr]
theorem By1 (rs:List DR):(Ag5 rs).l.length=rs.length:=by rw [A16]; simp
theorem Az0 {α:Type} {l:List α} {i:Nat} {x:α} (h:l[i]?=some x):(x,i)∈l.zipIdx:=by
 rw [List.mem_zipIdx_iff_getElem?]; exact h
structure OkI (rs:List DR):Prop where
 pre:∀ (k:Nat) (r:DR),rs[k]?=some r→∀ j∈r.pre,j < k
 dst:∀ (i:Nat) (r:DR) (t:Nat),rs[i]?=some r→r.dst=some t→dstIx rs t=some i
 rd:∀ (i:Nat) (r:DR) (t p:Nat),rs[i]?=some r→t∈r.tmps→dstIx rs t=some p→anB rs i p=true∨anB rs p i=true∨p=i
 ch:∀ a b,a < rs.length→b < rs.length→kdI rs a=2→kdI rs b=2→a < b→anB rs b a=true
 wr:∀ (w:Nat) (r:DR),rs[w]?=some r→kdI rs w=3→anB rs w (tgtI rs r)=true∧∀ i,i < rs.length→anB rs i (tgtI rs r)=true→anB rs i w=true∨anB rs w i=true∨w=i
theorem Cl9 {rs:List DR} (h:(Ag5 rs).ok=true):OkI rs:=by
 rw [A16] at h
 replace h:okI rs=true:=h
 unfold okI at h
 rw [Bool.and_eq_true,Bool.and_eq_true] at h
 obtain ⟨⟨h1,h2⟩,h3⟩:=h
 have k1:∀ (i:Nat) (r:DR),rs[i]?=some r→_:=fun i r hr=>List.all_eq_true.1 h1 (r,i) (Az0 hr)
 simp only [Bool.and_eq_true] at k1
 have hm:∀ a,a < rs.length→kdI rs a=2→a∈Al4 rs:=fun a h1 h2=>by simp [Al4,h1,h2]
 refine ⟨fun k r hr j hj=>?_,fun i r t hr ht=>?_,fun i r t p hr ht hp=>?_,fun a b ha hb ka kb hlt=>?_,fun w r hr hk=>?_⟩
 ·simpa using List.all_eq_true.1 (k1 k r hr).1.1 j hj
 ·have:=(k1 i r hr).1.2
  rw [ht] at this
  simpa using this
 ·have:=List.all_eq_true.1 (k1 i r hr).2 t ht
  rw [hp] at this
  simp only [Bool.or_eq_true,beq_iff_eq] at this
  rcases this with (h | h) | h
  ·exact .inl h
  ·exact .inr (.inl h)
  ·exact .inr (.inr h)
 ·have:=List.all_eq_true.1 (List.all_eq_true.1 h2 b (hm b hb kb)) a (hm a ha ka)
  simpa [hlt] using this
 ·have hl:=Bc4 hr
  rw [A16] at hl
  have:=List.all_eq_true.1 h3 _ (Az0 hl)
  simp only [hk,Bool.or_eq_true,Bool.and_eq_true] at this
  rcases this with h | ⟨h4,h5⟩
  ·simp at h
  ·refine ⟨h4,fun i hi hit=>?_⟩
   have:=List.all_eq_true.1 h5 i (by simpa using hi)
   simp only [hit,Bool.not_true,Bool.false_or,Bool.or_eq_true,beq_iff_eq] at this
   rcases this with (h | h) | h
   ·exact .inl h
   ·exact .inr (.inl h)
   ·exact .inr (.inr h)
theorem A53:∀ (rs:List DR) (acc:List (List Nat)) (k:Nat) (r:DR) (l:List Nat),rs[k]?=some r→(∀ (k:Nat) (r:DR),rs[k]?=some r→∀ j∈r.pre,j < acc.length+k)→(ancs rs acc)[acc.length+k]?=some l→
  ∀ x,(x∈r.pre∨∃ j∈r.pre,∃ l',(ancs rs acc)[j]?=some l'∧x∈l')→x∈l
 | [],acc,k,r,l,h,_,_=>by simp at h
 | r0 :: rs,acc,0,r,l,h,hb,hl=>by
  simp at h; subst h
  intro x hx
  have hl':l=(r0.pre ++ r0.pre.flatMap fun j=>(acc[j]?).getD []).eraseDups:=by
   simp only [ancs] at hl
   rw [Al9 rs _ _ (by simp)] at hl
   simpa using hl.symm
  rw [hl',List.mem_eraseDups,List.mem_append]
  rcases hx with hx | ⟨j,hj,l',hl2,hx⟩
  ·exact .inl hx
  ·have hjl:j < acc.length:=hb 0 r0 rfl j hj
   refine .inr (List.mem_flatMap.2 ⟨j,hj,?_⟩)
   simp only [ancs] at hl2
   rw [Al9 rs _ j (by simp; omega),List.getElem?_append_left hjl] at hl2
   rw [hl2]; exact hx
 | r0 :: rs,acc,k+1,r,l,h,hb,hl=>by
  have key:=A53 rs (acc ++ [(r0.pre ++ r0.pre.flatMap fun j=>(acc[j]?).getD []).eraseDups]) k r l (by simpa using h)
   (fun k' r' hr' j hj=>by have:=hb (k'+1) r' (by simpa using hr') j hj; simp; omega)
   (by simp only [ancs] at hl; rw [← hl]; congr 1; simp; omega)
  simpa only [ancs] using key
section
variable {rs:List DR} (hI:OkI rs)
theorem Bn0 {i:Nat} {r:DR} (hr:rs[i]?=some r):(ancs rs [])[i]?=some (anR rs i):=by
 have hil:i < (ancs rs []).length:=by rw [As5]; have:=(List.getElem?_eq_some_iff.1 hr).1; simpa using this
 simp [anR,List.getElem?_eq_getElem hil]
include hI
theorem Bc5 {i:Nat} {r:DR} (hr:rs[i]?=some r) (x:Nat):anB rs i x=true↔x∈r.pre∨∃ j∈r.pre,anB rs j x=true:=by
 have hb:∀ (k:Nat) (r:DR),rs[k]?=some r→∀ j∈r.pre,j < ([]:List (List Nat)).length+k:=fun k r' hk j hj=>by have:=hI.pre k r' hk j hj; simp; omega
 have hpre:∀ j∈r.pre,∃ rj,rs[j]?=some rj:=fun j hj=>by
  have h1:=hI.pre i r hr j hj
  have h2:=(List.getElem?_eq_some_iff.1 hr).1
  exact ⟨rs[j],List.getElem?_eq_getElem (by omega)⟩
 constructor
 ·intro h
  rcases A11 rs [] i r _ hr hb (by simpa using Bn0 hr) x (by simpa [anB] using h) with h | ⟨j,hj,l',hl',hx⟩
  ·exact .inl h
  ·exact .inr ⟨j,hj,by simp [anB,anR,hl',hx]⟩
 ·intro h
  have:=A53 rs [] i r _ hr hb (by simpa using Bn0 hr) x (by
   rcases h with h | ⟨j,hj,h⟩
   ·exact .inl h
   ·obtain ⟨rj,hrj⟩:=hpre j hj
    exact .inr ⟨j,hj,_,Bn0 hrj,by simpa [anB] using h⟩)
  simpa [anB] using this
theorem an_lt {i j:Nat} (hi:i < rs.length) (h:anB rs i j=true):j < i:=by
 induction i using Nat.strongRecOn with
 | _ i ih=>
  have hr:rs[i]?=some rs[i]:=List.getElem?_eq_getElem hi
  rcases (Bc5 hI hr j).1 h with h | ⟨x,hx,h⟩
  ·exact hI.pre i _ hr j h
  ·have h1:=hI.pre i _ hr x hx
   have:=ih x h1 (by omega) h
   omega
theorem By2 {a b c:Nat} (ha:a < rs.length) (h1:anB rs a b=true) (h2:anB rs b c=true):anB rs a c=true:=by
 induction a using Nat.strongRecOn with
 | _ a ih=>
  have hr:rs[a]?=some rs[a]:=List.getElem?_eq_getElem ha
  rcases (Bc5 hI hr b).1 h1 with h | ⟨x,hx,h⟩
  ·exact (Bc5 hI hr c).2 (.inr ⟨b,h,h2⟩)
  ·have hxl:=hI.pre a _ hr x hx
   exact (Bc5 hI hr c).2 (.inr ⟨x,hx,ih x hxl (by omega) h⟩)
end
theorem A17:∀ {a b:Value},sameV a b=true→a=b:=by
 intro a b h
 unfold sameV at h
 split at h
 ·simpa using h
 ·simp only [Bool.and_eq_true,beq_iff_eq] at h; rw [h.1,h.2]
 ·rename_i a b
  have h1:a.data.toList=b.data.toList:=by simpa using h
  have h2:a.data=b.data:=Array.toList_inj.1 h1
  obtain ⟨a⟩:=a; obtain ⟨b⟩:=b
  simp only at h2; rw [h2]
 ·rfl
 ·simp only [Bool.and_eq_true,beq_iff_eq] at h; rw [h.1,h.2]
 ·rfl
 ·rfl
 ·rfl
 ·cases h
theorem An3 {f:DV→DV→Bool} (hf:∀ a b,f a b=true→a=b):∀ {a b:List DV},sameL f a b=true→a=b
 | [],[],_=>rfl
 | a :: as,b :: bs,h=>by
  simp only [sameL,Bool.and_eq_true] at h
  rw [hf a b h.1,An3 hf h.2]
 | [],_ :: _,h=>by cases h
 | _ :: _,[],h=>by cases h
theorem Bn1 {a b:Fn} (h:Bm0 a b=true):a=b:=by
 unfold Bm0 at h
 split at h
 ·rw [beq_iff_eq.1 h]
 ·cases h
theorem Ak0:∀ (n:Nat) (a b:DV),Ab1 n a b=true→a=b
 | 0,_,_,h=>by cases h
 | n+1,a,b,h=>by
  have ih:=Ak0 n
  cases a <;> cases b <;> simp only [Ab1,Bool.and_eq_true,beq_iff_eq] at h <;> first
   | rfl
   | (cases h; done)
   | (rw [A17 h]; done)
   | (rw [An3 ih h]; done)
   | (rw [h.1,An3 ih h.2]; done)
   | (rw [Bn1 h.1,An3 ih h.2]; done)
   | (rw [h.1,ih _ _ h.2]; done)
   | (rw [h]; done)
   | (obtain ⟨⟨⟨h1,h2⟩,h3⟩,h4⟩:=h; rw [h1,h2,h3,h4]; done)
   | (obtain ⟨h1,h2⟩:=h; rw [h1,h2]; done)
theorem By3 {a b:Value} (h:Bm1 a b=true):a=b:=by
 unfold Bm1 at h
 split at h
 ·rename_i x y
  have key:∀ l m:List Value,sameL (fun x y=>match x,y with | .v x,.v y=>sameV x y | _,_=>false) (l.map .v) (m.map .v)=true→l=m:=by
   intro l
   induction l with
   | nil=>intro m h; cases m with
    | nil=>rfl
    | cons _ _=>simp [sameL] at h
   | cons u l ih=>intro m h; cases m with
    | nil=>simp [sameL] at h
    | cons v m=>
     simp only [List.map_cons,sameL,Bool.and_eq_true] at h
     rw [A17 h.1,ih m h.2]
  rw [Array.toList_inj.1 (key _ _ h)]
 ·exact A17 h
theorem Bc6 {n:Nat} : ∀ {a b:List ME},sameM n a b=true→a=b
 | [],[],_=>rfl
 | ⟨k,v,c⟩ :: a,⟨k',v',c'⟩ :: b,h=>by
  simp only [sameM,Bool.and_eq_true,beq_iff_eq] at h
  obtain ⟨⟨⟨h1,h2⟩,h3⟩,h4⟩:=h
  rw [By3 h1,Ak0 n _ _ h2,h3,Bc6 h4]
 | [],_ :: _,h=>by simp [sameM] at h
 | _ :: _,[],h=>by simp [sameM] at h
theorem A54:∀ {a b:List Nat},Ay8 a b=true→a=b
 | [],[],_=>rfl
 | x :: a,y :: b,h=>by
  simp only [Ay8,Bool.and_eq_true,beq_iff_eq] at h
  rw [h.1,A54 h.2]
 | [],_ :: _,h=>by simp [Ay8] at h
 | _ :: _,[],h=>by simp [Ay8] at h
theorem By4 {a b:DObj} (h:sameO a b=true):a=b:=by
 unfold sameO at h
 split at h
 ·simp only [Bool.and_eq_true,beq_iff_eq] at h
  rw [h.1,An3 (Ak0 6) h.2]
 ·simp only [Bool.and_eq_true,beq_iff_eq] at h
  rw [h.1,Bc6 h.2]
 ·simp only [Bool.and_eq_true,beq_iff_eq] at h
  obtain ⟨⟨⟨h1,h2⟩,h3⟩,h4⟩:=h
  rw [Ak0 2 _ _ h1,h2,A54 h3,h4]
 ·cases h
theorem Bn2 {a b:Tr DObj} {id:Nat} (h:sameAt a b id=true):a.get id=b.get id:=by
 unfold sameAt at h
 split at h
 ·rename_i h1 h2; rw [h1,h2,By4 h]
 ·cases h
structure Run (P:Program) (rs:List DR) (s0:DS) (Δ:Nat→DSt) (ρ:Nat→Rec):Prop where
 ok:OkI rs
 fr:s0.Fr
 z:(Δ 0).es.ds=⟨s0.sv,s0.ho,s0.nx+rs.length⟩
 lo0:(Δ 0).lo=[]
 sem:∀ i r o,rs[i]?=some r→(Ag5 rs).l[i]?=some o→Sem P s0.nx rs.length i r o (Δ i) (Δ (i+1)) (ρ i)
 nil:∀ i,rs.length≤i→ρ i=Rec.nil
 look:Ag3 s0.nx rs.length (Δ rs.length).ws (Δ rs.length).ps=true
theorem Sem.gw {P:Program} {n0 m i:Nat} {r:DR} {o:OI} {δ δ':DSt} {ρ:Rec} (h:Sem P n0 m i r o δ δ' ρ) (hi:i < m) (hn:n0+m≤δ.es.nx):δ.es.nx≤δ'.es.nx∧∀ id,δ.es.ds.ho id=none→δ'.es.ds.ho id≠none→n0≤id∧id < δ'.es.nx:=by
 have nxe:∀ {s:DS} {d:DV},δ'.es.ds=s.put r.dst d→δ'.es.nx=s.nx∧δ'.es.ds.ho=s.ho:=fun {s d} h=>by
  have h1:δ'.es.ds.nx=s.nx:=by rw [h,DS.nx_put]
  exact ⟨h1,by rw [h,DS.ho_put]⟩
 have nxd:δ.es.ds.nx=δ.es.nx:=rfl
 cases h with
 | off hw hd hl ht hm he hlo hws hps=>
  obtain ⟨e1,e2⟩:=nxe he
  rw [e1,e2]
  exact ⟨Nat.le_refl _,fun id h1 h2=>absurd h1 h2⟩
 | read hw hrf hx hl ht hm he hlo hws hlk hps=>
  obtain ⟨e1,e2⟩:=nxe he
  rw [e1,e2]
  exact ⟨Nat.le_refl _,fun id h1 h2=>absurd h1 h2⟩
 | lay ob hw hrf hx hl ht hm he hlo hws hlk hps=>
  obtain ⟨e1,e2⟩:=nxe he
  rw [e1,e2]
  refine ⟨Nat.le_refl _,fun id h1 h2=>?_⟩
  simp only [setH] at h2
  split at h2
  ·show n0≤id∧id < δ.es.nx; omega
  ·exact absurd h1 h2
 | wr ob hw hc hrf hx hal hlt han hl ht hob hm he hlo hws hps=>
  obtain ⟨e1,e2⟩:=nxe he
  rw [e1,e2]
  refine ⟨Nat.le_refl _,fun id h1 h2=>?_⟩
  simp only [setH] at h2
  split at h2
  ·rename_i e
   have:=Aq7 hx
   simp only [DS.hasU] at this
   rw [e] at h1; rw [h1] at this; cases this
  ·exact absurd h1 h2
 | main hid hs hhid hhs hw hc hrf hx hg hl ht hm he hlo hws hps=>
  obtain ⟨e1,e2⟩:=nxe he
  rw [e1,e2]
  have hle:δ.es.nx≤ρ.N:=by have:=hg.le; rw [hhs] at this; exact this
  refine ⟨hle,fun id h1 h2=>?_⟩
  simp only at h2
  split at h2
  ·exact absurd h1 h2
  ·rename_i hnh
   have:=hg.new id (by rw [hhs]; simp only; rw [if_neg hnh]; exact h1) h2
   rw [hhs] at this
   have h3:δ.es.nx≤id∧id < ρ.N:=this
   exact ⟨by omega,h3.2⟩
theorem Sem.fr {P:Program} {n0 m i:Nat} {r:DR} {o:OI} {δ δ':DSt} {ρ:Rec} (h:Sem P n0 m i r o δ δ' ρ) (hi:i < m) (hn:n0+m≤δ.es.nx) (hfr:δ.es.ds.Fr):δ'.es.ds.Fr:=fun id hid=>by
 obtain ⟨h1,h2⟩:=h.gw hi hn
 have hid':δ'.es.nx≤id:=hid
 cases h4:δ'.es.ds.ho id with
 | none=>rfl
 | some o=>
  have:=h2 id (hfr id (by show δ.es.nx≤id; omega)) (by rw [h4]; simp)
  omega
theorem A55 {P:Program} {call:CallT} (hc:Ad9 P call) {n0 m:Nat} : ∀ (rs:List DR) (os:List OI) (i:Nat) (δ δ':DSt),rs.length=os.length→i+rs.length≤m→rundE rs os i call n0 m δ=some δ'→δ.es.ds.Fr→n0+m≤δ.es.nx→
  ∃ (Δ:Nat→DSt) (ρ:Nat→Rec),Δ 0=δ∧Δ rs.length=δ'∧∀ j r o,rs[j]?=some r→os[j]?=some o→Sem P n0 m (i+j) r o (Δ j) (Δ (j+1)) (ρ j)
 | [],os,i,δ,δ',hl,hm,h,hfr,hn=>by
  have h3:some δ=some δ':=by
   cases os <;> exact h
  cases h3
  exact ⟨fun _=>δ,fun _=>Rec.nil,rfl,rfl,fun j r o hr=>by simp at hr⟩
 | r :: rs,[],i,δ,δ',hl,hm,h,hfr,hn=>by simp at hl
 | r :: rs,o :: os,i,δ,δ',hl,hm,h,hfr,hn=>by
  have h':dq (dstpG i r o) (rundE rs os (i+1)) call n0 m δ=some δ':=h
  obtain ⟨δ1,h1,h2⟩:=optR h'
  obtain ⟨ρ0,hs⟩:=A52 hc hfr h1
  have him:i < m:=by simp at hm; omega
  obtain ⟨g1,_⟩:=hs.gw him hn
  obtain ⟨Δ,ρ,e1,e2,e3⟩:=A55 hc rs os (i+1) δ1 δ' (by simpa using hl) (by simp at hm; omega) h2 (hs.fr him hn hfr) (by omega)
  refine ⟨fun j=>match j with | 0=>δ | j+1=>Δ j,fun j=>match j with | 0=>ρ0 | j+1=>ρ j,rfl,e2,fun j r' o' hr ho=>?_⟩
  cases j with
  | zero=>
   simp at hr ho
   subst hr; subst ho
   show Sem P n0 m (i+0) r o δ (Δ 0) ρ0
   rw [e1]; exact hs
  | succ j=>
   have:=e3 j r' o' (by simpa using hr) (by simpa using ho)
   rw [show i+(j+1)=i+1+j by omega]
   exact this
theorem Cm0 {P:Program} {call:CallT} (hc:Ad9 P call) {rs:List DR} {es es':ES} (hok:(Ag5 rs).ok=true) (h:regE rs.length (rundE rs (Ag5 rs).l 0) call es=some es') (hfr:es.ds.Fr):∃ Δ ρ,Run P rs es.ds Δ ρ∧(Δ rs.length).es=es':=by
 unfold regE at h
 obtain ⟨δ',h1,h2⟩:=optR h
 obtain ⟨h3,h4⟩:=Ab8 h2
 cases h4
 rw [cs_eq,Ab4] at h1
 obtain ⟨Δ,ρ,e1,e2,e3⟩:=A55 hc rs (Ag5 rs).l 0 _ _ (By1 rs).symm (by omega) h1 (fun id hid=>hfr id (by
  have:es.nx+rs.length≤id:=hid
  show es.nx≤id; omega)) (Nat.le_refl _)
 refine ⟨Δ,fun i=>if i < rs.length then ρ i else Rec.nil,⟨Cl9 hok,hfr,by rw [e1]; rfl,by rw [e1],fun i r o hr ho=>?_,fun i hi=>if_neg (by omega),by rw [e2]; exact h3⟩,by rw [e2]⟩
 have:=e3 i r o hr ho
 rw [Nat.zero_add] at this
 rw [if_pos (List.getElem?_eq_some_iff.1 hr).1]
 exact this
end Go.DD

/- The evaluator's regions that draw their order, second part. -/
namespace Go.DD
def cnt (f:Nat→Bool) (i:Nat):Nat:=((List.range i).filter f).length
theorem Aj4 (f:Nat→Bool) (i:Nat):cnt f (i+1)=cnt f i+(if f i=true then 1 else 0):=by
 unfold cnt
 rw [List.range_succ,List.filter_append,List.length_append]
 congr 1
 by_cases h:f i=true
 ·simp [h]
 ·simp [h]
theorem cnt_mono (f:Nat→Bool) {i j:Nat} (h:i≤j):cnt f i≤cnt f j:=by
 induction h with
 | refl=>exact Nat.le_refl _
 | step _ ih=>rw [Aj4]; omega
theorem cnt_lt (f:Nat→Bool) {i j:Nat} (h:i < j) (hf:f i=true):cnt f i < cnt f j:=by
 have:=cnt_mono f (Nat.succ_le_of_lt h)
 have h2:=Aj4 f i
 rw [if_pos hf] at h2
 have:cnt f (i+1)≤cnt f j:=this
 omega
theorem Bi4 (f:Nat→Bool):∀ (m k q:Nat),((List.range m).filter f)[k]?=some q↔q < m∧f q=true∧cnt f q=k:=by
 intro m
 induction m with
 | zero=>intro k q; simp
 | succ m ih=>
  intro k q
  rw [List.range_succ,List.filter_append]
  rcases Nat.lt_or_ge k ((List.range m).filter f).length with h | h
  ·rw [List.getElem?_append_left h,ih]
   constructor
   ·rintro ⟨h1,h2,h3⟩; exact ⟨by omega,h2,h3⟩
   ·rintro ⟨h1,h2,h3⟩
    refine ⟨?_,h2,h3⟩
    have:q≠m:=fun e=>by subst e; unfold cnt at h3; omega
    omega
  ·rw [List.getElem?_append_right h]
   by_cases hm:f m=true
   ·rw [List.filter_cons_of_pos hm,List.filter_nil]
    constructor
    ·intro h1
     have hk:k=((List.range m).filter f).length:=by
      rcases Nat.lt_or_ge ((List.range m).filter f).length k with h2 | h2
      ·rw [List.getElem?_eq_none (by simp; omega)] at h1; cases h1
      ·omega
     subst hk
     simp at h1
     subst h1
     exact ⟨by omega,hm,rfl⟩
    ·rintro ⟨h1,h2,h3⟩
     have hq:q=m:=by
      rcases Nat.lt_or_ge q m with h4 | h4
      ·have:=cnt_lt f h4 h2
       have e:cnt f m=((List.range m).filter f).length:=rfl
       omega
      ·omega
     subst hq
     have:k - ((List.range q).filter f).length=0:=by unfold cnt at h3; omega
     rw [this]; rfl
   ·rw [List.filter_cons_of_neg hm,List.filter_nil]
    constructor
    ·intro h1; simp at h1
    ·rintro ⟨h1,h2,h3⟩
     exfalso
     have hq:q≠m:=fun e=>hm (by rw [← e]; exact h2)
     have:=cnt_lt f (show q < m by omega) h2
     have e:cnt f m=((List.range m).filter f).length:=rfl
     omega
def mkH (ρ:Nat→Rec) (h0:Nat→Option DObj) (main:List Nat):Nat→Nat→Option DObj
 | 0=>h0
 | k+1=>match main[k]? with
  | some q=>(ρ q).H
  | none=>fun _=>none
def mkN (ρ:Nat→Rec) (n:Nat) (main:List Nat):Nat→Nat
 | 0=>n
 | k+1=>match main[k]? with
  | some q=>(ρ q).N
  | none=>mkN ρ n main k
def mkD (ρ:Nat→Rec) (s0:DS) (m:Nat):RG where
 d i:=(ρ i).d
 lay i:=(ρ i).lay
 tgt i:=(ρ i).tgt
 ob i:=(ρ i).ob
 main:=(List.range m).filter fun i=>(ρ i).mn
 H:=mkH ρ s0.ho ((List.range m).filter fun i=>(ρ i).mn)
 N:=mkN ρ (s0.nx+m) ((List.range m).filter fun i=>(ρ i).mn)
def kI (ρ:Nat→Rec) (i:Nat):Nat:=cnt (fun i=>(ρ i).mn) i
def Lt (i:Nat):Nat→Bool:=fun j=>decide (j < i)
section
variable {P:Program} {rs:List DR} {s0:DS} {Δ:Nat→DSt} {ρ:Nat→Rec} (R:Run P rs s0 Δ ρ)
include R
omit R in
theorem main_get {q k m:Nat} : (mkD ρ s0 m).main[k]?=some q↔q < m∧(ρ q).mn=true∧kI ρ q=k:=Bi4 _ _ _ _
omit R in
theorem By5 {m:Nat} : (mkD ρ s0 m).main.length=kI ρ m:=rfl
theorem semAt {i:Nat} {r:DR} (hr:rs[i]?=some r):Sem P s0.nx rs.length i r { an:=anR rs i,cls:=kdI rs i,tgt:=tgtI rs r,wide:=(Al4 rs).any fun q=>!anB rs q i && !anB rs i q:OI } (Δ i) (Δ (i+1)) (ρ i):=R.sem i r _ hr (Bc4 hr)
theorem Bc7 {i:Nat} (hi:i < rs.length) (h:(ρ i).mn=true):kdI rs i=2∧(ρ i).lay=none∧(ρ i).tgt=none:=by
 have hr:rs[i]?=some rs[i]:=List.getElem?_eq_getElem hi
 cases semAt R hr with
 | off hw hd hl ht hm he hlo hws hps=>rw [hm] at h; cases h
 | read hw hrf hx hl ht hm he hlo hws hlk hps=>rw [hm] at h; cases h
 | lay ob hw hrf hx hl ht hm he hlo hws hlk hps=>rw [hm] at h; cases h
 | wr ob hw hc hrf hx hal hlt han hl ht hob hm he hlo hws hps=>rw [hm] at h; cases h
 | main hid hs hhid hhs hw hc hrf hx hg hl ht hm he hlo hws hps=>exact ⟨hc,hl,ht⟩
theorem Bn3 {w j:Nat} (h:(ρ w).tgt=some j):w < rs.length∧anB rs w j=true∧∀ i,i < rs.length→anB rs i j=true→anB rs i w=true∨anB rs w i=true∨w=i:=by
 rcases Nat.lt_or_ge w rs.length with hi | hi
 ·have hr:rs[w]?=some rs[w]:=List.getElem?_eq_getElem hi
  cases semAt R hr with
  | off hw hd hl ht hm he hlo hws hps=>rw [ht] at h; cases h
  | read hw hrf hx hl ht hm he hlo hws hlk hps=>rw [ht] at h; cases h
  | lay ob hw hrf hx hl ht hm he hlo hws hlk hps=>rw [ht] at h; cases h
  | wr ob hw hc hrf hx hal hlt han hl ht hob hm he hlo hws hps=>
   rw [ht] at h
   have hj:tgtI rs rs[w]=j:=Option.some.inj h
   have h3:kdI rs w=3:=by
    have h1:=kd_le rs w
    have h2:kdI rs w≠0∧kdI rs w≠1∧kdI rs w≠2:=hc
    omega
   have:=R.ok.wr w _ hr h3
   rw [hj] at this
   exact ⟨hi,this⟩
  | main hid hs hhid hhs hw hc hrf hx hg hl ht hm he hlo hws hps=>rw [ht] at h; cases h
 ·rw [R.nil w hi] at h; cases h
theorem nx_at:∀ i,i≤rs.length→(mkD ρ s0 rs.length).N (kI ρ i)=(Δ i).es.nx∧s0.nx+rs.length≤(Δ i).es.nx∧(Δ i).es.ds.Fr
 | 0,_=>by
  have e:(Δ 0).es.nx=s0.nx+rs.length:=by have:=congrArg DS.nx R.z; exact this
  refine ⟨by rw [e]; rfl,by rw [e]; omega,?_⟩
  rw [R.z]
  intro id hid
  have:s0.nx+rs.length≤id:=hid
  exact R.fr id (by omega)
 | i+1,hi=>by
  obtain ⟨h1,h2,h3⟩:=nx_at i (by omega)
  have hr:rs[i]?=some rs[i]:=List.getElem?_eq_getElem (by omega)
  have hs:=semAt R hr
  have hg:=hs.gw (by omega) h2
  have hf:=hs.fr (by omega) h2 h3
  refine ⟨?_,by omega,hf⟩
  have same:(ρ i).mn=false→(Δ (i+1)).es.nx=(Δ i).es.nx→(mkD ρ s0 rs.length).N (kI ρ (i+1))=(Δ (i+1)).es.nx:=fun h4 h5=>by
   have:kI ρ (i+1)=kI ρ i:=by unfold kI; rw [Aj4]; simp [h4]
   rw [this,h1,h5]
  have nxe:∀ {s:DS} {d:DV},(Δ (i+1)).es.ds=s.put rs[i].dst d→(Δ (i+1)).es.nx=s.nx:=fun {s d} h=>by
   have h1:(Δ (i+1)).es.ds.nx=s.nx:=by rw [h,DS.nx_put]
   exact h1
  cases hs with
  | off hw hd hl ht hm he hlo hws hps=>exact same hm (nxe he)
  | read hw hrf hx hl ht hm he hlo hws hlk hps=>exact same hm (nxe he)
  | lay ob hw hrf hx hl ht hm he hlo hws hlk hps=>exact same hm (nxe he)
  | wr ob hw hc hrf hx hal hlt han hl ht hob hm he hlo hws hps=>exact same hm (nxe he)
  | main hid hs hhid hhs hw hc hrf hx hg hl ht hm he hlo hws hps=>
   rw [nxe he]
   have e:kI ρ (i+1)=kI ρ i+1:=by unfold kI; rw [Aj4]; simp [hm]
   have hmg:((List.range rs.length).filter fun i=>(ρ i).mn)[kI ρ i]?=some i:=(main_get (s0:=s0)).2 ⟨by omega,hm,rfl⟩
   rw [e]
   show mkN ρ _ _ _=_
   simp only [mkN,hmg]
theorem Aq8:(mkD ρ s0 rs.length).OKs rs s0 where
 pre:=R.ok.pre
 dst i j r r' t h1 h2 h3 h4:=by
  have e1:=R.ok.dst i r t h1 h3
  have e2:=R.ok.dst j r' t h2 h4
  rw [e1] at e2
  exact Option.some.inj e2
 rd:=R.ok.rd
 chain a b i j h1 h2 h3:=by
  obtain ⟨g1,g2,g3⟩:=main_get.1 h1
  obtain ⟨f1,f2,f3⟩:=main_get.1 h2
  have hij:i < j:=by
   rcases Nat.lt_or_ge i j with h | h
   ·exact h
   ·have:kI ρ j≤kI ρ i:=cnt_mono _ h
    omega
  exact R.ok.ch i j g1 f1 (Bc7 R g1 g2).1 (Bc7 R f1 f2).1 hij
 mlt a i h:=by
  obtain ⟨g1,g2,g3⟩:=main_get.1 h
  exact ⟨g1,(Bc7 R g1 g2).2⟩
 wr1 w j h:=(Bn3 R h).2.1
 wr2 i j w hi hw ha ht:=(Bn3 R ht).2.2 i hi ha
 h0:=rfl
 n0:=rfl
 mono k:=by
  cases hm:(mkD ρ s0 rs.length).main[k]? with
  | none=>
   have hm':((List.range rs.length).filter fun i=>(ρ i).mn)[k]?=none:=hm
   show mkN ρ _ _ k≤mkN ρ _ _ (k+1)
   simp only [mkN,hm']
   exact Nat.le_refl _
  | some q=>
   obtain ⟨g1,g2,g3⟩:=main_get.1 hm
   have e1:=nx_at R q (by omega)
   have e2:=nx_at R (q+1) (by omega)
   have hr:rs[q]?=some rs[q]:=List.getElem?_eq_getElem g1
   have:=((semAt R hr).gw g1 e1.2.1).1
   have ek:kI ρ (q+1)=k+1:=by
    have h5:=Aj4 (fun i=>(ρ i).mn) q
    rw [if_pos g2] at h5
    unfold kI at g3 ⊢
    omega
   rw [← ek,e2.1,← g3,e1.1]
   exact this
structure Inv (P:Program) (rs:List DR) (s0:DS) (Δ:Nat→DSt) (ρ:Nat→Rec) (i:Nat):Prop where
 sv:(Δ i).es.ds.sv=(mkD ρ s0 rs.length).sv rs s0 (Lt i)
 ho:(Δ i).es.ds.ho=(mkD ρ s0 rs.length).full rs s0 (Lt i) (kI ρ i)
 lo:∀ j,j∈(Δ i).lo↔j < i∧(ρ j).lay.isSome=true∧(mkD ρ s0 rs.length).pr rs (kI ρ i) j=false
theorem At2 {i:Nat} (hi:i≤rs.length):Done rs (mkD ρ s0 rs.length) (Lt i) (kI ρ i) where
 cl i' h1 h2 j h3:=by
  have h4:=an_lt R.ok h1 h3
  simp only [Lt,decide_eq_true_eq] at h2 ⊢
  omega
 le:=cnt_mono _ hi
 mn q j h:=by
  obtain ⟨g1,g2,g3⟩:=main_get.1 h
  simp only [Lt,decide_eq_true_eq]
  constructor
  ·intro h; rw [← g3]; exact cnt_lt _ h g2
  ·intro h
   rcases Nat.lt_or_ge j i with h' | h'
   ·exact h'
   ·have:kI ρ i≤kI ρ j:=cnt_mono _ h'
    omega
omit R in
theorem Cd3 (i:Nat) (j:Nat):Lt (i+1) j=(j == i || Lt i j):=by
 unfold Lt
 by_cases h:j=i
 ·subst h; simp
 ·have:decide (j < i+1)=decide (j < i):=by simp; omega
  rw [this,beq_eq_false_iff_ne.2 h,Bool.false_or]
theorem Lt_an {i:Nat} (hi:i < rs.length) (j:Nat) (h:anB rs i j=true):Lt i j=true:=by
 simp only [Lt,decide_eq_true_eq]; exact an_lt R.ok hi h
omit R in
theorem Aw2 (i:Nat):Lt i i=false:=by simp [Lt]
theorem Cd4 {i k:Nat} (hk:k≤kI ρ i):(mkD ρ s0 rs.length).pr rs k i=false:=by
 unfold RG.pr
 rw [List.any_eq_false]
 intro q hq
 obtain ⟨p,hp,rfl⟩:=List.mem_iff_getElem.1 hq
 rw [List.length_take] at hp
 have hm:(mkD ρ s0 rs.length).main[p]?=some ((mkD ρ s0 rs.length).main.take k)[p]:=by
  rw [List.getElem_take]; exact List.getElem?_eq_getElem (by omega)
 obtain ⟨g1,g2,g3⟩:=main_get.1 hm
 intro ha
 have h1:=an_lt R.ok g1 ha
 have h2:kI ρ i < kI ρ ((mkD ρ s0 rs.length).main.take k)[p]∨kI ρ i≤kI ρ ((mkD ρ s0 rs.length).main.take k)[p]:=.inr (cnt_mono _ (Nat.le_of_lt h1))
 omega
theorem seen {i:Nat} (hi:i < rs.length) (I:Inv P rs s0 Δ ρ i) (id:Nat):((mkD ρ s0 rs.length).st rs s0 i (kI ρ i)).ho id=if ∃ j∈(Δ i).lo.filter (fun j=>!(anR rs i).contains j),id=s0.nx+j then none else (Δ i).es.ds.ho id:=by
 have hr:rs[i]?=some rs[i]:=List.getElem?_eq_getElem hi
 have hv:=Av8 (D:=mkD ρ s0 rs.length) (rs:=rs) (s0:=s0) (L:=Lt i) (k:=kI ρ i) (Aq8 R) (At2 R (by omega)) hr (Aw2 i) (Lt_an R hi) id
 show (mkD ρ s0 rs.length).full rs s0 (anB rs i) (kI ρ i) id=_
 rw [hv,I.ho]
 cases hu:(mkD ρ s0 rs.length).unp rs s0 (kI ρ i) id with
 | none=>
  rw [if_neg]
  rintro ⟨j,hj,e⟩
  rw [List.mem_filter,I.lo] at hj
  obtain ⟨⟨h1,h2,h3⟩,_⟩:=hj
  have:(mkD ρ s0 rs.length).unp rs s0 (kI ρ i) id=some j:=by
   unfold RG.unp
   have e':id - s0.nx=j:=by omega
   rw [e',if_pos ⟨by omega,by omega,h2,h3⟩]
  rw [hu] at this; cases this
 | some j=>
  obtain ⟨e1,e2,e3,e4⟩:=Ag2 hu
  simp only
  by_cases ha:anB rs i j=true
  ·rw [if_pos ha,if_neg]
   rintro ⟨j',hj,e⟩
   have:j'=j:=by omega
   subst this
   have h1:=(List.mem_filter.1 hj).2
   have h2:(anR rs i).contains j'=true:=ha
   rw [h2] at h1; cases h1
  ·rw [if_neg ha]
   rcases Nat.lt_or_ge j i with hji | hji
   ·rw [if_pos]
    refine ⟨j,List.mem_filter.2 ⟨(I.lo j).2 ⟨hji,e3,e4⟩,?_⟩,e1⟩
    have h2:¬ (anR rs i).contains j=true:=ha
    simpa using h2
   ·have hnone:(mkD ρ s0 rs.length).full rs s0 (Lt i) (kI ρ i) id=none:=by
     unfold RG.full
     rw [hu]
     have:Lt i j=false:=by simp [Lt]; omega
     simp [this]
    rw [hnone]
    split <;> rfl
theorem By6 {i:Nat} (hi:i < rs.length) (I:Inv P rs s0 Δ ρ i):Inv P rs s0 Δ ρ (i+1):=by
 have hr:rs[i]?=some rs[i]:=List.getElem?_eq_getElem hi
 have hOK:=Aq8 R
 have hD:=At2 R (Nat.le_of_lt hi)
 have han:=Lt_an R hi
 have hL':=Cd3 i
 have hs:=semAt R hr
 have kSame:(ρ i).mn=false→kI ρ (i+1)=kI ρ i:=fun h4=>by unfold kI; rw [Aj4]; simp [h4]
 have fin:∀ {ho:Nat→Option DObj} {nx:Nat},(Δ (i+1)).es.ds=(⟨(Δ i).es.ds.sv,ho,nx⟩:DS).put rs[i].dst (ρ i).d→ho=(mkD ρ s0 rs.length).full rs s0 (Lt (i+1)) (kI ρ (i+1))→
   (∀ j,j∈(Δ (i+1)).lo↔j < i+1∧(ρ j).lay.isSome=true∧(mkD ρ s0 rs.length).pr rs (kI ρ (i+1)) j=false)→Inv P rs s0 Δ ρ (i+1):=fun {ho nx} h1 h2 h3=>by
  obtain ⟨e1,e2⟩:=Bl7 (D:=mkD ρ s0 rs.length) (L:=Lt i) (L':=Lt (i+1)) hOK hr hL' (kI ρ (i+1)) ⟨(Δ i).es.ds.sv,ho,nx⟩ I.sv h2
  exact ⟨by rw [h1]; exact e1.symm,by rw [h1]; exact e2.symm,h3⟩
 have loSame:(ρ i).mn=false→(ρ i).lay=none→(Δ (i+1)).lo=(Δ i).lo→∀ j,j∈(Δ (i+1)).lo↔j < i+1∧(ρ j).lay.isSome=true∧(mkD ρ s0 rs.length).pr rs (kI ρ (i+1)) j=false:=fun h1 h2 h3 j=>by
  rw [h3,kSame h1,I.lo]
  constructor
  ·rintro ⟨g1,g2⟩; exact ⟨by omega,g2⟩
  ·rintro ⟨g1,g2,g3⟩
   refine ⟨?_,g2,g3⟩
   have:j≠i:=fun e=>by rw [e,h2] at g2; cases g2
   omega
 cases hs with
 | off hw hd hl ht hm he hlo hws hps=>
  refine fin (ho:=(Δ i).es.ds.ho) (nx:=(Δ i).es.ds.nx) (by rw [hd]; exact he) ?_ (loSame hm hl hlo)
  rw [kSame hm,I.ho]
  exact (Ap5 (D:=mkD ρ s0 rs.length) (L:=Lt i) (L':=Lt (i+1)) (i:=i) hL' hl ht).symm
 | read hw hrf hx hl ht hm he hlo hws hlk hps=>
  refine fin (ho:=(Δ i).es.ds.ho) (nx:=(Δ i).es.ds.nx) he ?_ (loSame hm hl hlo)
  rw [kSame hm,I.ho]
  exact (Ap5 (D:=mkD ρ s0 rs.length) (L:=Lt i) (L':=Lt (i+1)) (i:=i) hL' hl ht).symm
 | lay ob hw hrf hx hl ht hm he hlo hws hlk hps=>
  refine fin he ?_ fun j=>?_
  ·rw [kSame hm,I.ho]
   exact (Bb6 (D:=mkD ρ s0 rs.length) (L:=Lt i) (L':=Lt (i+1)) hOK hD hr (Aw2 i) hL' hl ht).symm
  ·rw [hlo,List.mem_cons,kSame hm,I.lo]
   constructor
   ·rintro (rfl | ⟨g1,g2⟩)
    ·exact ⟨by omega,by rw [hl]; rfl,Cd4 R (Nat.le_refl _)⟩
    ·exact ⟨by omega,g2⟩
   ·rintro ⟨g1,g2⟩
    by_cases hji:j=i
    ·exact .inl hji
    ·exact .inr ⟨by omega,g2⟩
 | wr ob hw hc hrf hx hal hlt hant hl ht hob hm he hlo hws hps=>
  refine fin he ?_ (loSame hm hl hlo)
  obtain ⟨g1,g2,g3⟩:=(I.lo _).1 hlt
  have hu:(mkD ρ s0 rs.length).unp rs s0 (kI ρ i) (s0.nx+tgtI rs rs[i])=some (tgtI rs rs[i]):=by
   unfold RG.unp
   have g1':tgtI rs rs[i] < i:=g1
   have e':s0.nx+tgtI rs rs[i] - s0.nx=tgtI rs rs[i]:=by omega
   rw [e',if_pos ⟨by omega,by omega,g2,g3⟩]
  rw [kSame hm,I.ho,← hob]
  exact (Bl8 (D:=mkD ρ s0 rs.length) (L:=Lt i) (L':=Lt (i+1)) hOK hD hr (Aw2 i) han hL' hu hant ht hl).symm
 | main hid hs hhid hhs hw hc hrf hx hg hl ht hm he hlo hws hps=>
  have hmi:(mkD ρ s0 rs.length).main[kI ρ i]?=some i:=main_get.2 ⟨hi,hm,rfl⟩
  have hk:kI ρ (i+1)=kI ρ i+1:=by unfold kI; rw [Aj4]; simp [hm]
  have hH:(mkD ρ s0 rs.length).H (kI ρ i+1)=(ρ i).H:=by
   have:((List.range rs.length).filter fun i=>(ρ i).mn)[kI ρ i]?=some i:=hmi
   show mkH ρ s0.ho ((List.range rs.length).filter fun i=>(ρ i).mn) (kI ρ i+1)=_
   simp only [mkH,this]
  have hnx:=nx_at R i (by omega)
  have hmem:∀ j,j∈hid↔j∈(Δ i).lo∧anB rs i j=false:=fun j=>by
   rw [hhid,List.mem_filter]
   show _∧(!(anB rs i j))=true↔_
   simp
  refine fin he ?_ fun j=>?_
  ·funext id
   rw [hk,Av7 (D:=mkD ρ s0 rs.length) (L:=Lt i) (L':=Lt (i+1)) hL' hmi hl ht id,hH]
   cases hu:(mkD ρ s0 rs.length).unp rs s0 (kI ρ i) id with
   | none=>
    simp only
    rw [if_neg]
    rintro ⟨j,hj,e⟩
    obtain ⟨h1,h2,h3⟩:=(I.lo j).1 ((hmem j).1 hj).1
    have:(mkD ρ s0 rs.length).unp rs s0 (kI ρ i) id=some j:=by
     unfold RG.unp
     have e':id - s0.nx=j:=by omega
     rw [e',if_pos ⟨by omega,by omega,h2,h3⟩]
    rw [hu] at this; cases this
   | some j=>
    obtain ⟨e1,e2,e3,e4⟩:=Ag2 hu
    simp only
    by_cases ha:anB rs i j=true
    ·rw [if_pos ha,if_neg]
     rintro ⟨j',hj,e⟩
     have:j'=j:=by omega
     subst this
     rw [((hmem j').1 hj).2] at ha; cases ha
    ·rw [if_neg ha]
     have hfull:(mkD ρ s0 rs.length).full rs s0 (Lt i) (kI ρ i) id=if Lt i j=true then (mkD ρ s0 rs.length).cur rs (Lt i) j else none:=by
      unfold RG.full; rw [hu]
     rcases Nat.lt_or_ge j i with hji | hji
     ·rw [if_pos ⟨j,(hmem j).2 ⟨(I.lo j).2 ⟨hji,e3,e4⟩,by simpa using ha⟩,e1⟩,I.ho,hfull]
     ·have hLj:Lt i j=false:=by simp [Lt]; omega
      rw [hLj]
      rw [hLj] at hfull
      simp only [Bool.false_eq_true,if_false] at hfull ⊢
      rw [if_neg (fun ⟨j',hj,e⟩=>by
       have:j'=j:=by omega
       subst this
       have:=((I.lo j').1 ((hmem j').1 hj).1).1
       omega)]
      cases hx:(ρ i).H id with
      | none=>rfl
      | some x=>
       exfalso
       have hn:hs.ho id=none:=by
        rw [hhs]
        simp only
        rw [I.ho,hfull]
        split <;> rfl
       have:=(hg.new id hn (by show (ρ i).H id≠none; rw [hx]; simp)).1
       rw [hhs] at this
       have h7:(Δ i).es.nx≤id:=this
       have:=hnx.2.1
       omega
  ·rw [hlo,hmem,I.lo,hk,Av6 hmi,Bool.or_eq_false_iff]
   constructor
   ·rintro ⟨⟨g1,g2,g3⟩,g4⟩; exact ⟨by omega,g2,g3,g4⟩
   ·rintro ⟨g1,g2,g3,g4⟩
    have:j≠i:=fun e=>by rw [e,hl] at g2; cases g2
    exact ⟨⟨by omega,g2,g3⟩,g4⟩
theorem Am6:∀ i,i≤rs.length→Inv P rs s0 Δ ρ i
 | 0,_=>by
  refine ⟨?_,?_,fun j=>by rw [R.lo0]; simp⟩
  ·funext t
   rw [R.z]
   show s0.sv t=RG.sv rs s0 _ _ t
   unfold RG.sv
   split
   ·simp [Lt]
   ·rfl
  ·funext id
   rw [R.z]
   show s0.ho id=RG.full rs s0 _ _ _ id
   unfold RG.full
   cases hu:(mkD ρ s0 rs.length).unp rs s0 (kI ρ 0) id with
   | none=>rfl
   | some j=>
    have:=Ag2 hu
    simp [Lt]
    exact R.fr id (by omega)
 | i+1,hi=>By6 R (by omega) (Am6 i (by omega))
end
end Go.DD

/- The evaluator's regions that draw their order, third part: the theorem. -/
namespace Go.DD
theorem Cm1 {s:DS} {op:DOp} {x:Operand} (hx:x∈op.opnds) {id:Nat} (h:id∈(s.ev x).refs):Ag8 s op id:=by
 cases x with
 | tmp t=>
  simp only [DS.ev] at h
  split at h
  ·exact ⟨t,hx,h⟩
  ·simp [DV.refs] at h
 | const x=>simp only [DS.ev] at h; rw [Ba1] at h; cases h
 | func f=>simp [DS.ev,DV.refs,DV.refsL] at h
 | global g=>simp only [DS.ev] at h; rw [Ba0] at h; cases h
def HoEq (c:Bool) (a b:Option DObj):Prop:=if c=true then a=b else a.isSome=b.isSome
theorem HoEq.of {c:Bool} {a b:Option DObj} (h:a=b):HoEq c a b:=by
 unfold HoEq; subst h; split <;> rfl
theorem HoEq.some {c:Bool} {a b:Option DObj} (h:HoEq c a b):a.isSome=b.isSome:=by
 unfold HoEq at h; split at h
 ·rw [h]
 ·exact h
theorem HoEq.symm {c:Bool} {a b:Option DObj} (h:HoEq c a b):HoEq c b a:=by
 unfold HoEq at *
 split at h
 ·rename_i hc; rw [if_pos hc]; exact h.symm
 ·rename_i hc; rw [if_neg hc]; exact h.symm
theorem HoEq.trans {c:Bool} {a b d:Option DObj} (h:HoEq c a b) (h':HoEq c b d):HoEq c a d:=by
 unfold HoEq at *
 split at h
 ·rename_i hc; rw [if_pos hc] at h' ⊢; exact h.trans h'
 ·rename_i hc; rw [if_neg hc] at h' ⊢; exact h.trans h'
theorem look_eq {c:Bool} {a b:Tr DObj} {id:Nat} (h:(if c=true then sameAt a b id else Av9 a b id)=true):HoEq c (a.get id) (b.get id):=by
 unfold HoEq
 split at h
 ·rename_i hc; rw [if_pos hc]; exact Bn2 h
 ·rename_i hc; rw [if_neg hc]; unfold Av9 at h; simpa using h
theorem Bc8 {op:DOp} {s s':DS} (hsv:∀ t,.tmp t∈op.opnds→s'.sv t=s.sv t) (hho:∀ id,Ag8 s op id→HoEq op.rdC (s'.ho id) (s.ho id)):Agree op s s':=by
 refine ⟨fun x hx=>?_,fun x hx=>?_,fun hc x hx id hid=>(by have:=hho id (Cm1 hx hid); unfold HoEq at this; rwa [if_pos hc] at this)⟩
 ·cases x with
  | tmp t=>
   have h1:=hsv t hx
   have h2:s'.live (s'.sv t)=s.live (s.sv t):=by
    rw [h1]
    unfold DS.live
    rw [Bool.eq_iff_iff,List.all_eq_true,List.all_eq_true]
    constructor
    ·intro h id hid; rw [← (hho id ⟨t,hx,hid⟩).some]; exact h id hid
    ·intro h id hid; rw [(hho id ⟨t,hx,hid⟩).some]; exact h id hid
   simp only [DS.ev]
   rw [h2,h1]
  | _=>rfl
 ·cases x with
  | tmp t=>exact hsv t hx
  | _=>rfl
section
variable {P:Program} {rs:List DR} {s0:DS} {Δ:Nat→DSt} {ρ:Nat→Rec} (R:Run P rs s0 Δ ρ)
include R
theorem Cd5 {i:Nat} (hi:i < rs.length):(∀ w∈(Δ i).ws,w∈(Δ (i+1)).ws)∧(∀ p∈(Δ i).ps,p∈(Δ (i+1)).ps):=by
 cases semAt R (List.getElem?_eq_getElem hi) with
 | off hw hd hl ht hm he hlo hws hps=>rw [hws,hps]; exact ⟨fun _ h=>h,fun _ h=>h⟩
 | read hw hrf hx hl ht hm he hlo hws hlk hps=>rw [hps]; exact ⟨hws,fun _ h=>h⟩
 | lay ob hw hrf hx hl ht hm he hlo hws hlk hps=>rw [hps]; exact ⟨hws,fun _ h=>h⟩
 | wr ob hw hc hrf hx hal hlt han hl ht hob hm he hlo hws hps=>rw [hws,hps]; exact ⟨fun _ h=>h,fun _ h=>h⟩
 | main hid hs hhid hhs hw hc hrf hx hg hl ht hm he hlo hws hps=>rw [hws,hps]; exact ⟨fun _ h=>h,fun _ h=>List.mem_cons_of_mem _ h⟩
theorem B36 {i j:Nat} (h:i≤j) (hj:j≤rs.length):(∀ w∈(Δ i).ws,w∈(Δ j).ws)∧(∀ p∈(Δ i).ps,p∈(Δ j).ps):=by
 induction h with
 | refl=>exact ⟨fun _ h=>h,fun _ h=>h⟩
 | @step j h ih=>
  obtain ⟨h1,h2⟩:=ih (by have:j+1≤rs.length:=hj; omega)
  obtain ⟨h3,h4⟩:=Cd5 R (i:=j) hj
  exact ⟨fun w hw=>h3 w (h1 w hw),fun p hp=>h4 p (h2 p hp)⟩
theorem Cd6 {q:Nat} (hq:q < rs.length) (hm:(ρ q).mn=true):(⟨q,anR rs q,(Δ q).es.hp,(Δ (q+1)).es.hp⟩:Past)∈(Δ rs.length).ps:=by
 refine (B36 R (i:=q+1) (by omega) (Nat.le_refl _)).2 _ ?_
 cases semAt R (List.getElem?_eq_getElem hq) with
 | off hw hd hl ht hm' he hlo hws hps=>rw [hm] at hm'; cases hm'
 | read hw hrf hx hl ht hm' he hlo hws hlk hps=>rw [hm] at hm'; cases hm'
 | lay ob hw hrf hx hl ht hm' he hlo hws hlk hps=>rw [hm] at hm'; cases hm'
 | wr ob hw hc hrf hx hal hlt han hl ht hob hm' he hlo hws hps=>rw [hm] at hm'; cases hm'
 | main hid hs hhid hhs hw hc hrf hx hg hl ht hm' he hlo hws hps=>rw [hps]; exact List.mem_cons_self ..
theorem st_sv {i:Nat} {r:DR} (hr:rs[i]?=some r) (k:Nat) {t:Nat} (ht:t∈r.tmps):((mkD ρ s0 rs.length).st rs s0 i k).sv t=(Δ i).es.ds.sv t:=by
 have hi:=(List.getElem?_eq_some_iff.1 hr).1
 have I:=Am6 R i (by omega)
 rw [I.sv]
 exact (Bb3 (D:=mkD ρ s0 rs.length) (L:=Lt i) (k:=kI ρ i) (Aq8 R) (At2 R (by omega)) hr (Aw2 i) (Lt_an R hi) t ht).symm
omit R in
theorem Bc9 {r:DR} {t:Nat} (h : .tmp t∈r.op.opnds):t∈r.tmps:=by
 simp only [DR.tmps,List.mem_append,List.mem_filterMap]
 exact .inl ⟨_,h,rfl⟩
theorem st_ho {i:Nat} {r:DR} (hr:rs[i]?=some r) {id:Nat} (h:Ap7 s0.nx rs.length (anR rs i) (Δ i).es.ds id):((mkD ρ s0 rs.length).st rs s0 i (kI ρ i)).ho id=(Δ i).es.ds.ho id:=by
 have hi:=(List.getElem?_eq_some_iff.1 hr).1
 have I:=Am6 R i (by omega)
 rw [seen R hi I,if_neg]
 rintro ⟨j,hj,e⟩
 have h1:=(List.mem_filter.1 hj)
 have h2:=(I.lo j).1 h1.1
 rcases h.2 with h3 | h3 | h3
 ·omega
 ·omega
 ·have:id - s0.nx=j:=by omega
  rw [this] at h3
  have h4:=h1.2
  rw [h3] at h4; cases h4
theorem By7 {i:Nat} {r:DR} (hr:rs[i]?=some r) {id:Nat} (hlk:((Al4 rs).any fun q=>!anB rs q i && !anB rs i q)=true→(⟨i,anR rs i,id,(Δ i).lo.contains (id - s0.nx),r.op.rdC⟩:Look)∈(Δ (i+1)).ws)
  {q p:Nat} (hq:(mkD ρ s0 rs.length).main[q]?=some p) (h1:anB rs p i=false) (h2:anB rs i p=false) :
  HoEq r.op.rdC (((mkD ρ s0 rs.length).st rs s0 i (q+1)).ho id) (((mkD ρ s0 rs.length).st rs s0 i q).ho id):=by
 have hi:=(List.getElem?_eq_some_iff.1 hr).1
 obtain ⟨g1,g2,g3⟩:=main_get.1 hq
 have hwide:((Al4 rs).any fun q=>!anB rs q i && !anB rs i q)=true:=by
  rw [List.any_eq_true]
  exact ⟨p,by simp [Al4,g1,(Bc7 R g1 g2).1],by simp [h1,h2]⟩
 have hl:=(B36 R (i:=i+1) (by omega) (Nat.le_refl _)).1 _ (hlk hwide)
 have hp:=Cd6 R g1 g2
 have hok:=List.all_eq_true.1 (List.all_eq_true.1 R.look _ hl) _ hp
 simp only at hok
 have e1:(anR rs i).contains p=false:=h2
 have e2:(anR rs p).contains i=false:=h1
 rw [e1,e2,Bool.false_or,Bool.false_or] at hok
 have hkp:kI ρ (p+1)=q+1:=by
  have h5:=Aj4 (fun i=>(ρ i).mn) p
  rw [if_pos g2] at h5
  unfold kI at g3 ⊢
  omega
 split at hok
 ·rename_i hout
  have hout:id < s0.nx∨s0.nx+rs.length≤id:=by
   rw [Bool.or_eq_true] at hout
   rcases hout with h | h
   ·exact .inl (by simpa [Nat.blt_eq] using h)
   ·exact .inr (by simpa [Nat.ble_eq] using h)
  have hu:∀ k,(mkD ρ s0 rs.length).unp rs s0 k id=none:=fun k=>by
   unfold RG.unp
   rw [if_neg (fun hc=>by omega)]
  have hf:∀ L k,(mkD ρ s0 rs.length).full rs s0 L k id=(mkD ρ s0 rs.length).H k id:=fun L k=>by
   unfold RG.full; rw [hu]
  show HoEq _ ((mkD ρ s0 rs.length).full rs s0 _ _ id) ((mkD ρ s0 rs.length).full rs s0 _ _ id)
  rw [hf,hf]
  have hs:=look_eq hok
  have i1:=congrFun (Am6 R p (by omega)).ho id
  have i2:=congrFun (Am6 R (p+1) (by omega)).ho id
  rw [hf] at i1 i2
  rw [g3] at i1
  rw [hkp] at i2
  rw [← i1,← i2]
  exact hs.symm
 ·rename_i hin
  rw [Bool.and_eq_true] at hok
  have hin':s0.nx≤id∧id < s0.nx+rs.length:=by
   rw [Bool.or_eq_true] at hin
   refine ⟨?_,?_⟩
   ·rcases Nat.lt_or_ge id s0.nx with h | h
    ·exact absurd (.inl (by simpa [Nat.blt_eq] using h)) hin
    ·exact h
   ·rcases Nat.lt_or_ge id (s0.nx+rs.length) with h | h
    ·exact h
    ·exact absurd (.inr (by simpa [Nat.ble_eq] using h)) hin
  have hlo:id - s0.nx∈(Δ i).lo:=by simpa using hok.1
  obtain ⟨l1,l2,l3⟩:=((Am6 R i (by omega)).lo _).1 hlo
  have hpj:anB rs p (id - s0.nx)=false:=by
   have:(!(anB rs p (id - s0.nx)))=true:=hok.2
   simpa using this
  have hpr:(mkD ρ s0 rs.length).pr rs q (id - s0.nx)=false:=by
   unfold RG.pr
   rw [List.any_eq_false]
   intro x hx
   obtain ⟨n,hn,rfl⟩:=List.mem_iff_getElem.1 hx
   rw [List.length_take] at hn
   have hm:(mkD ρ s0 rs.length).main[n]?=some ((mkD ρ s0 rs.length).main.take q)[n]:=by
    rw [List.getElem_take]; exact List.getElem?_eq_getElem (by omega)
   have hch:=(Aq8 R).chain n q _ _ hm hq (by omega)
   intro h
   have:=By2 R.ok g1 hch h
   rw [hpj] at this; cases this
  have hu1:(mkD ρ s0 rs.length).unp rs s0 q id=some (id - s0.nx):=by
   unfold RG.unp
   rw [if_pos ⟨hin'.1,hin'.2,l2,hpr⟩]
  have hu2:(mkD ρ s0 rs.length).unp rs s0 (q+1) id=some (id - s0.nx):=by
   unfold RG.unp
   rw [if_pos ⟨hin'.1,hin'.2,l2,by rw [Av6 hq,hpr,hpj]; rfl⟩]
  refine HoEq.of ?_
  show (mkD ρ s0 rs.length).full rs s0 _ _ id=(mkD ρ s0 rs.length).full rs s0 _ _ id
  unfold RG.full
  rw [hu1,hu2]
theorem Aw3 {i:Nat} (hi:i < rs.length) {k:Nat} (h:(mkD ρ s0 rs.length).may rs i k) {q p:Nat} (hq:(mkD ρ s0 rs.length).main[q]?=some p) (hb:(kI ρ i≤q∧q < k)∨(k≤q∧q < kI ρ i)):anB rs p i=false∧anB rs i p=false:=by
 obtain ⟨g1,g2,g3⟩:=main_get.1 hq
 rcases hb with ⟨h1,h2⟩ | ⟨h1,h2⟩
 ·refine ⟨h.2.1 q p h2 hq,?_⟩
  cases hx:anB rs i p with
  | false=>rfl
  | true=>
   have h3:=an_lt R.ok hi hx
   have:kI ρ p < kI ρ i:=cnt_lt _ h3 g2
   omega
 ·refine ⟨?_,h.2.2 q p h1 hq⟩
  cases hx:anB rs p i with
  | false=>rfl
  | true=>
   have h3:=an_lt R.ok g1 hx
   have:kI ρ i≤kI ρ p:=cnt_mono _ (by omega)
   omega
omit R in
theorem A81 {c:Bool} {f:Nat→Option DObj} {a b:Nat} (hab:a≤b) (h:∀ q,a≤q→q < b→HoEq c (f (q+1)) (f q)):HoEq c (f b) (f a):=by
 induction hab with
 | refl=>exact HoEq.of rfl
 | @step m hm ih=>
  exact (h m hm (Nat.lt_succ_self m)).trans (ih fun q h1 h2=>h q h1 (by omega))
theorem win {i:Nat} {r:DR} (hr:rs[i]?=some r) {id:Nat} (hlk:((Al4 rs).any fun q=>!anB rs q i && !anB rs i q)=true→(⟨i,anR rs i,id,(Δ i).lo.contains (id - s0.nx),r.op.rdC⟩:Look)∈(Δ (i+1)).ws)
  {k:Nat} (h:(mkD ρ s0 rs.length).may rs i k):HoEq r.op.rdC (((mkD ρ s0 rs.length).st rs s0 i k).ho id) (((mkD ρ s0 rs.length).st rs s0 i (kI ρ i)).ho id):=by
 have hi:=(List.getElem?_eq_some_iff.1 hr).1
 have hstep:∀ q,(kI ρ i≤q∧q < k)∨(k≤q∧q < kI ρ i)→HoEq r.op.rdC (((mkD ρ s0 rs.length).st rs s0 i (q+1)).ho id) (((mkD ρ s0 rs.length).st rs s0 i q).ho id):=fun q hb=>by
  have hql:q < (mkD ρ s0 rs.length).main.length:=by
   have h1:=h.1
   have h2:kI ρ i≤(mkD ρ s0 rs.length).main.length:=cnt_mono _ (Nat.le_of_lt hi)
   omega
  have hq:=List.getElem?_eq_getElem hql
  obtain ⟨h1,h2⟩:=Aw3 R hi h hq hb
  exact By7 R hr hlk hq h1 h2
 rcases Nat.le_total (kI ρ i) k with hle | hle
 ·exact A81 (f:=fun q=>((mkD ρ s0 rs.length).st rs s0 i q).ho id) hle fun q h1 h2=>hstep q (.inl ⟨h1,h2⟩)
 ·exact (A81 (f:=fun q=>((mkD ρ s0 rs.length).st rs s0 i q).ho id) hle fun q h1 h2=>hstep q (.inr ⟨h1,h2⟩)).symm
theorem Bn4 {i:Nat} {r:DR} (hr:rs[i]?=some r) (hrf:∀ id,Ag8 (Δ i).es.ds r.op id→Ap7 s0.nx rs.length (anR rs i) (Δ i).es.ds id) {k:Nat} (hk:∀ id,Ag8 (Δ i).es.ds r.op id→HoEq r.op.rdC (((mkD ρ s0 rs.length).st rs s0 i k).ho id) (((mkD ρ s0 rs.length).st rs s0 i (kI ρ i)).ho id)) :
  liveR ((mkD ρ s0 rs.length).st rs s0 i k) r∧Agree r.op (Δ i).es.ds ((mkD ρ s0 rs.length).st rs s0 i k):=by
 have hsv:∀ t,.tmp t∈r.op.opnds→((mkD ρ s0 rs.length).st rs s0 i k).sv t=(Δ i).es.ds.sv t:=fun t ht=>st_sv R hr k (Bc9 ht)
 have hho:∀ id,Ag8 (Δ i).es.ds r.op id→HoEq r.op.rdC (((mkD ρ s0 rs.length).st rs s0 i k).ho id) ((Δ i).es.ds.ho id):=fun id hid=>(hk id hid).trans (HoEq.of (st_ho R hr (hrf id hid)))
 refine ⟨fun t ht=>?_,Bc8 hsv hho⟩
 rw [hsv t ht]
 unfold DS.live
 rw [List.all_eq_true]
 intro id hid
 rw [(hho id ⟨t,ht,hid⟩).some]
 exact (hrf id ⟨t,ht,hid⟩).1
theorem Cm2 (i:Nat) (r:DR) (hr:rs[i]?=some r):(mkD ρ s0 rs.length).ev rs s0 P i r:=by
 have hi:=(List.getElem?_eq_some_iff.1 hr).1
 have I:=Am6 R i (by omega)
 have hwe:((mkD ρ s0 rs.length).st rs s0 i 0).wanted r.g=(Δ i).es.ds.wanted r.g:=by
  unfold DS.wanted
  cases hg:r.g with
  | none=>rfl
  | some p=>
   obtain ⟨t,b⟩:=p
   have:=st_sv R hr 0 (t:=t) (by simp [DR.tmps,hg])
   simp only [this]
 have hnm:(ρ i).mn=false→i∉(mkD ρ s0 rs.length).main:=fun h hmem=>by
  obtain ⟨k,hk⟩:=List.mem_iff_getElem?.1 hmem
  have:=(main_get.1 hk).2.1
  rw [h] at this; cases this
 unfold RG.ev
 rw [hwe]
 have hs:=semAt R hr
 have notcall:∀ {nid:Nat} {d:DV} {u:Upd},execU nid (Δ i).es.ds r.op=some (d,u)→(∀ f args,r.op≠.call f args)∧∀ tb x args,r.op≠.cv tb x args:=fun {nid d u} h=>⟨fun f args e=>(by rw [e] at h; cases h),fun tb x args e=>(by rw [e] at h; cases h)⟩
 have nonmain:∀ {u0:Upd},(ρ i).mn=false→(Δ i).es.ds.wanted r.g=some true→execU (s0.nx+i) (Δ i).es.ds r.op=some ((ρ i).d,u0)→(∀ id,Ag8 (Δ i).es.ds r.op id→Ap7 s0.nx rs.length (anR rs i) (Δ i).es.ds id)→
   (∀ k,(mkD ρ s0 rs.length).may rs i k→(∀ id,Ag8 (Δ i).es.ds r.op id→HoEq r.op.rdC (((mkD ρ s0 rs.length).st rs s0 i k).ho id) (((mkD ρ s0 rs.length).st rs s0 i (kI ρ i)).ho id))∧match u0 with
     | .keep=>(ρ i).lay=none∧(ρ i).tgt=none
     | .lay o=>(ρ i).lay=some o∧(ρ i).tgt=none
     | .wr id o=>∃ j,(mkD ρ s0 rs.length).unp rs s0 k id=some j∧anB rs i j=true∧(ρ i).tgt=some j∧(ρ i).ob=o∧(ρ i).lay=none
     | _=>False)→(mkD ρ s0 rs.length).ev rs s0 P i r:=fun {u0} hm hw hx hrf hk=>by
  have hnc:=notcall hx
  unfold RG.ev
  rw [hwe,hw]
  simp only
  have key:∀ k,(mkD ρ s0 rs.length).may rs i k→liveR ((mkD ρ s0 rs.length).st rs s0 i k) r∧∃ u,execU (s0.nx+i) ((mkD ρ s0 rs.length).st rs s0 i k) r.op=some ((mkD ρ s0 rs.length).d i,u)∧match u with
     | .keep=>(mkD ρ s0 rs.length).lay i=none∧(mkD ρ s0 rs.length).tgt i=none
     | .lay o=>(mkD ρ s0 rs.length).lay i=some o∧(mkD ρ s0 rs.length).tgt i=none
     | .wr id o=>∃ j,(mkD ρ s0 rs.length).unp rs s0 k id=some j∧anB rs i j=true∧(mkD ρ s0 rs.length).tgt i=some j∧(mkD ρ s0 rs.length).ob i=o∧(mkD ρ s0 rs.length).lay i=none
     | _=>False:=fun k hmay=>by
   obtain ⟨h1,h2⟩:=hk k hmay
   obtain ⟨h3,h4⟩:=Bn4 R hr hrf h1
   refine ⟨h3,u0,by rw [Ak6 h4]; exact hx,h2⟩
  split
  ·rename_i f args ho; exact absurd ho (hnc.1 f args)
  ·rename_i tb x args ho; exact absurd ho (hnc.2 tb x args)
  ·exact .inr ⟨hnm hm,key⟩
 cases hs with
 | off hw hd hl ht hm he hlo hws hps=>rw [hw]; exact ⟨hd,hl,ht,hnm hm⟩
 | read hw hrf hx hl ht hm he hlo hws hlk hps=>
  have:=nonmain hm hw hx hrf fun k hmay=>⟨fun id hid=>win R hr (fun h=>hlk h id hid) hmay,hl,ht⟩
  unfold RG.ev at this
  rwa [hwe] at this
 | lay ob hw hrf hx hl ht hm he hlo hws hlk hps=>
  have:=nonmain hm hw hx hrf fun k hmay=>⟨fun id hid=>win R hr (fun h=>hlk h id hid) hmay,hl,ht⟩
  unfold RG.ev at this
  rwa [hwe] at this
 | wr ob hw hc hrf hx hal hlt hant hl ht hob hm he hlo hws hps=>
  obtain ⟨g1,g2,g3⟩:=(I.lo _).1 hlt
  have g1':tgtI rs r < i:=g1
  have hunp:∀ k,(mkD ρ s0 rs.length).may rs i k→(mkD ρ s0 rs.length).unp rs s0 k (s0.nx+tgtI rs r)=some (tgtI rs r):=fun k hmay=>by
   have hpr:(mkD ρ s0 rs.length).pr rs k (tgtI rs r)=false:=by
    unfold RG.pr
    rw [List.any_eq_false]
    intro x hx
    obtain ⟨n,hn,rfl⟩:=List.mem_iff_getElem.1 hx
    rw [List.length_take] at hn
    have hmn:(mkD ρ s0 rs.length).main[n]?=some ((mkD ρ s0 rs.length).main.take k)[n]:=by
     rw [List.getElem_take]; exact List.getElem?_eq_getElem (by omega)
    obtain ⟨f1,f2,f3⟩:=main_get.1 hmn
    intro h
    rcases Nat.lt_or_ge n (kI ρ i) with hlt' | hge
    ·have:(mkD ρ s0 rs.length).pr rs (kI ρ i) (tgtI rs r)=true:=by
      unfold RG.pr
      rw [List.any_eq_true]
      refine ⟨_,List.mem_iff_getElem?.2 ⟨n,?_⟩,h⟩
      rw [List.getElem?_take,if_pos hlt']; exact hmn
     have g3':(mkD ρ s0 rs.length).pr rs (kI ρ i) (tgtI rs r)=false:=g3
     rw [g3'] at this; cases this
    ·obtain ⟨u1,u2⟩:=Aw3 R hi hmay hmn (.inl ⟨hge,by omega⟩)
     rcases (Bn3 R ht).2.2 _ f1 h with h' | h' | h'
     ·rw [u1] at h'; cases h'
     ·rw [u2] at h'; cases h'
     ·rw [← h'] at f2; rw [hm] at f2; cases f2
   unfold RG.unp
   have e':s0.nx+tgtI rs r - s0.nx=tgtI rs r:=by omega
   rw [e',if_pos ⟨by omega,by omega,g2,hpr⟩]
  have hmay0:(mkD ρ s0 rs.length).may rs i (kI ρ i):=A12 (D:=mkD ρ s0 rs.length) (L:=Lt i) (Aq8 R) (At2 R (by omega)) (Aw2 i) (Lt_an R hi)
  have hfull:∀ k,(mkD ρ s0 rs.length).may rs i k→((mkD ρ s0 rs.length).st rs s0 i k).ho (s0.nx+tgtI rs r)=(mkD ρ s0 rs.length).cur rs (anB rs i) (tgtI rs r):=fun k hmay=>by
   show (mkD ρ s0 rs.length).full rs s0 _ _ _=_
   unfold RG.full
   rw [hunp k hmay]
   have ha:anB rs i (tgtI rs r)=true:=hant
   simp only
   rw [if_pos ha]
  have:=nonmain hm hw hx hrf fun k hmay=>⟨fun id hid=>by
   have e:id=s0.nx+tgtI rs r:=hal id hid
   exact HoEq.of (by rw [e,hfull k hmay,hfull _ hmay0]),⟨_,hunp k hmay,hant,ht,hob,hl⟩⟩
  unfold RG.ev at this
  rwa [hwe] at this
 | main hid hs hhid hhs hw hc hrf hx hg hl ht hm he hlo hws hps=>
  rw [hw]
  simp only
  have hmi:(mkD ρ s0 rs.length).main[kI ρ i]?=some i:=main_get.2 ⟨hi,hm,rfl⟩
  have hfn:((List.range rs.length).filter fun i=>(ρ i).mn)[kI ρ i]?=some i:=hmi
  have hH:(mkD ρ s0 rs.length).H (kI ρ i+1)=(ρ i).H:=by
   show mkH ρ s0.ho ((List.range rs.length).filter fun i=>(ρ i).mn) (kI ρ i+1)=_
   simp only [mkH,hfn]
  have hN:(mkD ρ s0 rs.length).N (kI ρ i+1)=(ρ i).N:=by
   show mkN ρ (s0.nx+rs.length) ((List.range rs.length).filter fun i=>(ρ i).mn) (kI ρ i+1)=_
   simp only [mkN,hfn]
  have hnx:=(nx_at R i (by omega)).1
  obtain ⟨hlv,_⟩:=Bn4 R hr hrf (k:=kI ρ i) fun _ _=>HoEq.of rfl
  have hsho:hs.ho=((mkD ρ s0 rs.length).st rs s0 i (kI ρ i)).ho:=by
   funext id
   rw [seen R hi I,hhs,hhid]
  have hsnx:hs.nx=((mkD ρ s0 rs.length).st rs s0 i (kI ρ i)).nx:=by
   rw [hhs]
   exact hnx.symm
  have hssv:∀ t,.tmp t∈r.op.opnds→((mkD ρ s0 rs.length).st rs s0 i (kI ρ i)).sv t=hs.sv t:=fun t htm=>by
   rw [hhs]; exact st_sv R hr _ (Bc9 htm)
  have hag:Agree r.op hs ((mkD ρ s0 rs.length).st rs s0 i (kI ρ i)):=Bc8 hssv fun id _=>HoEq.of (by rw [hsho])
  have hst:(⟨((mkD ρ s0 rs.length).st rs s0 i (kI ρ i)).sv,hs.ho,hs.nx⟩:DS)=(mkD ρ s0 rs.length).st rs s0 i (kI ρ i):=by rw [hsho,hsnx]
  have hargs:∀ (args:List Operand),(∀ x∈args,x∈r.op.opnds)→args.map ((mkD ρ s0 rs.length).st rs s0 i (kI ρ i)).rv=args.map hs.rv:=fun args hsub=>List.map_congr_left fun x hx=>hag.rv x (hsub x hx)
  unfold A50 at hx
  split
  ·rename_i f args ho
   rw [ho] at hx
   simp only at hx
   refine ⟨kI ρ i,hmi,hlv,?_⟩
   rw [hargs args (fun x hx=>by rw [ho]; exact hx),hH,hN,← hst]
   exact hx _
  ·rename_i tb x args ho
   rw [ho] at hx
   simp only at hx
   obtain ⟨f,fr,cs,h1,h2⟩:=hx
   refine ⟨kI ρ i,f,fr,cs,hmi,hlv,?_,?_⟩
   ·rw [hag.ev x (by rw [ho]; simp [DOp.opnds])]; exact h1
   ·rw [hargs args (fun y hy=>by rw [ho]; simp [DOp.opnds,hy]),hH,hN,← hst]
    exact h2 _
  ·rename_i hn2 hn3
   have hx':∃ u,hs.hasU u=true∧execU hs.nx hs r.op=some ((ρ i).d,u)∧(ρ i).H=u.app hs.nx hs.ho∧(ρ i).N=if u.new then hs.nx+1 else hs.nx:=by
    revert hx
    split
    ·rename_i f args ho; exact absurd ho (hn2 f args)
    ·rename_i tb x args ho; exact absurd ho (hn3 tb x args)
    ·exact id
   obtain ⟨u,h1,h2,h3,h4⟩:=hx'
   refine .inl ⟨kI ρ i,u,hmi,hlv,?_,?_,?_,?_⟩
   ·cases u with
    | wr id o=>simp only [DS.hasU] at h1 ⊢; rw [← hsho]; exact h1
    | mv old o=>
     cases old with
     | none=>rfl
     | some id=>simp only [DS.hasU] at h1 ⊢; rw [← hsho]; exact h1
    | _=>rfl
   ·have e:hs.nx=(mkD ρ s0 rs.length).N (kI ρ i):=hsnx
    rw [Ak6 hag,← e]
    exact h2
   ·have e:hs.nx=(mkD ρ s0 rs.length).N (kI ρ i):=hsnx
    rw [hH,h3,hsho,e]
   ·have e:hs.nx=(mkD ρ s0 rs.length).N (kI ρ i):=hsnx
    rw [hN,h4,e]
theorem Cm3:(mkD ρ s0 rs.length).OK rs s0 P:={ Aq8 R with ev:=Cm2 R }
theorem run_end:(mkD ρ s0 rs.length).at_ rs s0 (fun _=>true) (mkD ρ s0 rs.length).main.length=(Δ rs.length).es.ds:=by
 have I:=Am6 R rs.length (Nat.le_refl _)
 have hN:=(nx_at R rs.length (Nat.le_refl _)).1
 have hsv:(mkD ρ s0 rs.length).sv rs s0 (fun _=>true)=(mkD ρ s0 rs.length).sv rs s0 (Lt rs.length):=by
  funext t
  unfold RG.sv
  cases hp:rs.findIdx? (fun r=>r.dst == some t) with
  | none=>rfl
  | some p=>
   have:p < rs.length:=(List.findIdx?_eq_some_iff_findIdx_eq.1 hp).1
   simp [Lt,this]
 have hho:(mkD ρ s0 rs.length).full rs s0 (fun _=>true) (kI ρ rs.length)=(mkD ρ s0 rs.length).full rs s0 (Lt rs.length) (kI ρ rs.length):=by
  funext id
  unfold RG.full
  cases hu:(mkD ρ s0 rs.length).unp rs s0 (kI ρ rs.length) id with
  | none=>rfl
  | some j=>
   have hj:=(Ag2 hu).2.1
   have hc:(mkD ρ s0 rs.length).cur rs (fun _=>true) j=(mkD ρ s0 rs.length).cur rs (Lt rs.length) j:=by
    unfold RG.cur
    rw [Ai7 (L:=Lt rs.length) (L':=fun _=>true) fun w hw _=>by simp [Lt,hw]]
   simp [Lt,hj,hc]
 show (⟨_,_,_⟩:DS)=_
 rw [By5,hsv,hho,hN,← I.sv,← I.ho]
 rfl
end
theorem Cd7 {C:Ctx} {call:CallT} (hc:Ad9 C.P call) (hm:C.P.follows .mixedOrders=true) {rs:List DR} {es es':ES} (hok:(Ag5 rs).ok=true) (h:regE rs.length (rundE rs (Ag5 rs).l 0) call es=some es') (hfr:es.ds.Fr) :
  Gw es.ds es'.ds∧∀ (info:RI) (Q:Exit→DS→Prop),Q .normal es'.ds→DW C (.reg true rs info) Q es.ds:=by
 obtain ⟨Δ,ρ,R,rfl⟩:=Cm0 hc hok h hfr
 refine ⟨?_,fun info Q hQ=>DW.regd (mkD ρ es.ds rs.length) hm (Cm3 R) (by rw [run_end R]; exact hQ)⟩
 have key:∀ i,i≤rs.length→∀ id,es.ds.ho id=none→(Δ i).es.ds.ho id≠none→es.ds.nx≤id∧id < (Δ i).es.nx:=by
  intro i
  induction i with
  | zero=>intro _ id h1 h2; rw [R.z] at h2; exact absurd h1 h2
  | succ i ih=>
   intro hi id h1 h2
   have hn:=(nx_at R i (by omega)).2.1
   obtain ⟨g1,g2⟩:=(semAt R (List.getElem?_eq_getElem (show i < rs.length by omega))).gw (by omega) hn
   cases h3:(Δ i).es.ds.ho id with
   | none=>exact g2 id h3 h2
   | some o=>
    have:=ih (by omega) id h1 (by rw [h3]; simp)
    omega
 have hn:=(nx_at R rs.length (Nat.le_refl _)).2.1
 exact ⟨by show es.ds.nx≤(Δ rs.length).es.nx; omega,key _ (Nat.le_refl _)⟩
end Go.DD

/- The contract of a function, out of its body. -/
namespace Go.DD
open Go.RowKit (Below)
def finD (s:DS) (rs:List (Nat×Option (Option Nat))):Option DV:=
 match resV s rs with
 | some d=>rz s.ho 6 d
 | none=>none
theorem DCall.intro {P:Program} {f:FuncId} {fn:Func} {df:DF} {args:List DV} {R:DV→Prop} (hf:P.funcs[f]?=some fn) (hc:Ay4 P fn=some df) (hn:args.length≤df.nt)
  (h:∀ (S:Nat→Prop) (w0:World),DW ⟨P,S,fun _=>False,w0,df.nt,fun _ _=>False,fun _=>False,none,fun _=>none,fun _=>False⟩ df.code (fun e s=>(e=.normal∨e=.ret)∧∃ r,finD s df.res=some r∧R r) ⟨argF args,fun _=>none,0⟩):DCall P f args R:=by
 intro w S vs hS hl hrel hglv
 unfold Ay4 at hc
 split at hc
 rotate_left
 ·cases hc
 rename_i body hb
 split at hc
 rotate_left
 ·cases hc
 rename_i c r hcc hcr
 cases hc
 refine callsIn_wide.1 (callsIn_of_wp_marks (n:=0) hf hb trivial ?_)
 have hhh:HH ⟨P,S,fun _=>False,w,fn.ntmps,fun _ _=>False,fun _=>False,none,fun _=>none,fun _=>False⟩ (Us ⟨P,S,fun _=>False,w,fn.ntmps,fun _ _=>False,fun _=>False,none,fun _=>none,fun _=>False⟩ 0) (vwF (fun _=>none) (fun _=>none)) (fun _=>none) w:=
  ⟨hS,⟨rfl,rfl,rfl,Nat.le_refl _,fun _ _ _=>rfl⟩,fun _ _ h=>(by cases h),fun _ _ _ h=>(by cases h),fun _ _=>rfl,fun _ _ h=>(by cases h)⟩
 have hentry:=A41 (C:=⟨P,S,fun _=>False,w,fn.ntmps,fun _ _=>False,fun _=>False,none,fun _=>none,fun _=>False⟩) (ho:=fun _=>none) (nx:=0) (args:=args) (vs:=vs) hhh
  (fun x d h=>h.elim False.elim fun h=>WV.flat (.imm _ _ ((hglv x d h).mono fun b hb=>⟨⟨.inl hb,hS b hb,fun _ h=>(by cases h)⟩,rfl⟩)) (Au5 (hglv x d h))) (fun _ _ h=>(by cases h)) (fun _ h=>h.elim) hn hl
  (fun j v d hv hd=>WV.flat (.imm _ _ ((hrel j v d hv hd).mono fun b hb=>⟨⟨.inl hb,hS b hb,fun _ h=>(by cases h)⟩,rfl⟩)) (Au5 (hrel j v d hv hd)))
 refine wpIn_mono (h S w body hcc _ w ⟨fun _ h=>h.elim,_,hentry⟩) ?_
 have hfin:∀ (s:DS) (a:Act) (w':World),Holds ⟨P,S,fun _=>False,w,fn.ntmps,fun _ _=>False,fun _=>False,none,fun _=>none,fun _=>False⟩ s a w'→(∃ d,finD s r=some d∧R d)→LeavesInM Fence.wide 0 P fn a.tmps (fun e w'=>∃ v' d,e=.returned v'∧R d∧Below w.heap.size w w'∧RelI w' (fun b=>(S b∨w.heap.size≤b)∧b < w'.heap.size) v' d) a.defers .returning w':=by
  rintro s ⟨tmps,l⟩ w' ⟨_,β,hs⟩ ⟨d,hd,hR⟩
  unfold finD at hd
  split at hd
  ·rename_i d0 hd0
   refine A07 hcr hd0 tmps (fun v w'' hs hr=>?_) l w' hs
   have hbl:=hs.hh.bel
   exact ⟨v,d,rfl,hR,⟨hbl.os,hbl.tape,hbl.output,hbl.size,fun k hk=>hbl.block k hk (fun h=>h)⟩,(rz_ok hs.hh (fun id o ho=>Ag7 ho) 6 v d0 d hr hd).mono fun b hb=>⟨⟨hb.1.imp id (fun h=>h.resolve_right (fun h=>h)),hb.2⟩,rfl⟩⟩
  ·cases hd
 rintro e a w' ⟨s,⟨h1,h2⟩,hs⟩
 rcases h1 with rfl | rfl
 ·exact hfin s a w' hs h2
 ·exact hfin s a w' hs h2
theorem DCall.of_callI {P:Program} {f:FuncId} {args:List DV} {R:DV→Prop} {sv:Nat→DV} (h:callI P f args ⟨sv,fun _=>none,0⟩ fun s d=>∃ r,rz s.ho 6 d=some r∧R r):DCall P f args R:=by
 obtain ⟨fn,df,hf,hc,hn,hw⟩:=h
 refine DCall.intro hf hc hn fun S w0=>(hw S (fun _=>False) w0 (fun _ _=>False) (fun _=>False) (fun _=>none) (fun _=>False)).mono ?_
 rintro e s ⟨h1,d,h2,r,h3,h4⟩
 refine ⟨h1,r,?_,h4⟩
 unfold finD
 rw [h2]
 exact h3
end Go.DD

/- The evaluator's code and calls. -/
namespace Go.DD
theorem Ar8 {P:Program} {call:CallT} (hc:Ad9 P call) {n0 m:Nat} : ∀ (rs:List DR) (os:List OI) (i:Nat) (δ δ':DSt),i+rs.length≤m→rundE rs os i call n0 m δ=some δ'→δ.es.ds.Fr→n0+m≤δ.es.nx→
  δ.es.nx≤δ'.es.nx∧∀ id,δ.es.ds.ho id=none→δ'.es.ds.ho id≠none→n0≤id∧id < δ'.es.nx
 | [],os,i,δ,δ',hm,h,hfr,hn=>by
  have h3:some δ=some δ':=by cases os <;> exact h
  cases h3
  exact ⟨Nat.le_refl _,fun id h1 h2=>absurd h1 h2⟩
 | r :: rs,[],i,δ,δ',hm,h,hfr,hn=>by
  have h3:some δ=some δ':=h
  cases h3
  exact ⟨Nat.le_refl _,fun id h1 h2=>absurd h1 h2⟩
 | r :: rs,o :: os,i,δ,δ',hm,h,hfr,hn=>by
  have h':dq (dstpG i r o) (rundE rs os (i+1)) call n0 m δ=some δ':=h
  obtain ⟨δ1,h1,h2⟩:=optR h'
  obtain ⟨ρ0,hs⟩:=A52 hc hfr h1
  have him:i < m:=by simp at hm; omega
  obtain ⟨g1,g2⟩:=hs.gw him hn
  obtain ⟨g3,g4⟩:=Ar8 hc rs os (i+1) δ1 δ' (by simp at hm; omega) h2 (hs.fr him hn hfr) (by omega)
  refine ⟨by omega,fun id k1 k2=>?_⟩
  cases k3:δ1.es.ds.ho id with
  | none=>exact g4 id k3 k2
  | some x=>
   have:=g2 id k1 (by rw [k3]; simp)
   omega
theorem Cd8 {P:Program} {call:CallT} (hc:Ad9 P call) {rs:List DR} {os:List OI} {es es':ES} (h:regE rs.length (rundE rs os 0) call es=some es') (hfr:es.ds.Fr):Gw es.ds es'.ds:=by
 unfold regE at h
 obtain ⟨δ',h1,h2⟩:=optR h
 obtain ⟨h3,h4⟩:=Ab8 h2
 cases h4
 rw [cs_eq,Ab4] at h1
 obtain ⟨g1,g2⟩:=Ar8 hc rs os 0 _ _ (by omega) h1 (fun id hid=>hfr id (by
  have:es.nx+rs.length≤id:=hid
  show es.nx≤id; omega)) (Nat.le_refl _)
 exact ⟨by (have:es.nx+rs.length≤δ'.es.nx:=g1); show es.nx≤δ'.es.nx; omega,fun id k1 k2=>g2 id k1 k2⟩
theorem evv {s:DS} {x:Operand} {v:Value} (h:s.rv x=.v v):s.ev x=.v v:=by
 cases x with
 | tmp t=>
  have h':s.sv t=.v v:=h
  simp only [DS.ev]
  rw [h',if_pos]
  rfl
 | _=>exact h
theorem A18 {a b:CE} {call:CallT} {es es':ES} {e:Exit} (h:cS a b call es=some (e,es')):(∃ es1,a call es=some (.normal,es1)∧b call es1=some (e,es'))∨(a call es=some (e,es')∧e≠.normal):=by
 obtain ⟨⟨e1,es1⟩,h1,h2⟩:=optR h
 cases e1 with
 | normal=>exact .inl ⟨es1,h1,h2⟩
 | _=>
  cases h2
  exact .inr ⟨h1,by simp⟩
theorem A19 {s:Stp} {call:CallT} {es es':ES} {e:Exit} (h:cN s call es=some (e,es')):s call es=some es'∧e=.normal:=by
 obtain ⟨es1,h1,h2⟩:=optR h
 cases h2
 exact ⟨h1,rfl⟩
theorem Cd9 {x:Operand} {a b:CE} {call:CallT} {es es':ES} {e:Exit} (h:cC (.of x) a b call es=some (e,es')):∃ t,es.ds.ev x=.v (.bool t)∧(if t=true then a call es else b call es)=some (e,es'):=by
 unfold cC at h
 rw [Ab5] at h
 obtain ⟨v,hv,h⟩:=Ak8 h
 cases v with
 | bool t=>
  refine ⟨t,evv hv,?_⟩
  cases t <;> exact h
 | _=>cases h
theorem Ce0 {id:Nat} {c:CE} {call:CallT} {es es':ES} {e:Exit} (h:cB id c call es=some (e,es')):∃ e1,c call es=some (e1,es')∧∀ (Q:Exit→DS→Prop),Q e es'.ds→blkQ id Q e1 es'.ds:=by
 obtain ⟨⟨e1,es1⟩,h1,h2⟩:=optR h
 cases e1 with
 | exit i=>
  have h3:iteB (Nat.beq i id) (some (Exit.normal,es1)) (some (Exit.exit i,es1))=some (e,es'):=h2
  rw [Ab2] at h3
  split at h3
  ·rename_i hb
   cases h3
   exact ⟨_,h1,fun Q hQ=>by simp only [blkQ]; rw [if_pos (Nat.eq_of_beq_eq_true hb)]; exact hQ⟩
  ·rename_i hb
   cases h3
   refine ⟨_,h1,fun Q hQ=>?_⟩
   simp only [blkQ]
   rw [if_neg (fun e=>hb (by rw [e]; exact Nat.beq_refl id))]; exact hQ
 | _=>
  cases h2
  exact ⟨_,h1,fun Q hQ=>hQ⟩
def EvOK (P:Program) (nt:Nat) (rd:Bool) (c:DC) (es:ES) (e:Exit) (es':ES):Prop:=
 Gw es.ds es'.ds∧∀ (C:Ctx) (Q:Exit→DS→Prop),C.P=P→C.nt=nt→(rd=false→C.rd=none)→Q e es'.ds→DW C c Q es.ds
theorem Ce1 {P:Program} {call:CallT} {n nt:Nat} {rd:Bool} {c:DC} (ih:∀ es e es',evalE n nt rd c call es=some (e,es')→es.ds.Fr→EvOK P nt rd c es e es'):∀ (m:Nat) (es:ES) (e:Exit) (es':ES),cL m (evalE n nt rd c) call es=some (e,es')→es.ds.Fr→EvOK P nt rd (.loop c) es e es':=by
 have gw:∀ (m:Nat) (es:ES) (e:Exit) (es':ES),cL m (evalE n nt rd c) call es=some (e,es')→es.ds.Fr→Gw es.ds es'.ds:=by
  intro m
  induction m with
  | zero=>intro es e es' h _; cases h
  | succ m im=>
   intro es e es' h hfr
   have h':cS (evalE n nt rd c) (cL m (evalE n nt rd c)) call es=some (e,es'):=h
   rcases A18 h' with ⟨es1,h1,h2⟩ | ⟨h1,_⟩
   ·have g1:=(ih _ _ _ h1 hfr).1
    exact g1.trans (im es1 e es' h2 (Gw.fr hfr g1))
   ·exact (ih _ _ _ h1 hfr).1
 intro m es e es' h hfr
 refine ⟨gw m es e es' h hfr,fun C Q hP hnt hrd hQ=>?_⟩
 refine DW.loop (I:=fun k s=>∃ es1,s=es1.ds∧es1.ds.Fr∧cL k (evalE n nt rd c) call es1=some (e,es')) m ⟨es,rfl,hfr,h⟩ ?_
 rintro k s ⟨es1,rfl,hfr1,h1⟩
 cases k with
 | zero=>cases h1
 | succ k=>
  have h':cS (evalE n nt rd c) (cL k (evalE n nt rd c)) call es1=some (e,es'):=h1
  rcases A18 h' with ⟨es2,h2,h3⟩ | ⟨h2,hne⟩
  ·obtain ⟨g1,g2⟩:=ih _ _ _ h2 hfr1
   exact g2 C _ hP hnt hrd ⟨k,Nat.lt_succ_self k,es2,rfl,Gw.fr hfr1 g1,h3⟩
  ·obtain ⟨g1,g2⟩:=ih _ _ _ h2 hfr1
   refine g2 C _ hP hnt hrd ?_
   cases e <;> first | exact hQ | exact absurd rfl hne
theorem A20 {P:Program} {call:CallT} (hc:Ad9 P call) (hm:P.follows .mixedOrders=true) {n nt:Nat} {rd:Bool} : ∀ (c:DC) (es:ES) (e:Exit) (es':ES),evalE n nt rd c call es=some (e,es')→es.ds.Fr→EvOK P nt rd c es e es':=by
 intro c
 induction c with
 | skip=>
  intro es e es' h hfr
  have h':some (Exit.normal,es)=some (e,es'):=h
  cases h'
  exact ⟨Gw.refl _,fun C Q _ _ _ hQ=>DW.skip hQ⟩
 | ret=>
  intro es e es' h hfr
  have h':some (Exit.ret,es)=some (e,es'):=h
  cases h'
  exact ⟨Gw.refl _,fun C Q _ _ _ hQ=>DW.ret hQ⟩
 | exit id=>
  intro es e es' h hfr
  have h':some (Exit.exit id,es)=some (e,es'):=h
  cases h'
  exact ⟨Gw.refl _,fun C Q _ _ _ hQ=>DW.exit hQ⟩
 | seq a b iha ihb=>
  intro es e es' h hfr
  have h':cS (evalE n nt rd a) (evalE n nt rd b) call es=some (e,es'):=h
  rcases A18 h' with ⟨es1,h1,h2⟩ | ⟨h1,hne⟩
  ·obtain ⟨g1,k1⟩:=iha _ _ _ h1 hfr
   obtain ⟨g2,k2⟩:=ihb _ _ _ h2 (Gw.fr hfr g1)
   exact ⟨g1.trans g2,fun C Q hP hnt hrd hQ=>DW.seq (k1 C _ hP hnt hrd (k2 C Q hP hnt hrd hQ))⟩
  ·obtain ⟨g1,k1⟩:=iha _ _ _ h1 hfr
   refine ⟨g1,fun C Q hP hnt hrd hQ=>DW.seq (k1 C _ hP hnt hrd ?_)⟩
   cases e <;> first | exact hQ | exact absurd rfl hne
 | cond x a b iha ihb=>
  intro es e es' h hfr
  have h':cC (.of x) (evalE n nt rd a) (evalE n nt rd b) call es=some (e,es'):=h
  obtain ⟨t,ht,h2⟩:=Cd9 h'
  cases t with
  | true=>
   rw [if_pos rfl] at h2
   obtain ⟨g1,k1⟩:=iha _ _ _ h2 hfr
   exact ⟨g1,fun C Q hP hnt hrd hQ=>DW.cond ht (fun _=>k1 C Q hP hnt hrd hQ) (fun h=>by cases h)⟩
  | false=>
   rw [if_neg (by simp)] at h2
   obtain ⟨g1,k1⟩:=ihb _ _ _ h2 hfr
   exact ⟨g1,fun C Q hP hnt hrd hQ=>DW.cond ht (fun h=>by cases h) (fun _=>k1 C Q hP hnt hrd hQ)⟩
 | blk id c ih=>
  intro es e es' h hfr
  have h':cB id (evalE n nt rd c) call es=some (e,es'):=h
  obtain ⟨e1,h1,h2⟩:=Ce0 h'
  obtain ⟨g1,k1⟩:=ih _ _ _ h1 hfr
  exact ⟨g1,fun C Q hP hnt hrd hQ=>DW.blk (k1 C _ hP hnt hrd (h2 Q hQ))⟩
 | loop c ih=>
  intro es e es' h hfr
  exact Ce1 ih n es e es' h hfr
 | reg draw ops info=>
  intro es e es' h hfr
  cases draw with
  | false=>
   have h':cN (runE ops) call es=some (e,es'):=h
   obtain ⟨h1,rfl⟩:=A19 h'
   obtain ⟨g1,k1⟩:=Bm8 hc ops es es' h1 hfr
   exact ⟨g1,fun C Q hP hnt hrd hQ=>DW.reg (by rw [hP]; exact k1 _ hQ)⟩
  | true=>
   cases hok:info.ok with
   | false=>
    have h':(match info.ok with
     | true=>cN (regE ops.length (rundE ops info.l 0))
     | false=>fun _ _=>none:CE) call es=some (e,es'):=h
    rw [hok] at h'
    cases h'
   | true=>
    have h':(match info.ok with
     | true=>cN (regE ops.length (rundE ops info.l 0))
     | false=>fun _ _=>none:CE) call es=some (e,es'):=h
    rw [hok] at h'
    have h'':cN (regE ops.length (rundE ops info.l 0)) call es=some (e,es'):=h'
    obtain ⟨h1,rfl⟩:=A19 h''
    refine ⟨Cd8 hc h1 hfr,fun C Q hP hnt hrd hQ=>?_⟩
    intro code hcode
    obtain ⟨id,os,hcd,hl,hi⟩:=Au1 hcode
    have hi':=hi rfl
    subst hi'
    subst hP
    exact (Cd7 hc hm hok h1 hfr).2 _ Q hQ code hcode
 | rng g ps a b iha ihb=>
  intro es e es' h hfr
  have h':cR nt rd (.of g) ps a b call es=some (e,es'):=h
  unfold cR at h'
  split at h'
  ·cases h'
  rename_i hrdn
  rw [Am0] at h'
  split at h'
  rotate_left
  ·cases h'
  rename_i f cs hfn
  split at h'
  rotate_left
  ·cases h'
  rename_i d hp nx hcall
  obtain ⟨n1,n2,hcb,hcI⟩:=hc _ _ _ _ _ _ _ hcall (fun id hid=>by
   rw [Tr.set_ho]
   simp only [setH]
   rw [if_neg (by omega)]
   exact hfr id (by show es.nx≤id; omega))
  rw [Tr.set_ho] at n2 hcI
  have gw:∀ es2:ES,es2.hp=hp.set es.nx none→es2.nx=nx→Gw es.ds es2.ds:=fun es2 e1 e2=>by
   refine ⟨by show es.nx≤es2.nx; omega,fun id k1 k2=>?_⟩
   have k2':es2.hp.get id≠none:=k2
   rw [e1,Tr.set_ho] at k2'
   simp only [setH] at k2'
   split at k2'
   ·exact absurd rfl k2'
   ·rename_i hne
    have:=n2 id (by simp only [setH]; rw [if_neg hne]; exact k1) k2'
    show es.nx≤id∧id < es2.nx
    omega
  have dw:∀ (C:Ctx) (Q:Exit→DS→Prop),C.P=P→C.nt=nt→(rd=false→C.rd=none)→(∃ lp,hp.get es.nx=some (.loop lp)∧lp.st≠.busy∧match lp.pend with
   | none=>Q .normal ⟨es.ds.sv,setH hp.get es.nx none,nx⟩
   | some .ret=>Q .ret ⟨es.ds.sv,setH hp.get es.nx none,nx⟩
   | some (.exit i)=>Q (.exit i) ⟨es.ds.sv,setH hp.get es.nx none,nx⟩
   | _=>False)→DW C (.rng g ps a b) Q es.ds:=fun C Q hP hnt hrd hQ=>by
   subst hP hnt
   exact DW.rng (sl:=.t es.sl) rfl (hrd (by simpa using hrdn)) hfn hcb (callC.i (ds:=.yl es.nx :: cs) ⟨.yl es.nx,List.mem_cons_self,by simp [DV.refs]⟩ (hcI es.ds.sv _ hQ))
  split at h'
  rotate_left
  ·cases h'
  rename_i lp hlp
  have hst:lp.st≠.busy:=fun hb=>by
   rw [hb] at h'
   cases h'
  have hmatch:(match lp.pend with
     | none=>some (Exit.normal,⟨es.sl,hp.set es.nx none,nx⟩)
     | some .ret=>some (Exit.ret,⟨es.sl,hp.set es.nx none,nx⟩)
     | some (.exit i)=>some (Exit.exit i,⟨es.sl,hp.set es.nx none,nx⟩)
     | _=>none)=some (e,es'):=by
   revert h'
   split
   ·rename_i hb; exact absurd hb hst
   ·exact id
  have hfin:∀ es2:ES,es2=⟨es.sl,hp.set es.nx none,nx⟩→es2.ds=⟨es.ds.sv,setH hp.get es.nx none,nx⟩:=fun es2 he=>by
   subst he
   rw [ds_eq,Tr.set_ho]; rfl
  cases hpe:lp.pend with
  | none=>
   rw [hpe] at hmatch
   cases hmatch
   refine ⟨gw _ rfl rfl,fun C Q hP hnt hrd hQ=>dw C Q hP hnt hrd ⟨lp,hlp,hst,?_⟩⟩
   rw [hpe]
   rw [hfin _ rfl] at hQ
   exact hQ
  | some p=>
   rw [hpe] at hmatch
   cases p with
   | ret=>
    cases hmatch
    refine ⟨gw _ rfl rfl,fun C Q hP hnt hrd hQ=>dw C Q hP hnt hrd ⟨lp,hlp,hst,?_⟩⟩
    rw [hpe]
    rw [hfin _ rfl] at hQ
    exact hQ
   | exit i=>
    cases hmatch
    refine ⟨gw _ rfl rfl,fun C Q hP hnt hrd hQ=>dw C Q hP hnt hrd ⟨lp,hlp,hst,?_⟩⟩
    rw [hpe]
    rw [hfin _ rfl] at hQ
    exact hQ
   | _=>cases hmatch
 | dfq t g cap=>
  intro es e es' h hfr
  cases rd with
  | true=>cases h
  | false=>
   have h':cN (stepE (some (pth t)) (.mkf (.func g) [] cap)) call es=some (e,es'):=h
   obtain ⟨h1,rfl⟩:=A19 h'
   have hex:Exd es.ds (.mkf (.func g) [] cap) (some t) es'.ds:=A15 (dst:=some t) (fun _ _ e=>by cases e) (fun _ _ _ e=>by cases e) (fun _ _ e=>by cases e) h1
   refine ⟨hex.gw hfr,fun C Q hP hnt hrd hQ=>DW.dfq (hrd rfl) ?_⟩
   obtain ⟨d,u,h2,h3⟩:=hex
   have h4:some (DV.fn (.func g) (.tup [] :: cap.map es.ds.ev),Upd.keep)=some (d,u):=h2
   cases h4
   rw [h3] at hQ
   exact hQ
 | bad=>
  intro es e es' h hfr
  cases h
end Go.DD

/- Functions that range over maps: all orders are run; what they leave alike is kept. -/
namespace Go.DD
noncomputable def runF (n nt:Nat) (c:DC):CE:=evalE n nt false c
theorem Ce2 {P:Program} {call:CallT} (hc:Ad9 P call) (hm:P.follows .mixedOrders=true) {n nt:Nat} {c:DC} {es es':ES} {e:Exit} (h:runF n nt c call es=some (e,es')) (hfr:es.ds.Fr) :
  Gw es.ds es'.ds∧∀ (C:Ctx) (Q:Exit→DS→Prop),C.P=P→C.nt=nt→C.rd=none→(∀ e',e'=e∨e'=.normal∨e'=.ret→Q e' es'.ds)→DW C c Q es.ds:=by
 obtain ⟨g,k⟩:=A20 hc hm c es e es' h hfr
 exact ⟨g,fun C Q hP hnt hrd hQ=>k C Q hP hnt (fun _=>hrd) (hQ e (.inl rfl))⟩
end Go.DD

/- The evaluator's calls; what a closed run shows. -/
namespace Go.DD
theorem Bd0 (ds:List DV) (t:Nat):((argT ds).get t).getD .any=argF ds t:=by
 have key:∀ (ds:List DV) (i:Nat) (tr:Tr DV),(List.rec (motive:=fun _=>Nat→Tr DV→Tr DV) (fun _ t=>t) (fun d _ ih i t=>ih (i+1) (sP (pth i) (some d) t)) ds i tr:Tr DV).get t=if i≤t∧t < i+ds.length then ds[t - i]? else tr.get t:=by
  intro ds
  induction ds with
  | nil=>
   intro i tr
   rw [if_neg (by simp only [List.length_nil]; omega)]
  | cons d ds ih=>
   intro i tr
   show (List.rec (motive:=fun _=>Nat→Tr DV→Tr DV) (fun _ t=>t) (fun d _ ih i t=>ih (i+1) (sP (pth i) (some d) t)) ds (i+1) (sP (pth i) (some d) tr):Tr DV).get t=_
   rw [ih,Bm4]
   by_cases h1:i+1≤t∧t < i+1+ds.length
   ·rw [if_pos h1,if_pos (by simp; omega)]
    rw [show t - i=(t - (i+1))+1 by omega]
    simp
   ·rw [if_neg h1]
    by_cases h2:i=t
    ·subst h2
     rw [if_pos rfl,if_pos (by simp)]
     simp
    ·rw [if_neg h2,if_neg (by simp; omega)]
 have:=key ds 0 .e
 unfold argT argF
 rw [this]
 by_cases h:t < ds.length
 ·rw [if_pos (by omega)]; simp
 ·rw [if_neg (by omega),List.getElem?_eq_none (by omega)]
  cases t <;> rfl
theorem Bd1:∀ (ps:List Nat) (ds:List DV) (sl:Tr DV),(fun u=>((zipT ps ds sl).get u).getD .any)=zipF ps ds fun u=>(sl.get u).getD .any
 | [],ds,sl=>by cases ds <;> rfl
 | p :: ps,[],sl=>rfl
 | p :: ps,d :: ds,sl=>by
  have e:zipT (p :: ps) (d :: ds) sl=zipT ps ds (sP (pth p) (some d) sl):=rfl
  rw [e,Bd1 ps ds]
  simp only [zipF]
  congr 1
  funext u
  rw [Bm4]
  by_cases h:p=u
  ·simp [h]
  ·simp [h]
theorem Cm4 {k:Option Nat} {t:Nat} {es:ES} {d:DV} (h:xLp k (.t (pth t)) es=some d):resD es.ds (t,some k)=some d:=by
 unfold xLp at h
 rcases Am4 h with ⟨_,_,h⟩ | ⟨id,off,ha,h⟩
 ·cases h
 ·obtain ⟨T,cs,hr,h⟩:=Aw1 h
  have ha':es.ds.rv (.tmp t)=.pt id off:=by rw [← Ab5]; exact ha
  have ho:es.ds.ho id=some (.row T cs):=hr
  simp only [resD,ev_pt ha' (by rw [ho]; rfl),ho]
  rw [← Ae4,← An2]
  exact h
theorem Ce3 {es:ES} {q:Nat×Option (Option Nat)} {d:DV} (h:resE es q=some d):resD es.ds q=some d:=by
 obtain ⟨t,k⟩:=q
 cases k with
 | none=>
  have h':some (evE es (.t (pth t)))=some d:=h
  have e:evE es (.t (pth t))=es.ds.ev (.tmp t):=Am0 es (.tmp t)
  rw [e] at h'
  exact h'
 | some k=>exact Cm4 h
theorem Bn5 {es:ES} : ∀ {qs:List (Nat×Option (Option Nat))} {ds:List DV},qs.mapM (resE es)=some ds→qs.mapM (resD es.ds)=some ds
 | [],ds,h=>by simpa using h
 | q :: qs,ds,h=>by
  simp only [List.mapM_cons,Option.bind_eq_bind,Option.bind_eq_some_iff,Option.pure_def] at h ⊢
  obtain ⟨d,hd,dt,hdt,h⟩:=h
  exact ⟨d,Ce3 hd,dt,Bn5 hdt,h⟩
theorem Ce4 {es:ES} {qs:List (Nat×Option (Option Nat))} {d:DV} {hp:Tr DObj} {nx:Nat} (h:finE qs es=some (d,hp,nx)):resV es.ds qs=some d∧hp=es.hp∧nx=es.nx:=by
 unfold finE at h
 cases hm:qs.mapM (resE es) with
 | none=>rw [hm] at h; cases h
 | some ds=>
  rw [hm] at h
  have h2:=Bn5 hm
  unfold resV
  rw [h2]
  match ds,h with
  | [],h=>cases h; exact ⟨rfl,rfl,rfl⟩
  | [x],h=>cases h; exact ⟨rfl,rfl,rfl⟩
  | x :: y :: l,h=>cases h; exact ⟨rfl,rfl,rfl⟩
noncomputable def fnE (P:Program) (n:Nat) (fn:Func):Option FE:=match Ay4 P fn with
 | some df=>some ⟨runF n df.nt df.code,df.res,df.nt⟩
 | none=>none
def TbAt (P:Program) (n f:Nat) (fe:FE):Prop:=Ac7 P f=true∧∃ fn df,P.funcs[f]?=some fn∧Ay4 P fn=some df∧fe.run=runF n df.nt df.code∧fe.res=df.res∧fe.nt=df.nt
def TbOK (P:Program) (n:Nat) (tb:Nat→Option FE):Prop:=∀ f fe,tb f=some fe→TbAt P n f fe
theorem TbAt.of {P:Program} {n f:Nat} {fe:FE} {fn:Func} (h1:P.funcs[f]?=some fn) (h2:Ac7 P f=true) (h3:fnE P n fn=some fe):TbAt P n f fe:=by
 unfold fnE at h3
 split at h3
 ·rename_i df hd
  cases h3
  exact ⟨h2,fn,df,h1,hd,rfl,rfl,rfl⟩
 ·cases h3
noncomputable def tbP (P:Program) (n f:Nat):Option FE:=iteB (Ac7 P f) (Option.rec (motive:=fun _=>Option FE) none (fun fn=>fnE P n fn) (P.funcs[f]?)) none
theorem Bn6 (P:Program) (n:Nat):TbOK P n (tbP P n):=by
 intro f fe h
 obtain ⟨h1,h2⟩:=Ab8 h
 obtain ⟨fn,h3,h4⟩:=optR h2
 exact TbAt.of h3 h1 h4
theorem B37 (es:ES) (id:Nat) (o:Option DObj):(ES.mk es.sl (es.hp.set id o) es.nx).ds=es.ds.lay id o:=by
 rw [ds_eq,Tr.set_ho]; rfl
theorem B38 {es:ES} {id:Nat} {o:DObj} {x:DObj} (h:es.hp.get id=some x):Gw es.ds (ES.mk es.sl (es.hp.set id (some o)) es.nx).ds:=by
 rw [B37]
 refine ⟨Nat.le_refl _,fun j h1 h2=>?_⟩
 simp only [DS.lay,setH] at h2
 split at h2
 ·rename_i e
  have h1':es.hp.get j=none:=h1
  rw [e,h] at h1'; cases h1'
 ·exact absurd h1 h2
theorem At3 {P:Program} (hm:P.follows .mixedOrders=true) {tb:Nat→Option FE} {n' n:Nat} (htb:TbOK P n' tb) {call:CallT} (ih:Ad9 P call):Ad9 P (stepC tb n call):=by
  intro tg ds hp nx d hp' nx' h hfr
  cases tg with
  | fn f=>
   have h0:(match tb f with
    | some fe=>if ds.length≤fe.nt then match fe.run call ⟨argT ds,hp,nx⟩ with
      | some (.normal,es)=>finE fe.res es
      | some (.ret,es)=>finE fe.res es
      | _=>none
     else none
    | none=>none)=some (d,hp',nx'):=h
   split at h0
   rotate_left
   ·cases h0
   rename_i fe hfe
   obtain ⟨hcb,fn,df,hf,hcf,e1,e2,e3⟩:=htb f fe hfe
   split at h0
   rotate_left
   ·cases h0
   rename_i hlen
   rw [e1] at h0
   have hrun:∃ e es,runF n' df.nt df.code call ⟨argT ds,hp,nx⟩=some (e,es)∧(e=.normal∨e=.ret)∧finE fe.res es=some (d,hp',nx'):=by
    revert h0
    split
    ·rename_i es he; exact fun h0=>⟨_,es,he,.inl rfl,h0⟩
    ·rename_i es he; exact fun h0=>⟨_,es,he,.inr rfl,h0⟩
    ·intro h0; cases h0
   obtain ⟨e,es,hev,hee,hfin⟩:=hrun
   obtain ⟨hres,rfl,rfl⟩:=Ce4 hfin
   obtain ⟨g1,g2⟩:=Ce2 ih hm hev hfr
   refine ⟨g1.le,g1.new,hcb,fun sv K hK=>.inl ⟨fn,df,hf,hcf,by rw [← e3]; exact hlen,fun S G w0 X M Y R=>?_⟩⟩
   have hst:(ES.mk (argT ds) hp nx).ds=⟨argF ds,hp.get,nx⟩:=by
    rw [ds_eq]
    congr 1
    funext t
    exact Bd0 ds t
   have:=g2 ⟨P,S,G,w0,df.nt,X,M,none,Y,R⟩ (fun e s'=>(e=.normal∨e=.ret)∧∃ d,resV s' df.res=some d∧K ⟨sv,s'.ho,s'.nx⟩ d) rfl rfl rfl (fun e' he'=>⟨by rcases he' with rfl | h | h; exact hee; exact .inl h; exact .inr h,d,by rw [← e2]; exact hres,hK⟩)
   rw [hst] at this
   exact this
  | yl id=>
   have h0:(match hp.get id with
   | some (.loop lp)=>match lp.st,lp.sl with
    | .ready,.t sl=>if ds.length=lp.ps.length∧lp.ps.all (fun t=>Nat.blt t lp.nt)=true then
      match evalE n lp.nt true lp.asg call ⟨zipT lp.ps ds sl,hp,nx⟩ with
      | some (.normal,es1)=>match es1.hp.get id with
       | some (.loop lp1)=>match lp1.st with
        | .ready=>match evalE n lp.nt true lp.body call { es1 with hp:=es1.hp.set id (some (.loop { lp1 with st:=.busy })) } with
         | some (e,es2)=>match es2.hp.get id with
          | some (.loop lp2)=>match e with
           | .normal=>some (.v (.bool true),es2.hp.set id (some (.loop { lp2 with st:=.ready,pend:=none })),es2.nx)
           | .ret=>some (.v (.bool false),es2.hp.set id (some (.loop { lp2 with st:=.done,pend:=some .ret })),es2.nx)
           | .exit i=>some (.v (.bool false),es2.hp.set id (some (.loop { lp2 with st:=.done,pend:=some (.exit i) })),es2.nx)
           | _=>none
          | _=>none
         | none=>none
        | _=>none
       | _=>none
      | _=>none
     else none
    | _,_=>none
   | _=>none)=some (d,hp',nx'):=h
   split at h0
   rotate_left
   ·cases h0
   rename_i lp hlp
   split at h0
   rotate_left
   ·cases h0
   rename_i sl hst hsl
   split at h0
   rotate_left
   ·cases h0
   rename_i hlen
   obtain ⟨hlen,hps⟩:=hlen
   split at h0
   rotate_left
   ·cases h0
   rename_i es1 hev1
   split at h0
   rotate_left
   ·cases h0
   rename_i lp1 hlp1
   split at h0
   rotate_left
   ·cases h0
   rename_i hst1
   split at h0
   rotate_left
   ·cases h0
   rename_i e es2 hev2
   split at h0
   rotate_left
   ·cases h0
   rename_i lp2 hlp2
   obtain ⟨g1,k1⟩:=A20 ih hm lp.asg _ _ _ hev1 hfr
   have hfr0:(ES.mk (zipT lp.ps ds sl) hp nx).ds.Fr:=hfr
   have hfr1:es1.ds.Fr:=Gw.fr hfr0 g1
   have gs1:=B38 (o:=.loop { lp1 with st:=.busy }) hlp1
   obtain ⟨g2,k2⟩:=A20 ih hm lp.body _ _ _ hev2 (Gw.fr hfr1 gs1)
   have hz:(ES.mk (zipT lp.ps ds sl) hp nx).ds=⟨zipF lp.ps ds lp.sl.get,hp.get,nx⟩:=by
    rw [ds_eq,hsl]
    congr 1
    exact Bd1 lp.ps ds sl
   have hall:∀ t∈lp.ps,t < lp.nt:=fun t ht=>by
    have:=List.all_eq_true.1 hps t ht
    simpa [Nat.blt_eq] using this
   have gwAll:∀ o,Gw (ES.mk (zipT lp.ps ds sl) hp nx).ds (ES.mk es2.sl (es2.hp.set id (some o)) es2.nx).ds:=fun o=>((g1.trans gs1).trans g2).trans (B38 hlp2)
   have fin:∀ (o:DObj) (b:Bool),(d=.v (.bool b)∧hp'=es2.hp.set id (some o)∧nx'=es2.nx)→
     (∀ (sv:Nat→DV) (K:DS→DV→Prop),K ⟨sv,hp'.get,nx'⟩ d→(fun (e:Exit) (s2:DS)=>∃ lp2,s2.ho id=some (.loop lp2)∧match e with
      | .normal=>K ⟨sv,setH s2.ho id (some (.loop { lp2 with st:=.ready,pend:=none })),s2.nx⟩ (.v (.bool true))
      | .ret=>K ⟨sv,setH s2.ho id (some (.loop { lp2 with st:=.done,pend:=some .ret })),s2.nx⟩ (.v (.bool false))
      | .exit i=>K ⟨sv,setH s2.ho id (some (.loop { lp2 with st:=.done,pend:=some (.exit i) })),s2.nx⟩ (.v (.bool false))
      | _=>False) e es2.ds)→
     nx≤nx'∧(∀ id,hp.get id=none→hp'.get id≠none→nx≤id∧id < nx')∧∀ (sv:Nat→DV) (K:DS→DV→Prop),K ⟨sv,hp'.get,nx'⟩ d→A42 P id ds ⟨sv,hp.get,nx⟩ K:=fun o b ⟨q1,q2,q3⟩ hfin=>by
    have gw:=gwAll o
    subst q2 q3
    refine ⟨gw.le,gw.new,fun sv K hK=>⟨lp,hlp,hst,hlen,hall,fun S G w0 X M Y R l=>?_⟩⟩
    rw [← hz]
    refine k1 _ _ rfl rfl (fun h=>by cases h) ⟨rfl,lp1,hlp1,hst1,?_⟩
    rw [← B37]
    exact k2 _ _ rfl rfl (fun h=>by cases h) (hfin sv K hK)
   split at h0
   ·cases h0
    refine fin _ true ⟨rfl,rfl,rfl⟩ fun sv K hK=>⟨lp2,hlp2,?_⟩
    rw [Tr.set_ho] at hK
    exact hK
   ·cases h0
    refine fin _ false ⟨rfl,rfl,rfl⟩ fun sv K hK=>⟨lp2,hlp2,?_⟩
    rw [Tr.set_ho] at hK
    exact hK
   ·cases h0
    refine fin _ false ⟨rfl,rfl,rfl⟩ fun sv K hK=>⟨lp2,hlp2,?_⟩
    rw [Tr.set_ho] at hK
    exact hK
   ·cases h0
theorem Bd2 {P:Program} (hm:P.follows .mixedOrders=true) {tb:Nat→Option FE} {n' n:Nat} (htb:TbOK P n' tb):∀ k,Ad9 P (callE tb n k)
 | 0=>fun tg ds hp nx d hp' nx' h=>by cases h
 | k+1=>At3 hm htb (Bd2 hm htb k)
abbrev Memo:Type:=Tr (List (List DV×DV))
noncomputable def lkD (l:List (List DV×DV)) (ds:List DV):Option DV:=List.rec (motive:=fun _=>Option DV) none (fun e _ ih=>Bool.rec (motive:=fun _=>Option DV) ih (some e.2) (sameL (Ab1 8) e.1 ds)) l
noncomputable def memoC (mm:Memo) (call:CallT):CallT:=fun tg ds hp nx=>match tg with
 | .fn f=>Option.rec (motive:=fun _=>Option (DV×Tr DObj×Nat)) (call (.fn f) ds hp nx) (fun l=>Option.rec (motive:=fun _=>Option (DV×Tr DObj×Nat)) (call (.fn f) ds hp nx) (fun d=>some (d,hp,nx)) (lkD l ds)) (gN mm f)
 | .yl id=>call (.yl id) ds hp nx
noncomputable def callR (tb:Nat→Option FE) (mm:Memo) (n:Nat):Nat→CallT
 | 0=>fun _ _ _ _=>none
 | k+1=>stepC tb n (memoC mm (callR tb mm n k))
def Known (P:Program) (f:Nat) (ds:List DV) (d:DV):Prop:=Ac7 P f=true∧(∀ x∈ds,x.refs=[])∧DCall P f ds fun d'=>d'=d
def MemoOK (P:Program) (mm:Memo):Prop:=∀ f l,mm.get f=some l→∀ e∈l,Known P f e.1 e.2
theorem Bd3 {ds:List DV} {d:DV} : ∀ {l:List (List DV×DV)},lkD l ds=some d→(ds,d)∈l
 | [],h=>by cases h
 | e :: l,h=>by
  have h':Bool.rec (motive:=fun _=>Option DV) (lkD l ds) (some e.2) (sameL (Ab1 8) e.1 ds)=some d:=h
  cases hs:sameL (Ab1 8) e.1 ds with
  | true=>
   rw [hs] at h'
   cases h'
   have:=An3 (Ak0 8) hs
   obtain ⟨a,b⟩:=e
   simp only at this
   subst this
   simp
  | false=>
   rw [hs] at h'
   exact List.mem_cons_of_mem _ (Bd3 h')
theorem By8 {P:Program} {mm:Memo} (hmm:MemoOK P mm) {call:CallT} (hc:Ad9 P call):Ad9 P (memoC mm call):=by
 intro tg ds hp nx d hp' nx' h hfr
 cases tg with
 | yl id=>exact hc (.yl id) ds hp nx d hp' nx' h hfr
 | fn f=>
  have h0:Option.rec (motive:=fun _=>Option (DV×Tr DObj×Nat)) (call (.fn f) ds hp nx) (fun l=>Option.rec (motive:=fun _=>Option (DV×Tr DObj×Nat)) (call (.fn f) ds hp nx) (fun d=>some (d,hp,nx)) (lkD l ds)) (gN mm f)=some (d,hp',nx'):=h
  cases hg:gN mm f with
  | none=>rw [hg] at h0; exact hc (.fn f) ds hp nx d hp' nx' h0 hfr
  | some l=>
   rw [hg] at h0
   cases hl:lkD l ds with
   | none=>
    have h1:Option.rec (motive:=fun _=>Option (DV×Tr DObj×Nat)) (call (.fn f) ds hp nx) (fun d=>some (d,hp,nx)) (lkD l ds)=some (d,hp',nx'):=h0
    rw [hl] at h1
    exact hc (.fn f) ds hp nx d hp' nx' h1 hfr
   | some d0=>
    have h1:Option.rec (motive:=fun _=>Option (DV×Tr DObj×Nat)) (call (.fn f) ds hp nx) (fun d=>some (d,hp,nx)) (lkD l ds)=some (d,hp',nx'):=h0
    rw [hl] at h1
    cases h1
    rw [gN_eq] at hg
    obtain ⟨k1,k2,k3⟩:=hmm f l hg _ (Bd3 hl)
    exact ⟨Nat.le_refl _,fun id h2 h3=>absurd h2 h3,k1,fun sv K hK=>.inr ⟨_,k2,k3,hK⟩⟩
theorem Bd4 {P:Program} (hm:P.follows .mixedOrders=true) {tb:Nat→Option FE} {n' n:Nat} (htb:TbOK P n' tb) {mm:Memo} (hmm:MemoOK P mm):∀ k,Ad9 P (callR tb mm n k)
 | 0=>fun tg ds hp nx d hp' nx' h=>by cases h
 | k+1=>At3 hm htb (By8 hmm (Bd4 hm htb hmm k))
theorem MemoOK.nil (P:Program):MemoOK P .e:=fun f l h=>by cases f <;> cases h
theorem A82:∀ (n:Nat) (d r:DV),rz (fun _=>none) n d=some r→r=d
 | 0,d,r,h=>by
  simp only [rz] at h
  split at h
  ·cases h; rfl
  ·cases h
 | n+1,d,r,h=>by
  have hl:∀ cs l,rzL (rz (fun _=>none) n) cs=some l→l=cs:=fun cs l hz=>by
   obtain ⟨h1,h2⟩:=As4 hz
   apply List.ext_getElem?
   intro j
   by_cases hj:j < cs.length
   ·have e1:=List.getElem?_eq_getElem hj
    have e2:=List.getElem?_eq_getElem (l:=l) (i:=j) (by omega)
    rcases h2 j _ _ e1 e2 with ⟨_,h3⟩ | h3
    ·rw [e1,e2,h3]
    ·rw [e1,e2,A82 n _ _ h3]
   ·rw [List.getElem?_eq_none (by omega),List.getElem?_eq_none (by omega)]
  cases d with
  | agg cs=>obtain ⟨l,hz,rfl⟩:=Option.map_eq_some_iff.1 h; rw [hl cs l hz]
  | tup cs=>obtain ⟨l,hz,rfl⟩:=Option.map_eq_some_iff.1 h; rw [hl cs l hz]
  | fn f cs=>obtain ⟨l,hz,rfl⟩:=Option.map_eq_some_iff.1 h; rw [hl cs l hz]
  | ifc T d=>obtain ⟨e,hz,rfl⟩:=Option.map_eq_some_iff.1 h; rw [A82 n _ _ hz]
  | ms id off k es=>simp [rz] at h
  | pt id off=>simp [rz] at h
  | mp id=>simp [rz] at h
  | yl id=>simp [rz] at h
  | any=>simp [rz] at h; exact h.symm
  | v x=>simp [rz] at h; exact h.symm
  | sl cs k=>simp [rz] at h; exact h.symm
  | ia cs=>simp [rz] at h; exact h.symm
theorem DCall.of_callC {P:Program} {f:FuncId} {args:List DV} {R:DV→Prop} {sv:Nat→DV} (h:callC P f args ⟨sv,fun _=>none,0⟩ fun s d=>∃ r,rz s.ho 6 d=some r∧R r):DCall P f args R:=by
 rcases h with h | ⟨d,h1,h2,r,h3,h4⟩
 ·exact DCall.of_callI h
 ·have hd:r=d:=A82 6 _ _ h3
  subst hd
  exact h2.mono fun d hd=>by rw [hd]; exact h4
noncomputable def flatB (ds:List DV):Bool:=ds.all fun d=>(refsE d).isEmpty
noncomputable def retE (x:Option (DV×Tr DObj×Nat)) (d:DV):Bool:=match x with
 | some (d',hp,_)=>match rz hp.get 6 d' with
  | some r=>Ab1 12 r d
  | none=>false
 | none=>false
theorem A56 {P:Program} (hm:P.follows .mixedOrders=true) {tb:Nat→Option FE} {n' n k f:Nat} (htb:TbOK P n' tb) {mm:Memo} (hmm:MemoOK P mm) {ds:List DV} {d:DV} (hf:flatB ds=true) (h:retE (callR tb mm n k (.fn f) ds .e 0) d=true):Known P f ds d:=by
 unfold retE at h
 split at h
 rotate_left
 ·cases h
 rename_i d' hp nx hr
 split at h
 rotate_left
 ·cases h
 rename_i r hrz
 have hd:=Ak0 _ _ _ h
 subst hd
 obtain ⟨_,_,hcb,hI⟩:=Bd4 hm htb hmm k _ _ _ _ _ _ _ hr (fun id _=>by cases id <;> rfl)
 refine ⟨hcb,fun x hx=>?_,DCall.of_callC (sv:=fun _=>.any) ?_⟩
 ·have:=List.all_eq_true.1 hf x hx
  rw [Ak7] at this
  simpa using this
 ·have:=hI (fun _=>.any) (fun s d=>∃ r',rz s.ho 6 d=some r'∧r'=r) ⟨r,hrz,rfl⟩
  have e:(Tr.e:Tr DObj).get=fun _=>none:=by funext id; cases id <;> rfl
  rw [e] at this
  exact this
theorem Bd5 {P:Program} (hm:P.follows .mixedOrders=true) {tb:Nat→Option FE} {n' n k f:Nat} (htb:TbOK P n' tb) (h:okBE (callE tb n k (.fn f) [] .e 0)=true):Ac7 P f=true∧DCall P f [] fun d=>d=.v (.bool true):=by
 unfold okBE at h
 split at h
 rotate_left
 ·cases h
 rename_i b hp nx hr
 subst h
 obtain ⟨_,_,hcb,hI⟩:=Bd2 hm htb k _ _ _ _ _ _ _ hr (fun id _=>by cases id <;> rfl)
 refine ⟨hcb,DCall.of_callC (sv:=fun _=>.any) ?_⟩
 have:=hI (fun _=>.any) (fun s d=>∃ r,rz s.ho 6 d=some r∧r=.v (.bool true)) ⟨.v (.bool true),rfl,rfl⟩
 have e:(Tr.e:Tr DObj).get=fun _=>none:=by funext id; cases id <;> rfl
 rw [e] at this
 exact this
end Go.DD
