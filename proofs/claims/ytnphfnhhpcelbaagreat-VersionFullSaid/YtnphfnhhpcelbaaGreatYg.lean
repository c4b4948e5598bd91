/- A part. -/
import Derived.Test.YtnphfnhhpcelbaaGreatYf
set_option linter.unusedSectionVars false
set_option linter.unusedVariables false
namespace Go.DD
open Go
structure Rep (α:Type) where
 e:Nat
 T:Nat
 dep:Nat
 rd:Tr DObj->(Nat->Prop)->List DV->α->Prop
 cells:α->List DV
 e0:0<e
 d6:dep<=6
 len:∀ {hp p ds x},rd hp p ds x->ds.length=e
 keep:∀ {hp Ao p ds x},rd hp p ds x->(∀ j,p j->Ao.get j=hp.get j)->rd Ao p ds x
 mono:∀ {hp p q ds x},rd hp p ds x->(∀ j,p j->q j)->rd hp q ds x
 refs:∀ {hp p ds x},rd hp p ds x->∀ id∈DV.refsL ds,p id/\(hp.get id).isSome=true
 pure:∀ hp p x,rd hp p (cells x) x
 ok:∀ {hp p ds x},rd hp p ds x->∀ c∈ds,c.okC=true/\c.cells=[c]
 same:∀ {hp p ds x},rd hp p ds x->∀ c∈ds,∀ n,dep<=n->Oz n c c=true
 samec:∀ x,∀ c∈cells x,∀ n,dep<=n->Oz n c c=true
section
variable {α:Type} {R:Rep α} {hp Ao:Tr DObj} {p q:Nat->Prop} {d:DV} {l m:List α}
def Rows(R:Rep α)(hp:Tr DObj)(p:Nat->Prop):List DV->List α->Prop
 | ds,[]=>ds=[]
 | ds,x::l=>∃ a b,ds=a++b/\R.rd hp p a x/\Rows R hp p b l
theorem Rows.len:∀ {l:List α} {ds:List DV},Rows R hp p ds l->ds.length=l.length*R.e
 | [],ds,h=>by cases h;simp
 | x::l,ds,⟨a,b,e,h1,h2⟩=>by rw [e,Ap,R.len h1,Rows.len h2,Ec,Dz,Qm,Rm]
theorem Rows.keep:∀ {l:List α} {ds:List DV},Rows R hp p ds l->(∀ j,p j->Ao.get j=hp.get j)->Rows R Ao p ds l
 | [],_,h,_=>h
 | _::_,_,⟨a,b,e,h1,h2⟩,hk=>⟨a,b,e,R.keep h1 hk,h2.keep hk⟩
theorem Rows.mono:∀ {l:List α} {ds:List DV},Rows R hp p ds l->(∀ j,p j->q j)->Rows R hp q ds l
 | [],_,h,_=>h
 | _::_,_,⟨a,b,e,h1,h2⟩,hk=>⟨a,b,e,R.mono h1 hk,h2.mono hk⟩
theorem Ba3:∀ (a b:List DV),DV.refsL (a++b)=DV.refsL a++DV.refsL b
 | [],b=>rfl
 | c::a,b=>by simp only [Ll,DV.refsL,Ba3 a b,Bu]
theorem Rows.pure(hp:Tr DObj)(p:Nat->Prop):∀ l:List α,Rows R hp p (l.flatMap R.cells) l
 | []=>rfl
 | x::l=>⟨R.cells x,l.flatMap R.cells,rfl,R.pure hp p x,Rows.pure hp p l⟩
theorem Rows.app:∀ {l m:List α} {a b:List DV},Rows R hp p a l->Rows R hp p b m->Rows R hp p (a++b) (l++m)
 | [],_,_,_,h,h2=>by cases h;exact h2
 | _::_,_,_,b,⟨a1,b1,e,h1,h3⟩,h2=>⟨a1,b1++b,by rw [e,Bu],h1,h3.app h2⟩
theorem Rows.one{ds:List DV}{x:α}(h:R.rd hp p ds x):Rows R hp p ds [x]:=⟨ds,[],by simp,h,rfl⟩
theorem Rows.drop:∀ {l:List α} {ds:List DV} (i:Nat),Rows R hp p ds l->Rows R hp p (ds.drop (i*R.e)) (l.drop i)
 | [],ds,i,h=>by cases h;simp [Rows]
 | _::_,_,0,h=>by simpa using h
 | _::l,_,i+1,⟨a,b,e,h1,h2⟩=>by
  subst e
  rw [List.drop_succ_cons,List.drop_append,R.len h1,Xk (by rw [R.len h1,Dz];omega),Dz,Qm,So,Bv]
  exact h2.drop i
theorem Rows.take:∀ {l:List α} {ds:List DV} (i:Nat),Rows R hp p ds l->Rows R hp p (ds.take (i*R.e)) (l.take i)
 | [],ds,i,h=>by cases h;simp [Rows]
 | _::_,_,0,h=>by simp [Rows]
 | _::l,_,i+1,⟨a,b,e,h1,h2⟩=>by
  subst e
  rw [List.take_succ_cons,List.take_append,R.len h1,Cc (by rw [R.len h1,Dz];omega),Dz,Qm,So]
  exact ⟨a,_,rfl,h1,h2.take i⟩
theorem Rows.at{ds:List DV}(h:Rows R hp p ds l){i:Nat}(hi:i<l.length):∃ rest,ds.drop (i*R.e)=((ds.drop (i*R.e)).take R.e)++rest/\R.rd hp p ((ds.drop (i*R.e)).take R.e) l[i]:=by
 have h1:=h.drop i
 rw [Bb hi] at h1
 obtain ⟨a,b,e,h2,h3⟩:=h1
 have e2:(ds.drop (i*R.e)).take R.e=a:=by rw [e,List.take_left' (R.len h2)]
 exact ⟨b,by rw [e2,e],by rw [e2];exact h2⟩
theorem Rows.same:∀ {l:List α} {ds:List DV},Rows R hp p ds l->∀ c∈ds,∀ n,R.dep<=n->Oz n c c=true
 | [],_,h,c,hc=>by cases h;cases hc
 | _::_,_,⟨a,b,e,h1,h2⟩,c,hc=>by
  subst e
  rcases Aw.1 hc with hc | hc
  .exact R.same h1 c hc
  .exact h2.same c hc
inductive RL (R:Rep α) (hp:Tr DObj) (p:Nat->Prop):DV->List α->Prop where
 | nil:RL R hp p Cl []
 | sl (l:List α):RL R hp p (.sl (l.flatMap R.cells) l.length) l
 | ms (id off:Nat) (fl:List DV) (l:List α) (h:hp.get id=some (.row R.T fl)) (hid:p id) (hl:off+l.length*R.e<=fl.length) (hr:Rows R hp p ((fl.drop off).take (l.length*R.e)) l) (hs:∀ c∈fl,Oz 6 c c=true):RL R hp p (.ms id off l.length R.e) l
inductive OL (R:Rep α) (hp:Tr DObj) (p:Nat->Prop):DV->List α->Prop where
 | nil:OL R hp p Cl []
 | ms (id:Nat) (fl:List DV) (l:List α) (h:hp.get id=some (.row R.T fl)) (hr:Rows R hp p fl l):OL R hp p (.ms id 0 l.length R.e) l
theorem RL.keep(h:RL R hp p d l)(hk:∀ j,p j->Ao.get j=hp.get j):RL R Ao p d l:=by
 cases h with
 | nil=>exact .nil
 | sl=>exact .sl _
 | ms id off fl l h hid hl hr hs=>exact .ms id off fl l ((hk id hid).trans h) hid hl (hr.keep hk) hs
theorem RL.mono(h:RL R hp p d l)(hk:∀ j,p j->q j):RL R hp q d l:=by
 cases h with
 | nil=>exact .nil
 | sl=>exact .sl _
 | ms id off fl l h hid hl hr hs=>exact .ms id off fl l h (hk id hid) hl (hr.mono hk) hs
theorem RL.refs(h:RL R hp p d l):∀ id∈d.refs,p id/\(hp.get id).isSome=true:=by
 cases h with
 | nil=>intro id h;cases h
 | sl=>intro id h;cases h
 | ms id off fl l h hid hl hr hs=>
  intro j hj
  have:j=id:=by simpa [DV.refs] using hj
  rw [this,h];exact ⟨hid,rfl⟩
theorem RL.live(h:RL R hp p d l):Cd hp d=d:=Wc λid hid=>(h.refs id hid).2
theorem RL.ok(h:RL R hp p d l):d.okC=true/\d.cells=[d]:=by cases h <;> exact ⟨rfl,rfl⟩
theorem RL.len(h:RL R hp p d l):Qo hp d=some (.v (.int .i64 (l.length:Int))):=by
 cases h with
 | nil=>rfl
 | sl=>rfl
 | ms id off fl l h hid hl hr hs=>
  show (if mL hp id=true then _ else none)=_
  rw [Af (by unfold mL;rw [h];rfl)]
theorem RL.ia(h:RL R hp p d l){i:Nat}(hi:i<l.length):Rr hp R.e d (.v (.int .i64 (i:Int)))=some (Ca R.e d i):=by
 cases h with
 | nil=>simp at hi
 | sl=>
  show (if 0<=(i:Int)/\(i:Int)<(l.length:Int) then some (DV.ia ((l.flatMap R.cells).drop ((i:Int).toNat*R.e))) else none)=_
  rw [Af ⟨by omega,by omega⟩];rfl
 | ms id off fl l h hid hl hr hs=>
  show (if mL hp id=true/\0<=(i:Int)/\(i:Int)<(l.length:Int) then some (DV.pt id (off+(i:Int).toNat*R.e)) else none)=_
  rw [Af ⟨by unfold mL;rw [h];rfl,by omega,by omega⟩];rfl
theorem RL.fa(h:RL R hp p d l){i k:Nat}(hi:i<l.length):On hp k (Ca R.e d i)=some (Gi (Ca R.e d i) k):=by
 cases h with
 | nil=>simp at hi
 | sl=>exact O8 hp k _
 | ms id off fl l h hid hl hr hs=>exact Qq h
theorem RL.at(h:RL R hp p d l){i:Nat}(hi:i<l.length):∃ ds,R.rd hp p ds l[i]/\Gl hp (some R.e) (Ca R.e d i)=some (.agg ds)/\(∀ x,ds[0]?=some x->Gl hp none (Ca R.e d i)=some x)/\∀ k x,ds[k]?=some x->Gl hp none (Gi (Ca R.e d i) k)=some x:=by
 have key:∀ (cs:List DV) (a:DV),(∀ k,Gl hp k a=Iu k cs)->(∀ k j,Gl hp k (Gi a j)=Iu k (cs.drop j))->(∃ rest,cs=cs.take R.e++rest)->R.rd hp p (cs.take R.e) l[i]->∃ ds,R.rd hp p ds l[i]/\Gl hp (some R.e) a=some (.agg ds)/\(∀ x,ds[0]?=some x->Gl hp none a=some x)/\∀ k x,ds[k]?=some x->Gl hp none (Gi a k)=some x:=by
  intro cs a h1 h2 ⟨rest,h3⟩ h4
  have hl:=R.len h4
  refine ⟨cs.take R.e,h4,?_,λx hx=>?_,λk x hx=>?_⟩
  .rw [h1]
   show (if R.e<=cs.length then some (DV.agg (cs.take R.e)) else none)=_
   rw [Af (by rw [Bs] at hl;omega)]
  .rw [h1]
   have:=wo (cs:=cs) (i:=0) (d:=x) (by rw [h3,Cz (by rw [hl];exact R.e0)];exact hx)
   rwa [Lc] at this
  .rw [h2]
   have hk:k<(cs.take R.e).length:=(As.1 hx).1
   exact wo (by rw [h3,Cz hk];exact hx)
 cases h with
 | nil=>simp at hi
 | sl=>
  obtain ⟨rest,h1,h2⟩:=(Rows.pure (R:=R) hp p l).at hi
  exact key _ (.ia ((l.flatMap R.cells).drop (i*R.e))) (λ_=>rfl) (λ_ _=>rfl) ⟨rest,h1⟩ h2
 | ms id off fl l h hid hl hr hs=>
  obtain ⟨rest,h1,h2⟩:=hr.at hi
  have hle:i*R.e+R.e<=l.length*R.e:=by
   have:=Cu R.e hi
   rw [Nat.succ_mul] at this;exact this
  have e1:(((fl.drop off).take (l.length*R.e)).drop (i*R.e)).take R.e=(fl.drop (off+i*R.e)).take R.e:=by
   rw [List.drop_take,List.drop_drop,List.take_take]
   congr 1;omega
  rw [e1] at h1 h2
  refine key (fl.drop (off+i*R.e)) (.pt id (off+i*R.e)) (λk=>Ro h) (λk j=>?_) ⟨_,(List.take_append_drop R.e _).symm⟩ h2
  show Gl hp k (.pt id (off+i*R.e+j))=_
  rw [Ro h,<- List.drop_drop]
theorem RL.srcD{es:ES}(h:RL R es.hp p d l):∃ ds,Go.DD.srcD es.ds R.T R.e d=some (ds,l.length)/\Rows R es.hp p ds l:=by
 cases h with
 | nil=>exact ⟨[],rfl,rfl⟩
 | sl=>exact ⟨_,rfl,Rows.pure _ _ l⟩
 | ms id off fl l h hid hl hr hs=>
  refine ⟨_,?_,hr⟩
  show (match es.hp.get id with
  | some (.row T' cs)=>if T'=R.T/\R.e=R.e/\off+l.length*R.e<=cs.length then some ((cs.drop off).take (l.length*R.e),l.length) else none
  | _=>none)=_
  rw [h]
  simp only []
  rw [Af ⟨trivial,trivial,hl⟩]
theorem SL{es:ES}{id:Nat}{ds:List DV}{x:α}(h:es.hp.get id=some (.row R.T ds))(hr:R.rd es.hp p ds x):Go.DD.srcD es.ds R.T R.e (.ms id 0 1 R.e)=some (ds,[x].length):=by
 have hl:=R.len hr
 show (match es.hp.get id with
  | some (.row T' cs)=>if T'=R.T/\R.e=R.e/\0+1*R.e<=cs.length then some ((cs.drop 0).take (1*R.e),1) else none
  | _=>none)=_
 rw [h]
 simp only []
 rw [Af ⟨trivial,trivial,by omega⟩,Lc,Qm,Cc (by omega)];rfl
theorem NB{es:ES}{id:Nat}{ds:List DV}{x:α}(h:es.hp.get id=some (.row R.T ds))(hr:R.rd es.hp p ds x):∃ fP,Go.DD.srcD es.ds R.T R.e (.ms id 0 1 R.e)=some (fP,[x].length)/\Rows R es.hp p fP [x]:=⟨ds,SL h hr,Rows.one hr⟩
theorem uS(e:Nat)(d:DV)(i:Nat):∀ id∈(Ca e d i).refs,id∈d.refs:=by
 cases d with
 | ms id off n e=>intro j hj;exact hj
 | _=>intro j hj;cases hj
theorem Bl2(d:DV)(k:Nat):∀ id∈(Gi d k).refs,id∈d.refs:=by
 cases d with
 | pt id off=>intro j hj;exact hj
 | _=>intro j hj;cases hj
theorem RL.ro{n0 m:Nat}{an:List Nat}(h:RL R hp p d l)(ho:∀ j,p j->j<n0):Ii d (λid=>Cs n0 m an hp id):=λid hid=>(sC hp id).2 ⟨(h.refs id hid).2,.inl (ho id (h.refs id hid).1)⟩
theorem RL.roa{n0 m i:Nat}{an:List Nat}(h:RL R hp p d l)(ho:∀ j,p j->j<n0):Ii (Ca R.e d i) (λid=>Cs n0 m an hp id):=λid hid=>h.ro ho id (uS R.e d i id hid)
theorem RL.rof{n0 m i k:Nat}{an:List Nat}(h:RL R hp p d l)(ho:∀ j,p j->j<n0):Ii (Gi (Ca R.e d i) k) (λid=>Cs n0 m an hp id):=λid hid=>h.ro ho id (uS R.e d i id (Bl2 _ k id hid))
theorem RL.same(h:RL R hp p d l){n:Nat}(hn:R.dep+1<=n):Oz n d d=true:=by
 obtain ⟨n,rfl⟩:∃ k,n=k+1:=⟨n-1,by omega⟩
 cases h with
 | nil=>simp [Oz,Qy,Cl]
 | sl=>
  show (l.length==l.length&&Jo (Oz n) (l.flatMap R.cells) (l.flatMap R.cells))=true
  rw [vr λc hc=>by obtain ⟨x,_,hx⟩:=Pt.1 hc;exact R.samec x c hx n (by omega)]
  simp
 | ms id off fl l h hid hl hr hs=>simp [Oz]
theorem OL.rl(h:OL R hp p d l):RL R hp (λj=>p j\/j∈d.refs) d l:=by
 cases h with
 | nil=>exact .nil
 | ms id fl l h hr=>
  have:=hr.len
  exact .ms id 0 fl l h (.inr (by simp [DV.refs])) (by omega) (by rw [Lc,Cc (by omega)];exact hr.mono λ_ h=>.inl h) λc hc=>hr.same c hc 6 R.d6
theorem OL.keep(h:OL R hp p d l)(hk:∀ j,p j\/j∈d.refs->Ao.get j=hp.get j):OL R Ao p d l:=by
 cases h with
 | nil=>exact .nil
 | ms id fl l h hr=>exact .ms id fl l ((hk id (.inr (by simp [DV.refs]))).trans h) (hr.keep λj hj=>hk j (.inl hj))
theorem OL.mono(h:OL R hp p d l)(hk:∀ j,p j->q j):OL R hp q d l:=by
 cases h with
 | nil=>exact .nil
 | ms id fl l h hr=>exact .ms id fl l h (hr.mono hk)
theorem OL.dstD{es:ES}(h:OL R es.hp p d l):∃ o fl,Go.DD.dstD es.ds R.T R.e d=some (o,fl,l.length)/\Rows R es.hp p fl l/\(∀ id,o=some id->id∈d.refs)/\Cd es.hp d=d/\(fl=[]\/∃ id,d=.ms id 0 l.length R.e/\es.hp.get id=some (.row R.T fl)):=by
 cases h with
 | nil=>exact ⟨none,[],rfl,rfl,(λ_ h=>by cases h),fI rfl,.inl rfl⟩
 | ms id fl l h hr=>
  refine ⟨some id,fl,?_,hr,λ_ h=>by cases h;simp [DV.refs],Rl h,.inr ⟨id,rfl,h⟩⟩
  show (match es.hp.get id with
  | some (.row T' cs)=>if T'=R.T/\R.e=R.e/\cs.length=l.length*R.e then some (some id,cs,l.length) else none
  | _=>none)=_
  rw [h]
  simp only []
  rw [Af ⟨trivial,trivial,hr.len⟩]
end
section
variable {α:Type} {R:Rep α} {call:Bg} {es:ES} {dst:Option Pa} {q:Hold (ES->Prop)} {p p2:Nat->Prop}
theorem Bl3{b t:Nat}{u:Operand}{T e:Nat}{d d2:DV}{ds:List DV}{l m:List α}(e1:Ae es (.t (Cm t))=d)(hd:OL R es.hp p d l)(e2:es.ds.ev u=d2)(hs:Go.DD.srcD es.ds R.T R.e d2=some (ds,m.length))(T4:Rows R es.hp p2 ds m)(hT:T=R.T)(he:e=R.e)(hl:l.length+m.length<=2147483648)(hb:b<=65536)
  (h:∀ Ao,(∀ j,j≠es.nx->j∉d.refs->Ao.get j=es.hp.get j)->(∀ p',(∀ j,p j\/p2 j->p' j/\j≠es.nx/\j∉d.refs)->OL R Ao p' (.ms es.nx 0 (l++m).length R.e) (l++m))->(∀ Q:DV->Prop,(∀ id fl,d=.ms id 0 l.length R.e->es.hp.get id=some (.row R.T fl)->∀ c∈fl,Q c)->(∀ c∈ds,Q c)->∃ fl,Ao.get es.nx=some (.row R.T fl)/\∀ c∈fl,Q c)->q.val ((ES.mk es.sl Ao (es.nx+1)).putE dst (.ms es.nx 0 (l++m).length R.e))) :
  Nr (sU dst (Bd (.app T e b (.tmp t) u))) call es:=by
 subst hT he
 obtain ⟨o,fl,ho,Hw,hor,bK,rI⟩:=hd.dstD
 show SW _ _ _ _
 rw [sw_u,Fi]
 refine ⟨.ms es.nx 0 (l.length+m.length) R.e,.mv o (.row R.T (fl++ds)),?_,?_⟩
 .have f1:es.ds.ev (.tmp t)=d:=by rw [lQ,e1,bK]
  simp only [Ay,f1,e2,ho,hs]
  rw [Af ⟨T4.len,R.e0,hl,hb⟩]
 .have hg:(es.up (.mv o (.row R.T (fl++ds)))).hp.get es.nx=some (.row R.T (fl++ds)):=by
   cases o with
   | none=>rw [Ce2,get_set,Af rfl]
   | some i=>rw [Ce3,get_set,Af rfl]
  have hk:∀ j,j≠es.nx->j∉d.refs->(es.up (.mv o (.row R.T (fl++ds)))).hp.get j=es.hp.get j:=by
   intro j hj hjd
   cases o with
   | none=>rw [Ce2,get_set,Ad hj]
   | some i=>rw [Ce3,get_set,Ad hj,get_set,Ad (λe=>hjd (by rw [e];exact hor i rfl))]
  have hh:=h _ hk (λp' Ao=>.ms es.nx _ _ hg ((((Hw.mono (q:=λj=>p j\/p2 j) λ_=>.inl).app (T4.mono λ_=>.inr)).keep λj hj=>hk j (Ao j hj).2.1 (Ao j hj).2.2).mono λj hj=>(Ao j hj).1)) λQ h1 h2=>⟨_,hg,λc hc=>(Aw.1 hc).elim (λhc=>by
   rcases rI with rfl | ⟨id,e,hi⟩
   .cases hc
   .exact h1 id fl e hi c hc) (h2 c)⟩
  rw [Ap] at hh
  exact hh
theorem jT{b t:Nat}{u:Operand}{T e:Nat}{d d2:DV}{l m:List α}(e1:Ae es (.t (Cm t))=d)(hd:OL R es.hp p d l)(e2:es.ds.ev u=d2)(hm:∃ ds,Go.DD.srcD es.ds R.T R.e d2=some (ds,m.length)/\Rows R es.hp p2 ds m)(hT:T=R.T)(he:e=R.e)(hl:l.length+m.length<=2147483648)(hb:b<=65536)
  (h:∀ Ao,(∀ j,j≠es.nx->j∉d.refs->Ao.get j=es.hp.get j)->(∀ p',(∀ j,p j\/p2 j->p' j/\j≠es.nx/\j∉d.refs)->OL R Ao p' (.ms es.nx 0 (l++m).length R.e) (l++m))->q.val ((ES.mk es.sl Ao (es.nx+1)).putE dst (.ms es.nx 0 (l++m).length R.e))) :
  Nr (sU dst (Bd (.app T e b (.tmp t) u))) call es:=by
 obtain ⟨ds,hs,T4⟩:=hm
 exact Bl3 e1 hd e2 hs T4 hT he hl hb λAo h1 h2 _=>h Ao h1 h2
end
theorem Z4{α:Type}{R:Rep α}{hp:Tr DObj}{p:Nat->Prop}{d:DV}{l:List α}{n m i:Nat}{an refs lo:List Nat}{c:Bool}{ws:List Look}{ps:List Past}(h:RL R hp p d l)(Ng:∀ j,p j->j<n)
  (Gy:∀ q∈ps,(∀ j,p j->q.a.get j=hp.get j)/\∀ j,p j->q.b.get j=hp.get j) (hr:∀ j∈refs,j∈d.refs) (h2:Qw n m ws ps=true):Qw n m (Gt i an true c refs n lo ws) ps=true:=
 sA (λj hj=>by
  have Tx:=hr j hj
  refine ⟨Ng j (h.refs j Tx).1,λq hq=>.inr (.inr ?_)⟩
  obtain ⟨h3,h4⟩:=Gy q hq
  cases h with
  | nil=>cases Tx
  | sl=>cases Tx
  | ms id off fl l h hid hl hr hs=>
   have:j=id:=by simpa [DV.refs] using Tx
   subst this
   have e3:=(h3 j hid).trans h
   have e4:=(h4 j hid).trans h
   cases c with
   | true=>rw [Af rfl];exact NV e3 (e4.trans e3.symm) hs
   | false=>rw [Ad (by simp)];simp [uM,e3,e4]) h2
end Go.DD

/- What values read as: slices that are laid, parts of slices, kinds of layouts. -/
namespace Go.DD
open Go
section
variable {α:Type} {R:Rep α} {call:Bg} {es:ES} {dst:Option Pa} {q:Hold (ES->Prop)} {p:Nat->Prop} {n0 m i:Nat} {lo an:List Nat} {ws:List Look} {pp:List Past} {r:Hold (DSt->Prop)} {ps:List Pa}
theorem Vt{T n e:Nat}{z:List Value}{xs:List (Nat×Nat×Operand)}{fl:List DV}(hz:z.length=e)(hf:Ia ((List.replicate n (z.map .v)).flatten) (xs.map λp=>(p.1,p.2.1,es.ds.ev p.2.2))=some fl)
  (h:∀ Ao,Ao.get es.nx=some (.row T fl)->(∀ j,j≠es.nx->Ao.get j=es.hp.get j)->q.val ((ES.mk es.sl Ao (es.nx+1)).putE dst (.ms es.nx 0 n e))) :
  Nr (sU dst (Bd (.bsl T n e z xs))) call es:=by
 show SW _ _ _ _
 rw [sw_u,Fi]
 refine ⟨.ms es.nx 0 n e,.lay (.row T fl),?_,?_⟩
 .simp only [Ay,hf,hz]
  rw [Af trivial]
 .exact h (es.up (.lay (.row T fl))).hp (by rw [aO,get_set,Af rfl]) λj hj=>by rw [aO,get_set,Ad hj]
theorem SK{wide c:Bool}{T n e:Nat}{z:List Value}{xs:List (Nat×Nat×Operand)}{fl:List DV}(hz:z.length=e)(hf:Ia ((List.replicate n (z.map .v)).flatten) (xs.map λp=>(p.1,p.2.1,es.ds.ev p.2.2))=some fl)
  (h:∀ Ao,Ao.get (n0+i)=some (.row T fl)->(∀ j,j≠n0+i->Ao.get j=es.hp.get j)->r.val ⟨(ES.mk es.sl Ao es.nx).putE dst (.ms (n0+i) 0 n e),i::lo,Gt i an wide c (refsL es ps) n0 lo ws,pp⟩) :
  P7 (Rx i an wide c dst (Bd (.bsl T n e z xs)) ps) call n0 m es lo ws pp:=by
 show TW _ _ _ _ _ _
 rw [Cf2]
 refine ⟨.ms (n0+i) 0 n e,.row T fl,?_,?_⟩
 .rw [Fi]
  simp only [Ay,hf,hz]
  rw [Af trivial]
 .exact h _ (by rw [C8];simp) λj hj=>by rw [C8];simp [hj]
def lY(e a z:Nat):DV->DV
 | .sl cs _=>.sl ((cs.drop (a*e)).take ((z-a)*e)) (z-a)
 | .ms id off _ _=>if a<z\/a=0 then .ms id (off+a*e) (z-a) e else .sl [] 0
 | d=>d
theorem B65(e a z:Nat)(d:DV):∀ id∈(lY e a z d).refs,id∈d.refs:=by
 cases d with
 | ms id off n e'=>
  intro j hj
  have Tx:j∈(if a<z\/a=0 then DV.ms id (off+a*e) (z-a) e else .sl [] 0).refs:=hj
  by_cases h:a<z\/a=0
  .rw [Af h] at Tx;exact Tx
  .rw [Ad h] at Tx;cases Tx
 | sl=>intro j hj;cases hj
 | _=>exact λj hj=>hj
theorem Rep.clen(R:Rep α)(x:α):(R.cells x).length=R.e:=R.len (R.pure .e (λ_=>True) x)
theorem RL.part{hp:Tr DObj}{d:DV}{l:List α}(h:RL R hp p d l){a z:Nat}(haz:a<=z)(hz:z<=l.length):RL R hp p (lY R.e a z d) ((l.drop a).take (z-a)):=by
 have hlen:((l.drop a).take (z-a)).length=z-a:=by rw [Bs,Cr];omega
 cases h with
 | nil=>
  have:a=0/\z=0:=by simp at hz;omega
  obtain ⟨rfl,rfl⟩:=this
  exact .nil
 | sl=>
  have e1:((l.flatMap R.cells).drop (a*R.e)).take ((z-a)*R.e)=((l.drop a).take (z-a)).flatMap R.cells:=by
   rw [Ba1 R.clen,Ba2 R.clen]
  have:=RL.sl (R:=R) (hp:=hp) (p:=p) ((l.drop a).take (z-a))
  rw [hlen,<- e1] at this
  exact this
 | ms id off fl l h hid hl hr hs=>
  show RL R hp p (if a<z\/a=0 then .ms id (off+a*R.e) (z-a) R.e else .sl [] 0) _
  by_cases Ez:a<z\/a=0
  .rw [Af Ez]
   have h2:=(hr.drop a).take (z-a)
   have hm:a*R.e+(z-a)*R.e=z*R.e:=by rw [<- Dz];congr 1;omega
   have oU:z*R.e<=l.length*R.e:=Cu _ hz
   have e1:(((fl.drop off).take (l.length*R.e)).drop (a*R.e)).take ((z-a)*R.e)=(fl.drop (off+a*R.e)).take ((z-a)*R.e):=by
    rw [List.drop_take,List.drop_drop,List.take_take]
    congr 1;omega
   rw [e1] at h2
   have:=RL.ms (R:=R) (hp:=hp) (p:=p) id (off+a*R.e) fl _ h hid (by rw [hlen];omega) (by rw [hlen];exact h2) hs
   rwa [hlen] at this
  .rw [Ad Ez]
   have:z-a=0:=by omega
   rw [this,List.take_zero]
   exact .sl []
theorem C0{t a z e:Nat}{lo hi:Option Operand}{d:DV}{l:List α}(e1:Ae es (.t (Cm t))=d)(hd:RL R es.hp p d l)(he:e=R.e)(Gg:Im es.ds 0 lo=some (a:Int))(Sw:∀ n:Int,n=l.length->Im es.ds n hi=some (z:Int))(haz:a<=z)(hz:z<=l.length)
  (h:q.val (es.putE dst (lY R.e a z d))):Nr (sU dst (Bd (.sli e (.tmp t) lo hi))) call es:=by
 subst he
 show SW _ _ _ _
 rw [sw_u,Fi]
 have f1:es.ds.ev (.tmp t)=d:=by rw [lQ,e1,hd.live]
 cases hd with
 | nil=>
  have ha:a=0/\z=0:=by simp at hz;omega
  obtain ⟨rfl,rfl⟩:=ha
  have hh:=Sw 0 rfl
  refine ⟨Cl,.keep,?_,h⟩
  simp only [Ay,f1,Cl,Gg,hh]
  rfl
 | sl=>
  have hh:=Sw l.length rfl
  refine ⟨_,.keep,?_,h⟩
  simp only [Ay,f1,Gg,hh]
  rw [Af ⟨by omega,by omega,by omega⟩]
  simp only [Hc];rfl
 | ms id off fl l hg hid hl hr hs=>
  have hh:=Sw l.length rfl
  refine ⟨_,.keep,?_,h⟩
  simp only [Ay,f1,Gg,hh]
  rw [Af ⟨trivial,by omega,by omega,by omega⟩]
  simp only [Hc]
  have e2:((a:Int)<(z:Int)\/(a:Int)=0)↔(a<z\/a=0):=by omega
  unfold lY
  simp only [e2]
end
def Zw{α:Type}(e T:Nat)(f:α->List DV)(e0:0<e)(hl:∀ x,(f x).length=e)(hf:∀ x,∀ c∈f x,c.refs=[]/\(c.okC=true/\c.cells=[c])/\∀ n,1<=n->Oz n c c=true):Rep α where
 e:=e
 T:=T
 dep:=1
 rd _ _ ds x:=ds=f x
 cells:=f
 e0:=e0
 d6:=by decide
 len:=λh=>by rw [h,hl]
 keep:=λh _=>h
 mono:=λh _=>h
 refs:=λ{_ _ ds x} h id hi=>by
  obtain ⟨c,hc,hi⟩:=DV.mem_refsL hi
  rw [h] at hc
  rw [(hf x c hc).1] at hi;cases hi
 pure:=λ_ _ _=>rfl
 ok:=λ{_ _ ds x} h c hc=>(hf x c (h ▸ hc)).2.1
 same:=λ{_ _ ds x} h c hc=>(hf x c (h ▸ hc)).2.2
 samec:=λx c hc=>(hf x c hc).2.2
def Sc{α:Type}(R:Rep α)(T:Nat)(hd:R.dep+1<=6:=by decide):Rep (List α) where
 e:=1
 T:=T
 dep:=R.dep+1
 rd hp p ds l:=∃ d,ds=[d]/\RL R hp p d l
 cells l:=[.sl (l.flatMap R.cells) l.length]
 e0:=Nat.one_pos
 d6:=hd
 len:=λ⟨_,h,_⟩=>by rw [h];rfl
 keep:=λ⟨d,h,h2⟩ hk=>⟨d,h,h2.keep hk⟩
 mono:=λ⟨d,h,h2⟩ hk=>⟨d,h,h2.mono hk⟩
 refs:=λ⟨d,h,h2⟩ id hi=>by
  subst h
  exact h2.refs id (by simpa [DV.refsL] using hi)
 pure:=λ_ _ l=>⟨_,rfl,.sl l⟩
 ok:=λ⟨d,h,h2⟩ c hc=>by
  subst h
  obtain rfl:=Am.1 hc
  exact h2.ok
 same:=λ⟨d,h,h2⟩ c hc n hn=>by
  subst h
  obtain rfl:=Am.1 hc
  exact h2.same hn
 samec:=λl c hc n hn=>by
  obtain rfl:=Am.1 hc
  exact (RL.sl (R:=R) (hp:=.e) (p:=λ_=>True) l).same hn
def iN{α β γ:Type}(A:Rep α)(B:Rep β)(T:Nat)(f:γ->α)(g:γ->β):Rep γ where
 e:=A.e+B.e
 T:=T
 dep:=max A.dep B.dep
 rd hp p ds x:=∃ a b,ds=a++b/\A.rd hp p a (f x)/\B.rd hp p b (g x)
 cells x:=A.cells (f x)++B.cells (g x)
 e0:=by have:=A.e0;omega
 d6:=by have:=A.d6;have:=B.d6;omega
 len:=λ⟨a,b,h,h1,h2⟩=>by rw [h,Ap,A.len h1,B.len h2]
 keep:=λ⟨a,b,h,h1,h2⟩ hk=>⟨a,b,h,A.keep h1 hk,B.keep h2 hk⟩
 mono:=λ⟨a,b,h,h1,h2⟩ hk=>⟨a,b,h,A.mono h1 hk,B.mono h2 hk⟩
 refs:=λ⟨a,b,h,h1,h2⟩ id hi=>by
  subst h
  rw [Ba3] at hi
  rcases Aw.1 hi with hi | hi
  .exact A.refs h1 id hi
  .exact B.refs h2 id hi
 pure:=λhp p x=>⟨_,_,rfl,A.pure hp p _,B.pure hp p _⟩
 ok:=λ⟨a,b,h,h1,h2⟩ c hc=>by
  subst h
  rcases Aw.1 hc with hc | hc
  .exact A.ok h1 c hc
  .exact B.ok h2 c hc
 same:=λ⟨a,b,h,h1,h2⟩ c hc n hn=>by
  subst h
  rcases Aw.1 hc with hc | hc
  .exact A.same h1 c hc n (by omega)
  .exact B.same h2 c hc n (by omega)
 samec:=λx c hc n hn=>by
  rcases Aw.1 hc with hc | hc
  .exact A.samec _ c hc n (by omega)
  .exact B.samec _ c hc n (by omega)
end Go.DD

/- What values read as: integers, values, dimensions, attributes, cells, arrays. -/
namespace Go.DD
open Go
structure PVal where
 kind:Int
 n:Int
 d:Int
 s:ByteArray
 deriving DecidableEq,Inhabited
structure PDim where
 name:ByteArray
 lo:Int
 hi:Int
 deriving DecidableEq,Inhabited
structure PAttr where
 name:ByteArray
 type:Int
 deriving DecidableEq,Inhabited
structure PCell where
 pos:List Int
 vals:List PVal
 deriving DecidableEq,Inhabited
structure PArr where
 dims:List PDim
 attrs:List PAttr
 cells:List PCell
 deriving DecidableEq,Inhabited
def vc(v:PVal):List DV:=[iv v.kind,iv v.n,iv v.d,sv v.s]
def dc(x:PDim):List DV:=[sv x.name,iv x.lo,iv x.hi]
def ac(x:PAttr):List DV:=[sv x.name,iv x.type]
def YF(c:DV):Prop:=c.refs=[]/\(c.okC=true/\c.cells=[c])/\∀ n,1<=n->Oz n c c=true
theorem Xs(n:Int):YF (iv n):=⟨rfl,⟨rfl,rfl⟩,λn h=>by
 obtain ⟨n,rfl⟩:∃ k,n=k+1:=⟨n-1,by omega⟩
 simp [Oz,Qy]⟩
theorem EI(b:Bool):YF (bv b):=⟨rfl,⟨rfl,rfl⟩,λn h=>by
 obtain ⟨n,rfl⟩:∃ k,n=k+1:=⟨n-1,by omega⟩
 simp [Oz,Qy]⟩
theorem iO(s:ByteArray):YF (sv s):=⟨rfl,⟨rfl,rfl⟩,λn h=>by
 obtain ⟨n,rfl⟩:∃ k,n=k+1:=⟨n-1,by omega⟩
 simp [Oz,Qy]⟩
def rInt:Rep Int:=Zw 1 3 (λn=>[iv n]) (by decide) (λ_=>rfl) λx c h=>by
 obtain rfl:=Am.1 h
 exact Xs x
def rVal:Rep PVal:=Zw 4 41 vc (by decide) (λ_=>rfl) λx c h=>by
 simp only [vc,Aq,Ps,or_false] at h
 rcases h with rfl | rfl | rfl | rfl
 .exact Xs _
 .exact Xs _
 .exact Xs _
 .exact iO _
def rDim:Rep PDim:=Zw 3 129 dc (by decide) (λ_=>rfl) λx c h=>by
 simp only [dc,Aq,Ps,or_false] at h
 rcases h with rfl | rfl | rfl
 .exact iO _
 .exact Xs _
 .exact Xs _
def rAttr:Rep PAttr:=Zw 2 131 ac (by decide) (λ_=>rfl) λx c h=>by
 simp only [ac,Aq,Ps,or_false] at h
 rcases h with rfl | rfl
 .exact iO _
 .exact Xs _
def Qh:Rep (List Int):=Sc rInt 36
def wH:Rep (List PVal):=Sc rVal 37
def rCell:Rep PCell:=iN Qh wH 39 PCell.pos PCell.vals
theorem Co2{hp:Tr DObj}{p:Nat->Prop}{ds:List DV}{x:Int} : rInt.rd hp p ds x↔ds=[iv x]:=Da
theorem Co3{hp:Tr DObj}{p:Nat->Prop}{ds:List DV}{x:PVal} : rVal.rd hp p ds x↔ds=vc x:=Da
theorem Co4{hp:Tr DObj}{p:Nat->Prop}{ds:List DV}{x:PDim} : rDim.rd hp p ds x↔ds=dc x:=Da
theorem B66{hp:Tr DObj}{p:Nat->Prop}{ds:List DV}{x:PAttr} : rAttr.rd hp p ds x↔ds=ac x:=Da
theorem rCell_rd{hp:Tr DObj}{p:Nat->Prop}{ds:List DV}{x:PCell} : rCell.rd hp p ds x↔∃ a b,ds=[a,b]/\RL rInt hp p a x.pos/\RL rVal hp p b x.vals:=by
 constructor
 .rintro ⟨_,_,rfl,⟨a,rfl,h1⟩,⟨b,rfl,h2⟩⟩
  exact ⟨a,b,rfl,h1,h2⟩
 .rintro ⟨a,b,rfl,h1,h2⟩
  exact ⟨[a],[b],rfl,⟨a,rfl,h1⟩,⟨b,rfl,h2⟩⟩
section
variable {hp:Tr DObj} {p:Nat->Prop} {d:DV}
theorem ints_at{l:List Int}(h:RL rInt hp p d l){i:Nat}(hi:i<l.length):Gl hp none (Ca 1 d i)=some (iv l[i]):=by
 obtain ⟨ds,hr,_,h2,_⟩:=h.at hi
 rw [Co2] at hr
 exact h2 _ (by rw [hr];rfl)
theorem W7{l:List PVal}(h:RL rVal hp p d l){i:Nat}(hi:i<l.length):Gl hp (some 4) (Ca 4 d i)=some (.agg (vc l[i])):=by
 obtain ⟨ds,hr,h1,_⟩:=h.at hi
 rw [Co3] at hr
 rw [hr] at h1;exact h1
theorem uO{l:List PDim}(h:RL rDim hp p d l){i:Nat}(hi:i<l.length):Gl hp (some 3) (Ca 3 d i)=some (.agg (dc l[i]))/\Gl hp none (Ca 3 d i)=some (sv l[i].name)/\Gl hp none (Gi (Ca 3 d i) 0)=some (sv l[i].name)/\Gl hp none (Gi (Ca 3 d i) 1)=some (iv l[i].lo)/\Gl hp none (Gi (Ca 3 d i) 2)=some (iv l[i].hi):=by
 obtain ⟨ds,hr,h1,h0,h2⟩:=h.at hi
 rw [Co4] at hr
 rw [hr] at h1
 exact ⟨h1,h0 _ (by rw [hr];rfl),h2 0 _ (by rw [hr];rfl),h2 1 _ (by rw [hr];rfl),h2 2 _ (by rw [hr];rfl)⟩
theorem R3{l:List PAttr}(h:RL rAttr hp p d l){i:Nat}(hi:i<l.length):Gl hp (some 2) (Ca 2 d i)=some (.agg (ac l[i]))/\Gl hp none (Ca 2 d i)=some (sv l[i].name)/\Gl hp none (Gi (Ca 2 d i) 0)=some (sv l[i].name)/\Gl hp none (Gi (Ca 2 d i) 1)=some (iv l[i].type):=by
 obtain ⟨ds,hr,h1,h0,h2⟩:=h.at hi
 rw [B66] at hr
 rw [hr] at h1
 exact ⟨h1,h0 _ (by rw [hr];rfl),h2 0 _ (by rw [hr];rfl),h2 1 _ (by rw [hr];rfl)⟩
theorem Ev{l:List PCell}(h:RL rCell hp p d l){i:Nat}(hi:i<l.length):∃ a b,RL rInt hp p a l[i].pos/\RL rVal hp p b l[i].vals/\Gl hp (some 2) (Ca 2 d i)=some (.agg [a,b])/\Gl hp none (Ca 2 d i)=some a/\Gl hp none (Gi (Ca 2 d i) 0)=some a/\Gl hp none (Gi (Ca 2 d i) 1)=some b:=by
 obtain ⟨ds,hr,h1,h0,h2⟩:=h.at hi
 obtain ⟨a,b,rfl,h3,h4⟩:=rCell_rd.1 hr
 exact ⟨a,b,h3,h4,h1,h0 _ rfl,h2 0 _ rfl,h2 1 _ rfl⟩
end
def Bl(n:Nat):Nat->Prop:=λj=>j<n
def Bw(n m:Nat):Nat->Prop:=λj=>n<=j/\j<m
section
variable {α:Type} {R:Rep α} {hp Ao:Tr DObj} {n n':Nat} {d:DV} {l:List α}
end
end Go.DD

/- Chapters 01 and 02 in plain Lean: which names, values, schemas, cells and arrays are valid; the order of coordinates. -/
namespace Go.DD
open Go
def jQ(c:UInt8):Bool:=decide ((97:Int)<=(c.toNat:Int))&&decide ((c.toNat:Int)<=122)
def Pb(c:UInt8):Bool:=jQ c||(decide ((48:Int)<=(c.toNat:Int))&&decide ((c.toNat:Int)<=57))||decide ((c.toNat:Int)=95)
def Ts:List UInt8->Bool
 | []=>false
 | c::cs=>jQ c&&cs.all Pb
def Kx(s:ByteArray):Bool:=decide (s.size<=12)&&Ts s.data.toList
def V2(s:ByteArray):Bool:=s.toList==(bs []).toList
def Z3(v:PVal):Bool:=decide (v.d=0)&&V2 v.s
def nJ(c:UInt8):Bool:=decide ((32:Int)<=(c.toNat:Int))&&decide ((c.toNat:Int)<=126)
def Wa(s:ByteArray):Bool:=s.data.toList.all nJ
def fR(v:PVal):Bool:=
 if v.kind=0 then Z3 v&&(decide (1<=v.n)&&decide (v.n<=255))
 else if v.kind=1 then Z3 v&&(decide (v.n=0)||decide (v.n=1))
 else if v.kind=2 then V2 v.s&&(decide (1<=v.d)&&(decide (v.d<=1099511627776)&&(decide (-1099511627776<=v.n)&&(decide (v.n<=1099511627776)&&decide (Nat.gcd v.n.natAbs v.d.natAbs=1)))))
 else if v.kind=3 then decide (v.n=0)&&(decide (v.d=0)&&(decide (v.s.size<=16)&&Wa v.s))
 else false
def Tz(v:PVal)(t:Int):Bool:=
 if fR v=false\/t<1\/4<t then false
 else if v.kind=1 then decide (t=1)
 else if v.kind=2 then decide (t=3)||(decide (t=2)&&decide (v.d=1))
 else if v.kind=3 then decide (t=4)
 else true
def W6(d:PDim):Bool:=decide (-1073741824<=d.lo)&&(decide (d.lo<=1073741824)&&(decide (d.lo<=d.hi)&&decide (d.hi<=1073741825)))
def dM(s:ByteArray)(l:List ByteArray):Bool:=l.any λt=>decide (t=s)
def aK:List ByteArray->List PDim->Int
 | _,[]=>0
 | met,x::l=>if Kx x.name=false\/dM x.name met=true then 11 else if W6 x=false then 3 else aK (met ++ [x.name]) l
def Ph(l:List PDim):Int:=if l.length<1\/4<l.length then 13 else aK [] l
def Z2:List ByteArray->List PAttr->Int
 | _,[]=>0
 | met,x::l=>if Kx x.name=false\/dM x.name met=true then 11 else if x.type<1\/4<x.type then 12 else Z2 (met ++ [x.name]) l
def jS(d:List PDim)(a:List PAttr):Int:=if Ph d≠0 then Ph d else if a.length<1\/6<a.length then 9 else Z2 (d.map PDim.name) a
def dO(d:PDim):Int:=min d.hi 1073741824
def gC:List PDim->List Int->Bool
 | d::ds,x::xs=>if x<d.lo\/dO d<x then false else gC ds xs
 | _,_=>true
def sV(d:List PDim)(x:List Int):Bool:=decide (x.length=d.length)&&gC d x
def Nk:List PVal->List PAttr->Bool
 | v::vs,a::as=>if Tz v a.type=false then false else Nk vs as
 | _,_=>true
def Hb(d:List PDim)(a:List PAttr)(c:PCell):Int:=if c.pos.length≠d.length\/c.vals.length≠a.length then 13 else if sV d c.pos=false then 3 else if Nk c.vals a=false then 12 else 0
def Mu(a b:Int):Int:=if a<b then -1 else if b<a then 1 else 0
def Cq:List Int->List Int->Int
 | [],[]=>0
 | [],_::_=>-1
 | _::_,[]=>1
 | a::l,b::m=>if Mu a b=0 then Cq l m else Mu a b
def Qr(d:List PDim)(a:List PAttr):Option PCell->List PCell->Int
 | _,[]=>0
 | none,c::l=>if Hb d a c≠0 then Hb d a c else Qr d a (some c) l
 | some b,c::l=>if Hb d a c≠0 then Hb d a c else if Cq b.pos c.pos=0 then 5 else if Cq b.pos c.pos=1 then 2 else Qr d a (some c) l
def Mo(x:PArr):Int:=if jS x.dims x.attrs≠0 then jS x.dims x.attrs else if 4096<x.cells.length then 9 else Qr x.dims x.attrs none x.cells
theorem Bp3(a b:Int):Mu a b = -1\/Mu a b=0\/Mu a b=1:=by
 unfold Mu
 split
 .exact .inl rfl
 .split
  .exact .inr (.inr rfl)
  .exact .inr (.inl rfl)
theorem cmpI_0{a b:Int} : Mu a b=0↔a=b:=by
 unfold Mu
 split
 .constructor
  .intro h;exact absurd h (by decide)
  .intro h;omega
 .split
  .constructor
   .intro h;exact absurd h (by decide)
   .intro h;omega
  .constructor
   .intro _;omega
   .intro _;rfl
theorem lX:∀ l m:List Int,Cq l m = -1\/Cq l m=0\/Cq l m=1
 | [],[]=>.inr (.inl rfl)
 | [],_::_=>.inl rfl
 | _::_,[]=>.inr (.inr rfl)
 | a::l,b::m=>by
  unfold Cq
  split
  .exact lX l m
  .exact Bp3 a b
theorem cmpL_0:∀ {l m:List Int},Cq l m=0↔l=m
 | [],[]=>by simp [Cq]
 | [],_::_=>by simp [Cq]
 | _::_,[]=>by simp [Cq]
 | a::l,b::m=>by
  unfold Cq
  by_cases h:Mu a b=0
  .rw [Af h,cmpL_0,List.cons.injEq,cmpI_0.1 h];simp
  .rw [Ad h,List.cons.injEq]
   constructor
   .intro h2;exact absurd h2 h
   .intro h2;exact absurd (cmpI_0.2 h2.1) h
theorem B67(a b:Int):Mu b a = - Mu a b:=by
 unfold Mu
 by_cases h:a<b
 .rw [Af h,Ad (by omega),Af h];rfl
 .by_cases h2:b<a
  .rw [Af h2,Ad h,Af h2]
  .rw [Ad h,Ad h2,Ad h2,Ad h];rfl
theorem uR:∀ l m:List Int,Cq m l = - Cq l m
 | [],[]=>rfl
 | [],_::_=>rfl
 | _::_,[]=>rfl
 | a::l,b::m=>by
  unfold Cq
  rw [B67 a b]
  by_cases h:Mu a b=0
  .rw [Af h,Af (by omega),uR l m]
  .rw [Ad h,Ad (by omega)]
theorem Co5{a b:Int} : Mu a b = -1↔a<b:=by
 unfold Mu
 by_cases h:a<b
 .simp [h]
 .rw [Ad h]
  constructor
  .intro h2;split at h2 <;> exact absurd h2 (by decide)
  .intro h2;exact absurd h2 h
theorem qU:∀ {l m n:List Int},Cq l m = -1->Cq m n = -1->Cq l n = -1
 | [],[],_,h,_=>by simp [Cq] at h
 | [],_::_,[],_,h=>by simp [Cq] at h
 | [],_::_,_::_,_,_=>rfl
 | _::_,[],_,h,_=>by simp [Cq] at h
 | _::_,_::_,[],_,h=>by simp [Cq] at h
 | a::l,b::m,c::n,h1,h2=>by
  unfold Cq at h1 h2 ⊢
  by_cases e1:Mu a b=0
  .have:=cmpI_0.1 e1
   subst this
   rw [Af e1] at h1
   by_cases e2:Mu a c=0
   .rw [Af e2] at h2 ⊢
    exact qU h1 h2
   .rw [Ad e2] at h2 ⊢;exact h2
  .rw [Ad e1] at h1
   by_cases e2:Mu b c=0
   .have:=cmpI_0.1 e2
    subst this
    rw [Ad e1];exact h1
   .rw [Ad e2] at h2
    have h3:Mu a c = -1:=by rw [Co5] at h1 h2 ⊢;omega
    rw [Ad (by omega)];exact h3
end Go.DD
