/- A part. -/
import Derived.Test.YtnphfnhhpcelbaaGreatYm
import Derived.Test.YtnphfnhhpcelbaaGreatYp
import Derived.Sort.AssemblyPlain
set_option linter.unusedSectionVars false
set_option linter.unusedVariables false
namespace Go.DD
open Go Go.Proofs
theorem Rows.setE{α:Type}{R:Rep α}{hp:Tr DObj}{p:Nat->Prop}{v:List DV}{y:α}(hv:R.rd hp p v y):∀ {l:List α} {fl:List DV} (i:Nat),i<l.length->Rows R hp p fl l->Rows R hp p (fl.take (i*R.e)++v++fl.drop (i*R.e+R.e)) (l.set i y)
 | [],_,_,hi,_=>by simp at hi
 | _::l,_,0,_,⟨a,b,e,h1,h3⟩=>by
  subst e
  refine ⟨v,b,?_,hv,h3⟩
  rw [Nat.zero_mul,Er,List.take_zero,Bh,List.drop_left' (R.len h1)]
 | x::l,_,i+1,hi,⟨a,b,e,h1,h3⟩=>by
  subst e
  have h4:=h3.setE hv i (by simpa using hi)
  refine ⟨a,b.take (i*R.e)++v++b.drop (i*R.e+R.e),?_,h1,h4⟩
  have e1:(i+1)*R.e=R.e+i*R.e:=by rw [Gg,Mr,Nat.add_comm]
  rw [e1,List.take_append,List.drop_append,R.len h1,Bm (by rw [R.len h1];omega),Wi (by rw [R.len h1];omega),show R.e+i*R.e-R.e=i*R.e by omega,show R.e+i*R.e+R.e-R.e=i*R.e+R.e by omega,Bh,Ce,Ce,Ce]
section
variable {call:Bf} {es:ES} {dst:Option Pa} {q:Hold (ES->Prop)}
theorem Re{α:Type}{R:Rep α}{p:Nat->Prop}{a x:EO}{id i n:Nat}{v:List DV}{l:List α}{y:α}(ea:Ac es a=.pt id (i*R.e))(ho:OL R es.hp p (.ms id 0 n R.e) l)(ev:Mz es x=.agg v)(hv:R.rd es.hp p v y)(hi:i<l.length)(eR:¬ p id)
  (h:∀ Ap,OL R Ap p (.ms id 0 n R.e) (l.set i y)->(∀ j,j≠id->Ap.get j=es.hp.get j)->q.val ((ES.mk es.sl Ap es.nx).putE dst .any)) :
  Mv (sU dst (Ej R.e a x)) call es:=by
 obtain ⟨hn,_,fl,hg,hr⟩:=ho.get
 have hl:=hr.len
 have hb:i*R.e+R.e<=fl.length:=by
  rw [hl]
  have:=Ep R.e hi
  rw [Nat.succ_mul] at this;exact this
 show SW _ _ _ _
 rw [jJ,ea,jK,hg,ev,tU id (i*R.e) R.e (.agg v) R.T fl rfl (R.len hv) hb,I9]
 show q.val ((es.up (.wr id (.row R.T (fl.take (i*R.e)++v++fl.drop (i*R.e+R.e))))).putE dst .any)
 refine h (es.up (.wr id (.row R.T (fl.take (i*R.e)++v++fl.drop (i*R.e+R.e))))).hp ?_ λj hj=>by rw [Mk,get_set,Ae hj]
 have jS:=(hr.setE hv i hi).keep (Ap:=(es.up (.wr id (.row R.T (fl.take (i*R.e)++v++fl.drop (i*R.e+R.e))))).hp) λj hj=>by rw [Mk,get_set,Ae (show ¬ j=id from λe=>eR (e ▸ hj))]
 have:=OL.ms (R:=R) (p:=p) id _ (l.set i y) (by rw [Mk,get_set,Ah rfl]) jS
 rw [Xq,<- hn] at this
 exact this
end
def Cg(x y:PCell):Bool:=decide (Cd x.pos y.pos<0)
theorem swoC:Go.Sort.SWO Cg where
 irrefl x:=by unfold Cg;rw [fQ];rfl
 trans x y z h1 h2:=by
  unfold Cg at *
  have h1:=Fw h1
  have h2:=Fw h2
  have e1:=mZ x.pos y.pos
  have e2:=mZ y.pos z.pos
  have:=nZ (show Cd x.pos y.pos = -1 by omega) (show Cd y.pos z.pos = -1 by omega)
  exact Ai (by omega)
 ntrans x y z h1 h2:=by
  unfold Cg at *
  have h1:=of_decide_eq_false h1
  have h2:=of_decide_eq_false h2
  refine Ad λh3=>?_
  have e1:=mZ x.pos y.pos
  have e2:=mZ y.pos z.pos
  have e3:=mZ x.pos z.pos
  have:=Bx0 (a:=z.pos) (b:=y.pos) (c:=x.pos) (by rw [wJ];omega) (by rw [wJ];omega)
  rw [wJ] at this
  omega
structure SR (hp:Tr DObj) (n0 id n:Nat) (d:Array PCell):Prop where
 o:OL rChange hp (λj=>j<n0/\j≠id) (.ms id 0 n 2) d.toList
 h:id<n0
 b:∀ c∈d.toList,c.pos.length<900000
 s:d.size<100000
theorem SR.n{hp:Tr DObj}{n0 id n:Nat}{d:Array PCell}(h:SR hp n0 id n d):n=d.size:=h.o.get.1
theorem SR.rl{hp:Tr DObj}{n0 id n:Nat}{d:Array PCell}(h:SR hp n0 id n d):RL rChange hp (Bl n0) (.ms id 0 n 2) d.toList:=h.o.rl.mono λj hj=>by
 rcases hj with hj | hj
 .exact hj.1
 .have:j=id:=by simpa [DV.refs] using hj
  have:=h.h
  show j<n0
  omega
theorem SR.keep{hp Ap:Tr DObj}{n0 id n:Nat}{d:Array PCell}(h:SR hp n0 id n d)(hk:∀ j,j<n0->Ap.get j=hp.get j):SR Ap n0 id n d:=⟨h.o.keep λj hj=>hk j (by
 rcases hj with hj | hj
 .exact hj.1
 .have:j=id:=by simpa [DV.refs] using hj
  have:=h.h
  omega),h.h,h.b,h.s⟩
theorem SR.get{hp:Tr DObj}{n0 id n:Nat}{d:Array PCell}(h:SR hp n0 id n d):∃ fl,hp.get id=some (.row rChange.T fl):=let ⟨_,_,fl,hg,_⟩:=h.o.get;⟨fl,hg⟩
theorem Bo5{d:Array PCell}{i j:Nat}(hi:i<d.size)(hj:j<d.size):(Go.Sort.swp d i j).toList=(d.toList.set i d.toList[j]).set j d.toList[i]:=by
 unfold Go.Sort.swp
 rw [Kx d i hi,Kx d j hj]
 simp
theorem SR.at{hp:Tr DObj}{n0 id n:Nat}{d:Array PCell}(h:SR hp n0 id n d){i:Nat}(hi:i<d.size):∃ a b,RL rInt hp (λj=>j<n0/\j≠id) a d[i]!.pos/\RL rVal hp (λj=>j<n0/\j≠id) b d[i]!.vals/\Hk hp (some 2) (.pt id (i*2))=some (.agg [a,b]):=by
 obtain ⟨hn,_,fl,hg,hr⟩:=h.o.get
 have Wa:i<d.toList.length:=by simpa using hi
 obtain ⟨rest,e1,h2⟩:=hr.at Wa
 obtain ⟨a,b,e2,h3,h4⟩:=rChange_rd.1 h2
 rw [Kx d i hi]
 refine ⟨a,b,by simpa using h3,by simpa using h4,?_⟩
 have F7:fl.drop (i*2)=[a,b]++rest:=by
  have e3:(fl.drop (i*2)).take 2=[a,b]:=e2
  have e4:fl.drop (i*2)=(fl.drop (i*2)).take 2++rest:=e1
  rw [e4,e3]
 rw [Nt hg,F7]
 rfl
theorem Mw(id n i:Nat):Cf 2 (.ms id 0 n 2) i=.pt id (i*2):=by show DV.pt id (0+i*2)=_;rw [Er]
def Cu:DV:=.fn (.func 126) [.tup []]
theorem lG{f:Nat->Bool} : Ib Cu f↔True:=RR (by simp [Cu,DV.refs,DV.refsL])
theorem lI(hp:Tr DObj):Ch hp Cu=Cu:=eL (by simp [Cu,DV.refs,DV.refsL])
section
variable (k n0:Nat) (hp:Tr DObj) (nx:Nat) (K:DV->Tr DObj->Nat->Prop)
theorem lF(p v q w:DV)(c e:PCell)(hn:n0<=nx)(h1:RL rInt hp (Bl n0) p c.pos)(h2:RL rVal hp (Bl n0) v c.vals)(h3:RL rInt hp (Bl n0) q e.pos)(h4:RL rVal hp (Bl n0) w e.vals)(hl:c.pos.length<900000)
  (hK:∀ Ap Ba,Al hp nx Ap Ba->K (iv (Cd c.pos e.pos)) Ap Ba):KW (kN (k+5)) (.fn 126) [.agg [p,v],.agg [q,w]] hp nx K:=by
 refine Ds (Gb (by decide)) dm (Ab rfl) λes e1 e2 he=>?_
 have a0:Ac es (.t .o)=.agg [p,v]:=he 0 _ rfl
 have a1:Ac es (.t (.l .o))=.agg [q,w]:=he 1 _ rfl
 unfold IB
 subst e1 e2
 simp only [↓An]
 refine Tm (cs:=[p,v]) (by rw [Di,a0];exact Kl h1 h2) λDv Dc Cr=>?_
 simp only [bR] at Dc Cr
 have Em:Al es.hp es.nx Dv (es.nx+1):=⟨by omega,λj hj=>Cr j (by omega)⟩
 simp only [Am,↓An]
 refine Tm (cs:=[q,w]) (by simp only [Di,bR,a1];exact Kl (h3.ka hn Em) (h4.ka hn Em)) λDb Gv Fj=>?_
 simp only [bR] at Gv Fj
 have Cq:Al es.hp es.nx Db (es.nx+2):=⟨by omega,λj hj=>by rw [Fj j (by omega),Cr j (by omega)]⟩
 obtain ⟨⟨f0,_⟩,l0,_,_⟩:=Wf ((Fj es.nx (by omega)).trans Dc)
 obtain ⟨⟨g0,_⟩,m0,_,_⟩:=Wf Gv
 simp only [Am,↓An,f0,l0,g0,m0]
 refine Dt (wL (k:=k) n0 _ _ _ p q _ _ (by omega) (h1.ka hn Cq) (h3.ka hn Cq) hl ?_)
 simp only [Am,↓An,bP]
 exact hK _ _ Cq
end
end Go.DD

/- Contracts: insertion sort of changes. Conditions: those that each theorem states. -/
namespace Go.DD
open Go Go.Proofs Go.Sort
structure Fr (hp:Tr DObj) (nx id:Nat) (Ap:Tr DObj) (Ba:Nat):Prop where
 le:nx<=Ba
 fr:∀ j,j<nx->j≠id->Ap.get j=hp.get j
theorem Fr.refl(hp:Tr DObj)(nx id:Nat):Fr hp nx id hp nx:=⟨Af _,λ_ _ _=>rfl⟩
theorem Fr.trans{hp Dv Db:Tr DObj}{nx n1 n2 id:Nat}(h1:Fr hp nx id Dv n1)(h2:Fr Dv n1 id Db n2):Fr hp nx id Db n2:=⟨Es h1.le h2.le,λj hj hi=>(h2.fr j (Br hj h1.le) hi).trans (h1.fr j hj hi)⟩
theorem Fr.al{hp Dv Db:Tr DObj}{nx n1 n2 id:Nat}(h1:Fr hp nx id Dv n1)(h2:Al Dv n1 Db n2):Fr hp nx id Db n2:=⟨Es h1.le h2.le,λj hj hi=>(h2.same j (Br hj h1.le)).trans (h1.fr j hj hi)⟩
theorem Fr.up{hp Dv Db:Tr DObj}{nx n1 n2 id:Nat}(h1:Fr hp nx id Dv n1)(hn:n1<=n2)(h2:∀ j,j<n1->j≠id->Db.get j=Dv.get j):Fr hp nx id Db n2:=h1.trans ⟨hn,h2⟩
theorem SR.al{hp Ap:Tr DObj}{n0 id n nx Ba:Nat}{d:Array PCell}(h:SR hp n0 id n d)(hn:n0<=nx)(ha:Al hp nx Ap Ba):SR Ap n0 id n d:=h.keep λj hj=>ha.same j (by omega)
theorem SR.swp{hp:Tr DObj}{n0 id n i j:Nat}{d:Array PCell}(h:SR hp n0 id n d)(hi:i<d.size)(hj:j<d.size){Ap:Tr DObj}(ho:OL rChange Ap (λj=>j<n0/\j≠id) (.ms id 0 n 2) ((d.toList.set i d[j]!).set j d[i]!)):SR Ap n0 id n (swp d i j):=by
 have e:=Bo5 hi hj
 rw [Kx d i hi,Kx d j hj] at ho
 have e1:d.toList[i]=d[i]:=by simp
 have e2:d.toList[j]=d[j]:=by simp
 rw [e1,e2] at e
 refine ⟨by rw [e];exact ho,h.h,λc hc=>?_,by rw [size_swp];exact h.s⟩
 rw [e] at hc
 rcases Se hc with h1 | h1
 .rcases Se h1 with h2 | h2
  .exact h.b c h2
  .exact h.b c (by rw [h2];exact Zw.2 (Array.getElem_mem hj))
 .exact h.b c (by rw [h1];exact Zw.2 (Array.getElem_mem hi))
theorem SR.bA{hp:Tr DObj}{n0 id n i:Nat}{d:Array PCell}(h:SR hp n0 id n d)(hi:i<d.size):d[i]!.pos.length<900000:=by
 rw [Kx d i hi]
 exact h.b _ (Zw.2 (Array.getElem_mem hi))
theorem SR.ia{hp:Tr DObj}{n0 id n i:Nat}{d:Array PCell}(h:SR hp n0 id n d)(hi:i<d.size):Ms hp 2 (.ms id 0 n 2) (.v (.int .i64 (i:Int)))=some (Cf 2 (.ms id 0 n 2) i):=Uy h.rl (by simpa using hi)
theorem SR.rox{hp:Tr DObj}{n0 id n nx m:Nat}{d:Array PCell}{an:List Nat}(h:SR hp n0 id n d)(hn:n0<=nx):Cp nx m an hp id=true:=by
 obtain ⟨fl,hg⟩:=h.get
 have:=h.h
 exact Il hg (by omega)
theorem Be{n0 id:Nat} : ∀ j,(λj=>j<n0/\j≠id) j->Bl n0 j:=λ_ h=>h.1
theorem Pc{x y:PCell}(h:Cd x.pos y.pos<0):Cg x y=true:=Ai h
theorem Ns{x y:PCell}(h:¬ Cd x.pos y.pos<0):Cg x y=false:=Ad h
theorem wA{i:Nat}(h:i<9000000000000):Cl .sub (.v (.int .i64 ((i+1:Nat):Int))) (.v (.int .i64 1))=some (.v (.int .i64 (i:Int))):=by rw [Lh,Dk (by omega)];congr 3;omega
theorem fO{n0 m i:Nat}{an refs lo:List Nat}{ws:List Look}{ps:List Past}{id:Nat}(hr:∀ j∈refs,j=id)(hid:id<n0)(hp:∀ p∈ps,(p.a.get id).isSome=true/\(p.b.get id).isSome=true)(h2:Oj n0 m ws ps=true):Oj n0 m (Gj i an true false refs n0 lo ws) ps=true:=
 nT (λj hj=>by
  rw [hr j hj]
  refine ⟨hid,λp Ap=>.inr (.inr ?_)⟩
  obtain ⟨h3,h4⟩:=hp p Ap
  rw [Ae (by simp)]
  show (((p.a.get id).isSome)==((p.b.get id).isSome))=true
  rw [h3,h4];rfl) h2
theorem fJ(id n:Nat):∀ j∈(DV.ms id 0 n 2).refs,j=id:=λj hj=>by simpa [DV.refs] using hj
section
variable (k n0:Nat) (hp:Tr DObj) (nx:Nat) (K:DV->Tr DObj->Nat->Prop)
theorem Cy6(id n a b:Nat)(d:Array PCell)(hn:n0<=nx)(hs:SR hp n0 id n d)(hb:b<=d.size)(ha:a<=d.size)
  (hK:∀ Ap Ba,Fr hp nx id Ap Ba->SR Ap n0 id n (insertionSort Cg d a b)->K (.tup []) Ap Ba):KW (kN (k+6)) (.fn 203) [.ms id 0 n 2,iv a,iv b,Cu] hp nx K:=by
 refine Oq (Gb (by decide)) ET (Ab rfl) λes e1 e2 he=>?_
 have a0:Ac es (.t .o)=.ms id 0 n 2:=he 0 _ rfl
 have a1:Ac es (.t (.l .o))=iv a:=he 1 _ rfl
 have a2:Ac es (.t (.r .o))=iv b:=he 2 _ rfl
 have a3:Ac es (.t (.l (.l .o)))=Cu:=he 3 _ rfl
 unfold M3
 subst e1 e2
 have Hq:=hs.s
 simp only [Am,↓An,a1,Hn (show a<_ by omega)]
 refine EW.up (b-(a+1)) (λt es1=>∃ d1,Fr es.hp es.nx id es1.hp es1.nx/\SR es1.hp n0 id n d1/\d1.size=d.size/\insOuter Cg a b (a+1+t) d1=insertionSort Cg d a b/\Ac es1 (.t .o)=.ms id 0 n 2/\Ac es1 (.t (.l .o))=iv a/\Ac es1 (.t (.r .o))=iv b/\Ac es1 (.t (.l (.l .o)))=Cu/\Ac es1 (.t (.r (.l (.l .o))))=iv ((a+1+t:Nat))) ?_ ?_ (by omega)
 .rintro t es1 ht ⟨d1,g,Co,iC,he,b0,b1,b2,b3,b8⟩
  unfold ze
  have hle:=g.le
  by_cases h:t<b-(a+1)
  .have NK:a+1+t<b:=by omega
   rw [insOuter,Ah NK] at he
   simp only [Am,↓An,b2,b8,NK]
   generalize hi:a+1+t=i at he NK b8
   refine EW.l (I:=λm By=>∃ d2,m<=i/\Fr es.hp es.nx id By.hp By.nx/\SR By.hp n0 id n d2/\d2.size=d.size/\insInner Cg a m d2=insInner Cg a i d1/\Ac By (.t .o)=.ms id 0 n 2/\Ac By (.t (.l .o))=iv a/\Ac By (.t (.r .o))=iv b/\Ac By (.t (.l (.l .o)))=Cu/\Ac By (.t (.r (.l (.l .o))))=iv (i:Nat)/\Ac By (.t (.l (.r (.l .o))))=iv (m:Nat)) ?_ i 1000000 _ ?_ (by omega)
   .rintro m By ⟨d2,hm,g2,Mf,C9,nI,x0,x1,x2,x3,x8,x9⟩
    unfold Ch5
    have Fq:=g2.le
    by_cases hma:a<m
    .obtain ⟨j,rfl⟩:∃ j,m=j+1:=⟨m-1,by omega⟩
     obtain ⟨pA,vA,Gd,Gi,lA⟩:=Mf.at (show j+1<d2.size by omega)
     obtain ⟨pB,vB,Fu,Ft,lB⟩:=Mf.at (show j<d2.size by omega)
     have Fa:=Gd.mono (Be (id:=id))
     have Ev:=Gi.mono (Be (id:=id))
     have Dr:=Fu.mono (Be (id:=id))
     have Dq:=Ft.mono (Be (id:=id))
     simp only [Am,↓An,x0,x1,x3,x9,hma,wA (show j<_ by omega),Mf.ia (show j+1<d2.size by omega),Mf.ia (show j<d2.size by omega),lA,lB,Mf.rox (m:=17) (show n0<=By.nx by omega),Mw,lG]
     refine ⟨⟨Ci (Fa.rox (by omega)) (Ev.rox (by omega)),Ci (Dr.rox (by omega)) (Dq.rox (by omega))⟩,?_⟩
     refine Ge rfl (Zt (f:=126) (fs:=[]) (cs:=[]) (by rw [Di];simp only [bR];exact lI _) ?_)
     simp only [bR,Ao,Aq,Bu,Bh]
     refine lF k n0 _ _ _ pA vA pB vB d2[j+1]! d2[j]! (by omega) Fa Ev Dr Dq (Mf.bA (show j+1<d2.size by omega)) λHe Dn Ec=>?_
     have Ik:=Ec.le
     have Hr:=Mf.al (nx:=By.nx+17) (by omega) Ec
     have g3:Fr es.hp es.nx id He Dn:=g2.up (by omega) λj hj _=>Ec.same j (by omega)
     rw [insInner] at nI
     by_cases hc:Cd d2[j+1]!.pos d2[j]!.pos<0
     .rw [Ah (by rw [Pc hc];simp;omega)] at nI
      obtain ⟨pA,vA,Gd,Gi,lA⟩:=Hr.at (show j+1<d2.size by omega)
      obtain ⟨pB,vB,Fu,Ft,lB⟩:=Hr.at (show j<d2.size by omega)
      have Fa:=Gd.mono (Be (id:=id))
      have Ev:=Gi.mono (Be (id:=id))
      have Dr:=Fu.mono (Be (id:=id))
      have Dq:=Ft.mono (Be (id:=id))
      simp only [Am,↓An,x0,x9,Ik,Ai hc,wA (show j<_ by omega),Hr.ia (show j+1<d2.size by omega),Hr.ia (show j<d2.size by omega),lA,lB,Hr.rox (m:=18) (show n0<=Dn by omega),Mw]
      refine ⟨Ci (Dr.rox (by omega)) (Dq.rox (by omega)),?_⟩
      refine Ge rfl (Re (R:=rChange) (i:=j+1) (n:=n) (id:=id) (v:=[pB,vB]) (y:=d2[j]!) (p:=λj=>j<n0/\j≠id) (by simp only [bR];rfl) Hr.o (by simp only [Di,bR];exact Kl Fu Ft) (rChange_rd.2 ⟨pB,vB,rfl,Fu,Ft⟩) (by simp;omega) (λh=>h.2 rfl) λHo B2 Ha=>?_)
      simp only [bR] at Ha
      obtain ⟨_,_,fl4,Ov,_⟩:=B2.get
      have qd:=Hr.h
      have L8:=Gd.keep (Ap:=Ho) λj hj=>Ha j hj.2
      have L7:=Gi.keep (Ap:=Ho) λj hj=>Ha j hj.2
      have i4:Ms Ho 2 (.ms id 0 n 2) (.v (.int .i64 (j:Int)))=some (Cf 2 (.ms id 0 n 2) j):=Uy B2.rl (by simp;omega)
      simp only [Am,↓An,i4,Mw,Il (n0:=Dn) (m:=18) Ov (show id<Dn by omega)]
      refine ⟨Ci ((L8.mono (Be (id:=id))).rox (by omega)) ((L7.mono (Be (id:=id))).rox (by omega)),?_⟩
      refine Ge rfl (Re (R:=rChange) (i:=j) (n:=n) (id:=id) (v:=[pA,vA]) (y:=d2[j+1]!) (p:=λj=>j<n0/\j≠id) (by simp only [bR];rfl) B2 (by simp only [Di,bR];exact Kl L8 L7) (rChange_rd.2 ⟨pA,vA,rfl,L8,L7⟩) (by simp;omega) (λh=>h.2 rfl) λDu cD Hd=>?_)
      simp only [bR] at Hd
      have Hs:=Hr.swp (show j+1<d2.size by omega) (show j<d2.size by omega) cD
      simp only [Am,↓An,x0,x1,x2,x3,x8,x9,wA (show j<_ by omega)]
      obtain ⟨fl3,Lx⟩:=Hr.get
      obtain ⟨fl5,Pf⟩:=Hs.get
      refine ⟨fO (fJ id n) (by omega) (λp hp=>?_) rfl,j,by omega,_,by omega,⟨by have:=g3.le;omega,λq hq Mg=>by rw [Hd q Mg,Ha q Mg,g3.fr q hq Mg]⟩,Hs,by rw [size_swp,C9],nI,rfl⟩
      simp only [Ak,Ax,or_false] at hp
      rcases hp with rfl | rfl
      .exact ⟨by rw [Ov];rfl,by rw [Pf];rfl⟩
      .exact ⟨by rw [Lx];rfl,by rw [Ov];rfl⟩
     .rw [Ae (by rw [Ns hc];simp)] at nI
      simp only [Am,↓An,x0,x1,x2,x3,x8,Ik,Ad hc,Hn (show i<_ by omega)]
      exact ⟨h,d2,g3,Hr,C9,by rw [<- he,<- nI,<- hi];rfl,by rw [<- hi];rfl⟩
    .simp only [Am,↓An,x0,x1,x2,x3,x8,x9,hma]
     have he3:d2=insInner Cg a i d1:=by
      rw [<- nI]
      cases m with
      | zero=>rfl
      | succ j=>rw [insInner,Ae (by simp;omega)]
     rw [<- he3] at he
     simp only [Am,Hn (show i<_ by omega)]
     exact ⟨h,d2,g2.up (by omega) λ_ _ _=>rfl,Mf,C9,by rw [<- he,<- hi];rfl,by rw [<- hi];rfl⟩
   .simp only [Am,b0,b1,b2,b3,b8]
    exact ⟨d1,g,Co,iC,rfl⟩
  .rw [insOuter,Ae (by omega)] at he
   simp only [Am,↓An,b2,b8,show ¬ a+1+t<b by omega]
   exact hK _ _ g (he ▸ Co)
 .simp only [Am,a0,a1,a2,a3]
  exact ⟨d,Fr.refl _ _ _,hs,rfl,rfl⟩
end
end Go.DD

/- Contracts: the heap's sift of changes. Conditions: those that each theorem states. -/
namespace Go.DD
open Go Go.Proofs Go.Sort
theorem Cp0(hi first r:Nat)(d:Array PCell)(h:2*r+1<hi):siftDown Cg hi first r d=if !Cg d[first+r]! d[first+(if 2*r+1+1<hi&&Cg d[first+(2*r+1)]! d[first+(2*r+1)+1]! then 2*r+1+1 else 2*r+1)]! then d else siftDown Cg hi first (if 2*r+1+1<hi&&Cg d[first+(2*r+1)]! d[first+(2*r+1)+1]! then 2*r+1+1 else 2*r+1) (swp d (first+r) (first+(if 2*r+1+1<hi&&Cg d[first+(2*r+1)]! d[first+(2*r+1)+1]! then 2*r+1+1 else 2*r+1))):=by
 rw [siftDown,dif_neg (by omega)]
 by_cases c:(decide (2*r+1+1<hi)&&Cg d[first+(2*r+1)]! d[first+(2*r+1)+1]!)=true
 .have c1:2*r+2<hi:=by simp at c;exact c.1
  rw [Ah c,Ah c,dif_pos c1]
 .rw [Ae c,Ae c]
theorem lM(hi first r:Nat)(d:Array PCell)(h:¬ 2*r+1<hi):siftDown Cg hi first r d=d:=by rw [siftDown,dif_pos (by omega)]
section
variable (k n0:Nat) (hp:Tr DObj) (nx:Nat) (K:DV->Tr DObj->Nat->Prop)
theorem Bz9(id n lo hi first:Nat)(d:Array PCell)(hn:n0<=nx)(hs:SR hp n0 id n d)(hb:first+hi<=d.size)(Hv:lo<100000)
  (hK:∀ Ap Ba,Fr hp nx id Ap Ba->SR Ap n0 id n (siftDown Cg hi first lo d)->K (.tup []) Ap Ba):KW (kN (k+6)) (.fn 223) [.ms id 0 n 2,iv lo,iv hi,iv first,Cu] hp nx K:=by
 refine Oq (Gb (by decide)) af (Ab rfl) λes e1 e2 he=>?_
 have a0:Ac es (.t .o)=.ms id 0 n 2:=he 0 _ rfl
 have a1:Ac es (.t (.l .o))=iv lo:=he 1 _ rfl
 have a2:Ac es (.t (.r .o))=iv hi:=he 2 _ rfl
 have a3:Ac es (.t (.l (.l .o)))=iv first:=he 3 _ rfl
 have a4:Ac es (.t (.r (.l .o)))=Cu:=he 4 _ rfl
 unfold GK
 subst e1 e2
 have Hq:=hs.s
 simp only [Am,↓An,a1]
 refine EW.l (I:=λm es1=>∃ r d1,m=200001-r/\r<=100000/\Fr es.hp es.nx id es1.hp es1.nx/\SR es1.hp n0 id n d1/\d1.size=d.size/\siftDown Cg hi first r d1=siftDown Cg hi first lo d/\Ac es1 (.t .o)=.ms id 0 n 2/\Ac es1 (.t (.r .o))=iv hi/\Ac es1 (.t (.l (.l .o)))=iv first/\Ac es1 (.t (.r (.l .o)))=Cu/\Ac es1 (.t (.r (.r (.l .o))))=iv (r:Nat)) ?_ (200001-lo) 1000000 _ ?_ (by omega)
 .rintro m es1 ⟨r,d1,hm,hr,g,Co,iC,he,b0,b2,b3,b4,b10⟩
  unfold Ci1
  have hle:=g.le
  have hmul:Cl .mul (.v (.int .i64 2)) (.v (.int .i64 (r:Int)))=some (.v (.int .i64 ((2*r:Nat):Int))):=by rw [Zq,Dk (by omega)];congr 3
  by_cases h1:2*r+1<hi
  .refine ew_b.2 (EW.seq (λBy=>Ac By (.t .o)=.ms id 0 n 2/\Ac By (.t (.r .o))=iv hi/\Ac By (.t (.l (.l .o)))=iv first/\Ac By (.t (.r (.l .o)))=Cu/\Ac By (.t (.r (.r (.l .o))))=iv (r:Nat)/\Ac By (.t (.l (.l (.r .o))))=iv ((2*r+1:Nat))/\By.hp=es1.hp/\By.nx=es1.nx) ?_ λBy ⟨b0,b2,b3,b4,b10,b11,yh,yn⟩=>EW.seq (λBy=>Ac By (.t .o)=.ms id 0 n 2/\Ac By (.t (.r .o))=iv hi/\Ac By (.t (.l (.l .o)))=iv first/\Ac By (.t (.r (.l .o)))=Cu/\Ac By (.t (.r (.r (.l .o))))=iv (r:Nat)/\Ac By (.t (.l (.l (.r .o))))=iv ((2*r+1:Nat))/\By.hp=es1.hp/\By.nx=es1.nx) ?_ λFs ⟨b0,b2,b3,b4,b10,b11,yh,yn⟩=>?_)
   .simp only [Am,↓An,b0,b2,b3,b4,b10,hmul,Hn (show 2*r<_ by omega)]
   .simp only [Am,↓An,b0,b2,b3,b4,b10,b11,show ¬ hi<=2*r+1 by omega,yh,yn]
   have hc:∃ c,c=(if 2*r+1+1<hi&&Cg d1[first+(2*r+1)]! d1[first+(2*r+1)+1]! then 2*r+1+1 else 2*r+1):=⟨_,rfl⟩
   obtain ⟨c,hc⟩:=hc
   have aXi:c<hi/\r<c:=by
    rw [hc]
    split
    .rename_i h2;simp at h2;omega
    .omega
   rw [Cp0 hi first r d1 h1,<- hc] at he
   generalize es1.hp=H at *
   generalize es1.nx=N at *
   subst yh yn
   refine EW.seq (λYj=>Ac Yj (.t .o)=.ms id 0 n 2/\Ac Yj (.t (.r .o))=iv hi/\Ac Yj (.t (.l (.l .o)))=iv first/\Ac Yj (.t (.r (.l .o)))=Cu/\Ac Yj (.t (.r (.r (.l .o))))=iv (r:Nat)/\Ac Yj (.t (.l (.l (.r .o))))=iv (c:Nat)/\Fr es.hp es.nx id Yj.hp Yj.nx/\SR Yj.hp n0 id n d1) ?_ λYj ⟨b0,b2,b3,b4,b10,b11,g4,Lm⟩=>?_
   .by_cases h2:2*r+1+1<hi
    .obtain ⟨pA,vA,Gd,Gi,lA⟩:=Co.at (show first+(2*r+1)<d1.size by omega)
     obtain ⟨pB,vB,Fu,Ft,lB⟩:=Co.at (show first+(2*r+1)+1<d1.size by omega)
     have Fa:=Gd.mono (Be (id:=id))
     have Ev:=Gi.mono (Be (id:=id))
     have Dr:=Fu.mono (Be (id:=id))
     have Dq:=Ft.mono (Be (id:=id))
     simp only [Am,↓An,b0,b2,b3,b4,b11,h2,Hn (show 2*r+1<_ by omega),Wg (show first+(2*r+1)<_ by omega),Hn (show first+(2*r+1)<_ by omega),Co.ia (show first+(2*r+1)<d1.size by omega),Co.ia (show first+(2*r+1)+1<d1.size by omega),lA,lB,Co.rox (m:=22) (show n0<=Fs.nx by omega),Mw,lG]
     refine ⟨⟨Ci (Fa.rox (by omega)) (Ev.rox (by omega)),Ci (Dr.rox (by omega)) (Dq.rox (by omega))⟩,?_⟩
     refine Ge rfl (Zt (f:=126) (fs:=[]) (cs:=[]) (by rw [Di];simp only [bR];exact lI _) ?_)
     simp only [bR,Ao,Aq,Bu,Bh]
     refine lF k n0 _ _ _ pA vA pB vB d1[first+(2*r+1)]! d1[first+(2*r+1)+1]! (by omega) Fa Ev Dr Dq (Co.bA (show first+(2*r+1)<d1.size by omega)) λDu Fm Cw=>?_
     have Fp:=Cw.le
     have Hs:=Co.al (nx:=Fs.nx+22) (by omega) Cw
     have g5:Fr es.hp es.nx id Du Fm:=g.up (by omega) λj hj _=>Cw.same j (by omega)
     by_cases h3:Cd d1[first+(2*r+1)]!.pos d1[first+(2*r+1)+1]!.pos<0
     .rw [Ah (by simp [h2,Pc h3])] at hc
      simp only [Am,↓An,b0,b2,b3,b4,b10,b11,Fp,Ai h3,Hn (show 2*r+1<_ by omega),hc]
      exact ⟨g5,Hs⟩
     .rw [Ae (by simp [Ns h3])] at hc
      simp only [Am,↓An,b0,b2,b3,b4,b10,b11,Fp,Ad h3,hc]
      exact ⟨g5,Hs⟩
    .rw [Ae (by simp [h2])] at hc
     simp only [Am,↓An,b0,b2,b3,b4,b10,b11,h2,Hn (show 2*r+1<_ by omega),hc]
     exact ⟨g.up (by omega) λ_ _ _=>rfl,Co⟩
   have Vq:=g4.le
   obtain ⟨pA,vA,Gd,Gi,lA⟩:=Lm.at (show first+r<d1.size by omega)
   obtain ⟨pB,vB,Fu,Ft,lB⟩:=Lm.at (show first+c<d1.size by omega)
   have Fa:=Gd.mono (Be (id:=id))
   have Ev:=Gi.mono (Be (id:=id))
   have Dr:=Fu.mono (Be (id:=id))
   have Dq:=Ft.mono (Be (id:=id))
   simp only [Am,↓An,b0,b3,b4,b10,b11,Wg (show first+r<_ by omega),Wg (show first+c<_ by omega),Lm.ia (show first+r<d1.size by omega),Lm.ia (show first+c<d1.size by omega),lA,lB,Lm.rox (m:=16) (show n0<=Yj.nx by omega),Mw,lG]
   refine ⟨⟨Ci (Fa.rox (by omega)) (Ev.rox (by omega)),Ci (Dr.rox (by omega)) (Dq.rox (by omega))⟩,?_⟩
   refine Ge rfl (Zt (f:=126) (fs:=[]) (cs:=[]) (by rw [Di];simp only [bR];exact lI _) ?_)
   simp only [bR,Ao,Aq,Bu,Bh]
   refine lF k n0 _ _ _ pA vA pB vB d1[first+r]! d1[first+c]! (by omega) Fa Ev Dr Dq (Lm.bA (show first+r<d1.size by omega)) λGa Ih Lu=>?_
   have Jr:=Lu.le
   have Ts:=Lm.al (nx:=Yj.nx+16) (by omega) Lu
   have g6:Fr es.hp es.nx id Ga Ih:=g4.up (by omega) λj hj _=>Lu.same j (by omega)
   by_cases h3:Cd d1[first+r]!.pos d1[first+c]!.pos<0
   .rw [Ae (by simp [Pc h3])] at he
    obtain ⟨pA,vA,Gd,Gi,lA⟩:=Ts.at (show first+r<d1.size by omega)
    obtain ⟨pB,vB,Fu,Ft,lB⟩:=Ts.at (show first+c<d1.size by omega)
    have Fa:=Gd.mono (Be (id:=id))
    have Ev:=Gi.mono (Be (id:=id))
    have Dr:=Fu.mono (Be (id:=id))
    have Dq:=Ft.mono (Be (id:=id))
    simp only [Am,↓An,b0,b3,b10,b11,Jr,Ai h3,Wg (show first+r<_ by omega),Wg (show first+c<_ by omega),Ts.ia (show first+r<d1.size by omega),Ts.ia (show first+c<d1.size by omega),lA,lB,Ts.rox (m:=24) (show n0<=Ih by omega),Mw]
    refine ⟨Ci (Dr.rox (by omega)) (Dq.rox (by omega)),?_⟩
    refine Ge rfl (Re (R:=rChange) (i:=first+r) (n:=n) (id:=id) (v:=[pB,vB]) (y:=d1[first+c]!) (p:=λj=>j<n0/\j≠id) (by simp only [bR];rfl) Ts.o (by simp only [Di,bR];exact Kl Fu Ft) (rChange_rd.2 ⟨pB,vB,rfl,Fu,Ft⟩) (by simp;omega) (λh=>h.2 rfl) λQc Xb Sv=>?_)
    simp only [bR] at Sv
    obtain ⟨_,_,PO,Xf,_⟩:=Xb.get
    have C3:=Ts.h
    have Py:=Gd.keep (Ap:=Qc) λj hj=>Sv j hj.2
    have Px:=Gi.keep (Ap:=Qc) λj hj=>Sv j hj.2
    have KP:Ms Qc 2 (.ms id 0 n 2) (.v (.int .i64 ((first+c:Nat):Int)))=some (Cf 2 (.ms id 0 n 2) (first+c)):=Uy Xb.rl (by simp;omega)
    simp only [Am,↓An,KP,Mw,Il (n0:=Ih) (m:=24) Xf (show id<Ih by omega)]
    refine ⟨Ci ((Py.mono (Be (id:=id))).rox (by omega)) ((Px.mono (Be (id:=id))).rox (by omega)),?_⟩
    refine Ge rfl (Re (R:=rChange) (i:=first+c) (n:=n) (id:=id) (v:=[pA,vA]) (y:=d1[first+r]!) (p:=λj=>j<n0/\j≠id) (by simp only [bR];rfl) Xb (by simp only [Di,bR];exact Kl Py Px) (rChange_rd.2 ⟨pA,vA,rfl,Py,Px⟩) (by simp;omega) (λh=>h.2 rfl) λIj gK If=>?_)
    simp only [bR] at If
    have bX:=Ts.swp (show first+r<d1.size by omega) (show first+c<d1.size by omega) gK
    have g7:Fr es.hp es.nx id Ij (Ih+24):=g6.up (by omega) λq hq Mg=>by rw [If q Mg,Sv q Mg]
    obtain ⟨PM,qJ⟩:=Ts.get
    obtain ⟨PL,qI⟩:=bX.get
    have qA:∀ {a1 a2:List Nat} {q1 q2:Nat} (p:Past),p∈[(⟨q1,a1,Qc,Ij⟩:Past),⟨q2,a2,Ga,Qc⟩]->(p.a.get id).isSome=true/\(p.b.get id).isSome=true:=λp hp=>by
     simp only [Ak,Ax,or_false] at hp
     rcases hp with rfl | rfl
     .exact ⟨by rw [Xf];rfl,by rw [qI];rfl⟩
     .exact ⟨by rw [qJ];rfl,by rw [Xf];rfl⟩
    simp only [Am,↓An,b0,b2,b3,b4,b11]
    exact ⟨fO (fJ id n) (by omega) (λp hp=>qA p hp) rfl,200001-c,by omega,c,_,rfl,by omega,g7,bX,by rw [size_swp,iC],he,rfl⟩
   .rw [Ah (by simp [Ns h3])] at he
    simp only [Am,↓An,Jr,Ad h3]
    exact hK _ _ g6 (he ▸ Ts)
  .simp only [Am,↓An,b2,b10,hmul,Hn (show 2*r<_ by omega),show hi<=2*r+1 by omega,reduceCtorEq]
   rw [lM _ _ _ _ h1] at he
   exact hK _ _ g (he ▸ Co)
 .simp only [Am,a0,a2,a3,a4]
  exact ⟨lo,d,rfl,by omega,Fr.refl _ _ _,hs,rfl,rfl,rfl⟩
end
end Go.DD

/- Contracts: heap sort of changes; a range is turned round. Conditions: those that each theorem states. -/
namespace Go.DD
open Go Go.Proofs Go.Sort
theorem kO(t:Nat)(h:t<9000000000000):Cl .sub (.v (.int .i64 (t:Int))) (.v (.int .i64 1))=some (.v (.int .i64 ((t:Int)-1))):=by rw [Lh,Dk (by omega)]
theorem Ci2(t:Nat):(((t+1:Nat):Int)-1)=(t:Int):=by omega
theorem nL{a b:Nat}(h:a<=b)(hb:b<9000000000000):Cl .sub (.v (.int .i64 (b:Int))) (.v (.int .i64 (a:Int)))=some (.v (.int .i64 ((b-a:Nat):Int))):=by rw [Lh,Dk (by omega)];congr 3;omega
section
variable (k n0:Nat) (hp:Tr DObj) (nx:Nat) (K:DV->Tr DObj->Nat->Prop)
theorem Cp1(id n a b:Nat)(d:Array PCell)(hn:n0<=nx)(hs:SR hp n0 id n d)(Vu:a<b)(hb:b<=d.size)
  (hK:∀ Ap Ba,Fr hp nx id Ap Ba->SR Ap n0 id n (heapSort Cg d a b)->K (.tup []) Ap Ba):KW (kN (k+7)) (.fn 204) [.ms id 0 n 2,iv a,iv b,Cu] hp nx K:=by
 refine Oq (Gb (by decide)) ax (Ab rfl) λes e1 e2 he=>?_
 have a0:Ac es (.t .o)=.ms id 0 n 2:=he 0 _ rfl
 have a1:Ac es (.t (.l .o))=iv a:=he 1 _ rfl
 have a2:Ac es (.t (.r .o))=iv b:=he 2 _ rfl
 have a3:Ac es (.t (.l (.l .o)))=Cu:=he 3 _ rfl
 unfold GX
 subst e1 e2
 have Hq:=hs.s
 obtain ⟨hi,Tl⟩:∃ hi,hi=b-a:=⟨_,rfl⟩
 have Lc:Cl .sub (.v (.int .i64 (b:Int))) (.v (.int .i64 (a:Int)))=some (.v (.int .i64 (hi:Int))):=by rw [nL (by omega) (by omega),Tl]
 have mG:Cl .sub (.v (.int .i64 (hi:Int))) (.v (.int .i64 1))=some (.v (.int .i64 ((hi-1:Nat):Int))):=by rw [kO _ (by omega)];congr 3;omega
 have VZ:∀ Ap Ba,Fr es.hp es.nx id Ap Ba->SR Ap n0 id n (heapPop Cg a hi (heapBuild Cg hi a ((hi-1) / 2+1) d))->K (.tup []) Ap Ba:=by rw [Tl];exact hK
 simp only [Am,↓An,a1,a2,Lc,mG,Cx4 (show hi-1<_ by omega)]
 refine EW.l (I:=λm es1=>∃ d1,Fr es.hp es.nx id es1.hp es1.nx/\SR es1.hp n0 id n d1/\d1.size=d.size/\m<100001/\heapBuild Cg hi a m d1=heapBuild Cg hi a ((hi-1) / 2+1) d/\Ac es1 (.t .o)=.ms id 0 n 2/\Ac es1 (.t (.l (.l .o)))=Cu/\Ac es1 (.t (.r (.l (.l .o))))=iv a/\Ac es1 (.t (.l (.r (.l .o))))=iv ((0:Nat):Int)/\Ac es1 (.t (.r (.r (.l .o))))=iv hi/\Ac es1 (.t (.l (.l (.r .o))))=iv ((m:Int)-1)) ?_ ((hi-1) / 2+1) 1000000 _ ?_ (by omega)
 .rintro m es1 ⟨d1,g,Co,iC,hm,he,b0,b3,b8,b9,b10,b11⟩
  unfold Ch6
  have hle:=g.le
  cases m with
  | zero=>
   simp only [Am,↓An,b10,b11,show decide ((0:Int)<=0-1)=false from rfl,mG]
   have Ty:d1=heapBuild Cg hi a ((hi-1) / 2+1) d:=he
   rw [<- Ty] at VZ
   refine EW.l (I:=λm By=>∃ d2,Fr es.hp es.nx id By.hp By.nx/\SR By.hp n0 id n d2/\m<=hi/\heapPop Cg a m d2=heapPop Cg a hi d1/\Ac By (.t .o)=.ms id 0 n 2/\Ac By (.t (.l (.l .o)))=Cu/\Ac By (.t (.r (.l (.l .o))))=iv a/\Ac By (.t (.l (.r (.l .o))))=iv ((0:Nat):Int)/\Ac By (.t (.r (.l (.r .o))))=iv ((m:Int)-1)) ?_ hi 1000000 _ ?_ (by omega)
   .rintro m By ⟨d2,g2,Mf,pW,nI,b0,b3,b8,b9,Ig⟩
    unfold Ch7
    have Fq:=g2.le
    have C9:d2.size=d.size:=Mf.n.symm.trans hs.n
    cases m with
    | zero=>
     simp only [Am,↓An,Ig,show decide ((0:Int)<=0-1)=false from rfl]
     exact VZ _ _ g2 (by rw [<- nI];exact Mf)
    | succ m=>
     rw [Ci2] at Ig
     obtain ⟨pA,vA,Gd,Gi,lA⟩:=Mf.at (show a<d2.size by omega)
     obtain ⟨pB,vB,Fu,Ft,lB⟩:=Mf.at (show a+m<d2.size by omega)
     have Fa:=Gd.mono (Be (id:=id))
     have Ev:=Gi.mono (Be (id:=id))
     have Dr:=Fu.mono (Be (id:=id))
     have Dq:=Ft.mono (Be (id:=id))
     simp only [Am,↓An,b0,b8,Ig,show (0:Int)<=(m:Int) by omega,Wg (show a+m<_ by omega),Mf.ia (show a<d2.size by omega),Mf.ia (show a+m<d2.size by omega),lA,lB,Mf.rox (m:=20) (show n0<=By.nx by omega),Mw]
     refine ⟨Ci (Dr.rox (by omega)) (Dq.rox (by omega)),?_⟩
     refine Ge rfl (Re (R:=rChange) (i:=a) (n:=n) (id:=id) (v:=[pB,vB]) (y:=d2[a+m]!) (p:=λj=>j<n0/\j≠id) (by simp only [bR];rfl) Mf.o (by simp only [Di,bR];exact Kl Fu Ft) (rChange_rd.2 ⟨pB,vB,rfl,Fu,Ft⟩) (by simp;omega) (λh=>h.2 rfl) λGu Jq Hx=>?_)
     simp only [bR] at Hx
     obtain ⟨_,_,iO,Js,_⟩:=Jq.get
     have Xe:=Mf.h
     have Gt:=Gd.keep (Ap:=Gu) λj hj=>Hx j hj.2
     have Gs:=Gi.keep (Ap:=Gu) λj hj=>Hx j hj.2
     have gD:Ms Gu 2 (.ms id 0 n 2) (.v (.int .i64 ((a+m:Nat):Int)))=some (Cf 2 (.ms id 0 n 2) (a+m)):=Uy Jq.rl (by simp;omega)
     simp only [Am,↓An,gD,Mw,Il (n0:=By.nx) (m:=20) Js (show id<By.nx by omega)]
     refine ⟨Ci ((Gt.mono (Be (id:=id))).rox (by omega)) ((Gs.mono (Be (id:=id))).rox (by omega)),?_⟩
     refine Ge rfl (Re (R:=rChange) (i:=a+m) (n:=n) (id:=id) (v:=[pA,vA]) (y:=d2[a]!) (p:=λj=>j<n0/\j≠id) (by simp only [bR];rfl) Jq (by simp only [Di,bR];exact Kl Gt Gs) (rChange_rd.2 ⟨pA,vA,rfl,Gt,Gs⟩) (by simp;omega) (λh=>h.2 rfl) λDu cD Hd=>?_)
     simp only [bR] at Hd
     have Hs:=Mf.swp (show a<d2.size by omega) (show a+m<d2.size by omega) cD
     have g5:Fr es.hp es.nx id Du (By.nx+20):=g2.up (by omega) λq hq Mg=>by rw [Hd q Mg,Hx q Mg]
     obtain ⟨iM,Rt⟩:=Mf.get
     obtain ⟨iL,Rs⟩:=Hs.get
     have Rq:∀ {a1 a2:List Nat} {q1 q2:Nat} (p:Past),p∈[(⟨q1,a1,Gu,Du⟩:Past),⟨q2,a2,By.hp,Gu⟩]->(p.a.get id).isSome=true/\(p.b.get id).isSome=true:=λp hp=>by
      simp only [Ak,Ax,or_false] at hp
      rcases hp with rfl | rfl
      .exact ⟨by rw [Js];rfl,by rw [Rs];rfl⟩
      .exact ⟨by rw [Rt];rfl,by rw [Js];rfl⟩
     simp only [Am,↓An,b0,b3,b8,b9,Ig]
     refine ⟨fO (fJ id n) (by omega) (λp hp=>Rq p hp) rfl,?_⟩
     refine Dt (Bz9 k n0 _ _ _ id n 0 m a _ (by omega) Hs (by rw [size_swp];omega) (by omega) λGa Ih g6 Ts=>?_)
     simp only [Am,↓An,b0,b3,b8,b9,Ig,kO m (by omega)]
     exact ⟨m,by omega,_,g5.trans g6,Ts,by omega,nI,rfl⟩
   .simp only [Am,b0,b3,b8,b9]
    refine ⟨d1,g,Co,rfl,?_⟩
    show iv _=iv _
    congr 1
    omega
  | succ m=>
   rw [Ci2] at b11
   simp only [Am,↓An,b0,b3,b8,b10,b11,show (0:Int)<=(m:Int) by omega]
   refine Dt (Bz9 k n0 _ _ _ id n m hi a d1 (by omega) Co (by omega) (by omega) λHe Dn g3 Hr=>?_)
   simp only [Am,↓An,b0,b3,b8,b9,b10,b11,kO m (by omega)]
   exact ⟨m,by omega,_,g.trans g3,Hr,Hr.n.symm.trans hs.n,by omega,he,rfl⟩
 .simp only [Am,a0,a3]
  refine ⟨d,Fr.refl _ _ _,hs,rfl,by omega,rfl,?_⟩
  show iv _=iv _
  congr 1
  omega
end
end Go.DD

/- Contracts: a range of changes is turned round; two and three places are compared. Conditions: those that each theorem states. -/
namespace Go.DD
open Go Go.Proofs Go.Sort
def fX:DV->Option DV
 | .ia cs=>some (.ia cs)
 | .pt id off=>some (.pt id off)
 | .fn (.func f) cs=>some (.fn (.func f) cs)
 | .ifc T d=>some (.ifc T d)
 | _=>none
theorem zV(x:Operand)(es:ES)(nid:Nat):Bc (.nck x) es nid=Iw (fX (es.ds.ev x)):=by
 rw [Hf];simp only [Bb]
 cases es.ds.ev x with
 | fn f cs=>cases f <;> rfl
 | _=>rfl
theorem fI{dst:Option Pa}{x:Operand}{call:Bf}{es:ES}{Q:ES->Prop} : SW (sU dst (Bc (.nck x))) call es Q↔XW (fX (es.ds.ev x)) λd=>Q (es.putE dst d):=Zz (zV x)
theorem vZ(x:Operand)(nid:Nat)(es:ES):Dz (Bc (.nck x)) nid es=fX (es.ds.ev x):=fS (X:=λes=>fX (es.ds.ev x)) (zV x) nid
theorem Zs(id off:Nat):fX (.pt id off)=some (.pt id off):=rfl
theorem XD{a:Nat}(h:a<9000000000000000000):Cl .quo (.v (.int .i64 (a:Int))) (.v (.int .i64 4))=some (.v (.int .i64 ((a / 4:Nat):Int))):=by
 have e:(a:Int).tdiv 4=((a / 4:Nat):Int):=rfl
 have Fb:a / 4<=a:=Xp _ _
 generalize a / 4=q at e Fb ⊢
 have e2:Mq .quo .i64 (a:Int) 4=some (.int .i64 (q:Int)):=by
  unfold Mq
  simp only
  rw [Ae (by decide),e,Dk (by omega)]
 simp only [Cl,Lw,Nh]
 simp [e2]
theorem kH{hp:Tr DObj}(x y:Int):Fg hp (.tup [iv x,iv y]) 0=some (iv x):=tG λid hid=>by simp [DV.refs,DV.refsL] at hid
theorem Cy7(i j:Nat)(d:Array PCell)(h:i<j):reverseLoop i j d=reverseLoop (i+1) (j-1) (swp d i j):=by rw [reverseLoop,Ah h]
theorem Cy8(i j:Nat)(d:Array PCell)(h:¬ i<j):reverseLoop i j d=d:=by rw [reverseLoop,Ae h]
theorem Xn(t:Nat)(h:t<9000000000000)(h0:0<t):Cl .sub (.v (.int .i64 (t:Int))) (.v (.int .i64 1))=some (.v (.int .i64 ((t-1:Nat):Int))):=by rw [kO _ h];congr 3;omega
section
variable (k n0:Nat) (hp:Tr DObj) (nx:Nat) (K:DV->Tr DObj->Nat->Prop)
theorem Cy9(id n a b:Nat)(d:Array PCell)(hn:n0<=nx)(hs:SR hp n0 id n d)(Vu:a<b)(hb:b<=d.size)
  (hK:∀ Ap Ba,Fr hp nx id Ap Ba->SR Ap n0 id n (reverseRange d a b)->K (.tup []) Ap Ba):KW (kN (k+1)) (.fn 207) [.ms id 0 n 2,iv a,iv b,Cu] hp nx K:=by
 refine Oq (Gb (by decide)) aq (Ab rfl) λes e1 e2 he=>?_
 have a0:Ac es (.t .o)=.ms id 0 n 2:=he 0 _ rfl
 have a1:Ac es (.t (.l .o))=iv a:=he 1 _ rfl
 have a2:Ac es (.t (.r .o))=iv b:=he 2 _ rfl
 have a3:Ac es (.t (.l (.l .o)))=Cu:=he 3 _ rfl
 unfold GS
 subst e1 e2
 have Hq:=hs.s
 simp only [Am,↓An,a1,a2,Xn b (by omega) (by omega)]
 refine EW.l (I:=λm es1=>∃ i j d1,m=j-i/\j<b/\Fr es.hp es.nx id es1.hp es1.nx/\SR es1.hp n0 id n d1/\reverseLoop i j d1=reverseRange d a b/\Ac es1 (.t .o)=.ms id 0 n 2/\Ac es1 (.t (.r (.l (.l .o))))=iv (i:Nat)/\Ac es1 (.t (.l (.r (.l .o))))=iv (j:Nat)) ?_ (b-1-a) 1000000 _ ?_ (by omega)
 .rintro m es1 ⟨i,j,d1,hm,hj,g,Co,he,b0,b8,b9⟩
  unfold Ch9
  have hle:=g.le
  have iC:d1.size=d.size:=Co.n.symm.trans hs.n
  by_cases h:i<j
  .rw [Cy7 _ _ _ h] at he
   obtain ⟨pA,vA,Gd,Gi,lA⟩:=Co.at (show i<d1.size by omega)
   obtain ⟨pB,vB,Fu,Ft,lB⟩:=Co.at (show j<d1.size by omega)
   have Fa:=Gd.mono (Be (id:=id))
   have Ev:=Gi.mono (Be (id:=id))
   have Dr:=Fu.mono (Be (id:=id))
   have Dq:=Ft.mono (Be (id:=id))
   simp only [Am,↓An,b0,b8,b9,h,Co.ia (show i<d1.size by omega),Co.ia (show j<d1.size by omega),lA,lB,Co.rox (m:=16) (show n0<=es1.nx by omega),Mw]
   refine ⟨Ci (Dr.rox (by omega)) (Dq.rox (by omega)),?_⟩
   refine Ge rfl (Re (R:=rChange) (i:=i) (n:=n) (id:=id) (v:=[pB,vB]) (y:=d1[j]!) (p:=λj=>j<n0/\j≠id) (by simp only [bR];rfl) Co.o (by simp only [Di,bR];exact Kl Fu Ft) (rChange_rd.2 ⟨pB,vB,rfl,Fu,Ft⟩) (by simp;omega) (λh=>h.2 rfl) λGu Jq Hx=>?_)
   simp only [bR] at Hx
   obtain ⟨_,_,iO,Js,_⟩:=Jq.get
   have Xe:=Co.h
   have Gt:=Gd.keep (Ap:=Gu) λj hj=>Hx j hj.2
   have Gs:=Gi.keep (Ap:=Gu) λj hj=>Hx j hj.2
   have gD:Ms Gu 2 (.ms id 0 n 2) (.v (.int .i64 ((j:Nat):Int)))=some (Cf 2 (.ms id 0 n 2) (j)):=Uy Jq.rl (by simp;omega)
   simp only [Am,↓An,gD,Mw,Il (n0:=es1.nx) (m:=16) Js (show id<es1.nx by omega)]
   refine ⟨Ci ((Gt.mono (Be (id:=id))).rox (by omega)) ((Gs.mono (Be (id:=id))).rox (by omega)),?_⟩
   refine Ge rfl (Re (R:=rChange) (i:=j) (n:=n) (id:=id) (v:=[pA,vA]) (y:=d1[i]!) (p:=λj=>j<n0/\j≠id) (by simp only [bR];rfl) Jq (by simp only [Di,bR];exact Kl Gt Gs) (rChange_rd.2 ⟨pA,vA,rfl,Gt,Gs⟩) (by simp;omega) (λh=>h.2 rfl) λDu cD Hd=>?_)
   simp only [bR] at Hd
   have Hs:=Co.swp (show i<d1.size by omega) (show j<d1.size by omega) cD
   have g5:Fr es.hp es.nx id Du (es1.nx+16):=g.up (by omega) λq hq Mg=>by rw [Hd q Mg,Hx q Mg]
   obtain ⟨iM,Rt⟩:=Co.get
   obtain ⟨iL,Rs⟩:=Hs.get
   have Rq:∀ {a1 a2:List Nat} {q1 q2:Nat} (p:Past),p∈[(⟨q1,a1,Gu,Du⟩:Past),⟨q2,a2,es1.hp,Gu⟩]->(p.a.get id).isSome=true/\(p.b.get id).isSome=true:=λp hp=>by
    simp only [Ak,Ax,or_false] at hp
    rcases hp with rfl | rfl
    .exact ⟨by rw [Js];rfl,by rw [Rs];rfl⟩
    .exact ⟨by rw [Rt];rfl,by rw [Js];rfl⟩
   simp only [Am,↓An,b0,b8,b9,Hn (show i<_ by omega),Xn j (by omega) (by omega)]
   exact ⟨fO (fJ id n) (by omega) (λp hp=>Rq p hp) rfl,j-1-(i+1),by omega,i+1,j-1,_,rfl,by omega,g5,Hs,he,rfl,rfl⟩
  .rw [Cy8 _ _ _ h] at he
   simp only [Am,↓An,b8,b9,h]
   exact hK _ _ g (he ▸ Co)
 .simp only [Am,a0]
  exact ⟨a,b-1,d,rfl,by omega,Fr.refl _ _ _,hs,rfl,rfl,rfl⟩
def H9(hp:Tr DObj)(c:Nat)(s:Nat):Prop:=hp.get c=some (.row 3 [iv (s:Nat)])
theorem Az7(id n a b c s:Nat)(d:Array PCell)(hn:n0<=nx)(hs:SR hp n0 id n d)(ha:a<d.size)(hb:b<d.size)(hc:H9 hp c s)(Wb:n0<=c/\c<nx)(nE:s<100000)
  (hK:∀ Ap Ba x y s',Fr hp nx c Ap Ba->H9 Ap c s'->s'<=s+1->(x=a/\y=b)\/(x=b/\y=a)->K (.tup [iv (x:Nat),iv (y:Nat)]) Ap Ba):KW (kN (k+6)) (.fn 229) [.ms id 0 n 2,iv a,iv b,.pt c 0,Cu] hp nx K:=by
 refine bT (Gb (by decide)) ZZ (Ab rfl) λes e1 e2 he=>?_
 have a0:Ac es (.t .o)=.ms id 0 n 2:=he 0 _ rfl
 have a1:Ac es (.t (.l .o))=iv a:=he 1 _ rfl
 have a2:Ac es (.t (.r .o))=iv b:=he 2 _ rfl
 have a3:Ac es (.t (.l (.l .o)))=.pt c 0:=he 3 _ rfl
 have a4:Ac es (.t (.r (.l .o)))=Cu:=he 4 _ rfl
 unfold GH
 subst e1 e2
 have Hq:=hs.s
 have g:Fr es.hp es.nx id es.hp es.nx:=Fr.refl _ _ _
 obtain ⟨pA,vA,Gd,Gi,lA⟩:=hs.at (show b<d.size by omega)
 obtain ⟨pB,vB,Fu,Ft,lB⟩:=hs.at (show a<d.size by omega)
 have Fa:=Gd.mono (Be (id:=id))
 have Ev:=Gi.mono (Be (id:=id))
 have Dr:=Fu.mono (Be (id:=id))
 have Dq:=Ft.mono (Be (id:=id))
 simp only [Am,↓An,a0,a1,a2,a4,hs.ia (show b<d.size by omega),hs.ia (show a<d.size by omega),lA,lB,hs.rox (m:=11) (show n0<=es.nx by omega),Mw,lG]
 refine ⟨⟨Ci (Fa.rox (by omega)) (Ev.rox (by omega)),Ci (Dr.rox (by omega)) (Dq.rox (by omega))⟩,?_⟩
 refine Ge rfl (Zt (f:=126) (fs:=[]) (cs:=[]) (by rw [Di];simp only [bR];exact lI _) ?_)
 simp only [bR,Ao,Aq,Bu,Bh]
 refine lF k n0 _ _ _ pA vA pB vB d[b]! d[a]! (by omega) Fa Ev Dr Dq (hs.bA (show b<d.size by omega)) λDu Fm Cw=>?_
 have Fp:=Cw.le
 have Hs:=hs.al (nx:=es.nx+11) (by omega) Cw
 have g5:Fr es.hp es.nx id Du Fm:=g.up (by omega) λj hj _=>Cw.same j (by omega)
 have VO:Du.get c=_:=(Cw.same c (by omega)).trans hc
 by_cases h:Cd d[b]!.pos d[a]!.pos<0
 .simp only [Am,↓An,bP,a3,Fp,Ai h,↓fI,Qv VO,Zs,Of VO,Hn (show s<_ by omega)]
  refine Pt (id:=c) (off:=0) (by simp only [bR]) VO (by simp only [Di,bR];rfl) ⟨rfl,rfl⟩ (by simp) λGa aO Nk=>?_
  simp only [bR] at aO Nk
  simp only [Am,↓An,bP,a1,a2]
  exact hK _ _ b a (s+1) ⟨by omega,λj hj NG=>by rw [Nk j NG,Cw.same j (by omega)]⟩ aO (by omega) (.inr ⟨rfl,rfl⟩)
 .simp only [Am,↓An,bP,a1,a2,Fp,Ad h]
  exact hK _ _ a b s ⟨by omega,λj hj _=>Cw.same j (by omega)⟩ VO (by omega) (.inl ⟨rfl,rfl⟩)
theorem SR.keepC{hp Ap:Tr DObj}{n0 id n c nx Ba:Nat}{d:Array PCell}(h:SR hp n0 id n d)(hc:n0<=c)(hn:n0<=nx)(hf:Fr hp nx c Ap Ba):SR Ap n0 id n d:=h.keep λj hj=>hf.fr j (by omega) (by omega)
theorem Az8(id n a b e c s:Nat)(d:Array PCell)(hn:n0<=nx)(hs:SR hp n0 id n d)(ha:a<d.size)(hb:b<d.size)(qx:e<d.size)(hc:H9 hp c s)(Wb:n0<=c/\c<nx)(nE:s<10000)
  (hK:∀ Ap Ba x s',Fr hp nx c Ap Ba->H9 Ap c s'->s'<=s+3->x=a\/x=b\/x=e->K (iv (x:Nat)) Ap Ba):KW (kN (k+7)) (.fn 225) [.ms id 0 n 2,iv a,iv b,iv e,.pt c 0,Cu] hp nx K:=by
 refine Ds (Gb (by decide)) ab (Ab rfl) λes e1 e2 he=>?_
 have a0:Ac es (.t .o)=.ms id 0 n 2:=he 0 _ rfl
 have a1:Ac es (.t (.l .o))=iv a:=he 1 _ rfl
 have a2:Ac es (.t (.r .o))=iv b:=he 2 _ rfl
 have a3:Ac es (.t (.l (.l .o)))=iv e:=he 3 _ rfl
 have a4:Ac es (.t (.r (.l .o)))=.pt c 0:=he 4 _ rfl
 have a5:Ac es (.t (.l (.r .o)))=Cu:=he 5 _ rfl
 unfold GI
 subst e1 e2
 simp only [Am,↓An,a0,a1,a2,a4,a5]
 refine Dt (Az7 k n0 _ _ _ id n a b c s d hn hs ha hb hc Wb (by omega) λDv nx1 x1 y1 s1 g1 sV Co P0=>?_)
 have ph:=g1.le
 have AX:=hs.keepC Wb.1 hn g1
 simp only [Am,↓An,a0,a3,a4,a5,kH]
 refine Dt (Az7 k n0 _ _ _ id n y1 e c s1 d (by omega) AX (by rcases P0 with h | h <;> omega) qx sV ⟨Wb.1,by omega⟩ (by omega) λDb Hh x2 y2 s2 g2 rm Mf mc=>?_)
 have Fq:=g2.le
 have VS:=AX.keepC Wb.1 (by omega) g2
 simp only [Am,↓An,a0,a4,a5,kH]
 refine Dt (Az7 k n0 _ _ _ id n x1 x2 c s2 d (by omega) VS (by rcases P0 with h | h <;> omega) (by rcases P0 with h | h <;> rcases mc with h2 | h2 <;> omega) rm ⟨Wb.1,by omega⟩ (by omega) λHe Dn x3 y3 s3 g3 rn Hr aV4=>?_)
 simp only [Am,↓An,bP,kH]
 exact hK _ _ y3 s3 ((g1.trans g2).trans g3) rn (by omega) (by omega)
theorem Az9(id n a c s:Nat)(d:Array PCell)(hn:n0<=nx)(hs:SR hp n0 id n d)(ha:0<a)(hb:a+1<d.size)(hc:H9 hp c s)(Wb:n0<=c/\c<nx)(nE:s<10000)
  (hK:∀ Ap Ba x s',Fr hp nx c Ap Ba->H9 Ap c s'->s'<=s+3->a-1<=x/\x<=a+1->K (iv (x:Nat)) Ap Ba):KW (kN (k+8)) (.fn 224) [.ms id 0 n 2,iv a,.pt c 0,Cu] hp nx K:=by
 refine Ds (Gb (by decide)) ae (Ab rfl) λes e1 e2 he=>?_
 have a0:Ac es (.t .o)=.ms id 0 n 2:=he 0 _ rfl
 have a1:Ac es (.t (.l .o))=iv a:=he 1 _ rfl
 have a2:Ac es (.t (.r .o))=.pt c 0:=he 2 _ rfl
 have a3:Ac es (.t (.l (.l .o)))=Cu:=he 3 _ rfl
 unfold GJ
 subst e1 e2
 have Hq:=hs.s
 simp only [Am,↓An,a0,a1,a2,a3,Xn a (by omega) ha,Hn (show a<_ by omega)]
 refine Dt (Az8 k n0 _ _ _ id n (a-1) a (a+1) c s d hn hs (by omega) (by omega) hb hc Wb nE λDv nx1 x1 s1 g1 sV Co hx1=>?_)
 simp only [Am,↓An,bP]
 exact hK _ _ x1 s1 g1 sV Co (by omega)
theorem B83(id n a b:Nat)(d:Array PCell)(hn:n0<=nx)(hs:SR hp n0 id n d)(Vu:a+12<b)(hb:b<=d.size)
  (hK:∀ Ap Ba x h,Al hp nx Ap Ba->a<=x/\x<b->K (.tup [iv (x:Nat),iv h]) Ap Ba):KW (kN (k+9)) (.fn 206) [.ms id 0 n 2,iv a,iv b,Cu] hp nx K:=by
 refine bT (Gb (by decide)) au (Ab rfl) λes e1 e2 he=>?_
 have a0:Ac es (.t .o)=.ms id 0 n 2:=he 0 _ rfl
 have a1:Ac es (.t (.l .o))=iv a:=he 1 _ rfl
 have a2:Ac es (.t (.r .o))=iv b:=he 2 _ rfl
 have a3:Ac es (.t (.l (.l .o)))=Cu:=he 3 _ rfl
 unfold GU
 subst e1 e2
 have Hq:=hs.s
 obtain ⟨l,hl⟩:∃ l,l=b-a:=⟨_,rfl⟩
 have Lc:Cl .sub (.v (.int .i64 (b:Int))) (.v (.int .i64 (a:Int)))=some (.v (.int .i64 (l:Int))):=by rw [nL (by omega) (by omega),hl]
 have hq:Cl .quo (.v (.int .i64 (l:Int))) (.v (.int .i64 4))=some (.v (.int .i64 ((l / 4:Nat):Int))):=XD (by omega)
 have hm:∀ m:Nat,m<10->Cl .mul (.v (.int .i64 ((l / 4:Nat):Int))) (.v (.int .i64 (m:Int)))=some (.v (.int .i64 ((l / 4*m:Nat):Int))):=λm hm=>by
  have:l / 4*m<=100000*10:=Nat.mul_le_mul (by omega) (by omega)
  rw [Zq,<- Int.natCast_mul,Dk (by omega)]
 have hm1:Cl .mul (.v (.int .i64 ((l / 4:Nat):Int))) (.v (.int .i64 1))=some (.v (.int .i64 ((l / 4*1:Nat):Int))):=hm 1 (by omega)
 have pW:Cl .mul (.v (.int .i64 ((l / 4:Nat):Int))) (.v (.int .i64 2))=some (.v (.int .i64 ((l / 4*2:Nat):Int))):=hm 2 (by omega)
 have MV:Cl .mul (.v (.int .i64 ((l / 4:Nat):Int))) (.v (.int .i64 3))=some (.v (.int .i64 ((l / 4*3:Nat):Int))):=hm 3 (by omega)
 simp only [Am,↓An,a1,a2,Lc]
 refine Oe λDv Dc Cr=>?_
 simp only [bR] at Dc Cr
 have AX:=hs.keep (Ap:=Dv) λj hj=>Cr j (by omega)
 have hC1:H9 Dv es.nx 0:=Dc
 -- behind the choice
 have fin:∀ {es1:ES} {m s:Nat},Fr Dv (es.nx+1) es.nx es1.hp es1.nx->H9 es1.hp es.nx s->a<=m/\m<b->∀ h,K (.tup [iv (m:Nat),iv h]) es1.hp es1.nx:=λg _ hm h=>hK _ _ _ _ ⟨by have:=g.le;omega,λj hj=>by rw [g.fr j (by omega) (by omega),Cr j (by omega)]⟩ hm
 have l1:l / 4*1=l / 4:=Zv _
 have ba1:=Wg (a:=a) (b:=l / 4*1) (show _<_ by omega)
 have ba2:=Wg (a:=a) (b:=l / 4*2) (show _<_ by omega)
 have ba3:=Wg (a:=a) (b:=l / 4*3) (show _<_ by omega)
 have h8:(8:Int)<=(l:Int):=by omega
 by_cases td:(50:Int)<=(l:Int)
 .simp only [Am,↓An,a0,a1,a3,hq,hm1,pW,MV,ba1,ba2,ba3,Ai h8,Ai td]
  refine Dt (Az9 k n0 _ _ _ id n (a+l / 4*1) es.nx 0 d (by omega) AX (by omega) (by omega) hC1 ⟨by omega,by omega⟩ (by omega) λDb Hh x2 s2 g2 Nz Mf AD=>?_)
  have Fq:=g2.le
  have VS:=AX.keepC (by omega) (by omega) g2
  simp only [Am,↓An,a0,a3]
  refine Dt (Az9 k n0 _ _ _ id n (a+l / 4*2) es.nx s2 d (by omega) VS (by omega) (by omega) Nz ⟨by omega,by omega⟩ (by omega) λHe Dn x3 s3 g3 PA Hr hx3=>?_)
  have Ik:=g3.le
  have hS3:=VS.keepC (by omega) (by omega) g3
  simp only [Am,↓An,a0,a3]
  refine Dt (Az9 k n0 _ _ _ id n (a+l / 4*3) es.nx s3 d (by omega) hS3 (by omega) (by omega) PA ⟨by omega,by omega⟩ (by omega) λHo Lb x4 s4 g4 hC4 Lm hx4=>?_)
  have Vq:=g4.le
  have hS4:=hS3.keepC (by omega) (by omega) g4
  simp only [Am,↓An,a0,a3]
  refine Dt (Az8 (k+1) n0 _ _ _ id n x2 x3 x4 es.nx s4 d (by omega) hS4 (by omega) (by omega) (by omega) hC4 ⟨by omega,by omega⟩ (by omega) λDu Fm x5 s5 g5 mL Hs P1=>?_)
  have gg:=((g2.trans g3).trans g4).trans g5
  by_cases e1:(s5:Int)=0
  .simp only [Am,↓An,bP,Of mL,Ai e1]
   exact fin (es1:=⟨es.sl,Du,Fm⟩) gg mL (by rcases P1 with h | h | h <;> omega) _
  .by_cases e2:(s5:Int)=12
   .simp only [Am,↓An,bP,Of mL,Ad e1,Ai e2]
    exact fin (es1:=⟨es.sl,Du,Fm⟩) gg mL (by rcases P1 with h | h | h <;> omega) _
   .simp only [Am,↓An,bP,Of mL,Ad e1,Ad e2]
    exact fin (es1:=⟨es.sl,Du,Fm⟩) gg mL (by rcases P1 with h | h | h <;> omega) _
 .simp only [Am,↓An,a0,a1,a3,hq,hm1,pW,MV,ba1,ba2,ba3,Ai h8,Ad td]
  refine Dt (Az8 (k+1) n0 _ _ _ id n (a+l / 4*1) (a+l / 4*2) (a+l / 4*3) es.nx 0 d (by omega) AX (by omega) (by omega) (by omega) hC1 ⟨by omega,by omega⟩ (by omega) λDu Fm x5 s5 g5 mL Hs P1=>?_)
  by_cases e1:(s5:Int)=0
  .simp only [Am,↓An,bP,Of mL,Ai e1]
   exact fin (es1:=⟨es.sl,Du,Fm⟩) g5 mL (by rcases P1 with h | h | h <;> omega) _
  .by_cases e2:(s5:Int)=12
   .simp only [Am,↓An,bP,Of mL,Ad e1,Ai e2]
    exact fin (es1:=⟨es.sl,Du,Fm⟩) g5 mL (by rcases P1 with h | h | h <;> omega) _
   .simp only [Am,↓An,bP,Of mL,Ad e1,Ad e2]
    exact fin (es1:=⟨es.sl,Du,Fm⟩) g5 mL (by rcases P1 with h | h | h <;> omega) _
end
end Go.DD

/- Contracts: the scans of the partitions of changes. Conditions: those that each theorem states. -/
namespace Go.DD
open Go Go.Proofs Go.Sort
theorem tR(p:PCell->Bool)(d:Array PCell)(j i:Nat)(h:i<=j)(hp:p d[i]! = true):scanUp p d j i=scanUp p d j (i+1):=by rw [scanUp,Ah (by simp [h,hp])]
theorem Zy(p:PCell->Bool)(d:Array PCell)(j i:Nat)(h:¬ i<=j\/p d[i]! = false):scanUp p d j i=i:=by
 rw [scanUp,Ae]
 rcases h with h | h
 .simp [h]
 .simp [h]
theorem B00(p:PCell->Bool)(d:Array PCell)(i j:Nat)(h:i<=j+1)(hp:p d[j+1]! = true):scanDown p d i (j+1)=scanDown p d i j:=by rw [scanDown,Ah (by simp [h,hp])]
theorem CO(p:PCell->Bool)(d:Array PCell)(i j:Nat)(h:¬ i<=j\/p d[j]! = false):scanDown p d i j=j:=by
 cases j with
 | zero=>rfl
 | succ j=>
  rw [scanDown,Ae]
  rcases h with h | h
  .simp [h]
  .simp [h]
section
variable (k n0:Nat)
theorem Cz0{es:ES}{Q:Exit->ES->Prop}(id n a i j:Nat)(d:Array PCell)(hn:n0<=es.nx)(hs:SR es.hp n0 id n d)(ha:a<d.size)(Nm:i<=j+1)(hj:j<d.size)(b0:Ac es (.t .o)=.ms id 0 n 2)(b1:Ac es (.t (.l .o))=iv a)(b4:Ac es (.t (.r (.l .o)))=Cu)(bi:Ac es (.t (.r (.l (.r .o))))=iv (i:Nat))(bj:Ac es (.t (.l (.r (.r .o))))=iv (j:Nat))
  (hQ:∀ es':ES,Al es.hp es.nx es'.hp es'.nx->Ac es' (.t .o)=.ms id 0 n 2->Ac es' (.t (.l .o))=iv a->Ac es' (.t (.r (.l .o)))=Cu->Ac es' (.t (.r (.l (.r .o))))=iv ((scanUp (λx=>Cg x d[a]!) d j i:Nat))->Ac es' (.t (.l (.r (.r .o))))=iv (j:Nat)->Q (.exit 0) es') :
  EW (cL 1000000 yx) (kN (k+5)) es Q:=by
 have Hq:=hs.s
 refine EW.l (I:=λm es1=>∃ i',m=j+1-i'/\i'<=j+1/\i<=i'/\Al es.hp es.nx es1.hp es1.nx/\SR es1.hp n0 id n d/\scanUp (λx=>Cg x d[a]!) d j i'=scanUp (λx=>Cg x d[a]!) d j i/\Ac es1 (.t .o)=.ms id 0 n 2/\Ac es1 (.t (.l .o))=iv a/\Ac es1 (.t (.r (.l .o)))=Cu/\Ac es1 (.t (.r (.l (.r .o))))=iv (i':Nat)/\Ac es1 (.t (.l (.r (.r .o))))=iv (j:Nat)) ?_ (j+1-i) 1000000 _ ⟨i,rfl,Nm,Af _,Al.ini _ (Af _),hs,rfl,b0,b1,b4,bi,bj⟩ (by omega)
 rintro m es1 ⟨i',hm,Sa,NL,g,Co,he,b0,b1,b4,bi,bj⟩
 have hle:=g.le
 unfold yx
 have g0:Fr es.hp es.nx id es1.hp es1.nx:=⟨g.le,λj hj _=>g.same j hj⟩
 by_cases h:i'<=j
 .obtain ⟨pA,vA,Gd,Gi,lA⟩:=Co.at (show i'<d.size by omega)
  obtain ⟨pB,vB,Fu,Ft,lB⟩:=Co.at (show a<d.size by omega)
  have Fa:=Gd.mono (Be (id:=id))
  have Ev:=Gi.mono (Be (id:=id))
  have Dr:=Fu.mono (Be (id:=id))
  have Dq:=Ft.mono (Be (id:=id))
  simp only [Am,↓An,b0,b1,b4,bi,bj,h,Co.ia (show i'<d.size by omega),Co.ia (show a<d.size by omega),lA,lB,Co.rox (m:=16) (show n0<=es1.nx by omega),Mw,lG]
  refine ⟨⟨Ci (Fa.rox (by omega)) (Ev.rox (by omega)),Ci (Dr.rox (by omega)) (Dq.rox (by omega))⟩,?_⟩
  refine Ge rfl (Zt (f:=126) (fs:=[]) (cs:=[]) (by rw [Di];simp only [bR];exact lI _) ?_)
  simp only [bR,Ao,Aq,Bu,Bh]
  refine lF k n0 _ _ _ pA vA pB vB d[i']! d[a]! (by omega) Fa Ev Dr Dq (Co.bA (show i'<d.size by omega)) λDu Fm Cw=>?_
  have Fp:=Cw.le
  have Hs:=Co.al (nx:=es1.nx+16) (by omega) Cw
  have g5:Fr es.hp es.nx id Du Fm:=g0.up (by omega) λj hj _=>Cw.same j (by omega)
  have Zh:Al es.hp es.nx Du Fm:=⟨by omega,λj hj=>by rw [Cw.same j (by omega),g.same j hj]⟩
  by_cases h2:Cd d[i']!.pos d[a]!.pos<0
  .rw [tR (λx=>Cg x d[a]!) _ _ _ h (Pc h2)] at he
   simp only [Am,↓An,b0,b1,b4,bi,bj,Fp,Ai h2,Hn (show i'<_ by omega)]
   exact ⟨j+1-(i'+1),by omega,i'+1,rfl,by omega,by omega,Zh,Hs,he,rfl⟩
  .rw [Zy (λx=>Cg x d[a]!) _ _ _ (.inr (Ns h2))] at he
   simp only [Am,↓An,Fp,Ad h2]
   exact hQ _ Zh (by simp only [bR,b0]) (by simp only [bR,b1]) (by simp only [bR,b4]) (by simp only [bR,bi];rw [he]) (by simp only [bR,bj])
 .rw [Zy (λx=>Cg x d[a]!) _ _ _ (.inl h)] at he
  simp only [Am,↓An,bi,bj,h]
  exact hQ _ ⟨by simp only [];omega,λj hj=>by simp only [];exact g.same j hj⟩ (by simp only [bR,b0]) (by simp only [bR,b1]) (by simp only [bR,b4]) (by simp only [bR,bi];rw [he]) (by simp only [bR,bj])
theorem Cz1{es:ES}{Q:Exit->ES->Prop}(id n a i j:Nat)(d:Array PCell)(hn:n0<=es.nx)(hs:SR es.hp n0 id n d)(ha:a<d.size)(sS:0<i)(hj:j<d.size)(b0:Ac es (.t .o)=.ms id 0 n 2)(b1:Ac es (.t (.l .o))=iv a)(b4:Ac es (.t (.r (.l .o)))=Cu)(bi:Ac es (.t (.r (.l (.r .o))))=iv (i:Nat))(bj:Ac es (.t (.l (.r (.r .o))))=iv (j:Nat))
  (hQ:∀ es':ES,Al es.hp es.nx es'.hp es'.nx->Ac es' (.t .o)=.ms id 0 n 2->Ac es' (.t (.l .o))=iv a->Ac es' (.t (.r (.l .o)))=Cu->Ac es' (.t (.l (.r (.r .o))))=iv ((scanDown (λx=>!Cg x d[a]!) d i j:Nat))->Ac es' (.t (.r (.l (.r .o))))=iv (i:Nat)->Q (.exit 2) es') :
  EW (cL 1000000 yw) (kN (k+5)) es Q:=by
 have Hq:=hs.s
 refine EW.l (I:=λm es1=>m<=j/\Al es.hp es.nx es1.hp es1.nx/\SR es1.hp n0 id n d/\scanDown (λx=>!Cg x d[a]!) d i m=scanDown (λx=>!Cg x d[a]!) d i j/\Ac es1 (.t .o)=.ms id 0 n 2/\Ac es1 (.t (.l .o))=iv a/\Ac es1 (.t (.r (.l .o)))=Cu/\Ac es1 (.t (.r (.l (.r .o))))=iv (i:Nat)/\Ac es1 (.t (.l (.r (.r .o))))=iv (m:Nat)) ?_ j 1000000 _ ⟨Af _,Al.ini _ (Af _),hs,rfl,b0,b1,b4,bi,bj⟩ (by omega)
 rintro m es1 ⟨hm,g,Co,he,b0,b1,b4,bi,bj⟩
 have hle:=g.le
 unfold yw
 have g0:Fr es.hp es.nx id es1.hp es1.nx:=⟨g.le,λj hj _=>g.same j hj⟩
 by_cases h:i<=m
 .obtain ⟨m,rfl⟩:∃ m',m=m'+1:=⟨m-1,by omega⟩
  obtain ⟨pA,vA,Gd,Gi,lA⟩:=Co.at (show m+1<d.size by omega)
  obtain ⟨pB,vB,Fu,Ft,lB⟩:=Co.at (show a<d.size by omega)
  have Fa:=Gd.mono (Be (id:=id))
  have Ev:=Gi.mono (Be (id:=id))
  have Dr:=Fu.mono (Be (id:=id))
  have Dq:=Ft.mono (Be (id:=id))
  simp only [Am,↓An,b0,b1,b4,bi,bj,h,Co.ia (show m+1<d.size by omega),Co.ia (show a<d.size by omega),lA,lB,Co.rox (m:=17) (show n0<=es1.nx by omega),Mw,lG]
  refine ⟨⟨Ci (Fa.rox (by omega)) (Ev.rox (by omega)),Ci (Dr.rox (by omega)) (Dq.rox (by omega))⟩,?_⟩
  refine Ge rfl (Zt (f:=126) (fs:=[]) (cs:=[]) (by rw [Di];simp only [bR];exact lI _) ?_)
  simp only [bR,Ao,Aq,Bu,Bh]
  refine lF k n0 _ _ _ pA vA pB vB d[m+1]! d[a]! (by omega) Fa Ev Dr Dq (Co.bA (show m+1<d.size by omega)) λDu Fm Cw=>?_
  have Fp:=Cw.le
  have Hs:=Co.al (nx:=es1.nx+17) (by omega) Cw
  have g5:Fr es.hp es.nx id Du Fm:=g0.up (by omega) λj hj _=>Cw.same j (by omega)
  have Zh:Al es.hp es.nx Du Fm:=⟨by omega,λj hj=>by rw [Cw.same j (by omega),g.same j hj]⟩
  by_cases h2:Cd d[m+1]!.pos d[a]!.pos<0
  .rw [CO (λx=>!Cg x d[a]!) _ _ _ (.inr (by simp only [Pc h2];rfl))] at he
   simp only [Am,↓An,Fp,Ai h2]
   exact hQ _ Zh (by simp only [bR,b0]) (by simp only [bR,b1]) (by simp only [bR,b4]) (by simp only [bR,bj];rw [he]) (by simp only [bR,bi])
  .rw [B00 (λx=>!Cg x d[a]!) _ _ _ h (by simp only [Ns h2];rfl)] at he
   simp only [Am,↓An,b0,b1,b4,bi,bj,Fp,Ad h2,wA (show m<_ by omega)]
   exact ⟨m,by omega,by omega,Zh,Hs,he,rfl⟩
 .rw [CO (λx=>!Cg x d[a]!) _ _ _ (.inl h)] at he
  simp only [Am,↓An,bi,bj,h]
  exact hQ _ ⟨by simp only [];omega,λj hj=>by simp only [];exact g.same j hj⟩ (by simp only [bR,b0]) (by simp only [bR,b1]) (by simp only [bR,b4]) (by simp only [bR,bj];rw [he]) (by simp only [bR,bi])
theorem Cz2{es:ES}{Q:Exit->ES->Prop}(id n a i j:Nat)(d:Array PCell)(hn:n0<=es.nx)(hs:SR es.hp n0 id n d)(ha:a<d.size)(Nm:i<=j+1)(hj:j<d.size)(b0:Ac es (.t .o)=.ms id 0 n 2)(b1:Ac es (.t (.l .o))=iv a)(b4:Ac es (.t (.r (.l .o)))=Cu)(bi:Ac es (.t (.r (.l (.r .o))))=iv (i:Nat))(bj:Ac es (.t (.l (.r (.r .o))))=iv (j:Nat))
  (hQ:∀ es':ES,Al es.hp es.nx es'.hp es'.nx->Ac es' (.t .o)=.ms id 0 n 2->Ac es' (.t (.l .o))=iv a->Ac es' (.t (.r (.l .o)))=Cu->Ac es' (.t (.r (.l (.r .o))))=iv ((scanUp (λx=>Cg x d[a]!) d j i:Nat))->Ac es' (.t (.l (.r (.r .o))))=iv (j:Nat)->Q (.exit 6) es') :
  EW (cL 1000000 yv) (kN (k+5)) es Q:=by
 have Hq:=hs.s
 refine EW.l (I:=λm es1=>∃ i',m=j+1-i'/\i'<=j+1/\i<=i'/\Al es.hp es.nx es1.hp es1.nx/\SR es1.hp n0 id n d/\scanUp (λx=>Cg x d[a]!) d j i'=scanUp (λx=>Cg x d[a]!) d j i/\Ac es1 (.t .o)=.ms id 0 n 2/\Ac es1 (.t (.l .o))=iv a/\Ac es1 (.t (.r (.l .o)))=Cu/\Ac es1 (.t (.r (.l (.r .o))))=iv (i':Nat)/\Ac es1 (.t (.l (.r (.r .o))))=iv (j:Nat)) ?_ (j+1-i) 1000000 _ ⟨i,rfl,Nm,Af _,Al.ini _ (Af _),hs,rfl,b0,b1,b4,bi,bj⟩ (by omega)
 rintro m es1 ⟨i',hm,Sa,NL,g,Co,he,b0,b1,b4,bi,bj⟩
 have hle:=g.le
 unfold yv
 have g0:Fr es.hp es.nx id es1.hp es1.nx:=⟨g.le,λj hj _=>g.same j hj⟩
 by_cases h:i'<=j
 .obtain ⟨pA,vA,Gd,Gi,lA⟩:=Co.at (show i'<d.size by omega)
  obtain ⟨pB,vB,Fu,Ft,lB⟩:=Co.at (show a<d.size by omega)
  have Fa:=Gd.mono (Be (id:=id))
  have Ev:=Gi.mono (Be (id:=id))
  have Dr:=Fu.mono (Be (id:=id))
  have Dq:=Ft.mono (Be (id:=id))
  simp only [Am,↓An,b0,b1,b4,bi,bj,h,Co.ia (show i'<d.size by omega),Co.ia (show a<d.size by omega),lA,lB,Co.rox (m:=16) (show n0<=es1.nx by omega),Mw,lG]
  refine ⟨⟨Ci (Fa.rox (by omega)) (Ev.rox (by omega)),Ci (Dr.rox (by omega)) (Dq.rox (by omega))⟩,?_⟩
  refine Ge rfl (Zt (f:=126) (fs:=[]) (cs:=[]) (by rw [Di];simp only [bR];exact lI _) ?_)
  simp only [bR,Ao,Aq,Bu,Bh]
  refine lF k n0 _ _ _ pA vA pB vB d[i']! d[a]! (by omega) Fa Ev Dr Dq (Co.bA (show i'<d.size by omega)) λDu Fm Cw=>?_
  have Fp:=Cw.le
  have Hs:=Co.al (nx:=es1.nx+16) (by omega) Cw
  have g5:Fr es.hp es.nx id Du Fm:=g0.up (by omega) λj hj _=>Cw.same j (by omega)
  have Zh:Al es.hp es.nx Du Fm:=⟨by omega,λj hj=>by rw [Cw.same j (by omega),g.same j hj]⟩
  by_cases h2:Cd d[i']!.pos d[a]!.pos<0
  .rw [tR (λx=>Cg x d[a]!) _ _ _ h (Pc h2)] at he
   simp only [Am,↓An,b0,b1,b4,bi,bj,Fp,Ai h2,Hn (show i'<_ by omega)]
   exact ⟨j+1-(i'+1),by omega,i'+1,rfl,by omega,by omega,Zh,Hs,he,rfl⟩
  .rw [Zy (λx=>Cg x d[a]!) _ _ _ (.inr (Ns h2))] at he
   simp only [Am,↓An,Fp,Ad h2]
   exact hQ _ Zh (by simp only [bR,b0]) (by simp only [bR,b1]) (by simp only [bR,b4]) (by simp only [bR,bi];rw [he]) (by simp only [bR,bj])
 .rw [Zy (λx=>Cg x d[a]!) _ _ _ (.inl h)] at he
  simp only [Am,↓An,bi,bj,h]
  exact hQ _ ⟨by simp only [];omega,λj hj=>by simp only [];exact g.same j hj⟩ (by simp only [bR,b0]) (by simp only [bR,b1]) (by simp only [bR,b4]) (by simp only [bR,bi];rw [he]) (by simp only [bR,bj])
theorem Cz3{es:ES}{Q:Exit->ES->Prop}(id n a i j:Nat)(d:Array PCell)(hn:n0<=es.nx)(hs:SR es.hp n0 id n d)(ha:a<d.size)(sS:0<i)(hj:j<d.size)(b0:Ac es (.t .o)=.ms id 0 n 2)(b1:Ac es (.t (.l .o))=iv a)(b4:Ac es (.t (.r (.l .o)))=Cu)(bi:Ac es (.t (.r (.l (.r .o))))=iv (i:Nat))(bj:Ac es (.t (.l (.r (.r .o))))=iv (j:Nat))
  (hQ:∀ es':ES,Al es.hp es.nx es'.hp es'.nx->Ac es' (.t .o)=.ms id 0 n 2->Ac es' (.t (.l .o))=iv a->Ac es' (.t (.r (.l .o)))=Cu->Ac es' (.t (.l (.r (.r .o))))=iv ((scanDown (λx=>!Cg x d[a]!) d i j:Nat))->Ac es' (.t (.r (.l (.r .o))))=iv (i:Nat)->Q (.exit 8) es') :
  EW (cL 1000000 yu) (kN (k+5)) es Q:=by
 have Hq:=hs.s
 refine EW.l (I:=λm es1=>m<=j/\Al es.hp es.nx es1.hp es1.nx/\SR es1.hp n0 id n d/\scanDown (λx=>!Cg x d[a]!) d i m=scanDown (λx=>!Cg x d[a]!) d i j/\Ac es1 (.t .o)=.ms id 0 n 2/\Ac es1 (.t (.l .o))=iv a/\Ac es1 (.t (.r (.l .o)))=Cu/\Ac es1 (.t (.r (.l (.r .o))))=iv (i:Nat)/\Ac es1 (.t (.l (.r (.r .o))))=iv (m:Nat)) ?_ j 1000000 _ ⟨Af _,Al.ini _ (Af _),hs,rfl,b0,b1,b4,bi,bj⟩ (by omega)
 rintro m es1 ⟨hm,g,Co,he,b0,b1,b4,bi,bj⟩
 have hle:=g.le
 unfold yu
 have g0:Fr es.hp es.nx id es1.hp es1.nx:=⟨g.le,λj hj _=>g.same j hj⟩
 by_cases h:i<=m
 .obtain ⟨m,rfl⟩:∃ m',m=m'+1:=⟨m-1,by omega⟩
  obtain ⟨pA,vA,Gd,Gi,lA⟩:=Co.at (show m+1<d.size by omega)
  obtain ⟨pB,vB,Fu,Ft,lB⟩:=Co.at (show a<d.size by omega)
  have Fa:=Gd.mono (Be (id:=id))
  have Ev:=Gi.mono (Be (id:=id))
  have Dr:=Fu.mono (Be (id:=id))
  have Dq:=Ft.mono (Be (id:=id))
  simp only [Am,↓An,b0,b1,b4,bi,bj,h,Co.ia (show m+1<d.size by omega),Co.ia (show a<d.size by omega),lA,lB,Co.rox (m:=17) (show n0<=es1.nx by omega),Mw,lG]
  refine ⟨⟨Ci (Fa.rox (by omega)) (Ev.rox (by omega)),Ci (Dr.rox (by omega)) (Dq.rox (by omega))⟩,?_⟩
  refine Ge rfl (Zt (f:=126) (fs:=[]) (cs:=[]) (by rw [Di];simp only [bR];exact lI _) ?_)
  simp only [bR,Ao,Aq,Bu,Bh]
  refine lF k n0 _ _ _ pA vA pB vB d[m+1]! d[a]! (by omega) Fa Ev Dr Dq (Co.bA (show m+1<d.size by omega)) λDu Fm Cw=>?_
  have Fp:=Cw.le
  have Hs:=Co.al (nx:=es1.nx+17) (by omega) Cw
  have g5:Fr es.hp es.nx id Du Fm:=g0.up (by omega) λj hj _=>Cw.same j (by omega)
  have Zh:Al es.hp es.nx Du Fm:=⟨by omega,λj hj=>by rw [Cw.same j (by omega),g.same j hj]⟩
  by_cases h2:Cd d[m+1]!.pos d[a]!.pos<0
  .rw [CO (λx=>!Cg x d[a]!) _ _ _ (.inr (by simp only [Pc h2];rfl))] at he
   simp only [Am,↓An,Fp,Ai h2]
   exact hQ _ Zh (by simp only [bR,b0]) (by simp only [bR,b1]) (by simp only [bR,b4]) (by simp only [bR,bj];rw [he]) (by simp only [bR,bi])
  .rw [B00 (λx=>!Cg x d[a]!) _ _ _ h (by simp only [Ns h2];rfl)] at he
   simp only [Am,↓An,b0,b1,b4,bi,bj,Fp,Ad h2,wA (show m<_ by omega)]
   exact ⟨m,by omega,by omega,Zh,Hs,he,rfl⟩
 .rw [CO (λx=>!Cg x d[a]!) _ _ _ (.inl h)] at he
  simp only [Am,↓An,bi,bj,h]
  exact hQ _ ⟨by simp only [];omega,λj hj=>by simp only [];exact g.same j hj⟩ (by simp only [bR,b0]) (by simp only [bR,b1]) (by simp only [bR,b4]) (by simp only [bR,bj];rw [he]) (by simp only [bR,bi])
theorem QB{es:ES}{Q:Exit->ES->Prop}(id n a i j:Nat)(d:Array PCell)(hn:n0<=es.nx)(hs:SR es.hp n0 id n d)(ha:a<d.size)(Nm:i<=j+1)(hj:j<d.size)(b0:Ac es (.t .o)=.ms id 0 n 2)(b1:Ac es (.t (.l .o))=iv a)(b4:Ac es (.t (.r (.l .o)))=Cu)(bi:Ac es (.t (.l (.l (.r .o))))=iv (i:Nat))(bj:Ac es (.t (.r (.l (.r .o))))=iv (j:Nat))
  (hQ:∀ es':ES,Al es.hp es.nx es'.hp es'.nx->Ac es' (.t .o)=.ms id 0 n 2->Ac es' (.t (.l .o))=iv a->Ac es' (.t (.r (.l .o)))=Cu->Ac es' (.t (.l (.l (.r .o))))=iv ((scanUp (λx=>!Cg d[a]! x) d j i:Nat))->Ac es' (.t (.r (.l (.r .o))))=iv (j:Nat)->Q (.exit 2) es') :
  EW (cL 1000000 za) (kN (k+5)) es Q:=by
 have Hq:=hs.s
 refine EW.l (I:=λm es1=>∃ i',m=j+1-i'/\i'<=j+1/\i<=i'/\Al es.hp es.nx es1.hp es1.nx/\SR es1.hp n0 id n d/\scanUp (λx=>!Cg d[a]! x) d j i'=scanUp (λx=>!Cg d[a]! x) d j i/\Ac es1 (.t .o)=.ms id 0 n 2/\Ac es1 (.t (.l .o))=iv a/\Ac es1 (.t (.r (.l .o)))=Cu/\Ac es1 (.t (.l (.l (.r .o))))=iv (i':Nat)/\Ac es1 (.t (.r (.l (.r .o))))=iv (j:Nat)) ?_ (j+1-i) 1000000 _ ⟨i,rfl,Nm,Af _,Al.ini _ (Af _),hs,rfl,b0,b1,b4,bi,bj⟩ (by omega)
 rintro m es1 ⟨i',hm,Sa,NL,g,Co,he,b0,b1,b4,bi,bj⟩
 have hle:=g.le
 unfold za
 have g0:Fr es.hp es.nx id es1.hp es1.nx:=⟨g.le,λj hj _=>g.same j hj⟩
 by_cases h:i'<=j
 .obtain ⟨pA,vA,Gd,Gi,lA⟩:=Co.at (show a<d.size by omega)
  obtain ⟨pB,vB,Fu,Ft,lB⟩:=Co.at (show i'<d.size by omega)
  have Fa:=Gd.mono (Be (id:=id))
  have Ev:=Gi.mono (Be (id:=id))
  have Dr:=Fu.mono (Be (id:=id))
  have Dq:=Ft.mono (Be (id:=id))
  simp only [Am,↓An,b0,b1,b4,bi,bj,h,Co.ia (show a<d.size by omega),Co.ia (show i'<d.size by omega),lA,lB,Co.rox (m:=17) (show n0<=es1.nx by omega),Mw,lG]
  refine ⟨⟨Ci (Fa.rox (by omega)) (Ev.rox (by omega)),Ci (Dr.rox (by omega)) (Dq.rox (by omega))⟩,?_⟩
  refine Ge rfl (Zt (f:=126) (fs:=[]) (cs:=[]) (by rw [Di];simp only [bR];exact lI _) ?_)
  simp only [bR,Ao,Aq,Bu,Bh]
  refine lF k n0 _ _ _ pA vA pB vB d[a]! d[i']! (by omega) Fa Ev Dr Dq (Co.bA (show a<d.size by omega)) λDu Fm Cw=>?_
  have Fp:=Cw.le
  have Hs:=Co.al (nx:=es1.nx+17) (by omega) Cw
  have g5:Fr es.hp es.nx id Du Fm:=g0.up (by omega) λj hj _=>Cw.same j (by omega)
  have Zh:Al es.hp es.nx Du Fm:=⟨by omega,λj hj=>by rw [Cw.same j (by omega),g.same j hj]⟩
  by_cases h2:Cd d[a]!.pos d[i']!.pos<0
  .rw [Zy (λx=>!Cg d[a]! x) _ _ _ (.inr (by simp only [Pc h2];rfl))] at he
   simp only [Am,↓An,Fp,Ai h2]
   exact hQ _ Zh (by simp only [bR,b0]) (by simp only [bR,b1]) (by simp only [bR,b4]) (by simp only [bR,bi];rw [he]) (by simp only [bR,bj])
  .rw [tR (λx=>!Cg d[a]! x) _ _ _ h (by simp only [Ns h2];rfl)] at he
   simp only [Am,↓An,b0,b1,b4,bi,bj,Fp,Ad h2,Hn (show i'<_ by omega)]
   exact ⟨j+1-(i'+1),by omega,i'+1,rfl,by omega,by omega,Zh,Hs,he,rfl⟩
 .rw [Zy (λx=>!Cg d[a]! x) _ _ _ (.inl h)] at he
  simp only [Am,↓An,bi,bj,h]
  exact hQ _ ⟨by simp only [];omega,λj hj=>by simp only [];exact g.same j hj⟩ (by simp only [bR,b0]) (by simp only [bR,b1]) (by simp only [bR,b4]) (by simp only [bR,bi];rw [he]) (by simp only [bR,bj])
theorem QC{es:ES}{Q:Exit->ES->Prop}(id n a i j:Nat)(d:Array PCell)(hn:n0<=es.nx)(hs:SR es.hp n0 id n d)(ha:a<d.size)(sS:0<i)(hj:j<d.size)(b0:Ac es (.t .o)=.ms id 0 n 2)(b1:Ac es (.t (.l .o))=iv a)(b4:Ac es (.t (.r (.l .o)))=Cu)(bi:Ac es (.t (.l (.l (.r .o))))=iv (i:Nat))(bj:Ac es (.t (.r (.l (.r .o))))=iv (j:Nat))
  (hQ:∀ es':ES,Al es.hp es.nx es'.hp es'.nx->Ac es' (.t .o)=.ms id 0 n 2->Ac es' (.t (.l .o))=iv a->Ac es' (.t (.r (.l .o)))=Cu->Ac es' (.t (.r (.l (.r .o))))=iv ((scanDown (λx=>Cg d[a]! x) d i j:Nat))->Ac es' (.t (.l (.l (.r .o))))=iv (i:Nat)->Q (.exit 4) es') :
  EW (cL 1000000 yz) (kN (k+5)) es Q:=by
 have Hq:=hs.s
 refine EW.l (I:=λm es1=>m<=j/\Al es.hp es.nx es1.hp es1.nx/\SR es1.hp n0 id n d/\scanDown (λx=>Cg d[a]! x) d i m=scanDown (λx=>Cg d[a]! x) d i j/\Ac es1 (.t .o)=.ms id 0 n 2/\Ac es1 (.t (.l .o))=iv a/\Ac es1 (.t (.r (.l .o)))=Cu/\Ac es1 (.t (.l (.l (.r .o))))=iv (i:Nat)/\Ac es1 (.t (.r (.l (.r .o))))=iv (m:Nat)) ?_ j 1000000 _ ⟨Af _,Al.ini _ (Af _),hs,rfl,b0,b1,b4,bi,bj⟩ (by omega)
 rintro m es1 ⟨hm,g,Co,he,b0,b1,b4,bi,bj⟩
 have hle:=g.le
 unfold yz
 have g0:Fr es.hp es.nx id es1.hp es1.nx:=⟨g.le,λj hj _=>g.same j hj⟩
 by_cases h:i<=m
 .obtain ⟨m,rfl⟩:∃ m',m=m'+1:=⟨m-1,by omega⟩
  obtain ⟨pA,vA,Gd,Gi,lA⟩:=Co.at (show a<d.size by omega)
  obtain ⟨pB,vB,Fu,Ft,lB⟩:=Co.at (show m+1<d.size by omega)
  have Fa:=Gd.mono (Be (id:=id))
  have Ev:=Gi.mono (Be (id:=id))
  have Dr:=Fu.mono (Be (id:=id))
  have Dq:=Ft.mono (Be (id:=id))
  simp only [Am,↓An,b0,b1,b4,bi,bj,h,Co.ia (show a<d.size by omega),Co.ia (show m+1<d.size by omega),lA,lB,Co.rox (m:=16) (show n0<=es1.nx by omega),Mw,lG]
  refine ⟨⟨Ci (Fa.rox (by omega)) (Ev.rox (by omega)),Ci (Dr.rox (by omega)) (Dq.rox (by omega))⟩,?_⟩
  refine Ge rfl (Zt (f:=126) (fs:=[]) (cs:=[]) (by rw [Di];simp only [bR];exact lI _) ?_)
  simp only [bR,Ao,Aq,Bu,Bh]
  refine lF k n0 _ _ _ pA vA pB vB d[a]! d[m+1]! (by omega) Fa Ev Dr Dq (Co.bA (show a<d.size by omega)) λDu Fm Cw=>?_
  have Fp:=Cw.le
  have Hs:=Co.al (nx:=es1.nx+16) (by omega) Cw
  have g5:Fr es.hp es.nx id Du Fm:=g0.up (by omega) λj hj _=>Cw.same j (by omega)
  have Zh:Al es.hp es.nx Du Fm:=⟨by omega,λj hj=>by rw [Cw.same j (by omega),g.same j hj]⟩
  by_cases h2:Cd d[a]!.pos d[m+1]!.pos<0
  .rw [B00 (λx=>Cg d[a]! x) _ _ _ h (Pc h2)] at he
   simp only [Am,↓An,b0,b1,b4,bi,bj,Fp,Ai h2,wA (show m<_ by omega)]
   exact ⟨m,by omega,by omega,Zh,Hs,he,rfl⟩
  .rw [CO (λx=>Cg d[a]! x) _ _ _ (.inr (Ns h2))] at he
   simp only [Am,↓An,Fp,Ad h2]
   exact hQ _ Zh (by simp only [bR,b0]) (by simp only [bR,b1]) (by simp only [bR,b4]) (by simp only [bR,bj];rw [he]) (by simp only [bR,bi])
 .rw [CO (λx=>Cg d[a]! x) _ _ _ (.inl h)] at he
  simp only [Am,↓An,bi,bj,h]
  exact hQ _ ⟨by simp only [];omega,λj hj=>by simp only [];exact g.same j hj⟩ (by simp only [bR,b0]) (by simp only [bR,b1]) (by simp only [bR,b4]) (by simp only [bR,bj];rw [he]) (by simp only [bR,bi])
end
end Go.DD

/- Contracts: the two partitions of changes. Conditions: those that each theorem states. -/
namespace Go.DD
open Go Go.Proofs Go.Sort
theorem jG(p:PCell->Bool)(d:Array PCell)(j:Nat):∀ (m i:Nat),j+1-i=m->i<=j+1->scanUp p d j i<=j+1
 | 0,i,hm,hi=>by rw [Zy _ _ _ _ (.inl (by omega))];exact hi
 | m+1,i,hm,hi=>by
  by_cases h:i<=j
  .cases hp:p d[i]! with
   | true=>rw [tR _ _ _ _ h hp];exact jG p d j m (i+1) (by omega) (by omega)
   | false=>rw [Zy _ _ _ _ (.inr hp)];exact hi
  .rw [Zy _ _ _ _ (.inl h)];exact hi
section
variable (k n0:Nat)
theorem B84{es:ES}{Q:Exit->ES->Prop}(id n a i j:Nat)(d:Array PCell)(hn:n0<=es.nx)(hs:SR es.hp n0 id n d)(ha:a<d.size)(sS:0<i)(Nm:i<=j+1)(hj:j<d.size)(b0:Ac es (.t .o)=.ms id 0 n 2)(b1:Ac es (.t (.l .o))=iv a)(b4:Ac es (.t (.r (.l .o)))=Cu)(bi:Ac es (.t (.r (.l (.r .o))))=iv (i:Nat))(bj:Ac es (.t (.l (.r (.r .o))))=iv (j:Nat))
  (hQ:∀ es':ES,Fr es.hp es.nx id es'.hp es'.nx->SR es'.hp n0 id n (partLoop Cg a i j d).2->(partLoop Cg a i j d).1<=d.size->Ac es' (.t .o)=.ms id 0 n 2->Ac es' (.t (.l .o))=iv a->Ac es' (.t (.r (.l .o)))=Cu->Ac es' (.t (.l (.r (.r .o))))=iv (((partLoop Cg a i j d).1:Nat))->Q (.exit 4) es') :
  EW (cL 1000000 yr) (kN (k+5)) es Q:=by
 have Hq:=hs.s
 refine EW.l (I:=λm es1=>∃ i' j' d',m=j'+1-i'/\0<i'/\i'<=j'+1/\j'<d.size/\Fr es.hp es.nx id es1.hp es1.nx/\SR es1.hp n0 id n d'/\partLoop Cg a i' j' d'=partLoop Cg a i j d/\Ac es1 (.t .o)=.ms id 0 n 2/\Ac es1 (.t (.l .o))=iv a/\Ac es1 (.t (.r (.l .o)))=Cu/\Ac es1 (.t (.r (.l (.r .o))))=iv (i':Nat)/\Ac es1 (.t (.l (.r (.r .o))))=iv (j':Nat)) ?_ (j+1-i) 1000000 _ ⟨i,j,d,rfl,sS,Nm,hj,Fr.refl _ _ _,hs,rfl,b0,b1,b4,bi,bj⟩ (by omega)
 rintro m es1 ⟨i',j',d',hm,qF,Sa,AQ,g,Co,he,b0,b1,b4,bi,bj⟩
 have hle:=g.le
 have VN:d'.size=d.size:=Co.n.symm.trans hs.n
 unfold yr
 have UR:=scanUp_ge (λx=>Cg x d'[a]!) d' j' i'
 have UQ:=jG (λx=>Cg x d'[a]!) d' j' _ i' rfl Sa
 have nD:=scanDown_le (λx=>!Cg x d'[a]!) d' (scanUp (λx=>Cg x d'[a]!) d' j' i') j'
 have MA:=(scanUp_spec (λx=>Cg x d'[a]!) d' j' _ i' rfl).2.2.2
 have MF:=(scanDown_spec (λx=>!Cg x d'[a]!) d' (scanUp (λx=>Cg x d'[a]!) d' j' i') j').2.2.2
 rw [partLoop_eq] at he
 refine ew_b.2 (EW.seq (λBy=>Al es1.hp es1.nx By.hp By.nx/\Ac By (.t .o)=.ms id 0 n 2/\Ac By (.t (.l .o))=iv a/\Ac By (.t (.r (.l .o)))=Cu/\Ac By (.t (.r (.l (.r .o))))=iv (scanUp (λx=>Cg x d'[a]!) d' j' i':Nat)/\Ac By (.t (.l (.r (.r .o))))=iv (j':Nat)) (ew_b.2 ?_) λBy ⟨g2,b0,b1,b4,bi,bj⟩=>EW.seq (λFs=>Al es1.hp es1.nx Fs.hp Fs.nx/\Ac Fs (.t .o)=.ms id 0 n 2/\Ac Fs (.t (.l .o))=iv a/\Ac Fs (.t (.r (.l .o)))=Cu/\Ac Fs (.t (.r (.l (.r .o))))=iv (scanUp (λx=>Cg x d'[a]!) d' j' i':Nat)/\Ac Fs (.t (.l (.r (.r .o))))=iv (scanDown (λx=>!Cg x d'[a]!) d' (scanUp (λx=>Cg x d'[a]!) d' j' i') j':Nat)) (ew_b.2 ?_) λFs ⟨g3,b0,b1,b4,bi,bj⟩=>?_)
 .refine Cz2 k n0 id n a i' j' d' (by omega) Co (by omega) Sa (by omega) b0 b1 b4 bi bj λes' q1 q2 q3 q4 q5 q6=>?_
  simp only [Am,↓An,q2,q3,q4,q5,q6]
  exact q1
 .have Fq:=g2.le
  refine Cz3 k n0 id n a _ j' d' (by omega) (Co.al (by omega) g2) (by omega) (by omega) (by omega) b0 b1 b4 bi bj λes' q1 q2 q3 q4 q5 q6=>?_
  simp only [Am,↓An,q2,q3,q4,q5,q6]
  exact g2.trans q1
 have Ik:=g3.le
 have Hr:=Co.al (by omega) g3
 have W4:Fr es.hp es.nx id Fs.hp Fs.nx:=g.al g3
 generalize scanDown (λx=>!Cg x d'[a]!) d' (scanUp (λx=>Cg x d'[a]!) d' j' i') j'=j2 at *
 generalize scanUp (λx=>Cg x d'[a]!) d' j' i'=i2 at *
 by_cases h:j2<i2
 .rw [Ah h] at he
  simp only [Am,↓An,bi,bj,h]
  rw [<- he] at hQ
  exact hQ _ (by simpa only [bR] using W4) (by simpa only [bR] using Hr) (by simp only;omega) (by simp only [bR,b0]) (by simp only [bR,b1]) (by simp only [bR,b4]) (by simp only [bR,bj])
 .rw [Ae h] at he
  have Hu:i2≠j2:=λe=>by
   subst e
   have x1:=MA (by omega)
   have x2:=MF (Af _) (by omega)
   have no:∀ u:Bool,u=false->(!u)=false->False:=by decide
   first | exact no _ x1 x2 | exact no _ x2 x1
  obtain ⟨pA,vA,Gd,Gi,lA⟩:=Hr.at (show i2<d'.size by omega)
  obtain ⟨pB,vB,Fu,Ft,lB⟩:=Hr.at (show j2<d'.size by omega)
  have Fa:=Gd.mono (Be (id:=id))
  have Ev:=Gi.mono (Be (id:=id))
  have Dr:=Fu.mono (Be (id:=id))
  have Dq:=Ft.mono (Be (id:=id))
  simp only [Am,↓An,b0,bi,bj,h,Hr.ia (show i2<d'.size by omega),Hr.ia (show j2<d'.size by omega),lA,lB,Hr.rox (m:=16) (show n0<=Fs.nx by omega),Mw]
  refine ⟨Ci (Dr.rox (by omega)) (Dq.rox (by omega)),?_⟩
  refine Ge rfl (Re (R:=rChange) (i:=i2) (n:=n) (id:=id) (v:=[pB,vB]) (y:=d'[j2]!) (p:=λj=>j<n0/\j≠id) (by simp only [bR];rfl) Hr.o (by simp only [Di,bR];exact Kl Fu Ft) (rChange_rd.2 ⟨pB,vB,rfl,Fu,Ft⟩) (by simp;omega) (λh=>h.2 rfl) λGu Jq Hx=>?_)
  simp only [bR] at Hx
  obtain ⟨_,_,iO,Js,_⟩:=Jq.get
  have Xe:=Hr.h
  have Gt:=Gd.keep (Ap:=Gu) λj hj=>Hx j hj.2
  have Gs:=Gi.keep (Ap:=Gu) λj hj=>Hx j hj.2
  have gD:Ms Gu 2 (.ms id 0 n 2) (.v (.int .i64 ((j2:Nat):Int)))=some (Cf 2 (.ms id 0 n 2) (j2)):=Uy Jq.rl (by simp;omega)
  simp only [Am,↓An,gD,Mw,Il (n0:=Fs.nx) (m:=16) Js (show id<Fs.nx by omega)]
  refine ⟨Ci ((Gt.mono (Be (id:=id))).rox (by omega)) ((Gs.mono (Be (id:=id))).rox (by omega)),?_⟩
  refine Ge rfl (Re (R:=rChange) (i:=j2) (n:=n) (id:=id) (v:=[pA,vA]) (y:=d'[i2]!) (p:=λj=>j<n0/\j≠id) (by simp only [bR];rfl) Jq (by simp only [Di,bR];exact Kl Gt Gs) (rChange_rd.2 ⟨pA,vA,rfl,Gt,Gs⟩) (by simp;omega) (λh=>h.2 rfl) λDu cD Hd=>?_)
  simp only [bR] at Hd
  have Hs:=Hr.swp (show i2<d'.size by omega) (show j2<d'.size by omega) cD
  have g5:Fr es.hp es.nx id Du (Fs.nx+16):=W4.up (by omega) λq hq Mg=>by rw [Hd q Mg,Hx q Mg]
  obtain ⟨iM,Rt⟩:=Hr.get
  obtain ⟨iL,Rs⟩:=Hs.get
  have Rq:∀ {a1 a2:List Nat} {q1 q2:Nat} (p:Past),p∈[(⟨q1,a1,Gu,Du⟩:Past),⟨q2,a2,Fs.hp,Gu⟩]->(p.a.get id).isSome=true/\(p.b.get id).isSome=true:=λp hp=>by
   simp only [Ak,Ax,or_false] at hp
   rcases hp with rfl | rfl
   .exact ⟨by rw [Js];rfl,by rw [Rs];rfl⟩
   .exact ⟨by rw [Rt];rfl,by rw [Js];rfl⟩
  simp only [Am,↓An,b0,b1,b4,bi,bj,Hn (show i2<_ by omega),Xn j2 (by omega) (by omega)]
  exact ⟨fO (fJ id n) (by omega) (λp hp=>Rq p hp) rfl,j2-1+1-(i2+1),by omega,i2+1,j2-1,_,rfl,by omega,by omega,by omega,g5,Hs,he,rfl,rfl⟩
theorem B85{es:ES}{Q:Exit->ES->Prop}(id n a i j:Nat)(d:Array PCell)(hn:n0<=es.nx)(hs:SR es.hp n0 id n d)(ha:a<d.size)(sS:0<i)(Nm:i<=j+1)(hj:j<d.size)(b0:Ac es (.t .o)=.ms id 0 n 2)(b1:Ac es (.t (.l .o))=iv a)(b4:Ac es (.t (.r (.l .o)))=Cu)(bi:Ac es (.t (.l (.l (.r .o))))=iv (i:Nat))(bj:Ac es (.t (.r (.l (.r .o))))=iv (j:Nat))
  (hQ:∀ es':ES,Fr es.hp es.nx id es'.hp es'.nx->SR es'.hp n0 id n (partEqLoop Cg a i j d).2->(partEqLoop Cg a i j d).1<=d.size->Ac es' (.t .o)=.ms id 0 n 2->Ac es' (.t (.l .o))=iv a->Ac es' (.t (.r (.l .o)))=Cu->Ac es' (.t (.l (.l (.r .o))))=iv (((partEqLoop Cg a i j d).1:Nat))->Q (.exit 0) es') :
  EW (cL 1000000 yy) (kN (k+5)) es Q:=by
 have Hq:=hs.s
 refine EW.l (I:=λm es1=>∃ i' j' d',m=j'+1-i'/\0<i'/\i'<=j'+1/\j'<d.size/\Fr es.hp es.nx id es1.hp es1.nx/\SR es1.hp n0 id n d'/\partEqLoop Cg a i' j' d'=partEqLoop Cg a i j d/\Ac es1 (.t .o)=.ms id 0 n 2/\Ac es1 (.t (.l .o))=iv a/\Ac es1 (.t (.r (.l .o)))=Cu/\Ac es1 (.t (.l (.l (.r .o))))=iv (i':Nat)/\Ac es1 (.t (.r (.l (.r .o))))=iv (j':Nat)) ?_ (j+1-i) 1000000 _ ⟨i,j,d,rfl,sS,Nm,hj,Fr.refl _ _ _,hs,rfl,b0,b1,b4,bi,bj⟩ (by omega)
 rintro m es1 ⟨i',j',d',hm,qF,Sa,AQ,g,Co,he,b0,b1,b4,bi,bj⟩
 have hle:=g.le
 have VN:d'.size=d.size:=Co.n.symm.trans hs.n
 unfold yy
 have UR:=scanUp_ge (λx=>!Cg d'[a]! x) d' j' i'
 have UQ:=jG (λx=>!Cg d'[a]! x) d' j' _ i' rfl Sa
 have nD:=scanDown_le (λx=>Cg d'[a]! x) d' (scanUp (λx=>!Cg d'[a]! x) d' j' i') j'
 have MA:=(scanUp_spec (λx=>!Cg d'[a]! x) d' j' _ i' rfl).2.2.2
 have MF:=(scanDown_spec (λx=>Cg d'[a]! x) d' (scanUp (λx=>!Cg d'[a]! x) d' j' i') j').2.2.2
 rw [partEqLoop_eq] at he
 refine ew_b.2 (EW.seq (λBy=>Al es1.hp es1.nx By.hp By.nx/\Ac By (.t .o)=.ms id 0 n 2/\Ac By (.t (.l .o))=iv a/\Ac By (.t (.r (.l .o)))=Cu/\Ac By (.t (.l (.l (.r .o))))=iv (scanUp (λx=>!Cg d'[a]! x) d' j' i':Nat)/\Ac By (.t (.r (.l (.r .o))))=iv (j':Nat)) (ew_b.2 ?_) λBy ⟨g2,b0,b1,b4,bi,bj⟩=>EW.seq (λFs=>Al es1.hp es1.nx Fs.hp Fs.nx/\Ac Fs (.t .o)=.ms id 0 n 2/\Ac Fs (.t (.l .o))=iv a/\Ac Fs (.t (.r (.l .o)))=Cu/\Ac Fs (.t (.l (.l (.r .o))))=iv (scanUp (λx=>!Cg d'[a]! x) d' j' i':Nat)/\Ac Fs (.t (.r (.l (.r .o))))=iv (scanDown (λx=>Cg d'[a]! x) d' (scanUp (λx=>!Cg d'[a]! x) d' j' i') j':Nat)) (ew_b.2 ?_) λFs ⟨g3,b0,b1,b4,bi,bj⟩=>?_)
 .refine QB k n0 id n a i' j' d' (by omega) Co (by omega) Sa (by omega) b0 b1 b4 bi bj λes' q1 q2 q3 q4 q5 q6=>?_
  simp only [Am,↓An,q2,q3,q4,q5,q6]
  exact q1
 .have Fq:=g2.le
  refine QC k n0 id n a _ j' d' (by omega) (Co.al (by omega) g2) (by omega) (by omega) (by omega) b0 b1 b4 bi bj λes' q1 q2 q3 q4 q5 q6=>?_
  simp only [Am,↓An,q2,q3,q4,q5,q6]
  exact g2.trans q1
 have Ik:=g3.le
 have Hr:=Co.al (by omega) g3
 have W4:Fr es.hp es.nx id Fs.hp Fs.nx:=g.al g3
 generalize scanDown (λx=>Cg d'[a]! x) d' (scanUp (λx=>!Cg d'[a]! x) d' j' i') j'=j2 at *
 generalize scanUp (λx=>!Cg d'[a]! x) d' j' i'=i2 at *
 by_cases h:j2<i2
 .rw [Ah h] at he
  simp only [Am,↓An,bi,bj,h]
  rw [<- he] at hQ
  exact hQ _ (by simpa only [bR] using W4) (by simpa only [bR] using Hr) (by simp only;omega) (by simp only [bR,b0]) (by simp only [bR,b1]) (by simp only [bR,b4]) (by simp only [bR,bi])
 .rw [Ae h] at he
  have Hu:i2≠j2:=λe=>by
   subst e
   have x1:=MA (by omega)
   have x2:=MF (Af _) (by omega)
   have no:∀ u:Bool,u=false->(!u)=false->False:=by decide
   first | exact no _ x1 x2 | exact no _ x2 x1
  obtain ⟨pA,vA,Gd,Gi,lA⟩:=Hr.at (show i2<d'.size by omega)
  obtain ⟨pB,vB,Fu,Ft,lB⟩:=Hr.at (show j2<d'.size by omega)
  have Fa:=Gd.mono (Be (id:=id))
  have Ev:=Gi.mono (Be (id:=id))
  have Dr:=Fu.mono (Be (id:=id))
  have Dq:=Ft.mono (Be (id:=id))
  simp only [Am,↓An,b0,bi,bj,h,Hr.ia (show i2<d'.size by omega),Hr.ia (show j2<d'.size by omega),lA,lB,Hr.rox (m:=16) (show n0<=Fs.nx by omega),Mw]
  refine ⟨Ci (Dr.rox (by omega)) (Dq.rox (by omega)),?_⟩
  refine Ge rfl (Re (R:=rChange) (i:=i2) (n:=n) (id:=id) (v:=[pB,vB]) (y:=d'[j2]!) (p:=λj=>j<n0/\j≠id) (by simp only [bR];rfl) Hr.o (by simp only [Di,bR];exact Kl Fu Ft) (rChange_rd.2 ⟨pB,vB,rfl,Fu,Ft⟩) (by simp;omega) (λh=>h.2 rfl) λGu Jq Hx=>?_)
  simp only [bR] at Hx
  obtain ⟨_,_,iO,Js,_⟩:=Jq.get
  have Xe:=Hr.h
  have Gt:=Gd.keep (Ap:=Gu) λj hj=>Hx j hj.2
  have Gs:=Gi.keep (Ap:=Gu) λj hj=>Hx j hj.2
  have gD:Ms Gu 2 (.ms id 0 n 2) (.v (.int .i64 ((j2:Nat):Int)))=some (Cf 2 (.ms id 0 n 2) (j2)):=Uy Jq.rl (by simp;omega)
  simp only [Am,↓An,gD,Mw,Il (n0:=Fs.nx) (m:=16) Js (show id<Fs.nx by omega)]
  refine ⟨Ci ((Gt.mono (Be (id:=id))).rox (by omega)) ((Gs.mono (Be (id:=id))).rox (by omega)),?_⟩
  refine Ge rfl (Re (R:=rChange) (i:=j2) (n:=n) (id:=id) (v:=[pA,vA]) (y:=d'[i2]!) (p:=λj=>j<n0/\j≠id) (by simp only [bR];rfl) Jq (by simp only [Di,bR];exact Kl Gt Gs) (rChange_rd.2 ⟨pA,vA,rfl,Gt,Gs⟩) (by simp;omega) (λh=>h.2 rfl) λDu cD Hd=>?_)
  simp only [bR] at Hd
  have Hs:=Hr.swp (show i2<d'.size by omega) (show j2<d'.size by omega) cD
  have g5:Fr es.hp es.nx id Du (Fs.nx+16):=W4.up (by omega) λq hq Mg=>by rw [Hd q Mg,Hx q Mg]
  obtain ⟨iM,Rt⟩:=Hr.get
  obtain ⟨iL,Rs⟩:=Hs.get
  have Rq:∀ {a1 a2:List Nat} {q1 q2:Nat} (p:Past),p∈[(⟨q1,a1,Gu,Du⟩:Past),⟨q2,a2,Fs.hp,Gu⟩]->(p.a.get id).isSome=true/\(p.b.get id).isSome=true:=λp hp=>by
   simp only [Ak,Ax,or_false] at hp
   rcases hp with rfl | rfl
   .exact ⟨by rw [Js];rfl,by rw [Rs];rfl⟩
   .exact ⟨by rw [Rt];rfl,by rw [Js];rfl⟩
  simp only [Am,↓An,b0,b1,b4,bi,bj,Hn (show i2<_ by omega),Xn j2 (by omega) (by omega)]
  exact ⟨fO (fJ id n) (by omega) (λp hp=>Rq p hp) rfl,j2-1+1-(i2+1),by omega,i2+1,j2-1,_,rfl,by omega,by omega,by omega,g5,Hs,he,rfl,rfl⟩
end
end Go.DD

/- Contracts: partition and partitionEqual of changes. Conditions: those that each theorem states. -/
namespace Go.DD
open Go Go.Proofs Go.Sort
theorem Cp2(d:Array PCell)(a b pv:Nat):partition Cg d a b pv=if scanUp (λx=>Cg x (swp d a pv)[a]!) (swp d a pv) (b-1) (a+1)>scanDown (λx=>!Cg x (swp d a pv)[a]!) (swp d a pv) (scanUp (λx=>Cg x (swp d a pv)[a]!) (swp d a pv) (b-1) (a+1)) (b-1) then (scanDown (λx=>!Cg x (swp d a pv)[a]!) (swp d a pv) (scanUp (λx=>Cg x (swp d a pv)[a]!) (swp d a pv) (b-1) (a+1)) (b-1),true,swp (swp d a pv) (scanDown (λx=>!Cg x (swp d a pv)[a]!) (swp d a pv) (scanUp (λx=>Cg x (swp d a pv)[a]!) (swp d a pv) (b-1) (a+1)) (b-1)) a) else ((partLoop Cg a (scanUp (λx=>Cg x (swp d a pv)[a]!) (swp d a pv) (b-1) (a+1)+1) (scanDown (λx=>!Cg x (swp d a pv)[a]!) (swp d a pv) (scanUp (λx=>Cg x (swp d a pv)[a]!) (swp d a pv) (b-1) (a+1)) (b-1)-1) (swp (swp d a pv) (scanUp (λx=>Cg x (swp d a pv)[a]!) (swp d a pv) (b-1) (a+1)) (scanDown (λx=>!Cg x (swp d a pv)[a]!) (swp d a pv) (scanUp (λx=>Cg x (swp d a pv)[a]!) (swp d a pv) (b-1) (a+1)) (b-1)))).1,false,swp (partLoop Cg a (scanUp (λx=>Cg x (swp d a pv)[a]!) (swp d a pv) (b-1) (a+1)+1) (scanDown (λx=>!Cg x (swp d a pv)[a]!) (swp d a pv) (scanUp (λx=>Cg x (swp d a pv)[a]!) (swp d a pv) (b-1) (a+1)) (b-1)-1) (swp (swp d a pv) (scanUp (λx=>Cg x (swp d a pv)[a]!) (swp d a pv) (b-1) (a+1)) (scanDown (λx=>!Cg x (swp d a pv)[a]!) (swp d a pv) (scanUp (λx=>Cg x (swp d a pv)[a]!) (swp d a pv) (b-1) (a+1)) (b-1)))).2 (partLoop Cg a (scanUp (λx=>Cg x (swp d a pv)[a]!) (swp d a pv) (b-1) (a+1)+1) (scanDown (λx=>!Cg x (swp d a pv)[a]!) (swp d a pv) (scanUp (λx=>Cg x (swp d a pv)[a]!) (swp d a pv) (b-1) (a+1)) (b-1)-1) (swp (swp d a pv) (scanUp (λx=>Cg x (swp d a pv)[a]!) (swp d a pv) (b-1) (a+1)) (scanDown (λx=>!Cg x (swp d a pv)[a]!) (swp d a pv) (scanUp (λx=>Cg x (swp d a pv)[a]!) (swp d a pv) (b-1) (a+1)) (b-1)))).1 a):=by
 unfold partition
 simp only []
section
variable (k n0:Nat) (hp:Tr DObj) (nx:Nat) (K:DV->Tr DObj->Nat->Prop)
theorem Cp3(id n a b pv:Nat)(d:Array PCell)(hn:n0<=nx)(hs:SR hp n0 id n d)(ny:a<=pv/\pv<b)(Vu:a+1<b)(hb:b<=d.size)
  (hK:∀ Ap Ba,Fr hp nx id Ap Ba->SR Ap n0 id n (partition Cg d a b pv).2.2->K (.tup [iv ((partition Cg d a b pv).1:Nat),bv (partition Cg d a b pv).2.1]) Ap Ba):KW (kN (k+6)) (.fn 210) [.ms id 0 n 2,iv a,iv b,iv pv,Cu] hp nx K:=by
 obtain ⟨UY,jS,_⟩:=partition_holds Cg swoC d a b pv ny.1 ny.2 hb
 refine bT (Gb (by decide)) aj (Ab rfl) λes e1 e2 he=>?_
 have a0:Ac es (.t .o)=.ms id 0 n 2:=he 0 _ rfl
 have a1:Ac es (.t (.l .o))=iv a:=he 1 _ rfl
 have a2:Ac es (.t (.r .o))=iv b:=he 2 _ rfl
 have a3:Ac es (.t (.l (.l .o)))=iv pv:=he 3 _ rfl
 have a4:Ac es (.t (.r (.l .o)))=Cu:=he 4 _ rfl
 unfold GP
 subst e1 e2
 have Hq:=hs.s
 have g0:Fr es.hp es.nx id es.hp es.nx:=Fr.refl _ _ _
 obtain ⟨pA,vA,Gd,Gi,lA⟩:=hs.at (show a<d.size by omega)
 obtain ⟨pB,vB,Fu,Ft,lB⟩:=hs.at (show pv<d.size by omega)
 have Fa:=Gd.mono (Be (id:=id))
 have Ev:=Gi.mono (Be (id:=id))
 have Dr:=Fu.mono (Be (id:=id))
 have Dq:=Ft.mono (Be (id:=id))
 simp only [Am,↓An,a0,a1,a3,hs.ia (show a<d.size by omega),hs.ia (show pv<d.size by omega),lA,lB,hs.rox (m:=16) (show n0<=es.nx by omega),Mw]
 refine ⟨Ci (Dr.rox (by omega)) (Dq.rox (by omega)),?_⟩
 refine Ge rfl (Re (R:=rChange) (i:=a) (n:=n) (id:=id) (v:=[pB,vB]) (y:=d[pv]!) (p:=λj=>j<n0/\j≠id) (by simp only [bR];rfl) hs.o (by simp only [Di,bR];exact Kl Fu Ft) (rChange_rd.2 ⟨pB,vB,rfl,Fu,Ft⟩) (by simp;omega) (λh=>h.2 rfl) λXa gO aK=>?_)
 simp only [bR] at aK
 obtain ⟨_,_,uq,iA,_⟩:=gO.get
 have NJ:=hs.h
 have Ws:=Gd.keep (Ap:=Xa) λj hj=>aK j hj.2
 have Wq:=Gi.keep (Ap:=Xa) λj hj=>aK j hj.2
 have lq:Ms Xa 2 (.ms id 0 n 2) (.v (.int .i64 ((pv:Nat):Int)))=some (Cf 2 (.ms id 0 n 2) (pv)):=Uy gO.rl (by simp;omega)
 simp only [Am,↓An,lq,Mw,Il (n0:=es.nx) (m:=16) iA (show id<es.nx by omega)]
 refine ⟨Ci ((Ws.mono (Be (id:=id))).rox (by omega)) ((Wq.mono (Be (id:=id))).rox (by omega)),?_⟩
 refine Ge rfl (Re (R:=rChange) (i:=pv) (n:=n) (id:=id) (v:=[pA,vA]) (y:=d[a]!) (p:=λj=>j<n0/\j≠id) (by simp only [bR];rfl) gO (by simp only [Di,bR];exact Kl Ws Wq) (rChange_rd.2 ⟨pA,vA,rfl,Ws,Wq⟩) (by simp;omega) (λh=>h.2 rfl) λDv pS Cr=>?_)
 simp only [bR] at Cr
 have Co:=hs.swp (show a<d.size by omega) (show pv<d.size by omega) pS
 have g1:Fr es.hp es.nx id Dv (es.nx+16):=g0.up (by omega) λq hq Mg=>by rw [Cr q Mg,aK q Mg]
 obtain ⟨uk,S2⟩:=hs.get
 obtain ⟨ui,S0⟩:=Co.get
 have R4:∀ {a1 a2:List Nat} {q1 q2:Nat} (p:Past),p∈[(⟨q1,a1,Xa,Dv⟩:Past),⟨q2,a2,es.hp,Xa⟩]->(p.a.get id).isSome=true/\(p.b.get id).isSome=true:=λp hp=>by
  simp only [Ak,Ax,or_false] at hp
  rcases hp with rfl | rfl
  .exact ⟨by rw [iA];rfl,by rw [S0];rfl⟩
  .exact ⟨by rw [S2];rfl,by rw [iA];rfl⟩
 have iC:(swp d a pv).size=d.size:=by rw [size_swp]
 simp only [Am,↓An,a1,a2,Hn (show a<_ by omega),Xn b (by omega) (by omega)]
 refine ⟨fO (fJ id n) (by omega) (λp hp=>R4 p hp) rfl,?_⟩
 rw [Cp2] at hK UY jS
 generalize swp d a pv=d1 at *
 refine Cz0 k n0 id n a (a+1) (b-1) d1 (by simp only [];omega) Co (by omega) (by omega) (by omega) (by simp only [bR,a0]) (by simp only [bR,a1]) (by simp only [bR,a4]) (by simp only [bR]) (by simp only [bR]) λBy q1 q2 q3 q4 q5 q6=>?_
 simp only [] at q1
 have Fq:=q1.le
 have Mf:=Co.al (by omega) q1
 have UR:=scanUp_ge (λx=>Cg x d1[a]!) d1 (b-1) (a+1)
 have UQ:=jG (λx=>Cg x d1[a]!) d1 (b-1) _ (a+1) rfl (by omega)
 simp only [↓An]
 refine Cz1 k n0 id n a _ (b-1) d1 (by omega) Mf (by omega) (by omega) (by omega) q2 q3 q4 q5 q6 λFs z1 z2 z3 z4 z5 z6=>?_
 have nD:=scanDown_le (λx=>!Cg x d1[a]!) d1 (scanUp (λx=>Cg x d1[a]!) d1 (b-1) (a+1)) (b-1)
 have Ik:=z1.le
 have Hr:=Mf.al (by omega) z1
 have g3:Fr es.hp es.nx id Fs.hp Fs.nx:=(g1.al q1).al z1
 have MA:=(scanUp_spec (λx=>Cg x d1[a]!) d1 (b-1) _ (a+1) rfl).2.2.2
 have MF:=(scanDown_spec (λx=>!Cg x d1[a]!) d1 (scanUp (λx=>Cg x d1[a]!) d1 (b-1) (a+1)) (b-1)).2.2.2
 generalize scanDown (λx=>!Cg x d1[a]!) d1 (scanUp (λx=>Cg x d1[a]!) d1 (b-1) (a+1)) (b-1)=j2 at *
 generalize scanUp (λx=>Cg x d1[a]!) d1 (b-1) (a+1)=i2 at *
 by_cases h:j2<i2
 .rw [Ah h] at hK
  rw [Ah h] at UY jS
  simp only [Am,↓An,z2,z3,z5,z6,h]
  obtain ⟨pA,vA,Gd,Gi,lA⟩:=Hr.at (show j2<d1.size by omega)
  obtain ⟨pB,vB,Fu,Ft,lB⟩:=Hr.at (show a<d1.size by omega)
  have Fa:=Gd.mono (Be (id:=id))
  have Ev:=Gi.mono (Be (id:=id))
  have Dr:=Fu.mono (Be (id:=id))
  have Dq:=Ft.mono (Be (id:=id))
  simp only [Am,Hr.ia (show j2<d1.size by omega),Hr.ia (show a<d1.size by omega),lA,lB,Hr.rox (m:=16) (show n0<=Fs.nx by omega),Mw]
  refine ⟨Ci (Dr.rox (by omega)) (Dq.rox (by omega)),?_⟩
  refine Ge rfl (Re (R:=rChange) (i:=j2) (n:=n) (id:=id) (v:=[pB,vB]) (y:=d1[a]!) (p:=λj=>j<n0/\j≠id) (by simp only [bR];rfl) Hr.o (by simp only [Di,bR];exact Kl Fu Ft) (rChange_rd.2 ⟨pB,vB,rfl,Fu,Ft⟩) (by simp;omega) (λh=>h.2 rfl) λGu Jq Hx=>?_)
  simp only [bR] at Hx
  obtain ⟨_,_,iO,Js,_⟩:=Jq.get
  have Xe:=Hr.h
  have Gt:=Gd.keep (Ap:=Gu) λj hj=>Hx j hj.2
  have Gs:=Gi.keep (Ap:=Gu) λj hj=>Hx j hj.2
  have gD:Ms Gu 2 (.ms id 0 n 2) (.v (.int .i64 ((a:Nat):Int)))=some (Cf 2 (.ms id 0 n 2) (a)):=Uy Jq.rl (by simp;omega)
  simp only [Am,↓An,gD,Mw,Il (n0:=Fs.nx) (m:=16) Js (show id<Fs.nx by omega)]
  refine ⟨Ci ((Gt.mono (Be (id:=id))).rox (by omega)) ((Gs.mono (Be (id:=id))).rox (by omega)),?_⟩
  refine Ge rfl (Re (R:=rChange) (i:=a) (n:=n) (id:=id) (v:=[pA,vA]) (y:=d1[j2]!) (p:=λj=>j<n0/\j≠id) (by simp only [bR];rfl) Jq (by simp only [Di,bR];exact Kl Gt Gs) (rChange_rd.2 ⟨pA,vA,rfl,Gt,Gs⟩) (by simp;omega) (λh=>h.2 rfl) λDu cD Hd=>?_)
  simp only [bR] at Hd
  have Hs:=Hr.swp (show j2<d1.size by omega) (show a<d1.size by omega) cD
  have g5:Fr es.hp es.nx id Du (Fs.nx+16):=g3.up (by omega) λq hq Mg=>by rw [Hd q Mg,Hx q Mg]
  obtain ⟨iM,Rt⟩:=Hr.get
  obtain ⟨iL,Rs⟩:=Hs.get
  have Rq:∀ {a1 a2:List Nat} {q1 q2:Nat} (p:Past),p∈[(⟨q1,a1,Gu,Du⟩:Past),⟨q2,a2,Fs.hp,Gu⟩]->(p.a.get id).isSome=true/\(p.b.get id).isSome=true:=λp hp=>by
   simp only [Ak,Ax,or_false] at hp
   rcases hp with rfl | rfl
   .exact ⟨by rw [Js];rfl,by rw [Rs];rfl⟩
   .exact ⟨by rw [Rt];rfl,by rw [Js];rfl⟩
  simp only [Am,↓An,bP,z5]
  exact ⟨fO (fJ id n) (by omega) (λp hp=>Rq p hp) rfl,hK _ _ g5 Hs⟩
 .rw [Ae h] at hK
  rw [Ae h] at UY jS
  have Hu:i2≠j2:=λe=>by
   subst e
   have x1:=MA (by omega)
   have x2:=MF (Af _) (by omega)
   have no:∀ u:Bool,u=false->(!u)=false->False:=by decide
   exact no _ x1 x2
  simp only [Am,↓An,z2,z5,z6,h]
  obtain ⟨pA,vA,Gd,Gi,lA⟩:=Hr.at (show i2<d1.size by omega)
  obtain ⟨pB,vB,Fu,Ft,lB⟩:=Hr.at (show j2<d1.size by omega)
  have Fa:=Gd.mono (Be (id:=id))
  have Ev:=Gi.mono (Be (id:=id))
  have Dr:=Fu.mono (Be (id:=id))
  have Dq:=Ft.mono (Be (id:=id))
  simp only [Am,Hr.ia (show i2<d1.size by omega),Hr.ia (show j2<d1.size by omega),lA,lB,Hr.rox (m:=16) (show n0<=Fs.nx by omega),Mw]
  refine ⟨Ci (Dr.rox (by omega)) (Dq.rox (by omega)),?_⟩
  refine Ge rfl (Re (R:=rChange) (i:=i2) (n:=n) (id:=id) (v:=[pB,vB]) (y:=d1[j2]!) (p:=λj=>j<n0/\j≠id) (by simp only [bR];rfl) Hr.o (by simp only [Di,bR];exact Kl Fu Ft) (rChange_rd.2 ⟨pB,vB,rfl,Fu,Ft⟩) (by simp;omega) (λh=>h.2 rfl) λGu Jq Hx=>?_)
  simp only [bR] at Hx
  obtain ⟨_,_,iO,Js,_⟩:=Jq.get
  have Xe:=Hr.h
  have Gt:=Gd.keep (Ap:=Gu) λj hj=>Hx j hj.2
  have Gs:=Gi.keep (Ap:=Gu) λj hj=>Hx j hj.2
  have gD:Ms Gu 2 (.ms id 0 n 2) (.v (.int .i64 ((j2:Nat):Int)))=some (Cf 2 (.ms id 0 n 2) (j2)):=Uy Jq.rl (by simp;omega)
  simp only [Am,↓An,gD,Mw,Il (n0:=Fs.nx) (m:=16) Js (show id<Fs.nx by omega)]
  refine ⟨Ci ((Gt.mono (Be (id:=id))).rox (by omega)) ((Gs.mono (Be (id:=id))).rox (by omega)),?_⟩
  refine Ge rfl (Re (R:=rChange) (i:=j2) (n:=n) (id:=id) (v:=[pA,vA]) (y:=d1[i2]!) (p:=λj=>j<n0/\j≠id) (by simp only [bR];rfl) Jq (by simp only [Di,bR];exact Kl Gt Gs) (rChange_rd.2 ⟨pA,vA,rfl,Gt,Gs⟩) (by simp;omega) (λh=>h.2 rfl) λDu cD Hd=>?_)
  simp only [bR] at Hd
  have Hs:=Hr.swp (show i2<d1.size by omega) (show j2<d1.size by omega) cD
  have g5:Fr es.hp es.nx id Du (Fs.nx+16):=g3.up (by omega) λq hq Mg=>by rw [Hd q Mg,Hx q Mg]
  obtain ⟨iM,Rt⟩:=Hr.get
  obtain ⟨iL,Rs⟩:=Hs.get
  have Rq:∀ {a1 a2:List Nat} {q1 q2:Nat} (p:Past),p∈[(⟨q1,a1,Gu,Du⟩:Past),⟨q2,a2,Fs.hp,Gu⟩]->(p.a.get id).isSome=true/\(p.b.get id).isSome=true:=λp hp=>by
   simp only [Ak,Ax,or_false] at hp
   rcases hp with rfl | rfl
   .exact ⟨by rw [Js];rfl,by rw [Rs];rfl⟩
   .exact ⟨by rw [Rt];rfl,by rw [Js];rfl⟩
  have hd5:(swp d1 i2 j2).size=d1.size:=by rw [size_swp]
  simp only [Am,↓An,z5,z6,Hn (show i2<_ by omega),Xn j2 (by omega) (by omega)]
  refine ⟨fO (fJ id n) (by omega) (λp hp=>Rq p hp) rfl,?_⟩
  refine B84 k n0 id n a (i2+1) (j2-1) _ (by simp only [];omega) Hs (by omega) (by omega) (by omega) (by omega) (by simp only [bR,z2]) (by simp only [bR,z3]) (by simp only [bR,z4]) (by simp only [bR]) (by simp only [bR]) λiP y1 y2 _ y3 y4 y5 y6=>?_
  simp only [] at y1
  have Jr:=y1.le
  have g6:Fr es.hp es.nx id iP.hp iP.nx:=g5.trans y1
  have hd6:=y2.n.symm.trans Hs.n
  generalize partLoop Cg a (i2+1) (j2-1) (swp d1 i2 j2)=r at *
  obtain ⟨m,d6⟩:=r
  simp only at UY jS y2 y6 hK hd6
  simp only [Am,↓An,y3,y4,y6]
  obtain ⟨pA,vA,Gd,Gi,lA⟩:=y2.at (show m<d6.size by omega)
  obtain ⟨pB,vB,Fu,Ft,lB⟩:=y2.at (show a<d6.size by omega)
  have Fa:=Gd.mono (Be (id:=id))
  have Ev:=Gi.mono (Be (id:=id))
  have Dr:=Fu.mono (Be (id:=id))
  have Dq:=Ft.mono (Be (id:=id))
  simp only [Am,y2.ia (show m<d6.size by omega),y2.ia (show a<d6.size by omega),lA,lB,y2.rox (m:=16) (show n0<=iP.nx by omega),Mw]
  refine ⟨Ci (Dr.rox (by omega)) (Dq.rox (by omega)),?_⟩
  refine Ge rfl (Re (R:=rChange) (i:=m) (n:=n) (id:=id) (v:=[pB,vB]) (y:=d6[a]!) (p:=λj=>j<n0/\j≠id) (by simp only [bR];rfl) y2.o (by simp only [Di,bR];exact Kl Fu Ft) (rChange_rd.2 ⟨pB,vB,rfl,Fu,Ft⟩) (by simp;omega) (λh=>h.2 rfl) λQc Xb Sv=>?_)
  simp only [bR] at Sv
  obtain ⟨_,_,PO,Xf,_⟩:=Xb.get
  have C3:=y2.h
  have Py:=Gd.keep (Ap:=Qc) λj hj=>Sv j hj.2
  have Px:=Gi.keep (Ap:=Qc) λj hj=>Sv j hj.2
  have KP:Ms Qc 2 (.ms id 0 n 2) (.v (.int .i64 ((a:Nat):Int)))=some (Cf 2 (.ms id 0 n 2) (a)):=Uy Xb.rl (by simp;omega)
  simp only [Am,↓An,KP,Mw,Il (n0:=iP.nx) (m:=16) Xf (show id<iP.nx by omega)]
  refine ⟨Ci ((Py.mono (Be (id:=id))).rox (by omega)) ((Px.mono (Be (id:=id))).rox (by omega)),?_⟩
  refine Ge rfl (Re (R:=rChange) (i:=a) (n:=n) (id:=id) (v:=[pA,vA]) (y:=d6[m]!) (p:=λj=>j<n0/\j≠id) (by simp only [bR];rfl) Xb (by simp only [Di,bR];exact Kl Py Px) (rChange_rd.2 ⟨pA,vA,rfl,Py,Px⟩) (by simp;omega) (λh=>h.2 rfl) λIj gK If=>?_)
  simp only [bR] at If
  have bX:=y2.swp (show m<d6.size by omega) (show a<d6.size by omega) gK
  have g7:Fr es.hp es.nx id Ij (iP.nx+16):=g6.up (by omega) λq hq Mg=>by rw [If q Mg,Sv q Mg]
  obtain ⟨PM,qJ⟩:=y2.get
  obtain ⟨PL,qI⟩:=bX.get
  have qA:∀ {a1 a2:List Nat} {q1 q2:Nat} (p:Past),p∈[(⟨q1,a1,Qc,Ij⟩:Past),⟨q2,a2,iP.hp,Qc⟩]->(p.a.get id).isSome=true/\(p.b.get id).isSome=true:=λp hp=>by
   simp only [Ak,Ax,or_false] at hp
   rcases hp with rfl | rfl
   .exact ⟨by rw [Xf];rfl,by rw [qI];rfl⟩
   .exact ⟨by rw [qJ];rfl,by rw [Xf];rfl⟩
  simp only [Am,↓An,bP,y6]
  exact ⟨fO (fJ id n) (by omega) (λp hp=>qA p hp) rfl,hK _ _ g7 bX⟩
theorem B86(id n a b pv:Nat)(d:Array PCell)(hn:n0<=nx)(hs:SR hp n0 id n d)(ny:a<=pv/\pv<b)(Vu:a+1<b)(hb:b<=d.size)
  (hK:∀ Ap Ba,Fr hp nx id Ap Ba->SR Ap n0 id n (partitionEqual Cg d a b pv).2->K (iv ((partitionEqual Cg d a b pv).1:Nat)) Ap Ba):KW (kN (k+6)) (.fn 209) [.ms id 0 n 2,iv a,iv b,iv pv,Cu] hp nx K:=by
 refine Ds (Gb (by decide)) ak (Ab rfl) λes e1 e2 he=>?_
 have a0:Ac es (.t .o)=.ms id 0 n 2:=he 0 _ rfl
 have a1:Ac es (.t (.l .o))=iv a:=he 1 _ rfl
 have a2:Ac es (.t (.r .o))=iv b:=he 2 _ rfl
 have a3:Ac es (.t (.l (.l .o)))=iv pv:=he 3 _ rfl
 have a4:Ac es (.t (.r (.l .o)))=Cu:=he 4 _ rfl
 unfold GQ
 subst e1 e2
 have Hq:=hs.s
 have g0:Fr es.hp es.nx id es.hp es.nx:=Fr.refl _ _ _
 unfold partitionEqual at hK
 obtain ⟨pA,vA,Gd,Gi,lA⟩:=hs.at (show a<d.size by omega)
 obtain ⟨pB,vB,Fu,Ft,lB⟩:=hs.at (show pv<d.size by omega)
 have Fa:=Gd.mono (Be (id:=id))
 have Ev:=Gi.mono (Be (id:=id))
 have Dr:=Fu.mono (Be (id:=id))
 have Dq:=Ft.mono (Be (id:=id))
 simp only [Am,↓An,a0,a1,a3,hs.ia (show a<d.size by omega),hs.ia (show pv<d.size by omega),lA,lB,hs.rox (m:=16) (show n0<=es.nx by omega),Mw]
 refine ⟨Ci (Dr.rox (by omega)) (Dq.rox (by omega)),?_⟩
 refine Ge rfl (Re (R:=rChange) (i:=a) (n:=n) (id:=id) (v:=[pB,vB]) (y:=d[pv]!) (p:=λj=>j<n0/\j≠id) (by simp only [bR];rfl) hs.o (by simp only [Di,bR];exact Kl Fu Ft) (rChange_rd.2 ⟨pB,vB,rfl,Fu,Ft⟩) (by simp;omega) (λh=>h.2 rfl) λXa gO aK=>?_)
 simp only [bR] at aK
 obtain ⟨_,_,uq,iA,_⟩:=gO.get
 have NJ:=hs.h
 have Ws:=Gd.keep (Ap:=Xa) λj hj=>aK j hj.2
 have Wq:=Gi.keep (Ap:=Xa) λj hj=>aK j hj.2
 have lq:Ms Xa 2 (.ms id 0 n 2) (.v (.int .i64 ((pv:Nat):Int)))=some (Cf 2 (.ms id 0 n 2) (pv)):=Uy gO.rl (by simp;omega)
 simp only [Am,↓An,lq,Mw,Il (n0:=es.nx) (m:=16) iA (show id<es.nx by omega)]
 refine ⟨Ci ((Ws.mono (Be (id:=id))).rox (by omega)) ((Wq.mono (Be (id:=id))).rox (by omega)),?_⟩
 refine Ge rfl (Re (R:=rChange) (i:=pv) (n:=n) (id:=id) (v:=[pA,vA]) (y:=d[a]!) (p:=λj=>j<n0/\j≠id) (by simp only [bR];rfl) gO (by simp only [Di,bR];exact Kl Ws Wq) (rChange_rd.2 ⟨pA,vA,rfl,Ws,Wq⟩) (by simp;omega) (λh=>h.2 rfl) λDv pS Cr=>?_)
 simp only [bR] at Cr
 have Co:=hs.swp (show a<d.size by omega) (show pv<d.size by omega) pS
 have g1:Fr es.hp es.nx id Dv (es.nx+16):=g0.up (by omega) λq hq Mg=>by rw [Cr q Mg,aK q Mg]
 obtain ⟨uk,S2⟩:=hs.get
 obtain ⟨ui,S0⟩:=Co.get
 have R4:∀ {a1 a2:List Nat} {q1 q2:Nat} (p:Past),p∈[(⟨q1,a1,Xa,Dv⟩:Past),⟨q2,a2,es.hp,Xa⟩]->(p.a.get id).isSome=true/\(p.b.get id).isSome=true:=λp hp=>by
  simp only [Ak,Ax,or_false] at hp
  rcases hp with rfl | rfl
  .exact ⟨by rw [iA];rfl,by rw [S0];rfl⟩
  .exact ⟨by rw [S2];rfl,by rw [iA];rfl⟩
 have iC:(swp d a pv).size=d.size:=by rw [size_swp]
 simp only [Am,↓An,a1,a2,Hn (show a<_ by omega),Xn b (by omega) (by omega)]
 refine ⟨fO (fJ id n) (by omega) (λp hp=>R4 p hp) rfl,?_⟩
 refine B85 k n0 id n a (a+1) (b-1) _ (by simp only [];omega) Co (by omega) (by omega) (by omega) (by omega) (by simp only [bR,a0]) (by simp only [bR,a1]) (by simp only [bR,a4]) (by simp only [bR]) (by simp only [bR]) λiP y1 y2 _ y3 y4 y5 y6=>?_
 simp only [] at y1
 simp only [Am,↓An,bP,y6]
 exact hK _ _ (g1.trans y1) y2
end
end Go.DD

/- Contracts: partial insertion sort of changes. Conditions: those that each theorem states. -/
namespace Go.DD
open Go Go.Proofs Go.Sort
theorem FI(d:Array PCell)(b i:Nat)(h:i<b)(hp:Cg d[i]! d[i-1]! = false):scanSorted Cg d b i=scanSorted Cg d b (i+1):=by rw [scanSorted,Ah (by simp [h,hp])]
theorem tV(d:Array PCell)(b i:Nat)(h:¬ i<b\/Cg d[i]! d[i-1]! = true):scanSorted Cg d b i=i:=by
 rw [scanSorted,Ae]
 rcases h with h | h
 .simp [h]
 .simp [h]
theorem xM(d:Array PCell)(b:Nat):∀ (m i:Nat),b-i=m->i<=scanSorted Cg d b i/\(i<=b->scanSorted Cg d b i<=b)
 | 0,i,hm=>by rw [tV _ _ _ (.inl (by omega))];exact ⟨Af _,id⟩
 | m+1,i,hm=>by
  cases hp:Cg d[i]! d[i-1]! with
  | false=>
   rw [FI _ _ _ (by omega) hp]
   obtain ⟨h1,h2⟩:=xM d b m (i+1) (by omega)
   exact ⟨by omega,λ_=>h2 (by omega)⟩
  | true=>rw [tV _ _ _ (.inr hp)];exact ⟨Af _,id⟩
theorem eh(d:Array PCell)(b j:Nat)(h:j<b)(hp:Cg d[j]! d[j-1]! = true):shiftUp Cg b j d=shiftUp Cg b (j+1) (swp d j (j-1)):=by rw [shiftUp,Ah h,Ae (by simp [hp])]
theorem FF(d:Array PCell)(b j:Nat)(h:¬ j<b\/Cg d[j]! d[j-1]! = false):shiftUp Cg b j d=d:=by
 rw [shiftUp]
 by_cases h1:j<b
 .rw [Ah h1,Ah (by rcases h with h | h;exact absurd h1 h;simp [h])]
 .rw [Ae h1]
section
variable (k n0:Nat)
theorem PZ{es:ES}{Q:Exit->ES->Prop}(id n a b c i:Nat)(d:Array PCell)(hn:n0<=es.nx)(hs:SR es.hp n0 id n d)(sS:0<i)(NK:i<=b)(hb:b<=d.size)(b0:Ac es (.t .o)=.ms id 0 n 2)(b1:Ac es (.t (.l .o))=iv a)(b2:Ac es (.t (.r .o))=iv b)(b3:Ac es (.t (.l (.l .o)))=Cu)(b10:Ac es (.t (.r (.r (.l .o))))=iv (c:Nat))(b9:Ac es (.t (.l (.r (.l .o))))=iv (i:Nat))
  (hQ:∀ es':ES,Al es.hp es.nx es'.hp es'.nx->Ac es' (.t .o)=.ms id 0 n 2->Ac es' (.t (.l .o))=iv a->Ac es' (.t (.r .o))=iv b->Ac es' (.t (.l (.l .o)))=Cu->Ac es' (.t (.r (.r (.l .o))))=iv (c:Nat)->Ac es' (.t (.l (.r (.l .o))))=iv ((scanSorted Cg d b i:Nat))->Q (.exit 2) es') :
  EW (cL 1000000 zd) (kN (k+5)) es Q:=by
 have Hq:=hs.s
 refine EW.l (I:=λm es1=>∃ i',m=b-i'/\i'<=b/\0<i'/\Al es.hp es.nx es1.hp es1.nx/\SR es1.hp n0 id n d/\scanSorted Cg d b i'=scanSorted Cg d b i/\Ac es1 (.t .o)=.ms id 0 n 2/\Ac es1 (.t (.l .o))=iv a/\Ac es1 (.t (.r .o))=iv b/\Ac es1 (.t (.l (.l .o)))=Cu/\Ac es1 (.t (.r (.r (.l .o))))=iv (c:Nat)/\Ac es1 (.t (.l (.r (.l .o))))=iv (i':Nat)) ?_ (b-i) 1000000 _ ⟨i,rfl,NK,sS,Al.ini _ (Af _),hs,rfl,b0,b1,b2,b3,b10,b9⟩ (by omega)
 rintro m es1 ⟨i',hm,Sa,NL,g,Co,he,b0,b1,b2,b3,b10,b9⟩
 have hle:=g.le
 unfold zd
 have g0:Fr es.hp es.nx id es1.hp es1.nx:=⟨g.le,λj hj _=>g.same j hj⟩
 by_cases h:i'<b
 .obtain ⟨pA,vA,Gd,Gi,lA⟩:=Co.at (show i'<d.size by omega)
  obtain ⟨pB,vB,Fu,Ft,lB⟩:=Co.at (show i'-1<d.size by omega)
  have Fa:=Gd.mono (Be (id:=id))
  have Ev:=Gi.mono (Be (id:=id))
  have Dr:=Fu.mono (Be (id:=id))
  have Dq:=Ft.mono (Be (id:=id))
  simp only [Am,↓An,b0,b2,b3,b9,h,Xn i' (by omega) (by omega),Co.ia (show i'<d.size by omega),Co.ia (show i'-1<d.size by omega),lA,lB,Co.rox (m:=18) (show n0<=es1.nx by omega),Mw,lG]
  refine ⟨⟨Ci (Fa.rox (by omega)) (Ev.rox (by omega)),Ci (Dr.rox (by omega)) (Dq.rox (by omega))⟩,?_⟩
  refine Ge rfl (Zt (f:=126) (fs:=[]) (cs:=[]) (by rw [Di];simp only [bR];exact lI _) ?_)
  simp only [bR,Ao,Aq,Bu,Bh]
  refine lF k n0 _ _ _ pA vA pB vB d[i']! d[i'-1]! (by omega) Fa Ev Dr Dq (Co.bA (show i'<d.size by omega)) λDu Fm Cw=>?_
  have Fp:=Cw.le
  have Hs:=Co.al (nx:=es1.nx+18) (by omega) Cw
  have g5:Fr es.hp es.nx id Du Fm:=g0.up (by omega) λj hj _=>Cw.same j (by omega)
  have Zh:Al es.hp es.nx Du Fm:=⟨by omega,λj hj=>by rw [Cw.same j (by omega),g.same j hj]⟩
  by_cases h2:Cd d[i']!.pos d[i'-1]!.pos<0
  .rw [tV _ _ _ (.inr (Pc h2))] at he
   simp only [Am,↓An,Fp,Ai h2]
   exact hQ _ Zh (by simp only [bR,b0]) (by simp only [bR,b1]) (by simp only [bR,b2]) (by simp only [bR,b3]) (by simp only [bR,b10]) (by simp only [bR,b9];rw [he])
  .rw [FI _ _ _ h (Ns h2)] at he
   simp only [Am,↓An,b0,b1,b2,b3,b10,b9,Fp,Ad h2,Hn (show i'<_ by omega)]
   exact ⟨b-(i'+1),by omega,i'+1,rfl,by omega,by omega,Zh,Hs,he,rfl⟩
 .rw [tV _ _ _ (.inl h)] at he
  simp only [Am,↓An,b2,b9,h]
  exact hQ _ ⟨by simp only [];omega,λj hj=>by simp only [];exact g.same j hj⟩ (by simp only [bR,b0]) (by simp only [bR,b1]) (by simp only [bR,b2]) (by simp only [bR,b3]) (by simp only [bR,b10]) (by simp only [bR,b9];rw [he])
theorem QA{es:ES}{Q:Exit->ES->Prop}(id n a b c i j:Nat)(d:Array PCell)(hn:n0<=es.nx)(hs:SR es.hp n0 id n d)(hj:j<d.size)(b0:Ac es (.t .o)=.ms id 0 n 2)(b1:Ac es (.t (.l .o))=iv a)(b2:Ac es (.t (.r .o))=iv b)(b3:Ac es (.t (.l (.l .o)))=Cu)(b10:Ac es (.t (.r (.r (.l .o))))=iv (c:Nat))(b9:Ac es (.t (.l (.r (.l .o))))=iv (i:Nat))(b11:Ac es (.t (.l (.l (.r .o))))=iv (j:Nat))
  (hQ:∀ es':ES,Fr es.hp es.nx id es'.hp es'.nx->SR es'.hp n0 id n (shiftDown Cg j d)->Ac es' (.t .o)=.ms id 0 n 2->Ac es' (.t (.l .o))=iv a->Ac es' (.t (.r .o))=iv b->Ac es' (.t (.l (.l .o)))=Cu->Ac es' (.t (.r (.r (.l .o))))=iv (c:Nat)->Ac es' (.t (.l (.r (.l .o))))=iv (i:Nat)->Q (.exit 4) es') :
  EW (cL 1000000 zc) (kN (k+5)) es Q:=by
 have Hq:=hs.s
 refine EW.l (I:=λm es1=>∃ d1,m<=j/\Fr es.hp es.nx id es1.hp es1.nx/\SR es1.hp n0 id n d1/\shiftDown Cg m d1=shiftDown Cg j d/\Ac es1 (.t .o)=.ms id 0 n 2/\Ac es1 (.t (.l .o))=iv a/\Ac es1 (.t (.r .o))=iv b/\Ac es1 (.t (.l (.l .o)))=Cu/\Ac es1 (.t (.r (.r (.l .o))))=iv (c:Nat)/\Ac es1 (.t (.l (.r (.l .o))))=iv (i:Nat)/\Ac es1 (.t (.l (.l (.r .o))))=iv (m:Nat)) ?_ j 1000000 _ ⟨d,Af _,Fr.refl _ _ _,hs,rfl,b0,b1,b2,b3,b10,b9,b11⟩ (by omega)
 rintro m es1 ⟨d1,hm,g,Co,he,b0,b1,b2,b3,b10,b9,b11⟩
 have hle:=g.le
 have iC:d1.size=d.size:=Co.n.symm.trans hs.n
 unfold zc
 cases m with
 | zero=>
  simp only [Am,↓An,b11,show decide ((1:Int)<=0)=false from rfl]
  have Ty:d1=shiftDown Cg j d:=he
  rw [<- Ty] at hQ
  exact hQ _ (by simpa only [bR] using g) (by simpa only [bR] using Co) (by simp only [bR,b0]) (by simp only [bR,b1]) (by simp only [bR,b2]) (by simp only [bR,b3]) (by simp only [bR,b10]) (by simp only [bR,b9])
 | succ m=>
  rw [shiftDown] at he
  obtain ⟨pA,vA,Gd,Gi,lA⟩:=Co.at (show m+1<d1.size by omega)
  obtain ⟨pB,vB,Fu,Ft,lB⟩:=Co.at (show m<d1.size by omega)
  have Fa:=Gd.mono (Be (id:=id))
  have Ev:=Gi.mono (Be (id:=id))
  have Dr:=Fu.mono (Be (id:=id))
  have Dq:=Ft.mono (Be (id:=id))
  simp only [Am,↓An,b0,b3,b11,show decide ((1:Int)<=((m+1:Nat):Int))=true from Ai (by omega),wA (show m<_ by omega),Co.ia (show m+1<d1.size by omega),Co.ia (show m<d1.size by omega),lA,lB,Co.rox (m:=13) (show n0<=es1.nx by omega),Mw,lG]
  refine ⟨⟨Ci (Fa.rox (by omega)) (Ev.rox (by omega)),Ci (Dr.rox (by omega)) (Dq.rox (by omega))⟩,?_⟩
  refine Ge rfl (Zt (f:=126) (fs:=[]) (cs:=[]) (by rw [Di];simp only [bR];exact lI _) ?_)
  simp only [bR,Ao,Aq,Bu,Bh]
  refine lF k n0 _ _ _ pA vA pB vB d1[m+1]! d1[m]! (by omega) Fa Ev Dr Dq (Co.bA (show m+1<d1.size by omega)) λDu Fm Cw=>?_
  have Fp:=Cw.le
  have Hs:=Co.al (nx:=es1.nx+13) (by omega) Cw
  have g5:Fr es.hp es.nx id Du Fm:=g.up (by omega) λj hj _=>Cw.same j (by omega)
  by_cases h2:Cd d1[m+1]!.pos d1[m]!.pos<0
  .rw [Ae (by simp [Pc h2])] at he
   obtain ⟨pA,vA,Gd,Gi,lA⟩:=Hs.at (show m+1<d1.size by omega)
   obtain ⟨pB,vB,Fu,Ft,lB⟩:=Hs.at (show m<d1.size by omega)
   have Fa:=Gd.mono (Be (id:=id))
   have Ev:=Gi.mono (Be (id:=id))
   have Dr:=Fu.mono (Be (id:=id))
   have Dq:=Ft.mono (Be (id:=id))
   simp only [Am,↓An,b0,b11,Fp,Ai h2,wA (show m<_ by omega),Hs.ia (show m+1<d1.size by omega),Hs.ia (show m<d1.size by omega),lA,lB,Hs.rox (m:=18) (show n0<=Fm by omega),Mw]
   refine ⟨Ci (Dr.rox (by omega)) (Dq.rox (by omega)),?_⟩
   refine Ge rfl (Re (R:=rChange) (i:=m+1) (n:=n) (id:=id) (v:=[pB,vB]) (y:=d1[m]!) (p:=λj=>j<n0/\j≠id) (by simp only [bR];rfl) Hs.o (by simp only [Di,bR];exact Kl Fu Ft) (rChange_rd.2 ⟨pB,vB,rfl,Fu,Ft⟩) (by simp;omega) (λh=>h.2 rfl) λWy gM aJ=>?_)
   simp only [bR] at aJ
   obtain ⟨_,_,uo,hZ,_⟩:=gM.get
   have NI:=Hs.h
   have Wr:=Gd.keep (Ap:=Wy) λj hj=>aJ j hj.2
   have Wp:=Gi.keep (Ap:=Wy) λj hj=>aJ j hj.2
   have ln:Ms Wy 2 (.ms id 0 n 2) (.v (.int .i64 ((m:Nat):Int)))=some (Cf 2 (.ms id 0 n 2) (m)):=Uy gM.rl (by simp;omega)
   simp only [Am,↓An,ln,Mw,Il (n0:=Fm) (m:=18) hZ (show id<Fm by omega)]
   refine ⟨Ci ((Wr.mono (Be (id:=id))).rox (by omega)) ((Wp.mono (Be (id:=id))).rox (by omega)),?_⟩
   refine Ge rfl (Re (R:=rChange) (i:=m) (n:=n) (id:=id) (v:=[pA,vA]) (y:=d1[m+1]!) (p:=λj=>j<n0/\j≠id) (by simp only [bR];rfl) gM (by simp only [Di,bR];exact Kl Wr Wp) (rChange_rd.2 ⟨pA,vA,rfl,Wr,Wp⟩) (by simp;omega) (λh=>h.2 rfl) λGa og Nk=>?_)
   simp only [bR] at Nk
   have Ts:=Hs.swp (show m+1<d1.size by omega) (show m<d1.size by omega) og
   have g6:Fr es.hp es.nx id Ga (Fm+18):=g5.up (by omega) λq hq Mg=>by rw [Nk q Mg,aJ q Mg]
   obtain ⟨uj,S1⟩:=Hs.get
   obtain ⟨uh,R9⟩:=Ts.get
   have R3:∀ {a1 a2:List Nat} {q1 q2:Nat} (p:Past),p∈[(⟨q1,a1,Wy,Ga⟩:Past),⟨q2,a2,Du,Wy⟩]->(p.a.get id).isSome=true/\(p.b.get id).isSome=true:=λp hp=>by
    simp only [Ak,Ax,or_false] at hp
    rcases hp with rfl | rfl
    .exact ⟨by rw [hZ];rfl,by rw [R9];rfl⟩
    .exact ⟨by rw [S1];rfl,by rw [hZ];rfl⟩
   simp only [Am,↓An,b0,b1,b2,b3,b10,b9,b11,wA (show m<_ by omega)]
   exact ⟨fO (fJ id n) (by omega) (λp hp=>R3 p hp) rfl,m,by omega,_,by omega,g6,Ts,he,rfl⟩
  .rw [Ah (by simp [Ns h2])] at he
   simp only [Am,↓An,Fp,Ad h2]
   rw [<- he] at hQ
   exact hQ _ (by simpa only [bR] using g5) (by simpa only [bR] using Hs) (by simp only [bR,b0]) (by simp only [bR,b1]) (by simp only [bR,b2]) (by simp only [bR,b3]) (by simp only [bR,b10]) (by simp only [bR,b9])
theorem PY{es:ES}{Q:Exit->ES->Prop}(id n a b c i j:Nat)(d:Array PCell)(hn:n0<=es.nx)(hs:SR es.hp n0 id n d)(hj0:0<j)(hjb:j<=b)(hb:b<=d.size)(b0:Ac es (.t .o)=.ms id 0 n 2)(b1:Ac es (.t (.l .o))=iv a)(b2:Ac es (.t (.r .o))=iv b)(b3:Ac es (.t (.l (.l .o)))=Cu)(b10:Ac es (.t (.r (.r (.l .o))))=iv (c:Nat))(b9:Ac es (.t (.l (.r (.l .o))))=iv (i:Nat))(Ig:Ac es (.t (.r (.l (.r .o))))=iv (j:Nat))
  (hQ:∀ es':ES,Fr es.hp es.nx id es'.hp es'.nx->SR es'.hp n0 id n (shiftUp Cg b j d)->Ac es' (.t .o)=.ms id 0 n 2->Ac es' (.t (.l .o))=iv a->Ac es' (.t (.r .o))=iv b->Ac es' (.t (.l (.l .o)))=Cu->Ac es' (.t (.r (.r (.l .o))))=iv (c:Nat)->Ac es' (.t (.l (.r (.l .o))))=iv (i:Nat)->Q (.exit 6) es') :
  EW (cL 1000000 zb) (kN (k+5)) es Q:=by
 have Hq:=hs.s
 refine EW.l (I:=λm es1=>∃ j' d1,m=b-j'/\0<j'/\j'<=b/\Fr es.hp es.nx id es1.hp es1.nx/\SR es1.hp n0 id n d1/\shiftUp Cg b j' d1=shiftUp Cg b j d/\Ac es1 (.t .o)=.ms id 0 n 2/\Ac es1 (.t (.l .o))=iv a/\Ac es1 (.t (.r .o))=iv b/\Ac es1 (.t (.l (.l .o)))=Cu/\Ac es1 (.t (.r (.r (.l .o))))=iv (c:Nat)/\Ac es1 (.t (.l (.r (.l .o))))=iv (i:Nat)/\Ac es1 (.t (.r (.l (.r .o))))=iv (j':Nat)) ?_ (b-j) 1000000 _ ⟨j,d,rfl,hj0,hjb,Fr.refl _ _ _,hs,rfl,b0,b1,b2,b3,b10,b9,Ig⟩ (by omega)
 rintro m es1 ⟨j',d1,hm,AQ,mE,g,Co,he,b0,b1,b2,b3,b10,b9,Ig⟩
 have hle:=g.le
 have iC:d1.size=d.size:=Co.n.symm.trans hs.n
 unfold zb
 by_cases h:j'<b
 .obtain ⟨pA,vA,Gd,Gi,lA⟩:=Co.at (show j'<d1.size by omega)
  obtain ⟨pB,vB,Fu,Ft,lB⟩:=Co.at (show j'-1<d1.size by omega)
  have Fa:=Gd.mono (Be (id:=id))
  have Ev:=Gi.mono (Be (id:=id))
  have Dr:=Fu.mono (Be (id:=id))
  have Dq:=Ft.mono (Be (id:=id))
  simp only [Am,↓An,b0,b2,b3,Ig,h,Xn j' (by omega) (by omega),Co.ia (show j'<d1.size by omega),Co.ia (show j'-1<d1.size by omega),lA,lB,Co.rox (m:=13) (show n0<=es1.nx by omega),Mw,lG]
  refine ⟨⟨Ci (Fa.rox (by omega)) (Ev.rox (by omega)),Ci (Dr.rox (by omega)) (Dq.rox (by omega))⟩,?_⟩
  refine Ge rfl (Zt (f:=126) (fs:=[]) (cs:=[]) (by rw [Di];simp only [bR];exact lI _) ?_)
  simp only [bR,Ao,Aq,Bu,Bh]
  refine lF k n0 _ _ _ pA vA pB vB d1[j']! d1[j'-1]! (by omega) Fa Ev Dr Dq (Co.bA (show j'<d1.size by omega)) λDu Fm Cw=>?_
  have Fp:=Cw.le
  have Hs:=Co.al (nx:=es1.nx+13) (by omega) Cw
  have g5:Fr es.hp es.nx id Du Fm:=g.up (by omega) λj hj _=>Cw.same j (by omega)
  by_cases h2:Cd d1[j']!.pos d1[j'-1]!.pos<0
  .rw [eh _ _ _ h (Pc h2)] at he
   obtain ⟨pA,vA,Gd,Gi,lA⟩:=Hs.at (show j'<d1.size by omega)
   obtain ⟨pB,vB,Fu,Ft,lB⟩:=Hs.at (show j'-1<d1.size by omega)
   have Fa:=Gd.mono (Be (id:=id))
   have Ev:=Gi.mono (Be (id:=id))
   have Dr:=Fu.mono (Be (id:=id))
   have Dq:=Ft.mono (Be (id:=id))
   simp only [Am,↓An,b0,Ig,Fp,Ai h2,Xn j' (by omega) (by omega),Hs.ia (show j'<d1.size by omega),Hs.ia (show j'-1<d1.size by omega),lA,lB,Hs.rox (m:=18) (show n0<=Fm by omega),Mw]
   refine ⟨Ci (Dr.rox (by omega)) (Dq.rox (by omega)),?_⟩
   refine Ge rfl (Re (R:=rChange) (i:=j') (n:=n) (id:=id) (v:=[pB,vB]) (y:=d1[j'-1]!) (p:=λj=>j<n0/\j≠id) (by simp only [bR];rfl) Hs.o (by simp only [Di,bR];exact Kl Fu Ft) (rChange_rd.2 ⟨pB,vB,rfl,Fu,Ft⟩) (by simp;omega) (λh=>h.2 rfl) λWy gM aJ=>?_)
   simp only [bR] at aJ
   obtain ⟨_,_,uo,hZ,_⟩:=gM.get
   have NI:=Hs.h
   have Wr:=Gd.keep (Ap:=Wy) λj hj=>aJ j hj.2
   have Wp:=Gi.keep (Ap:=Wy) λj hj=>aJ j hj.2
   have ln:Ms Wy 2 (.ms id 0 n 2) (.v (.int .i64 ((j'-1:Nat):Int)))=some (Cf 2 (.ms id 0 n 2) (j'-1)):=Uy gM.rl (by simp;omega)
   simp only [Am,↓An,ln,Mw,Il (n0:=Fm) (m:=18) hZ (show id<Fm by omega)]
   refine ⟨Ci ((Wr.mono (Be (id:=id))).rox (by omega)) ((Wp.mono (Be (id:=id))).rox (by omega)),?_⟩
   refine Ge rfl (Re (R:=rChange) (i:=j'-1) (n:=n) (id:=id) (v:=[pA,vA]) (y:=d1[j']!) (p:=λj=>j<n0/\j≠id) (by simp only [bR];rfl) gM (by simp only [Di,bR];exact Kl Wr Wp) (rChange_rd.2 ⟨pA,vA,rfl,Wr,Wp⟩) (by simp;omega) (λh=>h.2 rfl) λGa og Nk=>?_)
   simp only [bR] at Nk
   have Ts:=Hs.swp (show j'<d1.size by omega) (show j'-1<d1.size by omega) og
   have g6:Fr es.hp es.nx id Ga (Fm+18):=g5.up (by omega) λq hq Mg=>by rw [Nk q Mg,aJ q Mg]
   obtain ⟨uj,S1⟩:=Hs.get
   obtain ⟨uh,R9⟩:=Ts.get
   have R3:∀ {a1 a2:List Nat} {q1 q2:Nat} (p:Past),p∈[(⟨q1,a1,Wy,Ga⟩:Past),⟨q2,a2,Du,Wy⟩]->(p.a.get id).isSome=true/\(p.b.get id).isSome=true:=λp hp=>by
    simp only [Ak,Ax,or_false] at hp
    rcases hp with rfl | rfl
    .exact ⟨by rw [hZ];rfl,by rw [R9];rfl⟩
    .exact ⟨by rw [S1];rfl,by rw [hZ];rfl⟩
   simp only [Am,↓An,b0,b1,b2,b3,b10,b9,Ig,Hn (show j'<_ by omega)]
   exact ⟨fO (fJ id n) (by omega) (λp hp=>R3 p hp) rfl,b-(j'+1),by omega,j'+1,_,rfl,by omega,by omega,g6,Ts,he,rfl⟩
  .rw [FF _ _ _ (.inr (Ns h2))] at he
   simp only [Am,↓An,Fp,Ad h2]
   rw [<- he] at hQ
   exact hQ _ (by simpa only [bR] using g5) (by simpa only [bR] using Hs) (by simp only [bR,b0]) (by simp only [bR,b1]) (by simp only [bR,b2]) (by simp only [bR,b3]) (by simp only [bR,b10]) (by simp only [bR,b9])
 .rw [FF _ _ _ (.inl h)] at he
  simp only [Am,↓An,b2,Ig,h]
  rw [<- he] at hQ
  exact hQ _ (by simpa only [bR] using g) (by simpa only [bR] using Co) (by simp only [bR,b0]) (by simp only [bR,b1]) (by simp only [bR,b2]) (by simp only [bR,b3]) (by simp only [bR,b10]) (by simp only [bR,b9])
end
structure PIS (hp:Tr DObj) (nx n0 id n a b c i:Nat) (d:Array PCell) (es:ES):Prop where
 g:Fr hp nx id es.hp es.nx
 s:SR es.hp n0 id n d
 b0:Ac es (.t .o)=.ms id 0 n 2
 b1:Ac es (.t (.l .o))=iv a
 b2:Ac es (.t (.r .o))=iv b
 b3:Ac es (.t (.l (.l .o)))=Cu
 b10:Ac es (.t (.r (.r (.l .o))))=iv (c:Nat)
 b9:Ac es (.t (.l (.r (.l .o))))=iv (i:Nat)
section
variable (k n0:Nat) (hp:Tr DObj) (nx:Nat) (K:DV->Tr DObj->Nat->Prop)
theorem Cp4(id n a b:Nat)(d:Array PCell)(hn:n0<=nx)(hs:SR hp n0 id n d)(Vu:a<b)(hb:b<=d.size)
  (hK:∀ Ap Ba,Fr hp nx id Ap Ba->SR Ap n0 id n (partialInsertionSort Cg d a b).1->K (bv (partialInsertionSort Cg d a b).2) Ap Ba):KW (kN (k+6)) (.fn 208) [.ms id 0 n 2,iv a,iv b,Cu] hp nx K:=by
 refine Ds (Gb (by decide)) ao (Ab rfl) λes e1 e2 he=>?_
 have a0:Ac es (.t .o)=.ms id 0 n 2:=he 0 _ rfl
 have a1:Ac es (.t (.l .o))=iv a:=he 1 _ rfl
 have a2:Ac es (.t (.r .o))=iv b:=he 2 _ rfl
 have a3:Ac es (.t (.l (.l .o)))=Cu:=he 3 _ rfl
 unfold GR
 subst e1 e2
 have Hq:=hs.s
 unfold partialInsertionSort at hK
 simp only [Am,↓An,a1,Hn (show a<_ by omega)]
 refine EW.up 5 (λc es1=>∃ i d1,a<i/\i<=b/\PIS es.hp es.nx n0 id n a b c i d1 es1/\partialIns Cg a b (5-c) i d1=partialIns Cg a b 5 (a+1) d) ?_ ?_ (by omega)
 .rintro c es1 hc ⟨i,d1,qF,Sa,⟨g,Co,b0,b1,b2,b3,b10,b9⟩,he⟩
  unfold Ci0
  have hle:=g.le
  have iC:d1.size=d.size:=Co.n.symm.trans hs.n
  by_cases h5:c<5
  .obtain ⟨s,Hs⟩:∃ s,5-c=s+1:=⟨4-c,by omega⟩
   have np:5-(c+1)=s:=by omega
   rw [Hs,partialIns_succ] at he
   have Lc:Cl .sub (.v (.int .i64 (b:Int))) (.v (.int .i64 (a:Int)))=some (.v (.int .i64 ((b-a:Nat):Int))):=nL (by omega) (by omega)
   obtain ⟨Dc,Gv⟩:=xM d1 b _ i rfl
   have Gv:=Gv Sa
   refine EW.seq (PIS es.hp es.nx n0 id n a b c i d1) ?_ λBy ⟨g,Co,b0,b1,b2,b3,b10,b9⟩=>?_
   .simp only [Am,↓An,b10,show decide ((c:Int)<5)=true from Ai (by omega)]
    exact ⟨by simpa only [bR] using g,by simpa only [bR] using Co,by simp only [bR,b0],by simp only [bR,b1],by simp only [bR,b2],by simp only [bR,b3],by simp only [bR,b10],by simp only [bR,b9]⟩
   have Fq:=g.le
   refine EW.seq (λdO=>∃ i d1,a<i/\i<=b/\PIS es.hp es.nx n0 id n a b c i d1 dO/\partialIns Cg a b s i d1=partialIns Cg a b 5 (a+1) d) (ew_b.2 ?_) λdO ⟨i,d1,qF,Sa,⟨g,Co,b0,b1,b2,b3,b10,b9⟩,he⟩=>?_
   .refine EW.seq (PIS es.hp es.nx n0 id n a b c (scanSorted Cg d1 b i) d1) (ew_b.2 (PZ k n0 id n a b c i d1 (by omega) Co (by omega) Sa (by omega) b0 b1 b2 b3 b10 b9 λes' q1 q2 q3 q4 q5 q6 q7=>?_)) λFs ⟨g,Co,b0,b1,b2,b3,b10,b9⟩=>?_
    .simp only [↓An]
     exact ⟨g.al q1,Co.al (by omega) q1,q2,q3,q4,q5,q6,q7⟩
    have Ik:=g.le
    generalize scanSorted Cg d1 b i=i2 at *
    by_cases e1:i2=b
    .rw [Ah e1] at he
     subst e1
     simp only [Am,↓An,bP,b2,b9]
     rw [<- he] at hK
     exact hK _ _ g Co
    .rw [Ae e1] at he
     have Fb:i2<b:=by omega
     refine EW.seq (PIS es.hp es.nx n0 id n a b c i2 d1) ?_ λYj ⟨g,Co,b0,b1,b2,b3,b10,b9⟩=>?_
     .simp only [Am,↓An,b2,b9,Ad e1]
      exact ⟨by simpa only [bR] using g,by simpa only [bR] using Co,by simp only [bR,b0],by simp only [bR,b1],by simp only [bR,b2],by simp only [bR,b3],by simp only [bR,b10],by simp only [bR,b9]⟩
     have Vq:=g.le
     by_cases e2:b-a<50
     .rw [Ah e2] at he
      simp only [Am,↓An,bP,b1,b2,Lc,show decide (((b-a:Nat):Int)<50)=true from Ai (by omega)]
      rw [<- he] at hK
      exact hK _ _ g Co
     .rw [Ae e2] at he
      refine EW.seq (PIS es.hp es.nx n0 id n a b c i2 d1) ?_ λdO ⟨g,Co,b0,b1,b2,b3,b10,b9⟩=>EW.seq (PIS es.hp es.nx n0 id n a b c i2 (swp d1 i2 (i2-1))) ?_ λiP ⟨g6,Ts,b0,b1,b2,b3,b10,b9⟩=>?_
      .simp only [Am,↓An,b1,b2,Lc,show decide (((b-a:Nat):Int)<50)=false from Ad (by omega)]
       exact ⟨by simpa only [bR] using g,by simpa only [bR] using Co,by simp only [bR,b0],by simp only [bR,b1],by simp only [bR,b2],by simp only [bR,b3],by simp only [bR,b10],by simp only [bR,b9]⟩
      .have Fp:=g.le
       obtain ⟨pA,vA,Gd,Gi,lA⟩:=Co.at (show i2<d1.size by omega)
       obtain ⟨pB,vB,Fu,Ft,lB⟩:=Co.at (show i2-1<d1.size by omega)
       have Fa:=Gd.mono (Be (id:=id))
       have Ev:=Gi.mono (Be (id:=id))
       have Dr:=Fu.mono (Be (id:=id))
       have Dq:=Ft.mono (Be (id:=id))
       simp only [Am,↓An,b0,b9,Xn i2 (by omega) (by omega),Co.ia (show i2<d1.size by omega),Co.ia (show i2-1<d1.size by omega),lA,lB,Co.rox (m:=18) (show n0<=dO.nx by omega),Mw]
       refine ⟨Ci (Dr.rox (by omega)) (Dq.rox (by omega)),?_⟩
       refine Ge rfl (Re (R:=rChange) (i:=i2) (n:=n) (id:=id) (v:=[pB,vB]) (y:=d1[i2-1]!) (p:=λj=>j<n0/\j≠id) (by simp only [bR];rfl) Co.o (by simp only [Di,bR];exact Kl Fu Ft) (rChange_rd.2 ⟨pB,vB,rfl,Fu,Ft⟩) (by simp;omega) (λh=>h.2 rfl) λQc Xb Sv=>?_)
       simp only [bR] at Sv
       obtain ⟨_,_,PO,Xf,_⟩:=Xb.get
       have C3:=Co.h
       have Py:=Gd.keep (Ap:=Qc) λj hj=>Sv j hj.2
       have Px:=Gi.keep (Ap:=Qc) λj hj=>Sv j hj.2
       have KP:Ms Qc 2 (.ms id 0 n 2) (.v (.int .i64 ((i2-1:Nat):Int)))=some (Cf 2 (.ms id 0 n 2) (i2-1)):=Uy Xb.rl (by simp;omega)
       simp only [Am,↓An,KP,Mw,Il (n0:=dO.nx) (m:=18) Xf (show id<dO.nx by omega)]
       refine ⟨Ci ((Py.mono (Be (id:=id))).rox (by omega)) ((Px.mono (Be (id:=id))).rox (by omega)),?_⟩
       refine Ge rfl (Re (R:=rChange) (i:=i2-1) (n:=n) (id:=id) (v:=[pA,vA]) (y:=d1[i2]!) (p:=λj=>j<n0/\j≠id) (by simp only [bR];rfl) Xb (by simp only [Di,bR];exact Kl Py Px) (rChange_rd.2 ⟨pA,vA,rfl,Py,Px⟩) (by simp;omega) (λh=>h.2 rfl) λIj gK If=>?_)
       simp only [bR] at If
       have bX:=Co.swp (show i2<d1.size by omega) (show i2-1<d1.size by omega) gK
       have g7:Fr es.hp es.nx id Ij (dO.nx+18):=g.up (by omega) λq hq Mg=>by rw [If q Mg,Sv q Mg]
       obtain ⟨PM,qJ⟩:=Co.get
       obtain ⟨PL,qI⟩:=bX.get
       have qA:∀ {a1 a2:List Nat} {q1 q2:Nat} (p:Past),p∈[(⟨q1,a1,Qc,Ij⟩:Past),⟨q2,a2,dO.hp,Qc⟩]->(p.a.get id).isSome=true/\(p.b.get id).isSome=true:=λp hp=>by
        simp only [Ak,Ax,or_false] at hp
        rcases hp with rfl | rfl
        .exact ⟨by rw [Xf];rfl,by rw [qI];rfl⟩
        .exact ⟨by rw [qJ];rfl,by rw [Xf];rfl⟩
       simp only [Am,↓An]
       exact ⟨fO (fJ id n) (by omega) (λp hp=>qA p hp) rfl,g7,bX,by simp only [bR,b0],by simp only [bR,b1],by simp only [bR,b2],by simp only [bR,b3],by simp only [bR,b10],by simp only [bR,b9]⟩
      have hd6:(swp d1 i2 (i2-1)).size=d1.size:=by rw [size_swp]
      have Jr:=g6.le
      generalize swp d1 i2 (i2-1)=d6 at *
      have LL:Cl .sub (.v (.int .i64 (i2:Int))) (.v (.int .i64 (a:Int)))=some (.v (.int .i64 ((i2-a:Nat):Int))):=nL (by omega) (by omega)
      have LN:Cl .sub (.v (.int .i64 (b:Int))) (.v (.int .i64 (i2:Int)))=some (.v (.int .i64 ((b-i2:Nat):Int))):=nL (by omega) (by omega)
      refine EW.seq (PIS es.hp es.nx n0 id n a b c i2 (fixDown Cg a i2 d6)) ?_ λBH ⟨g7,bX,b0,b1,b2,b3,b10,b9⟩=>?_
      .by_cases e3:2<=i2-a
       .have ef:fixDown Cg a i2 d6=shiftDown Cg (i2-1) d6:=by unfold fixDown;exact Ah e3
        rw [ef]
        simp only [Am,↓An,b1,b9,LL,show decide ((2:Int)<=((i2-a:Nat):Int))=true from Ai (by omega),Xn i2 (by omega) (by omega)]
        refine QA k n0 id n a b c i2 (i2-1) d6 (by simp only [bR];omega) (by simpa only [bR] using Ts) (by omega) (by simp only [bR,b0]) (by simp only [bR,b1]) (by simp only [bR,b2]) (by simp only [bR,b3]) (by simp only [bR,b10]) (by simp only [bR,b9]) (by simp only [bR]) λes' q1 q2 q3 q4 q5 q6 q7 q8=>?_
        simp only [bR] at q1
        simp only [↓An]
        exact ⟨g6.trans q1,q2,q3,q4,q5,q6,q7,q8⟩
       .have ef:fixDown Cg a i2 d6=d6:=by unfold fixDown;exact Ae e3
        rw [ef]
        simp only [Am,↓An,b1,b9,LL,show decide ((2:Int)<=((i2-a:Nat):Int))=false from Ad (by omega)]
        exact ⟨by simpa only [bR] using g6,by simpa only [bR] using Ts,by simp only [bR,b0],by simp only [bR,b1],by simp only [bR,b2],by simp only [bR,b3],by simp only [bR,b10],by simp only [bR,b9]⟩
      have hd7:(fixDown Cg a i2 d6).size=d1.size:=bX.n.symm.trans Co.n
      have Xd:=g7.le
      generalize fixDown Cg a i2 d6=d7 at *
      by_cases e4:2<=b-i2
      .have ef:fixUp Cg b i2 d7=shiftUp Cg b (i2+1) d7:=by unfold fixUp;exact Ah e4
       rw [ef] at he
       simp only [Am,↓An,b2,b9,LN,show decide ((2:Int)<=((b-i2:Nat):Int))=true from Ai (by omega),Hn (show i2<_ by omega)]
       refine PY k n0 id n a b c i2 (i2+1) d7 (by simp only [bR];omega) (by simpa only [bR] using bX) (by omega) (by omega) (by omega) (by simp only [bR,b0]) (by simp only [bR,b1]) (by simp only [bR,b2]) (by simp only [bR,b3]) (by simp only [bR,b10]) (by simp only [bR,b9]) (by simp only [bR]) λes' q1 q2 q3 q4 q5 q6 q7 q8=>?_
       simp only [bR] at q1
       simp only [↓An]
       exact ⟨i2,_,by omega,by omega,⟨g7.trans q1,q2,q3,q4,q5,q6,q7,q8⟩,he⟩
      .have ef:fixUp Cg b i2 d7=d7:=by unfold fixUp;exact Ae e4
       rw [ef] at he
       simp only [Am,↓An,b2,b9,LN,show decide ((2:Int)<=((b-i2:Nat):Int))=false from Ad (by omega)]
       exact ⟨i2,_,by omega,by omega,⟨by simpa only [bR] using g7,by simpa only [bR] using bX,by simp only [bR,b0],by simp only [bR,b1],by simp only [bR,b2],by simp only [bR,b3],by simp only [bR,b10],by simp only [bR,b9]⟩,he⟩
   .simp only [Am,↓An,b10,Hn (show c<_ by omega)]
    exact ⟨h5,i,d1,qF,Sa,⟨by simpa only [bR] using g,by simpa only [bR] using Co,by simp only [bR,b0],by simp only [bR,b1],by simp only [bR,b2],by simp only [bR,b3],by simp only [bR],by simp only [bR,b9]⟩,by rw [np];exact he⟩
  .have:c=5:=by omega
   subst this
   have he:(d1,false)=partialIns Cg a b 5 (a+1) d:=he
   simp only [Am,↓An,bP,b10,show decide (((5:Nat):Int)<5)=false from rfl]
   rw [<- he] at hK
   exact hK _ _ g Co
 .exact ⟨a+1,d,by omega,by omega,⟨Fr.refl _ _ _,hs,by simp only [bR,a0],by simp only [bR,a1],by simp only [bR,a2],by simp only [bR,a3],by simp only [bR];rfl,by simp only [bR]⟩,rfl⟩
end
end Go.DD
