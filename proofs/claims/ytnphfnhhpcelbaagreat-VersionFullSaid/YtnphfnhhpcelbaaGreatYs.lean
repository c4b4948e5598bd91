/- A part. -/
import Derived.Test.YtnphfnhhpcelbaaGreatYo
import Derived.Test.YtnphfnhhpcelbaaGreatYr
import Derived.Sort.AssemblyPlain
import Derived.Test.YtnphfnhhpcelbaaGreatYl
set_option linter.unusedSectionVars false
set_option linter.unusedVariables false
namespace Go.DD
open Go Go.Proofs
theorem Rows.setE{α:Type}{R:Rep α}{hp:Tr DObj}{p:Nat->Prop}{v:List DV}{y:α}(hv:R.rd hp p v y):∀ {l:List α} {fl:List DV} (i:Nat),i<l.length->Rows R hp p fl l->Rows R hp p (fl.take (i*R.e)++v++fl.drop (i*R.e+R.e)) (l.set i y)
 | [],_,_,hi,_=>by simp at hi
 | _::l,_,0,_,⟨a,b,e,h1,h3⟩=>by
  subst e
  refine ⟨v,b,?_,hv,h3⟩
  rw [Nat.zero_mul,Cp,List.take_zero,Bv,List.drop_left' (R.len h1)]
 | x::l,_,i+1,hi,⟨a,b,e,h1,h3⟩=>by
  subst e
  have h4:=h3.setE hv i (by simpa using hi)
  refine ⟨a,b.take (i*R.e)++v++b.drop (i*R.e+R.e),?_,h1,h4⟩
  have e1:(i+1)*R.e=R.e+i*R.e:=by rw [Dz,Qm,Rm]
  rw [e1,List.take_append,List.drop_append,R.len h1,Cc (by rw [R.len h1];omega),Xk (by rw [R.len h1];omega),show R.e+i*R.e-R.e=i*R.e by omega,show R.e+i*R.e+R.e-R.e=i*R.e+R.e by omega,Bv,Bu,Bu,Bu]
section
variable {call:Bg} {es:ES} {dst:Option Pa} {q:Hold (ES->Prop)}
theorem Cj0{α:Type}{R:Rep α}{p:Nat->Prop}{a x:EO}{id i n:Nat}{v:List DV}{l:List α}{y:α}(ea:Ae es a=.pt id (i*R.e))(ho:OL R es.hp p (.ms id 0 n R.e) l)(ev:Oc es x=.agg v)(hv:R.rd es.hp p v y)(hi:i<l.length)(Ng:¬ p id)
  (h:∀ Ao,OL R Ao p (.ms id 0 n R.e) (l.set i y)->(∀ j,j≠id->Ao.get j=es.hp.get j)->q.val ((ES.mk es.sl Ao es.nx).putE dst .any)) :
  Nr (sU dst (Jr R.e a x)) call es:=by
 obtain ⟨hn,_,fl,hg,hr⟩:=ho.get
 have hl:=hr.len
 have hb:i*R.e+R.e<=fl.length:=by
  rw [hl]
  have:=Cu R.e hi
  rw [Nat.succ_mul] at this;exact this
 show SW _ _ _ _
 rw [mW,ea,nA,hg,ev,E7 id (i*R.e) R.e (.agg v) R.T fl rfl (R.len hv) hb,Q6]
 show q.val ((es.up (.wr id (.row R.T (fl.take (i*R.e)++v++fl.drop (i*R.e+R.e))))).putE dst .any)
 refine h (es.up (.wr id (.row R.T (fl.take (i*R.e)++v++fl.drop (i*R.e+R.e))))).hp ?_ λj hj=>by rw [Kh,get_set,Ad hj]
 have tM:=(hr.setE hv i hi).keep (Ao:=(es.up (.wr id (.row R.T (fl.take (i*R.e)++v++fl.drop (i*R.e+R.e))))).hp) λj hj=>by rw [Kh,get_set,Ad (show ¬ j=id from λe=>Ng (e ▸ hj))]
 have:=OL.ms (R:=R) (p:=p) id _ (l.set i y) (by rw [Kh,get_set,Af rfl]) tM
 rw [Mx,<- hn] at this
 exact this
end
def Zd(x y:PCell):Bool:=decide (Cq x.pos y.pos<0)
theorem swoC:Go.Sort.SWO Zd where
 irrefl x:=by unfold Zd;rw [fV];rfl
 trans x y z h1 h2:=by
  unfold Zd at *
  have h1:=Fe h1
  have h2:=Fe h2
  have e1:=lX x.pos y.pos
  have e2:=lX y.pos z.pos
  have:=qU (show Cq x.pos y.pos = -1 by omega) (show Cq y.pos z.pos = -1 by omega)
  exact Ar (by omega)
 ntrans x y z h1 h2:=by
  unfold Zd at *
  have h1:=of_decide_eq_false h1
  have h2:=of_decide_eq_false h2
  refine Aj λh3=>?_
  have e1:=lX x.pos y.pos
  have e2:=lX y.pos z.pos
  have e3:=lX x.pos z.pos
  have:=By4 (a:=z.pos) (b:=y.pos) (c:=x.pos) (by rw [uR];omega) (by rw [uR];omega)
  rw [uR] at this
  omega
structure SR (hp:Tr DObj) (n0 id n:Nat) (d:Array PCell):Prop where
 o:OL rChange hp (λj=>j<n0/\j≠id) (.ms id 0 n 2) d.toList
 h:id<n0
 b:∀ c∈d.toList,c.pos.length<900000
 s:d.size<100000
theorem SR.n{hp:Tr DObj}{n0 id n:Nat}{d:Array PCell}(h:SR hp n0 id n d):n=d.size:=h.o.get.1
theorem SR.rl{hp:Tr DObj}{n0 id n:Nat}{d:Array PCell}(h:SR hp n0 id n d):RL rChange hp (Bl n0) (.ms id 0 n 2) d.toList:=h.o.rl.mono λj hj=>by
 rcases hj with hj | hj
 .exact hj.1
 .have:j=id:=by simpa [DV.refs] using hj
  have:=h.h
  show j<n0
  omega
theorem SR.keep{hp Ao:Tr DObj}{n0 id n:Nat}{d:Array PCell}(h:SR hp n0 id n d)(hk:∀ j,j<n0->Ao.get j=hp.get j):SR Ao n0 id n d:=⟨h.o.keep λj hj=>hk j (by
 rcases hj with hj | hj
 .exact hj.1
 .have:j=id:=by simpa [DV.refs] using hj
  have:=h.h
  omega),h.h,h.b,h.s⟩
theorem SR.get{hp:Tr DObj}{n0 id n:Nat}{d:Array PCell}(h:SR hp n0 id n d):∃ fl,hp.get id=some (.row rChange.T fl):=let ⟨_,_,fl,hg,_⟩:=h.o.get;⟨fl,hg⟩
theorem Bp9{d:Array PCell}{i j:Nat}(hi:i<d.size)(hj:j<d.size):(Go.Sort.swp d i j).toList=(d.toList.set i d.toList[j]).set j d.toList[i]:=by
 unfold Go.Sort.swp
 rw [Lk d i hi,Lk d j hj]
 simp
theorem SR.at{hp:Tr DObj}{n0 id n:Nat}{d:Array PCell}(h:SR hp n0 id n d){i:Nat}(hi:i<d.size):∃ a b,RL rInt hp (λj=>j<n0/\j≠id) a d[i]!.pos/\RL rVal hp (λj=>j<n0/\j≠id) b d[i]!.vals/\Gl hp (some 2) (.pt id (i*2))=some (.agg [a,b]):=by
 obtain ⟨hn,_,fl,hg,hr⟩:=h.o.get
 have Xe:i<d.toList.length:=by simpa using hi
 obtain ⟨rest,e1,h2⟩:=hr.at Xe
 obtain ⟨a,b,e2,h3,h4⟩:=rChange_rd.1 h2
 rw [Lk d i hi]
 refine ⟨a,b,by simpa using h3,by simpa using h4,?_⟩
 have lG:fl.drop (i*2)=[a,b]++rest:=by
  have e3:(fl.drop (i*2)).take 2=[a,b]:=e2
  have e4:fl.drop (i*2)=(fl.drop (i*2)).take 2++rest:=e1
  rw [e4,e3]
 rw [Ro hg,lG]
 rfl
theorem rf(id n i:Nat):Ca 2 (.ms id 0 n 2) i=.pt id (i*2):=by show DV.pt id (0+i*2)=_;rw [Cp]
def Np:DV:=.fn (.func 126) [.tup []]
theorem Cq4{f:Nat->Bool} : Ii Np f↔True:=MZ (by simp [Np,DV.refs,DV.refsL])
theorem Bz8(hp:Tr DObj):Cd hp Np=Np:=fI (by simp [Np,DV.refs,DV.refsL])
section
variable (k n0:Nat) (hp:Tr DObj) (nx:Nat) (K:DV->Tr DObj->Nat->Prop)
theorem Cq5(p v q w:DV)(c e:PCell)(hn:n0<=nx)(h1:RL rInt hp (Bl n0) p c.pos)(h2:RL rVal hp (Bl n0) v c.vals)(h3:RL rInt hp (Bl n0) q e.pos)(h4:RL rVal hp (Bl n0) w e.vals)(hl:c.pos.length<900000)
  (hK:∀ Ao Bk,Al hp nx Ao Bk->K (iv (Cq c.pos e.pos)) Ao Bk):KW (kN (k+5)) (.fn 126) [.agg [p,v],.agg [q,w]] hp nx K:=by
 refine En (Hm (by decide)) XC (Ab rfl) λes e1 e2 he=>?_
 have a0:Ae es (.t .o)=.agg [p,v]:=he 0 _ rfl
 have a1:Ae es (.t (.l .o))=.agg [q,w]:=he 1 _ rfl
 unfold EA
 subst e1 e2
 simp only [↓Ba]
 refine Zo (cs:=[p,v]) (by rw [Hl,a0];exact Yp h1 h2) λEi Dm Cv=>?_
 simp only [bR] at Dm Cv
 have Gb:Al es.hp es.nx Ei (es.nx+1):=⟨by omega,λj hj=>Cv j (by omega)⟩
 simp only [Ax,↓Ba]
 refine Zo (cs:=[q,w]) (by simp only [Hl,bR,a1];exact Yp (h3.ka hn Gb) (h4.ka hn Gb)) λDb Ft Et=>?_
 simp only [bR] at Ft Et
 have Dj:Al es.hp es.nx Db (es.nx+2):=⟨by omega,λj hj=>by rw [Et j (by omega),Cv j (by omega)]⟩
 obtain ⟨⟨f0,_⟩,l0,_,_⟩:=Xh ((Et es.nx (by omega)).trans Dm)
 obtain ⟨⟨g0,_⟩,m0,_,_⟩:=Xh Ft
 simp only [Ax,↓Ba,f0,l0,g0,m0]
 refine Fl (D0 (k:=k) n0 _ _ _ p q _ _ (by omega) (h1.ka hn Dj) (h3.ka hn Dj) hl ?_)
 simp only [Ax,↓Ba,bP]
 exact hK _ _ Dj
end
end Go.DD

/- Contracts: insertion sort of changes. Conditions: those that each theorem states. -/
namespace Go.DD
open Go Go.Proofs Go.Sort
structure Fr (hp:Tr DObj) (nx id:Nat) (Ao:Tr DObj) (Bk:Nat):Prop where
 le:nx<=Bk
 fr:∀ j,j<nx->j≠id->Ao.get j=hp.get j
theorem Fr.refl(hp:Tr DObj)(nx id:Nat):Fr hp nx id hp nx:=⟨Ai _,λ_ _ _=>rfl⟩
theorem Fr.trans{hp Ei Db:Tr DObj}{nx n1 n2 id:Nat}(h1:Fr hp nx id Ei n1)(h2:Fr Ei n1 id Db n2):Fr hp nx id Db n2:=⟨Ep h1.le h2.le,λj hj hi=>(h2.fr j (Bp hj h1.le) hi).trans (h1.fr j hj hi)⟩
theorem Fr.up{hp Ei Db:Tr DObj}{nx n1 n2 id:Nat}(h1:Fr hp nx id Ei n1)(hn:n1<=n2)(h2:∀ j,j<n1->j≠id->Db.get j=Ei.get j):Fr hp nx id Db n2:=h1.trans ⟨hn,h2⟩
theorem SR.al{hp Ao:Tr DObj}{n0 id n nx Bk:Nat}{d:Array PCell}(h:SR hp n0 id n d)(hn:n0<=nx)(ha:Al hp nx Ao Bk):SR Ao n0 id n d:=h.keep λj hj=>ha.same j (by omega)
theorem SR.swp{hp:Tr DObj}{n0 id n i j:Nat}{d:Array PCell}(h:SR hp n0 id n d)(hi:i<d.size)(hj:j<d.size){Ao:Tr DObj}(ho:OL rChange Ao (λj=>j<n0/\j≠id) (.ms id 0 n 2) ((d.toList.set i d[j]!).set j d[i]!)):SR Ao n0 id n (swp d i j):=by
 have e:=Bp9 hi hj
 rw [Lk d i hi,Lk d j hj] at ho
 have e1:d.toList[i]=d[i]:=by simp
 have e2:d.toList[j]=d[j]:=by simp
 rw [e1,e2] at e
 refine ⟨by rw [e];exact ho,h.h,λc hc=>?_,by rw [size_swp];exact h.s⟩
 rw [e] at hc
 rcases Tj hc with h1 | h1
 .rcases Tj h1 with h2 | h2
  .exact h.b c h2
  .exact h.b c (by rw [h2];exact aU.2 (Array.getElem_mem hj))
 .exact h.b c (by rw [h1];exact aU.2 (Array.getElem_mem hi))
theorem SR.bA{hp:Tr DObj}{n0 id n i:Nat}{d:Array PCell}(h:SR hp n0 id n d)(hi:i<d.size):d[i]!.pos.length<900000:=by
 rw [Lk d i hi]
 exact h.b _ (aU.2 (Array.getElem_mem hi))
theorem SR.ia{hp:Tr DObj}{n0 id n i:Nat}{d:Array PCell}(h:SR hp n0 id n d)(hi:i<d.size):Rr hp 2 (.ms id 0 n 2) (.v (.int .i64 (i:Int)))=some (Ca 2 (.ms id 0 n 2) i):=P9 h.rl (by simpa using hi)
theorem SR.rox{hp:Tr DObj}{n0 id n nx m:Nat}{d:Array PCell}{an:List Nat}(h:SR hp n0 id n d)(hn:n0<=nx):Cs nx m an hp id=true:=by
 obtain ⟨fl,hg⟩:=h.get
 have:=h.h
 exact Mp hg (by omega)
theorem Sk{n0 id:Nat} : ∀ j,(λj=>j<n0/\j≠id) j->Bl n0 j:=λ_ h=>h.1
theorem FY{x y:PCell}(h:Cq x.pos y.pos<0):Zd x y=true:=Ar h
theorem FZ{x y:PCell}(h:¬ Cq x.pos y.pos<0):Zd x y=false:=Aj h
theorem re{i:Nat}(h:i<9000000000000):Ds .sub (.v (.int .i64 ((i+1:Nat):Int))) (.v (.int .i64 1))=some (.v (.int .i64 (i:Int))):=by rw [Ml,Eo (by omega)];congr 3;omega
theorem B85{n0 m i:Nat}{an refs lo:List Nat}{ws:List Look}{ps:List Past}{id:Nat}(hr:∀ j∈refs,j=id)(hid:id<n0)(hp:∀ p∈ps,(p.a.get id).isSome=true/\(p.b.get id).isSome=true)(h2:Qw n0 m ws ps=true):Qw n0 m (Gt i an true false refs n0 lo ws) ps=true:=
 sA (λj hj=>by
  rw [hr j hj]
  refine ⟨hid,λp Ao=>.inr (.inr ?_)⟩
  obtain ⟨h3,h4⟩:=hp p Ao
  rw [Ad (by simp)]
  show (((p.a.get id).isSome)==((p.b.get id).isSome))=true
  rw [h3,h4];rfl) h2
theorem C13(id n:Nat):∀ j∈(DV.ms id 0 n 2).refs,j=id:=λj hj=>by simpa [DV.refs] using hj
section
variable (k n0:Nat) (hp:Tr DObj) (nx:Nat) (K:DV->Tr DObj->Nat->Prop)
theorem C14(id n a b:Nat)(d:Array PCell)(hn:n0<=nx)(hs:SR hp n0 id n d)(hb:b<=d.size)(ha:a<=d.size)
  (hK:∀ Ao Bk,Fr hp nx id Ao Bk->SR Ao n0 id n (insertionSort Zd d a b)->K (.tup []) Ao Bk):KW (kN (k+6)) (.fn 203) [.ms id 0 n 2,iv a,iv b,Np] hp nx K:=by
 refine Ss (Hm (by decide)) BG (Ab rfl) λes e1 e2 he=>?_
 have a0:Ae es (.t .o)=.ms id 0 n 2:=he 0 _ rfl
 have a1:Ae es (.t (.l .o))=iv a:=he 1 _ rfl
 have a2:Ae es (.t (.r .o))=iv b:=he 2 _ rfl
 have a3:Ae es (.t (.l (.l .o)))=Np:=he 3 _ rfl
 unfold F9
 subst e1 e2
 have He:=hs.s
 simp only [Ax,↓Ba,a1,Jx (show a<_ by omega)]
 refine EW.up (b-(a+1)) (λt An=>∃ d1,Fr es.hp es.nx id An.hp An.nx/\SR An.hp n0 id n d1/\d1.size=d.size/\insOuter Zd a b (a+1+t) d1=insertionSort Zd d a b/\Ae An (.t .o)=.ms id 0 n 2/\Ae An (.t (.l .o))=iv a/\Ae An (.t (.r .o))=iv b/\Ae An (.t (.l (.l .o)))=Np/\Ae An (.t (.r (.l (.l .o))))=iv ((a+1+t:Nat))) ?_ ?_ (by omega)
 .rintro t An ht ⟨d1,g,Mz,kV,he,b0,b1,b2,b3,b8⟩
  unfold ri
  have hle:=g.le
  by_cases h:t<b-(a+1)
  .have gj:a+1+t<b:=by omega
   rw [insOuter,Af gj] at he
   simp only [Ax,↓Ba,b2,b8,gj]
   generalize hi:a+1+t=i at he gj b8
   refine EW.l (I:=λm Cb=>∃ d2,m<=i/\Fr es.hp es.nx id Cb.hp Cb.nx/\SR Cb.hp n0 id n d2/\d2.size=d.size/\insInner Zd a m d2=insInner Zd a i d1/\Ae Cb (.t .o)=.ms id 0 n 2/\Ae Cb (.t (.l .o))=iv a/\Ae Cb (.t (.r .o))=iv b/\Ae Cb (.t (.l (.l .o)))=Np/\Ae Cb (.t (.r (.l (.l .o))))=iv (i:Nat)/\Ae Cb (.t (.l (.r (.l .o))))=iv (m:Nat)) ?_ i 1000000 _ ?_ (by omega)
   .rintro m Cb ⟨d2,hm,g2,Vd,rK,mE,x0,x1,x2,x3,x8,x9⟩
    unfold Ci9
    have Hj:=g2.le
    by_cases hma:a<m
    .obtain ⟨j,rfl⟩:∃ j,m=j+1:=⟨m-1,by omega⟩
     obtain ⟨pA,vA,Tc,Ul,lA⟩:=Vd.at (show j+1<d2.size by omega)
     obtain ⟨pB,vB,cD,cA,lB⟩:=Vd.at (show j<d2.size by omega)
     have F6:=Tc.mono (Sk (id:=id))
     have nE:=Ul.mono (Sk (id:=id))
     have gB:=cD.mono (Sk (id:=id))
     have fZ:=cA.mono (Sk (id:=id))
     simp only [Ax,↓Ba,x0,x1,x3,x9,hma,re (show j<_ by omega),Vd.ia (show j+1<d2.size by omega),Vd.ia (show j<d2.size by omega),lA,lB,Vd.rox (m:=17) (show n0<=Cb.nx by omega),rf,Cq4]
     refine ⟨⟨Kv (F6.rox (by omega)) (nE.rox (by omega)),Kv (gB.rox (by omega)) (fZ.rox (by omega))⟩,?_⟩
     refine Nt rfl (Q2 (f:=126) (fs:=[]) (cs:=[]) (by rw [Hl];simp only [bR];exact Bz8 _) ?_)
     simp only [bR,Ag,Ak,Dh,Bv]
     refine Cq5 k n0 _ _ _ pA vA pB vB d2[j+1]! d2[j]! (by omega) F6 nE gB fZ (Vd.bA (show j+1<d2.size by omega)) λGr Dx Eu=>?_
     have Jb:=Eu.le
     have Vc:=Vd.al (nx:=Cb.nx+17) (by omega) Eu
     have g3:Fr es.hp es.nx id Gr Dx:=g2.up (by omega) λj hj _=>Eu.same j (by omega)
     rw [insInner] at mE
     by_cases hc:Cq d2[j+1]!.pos d2[j]!.pos<0
     .rw [Af (by rw [FY hc];simp;omega)] at mE
      obtain ⟨pA,vA,Tc,Ul,lA⟩:=Vc.at (show j+1<d2.size by omega)
      obtain ⟨pB,vB,cD,cA,lB⟩:=Vc.at (show j<d2.size by omega)
      have F6:=Tc.mono (Sk (id:=id))
      have nE:=Ul.mono (Sk (id:=id))
      have gB:=cD.mono (Sk (id:=id))
      have fZ:=cA.mono (Sk (id:=id))
      simp only [Ax,↓Ba,x0,x9,Jb,Ar hc,re (show j<_ by omega),Vc.ia (show j+1<d2.size by omega),Vc.ia (show j<d2.size by omega),lA,lB,Vc.rox (m:=18) (show n0<=Dx by omega),rf]
      refine ⟨Kv (gB.rox (by omega)) (fZ.rox (by omega)),?_⟩
      refine Nt rfl (Cj0 (R:=rChange) (i:=j+1) (n:=n) (id:=id) (v:=[pB,vB]) (y:=d2[j]!) (p:=λj=>j<n0/\j≠id) (by simp only [bR];rfl) Vc.o (by simp only [Hl,bR];exact Yp cD cA) (rChange_rd.2 ⟨pB,vB,rfl,cD,cA⟩) (by simp;omega) (λh=>h.2 rfl) λGz yR Fp=>?_)
      simp only [bR] at Fp
      obtain ⟨_,_,fl4,Mf,_⟩:=yR.get
      have JI:=Vc.h
      have F5:=Tc.keep (Ao:=Gz) λj hj=>Fp j hj.2
      have F4:=Ul.keep (Ao:=Gz) λj hj=>Fp j hj.2
      have i4:Rr Gz 2 (.ms id 0 n 2) (.v (.int .i64 (j:Int)))=some (Ca 2 (.ms id 0 n 2) j):=P9 yR.rl (by simp;omega)
      simp only [Ax,↓Ba,i4,rf,Mp (n0:=Dx) (m:=18) Mf (show id<Dx by omega)]
      refine ⟨Kv ((F5.mono (Sk (id:=id))).rox (by omega)) ((F4.mono (Sk (id:=id))).rox (by omega)),?_⟩
      refine Nt rfl (Cj0 (R:=rChange) (i:=j) (n:=n) (id:=id) (v:=[pA,vA]) (y:=d2[j+1]!) (p:=λj=>j<n0/\j≠id) (by simp only [bR];rfl) yR (by simp only [Hl,bR];exact Yp F5 F4) (rChange_rd.2 ⟨pA,vA,rfl,F5,F4⟩) (by simp;omega) (λh=>h.2 rfl) λHp ho5 Io=>?_)
      simp only [bR] at Io
      have tL:=Vc.swp (show j+1<d2.size by omega) (show j<d2.size by omega) ho5
      simp only [Ax,↓Ba,x0,x1,x2,x3,x8,x9,re (show j<_ by omega)]
      obtain ⟨fl3,Ni⟩:=Vc.get
      obtain ⟨fl5,Qb⟩:=tL.get
      refine ⟨B85 (C13 id n) (by omega) (λp hp=>?_) rfl,j,by omega,_,by omega,⟨by have:=g3.le;omega,λq hq dn=>by rw [Io q dn,Fp q dn,g3.fr q hq dn]⟩,tL,by rw [size_swp,rK],mE,rfl⟩
      simp only [Aq,Ci,or_false] at hp
      rcases hp with rfl | rfl
      .exact ⟨by rw [Mf];rfl,by rw [Qb];rfl⟩
      .exact ⟨by rw [Ni];rfl,by rw [Mf];rfl⟩
     .rw [Ad (by rw [FZ hc];simp)] at mE
      simp only [Ax,↓Ba,x0,x1,x2,x3,x8,Jb,Aj hc,Jx (show i<_ by omega)]
      exact ⟨h,d2,g3,Vc,rK,by rw [<- he,<- mE,<- hi];rfl,by rw [<- hi];rfl⟩
    .simp only [Ax,↓Ba,x0,x1,x2,x3,x8,x9,hma]
     have he3:d2=insInner Zd a i d1:=by
      rw [<- mE]
      cases m with
      | zero=>rfl
      | succ j=>rw [insInner,Ad (by simp;omega)]
     rw [<- he3] at he
     simp only [Ax,Jx (show i<_ by omega)]
     exact ⟨h,d2,g2.up (by omega) λ_ _ _=>rfl,Vd,rK,by rw [<- he,<- hi];rfl,by rw [<- hi];rfl⟩
   .simp only [Ax,b0,b1,b2,b3,b8]
    exact ⟨d1,g,Mz,kV,rfl⟩
  .rw [insOuter,Ad (by omega)] at he
   simp only [Ax,↓Ba,b2,b8,show ¬ a+1+t<b by omega]
   exact hK _ _ g (he ▸ Mz)
 .simp only [Ax,a0,a1,a2,a3]
  exact ⟨d,Fr.refl _ _ _,hs,rfl,rfl⟩
end
end Go.DD

/- Contracts: the heap's sift of changes. Conditions: those that each theorem states. -/
namespace Go.DD
open Go Go.Proofs Go.Sort
section
variable (k n0:Nat) (hp:Tr DObj) (nx:Nat) (K:DV->Tr DObj->Nat->Prop)
end
end Go.DD

/- Contracts: heap sort of changes; a range is turned round. Conditions: those that each theorem states. -/
namespace Go.DD
open Go Go.Proofs Go.Sort
theorem MH(t:Nat)(h:t<9000000000000):Ds .sub (.v (.int .i64 (t:Int))) (.v (.int .i64 1))=some (.v (.int .i64 ((t:Int)-1))):=by rw [Ml,Eo (by omega)]
section
variable (k n0:Nat) (hp:Tr DObj) (nx:Nat) (K:DV->Tr DObj->Nat->Prop)
end
end Go.DD

/- Contracts: a range of changes is turned round; two and three places are compared. Conditions: those that each theorem states. -/
namespace Go.DD
open Go Go.Proofs Go.Sort
def bF:DV->Option DV
 | .ia cs=>some (.ia cs)
 | .pt id off=>some (.pt id off)
 | .fn (.func f) cs=>some (.fn (.func f) cs)
 | .ifc T d=>some (.ifc T d)
 | _=>none
theorem xX(x:Operand)(es:ES)(nid:Nat):Bd (.nck x) es nid=Iw (bF (es.ds.ev x)):=by
 rw [Fi];simp only [Ay]
 cases es.ds.ev x with
 | fn f cs=>cases f <;> rfl
 | _=>rfl
theorem Ut{dst:Option Pa}{x:Operand}{call:Bg}{es:ES}{Q:ES->Prop} : SW (sU dst (Bd (.nck x))) call es Q↔XW (bF (es.ds.ev x)) λd=>Q (es.putE dst d):=aY (xX x)
theorem Y8(x:Operand)(nid:Nat)(es:ES):Gd (Bd (.nck x)) nid es=bF (es.ds.ev x):=fW (X:=λes=>bF (es.ds.ev x)) (xX x) nid
theorem Xg(id off:Nat):bF (.pt id off)=some (.pt id off):=rfl
theorem Y7(t:Nat)(h:t<9000000000000)(h0:0<t):Ds .sub (.v (.int .i64 (t:Int))) (.v (.int .i64 1))=some (.v (.int .i64 ((t-1:Nat):Int))):=by rw [MH _ h];congr 3;omega
section
variable (k n0:Nat) (hp:Tr DObj) (nx:Nat) (K:DV->Tr DObj->Nat->Prop)
end
end Go.DD

/- Contracts: the scans of the partitions of changes. Conditions: those that each theorem states. -/
namespace Go.DD
open Go Go.Proofs Go.Sort
section
variable (k n0:Nat)
end
end Go.DD

/- Contracts: the two partitions of changes. Conditions: those that each theorem states. -/
namespace Go.DD
open Go Go.Proofs Go.Sort
section
variable (k n0:Nat)
end
end Go.DD

/- Contracts: partition and partitionEqual of changes. Conditions: those that each theorem states. -/
namespace Go.DD
open Go Go.Proofs Go.Sort
section
variable (k n0:Nat) (hp:Tr DObj) (nx:Nat) (K:DV->Tr DObj->Nat->Prop)
end
end Go.DD

/- Contracts: partial insertion sort of changes. Conditions: those that each theorem states. -/
namespace Go.DD
open Go Go.Proofs Go.Sort
section
variable (k n0:Nat)
end
section
variable (k n0:Nat) (hp:Tr DObj) (nx:Nat) (K:DV->Tr DObj->Nat->Prop)
end
end Go.DD

/- Contracts: bits.Len, nextPowerOfTwo, xorshift, breakPatterns. Conditions: those that each theorem states. -/
namespace Go.DD
open Go Go.Proofs Go.Sort
set_option maxRecDepth 100000
def fX:List UInt8:=[0,1,2,2,3,3,3,3,4,4,4,4,4,4,4,4,5,5,5,5,5,5,5,5,5,5,5,5,5,5,5,5,6,6,6,6,6,6,6,6,6,6,6,6,6,6,6,6,6,6,6,6,6,6,6,6,6,6,6,6,6,6,6,6,7,7,7,7,7,7,7,7,7,7,7,7,7,7,7,7,7,7,7,7,7,7,7,7,7,7,7,7,7,7,7,7,7,7,7,7,7,7,7,7,7,7,7,7,7,7,7,7,7,7,7,7,7,7,7,7,7,7,7,7,7,7,7,7,8,8,8,8,8,8,8,8,8,8,8,8,8,8,8,8,8,8,8,8,8,8,8,8,8,8,8,8,8,8,8,8,8,8,8,8,8,8,8,8,8,8,8,8,8,8,8,8,8,8,8,8,8,8,8,8,8,8,8,8,8,8,8,8,8,8,8,8,8,8,8,8,8,8,8,8,8,8,8,8,8,8,8,8,8,8,8,8,8,8,8,8,8,8,8,8,8,8,8,8,8,8,8,8,8,8,8,8,8,8,8,8,8,8,8,8,8,8,8,8,8,8,8,8,8,8,8,8]
theorem Cq6:∀ x,(h:x<256)->(fX[x]'(by simpa [fX] using h)).toNat=bitsLen x:=by decide +kernel
theorem sw_kix{dst:Option Pa}{v:Value}{y:Operand}{call:Bg}{es:ES}{Q:ES->Prop} : SW (sU dst (Bd (.ixs (.const v) y))) call es Q↔XW (Rp (Qt v) (es.ds.ev y)) λd=>Q (es.putE dst d):=aY (xZ (.const v) y)
theorem Cq7{x:Nat}{d:DV}(hx:x<256)(hd:d=ub x){K:DV->Prop}(h:K (ub (bitsLen x))):XW (Rp (Qt (.string (bs [0,1,2,2,3,3,3,3,4,4,4,4,4,4,4,4,5,5,5,5,5,5,5,5,5,5,5,5,5,5,5,5,6,6,6,6,6,6,6,6,6,6,6,6,6,6,6,6,6,6,6,6,6,6,6,6,6,6,6,6,6,6,6,6,7,7,7,7,7,7,7,7,7,7,7,7,7,7,7,7,7,7,7,7,7,7,7,7,7,7,7,7,7,7,7,7,7,7,7,7,7,7,7,7,7,7,7,7,7,7,7,7,7,7,7,7,7,7,7,7,7,7,7,7,7,7,7,7,8,8,8,8,8,8,8,8,8,8,8,8,8,8,8,8,8,8,8,8,8,8,8,8,8,8,8,8,8,8,8,8,8,8,8,8,8,8,8,8,8,8,8,8,8,8,8,8,8,8,8,8,8,8,8,8,8,8,8,8,8,8,8,8,8,8,8,8,8,8,8,8,8,8,8,8,8,8,8,8,8,8,8,8,8,8,8,8,8,8,8,8,8,8,8,8,8,8,8,8,8,8,8,8,8,8,8,8,8,8,8,8,8,8,8,8,8,8,8,8,8,8,8,8,8,8,8,8]))) d) K:=by
 subst hd
 have hl:x<(bs fX).data.toList.length:=by rw [show (bs fX).data.toList.length=256 from rfl];exact hx
 have e:=Cz8 (s:=bs fX) (k:=.u8) hl
 have e2:((bs fX).data.toList[x]'hl).toNat=bitsLen x:=Cq6 x hx
 rw [e2] at e
 show XW (Rp (.v (.string (bs fX))) (.v (.int .u8 (x:Int)))) K
 rw [e]
 exact ⟨_,rfl,h⟩
theorem Bb6{x:Nat}(h:x<256):bitsLen x<9:=by
 have:=(bitsLen_le_iff x 8).2 h
 omega
section
variable (k n0:Nat) (hp:Tr DObj) (nx:Nat) (K:DV->Tr DObj->Nat->Prop)
theorem B86(x:Nat)(hx:x<256)(hK:K (iv (bitsLen x:Nat)) hp nx):KW (kN (k+1)) (.fn 201) [.v (.int .u64 (x:Int))] hp nx K:=by
 refine En (Hm (by decide)) VV (Ab rfl) λes e1 e2 he=>?_
 have a0:Ae es (.t .o)=.v (.int .u64 (x:Int)):=he 0 _ rfl
 unfold CQ
 subst e1 e2
 have h9:=Bb6 hx
 simp only [Ax,↓Ba,bP,a0,show ¬ (4294967296:Int)<=(x:Int) by omega,show ¬ (65536:Int)<=(x:Int) by omega,show ¬ (256:Int)<=(x:Int) by omega,Cz0 hx]
 refine sw_kix.2 (Cq7 hx (by simp only [ub,Cg,bP,bR];rfl) ?_)
 simp only [ub]
 simp only [Ax,Bw3 (k:=.u8) (show bitsLen x<_ by omega)]
 have e:Ds .add (.v (.int .i64 0)) (.v (.int .i64 ((bitsLen x:Nat):Int)))=some (.v (.int .i64 ((bitsLen x:Nat):Int))):=by
  rw [show (DV.v (.int .i64 0))=.v (.int .i64 ((0:Nat):Int)) from rfl,lN (by omega),Cp]
 simp only [Ax,e]
 exact hK
theorem Cj1(x:Nat)(hx:x<256)(hK:K (iv (bitsLen x:Nat)) hp nx):KW (kN (k+2)) (.fn 176) [.v (.int .u64 (x:Int))] hp nx K:=by
 refine En (Hm (by decide)) WG (Ab rfl) λes e1 e2 he=>?_
 have a0:Ae es (.t .o)=.v (.int .u64 (x:Int)):=he 0 _ rfl
 unfold CZ
 subst e1 e2
 simp only [Ax,↓Ba,a0]
 refine Fl (B86 k _ _ _ x hx ?_)
 simp only [Ax,↓Ba,bP]
 exact hK
end
end Go.DD

/- Contracts: pdqsort of changes. Conditions: those that each theorem states. -/
namespace Go.DD
open Go Go.Proofs Go.Sort
theorem LJ{hp:Tr DObj}(x:Int)(w:Bool):Fv hp (.tup [iv x,bv w]) 0=some (iv x):=C1 λid hid=>by simp [DV.refs,DV.refsL] at hid
section
variable (k n0:Nat)
end
end Go.DD

/- Contracts: slices.Values, AppendSeq, Collect over changes. Conditions: those that each theorem states. -/
namespace Go.DD
open Go Go.Proofs Go.Sort
def CJ(n0:Nat)(sl:Tr DV)(L bo:Nat)(W:List PCell)(hp:Tr DObj)(nx:Nat):Prop:=
 ∃ z T,hp.get L=some (.loop ⟨13,.t sl,[7],W3,W2,.ready,none⟩)/\hp.get bo=some (.row T [z])/\OL rChange hp (Bl n0) z W/\(∀ j∈z.refs,n0<=j/\j<nx/\j≠L/\j≠bo)/\n0<=L/\L<nx/\n0<=bo/\bo<nx/\L≠bo/\Ae ⟨sl,.e,0⟩ (.t (.r .o))=.pt bo 0
theorem CJ.keep{n0:Nat}{sl:Tr DV}{L bo:Nat}{W:List PCell}{hp Ao:Tr DObj}{nx Bk:Nat}(h:CJ n0 sl L bo W hp nx)(hn:nx<=Bk)(hk:∀ j,j<nx->Ao.get j=hp.get j):CJ n0 sl L bo W Ao Bk:=by
 obtain ⟨z,T,h1,h2,h3,h4,h5,h6,h7,h8,h9,O5⟩:=h
 refine ⟨z,T,(hk L h6).trans h1,(hk bo h8).trans h2,h3.keep λj hj=>hk j (hj.elim (λh=>?_) λh=>(h4 j h).2.1),λj hj=>?_,h5,by omega,h7,by omega,h9,O5⟩
 .have:j<n0:=h
  omega
 .have:=h4 j hj
  exact ⟨this.1,by omega,this.2.2⟩
section
variable (k n0:Nat) (hp:Tr DObj) (nx:Nat) (K:DV->Tr DObj->Nat->Prop)
theorem B00(sl:Tr DV)(L bo:Nat)(W:List PCell)(a b:DV)(c:PCell)(hn:n0<=nx)(hJ:CJ n0 sl L bo W hp nx)(ha:RL rInt hp (Bl n0) a c.pos)(hb:RL rVal hp (Bl n0) b c.vals)(hW:W.length<900000)
  (hK:∀ Ao Bk,nx<=Bk->(∀ j,j<n0->Ao.get j=hp.get j)->CJ n0 sl L bo (W ++ [c]) Ao Bk->K (bv true) Ao Bk) :
  KW (kN (k+1)) (.yl L) [.agg [a,b]] hp nx K:=by
 obtain ⟨z,T,j1,j2,j3,j4,j5,j6,j7,j8,j9,s2⟩:=hJ
 refine nW j1 rfl rfl rfl rfl rfl ?_
 rw [show Dt 1000000 13 true W3=tu from Cq2]
 unfold tu
 have GY:∀ hp nx,Ae ⟨Ov [7] [.agg [a,b]] sl,hp,nx⟩ (.t (.l (.l (.l .o))))=.agg [a,b]:=λhp nx=>by
  show Ae ((ES.mk sl hp nx).putE (some (.l (.l (.l .o)))) (.agg [a,b])) (.t (.l (.l (.l .o))))=.agg [a,b]
  simp only [bR]
 have tF:∀ hp nx,Ae ⟨Ov [7] [.agg [a,b]] sl,hp,nx⟩ (.t (.r .o))=.pt bo 0:=λhp nx=>by
  show Ae ((ES.mk sl hp nx).putE (some (.l (.l (.l .o)))) (.agg [a,b])) (.t (.r .o))=.pt bo 0
  simp only [bR]
  exact s2
 generalize Ov [7] [.agg [a,b]] sl=zz at GY tF
 simp only [↓Ba]
 refine Vr λEi Dm Cv=>?_
 simp only [bR] at Dm Cv
 have gX:=ha.keep (Ao:=Ei) λj (hj:j<n0)=>Cv j (by omega)
 have cQ:=hb.keep (Ao:=Ei) λj (hj:j<n0)=>Cv j (by omega)
 simp only [↓Ba]
 refine Uu (n:=2) (id:=nx) (ds:=[a,b]) (by simp only [bR]) Dm (by simp only [Hl,bR,GY];exact Yp gX cQ) rfl rfl λDb Ft Et=>?_
 simp only [bR] at Ft Et
 simp only [Ax,↓Ba]
 refine ⟨_,(Et L (by omega)).trans ((Cv L (by omega)).trans j1),rfl,?_⟩
 rw [show Dt 1000000 13 true W2=tt from Cq3]
 unfold tt
 obtain ⟨lp,bL⟩:∃ lp:DLoop,lp=⟨13,.t sl,[7],W3,W2,.busy,none⟩:=⟨_,rfl⟩
 have Yh:∀ j,j≠L->(Db.set L (some (.loop lp))).get j=Db.get j:=λj hj=>by rw [Tr.get_set,Ad (Ek hj)]
 have pJ:(Db.set L (some (.loop lp))).get L=some (.loop lp):=by rw [Tr.get_set,Af rfl]
 rw [<- bL]
 generalize Db.set L (some (.loop lp))=hq at Yh pJ ⊢
 have kq:∀ j,j<nx->j≠L->hq.get j=hp.get j:=λj hj hL=>by rw [Yh j hL,Et j (by omega),Cv j (by omega)]
 have LA:hq.get bo=some (.row T [z]):=(kq bo j8 (Ek j9)).trans j2
 have g5:hq.get nx=some (.row 62 [a,b]):=(Yh nx (by omega)).trans Ft
 have haq:=ha.keep (Ao:=hq) λj (hj:j<n0)=>kq j (by omega) (by omega)
 have hbq:=hb.keep (Ao:=hq) λj (hj:j<n0)=>kq j (by omega) (by omega)
 have bd:=j3.keep (Ao:=hq) λj hj=>hj.elim (λ(h:j<n0)=>kq j (by omega) (by omega)) λh=>kq j (j4 j h).2.1 (j4 j h).2.2.1
 have l5:Gl hq (some 2) (.pt nx 0)=some (.agg [a,b]):=by rw [Ro g5];rfl
 have GD:=Yp haq hbq
 simp only [Ax,↓Ba,tF,qM LA,l5]
 refine Vt (fl:=[a,b]) rfl (by simp only [Ag,Ak,Cg,bR,bP,GD];rfl) λGr Ni Iz=>?_
 simp only [bR] at Ni Iz
 have jx:=haq.keep (Ao:=Gr) λj (hj:j<n0)=>Iz j (by omega)
 have jr:=hbq.keep (Ao:=Gr) λj (hj:j<n0)=>Iz j (by omega)
 have I4:=bd.keep (Ao:=Gr) λj hj=>Iz j (hj.elim (λ(h:j<n0)=>by omega) λh=>by have:=(j4 j h).2.1;omega)
 simp only [Ax,↓Ba]
 refine jT (R:=rChange) (p:=Bl n0) (p2:=Bl n0) (d:=z) (d2:=.ms (nx+1) 0 1 2) (l:=W) (m:=[c]) (by simp only [bR,bP]) I4 (by simp only [Cg,bR,bP];exact Rl Ni) (NB (R:=rChange) (x:=c) Ni (rChange_rd.2 ⟨a,b,rfl,jx,jr⟩)) rfl rfl (by rw [Bf];omega) (by decide) λGz Fp h4=>?_
 simp only [bR] at Fp h4
 have o4:=h4 (Bl n0) λj hj=>by
  have:j<n0:=hj.elim id id
  exact ⟨this,by omega,λh=>by have:=(j4 j h).1;omega⟩
 have N4:Gz.get bo=some (.row T [z]):=by rw [Fp bo (by omega) λh=>(j4 bo h).2.2.2 rfl,Iz bo (by omega),LA]
 obtain ⟨_,_,mi,gR,_⟩:=o4.get
 simp only [Ax,↓Ba]
 refine mN (id:=bo) (off:=0) (by simp only [bR,tF]) N4 (by simp only [Hl,bR];exact Rl gR) (dK _ _ _ _) (by simp) λHp Qb Io=>?_
 simp only [bR] at Qb Io
 simp only [Ax,↓Ba]
 have kj:Hp.get L=some (.loop lp):=by rw [Io L j9,Fp L (by omega) λh=>(j4 L h).2.2.1 rfl,Iz L (by omega),pJ]
 have k6:∀ j,j≠L->(Hp.set L (some (.loop { lp with st:=.ready,pend:=none }))).get j=Hp.get j:=λj hj=>by rw [Tr.get_set,Ad (Ek hj)]
 refine ⟨lp,kj,hK _ _ (by omega) (λj hj=>?_) ⟨_,T,by rw [Tr.get_set,Af rfl,bL],(k6 bo (Ek j9)).trans Qb,o4.keep λj hj=>?_,λj hj=>?_,j5,by omega,j7,by omega,j9,s2⟩⟩
 .rw [k6 j (by omega),Io j (by omega),Fp j (by omega) λh=>by have:=(j4 j h).1;omega,Iz j (by omega),kq j (by omega) (by omega)]
 .have Tx:j≠bo/\j≠L:=hj.elim (λ(h:j<n0)=>⟨by omega,by omega⟩) λh=>by
   have:j=nx+1+1:=by simpa [DV.refs] using h
   exact ⟨by omega,by omega⟩
  rw [k6 j Tx.2,Io j Tx.1]
 .have:j=nx+1+1:=by simpa [DV.refs] using hj
  exact ⟨by omega,by omega,by omega,by omega⟩
end
end Go.DD

/- Contracts: slices.Values over changes, Collect, SortFunc, SortedFunc. Conditions: those that each theorem states. -/
namespace Go.DD
open Go Go.Proofs Go.Sort
section
variable (k n0:Nat) (hp:Tr DObj) (nx:Nat) (K:DV->Tr DObj->Nat->Prop)
theorem B87(sl:Tr DV)(L bo bx T:Nat)(d:DV)(l:List PCell)(hn:n0<=nx)(fO:hp.get bx=some (.row T [d]))(hd:RL rChange hp (Bl n0) d l)(hl:l.length<900000)(hJ:CJ n0 sl L bo [] hp nx)
  (hK:∀ Ao Bk,nx<=Bk->(∀ j,j<n0->Ao.get j=hp.get j)->CJ n0 sl L bo l Ao Bk->K (.tup []) Ao Bk) :
  KW (kN (k+2)) (.fn 161) [.yl L,.pt bx 0] hp nx K:=by
 refine Ss (Hm (by decide)) WL (Ab rfl) λes e1 e2 he=>?_
 have a0:Ae es (.t .o)=.yl L:=he 0 _ rfl
 have a1:Ae es (.t (.l .o))=.pt bx 0:=he 1 _ rfl
 unfold DH
 subst e1 e2
 simp only [Ax,↓Ba,a1,qM fO,hd.len]
 refine EW.up l.length (λi An=>es.nx<=An.nx/\(∀ j,j<n0->An.hp.get j=es.hp.get j)/\CJ n0 sl L bo (l.take i) An.hp An.nx/\Ae An (.t .o)=.yl L/\Ae An (.t (.l (.r .o)))=d/\Ae An (.t (.r (.r .o)))=iv l.length/\Ae An (.t (.l (.l (.l .o))))=iv (i:Nat)) ?_ ?_ (by omega)
 .rintro i An hi ⟨hle,Ct,U9,b0,b5,b6,b7⟩
  unfold Ci8
  have kV:=hd.keep (Ao:=An.hp) λj hj=>Ct j hj
  by_cases h:i<l.length
  .obtain ⟨a,b,ra,rb,lA,_,_⟩:=MX kV h
   simp only [Ax,↓Ba,b5,b6,b7,h,P9 kV h,lA]
   refine Vr λEi Dm Cv=>?_
   simp only [bR] at Dm Cv
   have ra1:=ra.keep (Ao:=Ei) λj (hj:j<n0)=>Cv j (by omega)
   have rb1:=rb.keep (Ao:=Ei) λj (hj:j<n0)=>Cv j (by omega)
   simp only [Ax,↓Ba]
   refine Uu (n:=2) (id:=An.nx) (ds:=[a,b]) (by simp only [bR]) Dm (by simp only [Hl,bR];exact Yp ra1 rb1) rfl rfl λDb Ft Et=>?_
   simp only [bR] at Ft Et
   have kq:∀ j,j<An.nx->Db.get j=An.hp.get j:=λj hj=>by rw [Et j (by omega),Cv j (by omega)]
   have wF:=ra.keep (Ao:=Db) λj (hj:j<n0)=>kq j (by omega)
   have F8:=rb.keep (Ao:=Db) λj (hj:j<n0)=>kq j (by omega)
   have l2:Gl Db (some 2) (.pt An.nx 0)=some (.agg [a,b]):=by rw [Ro Ft];rfl
   have hJ2:=U9.keep (Ao:=Db) (Bk:=An.nx+1) (by omega) kq
   obtain ⟨_,_,gL,_⟩:=hJ2
   simp only [Ax,↓Ba,b0,l2]
   refine mV (L:=L) (by simp only [bR]) gL ?_
   simp only [Ag,Ak,bR]
   refine B00 k n0 _ _ _ sl L bo (l.take i) a b l[i] (by omega) (U9.keep (by omega) kq) wF F8 (by rw [Bs];omega) λGr Dx Jb bS U8=>?_
   simp only [Ax,↓Ba,b0,b5,b6,b7,Jx (show i<_ by omega)]
   refine ⟨h,by omega,λj hj=>?_,?_⟩
   .rw [bS j hj,kq j (by omega),Ct j hj]
   .rw [<- List.take_append_getElem h]
    exact U8
  .have kS:i=l.length:=by omega
   subst kS
   rw [List.take_length] at U9
   simp only [Ax,↓Ba,b6,b7,It l.length]
   exact hK _ _ hle Ct U9
 .exact ⟨Ai _,λ_ _=>rfl,hJ,by simp only [bR,a0],by simp only [bR],by simp only [bR],by simp only [bR];rfl⟩
theorem B01(d:DV)(hd:d.okC=true/\d.cells=[d])(hl:Cd hp d=d)(hK:∀ Ao,Ao.get nx=some (.row 27 [d])->(∀ j,j≠nx->Ao.get j=hp.get j)->K (.fn (.func 161) [.tup [],.pt nx 0]) Ao (nx+1)):KW (kN (k+1)) (.fn 125) [d] hp nx K:=by
 refine En (Hm (by decide)) XD (Ab rfl) λes e1 e2 he=>?_
 have a0:Ae es (.t .o)=d:=he 0 _ rfl
 unfold EB
 subst e1 e2
 simp only [↓Ba]
 refine Z5 (v:=d) (by simp only [Hl,a0,hl]) hd λEi Dm Cv=>?_
 simp only [bR] at Dm Cv
 simp only [Ax,↓Ba,bP]
 have e1:Cd Ei (.pt es.nx 0)=.pt es.nx 0:=Wc λid hid=>by
  have:id=es.nx:=by simpa [DV.refs] using hid
  rw [this,Dm];rfl
 rw [e1]
 have e2:Cd Ei (.fn (.func 161) [.tup [],.pt es.nx 0])=.fn (.func 161) [.tup [],.pt es.nx 0]:=Wc λid hid=>by
  have:id=es.nx:=by simpa [DV.refs,DV.refsL] using hid
  rw [this,Dm];rfl
 rw [e2]
 exact hK _ Dm Cv
def yB(bx:Nat):DV:=.fn (.func 161) [.tup [],.pt bx 0]
theorem C15{An:ES}{Q:Exit->ES->Prop}(bo bx T T2:Nat)(d:DV)(l:List PCell)(hn:n0<=bo)(hb:An.nx=bo+1)(gv:An.hp.get bo=some (.row T2 [Cl]))(hgx:An.hp.get bx=some (.row T [d]))(fO:bx<bo)(hd:RL rChange An.hp (Bl n0) d l)(hl:l.length<900000)(b2:Ae An (.t (.r .o))=.pt bo 0)(b6:Ae An (.t (.r (.r .o)))=yB bx)
  (hQ:∀ Ao Bk z T,An.nx<=Bk->(∀ j,j<n0->Ao.get j=An.hp.get j)->Ao.get bo=some (.row T [z])->OL rChange Ao (Bl n0) z l->(∀ j∈z.refs,n0<=j/\j<Bk)->Q .normal ⟨An.sl,Ao,Bk⟩) :
  EW (cR 13 false (.t (.r (.r .o))) [7] W3 W2) (kN (k+2)) An Q:=by
 have Ik:∀ (x:Option DObj) j,j≠bo+1->(An.hp.set (bo+1) x).get j=An.hp.get j:=λx j hj=>by rw [Tr.get_set,Ad (Ek hj)]
 refine Cf1 (f:=161) (cs:=[.pt bx 0]) ?_ ?_
 .rw [Hl,b6]
  exact Wc λid hid=>by
   have:id=bx:=by simpa [yB,DV.refs,DV.refsL] using hid
   rw [this,hgx];rfl
 .rw [hb]
  refine B87 k n0 _ _ _ An.sl (bo+1) bo bx T d l (by omega) ((Ik _ _ (by omega)).trans hgx) (hd.keep λj (hj:j<n0)=>Ik _ j (by omega)) hl ⟨Cl,T2,by rw [Tr.get_set,Af rfl],(Ik _ _ (by omega)).trans gv,.nil,λj hj=>by (cases hj),by omega,by omega,hn,by omega,by omega,b2⟩ λAo Bk hle Ct ⟨z,T,g1,g2,g3,g4,g5,g6,g7,g8,g9,g10⟩=>?_
  have bI:∀ j,j≠bo+1->(Ao.set (bo+1) none).get j=Ao.get j:=λj hj=>by rw [Tr.get_set,Ad (Ek hj)]
  refine ⟨_,g1,by simp,.inl ⟨rfl,?_⟩⟩
  refine hQ _ _ z T (by omega) (λj hj=>?_) ((bI _ (by omega)).trans g2) (g3.keep λj hj=>bI j (hj.elim (λ(h:j<n0)=>by omega) λh=>(g4 j h).2.2.1)) λj hj=>⟨(g4 j hj).1,(g4 j hj).2.1⟩
  rw [bI j (by omega),Ct j hj,Ik _ j (by omega)]
theorem B02(bx T:Nat)(d:DV)(l:List PCell)(hn:n0<=nx)(fO:hp.get bx=some (.row T [d]))(hb:bx<nx)(hd:RL rChange hp (Bl n0) d l)(hl:l.length<900000)
  (hK:∀ Ao Bk z,nx<=Bk->(∀ j,j<n0->Ao.get j=hp.get j)->OL rChange Ao (Bl n0) z l->(∀ j∈z.refs,n0<=j/\j<Bk)->K z Ao Bk) :
  KW (kN (k+3)) (.fn 185) [Cl,yB bx] hp nx K:=by
 refine En (Hm (by decide)) VX (Ab rfl) λes e1 e2 he=>?_
 have a0:Ae es (.t .o)=Cl:=he 0 _ rfl
 have a1:Ae es (.t (.l .o))=yB bx:=he 1 _ rfl
 unfold CS
 subst e1 e2
 simp only [↓Ba]
 refine Z5 (v:=Cl) (by simp only [Hl,a0];rfl) ⟨rfl,rfl⟩ λEi Dm Cv=>?_
 simp only [bR] at Dm Cv
 simp only [Ax,↓Ba,a1]
 refine C15 k n0 es.nx bx T _ d l hn rfl Dm ((Cv bx (by omega)).trans fO) hb (hd.keep λj (hj:j<n0)=>Cv j (by omega)) hl (by simp only [bR]) (by simp only [bR]) λGz Mj z T kL Vl L6 kG GZ=>?_
 simp only [Ax,↓Ba,bP,qM L6,kG.rl.live]
 exact hK _ _ z (by simp only [] at kL;omega) (λj hj=>by rw [Vl j hj];simp only [];exact Cv j (by omega)) kG GZ
theorem Bq0(bx T:Nat)(d:DV)(l:List PCell)(hn:n0<=nx)(fO:hp.get bx=some (.row T [d]))(hb:bx<nx)(hd:RL rChange hp (Bl n0) d l)(hl:l.length<900000)
  (hK:∀ Ao Bk z,nx<=Bk->(∀ j,j<n0->Ao.get j=hp.get j)->OL rChange Ao (Bl n0) z l->(∀ j∈z.refs,n0<=j/\j<Bk)->K z Ao Bk) :
  KW (kN (k+4)) (.fn 159) [yB bx] hp nx K:=by
 refine En (Hm (by decide)) WM (Ab rfl) λes e1 e2 he=>?_
 have a0:Ae es (.t .o)=yB bx:=he 0 _ rfl
 unfold DI
 subst e1 e2
 simp only [Ax,↓Ba,a0]
 refine Fl (B02 k n0 _ _ _ bx T d l hn fO hb hd hl λGz Mj z kL Vl kG GZ=>?_)
 simp only [Ax,↓Ba,bP,kG.rl.live]
 exact hK _ _ z kL Vl kG GZ
end
end Go.DD

/- Contracts: SortFunc, SortedFunc over changes. Conditions: those that each theorem states. -/
namespace Go.DD
open Go Go.Proofs Go.Sort
def gD:Nat:=13
theorem B03:13<=gD:=by decide
theorem ts:gD<=256:=by decide
theorem Bf1{d d':Array PCell}(hP:PermIn 0 d.size d d')(hS:SortedIn Zd 0 d.size d'):d'.toList.Perm d.toList/\d'.toList.Pairwise (λx y=>Zd y x=false):=by
 obtain ⟨h1,_,h3⟩:=hP
 have e:d.extract 0 d.size=d:=by simp
 have e':d'.extract 0 d.size=d':=by rw [<- h1];simp
 rw [e,e'] at h3
 refine ⟨h3,Cy.2 λi j hi hj Oy=>?_⟩
 have Xe:i<d'.size:=by simpa using hi
 have Tx:j<d'.size:=by simpa using hj
 have:=hS i j (Gu _) Oy (by omega)
 rw [Lk d' i Xe,Lk d' j Tx] at this
 simpa using this
section
variable (k n0:Nat) (hp:Tr DObj) (nx:Nat) (K:DV->Tr DObj->Nat->Prop)
theorem Cq8(hK:∀ Bk,nx<=Bk->K (.tup []) hp Bk):KW (kN (k+1)) (.fn 203) [Cl,iv 0,iv 0,Np] hp nx K:=by
 refine Ss (Hm (by decide)) BG (Ab rfl) λes e1 e2 he=>?_
 have a0:Ae es (.t .o)=Cl:=he 0 _ rfl
 have a1:Ae es (.t (.l .o))=iv 0:=he 1 _ rfl
 have a2:Ae es (.t (.r .o))=iv 0:=he 2 _ rfl
 have a3:Ae es (.t (.l (.l .o)))=Np:=he 3 _ rfl
 unfold F9
 subst e1 e2
 have e01:Ds .add (iv 0) (.v (.int .i64 1))=some (iv 1):=rfl
 simp only [Ax,↓Ba,a1,e01]
 refine EW.l (I:=λ_ An=>An.hp=es.hp/\es.nx<=An.nx/\Ae An (.t (.r .o))=iv 0/\Ae An (.t (.r (.l (.l .o))))=iv 1) ?_ 0 1000000 _ ⟨rfl,Ai _,by simp only [bR,a2],by simp only [bR]⟩ (by omega)
 rintro m An ⟨h1,h2,b2,b8⟩
 unfold ri
 simp only [Ax,↓Ba,b2,b8,show decide ((1:Int)<0)=false from rfl]
 rw [h1]
 exact hK _ h2
theorem Cq9(l:Nat)(hK:∀ Bk,nx<=Bk->K (.tup []) hp Bk):KW (kN (k+2)) (.fn 186) [Cl,iv 0,iv 0,iv l,Np] hp nx K:=by
 refine Ss (Hm (by decide)) BH (Ab rfl) λes e1 e2 he=>?_
 have a0:Ae es (.t .o)=Cl:=he 0 _ rfl
 have a1:Ae es (.t (.l .o))=iv 0:=he 1 _ rfl
 have a2:Ae es (.t (.r .o))=iv 0:=he 2 _ rfl
 have a3:Ae es (.t (.l (.l .o)))=iv l:=he 3 _ rfl
 have a4:Ae es (.t (.r (.l .o)))=Np:=he 4 _ rfl
 unfold G0
 subst e1 e2
 simp only [Ax,↓Ba]
 refine EW.l (I:=λ_ An=>An.hp=es.hp/\es.nx<=An.nx/\Ae An (.t .o)=Cl/\Ae An (.t (.l .o))=iv 0/\Ae An (.t (.r .o))=iv 0/\Ae An (.t (.r (.l .o)))=Np) ?_ 0 1000000 _ ⟨rfl,Ai _,by simp only [bR,a0],by simp only [bR,a1],by simp only [bR,a2],by simp only [bR,a4]⟩ (by omega)
 rintro m An ⟨h1,h2,b0,b1,b2,b4⟩
 unfold rm
 have qa:Ds .sub (iv 0) (iv 0)=some (iv 0):=rfl
 simp only [Ax,↓Ba,b0,b1,b2,b4,qa,show decide ((0:Int)<=12)=true from rfl]
 refine Fl (Cq8 k _ _ _ λBk hle=>?_)
 simp only [Ax,↓Ba]
 rw [h1]
 exact hK _ (by omega)
theorem Cr0(id n l:Nat)(d:Array PCell)(hn:n0<=nx)(hs:SR hp n0 id n d)(hz:d.size<=12)
  (hK:∀ Ao Bk d',Fr hp nx id Ao Bk->SR Ao n0 id n d'->PermIn 0 n d d'->SortedIn Zd 0 n d'->K (.tup []) Ao Bk):KW (kN (k+7)) (.fn 186) [.ms id 0 n 2,iv 0,iv n,iv l,Np] hp nx K:=by
 refine Ss (Hm (by decide)) BH (Ab rfl) λes e1 e2 he=>?_
 have a0:Ae es (.t .o)=.ms id 0 n 2:=he 0 _ rfl
 have a1:Ae es (.t (.l .o))=iv 0:=he 1 _ rfl
 have a2:Ae es (.t (.r .o))=iv n:=he 2 _ rfl
 have a3:Ae es (.t (.l (.l .o)))=iv l:=he 3 _ rfl
 have a4:Ae es (.t (.r (.l .o)))=Np:=he 4 _ rfl
 unfold G0
 subst e1 e2
 have Ha:=hs.n
 simp only [Ax,↓Ba]
 refine EW.l (I:=λ_ An=>Fr es.hp es.nx id An.hp An.nx/\SR An.hp n0 id n d/\Ae An (.t .o)=.ms id 0 n 2/\Ae An (.t (.l .o))=iv 0/\Ae An (.t (.r .o))=iv n/\Ae An (.t (.r (.l .o)))=Np) ?_ 0 1000000 _ ⟨Fr.refl _ _ _,hs,by simp only [bR,a0],by simp only [bR,a1],by simp only [bR,a2],by simp only [bR,a4]⟩ (by omega)
 rintro m An ⟨g,Mz,b0,b1,b2,b4⟩
 unfold rm
 have fo:=g.le
 have qa:Ds .sub (iv n) (iv 0)=some (iv n):=by
  show some (DV.v (.int .i64 (IntKind.i64.wrap ((n:Int)-0))))=_
  rw [Int.sub_zero,Eo (by omega)]
 simp only [Ax,↓Ba,b0,b1,b2,b4,qa,show decide ((n:Int)<=12)=true from Ar (by omega)]
 refine Fl (C14 k n0 _ _ _ id n 0 n d (by omega) Mz (by omega) (by omega) λGr Dx g3 Vc=>?_)
 simp only [Ax,↓Ba]
 obtain ⟨r1,r2⟩:=insertionSort_holds swoC d 0 n (Gu _) (by omega)
 exact hK _ _ _ (g.trans g3) Vc r1 r2
theorem Cr1(id n:Nat)(d:Array PCell)(hn:n0<=nx)(hs:SR hp n0 id n d)(hz:d.size<gD)
  (hK:∀ Ao Bk d',Fr hp nx id Ao Bk->SR Ao n0 id n d'->d'.toList.Perm d.toList->d'.toList.Pairwise (λx y=>Zd y x=false)->K (.tup []) Ao Bk):KW (kN (k+16)) (.fn 160) [.ms id 0 n 2,Np] hp nx K:=by
 refine Ss (Hm (by decide)) BL (Ab rfl) λes e1 e2 he=>?_
 have a0:Ae es (.t .o)=.ms id 0 n 2:=he 0 _ rfl
 have a1:Ae es (.t (.l .o))=Np:=he 1 _ rfl
 unfold G3
 subst e1 e2
 have Ha:=hs.n
 have hmx:=ts
 have h9:=Bb6 (x:=n) (by omega)
 have IW:d.toList.length=n:=by rw [Ha];simp
 have oR:=hs.s
 simp only [Ax,↓Ba,bP,a0,hs.rl.len,IW,Co1 (k:=.i64) (show n<_ by omega)]
 refine Fl (Cj1 (k+13) _ _ _ n (by omega) ?_)
 simp only [Ax,↓Ba,a1]
 have tG:d.size<=12:=Nat.le_of_lt_succ hz
 refine Fl (Cr0 (k+8) n0 _ _ _ id n (bitsLen n) d hn hs tG λAo Bk d' g1 Mz hP hS=>?_)
 rw [Ha] at hP hS
 obtain ⟨p1,p2⟩:=Bf1 hP hS
 simp only [Ax,↓Ba]
 exact hK _ _ d' g1 Mz p1 p2
theorem B88(hK:∀ Bk,nx<=Bk->K (.tup []) hp Bk):KW (kN (k+16)) (.fn 160) [Cl,Np] hp nx K:=by
 refine Ss (Hm (by decide)) BL (Ab rfl) λes e1 e2 he=>?_
 have a0:Ae es (.t .o)=Cl:=he 0 _ rfl
 have a1:Ae es (.t (.l .o))=Np:=he 1 _ rfl
 unfold G3
 subst e1 e2
 have h0:∀ hp,Qo hp Cl=some (iv ((0:Nat):Int)):=λ_=>rfl
 have hc:Wz .u64 (.v (.int .i64 0))=some (.v (.int .u64 ((0:Nat):Int))):=rfl
 simp only [Ax,↓Ba,bP,a0,h0,hc]
 refine Fl (Cj1 (k+13) _ _ _ 0 (by omega) ?_)
 simp only [Ax,↓Ba,a1]
 refine Fl (Cq9 (k+13) _ _ _ (bitsLen 0) λBk hle=>?_)
 simp only [Ax,↓Ba]
 exact hK _ hle
def iE(l m:List PCell):Prop:=m.Perm l/\m.Pairwise (λx y=>Zd y x=false)
theorem Bq1(bx T:Nat)(d:DV)(l:List PCell)(hn:n0<=nx)(fO:hp.get bx=some (.row T [d]))(hb:bx<nx)(hd:RL rChange hp (Bl n0) d l)(hl:l.length<gD)(hbp:∀ c∈l,c.pos.length<900000)
  (hK:∀ Ao Bk z m,nx<=Bk->(∀ j,j<n0->Ao.get j=hp.get j)->RL rChange Ao (Bl Bk) z m->iE l m->K z Ao Bk) :
  KW (kN (k+17)) (.fn 124) [yB bx,Np] hp nx K:=by
 refine En (Hm (by decide)) XE (Ab rfl) λes e1 e2 he=>?_
 have a0:Ae es (.t .o)=yB bx:=he 0 _ rfl
 have a1:Ae es (.t (.l .o))=Np:=he 1 _ rfl
 unfold EC
 subst e1 e2
 have hmx:=ts
 simp only [Ax,↓Ba,a0]
 refine Fl (Bq0 (k+12) n0 _ _ _ bx T d l hn fO hb hd (by omega) λGz Mj z kL Vl kG GZ=>?_)
 simp only [Ax,↓Ba,a1]
 cases kG with
 | nil=>
  refine Fl (B88 k _ _ _ λJp Su=>?_)
  simp only [Ax,↓Ba,bP]
  exact hK _ _ _ [] (by omega) Vl .nil ⟨.refl _,.nil⟩
 | ms id fl l h hr=>
  have hid:=GZ id (by simp [DV.refs])
  have hs:SR Gz Mj id l.length l.toArray:=⟨(OL.ms id fl l h hr).mono λj (hj:j<n0)=>⟨by omega,by omega⟩,hid.2,by simpa using hbp,by simpa using (show l.length<100000 by omega)⟩
  refine Fl (Cr1 k Mj _ _ _ id l.length l.toArray (Ai _) hs (by simpa using hl) λHp Jp d5 g5 tL p1 p2=>?_)
  have J5:RL rChange Hp (Bl Jp) (.ms id 0 l.length 2) d5.toList:=tL.rl.mono λj (hj:j<Mj)=>by
   have:=g5.le
   show j<Jp
   omega
  simp only [Ax,↓Ba,bP]
  show K (Cd Hp (.ms id 0 l.length 2)) Hp Jp
  rw [J5.live]
  exact hK _ _ _ d5.toList (by have:=g5.le;omega) (λj hj=>by rw [g5.fr j (by omega) (by omega),Vl j hj]) J5 ⟨by simpa using p1,p2⟩
end
end Go.DD

/- Contracts: the inner loops of checked. Conditions: those that each theorem states. -/
namespace Go.DD
open Go Go.Proofs Go.Sort
section
variable (k n0:Nat)
structure CK (hp:Tr DObj) (nx B C:Nat) (v1 v14 v15 v16:DV) (es:ES):Prop where
 g:Al hp nx es.hp es.nx
 b1:Ae es (.t (.l .o))=v1
 b2:Ae es (.t (.r .o))=.pt B 0
 b7:Ae es (.t (.l (.l (.l .o))))=.pt C 0
 b14:Ae es (.t (.r (.r (.r .o))))=v14
 b15:Ae es (.t (.l (.l (.l (.l .o)))))=v15
 b16:Ae es (.t (.r (.l (.l (.l .o)))))=v16
theorem Cj2{es:ES}{Q:Exit->ES->Prop}{hp:Tr DObj}{nx B C TC:Nat}{v1 v14 v15 v16 d x y:DV}{l:List PDim}{c:PCell}(hn:n0<=nx)(hc:CK hp nx B C v1 v14 v15 v16 es)(hC:hp.get C=some (.row TC [x,y]))(hCl:C<nx)(h1:RL rDim hp (Bl n0) d l)(h3:RL rInt hp (Bl n0) x c.pos)(hlen:c.pos.length=l.length)(hl:l.length<900000)(RS:Ae es (.t (.l (.l (.r (.r (.l .o))))))=d)(MM:Ae es (.t (.r (.l (.r (.r (.l .o))))))=iv l.length)(ML:Ae es (.t (.l (.r (.r (.r (.l .o))))))=iv (0:Nat))
  (hQ:gC l c.pos=true->∀ es',CK hp nx B C v1 v14 v15 v16 es'->Q (.exit 2) es')
  (hR:gC l c.pos=false->∀ es',Al hp nx es'.hp es'.nx->Ae es' (.t (.r (.l .o)))=Cl->Ae es' (.t (.l (.r .o)))=iv 3->Q .ret es') :
  EW (cL 1000000 nT) (kN (k+6)) es Q:=by
 refine EW.up l.length (λi An=>CK hp nx B C v1 v14 v15 v16 An/\gC l c.pos=gC (l.drop i) (c.pos.drop i)/\Ae An (.t (.l (.l (.r (.r (.l .o))))))=d/\Ae An (.t (.r (.l (.r (.r (.l .o))))))=iv l.length/\Ae An (.t (.l (.r (.r (.r (.l .o))))))=iv (i:Nat)) ?_ ⟨hc,rfl,RS,MM,ML⟩ (by omega)
 rintro i An hi ⟨⟨g,b1,b2,b7,b14,b15,b16⟩,Nh,RS,MM,ML⟩
 unfold nT
 have hle:=g.le
 by_cases h:i<l.length
 .have h':i<c.pos.length:=by omega
  rw [wQ h h'] at Nh
  have r1:=h1.ka hn g
  simp only [Ax,↓Ba,RS,MM,ML,h,B9 r1 h,(uO r1 h).1]
  refine Vr λEi Dm Cv=>?_
  simp only [bR] at Dm Cv
  simp only [Ax,↓Ba]
  refine Uu (n:=3) (id:=An.nx) (ds:=dc l[i]) (by simp only [bR]) Dm (by simp only [Hl,bR];exact fI rfl) rfl rfl λDb Ft Et=>?_
  simp only [bR] at Ft Et
  have g2:Al hp nx Db (An.nx+1):=⟨by omega,λj hj=>by rw [Et j (by omega),Cv j (by omega),g.same j hj]⟩
  have r3:=h3.ka hn g2
  have Qc:=(g2.same C hCl).trans hC
  obtain ⟨⟨f0,f1⟩,l0,l1,_⟩:=Xh Qc
  obtain ⟨⟨q0,q1,q2⟩,m0,m1,m2⟩:=qD Ft
  by_cases c1:c.pos[i]<l[i].lo
  .rw [Af (.inl c1)] at Nh
   simp only [Ax,↓Ba,b7,f0,l0,q1,m1,lP r3 h',ints_at r3 h',Ar c1,r3.rox (m:=19) (show n0<=An.nx+1 by omega),R2 (m:=19) r3 (show n0<=An.nx+1 by omega),Mp (n0:=An.nx+1) (m:=19) Qc (show C<An.nx+1 by omega),Mp (n0:=An.nx+1) (m:=19) Ft (show An.nx<An.nx+1 by omega)]
   exact hR Nh _ (by simpa only [bR] using g2.nx (show An.nx+1<=An.nx+1+19 by omega)) (by simp only [bR];rfl) (by simp only [bR])
  .by_cases c2:dO l[i]<c.pos[i]
   .rw [Af (.inr c2)] at Nh
    simp only [Ax,↓Ba,bP,b7,f0,l0,q1,m1,q2,m2,lP r3 h',ints_at r3 h',wm,Aj c1,show decide (min l[i].hi 1073741824<c.pos[i])=true from Ar c2,r3.rox (m:=19) (show n0<=An.nx+1 by omega),R2 (m:=19) r3 (show n0<=An.nx+1 by omega),Mp (n0:=An.nx+1) (m:=19) Qc (show C<An.nx+1 by omega),Mp (n0:=An.nx+1) (m:=19) Ft (show An.nx<An.nx+1 by omega)]
    exact hR Nh _ (by simpa only [bR] using g2.nx (show An.nx+1<=An.nx+1+19 by omega)) (by simp only [bR];rfl) (by simp only [bR])
   .rw [Ad (by omega)] at Nh
    simp only [Ax,↓Ba,bP,b7,f0,l0,q1,m1,q2,m2,lP r3 h',ints_at r3 h',wm,Aj c1,show decide (min l[i].hi 1073741824<c.pos[i])=false from Aj c2,r3.rox (m:=19) (show n0<=An.nx+1 by omega),R2 (m:=19) r3 (show n0<=An.nx+1 by omega),Mp (n0:=An.nx+1) (m:=19) Qc (show C<An.nx+1 by omega),Mp (n0:=An.nx+1) (m:=19) Ft (show An.nx<An.nx+1 by omega),RS,MM,ML,h,Jx (show i<_ by omega)]
    exact ⟨⟨by simpa only [bR] using g2.nx (show An.nx+1<=An.nx+1+19 by omega),by simp only [bR,b1],by simp only [bR,b2],by simp only [bR,b7],by simp only [bR,b14],by simp only [bR,b15],by simp only [bR,b16]⟩,Nh⟩
 .rw [wR (by omega)] at Nh
  simp only [Ax,↓Ba,MM,ML,h]
  exact hQ Nh _ ⟨by simpa only [bR] using g,by simp only [bR,b1],by simp only [bR,b2],by simp only [bR,b7],by simp only [bR,b14],by simp only [bR,b15],by simp only [bR,b16]⟩
theorem Cj3{es:ES}{Q:Exit->ES->Prop}{hp:Tr DObj}{nx B C TB:Nat}{v1 v14 v15 v16 d a cc y:DV}{m:List PAttr}{c:PCell}(hn:n0<=nx)(hc:CK hp nx B C v1 v14 v15 v16 es)(hB:hp.get B=some (.row TB [d,a,cc]))(ku:B<nx)(h2:RL rAttr hp (Bl n0) a m)(h4:RL rVal hp (Bl n0) y c.vals)(hlen:c.vals.length<=m.length)(hl:m.length<900000)(yH:∀ v∈c.vals,dI v)(RR:Ae es (.t (.l (.l (.l (.r (.l (.l .o)))))))=y)(MK:Ae es (.t (.r (.l (.l (.r (.l (.l .o)))))))=iv c.vals.length)(MI:Ae es (.t (.l (.r (.l (.r (.l (.l .o)))))))=iv (0:Nat))
  (hQ:Nk c.vals m=true->∀ es',CK hp nx B C v1 v14 v15 v16 es'->Q (.exit 4) es')
  (hR:Nk c.vals m=false->∀ es',Al hp nx es'.hp es'.nx->Ae es' (.t (.r (.l .o)))=Cl->Ae es' (.t (.l (.r .o)))=iv 12->Q .ret es') :
  EW (cL 1000000 nS) (kN (k+6)) es Q:=by
 refine EW.up c.vals.length (λi An=>CK hp nx B C v1 v14 v15 v16 An/\Nk c.vals m=Nk (c.vals.drop i) (m.drop i)/\Ae An (.t (.l (.l (.l (.r (.l (.l .o)))))))=y/\Ae An (.t (.r (.l (.l (.r (.l (.l .o)))))))=iv c.vals.length/\Ae An (.t (.l (.r (.l (.r (.l (.l .o)))))))=iv (i:Nat)) ?_ ⟨hc,rfl,RR,MK,MI⟩ (by omega)
 rintro i An hi ⟨⟨g,b1,b2,b7,b14,b15,b16⟩,Nh,RR,MK,MI⟩
 unfold nS
 have hle:=g.le
 by_cases h:i<c.vals.length
 .have h':i<m.length:=by omega
  rw [Bx2 h h'] at Nh
  have w4:=h4.ka hn g
  simp only [Ax,↓Ba,RR,MK,MI,h,W4 w4 h,W7 w4 h]
  refine Vr λEi Dm Cv=>?_
  simp only [bR] at Dm Cv
  simp only [Ax,↓Ba]
  refine Uu (n:=4) (id:=An.nx) (ds:=vc c.vals[i]) (by simp only [bR]) Dm (by simp only [Hl,bR];exact fI rfl) rfl rfl λDb Ft Et=>?_
  simp only [bR] at Ft Et
  have g2:Al hp nx Db (An.nx+1):=⟨by omega,λj hj=>by rw [Et j (by omega),Cv j (by omega),g.same j hj]⟩
  have w2:=h2.ka hn g2
  have V0:=(g2.same B ku).trans hB
  obtain ⟨⟨f0,f1,f2⟩,l0,l1,l2,_⟩:=Uw V0
  obtain ⟨_,_,_,_,_,t4⟩:=Zq Ft
  simp only [Ax,↓Ba,b2,f1,l1,t4,R1 w2 h',Bl6 (k:=1) w2 h',(R3 w2 h').2.2.2,w2.rox (m:=9) (show n0<=An.nx+1 by omega),Y1 (m:=9) w2 (show n0<=An.nx+1 by omega),Ba5 (m:=9) w2 (show n0<=An.nx+1 by omega),Mp (n0:=An.nx+1) (m:=9) Ft (show An.nx<An.nx+1 by omega),Mp (n0:=An.nx+1) (m:=9) V0 (show B<An.nx+1 by omega),B7 (show DV.refsL (vc c.vals[i])=[] from rfl)]
  refine Nt rfl (Xi ?_)
  simp only [bR,Ag,Ak]
  refine Bx1 (k:=k+1) _ _ _ c.vals[i] m[i].type (yH _ (Bh h)) λHp Jp Kr=>?_
  have Su:=Kr.le
  have g5:=(g2.nx (by omega:An.nx+1<=An.nx+1+9)).trans Kr
  cases c4:Tz c.vals[i] m[i].type with
  | false=>
   rw [Af c4] at Nh
   simp only [Ax,↓Ba,Su]
   exact hR Nh _ (by simpa only [bR] using g5) (by simp only [bR];rfl) (by simp only [bR])
  | true=>
   rw [Ad (by rw [c4];simp)] at Nh
   simp only [Ax,↓Ba,RR,MK,MI,h,Su,Jx (show i<_ by omega)]
   exact ⟨⟨by simpa only [bR] using g5,by simp only [bR,b1],by simp only [bR,b2],by simp only [bR,b7],by simp only [bR,b14],by simp only [bR,b15],by simp only [bR,b16]⟩,Nh⟩
 .rw [Bx3 (by omega)] at Nh
  simp only [Ax,↓Ba,MK,MI,h]
  exact hQ Nh _ ⟨by simpa only [bR] using g,by simp only [bR,b1],by simp only [bR,b2],by simp only [bR,b7],by simp only [bR,b14],by simp only [bR,b15],by simp only [bR,b16]⟩
end
end Go.DD

/- Contracts: the outer loop of checked. Conditions: those that each theorem states. -/
namespace Go.DD
open Go Go.Proofs Go.Sort
def Kt(d:List PDim)(a:List PAttr)(c:PCell):Int:=if c.pos.length≠d.length\/(c.vals.length≠0/\c.vals.length≠a.length) then 13 else if gC d c.pos=false then 3 else if Nk c.vals a=false then 12 else 0
def Jh(d:List PDim)(a:List PAttr):List PCell->Int
 | []=>0
 | c::l=>if Kt d a c≠0 then Kt d a c else Jh d a l
theorem Cr2{d:List PDim}{a:List PAttr}{l:List PCell}{i:Nat}(h:i<l.length):Jh d a (l.drop i)=if Kt d a l[i]≠0 then Kt d a l[i] else Jh d a (l.drop (i+1)):=by
 rw [Bb h];rfl
section
variable (k n0:Nat)
theorem C16{es:ES}{Q:Exit->ES->Prop}{hp:Tr DObj}{nx B TB:Nat}{ls d a cc:DV}{l:List PCell}{D:List PDim}{A:List PAttr}(hn:n0<=nx)(hB:hp.get B=some (.row TB [d,a,cc]))(ku:B<nx)(hL:RL rChange hp (Bl n0) ls l)(h1:RL rDim hp (Bl n0) d D)(h2:RL rAttr hp (Bl n0) a A)(hl:l.length<900000)(hD:D.length<900000)(hA:A.length<900000)(hc:∀ c∈l,∀ v∈c.vals,dI v)
  (g:Al hp nx es.hp es.nx) (b1:Ae es (.t (.l .o))=ls) (b2:Ae es (.t (.r .o))=.pt B 0) (b14:Ae es (.t (.r (.r (.r .o))))=ls) (b15:Ae es (.t (.l (.l (.l (.l .o)))))=iv l.length) (b16:Ae es (.t (.r (.l (.l (.l .o)))))=iv (0:Nat))
  (hQ:Jh D A l=0->∀ es',Al hp nx es'.hp es'.nx->Ae es' (.t (.l .o))=ls->Q (.exit 0) es')
  (hR:Jh D A l≠0->∀ es',Al hp nx es'.hp es'.nx->Ae es' (.t (.r (.l .o)))=Cl->Ae es' (.t (.l (.r .o)))=iv (Jh D A l)->Q .ret es') :
  EW (cL 1000000 nR) (kN (k+6)) es Q:=by
 refine EW.up l.length (λi An=>Al hp nx An.hp An.nx/\Jh D A l=Jh D A (l.drop i)/\Ae An (.t (.l .o))=ls/\Ae An (.t (.r .o))=.pt B 0/\Ae An (.t (.r (.r (.r .o))))=ls/\Ae An (.t (.l (.l (.l (.l .o)))))=iv l.length/\Ae An (.t (.r (.l (.l (.l .o)))))=iv (i:Nat)) ?_ ⟨g,rfl,b1,b2,b14,b15,b16⟩ (by omega)
 rintro i An hi ⟨g,Nh,b1,b2,b14,b15,b16⟩
 unfold nR
 have hle:=g.le
 by_cases h:i<l.length
 .rw [Cr2 h] at Nh
  have mF:=hc _ (Bh h)
  have r:=hL.ka hn g
  obtain ⟨x,y,rx,ry,lC,_,_⟩:=MX r h
  simp only [Ax,↓Ba,b14,b15,b16,h,P9 r h,lC]
  refine Vr λEi Dm Cv=>?_
  simp only [bR] at Dm Cv
  have BW:=rx.keep (Ao:=Ei) λj (hj:j<n0)=>Cv j (by omega)
  have BV:=ry.keep (Ao:=Ei) λj (hj:j<n0)=>Cv j (by omega)
  simp only [Ax,↓Ba]
  refine Uu (n:=2) (id:=An.nx) (ds:=[x,y]) (by simp only [bR]) Dm (by simp only [Hl,bR];exact Yp BW BV) rfl rfl λDb Ft Et=>?_
  simp only [bR] at Ft Et
  have g2:Al hp nx Db (An.nx+1):=⟨by omega,λj hj=>by rw [Et j (by omega),Cv j (by omega),g.same j hj]⟩
  have sR:=BW.keep (Ao:=Db) λj (hj:j<n0)=>Et j (by omega)
  have sQ:=BV.keep (Ao:=Db) λj (hj:j<n0)=>Et j (by omega)
  have r1:=h1.ka hn g2
  have r2:=h2.ka hn g2
  have V0:=(g2.same B ku).trans hB
  obtain ⟨⟨F0,F1,F2⟩,L0,L1,L2,_⟩:=Uw V0
  obtain ⟨⟨f0,f1⟩,l0,l1,_⟩:=Xh Ft
  generalize l[i]=c at sR sQ Nh mF BW BV rx ry
  by_cases c1:c.pos.length=D.length
  .by_cases c2:c.vals.length=0
   .have sh:¬ (c.pos.length≠D.length\/(c.vals.length≠0/\c.vals.length≠A.length)):=by omega
    simp only [Ax,↓Ba,b2,F0,L0,f0,f1,l0,l1,r1.len,sR.len,sQ.len,show decide (¬ c.pos.length=D.length)=false by simp [c1],show decide (¬ ((c.vals.length:Int)=0))=false by simp [c2]]
    refine Cj2 k n0 (hp:=Db) (nx:=An.nx+1) (B:=B) (C:=An.nx) (v1:=ls) (v14:=ls) (v15:=iv l.length) (v16:=iv (i:Nat)) (d:=d) (x:=x) (y:=y) (l:=D) (c:=c) (by omega) ⟨by simpa only [bR] using Al.refl _ _,by simp only [bR,b1],by simp only [bR,b2],by simp only [bR],by simp only [bR,b14],by simp only [bR,b15],by simp only [bR,b16]⟩ Ft (by omega) r1 sR c1 hD (by simp only [bR]) (by simp only [bR]) (by simp only [bR];rfl) (λho Ks qg=>?_) λho Ks g3 q4 q5=>?_
    .obtain ⟨g3,x1,x2,x7,dH,D7,D6⟩:=qg
     have Jb:=g3.le
     have kr:=(g3.same An.nx (by omega)).trans Ft
     obtain ⟨⟨p0,p1⟩,m0,m1,_⟩:=Xh kr
     have XQ:=sQ.ka (by omega) g3
     simp only [Ax,↓Ba,x7,p1,m1,XQ.len]
     refine Cj3 k n0 (hp:=Db) (nx:=An.nx+1) (B:=B) (C:=An.nx) (v1:=ls) (v14:=ls) (v15:=iv l.length) (v16:=iv (i:Nat)) (d:=d) (a:=a) (cc:=cc) (y:=y) (m:=A) (c:=c) (by omega) ⟨by simpa only [bR] using g3,by simp only [bR,x1],by simp only [bR,x2],by simp only [bR,x7],by simp only [bR,dH],by simp only [bR,D7],by simp only [bR,D6]⟩ V0 (by omega) r2 sQ (by omega) hA mF (by simp only [bR]) (by simp only [bR]) (by simp only [bR];rfl) (λhf mu qf=>?_) λhf mu g4 q4 q5=>?_
     .obtain ⟨g4,x1,x2,x7,dH,D7,D6⟩:=qf
      have ce:Kt D A c=0:=by unfold Kt;rw [Ad sh,Ad (by rw [ho];decide),Ad (by rw [hf];decide)]
      rw [ce,Ad (by decide)] at Nh
      simp only [Ax,↓Ba,x1,x2,dH,D7,D6,h,Jx (show i<_ by omega)]
      exact ⟨g2.trans g4,Nh⟩
     .have ce:Kt D A c=12:=by unfold Kt;rw [Ad sh,Ad (by rw [ho];decide),Af hf]
      rw [ce,Af (by decide)] at Nh
      simp only [↓Ba]
      exact hR (by rw [Nh];decide) _ (g2.trans g4) q4 (by rw [q5,Nh])
    .have ce:Kt D A c=3:=by unfold Kt;rw [Ad sh,Af ho]
     rw [ce,Af (by decide)] at Nh
     simp only [↓Ba]
     exact hR (by rw [Nh];decide) _ (g2.trans g3) q4 (by rw [q5,Nh])
   .by_cases c3:c.vals.length=A.length
    .have sh:¬ (c.pos.length≠D.length\/(c.vals.length≠0/\c.vals.length≠A.length)):=by omega
     simp only [Ax,↓Ba,b2,F0,F1,L0,L1,f0,f1,l0,l1,r1.len,r2.len,sR.len,sQ.len,show decide (¬ c.pos.length=D.length)=false by simp [c1],show decide (¬ ((c.vals.length:Int)=0))=true by simp [c2],show decide (¬ c.vals.length=A.length)=false by simp [c3]]
     refine Cj2 k n0 (hp:=Db) (nx:=An.nx+1) (B:=B) (C:=An.nx) (v1:=ls) (v14:=ls) (v15:=iv l.length) (v16:=iv (i:Nat)) (d:=d) (x:=x) (y:=y) (l:=D) (c:=c) (by omega) ⟨by simpa only [bR] using Al.refl _ _,by simp only [bR,b1],by simp only [bR,b2],by simp only [bR],by simp only [bR,b14],by simp only [bR,b15],by simp only [bR,b16]⟩ Ft (by omega) r1 sR c1 hD (by simp only [bR]) (by simp only [bR]) (by simp only [bR];rfl) (λho Ks qg=>?_) λho Ks g3 q4 q5=>?_
     .obtain ⟨g3,x1,x2,x7,dH,D7,D6⟩:=qg
      have Jb:=g3.le
      have kr:=(g3.same An.nx (by omega)).trans Ft
      obtain ⟨⟨p0,p1⟩,m0,m1,_⟩:=Xh kr
      have XQ:=sQ.ka (by omega) g3
      simp only [Ax,↓Ba,x7,p1,m1,XQ.len]
      refine Cj3 k n0 (hp:=Db) (nx:=An.nx+1) (B:=B) (C:=An.nx) (v1:=ls) (v14:=ls) (v15:=iv l.length) (v16:=iv (i:Nat)) (d:=d) (a:=a) (cc:=cc) (y:=y) (m:=A) (c:=c) (by omega) ⟨by simpa only [bR] using g3,by simp only [bR,x1],by simp only [bR,x2],by simp only [bR,x7],by simp only [bR,dH],by simp only [bR,D7],by simp only [bR,D6]⟩ V0 (by omega) r2 sQ (by omega) hA mF (by simp only [bR]) (by simp only [bR]) (by simp only [bR];rfl) (λhf mu qf=>?_) λhf mu g4 q4 q5=>?_
      .obtain ⟨g4,x1,x2,x7,dH,D7,D6⟩:=qf
       have ce:Kt D A c=0:=by unfold Kt;rw [Ad sh,Ad (by rw [ho];decide),Ad (by rw [hf];decide)]
       rw [ce,Ad (by decide)] at Nh
       simp only [Ax,↓Ba,x1,x2,dH,D7,D6,h,Jx (show i<_ by omega)]
       exact ⟨g2.trans g4,Nh⟩
      .have ce:Kt D A c=12:=by unfold Kt;rw [Ad sh,Ad (by rw [ho];decide),Af hf]
       rw [ce,Af (by decide)] at Nh
       simp only [↓Ba]
       exact hR (by rw [Nh];decide) _ (g2.trans g4) q4 (by rw [q5,Nh])
     .have ce:Kt D A c=3:=by unfold Kt;rw [Ad sh,Af ho]
      rw [ce,Af (by decide)] at Nh
      simp only [↓Ba]
      exact hR (by rw [Nh];decide) _ (g2.trans g3) q4 (by rw [q5,Nh])
    .have ce:Kt D A c=13:=by unfold Kt;rw [Af (.inr ⟨c2,c3⟩)]
     rw [ce,Af (by decide)] at Nh
     simp only [Ax,↓Ba,b2,F0,F1,L0,L1,f0,f1,l0,l1,r1.len,r2.len,sR.len,sQ.len,show decide (¬ c.pos.length=D.length)=false by simp [c1],show decide (¬ ((c.vals.length:Int)=0))=true by simp [c2],show decide (¬ c.vals.length=A.length)=true by simp [c3]]
     exact hR (by rw [Nh];decide) _ (by simpa only [bR] using g2) (by simp only [bR];rfl) (by simp only [bR];rw [Nh])
  .have ce:Kt D A c=13:=by unfold Kt;rw [Af (.inl c1)]
   rw [ce,Af (by decide)] at Nh
   simp only [Ax,↓Ba,b2,F0,L0,f0,l0,r1.len,sR.len,show decide (¬ c.pos.length=D.length)=true by simp [c1]]
   exact hR (by rw [Nh];decide) _ (by simpa only [bR] using g2) (by simp only [bR];rfl) (by simp only [bR];rw [Nh])
 .rw [Bc (by omega)] at Nh
  simp only [Ax,↓Ba,b15,b16,h]
  exact hQ Nh _ (by simpa only [bR] using g) (by simp only [bR,b1])
end
end Go.DD

/- Contracts: checked. Conditions: those that each theorem states. -/
namespace Go.DD
open Go Go.Proofs Go.Sort
def uJ(m:List PCell)(i:Nat):Prop:=∃ (h:0<i) (h2:i<m.length),Cq (m[i-1]'(by omega)).pos m[i].pos=0
def qz(D:List PDim)(A:List PAttr)(l:List PCell)(e:Int)(m:List PCell):Prop:=
 (Jh D A l≠0/\e=Jh D A l/\m=[])\/(Jh D A l=0/\e=5/\m=[]/\∃ s i,iE l s/\uJ s i)\/(Jh D A l=0/\e=0/\iE l m/\∀ i,¬ uJ m i)
section
variable (k n0:Nat)
theorem C17{es:ES}{Q:Exit->ES->Prop}{z:DV}{m:List PCell}(hn:n0<=es.nx)(hz:RL rChange es.hp (Bl n0) z m)(hm:m.length<900000)(hb:∀ c∈m,c.pos.length<900000)(Qe:Ae es (.t (.r (.l (.r .o))))=z)(Ta:Ae es (.t (.l (.r (.r .o))))=iv (1:Nat))
  (hQ:(∀ i,¬ uJ m i)->∀ es',Al es.hp es.nx es'.hp es'.nx->Ae es' (.t (.r (.l (.r .o))))=z->Q (.exit 6) es')
  (hR:(∃ i,uJ m i)->∀ es',Al es.hp es.nx es'.hp es'.nx->Ae es' (.t (.r (.l .o)))=Cl->Ae es' (.t (.l (.r .o)))=iv 5->Q .ret es') :
  EW (cL 1000000 nQ) (kN (k+5)) es Q:=by
 refine EW.up (m.length) (λi An=>Al es.hp es.nx An.hp An.nx/\(∀ j,j<i+1->¬ uJ m j)/\Ae An (.t (.r (.l (.r .o))))=z/\Ae An (.t (.l (.r (.r .o))))=iv (i+1:Nat)) ?_ ⟨Al.refl _ _,λj hj ⟨h,_⟩=>by omega,Qe,Ta⟩ (by omega)
 rintro i An hi ⟨g,Nh,Qe,Ta⟩
 unfold nQ
 have hle:=g.le
 have r:=hz.ka hn g
 by_cases h:i+1<m.length
 .obtain ⟨pA,vA,rA,_,_,lA,_⟩:=MX r (show i<m.length by omega)
  obtain ⟨pB,vB,rB,_,_,lB,_⟩:=MX r h
  have hd:Ds .sub (.v (.int .i64 ((i+1:Nat):Int))) (.v (.int .i64 1))=some (.v (.int .i64 (i:Int))):=Y7 (i+1) (by omega) (by omega)
  simp only [Ax,↓Ba,Qe,Ta,r.len,h,hd,P9 r (show i<m.length by omega),P9 r h,Ch2 (k:=0) r (show i<m.length by omega),Ch2 (k:=0) r h,lA,lB,r.rox (m:=13) (show n0<=An.nx by omega),Cp5 (m:=13) r (show n0<=An.nx by omega),Cp6 (m:=13) r (show n0<=An.nx by omega),rA.rox (m:=13) (show n0<=An.nx by omega),rB.rox (m:=13) (show n0<=An.nx by omega)]
  refine Nt rfl (Xi ?_)
  simp only [bR,Ag,Ak]
  refine D0 (k+1) n0 _ _ _ pA pB m[i].pos m[i+1].pos (by omega) rA rB (hb _ (Bh _)) ?_
  by_cases c1:Cq m[i].pos m[i+1].pos=0
  .simp only [Ax,↓Ba,Ar c1]
   exact hR ⟨i+1,by omega,h,c1⟩ _ (by simpa only [bR] using g.nx (show An.nx<=An.nx+13 by omega)) (by simp only [bR];rfl) (by simp only [bR])
  .simp only [Ax,↓Ba,Aj c1,Qe,Ta,Jx (show i+1<_ by omega)]
   refine ⟨by omega,g.nx (show An.nx<=An.nx+13 by omega),λj hj=>?_⟩
   by_cases e:j=i+1
   .subst e
    exact λ⟨_,_,h3⟩=>c1 h3
   .exact Nh j (by omega)
 .simp only [Ax,↓Ba,Qe,Ta,r.len,h]
  exact hQ (λj ⟨h1,h2,h3⟩=>Nh j (by omega) ⟨h1,h2,h3⟩) _ (by simpa only [bR] using g) (by simp only [bR,Qe])
theorem Bq2(hp:Tr DObj)(nx:Nat)(K:DV->Tr DObj->Nat->Prop)(d a cc ls:DV)(x:PArr)(l:List PCell)(hn:n0<=nx)(r1:RL rDim hp (Bl n0) d x.dims)(r2:RL rAttr hp (Bl n0) a x.attrs)(r3:RL rCell hp (Bl n0) cc x.cells)(hL:RL rChange hp (Bl n0) ls l)(hx:AOK x)(hl:l.length<gD)(hb:∀ c∈l,c.pos.length<900000)(hc:∀ c∈l,∀ v∈c.vals,dI v)
  (hK:∀ Ao Bk z m e,Al hp nx Ao Bk->RL rChange Ao (Bl Bk) z m->qz x.dims x.attrs l e m->K (.tup [z,iv e]) Ao Bk):KW (kN (k+18)) (.fn 58) [.agg [d,a,cc],ls] hp nx K:=by
 have hmx:=ts
 refine nZ (Hm (by decide)) t58 (Ab rfl) λes e1 e2 he=>?_
 have a0:Ae es (.t .o)=.agg [d,a,cc]:=he 0 _ rfl
 have a1:Ae es (.t (.l .o))=ls:=he 1 _ rfl
 unfold zp
 subst e1 e2
 simp only [↓Ba]
 refine Zo (cs:=[d,a,cc]) (by rw [Hl,a0];exact AR.live r1 r2 r3) λEi Dm Cv=>?_
 simp only [bR] at Dm Cv
 have Gb:Al es.hp es.nx Ei (es.nx+1):=⟨by omega,λj hj=>Cv j (by omega)⟩
 have kn:=hL.ka hn Gb
 simp only [Ax,↓Ba,a1,kn.len]
 refine C16 (k+11) n0 (hp:=Ei) (nx:=es.nx+1) (B:=es.nx) (ls:=ls) (d:=d) (a:=a) (cc:=cc) (l:=l) (D:=x.dims) (A:=x.attrs) (by omega) Dm (by omega) kn (r1.ka hn Gb) (r2.ka hn Gb) (by omega) hx.d hx.a hc (by simpa only [bR] using Al.refl _ _) (by simp only [bR,a1]) (by simp only [bR]) (by simp only [bR]) (by simp only [bR]) (by simp only [bR];rfl) (λh0 Cb g2 b1=>?_) λh0 Cb g2 b4 b5=>?_
 .have Dj:=Gb.trans g2
  have Hj:=Dj.le
  have O3:=hL.ka hn Dj
  have km:RL rChange Cb.hp (Bl Cb.nx) ls l:=O3.mono λj (hj:j<n0)=>by show j<Cb.nx;omega
  simp only [Ax,↓Ba,b1]
  refine Fl (B01 (k+16) _ _ _ ls O3.ok O3.live λGr Ni Iz=>?_)
  have Eu:Al es.hp es.nx Gr (Cb.nx+1):=⟨by omega,λj hj=>by rw [Iz j (by omega),Dj.same j hj]⟩
  have hL3:=km.keep (Ao:=Gr) λj (hj:j<Cb.nx)=>Iz j (by omega)
  simp only [Ax,↓Ba]
  refine Fl (Bq1 k Cb.nx _ _ _ Cb.nx _ ls l (by omega) Ni (by omega) hL3 hl hb λGz Mj z m bM Vl kG bI=>?_)
  have Ob:Al es.hp es.nx Gz Mj:=⟨by omega,λj hj=>by rw [Vl j (by omega),Eu.same j hj]⟩
  have Wr:m.length=l.length:=bI.1.length_eq
  simp only [Ax,↓Ba]
  refine C17 (k+12) Mj (z:=z) (m:=m) (by simpa only [bR] using Ai _) (by simpa only [bR] using kG) (by omega) (λc hc=>hb c (bI.1.subset hc)) (by simp only [bR]) (by simp only [bR];rfl) (λhd QW g5 Qe=>?_) λhd QW g5 b4 b5=>?_
  .simp only [] at g5
   have J5:=kG.ka (Ai Mj) g5
   have dm:RL rChange QW.hp (Bl QW.nx) z m:=J5.mono λj (hj:j<Mj)=>by have:=g5.le;show j<QW.nx;omega
   simp only [Ax,↓Ba,bP,Qe,J5.live]
   exact hK _ _ _ m 0 (Ob.trans g5) dm (.inr (.inr ⟨h0,rfl,bI,hd⟩))
  .simp only [] at g5
   simp only [Ax,↓Ba,bP,b4,b5]
   obtain ⟨i,hi⟩:=hd
   exact hK _ _ _ [] 5 (Ob.trans g5) .nil (.inr (.inl ⟨h0,rfl,rfl,m,i,bI,hi⟩))
 .simp only [Ax,↓Ba,bP,b4,b5]
  exact hK _ _ _ _ _ (Gb.trans g2) .nil (.inl ⟨h0,rfl,rfl⟩)
end
end Go.DD

/- Contracts: BinarySearchFunc of cells by a place. Conditions: those that each theorem states. -/
namespace Go.DD
open Go Go.Proofs Go.Sort
def lH:DV:=.fn (.func 131) [.tup []]
theorem Bb7(hp:Tr DObj):Cd hp lH=lH:=fI (by simp [lH,DV.refs,DV.refsL])
structure Low (l:List PCell) (p:List Int) (w:Nat):Prop where
 le:w<=l.length
 lo:∀ t (h:t<l.length),t<w->Cq l[t].pos p<0
 hi:∀ t (h:t<l.length),w<=t->¬ Cq l[t].pos p<0
def Vb(l:List PCell)(p:List Int)(w:Nat):Bool:=match l[w]? with
 | some c=>decide (Cq c.pos p=0)
 | none=>false
section
variable (k n0:Nat) (hp:Tr DObj) (nx:Nat) (K:DV->Tr DObj->Nat->Prop)
theorem Cj4(x y t:DV)(c:PCell)(p:List Int)(hn:n0<=nx)(h1:RL rInt hp (Bl n0) x c.pos)(h2:RL rVal hp (Bl n0) y c.vals)(h3:RL rInt hp (Bl n0) t p)(hl:c.pos.length<900000)
  (hK:∀ Ao Bk,Al hp nx Ao Bk->K (iv (Cq c.pos p)) Ao Bk):KW (kN (k+5)) (.fn 131) [.agg [x,y],t] hp nx K:=by
 refine En (Hm (by decide)) WX (Ab rfl) λes e1 e2 he=>?_
 have a0:Ae es (.t .o)=.agg [x,y]:=he 0 _ rfl
 have a1:Ae es (.t (.l .o))=t:=he 1 _ rfl
 unfold DT
 subst e1 e2
 simp only [↓Ba]
 refine Zo (cs:=[x,y]) (by rw [Hl,a0];exact Yp h1 h2) λEi Dm Cv=>?_
 simp only [bR] at Dm Cv
 have Gb:Al es.hp es.nx Ei (es.nx+1):=⟨by omega,λj hj=>Cv j (by omega)⟩
 obtain ⟨⟨f0,_⟩,l0,_,_⟩:=Xh Dm
 simp only [Ax,↓Ba,a1,f0,l0]
 refine Fl (D0 (k:=k) n0 _ _ _ x t _ _ (by omega) (h1.ka hn Gb) (h3.ka hn Gb) hl ?_)
 simp only [Ax,↓Ba,bP]
 exact hK _ _ Gb
theorem C18(d t:DV)(l:List PCell)(p:List Int)(w:Nat)(hn:n0<=nx)(h1:RL rCell hp (Bl n0) d l)(h3:RL rInt hp (Bl n0) t p)(hl:l.length<900000)(hb:∀ c∈l,c.pos.length<900000)(hw:Low l p w)
  (hK:∀ Ao Bk,Al hp nx Ao Bk->K (.tup [iv (w:Nat),bv (Vb l p w)]) Ao Bk):KW (kN (k+6)) (.fn 130) [d,t,lH] hp nx K:=by
 refine nZ (Hm (by decide)) WY (Ab rfl) λes e1 e2 he=>?_
 have a0:Ae es (.t .o)=d:=he 0 _ rfl
 have a1:Ae es (.t (.l .o))=t:=he 1 _ rfl
 have a2:Ae es (.t (.r .o))=lH:=he 2 _ rfl
 unfold DU
 subst e1 e2
 have oA:=hw.le
 simp only [Ax,↓Ba,a0,h1.len]
 refine EW.l (I:=λm An=>∃ i j:Nat,m=j-i/\i<=w/\w<=j/\j<=l.length/\Al es.hp es.nx An.hp An.nx/\Ae An (.t .o)=d/\Ae An (.t (.l .o))=t/\Ae An (.t (.r .o))=lH/\Ae An (.t (.r (.l (.l .o))))=iv l.length/\Ae An (.t (.l (.r (.l .o))))=iv (i:Nat)/\Ae An (.t (.r (.r (.l .o))))=iv (j:Nat)) ?_ l.length 1000000 _ ⟨0,l.length,rfl,by omega,by omega,by omega,Al.refl _ _,by simp only [bR,a0],by simp only [bR,a1],by simp only [bR,a2],by simp only [bR],by simp only [bR];rfl,by simp only [bR]⟩ (by omega)
 rintro m An ⟨i,j,hm,hi,hj,Wu,g,b0,b1,b2,b8,b9,b10⟩
 unfold Ci7
 have hle:=g.le
 have r:=h1.ka hn g
 have rt:=h3.ka hn g
 by_cases h:i<j
 .have Wr:(i+j) / 2<l.length:=by omega
  obtain ⟨M,hM⟩:∃ M,M=(i+j) / 2:=⟨_,rfl⟩
  have U7:M<l.length:=by omega
  have hh:Ds .shr (.v (.int .u64 ((i+j:Nat):Int))) (.v (.int .u64 1))=some (.v (.int .u64 (M:Int))):=by rw [MU,<- hM]
  obtain ⟨x,y,rx,ry,lx,_,_,_⟩:=Ev r U7
  simp only [Ax,↓Ba,bP,b0,b1,b2,b9,b10,h,lN (show i+j<_ by omega),aL (show i+j<_ by omega),hh,aM (show M<_ by omega),dC r U7,lx]
  refine Xo (f:=131) (cs:=[]) (by simp only [Hl,bR];exact Bb7 _) ?_
  simp only [bR,Ag,Ak,Dh,Bv]
  refine Cj4 k n0 _ _ _ x y t l[M] p (by omega) rx ry rt (hb _ (Bh _)) λDb Hz Dj=>?_
  by_cases c1:Cq l[M].pos p<0
  .simp only [Ax,↓Ba,Ar c1,Jx (show M<_ by omega)]
   have:M<w:=We λh=>hw.hi M U7 h c1
   exact ⟨j-(M+1),by omega,M+1,j,rfl,by omega,hj,Wu,g.trans Dj,b0,b1,b2,b8,rfl,b10⟩
  .simp only [Ax,↓Ba,Aj c1]
   have:w<=M:=Nat.le_of_not_lt λh=>c1 (hw.lo M U7 h)
   exact ⟨M-i,by omega,i,M,rfl,hi,by omega,by omega,g.trans Dj,b0,b1,b2,b8,b9,rfl⟩
 .have Oy:i=w:=by omega
  subst Oy
  by_cases hx:i<l.length
  .obtain ⟨x,y,rx,ry,lx,_,_,_⟩:=Ev r hx
   have eH:Vb l p i=decide (Cq l[i].pos p=0):=by unfold Vb;rw [Aa hx]
   simp only [Ax,↓Ba,b0,b1,b2,b8,b9,b10,h,hx,dC r hx,lx]
   refine Xo (f:=131) (cs:=[]) (by simp only [Hl,bR];exact Bb7 _) ?_
   simp only [bR,Ag,Ak,Dh,Bv]
   refine Cj4 k n0 _ _ _ x y t l[i] p (by omega) rx ry rt (hb _ (Bh _)) λDb Hz Dj=>?_
   rw [eH] at hK
   simp only [Ax,↓Ba,bP]
   exact hK _ _ (g.trans Dj)
  .have eH:Vb l p i=false:=by unfold Vb;rw [Fh (by omega)]
   rw [eH] at hK
   simp only [Ax,↓Ba,bP,b8,b9,b10,h,hx]
   exact hK _ _ g
end
end Go.DD

/- Plain: where a place lies in sorted cells; changes laid over cells. -/
namespace Go.DD
open Go Go.Proofs Go.Sort
def Fk(p:List Int)(l:List PCell):Nat:=(l.takeWhile λe=>decide (Cq e.pos p<0)).length
abbrev Ly(l:List PCell):Prop:=l.Pairwise λx y=>Cq x.pos y.pos = -1
theorem FX{a b p:List Int}(h1:Cq a b = -1)(h2:Cq b p<0):Cq a p<0:=by
 have h:=swoC.trans ⟨a,[]⟩ ⟨b,[]⟩ ⟨p,[]⟩ (by unfold Zd;exact Ar (by show Cq a b<0;omega)) (by unfold Zd;exact Ar h2)
 unfold Zd at h
 exact Fe h
theorem MT(p:List Int):∀ {l:List PCell},Ly l->Low l p (Fk p l)
 | [],_=>⟨Gu _,λt h=>absurd h (by simp),λt h=>absurd h (by simp)⟩
 | c::l,h=>by
  obtain ⟨h1,h2⟩:=Fm.1 h
  by_cases hc:Cq c.pos p<0
  .have e:Fk p (c::l)=Fk p l+1:=by unfold Fk;rw [List.takeWhile_cons,Af (Ar hc),Ec]
   rw [e]
   have ih:=MT p h2
   refine ⟨by have:=ih.le;simp only [Ec];omega,λt ht Ez=>?_,λt ht hle=>?_⟩
   .cases t with
    | zero=>exact hc
    | succ t=>exact ih.lo t (by simpa using ht) (by omega)
   .cases t with
    | zero=>omega
    | succ t=>exact ih.hi t (by simpa using ht) (by omega)
  .have e:Fk p (c::l)=0:=by unfold Fk;rw [List.takeWhile_cons,Ad (by simpa using hc)];rfl
   rw [e]
   refine ⟨Gu _,λt _ Ez=>by omega,λt ht _=>?_⟩
   cases t with
   | zero=>exact hc
   | succ t=>
    have Xd:t<l.length:=by simpa using ht
    exact λh3=>hc (FX (h1 _ (Bh Xd)) h3)
def Il(p:List Int)(l:List PCell):Nat:=if Vb l p (Fk p l)=true then Fk p l+1 else Fk p l
theorem C19{p:List Int}{l:List PCell}(h:Ly l):Il p l<=l.length:=by
 have hw:=MT p h
 unfold Il
 split
 .rename_i hi
  have:Fk p l<l.length:=by
   refine We λhle=>?_
   unfold Vb at hi
   rw [Fh hle] at hi
   cases hi
  omega
 .exact hw.le
def Po:List PCell->List PCell->List PCell
 | [],cs=>cs
 | c::l,cs=>cs.take (Fk c.pos cs)++((if c.vals=[] then [] else [c])++Po l (cs.drop (Il c.pos cs)))
theorem W1:∀ (l cs:List PCell),(Po l cs).length<=l.length+cs.length
 | [],cs=>by simp [Po]
 | c::l,cs=>by
  have ih:=W1 l (cs.drop (Il c.pos cs))
  have h1:Fk c.pos cs<=Il c.pos cs:=by unfold Il;split <;> omega
  have h2:Fk c.pos cs<=cs.length:=by unfold Fk;exact (List.takeWhile_sublist _).length_le
  have h3:(if c.vals=[] then ([]:List PCell) else [c]).length<=1:=by split <;> simp
  unfold Po
  simp only [Ap,Bs,Cr,Ec] at ih ⊢
  omega
end Go.DD

/- Contracts: changes laid over cells. Conditions: those that each theorem states. -/
namespace Go.DD
open Go Go.Proofs Go.Sort
section
variable (k:Nat) (hp:Tr DObj) (nx:Nat) (K:DV->Tr DObj->Nat->Prop)
theorem Cj5(P:Nat->Prop)(ls d:DV)(l cs:List PCell)(hP:∀ j,P j->j<nx)(hL:RL rChange hp P ls l)(hd:RL rCell hp P d cs)(hl:l.length+cs.length<900000)(hs:Ly cs)(hb:∀ c∈cs,c.pos.length<900000)
  (hK:∀ Ao Bk z,Al hp nx Ao Bk->RL rCell Ao (λj=>P j\/(nx<=j/\j<Bk)) z (Po l cs)->(∀ j∈z.refs,nx<=j)->K z Ao Bk):KW (kN (k+7)) (.fn 60) [ls,d] hp nx K:=by
 refine En (Hm (by decide)) t60 (Ab rfl) λes e1 e2 he=>?_
 have a0:Ae es (.t .o)=ls:=he 0 _ rfl
 have a1:Ae es (.t (.l .o))=d:=he 1 _ rfl
 unfold zn
 subst e1 e2
 simp only [Ax,↓Ba,a0,hL.len]
 refine EW.up l.length (λi An=>∃ d1 Kc z O,Al es.hp es.nx An.hp An.nx/\RL rCell An.hp P d1 Kc/\OL rCell An.hp P z O/\(∀ j∈z.refs,es.nx<=j/\j<An.nx)/\Ly Kc/\(∀ c∈Kc,c.pos.length<900000)/\O++Po (l.drop i) Kc=Po l cs/\O.length+Kc.length<=i+cs.length/\Ae An (.t (.l .o))=d1/\Ae An (.t (.l (.r .o)))=z/\Ae An (.t (.r (.r (.l .o))))=ls/\Ae An (.t (.l (.l (.r .o))))=iv l.length/\Ae An (.t (.r (.l (.r .o))))=iv (i:Nat)) ?_ ⟨d,cs,Cl,[],Al.refl _ _,hd,.nil,λj hj=>by (cases hj),hs,hb,rfl,by simp,by simp only [bR,a1],by simp only [bR];rfl,by simp only [bR],by simp only [bR],by simp only [bR];rfl⟩ (by omega)
 rintro i An hi ⟨d1,Kc,z,O,g,rd,ro,rz,Mz,cQ,hO,hlen,b1,b5,b10,b11,Qe⟩
 unfold xR
 have hle:=g.le
 by_cases h:i<l.length
 .have r:=hL.keep (Ao:=An.hp) λj hj=>by (have:=hP j hj;exact g.same j (by omega))
  obtain ⟨x,y,rx,ry,lC,_,_⟩:=MX r h
  have hdr:Po (l.drop i) Kc=Kc.take (Fk l[i].pos Kc)++((if l[i].vals=[] then [] else [l[i]])++Po (l.drop (i+1)) (Kc.drop (Il l[i].pos Kc))):=by rw [Bb h,Po]
  rw [hdr] at hO
  simp only [Ax,↓Ba,b10,b11,Qe,h,P9 r h,lC]
  refine Vr λEi Dm Cv=>?_
  simp only [bR] at Dm Cv
  have BW:=rx.keep (Ao:=Ei) λj hj=>by (have:=hP j hj;exact Cv j (by omega))
  have BV:=ry.keep (Ao:=Ei) λj hj=>by (have:=hP j hj;exact Cv j (by omega))
  simp only [Ax,↓Ba]
  refine Uu (n:=2) (id:=An.nx) (ds:=[x,y]) (by simp only [bR]) Dm (by simp only [Hl,bR];exact Yp BW BV) rfl rfl λDb Ft Et=>?_
  simp only [bR] at Ft Et
  have k2:∀ j,j<An.nx->Db.get j=An.hp.get j:=λj hj=>by rw [Et j (by omega),Cv j (by omega)]
  obtain ⟨⟨f0,f1⟩,l0,l1,_⟩:=Xh Ft
  have sR:=rx.keep (Ao:=Db) λj hj=>by (have:=hP j hj;exact k2 j (by omega))
  have sQ:=ry.keep (Ao:=Db) λj hj=>by (have:=hP j hj;exact k2 j (by omega))
  have OX:=rd.keep (Ao:=Db) λj hj=>by (have:=hP j hj;exact k2 j (by omega))
  have hw:=MT l[i].pos Mz
  have fK:=C19 (p:=l[i].pos) Mz
  have fj:=hw.le
  have hwn:Fk l[i].pos Kc<=Il l[i].pos Kc:=by unfold Il;split <;> omega
  simp only [Ax,↓Ba,b1,f0,l0]
  refine Fl (C18 k An.nx _ _ _ d1 x Kc l[i].pos (Fk l[i].pos Kc) (by omega) (OX.mono λj hj=>by (have:=hP j hj;show j<An.nx;omega)) (sR.mono λj hj=>by (have:=hP j hj;show j<An.nx;omega)) (by omega) cQ hw λGr Dx Eu=>?_)
  have Jb:=Eu.le
  have k3:∀ j,j<An.nx->Gr.get j=An.hp.get j:=λj hj=>by rw [Eu.same j (by omega),k2 j hj]
  have S2:=rd.keep (Ao:=Gr) λj hj=>by (have:=hP j hj;exact k3 j (by omega))
  have ro3:=ro.keep (Ao:=Gr) λj hj=>k3 j (hj.elim (λh=>by (have:=hP j h;omega)) λh=>(rz j h).2)
  simp only [Ax,↓Ba,b1,b5,LJ]
  refine C0 (R:=rCell) (a:=0) (z:=Fk l[i].pos Kc) (d:=d1) (by simp only [bR,bP]) S2 rfl rfl (λn hn=>by simp only [Y2,Cg,bR,bP];rfl) (by omega) fj ?_
  have XT:=S2.part (a:=0) (z:=Fk l[i].pos Kc) (by omega) fj
  simp only [Lc,Nat.sub_zero] at XT
  simp only [Ax,↓Ba]
  refine jT (R:=rCell) (p:=P) (p2:=P) (d:=z) (d2:=lY rCell.e 0 (Fk l[i].pos Kc) d1) (l:=O) (m:=Kc.take (Fk l[i].pos Kc)) (by simp only [bR,bP]) ro3 (by simp only [Cg,bR,bP];exact XT.live) (XT.srcD (es:=⟨_,Gr,_⟩)) rfl rfl (by rw [Bs];omega) (by decide) λGz Fp h4=>?_
  simp only [bR] at Fp h4
  have o4:=h4 P λj hj=>by
   have oM:P j:=hj.elim id id
   have:=hP j oM
   exact ⟨oM,by omega,λh=>by have:=(rz j h).1;omega⟩
  have k4:∀ j,j<es.nx->Gz.get j=An.hp.get j:=λj hj=>by rw [Fp j (by omega) λh=>by (have:=(rz j h).1;omega),k3 j (by omega)]
  have gC4:Gz.get An.nx=some (.row 62 [x,y]):=by rw [Fp _ (by omega) λh=>by (have:=(rz _ h).2;omega),Eu.same _ (by omega),Ft]
  obtain ⟨⟨p0,p1⟩,m0,m1,_⟩:=Xh gC4
  have F3:=ry.keep (Ao:=Gz) λj hj=>by (have:=hP j hj;exact k4 j (by omega))
  have OS:=rx.keep (Ao:=Gz) λj hj=>by (have:=hP j hj;exact k4 j (by omega))
  have wE:=rd.keep (Ao:=Gz) λj hj=>by (have:=hP j hj;exact k4 j (by omega))
  have hOl:(O++Kc.take (Fk l[i].pos Kc)).length=O.length+Fk l[i].pos Kc:=by rw [Ap,Bs];omega
  by_cases hv:l[i].vals=[]
  .rw [Af hv,Bv,<- Bu] at hO
   have T1:l[i].vals.length=0:=by rw [hv];rfl
   cases KV:Vb Kc l[i].pos (Fk l[i].pos Kc) with
   | true=>
    .have Um:Il l[i].pos Kc=Fk l[i].pos Kc+1:=by unfold Il;rw [Af KV]
     rw [Um] at hO fK
     simp only [Ax,↓Ba,p1,m1,F3.len,show decide ((0:Int)<(l[i].vals.length:Int))=false from Aj (by omega),b1,Jx (show Fk l[i].pos Kc<_ by omega)]
     refine C0 (R:=rCell) (a:=Fk l[i].pos Kc+1) (z:=Kc.length) (d:=d1) (by simp only [bR,bP]) wE rfl (by simp only [Y2,Cg,bR,bP];rfl) (λn hn=>by rw [SZ,hn]) fK (Ai _) ?_
     have rs:=wE.part (a:=Fk l[i].pos Kc+1) (z:=Kc.length) fK (Ai _)
     rw [Cc (by rw [Cr];omega)] at rs
     simp only [Ax,↓Ba,b10,b11,Qe,h,Jx (show i<_ by omega)]
     exact ⟨_,_,_,_,⟨by omega,λj hj=>by rw [k4 j hj,g.same j hj]⟩,rs,o4,λj hj=>by (have:j=Dx:=by simpa [DV.refs] using hj);omega,Mz.sublist (Ko _ _),λc hc=>cQ c (Df hc),hO,by (simp only [Ap,Bs,Cr];omega),rfl,rfl⟩
   | false=>
    .have Um:Il l[i].pos Kc=Fk l[i].pos Kc:=by unfold Il;rw [Ad (by rw [KV];decide)]
     rw [Um] at hO fK
     simp only [Ax,↓Ba,p1,m1,F3.len,show decide ((0:Int)<(l[i].vals.length:Int))=false from Aj (by omega),b1]
     refine C0 (R:=rCell) (a:=Fk l[i].pos Kc) (z:=Kc.length) (d:=d1) (by simp only [bR,bP]) wE rfl (by simp only [Y2,Cg,bR,bP];rfl) (λn hn=>by rw [SZ,hn]) fK (Ai _) ?_
     have rs:=wE.part (a:=Fk l[i].pos Kc) (z:=Kc.length) fK (Ai _)
     rw [Cc (by rw [Cr];omega)] at rs
     simp only [Ax,↓Ba,b10,b11,Qe,h,Jx (show i<_ by omega)]
     exact ⟨_,_,_,_,⟨by omega,λj hj=>by rw [k4 j hj,g.same j hj]⟩,rs,o4,λj hj=>by (have:j=Dx:=by simpa [DV.refs] using hj);omega,Mz.sublist (Ko _ _),λc hc=>cQ c (Df hc),hO,by (simp only [Ap,Bs,Cr];omega),rfl,rfl⟩
  .rw [Ad hv,<- Bu,<- Bu] at hO
   have T1:0<l[i].vals.length:=Rh.2 hv
   simp only [Ax,↓Ba,p0,p1,m0,m1,F3.len,show decide ((0:Int)<(l[i].vals.length:Int))=true from Ar (by omega)]
   refine fT (cs:=[x,y]) (by simp only [Ag,Ak,Cg,bR,bP,OS.live,F3.live];exact MY OS.ok F3.ok) ?_
   simp only [Ax,↓Ba]
   refine Vt (fl:=[x,y]) rfl (by simp only [Ag,Ak,Cg,bR,bP,Yp OS F3];rfl) λHp Qb Io=>?_
   simp only [bR] at Qb Io
   have rx5:=OS.keep (Ao:=Hp) λj hj=>by (have:=hP j hj;exact Io j (by omega))
   have ry5:=F3.keep (Ao:=Hp) λj hj=>by (have:=hP j hj;exact Io j (by omega))
   have o5:=o4.keep (Ao:=Hp) λj hj=>Io j (hj.elim (λh=>by (have:=hP j h;omega)) λh=>by (have:j=Dx:=by simpa [DV.refs] using h);omega)
   simp only [Ax,↓Ba]
   refine jT (R:=rCell) (p:=P) (p2:=P) (d:=.ms Dx 0 (O++Kc.take (Fk l[i].pos Kc)).length rCell.e) (d2:=.ms (Dx+1) 0 1 2) (l:=O++Kc.take (Fk l[i].pos Kc)) (m:=[l[i]]) (by simp only [bR,bP]) o5 (by simp only [Cg,bR,bP];exact Rl Qb) (NB (R:=rCell) (x:=l[i]) Qb (rCell_rd.2 ⟨x,y,rfl,rx5,ry5⟩)) rfl rfl (by rw [hOl,Bf];omega) (by decide) λJf Py h6=>?_
   simp only [bR] at Py h6
   have o6:=h6 P λj hj=>by
    have oM:P j:=hj.elim id id
    have:=hP j oM
    exact ⟨oM,by omega,λh=>by (have:j=Dx:=by simpa [DV.refs] using h);omega⟩
   have k6:∀ j,j<es.nx->Jf.get j=An.hp.get j:=λj hj=>by rw [Py j (by omega) λh=>by (have:j=Dx:=by simpa [DV.refs] using h);omega,Io j (by omega),k4 j hj]
   have S1:=rd.keep (Ao:=Jf) λj hj=>by (have:=hP j hj;exact k6 j (by omega))
   cases KV:Vb Kc l[i].pos (Fk l[i].pos Kc) with
   | true=>
    .have Um:Il l[i].pos Kc=Fk l[i].pos Kc+1:=by unfold Il;rw [Af KV]
     rw [Um] at hO fK
     simp only [Ax,↓Ba,b1,Jx (show Fk l[i].pos Kc<_ by omega)]
     refine C0 (R:=rCell) (a:=Fk l[i].pos Kc+1) (z:=Kc.length) (d:=d1) (by simp only [bR,bP]) S1 rfl (by simp only [Y2,Cg,bR,bP];rfl) (λn hn=>by rw [SZ,hn]) fK (Ai _) ?_
     have rs:=S1.part (a:=Fk l[i].pos Kc+1) (z:=Kc.length) fK (Ai _)
     rw [Cc (by rw [Cr];omega)] at rs
     simp only [Ax,↓Ba,b10,b11,Qe,h,Jx (show i<_ by omega)]
     exact ⟨_,_,_,_,⟨by omega,λj hj=>by rw [k6 j hj,g.same j hj]⟩,rs,o6,λj hj=>by (have:j=Dx+1+1:=by simpa [DV.refs] using hj);omega,Mz.sublist (Ko _ _),λc hc=>cQ c (Df hc),hO,by (simp only [Ap,Bs,Cr,Bf];omega),rfl,rfl⟩
   | false=>
    .have Um:Il l[i].pos Kc=Fk l[i].pos Kc:=by unfold Il;rw [Ad (by rw [KV];decide)]
     rw [Um] at hO fK
     simp only [Ax,↓Ba,b1]
     refine C0 (R:=rCell) (a:=Fk l[i].pos Kc) (z:=Kc.length) (d:=d1) (by simp only [bR,bP]) S1 rfl (by simp only [Y2,Cg,bR,bP];rfl) (λn hn=>by rw [SZ,hn]) fK (Ai _) ?_
     have rs:=S1.part (a:=Fk l[i].pos Kc) (z:=Kc.length) fK (Ai _)
     rw [Cc (by rw [Cr];omega)] at rs
     simp only [Ax,↓Ba,b10,b11,Qe,h,Jx (show i<_ by omega)]
     exact ⟨_,_,_,_,⟨by omega,λj hj=>by rw [k6 j hj,g.same j hj]⟩,rs,o6,λj hj=>by (have:j=Dx+1+1:=by simpa [DV.refs] using hj);omega,Mz.sublist (Ko _ _),λc hc=>cQ c (Df hc),hO,by (simp only [Ap,Bs,Cr,Bf];omega),rfl,rfl⟩
 .rw [Bc (by omega)] at hO
  have hO':O++Kc=Po l cs:=hO
  simp only [Ax,↓Ba,b1,b5,b11,Qe,h]
  refine jT (R:=rCell) (p:=P) (p2:=P) (d:=z) (d2:=d1) (l:=O) (m:=Kc) (by simp only [bR,bP]) ro (by simp only [Cg,bR,bP];exact rd.live) (rd.srcD (es:=⟨_,An.hp,_⟩)) rfl rfl (by omega) (by decide) λGz Fp h4=>?_
  simp only [bR] at Fp h4
  have o4:=h4 P λj hj=>by
   have oM:P j:=hj.elim id id
   have:=hP j oM
   exact ⟨oM,by omega,λh=>by have:=(rz j h).1;omega⟩
  have r4:RL rCell Gz (λj=>P j\/(es.nx<=j/\j<An.nx+1)) (.ms An.nx 0 (O++Kc).length rCell.e) (O++Kc):=o4.rl.mono λj hj=>by
   rcases hj with hj | hj
   .exact .inl hj
   .have:j=An.nx:=by simpa [DV.refs] using hj
    exact .inr ⟨by omega,by omega⟩
  simp only [Ax,↓Ba,bP,r4.live]
  rw [hO'] at r4
  exact hK _ _ _ ⟨by omega,λj hj=>by rw [Fp j (by omega) λh=>by (have:=(rz j h).1;omega),g.same j hj]⟩ (by rw [hO'];exact r4) λj hj=>by (have:j=An.nx:=by simpa [DV.refs] using hj);omega
theorem GJ(n0:Nat)(ls d:DV)(l cs:List PCell)(hn:n0<=nx)(hL:RL rChange hp (Bl n0) ls l)(hd:RL rCell hp (Bl n0) d cs)(hl:l.length+cs.length<900000)(hs:Ly cs)(hb:∀ c∈cs,c.pos.length<900000)
  (hK:∀ Ao Bk z,Al hp nx Ao Bk->RL rCell Ao (λj=>j<n0\/(nx<=j/\j<Bk)) z (Po l cs)->(∀ j∈z.refs,nx<=j)->K z Ao Bk):KW (kN (k+7)) (.fn 60) [ls,d] hp nx K:=Cj5 k hp nx K (Bl n0) ls d l cs (λ_ hj=>Bp hj hn) hL hd hl hs hb hK
end
end Go.DD

/- Plain: sorted changes laid over sorted cells are sorted cells. -/
namespace Go.DD
open Go Go.Proofs Go.Sort
theorem tq{a b:List Int}(h:¬ Cq b a<0):Cq a b = -1\/a=b:=by
 have h1:=uR a b
 rcases lX a b with h2 | h2 | h2
 .exact .inl h2
 .exact .inr (cmpL_0.1 h2)
 .omega
theorem Bm4{l m:List PCell}(h:iE l m)(hd:∀ i,¬ uJ m i):Ly m:=by
 refine Cy.2 λi j hi hj Oy=>?_
 have hp:=Cy.1 h.2
 have le:∀ (i j:Nat) (hi:i<m.length) (hj:j<m.length),i<j->Cq m[i].pos m[j].pos = -1\/m[i].pos=m[j].pos:=λi j hi hj Oy=>by
  have h1:=hp i j hi hj Oy
  exact tq (by unfold Zd at h1;exact of_decide_eq_false h1)
 rcases le i j hi hj Oy with h1 | h1
 .exact h1
 .refine absurd ?_ (hd (i+1))
  refine ⟨by omega,by omega,?_⟩
  show Cq m[i].pos m[i+1].pos=0
  rcases le i (i+1) hi (by omega) (by omega) with h2 | h2
  .by_cases e:i+1=j
   .subst e;rw [h1];exact fV _
   .rcases le (i+1) j (by omega) hj (by omega) with h3 | h3
    .have h4:=qU h2 h3
     rw [h1,fV] at h4
     cases h4
    .rw [h1,<- h3];exact fV _
  .rw [<- h2];exact fV _
theorem B04{m:List PCell}(h:Ly m):(m.map PCell.pos).Nodup:=by
 rw [List.Nodup,List.pairwise_map]
 exact h.imp λh=>A24 h
theorem Cr3{l m:List PCell}(h:iE l m){i:Nat}(hd:uJ m i):¬ (l.map PCell.pos).Nodup:=λhn=>by
 have h1:(m.map PCell.pos).Nodup:=(h.1.map _).nodup_iff.2 hn
 obtain ⟨h0,h2,h3⟩:=hd
 have h4:=Cy.1 h1 (i-1) i (by simp;omega) (by simpa using h2) (by omega)
 simp only [Fs] at h4
 exact h4 (cmpL_0.1 h3)
theorem B89{l m:List PCell}(h:iE l m)(hd:∀ i,¬ uJ m i):(l.map PCell.pos).Nodup:=(h.1.map _).nodup_iff.1 (B04 (Bm4 h hd))
theorem B05{p:List Int}{cs:List PCell}(hs:Ly cs):∀ e∈cs.take (Fk p cs),Cq e.pos p = -1:=λe he=>by
 obtain ⟨t,ht,rfl⟩:=El he
 rw [Er]
 have Xd:t<Fk p cs/\t<cs.length:=by rw [Bs] at ht;omega
 have:=(MT p hs).lo t Xd.2 Xd.1
 have:=lX (cs[t]'Xd.2).pos p
 omega
theorem B06{p:List Int}{cs:List PCell}(hs:Ly cs):∀ e∈cs.drop (Il p cs),Cq p e.pos = -1:=λe he=>by
 obtain ⟨t,ht,rfl⟩:=El he
 rw [Kn]
 have Xd:Il p cs+t<cs.length:=by rw [Cr] at ht;omega
 have hw:=MT p hs
 have hwn:Fk p cs<=Il p cs:=by unfold Il;split <;> omega
 have h1:=hw.hi (Il p cs+t) Xd (by omega)
 rcases tq h1 with h2 | h2
 .exact h2
 .exfalso
  have oA:Fk p cs<cs.length:=by omega
  by_cases hi:Vb cs p (Fk p cs)=true
  .have hn:Il p cs=Fk p cs+1:=by unfold Il;rw [Af hi]
   unfold Vb at hi
   rw [Aa oA] at hi
   have h3:=cmpL_0.1 (Fe hi)
   have h4:=Cy.1 hs (Fk p cs) (Il p cs+t) oA Xd (by omega)
   rw [h3,<- h2,fV] at h4
   cases h4
  .have hn:Il p cs=Fk p cs:=by unfold Il;rw [Ad hi]
   unfold Vb at hi
   rw [Aa oA] at hi
   have h3:¬ Cq cs[Fk p cs].pos p=0:=λh=>hi (Ar h)
   have h5:=hw.hi (Fk p cs) oA (Ai _)
   rcases tq h5 with h6 | h6
   .by_cases e:t=0
    .subst e
     have:cs[Il p cs+0].pos=cs[Fk p cs].pos:=by congr 1;simp [hn]
     rw [<- this,<- h2] at h3
     exact h3 (fV _)
    .have h4:=Cy.1 hs (Fk p cs) (Il p cs+t) oA Xd (by omega)
     have:=qU h6 h4
     rw [<- h2,fV] at this
     cases this
   .rw [<- h6] at h3;exact h3 (fV _)
theorem TT:∀ {l cs:List PCell},∀ e∈Po l cs,e∈cs\/(e∈l/\e.vals≠[])
 | [],cs,e,h=>.inl h
 | c::l,cs,e,h=>by
  unfold Po at h
  rcases Aw.1 h with h | h
  .exact .inl (Gv h)
  .rcases Aw.1 h with h | h
   .split at h
    .cases h
    .rename_i hv
     have:e=c:=by simpa using h
     subst this
     exact .inr ⟨by simp,hv⟩
   .rcases TT e h with h | h
    .exact .inl (Df h)
    .exact .inr ⟨Be _ h.1,h.2⟩
theorem tp:∀ {l cs:List PCell},Ly l->Ly cs->Ly (Po l cs)
 | [],cs,_,h=>h
 | c::l,cs,hl,hs=>by
  obtain ⟨h1,h2⟩:=Fm.1 hl
  have ih:=tp (l:=l) (cs:=cs.drop (Il c.pos cs)) h2 (hs.sublist (Ko _ _))
  have hi:∀ e∈Po l (cs.drop (Il c.pos cs)),Cq c.pos e.pos = -1:=λe he=>by
   rcases TT e he with h | h
   .exact B06 hs e h
   .exact h1 e h.1
  unfold Po
  refine aR.2 ⟨hs.sublist (List.take_sublist _ _),aR.2 ⟨by split <;> simp,ih,λa ha b hb=>?_⟩,λa ha b hb=>?_⟩
  .split at ha
   .cases ha
   .have:a=c:=by simpa using ha
    rw [this];exact hi b hb
  .have h3:=B05 hs a ha
   rcases Aw.1 hb with hb | hb
   .split at hb
    .cases hb
    .have:b=c:=by simpa using hb
     rw [this];exact h3
   .exact qU h3 (hi b hb)
end Go.DD

/- Contracts: the program's Apply. Conditions: those that each theorem states. -/
namespace Go.DD
open Go Go.Proofs Go.Sort
theorem B07{d:List PDim}{a:List PAttr}{c:PCell}(h:Kt d a c=0)(hv:c.vals≠[]):Hb d a c=0:=by
 have hl:c.vals.length≠0:=λe=>hv (List.length_eq_zero_iff.1 e)
 unfold Kt at h
 by_cases h1:c.pos.length≠d.length\/(c.vals.length≠0/\c.vals.length≠a.length)
 .rw [Af h1] at h;cases h
 .rw [Ad h1] at h
  by_cases h2:gC d c.pos=false
  .rw [Af h2] at h;cases h
  .rw [Ad h2] at h
   by_cases h3:Nk c.vals a=false
   .rw [Af h3] at h;cases h
   .have e1:c.pos.length=d.length:=by omega
    have e2:c.vals.length=a.length:=by omega
    have h4:sV d c.pos=true:=by unfold sV;rw [Ar e1];simpa using h2
    unfold Hb
    rw [Ad (by omega),Ad (by rw [h4];decide),Ad h3]
theorem Bm5{d:List PDim}{a:List PAttr} : ∀ {l:List PCell},Jh d a l=0->∀ c∈l,Kt d a c=0
 | [],_=>λc hc=>by cases hc
 | c::l,h=>by
  unfold Jh at h
  by_cases h1:Kt d a c≠0
  .rw [Af h1] at h;exact absurd h h1
  .rw [Ad h1] at h
   intro e he
   rcases Aq.1 he with rfl | he
   .omega
   .exact Bm5 h e he
theorem Bm6{x:PArr}{l m:List PCell}(hx:Mo x=0)(hc:Jh x.dims x.attrs l=0)(hm:m.Perm l)(hs:Ly m)(hl:x.cells.length+l.length<=1024):Mo ⟨x.dims,x.attrs,Po m x.cells⟩=0:=by
 obtain ⟨h1,h2,h3⟩:=iK hx
 have hlen:=W1 m x.cells
 have Wr:=hm.length_eq
 refine Bm3 h3 (by show (Po m x.cells).length<=4096;omega) (λc aH=>?_) (tp hs h1)
 rcases TT c aH with h | h
 .exact h2 c h
 .exact B07 (Bm5 hc c (hm.subset h.1)) h.2
theorem wI{x:PArr}{l m:List PCell}(ho:AOK x)(hm:m.Perm l)(hl:x.cells.length+l.length<=1024)(hb:∀ c∈l,c.pos.length<900000/\c.vals.length<900000/\∀ v∈c.vals,dI v):AOK ⟨x.dims,x.attrs,Po m x.cells⟩:=by
 have hlen:=W1 m x.cells
 have Wr:=hm.length_eq
 refine ⟨ho.d,ho.a,by show (Po m x.cells).length<900000;omega,λc aH=>?_⟩
 rcases TT c aH with h | h
 .exact ho.e c h
 .exact hb c (hm.subset h.1)
def uN(x:PArr)(l:List PCell)(e:Int)(r:PArr):Prop:=
 (Mo x≠0/\e=2/\r=⟨[],[],[]⟩)\/(Mo x=0/\Jh x.dims x.attrs l≠0/\e=Jh x.dims x.attrs l/\r=⟨[],[],[]⟩)\/
 (Mo x=0/\Jh x.dims x.attrs l=0/\¬ (l.map PCell.pos).Nodup/\e=5/\r=⟨[],[],[]⟩)\/
 (Mo x=0/\Jh x.dims x.attrs l=0/\(l.map PCell.pos).Nodup/\e=0/\∃ m,m.Perm l/\Ly m/\r=⟨x.dims,x.attrs,Po m x.cells⟩)
section
variable (k n0:Nat) (hp:Tr DObj) (nx:Nat) (K:DV->Tr DObj->Nat->Prop)
theorem B90(d1 ls:DV)(x:PArr)(l:List PCell)(hn:n0<=nx)(h1:AR hp (Bl n0) d1 x)(hL:RL rChange hp (Bl n0) ls l)(hx:AOK x)(hl:x.cells.length+l.length<=255/\l.length<gD)(hb:∀ c∈l,c.pos.length<900000/\c.vals.length<900000/\∀ v∈c.vals,dI v)
  (hK:∀ Ao Bk d' r e,Al hp nx Ao Bk->AR Ao (Bw nx Bk) d' r->uN x l e r->AOw Ao d'->K (.tup [d',iv e]) Ao Bk):KW (kN (k+19)) (.fn 17) [d1,ls] hp nx K:=by
 obtain ⟨hl,U0⟩:=hl
 obtain ⟨d,a,c,rfl,r1,r2,r3⟩:=h1
 refine nX (Hm (by decide)) t17 (Ab rfl) λes e1 e2 he=>?_
 have a0:Ae es (.t .o)=.agg [d,a,c]:=he 0 _ rfl
 have a1:Ae es (.t (.l .o))=ls:=he 1 _ rfl
 unfold r17
 subst e1 e2
 simp only [↓Ba]
 refine Zo (cs:=[d,a,c]) (by rw [Hl,a0];exact AR.live r1 r2 r3) λEi Dm Cv=>?_
 simp only [bR] at Dm Cv
 have Gb:Al es.hp es.nx Ei (es.nx+1):=⟨by omega,λj hj=>Cv j (by omega)⟩
 simp only [Ax,↓Ba]
 refine Vr λDb Ft Et=>?_
 simp only [bR] at Ft Et
 have Dj:Al es.hp es.nx Db (es.nx+1+1):=⟨by omega,λj hj=>by rw [Et j (by omega),Cv j (by omega)]⟩
 have fN:Db.get es.nx=_:=(Et es.nx (by omega)).trans Dm
 obtain ⟨_,_,_,_,lA⟩:=Uw fN
 simp only [Ax,↓Ba,lA]
 refine Fl (SH (k:=k+11) n0 _ _ _ _ x (by omega) ⟨d,a,c,rfl,r1.ka hn Dj,r2.ka hn Dj,r3.ka hn Dj⟩ hx λGr Dx Eu=>?_)
 have Jb:=Eu.le
 have gW:=Dj.trans Eu
 have oZ:=(Eu.same es.nx (by omega)).trans fN
 have JP:=(Eu.same (es.nx+1) (by omega)).trans Ft
 obtain ⟨_,_,_,_,lA3⟩:=Uw oZ
 by_cases cx:Mo x=0
 .simp only [Ax,↓Ba,a1,show decide (¬ Mo x=0)=false by simp [cx],lA3]
  refine Fl (Bq2 k n0 _ _ _ d a c ls x l (by omega) (r1.ka hn gW) (r2.ka hn gW) (r3.ka hn gW) (hL.ka hn gW) hx U0 (λc hc=>(hb c hc).1) (λc hc=>(hb c hc).2.2) λGz Mj z m e Ob hz hC=>?_)
  have bM:=Ob.le
  have cU:=gW.trans Ob
  have gT:=(Ob.same es.nx (by omega)).trans oZ
  have JO:=(Ob.same (es.nx+1) (by omega)).trans JP
  have y0:Fv Gz (.tup [z,iv e]) 0=some z:=C1 λid hid=>(hz.refs id (by simpa [DV.refsL,DV.refs] using hid)).2
  by_cases he:e=0
  .obtain ⟨h0,hs,hd⟩:Jh x.dims x.attrs l=0/\iE l m/\∀ i,¬ uJ m i:=by
    rcases hC with ⟨h0,h1,_⟩ | ⟨_,h1,_⟩ | ⟨h0,_,h2,h3⟩
    .exact absurd (h1.symm.trans he) h0
    .rw [h1] at he;cases he
    .exact ⟨h0,h2,h3⟩
   have mB:=Bm4 hs hd
   obtain ⟨⟨f0,f1,f2⟩,l0,l1,l2,_⟩:=Uw gT
   have q1:RL rDim Gz (Bl Mj) d x.dims:=(r1.ka hn cU).mono λj (hj:j<n0)=>by show j<Mj;omega
   have q2:RL rAttr Gz (Bl Mj) a x.attrs:=(r2.ka hn cU).mono λj (hj:j<n0)=>by show j<Mj;omega
   have q3:RL rCell Gz (Bl Mj) c x.cells:=(r3.ka hn cU).mono λj (hj:j<n0)=>by show j<Mj;omega
   simp only [Ax,↓Ba,y0,show decide (¬ e=0)=false by simp [he],f0,f1,f2,l0,l1,l2,Mp (n0:=Mj) (m:=13) gT (show es.nx<Mj by omega),q3.rox (m:=13) (Ai Mj),hz.rox (m:=13) (Ai Mj)]
   refine Nt rfl (Xi ?_)
   simp only [bR,Ag,Ak]
   have Wr:=hs.1.length_eq
   refine GJ (k+11) _ _ _ Mj z c m x.cells (by omega) hz q3 (by omega) (iK cx).1 (λc hc=>(hx.e c hc).1) λHp Jp z5 Kr qZ _=>?_
   have Su:=Kr.le
   have q15:=q1.ka (nx:=Mj+13) (by omega) Kr
   have q25:=q2.ka (nx:=Mj+13) (by omega) Kr
   have OW:∀ an,Ii z5 (λid=>Cs Mj 13 an Hp id):=λan=>qZ.ro' (n:=Mj) (m:=13) λj hj=>hj.imp id λh=>h.1
   simp only [Ax,↓Ba,Su,q15.rox (m:=13) (Ai Mj),q25.rox (m:=13) (Ai Mj),Bn (OW _)]
   refine Nt rfl (Xi ?_)
   simp only [bR,Ag,Ak]
   refine tv k Jp _ _ _ 8 d a z5 ⟨x.dims,x.attrs,Po m x.cells⟩ (Ai _) (q15.mono λj (hj:j<Mj)=>by show j<Jp;omega) (q25.mono λj (hj:j<Mj)=>by show j<Jp;omega) (qZ.mono λj hj=>by show j<Jp;omega) (Bm6 cx h0 hs.1 mB (by omega)) (wI hx hs.1 (by omega) hb) (by have:=W1 m x.cells;show (Po m x.cells).length<=2 ^ 8;omega) λJf Kw d6 Sz pK tO=>?_
   have Vj:=Sz.le
   obtain ⟨dd,da,cX,rfl,v1,v2,v3⟩:=pK
   have x0:Fv Jf (.tup [.agg [dd,da,cX],iv 0]) 0=some (.agg [dd,da,cX]):=C1 λid hid=>by
    have:id∈dd.refs\/id∈da.refs\/id∈cX.refs:=by simpa [DV.refs,DV.refsL] using hid
    rcases this with h | h | h
    .exact (v1.refs id h).2
    .exact (v2.refs id h).2
    .exact (v3.refs id h).2
   have x1:Fv Jf (.tup [.agg [dd,da,cX],iv 0]) 1=some (iv 0):=Yk
   have ly:=(Sz.same es.nx (by omega)).trans ((Kr.same es.nx (by omega)).trans gT)
   have LC:=(Sz.same (es.nx+1) (by omega)).trans ((Kr.same (es.nx+1) (by omega)).trans JO)
   have CD:∀ an,Ii (.agg [dd,da,cX]) (λid=>Cs Mj 13 an Jf id):=λan id hid=>by
    have:id∈dd.refs\/id∈da.refs\/id∈cX.refs:=by simpa [DV.refs,DV.refsL] using hid
    have w1:=v1.ro' (n:=Mj) (m:=13) (an:=an) λj hj=>.inr (by have:=hj.1;omega)
    have w2:=v2.ro' (n:=Mj) (m:=13) (an:=an) λj hj=>.inr (by have:=hj.1;omega)
    have w3:=v3.ro' (n:=Mj) (m:=13) (an:=an) λj hj=>.inr (by have:=hj.1;omega)
    rcases this with h | h | h
    .exact w1 id h
    .exact w2 id h
    .exact w3 id h
   have S0:∀ an,Ii (.tup [.agg [dd,da,cX],iv 0]) (λid=>Cs Mj 13 an Jf id):=λan id hid=>CD an id (by simpa [DV.refs,DV.refsL,iv] using hid)
   simp only [Ax,↓Ba,Vj,x0,x1,Bn (CD _),Bn (S0 _),Mp (n0:=Mj) (m:=13) LC (show es.nx+1<Mj by omega)]
   refine Nt rfl (Uu (n:=3) (id:=es.nx+1) (ds:=[dd,da,cX]) (by simp only [bR]) LC (by simp only [Hl,bR];exact AR.live (x:=⟨x.dims,x.attrs,Po m x.cells⟩) v1 v2 v3) rfl rfl λNz Td Md=>?_)
   simp only [bR] at Td Md
   have LD:=(Kr.same es.nx (by omega)).trans gT
   have gA7:=(Md es.nx (by omega)).trans ly
   have Gy:∀ {a1 a2 a3:List Nat} {q1 q2 q3:Nat} (p:Past),p∈[(⟨q1,a1,Jf,Nz⟩:Past),⟨q2,a2,Hp,Jf⟩,⟨q3,a3,Gz,Hp⟩]->p.a.get es.nx=some (.row _ [d,a,c])/\p.b.get es.nx=some (.row _ [d,a,c]):=λp hp=>by
    simp only [Aq,Ci,or_false] at hp
    rcases hp with rfl | rfl | rfl
    .exact ⟨ly,gA7⟩
    .exact ⟨LD,ly⟩
    .exact ⟨gT,LD⟩
   have up:∀ j,Bw Jp Kw j->Bw es.nx Kw j:=λj hj=>⟨by have:=hj.1;omega,hj.2⟩
   have kp:∀ j,Bw Jp Kw j->Nz.get j=Jf.get j:=λj hj=>Md j (by have:=hj.1;omega)
   simp only [Ax,↓Ba]
   refine ⟨qS (λj hj=>by simpa [DV.refs] using hj) (show es.nx<Mj by omega) Gy (AR.same r1 r2 r3) (qS (λj hj=>by simpa [DV.refs] using hj) (show es.nx<Mj by omega) Gy (AR.same r1 r2 r3) (qS (λj hj=>by simpa [DV.refs] using hj) (show es.nx<Mj by omega) Gy (AR.same r1 r2 r3) (qS (λj hj=>by simpa [DV.refs] using hj) (show es.nx<Mj by omega) Gy (AR.same r1 r2 r3) rfl))),_,_,B6 (by simp only [bR,bP]) Td rfl,by rw [MV];simp only [bR,bP,Ns],hK _ _ _ ⟨x.dims,x.attrs,Po m x.cells⟩ 0 ⟨by omega,λj hj=>by rw [Md j (by omega),Sz.same j (by omega),Kr.same j (by omega),cU.same j hj]⟩ ⟨dd,da,cX,rfl,(v1.keep kp).mono up,(v2.keep kp).mono up,(v3.keep kp).mono up⟩ (.inr (.inr (.inr ⟨cx,h0,B89 hs hd,rfl,m,hs.1,mB,rfl⟩))) (.of ((tO _ _ _ rfl).keep λj hj=>kp j (v3.refs j hj).1))⟩
  .simp only [Ax,↓Ba,y0,show decide (¬ e=0)=true by simp [he]]
   refine fT (cs:=[Cl,Cl,Cl]) rfl ?_
   simp only [Ax,↓Ba]
   refine Uu (n:=3) (id:=es.nx+1) (ds:=[Cl,Cl,Cl]) (by simp only [bR]) JO (by simp only [Hl,bR];rfl) rfl rfl λhpA L8 JE=>?_
   simp only [bR] at L8 JE
   simp only [Ax,↓Ba]
   exact ⟨_,_,B6 (by simp only [bR,bP]) L8 rfl,by rw [MV];simp only [bR,bP,Ns],hK _ _ _ ⟨[],[],[]⟩ e ⟨by omega,λj hj=>by rw [JE j (by omega),cU.same j hj]⟩ ⟨Cl,Cl,Cl,rfl,.nil,.nil,.nil⟩ (by
    rcases hC with ⟨h0,h1,_⟩ | ⟨h0,h1,_,s,i,hs,hd⟩ | ⟨_,h1,_⟩
    .exact .inr (.inl ⟨cx,h0,h1,rfl⟩)
    .exact .inr (.inr (.inl ⟨cx,h0,Cr3 hs hd,h1,rfl⟩))
    .exact absurd h1 he) (.of (.nil _))⟩
 .simp only [Ax,↓Ba,show decide (¬ Mo x=0)=true by simp [cx]]
  refine fT (cs:=[Cl,Cl,Cl]) rfl ?_
  simp only [Ax,↓Ba]
  refine Uu (n:=3) (id:=es.nx+1) (ds:=[Cl,Cl,Cl]) (by simp only [bR]) JP (by simp only [Hl,bR];rfl) rfl rfl λhpA L8 JE=>?_
  simp only [bR] at L8 JE
  simp only [Ax,↓Ba]
  exact ⟨_,_,B6 (by simp only [bR,bP]) L8 rfl,by rw [MV];simp only [bR,bP,Ns],hK _ _ _ ⟨[],[],[]⟩ 2 ⟨by omega,λj hj=>by rw [JE j (by omega),gW.same j hj]⟩ ⟨Cl,Cl,Cl,rfl,.nil,.nil,.nil⟩ (.inl ⟨cx,rfl,rfl⟩) (.of (.nil _))⟩
end
end Go.DD

/- Plain: the difference leads from one to the other. -/
namespace Go.DD
open Go Go.Proofs Go.Sort
theorem Bm7:∀ {l m:List PCell},Ly l->Ly m->(∀ e,e∈l↔e∈m)->l=m
 | [],[],_,_,_=>rfl
 | [],b::m,_,_,h=>by have:=(h b).2 (by simp);cases this
 | a::l,[],_,_,h=>by have:=(h a).1 (by simp);cases this
 | a::l,b::m,hl,hm,h=>by
  obtain ⟨h1,h2⟩:=Fm.1 hl
  obtain ⟨h3,h4⟩:=Fm.1 hm
  have mI:a=b:=by
   rcases Aq.1 ((h a).1 (by simp)) with e | ha
   .exact e
   .rcases Aq.1 ((h b).2 (by simp)) with e | hb
    .exact e.symm
    .have x1:=h3 a ha
     have x2:=h1 b hb
     have:=uR a.pos b.pos
     omega
  subst mI
  congr 1
  refine Bm7 h2 h4 λe=>⟨λhe=>?_,λhe=>?_⟩
  .rcases Aq.1 ((h e).1 (Be _ he)) with x | x
   .subst x;exact absurd (h1 _ he) (by rw [fV];decide)
   .exact x
  .rcases Aq.1 ((h e).2 (Be _ he)) with x | x
   .subst x;exact absurd (h3 _ he) (by rw [fV];decide)
   .exact x
theorem Bb9{A:List PCell}(hs:Ly A){c:PCell}(hc:c∈A):Th A c.pos=c.vals:=by
 obtain ⟨i,hi,rfl⟩:=El hc
 exact Bp4 (λi j Oy hj=>Cy.1 hs i j (by omega) hj Oy) hi
theorem uz{A:List PCell}{p:List Int}(h:Th A p≠[]):(⟨p,Th A p⟩:PCell)∈A:=by
 unfold Th at h ⊢
 cases e:A.find? (λc=>decide (c.pos=p)) with
 | none=>rw [e] at h;exact absurd rfl h
 | some c=>
  have h1:=List.mem_of_find?_eq_some e
  have h2:c.pos=p:=Fe (by simpa using List.find?_some e)
  subst h2
  exact h1
theorem btw1_mem{w:List Int×List (List PVal)}{c:PCell} : c∈Ud w↔∃ u v,w.2=[u,v]/\u≠v/\c=⟨w.1,v⟩:=by
 unfold Ud
 constructor
 .intro h
  split at h
  .rename_i u v e
   split at h
   .cases h
   .rename_i Ha
    exact ⟨u,v,e,Ha,by simpa using h⟩
  .cases h
 .rintro ⟨u,v,e,Ha,rfl⟩
  rw [e]
  simp [Ha]
theorem B08:∀ {W:List (List Int×List (List PVal))},W.Pairwise (λa b=>Cq a.1 b.1 = -1)->Ly (Sj W)
 | [],_=>.nil
 | w::W,h=>by
  obtain ⟨h1,h2⟩:=Fm.1 h
  have hp:∀ {w:List Int×List (List PVal)} {c:PCell},c∈Ud w->c.pos=w.1:=λhc=>by
   obtain ⟨_,_,_,_,rfl⟩:=btw1_mem.1 hc
   rfl
  show Ly ((w::W).flatMap Ud)
  rw [Ou]
  refine aR.2 ⟨?_,B08 h2,λa ha b hb=>?_⟩
  .unfold Ud
   split
   .split <;> simp
   .simp
  .obtain ⟨w',Sf,Ht⟩:=Pt.1 hb
   rw [hp ha,hp Ht]
   exact h1 w' Sf
theorem B09{A B:List PCell}(hA:Ly A)(hB:Ly B):Ly (Sj (Hy [A,B]))/\∀ c,c∈Sj (Hy [A,B])↔((∃ e,(e∈A\/e∈B)/\e.pos=c.pos)/\Th A c.pos≠Th B c.pos/\c.vals=Th B c.pos):=by
 have hS:∀ h∈[A,B],Srt h:=λh hh=>by
  simp only [Aq,Ci,or_false] at hh
  rcases hh with rfl | rfl
  .exact hA
  .exact hB
 obtain ⟨w1,w2,w3⟩:=Bp8 (n:=Za [A,B]) hS (Ai _)
 have xw:∀ p,(∃ w∈Hy [A,B],w.1=p)↔∃ h∈[A,B],∃ c∈h,c.pos=p:=w2
 refine ⟨B08 w1,λc=>?_⟩
 unfold Sj
 rw [Pt]
 constructor
 .rintro ⟨w,hw,hc⟩
  obtain ⟨u,v,e,Ha,rfl⟩:=btw1_mem.1 hc
  have e2:=w3 w hw
  rw [e] at e2
  have e3:u=Th A w.1/\v=Th B w.1:=by simpa using e2
  obtain ⟨h,hh,c,hc,h2⟩:=(xw w.1).1 ⟨w,hw,rfl⟩
  refine ⟨⟨c,?_,h2⟩,?_,e3.2⟩
  .simp only [Aq,Ci,or_false] at hh
   rcases hh with rfl | rfl
   .exact .inl hc
   .exact .inr hc
  .show Th A w.1≠Th B w.1
   rw [<- e3.1,<- e3.2];exact Ha
 .rintro ⟨⟨e,he,h2⟩,Ha,hv⟩
  obtain ⟨w,hw,PN⟩:=(xw c.pos).2 (by
   rcases he with h | h
   .exact ⟨A,by simp,e,h,h2⟩
   .exact ⟨B,by simp,e,h,h2⟩)
  refine ⟨w,hw,btw1_mem.2 ⟨Th A c.pos,Th B c.pos,?_,Ha,?_⟩⟩
  .rw [w3 w hw,PN];rfl
  .rw [PN,<- hv]
theorem TS:∀ {l cs:List PCell},Ly l->Ly cs->∀ e,e∈Po l cs↔(e∈cs/\∀ c∈l,c.pos≠e.pos)\/(e∈l/\e.vals≠[])
 | [],cs,_,_,e=>by simp [Po]
 | c::l,cs,hl,hs,e=>by
  obtain ⟨h1,h2⟩:=Fm.1 hl
  have ih:=TS h2 (hs.sublist (Ko (Il c.pos cs) cs)) e
  unfold Po
  rw [Aw,Aw,ih]
  constructor
  .rintro (h | h | ⟨h,h3⟩ | h)
   .have h4:=B05 hs e h
    refine .inl ⟨Gv h,λc' Kz=>?_⟩
    rcases Aq.1 Kz with rfl | Kz
    .exact λx=>by rw [x,fV] at h4;cases h4
    .have h5:=qU h4 (h1 c' Kz)
     exact λx=>by rw [x,fV] at h5;cases h5
   .split at h
    .cases h
    .rename_i hv
     have:e=c:=by simpa using h
     subst this
     exact .inr ⟨by simp,hv⟩
   .have h4:=B06 hs e h
    refine .inl ⟨Df h,λc' Kz=>?_⟩
    rcases Aq.1 Kz with rfl | Kz
    .exact λx=>by rw [x,fV] at h4;cases h4
    .exact h3 c' Kz
   .exact .inr ⟨Be _ h.1,h.2⟩
  .rintro (⟨h,h3⟩ | ⟨h,h3⟩)
   .by_cases hd:e∈cs.drop (Il c.pos cs)
    .exact .inr (.inr (.inl ⟨hd,λc' Kz=>h3 c' (Be _ Kz)⟩))
    .refine .inl ?_
     obtain ⟨t,ht,rfl⟩:=El h
     have Ez:t<Il c.pos cs:=We λYc=>hd (by
      have:cs[t]=(cs.drop (Il c.pos cs))[t-Il c.pos cs]'(by rw [Cr];omega):=by
       rw [Kn];congr 1;omega
      rw [this];exact Bh _)
     have fj:t<Fk c.pos cs:=by
      unfold Il at Ez
      split at Ez
      .rename_i hi
       refine We λYc=>?_
       have e1:t=Fk c.pos cs:=by omega
       unfold Vb at hi
       rw [<- e1,Aa ht] at hi
       exact h3 c (by simp) (cmpL_0.1 (Fe hi)).symm
      .exact Ez
     have:cs[t]=(cs.take (Fk c.pos cs))[t]'(by rw [Bs];omega):=by rw [Er]
     rw [this];exact Bh _
   .rcases Aq.1 h with rfl | h
    .exact .inr (.inl (by rw [Ad h3];simp))
    .exact .inr (.inr (.inr ⟨h,h3⟩))
end Go.DD

/- Contracts: the program's equality of arrays. Conditions: those that each theorem states. -/
namespace Go.DD
open Go Go.Proofs
section
variable (k n0:Nat) (hp:Tr DObj) (nx:Nat) (K:DV->Tr DObj->Nat->Prop)
theorem B91(p v q w:DV)(c e:PCell)(hn:n0<=nx)(h1:RL rInt hp (Bl n0) p c.pos)(h2:RL rVal hp (Bl n0) v c.vals)(h3:RL rInt hp (Bl n0) q e.pos)(h4:RL rVal hp (Bl n0) w e.vals)(hl:c.pos.length<900000/\c.vals.length<900000)
  (hK:∀ Ao Bk,Al hp nx Ao Bk->K (bv (decide (c=e))) Ao Bk):KW (kN (k+2)) (.fn 79) [.agg [p,v],.agg [q,w]] hp nx K:=by
 refine En (Hm (by decide)) t79 (Ab rfl) λes e1 e2 he=>?_
 have a0:Ae es (.t .o)=.agg [p,v]:=he 0 _ rfl
 have a1:Ae es (.t (.l .o))=.agg [q,w]:=he 1 _ rfl
 unfold zg
 subst e1 e2
 simp only [↓Ba]
 refine Zo (cs:=[p,v]) (by rw [Hl,a0];exact Yp h1 h2) λEi Dm Cv=>?_
 simp only [bR] at Dm Cv
 have Gb:Al es.hp es.nx Ei (es.nx+1):=⟨by omega,λj hj=>Cv j (by omega)⟩
 simp only [Ax,↓Ba]
 refine Zo (cs:=[q,w]) (by simp only [Hl,bR,a1];exact Yp (h3.ka hn Gb) (h4.ka hn Gb)) λDb Ft Et=>?_
 simp only [bR] at Ft Et
 have Dj:Al es.hp es.nx Db (es.nx+2):=⟨by omega,λj hj=>by rw [Et j (by omega),Cv j (by omega)]⟩
 have fN:=(Et es.nx (by omega)).trans Dm
 obtain ⟨⟨f0,f1⟩,l0,l1,lA⟩:=Xh fN
 obtain ⟨⟨g0,g1⟩,m0,m1,lB⟩:=Xh Ft
 simp only [Ax,↓Ba,f0,l0,g0,m0]
 refine Fl (C02 (k:=k) n0 _ _ _ p q _ _ (by omega) (h1.ka hn Dj) (h3.ka hn Dj) hl.1 λKw Vj=>?_)
 by_cases c1:c.pos=e.pos
 .simp only [Ax,↓Ba,Ar c1,f1,l1,g1,m1]
  refine Fl (Ch0 (k:=k) n0 _ _ _ v w _ _ (by omega) (h2.ka hn Dj) (h4.ka hn Dj) hl.2 λG7 eD=>?_)
  have hh:=hK _ _ (Dj.nx (show es.nx+2<=G7 by omega))
  have:(decide (c=e))=decide (c.vals=e.vals):=by
   obtain ⟨cp,cv⟩:=c
   obtain ⟨ep,ev⟩:=e
   simp only at c1
   simp [c1]
  rw [this] at hh
  cases c2:decide (c.vals=e.vals) <;> rw [c2] at hh <;> simp only [Ax,↓Ba,bP] <;> exact hh
 .simp only [Ax,↓Ba,bP,Aj c1]
  have hh:=hK _ _ (Dj.nx (show es.nx+2<=Kw by omega))
  rw [Aj (λh=>c1 (by rw [h]))] at hh
  exact hh
theorem Cr4(d1 d2:DV)(l m:List PCell)(hn:n0<=nx)(h1:RL rCell hp (Bl n0) d1 l)(h2:RL rCell hp (Bl n0) d2 m)(hl:l.length<900000)(mC:∀ c∈l,c.pos.length<900000/\c.vals.length<900000)
  (hK:∀ Ao Bk,Al hp nx Ao Bk->K (bv (decide (l=m))) Ao Bk):KW (kN (k+3)) (.fn 78) [d1,d2,.fn (.func 79) [.tup []]] hp nx K:=by
 refine En (Hm (by decide)) t78 (Ab rfl) λes e1 e2 he=>?_
 have a0:Ae es (.t .o)=d1:=he 0 _ rfl
 have a1:Ae es (.t (.l .o))=d2:=he 1 _ rfl
 have a2:Ae es (.t (.r .o))=.fn (.func 79) [.tup []]:=he 2 _ rfl
 unfold zh
 subst e1 e2
 by_cases hlen:l.length=m.length
 .simp only [Ax,↓Ba,a0,a1,h1.len,h2.len,hlen]
  refine EW.up l.length (λi An=>Al es.hp es.nx An.hp An.nx/\Ae An (.t .o)=d1/\Ae An (.t (.l .o))=d2/\Ae An (.t (.r .o))=.fn (.func 79) [.tup []]/\Ae An (.t (.l (.l (.l (.l .o)))))=d1/\Ae An (.t (.r (.l (.l (.l .o)))))=iv l.length/\Ae An (.t (.l (.r (.l (.l .o)))))=iv (i:Nat)/\(l=m↔l.drop i=m.drop i)) ?_ ?_ (by omega)
  .rintro i An hi ⟨g,b0,b1,b2,b15,b16,Zm,hc⟩
   unfold xM
   have hle:=g.le
   have w1:=h1.ka hn g
   have w2:=h2.ka hn g
   by_cases h:i<l.length
   .have h':i<m.length:=by omega
    obtain ⟨pA,vA,Tc,Ul,lA,_⟩:=Ev w1 h
    obtain ⟨pB,vB,cD,cA,lB,_⟩:=Ev w2 h'
    rw [NL h h'] at hc
    simp only [Ax,↓Ba,b15,b16,Zm,h,dC w1 h,lA]
    refine Vr λJf Yu Py=>?_
    simp only [bR] at Yu Py
    have k6:∀ j,Bl n0 j->Jf.get j=An.hp.get j:=λj hj=>Py j (by have:j<n0:=hj;omega)
    simp only [Ax,↓Ba]
    refine Uu (n:=2) (id:=An.nx) (ds:=[pA,vA]) (by simp only [bR]) Yu (by simp only [Hl,bR];exact Yp (Tc.keep k6) (Ul.keep k6)) rfl rfl λNz Td Md=>?_
    simp only [bR] at Td Md
    have k7:∀ j,Bl n0 j->Nz.get j=An.hp.get j:=λj hj=>(Md j (by have:j<n0:=hj;omega)).trans (k6 j hj)
    have xv:=w2.keep k7
    obtain ⟨pB',xz,gB,fZ,lB',_⟩:=Ev xv h'
    simp only [Ax,↓Ba,b1,dC xv h',lB']
    refine Vr λOl bO Ru=>?_
    simp only [bR] at bO Ru
    have k8:∀ j,Bl n0 j->Ol.get j=Nz.get j:=λj hj=>Ru j (by have:j<n0:=hj;omega)
    simp only [Ax,↓Ba]
    refine Uu (n:=2) (id:=An.nx+1) (ds:=[pB',xz]) (by simp only [bR]) bO (by simp only [Hl,bR];exact Yp (gB.keep k8) (fZ.keep k8)) rfl rfl λMk Qa Ju=>?_
    simp only [bR] at Qa Ju
    have k9:∀ j,j<An.nx->Mk.get j=An.hp.get j:=λj hj=>by rw [Ju j (by omega),Ru j (by omega),Md j (by omega),Py j (by omega)]
    have PJ:∀ j,Bl n0 j->Mk.get j=Nz.get j:=λj hj=>(Ju j (by have:j<n0:=hj;omega)).trans (k8 j hj)
    have gA:Mk.get An.nx=_:=(Ju An.nx (by omega)).trans ((Ru An.nx (by omega)).trans Td)
    obtain ⟨_,_,_,lT⟩:=Xh gA
    obtain ⟨_,_,_,lU⟩:=Xh Qa
    have g9:Al es.hp es.nx Mk (An.nx+1+1):=⟨by omega,λj hj=>by rw [k9 j (by omega),g.same j hj]⟩
    simp only [Ax,↓Ba,b2,lT,lU]
    refine Xo (fs:=[]) (cs:=[]) (by rw [Hl];simp only [bR];exact NC _ _) ?_
    simp only [bR,Ag,Ak,Dh,Bv]
    refine B91 k n0 _ _ _ pA vA pB' xz l[i] m[i] (by omega) (Tc.keep λj hj=>(PJ j hj).trans (k7 j hj)) (Ul.keep λj hj=>(PJ j hj).trans (k7 j hj)) (gB.keep PJ) (fZ.keep PJ) (mC _ (Bh h)) λIx FA pN=>?_
    have aBi:=pN.le
    by_cases c1:l[i]=m[i]
    .simp only [Ax,↓Ba,b0,b1,b2,b15,b16,Zm,h,Ar c1,Jx (show i<_ by omega)]
     exact ⟨g9.trans pN,by rw [hc];simp [c1]⟩
    .simp only [Ax,↓Ba,bP,Aj c1]
     have hh:=hK _ _ (g9.trans pN)
     rw [Aj (λe=>c1 (hc.1 e).1)] at hh
     exact hh
   .have:l=m:=hc.2 (by rw [Bc (by omega),Bc (by omega)])
    simp only [Ax,↓Ba,bP,b16,Zm,h]
    have hh:=hK _ _ g
    rw [Ar this] at hh
    exact hh
  .simp only [Ax,a0,a1,a2,hlen]
 .simp only [Ax,↓Ba,bP,a0,a1,h1.len,h2.len,hlen]
  have:¬ l=m:=λe=>hlen (by rw [e])
  have hh:=hK _ _ (Al.ini _ (Ai _))
  rw [Aj this] at hh
  exact hh
end
end Go.DD

/- Contracts: the reference's Merged. Conditions: those that each theorem states. -/
namespace Go.DD
open Go Go.Proofs
section
variable (k n0:Nat) (hp:Tr DObj) (nx:Nat) (K:DV->Tr DObj->Nat->Prop)
end
end Go.DD

/- Contracts: the program's Same; equal arrays or nothing. Conditions: those that each theorem states. -/
namespace Go.DD
open Go Go.Proofs
def Tn(x y:PArr):Bool:=decide (Mo x=0/\Mo y=0/\x=y)
section
variable (k n0:Nat) (hp:Tr DObj) (nx:Nat) (K:DV->Tr DObj->Nat->Prop)
theorem B10(d1 d2:DV)(x y:PArr)(hn:n0<=nx)(h1:AR hp (Bl n0) d1 x)(h2:AR hp (Bl n0) d2 y)(hx:AOK x)(hy:AOK y)
  (hK:∀ Ao Bk,Al hp nx Ao Bk->K (bv (Tn x y)) Ao Bk):KW (kN (k+8)) (.fn 25) [d1,d2] hp nx K:=by
 obtain ⟨d,a,c,rfl,r1,r2,r3⟩:=h1
 obtain ⟨d',a',c',rfl,s1,s2,s3⟩:=h2
 refine En (Hm (by decide)) t25 (Ab rfl) λes e1 e2 he=>?_
 have a0:Ae es (.t .o)=.agg [d,a,c]:=he 0 _ rfl
 have a1:Ae es (.t (.l .o))=.agg [d',a',c']:=he 1 _ rfl
 unfold r25
 subst e1 e2
 simp only [↓Ba]
 refine Zo (cs:=[d,a,c]) (by rw [Hl,a0];exact AR.live r1 r2 r3) λEi Dm Cv=>?_
 simp only [bR] at Dm Cv
 have Gb:Al es.hp es.nx Ei (es.nx+1):=⟨by omega,λj hj=>Cv j (by omega)⟩
 simp only [Ax,↓Ba]
 refine Zo (cs:=[d',a',c']) (by simp only [Hl,bR,a1];exact AR.live (s1.ka hn Gb) (s2.ka hn Gb) (s3.ka hn Gb)) λDb Ft Et=>?_
 simp only [bR] at Ft Et
 have Dj:Al es.hp es.nx Db (es.nx+2):=⟨by omega,λj hj=>by rw [Et j (by omega),Cv j (by omega)]⟩
 have JS:=(Et es.nx (by omega)).trans Dm
 have dh:∀ {Ao Bk},Al es.hp es.nx Ao Bk->AR Ao (Bl n0) (.agg [d,a,c]) x:=λh=>⟨d,a,c,rfl,r1.ka hn h,r2.ka hn h,r3.ka hn h⟩
 have hrB:∀ {Ao Bk},Al es.hp es.nx Ao Bk->AR Ao (Bl n0) (.agg [d',a',c']) y:=λh=>⟨d',a',c',rfl,s1.ka hn h,s2.ka hn h,s3.ka hn h⟩
 obtain ⟨_,_,_,_,lA⟩:=Uw JS
 have no:∀ {Ao Bk},¬ (Mo x=0/\Mo y=0/\x=y)->Al es.hp es.nx Ao Bk->K (.v (.bool false)) Ao Bk:=λh ha=>by
  have hh:=hK _ _ ha
  unfold Tn at hh
  rw [Aj h] at hh
  exact hh
 simp only [Ax,↓Ba,lA]
 refine Fl (SH (k:=k) n0 _ _ _ _ x (by omega) (dh Dj) hx λGr Dx Eu=>?_)
 have Jb:=Eu.le
 have gW:=Dj.trans Eu
 have gS:=(Eu.same (es.nx+1) (by omega)).trans Ft
 have oZ:=(Eu.same es.nx (by omega)).trans JS
 obtain ⟨_,_,_,_,lB3⟩:=Uw gS
 by_cases c1:Mo x=0
 .simp only [Ax,↓Ba,show decide (¬ Mo x=0)=false by simp [c1],lB3]
  refine Fl (SH (k:=k) n0 _ _ _ _ y (by omega) (hrB gW) hy λGz Mj Ob=>?_)
  have bM:=Ob.le
  have cU:=gW.trans Ob
  have L7:=(Ob.same (es.nx+1) (by omega)).trans gS
  have gT:=(Ob.same es.nx (by omega)).trans oZ
  obtain ⟨⟨ml,mj,LI⟩,ag,af,GH,_⟩:=Uw gT
  obtain ⟨⟨fB0,fB1,fB2⟩,lB0,lB1,lB2,_⟩:=Uw L7
  by_cases c2:Mo y=0
  .simp only [Ax,↓Ba,show decide (¬ Mo y=0)=false by simp [c2],ml,fB0,ag,lB0]
   refine Fl (C03 (k:=k+6) n0 _ _ _ d d' _ _ (by omega) (r1.ka hn cU) (s1.ka hn cU) hx.d λJp Su=>?_)
   by_cases c3:x.dims=y.dims
   .simp only [Ax,↓Ba,Ar c3,mj,fB1,af,lB1]
    refine Fl (C04 (k:=k+6) n0 _ _ _ a a' _ _ (by omega) (r2.ka hn cU) (s2.ka hn cU) hx.a λKw Vj=>?_)
    by_cases c4:x.attrs=y.attrs
    .simp only [Ax,↓Ba,Ar c4,LI,fB2,GH,lB2]
     refine Fl (Cr4 (k:=k+4) n0 _ _ _ c c' x.cells y.cells (by omega) (r3.ka hn cU) (s3.ka hn cU) hx.c (λe he=>⟨(hx.e e he).1,(hx.e e he).2.1⟩) λNz G7 Sy=>?_)
     have eD:=Sy.le
     have ha7:Al es.hp es.nx Nz G7:=⟨by omega,λj hj=>(Sy.same j (by omega)).trans (cU.same j hj)⟩
     have hh:=hK _ _ ha7
     have e:Tn x y=decide (x.cells=y.cells):=by
      refine decide_eq_decide.2 ⟨λh=>by rw [h.2.2],λh=>⟨c1,c2,?_⟩⟩
      cases x
      cases y
      simp only at c3 c4 h
      rw [c3,c4,h]
     rw [e] at hh
     simp only [Ax,↓Ba,bP]
     exact hh
    .simp only [Ax,↓Ba,bP,Aj c4]
     exact no (λh=>c4 (by rw [h.2.2])) (cU.nx (by omega))
   .simp only [Ax,↓Ba,bP,Aj c3]
    exact no (λh=>c3 (by rw [h.2.2])) (cU.nx (by omega))
  .simp only [Ax,↓Ba,bP,show decide (¬ Mo y=0)=true by simp [c2]]
   exact no (λh=>c2 h.2.1) cU
 .simp only [Ax,↓Ba,bP,show decide (¬ Mo x=0)=true by simp [c1]]
  exact no (λh=>c1 h.1) gW
end
end Go.DD

/- Plain: Delta and Apply, there and back. -/
namespace Go.DD
open Go Go.Proofs Go.Sort
theorem B92{x y:PArr}(hx:Mo x=0)(hy:Mo y=0):Po (Sj (Hy [x.cells,y.cells])) x.cells=y.cells:=by
 have hA:=(iK hx).1
 have hB:=(iK hy).1
 obtain ⟨d1,d2⟩:=B09 hA hB
 refine Bm7 (tp d1 hA) hB λe=>?_
 rw [TS d1 hA e]
 constructor
 .rintro (⟨h1,h2⟩ | ⟨h1,h2⟩)
  .have hs:Th x.cells e.pos=Th y.cells e.pos:=Decidable.byContradiction λHa=>h2 ⟨e.pos,Th y.cells e.pos⟩ ((d2 _).2 ⟨⟨e,.inl h1,rfl⟩,Ha,rfl⟩) rfl
   rw [Bb9 hA h1] at hs
   have:=uz (A:=y.cells) (p:=e.pos) (by rw [<- hs];exact C9 hx e h1)
   rw [<- hs] at this
   exact this
  .obtain ⟨_,_,h3⟩:=(d2 e).1 h1
   have:=uz (A:=y.cells) (p:=e.pos) (by rw [<- h3];exact h2)
   rw [<- h3] at this
   exact this
 .intro h
  have hs:=Bb9 hB h
  have hv:=C9 hy e h
  by_cases c:Th x.cells e.pos=Th y.cells e.pos
  .refine .inl ⟨?_,λc' Kz he=>?_⟩
   .have:=uz (A:=x.cells) (p:=e.pos) (by rw [c,hs];exact hv)
    rw [c,hs] at this
    exact this
   .obtain ⟨_,h3,_⟩:=(d2 c').1 Kz
    rw [he] at h3
    exact h3 c
  .exact .inr ⟨(d2 e).2 ⟨⟨e,.inr h,rfl⟩,c,hs.symm⟩,hv⟩
end Go.DD

/- VersionDeltas returns true: as a contract. Conditions: none. -/
namespace Go.DD
open Go Go.Proofs
end Go.DD

/- VersionBack returns true: as a contract. Conditions: none. -/
namespace Go.DD
open Go Go.Proofs Go.Sort
theorem jI{hp:Tr DObj}{p:Nat->Prop}{x1 x2 x3:DV}{X:PArr}{e:Int}(v1:RL rDim hp p x1 X.dims)(v2:RL rAttr hp p x2 X.attrs)(v3:RL rCell hp p x3 X.cells):Fv hp (.tup [.agg [x1,x2,x3],iv e]) 0=some (.agg [x1,x2,x3]):=C1 λid hid=>by
 have:id∈x1.refs\/id∈x2.refs\/id∈x3.refs:=by simpa [DV.refs,DV.refsL,iv] using hid
 rcases this with h1 | h1 | h1
 .exact (v1.refs id h1).2
 .exact (v2.refs id h1).2
 .exact (v3.refs id h1).2
end Go.DD

/- Contracts: the reference's change and Changes. Conditions: those that each theorem states. -/
namespace Go.DD
open Go Go.Proofs Go.Sort
section
variable (k n0:Nat) (hp:Tr DObj) (nx:Nat) (K:DV->Tr DObj->Nat->Prop)
end
end Go.DD

/- Contracts: the reference's Changes. Conditions: those that each theorem states. -/
namespace Go.DD
open Go Go.Proofs Go.Sort
section
variable (k n0:Nat)
end
end Go.DD

/- Contracts: the reference's Put of a cell at a new place. Conditions: those that each theorem states. -/
namespace Go.DD
open Go Go.Proofs Go.Sort
section
variable (k:Nat) (hp:Tr DObj) (nx:Nat) (K:DV->Tr DObj->Nat->Prop)
end
end Go.DD

/- Contracts: the reference's With. Conditions: those that each theorem states. -/
namespace Go.DD
open Go Go.Proofs Go.Sort
end Go.DD

/- Contracts: the reference's With. Conditions: those that each theorem states. -/
namespace Go.DD
open Go Go.Proofs Go.Sort
section
variable (k:Nat) (hp:Tr DObj) (nx:Nat) (K:DV->Tr DObj->Nat->Prop)
end
end Go.DD

/- Plain: the changes made one after the other are the changes laid over. -/
namespace Go.DD
open Go Go.Proofs Go.Sort
end Go.DD

/- Contracts: the reference's Copy. Conditions: those that each theorem states. -/
namespace Go.DD
open Go Go.Proofs
section
variable (k n0:Nat) (hp:Tr DObj) (nx:Nat) (K:DV->Tr DObj->Nat->Prop)
end
end Go.DD

/- Contracts: the reference's Apply. Conditions: those that each theorem states. -/
namespace Go.DD
open Go Go.Proofs Go.Sort
section
variable (k n0:Nat) (hp:Tr DObj) (nx:Nat) (K:DV->Tr DObj->Nat->Prop)
end
end Go.DD

/- Contracts: which changes are few. Conditions: those that each theorem states. -/
namespace Go.DD
open Go Go.Proofs
section
variable (k n0:Nat) (hp:Tr DObj) (nx:Nat) (K:DV->Tr DObj->Nat->Prop)
end
end Go.DD

/- The tree of versions: what it reads as. Conditions: those that each theorem states. -/
namespace Go.DD
open Go Go.Proofs Go.Sort
structure PNode where
 chg:List PCell
 par:List Int
 gone:Bool
 deriving Inhabited
def CN:Rep Bool:=Zw 1 4 (λb=>[bv b]) (by decide) (λ_=>rfl) λx c h=>by
 obtain rfl:=Am.1 h
 exact EI x
def YC:Rep (List PCell):=Sc rChange 27
def rNode:Rep PNode:=iN (iN YC Qh 0 PNode.chg PNode.par) CN 136 id PNode.gone
theorem rNode_rd{hp:Tr DObj}{p:Nat->Prop}{ds:List DV}{x:PNode} : rNode.rd hp p ds x↔∃ a b,ds=[a,b,bv x.gone]/\RL rChange hp p a x.chg/\RL rInt hp p b x.par:=by
 constructor
 .rintro ⟨_,_,rfl,⟨_,_,rfl,⟨a,rfl,h1⟩,⟨b,rfl,h2⟩⟩,rfl⟩
  exact ⟨a,b,rfl,h1,h2⟩
 .rintro ⟨a,b,rfl,h1,h2⟩
  exact ⟨_,_,rfl,⟨_,_,rfl,⟨a,rfl,h1⟩,⟨b,rfl,h2⟩⟩,rfl⟩
section
variable {hp Ao:Tr DObj} {p:Nat->Prop} {d:DV}
theorem wi{l:List PNode}(h:RL rNode hp p d l){i:Nat}(hi:i<l.length):∃ a b,RL rChange hp p a l[i].chg/\RL rInt hp p b l[i].par/\Gl hp (some 3) (Ca 3 d i)=some (.agg [a,b,bv l[i].gone])/\Gl hp none (Ca 3 d i)=some a/\Gl hp none (Gi (Ca 3 d i) 0)=some a/\Gl hp none (Gi (Ca 3 d i) 1)=some b/\Gl hp none (Gi (Ca 3 d i) 2)=some (bv l[i].gone):=by
 obtain ⟨ds,hr,h1,h0,h2⟩:=h.at hi
 obtain ⟨a,b,rfl,h3,h4⟩:=rNode_rd.1 hr
 exact ⟨a,b,h3,h4,h1,h0 _ rfl,h2 0 _ rfl,h2 1 _ rfl,h2 2 _ rfl⟩
theorem lF{id k:Nat}{o:DObj}(h:hp.get id=some o):On hp k (.pt id 0)=some (.pt id k):=by
 rw [Qq h,Cp]
structure PVer where
 cells:List PCell
 par:List Int
 deriving Inhabited
structure PTree where
 dims:List PDim
 attrs:List PAttr
 vers:List PVer
 heads:List (ByteArray×Int)
end
end Go.DD

/- What can be written in an own array's cells. Conditions: those that each theorem states. -/
namespace Go.DD
open Go Go.Proofs
section
variable {hp Ao:Tr DObj} {p:Nat->Prop} {d:DV} {n:Nat}
theorem GQ{id off n e i:Nat}{o:DObj}(h:hp.get id=some o)(hi:i<n):Rr hp e (.ms id off n e) (.v (.int .i64 (i:Int)))=some (.pt id (off+i*e)):=by
 show (if mL hp id=true/\0<=(i:Int)/\(i:Int)<(n:Int) then some (DV.pt id (off+(i:Int).toNat*e)) else none)=_
 rw [Af ⟨by unfold mL;rw [h];rfl,by omega,by omega⟩];rfl
theorem Qi{id off T:Nat}{fl:List DV}{c:DV}(h:hp.get id=some (.row T fl))(hc:fl[off]?=some c):Gl hp none (.pt id off)=some c:=by rw [Ro h];exact wo hc
end
end Go.DD
