/- A part. -/
import Derived.Test.YtnphfnhhpcelbaaGreatYo
import Derived.Test.YtnphfnhhpcelbaaGreatYr
import Derived.Sort.AssemblyPlain
import Derived.Test.YtnphfnhhpcelbaaGreatYl
set_option linter.unusedSectionVars false
set_option linter.unusedVariables false
namespace Go.DD
open Go Go.Proofs
theorem Rows.setE{α:Type}{R:Rep α}{hp:Tr DObj}{p:Nat->Prop}{v:List DV}{y:α}(hv:R.rd hp p v y):∀ {l:List α} {fl:List DV} (i:Nat),i<l.length->Rows R hp p fl l->Rows R hp p (fl.take (i*R.e)++v++fl.drop (i*R.e+R.e)) (l.set i y)
 | [],_,_,hi,_=>by simp at hi
 | _::l,_,0,_,⟨a,b,e,h1,h3⟩=>by
  subst e
  refine ⟨v,b,?_,hv,h3⟩
  rw [Nat.zero_mul,Df,List.take_zero,By,List.drop_left' (R.len h1)]
 | x::l,_,i+1,hi,⟨a,b,e,h1,h3⟩=>by
  subst e
  have h4:=h3.setE hv i (by simpa using hi)
  refine ⟨a,b.take (i*R.e)++v++b.drop (i*R.e+R.e),?_,h1,h4⟩
  have e1:(i+1)*R.e=R.e+i*R.e:=by rw [Dq,Mt,Wo]
  rw [e1,List.take_append,List.drop_append,R.len h1,Bq (by rw [R.len h1];omega),Wq (by rw [R.len h1];omega),show R.e+i*R.e-R.e=i*R.e by omega,show R.e+i*R.e+R.e-R.e=i*R.e+R.e by omega,By,Bv,Bv,Bv]
section
variable {call:Bg} {es:ES} {dst:Option Pa} {q:Hold (ES->Prop)}
theorem Ck9{α:Type}{R:Rep α}{p:Nat->Prop}{a x:EO}{id i n:Nat}{v:List DV}{l:List α}{y:α}(ea:Ad es a=.pt id (i*R.e))(ho:OL R es.hp p (.ms id 0 n R.e) l)(ev:My es x=.agg v)(hv:R.rd es.hp p v y)(hi:i<l.length)(Nr:¬ p id)
  (h:∀ An,OL R An p (.ms id 0 n R.e) (l.set i y)->(∀ j,j≠id->An.get j=es.hp.get j)->q.val ((ES.mk es.sl An es.nx).putE dst .any)) :
  Na (sU dst (Is R.e a x)) call es:=by
 obtain ⟨hn,_,fl,hg,hr⟩:=ho.get
 have hl:=hr.len
 have hb:i*R.e+R.e<=fl.length:=by
  rw [hl]
  have:=Cz R.e hi
  rw [Nat.succ_mul] at this;exact this
 show SW _ _ _ _
 rw [mH,ea,mL,hg,ev,H4 id (i*R.e) R.e (.agg v) R.T fl rfl (R.len hv) hb,T7]
 show q.val ((es.up (.wr id (.row R.T (fl.take (i*R.e)++v++fl.drop (i*R.e+R.e))))).putE dst .any)
 refine h (es.up (.wr id (.row R.T (fl.take (i*R.e)++v++fl.drop (i*R.e+R.e))))).hp ?_ λj hj=>by rw [Ld,get_set,Ae hj]
 have tK:=(hr.setE hv i hi).keep (An:=(es.up (.wr id (.row R.T (fl.take (i*R.e)++v++fl.drop (i*R.e+R.e))))).hp) λj hj=>by rw [Ld,get_set,Ae (show ¬ j=id from λe=>Nr (e ▸ hj))]
 have:=OL.ms (R:=R) (p:=p) id _ (l.set i y) (by rw [Ld,get_set,Af rfl]) tK
 rw [Mg,<- hn] at this
 exact this
end
def Yh(x y:PCell):Bool:=decide (Cs x.pos y.pos<0)
theorem swoC:Go.Sort.SWO Yh where
 irrefl x:=by unfold Yh;rw [eO];rfl
 trans x y z h1 h2:=by
  unfold Yh at *
  have h1:=En h1
  have h2:=En h2
  have e1:=kZ x.pos y.pos
  have e2:=kZ y.pos z.pos
  have:=mC (show Cs x.pos y.pos = -1 by omega) (show Cs y.pos z.pos = -1 by omega)
  exact Ak (by omega)
 ntrans x y z h1 h2:=by
  unfold Yh at *
  have h1:=Jk h1
  have h2:=Jk h2
  refine Ah λh3=>?_
  have e1:=kZ x.pos y.pos
  have e2:=kZ y.pos z.pos
  have e3:=kZ x.pos z.pos
  have:=Bz8 (a:=z.pos) (b:=y.pos) (c:=x.pos) (by rw [uU];omega) (by rw [uU];omega)
  rw [uU] at this
  omega
structure SR (hp:Tr DObj) (n0 id n:Nat) (d:Array PCell):Prop where
 o:OL rChange hp (λj=>j<n0/\j≠id) (.ms id 0 n 2) d.toList
 h:id<n0
 b:∀ c∈d.toList,c.pos.length<900000
 s:d.size<100000
theorem SR.n{hp:Tr DObj}{n0 id n:Nat}{d:Array PCell}(h:SR hp n0 id n d):n=d.size:=h.o.get.1
theorem SR.rl{hp:Tr DObj}{n0 id n:Nat}{d:Array PCell}(h:SR hp n0 id n d):RL rChange hp (Bl n0) (.ms id 0 n 2) d.toList:=h.o.rl.mono λj hj=>by
 rcases hj with hj | hj
 .exact hj.1
 .have:j=id:=by simpa [DV.refs] using hj
  have:=h.h
  show j<n0
  omega
theorem SR.keep{hp An:Tr DObj}{n0 id n:Nat}{d:Array PCell}(h:SR hp n0 id n d)(hk:∀ j,j<n0->An.get j=hp.get j):SR An n0 id n d:=⟨h.o.keep λj hj=>hk j (by
 rcases hj with hj | hj
 .exact hj.1
 .have:j=id:=by simpa [DV.refs] using hj
  have:=h.h
  omega),h.h,h.b,h.s⟩
theorem SR.get{hp:Tr DObj}{n0 id n:Nat}{d:Array PCell}(h:SR hp n0 id n d):∃ fl,hp.get id=some (.row rChange.T fl):=let ⟨_,_,fl,hg,_⟩:=h.o.get;⟨fl,hg⟩
theorem Bq3{d:Array PCell}{i j:Nat}(hi:i<d.size)(hj:j<d.size):(Go.Sort.swp d i j).toList=(d.toList.set i d.toList[j]).set j d.toList[i]:=by
 unfold Go.Sort.swp
 rw [La d i hi,La d j hj]
 simp
theorem SR.at{hp:Tr DObj}{n0 id n:Nat}{d:Array PCell}(h:SR hp n0 id n d){i:Nat}(hi:i<d.size):∃ a b,RL rInt hp (λj=>j<n0/\j≠id) a d[i]!.pos/\RL rVal hp (λj=>j<n0/\j≠id) b d[i]!.vals/\Fy hp (some 2) (.pt id (i*2))=some (.agg [a,b]):=by
 obtain ⟨hn,_,fl,hg,hr⟩:=h.o.get
 have Wj:i<d.toList.length:=by simpa using hi
 obtain ⟨rest,e1,h2⟩:=hr.at Wj
 obtain ⟨a,b,e2,h3,h4⟩:=rChange_rd.1 h2
 rw [La d i hi]
 refine ⟨a,b,by simpa using h3,by simpa using h4,?_⟩
 have kJ:fl.drop (i*2)=[a,b]++rest:=by
  have e3:(fl.drop (i*2)).take 2=[a,b]:=e2
  have e4:fl.drop (i*2)=(fl.drop (i*2)).take 2++rest:=e1
  rw [e4,e3]
 rw [Qz hg,kJ]
 rfl
theorem xe(id n i:Nat):Bz 2 (.ms id 0 n 2) i=.pt id (i*2):=by show DV.pt id (0+i*2)=_;rw [Df]
def Mr:DV:=.fn (.func 126) [.tup []]
theorem Cs3{f:Nat->Bool} : Hh Mr f↔True:=OP (by simp [Mr,DV.refs,DV.refsL])
theorem B12(hp:Tr DObj):Cg hp Mr=Mr:=dW (by simp [Mr,DV.refs,DV.refsL])
section
variable (k n0:Nat) (hp:Tr DObj) (nx:Nat) (K:DV->Tr DObj->Nat->Prop)
theorem Cs4(p v q w:DV)(c e:PCell)(hn:n0<=nx)(h1:RL rInt hp (Bl n0) p c.pos)(h2:RL rVal hp (Bl n0) v c.vals)(h3:RL rInt hp (Bl n0) q e.pos)(h4:RL rVal hp (Bl n0) w e.vals)(hl:c.pos.length<900000)
  (hK:∀ An Bm,Al hp nx An Bm->K (iv (Cs c.pos e.pos)) An Bm):KW (kN (k+5)) (.fn 126) [.agg [p,v],.agg [q,w]] hp nx K:=by
 refine Es (Hl (by decide)) YG (Ab rfl) λes e1 e2 he=>?_
 have a0:Ad es (.t .o)=.agg [p,v]:=he 0 _ rfl
 have a1:Ad es (.t (.l .o))=.agg [q,w]:=he 1 _ rfl
 unfold FT
 subst e1 e2
 simp only [↓Au]
 refine Xv (cs:=[p,v]) (by rw [Ha,a0];exact Wn h1 h2) λEi Dn Dd=>?_
 simp only [bR] at Dn Dd
 have Fk:Al es.hp es.nx Ei (es.nx+1):=⟨by omega,λj hj=>Dd j (by omega)⟩
 simp only [As,↓Au]
 refine Xv (cs:=[q,w]) (by simp only [Ha,bR,a1];exact Wn (h3.ka hn Fk) (h4.ka hn Fk)) λCw Fw Fa=>?_
 simp only [bR] at Fw Fa
 have Dh:Al es.hp es.nx Cw (es.nx+2):=⟨by omega,λj hj=>by rw [Fa j (by omega),Dd j (by omega)]⟩
 obtain ⟨⟨f0,_⟩,l0,_,_⟩:=Wl ((Fa es.nx (by omega)).trans Dn)
 obtain ⟨⟨g0,_⟩,m0,_,_⟩:=Wl Fw
 simp only [As,↓Au,f0,l0,g0,m0]
 refine Fh (F7 (k:=k) n0 _ _ _ p q _ _ (by omega) (h1.ka hn Dh) (h3.ka hn Dh) hl ?_)
 simp only [As,↓Au,bP]
 exact hK _ _ Dh
end
end Go.DD

/- Contracts: insertion sort of changes. Conditions: those that each theorem states. -/
namespace Go.DD
open Go Go.Proofs Go.Sort
structure Fr (hp:Tr DObj) (nx id:Nat) (An:Tr DObj) (Bm:Nat):Prop where
 le:nx<=Bm
 fr:∀ j,j<nx->j≠id->An.get j=hp.get j
theorem Fr.refl(hp:Tr DObj)(nx id:Nat):Fr hp nx id hp nx:=⟨Ag _,λ_ _ _=>rfl⟩
theorem Fr.trans{hp Ei Cw:Tr DObj}{nx n1 n2 id:Nat}(h1:Fr hp nx id Ei n1)(h2:Fr Ei n1 id Cw n2):Fr hp nx id Cw n2:=⟨Dz h1.le h2.le,λj hj hi=>(h2.fr j (Bs hj h1.le) hi).trans (h1.fr j hj hi)⟩
theorem Fr.up{hp Ei Cw:Tr DObj}{nx n1 n2 id:Nat}(h1:Fr hp nx id Ei n1)(hn:n1<=n2)(h2:∀ j,j<n1->j≠id->Cw.get j=Ei.get j):Fr hp nx id Cw n2:=h1.trans ⟨hn,h2⟩
theorem SR.al{hp An:Tr DObj}{n0 id n nx Bm:Nat}{d:Array PCell}(h:SR hp n0 id n d)(hn:n0<=nx)(ha:Al hp nx An Bm):SR An n0 id n d:=h.keep λj hj=>ha.same j (by omega)
theorem SR.swp{hp:Tr DObj}{n0 id n i j:Nat}{d:Array PCell}(h:SR hp n0 id n d)(hi:i<d.size)(hj:j<d.size){An:Tr DObj}(ho:OL rChange An (λj=>j<n0/\j≠id) (.ms id 0 n 2) ((d.toList.set i d[j]!).set j d[i]!)):SR An n0 id n (swp d i j):=by
 have e:=Bq3 hi hj
 rw [La d i hi,La d j hj] at ho
 have e1:d.toList[i]=d[i]:=by simp
 have e2:d.toList[j]=d[j]:=by simp
 rw [e1,e2] at e
 refine ⟨by rw [e];exact ho,h.h,λc hc=>?_,by rw [size_swp];exact h.s⟩
 rw [e] at hc
 rcases Sr hc with h1 | h1
 .rcases Sr h1 with h2 | h2
  .exact h.b c h2
  .exact h.b c (by rw [h2];exact Zz.2 (Array.getElem_mem hj))
 .exact h.b c (by rw [h1];exact Zz.2 (Array.getElem_mem hi))
theorem SR.bA{hp:Tr DObj}{n0 id n i:Nat}{d:Array PCell}(h:SR hp n0 id n d)(hi:i<d.size):d[i]!.pos.length<900000:=by
 rw [La d i hi]
 exact h.b _ (Zz.2 (Array.getElem_mem hi))
theorem SR.ia{hp:Tr DObj}{n0 id n i:Nat}{d:Array PCell}(h:SR hp n0 id n d)(hi:i<d.size):Qu hp 2 (.ms id 0 n 2) (.v (.int .i64 (i:Int)))=some (Bz 2 (.ms id 0 n 2) i):=D9 h.rl (by simpa using hi)
theorem SR.rox{hp:Tr DObj}{n0 id n nx m:Nat}{d:Array PCell}{an:List Nat}(h:SR hp n0 id n d)(hn:n0<=nx):Cp nx m an hp id=true:=by
 obtain ⟨fl,hg⟩:=h.get
 have:=h.h
 exact Lp hg (by omega)
theorem Rx{n0 id:Nat} : ∀ j,(λj=>j<n0/\j≠id) j->Bl n0 j:=λ_ h=>h.1
theorem HL{x y:PCell}(h:Cs x.pos y.pos<0):Yh x y=true:=Ak h
theorem HM{x y:PCell}(h:¬ Cs x.pos y.pos<0):Yh x y=false:=Ah h
theorem xd{i:Nat}(h:i<9000000000000):Dm .sub (.v (.int .i64 ((i+1:Nat):Int))) (.v (.int .i64 1))=some (.v (.int .i64 (i:Int))):=by rw [Lo,Ej (by omega)];congr 3;omega
theorem Ca2{n0 m i:Nat}{an refs lo:List Nat}{ws:List Look}{ps:List Past}{id:Nat}(hr:∀ j∈refs,j=id)(hid:id<n0)(hp:∀ p∈ps,(p.a.get id).isSome=true/\(p.b.get id).isSome=true)(h2:Pl n0 m ws ps=true):Pl n0 m (Gg i an true false refs n0 lo ws) ps=true:=
 rT (λj hj=>by
  rw [hr j hj]
  refine ⟨hid,λp An=>.inr (.inr ?_)⟩
  obtain ⟨h3,h4⟩:=hp p An
  rw [Ae (by simp)]
  show (((p.a.get id).isSome)==((p.b.get id).isSome))=true
  rw [h3,h4];rfl) h2
theorem C37(id n:Nat):∀ j∈(DV.ms id 0 n 2).refs,j=id:=λj hj=>by simpa [DV.refs] using hj
section
variable (k n0:Nat) (hp:Tr DObj) (nx:Nat) (K:DV->Tr DObj->Nat->Prop)
theorem C38(id n a b:Nat)(d:Array PCell)(hn:n0<=nx)(hs:SR hp n0 id n d)(hb:b<=d.size)(ha:a<=d.size)
  (hK:∀ An Bm,Fr hp nx id An Bm->SR An n0 id n (insertionSort Yh d a b)->K (.tup []) An Bm):KW (kN (k+6)) (.fn 203) [.ms id 0 n 2,iv a,iv b,Mr] hp nx K:=by
 refine Sf (Hl (by decide)) CT (Ab rfl) λes e1 e2 he=>?_
 have a0:Ad es (.t .o)=.ms id 0 n 2:=he 0 _ rfl
 have a1:Ad es (.t (.l .o))=iv a:=he 1 _ rfl
 have a2:Ad es (.t (.r .o))=iv b:=he 2 _ rfl
 have a3:Ad es (.t (.l (.l .o)))=Mr:=he 3 _ rfl
 unfold I5
 subst e1 e2
 have Hj:=hs.s
 simp only [As,↓Au,a1,Hz (show a<_ by omega)]
 refine EW.up (b-(a+1)) (λt Ai=>∃ d1,Fr es.hp es.nx id Ai.hp Ai.nx/\SR Ai.hp n0 id n d1/\d1.size=d.size/\insOuter Yh a b (a+1+t) d1=insertionSort Yh d a b/\Ad Ai (.t .o)=.ms id 0 n 2/\Ad Ai (.t (.l .o))=iv a/\Ad Ai (.t (.r .o))=iv b/\Ad Ai (.t (.l (.l .o)))=Mr/\Ad Ai (.t (.r (.l (.l .o))))=iv ((a+1+t:Nat))) ?_ ?_ (by omega)
 .rintro t Ai ht ⟨d1,g,Mi,jZ,he,b0,b1,b2,b3,b8⟩
  unfold xf
  have hle:=g.le
  by_cases h:t<b-(a+1)
  .have jl:a+1+t<b:=by omega
   rw [insOuter,Af jl] at he
   simp only [As,↓Au,b2,b8,jl]
   generalize hi:a+1+t=i at he jl b8
   refine EW.l (I:=λm Cd=>∃ d2,m<=i/\Fr es.hp es.nx id Cd.hp Cd.nx/\SR Cd.hp n0 id n d2/\d2.size=d.size/\insInner Yh a m d2=insInner Yh a i d1/\Ad Cd (.t .o)=.ms id 0 n 2/\Ad Cd (.t (.l .o))=iv a/\Ad Cd (.t (.r .o))=iv b/\Ad Cd (.t (.l (.l .o)))=Mr/\Ad Cd (.t (.r (.l (.l .o))))=iv (i:Nat)/\Ad Cd (.t (.l (.r (.l .o))))=iv (m:Nat)) ?_ i 1000000 _ ?_ (by omega)
   .rintro m Cd ⟨d2,hm,g2,Uj,rF,lM,x0,x1,x2,x3,x8,x9⟩
    unfold Ck8
    have Gu:=g2.le
    by_cases hma:a<m
    .obtain ⟨j,rfl⟩:∃ j,m=j+1:=⟨m-1,by omega⟩
     obtain ⟨pA,vA,Sn,Tv,lA⟩:=Uj.at (show j+1<d2.size by omega)
     obtain ⟨pB,vB,bB,aZ,lB⟩:=Uj.at (show j<d2.size by omega)
     have I1:=Sn.mono (Rx (id:=id))
     have mP:=Tv.mono (Rx (id:=id))
     have eX:=bB.mono (Rx (id:=id))
     have eW:=aZ.mono (Rx (id:=id))
     simp only [As,↓Au,x0,x1,x3,x9,hma,xd (show j<_ by omega),Uj.ia (show j+1<d2.size by omega),Uj.ia (show j<d2.size by omega),lA,lB,Uj.rox (m:=17) (show n0<=Cd.nx by omega),xe,Cs3]
     refine ⟨⟨Kb (I1.rox (by omega)) (mP.rox (by omega)),Kb (eX.rox (by omega)) (eW.rox (by omega))⟩,?_⟩
     refine Ly rfl (T3 (f:=126) (fs:=[]) (cs:=[]) (by rw [Ha];simp only [bR];exact B12 _) ?_)
     simp only [bR,Am,Az,Da,By]
     refine Cs4 k n0 _ _ _ pA vA pB vB d2[j+1]! d2[j]! (by omega) I1 mP eX eW (Uj.bA (show j+1<d2.size by omega)) λGn Dy Ev=>?_
     have Iw:=Ev.le
     have Ui:=Uj.al (nx:=Cd.nx+17) (by omega) Ev
     have g3:Fr es.hp es.nx id Gn Dy:=g2.up (by omega) λj hj _=>Ev.same j (by omega)
     rw [insInner] at lM
     by_cases hc:Cs d2[j+1]!.pos d2[j]!.pos<0
     .rw [Af (by rw [HL hc];simp;omega)] at lM
      obtain ⟨pA,vA,Sn,Tv,lA⟩:=Ui.at (show j+1<d2.size by omega)
      obtain ⟨pB,vB,bB,aZ,lB⟩:=Ui.at (show j<d2.size by omega)
      have I1:=Sn.mono (Rx (id:=id))
      have mP:=Tv.mono (Rx (id:=id))
      have eX:=bB.mono (Rx (id:=id))
      have eW:=aZ.mono (Rx (id:=id))
      simp only [As,↓Au,x0,x9,Iw,Ak hc,xd (show j<_ by omega),Ui.ia (show j+1<d2.size by omega),Ui.ia (show j<d2.size by omega),lA,lB,Ui.rox (m:=18) (show n0<=Dy by omega),xe]
      refine ⟨Kb (eX.rox (by omega)) (eW.rox (by omega)),?_⟩
      refine Ly rfl (Ck9 (R:=rChange) (i:=j+1) (n:=n) (id:=id) (v:=[pB,vB]) (y:=d2[j]!) (p:=λj=>j<n0/\j≠id) (by simp only [bR];rfl) Ui.o (by simp only [Ha,bR];exact Wn bB aZ) (rChange_rd.2 ⟨pB,vB,rfl,bB,aZ⟩) (by simp;omega) (λh=>h.2 rfl) λFq qV Fl=>?_)
      simp only [bR] at Fl
      obtain ⟨_,_,fl4,Kf,_⟩:=qV.get
      have KR:=Ui.h
      have I0:=Sn.keep (An:=Fq) λj hj=>Fl j hj.2
      have H9:=Tv.keep (An:=Fq) λj hj=>Fl j hj.2
      have i4:Qu Fq 2 (.ms id 0 n 2) (.v (.int .i64 (j:Int)))=some (Bz 2 (.ms id 0 n 2) j):=D9 qV.rl (by simp;omega)
      simp only [As,↓Au,i4,xe,Lp (n0:=Dy) (m:=18) Kf (show id<Dy by omega)]
      refine ⟨Kb ((I0.mono (Rx (id:=id))).rox (by omega)) ((H9.mono (Rx (id:=id))).rox (by omega)),?_⟩
      refine Ly rfl (Ck9 (R:=rChange) (i:=j) (n:=n) (id:=id) (v:=[pA,vA]) (y:=d2[j+1]!) (p:=λj=>j<n0/\j≠id) (by simp only [bR];rfl) qV (by simp only [Ha,bR];exact Wn I0 H9) (rChange_rd.2 ⟨pA,vA,rfl,I0,H9⟩) (by simp;omega) (λh=>h.2 rfl) λGr ho5 Jd=>?_)
      simp only [bR] at Jd
      have tJ:=Ui.swp (show j+1<d2.size by omega) (show j<d2.size by omega) ho5
      simp only [As,↓Au,x0,x1,x2,x3,x8,x9,xd (show j<_ by omega)]
      obtain ⟨fl3,Kv⟩:=Ui.get
      obtain ⟨fl5,Qw⟩:=tJ.get
      refine ⟨Ca2 (C37 id n) (by omega) (λp hp=>?_) rfl,j,by omega,_,by omega,⟨by have:=g3.le;omega,λq hq fy=>by rw [Jd q fy,Fl q fy,g3.fr q hq fy]⟩,tJ,by rw [size_swp,rF],lM,rfl⟩
      simp only [Ap,Cm,or_false] at hp
      rcases hp with rfl | rfl
      .exact ⟨by rw [Kf];rfl,by rw [Qw];rfl⟩
      .exact ⟨by rw [Kv];rfl,by rw [Kf];rfl⟩
     .rw [Ae (by rw [HM hc];simp)] at lM
      simp only [As,↓Au,x0,x1,x2,x3,x8,Iw,Ah hc,Hz (show i<_ by omega)]
      exact ⟨h,d2,g3,Ui,rF,by rw [<- he,<- lM,<- hi];rfl,by rw [<- hi];rfl⟩
    .simp only [As,↓Au,x0,x1,x2,x3,x8,x9,hma]
     have he3:d2=insInner Yh a i d1:=by
      rw [<- lM]
      cases m with
      | zero=>rfl
      | succ j=>rw [insInner,Ae (by simp;omega)]
     rw [<- he3] at he
     simp only [As,Hz (show i<_ by omega)]
     exact ⟨h,d2,g2.up (by omega) λ_ _ _=>rfl,Uj,rF,by rw [<- he,<- hi];rfl,by rw [<- hi];rfl⟩
   .simp only [As,b0,b1,b2,b3,b8]
    exact ⟨d1,g,Mi,jZ,rfl⟩
  .rw [insOuter,Ae (by omega)] at he
   simp only [As,↓Au,b2,b8,show ¬ a+1+t<b by omega]
   exact hK _ _ g (he ▸ Mi)
 .simp only [As,a0,a1,a2,a3]
  exact ⟨d,Fr.refl _ _ _,hs,rfl,rfl⟩
end
end Go.DD

/- Contracts: the heap's sift of changes. Conditions: those that each theorem states. -/
namespace Go.DD
open Go Go.Proofs Go.Sort
section
variable (k n0:Nat) (hp:Tr DObj) (nx:Nat) (K:DV->Tr DObj->Nat->Prop)
end
end Go.DD

/- Contracts: heap sort of changes; a range is turned round. Conditions: those that each theorem states. -/
namespace Go.DD
open Go Go.Proofs Go.Sort
theorem NU(t:Nat)(h:t<9000000000000):Dm .sub (.v (.int .i64 (t:Int))) (.v (.int .i64 1))=some (.v (.int .i64 ((t:Int)-1))):=by rw [Lo,Ej (by omega)]
section
variable (k n0:Nat) (hp:Tr DObj) (nx:Nat) (K:DV->Tr DObj->Nat->Prop)
end
end Go.DD

/- Contracts: a range of changes is turned round; two and three places are compared. Conditions: those that each theorem states. -/
namespace Go.DD
open Go Go.Proofs Go.Sort
def aH:DV->Option DV
 | .ia cs=>some (.ia cs)
 | .pt id off=>some (.pt id off)
 | .fn (.func f) cs=>some (.fn (.func f) cs)
 | .ifc T d=>some (.ifc T d)
 | _=>none
theorem yP(x:Operand)(es:ES)(nid:Nat):Bi (.nck x) es nid=Ip (aH (es.ds.ev x)):=by
 rw [Ft];simp only [Ba]
 cases es.ds.ev x with
 | fn f cs=>cases f <;> rfl
 | _=>rfl
theorem Zt{dst:Option Pa}{x:Operand}{call:Bg}{es:ES}{Q:ES->Prop} : SW (sU dst (Bi (.nck x))) call es Q↔XW (aH (es.ds.ev x)) λd=>Q (es.putE dst d):=aC (yP x)
theorem AM(x:Operand)(nid:Nat)(es:ES):Fu (Bi (.nck x)) nid es=aH (es.ds.ev x):=eQ (X:=λes=>aH (es.ds.ev x)) (yP x) nid
theorem eJ(id off:Nat):aH (.pt id off)=some (.pt id off):=rfl
theorem D8(t:Nat)(h:t<9000000000000)(h0:0<t):Dm .sub (.v (.int .i64 (t:Int))) (.v (.int .i64 1))=some (.v (.int .i64 ((t-1:Nat):Int))):=by rw [NU _ h];congr 3;omega
section
variable (k n0:Nat) (hp:Tr DObj) (nx:Nat) (K:DV->Tr DObj->Nat->Prop)
end
end Go.DD

/- Contracts: the scans of the partitions of changes. Conditions: those that each theorem states. -/
namespace Go.DD
open Go Go.Proofs Go.Sort
section
variable (k n0:Nat)
end
end Go.DD

/- Contracts: the two partitions of changes. Conditions: those that each theorem states. -/
namespace Go.DD
open Go Go.Proofs Go.Sort
section
variable (k n0:Nat)
end
end Go.DD

/- Contracts: partition and partitionEqual of changes. Conditions: those that each theorem states. -/
namespace Go.DD
open Go Go.Proofs Go.Sort
section
variable (k n0:Nat) (hp:Tr DObj) (nx:Nat) (K:DV->Tr DObj->Nat->Prop)
end
end Go.DD

/- Contracts: partial insertion sort of changes. Conditions: those that each theorem states. -/
namespace Go.DD
open Go Go.Proofs Go.Sort
section
variable (k n0:Nat)
end
section
variable (k n0:Nat) (hp:Tr DObj) (nx:Nat) (K:DV->Tr DObj->Nat->Prop)
end
end Go.DD

/- Contracts: bits.Len, nextPowerOfTwo, xorshift, breakPatterns. Conditions: those that each theorem states. -/
namespace Go.DD
open Go Go.Proofs Go.Sort
set_option maxRecDepth 100000
def eR:List UInt8:=[0,1,2,2,3,3,3,3,4,4,4,4,4,4,4,4,5,5,5,5,5,5,5,5,5,5,5,5,5,5,5,5,6,6,6,6,6,6,6,6,6,6,6,6,6,6,6,6,6,6,6,6,6,6,6,6,6,6,6,6,6,6,6,6,7,7,7,7,7,7,7,7,7,7,7,7,7,7,7,7,7,7,7,7,7,7,7,7,7,7,7,7,7,7,7,7,7,7,7,7,7,7,7,7,7,7,7,7,7,7,7,7,7,7,7,7,7,7,7,7,7,7,7,7,7,7,7,7,8,8,8,8,8,8,8,8,8,8,8,8,8,8,8,8,8,8,8,8,8,8,8,8,8,8,8,8,8,8,8,8,8,8,8,8,8,8,8,8,8,8,8,8,8,8,8,8,8,8,8,8,8,8,8,8,8,8,8,8,8,8,8,8,8,8,8,8,8,8,8,8,8,8,8,8,8,8,8,8,8,8,8,8,8,8,8,8,8,8,8,8,8,8,8,8,8,8,8,8,8,8,8,8,8,8,8,8,8,8,8,8,8,8,8,8,8,8,8,8,8,8,8,8,8,8,8,8]
theorem Cs5:∀ x,(h:x<256)->(eR[x]'(by simpa [eR] using h)).toNat=bitsLen x:=by decide +kernel
theorem sw_kix{dst:Option Pa}{v:Value}{y:Operand}{call:Bg}{es:ES}{Q:ES->Prop} : SW (sU dst (Bi (.ixs (.const v) y))) call es Q↔XW (Ra (Qf v) (es.ds.ev y)) λd=>Q (es.putE dst d):=aC (yR (.const v) y)
theorem Cs6{x:Nat}{d:DV}(hx:x<256)(hd:d=ub x){K:DV->Prop}(h:K (ub (bitsLen x))):XW (Ra (Qf (.string (bs [0,1,2,2,3,3,3,3,4,4,4,4,4,4,4,4,5,5,5,5,5,5,5,5,5,5,5,5,5,5,5,5,6,6,6,6,6,6,6,6,6,6,6,6,6,6,6,6,6,6,6,6,6,6,6,6,6,6,6,6,6,6,6,6,7,7,7,7,7,7,7,7,7,7,7,7,7,7,7,7,7,7,7,7,7,7,7,7,7,7,7,7,7,7,7,7,7,7,7,7,7,7,7,7,7,7,7,7,7,7,7,7,7,7,7,7,7,7,7,7,7,7,7,7,7,7,7,7,8,8,8,8,8,8,8,8,8,8,8,8,8,8,8,8,8,8,8,8,8,8,8,8,8,8,8,8,8,8,8,8,8,8,8,8,8,8,8,8,8,8,8,8,8,8,8,8,8,8,8,8,8,8,8,8,8,8,8,8,8,8,8,8,8,8,8,8,8,8,8,8,8,8,8,8,8,8,8,8,8,8,8,8,8,8,8,8,8,8,8,8,8,8,8,8,8,8,8,8,8,8,8,8,8,8,8,8,8,8,8,8,8,8,8,8,8,8,8,8,8,8,8,8,8,8,8,8]))) d) K:=by
 subst hd
 have hl:x<(bs eR).data.toList.length:=by rw [show (bs eR).data.toList.length=256 from rfl];exact hx
 have e:=C22 (s:=bs eR) (k:=.u8) hl
 have e2:((bs eR).data.toList[x]'hl).toNat=bitsLen x:=Cs5 x hx
 rw [e2] at e
 show XW (Ra (.v (.string (bs eR))) (.v (.int .u8 (x:Int)))) K
 rw [e]
 exact ⟨_,rfl,h⟩
theorem Bb8{x:Nat}(h:x<256):bitsLen x<9:=by
 have:=(bitsLen_le_iff x 8).2 h
 omega
section
variable (k n0:Nat) (hp:Tr DObj) (nx:Nat) (K:DV->Tr DObj->Nat->Prop)
theorem Ca3(x:Nat)(hx:x<256)(hK:K (iv (bitsLen x:Nat)) hp nx):KW (kN (k+1)) (.fn 201) [.v (.int .u64 (x:Int))] hp nx K:=by
 refine Es (Hl (by decide)) XB (Ab rfl) λes e1 e2 he=>?_
 have a0:Ad es (.t .o)=.v (.int .u64 (x:Int)):=he 0 _ rfl
 unfold EL
 subst e1 e2
 have h9:=Bb8 hx
 simp only [As,↓Au,bP,a0,show ¬ (4294967296:Int)<=(x:Int) by omega,show ¬ (65536:Int)<=(x:Int) by omega,show ¬ (256:Int)<=(x:Int) by omega,C14 hx]
 refine sw_kix.2 (Cs6 hx (by simp only [ub,Dc,bP,bR];rfl) ?_)
 simp only [ub]
 simp only [As,Cp8 (k:=.u8) (show bitsLen x<_ by omega)]
 have e:Dm .add (.v (.int .i64 0)) (.v (.int .i64 ((bitsLen x:Nat):Int)))=some (.v (.int .i64 ((bitsLen x:Nat):Int))):=by
  rw [show (DV.v (.int .i64 0))=.v (.int .i64 ((0:Nat):Int)) from rfl,lW (by omega),Df]
 simp only [As,e]
 exact hK
theorem Cl0(x:Nat)(hx:x<256)(hK:K (iv (bitsLen x:Nat)) hp nx):KW (kN (k+2)) (.fn 176) [.v (.int .u64 (x:Int))] hp nx K:=by
 refine Es (Hl (by decide)) XJ (Ab rfl) λes e1 e2 he=>?_
 have a0:Ad es (.t .o)=.v (.int .u64 (x:Int)):=he 0 _ rfl
 unfold EX
 subst e1 e2
 simp only [As,↓Au,a0]
 refine Fh (Ca3 k _ _ _ x hx ?_)
 simp only [As,↓Au,bP]
 exact hK
end
end Go.DD

/- Contracts: pdqsort of changes. Conditions: those that each theorem states. -/
namespace Go.DD
open Go Go.Proofs Go.Sort
theorem MV{hp:Tr DObj}(x:Int)(w:Bool):Fb hp (.tup [iv x,bv w]) 0=some (iv x):=E4 λid hid=>by simp [DV.refs,DV.refsL] at hid
section
variable (k n0:Nat)
end
end Go.DD

/- Contracts: slices.Values, AppendSeq, Collect over changes. Conditions: those that each theorem states. -/
namespace Go.DD
open Go Go.Proofs Go.Sort
def CJ(n0:Nat)(sl:Tr DV)(L bo:Nat)(W:List PCell)(hp:Tr DObj)(nx:Nat):Prop:=
 ∃ z T,hp.get L=some (.loop ⟨13,.t sl,[7],Y6,Y5,.ready,none⟩)/\hp.get bo=some (.row T [z])/\OL rChange hp (Bl n0) z W/\(∀ j∈z.refs,n0<=j/\j<nx/\j≠L/\j≠bo)/\n0<=L/\L<nx/\n0<=bo/\bo<nx/\L≠bo/\Ad ⟨sl,.e,0⟩ (.t (.r .o))=.pt bo 0
theorem CJ.keep{n0:Nat}{sl:Tr DV}{L bo:Nat}{W:List PCell}{hp An:Tr DObj}{nx Bm:Nat}(h:CJ n0 sl L bo W hp nx)(hn:nx<=Bm)(hk:∀ j,j<nx->An.get j=hp.get j):CJ n0 sl L bo W An Bm:=by
 obtain ⟨z,T,h1,h2,h3,h4,h5,h6,h7,h8,h9,Q9⟩:=h
 refine ⟨z,T,(hk L h6).trans h1,(hk bo h8).trans h2,h3.keep λj hj=>hk j (hj.elim (λh=>?_) λh=>(h4 j h).2.1),λj hj=>?_,h5,by omega,h7,by omega,h9,Q9⟩
 .have:j<n0:=h
  omega
 .have:=h4 j hj
  exact ⟨this.1,by omega,this.2.2⟩
section
variable (k n0:Nat) (hp:Tr DObj) (nx:Nat) (K:DV->Tr DObj->Nat->Prop)
theorem B14(sl:Tr DV)(L bo:Nat)(W:List PCell)(a b:DV)(c:PCell)(hn:n0<=nx)(hJ:CJ n0 sl L bo W hp nx)(ha:RL rInt hp (Bl n0) a c.pos)(hb:RL rVal hp (Bl n0) b c.vals)(hW:W.length<900000)
  (hK:∀ An Bm,nx<=Bm->(∀ j,j<n0->An.get j=hp.get j)->CJ n0 sl L bo (W ++ [c]) An Bm->K (bv true) An Bm) :
  KW (kN (k+1)) (.yl L) [.agg [a,b]] hp nx K:=by
 obtain ⟨z,T,j1,j2,j3,j4,j5,j6,j7,j8,j9,s2⟩:=hJ
 refine nM j1 rfl rfl rfl rfl rfl ?_
 rw [show Dv 1000000 13 true Y6=vq from Cs1]
 unfold vq
 have IF:∀ hp nx,Ad ⟨Np [7] [.agg [a,b]] sl,hp,nx⟩ (.t (.l (.l (.l .o))))=.agg [a,b]:=λhp nx=>by
  show Ad ((ES.mk sl hp nx).putE (some (.l (.l (.l .o)))) (.agg [a,b])) (.t (.l (.l (.l .o))))=.agg [a,b]
  simp only [bR]
 have tD:∀ hp nx,Ad ⟨Np [7] [.agg [a,b]] sl,hp,nx⟩ (.t (.r .o))=.pt bo 0:=λhp nx=>by
  show Ad ((ES.mk sl hp nx).putE (some (.l (.l (.l .o)))) (.agg [a,b])) (.t (.r .o))=.pt bo 0
  simp only [bR]
  exact s2
 generalize Np [7] [.agg [a,b]] sl=zz at IF tD
 simp only [↓Au]
 refine Rz λEi Dn Dd=>?_
 simp only [bR] at Dn Dd
 have Ym:=ha.keep (An:=Ei) λj (hj:j<n0)=>Dd j (by omega)
 have bG:=hb.keep (An:=Ei) λj (hj:j<n0)=>Dd j (by omega)
 simp only [↓Au]
 refine Qx (n:=2) (id:=nx) (ds:=[a,b]) (by simp only [bR]) Dn (by simp only [Ha,bR,IF];exact Wn Ym bG) rfl rfl λCw Fw Fa=>?_
 simp only [bR] at Fw Fa
 simp only [As,↓Au]
 refine ⟨_,(Fa L (by omega)).trans ((Dd L (by omega)).trans j1),rfl,?_⟩
 rw [show Dv 1000000 13 true Y5=vp from Cs2]
 unfold vp
 obtain ⟨lp,aK⟩:∃ lp:DLoop,lp=⟨13,.t sl,[7],Y6,Y5,.busy,none⟩:=⟨_,rfl⟩
 have Xn:∀ j,j≠L->(Cw.set L (some (.loop lp))).get j=Cw.get j:=λj hj=>by rw [Tr.get_set,Ae (Eo hj)]
 have pE:(Cw.set L (some (.loop lp))).get L=some (.loop lp):=by rw [Tr.get_set,Af rfl]
 rw [<- aK]
 generalize Cw.set L (some (.loop lp))=hq at Xn pE ⊢
 have kq:∀ j,j<nx->j≠L->hq.get j=hp.get j:=λj hj hL=>by rw [Xn j hL,Fa j (by omega),Dd j (by omega)]
 have MM:hq.get bo=some (.row T [z]):=(kq bo j8 (Eo j9)).trans j2
 have g5:hq.get nx=some (.row 62 [a,b]):=(Xn nx (by omega)).trans Fw
 have haq:=ha.keep (An:=hq) λj (hj:j<n0)=>kq j (by omega) (by omega)
 have hbq:=hb.keep (An:=hq) λj (hj:j<n0)=>kq j (by omega) (by omega)
 have dj:=j3.keep (An:=hq) λj hj=>hj.elim (λ(h:j<n0)=>kq j (by omega) (by omega)) λh=>kq j (j4 j h).2.1 (j4 j h).2.2.1
 have l5:Fy hq (some 2) (.pt nx 0)=some (.agg [a,b]):=by rw [Qz g5];rfl
 have HQ:=Wn haq hbq
 simp only [As,↓Au,tD,qG MM,l5]
 refine eK (fl:=[a,b]) rfl (by simp only [Am,Az,Dc,bR,bP,HQ];rfl) λGn Kv Hy=>?_
 simp only [bR] at Kv Hy
 have me:=haq.keep (An:=Gn) λj (hj:j<n0)=>Hy j (by omega)
 have lu:=hbq.keep (An:=Gn) λj (hj:j<n0)=>Hy j (by omega)
 have L5:=dj.keep (An:=Gn) λj hj=>Hy j (hj.elim (λ(h:j<n0)=>by omega) λh=>by have:=(j4 j h).2.1;omega)
 simp only [As,↓Au]
 refine eL (R:=rChange) (p:=Bl n0) (p2:=Bl n0) (d:=z) (d2:=.ms (nx+1) 0 1 2) (l:=W) (m:=[c]) (by simp only [bR,bP]) L5 (by simp only [Dc,bR,bP];exact Yb Kv) (T6 (R:=rChange) (x:=c) Kv (rChange_rd.2 ⟨a,b,rfl,me,lu⟩)) rfl rfl (by rw [Bk];omega) (by decide) λFq Fl h4=>?_
 simp only [bR] at Fl h4
 have o4:=h4 (Bl n0) λj hj=>by
  have:j<n0:=hj.elim id id
  exact ⟨this,by omega,λh=>by have:=(j4 j h).1;omega⟩
 have Q0:Fq.get bo=some (.row T [z]):=by rw [Fl bo (by omega) λh=>(j4 bo h).2.2.2 rfl,Hy bo (by omega),MM]
 obtain ⟨_,_,og,lK,_⟩:=o4.get
 simp only [As,↓Au]
 refine lS (id:=bo) (off:=0) (by simp only [bR,tD]) Q0 (by simp only [Ha,bR];exact Yb lK) (bO _ _ _ _) (by simp) λGr Qw Jd=>?_
 simp only [bR] at Qw Jd
 simp only [As,↓Au]
 have mr:Gr.get L=some (.loop lp):=by rw [Jd L j9,Fl L (by omega) λh=>(j4 L h).2.2.1 rfl,Hy L (by omega),pE]
 have k6:∀ j,j≠L->(Gr.set L (some (.loop { lp with st:=.ready,pend:=none }))).get j=Gr.get j:=λj hj=>by rw [Tr.get_set,Ae (Eo hj)]
 refine ⟨lp,mr,hK _ _ (by omega) (λj hj=>?_) ⟨_,T,by rw [Tr.get_set,Af rfl,aK],(k6 bo (Eo j9)).trans Qw,o4.keep λj hj=>?_,λj hj=>?_,j5,by omega,j7,by omega,j9,s2⟩⟩
 .rw [k6 j (by omega),Jd j (by omega),Fl j (by omega) λh=>by have:=(j4 j h).1;omega,Hy j (by omega),kq j (by omega) (by omega)]
 .have Tx:j≠bo/\j≠L:=hj.elim (λ(h:j<n0)=>⟨by omega,by omega⟩) λh=>by
   have:j=nx+1+1:=by simpa [DV.refs] using h
   exact ⟨by omega,by omega⟩
  rw [k6 j Tx.2,Jd j Tx.1]
 .have:j=nx+1+1:=by simpa [DV.refs] using hj
  exact ⟨by omega,by omega,by omega,by omega⟩
end
end Go.DD

/- Contracts: slices.Values over changes, Collect, SortFunc, SortedFunc. Conditions: those that each theorem states. -/
namespace Go.DD
open Go Go.Proofs Go.Sort
section
variable (k n0:Nat) (hp:Tr DObj) (nx:Nat) (K:DV->Tr DObj->Nat->Prop)
theorem Ca4(sl:Tr DV)(L bo bx T:Nat)(d:DV)(l:List PCell)(hn:n0<=nx)(eG:hp.get bx=some (.row T [d]))(hd:RL rChange hp (Bl n0) d l)(hl:l.length<900000)(hJ:CJ n0 sl L bo [] hp nx)
  (hK:∀ An Bm,nx<=Bm->(∀ j,j<n0->An.get j=hp.get j)->CJ n0 sl L bo l An Bm->K (.tup []) An Bm) :
  KW (kN (k+2)) (.fn 161) [.yl L,.pt bx 0] hp nx K:=by
 refine Sf (Hl (by decide)) XO (Ab rfl) λes e1 e2 he=>?_
 have a0:Ad es (.t .o)=.yl L:=he 0 _ rfl
 have a1:Ad es (.t (.l .o))=.pt bx 0:=he 1 _ rfl
 unfold FC
 subst e1 e2
 simp only [As,↓Au,a1,qG eG,hd.len]
 refine EW.up l.length (λi Ai=>es.nx<=Ai.nx/\(∀ j,j<n0->Ai.hp.get j=es.hp.get j)/\CJ n0 sl L bo (l.take i) Ai.hp Ai.nx/\Ad Ai (.t .o)=.yl L/\Ad Ai (.t (.l (.r .o)))=d/\Ad Ai (.t (.r (.r .o)))=iv l.length/\Ad Ai (.t (.l (.l (.l .o))))=iv (i:Nat)) ?_ ?_ (by omega)
 .rintro i Ai hi ⟨hle,Cy,X1,b0,b5,b6,b7⟩
  unfold Ck7
  have jZ:=hd.keep (An:=Ai.hp) λj hj=>Cy j hj
  by_cases h:i<l.length
  .obtain ⟨a,b,ra,rb,lA,_,_⟩:=AN jZ h
   simp only [As,↓Au,b5,b6,b7,h,D9 jZ h,lA]
   refine Rz λEi Dn Dd=>?_
   simp only [bR] at Dn Dd
   have ra1:=ra.keep (An:=Ei) λj (hj:j<n0)=>Dd j (by omega)
   have rb1:=rb.keep (An:=Ei) λj (hj:j<n0)=>Dd j (by omega)
   simp only [As,↓Au]
   refine Qx (n:=2) (id:=Ai.nx) (ds:=[a,b]) (by simp only [bR]) Dn (by simp only [Ha,bR];exact Wn ra1 rb1) rfl rfl λCw Fw Fa=>?_
   simp only [bR] at Fw Fa
   have kq:∀ j,j<Ai.nx->Cw.get j=Ai.hp.get j:=λj hj=>by rw [Fa j (by omega),Dd j (by omega)]
   have qQ:=ra.keep (An:=Cw) λj (hj:j<n0)=>kq j (by omega)
   have sO:=rb.keep (An:=Cw) λj (hj:j<n0)=>kq j (by omega)
   have l2:Fy Cw (some 2) (.pt Ai.nx 0)=some (.agg [a,b]):=by rw [Qz Fw];rfl
   have hJ2:=X1.keep (An:=Cw) (Bm:=Ai.nx+1) (by omega) kq
   obtain ⟨_,_,gL,_⟩:=hJ2
   simp only [As,↓Au,b0,l2]
   refine mG (L:=L) (by simp only [bR]) gL ?_
   simp only [Am,Az,bR]
   refine B14 k n0 _ _ _ sl L bo (l.take i) a b l[i] (by omega) (X1.keep (by omega) kq) qQ sO (by rw [Bt];omega) λGn Dy Iw aQ X0=>?_
   simp only [As,↓Au,b0,b5,b6,b7,Hz (show i<_ by omega)]
   refine ⟨h,by omega,λj hj=>?_,?_⟩
   .rw [aQ j hj,kq j (by omega),Cy j hj]
   .rw [<- List.take_append_getElem h]
    exact X0
  .have oM:i=l.length:=by omega
   subst oM
   rw [List.take_length] at X1
   simp only [As,↓Au,b6,b7,Il l.length]
   exact hK _ _ hle Cy X1
 .exact ⟨Ag _,λ_ _=>rfl,hJ,by simp only [bR,a0],by simp only [bR],by simp only [bR],by simp only [bR];rfl⟩
theorem B15(d:DV)(hd:d.okC=true/\d.cells=[d])(hl:Cg hp d=d)(hK:∀ An,An.get nx=some (.row 27 [d])->(∀ j,j≠nx->An.get j=hp.get j)->K (.fn (.func 161) [.tup [],.pt nx 0]) An (nx+1)):KW (kN (k+1)) (.fn 125) [d] hp nx K:=by
 refine Es (Hl (by decide)) YH (Ab rfl) λes e1 e2 he=>?_
 have a0:Ad es (.t .o)=d:=he 0 _ rfl
 unfold FU
 subst e1 e2
 simp only [↓Au]
 refine AV (v:=d) (by simp only [Ha,a0,hl]) hd λEi Dn Dd=>?_
 simp only [bR] at Dn Dd
 simp only [As,↓Au,bP]
 have e1:Cg Ei (.pt es.nx 0)=.pt es.nx 0:=Wm λid hid=>by
  have:id=es.nx:=by simpa [DV.refs] using hid
  rw [this,Dn];rfl
 rw [e1]
 have e2:Cg Ei (.fn (.func 161) [.tup [],.pt es.nx 0])=.fn (.func 161) [.tup [],.pt es.nx 0]:=Wm λid hid=>by
  have:id=es.nx:=by simpa [DV.refs,DV.refsL] using hid
  rw [this,Dn];rfl
 rw [e2]
 exact hK _ Dn Dd
def yT(bx:Nat):DV:=.fn (.func 161) [.tup [],.pt bx 0]
theorem C39{Ai:ES}{Q:Exit->ES->Prop}(bo bx T T2:Nat)(d:DV)(l:List PCell)(hn:n0<=bo)(hb:Ai.nx=bo+1)(jr:Ai.hp.get bo=some (.row T2 [Cb]))(hgx:Ai.hp.get bx=some (.row T [d]))(eG:bx<bo)(hd:RL rChange Ai.hp (Bl n0) d l)(hl:l.length<900000)(b2:Ad Ai (.t (.r .o))=.pt bo 0)(b6:Ad Ai (.t (.r (.r .o)))=yT bx)
  (hQ:∀ An Bm z T,Ai.nx<=Bm->(∀ j,j<n0->An.get j=Ai.hp.get j)->An.get bo=some (.row T [z])->OL rChange An (Bl n0) z l->(∀ j∈z.refs,n0<=j/\j<Bm)->Q .normal ⟨Ai.sl,An,Bm⟩) :
  EW (cR 13 false (.t (.r (.r .o))) [7] Y6 Y5) (kN (k+2)) Ai Q:=by
 have Iq:∀ (x:Option DObj) j,j≠bo+1->(Ai.hp.set (bo+1) x).get j=Ai.hp.get j:=λx j hj=>by rw [Tr.get_set,Ae (Eo hj)]
 refine Cg7 (f:=161) (cs:=[.pt bx 0]) ?_ ?_
 .rw [Ha,b6]
  exact Wm λid hid=>by
   have:id=bx:=by simpa [yT,DV.refs,DV.refsL] using hid
   rw [this,hgx];rfl
 .rw [hb]
  refine Ca4 k n0 _ _ _ Ai.sl (bo+1) bo bx T d l (by omega) ((Iq _ _ (by omega)).trans hgx) (hd.keep λj (hj:j<n0)=>Iq _ j (by omega)) hl ⟨Cb,T2,by rw [Tr.get_set,Af rfl],(Iq _ _ (by omega)).trans jr,.nil,λj hj=>by (cases hj),by omega,by omega,hn,by omega,by omega,b2⟩ λAn Bm hle Cy ⟨z,T,g1,g2,g3,g4,g5,g6,g7,g8,g9,X4⟩=>?_
  have aI:∀ j,j≠bo+1->(An.set (bo+1) none).get j=An.get j:=λj hj=>by rw [Tr.get_set,Ae (Eo hj)]
  refine ⟨_,g1,by simp,.inl ⟨rfl,?_⟩⟩
  refine hQ _ _ z T (by omega) (λj hj=>?_) ((aI _ (by omega)).trans g2) (g3.keep λj hj=>aI j (hj.elim (λ(h:j<n0)=>by omega) λh=>(g4 j h).2.2.1)) λj hj=>⟨(g4 j hj).1,(g4 j hj).2.1⟩
  rw [aI j (by omega),Cy j hj,Iq _ j (by omega)]
theorem B16(bx T:Nat)(d:DV)(l:List PCell)(hn:n0<=nx)(eG:hp.get bx=some (.row T [d]))(hb:bx<nx)(hd:RL rChange hp (Bl n0) d l)(hl:l.length<900000)
  (hK:∀ An Bm z,nx<=Bm->(∀ j,j<n0->An.get j=hp.get j)->OL rChange An (Bl n0) z l->(∀ j∈z.refs,n0<=j/\j<Bm)->K z An Bm) :
  KW (kN (k+3)) (.fn 185) [Cb,yT bx] hp nx K:=by
 refine Es (Hl (by decide)) XD (Ab rfl) λes e1 e2 he=>?_
 have a0:Ad es (.t .o)=Cb:=he 0 _ rfl
 have a1:Ad es (.t (.l .o))=yT bx:=he 1 _ rfl
 unfold EN
 subst e1 e2
 simp only [↓Au]
 refine AV (v:=Cb) (by simp only [Ha,a0];rfl) ⟨rfl,rfl⟩ λEi Dn Dd=>?_
 simp only [bR] at Dn Dd
 simp only [As,↓Au,a1]
 refine C39 k n0 es.nx bx T _ d l hn rfl Dn ((Dd bx (by omega)).trans eG) hb (hd.keep λj (hj:j<n0)=>Dd j (by omega)) hl (by simp only [bR]) (by simp only [bR]) λFq Ma z T jR Up O4 jM IG=>?_
 simp only [As,↓Au,bP,qG O4,jM.rl.live]
 exact hK _ _ z (by simp only [] at jR;omega) (λj hj=>by rw [Up j hj];simp only [];exact Dd j (by omega)) jM IG
theorem Bq4(bx T:Nat)(d:DV)(l:List PCell)(hn:n0<=nx)(eG:hp.get bx=some (.row T [d]))(hb:bx<nx)(hd:RL rChange hp (Bl n0) d l)(hl:l.length<900000)
  (hK:∀ An Bm z,nx<=Bm->(∀ j,j<n0->An.get j=hp.get j)->OL rChange An (Bl n0) z l->(∀ j∈z.refs,n0<=j/\j<Bm)->K z An Bm) :
  KW (kN (k+4)) (.fn 159) [yT bx] hp nx K:=by
 refine Es (Hl (by decide)) XQ (Ab rfl) λes e1 e2 he=>?_
 have a0:Ad es (.t .o)=yT bx:=he 0 _ rfl
 unfold FD
 subst e1 e2
 simp only [As,↓Au,a0]
 refine Fh (B16 k n0 _ _ _ bx T d l hn eG hb hd hl λFq Ma z jR Up jM IG=>?_)
 simp only [As,↓Au,bP,jM.rl.live]
 exact hK _ _ z jR Up jM IG
end
end Go.DD

/- Contracts: SortFunc, SortedFunc over changes. Conditions: those that each theorem states. -/
namespace Go.DD
open Go Go.Proofs Go.Sort
def eY:Nat:=13
theorem B17:13<=eY:=by decide
theorem vo:eY<=256:=by decide
theorem Bf4{d d':Array PCell}(hP:PermIn 0 d.size d d')(hS:SortedIn Yh 0 d.size d'):d'.toList.Perm d.toList/\d'.toList.Pairwise (λx y=>Yh y x=false):=by
 obtain ⟨h1,_,h3⟩:=hP
 have e:d.extract 0 d.size=d:=by simp
 have e':d'.extract 0 d.size=d':=by rw [<- h1];simp
 rw [e,e'] at h3
 refine ⟨h3,Db.2 λi j hi hj Nu=>?_⟩
 have Wj:i<d'.size:=by simpa using hi
 have Tx:j<d'.size:=by simpa using hj
 have:=hS i j (Fo _) Nu (by omega)
 rw [La d' i Wj,La d' j Tx] at this
 simpa using this
section
variable (k n0:Nat) (hp:Tr DObj) (nx:Nat) (K:DV->Tr DObj->Nat->Prop)
theorem Cs7(hK:∀ Bm,nx<=Bm->K (.tup []) hp Bm):KW (kN (k+1)) (.fn 203) [Cb,iv 0,iv 0,Mr] hp nx K:=by
 refine Sf (Hl (by decide)) CT (Ab rfl) λes e1 e2 he=>?_
 have a0:Ad es (.t .o)=Cb:=he 0 _ rfl
 have a1:Ad es (.t (.l .o))=iv 0:=he 1 _ rfl
 have a2:Ad es (.t (.r .o))=iv 0:=he 2 _ rfl
 have a3:Ad es (.t (.l (.l .o)))=Mr:=he 3 _ rfl
 unfold I5
 subst e1 e2
 have e01:Dm .add (iv 0) (.v (.int .i64 1))=some (iv 1):=rfl
 simp only [As,↓Au,a1,e01]
 refine EW.l (I:=λ_ Ai=>Ai.hp=es.hp/\es.nx<=Ai.nx/\Ad Ai (.t (.r .o))=iv 0/\Ad Ai (.t (.r (.l (.l .o))))=iv 1) ?_ 0 1000000 _ ⟨rfl,Ag _,by simp only [bR,a2],by simp only [bR]⟩ (by omega)
 rintro m Ai ⟨h1,h2,b2,b8⟩
 unfold xf
 simp only [As,↓Au,b2,b8,show decide ((1:Int)<0)=false from rfl]
 rw [h1]
 exact hK _ h2
theorem Cs8(l:Nat)(hK:∀ Bm,nx<=Bm->K (.tup []) hp Bm):KW (kN (k+2)) (.fn 186) [Cb,iv 0,iv 0,iv l,Mr] hp nx K:=by
 refine Sf (Hl (by decide)) CU (Ab rfl) λes e1 e2 he=>?_
 have a0:Ad es (.t .o)=Cb:=he 0 _ rfl
 have a1:Ad es (.t (.l .o))=iv 0:=he 1 _ rfl
 have a2:Ad es (.t (.r .o))=iv 0:=he 2 _ rfl
 have a3:Ad es (.t (.l (.l .o)))=iv l:=he 3 _ rfl
 have a4:Ad es (.t (.r (.l .o)))=Mr:=he 4 _ rfl
 unfold I6
 subst e1 e2
 simp only [As,↓Au]
 refine EW.l (I:=λ_ Ai=>Ai.hp=es.hp/\es.nx<=Ai.nx/\Ad Ai (.t .o)=Cb/\Ad Ai (.t (.l .o))=iv 0/\Ad Ai (.t (.r .o))=iv 0/\Ad Ai (.t (.r (.l .o)))=Mr) ?_ 0 1000000 _ ⟨rfl,Ag _,by simp only [bR,a0],by simp only [bR,a1],by simp only [bR,a2],by simp only [bR,a4]⟩ (by omega)
 rintro m Ai ⟨h1,h2,b0,b1,b2,b4⟩
 unfold xg
 have se:Dm .sub (iv 0) (iv 0)=some (iv 0):=rfl
 simp only [As,↓Au,b0,b1,b2,b4,se,show decide ((0:Int)<=12)=true from rfl]
 refine Fh (Cs7 k _ _ _ λBm hle=>?_)
 simp only [As,↓Au]
 rw [h1]
 exact hK _ (by omega)
theorem Cs9(id n l:Nat)(d:Array PCell)(hn:n0<=nx)(hs:SR hp n0 id n d)(hz:d.size<=12)
  (hK:∀ An Bm d',Fr hp nx id An Bm->SR An n0 id n d'->PermIn 0 n d d'->SortedIn Yh 0 n d'->K (.tup []) An Bm):KW (kN (k+7)) (.fn 186) [.ms id 0 n 2,iv 0,iv n,iv l,Mr] hp nx K:=by
 refine Sf (Hl (by decide)) CU (Ab rfl) λes e1 e2 he=>?_
 have a0:Ad es (.t .o)=.ms id 0 n 2:=he 0 _ rfl
 have a1:Ad es (.t (.l .o))=iv 0:=he 1 _ rfl
 have a2:Ad es (.t (.r .o))=iv n:=he 2 _ rfl
 have a3:Ad es (.t (.l (.l .o)))=iv l:=he 3 _ rfl
 have a4:Ad es (.t (.r (.l .o)))=Mr:=he 4 _ rfl
 unfold I6
 subst e1 e2
 have Gt:=hs.n
 simp only [As,↓Au]
 refine EW.l (I:=λ_ Ai=>Fr es.hp es.nx id Ai.hp Ai.nx/\SR Ai.hp n0 id n d/\Ad Ai (.t .o)=.ms id 0 n 2/\Ad Ai (.t (.l .o))=iv 0/\Ad Ai (.t (.r .o))=iv n/\Ad Ai (.t (.r (.l .o)))=Mr) ?_ 0 1000000 _ ⟨Fr.refl _ _ _,hs,by simp only [bR,a0],by simp only [bR,a1],by simp only [bR,a2],by simp only [bR,a4]⟩ (by omega)
 rintro m Ai ⟨g,Mi,b0,b1,b2,b4⟩
 unfold xg
 have aTt:=g.le
 have se:Dm .sub (iv n) (iv 0)=some (iv n):=by
  show some (DV.v (.int .i64 (IntKind.i64.wrap ((n:Int)-0))))=_
  rw [Int.sub_zero,Ej (by omega)]
 simp only [As,↓Au,b0,b1,b2,b4,se,show decide ((n:Int)<=12)=true from Ak (by omega)]
 refine Fh (C38 k n0 _ _ _ id n 0 n d (by omega) Mi (by omega) (by omega) λGn Dy g3 Ui=>?_)
 simp only [As,↓Au]
 obtain ⟨r1,r2⟩:=insertionSort_holds swoC d 0 n (Fo _) (by omega)
 exact hK _ _ _ (g.trans g3) Ui r1 r2
theorem Ct0(id n:Nat)(d:Array PCell)(hn:n0<=nx)(hs:SR hp n0 id n d)(hz:d.size<eY)
  (hK:∀ An Bm d',Fr hp nx id An Bm->SR An n0 id n d'->d'.toList.Perm d.toList->d'.toList.Pairwise (λx y=>Yh y x=false)->K (.tup []) An Bm):KW (kN (k+16)) (.fn 160) [.ms id 0 n 2,Mr] hp nx K:=by
 refine Sf (Hl (by decide)) CY (Ab rfl) λes e1 e2 he=>?_
 have a0:Ad es (.t .o)=.ms id 0 n 2:=he 0 _ rfl
 have a1:Ad es (.t (.l .o))=Mr:=he 1 _ rfl
 unfold I9
 subst e1 e2
 have Gt:=hs.n
 have hmx:=vo
 have h9:=Bb8 (x:=n) (by omega)
 have hln:d.toList.length=n:=by rw [Gt];simp
 have oG:=hs.s
 simp only [As,↓Au,bP,a0,hs.rl.len,hln,Cp9 (k:=.i64) (show n<_ by omega)]
 refine Fh (Cl0 (k+13) _ _ _ n (by omega) ?_)
 simp only [As,↓Au,a1]
 have tE:d.size<=12:=Nat.le_of_lt_succ hz
 refine Fh (Cs9 (k+8) n0 _ _ _ id n (bitsLen n) d hn hs tE λAn Bm d' g1 Mi hP hS=>?_)
 rw [Gt] at hP hS
 obtain ⟨p1,p2⟩:=Bf4 hP hS
 simp only [As,↓Au]
 exact hK _ _ d' g1 Mi p1 p2
theorem Ca5(hK:∀ Bm,nx<=Bm->K (.tup []) hp Bm):KW (kN (k+16)) (.fn 160) [Cb,Mr] hp nx K:=by
 refine Sf (Hl (by decide)) CY (Ab rfl) λes e1 e2 he=>?_
 have a0:Ad es (.t .o)=Cb:=he 0 _ rfl
 have a1:Ad es (.t (.l .o))=Mr:=he 1 _ rfl
 unfold I9
 subst e1 e2
 have h0:∀ hp,Oc hp Cb=some (iv ((0:Nat):Int)):=λ_=>rfl
 have hc:Xr .u64 (.v (.int .i64 0))=some (.v (.int .u64 ((0:Nat):Int))):=rfl
 simp only [As,↓Au,bP,a0,h0,hc]
 refine Fh (Cl0 (k+13) _ _ _ 0 (by omega) ?_)
 simp only [As,↓Au,a1]
 refine Fh (Cs8 (k+13) _ _ _ (bitsLen 0) λBm hle=>?_)
 simp only [As,↓Au]
 exact hK _ hle
def gC(l m:List PCell):Prop:=m.Perm l/\m.Pairwise (λx y=>Yh y x=false)
theorem Bq5(bx T:Nat)(d:DV)(l:List PCell)(hn:n0<=nx)(eG:hp.get bx=some (.row T [d]))(hb:bx<nx)(hd:RL rChange hp (Bl n0) d l)(hl:l.length<eY)(hbp:∀ c∈l,c.pos.length<900000)
  (hK:∀ An Bm z m,nx<=Bm->(∀ j,j<n0->An.get j=hp.get j)->RL rChange An (Bl Bm) z m->gC l m->K z An Bm) :
  KW (kN (k+17)) (.fn 124) [yT bx,Mr] hp nx K:=by
 refine Es (Hl (by decide)) YI (Ab rfl) λes e1 e2 he=>?_
 have a0:Ad es (.t .o)=yT bx:=he 0 _ rfl
 have a1:Ad es (.t (.l .o))=Mr:=he 1 _ rfl
 unfold FV
 subst e1 e2
 have hmx:=vo
 simp only [As,↓Au,a0]
 refine Fh (Bq4 (k+12) n0 _ _ _ bx T d l hn eG hb hd (by omega) λFq Ma z jR Up jM IG=>?_)
 simp only [As,↓Au,a1]
 cases jM with
 | nil=>
  refine Fh (Ca5 k _ _ _ λIa Oi=>?_)
  simp only [As,↓Au,bP]
  exact hK _ _ _ [] (by omega) Up .nil ⟨.refl _,.nil⟩
 | ms id fl l h hr=>
  have hid:=IG id (by simp [DV.refs])
  have hs:SR Fq Ma id l.length l.toArray:=⟨(OL.ms id fl l h hr).mono λj (hj:j<n0)=>⟨by omega,by omega⟩,hid.2,by simpa using hbp,by simpa using (show l.length<100000 by omega)⟩
  refine Fh (Ct0 k Ma _ _ _ id l.length l.toArray (Ag _) hs (by simpa using hl) λGr Ia d5 g5 tJ p1 p2=>?_)
  have JH:RL rChange Gr (Bl Ia) (.ms id 0 l.length 2) d5.toList:=tJ.rl.mono λj (hj:j<Ma)=>by
   have:=g5.le
   show j<Ia
   omega
  simp only [As,↓Au,bP]
  show K (Cg Gr (.ms id 0 l.length 2)) Gr Ia
  rw [JH.live]
  exact hK _ _ _ d5.toList (by have:=g5.le;omega) (λj hj=>by rw [g5.fr j (by omega) (by omega),Up j hj]) JH ⟨by simpa using p1,p2⟩
end
end Go.DD

/- Contracts: the inner loops of checked. Conditions: those that each theorem states. -/
namespace Go.DD
open Go Go.Proofs Go.Sort
section
variable (k n0:Nat)
structure CK (hp:Tr DObj) (nx B C:Nat) (v1 v14 v15 v16:DV) (es:ES):Prop where
 g:Al hp nx es.hp es.nx
 b1:Ad es (.t (.l .o))=v1
 b2:Ad es (.t (.r .o))=.pt B 0
 b7:Ad es (.t (.l (.l (.l .o))))=.pt C 0
 b14:Ad es (.t (.r (.r (.r .o))))=v14
 b15:Ad es (.t (.l (.l (.l (.l .o)))))=v15
 b16:Ad es (.t (.r (.l (.l (.l .o)))))=v16
theorem Cl1{es:ES}{Q:Exit->ES->Prop}{hp:Tr DObj}{nx B C TC:Nat}{v1 v14 v15 v16 d x y:DV}{l:List PDim}{c:PCell}(hn:n0<=nx)(hc:CK hp nx B C v1 v14 v15 v16 es)(hC:hp.get C=some (.row TC [x,y]))(hCl:C<nx)(h1:RL rDim hp (Bl n0) d l)(h3:RL rInt hp (Bl n0) x c.pos)(hlen:c.pos.length=l.length)(hl:l.length<900000)(TL:Ad es (.t (.l (.l (.r (.r (.l .o))))))=d)(NY:Ad es (.t (.r (.l (.r (.r (.l .o))))))=iv l.length)(NX:Ad es (.t (.l (.r (.r (.r (.l .o))))))=iv (0:Nat))
  (hQ:gM l c.pos=true->∀ es',CK hp nx B C v1 v14 v15 v16 es'->Q (.exit 2) es')
  (hR:gM l c.pos=false->∀ es',Al hp nx es'.hp es'.nx->Ad es' (.t (.r (.l .o)))=Cb->Ad es' (.t (.l (.r .o)))=iv 3->Q .ret es') :
  EW (cL 1000000 nK) (kN (k+6)) es Q:=by
 refine EW.up l.length (λi Ai=>CK hp nx B C v1 v14 v15 v16 Ai/\gM l c.pos=gM (l.drop i) (c.pos.drop i)/\Ad Ai (.t (.l (.l (.r (.r (.l .o))))))=d/\Ad Ai (.t (.r (.l (.r (.r (.l .o))))))=iv l.length/\Ad Ai (.t (.l (.r (.r (.r (.l .o))))))=iv (i:Nat)) ?_ ⟨hc,rfl,TL,NY,NX⟩ (by omega)
 rintro i Ai hi ⟨⟨g,b1,b2,b7,b14,b15,b16⟩,Mm,TL,NY,NX⟩
 unfold nK
 have hle:=g.le
 by_cases h:i<l.length
 .have h':i<c.pos.length:=by omega
  rw [wY h h'] at Mm
  have r1:=h1.ka hn g
  simp only [As,↓Au,TL,NY,NX,h,uP r1 h,(rQ r1 h).1]
  refine Rz λEi Dn Dd=>?_
  simp only [bR] at Dn Dd
  simp only [As,↓Au]
  refine Qx (n:=3) (id:=Ai.nx) (ds:=dc l[i]) (by simp only [bR]) Dn (by simp only [Ha,bR];exact dW rfl) rfl rfl λCw Fw Fa=>?_
  simp only [bR] at Fw Fa
  have g2:Al hp nx Cw (Ai.nx+1):=⟨by omega,λj hj=>by rw [Fa j (by omega),Dd j (by omega),g.same j hj]⟩
  have r3:=h3.ka hn g2
  have Pk:=(g2.same C hCl).trans hC
  obtain ⟨⟨f0,f1⟩,l0,l1,_⟩:=Wl Pk
  obtain ⟨⟨q0,q1,q2⟩,m0,m1,m2⟩:=pW Fw
  by_cases c1:c.pos[i]<l[i].lo
  .rw [Af (.inl c1)] at Mm
   simp only [As,↓Au,b7,f0,l0,q1,m1,kS r3 h',ints_at r3 h',Ak c1,r3.rox (m:=19) (show n0<=Ai.nx+1 by omega),U0 (m:=19) r3 (show n0<=Ai.nx+1 by omega),Lp (n0:=Ai.nx+1) (m:=19) Pk (show C<Ai.nx+1 by omega),Lp (n0:=Ai.nx+1) (m:=19) Fw (show Ai.nx<Ai.nx+1 by omega)]
   exact hR Mm _ (by simpa only [bR] using g2.nx (show Ai.nx+1<=Ai.nx+1+19 by omega)) (by simp only [bR];rfl) (by simp only [bR])
  .by_cases c2:bV l[i]<c.pos[i]
   .rw [Af (.inr c2)] at Mm
    simp only [As,↓Au,bP,b7,f0,l0,q1,m1,q2,m2,kS r3 h',ints_at r3 h',zc,Ah c1,show decide (min l[i].hi 1073741824<c.pos[i])=true from Ak c2,r3.rox (m:=19) (show n0<=Ai.nx+1 by omega),U0 (m:=19) r3 (show n0<=Ai.nx+1 by omega),Lp (n0:=Ai.nx+1) (m:=19) Pk (show C<Ai.nx+1 by omega),Lp (n0:=Ai.nx+1) (m:=19) Fw (show Ai.nx<Ai.nx+1 by omega)]
    exact hR Mm _ (by simpa only [bR] using g2.nx (show Ai.nx+1<=Ai.nx+1+19 by omega)) (by simp only [bR];rfl) (by simp only [bR])
   .rw [Ae (by omega)] at Mm
    simp only [As,↓Au,bP,b7,f0,l0,q1,m1,q2,m2,kS r3 h',ints_at r3 h',zc,Ah c1,show decide (min l[i].hi 1073741824<c.pos[i])=false from Ah c2,r3.rox (m:=19) (show n0<=Ai.nx+1 by omega),U0 (m:=19) r3 (show n0<=Ai.nx+1 by omega),Lp (n0:=Ai.nx+1) (m:=19) Pk (show C<Ai.nx+1 by omega),Lp (n0:=Ai.nx+1) (m:=19) Fw (show Ai.nx<Ai.nx+1 by omega),TL,NY,NX,h,Hz (show i<_ by omega)]
    exact ⟨⟨by simpa only [bR] using g2.nx (show Ai.nx+1<=Ai.nx+1+19 by omega),by simp only [bR,b1],by simp only [bR,b2],by simp only [bR,b7],by simp only [bR,b14],by simp only [bR,b15],by simp only [bR,b16]⟩,Mm⟩
 .rw [wZ (by omega)] at Mm
  simp only [As,↓Au,NY,NX,h]
  exact hQ Mm _ ⟨by simpa only [bR] using g,by simp only [bR,b1],by simp only [bR,b2],by simp only [bR,b7],by simp only [bR,b14],by simp only [bR,b15],by simp only [bR,b16]⟩
theorem Cl2{es:ES}{Q:Exit->ES->Prop}{hp:Tr DObj}{nx B C TB:Nat}{v1 v14 v15 v16 d a cc y:DV}{m:List PAttr}{c:PCell}(hn:n0<=nx)(hc:CK hp nx B C v1 v14 v15 v16 es)(hB:hp.get B=some (.row TB [d,a,cc]))(na:B<nx)(h2:RL rAttr hp (Bl n0) a m)(h4:RL rVal hp (Bl n0) y c.vals)(hlen:c.vals.length<=m.length)(hl:m.length<900000)(tH:∀ v∈c.vals,Ww v)(TK:Ad es (.t (.l (.l (.l (.r (.l (.l .o)))))))=y)(NW:Ad es (.t (.r (.l (.l (.r (.l (.l .o)))))))=iv c.vals.length)(NV:Ad es (.t (.l (.r (.l (.r (.l (.l .o)))))))=iv (0:Nat))
  (hQ:On c.vals m=true->∀ es',CK hp nx B C v1 v14 v15 v16 es'->Q (.exit 4) es')
  (hR:On c.vals m=false->∀ es',Al hp nx es'.hp es'.nx->Ad es' (.t (.r (.l .o)))=Cb->Ad es' (.t (.l (.r .o)))=iv 12->Q .ret es') :
  EW (cL 1000000 nJ) (kN (k+6)) es Q:=by
 refine EW.up c.vals.length (λi Ai=>CK hp nx B C v1 v14 v15 v16 Ai/\On c.vals m=On (c.vals.drop i) (m.drop i)/\Ad Ai (.t (.l (.l (.l (.r (.l (.l .o)))))))=y/\Ad Ai (.t (.r (.l (.l (.r (.l (.l .o)))))))=iv c.vals.length/\Ad Ai (.t (.l (.r (.l (.r (.l (.l .o)))))))=iv (i:Nat)) ?_ ⟨hc,rfl,TK,NW,NV⟩ (by omega)
 rintro i Ai hi ⟨⟨g,b1,b2,b7,b14,b15,b16⟩,Mm,TK,NW,NV⟩
 unfold nJ
 have hle:=g.le
 by_cases h:i<c.vals.length
 .have h':i<m.length:=by omega
  rw [By4 h h'] at Mm
  have w4:=h4.ka hn g
  simp only [As,↓Au,TK,NW,NV,h,T5 w4 h,Y8 w4 h]
  refine Rz λEi Dn Dd=>?_
  simp only [bR] at Dn Dd
  simp only [As,↓Au]
  refine Qx (n:=4) (id:=Ai.nx) (ds:=vc c.vals[i]) (by simp only [bR]) Dn (by simp only [Ha,bR];exact dW rfl) rfl rfl λCw Fw Fa=>?_
  simp only [bR] at Fw Fa
  have g2:Al hp nx Cw (Ai.nx+1):=⟨by omega,λj hj=>by rw [Fa j (by omega),Dd j (by omega),g.same j hj]⟩
  have w2:=h2.ka hn g2
  have X2:=(g2.same B na).trans hB
  obtain ⟨⟨f0,f1,f2⟩,l0,l1,l2,_⟩:=Qd X2
  obtain ⟨_,_,_,_,_,t4⟩:=Yr Fw
  simp only [As,↓Au,b2,f1,l1,t4,E8 w2 h',zd (k:=1) w2 h',(E9 w2 h').2.2.2,w2.rox (m:=9) (show n0<=Ai.nx+1 by omega),AF (m:=9) w2 (show n0<=Ai.nx+1 by omega),Bb1 (m:=9) w2 (show n0<=Ai.nx+1 by omega),Lp (n0:=Ai.nx+1) (m:=9) Fw (show Ai.nx<Ai.nx+1 by omega),Lp (n0:=Ai.nx+1) (m:=9) X2 (show B<Ai.nx+1 by omega),E0 (show DV.refsL (vc c.vals[i])=[] from rfl)]
  refine Ly rfl (Uy ?_)
  simp only [bR,Am,Az]
  refine By3 (k:=k+1) _ _ _ c.vals[i] m[i].type (tH _ (Be h)) λGr Ia Jp=>?_
  have Oi:=Jp.le
  have g5:=(g2.nx (by omega:Ai.nx+1<=Ai.nx+1+9)).trans Jp
  cases c4:Zi c.vals[i] m[i].type with
  | false=>
   rw [Af c4] at Mm
   simp only [As,↓Au,Oi]
   exact hR Mm _ (by simpa only [bR] using g5) (by simp only [bR];rfl) (by simp only [bR])
  | true=>
   rw [Ae (by rw [c4];simp)] at Mm
   simp only [As,↓Au,TK,NW,NV,h,Oi,Hz (show i<_ by omega)]
   exact ⟨⟨by simpa only [bR] using g5,by simp only [bR,b1],by simp only [bR,b2],by simp only [bR,b7],by simp only [bR,b14],by simp only [bR,b15],by simp only [bR,b16]⟩,Mm⟩
 .rw [By5 (by omega)] at Mm
  simp only [As,↓Au,NW,NV,h]
  exact hQ Mm _ ⟨by simpa only [bR] using g,by simp only [bR,b1],by simp only [bR,b2],by simp only [bR,b7],by simp only [bR,b14],by simp only [bR,b15],by simp only [bR,b16]⟩
end
end Go.DD

/- Contracts: the outer loop of checked. Conditions: those that each theorem states. -/
namespace Go.DD
open Go Go.Proofs Go.Sort
def Me(d:List PDim)(a:List PAttr)(c:PCell):Int:=if c.pos.length≠d.length\/(c.vals.length≠0/\c.vals.length≠a.length) then 13 else if gM d c.pos=false then 3 else if On c.vals a=false then 12 else 0
def Jh(d:List PDim)(a:List PAttr):List PCell->Int
 | []=>0
 | c::l=>if Me d a c≠0 then Me d a c else Jh d a l
theorem Ct1{d:List PDim}{a:List PAttr}{l:List PCell}{i:Nat}(h:i<l.length):Jh d a (l.drop i)=if Me d a l[i]≠0 then Me d a l[i] else Jh d a (l.drop (i+1)):=by
 rw [Bb h];rfl
section
variable (k n0:Nat)
theorem C40{es:ES}{Q:Exit->ES->Prop}{hp:Tr DObj}{nx B TB:Nat}{ls d a cc:DV}{l:List PCell}{D:List PDim}{A:List PAttr}(hn:n0<=nx)(hB:hp.get B=some (.row TB [d,a,cc]))(na:B<nx)(hL:RL rChange hp (Bl n0) ls l)(h1:RL rDim hp (Bl n0) d D)(h2:RL rAttr hp (Bl n0) a A)(hl:l.length<900000)(hD:D.length<900000)(hA:A.length<900000)(hc:∀ c∈l,∀ v∈c.vals,Ww v)
  (g:Al hp nx es.hp es.nx) (b1:Ad es (.t (.l .o))=ls) (b2:Ad es (.t (.r .o))=.pt B 0) (b14:Ad es (.t (.r (.r (.r .o))))=ls) (b15:Ad es (.t (.l (.l (.l (.l .o)))))=iv l.length) (b16:Ad es (.t (.r (.l (.l (.l .o)))))=iv (0:Nat))
  (hQ:Jh D A l=0->∀ es',Al hp nx es'.hp es'.nx->Ad es' (.t (.l .o))=ls->Q (.exit 0) es')
  (hR:Jh D A l≠0->∀ es',Al hp nx es'.hp es'.nx->Ad es' (.t (.r (.l .o)))=Cb->Ad es' (.t (.l (.r .o)))=iv (Jh D A l)->Q .ret es') :
  EW (cL 1000000 nI) (kN (k+6)) es Q:=by
 refine EW.up l.length (λi Ai=>Al hp nx Ai.hp Ai.nx/\Jh D A l=Jh D A (l.drop i)/\Ad Ai (.t (.l .o))=ls/\Ad Ai (.t (.r .o))=.pt B 0/\Ad Ai (.t (.r (.r (.r .o))))=ls/\Ad Ai (.t (.l (.l (.l (.l .o)))))=iv l.length/\Ad Ai (.t (.r (.l (.l (.l .o)))))=iv (i:Nat)) ?_ ⟨g,rfl,b1,b2,b14,b15,b16⟩ (by omega)
 rintro i Ai hi ⟨g,Mm,b1,b2,b14,b15,b16⟩
 unfold nI
 have hle:=g.le
 by_cases h:i<l.length
 .rw [Ct1 h] at Mm
  have lN:=hc _ (Be h)
  have r:=hL.ka hn g
  obtain ⟨x,y,rx,ry,lC,_,_⟩:=AN r h
  simp only [As,↓Au,b14,b15,b16,h,D9 r h,lC]
  refine Rz λEi Dn Dd=>?_
  simp only [bR] at Dn Dd
  have DN:=rx.keep (An:=Ei) λj (hj:j<n0)=>Dd j (by omega)
  have DM:=ry.keep (An:=Ei) λj (hj:j<n0)=>Dd j (by omega)
  simp only [As,↓Au]
  refine Qx (n:=2) (id:=Ai.nx) (ds:=[x,y]) (by simp only [bR]) Dn (by simp only [Ha,bR];exact Wn DN DM) rfl rfl λCw Fw Fa=>?_
  simp only [bR] at Fw Fa
  have g2:Al hp nx Cw (Ai.nx+1):=⟨by omega,λj hj=>by rw [Fa j (by omega),Dd j (by omega),g.same j hj]⟩
  have sJ:=DN.keep (An:=Cw) λj (hj:j<n0)=>Fa j (by omega)
  have sI:=DM.keep (An:=Cw) λj (hj:j<n0)=>Fa j (by omega)
  have r1:=h1.ka hn g2
  have r2:=h2.ka hn g2
  have X2:=(g2.same B na).trans hB
  obtain ⟨⟨F0,F1,F2⟩,L0,L1,L2,_⟩:=Qd X2
  obtain ⟨⟨f0,f1⟩,l0,l1,_⟩:=Wl Fw
  generalize l[i]=c at sJ sI Mm lN DN DM rx ry
  by_cases c1:c.pos.length=D.length
  .by_cases c2:c.vals.length=0
   .have sh:¬ (c.pos.length≠D.length\/(c.vals.length≠0/\c.vals.length≠A.length)):=by omega
    simp only [As,↓Au,b2,F0,L0,f0,f1,l0,l1,r1.len,sJ.len,sI.len,show decide (¬ c.pos.length=D.length)=false by simp [c1],show decide (¬ ((c.vals.length:Int)=0))=false by simp [c2]]
    refine Cl1 k n0 (hp:=Cw) (nx:=Ai.nx+1) (B:=B) (C:=Ai.nx) (v1:=ls) (v14:=ls) (v15:=iv l.length) (v16:=iv (i:Nat)) (d:=d) (x:=x) (y:=y) (l:=D) (c:=c) (by omega) ⟨by simpa only [bR] using Al.refl _ _,by simp only [bR,b1],by simp only [bR,b2],by simp only [bR],by simp only [bR,b14],by simp only [bR,b15],by simp only [bR,b16]⟩ Fw (by omega) r1 sJ c1 hD (by simp only [bR]) (by simp only [bR]) (by simp only [bR];rfl) (λho Kj sw=>?_) λho Kj g3 q4 q5=>?_
    .obtain ⟨g3,x1,x2,x7,bN,G1,G0⟩:=sw
     have Iw:=g3.le
     have mz:=(g3.same Ai.nx (by omega)).trans Fw
     obtain ⟨⟨p0,p1⟩,m0,m1,_⟩:=Wl mz
     have YR:=sI.ka (by omega) g3
     simp only [As,↓Au,x7,p1,m1,YR.len]
     refine Cl2 k n0 (hp:=Cw) (nx:=Ai.nx+1) (B:=B) (C:=Ai.nx) (v1:=ls) (v14:=ls) (v15:=iv l.length) (v16:=iv (i:Nat)) (d:=d) (a:=a) (cc:=cc) (y:=y) (m:=A) (c:=c) (by omega) ⟨by simpa only [bR] using g3,by simp only [bR,x1],by simp only [bR,x2],by simp only [bR,x7],by simp only [bR,bN],by simp only [bR,G1],by simp only [bR,G0]⟩ X2 (by omega) r2 sI (by omega) hA lN (by simp only [bR]) (by simp only [bR]) (by simp only [bR];rfl) (λhf ou su=>?_) λhf ou g4 q4 q5=>?_
     .obtain ⟨g4,x1,x2,x7,bN,G1,G0⟩:=su
      have ce:Me D A c=0:=by unfold Me;rw [Ae sh,Ae (by rw [ho];decide),Ae (by rw [hf];decide)]
      rw [ce,Ae (by decide)] at Mm
      simp only [As,↓Au,x1,x2,bN,G1,G0,h,Hz (show i<_ by omega)]
      exact ⟨g2.trans g4,Mm⟩
     .have ce:Me D A c=12:=by unfold Me;rw [Ae sh,Ae (by rw [ho];decide),Af hf]
      rw [ce,Af (by decide)] at Mm
      simp only [↓Au]
      exact hR (by rw [Mm];decide) _ (g2.trans g4) q4 (by rw [q5,Mm])
    .have ce:Me D A c=3:=by unfold Me;rw [Ae sh,Af ho]
     rw [ce,Af (by decide)] at Mm
     simp only [↓Au]
     exact hR (by rw [Mm];decide) _ (g2.trans g3) q4 (by rw [q5,Mm])
   .by_cases c3:c.vals.length=A.length
    .have sh:¬ (c.pos.length≠D.length\/(c.vals.length≠0/\c.vals.length≠A.length)):=by omega
     simp only [As,↓Au,b2,F0,F1,L0,L1,f0,f1,l0,l1,r1.len,r2.len,sJ.len,sI.len,show decide (¬ c.pos.length=D.length)=false by simp [c1],show decide (¬ ((c.vals.length:Int)=0))=true by simp [c2],show decide (¬ c.vals.length=A.length)=false by simp [c3]]
     refine Cl1 k n0 (hp:=Cw) (nx:=Ai.nx+1) (B:=B) (C:=Ai.nx) (v1:=ls) (v14:=ls) (v15:=iv l.length) (v16:=iv (i:Nat)) (d:=d) (x:=x) (y:=y) (l:=D) (c:=c) (by omega) ⟨by simpa only [bR] using Al.refl _ _,by simp only [bR,b1],by simp only [bR,b2],by simp only [bR],by simp only [bR,b14],by simp only [bR,b15],by simp only [bR,b16]⟩ Fw (by omega) r1 sJ c1 hD (by simp only [bR]) (by simp only [bR]) (by simp only [bR];rfl) (λho Kj sw=>?_) λho Kj g3 q4 q5=>?_
     .obtain ⟨g3,x1,x2,x7,bN,G1,G0⟩:=sw
      have Iw:=g3.le
      have mz:=(g3.same Ai.nx (by omega)).trans Fw
      obtain ⟨⟨p0,p1⟩,m0,m1,_⟩:=Wl mz
      have YR:=sI.ka (by omega) g3
      simp only [As,↓Au,x7,p1,m1,YR.len]
      refine Cl2 k n0 (hp:=Cw) (nx:=Ai.nx+1) (B:=B) (C:=Ai.nx) (v1:=ls) (v14:=ls) (v15:=iv l.length) (v16:=iv (i:Nat)) (d:=d) (a:=a) (cc:=cc) (y:=y) (m:=A) (c:=c) (by omega) ⟨by simpa only [bR] using g3,by simp only [bR,x1],by simp only [bR,x2],by simp only [bR,x7],by simp only [bR,bN],by simp only [bR,G1],by simp only [bR,G0]⟩ X2 (by omega) r2 sI (by omega) hA lN (by simp only [bR]) (by simp only [bR]) (by simp only [bR];rfl) (λhf ou su=>?_) λhf ou g4 q4 q5=>?_
      .obtain ⟨g4,x1,x2,x7,bN,G1,G0⟩:=su
       have ce:Me D A c=0:=by unfold Me;rw [Ae sh,Ae (by rw [ho];decide),Ae (by rw [hf];decide)]
       rw [ce,Ae (by decide)] at Mm
       simp only [As,↓Au,x1,x2,bN,G1,G0,h,Hz (show i<_ by omega)]
       exact ⟨g2.trans g4,Mm⟩
      .have ce:Me D A c=12:=by unfold Me;rw [Ae sh,Ae (by rw [ho];decide),Af hf]
       rw [ce,Af (by decide)] at Mm
       simp only [↓Au]
       exact hR (by rw [Mm];decide) _ (g2.trans g4) q4 (by rw [q5,Mm])
     .have ce:Me D A c=3:=by unfold Me;rw [Ae sh,Af ho]
      rw [ce,Af (by decide)] at Mm
      simp only [↓Au]
      exact hR (by rw [Mm];decide) _ (g2.trans g3) q4 (by rw [q5,Mm])
    .have ce:Me D A c=13:=by unfold Me;rw [Af (.inr ⟨c2,c3⟩)]
     rw [ce,Af (by decide)] at Mm
     simp only [As,↓Au,b2,F0,F1,L0,L1,f0,f1,l0,l1,r1.len,r2.len,sJ.len,sI.len,show decide (¬ c.pos.length=D.length)=false by simp [c1],show decide (¬ ((c.vals.length:Int)=0))=true by simp [c2],show decide (¬ c.vals.length=A.length)=true by simp [c3]]
     exact hR (by rw [Mm];decide) _ (by simpa only [bR] using g2) (by simp only [bR];rfl) (by simp only [bR];rw [Mm])
  .have ce:Me D A c=13:=by unfold Me;rw [Af (.inl c1)]
   rw [ce,Af (by decide)] at Mm
   simp only [As,↓Au,b2,F0,L0,f0,l0,r1.len,sJ.len,show decide (¬ c.pos.length=D.length)=true by simp [c1]]
   exact hR (by rw [Mm];decide) _ (by simpa only [bR] using g2) (by simp only [bR];rfl) (by simp only [bR];rw [Mm])
 .rw [Bc (by omega)] at Mm
  simp only [As,↓Au,b15,b16,h]
  exact hQ Mm _ (by simpa only [bR] using g) (by simp only [bR,b1])
end
end Go.DD

/- Contracts: checked. Conditions: those that each theorem states. -/
namespace Go.DD
open Go Go.Proofs Go.Sort
def uK(m:List PCell)(i:Nat):Prop:=∃ (h:0<i) (h2:i<m.length),Cs (m[i-1]'(by omega)).pos m[i].pos=0
def tx(D:List PDim)(A:List PAttr)(l:List PCell)(e:Int)(m:List PCell):Prop:=
 (Jh D A l≠0/\e=Jh D A l/\m=[])\/(Jh D A l=0/\e=5/\m=[]/\∃ s i,gC l s/\uK s i)\/(Jh D A l=0/\e=0/\gC l m/\∀ i,¬ uK m i)
section
variable (k n0:Nat)
theorem C41{es:ES}{Q:Exit->ES->Prop}{z:DV}{m:List PCell}(hn:n0<=es.nx)(hz:RL rChange es.hp (Bl n0) z m)(hm:m.length<900000)(hb:∀ c∈m,c.pos.length<900000)(Ny:Ad es (.t (.r (.l (.r .o))))=z)(Qq:Ad es (.t (.l (.r (.r .o))))=iv (1:Nat))
  (hQ:(∀ i,¬ uK m i)->∀ es',Al es.hp es.nx es'.hp es'.nx->Ad es' (.t (.r (.l (.r .o))))=z->Q (.exit 6) es')
  (hR:(∃ i,uK m i)->∀ es',Al es.hp es.nx es'.hp es'.nx->Ad es' (.t (.r (.l .o)))=Cb->Ad es' (.t (.l (.r .o)))=iv 5->Q .ret es') :
  EW (cL 1000000 nG) (kN (k+5)) es Q:=by
 refine EW.up (m.length) (λi Ai=>Al es.hp es.nx Ai.hp Ai.nx/\(∀ j,j<i+1->¬ uK m j)/\Ad Ai (.t (.r (.l (.r .o))))=z/\Ad Ai (.t (.l (.r (.r .o))))=iv (i+1:Nat)) ?_ ⟨Al.refl _ _,λj hj ⟨h,_⟩=>by omega,Ny,Qq⟩ (by omega)
 rintro i Ai hi ⟨g,Mm,Ny,Qq⟩
 unfold nG
 have hle:=g.le
 have r:=hz.ka hn g
 by_cases h:i+1<m.length
 .obtain ⟨pA,vA,rA,_,_,lA,_⟩:=AN r (show i<m.length by omega)
  obtain ⟨pB,vB,rB,_,_,lB,_⟩:=AN r h
  have hd:Dm .sub (.v (.int .i64 ((i+1:Nat):Int))) (.v (.int .i64 1))=some (.v (.int .i64 (i:Int))):=D8 (i+1) (by omega) (by omega)
  simp only [As,↓Au,Ny,Qq,r.len,h,hd,D9 r (show i<m.length by omega),D9 r h,TO (k:=0) r (show i<m.length by omega),TO (k:=0) r h,lA,lB,r.rox (m:=13) (show n0<=Ai.nx by omega),Bz0 (m:=13) r (show n0<=Ai.nx by omega),Bz1 (m:=13) r (show n0<=Ai.nx by omega),rA.rox (m:=13) (show n0<=Ai.nx by omega),rB.rox (m:=13) (show n0<=Ai.nx by omega)]
  refine Ly rfl (Uy ?_)
  simp only [bR,Am,Az]
  refine F7 (k+1) n0 _ _ _ pA pB m[i].pos m[i+1].pos (by omega) rA rB (hb _ (Be _)) ?_
  by_cases c1:Cs m[i].pos m[i+1].pos=0
  .simp only [As,↓Au,Ak c1]
   exact hR ⟨i+1,by omega,h,c1⟩ _ (by simpa only [bR] using g.nx (show Ai.nx<=Ai.nx+13 by omega)) (by simp only [bR];rfl) (by simp only [bR])
  .simp only [As,↓Au,Ah c1,Ny,Qq,Hz (show i+1<_ by omega)]
   refine ⟨by omega,g.nx (show Ai.nx<=Ai.nx+13 by omega),λj hj=>?_⟩
   by_cases e:j=i+1
   .subst e
    exact λ⟨_,_,h3⟩=>c1 h3
   .exact Mm j (by omega)
 .simp only [As,↓Au,Ny,Qq,r.len,h]
  exact hQ (λj ⟨h1,h2,h3⟩=>Mm j (by omega) ⟨h1,h2,h3⟩) _ (by simpa only [bR] using g) (by simp only [bR,Ny])
theorem Bq6(hp:Tr DObj)(nx:Nat)(K:DV->Tr DObj->Nat->Prop)(d a cc ls:DV)(x:PArr)(l:List PCell)(hn:n0<=nx)(r1:RL rDim hp (Bl n0) d x.dims)(r2:RL rAttr hp (Bl n0) a x.attrs)(r3:RL rCell hp (Bl n0) cc x.cells)(hL:RL rChange hp (Bl n0) ls l)(hx:AOK x)(hl:l.length<eY)(hb:∀ c∈l,c.pos.length<900000)(hc:∀ c∈l,∀ v∈c.vals,Ww v)
  (hK:∀ An Bm z m e,Al hp nx An Bm->RL rChange An (Bl Bm) z m->tx x.dims x.attrs l e m->K (.tup [z,iv e]) An Bm):KW (kN (k+18)) (.fn 58) [.agg [d,a,cc],ls] hp nx K:=by
 have hmx:=vo
 refine nN (Hl (by decide)) t58 (Ab rfl) λes e1 e2 he=>?_
 have a0:Ad es (.t .o)=.agg [d,a,cc]:=he 0 _ rfl
 have a1:Ad es (.t (.l .o))=ls:=he 1 _ rfl
 unfold r58
 subst e1 e2
 simp only [↓Au]
 refine Xv (cs:=[d,a,cc]) (by rw [Ha,a0];exact AR.live r1 r2 r3) λEi Dn Dd=>?_
 simp only [bR] at Dn Dd
 have Fk:Al es.hp es.nx Ei (es.nx+1):=⟨by omega,λj hj=>Dd j (by omega)⟩
 have mw:=hL.ka hn Fk
 simp only [As,↓Au,a1,mw.len]
 refine C40 (k+11) n0 (hp:=Ei) (nx:=es.nx+1) (B:=es.nx) (ls:=ls) (d:=d) (a:=a) (cc:=cc) (l:=l) (D:=x.dims) (A:=x.attrs) (by omega) Dn (by omega) mw (r1.ka hn Fk) (r2.ka hn Fk) (by omega) hx.d hx.a hc (by simpa only [bR] using Al.refl _ _) (by simp only [bR,a1]) (by simp only [bR]) (by simp only [bR]) (by simp only [bR]) (by simp only [bR];rfl) (λh0 Cd g2 b1=>?_) λh0 Cd g2 b4 b5=>?_
 .have Dh:=Fk.trans g2
  have Gu:=Dh.le
  have Q8:=hL.ka hn Dh
  have mu:RL rChange Cd.hp (Bl Cd.nx) ls l:=Q8.mono λj (hj:j<n0)=>by show j<Cd.nx;omega
  simp only [As,↓Au,b1]
  refine Fh (B15 (k+16) _ _ _ ls Q8.ok Q8.live λGn Kv Hy=>?_)
  have Ev:Al es.hp es.nx Gn (Cd.nx+1):=⟨by omega,λj hj=>by rw [Hy j (by omega),Dh.same j hj]⟩
  have hL3:=mu.keep (An:=Gn) λj (hj:j<Cd.nx)=>Hy j (by omega)
  simp only [As,↓Au]
  refine Fh (Bq5 k Cd.nx _ _ _ Cd.nx _ ls l (by omega) Kv (by omega) hL3 hl hb λFq Ma z m aM Up jM aI=>?_)
  have Mw:Al es.hp es.nx Fq Ma:=⟨by omega,λj hj=>by rw [Up j (by omega),Ev.same j hj]⟩
  have Yj:m.length=l.length:=aI.1.length_eq
  simp only [As,↓Au]
  refine C41 (k+12) Ma (z:=z) (m:=m) (by simpa only [bR] using Ag _) (by simpa only [bR] using jM) (by omega) (λc hc=>hb c (aI.1.subset hc)) (by simp only [bR]) (by simp only [bR];rfl) (λhd SP g5 Ny=>?_) λhd SP g5 b4 b5=>?_
  .simp only [] at g5
   have JH:=jM.ka (Ag Ma) g5
   have fw:RL rChange SP.hp (Bl SP.nx) z m:=JH.mono λj (hj:j<Ma)=>by have:=g5.le;show j<SP.nx;omega
   simp only [As,↓Au,bP,Ny,JH.live]
   exact hK _ _ _ m 0 (Mw.trans g5) fw (.inr (.inr ⟨h0,rfl,aI,hd⟩))
  .simp only [] at g5
   simp only [As,↓Au,bP,b4,b5]
   obtain ⟨i,hi⟩:=hd
   exact hK _ _ _ [] 5 (Mw.trans g5) .nil (.inr (.inl ⟨h0,rfl,rfl,m,i,aI,hi⟩))
 .simp only [As,↓Au,bP,b4,b5]
  exact hK _ _ _ _ _ (Fk.trans g2) .nil (.inl ⟨h0,rfl,rfl⟩)
end
end Go.DD

/- Contracts: BinarySearchFunc of cells by a place. Conditions: those that each theorem states. -/
namespace Go.DD
open Go Go.Proofs Go.Sort
def kL:DV:=.fn (.func 131) [.tup []]
theorem Bb9(hp:Tr DObj):Cg hp kL=kL:=dW (by simp [kL,DV.refs,DV.refsL])
structure Low (l:List PCell) (p:List Int) (w:Nat):Prop where
 le:w<=l.length
 lo:∀ t (h:t<l.length),t<w->Cs l[t].pos p<0
 hi:∀ t (h:t<l.length),w<=t->¬ Cs l[t].pos p<0
def Uh(l:List PCell)(p:List Int)(w:Nat):Bool:=match l[w]? with
 | some c=>decide (Cs c.pos p=0)
 | none=>false
section
variable (k n0:Nat) (hp:Tr DObj) (nx:Nat) (K:DV->Tr DObj->Nat->Prop)
theorem Cl3(x y t:DV)(c:PCell)(p:List Int)(hn:n0<=nx)(h1:RL rInt hp (Bl n0) x c.pos)(h2:RL rVal hp (Bl n0) y c.vals)(h3:RL rInt hp (Bl n0) t p)(hl:c.pos.length<900000)
  (hK:∀ An Bm,Al hp nx An Bm->K (iv (Cs c.pos p)) An Bm):KW (kN (k+5)) (.fn 131) [.agg [x,y],t] hp nx K:=by
 refine Es (Hl (by decide)) YB (Ab rfl) λes e1 e2 he=>?_
 have a0:Ad es (.t .o)=.agg [x,y]:=he 0 _ rfl
 have a1:Ad es (.t (.l .o))=t:=he 1 _ rfl
 unfold FN
 subst e1 e2
 simp only [↓Au]
 refine Xv (cs:=[x,y]) (by rw [Ha,a0];exact Wn h1 h2) λEi Dn Dd=>?_
 simp only [bR] at Dn Dd
 have Fk:Al es.hp es.nx Ei (es.nx+1):=⟨by omega,λj hj=>Dd j (by omega)⟩
 obtain ⟨⟨f0,_⟩,l0,_,_⟩:=Wl Dn
 simp only [As,↓Au,a1,f0,l0]
 refine Fh (F7 (k:=k) n0 _ _ _ x t _ _ (by omega) (h1.ka hn Fk) (h3.ka hn Fk) hl ?_)
 simp only [As,↓Au,bP]
 exact hK _ _ Fk
theorem C42(d t:DV)(l:List PCell)(p:List Int)(w:Nat)(hn:n0<=nx)(h1:RL rCell hp (Bl n0) d l)(h3:RL rInt hp (Bl n0) t p)(hl:l.length<900000)(hb:∀ c∈l,c.pos.length<900000)(hw:Low l p w)
  (hK:∀ An Bm,Al hp nx An Bm->K (.tup [iv (w:Nat),bv (Uh l p w)]) An Bm):KW (kN (k+6)) (.fn 130) [d,t,kL] hp nx K:=by
 refine nN (Hl (by decide)) YC (Ab rfl) λes e1 e2 he=>?_
 have a0:Ad es (.t .o)=d:=he 0 _ rfl
 have a1:Ad es (.t (.l .o))=t:=he 1 _ rfl
 have a2:Ad es (.t (.r .o))=kL:=he 2 _ rfl
 unfold FO
 subst e1 e2
 have lE:=hw.le
 simp only [As,↓Au,a0,h1.len]
 refine EW.l (I:=λm Ai=>∃ i j:Nat,m=j-i/\i<=w/\w<=j/\j<=l.length/\Al es.hp es.nx Ai.hp Ai.nx/\Ad Ai (.t .o)=d/\Ad Ai (.t (.l .o))=t/\Ad Ai (.t (.r .o))=kL/\Ad Ai (.t (.r (.l (.l .o))))=iv l.length/\Ad Ai (.t (.l (.r (.l .o))))=iv (i:Nat)/\Ad Ai (.t (.r (.r (.l .o))))=iv (j:Nat)) ?_ l.length 1000000 _ ⟨0,l.length,rfl,by omega,by omega,by omega,Al.refl _ _,by simp only [bR,a0],by simp only [bR,a1],by simp only [bR,a2],by simp only [bR],by simp only [bR];rfl,by simp only [bR]⟩ (by omega)
 rintro m Ai ⟨i,j,hm,hi,hj,Wb,g,b0,b1,b2,b8,b9,b10⟩
 unfold Ck6
 have hle:=g.le
 have r:=h1.ka hn g
 have rt:=h3.ka hn g
 by_cases h:i<j
 .have Yj:(i+j) / 2<l.length:=by omega
  obtain ⟨M,hM⟩:∃ M,M=(i+j) / 2:=⟨_,rfl⟩
  have W9:M<l.length:=by omega
  have hh:Dm .shr (.v (.int .u64 ((i+j:Nat):Int))) (.v (.int .u64 1))=some (.v (.int .u64 (M:Int))):=by rw [ON,<- hM]
  obtain ⟨x,y,rx,ry,lx,_,_,_⟩:=Ek r W9
  simp only [As,↓Au,bP,b0,b1,b2,b9,b10,h,lW (show i+j<_ by omega),Zo (show i+j<_ by omega),hh,Zp (show M<_ by omega),Yq r W9,lx]
  refine gI (f:=131) (cs:=[]) (by simp only [Ha,bR];exact Bb9 _) ?_
  simp only [bR,Am,Az,Da,By]
  refine Cl3 k n0 _ _ _ x y t l[M] p (by omega) rx ry rt (hb _ (Be _)) λCw Dt Dh=>?_
  by_cases c1:Cs l[M].pos p<0
  .simp only [As,↓Au,Ak c1,Hz (show M<_ by omega)]
   have:M<w:=Vm λh=>hw.hi M W9 h c1
   exact ⟨j-(M+1),by omega,M+1,j,rfl,by omega,hj,Wb,g.trans Dh,b0,b1,b2,b8,rfl,b10⟩
  .simp only [As,↓Au,Ah c1]
   have:w<=M:=Nat.le_of_not_lt λh=>c1 (hw.lo M W9 h)
   exact ⟨M-i,by omega,i,M,rfl,hi,by omega,by omega,g.trans Dh,b0,b1,b2,b8,b9,rfl⟩
 .have Nu:i=w:=by omega
  subst Nu
  by_cases hx:i<l.length
  .obtain ⟨x,y,rx,ry,lx,_,_,_⟩:=Ek r hx
   have aO:Uh l p i=decide (Cs l[i].pos p=0):=by unfold Uh;rw [Aa hx]
   simp only [As,↓Au,b0,b1,b2,b8,b9,b10,h,hx,Yq r hx,lx]
   refine gI (f:=131) (cs:=[]) (by simp only [Ha,bR];exact Bb9 _) ?_
   simp only [bR,Am,Az,Da,By]
   refine Cl3 k n0 _ _ _ x y t l[i] p (by omega) rx ry rt (hb _ (Be _)) λCw Dt Dh=>?_
   rw [aO] at hK
   simp only [As,↓Au,bP]
   exact hK _ _ (g.trans Dh)
  .have aO:Uh l p i=false:=by unfold Uh;rw [Ff (by omega)]
   rw [aO] at hK
   simp only [As,↓Au,bP,b8,b9,b10,h,hx]
   exact hK _ _ g
end
end Go.DD

/- Plain: where a place lies in sorted cells; changes laid over cells. -/
namespace Go.DD
open Go Go.Proofs Go.Sort
def Fj(p:List Int)(l:List PCell):Nat:=(l.takeWhile λe=>decide (Cs e.pos p<0)).length
abbrev Ky(l:List PCell):Prop:=l.Pairwise λx y=>Cs x.pos y.pos = -1
theorem HK{a b p:List Int}(h1:Cs a b = -1)(h2:Cs b p<0):Cs a p<0:=by
 have h:=swoC.trans ⟨a,[]⟩ ⟨b,[]⟩ ⟨p,[]⟩ (by unfold Yh;exact Ak (by show Cs a b<0;omega)) (by unfold Yh;exact Ak h2)
 unfold Yh at h
 exact En h
theorem OM(p:List Int):∀ {l:List PCell},Ky l->Low l p (Fj p l)
 | [],_=>⟨Fo _,λt h=>absurd h (by simp),λt h=>absurd h (by simp)⟩
 | c::l,h=>by
  obtain ⟨h1,h2⟩:=Eg.1 h
  by_cases hc:Cs c.pos p<0
  .have e:Fj p (c::l)=Fj p l+1:=by unfold Fj;rw [List.takeWhile_cons,Af (Ak hc),Ec]
   rw [e]
   have ih:=OM p h2
   refine ⟨by have:=ih.le;simp only [Ec];omega,λt ht Et=>?_,λt ht hle=>?_⟩
   .cases t with
    | zero=>exact hc
    | succ t=>exact ih.lo t (by simpa using ht) (by omega)
   .cases t with
    | zero=>omega
    | succ t=>exact ih.hi t (by simpa using ht) (by omega)
  .have e:Fj p (c::l)=0:=by unfold Fj;rw [List.takeWhile_cons,Ae (by simpa using hc)];rfl
   rw [e]
   refine ⟨Fo _,λt _ Et=>by omega,λt ht _=>?_⟩
   cases t with
   | zero=>exact hc
   | succ t=>
    have Wi:t<l.length:=by simpa using ht
    exact λh3=>hc (HK (h1 _ (Be Wi)) h3)
def Ie(p:List Int)(l:List PCell):Nat:=if Uh l p (Fj p l)=true then Fj p l+1 else Fj p l
theorem C43{p:List Int}{l:List PCell}(h:Ky l):Ie p l<=l.length:=by
 have hw:=OM p h
 unfold Ie
 split
 .rename_i hi
  have:Fj p l<l.length:=by
   refine Vm λhle=>?_
   unfold Uh at hi
   rw [Ff hle] at hi
   cases hi
  omega
 .exact hw.le
def Pw:List PCell->List PCell->List PCell
 | [],cs=>cs
 | c::l,cs=>cs.take (Fj c.pos cs)++((if c.vals=[] then [] else [c])++Pw l (cs.drop (Ie c.pos cs)))
theorem Y4:∀ (l cs:List PCell),(Pw l cs).length<=l.length+cs.length
 | [],cs=>by simp [Pw]
 | c::l,cs=>by
  have ih:=Y4 l (cs.drop (Ie c.pos cs))
  have h1:Fj c.pos cs<=Ie c.pos cs:=by unfold Ie;split <;> omega
  have h2:Fj c.pos cs<=cs.length:=by unfold Fj;exact (List.takeWhile_sublist _).length_le
  have h3:(if c.vals=[] then ([]:List PCell) else [c]).length<=1:=by split <;> simp
  unfold Pw
  simp only [Ao,Bt,Ck,Ec] at ih ⊢
  omega
end Go.DD

/- Contracts: changes laid over cells. Conditions: those that each theorem states. -/
namespace Go.DD
open Go Go.Proofs Go.Sort
section
variable (k:Nat) (hp:Tr DObj) (nx:Nat) (K:DV->Tr DObj->Nat->Prop)
theorem Cl4(P:Nat->Prop)(ls d:DV)(l cs:List PCell)(hP:∀ j,P j->j<nx)(hL:RL rChange hp P ls l)(hd:RL rCell hp P d cs)(hl:l.length+cs.length<900000)(hs:Ky cs)(hb:∀ c∈cs,c.pos.length<900000)
  (hK:∀ An Bm z,Al hp nx An Bm->RL rCell An (λj=>P j\/(nx<=j/\j<Bm)) z (Pw l cs)->(∀ j∈z.refs,nx<=j)->K z An Bm):KW (kN (k+7)) (.fn 60) [ls,d] hp nx K:=by
 refine Es (Hl (by decide)) t60 (Ab rfl) λes e1 e2 he=>?_
 have a0:Ad es (.t .o)=ls:=he 0 _ rfl
 have a1:Ad es (.t (.l .o))=d:=he 1 _ rfl
 unfold r60
 subst e1 e2
 simp only [As,↓Au,a0,hL.len]
 refine EW.up l.length (λi Ai=>∃ d1 Jv z O,Al es.hp es.nx Ai.hp Ai.nx/\RL rCell Ai.hp P d1 Jv/\OL rCell Ai.hp P z O/\(∀ j∈z.refs,es.nx<=j/\j<Ai.nx)/\Ky Jv/\(∀ c∈Jv,c.pos.length<900000)/\O++Pw (l.drop i) Jv=Pw l cs/\O.length+Jv.length<=i+cs.length/\Ad Ai (.t (.l .o))=d1/\Ad Ai (.t (.l (.r .o)))=z/\Ad Ai (.t (.r (.r (.l .o))))=ls/\Ad Ai (.t (.l (.l (.r .o))))=iv l.length/\Ad Ai (.t (.r (.l (.r .o))))=iv (i:Nat)) ?_ ⟨d,cs,Cb,[],Al.refl _ _,hd,.nil,λj hj=>by (cases hj),hs,hb,rfl,by simp,by simp only [bR,a1],by simp only [bR];rfl,by simp only [bR],by simp only [bR],by simp only [bR];rfl⟩ (by omega)
 rintro i Ai hi ⟨d1,Jv,z,O,g,rd,ro,rz,Mi,bG,hO,hlen,b1,b5,b10,b11,Ny⟩
 unfold yC
 have hle:=g.le
 by_cases h:i<l.length
 .have r:=hL.keep (An:=Ai.hp) λj hj=>by (have:=hP j hj;exact g.same j (by omega))
  obtain ⟨x,y,rx,ry,lC,_,_⟩:=AN r h
  have hdr:Pw (l.drop i) Jv=Jv.take (Fj l[i].pos Jv)++((if l[i].vals=[] then [] else [l[i]])++Pw (l.drop (i+1)) (Jv.drop (Ie l[i].pos Jv))):=by rw [Bb h,Pw]
  rw [hdr] at hO
  simp only [As,↓Au,b10,b11,Ny,h,D9 r h,lC]
  refine Rz λEi Dn Dd=>?_
  simp only [bR] at Dn Dd
  have DN:=rx.keep (An:=Ei) λj hj=>by (have:=hP j hj;exact Dd j (by omega))
  have DM:=ry.keep (An:=Ei) λj hj=>by (have:=hP j hj;exact Dd j (by omega))
  simp only [As,↓Au]
  refine Qx (n:=2) (id:=Ai.nx) (ds:=[x,y]) (by simp only [bR]) Dn (by simp only [Ha,bR];exact Wn DN DM) rfl rfl λCw Fw Fa=>?_
  simp only [bR] at Fw Fa
  have k2:∀ j,j<Ai.nx->Cw.get j=Ai.hp.get j:=λj hj=>by rw [Fa j (by omega),Dd j (by omega)]
  obtain ⟨⟨f0,f1⟩,l0,l1,_⟩:=Wl Fw
  have sJ:=rx.keep (An:=Cw) λj hj=>by (have:=hP j hj;exact k2 j (by omega))
  have sI:=ry.keep (An:=Cw) λj hj=>by (have:=hP j hj;exact k2 j (by omega))
  have QQ:=rd.keep (An:=Cw) λj hj=>by (have:=hP j hj;exact k2 j (by omega))
  have hw:=OM l[i].pos Mi
  have gZ:=C43 (p:=l[i].pos) Mi
  have jb:=hw.le
  have hwn:Fj l[i].pos Jv<=Ie l[i].pos Jv:=by unfold Ie;split <;> omega
  simp only [As,↓Au,b1,f0,l0]
  refine Fh (C42 k Ai.nx _ _ _ d1 x Jv l[i].pos (Fj l[i].pos Jv) (by omega) (QQ.mono λj hj=>by (have:=hP j hj;show j<Ai.nx;omega)) (sJ.mono λj hj=>by (have:=hP j hj;show j<Ai.nx;omega)) (by omega) bG hw λGn Dy Ev=>?_)
  have Iw:=Ev.le
  have k3:∀ j,j<Ai.nx->Gn.get j=Ai.hp.get j:=λj hj=>by rw [Ev.same j (by omega),k2 j hj]
  have U7:=rd.keep (An:=Gn) λj hj=>by (have:=hP j hj;exact k3 j (by omega))
  have ro3:=ro.keep (An:=Gn) λj hj=>k3 j (hj.elim (λh=>by (have:=hP j h;omega)) λh=>(rz j h).2)
  simp only [As,↓Au,b1,b5,MV]
  refine E3 (R:=rCell) (a:=0) (z:=Fj l[i].pos Jv) (d:=d1) (by simp only [bR,bP]) U7 rfl rfl (λn hn=>by simp only [AG,Dc,bR,bP];rfl) (by omega) jb ?_
  have YV:=U7.part (a:=0) (z:=Fj l[i].pos Jv) (by omega) jb
  simp only [Gb,Nat.sub_zero] at YV
  simp only [As,↓Au]
  refine eL (R:=rCell) (p:=P) (p2:=P) (d:=z) (d2:=lD rCell.e 0 (Fj l[i].pos Jv) d1) (l:=O) (m:=Jv.take (Fj l[i].pos Jv)) (by simp only [bR,bP]) ro3 (by simp only [Dc,bR,bP];exact YV.live) (YV.srcD (es:=⟨_,Gn,_⟩)) rfl rfl (by rw [Bt];omega) (by decide) λFq Fl h4=>?_
  simp only [bR] at Fl h4
  have o4:=h4 P λj hj=>by
   have oB:P j:=hj.elim id id
   have:=hP j oB
   exact ⟨oB,by omega,λh=>by have:=(rz j h).1;omega⟩
  have k4:∀ j,j<es.nx->Fq.get j=Ai.hp.get j:=λj hj=>by rw [Fl j (by omega) λh=>by (have:=(rz j h).1;omega),k3 j (by omega)]
  have gC4:Fq.get Ai.nx=some (.row 62 [x,y]):=by rw [Fl _ (by omega) λh=>by (have:=(rz _ h).2;omega),Ev.same _ (by omega),Fw]
  obtain ⟨⟨p0,p1⟩,m0,m1,_⟩:=Wl gC4
  have H8:=ry.keep (An:=Fq) λj hj=>by (have:=hP j hj;exact k4 j (by omega))
  have QM:=rx.keep (An:=Fq) λj hj=>by (have:=hP j hj;exact k4 j (by omega))
  have wQ:=rd.keep (An:=Fq) λj hj=>by (have:=hP j hj;exact k4 j (by omega))
  have hOl:(O++Jv.take (Fj l[i].pos Jv)).length=O.length+Fj l[i].pos Jv:=by rw [Ao,Bt];omega
  by_cases hv:l[i].vals=[]
  .rw [Af hv,By,<- Bv] at hO
   have V5:l[i].vals.length=0:=by rw [hv];rfl
   cases MF:Uh Jv l[i].pos (Fj l[i].pos Jv) with
   | true=>
    .have Tw:Ie l[i].pos Jv=Fj l[i].pos Jv+1:=by unfold Ie;rw [Af MF]
     rw [Tw] at hO gZ
     simp only [As,↓Au,p1,m1,H8.len,show decide ((0:Int)<(l[i].vals.length:Int))=false from Ah (by omega),b1,Hz (show Fj l[i].pos Jv<_ by omega)]
     refine E3 (R:=rCell) (a:=Fj l[i].pos Jv+1) (z:=Jv.length) (d:=d1) (by simp only [bR,bP]) wQ rfl (by simp only [AG,Dc,bR,bP];rfl) (λn hn=>by rw [UQ,hn]) gZ (Ag _) ?_
     have rs:=wQ.part (a:=Fj l[i].pos Jv+1) (z:=Jv.length) gZ (Ag _)
     rw [Bq (by rw [Ck];omega)] at rs
     simp only [As,↓Au,b10,b11,Ny,h,Hz (show i<_ by omega)]
     exact ⟨_,_,_,_,⟨by omega,λj hj=>by rw [k4 j hj,g.same j hj]⟩,rs,o4,λj hj=>by (have:j=Dy:=by simpa [DV.refs] using hj);omega,Mi.sublist (Kh _ _),λc hc=>bG c (Di hc),hO,by (simp only [Ao,Bt,Ck];omega),rfl,rfl⟩
   | false=>
    .have Tw:Ie l[i].pos Jv=Fj l[i].pos Jv:=by unfold Ie;rw [Ae (by rw [MF];decide)]
     rw [Tw] at hO gZ
     simp only [As,↓Au,p1,m1,H8.len,show decide ((0:Int)<(l[i].vals.length:Int))=false from Ah (by omega),b1]
     refine E3 (R:=rCell) (a:=Fj l[i].pos Jv) (z:=Jv.length) (d:=d1) (by simp only [bR,bP]) wQ rfl (by simp only [AG,Dc,bR,bP];rfl) (λn hn=>by rw [UQ,hn]) gZ (Ag _) ?_
     have rs:=wQ.part (a:=Fj l[i].pos Jv) (z:=Jv.length) gZ (Ag _)
     rw [Bq (by rw [Ck];omega)] at rs
     simp only [As,↓Au,b10,b11,Ny,h,Hz (show i<_ by omega)]
     exact ⟨_,_,_,_,⟨by omega,λj hj=>by rw [k4 j hj,g.same j hj]⟩,rs,o4,λj hj=>by (have:j=Dy:=by simpa [DV.refs] using hj);omega,Mi.sublist (Kh _ _),λc hc=>bG c (Di hc),hO,by (simp only [Ao,Bt,Ck];omega),rfl,rfl⟩
  .rw [Ae hv,<- Bv,<- Bv] at hO
   have V5:0<l[i].vals.length:=Lu.2 hv
   simp only [As,↓Au,p0,p1,m0,m1,H8.len,show decide ((0:Int)<(l[i].vals.length:Int))=true from Ak (by omega)]
   refine OS (cs:=[x,y]) (by simp only [Am,Az,Dc,bR,bP,QM.live,H8.live];exact OO QM.ok H8.ok) ?_
   simp only [As,↓Au]
   refine eK (fl:=[x,y]) rfl (by simp only [Am,Az,Dc,bR,bP,Wn QM H8];rfl) λGr Qw Jd=>?_
   simp only [bR] at Qw Jd
   have rx5:=QM.keep (An:=Gr) λj hj=>by (have:=hP j hj;exact Jd j (by omega))
   have ry5:=H8.keep (An:=Gr) λj hj=>by (have:=hP j hj;exact Jd j (by omega))
   have o5:=o4.keep (An:=Gr) λj hj=>Jd j (hj.elim (λh=>by (have:=hP j h;omega)) λh=>by (have:j=Dy:=by simpa [DV.refs] using h);omega)
   simp only [As,↓Au]
   refine eL (R:=rCell) (p:=P) (p2:=P) (d:=.ms Dy 0 (O++Jv.take (Fj l[i].pos Jv)).length rCell.e) (d2:=.ms (Dy+1) 0 1 2) (l:=O++Jv.take (Fj l[i].pos Jv)) (m:=[l[i]]) (by simp only [bR,bP]) o5 (by simp only [Dc,bR,bP];exact Yb Qw) (T6 (R:=rCell) (x:=l[i]) Qw (rCell_rd.2 ⟨x,y,rfl,rx5,ry5⟩)) rfl rfl (by rw [hOl,Bk];omega) (by decide) λIv Ve h6=>?_
   simp only [bR] at Ve h6
   have o6:=h6 P λj hj=>by
    have oB:P j:=hj.elim id id
    have:=hP j oB
    exact ⟨oB,by omega,λh=>by (have:j=Dy:=by simpa [DV.refs] using h);omega⟩
   have k6:∀ j,j<es.nx->Iv.get j=Ai.hp.get j:=λj hj=>by rw [Ve j (by omega) λh=>by (have:j=Dy:=by simpa [DV.refs] using h);omega,Jd j (by omega),k4 j hj]
   have U6:=rd.keep (An:=Iv) λj hj=>by (have:=hP j hj;exact k6 j (by omega))
   cases MF:Uh Jv l[i].pos (Fj l[i].pos Jv) with
   | true=>
    .have Tw:Ie l[i].pos Jv=Fj l[i].pos Jv+1:=by unfold Ie;rw [Af MF]
     rw [Tw] at hO gZ
     simp only [As,↓Au,b1,Hz (show Fj l[i].pos Jv<_ by omega)]
     refine E3 (R:=rCell) (a:=Fj l[i].pos Jv+1) (z:=Jv.length) (d:=d1) (by simp only [bR,bP]) U6 rfl (by simp only [AG,Dc,bR,bP];rfl) (λn hn=>by rw [UQ,hn]) gZ (Ag _) ?_
     have rs:=U6.part (a:=Fj l[i].pos Jv+1) (z:=Jv.length) gZ (Ag _)
     rw [Bq (by rw [Ck];omega)] at rs
     simp only [As,↓Au,b10,b11,Ny,h,Hz (show i<_ by omega)]
     exact ⟨_,_,_,_,⟨by omega,λj hj=>by rw [k6 j hj,g.same j hj]⟩,rs,o6,λj hj=>by (have:j=Dy+1+1:=by simpa [DV.refs] using hj);omega,Mi.sublist (Kh _ _),λc hc=>bG c (Di hc),hO,by (simp only [Ao,Bt,Ck,Bk];omega),rfl,rfl⟩
   | false=>
    .have Tw:Ie l[i].pos Jv=Fj l[i].pos Jv:=by unfold Ie;rw [Ae (by rw [MF];decide)]
     rw [Tw] at hO gZ
     simp only [As,↓Au,b1]
     refine E3 (R:=rCell) (a:=Fj l[i].pos Jv) (z:=Jv.length) (d:=d1) (by simp only [bR,bP]) U6 rfl (by simp only [AG,Dc,bR,bP];rfl) (λn hn=>by rw [UQ,hn]) gZ (Ag _) ?_
     have rs:=U6.part (a:=Fj l[i].pos Jv) (z:=Jv.length) gZ (Ag _)
     rw [Bq (by rw [Ck];omega)] at rs
     simp only [As,↓Au,b10,b11,Ny,h,Hz (show i<_ by omega)]
     exact ⟨_,_,_,_,⟨by omega,λj hj=>by rw [k6 j hj,g.same j hj]⟩,rs,o6,λj hj=>by (have:j=Dy+1+1:=by simpa [DV.refs] using hj);omega,Mi.sublist (Kh _ _),λc hc=>bG c (Di hc),hO,by (simp only [Ao,Bt,Ck,Bk];omega),rfl,rfl⟩
 .rw [Bc (by omega)] at hO
  have hO':O++Jv=Pw l cs:=hO
  simp only [As,↓Au,b1,b5,b11,Ny,h]
  refine eL (R:=rCell) (p:=P) (p2:=P) (d:=z) (d2:=d1) (l:=O) (m:=Jv) (by simp only [bR,bP]) ro (by simp only [Dc,bR,bP];exact rd.live) (rd.srcD (es:=⟨_,Ai.hp,_⟩)) rfl rfl (by omega) (by decide) λFq Fl h4=>?_
  simp only [bR] at Fl h4
  have o4:=h4 P λj hj=>by
   have oB:P j:=hj.elim id id
   have:=hP j oB
   exact ⟨oB,by omega,λh=>by have:=(rz j h).1;omega⟩
  have r4:RL rCell Fq (λj=>P j\/(es.nx<=j/\j<Ai.nx+1)) (.ms Ai.nx 0 (O++Jv).length rCell.e) (O++Jv):=o4.rl.mono λj hj=>by
   rcases hj with hj | hj
   .exact .inl hj
   .have:j=Ai.nx:=by simpa [DV.refs] using hj
    exact .inr ⟨by omega,by omega⟩
  simp only [As,↓Au,bP,r4.live]
  rw [hO'] at r4
  exact hK _ _ _ ⟨by omega,λj hj=>by rw [Fl j (by omega) λh=>by (have:=(rz j h).1;omega),g.same j hj]⟩ (by rw [hO'];exact r4) λj hj=>by (have:j=Ai.nx:=by simpa [DV.refs] using hj);omega
theorem HT(n0:Nat)(ls d:DV)(l cs:List PCell)(hn:n0<=nx)(hL:RL rChange hp (Bl n0) ls l)(hd:RL rCell hp (Bl n0) d cs)(hl:l.length+cs.length<900000)(hs:Ky cs)(hb:∀ c∈cs,c.pos.length<900000)
  (hK:∀ An Bm z,Al hp nx An Bm->RL rCell An (λj=>j<n0\/(nx<=j/\j<Bm)) z (Pw l cs)->(∀ j∈z.refs,nx<=j)->K z An Bm):KW (kN (k+7)) (.fn 60) [ls,d] hp nx K:=Cl4 k hp nx K (Bl n0) ls d l cs (λ_ hj=>Bs hj hn) hL hd hl hs hb hK
end
end Go.DD

/- Plain: sorted changes laid over sorted cells are sorted cells. -/
namespace Go.DD
open Go Go.Proofs Go.Sort
theorem vn{a b:List Int}(h:¬ Cs b a<0):Cs a b = -1\/a=b:=by
 have h1:=uU a b
 rcases kZ a b with h2 | h2 | h2
 .exact .inl h2
 .exact .inr (cmpL_0.1 h2)
 .omega
theorem Bm2{l m:List PCell}(h:gC l m)(hd:∀ i,¬ uK m i):Ky m:=by
 refine Db.2 λi j hi hj Nu=>?_
 have hp:=Db.1 h.2
 have le:∀ (i j:Nat) (hi:i<m.length) (hj:j<m.length),i<j->Cs m[i].pos m[j].pos = -1\/m[i].pos=m[j].pos:=λi j hi hj Nu=>by
  have h1:=hp i j hi hj Nu
  exact vn (by unfold Yh at h1;exact Jk h1)
 rcases le i j hi hj Nu with h1 | h1
 .exact h1
 .refine absurd ?_ (hd (i+1))
  refine ⟨by omega,by omega,?_⟩
  show Cs m[i].pos m[i+1].pos=0
  rcases le i (i+1) hi (by omega) (by omega) with h2 | h2
  .by_cases e:i+1=j
   .subst e;rw [h1];exact eO _
   .rcases le (i+1) j (by omega) hj (by omega) with h3 | h3
    .have h4:=mC h2 h3
     rw [h1,eO] at h4
     cases h4
    .rw [h1,<- h3];exact eO _
  .rw [<- h2];exact eO _
theorem B18{m:List PCell}(h:Ky m):(m.map PCell.pos).Nodup:=by
 rw [List.Nodup,List.pairwise_map]
 exact h.imp λh=>A23 h
theorem Ct2{l m:List PCell}(h:gC l m){i:Nat}(hd:uK m i):¬ (l.map PCell.pos).Nodup:=λhn=>by
 have h1:(m.map PCell.pos).Nodup:=(h.1.map _).nodup_iff.2 hn
 obtain ⟨h0,h2,h3⟩:=hd
 have h4:=Db.1 h1 (i-1) i (by simp;omega) (by simpa using h2) (by omega)
 simp only [Ey] at h4
 exact h4 (cmpL_0.1 h3)
theorem Ca6{l m:List PCell}(h:gC l m)(hd:∀ i,¬ uK m i):(l.map PCell.pos).Nodup:=(h.1.map _).nodup_iff.1 (B18 (Bm2 h hd))
theorem B19{p:List Int}{cs:List PCell}(hs:Ky cs):∀ e∈cs.take (Fj p cs),Cs e.pos p = -1:=λe he=>by
 obtain ⟨t,ht,rfl⟩:=Em he
 rw [Er]
 have Wi:t<Fj p cs/\t<cs.length:=by rw [Bt] at ht;omega
 have:=(OM p hs).lo t Wi.2 Wi.1
 have:=kZ (cs[t]'Wi.2).pos p
 omega
theorem B20{p:List Int}{cs:List PCell}(hs:Ky cs):∀ e∈cs.drop (Ie p cs),Cs p e.pos = -1:=λe he=>by
 obtain ⟨t,ht,rfl⟩:=Em he
 rw [Kg]
 have Wi:Ie p cs+t<cs.length:=by rw [Ck] at ht;omega
 have hw:=OM p hs
 have hwn:Fj p cs<=Ie p cs:=by unfold Ie;split <;> omega
 have h1:=hw.hi (Ie p cs+t) Wi (by omega)
 rcases vn h1 with h2 | h2
 .exact h2
 .exfalso
  have lE:Fj p cs<cs.length:=by omega
  by_cases hi:Uh cs p (Fj p cs)=true
  .have hn:Ie p cs=Fj p cs+1:=by unfold Ie;rw [Af hi]
   unfold Uh at hi
   rw [Aa lE] at hi
   have h3:=cmpL_0.1 (En hi)
   have h4:=Db.1 hs (Fj p cs) (Ie p cs+t) lE Wi (by omega)
   rw [h3,<- h2,eO] at h4
   cases h4
  .have hn:Ie p cs=Fj p cs:=by unfold Ie;rw [Ae hi]
   unfold Uh at hi
   rw [Aa lE] at hi
   have h3:¬ Cs cs[Fj p cs].pos p=0:=λh=>hi (Ak h)
   have h5:=hw.hi (Fj p cs) lE (Ag _)
   rcases vn h5 with h6 | h6
   .by_cases e:t=0
    .subst e
     have:cs[Ie p cs+0].pos=cs[Fj p cs].pos:=by congr 1;simp [hn]
     rw [<- this,<- h2] at h3
     exact h3 (eO _)
    .have h4:=Db.1 hs (Fj p cs) (Ie p cs+t) lE Wi (by omega)
     have:=mC h6 h4
     rw [<- h2,eO] at this
     cases this
   .rw [<- h6] at h3;exact h3 (eO _)
theorem VI:∀ {l cs:List PCell},∀ e∈Pw l cs,e∈cs\/(e∈l/\e.vals≠[])
 | [],cs,e,h=>.inl h
 | c::l,cs,e,h=>by
  unfold Pw at h
  rcases Ax.1 h with h | h
  .exact .inl (Gv h)
  .rcases Ax.1 h with h | h
   .split at h
    .cases h
    .rename_i hv
     have:e=c:=by simpa using h
     subst this
     exact .inr ⟨by simp,hv⟩
   .rcases VI e h with h | h
    .exact .inl (Di h)
    .exact .inr ⟨Bh _ h.1,h.2⟩
theorem vm:∀ {l cs:List PCell},Ky l->Ky cs->Ky (Pw l cs)
 | [],cs,_,h=>h
 | c::l,cs,hl,hs=>by
  obtain ⟨h1,h2⟩:=Eg.1 hl
  have ih:=vm (l:=l) (cs:=cs.drop (Ie c.pos cs)) h2 (hs.sublist (Kh _ _))
  have hi:∀ e∈Pw l (cs.drop (Ie c.pos cs)),Cs c.pos e.pos = -1:=λe he=>by
   rcases VI e he with h | h
   .exact B20 hs e h
   .exact h1 e h.1
  unfold Pw
  refine Zx.2 ⟨hs.sublist (List.take_sublist _ _),Zx.2 ⟨by split <;> simp,ih,λa ha b hb=>?_⟩,λa ha b hb=>?_⟩
  .split at ha
   .cases ha
   .have:a=c:=by simpa using ha
    rw [this];exact hi b hb
  .have h3:=B19 hs a ha
   rcases Ax.1 hb with hb | hb
   .split at hb
    .cases hb
    .have:b=c:=by simpa using hb
     rw [this];exact h3
   .exact mC h3 (hi b hb)
end Go.DD

/- Contracts: the program's Apply. Conditions: those that each theorem states. -/
namespace Go.DD
open Go Go.Proofs Go.Sort
theorem B21{d:List PDim}{a:List PAttr}{c:PCell}(h:Me d a c=0)(hv:c.vals≠[]):Hb d a c=0:=by
 have hl:c.vals.length≠0:=λe=>hv (List.length_eq_zero_iff.1 e)
 unfold Me at h
 by_cases h1:c.pos.length≠d.length\/(c.vals.length≠0/\c.vals.length≠a.length)
 .rw [Af h1] at h;cases h
 .rw [Ae h1] at h
  by_cases h2:gM d c.pos=false
  .rw [Af h2] at h;cases h
  .rw [Ae h2] at h
   by_cases h3:On c.vals a=false
   .rw [Af h3] at h;cases h
   .have e1:c.pos.length=d.length:=by omega
    have e2:c.vals.length=a.length:=by omega
    have h4:sS d c.pos=true:=by unfold sS;rw [Ak e1];simpa using h2
    unfold Hb
    rw [Ae (by omega),Ae (by rw [h4];decide),Ae h3]
theorem Bm3{d:List PDim}{a:List PAttr} : ∀ {l:List PCell},Jh d a l=0->∀ c∈l,Me d a c=0
 | [],_=>λc hc=>by cases hc
 | c::l,h=>by
  unfold Jh at h
  by_cases h1:Me d a c≠0
  .rw [Af h1] at h;exact absurd h h1
  .rw [Ae h1] at h
   intro e he
   rcases Ap.1 he with rfl | he
   .omega
   .exact Bm3 h e he
theorem Bm4{x:PArr}{l m:List PCell}(hx:Mf x=0)(hc:Jh x.dims x.attrs l=0)(hm:m.Perm l)(hs:Ky m)(hl:x.cells.length+l.length<=1024):Mf ⟨x.dims,x.attrs,Pw m x.cells⟩=0:=by
 obtain ⟨h1,h2,h3⟩:=jC hx
 have hlen:=Y4 m x.cells
 have Yj:=hm.length_eq
 refine Bm1 h3 (by show (Pw m x.cells).length<=4096;omega) (λc Zh=>?_) (vm hs h1)
 rcases VI c Zh with h | h
 .exact h2 c h
 .exact B21 (Bm3 hc c (hm.subset h.1)) h.2
theorem mX{x:PArr}{l m:List PCell}(ho:AOK x)(hm:m.Perm l)(hl:x.cells.length+l.length<=1024)(hb:∀ c∈l,c.pos.length<900000/\c.vals.length<900000/\∀ v∈c.vals,Ww v):AOK ⟨x.dims,x.attrs,Pw m x.cells⟩:=by
 have hlen:=Y4 m x.cells
 have Yj:=hm.length_eq
 refine ⟨ho.d,ho.a,by show (Pw m x.cells).length<900000;omega,λc Zh=>?_⟩
 rcases VI c Zh with h | h
 .exact ho.e c h
 .exact hb c (hm.subset h.1)
def uO(x:PArr)(l:List PCell)(e:Int)(r:PArr):Prop:=
 (Mf x≠0/\e=2/\r=⟨[],[],[]⟩)\/(Mf x=0/\Jh x.dims x.attrs l≠0/\e=Jh x.dims x.attrs l/\r=⟨[],[],[]⟩)\/
 (Mf x=0/\Jh x.dims x.attrs l=0/\¬ (l.map PCell.pos).Nodup/\e=5/\r=⟨[],[],[]⟩)\/
 (Mf x=0/\Jh x.dims x.attrs l=0/\(l.map PCell.pos).Nodup/\e=0/\∃ m,m.Perm l/\Ky m/\r=⟨x.dims,x.attrs,Pw m x.cells⟩)
section
variable (k n0:Nat) (hp:Tr DObj) (nx:Nat) (K:DV->Tr DObj->Nat->Prop)
theorem Bm5(d1 ls:DV)(x:PArr)(l:List PCell)(hn:n0<=nx)(h1:AR hp (Bl n0) d1 x)(hL:RL rChange hp (Bl n0) ls l)(hx:AOK x)(hl:x.cells.length+l.length<=255/\l.length<eY)(hb:∀ c∈l,c.pos.length<900000/\c.vals.length<900000/\∀ v∈c.vals,Ww v)
  (hK:∀ An Bm d' r e,Al hp nx An Bm->AR An (Bw nx Bm) d' r->uO x l e r->AOw An d'->K (.tup [d',iv e]) An Bm):KW (kN (k+19)) (.fn 17) [d1,ls] hp nx K:=by
 obtain ⟨hl,N3⟩:=hl
 obtain ⟨d,a,c,rfl,r1,r2,r3⟩:=h1
 refine bW (Hl (by decide)) t17 (Ab rfl) λes e1 e2 he=>?_
 have a0:Ad es (.t .o)=.agg [d,a,c]:=he 0 _ rfl
 have a1:Ad es (.t (.l .o))=ls:=he 1 _ rfl
 unfold r17
 subst e1 e2
 simp only [↓Au]
 refine Xv (cs:=[d,a,c]) (by rw [Ha,a0];exact AR.live r1 r2 r3) λEi Dn Dd=>?_
 simp only [bR] at Dn Dd
 have Fk:Al es.hp es.nx Ei (es.nx+1):=⟨by omega,λj hj=>Dd j (by omega)⟩
 simp only [As,↓Au]
 refine Rz λCw Fw Fa=>?_
 simp only [bR] at Fw Fa
 have Dh:Al es.hp es.nx Cw (es.nx+1+1):=⟨by omega,λj hj=>by rw [Fa j (by omega),Dd j (by omega)]⟩
 have eF:Cw.get es.nx=_:=(Fa es.nx (by omega)).trans Dn
 obtain ⟨_,_,_,_,lA⟩:=Qd eF
 simp only [As,↓Au,lA]
 refine Fh (UB (k:=k+11) n0 _ _ _ _ x (by omega) ⟨d,a,c,rfl,r1.ka hn Dh,r2.ka hn Dh,r3.ka hn Dh⟩ hx λGn Dy Ev=>?_)
 have Iw:=Ev.le
 have fS:=Dh.trans Ev
 have oR:=(Ev.same es.nx (by omega)).trans eF
 have KY:=(Ev.same (es.nx+1) (by omega)).trans Fw
 obtain ⟨_,_,_,_,lA3⟩:=Qd oR
 by_cases cx:Mf x=0
 .simp only [As,↓Au,a1,show decide (¬ Mf x=0)=false by simp [cx],lA3]
  refine Fh (Bq6 k n0 _ _ _ d a c ls x l (by omega) (r1.ka hn fS) (r2.ka hn fS) (r3.ka hn fS) (hL.ka hn fS) hx N3 (λc hc=>(hb c hc).1) (λc hc=>(hb c hc).2.2) λFq Ma z m e Mw hz hC=>?_)
  have aM:=Mw.le
  have Vh:=fS.trans Mw
  have fM:=(Mw.same es.nx (by omega)).trans oR
  have KX:=(Mw.same (es.nx+1) (by omega)).trans KY
  have y0:Fb Fq (.tup [z,iv e]) 0=some z:=E4 λid hid=>(hz.refs id (by simpa [DV.refsL,DV.refs] using hid)).2
  by_cases he:e=0
  .obtain ⟨h0,hs,hd⟩:Jh x.dims x.attrs l=0/\gC l m/\∀ i,¬ uK m i:=by
    rcases hC with ⟨h0,h1,_⟩ | ⟨_,h1,_⟩ | ⟨h0,_,h2,h3⟩
    .exact absurd (h1.symm.trans he) h0
    .rw [h1] at he;cases he
    .exact ⟨h0,h2,h3⟩
   have hsm:=Bm2 hs hd
   obtain ⟨⟨f0,f1,f2⟩,l0,l1,l2,_⟩:=Qd fM
   have q1:RL rDim Fq (Bl Ma) d x.dims:=(r1.ka hn Vh).mono λj (hj:j<n0)=>by show j<Ma;omega
   have q2:RL rAttr Fq (Bl Ma) a x.attrs:=(r2.ka hn Vh).mono λj (hj:j<n0)=>by show j<Ma;omega
   have q3:RL rCell Fq (Bl Ma) c x.cells:=(r3.ka hn Vh).mono λj (hj:j<n0)=>by show j<Ma;omega
   simp only [As,↓Au,y0,show decide (¬ e=0)=false by simp [he],f0,f1,f2,l0,l1,l2,Lp (n0:=Ma) (m:=13) fM (show es.nx<Ma by omega),q3.rox (m:=13) (Ag Ma),hz.rox (m:=13) (Ag Ma)]
   refine Ly rfl (Uy ?_)
   simp only [bR,Am,Az]
   have Yj:=hs.1.length_eq
   refine HT (k+11) _ _ _ Ma z c m x.cells (by omega) hz q3 (by omega) (jC cx).1 (λc hc=>(hx.e c hc).1) λGr Ia z5 Jp qR _=>?_
   have Oi:=Jp.le
   have q15:=q1.ka (nx:=Ma+13) (by omega) Jp
   have q25:=q2.ka (nx:=Ma+13) (by omega) Jp
   have I3:∀ an,Hh z5 (λid=>Cp Ma 13 an Gr id):=λan=>qR.ro' (n:=Ma) (m:=13) λj hj=>hj.imp id λh=>h.1
   simp only [As,↓Au,Oi,q15.rox (m:=13) (Ag Ma),q25.rox (m:=13) (Ag Ma),Bf (I3 _)]
   refine Ly rfl (Uy ?_)
   simp only [bR,Am,Az]
   refine vr k Ia _ _ _ 8 d a z5 ⟨x.dims,x.attrs,Pw m x.cells⟩ (Ag _) (q15.mono λj (hj:j<Ma)=>by show j<Ia;omega) (q25.mono λj (hj:j<Ma)=>by show j<Ia;omega) (qR.mono λj hj=>by show j<Ia;omega) (Bm4 cx h0 hs.1 hsm (by omega)) (mX hx hs.1 (by omega) hb) (by have:=Y4 m x.cells;show (Pw m x.cells).length<=2 ^ 8;omega) λIv It d6 Rh fR jO=>?_
   have Rf:=Rh.le
   obtain ⟨dd,da,Ya,rfl,v1,v2,v3⟩:=fR
   have x0:Fb Iv (.tup [.agg [dd,da,Ya],iv 0]) 0=some (.agg [dd,da,Ya]):=E4 λid hid=>by
    have:id∈dd.refs\/id∈da.refs\/id∈Ya.refs:=by simpa [DV.refs,DV.refsL] using hid
    rcases this with h | h | h
    .exact (v1.refs id h).2
    .exact (v2.refs id h).2
    .exact (v3.refs id h).2
   have x1:Fb Iv (.tup [.agg [dd,da,Ya],iv 0]) 1=some (iv 0):=Ru
   have ny:=(Rh.same es.nx (by omega)).trans ((Jp.same es.nx (by omega)).trans fM)
   have R2:=(Rh.same (es.nx+1) (by omega)).trans ((Jp.same (es.nx+1) (by omega)).trans KX)
   have DY:∀ an,Hh (.agg [dd,da,Ya]) (λid=>Cp Ma 13 an Iv id):=λan id hid=>by
    have:id∈dd.refs\/id∈da.refs\/id∈Ya.refs:=by simpa [DV.refs,DV.refsL] using hid
    have w1:=v1.ro' (n:=Ma) (m:=13) (an:=an) λj hj=>.inr (by have:=hj.1;omega)
    have w2:=v2.ro' (n:=Ma) (m:=13) (an:=an) λj hj=>.inr (by have:=hj.1;omega)
    have w3:=v3.ro' (n:=Ma) (m:=13) (an:=an) λj hj=>.inr (by have:=hj.1;omega)
    rcases this with h | h | h
    .exact w1 id h
    .exact w2 id h
    .exact w3 id h
   have wO:∀ an,Hh (.tup [.agg [dd,da,Ya],iv 0]) (λid=>Cp Ma 13 an Iv id):=λan id hid=>DY an id (by simpa [DV.refs,DV.refsL,iv] using hid)
   simp only [As,↓Au,Rf,x0,x1,Bf (DY _),Bf (wO _),Lp (n0:=Ma) (m:=13) R2 (show es.nx+1<Ma by omega)]
   refine Ly rfl (Qx (n:=3) (id:=es.nx+1) (ds:=[dd,da,Ya]) (by simp only [bR]) R2 (by simp only [Ha,bR];exact AR.live (x:=⟨x.dims,x.attrs,Pw m x.cells⟩) v1 v2 v3) rfl rfl λKl Pt Lr=>?_)
   simp only [bR] at Pt Lr
   have MP:=(Jp.same es.nx (by omega)).trans fM
   have gA7:=(Lr es.nx (by omega)).trans ny
   have Gy:∀ {a1 a2 a3:List Nat} {q1 q2 q3:Nat} (p:Past),p∈[(⟨q1,a1,Iv,Kl⟩:Past),⟨q2,a2,Gr,Iv⟩,⟨q3,a3,Fq,Gr⟩]->p.a.get es.nx=some (.row _ [d,a,c])/\p.b.get es.nx=some (.row _ [d,a,c]):=λp hp=>by
    simp only [Ap,Cm,or_false] at hp
    rcases hp with rfl | rfl | rfl
    .exact ⟨ny,gA7⟩
    .exact ⟨MP,ny⟩
    .exact ⟨fM,MP⟩
   have up:∀ j,Bw Ia It j->Bw es.nx It j:=λj hj=>⟨by have:=hj.1;omega,hj.2⟩
   have kp:∀ j,Bw Ia It j->Kl.get j=Iv.get j:=λj hj=>Lr j (by have:=hj.1;omega)
   simp only [As,↓Au]
   refine ⟨qK (λj hj=>by simpa [DV.refs] using hj) (show es.nx<Ma by omega) Gy (AR.same r1 r2 r3) (qK (λj hj=>by simpa [DV.refs] using hj) (show es.nx<Ma by omega) Gy (AR.same r1 r2 r3) (qK (λj hj=>by simpa [DV.refs] using hj) (show es.nx<Ma by omega) Gy (AR.same r1 r2 r3) (qK (λj hj=>by simpa [DV.refs] using hj) (show es.nx<Ma by omega) Gy (AR.same r1 r2 r3) rfl))),_,_,uL (by simp only [bR,bP]) Pt rfl,by rw [S8];simp only [bR,bP,Sa],hK _ _ _ ⟨x.dims,x.attrs,Pw m x.cells⟩ 0 ⟨by omega,λj hj=>by rw [Lr j (by omega),Rh.same j (by omega),Jp.same j (by omega),Vh.same j hj]⟩ ⟨dd,da,Ya,rfl,(v1.keep kp).mono up,(v2.keep kp).mono up,(v3.keep kp).mono up⟩ (.inr (.inr (.inr ⟨cx,h0,Ca6 hs hd,rfl,m,hs.1,hsm,rfl⟩))) (.of ((jO _ _ _ rfl).keep λj hj=>kp j (v3.refs j hj).1))⟩
  .simp only [As,↓Au,y0,show decide (¬ e=0)=true by simp [he]]
   refine OS (cs:=[Cb,Cb,Cb]) rfl ?_
   simp only [As,↓Au]
   refine Qx (n:=3) (id:=es.nx+1) (ds:=[Cb,Cb,Cb]) (by simp only [bR]) KX (by simp only [Ha,bR];rfl) rfl rfl λhpA O6 KM=>?_
   simp only [bR] at O6 KM
   simp only [As,↓Au]
   exact ⟨_,_,uL (by simp only [bR,bP]) O6 rfl,by rw [S8];simp only [bR,bP,Sa],hK _ _ _ ⟨[],[],[]⟩ e ⟨by omega,λj hj=>by rw [KM j (by omega),Vh.same j hj]⟩ ⟨Cb,Cb,Cb,rfl,.nil,.nil,.nil⟩ (by
    rcases hC with ⟨h0,h1,_⟩ | ⟨h0,h1,_,s,i,hs,hd⟩ | ⟨_,h1,_⟩
    .exact .inr (.inl ⟨cx,h0,h1,rfl⟩)
    .exact .inr (.inr (.inl ⟨cx,h0,Ct2 hs hd,h1,rfl⟩))
    .exact absurd h1 he) (.of (.nil _))⟩
 .simp only [As,↓Au,show decide (¬ Mf x=0)=true by simp [cx]]
  refine OS (cs:=[Cb,Cb,Cb]) rfl ?_
  simp only [As,↓Au]
  refine Qx (n:=3) (id:=es.nx+1) (ds:=[Cb,Cb,Cb]) (by simp only [bR]) KY (by simp only [Ha,bR];rfl) rfl rfl λhpA O6 KM=>?_
  simp only [bR] at O6 KM
  simp only [As,↓Au]
  exact ⟨_,_,uL (by simp only [bR,bP]) O6 rfl,by rw [S8];simp only [bR,bP,Sa],hK _ _ _ ⟨[],[],[]⟩ 2 ⟨by omega,λj hj=>by rw [KM j (by omega),fS.same j hj]⟩ ⟨Cb,Cb,Cb,rfl,.nil,.nil,.nil⟩ (.inl ⟨cx,rfl,rfl⟩) (.of (.nil _))⟩
end
end Go.DD

/- Plain: the difference leads from one to the other. -/
namespace Go.DD
open Go Go.Proofs Go.Sort
theorem Bm6:∀ {l m:List PCell},Ky l->Ky m->(∀ e,e∈l↔e∈m)->l=m
 | [],[],_,_,_=>rfl
 | [],b::m,_,_,h=>by have:=(h b).2 (by simp);cases this
 | a::l,[],_,_,h=>by have:=(h a).1 (by simp);cases this
 | a::l,b::m,hl,hm,h=>by
  obtain ⟨h1,h2⟩:=Eg.1 hl
  obtain ⟨h3,h4⟩:=Eg.1 hm
  have iL:a=b:=by
   rcases Ap.1 ((h a).1 (by simp)) with e | ha
   .exact e
   .rcases Ap.1 ((h b).2 (by simp)) with e | hb
    .exact e.symm
    .have x1:=h3 a ha
     have x2:=h1 b hb
     have:=uU a.pos b.pos
     omega
  subst iL
  congr 1
  refine Bm6 h2 h4 λe=>⟨λhe=>?_,λhe=>?_⟩
  .rcases Ap.1 ((h e).1 (Bh _ he)) with x | x
   .subst x;exact absurd (h1 _ he) (by rw [eO];decide)
   .exact x
  .rcases Ap.1 ((h e).2 (Bh _ he)) with x | x
   .subst x;exact absurd (h3 _ he) (by rw [eO];decide)
   .exact x
theorem Bc1{A:List PCell}(hs:Ky A){c:PCell}(hc:c∈A):Sp A c.pos=c.vals:=by
 obtain ⟨i,hi,rfl⟩:=Em hc
 exact Bp8 (λi j Nu hj=>Db.1 hs i j (by omega) hj Nu) hi
theorem xk{A:List PCell}{p:List Int}(h:Sp A p≠[]):(⟨p,Sp A p⟩:PCell)∈A:=by
 unfold Sp at h ⊢
 cases e:A.find? (λc=>decide (c.pos=p)) with
 | none=>rw [e] at h;exact absurd rfl h
 | some c=>
  have h1:=List.mem_of_find?_eq_some e
  have h2:c.pos=p:=En (by simpa using List.find?_some e)
  subst h2
  exact h1
theorem btw1_mem{w:List Int×List (List PVal)}{c:PCell} : c∈Tk w↔∃ u v,w.2=[u,v]/\u≠v/\c=⟨w.1,v⟩:=by
 unfold Tk
 constructor
 .intro h
  split at h
  .rename_i u v e
   split at h
   .cases h
   .rename_i Gt
    exact ⟨u,v,e,Gt,by simpa using h⟩
  .cases h
 .rintro ⟨u,v,e,Gt,rfl⟩
  rw [e]
  simp [Gt]
theorem B22:∀ {W:List (List Int×List (List PVal))},W.Pairwise (λa b=>Cs a.1 b.1 = -1)->Ky (Rw W)
 | [],_=>.nil
 | w::W,h=>by
  obtain ⟨h1,h2⟩:=Eg.1 h
  have hp:∀ {w:List Int×List (List PVal)} {c:PCell},c∈Tk w->c.pos=w.1:=λhc=>by
   obtain ⟨_,_,_,_,rfl⟩:=btw1_mem.1 hc
   rfl
  show Ky ((w::W).flatMap Tk)
  rw [Nm]
  refine Zx.2 ⟨?_,B22 h2,λa ha b hb=>?_⟩
  .unfold Tk
   split
   .split <;> simp
   .simp
  .obtain ⟨w',Rr,Gz⟩:=Pc.1 hb
   rw [hp ha,hp Gz]
   exact h1 w' Rr
theorem B23{A B:List PCell}(hA:Ky A)(hB:Ky B):Ky (Rw (Hf [A,B]))/\∀ c,c∈Rw (Hf [A,B])↔((∃ e,(e∈A\/e∈B)/\e.pos=c.pos)/\Sp A c.pos≠Sp B c.pos/\c.vals=Sp B c.pos):=by
 have hS:∀ h∈[A,B],Srt h:=λh hh=>by
  simp only [Ap,Cm,or_false] at hh
  rcases hh with rfl | rfl
  .exact hA
  .exact hB
 obtain ⟨w1,w2,w3⟩:=Bq2 (n:=Wg [A,B]) hS (Ag _)
 have w2':∀ p,(∃ w∈Hf [A,B],w.1=p)↔∃ h∈[A,B],∃ c∈h,c.pos=p:=w2
 refine ⟨B22 w1,λc=>?_⟩
 unfold Rw
 rw [Pc]
 constructor
 .rintro ⟨w,hw,hc⟩
  obtain ⟨u,v,e,Gt,rfl⟩:=btw1_mem.1 hc
  have e2:=w3 w hw
  rw [e] at e2
  have e3:u=Sp A w.1/\v=Sp B w.1:=by simpa using e2
  obtain ⟨h,hh,c,hc,h2⟩:=(w2' w.1).1 ⟨w,hw,rfl⟩
  refine ⟨⟨c,?_,h2⟩,?_,e3.2⟩
  .simp only [Ap,Cm,or_false] at hh
   rcases hh with rfl | rfl
   .exact .inl hc
   .exact .inr hc
  .show Sp A w.1≠Sp B w.1
   rw [<- e3.1,<- e3.2];exact Gt
 .rintro ⟨⟨e,he,h2⟩,Gt,hv⟩
  obtain ⟨w,hw,RF⟩:=(w2' c.pos).2 (by
   rcases he with h | h
   .exact ⟨A,by simp,e,h,h2⟩
   .exact ⟨B,by simp,e,h,h2⟩)
  refine ⟨w,hw,btw1_mem.2 ⟨Sp A c.pos,Sp B c.pos,?_,Gt,?_⟩⟩
  .rw [w3 w hw,RF];rfl
  .rw [RF,<- hv]
theorem B24:∀ {l cs:List PCell},Ky l->Ky cs->∀ e,e∈Pw l cs↔(e∈cs/\∀ c∈l,c.pos≠e.pos)\/(e∈l/\e.vals≠[])
 | [],cs,_,_,e=>by simp [Pw]
 | c::l,cs,hl,hs,e=>by
  obtain ⟨h1,h2⟩:=Eg.1 hl
  have ih:=B24 h2 (hs.sublist (Kh (Ie c.pos cs) cs)) e
  unfold Pw
  rw [Ax,Ax,ih]
  constructor
  .rintro (h | h | ⟨h,h3⟩ | h)
   .have h4:=B19 hs e h
    refine .inl ⟨Gv h,λc' Km=>?_⟩
    rcases Ap.1 Km with rfl | Km
    .exact λx=>by rw [x,eO] at h4;cases h4
    .have h5:=mC h4 (h1 c' Km)
     exact λx=>by rw [x,eO] at h5;cases h5
   .split at h
    .cases h
    .rename_i hv
     have:e=c:=by simpa using h
     subst this
     exact .inr ⟨by simp,hv⟩
   .have h4:=B20 hs e h
    refine .inl ⟨Di h,λc' Km=>?_⟩
    rcases Ap.1 Km with rfl | Km
    .exact λx=>by rw [x,eO] at h4;cases h4
    .exact h3 c' Km
   .exact .inr ⟨Bh _ h.1,h.2⟩
  .rintro (⟨h,h3⟩ | ⟨h,h3⟩)
   .by_cases hd:e∈cs.drop (Ie c.pos cs)
    .exact .inr (.inr (.inl ⟨hd,λc' Km=>h3 c' (Bh _ Km)⟩))
    .refine .inl ?_
     obtain ⟨t,ht,rfl⟩:=Em h
     have Et:t<Ie c.pos cs:=Vm λXj=>hd (by
      have:cs[t]=(cs.drop (Ie c.pos cs))[t-Ie c.pos cs]'(by rw [Ck];omega):=by
       rw [Kg];congr 1;omega
      rw [this];exact Be _)
     have jb:t<Fj c.pos cs:=by
      unfold Ie at Et
      split at Et
      .rename_i hi
       refine Vm λXj=>?_
       have e1:t=Fj c.pos cs:=by omega
       unfold Uh at hi
       rw [<- e1,Aa ht] at hi
       exact h3 c (by simp) (cmpL_0.1 (En hi)).symm
      .exact Et
     have:cs[t]=(cs.take (Fj c.pos cs))[t]'(by rw [Bt];omega):=by rw [Er]
     rw [this];exact Be _
   .rcases Ap.1 h with rfl | h
    .exact .inr (.inl (by rw [Ae h3];simp))
    .exact .inr (.inr (.inr ⟨h,h3⟩))
end Go.DD

/- Contracts: the program's equality of arrays. Conditions: those that each theorem states. -/
namespace Go.DD
open Go Go.Proofs
section
variable (k n0:Nat) (hp:Tr DObj) (nx:Nat) (K:DV->Tr DObj->Nat->Prop)
theorem Ca7(p v q w:DV)(c e:PCell)(hn:n0<=nx)(h1:RL rInt hp (Bl n0) p c.pos)(h2:RL rVal hp (Bl n0) v c.vals)(h3:RL rInt hp (Bl n0) q e.pos)(h4:RL rVal hp (Bl n0) w e.vals)(hl:c.pos.length<900000/\c.vals.length<900000)
  (hK:∀ An Bm,Al hp nx An Bm->K (bv (decide (c=e))) An Bm):KW (kN (k+2)) (.fn 79) [.agg [p,v],.agg [q,w]] hp nx K:=by
 refine Es (Hl (by decide)) t79 (Ab rfl) λes e1 e2 he=>?_
 have a0:Ad es (.t .o)=.agg [p,v]:=he 0 _ rfl
 have a1:Ad es (.t (.l .o))=.agg [q,w]:=he 1 _ rfl
 unfold r79
 subst e1 e2
 simp only [↓Au]
 refine Xv (cs:=[p,v]) (by rw [Ha,a0];exact Wn h1 h2) λEi Dn Dd=>?_
 simp only [bR] at Dn Dd
 have Fk:Al es.hp es.nx Ei (es.nx+1):=⟨by omega,λj hj=>Dd j (by omega)⟩
 simp only [As,↓Au]
 refine Xv (cs:=[q,w]) (by simp only [Ha,bR,a1];exact Wn (h3.ka hn Fk) (h4.ka hn Fk)) λCw Fw Fa=>?_
 simp only [bR] at Fw Fa
 have Dh:Al es.hp es.nx Cw (es.nx+2):=⟨by omega,λj hj=>by rw [Fa j (by omega),Dd j (by omega)]⟩
 have eF:=(Fa es.nx (by omega)).trans Dn
 obtain ⟨⟨f0,f1⟩,l0,l1,lA⟩:=Wl eF
 obtain ⟨⟨g0,g1⟩,m0,m1,lB⟩:=Wl Fw
 simp only [As,↓Au,f0,l0,g0,m0]
 refine Fh (C26 (k:=k) n0 _ _ _ p q _ _ (by omega) (h1.ka hn Dh) (h3.ka hn Dh) hl.1 λIt Rf=>?_)
 by_cases c1:c.pos=e.pos
 .simp only [As,↓Au,Ak c1,f1,l1,g1,m1]
  refine Fh (Ci8 (k:=k) n0 _ _ _ v w _ _ (by omega) (h2.ka hn Dh) (h4.ka hn Dh) hl.2 λGL jU=>?_)
  have hh:=hK _ _ (Dh.nx (show es.nx+2<=GL by omega))
  have:(decide (c=e))=decide (c.vals=e.vals):=by
   obtain ⟨cp,cv⟩:=c
   obtain ⟨ep,ev⟩:=e
   simp only at c1
   simp [c1]
  rw [this] at hh
  cases c2:decide (c.vals=e.vals) <;> rw [c2] at hh <;> simp only [As,↓Au,bP] <;> exact hh
 .simp only [As,↓Au,bP,Ah c1]
  have hh:=hK _ _ (Dh.nx (show es.nx+2<=It by omega))
  rw [Ah (λh=>c1 (by rw [h]))] at hh
  exact hh
theorem Ct3(d1 d2:DV)(l m:List PCell)(hn:n0<=nx)(h1:RL rCell hp (Bl n0) d1 l)(h2:RL rCell hp (Bl n0) d2 m)(hl:l.length<900000)(lI:∀ c∈l,c.pos.length<900000/\c.vals.length<900000)
  (hK:∀ An Bm,Al hp nx An Bm->K (bv (decide (l=m))) An Bm):KW (kN (k+3)) (.fn 78) [d1,d2,.fn (.func 79) [.tup []]] hp nx K:=by
 refine Es (Hl (by decide)) t78 (Ab rfl) λes e1 e2 he=>?_
 have a0:Ad es (.t .o)=d1:=he 0 _ rfl
 have a1:Ad es (.t (.l .o))=d2:=he 1 _ rfl
 have a2:Ad es (.t (.r .o))=.fn (.func 79) [.tup []]:=he 2 _ rfl
 unfold r78
 subst e1 e2
 by_cases hlen:l.length=m.length
 .simp only [As,↓Au,a0,a1,h1.len,h2.len,hlen]
  refine EW.up l.length (λi Ai=>Al es.hp es.nx Ai.hp Ai.nx/\Ad Ai (.t .o)=d1/\Ad Ai (.t (.l .o))=d2/\Ad Ai (.t (.r .o))=.fn (.func 79) [.tup []]/\Ad Ai (.t (.l (.l (.l (.l .o)))))=d1/\Ad Ai (.t (.r (.l (.l (.l .o)))))=iv l.length/\Ad Ai (.t (.l (.r (.l (.l .o)))))=iv (i:Nat)/\(l=m↔l.drop i=m.drop i)) ?_ ?_ (by omega)
  .rintro i Ai hi ⟨g,b0,b1,b2,b15,b16,Vi,hc⟩
   unfold xX
   have hle:=g.le
   have w1:=h1.ka hn g
   have w2:=h2.ka hn g
   by_cases h:i<l.length
   .have h':i<m.length:=by omega
    obtain ⟨pA,vA,Sn,Tv,lA,_⟩:=Ek w1 h
    obtain ⟨pB,vB,bB,aZ,lB,_⟩:=Ek w2 h'
    rw [PE h h'] at hc
    simp only [As,↓Au,b15,b16,Vi,h,Yq w1 h,lA]
    refine Rz λIv cQ Ve=>?_
    simp only [bR] at cQ Ve
    have k6:∀ j,Bl n0 j->Iv.get j=Ai.hp.get j:=λj hj=>Ve j (by have:j<n0:=hj;omega)
    simp only [As,↓Au]
    refine Qx (n:=2) (id:=Ai.nx) (ds:=[pA,vA]) (by simp only [bR]) cQ (by simp only [Ha,bR];exact Wn (Sn.keep k6) (Tv.keep k6)) rfl rfl λKl Pt Lr=>?_
    simp only [bR] at Pt Lr
    have k7:∀ j,Bl n0 j->Kl.get j=Ai.hp.get j:=λj hj=>(Lr j (by have:j<n0:=hj;omega)).trans (k6 j hj)
    have w27:=w2.keep k7
    obtain ⟨pB',vB',eX,eW,lB',_⟩:=Ek w27 h'
    simp only [As,↓Au,b1,Yq w27 h',lB']
    refine Rz λKi iE eD=>?_
    simp only [bR] at iE eD
    have k8:∀ j,Bl n0 j->Ki.get j=Kl.get j:=λj hj=>eD j (by have:j<n0:=hj;omega)
    simp only [As,↓Au]
    refine Qx (n:=2) (id:=Ai.nx+1) (ds:=[pB',vB']) (by simp only [bR]) iE (by simp only [Ha,bR];exact Wn (eX.keep k8) (eW.keep k8)) rfl rfl λLi Qv Ps=>?_
    simp only [bR] at Qv Ps
    have k9:∀ j,j<Ai.nx->Li.get j=Ai.hp.get j:=λj hj=>by rw [Ps j (by omega),eD j (by omega),Lr j (by omega),Ve j (by omega)]
    have QZ:∀ j,Bl n0 j->Li.get j=Kl.get j:=λj hj=>(Ps j (by have:j<n0:=hj;omega)).trans (k8 j hj)
    have gA:Li.get Ai.nx=_:=(Ps Ai.nx (by omega)).trans ((eD Ai.nx (by omega)).trans Pt)
    obtain ⟨_,_,_,lT⟩:=Wl gA
    obtain ⟨_,_,_,lU⟩:=Wl Qv
    have g9:Al es.hp es.nx Li (Ai.nx+1+1):=⟨by omega,λj hj=>by rw [k9 j (by omega),g.same j hj]⟩
    simp only [As,↓Au,b2,lT,lU]
    refine gI (fs:=[]) (cs:=[]) (by rw [Ha];simp only [bR];exact OT _ _) ?_
    simp only [bR,Am,Az,Da,By]
    refine Ca7 k n0 _ _ _ pA vA pB' vB' l[i] m[i] (by omega) (Sn.keep λj hj=>(QZ j hj).trans (k7 j hj)) (Tv.keep λj hj=>(QZ j hj).trans (k7 j hj)) (eX.keep QZ) (eW.keep QZ) (lI _ (Be h)) λKd J4 pH=>?_
    have KJ:=pH.le
    by_cases c1:l[i]=m[i]
    .simp only [As,↓Au,b0,b1,b2,b15,b16,Vi,h,Ak c1,Hz (show i<_ by omega)]
     exact ⟨g9.trans pH,by rw [hc];simp [c1]⟩
    .simp only [As,↓Au,bP,Ah c1]
     have hh:=hK _ _ (g9.trans pH)
     rw [Ah (λe=>c1 (hc.1 e).1)] at hh
     exact hh
   .have:l=m:=hc.2 (by rw [Bc (by omega),Bc (by omega)])
    simp only [As,↓Au,bP,b16,Vi,h]
    have hh:=hK _ _ g
    rw [Ak this] at hh
    exact hh
  .simp only [As,a0,a1,a2,hlen]
 .simp only [As,↓Au,bP,a0,a1,h1.len,h2.len,hlen]
  have:¬ l=m:=λe=>hlen (by rw [e])
  have hh:=hK _ _ (Al.ini _ (Ag _))
  rw [Ah this] at hh
  exact hh
end
end Go.DD

/- Contracts: the reference's Merged. Conditions: those that each theorem states. -/
namespace Go.DD
open Go Go.Proofs
section
variable (k n0:Nat) (hp:Tr DObj) (nx:Nat) (K:DV->Tr DObj->Nat->Prop)
end
end Go.DD

/- Contracts: the program's Same; equal arrays or nothing. Conditions: those that each theorem states. -/
namespace Go.DD
open Go Go.Proofs
def Rn(x y:PArr):Bool:=decide (Mf x=0/\Mf y=0/\x=y)
section
variable (k n0:Nat) (hp:Tr DObj) (nx:Nat) (K:DV->Tr DObj->Nat->Prop)
theorem UP(d1 d2:DV)(x y:PArr)(hn:n0<=nx)(h1:AR hp (Bl n0) d1 x)(h2:AR hp (Bl n0) d2 y)(hx:AOK x)(hy:AOK y)
  (hK:∀ An Bm,Al hp nx An Bm->K (bv (Rn x y)) An Bm):KW (kN (k+8)) (.fn 25) [d1,d2] hp nx K:=by
 obtain ⟨d,a,c,rfl,r1,r2,r3⟩:=h1
 obtain ⟨d',a',c',rfl,s1,s2,s3⟩:=h2
 refine Es (Hl (by decide)) t25 (Ab rfl) λes e1 e2 he=>?_
 have a0:Ad es (.t .o)=.agg [d,a,c]:=he 0 _ rfl
 have a1:Ad es (.t (.l .o))=.agg [d',a',c']:=he 1 _ rfl
 unfold r25
 subst e1 e2
 simp only [↓Au]
 refine Xv (cs:=[d,a,c]) (by rw [Ha,a0];exact AR.live r1 r2 r3) λEi Dn Dd=>?_
 simp only [bR] at Dn Dd
 have Fk:Al es.hp es.nx Ei (es.nx+1):=⟨by omega,λj hj=>Dd j (by omega)⟩
 simp only [As,↓Au]
 refine Xv (cs:=[d',a',c']) (by simp only [Ha,bR,a1];exact AR.live (s1.ka hn Fk) (s2.ka hn Fk) (s3.ka hn Fk)) λCw Fw Fa=>?_
 simp only [bR] at Fw Fa
 have Dh:Al es.hp es.nx Cw (es.nx+2):=⟨by omega,λj hj=>by rw [Fa j (by omega),Dd j (by omega)]⟩
 have LC:=(Fa es.nx (by omega)).trans Dn
 have fq:∀ {An Bm},Al es.hp es.nx An Bm->AR An (Bl n0) (.agg [d,a,c]) x:=λh=>⟨d,a,c,rfl,r1.ka hn h,r2.ka hn h,r3.ka hn h⟩
 have hrB:∀ {An Bm},Al es.hp es.nx An Bm->AR An (Bl n0) (.agg [d',a',c']) y:=λh=>⟨d',a',c',rfl,s1.ka hn h,s2.ka hn h,s3.ka hn h⟩
 obtain ⟨_,_,_,_,lA⟩:=Qd LC
 have no:∀ {An Bm},¬ (Mf x=0/\Mf y=0/\x=y)->Al es.hp es.nx An Bm->K (.v (.bool false)) An Bm:=λh ha=>by
  have hh:=hK _ _ ha
  unfold Rn at hh
  rw [Ah h] at hh
  exact hh
 simp only [As,↓Au,lA]
 refine Fh (UB (k:=k) n0 _ _ _ _ x (by omega) (fq Dh) hx λGn Dy Ev=>?_)
 have Iw:=Ev.le
 have fS:=Dh.trans Ev
 have fL:=(Ev.same (es.nx+1) (by omega)).trans Fw
 have oR:=(Ev.same es.nx (by omega)).trans LC
 obtain ⟨_,_,_,_,lB3⟩:=Qd fL
 by_cases c1:Mf x=0
 .simp only [As,↓Au,show decide (¬ Mf x=0)=false by simp [c1],lB3]
  refine Fh (UB (k:=k) n0 _ _ _ _ y (by omega) (hrB fS) hy λFq Ma Mw=>?_)
  have aM:=Mw.le
  have Vh:=fS.trans Mw
  have O5:=(Mw.same (es.nx+1) (by omega)).trans fL
  have fM:=(Mw.same es.nx (by omega)).trans oR
  obtain ⟨⟨om,oj,MU⟩,cf,cd,xQ,_⟩:=Qd fM
  obtain ⟨⟨fB0,fB1,fB2⟩,lB0,lB1,lB2,_⟩:=Qd O5
  by_cases c2:Mf y=0
  .simp only [As,↓Au,show decide (¬ Mf y=0)=false by simp [c2],om,fB0,cf,lB0]
   refine Fh (C27 (k:=k+6) n0 _ _ _ d d' _ _ (by omega) (r1.ka hn Vh) (s1.ka hn Vh) hx.d λIa Oi=>?_)
   by_cases c3:x.dims=y.dims
   .simp only [As,↓Au,Ak c3,oj,fB1,cd,lB1]
    refine Fh (C28 (k:=k+6) n0 _ _ _ a a' _ _ (by omega) (r2.ka hn Vh) (s2.ka hn Vh) hx.a λIt Rf=>?_)
    by_cases c4:x.attrs=y.attrs
    .simp only [As,↓Au,Ak c4,MU,fB2,xQ,lB2]
     refine Fh (Ct3 (k:=k+4) n0 _ _ _ c c' x.cells y.cells (by omega) (r3.ka hn Vh) (s3.ka hn Vh) hx.c (λe he=>⟨(hx.e e he).1,(hx.e e he).2.1⟩) λKl GL Sk=>?_)
     have jU:=Sk.le
     have ha7:Al es.hp es.nx Kl GL:=⟨by omega,λj hj=>(Sk.same j (by omega)).trans (Vh.same j hj)⟩
     have hh:=hK _ _ ha7
     have e:Rn x y=decide (x.cells=y.cells):=by
      refine decide_eq_decide.2 ⟨λh=>by rw [h.2.2],λh=>⟨c1,c2,?_⟩⟩
      cases x
      cases y
      simp only at c3 c4 h
      rw [c3,c4,h]
     rw [e] at hh
     simp only [As,↓Au,bP]
     exact hh
    .simp only [As,↓Au,bP,Ah c4]
     exact no (λh=>c4 (by rw [h.2.2])) (Vh.nx (by omega))
   .simp only [As,↓Au,bP,Ah c3]
    exact no (λh=>c3 (by rw [h.2.2])) (Vh.nx (by omega))
  .simp only [As,↓Au,bP,show decide (¬ Mf y=0)=true by simp [c2]]
   exact no (λh=>c2 h.2.1) Vh
 .simp only [As,↓Au,bP,show decide (¬ Mf x=0)=true by simp [c1]]
  exact no (λh=>c1 h.1) fS
end
end Go.DD

/- Plain: Delta and Apply, there and back. -/
namespace Go.DD
open Go Go.Proofs Go.Sort
theorem Ca8{x y:PArr}(hx:Mf x=0)(hy:Mf y=0):Pw (Rw (Hf [x.cells,y.cells])) x.cells=y.cells:=by
 have hA:=(jC hx).1
 have hB:=(jC hy).1
 obtain ⟨d1,d2⟩:=B23 hA hB
 refine Bm6 (vm d1 hA) hB λe=>?_
 rw [B24 d1 hA e]
 constructor
 .rintro (⟨h1,h2⟩ | ⟨h1,h2⟩)
  .have hs:Sp x.cells e.pos=Sp y.cells e.pos:=Decidable.byContradiction λGt=>h2 ⟨e.pos,Sp y.cells e.pos⟩ ((d2 _).2 ⟨⟨e,.inl h1,rfl⟩,Gt,rfl⟩) rfl
   rw [Bc1 hA h1] at hs
   have:=xk (A:=y.cells) (p:=e.pos) (by rw [<- hs];exact F6 hx e h1)
   rw [<- hs] at this
   exact this
  .obtain ⟨_,_,h3⟩:=(d2 e).1 h1
   have:=xk (A:=y.cells) (p:=e.pos) (by rw [<- h3];exact h2)
   rw [<- h3] at this
   exact this
 .intro h
  have hs:=Bc1 hB h
  have hv:=F6 hy e h
  by_cases c:Sp x.cells e.pos=Sp y.cells e.pos
  .refine .inl ⟨?_,λc' Km he=>?_⟩
   .have:=xk (A:=x.cells) (p:=e.pos) (by rw [c,hs];exact hv)
    rw [c,hs] at this
    exact this
   .obtain ⟨_,h3,_⟩:=(d2 c').1 Km
    rw [he] at h3
    exact h3 c
  .exact .inr ⟨(d2 e).2 ⟨⟨e,.inr h,rfl⟩,c,hs.symm⟩,hv⟩
end Go.DD

/- VersionDeltas returns true: as a contract. Conditions: none. -/
namespace Go.DD
open Go Go.Proofs
def kK(x:PArr):DV:=.agg [.sl (x.dims.flatMap rDim.cells) x.dims.length,.sl (x.attrs.flatMap rAttr.cells) x.attrs.length,.sl (x.cells.flatMap rCell.cells) x.cells.length]
theorem B25{x:PArr}{Jf:Nat}(h:Xo x Jf=true):x.cells.length<=Jf:=by
 unfold Xo pP at h
 simp only [Bo,Fz] at h
 exact h.2.1
end Go.DD

/- VersionBack returns true: as a contract. Conditions: none. -/
namespace Go.DD
open Go Go.Proofs Go.Sort
theorem Xp{hp:Tr DObj}{p:Nat->Prop}{x1 x2 x3:DV}{X:PArr}{e:Int}(v1:RL rDim hp p x1 X.dims)(v2:RL rAttr hp p x2 X.attrs)(v3:RL rCell hp p x3 X.cells):Fb hp (.tup [.agg [x1,x2,x3],iv e]) 0=some (.agg [x1,x2,x3]):=E4 λid hid=>by
 have:id∈x1.refs\/id∈x2.refs\/id∈x3.refs:=by simpa [DV.refs,DV.refsL,iv] using hid
 rcases this with h1 | h1 | h1
 .exact (v1.refs id h1).2
 .exact (v2.refs id h1).2
 .exact (v3.refs id h1).2
end Go.DD

/- Contracts: the reference's change and Changes. Conditions: those that each theorem states. -/
namespace Go.DD
open Go Go.Proofs Go.Sort
section
variable (k n0:Nat) (hp:Tr DObj) (nx:Nat) (K:DV->Tr DObj->Nat->Prop)
end
end Go.DD

/- Contracts: the reference's Changes. Conditions: those that each theorem states. -/
namespace Go.DD
open Go Go.Proofs Go.Sort
section
variable (k n0:Nat)
end
end Go.DD

/- Contracts: the reference's Put of a cell at a new place. Conditions: those that each theorem states. -/
namespace Go.DD
open Go Go.Proofs Go.Sort
section
variable (k:Nat) (hp:Tr DObj) (nx:Nat) (K:DV->Tr DObj->Nat->Prop)
end
end Go.DD

/- Contracts: the reference's With. Conditions: those that each theorem states. -/
namespace Go.DD
open Go Go.Proofs Go.Sort
end Go.DD

/- Contracts: the reference's With. Conditions: those that each theorem states. -/
namespace Go.DD
open Go Go.Proofs Go.Sort
section
variable (k:Nat) (hp:Tr DObj) (nx:Nat) (K:DV->Tr DObj->Nat->Prop)
end
end Go.DD

/- Plain: the changes made one after the other are the changes laid over. -/
namespace Go.DD
open Go Go.Proofs Go.Sort
end Go.DD

/- Contracts: the reference's Copy. Conditions: those that each theorem states. -/
namespace Go.DD
open Go Go.Proofs
section
variable (k n0:Nat) (hp:Tr DObj) (nx:Nat) (K:DV->Tr DObj->Nat->Prop)
end
end Go.DD

/- Contracts: the reference's Apply. Conditions: those that each theorem states. -/
namespace Go.DD
open Go Go.Proofs Go.Sort
section
variable (k n0:Nat) (hp:Tr DObj) (nx:Nat) (K:DV->Tr DObj->Nat->Prop)
end
end Go.DD

/- Contracts: which changes are few. Conditions: those that each theorem states. -/
namespace Go.DD
open Go Go.Proofs
def pO(l:List PCell)(Jf:Nat):Bool:=decide (l.length<=Jf)&&l.all λc=>Xo ⟨[],[],[c]⟩ 1
theorem Ct4{l:List PCell}{Jf:Nat}(h:pO l Jf=true):l.length<=Jf/\∀ c∈l,c.pos.length<900000/\c.vals.length<900000/\∀ v∈c.vals,Ww v:=by
 unfold pO at h
 rw [Bo,Bd] at h
 exact ⟨En h.1,λc hc=>(By7 (h.2 c hc) (by omega)).e c (by simp)⟩
section
variable (k n0:Nat) (hp:Tr DObj) (nx:Nat) (K:DV->Tr DObj->Nat->Prop)
theorem Ct5(ls:DV)(l:List PCell)(Jf:Nat)(hn:n0<=nx)(hL:RL rChange hp (Bl n0) ls l)(hm:Jf<900000)(hK:∀ An Bm,Al hp nx An Bm->K (bv (pO l Jf)) An Bm):KW (kN (k+4)) (.fn 14) [ls,iv (Jf:Nat)] hp nx K:=by
 refine Es (Hl (by decide)) t14 (Ab rfl) λes e1 e2 he=>?_
 have a0:Ad es (.t .o)=ls:=he 0 _ rfl
 have a1:Ad es (.t (.l .o))=iv (Jf:Nat):=he 1 _ rfl
 unfold r14
 subst e1 e2
 unfold pO at hK
 by_cases c0:Jf<l.length
 .rw [Ah (by omega),Sd] at hK
  simp only [As,↓Au,bP,a0,a1,hL.len,c0]
  exact hK _ _ (Al.refl _ _)
 rw [Ak (by omega),Im] at hK
 simp only [As,↓Au,a0,a1,hL.len,c0]
 refine EW.up l.length (λi Ai=>Al es.hp es.nx Ai.hp Ai.nx/\Ad Ai (.t .o)=ls/\Ad Ai (.t (.l (.r .o)))=iv (i:Nat)/\(l.take i).all (λc=>Xo ⟨[],[],[c]⟩ 1)=true) ?_ ?_ (by omega)
 .rintro i Ai hi ⟨g,b0,b5,hc⟩
  unfold yM
  have hle:=g.le
  have r:=hL.ka hn g
  have Gt:n0<=Ai.nx:=by omega
  by_cases h:i<l.length
  .obtain ⟨p,v,rp,rv,_,lp,lv⟩:=AN r h
   simp only [As,↓Au,bP,b0,b5,h,r.len,D9 r h,TO (k:=0) r h,TO (k:=1) r h,lp,lv,r.rox (m:=15) Gt,Bz0 (m:=15) r Gt,Bz1 (m:=15) r Gt,rp.rox (m:=15) Gt,rv.rox (m:=15) Gt,S9,rp.live,rv.live,OO (z:=.slice none 0 0) (w:=.slice none 0 0) rp.ok rv.ok,Ca]
   refine ⟨Kb (rp.rox Gt) (rv.rox Gt),?_⟩
   refine PF (fl:=[p,v]) rfl (by simp only [Am,Az,Dc,bR,bP,Wn rp rv];exact Cj1 (z:=[.slice none 0 0,.slice none 0 0]) rfl) λLi Qv Ps=>?_
   simp only [bR] at Qv Ps
   have DQ:=rp.keep (An:=Li) λj (hj:j<n0)=>Ps j (by omega)
   have DO:=rv.keep (An:=Li) λj (hj:j<n0)=>Ps j (by omega)
   have rC:RL rCell Li (Bl (Ai.nx+15)) (.ms (Ai.nx+11) 0 1 2) [l[i]]:=.ms (R:=rCell) _ 0 [p,v] [l[i]] Qv (by show Ai.nx+11<Ai.nx+15;omega) (by simp;decide) (by rw [Gb];exact Rows.one (rCell_rd.2 ⟨p,v,rfl,DQ.mono λj (hj:j<n0)=>by show j<Ai.nx+15;omega,DO.mono λj (hj:j<n0)=>by show j<Ai.nx+15;omega⟩)) λc hc=>by
    simp only [Ap,Cm,or_false] at hc
    rcases hc with rfl | rfl
    .exact DQ.same (by decide)
    .exact DO.same (by decide)
   have qZ:Ho [DV.v (.slice none 0 0),DV.v (.slice none 0 0),DV.v (.slice none 0 0)] [(2,1,.ms (Ai.nx+11) 0 1 2)]=some [DV.v (.slice none 0 0),DV.v (.slice none 0 0),.ms (Ai.nx+11) 0 1 2]:=rfl
   simp only [As,↓Au,bP,S9,Yb Qv,qZ,Ca]
   have roM:∀ an,11∈an->Hh (.agg [.v (.slice none 0 0),.v (.slice none 0 0),.ms (Ai.nx+11) 0 1 2]) (λid=>Cp Ai.nx 15 an Li id):=λan Jx id hid=>by
    have:id=Ai.nx+11:=by simpa [DV.refs,DV.refsL] using hid
    subst this
    exact kY Qv (by simpa using Jx)
   refine ⟨kY Qv rfl,roM _ (by simp),?_⟩
   refine Ly rfl (Uy ?_)
   simp only [bR,Am,Az]
   refine Cj0 k _ _ _ _ ⟨[],[],[l[i]]⟩ 1 (Ai.nx+15) (Ag _) ⟨_,_,_,rfl,.nil,.nil,rC⟩ (by decide) λGr Ia Jp=>?_
   have Oi:=Jp.le
   have g5:Al es.hp es.nx Gr Ia:=⟨by omega,λj hj=>by rw [Jp.same j (by omega),Ps j (by omega),g.same j hj]⟩
   cases c4:Xo ⟨[],[],[l[i]]⟩ 1 with
   | false=>
    rw [dO (f:=λc=>Xo ⟨[],[],[c]⟩ 1) h c4] at hK
    simp only [As,↓Au,bP,Oi]
    exact hK _ _ g5
   | true=>
    simp only [As,↓Au,b0,b5,h,Oi,Hz (show i<_ by omega)]
    exact ⟨g5,by rw [dN h,hc,c4];rfl⟩
  .rw [Bq (by omega)] at hc
   rw [hc] at hK
   simp only [As,↓Au,bP,b0,b5,h,r.len]
   exact hK _ _ g
 .simp only [As,a0]
  rfl
end
end Go.DD

/- The tree of versions: what it reads as. Conditions: those that each theorem states. -/
namespace Go.DD
open Go Go.Proofs Go.Sort
structure PNode where
 chg:List PCell
 par:List Int
 gone:Bool
 deriving Inhabited
def EI:Rep Bool:=Yw 1 4 (λb=>[bv b]) (by decide) (λ_=>rfl) λx c h=>by
 obtain rfl:=Aj.1 h
 exact GA x
def rChs:Rep (List PCell):=Nf rChange 27
def rNode:Rep PNode:=Wz (Wz rChs Po 0 PNode.chg PNode.par) EI 136 id PNode.gone
theorem rNode_rd{hp:Tr DObj}{p:Nat->Prop}{ds:List DV}{x:PNode} : rNode.rd hp p ds x↔∃ a b,ds=[a,b,bv x.gone]/\RL rChange hp p a x.chg/\RL rInt hp p b x.par:=by
 constructor
 .rintro ⟨_,_,rfl,⟨_,_,rfl,⟨a,rfl,h1⟩,⟨b,rfl,h2⟩⟩,rfl⟩
  exact ⟨a,b,rfl,h1,h2⟩
 .rintro ⟨a,b,rfl,h1,h2⟩
  exact ⟨_,_,rfl,⟨_,_,rfl,⟨a,rfl,h1⟩,⟨b,rfl,h2⟩⟩,rfl⟩
section
variable {hp An:Tr DObj} {p:Nat->Prop} {d:DV}
theorem yy{l:List PNode}(h:RL rNode hp p d l){i:Nat}(hi:i<l.length):∃ a b,RL rChange hp p a l[i].chg/\RL rInt hp p b l[i].par/\Fy hp (some 3) (Bz 3 d i)=some (.agg [a,b,bv l[i].gone])/\Fy hp none (Bz 3 d i)=some a/\Fy hp none (Fx (Bz 3 d i) 0)=some a/\Fy hp none (Fx (Bz 3 d i) 1)=some b/\Fy hp none (Fx (Bz 3 d i) 2)=some (bv l[i].gone):=by
 obtain ⟨ds,hr,h1,h0,h2⟩:=h.at hi
 obtain ⟨a,b,rfl,h3,h4⟩:=rNode_rd.1 hr
 exact ⟨a,b,h3,h4,h1,h0 _ rfl,h2 0 _ rfl,h2 1 _ rfl,h2 2 _ rfl⟩
theorem iN{id k:Nat}{o:DObj}(h:hp.get id=some o):Mx hp k (.pt id 0)=some (.pt id k):=by
 rw [Py h,Df]
structure PVer where
 cells:List PCell
 par:List Int
 deriving Inhabited
structure PTree where
 dims:List PDim
 attrs:List PAttr
 vers:List PVer
 heads:List (ByteArray×Int)
end
end Go.DD

/- What can be written in an own array's cells. Conditions: those that each theorem states. -/
namespace Go.DD
open Go Go.Proofs
section
variable {hp An:Tr DObj} {p:Nat->Prop} {d:DV} {n:Nat}
theorem HZ{id off n e i:Nat}{o:DObj}(h:hp.get id=some o)(hi:i<n):Qu hp e (.ms id off n e) (.v (.int .i64 (i:Int)))=some (.pt id (off+i*e)):=by
 show (if lR hp id=true/\0<=(i:Int)/\(i:Int)<(n:Int) then some (DV.pt id (off+(i:Int).toNat*e)) else none)=_
 rw [Af ⟨by unfold lR;rw [h];rfl,by omega,by omega⟩];rfl
theorem Od{id off T:Nat}{fl:List DV}{c:DV}(h:hp.get id=some (.row T fl))(hc:fl[off]?=some c):Fy hp none (.pt id off)=some c:=by rw [Qz h];exact ze hc
end
end Go.DD
