/- A part. -/
import Derived.Test.YtnphfnhhpcelbaaGreatXm
import Derived.Test.YtnphfnhhpcelbaaGreatXp
import Derived.Sort.AssemblyPlain
set_option linter.unusedSectionVars false
set_option linter.unusedVariables false
namespace Go.DD
open Go Go.Proofs
theorem Rows.setE {α:Type} {R:Rep α} {hp:Tr DObj} {p:Nat→Prop} {v:List DV} {y:α} (hv:R.rd hp p v y):∀ {l:List α} {fl:List DV} (i:Nat),i < l.length→Rows R hp p fl l→Rows R hp p (fl.take (i*R.e) ++ v ++ fl.drop (i*R.e+R.e)) (l.set i y)
 | [],_,_,hi,_=>by simp at hi
 | _ :: l,_,0,_,⟨a,b,e,h1,h3⟩=>by
  subst e
  refine ⟨v,b,?_,hv,h3⟩
  rw [Nat.zero_mul,Nat.zero_add,List.take_zero,List.nil_append,List.drop_left' (R.len h1)]
 | x :: l,_,i+1,hi,⟨a,b,e,h1,h3⟩=>by
  subst e
  have h4:=h3.setE hv i (by simpa using hi)
  refine ⟨a,b.take (i*R.e) ++ v ++ b.drop (i*R.e+R.e),?_,h1,h4⟩
  have e1:(i+1)*R.e=R.e+i*R.e:=by rw [Nat.add_mul,Nat.one_mul,Nat.add_comm]
  rw [e1,List.take_append,List.drop_append,R.len h1,List.take_of_length_le (by rw [R.len h1]; omega),List.drop_of_length_le (by rw [R.len h1]; omega),show R.e+i*R.e - R.e=i*R.e by omega,show R.e+i*R.e+R.e - R.e=i*R.e+R.e by omega,List.nil_append,List.append_assoc,List.append_assoc,List.append_assoc]
section
variable {call:CallT} {es:ES} {dst:Option Pa} {q:Hold (ES→Prop)}
theorem Ac4 {α:Type} {R:Rep α} {p:Nat→Prop} {a x:EO} {id i n:Nat} {v:List DV} {l:List α} {y:α} (ea:rawE es a=.pt id (i*R.e)) (ho:OL R es.hp p (.ms id 0 n R.e) l) (ev:evE es x=.agg v) (hv:R.rd es.hp p v y) (hi:i < l.length) (hp0:¬ p id)
  (h:∀ hp',OL R hp' p (.ms id 0 n R.e) (l.set i y)→(∀ j,j≠id→hp'.get j=es.hp.get j)→q.val ((ES.mk es.sl hp' es.nx).putE dst .any)) :
  SWs (sU dst (xSt R.e a x)) call es:=by
 obtain ⟨hn,_,fl,hg,hr⟩:=ho.get
 have hl:=hr.len
 have hb:i*R.e+R.e≤fl.length:=by
  rw [hl]
  have:=Nat.mul_le_mul_right R.e hi
  rw [Nat.succ_mul] at this; exact this
 show SW _ _ _ _
 rw [sw_st,ea,st_pt,hg,ev,st_r id (i*R.e) R.e (.agg v) R.T fl rfl (R.len hv) hb,Am7]
 show q.val ((es.up (.wr id (.row R.T (fl.take (i*R.e) ++ v ++ fl.drop (i*R.e+R.e))))).putE dst .any)
 refine h (es.up (.wr id (.row R.T (fl.take (i*R.e) ++ v ++ fl.drop (i*R.e+R.e))))).hp ?_ fun j hj=>by rw [up_wr,get_set,if_neg hj]
 have hr2:=(hr.setE hv i hi).keep (hp':=(es.up (.wr id (.row R.T (fl.take (i*R.e) ++ v ++ fl.drop (i*R.e+R.e))))).hp) fun j hj=>by rw [up_wr,get_set,if_neg (show ¬ j=id from fun e=>hp0 (e ▸ hj))]
 have:=OL.ms (R:=R) (p:=p) id _ (l.set i y) (by rw [up_wr,get_set,if_pos rfl]) hr2
 rw [List.length_set,← hn] at this
 exact this
end
def ltC (x y:PCell):Bool:=decide (cmpL x.pos y.pos < 0)
theorem swoC:Go.Sort.SWO ltC where
 irrefl x:=by unfold ltC; rw [Ab9]; rfl
 trans x y z h1 h2:=by
  unfold ltC at *
  have h1:=of_decide_eq_true h1
  have h2:=of_decide_eq_true h2
  have e1:=Ac1 x.pos y.pos
  have e2:=Ac1 y.pos z.pos
  have:=Ad4 (show cmpL x.pos y.pos = -1 by omega) (show cmpL y.pos z.pos = -1 by omega)
  exact decide_eq_true (by omega)
 ntrans x y z h1 h2:=by
  unfold ltC at *
  have h1:=of_decide_eq_false h1
  have h2:=of_decide_eq_false h2
  refine decide_eq_false fun h3=>?_
  have e1:=Ac1 x.pos y.pos
  have e2:=Ac1 y.pos z.pos
  have e3:=Ac1 x.pos z.pos
  have:=Br6 (a:=z.pos) (b:=y.pos) (c:=x.pos) (by rw [Ai3]; omega) (by rw [Ai3]; omega)
  rw [Ai3] at this
  omega
structure SR (hp:Tr DObj) (n0 id n:Nat) (d:Array PCell):Prop where
 o:OL rChange hp (fun j=>j < n0∧j≠id) (.ms id 0 n 2) d.toList
 h:id < n0
 b:∀ c∈d.toList,c.pos.length < 900000
 s:d.size < 100000
theorem SR.n {hp:Tr DObj} {n0 id n:Nat} {d:Array PCell} (h:SR hp n0 id n d):n=d.size:=h.o.get.1
theorem SR.rl {hp:Tr DObj} {n0 id n:Nat} {d:Array PCell} (h:SR hp n0 id n d):RL rChange hp (Bl n0) (.ms id 0 n 2) d.toList:=h.o.rl.mono fun j hj=>by
 rcases hj with hj | hj
 ·exact hj.1
 ·have:j=id:=by simpa [DV.refs] using hj
  have:=h.h
  show j < n0
  omega
theorem SR.keep {hp hp':Tr DObj} {n0 id n:Nat} {d:Array PCell} (h:SR hp n0 id n d) (hk:∀ j,j < n0→hp'.get j=hp.get j):SR hp' n0 id n d:=⟨h.o.keep fun j hj=>hk j (by
 rcases hj with hj | hj
 ·exact hj.1
 ·have:j=id:=by simpa [DV.refs] using hj
  have:=h.h
  omega),h.h,h.b,h.s⟩
theorem SR.get {hp:Tr DObj} {n0 id n:Nat} {d:Array PCell} (h:SR hp n0 id n d):∃ fl,hp.get id=some (.row rChange.T fl):=let ⟨_,_,fl,hg,_⟩:=h.o.get; ⟨fl,hg⟩
theorem Bj1 {d:Array PCell} {i j:Nat} (hi:i < d.size) (hj:j < d.size):(Go.Sort.swp d i j).toList=(d.toList.set i d.toList[j]).set j d.toList[i]:=by
 unfold Go.Sort.swp
 rw [getElem!_pos d i hi,getElem!_pos d j hj]
 simp
theorem SR.at {hp:Tr DObj} {n0 id n:Nat} {d:Array PCell} (h:SR hp n0 id n d) {i:Nat} (hi:i < d.size):∃ a b,RL rInt hp (fun j=>j < n0∧j≠id) a d[i]!.pos∧RL rVal hp (fun j=>j < n0∧j≠id) b d[i]!.vals∧ldD hp (some 2) (.pt id (i*2))=some (.agg [a,b]):=by
 obtain ⟨hn,_,fl,hg,hr⟩:=h.o.get
 have hi':i < d.toList.length:=by simpa using hi
 obtain ⟨rest,e1,h2⟩:=hr.at hi'
 obtain ⟨a,b,e2,h3,h4⟩:=rChange_rd.1 h2
 rw [getElem!_pos d i hi]
 refine ⟨a,b,by simpa using h3,by simpa using h4,?_⟩
 have e1':fl.drop (i*2)=[a,b] ++ rest:=by
  have e3:(fl.drop (i*2)).take 2=[a,b]:=e2
  have e4:fl.drop (i*2)=(fl.drop (i*2)).take 2 ++ rest:=e1
  rw [e4,e3]
 rw [ld_p hg,e1']
 rfl
theorem Aa9 (id n i:Nat):adrE 2 (.ms id 0 n 2) i=.pt id (i*2):=by show DV.pt id (0+i*2)=_; rw [Nat.zero_add]
def cmpC:DV:=.fn (.func 126) [.tup []]
theorem Ag0 {f:Nat→Bool} : Aa6 cmpC f↔True:=A58 (by simp [cmpC,DV.refs,DV.refsL])
theorem Ac9 (hp:Tr DObj):liveE hp cmpC=cmpC:=Ab6 (by simp [cmpC,DV.refs,DV.refsL])
section
variable (k n0:Nat) (hp:Tr DObj) (nx:Nat) (K:DV→Tr DObj→Nat→Prop)
theorem Ag1 (p v q w:DV) (c e:PCell) (hn:n0≤nx) (h1:RL rInt hp (Bl n0) p c.pos) (h2:RL rVal hp (Bl n0) v c.vals) (h3:RL rInt hp (Bl n0) q e.pos) (h4:RL rVal hp (Bl n0) w e.vals) (hl:c.pos.length < 900000)
  (hK:∀ hp' nx',Al hp nx hp' nx'→K (iv (cmpL c.pos e.pos)) hp' nx'):KW (kN (k+5)) (.fn 126) [.agg [p,v],.agg [q,w]] hp nx K:=by
 refine kn_1 (Aa2 (by decide)) t126 (Nat.le_of_ble_eq_true rfl) fun es e1 e2 he=>?_
 have a0:rawE es (.t .o)=.agg [p,v]:=he 0 _ rfl
 have a1:rawE es (.t (.l .o))=.agg [q,w]:=he 1 _ rfl
 unfold r126
 subst e1 e2
 simp only [↓bSb]
 refine Ab0 (cs:=[p,v]) (by rw [evt,a0]; exact Aa5 h1 h2) fun hp1 hg1 hk1=>?_
 simp only [bR] at hg1 hk1
 have hal1:Al es.hp es.nx hp1 (es.nx+1):=⟨by omega,fun j hj=>hk1 j (by omega)⟩
 simp only [bSa,↓bSb]
 refine Ab0 (cs:=[q,w]) (by simp only [evt,bR,reduceCtorEq,a1]; exact Aa5 (h3.ka hn hal1) (h4.ka hn hal1)) fun hp2 hg2 hk2=>?_
 simp only [bR] at hg2 hk2
 have hal2:Al es.hp es.nx hp2 (es.nx+2):=⟨by omega,fun j hj=>by rw [hk2 j (by omega),hk1 j (by omega)]⟩
 obtain ⟨⟨f0,_⟩,l0,_,_⟩:=Ac6 ((hk2 es.nx (by omega)).trans hg1)
 obtain ⟨⟨g0,_⟩,m0,_,_⟩:=Ac6 hg2
 simp only [bSa,↓bSb,f0,l0,g0,m0]
 refine kws (Ai6 (k:=k) n0 _ _ _ p q _ _ (by omega) (h1.ka hn hal2) (h3.ka hn hal2) hl ?_)
 simp only [bSa,↓bSb,bP]
 exact hK _ _ hal2
end
end Go.DD

/- Contracts: insertion sort of changes. Conditions: those that each theorem states. -/
namespace Go.DD
open Go Go.Proofs Go.Sort
structure Fr (hp:Tr DObj) (nx id:Nat) (hp':Tr DObj) (nx':Nat):Prop where
 le:nx≤nx'
 fr:∀ j,j < nx→j≠id→hp'.get j=hp.get j
theorem Fr.refl (hp:Tr DObj) (nx id:Nat):Fr hp nx id hp nx:=⟨Nat.le_refl _,fun _ _ _=>rfl⟩
theorem Fr.trans {hp hp1 hp2:Tr DObj} {nx n1 n2 id:Nat} (h1:Fr hp nx id hp1 n1) (h2:Fr hp1 n1 id hp2 n2):Fr hp nx id hp2 n2:=⟨Nat.le_trans h1.le h2.le,fun j hj hi=>(h2.fr j (Nat.lt_of_lt_of_le hj h1.le) hi).trans (h1.fr j hj hi)⟩
theorem Fr.al {hp hp1 hp2:Tr DObj} {nx n1 n2 id:Nat} (h1:Fr hp nx id hp1 n1) (h2:Al hp1 n1 hp2 n2):Fr hp nx id hp2 n2:=⟨Nat.le_trans h1.le h2.le,fun j hj hi=>(h2.same j (Nat.lt_of_lt_of_le hj h1.le)).trans (h1.fr j hj hi)⟩
theorem Fr.up {hp hp1 hp2:Tr DObj} {nx n1 n2 id:Nat} (h1:Fr hp nx id hp1 n1) (hn:n1≤n2) (h2:∀ j,j < n1→j≠id→hp2.get j=hp1.get j):Fr hp nx id hp2 n2:=h1.trans ⟨hn,h2⟩
theorem SR.al {hp hp':Tr DObj} {n0 id n nx nx':Nat} {d:Array PCell} (h:SR hp n0 id n d) (hn:n0≤nx) (ha:Al hp nx hp' nx'):SR hp' n0 id n d:=h.keep fun j hj=>ha.same j (by omega)
theorem SR.swp {hp:Tr DObj} {n0 id n i j:Nat} {d:Array PCell} (h:SR hp n0 id n d) (hi:i < d.size) (hj:j < d.size) {hp':Tr DObj} (ho:OL rChange hp' (fun j=>j < n0∧j≠id) (.ms id 0 n 2) ((d.toList.set i d[j]!).set j d[i]!)):SR hp' n0 id n (swp d i j):=by
 have e:=Bj1 hi hj
 rw [getElem!_pos d i hi,getElem!_pos d j hj] at ho
 have e1:d.toList[i]=d[i]:=by simp
 have e2:d.toList[j]=d[j]:=by simp
 rw [e1,e2] at e
 refine ⟨by rw [e]; exact ho,h.h,fun c hc=>?_,by rw [size_swp]; exact h.s⟩
 rw [e] at hc
 rcases List.mem_or_eq_of_mem_set hc with h1 | h1
 ·rcases List.mem_or_eq_of_mem_set h1 with h2 | h2
  ·exact h.b c h2
  ·exact h.b c (by rw [h2]; exact Array.mem_toList_iff.2 (Array.getElem_mem hj))
 ·exact h.b c (by rw [h1]; exact Array.mem_toList_iff.2 (Array.getElem_mem hi))
theorem SR.bA {hp:Tr DObj} {n0 id n i:Nat} {d:Array PCell} (h:SR hp n0 id n d) (hi:i < d.size):d[i]!.pos.length < 900000:=by
 rw [getElem!_pos d i hi]
 exact h.b _ (Array.mem_toList_iff.2 (Array.getElem_mem hi))
theorem SR.ia {hp:Tr DObj} {n0 id n i:Nat} {d:Array PCell} (h:SR hp n0 id n d) (hi:i < d.size):iaD hp 2 (.ms id 0 n 2) (.v (.int .i64 (i:Int)))=some (adrE 2 (.ms id 0 n 2) i):=Ad6 h.rl (by simpa using hi)
theorem SR.rox {hp:Tr DObj} {n0 id n nx m:Nat} {d:Array PCell} {an:List Nat} (h:SR hp n0 id n d) (hn:n0≤nx):okRef nx m an hp id=true:=by
 obtain ⟨fl,hg⟩:=h.get
 have:=h.h
 exact Aa1 hg (by omega)
theorem bl_of {n0 id:Nat} : ∀ j,(fun j=>j < n0∧j≠id) j→Bl n0 j:=fun _ h=>h.1
theorem ltC_t {x y:PCell} (h:cmpL x.pos y.pos < 0):ltC x y=true:=decide_eq_true h
theorem ltC_f {x y:PCell} (h:¬ cmpL x.pos y.pos < 0):ltC x y=false:=decide_eq_false h
theorem Aq3 {i:Nat} (h:i < 9000000000000):binD .sub (.v (.int .i64 ((i+1:Nat):Int))) (.v (.int .i64 1))=some (.v (.int .i64 (i:Int))):=by rw [b_sub,wrap_in (by omega)]; congr 3; omega
theorem Ad3 {n0 m i:Nat} {an refs lo:List Nat} {ws:List Look} {ps:List Past} {id:Nat} (hr:∀ j∈refs,j=id) (hid:id < n0) (hp:∀ p∈ps,(p.a.get id).isSome=true∧(p.b.get id).isSome=true) (h2:Ag3 n0 m ws ps=true):Ag3 n0 m (lookE i an true false refs n0 lo ws) ps=true:=
 Ai2 (fun j hj=>by
  rw [hr j hj]
  refine ⟨hid,fun p hp'=>.inr (.inr ?_)⟩
  obtain ⟨h3,h4⟩:=hp p hp'
  rw [if_neg (by simp)]
  show (((p.a.get id).isSome) == ((p.b.get id).isSome))=true
  rw [h3,h4]; rfl) h2
theorem Ai0 (id n:Nat):∀ j∈(DV.ms id 0 n 2).refs,j=id:=fun j hj=>by simpa [DV.refs] using hj
section
variable (k n0:Nat) (hp:Tr DObj) (nx:Nat) (K:DV→Tr DObj→Nat→Prop)
theorem Cp5 (id n a b:Nat) (d:Array PCell) (hn:n0≤nx) (hs:SR hp n0 id n d) (hb:b≤d.size) (ha:a≤d.size)
  (hK:∀ hp' nx',Fr hp nx id hp' nx'→SR hp' n0 id n (insertionSort ltC d a b)→K (.tup []) hp' nx'):KW (kN (k+6)) (.fn 203) [.ms id 0 n 2,iv a,iv b,cmpC] hp nx K:=by
 refine kn_0 (Aa2 (by decide)) t203 (Nat.le_of_ble_eq_true rfl) fun es e1 e2 he=>?_
 have a0:rawE es (.t .o)=.ms id 0 n 2:=he 0 _ rfl
 have a1:rawE es (.t (.l .o))=iv a:=he 1 _ rfl
 have a2:rawE es (.t (.r .o))=iv b:=he 2 _ rfl
 have a3:rawE es (.t (.l (.l .o)))=cmpC:=he 3 _ rfl
 unfold r203
 subst e1 e2
 have hsz:=hs.s
 simp only [bSa,↓bSb,a1,Aa3 (show a < _ by omega)]
 refine EW.up (b - (a+1)) (fun t es1=>∃ d1,Fr es.hp es.nx id es1.hp es1.nx∧SR es1.hp n0 id n d1∧d1.size=d.size∧insOuter ltC a b (a+1+t) d1=insertionSort ltC d a b∧rawE es1 (.t .o)=.ms id 0 n 2∧rawE es1 (.t (.l .o))=iv a∧rawE es1 (.t (.r .o))=iv b∧rawE es1 (.t (.l (.l .o)))=cmpC∧rawE es1 (.t (.r (.l (.l .o))))=iv ((a+1+t:Nat))) ?_ ?_ (by omega)
 ·rintro t es1 ht ⟨d1,g,hs1,hd1,he,b0,b1,b2,b3,b8⟩
  unfold Bs8
  have hle:=g.le
  by_cases h:t < b - (a+1)
  ·have hib:a+1+t < b:=by omega
   rw [insOuter,if_pos hib] at he
   simp only [bSa,↓bSb,b2,b8,hib]
   generalize hi:a+1+t=i at he hib b8
   refine EW.l (I:=fun m es2=>∃ d2,m≤i∧Fr es.hp es.nx id es2.hp es2.nx∧SR es2.hp n0 id n d2∧d2.size=d.size∧insInner ltC a m d2=insInner ltC a i d1∧rawE es2 (.t .o)=.ms id 0 n 2∧rawE es2 (.t (.l .o))=iv a∧rawE es2 (.t (.r .o))=iv b∧rawE es2 (.t (.l (.l .o)))=cmpC∧rawE es2 (.t (.r (.l (.l .o))))=iv (i:Nat)∧rawE es2 (.t (.l (.r (.l .o))))=iv (m:Nat)) ?_ i 1000000 _ ?_ (by omega)
   ·rintro m es2 ⟨d2,hm,g2,hs2,hd2,he2,x0,x1,x2,x3,x8,x9⟩
    unfold Ca6
    have hle2:=g2.le
    by_cases hma:a < m
    ·obtain ⟨j,rfl⟩:∃ j,m=j+1:=⟨m - 1,by omega⟩
     obtain ⟨pA,vA,rpA,rvA,lA⟩:=hs2.at (show j+1 < d2.size by omega)
     obtain ⟨pB,vB,rpB,rvB,lB⟩:=hs2.at (show j < d2.size by omega)
     have rpA':=rpA.mono (bl_of (id:=id))
     have rvA':=rvA.mono (bl_of (id:=id))
     have rpB':=rpB.mono (bl_of (id:=id))
     have rvB':=rvB.mono (bl_of (id:=id))
     simp only [bSa,↓bSb,x0,x1,x3,x9,hma,Aq3 (show j < _ by omega),hs2.ia (show j+1 < d2.size by omega),hs2.ia (show j < d2.size by omega),lA,lB,hs2.rox (m:=17) (show n0≤es2.nx by omega),Aa9,Ag0]
     refine ⟨⟨ro_pr (rpA'.rox (by omega)) (rvA'.rox (by omega)),ro_pr (rpB'.rox (by omega)) (rvB'.rox (by omega))⟩,?_⟩
     refine Aa0 rfl (Af2 (f:=126) (fs:=[]) (cs:=[]) (by rw [evt]; simp only [bR]; exact Ac9 _) ?_)
     simp only [bR,List.map_cons,List.map_nil,List.append_nil,List.nil_append]
     refine Ag1 k n0 _ _ _ pA vA pB vB d2[j+1]! d2[j]! (by omega) rpA' rvA' rpB' rvB' (hs2.bA (show j+1 < d2.size by omega)) fun hp3 nx3 hal3=>?_
     have hle3:=hal3.le
     have hs3:=hs2.al (nx:=es2.nx+17) (by omega) hal3
     have g3:Fr es.hp es.nx id hp3 nx3:=g2.up (by omega) fun j hj _=>hal3.same j (by omega)
     rw [insInner] at he2
     by_cases hc:cmpL d2[j+1]!.pos d2[j]!.pos < 0
     ·rw [if_pos (by rw [ltC_t hc]; simp; omega)] at he2
      obtain ⟨pA,vA,rpA,rvA,lA⟩:=hs3.at (show j+1 < d2.size by omega)
      obtain ⟨pB,vB,rpB,rvB,lB⟩:=hs3.at (show j < d2.size by omega)
      have rpA':=rpA.mono (bl_of (id:=id))
      have rvA':=rvA.mono (bl_of (id:=id))
      have rpB':=rpB.mono (bl_of (id:=id))
      have rvB':=rvB.mono (bl_of (id:=id))
      simp only [bSa,↓bSb,x0,x9,hle3,decide_eq_true hc,Aq3 (show j < _ by omega),hs3.ia (show j+1 < d2.size by omega),hs3.ia (show j < d2.size by omega),lA,lB,hs3.rox (m:=18) (show n0≤nx3 by omega),Aa9]
      refine ⟨ro_pr (rpB'.rox (by omega)) (rvB'.rox (by omega)),?_⟩
      refine Aa0 rfl (Ac4 (R:=rChange) (i:=j+1) (n:=n) (id:=id) (v:=[pB,vB]) (y:=d2[j]!) (p:=fun j=>j < n0∧j≠id) (by simp only [bR]; rfl) hs3.o (by simp only [evt,bR,reduceCtorEq]; exact Aa5 rpB rvB) (rChange_rd.2 ⟨pB,vB,rfl,rpB,rvB⟩) (by simp; omega) (fun h=>h.2 rfl) fun hp4 ho4 hk4=>?_)
      simp only [bR] at hk4
      obtain ⟨_,_,fl4,hg4,_⟩:=ho4.get
      have hidn:=hs3.h
      have rpA4:=rpA.keep (hp':=hp4) fun j hj=>hk4 j hj.2
      have rvA4:=rvA.keep (hp':=hp4) fun j hj=>hk4 j hj.2
      have i4:iaD hp4 2 (.ms id 0 n 2) (.v (.int .i64 (j:Int)))=some (adrE 2 (.ms id 0 n 2) j):=Ad6 ho4.rl (by simp; omega)
      simp only [bSa,↓bSb,i4,Aa9,Aa1 (n0:=nx3) (m:=18) hg4 (show id < nx3 by omega)]
      refine ⟨ro_pr ((rpA4.mono (bl_of (id:=id))).rox (by omega)) ((rvA4.mono (bl_of (id:=id))).rox (by omega)),?_⟩
      refine Aa0 rfl (Ac4 (R:=rChange) (i:=j) (n:=n) (id:=id) (v:=[pA,vA]) (y:=d2[j+1]!) (p:=fun j=>j < n0∧j≠id) (by simp only [bR]; rfl) ho4 (by simp only [evt,bR,reduceCtorEq]; exact Aa5 rpA4 rvA4) (rChange_rd.2 ⟨pA,vA,rfl,rpA4,rvA4⟩) (by simp; omega) (fun h=>h.2 rfl) fun hp5 ho5 hk5=>?_)
      simp only [bR] at hk5
      have hs5:=hs3.swp (show j+1 < d2.size by omega) (show j < d2.size by omega) ho5
      simp only [bSa,↓bSb,x0,x1,x2,x3,x8,x9,Aq3 (show j < _ by omega)]
      obtain ⟨fl3,hg3⟩:=hs3.get
      obtain ⟨fl5,hg5⟩:=hs5.get
      refine ⟨Ad3 (Ai0 id n) (by omega) (fun p hp=>?_) rfl,j,by omega,_,by omega,⟨by have:=g3.le; omega,fun q hq hqi=>by rw [hk5 q hqi,hk4 q hqi,g3.fr q hq hqi]⟩,hs5,by rw [size_swp,hd2],he2,rfl⟩
      simp only [List.mem_cons,List.not_mem_nil,or_false] at hp
      rcases hp with rfl | rfl
      ·exact ⟨by rw [hg4]; rfl,by rw [hg5]; rfl⟩
      ·exact ⟨by rw [hg3]; rfl,by rw [hg4]; rfl⟩
     ·rw [if_neg (by rw [ltC_f hc]; simp)] at he2
      simp only [bSa,↓bSb,x0,x1,x2,x3,x8,hle3,decide_eq_false hc,Aa3 (show i < _ by omega)]
      exact ⟨h,d2,g3,hs3,hd2,by rw [← he,← he2,← hi]; rfl,by rw [← hi]; rfl⟩
    ·simp only [bSa,↓bSb,x0,x1,x2,x3,x8,x9,hma]
     have he3:d2=insInner ltC a i d1:=by
      rw [← he2]
      cases m with
      | zero=>rfl
      | succ j=>rw [insInner,if_neg (by simp; omega)]
     rw [← he3] at he
     simp only [bSa,Aa3 (show i < _ by omega)]
     exact ⟨h,d2,g2.up (by omega) fun _ _ _=>rfl,hs2,hd2,by rw [← he,← hi]; rfl,by rw [← hi]; rfl⟩
   ·simp only [bSa,b0,b1,b2,b3,b8]
    exact ⟨d1,g,hs1,hd1,rfl⟩
  ·rw [insOuter,if_neg (by omega)] at he
   simp only [bSa,↓bSb,b2,b8,show ¬ a+1+t < b by omega]
   exact hK _ _ g (he ▸ hs1)
 ·simp only [bSa,a0,a1,a2,a3]
  exact ⟨d,Fr.refl _ _ _,hs,rfl,rfl⟩
end
end Go.DD

/- Contracts: the heap's sift of changes. Conditions: those that each theorem states. -/
namespace Go.DD
open Go Go.Proofs Go.Sort
theorem Ch1 (hi first r:Nat) (d:Array PCell) (h:2*r+1 < hi):siftDown ltC hi first r d=if !ltC d[first+r]! d[first+(if 2*r+1+1 < hi && ltC d[first+(2*r+1)]! d[first+(2*r+1)+1]! then 2*r+1+1 else 2*r+1)]! then d else siftDown ltC hi first (if 2*r+1+1 < hi && ltC d[first+(2*r+1)]! d[first+(2*r+1)+1]! then 2*r+1+1 else 2*r+1) (swp d (first+r) (first+(if 2*r+1+1 < hi && ltC d[first+(2*r+1)]! d[first+(2*r+1)+1]! then 2*r+1+1 else 2*r+1))):=by
 rw [siftDown,dif_neg (by omega)]
 by_cases c:(decide (2*r+1+1 < hi) && ltC d[first+(2*r+1)]! d[first+(2*r+1)+1]!)=true
 ·have c1:2*r+2 < hi:=by simp at c; exact c.1
  rw [if_pos c,if_pos c,dif_pos c1]
 ·rw [if_neg c,if_neg c]
theorem sift_stop (hi first r:Nat) (d:Array PCell) (h:¬ 2*r+1 < hi):siftDown ltC hi first r d=d:=by rw [siftDown,dif_pos (by omega)]
section
variable (k n0:Nat) (hp:Tr DObj) (nx:Nat) (K:DV→Tr DObj→Nat→Prop)
theorem Bu0 (id n lo hi first:Nat) (d:Array PCell) (hn:n0≤nx) (hs:SR hp n0 id n d) (hb:first+hi≤d.size) (hlo:lo < 100000)
  (hK:∀ hp' nx',Fr hp nx id hp' nx'→SR hp' n0 id n (siftDown ltC hi first lo d)→K (.tup []) hp' nx'):KW (kN (k+6)) (.fn 223) [.ms id 0 n 2,iv lo,iv hi,iv first,cmpC] hp nx K:=by
 refine kn_0 (Aa2 (by decide)) t223 (Nat.le_of_ble_eq_true rfl) fun es e1 e2 he=>?_
 have a0:rawE es (.t .o)=.ms id 0 n 2:=he 0 _ rfl
 have a1:rawE es (.t (.l .o))=iv lo:=he 1 _ rfl
 have a2:rawE es (.t (.r .o))=iv hi:=he 2 _ rfl
 have a3:rawE es (.t (.l (.l .o)))=iv first:=he 3 _ rfl
 have a4:rawE es (.t (.r (.l .o)))=cmpC:=he 4 _ rfl
 unfold r223
 subst e1 e2
 have hsz:=hs.s
 simp only [bSa,↓bSb,a1]
 refine EW.l (I:=fun m es1=>∃ r d1,m=200001 - r∧r≤100000∧Fr es.hp es.nx id es1.hp es1.nx∧SR es1.hp n0 id n d1∧d1.size=d.size∧siftDown ltC hi first r d1=siftDown ltC hi first lo d∧rawE es1 (.t .o)=.ms id 0 n 2∧rawE es1 (.t (.r .o))=iv hi∧rawE es1 (.t (.l (.l .o)))=iv first∧rawE es1 (.t (.r (.l .o)))=cmpC∧rawE es1 (.t (.r (.r (.l .o))))=iv (r:Nat)) ?_ (200001 - lo) 1000000 _ ?_ (by omega)
 ·rintro m es1 ⟨r,d1,hm,hr,g,hs1,hd1,he,b0,b2,b3,b4,b10⟩
  unfold Cb2
  have hle:=g.le
  have hmul:binD .mul (.v (.int .i64 2)) (.v (.int .i64 (r:Int)))=some (.v (.int .i64 ((2*r:Nat):Int))):=by rw [b_mul,wrap_in (by omega)]; congr 3
  by_cases h1:2*r+1 < hi
  ·refine ew_b.2 (EW.seq (fun es2=>rawE es2 (.t .o)=.ms id 0 n 2∧rawE es2 (.t (.r .o))=iv hi∧rawE es2 (.t (.l (.l .o)))=iv first∧rawE es2 (.t (.r (.l .o)))=cmpC∧rawE es2 (.t (.r (.r (.l .o))))=iv (r:Nat)∧rawE es2 (.t (.l (.l (.r .o))))=iv ((2*r+1:Nat))∧es2.hp=es1.hp∧es2.nx=es1.nx) ?_ fun es2 ⟨b0,b2,b3,b4,b10,b11,yh,yn⟩=>EW.seq (fun es2=>rawE es2 (.t .o)=.ms id 0 n 2∧rawE es2 (.t (.r .o))=iv hi∧rawE es2 (.t (.l (.l .o)))=iv first∧rawE es2 (.t (.r (.l .o)))=cmpC∧rawE es2 (.t (.r (.r (.l .o))))=iv (r:Nat)∧rawE es2 (.t (.l (.l (.r .o))))=iv ((2*r+1:Nat))∧es2.hp=es1.hp∧es2.nx=es1.nx) ?_ fun es3 ⟨b0,b2,b3,b4,b10,b11,yh,yn⟩=>?_)
   ·simp only [bSa,↓bSb,b0,b2,b3,b4,b10,hmul,Aa3 (show 2*r < _ by omega)]
   ·simp only [bSa,↓bSb,b0,b2,b3,b4,b10,b11,show ¬ hi≤2*r+1 by omega,yh,yn]
   have hc:∃ c,c=(if 2*r+1+1 < hi && ltC d1[first+(2*r+1)]! d1[first+(2*r+1)+1]! then 2*r+1+1 else 2*r+1):=⟨_,rfl⟩
   obtain ⟨c,hc⟩:=hc
   have hchi:c < hi∧r < c:=by
    rw [hc]
    split
    ·rename_i h2; simp at h2; omega
    ·omega
   rw [Ch1 hi first r d1 h1,← hc] at he
   generalize es1.hp=H at *
   generalize es1.nx=N at *
   subst yh yn
   refine EW.seq (fun es4=>rawE es4 (.t .o)=.ms id 0 n 2∧rawE es4 (.t (.r .o))=iv hi∧rawE es4 (.t (.l (.l .o)))=iv first∧rawE es4 (.t (.r (.l .o)))=cmpC∧rawE es4 (.t (.r (.r (.l .o))))=iv (r:Nat)∧rawE es4 (.t (.l (.l (.r .o))))=iv (c:Nat)∧Fr es.hp es.nx id es4.hp es4.nx∧SR es4.hp n0 id n d1) ?_ fun es4 ⟨b0,b2,b3,b4,b10,b11,g4,hs4⟩=>?_
   ·by_cases h2:2*r+1+1 < hi
    ·obtain ⟨pA,vA,rpA,rvA,lA⟩:=hs1.at (show first+(2*r+1) < d1.size by omega)
     obtain ⟨pB,vB,rpB,rvB,lB⟩:=hs1.at (show first+(2*r+1)+1 < d1.size by omega)
     have rpA':=rpA.mono (bl_of (id:=id))
     have rvA':=rvA.mono (bl_of (id:=id))
     have rpB':=rpB.mono (bl_of (id:=id))
     have rvB':=rvB.mono (bl_of (id:=id))
     simp only [bSa,↓bSb,b0,b2,b3,b4,b11,h2,Aa3 (show 2*r+1 < _ by omega),Ae0 (show first+(2*r+1) < _ by omega),Aa3 (show first+(2*r+1) < _ by omega),hs1.ia (show first+(2*r+1) < d1.size by omega),hs1.ia (show first+(2*r+1)+1 < d1.size by omega),lA,lB,hs1.rox (m:=22) (show n0≤es3.nx by omega),Aa9,Ag0]
     refine ⟨⟨ro_pr (rpA'.rox (by omega)) (rvA'.rox (by omega)),ro_pr (rpB'.rox (by omega)) (rvB'.rox (by omega))⟩,?_⟩
     refine Aa0 rfl (Af2 (f:=126) (fs:=[]) (cs:=[]) (by rw [evt]; simp only [bR]; exact Ac9 _) ?_)
     simp only [bR,List.map_cons,List.map_nil,List.append_nil,List.nil_append]
     refine Ag1 k n0 _ _ _ pA vA pB vB d1[first+(2*r+1)]! d1[first+(2*r+1)+1]! (by omega) rpA' rvA' rpB' rvB' (hs1.bA (show first+(2*r+1) < d1.size by omega)) fun hp5 nx5 hal5=>?_
     have hle5:=hal5.le
     have hs5:=hs1.al (nx:=es3.nx+22) (by omega) hal5
     have g5:Fr es.hp es.nx id hp5 nx5:=g.up (by omega) fun j hj _=>hal5.same j (by omega)
     by_cases h3:cmpL d1[first+(2*r+1)]!.pos d1[first+(2*r+1)+1]!.pos < 0
     ·rw [if_pos (by simp [h2,ltC_t h3])] at hc
      simp only [bSa,↓bSb,b0,b2,b3,b4,b10,b11,hle5,decide_eq_true h3,Aa3 (show 2*r+1 < _ by omega),hc]
      exact ⟨g5,hs5⟩
     ·rw [if_neg (by simp [ltC_f h3])] at hc
      simp only [bSa,↓bSb,b0,b2,b3,b4,b10,b11,hle5,decide_eq_false h3,hc]
      exact ⟨g5,hs5⟩
    ·rw [if_neg (by simp [h2])] at hc
     simp only [bSa,↓bSb,b0,b2,b3,b4,b10,b11,h2,Aa3 (show 2*r+1 < _ by omega),hc]
     exact ⟨g.up (by omega) fun _ _ _=>rfl,hs1⟩
   have hle4:=g4.le
   obtain ⟨pA,vA,rpA,rvA,lA⟩:=hs4.at (show first+r < d1.size by omega)
   obtain ⟨pB,vB,rpB,rvB,lB⟩:=hs4.at (show first+c < d1.size by omega)
   have rpA':=rpA.mono (bl_of (id:=id))
   have rvA':=rvA.mono (bl_of (id:=id))
   have rpB':=rpB.mono (bl_of (id:=id))
   have rvB':=rvB.mono (bl_of (id:=id))
   simp only [bSa,↓bSb,b0,b3,b4,b10,b11,Ae0 (show first+r < _ by omega),Ae0 (show first+c < _ by omega),hs4.ia (show first+r < d1.size by omega),hs4.ia (show first+c < d1.size by omega),lA,lB,hs4.rox (m:=16) (show n0≤es4.nx by omega),Aa9,Ag0]
   refine ⟨⟨ro_pr (rpA'.rox (by omega)) (rvA'.rox (by omega)),ro_pr (rpB'.rox (by omega)) (rvB'.rox (by omega))⟩,?_⟩
   refine Aa0 rfl (Af2 (f:=126) (fs:=[]) (cs:=[]) (by rw [evt]; simp only [bR]; exact Ac9 _) ?_)
   simp only [bR,List.map_cons,List.map_nil,List.append_nil,List.nil_append]
   refine Ag1 k n0 _ _ _ pA vA pB vB d1[first+r]! d1[first+c]! (by omega) rpA' rvA' rpB' rvB' (hs4.bA (show first+r < d1.size by omega)) fun hp6 nx6 hal6=>?_
   have hle6:=hal6.le
   have hs6:=hs4.al (nx:=es4.nx+16) (by omega) hal6
   have g6:Fr es.hp es.nx id hp6 nx6:=g4.up (by omega) fun j hj _=>hal6.same j (by omega)
   by_cases h3:cmpL d1[first+r]!.pos d1[first+c]!.pos < 0
   ·rw [if_neg (by simp [ltC_t h3])] at he
    obtain ⟨pA,vA,rpA,rvA,lA⟩:=hs6.at (show first+r < d1.size by omega)
    obtain ⟨pB,vB,rpB,rvB,lB⟩:=hs6.at (show first+c < d1.size by omega)
    have rpA':=rpA.mono (bl_of (id:=id))
    have rvA':=rvA.mono (bl_of (id:=id))
    have rpB':=rpB.mono (bl_of (id:=id))
    have rvB':=rvB.mono (bl_of (id:=id))
    simp only [bSa,↓bSb,b0,b3,b10,b11,hle6,decide_eq_true h3,Ae0 (show first+r < _ by omega),Ae0 (show first+c < _ by omega),hs6.ia (show first+r < d1.size by omega),hs6.ia (show first+c < d1.size by omega),lA,lB,hs6.rox (m:=24) (show n0≤nx6 by omega),Aa9]
    refine ⟨ro_pr (rpB'.rox (by omega)) (rvB'.rox (by omega)),?_⟩
    refine Aa0 rfl (Ac4 (R:=rChange) (i:=first+r) (n:=n) (id:=id) (v:=[pB,vB]) (y:=d1[first+c]!) (p:=fun j=>j < n0∧j≠id) (by simp only [bR]; rfl) hs6.o (by simp only [evt,bR]; exact Aa5 rpB rvB) (rChange_rd.2 ⟨pB,vB,rfl,rpB,rvB⟩) (by simp; omega) (fun h=>h.2 rfl) fun hp7b ho7b hk7b=>?_)
    simp only [bR] at hk7b
    obtain ⟨_,_,fl7b,hg7b,_⟩:=ho7b.get
    have hidn7:=hs6.h
    have rpA7b:=rpA.keep (hp':=hp7b) fun j hj=>hk7b j hj.2
    have rvA7b:=rvA.keep (hp':=hp7b) fun j hj=>hk7b j hj.2
    have i7b:iaD hp7b 2 (.ms id 0 n 2) (.v (.int .i64 ((first+c:Nat):Int)))=some (adrE 2 (.ms id 0 n 2) (first+c)):=Ad6 ho7b.rl (by simp; omega)
    simp only [bSa,↓bSb,i7b,Aa9,Aa1 (n0:=nx6) (m:=24) hg7b (show id < nx6 by omega)]
    refine ⟨ro_pr ((rpA7b.mono (bl_of (id:=id))).rox (by omega)) ((rvA7b.mono (bl_of (id:=id))).rox (by omega)),?_⟩
    refine Aa0 rfl (Ac4 (R:=rChange) (i:=first+c) (n:=n) (id:=id) (v:=[pA,vA]) (y:=d1[first+r]!) (p:=fun j=>j < n0∧j≠id) (by simp only [bR]; rfl) ho7b (by simp only [evt,bR]; exact Aa5 rpA7b rvA7b) (rChange_rd.2 ⟨pA,vA,rfl,rpA7b,rvA7b⟩) (by simp; omega) (fun h=>h.2 rfl) fun hp7 ho7 hk7=>?_)
    simp only [bR] at hk7
    have hs7:=hs6.swp (show first+r < d1.size by omega) (show first+c < d1.size by omega) ho7
    have g7:Fr es.hp es.nx id hp7 (nx6+24):=g6.up (by omega) fun q hq hqi=>by rw [hk7 q hqi,hk7b q hqi]
    obtain ⟨flx7,hgx7⟩:=hs6.get
    obtain ⟨fly7,hgy7⟩:=hs7.get
    have hlk7:∀ {a1 a2:List Nat} {q1 q2:Nat} (p:Past),p∈[(⟨q1,a1,hp7b,hp7⟩:Past),⟨q2,a2,hp6,hp7b⟩]→(p.a.get id).isSome=true∧(p.b.get id).isSome=true:=fun p hp=>by
     simp only [List.mem_cons,List.not_mem_nil,or_false] at hp
     rcases hp with rfl | rfl
     ·exact ⟨by rw [hg7b]; rfl,by rw [hgy7]; rfl⟩
     ·exact ⟨by rw [hgx7]; rfl,by rw [hg7b]; rfl⟩
    simp only [bSa,↓bSb,b0,b2,b3,b4,b11]
    exact ⟨Ad3 (Ai0 id n) (by omega) (fun p hp=>hlk7 p hp) rfl,200001 - c,by omega,c,_,rfl,by omega,g7,hs7,by rw [size_swp,hd1],he,rfl⟩
   ·rw [if_pos (by simp [ltC_f h3])] at he
    simp only [bSa,↓bSb,hle6,decide_eq_false h3]
    exact hK _ _ g6 (he ▸ hs6)
  ·simp only [bSa,↓bSb,b2,b10,hmul,Aa3 (show 2*r < _ by omega),show hi≤2*r+1 by omega,reduceCtorEq]
   rw [sift_stop _ _ _ _ h1] at he
   exact hK _ _ g (he ▸ hs1)
 ·simp only [bSa,a0,a2,a3,a4]
  exact ⟨lo,d,rfl,by omega,Fr.refl _ _ _,hs,rfl,rfl,rfl⟩
end
end Go.DD

/- Contracts: heap sort of changes; a range is turned round. Conditions: those that each theorem states. -/
namespace Go.DD
open Go Go.Proofs Go.Sort
theorem b_dec (t:Nat) (h:t < 9000000000000):binD .sub (.v (.int .i64 (t:Int))) (.v (.int .i64 1))=some (.v (.int .i64 ((t:Int) - 1))):=by rw [b_sub,wrap_in (by omega)]
theorem Cb3 (t:Nat):(((t+1:Nat):Int) - 1)=(t:Int):=by omega
theorem Al6 {a b:Nat} (h:a≤b) (hb:b < 9000000000000):binD .sub (.v (.int .i64 (b:Int))) (.v (.int .i64 (a:Int)))=some (.v (.int .i64 ((b - a:Nat):Int))):=by rw [b_sub,wrap_in (by omega)]; congr 3; omega
section
variable (k n0:Nat) (hp:Tr DObj) (nx:Nat) (K:DV→Tr DObj→Nat→Prop)
theorem Ch2 (id n a b:Nat) (d:Array PCell) (hn:n0≤nx) (hs:SR hp n0 id n d) (hab:a < b) (hb:b≤d.size)
  (hK:∀ hp' nx',Fr hp nx id hp' nx'→SR hp' n0 id n (heapSort ltC d a b)→K (.tup []) hp' nx'):KW (kN (k+7)) (.fn 204) [.ms id 0 n 2,iv a,iv b,cmpC] hp nx K:=by
 refine kn_0 (Aa2 (by decide)) t204 (Nat.le_of_ble_eq_true rfl) fun es e1 e2 he=>?_
 have a0:rawE es (.t .o)=.ms id 0 n 2:=he 0 _ rfl
 have a1:rawE es (.t (.l .o))=iv a:=he 1 _ rfl
 have a2:rawE es (.t (.r .o))=iv b:=he 2 _ rfl
 have a3:rawE es (.t (.l (.l .o)))=cmpC:=he 3 _ rfl
 unfold r204
 subst e1 e2
 have hsz:=hs.s
 obtain ⟨hi,hhi⟩:∃ hi,hi=b - a:=⟨_,rfl⟩
 have hsub:binD .sub (.v (.int .i64 (b:Int))) (.v (.int .i64 (a:Int)))=some (.v (.int .i64 (hi:Int))):=by rw [Al6 (by omega) (by omega),hhi]
 have hdec:binD .sub (.v (.int .i64 (hi:Int))) (.v (.int .i64 1))=some (.v (.int .i64 ((hi - 1:Nat):Int))):=by rw [b_dec _ (by omega)]; congr 3; omega
 have hK':∀ hp' nx',Fr es.hp es.nx id hp' nx'→SR hp' n0 id n (heapPop ltC a hi (heapBuild ltC hi a ((hi - 1) / 2+1) d))→K (.tup []) hp' nx':=by rw [hhi]; exact hK
 simp only [bSa,↓bSb,a1,a2,hsub,hdec,B92 (show hi - 1 < _ by omega)]
 refine EW.l (I:=fun m es1=>∃ d1,Fr es.hp es.nx id es1.hp es1.nx∧SR es1.hp n0 id n d1∧d1.size=d.size∧m < 100001∧heapBuild ltC hi a m d1=heapBuild ltC hi a ((hi - 1) / 2+1) d∧rawE es1 (.t .o)=.ms id 0 n 2∧rawE es1 (.t (.l (.l .o)))=cmpC∧rawE es1 (.t (.r (.l (.l .o))))=iv a∧rawE es1 (.t (.l (.r (.l .o))))=iv ((0:Nat):Int)∧rawE es1 (.t (.r (.r (.l .o))))=iv hi∧rawE es1 (.t (.l (.l (.r .o))))=iv ((m:Int) - 1)) ?_ ((hi - 1) / 2+1) 1000000 _ ?_ (by omega)
 ·rintro m es1 ⟨d1,g,hs1,hd1,hm,he,b0,b3,b8,b9,b10,b11⟩
  unfold Ca7
  have hle:=g.le
  cases m with
  | zero=>
   simp only [bSa,↓bSb,b10,b11,show decide ((0:Int)≤0 - 1)=false from rfl,hdec]
   have he':d1=heapBuild ltC hi a ((hi - 1) / 2+1) d:=he
   rw [← he'] at hK'
   refine EW.l (I:=fun m es2=>∃ d2,Fr es.hp es.nx id es2.hp es2.nx∧SR es2.hp n0 id n d2∧m≤hi∧heapPop ltC a m d2=heapPop ltC a hi d1∧rawE es2 (.t .o)=.ms id 0 n 2∧rawE es2 (.t (.l (.l .o)))=cmpC∧rawE es2 (.t (.r (.l (.l .o))))=iv a∧rawE es2 (.t (.l (.r (.l .o))))=iv ((0:Nat):Int)∧rawE es2 (.t (.r (.l (.r .o))))=iv ((m:Int) - 1)) ?_ hi 1000000 _ ?_ (by omega)
   ·rintro m es2 ⟨d2,g2,hs2,hm2,he2,b0,b3,b8,b9,b12⟩
    unfold Ca8
    have hle2:=g2.le
    have hd2:d2.size=d.size:=hs2.n.symm.trans hs.n
    cases m with
    | zero=>
     simp only [bSa,↓bSb,b12,show decide ((0:Int)≤0 - 1)=false from rfl]
     exact hK' _ _ g2 (by rw [← he2]; exact hs2)
    | succ m=>
     rw [Cb3] at b12
     obtain ⟨pA,vA,rpA,rvA,lA⟩:=hs2.at (show a < d2.size by omega)
     obtain ⟨pB,vB,rpB,rvB,lB⟩:=hs2.at (show a+m < d2.size by omega)
     have rpA':=rpA.mono (bl_of (id:=id))
     have rvA':=rvA.mono (bl_of (id:=id))
     have rpB':=rpB.mono (bl_of (id:=id))
     have rvB':=rvB.mono (bl_of (id:=id))
     simp only [bSa,↓bSb,b0,b8,b12,show (0:Int)≤(m:Int) by omega,Ae0 (show a+m < _ by omega),hs2.ia (show a < d2.size by omega),hs2.ia (show a+m < d2.size by omega),lA,lB,hs2.rox (m:=20) (show n0≤es2.nx by omega),Aa9]
     refine ⟨ro_pr (rpB'.rox (by omega)) (rvB'.rox (by omega)),?_⟩
     refine Aa0 rfl (Ac4 (R:=rChange) (i:=a) (n:=n) (id:=id) (v:=[pB,vB]) (y:=d2[a+m]!) (p:=fun j=>j < n0∧j≠id) (by simp only [bR]; rfl) hs2.o (by simp only [evt,bR,reduceCtorEq]; exact Aa5 rpB rvB) (rChange_rd.2 ⟨pB,vB,rfl,rpB,rvB⟩) (by simp; omega) (fun h=>h.2 rfl) fun hp5b ho5b hk5b=>?_)
     simp only [bR] at hk5b
     obtain ⟨_,_,fl5b,hg5b,_⟩:=ho5b.get
     have hidn5:=hs2.h
     have rpA5b:=rpA.keep (hp':=hp5b) fun j hj=>hk5b j hj.2
     have rvA5b:=rvA.keep (hp':=hp5b) fun j hj=>hk5b j hj.2
     have i5b:iaD hp5b 2 (.ms id 0 n 2) (.v (.int .i64 ((a+m:Nat):Int)))=some (adrE 2 (.ms id 0 n 2) (a+m)):=Ad6 ho5b.rl (by simp; omega)
     simp only [bSa,↓bSb,i5b,Aa9,Aa1 (n0:=es2.nx) (m:=20) hg5b (show id < es2.nx by omega)]
     refine ⟨ro_pr ((rpA5b.mono (bl_of (id:=id))).rox (by omega)) ((rvA5b.mono (bl_of (id:=id))).rox (by omega)),?_⟩
     refine Aa0 rfl (Ac4 (R:=rChange) (i:=a+m) (n:=n) (id:=id) (v:=[pA,vA]) (y:=d2[a]!) (p:=fun j=>j < n0∧j≠id) (by simp only [bR]; rfl) ho5b (by simp only [evt,bR,reduceCtorEq]; exact Aa5 rpA5b rvA5b) (rChange_rd.2 ⟨pA,vA,rfl,rpA5b,rvA5b⟩) (by simp; omega) (fun h=>h.2 rfl) fun hp5 ho5 hk5=>?_)
     simp only [bR] at hk5
     have hs5:=hs2.swp (show a < d2.size by omega) (show a+m < d2.size by omega) ho5
     have g5:Fr es.hp es.nx id hp5 (es2.nx+20):=g2.up (by omega) fun q hq hqi=>by rw [hk5 q hqi,hk5b q hqi]
     obtain ⟨flx5,hgx5⟩:=hs2.get
     obtain ⟨fly5,hgy5⟩:=hs5.get
     have hlk5:∀ {a1 a2:List Nat} {q1 q2:Nat} (p:Past),p∈[(⟨q1,a1,hp5b,hp5⟩:Past),⟨q2,a2,es2.hp,hp5b⟩]→(p.a.get id).isSome=true∧(p.b.get id).isSome=true:=fun p hp=>by
      simp only [List.mem_cons,List.not_mem_nil,or_false] at hp
      rcases hp with rfl | rfl
      ·exact ⟨by rw [hg5b]; rfl,by rw [hgy5]; rfl⟩
      ·exact ⟨by rw [hgx5]; rfl,by rw [hg5b]; rfl⟩
     simp only [bSa,↓bSb,b0,b3,b8,b9,b12]
     refine ⟨Ad3 (Ai0 id n) (by omega) (fun p hp=>hlk5 p hp) rfl,?_⟩
     refine kws (Bu0 k n0 _ _ _ id n 0 m a _ (by omega) hs5 (by rw [size_swp]; omega) (by omega) fun hp6 nx6 g6 hs6=>?_)
     simp only [bSa,↓bSb,b0,b3,b8,b9,b12,b_dec m (by omega)]
     exact ⟨m,by omega,_,g5.trans g6,hs6,by omega,he2,rfl⟩
   ·simp only [bSa,b0,b3,b8,b9]
    refine ⟨d1,g,hs1,rfl,?_⟩
    show iv _=iv _
    congr 1
    omega
  | succ m=>
   rw [Cb3] at b11
   simp only [bSa,↓bSb,b0,b3,b8,b10,b11,show (0:Int)≤(m:Int) by omega]
   refine kws (Bu0 k n0 _ _ _ id n m hi a d1 (by omega) hs1 (by omega) (by omega) fun hp3 nx3 g3 hs3=>?_)
   simp only [bSa,↓bSb,b0,b3,b8,b9,b10,b11,b_dec m (by omega)]
   exact ⟨m,by omega,_,g.trans g3,hs3,hs3.n.symm.trans hs.n,by omega,he,rfl⟩
 ·simp only [bSa,a0,a3]
  refine ⟨d,Fr.refl _ _ _,hs,rfl,by omega,rfl,?_⟩
  show iv _=iv _
  congr 1
  omega
end
end Go.DD

/- Contracts: a range of changes is turned round; two and three places are compared. Conditions: those that each theorem states. -/
namespace Go.DD
open Go Go.Proofs Go.Sort
def nckD:DV→Option DV
 | .ia cs=>some (.ia cs)
 | .pt id off=>some (.pt id off)
 | .fn (.func f) cs=>some (.fn (.func f) cs)
 | .ifc T d=>some (.ifc T d)
 | _=>none
theorem k_nck (x:Operand) (es:ES) (nid:Nat):xAny (.nck x) es nid=keepU (nckD (es.ds.ev x)):=by
 rw [x_any]; simp only [execU]
 cases es.ds.ev x with
 | fn f cs=>cases f <;> rfl
 | _=>rfl
theorem Cb4 {dst:Option Pa} {x:Operand} {call:CallT} {es:ES} {Q:ES→Prop} : SW (sU dst (xAny (.nck x))) call es Q↔XW (nckD (es.ds.ev x)) fun d=>Q (es.putE dst d):=sw_k (k_nck x)
theorem Bu1 (x:Operand) (nid:Nat) (es:ES):xKeep (xAny (.nck x)) nid es=nckD (es.ds.ev x):=xk_k (X:=fun es=>nckD (es.ds.ev x)) (k_nck x) nid
theorem A69 (id off:Nat):nckD (.pt id off)=some (.pt id off):=rfl
theorem Bg3 {a:Nat} (h:a < 9000000000000000000):binD .quo (.v (.int .i64 (a:Int))) (.v (.int .i64 4))=some (.v (.int .i64 ((a / 4:Nat):Int))):=by
 have e:(a:Int).tdiv 4=((a / 4:Nat):Int):=rfl
 have hlt:a / 4≤a:=Nat.div_le_self _ _
 generalize a / 4=q at e hlt ⊢
 have e2:binI .quo .i64 (a:Int) 4=some (.int .i64 (q:Int)):=by
  unfold binI
  simp only
  rw [if_neg (by decide),e,wrap_in (by omega)]
 simp only [binD,binV,isSh]
 simp [e2]
theorem ext2a {hp:Tr DObj} (x y:Int):extD hp (.tup [iv x,iv y]) 0=some (iv x):=Ao4 fun id hid=>by simp [DV.refs,DV.refsL] at hid
theorem Cp6 (i j:Nat) (d:Array PCell) (h:i < j):reverseLoop i j d=reverseLoop (i+1) (j - 1) (swp d i j):=by rw [reverseLoop,if_pos h]
theorem Cp7 (i j:Nat) (d:Array PCell) (h:¬ i < j):reverseLoop i j d=d:=by rw [reverseLoop,if_neg h]
theorem Ag4 (t:Nat) (h:t < 9000000000000) (h0:0 < t):binD .sub (.v (.int .i64 (t:Int))) (.v (.int .i64 1))=some (.v (.int .i64 ((t - 1:Nat):Int))):=by rw [b_dec _ h]; congr 3; omega
section
variable (k n0:Nat) (hp:Tr DObj) (nx:Nat) (K:DV→Tr DObj→Nat→Prop)
theorem Cp8 (id n a b:Nat) (d:Array PCell) (hn:n0≤nx) (hs:SR hp n0 id n d) (hab:a < b) (hb:b≤d.size)
  (hK:∀ hp' nx',Fr hp nx id hp' nx'→SR hp' n0 id n (reverseRange d a b)→K (.tup []) hp' nx'):KW (kN (k+1)) (.fn 207) [.ms id 0 n 2,iv a,iv b,cmpC] hp nx K:=by
 refine kn_0 (Aa2 (by decide)) t207 (Nat.le_of_ble_eq_true rfl) fun es e1 e2 he=>?_
 have a0:rawE es (.t .o)=.ms id 0 n 2:=he 0 _ rfl
 have a1:rawE es (.t (.l .o))=iv a:=he 1 _ rfl
 have a2:rawE es (.t (.r .o))=iv b:=he 2 _ rfl
 have a3:rawE es (.t (.l (.l .o)))=cmpC:=he 3 _ rfl
 unfold r207
 subst e1 e2
 have hsz:=hs.s
 simp only [bSa,↓bSb,a1,a2,Ag4 b (by omega) (by omega)]
 refine EW.l (I:=fun m es1=>∃ i j d1,m=j - i∧j < b∧Fr es.hp es.nx id es1.hp es1.nx∧SR es1.hp n0 id n d1∧reverseLoop i j d1=reverseRange d a b∧rawE es1 (.t .o)=.ms id 0 n 2∧rawE es1 (.t (.r (.l (.l .o))))=iv (i:Nat)∧rawE es1 (.t (.l (.r (.l .o))))=iv (j:Nat)) ?_ (b - 1 - a) 1000000 _ ?_ (by omega)
 ·rintro m es1 ⟨i,j,d1,hm,hj,g,hs1,he,b0,b8,b9⟩
  unfold Cb0
  have hle:=g.le
  have hd1:d1.size=d.size:=hs1.n.symm.trans hs.n
  by_cases h:i < j
  ·rw [Cp6 _ _ _ h] at he
   obtain ⟨pA,vA,rpA,rvA,lA⟩:=hs1.at (show i < d1.size by omega)
   obtain ⟨pB,vB,rpB,rvB,lB⟩:=hs1.at (show j < d1.size by omega)
   have rpA':=rpA.mono (bl_of (id:=id))
   have rvA':=rvA.mono (bl_of (id:=id))
   have rpB':=rpB.mono (bl_of (id:=id))
   have rvB':=rvB.mono (bl_of (id:=id))
   simp only [bSa,↓bSb,b0,b8,b9,h,hs1.ia (show i < d1.size by omega),hs1.ia (show j < d1.size by omega),lA,lB,hs1.rox (m:=16) (show n0≤es1.nx by omega),Aa9]
   refine ⟨ro_pr (rpB'.rox (by omega)) (rvB'.rox (by omega)),?_⟩
   refine Aa0 rfl (Ac4 (R:=rChange) (i:=i) (n:=n) (id:=id) (v:=[pB,vB]) (y:=d1[j]!) (p:=fun j=>j < n0∧j≠id) (by simp only [bR]; rfl) hs1.o (by simp only [evt,bR,reduceCtorEq]; exact Aa5 rpB rvB) (rChange_rd.2 ⟨pB,vB,rfl,rpB,rvB⟩) (by simp; omega) (fun h=>h.2 rfl) fun hp5b ho5b hk5b=>?_)
   simp only [bR] at hk5b
   obtain ⟨_,_,fl5b,hg5b,_⟩:=ho5b.get
   have hidn5:=hs1.h
   have rpA5b:=rpA.keep (hp':=hp5b) fun j hj=>hk5b j hj.2
   have rvA5b:=rvA.keep (hp':=hp5b) fun j hj=>hk5b j hj.2
   have i5b:iaD hp5b 2 (.ms id 0 n 2) (.v (.int .i64 ((j:Nat):Int)))=some (adrE 2 (.ms id 0 n 2) (j)):=Ad6 ho5b.rl (by simp; omega)
   simp only [bSa,↓bSb,i5b,Aa9,Aa1 (n0:=es1.nx) (m:=16) hg5b (show id < es1.nx by omega)]
   refine ⟨ro_pr ((rpA5b.mono (bl_of (id:=id))).rox (by omega)) ((rvA5b.mono (bl_of (id:=id))).rox (by omega)),?_⟩
   refine Aa0 rfl (Ac4 (R:=rChange) (i:=j) (n:=n) (id:=id) (v:=[pA,vA]) (y:=d1[i]!) (p:=fun j=>j < n0∧j≠id) (by simp only [bR]; rfl) ho5b (by simp only [evt,bR,reduceCtorEq]; exact Aa5 rpA5b rvA5b) (rChange_rd.2 ⟨pA,vA,rfl,rpA5b,rvA5b⟩) (by simp; omega) (fun h=>h.2 rfl) fun hp5 ho5 hk5=>?_)
   simp only [bR] at hk5
   have hs5:=hs1.swp (show i < d1.size by omega) (show j < d1.size by omega) ho5
   have g5:Fr es.hp es.nx id hp5 (es1.nx+16):=g.up (by omega) fun q hq hqi=>by rw [hk5 q hqi,hk5b q hqi]
   obtain ⟨flx5,hgx5⟩:=hs1.get
   obtain ⟨fly5,hgy5⟩:=hs5.get
   have hlk5:∀ {a1 a2:List Nat} {q1 q2:Nat} (p:Past),p∈[(⟨q1,a1,hp5b,hp5⟩:Past),⟨q2,a2,es1.hp,hp5b⟩]→(p.a.get id).isSome=true∧(p.b.get id).isSome=true:=fun p hp=>by
    simp only [List.mem_cons,List.not_mem_nil,or_false] at hp
    rcases hp with rfl | rfl
    ·exact ⟨by rw [hg5b]; rfl,by rw [hgy5]; rfl⟩
    ·exact ⟨by rw [hgx5]; rfl,by rw [hg5b]; rfl⟩
   simp only [bSa,↓bSb,b0,b8,b9,Aa3 (show i < _ by omega),Ag4 j (by omega) (by omega)]
   exact ⟨Ad3 (Ai0 id n) (by omega) (fun p hp=>hlk5 p hp) rfl,j - 1 - (i+1),by omega,i+1,j - 1,_,rfl,by omega,g5,hs5,he,rfl,rfl⟩
  ·rw [Cp7 _ _ _ h] at he
   simp only [bSa,↓bSb,b8,b9,h]
   exact hK _ _ g (he ▸ hs1)
 ·simp only [bSa,a0]
  exact ⟨a,b - 1,d,rfl,by omega,Fr.refl _ _ _,hs,rfl,rfl,rfl⟩
def Cnt (hp:Tr DObj) (c:Nat) (s:Nat):Prop:=hp.get c=some (.row 3 [iv (s:Nat)])
theorem Ax6 (id n a b c s:Nat) (d:Array PCell) (hn:n0≤nx) (hs:SR hp n0 id n d) (ha:a < d.size) (hb:b < d.size) (hc:Cnt hp c s) (hc2:n0≤c∧c < nx) (hsl:s < 100000)
  (hK:∀ hp' nx' x y s',Fr hp nx c hp' nx'→Cnt hp' c s'→s'≤s+1→(x=a∧y=b)∨(x=b∧y=a)→K (.tup [iv (x:Nat),iv (y:Nat)]) hp' nx'):KW (kN (k+6)) (.fn 229) [.ms id 0 n 2,iv a,iv b,.pt c 0,cmpC] hp nx K:=by
 refine kn_2 (Aa2 (by decide)) t229 (Nat.le_of_ble_eq_true rfl) fun es e1 e2 he=>?_
 have a0:rawE es (.t .o)=.ms id 0 n 2:=he 0 _ rfl
 have a1:rawE es (.t (.l .o))=iv a:=he 1 _ rfl
 have a2:rawE es (.t (.r .o))=iv b:=he 2 _ rfl
 have a3:rawE es (.t (.l (.l .o)))=.pt c 0:=he 3 _ rfl
 have a4:rawE es (.t (.r (.l .o)))=cmpC:=he 4 _ rfl
 unfold r229
 subst e1 e2
 have hsz:=hs.s
 have g:Fr es.hp es.nx id es.hp es.nx:=Fr.refl _ _ _
 obtain ⟨pA,vA,rpA,rvA,lA⟩:=hs.at (show b < d.size by omega)
 obtain ⟨pB,vB,rpB,rvB,lB⟩:=hs.at (show a < d.size by omega)
 have rpA':=rpA.mono (bl_of (id:=id))
 have rvA':=rvA.mono (bl_of (id:=id))
 have rpB':=rpB.mono (bl_of (id:=id))
 have rvB':=rvB.mono (bl_of (id:=id))
 simp only [bSa,↓bSb,a0,a1,a2,a4,hs.ia (show b < d.size by omega),hs.ia (show a < d.size by omega),lA,lB,hs.rox (m:=11) (show n0≤es.nx by omega),Aa9,Ag0]
 refine ⟨⟨ro_pr (rpA'.rox (by omega)) (rvA'.rox (by omega)),ro_pr (rpB'.rox (by omega)) (rvB'.rox (by omega))⟩,?_⟩
 refine Aa0 rfl (Af2 (f:=126) (fs:=[]) (cs:=[]) (by rw [evt]; simp only [bR]; exact Ac9 _) ?_)
 simp only [bR,List.map_cons,List.map_nil,List.append_nil,List.nil_append]
 refine Ag1 k n0 _ _ _ pA vA pB vB d[b]! d[a]! (by omega) rpA' rvA' rpB' rvB' (hs.bA (show b < d.size by omega)) fun hp5 nx5 hal5=>?_
 have hle5:=hal5.le
 have hs5:=hs.al (nx:=es.nx+11) (by omega) hal5
 have g5:Fr es.hp es.nx id hp5 nx5:=g.up (by omega) fun j hj _=>hal5.same j (by omega)
 have hc5:hp5.get c=_:=(hal5.same c (by omega)).trans hc
 by_cases h:cmpL d[b]!.pos d[a]!.pos < 0
 ·simp only [bSa,↓bSb,bP,a3,hle5,decide_eq_true h,↓Cb4,Aq9 hc5,A69,Ah9 hc5,Aa3 (show s < _ by omega)]
  refine Am8 (id:=c) (off:=0) (by simp only [bR]) hc5 (by simp only [evt,bR,reduceCtorEq]; rfl) ⟨rfl,rfl⟩ (by simp) fun hp6 hg6 hk6=>?_
  simp only [bR] at hg6 hk6
  simp only [bSa,↓bSb,bP,a1,a2]
  exact hK _ _ b a (s+1) ⟨by omega,fun j hj hjc=>by rw [hk6 j hjc,hal5.same j (by omega)]⟩ hg6 (by omega) (.inr ⟨rfl,rfl⟩)
 ·simp only [bSa,↓bSb,bP,a1,a2,hle5,decide_eq_false h]
  exact hK _ _ a b s ⟨by omega,fun j hj _=>hal5.same j (by omega)⟩ hc5 (by omega) (.inl ⟨rfl,rfl⟩)
theorem SR.keepC {hp hp':Tr DObj} {n0 id n c nx nx':Nat} {d:Array PCell} (h:SR hp n0 id n d) (hc:n0≤c) (hn:n0≤nx) (hf:Fr hp nx c hp' nx'):SR hp' n0 id n d:=h.keep fun j hj=>hf.fr j (by omega) (by omega)
theorem Ax7 (id n a b e c s:Nat) (d:Array PCell) (hn:n0≤nx) (hs:SR hp n0 id n d) (ha:a < d.size) (hb:b < d.size) (hee:e < d.size) (hc:Cnt hp c s) (hc2:n0≤c∧c < nx) (hsl:s < 10000)
  (hK:∀ hp' nx' x s',Fr hp nx c hp' nx'→Cnt hp' c s'→s'≤s+3→x=a∨x=b∨x=e→K (iv (x:Nat)) hp' nx'):KW (kN (k+7)) (.fn 225) [.ms id 0 n 2,iv a,iv b,iv e,.pt c 0,cmpC] hp nx K:=by
 refine kn_1 (Aa2 (by decide)) t225 (Nat.le_of_ble_eq_true rfl) fun es e1 e2 he=>?_
 have a0:rawE es (.t .o)=.ms id 0 n 2:=he 0 _ rfl
 have a1:rawE es (.t (.l .o))=iv a:=he 1 _ rfl
 have a2:rawE es (.t (.r .o))=iv b:=he 2 _ rfl
 have a3:rawE es (.t (.l (.l .o)))=iv e:=he 3 _ rfl
 have a4:rawE es (.t (.r (.l .o)))=.pt c 0:=he 4 _ rfl
 have a5:rawE es (.t (.l (.r .o)))=cmpC:=he 5 _ rfl
 unfold r225
 subst e1 e2
 simp only [bSa,↓bSb,a0,a1,a2,a4,a5]
 refine kws (Ax6 k n0 _ _ _ id n a b c s d hn hs ha hb hc hc2 (by omega) fun hp1 nx1 x1 y1 s1 g1 hc1 hs1 hxy1=>?_)
 have hle1:=g1.le
 have hS1:=hs.keepC hc2.1 hn g1
 simp only [bSa,↓bSb,a0,a3,a4,a5,ext2a]
 refine kws (Ax6 k n0 _ _ _ id n y1 e c s1 d (by omega) hS1 (by rcases hxy1 with h | h <;> omega) hee hc1 ⟨hc2.1,by omega⟩ (by omega) fun hp2 nx2 x2 y2 s2 g2 hcc2 hs2 hxy2=>?_)
 have hle2:=g2.le
 have hS2:=hS1.keepC hc2.1 (by omega) g2
 simp only [bSa,↓bSb,a0,a4,a5,ext2a]
 refine kws (Ax6 k n0 _ _ _ id n x1 x2 c s2 d (by omega) hS2 (by rcases hxy1 with h | h <;> omega) (by rcases hxy1 with h | h <;> rcases hxy2 with h2 | h2 <;> omega) hcc2 ⟨hc2.1,by omega⟩ (by omega) fun hp3 nx3 x3 y3 s3 g3 hc3 hs3 hxy3=>?_)
 simp only [bSa,↓bSb,bP,ext2a]
 exact hK _ _ y3 s3 ((g1.trans g2).trans g3) hc3 (by omega) (by omega)
theorem Ax8 (id n a c s:Nat) (d:Array PCell) (hn:n0≤nx) (hs:SR hp n0 id n d) (ha:0 < a) (hb:a+1 < d.size) (hc:Cnt hp c s) (hc2:n0≤c∧c < nx) (hsl:s < 10000)
  (hK:∀ hp' nx' x s',Fr hp nx c hp' nx'→Cnt hp' c s'→s'≤s+3→a - 1≤x∧x≤a+1→K (iv (x:Nat)) hp' nx'):KW (kN (k+8)) (.fn 224) [.ms id 0 n 2,iv a,.pt c 0,cmpC] hp nx K:=by
 refine kn_1 (Aa2 (by decide)) t224 (Nat.le_of_ble_eq_true rfl) fun es e1 e2 he=>?_
 have a0:rawE es (.t .o)=.ms id 0 n 2:=he 0 _ rfl
 have a1:rawE es (.t (.l .o))=iv a:=he 1 _ rfl
 have a2:rawE es (.t (.r .o))=.pt c 0:=he 2 _ rfl
 have a3:rawE es (.t (.l (.l .o)))=cmpC:=he 3 _ rfl
 unfold r224
 subst e1 e2
 have hsz:=hs.s
 simp only [bSa,↓bSb,a0,a1,a2,a3,Ag4 a (by omega) ha,Aa3 (show a < _ by omega)]
 refine kws (Ax7 k n0 _ _ _ id n (a - 1) a (a+1) c s d hn hs (by omega) (by omega) hb hc hc2 hsl fun hp1 nx1 x1 s1 g1 hc1 hs1 hx1=>?_)
 simp only [bSa,↓bSb,bP]
 exact hK _ _ x1 s1 g1 hc1 hs1 (by omega)
theorem B14 (id n a b:Nat) (d:Array PCell) (hn:n0≤nx) (hs:SR hp n0 id n d) (hab:a+12 < b) (hb:b≤d.size)
  (hK:∀ hp' nx' x h,Al hp nx hp' nx'→a≤x∧x < b→K (.tup [iv (x:Nat),iv h]) hp' nx'):KW (kN (k+9)) (.fn 206) [.ms id 0 n 2,iv a,iv b,cmpC] hp nx K:=by
 refine kn_2 (Aa2 (by decide)) t206 (Nat.le_of_ble_eq_true rfl) fun es e1 e2 he=>?_
 have a0:rawE es (.t .o)=.ms id 0 n 2:=he 0 _ rfl
 have a1:rawE es (.t (.l .o))=iv a:=he 1 _ rfl
 have a2:rawE es (.t (.r .o))=iv b:=he 2 _ rfl
 have a3:rawE es (.t (.l (.l .o)))=cmpC:=he 3 _ rfl
 unfold r206
 subst e1 e2
 have hsz:=hs.s
 obtain ⟨l,hl⟩:∃ l,l=b - a:=⟨_,rfl⟩
 have hsub:binD .sub (.v (.int .i64 (b:Int))) (.v (.int .i64 (a:Int)))=some (.v (.int .i64 (l:Int))):=by rw [Al6 (by omega) (by omega),hl]
 have hq:binD .quo (.v (.int .i64 (l:Int))) (.v (.int .i64 4))=some (.v (.int .i64 ((l / 4:Nat):Int))):=Bg3 (by omega)
 have hm:∀ m:Nat,m < 10→binD .mul (.v (.int .i64 ((l / 4:Nat):Int))) (.v (.int .i64 (m:Int)))=some (.v (.int .i64 ((l / 4*m:Nat):Int))):=fun m hm=>by
  have:l / 4*m≤100000*10:=Nat.mul_le_mul (by omega) (by omega)
  rw [b_mul,← Int.natCast_mul,wrap_in (by omega)]
 have hm1:binD .mul (.v (.int .i64 ((l / 4:Nat):Int))) (.v (.int .i64 1))=some (.v (.int .i64 ((l / 4*1:Nat):Int))):=hm 1 (by omega)
 have hm2:binD .mul (.v (.int .i64 ((l / 4:Nat):Int))) (.v (.int .i64 2))=some (.v (.int .i64 ((l / 4*2:Nat):Int))):=hm 2 (by omega)
 have hm3:binD .mul (.v (.int .i64 ((l / 4:Nat):Int))) (.v (.int .i64 3))=some (.v (.int .i64 ((l / 4*3:Nat):Int))):=hm 3 (by omega)
 simp only [bSa,↓bSb,a1,a2,hsub]
 refine Ac5 fun hp1 hg1 hk1=>?_
 simp only [bR] at hg1 hk1
 have hS1:=hs.keep (hp':=hp1) fun j hj=>hk1 j (by omega)
 have hC1:Cnt hp1 es.nx 0:=hg1
 -- behind the choice
 have fin:∀ {es1:ES} {m s:Nat},Fr hp1 (es.nx+1) es.nx es1.hp es1.nx→Cnt es1.hp es.nx s→a≤m∧m < b→∀ h,K (.tup [iv (m:Nat),iv h]) es1.hp es1.nx:=fun g _ hm h=>hK _ _ _ _ ⟨by have:=g.le; omega,fun j hj=>by rw [g.fr j (by omega) (by omega),hk1 j (by omega)]⟩ hm
 have l1:l / 4*1=l / 4:=Nat.mul_one _
 have ba1:=Ae0 (a:=a) (b:=l / 4*1) (show _ < _ by omega)
 have ba2:=Ae0 (a:=a) (b:=l / 4*2) (show _ < _ by omega)
 have ba3:=Ae0 (a:=a) (b:=l / 4*3) (show _ < _ by omega)
 have h8:(8:Int)≤(l:Int):=by omega
 by_cases h50:(50:Int)≤(l:Int)
 ·simp only [bSa,↓bSb,a0,a1,a3,hq,hm1,hm2,hm3,ba1,ba2,ba3,decide_eq_true h8,decide_eq_true h50]
  refine kws (Ax8 k n0 _ _ _ id n (a+l / 4*1) es.nx 0 d (by omega) hS1 (by omega) (by omega) hC1 ⟨by omega,by omega⟩ (by omega) fun hp2 nx2 x2 s2 g2 hC2 hs2 hx2=>?_)
  have hle2:=g2.le
  have hS2:=hS1.keepC (by omega) (by omega) g2
  simp only [bSa,↓bSb,a0,a3]
  refine kws (Ax8 k n0 _ _ _ id n (a+l / 4*2) es.nx s2 d (by omega) hS2 (by omega) (by omega) hC2 ⟨by omega,by omega⟩ (by omega) fun hp3 nx3 x3 s3 g3 hC3 hs3 hx3=>?_)
  have hle3:=g3.le
  have hS3:=hS2.keepC (by omega) (by omega) g3
  simp only [bSa,↓bSb,a0,a3]
  refine kws (Ax8 k n0 _ _ _ id n (a+l / 4*3) es.nx s3 d (by omega) hS3 (by omega) (by omega) hC3 ⟨by omega,by omega⟩ (by omega) fun hp4 nx4 x4 s4 g4 hC4 hs4 hx4=>?_)
  have hle4:=g4.le
  have hS4:=hS3.keepC (by omega) (by omega) g4
  simp only [bSa,↓bSb,a0,a3]
  refine kws (Ax7 (k+1) n0 _ _ _ id n x2 x3 x4 es.nx s4 d (by omega) hS4 (by omega) (by omega) (by omega) hC4 ⟨by omega,by omega⟩ (by omega) fun hp5 nx5 x5 s5 g5 hC5 hs5 hx5=>?_)
  have gg:=((g2.trans g3).trans g4).trans g5
  by_cases e1:(s5:Int)=0
  ·simp only [bSa,↓bSb,bP,Ah9 hC5,decide_eq_true e1]
   exact fin (es1:=⟨es.sl,hp5,nx5⟩) gg hC5 (by rcases hx5 with h | h | h <;> omega) _
  ·by_cases e2:(s5:Int)=12
   ·simp only [bSa,↓bSb,bP,Ah9 hC5,decide_eq_false e1,decide_eq_true e2]
    exact fin (es1:=⟨es.sl,hp5,nx5⟩) gg hC5 (by rcases hx5 with h | h | h <;> omega) _
   ·simp only [bSa,↓bSb,bP,Ah9 hC5,decide_eq_false e1,decide_eq_false e2]
    exact fin (es1:=⟨es.sl,hp5,nx5⟩) gg hC5 (by rcases hx5 with h | h | h <;> omega) _
 ·simp only [bSa,↓bSb,a0,a1,a3,hq,hm1,hm2,hm3,ba1,ba2,ba3,decide_eq_true h8,decide_eq_false h50]
  refine kws (Ax7 (k+1) n0 _ _ _ id n (a+l / 4*1) (a+l / 4*2) (a+l / 4*3) es.nx 0 d (by omega) hS1 (by omega) (by omega) (by omega) hC1 ⟨by omega,by omega⟩ (by omega) fun hp5 nx5 x5 s5 g5 hC5 hs5 hx5=>?_)
  by_cases e1:(s5:Int)=0
  ·simp only [bSa,↓bSb,bP,Ah9 hC5,decide_eq_true e1]
   exact fin (es1:=⟨es.sl,hp5,nx5⟩) g5 hC5 (by rcases hx5 with h | h | h <;> omega) _
  ·by_cases e2:(s5:Int)=12
   ·simp only [bSa,↓bSb,bP,Ah9 hC5,decide_eq_false e1,decide_eq_true e2]
    exact fin (es1:=⟨es.sl,hp5,nx5⟩) g5 hC5 (by rcases hx5 with h | h | h <;> omega) _
   ·simp only [bSa,↓bSb,bP,Ah9 hC5,decide_eq_false e1,decide_eq_false e2]
    exact fin (es1:=⟨es.sl,hp5,nx5⟩) g5 hC5 (by rcases hx5 with h | h | h <;> omega) _
end
end Go.DD

/- Contracts: the scans of the partitions of changes. Conditions: those that each theorem states. -/
namespace Go.DD
open Go Go.Proofs Go.Sort
theorem up_s (p:PCell→Bool) (d:Array PCell) (j i:Nat) (h:i≤j) (hp:p d[i]! = true):scanUp p d j i=scanUp p d j (i+1):=by rw [scanUp,if_pos (by simp [h,hp])]
theorem up_e (p:PCell→Bool) (d:Array PCell) (j i:Nat) (h:¬ i≤j∨p d[i]! = false):scanUp p d j i=i:=by
 rw [scanUp,if_neg]
 rcases h with h | h
 ·simp [h]
 ·simp [h]
theorem Bu2 (p:PCell→Bool) (d:Array PCell) (i j:Nat) (h:i≤j+1) (hp:p d[j+1]! = true):scanDown p d i (j+1)=scanDown p d i j:=by rw [scanDown,if_pos (by simp [h,hp])]
theorem Az7 (p:PCell→Bool) (d:Array PCell) (i j:Nat) (h:¬ i≤j∨p d[j]! = false):scanDown p d i j=j:=by
 cases j with
 | zero=>rfl
 | succ j=>
  rw [scanDown,if_neg]
  rcases h with h | h
  ·simp [h]
  ·simp [h]
section
variable (k n0:Nat)
theorem Cp9 {es:ES} {Q:Exit→ES→Prop} (id n a i j:Nat) (d:Array PCell) (hn:n0≤es.nx) (hs:SR es.hp n0 id n d) (ha:a < d.size) (hij:i≤j+1) (hj:j < d.size) (b0:rawE es (.t .o)=.ms id 0 n 2) (b1:rawE es (.t (.l .o))=iv a) (b4:rawE es (.t (.r (.l .o)))=cmpC) (bi:rawE es (.t (.r (.l (.r .o))))=iv (i:Nat)) (bj:rawE es (.t (.l (.r (.r .o))))=iv (j:Nat))
  (hQ:∀ es':ES,Al es.hp es.nx es'.hp es'.nx→rawE es' (.t .o)=.ms id 0 n 2→rawE es' (.t (.l .o))=iv a→rawE es' (.t (.r (.l .o)))=cmpC→rawE es' (.t (.r (.l (.r .o))))=iv ((scanUp (fun x=>ltC x d[a]!) d j i:Nat))→rawE es' (.t (.l (.r (.r .o))))=iv (j:Nat)→Q (.exit 0) es') :
  EW (cL 1000000 Bt5) (kN (k+5)) es Q:=by
 have hsz:=hs.s
 refine EW.l (I:=fun m es1=>∃ i',m=j+1 - i'∧i'≤j+1∧i≤i'∧Al es.hp es.nx es1.hp es1.nx∧SR es1.hp n0 id n d∧scanUp (fun x=>ltC x d[a]!) d j i'=scanUp (fun x=>ltC x d[a]!) d j i∧rawE es1 (.t .o)=.ms id 0 n 2∧rawE es1 (.t (.l .o))=iv a∧rawE es1 (.t (.r (.l .o)))=cmpC∧rawE es1 (.t (.r (.l (.r .o))))=iv (i':Nat)∧rawE es1 (.t (.l (.r (.r .o))))=iv (j:Nat)) ?_ (j+1 - i) 1000000 _ ⟨i,rfl,hij,Nat.le_refl _,Al.ini _ (Nat.le_refl _),hs,rfl,b0,b1,b4,bi,bj⟩ (by omega)
 rintro m es1 ⟨i',hm,hi2,hi3,g,hs1,he,b0,b1,b4,bi,bj⟩
 have hle:=g.le
 unfold Bt5
 have g0:Fr es.hp es.nx id es1.hp es1.nx:=⟨g.le,fun j hj _=>g.same j hj⟩
 by_cases h:i'≤j
 ·obtain ⟨pA,vA,rpA,rvA,lA⟩:=hs1.at (show i' < d.size by omega)
  obtain ⟨pB,vB,rpB,rvB,lB⟩:=hs1.at (show a < d.size by omega)
  have rpA':=rpA.mono (bl_of (id:=id))
  have rvA':=rvA.mono (bl_of (id:=id))
  have rpB':=rpB.mono (bl_of (id:=id))
  have rvB':=rvB.mono (bl_of (id:=id))
  simp only [bSa,↓bSb,b0,b1,b4,bi,bj,h,hs1.ia (show i' < d.size by omega),hs1.ia (show a < d.size by omega),lA,lB,hs1.rox (m:=16) (show n0≤es1.nx by omega),Aa9,Ag0]
  refine ⟨⟨ro_pr (rpA'.rox (by omega)) (rvA'.rox (by omega)),ro_pr (rpB'.rox (by omega)) (rvB'.rox (by omega))⟩,?_⟩
  refine Aa0 rfl (Af2 (f:=126) (fs:=[]) (cs:=[]) (by rw [evt]; simp only [bR]; exact Ac9 _) ?_)
  simp only [bR,List.map_cons,List.map_nil,List.append_nil,List.nil_append]
  refine Ag1 k n0 _ _ _ pA vA pB vB d[i']! d[a]! (by omega) rpA' rvA' rpB' rvB' (hs1.bA (show i' < d.size by omega)) fun hp5 nx5 hal5=>?_
  have hle5:=hal5.le
  have hs5:=hs1.al (nx:=es1.nx+16) (by omega) hal5
  have g5:Fr es.hp es.nx id hp5 nx5:=g0.up (by omega) fun j hj _=>hal5.same j (by omega)
  have g5':Al es.hp es.nx hp5 nx5:=⟨by omega,fun j hj=>by rw [hal5.same j (by omega),g.same j hj]⟩
  by_cases h2:cmpL d[i']!.pos d[a]!.pos < 0
  ·rw [up_s (fun x=>ltC x d[a]!) _ _ _ h (ltC_t h2)] at he
   simp only [bSa,↓bSb,b0,b1,b4,bi,bj,hle5,decide_eq_true h2,Aa3 (show i' < _ by omega)]
   exact ⟨j+1 - (i'+1),by omega,i'+1,rfl,by omega,by omega,g5',hs5,he,rfl⟩
  ·rw [up_e (fun x=>ltC x d[a]!) _ _ _ (.inr (ltC_f h2))] at he
   simp only [bSa,↓bSb,hle5,decide_eq_false h2]
   exact hQ _ g5' (by simp only [bR,b0]) (by simp only [bR,b1]) (by simp only [bR,b4]) (by simp only [bR,bi]; rw [he]) (by simp only [bR,bj])
 ·rw [up_e (fun x=>ltC x d[a]!) _ _ _ (.inl h)] at he
  simp only [bSa,↓bSb,bi,bj,h]
  exact hQ _ ⟨by simp only []; omega,fun j hj=>by simp only []; exact g.same j hj⟩ (by simp only [bR,b0]) (by simp only [bR,b1]) (by simp only [bR,b4]) (by simp only [bR,bi]; rw [he]) (by simp only [bR,bj])
theorem Cq0 {es:ES} {Q:Exit→ES→Prop} (id n a i j:Nat) (d:Array PCell) (hn:n0≤es.nx) (hs:SR es.hp n0 id n d) (ha:a < d.size) (hi0:0 < i) (hj:j < d.size) (b0:rawE es (.t .o)=.ms id 0 n 2) (b1:rawE es (.t (.l .o))=iv a) (b4:rawE es (.t (.r (.l .o)))=cmpC) (bi:rawE es (.t (.r (.l (.r .o))))=iv (i:Nat)) (bj:rawE es (.t (.l (.r (.r .o))))=iv (j:Nat))
  (hQ:∀ es':ES,Al es.hp es.nx es'.hp es'.nx→rawE es' (.t .o)=.ms id 0 n 2→rawE es' (.t (.l .o))=iv a→rawE es' (.t (.r (.l .o)))=cmpC→rawE es' (.t (.l (.r (.r .o))))=iv ((scanDown (fun x=>!ltC x d[a]!) d i j:Nat))→rawE es' (.t (.r (.l (.r .o))))=iv (i:Nat)→Q (.exit 2) es') :
  EW (cL 1000000 Bt6) (kN (k+5)) es Q:=by
 have hsz:=hs.s
 refine EW.l (I:=fun m es1=>m≤j∧Al es.hp es.nx es1.hp es1.nx∧SR es1.hp n0 id n d∧scanDown (fun x=>!ltC x d[a]!) d i m=scanDown (fun x=>!ltC x d[a]!) d i j∧rawE es1 (.t .o)=.ms id 0 n 2∧rawE es1 (.t (.l .o))=iv a∧rawE es1 (.t (.r (.l .o)))=cmpC∧rawE es1 (.t (.r (.l (.r .o))))=iv (i:Nat)∧rawE es1 (.t (.l (.r (.r .o))))=iv (m:Nat)) ?_ j 1000000 _ ⟨Nat.le_refl _,Al.ini _ (Nat.le_refl _),hs,rfl,b0,b1,b4,bi,bj⟩ (by omega)
 rintro m es1 ⟨hm,g,hs1,he,b0,b1,b4,bi,bj⟩
 have hle:=g.le
 unfold Bt6
 have g0:Fr es.hp es.nx id es1.hp es1.nx:=⟨g.le,fun j hj _=>g.same j hj⟩
 by_cases h:i≤m
 ·obtain ⟨m,rfl⟩:∃ m',m=m'+1:=⟨m - 1,by omega⟩
  obtain ⟨pA,vA,rpA,rvA,lA⟩:=hs1.at (show m+1 < d.size by omega)
  obtain ⟨pB,vB,rpB,rvB,lB⟩:=hs1.at (show a < d.size by omega)
  have rpA':=rpA.mono (bl_of (id:=id))
  have rvA':=rvA.mono (bl_of (id:=id))
  have rpB':=rpB.mono (bl_of (id:=id))
  have rvB':=rvB.mono (bl_of (id:=id))
  simp only [bSa,↓bSb,b0,b1,b4,bi,bj,h,hs1.ia (show m+1 < d.size by omega),hs1.ia (show a < d.size by omega),lA,lB,hs1.rox (m:=17) (show n0≤es1.nx by omega),Aa9,Ag0]
  refine ⟨⟨ro_pr (rpA'.rox (by omega)) (rvA'.rox (by omega)),ro_pr (rpB'.rox (by omega)) (rvB'.rox (by omega))⟩,?_⟩
  refine Aa0 rfl (Af2 (f:=126) (fs:=[]) (cs:=[]) (by rw [evt]; simp only [bR]; exact Ac9 _) ?_)
  simp only [bR,List.map_cons,List.map_nil,List.append_nil,List.nil_append]
  refine Ag1 k n0 _ _ _ pA vA pB vB d[m+1]! d[a]! (by omega) rpA' rvA' rpB' rvB' (hs1.bA (show m+1 < d.size by omega)) fun hp5 nx5 hal5=>?_
  have hle5:=hal5.le
  have hs5:=hs1.al (nx:=es1.nx+17) (by omega) hal5
  have g5:Fr es.hp es.nx id hp5 nx5:=g0.up (by omega) fun j hj _=>hal5.same j (by omega)
  have g5':Al es.hp es.nx hp5 nx5:=⟨by omega,fun j hj=>by rw [hal5.same j (by omega),g.same j hj]⟩
  by_cases h2:cmpL d[m+1]!.pos d[a]!.pos < 0
  ·rw [Az7 (fun x=>!ltC x d[a]!) _ _ _ (.inr (by simp only [ltC_t h2]; rfl))] at he
   simp only [bSa,↓bSb,hle5,decide_eq_true h2]
   exact hQ _ g5' (by simp only [bR,b0]) (by simp only [bR,b1]) (by simp only [bR,b4]) (by simp only [bR,bj]; rw [he]) (by simp only [bR,bi])
  ·rw [Bu2 (fun x=>!ltC x d[a]!) _ _ _ h (by simp only [ltC_f h2]; rfl)] at he
   simp only [bSa,↓bSb,b0,b1,b4,bi,bj,hle5,decide_eq_false h2,Aq3 (show m < _ by omega)]
   exact ⟨m,by omega,by omega,g5',hs5,he,rfl⟩
 ·rw [Az7 (fun x=>!ltC x d[a]!) _ _ _ (.inl h)] at he
  simp only [bSa,↓bSb,bi,bj,h]
  exact hQ _ ⟨by simp only []; omega,fun j hj=>by simp only []; exact g.same j hj⟩ (by simp only [bR,b0]) (by simp only [bR,b1]) (by simp only [bR,b4]) (by simp only [bR,bj]; rw [he]) (by simp only [bR,bi])
theorem Cq1 {es:ES} {Q:Exit→ES→Prop} (id n a i j:Nat) (d:Array PCell) (hn:n0≤es.nx) (hs:SR es.hp n0 id n d) (ha:a < d.size) (hij:i≤j+1) (hj:j < d.size) (b0:rawE es (.t .o)=.ms id 0 n 2) (b1:rawE es (.t (.l .o))=iv a) (b4:rawE es (.t (.r (.l .o)))=cmpC) (bi:rawE es (.t (.r (.l (.r .o))))=iv (i:Nat)) (bj:rawE es (.t (.l (.r (.r .o))))=iv (j:Nat))
  (hQ:∀ es':ES,Al es.hp es.nx es'.hp es'.nx→rawE es' (.t .o)=.ms id 0 n 2→rawE es' (.t (.l .o))=iv a→rawE es' (.t (.r (.l .o)))=cmpC→rawE es' (.t (.r (.l (.r .o))))=iv ((scanUp (fun x=>ltC x d[a]!) d j i:Nat))→rawE es' (.t (.l (.r (.r .o))))=iv (j:Nat)→Q (.exit 6) es') :
  EW (cL 1000000 Bt7) (kN (k+5)) es Q:=by
 have hsz:=hs.s
 refine EW.l (I:=fun m es1=>∃ i',m=j+1 - i'∧i'≤j+1∧i≤i'∧Al es.hp es.nx es1.hp es1.nx∧SR es1.hp n0 id n d∧scanUp (fun x=>ltC x d[a]!) d j i'=scanUp (fun x=>ltC x d[a]!) d j i∧rawE es1 (.t .o)=.ms id 0 n 2∧rawE es1 (.t (.l .o))=iv a∧rawE es1 (.t (.r (.l .o)))=cmpC∧rawE es1 (.t (.r (.l (.r .o))))=iv (i':Nat)∧rawE es1 (.t (.l (.r (.r .o))))=iv (j:Nat)) ?_ (j+1 - i) 1000000 _ ⟨i,rfl,hij,Nat.le_refl _,Al.ini _ (Nat.le_refl _),hs,rfl,b0,b1,b4,bi,bj⟩ (by omega)
 rintro m es1 ⟨i',hm,hi2,hi3,g,hs1,he,b0,b1,b4,bi,bj⟩
 have hle:=g.le
 unfold Bt7
 have g0:Fr es.hp es.nx id es1.hp es1.nx:=⟨g.le,fun j hj _=>g.same j hj⟩
 by_cases h:i'≤j
 ·obtain ⟨pA,vA,rpA,rvA,lA⟩:=hs1.at (show i' < d.size by omega)
  obtain ⟨pB,vB,rpB,rvB,lB⟩:=hs1.at (show a < d.size by omega)
  have rpA':=rpA.mono (bl_of (id:=id))
  have rvA':=rvA.mono (bl_of (id:=id))
  have rpB':=rpB.mono (bl_of (id:=id))
  have rvB':=rvB.mono (bl_of (id:=id))
  simp only [bSa,↓bSb,b0,b1,b4,bi,bj,h,hs1.ia (show i' < d.size by omega),hs1.ia (show a < d.size by omega),lA,lB,hs1.rox (m:=16) (show n0≤es1.nx by omega),Aa9,Ag0]
  refine ⟨⟨ro_pr (rpA'.rox (by omega)) (rvA'.rox (by omega)),ro_pr (rpB'.rox (by omega)) (rvB'.rox (by omega))⟩,?_⟩
  refine Aa0 rfl (Af2 (f:=126) (fs:=[]) (cs:=[]) (by rw [evt]; simp only [bR]; exact Ac9 _) ?_)
  simp only [bR,List.map_cons,List.map_nil,List.append_nil,List.nil_append]
  refine Ag1 k n0 _ _ _ pA vA pB vB d[i']! d[a]! (by omega) rpA' rvA' rpB' rvB' (hs1.bA (show i' < d.size by omega)) fun hp5 nx5 hal5=>?_
  have hle5:=hal5.le
  have hs5:=hs1.al (nx:=es1.nx+16) (by omega) hal5
  have g5:Fr es.hp es.nx id hp5 nx5:=g0.up (by omega) fun j hj _=>hal5.same j (by omega)
  have g5':Al es.hp es.nx hp5 nx5:=⟨by omega,fun j hj=>by rw [hal5.same j (by omega),g.same j hj]⟩
  by_cases h2:cmpL d[i']!.pos d[a]!.pos < 0
  ·rw [up_s (fun x=>ltC x d[a]!) _ _ _ h (ltC_t h2)] at he
   simp only [bSa,↓bSb,b0,b1,b4,bi,bj,hle5,decide_eq_true h2,Aa3 (show i' < _ by omega)]
   exact ⟨j+1 - (i'+1),by omega,i'+1,rfl,by omega,by omega,g5',hs5,he,rfl⟩
  ·rw [up_e (fun x=>ltC x d[a]!) _ _ _ (.inr (ltC_f h2))] at he
   simp only [bSa,↓bSb,hle5,decide_eq_false h2]
   exact hQ _ g5' (by simp only [bR,b0]) (by simp only [bR,b1]) (by simp only [bR,b4]) (by simp only [bR,bi]; rw [he]) (by simp only [bR,bj])
 ·rw [up_e (fun x=>ltC x d[a]!) _ _ _ (.inl h)] at he
  simp only [bSa,↓bSb,bi,bj,h]
  exact hQ _ ⟨by simp only []; omega,fun j hj=>by simp only []; exact g.same j hj⟩ (by simp only [bR,b0]) (by simp only [bR,b1]) (by simp only [bR,b4]) (by simp only [bR,bi]; rw [he]) (by simp only [bR,bj])
theorem Cq2 {es:ES} {Q:Exit→ES→Prop} (id n a i j:Nat) (d:Array PCell) (hn:n0≤es.nx) (hs:SR es.hp n0 id n d) (ha:a < d.size) (hi0:0 < i) (hj:j < d.size) (b0:rawE es (.t .o)=.ms id 0 n 2) (b1:rawE es (.t (.l .o))=iv a) (b4:rawE es (.t (.r (.l .o)))=cmpC) (bi:rawE es (.t (.r (.l (.r .o))))=iv (i:Nat)) (bj:rawE es (.t (.l (.r (.r .o))))=iv (j:Nat))
  (hQ:∀ es':ES,Al es.hp es.nx es'.hp es'.nx→rawE es' (.t .o)=.ms id 0 n 2→rawE es' (.t (.l .o))=iv a→rawE es' (.t (.r (.l .o)))=cmpC→rawE es' (.t (.l (.r (.r .o))))=iv ((scanDown (fun x=>!ltC x d[a]!) d i j:Nat))→rawE es' (.t (.r (.l (.r .o))))=iv (i:Nat)→Q (.exit 8) es') :
  EW (cL 1000000 Bt8) (kN (k+5)) es Q:=by
 have hsz:=hs.s
 refine EW.l (I:=fun m es1=>m≤j∧Al es.hp es.nx es1.hp es1.nx∧SR es1.hp n0 id n d∧scanDown (fun x=>!ltC x d[a]!) d i m=scanDown (fun x=>!ltC x d[a]!) d i j∧rawE es1 (.t .o)=.ms id 0 n 2∧rawE es1 (.t (.l .o))=iv a∧rawE es1 (.t (.r (.l .o)))=cmpC∧rawE es1 (.t (.r (.l (.r .o))))=iv (i:Nat)∧rawE es1 (.t (.l (.r (.r .o))))=iv (m:Nat)) ?_ j 1000000 _ ⟨Nat.le_refl _,Al.ini _ (Nat.le_refl _),hs,rfl,b0,b1,b4,bi,bj⟩ (by omega)
 rintro m es1 ⟨hm,g,hs1,he,b0,b1,b4,bi,bj⟩
 have hle:=g.le
 unfold Bt8
 have g0:Fr es.hp es.nx id es1.hp es1.nx:=⟨g.le,fun j hj _=>g.same j hj⟩
 by_cases h:i≤m
 ·obtain ⟨m,rfl⟩:∃ m',m=m'+1:=⟨m - 1,by omega⟩
  obtain ⟨pA,vA,rpA,rvA,lA⟩:=hs1.at (show m+1 < d.size by omega)
  obtain ⟨pB,vB,rpB,rvB,lB⟩:=hs1.at (show a < d.size by omega)
  have rpA':=rpA.mono (bl_of (id:=id))
  have rvA':=rvA.mono (bl_of (id:=id))
  have rpB':=rpB.mono (bl_of (id:=id))
  have rvB':=rvB.mono (bl_of (id:=id))
  simp only [bSa,↓bSb,b0,b1,b4,bi,bj,h,hs1.ia (show m+1 < d.size by omega),hs1.ia (show a < d.size by omega),lA,lB,hs1.rox (m:=17) (show n0≤es1.nx by omega),Aa9,Ag0]
  refine ⟨⟨ro_pr (rpA'.rox (by omega)) (rvA'.rox (by omega)),ro_pr (rpB'.rox (by omega)) (rvB'.rox (by omega))⟩,?_⟩
  refine Aa0 rfl (Af2 (f:=126) (fs:=[]) (cs:=[]) (by rw [evt]; simp only [bR]; exact Ac9 _) ?_)
  simp only [bR,List.map_cons,List.map_nil,List.append_nil,List.nil_append]
  refine Ag1 k n0 _ _ _ pA vA pB vB d[m+1]! d[a]! (by omega) rpA' rvA' rpB' rvB' (hs1.bA (show m+1 < d.size by omega)) fun hp5 nx5 hal5=>?_
  have hle5:=hal5.le
  have hs5:=hs1.al (nx:=es1.nx+17) (by omega) hal5
  have g5:Fr es.hp es.nx id hp5 nx5:=g0.up (by omega) fun j hj _=>hal5.same j (by omega)
  have g5':Al es.hp es.nx hp5 nx5:=⟨by omega,fun j hj=>by rw [hal5.same j (by omega),g.same j hj]⟩
  by_cases h2:cmpL d[m+1]!.pos d[a]!.pos < 0
  ·rw [Az7 (fun x=>!ltC x d[a]!) _ _ _ (.inr (by simp only [ltC_t h2]; rfl))] at he
   simp only [bSa,↓bSb,hle5,decide_eq_true h2]
   exact hQ _ g5' (by simp only [bR,b0]) (by simp only [bR,b1]) (by simp only [bR,b4]) (by simp only [bR,bj]; rw [he]) (by simp only [bR,bi])
  ·rw [Bu2 (fun x=>!ltC x d[a]!) _ _ _ h (by simp only [ltC_f h2]; rfl)] at he
   simp only [bSa,↓bSb,b0,b1,b4,bi,bj,hle5,decide_eq_false h2,Aq3 (show m < _ by omega)]
   exact ⟨m,by omega,by omega,g5',hs5,he,rfl⟩
 ·rw [Az7 (fun x=>!ltC x d[a]!) _ _ _ (.inl h)] at he
  simp only [bSa,↓bSb,bi,bj,h]
  exact hQ _ ⟨by simp only []; omega,fun j hj=>by simp only []; exact g.same j hj⟩ (by simp only [bR,b0]) (by simp only [bR,b1]) (by simp only [bR,b4]) (by simp only [bR,bj]; rw [he]) (by simp only [bR,bi])
theorem ew_qu {es:ES} {Q:Exit→ES→Prop} (id n a i j:Nat) (d:Array PCell) (hn:n0≤es.nx) (hs:SR es.hp n0 id n d) (ha:a < d.size) (hij:i≤j+1) (hj:j < d.size) (b0:rawE es (.t .o)=.ms id 0 n 2) (b1:rawE es (.t (.l .o))=iv a) (b4:rawE es (.t (.r (.l .o)))=cmpC) (bi:rawE es (.t (.l (.l (.r .o))))=iv (i:Nat)) (bj:rawE es (.t (.r (.l (.r .o))))=iv (j:Nat))
  (hQ:∀ es':ES,Al es.hp es.nx es'.hp es'.nx→rawE es' (.t .o)=.ms id 0 n 2→rawE es' (.t (.l .o))=iv a→rawE es' (.t (.r (.l .o)))=cmpC→rawE es' (.t (.l (.l (.r .o))))=iv ((scanUp (fun x=>!ltC d[a]! x) d j i:Nat))→rawE es' (.t (.r (.l (.r .o))))=iv (j:Nat)→Q (.exit 2) es') :
  EW (cL 1000000 Bt2) (kN (k+5)) es Q:=by
 have hsz:=hs.s
 refine EW.l (I:=fun m es1=>∃ i',m=j+1 - i'∧i'≤j+1∧i≤i'∧Al es.hp es.nx es1.hp es1.nx∧SR es1.hp n0 id n d∧scanUp (fun x=>!ltC d[a]! x) d j i'=scanUp (fun x=>!ltC d[a]! x) d j i∧rawE es1 (.t .o)=.ms id 0 n 2∧rawE es1 (.t (.l .o))=iv a∧rawE es1 (.t (.r (.l .o)))=cmpC∧rawE es1 (.t (.l (.l (.r .o))))=iv (i':Nat)∧rawE es1 (.t (.r (.l (.r .o))))=iv (j:Nat)) ?_ (j+1 - i) 1000000 _ ⟨i,rfl,hij,Nat.le_refl _,Al.ini _ (Nat.le_refl _),hs,rfl,b0,b1,b4,bi,bj⟩ (by omega)
 rintro m es1 ⟨i',hm,hi2,hi3,g,hs1,he,b0,b1,b4,bi,bj⟩
 have hle:=g.le
 unfold Bt2
 have g0:Fr es.hp es.nx id es1.hp es1.nx:=⟨g.le,fun j hj _=>g.same j hj⟩
 by_cases h:i'≤j
 ·obtain ⟨pA,vA,rpA,rvA,lA⟩:=hs1.at (show a < d.size by omega)
  obtain ⟨pB,vB,rpB,rvB,lB⟩:=hs1.at (show i' < d.size by omega)
  have rpA':=rpA.mono (bl_of (id:=id))
  have rvA':=rvA.mono (bl_of (id:=id))
  have rpB':=rpB.mono (bl_of (id:=id))
  have rvB':=rvB.mono (bl_of (id:=id))
  simp only [bSa,↓bSb,b0,b1,b4,bi,bj,h,hs1.ia (show a < d.size by omega),hs1.ia (show i' < d.size by omega),lA,lB,hs1.rox (m:=17) (show n0≤es1.nx by omega),Aa9,Ag0]
  refine ⟨⟨ro_pr (rpA'.rox (by omega)) (rvA'.rox (by omega)),ro_pr (rpB'.rox (by omega)) (rvB'.rox (by omega))⟩,?_⟩
  refine Aa0 rfl (Af2 (f:=126) (fs:=[]) (cs:=[]) (by rw [evt]; simp only [bR]; exact Ac9 _) ?_)
  simp only [bR,List.map_cons,List.map_nil,List.append_nil,List.nil_append]
  refine Ag1 k n0 _ _ _ pA vA pB vB d[a]! d[i']! (by omega) rpA' rvA' rpB' rvB' (hs1.bA (show a < d.size by omega)) fun hp5 nx5 hal5=>?_
  have hle5:=hal5.le
  have hs5:=hs1.al (nx:=es1.nx+17) (by omega) hal5
  have g5:Fr es.hp es.nx id hp5 nx5:=g0.up (by omega) fun j hj _=>hal5.same j (by omega)
  have g5':Al es.hp es.nx hp5 nx5:=⟨by omega,fun j hj=>by rw [hal5.same j (by omega),g.same j hj]⟩
  by_cases h2:cmpL d[a]!.pos d[i']!.pos < 0
  ·rw [up_e (fun x=>!ltC d[a]! x) _ _ _ (.inr (by simp only [ltC_t h2]; rfl))] at he
   simp only [bSa,↓bSb,hle5,decide_eq_true h2]
   exact hQ _ g5' (by simp only [bR,b0]) (by simp only [bR,b1]) (by simp only [bR,b4]) (by simp only [bR,bi]; rw [he]) (by simp only [bR,bj])
  ·rw [up_s (fun x=>!ltC d[a]! x) _ _ _ h (by simp only [ltC_f h2]; rfl)] at he
   simp only [bSa,↓bSb,b0,b1,b4,bi,bj,hle5,decide_eq_false h2,Aa3 (show i' < _ by omega)]
   exact ⟨j+1 - (i'+1),by omega,i'+1,rfl,by omega,by omega,g5',hs5,he,rfl⟩
 ·rw [up_e (fun x=>!ltC d[a]! x) _ _ _ (.inl h)] at he
  simp only [bSa,↓bSb,bi,bj,h]
  exact hQ _ ⟨by simp only []; omega,fun j hj=>by simp only []; exact g.same j hj⟩ (by simp only [bR,b0]) (by simp only [bR,b1]) (by simp only [bR,b4]) (by simp only [bR,bi]; rw [he]) (by simp only [bR,bj])
theorem ew_qd {es:ES} {Q:Exit→ES→Prop} (id n a i j:Nat) (d:Array PCell) (hn:n0≤es.nx) (hs:SR es.hp n0 id n d) (ha:a < d.size) (hi0:0 < i) (hj:j < d.size) (b0:rawE es (.t .o)=.ms id 0 n 2) (b1:rawE es (.t (.l .o))=iv a) (b4:rawE es (.t (.r (.l .o)))=cmpC) (bi:rawE es (.t (.l (.l (.r .o))))=iv (i:Nat)) (bj:rawE es (.t (.r (.l (.r .o))))=iv (j:Nat))
  (hQ:∀ es':ES,Al es.hp es.nx es'.hp es'.nx→rawE es' (.t .o)=.ms id 0 n 2→rawE es' (.t (.l .o))=iv a→rawE es' (.t (.r (.l .o)))=cmpC→rawE es' (.t (.r (.l (.r .o))))=iv ((scanDown (fun x=>ltC d[a]! x) d i j:Nat))→rawE es' (.t (.l (.l (.r .o))))=iv (i:Nat)→Q (.exit 4) es') :
  EW (cL 1000000 Bt3) (kN (k+5)) es Q:=by
 have hsz:=hs.s
 refine EW.l (I:=fun m es1=>m≤j∧Al es.hp es.nx es1.hp es1.nx∧SR es1.hp n0 id n d∧scanDown (fun x=>ltC d[a]! x) d i m=scanDown (fun x=>ltC d[a]! x) d i j∧rawE es1 (.t .o)=.ms id 0 n 2∧rawE es1 (.t (.l .o))=iv a∧rawE es1 (.t (.r (.l .o)))=cmpC∧rawE es1 (.t (.l (.l (.r .o))))=iv (i:Nat)∧rawE es1 (.t (.r (.l (.r .o))))=iv (m:Nat)) ?_ j 1000000 _ ⟨Nat.le_refl _,Al.ini _ (Nat.le_refl _),hs,rfl,b0,b1,b4,bi,bj⟩ (by omega)
 rintro m es1 ⟨hm,g,hs1,he,b0,b1,b4,bi,bj⟩
 have hle:=g.le
 unfold Bt3
 have g0:Fr es.hp es.nx id es1.hp es1.nx:=⟨g.le,fun j hj _=>g.same j hj⟩
 by_cases h:i≤m
 ·obtain ⟨m,rfl⟩:∃ m',m=m'+1:=⟨m - 1,by omega⟩
  obtain ⟨pA,vA,rpA,rvA,lA⟩:=hs1.at (show a < d.size by omega)
  obtain ⟨pB,vB,rpB,rvB,lB⟩:=hs1.at (show m+1 < d.size by omega)
  have rpA':=rpA.mono (bl_of (id:=id))
  have rvA':=rvA.mono (bl_of (id:=id))
  have rpB':=rpB.mono (bl_of (id:=id))
  have rvB':=rvB.mono (bl_of (id:=id))
  simp only [bSa,↓bSb,b0,b1,b4,bi,bj,h,hs1.ia (show a < d.size by omega),hs1.ia (show m+1 < d.size by omega),lA,lB,hs1.rox (m:=16) (show n0≤es1.nx by omega),Aa9,Ag0]
  refine ⟨⟨ro_pr (rpA'.rox (by omega)) (rvA'.rox (by omega)),ro_pr (rpB'.rox (by omega)) (rvB'.rox (by omega))⟩,?_⟩
  refine Aa0 rfl (Af2 (f:=126) (fs:=[]) (cs:=[]) (by rw [evt]; simp only [bR]; exact Ac9 _) ?_)
  simp only [bR,List.map_cons,List.map_nil,List.append_nil,List.nil_append]
  refine Ag1 k n0 _ _ _ pA vA pB vB d[a]! d[m+1]! (by omega) rpA' rvA' rpB' rvB' (hs1.bA (show a < d.size by omega)) fun hp5 nx5 hal5=>?_
  have hle5:=hal5.le
  have hs5:=hs1.al (nx:=es1.nx+16) (by omega) hal5
  have g5:Fr es.hp es.nx id hp5 nx5:=g0.up (by omega) fun j hj _=>hal5.same j (by omega)
  have g5':Al es.hp es.nx hp5 nx5:=⟨by omega,fun j hj=>by rw [hal5.same j (by omega),g.same j hj]⟩
  by_cases h2:cmpL d[a]!.pos d[m+1]!.pos < 0
  ·rw [Bu2 (fun x=>ltC d[a]! x) _ _ _ h (ltC_t h2)] at he
   simp only [bSa,↓bSb,b0,b1,b4,bi,bj,hle5,decide_eq_true h2,Aq3 (show m < _ by omega)]
   exact ⟨m,by omega,by omega,g5',hs5,he,rfl⟩
  ·rw [Az7 (fun x=>ltC d[a]! x) _ _ _ (.inr (ltC_f h2))] at he
   simp only [bSa,↓bSb,hle5,decide_eq_false h2]
   exact hQ _ g5' (by simp only [bR,b0]) (by simp only [bR,b1]) (by simp only [bR,b4]) (by simp only [bR,bj]; rw [he]) (by simp only [bR,bi])
 ·rw [Az7 (fun x=>ltC d[a]! x) _ _ _ (.inl h)] at he
  simp only [bSa,↓bSb,bi,bj,h]
  exact hQ _ ⟨by simp only []; omega,fun j hj=>by simp only []; exact g.same j hj⟩ (by simp only [bR,b0]) (by simp only [bR,b1]) (by simp only [bR,b4]) (by simp only [bR,bj]; rw [he]) (by simp only [bR,bi])
end
end Go.DD

/- Contracts: the two partitions of changes. Conditions: those that each theorem states. -/
namespace Go.DD
open Go Go.Proofs Go.Sort
theorem up_le (p:PCell→Bool) (d:Array PCell) (j:Nat):∀ (m i:Nat),j+1 - i=m→i≤j+1→scanUp p d j i≤j+1
 | 0,i,hm,hi=>by rw [up_e _ _ _ _ (.inl (by omega))]; exact hi
 | m+1,i,hm,hi=>by
  by_cases h:i≤j
  ·cases hp:p d[i]! with
   | true=>rw [up_s _ _ _ _ h hp]; exact up_le p d j m (i+1) (by omega) (by omega)
   | false=>rw [up_e _ _ _ _ (.inr hp)]; exact hi
  ·rw [up_e _ _ _ _ (.inl h)]; exact hi
section
variable (k n0:Nat)
theorem B15 {es:ES} {Q:Exit→ES→Prop} (id n a i j:Nat) (d:Array PCell) (hn:n0≤es.nx) (hs:SR es.hp n0 id n d) (ha:a < d.size) (hi0:0 < i) (hij:i≤j+1) (hj:j < d.size) (b0:rawE es (.t .o)=.ms id 0 n 2) (b1:rawE es (.t (.l .o))=iv a) (b4:rawE es (.t (.r (.l .o)))=cmpC) (bi:rawE es (.t (.r (.l (.r .o))))=iv (i:Nat)) (bj:rawE es (.t (.l (.r (.r .o))))=iv (j:Nat))
  (hQ:∀ es':ES,Fr es.hp es.nx id es'.hp es'.nx→SR es'.hp n0 id n (partLoop ltC a i j d).2→(partLoop ltC a i j d).1≤d.size→rawE es' (.t .o)=.ms id 0 n 2→rawE es' (.t (.l .o))=iv a→rawE es' (.t (.r (.l .o)))=cmpC→rawE es' (.t (.l (.r (.r .o))))=iv (((partLoop ltC a i j d).1:Nat))→Q (.exit 4) es') :
  EW (cL 1000000 Bt9) (kN (k+5)) es Q:=by
 have hsz:=hs.s
 refine EW.l (I:=fun m es1=>∃ i' j' d',m=j'+1 - i'∧0 < i'∧i'≤j'+1∧j' < d.size∧Fr es.hp es.nx id es1.hp es1.nx∧SR es1.hp n0 id n d'∧partLoop ltC a i' j' d'=partLoop ltC a i j d∧rawE es1 (.t .o)=.ms id 0 n 2∧rawE es1 (.t (.l .o))=iv a∧rawE es1 (.t (.r (.l .o)))=cmpC∧rawE es1 (.t (.r (.l (.r .o))))=iv (i':Nat)∧rawE es1 (.t (.l (.r (.r .o))))=iv (j':Nat)) ?_ (j+1 - i) 1000000 _ ⟨i,j,d,rfl,hi0,hij,hj,Fr.refl _ _ _,hs,rfl,b0,b1,b4,bi,bj⟩ (by omega)
 rintro m es1 ⟨i',j',d',hm,hi1,hi2,hj1,g,hs1,he,b0,b1,b4,bi,bj⟩
 have hle:=g.le
 have hd':d'.size=d.size:=hs1.n.symm.trans hs.n
 unfold Bt9
 have hu1:=scanUp_ge (fun x=>ltC x d'[a]!) d' j' i'
 have hu2:=up_le (fun x=>ltC x d'[a]!) d' j' _ i' rfl hi2
 have hw1:=scanDown_le (fun x=>!ltC x d'[a]!) d' (scanUp (fun x=>ltC x d'[a]!) d' j' i') j'
 have hpu:=(scanUp_spec (fun x=>ltC x d'[a]!) d' j' _ i' rfl).2.2.2
 have hpd:=(scanDown_spec (fun x=>!ltC x d'[a]!) d' (scanUp (fun x=>ltC x d'[a]!) d' j' i') j').2.2.2
 rw [partLoop_eq] at he
 refine ew_b.2 (EW.seq (fun es2=>Al es1.hp es1.nx es2.hp es2.nx∧rawE es2 (.t .o)=.ms id 0 n 2∧rawE es2 (.t (.l .o))=iv a∧rawE es2 (.t (.r (.l .o)))=cmpC∧rawE es2 (.t (.r (.l (.r .o))))=iv (scanUp (fun x=>ltC x d'[a]!) d' j' i':Nat)∧rawE es2 (.t (.l (.r (.r .o))))=iv (j':Nat)) (ew_b.2 ?_) fun es2 ⟨g2,b0,b1,b4,bi,bj⟩=>EW.seq (fun es3=>Al es1.hp es1.nx es3.hp es3.nx∧rawE es3 (.t .o)=.ms id 0 n 2∧rawE es3 (.t (.l .o))=iv a∧rawE es3 (.t (.r (.l .o)))=cmpC∧rawE es3 (.t (.r (.l (.r .o))))=iv (scanUp (fun x=>ltC x d'[a]!) d' j' i':Nat)∧rawE es3 (.t (.l (.r (.r .o))))=iv (scanDown (fun x=>!ltC x d'[a]!) d' (scanUp (fun x=>ltC x d'[a]!) d' j' i') j':Nat)) (ew_b.2 ?_) fun es3 ⟨g3,b0,b1,b4,bi,bj⟩=>?_)
 ·refine Cq1 k n0 id n a i' j' d' (by omega) hs1 (by omega) hi2 (by omega) b0 b1 b4 bi bj fun es' q1 q2 q3 q4 q5 q6=>?_
  simp only [bSa,↓bSb,q2,q3,q4,q5,q6]
  exact q1
 ·have hle2:=g2.le
  refine Cq2 k n0 id n a _ j' d' (by omega) (hs1.al (by omega) g2) (by omega) (by omega) (by omega) b0 b1 b4 bi bj fun es' q1 q2 q3 q4 q5 q6=>?_
  simp only [bSa,↓bSb,q2,q3,q4,q5,q6]
  exact g2.trans q1
 have hle3:=g3.le
 have hs3:=hs1.al (by omega) g3
 have g3':Fr es.hp es.nx id es3.hp es3.nx:=g.al g3
 generalize scanDown (fun x=>!ltC x d'[a]!) d' (scanUp (fun x=>ltC x d'[a]!) d' j' i') j'=j2 at *
 generalize scanUp (fun x=>ltC x d'[a]!) d' j' i'=i2 at *
 by_cases h:j2 < i2
 ·rw [if_pos h] at he
  simp only [bSa,↓bSb,bi,bj,h]
  rw [← he] at hQ
  exact hQ _ (by simpa only [bR] using g3') (by simpa only [bR] using hs3) (by simp only; omega) (by simp only [bR,b0]) (by simp only [bR,b1]) (by simp only [bR,b4]) (by simp only [bR,bj])
 ·rw [if_neg h] at he
  have hne:i2≠j2:=fun e=>by
   subst e
   have x1:=hpu (by omega)
   have x2:=hpd (Nat.le_refl _) (by omega)
   have no:∀ u:Bool,u=false→(!u)=false→False:=by decide
   first | exact no _ x1 x2 | exact no _ x2 x1
  obtain ⟨pA,vA,rpA,rvA,lA⟩:=hs3.at (show i2 < d'.size by omega)
  obtain ⟨pB,vB,rpB,rvB,lB⟩:=hs3.at (show j2 < d'.size by omega)
  have rpA':=rpA.mono (bl_of (id:=id))
  have rvA':=rvA.mono (bl_of (id:=id))
  have rpB':=rpB.mono (bl_of (id:=id))
  have rvB':=rvB.mono (bl_of (id:=id))
  simp only [bSa,↓bSb,b0,bi,bj,h,hs3.ia (show i2 < d'.size by omega),hs3.ia (show j2 < d'.size by omega),lA,lB,hs3.rox (m:=16) (show n0≤es3.nx by omega),Aa9]
  refine ⟨ro_pr (rpB'.rox (by omega)) (rvB'.rox (by omega)),?_⟩
  refine Aa0 rfl (Ac4 (R:=rChange) (i:=i2) (n:=n) (id:=id) (v:=[pB,vB]) (y:=d'[j2]!) (p:=fun j=>j < n0∧j≠id) (by simp only [bR]; rfl) hs3.o (by simp only [evt,bR,reduceCtorEq]; exact Aa5 rpB rvB) (rChange_rd.2 ⟨pB,vB,rfl,rpB,rvB⟩) (by simp; omega) (fun h=>h.2 rfl) fun hp5b ho5b hk5b=>?_)
  simp only [bR] at hk5b
  obtain ⟨_,_,fl5b,hg5b,_⟩:=ho5b.get
  have hidn5:=hs3.h
  have rpA5b:=rpA.keep (hp':=hp5b) fun j hj=>hk5b j hj.2
  have rvA5b:=rvA.keep (hp':=hp5b) fun j hj=>hk5b j hj.2
  have i5b:iaD hp5b 2 (.ms id 0 n 2) (.v (.int .i64 ((j2:Nat):Int)))=some (adrE 2 (.ms id 0 n 2) (j2)):=Ad6 ho5b.rl (by simp; omega)
  simp only [bSa,↓bSb,i5b,Aa9,Aa1 (n0:=es3.nx) (m:=16) hg5b (show id < es3.nx by omega)]
  refine ⟨ro_pr ((rpA5b.mono (bl_of (id:=id))).rox (by omega)) ((rvA5b.mono (bl_of (id:=id))).rox (by omega)),?_⟩
  refine Aa0 rfl (Ac4 (R:=rChange) (i:=j2) (n:=n) (id:=id) (v:=[pA,vA]) (y:=d'[i2]!) (p:=fun j=>j < n0∧j≠id) (by simp only [bR]; rfl) ho5b (by simp only [evt,bR,reduceCtorEq]; exact Aa5 rpA5b rvA5b) (rChange_rd.2 ⟨pA,vA,rfl,rpA5b,rvA5b⟩) (by simp; omega) (fun h=>h.2 rfl) fun hp5 ho5 hk5=>?_)
  simp only [bR] at hk5
  have hs5:=hs3.swp (show i2 < d'.size by omega) (show j2 < d'.size by omega) ho5
  have g5:Fr es.hp es.nx id hp5 (es3.nx+16):=g3'.up (by omega) fun q hq hqi=>by rw [hk5 q hqi,hk5b q hqi]
  obtain ⟨flx5,hgx5⟩:=hs3.get
  obtain ⟨fly5,hgy5⟩:=hs5.get
  have hlk5:∀ {a1 a2:List Nat} {q1 q2:Nat} (p:Past),p∈[(⟨q1,a1,hp5b,hp5⟩:Past),⟨q2,a2,es3.hp,hp5b⟩]→(p.a.get id).isSome=true∧(p.b.get id).isSome=true:=fun p hp=>by
   simp only [List.mem_cons,List.not_mem_nil,or_false] at hp
   rcases hp with rfl | rfl
   ·exact ⟨by rw [hg5b]; rfl,by rw [hgy5]; rfl⟩
   ·exact ⟨by rw [hgx5]; rfl,by rw [hg5b]; rfl⟩
  simp only [bSa,↓bSb,b0,b1,b4,bi,bj,Aa3 (show i2 < _ by omega),Ag4 j2 (by omega) (by omega)]
  exact ⟨Ad3 (Ai0 id n) (by omega) (fun p hp=>hlk5 p hp) rfl,j2 - 1+1 - (i2+1),by omega,i2+1,j2 - 1,_,rfl,by omega,by omega,by omega,g5,hs5,he,rfl,rfl⟩
theorem B16 {es:ES} {Q:Exit→ES→Prop} (id n a i j:Nat) (d:Array PCell) (hn:n0≤es.nx) (hs:SR es.hp n0 id n d) (ha:a < d.size) (hi0:0 < i) (hij:i≤j+1) (hj:j < d.size) (b0:rawE es (.t .o)=.ms id 0 n 2) (b1:rawE es (.t (.l .o))=iv a) (b4:rawE es (.t (.r (.l .o)))=cmpC) (bi:rawE es (.t (.l (.l (.r .o))))=iv (i:Nat)) (bj:rawE es (.t (.r (.l (.r .o))))=iv (j:Nat))
  (hQ:∀ es':ES,Fr es.hp es.nx id es'.hp es'.nx→SR es'.hp n0 id n (partEqLoop ltC a i j d).2→(partEqLoop ltC a i j d).1≤d.size→rawE es' (.t .o)=.ms id 0 n 2→rawE es' (.t (.l .o))=iv a→rawE es' (.t (.r (.l .o)))=cmpC→rawE es' (.t (.l (.l (.r .o))))=iv (((partEqLoop ltC a i j d).1:Nat))→Q (.exit 0) es') :
  EW (cL 1000000 Bt4) (kN (k+5)) es Q:=by
 have hsz:=hs.s
 refine EW.l (I:=fun m es1=>∃ i' j' d',m=j'+1 - i'∧0 < i'∧i'≤j'+1∧j' < d.size∧Fr es.hp es.nx id es1.hp es1.nx∧SR es1.hp n0 id n d'∧partEqLoop ltC a i' j' d'=partEqLoop ltC a i j d∧rawE es1 (.t .o)=.ms id 0 n 2∧rawE es1 (.t (.l .o))=iv a∧rawE es1 (.t (.r (.l .o)))=cmpC∧rawE es1 (.t (.l (.l (.r .o))))=iv (i':Nat)∧rawE es1 (.t (.r (.l (.r .o))))=iv (j':Nat)) ?_ (j+1 - i) 1000000 _ ⟨i,j,d,rfl,hi0,hij,hj,Fr.refl _ _ _,hs,rfl,b0,b1,b4,bi,bj⟩ (by omega)
 rintro m es1 ⟨i',j',d',hm,hi1,hi2,hj1,g,hs1,he,b0,b1,b4,bi,bj⟩
 have hle:=g.le
 have hd':d'.size=d.size:=hs1.n.symm.trans hs.n
 unfold Bt4
 have hu1:=scanUp_ge (fun x=>!ltC d'[a]! x) d' j' i'
 have hu2:=up_le (fun x=>!ltC d'[a]! x) d' j' _ i' rfl hi2
 have hw1:=scanDown_le (fun x=>ltC d'[a]! x) d' (scanUp (fun x=>!ltC d'[a]! x) d' j' i') j'
 have hpu:=(scanUp_spec (fun x=>!ltC d'[a]! x) d' j' _ i' rfl).2.2.2
 have hpd:=(scanDown_spec (fun x=>ltC d'[a]! x) d' (scanUp (fun x=>!ltC d'[a]! x) d' j' i') j').2.2.2
 rw [partEqLoop_eq] at he
 refine ew_b.2 (EW.seq (fun es2=>Al es1.hp es1.nx es2.hp es2.nx∧rawE es2 (.t .o)=.ms id 0 n 2∧rawE es2 (.t (.l .o))=iv a∧rawE es2 (.t (.r (.l .o)))=cmpC∧rawE es2 (.t (.l (.l (.r .o))))=iv (scanUp (fun x=>!ltC d'[a]! x) d' j' i':Nat)∧rawE es2 (.t (.r (.l (.r .o))))=iv (j':Nat)) (ew_b.2 ?_) fun es2 ⟨g2,b0,b1,b4,bi,bj⟩=>EW.seq (fun es3=>Al es1.hp es1.nx es3.hp es3.nx∧rawE es3 (.t .o)=.ms id 0 n 2∧rawE es3 (.t (.l .o))=iv a∧rawE es3 (.t (.r (.l .o)))=cmpC∧rawE es3 (.t (.l (.l (.r .o))))=iv (scanUp (fun x=>!ltC d'[a]! x) d' j' i':Nat)∧rawE es3 (.t (.r (.l (.r .o))))=iv (scanDown (fun x=>ltC d'[a]! x) d' (scanUp (fun x=>!ltC d'[a]! x) d' j' i') j':Nat)) (ew_b.2 ?_) fun es3 ⟨g3,b0,b1,b4,bi,bj⟩=>?_)
 ·refine ew_qu k n0 id n a i' j' d' (by omega) hs1 (by omega) hi2 (by omega) b0 b1 b4 bi bj fun es' q1 q2 q3 q4 q5 q6=>?_
  simp only [bSa,↓bSb,q2,q3,q4,q5,q6]
  exact q1
 ·have hle2:=g2.le
  refine ew_qd k n0 id n a _ j' d' (by omega) (hs1.al (by omega) g2) (by omega) (by omega) (by omega) b0 b1 b4 bi bj fun es' q1 q2 q3 q4 q5 q6=>?_
  simp only [bSa,↓bSb,q2,q3,q4,q5,q6]
  exact g2.trans q1
 have hle3:=g3.le
 have hs3:=hs1.al (by omega) g3
 have g3':Fr es.hp es.nx id es3.hp es3.nx:=g.al g3
 generalize scanDown (fun x=>ltC d'[a]! x) d' (scanUp (fun x=>!ltC d'[a]! x) d' j' i') j'=j2 at *
 generalize scanUp (fun x=>!ltC d'[a]! x) d' j' i'=i2 at *
 by_cases h:j2 < i2
 ·rw [if_pos h] at he
  simp only [bSa,↓bSb,bi,bj,h]
  rw [← he] at hQ
  exact hQ _ (by simpa only [bR] using g3') (by simpa only [bR] using hs3) (by simp only; omega) (by simp only [bR,b0]) (by simp only [bR,b1]) (by simp only [bR,b4]) (by simp only [bR,bi])
 ·rw [if_neg h] at he
  have hne:i2≠j2:=fun e=>by
   subst e
   have x1:=hpu (by omega)
   have x2:=hpd (Nat.le_refl _) (by omega)
   have no:∀ u:Bool,u=false→(!u)=false→False:=by decide
   first | exact no _ x1 x2 | exact no _ x2 x1
  obtain ⟨pA,vA,rpA,rvA,lA⟩:=hs3.at (show i2 < d'.size by omega)
  obtain ⟨pB,vB,rpB,rvB,lB⟩:=hs3.at (show j2 < d'.size by omega)
  have rpA':=rpA.mono (bl_of (id:=id))
  have rvA':=rvA.mono (bl_of (id:=id))
  have rpB':=rpB.mono (bl_of (id:=id))
  have rvB':=rvB.mono (bl_of (id:=id))
  simp only [bSa,↓bSb,b0,bi,bj,h,hs3.ia (show i2 < d'.size by omega),hs3.ia (show j2 < d'.size by omega),lA,lB,hs3.rox (m:=16) (show n0≤es3.nx by omega),Aa9]
  refine ⟨ro_pr (rpB'.rox (by omega)) (rvB'.rox (by omega)),?_⟩
  refine Aa0 rfl (Ac4 (R:=rChange) (i:=i2) (n:=n) (id:=id) (v:=[pB,vB]) (y:=d'[j2]!) (p:=fun j=>j < n0∧j≠id) (by simp only [bR]; rfl) hs3.o (by simp only [evt,bR,reduceCtorEq]; exact Aa5 rpB rvB) (rChange_rd.2 ⟨pB,vB,rfl,rpB,rvB⟩) (by simp; omega) (fun h=>h.2 rfl) fun hp5b ho5b hk5b=>?_)
  simp only [bR] at hk5b
  obtain ⟨_,_,fl5b,hg5b,_⟩:=ho5b.get
  have hidn5:=hs3.h
  have rpA5b:=rpA.keep (hp':=hp5b) fun j hj=>hk5b j hj.2
  have rvA5b:=rvA.keep (hp':=hp5b) fun j hj=>hk5b j hj.2
  have i5b:iaD hp5b 2 (.ms id 0 n 2) (.v (.int .i64 ((j2:Nat):Int)))=some (adrE 2 (.ms id 0 n 2) (j2)):=Ad6 ho5b.rl (by simp; omega)
  simp only [bSa,↓bSb,i5b,Aa9,Aa1 (n0:=es3.nx) (m:=16) hg5b (show id < es3.nx by omega)]
  refine ⟨ro_pr ((rpA5b.mono (bl_of (id:=id))).rox (by omega)) ((rvA5b.mono (bl_of (id:=id))).rox (by omega)),?_⟩
  refine Aa0 rfl (Ac4 (R:=rChange) (i:=j2) (n:=n) (id:=id) (v:=[pA,vA]) (y:=d'[i2]!) (p:=fun j=>j < n0∧j≠id) (by simp only [bR]; rfl) ho5b (by simp only [evt,bR,reduceCtorEq]; exact Aa5 rpA5b rvA5b) (rChange_rd.2 ⟨pA,vA,rfl,rpA5b,rvA5b⟩) (by simp; omega) (fun h=>h.2 rfl) fun hp5 ho5 hk5=>?_)
  simp only [bR] at hk5
  have hs5:=hs3.swp (show i2 < d'.size by omega) (show j2 < d'.size by omega) ho5
  have g5:Fr es.hp es.nx id hp5 (es3.nx+16):=g3'.up (by omega) fun q hq hqi=>by rw [hk5 q hqi,hk5b q hqi]
  obtain ⟨flx5,hgx5⟩:=hs3.get
  obtain ⟨fly5,hgy5⟩:=hs5.get
  have hlk5:∀ {a1 a2:List Nat} {q1 q2:Nat} (p:Past),p∈[(⟨q1,a1,hp5b,hp5⟩:Past),⟨q2,a2,es3.hp,hp5b⟩]→(p.a.get id).isSome=true∧(p.b.get id).isSome=true:=fun p hp=>by
   simp only [List.mem_cons,List.not_mem_nil,or_false] at hp
   rcases hp with rfl | rfl
   ·exact ⟨by rw [hg5b]; rfl,by rw [hgy5]; rfl⟩
   ·exact ⟨by rw [hgx5]; rfl,by rw [hg5b]; rfl⟩
  simp only [bSa,↓bSb,b0,b1,b4,bi,bj,Aa3 (show i2 < _ by omega),Ag4 j2 (by omega) (by omega)]
  exact ⟨Ad3 (Ai0 id n) (by omega) (fun p hp=>hlk5 p hp) rfl,j2 - 1+1 - (i2+1),by omega,i2+1,j2 - 1,_,rfl,by omega,by omega,by omega,g5,hs5,he,rfl,rfl⟩
end
end Go.DD

/- Contracts: partition and partitionEqual of changes. Conditions: those that each theorem states. -/
namespace Go.DD
open Go Go.Proofs Go.Sort
theorem Ch3 (d:Array PCell) (a b pv:Nat):partition ltC d a b pv=if scanUp (fun x=>ltC x (swp d a pv)[a]!) (swp d a pv) (b - 1) (a+1) > scanDown (fun x=>!ltC x (swp d a pv)[a]!) (swp d a pv) (scanUp (fun x=>ltC x (swp d a pv)[a]!) (swp d a pv) (b - 1) (a+1)) (b - 1) then (scanDown (fun x=>!ltC x (swp d a pv)[a]!) (swp d a pv) (scanUp (fun x=>ltC x (swp d a pv)[a]!) (swp d a pv) (b - 1) (a+1)) (b - 1),true,swp (swp d a pv) (scanDown (fun x=>!ltC x (swp d a pv)[a]!) (swp d a pv) (scanUp (fun x=>ltC x (swp d a pv)[a]!) (swp d a pv) (b - 1) (a+1)) (b - 1)) a) else ((partLoop ltC a (scanUp (fun x=>ltC x (swp d a pv)[a]!) (swp d a pv) (b - 1) (a+1)+1) (scanDown (fun x=>!ltC x (swp d a pv)[a]!) (swp d a pv) (scanUp (fun x=>ltC x (swp d a pv)[a]!) (swp d a pv) (b - 1) (a+1)) (b - 1) - 1) (swp (swp d a pv) (scanUp (fun x=>ltC x (swp d a pv)[a]!) (swp d a pv) (b - 1) (a+1)) (scanDown (fun x=>!ltC x (swp d a pv)[a]!) (swp d a pv) (scanUp (fun x=>ltC x (swp d a pv)[a]!) (swp d a pv) (b - 1) (a+1)) (b - 1)))).1,false,swp (partLoop ltC a (scanUp (fun x=>ltC x (swp d a pv)[a]!) (swp d a pv) (b - 1) (a+1)+1) (scanDown (fun x=>!ltC x (swp d a pv)[a]!) (swp d a pv) (scanUp (fun x=>ltC x (swp d a pv)[a]!) (swp d a pv) (b - 1) (a+1)) (b - 1) - 1) (swp (swp d a pv) (scanUp (fun x=>ltC x (swp d a pv)[a]!) (swp d a pv) (b - 1) (a+1)) (scanDown (fun x=>!ltC x (swp d a pv)[a]!) (swp d a pv) (scanUp (fun x=>ltC x (swp d a pv)[a]!) (swp d a pv) (b - 1) (a+1)) (b - 1)))).2 (partLoop ltC a (scanUp (fun x=>ltC x (swp d a pv)[a]!) (swp d a pv) (b - 1) (a+1)+1) (scanDown (fun x=>!ltC x (swp d a pv)[a]!) (swp d a pv) (scanUp (fun x=>ltC x (swp d a pv)[a]!) (swp d a pv) (b - 1) (a+1)) (b - 1) - 1) (swp (swp d a pv) (scanUp (fun x=>ltC x (swp d a pv)[a]!) (swp d a pv) (b - 1) (a+1)) (scanDown (fun x=>!ltC x (swp d a pv)[a]!) (swp d a pv) (scanUp (fun x=>ltC x (swp d a pv)[a]!) (swp d a pv) (b - 1) (a+1)) (b - 1)))).1 a):=by
 unfold partition
 simp only []
section
variable (k n0:Nat) (hp:Tr DObj) (nx:Nat) (K:DV→Tr DObj→Nat→Prop)
theorem Ch4 (id n a b pv:Nat) (d:Array PCell) (hn:n0≤nx) (hs:SR hp n0 id n d) (hpv:a≤pv∧pv < b) (hab:a+1 < b) (hb:b≤d.size)
  (hK:∀ hp' nx',Fr hp nx id hp' nx'→SR hp' n0 id n (partition ltC d a b pv).2.2→K (.tup [iv ((partition ltC d a b pv).1:Nat),bv (partition ltC d a b pv).2.1]) hp' nx'):KW (kN (k+6)) (.fn 210) [.ms id 0 n 2,iv a,iv b,iv pv,cmpC] hp nx K:=by
 obtain ⟨hr1,hr2,_⟩:=partition_holds ltC swoC d a b pv hpv.1 hpv.2 hb
 refine kn_2 (Aa2 (by decide)) t210 (Nat.le_of_ble_eq_true rfl) fun es e1 e2 he=>?_
 have a0:rawE es (.t .o)=.ms id 0 n 2:=he 0 _ rfl
 have a1:rawE es (.t (.l .o))=iv a:=he 1 _ rfl
 have a2:rawE es (.t (.r .o))=iv b:=he 2 _ rfl
 have a3:rawE es (.t (.l (.l .o)))=iv pv:=he 3 _ rfl
 have a4:rawE es (.t (.r (.l .o)))=cmpC:=he 4 _ rfl
 unfold r210
 subst e1 e2
 have hsz:=hs.s
 have g0:Fr es.hp es.nx id es.hp es.nx:=Fr.refl _ _ _
 obtain ⟨pA,vA,rpA,rvA,lA⟩:=hs.at (show a < d.size by omega)
 obtain ⟨pB,vB,rpB,rvB,lB⟩:=hs.at (show pv < d.size by omega)
 have rpA':=rpA.mono (bl_of (id:=id))
 have rvA':=rvA.mono (bl_of (id:=id))
 have rpB':=rpB.mono (bl_of (id:=id))
 have rvB':=rvB.mono (bl_of (id:=id))
 simp only [bSa,↓bSb,a0,a1,a3,hs.ia (show a < d.size by omega),hs.ia (show pv < d.size by omega),lA,lB,hs.rox (m:=16) (show n0≤es.nx by omega),Aa9]
 refine ⟨ro_pr (rpB'.rox (by omega)) (rvB'.rox (by omega)),?_⟩
 refine Aa0 rfl (Ac4 (R:=rChange) (i:=a) (n:=n) (id:=id) (v:=[pB,vB]) (y:=d[pv]!) (p:=fun j=>j < n0∧j≠id) (by simp only [bR]; rfl) hs.o (by simp only [evt,bR,reduceCtorEq]; exact Aa5 rpB rvB) (rChange_rd.2 ⟨pB,vB,rfl,rpB,rvB⟩) (by simp; omega) (fun h=>h.2 rfl) fun hp1b ho1b hk1b=>?_)
 simp only [bR] at hk1b
 obtain ⟨_,_,fl1b,hg1b,_⟩:=ho1b.get
 have hidn1:=hs.h
 have rpA1b:=rpA.keep (hp':=hp1b) fun j hj=>hk1b j hj.2
 have rvA1b:=rvA.keep (hp':=hp1b) fun j hj=>hk1b j hj.2
 have i1b:iaD hp1b 2 (.ms id 0 n 2) (.v (.int .i64 ((pv:Nat):Int)))=some (adrE 2 (.ms id 0 n 2) (pv)):=Ad6 ho1b.rl (by simp; omega)
 simp only [bSa,↓bSb,i1b,Aa9,Aa1 (n0:=es.nx) (m:=16) hg1b (show id < es.nx by omega)]
 refine ⟨ro_pr ((rpA1b.mono (bl_of (id:=id))).rox (by omega)) ((rvA1b.mono (bl_of (id:=id))).rox (by omega)),?_⟩
 refine Aa0 rfl (Ac4 (R:=rChange) (i:=pv) (n:=n) (id:=id) (v:=[pA,vA]) (y:=d[a]!) (p:=fun j=>j < n0∧j≠id) (by simp only [bR]; rfl) ho1b (by simp only [evt,bR,reduceCtorEq]; exact Aa5 rpA1b rvA1b) (rChange_rd.2 ⟨pA,vA,rfl,rpA1b,rvA1b⟩) (by simp; omega) (fun h=>h.2 rfl) fun hp1 ho1 hk1=>?_)
 simp only [bR] at hk1
 have hs1:=hs.swp (show a < d.size by omega) (show pv < d.size by omega) ho1
 have g1:Fr es.hp es.nx id hp1 (es.nx+16):=g0.up (by omega) fun q hq hqi=>by rw [hk1 q hqi,hk1b q hqi]
 obtain ⟨flx1,hgx1⟩:=hs.get
 obtain ⟨fly1,hgy1⟩:=hs1.get
 have hlk1:∀ {a1 a2:List Nat} {q1 q2:Nat} (p:Past),p∈[(⟨q1,a1,hp1b,hp1⟩:Past),⟨q2,a2,es.hp,hp1b⟩]→(p.a.get id).isSome=true∧(p.b.get id).isSome=true:=fun p hp=>by
  simp only [List.mem_cons,List.not_mem_nil,or_false] at hp
  rcases hp with rfl | rfl
  ·exact ⟨by rw [hg1b]; rfl,by rw [hgy1]; rfl⟩
  ·exact ⟨by rw [hgx1]; rfl,by rw [hg1b]; rfl⟩
 have hd1:(swp d a pv).size=d.size:=by rw [size_swp]
 simp only [bSa,↓bSb,a1,a2,Aa3 (show a < _ by omega),Ag4 b (by omega) (by omega)]
 refine ⟨Ad3 (Ai0 id n) (by omega) (fun p hp=>hlk1 p hp) rfl,?_⟩
 rw [Ch3] at hK hr1 hr2
 generalize swp d a pv=d1 at *
 refine Cp9 k n0 id n a (a+1) (b - 1) d1 (by simp only []; omega) hs1 (by omega) (by omega) (by omega) (by simp only [bR,a0]) (by simp only [bR,a1]) (by simp only [bR,a4]) (by simp only [bR]) (by simp only [bR]) fun es2 q1 q2 q3 q4 q5 q6=>?_
 simp only [] at q1
 have hle2:=q1.le
 have hs2:=hs1.al (by omega) q1
 have hu1:=scanUp_ge (fun x=>ltC x d1[a]!) d1 (b - 1) (a+1)
 have hu2:=up_le (fun x=>ltC x d1[a]!) d1 (b - 1) _ (a+1) rfl (by omega)
 simp only [↓bSb]
 refine Cq0 k n0 id n a _ (b - 1) d1 (by omega) hs2 (by omega) (by omega) (by omega) q2 q3 q4 q5 q6 fun es3 z1 z2 z3 z4 z5 z6=>?_
 have hw1:=scanDown_le (fun x=>!ltC x d1[a]!) d1 (scanUp (fun x=>ltC x d1[a]!) d1 (b - 1) (a+1)) (b - 1)
 have hle3:=z1.le
 have hs3:=hs2.al (by omega) z1
 have g3:Fr es.hp es.nx id es3.hp es3.nx:=(g1.al q1).al z1
 have hpu:=(scanUp_spec (fun x=>ltC x d1[a]!) d1 (b - 1) _ (a+1) rfl).2.2.2
 have hpd:=(scanDown_spec (fun x=>!ltC x d1[a]!) d1 (scanUp (fun x=>ltC x d1[a]!) d1 (b - 1) (a+1)) (b - 1)).2.2.2
 generalize scanDown (fun x=>!ltC x d1[a]!) d1 (scanUp (fun x=>ltC x d1[a]!) d1 (b - 1) (a+1)) (b - 1)=j2 at *
 generalize scanUp (fun x=>ltC x d1[a]!) d1 (b - 1) (a+1)=i2 at *
 by_cases h:j2 < i2
 ·rw [if_pos h] at hK
  rw [if_pos h] at hr1 hr2
  simp only [bSa,↓bSb,z2,z3,z5,z6,h]
  obtain ⟨pA,vA,rpA,rvA,lA⟩:=hs3.at (show j2 < d1.size by omega)
  obtain ⟨pB,vB,rpB,rvB,lB⟩:=hs3.at (show a < d1.size by omega)
  have rpA':=rpA.mono (bl_of (id:=id))
  have rvA':=rvA.mono (bl_of (id:=id))
  have rpB':=rpB.mono (bl_of (id:=id))
  have rvB':=rvB.mono (bl_of (id:=id))
  simp only [bSa,hs3.ia (show j2 < d1.size by omega),hs3.ia (show a < d1.size by omega),lA,lB,hs3.rox (m:=16) (show n0≤es3.nx by omega),Aa9]
  refine ⟨ro_pr (rpB'.rox (by omega)) (rvB'.rox (by omega)),?_⟩
  refine Aa0 rfl (Ac4 (R:=rChange) (i:=j2) (n:=n) (id:=id) (v:=[pB,vB]) (y:=d1[a]!) (p:=fun j=>j < n0∧j≠id) (by simp only [bR]; rfl) hs3.o (by simp only [evt,bR,reduceCtorEq]; exact Aa5 rpB rvB) (rChange_rd.2 ⟨pB,vB,rfl,rpB,rvB⟩) (by simp; omega) (fun h=>h.2 rfl) fun hp5b ho5b hk5b=>?_)
  simp only [bR] at hk5b
  obtain ⟨_,_,fl5b,hg5b,_⟩:=ho5b.get
  have hidn5:=hs3.h
  have rpA5b:=rpA.keep (hp':=hp5b) fun j hj=>hk5b j hj.2
  have rvA5b:=rvA.keep (hp':=hp5b) fun j hj=>hk5b j hj.2
  have i5b:iaD hp5b 2 (.ms id 0 n 2) (.v (.int .i64 ((a:Nat):Int)))=some (adrE 2 (.ms id 0 n 2) (a)):=Ad6 ho5b.rl (by simp; omega)
  simp only [bSa,↓bSb,i5b,Aa9,Aa1 (n0:=es3.nx) (m:=16) hg5b (show id < es3.nx by omega)]
  refine ⟨ro_pr ((rpA5b.mono (bl_of (id:=id))).rox (by omega)) ((rvA5b.mono (bl_of (id:=id))).rox (by omega)),?_⟩
  refine Aa0 rfl (Ac4 (R:=rChange) (i:=a) (n:=n) (id:=id) (v:=[pA,vA]) (y:=d1[j2]!) (p:=fun j=>j < n0∧j≠id) (by simp only [bR]; rfl) ho5b (by simp only [evt,bR,reduceCtorEq]; exact Aa5 rpA5b rvA5b) (rChange_rd.2 ⟨pA,vA,rfl,rpA5b,rvA5b⟩) (by simp; omega) (fun h=>h.2 rfl) fun hp5 ho5 hk5=>?_)
  simp only [bR] at hk5
  have hs5:=hs3.swp (show j2 < d1.size by omega) (show a < d1.size by omega) ho5
  have g5:Fr es.hp es.nx id hp5 (es3.nx+16):=g3.up (by omega) fun q hq hqi=>by rw [hk5 q hqi,hk5b q hqi]
  obtain ⟨flx5,hgx5⟩:=hs3.get
  obtain ⟨fly5,hgy5⟩:=hs5.get
  have hlk5:∀ {a1 a2:List Nat} {q1 q2:Nat} (p:Past),p∈[(⟨q1,a1,hp5b,hp5⟩:Past),⟨q2,a2,es3.hp,hp5b⟩]→(p.a.get id).isSome=true∧(p.b.get id).isSome=true:=fun p hp=>by
   simp only [List.mem_cons,List.not_mem_nil,or_false] at hp
   rcases hp with rfl | rfl
   ·exact ⟨by rw [hg5b]; rfl,by rw [hgy5]; rfl⟩
   ·exact ⟨by rw [hgx5]; rfl,by rw [hg5b]; rfl⟩
  simp only [bSa,↓bSb,bP,z5]
  exact ⟨Ad3 (Ai0 id n) (by omega) (fun p hp=>hlk5 p hp) rfl,hK _ _ g5 hs5⟩
 ·rw [if_neg h] at hK
  rw [if_neg h] at hr1 hr2
  have hne:i2≠j2:=fun e=>by
   subst e
   have x1:=hpu (by omega)
   have x2:=hpd (Nat.le_refl _) (by omega)
   have no:∀ u:Bool,u=false→(!u)=false→False:=by decide
   exact no _ x1 x2
  simp only [bSa,↓bSb,z2,z5,z6,h]
  obtain ⟨pA,vA,rpA,rvA,lA⟩:=hs3.at (show i2 < d1.size by omega)
  obtain ⟨pB,vB,rpB,rvB,lB⟩:=hs3.at (show j2 < d1.size by omega)
  have rpA':=rpA.mono (bl_of (id:=id))
  have rvA':=rvA.mono (bl_of (id:=id))
  have rpB':=rpB.mono (bl_of (id:=id))
  have rvB':=rvB.mono (bl_of (id:=id))
  simp only [bSa,hs3.ia (show i2 < d1.size by omega),hs3.ia (show j2 < d1.size by omega),lA,lB,hs3.rox (m:=16) (show n0≤es3.nx by omega),Aa9]
  refine ⟨ro_pr (rpB'.rox (by omega)) (rvB'.rox (by omega)),?_⟩
  refine Aa0 rfl (Ac4 (R:=rChange) (i:=i2) (n:=n) (id:=id) (v:=[pB,vB]) (y:=d1[j2]!) (p:=fun j=>j < n0∧j≠id) (by simp only [bR]; rfl) hs3.o (by simp only [evt,bR,reduceCtorEq]; exact Aa5 rpB rvB) (rChange_rd.2 ⟨pB,vB,rfl,rpB,rvB⟩) (by simp; omega) (fun h=>h.2 rfl) fun hp5b ho5b hk5b=>?_)
  simp only [bR] at hk5b
  obtain ⟨_,_,fl5b,hg5b,_⟩:=ho5b.get
  have hidn5:=hs3.h
  have rpA5b:=rpA.keep (hp':=hp5b) fun j hj=>hk5b j hj.2
  have rvA5b:=rvA.keep (hp':=hp5b) fun j hj=>hk5b j hj.2
  have i5b:iaD hp5b 2 (.ms id 0 n 2) (.v (.int .i64 ((j2:Nat):Int)))=some (adrE 2 (.ms id 0 n 2) (j2)):=Ad6 ho5b.rl (by simp; omega)
  simp only [bSa,↓bSb,i5b,Aa9,Aa1 (n0:=es3.nx) (m:=16) hg5b (show id < es3.nx by omega)]
  refine ⟨ro_pr ((rpA5b.mono (bl_of (id:=id))).rox (by omega)) ((rvA5b.mono (bl_of (id:=id))).rox (by omega)),?_⟩
  refine Aa0 rfl (Ac4 (R:=rChange) (i:=j2) (n:=n) (id:=id) (v:=[pA,vA]) (y:=d1[i2]!) (p:=fun j=>j < n0∧j≠id) (by simp only [bR]; rfl) ho5b (by simp only [evt,bR,reduceCtorEq]; exact Aa5 rpA5b rvA5b) (rChange_rd.2 ⟨pA,vA,rfl,rpA5b,rvA5b⟩) (by simp; omega) (fun h=>h.2 rfl) fun hp5 ho5 hk5=>?_)
  simp only [bR] at hk5
  have hs5:=hs3.swp (show i2 < d1.size by omega) (show j2 < d1.size by omega) ho5
  have g5:Fr es.hp es.nx id hp5 (es3.nx+16):=g3.up (by omega) fun q hq hqi=>by rw [hk5 q hqi,hk5b q hqi]
  obtain ⟨flx5,hgx5⟩:=hs3.get
  obtain ⟨fly5,hgy5⟩:=hs5.get
  have hlk5:∀ {a1 a2:List Nat} {q1 q2:Nat} (p:Past),p∈[(⟨q1,a1,hp5b,hp5⟩:Past),⟨q2,a2,es3.hp,hp5b⟩]→(p.a.get id).isSome=true∧(p.b.get id).isSome=true:=fun p hp=>by
   simp only [List.mem_cons,List.not_mem_nil,or_false] at hp
   rcases hp with rfl | rfl
   ·exact ⟨by rw [hg5b]; rfl,by rw [hgy5]; rfl⟩
   ·exact ⟨by rw [hgx5]; rfl,by rw [hg5b]; rfl⟩
  have hd5:(swp d1 i2 j2).size=d1.size:=by rw [size_swp]
  simp only [bSa,↓bSb,z5,z6,Aa3 (show i2 < _ by omega),Ag4 j2 (by omega) (by omega)]
  refine ⟨Ad3 (Ai0 id n) (by omega) (fun p hp=>hlk5 p hp) rfl,?_⟩
  refine B15 k n0 id n a (i2+1) (j2 - 1) _ (by simp only []; omega) hs5 (by omega) (by omega) (by omega) (by omega) (by simp only [bR,z2]) (by simp only [bR,z3]) (by simp only [bR,z4]) (by simp only [bR]) (by simp only [bR]) fun es6 y1 y2 _ y3 y4 y5 y6=>?_
  simp only [] at y1
  have hle6:=y1.le
  have g6:Fr es.hp es.nx id es6.hp es6.nx:=g5.trans y1
  have hd6:=y2.n.symm.trans hs5.n
  generalize partLoop ltC a (i2+1) (j2 - 1) (swp d1 i2 j2)=r at *
  obtain ⟨m,d6⟩:=r
  simp only at hr1 hr2 y2 y6 hK hd6
  simp only [bSa,↓bSb,y3,y4,y6]
  obtain ⟨pA,vA,rpA,rvA,lA⟩:=y2.at (show m < d6.size by omega)
  obtain ⟨pB,vB,rpB,rvB,lB⟩:=y2.at (show a < d6.size by omega)
  have rpA':=rpA.mono (bl_of (id:=id))
  have rvA':=rvA.mono (bl_of (id:=id))
  have rpB':=rpB.mono (bl_of (id:=id))
  have rvB':=rvB.mono (bl_of (id:=id))
  simp only [bSa,y2.ia (show m < d6.size by omega),y2.ia (show a < d6.size by omega),lA,lB,y2.rox (m:=16) (show n0≤es6.nx by omega),Aa9]
  refine ⟨ro_pr (rpB'.rox (by omega)) (rvB'.rox (by omega)),?_⟩
  refine Aa0 rfl (Ac4 (R:=rChange) (i:=m) (n:=n) (id:=id) (v:=[pB,vB]) (y:=d6[a]!) (p:=fun j=>j < n0∧j≠id) (by simp only [bR]; rfl) y2.o (by simp only [evt,bR,reduceCtorEq]; exact Aa5 rpB rvB) (rChange_rd.2 ⟨pB,vB,rfl,rpB,rvB⟩) (by simp; omega) (fun h=>h.2 rfl) fun hp7b ho7b hk7b=>?_)
  simp only [bR] at hk7b
  obtain ⟨_,_,fl7b,hg7b,_⟩:=ho7b.get
  have hidn7:=y2.h
  have rpA7b:=rpA.keep (hp':=hp7b) fun j hj=>hk7b j hj.2
  have rvA7b:=rvA.keep (hp':=hp7b) fun j hj=>hk7b j hj.2
  have i7b:iaD hp7b 2 (.ms id 0 n 2) (.v (.int .i64 ((a:Nat):Int)))=some (adrE 2 (.ms id 0 n 2) (a)):=Ad6 ho7b.rl (by simp; omega)
  simp only [bSa,↓bSb,i7b,Aa9,Aa1 (n0:=es6.nx) (m:=16) hg7b (show id < es6.nx by omega)]
  refine ⟨ro_pr ((rpA7b.mono (bl_of (id:=id))).rox (by omega)) ((rvA7b.mono (bl_of (id:=id))).rox (by omega)),?_⟩
  refine Aa0 rfl (Ac4 (R:=rChange) (i:=a) (n:=n) (id:=id) (v:=[pA,vA]) (y:=d6[m]!) (p:=fun j=>j < n0∧j≠id) (by simp only [bR]; rfl) ho7b (by simp only [evt,bR,reduceCtorEq]; exact Aa5 rpA7b rvA7b) (rChange_rd.2 ⟨pA,vA,rfl,rpA7b,rvA7b⟩) (by simp; omega) (fun h=>h.2 rfl) fun hp7 ho7 hk7=>?_)
  simp only [bR] at hk7
  have hs7:=y2.swp (show m < d6.size by omega) (show a < d6.size by omega) ho7
  have g7:Fr es.hp es.nx id hp7 (es6.nx+16):=g6.up (by omega) fun q hq hqi=>by rw [hk7 q hqi,hk7b q hqi]
  obtain ⟨flx7,hgx7⟩:=y2.get
  obtain ⟨fly7,hgy7⟩:=hs7.get
  have hlk7:∀ {a1 a2:List Nat} {q1 q2:Nat} (p:Past),p∈[(⟨q1,a1,hp7b,hp7⟩:Past),⟨q2,a2,es6.hp,hp7b⟩]→(p.a.get id).isSome=true∧(p.b.get id).isSome=true:=fun p hp=>by
   simp only [List.mem_cons,List.not_mem_nil,or_false] at hp
   rcases hp with rfl | rfl
   ·exact ⟨by rw [hg7b]; rfl,by rw [hgy7]; rfl⟩
   ·exact ⟨by rw [hgx7]; rfl,by rw [hg7b]; rfl⟩
  simp only [bSa,↓bSb,bP,y6]
  exact ⟨Ad3 (Ai0 id n) (by omega) (fun p hp=>hlk7 p hp) rfl,hK _ _ g7 hs7⟩
theorem B17 (id n a b pv:Nat) (d:Array PCell) (hn:n0≤nx) (hs:SR hp n0 id n d) (hpv:a≤pv∧pv < b) (hab:a+1 < b) (hb:b≤d.size)
  (hK:∀ hp' nx',Fr hp nx id hp' nx'→SR hp' n0 id n (partitionEqual ltC d a b pv).2→K (iv ((partitionEqual ltC d a b pv).1:Nat)) hp' nx'):KW (kN (k+6)) (.fn 209) [.ms id 0 n 2,iv a,iv b,iv pv,cmpC] hp nx K:=by
 refine kn_1 (Aa2 (by decide)) t209 (Nat.le_of_ble_eq_true rfl) fun es e1 e2 he=>?_
 have a0:rawE es (.t .o)=.ms id 0 n 2:=he 0 _ rfl
 have a1:rawE es (.t (.l .o))=iv a:=he 1 _ rfl
 have a2:rawE es (.t (.r .o))=iv b:=he 2 _ rfl
 have a3:rawE es (.t (.l (.l .o)))=iv pv:=he 3 _ rfl
 have a4:rawE es (.t (.r (.l .o)))=cmpC:=he 4 _ rfl
 unfold r209
 subst e1 e2
 have hsz:=hs.s
 have g0:Fr es.hp es.nx id es.hp es.nx:=Fr.refl _ _ _
 unfold partitionEqual at hK
 obtain ⟨pA,vA,rpA,rvA,lA⟩:=hs.at (show a < d.size by omega)
 obtain ⟨pB,vB,rpB,rvB,lB⟩:=hs.at (show pv < d.size by omega)
 have rpA':=rpA.mono (bl_of (id:=id))
 have rvA':=rvA.mono (bl_of (id:=id))
 have rpB':=rpB.mono (bl_of (id:=id))
 have rvB':=rvB.mono (bl_of (id:=id))
 simp only [bSa,↓bSb,a0,a1,a3,hs.ia (show a < d.size by omega),hs.ia (show pv < d.size by omega),lA,lB,hs.rox (m:=16) (show n0≤es.nx by omega),Aa9]
 refine ⟨ro_pr (rpB'.rox (by omega)) (rvB'.rox (by omega)),?_⟩
 refine Aa0 rfl (Ac4 (R:=rChange) (i:=a) (n:=n) (id:=id) (v:=[pB,vB]) (y:=d[pv]!) (p:=fun j=>j < n0∧j≠id) (by simp only [bR]; rfl) hs.o (by simp only [evt,bR,reduceCtorEq]; exact Aa5 rpB rvB) (rChange_rd.2 ⟨pB,vB,rfl,rpB,rvB⟩) (by simp; omega) (fun h=>h.2 rfl) fun hp1b ho1b hk1b=>?_)
 simp only [bR] at hk1b
 obtain ⟨_,_,fl1b,hg1b,_⟩:=ho1b.get
 have hidn1:=hs.h
 have rpA1b:=rpA.keep (hp':=hp1b) fun j hj=>hk1b j hj.2
 have rvA1b:=rvA.keep (hp':=hp1b) fun j hj=>hk1b j hj.2
 have i1b:iaD hp1b 2 (.ms id 0 n 2) (.v (.int .i64 ((pv:Nat):Int)))=some (adrE 2 (.ms id 0 n 2) (pv)):=Ad6 ho1b.rl (by simp; omega)
 simp only [bSa,↓bSb,i1b,Aa9,Aa1 (n0:=es.nx) (m:=16) hg1b (show id < es.nx by omega)]
 refine ⟨ro_pr ((rpA1b.mono (bl_of (id:=id))).rox (by omega)) ((rvA1b.mono (bl_of (id:=id))).rox (by omega)),?_⟩
 refine Aa0 rfl (Ac4 (R:=rChange) (i:=pv) (n:=n) (id:=id) (v:=[pA,vA]) (y:=d[a]!) (p:=fun j=>j < n0∧j≠id) (by simp only [bR]; rfl) ho1b (by simp only [evt,bR,reduceCtorEq]; exact Aa5 rpA1b rvA1b) (rChange_rd.2 ⟨pA,vA,rfl,rpA1b,rvA1b⟩) (by simp; omega) (fun h=>h.2 rfl) fun hp1 ho1 hk1=>?_)
 simp only [bR] at hk1
 have hs1:=hs.swp (show a < d.size by omega) (show pv < d.size by omega) ho1
 have g1:Fr es.hp es.nx id hp1 (es.nx+16):=g0.up (by omega) fun q hq hqi=>by rw [hk1 q hqi,hk1b q hqi]
 obtain ⟨flx1,hgx1⟩:=hs.get
 obtain ⟨fly1,hgy1⟩:=hs1.get
 have hlk1:∀ {a1 a2:List Nat} {q1 q2:Nat} (p:Past),p∈[(⟨q1,a1,hp1b,hp1⟩:Past),⟨q2,a2,es.hp,hp1b⟩]→(p.a.get id).isSome=true∧(p.b.get id).isSome=true:=fun p hp=>by
  simp only [List.mem_cons,List.not_mem_nil,or_false] at hp
  rcases hp with rfl | rfl
  ·exact ⟨by rw [hg1b]; rfl,by rw [hgy1]; rfl⟩
  ·exact ⟨by rw [hgx1]; rfl,by rw [hg1b]; rfl⟩
 have hd1:(swp d a pv).size=d.size:=by rw [size_swp]
 simp only [bSa,↓bSb,a1,a2,Aa3 (show a < _ by omega),Ag4 b (by omega) (by omega)]
 refine ⟨Ad3 (Ai0 id n) (by omega) (fun p hp=>hlk1 p hp) rfl,?_⟩
 refine B16 k n0 id n a (a+1) (b - 1) _ (by simp only []; omega) hs1 (by omega) (by omega) (by omega) (by omega) (by simp only [bR,a0]) (by simp only [bR,a1]) (by simp only [bR,a4]) (by simp only [bR]) (by simp only [bR]) fun es6 y1 y2 _ y3 y4 y5 y6=>?_
 simp only [] at y1
 simp only [bSa,↓bSb,bP,y6]
 exact hK _ _ (g1.trans y1) y2
end
end Go.DD

/- Contracts: partial insertion sort of changes. Conditions: those that each theorem states. -/
namespace Go.DD
open Go Go.Proofs Go.Sort
theorem ss_s (d:Array PCell) (b i:Nat) (h:i < b) (hp:ltC d[i]! d[i - 1]! = false):scanSorted ltC d b i=scanSorted ltC d b (i+1):=by rw [scanSorted,if_pos (by simp [h,hp])]
theorem ss_e (d:Array PCell) (b i:Nat) (h:¬ i < b∨ltC d[i]! d[i - 1]! = true):scanSorted ltC d b i=i:=by
 rw [scanSorted,if_neg]
 rcases h with h | h
 ·simp [h]
 ·simp [h]
theorem ss_ge (d:Array PCell) (b:Nat):∀ (m i:Nat),b - i=m→i≤scanSorted ltC d b i∧(i≤b→scanSorted ltC d b i≤b)
 | 0,i,hm=>by rw [ss_e _ _ _ (.inl (by omega))]; exact ⟨Nat.le_refl _,id⟩
 | m+1,i,hm=>by
  cases hp:ltC d[i]! d[i - 1]! with
  | false=>
   rw [ss_s _ _ _ (by omega) hp]
   obtain ⟨h1,h2⟩:=ss_ge d b m (i+1) (by omega)
   exact ⟨by omega,fun _=>h2 (by omega)⟩
  | true=>rw [ss_e _ _ _ (.inr hp)]; exact ⟨Nat.le_refl _,id⟩
theorem su_s (d:Array PCell) (b j:Nat) (h:j < b) (hp:ltC d[j]! d[j - 1]! = true):shiftUp ltC b j d=shiftUp ltC b (j+1) (swp d j (j - 1)):=by rw [shiftUp,if_pos h,if_neg (by simp [hp])]
theorem su_e (d:Array PCell) (b j:Nat) (h:¬ j < b∨ltC d[j]! d[j - 1]! = false):shiftUp ltC b j d=d:=by
 rw [shiftUp]
 by_cases h1:j < b
 ·rw [if_pos h1,if_pos (by rcases h with h | h; exact absurd h1 h; simp [h])]
 ·rw [if_neg h1]
section
variable (k n0:Nat)
theorem ew_ss {es:ES} {Q:Exit→ES→Prop} (id n a b c i:Nat) (d:Array PCell) (hn:n0≤es.nx) (hs:SR es.hp n0 id n d) (hi0:0 < i) (hib:i≤b) (hb:b≤d.size) (b0:rawE es (.t .o)=.ms id 0 n 2) (b1:rawE es (.t (.l .o))=iv a) (b2:rawE es (.t (.r .o))=iv b) (b3:rawE es (.t (.l (.l .o)))=cmpC) (b10:rawE es (.t (.r (.r (.l .o))))=iv (c:Nat)) (b9:rawE es (.t (.l (.r (.l .o))))=iv (i:Nat))
  (hQ:∀ es':ES,Al es.hp es.nx es'.hp es'.nx→rawE es' (.t .o)=.ms id 0 n 2→rawE es' (.t (.l .o))=iv a→rawE es' (.t (.r .o))=iv b→rawE es' (.t (.l (.l .o)))=cmpC→rawE es' (.t (.r (.r (.l .o))))=iv (c:Nat)→rawE es' (.t (.l (.r (.l .o))))=iv ((scanSorted ltC d b i:Nat))→Q (.exit 2) es') :
  EW (cL 1000000 Bs9) (kN (k+5)) es Q:=by
 have hsz:=hs.s
 refine EW.l (I:=fun m es1=>∃ i',m=b - i'∧i'≤b∧0 < i'∧Al es.hp es.nx es1.hp es1.nx∧SR es1.hp n0 id n d∧scanSorted ltC d b i'=scanSorted ltC d b i∧rawE es1 (.t .o)=.ms id 0 n 2∧rawE es1 (.t (.l .o))=iv a∧rawE es1 (.t (.r .o))=iv b∧rawE es1 (.t (.l (.l .o)))=cmpC∧rawE es1 (.t (.r (.r (.l .o))))=iv (c:Nat)∧rawE es1 (.t (.l (.r (.l .o))))=iv (i':Nat)) ?_ (b - i) 1000000 _ ⟨i,rfl,hib,hi0,Al.ini _ (Nat.le_refl _),hs,rfl,b0,b1,b2,b3,b10,b9⟩ (by omega)
 rintro m es1 ⟨i',hm,hi2,hi3,g,hs1,he,b0,b1,b2,b3,b10,b9⟩
 have hle:=g.le
 unfold Bs9
 have g0:Fr es.hp es.nx id es1.hp es1.nx:=⟨g.le,fun j hj _=>g.same j hj⟩
 by_cases h:i' < b
 ·obtain ⟨pA,vA,rpA,rvA,lA⟩:=hs1.at (show i' < d.size by omega)
  obtain ⟨pB,vB,rpB,rvB,lB⟩:=hs1.at (show i' - 1 < d.size by omega)
  have rpA':=rpA.mono (bl_of (id:=id))
  have rvA':=rvA.mono (bl_of (id:=id))
  have rpB':=rpB.mono (bl_of (id:=id))
  have rvB':=rvB.mono (bl_of (id:=id))
  simp only [bSa,↓bSb,b0,b2,b3,b9,h,Ag4 i' (by omega) (by omega),hs1.ia (show i' < d.size by omega),hs1.ia (show i' - 1 < d.size by omega),lA,lB,hs1.rox (m:=18) (show n0≤es1.nx by omega),Aa9,Ag0]
  refine ⟨⟨ro_pr (rpA'.rox (by omega)) (rvA'.rox (by omega)),ro_pr (rpB'.rox (by omega)) (rvB'.rox (by omega))⟩,?_⟩
  refine Aa0 rfl (Af2 (f:=126) (fs:=[]) (cs:=[]) (by rw [evt]; simp only [bR]; exact Ac9 _) ?_)
  simp only [bR,List.map_cons,List.map_nil,List.append_nil,List.nil_append]
  refine Ag1 k n0 _ _ _ pA vA pB vB d[i']! d[i' - 1]! (by omega) rpA' rvA' rpB' rvB' (hs1.bA (show i' < d.size by omega)) fun hp5 nx5 hal5=>?_
  have hle5:=hal5.le
  have hs5:=hs1.al (nx:=es1.nx+18) (by omega) hal5
  have g5:Fr es.hp es.nx id hp5 nx5:=g0.up (by omega) fun j hj _=>hal5.same j (by omega)
  have g5':Al es.hp es.nx hp5 nx5:=⟨by omega,fun j hj=>by rw [hal5.same j (by omega),g.same j hj]⟩
  by_cases h2:cmpL d[i']!.pos d[i' - 1]!.pos < 0
  ·rw [ss_e _ _ _ (.inr (ltC_t h2))] at he
   simp only [bSa,↓bSb,hle5,decide_eq_true h2]
   exact hQ _ g5' (by simp only [bR,b0]) (by simp only [bR,b1]) (by simp only [bR,b2]) (by simp only [bR,b3]) (by simp only [bR,b10]) (by simp only [bR,b9]; rw [he])
  ·rw [ss_s _ _ _ h (ltC_f h2)] at he
   simp only [bSa,↓bSb,b0,b1,b2,b3,b10,b9,hle5,decide_eq_false h2,Aa3 (show i' < _ by omega)]
   exact ⟨b - (i'+1),by omega,i'+1,rfl,by omega,by omega,g5',hs5,he,rfl⟩
 ·rw [ss_e _ _ _ (.inl h)] at he
  simp only [bSa,↓bSb,b2,b9,h]
  exact hQ _ ⟨by simp only []; omega,fun j hj=>by simp only []; exact g.same j hj⟩ (by simp only [bR,b0]) (by simp only [bR,b1]) (by simp only [bR,b2]) (by simp only [bR,b3]) (by simp only [bR,b10]) (by simp only [bR,b9]; rw [he])
theorem ew_sd {es:ES} {Q:Exit→ES→Prop} (id n a b c i j:Nat) (d:Array PCell) (hn:n0≤es.nx) (hs:SR es.hp n0 id n d) (hj:j < d.size) (b0:rawE es (.t .o)=.ms id 0 n 2) (b1:rawE es (.t (.l .o))=iv a) (b2:rawE es (.t (.r .o))=iv b) (b3:rawE es (.t (.l (.l .o)))=cmpC) (b10:rawE es (.t (.r (.r (.l .o))))=iv (c:Nat)) (b9:rawE es (.t (.l (.r (.l .o))))=iv (i:Nat)) (b11:rawE es (.t (.l (.l (.r .o))))=iv (j:Nat))
  (hQ:∀ es':ES,Fr es.hp es.nx id es'.hp es'.nx→SR es'.hp n0 id n (shiftDown ltC j d)→rawE es' (.t .o)=.ms id 0 n 2→rawE es' (.t (.l .o))=iv a→rawE es' (.t (.r .o))=iv b→rawE es' (.t (.l (.l .o)))=cmpC→rawE es' (.t (.r (.r (.l .o))))=iv (c:Nat)→rawE es' (.t (.l (.r (.l .o))))=iv (i:Nat)→Q (.exit 4) es') :
  EW (cL 1000000 Bt0) (kN (k+5)) es Q:=by
 have hsz:=hs.s
 refine EW.l (I:=fun m es1=>∃ d1,m≤j∧Fr es.hp es.nx id es1.hp es1.nx∧SR es1.hp n0 id n d1∧shiftDown ltC m d1=shiftDown ltC j d∧rawE es1 (.t .o)=.ms id 0 n 2∧rawE es1 (.t (.l .o))=iv a∧rawE es1 (.t (.r .o))=iv b∧rawE es1 (.t (.l (.l .o)))=cmpC∧rawE es1 (.t (.r (.r (.l .o))))=iv (c:Nat)∧rawE es1 (.t (.l (.r (.l .o))))=iv (i:Nat)∧rawE es1 (.t (.l (.l (.r .o))))=iv (m:Nat)) ?_ j 1000000 _ ⟨d,Nat.le_refl _,Fr.refl _ _ _,hs,rfl,b0,b1,b2,b3,b10,b9,b11⟩ (by omega)
 rintro m es1 ⟨d1,hm,g,hs1,he,b0,b1,b2,b3,b10,b9,b11⟩
 have hle:=g.le
 have hd1:d1.size=d.size:=hs1.n.symm.trans hs.n
 unfold Bt0
 cases m with
 | zero=>
  simp only [bSa,↓bSb,b11,show decide ((1:Int)≤0)=false from rfl]
  have he':d1=shiftDown ltC j d:=he
  rw [← he'] at hQ
  exact hQ _ (by simpa only [bR] using g) (by simpa only [bR] using hs1) (by simp only [bR,b0]) (by simp only [bR,b1]) (by simp only [bR,b2]) (by simp only [bR,b3]) (by simp only [bR,b10]) (by simp only [bR,b9])
 | succ m=>
  rw [shiftDown] at he
  obtain ⟨pA,vA,rpA,rvA,lA⟩:=hs1.at (show m+1 < d1.size by omega)
  obtain ⟨pB,vB,rpB,rvB,lB⟩:=hs1.at (show m < d1.size by omega)
  have rpA':=rpA.mono (bl_of (id:=id))
  have rvA':=rvA.mono (bl_of (id:=id))
  have rpB':=rpB.mono (bl_of (id:=id))
  have rvB':=rvB.mono (bl_of (id:=id))
  simp only [bSa,↓bSb,b0,b3,b11,show decide ((1:Int)≤((m+1:Nat):Int))=true from decide_eq_true (by omega),Aq3 (show m < _ by omega),hs1.ia (show m+1 < d1.size by omega),hs1.ia (show m < d1.size by omega),lA,lB,hs1.rox (m:=13) (show n0≤es1.nx by omega),Aa9,Ag0]
  refine ⟨⟨ro_pr (rpA'.rox (by omega)) (rvA'.rox (by omega)),ro_pr (rpB'.rox (by omega)) (rvB'.rox (by omega))⟩,?_⟩
  refine Aa0 rfl (Af2 (f:=126) (fs:=[]) (cs:=[]) (by rw [evt]; simp only [bR]; exact Ac9 _) ?_)
  simp only [bR,List.map_cons,List.map_nil,List.append_nil,List.nil_append]
  refine Ag1 k n0 _ _ _ pA vA pB vB d1[m+1]! d1[m]! (by omega) rpA' rvA' rpB' rvB' (hs1.bA (show m+1 < d1.size by omega)) fun hp5 nx5 hal5=>?_
  have hle5:=hal5.le
  have hs5:=hs1.al (nx:=es1.nx+13) (by omega) hal5
  have g5:Fr es.hp es.nx id hp5 nx5:=g.up (by omega) fun j hj _=>hal5.same j (by omega)
  by_cases h2:cmpL d1[m+1]!.pos d1[m]!.pos < 0
  ·rw [if_neg (by simp [ltC_t h2])] at he
   obtain ⟨pA,vA,rpA,rvA,lA⟩:=hs5.at (show m+1 < d1.size by omega)
   obtain ⟨pB,vB,rpB,rvB,lB⟩:=hs5.at (show m < d1.size by omega)
   have rpA':=rpA.mono (bl_of (id:=id))
   have rvA':=rvA.mono (bl_of (id:=id))
   have rpB':=rpB.mono (bl_of (id:=id))
   have rvB':=rvB.mono (bl_of (id:=id))
   simp only [bSa,↓bSb,b0,b11,hle5,decide_eq_true h2,Aq3 (show m < _ by omega),hs5.ia (show m+1 < d1.size by omega),hs5.ia (show m < d1.size by omega),lA,lB,hs5.rox (m:=18) (show n0≤nx5 by omega),Aa9]
   refine ⟨ro_pr (rpB'.rox (by omega)) (rvB'.rox (by omega)),?_⟩
   refine Aa0 rfl (Ac4 (R:=rChange) (i:=m+1) (n:=n) (id:=id) (v:=[pB,vB]) (y:=d1[m]!) (p:=fun j=>j < n0∧j≠id) (by simp only [bR]; rfl) hs5.o (by simp only [evt,bR,reduceCtorEq]; exact Aa5 rpB rvB) (rChange_rd.2 ⟨pB,vB,rfl,rpB,rvB⟩) (by simp; omega) (fun h=>h.2 rfl) fun hp6b ho6b hk6b=>?_)
   simp only [bR] at hk6b
   obtain ⟨_,_,fl6b,hg6b,_⟩:=ho6b.get
   have hidn6:=hs5.h
   have rpA6b:=rpA.keep (hp':=hp6b) fun j hj=>hk6b j hj.2
   have rvA6b:=rvA.keep (hp':=hp6b) fun j hj=>hk6b j hj.2
   have i6b:iaD hp6b 2 (.ms id 0 n 2) (.v (.int .i64 ((m:Nat):Int)))=some (adrE 2 (.ms id 0 n 2) (m)):=Ad6 ho6b.rl (by simp; omega)
   simp only [bSa,↓bSb,i6b,Aa9,Aa1 (n0:=nx5) (m:=18) hg6b (show id < nx5 by omega)]
   refine ⟨ro_pr ((rpA6b.mono (bl_of (id:=id))).rox (by omega)) ((rvA6b.mono (bl_of (id:=id))).rox (by omega)),?_⟩
   refine Aa0 rfl (Ac4 (R:=rChange) (i:=m) (n:=n) (id:=id) (v:=[pA,vA]) (y:=d1[m+1]!) (p:=fun j=>j < n0∧j≠id) (by simp only [bR]; rfl) ho6b (by simp only [evt,bR,reduceCtorEq]; exact Aa5 rpA6b rvA6b) (rChange_rd.2 ⟨pA,vA,rfl,rpA6b,rvA6b⟩) (by simp; omega) (fun h=>h.2 rfl) fun hp6 ho6 hk6=>?_)
   simp only [bR] at hk6
   have hs6:=hs5.swp (show m+1 < d1.size by omega) (show m < d1.size by omega) ho6
   have g6:Fr es.hp es.nx id hp6 (nx5+18):=g5.up (by omega) fun q hq hqi=>by rw [hk6 q hqi,hk6b q hqi]
   obtain ⟨flx6,hgx6⟩:=hs5.get
   obtain ⟨fly6,hgy6⟩:=hs6.get
   have hlk6:∀ {a1 a2:List Nat} {q1 q2:Nat} (p:Past),p∈[(⟨q1,a1,hp6b,hp6⟩:Past),⟨q2,a2,hp5,hp6b⟩]→(p.a.get id).isSome=true∧(p.b.get id).isSome=true:=fun p hp=>by
    simp only [List.mem_cons,List.not_mem_nil,or_false] at hp
    rcases hp with rfl | rfl
    ·exact ⟨by rw [hg6b]; rfl,by rw [hgy6]; rfl⟩
    ·exact ⟨by rw [hgx6]; rfl,by rw [hg6b]; rfl⟩
   simp only [bSa,↓bSb,b0,b1,b2,b3,b10,b9,b11,Aq3 (show m < _ by omega)]
   exact ⟨Ad3 (Ai0 id n) (by omega) (fun p hp=>hlk6 p hp) rfl,m,by omega,_,by omega,g6,hs6,he,rfl⟩
  ·rw [if_pos (by simp [ltC_f h2])] at he
   simp only [bSa,↓bSb,hle5,decide_eq_false h2]
   rw [← he] at hQ
   exact hQ _ (by simpa only [bR] using g5) (by simpa only [bR] using hs5) (by simp only [bR,b0]) (by simp only [bR,b1]) (by simp only [bR,b2]) (by simp only [bR,b3]) (by simp only [bR,b10]) (by simp only [bR,b9])
theorem ew_su {es:ES} {Q:Exit→ES→Prop} (id n a b c i j:Nat) (d:Array PCell) (hn:n0≤es.nx) (hs:SR es.hp n0 id n d) (hj0:0 < j) (hjb:j≤b) (hb:b≤d.size) (b0:rawE es (.t .o)=.ms id 0 n 2) (b1:rawE es (.t (.l .o))=iv a) (b2:rawE es (.t (.r .o))=iv b) (b3:rawE es (.t (.l (.l .o)))=cmpC) (b10:rawE es (.t (.r (.r (.l .o))))=iv (c:Nat)) (b9:rawE es (.t (.l (.r (.l .o))))=iv (i:Nat)) (b12:rawE es (.t (.r (.l (.r .o))))=iv (j:Nat))
  (hQ:∀ es':ES,Fr es.hp es.nx id es'.hp es'.nx→SR es'.hp n0 id n (shiftUp ltC b j d)→rawE es' (.t .o)=.ms id 0 n 2→rawE es' (.t (.l .o))=iv a→rawE es' (.t (.r .o))=iv b→rawE es' (.t (.l (.l .o)))=cmpC→rawE es' (.t (.r (.r (.l .o))))=iv (c:Nat)→rawE es' (.t (.l (.r (.l .o))))=iv (i:Nat)→Q (.exit 6) es') :
  EW (cL 1000000 Bt1) (kN (k+5)) es Q:=by
 have hsz:=hs.s
 refine EW.l (I:=fun m es1=>∃ j' d1,m=b - j'∧0 < j'∧j'≤b∧Fr es.hp es.nx id es1.hp es1.nx∧SR es1.hp n0 id n d1∧shiftUp ltC b j' d1=shiftUp ltC b j d∧rawE es1 (.t .o)=.ms id 0 n 2∧rawE es1 (.t (.l .o))=iv a∧rawE es1 (.t (.r .o))=iv b∧rawE es1 (.t (.l (.l .o)))=cmpC∧rawE es1 (.t (.r (.r (.l .o))))=iv (c:Nat)∧rawE es1 (.t (.l (.r (.l .o))))=iv (i:Nat)∧rawE es1 (.t (.r (.l (.r .o))))=iv (j':Nat)) ?_ (b - j) 1000000 _ ⟨j,d,rfl,hj0,hjb,Fr.refl _ _ _,hs,rfl,b0,b1,b2,b3,b10,b9,b12⟩ (by omega)
 rintro m es1 ⟨j',d1,hm,hj1,hj2,g,hs1,he,b0,b1,b2,b3,b10,b9,b12⟩
 have hle:=g.le
 have hd1:d1.size=d.size:=hs1.n.symm.trans hs.n
 unfold Bt1
 by_cases h:j' < b
 ·obtain ⟨pA,vA,rpA,rvA,lA⟩:=hs1.at (show j' < d1.size by omega)
  obtain ⟨pB,vB,rpB,rvB,lB⟩:=hs1.at (show j' - 1 < d1.size by omega)
  have rpA':=rpA.mono (bl_of (id:=id))
  have rvA':=rvA.mono (bl_of (id:=id))
  have rpB':=rpB.mono (bl_of (id:=id))
  have rvB':=rvB.mono (bl_of (id:=id))
  simp only [bSa,↓bSb,b0,b2,b3,b12,h,Ag4 j' (by omega) (by omega),hs1.ia (show j' < d1.size by omega),hs1.ia (show j' - 1 < d1.size by omega),lA,lB,hs1.rox (m:=13) (show n0≤es1.nx by omega),Aa9,Ag0]
  refine ⟨⟨ro_pr (rpA'.rox (by omega)) (rvA'.rox (by omega)),ro_pr (rpB'.rox (by omega)) (rvB'.rox (by omega))⟩,?_⟩
  refine Aa0 rfl (Af2 (f:=126) (fs:=[]) (cs:=[]) (by rw [evt]; simp only [bR]; exact Ac9 _) ?_)
  simp only [bR,List.map_cons,List.map_nil,List.append_nil,List.nil_append]
  refine Ag1 k n0 _ _ _ pA vA pB vB d1[j']! d1[j' - 1]! (by omega) rpA' rvA' rpB' rvB' (hs1.bA (show j' < d1.size by omega)) fun hp5 nx5 hal5=>?_
  have hle5:=hal5.le
  have hs5:=hs1.al (nx:=es1.nx+13) (by omega) hal5
  have g5:Fr es.hp es.nx id hp5 nx5:=g.up (by omega) fun j hj _=>hal5.same j (by omega)
  by_cases h2:cmpL d1[j']!.pos d1[j' - 1]!.pos < 0
  ·rw [su_s _ _ _ h (ltC_t h2)] at he
   obtain ⟨pA,vA,rpA,rvA,lA⟩:=hs5.at (show j' < d1.size by omega)
   obtain ⟨pB,vB,rpB,rvB,lB⟩:=hs5.at (show j' - 1 < d1.size by omega)
   have rpA':=rpA.mono (bl_of (id:=id))
   have rvA':=rvA.mono (bl_of (id:=id))
   have rpB':=rpB.mono (bl_of (id:=id))
   have rvB':=rvB.mono (bl_of (id:=id))
   simp only [bSa,↓bSb,b0,b12,hle5,decide_eq_true h2,Ag4 j' (by omega) (by omega),hs5.ia (show j' < d1.size by omega),hs5.ia (show j' - 1 < d1.size by omega),lA,lB,hs5.rox (m:=18) (show n0≤nx5 by omega),Aa9]
   refine ⟨ro_pr (rpB'.rox (by omega)) (rvB'.rox (by omega)),?_⟩
   refine Aa0 rfl (Ac4 (R:=rChange) (i:=j') (n:=n) (id:=id) (v:=[pB,vB]) (y:=d1[j' - 1]!) (p:=fun j=>j < n0∧j≠id) (by simp only [bR]; rfl) hs5.o (by simp only [evt,bR,reduceCtorEq]; exact Aa5 rpB rvB) (rChange_rd.2 ⟨pB,vB,rfl,rpB,rvB⟩) (by simp; omega) (fun h=>h.2 rfl) fun hp6b ho6b hk6b=>?_)
   simp only [bR] at hk6b
   obtain ⟨_,_,fl6b,hg6b,_⟩:=ho6b.get
   have hidn6:=hs5.h
   have rpA6b:=rpA.keep (hp':=hp6b) fun j hj=>hk6b j hj.2
   have rvA6b:=rvA.keep (hp':=hp6b) fun j hj=>hk6b j hj.2
   have i6b:iaD hp6b 2 (.ms id 0 n 2) (.v (.int .i64 ((j' - 1:Nat):Int)))=some (adrE 2 (.ms id 0 n 2) (j' - 1)):=Ad6 ho6b.rl (by simp; omega)
   simp only [bSa,↓bSb,i6b,Aa9,Aa1 (n0:=nx5) (m:=18) hg6b (show id < nx5 by omega)]
   refine ⟨ro_pr ((rpA6b.mono (bl_of (id:=id))).rox (by omega)) ((rvA6b.mono (bl_of (id:=id))).rox (by omega)),?_⟩
   refine Aa0 rfl (Ac4 (R:=rChange) (i:=j' - 1) (n:=n) (id:=id) (v:=[pA,vA]) (y:=d1[j']!) (p:=fun j=>j < n0∧j≠id) (by simp only [bR]; rfl) ho6b (by simp only [evt,bR,reduceCtorEq]; exact Aa5 rpA6b rvA6b) (rChange_rd.2 ⟨pA,vA,rfl,rpA6b,rvA6b⟩) (by simp; omega) (fun h=>h.2 rfl) fun hp6 ho6 hk6=>?_)
   simp only [bR] at hk6
   have hs6:=hs5.swp (show j' < d1.size by omega) (show j' - 1 < d1.size by omega) ho6
   have g6:Fr es.hp es.nx id hp6 (nx5+18):=g5.up (by omega) fun q hq hqi=>by rw [hk6 q hqi,hk6b q hqi]
   obtain ⟨flx6,hgx6⟩:=hs5.get
   obtain ⟨fly6,hgy6⟩:=hs6.get
   have hlk6:∀ {a1 a2:List Nat} {q1 q2:Nat} (p:Past),p∈[(⟨q1,a1,hp6b,hp6⟩:Past),⟨q2,a2,hp5,hp6b⟩]→(p.a.get id).isSome=true∧(p.b.get id).isSome=true:=fun p hp=>by
    simp only [List.mem_cons,List.not_mem_nil,or_false] at hp
    rcases hp with rfl | rfl
    ·exact ⟨by rw [hg6b]; rfl,by rw [hgy6]; rfl⟩
    ·exact ⟨by rw [hgx6]; rfl,by rw [hg6b]; rfl⟩
   simp only [bSa,↓bSb,b0,b1,b2,b3,b10,b9,b12,Aa3 (show j' < _ by omega)]
   exact ⟨Ad3 (Ai0 id n) (by omega) (fun p hp=>hlk6 p hp) rfl,b - (j'+1),by omega,j'+1,_,rfl,by omega,by omega,g6,hs6,he,rfl⟩
  ·rw [su_e _ _ _ (.inr (ltC_f h2))] at he
   simp only [bSa,↓bSb,hle5,decide_eq_false h2]
   rw [← he] at hQ
   exact hQ _ (by simpa only [bR] using g5) (by simpa only [bR] using hs5) (by simp only [bR,b0]) (by simp only [bR,b1]) (by simp only [bR,b2]) (by simp only [bR,b3]) (by simp only [bR,b10]) (by simp only [bR,b9])
 ·rw [su_e _ _ _ (.inl h)] at he
  simp only [bSa,↓bSb,b2,b12,h]
  rw [← he] at hQ
  exact hQ _ (by simpa only [bR] using g) (by simpa only [bR] using hs1) (by simp only [bR,b0]) (by simp only [bR,b1]) (by simp only [bR,b2]) (by simp only [bR,b3]) (by simp only [bR,b10]) (by simp only [bR,b9])
end
structure PIS (hp:Tr DObj) (nx n0 id n a b c i:Nat) (d:Array PCell) (es:ES):Prop where
 g:Fr hp nx id es.hp es.nx
 s:SR es.hp n0 id n d
 b0:rawE es (.t .o)=.ms id 0 n 2
 b1:rawE es (.t (.l .o))=iv a
 b2:rawE es (.t (.r .o))=iv b
 b3:rawE es (.t (.l (.l .o)))=cmpC
 b10:rawE es (.t (.r (.r (.l .o))))=iv (c:Nat)
 b9:rawE es (.t (.l (.r (.l .o))))=iv (i:Nat)
section
variable (k n0:Nat) (hp:Tr DObj) (nx:Nat) (K:DV→Tr DObj→Nat→Prop)
theorem Ch5 (id n a b:Nat) (d:Array PCell) (hn:n0≤nx) (hs:SR hp n0 id n d) (hab:a < b) (hb:b≤d.size)
  (hK:∀ hp' nx',Fr hp nx id hp' nx'→SR hp' n0 id n (partialInsertionSort ltC d a b).1→K (bv (partialInsertionSort ltC d a b).2) hp' nx'):KW (kN (k+6)) (.fn 208) [.ms id 0 n 2,iv a,iv b,cmpC] hp nx K:=by
 refine kn_1 (Aa2 (by decide)) t208 (Nat.le_of_ble_eq_true rfl) fun es e1 e2 he=>?_
 have a0:rawE es (.t .o)=.ms id 0 n 2:=he 0 _ rfl
 have a1:rawE es (.t (.l .o))=iv a:=he 1 _ rfl
 have a2:rawE es (.t (.r .o))=iv b:=he 2 _ rfl
 have a3:rawE es (.t (.l (.l .o)))=cmpC:=he 3 _ rfl
 unfold r208
 subst e1 e2
 have hsz:=hs.s
 unfold partialInsertionSort at hK
 simp only [bSa,↓bSb,a1,Aa3 (show a < _ by omega)]
 refine EW.up 5 (fun c es1=>∃ i d1,a < i∧i≤b∧PIS es.hp es.nx n0 id n a b c i d1 es1∧partialIns ltC a b (5 - c) i d1=partialIns ltC a b 5 (a+1) d) ?_ ?_ (by omega)
 ·rintro c es1 hc ⟨i,d1,hi1,hi2,⟨g,hs1,b0,b1,b2,b3,b10,b9⟩,he⟩
  unfold Cb1
  have hle:=g.le
  have hd1:d1.size=d.size:=hs1.n.symm.trans hs.n
  by_cases h5:c < 5
  ·obtain ⟨s,hs5⟩:∃ s,5 - c=s+1:=⟨4 - c,by omega⟩
   have hs5':5 - (c+1)=s:=by omega
   rw [hs5,partialIns_succ] at he
   have hsub:binD .sub (.v (.int .i64 (b:Int))) (.v (.int .i64 (a:Int)))=some (.v (.int .i64 ((b - a:Nat):Int))):=Al6 (by omega) (by omega)
   obtain ⟨hg1,hg2⟩:=ss_ge d1 b _ i rfl
   have hg2:=hg2 hi2
   refine EW.seq (PIS es.hp es.nx n0 id n a b c i d1) ?_ fun es2 ⟨g,hs1,b0,b1,b2,b3,b10,b9⟩=>?_
   ·simp only [bSa,↓bSb,b10,show decide ((c:Int) < 5)=true from decide_eq_true (by omega)]
    exact ⟨by simpa only [bR] using g,by simpa only [bR] using hs1,by simp only [bR,b0],by simp only [bR,b1],by simp only [bR,b2],by simp only [bR,b3],by simp only [bR,b10],by simp only [bR,b9]⟩
   have hle2:=g.le
   refine EW.seq (fun es5=>∃ i d1,a < i∧i≤b∧PIS es.hp es.nx n0 id n a b c i d1 es5∧partialIns ltC a b s i d1=partialIns ltC a b 5 (a+1) d) (ew_b.2 ?_) fun es5 ⟨i,d1,hi1,hi2,⟨g,hs1,b0,b1,b2,b3,b10,b9⟩,he⟩=>?_
   ·refine EW.seq (PIS es.hp es.nx n0 id n a b c (scanSorted ltC d1 b i) d1) (ew_b.2 (ew_ss k n0 id n a b c i d1 (by omega) hs1 (by omega) hi2 (by omega) b0 b1 b2 b3 b10 b9 fun es' q1 q2 q3 q4 q5 q6 q7=>?_)) fun es3 ⟨g,hs1,b0,b1,b2,b3,b10,b9⟩=>?_
    ·simp only [↓bSb]
     exact ⟨g.al q1,hs1.al (by omega) q1,q2,q3,q4,q5,q6,q7⟩
    have hle3:=g.le
    generalize scanSorted ltC d1 b i=i2 at *
    by_cases e1:i2=b
    ·rw [if_pos e1] at he
     subst e1
     simp only [bSa,↓bSb,bP,b2,b9]
     rw [← he] at hK
     exact hK _ _ g hs1
    ·rw [if_neg e1] at he
     have hlt:i2 < b:=by omega
     refine EW.seq (PIS es.hp es.nx n0 id n a b c i2 d1) ?_ fun es4 ⟨g,hs1,b0,b1,b2,b3,b10,b9⟩=>?_
     ·simp only [bSa,↓bSb,b2,b9,decide_eq_false e1]
      exact ⟨by simpa only [bR] using g,by simpa only [bR] using hs1,by simp only [bR,b0],by simp only [bR,b1],by simp only [bR,b2],by simp only [bR,b3],by simp only [bR,b10],by simp only [bR,b9]⟩
     have hle4:=g.le
     by_cases e2:b - a < 50
     ·rw [if_pos e2] at he
      simp only [bSa,↓bSb,bP,b1,b2,hsub,show decide (((b - a:Nat):Int) < 50)=true from decide_eq_true (by omega)]
      rw [← he] at hK
      exact hK _ _ g hs1
     ·rw [if_neg e2] at he
      refine EW.seq (PIS es.hp es.nx n0 id n a b c i2 d1) ?_ fun es5 ⟨g,hs1,b0,b1,b2,b3,b10,b9⟩=>EW.seq (PIS es.hp es.nx n0 id n a b c i2 (swp d1 i2 (i2 - 1))) ?_ fun es6 ⟨g6,hs6,b0,b1,b2,b3,b10,b9⟩=>?_
      ·simp only [bSa,↓bSb,b1,b2,hsub,show decide (((b - a:Nat):Int) < 50)=false from decide_eq_false (by omega)]
       exact ⟨by simpa only [bR] using g,by simpa only [bR] using hs1,by simp only [bR,b0],by simp only [bR,b1],by simp only [bR,b2],by simp only [bR,b3],by simp only [bR,b10],by simp only [bR,b9]⟩
      ·have hle5:=g.le
       obtain ⟨pA,vA,rpA,rvA,lA⟩:=hs1.at (show i2 < d1.size by omega)
       obtain ⟨pB,vB,rpB,rvB,lB⟩:=hs1.at (show i2 - 1 < d1.size by omega)
       have rpA':=rpA.mono (bl_of (id:=id))
       have rvA':=rvA.mono (bl_of (id:=id))
       have rpB':=rpB.mono (bl_of (id:=id))
       have rvB':=rvB.mono (bl_of (id:=id))
       simp only [bSa,↓bSb,b0,b9,Ag4 i2 (by omega) (by omega),hs1.ia (show i2 < d1.size by omega),hs1.ia (show i2 - 1 < d1.size by omega),lA,lB,hs1.rox (m:=18) (show n0≤es5.nx by omega),Aa9]
       refine ⟨ro_pr (rpB'.rox (by omega)) (rvB'.rox (by omega)),?_⟩
       refine Aa0 rfl (Ac4 (R:=rChange) (i:=i2) (n:=n) (id:=id) (v:=[pB,vB]) (y:=d1[i2 - 1]!) (p:=fun j=>j < n0∧j≠id) (by simp only [bR]; rfl) hs1.o (by simp only [evt,bR,reduceCtorEq]; exact Aa5 rpB rvB) (rChange_rd.2 ⟨pB,vB,rfl,rpB,rvB⟩) (by simp; omega) (fun h=>h.2 rfl) fun hp7b ho7b hk7b=>?_)
       simp only [bR] at hk7b
       obtain ⟨_,_,fl7b,hg7b,_⟩:=ho7b.get
       have hidn7:=hs1.h
       have rpA7b:=rpA.keep (hp':=hp7b) fun j hj=>hk7b j hj.2
       have rvA7b:=rvA.keep (hp':=hp7b) fun j hj=>hk7b j hj.2
       have i7b:iaD hp7b 2 (.ms id 0 n 2) (.v (.int .i64 ((i2 - 1:Nat):Int)))=some (adrE 2 (.ms id 0 n 2) (i2 - 1)):=Ad6 ho7b.rl (by simp; omega)
       simp only [bSa,↓bSb,i7b,Aa9,Aa1 (n0:=es5.nx) (m:=18) hg7b (show id < es5.nx by omega)]
       refine ⟨ro_pr ((rpA7b.mono (bl_of (id:=id))).rox (by omega)) ((rvA7b.mono (bl_of (id:=id))).rox (by omega)),?_⟩
       refine Aa0 rfl (Ac4 (R:=rChange) (i:=i2 - 1) (n:=n) (id:=id) (v:=[pA,vA]) (y:=d1[i2]!) (p:=fun j=>j < n0∧j≠id) (by simp only [bR]; rfl) ho7b (by simp only [evt,bR,reduceCtorEq]; exact Aa5 rpA7b rvA7b) (rChange_rd.2 ⟨pA,vA,rfl,rpA7b,rvA7b⟩) (by simp; omega) (fun h=>h.2 rfl) fun hp7 ho7 hk7=>?_)
       simp only [bR] at hk7
       have hs7:=hs1.swp (show i2 < d1.size by omega) (show i2 - 1 < d1.size by omega) ho7
       have g7:Fr es.hp es.nx id hp7 (es5.nx+18):=g.up (by omega) fun q hq hqi=>by rw [hk7 q hqi,hk7b q hqi]
       obtain ⟨flx7,hgx7⟩:=hs1.get
       obtain ⟨fly7,hgy7⟩:=hs7.get
       have hlk7:∀ {a1 a2:List Nat} {q1 q2:Nat} (p:Past),p∈[(⟨q1,a1,hp7b,hp7⟩:Past),⟨q2,a2,es5.hp,hp7b⟩]→(p.a.get id).isSome=true∧(p.b.get id).isSome=true:=fun p hp=>by
        simp only [List.mem_cons,List.not_mem_nil,or_false] at hp
        rcases hp with rfl | rfl
        ·exact ⟨by rw [hg7b]; rfl,by rw [hgy7]; rfl⟩
        ·exact ⟨by rw [hgx7]; rfl,by rw [hg7b]; rfl⟩
       simp only [bSa,↓bSb]
       exact ⟨Ad3 (Ai0 id n) (by omega) (fun p hp=>hlk7 p hp) rfl,g7,hs7,by simp only [bR,b0],by simp only [bR,b1],by simp only [bR,b2],by simp only [bR,b3],by simp only [bR,b10],by simp only [bR,b9]⟩
      have hd6:(swp d1 i2 (i2 - 1)).size=d1.size:=by rw [size_swp]
      have hle6:=g6.le
      generalize swp d1 i2 (i2 - 1)=d6 at *
      have hsia:binD .sub (.v (.int .i64 (i2:Int))) (.v (.int .i64 (a:Int)))=some (.v (.int .i64 ((i2 - a:Nat):Int))):=Al6 (by omega) (by omega)
      have hsbi:binD .sub (.v (.int .i64 (b:Int))) (.v (.int .i64 (i2:Int)))=some (.v (.int .i64 ((b - i2:Nat):Int))):=Al6 (by omega) (by omega)
      refine EW.seq (PIS es.hp es.nx n0 id n a b c i2 (fixDown ltC a i2 d6)) ?_ fun es7 ⟨g7,hs7,b0,b1,b2,b3,b10,b9⟩=>?_
      ·by_cases e3:2≤i2 - a
       ·have ef:fixDown ltC a i2 d6=shiftDown ltC (i2 - 1) d6:=by unfold fixDown; exact if_pos e3
        rw [ef]
        simp only [bSa,↓bSb,b1,b9,hsia,show decide ((2:Int)≤((i2 - a:Nat):Int))=true from decide_eq_true (by omega),Ag4 i2 (by omega) (by omega)]
        refine ew_sd k n0 id n a b c i2 (i2 - 1) d6 (by simp only [bR]; omega) (by simpa only [bR] using hs6) (by omega) (by simp only [bR,b0]) (by simp only [bR,b1]) (by simp only [bR,b2]) (by simp only [bR,b3]) (by simp only [bR,b10]) (by simp only [bR,b9]) (by simp only [bR]) fun es' q1 q2 q3 q4 q5 q6 q7 q8=>?_
        simp only [bR] at q1
        simp only [↓bSb]
        exact ⟨g6.trans q1,q2,q3,q4,q5,q6,q7,q8⟩
       ·have ef:fixDown ltC a i2 d6=d6:=by unfold fixDown; exact if_neg e3
        rw [ef]
        simp only [bSa,↓bSb,b1,b9,hsia,show decide ((2:Int)≤((i2 - a:Nat):Int))=false from decide_eq_false (by omega)]
        exact ⟨by simpa only [bR] using g6,by simpa only [bR] using hs6,by simp only [bR,b0],by simp only [bR,b1],by simp only [bR,b2],by simp only [bR,b3],by simp only [bR,b10],by simp only [bR,b9]⟩
      have hd7:(fixDown ltC a i2 d6).size=d1.size:=hs7.n.symm.trans hs1.n
      have hle7:=g7.le
      generalize fixDown ltC a i2 d6=d7 at *
      by_cases e4:2≤b - i2
      ·have ef:fixUp ltC b i2 d7=shiftUp ltC b (i2+1) d7:=by unfold fixUp; exact if_pos e4
       rw [ef] at he
       simp only [bSa,↓bSb,b2,b9,hsbi,show decide ((2:Int)≤((b - i2:Nat):Int))=true from decide_eq_true (by omega),Aa3 (show i2 < _ by omega)]
       refine ew_su k n0 id n a b c i2 (i2+1) d7 (by simp only [bR]; omega) (by simpa only [bR] using hs7) (by omega) (by omega) (by omega) (by simp only [bR,b0]) (by simp only [bR,b1]) (by simp only [bR,b2]) (by simp only [bR,b3]) (by simp only [bR,b10]) (by simp only [bR,b9]) (by simp only [bR]) fun es' q1 q2 q3 q4 q5 q6 q7 q8=>?_
       simp only [bR] at q1
       simp only [↓bSb]
       exact ⟨i2,_,by omega,by omega,⟨g7.trans q1,q2,q3,q4,q5,q6,q7,q8⟩,he⟩
      ·have ef:fixUp ltC b i2 d7=d7:=by unfold fixUp; exact if_neg e4
       rw [ef] at he
       simp only [bSa,↓bSb,b2,b9,hsbi,show decide ((2:Int)≤((b - i2:Nat):Int))=false from decide_eq_false (by omega)]
       exact ⟨i2,_,by omega,by omega,⟨by simpa only [bR] using g7,by simpa only [bR] using hs7,by simp only [bR,b0],by simp only [bR,b1],by simp only [bR,b2],by simp only [bR,b3],by simp only [bR,b10],by simp only [bR,b9]⟩,he⟩
   ·simp only [bSa,↓bSb,b10,Aa3 (show c < _ by omega)]
    exact ⟨h5,i,d1,hi1,hi2,⟨by simpa only [bR] using g,by simpa only [bR] using hs1,by simp only [bR,b0],by simp only [bR,b1],by simp only [bR,b2],by simp only [bR,b3],by simp only [bR],by simp only [bR,b9]⟩,by rw [hs5']; exact he⟩
  ·have:c=5:=by omega
   subst this
   have he:(d1,false)=partialIns ltC a b 5 (a+1) d:=he
   simp only [bSa,↓bSb,bP,b10,show decide (((5:Nat):Int) < 5)=false from rfl]
   rw [← he] at hK
   exact hK _ _ g hs1
 ·exact ⟨a+1,d,by omega,by omega,⟨Fr.refl _ _ _,hs,by simp only [bR,a0],by simp only [bR,a1],by simp only [bR,a2],by simp only [bR,a3],by simp only [bR]; rfl,by simp only [bR]⟩,rfl⟩
end
end Go.DD
