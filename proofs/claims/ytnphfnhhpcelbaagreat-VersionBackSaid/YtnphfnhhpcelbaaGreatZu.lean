/- Contracts: the program's Same; equal arrays or nothing. Conditions: those that each theorem states. -/
import Derived.Test.YtnphfnhhpcelbaaGreatZt
import Derived.Test.YtnphfnhhpcelbaaGreatZl
import Derived.Test.YtnphfnhhpcelbaaGreatZf
import Derived.WalkKit
import Derived.ProofKit
import Derived.OpenShut
import Derived.Test.YtnphfnhhpcelbaaGreatZe
import Derived.ChangeSame
import Derived.Below
import Derived.Test.YtnphfnhhpcelbaaGreatRows
import Derived.ChangeSlices
import Derived.Carry
set_option linter.unusedSectionVars false
set_option linter.unusedVariables false
namespace Go.DD
open Go Go.Proofs
def sameA (x y:PArr):Bool:=decide (Aa5 x=0∧Aa5 y=0∧x=y)
section
variable (k n0:Nat) (hp:Tr DObj) (nx:Nat) (K:DV→Tr DObj→Nat→Prop)
theorem Ax7 (d1 d2:DV) (x y:PArr) (hn:n0≤nx) (h1:AR hp (Bl n0) d1 x) (h2:AR hp (Bl n0) d2 y) (hx:AOK x) (hy:AOK y)
  (hK:∀ hp' nx',Al hp nx hp' nx'→K (bv (sameA x y)) hp' nx'):KW (kN (k+8)) (.fn 25) [d1,d2] hp nx K:=by
 obtain ⟨d,a,c,rfl,r1,r2,r3⟩:=h1
 obtain ⟨d',a',c',rfl,s1,s2,s3⟩:=h2
 refine kn_1 (Aa3 (by decide)) t25 (Nat.le_of_ble_eq_true rfl) fun es e1 e2 he=>?_
 have a0:rawE es (.t .o)=.agg [d,a,c]:=he 0 _ rfl
 have a1:rawE es (.t (.l .o))=.agg [d',a',c']:=he 1 _ rfl
 unfold r25
 subst e1 e2
 simp only [↓bSb]
 refine Ac1 (cs:=[d,a,c]) (by rw [evt,a0]; exact AR.live r1 r2 r3) fun hp1 hg1 hk1=>?_
 simp only [bR] at hg1 hk1
 have hal1:Al es.hp es.nx hp1 (es.nx+1):=⟨by omega,fun j hj=>hk1 j (by omega)⟩
 simp only [bSa,↓bSb]
 refine Ac1 (cs:=[d',a',c']) (by simp only [evt,bR,reduceCtorEq,a1]; exact AR.live (s1.ka hn hal1) (s2.ka hn hal1) (s3.ka hn hal1)) fun hp2 hg2 hk2=>?_
 simp only [bR] at hg2 hk2
 have hal2:Al es.hp es.nx hp2 (es.nx+2):=⟨by omega,fun j hj=>by rw [hk2 j (by omega),hk1 j (by omega)]⟩
 have hg1':=(hk2 es.nx (by omega)).trans hg1
 have hrA:∀ {hp' nx'},Al es.hp es.nx hp' nx'→AR hp' (Bl n0) (.agg [d,a,c]) x:=fun h=>⟨d,a,c,rfl,r1.ka hn h,r2.ka hn h,r3.ka hn h⟩
 have hrB:∀ {hp' nx'},Al es.hp es.nx hp' nx'→AR hp' (Bl n0) (.agg [d',a',c']) y:=fun h=>⟨d',a',c',rfl,s1.ka hn h,s2.ka hn h,s3.ka hn h⟩
 obtain ⟨_,_,_,_,lA⟩:=Aa7 hg1'
 have no:∀ {hp' nx'},¬ (Aa5 x=0∧Aa5 y=0∧x=y)→Al es.hp es.nx hp' nx'→K (.v (.bool false)) hp' nx':=fun h ha=>by
  have hh:=hK _ _ ha
  unfold sameA at hh
  rw [decide_eq_false h] at hh
  exact hh
 simp only [bSa,↓bSb,reduceCtorEq,lA]
 refine kws (Aq2 (k:=k) n0 _ _ _ _ x (by omega) (hrA hal2) hx fun hp3 nx3 hal3=>?_)
 have hle3:=hal3.le
 have ha3:=hal2.trans hal3
 have hgB3:=(hal3.same (es.nx+1) (by omega)).trans hg2
 have hgA3:=(hal3.same es.nx (by omega)).trans hg1'
 obtain ⟨_,_,_,_,lB3⟩:=Aa7 hgB3
 by_cases c1:Aa5 x=0
 ·simp only [bSa,↓bSb,reduceCtorEq,show decide (¬ Aa5 x=0)=false by simp [c1],lB3]
  refine kws (Aq2 (k:=k) n0 _ _ _ _ y (by omega) (hrB ha3) hy fun hp4 nx4 hal4=>?_)
  have hle4:=hal4.le
  have ha4:=ha3.trans hal4
  have hgB4:=(hal4.same (es.nx+1) (by omega)).trans hgB3
  have hgA4:=(hal4.same es.nx (by omega)).trans hgA3
  obtain ⟨⟨fA0,fA1,fA2⟩,lA0,lA1,lA2,_⟩:=Aa7 hgA4
  obtain ⟨⟨fB0,fB1,fB2⟩,lB0,lB1,lB2,_⟩:=Aa7 hgB4
  by_cases c2:Aa5 y=0
  ·simp only [bSa,↓bSb,reduceCtorEq,show decide (¬ Aa5 y=0)=false by simp [c2],fA0,fB0,lA0,lB0]
   refine kws (Cb1 (k:=k+6) n0 _ _ _ d d' _ _ (by omega) (r1.ka hn ha4) (s1.ka hn ha4) hx.d fun nx5 hle5=>?_)
   by_cases c3:x.dims=y.dims
   ·simp only [bSa,↓bSb,reduceCtorEq,decide_eq_true c3,fA1,fB1,lA1,lB1]
    refine kws (Cb2 (k:=k+6) n0 _ _ _ a a' _ _ (by omega) (r2.ka hn ha4) (s2.ka hn ha4) hx.a fun nx6 hle6=>?_)
    by_cases c4:x.attrs=y.attrs
    ·simp only [bSa,↓bSb,reduceCtorEq,decide_eq_true c4,fA2,fB2,lA2,lB2]
     refine kws (Cl7 (k:=k+4) n0 _ _ _ c c' x.cells y.cells (by omega) (r3.ka hn ha4) (s3.ka hn ha4) hx.c (fun e he=>⟨(hx.e e he).1,(hx.e e he).2.1⟩) fun hp7 nx7 hal7=>?_)
     have hle7:=hal7.le
     have ha7:Al es.hp es.nx hp7 nx7:=⟨by omega,fun j hj=>(hal7.same j (by omega)).trans (ha4.same j hj)⟩
     have hh:=hK _ _ ha7
     have e:sameA x y=decide (x.cells=y.cells):=by
      refine decide_eq_decide.2 ⟨fun h=>by rw [h.2.2],fun h=>⟨c1,c2,?_⟩⟩
      cases x
      cases y
      simp only at c3 c4 h
      rw [c3,c4,h]
     rw [e] at hh
     simp only [bSa,↓bSb,bP,reduceCtorEq]
     exact hh
    ·simp only [bSa,↓bSb,bP,reduceCtorEq,decide_eq_false c4]
     exact no (fun h=>c4 (by rw [h.2.2])) (ha4.nx (by omega))
   ·simp only [bSa,↓bSb,bP,reduceCtorEq,decide_eq_false c3]
    exact no (fun h=>c3 (by rw [h.2.2])) (ha4.nx (by omega))
  ·simp only [bSa,↓bSb,bP,reduceCtorEq,show decide (¬ Aa5 y=0)=true by simp [c2]]
   exact no (fun h=>c2 h.2.1) ha4
 ·simp only [bSa,↓bSb,bP,reduceCtorEq,show decide (¬ Aa5 x=0)=true by simp [c1]]
  exact no (fun h=>c1 h.1) ha3
end
end Go.DD

/- Plain: Delta and Apply, there and back. -/
namespace Go.DD
open Go Go.Proofs Go.Sort
theorem Bi9 {x y:PArr} (hx:Aa5 x=0) (hy:Aa5 y=0):onF (btw (walkL [x.cells,y.cells])) x.cells=y.cells:=by
 have hA:=(Aa8 hx).1
 have hB:=(Aa8 hy).1
 obtain ⟨d1,d2⟩:=Ag6 hA hB
 refine A44 (Bb9 d1 hA) hB fun e=>?_
 rw [Bx8 d1 hA e]
 constructor
 ·rintro (⟨h1,h2⟩ | ⟨h1,h2⟩)
  ·have hs:Ab0 x.cells e.pos=Ab0 y.cells e.pos:=Decidable.byContradiction fun hne=>h2 ⟨e.pos,Ab0 y.cells e.pos⟩ ((d2 _).2 ⟨⟨e,.inl h1,rfl⟩,hne,rfl⟩) rfl
   rw [A89 hA h1] at hs
   have:=Am8 (A:=y.cells) (p:=e.pos) (by rw [← hs]; exact Aj8 hx e h1)
   rw [← hs] at this
   exact this
  ·obtain ⟨_,_,h3⟩:=(d2 e).1 h1
   have:=Am8 (A:=y.cells) (p:=e.pos) (by rw [← h3]; exact h2)
   rw [← h3] at this
   exact this
 ·intro h
  have hs:=A89 hB h
  have hv:=Aj8 hy e h
  by_cases c:Ab0 x.cells e.pos=Ab0 y.cells e.pos
  ·refine .inl ⟨?_,fun c' hc' he=>?_⟩
   ·have:=Am8 (A:=x.cells) (p:=e.pos) (by rw [c,hs]; exact hv)
    rw [c,hs] at this
    exact this
   ·obtain ⟨_,h3,_⟩:=(d2 c').1 hc'
    rw [he] at h3
    exact h3 c
  ·exact .inr ⟨(d2 e).2 ⟨⟨e,.inr h,rfl⟩,c,hs.symm⟩,hv⟩
theorem Bx9 {d:List PDim} {a:List PAttr} : ∀ {l:List PCell},(∀ c∈l,chgE d a c=0)→chgsE d a l=0
 | [],_=>rfl
 | c :: l,h=>by
  unfold chgsE
  rw [if_neg (by rw [h c (by simp)]; decide)]
  exact Bx9 fun c hc=>h c (List.mem_cons_of_mem _ hc)
theorem Ax8 {d:List PDim} {a:List PAttr} {c:PCell} (h:cellE d a c=0):c.pos.length=d.length∧c.vals.length=a.length∧ofF d c.pos=true∧fitsL c.vals a=true:=by
 unfold cellE at h
 by_cases h1:c.pos.length≠d.length∨c.vals.length≠a.length
 ·rw [if_pos h1] at h; cases h
 ·rw [if_neg h1] at h
  by_cases h2:ofB d c.pos=false
  ·rw [if_pos h2] at h; cases h
  ·rw [if_neg h2] at h
   by_cases h3:fitsL c.vals a=false
   ·rw [if_pos h3] at h; cases h
   ·have e1:c.pos.length=d.length:=by omega
    refine ⟨e1,by omega,?_,by simpa using h3⟩
    unfold ofB at h2
    rw [decide_eq_true e1] at h2
    simpa using h2
theorem A45 {x y:PArr} (h:Am7 x y=true):y.dims=x.dims∧y.attrs=x.attrs:=by
 unfold Am7 at h
 rw [Bool.and_eq_true] at h
 exact ⟨(of_decide_eq_true h.1).symm,(of_decide_eq_true h.2).symm⟩
theorem By0 (x y:PArr):Am7 y x=Am7 x y:=by
 unfold Am7
 congr 1 <;> exact decide_eq_decide.2 ⟨Eq.symm,Eq.symm⟩
theorem Az9 (x y:PArr):Ac5 y x=Ac5 x y:=by
 unfold Ac5
 rw [By0]
 by_cases h:Aa5 x≠0∨Aa5 y≠0
 ·rw [if_pos h,if_pos h.symm]
 ·rw [if_neg h,if_neg fun h'=>h h'.symm]
theorem Ak7 {x y:PArr} (h:Ac5 x y=0):Aa5 x=0∧Aa5 y=0∧Am7 x y=true∧Ab1 x y=btw (walkL [x.cells,y.cells]):=by
 unfold Ac5 at h
 by_cases h1:Aa5 x≠0∨Aa5 y≠0
 ·rw [if_pos h1] at h; cases h
 ·rw [if_neg h1] at h
  by_cases h2:Am7 x y=false
  ·rw [if_pos h2] at h; cases h
  ·refine ⟨Decidable.byContradiction fun h=>h1 (.inl h),Decidable.byContradiction fun h=>h1 (.inr h),by simpa using h2,?_⟩
   unfold Ab1
   rw [if_neg h1,if_neg h2]
theorem By1 {x y:PArr} (h:Ac5 x y≠0):Ab1 x y=[]:=by
 unfold Ac5 at h
 unfold Ab1
 by_cases h1:Aa5 x≠0∨Aa5 y≠0
 ·rw [if_pos h1]
 ·rw [if_neg h1] at h ⊢
  by_cases h2:Am7 x y=false
  ·rw [if_pos h2]
  ·rw [if_neg h2] at h; exact absurd rfl h
theorem B47 {x y:PArr} (h:Ac5 x y=0):chgsE x.dims x.attrs (Ab1 x y)=0:=by
 obtain ⟨hx,hy,ha,e⟩:=Ak7 h
 obtain ⟨e1,e2⟩:=A45 ha
 obtain ⟨hA,hxa,_⟩:=Aa8 hx
 obtain ⟨hB,hya,_⟩:=Aa8 hy
 rw [e1,e2] at hya
 obtain ⟨d1,d2⟩:=Ag6 hA hB
 refine Bx9 fun c hc=>?_
 rw [e] at hc
 obtain ⟨⟨u,hu,hup⟩,_,hv⟩:=(d2 c).1 hc
 have hcu:cellE x.dims x.attrs u=0:=hu.elim (hxa u) (hya u)
 obtain ⟨p1,_,p3,_⟩:=Ax8 hcu
 rw [hup] at p1 p3
 unfold chgE
 by_cases hn:c.vals=[]
 ·rw [hn,if_neg (by simp [p1]),if_neg (by rw [p3]; decide),if_neg (by cases x.attrs <;> simp [fitsL])]
 ·have hm:=Am8 (A:=y.cells) (p:=c.pos) (by rw [← hv]; exact hn)
  rw [← hv] at hm
  obtain ⟨_,q2,_,q4⟩:=Ax8 (hya _ hm)
  have q2':c.vals.length=x.attrs.length:=q2
  have q4':fitsL c.vals x.attrs=true:=q4
  rw [if_neg (by omega),if_neg (by rw [p3]; decide),if_neg (by rw [q4']; decide)]
theorem A00 {x y r:PArr} {e:Int} (h:Ac5 x y=0) (hr:ApR x (Ab1 x y) e r):e=0∧r=y:=by
 obtain ⟨hx,hy,ha,ed⟩:=Ak7 h
 have hc:=B47 h
 obtain ⟨e1,e2⟩:=A45 ha
 obtain ⟨d1,_⟩:=Ag6 (Aa8 hx).1 (Aa8 hy).1
 have hnd:((Ab1 x y).map PCell.pos).Nodup:=by rw [ed]; exact A88 d1
 rcases hr with ⟨h1,_⟩ | ⟨_,h1,_⟩ | ⟨_,_,h1,_⟩ | ⟨_,_,_,h1,m,hm,hs,h2⟩
 ·exact absurd hx h1
 ·exact absurd hc h1
 ·exact absurd hnd h1
 ·refine ⟨h1,?_⟩
  have:m=Ab1 x y:=A44 hs (by rw [ed]; exact d1) fun e=>hm.mem_iff
  rw [h2,this,ed,Bi9 hx hy,← e1,← e2]
theorem A46 {x y:PArr} (h:Ac5 x y=0):(Ab1 x y).map PCell.pos=(Ab1 y x).map PCell.pos:=by
 obtain ⟨hx,hy,ha,ed⟩:=Ak7 h
 obtain ⟨_,_,_,ed'⟩:=Ak7 ((Az9 x y).trans h)
 have hA:=(Aa8 hx).1
 have hB:=(Aa8 hy).1
 obtain ⟨d1,d2⟩:=Ag6 hA hB
 obtain ⟨f1,f2⟩:=Ag6 hB hA
 rw [ed,ed']
 refine Bu0 (List.pairwise_map.2 d1) (List.pairwise_map.2 f1) fun q=>?_
 rw [List.mem_map,List.mem_map]
 constructor
 ·rintro ⟨c,hc,rfl⟩
  obtain ⟨⟨e,he,h1⟩,h2,_⟩:=(d2 c).1 hc
  exact ⟨⟨c.pos,Ab0 x.cells c.pos⟩,(f2 _).2 ⟨⟨e,he.symm,h1⟩,Ne.symm h2,rfl⟩,rfl⟩
 ·rintro ⟨c,hc,rfl⟩
  obtain ⟨⟨e,he,h1⟩,h2,_⟩:=(f2 c).1 hc
  exact ⟨⟨c.pos,Ab0 y.cells c.pos⟩,(d2 _).2 ⟨⟨e,he.symm,h1⟩,Ne.symm h2,rfl⟩,rfl⟩
theorem B48 {x y:PArr} (h:Ac5 x y=0):(Ab1 x y).length=(Ab1 y x).length:=by
 have:=congrArg List.length (A46 h)
 simpa using this
theorem Bj0 {x y:PArr} (h:Ac5 x y=0):Ab1 x y=[]↔x=y:=by
 obtain ⟨hx,hy,ha,ed⟩:=Ak7 h
 obtain ⟨e1,e2⟩:=A45 ha
 constructor
 ·intro hn
  have:=Bi9 hx hy
  rw [← ed,hn] at this
  have this:x.cells=y.cells:=this
  cases x; cases y
  simp only [PArr.mk.injEq]
  exact ⟨e1.symm,e2.symm,this⟩
 ·intro he
  subst he
  have hA:=(Aa8 hx).1
  obtain ⟨_,d2⟩:=Ag6 hA hA
  rw [ed]
  refine List.eq_nil_iff_forall_not_mem.2 fun c hc=>?_
  exact ((d2 c).1 hc).2.1 rfl
theorem Bj1 {x y:PArr} (h:Ac5 x y=0):SrtL (Ab1 x y):=by
 obtain ⟨hx,hy,ha,ed⟩:=Ak7 h
 rw [ed]
 exact (Ag6 (Aa8 hx).1 (Aa8 hy).1).1
theorem same_eq {x y:PArr} (hx:Aa5 x=0) (hy:Aa5 y=0):sameA x y=decide (x=y):=by
 unfold sameA
 exact decide_eq_decide.2 ⟨fun h=>h.2.2,fun h=>⟨hx,hy,h⟩⟩
end Go.DD

/- VersionDeltas returns true: as a contract. Conditions: none. -/
namespace Go.DD
open Go Go.Proofs
def dArr (x:PArr):DV:=.agg [.sl (x.dims.flatMap rDim.cells) x.dims.length,.sl (x.attrs.flatMap rAttr.cells) x.attrs.length,.sl (x.cells.flatMap rCell.cells) x.cells.length]
theorem A90 {x:PArr} {most:Nat} (h:fewA x most=true):x.cells.length≤most:=by
 unfold fewA fewC at h
 simp only [Bool.and_eq_true,decide_eq_true_eq] at h
 exact h.2.1
theorem Cv4 {W:List (List Int×List (List PVal))} {c:PCell} (h:c∈btw W):∃ w∈W,c.pos=w.1∧c.vals∈w.2:=by
 obtain ⟨w,hw,hc⟩:=List.mem_flatMap.1 h
 refine ⟨w,hw,?_⟩
 unfold btw1 at hc
 split at hc
 ·rename_i u v e
  split at hc
  ·cases hc
  ·obtain rfl:=List.mem_singleton.1 hc
   exact ⟨rfl,by rw [e]; simp⟩
 ·cases hc
theorem A91 {x y:PArr} (hx:AOK x) (hy:AOK y) (hc1:x.cells.length≤40) (hc2:y.cells.length≤40):(Ab1 x y).length < 900000∧∀ c∈Ab1 x y,c.pos.length < 900000∧c.vals.length < 900000:=by
 have hcell:∀ h∈[x.cells,y.cells],∀ c∈h,c.pos.length < 900000∧c.vals.length < 900000:=fun h hh c hc=>by
  simp only [List.mem_cons,List.not_mem_nil,or_false] at hh
  rcases hh with rfl | rfl
  ·exact ⟨(hx.e c hc).1,(hx.e c hc).2.1⟩
  ·exact ⟨(hy.e c hc).1,(hy.e c hc).2.1⟩
 unfold Ab1
 split
 ·exact ⟨by simp,fun c h=>by cases h⟩
 ·split
  ·exact ⟨by simp,fun c h=>by cases h⟩
  ·have h1:=Bb4 (walkL [x.cells,y.cells])
   have h2:(walkL [x.cells,y.cells]).length≤tot [x.cells,y.cells]:=Ax1
   have h3:tot [x.cells,y.cells]=x.cells.length+y.cells.length:=by simp [tot]
   refine ⟨by omega,fun c hc=>?_⟩
   obtain ⟨w,hw,e1,e2⟩:=Cv4 hc
   obtain ⟨_,⟨h,hh,b,hb,e3⟩,g3⟩:=Bi1 w hw
   refine ⟨by rw [e1,← e3]; exact (hcell h hh b hb).1,?_⟩
   rcases g3 _ e2 with e | ⟨h,hh,b,hb,e⟩
   ·rw [e]; simp
   ·rw [e]; exact (hcell h hh b hb).2
end Go.DD

/- VersionBack returns true: as a contract. Conditions: none. -/
namespace Go.DD
open Go Go.Proofs Go.Sort
theorem By2 {x y:PArr} (h:Ac5 x y=0) (hx:AOK x) (hy:AOK y):∀ c∈Ab1 x y,c.pos.length < 900000∧c.vals.length < 900000∧∀ v∈c.vals,slen v:=fun c hc=>by
 obtain ⟨cx,cy,_,e⟩:=Ak7 h
 rw [e] at hc
 obtain ⟨⟨u,hu,hup⟩,_,hv⟩:=((Ag6 (Aa8 cx).1 (Aa8 cy).1).2 c).1 hc
 have h1:c.pos.length < 900000:=by rw [← hup]; exact hu.elim (fun h=>(hx.e u h).1) fun h=>(hy.e u h).1
 by_cases hn:c.vals=[]
 ·rw [hn]; exact ⟨h1,by simp,fun v hv=>by cases hv⟩
 ·have hm:=Am8 (A:=y.cells) (p:=c.pos) (by rw [← hv]; exact hn)
  rw [← hv] at hm
  exact ⟨h1,(hy.e _ hm).2⟩
theorem ext_a {hp:Tr DObj} {p:Nat→Prop} {x1 x2 x3:DV} {X:PArr} {e:Int} (v1:RL rDim hp p x1 X.dims) (v2:RL rAttr hp p x2 X.attrs) (v3:RL rCell hp p x3 X.cells):extD hp (.tup [.agg [x1,x2,x3],iv e]) 0=some (.agg [x1,x2,x3]):=Ao5 fun id hid=>by
 have:id∈x1.refs∨id∈x2.refs∨id∈x3.refs:=by simpa [DV.refs,DV.refsL,iv] using hid
 rcases this with h1 | h1 | h1
 ·exact (v1.refs id h1).2
 ·exact (v2.refs id h1).2
 ·exact (v3.refs id h1).2
theorem AR.fwd {hp hp':Tr DObj} {n n':Nat} {D:DV} {X:PArr} (h:AR hp (Bl n) D X) (ha:Al hp n hp' n'):AR hp' (Bl n') D X:=by
 obtain ⟨a,b,c,rfl,h1,h2,h3⟩:=h
 exact ⟨a,b,c,rfl,(h1.ka (Nat.le_refl _) ha).bl ha.le,(h2.ka (Nat.le_refl _) ha).bl ha.le,(h3.ka (Nat.le_refl _) ha).bl ha.le⟩
theorem By3 {k n0:Nat} {es:ES} {Q:Exit→ES→Prop} {u v:DV} {l m:List PCell} (hn:n0≤es.nx) (hu:RL rChange es.hp (Bl n0) u l) (hv:RL rChange es.hp (Bl n0) v m) (hl:l.length < 900000) (hs:SrtL l) (hpm:l.map PCell.pos=m.map PCell.pos) (hb:∀ c∈l,c.pos.length < 900000) (b5:rawE es (.t (.l (.r .o)))=u) (b7:rawE es (.t (.l (.l (.l .o))))=v) (b11:rawE es (.t (.l (.l (.r .o))))=iv (1:Nat))
  (hQ:∀ es',Al es.hp es.nx es'.hp es'.nx→Q (.exit 0) es'):EW (cL 1000000 l8_1) (kN (k+5)) es Q:=by
 have hlm:l.length=m.length:=by have:=congrArg List.length hpm; simpa using this
 refine EW.up l.length (fun i es1=>Al es.hp es.nx es1.hp es1.nx∧rawE es1 (.t (.l (.r .o)))=u∧rawE es1 (.t (.l (.l (.l .o))))=v∧rawE es1 (.t (.l (.l (.r .o))))=iv (i+1:Nat)) ?_ ⟨Al.refl _ _,b5,b7,b11⟩ (by omega)
 rintro i es1 hi ⟨g,b5,b7,b11⟩
 unfold l8_1
 have hle:=g.le
 have r:=hu.ka hn g
 have q:=hv.ka hn g
 by_cases h:i+1 < l.length
 ·obtain ⟨pA,vA,rA,_,_,lA,_⟩:=As2 r (show i < l.length by omega)
  obtain ⟨pB,vB,rB,_,_,lB,_⟩:=As2 r h
  obtain ⟨pC,vC,rC,_,_,lC,_⟩:=As2 q (show i+1 < m.length by omega)
  have hd:binD .sub (.v (.int .i64 ((i+1:Nat):Int))) (.v (.int .i64 1))=some (.v (.int .i64 (i:Int))):=Af8 (i+1) (by omega) (by omega)
  have h1:cmpL l[i].pos l[i+1].pos = -1:=List.pairwise_iff_getElem.1 hs i (i+1) (by omega) h (by omega)
  have h2:cmpL l[i+1].pos m[i+1].pos=0:=by
   have e:(l.map PCell.pos)[i+1]'(by simpa using h)=(m.map PCell.pos)[i+1]'(by simpa [← hlm] using h):=by congr 1
   simp only [List.getElem_map] at e
   rw [e]; exact Ac2 _
  simp only [bSa,↓bSb,reduceCtorEq,b5,b11,r.len,h,hd,Ad5 r (show i < l.length by omega),Ad5 r h,Az5 (k:=0) r (show i < l.length by omega),Az5 (k:=0) r h,lA,lB,r.rox (m:=27) (show n0≤es1.nx by omega),A36 (m:=27) r (show n0≤es1.nx by omega),A37 (m:=27) r (show n0≤es1.nx by omega),rA.rox (m:=27) (show n0≤es1.nx by omega),rB.rox (m:=27) (show n0≤es1.nx by omega)]
  refine Aa0 rfl (Ad1 ?_)
  simp only [bR,reduceCtorEq,List.map_cons,List.map_nil]
  refine Ad8 (k+1) n0 _ _ _ pA pB l[i].pos l[i+1].pos (by omega) rA rB (hb _ (List.getElem_mem _)) ?_
  simp only [bSa,↓bSb,reduceCtorEq,b5,b7,b11,h1,show decide (¬ (-1:Int) = -1)=false from rfl,Ad5 r h,Ad5 q (show i+1 < m.length by omega),Az5 (k:=0) r h,Az5 (k:=0) q (show i+1 < m.length by omega),lB,lC,r.rox (m:=27) (show n0≤es1.nx by omega),q.rox (m:=27) (show n0≤es1.nx by omega),A36 (m:=27) r (show n0≤es1.nx by omega),A37 (m:=27) r (show n0≤es1.nx by omega),A36 (m:=27) q (show n0≤es1.nx by omega),A37 (m:=27) q (show n0≤es1.nx by omega),rB.rox (m:=27) (show n0≤es1.nx by omega),rC.rox (m:=27) (show n0≤es1.nx by omega)]
  refine Aa0 rfl (Ad1 ?_)
  simp only [bR,reduceCtorEq,List.map_cons,List.map_nil]
  refine Ad8 (k+1) n0 _ _ _ pB pC l[i+1].pos m[i+1].pos (by omega) rB rC (hb _ (List.getElem_mem _)) ?_
  simp only [bSa,↓bSb,reduceCtorEq,b5,b7,b11,h2,show decide (¬ (0:Int)=0)=false from rfl,Aa2 (show i+1 < _ by omega)]
  exact ⟨by omega,g.nx (show es1.nx≤es1.nx+27 by omega)⟩
 ·simp only [bSa,↓bSb,reduceCtorEq,b5,b11,r.len,h]
  exact hQ _ (by simpa only [bR,reduceCtorEq] using g)
theorem B49 (x y:PArr):Known Tryz.prog 8 [dArr x,dArr y] (.v (.bool true)):=by
 refine Known.run1 mixed te_ok (Bg7 (n:=1000000) mixed te_ok Ci1 20) t8 (Nat.le_of_ble_eq_true rfl) (fun x hx=>?_) rfl (fun _=>Ch1 rfl) fun es he=>?_
 ·simp only [List.mem_cons,List.mem_nil_iff,or_false] at hx
  rcases hx with rfl | rfl <;> rfl
 have a0:rawE es (.t .o)=dArr x:=he 0 _ rfl
 have a1:rawE es (.t (.l .o))=dArr y:=he 1 _ rfl
 have ar:∀ (z:PArr) (hp:Tr DObj),∃ a b c,dArr z=.agg [a,b,c]∧RL rDim hp (Bl 0) a z.dims∧RL rAttr hp (Bl 0) b z.attrs∧RL rCell hp (Bl 0) c z.cells:=fun z hp=>⟨_,_,_,rfl,.sl _,.sl _,.sl _⟩
 obtain ⟨d,a,c,e1,r1,r2,r3⟩:=ar x es.hp
 obtain ⟨d',a',c',e2,s1,s2,s3⟩:=ar y es.hp
 rw [e1] at a0
 rw [e2] at a1
 unfold r8
 have hn:0≤es.nx:=Nat.zero_le _
 simp only [↓bSb]
 refine Ac1 (cs:=[d,a,c]) (by rw [evt,a0]; exact AR.live r1 r2 r3) fun hp1 hg1 hk1=>?_
 simp only [bR] at hg1 hk1
 have hal1:Al es.hp es.nx hp1 (es.nx+1):=⟨by omega,fun j hj=>hk1 j (by omega)⟩
 simp only [bSa,↓bSb]
 refine Ac1 (cs:=[d',a',c']) (by simp only [evt,bR,reduceCtorEq,a1]; exact AR.live (s1.ka hn hal1) (s2.ka hn hal1) (s3.ka hn hal1)) fun hp2 hg2 hk2=>?_
 simp only [bR] at hg2 hk2
 have hal2:Al es.hp es.nx hp2 (es.nx+2):=⟨by omega,fun j hj=>by rw [hk2 j (by omega),hk1 j (by omega)]⟩
 have qA:hp2.get es.nx=some (.row 26 [d,a,c]):=by rw [hk2 _ (by omega),hg1]
 have qB:hp2.get (es.nx+1)=some (.row 26 [d',a',c']):=hg2
 have hrA:∀ {hp' nx'},Al es.hp es.nx hp' nx'→AR hp' (Bl 0) (.agg [d,a,c]) x:=fun h=>⟨d,a,c,rfl,r1.ka hn h,r2.ka hn h,r3.ka hn h⟩
 have hrB:∀ {hp' nx'},Al es.hp es.nx hp' nx'→AR hp' (Bl 0) (.agg [d',a',c']) y:=fun h=>⟨d',a',c',rfl,s1.ka hn h,s2.ka hn h,s3.ka hn h⟩
 have LA:∀ {hp':Tr DObj},(∀ j,j < es.nx+2→hp'.get j=hp2.get j)→ldD hp' (some 3) (.pt es.nx 0)=some (.agg [d,a,c]):=fun h=>(Aa7 ((h es.nx (by omega)).trans qA)).2.2.2.2
 have LB:∀ {hp':Tr DObj},(∀ j,j < es.nx+2→hp'.get j=hp2.get j)→ldD hp' (some 3) (.pt (es.nx+1) 0)=some (.agg [d',a',c']):=fun h=>(Aa7 ((h (es.nx+1) (by omega)).trans qB)).2.2.2.2
 simp only [bSa,↓bSb,reduceCtorEq,LA fun _ _=>rfl]
 refine kws (Cb4 17 _ _ _ _ x 40 0 (by omega) (hrA hal2) (by omega) fun hp3 nx3 hal3=>?_)
 have hle3:=hal3.le
 have ha3:=hal2.trans hal3
 have k3:∀ j,j < es.nx+2→hp3.get j=hp2.get j:=fun j hj=>hal3.same j hj
 cases c1:fewA x 40 with
 | false=>
  simp only [bSa,↓bSb,reduceCtorEq]
  refine kws (Aq0 19 _ _ _ ?_)
  simp only [bSa,↓bSb,bP,reduceCtorEq]
 | true=>
  simp only [bSa,↓bSb,reduceCtorEq,LB k3]
  refine kws (Cb4 17 _ _ _ _ y 40 0 (by omega) (hrB ha3) (by omega) fun hp4 nx4 hal4=>?_)
  have hle4:=hal4.le
  have ha4:=ha3.trans hal4
  have k4:∀ j,j < es.nx+2→hp4.get j=hp2.get j:=fun j hj=>(hal4.same j (by omega)).trans (k3 j hj)
  cases c2:fewA y 40 with
  | false=>
   simp only [bSa,↓bSb,reduceCtorEq]
   refine kws (Aq0 19 _ _ _ ?_)
   simp only [bSa,↓bSb,bP,reduceCtorEq]
  | true=>
   have hx:=Bt0 c1 (by omega)
   have hy:=Bt0 c2 (by omega)
   have hc1:=A90 c1
   have hc2:=A90 c2
   simp only [bSa,↓bSb,reduceCtorEq,LA k4,LB k4]
   refine kws (Bi2 7 0 _ _ _ _ _ x y (by omega) (hrA ha4) (hrB ha4) hx hy (by omega) fun hp5 nx5 u hal5 hu=>?_)
   have hle5:=hal5.le
   have ha5:=ha4.trans hal5
   have k5:∀ j,j < es.nx+2→hp5.get j=hp2.get j:=fun j hj=>(hal5.same j (by omega)).trans (k4 j hj)
   have x0:extD hp5 (.tup [u,iv (Ac5 x y)]) 0=some u:=Ao5 fun id hid=>(hu.refs id (by simpa [DV.refsL,DV.refs] using hid)).2
   have x1:extD hp5 (.tup [u,iv (Ac5 x y)]) 1=some (iv (Ac5 x y)):=ext21
   simp only [bSa,↓bSb,reduceCtorEq,x0,x1,LA k5,LB k5]
   refine kws (Bi2 7 0 _ _ _ _ _ y x (by omega) (hrB ha5) (hrA ha5) hy hx (by omega) fun hp6 nx6 v hal6 hv=>?_)
   have hle6:=hal6.le
   have ha6:=ha5.trans hal6
   have k6:∀ j,j < es.nx+2→hp6.get j=hp2.get j:=fun j hj=>(hal6.same j (by omega)).trans (k5 j hj)
   have hu6:RL rChange hp6 (Bl nx6) u (Ab1 x y):=(hu.ka (Nat.le_refl _) hal6).bl (show nx5≤nx6 by omega)
   have hsym:=Az9 x y
   have y0:extD hp6 (.tup [v,iv (Ac5 x y)]) 0=some v:=Ao5 fun id hid=>(hv.refs id (by simpa [DV.refsL,DV.refs] using hid)).2
   have y1:extD hp6 (.tup [v,iv (Ac5 x y)]) 1=some (iv (Ac5 x y)):=ext21
   by_cases h0:Ac5 x y=0
   ·have h0':Ac5 y x=0:=hsym.trans h0
    obtain ⟨cx,cy,_,_⟩:=Ak7 h0
    obtain ⟨hl,hle⟩:=A91 hx hy hc1 hc2
    obtain ⟨hl',hle'⟩:=A91 hy hx hc2 hc1
    simp only [bSa,↓bSb,reduceCtorEq,y0,y1,hsym,show decide (¬ Ac5 x y=0)=false by simp [h0],LA k6]
    have hdl:∀ {u w:PArr},Ac5 u w=0→(Ab1 u w).length≤u.cells.length+w.cells.length:=fun {u w} h=>by
     obtain ⟨_,_,_,e⟩:=Ak7 h
     have h1:=Bb4 (walkL [u.cells,w.cells])
     have h2:(walkL [u.cells,w.cells]).length≤tot [u.cells,w.cells]:=Ax1
     have h3:tot [u.cells,w.cells]=u.cells.length+w.cells.length:=by simp [tot]
     rw [e]; omega
    have hd1:=hdl h0
    have hd2:=hdl h0'
    refine kws (Bi8 1 nx6 _ _ _ _ u x (Ab1 x y) (Nat.le_refl _) ⟨d,a,c,rfl,(r1.ka hn ha6).bl (Nat.zero_le _),(r2.ka hn ha6).bl (Nat.zero_le _),(r3.ka hn ha6).bl (Nat.zero_le _)⟩ hu6 hx (by omega) (By2 h0 hx hy) fun hp7 nx7 dx rx ex hal7 har7 hapx=>?_)
    obtain ⟨rfl,hrx⟩:=A00 h0 hapx
    rw [hrx] at har7
    obtain ⟨p1,p2,p3,rfl,v1,v2,v3⟩:=har7
    have hle7:=hal7.le
    have ha7:=ha6.trans hal7
    have k7:∀ j,j < es.nx+2→hp7.get j=hp2.get j:=fun j hj=>(hal7.same j (by omega)).trans (k6 j hj)
    have z0:=ext_a (e:=0) v1 v2 v3
    have z1:extD hp7 (.tup [.agg [p1,p2,p3],iv 0]) 1=some (iv 0):=ext21
    simp only [bSa,↓bSb,reduceCtorEq,z0,z1]
    refine Ad6 fun hp8 hg8 hk8=>?_
    simp only [bR] at hg8 hk8
    have w1:=v1.keep (hp':=hp8) fun j hj=>hk8 j (by have:=hj.2; omega)
    have w2:=v2.keep (hp':=hp8) fun j hj=>hk8 j (by have:=hj.2; omega)
    have w3:=v3.keep (hp':=hp8) fun j hj=>hk8 j (by have:=hj.2; omega)
    simp only [bSa,↓bSb]
    refine Ae2 (n:=3) (id:=nx7) (ds:=[p1,p2,p3]) (by simp only [bR]) hg8 (by simp only [evt,bR,reduceCtorEq]; exact AR.live w1 w2 w3) rfl rfl fun hp9 hg9 hk9=>?_
    simp only [bR] at hg9 hk9
    have hal9:Al hp7 nx7 hp9 (nx7+1):=⟨by omega,fun j hj=>by rw [hk9 j (by omega),hk8 j (by omega)]⟩
    have ha9:=ha7.trans hal9
    have k9:∀ j,j < es.nx+2→hp9.get j=hp2.get j:=fun j hj=>(hal9.same j (by omega)).trans (k7 j hj)
    have hu9:RL rChange hp9 (Bl (nx7+1)) u (Ab1 x y):=((hu6.ka (Nat.le_refl _) hal7).bl (show nx6≤nx7 by omega)).ka (Nat.le_refl _) hal9 |>.bl (by omega)
    have hv9:RL rChange hp9 (Bl (nx7+1)) v (Ab1 y x):=((hv.ka (Nat.le_refl _) hal7).bl (show nx6≤nx7 by omega)).ka (Nat.le_refl _) hal9 |>.bl (by omega)
    simp only [bSa,↓bSb,reduceCtorEq,LB k9]
    refine kws (Bi8 1 (nx7+1) _ _ _ _ v y (Ab1 y x) (Nat.le_refl _) ⟨d',a',c',rfl,(s1.ka hn ha9).bl (Nat.zero_le _),(s2.ka hn ha9).bl (Nat.zero_le _),(s3.ka hn ha9).bl (Nat.zero_le _)⟩ hv9 hy (by omega) (By2 h0' hy hx) fun hp10 nx10 dy ry ey hal10 har10 hapy=>?_)
    obtain ⟨rfl,hry⟩:=A00 h0' hapy
    rw [hry] at har10
    obtain ⟨q1,q2,q3,rfl,x1',x2',x3'⟩:=har10
    have hle10:=hal10.le
    have z2:=ext_a (e:=0) x1' x2' x3'
    have z3:extD hp10 (.tup [.agg [q1,q2,q3],iv 0]) 1=some (iv 0):=ext21
    simp only [bSa,↓bSb,reduceCtorEq,z2,z3]
    refine Ad6 fun hp11 hg11 hk11=>?_
    simp only [bR] at hg11 hk11
    have t1:=x1'.keep (hp':=hp11) fun j hj=>hk11 j (by have:=hj.2; omega)
    have t2:=x2'.keep (hp':=hp11) fun j hj=>hk11 j (by have:=hj.2; omega)
    have t3:=x3'.keep (hp':=hp11) fun j hj=>hk11 j (by have:=hj.2; omega)
    simp only [bSa,↓bSb]
    refine Ae2 (n:=3) (id:=nx10) (ds:=[q1,q2,q3]) (by simp only [bR]) hg11 (by simp only [evt,bR,reduceCtorEq]; exact AR.live t1 t2 t3) rfl rfl fun hp12 hg12 hk12=>?_
    simp only [bR] at hg12 hk12
    have hal12:Al hp10 nx10 hp12 (nx10+1):=⟨by omega,fun j hj=>by rw [hk12 j (by omega),hk11 j (by omega)]⟩
    have hB12:Al hp9 (nx7+1) hp12 (nx10+1):=hal10.trans hal12
    have ha12:=ha9.trans hB12
    have k12:∀ j,j < es.nx+2→hp12.get j=hp2.get j:=fun j hj=>(hB12.same j (by omega)).trans (k9 j hj)
    have w19:=(w1.keep (hp':=hp9) fun j hj=>hk9 j (by have:=hj.2; omega)).mono (q:=Bl (nx7+1)) fun j hj=>by have:=hj.2; show j < nx7+1; omega
    have w29:=(w2.keep (hp':=hp9) fun j hj=>hk9 j (by have:=hj.2; omega)).mono (q:=Bl (nx7+1)) fun j hj=>by have:=hj.2; show j < nx7+1; omega
    have w39:=(w3.keep (hp':=hp9) fun j hj=>hk9 j (by have:=hj.2; omega)).mono (q:=Bl (nx7+1)) fun j hj=>by have:=hj.2; show j < nx7+1; omega
    have hX:AR hp12 (Bl (nx10+1)) (.agg [p1,p2,p3]) y:=⟨p1,p2,p3,rfl,(w19.ka (Nat.le_refl _) hB12).bl (by omega),(w29.ka (Nat.le_refl _) hB12).bl (by omega),(w39.ka (Nat.le_refl _) hB12).bl (by omega)⟩
    have hY:AR hp12 (Bl (nx10+1)) (.agg [q1,q2,q3]) x:=⟨q1,q2,q3,rfl,(t1.keep (hp':=hp12) fun j hj=>hk12 j (by have:=hj.2; omega)).mono fun j hj=>by have:=hj.2; show j < nx10+1; omega,(t2.keep (hp':=hp12) fun j hj=>hk12 j (by have:=hj.2; omega)).mono fun j hj=>by have:=hj.2; show j < nx10+1; omega,(t3.keep (hp':=hp12) fun j hj=>hk12 j (by have:=hj.2; omega)).mono fun j hj=>by have:=hj.2; show j < nx10+1; omega⟩
    have gX:hp12.get nx7=_:=(hB12.same nx7 (by omega)).trans hg9
    obtain ⟨_,_,_,_,lX⟩:=Aa7 gX
    have hu12:RL rChange hp12 (Bl (nx10+1)) u (Ab1 x y):=(hu9.ka (Nat.le_refl _) hB12).bl (by omega)
    have hv12:RL rChange hp12 (Bl (nx10+1)) v (Ab1 y x):=(hv9.ka (Nat.le_refl _) hB12).bl (by omega)
    have hA12:AR hp12 (Bl (nx10+1)) (.agg [d,a,c]) x:=⟨d,a,c,rfl,(r1.ka hn ha12).bl (Nat.zero_le _),(r2.ka hn ha12).bl (Nat.zero_le _),(r3.ka hn ha12).bl (Nat.zero_le _)⟩
    have hB12':AR hp12 (Bl (nx10+1)) (.agg [d',a',c']) y:=⟨d',a',c',rfl,(s1.ka hn ha12).bl (Nat.zero_le _),(s2.ka hn ha12).bl (Nat.zero_le _),(s3.ka hn ha12).bl (Nat.zero_le _)⟩
    have sx:sameA x x=true:=by rw [same_eq cx cx]; exact decide_eq_true rfl
    have sy:sameA y y=true:=by rw [same_eq cy cy]; exact decide_eq_true rfl
    have e0:decide (¬ ((0:Int)=0))=false:=rfl
    simp only [bSa,↓bSb,reduceCtorEq,lX,LB k12]
    refine kws (Ax7 12 (nx10+1) _ _ _ _ _ y y (Nat.le_refl _) hX hB12' hy hy fun hp13 nx13 hal13=>?_)
    have hle13:=hal13.le
    have kB13:∀ j,j < nx10+1→hp13.get j=hp12.get j:=fun j hj=>hal13.same j hj
    have k13:∀ j,j < es.nx+2→hp13.get j=hp2.get j:=fun j hj=>(kB13 j (by omega)).trans (k12 j hj)
    obtain ⟨_,_,_,_,lY⟩:=Aa7 ((kB13 nx10 (by omega)).trans hg12)
    simp only [bSa,↓bSb,reduceCtorEq,sy,lY,LA k13]
    refine kws (Ax7 12 nx13 _ _ _ _ _ x x (Nat.le_refl _) (hY.fwd hal13) (hA12.fwd hal13) hx hx fun hp14 nx14 hal14=>?_)
    have hle14:=hal14.le
    have hal134:=hal13.trans hal14
    have k14:∀ j,j < es.nx+2→hp14.get j=hp2.get j:=fun j hj=>(hal134.same j (by omega)).trans (k12 j hj)
    have hu14:RL rChange hp14 (Bl nx14) u (Ab1 x y):=(hu12.ka (Nat.le_refl _) hal134).bl (by omega)
    have hv14:RL rChange hp14 (Bl nx14) v (Ab1 y x):=(hv12.ka (Nat.le_refl _) hal134).bl (by omega)
    have hlen:=B48 h0
    simp only [bSa,↓bSb,reduceCtorEq,sx,hu14.len,hv14.len,hlen,LA k14,LB k14]
    refine kws (Ax7 12 nx14 _ _ _ _ _ x y (Nat.le_refl _) (hA12.fwd hal134) (hB12'.fwd hal134) hx hy fun hp15 nx15 hal15=>?_)
    have hle15:=hal15.le
    have hal15':=hal134.trans hal15
    have hu15:RL rChange hp15 (Bl nx15) u (Ab1 x y):=(hu12.ka (Nat.le_refl _) hal15').bl (by omega)
    have hv15:RL rChange hp15 (Bl nx15) v (Ab1 y x):=(hv12.ka (Nat.le_refl _) hal15').bl (by omega)
    have hdec:decide (((Ab1 y x).length:Int)=0)=sameA x y:=by
     rw [same_eq cx cy]
     refine decide_eq_decide.2 ⟨fun h=>(Bj0 h0).1 (List.length_eq_zero_iff.1 (by omega)),fun h=>?_⟩
     have:=(Bj0 h0).2 h
     rw [this] at hlen
     simp only [List.length_nil] at hlen
     omega
    cases hsm:sameA x y
    ·rw [hsm] at hdec
     have hbb:bbD true (.v (.bool false)) (.v (.bool false))=some (.v (.bool false)):=rfl
     simp only [bSa,↓bSb,bP,reduceCtorEq,hdec,hbb]
     refine By3 (k:=15) (n0:=nx15) (u:=u) (v:=v) (l:=Ab1 x y) (m:=Ab1 y x) (by simpa only [bR,reduceCtorEq] using Nat.le_refl _) (by simpa only [bR,reduceCtorEq] using hu15) (by simpa only [bR,reduceCtorEq] using hv15) (by omega) (Bj1 h0) (A46 h0) (fun c hc=>(hle c hc).1) (by simp only [bR,reduceCtorEq]) (by simp only [bR,reduceCtorEq]) (by simp only [bR]; rfl) fun es9 _=>?_
     simp only [bSa,↓bSb]
     refine kws (Aq0 19 _ _ _ ?_)
     simp only [bSa,↓bSb,bP,reduceCtorEq]
    ·rw [hsm] at hdec
     have hbb:bbD true (.v (.bool true)) (.v (.bool true))=some (.v (.bool false)):=rfl
     simp only [bSa,↓bSb,bP,reduceCtorEq,hdec,hbb]
     refine By3 (k:=15) (n0:=nx15) (u:=u) (v:=v) (l:=Ab1 x y) (m:=Ab1 y x) (by simpa only [bR,reduceCtorEq] using Nat.le_refl _) (by simpa only [bR,reduceCtorEq] using hu15) (by simpa only [bR,reduceCtorEq] using hv15) (by omega) (Bj1 h0) (A46 h0) (fun c hc=>(hle c hc).1) (by simp only [bR,reduceCtorEq]) (by simp only [bR,reduceCtorEq]) (by simp only [bR]; rfl) fun es9 _=>?_
     simp only [bSa,↓bSb]
     refine kws (Aq0 19 _ _ _ ?_)
     simp only [bSa,↓bSb,bP,reduceCtorEq]
   ·have h0':Ac5 y x≠0:=fun h=>h0 (hsym.symm.trans h)
    rw [By1 h0] at hu6
    rw [By1 h0'] at hv
    simp only [bSa,↓bSb,reduceCtorEq,y0,y1,hsym,show decide (¬ Ac5 x y=0)=true by simp [h0],hu6.len,hv.len,List.length_nil]
    refine kws (Aq0 19 _ _ _ ?_)
    simp only [bSa,↓bSb,bP,reduceCtorEq]
end Go.DD

/- What the model's memory reads as: structs, slices of structs, nested. Conditions: those that each theorem states. -/
namespace Go.DD
open Go Go.ChangeShapes Go.WideShapes Go.ChangeAt Go.RowKit
theorem lt_of_cell {W:World} {a:Addr} {v:Value} (h:W.cell? a=some v):a.block < W.heap.size:=by
 rcases Nat.lt_or_ge a.block W.heap.size with h' | h'
 ·exact h'
 ·simp [World.cell?,Array.getElem?_eq_none h'] at h
structure RC (W:World) (us:List Value) (ds:List DV):Prop where
 len:us.length=ds.length
 one:∀ u∈us,u.oneCell'=true
 rel:∀ (j:Nat) (u:Value) (d:DV),us[j]?=some u→ds[j]?=some d→RelI W (fun b=>b < W.heap.size) u d
theorem RC.nil (W:World):RC W [] []:=⟨rfl,fun u h=>by (cases h),fun j u d h=>by simp at h⟩
theorem RC.app {W:World} {us vs:List Value} {ds es:List DV} (h1:RC W us ds) (h2:RC W vs es):RC W (us ++ vs) (ds ++ es):=by
 refine ⟨by rw [List.length_append,List.length_append,h1.len,h2.len],fun u hu=>?_,fun j u d hu hd=>?_⟩
 ·rcases List.mem_append.1 hu with h | h
  ·exact h1.one u h
  ·exact h2.one u h
 ·rcases Nat.lt_or_ge j us.length with h | h
  ·rw [List.getElem?_append_left h] at hu
   rw [List.getElem?_append_left (by rw [← h1.len]; exact h)] at hd
   exact h1.rel j u d hu hd
  ·rw [List.getElem?_append_right h] at hu
   rw [List.getElem?_append_right (by rw [← h1.len]; exact h),← h1.len] at hd
   exact h2.rel _ u d hu hd
theorem RC.one1 {W:World} {u:Value} {d:DV} (h1:u.oneCell'=true) (h:RelI W (fun b=>b < W.heap.size) u d):RC W [u] [d]:=by
 refine ⟨rfl,fun v hv=>by rw [List.mem_singleton.1 hv]; exact h1,fun j v e hv he=>?_⟩
 cases j with
 | zero=>cases hv; cases he; exact h
 | succ j=>simp at hv
section
variable {H:Type} (enc:TypeId×Value→H) (P:Program) (W:World)
def Rd {α:Type} (t:TypeId) (F:α→List DV):Prop:=∀ (n:Nat) (cs:List Value) (x:DataW H×List MemPlace),DataW.trod enc P W 0 (fun _=>true) true n t cs=some x→∃ a:α,RC W cs (F a)
variable {enc P W}
theorem Ax9 {t:TypeId} (ht:P.underlying t=some (.int .i64)):Rd enc P W t (fun n:Int=>[iv n]):=fun n cs x h=>by
 obtain ⟨z,rfl,_,_⟩:=DataW.trod_int ht h
 exact ⟨z,.one1 rfl (.v _)⟩
theorem By4 {t:TypeId} (ht:P.underlying t=some .string):Rd enc P W t (fun s:ByteArray=>[sv s]):=fun n cs x h=>by
 obtain ⟨s,rfl,_,_⟩:=DataW.trod_string ht h
 exact ⟨s,.one1 rfl (.v _)⟩
theorem Ah1 {t:TypeId} {fs:Array Field} (ht:P.underlying t=some (.struct fs)) {n:Nat} {cs:List Value} {x:DataW H×List MemPlace} (h:DataW.trod enc P W 0 (fun _=>true) true n t cs=some x) (i:Nat) {ti oi:Nat} (hi:(fs.toList.map fun f=>(f.type,f.offset))[i]?=some (ti,oi)) :
  cs.length=P.cellsOf t∧∃ m y,DataW.trod enc P W 0 (fun _=>true) true m ti ((cs.drop oi).take (P.cellsOf ti))=some y:=by
 obtain ⟨xs,m,_,_,hl,hlen,hf⟩:=DataW.trod_struct ht h
 rw [List.getElem?_map] at hi
 obtain ⟨f,hf1,hf2⟩:=Option.map_eq_some_iff.1 hi
 cases hf2
 have hf1':fs[i]?=some f:=by rw [← hf1]; exact (Array.getElem?_toList).symm
 have hlt:i < fs.size:=by
  rcases Nat.lt_or_ge i fs.size with h | h
  ·exact h
  ·rw [Array.getElem?_eq_none h] at hf1'; cases hf1'
 have h2:=hf i f hf1'
 rw [List.getElem?_eq_getElem (by omega)] at h2
 exact ⟨hl,m,_,h2⟩
theorem A01 {α β:Type} {t t0 t1 k0 k1:Nat} {fs:Array Field} {F0:α→List DV} {F1:β→List DV} (ht:P.underlying t=some (.struct fs)) (hfs:fs.toList.map (fun f=>(f.type,f.offset))=[(t0,0),(t1,k0)]) (h0:P.cellsOf t0=k0) (h1:P.cellsOf t1=k1) (hC:P.cellsOf t=k0+k1) (r0:Rd enc P W t0 F0) (r1:Rd enc P W t1 F1):Rd enc P W t (fun p:α×β=>F0 p.1 ++ F1 p.2):=fun n cs x h=>by
 obtain ⟨hl,_,_,g0⟩:=Ah1 ht h 0 (by rw [hfs]; rfl)
 obtain ⟨_,_,_,g1⟩:=Ah1 ht h 1 (by rw [hfs]; rfl)
 obtain ⟨a,ha⟩:=r0 _ _ _ g0
 obtain ⟨b,hb⟩:=r1 _ _ _ g1
 rw [h0] at ha
 rw [h1,List.take_of_length_le (by rw [List.length_drop]; omega)] at hb
 refine ⟨(a,b),?_⟩
 have:=ha.app hb
 rw [List.drop_zero,List.take_append_drop] at this
 exact this
theorem A02 {α β γ:Type} {t t0 t1 t2 k0 k1 k2:Nat} {fs:Array Field} {F0:α→List DV} {F1:β→List DV} {F2:γ→List DV} (ht:P.underlying t=some (.struct fs)) (hfs:fs.toList.map (fun f=>(f.type,f.offset))=[(t0,0),(t1,k0),(t2,k0+k1)]) (h0:P.cellsOf t0=k0) (h1:P.cellsOf t1=k1) (h2:P.cellsOf t2=k2) (hC:P.cellsOf t=k0+k1+k2) (r0:Rd enc P W t0 F0) (r1:Rd enc P W t1 F1) (r2:Rd enc P W t2 F2):Rd enc P W t (fun p:α×β×γ=>F0 p.1 ++ (F1 p.2.1 ++ F2 p.2.2)):=fun n cs x h=>by
 obtain ⟨hl,_,_,g0⟩:=Ah1 ht h 0 (by rw [hfs]; rfl)
 obtain ⟨_,_,_,g1⟩:=Ah1 ht h 1 (by rw [hfs]; rfl)
 obtain ⟨_,_,_,g2⟩:=Ah1 ht h 2 (by rw [hfs]; rfl)
 obtain ⟨a,ha⟩:=r0 _ _ _ g0
 obtain ⟨b,hb⟩:=r1 _ _ _ g1
 obtain ⟨c,hc⟩:=r2 _ _ _ g2
 rw [h0] at ha
 rw [h1] at hb
 rw [h2,List.take_of_length_le (by rw [List.length_drop]; omega)] at hc
 refine ⟨(a,b,c),?_⟩
 have h12:=hb.app hc
 rw [← List.drop_drop,List.take_append_drop] at h12
 have:=ha.app h12
 rw [List.drop_zero,List.take_append_drop] at this
 exact this
theorem Bl8 {α β γ δ:Type} {t t0 t1 t2 t3 k0 k1 k2 k3:Nat} {fs:Array Field} {F0:α→List DV} {F1:β→List DV} {F2:γ→List DV} {F3:δ→List DV} (ht:P.underlying t=some (.struct fs)) (hfs:fs.toList.map (fun f=>(f.type,f.offset))=[(t0,0),(t1,k0),(t2,k0+k1),(t3,k0+k1+k2)]) (h0:P.cellsOf t0=k0) (h1:P.cellsOf t1=k1) (h2:P.cellsOf t2=k2) (h3:P.cellsOf t3=k3) (hC:P.cellsOf t=k0+k1+k2+k3) (r0:Rd enc P W t0 F0) (r1:Rd enc P W t1 F1) (r2:Rd enc P W t2 F2) (r3:Rd enc P W t3 F3):Rd enc P W t (fun p:α×β×γ×δ=>F0 p.1 ++ (F1 p.2.1 ++ (F2 p.2.2.1 ++ F3 p.2.2.2))):=fun n cs x h=>by
 obtain ⟨hl,_,_,g0⟩:=Ah1 ht h 0 (by rw [hfs]; rfl)
 obtain ⟨_,_,_,g1⟩:=Ah1 ht h 1 (by rw [hfs]; rfl)
 obtain ⟨_,_,_,g2⟩:=Ah1 ht h 2 (by rw [hfs]; rfl)
 obtain ⟨_,_,_,g3⟩:=Ah1 ht h 3 (by rw [hfs]; rfl)
 obtain ⟨a,ha⟩:=r0 _ _ _ g0
 obtain ⟨b,hb⟩:=r1 _ _ _ g1
 obtain ⟨c,hc⟩:=r2 _ _ _ g2
 obtain ⟨e,he⟩:=r3 _ _ _ g3
 rw [h0] at ha
 rw [h1] at hb
 rw [h2] at hc
 rw [h3,List.take_of_length_le (by rw [List.length_drop]; omega)] at he
 refine ⟨(a,b,c,e),?_⟩
 have x1:cs.drop (k0+k1)=(cs.drop k0).drop k1:=by rw [List.drop_drop]
 have x2:cs.drop (k0+k1+k2)=(cs.drop (k0+k1)).drop k2:=by rw [List.drop_drop]
 have h23:=hc.app he
 rw [x2,List.take_append_drop] at h23
 have h12:=hb.app h23
 rw [x1,List.take_append_drop] at h12
 have:=ha.app h12
 rw [List.drop_zero,List.take_append_drop] at this
 exact this
theorem A92 {α β:Type} {t:TypeId} {F:α→List DV} {G:β→List DV} (h:Rd enc P W t F) (f:α→β) (hf:∀ a,F a=G (f a)):Rd enc P W t G:=fun n cs x hx=>by
 obtain ⟨a,ha⟩:=h n cs x hx
 exact ⟨f a,by rw [← hf]; exact ha⟩
theorem Aq5 {α:Type} {t e ce:Nat} {F:α→List DV} (ht:P.underlying t=some (.slice e)) (hce:P.cellsOf e=ce) (hpos:0 < ce) (r:Rd enc P W e F):Rd enc P W t (fun l:List α=>[.sl (l.flatMap F) l.length]):=fun n cs x h=>by
 rcases DataW.trod_slice ht h with ⟨rfl,_⟩ | ⟨a,len,cap,elems,rest,m,_,rfl,_,_,hle,_,hel,hget,_,_⟩
 ·exact ⟨[],.one1 rfl (.sl0 _ _)⟩
 ·rw [hce] at hget
  have key:∀ k,k≤len→∃ (l:List α) (us:List Value),l.length=k∧RC W us (l.flatMap F)∧us.length=k*ce∧∀ (j:Nat) (u:Value),us[j]?=some u→W.cell? (a.add j)=some u:=by
   intro k
   induction k with
   | zero=>intro _; exact ⟨[],[],rfl,RC.nil W,by simp,fun j u h=>by simp at h⟩
   | succ k ih=>
    intro hk
    obtain ⟨l,us,h1,h2,h3,h4⟩:=ih (by omega)
    have hg:=hget k (by omega)
    rw [List.getElem?_eq_getElem (by omega)] at hg
    obtain ⟨cs,hcs,htr⟩:=Option.bind_eq_some_iff.1 hg
    obtain ⟨b,hb⟩:=r _ _ _ htr
    obtain ⟨_,hcl,hcc⟩:=World.cells?_some hcs
    refine ⟨l ++ [b],us ++ cs,by simp [h1],?_,by rw [List.length_append,h3,hcl,Nat.add_mul,Nat.one_mul],fun j u hu=>?_⟩
    ·rw [List.flatMap_append]
     have:[b].flatMap F=F b:=by simp
     rw [this]
     exact h2.app hb
    ·rcases Nat.lt_or_ge j us.length with hj | hj
     ·rw [List.getElem?_append_left hj] at hu
      exact h4 j u hu
     ·rw [List.getElem?_append_right hj] at hu
      have hlt:j - us.length < cs.length:=(List.getElem?_eq_some_iff.1 hu).1
      have:=hcc (j - us.length) (by omega)
      rw [add_add,hu] at this
      rw [← this]
      congr 2
      omega
  obtain ⟨l,us,h1,h2,h3,h4⟩:=key len (Nat.le_refl _)
  refine ⟨l,.one1 rfl ?_⟩
  by_cases h0:len=0
  ·subst h0
   obtain rfl:l=[]:=List.length_eq_zero_iff.1 h1
   exact .sl0 _ _
  ·rw [h1]
   refine .sl a len cap us _ h2.len hle ?_ h2.one h4 h2.rel
   have hlt:0 < us.length:=by rw [h3]; exact Nat.mul_pos (by omega) hpos
   have:=lt_of_cell (h4 0 _ (List.getElem?_eq_getElem hlt))
   rwa [Go.DD.block_add] at this
end
end Go.DD

/- From a contract to a law's statement: a law that answers true and of what was there turns nothing. Conditions: none beyond those that each theorem states. -/
namespace Go.DD
open Go Go.RowKit Go.ChangeShapes
theorem A47 {H:Type} {enc:TypeId×Value→H} {P:Program} {f:Func} {s:ChangeSpec} {apart fresh handsOn again:Bool} {W W':World} {args:Array Value} {v:Value} {ds gs:List (DataW H)} {before pa pv:List MemPlace}
  (hW:DataW.Whole enc P f.params.toList s.vars apart W args.toList ds gs before)
  (hres:∀ (b:Nat) (sp:Nat→Bool) (hd:Bool),DataW.TrodAll enc P W' b sp hd f.resultTypes.toList (v.resultList f.resultTypes.size) (s.fn H (ds ++ gs)).results [])
  (hargs:∀ sp:Nat→Bool,(∀ p∈before,sp p.block=true)→DataW.TrodAll enc P W' 0 sp true f.params.toList args.toList (s.fn H (ds ++ gs)).args pa)
  (hvars:∀ sp:Nat→Bool,(∀ p∈before,sp p.block=true)→DataW.TrodVars enc P W' sp s.vars (s.fn H (ds ++ gs)).vars pv)
  (hps:before=pa ++ pv) (hk:Below W.heap.size W W')
  (hok:∀ (j:Nat) (t:TypeId) (r:Value),f.resultTypes[j]?=some t→(v.resultList f.resultTypes.size)[j]?=some r→Value.okWide P W' .any 0 t r) :
  s.post enc P f apart fresh handsOn again W args v W':=by
 have hold:∀ p∈before,(fun b=>decide (b < W.heap.size)) p.block=true:=fun p hp=>by simpa using hW.lt p hp
 have hlt:=hW.lt
 refine ⟨ds,gs,before,[],pa,pv,hW,hres _ _ _,hargs _ hold,hvars _ hold,hk.frame _,fun _=>?_⟩
 obtain ⟨_,_,_,_,_,hz,hn⟩:=hW
 refine ⟨hok,_,_,([] ++ pa) ++ pv,⟨[] ++ pa,pv,trodAll_append (hargs _ (fun _ _=>rfl)) (hres _ _ _),hvars _ (fun _ _=>rfl),rfl,?_,?_⟩,?_⟩
 ·intro b off hp
  have hp':MemPlace.cell b off∈before:=by rw [hps]; simpa using hp
  rw [hk.frozen (hlt _ hp')]
  exact hz b off hp'
 ·intro ha
  have:=hn ha
  rw [hps] at this
  simpa using this
 ·intro p hp _
  rw [hps]
  simpa using hp
theorem DCall.law {P:Program} {f:FuncId} {args:List DV} (h:DCall P f args fun d=>d=.v (.bool true)) (w:World) {vs:List Value} (hl:vs.length=args.length)
  (hr:∀ (j:Nat) (v:Value) (d:DV),vs[j]?=some v→args[j]?=some d→RelI w (fun b=>b < w.heap.size) v d) (hg:∀ x d,GLV x d→RelI w (fun b=>b < w.heap.size) x d) :
  Calls P f vs.toArray w fun e w'=>e=.returned (.bool true)∧Below w.heap.size w w':=
 (h w (fun b=>b < w.heap.size) vs (fun _ h=>h) hl hr hg).mono fun _ _ ⟨v,r,he,hr,hb,hv⟩=>by
  subst hr
  cases hv
  exact ⟨he,hb⟩
end Go.DD

/- What the arguments of chapter 08's statements read as. Conditions: those that each theorem states. -/
namespace Go.DD
open Go Go.Proofs Go.ChangeShapes Go.WideShapes Go.ChangeAt Go.RowKit
theorem own8:ownKnob Tryz.prog.godebug=none:=by kernel_rfl
theorem u2:Tryz.prog.underlying 2=some (.int .i64):=by kernel_rfl
theorem u3:Tryz.prog.underlying 3=some (.int .i64):=by kernel_rfl
theorem u4:Tryz.prog.underlying 4=some .bool:=by kernel_rfl
theorem u9:Tryz.prog.underlying 9=some .string:=by kernel_rfl
theorem u22:Tryz.prog.underlying 22=some (.slice 129):=by kernel_rfl
theorem u23:Tryz.prog.underlying 23=some (.slice 131):=by kernel_rfl
theorem u24:Tryz.prog.underlying 24=some (.slice 39):=by kernel_rfl
theorem u36:Tryz.prog.underlying 36=some (.slice 3):=by kernel_rfl
theorem u37:Tryz.prog.underlying 37=some (.slice 41):=by kernel_rfl
noncomputable def fsOf (t:Nat):Array Field:=match Tryz.prog.underlying t with
 | some (.struct fs)=>fs
 | _=>#[]
theorem uArr:Tryz.prog.underlying 26=some (.struct (fsOf 26)):=by kernel_rfl
theorem uCell:Tryz.prog.underlying 39=some (.struct (fsOf 39)):=by kernel_rfl
theorem uVal:Tryz.prog.underlying 41=some (.struct (fsOf 41)):=by kernel_rfl
theorem uDim:Tryz.prog.underlying 129=some (.struct (fsOf 129)):=by kernel_rfl
theorem uAttr:Tryz.prog.underlying 131=some (.struct (fsOf 131)):=by kernel_rfl
section
variable {H:Type} {enc:TypeId×Value→H} {W:World}
set_option maxRecDepth 100000 in
theorem rdVal:Rd enc Tryz.prog W 41 (fun v:PVal=>rVal.cells v):=
 A92 (Bl8 (t0:=3) (t1:=2) (t2:=2) (t3:=9) (k0:=1) (k1:=1) (k2:=1) (k3:=1) uVal (by kernel_rfl) (by kernel_rfl) (by kernel_rfl) (by kernel_rfl) (by kernel_rfl) (by kernel_rfl) (Ax9 u3) (Ax9 u2) (Ax9 u2) (By4 u9)) (fun p=>⟨p.1,p.2.1,p.2.2.1,p.2.2.2⟩) fun _=>rfl
set_option maxRecDepth 100000 in
theorem rdDim:Rd enc Tryz.prog W 129 (fun v:PDim=>rDim.cells v):=
 A92 (A02 (t0:=9) (t1:=3) (t2:=3) (k0:=1) (k1:=1) (k2:=1) uDim (by kernel_rfl) (by kernel_rfl) (by kernel_rfl) (by kernel_rfl) (by kernel_rfl) (By4 u9) (Ax9 u3) (Ax9 u3)) (fun p=>⟨p.1,p.2.1,p.2.2⟩) fun _=>rfl
set_option maxRecDepth 100000 in
theorem Cv5:Rd enc Tryz.prog W 131 (fun v:PAttr=>rAttr.cells v):=
 A92 (A01 (t0:=9) (t1:=3) (k0:=1) (k1:=1) uAttr (by kernel_rfl) (by kernel_rfl) (by kernel_rfl) (by kernel_rfl) (By4 u9) (Ax9 u3)) (fun p=>⟨p.1,p.2⟩) fun _=>rfl
set_option maxRecDepth 100000 in
theorem Cv6:Rd enc Tryz.prog W 39 (fun v:PCell=>rCell.cells v):=
 A92 (A01 (t0:=36) (t1:=37) (k0:=1) (k1:=1) uCell (by kernel_rfl) (by kernel_rfl) (by kernel_rfl) (by kernel_rfl) (Aq5 (ce:=1) u36 (by kernel_rfl) (by decide) (Ax9 u3)) (Aq5 (ce:=4) u37 (by kernel_rfl) (by decide) rdVal)) (fun p=>⟨p.1,p.2⟩) fun _=>rfl
def arrC (x:PArr):List DV:=[.sl (x.dims.flatMap rDim.cells) x.dims.length,.sl (x.attrs.flatMap rAttr.cells) x.attrs.length,.sl (x.cells.flatMap rCell.cells) x.cells.length]
set_option maxRecDepth 100000 in
theorem rdArr:Rd enc Tryz.prog W 26 arrC:=
 A92 (A02 (t0:=22) (t1:=23) (t2:=24) (k0:=1) (k1:=1) (k2:=1) uArr (by kernel_rfl) (by kernel_rfl) (by kernel_rfl) (by kernel_rfl) (by kernel_rfl) (Aq5 (ce:=3) u22 (by kernel_rfl) (by decide) rdDim) (Aq5 (ce:=2) u23 (by kernel_rfl) (by decide) Cv5) (Aq5 (ce:=2) u24 (by kernel_rfl) (by decide) Cv6)) (fun p=>⟨p.1,p.2.1,p.2.2⟩) fun _=>rfl
set_option maxRecDepth 100000 in
theorem By5 {base:Nat} {v:Value} {d:DataW H} {p:List MemPlace} (hval:Value.okWide Tryz.prog W .any base 26 v) (h:DataW.Trod enc Tryz.prog W 0 (fun _=>true) true 26 v d p):∃ x:PArr,RelI W (fun b=>b < W.heap.size) v (dArr x):=by
 obtain ⟨cs,e,_⟩:=okWide_struct uArr hval
 subst e
 obtain ⟨fuel,hf⟩:=h
 obtain ⟨x,hx⟩:=rdArr _ _ _ hf
 refine ⟨x,?_⟩
 have this:RelI W (fun b=>b < W.heap.size) (.agg cs.toList.toArray) (dArr x):=RelI.agg (w:=W) (al:=fun b=>b < W.heap.size) cs.toList (arrC x) hx.len hx.one hx.rel
 rw [Array.toArray_toList] at this
 exact this
end
end Go.DD

/- VersionBack, the statement: for every input the call returns true and each argument reads afterwards as before. Conditions: none. -/
namespace Go.Proofs.YtnphfnhhpcelbaaGreat.versionBack
open Go.ChangeShapes Go.WideShapes Go.ChangeAt Go.RowKit Go.DD

theorem walk (x y : PArr) {W : World} {v u : Value} (hx : RelI W (fun b => b < W.heap.size) v (dArr x)) (hy : RelI W (fun b => b < W.heap.size) u (dArr y)) :
    Calls Tryz.prog 8 #[v, u] W fun e w' => e = .returned (.bool true) ∧ Below W.heap.size W w' := by
  refine DCall.law (vs := [v, u]) (B49 x y).2.2 W rfl (fun j w d hw hd => ?_) (fun x d h => ?_)
  · match j with
    | 0 => cases hw; cases hd; exact hx
    | 1 => cases hw; cases hd; exact hy
    | j + 2 => cases hw
  · obtain ⟨g, cs, h, _⟩ := h
    cases h

set_option maxRecDepth 100000 in
theorem lifted (os : Os) (started : os.Started) (H : Type) (enc : TypeId × Value → H) :
    ReturnsInHanded {} Tryz.checked os 8 .any (Rows.versionBackSpec.pre6 enc Tryz.prog Tryz.f8 Rows.versionBackRow.domain false) (Rows.versionBackSpec.post enc Tryz.prog Tryz.f8 false true false false) := by
  refine returnsInHanded_of_change (C := Tryz.checked) own8 started (by kernel_rfl) Tryz.func8
    (ChangeSpec.witness6 (enc := enc) (C := Tryz.checked) false ⟨#[], #[.agg #[.slice none 0 0, .slice none 0 0, .slice none 0 0], .agg #[.slice none 0 0, .slice none 0 0, .slice none 0 0]], []⟩ 8 (by kernel_rfl) (by kernel_rfl) (by kernel_rfl) (by kernel_rfl)) ?_
  intro W base args ds gs before hval0 hW hcnd _
  have hval : ∀ (j : Nat) t v, Tryz.f8.params[j]? = some t → args[j]? = some v → Value.okWide Tryz.prog W .any base t v := hval0
  have hW' := hW
  have hlt := hW.lt
  obtain ⟨p, q, hA0, hV, rfl, hfz, hnd⟩ := hW
  have hA : DataW.TrodAll enc Tryz.prog W 0 (fun _ => true) true Tryz.f8.params.toList args.toList ds p := hA0
  rw [Tryz.params8] at hA hval
  obtain ⟨v0, v1, d0, d1, p0, p1, rfl, rfl, rfl, h0, h1⟩ := trodAll_two hA
  obtain ⟨rfl, rfl⟩ := trodVars_none hV
  obtain ⟨x, hx0⟩ := By5 (hval 0 _ v0 rfl rfl) h0
  obtain ⟨y, hx1⟩ := By5 (hval 1 _ v1 rfl rfl) h1
  clear hA0 hval0
  simp only [List.append_nil] at hW' hlt
  refine (walk x y hx0 hx1).mono fun e W' ⟨he, hg⟩ => ?_
  subst he
  exact ⟨_, rfl, A47 (pa := p0 ++ p1) (pv := []) hW' (fun _ _ _ => trodAll_mk1 (shut_bool u4 _))
    (fun sp hsp => trodAll_mk2 (WideElems.Trod_stays (by kernel_rfl) (by kernel_rfl) (by decide +kernel) h0 (fun x hx => hg.same (hlt x (List.mem_append_left _ hx))) (fun x hx => hsp x (List.mem_append_left _ hx))) (WideElems.Trod_stays (by kernel_rfl) (by kernel_rfl) (by decide +kernel) h1 (fun x hx => hg.same (hlt x (List.mem_append_right _ hx))) (fun x hx => hsp x (List.mem_append_right _ hx))))
    (fun _ _ => rfl) (by simp) hg (ok_one (by kernel_rfl) rfl (okWide_bool_mk u4 _))⟩

theorem o1 : (Rows.versionBackRow.inPlace == Tryz.pinned.checked.prog.inPlace 8) = true := by kernel_rfl
theorem o2 : (Rows.versionBackRow.unfollowed == Tryz.pinned.checked.prog.unfollowed 8) = true := by kernel_rfl
theorem o3 : (Rows.versionBackRow.recurses == Tryz.pinned.checked.prog.recurses 8) = true := by kernel_rfl
theorem o4 : (Rows.versionBackRow.named == Tryz.pinned.checked.prog.varsNamed 8) = true := by kernel_rfl
theorem o5 : joinedFacts Tryz.pinned.checked.prog 8 Tryz.f8 Rows.versionBackSpec Rows.versionBackRow = true := by
  unfold joinedFacts
  rw [o1, o2, o3, o4]
  kernel_rfl
theorem over : Rows.versionBackRow.holds Tryz.pinned (OpenSpec.ofChange Rows.versionBackSpec) :=
  OpenClaim.holds_of_wide 8 Tryz.f8 rfl rfl rfl rfl rfl rfl rfl ⟨rfl, rfl, rfl, rfl, rfl⟩ rfl rfl rfl rfl rfl (by kernel_rfl) Tryz.func8 o5
    (of_decide_eq_true (by kernel_rfl)) (by unfold Func.isWrapper; first | (rw [if_pos (by decide +kernel)]; kernel_rfl) | (rw [if_neg (by decide +kernel)]; exact ⟨rfl, rfl⟩))
    (fun os started H enc _ => lifted os started H enc)

/-- The statement. -/
theorem proved : Rows.VersionBackSaid :=
  over
#print axioms proved
end Go.Proofs.YtnphfnhhpcelbaaGreat.versionBack
