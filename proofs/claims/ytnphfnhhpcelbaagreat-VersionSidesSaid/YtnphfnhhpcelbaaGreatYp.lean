/- Contracts: the program's Same; equal arrays or nothing. Conditions: those that each theorem states. -/
import Derived.Test.YtnphfnhhpcelbaaGreatYo
import Derived.Test.YtnphfnhhpcelbaaGreatYf
import Derived.WalkKit
import Derived.ProofKit
import Derived.OpenShut
import Derived.Test.YtnphfnhhpcelbaaGreatYe
import Derived.ChangeSame
import Derived.Below
import Derived.Test.YtnphfnhhpcelbaaGreatRows
import Derived.ChangeSlices
import Derived.Carry
namespace Go.DD
set_option linter.unusedSectionVars false
set_option linter.unusedVariables false
open Go Go.Proofs
def sameA (x y:PArr):Bool:=decide (Aa1 x=0∧Aa1 y=0∧x=y)
section
variable (k n0:Nat) (hp:Tr DObj) (nx:Nat) (K:DV→Tr DObj→Nat→Prop)
theorem Aw6 (d1 d2:DV) (x y:PArr) (hn:n0≤nx) (h1:AR hp (Bl n0) d1 x) (h2:AR hp (Bl n0) d2 y) (hx:AOK x) (hy:AOK y)
  (hK:∀ hp' nx',Al hp nx hp' nx'→K (bv (sameA x y)) hp' nx'):KW (kN (k+8)) (.fn 25) [d1,d2] hp nx K:=by
 obtain ⟨d,a,c,rfl,r1,r2,r3⟩:=h1
 obtain ⟨d',a',c',rfl,s1,s2,s3⟩:=h2
 refine kn_1 (Aa5 (by decide)) t25 (Nat.le_of_ble_eq_true rfl) fun es e1 e2 he=>?_
 have a0:rawE es (.t .o)=.agg [d,a,c]:=he 0 _ rfl
 have a1:rawE es (.t (.l .o))=.agg [d',a',c']:=he 1 _ rfl
 unfold r25
 subst e1 e2
 simp only [↓bSb]
 refine Ab6 (cs:=[d,a,c]) (by rw [evt,a0]; exact AR.live r1 r2 r3) fun hp1 hg1 hk1=>?_
 simp only [bR] at hg1 hk1
 have hal1:Al es.hp es.nx hp1 (es.nx+1):=⟨by omega,fun j hj=>hk1 j (by omega)⟩
 simp only [bSa,↓bSb]
 refine Ab6 (cs:=[d',a',c']) (by simp only [evt,bR,reduceCtorEq,a1]; exact AR.live (s1.ka hn hal1) (s2.ka hn hal1) (s3.ka hn hal1)) fun hp2 hg2 hk2=>?_
 simp only [bR] at hg2 hk2
 have hal2:Al es.hp es.nx hp2 (es.nx+2):=⟨by omega,fun j hj=>by rw [hk2 j (by omega),hk1 j (by omega)]⟩
 have hg1':=(hk2 es.nx (by omega)).trans hg1
 have hrA:∀ {hp' nx'},Al es.hp es.nx hp' nx'→AR hp' (Bl n0) (.agg [d,a,c]) x:=fun h=>⟨d,a,c,rfl,r1.ka hn h,r2.ka hn h,r3.ka hn h⟩
 have hrB:∀ {hp' nx'},Al es.hp es.nx hp' nx'→AR hp' (Bl n0) (.agg [d',a',c']) y:=fun h=>⟨d',a',c',rfl,s1.ka hn h,s2.ka hn h,s3.ka hn h⟩
 obtain ⟨_,_,_,_,lA⟩:=Aa0 hg1'
 have no:∀ {hp' nx'},¬ (Aa1 x=0∧Aa1 y=0∧x=y)→Al es.hp es.nx hp' nx'→K (.v (.bool false)) hp' nx':=fun h ha=>by
  have hh:=hK _ _ ha
  unfold sameA at hh
  rw [decide_eq_false h] at hh
  exact hh
 simp only [bSa,↓bSb,reduceCtorEq,lA]
 refine kws (Ao4 (k:=k) n0 _ _ _ _ x (by omega) (hrA hal2) hx fun hp3 nx3 hal3=>?_)
 have hle3:=hal3.le
 have ha3:=hal2.trans hal3
 have hgB3:=(hal3.same (es.nx+1) (by omega)).trans hg2
 have hgA3:=(hal3.same es.nx (by omega)).trans hg1'
 obtain ⟨_,_,_,_,lB3⟩:=Aa0 hgB3
 by_cases c1:Aa1 x=0
 ·simp only [bSa,↓bSb,reduceCtorEq,show decide (¬ Aa1 x=0)=false by simp [c1],lB3]
  refine kws (Ao4 (k:=k) n0 _ _ _ _ y (by omega) (hrB ha3) hy fun hp4 nx4 hal4=>?_)
  have hle4:=hal4.le
  have ha4:=ha3.trans hal4
  have hgB4:=(hal4.same (es.nx+1) (by omega)).trans hgB3
  have hgA4:=(hal4.same es.nx (by omega)).trans hgA3
  obtain ⟨⟨fA0,fA1,fA2⟩,lA0,lA1,lA2,_⟩:=Aa0 hgA4
  obtain ⟨⟨fB0,fB1,fB2⟩,lB0,lB1,lB2,_⟩:=Aa0 hgB4
  by_cases c2:Aa1 y=0
  ·simp only [bSa,↓bSb,reduceCtorEq,show decide (¬ Aa1 y=0)=false by simp [c2],fA0,fB0,lA0,lB0]
   refine kws (B40 (k:=k+6) n0 _ _ _ d d' _ _ (by omega) (r1.ka hn ha4) (s1.ka hn ha4) hx.d fun nx5 hle5=>?_)
   by_cases c3:x.dims=y.dims
   ·simp only [bSa,↓bSb,reduceCtorEq,decide_eq_true c3,fA1,fB1,lA1,lB1]
    refine kws (B41 (k:=k+6) n0 _ _ _ a a' _ _ (by omega) (r2.ka hn ha4) (s2.ka hn ha4) hx.a fun nx6 hle6=>?_)
    by_cases c4:x.attrs=y.attrs
    ·simp only [bSa,↓bSb,reduceCtorEq,decide_eq_true c4,fA2,fB2,lA2,lB2]
     refine kws (Cb8 (k:=k+4) n0 _ _ _ c c' x.cells y.cells (by omega) (r3.ka hn ha4) (s3.ka hn ha4) hx.c (fun e he=>⟨(hx.e e he).1,(hx.e e he).2.1⟩) fun hp7 nx7 hal7=>?_)
     have hle7:=hal7.le
     have ha7:Al es.hp es.nx hp7 nx7:=⟨by omega,fun j hj=>(hal7.same j (by omega)).trans (ha4.same j hj)⟩
     have hh:=hK _ _ ha7
     have e:sameA x y=decide (x.cells=y.cells):=by
      refine decide_eq_decide.2 ⟨fun h=>by rw [h.2.2],fun h=>⟨c1,c2,?_⟩⟩
      cases x
      cases y
      simp only at c3 c4 h
      rw [c3,c4,h]
     rw [e] at hh
     simp only [bSa,↓bSb,bP,reduceCtorEq]
     exact hh
    ·simp only [bSa,↓bSb,bP,reduceCtorEq,decide_eq_false c4]
     exact no (fun h=>c4 (by rw [h.2.2])) (ha4.nx (by omega))
   ·simp only [bSa,↓bSb,bP,reduceCtorEq,decide_eq_false c3]
    exact no (fun h=>c3 (by rw [h.2.2])) (ha4.nx (by omega))
  ·simp only [bSa,↓bSb,bP,reduceCtorEq,show decide (¬ Aa1 y=0)=true by simp [c2]]
   exact no (fun h=>c2 h.2.1) ha4
 ·simp only [bSa,↓bSb,bP,reduceCtorEq,show decide (¬ Aa1 x=0)=true by simp [c1]]
  exact no (fun h=>c1 h.1) ha3
theorem Br5 (d1 d2:DV) (x:PArr) (hn:n0≤nx) (h1:AR hp (Bl n0) d1 x) (h2:AR hp (Bl n0) d2 x) (hx:AOK x) (hv:Aa1 x=0∨x=noA)
  (hK:∀ hp' nx',Al hp nx hp' nx'→K (bv true) hp' nx'):KW (kN (k+9)) (.fn 23) [d1,d2] hp nx K:=by
 obtain ⟨d,a,c,rfl,r1,r2,r3⟩:=h1
 obtain ⟨d',a',c',rfl,s1,s2,s3⟩:=h2
 refine kn_1 (Aa5 (by decide)) t23 (Nat.le_of_ble_eq_true rfl) fun es e1 e2 he=>?_
 have a0:rawE es (.t .o)=.agg [d,a,c]:=he 0 _ rfl
 have a1:rawE es (.t (.l .o))=.agg [d',a',c']:=he 1 _ rfl
 unfold r23
 subst e1 e2
 simp only [↓bSb]
 refine Ab6 (cs:=[d,a,c]) (by rw [evt,a0]; exact AR.live r1 r2 r3) fun hp1 hg1 hk1=>?_
 simp only [bR] at hg1 hk1
 have hal1:Al es.hp es.nx hp1 (es.nx+1):=⟨by omega,fun j hj=>hk1 j (by omega)⟩
 simp only [bSa,↓bSb]
 refine Ab6 (cs:=[d',a',c']) (by simp only [evt,bR,reduceCtorEq,a1]; exact AR.live (s1.ka hn hal1) (s2.ka hn hal1) (s3.ka hn hal1)) fun hp2 hg2 hk2=>?_
 simp only [bR] at hg2 hk2
 have hal2:Al es.hp es.nx hp2 (es.nx+2):=⟨by omega,fun j hj=>by rw [hk2 j (by omega),hk1 j (by omega)]⟩
 have hg1':=(hk2 es.nx (by omega)).trans hg1
 obtain ⟨_,_,_,_,lA⟩:=Aa0 hg1'
 obtain ⟨_,_,_,_,lB⟩:=Aa0 hg2
 simp only [bSa,↓bSb,reduceCtorEq,lA,lB]
 refine kws (Aw6 k n0 _ _ _ _ _ x x (by omega) ⟨d,a,c,rfl,r1.ka hn hal2,r2.ka hn hal2,r3.ka hn hal2⟩ ⟨d',a',c',rfl,s1.ka hn hal2,s2.ka hn hal2,s3.ka hn hal2⟩ hx hx fun hp3 nx3 hal3=>?_)
 have hle3:=hal3.le
 have ha3:=hal2.trans hal3
 by_cases c1:Aa1 x=0
 ·simp only [bSa,↓bSb,bP,reduceCtorEq,show sameA x x=true by unfold sameA; exact decide_eq_true ⟨c1,c1,rfl⟩]
  exact hK _ _ ha3
 ·have hN:x=noA:=hv.elim (fun h=>absurd h c1) id
  have hgB3:=(hal3.same (es.nx+1) (by omega)).trans hg2
  have hgA3:=(hal3.same es.nx (by omega)).trans hg1'
  obtain ⟨⟨fA0,fA1,fA2⟩,lA0,lA1,lA2,_⟩:=Aa0 hgA3
  obtain ⟨⟨fB0,fB1,fB2⟩,lB0,lB1,lB2,_⟩:=Aa0 hgB3
  have u1:lenD hp3 d=some (.v (.int .i64 0)):=by have:=(r1.ka hn ha3).len; rw [hN] at this; exact this
  have u2:lenD hp3 a=some (.v (.int .i64 0)):=by have:=(r2.ka hn ha3).len; rw [hN] at this; exact this
  have u3:lenD hp3 c=some (.v (.int .i64 0)):=by have:=(r3.ka hn ha3).len; rw [hN] at this; exact this
  have v1:lenD hp3 d'=some (.v (.int .i64 0)):=by have:=(s1.ka hn ha3).len; rw [hN] at this; exact this
  have v2:lenD hp3 a'=some (.v (.int .i64 0)):=by have:=(s2.ka hn ha3).len; rw [hN] at this; exact this
  have v3:lenD hp3 c'=some (.v (.int .i64 0)):=by have:=(s3.ka hn ha3).len; rw [hN] at this; exact this
  simp only [bSa,↓bSb,bP,reduceCtorEq,show sameA x x=false by unfold sameA; exact decide_eq_false (fun h=>c1 h.1),fA0,fA1,fA2,lA0,lA1,lA2,fB0,fB1,fB2,lB0,lB1,lB2,u1,u2,u3,v1,v2,v3,show binD .add (.v (.int .i64 0)) (.v (.int .i64 0))=some (.v (.int .i64 0)) from rfl]
  exact hK _ _ ha3
end
theorem Br6 (x y z:List PVal):mrgV [x,y,z]=mrgV [x,z,y]:=by
 rw [Aq5,Aq5]
 by_cases h1:y=z
 ·subst h1; rfl
 ·by_cases h2:x=z
  ·rw [if_pos (.inr h2),if_neg (fun h=>h.elim (fun h=>h1 h.symm) fun h=>h1 (h.symm.trans h2)),if_pos h2]
  ·by_cases h3:x=y
   ·rw [if_neg (fun h=>h.elim h1 h2),if_pos h3,if_pos (.inr h3)]
   ·rw [if_neg (fun h=>h.elim h1 h2),if_neg h3,if_neg (fun h=>h.elim (fun h=>h1 h.symm) h3),if_neg h2]
theorem Bh7 {l m:List PArr} (h:∀ c,c∈l.flatMap PArr.cells↔c∈m.flatMap PArr.cells):Ah7 l=Ah7 m:=by
 obtain ⟨d1,d2⟩:=Aw2 (A23 (l.flatMap PArr.cells))
 obtain ⟨e1,e2⟩:=Aw2 (A23 (m.flatMap PArr.cells))
 refine A82 d1 e1 fun q=>?_
 rw [show Ah7 l=dedF none (sortC (l.flatMap PArr.cells)) from rfl,show Ah7 m=dedF none (sortC (m.flatMap PArr.cells)) from rfl,d2,e2]
 constructor
 ·rintro ⟨c,h1,h2⟩; exact ⟨c,(Ai1 _ _).2 ((h c).1 ((Ai1 _ _).1 h1)),h2⟩
 ·rintro ⟨c,h1,h2⟩; exact ⟨c,(Ai1 _ _).2 ((h c).2 ((Ai1 _ _).1 h1)),h2⟩
theorem Ao7 {b x y:PArr} (h:Aa7 b x y=0∨Aa7 b x y=19):Aa1 b=0∧Aa1 x=0∧Aa1 y=0∧Ac4 b x=true∧Ac4 b y=true:=by
 unfold Aa7 at h
 by_cases h2:(Aa1 b≠0∨Aa1 x≠0)∨Aa1 y≠0
 ·rw [if_pos h2] at h; rcases h with h | h <;> cases h
 ·rw [if_neg h2] at h
  by_cases h3:Ac4 b x=false∨Ac4 b y=false
  ·rw [if_pos h3] at h; rcases h with h | h <;> cases h
  ·exact ⟨Classical.byContradiction fun h4=>h2 (.inl (.inl h4)),Classical.byContradiction fun h4=>h2 (.inl (.inr h4)),Classical.byContradiction fun h4=>h2 (.inr h4),by cases e:Ac4 b x with
    | true=>rfl
    | false=>exact absurd (.inl e) h3,by cases e:Ac4 b y with
    | true=>rfl
    | false=>exact absurd (.inr e) h3⟩
theorem A83 {b x y:PArr} (hb:Aa1 b=0) (hx:Aa1 x=0) (hy:Aa1 y=0):mrgC (mWalk b x y)=mrgC (mWalk b y x)∧mrgX (mWalk b x y)=mrgX (mWalk b y x):=by
 rw [← Bf3 hb hx hy,← Bf3 hb hy hx]
 have hp:Ah7 [b,x,y]=Ah7 [b,y,x]:=Bh7 fun c=>by simp only [List.flatMap_cons,List.flatMap_nil,List.append_nil,List.mem_append]; grind
 unfold rWalk
 rw [hp]
 generalize Ah7 [b,y,x]=P
 constructor
 ·unfold mrgC
  rw [List.flatMap_map,List.flatMap_map]
  congr 1
  funext p
  unfold mrg1
  simp only [List.map_cons,List.map_nil]
  rw [Br6]
 ·unfold mrgX
  rw [List.find?_map,List.find?_map,Option.map_map,Option.map_map]
  have e:((fun w:List Int×List (List PVal)=>(mrgV w.2).isNone)∘fun p=>(p,[b.cells,x.cells,y.cells].map fun h=>Ab9 h p))=((fun w:List Int×List (List PVal)=>(mrgV w.2).isNone)∘fun p=>(p,[b.cells,y.cells,x.cells].map fun h=>Ab9 h p)):=by
   funext p
   simp only [Function.comp,List.map_cons,List.map_nil]
   rw [Br6]
  rw [e]
  rfl
theorem Bx8 (b x y:PArr):Aa7 b x y=Aa7 b y x∧Ad0 b x y=Ad0 b y x∧Af1 b x y=Af1 b y x:=by
 have hE:Aa7 b x y=Aa7 b y x:=by
  unfold Aa7
  by_cases h2:(Aa1 b≠0∨Aa1 x≠0)∨Aa1 y≠0
  ·rw [if_pos h2,if_pos (by grind)]
  ·have h2':¬ ((Aa1 b≠0∨Aa1 y≠0)∨Aa1 x≠0):=by grind
   rw [if_neg h2,if_neg h2']
   by_cases h3:Ac4 b x=false∨Ac4 b y=false
   ·rw [if_pos h3,if_pos h3.symm]
   ·rw [if_neg h3,if_neg (show ¬ (Ac4 b y=false∨Ac4 b x=false) from fun h=>h3 h.symm),(A83 (b:=b) (x:=x) (y:=y) (Classical.byContradiction fun h4=>h2 (.inl (.inl h4))) (Classical.byContradiction fun h4=>h2 (.inl (.inr h4))) (Classical.byContradiction fun h4=>h2 (.inr h4))).2]
 refine ⟨hE,?_,?_⟩
 ·unfold Ad0
  rw [← hE]
  split
  ·rename_i h
   obtain ⟨h1,h2,h3,_⟩:=Ao7 (.inl h)
   rw [(A83 h1 h2 h3).1]
  ·rfl
 ·unfold Af1
  rw [← hE]
  split
  ·rename_i h
   obtain ⟨h1,h2,h3,_⟩:=Ao7 (.inr h)
   rw [(A83 h1 h2 h3).2]
  ·rfl
theorem mergeP_ne {b x y:PArr} : Af1 b x y≠[]↔Aa7 b x y=19:=by
 unfold Af1
 constructor
 ·intro h
  split at h
  ·assumption
  ·exact absurd rfl h
 ·intro h
  rw [if_pos h]
  obtain ⟨h1,h2,h3,h4,h5⟩:=Ao7 (.inr h)
  unfold Aa7 at h
  rw [if_neg (by simp [h1,h2,h3]),if_neg (by simp [h4,h5])] at h
  cases e:mrgX (mWalk b x y) with
  | none=>rw [e,if_pos rfl] at h; cases h
  | some p=>
   unfold mrgX at e
   cases h6:(mWalk b x y).find? (fun w=>(mrgV w.2).isNone) with
   | none=>rw [h6] at e; cases e
   | some w=>
    rw [h6] at e
    obtain ⟨_,⟨l,hl,c,hc,h7⟩,_⟩:=A22 w (List.mem_of_find?_eq_some h6)
    have h8:w.1=p:=by simpa using e
    show p≠[]
    rw [← h8,← h7]
    simp only [List.mem_cons,List.not_mem_nil,or_false] at hl
    rcases hl with rfl | rfl | rfl
    ·exact Ag6 h1 c hc
    ·exact Ag6 h2 c hc
    ·exact Ag6 h3 c hc
theorem Bf4:∀ {l m:List PCell},Srt l→Srt m→(∀ c,c∈l↔c∈m)→l=m
 | [],[],_,_,_=>rfl
 | [],b :: m,_,_,h=>absurd ((h b).2 (by simp)) (by simp)
 | a :: l,[],_,_,h=>absurd ((h a).1 (by simp)) (by simp)
 | a :: l,b :: m,h1,h2,h=>by
  obtain ⟨p1,p2⟩:=List.pairwise_cons.1 h1
  obtain ⟨q1,q2⟩:=List.pairwise_cons.1 h2
  have hab:a=b:=by
   rcases List.mem_cons.1 ((h a).1 (by simp)) with h3 | h3
   ·exact h3
   ·rcases List.mem_cons.1 ((h b).2 (by simp)) with h4 | h4
    ·exact h4.symm
    ·have:=Ac8 (q1 a h3) (p1 b h4)
     exact absurd rfl (lt_ne this)
  subst hab
  rw [Bf4 p2 q2 fun q=>?_]
  constructor
  ·intro hq
   rcases List.mem_cons.1 ((h q).1 (List.mem_cons_of_mem _ hq)) with h3 | h3
   ·exact absurd (congrArg PCell.pos h3).symm (lt_ne (p1 q hq))
   ·exact h3
  ·intro hq
   rcases List.mem_cons.1 ((h q).2 (List.mem_cons_of_mem _ hq)) with h3 | h3
   ·exact absurd (congrArg PCell.pos h3).symm (lt_ne (q1 q hq))
   ·exact h3
theorem As7 {b x y:PArr} (hb:Aa1 b=0) (hx:Aa1 x=0) (hy:Aa1 y=0) (hV:∀ p,mrgV [Ab9 b.cells p,Ab9 x.cells p,Ab9 y.cells p]=some (Ab9 y.cells p)):mrgC (mWalk b x y)=y.cells∧mrgX (mWalk b x y)=none:=by
 have hS:∀ h∈[b.cells,x.cells,y.cells],Srt h:=fun h hh=>by
  simp only [List.mem_cons,List.not_mem_nil,or_false] at hh
  rcases hh with rfl | rfl | rfl
  ·exact (Aa3 hb).1
  ·exact (Aa3 hx).1
  ·exact (Aa3 hy).1
 obtain ⟨w1,w2,w3⟩:=Am2 (n:=tot [b.cells,x.cells,y.cells]) hS (Nat.le_refl _)
 have hv:∀ w∈mWalk b x y,mrgV w.2=some (Ab9 y.cells w.1):=fun w hw=>by rw [w3 w hw]; exact hV w.1
 refine ⟨Bf4 (A25 w1) (Aa3 hy).1 fun c=>⟨fun hc=>?_,fun hc=>?_⟩,A59 fun w hw=>by rw [hv w hw]; simp⟩
 ·obtain ⟨w,hw,hc⟩:=List.mem_flatMap.1 hc
  unfold mrg1 at hc
  rw [hv w hw] at hc
  simp only at hc
  split at hc
  ·cases hc
  ·rename_i h
   obtain rfl:=List.mem_singleton.1 hc
   obtain ⟨c',h1,h2,h3⟩:=Bf1 h
   obtain ⟨p,v⟩:=c'
   simp only at h2 h3
   rw [← h3,← h2]; exact h1
 ·obtain ⟨w,hw,h2⟩:=(w2 c.pos).2 ⟨y.cells,by simp,c,hc,rfl⟩
  refine List.mem_flatMap.2 ⟨w,hw,?_⟩
  have h3:Ab9 y.cells c.pos=c.vals:=by
   obtain ⟨i,hi,rfl⟩:=List.getElem_of_mem hc
   exact Bh2 (Ap9 hy) hi
  unfold mrg1
  rw [hv w hw,h2,h3]
  simp only
  rw [if_neg (Ai3 hy c hc)]
  exact List.mem_singleton.2 rfl
theorem Br7 (u w:List PVal):mrgV [u,u,w]=some w:=by
 rw [Aq5]
 by_cases h:u=w
 ·rw [if_pos (.inl h),h]
 ·rw [if_neg (fun h2=>h2.elim h h),if_pos rfl]
theorem Br8 (u w:List PVal):mrgV [u,w,w]=some w:=by rw [Aq5,if_pos (.inl rfl)]
theorem A84 (b:PArr):Ac4 b b=true:=by unfold Ac4; simp
theorem Bh8 (b y:PArr):Aa7 b b y=Aa7 b y y∧(Aa7 b b y=0→Ad0 b b y=y∧Ad0 b y y=y∧Aa1 y=0):=by
 have h1:Aa7 b b y=if Aa1 b≠0∨Aa1 y≠0 then 2 else if Ac4 b y=false then 13 else 0:=by
  unfold Aa7
  by_cases h:Aa1 b≠0∨Aa1 y≠0
  ·rw [if_pos h,if_pos (by grind)]
  ·have hb:Aa1 b=0:=Classical.byContradiction fun h4=>h (.inl h4)
   have hy:Aa1 y=0:=Classical.byContradiction fun h4=>h (.inr h4)
   rw [if_neg h,if_neg (by grind),(As7 (b:=b) (x:=b) (y:=y) hb hb hy fun p=>Br7 _ _).2,if_pos rfl]
   simp only [A84]
   simp
 have h2:Aa7 b y y=if Aa1 b≠0∨Aa1 y≠0 then 2 else if Ac4 b y=false then 13 else 0:=by
  unfold Aa7
  by_cases h:Aa1 b≠0∨Aa1 y≠0
  ·rw [if_pos h,if_pos (by grind)]
  ·have hb:Aa1 b=0:=Classical.byContradiction fun h4=>h (.inl h4)
   have hy:Aa1 y=0:=Classical.byContradiction fun h4=>h (.inr h4)
   rw [if_neg h,if_neg (by grind),(As7 (b:=b) (x:=y) (y:=y) hb hy hy fun p=>Br8 _ _).2,if_pos rfl]
   simp
 refine ⟨h1.trans h2.symm,fun h0=>?_⟩
 obtain ⟨hb,_,hy,_,ha⟩:=Ao7 (.inl h0)
 obtain ⟨e1,e2⟩:=Aw4 ha
 have fin:∀ C,C=y.cells→(⟨b.dims,b.attrs,C⟩:PArr)=y:=fun C hC=>by rw [e1,e2,hC]
 refine ⟨?_,?_,hy⟩
 ·unfold Ad0
  rw [if_pos h0]
  exact fin _ (As7 hb hb hy fun p=>Br7 _ _).1
 ·unfold Ad0
  rw [if_pos (by rw [← h1.trans h2.symm]; exact h0)]
  exact fin _ (As7 hb hy hy fun p=>Br8 _ _).1
end Go.DD

/- VersionSides returns true: as a contract. Conditions: none. -/
namespace Go.DD
set_option linter.unusedSectionVars false
set_option linter.unusedVariables false
open Go Go.Proofs
theorem Br9 (b x y:PArr) (hl:b.cells.length+x.cells.length+y.cells.length≤128):Aa1 (Ad0 b x y)=0∨Ad0 b x y=noA:=by
 unfold Ad0
 split
 ·rename_i h
  obtain ⟨h1,h2,h3,h4,h5⟩:=Ao7 (.inl h)
  exact .inl (A60 h1 h2 h3 h4 h5 hl)
 ·exact .inr rfl
theorem Bs0 (b x y:PArr):Known Tryz.prog 5 [dArr b,dArr x,dArr y] (.v (.bool true)):=by
 refine Known.run1 mixed te_ok (Bd3 (n:=1000000) mixed te_ok B95 18) t5 (Nat.le_of_ble_eq_true rfl) (fun x hx=>?_) rfl (fun _=>B84 rfl) fun es he=>?_
 ·simp only [List.mem_cons,List.mem_nil_iff,or_false] at hx
  rcases hx with rfl | rfl | rfl <;> rfl
 have a0:rawE es (.t .o)=dArr b:=he 0 _ rfl
 have a1:rawE es (.t (.l .o))=dArr x:=he 1 _ rfl
 have a2:rawE es (.t (.r .o))=dArr y:=he 2 _ rfl
 have ar:∀ (z:PArr) (hp:Tr DObj),∃ a b c,dArr z=.agg [a,b,c]∧RL rDim hp (Bl 0) a z.dims∧RL rAttr hp (Bl 0) b z.attrs∧RL rCell hp (Bl 0) c z.cells:=fun z hp=>⟨_,_,_,rfl,.sl _,.sl _,.sl _⟩
 obtain ⟨d,a,c,e1,r1,r2,r3⟩:=ar b es.hp
 obtain ⟨d',a',c',e2,s1,s2,s3⟩:=ar x es.hp
 obtain ⟨d'',a'',c'',e3,t1,t2,t3⟩:=ar y es.hp
 rw [e1] at a0
 rw [e2] at a1
 rw [e3] at a2
 unfold r5
 have hn:0≤es.nx:=Nat.zero_le _
 simp only [↓bSb]
 refine Ab6 (cs:=[d,a,c]) (by rw [evt,a0]; exact AR.live r1 r2 r3) fun hp1 hg1 hk1=>?_
 simp only [bR] at hg1 hk1
 have hal1:Al es.hp es.nx hp1 (es.nx+1):=⟨by omega,fun j hj=>hk1 j (by omega)⟩
 simp only [bSa,↓bSb]
 refine Ab6 (cs:=[d',a',c']) (by simp only [evt,bR,reduceCtorEq,a1]; exact AR.live (s1.ka hn hal1) (s2.ka hn hal1) (s3.ka hn hal1)) fun hp2 hg2 hk2=>?_
 simp only [bR] at hg2 hk2
 have hal2:Al es.hp es.nx hp2 (es.nx+1+1):=⟨by omega,fun j hj=>by rw [hk2 j (by omega),hk1 j (by omega)]⟩
 simp only [bSa,↓bSb]
 refine Ab6 (cs:=[d'',a'',c'']) (by simp only [evt,bR,reduceCtorEq,a2]; exact AR.live (t1.ka hn hal2) (t2.ka hn hal2) (t3.ka hn hal2)) fun hp3 hg3 hk3=>?_
 simp only [bR] at hg3 hk3
 have hal3:Al es.hp es.nx hp3 (es.nx+1+1+1):=⟨by omega,fun j hj=>by rw [hk3 j (by omega),hal2.same j hj]⟩
 have q1:hp3.get es.nx=some (.row 26 [d,a,c]):=by rw [hk3 _ (by omega),hk2 _ (by omega),hg1]
 have q2:hp3.get (es.nx+1)=some (.row 26 [d',a',c']):=by rw [hk3 _ (by omega),hg2]
 have q3:hp3.get (es.nx+1+1)=some (.row 26 [d'',a'',c'']):=hg3
 have hrA:∀ {hp' nx'},Al es.hp es.nx hp' nx'→AR hp' (Bl 0) (.agg [d,a,c]) b:=fun h=>⟨d,a,c,rfl,r1.ka hn h,r2.ka hn h,r3.ka hn h⟩
 have hrB:∀ {hp' nx'},Al es.hp es.nx hp' nx'→AR hp' (Bl 0) (.agg [d',a',c']) x:=fun h=>⟨d',a',c',rfl,s1.ka hn h,s2.ka hn h,s3.ka hn h⟩
 have hrC:∀ {hp' nx'},Al es.hp es.nx hp' nx'→AR hp' (Bl 0) (.agg [d'',a'',c'']) y:=fun h=>⟨d'',a'',c'',rfl,t1.ka hn h,t2.ka hn h,t3.ka hn h⟩
 obtain ⟨_,_,_,_,lA⟩:=Aa0 q1
 simp only [bSa,↓bSb,reduceCtorEq,lA]
 refine kws (Bo9 15 _ _ _ _ b 30 0 (by omega) (hrA hal3) (by omega) fun hp4 nx4 hal4=>?_)
 have hle4:=hal4.le
 have ha4:=hal3.trans hal4
 obtain ⟨_,_,_,_,lB4⟩:=Aa0 ((hal4.same (es.nx+1) (by omega)).trans q2)
 cases c1:fewA b 30 with
 | false=>
  simp only [bSa,↓bSb,reduceCtorEq]
  refine kws (Ao2 17 _ _ _ ?_)
  simp only [bSa,↓bSb,bP,reduceCtorEq]
 | true=>
  simp only [bSa,↓bSb,reduceCtorEq,lB4]
  refine kws (Bo9 15 _ _ _ _ x 30 0 (by omega) (hrB ha4) (by omega) fun hp5 nx5 hal5=>?_)
  have hle5:=hal5.le
  have ha5:=ha4.trans hal5
  have k5:∀ j,j < es.nx+1+1+1→hp5.get j=hp3.get j:=fun j hj=>(hal5.same j (by omega)).trans (hal4.same j (by omega))
  obtain ⟨_,_,_,_,lC5⟩:=Aa0 ((k5 (es.nx+1+1) (by omega)).trans q3)
  cases c2:fewA x 30 with
  | false=>
   simp only [bSa,↓bSb,reduceCtorEq]
   refine kws (Ao2 17 _ _ _ ?_)
   simp only [bSa,↓bSb,bP,reduceCtorEq]
  | true=>
   simp only [bSa,↓bSb,reduceCtorEq,lC5]
   refine kws (Bo9 15 _ _ _ _ y 30 0 (by omega) (hrC ha5) (by omega) fun hp6 nx6 hal6=>?_)
   have hle6:=hal6.le
   have ha6:=ha5.trans hal6
   have k6:∀ j,j < es.nx+1+1+1→hp6.get j=hp3.get j:=fun j hj=>(hal6.same j (by omega)).trans (k5 j hj)
   obtain ⟨_,_,_,_,lA6⟩:=Aa0 ((k6 es.nx (by omega)).trans q1)
   obtain ⟨_,_,_,_,lB6⟩:=Aa0 ((k6 (es.nx+1) (by omega)).trans q2)
   obtain ⟨_,_,_,_,lC6⟩:=Aa0 ((k6 (es.nx+1+1) (by omega)).trans q3)
   cases c3:fewA y 30 with
   | false=>
    simp only [bSa,↓bSb,reduceCtorEq]
    refine kws (Ao2 17 _ _ _ ?_)
    simp only [bSa,↓bSb,bP,reduceCtorEq]
   | true=>
    have hb:=A80 c1 (by omega)
    have hx:=A80 c2 (by omega)
    have hy:=A80 c3 (by omega)
    have hl1:=Aw5 c1
    have hl2:=Aw5 c2
    have hl3:=Aw5 c3
    obtain ⟨hE,hA,hP⟩:=Bx8 b x y
    simp only [bSa,↓bSb,reduceCtorEq,lA6,lB6,lC6]
    refine kws (As6 0 0 _ _ _ _ _ _ b x y (by omega) (hrA ha6) (hrB ha6) (hrC ha6) hb hx hy (by omega) fun hp7 nx7 u7 p7 hal7 har7 hrp7=>?_)
    have hle7:=hal7.le
    have ha7:=ha6.trans hal7
    obtain ⟨x71,x72,x73,rfl,v71,v72,v73⟩:=har7
    obtain ⟨y0,y1,y2⟩:=ext_m (e:=Aa7 b x y) v71 v72 v73 hrp7
    simp only [bSa,↓bSb,reduceCtorEq,y0,y1,y2]
    refine Ad3 fun hq7 hgq7 hkq7=>?_
    simp only [bR] at hgq7 hkq7
    have kq7:∀ j,j < nx7→hq7.get j=hp7.get j:=fun j hj=>hkq7 j (by omega)
    simp only [bSa,↓bSb]
    refine Ac6 (n:=3) (id:=nx7) (ds:=[x71,x72,x73]) (by simp only [bR]) hgq7 (by simp only [evt,bR,reduceCtorEq]; exact AR.live (x:=Ad0 b x y) (v71.keep (hp':=hq7) fun j hj=>kq7 j hj.2) (v72.keep (hp':=hq7) fun j hj=>kq7 j hj.2) (v73.keep (hp':=hq7) fun j hj=>kq7 j hj.2)) rfl rfl fun hp8 hg8 hk8=>?_
    simp only [bR] at hg8 hk8
    have kk8:∀ j,j < nx7→hp8.get j=hp7.get j:=fun j hj=>(hk8 j (by omega)).trans (kq7 j hj)
    have k8:∀ j,j < es.nx+1+1+1→hp8.get j=hp3.get j:=fun j hj=>(kk8 j (by omega)).trans ((hal7.same j (by omega)).trans (k6 j hj))
    have ha8:Al es.hp es.nx hp8 (nx7+1):=⟨by omega,fun j hj=>by rw [kk8 j (by omega),ha7.same j hj]⟩
    have w81:=v71.keep (hp':=hp8) fun j hj=>kk8 j hj.2
    have w82:=v72.keep (hp':=hp8) fun j hj=>kk8 j hj.2
    have w83:=v73.keep (hp':=hp8) fun j hj=>kk8 j hj.2
    have wp8:=hrp7.keep (hp':=hp8) fun j hj=>kk8 j hj.2
    obtain ⟨_,_,_,_,lA8⟩:=Aa0 ((k8 es.nx (by omega)).trans q1)
    obtain ⟨_,_,_,_,lB8⟩:=Aa0 ((k8 (es.nx+1) (by omega)).trans q2)
    obtain ⟨_,_,_,_,lC8⟩:=Aa0 ((k8 (es.nx+1+1) (by omega)).trans q3)
    simp only [bSa,↓bSb,reduceCtorEq]
    simp only [bSa,lA8,lB8,lC8]
    refine kws (As6 0 0 _ _ _ _ _ _ b y x (by omega) (hrA ha8) (hrC ha8) (hrB ha8) hb hy hx (by omega) fun hp9 nx9 u9 p9 hal9 har9 hrp9=>?_)
    have hle9:=hal9.le
    have ha9:=ha8.trans hal9
    rw [← hA] at har9
    rw [← hP] at hrp9
    rw [← hE]
    obtain ⟨x91,x92,x93,rfl,v91,v92,v93⟩:=har9
    obtain ⟨y0,y1,y2⟩:=ext_m (e:=Aa7 b x y) v91 v92 v93 hrp9
    simp only [bSa,↓bSb,reduceCtorEq,y0,y1,y2]
    refine Ad3 fun hq9 hgq9 hkq9=>?_
    simp only [bR] at hgq9 hkq9
    have kq9:∀ j,j < nx9→hq9.get j=hp9.get j:=fun j hj=>hkq9 j (by omega)
    simp only [bSa,↓bSb]
    refine Ac6 (n:=3) (id:=nx9) (ds:=[x91,x92,x93]) (by simp only [bR]) hgq9 (by simp only [evt,bR,reduceCtorEq]; exact AR.live (x:=Ad0 b x y) (v91.keep (hp':=hq9) fun j hj=>kq9 j hj.2) (v92.keep (hp':=hq9) fun j hj=>kq9 j hj.2) (v93.keep (hp':=hq9) fun j hj=>kq9 j hj.2)) rfl rfl fun hp10 hg10 hk10=>?_
    simp only [bR] at hg10 hk10
    have kk10:∀ j,j < nx9→hp10.get j=hp9.get j:=fun j hj=>(hk10 j (by omega)).trans (kq9 j hj)
    have k10:∀ j,j < es.nx+1+1+1→hp10.get j=hp3.get j:=fun j hj=>(kk10 j (by omega)).trans ((hal9.same j (by omega)).trans (k8 j hj))
    have ha10:Al es.hp es.nx hp10 (nx9+1):=⟨by omega,fun j hj=>by rw [kk10 j (by omega),ha9.same j hj]⟩
    have w101:=v91.keep (hp':=hp10) fun j hj=>kk10 j hj.2
    have w102:=v92.keep (hp':=hp10) fun j hj=>kk10 j hj.2
    have w103:=v93.keep (hp':=hp10) fun j hj=>kk10 j hj.2
    have wp10:=hrp9.keep (hp':=hp10) fun j hj=>kk10 j hj.2
    obtain ⟨_,_,_,_,lA10⟩:=Aa0 ((k10 es.nx (by omega)).trans q1)
    obtain ⟨_,_,_,_,lB10⟩:=Aa0 ((k10 (es.nx+1) (by omega)).trans q2)
    obtain ⟨_,_,_,_,lC10⟩:=Aa0 ((k10 (es.nx+1+1) (by omega)).trans q3)
    have g8:hp10.get nx7=_:=(kk10 nx7 (by omega)).trans ((hal9.same nx7 (by omega)).trans hg8)
    have c8:∀ j,j < nx7+1→hp10.get j=hp8.get j:=fun j hj=>(kk10 j (by omega)).trans (hal9.same j hj)
    obtain ⟨_,_,_,_,lX⟩:=Aa0 g8
    obtain ⟨_,_,_,_,lY⟩:=Aa0 hg10
    have b1:∀ j,Bw nx6 nx7 j→Bl (nx9+1) j:=fun j hj=>by have:=hj.2; show j < _; omega
    have b2:∀ j,Bw (nx7+1) nx9 j→Bl (nx9+1) j:=fun j hj=>by have:=hj.2; show j < _; omega
    have c8':∀ j,Bw nx6 nx7 j→hp10.get j=hp8.get j:=fun j hj=>c8 j (by have:=hj.2; omega)
    simp only [bSa,↓bSb,reduceCtorEq,lX,lY]
    refine kws (Br5 9 (nx9+1) _ _ _ _ _ (Ad0 b x y) (Nat.le_refl _) ⟨_,_,_,rfl,(w81.keep c8').mono b1,(w82.keep c8').mono b1,(w83.keep c8').mono b1⟩ ⟨_,_,_,rfl,w101.mono b2,w102.mono b2,w103.mono b2⟩ (Br4 hb hx hy (by omega)) (Br9 b x y (by omega)) fun hp11 nx11 hal11=>?_)
    have hle11:=hal11.le
    have z8:=((wp8.keep c8').mono b1).ka (Nat.le_refl _) hal11
    have z10:=(wp10.mono b2).ka (Nat.le_refl _) hal11
    simp only [bSa,↓bSb,reduceCtorEq]
    refine kws (Af7 14 (nx9+1) _ _ _ p7 p9 (Af1 b x y) (Af1 b x y) (by omega) z8 z10 (Bh6 hb hx hy) ?_)
    have hlen:(decide ((0:Int) < ((Af1 b x y).length:Int)))=decide (Aa7 b x y=19):=by
     refine decide_eq_decide.2 ⟨fun h=>mergeP_ne.1 fun e=>by rw [e] at h; simp at h,fun h=>?_⟩
     have:=mergeP_ne.2 h
     have:=List.length_pos_iff.2 this
     omega
    have ha11:Al es.hp es.nx hp11 nx11:=⟨by omega,fun j hj=>(hal11.same j (by omega)).trans (ha10.same j hj)⟩
    have k11:∀ j,j < es.nx+1+1+1→hp11.get j=hp3.get j:=fun j hj=>(hal11.same j (by omega)).trans (k10 j hj)
    obtain ⟨_,_,_,_,lA11⟩:=Aa0 ((k11 es.nx (by omega)).trans q1)
    obtain ⟨_,_,_,_,lB11⟩:=Aa0 ((k11 (es.nx+1) (by omega)).trans q2)
    obtain ⟨_,_,_,_,lC11⟩:=Aa0 ((k11 (es.nx+1+1) (by omega)).trans q3)
    simp only [bSa,↓bSb,bP,reduceCtorEq,Aw0,show decide (¬ (0:Int)=0)=false from rfl,z8.len,hlen]
    obtain ⟨hB1,hB2⟩:=Bh8 b y
    simp only [bSa,show bbD true (.v (.bool (decide (Aa7 b x y=19)))) (.v (.bool (decide (Aa7 b x y=19))))=some (.v (.bool false)) by rw [bb_n]; simp,lA11,lC11]
    refine kws (As6 0 0 _ _ _ _ _ _ b b y (by omega) (hrA ha11) (hrA ha11) (hrC ha11) hb hb hy (by omega) fun hp12 nx12 u12 p12 hal12 har12 hrp12=>?_)
    have hle12:=hal12.le
    have ha12:=ha11.trans hal12
    obtain ⟨x121,x122,x123,rfl,v121,v122,v123⟩:=har12
    obtain ⟨y0,y1,y2⟩:=ext_m (e:=Aa7 b b y) v121 v122 v123 hrp12
    simp only [bSa,↓bSb,reduceCtorEq,y0,y1,y2]
    refine Ad3 fun hq12 hgq12 hkq12=>?_
    simp only [bR] at hgq12 hkq12
    have kq12:∀ j,j < nx12→hq12.get j=hp12.get j:=fun j hj=>hkq12 j (by omega)
    simp only [bSa,↓bSb]
    refine Ac6 (n:=3) (id:=nx12) (ds:=[x121,x122,x123]) (by simp only [bR]) hgq12 (by simp only [evt,bR,reduceCtorEq]; exact AR.live (x:=Ad0 b b y) (v121.keep (hp':=hq12) fun j hj=>kq12 j hj.2) (v122.keep (hp':=hq12) fun j hj=>kq12 j hj.2) (v123.keep (hp':=hq12) fun j hj=>kq12 j hj.2)) rfl rfl fun hp13 hg13 hk13=>?_
    simp only [bR] at hg13 hk13
    have kk13:∀ j,j < nx12→hp13.get j=hp12.get j:=fun j hj=>(hk13 j (by omega)).trans (kq12 j hj)
    have k13:∀ j,j < es.nx+1+1+1→hp13.get j=hp3.get j:=fun j hj=>(kk13 j (by omega)).trans ((hal12.same j (by omega)).trans (k11 j hj))
    have ha13:Al es.hp es.nx hp13 (nx12+1):=⟨by omega,fun j hj=>by rw [kk13 j (by omega),ha12.same j hj]⟩
    have w131:=v121.keep (hp':=hp13) fun j hj=>kk13 j hj.2
    have w132:=v122.keep (hp':=hp13) fun j hj=>kk13 j hj.2
    have w133:=v123.keep (hp':=hp13) fun j hj=>kk13 j hj.2
    have wp13:=hrp12.keep (hp':=hp13) fun j hj=>kk13 j hj.2
    obtain ⟨_,_,_,_,lA13⟩:=Aa0 ((k13 es.nx (by omega)).trans q1)
    obtain ⟨_,_,_,_,lB13⟩:=Aa0 ((k13 (es.nx+1) (by omega)).trans q2)
    obtain ⟨_,_,_,_,lC13⟩:=Aa0 ((k13 (es.nx+1+1) (by omega)).trans q3)
    simp only [bSa,↓bSb,reduceCtorEq,lA13,lC13]
    refine kws (As6 0 0 _ _ _ _ _ _ b y y (by omega) (hrA ha13) (hrC ha13) (hrC ha13) hb hy hy (by omega) fun hp14 nx14 u14 p14 hal14 har14 hrp14=>?_)
    have hle14:=hal14.le
    have ha14:=ha13.trans hal14
    rw [← hB1]
    obtain ⟨x141,x142,x143,rfl,v141,v142,v143⟩:=har14
    obtain ⟨y0,y1,y2⟩:=ext_m (e:=Aa7 b b y) v141 v142 v143 hrp14
    simp only [bSa,↓bSb,reduceCtorEq,y0,y1,y2]
    refine Ad3 fun hq14 hgq14 hkq14=>?_
    simp only [bR] at hgq14 hkq14
    have kq14:∀ j,j < nx14→hq14.get j=hp14.get j:=fun j hj=>hkq14 j (by omega)
    simp only [bSa,↓bSb]
    refine Ac6 (n:=3) (id:=nx14) (ds:=[x141,x142,x143]) (by simp only [bR]) hgq14 (by simp only [evt,bR,reduceCtorEq]; exact AR.live (x:=Ad0 b y y) (v141.keep (hp':=hq14) fun j hj=>kq14 j hj.2) (v142.keep (hp':=hq14) fun j hj=>kq14 j hj.2) (v143.keep (hp':=hq14) fun j hj=>kq14 j hj.2)) rfl rfl fun hp15 hg15 hk15=>?_
    simp only [bR] at hg15 hk15
    have kk15:∀ j,j < nx14→hp15.get j=hp14.get j:=fun j hj=>(hk15 j (by omega)).trans (kq14 j hj)
    have k15:∀ j,j < es.nx+1+1+1→hp15.get j=hp3.get j:=fun j hj=>(kk15 j (by omega)).trans ((hal14.same j (by omega)).trans (k13 j hj))
    have ha15:Al es.hp es.nx hp15 (nx14+1):=⟨by omega,fun j hj=>by rw [kk15 j (by omega),ha14.same j hj]⟩
    have w151:=v141.keep (hp':=hp15) fun j hj=>kk15 j hj.2
    have w152:=v142.keep (hp':=hp15) fun j hj=>kk15 j hj.2
    have w153:=v143.keep (hp':=hp15) fun j hj=>kk15 j hj.2
    have wp15:=hrp14.keep (hp':=hp15) fun j hj=>kk15 j hj.2
    obtain ⟨_,_,_,_,lA15⟩:=Aa0 ((k15 es.nx (by omega)).trans q1)
    obtain ⟨_,_,_,_,lB15⟩:=Aa0 ((k15 (es.nx+1) (by omega)).trans q2)
    obtain ⟨_,_,_,_,lC15⟩:=Aa0 ((k15 (es.nx+1+1) (by omega)).trans q3)
    have c13:∀ j,j < nx12+1→hp15.get j=hp13.get j:=fun j hj=>(kk15 j (by omega)).trans (hal14.same j hj)
    obtain ⟨_,_,_,_,lZ⟩:=Aa0 ((c13 nx12 (by omega)).trans hg13)
    obtain ⟨_,_,_,_,lW⟩:=Aa0 hg15
    by_cases d1:Aa7 b b y=0
    ·obtain ⟨hZ,hW,hyc⟩:=hB2 d1
     rw [hZ] at w131 w132 w133
     rw [hW] at w151 w152 w153
     have b3:∀ j,Bw nx11 nx12 j→Bl (nx14+1) j:=fun j hj=>by have:=hj.2; show j < _; omega
     have b4:∀ j,Bw (nx12+1) nx14 j→Bl (nx14+1) j:=fun j hj=>by have:=hj.2; show j < _; omega
     have b0:∀ j,Bl 0 j→Bl (nx14+1) j:=fun j hj=>by have:j < 0:=hj; omega
     have c13':∀ j,Bw nx11 nx12 j→hp15.get j=hp13.get j:=fun j hj=>c13 j (by have:=hj.2; omega)
     have t1':=t1.ka hn ha15
     have t2':=t2.ka hn ha15
     have t3':=t3.ka hn ha15
     have sT:sameA y y=true:=decide_eq_true ⟨hyc,hyc,rfl⟩
     simp only [bSa,↓bSb,reduceCtorEq,d1,lZ,lC15]
     refine kws (Aw6 10 (nx14+1) _ _ _ _ _ y y (Nat.le_refl _) ⟨_,_,_,rfl,(w131.keep c13').mono b3,(w132.keep c13').mono b3,(w133.keep c13').mono b3⟩ ⟨_,_,_,rfl,t1'.mono b0,t2'.mono b0,t3'.mono b0⟩ hy hy fun hp16 nx16 hal16=>?_)
     have hle16:=hal16.le
     have k16:∀ j,j < nx14+1→hp16.get j=hp15.get j:=fun j hj=>hal16.same j hj
     obtain ⟨_,_,_,_,lW⟩:=Aa0 ((k16 nx14 (by omega)).trans hg15)
     obtain ⟨_,_,_,_,lC16⟩:=Aa0 ((k16 (es.nx+1+1) (by omega)).trans ((k15 (es.nx+1+1) (by omega)).trans q3))
     simp only [bSa,↓bSb,reduceCtorEq,sT,lW,lC16]
     refine kws (Aw6 10 (nx14+1) _ _ _ _ _ y y (by omega) ⟨_,_,_,rfl,(w151.mono b4).ka (Nat.le_refl _) hal16,(w152.mono b4).ka (Nat.le_refl _) hal16,(w153.mono b4).ka (Nat.le_refl _) hal16⟩ ⟨_,_,_,rfl,(t1'.mono b0).ka (Nat.le_refl _) hal16,(t2'.mono b0).ka (Nat.le_refl _) hal16,(t3'.mono b0).ka (Nat.le_refl _) hal16⟩ hy hy fun hp17 nx17 hal17=>?_)
     simp only [bSa,↓bSb,reduceCtorEq,sT]
     refine kws (Ao2 17 _ _ _ ?_)
     simp only [bSa,↓bSb,bP,reduceCtorEq]
    ·simp only [bSa,↓bSb,reduceCtorEq,d1]
     refine kws (Ao2 17 _ _ _ ?_)
     simp only [bSa,↓bSb,bP,reduceCtorEq]
end Go.DD

/- What the model's memory reads as: structs, slices of structs, nested. Conditions: those that each theorem states. -/
namespace Go.DD
set_option linter.unusedSectionVars false
set_option linter.unusedVariables false
open Go Go.ChangeShapes Go.WideShapes Go.ChangeAt Go.RowKit
theorem lt_of_cell {W:World} {a:Addr} {v:Value} (h:W.cell? a=some v):a.block < W.heap.size:=by
 rcases Nat.lt_or_ge a.block W.heap.size with h' | h'
 ·exact h'
 ·simp [World.cell?,Array.getElem?_eq_none h'] at h
structure RC (W:World) (us:List Value) (ds:List DV):Prop where
 len:us.length=ds.length
 one:∀ u∈us,u.oneCell'=true
 rel:∀ (j:Nat) (u:Value) (d:DV),us[j]?=some u→ds[j]?=some d→RelI W (fun b=>b < W.heap.size) u d
theorem RC.nil (W:World):RC W [] []:=⟨rfl,fun u h=>by (cases h),fun j u d h=>by simp at h⟩
theorem RC.app {W:World} {us vs:List Value} {ds es:List DV} (h1:RC W us ds) (h2:RC W vs es):RC W (us ++ vs) (ds ++ es):=by
 refine ⟨by rw [List.length_append,List.length_append,h1.len,h2.len],fun u hu=>?_,fun j u d hu hd=>?_⟩
 ·rcases List.mem_append.1 hu with h | h
  ·exact h1.one u h
  ·exact h2.one u h
 ·rcases Nat.lt_or_ge j us.length with h | h
  ·rw [List.getElem?_append_left h] at hu
   rw [List.getElem?_append_left (by rw [← h1.len]; exact h)] at hd
   exact h1.rel j u d hu hd
  ·rw [List.getElem?_append_right h] at hu
   rw [List.getElem?_append_right (by rw [← h1.len]; exact h),← h1.len] at hd
   exact h2.rel _ u d hu hd
theorem RC.one1 {W:World} {u:Value} {d:DV} (h1:u.oneCell'=true) (h:RelI W (fun b=>b < W.heap.size) u d):RC W [u] [d]:=by
 refine ⟨rfl,fun v hv=>by rw [List.mem_singleton.1 hv]; exact h1,fun j v e hv he=>?_⟩
 cases j with
 | zero=>cases hv; cases he; exact h
 | succ j=>simp at hv
section
variable {H:Type} (enc:TypeId×Value→H) (P:Program) (W:World)
def Rd {α:Type} (t:TypeId) (F:α→List DV):Prop:=∀ (n:Nat) (cs:List Value) (x:DataW H×List MemPlace),DataW.trod enc P W 0 (fun _=>true) true n t cs=some x→∃ a:α,RC W cs (F a)
variable {enc P W}
theorem Aw7 {t:TypeId} (ht:P.underlying t=some (.int .i64)):Rd enc P W t (fun n:Int=>[iv n]):=fun n cs x h=>by
 obtain ⟨z,rfl,_,_⟩:=DataW.trod_int ht h
 exact ⟨z,.one1 rfl (.v _)⟩
theorem Bs1 {t:TypeId} (ht:P.underlying t=some .string):Rd enc P W t (fun s:ByteArray=>[sv s]):=fun n cs x h=>by
 obtain ⟨s,rfl,_,_⟩:=DataW.trod_string ht h
 exact ⟨s,.one1 rfl (.v _)⟩
theorem Af5 {t:TypeId} {fs:Array Field} (ht:P.underlying t=some (.struct fs)) {n:Nat} {cs:List Value} {x:DataW H×List MemPlace} (h:DataW.trod enc P W 0 (fun _=>true) true n t cs=some x) (i:Nat) {ti oi:Nat} (hi:(fs.toList.map fun f=>(f.type,f.offset))[i]?=some (ti,oi)) :
  cs.length=P.cellsOf t∧∃ m y,DataW.trod enc P W 0 (fun _=>true) true m ti ((cs.drop oi).take (P.cellsOf ti))=some y:=by
 obtain ⟨xs,m,_,_,hl,hlen,hf⟩:=DataW.trod_struct ht h
 rw [List.getElem?_map] at hi
 obtain ⟨f,hf1,hf2⟩:=Option.map_eq_some_iff.1 hi
 cases hf2
 have hf1':fs[i]?=some f:=by rw [← hf1]; exact (Array.getElem?_toList).symm
 have hlt:i < fs.size:=by
  rcases Nat.lt_or_ge i fs.size with h | h
  ·exact h
  ·rw [Array.getElem?_eq_none h] at hf1'; cases hf1'
 have h2:=hf i f hf1'
 rw [List.getElem?_eq_getElem (by omega)] at h2
 exact ⟨hl,m,_,h2⟩
theorem Ay6 {α β:Type} {t t0 t1 k0 k1:Nat} {fs:Array Field} {F0:α→List DV} {F1:β→List DV} (ht:P.underlying t=some (.struct fs)) (hfs:fs.toList.map (fun f=>(f.type,f.offset))=[(t0,0),(t1,k0)]) (h0:P.cellsOf t0=k0) (h1:P.cellsOf t1=k1) (hC:P.cellsOf t=k0+k1) (r0:Rd enc P W t0 F0) (r1:Rd enc P W t1 F1):Rd enc P W t (fun p:α×β=>F0 p.1 ++ F1 p.2):=fun n cs x h=>by
 obtain ⟨hl,_,_,g0⟩:=Af5 ht h 0 (by rw [hfs]; rfl)
 obtain ⟨_,_,_,g1⟩:=Af5 ht h 1 (by rw [hfs]; rfl)
 obtain ⟨a,ha⟩:=r0 _ _ _ g0
 obtain ⟨b,hb⟩:=r1 _ _ _ g1
 rw [h0] at ha
 rw [h1,List.take_of_length_le (by rw [List.length_drop]; omega)] at hb
 refine ⟨(a,b),?_⟩
 have:=ha.app hb
 rw [List.drop_zero,List.take_append_drop] at this
 exact this
theorem Ay7 {α β γ:Type} {t t0 t1 t2 k0 k1 k2:Nat} {fs:Array Field} {F0:α→List DV} {F1:β→List DV} {F2:γ→List DV} (ht:P.underlying t=some (.struct fs)) (hfs:fs.toList.map (fun f=>(f.type,f.offset))=[(t0,0),(t1,k0),(t2,k0+k1)]) (h0:P.cellsOf t0=k0) (h1:P.cellsOf t1=k1) (h2:P.cellsOf t2=k2) (hC:P.cellsOf t=k0+k1+k2) (r0:Rd enc P W t0 F0) (r1:Rd enc P W t1 F1) (r2:Rd enc P W t2 F2):Rd enc P W t (fun p:α×β×γ=>F0 p.1 ++ (F1 p.2.1 ++ F2 p.2.2)):=fun n cs x h=>by
 obtain ⟨hl,_,_,g0⟩:=Af5 ht h 0 (by rw [hfs]; rfl)
 obtain ⟨_,_,_,g1⟩:=Af5 ht h 1 (by rw [hfs]; rfl)
 obtain ⟨_,_,_,g2⟩:=Af5 ht h 2 (by rw [hfs]; rfl)
 obtain ⟨a,ha⟩:=r0 _ _ _ g0
 obtain ⟨b,hb⟩:=r1 _ _ _ g1
 obtain ⟨c,hc⟩:=r2 _ _ _ g2
 rw [h0] at ha
 rw [h1] at hb
 rw [h2,List.take_of_length_le (by rw [List.length_drop]; omega)] at hc
 refine ⟨(a,b,c),?_⟩
 have h12:=hb.app hc
 rw [← List.drop_drop,List.take_append_drop] at h12
 have:=ha.app h12
 rw [List.drop_zero,List.take_append_drop] at this
 exact this
theorem Bh9 {α β γ δ:Type} {t t0 t1 t2 t3 k0 k1 k2 k3:Nat} {fs:Array Field} {F0:α→List DV} {F1:β→List DV} {F2:γ→List DV} {F3:δ→List DV} (ht:P.underlying t=some (.struct fs)) (hfs:fs.toList.map (fun f=>(f.type,f.offset))=[(t0,0),(t1,k0),(t2,k0+k1),(t3,k0+k1+k2)]) (h0:P.cellsOf t0=k0) (h1:P.cellsOf t1=k1) (h2:P.cellsOf t2=k2) (h3:P.cellsOf t3=k3) (hC:P.cellsOf t=k0+k1+k2+k3) (r0:Rd enc P W t0 F0) (r1:Rd enc P W t1 F1) (r2:Rd enc P W t2 F2) (r3:Rd enc P W t3 F3):Rd enc P W t (fun p:α×β×γ×δ=>F0 p.1 ++ (F1 p.2.1 ++ (F2 p.2.2.1 ++ F3 p.2.2.2))):=fun n cs x h=>by
 obtain ⟨hl,_,_,g0⟩:=Af5 ht h 0 (by rw [hfs]; rfl)
 obtain ⟨_,_,_,g1⟩:=Af5 ht h 1 (by rw [hfs]; rfl)
 obtain ⟨_,_,_,g2⟩:=Af5 ht h 2 (by rw [hfs]; rfl)
 obtain ⟨_,_,_,g3⟩:=Af5 ht h 3 (by rw [hfs]; rfl)
 obtain ⟨a,ha⟩:=r0 _ _ _ g0
 obtain ⟨b,hb⟩:=r1 _ _ _ g1
 obtain ⟨c,hc⟩:=r2 _ _ _ g2
 obtain ⟨e,he⟩:=r3 _ _ _ g3
 rw [h0] at ha
 rw [h1] at hb
 rw [h2] at hc
 rw [h3,List.take_of_length_le (by rw [List.length_drop]; omega)] at he
 refine ⟨(a,b,c,e),?_⟩
 have x1:cs.drop (k0+k1)=(cs.drop k0).drop k1:=by rw [List.drop_drop]
 have x2:cs.drop (k0+k1+k2)=(cs.drop (k0+k1)).drop k2:=by rw [List.drop_drop]
 have h23:=hc.app he
 rw [x2,List.take_append_drop] at h23
 have h12:=hb.app h23
 rw [x1,List.take_append_drop] at h12
 have:=ha.app h12
 rw [List.drop_zero,List.take_append_drop] at this
 exact this
theorem A61 {α β:Type} {t:TypeId} {F:α→List DV} {G:β→List DV} (h:Rd enc P W t F) (f:α→β) (hf:∀ a,F a=G (f a)):Rd enc P W t G:=fun n cs x hx=>by
 obtain ⟨a,ha⟩:=h n cs x hx
 exact ⟨f a,by rw [← hf]; exact ha⟩
theorem Ao8 {α:Type} {t e ce:Nat} {F:α→List DV} (ht:P.underlying t=some (.slice e)) (hce:P.cellsOf e=ce) (hpos:0 < ce) (r:Rd enc P W e F):Rd enc P W t (fun l:List α=>[.sl (l.flatMap F) l.length]):=fun n cs x h=>by
 rcases DataW.trod_slice ht h with ⟨rfl,_⟩ | ⟨a,len,cap,elems,rest,m,_,rfl,_,_,hle,_,hel,hget,_,_⟩
 ·exact ⟨[],.one1 rfl (.sl0 _ _)⟩
 ·rw [hce] at hget
  have key:∀ k,k≤len→∃ (l:List α) (us:List Value),l.length=k∧RC W us (l.flatMap F)∧us.length=k*ce∧∀ (j:Nat) (u:Value),us[j]?=some u→W.cell? (a.add j)=some u:=by
   intro k
   induction k with
   | zero=>intro _; exact ⟨[],[],rfl,RC.nil W,by simp,fun j u h=>by simp at h⟩
   | succ k ih=>
    intro hk
    obtain ⟨l,us,h1,h2,h3,h4⟩:=ih (by omega)
    have hg:=hget k (by omega)
    rw [List.getElem?_eq_getElem (by omega)] at hg
    obtain ⟨cs,hcs,htr⟩:=Option.bind_eq_some_iff.1 hg
    obtain ⟨b,hb⟩:=r _ _ _ htr
    obtain ⟨_,hcl,hcc⟩:=World.cells?_some hcs
    refine ⟨l ++ [b],us ++ cs,by simp [h1],?_,by rw [List.length_append,h3,hcl,Nat.add_mul,Nat.one_mul],fun j u hu=>?_⟩
    ·rw [List.flatMap_append]
     have:[b].flatMap F=F b:=by simp
     rw [this]
     exact h2.app hb
    ·rcases Nat.lt_or_ge j us.length with hj | hj
     ·rw [List.getElem?_append_left hj] at hu
      exact h4 j u hu
     ·rw [List.getElem?_append_right hj] at hu
      have hlt:j - us.length < cs.length:=(List.getElem?_eq_some_iff.1 hu).1
      have:=hcc (j - us.length) (by omega)
      rw [add_add,hu] at this
      rw [← this]
      congr 2
      omega
  obtain ⟨l,us,h1,h2,h3,h4⟩:=key len (Nat.le_refl _)
  refine ⟨l,.one1 rfl ?_⟩
  by_cases h0:len=0
  ·subst h0
   obtain rfl:l=[]:=List.length_eq_zero_iff.1 h1
   exact .sl0 _ _
  ·rw [h1]
   refine .sl a len cap us _ h2.len hle ?_ h2.one h4 h2.rel
   have hlt:0 < us.length:=by rw [h3]; exact Nat.mul_pos (by omega) hpos
   have:=lt_of_cell (h4 0 _ (List.getElem?_eq_getElem hlt))
   rwa [Go.DD.block_add] at this
end
end Go.DD

/- From a contract to a law's statement: a law that answers true and of what was there turns nothing. Conditions: none beyond those that each theorem states. -/
namespace Go.DD
open Go Go.RowKit Go.ChangeShapes
theorem A26 {H:Type} {enc:TypeId×Value→H} {P:Program} {f:Func} {s:ChangeSpec} {apart fresh handsOn again:Bool} {W W':World} {args:Array Value} {v:Value} {ds gs:List (DataW H)} {before pa pv:List MemPlace}
  (hW:DataW.Whole enc P f.params.toList s.vars apart W args.toList ds gs before)
  (hres:∀ (b:Nat) (sp:Nat→Bool) (hd:Bool),DataW.TrodAll enc P W' b sp hd f.resultTypes.toList (v.resultList f.resultTypes.size) (s.fn H (ds ++ gs)).results [])
  (hargs:∀ sp:Nat→Bool,(∀ p∈before,sp p.block=true)→DataW.TrodAll enc P W' 0 sp true f.params.toList args.toList (s.fn H (ds ++ gs)).args pa)
  (hvars:∀ sp:Nat→Bool,(∀ p∈before,sp p.block=true)→DataW.TrodVars enc P W' sp s.vars (s.fn H (ds ++ gs)).vars pv)
  (hps:before=pa ++ pv) (hk:Below W.heap.size W W')
  (hok:∀ (j:Nat) (t:TypeId) (r:Value),f.resultTypes[j]?=some t→(v.resultList f.resultTypes.size)[j]?=some r→Value.okWide P W' .any 0 t r) :
  s.post enc P f apart fresh handsOn again W args v W':=by
 have hold:∀ p∈before,(fun b=>decide (b < W.heap.size)) p.block=true:=fun p hp=>by simpa using hW.lt p hp
 have hlt:=hW.lt
 refine ⟨ds,gs,before,[],pa,pv,hW,hres _ _ _,hargs _ hold,hvars _ hold,hk.frame _,fun _=>?_⟩
 obtain ⟨_,_,_,_,_,hz,hn⟩:=hW
 refine ⟨hok,_,_,([] ++ pa) ++ pv,⟨[] ++ pa,pv,trodAll_append (hargs _ (fun _ _=>rfl)) (hres _ _ _),hvars _ (fun _ _=>rfl),rfl,?_,?_⟩,?_⟩
 ·intro b off hp
  have hp':MemPlace.cell b off∈before:=by rw [hps]; simpa using hp
  rw [hk.frozen (hlt _ hp')]
  exact hz b off hp'
 ·intro ha
  have:=hn ha
  rw [hps] at this
  simpa using this
 ·intro p hp _
  rw [hps]
  simpa using hp
theorem DCall.law {P:Program} {f:FuncId} {args:List DV} (h:DCall P f args fun d=>d=.v (.bool true)) (w:World) {vs:List Value} (hl:vs.length=args.length)
  (hr:∀ (j:Nat) (v:Value) (d:DV),vs[j]?=some v→args[j]?=some d→RelI w (fun b=>b < w.heap.size) v d) (hg:∀ x d,GLV x d→RelI w (fun b=>b < w.heap.size) x d) :
  Calls P f vs.toArray w fun e w'=>e=.returned (.bool true)∧Below w.heap.size w w':=
 (h w (fun b=>b < w.heap.size) vs (fun _ h=>h) hl hr hg).mono fun _ _ ⟨v,r,he,hr,hb,hv⟩=>by
  subst hr
  cases hv
  exact ⟨he,hb⟩
end Go.DD

/- What the arguments of chapter 08's statements read as. Conditions: those that each theorem states. -/
namespace Go.DD
set_option linter.unusedSectionVars false
set_option linter.unusedVariables false
open Go Go.Proofs Go.ChangeShapes Go.WideShapes Go.ChangeAt Go.RowKit
set_option linter.unusedVariables false
theorem own8:ownKnob Tryz.prog.godebug=none:=by kernel_rfl
theorem u2:Tryz.prog.underlying 2=some (.int .i64):=by kernel_rfl
theorem u3:Tryz.prog.underlying 3=some (.int .i64):=by kernel_rfl
theorem u4:Tryz.prog.underlying 4=some .bool:=by kernel_rfl
theorem u9:Tryz.prog.underlying 9=some .string:=by kernel_rfl
theorem u22:Tryz.prog.underlying 22=some (.slice 129):=by kernel_rfl
theorem u23:Tryz.prog.underlying 23=some (.slice 131):=by kernel_rfl
theorem u24:Tryz.prog.underlying 24=some (.slice 39):=by kernel_rfl
theorem u36:Tryz.prog.underlying 36=some (.slice 3):=by kernel_rfl
theorem u37:Tryz.prog.underlying 37=some (.slice 41):=by kernel_rfl
noncomputable def fsOf (t:Nat):Array Field:=match Tryz.prog.underlying t with
 | some (.struct fs)=>fs
 | _=>#[]
theorem uArr:Tryz.prog.underlying 26=some (.struct (fsOf 26)):=by kernel_rfl
theorem uCell:Tryz.prog.underlying 39=some (.struct (fsOf 39)):=by kernel_rfl
theorem uVal:Tryz.prog.underlying 41=some (.struct (fsOf 41)):=by kernel_rfl
theorem uDim:Tryz.prog.underlying 129=some (.struct (fsOf 129)):=by kernel_rfl
theorem uAttr:Tryz.prog.underlying 131=some (.struct (fsOf 131)):=by kernel_rfl
section
variable {H:Type} {enc:TypeId×Value→H} {W:World}
set_option maxRecDepth 100000 in
theorem rdVal:Rd enc Tryz.prog W 41 (fun v:PVal=>rVal.cells v):=
 A61 (Bh9 (t0:=3) (t1:=2) (t2:=2) (t3:=9) (k0:=1) (k1:=1) (k2:=1) (k3:=1) uVal (by kernel_rfl) (by kernel_rfl) (by kernel_rfl) (by kernel_rfl) (by kernel_rfl) (by kernel_rfl) (Aw7 u3) (Aw7 u2) (Aw7 u2) (Bs1 u9)) (fun p=>⟨p.1,p.2.1,p.2.2.1,p.2.2.2⟩) fun _=>rfl
set_option maxRecDepth 100000 in
theorem rdDim:Rd enc Tryz.prog W 129 (fun v:PDim=>rDim.cells v):=
 A61 (Ay7 (t0:=9) (t1:=3) (t2:=3) (k0:=1) (k1:=1) (k2:=1) uDim (by kernel_rfl) (by kernel_rfl) (by kernel_rfl) (by kernel_rfl) (by kernel_rfl) (Bs1 u9) (Aw7 u3) (Aw7 u3)) (fun p=>⟨p.1,p.2.1,p.2.2⟩) fun _=>rfl
set_option maxRecDepth 100000 in
theorem Ck3:Rd enc Tryz.prog W 131 (fun v:PAttr=>rAttr.cells v):=
 A61 (Ay6 (t0:=9) (t1:=3) (k0:=1) (k1:=1) uAttr (by kernel_rfl) (by kernel_rfl) (by kernel_rfl) (by kernel_rfl) (Bs1 u9) (Aw7 u3)) (fun p=>⟨p.1,p.2⟩) fun _=>rfl
set_option maxRecDepth 100000 in
theorem Ck4:Rd enc Tryz.prog W 39 (fun v:PCell=>rCell.cells v):=
 A61 (Ay6 (t0:=36) (t1:=37) (k0:=1) (k1:=1) uCell (by kernel_rfl) (by kernel_rfl) (by kernel_rfl) (by kernel_rfl) (Ao8 (ce:=1) u36 (by kernel_rfl) (by decide) (Aw7 u3)) (Ao8 (ce:=4) u37 (by kernel_rfl) (by decide) rdVal)) (fun p=>⟨p.1,p.2⟩) fun _=>rfl
def arrC (x:PArr):List DV:=[.sl (x.dims.flatMap rDim.cells) x.dims.length,.sl (x.attrs.flatMap rAttr.cells) x.attrs.length,.sl (x.cells.flatMap rCell.cells) x.cells.length]
set_option maxRecDepth 100000 in
theorem rdArr:Rd enc Tryz.prog W 26 arrC:=
 A61 (Ay7 (t0:=22) (t1:=23) (t2:=24) (k0:=1) (k1:=1) (k2:=1) uArr (by kernel_rfl) (by kernel_rfl) (by kernel_rfl) (by kernel_rfl) (by kernel_rfl) (Ao8 (ce:=3) u22 (by kernel_rfl) (by decide) rdDim) (Ao8 (ce:=2) u23 (by kernel_rfl) (by decide) Ck3) (Ao8 (ce:=2) u24 (by kernel_rfl) (by decide) Ck4)) (fun p=>⟨p.1,p.2.1,p.2.2⟩) fun _=>rfl
set_option maxRecDepth 100000 in
theorem A85 {base:Nat} {v:Value} {d:DataW H} {p:List MemPlace} (hval:Value.okWide Tryz.prog W .any base 26 v) (h:DataW.Trod enc Tryz.prog W 0 (fun _=>true) true 26 v d p):∃ x:PArr,RelI W (fun b=>b < W.heap.size) v (dArr x):=by
 obtain ⟨cs,e,_⟩:=okWide_struct uArr hval
 subst e
 obtain ⟨fuel,hf⟩:=h
 obtain ⟨x,hx⟩:=rdArr _ _ _ hf
 refine ⟨x,?_⟩
 have this:RelI W (fun b=>b < W.heap.size) (.agg cs.toList.toArray) (dArr x):=RelI.agg (w:=W) (al:=fun b=>b < W.heap.size) cs.toList (arrC x) hx.len hx.one hx.rel
 rw [Array.toArray_toList] at this
 exact this
end
end Go.DD

/- VersionSides, the statement: for every input the call returns true and each argument reads afterwards as before. Conditions: none. -/
namespace Go.Proofs.YtnphfnhhpcelbaaGreat.versionSides
open Go.ChangeShapes Go.WideShapes Go.ChangeAt Go.RowKit Go.DD
set_option linter.unusedVariables false

theorem walk (x y z : PArr) {W : World} {v u s : Value} (hx : RelI W (fun b => b < W.heap.size) v (dArr x)) (hy : RelI W (fun b => b < W.heap.size) u (dArr y)) (hz : RelI W (fun b => b < W.heap.size) s (dArr z)) :
    Calls Tryz.prog 5 #[v, u, s] W fun e w' => e = .returned (.bool true) ∧ Below W.heap.size W w' := by
  refine DCall.law (vs := [v, u, s]) (Bs0 x y z).2.2 W rfl (fun j w d hw hd => ?_) (fun x d h => ?_)
  · match j with
    | 0 => cases hw; cases hd; exact hx
    | 1 => cases hw; cases hd; exact hy
    | 2 => cases hw; cases hd; exact hz
    | j + 3 => cases hw
  · obtain ⟨g, cs, h, _⟩ := h
    cases h

set_option maxRecDepth 100000 in
theorem lifted (os : Os) (started : os.Started) (H : Type) (enc : TypeId × Value → H) :
    ReturnsInHanded {} Tryz.checked os 5 .any (Rows.versionSidesSpec.pre6 enc Tryz.prog Tryz.f5 Rows.versionSidesRow.domain false) (Rows.versionSidesSpec.post enc Tryz.prog Tryz.f5 false true false false) := by
  refine returnsInHanded_of_change (C := Tryz.checked) own8 started (by kernel_rfl) Tryz.func5
    (ChangeSpec.witness6 (enc := enc) (C := Tryz.checked) false ⟨#[], #[.agg #[.slice none 0 0, .slice none 0 0, .slice none 0 0], .agg #[.slice none 0 0, .slice none 0 0, .slice none 0 0], .agg #[.slice none 0 0, .slice none 0 0, .slice none 0 0]], []⟩ 8 (by kernel_rfl) (by kernel_rfl) (by kernel_rfl) (by kernel_rfl)) ?_
  intro W base args ds gs before hval0 hW hcnd _
  have hval : ∀ (j : Nat) t v, Tryz.f5.params[j]? = some t → args[j]? = some v → Value.okWide Tryz.prog W .any base t v := hval0
  have hW' := hW
  have hlt := hW.lt
  obtain ⟨p, q, hA0, hV, rfl, hfz, hnd⟩ := hW
  have hA : DataW.TrodAll enc Tryz.prog W 0 (fun _ => true) true Tryz.f5.params.toList args.toList ds p := hA0
  rw [Tryz.params5] at hA hval
  obtain ⟨v0, v1, v2, d0, d1, d2, p0, p1, p2, rfl, rfl, rfl, h0, h1, h2⟩ := trodAll_three hA
  obtain ⟨rfl, rfl⟩ := trodVars_none hV
  obtain ⟨x, hx0⟩ := A85 (hval 0 _ v0 rfl rfl) h0
  obtain ⟨y, hx1⟩ := A85 (hval 1 _ v1 rfl rfl) h1
  obtain ⟨z, hx2⟩ := A85 (hval 2 _ v2 rfl rfl) h2
  clear hA0 hval0
  simp only [List.append_nil, List.append_assoc] at hW' hlt
  refine (walk x y z hx0 hx1 hx2).mono fun e W' ⟨he, hg⟩ => ?_
  subst he
  exact ⟨_, rfl, A26 (pa := p0 ++ (p1 ++ p2)) (pv := []) hW' (fun _ _ _ => trodAll_mk1 (shut_bool u4 _))
    (fun sp hsp => trodAll_mk3 (WideElems.Trod_stays (by kernel_rfl) (by kernel_rfl) (by decide +kernel) h0 (fun x hx => hg.same (hlt x (List.mem_append_left _ hx))) (fun x hx => hsp x (List.mem_append_left _ hx))) (WideElems.Trod_stays (by kernel_rfl) (by kernel_rfl) (by decide +kernel) h1 (fun x hx => hg.same (hlt x (List.mem_append_right _ (List.mem_append_left _ hx)))) (fun x hx => hsp x (List.mem_append_right _ (List.mem_append_left _ hx)))) (WideElems.Trod_stays (by kernel_rfl) (by kernel_rfl) (by decide +kernel) h2 (fun x hx => hg.same (hlt x (List.mem_append_right _ (List.mem_append_right _ hx)))) (fun x hx => hsp x (List.mem_append_right _ (List.mem_append_right _ hx)))))
    (fun _ _ => rfl) (by simp) hg (ok_one (by kernel_rfl) rfl (okWide_bool_mk u4 _))⟩

theorem o1 : (Rows.versionSidesRow.inPlace == Tryz.pinned.checked.prog.inPlace 5) = true := by kernel_rfl
theorem o2 : (Rows.versionSidesRow.unfollowed == Tryz.pinned.checked.prog.unfollowed 5) = true := by kernel_rfl
theorem o3 : (Rows.versionSidesRow.recurses == Tryz.pinned.checked.prog.recurses 5) = true := by kernel_rfl
theorem o4 : (Rows.versionSidesRow.named == Tryz.pinned.checked.prog.varsNamed 5) = true := by kernel_rfl
theorem o5 : joinedFacts Tryz.pinned.checked.prog 5 Tryz.f5 Rows.versionSidesSpec Rows.versionSidesRow = true := by
  unfold joinedFacts
  rw [o1, o2, o3, o4]
  kernel_rfl
theorem over : Rows.versionSidesRow.holds Tryz.pinned (OpenSpec.ofChange Rows.versionSidesSpec) :=
  OpenClaim.holds_of_wide 5 Tryz.f5 rfl rfl rfl rfl rfl rfl rfl ⟨rfl, rfl, rfl, rfl, rfl⟩ rfl rfl rfl rfl rfl (by kernel_rfl) Tryz.func5 o5
    (of_decide_eq_true (by kernel_rfl)) (by unfold Func.isWrapper; first | (rw [if_pos (by decide +kernel)]; kernel_rfl) | (rw [if_neg (by decide +kernel)]; exact ⟨rfl, rfl⟩))
    (fun os started H enc _ => lifted os started H enc)

/-- The statement. -/
theorem proved : Rows.VersionSidesSaid :=
  over
#print axioms proved
end Go.Proofs.YtnphfnhhpcelbaaGreat.versionSides
