/- Contracts: the reference's Merged. Conditions: those that each theorem states. -/
import Derived.Test.YtnphfnhhpcelbaaGreatUp
import Derived.Test.YtnphfnhhpcelbaaGreatUm
import Derived.Test.YtnphfnhhpcelbaaGreatUf
import Derived.WalkKit
import Derived.ProofKit
import Derived.OpenShut
import Derived.Test.YtnphfnhhpcelbaaGreatUe
import Derived.ChangeSame
import Derived.Below
import Derived.Test.YtnphfnhhpcelbaaGreatRows
import Derived.ChangeSlices
import Derived.Carry
namespace Go.DD
set_option linter.unusedSectionVars false
open Go Go.Proofs
def rWalk (b x y:PArr):List (List Int×List (List PVal)):=(Ag5 [b,x,y]).map fun p=>(p,[b.cells,x.cells,y.cells].map fun h=>Ab3 h p)
theorem B34 {b x y:PArr} (hb:Aa4 b=0) (hx:Aa4 x=0) (hy:Aa4 y=0):rWalk b x y=mWalk b x y:=by
 have hS:∀ h∈[b.cells,x.cells,y.cells],Srt h:=fun h hh=>by
  simp only [List.mem_cons,List.not_mem_nil,or_false] at hh
  rcases hh with rfl | rfl | rfl
  ·exact (Ab1 hb).1
  ·exact (Ab1 hx).1
  ·exact (Ab1 hy).1
 obtain ⟨w1,w2,w3⟩:=At0 (n:=tot [b.cells,x.cells,y.cells]) hS (Nat.le_refl _)
 obtain ⟨d1,d2⟩:=Bv2 (B25 ([b,x,y].flatMap PArr.cells))
 have w2':∀ p,(∃ w∈mWalk b x y,w.1=p)↔∃ h∈[b.cells,x.cells,y.cells],∃ c∈h,c.pos=p:=w2
 have e:(mWalk b x y).map Prod.fst=Ag5 [b,x,y]:=by
  refine Bv3 (List.pairwise_map.2 w1) d1 fun q=>?_
  rw [show Ag5 [b,x,y]=dedF none (sortC ([b,x,y].flatMap PArr.cells)) from rfl,d2 q,List.mem_map,w2' q]
  constructor
  ·rintro ⟨h,hh,c,hc,h2⟩
   refine ⟨c,(Ao0 _ _).2 ?_,h2⟩
   simp only [List.mem_cons,List.not_mem_nil,or_false] at hh
   rcases hh with rfl | rfl | rfl <;> simp [hc]
  ·rintro ⟨c,hc,h2⟩
   have hc:=(Ao0 _ _).1 hc
   simp only [List.flatMap_cons,List.flatMap_nil,List.append_nil,List.mem_append] at hc
   rcases hc with hc | hc | hc
   ·exact ⟨b.cells,by simp,c,hc,h2⟩
   ·exact ⟨x.cells,by simp,c,hc,h2⟩
   ·exact ⟨y.cells,by simp,c,hc,h2⟩
 unfold rWalk
 rw [← e,List.map_map]
 conv=>rhs; rw [← List.map_id (mWalk b x y)]
 refine List.map_congr_left fun w hw=>?_
 obtain ⟨p,s⟩:=w
 have:=w3 (p,s) hw
 simp only at this
 simp only [Function.comp,id]
 rw [this]
theorem Bl3 (b x y:PArr) (i:Nat) (h:i < (Ag5 [b,x,y]).length):(rWalk b x y).take (i+1)=(rWalk b x y).take i ++ [((Ag5 [b,x,y])[i],[Ab3 b.cells (Ag5 [b,x,y])[i],Ab3 x.cells (Ag5 [b,x,y])[i],Ab3 y.cells (Ag5 [b,x,y])[i]])]:=by
 unfold rWalk
 rw [← List.map_take,← List.map_take,List.take_succ_eq_append_getElem h,List.map_append]
 rfl
section
variable (k n0:Nat) (hp:Tr DObj) (nx:Nat) (K:DV→Tr DObj→Nat→Prop)
theorem Bx0 (d1 d2 d3:DV) (b x y:PArr) (hn:n0≤nx) (h1:AR hp (Bl n0) d1 b) (h2:AR hp (Bl n0) d2 x) (h3:AR hp (Bl n0) d3 y) (hb:AOK b) (hx:AOK x) (hy:AOK y) (hc:b.cells.length+x.cells.length+y.cells.length≤128)
  (hK:∀ hp' nx' d' p',Al hp nx hp' nx'→AR hp' (Bw nx nx') d' (Ai1 b x y)→RL rInt hp' (Bw nx nx') p' (Ag6 b x y)→K (.tup [d',p',iv (Ad6 b x y)]) hp' nx'):KW (kN (k+18)) (.fn 21) [d1,d2,d3] hp nx K:=by
 obtain ⟨d,a,c,rfl,r1,r2,r3⟩:=h1
 obtain ⟨d',a',c',rfl,s1,s2,s3⟩:=h2
 obtain ⟨d'',a'',c'',rfl,t1,t2,t3⟩:=h3
 refine kn_r3 (Aa3 (by decide)) t21 (Nat.le_of_ble_eq_true rfl) fun es e1 e2 he=>?_
 have a0:rawE es (.t .o)=.agg [d,a,c]:=he 0 _ rfl
 have a1:rawE es (.t (.l .o))=.agg [d',a',c']:=he 1 _ rfl
 have a2:rawE es (.t (.r .o))=.agg [d'',a'',c'']:=he 2 _ rfl
 unfold r21
 subst e1 e2
 simp only [↓bSb]
 refine Aa9 (cs:=[d,a,c]) (by rw [evt,a0]; exact AR.live r1 r2 r3) fun hp1 hg1 hk1=>?_
 simp only [bR] at hg1 hk1
 have hal1:Al es.hp es.nx hp1 (es.nx+1):=⟨by omega,fun j hj=>hk1 j (by omega)⟩
 simp only [bSa,↓bSb]
 refine Aa9 (cs:=[d',a',c']) (by simp only [evt,bR,reduceCtorEq,a1]; exact AR.live (s1.ka hn hal1) (s2.ka hn hal1) (s3.ka hn hal1)) fun hp2 hg2 hk2=>?_
 simp only [bR] at hg2 hk2
 have hal2:Al es.hp es.nx hp2 (es.nx+1+1):=⟨by omega,fun j hj=>by rw [hk2 j (by omega),hk1 j (by omega)]⟩
 simp only [bSa,↓bSb]
 refine Aa9 (cs:=[d'',a'',c'']) (by simp only [evt,bR,reduceCtorEq,a2]; exact AR.live (t1.ka hn hal2) (t2.ka hn hal2) (t3.ka hn hal2)) fun hp3 hg3 hk3=>?_
 simp only [bR] at hg3 hk3
 simp only [bSa,↓bSb]
 refine Ae8 fun hp6 hg6 hk6=>?_
 simp only [bR] at hg6 hk6
 have hal6:Al es.hp es.nx hp6 (es.nx+1+1+1+1):=⟨by omega,fun j hj=>by rw [hk6 j (by omega),hk3 j (by omega),hal2.same j hj]⟩
 have q1:hp6.get es.nx=some (.row 26 [d,a,c]):=by rw [hk6 _ (by omega),hk3 _ (by omega),hk2 _ (by omega),hg1]
 have q2:hp6.get (es.nx+1)=some (.row 26 [d',a',c']):=by rw [hk6 _ (by omega),hk3 _ (by omega),hg2]
 have q3:hp6.get (es.nx+1+1)=some (.row 26 [d'',a'',c'']):=by rw [hk6 _ (by omega),hg3]
 have q4:hp6.get (es.nx+1+1+1)=some (.row 26 [nilS,nilS,nilS]):=hg6
 have hrA:∀ {hp' nx'},Al es.hp es.nx hp' nx'→AR hp' (Bl n0) (.agg [d,a,c]) b:=fun h=>⟨d,a,c,rfl,r1.ka hn h,r2.ka hn h,r3.ka hn h⟩
 have hrB:∀ {hp' nx'},Al es.hp es.nx hp' nx'→AR hp' (Bl n0) (.agg [d',a',c']) x:=fun h=>⟨d',a',c',rfl,s1.ka hn h,s2.ka hn h,s3.ka hn h⟩
 have hrC:∀ {hp' nx'},Al es.hp es.nx hp' nx'→AR hp' (Bl n0) (.agg [d'',a'',c'']) y:=fun h=>⟨d'',a'',c'',rfl,t1.ka hn h,t2.ka hn h,t3.ka hn h⟩
 have hm2:(Aa4 b≠0∨Aa4 x≠0)∨Aa4 y≠0→Ad6 b x y=2:=fun h=>by unfold Ad6; rw [if_pos h]
 have hm13:¬ ((Aa4 b≠0∨Aa4 x≠0)∨Aa4 y≠0)→(Ag8 b x=false∨Ag8 b y=false)→Ad6 b x y=13:=fun h h2=>by unfold Ad6; rw [if_neg h,if_pos h2]
 -- what is returned without a merge
 have stop:∀ {hp':Tr DObj} {nx':Nat} {p':DV} {p:List Int} (e:Int),Ad6 b x y=e→e≠0→Ag6 b x y=p→RL rInt hp' (Bw es.nx nx') p' p→Al es.hp es.nx hp' nx'→K (.tup [.agg [nilS,nilS,nilS],p',iv e]) hp' nx':=by
  intro hp' nx' p' p e he h0 hp h1 hal
  have hA:Ai1 b x y=noA:=by unfold Ai1; rw [he,if_neg h0]
  rw [← he]
  refine hK _ _ _ _ hal ?_ ?_
  ·rw [hA]; exact ⟨nilS,nilS,nilS,rfl,.nil,.nil,.nil⟩
  ·rw [hp]; exact h1
 have hp2':Ad6 b x y≠19→Ag6 b x y=[]:=fun h=>by unfold Ag6; rw [if_neg h]
 obtain ⟨_,_,_,_,lA6⟩:=Aa0 q1
 simp only [bSa,↓bSb,reduceCtorEq,lA6]
 refine kws (Ay5 (k:=k+9) n0 _ _ _ _ b (by omega) (hrA hal6) hb fun hp7 nx7 hal7=>?_)
 have hle7:=hal7.le
 have ha7:=hal6.trans hal7
 have k7:∀ j,j < es.nx+1+1+1+1→hp7.get j=hp6.get j:=fun j hj=>hal7.same j hj
 obtain ⟨_,_,_,_,lB7⟩:=Aa0 ((k7 (es.nx+1) (by omega)).trans q2)
 by_cases c1:Aa4 b=0
 ·simp only [bSa,↓bSb,reduceCtorEq,show decide (¬ Aa4 b=0)=false by simp [c1],lB7]
  refine kws (Ay5 (k:=k+9) n0 _ _ _ _ x (by omega) (hrB ha7) hx fun hp8 nx8 hal8=>?_)
  have hle8:=hal8.le
  have ha8:=ha7.trans hal8
  have k8:∀ j,j < es.nx+1+1+1+1→hp8.get j=hp6.get j:=fun j hj=>(hal8.same j (by omega)).trans (k7 j hj)
  obtain ⟨_,_,_,_,lC8⟩:=Aa0 ((k8 (es.nx+1+1) (by omega)).trans q3)
  by_cases c2:Aa4 x=0
  ·simp only [bSa,↓bSb,reduceCtorEq,show decide (¬ Aa4 x=0)=false by simp [c2],lC8]
   refine kws (Ay5 (k:=k+9) n0 _ _ _ _ y (by omega) (hrC ha8) hy fun hp9 nx9 hal9=>?_)
   have hle9:=hal9.le
   have ha9:=ha8.trans hal9
   have k9:∀ j,j < es.nx+1+1+1+1→hp9.get j=hp6.get j:=fun j hj=>(hal9.same j (by omega)).trans (k8 j hj)
   obtain ⟨_,_,_,_,lA9⟩:=Aa0 ((k9 es.nx (by omega)).trans q1)
   obtain ⟨_,_,_,_,lB9⟩:=Aa0 ((k9 (es.nx+1) (by omega)).trans q2)
   by_cases c3:Aa4 y=0
   ·simp only [bSa,↓bSb,reduceCtorEq,show decide (¬ Aa4 y=0)=false by simp [c3],lA9,lB9]
    refine kws (A82 (k:=k+15) n0 _ _ _ _ _ b x (by omega) (hrA ha9) (hrB ha9) hb fun hp10 nx10 hal10=>?_)
    have hle10:=hal10.le
    have ha10:=ha9.trans hal10
    have k10:∀ j,j < es.nx+1+1+1+1→hp10.get j=hp6.get j:=fun j hj=>(hal10.same j (by omega)).trans (k9 j hj)
    have hcc:¬ ((Aa4 b≠0∨Aa4 x≠0)∨Aa4 y≠0):=by simp [c1,c2,c3]
    obtain ⟨_,_,_,_,lA10⟩:=Aa0 ((k10 es.nx (by omega)).trans q1)
    obtain ⟨_,_,_,_,lC10⟩:=Aa0 ((k10 (es.nx+1+1) (by omega)).trans q3)
    cases c4:decide (b.dims=x.dims) && decide (b.attrs=x.attrs) with
    | false=>
     simp only [bSa,↓bSb,reduceCtorEq]
     refine Af7 (cs:=[nilS,nilS,nilS]) rfl ?_
     simp only [bSa,↓bSb]
     refine Ac4 (n:=3) (id:=es.nx+1+1+1) (ds:=[nilS,nilS,nilS]) (by simp only [bR,reduceCtorEq]) ((k10 _ (by omega)).trans q4) (by simp only [evt,bR]; rfl) rfl rfl fun hA hgA hkA=>?_
     simp only [bR] at hgA hkA
     simp only [bSa,↓bSb,reduceCtorEq]
     have he:=hm13 hcc (.inl c4)
     exact ⟨_,_,_,Aj3 (by simp only [bR,reduceCtorEq,bP]) hgA rfl,by rw [Aj2]; simp only [bR,reduceCtorEq,bP,Ad5]; rfl,by rw [Aj2]; simp only [bR,bP,Ad5],stop 13 he (by decide) (hp2' (by rw [he]; decide)) .nil ⟨ha10.le,fun j hj=>by rw [hkA j (by omega),ha10.same j hj]⟩⟩
    | true=>
     simp only [bSa,↓bSb,reduceCtorEq,lA10,lC10]
     refine kws (A82 (k:=k+15) n0 _ _ _ _ _ b y (by omega) (hrA ha10) (hrC ha10) hb fun hp11 nx11 hal11=>?_)
     have hle11:=hal11.le
     have ha11:=ha10.trans hal11
     have k11:∀ j,j < es.nx+1+1+1+1→hp11.get j=hp6.get j:=fun j hj=>(hal11.same j (by omega)).trans (k10 j hj)
     cases c5:decide (b.dims=y.dims) && decide (b.attrs=y.attrs) with
     | false=>
      simp only [bSa,↓bSb,reduceCtorEq]
      refine Af7 (cs:=[nilS,nilS,nilS]) rfl ?_
      simp only [bSa,↓bSb]
      refine Ac4 (n:=3) (id:=es.nx+1+1+1) (ds:=[nilS,nilS,nilS]) (by simp only [bR,reduceCtorEq]) ((k11 _ (by omega)).trans q4) (by simp only [evt,bR]; rfl) rfl rfl fun hA hgA hkA=>?_
      simp only [bR] at hgA hkA
      simp only [bSa,↓bSb,reduceCtorEq]
      have he:=hm13 hcc (.inr c5)
      exact ⟨_,_,_,Aj3 (by simp only [bR,reduceCtorEq,bP]) hgA rfl,by rw [Aj2]; simp only [bR,reduceCtorEq,bP,Ad5]; rfl,by rw [Aj2]; simp only [bR,bP,Ad5],stop 13 he (by decide) (hp2' (by rw [he]; decide)) .nil ⟨ha11.le,fun j hj=>by rw [hkA j (by omega),ha11.same j hj]⟩⟩
     | true=>
      obtain ⟨_,_,_,_,lA11⟩:=Aa0 ((k11 es.nx (by omega)).trans q1)
      obtain ⟨_,_,_,_,lB11⟩:=Aa0 ((k11 (es.nx+1) (by omega)).trans q2)
      obtain ⟨_,_,_,_,lC11⟩:=Aa0 ((k11 (es.nx+1+1) (by omega)).trans q3)
      have u1:=r1.ka hn ha11
      have u2:=r2.ka hn ha11
      have u3:=r3.ka hn ha11
      have v1:=s1.ka hn ha11
      have v2:=s2.ka hn ha11
      have v3:=s3.ka hn ha11
      have w1:=t1.ka hn ha11
      have w2:=t2.ka hn ha11
      have w3:=t3.ka hn ha11
      simp only [bSa,↓bSb,reduceCtorEq,lA11,lB11,lC11]
      refine Ae3 (fl:=[d,a,c,d',a',c',d'',a'',c'']) (by rfl) (by simp only [List.map_cons,List.map_nil,n_ev,bR,reduceCtorEq,bP,AR.live u1 u2 u3,AR.live v1 v2 v3,AR.live w1 w2 w3]; rfl) fun hp12 hg12 hk12=>?_
      simp only [bR] at hg12 hk12
      have k12:∀ j,j < nx11→hp12.get j=hp11.get j:=fun j hj=>hk12 j (by omega)
      have ha12:Al es.hp es.nx hp12 (nx11+1):=⟨by omega,fun j hj=>by rw [k12 j (by omega),ha11.same j hj]⟩
      have kp:∀ j,Bl n0 j→hp12.get j=hp11.get j:=fun j hj=>k12 j (by have:j < n0:=hj; omega)
      have up:∀ j,Bl n0 j→Bl (nx11+1) j:=fun j hj=>by have:j < n0:=hj; show j < _; omega
      have hrow:RL rArr hp12 (Bl (nx11+1)) (.ms nx11 0 3 3) [b,x,y]:=by
       exact (OL.ms (R:=rArr) (p:=Bl (nx11+1)) nx11 _ [b,x,y] hg12 ⟨[d,a,c],[d',a',c',d'',a'',c''],rfl,rArr_rd.2 ⟨d,a,c,rfl,(u1.keep kp).mono up,(u2.keep kp).mono up,(u3.keep kp).mono up⟩,[d',a',c'],[d'',a'',c''],rfl,rArr_rd.2 ⟨d',a',c',rfl,(v1.keep kp).mono up,(v2.keep kp).mono up,(v3.keep kp).mono up⟩,[d'',a'',c''],[],rfl,rArr_rd.2 ⟨d'',a'',c'',rfl,(w1.keep kp).mono up,(w2.keep kp).mono up,(w3.keep kp).mono up⟩,rfl⟩).rl.mono fun j hj=>hj.elim id fun h=>by
        have:j=nx11:=by simpa [DV.refs] using h
        show j < _; omega
      have hcs:[b,x,y].flatMap PArr.cells=b.cells ++ (x.cells ++ y.cells):=by simp
      have hcl:([b,x,y].flatMap PArr.cells).length≤128:=by rw [hcs,List.length_append,List.length_append]; omega
      have hcp:∀ e∈[b,x,y].flatMap PArr.cells,e.pos.length < 900000:=fun e he=>by
       rw [hcs] at he
       rcases List.mem_append.1 he with h | h
       ·exact (hb.e e h).1
       ·rcases List.mem_append.1 h with h | h
        ·exact (hx.e e h).1
        ·exact (hy.e e h).1
      simp only [bSa,↓bSb]
      refine kws (Bu3 (k+6) (nx11+1) _ _ _ 7 _ [b,x,y] (Nat.le_refl _) hrow (by simp) (by omega) (by omega) hcp fun hp13 nx13 x13 hal13 hr13=>?_)
      have hle13:=hal13.le
      have ha13:=ha12.trans hal13
      have k13:∀ j,j < es.nx+1+1+1+1→hp13.get j=hp6.get j:=fun j hj=>(hal13.same j (by omega)).trans ((k12 j (by omega)).trans (k11 j hj))
      obtain ⟨⟨fA0,fA1,_⟩,lA0,lA1,_,_⟩:=Aa0 ((k13 es.nx (by omega)).trans q1)
      simp only [bSa,↓bSb,reduceCtorEq,fA0,fA1,lA0,lA1]
      refine kws (B27 (k+16) n0 _ _ _ d a b.dims b.attrs (by omega) (r1.ka hn ha13) (r2.ka hn ha13) hb.d hb.a fun hp14 nx14 dE aE hal14 hoD hoA hrD hrA'=>?_)
      have hle14:=hal14.le
      have ha14:=ha13.trans hal14
      simp only [bSa,↓bSb]
      refine Ae8 fun hp15 hg15 hk15=>?_
      simp only [bR] at hg15 hk15
      have rD15:=(hoD.rl.mono (q:=Bw nx13 nx14) fun j hj=>hj.elim False.elim (hrD j)).keep (hp':=hp15) fun j hj=>hk15 j (by have:=hj.2; omega)
      have rA15:=(hoA.rl.mono (q:=Bw nx13 nx14) fun j hj=>hj.elim False.elim (hrA' j)).keep (hp':=hp15) fun j hj=>hk15 j (by have:=hj.2; omega)
      simp only [bSa,↓bSb]
      refine Ac4 (n:=3) (id:=nx14) (ds:=[dE,aE,nilS]) (by simp only [bR]) hg15 (by simp only [evt,bR,reduceCtorEq]; exact AR.live (x:=⟨b.dims,b.attrs,[]⟩) (p:=Bw nx13 nx14) rD15 rA15 .nil) rfl rfl fun hp16 hg16 hk16=>?_
      simp only [bR] at hg16 hk16
      simp only [bSa,↓bSb]
      have hW:=B34 c1 c2 c3
      have hPl:(Ag5 [b,x,y]).length≤128:=by
       have:=B21 none (sortC ([b,x,y].flatMap PArr.cells))
       rw [Ar5] at this
       exact Nat.le_trans this hcl
      have hPp:∀ p∈Ag5 [b,x,y],p.length < 900000:=fun p hp=>by
       obtain ⟨e,h,rfl⟩:=B20 _ _ p hp
       exact hcp e ((Ao0 _ _).1 h)
      have hWl:(mWalk b x y).length=(Ag5 [b,x,y]).length:=by rw [← hW]; unfold rWalk; rw [List.length_map]
      have hWt:=Bl3 b x y
      rw [hW] at hWt
      generalize Ag5 [b,x,y]=P at hr13 hPl hPp hWl hWt
      have k16:∀ j,j < nx14→hp16.get j=hp14.get j:=fun j hj=>by rw [hk16 j (by omega),hk15 j (by omega)]
      have ha16:Al es.hp es.nx hp16 (nx14+1):=⟨by omega,fun j hj=>by rw [k16 j (by omega),ha14.same j hj]⟩
      have k16':∀ j,j < es.nx+1+1+1+1→hp16.get j=hp6.get j:=fun j hj=>(k16 j (by omega)).trans ((hal14.same j (by omega)).trans (k13 j hj))
      have x16:RL rInts hp16 (Bl nx13) x13 P:=hr13.keep fun j (hj:j < nx13)=>(k16 j (by omega)).trans (hal14.same j (by omega))
      have rD16:=rD15.keep (hp':=hp16) fun j hj=>hk16 j (by have:=hj.2; omega)
      have rA16:=rA15.keep (hp':=hp16) fun j hj=>hk16 j (by have:=hj.2; omega)
      refine EW.up P.length (fun i es1=>∃ z,(∀ j,j < nx14→es1.hp.get j=hp16.get j)∧nx14 < es1.nx∧es1.hp.get nx14=some (.row 26 [dE,aE,z])∧OL rCell es1.hp (fun j=>nx14 < j∧j < es1.nx∧j∉z.refs) z (mrgC ((mWalk b x y).take i))∧Rng (nx14+1) es1.nx z∧(∀ w∈(mWalk b x y).take i,mrgV w.2≠none)∧rawE es1 (.t (.l (.l .o)))=.pt es.nx 0∧rawE es1 (.t (.r (.l .o)))=.pt (es.nx+1) 0∧rawE es1 (.t (.l (.r .o)))=.pt (es.nx+1+1) 0∧rawE es1 (.t (.r (.r .o)))=.pt (es.nx+1+1+1) 0∧rawE es1 (.t (.l (.r (.l .o))))=x13∧rawE es1 (.t (.r (.r (.l .o))))=.pt nx14 0∧rawE es1 (.t (.l (.l (.r .o))))=iv (i:Nat)) ?_ ?_ (by omega)
      ·rintro i es1 hi ⟨z,hfr,hle,hgo,hoz,hrz,hno,b3,b4,b5,b6,b9,b10,b11⟩
       unfold l21_1
       have w4:RL rInts es1.hp (Bl nx13) x13 P:=x16.keep fun j (hj:j < nx13)=>hfr j (by omega)
       have kk:∀ j,j < es.nx+1+1+1+1→es1.hp.get j=hp6.get j:=fun j hj=>(hfr j (by omega)).trans (k16' j hj)
       by_cases h:i < P.length
       ·obtain ⟨q,rq,lq⟩:=Ar4 w4 h
        have hp:=hPp _ (List.getElem_mem h)
        have g1:=(kk es.nx (by omega)).trans q1
        have g2:=(kk (es.nx+1) (by omega)).trans q2
        have g3:=(kk (es.nx+1+1) (by omega)).trans q3
        have ha1:Al es.hp es.nx es1.hp es1.nx:=⟨by omega,fun j hj=>by rw [hfr j (by omega),ha16.same j hj]⟩
        obtain ⟨_,_,_,_,mA⟩:=Aa0 g1
        obtain ⟨_,_,_,_,mB⟩:=Aa0 g2
        obtain ⟨_,_,_,_,mC⟩:=Aa0 g3
        have r1':=(r1.ka hn ha1).bl (show n0≤nx13 by omega)
        have r2':=(r2.ka hn ha1).bl (show n0≤nx13 by omega)
        have r3':=(r3.ka hn ha1).bl (show n0≤nx13 by omega)
        have s1':=(s1.ka hn ha1).bl (show n0≤nx13 by omega)
        have s2':=(s2.ka hn ha1).bl (show n0≤nx13 by omega)
        have s3':=(s3.ka hn ha1).bl (show n0≤nx13 by omega)
        have t1':=(t1.ka hn ha1).bl (show n0≤nx13 by omega)
        have t2':=(t2.ka hn ha1).bl (show n0≤nx13 by omega)
        have t3':=(t3.ka hn ha1).bl (show n0≤nx13 by omega)
        refine EW.seq (fun es2=>rawE es2 (.t (.l (.l .o)))=.pt es.nx 0∧rawE es2 (.t (.r (.l .o)))=.pt (es.nx+1) 0∧rawE es2 (.t (.l (.r .o)))=.pt (es.nx+1+1) 0∧rawE es2 (.t (.r (.r .o)))=.pt (es.nx+1+1+1) 0∧rawE es2 (.t (.l (.r (.l .o))))=x13∧rawE es2 (.t (.r (.r (.l .o))))=.pt nx14 0∧rawE es2 (.t (.l (.l (.r .o))))=iv (i:Nat)∧es2.hp=es1.hp∧es2.nx=es1.nx) ?_ fun es2 ⟨b3,b4,b5,b6,b9,b10,b11,yh,yn⟩=>?_
        ·simp only [bSa,↓bSb,reduceCtorEq,b3,b4,b5,b6,b9,b10,b11,h,w4.len]
        generalize es1.hp=H at *
        generalize es1.nx=N at *
        subst yh yn
        refine EW.seq (fun es5=>rawE es5 (.t (.l (.l .o)))=.pt es.nx 0∧rawE es5 (.t (.r (.l .o)))=.pt (es.nx+1) 0∧rawE es5 (.t (.l (.r .o)))=.pt (es.nx+1+1) 0∧rawE es5 (.t (.r (.r .o)))=.pt (es.nx+1+1+1) 0∧rawE es5 (.t (.l (.r (.l .o))))=x13∧rawE es5 (.t (.r (.r (.l .o))))=.pt nx14 0∧rawE es5 (.t (.l (.l (.r .o))))=iv (i:Nat)∧∃ z,(∀ j,j < nx14→es5.hp.get j=hp16.get j)∧nx14 < es5.nx∧es5.hp.get nx14=some (.row 26 [dE,aE,z])∧OL rCell es5.hp (fun j=>nx14 < j∧j < es5.nx∧j∉z.refs) z (mrgC ((mWalk b x y).take (i+1)))∧Rng (nx14+1) es5.nx z∧(∀ w∈(mWalk b x y).take (i+1),mrgV w.2≠none)) ?_ fun es5 ⟨b3,b4,b5,b6,b9,b10,b11,z,hfr,hle,hgo,hoz,hrz,hno⟩=>?_
        ·refine ew_b.2 (EW.seq (fun es3=>rawE es3 (.t (.l (.l .o)))=.pt es.nx 0∧rawE es3 (.t (.r (.l .o)))=.pt (es.nx+1) 0∧rawE es3 (.t (.l (.r .o)))=.pt (es.nx+1+1) 0∧rawE es3 (.t (.r (.r .o)))=.pt (es.nx+1+1+1) 0∧rawE es3 (.t (.l (.r (.l .o))))=x13∧rawE es3 (.t (.r (.r (.l .o))))=.pt nx14 0∧rawE es3 (.t (.l (.l (.r .o))))=iv (i:Nat)∧es2.nx≤es3.nx∧(∀ j,j < es2.nx→es3.hp.get j=es2.hp.get j)∧∃ dU dV dW,rawE es3 (.t (.r (.l (.r .o))))=dU∧rawE es3 (.t (.l (.r (.r .o))))=dV∧rawE es3 (.t (.r (.r (.r .o))))=dW∧RL rVal es3.hp (Bl nx13) dU (Ab3 b.cells P[i])∧RL rVal es3.hp (Bl nx13) dV (Ab3 x.cells P[i])∧RL rVal es3.hp (Bl nx13) dW (Ab3 y.cells P[i])) ?_ fun es3 ⟨b3,b4,b5,b6,b9,b10,b11,hle3,hfr3,dU,dV,dW,x12,x13',x14,rU,rV,rW⟩=>?_)
         ·simp only [bSa,↓bSb,reduceCtorEq,b3,b9,b11,mA,Ar2 w4 h,lq,Aa1 (n0:=es2.nx) (m:=21) g1 (show es.nx < es2.nx by omega),w4.rox (show nx13≤es2.nx by omega),Ar3 w4 (show nx13≤es2.nx by omega),rq.rox (show nx13≤es2.nx by omega)]
          refine ⟨AR.rox r1' r2' r3' (by omega),?_⟩
          refine Aa2 rfl (Aa7 ?_)
          simp only [bR,reduceCtorEq,List.map_cons,List.map_nil]
          refine A43 (k+13) nx13 _ _ _ _ q b P[i] (by omega) ⟨d,a,c,rfl,r1',r2',r3'⟩ rq hb (Al2 c1) fun hp5 nx5 y5 hal5 v5=>?_
          have hle5:=hal5.le
          have w5:=w4.ka (nx:=es2.nx+21) (by omega) hal5
          obtain ⟨q5,rq5,lq5⟩:=Ar4 w5 h
          have g25:=(hal5.same (es.nx+1) (by omega)).trans g2
          have g35:=(hal5.same (es.nx+1+1) (by omega)).trans g3
          obtain ⟨_,_,_,_,mB5⟩:=Aa0 g25
          have kS:∀ {p:Nat→Prop},(∀ j,p j→j < nx13)→∀ j,p j→hp5.get j=es2.hp.get j:=fun hh j hj=>hal5.same j (by have:=hh j hj; omega)
          have s1'':=s1'.keep (kS fun _ h=>h)
          have s2'':=s2'.keep (kS fun _ h=>h)
          have s3'':=s3'.keep (kS fun _ h=>h)
          simp only [bSa,↓bSb,reduceCtorEq,b4,b9,b11,hle5,mB5,Ar2 w5 h,lq5,Aa1 (n0:=es2.nx) (m:=21) g25 (show es.nx+1 < es2.nx by omega),w5.rox (show nx13≤es2.nx by omega),Ar3 w5 (show nx13≤es2.nx by omega),rq5.rox (show nx13≤es2.nx by omega)]
          refine ⟨AR.rox s1'' s2'' s3'' (by omega),?_⟩
          refine Aa2 rfl (Aa7 ?_)
          simp only [bR,reduceCtorEq,List.map_cons,List.map_nil]
          refine A43 (k+13) nx13 _ _ _ _ q5 x P[i] (by omega) ⟨d',a',c',rfl,s1'',s2'',s3''⟩ rq5 hx (Al2 c2) fun hp6' nx6 y6 hal6' v6=>?_
          have hle6:=hal6'.le
          have w6:=w5.ka (nx:=nx5) (by omega) hal6'
          obtain ⟨q6,rq6,lq6⟩:=Ar4 w6 h
          have g36:=(hal6'.same (es.nx+1+1) (by omega)).trans g35
          obtain ⟨_,_,_,_,mC6⟩:=Aa0 g36
          have kS6:∀ {p:Nat→Prop},(∀ j,p j→j < nx13)→∀ j,p j→hp6'.get j=es2.hp.get j:=fun hh j hj=>(hal6'.same j (by have:=hh j hj; omega)).trans (kS hh j hj)
          have t1'':=t1'.keep (kS6 fun _ h=>h)
          have t2'':=t2'.keep (kS6 fun _ h=>h)
          have t3'':=t3'.keep (kS6 fun _ h=>h)
          simp only [bSa,↓bSb,reduceCtorEq,b5,b9,b11,hle6,mC6,Ar2 w6 h,lq6,Aa1 (n0:=es2.nx) (m:=21) g36 (show es.nx+1+1 < es2.nx by omega),w6.rox (show nx13≤es2.nx by omega),Ar3 w6 (show nx13≤es2.nx by omega),rq6.rox (show nx13≤es2.nx by omega)]
          refine ⟨AR.rox t1'' t2'' t3'' (by omega),?_⟩
          refine Aa2 rfl (Aa7 ?_)
          simp only [bR,reduceCtorEq,List.map_cons,List.map_nil]
          refine A43 (k+13) nx13 _ _ _ _ q6 y P[i] (by omega) ⟨d'',a'',c'',rfl,t1'',t2'',t3''⟩ rq6 hy (Al2 c3) fun hp7' nx7' y7 hal7' v7=>?_
          have hle7':=hal7'.le
          have v5':=(v5.ka (nx:=nx5) (by omega) hal6').ka (nx:=nx6) (by omega) hal7'
          have v6':=v6.ka (nx:=nx6) (by omega) hal7'
          simp only [bSa,↓bSb,reduceCtorEq,b3,b4,b5,b6,b9,b10,b11,hle7',v5'.rox (show nx13≤es2.nx by omega),v6'.rox (show nx13≤es2.nx by omega),v7.rox (show nx13≤es2.nx by omega)]
          have e5:∀ j,j < es2.nx→hp5.get j=es2.hp.get j:=fun j hj=>hal5.same j (by omega)
          have e6:∀ j,j < es2.nx→hp6'.get j=es2.hp.get j:=fun j hj=>(hal6'.same j (by omega)).trans (e5 j hj)
          have e7:∀ j,j < es2.nx→hp7'.get j=es2.hp.get j:=fun j hj=>(hal7'.same j (by omega)).trans (e6 j hj)
          have hps:PsOK [⟨17,[12,16,11,15,13,14,6,10,5,9,7,8,0,4,3,1,2],hp6',hp7'⟩,⟨11,[6,10,5,9,7,8,0,4,3,1,2],hp5,hp6'⟩,⟨5,[0,4,3,1,2],es2.hp,hp5⟩] es2.hp nx13:=(((PsOK.nil _ _).cons (fun _ _=>rfl) fun j (hj:j < nx13)=>e5 j (by omega)).cons (fun j (hj:j < nx13)=>e5 j (by omega)) fun j (hj:j < nx13)=>e6 j (by omega)).cons (fun j (hj:j < nx13)=>e6 j (by omega)) fun j (hj:j < nx13)=>e7 j (by omega)
          have r10:∀ {id:Nat} {T:Nat} {cs:List DV} {m i:Nat} {an lo:List Nat} {c:Bool} {ws:List Look},id < nx13→es2.hp.get id=some (.row T cs)→(∀ q∈cs,Ab2 6 q q=true)→Af9 es2.nx m ws _=true→Af9 es2.nx m (lookE i an true c (DV.pt id 0).refs es2.nx lo ws) _=true:=fun hid hg hc h2=>Am1 (fun j hj=>by simpa [DV.refs] using hj) (by omega) (fun p hp=>⟨((hps p hp).1 _ hid).trans hg,((hps p hp).2 _ hid).trans hg⟩) hc h2
          have r11:∀ {m i:Nat} {an lo:List Nat} {c:Bool} {ws:List Look} {rf:List Nat},(∀ j∈rf,j∈x13.refs)→Af9 es2.nx m ws _=true→Af9 es2.nx m (lookE i an true c rf es2.nx lo ws) _=true:=fun hr h2=>An8 w4 (fun j (hj:j < nx13)=>by omega) hps hr h2
          exact ⟨r11 (Ak0 _ _ _) (r11 (fun _ h=>h) (r11 (fun _ h=>h) (r10 (by omega) g3 (AR.same t1' t2' t3') (r11 (Ak0 _ _ _) (r11 (fun _ h=>h) (r11 (fun _ h=>h) (r10 (by omega) g2 (AR.same s1' s2' s3') rfl))))))),by omega,e7,y5,y6,y7,rfl,rfl,rfl,v5',v6',v7⟩
         ·have hzl:∀ j,(nx14 < j∧j < es2.nx∧j∉z.refs)∨j∈z.refs→nx14 < j∧j < es2.nx:=fun j hj=>by
           rcases hj with hj | hj
           ·exact ⟨hj.1,hj.2.1⟩
           ·have:=hrz j hj; exact ⟨by omega,this.2⟩
          have ho3:=hoz.keep (hp':=es3.hp) fun j hj=>hfr3 j (hzl j hj).2
          have hgo3:=(hfr3 nx14 (by omega)).trans hgo
          have w3:RL rInts es3.hp (Bl nx13) x13 P:=w4.keep fun j (hj:j < nx13)=>hfr3 j (by omega)
          obtain ⟨q3',rq3,lq3⟩:=Ar4 w3 h
          have lU:(Ab3 b.cells P[i]).length < 900000:=Ap7 hb _
          have lV:(Ab3 x.cells P[i]).length < 900000:=Ap7 hx _
          have lW:(Ab3 y.cells P[i]).length < 900000:=Ap7 hy _
          have hwt:=hWt i h
          generalize Ab3 b.cells P[i]=u at rU hwt lU
          generalize Ab3 x.cells P[i]=v at rV hwt lV
          generalize Ab3 y.cells P[i]=w at rW hwt lW
          refine EW.seq (fun es4=>rawE es4 (.t (.l (.l .o)))=.pt es.nx 0∧rawE es4 (.t (.r (.l .o)))=.pt (es.nx+1) 0∧rawE es4 (.t (.l (.r .o)))=.pt (es.nx+1+1) 0∧rawE es4 (.t (.r (.r .o)))=.pt (es.nx+1+1+1) 0∧rawE es4 (.t (.l (.r (.l .o))))=x13∧rawE es4 (.t (.r (.r (.l .o))))=.pt nx14 0∧rawE es4 (.t (.l (.l (.r .o))))=iv (i:Nat)∧es4.hp=es3.hp∧es4.nx=es3.nx∧rawE es4 (.t (.r (.l (.r .o))))=dU∧rawE es4 (.t (.l (.r (.r .o))))=dV∧rawE es4 (.t (.r (.r (.r .o))))=dW) ?_ fun es4 ⟨b3,b4,b5,b6,b9,b10,b11,yh,yn,x12,x13',x14⟩=>?_
          ·simp only [bSa,↓bSb,reduceCtorEq,b3,b4,b5,b6,b9,b10,b11,x12,x13',x14]
          generalize es3.hp=H at *
          generalize es3.nx=N at *
          subst yh yn
          refine EW.seq (fun es5=>rawE es5 (.t (.l (.l .o)))=.pt es.nx 0∧rawE es5 (.t (.r (.l .o)))=.pt (es.nx+1) 0∧rawE es5 (.t (.l (.r .o)))=.pt (es.nx+1+1) 0∧rawE es5 (.t (.r (.r .o)))=.pt (es.nx+1+1+1) 0∧rawE es5 (.t (.l (.r (.l .o))))=x13∧rawE es5 (.t (.r (.r (.l .o))))=.pt nx14 0∧rawE es5 (.t (.l (.l (.r .o))))=iv (i:Nat)∧es5.hp=es4.hp∧es4.nx≤es5.nx∧∃ dX xx,rawE es5 (.t (.l (.l (.l (.l .o)))))=dX∧RL rVal es4.hp (Bl nx13) dX xx∧mrgV [u,v,w]=some xx∧xx.length < 900000) ?_ fun es5 ⟨b3,b4,b5,b6,b9,b10,b11,yh,yn,dX,xx,x15,rX,hX,lX⟩=>?_
          ·refine ew_b.2 ?_
           simp only [bSa,↓bSb,reduceCtorEq,x13',x14]
           refine kws (Av5 (k:=k+16) nx13 _ _ _ dV dW v w (by omega) rV rW lV fun nx6 hle6=>?_)
           by_cases d1:v=w
           ·simp only [bSa,↓bSb,reduceCtorEq,b3,b4,b5,b6,b9,b10,b11,x13',decide_eq_true d1]
            exact ⟨hle6,dV,v,rfl,rV,by rw [At7,if_pos (.inl d1)],lV⟩
           ·simp only [bSa,↓bSb,reduceCtorEq,x12,x14,decide_eq_false d1]
            refine kws (Av5 (k:=k+16) nx13 _ _ _ dU dW u w (by omega) rU rW lU fun nx7 hle7=>?_)
            by_cases d2:u=w
            ·simp only [bSa,↓bSb,reduceCtorEq,b3,b4,b5,b6,b9,b10,b11,x13',decide_eq_true d2]
             exact ⟨by omega,dV,v,rfl,rV,by rw [At7,if_pos (.inr d2)],lV⟩
            ·simp only [bSa,↓bSb,reduceCtorEq,x12,x13',decide_eq_false d2]
             refine kws (Av5 (k:=k+16) nx13 _ _ _ dU dV u v (by omega) rU rV lU fun nx8 hle8=>?_)
             by_cases d3:u=v
             ·simp only [bSa,↓bSb,reduceCtorEq,b3,b4,b5,b6,b9,b10,b11,x14,decide_eq_true d3]
              exact ⟨by omega,dW,w,rfl,rW,by rw [At7,if_neg (fun h=>h.elim d1 d2),if_pos d3],lW⟩
             ·simp only [bSa,↓bSb,decide_eq_false d3]
              have hX:mrgX (mWalk b x y)=some P[i]:=by
               have e:mWalk b x y=((mWalk b x y).take i ++ [(P[i],[u,v,w])]) ++ (mWalk b x y).drop (i+1):=by rw [← hwt,List.take_append_drop]
               rw [e,List.append_assoc]
               exact Bi7 hno _ _ (by rw [At7,if_neg (fun h=>h.elim d1 d2),if_neg d3])
              have hE:Ad6 b x y=19:=by unfold Ad6; rw [if_neg hcc,if_neg (fun h=>h.elim (fun h=>by rw [show Ag8 b x=true from c4] at h; cases h) fun h=>by rw [show Ag8 b y=true from c5] at h; cases h),if_neg (by rw [hX]; simp)]
              have hP:Ag6 b x y=P[i]:=by unfold Ag6; rw [hE,if_pos rfl,hX]; rfl
              refine Af7 (cs:=[nilS,nilS,nilS]) rfl ?_
              simp only [bSa,↓bSb]
              refine Ae3 (fl:=[]) rfl rfl fun hp20 hg20 hk20=>?_
              simp only [bR] at hg20 hk20
              have w20:RL rInts hp20 (Bl nx13) x13 P:=w3.keep fun j (hj:j < nx13)=>hk20 j (by omega)
              obtain ⟨q20,rq20,lq20⟩:=Ar4 w20 h
              simp only [bSa,↓bSb,reduceCtorEq,b9,b11,Ar2 w20 h,lq20]
              refine Ac2 (R:=rInt) (p:=fun _=>False) (p2:=fun _=>False) (d:=.ms nx8 0 0 1) (d2:=q20) (l:=[]) (m:=P[i]) (by simp only [bR,reduceCtorEq,bP]) (.ms nx8 [] [] hg20 rfl) (by simp only [n_ev,bR,bP]; exact rq20.live) (by obtain ⟨ds,q1,q2⟩:=rq20.srcD (es:=⟨es4.sl,hp20,nx8⟩); exact ⟨ds,q1,Af0 (R:=rInt) (fun h=>rInt_rd.2 (rInt_rd.1 h)) q2⟩) rfl rfl (by simp; omega) (by decide) fun hp21 hk21 h21=>?_
              simp only [bR,List.nil_append] at hk21 h21
              have o21:=h21 (fun _=>False) (fun j hj=>(hj.elim False.elim False.elim:False).elim)
              have k21:∀ j,j < es2.nx→hp21.get j=es2.hp.get j:=fun j hj=>by rw [hk21 j (by omega) (nms (by omega)),hk20 j (by omega),hfr3 j hj]
              simp only [bSa,↓bSb]
              refine Ac4 (n:=3) (id:=es.nx+1+1+1) (ds:=[nilS,nilS,nilS]) (by simp only [bR,reduceCtorEq,b6]) ((k21 _ (by omega)).trans ((kk _ (by omega)).trans q4)) (by simp only [evt,bR,reduceCtorEq]; rfl) rfl rfl fun hp22 hg22 hk22=>?_
              simp only [bR] at hg22 hk22
              have r22:=(o21.rl.mono (q:=fun j=>j=nx8+1) fun j hj=>by
               have:j=nx8+1:=by simpa [DV.refs] using hj
               exact this).keep (hp':=hp22) fun j hj=>hk22 j (by omega)
              simp only [bSa,↓bSb,reduceCtorEq]
              exact ⟨_,_,_,Aj3 (by simp only [bR,reduceCtorEq,bP,b6]) hg22 rfl,by rw [Aj2]; simp only [bR,reduceCtorEq,bP]; rw [r22.live],by rw [Aj2]; simp only [bR,bP,Ad5],stop 19 hE (by decide) hP (r22.mono fun j hj=>by subst hj; exact ⟨by omega,by omega⟩) ⟨by omega,fun j hj=>by rw [hk22 j (by omega),k21 j (by omega),ha1.same j hj]⟩⟩
          generalize es4.hp=H at *
          subst yh
          have happ:mrgC ((mWalk b x y).take (i+1))=mrgC ((mWalk b x y).take i) ++ (if xx=[] then [] else [⟨P[i],xx⟩]):=by
           rw [hwt]
           unfold mrgC
           rw [List.flatMap_append]
           congr 1
           show mrg1 (P[i],[u,v,w]) ++ []=_
           rw [List.append_nil]
           unfold mrg1
           rw [hX]
          have hne:∀ e∈(mWalk b x y).take (i+1),mrgV e.2≠none:=fun e he=>by
           rw [hwt] at he
           rcases List.mem_append.1 he with he | he
           ·exact hno e he
           ·rw [List.mem_singleton.1 he,hX]; simp
          by_cases hxx:xx=[]
          ·subst hxx
           rw [if_pos rfl,List.append_nil] at happ
           simp only [bSa,↓bSb,reduceCtorEq,b3,b4,b5,b6,b9,b10,b11,x15,rX.len,List.length_nil,show decide ((0:Int) < 0)=false from rfl]
           exact ⟨z,fun j hj=>(hfr3 j (by omega)).trans (hfr j hj),by omega,hgo3,by rw [happ]; exact ho3.mono fun j hj=>⟨hj.1,by omega,hj.2.2⟩,fun j hj=>by have:=hrz j hj; omega,hne⟩
          ·rw [if_neg hxx] at happ
           have h0:0 < xx.length:=List.length_pos_iff.2 hxx
           obtain ⟨⟨_,_,fz⟩,_,_,lz,_⟩:=Aa0 hgo3
           have roZ:∀ an,Aa5 z (fun id=>okRef es5.nx 13 an es5.hp id):=fun an=>ho3.rl.ro' (n:=es5.nx) (m:=13) fun j hj=>.inl (by have:=(hzl j hj).2; omega)
           have roPX:∀ an,Aa5 (.agg [q3',dX]) (fun id=>okRef es5.nx 13 an es5.hp id):=fun an=>ro_pr (rq3.rox (show nx13≤es5.nx by omega)) (rX.rox (show nx13≤es5.nx by omega))
           have hfb:=A83 (z:=.slice none 0 0) (w:=.slice none 0 0) rq3.ok rX.ok
           simp only [bSa,↓bSb,bP,reduceCtorEq,b9,b10,b11,x15,rX.len,show (0:Int) < (xx.length:Int) from Int.natCast_pos.2 h0,fz,lz,Ar2 w3 h,lq3,Aa1 (n0:=es5.nx) (m:=13) hgo3 (show nx14 < es5.nx by omega),w3.rox (show nx13≤es5.nx by omega),Ar3 w3 (show nx13≤es5.nx by omega),rq3.rox (show nx13≤es5.nx by omega),rX.rox (show nx13≤es5.nx by omega),Bu8,rq3.live,rX.live,hfb,Option.map_some,iff_true_intro (roPX _)]
           refine Aa2 rfl (Aa7 ?_)
           simp only [bR,List.map_cons,List.map_nil]
           refine Bb0 (k+16) nx13 _ _ _ q3' dX ⟨P[i],xx⟩ (by omega) rq3 rX hp lX fun hp8 nx8 p' v' hal8 rp8 rv8=>?_
           have hle8:=hal8.le
           have hgz8:=(hal8.same nx14 (by omega)).trans hgo3
           have roAB:∀ an,Aa5 (.agg [p',v']) (fun id=>okRef es5.nx 13 an hp8 id):=fun an=>ro_pr (rp8.ro' (n:=es5.nx) (m:=13) fun j hj=>.inr hj.1) (rv8.ro' (n:=es5.nx) (m:=13) fun j hj=>.inr hj.1)
           simp only [bSa,↓bSb,hle8,iff_true_intro (roAB _)]
           refine Av2 (fl:=[p',v']) rfl (by simp only [List.map_cons,List.map_nil,n_ev,bR,bP,Aj1 rp8 rv8]; exact Bu4 (z:=[.slice none 0 0,.slice none 0 0]) rfl) fun hp9 hg9 hk9=>?_
           simp only [bR] at hg9 hk9
           have k9:∀ j,j < es5.nx→hp9.get j=es5.hp.get j:=fun j hj=>by rw [hk9 j (by omega),hal8.same j (by omega)]
           have rp9:=rp8.keep (hp':=hp9) fun j hj=>hk9 j (by have:=hj.1; omega)
           have rv9:=rv8.keep (hp':=hp9) fun j hj=>hk9 j (by have:=hj.1; omega)
           have ho9:=ho3.keep (hp':=hp9) fun j hj=>k9 j (by have:=(hzl j hj).2; omega)
           have hgz9:=(k9 nx14 (by omega)).trans hgo3
           have roZ9:∀ an,Aa5 z (fun id=>okRef es5.nx 13 an hp9 id):=fun an=>ho9.rl.ro' (n:=es5.nx) (m:=13) fun j hj=>.inl (by have:=(hzl j hj).2; omega)
           have hlen:(mrgC ((mWalk b x y).take i)).length≤i:=by
            have:=Ao9 ((mWalk b x y).take i)
            rw [List.length_take] at this
            omega
           simp only [bSa,↓bSb,reduceCtorEq,iff_true_intro (roZ9 _)]
           refine ⟨Ar0 hg9 rfl,?_⟩
           refine Aa2 rfl (Ac2 (R:=rCell) (p:=fun j=>nx14 < j∧j < es2.nx∧j∉z.refs) (p2:=Bw (es5.nx+13) nx8) (d:=z) (d2:=.ms (es5.nx+9) 0 1 2) (l:=mrgC ((mWalk b x y).take i)) (m:=[⟨P[i],xx⟩]) (by simp only [bR,reduceCtorEq,bP]) ho9 (by simp only [n_ev,bR,bP]; exact Ah7 hg9) (An7 (R:=rCell) (x:=⟨P[i],xx⟩) hg9 (rCell_rd.2 ⟨p',v',rfl,rp9,rv9⟩)) rfl rfl (by rw [List.length_singleton]; omega) (by decide) fun hp10 hk10 h10=>?_)
           simp only [bR] at hk10 h10
           have hzn:∀ j∈z.refs,nx14 < j∧j < es2.nx:=fun j hj=>hzl j (.inr hj)
           have o10:=h10 (fun j=>nx14 < j∧j < nx8∧j∉z.refs) (fun j hj=>by
            rcases hj with hj | hj
            ·exact ⟨⟨hj.1,by omega,hj.2.2⟩,by omega,hj.2.2⟩
            ·have h1:=hj.1
             have h2:=hj.2
             exact ⟨⟨by omega,h2,fun h=>by have:=hzn j h; omega⟩,by omega,fun h=>by have:=hzn j h; omega⟩)
           have k10:∀ j,j≤nx14→hp10.get j=es5.hp.get j:=fun j hj=>by rw [hk10 j (by omega) (fun h=>by have:=hzn j h; omega),k9 j (by omega)]
           have hgz10:=(k10 nx14 (by omega)).trans hgo3
           obtain ⟨⟨_,_,fz10⟩,_⟩:=Aa0 hgz10
           obtain ⟨_,_,flN,hgN,_⟩:=o10.get
           have roN:∀ an,okRef es5.nx 13 an hp10 nx8=true:=fun an=>(Ah4 hp10 nx8).2 ⟨by rw [hgN]; rfl,.inr (.inl (by omega))⟩
           simp only [bSa,↓bSb,reduceCtorEq,b10,fz10,Aa1 (n0:=es5.nx) (m:=13) hgz10 (show nx14 < es5.nx by omega),roN _,Nat.le_succ]
           refine Aa2 rfl (Ag0 (id:=nx14) (off:=2) (by simp only [bR]) hgz10 (by simp only [evt,bR,reduceCtorEq]; exact Ah7 hgN) (ok_ms _ _ _ _) (by simp) fun hp11 hg11 hk11=>?_)
           simp only [bR] at hg11 hk11
           simp only [bSa,↓bSb,reduceCtorEq,b3,b4,b5,b6,b9,b10,b11]
           have rD5:=rD16.keep (hp':=es5.hp) fun j hj=>by rw [hfr3 j (by have:=hj.2; omega),hfr j (by have:=hj.2; omega)]
           have rA5:=rA16.keep (hp':=es5.hp) fun j hj=>by rw [hfr3 j (by have:=hj.2; omega),hfr j (by have:=hj.2; omega)]
           have hsz:∀ q∈[dE,aE,z],Ab2 6 q q=true:=AR.same (p:=fun _=>True) (x:=⟨b.dims,b.attrs,mrgC ((mWalk b x y).take i)⟩) (rD5.mono fun _ _=>trivial) (rA5.mono fun _ _=>trivial) (ho3.rl.mono fun _ _=>trivial)
           refine ⟨Aj9 (fun j hj=>?_) (Aj9 (fun j hj=>?_) (As4 _ _ _)),.ms nx8 0 (mrgC ((mWalk b x y).take i) ++ [(⟨P[i],xx⟩:PCell)]).length 2,fun j hj=>?_,by omega,hg11,?_,Rng.ms (by omega) (by omega),hne⟩
           ·have hj:j=nx14:=by simpa [DV.refs] using hj
            subst hj
            refine ⟨by omega,fun q hq'=>?_⟩
            simp only [List.mem_cons,List.not_mem_nil,or_false] at hq'
            rcases hq' with rfl | rfl | rfl
            ·exact .inl rfl
            ·exact .inl rfl
            ·exact .inr (.inr (by rw [if_pos rfl]; exact Ah1 hgo3 (hgz8.trans hgo3.symm) hsz))
           ·have hj:j=nx14:=by simpa [DV.refs] using hj
            subst hj
            refine ⟨by omega,fun q hq'=>?_⟩
            simp only [List.mem_cons,List.not_mem_nil,or_false] at hq'
            rcases hq' with rfl | rfl | rfl
            ·exact .inl rfl
            ·exact .inl rfl
            ·refine .inr (.inr ?_)
             rw [if_neg (by simp)]
             show (((es5.hp.get j).isSome) == ((hp8.get j).isSome))=true
             rw [hgo3,hgz8]; rfl
           ·rw [hk11 j (by omega),k10 j (by omega),hfr3 j (by omega),hfr j hj]
           ·rw [happ]
            refine (o10.keep (hp':=hp11) fun j hj=>hk11 j ?_).mono fun j hj=>⟨hj.1,by omega,fun h=>?_⟩
            ·rcases hj with hj | hj
             ·exact Nat.ne_of_gt hj.1
             ·have:j=nx8:=by simpa [DV.refs] using hj
              omega
            ·have:j=nx8:=by simpa [DV.refs] using h
             omega
        ·simp only [bSa,↓bSb,reduceCtorEq,b3,b4,b5,b6,b9,b10,b11,h,Aa6 (show i < _ by omega)]
         exact ⟨z,hfr,hle,hgo,hoz,hrz,hno⟩
       ·have htk:(mWalk b x y).take i=mWalk b x y:=List.take_of_length_le (by omega)
        rw [htk] at hoz hno
        have hE:Ad6 b x y=0:=by unfold Ad6; rw [if_neg hcc,if_neg (fun h=>h.elim (fun h=>by rw [show Ag8 b x=true from c4] at h; cases h) fun h=>by rw [show Ag8 b y=true from c5] at h; cases h),if_pos (A88 hno)]
        have hA:Ai1 b x y=⟨b.dims,b.attrs,mrgC (mWalk b x y)⟩:=by unfold Ai1; rw [hE,if_pos rfl]
        have hP:Ag6 b x y=[]:=by unfold Ag6; rw [hE,if_neg (by decide)]
        obtain ⟨⟨_,_,fz⟩,_,_,lz,lA⟩:=Aa0 hgo
        have hlen:=Ao9 (mWalk b x y)
        have hnle:¬ 4096 < ((mrgC (mWalk b x y)).length:Int):=by omega
        have up:∀ j,(nx14 < j∧j < es1.nx∧j∉z.refs)∨j∈z.refs→Bw nx13 es1.nx j:=fun j hj=>by
         rcases hj with hj | hj
         ·exact ⟨by omega,hj.2.1⟩
         ·have:=hrz j hj; exact ⟨by omega,this.2⟩
        have vz:=hoz.rl.mono up
        have vD:=(rD16.keep (hp':=es1.hp) fun j hj=>hfr j hj.2).mono (q:=Bw nx13 es1.nx) fun j hj=>⟨hj.1,by have:=hj.2; omega⟩
        have vA:=(rA16.keep (hp':=es1.hp) fun j hj=>hfr j hj.2).mono (q:=Bw nx13 es1.nx) fun j hj=>⟨hj.1,by have:=hj.2; omega⟩
        simp only [bSa,↓bSb,reduceCtorEq,b9,b10,b11,h,w4.len,fz,lz,lA,vz.len,decide_eq_false hnle]
        refine Ac4 (n:=3) (id:=es.nx+1+1+1) (ds:=[dE,aE,z]) (by simp only [bR,reduceCtorEq,b6]) ((kk _ (by omega)).trans q4) (by simp only [evt,bR]; exact AR.live (x:=⟨b.dims,b.attrs,mrgC (mWalk b x y)⟩) vD vA vz) rfl rfl fun hp22 hg22 hk22=>?_
        simp only [bR] at hg22 hk22
        simp only [bSa,↓bSb,reduceCtorEq]
        have k22:∀ j,Bw nx13 es1.nx j→hp22.get j=es1.hp.get j:=fun j hj=>hk22 j (by have:=hj.1; omega)
        have up2:∀ j,Bw nx13 es1.nx j→Bw es.nx es1.nx j:=fun j hj=>⟨by have:=hj.1; omega,hj.2⟩
        refine ⟨_,nilS,iv 0,Aj3 (by simp only [bR,reduceCtorEq,bP,b6]) hg22 rfl,by rw [Aj2]; simp only [bR,reduceCtorEq,bP,Ad5]; rfl,by rw [Aj2]; simp only [bR,bP,Ad5],?_⟩
        rw [← hE]
        refine hK _ _ _ _ ⟨by omega,fun j hj=>?_⟩ ?_ ?_
        ·rw [hk22 j (by omega),hfr j (by omega),ha16.same j hj]
        ·rw [hA]
         exact ⟨dE,aE,z,rfl,(vD.keep k22).mono up2,(vA.keep k22).mono up2,(vz.keep k22).mono up2⟩
        ·rw [hP]; exact .nil
      ·refine ⟨nilS,?_⟩
       simp only [bSa,reduceCtorEq]
       exact ⟨fun _ _=>trivial,by omega,hg16,.nil,Rng.nil _ _,fun w hw=>by simp at hw⟩
   ·simp only [bSa,↓bSb,reduceCtorEq,show decide (¬ Aa4 y=0)=true by simp [c3]]
    refine Af7 (cs:=[nilS,nilS,nilS]) rfl ?_
    simp only [bSa,↓bSb]
    refine Ac4 (n:=3) (id:=es.nx+1+1+1) (ds:=[nilS,nilS,nilS]) (by simp only [bR,reduceCtorEq]) ((k9 _ (by omega)).trans q4) (by simp only [evt,bR]; rfl) rfl rfl fun hA hgA hkA=>?_
    simp only [bR] at hgA hkA
    simp only [bSa,↓bSb,reduceCtorEq]
    have he:=hm2 (.inr c3)
    exact ⟨_,_,_,Aj3 (by simp only [bR,reduceCtorEq,bP]) hgA rfl,by rw [Aj2]; simp only [bR,reduceCtorEq,bP,Ad5]; rfl,by rw [Aj2]; simp only [bR,bP,Ad5],stop 2 he (by decide) (hp2' (by rw [he]; decide)) .nil ⟨ha9.le,fun j hj=>by rw [hkA j (by omega),ha9.same j hj]⟩⟩
  ·simp only [bSa,↓bSb,reduceCtorEq,show decide (¬ Aa4 x=0)=true by simp [c2]]
   refine Af7 (cs:=[nilS,nilS,nilS]) rfl ?_
   simp only [bSa,↓bSb]
   refine Ac4 (n:=3) (id:=es.nx+1+1+1) (ds:=[nilS,nilS,nilS]) (by simp only [bR,reduceCtorEq]) ((k8 _ (by omega)).trans q4) (by simp only [evt,bR]; rfl) rfl rfl fun hA hgA hkA=>?_
   simp only [bR] at hgA hkA
   simp only [bSa,↓bSb,reduceCtorEq]
   have he:=hm2 (.inl (.inr c2))
   exact ⟨_,_,_,Aj3 (by simp only [bR,reduceCtorEq,bP]) hgA rfl,by rw [Aj2]; simp only [bR,reduceCtorEq,bP,Ad5]; rfl,by rw [Aj2]; simp only [bR,bP,Ad5],stop 2 he (by decide) (hp2' (by rw [he]; decide)) .nil ⟨ha8.le,fun j hj=>by rw [hkA j (by omega),ha8.same j hj]⟩⟩
 ·simp only [bSa,↓bSb,reduceCtorEq,show decide (¬ Aa4 b=0)=true by simp [c1]]
  refine Af7 (cs:=[nilS,nilS,nilS]) rfl ?_
  simp only [bSa,↓bSb]
  refine Ac4 (n:=3) (id:=es.nx+1+1+1) (ds:=[nilS,nilS,nilS]) (by simp only [bR,reduceCtorEq]) ((k7 _ (by omega)).trans q4) (by simp only [evt,bR]; rfl) rfl rfl fun hA hgA hkA=>?_
  simp only [bR] at hgA hkA
  simp only [bSa,↓bSb,reduceCtorEq]
  have he:=hm2 (.inl (.inl c1))
  exact ⟨_,_,_,Aj3 (by simp only [bR,reduceCtorEq,bP]) hgA rfl,by rw [Aj2]; simp only [bR,reduceCtorEq,bP,Ad5]; rfl,by rw [Aj2]; simp only [bR,bP,Ad5],stop 2 he (by decide) (hp2' (by rw [he]; decide)) .nil ⟨ha7.le,fun j hj=>by rw [hkA j (by omega),ha7.same j hj]⟩⟩
end
end Go.DD

/- VersionDeltas returns true: as a contract. Conditions: none. -/
namespace Go.DD
set_option linter.unusedSectionVars false
open Go Go.Proofs
def dArr (x:PArr):DV:=.agg [.sl (x.dims.flatMap rDim.cells) x.dims.length,.sl (x.attrs.flatMap rAttr.cells) x.attrs.length,.sl (x.cells.flatMap rCell.cells) x.cells.length]
theorem Ay9 {x:PArr} {most:Nat} (h:fewA x most=true):x.cells.length≤most:=by
 unfold fewA fewC at h
 simp only [Bool.and_eq_true,decide_eq_true_eq] at h
 exact h.2.1
end Go.DD

/- VersionMerges returns true: as a contract. Conditions: none. -/
namespace Go.DD
set_option linter.unusedSectionVars false
open Go Go.Proofs
theorem Cr2:AOK noA:=⟨by decide,by decide,by decide,fun c h=>by cases h⟩
theorem Bx1 {b x y:PArr} (ob:AOK b) (ox:AOK x) (oy:AOK y) (hl:b.cells.length+x.cells.length+y.cells.length≤128):AOK (Ai1 b x y):=by
 unfold Ai1
 split
 ·rename_i h
  unfold Ad6 at h
  split at h
  ·cases h
  ·rename_i h2
   have h1:Aa4 b=0:=Classical.byContradiction fun h3=>h2 (.inl (.inl h3))
   have h3:Aa4 x=0:=Classical.byContradiction fun h3=>h2 (.inl (.inr h3))
   have h4:Aa4 y=0:=Classical.byContradiction fun h3=>h2 (.inr h3)
   exact Cc5 h1 h3 h4 ob ox oy hl
 ·exact Cr2
theorem Bl4 {b x y:PArr} (ob:AOK b) (ox:AOK x) (oy:AOK y):(Ag6 b x y).length < 900000:=by
 unfold Ag6
 split
 ·cases h:mrgX (mWalk b x y) with
  | none=>simp
  | some p=>
   unfold mrgX at h
   cases h2:(mWalk b x y).find? (fun w=>(mrgV w.2).isNone) with
   | none=>rw [h2] at h; cases h
   | some w=>
    rw [h2] at h
    have hw:=List.mem_of_find?_eq_some h2
    obtain ⟨_,⟨l,hl,c,hc,h3⟩,_⟩:=Bi4 w hw
    have:w.1=p:=by simpa using h
    show p.length < 900000
    rw [← this,← h3]
    simp only [List.mem_cons,List.not_mem_nil,or_false] at hl
    rcases hl with rfl | rfl | rfl
    ·exact (ob.e c hc).1
    ·exact (ox.e c hc).1
    ·exact (oy.e c hc).1
 ·simp
theorem ext_m {hp:Tr DObj} {p q:Nat→Prop} {x1 x2 x3 p1:DV} {X:PArr} {l:List Int} {e:Int} (v1:RL rDim hp p x1 X.dims) (v2:RL rAttr hp p x2 X.attrs) (v3:RL rCell hp p x3 X.cells) (h:RL rInt hp q p1 l):extD hp (.tup [.agg [x1,x2,x3],p1,iv e]) 0=some (.agg [x1,x2,x3])∧extD hp (.tup [.agg [x1,x2,x3],p1,iv e]) 1=some p1∧extD hp (.tup [.agg [x1,x2,x3],p1,iv e]) 2=some (iv e):=by
 have hl:∀ id∈(DV.tup [.agg [x1,x2,x3],p1,iv e]).refs,(hp.get id).isSome=true:=fun id hid=>by
  have:id∈x1.refs∨id∈x2.refs∨id∈x3.refs∨id∈p1.refs:=by simpa [DV.refs,DV.refsL,iv] using hid
  rcases this with h1 | h1 | h1 | h1
  ·exact (v1.refs id h1).2
  ·exact (v2.refs id h1).2
  ·exact (v3.refs id h1).2
  ·exact (h.refs id h1).2
 exact ⟨As7 hl,As7 hl,As7 hl⟩
theorem Bl5 (b x y:PArr):Known Tryz.prog 4 [dArr b,dArr x,dArr y] (.v (.bool true)):=by
 refine Known.run1 mixed te_ok (Bf9 (n:=1000000) mixed te_ok Cg3 18) t4 (Nat.le_of_ble_eq_true rfl) (fun x hx=>?_) rfl (fun _=>Cf3 rfl) fun es he=>?_
 ·simp only [List.mem_cons,List.mem_nil_iff,or_false] at hx
  rcases hx with rfl | rfl | rfl <;> rfl
 have a0:rawE es (.t .o)=dArr b:=he 0 _ rfl
 have a1:rawE es (.t (.l .o))=dArr x:=he 1 _ rfl
 have a2:rawE es (.t (.r .o))=dArr y:=he 2 _ rfl
 have ar:∀ (z:PArr) (hp:Tr DObj),∃ a b c,dArr z=.agg [a,b,c]∧RL rDim hp (Bl 0) a z.dims∧RL rAttr hp (Bl 0) b z.attrs∧RL rCell hp (Bl 0) c z.cells:=fun z hp=>⟨_,_,_,rfl,.sl _,.sl _,.sl _⟩
 obtain ⟨d,a,c,e1,r1,r2,r3⟩:=ar b es.hp
 obtain ⟨d',a',c',e2,s1,s2,s3⟩:=ar x es.hp
 obtain ⟨d'',a'',c'',e3,t1,t2,t3⟩:=ar y es.hp
 rw [e1] at a0
 rw [e2] at a1
 rw [e3] at a2
 unfold r4
 have hn:0≤es.nx:=Nat.zero_le _
 simp only [↓bSb]
 refine Aa9 (cs:=[d,a,c]) (by rw [evt,a0]; exact AR.live r1 r2 r3) fun hp1 hg1 hk1=>?_
 simp only [bR] at hg1 hk1
 have hal1:Al es.hp es.nx hp1 (es.nx+1):=⟨by omega,fun j hj=>hk1 j (by omega)⟩
 simp only [bSa,↓bSb]
 refine Aa9 (cs:=[d',a',c']) (by simp only [evt,bR,reduceCtorEq,a1]; exact AR.live (s1.ka hn hal1) (s2.ka hn hal1) (s3.ka hn hal1)) fun hp2 hg2 hk2=>?_
 simp only [bR] at hg2 hk2
 have hal2:Al es.hp es.nx hp2 (es.nx+1+1):=⟨by omega,fun j hj=>by rw [hk2 j (by omega),hk1 j (by omega)]⟩
 simp only [bSa,↓bSb]
 refine Aa9 (cs:=[d'',a'',c'']) (by simp only [evt,bR,reduceCtorEq,a2]; exact AR.live (t1.ka hn hal2) (t2.ka hn hal2) (t3.ka hn hal2)) fun hp3 hg3 hk3=>?_
 simp only [bR] at hg3 hk3
 have hal3:Al es.hp es.nx hp3 (es.nx+1+1+1):=⟨by omega,fun j hj=>by rw [hk3 j (by omega),hal2.same j hj]⟩
 have q1:hp3.get es.nx=some (.row 26 [d,a,c]):=by rw [hk3 _ (by omega),hk2 _ (by omega),hg1]
 have q2:hp3.get (es.nx+1)=some (.row 26 [d',a',c']):=by rw [hk3 _ (by omega),hg2]
 have q3:hp3.get (es.nx+1+1)=some (.row 26 [d'',a'',c'']):=hg3
 have hrA:∀ {hp' nx'},Al es.hp es.nx hp' nx'→AR hp' (Bl 0) (.agg [d,a,c]) b:=fun h=>⟨d,a,c,rfl,r1.ka hn h,r2.ka hn h,r3.ka hn h⟩
 have hrB:∀ {hp' nx'},Al es.hp es.nx hp' nx'→AR hp' (Bl 0) (.agg [d',a',c']) x:=fun h=>⟨d',a',c',rfl,s1.ka hn h,s2.ka hn h,s3.ka hn h⟩
 have hrC:∀ {hp' nx'},Al es.hp es.nx hp' nx'→AR hp' (Bl 0) (.agg [d'',a'',c'']) y:=fun h=>⟨d'',a'',c'',rfl,t1.ka hn h,t2.ka hn h,t3.ka hn h⟩
 obtain ⟨_,_,_,_,lA⟩:=Aa0 q1
 simp only [bSa,↓bSb,reduceCtorEq,lA]
 refine kws (Bt6 15 _ _ _ _ b 30 0 (by omega) (hrA hal3) (by omega) fun hp4 nx4 hal4=>?_)
 have hle4:=hal4.le
 have ha4:=hal3.trans hal4
 obtain ⟨_,_,_,_,lB4⟩:=Aa0 ((hal4.same (es.nx+1) (by omega)).trans q2)
 cases c1:fewA b 30 with
 | false=>
  simp only [bSa,↓bSb,reduceCtorEq]
  refine kws (Av3 17 _ _ _ ?_)
  simp only [bSa,↓bSb,bP,reduceCtorEq]
 | true=>
  simp only [bSa,↓bSb,reduceCtorEq,lB4]
  refine kws (Bt6 15 _ _ _ _ x 30 0 (by omega) (hrB ha4) (by omega) fun hp5 nx5 hal5=>?_)
  have hle5:=hal5.le
  have ha5:=ha4.trans hal5
  have k5:∀ j,j < es.nx+1+1+1→hp5.get j=hp3.get j:=fun j hj=>(hal5.same j (by omega)).trans (hal4.same j (by omega))
  obtain ⟨_,_,_,_,lC5⟩:=Aa0 ((k5 (es.nx+1+1) (by omega)).trans q3)
  cases c2:fewA x 30 with
  | false=>
   simp only [bSa,↓bSb,reduceCtorEq]
   refine kws (Av3 17 _ _ _ ?_)
   simp only [bSa,↓bSb,bP,reduceCtorEq]
  | true=>
   simp only [bSa,↓bSb,reduceCtorEq,lC5]
   refine kws (Bt6 15 _ _ _ _ y 30 0 (by omega) (hrC ha5) (by omega) fun hp6 nx6 hal6=>?_)
   have hle6:=hal6.le
   have ha6:=ha5.trans hal6
   have k6:∀ j,j < es.nx+1+1+1→hp6.get j=hp3.get j:=fun j hj=>(hal6.same j (by omega)).trans (k5 j hj)
   obtain ⟨_,_,_,_,lA6⟩:=Aa0 ((k6 es.nx (by omega)).trans q1)
   obtain ⟨_,_,_,_,lB6⟩:=Aa0 ((k6 (es.nx+1) (by omega)).trans q2)
   obtain ⟨_,_,_,_,lC6⟩:=Aa0 ((k6 (es.nx+1+1) (by omega)).trans q3)
   cases c3:fewA y 30 with
   | false=>
    simp only [bSa,↓bSb,reduceCtorEq]
    refine kws (Av3 17 _ _ _ ?_)
    simp only [bSa,↓bSb,bP,reduceCtorEq]
   | true=>
    have hb:=Ba8 c1 (by omega)
    have hx:=Ba8 c2 (by omega)
    have hy:=Ba8 c3 (by omega)
    have hl1:=Ay9 c1
    have hl2:=Ay9 c2
    have hl3:=Ay9 c3
    simp only [bSa,↓bSb,reduceCtorEq,lA6,lB6,lC6]
    refine kws (B33 0 0 _ _ _ _ _ _ b x y (by omega) (hrA ha6) (hrB ha6) (hrC ha6) hb hx hy (by omega) fun hp7 nx7 u1 p1 hal7 har7 hrp7=>?_)
    have hle7:=hal7.le
    have ha7:=ha6.trans hal7
    have k7:∀ j,j < es.nx+1+1+1→hp7.get j=hp3.get j:=fun j hj=>(hal7.same j (by omega)).trans (k6 j hj)
    obtain ⟨x1,x2,x3,rfl,v1,v2,v3⟩:=har7
    obtain ⟨y0,y1,y2⟩:=ext_m (e:=Ad6 b x y) v1 v2 v3 hrp7
    simp only [bSa,↓bSb,reduceCtorEq,y0,y1,y2]
    refine Ae8 fun hp8 hg8 hk8=>?_
    simp only [bR] at hg8 hk8
    have k8:∀ j,j < nx7→hp8.get j=hp7.get j:=fun j hj=>hk8 j (by omega)
    have v1':=v1.keep (hp':=hp8) fun j hj=>k8 j hj.2
    have v2':=v2.keep (hp':=hp8) fun j hj=>k8 j hj.2
    have v3':=v3.keep (hp':=hp8) fun j hj=>k8 j hj.2
    have hrp8:=hrp7.keep (hp':=hp8) fun j hj=>k8 j hj.2
    simp only [bSa,↓bSb]
    refine Ac4 (n:=3) (id:=nx7) (ds:=[x1,x2,x3]) (by simp only [bR]) hg8 (by simp only [evt,bR,reduceCtorEq]; exact AR.live v1' v2' v3') rfl rfl fun hp9 hg9 hk9=>?_
    simp only [bR] at hg9 hk9
    have k9:∀ j,j < nx7→hp9.get j=hp7.get j:=fun j hj=>(hk9 j (by omega)).trans (k8 j hj)
    have k9':∀ j,j < es.nx+1+1+1→hp9.get j=hp3.get j:=fun j hj=>(k9 j (by omega)).trans (k7 j hj)
    have ha9:Al es.hp es.nx hp9 (nx7+1):=⟨by omega,fun j hj=>by rw [k9 j (by omega),ha7.same j hj]⟩
    have v1':=v1.keep (hp':=hp9) fun j hj=>k9 j hj.2
    have v2':=v2.keep (hp':=hp9) fun j hj=>k9 j hj.2
    have v3':=v3.keep (hp':=hp9) fun j hj=>k9 j hj.2
    have hrp9:=hrp7.keep (hp':=hp9) fun j hj=>k9 j hj.2
    obtain ⟨_,_,_,_,lA9⟩:=Aa0 ((k9' es.nx (by omega)).trans q1)
    obtain ⟨_,_,_,_,lB9⟩:=Aa0 ((k9' (es.nx+1) (by omega)).trans q2)
    obtain ⟨_,_,_,_,lC9⟩:=Aa0 ((k9' (es.nx+1+1) (by omega)).trans q3)
    simp only [bSa,↓bSb,reduceCtorEq,lA9,lB9,lC9]
    refine kws (Bx0 0 0 _ _ _ _ _ _ b x y (by omega) (hrA ha9) (hrB ha9) (hrC ha9) hb hx hy (by omega) fun hp10 nx10 u2 p2 hal10 har10 hrp10=>?_)
    have hle10:=hal10.le
    obtain ⟨z1,z2,z3,rfl,w1,w2,w3⟩:=har10
    obtain ⟨y0,y1,y2⟩:=ext_m (e:=Ad6 b x y) w1 w2 w3 hrp10
    simp only [bSa,↓bSb,reduceCtorEq,y0,y1,y2]
    refine Ae8 fun hp11 hg11 hk11=>?_
    simp only [bR] at hg11 hk11
    have w1':=w1.keep (hp':=hp11) fun j hj=>hk11 j (by have:=hj.2; omega)
    have w2':=w2.keep (hp':=hp11) fun j hj=>hk11 j (by have:=hj.2; omega)
    have w3':=w3.keep (hp':=hp11) fun j hj=>hk11 j (by have:=hj.2; omega)
    simp only [bSa,↓bSb]
    refine Ac4 (n:=3) (id:=nx10) (ds:=[z1,z2,z3]) (by simp only [bR]) hg11 (by simp only [evt,bR,reduceCtorEq]; exact AR.live w1' w2' w3') rfl rfl fun hp12 hg12 hk12=>?_
    simp only [bR] at hg12 hk12
    have k12:∀ j,j < nx10→hp12.get j=hp10.get j:=fun j hj=>by rw [hk12 j (by omega),hk11 j (by omega)]
    have k12':∀ j,j < nx7+1→hp12.get j=hp9.get j:=fun j hj=>(k12 j (by omega)).trans (hal10.same j hj)
    have bx:∀ {n m:Nat},m≤nx10+1→∀ j,Bw n m j→Bl (nx10+1) j:=fun hm j hj=>Nat.lt_of_lt_of_le hj.2 hm
    have V1:=(v1'.keep (hp':=hp12) fun j hj=>k12' j (by have:=hj.2; omega)).mono (bx (by omega))
    have V2:=(v2'.keep (hp':=hp12) fun j hj=>k12' j (by have:=hj.2; omega)).mono (bx (by omega))
    have V3:=(v3'.keep (hp':=hp12) fun j hj=>k12' j (by have:=hj.2; omega)).mono (bx (by omega))
    have VP:=(hrp9.keep (hp':=hp12) fun j hj=>k12' j (by have:=hj.2; omega)).mono (bx (by omega))
    have W1:=(w1.keep (hp':=hp12) fun j hj=>k12 j hj.2).mono (bx (by omega))
    have W2:=(w2.keep (hp':=hp12) fun j hj=>k12 j hj.2).mono (bx (by omega))
    have W3:=(w3.keep (hp':=hp12) fun j hj=>k12 j hj.2).mono (bx (by omega))
    have WP:=(hrp10.keep (hp':=hp12) fun j hj=>k12 j hj.2).mono (bx (by omega))
    obtain ⟨_,_,_,_,lX⟩:=Aa0 ((k12' nx7 (by omega)).trans hg9)
    obtain ⟨_,_,_,_,lY⟩:=Aa0 hg12
    simp only [bSa,↓bSb,reduceCtorEq,lX,lY]
    refine kws (Bv8 15 (nx10+1) _ _ _ _ _ (Ai1 b x y) (Ai1 b x y) (Nat.le_refl _) ⟨x1,x2,x3,rfl,V1,V2,V3⟩ ⟨z1,z2,z3,rfl,W1,W2,W3⟩ (Bx1 hb hx hy (by omega)) fun hp13 nx13 hal13=>?_)
    have hle13:=hal13.le
    simp only [bSa,↓bSb,reduceCtorEq]
    refine kws (A39 17 nx13 _ _ _ p1 p2 (Ag6 b x y) (Ag6 b x y) (Nat.le_refl _) ((VP.ka (Nat.le_refl _) hal13).bl hle13) ((WP.ka (Nat.le_refl _) hal13).bl hle13) (Bl4 hb hx hy) fun nx14 hle14=>?_)
    simp only [bSa,↓bSb,reduceCtorEq]
    refine kws (Av3 17 _ _ _ ?_)
    simp only [bSa,↓bSb,bP,reduceCtorEq]
end Go.DD

/- What the model's memory reads as: structs, slices of structs, nested. Conditions: those that each theorem states. -/
namespace Go.DD
set_option linter.unusedSectionVars false
open Go Go.ChangeShapes Go.WideShapes Go.ChangeAt Go.RowKit
theorem lt_of_cell {W:World} {a:Addr} {v:Value} (h:W.cell? a=some v):a.block < W.heap.size:=by
 rcases Nat.lt_or_ge a.block W.heap.size with h' | h'
 ·exact h'
 ·simp [World.cell?,Array.getElem?_eq_none h'] at h
structure RC (W:World) (us:List Value) (ds:List DV):Prop where
 len:us.length=ds.length
 one:∀ u∈us,u.oneCell'=true
 rel:∀ (j:Nat) (u:Value) (d:DV),us[j]?=some u→ds[j]?=some d→RelI W (fun b=>b < W.heap.size) u d
theorem RC.nil (W:World):RC W [] []:=⟨rfl,fun u h=>by (cases h),fun j u d h=>by simp at h⟩
theorem RC.app {W:World} {us vs:List Value} {ds es:List DV} (h1:RC W us ds) (h2:RC W vs es):RC W (us ++ vs) (ds ++ es):=by
 refine ⟨by rw [List.length_append,List.length_append,h1.len,h2.len],fun u hu=>?_,fun j u d hu hd=>?_⟩
 ·rcases List.mem_append.1 hu with h | h
  ·exact h1.one u h
  ·exact h2.one u h
 ·rcases Nat.lt_or_ge j us.length with h | h
  ·rw [List.getElem?_append_left h] at hu
   rw [List.getElem?_append_left (by rw [← h1.len]; exact h)] at hd
   exact h1.rel j u d hu hd
  ·rw [List.getElem?_append_right h] at hu
   rw [List.getElem?_append_right (by rw [← h1.len]; exact h),← h1.len] at hd
   exact h2.rel _ u d hu hd
theorem RC.one1 {W:World} {u:Value} {d:DV} (h1:u.oneCell'=true) (h:RelI W (fun b=>b < W.heap.size) u d):RC W [u] [d]:=by
 refine ⟨rfl,fun v hv=>by rw [List.mem_singleton.1 hv]; exact h1,fun j v e hv he=>?_⟩
 cases j with
 | zero=>cases hv; cases he; exact h
 | succ j=>simp at hv
section
variable {H:Type} (enc:TypeId×Value→H) (P:Program) (W:World)
def Rd {α:Type} (t:TypeId) (F:α→List DV):Prop:=∀ (n:Nat) (cs:List Value) (x:DataW H×List MemPlace),DataW.trod enc P W 0 (fun _=>true) true n t cs=some x→∃ a:α,RC W cs (F a)
variable {enc P W}
theorem Az0 {t:TypeId} (ht:P.underlying t=some (.int .i64)):Rd enc P W t (fun n:Int=>[iv n]):=fun n cs x h=>by
 obtain ⟨z,rfl,_,_⟩:=DataW.trod_int ht h
 exact ⟨z,.one1 rfl (.v _)⟩
theorem Bx2 {t:TypeId} (ht:P.underlying t=some .string):Rd enc P W t (fun s:ByteArray=>[sv s]):=fun n cs x h=>by
 obtain ⟨s,rfl,_,_⟩:=DataW.trod_string ht h
 exact ⟨s,.one1 rfl (.v _)⟩
theorem Ai3 {t:TypeId} {fs:Array Field} (ht:P.underlying t=some (.struct fs)) {n:Nat} {cs:List Value} {x:DataW H×List MemPlace} (h:DataW.trod enc P W 0 (fun _=>true) true n t cs=some x) (i:Nat) {ti oi:Nat} (hi:(fs.toList.map fun f=>(f.type,f.offset))[i]?=some (ti,oi)) :
  cs.length=P.cellsOf t∧∃ m y,DataW.trod enc P W 0 (fun _=>true) true m ti ((cs.drop oi).take (P.cellsOf ti))=some y:=by
 obtain ⟨xs,m,_,_,hl,hlen,hf⟩:=DataW.trod_struct ht h
 rw [List.getElem?_map] at hi
 obtain ⟨f,hf1,hf2⟩:=Option.map_eq_some_iff.1 hi
 cases hf2
 have hf1':fs[i]?=some f:=by rw [← hf1]; exact (Array.getElem?_toList).symm
 have hlt:i < fs.size:=by
  rcases Nat.lt_or_ge i fs.size with h | h
  ·exact h
  ·rw [Array.getElem?_eq_none h] at hf1'; cases hf1'
 have h2:=hf i f hf1'
 rw [List.getElem?_eq_getElem (by omega)] at h2
 exact ⟨hl,m,_,h2⟩
theorem A08 {α β:Type} {t t0 t1 k0 k1:Nat} {fs:Array Field} {F0:α→List DV} {F1:β→List DV} (ht:P.underlying t=some (.struct fs)) (hfs:fs.toList.map (fun f=>(f.type,f.offset))=[(t0,0),(t1,k0)]) (h0:P.cellsOf t0=k0) (h1:P.cellsOf t1=k1) (hC:P.cellsOf t=k0+k1) (r0:Rd enc P W t0 F0) (r1:Rd enc P W t1 F1):Rd enc P W t (fun p:α×β=>F0 p.1 ++ F1 p.2):=fun n cs x h=>by
 obtain ⟨hl,_,_,g0⟩:=Ai3 ht h 0 (by rw [hfs]; rfl)
 obtain ⟨_,_,_,g1⟩:=Ai3 ht h 1 (by rw [hfs]; rfl)
 obtain ⟨a,ha⟩:=r0 _ _ _ g0
 obtain ⟨b,hb⟩:=r1 _ _ _ g1
 rw [h0] at ha
 rw [h1,List.take_of_length_le (by rw [List.length_drop]; omega)] at hb
 refine ⟨(a,b),?_⟩
 have:=ha.app hb
 rw [List.drop_zero,List.take_append_drop] at this
 exact this
theorem A09 {α β γ:Type} {t t0 t1 t2 k0 k1 k2:Nat} {fs:Array Field} {F0:α→List DV} {F1:β→List DV} {F2:γ→List DV} (ht:P.underlying t=some (.struct fs)) (hfs:fs.toList.map (fun f=>(f.type,f.offset))=[(t0,0),(t1,k0),(t2,k0+k1)]) (h0:P.cellsOf t0=k0) (h1:P.cellsOf t1=k1) (h2:P.cellsOf t2=k2) (hC:P.cellsOf t=k0+k1+k2) (r0:Rd enc P W t0 F0) (r1:Rd enc P W t1 F1) (r2:Rd enc P W t2 F2):Rd enc P W t (fun p:α×β×γ=>F0 p.1 ++ (F1 p.2.1 ++ F2 p.2.2)):=fun n cs x h=>by
 obtain ⟨hl,_,_,g0⟩:=Ai3 ht h 0 (by rw [hfs]; rfl)
 obtain ⟨_,_,_,g1⟩:=Ai3 ht h 1 (by rw [hfs]; rfl)
 obtain ⟨_,_,_,g2⟩:=Ai3 ht h 2 (by rw [hfs]; rfl)
 obtain ⟨a,ha⟩:=r0 _ _ _ g0
 obtain ⟨b,hb⟩:=r1 _ _ _ g1
 obtain ⟨c,hc⟩:=r2 _ _ _ g2
 rw [h0] at ha
 rw [h1] at hb
 rw [h2,List.take_of_length_le (by rw [List.length_drop]; omega)] at hc
 refine ⟨(a,b,c),?_⟩
 have h12:=hb.app hc
 rw [← List.drop_drop,List.take_append_drop] at h12
 have:=ha.app h12
 rw [List.drop_zero,List.take_append_drop] at this
 exact this
theorem Bl6 {α β γ δ:Type} {t t0 t1 t2 t3 k0 k1 k2 k3:Nat} {fs:Array Field} {F0:α→List DV} {F1:β→List DV} {F2:γ→List DV} {F3:δ→List DV} (ht:P.underlying t=some (.struct fs)) (hfs:fs.toList.map (fun f=>(f.type,f.offset))=[(t0,0),(t1,k0),(t2,k0+k1),(t3,k0+k1+k2)]) (h0:P.cellsOf t0=k0) (h1:P.cellsOf t1=k1) (h2:P.cellsOf t2=k2) (h3:P.cellsOf t3=k3) (hC:P.cellsOf t=k0+k1+k2+k3) (r0:Rd enc P W t0 F0) (r1:Rd enc P W t1 F1) (r2:Rd enc P W t2 F2) (r3:Rd enc P W t3 F3):Rd enc P W t (fun p:α×β×γ×δ=>F0 p.1 ++ (F1 p.2.1 ++ (F2 p.2.2.1 ++ F3 p.2.2.2))):=fun n cs x h=>by
 obtain ⟨hl,_,_,g0⟩:=Ai3 ht h 0 (by rw [hfs]; rfl)
 obtain ⟨_,_,_,g1⟩:=Ai3 ht h 1 (by rw [hfs]; rfl)
 obtain ⟨_,_,_,g2⟩:=Ai3 ht h 2 (by rw [hfs]; rfl)
 obtain ⟨_,_,_,g3⟩:=Ai3 ht h 3 (by rw [hfs]; rfl)
 obtain ⟨a,ha⟩:=r0 _ _ _ g0
 obtain ⟨b,hb⟩:=r1 _ _ _ g1
 obtain ⟨c,hc⟩:=r2 _ _ _ g2
 obtain ⟨e,he⟩:=r3 _ _ _ g3
 rw [h0] at ha
 rw [h1] at hb
 rw [h2] at hc
 rw [h3,List.take_of_length_le (by rw [List.length_drop]; omega)] at he
 refine ⟨(a,b,c,e),?_⟩
 have x1:cs.drop (k0+k1)=(cs.drop k0).drop k1:=by rw [List.drop_drop]
 have x2:cs.drop (k0+k1+k2)=(cs.drop (k0+k1)).drop k2:=by rw [List.drop_drop]
 have h23:=hc.app he
 rw [x2,List.take_append_drop] at h23
 have h12:=hb.app h23
 rw [x1,List.take_append_drop] at h12
 have:=ha.app h12
 rw [List.drop_zero,List.take_append_drop] at this
 exact this
theorem A90 {α β:Type} {t:TypeId} {F:α→List DV} {G:β→List DV} (h:Rd enc P W t F) (f:α→β) (hf:∀ a,F a=G (f a)):Rd enc P W t G:=fun n cs x hx=>by
 obtain ⟨a,ha⟩:=h n cs x hx
 exact ⟨f a,by rw [← hf]; exact ha⟩
theorem Ar9 {α:Type} {t e ce:Nat} {F:α→List DV} (ht:P.underlying t=some (.slice e)) (hce:P.cellsOf e=ce) (hpos:0 < ce) (r:Rd enc P W e F):Rd enc P W t (fun l:List α=>[.sl (l.flatMap F) l.length]):=fun n cs x h=>by
 rcases DataW.trod_slice ht h with ⟨rfl,_⟩ | ⟨a,len,cap,elems,rest,m,_,rfl,_,_,hle,_,hel,hget,_,_⟩
 ·exact ⟨[],.one1 rfl (.sl0 _ _)⟩
 ·rw [hce] at hget
  have key:∀ k,k≤len→∃ (l:List α) (us:List Value),l.length=k∧RC W us (l.flatMap F)∧us.length=k*ce∧∀ (j:Nat) (u:Value),us[j]?=some u→W.cell? (a.add j)=some u:=by
   intro k
   induction k with
   | zero=>intro _; exact ⟨[],[],rfl,RC.nil W,by simp,fun j u h=>by simp at h⟩
   | succ k ih=>
    intro hk
    obtain ⟨l,us,h1,h2,h3,h4⟩:=ih (by omega)
    have hg:=hget k (by omega)
    rw [List.getElem?_eq_getElem (by omega)] at hg
    obtain ⟨cs,hcs,htr⟩:=Option.bind_eq_some_iff.1 hg
    obtain ⟨b,hb⟩:=r _ _ _ htr
    obtain ⟨_,hcl,hcc⟩:=World.cells?_some hcs
    refine ⟨l ++ [b],us ++ cs,by simp [h1],?_,by rw [List.length_append,h3,hcl,Nat.add_mul,Nat.one_mul],fun j u hu=>?_⟩
    ·rw [List.flatMap_append]
     have:[b].flatMap F=F b:=by simp
     rw [this]
     exact h2.app hb
    ·rcases Nat.lt_or_ge j us.length with hj | hj
     ·rw [List.getElem?_append_left hj] at hu
      exact h4 j u hu
     ·rw [List.getElem?_append_right hj] at hu
      have hlt:j - us.length < cs.length:=(List.getElem?_eq_some_iff.1 hu).1
      have:=hcc (j - us.length) (by omega)
      rw [add_add,hu] at this
      rw [← this]
      congr 2
      omega
  obtain ⟨l,us,h1,h2,h3,h4⟩:=key len (Nat.le_refl _)
  refine ⟨l,.one1 rfl ?_⟩
  by_cases h0:len=0
  ·subst h0
   obtain rfl:l=[]:=List.length_eq_zero_iff.1 h1
   exact .sl0 _ _
  ·rw [h1]
   refine .sl a len cap us _ h2.len hle ?_ h2.one h4 h2.rel
   have hlt:0 < us.length:=by rw [h3]; exact Nat.mul_pos (by omega) hpos
   have:=lt_of_cell (h4 0 _ (List.getElem?_eq_getElem hlt))
   rwa [Go.DD.block_add] at this
end
end Go.DD

/- From a contract to a law's statement: a law that answers true and of what was there turns nothing. Conditions: none beyond those that each theorem states. -/
namespace Go.DD
open Go Go.RowKit Go.ChangeShapes
theorem A48 {H:Type} {enc:TypeId×Value→H} {P:Program} {f:Func} {s:ChangeSpec} {apart fresh handsOn again:Bool} {W W':World} {args:Array Value} {v:Value} {ds gs:List (DataW H)} {before pa pv:List MemPlace}
  (hW:DataW.Whole enc P f.params.toList s.vars apart W args.toList ds gs before)
  (hres:∀ (b:Nat) (sp:Nat→Bool) (hd:Bool),DataW.TrodAll enc P W' b sp hd f.resultTypes.toList (v.resultList f.resultTypes.size) (s.fn H (ds ++ gs)).results [])
  (hargs:∀ sp:Nat→Bool,(∀ p∈before,sp p.block=true)→DataW.TrodAll enc P W' 0 sp true f.params.toList args.toList (s.fn H (ds ++ gs)).args pa)
  (hvars:∀ sp:Nat→Bool,(∀ p∈before,sp p.block=true)→DataW.TrodVars enc P W' sp s.vars (s.fn H (ds ++ gs)).vars pv)
  (hps:before=pa ++ pv) (hk:Below W.heap.size W W')
  (hok:∀ (j:Nat) (t:TypeId) (r:Value),f.resultTypes[j]?=some t→(v.resultList f.resultTypes.size)[j]?=some r→Value.okWide P W' .any 0 t r) :
  s.post enc P f apart fresh handsOn again W args v W':=by
 have hold:∀ p∈before,(fun b=>decide (b < W.heap.size)) p.block=true:=fun p hp=>by simpa using hW.lt p hp
 have hlt:=hW.lt
 refine ⟨ds,gs,before,[],pa,pv,hW,hres _ _ _,hargs _ hold,hvars _ hold,hk.frame _,fun _=>?_⟩
 obtain ⟨_,_,_,_,_,hz,hn⟩:=hW
 refine ⟨hok,_,_,([] ++ pa) ++ pv,⟨[] ++ pa,pv,trodAll_append (hargs _ (fun _ _=>rfl)) (hres _ _ _),hvars _ (fun _ _=>rfl),rfl,?_,?_⟩,?_⟩
 ·intro b off hp
  have hp':MemPlace.cell b off∈before:=by rw [hps]; simpa using hp
  rw [hk.frozen (hlt _ hp')]
  exact hz b off hp'
 ·intro ha
  have:=hn ha
  rw [hps] at this
  simpa using this
 ·intro p hp _
  rw [hps]
  simpa using hp
theorem DCall.law {P:Program} {f:FuncId} {args:List DV} (h:DCall P f args fun d=>d=.v (.bool true)) (w:World) {vs:List Value} (hl:vs.length=args.length)
  (hr:∀ (j:Nat) (v:Value) (d:DV),vs[j]?=some v→args[j]?=some d→RelI w (fun b=>b < w.heap.size) v d) (hg:∀ x d,GLV x d→RelI w (fun b=>b < w.heap.size) x d) :
  Calls P f vs.toArray w fun e w'=>e=.returned (.bool true)∧Below w.heap.size w w':=
 (h w (fun b=>b < w.heap.size) vs (fun _ h=>h) hl hr hg).mono fun _ _ ⟨v,r,he,hr,hb,hv⟩=>by
  subst hr
  cases hv
  exact ⟨he,hb⟩
end Go.DD

/- What the arguments of chapter 08's statements read as. Conditions: those that each theorem states. -/
namespace Go.DD
set_option linter.unusedSectionVars false
open Go Go.Proofs Go.ChangeShapes Go.WideShapes Go.ChangeAt Go.RowKit
set_option linter.unusedVariables false
theorem own8:ownKnob Tryz.prog.godebug=none:=by kernel_rfl
theorem u2:Tryz.prog.underlying 2=some (.int .i64):=by kernel_rfl
theorem u3:Tryz.prog.underlying 3=some (.int .i64):=by kernel_rfl
theorem u4:Tryz.prog.underlying 4=some .bool:=by kernel_rfl
theorem u9:Tryz.prog.underlying 9=some .string:=by kernel_rfl
theorem u22:Tryz.prog.underlying 22=some (.slice 129):=by kernel_rfl
theorem u23:Tryz.prog.underlying 23=some (.slice 131):=by kernel_rfl
theorem u24:Tryz.prog.underlying 24=some (.slice 39):=by kernel_rfl
theorem u36:Tryz.prog.underlying 36=some (.slice 3):=by kernel_rfl
theorem u37:Tryz.prog.underlying 37=some (.slice 41):=by kernel_rfl
noncomputable def fsOf (t:Nat):Array Field:=match Tryz.prog.underlying t with
 | some (.struct fs)=>fs
 | _=>#[]
theorem uArr:Tryz.prog.underlying 26=some (.struct (fsOf 26)):=by kernel_rfl
theorem uCell:Tryz.prog.underlying 39=some (.struct (fsOf 39)):=by kernel_rfl
theorem uVal:Tryz.prog.underlying 41=some (.struct (fsOf 41)):=by kernel_rfl
theorem uDim:Tryz.prog.underlying 129=some (.struct (fsOf 129)):=by kernel_rfl
theorem uAttr:Tryz.prog.underlying 131=some (.struct (fsOf 131)):=by kernel_rfl
section
variable {H:Type} {enc:TypeId×Value→H} {W:World}
set_option maxRecDepth 100000 in
theorem rdVal:Rd enc Tryz.prog W 41 (fun v:PVal=>rVal.cells v):=
 A90 (Bl6 (t0:=3) (t1:=2) (t2:=2) (t3:=9) (k0:=1) (k1:=1) (k2:=1) (k3:=1) uVal (by kernel_rfl) (by kernel_rfl) (by kernel_rfl) (by kernel_rfl) (by kernel_rfl) (by kernel_rfl) (Az0 u3) (Az0 u2) (Az0 u2) (Bx2 u9)) (fun p=>⟨p.1,p.2.1,p.2.2.1,p.2.2.2⟩) fun _=>rfl
set_option maxRecDepth 100000 in
theorem rdDim:Rd enc Tryz.prog W 129 (fun v:PDim=>rDim.cells v):=
 A90 (A09 (t0:=9) (t1:=3) (t2:=3) (k0:=1) (k1:=1) (k2:=1) uDim (by kernel_rfl) (by kernel_rfl) (by kernel_rfl) (by kernel_rfl) (by kernel_rfl) (Bx2 u9) (Az0 u3) (Az0 u3)) (fun p=>⟨p.1,p.2.1,p.2.2⟩) fun _=>rfl
set_option maxRecDepth 100000 in
theorem Cr3:Rd enc Tryz.prog W 131 (fun v:PAttr=>rAttr.cells v):=
 A90 (A08 (t0:=9) (t1:=3) (k0:=1) (k1:=1) uAttr (by kernel_rfl) (by kernel_rfl) (by kernel_rfl) (by kernel_rfl) (Bx2 u9) (Az0 u3)) (fun p=>⟨p.1,p.2⟩) fun _=>rfl
set_option maxRecDepth 100000 in
theorem Cr4:Rd enc Tryz.prog W 39 (fun v:PCell=>rCell.cells v):=
 A90 (A08 (t0:=36) (t1:=37) (k0:=1) (k1:=1) uCell (by kernel_rfl) (by kernel_rfl) (by kernel_rfl) (by kernel_rfl) (Ar9 (ce:=1) u36 (by kernel_rfl) (by decide) (Az0 u3)) (Ar9 (ce:=4) u37 (by kernel_rfl) (by decide) rdVal)) (fun p=>⟨p.1,p.2⟩) fun _=>rfl
def arrC (x:PArr):List DV:=[.sl (x.dims.flatMap rDim.cells) x.dims.length,.sl (x.attrs.flatMap rAttr.cells) x.attrs.length,.sl (x.cells.flatMap rCell.cells) x.cells.length]
set_option maxRecDepth 100000 in
theorem rdArr:Rd enc Tryz.prog W 26 arrC:=
 A90 (A09 (t0:=22) (t1:=23) (t2:=24) (k0:=1) (k1:=1) (k2:=1) uArr (by kernel_rfl) (by kernel_rfl) (by kernel_rfl) (by kernel_rfl) (by kernel_rfl) (Ar9 (ce:=3) u22 (by kernel_rfl) (by decide) rdDim) (Ar9 (ce:=2) u23 (by kernel_rfl) (by decide) Cr3) (Ar9 (ce:=2) u24 (by kernel_rfl) (by decide) Cr4)) (fun p=>⟨p.1,p.2.1,p.2.2⟩) fun _=>rfl
set_option maxRecDepth 100000 in
theorem Bb1 {base:Nat} {v:Value} {d:DataW H} {p:List MemPlace} (hval:Value.okWide Tryz.prog W .any base 26 v) (h:DataW.Trod enc Tryz.prog W 0 (fun _=>true) true 26 v d p):∃ x:PArr,RelI W (fun b=>b < W.heap.size) v (dArr x):=by
 obtain ⟨cs,e,_⟩:=okWide_struct uArr hval
 subst e
 obtain ⟨fuel,hf⟩:=h
 obtain ⟨x,hx⟩:=rdArr _ _ _ hf
 refine ⟨x,?_⟩
 have this:RelI W (fun b=>b < W.heap.size) (.agg cs.toList.toArray) (dArr x):=RelI.agg (w:=W) (al:=fun b=>b < W.heap.size) cs.toList (arrC x) hx.len hx.one hx.rel
 rw [Array.toArray_toList] at this
 exact this
end
end Go.DD

/- VersionMerges, the statement: for every input the call returns true and each argument reads afterwards as before. Conditions: none. -/
namespace Go.Proofs.YtnphfnhhpcelbaaGreat.versionMerges
open Go.ChangeShapes Go.WideShapes Go.ChangeAt Go.RowKit Go.DD
set_option linter.unusedVariables false

theorem walk (x y z : PArr) {W : World} {v u s : Value} (hx : RelI W (fun b => b < W.heap.size) v (dArr x)) (hy : RelI W (fun b => b < W.heap.size) u (dArr y)) (hz : RelI W (fun b => b < W.heap.size) s (dArr z)) :
    Calls Tryz.prog 4 #[v, u, s] W fun e w' => e = .returned (.bool true) ∧ Below W.heap.size W w' := by
  refine DCall.law (vs := [v, u, s]) (Bl5 x y z).2.2 W rfl (fun j w d hw hd => ?_) (fun x d h => ?_)
  · match j with
    | 0 => cases hw; cases hd; exact hx
    | 1 => cases hw; cases hd; exact hy
    | 2 => cases hw; cases hd; exact hz
    | j + 3 => cases hw
  · obtain ⟨g, cs, h, _⟩ := h
    cases h

set_option maxRecDepth 100000 in
theorem lifted (os : Os) (started : os.Started) (H : Type) (enc : TypeId × Value → H) :
    ReturnsInHanded {} Tryz.checked os 4 .any (Rows.versionMergesSpec.pre6 enc Tryz.prog Tryz.f4 Rows.versionMergesRow.domain false) (Rows.versionMergesSpec.post enc Tryz.prog Tryz.f4 false true false false) := by
  refine returnsInHanded_of_change (C := Tryz.checked) own8 started (by kernel_rfl) Tryz.func4
    (ChangeSpec.witness6 (enc := enc) (C := Tryz.checked) false ⟨#[], #[.agg #[.slice none 0 0, .slice none 0 0, .slice none 0 0], .agg #[.slice none 0 0, .slice none 0 0, .slice none 0 0], .agg #[.slice none 0 0, .slice none 0 0, .slice none 0 0]], []⟩ 8 (by kernel_rfl) (by kernel_rfl) (by kernel_rfl) (by kernel_rfl)) ?_
  intro W base args ds gs before hval0 hW hcnd _
  have hval : ∀ (j : Nat) t v, Tryz.f4.params[j]? = some t → args[j]? = some v → Value.okWide Tryz.prog W .any base t v := hval0
  have hW' := hW
  have hlt := hW.lt
  obtain ⟨p, q, hA0, hV, rfl, hfz, hnd⟩ := hW
  have hA : DataW.TrodAll enc Tryz.prog W 0 (fun _ => true) true Tryz.f4.params.toList args.toList ds p := hA0
  rw [Tryz.params4] at hA hval
  obtain ⟨v0, v1, v2, d0, d1, d2, p0, p1, p2, rfl, rfl, rfl, h0, h1, h2⟩ := trodAll_three hA
  obtain ⟨rfl, rfl⟩ := trodVars_none hV
  obtain ⟨x, hx0⟩ := Bb1 (hval 0 _ v0 rfl rfl) h0
  obtain ⟨y, hx1⟩ := Bb1 (hval 1 _ v1 rfl rfl) h1
  obtain ⟨z, hx2⟩ := Bb1 (hval 2 _ v2 rfl rfl) h2
  clear hA0 hval0
  simp only [List.append_nil, List.append_assoc] at hW' hlt
  refine (walk x y z hx0 hx1 hx2).mono fun e W' ⟨he, hg⟩ => ?_
  subst he
  exact ⟨_, rfl, A48 (pa := p0 ++ (p1 ++ p2)) (pv := []) hW' (fun _ _ _ => trodAll_mk1 (shut_bool u4 _))
    (fun sp hsp => trodAll_mk3 (WideElems.Trod_stays (by kernel_rfl) (by kernel_rfl) (by decide +kernel) h0 (fun x hx => hg.same (hlt x (List.mem_append_left _ hx))) (fun x hx => hsp x (List.mem_append_left _ hx))) (WideElems.Trod_stays (by kernel_rfl) (by kernel_rfl) (by decide +kernel) h1 (fun x hx => hg.same (hlt x (List.mem_append_right _ (List.mem_append_left _ hx)))) (fun x hx => hsp x (List.mem_append_right _ (List.mem_append_left _ hx)))) (WideElems.Trod_stays (by kernel_rfl) (by kernel_rfl) (by decide +kernel) h2 (fun x hx => hg.same (hlt x (List.mem_append_right _ (List.mem_append_right _ hx)))) (fun x hx => hsp x (List.mem_append_right _ (List.mem_append_right _ hx)))))
    (fun _ _ => rfl) (by simp) hg (ok_one (by kernel_rfl) rfl (okWide_bool_mk u4 _))⟩

theorem o1 : (Rows.versionMergesRow.inPlace == Tryz.pinned.checked.prog.inPlace 4) = true := by kernel_rfl
theorem o2 : (Rows.versionMergesRow.unfollowed == Tryz.pinned.checked.prog.unfollowed 4) = true := by kernel_rfl
theorem o3 : (Rows.versionMergesRow.recurses == Tryz.pinned.checked.prog.recurses 4) = true := by kernel_rfl
theorem o4 : (Rows.versionMergesRow.named == Tryz.pinned.checked.prog.varsNamed 4) = true := by kernel_rfl
theorem o5 : joinedFacts Tryz.pinned.checked.prog 4 Tryz.f4 Rows.versionMergesSpec Rows.versionMergesRow = true := by
  unfold joinedFacts
  rw [o1, o2, o3, o4]
  kernel_rfl
theorem over : Rows.versionMergesRow.holds Tryz.pinned (OpenSpec.ofChange Rows.versionMergesSpec) :=
  OpenClaim.holds_of_wide 4 Tryz.f4 rfl rfl rfl rfl rfl rfl rfl ⟨rfl, rfl, rfl, rfl, rfl⟩ rfl rfl rfl rfl rfl (by kernel_rfl) Tryz.func4 o5
    (of_decide_eq_true (by kernel_rfl)) (by unfold Func.isWrapper; first | (rw [if_pos (by decide +kernel)]; kernel_rfl) | (rw [if_neg (by decide +kernel)]; exact ⟨rfl, rfl⟩))
    (fun os started H enc _ => lifted os started H enc)

/-- The statement. -/
theorem proved : Rows.VersionMergesSaid :=
  over
#print axioms proved
end Go.Proofs.YtnphfnhhpcelbaaGreat.versionMerges
