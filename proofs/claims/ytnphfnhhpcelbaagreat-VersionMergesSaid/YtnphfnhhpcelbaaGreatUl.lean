/- Contracts: which values are valid, and fit a type, by the reference. Conditions: those that each theorem states. -/
import Derived.Test.YtnphfnhhpcelbaaGreatUk
namespace Go.DD
set_option linter.unusedSectionVars false
open Go Go.Proofs
def errB (b:Bool):Int:=if b then 0 else 2
theorem Am1 {n0 m i:Nat} {an refs lo:List Nat} {c:Bool} {ws:List Look} {ps:List Past} {id:Nat} {T:TypeId} {cs:List DV} (hr:∀ j∈refs,j=id) (hid:id < n0) (hp:∀ p∈ps,p.a.get id=some (.row T cs)∧p.b.get id=some (.row T cs)) (hc:∀ c∈cs,Ab2 6 c c=true) (h2:Af9 n0 m ws ps=true):Af9 n0 m (lookE i an true c refs n0 lo ws) ps=true:=
 Aj9 (fun j hj=>by
  rw [hr j hj]
  refine ⟨hid,fun p hp'=>.inr (.inr ?_)⟩
  obtain ⟨h3,h4⟩:=hp p hp'
  cases c with
  | true=>rw [if_pos rfl]; exact Ah1 h3 (h4.trans h3.symm) hc
  | false=>rw [if_neg (by simp)]; simp [Ax8,h3,h4]) h2
theorem Bt2 (v:PVal):∀ c∈vc v,Ab2 6 c c=true:=fun c hc=>rVal.samec v c hc 6 (by decide)
theorem RL.ron {α:Type} {R:Rep α} {hp:Tr DObj} {d:DV} {l:List α} {n m a b:Nat} {an:List Nat} (h:RL R hp (Bw a b) d l) (hn:n+m≤a):Aa5 d (fun id=>okRef n m an hp id)↔True:=iff_true_intro fun id hid=>(Ah4 hp id).2 ⟨(h.refs id hid).2,.inr (.inl (by have:=(h.refs id hid).1.1; omega))⟩
section
variable (k:Nat) (hp:Tr DObj) (nx:Nat) (K:DV→Tr DObj→Nat→Prop)
theorem Bk8 (v:PVal) (hl:v.s.size < 900000) (hK:∀ hp' nx',Al hp nx hp' nx'→K (iv (errB (Ag1 v))) hp' nx'):KW (kN (k+5)) (.fn 190) [.agg (vc v)] hp nx K:=by
 refine kn_1 (Aa3 (by decide)) t190 (Nat.le_of_ble_eq_true rfl) fun es e1 e2 he=>?_
 have a0:rawE es (.t .o)=.agg (vc v):=he 0 _ rfl
 unfold r190
 simp only [↓bSb]
 refine Aa9 (cs:=vc v) (by rw [evt,a0]; exact Ac8 rfl) fun hp1 hg1 hk1=>?_
 simp only [bR,e1,e2] at hg1 hk1
 obtain ⟨⟨f0,f1,f2,f3⟩,l0,l1,l2,l3,l4⟩:=vc_fa hg1
 have hal:Al hp nx hp1 (nx+1):=⟨by omega,fun j hj=>hk1 j (by omega)⟩
 have hh:=hK _ _ hal
 by_cases k0:v.kind=0
 ·rw [Bh7 k0] at hh
  unfold At5 at hh
  by_cases c1:1≤v.n <;> by_cases c2:v.n≤255 <;> cases c3:decide (v.d=0) <;> cases c4:emp v.s <;> simp only [bSa,↓bSb,bP,reduceCtorEq,e2,f0,l0,f1,l1,f2,l2,f3,l3,decide_eq_true k0,An9,c1,c2,c3,c4] <;> simpa [errB,c1,c2,c3,c4] using hh
 by_cases k1:v.kind=1
 ·rw [Bh8 k1] at hh
  unfold At5 at hh
  cases c1:decide (v.n=0) <;> cases c2:decide (v.n=1) <;> cases c3:decide (v.d=0) <;> cases c4:emp v.s <;> simp only [bSa,↓bSb,bP,reduceCtorEq,e2,f0,l0,f1,l1,f2,l2,f3,l3,decide_eq_false k0,decide_eq_true k1,An9,c1,c2,c3,c4] <;> simpa [errB,c1,c2,c3,c4] using hh
 by_cases k2:v.kind=2
 ·rw [Bh9 k2] at hK
  have hh:=hK hp1 (nx+37) (hal.nx (by omega))
  by_cases c1:1≤v.d
  ·by_cases c2:v.d≤1099511627776
   ·by_cases c3 : -1099511627776≤v.n
    ·by_cases c4:v.n≤1099511627776
     ·cases c5:emp v.s with
      | true=>
       simp only [bSa,↓bSb,reduceCtorEq,e2,f0,l0,f1,l1,f2,l2,f3,l3,decide_eq_false k0,decide_eq_false k1,decide_eq_true k2,c1,c2,c3,c4,An9,c5,Aa1 (n0:=nx+1) (m:=36) hg1 (show nx < nx+1 by omega)]
       refine Aa2 rfl (Aa7 ?_)
       simp only [bR,List.map_cons,List.map_nil]
       refine Bs9 (k:=k+2) _ _ _ v.n (by omega) fun hp2 nx2 x2 hal2 hr2=>?_
       have hle2:=hal2.le
       have hg2:=(hal2.same nx (by omega)).trans hg1
       obtain ⟨⟨_,q1,q2,q3⟩,_,m1,m2,m3,_⟩:=vc_fa hg2
       simp only [bSa,↓bSb,reduceCtorEq,e2,q2,m2,hle2,Aa1 (n0:=nx+1) (m:=36) hg2 (show nx < nx+1 by omega)]
       refine Aa2 rfl (Aa7 ?_)
       simp only [bR,List.map_cons,List.map_nil]
       refine Bs9 (k:=k+2) _ _ _ v.d (by omega) fun hp3 nx3 x3 hal3 hr3=>?_
       have hle3:=hal3.le
       have hg3:=(hal3.same nx (by omega)).trans hg2
       have hr2':=hr2.keep fun j hj=>hal3.same j hj.2
       simp only [bSa,↓bSb,reduceCtorEq,e2,hle3,hr2'.ron (show nx+1+36≤nx+37 by omega),hr3.ron (show nx+1+36≤nx2 by omega)]
       have h50:(2:Nat) ^ 50=1125899906842624:=by decide
       refine Aa2 rfl (Aa7 ?_)
       simp only [bR,reduceCtorEq,List.map_cons,List.map_nil]
       refine Bt0 (k:=k) _ _ _ (Bw (nx+37) nx3) (fun j hj=>hj.2) x2 x3 v.n.natAbs v.d.natAbs (hr2'.mono fun j hj=>⟨hj.1,Nat.lt_of_lt_of_le hj.2 hle3⟩) (hr3.mono fun j hj=>⟨Nat.le_trans hle2 hj.1,hj.2⟩) (by omega) (by omega) fun hp4 nx4 x4 hal4 hr4=>?_
       have hle4:=hal4.le
       have hr4':RL rU hp4 (Bw (nx+37) nx4) x4 (natD (Nat.gcd v.n.natAbs v.d.natAbs)):=hr4.mono fun j hj=>hj.elim (fun h=>⟨h.1,Nat.lt_of_lt_of_le h.2 hle4⟩) fun h=>⟨by have:=h.1; omega,h.2⟩
       simp only [bSa,↓bSb,reduceCtorEq,e2,hle4]
       refine Aa2 rfl (Aa7 ?_)
       simp only [bR,List.map_cons,List.map_nil]
       refine Al0 (k:=k+3) _ _ _ 1 (by omega) fun hp5 nx5 x5 hal5 hr5=>?_
       have hle5:=hal5.le
       have hr4'':=hr4'.keep fun j hj=>hal5.same j hj.2
       simp only [bSa,↓bSb,reduceCtorEq,e2,hle5,hr4''.ron (show nx+1+36≤nx+37 by omega),hr5.ron (show nx+1+36≤nx4 by omega)]
       refine Aa2 rfl (Aa7 ?_)
       simp only [bR,reduceCtorEq,List.map_cons,List.map_nil]
       refine B14 (k:=k+3) _ _ _ nx5 x4 x5 _ _ (Nat.le_refl _) (hr4''.mono fun j hj=>Nat.lt_of_lt_of_le hj.2 hle5) hr5.inl (by
        have:(natD (Nat.gcd v.n.natAbs v.d.natAbs)).length≤2:=Av6 (by
         have:=Nat.gcd_le_right v.n.natAbs (show 0 < v.d.natAbs by omega)
         have e:(1000000000:Nat) ^ 2=1000000000000000000:=by decide
         omega)
        omega) fun r nx6 hle6 hr=>?_
       have hr2:decide (r=0)=decide (Nat.gcd v.n.natAbs v.d.natAbs=1):=decide_eq_decide.2 (hr.trans ⟨fun h=>B10 h,fun h=>by rw [h]⟩)
       simp only [bSa,↓bSb,bP,reduceCtorEq,e2,hle6,hr2]
       have hg4:=(hal4.same nx (by omega)).trans hg3
       have hg5:=(hal5.same nx (by omega)).trans hg4
       have hps:∀ p∈[(⟨32,[30,31,23,26,29,25,24,22,18,21,17,13,16,12,8,11,7,3,6,2,1,0,5,4,10,9,15,14,20,19,28,27],hp5,hp5⟩:Past),⟨31,[30,23,26,29,25,24,22,18,21,17,13,16,12,8,11,7,3,6,2,1,0,5,4,10,9,15,14,20,19,28,27],hp4,hp5⟩,⟨30,[26,29,23,25,24,22,18,21,17,13,16,12,8,11,7,3,6,2,1,0,5,4,10,9,15,14,20,19,28,27],hp3,hp4⟩,⟨29,[28,26,23,27,22,18,21,17,13,16,12,8,11,7,3,6,2,1,0,5,4,10,9,15,14,20,19,25,24],hp2,hp3⟩,⟨26,[25,23,24,22,18,21,17,13,16,12,8,11,7,3,6,2,1,0,5,4,10,9,15,14,20,19],hp1,hp2⟩],p.a.get nx=some (.row 41 (vc v))∧p.b.get nx=some (.row 41 (vc v)):=by
        intro p hp'
        simp only [List.mem_cons,List.mem_nil_iff,or_false] at hp'
        rcases hp' with rfl | rfl | rfl | rfl | rfl <;> exact ⟨by assumption,by assumption⟩
       have hrf:∀ (off:Nat),∀ j∈(DV.pt nx off).refs,j=nx:=fun off j hj=>by simpa [DV.refs] using hj
       refine ⟨Am1 (hrf 2) (by omega) hps (Bt2 v) (Am1 (hrf 0) (by omega) hps (Bt2 v) rfl),?_⟩
       have hal5':Al hp nx hp5 nx6:=((((hal.nx (by omega:nx+1≤nx+1+36)).trans hal2).trans hal3).trans hal4).trans hal5 |>.nx hle6
       have hh2:=hK _ _ hal5'
       cases c6:decide (Nat.gcd v.n.natAbs v.d.natAbs=1) with
       | true=>
        simp only [bSa]
        simpa [errB,c1,c2,c3,c4,c5,c6] using hh2
       | false=>
        simp only [bSa]
        simpa [errB,c6] using hh2
      | false=>
       simp only [bSa,↓bSb,bP,reduceCtorEq,e2,f0,l0,f1,l1,f2,l2,f3,l3,decide_eq_false k0,decide_eq_false k1,decide_eq_true k2,c1,c2,c3,c4,An9,c5,Aa1 (n0:=nx+1) (m:=36) hg1 (show nx < nx+1 by omega)]
       simpa [errB,c5] using hh
     ·simp only [bSa,↓bSb,bP,reduceCtorEq,e2,f0,l0,f1,l1,f2,l2,decide_eq_false k0,decide_eq_false k1,decide_eq_true k2,c1,c2,c3,c4,Aa1 (n0:=nx+1) (m:=36) hg1 (show nx < nx+1 by omega)]
      simpa [errB,c4] using hh
    ·simp only [bSa,↓bSb,bP,reduceCtorEq,e2,f0,l0,f1,l1,f2,l2,decide_eq_false k0,decide_eq_false k1,decide_eq_true k2,c1,c2,c3,Aa1 (n0:=nx+1) (m:=36) hg1 (show nx < nx+1 by omega)]
     simpa [errB,c3] using hh
   ·simp only [bSa,↓bSb,bP,reduceCtorEq,e2,f0,l0,f2,l2,decide_eq_false k0,decide_eq_false k1,decide_eq_true k2,c1,c2,Aa1 (n0:=nx+1) (m:=36) hg1 (show nx < nx+1 by omega)]
    simpa [errB,c2] using hh
  ·simp only [bSa,↓bSb,bP,reduceCtorEq,e2,f0,l0,f2,l2,decide_eq_false k0,decide_eq_false k1,decide_eq_true k2,c1,Aa1 (n0:=nx+1) (m:=36) hg1 (show nx < nx+1 by omega)]
   simpa [errB,c1] using hh
 by_cases k3:v.kind=3
 ·rw [Bi0 k3] at hK
  have loop:∀ es0 b,es0.hp=hp1→es0.nx=nx+1→rawE es0 (.t (.l .o))=.pt nx 0→rawE es0 (.t (.l (.l .o)))=bv b→rawE es0 (.t (.r (.l .o)))=iv 0→b=(decide (v.n=0) && (decide (v.d=0) && decide (v.s.size≤16)))→∀ Q:Hold (Exit→ES→Prop),(∀ es',es'.hp=hp1→nx+1≤es'.nx→rawE es' (.t (.l (.l .o)))=bv (b && ascii v.s)→Q.val (.exit 1) es')→@EWs (cL 1000000 Bs0) (kN (k+4)) es0 Q:=by
   intro es0 b h1 h2 h3 h4 h5 hb Q hQ
   refine EW.up v.s.size (fun i es1=>es1.hp=hp1∧nx+1≤es1.nx∧rawE es1 (.t (.l .o))=.pt nx 0∧rawE es1 (.t (.l (.l .o)))=bv (b && (v.s.data.toList.take i).all prnt)∧rawE es1 (.t (.r (.l .o)))=iv (i:Nat)) ?_ ⟨h1,by omega,h3,by rw [h4]; simp,h5⟩ (by omega)
   rintro i es1 hi ⟨g1,g2,b1,b3,b4⟩
   unfold Bs0
   by_cases h:i < v.s.size
   ·have h':i < v.s.data.toList.length:=h
    have hall:(v.s.data.toList.take (i+1)).all prnt=((v.s.data.toList.take i).all prnt && prnt v.s.data.toList[i]):=by
     rw [List.take_succ_eq_append_getElem h',List.all_append]; simp
    rw [hall,← Bool.and_assoc]
    have hpc:prnt v.s.data.toList[i]=(decide ((32:Int)≤((v.s.data.toList[i]).toNat:Int)) && decide (((v.s.data.toList[i]).toNat:Int)≤126)):=rfl
    rw [hpc]
    have hix:=Bs2 (k:=.i64) h'
    generalize (b && (v.s.data.toList.take i).all prnt)=b' at b3 ⊢
    generalize v.s.data.toList[i]=c at hix ⊢
    cases b' with
    | false=>
     simp only [bSa,↓bSb,bP,reduceCtorEq,b1,b3,b4,g1,f3,l3,h,Aa6 (show i < _ by omega)]
     exact ⟨by omega,rfl⟩
    | true=>
     by_cases c1:(32:Int)≤(c.toNat:Int)
     ·by_cases c2:(c.toNat:Int)≤126
      ·simp only [bSa,↓bSb,bP,reduceCtorEq,b1,b3,b4,g1,f3,l3,h,hix,c1,c2,Aa6 (show i < _ by omega)]
       exact ⟨by omega,rfl⟩
      ·simp only [bSa,↓bSb,bP,reduceCtorEq,b1,b3,b4,g1,f3,l3,h,hix,c1,c2,Aa6 (show i < _ by omega)]
       exact ⟨by omega,rfl⟩
     ·simp only [bSa,↓bSb,bP,reduceCtorEq,b1,b3,b4,g1,f3,l3,h,hix,c1,Aa6 (show i < _ by omega)]
      exact ⟨by omega,rfl⟩
   ·have h':v.s.data.toList.length≤i:=by have:v.s.data.toList.length=v.s.size:=rfl; omega
    rw [List.take_of_length_le h'] at b3
    simp only [bSa,↓bSb,bP,reduceCtorEq,b1,b4,g1,f3,l3,h]
    refine hQ _ g1 g2 ?_
    simp only [bR,reduceCtorEq]
    exact b3
  simp only [bGa,↓bGb,bP,reduceCtorEq,e2,f0,l0,f1,l1,f2,l2,f3,l3,decide_eq_false k0,decide_eq_false k1,decide_eq_false k2,decide_eq_true k3]
  refine loop _ (decide (v.n=0) && decide (v.d=0) && decide ((v.s.size:Int)≤16)) (by simp only []) (by simp only []) (by simp only [bSa,reduceCtorEq]) (by simp only [bSa,reduceCtorEq]) (by simp only [bSa]) (by rw [Bool.and_assoc]; congr 2; exact decide_eq_decide.2 (by omega)) _ fun es' g1 g2 b3=>?_
  have hh2:=hK es'.hp es'.nx (by rw [g1]; exact hal.nx g2)
  have hb:(decide (v.n=0) && decide (v.d=0) && decide ((v.s.size:Int)≤16) && ascii v.s)=(decide (v.n=0) && (decide (v.d=0) && (decide (v.s.size≤16) && ascii v.s))):=by
   rw [Bool.and_assoc,Bool.and_assoc]; congr 3; exact decide_eq_decide.2 (by omega)
  rw [← hb] at hh2
  simp only [bGa,↓bGb,b3]
  generalize (decide (v.n=0) && decide (v.d=0) && decide ((v.s.size:Int)≤16) && ascii v.s)=b at hh2
  refine cws (fun c=>?_) (fun c=>?_)
  ·subst c
   simp only [bGa,↓bGb,bP,reduceCtorEq]
   exact hh2
  ·subst c
   simp only [bGa,↓bGb,bP,reduceCtorEq]
   exact hh2
 ·rw [A41 k0 k1 k2 k3] at hh
  simp only [bSa,↓bSb,bP,reduceCtorEq,e2,f0,l0,decide_eq_false k0,decide_eq_false k1,decide_eq_false k2,decide_eq_false k3]
  exact hh
theorem B17 (v:PVal) (t:Int) (hl:v.s.size < 900000) (hK:∀ hp' nx',Al hp nx hp' nx'→K (bv (fitsV v t)) hp' nx'):KW (kN (k+6)) (.fn 170) [.agg (vc v),iv t] hp nx K:=by
 refine kn_1 (Aa3 (by decide)) t170 (Nat.le_of_ble_eq_true rfl) fun es e1 e2 he=>?_
 have a0:rawE es (.t .o)=.agg (vc v):=he 0 _ rfl
 have a1:rawE es (.t (.l .o))=iv t:=he 1 _ rfl
 unfold r170
 simp only [↓bSb]
 refine Aa9 (cs:=vc v) (by rw [evt,a0]; exact Ac8 rfl) fun hp1 hg1 hk1=>?_
 simp only [bR,e1,e2] at hg1 hk1
 obtain ⟨_,_,_,_,_,l4⟩:=vc_fa hg1
 have hal1:Al hp nx hp1 (nx+1):=⟨by omega,fun j hj=>hk1 j (by omega)⟩
 simp only [bGa,↓bGb,reduceCtorEq,e2,l4]
 refine kws (Bk8 k _ _ _ v hl fun hp2 nx2 hal2=>?_)
 have hg2:=(hal2.same nx (by omega)).trans hg1
 obtain ⟨⟨f0,f1,f2,f3⟩,l0,l1,l2,l3,l4⟩:=vc_fa hg2
 have hh:=hK _ _ (hal1.trans hal2)
 unfold fitsV at hh
 have he:decide (¬ errB (Ag1 v)=0) = !Ag1 v:=by cases Ag1 v <;> rfl
 simp only [bGa,↓bGb,reduceCtorEq,e2,a1,he]
 refine cws (fun c=>?_) (fun c=>?_)
 ·rw [if_pos (by cases hr:Ag1 v <;> simp [hr] at c ⊢; omega)] at hh
  simp only [bGa,↓bGb,bP,reduceCtorEq]
  exact hh
 rw [if_neg (by cases hr:Ag1 v <;> simp [hr] at c ⊢; omega)] at hh
 by_cases k0:v.kind=0
 ·rw [if_neg (by omega),if_neg (by omega),if_neg (by omega)] at hh
  simp only [bGa,↓bGb,bP,reduceCtorEq,e2,f0,l0,decide_eq_true k0]
  exact hh
 by_cases k1:v.kind=1
 ·rw [if_pos k1] at hh
  simp only [bGa,↓bGb,bP,reduceCtorEq,e2,a1,f0,l0,decide_eq_false k0,decide_eq_true k1]
  exact hh
 rw [if_neg k1] at hh
 by_cases k2:v.kind=2
 ·rw [if_pos k2] at hh
  cases h3:decide (t=3) <;> cases h2:decide (t=2) <;> cases h1:decide (v.d=1) <;> simp only [bSa,↓bSb,bP,reduceCtorEq,e2,a1,f0,l0,f2,l2,decide_eq_false k0,decide_eq_false k1,decide_eq_true k2,h3,h2,h1] <;> exact kb hh (by simp [h1,h2,h3])
 rw [if_neg k2] at hh
 have k3:v.kind=3:=by
  by_cases k3:v.kind=3
  ·exact k3
  ·rw [A41 k0 k1 k2 k3] at c; simp at c
 rw [if_pos k3] at hh
 simp only [bGa,↓bGb,bP,reduceCtorEq,e2,a1,f0,l0,decide_eq_false k0,decide_eq_false k1,decide_eq_false k2]
 exact hh
end
end Go.DD

/- Contracts: coordinates of dimensions; cells. Conditions: those that each theorem states. -/
namespace Go.DD
set_option linter.unusedSectionVars false
open Go Go.Proofs
theorem ofF_s {d:List PDim} {x:List Int} {i:Nat} (h:i < d.length) (h2:i < x.length):ofF (d.drop i) (x.drop i)=if x[i] < d[i].lo∨lastC d[i] < x[i] then false else ofF (d.drop (i+1)) (x.drop (i+1)):=by
 rw [List.drop_eq_getElem_cons h,List.drop_eq_getElem_cons h2]; rfl
theorem ofF_e {d:List PDim} {x:List Int} {i:Nat} (h:d.length≤i):ofF (d.drop i) (x.drop i)=true:=by
 rw [List.drop_eq_nil_of_le h]; cases x.drop i <;> rfl
theorem Bt3 {v:List PVal} {a:List PAttr} {i:Nat} (h:i < v.length) (h2:i < a.length):fitsL (v.drop i) (a.drop i)=if fitsV v[i] a[i].type=false then false else fitsL (v.drop (i+1)) (a.drop (i+1)):=by
 rw [List.drop_eq_getElem_cons h,List.drop_eq_getElem_cons h2]; rfl
theorem Bt4 {v:List PVal} {a:List PAttr} {i:Nat} (h:v.length≤i):fitsL (v.drop i) (a.drop i)=true:=by
 rw [List.drop_eq_nil_of_le h]; cases a.drop i <;> rfl
def PsOK (ps:List Past) (hp:Tr DObj) (n0:Nat):Prop:=∀ q∈ps,(∀ j,Bl n0 j→q.a.get j=hp.get j)∧∀ j,Bl n0 j→q.b.get j=hp.get j
theorem PsOK.nil (hp:Tr DObj) (n0:Nat):PsOK [] hp n0:=fun q h=>by cases h
theorem PsOK.cons {hp:Tr DObj} {n0 i:Nat} {an:List Nat} {a b:Tr DObj} {ps:List Past} (h:PsOK ps hp n0) (h1:∀ j,j < n0→a.get j=hp.get j) (h2:∀ j,j < n0→b.get j=hp.get j):PsOK (⟨i,an,a,b⟩ :: ps) hp n0:=fun q hq=>by
 rcases List.mem_cons.1 hq with rfl | hq
 ·exact ⟨h1,h2⟩
 ·exact h q hq
theorem PsOK.al {hp hp':Tr DObj} {n0 i n n':Nat} {an:List Nat} (h:Al hp n hp' n') (hn:n0≤n):PsOK [⟨i,an,hp,hp'⟩] hp n0:=(PsOK.nil hp n0).cons (fun _ _=>rfl) fun j hj=>h.same j (Nat.lt_of_lt_of_le hj hn)
section
variable (k n0:Nat) (hp:Tr DObj) (nx:Nat) (K:DV→Tr DObj→Nat→Prop)
theorem kn_of (d x:DV) (l:List PDim) (m:List Int) (hn:n0≤nx) (h1:RL rDim hp (Bl n0) d l) (h2:RL rInt hp (Bl n0) x m) (hm:m.length < 900000) (hK:∀ hp' nx',Al hp nx hp' nx'→K (bv (ofB l m)) hp' nx'):KW (kN (k+2)) (.fn 157) [d,x] hp nx K:=by
 refine kn_1 (Aa3 (by decide)) t157 (Nat.le_of_ble_eq_true rfl) fun es e1 e2 he=>?_
 have a0:rawE es (.t .o)=d:=he 0 _ rfl
 have a1:rawE es (.t (.l .o))=x:=he 1 _ rfl
 unfold r157
 by_cases c:m.length=l.length
 ·have hb:ofB l m=ofF l m:=by unfold ofB; rw [decide_eq_true c]; rfl
  rw [hb] at hK
  simp only [bSa,↓bSb,reduceCtorEq,a0,a1,e1,h1.len,h2.len,show decide (¬ m.length=l.length)=false by simp [c]]
  refine EW.up m.length (fun i es1=>Al hp nx es1.hp es1.nx∧rawE es1 (.t .o)=d∧rawE es1 (.t (.r (.l (.r .o))))=x∧rawE es1 (.t (.l (.r (.r .o))))=iv m.length∧rawE es1 (.t (.r (.r (.r .o))))=iv (i:Nat)∧ofF l m=ofF (l.drop i) (m.drop i)) ?_ ?_ (by omega)
  ·rintro i es1 hi ⟨g,b0,b12,b13,b14,hc⟩
   unfold B93
   by_cases h:i < m.length
   ·have h':i < l.length:=by omega
    have r1:=h1.ka hn g
    have r2:=h2.ka hn g
    rw [ofF_s h' h] at hc
    by_cases c1:m[i] < l[i].lo
    ·rw [if_pos (.inl c1)] at hc
     rw [hc] at hK
     simp only [bSa,↓bSb,bP,reduceCtorEq,b0,b12,b13,b14,h,Ae4 r2 h,ints_at r2 h,Ac5 r1 h',Ah8 (k:=1) r1 h',(Ac3 r1 h').2.2.2.1,c1]
     exact hK _ _ g
    ·simp only [bSa,↓bSb,reduceCtorEq,b0,b12,b13,b14,h,Ae4 r2 h,ints_at r2 h,Ac5 r1 h',Ah8 (k:=1) r1 h',(Ac3 r1 h').2.2.2.1,(Ac3 r1 h').1,c1]
     refine kws (Cg9 (k:=k) _ _ _ l[i] fun hp2 nx2 hal2=>?_)
     by_cases c2:lastC l[i] < m[i]
     ·rw [if_pos (.inr c2)] at hc
      rw [hc] at hK
      simp only [bSa,↓bSb,bP,reduceCtorEq,c2]
      exact hK _ _ (g.trans hal2)
     ·rw [if_neg (by omega)] at hc
      simp only [bSa,↓bSb,reduceCtorEq,b0,b12,b13,b14,h,c2,Aa6 (show i < _ by omega)]
      exact ⟨g.trans hal2,hc⟩
   ·simp only [bSa,↓bSb,bP,reduceCtorEq,b13,b14,h]
    rw [ofF_e (by omega)] at hc
    rw [hc] at hK
    exact hK _ _ g
  ·simp only [bSa,reduceCtorEq,a0,e1,e2]
 ·have hb:ofB l m=false:=by unfold ofB; rw [decide_eq_false c]; rfl
  rw [hb] at hK
  simp only [bSa,↓bSb,bP,reduceCtorEq,a0,a1,e1,e2,h1.len,h2.len,c]
  exact hK _ _ (Al.refl _ _)
theorem Cp9 (d x:DV) (l:List PDim) (m:List Int) (hn:n0≤nx) (h1:RL rDim hp (Bl n0) d l) (h2:RL rInt hp (Bl n0) x m) (hm:l.length < 900000) (hK:∀ hp' nx',Al hp nx hp' nx'→K (bv (ofB l m)) hp' nx'):KW (kN (k+2)) (.fn 169) [d,x] hp nx K:=by
 refine kn_1 (Aa3 (by decide)) t169 (Nat.le_of_ble_eq_true rfl) fun es e1 e2 he=>?_
 have a0:rawE es (.t .o)=d:=he 0 _ rfl
 have a1:rawE es (.t (.l .o))=x:=he 1 _ rfl
 unfold r169
 by_cases c:m.length=l.length
 ·have hb:ofB l m=ofF l m:=by unfold ofB; rw [decide_eq_true c]; rfl
  rw [hb] at hK
  simp only [bSa,↓bSb,reduceCtorEq,a0,a1,e1,h1.len,h2.len,show decide (¬ m.length=l.length)=false by simp [c]]
  refine EW.up l.length (fun i es1=>Al hp nx es1.hp es1.nx∧rawE es1 (.t .o)=d∧rawE es1 (.t (.l .o))=x∧rawE es1 (.t (.l (.r .o)))=iv (i:Nat)∧ofF l m=ofF (l.drop i) (m.drop i)) ?_ ?_ (by omega)
  ·rintro i es1 hi ⟨g,b0,b1,b5,hc⟩
   unfold B98
   have r1:=h1.ka hn g
   have r2:=h2.ka hn g
   have hle:=g.le
   by_cases h':i < l.length
   ·have h:i < m.length:=by omega
    rw [ofF_s h' h] at hc
    by_cases c1:m[i] < l[i].lo
    ·rw [if_pos (.inl c1)] at hc
     rw [hc] at hK
     simp only [bSa,↓bSb,bP,reduceCtorEq,b0,b1,b5,h',r1.len,Ae4 r2 h,ints_at r2 h,Ac5 r1 h',Ah8 (k:=1) r1 h',(Ac3 r1 h').2.2.2.1,c1,r1.rox (show n0≤es1.nx by omega),r2.rox (show n0≤es1.nx by omega),Af3 r1 (show n0≤es1.nx by omega),Av4 r1 (show n0≤es1.nx by omega),Ad1 r2 (show n0≤es1.nx by omega)]
     exact hK _ _ (g.nx (by omega))
    ·simp only [bSa,↓bSb,reduceCtorEq,b0,b1,b5,h',r1.len,Ae4 r2 h,ints_at r2 h,Ac5 r1 h',Ah8 (k:=1) r1 h',(Ac3 r1 h').2.2.2.1,(Ac3 r1 h').1,c1,r1.rox (show n0≤es1.nx by omega),r2.rox (show n0≤es1.nx by omega),Af3 r1 (show n0≤es1.nx by omega),Av4 r1 (show n0≤es1.nx by omega),Ad1 r2 (show n0≤es1.nx by omega),Aj0 (show DV.refsL (dc l[i])=[] from rfl)]
     refine Aa2 rfl (Aa7 ?_)
     simp only [bR,List.map_cons,List.map_nil]
     refine B06 (k:=k) _ _ _ l[i] fun hp2 nx2 hal2=>?_
     have hle2:=hal2.le
     by_cases c2:lastC l[i] < m[i]
     ·rw [if_pos (.inr c2)] at hc
      rw [hc] at hK
      simp only [bSa,↓bSb,bP,reduceCtorEq,c2,hle2]
      exact ⟨An8 r2 (fun j (hj:j < n0)=>by omega) (PsOK.al hal2 (by omega)) (Ak0 _ _ _) (An8 r2 (fun j (hj:j < n0)=>by omega) (PsOK.al hal2 (by omega)) (fun _ h=>h) (An8 r2 (fun j (hj:j < n0)=>by omega) (PsOK.al hal2 (by omega)) (fun _ h=>h) rfl)),hK _ _ ((g.nx (by omega)).trans hal2)⟩
     ·rw [if_neg (by omega)] at hc
      simp only [bSa,↓bSb,reduceCtorEq,b0,b1,b5,h',c2,hle2,Aa6 (show i < _ by omega)]
      exact ⟨An8 r2 (fun j (hj:j < n0)=>by omega) (PsOK.al hal2 (by omega)) (Ak0 _ _ _) (An8 r2 (fun j (hj:j < n0)=>by omega) (PsOK.al hal2 (by omega)) (fun _ h=>h) (An8 r2 (fun j (hj:j < n0)=>by omega) (PsOK.al hal2 (by omega)) (fun _ h=>h) rfl)),(g.nx (by omega)).trans hal2,hc⟩
   ·simp only [bSa,↓bSb,bP,reduceCtorEq,b0,b5,h',r1.len]
    rw [ofF_e (by omega)] at hc
    rw [hc] at hK
    exact hK _ _ g
  ·simp only [bSa,reduceCtorEq,a0,a1,e1,e2]
 ·have hb:ofB l m=false:=by unfold ofB; rw [decide_eq_false c]; rfl
  rw [hb] at hK
  simp only [bSa,↓bSb,bP,reduceCtorEq,a0,a1,e1,e2,h1.len,h2.len,c]
  exact hK _ _ (Al.refl _ _)
end
end Go.DD

/- Contracts: cells. Conditions: those that each theorem states. -/
namespace Go.DD
set_option linter.unusedSectionVars false
open Go Go.Proofs
theorem Ai0 {hp:Tr DObj} {id T:Nat} {a b:DV} (h:hp.get id=some (.row T [a,b])):(faD hp 0 (.pt id 0)=some (.pt id 0)∧faD hp 1 (.pt id 0)=some (.pt id 1))∧ldD hp none (.pt id 0)=some a∧ldD hp none (.pt id 1)=some b∧ldD hp (some 2) (.pt id 0)=some (.agg [a,b]):=by
 refine ⟨⟨fa_p h,fa_p h⟩,?_,?_,?_⟩ <;> rw [ld_p h] <;> rfl
def slen (v:PVal):Prop:=v.s.size < 900000
theorem Ao7 {hp:Tr DObj} {p:Nat→Prop} {a b:DV} {c:PCell} (h1:RL rInt hp p a c.pos) (h2:RL rVal hp p b c.vals):liveE hp (.agg [a,b])=.agg [a,b]:=Ah9 fun id hid=>by
 have:id∈a.refs∨id∈b.refs:=by simpa [DV.refs,DV.refsL] using hid
 exact this.elim (fun h=>(h1.refs id h).2) fun h=>(h2.refs id h).2
section
variable (k n0:Nat) (hp:Tr DObj) (nx:Nat) (K:DV→Tr DObj→Nat→Prop) (d a x y:DV) (l:List PDim) (m:List PAttr) (c:PCell) (hn:n0≤nx) (h1:RL rDim hp (Bl n0) d l) (h2:RL rAttr hp (Bl n0) a m) (h3:RL rInt hp (Bl n0) x c.pos) (h4:RL rVal hp (Bl n0) y c.vals) (hl:l.length < 900000) (hm:m.length < 900000) (hs:∀ v∈c.vals,slen v)
include hn h1 h2 h3 h4 hl hm hs
theorem Bt5 (hK:∀ hp' nx',Al hp nx hp' nx'→K (iv (cellE l m c)) hp' nx'):KW (kN (k+6)) (.fn 122) [d,a,.agg [x,y]] hp nx K:=by
 refine kn_1 (Aa3 (by decide)) t122 (Nat.le_of_ble_eq_true rfl) fun es e1 e2 he=>?_
 have a0:rawE es (.t .o)=d:=he 0 _ rfl
 have a1:rawE es (.t (.l .o))=a:=he 1 _ rfl
 have a2:rawE es (.t (.r .o))=.agg [x,y]:=he 2 _ rfl
 unfold r122
 simp only [↓bSb]
 refine Aa9 (cs:=[x,y]) (by rw [evt,a2,e1]; exact Ao7 h3 h4) fun hp1 hg1 hk1=>?_
 simp only [bR,e1,e2] at hg1 hk1
 obtain ⟨⟨f0,f1⟩,l0,l1,_⟩:=Ai0 hg1
 have hal1:Al hp nx hp1 (nx+1):=⟨by omega,fun j hj=>hk1 j (by omega)⟩
 have r1:=h1.ka hn hal1
 have r2:=h2.ka hn hal1
 have r3:=h3.ka hn hal1
 have r4:=h4.ka hn hal1
 unfold cellE at hK
 by_cases c1:c.pos.length=l.length
 ·by_cases c2:c.vals.length=m.length
  ·rw [if_neg (by omega)] at hK
   simp only [bSa,↓bSb,reduceCtorEq,a0,a1,e2,f0,f1,l0,l1,r1.len,r2.len,r3.len,r4.len,show decide (¬ c.pos.length=l.length)=false by simp [c1],show decide (¬ c.vals.length=m.length)=false by simp [c2]]
   refine kws (kn_of (k:=k+3) n0 _ _ _ d x l c.pos (by omega) r1 r3 (by omega) fun hp2 nx2 hal2=>?_)
   have hle2:=hal2.le
   have hg2:=(hal2.same nx (by omega)).trans hg1
   obtain ⟨⟨q0,q1⟩,m0,m1,_⟩:=Ai0 hg2
   have u4:=r4.ka (by omega:n0≤nx+1) hal2
   cases c3:ofB l c.pos with
   | false=>
    rw [if_pos c3] at hK
    simp only [bSa,↓bSb,bP,reduceCtorEq]
    exact hK _ _ (hal1.trans hal2)
   | true=>
    rw [if_neg (by rw [c3]; simp)] at hK
    simp only [bSa,↓bSb,reduceCtorEq,e2,q1,m1,u4.len]
    refine EW.up c.vals.length (fun i es1=>Al hp nx es1.hp es1.nx∧nx2≤es1.nx∧rawE es1 (.t (.l .o))=a∧rawE es1 (.t (.l (.r (.r (.r .o)))))=y∧rawE es1 (.t (.r (.r (.r (.r .o)))))=iv c.vals.length∧rawE es1 (.t (.l (.l (.l (.l (.l .o))))))=iv (i:Nat)∧fitsL c.vals m=fitsL (c.vals.drop i) (m.drop i)) ?_ ?_ (by omega)
    ·rintro i es1 hi ⟨g,gn,b1,b29,b30,b31,hc⟩
     unfold B84
     have hle:=g.le
     by_cases h:i < c.vals.length
     ·have h':i < m.length:=by omega
      have w4:=h4.ka hn g
      rw [Bt3 h h'] at hc
      simp only [bSa,↓bSb,reduceCtorEq,b29,b30,b31,h,Ai9 w4 h,Ak5 w4 h]
      refine Ae8 fun hp3 hg3 hk3=>?_
      simp only [bR] at hg3 hk3
      simp only [bSa,↓bSb,reduceCtorEq]
      refine Ac4 (id:=es1.nx) (ds:=vc c.vals[i]) (by simp only [bR,reduceCtorEq]) hg3 (by simp only [evt,bR,reduceCtorEq]; exact Ac8 rfl) rfl rfl fun hp4 hg4 hk4=>?_
      simp only [bR] at hg4 hk4
      obtain ⟨_,_,_,_,_,t4⟩:=vc_fa hg4
      have g4:Al hp nx hp4 (es1.nx+1):=⟨by omega,fun j hj=>by rw [hk4 j (by omega),hk3 j (by omega),g.same j hj]⟩
      have w2:=h2.ka hn g4
      simp only [bSa,↓bSb,reduceCtorEq,b1,t4,Ad0 w2 h',Ak1 (k:=1) w2 h',(Ac9 w2 h').2.2.2,w2.rox (show n0≤es1.nx+1 by omega),Ae9 w2 (show n0≤es1.nx+1 by omega),A77 w2 (show n0≤es1.nx+1 by omega),Aa1 (n0:=es1.nx+1) (m:=8) hg4 (show es1.nx < es1.nx+1 by omega),Aj0 (show DV.refsL (vc c.vals[i])=[] from rfl)]
      refine Aa2 rfl (Aa7 ?_)
      simp only [bR,reduceCtorEq,List.map_cons,List.map_nil]
      refine Ch3 (k:=k) _ _ _ c.vals[i] m[i].type (hs _ (List.getElem_mem h)) fun hp5 nx5 hal5=>?_
      have hle5:=hal5.le
      have g5:=(g4.nx (by omega:es1.nx+1≤es1.nx+1+8)).trans hal5
      cases c4:fitsV c.vals[i] m[i].type with
      | false=>
       rw [if_pos c4] at hc
       rw [hc] at hK
       simp only [bSa,↓bSb,bP,reduceCtorEq,hle5]
       exact hK _ _ g5
      | true=>
       rw [if_neg (by rw [c4]; simp)] at hc
       simp only [bSa,↓bSb,reduceCtorEq,b1,b29,b30,b31,h,hle5,Aa6 (show i < _ by omega)]
       exact ⟨g5,by omega,hc⟩
     ·simp only [bSa,↓bSb,bP,reduceCtorEq,b30,b31,h]
      rw [Bt4 (by omega)] at hc
      rw [hc] at hK
      exact hK _ _ g
    ·simp only [bSa,reduceCtorEq,a1]
     exact hal1.trans hal2
  ·rw [if_pos (.inr c2)] at hK
   simp only [bSa,↓bSb,bP,reduceCtorEq,a0,a1,e2,f0,f1,l0,l1,r1.len,r2.len,r3.len,r4.len,show decide (¬ c.pos.length=l.length)=false by simp [c1],c2]
   exact hK _ _ hal1
 ·rw [if_pos (.inl c1)] at hK
  simp only [bSa,↓bSb,bP,reduceCtorEq,a0,e2,f0,l0,r1.len,r3.len,c1]
  exact hK _ _ hal1
theorem B18 (hK:∀ hp' nx',Al hp nx hp' nx'→K (iv (cellE l m c)) hp' nx'):KW (kN (k+7)) (.fn 133) [d,a,.agg [x,y]] hp nx K:=by
 refine kn_1 (Aa3 (by decide)) t133 (Nat.le_of_ble_eq_true rfl) fun es e1 e2 he=>?_
 have a0:rawE es (.t .o)=d:=he 0 _ rfl
 have a1:rawE es (.t (.l .o))=a:=he 1 _ rfl
 have a2:rawE es (.t (.r .o))=.agg [x,y]:=he 2 _ rfl
 unfold r133
 simp only [↓bSb]
 refine Aa9 (cs:=[x,y]) (by rw [evt,a2,e1]; exact Ao7 h3 h4) fun hp1 hg1 hk1=>?_
 simp only [bR,e1,e2] at hg1 hk1
 obtain ⟨⟨f0,f1⟩,l0,l1,_⟩:=Ai0 hg1
 have hal1:Al hp nx hp1 (nx+1):=⟨by omega,fun j hj=>hk1 j (by omega)⟩
 have r1:=h1.ka hn hal1
 have r2:=h2.ka hn hal1
 have r3:=h3.ka hn hal1
 have r4:=h4.ka hn hal1
 unfold cellE at hK
 by_cases c1:c.pos.length=l.length
 ·by_cases c2:c.vals.length=m.length
  ·rw [if_neg (by omega)] at hK
   simp only [bSa,↓bSb,reduceCtorEq,a0,a1,e2,f0,f1,l0,l1,r1.len,r2.len,r3.len,r4.len,show decide (¬ c.pos.length=l.length)=false by simp [c1],show decide (¬ c.vals.length=m.length)=false by simp [c2]]
   refine kws (Cp9 (k:=k+4) n0 _ _ _ d x l c.pos (by omega) r1 r3 (by omega) fun hp2 nx2 hal2=>?_)
   have hle2:=hal2.le
   have hg2:=(hal2.same nx (by omega)).trans hg1
   cases c3:ofB l c.pos with
   | false=>
    rw [if_pos c3] at hK
    simp only [bSa,↓bSb,bP,reduceCtorEq]
    exact hK _ _ (hal1.trans hal2)
   | true=>
    rw [if_neg (by rw [c3]; simp)] at hK
    simp only [bSa,↓bSb,e2]
    refine EW.up m.length (fun i es1=>Al hp nx es1.hp es1.nx∧nx2≤es1.nx∧es1.hp.get nx=some (.row 39 [x,y])∧rawE es1 (.t (.l .o))=a∧rawE es1 (.t (.l (.r .o)))=.pt nx 0∧rawE es1 (.t (.l (.l (.l .o))))=iv (i:Nat)∧fitsL c.vals m=fitsL (c.vals.drop i) (m.drop i)) ?_ ?_ (by omega)
    ·rintro i es1 hi ⟨g,gn,hg,b1,b5,b7,hc⟩
     unfold B86
     have hle:=g.le
     have w4:=h4.ka hn g
     have w2:=h2.ka hn g
     by_cases h':i < m.length
     ·have h:i < c.vals.length:=by omega
      obtain ⟨⟨_,q1⟩,_,m1,_⟩:=Ai0 hg
      rw [Bt3 h h'] at hc
      simp only [bSa,↓bSb,reduceCtorEq,b1,b5,b7,h',q1,m1,w2.len,Ai9 w4 h,Ak5 w4 h,Ad0 w2 h',Ak1 (k:=1) w2 h',(Ac9 w2 h').2.2.2,w2.rox (show n0≤es1.nx by omega),w4.rox (show n0≤es1.nx by omega),Ai2 w4 (show n0≤es1.nx by omega),Ae9 w2 (show n0≤es1.nx by omega),A77 w2 (show n0≤es1.nx by omega),Aa1 (n0:=es1.nx) (m:=12) hg (show nx < es1.nx by omega),Aj0 (show DV.refsL (vc c.vals[i])=[] from rfl)]
      refine Aa2 rfl (Aa7 ?_)
      simp only [bR,reduceCtorEq,List.map_cons,List.map_nil]
      refine B17 (k:=k) _ _ _ c.vals[i] m[i].type (hs _ (List.getElem_mem h)) fun hp5 nx5 hal5=>?_
      have hle5:=hal5.le
      have g5:=(g.nx (by omega:es1.nx≤es1.nx+12)).trans hal5
      cases c4:fitsV c.vals[i] m[i].type with
      | false=>
       rw [if_pos c4] at hc
       rw [hc] at hK
       simp only [bSa,↓bSb,bP,reduceCtorEq,hle5]
       exact hK _ _ g5
      | true=>
       rw [if_neg (by rw [c4]; simp)] at hc
       simp only [bSa,↓bSb,reduceCtorEq,b1,b5,b7,h',hle5,Aa6 (show i < _ by omega)]
       exact ⟨g5,by omega,(hal5.same nx (by omega)).trans hg,hc⟩
     ·simp only [bSa,↓bSb,bP,reduceCtorEq,b1,b7,h',w2.len]
      rw [Bt4 (by omega)] at hc
      rw [hc] at hK
      exact hK _ _ g
    ·simp only [bSa,reduceCtorEq,a1]
     exact ⟨hal1.trans hal2,hg2⟩
  ·rw [if_pos (.inr c2)] at hK
   simp only [bSa,↓bSb,bP,reduceCtorEq,a0,a1,e2,f0,f1,l0,l1,r1.len,r2.len,r3.len,r4.len,show decide (¬ c.pos.length=l.length)=false by simp [c1],c2]
   exact hK _ _ hal1
 ·rw [if_pos (.inl c1)] at hK
  simp only [bSa,↓bSb,bP,reduceCtorEq,a0,e2,f0,l0,r1.len,r3.len,c1]
  exact hK _ _ hal1
end
end Go.DD

/- Contracts: which arrays are valid. Conditions: those that each theorem states. -/
namespace Go.DD
set_option linter.unusedSectionVars false
open Go Go.Proofs
theorem Aa0 {hp:Tr DObj} {id T:Nat} {a b c:DV} (h:hp.get id=some (.row T [a,b,c])):(faD hp 0 (.pt id 0)=some (.pt id 0)∧faD hp 1 (.pt id 0)=some (.pt id 1)∧faD hp 2 (.pt id 0)=some (.pt id 2))∧ldD hp none (.pt id 0)=some a∧ldD hp none (.pt id 1)=some b∧ldD hp none (.pt id 2)=some c∧ldD hp (some 3) (.pt id 0)=some (.agg [a,b,c]):=by
 refine ⟨⟨fa_p h,fa_p h,fa_p h⟩,?_,?_,?_,?_⟩ <;> rw [ld_p h] <;> rfl
structure AOK (x:PArr):Prop where
 d:x.dims.length < 900000
 a:x.attrs.length < 900000
 c:x.cells.length < 900000
 e:∀ c∈x.cells,c.pos.length < 900000∧c.vals.length < 900000∧∀ v∈c.vals,slen v
structure AR (hp:Tr DObj) (p:Nat→Prop) (d:DV) (x:PArr):Prop where
 ex:∃ a b c,d=.agg [a,b,c]∧RL rDim hp p a x.dims∧RL rAttr hp p b x.attrs∧RL rCell hp p c x.cells
theorem AR.live {hp:Tr DObj} {p:Nat→Prop} {a b c:DV} {x:PArr} (h1:RL rDim hp p a x.dims) (h2:RL rAttr hp p b x.attrs) (h3:RL rCell hp p c x.cells):liveE hp (.agg [a,b,c])=.agg [a,b,c]:=Ah9 fun id hid=>by
 have:id∈a.refs∨id∈b.refs∨id∈c.refs:=by simpa [DV.refs,DV.refsL] using hid
 rcases this with h | h | h
 ·exact (h1.refs id h).2
 ·exact (h2.refs id h).2
 ·exact (h3.refs id h).2
def prevC (l:List PCell) (i:Nat):Option PCell:=match i with
 | 0=>none
 | i+1=>l[i]?
theorem chk_0 {d:List PDim} {a:List PAttr} {l:List PCell} (h:0 < l.length):chkF d a (prevC l 0) (l.drop 0)=if cellE d a l[0]≠0 then cellE d a l[0] else chkF d a (prevC l 1) (l.drop 1):=by
 have e1:prevC l 1=some l[0]:=List.getElem?_eq_getElem h
 rw [List.drop_eq_getElem_cons h,e1]
 rfl
theorem chk_s {d:List PDim} {a:List PAttr} {l:List PCell} {i:Nat} (h:i+1 < l.length):chkF d a (prevC l (i+1)) (l.drop (i+1))=if cellE d a l[i+1]≠0 then cellE d a l[i+1] else if cmpL l[i].pos l[i+1].pos=0 then 5 else if cmpL l[i].pos l[i+1].pos=1 then 2 else chkF d a (prevC l (i+2)) (l.drop (i+2)):=by
 have e1:prevC l (i+1)=some l[i]:=List.getElem?_eq_getElem (by omega)
 have e2:prevC l (i+2)=some l[i+1]:=List.getElem?_eq_getElem h
 rw [List.drop_eq_getElem_cons h,e1,e2]
 rfl
section
variable (k n0:Nat) (hp:Tr DObj) (nx:Nat) (K:DV→Tr DObj→Nat→Prop) (d:DV) (x:PArr) (hn:n0≤nx) (h0:AR hp (Bl n0) d x) (ho:AOK x)
include hn h0 ho
theorem A42 (hK:∀ hp' nx',Al hp nx hp' nx'→K (iv (Aa4 x)) hp' nx'):KW (kN (k+7)) (.fn 57) [d] hp nx K:=by
 obtain ⟨d,a,c,rfl,h1,h2,h3⟩:=h0
 refine kn_1 (Aa3 (by decide)) t57 (Nat.le_of_ble_eq_true rfl) fun es e1 e2 he=>?_
 have a0:rawE es (.t .o)=.agg [d,a,c]:=he 0 _ rfl
 unfold r57
 simp only [↓bSb]
 refine Aa9 (cs:=[d,a,c]) (by rw [evt,a0,e1]; exact AR.live h1 h2 h3) fun hp1 hg1 hk1=>?_
 simp only [bR,e1,e2] at hg1 hk1
 obtain ⟨⟨f0,f1,f2⟩,l0,l1,l2,_⟩:=Aa0 hg1
 have hal1:Al hp nx hp1 (nx+1):=⟨by omega,fun j hj=>hk1 j (by omega)⟩
 unfold Aa4 at hK
 simp only [bSa,↓bSb,reduceCtorEq,e2,f0,f1,l0,l1]
 refine kws (A79 (k:=k+3) n0 _ _ _ d a x.dims x.attrs (by omega) (h1.ka hn hal1) (h2.ka hn hal1) fun hp2 nx2 hal2=>?_)
 have hle2:=hal2.le
 have hg2:=(hal2.same nx (by omega)).trans hg1
 obtain ⟨⟨f0,f1,f2⟩,l0,l1,l2,_⟩:=Aa0 hg2
 have hal2':=hal1.trans hal2
 have r3:=h3.ka hn hal2'
 by_cases c1:Ae1 x.dims x.attrs=0
 ·rw [if_neg (by simp [c1])] at hK
  simp only [bGa,↓bGb,reduceCtorEq,e2,f2,l2,r3.len,show decide (¬ Ae1 x.dims x.attrs=0)=false by simp [c1]]
  refine cws (fun c2=>?_) (fun c2=>?_)
  ·rw [if_pos (by simp at c2; omega)] at hK
   simp only [bGa,↓bGb,bP,reduceCtorEq]
   exact hK _ _ hal2'
  ·rw [if_neg (by simp at c2; omega)] at hK
   simp only [bGa,↓bGb,reduceCtorEq,e2,f2,l2,r3.len]
   refine EW.up x.cells.length (fun i es1=>Al hp nx es1.hp es1.nx∧nx < es1.nx∧es1.hp.get nx=some (.row 26 [d,a,c])∧rawE es1 (.t (.l .o))=.pt nx 0∧rawE es1 (.t (.r (.l (.r (.l .o)))))=c∧rawE es1 (.t (.l (.r (.r (.l .o)))))=iv x.cells.length∧rawE es1 (.t (.r (.r (.r (.l .o)))))=iv (i:Nat)∧chkF x.dims x.attrs none x.cells=chkF x.dims x.attrs (prevC x.cells i) (x.cells.drop i)) ?_ ?_ (by have:=ho.c; omega)
   ·rintro i es1 hi ⟨g,gn,hg,b1,b20,b21,b22,hc⟩
    unfold l57_1
    have hoc:=ho.c
    by_cases h:i < x.cells.length
    ·have w1:=h1.ka hn g
     have w2:=h2.ka hn g
     have w3:=h3.ka hn g
     obtain ⟨p,v,rp,rv,lc,_⟩:=cells_at w3 h
     simp only [bSa,↓bSb,reduceCtorEq,b20,b21,b22,h,Aa8 w3 h,lc]
     refine Ae8 fun hp3 hg3 hk3=>?_
     simp only [bR] at hg3 hk3
     have g3:Al hp nx hp3 (es1.nx+1):=⟨by omega,fun j hj=>by rw [hk3 j (by omega),g.same j hj]⟩
     have rp3:=rp.keep fun j (hj:j < n0)=>hk3 j (by omega)
     have rv3:=rv.keep fun j (hj:j < n0)=>hk3 j (by omega)
     simp only [bSa,↓bSb,reduceCtorEq]
     refine Ac4 (id:=es1.nx) (ds:=[p,v]) (by simp only [bR,reduceCtorEq]) hg3 (by simp only [evt,bR,reduceCtorEq]; exact Ao7 rp3 rv3) rfl rfl fun hp4 hg4 hk4=>?_
     simp only [bR] at hg4 hk4
     have hge:hp4.get nx=some (.row 26 [d,a,c]):=by rw [hk4 nx (by omega),hk3 nx (by omega),hg]
     obtain ⟨⟨q0,q1,q2⟩,m0,m1,m2,_⟩:=Aa0 hge
     obtain ⟨⟨t0,t1⟩,u0,u1,u2⟩:=Ai0 hg4
     have g4:Al hp nx hp4 (es1.nx+1):=g3.new (Nat.le_refl _) fun j hj=>hk4 j (by omega)
     have rp4:=rp3.keep fun j (hj:j < n0)=>hk4 j (by omega)
     have rv4:=rv3.keep fun j (hj:j < n0)=>hk4 j (by omega)
     have hce:=ho.e _ (List.getElem_mem h)
     simp only [bSa,↓bSb,reduceCtorEq,b1,q0,q1,m0,m1,u2]
     refine kws (Bt5 k n0 _ _ _ d a p v x.dims x.attrs x.cells[i] (by omega) (h1.ka hn g4) (h2.ka hn g4) rp4 rv4 ho.d ho.a hce.2.2 fun hp5 nx5 hal5=>?_)
     have hle5:=hal5.le
     have g5:=g4.trans hal5
     have hge5:=(hal5.same nx (by omega)).trans hge
     have hg5:=(hal5.same es1.nx (by omega)).trans hg4
     by_cases c3:cellE x.dims x.attrs x.cells[i]=0
     ·cases i with
      | zero=>
       rw [chk_0 h,if_neg (by simp [c3])] at hc
       simp only [bSa,↓bSb,reduceCtorEq,b1,b20,b21,b22,h,show decide (¬ cellE x.dims x.attrs x.cells[0]=0)=false by simp [c3],show binD .add (.v (.int .i64 0)) (.v (.int .i64 1))=some (.v (.int .i64 1)) from rfl]
       exact ⟨g5,by omega,hge5,by rfl,hc⟩
      | succ i=>
       rw [chk_s h,if_neg (by simp [c3])] at hc
       have hi0:¬ ((i+1:Nat):Int)=0:=by omega
       have hsub:binD .sub (.v (.int .i64 ((i+1:Nat):Int))) (.v (.int .i64 1))=some (.v (.int .i64 (i:Int))):=by rw [b_sub,wrap_in (by omega)]; congr 3; omega
       obtain ⟨⟨q0,q1,q2⟩,m0,m1,m2,_⟩:=Aa0 hge5
       obtain ⟨⟨t0,t1⟩,u0,u1,u2⟩:=Ai0 hg5
       have w5:=h3.ka hn g5
       have hi':i < x.cells.length:=by omega
       obtain ⟨p',v',rp',rv',_,_,lp',_⟩:=cells_at w5 hi'
       have rp5:=rp4.keep fun j (hj:j < n0)=>hal5.same j (by omega)
       simp only [bSa,↓bSb,reduceCtorEq,b1,show decide (¬ cellE x.dims x.attrs x.cells[i+1]=0)=false by simp [c3],hi0,hsub,q2,m2,t0,u0,Aa8 w5 hi',Ab0 (k:=0) w5 hi',lp',w5.rox (show n0≤nx5 by omega),Ac1 w5 (show n0≤nx5 by omega),Ae5 w5 (show n0≤nx5 by omega),Aa1 (n0:=nx5) (m:=10) hge5 (show nx < nx5 by omega),Aa1 (n0:=nx5) (m:=10) hg5 (show es1.nx < nx5 by omega),rp'.rox (show n0≤nx5 by omega),rp5.rox (show n0≤nx5 by omega)]
       refine Aa2 rfl (Aa7 ?_)
       simp only [bR,reduceCtorEq,List.map_cons,List.map_nil]
       refine Ak8 (k:=k+2) n0 _ _ _ p' p _ _ (by omega) rp' rp5 (ho.e _ (List.getElem_mem hi')).1 ?_
       have g6:Al hp nx hp5 (nx5+10):=g5.nx (by omega)
       by_cases c4:cmpL x.cells[i].pos x.cells[i+1].pos=0
       ·rw [if_pos c4] at hc
        rw [hc] at hK
        simp only [bSa,↓bSb,bP,reduceCtorEq,decide_eq_true c4]
        exact hK _ _ g6
       ·rw [if_neg c4] at hc
        by_cases c5:cmpL x.cells[i].pos x.cells[i+1].pos=1
        ·rw [if_pos c5] at hc
         rw [hc] at hK
         simp only [bSa,↓bSb,bP,reduceCtorEq,decide_eq_false c4,decide_eq_true c5]
         exact hK _ _ g6
        ·rw [if_neg c5] at hc
         simp only [bSa,↓bSb,reduceCtorEq,b1,b20,b21,b22,h,decide_eq_false c4,decide_eq_false c5,Aa6 (show i+1 < _ by have:=ho.c; omega)]
         exact ⟨g6,by omega,hge5,hc⟩
     ·have hc2:chkF x.dims x.attrs none x.cells=cellE x.dims x.attrs x.cells[i]:=by
       cases i with
       | zero=>rw [hc,chk_0 h,if_pos c3]
       | succ i=>rw [hc,chk_s h,if_pos c3]
      rw [hc2] at hK
      simp only [bSa,↓bSb,bP,reduceCtorEq,c3]
      exact hK _ _ g5
    ·simp only [bSa,↓bSb,bP,reduceCtorEq,b21,b22,h]
     have e:x.cells.drop i=[]:=List.drop_eq_nil_of_le (by omega)
     have hc2:chkF x.dims x.attrs none x.cells=0:=by
      rw [hc,e]
      cases prevC x.cells i <;> rfl
     rw [hc2] at hK
     exact hK _ _ g
   ·simp only [bSa,reduceCtorEq]
    exact ⟨hal2',by omega,hg2,rfl⟩
 ·rw [if_pos c1] at hK
  simp only [bSa,↓bSb,bP,reduceCtorEq,c1]
  exact hK _ _ hal2'
end
end Go.DD

/- Contracts: which arrays are valid, by the reference. Conditions: those that each theorem states. -/
namespace Go.DD
set_option linter.unusedSectionVars false
open Go Go.Proofs
theorem Cq0 {hp:Tr DObj} {n0 n m:Nat} {an:List Nat} {p v:DV} {c:PCell} (h1:RL rInt hp (Bl n0) p c.pos) (h2:RL rVal hp (Bl n0) v c.vals) (hn:n0≤n):Aa5 (.agg [p,v]) (fun id=>okRef n m an hp id)↔True:=
 iff_true_intro (rd_ro (R:=rCell) (rCell_rd.2 ⟨p,v,rfl,h1,h2⟩) fun _ hj=>Nat.lt_of_lt_of_le hj hn)
section
variable (k n0:Nat) (hp:Tr DObj) (nx:Nat) (K:DV→Tr DObj→Nat→Prop)
theorem Am2 (d1 d2:DV) (l m:List Int) (hn:n0≤nx) (h1:RL rInt hp (Bl n0) d1 l) (h2:RL rInt hp (Bl n0) d2 m) (hl:l.length < 900000) (hK:∀ nx',nx≤nx'→K (iv (cmpL l m)) hp nx'):KW (kN (k+1)) (.fn 134) [d1,d2] hp nx K:=by
 refine kn_1 (Aa3 (by decide)) t134 (Nat.le_of_ble_eq_true rfl) fun es e1 e2 he=>?_
 have a0:rawE es (.t .o)=d1:=he 0 _ rfl
 have a1:rawE es (.t (.l .o))=d2:=he 1 _ rfl
 unfold r134
 simp only [bSa,↓bSb]
 refine EW.up l.length (fun i es1=>es1.hp=hp∧nx≤es1.nx∧rawE es1 (.t .o)=d1∧rawE es1 (.t (.l .o))=d2∧rawE es1 (.t (.l (.r .o)))=iv (i:Nat)∧i≤m.length∧cmpL l m=cmpL (l.drop i) (m.drop i)) ?_ ?_ (by omega)
 ·rintro i es1 hi ⟨g1,g2,b0,b1,b5,him,hc⟩
  unfold B87
  by_cases c1:i < l.length
  ·by_cases c2:i < m.length
   ·have hd:cmpL (l.drop i) (m.drop i)=if cmpI l[i] m[i]=0 then cmpL (l.drop (i+1)) (m.drop (i+1)) else cmpI l[i] m[i]:=by
     rw [List.drop_eq_getElem_cons c1,List.drop_eq_getElem_cons c2]; rfl
    by_cases c3:l[i] < m[i]
    ·have hci:cmpI l[i] m[i] = -1:=cmpI_lt.2 c3
     rw [hci,if_neg (by decide)] at hd
     simp only [bSa,↓bSb,bP,reduceCtorEq,b0,b1,b5,g1,h1.len,h2.len,c1,c2,Ae4 h1 c1,Ae4 h2 c2,ints_at h1 c1,ints_at h2 c2,h1.rox (show n0≤es1.nx by omega),h2.rox (show n0≤es1.nx by omega),Ad1 h1 (show n0≤es1.nx by omega),Ad1 h2 (show n0≤es1.nx by omega),c3]
     rw [hc,hd] at hK
     exact hK _ (by omega)
    ·by_cases c4:m[i] < l[i]
     ·have hci:cmpI l[i] m[i]=1:=by unfold cmpI; rw [if_neg c3,if_pos c4]
      rw [hci,if_neg (by decide)] at hd
      simp only [bSa,↓bSb,bP,reduceCtorEq,b0,b1,b5,g1,h1.len,h2.len,c1,c2,Ae4 h1 c1,Ae4 h2 c2,ints_at h1 c1,ints_at h2 c2,h1.rox (show n0≤es1.nx by omega),h2.rox (show n0≤es1.nx by omega),Ad1 h1 (show n0≤es1.nx by omega),Ad1 h2 (show n0≤es1.nx by omega),c3,c4,h1.rox (show n0≤es1.nx+9 by omega),h2.rox (show n0≤es1.nx+9 by omega),Ad1 h1 (show n0≤es1.nx+9 by omega),Ad1 h2 (show n0≤es1.nx+9 by omega)]
      rw [hc,hd] at hK
      exact hK _ (by omega)
     ·have hci:cmpI l[i] m[i]=0:=by unfold cmpI; rw [if_neg c3,if_neg c4]
      rw [hci,if_pos rfl] at hd
      simp only [bSa,↓bSb,reduceCtorEq,b0,b1,b5,g1,h1.len,h2.len,c1,c2,Ae4 h1 c1,Ae4 h2 c2,ints_at h1 c1,ints_at h2 c2,h1.rox (show n0≤es1.nx by omega),h2.rox (show n0≤es1.nx by omega),Ad1 h1 (show n0≤es1.nx by omega),Ad1 h2 (show n0≤es1.nx by omega),c3,c4,h1.rox (show n0≤es1.nx+9 by omega),h2.rox (show n0≤es1.nx+9 by omega),Ad1 h1 (show n0≤es1.nx+9 by omega),Ad1 h2 (show n0≤es1.nx+9 by omega),Aa6 (show i < _ by omega)]
      exact ⟨by omega,by omega,by rw [hc,hd]⟩
   ·have hd:cmpL (l.drop i) (m.drop i)=1:=by
     rw [List.drop_eq_getElem_cons c1,List.drop_eq_nil_of_le (show m.length≤i by omega)]; rfl
    rw [hc,hd] at hK
    simp only [bSa,↓bSb,bP,reduceCtorEq,b0,b1,b5,g1,h1.len,h2.len,c1,c2,show ¬ l.length < m.length by omega,show m.length < l.length by omega]
    exact hK _ g2
  ·have hd:cmpL (l.drop i) (m.drop i)=if l.length < m.length then -1 else 0:=by
    rw [List.drop_eq_nil_of_le (show l.length≤i by omega)]
    by_cases c3:i < m.length
    ·rw [List.drop_eq_getElem_cons c3,if_pos (by omega)]; rfl
    ·rw [List.drop_eq_nil_of_le (show m.length≤i by omega),if_neg (by omega)]; rfl
   by_cases c3:l.length < m.length
   ·rw [if_pos c3] at hd
    rw [hc,hd] at hK
    simp only [bSa,↓bSb,bP,reduceCtorEq,b0,b1,b5,g1,h1.len,h2.len,c1,c3]
    exact hK _ g2
   ·rw [if_neg c3] at hd
    rw [hc,hd] at hK
    simp only [bSa,↓bSb,bP,reduceCtorEq,b0,b1,b5,g1,h1.len,h2.len,c1,c3,show ¬ m.length < l.length by omega]
    exact hK _ g2
 ·simp only [bSa,reduceCtorEq,a0,a1,e1,e2,Nat.zero_le]
variable (d:DV) (x:PArr) (hn:n0≤nx) (h0:AR hp (Bl n0) d x) (ho:AOK x)
include hn h0 ho
theorem Ay5 (hK:∀ hp' nx',Al hp nx hp' nx'→K (iv (Aa4 x)) hp' nx'):KW (kN (k+8)) (.fn 61) [d] hp nx K:=by
 obtain ⟨d,a,c,rfl,h1,h2,h3⟩:=h0
 refine kn_1 (Aa3 (by decide)) t61 (Nat.le_of_ble_eq_true rfl) fun es e1 e2 he=>?_
 have a0:rawE es (.t .o)=.agg [d,a,c]:=he 0 _ rfl
 unfold r61
 simp only [↓bSb]
 refine Aa9 (cs:=[d,a,c]) (by rw [evt,a0,e1]; exact AR.live h1 h2 h3) fun hp1 hg1 hk1=>?_
 simp only [bR,e1,e2] at hg1 hk1
 obtain ⟨⟨f0,f1,f2⟩,l0,l1,l2,_⟩:=Aa0 hg1
 have hal1:Al hp nx hp1 (nx+1):=⟨by omega,fun j hj=>hk1 j (by omega)⟩
 unfold Aa4 at hK
 simp only [bSa,↓bSb,reduceCtorEq,e2,f0,f1,l0,l1]
 refine kws (Bk7 (k:=k+2) n0 _ _ _ d a x.dims x.attrs (by omega) (h1.ka hn hal1) (h2.ka hn hal1) fun hp2 nx2 hal2=>?_)
 have hle2:=hal2.le
 have hg2:=(hal2.same nx (by omega)).trans hg1
 obtain ⟨⟨f0,f1,f2⟩,l0,l1,l2,_⟩:=Aa0 hg2
 have hal2':=hal1.trans hal2
 have r3:=h3.ka hn hal2'
 by_cases c1:Ae1 x.dims x.attrs=0
 ·rw [if_neg (by simp [c1])] at hK
  simp only [bGa,↓bGb,reduceCtorEq,e2,f2,l2,r3.len,show decide (¬ Ae1 x.dims x.attrs=0)=false by simp [c1]]
  refine cws (fun c2=>?_) (fun c2=>?_)
  ·rw [if_pos (by simp at c2; omega)] at hK
   simp only [bGa,↓bGb,bP,reduceCtorEq]
   exact hK _ _ hal2'
  ·rw [if_neg (by simp at c2; omega)] at hK
   simp only [bGa,↓bGb,e2]
   refine EW.up x.cells.length (fun i es1=>Al hp nx es1.hp es1.nx∧nx < es1.nx∧es1.hp.get nx=some (.row 26 [d,a,c])∧rawE es1 (.t (.l .o))=.pt nx 0∧rawE es1 (.t (.r (.l .o)))=iv (i:Nat)∧chkF x.dims x.attrs none x.cells=chkF x.dims x.attrs (prevC x.cells i) (x.cells.drop i)) ?_ ?_ (by have:=ho.c; omega)
   ·rintro i es1 hi ⟨g,gn,hg,b1,b4,hc⟩
    unfold l61_1
    have hoc:=ho.c
    have w1:=h1.ka hn g
    have w2:=h2.ka hn g
    have w3:=h3.ka hn g
    obtain ⟨⟨q0,q1,q2⟩,m0,m1,m2,_⟩:=Aa0 hg
    by_cases h:i < x.cells.length
    ·obtain ⟨p,v,rp,rv,lc,_⟩:=cells_at w3 h
     have hce:=ho.e _ (List.getElem_mem h)
     simp only [bSa,↓bSb,reduceCtorEq,b1,b4,q0,q1,q2,m0,m1,m2,w3.len,h,Aa8 w3 h,lc,w1.rox (show n0≤es1.nx by omega),w2.rox (show n0≤es1.nx by omega),w3.rox (show n0≤es1.nx by omega),Ac1 w3 (show n0≤es1.nx by omega),Aa1 (n0:=es1.nx) (m:=11) hg (show nx < es1.nx by omega),Cq0 rp rv (show n0≤es1.nx by omega)]
     refine Aa2 rfl (Aa7 ?_)
     simp only [bR,reduceCtorEq,List.map_cons,List.map_nil]
     refine B18 (k:=k) n0 _ _ _ d a p v x.dims x.attrs x.cells[i] (by omega) w1 w2 rp rv ho.d ho.a hce.2.2 fun hp5 nx5 hal5=>?_
     have hle5:=hal5.le
     have g5:=(g.nx (by omega:es1.nx≤es1.nx+11)).trans hal5
     have hge5:=(hal5.same nx (by omega)).trans hg
     by_cases c3:cellE x.dims x.attrs x.cells[i]=0
     ·cases i with
      | zero=>
       rw [chk_0 h,if_neg (by simp [c3])] at hc
       simp only [bSa,↓bSb,reduceCtorEq,b1,b4,h,hle5,show decide (¬ cellE x.dims x.attrs x.cells[0]=0)=false by simp [c3],show binD .add (.v (.int .i64 0)) (.v (.int .i64 1))=some (.v (.int .i64 1)) from rfl]
       exact ⟨g5,by omega,hge5,by rfl,hc⟩
      | succ i=>
       rw [chk_s h,if_neg (by simp [c3])] at hc
       have hi0:¬ ((i+1:Nat):Int)=0:=by omega
       have hsub:binD .sub (.v (.int .i64 ((i+1:Nat):Int))) (.v (.int .i64 1))=some (.v (.int .i64 (i:Int))):=by rw [b_sub,wrap_in (by omega)]; congr 3; omega
       obtain ⟨⟨q0,q1,q2⟩,m0,m1,m2,_⟩:=Aa0 hge5
       have w5:=h3.ka hn g5
       have hi':i < x.cells.length:=by omega
       obtain ⟨pA,v1,rp1,rv1,_,_,lp1,_⟩:=cells_at w5 hi'
       obtain ⟨pB,v2,rp2,rv2,_,_,lp2,_⟩:=cells_at w5 h
       simp only [bSa,↓bSb,reduceCtorEq,b1,b4,hle5,show decide (¬ cellE x.dims x.attrs x.cells[i+1]=0)=false by simp [c3],hi0,hsub,q2,m2,Aa8 w5 hi',Ab0 (k:=0) w5 hi',lp1,Aa8 w5 h,Ab0 (k:=0) w5 h,lp2,w5.rox (show n0≤nx5 by omega),Ac1 w5 (show n0≤nx5 by omega),Ae5 w5 (show n0≤nx5 by omega),Aa1 (n0:=nx5) (m:=15) hge5 (show nx < nx5 by omega),rp1.rox (show n0≤nx5 by omega),rp2.rox (show n0≤nx5 by omega)]
       refine Aa2 rfl (Aa7 ?_)
       simp only [bR,reduceCtorEq,List.map_cons,List.map_nil]
       refine Am2 (k:=k+7 - 1) n0 _ _ _ pA pB _ _ (by omega) rp1 rp2 (ho.e _ (List.getElem_mem hi')).1 fun nx6 hle6=>?_
       have g6:Al hp nx hp5 nx6:=g5.nx (by omega)
       by_cases c4:cmpL x.cells[i].pos x.cells[i+1].pos=0
       ·rw [if_pos c4] at hc
        rw [hc] at hK
        simp only [bSa,↓bSb,bP,reduceCtorEq,decide_eq_true c4,hle6]
        exact hK _ _ g6
       ·rw [if_neg c4] at hc
        by_cases c5:cmpL x.cells[i].pos x.cells[i+1].pos=1
        ·rw [if_pos c5] at hc
         rw [hc] at hK
         simp only [bSa,↓bSb,bP,reduceCtorEq,decide_eq_false c4,show (0:Int) < cmpL x.cells[i].pos x.cells[i+1].pos by omega,hle6]
         exact hK _ _ g6
        ·rw [if_neg c5] at hc
         have hcm:=Ad9 x.cells[i].pos x.cells[i+1].pos
         simp only [bSa,↓bSb,reduceCtorEq,b1,b4,h,decide_eq_false c4,show ¬ (0:Int) < cmpL x.cells[i].pos x.cells[i+1].pos by omega,hle6,Aa6 (show i+1 < _ by have:=ho.c; omega)]
         exact ⟨g6,by omega,hge5,hc⟩
     ·have hc2:chkF x.dims x.attrs none x.cells=cellE x.dims x.attrs x.cells[i]:=by
       cases i with
       | zero=>rw [hc,chk_0 h,if_pos c3]
       | succ i=>rw [hc,chk_s h,if_pos c3]
      rw [hc2] at hK
      simp only [bSa,↓bSb,bP,reduceCtorEq,c3,hle5]
      exact hK _ _ g5
    ·simp only [bSa,↓bSb,bP,reduceCtorEq,b1,b4,q2,m2,w3.len,h]
     have e:x.cells.drop i=[]:=List.drop_eq_nil_of_le (by omega)
     have hc2:chkF x.dims x.attrs none x.cells=0:=by
      rw [hc,e]
      cases prevC x.cells i <;> rfl
     rw [hc2] at hK
     exact hK _ _ g
   ·simp only [bSa,reduceCtorEq]
    exact ⟨hal2',by omega,hg2,rfl⟩
 ·rw [if_pos c1] at hK
  simp only [bSa,↓bSb,bP,reduceCtorEq,c1]
  exact hK _ _ hal2'
end
end Go.DD

/- Contracts: which arrays are examined. Conditions: those that each theorem states. -/
namespace Go.DD
set_option linter.unusedSectionVars false
open Go Go.Proofs
def Ak3 (s:ByteArray):Bool:=decide ((s.size:Int)≤40)
def fewS (d:List PDim) (a:List PAttr):Bool:=(decide (d.length≤10) && decide (a.length≤10)) && (d.all (fun x=>Ak3 x.name) && a.all fun x=>Ak3 x.name)
def fewV (v:List PVal):Bool:=v.all fun x=>Ak3 x.s
def fewC1 (c:PCell):Bool:=(decide (c.pos.length≤10) && decide (c.vals.length≤10)) && fewV c.vals
def fewC (l:List PCell) (most:Nat):Bool:=decide (l.length≤most) && l.all fewC1
def fewA (x:PArr) (most:Nat):Bool:=fewS x.dims x.attrs && fewC x.cells most
theorem all_s {α:Type} {f:α→Bool} {l:List α} {i:Nat} (h:i < l.length):(l.take (i+1)).all f=((l.take i).all f && f l[i]):=by
 rw [List.take_succ_eq_append_getElem h,List.all_append]; simp
theorem all_n {α:Type} {f:α→Bool} {l:List α} {i:Nat} (h:i < l.length) (hf:f l[i]=false):l.all f=false:=by
 rw [Bool.eq_false_iff]
 intro ha
 have:=List.all_eq_true.1 ha _ (List.getElem_mem h)
 rw [hf] at this; cases this
theorem Ba8 {x:PArr} {most:Nat} (h:fewA x most=true) (hm:most < 900000):AOK x:=by
 unfold fewA fewS fewC at h
 simp only [Bool.and_eq_true,decide_eq_true_eq,List.all_eq_true] at h
 obtain ⟨⟨⟨h1,h2⟩,h3,h4⟩,h5,h6⟩:=h
 refine ⟨by omega,by omega,by omega,fun c hc=>?_⟩
 have:=h6 c hc
 unfold fewC1 fewV at this
 simp only [Bool.and_eq_true,decide_eq_true_eq,List.all_eq_true] at this
 obtain ⟨⟨a,b⟩,e⟩:=this
 refine ⟨by omega,by omega,fun v hv=>?_⟩
 have:=e v hv
 unfold Ak3 at this
 simp only [decide_eq_true_eq] at this
 unfold slen; omega
theorem Cq1 {hp:Tr DObj} {p:Nat→Prop} {d:DV} {l:List PVal} (h:RL rVal hp p d l) {i:Nat} (hi:i < l.length):ldD hp none (adrF (adrE 4 d i) 3)=some (sv l[i].s):=by
 obtain ⟨ds,hr,h1,h0,h2⟩:=h.at hi
 rw [rVal_rd] at hr
 exact h2 3 _ (by rw [hr]; rfl)
section
variable (k n0:Nat) (hp:Tr DObj) (nx:Nat) (K:DV→Tr DObj→Nat→Prop)
theorem Ay6 (s:ByteArray) (hK:K (bv (Ak3 s)) hp nx):KW (kN (k+1)) (.fn 120) [sv s] hp nx K:=by
 refine kn_1 (Aa3 (by decide)) t120 (Nat.le_of_ble_eq_true rfl) fun es e1 e2 he=>?_
 have a0:rawE es (.t .o)=sv s:=he 0 _ rfl
 unfold r120
 simp only [bGa,↓bGb,bP,reduceCtorEq,a0,e1,e2]
 exact hK
theorem Ch4 (d a:DV) (l:List PDim) (m:List PAttr) (p:Nat→Prop) (h1:RL rDim hp p d l) (h2:RL rAttr hp p a m) (hK:K (bv (fewS l m)) hp nx):KW (kN (k+2)) (.fn 51) [d,a] hp nx K:=by
 refine kn_1 (Aa3 (by decide)) t51 (Nat.le_of_ble_eq_true rfl) fun es e1 e2 he=>?_
 have a0:rawE es (.t .o)=d:=he 0 _ rfl
 have a1:rawE es (.t (.l .o))=a:=he 1 _ rfl
 unfold r51
 simp only [bGa,↓bGb,reduceCtorEq,a0,a1,e1,h1.len,h2.len]
 unfold fewS at hK
 refine cws (fun c=>?_) (fun c=>?_)
 ·rw [show (decide (l.length≤10) && decide (m.length≤10))=false by simp at c ⊢; omega] at hK
  simp only [bGa,↓bGb,bP,reduceCtorEq,e1,e2]
  exact hK
 rw [show (decide (l.length≤10) && decide (m.length≤10))=true by simp at c ⊢; omega,Bool.true_and] at hK
 have hlm:l.length≤10∧m.length≤10:=by simp at c; omega
 simp only [bGa,↓bGb]
 refine EW.up l.length (fun i es1=>es1.hp=hp∧es1.nx=nx∧rawE es1 (.t .o)=d∧rawE es1 (.t (.l .o))=a∧rawE es1 (.t (.l (.r .o)))=iv (i:Nat)∧(l.take i).all (fun x=>Ak3 x.name)=true) ?_ ?_ (by omega)
 ·rintro i es1 hi ⟨g1,g2,b0,b1,b5,hc⟩
  unfold l51_1
  by_cases h:i < l.length
  ·simp only [bGa,↓bGb,reduceCtorEq,b0,b5,g1,g2,h,h1.len,Ac5 h1 h,Ah8 (k:=0) h1 h,(Ac3 h1 h).2.2.1]
   refine kws (Ay6 (k:=k) _ _ _ _ ?_)
   cases c4:Ak3 l[i].name with
   | false=>
    rw [all_n (f:=fun x:PDim=>Ak3 x.name) h c4,Bool.false_and] at hK
    simp only [bSa,↓bSb,bP,reduceCtorEq]
    exact hK
   | true=>
    simp only [bSa,↓bSb,reduceCtorEq,b0,b1,b5,h,Aa6 (show i < _ by omega)]
    rw [all_s h,hc,c4]; rfl
  ·rw [List.take_of_length_le (by omega)] at hc
   rw [hc,Bool.true_and] at hK
   simp only [bGa,↓bGb,reduceCtorEq,b0,b5,g1,h,h1.len]
   refine EW.up m.length (fun i es1=>es1.hp=hp∧es1.nx=nx∧rawE es1 (.t (.l .o))=a∧rawE es1 (.t (.r (.r .o)))=iv (i:Nat)∧(m.take i).all (fun x=>Ak3 x.name)=true) ?_ ?_ (by omega)
   ·rintro i es1 hi ⟨g1,g2,b1,b6,hc⟩
    unfold l51_2
    by_cases h:i < m.length
    ·simp only [bGa,↓bGb,reduceCtorEq,b1,b6,g1,g2,h,h2.len,Ad0 h2 h,Ak1 (k:=0) h2 h,(Ac9 h2 h).2.2.1]
     refine kws (Ay6 (k:=k) _ _ _ _ ?_)
     cases c4:Ak3 m[i].name with
     | false=>
      rw [all_n (f:=fun x:PAttr=>Ak3 x.name) h c4] at hK
      simp only [bSa,↓bSb,bP,reduceCtorEq]
      exact hK
     | true=>
      simp only [bSa,↓bSb,reduceCtorEq,b1,b6,h,Aa6 (show i < _ by omega)]
      rw [all_s h,hc,c4]; rfl
    ·rw [List.take_of_length_le (by omega)] at hc
     rw [hc] at hK
     simp only [bGa,↓bGb,bP,reduceCtorEq,b1,b6,g1,g2,h,h2.len]
     exact hK
   ·simp only [bSa,reduceCtorEq,b1,g1,g2]
    rfl
 ·simp only [bSa,reduceCtorEq,a0,a1,e1,e2]
  rfl
theorem Ch5 (c:DV) (l:List PCell) (most:Nat) (p:Nat→Prop) (h1:RL rCell hp p c l) (hm:most < 900000) (hK:K (bv (fewC l most)) hp nx):KW (kN (k+2)) (.fn 52) [c,iv (most:Nat)] hp nx K:=by
 refine kn_1 (Aa3 (by decide)) t52 (Nat.le_of_ble_eq_true rfl) fun es e1 e2 he=>?_
 have a0:rawE es (.t .o)=c:=he 0 _ rfl
 have a1:rawE es (.t (.l .o))=iv (most:Nat):=he 1 _ rfl
 unfold r52
 unfold fewC at hK
 by_cases c0:most < l.length
 ·rw [decide_eq_false (by omega),Bool.false_and] at hK
  simp only [bSa,↓bSb,bP,reduceCtorEq,a0,a1,e1,e2,h1.len,c0]
  exact hK
 rw [decide_eq_true (by omega),Bool.true_and] at hK
 simp only [bSa,↓bSb,reduceCtorEq,a0,a1,e1,h1.len,c0]
 refine EW.up l.length (fun i es1=>es1.hp=hp∧es1.nx=nx∧rawE es1 (.t .o)=c∧rawE es1 (.t (.l (.r .o)))=iv (i:Nat)∧(l.take i).all fewC1=true) ?_ ?_ (by omega)
 ·rintro i es1 hi ⟨g1,g2,b0,b5,hc⟩
  unfold l52_2
  by_cases h:i < l.length
  ·obtain ⟨x,y,r1,r2,_,_,ld0,ld1⟩:=cells_at h1 h
   have hbad:fewC1 l[i]=false→l.all fewC1=false:=all_n h
   have hs:=all_s (f:=fewC1) h
   rw [hc,Bool.true_and] at hs
   simp only [bGa,↓bGb,reduceCtorEq,b0,b5,g1,h,h1.len,Aa8 h1 h,Ab0 (k:=0) h1 h,Ab0 (k:=1) h1 h,ld0,ld1,r1.len,r2.len]
   refine cws (fun c1=>?_) (fun c1=>?_)
   ·rw [hbad (by
     unfold fewC1
     rw [show (decide (l[i].pos.length≤10) && decide (l[i].vals.length≤10))=false by simp at c1 ⊢; omega]; rfl)] at hK
    simp only [bGa,↓bGb,bP,reduceCtorEq,g1,g2]
    exact hK
   have hlv:l[i].pos.length≤10∧l[i].vals.length≤10:=by simp at c1; omega
   have he:fewC1 l[i]=fewV l[i].vals:=by
    unfold fewC1
    rw [decide_eq_true hlv.1,decide_eq_true hlv.2]; rfl
   rw [he] at hs hbad
   simp only [bGa,↓bGb]
   refine EW.up l[i].vals.length (fun j es2=>es2.hp=hp∧es2.nx=nx∧rawE es2 (.t .o)=c∧rawE es2 (.t (.l (.r .o)))=iv (i:Nat)∧rawE es2 (.t (.r (.r .o)))=iv (j:Nat)∧(l[i].vals.take j).all (fun x=>Ak3 x.s)=true) ?_ ?_ (by omega)
   ·rintro j es2 hj ⟨q1,q2,x0,x5,x6,hcc⟩
    unfold l52_1
    by_cases h':j < l[i].vals.length
    ·simp only [bGa,↓bGb,reduceCtorEq,x0,x5,x6,q1,q2,h',Aa8 h1 h,Ab0 (k:=1) h1 h,ld1,r2.len,Ai9 r2 h',Cg4 (k:=3) r2 h',Cq1 r2 h']
     refine kws (Ay6 (k:=k) _ _ _ _ ?_)
     cases c4:Ak3 l[i].vals[j].s with
     | false=>
      rw [hbad (all_n (f:=fun x:PVal=>Ak3 x.s) h' c4)] at hK
      simp only [bSa,↓bSb,bP,reduceCtorEq]
      exact hK
     | true=>
      simp only [bSa,↓bSb,reduceCtorEq,x0,x5,x6,h',Aa6 (show j < _ by omega)]
      rw [all_s h',hcc,c4]; rfl
    ·rw [List.take_of_length_le (by omega)] at hcc
     simp only [bGa,↓bGb,reduceCtorEq,x0,x5,x6,q1,q2,h',Aa8 h1 h,Ab0 (k:=1) h1 h,ld1,r2.len,Aa6 (show i < _ by omega)]
     exact ⟨h,by rw [hs]; exact hcc⟩
   ·simp only [bSa,reduceCtorEq,b0,b5,g1,g2]
    rfl
  ·rw [List.take_of_length_le (by omega)] at hc
   rw [hc] at hK
   simp only [bGa,↓bGb,bP,reduceCtorEq,b0,b5,g1,g2,h,h1.len]
   exact hK
 ·simp only [bSa,reduceCtorEq,a0,e1,e2]
  rfl
theorem Bt6 (d:DV) (x:PArr) (most:Nat) (n0:Nat) (hn:n0≤nx) (h0:AR hp (Bl n0) d x) (hm:most < 900000) (hK:∀ hp' nx',Al hp nx hp' nx'→K (bv (fewA x most)) hp' nx'):KW (kN (k+3)) (.fn 13) [d,iv (most:Nat)] hp nx K:=by
 obtain ⟨d,a,c,rfl,h1,h2,h3⟩:=h0
 refine kn_1 (Aa3 (by decide)) t13 (Nat.le_of_ble_eq_true rfl) fun es e1 e2 he=>?_
 have a0:rawE es (.t .o)=.agg [d,a,c]:=he 0 _ rfl
 have a1:rawE es (.t (.l .o))=iv (most:Nat):=he 1 _ rfl
 unfold r13
 simp only [↓bSb]
 refine Aa9 (cs:=[d,a,c]) (by rw [evt,a0,e1]; exact AR.live h1 h2 h3) fun hp1 hg1 hk1=>?_
 simp only [bR,e1,e2] at hg1 hk1
 obtain ⟨⟨f0,f1,f2⟩,l0,l1,l2,_⟩:=Aa0 hg1
 have hal1:Al hp nx hp1 (nx+1):=⟨by omega,fun j hj=>hk1 j (by omega)⟩
 have hh:=hK _ _ hal1
 unfold fewA at hh
 simp only [bSa,↓bSb,reduceCtorEq,e2,f0,f1,l0,l1]
 refine kws (Ch4 (k:=k) _ _ _ d a x.dims x.attrs (Bl n0) (h1.ka hn hal1) (h2.ka hn hal1) ?_)
 cases c1:fewS x.dims x.attrs with
 | false=>
  rw [c1] at hh
  simp only [bSa,↓bSb,bP,reduceCtorEq,e2]
  exact hh
 | true=>
  rw [c1,Bool.true_and] at hh
  simp only [bSa,↓bSb,reduceCtorEq,e2,a1,f2,l2]
  refine kws (Ch5 (k:=k) _ _ _ c x.cells most (Bl n0) (h3.ka hn hal1) hm ?_)
  simp only [bSa,↓bSb,bP,reduceCtorEq]
  exact hh
end
end Go.DD

/- Contracts: copies of lists; arrays of the same dimensions and attributes. Conditions: those that each theorem states. -/
namespace Go.DD
set_option linter.unusedSectionVars false
open Go Go.Proofs
section
variable {α:Type} {R:Rep α} {hp hp':Tr DObj} {p q:Nat→Prop} {d:DV} {l:List α}
theorem RL.notnil (h:RL R hp p d l) (hl:l≠[]):isNil 0 d=some false:=by
 cases h with
 | nil=>exact absurd rfl hl
 | sl=>
  show (if 0 < l.length then some false else none)=_
  rw [if_pos (by cases l with | nil=>exact absurd rfl hl | cons=>simp)]
 | ms id off fl l h hid hl2 hr hs=>
  show (if 0 < l.length then some false else none)=_
  rw [if_pos (by cases l with | nil=>exact absurd rfl hl | cons=>simp)]
theorem RL.sl0 (h:RL R hp p (.sl [] 0) l):l=[]:=by
 have:=h.len
 have e:lenD hp (.sl [] 0)=some (.v (.int .i64 ((0:Nat):Int))):=rfl
 rw [e] at this
 simp at this
 exact List.eq_nil_of_length_eq_zero (by omega)
theorem RL.nil0 (h:RL R hp p nilS l):l=[]:=by
 have:=h.len
 have e:lenD hp nilS=some (.v (.int .i64 ((0:Nat):Int))):=rfl
 rw [e] at this
 simp at this
 exact List.eq_nil_of_length_eq_zero (by omega)
def OLs (R:Rep α) (hp:Tr DObj) (p:Nat→Prop) (d:DV) (l:List α):Prop:=OL R hp p d l∨(l=[]∧d=.sl [] 0)
theorem OLs.rl {n n':Nat} (h:OLs R hp p d l) (hr:Rng n n' d):RL R hp (fun j=>p j∨Bw n n' j) d l:=by
 rcases h with h | ⟨rfl,rfl⟩
 ·exact h.rl.mono fun j hj=>hj.imp id fun h=>hr j h
 ·exact .sl []
theorem OLs.rlF {n n':Nat} (h:OLs R hp (fun _=>False) d l) (hr:Rng n n' d):RL R hp (Bw n n') d l:=(h.rl hr).mono fun _ hj=>hj.elim False.elim id
def Nn (d:DV) (l:List α):Prop:=l≠[]∨d=nilS∨d=.sl [] 0
end
theorem Bi1 (n n':Nat):Rng n n' (.sl [] 0):=fun _ h=>by cases h
theorem Ad4:isNil 0 (ofV (.slice none 0 0))=some true:=rfl
theorem Af0 {α:Type} {R:Rep α} {hp hp':Tr DObj} {p q:Nat→Prop} (hf:∀ {ds:List DV} {x:α},R.rd hp p ds x→R.rd hp' q ds x):∀ {l:List α} {ds:List DV},Rows R hp p ds l→Rows R hp' q ds l
 | [],_,h=>h
 | _ :: _,_,⟨a,b,e,h1,h2⟩=>⟨a,b,e,hf h1,Af0 hf h2⟩
theorem A81 (k n0:Nat) (hp:Tr DObj) (nx:Nat) (K:DV→Tr DObj→Nat→Prop) (d:DV) (l:List Int) (hn:n0≤nx) (h1:RL rInt hp (Bl n0) d l) (hnn:Nn d l) (hl:l.length < 2000000000) (hK:∀ hp' nx' d',Al hp nx hp' nx'→OLs rInt hp' (fun _=>False) d' l→Rng nx nx' d'→Nn d' l→K d' hp' nx'):KW (kN (k+1)) (.fn 70) [d] hp nx K:=by
 rcases hnn with hne | rfl | rfl
 ·have hr:relW 70 [d]=none:=by
   unfold relW
   rw [if_neg (by decide),if_pos (by decide)]
   split
   ·rename_i e
    exact absurd (by cases h1 <;> simp_all) hne
   ·rfl
  refine kn_1 hr t70 (Nat.le_of_ble_eq_true rfl) fun es e1 e2 he=>?_
  have a0:rawE es (.t .o)=d:=he 0 _ rfl
  subst e1 e2
  unfold r70
  simp only [bSa,↓bSb,reduceCtorEq,a0]
  refine Ah2 false (by simp only [n_ev,bR,bP,h1.live]; exact h1.notnil hne) Ad4 ?_
  simp only [bSa,↓bSb]
  refine Ae3 (fl:=[]) (by rfl) (by rfl) fun hp1 hg1 hk1=>?_
  simp only [bR] at hg1 hk1
  simp only [bSa,↓bSb,reduceCtorEq,a0]
  have r1:RL rInt hp1 (Bl n0) d l:=h1.keep fun j (hj:j < n0)=>hk1 j (by omega)
  refine Ac2 (R:=rInt) (p:=(fun _=>False)) (p2:=(fun _=>False)) (d:=.ms es.nx 0 0 rInt.e) (d2:=d) (l:=[]) (m:=l) (by simp only [bR,reduceCtorEq,bP]; rfl) (.ms es.nx [] [] hg1 rfl) (by simp only [n_ev,bR,bP]; exact r1.live) ((by obtain ⟨ds,q1,q2⟩:=r1.srcD (es:=⟨_,hp1,_⟩); exact ⟨ds,q1,Af0 (p:=Bl n0) (q:=fun _=>False) (fun h=>h) q2⟩)) rfl rfl (by simp; omega) (by decide) fun hp2 hk2 h2=>?_
  simp only [bR,List.nil_append] at hk2 h2
  have h3:=h2 (fun _=>False) (fun j hj=>(hj.elim False.elim False.elim:False).elim)
  simp only [bSa,↓bSb,bP,reduceCtorEq,h3.rl.live]
  refine hK _ _ _ ⟨by omega,fun j hj=>?_⟩ (.inl h3) (Rng.ms (by omega) (by omega)) (.inl hne)
  rw [hk2 j (by omega) (by simp [DV.refs]; omega),hk1 j (by omega)]
 ·have hl0:l=[]:=h1.nil0
  subst hl0
  have hr:relW 70 [nilS]=none:=by
   unfold relW
   rw [if_neg (by decide),if_pos (by decide)]
   rfl
  refine kn_1 hr t70 (Nat.le_of_ble_eq_true rfl) fun es e1 e2 he=>?_
  have a0:rawE es (.t .o)=nilS:=he 0 _ rfl
  subst e1 e2
  unfold r70
  simp only [bSa,↓bSb,reduceCtorEq,a0]
  refine Ah2 true (by simp only [n_ev,bR,bP,nilS,Ad5]; rfl) Ad4 ?_
  simp only [bSa,↓bSb,bP,reduceCtorEq]
  exact hK _ _ nilS (Al.refl _ _) (.inl .nil) (Rng.nil _ _) (.inr (.inl rfl))
 ·have hl0:l=[]:=h1.sl0
  subst hl0
  exact A71 (d:=.sl [] 0) (by unfold relW; rw [if_neg (by decide),if_pos (by decide)]; rfl) (hK _ _ _ (Al.refl _ _) (.inr ⟨rfl,rfl⟩) (Bi1 _ _) (.inr (.inr rfl)))
theorem Bt7 (k n0:Nat) (hp:Tr DObj) (nx:Nat) (K:DV→Tr DObj→Nat→Prop) (d:DV) (l:List PVal) (hn:n0≤nx) (h1:RL rVal hp (Bl n0) d l) (hnn:Nn d l) (hl:l.length < 2000000000) (hK:∀ hp' nx' d',Al hp nx hp' nx'→OLs rVal hp' (fun _=>False) d' l→Rng nx nx' d'→Nn d' l→K d' hp' nx'):KW (kN (k+1)) (.fn 142) [d] hp nx K:=by
 rcases hnn with hne | rfl | rfl
 ·have hr:relW 142 [d]=none:=by
   unfold relW
   rw [if_neg (by decide),if_pos (by decide)]
   split
   ·rename_i e
    exact absurd (by cases h1 <;> simp_all) hne
   ·rfl
  refine kn_1 hr t142 (Nat.le_of_ble_eq_true rfl) fun es e1 e2 he=>?_
  have a0:rawE es (.t .o)=d:=he 0 _ rfl
  subst e1 e2
  unfold r142
  simp only [bSa,↓bSb,reduceCtorEq,a0]
  refine Ah2 false (by simp only [n_ev,bR,bP,h1.live]; exact h1.notnil hne) Ad4 ?_
  simp only [bSa,↓bSb]
  refine Ae3 (fl:=[]) (by rfl) (by rfl) fun hp1 hg1 hk1=>?_
  simp only [bR] at hg1 hk1
  simp only [bSa,↓bSb,reduceCtorEq,a0]
  have r1:RL rVal hp1 (Bl n0) d l:=h1.keep fun j (hj:j < n0)=>hk1 j (by omega)
  refine Ac2 (R:=rVal) (p:=(fun _=>False)) (p2:=(fun _=>False)) (d:=.ms es.nx 0 0 rVal.e) (d2:=d) (l:=[]) (m:=l) (by simp only [bR,reduceCtorEq,bP]; rfl) (.ms es.nx [] [] hg1 rfl) (by simp only [n_ev,bR,bP]; exact r1.live) ((by obtain ⟨ds,q1,q2⟩:=r1.srcD (es:=⟨_,hp1,_⟩); exact ⟨ds,q1,Af0 (p:=Bl n0) (q:=fun _=>False) (fun h=>h) q2⟩)) rfl rfl (by simp; omega) (by decide) fun hp2 hk2 h2=>?_
  simp only [bR,List.nil_append] at hk2 h2
  have h3:=h2 (fun _=>False) (fun j hj=>(hj.elim False.elim False.elim:False).elim)
  simp only [bSa,↓bSb,bP,reduceCtorEq,h3.rl.live]
  refine hK _ _ _ ⟨by omega,fun j hj=>?_⟩ (.inl h3) (Rng.ms (by omega) (by omega)) (.inl hne)
  rw [hk2 j (by omega) (by simp [DV.refs]; omega),hk1 j (by omega)]
 ·have hl0:l=[]:=h1.nil0
  subst hl0
  have hr:relW 142 [nilS]=none:=by
   unfold relW
   rw [if_neg (by decide),if_pos (by decide)]
   rfl
  refine kn_1 hr t142 (Nat.le_of_ble_eq_true rfl) fun es e1 e2 he=>?_
  have a0:rawE es (.t .o)=nilS:=he 0 _ rfl
  subst e1 e2
  unfold r142
  simp only [bSa,↓bSb,reduceCtorEq,a0]
  refine Ah2 true (by simp only [n_ev,bR,bP,nilS,Ad5]; rfl) Ad4 ?_
  simp only [bSa,↓bSb,bP,reduceCtorEq]
  exact hK _ _ nilS (Al.refl _ _) (.inl .nil) (Rng.nil _ _) (.inr (.inl rfl))
 ·have hl0:l=[]:=h1.sl0
  subst hl0
  exact A71 (d:=.sl [] 0) (by unfold relW; rw [if_neg (by decide),if_pos (by decide)]; rfl) (hK _ _ _ (Al.refl _ _) (.inr ⟨rfl,rfl⟩) (Bi1 _ _) (.inr (.inr rfl)))
theorem Bt8 (k n0:Nat) (hp:Tr DObj) (nx:Nat) (K:DV→Tr DObj→Nat→Prop) (d:DV) (l:List PDim) (hn:n0≤nx) (h1:RL rDim hp (Bl n0) d l) (hnn:Nn d l) (hl:l.length < 2000000000) (hK:∀ hp' nx' d',Al hp nx hp' nx'→OLs rDim hp' (fun _=>False) d' l→Rng nx nx' d'→Nn d' l→K d' hp' nx'):KW (kN (k+1)) (.fn 162) [d] hp nx K:=by
 rcases hnn with hne | rfl | rfl
 ·have hr:relW 162 [d]=none:=by
   unfold relW
   rw [if_neg (by decide),if_pos (by decide)]
   split
   ·rename_i e
    exact absurd (by cases h1 <;> simp_all) hne
   ·rfl
  refine kn_1 hr t162 (Nat.le_of_ble_eq_true rfl) fun es e1 e2 he=>?_
  have a0:rawE es (.t .o)=d:=he 0 _ rfl
  subst e1 e2
  unfold r162
  simp only [bSa,↓bSb,reduceCtorEq,a0]
  refine Ah2 false (by simp only [n_ev,bR,bP,h1.live]; exact h1.notnil hne) Ad4 ?_
  simp only [bSa,↓bSb]
  refine Ae3 (fl:=[]) (by rfl) (by rfl) fun hp1 hg1 hk1=>?_
  simp only [bR] at hg1 hk1
  simp only [bSa,↓bSb,reduceCtorEq,a0]
  have r1:RL rDim hp1 (Bl n0) d l:=h1.keep fun j (hj:j < n0)=>hk1 j (by omega)
  refine Ac2 (R:=rDim) (p:=(fun _=>False)) (p2:=(fun _=>False)) (d:=.ms es.nx 0 0 rDim.e) (d2:=d) (l:=[]) (m:=l) (by simp only [bR,reduceCtorEq,bP]; rfl) (.ms es.nx [] [] hg1 rfl) (by simp only [n_ev,bR,bP]; exact r1.live) ((by obtain ⟨ds,q1,q2⟩:=r1.srcD (es:=⟨_,hp1,_⟩); exact ⟨ds,q1,Af0 (p:=Bl n0) (q:=fun _=>False) (fun h=>h) q2⟩)) rfl rfl (by simp; omega) (by decide) fun hp2 hk2 h2=>?_
  simp only [bR,List.nil_append] at hk2 h2
  have h3:=h2 (fun _=>False) (fun j hj=>(hj.elim False.elim False.elim:False).elim)
  simp only [bSa,↓bSb,bP,reduceCtorEq,h3.rl.live]
  refine hK _ _ _ ⟨by omega,fun j hj=>?_⟩ (.inl h3) (Rng.ms (by omega) (by omega)) (.inl hne)
  rw [hk2 j (by omega) (by simp [DV.refs]; omega),hk1 j (by omega)]
 ·have hl0:l=[]:=h1.nil0
  subst hl0
  have hr:relW 162 [nilS]=none:=by
   unfold relW
   rw [if_neg (by decide),if_pos (by decide)]
   rfl
  refine kn_1 hr t162 (Nat.le_of_ble_eq_true rfl) fun es e1 e2 he=>?_
  have a0:rawE es (.t .o)=nilS:=he 0 _ rfl
  subst e1 e2
  unfold r162
  simp only [bSa,↓bSb,reduceCtorEq,a0]
  refine Ah2 true (by simp only [n_ev,bR,bP,nilS,Ad5]; rfl) Ad4 ?_
  simp only [bSa,↓bSb,bP,reduceCtorEq]
  exact hK _ _ nilS (Al.refl _ _) (.inl .nil) (Rng.nil _ _) (.inr (.inl rfl))
 ·have hl0:l=[]:=h1.sl0
  subst hl0
  exact A71 (d:=.sl [] 0) (by unfold relW; rw [if_neg (by decide),if_pos (by decide)]; rfl) (hK _ _ _ (Al.refl _ _) (.inr ⟨rfl,rfl⟩) (Bi1 _ _) (.inr (.inr rfl)))
theorem Bt9 (k n0:Nat) (hp:Tr DObj) (nx:Nat) (K:DV→Tr DObj→Nat→Prop) (d:DV) (l:List PAttr) (hn:n0≤nx) (h1:RL rAttr hp (Bl n0) d l) (hnn:Nn d l) (hl:l.length < 2000000000) (hK:∀ hp' nx' d',Al hp nx hp' nx'→OLs rAttr hp' (fun _=>False) d' l→Rng nx nx' d'→Nn d' l→K d' hp' nx'):KW (kN (k+1)) (.fn 163) [d] hp nx K:=by
 rcases hnn with hne | rfl | rfl
 ·have hr:relW 163 [d]=none:=by
   unfold relW
   rw [if_neg (by decide),if_pos (by decide)]
   split
   ·rename_i e
    exact absurd (by cases h1 <;> simp_all) hne
   ·rfl
  refine kn_1 hr t163 (Nat.le_of_ble_eq_true rfl) fun es e1 e2 he=>?_
  have a0:rawE es (.t .o)=d:=he 0 _ rfl
  subst e1 e2
  unfold r163
  simp only [bSa,↓bSb,reduceCtorEq,a0]
  refine Ah2 false (by simp only [n_ev,bR,bP,h1.live]; exact h1.notnil hne) Ad4 ?_
  simp only [bSa,↓bSb]
  refine Ae3 (fl:=[]) (by rfl) (by rfl) fun hp1 hg1 hk1=>?_
  simp only [bR] at hg1 hk1
  simp only [bSa,↓bSb,reduceCtorEq,a0]
  have r1:RL rAttr hp1 (Bl n0) d l:=h1.keep fun j (hj:j < n0)=>hk1 j (by omega)
  refine Ac2 (R:=rAttr) (p:=(fun _=>False)) (p2:=(fun _=>False)) (d:=.ms es.nx 0 0 rAttr.e) (d2:=d) (l:=[]) (m:=l) (by simp only [bR,reduceCtorEq,bP]; rfl) (.ms es.nx [] [] hg1 rfl) (by simp only [n_ev,bR,bP]; exact r1.live) ((by obtain ⟨ds,q1,q2⟩:=r1.srcD (es:=⟨_,hp1,_⟩); exact ⟨ds,q1,Af0 (p:=Bl n0) (q:=fun _=>False) (fun h=>h) q2⟩)) rfl rfl (by simp; omega) (by decide) fun hp2 hk2 h2=>?_
  simp only [bR,List.nil_append] at hk2 h2
  have h3:=h2 (fun _=>False) (fun j hj=>(hj.elim False.elim False.elim:False).elim)
  simp only [bSa,↓bSb,bP,reduceCtorEq,h3.rl.live]
  refine hK _ _ _ ⟨by omega,fun j hj=>?_⟩ (.inl h3) (Rng.ms (by omega) (by omega)) (.inl hne)
  rw [hk2 j (by omega) (by simp [DV.refs]; omega),hk1 j (by omega)]
 ·have hl0:l=[]:=h1.nil0
  subst hl0
  have hr:relW 163 [nilS]=none:=by
   unfold relW
   rw [if_neg (by decide),if_pos (by decide)]
   rfl
  refine kn_1 hr t163 (Nat.le_of_ble_eq_true rfl) fun es e1 e2 he=>?_
  have a0:rawE es (.t .o)=nilS:=he 0 _ rfl
  subst e1 e2
  unfold r163
  simp only [bSa,↓bSb,reduceCtorEq,a0]
  refine Ah2 true (by simp only [n_ev,bR,bP,nilS,Ad5]; rfl) Ad4 ?_
  simp only [bSa,↓bSb,bP,reduceCtorEq]
  exact hK _ _ nilS (Al.refl _ _) (.inl .nil) (Rng.nil _ _) (.inr (.inl rfl))
 ·have hl0:l=[]:=h1.sl0
  subst hl0
  exact A71 (d:=.sl [] 0) (by unfold relW; rw [if_neg (by decide),if_pos (by decide)]; rfl) (hK _ _ _ (Al.refl _ _) (.inr ⟨rfl,rfl⟩) (Bi1 _ _) (.inr (.inr rfl)))
def rCells:Rep (List PCell):=rList rCell 24
end Go.DD

/- Contracts: arrays that are alike; where coordinates lie in an array. Conditions: those that each theorem states. -/
namespace Go.DD
set_option linter.unusedSectionVars false
open Go Go.Proofs
theorem Cb1 {a:Nat} (h:a < 9000000000000000000):binD .quo (.v (.int .i64 (a:Int))) (.v (.int .i64 2))=some (.v (.int .i64 ((a / 2:Nat):Int))):=by
 have e:(a:Int).tdiv 2=((a / 2:Nat):Int):=rfl
 have hlt:a / 2≤a:=Nat.div_le_self _ _
 generalize a / 2=q at e hlt ⊢
 have e2:binI .quo .i64 (a:Int) 2=some (.int .i64 (q:Int)):=by
  unfold binI
  simp only
  rw [if_neg (by decide),e,wrap_in (by omega)]
 simp only [binD,binV,isSh]
 simp [e2]
def SortC (l:List PCell):Prop:=∀ i j,(h:i < j)→(h2:j < l.length)→cmpL (l[i]'(by omega)).pos l[j].pos = -1
def Ab3 (l:List PCell) (x:List Int):List PVal:=match l.find? (fun c=>decide (c.pos=x)) with
 | some c=>c.vals
 | none=>[]
theorem Bk9 {l m:List Int} (h:cmpL l m = -1):l≠m:=fun e=>by rw [cmpL_0.2 e] at h; cases h
theorem Bl0 {l:List PCell} (hs:SortC l) {i:Nat} (hi:i < l.length):Ab3 l l[i].pos=l[i].vals:=by
 have:l.find? (fun c=>decide (c.pos=l[i].pos))=some l[i]:=by
  rw [List.find?_eq_some_iff_getElem]
  refine ⟨by simp,i,hi,rfl,fun j hj=>?_⟩
  have:=Bk9 (hs j i hj hi)
  simpa using this
 unfold Ab3
 rw [this]
theorem A03 {l:List PCell} {x:List Int} (h:∀ j,(h:j < l.length)→l[j].pos≠x):Ab3 l x=[]:=by
 have:l.find? (fun c=>decide (c.pos=x))=none:=by
  rw [List.find?_eq_none]
  intro c hc
  obtain ⟨j,hj,rfl⟩:=List.mem_iff_getElem.1 hc
  simpa using h j hj
 unfold Ab3
 rw [this]
section
variable (k n0:Nat) (hp:Tr DObj) (nx:Nat) (K:DV→Tr DObj→Nat→Prop)
theorem Bi2 (d1 d2:DV) (x y:PArr) (hn:n0≤nx) (h1:AR hp (Bl n0) d1 x) (h2:AR hp (Bl n0) d2 y) (hx:AOK x) (hK:∀ hp' nx',Al hp nx hp' nx'→K (bv (decide (x.dims=y.dims) && decide (x.attrs=y.attrs))) hp' nx'):KW (kN (k+2)) (.fn 67) [d1,d2] hp nx K:=by
 obtain ⟨d,a,c,rfl,r1,r2,r3⟩:=h1
 obtain ⟨d',a',c',rfl,s1,s2,s3⟩:=h2
 refine kn_1 (Aa3 (by decide)) t67 (Nat.le_of_ble_eq_true rfl) fun es e1 e2 he=>?_
 have a0:rawE es (.t .o)=.agg [d,a,c]:=he 0 _ rfl
 have a1:rawE es (.t (.l .o))=.agg [d',a',c']:=he 1 _ rfl
 unfold r67
 subst e1 e2
 simp only [↓bSb]
 refine Aa9 (cs:=[d,a,c]) (by rw [evt,a0]; exact AR.live r1 r2 r3) fun hp1 hg1 hk1=>?_
 simp only [bR] at hg1 hk1
 have hal1:Al es.hp es.nx hp1 (es.nx+1):=⟨by omega,fun j hj=>hk1 j (by omega)⟩
 simp only [bSa,↓bSb]
 refine Aa9 (cs:=[d',a',c']) (by simp only [evt,bR,reduceCtorEq,a1]; exact AR.live (s1.ka hn hal1) (s2.ka hn hal1) (s3.ka hn hal1)) fun hp2 hg2 hk2=>?_
 simp only [bR] at hg2 hk2
 have hal2:Al es.hp es.nx hp2 (es.nx+2):=⟨by omega,fun j hj=>by rw [hk2 j (by omega),hk1 j (by omega)]⟩
 obtain ⟨⟨f0,f1,f2⟩,l0,l1,l2,_⟩:=Aa0 ((hk2 es.nx (by omega)).trans hg1)
 obtain ⟨⟨q0,q1,q2⟩,m0,m1,m2,_⟩:=Aa0 hg2
 simp only [bSa,↓bSb,reduceCtorEq,f0,l0,q0,m0]
 refine kws (Cp3 (k:=k) n0 _ _ _ d d' _ _ (by omega) (r1.ka hn hal2) (s1.ka hn hal2) hx.d fun nx3 hn3=>?_)
 cases c1:decide (x.dims=y.dims) with
 | false=>
  simp only [bSa,↓bSb,bP,reduceCtorEq]
  have:=hK hp2 nx3 (hal2.nx (by omega))
  rw [c1] at this
  exact this
 | true=>
  simp only [bSa,↓bSb,reduceCtorEq,f1,l1,q1,m1]
  refine kws (Cp4 (k:=k) n0 _ _ _ a a' _ _ (by omega) (r2.ka hn hal2) (s2.ka hn hal2) hx.a fun nx4 hn4=>?_)
  simp only [bSa,↓bSb,bP,reduceCtorEq]
  have:=hK hp2 nx4 (hal2.nx (by omega))
  rw [c1] at this
  exact this
theorem A82 (d1 d2:DV) (x y:PArr) (hn:n0≤nx) (h1:AR hp (Bl n0) d1 x) (h2:AR hp (Bl n0) d2 y) (hx:AOK x) (hK:∀ hp' nx',Al hp nx hp' nx'→K (bv (decide (x.dims=y.dims) && decide (x.attrs=y.attrs))) hp' nx'):KW (kN (k+2)) (.fn 71) [d1,d2] hp nx K:=by
 obtain ⟨d,a,c,rfl,r1,r2,r3⟩:=h1
 obtain ⟨d',a',c',rfl,s1,s2,s3⟩:=h2
 refine kn_1 (Aa3 (by decide)) t71 (Nat.le_of_ble_eq_true rfl) fun es e1 e2 he=>?_
 have a0:rawE es (.t .o)=.agg [d,a,c]:=he 0 _ rfl
 have a1:rawE es (.t (.l .o))=.agg [d',a',c']:=he 1 _ rfl
 unfold r71
 subst e1 e2
 simp only [↓bSb]
 refine Aa9 (cs:=[d,a,c]) (by rw [evt,a0]; exact AR.live r1 r2 r3) fun hp1 hg1 hk1=>?_
 simp only [bR] at hg1 hk1
 have hal1:Al es.hp es.nx hp1 (es.nx+1):=⟨by omega,fun j hj=>hk1 j (by omega)⟩
 simp only [bSa,↓bSb]
 refine Aa9 (cs:=[d',a',c']) (by simp only [evt,bR,reduceCtorEq,a1]; exact AR.live (s1.ka hn hal1) (s2.ka hn hal1) (s3.ka hn hal1)) fun hp2 hg2 hk2=>?_
 simp only [bR] at hg2 hk2
 have hal2:Al es.hp es.nx hp2 (es.nx+2):=⟨by omega,fun j hj=>by rw [hk2 j (by omega),hk1 j (by omega)]⟩
 obtain ⟨⟨f0,f1,f2⟩,l0,l1,l2,_⟩:=Aa0 ((hk2 es.nx (by omega)).trans hg1)
 obtain ⟨⟨q0,q1,q2⟩,m0,m1,m2,_⟩:=Aa0 hg2
 simp only [bSa,↓bSb,reduceCtorEq,f0,l0,q0,m0]
 refine kws (Bg7 (k:=k) n0 _ _ _ d d' _ _ (by omega) (r1.ka hn hal2) (s1.ka hn hal2) hx.d fun nx3 hn3=>?_)
 cases c1:decide (x.dims=y.dims) with
 | false=>
  simp only [bSa,↓bSb,bP,reduceCtorEq]
  have:=hK hp2 nx3 (hal2.nx (by omega))
  rw [c1] at this
  exact this
 | true=>
  simp only [bSa,↓bSb,reduceCtorEq,f1,l1,q1,m1]
  refine kws (Bg8 (k:=k) n0 _ _ _ a a' _ _ (by omega) (r2.ka hn hal2) (s2.ka hn hal2) hx.a fun nx4 hn4=>?_)
  simp only [bSa,↓bSb,bP,reduceCtorEq]
  have:=hK hp2 nx4 (hal2.nx (by omega))
  rw [c1] at this
  exact this
theorem B19 (c x:DV) (l:List PCell) (m:List Int) (hn:n0≤nx) (h1:RL rCell hp (Bl n0) c l) (h2:RL rInt hp (Bl n0) x m) (hl:l.length < 900000) (hpos:∀ c∈l,c.pos.length < 900000) (hs:SortC l) (hK:∀ (i nx':Nat),nx≤nx'→i≤l.length→(∀ j,(h:j < l.length)→j < i→cmpL l[j].pos m = -1)→(∀ j,(h:j < l.length)→i≤j→cmpL l[j].pos m≠-1)→K (iv (i:Nat)) hp nx'):KW (kN (k+2)) (.fn 171) [c,x] hp nx K:=by
 refine kn_1 (Aa3 (by decide)) t171 (Nat.le_of_ble_eq_true rfl) fun es e1 e2 he=>?_
 have a0:rawE es (.t .o)=c:=he 0 _ rfl
 have a1:rawE es (.t (.l .o))=x:=he 1 _ rfl
 unfold r171
 subst e1 e2
 simp only [bSa,↓bSb,reduceCtorEq,a0,h1.len]
 refine EW.l (I:=fun n es1=>∃ lo hi:Nat,n=hi - lo∧lo≤hi∧hi≤l.length∧es1.hp=es.hp∧es.nx≤es1.nx∧rawE es1 (.t .o)=c∧rawE es1 (.t (.l .o))=x∧rawE es1 (.t (.l (.r .o)))=iv (lo:Nat)∧rawE es1 (.t (.r (.r .o)))=iv (hi:Nat)∧(∀ j,(h:j < l.length)→j < lo→cmpL l[j].pos m = -1)∧(∀ j,(h:j < l.length)→hi≤j→cmpL l[j].pos m≠-1)) ?_ l.length 1000000 _ ?_ (by omega)
 ·rintro n es1 ⟨lo,hi,rfl,hle,hhi,g1,g2,b0,b1,b5,b6,hlo,hhi2⟩
  unfold B99
  by_cases h:lo < hi
  ·have hq:=Cb1 (show lo+hi < 9000000000000000000 by omega)
   have hm:(lo+hi) / 2 < l.length:=by omega
   obtain ⟨p,v,rp,rv,_,_,lp,_⟩:=cells_at h1 hm
   simp only [bSa,↓bSb,reduceCtorEq,b0,b1,b5,b6,h,Aq9 (show lo+hi < _ by omega),hq,g1,Aa8 h1 hm,Ab0 (k:=0) h1 hm,lp]
   refine kws (Am2 (k:=k) n0 _ _ _ p x _ m (by omega) rp h2 (hpos _ (List.getElem_mem hm)) fun nx2 hn2=>?_)
   by_cases c1:cmpL l[(lo+hi) / 2].pos m < 0
   ·have c1':cmpL l[(lo+hi) / 2].pos m = -1:=by have:=Ad9 l[(lo+hi) / 2].pos m; omega
    simp only [bSa,↓bSb,reduceCtorEq,b0,b1,b6,c1,Aa6 (show (lo+hi) / 2 < _ by omega)]
    refine ⟨hi - ((lo+hi) / 2+1),by omega,_,hi,rfl,by omega,hhi,by omega,rfl,rfl,fun j hj hlt=>?_,hhi2⟩
    by_cases e:j=(lo+hi) / 2
    ·subst e; exact c1'
    ·exact Ad3 (hs j ((lo+hi) / 2) (by omega) hm) c1'
   ·simp only [bSa,↓bSb,reduceCtorEq,b0,b1,b5,c1]
    refine ⟨(lo+hi) / 2 - lo,by omega,lo,_,rfl,by omega,by omega,by omega,rfl,rfl,hlo,fun j hj hge=>?_⟩
    intro e
    by_cases e2:j=(lo+hi) / 2
    ·subst e2; omega
    ·have:=Ad3 (hs ((lo+hi) / 2) j (by omega) hj) e
     omega
  ·obtain rfl:lo=hi:=by omega
   simp only [bSa,↓bSb,bP,reduceCtorEq,b5,b6,Nat.lt_irrefl,g1]
   exact hK lo _ g2 hhi hlo hhi2
 ·simp only [bSa,reduceCtorEq,a0,a1]
  exact ⟨0,l.length,rfl,by omega,Nat.le_refl _,rfl,rfl,fun j _ h=>by omega,fun j h h2=>by omega⟩
theorem Bu0 (c x:DV) (l:List PCell) (m:List Int) (hn:n0≤nx) (h1:RL rCell hp (Bl n0) c l) (h2:RL rInt hp (Bl n0) x m) (hl:l.length < 900000) (hpos:∀ c∈l,c.pos.length < 900000) (hs:SortC l)
  (hN:∀ nx',nx≤nx'→(∀ j,(h:j < l.length)→l[j].pos≠m)→K (iv (-1)) hp nx') (hK:∀ (i nx':Nat),nx≤nx'→(h:i < l.length)→l[i].pos=m→K (iv (i:Nat)) hp nx'):KW (kN (k+3)) (.fn 136) [c,x] hp nx K:=by
 refine kn_1 (Aa3 (by decide)) t136 (Nat.le_of_ble_eq_true rfl) fun es e1 e2 he=>?_
 have a0:rawE es (.t .o)=c:=he 0 _ rfl
 have a1:rawE es (.t (.l .o))=x:=he 1 _ rfl
 unfold r136
 subst e1 e2
 simp only [bSa,↓bSb,reduceCtorEq,a0,a1]
 refine kws (B19 (k:=k) n0 _ _ _ c x l m hn h1 h2 hl hpos hs fun i nx2 hn2 hi hlo hhi=>?_)
 by_cases h:i < l.length
 ·obtain ⟨p,v,rp,rv,_,_,lp,_⟩:=cells_at h1 h
  simp only [bSa,↓bSb,reduceCtorEq,a0,a1,h1.len,h,Aa8 h1 h,Ab0 (k:=0) h1 h,lp]
  refine kws (Am2 (k:=k+1) n0 _ _ _ p x _ m (by omega) rp h2 (hpos _ (List.getElem_mem h)) fun nx3 hn3=>?_)
  by_cases c1:cmpL l[i].pos m=0
  ·simp only [bSa,↓bSb,bP,reduceCtorEq,decide_eq_true c1]
   exact hK i _ (by omega) h (cmpL_0.1 c1)
  ·simp only [bSa,↓bSb,bP,reduceCtorEq,decide_eq_false c1]
   refine hN _ (by omega) fun j hj e=>?_
   have e0:=cmpL_0.2 e
   by_cases h1:j < i
   ·have:=hlo j hj h1; omega
   ·by_cases h2:j=i
    ·subst h2; exact c1 e0
    ·have h3:=hs i j (by omega) hj
     rw [e] at h3
     exact hhi i h (Nat.le_refl _) h3
 ·simp only [bSa,↓bSb,bP,reduceCtorEq,a0,h1.len,h]
  refine hN _ hn2 fun j hj e=>?_
  have:=hlo j hj (by omega)
  rw [cmpL_0.2 e] at this; cases this
theorem A43 (d x:DV) (X:PArr) (m:List Int) (hn:n0≤nx) (h0:AR hp (Bl n0) d X) (h2:RL rInt hp (Bl n0) x m) (ho:AOK X) (hs:SortC X.cells)
  (hK:∀ hp' nx' d',Al hp nx hp' nx'→RL rVal hp' (Bl n0) d' (Ab3 X.cells m)→K d' hp' nx'):KW (kN (k+4)) (.fn 73) [d,x] hp nx K:=by
 obtain ⟨d,a,c,rfl,r1,r2,r3⟩:=h0
 refine kn_1 (Aa3 (by decide)) t73 (Nat.le_of_ble_eq_true rfl) fun es e1 e2 he=>?_
 have a0:rawE es (.t .o)=.agg [d,a,c]:=he 0 _ rfl
 have a1:rawE es (.t (.l .o))=x:=he 1 _ rfl
 unfold r73
 subst e1 e2
 simp only [↓bSb]
 refine Aa9 (cs:=[d,a,c]) (by rw [evt,a0]; exact AR.live r1 r2 r3) fun hp1 hg1 hk1=>?_
 simp only [bR] at hg1 hk1
 have hal1:Al es.hp es.nx hp1 (es.nx+1):=⟨by omega,fun j hj=>hk1 j (by omega)⟩
 obtain ⟨⟨f0,f1,f2⟩,l0,l1,l2,_⟩:=Aa0 hg1
 have w3:=r3.ka hn hal1
 simp only [bSa,↓bSb,reduceCtorEq,a1,f2,l2]
 refine kws (Bu0 (k:=k) n0 _ _ _ c x X.cells m (by omega) w3 (h2.ka hn hal1) ho.c (fun c hc=>(ho.e c hc).1) hs (fun nx2 hn2 hno=>?_) fun i nx2 hn2 hi he=>?_)
 ·simp only [bSa,↓bSb,bP,reduceCtorEq,show (-1:Int) < 0 by decide]
  refine hK _ _ nilS (hal1.nx (by omega)) ?_
  rw [A03 hno]; exact .nil
 ·obtain ⟨p,v,rp,rv,_,_,lp,lv⟩:=cells_at w3 hi
  simp only [bSa,↓bSb,bP,reduceCtorEq,f2,l2,show ¬ (i:Int) < 0 by omega,Aa8 w3 hi,Ab0 (k:=1) w3 hi,lv,rv.live]
  refine hK _ _ v (hal1.nx (by omega)) ?_
  rw [← he,Bl0 hs hi]; exact rv
end
end Go.DD

/- Contracts: cells are merged and sorted. Conditions: those that each theorem states. -/
namespace Go.DD
set_option linter.unusedSectionVars false
open Go Go.Proofs
theorem RL.sliE {α:Type} {R:Rep α} {hp:Tr DObj} {p:Nat→Prop} {d:DV} {l:List α} (hd:RL R hp p d l) {a z e:Nat} {lo hi:Option DV} (he:e=R.e) (hlo:bdD 0 lo=some (a:Int)) (hhi:∀ n:Int,n=l.length→bdD n hi=some (z:Int)) (haz:a≤z) (hz:z≤l.length):Go.DD.sliE e d lo hi=some (slD R.e a z d):=by
 subst he
 cases hd with
 | nil=>
  have ha:a=0∧z=0:=by simp at hz; omega
  obtain ⟨rfl,rfl⟩:=ha
  have hh:=hhi 0 rfl
  unfold Go.DD.sliE
  simp only [nilS,hlo,hh]
  rfl
 | sl=>
  have hh:=hhi l.length rfl
  unfold Go.DD.sliE
  simp only [hlo,hh]
  rw [if_pos ⟨by omega,by omega,by omega⟩]
  simp only [Int.toNat_natCast]; rfl
 | ms id off fl l hg hid hl hr hs=>
  have hh:=hhi l.length rfl
  unfold Go.DD.sliE
  simp only [hlo,hh]
  rw [if_pos ⟨trivial,by omega,by omega,by omega⟩]
  simp only [Int.toNat_natCast]
  have e2:((a:Int) < (z:Int)∨(a:Int)=0)↔(a < z∨a=0):=by omega
  unfold slD
  simp only [e2]
def Ae6:List PCell→List PCell→List PCell
 | [],m=>m
 | a :: l,[]=>a :: l
 | a :: l,b :: m=>if cmpL b.pos a.pos = -1 then b :: Ae6 (a :: l) m else a :: Ae6 l (b :: m)
termination_by l m=>l.length+m.length
theorem Bi3 (l:List PCell):Ae6 l []=l:=by cases l <;> simp [Ae6]
theorem Av8 {a b:PCell} {l m:List PCell} : Ae6 (a :: l) (b :: m)=if cmpL b.pos a.pos = -1 then b :: Ae6 (a :: l) m else a :: Ae6 l (b :: m):=by rw [Ae6]
theorem As9:∀ (l m:List PCell),(Ae6 l m).length=l.length+m.length
 | [],m=>by simp [Ae6]
 | a :: l,[]=>by simp [Ae6]
 | a :: l,b :: m=>by
  rw [Av8]
  split
  ·rw [List.length_cons,As9 (a :: l) m]; simp; omega
  ·rw [List.length_cons,As9 l (b :: m)]; simp; omega
termination_by l m=>l.length+m.length
theorem notin {j n0 n n':Nat} {d:DV} (hj:j < n0) (hn:n0≤n) (hr:Rng n n' d):j∉d.refs:=fun h=>by have:=hr j h; omega
theorem OL.blx {α:Type} {R:Rep α} {hp:Tr DObj} {n n0 n':Nat} {d:DV} {l:List α} (h:OL R hp (Bl n0) d l) (hr:Rng n n' d) (hn:n0≤n'):RL R hp (Bl n') d l:=h.rl.mono fun j hj=>hj.elim (fun h=>Nat.lt_of_lt_of_le h hn) fun h=>(hr j h).2
theorem bnd1 (es:ES):bndD es.ds 0 (some (.const (.int .i64 1)))=some ((1:Nat):Int):=rfl
theorem Af1 {hp:Tr DObj} {p:Nat→Prop} {d:DV} {l:List PCell} (h:RL rCell hp p d l) (hi:0 < l.length):iaD hp 2 d (.v (.int .i64 0))=some (adrE 2 d 0):=h.ia hi
section
variable (k n0:Nat) (hp:Tr DObj) (nx:Nat) (K:DV→Tr DObj→Nat→Prop)
theorem Bu1 (d1 d2:DV) (l m:List PCell) (P:Nat→Prop) (hP:∀ j,P j→j < nx) (h1:RL rCell hp P d1 l) (h2:RL rCell hp P d2 m) (hl:l.length+m.length < 900000) (hpos:∀ c∈m,c.pos.length < 900000)
  (hK:∀ hp' nx' d',Al hp nx hp' nx'→OL rCell hp' P d' (Ae6 l m)→Rng nx nx' d'→K d' hp' nx'):KW (kN (k+2)) (.fn 172) [d1,d2] hp nx K:=by
 refine kn_1 (Aa3 (by decide)) t172 (Nat.le_of_ble_eq_true rfl) fun es e1 e2 he=>?_
 have a0:rawE es (.t .o)=d1:=he 0 _ rfl
 have a1:rawE es (.t (.l .o))=d2:=he 1 _ rfl
 unfold r172
 subst e1 e2
 have hn:es.nx≤es.nx:=Nat.le_refl _
 simp only [bSa,↓bSb]
 refine EW.l (I:=fun n es1=>∃ l' m' out x y z,n=l'.length+m'.length∧out.length+l'.length+m'.length=l.length+m.length∧(∀ c∈m',c.pos.length < 900000)∧Al es.hp es.nx es1.hp es1.nx∧rawE es1 (.t .o)=x∧rawE es1 (.t (.l .o))=y∧rawE es1 (.t (.l (.r .o)))=z∧RL rCell es1.hp P x l'∧RL rCell es1.hp P y m'∧OL rCell es1.hp P z out∧Rng es.nx es1.nx z∧out ++ Ae6 l' m'=Ae6 l m) ?_ (l.length+m.length) 1000000 _ ?_ (by omega)
 ·rintro n es1 ⟨l',m',out,x,y,z,rfl,hlen,hpm,hal,b0,b1,b5,r1,r2,ro,hr,he⟩
  unfold Ca0
  have hle:=hal.le
  have fin:l'=[]∨m'=[]→out ++ l' ++ m'=Ae6 l m:=fun h=>by
   rw [← he]
   rcases h with rfl | rfl
   ·simp [Ae6]
   ·rw [Bi3]; simp
  by_cases hE:l'=[]∨m'=[]
  ·have fin:=fin hE
   by_cases cA:0 < l'.length
   ·have cB:¬ 0 < m'.length:=by rcases hE with h | h <;> simp [h] at *
    simp only [bSa,↓bSb,reduceCtorEq,b0,b1,b5,r1.len,r2.len,Int.natCast_pos,cA,cB]
    refine Ac2 (R:=rCell) (p:=P) (p2:=P) (d:=z) (d2:=x) (l:=out) (m:=l') (by simp only [bR,reduceCtorEq,bP]) ro (by simp only [n_ev,bR,bP]; exact r1.live) r1.srcD rfl rfl (by omega) (by decide) fun hp2 hk2 h2'=>?_
    simp only [bR] at hk2 h2'
    have g1:∀ j,j < es.nx→hp2.get j=es1.hp.get j:=fun j hj=>hk2 j (by omega) (notin hj hn hr)
    have o1:=h2' P (fun j hj=>⟨hj.elim id id,by have:=hP j (hj.elim id id); omega,notin (hP j (hj.elim id id)) hn hr⟩)
    have q2:RL rCell hp2 P y m':=r2.keep fun j hj=>g1 j (hP j hj)
    simp only [bSa,↓bSb,reduceCtorEq,b1]
    refine Ac2 (R:=rCell) (p:=P) (p2:=P) (d2:=y) (l:=out ++ l') (m:=m') (by simp only [bR,reduceCtorEq,bP]) o1 (by simp only [n_ev,bR,bP]; exact q2.live) (q2.srcD (es:=⟨_,hp2,_⟩)) rfl rfl (by simp only [List.length_append]; omega) (by decide) fun hp3 hk3 h3'=>?_
    simp only [bR] at hk3 h3'
    have o2:=h3' P (fun j hj=>⟨hj.elim id id,by have:=hP j (hj.elim id id); omega,by have:=hP j (hj.elim id id); simp [DV.refs]; omega⟩)
    simp only [bSa,↓bSb,bP,reduceCtorEq,o2.rl.live]
    rw [fin] at o2 ⊢
    refine hK _ _ _ ⟨by omega,fun j hj=>?_⟩ o2 (Rng.ms (by omega) (by omega))
    rw [hk3 j (by omega) (by simp [DV.refs]; omega),hk2 j (by omega) (notin hj (Nat.le_refl _) hr),hal.same j hj]
   ·simp only [bSa,↓bSb,reduceCtorEq,b0,b5,r1.len,Int.natCast_pos,cA]
    refine Ac2 (R:=rCell) (p:=P) (p2:=P) (d:=z) (d2:=x) (l:=out) (m:=l') (by simp only [bR,reduceCtorEq,bP]) ro (by simp only [n_ev,bR,bP]; exact r1.live) r1.srcD rfl rfl (by omega) (by decide) fun hp2 hk2 h2'=>?_
    simp only [bR] at hk2 h2'
    have g1:∀ j,j < es.nx→hp2.get j=es1.hp.get j:=fun j hj=>hk2 j (by omega) (notin hj hn hr)
    have o1:=h2' P (fun j hj=>⟨hj.elim id id,by have:=hP j (hj.elim id id); omega,notin (hP j (hj.elim id id)) hn hr⟩)
    have q2:RL rCell hp2 P y m':=r2.keep fun j hj=>g1 j (hP j hj)
    simp only [bSa,↓bSb,reduceCtorEq,b1]
    refine Ac2 (R:=rCell) (p:=P) (p2:=P) (d2:=y) (l:=out ++ l') (m:=m') (by simp only [bR,reduceCtorEq,bP]) o1 (by simp only [n_ev,bR,bP]; exact q2.live) (q2.srcD (es:=⟨_,hp2,_⟩)) rfl rfl (by simp only [List.length_append]; omega) (by decide) fun hp3 hk3 h3'=>?_
    simp only [bR] at hk3 h3'
    have o2:=h3' P (fun j hj=>⟨hj.elim id id,by have:=hP j (hj.elim id id); omega,by have:=hP j (hj.elim id id); simp [DV.refs]; omega⟩)
    simp only [bSa,↓bSb,bP,reduceCtorEq,o2.rl.live]
    rw [fin] at o2 ⊢
    refine hK _ _ _ ⟨by omega,fun j hj=>?_⟩ o2 (Rng.ms (by omega) (by omega))
    rw [hk3 j (by omega) (by simp [DV.refs]; omega),hk2 j (by omega) (notin hj (Nat.le_refl _) hr),hal.same j hj]
  ·obtain ⟨a,l',rfl⟩:∃ a l2,l'=a :: l2:=by cases l' with | nil=>exact absurd (.inl rfl) hE | cons a l=>exact ⟨a,l,rfl⟩
   obtain ⟨c,m',rfl⟩:∃ a l2,m'=a :: l2:=by cases m' with | nil=>exact absurd (.inr rfl) hE | cons a l=>exact ⟨a,l,rfl⟩
   have cA:0 < (a :: l').length:=by simp
   have cB:0 < (c :: m').length:=by simp
   obtain ⟨pA,vA,rpA,rvA,ldA,_,lpA,_⟩:=cells_at r1 cA
   obtain ⟨pB,vB,rpB,rvB,ldB,_,lpB,_⟩:=cells_at r2 cB
   simp only [List.getElem_cons_zero] at rpA rvA rpB rvB
   simp only [List.length_cons] at hlen
   rw [Av8] at he
   simp only [bSa,↓bSb,reduceCtorEq,b0,b1,r1.len,r2.len,Int.natCast_pos,cA,cB,Af1 r1 cA,Af1 r2 cB,Ab0 (k:=0) r1 cA,Ab0 (k:=0) r2 cB,lpA,lpB,(r1.mono hP).rox (show es.nx≤es1.nx by omega),(r2.mono hP).rox (show es.nx≤es1.nx by omega),Ac1 (r1.mono hP) (show es.nx≤es1.nx by omega),Ac1 (r2.mono hP) (show es.nx≤es1.nx by omega),Ae5 (r1.mono hP) (show es.nx≤es1.nx by omega),Ae5 (r2.mono hP) (show es.nx≤es1.nx by omega),(rpA.mono hP).rox (show es.nx≤es1.nx by omega),(rpB.mono hP).rox (show es.nx≤es1.nx by omega)]
   refine Aa2 rfl (Aa7 ?_)
   simp only [bR,reduceCtorEq,List.map_cons,List.map_nil]
   refine Am2 (k:=k) es.nx _ _ _ pB pA _ _ (by omega) (rpB.mono hP) (rpA.mono hP) (hpm c (by simp)) fun nx2 hn2=>?_
   by_cases c1:cmpL c.pos a.pos = -1
   ·rw [if_pos c1] at he
    simp only [bSa,↓bSb,reduceCtorEq,b1,b5,hn2,c1,show (-1:Int) < 0 by decide,Af1 r2 cB,ldB]
    refine Ae3 (fl:=[pB,vB]) rfl (by simp only [List.map_cons,List.map_nil,n_ev,bR,bP,Ao7 rpB rvB]; rfl) fun hp2 hg2 hk2=>?_
    simp only [bR] at hg2 hk2
    have g1:∀ j,j < es.nx→hp2.get j=es1.hp.get j:=fun j hj=>hk2 j (by omega)
    have ro2:OL rCell hp2 P z out:=ro.keep fun j hj=>hk2 j (by rcases hj with h | h <;> first | (have:=hP j h; omega) | (have:=hr j h; omega))
    simp only [bSa,↓bSb]
    refine Ac2 (R:=rCell) (p:=P) (p2:=P) (d:=z) (d2:=.ms (nx2) 0 1 2) (l:=out) (m:=[c]) (by simp only [bR,reduceCtorEq,bP]) ro2 (by simp only [n_ev,bR,bP]; exact Ah7 hg2) (An7 (R:=rCell) (x:=c) hg2 (rCell_rd.2 ⟨pB,vB,rfl,rpB.keep (fun j hj=>g1 j (hP j hj)),rvB.keep (fun j hj=>g1 j (hP j hj))⟩)) rfl rfl (by simp; omega) (by decide) fun hp3 hk3 h3'=>?_
    simp only [bR] at hk3 h3'
    have o1:=h3' P (fun j hj=>⟨hj.elim id id,by have:=hP j (hj.elim id id); omega,notin (hP j (hj.elim id id)) hn hr⟩)
    have g2:∀ j,j < es.nx→hp3.get j=es1.hp.get j:=fun j hj=>by rw [hk3 j (by omega) (notin hj hn hr),g1 j hj]
    simp only [bSa,↓bSb,reduceCtorEq,b1]
    refine Br9 (a:=1) (z:=m'.length+1) (d:=y) (by simp only [bR,bP]) (r2.keep fun j hj=>g2 j (hP j hj)) rfl (bnd1 _) (fun n hn=>by rw [hn]; simp [A72]) (by omega) (by simp) ?_
    simp only [bSa,↓bSb,reduceCtorEq,b0]
    have rs:=(r2.keep fun j hj=>g2 j (hP j hj)).part (a:=1) (z:=m'.length+1) (by omega) (by simp)
    simp only [List.drop_succ_cons,List.drop_zero,Nat.add_sub_cancel,List.take_length] at rs
    refine ⟨(a :: l').length+m'.length,by simp,a :: l',m',out ++ [c],x,_,_,rfl,by simp; omega,fun c hc=>hpm c (List.mem_cons_of_mem _ hc),⟨by omega,fun j hj=>?_⟩,rfl,rfl,rfl,r1.keep (fun j hj=>g2 j (hP j hj)),rs,o1,Rng.ms (by omega) (by omega),by rw [List.append_assoc]; exact he⟩
    rw [hk3 j (by omega) (notin hj (Nat.le_refl _) hr),hk2 j (by omega),hal.same j hj]
   ·rw [if_neg c1] at he
    have c1':¬ cmpL c.pos a.pos < 0:=by have:=Ad9 c.pos a.pos; omega
    simp only [bSa,↓bSb,reduceCtorEq,b0,b5,hn2,c1',Af1 r1 cA,ldA]
    refine Ae3 (fl:=[pA,vA]) rfl (by simp only [List.map_cons,List.map_nil,n_ev,bR,bP,Ao7 rpA rvA]; rfl) fun hp2 hg2 hk2=>?_
    simp only [bR] at hg2 hk2
    have g1:∀ j,j < es.nx→hp2.get j=es1.hp.get j:=fun j hj=>hk2 j (by omega)
    have ro2:OL rCell hp2 P z out:=ro.keep fun j hj=>hk2 j (by rcases hj with h | h <;> first | (have:=hP j h; omega) | (have:=hr j h; omega))
    simp only [bSa,↓bSb]
    refine Ac2 (R:=rCell) (p:=P) (p2:=P) (d:=z) (d2:=.ms (nx2) 0 1 2) (l:=out) (m:=[a]) (by simp only [bR,reduceCtorEq,bP]) ro2 (by simp only [n_ev,bR,bP]; exact Ah7 hg2) (An7 (R:=rCell) (x:=a) hg2 (rCell_rd.2 ⟨pA,vA,rfl,rpA.keep (fun j hj=>g1 j (hP j hj)),rvA.keep (fun j hj=>g1 j (hP j hj))⟩)) rfl rfl (by simp; omega) (by decide) fun hp3 hk3 h3'=>?_
    simp only [bR] at hk3 h3'
    have o1:=h3' P (fun j hj=>⟨hj.elim id id,by have:=hP j (hj.elim id id); omega,notin (hP j (hj.elim id id)) hn hr⟩)
    have g2:∀ j,j < es.nx→hp3.get j=es1.hp.get j:=fun j hj=>by rw [hk3 j (by omega) (notin hj hn hr),g1 j hj]
    simp only [bSa,↓bSb,reduceCtorEq,b0]
    refine Br9 (a:=1) (z:=l'.length+1) (d:=x) (by simp only [bR,bP]) (r1.keep fun j hj=>g2 j (hP j hj)) rfl (bnd1 _) (fun n hn=>by rw [hn]; simp [A72]) (by omega) (by simp) ?_
    simp only [bSa,↓bSb,reduceCtorEq,b1]
    have rs:=(r1.keep fun j hj=>g2 j (hP j hj)).part (a:=1) (z:=l'.length+1) (by omega) (by simp)
    simp only [List.drop_succ_cons,List.drop_zero,Nat.add_sub_cancel,List.take_length] at rs
    refine ⟨l'.length+(c :: m').length,by simp,l',c :: m',out ++ [a],_,y,_,rfl,by simp; omega,hpm,⟨by omega,fun j hj=>?_⟩,rfl,rfl,rfl,rs,r2.keep (fun j hj=>g2 j (hP j hj)),o1,Rng.ms (by omega) (by omega),by rw [List.append_assoc]; exact he⟩
    rw [hk3 j (by omega) (notin hj (Nat.le_refl _) hr),hk2 j (by omega),hal.same j hj]
 ·simp only [bSa,reduceCtorEq,a0,a1]
  exact ⟨l,m,[],d1,d2,nilS,rfl,by simp,hpos,rfl,rfl,rfl,h1,h2,.nil,Rng.nil _ _,rfl⟩
end
end Go.DD

/- Contracts: cells are sorted. Conditions: those that each theorem states. -/
namespace Go.DD
set_option linter.unusedSectionVars false
open Go Go.Proofs
def sortC (l:List PCell):List PCell:=if h:l.length < 2 then l else Ae6 (sortC (l.take (l.length / 2))) (sortC (l.drop (l.length / 2)))
termination_by l.length
decreasing_by
 ·rw [List.length_take]; omega
 ·rw [List.length_drop]; omega
theorem Ar5 (l:List PCell):(sortC l).length=l.length:=by
 induction h:l.length using Nat.strongRecOn generalizing l with
 | _ n ih=>
  unfold sortC
  split
  ·exact h
  ·rw [As9,ih _ (by rw [List.length_take]; omega) _ rfl,ih _ (by rw [List.length_drop]; omega) _ rfl,List.length_take,List.length_drop]; omega
theorem Al1:∀ (l m:List PCell) (c:PCell),c∈Ae6 l m↔c∈l∨c∈m
 | [],m,c=>by simp [Ae6]
 | a :: l,[],c=>by simp [Ae6]
 | a :: l,b :: m,c=>by
  rw [Av8]
  split
  ·rw [List.mem_cons,Al1 (a :: l) m c]
   exact ⟨fun h=>h.elim (fun h=>.inr (List.mem_cons.2 (.inl h))) (fun h=>h.imp id fun h=>List.mem_cons_of_mem _ h),fun h=>h.elim (fun h=>.inr (.inl h)) fun h=>(List.mem_cons.1 h).imp id .inr⟩
  ·rw [List.mem_cons,Al1 l (b :: m) c]
   exact ⟨fun h=>h.elim (fun h=>.inl (List.mem_cons.2 (.inl h))) (fun h=>h.imp (fun h=>List.mem_cons_of_mem _ h) id),fun h=>h.elim (fun h=>(List.mem_cons.1 h).imp id .inl) (fun h=>.inr (.inr h))⟩
termination_by l m=>l.length+m.length
theorem Ao0 (l:List PCell) (c:PCell):c∈sortC l↔c∈l:=by
 induction h:l.length using Nat.strongRecOn generalizing l with
 | _ n ih=>
  unfold sortC
  split
  ·rfl
  ·rw [Al1,ih _ (by rw [List.length_take]; omega) _ rfl,ih _ (by rw [List.length_drop]; omega) _ rfl,← List.mem_append,List.take_append_drop]
theorem RL.ro' {α:Type} {R:Rep α} {hp:Tr DObj} {p:Nat→Prop} {d:DV} {l:List α} {n m:Nat} {an:List Nat} (h:RL R hp p d l) (ho:∀ j,p j→j < n∨n+m≤j):Aa5 d (fun id=>okRef n m an hp id):=fun id hid=>(Ah4 hp id).2 ⟨(h.refs id hid).2,(ho id (h.refs id hid).1).imp (fun h=>h) .inl⟩
theorem A04 (k n0:Nat) (hp:Tr DObj) (nx:Nat) (K:DV→Tr DObj→Nat→Prop) (d:DV) (l:List PCell) (hn:n0≤nx) (h1:RL rCell hp (Bl n0) d l) (hlt:l.length < 2)
  (hK:∀ hp' nx' d',Al hp nx hp' nx'→RL rCell hp' (fun j=>j < n0∨Bw nx nx' j) d' (sortC l)→K d' hp' nx'):KW (kN (k+1)) (.fn 140) [d] hp nx K:=by
 refine kn_1 (Aa3 (by decide)) t140 (Nat.le_of_ble_eq_true rfl) fun es e1 e2 he=>?_
 have a0:rawE es (.t .o)=d:=he 0 _ rfl
 unfold r140
 subst e1 e2
 unfold sortC at hK
 rw [dif_pos hlt] at hK
 simp only [bSa,↓bSb,reduceCtorEq,a0,h1.len,show (l.length:Int) < 2 by omega]
 refine Ae3 (fl:=[]) (by rfl) (by rfl) fun hp1 hg1 hk1=>?_
 simp only [bR] at hg1 hk1
 simp only [bSa,↓bSb,reduceCtorEq,a0]
 have r1:RL rCell hp1 (Bl n0) d l:=h1.keep fun j (hj:j < n0)=>hk1 j (by omega)
 refine Ac2 (R:=rCell) (p:=Bl n0) (p2:=Bl n0) (d:=.ms es.nx 0 0 2) (d2:=d) (l:=[]) (m:=l) (by simp only [bR,reduceCtorEq,bP]) (.ms es.nx [] [] hg1 rfl) (by simp only [n_ev,bR,bP]; exact r1.live) (r1.srcD (es:=⟨_,hp1,_⟩)) rfl rfl (by simp; omega) (by decide) fun hp2 hk2 h2=>?_
 simp only [bR,List.nil_append] at hk2 h2
 have h3:=h2 (Bl n0) (fun j hj=>by have hj2:j < n0:=hj.elim id id; exact ⟨hj2,by omega,by simp [DV.refs]; omega⟩)
 simp only [bSa,↓bSb,bP,reduceCtorEq,h3.rl.live]
 refine hK _ _ _ ⟨by omega,fun j hj=>?_⟩ (h3.rl.mono fun j hj=>hj.imp id fun h=>?_)
 ·rw [hk2 j (by omega) (by simp [DV.refs]; omega),hk1 j (by omega)]
 ·have:j=es.nx+1:=by simpa [DV.refs] using h
  subst this
  exact ⟨by omega,by omega⟩
theorem Bu2 (k:Nat):∀ (f n0:Nat) (hp:Tr DObj) (nx:Nat) (K:DV→Tr DObj→Nat→Prop) (d:DV) (l:List PCell) (hn:n0≤nx) (h1:RL rCell hp (Bl n0) d l) (hlf:l.length≤2 ^ f) (hl:l.length < 900000) (hpos:∀ c∈l,c.pos.length < 900000)
  (hK:∀ hp' nx' d',Al hp nx hp' nx'→RL rCell hp' (fun j=>j < n0∨Bw nx nx' j) d' (sortC l)→K d' hp' nx'),KW (kN (k+f+3)) (.fn 140) [d] hp nx K:=by
 intro f
 induction f with
 | zero=>
  intro n0 hp nx K d l hn h1 hlf hl hpos hK
  exact A04 (k+2) n0 hp nx K d l hn h1 (by simpa using Nat.lt_of_le_of_lt hlf (by decide)) hK
 | succ f ih=>
  intro n0 hp nx K d l hn h1 hlf hl hpos hK
  by_cases hlt:l.length < 2
  ·exact A04 (k+f+3) n0 hp nx K d l hn h1 hlt hK
  show KW (kN (k+f+1+3)) _ _ _ _ _
  refine kn_1 (Aa3 (by decide)) t140 (Nat.le_of_ble_eq_true rfl) fun es e1 e2 he=>?_
  have a0:rawE es (.t .o)=d:=he 0 _ rfl
  unfold r140
  subst e1 e2
  unfold sortC at hK
  rw [dif_neg hlt] at hK
  have hlo:l.length / 2≤l.length:=Nat.div_le_self _ _
  have s1:=h1.part (a:=0) (z:=l.length / 2) (by omega) hlo
  have s2:=h1.part (a:=l.length / 2) (z:=l.length) hlo (Nat.le_refl _)
  have v1:=h1.sliE (e:=2) (a:=0) (z:=l.length / 2) (lo:=none) (hi:=some (.v (.int .i64 ((l.length / 2:Nat):Int)))) rfl rfl (fun _ _=>rfl) (by omega) hlo
  have v2:=h1.sliE (e:=2) (a:=l.length / 2) (z:=l.length) (lo:=some (.v (.int .i64 ((l.length / 2:Nat):Int)))) (hi:=none) rfl rfl (fun n hn=>by rw [hn]; rfl) hlo (Nat.le_refl _)
  rw [List.drop_zero,Nat.sub_zero] at s1
  rw [List.take_of_length_le (by rw [List.length_drop]; omega)] at s2
  generalize slD rCell.e 0 (l.length / 2) d=dA at s1 v1
  generalize slD rCell.e (l.length / 2) l.length d=dB at s2 v2
  simp only [bSa,↓bSb,bP,reduceCtorEq,a0,h1.len,show ¬ (l.length:Int) < 2 by omega,Cb1 (show l.length < _ by omega),h1.rox (show n0≤es.nx by omega),Br7,h1.live,v1,s1.rox (show n0≤es.nx by omega),Option.map_some,Option.map_none]
  refine Aa2 rfl (Aa7 ?_)
  simp only [bR,List.map_cons,List.map_nil]
  refine ih n0 _ _ _ dA (l.take (l.length / 2)) (by omega) s1 (by rw [List.length_take]; rw [Nat.pow_succ] at hlf; omega) (by rw [List.length_take]; omega) (fun c hc=>hpos c (List.mem_of_mem_take hc)) fun hp2 nx2 x2 hal2 hr2=>?_
  have hle2:=hal2.le
  have g1:=h1.ka (show n0≤es.nx+10 by omega) hal2
  have t2:=s2.ka (show n0≤es.nx+10 by omega) hal2
  simp only [bSa,↓bSb,bP,reduceCtorEq,a0,hle2,g1.rox (show n0≤es.nx by omega),g1.live,v2,t2.rox (show n0≤es.nx by omega),Br7,Option.map_some,Option.map_none]
  refine Aa2 rfl (Aa7 ?_)
  simp only [bR,List.map_cons,List.map_nil]
  refine ih n0 _ _ _ dB (l.drop (l.length / 2)) (by omega) t2 (by rw [List.length_drop]; rw [Nat.pow_succ] at hlf; omega) (by rw [List.length_drop]; omega) (fun c hc=>hpos c (List.mem_of_mem_drop hc)) fun hp3 nx3 x3 hal3 hr3=>?_
  have hle3:=hal3.le
  have hr2':=hr2.keep fun j hj=>hal3.same j (hj.elim (fun h=>by omega) fun h=>h.2)
  have o2:=iff_true_intro (hr2'.ro' (n:=es.nx) (m:=10) (an:=[3,7,2,0,1,6,4,5]) fun j hj=>hj.elim (fun h=>.inl (by omega)) fun h=>.inr (by have:=h.1; omega))
  have o3:=iff_true_intro (hr3.ro' (n:=es.nx) (m:=10) (an:=[3,7,2,0,1,6,4,5]) fun j hj=>hj.elim (fun h=>.inl (by omega)) fun h=>.inr (by have:=h.1; omega))
  simp only [bSa,↓bSb,reduceCtorEq,hle3,o2,o3]
  refine Aa2 rfl (Aa7 ?_)
  simp only [bR,reduceCtorEq,List.map_cons,List.map_nil]
  refine Bu1 (k+f+1) _ _ _ x2 x3 _ _ (fun j=>j < n0∨Bw (es.nx+10) nx3 j) (fun j hj=>hj.elim (fun h=>by omega) fun h=>h.2) (hr2'.mono fun j hj=>hj.imp (fun h=>h) fun h=>⟨h.1,by have:=h.2; omega⟩) (hr3.mono fun j hj=>hj.imp (fun h=>h) fun h=>⟨by have:=h.1; omega,h.2⟩) (by rw [Ar5,Ar5,List.length_take,List.length_drop]; omega) (fun c hc=>hpos c (List.mem_of_mem_drop ((Ao0 _ _).1 hc))) fun hp4 nx4 x4 hal4 ho4 hr4=>?_
  have hle4:=hal4.le
  have hal:Al es.hp es.nx hp4 nx4:=(((Al.ini es.hp (by omega:es.nx≤es.nx+10)).trans hal2).trans hal3).trans hal4
  have hrl:RL rCell hp4 (fun j=>j < n0∨Bw es.nx nx4 j) x4 (Ae6 (sortC (l.take (l.length / 2))) (sortC (l.drop (l.length / 2)))):=ho4.rl.mono fun j hj=>by
   rcases hj with (h | h) | h
   ·exact .inl h
   ·exact .inr ⟨by have:=h.1; omega,by have:=h.2; omega⟩
   ·exact .inr ⟨by have:=(hr4 j h).1; omega,(hr4 j h).2⟩
  have o4:=iff_true_intro (ho4.rl.ro' (n:=es.nx) (m:=10) (an:=[8,0,1,2,3,4,5,6,7]) fun j hj=>by
   rcases hj with (h | h) | h
   ·exact .inl (by omega)
   ·exact .inr h.1
   ·exact .inr (by have:=(hr4 j h).1; omega))
  simp only [bSa,↓bSb,bP,reduceCtorEq,hle4,o4,hrl.live]
  refine ⟨?_,hK _ _ _ hal hrl⟩
  have k2:∀ j,j < n0→hp2.get j=es.hp.get j:=fun j hj=>hal2.same j (by omega)
  have k3:∀ j,j < n0→hp3.get j=es.hp.get j:=fun j hj=>(hal3.same j (by omega)).trans (k2 j hj)
  have k4:∀ j,j < n0→hp4.get j=es.hp.get j:=fun j hj=>(hal4.same j (by omega)).trans (k3 j hj)
  have hps:=fun i1 a1 i2 a2 i3 a3=>(((PsOK.nil es.hp n0).cons (i:=i1) (an:=a1) (fun _ _=>rfl) k2).cons (i:=i2) (an:=a2) k2 k3).cons (i:=i3) (an:=a3) k3 k4
  exact An8 h1 (fun j (hj:j < n0)=>by omega) (hps _ _ _ _ _ _) (fun _ h=>h) (An8 h1 (fun j (hj:j < n0)=>by omega) (hps _ _ _ _ _ _) (fun _ h=>h) rfl)
end Go.DD

/- Contracts: the coordinates of some arrays. Conditions: those that each theorem states. -/
namespace Go.DD
set_option linter.unusedSectionVars false
open Go Go.Proofs
theorem Ch6 {hp:Tr DObj} {p:Nat→Prop} {d:DV} {l:List PArr} (h:RL rArr hp p d l) {i:Nat} (hi:i < l.length):∃ a b c,RL rDim hp p a l[i].dims∧RL rAttr hp p b l[i].attrs∧RL rCell hp p c l[i].cells∧ldD hp (some 3) (adrE 3 d i)=some (.agg [a,b,c])∧ldD hp none (adrF (adrE 3 d i) 2)=some c:=by
 obtain ⟨ds,hr,h1,h0,h2⟩:=h.at hi
 obtain ⟨a,b,c,rfl,h3,h4,h5⟩:=rArr_rd.1 hr
 exact ⟨a,b,c,h3,h4,h5,h1,h2 2 _ rfl⟩
theorem Ch7 {hp:Tr DObj} {p:Nat→Prop} {d:DV} {l:List PArr} (h:RL rArr hp p d l) {i:Nat} (hi:i < l.length):iaD hp 3 d (.v (.int .i64 (i:Int)))=some (adrE 3 d i):=h.ia hi
theorem Ch8 {hp:Tr DObj} {p:Nat→Prop} {d:DV} {l:List PArr} {k:Nat} (h:RL rArr hp p d l) {i:Nat} (hi:i < l.length):faD hp k (adrE 3 d i)=some (adrF (adrE 3 d i) k):=h.fa hi
def dedF:Option (List Int)→List PCell→List (List Int)
 | _,[]=>[]
 | none,c :: l=>c.pos :: dedF (some c.pos) l
 | some p,c :: l=>if p=c.pos then dedF (some c.pos) l else c.pos :: dedF (some c.pos) l
def prevP (l:List PCell) (i:Nat):Option (List Int):=match i with
 | 0=>none
 | i+1=>(l[i]?).map PCell.pos
theorem ded_0 {l:List PCell} (h:0 < l.length):dedF (prevP l 0) (l.drop 0)=l[0].pos :: dedF (prevP l 1) (l.drop 1):=by
 have e1:prevP l 1=some l[0].pos:=by show (l[0]?).map PCell.pos=_; rw [List.getElem?_eq_getElem h]; rfl
 rw [List.drop_eq_getElem_cons h,e1]
 rfl
theorem ded_s {l:List PCell} {i:Nat} (h:i+1 < l.length):dedF (prevP l (i+1)) (l.drop (i+1))=if l[i].pos=l[i+1].pos then dedF (prevP l (i+2)) (l.drop (i+2)) else l[i+1].pos :: dedF (prevP l (i+2)) (l.drop (i+2)):=by
 have e1:prevP l (i+1)=some l[i].pos:=by show (l[i]?).map PCell.pos=_; rw [List.getElem?_eq_getElem (by omega)]; rfl
 have e2:prevP l (i+2)=some l[i+1].pos:=by show (l[i+1]?).map PCell.pos=_; rw [List.getElem?_eq_getElem h]; rfl
 rw [List.drop_eq_getElem_cons h,e1,e2]
 rfl
def Ag5 (l:List PArr):List (List Int):=dedF none (sortC (l.flatMap PArr.cells))
theorem Cb2 {z:Value} {d:DV} (h:d.okC=true∧d.cells=[d]):fillD (List.replicate 1 [DV.v z]).flatten [(0,1,d)]=some [d]:=by
 show (if d.okC=true∧d.cells.length=1∧0+1≤1 then some (List.take 0 [DV.v z] ++ d.cells ++ List.drop (0+1) [DV.v z]) else none)=_
 rw [if_pos ⟨h.1,by rw [h.2]; rfl,by omega⟩,h.2]; rfl
section
variable (k n0:Nat) (hp:Tr DObj) (nx:Nat) (K:DV→Tr DObj→Nat→Prop)
theorem Bu3 (f:Nat) (d:DV) (l:List PArr) (hn:n0≤nx) (h1:RL rArr hp (Bl n0) d l) (hl:l.length < 900000) (hc:(l.flatMap PArr.cells).length < 900000) (hf:(l.flatMap PArr.cells).length≤2 ^ f) (hpos:∀ c∈l.flatMap PArr.cells,c.pos.length < 900000)
  (hK:∀ hp' nx' d',Al hp nx hp' nx'→RL rInts hp' (Bl nx') d' (Ag5 l)→K d' hp' nx'):KW (kN (k+f+4)) (.fn 72) [d] hp nx K:=by
 refine kn_1 (Aa3 (by decide)) t72 (Nat.le_of_ble_eq_true rfl) fun es e1 e2 he=>?_
 have a0:rawE es (.t .o)=d:=he 0 _ rfl
 unfold r72
 subst e1 e2
 simp only [bSa,↓bSb]
 refine EW.up l.length (fun i es1=>∃ z,Al es.hp es.nx es1.hp es1.nx∧rawE es1 (.t .o)=d∧rawE es1 (.t (.l (.l .o)))=z∧rawE es1 (.t (.r (.l .o)))=iv (i:Nat)∧OL rCell es1.hp (Bl n0) z ((l.take i).flatMap PArr.cells)∧Rng es.nx es1.nx z) ?_ ?_ (by omega)
 ·rintro i es1 hi ⟨z,hal,b0,b3,b4,ho,hr⟩
  unfold l72_1
  have hle:=hal.le
  have w1:=h1.ka hn hal
  by_cases h:i < l.length
  ·obtain ⟨a,b,c,ra,rb,rc,_,lc⟩:=Ch6 w1 h
   have hst:(l.take (i+1)).flatMap PArr.cells=(l.take i).flatMap PArr.cells ++ l[i].cells:=by
    rw [List.take_succ_eq_append_getElem h,List.flatMap_append]; simp
   have hlen:((l.take i).flatMap PArr.cells).length+l[i].cells.length≤(l.flatMap PArr.cells).length:=by
    have e:l=l.take (i+1) ++ l.drop (i+1):=(List.take_append_drop _ _).symm
    have e2:(l.flatMap PArr.cells).length=((l.take (i+1)).flatMap PArr.cells).length+((l.drop (i+1)).flatMap PArr.cells).length:=by
     conv=>lhs; rw [e,List.flatMap_append,List.length_append]
    rw [hst,List.length_append] at e2
    omega
   simp only [bSa,↓bSb,reduceCtorEq,b0,b3,b4,h,w1.len,Ch7 w1 h,Ch8 (k:=2) w1 h,lc]
   refine Ac2 (R:=rCell) (p:=Bl n0) (p2:=Bl n0) (d:=z) (d2:=c) (l:=(l.take i).flatMap PArr.cells) (m:=l[i].cells) (by simp only [bR,reduceCtorEq,bP]) ho (by simp only [n_ev,bR,bP]; exact rc.live) rc.srcD rfl rfl (by omega) (by decide) fun hp2 hk2 h2=>?_
   simp only [bR] at hk2 h2
   have o1:=h2 (Bl n0) (fun j hj=>⟨hj.elim id id,by have:j < n0:=hj.elim id id; omega,notin (hj.elim id id) hn hr⟩)
   simp only [bSa,↓bSb,reduceCtorEq,b0,b4,h,Aa6 (show i < _ by omega)]
   refine ⟨_,⟨by omega,fun j hj=>?_⟩,rfl,by rw [hst]; exact o1,Rng.ms (by omega) (by omega)⟩
   rw [hk2 j (by omega) (notin hj (Nat.le_refl _) hr),hal.same j hj]
  ·rw [List.take_of_length_le (by omega)] at ho
   simp only [bSa,↓bSb,reduceCtorEq,b0,b3,b4,h,w1.len]
   have hz:RL rCell es1.hp (fun j=>j < n0∨Bw es.nx es1.nx j) z (l.flatMap PArr.cells):=ho.rl.mono fun j hj=>hj.imp (fun h=>h) fun h=>hr j h
   refine kws (Bu2 k f es1.nx _ _ _ z _ (Nat.le_refl _) (hz.mono fun j hj=>hj.elim (fun h=>show j < es1.nx by omega) fun h=>h.2) hf hc hpos fun hp2 nx2 x2 hal2 hs2=>?_)
   have hle2:=hal2.le
   have hs2':RL rCell hp2 (Bl nx2) x2 (sortC (l.flatMap PArr.cells)):=hs2.mono fun j hj=>hj.elim (fun h=>show j < nx2 by omega) fun h=>h.2
   have hslen:(sortC (l.flatMap PArr.cells)).length < 900000:=by rw [Ar5]; exact hc
   have hspos:∀ c∈sortC (l.flatMap PArr.cells),c.pos.length < 900000:=fun c hc=>hpos c ((Ao0 _ _).1 hc)
   unfold Ag5 at hK
   generalize sortC (l.flatMap PArr.cells)=L at hs2' hslen hK hspos
   have hal2':=hal.trans hal2
   simp only [bSa,↓bSb]
   refine EW.up L.length (fun i es1=>∃ z out,Al hp2 nx2 es1.hp es1.nx∧rawE es1 (.t (.l (.l .o)))=x2∧rawE es1 (.t (.l (.r .o)))=z∧rawE es1 (.t (.r (.r .o)))=iv (i:Nat)∧OL rInts es1.hp (Bl nx2) z out∧Rng nx2 es1.nx z∧out.length≤i∧out ++ dedF (prevP L i) (L.drop i)=dedF none L) ?_ ?_ (by omega)
   ·rintro i es1 hi ⟨z,out,hal3,b3,b5,b6,ho,hr,hol,he⟩
    unfold l72_2
    have hle3:=hal3.le
    have w3:=hs2'.ka (Nat.le_refl _) hal3
    by_cases h:i < L.length
    ·obtain ⟨pB,vB,rpB,rvB,_,_,lpB,_⟩:=cells_at w3 h
     cases i with
     | zero=>
      rw [ded_0 h] at he
      simp only [bSa,↓bSb,reduceCtorEq,b3,b5,b6,show (0:Int) < (L.length:Int) by omega,w3.len,Af1 w3 h,Ab0 (k:=0) w3 h,lpB]
      refine Ae3 (fl:=[pB]) rfl (by simp only [List.map_cons,List.map_nil,n_ev,bR,bP,rpB.live]; exact Cb2 rpB.ok) fun hp4 hg4 hk4=>?_
      simp only [bR] at hg4 hk4
      have ho4:OL rInts hp4 (Bl nx2) z out:=ho.keep fun j hj=>hk4 j (by rcases hj with h | h <;> first | (have h:j < nx2:=h; omega) | (have:=hr j h; omega))
      have rp4:=rpB.keep fun j (hj:j < nx2)=>hk4 j (by omega)
      simp only [bSa,↓bSb]
      refine Ac2 (R:=rInts) (p:=Bl nx2) (p2:=Bl nx2) (d:=z) (d2:=.ms (es1.nx+17) 0 1 1) (l:=out) (m:=[L[0].pos]) (by simp only [bR,reduceCtorEq,bP]) ho4 (by simp only [n_ev,bR,bP]; exact Ah7 hg4) (An7 (R:=rInts) (x:=L[0].pos) hg4 ⟨pB,rfl,rp4⟩) rfl rfl (by simp; omega) (by decide) fun hp5 hk5 h5'=>?_
      simp only [bR] at hk5 h5'
      have o5:=h5' (Bl nx2) (fun j hj=>⟨hj.elim id id,by have:j < nx2:=hj.elim id id; omega,fun h=>by have:=hr j h; have:j < nx2:=hj.elim id id; omega⟩)
      simp only [bSa,↓bSb,reduceCtorEq,b3,b6,h,show binD .add (.v (.int .i64 0)) (.v (.int .i64 1))=some (.v (.int .i64 1)) from rfl]
      refine ⟨_,out ++ [L[0].pos],⟨by omega,fun j hj=>?_⟩,rfl,by rfl,o5,Rng.ms (by omega) (by omega),by rw [List.length_append,List.length_singleton]; omega,by rw [List.append_assoc]; exact he⟩
      rw [hk5 j (by omega) (notin hj (Nat.le_refl _) hr),hk4 j (by omega),hal3.same j hj]
     | succ i=>
      have hi':i < L.length:=by omega
      obtain ⟨pA,vA,rpA,rvA,_,_,lpA,_⟩:=cells_at w3 hi'
      rw [ded_s h] at he
      have hsub:binD .sub (.v (.int .i64 ((i+1:Nat):Int))) (.v (.int .i64 1))=some (.v (.int .i64 (i:Int))):=by rw [b_sub,wrap_in (by omega)]; congr 3; omega
      simp only [bSa,↓bSb,reduceCtorEq,b3,b6,h,w3.len,show ¬ ((i+1:Nat):Int)=0 by omega,hsub,w3.rox (show nx2≤es1.nx by omega),Aa8 w3 h,Aa8 w3 hi',Ab0 (k:=0) w3 h,Ab0 (k:=0) w3 hi',lpA,lpB,Ac1 w3 (show nx2≤es1.nx by omega),Ae5 w3 (show nx2≤es1.nx by omega),rpA.rox (show nx2≤es1.nx by omega),rpB.rox (show nx2≤es1.nx by omega)]
      refine Aa2 rfl (Aa7 ?_)
      simp only [bR,reduceCtorEq,List.map_cons,List.map_nil]
      refine A39 (k:=k+f+2) nx2 _ _ _ pA pB _ _ (by omega) rpA rpB (hspos _ (List.getElem_mem hi')) fun nx6 hle6=>?_
      by_cases c1:L[i].pos=L[i+1].pos
      ·rw [if_pos c1] at he
       simp only [bSa,↓bSb,reduceCtorEq,b3,b5,b6,h,hle6,decide_eq_true c1,Aa6 (show i+1 < _ by omega)]
       exact ⟨z,out,hal3.nx (by omega),rfl,ho,fun j hj=>by have:=hr j hj; omega,by omega,he⟩
      ·rw [if_neg c1] at he
       simp only [bSa,↓bSb,reduceCtorEq,b3,b5,b6,hle6,decide_eq_false c1,Aa8 w3 h,Ab0 (k:=0) w3 h,lpB]
       refine Ae3 (fl:=[pB]) rfl (by simp only [List.map_cons,List.map_nil,n_ev,bR,bP,rpB.live]; exact Cb2 rpB.ok) fun hp4 hg4 hk4=>?_
       simp only [bR] at hg4 hk4
       have ho4:OL rInts hp4 (Bl nx2) z out:=ho.keep fun j hj=>hk4 j (by rcases hj with h | h <;> first | (have h:j < nx2:=h; omega) | (have:=hr j h; omega))
       have rp4:=rpB.keep fun j (hj:j < nx2)=>hk4 j (by omega)
       simp only [bSa,↓bSb]
       refine Ac2 (R:=rInts) (p:=Bl nx2) (p2:=Bl nx2) (d:=z) (d2:=.ms nx6 0 1 1) (l:=out) (m:=[L[i+1].pos]) (by simp only [bR,reduceCtorEq,bP]) ho4 (by simp only [n_ev,bR,bP]; exact Ah7 hg4) (An7 (R:=rInts) (x:=L[i+1].pos) hg4 ⟨pB,rfl,rp4⟩) rfl rfl (by simp; omega) (by decide) fun hp5 hk5 h5'=>?_
       simp only [bR] at hk5 h5'
       have o5:=h5' (Bl nx2) (fun j hj=>⟨hj.elim id id,by have:j < nx2:=hj.elim id id; omega,fun h=>by have:=hr j h; have:j < nx2:=hj.elim id id; omega⟩)
       simp only [bSa,↓bSb,reduceCtorEq,b3,b6,h,Aa6 (show i+1 < _ by omega)]
       refine ⟨_,out ++ [L[i+1].pos],⟨by omega,fun j hj=>?_⟩,rfl,o5,Rng.ms (by omega) (by omega),by simp; omega,by rw [List.append_assoc]; exact he⟩
       rw [hk5 j (by omega) (notin hj (Nat.le_refl _) hr),hk4 j (by omega),hal3.same j hj]
    ·simp only [bSa,↓bSb,bP,reduceCtorEq,b3,b5,b6,h,w3.len,(ho.blx hr hle3).live]
     have e:L.drop i=[]:=List.drop_eq_nil_of_le (by omega)
     have he2:out=dedF none L:=by
      rw [← he,e]
      cases prevP L i <;> simp [dedF]
     rw [← he2] at hK
     exact hK _ _ z (hal2'.trans hal3) (ho.blx hr hle3)
   ·refine ⟨nilS,[],?_⟩
    simp only [bSa,reduceCtorEq]
    exact ⟨rfl,.nil,Rng.nil _ _,by simp,rfl⟩
 ·simp only [bSa,reduceCtorEq,a0]
  exact ⟨nilS,rfl,.nil,Rng.nil _ _⟩
end
end Go.DD

/- Contracts: the reference's difference of two arrays. Conditions: those that each theorem states. -/
namespace Go.DD
set_option linter.unusedSectionVars false
open Go Go.Proofs
theorem A83 {z w:Value} {a b:DV} (h1:a.okC=true∧a.cells=[a]) (h2:b.okC=true∧b.cells=[b]):fillD [DV.v z,DV.v w] [(0,1,a),(1,1,b)]=some [a,b]:=by
 simp [fillD,h1.1,h1.2,h2.1,h2.2]
theorem B20 (o:Option (List Int)) (l:List PCell):∀ p∈dedF o l,∃ c∈l,c.pos=p:=by
 induction l generalizing o with
 | nil=>intro p hp; cases o <;> simp [dedF] at hp
 | cons c l ih=>
  intro p hp
  have ih2:p∈dedF (some c.pos) l→∃ e∈c :: l,e.pos=p:=fun h=>let ⟨e,h1,h2⟩:=ih _ p h; ⟨e,List.mem_cons_of_mem _ h1,h2⟩
  cases o with
  | none=>
   rcases List.mem_cons.1 hp with h | h
   ·exact ⟨c,by simp,h.symm⟩
   ·exact ih2 h
  | some q=>
   unfold dedF at hp
   split at hp
   ·exact ih2 hp
   ·rcases List.mem_cons.1 hp with h | h
    ·exact ⟨c,by simp,h.symm⟩
    ·exact ih2 h
theorem B21 (o:Option (List Int)) (l:List PCell):(dedF o l).length≤l.length:=by
 induction l generalizing o with
 | nil=>cases o <;> simp [dedF]
 | cons c l ih=>
  have:=ih (some c.pos)
  cases o with
  | none=>simp [dedF]; omega
  | some q=>
   unfold dedF
   split <;> simp <;> omega
theorem Bu4 {z:List Value} {a b:DV} (hz:z.length=2):fillD (List.replicate 1 (z.map DV.v)).flatten [(0,2,.agg [a,b])]=some [a,b]:=by
 match z,hz with
 | [u,v],_=>rfl
theorem AR.rox {hp:Tr DObj} {n0 n m:Nat} {an:List Nat} {a b c:DV} {x:PArr} (h1:RL rDim hp (Bl n0) a x.dims) (h2:RL rAttr hp (Bl n0) b x.attrs) (h3:RL rCell hp (Bl n0) c x.cells) (hn:n0≤n):Aa5 (.agg [a,b,c]) (fun id=>okRef n m an hp id):=fun id hid=>by
 have:id∈a.refs∨id∈b.refs∨id∈c.refs:=by simpa [DV.refs,DV.refsL] using hid
 rcases this with h | h | h
 ·exact h1.rox hn id h
 ·exact h2.rox hn id h
 ·exact h3.rox hn id h
theorem AR.same {hp:Tr DObj} {p:Nat→Prop} {a b c:DV} {x:PArr} (h1:RL rDim hp p a x.dims) (h2:RL rAttr hp p b x.attrs) (h3:RL rCell hp p c x.cells):∀ d∈[a,b,c],Ab2 6 d d=true:=fun d hd=>by
 simp only [List.mem_cons,List.not_mem_nil,or_false] at hd
 rcases hd with rfl | rfl | rfl
 ·exact h1.same (by decide)
 ·exact h2.same (by decide)
 ·exact h3.same (by decide)
theorem Aj1 {α β:Type} {R:Rep α} {S:Rep β} {hp:Tr DObj} {p q:Nat→Prop} {a b:DV} {l:List α} {m:List β} (h1:RL R hp p a l) (h2:RL S hp q b m):liveE hp (.agg [a,b])=.agg [a,b]:=Ah9 fun id hid=>by
 have:id∈a.refs∨id∈b.refs:=by simpa [DV.refs,DV.refsL] using hid
 rcases this with h | h
 ·exact (h1.refs id h).2
 ·exact (h2.refs id h).2
theorem Ap7 {x:PArr} (h:AOK x) (p:List Int):(Ab3 x.cells p).length < 900000:=by
 unfold Ab3
 split
 ·rename_i c hc
  exact (h.e c (List.mem_of_find?_eq_some hc)).2.1
 ·simp
section
variable (k n0:Nat) (hp:Tr DObj) (nx:Nat) (K:DV→Tr DObj→Nat→Prop)
end
end Go.DD

/- Contracts: the reference's Delta; equal changes. Conditions: those that each theorem states. -/
namespace Go.DD
set_option linter.unusedSectionVars false
open Go Go.Proofs
theorem Bl1 {d:List PDim} {a:List PAttr} {l:List PCell} : ∀ {b:PCell},chkF d a (some b) l=0→(∀ c∈l,cmpL b.pos c.pos = -1∧cellE d a c=0)∧l.Pairwise (fun x y=>cmpL x.pos y.pos = -1):=by
 induction l with
 | nil=>intro b _; exact ⟨fun c hc=>(by cases hc),.nil⟩
 | cons c l ih=>
  intro b h
  unfold chkF at h
  by_cases c1:cellE d a c=0
  ·rw [if_neg (by simp [c1])] at h
   by_cases c2:cmpL b.pos c.pos=0
   ·rw [if_pos c2] at h; cases h
   ·rw [if_neg c2] at h
    by_cases c3:cmpL b.pos c.pos=1
    ·rw [if_pos c3] at h; cases h
    ·rw [if_neg c3] at h
     have c4:cmpL b.pos c.pos = -1:=by have:=Ad9 b.pos c.pos; omega
     obtain ⟨h1,h2⟩:=ih h
     refine ⟨fun e he=>?_,.cons (fun e he=>(h1 e he).1) h2⟩
     rcases List.mem_cons.1 he with rfl | he
     ·exact ⟨c4,c1⟩
     ·exact ⟨Ad3 c4 (h1 e he).1,(h1 e he).2⟩
  ·rw [if_pos c1] at h; exact absurd h c1
theorem Ab1 {x:PArr} (h:Aa4 x=0):x.cells.Pairwise (fun x y=>cmpL x.pos y.pos = -1)∧(∀ c∈x.cells,cellE x.dims x.attrs c=0)∧Ae1 x.dims x.attrs=0:=by
 unfold Aa4 at h
 by_cases c1:Ae1 x.dims x.attrs=0
 ·rw [if_neg (by simp [c1])] at h
  split at h
  ·cases h
  ·generalize x.cells=l at h ⊢
   cases l with
   | nil=>exact ⟨.nil,fun c hc=>(by cases hc),c1⟩
   | cons c l=>
    unfold chkF at h
    by_cases c2:cellE x.dims x.attrs c=0
    ·rw [if_neg (by simp [c2])] at h
     obtain ⟨h1,h2⟩:=Bl1 h
     refine ⟨.cons (fun e he=>(h1 e he).1) h2,fun e he=>?_,c1⟩
     rcases List.mem_cons.1 he with rfl | he
     ·exact c2
     ·exact (h1 e he).2
    ·rw [if_pos c2] at h; exact absurd h c2
 ·rw [if_pos c1] at h; exact absurd h c1
theorem Al2 {x:PArr} (h:Aa4 x=0):SortC x.cells:=fun i j hij hj=>List.pairwise_iff_getElem.1 (Ab1 h).1 i j (by omega) hj hij
theorem Ar6 {x:PArr} (h:Aa4 x=0):∀ c∈x.cells,c.pos≠[]:=fun c hc he=>by
 have h1:=(Ab1 h).2.1 c hc
 have h2:=(Ab1 h).2.2
 have h3:c.pos.length=x.dims.length:=by
  unfold cellE at h1
  split at h1
  ·cases h1
  ·rename_i h3; omega
 have h4:x.dims.length=0:=by rw [← h3,he]; rfl
 have h5:dimsE x.dims=13:=by unfold dimsE; rw [if_pos (Or.inl (show x.dims.length < 1 by omega))]
 unfold Ae1 at h2
 rw [h5] at h2
 cases h2
def Ag8 (x y:PArr):Bool:=decide (x.dims=y.dims) && decide (x.attrs=y.attrs)
section
variable (k n0:Nat) (hp:Tr DObj) (nx:Nat) (K:DV→Tr DObj→Nat→Prop)
end
end Go.DD

/- The walk over several sorted cell lists at once, in plain Lean; rows of slices are stored into. -/
namespace Go.DD
set_option linter.unusedSectionVars false
open Go Go.Proofs
def minF:Option (List Int)→List (List PCell)→Option (List Int)
 | a,[]=>a
 | a,[] :: hs=>minF a hs
 | none,(c :: _) :: hs=>minF (some c.pos) hs
 | some p,(c :: _) :: hs=>if cmpL c.pos p = -1 then minF (some c.pos) hs else minF (some p) hs
def stA (p:List Int):List PCell→List PVal
 | []=>[]
 | c :: _=>if c.pos=p then c.vals else []
def rsA (p:List Int):List PCell→List PCell
 | []=>[]
 | c :: t=>if c.pos=p then t else c :: t
theorem rsA_c (p:List Int) (c:PCell) (t:List PCell):rsA p (c :: t)=if c.pos=p then t else c :: t:=rfl
theorem stA_c (p:List Int) (c:PCell) (t:List PCell):stA p (c :: t)=if c.pos=p then c.vals else []:=rfl
def walkF:Nat→List (List PCell)→List (List Int×List (List PVal))
 | 0,_=>[]
 | n+1,hs=>match minF none hs with
  | none=>[]
  | some p=>(p,hs.map (stA p)) :: walkF n (hs.map (rsA p))
def tot (hs:List (List PCell)):Nat:=(hs.map List.length).sum
def walkL (hs:List (List PCell)):List (List Int×List (List PVal)):=walkF (tot hs) hs
theorem A44 {hs:List (List PCell)} : ∀ {a:Option (List Int)} {p:List Int},minF a hs=some p→a=some p∨∃ c t,(c :: t)∈hs∧c.pos=p:=by
 induction hs with
 | nil=>intro a p h; exact .inl h
 | cons h hs ih=>
  intro a p e
  have up:(∃ c t,(c :: t)∈hs∧c.pos=p)→∃ c t,(c :: t)∈h :: hs∧c.pos=p:=fun ⟨c,t,h1,h2⟩=>⟨c,t,List.mem_cons_of_mem _ h1,h2⟩
  cases h with
  | nil=>cases a <;> exact (ih e).imp id up
  | cons c t=>
   have here:some c.pos=some p→∃ c2 t2,(c2 :: t2)∈(c :: t) :: hs∧c2.pos=p:=fun h=>⟨c,t,by simp,by simpa using h⟩
   cases a with
   | none=>exact .inr ((ih e).elim here up)
   | some q=>
    unfold minF at e
    split at e
    ·exact .inr ((ih e).elim here up)
    ·exact (ih e).imp id up
theorem Bu5 (p:List Int) (h:List PCell):(rsA p h).length≤h.length:=by
 cases h with
 | nil=>simp [rsA]
 | cons c t=>rw [rsA_c]; split <;> simp
theorem Cq2 (p:List Int) (hs:List (List PCell)):tot (hs.map (rsA p))≤tot hs:=by
 induction hs with
 | nil=>simp [tot]
 | cons h hs ih=>
  have:=Bu5 p h
  unfold tot at ih ⊢
  simp only [List.map_cons,List.sum_cons]
  omega
theorem Cq3 {p:List Int} {hs:List (List PCell)} {c:PCell} {t:List PCell} (h:(c :: t)∈hs) (hc:c.pos=p):tot (hs.map (rsA p)) < tot hs:=by
 induction hs with
 | nil=>cases h
 | cons a hs ih=>
  have h1:=Bu5 p a
  have h2:=Cq2 p hs
  unfold tot at ih h2 ⊢
  simp only [List.map_cons,List.sum_cons]
  rcases List.mem_cons.1 h with rfl | h
  ·have:(rsA p (c :: t)).length=t.length:=by rw [rsA_c,if_pos hc]
   simp only [List.length_cons] at *
   omega
  ·have:=ih h
   omega
theorem A45 {p:List Int} {h:List PCell} {c:PCell} (hc:c∈rsA p h):c∈h:=by
 cases h with
 | nil=>exact hc
 | cons a t=>
  rw [rsA_c] at hc
  split at hc
  ·exact List.mem_cons_of_mem _ hc
  ·exact hc
theorem Ba9 {n:Nat} {hs:List (List PCell)} {p:List Int} (hn:tot hs≤n) (h:minF none hs=some p):∃ m,n=m+1∧tot (hs.map (rsA p))≤m∧walkF n hs=(p,hs.map (stA p)) :: walkF m (hs.map (rsA p)):=by
 obtain ⟨c,t,h1,h2⟩:=(A44 h).elim (fun h=>by cases h) id
 have hlt:=Cq3 h1 h2
 obtain ⟨m,rfl⟩:∃ m,n=m+1:=⟨n - 1,by omega⟩
 refine ⟨m,rfl,by omega,?_⟩
 show (match minF none hs with
  | none=>[]
  | some p=>(p,hs.map (stA p)) :: walkF m (hs.map (rsA p)))=_
 rw [h]
theorem A46 {n:Nat} {hs:List (List PCell)} (h:minF none hs=none):walkF n hs=[]:=by
 cases n with
 | zero=>rfl
 | succ n=>
  show (match minF none hs with
   | none=>[]
   | some p=>(p,hs.map (stA p)) :: walkF n (hs.map (rsA p)))=_
  rw [h]
theorem Rows.set1 {α:Type} {R:Rep α} {T:Nat} {hd:R.dep+1≤6} {hp:Tr DObj} {p:Nat→Prop} {v:DV} {x:List α} (hv:RL R hp p v x):∀ {l:List (List α)} {fl:List DV} (i:Nat),Rows (rList R T hd) hp p fl l→Rows (rList R T hd) hp p (fl.set i v) (l.set i x)
 | [],_,_,h=>by cases h; exact rfl
 | _ :: l,_,0,⟨a,b,e,⟨d,h1,h2⟩,h3⟩=>by subst e h1; exact ⟨[v],b,rfl,⟨v,rfl,hv⟩,h3⟩
 | _ :: l,_,i+1,⟨a,b,e,⟨d,h1,h2⟩,h3⟩=>by subst e h1; exact ⟨[d],_,rfl,⟨d,rfl,h2⟩,h3.set1 hv i⟩
def Ar7 {α:Type} (R:Rep α) (T:Nat) (hd:R.dep+1≤6:=by decide):Rep (List α) where
 e:=1
 T:=T
 dep:=R.dep+1
 rd hp p ds l:=∃ d,ds=[d]∧RL R hp p d l∧Nn d l
 cells l:=[.sl (l.flatMap R.cells) l.length]
 e0:=Nat.one_pos
 d6:=hd
 len:=fun ⟨_,h,_⟩=>by rw [h]; rfl
 keep:=fun ⟨d,h,h2,h3⟩ hk=>⟨d,h,h2.keep hk,h3⟩
 mono:=fun ⟨d,h,h2,h3⟩ hk=>⟨d,h,h2.mono hk,h3⟩
 refs:=fun ⟨d,h,h2,_⟩ id hi=>by
  subst h
  exact h2.refs id (by simpa [DV.refsL] using hi)
 pure:=fun _ _ l=>⟨_,rfl,.sl l,by cases l with | nil=>exact .inr (.inr rfl) | cons a l=>exact .inl (by simp)⟩
 ok:=fun ⟨d,h,h2,_⟩ c hc=>by
  subst h
  obtain rfl:=List.mem_singleton.1 hc
  exact h2.ok
 same:=fun ⟨d,h,h2,_⟩ c hc n hn=>by
  subst h
  obtain rfl:=List.mem_singleton.1 hc
  exact h2.same hn
 samec:=fun l c hc n hn=>by
  obtain rfl:=List.mem_singleton.1 hc
  exact (RL.sl (R:=R) (hp:=.e) (p:=fun _=>True) l).same hn
theorem Rows.set1N {α:Type} {R:Rep α} {T:Nat} {hd:R.dep+1≤6} {hp:Tr DObj} {p:Nat→Prop} {v:DV} {x:List α} (hv:RL R hp p v x∧Nn v x):∀ {l:List (List α)} {fl:List DV} (i:Nat),Rows (Ar7 R T hd) hp p fl l→Rows (Ar7 R T hd) hp p (fl.set i v) (l.set i x)
 | [],_,_,h=>by cases h; exact rfl
 | _ :: l,_,0,⟨a,b,e,⟨d,h1,h2,h2'⟩,h3⟩=>by subst e h1; exact ⟨[v],b,rfl,⟨v,rfl,hv.1,hv.2⟩,h3⟩
 | _ :: l,_,i+1,⟨a,b,e,⟨d,h1,h2,h2'⟩,h3⟩=>by subst e h1; exact ⟨[d],_,rfl,⟨d,rfl,h2,h2'⟩,h3.set1N hv i⟩
theorem Rows.replN {α:Type} {R:Rep α} {T:Nat} {hd:R.dep+1≤6} {hp:Tr DObj} {p:Nat→Prop} : ∀ n:Nat,Rows (Ar7 R T hd) hp p (List.replicate n nilS) (List.replicate n [])
 | 0=>rfl
 | n+1=>⟨[nilS],List.replicate n nilS,rfl,⟨nilS,rfl,.nil,.inr (.inl rfl)⟩,Rows.replN n⟩
theorem OL.get {α:Type} {R:Rep α} {hp:Tr DObj} {p:Nat→Prop} {id n e:Nat} {l:List α} (h:OL R hp p (.ms id 0 n e) l):n=l.length∧e=R.e∧∃ fl,hp.get id=some (.row R.T fl)∧Rows R hp p fl l:=by
 cases h with
 | ms id fl l h hr=>exact ⟨rfl,rfl,fl,h,hr⟩
section
variable {call:CallT} {es:ES} {dst:Option Pa} {q:Hold (ES→Prop)}
theorem Ch9 {α:Type} {R:Rep α} {T:Nat} {hd:R.dep+1≤6} {p:Nat→Prop} {a x:EO} {id i n:Nat} {v:DV} {l:List (List α)} {m:List α} (ea:rawE es a=.pt id i) (ho:OL (rList R T hd) es.hp p (.ms id 0 n 1) l) (ev:evE es x=v) (hv:RL R es.hp p v m) (hi:i < l.length) (hp0:¬ p id)
  (h:∀ hp',OL (rList R T hd) hp' p (.ms id 0 n 1) (l.set i m)→(∀ j,j≠id→hp'.get j=es.hp.get j)→q.val ((ES.mk es.sl hp' es.nx).putE dst .any)) :
  SWs (sU dst (xSt 1 a x)) call es:=by
 obtain ⟨hn,_,fl,hg,hr⟩:=ho.get
 have hl:=hr.len
 refine Ag0 ea hg ev hv.ok (by rw [hl]; show i < l.length*1; omega) fun hp' hg' hk'=>h hp' ?_ hk'
 have:=OL.ms (R:=rList R T hd) (p:=p) id _ (l.set i m) hg' ((hr.set1 hv i).keep fun j hj=>hk' j fun e=>hp0 (e ▸ hj))
 rw [List.length_set,← hn] at this
 exact this
theorem Ci0 {α:Type} {R:Rep α} {T:Nat} {hd:R.dep+1≤6} {p:Nat→Prop} {a x:EO} {id i n:Nat} {v:DV} {l:List (List α)} {m:List α} (ea:rawE es a=.pt id i) (ho:OL (Ar7 R T hd) es.hp p (.ms id 0 n 1) l) (ev:evE es x=v) (hv:RL R es.hp p v m) (hnn:Nn v m) (hi:i < l.length) (hp0:¬ p id)
  (h:∀ hp',OL (Ar7 R T hd) hp' p (.ms id 0 n 1) (l.set i m)→(∀ j,j≠id→hp'.get j=es.hp.get j)→q.val ((ES.mk es.sl hp' es.nx).putE dst .any)) :
  SWs (sU dst (xSt 1 a x)) call es:=by
 obtain ⟨hn,_,fl,hg,hr⟩:=ho.get
 have hl:=hr.len
 refine Ag0 ea hg ev hv.ok (by rw [hl]; show i < l.length*1; omega) fun hp' hg' hk'=>h hp' ?_ hk'
 have:=OL.ms (R:=Ar7 R T hd) (p:=p) id _ (l.set i m) hg' ((hr.set1N ⟨hv,hnn⟩ i).keep fun j hj=>hk' j fun e=>hp0 (e ▸ hj))
 rw [List.length_set,← hn] at this
 exact this
theorem B22 {α:Type} {R:Rep α} {T e b:Nat} {hd:R.dep+1≤6} {x y:Operand} {n:Nat} (hx:es.ds.ev x=iv n) (hy:es.ds.ev y=iv n) (hn:n≤65536) (he:e=1) (hb:b≤64)
  (h:∀ hp',(∀ p,OL (Ar7 R T hd) hp' p (.ms es.nx 0 n 1) (List.replicate n []))→(∀ j,j≠es.nx→hp'.get j=es.hp.get j)→q.val ((ES.mk es.sl hp' (es.nx+1)).putE dst (.ms es.nx 0 n 1))):SWs (sU dst (xAny (.mks T e b [.slice none 0 0] x y))) call es:=by
 subst he
 show SW _ _ _ _
 rw [sw_u,x_any]
 have e:(List.replicate n ([Value.slice none 0 0].map DV.v)).flatten=List.replicate n nilS:=by
  clear h hx hy hn
  induction n with
  | zero=>rfl
  | succ n ih=>rw [List.replicate_succ,List.flatten_cons,ih]; rfl
 refine ⟨.ms es.nx 0 n 1,.lay (.row T (List.replicate n nilS)),?_,?_⟩
 ·have hnb:n*b≤65536*64:=Nat.mul_le_mul hn hb
  simp only [execU,hx,hy,iv,intD]
  rw [if_pos ⟨by omega,by omega,by omega,by omega,rfl,by omega⟩,Int.toNat_natCast,e]
 ·refine h (es.up (.lay (.row T (List.replicate n nilS)))).hp (fun p=>?_) fun j hj=>by rw [Aj8,get_set,if_neg hj]
  have:=OL.ms (R:=Ar7 R T hd) (p:=p) (hp:=(es.up (.lay (.row T (List.replicate n nilS)))).hp) es.nx (List.replicate n nilS) (List.replicate n []) (by rw [Aj8,get_set,if_pos rfl]; rfl) (Rows.replN n)
  rw [List.length_replicate] at this
  exact this
end
end Go.DD
