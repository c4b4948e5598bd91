/- A part. -/
import Derived.Test.YtnphfnhhpcelbaaGreatXj
import Derived.Test.YtnphfnhhpcelbaaGreatXl
set_option linter.unusedSectionVars false
set_option linter.unusedVariables false
namespace Go.DD
open Go Go.Proofs
section
variable (k n0:Nat) (hp:Tr DObj) (nx:Nat) (K:DV→Tr DObj→Nat→Prop)
theorem B10 (d1 d2:DV) (l m:List PCell) (hn:n0≤nx) (h1:RL rCell hp (Bl n0) d1 l) (h2:RL rCell hp (Bl n0) d2 m) (hl:l.length < 900000) (hl2:∀ c∈l,c.pos.length < 900000∧c.vals.length < 900000) (hK:∀ nx',nx≤nx'→K (bv (decide (l=m))) hp nx'):KW (kN (k+2)) (.fn 66) [d1,d2] hp nx K:=by
 refine kn_1 (Aa2 (by decide)) t66 (Nat.le_of_ble_eq_true rfl) fun es e1 e2 he=>?_
 have a0:rawE es (.t .o)=d1:=he 0 _ rfl
 have a1:rawE es (.t (.l .o))=d2:=he 1 _ rfl
 unfold r66
 by_cases hlen:l.length=m.length
 ·simp only [bSa,↓bSb,a0,a1,e1,h1.len,h2.len,hlen]
  refine EW.up l.length (fun i es1=>es1.hp=hp∧nx≤es1.nx∧rawE es1 (.t .o)=d1∧rawE es1 (.t (.l .o))=d2∧rawE es1 (.t (.l (.r .o)))=iv (i:Nat)∧(l=m↔l.drop i=m.drop i)) ?_ ?_ (by omega)
  ·rintro i es1 hi ⟨g1,g2,b0,b1,b5,hc⟩
   unfold l66_1
   subst g1
   by_cases h:i < l.length
   ·have h':i < m.length:=by omega
    obtain ⟨pA,vA,rpA,rvA,_,_,lpA,lvA⟩:=cells_at h1 h
    obtain ⟨pB,vB,rpB,rvB,_,_,lpB,lvB⟩:=cells_at h2 h'
    rw [Aq1 h h'] at hc
    obtain ⟨hlp,hlv⟩:=hl2 _ (List.getElem_mem h)
    simp only [bSa,↓bSb,b0,b1,b5,h1.len,h,Aa8 h1 h,Aa8 h2 h',Ad2 (k:=0) h1 h,Ad2 (k:=0) h2 h',lpA,lpB,h1.rox (show n0≤es1.nx by omega),h2.rox (show n0≤es1.nx by omega),Ac8 h1 (show n0≤es1.nx by omega),Ac8 h2 (show n0≤es1.nx by omega),Ah0 h1 (show n0≤es1.nx by omega),Ah0 h2 (show n0≤es1.nx by omega),rpA.rox (show n0≤es1.nx by omega),rpB.rox (show n0≤es1.nx by omega)]
    refine Aa0 rfl (Aa7 ?_)
    simp only [bR,List.map_cons,List.map_nil]
    refine Be7 (k:=k) n0 _ _ _ pA pB _ _ (by omega) rpA rpB hlp fun nx6 hle6=>?_
    by_cases c1:l[i].pos=m[i].pos
    ·simp only [bSa,↓bSb,b0,b1,b5,hle6,decide_eq_true c1,Aa8 h1 h,Aa8 h2 h',Ad2 (k:=1) h1 h,Ad2 (k:=1) h2 h',lvA,lvB,h1.rox (show n0≤es1.nx by omega),h2.rox (show n0≤es1.nx by omega),Ac8 h1 (show n0≤es1.nx by omega),Ac8 h2 (show n0≤es1.nx by omega),Ah0 h1 (show n0≤es1.nx by omega),Ah0 h2 (show n0≤es1.nx by omega),rvA.rox (show n0≤es1.nx by omega),rvB.rox (show n0≤es1.nx by omega)]
     refine Aa0 rfl (Aa7 ?_)
     simp only [bR,List.map_cons,List.map_nil]
     refine Bz3 (k:=k) n0 _ _ _ vA vB _ _ (by omega) rvA rvB hlv fun nx7 hle7=>?_
     by_cases c2:l[i].vals=m[i].vals
     ·simp only [bSa,↓bSb,b0,b1,b5,h,hle7,decide_eq_true c2,Aa3 (show i < _ by omega)]
      have c4:l[i]=m[i]:=by cases he1:l[i]; cases he2:m[i]; rw [he1,he2] at c1 c2; simp only at c1 c2; rw [c1,c2]
      exact ⟨by omega,by rw [hc]; simp [c4]⟩
     ·simp only [bSa,↓bSb,bP,hle7,decide_eq_false c2]
      have:¬ l=m:=by rw [hc]; intro hh; exact c2 (by rw [hh.1])
      have hh:=hK nx7 (by omega)
      rw [decide_eq_false this] at hh
      exact hh
    ·simp only [bSa,↓bSb,bP,hle6,decide_eq_false c1]
     have:¬ l=m:=by rw [hc]; intro hh; exact c1 (by rw [hh.1])
     have hh:=hK nx6 (by omega)
     rw [decide_eq_false this] at hh
     exact hh
   ·have:l=m:=hc.2 (by rw [List.drop_eq_nil_of_le (by omega),List.drop_eq_nil_of_le (by omega)])
    simp only [bSa,↓bSb,bP,b0,b5,h1.len,h]
    have hh:=hK es1.nx g2
    rw [decide_eq_true this] at hh
    exact hh
  ·simp only [bSa,a0,a1,e1,e2]
 ·simp only [bSa,↓bSb,bP,a0,a1,e1,e2,h1.len,h2.len,hlen]
  have:¬ l=m:=fun e=>hlen (by rw [e])
  have hh:=hK nx (Nat.le_refl _)
  rw [decide_eq_false this] at hh
  exact hh
theorem Ax2 (d1 d2:DV) (x y:PArr) (hn:n0≤nx) (h1:AR hp (Bl n0) d1 x) (h2:AR hp (Bl n0) d2 y) (hx:AOK x) (hK:∀ hp' nx',Al hp nx hp' nx'→K (bv (decide (x=y))) hp' nx'):KW (kN (k+3)) (.fn 19) [d1,d2] hp nx K:=by
 obtain ⟨d,a,c,rfl,r1,r2,r3⟩:=h1
 obtain ⟨d',a',c',rfl,s1,s2,s3⟩:=h2
 refine kn_1 (Aa2 (by decide)) t19 (Nat.le_of_ble_eq_true rfl) fun es e1 e2 he=>?_
 have a0:rawE es (.t .o)=.agg [d,a,c]:=he 0 _ rfl
 have a1:rawE es (.t (.l .o))=.agg [d',a',c']:=he 1 _ rfl
 unfold r19
 subst e1 e2
 simp only [↓bSb]
 refine Ab0 (cs:=[d,a,c]) (by rw [evt,a0]; exact AR.live r1 r2 r3) fun hp1 hg1 hk1=>?_
 simp only [bR] at hg1 hk1
 have hal1:Al es.hp es.nx hp1 (es.nx+1):=⟨by omega,fun j hj=>hk1 j (by omega)⟩
 simp only [bSa,↓bSb]
 refine Ab0 (cs:=[d',a',c']) (by simp only [evt,bR,reduceCtorEq,a1]; exact AR.live (s1.ka hn hal1) (s2.ka hn hal1) (s3.ka hn hal1)) fun hp2 hg2 hk2=>?_
 simp only [bR] at hg2 hk2
 have hal2:Al es.hp es.nx hp2 (es.nx+2):=⟨by omega,fun j hj=>by rw [hk2 j (by omega),hk1 j (by omega)]⟩
 obtain ⟨⟨f0,f1,f2⟩,l0,l1,l2,_⟩:=Aa4 ((hk2 es.nx (by omega)).trans hg1)
 obtain ⟨⟨q0,q1,q2⟩,m0,m1,m2,_⟩:=Aa4 hg2
 have hxy:decide (x=y)=(decide (x.dims=y.dims) && (decide (x.attrs=y.attrs) && decide (x.cells=y.cells))):=by
  cases x; cases y; simp [PArr.mk.injEq,Bool.decide_and]
 rw [hxy] at hK
 simp only [bSa,↓bSb,f0,l0,q0,m0]
 refine kws (Bz4 (k:=k+1) n0 _ _ _ d d' _ _ (by omega) (r1.ka hn hal2) (s1.ka hn hal2) hx.d fun nx3 hn3=>?_)
 cases c1:decide (x.dims=y.dims) with
 | false=>
  simp only [bSa,↓bSb,bP]
  have:=hK hp2 nx3 (hal2.nx (by omega))
  rw [c1] at this
  exact this
 | true=>
  simp only [bSa,↓bSb,f1,l1,q1,m1]
  refine kws (Bz5 (k:=k+1) n0 _ _ _ a a' _ _ (by omega) (r2.ka hn hal2) (s2.ka hn hal2) hx.a fun nx4 hn4=>?_)
  cases c2:decide (x.attrs=y.attrs) with
  | false=>
   simp only [bSa,↓bSb,bP]
   have:=hK hp2 nx4 (hal2.nx (by omega))
   rw [c1,c2] at this
   exact this
  | true=>
   simp only [bSa,↓bSb,f2,l2,q2,m2]
   refine kws (B10 (k:=k) n0 _ _ _ c c' _ _ (by omega) (r3.ka hn hal2) (s3.ka hn hal2) hx.c (fun e he=>⟨(hx.e e he).1,(hx.e e he).2.1⟩) fun nx5 hn5=>?_)
   simp only [bSa,↓bSb,bP]
   have:=hK hp2 nx5 (hal2.nx (by omega))
   rw [c1,c2] at this
   exact this
end
end Go.DD

/- Contracts: results that lie in cells; an empty array; a copied cell. Conditions: those that each theorem states. -/
namespace Go.DD
open Go Go.Proofs
theorem nms {j id o n e:Nat} (h:j≠id):j∉(DV.ms id o n e).refs:=by simpa [DV.refs] using h
theorem Ax3 (es:ES) (t:Nat):resE es (t,none)=some (liveE es.hp (rawE es (.t (pth t)))):=rfl
theorem Cp4 {es:ES} {t m id off T:Nat} {cs:List DV} (h5:rawE es (.t (pth t))=.pt id off) (h6:es.hp.get id=some (.row T cs)) (h7:m≤(cs.drop off).length):resE es (t,some (some m))=some (.agg ((cs.drop off).take m)):=by
 show xLp (some m) (.t (pth t)) es=_
 unfold xLp
 rw [h5]
 show cRow es.hp id (fun _ cs=>partE (some m) (dropL off cs)) (none:Option DV)=_
 unfold cRow
 rw [gN_eq,h6]
 show partE (some m) (dropL off cs)=_
 rw [An2,Ae4]
 show (if m≤(cs.drop off).length then some (DV.agg ((cs.drop off).take m)) else none)=_
 rw [if_pos h7]
theorem Ak5 {es:ES} {t m id T:Nat} {cs:List DV} (h5:rawE es (.t (pth t))=.pt id 0) (h6:es.hp.get id=some (.row T cs)) (h7:cs.length=m):resE es (t,some (some m))=some (.agg cs):=by
 have:=Cp4 (m:=m) h5 h6 (by rw [List.drop_zero]; omega)
 rw [List.drop_zero,List.take_of_length_le (by omega)] at this
 exact this
section
variable {tb:Nat→Option FE} {n:Nat} {rel:Nat→List DV→Option DV} {k f nt nx:Nat} {hp:Tr DObj} {ds:List DV} {c:CE} {K:DV→Tr DObj→Nat→Prop}
theorem kn_r1 {t:Nat} {k1:Option (Option Nat)} (hr:rel f ds=none) (hf:tb f=some ⟨c,[(t,k1)],nt⟩) (hn:ds.length≤nt)
  (h:∀ es,es.hp=hp→es.nx=nx→Ent es ds→EW c (callN tb n rel k) es fun e es=>(e=.normal∨e=.ret)∧∃ d,resE es (t,k1)=some d∧K d es.hp es.nx):KW (callN tb n rel (k+1)) (.fn f) ds hp nx K:=
 kn_fn hr hf hn fun es h1 h2 h3=>(h es h1 h2 h3).mono fun _ es ⟨h4,d,h5,h6⟩=>⟨h4,d,by
  unfold finE
  simp only [List.mapM_cons,List.mapM_nil,h5,Option.pure_def,Option.bind_eq_bind,Option.bind_some,resVE],h6⟩
theorem kn_r2 {t u:Nat} {k1 k2:Option (Option Nat)} (hr:rel f ds=none) (hf:tb f=some ⟨c,[(t,k1),(u,k2)],nt⟩) (hn:ds.length≤nt)
  (h:∀ es,es.hp=hp→es.nx=nx→Ent es ds→EW c (callN tb n rel k) es fun e es=>(e=.normal∨e=.ret)∧∃ d b,resE es (t,k1)=some d∧resE es (u,k2)=some b∧K (.tup [d,b]) es.hp es.nx):KW (callN tb n rel (k+1)) (.fn f) ds hp nx K:=
 kn_fn hr hf hn fun es h1 h2 h3=>(h es h1 h2 h3).mono fun _ es ⟨h4,d,b,h5,h6,h7⟩=>⟨h4,.tup [d,b],by
  unfold finE
  simp only [List.mapM_cons,List.mapM_nil,h5,h6,Option.pure_def,Option.bind_eq_bind,Option.bind_some,resVE],h7⟩
end
section
variable (k n0:Nat) (hp:Tr DObj) (nx:Nat) (K:DV→Tr DObj→Nat→Prop)
theorem B11 (d a:DV) (D:List PDim) (A:List PAttr) (hn:n0≤nx) (h1:RL rDim hp (Bl n0) d D) (h2:RL rAttr hp (Bl n0) a A) (hD:D.length < 900000) (hA:A.length < 900000)
  (hK:∀ hp' nx' d' a',Al hp nx hp' nx'→OL rDim hp' (fun _=>False) d' D→OL rAttr hp' (fun _=>False) a' A→Rng nx nx' d'→Rng nx nx' a'→K (.agg [d',a',nilS]) hp' nx'):KW (kN (k+1)) (.fn 55) [d,a] hp nx K:=by
 refine kn_r1 (Aa2 (by decide)) t55 (Nat.le_of_ble_eq_true rfl) fun es e1 e2 he=>?_
 have a0:rawE es (.t .o)=d:=he 0 _ rfl
 have a1:rawE es (.t (.l .o))=a:=he 1 _ rfl
 unfold r55
 subst e1 e2
 simp only [↓bSb]
 refine Ac5 fun hp1 hg1 hk1=>?_
 simp only [bR] at hg1 hk1
 simp only [bSa,↓bSb]
 refine Ah5 (fl:=[]) rfl rfl fun hp2 hg2 hk2=>?_
 simp only [bR] at hg2 hk2
 have r1:=h1.keep (hp':=hp2) fun j (hj:j < n0)=>by rw [hk2 j (by omega),hk1 j (by omega)]
 simp only [bSa,↓bSb,a0]
 refine Ad7 (R:=rDim) (p:=fun _=>False) (p2:=fun _=>False) (d:=.ms (es.nx+1) 0 0 3) (d2:=d) (l:=[]) (m:=D) (by simp only [bR,bP]) (.ms (es.nx+1) [] [] hg2 rfl) (by simp only [n_ev,bR,bP]; exact r1.live) (by obtain ⟨ds,q1,q2⟩:=r1.srcD (es:=⟨es.sl,hp2,es.nx⟩); exact ⟨ds,q1,Af9 (R:=rDim) (fun h=>rDim_rd.2 (rDim_rd.1 h)) q2⟩) rfl rfl (by simp; omega) (by decide) fun hp3 hk3 h3=>?_
 simp only [bR,List.nil_append] at hk3 h3
 have o3:=h3 (fun _=>False) (fun j hj=>(hj.elim False.elim False.elim:False).elim)
 simp only [bSa,↓bSb]
 refine Ah5 (fl:=[]) rfl rfl fun hp4 hg4 hk4=>?_
 simp only [bR] at hg4 hk4
 have r2:=h2.keep (hp':=hp4) fun j (hj:j < n0)=>by rw [hk4 j (by omega),hk3 j (by omega) (nms (by omega)),hk2 j (by omega),hk1 j (by omega)]
 simp only [bSa,↓bSb,a1]
 refine Ad7 (R:=rAttr) (p:=fun _=>False) (p2:=fun _=>False) (d:=.ms (es.nx+1+1+1) 0 0 2) (d2:=a) (l:=[]) (m:=A) (by simp only [bR,bP]) (.ms (es.nx+1+1+1) [] [] hg4 rfl) (by simp only [n_ev,bR,bP]; exact r2.live) (by obtain ⟨ds,q1,q2⟩:=r2.srcD (es:=⟨es.sl,hp4,es.nx⟩); exact ⟨ds,q1,Af9 (R:=rAttr) (fun h=>rAttr_rd.2 (rAttr_rd.1 h)) q2⟩) rfl rfl (by simp; omega) (by decide) fun hp5 hk5 h5=>?_
 simp only [bR,List.nil_append] at hk5 h5
 have o5:=h5 (fun _=>False) (fun j hj=>(hj.elim False.elim False.elim:False).elim)
 have x3:RL rDim hp5 (fun j=>j=es.nx+1+1) (.ms (es.nx+1+1) 0 D.length 3) D:=(o3.rl.keep fun j hj=>by
  have:j=es.nx+1+1:=by simpa [DV.refs] using hj
  rw [hk5 j (by omega) (nms (by omega)),hk4 j (by omega)]).mono fun j hj=>by simpa [DV.refs] using hj
 have o3':=o3.keep (hp':=hp5) fun j hj=>by
  have:j=es.nx+1+1:=by simpa [DV.refs] using hj
  rw [hk5 j (by omega) (nms (by omega)),hk4 j (by omega)]
 simp only [bSa,↓bSb]
 refine Ak9 (cs:=[.ms (es.nx+1+1) 0 D.length 3,.ms (es.nx+1+1+1+1) 0 A.length 2,nilS]) (by simp only [List.map_cons,List.map_nil,n_ev,bR,reduceCtorEq,bP,o3'.rl.live,o5.rl.live]; rfl) ?_
 simp only [bSa,↓bSb]
 have hg1':hp5.get es.nx=some (.row 26 [.v (.slice none 0 0),.v (.slice none 0 0),.v (.slice none 0 0)]):=by rw [hk5 _ (by omega) (nms (by omega)),hk4 _ (by omega),hk3 _ (by omega) (nms (by omega)),hk2 _ (by omega)]; exact hg1
 have hlv:liveE hp5 (.agg [.ms (es.nx+1+1) 0 D.length 3,.ms (es.nx+1+1+1+1) 0 A.length 2,nilS])=.agg [.ms (es.nx+1+1) 0 D.length 3,.ms (es.nx+1+1+1+1) 0 A.length 2,nilS]:=Ah8 fun id hid=>by
  have:id=es.nx+1+1∨id=es.nx+1+1+1+1:=by simpa [DV.refs,DV.refsL,nilS] using hid
  rcases this with h | h
  ·exact (x3.refs id (by simp [DV.refs,h])).2
  ·exact (o5.rl.refs id (by simp [DV.refs,h])).2
 refine Ac0 (n:=3) (id:=es.nx) (ds:=[.ms (es.nx+1+1) 0 D.length 3,.ms (es.nx+1+1+1+1) 0 A.length 2,nilS]) (by simp only [bR]) hg1' (by simp only [evt,bR]; exact hlv) rfl rfl fun hp6 hg6 hk6=>?_
 simp only [bR] at hg6 hk6
 simp only [bSa,↓bSb]
 refine ⟨_,Ak5 (by simp only [bR,bP]) hg6 rfl,hK _ _ _ _ ⟨by omega,fun j hj=>?_⟩ (o3'.keep fun j hj=>hk6 j ?_) (o5.keep fun j hj=>hk6 j ?_) (Rng.ms (by omega) (by omega)) (Rng.ms (by omega) (by omega))⟩
 ·rw [hk6 j (by omega),hk5 j (by omega) (nms (by omega)),hk4 j (by omega),hk3 j (by omega) (nms (by omega)),hk2 j (by omega),hk1 j (by omega)]
 ·have:j=es.nx+1+1:=by simpa [DV.refs] using hj
  omega
 ·have:j=es.nx+1+1+1+1:=by simpa [DV.refs] using hj
  omega
end
end Go.DD

/- Contracts: copied cells. Conditions: those that each theorem states. -/
namespace Go.DD
open Go Go.Proofs
section
variable (k n0:Nat) (hp:Tr DObj) (nx:Nat) (K:DV→Tr DObj→Nat→Prop)
theorem Ax4 (p v:DV) (c:PCell) (hn:n0≤nx) (h1:RL rInt hp (Bl n0) p c.pos) (h2:RL rVal hp (Bl n0) v c.vals) (hp0:c.pos.length < 900000) (hv0:c.vals.length < 900000)
  (hK:∀ hp' nx' p' v',Al hp nx hp' nx'→RL rInt hp' (Bw nx nx') p' c.pos→RL rVal hp' (Bw nx nx') v' c.vals→K (.agg [p',v']) hp' nx'):KW (kN (k+1)) (.fn 56) [.agg [p,v]] hp nx K:=by
 refine kn_r1 (Aa2 (by decide)) t56 (Nat.le_of_ble_eq_true rfl) fun es e1 e2 he=>?_
 have a0:rawE es (.t .o)=.agg [p,v]:=he 0 _ rfl
 unfold r56
 subst e1 e2
 simp only [↓bSb]
 refine Ab0 (cs:=[p,v]) (by rw [evt,a0]; exact Aa5 h1 h2) fun hp1 hg1 hk1=>?_
 simp only [bR] at hg1 hk1
 simp only [bSa,↓bSb]
 refine Ac5 fun hp2 hg2 hk2=>?_
 simp only [bR] at hg2 hk2
 have hal2:Al es.hp es.nx hp2 (es.nx+2):=⟨by omega,fun j hj=>by rw [hk2 j (by omega),hk1 j (by omega)]⟩
 have hgA:=(hk2 es.nx (by omega)).trans hg1
 obtain ⟨⟨f0,f1⟩,l0,l1,_⟩:=Ac6 hgA
 have r1:=h1.ka hn hal2
 have r2:=h2.ka hn hal2
 simp only [bSa,↓bSb]
 refine Ap9 (fl:=[]) rfl rfl fun hp3 hg3 hk3=>?_
 simp only [bR] at hg3 hk3
 have hk3':∀ j,j < es.nx+2→hp3.get j=hp2.get j:=fun j hj=>hk3 j (by omega)
 have hgA3:=(hk3' es.nx (by omega)).trans hgA
 obtain ⟨⟨f0,f1⟩,l0,l1,_⟩:=Ac6 hgA3
 have r1:=r1.keep fun j (hj:j < n0)=>hk3' j (by omega)
 have r2:=r2.keep fun j (hj:j < n0)=>hk3' j (by omega)
 simp only [bSa,↓bSb,f0,l0,Aa1 (n0:=es.nx+1+1) (m:=10) hgA3 (show es.nx < es.nx+1+1 by omega),r1.rox (show n0≤es.nx+1+1 by omega)]
 refine ⟨Ak2 hg3 rfl,?_⟩
 refine Aa0 rfl (Ad7 (R:=rInt) (p:=fun _=>False) (p2:=fun _=>False) (d:=.ms (es.nx+1+1+0) 0 0 1) (d2:=p) (l:=[]) (m:=c.pos) (by simp only [bR,bP]) (.ms _ [] [] hg3 rfl) (by simp only [n_ev,bR,bP]; exact r1.live) (by obtain ⟨ds,q1,q2⟩:=r1.srcD (es:=⟨es.sl,hp3,es.nx⟩); exact ⟨ds,q1,Af9 (R:=rInt) (fun h=>rInt_rd.2 (rInt_rd.1 h)) q2⟩) rfl rfl (by simp; omega) (by decide) fun hp4 hk4 h4=>?_)
 simp only [bR,List.nil_append] at hk4 h4
 have o4:=h4 (fun _=>False) (fun j hj=>(hj.elim False.elim False.elim:False).elim)
 simp only [bSa,↓bSb,Nat.le_succ]
 refine Ap9 (fl:=[]) rfl rfl fun hp5 hg5 hk5=>?_
 simp only [bR] at hg5 hk5
 have hk5':∀ j,j < es.nx+2→hp5.get j=hp3.get j:=fun j hj=>by rw [hk5 j (by omega),hk4 j (by omega) (nms (by omega))]
 have hgA5:=(hk5' es.nx (by omega)).trans hgA3
 obtain ⟨⟨f0,f1⟩,l0,l1,_⟩:=Ac6 hgA5
 have r5:=r2.keep fun j (hj:j < n0)=>hk5' j (by omega)
 have o5:=o4.keep (hp':=hp5) fun j hj=>by
  have:j=es.nx+1+1+10:=by simpa [DV.refs] using hj
  exact hk5 j (by omega)
 simp only [bSa,↓bSb,f1,l1,Aa1 (n0:=es.nx+1+1) (m:=10) hgA5 (show es.nx < es.nx+1+1 by omega),r5.rox (show n0≤es.nx+1+1 by omega)]
 refine ⟨Ak2 hg5 rfl,?_⟩
 refine Aa0 rfl (Ad7 (R:=rVal) (p:=fun _=>False) (p2:=fun _=>False) (d:=.ms (es.nx+1+1+4) 0 0 4) (d2:=v) (l:=[]) (m:=c.vals) (by simp only [bR,bP]) (.ms _ [] [] hg5 rfl) (by simp only [n_ev,bR,bP]; exact r5.live) (by obtain ⟨ds,q1,q2⟩:=r5.srcD (es:=⟨es.sl,hp5,es.nx⟩); exact ⟨ds,q1,Af9 (R:=rVal) (fun h=>rVal_rd.2 (rVal_rd.1 h)) q2⟩) rfl rfl (by simp; omega) (by decide) fun hp6 hk6 h6=>?_)
 simp only [bR,List.nil_append] at hk6 h6
 have o6:=h6 (fun _=>False) (fun j hj=>(hj.elim False.elim False.elim:False).elim)
 have o6a:=o5.keep (hp':=hp6) fun j hj=>by
  have:j=es.nx+1+1+10:=by simpa [DV.refs] using hj
  exact hk6 j (by omega) (nms (by omega))
 have xa:RL rInt hp6 (Bw (es.nx+2+10) (es.nx+2+12)) (.ms (es.nx+1+1+10) 0 c.pos.length rInt.e) c.pos:=o6a.rl.mono fun j hj=>by
  have:j=es.nx+1+1+10:=by simpa [DV.refs] using hj
  exact ⟨by omega,by omega⟩
 have xb:RL rVal hp6 (Bw (es.nx+2+10) (es.nx+2+12)) (.ms (es.nx+1+1+10+1) 0 c.vals.length rVal.e) c.vals:=o6.rl.mono fun j hj=>by
  have:j=es.nx+1+1+10+1:=by simpa [DV.refs] using hj
  exact ⟨by omega,by omega⟩
 have roA:∀ an,Aa6 (.ms (es.nx+1+1+10) 0 c.pos.length rInt.e) (fun id=>okRef (es.nx+1+1) 10 an hp6 id):=fun an=>xa.ro' (n:=es.nx+1+1) (m:=10) fun j hj=>.inr (by have:=hj.1; omega)
 have roB:∀ an,Aa6 (.ms (es.nx+1+1+10+1) 0 c.vals.length rVal.e) (fun id=>okRef (es.nx+1+1) 10 an hp6 id):=fun an=>xb.ro' (n:=es.nx+1+1) (m:=10) fun j hj=>.inr (by have:=hj.1; omega)
 have roAB:∀ an,Aa6 (.agg [.ms (es.nx+1+1+10) 0 c.pos.length rInt.e,.ms (es.nx+1+1+10+1) 0 c.vals.length rVal.e]) (fun id=>okRef (es.nx+1+1) 10 an hp6 id):=fun an=>ro_pr (roA an) (roB an)
 have hfb:=Ax0 (z:=.slice none 0 0) (w:=.slice none 0 0) xa.ok xb.ok
 simp only [bSa,↓bSb,bP,Nat.le_succ,A67,xa.live,xb.live,hfb,Option.map_some,iff_true_intro (roA _),iff_true_intro (roB _),iff_true_intro (roAB _)]
 have hgA4:hp4.get es.nx=_:=(hk4 es.nx (by omega) (nms (by omega))).trans hgA3
 have hgA6:hp6.get es.nx=_:=(hk6 es.nx (by omega) (nms (by omega))).trans hgA5
 have hgB6:hp6.get (es.nx+1)=_:=(hk6 _ (by omega) (nms (by omega))).trans ((hk5' _ (by omega)).trans ((hk3' _ (by omega)).trans hg2))
 refine ⟨Aa1 (n0:=es.nx+1+1) (m:=10) hgB6 (by omega),?_⟩
 refine Aa0 rfl (Ac0 (n:=2) (id:=es.nx+1) (ds:=[.ms (es.nx+1+1+10) 0 c.pos.length rInt.e,.ms (es.nx+1+1+10+1) 0 c.vals.length rVal.e]) (by simp only [bR]) hgB6 (by simp only [evt,bR]; exact Aa5 xa xb) rfl rfl fun hp7 hg7 hk7=>?_)
 simp only [bR] at hg7 hk7
 have hgA7:hp7.get es.nx=_:=(hk7 es.nx (by omega)).trans hgA6
 simp only [bSa,↓bSb]
 have hsz:∀ d∈[p,v],Ab1 6 d d=true:=fun d hd=>by
  simp only [List.mem_cons,List.not_mem_nil,or_false] at hd
  rcases hd with rfl | rfl
  ·exact h1.same (by decide)
  ·exact h2.same (by decide)
 have hps:∀ q∈[(⟨9,[8,7,0,1,2,3,4,5,6],hp6,hp7⟩:Past),⟨7,[4,6,3,5,0,2,1],hp5,hp6⟩,⟨3,[0,2,1],hp3,hp4⟩],q.a.get es.nx=some (.row 39 [p,v])∧q.b.get es.nx=some (.row 39 [p,v]):=fun q hq=>by
  simp only [List.mem_cons,List.not_mem_nil,or_false] at hq
  rcases hq with rfl | rfl | rfl
  ·exact ⟨hgA6,hgA7⟩
  ·exact ⟨hgA5,hgA6⟩
  ·exact ⟨hgA3,hgA4⟩
 have hrf:∀ (o:Nat),∀ j∈(DV.pt es.nx o).refs,j=es.nx:=fun o j hj=>by simpa [DV.refs] using hj
 refine ⟨Ah7 (hrf 1) (by omega) hps hsz (Ah7 (hrf 0) (by omega) hps hsz rfl),_,Ak5 (by simp only [bR,bP]) hg7 rfl,hK _ _ _ _ ⟨by omega,fun j hj=>?_⟩ ((xa.keep fun j hj=>hk7 j ?_).mono fun j hj=>⟨?_,?_⟩) ((xb.keep fun j hj=>hk7 j ?_).mono fun j hj=>⟨?_,?_⟩)⟩
 ·rw [hk7 j (by omega),hk6 j (by omega) (nms (by omega)),hk5' j (by omega),hk3' j (by omega),hal2.same j hj]
 all_goals (have h1:=hj.1; have h2:=hj.2; omega)
end
end Go.DD

/- Contracts: cells compared by a key. Conditions: those that each theorem states. -/
namespace Go.DD
open Go Go.Proofs
section
variable (k n0:Nat) (hp:Tr DObj) (nx:Nat) (K:DV→Tr DObj→Nat→Prop)
theorem Ca2 (p v:DV) (c:PCell) (hn:n0≤nx) (h1:RL rInt hp (Bl n0) p c.pos) (h2:RL rVal hp (Bl n0) v c.vals) (hK:∀ hp' nx',Al hp nx hp' nx'→K p hp' nx'):KW (kN (k+1)) (.fn 129) [.agg [p,v]] hp nx K:=by
 refine kn_1 (Aa2 (by decide)) t129 (Nat.le_of_ble_eq_true rfl) fun es e1 e2 he=>?_
 have a0:rawE es (.t .o)=.agg [p,v]:=he 0 _ rfl
 unfold r129
 subst e1 e2
 simp only [↓bSb]
 refine Ab0 (cs:=[p,v]) (by rw [evt,a0]; exact Aa5 h1 h2) fun hp1 hg1 hk1=>?_
 simp only [bR] at hg1 hk1
 have hal1:Al es.hp es.nx hp1 (es.nx+1):=⟨by omega,fun j hj=>hk1 j (by omega)⟩
 obtain ⟨⟨f0,f1⟩,l0,l1,_⟩:=Ac6 hg1
 simp only [bSa,↓bSb,bP,f0,l0,(h1.ka hn hal1).live]
 exact hK _ _ hal1
def KeyB (hp:Tr DObj) (n0 bx:Nat):Prop:=bx < n0∧∃ T,hp.get bx=some (.row T [.fn (.func 129) [.tup []]])
theorem Au0 (p v q w:DV) (c e:PCell) (bx:Nat) (hn:n0≤nx) (hb:KeyB hp n0 bx) (h1:RL rInt hp (Bl n0) p c.pos) (h2:RL rVal hp (Bl n0) v c.vals) (h3:RL rInt hp (Bl n0) q e.pos) (h4:RL rVal hp (Bl n0) w e.vals) (hl:c.pos.length < 900000)
  (hK:∀ hp' nx',Al hp nx hp' nx'→K (iv (cmpL c.pos e.pos)) hp' nx'):KW (kN (k+5)) (.fn 166) [.agg [p,v],.agg [q,w],.pt bx 0] hp nx K:=by
 refine kn_1 (Aa2 (by decide)) t166 (Nat.le_of_ble_eq_true rfl) fun es e1 e2 he=>?_
 have a0:rawE es (.t .o)=.agg [p,v]:=he 0 _ rfl
 have a1:rawE es (.t (.l .o))=.agg [q,w]:=he 1 _ rfl
 have a2:rawE es (.t (.r .o))=.pt bx 0:=he 2 _ rfl
 unfold r166
 subst e1 e2
 obtain ⟨hbn,T,hb⟩:=hb
 simp only [↓bSb]
 refine Ab0 (cs:=[p,v]) (by rw [evt,a0]; exact Aa5 h1 h2) fun hp1 hg1 hk1=>?_
 simp only [bR] at hg1 hk1
 have hal1:Al es.hp es.nx hp1 (es.nx+1):=⟨by omega,fun j hj=>hk1 j (by omega)⟩
 simp only [bSa,↓bSb]
 refine Ab0 (cs:=[q,w]) (by simp only [evt,bR,reduceCtorEq,a1]; exact Aa5 (h3.ka hn hal1) (h4.ka hn hal1)) fun hp2 hg2 hk2=>?_
 simp only [bR] at hg2 hk2
 have hal2:Al es.hp es.nx hp2 (es.nx+2):=⟨by omega,fun j hj=>by rw [hk2 j (by omega),hk1 j (by omega)]⟩
 have hgA:=(hk2 es.nx (by omega)).trans hg1
 have hb2:=(hal2.same bx (by omega)).trans hb
 obtain ⟨_,_,_,lA⟩:=Ac6 hgA
 have r1:=h1.ka hn hal2
 have r2:=h2.ka hn hal2
 have r3:=h3.ka hn hal2
 have r4:=h4.ka hn hal2
 have rof:∀ (H:Tr DObj) an,Aa6 (.fn (.func 129) [.tup []]) (fun id=>okRef (es.nx+1+1) 8 an H id):=fun H an id hid=>by simp [DV.refs,DV.refsL] at hid
 simp only [bSa,↓bSb,a2,Ah9 hb2,lA,Aa1 (n0:=es.nx+1+1) (m:=8) hb2 (show bx < es.nx+1+1 by omega),Aa1 (n0:=es.nx+1+1) (m:=8) hgA (show es.nx < es.nx+1+1 by omega),iff_true_intro (rof _ _)]
 refine ⟨ro_pr (r1.rox (by omega)) (r2.rox (by omega)),?_⟩
 refine Aa0 rfl (Af2 (fs:=[]) (cs:=[]) (by rw [evt]; simp only [bR]; exact A24 _ _) ?_)
 simp only [bR,List.map_cons,List.map_nil,List.append_nil,List.nil_append]
 refine Ca2 (k+3) n0 _ _ _ p v c (by omega) r1 r2 fun hp3 nx3 hal3=>?_
 have hle3:=hal3.le
 have hgB3:=(hal3.same (es.nx+1) (by omega)).trans hg2
 have hgA3:=(hal3.same es.nx (by omega)).trans hgA
 have hb3:=(hal3.same bx (by omega)).trans hb2
 obtain ⟨_,_,_,lB⟩:=Ac6 hgB3
 have x1:=r1.ka (nx:=es.nx+1+1+8) (by omega) hal3
 have x3:=r3.ka (nx:=es.nx+1+1+8) (by omega) hal3
 have x4:=r4.ka (nx:=es.nx+1+1+8) (by omega) hal3
 simp only [bSa,↓bSb,a2,hle3,Ah9 hb3,lB,Aa1 (n0:=es.nx+1+1) (m:=8) hb3 (show bx < es.nx+1+1 by omega),Aa1 (n0:=es.nx+1+1) (m:=8) hgB3 (show es.nx+1 < es.nx+1+1 by omega),iff_true_intro (rof _ _)]
 refine ⟨ro_pr (x3.rox (by omega)) (x4.rox (by omega)),?_⟩
 refine Aa0 rfl (Af2 (fs:=[]) (cs:=[]) (by rw [evt]; simp only [bR]; exact A24 _ _) ?_)
 simp only [bR,List.map_cons,List.map_nil,List.append_nil,List.nil_append]
 refine Ca2 (k+3) n0 _ _ _ q w e (by omega) x3 x4 fun hp4 nx4 hal4=>?_
 have hle4:=hal4.le
 have y1:=x1.ka (by omega) hal4
 have y3:=x3.ka (by omega) hal4
 have hgB4:=(hal4.same (es.nx+1) (by omega)).trans hgB3
 have hb4:=(hal4.same bx (by omega)).trans hb3
 have hal24:Al es.hp es.nx hp4 nx4:=⟨by omega,fun j hj=>by rw [hal4.same j (by omega),hal3.same j (by omega),hal2.same j hj]⟩
 simp only [bSa,↓bSb,hle4,y1.rox (show n0≤es.nx+1+1 by omega),y3.rox (show n0≤es.nx+1+1 by omega)]
 refine Aa0 rfl (Aa7 ?_)
 simp only [bR,List.map_cons,List.map_nil]
 refine Ai6 k n0 _ _ _ p q c.pos e.pos (by omega) y1 y3 hl ?_
 simp only [bSa,↓bSb,bP,Nat.le_refl]
 have hszB:∀ d∈[q,w],Ab1 6 d d=true:=fun d hd=>by
  simp only [List.mem_cons,List.not_mem_nil,or_false] at hd
  rcases hd with rfl | rfl
  ·exact h3.same (by decide)
  ·exact h4.same (by decide)
 have hszF:∀ d∈[DV.fn (.func 129) [.tup []]],Ab1 6 d d=true:=fun d hd=>by rw [List.mem_singleton.1 hd]; rfl
 have hps:∀ {id:Nat} {o:DObj},hp2.get id=some o→hp3.get id=some o→hp4.get id=some o→∀ q∈[(⟨6,[2,5,0,1,3,4],hp4,hp4⟩:Past),⟨5,[3,4,2,0,1],hp3,hp4⟩,⟨2,[0,1],hp2,hp3⟩],q.a.get id=some o∧q.b.get id=some o:=fun h2 h3 h4 q hq=>by
  simp only [List.mem_cons,List.not_mem_nil,or_false] at hq
  rcases hq with rfl | rfl | rfl
  ·exact ⟨h4,h4⟩
  ·exact ⟨h3,h4⟩
  ·exact ⟨h2,h3⟩
 exact ⟨Ah7 (fun j hj=>by simpa [DV.refs] using hj) (by omega) (hps hg2 hgB3 hgB4) hszB (Ah7 (fun j hj=>by simpa [DV.refs] using hj) (by omega) (hps hb2 hb3 hb4) hszF rfl),hK _ _ hal24⟩
end
end Go.DD

/- Contracts: sorting of cells that are sorted changes nothing: insertion. Conditions: those that each theorem states. -/
namespace Go.DD
open Go Go.Proofs
def cmpV (bx:Nat):DV:=.fn (.func 166) [.tup [],.pt bx 0]
section
variable (k n0:Nat) (hp:Tr DObj) (nx:Nat) (K:DV→Tr DObj→Nat→Prop)
theorem Bg2 (d:DV) (l:List PCell) (a b bx:Nat) (hn:n0≤nx) (hb:KeyB hp n0 bx) (h1:RL rCell hp (Bl n0) d l) (hs:SortC l) (hab0:a≤l.length) (hbl:b≤l.length) (hl:l.length < 900000) (hpos:∀ c∈l,c.pos.length < 900000)
  (hK:∀ hp' nx',Al hp nx hp' nx'→K (.tup []) hp' nx'):KW (kN (k+6)) (.fn 211) [d,iv (a:Nat),iv (b:Nat),cmpV bx] hp nx K:=by
 refine kn_0 (Aa2 (by decide)) t211 (Nat.le_of_ble_eq_true rfl) fun es e1 e2 he=>?_
 have a0:rawE es (.t .o)=d:=he 0 _ rfl
 have a1:rawE es (.t (.l .o))=iv (a:Nat):=he 1 _ rfl
 have a2:rawE es (.t (.r .o))=iv (b:Nat):=he 2 _ rfl
 have a3:rawE es (.t (.l (.l .o)))=cmpV bx:=he 3 _ rfl
 unfold r211
 subst e1 e2
 by_cases hab:a+1 < b
 ·have ha1:binD .add (.v (.int .i64 (a:Int))) (.v (.int .i64 1))=some (.v (.int .i64 ((a+1:Nat):Int))):=Aa3 (show a < _ by omega)
  simp only [bSa,↓bSb,a1,ha1]
  refine EW.up (b - (a+1)) (fun t es1=>Al es.hp es.nx es1.hp es1.nx∧rawE es1 (.t .o)=d∧rawE es1 (.t (.l .o))=iv (a:Nat)∧rawE es1 (.t (.r .o))=iv (b:Nat)∧rawE es1 (.t (.l (.l .o)))=cmpV bx∧rawE es1 (.t (.r (.l (.l .o))))=iv ((a+1+t:Nat))) ?_ ?_ (by omega)
  ·rintro t es1 ht ⟨g,b0,b1,b2,b3,b8⟩
   unfold Br7
   have hle:=g.le
   have w1:=h1.ka hn g
   obtain ⟨hbn,T,hbg⟩:=hb
   have hb':=(g.same bx (by omega)).trans hbg
   by_cases h:a+1+t < b
   ·simp only [bSa,↓bSb,b2,b8,h]
    refine EW.l (I:=fun _ es2=>es2.hp=es1.hp∧es2.nx=es1.nx∧rawE es2 (.t .o)=d∧rawE es2 (.t (.l .o))=iv (a:Nat)∧rawE es2 (.t (.r .o))=iv (b:Nat)∧rawE es2 (.t (.l (.l .o)))=cmpV bx∧rawE es2 (.t (.r (.l (.l .o))))=iv ((a+1+t:Nat))∧rawE es2 (.t (.l (.r (.l .o))))=iv ((a+1+t:Nat))) ?_ 0 1000000 _ ?_ (by omega)
    ·rintro n es2 ⟨q1,q2,x0,x1,x2,x3,x8,x9⟩
     unfold B97
     rw [← q1] at w1 hb'
     have hi:a+1+t < l.length:=by omega
     have hi':a+t < l.length:=by omega
     obtain ⟨pA,vA,rpA,rvA,ldA,_⟩:=cells_at w1 hi
     obtain ⟨pB,vB,rpB,rvB,ldB,_⟩:=cells_at w1 hi'
     have hsub:binD .sub (.v (.int .i64 ((a+1+t:Nat):Int))) (.v (.int .i64 1))=some (.v (.int .i64 ((a+t:Nat):Int))):=by rw [b_sub,wrap_in (by omega)]; congr 3; omega
     have hlt:=hs (a+t) (a+1+t) (by omega) hi
     have hgt:¬ cmpL l[a+1+t].pos l[a+t].pos < 0:=by rw [Ai3]; omega
     have hle2:n0≤es2.nx:=by omega
     have rov:∀ an,Aa6 (cmpV bx) (fun id=>okRef es2.nx 17 an es2.hp id):=fun an=>(ro_fn _ _ _ _).2 (Aa1 hb' (by omega))
     simp only [bSa,↓bSb,x0,x1,x3,x9,show a < a+1+t by omega,hsub,Aa8 w1 hi,Aa8 w1 hi',ldA,ldB,w1.rox hle2,Ac8 w1 hle2,iff_true_intro (rov _)]
     refine ⟨⟨ro_pr (rpA.rox hle2) (rvA.rox hle2),ro_pr (rpB.rox hle2) (rvB.rox hle2)⟩,?_⟩
     refine Aa0 rfl (Af2 (f:=166) (fs:=[]) (cs:=[.pt bx 0]) (by rw [evt]; simp only [bR]; exact At4 hb') ?_)
     simp only [bR,List.map_cons,List.map_nil,List.nil_append,List.cons_append]
     refine Au0 k n0 _ _ _ pA vA pB vB l[a+1+t] l[a+t] bx (by omega) ⟨hbn,T,hb'⟩ rpA rvA rpB rvB (hpos _ (List.getElem_mem hi)) fun hp3 nx3 hal3=>?_
     have hle3:=hal3.le
     have g3:Al es.hp es.nx hp3 nx3:=⟨by omega,fun j hj=>by rw [hal3.same j (by omega),q1,g.same j hj]⟩
     simp only [bSa,↓bSb,x0,x1,x2,x3,x8,hgt,hle3,Aa3 (show a+1+t < _ by omega)]
     exact ⟨by omega,g3,rfl⟩
    ·simp only [bSa,b0,b1,b2,b3,b8]
   ·simp only [bSa,↓bSb,b2,b8,h]
    exact hK _ _ g
  ·simp only [bSa,a0,a1,a2,a3]
 ·have ha1:binD .add (.v (.int .i64 (a:Int))) (.v (.int .i64 1))=some (.v (.int .i64 ((a+1:Nat):Int))):=Aa3 (show a < _ by omega)
  simp only [bSa,↓bSb,a1,ha1]
  refine EW.l (I:=fun _ es1=>es1.hp=es.hp∧es1.nx=es.nx∧rawE es1 (.t (.r .o))=iv (b:Nat)∧rawE es1 (.t (.r (.l (.l .o))))=iv ((a+1:Nat))) ?_ 0 1000000 _ ?_ (by omega)
  ·rintro n es1 ⟨q1,q2,b2,b8⟩
   unfold Br7
   simp only [bSa,↓bSb,b2,b8,hab]
   rw [q1,q2]
   exact hK _ _ (Al.refl _ _)
  ·simp only [bSa,a2]
end
end Go.DD

/- Contracts: sorting of cells that are sorted changes nothing: merging in place. Conditions: those that each theorem states. -/
namespace Go.DD
open Go Go.Proofs
theorem cvi_u {a:Nat} (h:a < 18446744073709551616):cviE .u64 (.v (.int .i64 (a:Int)))=some (.v (.int .u64 (a:Int))):=by
 rw [cvi_i,IntWalk.u64_in _ (by omega)]
theorem cvi_s {a:Nat} (h:a < 9223372036854775808):cviE .i64 (.v (.int .u64 (a:Int)))=some (.v (.int .i64 (a:Int))):=by
 rw [cvi_i,wrap_in (by omega)]
theorem A68 {a:Nat} : binD .shr (.v (.int .u64 (a:Int))) (.v (.int .u64 1))=some (.v (.int .u64 ((a / 2:Nat):Int))):=by
 have e:shI .shr .u64 (a:Int) (1:Int)=some (.int .u64 ((a / 2:Nat):Int)):=by
  unfold shI
  rw [if_neg (by decide)]
  simp only [IntKind.bits]
  have h1:min (Int.toNat 1) 64=1:=by decide
  rw [h1]
  have:(a:Int).fdiv (2 ^ 1)=((a / 2:Nat):Int):=by
   rw [Int.fdiv_eq_ediv_of_nonneg _ (by decide)]
   simp
  rw [this]
 simp [binD,binV,isSh,e]
theorem Ax5 {l:List PCell} (hs:SortC l) {i j:Nat} (hj:j < l.length) (h:i≤j):¬ cmpL (l[j]).pos (l[i]'(by omega)).pos < 0:=by
 by_cases e:i=j
 ·subst e; rw [Ab9]; decide
 ·have:=hs i j (by omega) hj
  rw [Ai3]; omega
section
variable (k n0:Nat) (hp:Tr DObj) (nx:Nat) (K:DV→Tr DObj→Nat→Prop)
theorem Cg6 (d:DV) (l:List PCell) (a b bx:Nat) (hn:n0≤nx) (hb:KeyB hp n0 bx) (h1:RL rCell hp (Bl n0) d l) (hs:SortC l) (hab:a+1 < b) (hbl:b≤l.length) (hl:l.length < 900000) (hpos:∀ c∈l,c.pos.length < 900000)
  (hK:∀ hp' nx',Al hp nx hp' nx'→K (.tup []) hp' nx'):KW (kN (k+6)) (.fn 212) [d,iv (a:Nat),iv ((a+1:Nat)),iv (b:Nat),cmpV bx] hp nx K:=by
 refine kn_0 (Aa2 (by decide)) t212 (Nat.le_of_ble_eq_true rfl) fun es e1 e2 he=>?_
 have a0:rawE es (.t .o)=d:=he 0 _ rfl
 have a1:rawE es (.t (.l .o))=iv (a:Nat):=he 1 _ rfl
 have a2:rawE es (.t (.r .o))=iv ((a+1:Nat)):=he 2 _ rfl
 have a3:rawE es (.t (.l (.l .o)))=iv (b:Nat):=he 3 _ rfl
 have a4:rawE es (.t (.r (.l .o)))=cmpV bx:=he 4 _ rfl
 unfold r212
 subst e1 e2
 have hsub:binD .sub (.v (.int .i64 ((a+1:Nat):Int))) (.v (.int .i64 (a:Int)))=some (.v (.int .i64 1)):=by rw [b_sub,wrap_in (by omega)]; congr 3; omega
 simp only [bSa,↓bSb,a1,a2,a3,hsub]
 refine EW.l (I:=fun j es1=>a+1≤j∧j≤b∧Al es.hp es.nx es1.hp es1.nx∧rawE es1 (.t .o)=d∧rawE es1 (.t (.l .o))=iv (a:Nat)∧rawE es1 (.t (.r .o))=iv ((a+1:Nat))∧rawE es1 (.t (.r (.l .o)))=cmpV bx∧rawE es1 (.t (.r (.r (.l .o))))=iv ((a+1:Nat))∧rawE es1 (.t (.l (.l (.r .o))))=iv (j:Nat)) ?_ b 1000000 _ ?_ (by omega)
 ·rintro j es1 ⟨hj1,hj2,g,b0,b1,b2,b4,b10,b11⟩
  unfold B98
  have hle:=g.le
  have w1:=h1.ka hn g
  obtain ⟨hbn,T,hbg⟩:=hb
  have hb':=(g.same bx (by omega)).trans hbg
  by_cases h:a+1 < j
  ·have hadd:binD .add (.v (.int .i64 ((a+1:Nat):Int))) (.v (.int .i64 (j:Int)))=some (.v (.int .i64 ((a+1+j:Nat):Int))):=Ae0 (by omega)
   have hi:(a+1+j) / 2 < l.length:=by omega
   have hi':a < l.length:=by omega
   obtain ⟨pA,vA,rpA,rvA,ldA,_⟩:=cells_at w1 hi
   obtain ⟨pB,vB,rpB,rvB,ldB,_⟩:=cells_at w1 hi'
   have hge:=Ax5 hs hi (show a≤(a+1+j) / 2 by omega)
   have hle2:n0≤es1.nx:=by omega
   have rov:∀ an,Aa6 (cmpV bx) (fun id=>okRef es1.nx 11 an es1.hp id):=fun an=>(ro_fn _ _ _ _).2 (Aa1 hb' (by omega))
   simp only [bSa,↓bSb,bP,b0,b1,b4,b10,b11,h,hadd,cvi_u (show a+1+j < _ by omega),A68,cvi_s (show (a+1+j) / 2 < _ by omega),Aa8 w1 hi,Aa8 w1 hi',ldA,ldB,w1.rox hle2,Ac8 w1 hle2,iff_true_intro (rov _)]
   refine ⟨⟨ro_pr (rpA.rox hle2) (rvA.rox hle2),ro_pr (rpB.rox hle2) (rvB.rox hle2)⟩,?_⟩
   refine Aa0 rfl (Af2 (f:=166) (fs:=[]) (cs:=[.pt bx 0]) (by rw [evt]; simp only [bR]; exact At4 hb') ?_)
   simp only [bR,List.map_cons,List.map_nil,List.nil_append,List.cons_append]
   refine Au0 k n0 _ _ _ pA vA pB vB l[(a+1+j) / 2] l[a] bx (by omega) ⟨hbn,T,hb'⟩ rpA rvA rpB rvB (hpos _ (List.getElem_mem hi)) fun hp3 nx3 hal3=>?_
   have hle3:=hal3.le
   have g3:Al es.hp es.nx hp3 nx3:=⟨by omega,fun j hj=>by rw [hal3.same j (by omega),g.same j hj]⟩
   simp only [bSa,↓bSb,b0,b1,b2,b4,b10,hge,hle3]
   exact ⟨(a+1+j) / 2,by omega,by omega,by omega,g3,rfl⟩
  ·simp only [bSa,↓bSb,b1,b10,b11,h]
   have hs1:binD .sub (.v (.int .i64 ((a+1:Nat):Int))) (.v (.int .i64 1))=some (.v (.int .i64 (a:Int))):=by rw [b_sub,wrap_in (by omega)]; congr 3; omega
   refine EW.l (I:=fun _ es2=>es2.hp=es1.hp∧es2.nx=es1.nx∧rawE es2 (.t (.r (.r (.l .o))))=iv ((a+1:Nat))∧rawE es2 (.t (.l (.r (.r .o))))=iv (a:Nat)) ?_ 0 1000000 _ ?_ (by omega)
   ·rintro n es2 ⟨q1,q2,x10,x13⟩
    unfold B99
    simp only [bSa,↓bSb,x10,x13,hs1,Nat.lt_irrefl]
    rw [q1,q2]
    exact hK _ _ g
   ·simp only [bSa,b10]
 ·simp only [bSa,a0,a1,a2,a4]
  omega
theorem Cg7 (d:DV) (l:List PCell) (a m bx:Nat) (hn:n0≤nx) (hb:KeyB hp n0 bx) (h1:RL rCell hp (Bl n0) d l) (hs:SortC l) (ham:a+1 < m) (hbl:m+1≤l.length) (hl:l.length < 900000) (hpos:∀ c∈l,c.pos.length < 900000)
  (hK:∀ hp' nx',Al hp nx hp' nx'→K (.tup []) hp' nx'):KW (kN (k+6)) (.fn 212) [d,iv (a:Nat),iv (m:Nat),iv ((m+1:Nat)),cmpV bx] hp nx K:=by
 refine kn_0 (Aa2 (by decide)) t212 (Nat.le_of_ble_eq_true rfl) fun es e1 e2 he=>?_
 have a0:rawE es (.t .o)=d:=he 0 _ rfl
 have a1:rawE es (.t (.l .o))=iv (a:Nat):=he 1 _ rfl
 have a2:rawE es (.t (.r .o))=iv (m:Nat):=he 2 _ rfl
 have a3:rawE es (.t (.l (.l .o)))=iv ((m+1:Nat)):=he 3 _ rfl
 have a4:rawE es (.t (.r (.l .o)))=cmpV bx:=he 4 _ rfl
 unfold r212
 subst e1 e2
 have hsub:binD .sub (.v (.int .i64 ((m+1:Nat):Int))) (.v (.int .i64 (m:Int)))=some (.v (.int .i64 1)):=by rw [b_sub,wrap_in (by omega)]; congr 3; omega
 have hsub0:binD .sub (.v (.int .i64 (m:Int))) (.v (.int .i64 (a:Int)))=some (.v (.int .i64 ((m - a:Nat):Int))):=by rw [b_sub,wrap_in (by omega)]; congr 3; omega
 simp only [bSa,↓bSb,a1,a2,a3,hsub,hsub0,show ¬ ((m - a:Nat):Int)=1 by omega]
 refine EW.l (I:=fun n es1=>∃ i,n=m - i∧a≤i∧i≤m∧Al es.hp es.nx es1.hp es1.nx∧rawE es1 (.t .o)=d∧rawE es1 (.t (.r .o))=iv (m:Nat)∧rawE es1 (.t (.r (.l .o)))=cmpV bx∧rawE es1 (.t (.r (.r (.r .o))))=iv (i:Nat)∧rawE es1 (.t (.l (.l (.l (.l .o)))))=iv (m:Nat)) ?_ (m - a) 1000000 _ ?_ (by omega)
 ·rintro n es1 ⟨i,hni,hi1,hi2,g,b0,b2,b4,b14,b15⟩
  unfold Ca0
  have hle:=g.le
  have w1:=h1.ka hn g
  obtain ⟨hbn,T,hbg⟩:=hb
  have hb':=(g.same bx (by omega)).trans hbg
  by_cases h:i < m
  ·have hadd:binD .add (.v (.int .i64 (i:Int))) (.v (.int .i64 (m:Int)))=some (.v (.int .i64 ((i+m:Nat):Int))):=Ae0 (by omega)
   have hi:(i+m) / 2 < l.length:=by omega
   have hi':m < l.length:=by omega
   obtain ⟨pA,vA,rpA,rvA,ldA,_⟩:=cells_at w1 hi
   obtain ⟨pB,vB,rpB,rvB,ldB,_⟩:=cells_at w1 hi'
   have hge:=Ax5 hs hi' (show (i+m) / 2≤m by omega)
   have hle2:n0≤es1.nx:=by omega
   have rov:∀ an,Aa6 (cmpV bx) (fun id=>okRef es1.nx 12 an es1.hp id):=fun an=>(ro_fn _ _ _ _).2 (Aa1 hb' (by omega))
   simp only [bSa,↓bSb,bP,b0,b2,b4,b14,b15,h,hadd,cvi_u (show i+m < _ by omega),A68,cvi_s (show (i+m) / 2 < _ by omega),Aa8 w1 hi,Aa8 w1 hi',ldA,ldB,w1.rox hle2,Ac8 w1 hle2,iff_true_intro (rov _)]
   refine ⟨⟨ro_pr (rpB.rox hle2) (rvB.rox hle2),ro_pr (rpA.rox hle2) (rvA.rox hle2)⟩,?_⟩
   refine Aa0 rfl (Af2 (f:=166) (fs:=[]) (cs:=[.pt bx 0]) (by rw [evt]; simp only [bR]; exact At4 hb') ?_)
   simp only [bR,List.map_cons,List.map_nil,List.nil_append,List.cons_append]
   refine Au0 k n0 _ _ _ pB vB pA vA l[m] l[(i+m) / 2] bx (by omega) ⟨hbn,T,hb'⟩ rpB rvB rpA rvA (hpos _ (List.getElem_mem hi')) fun hp3 nx3 hal3=>?_
   have hle3:=hal3.le
   have g3:Al es.hp es.nx hp3 nx3:=⟨by omega,fun j hj=>by rw [hal3.same j (by omega),g.same j hj]⟩
   simp only [bSa,↓bSb,b0,b2,b4,b15,hge,hle3,Aa3 (show (i+m) / 2 < _ by omega)]
   exact ⟨m - ((i+m) / 2+1),by omega,(i+m) / 2+1,rfl,by omega,by omega,g3,rfl⟩
  ·have him:i=m:=by omega
   subst him
   simp only [bSa,↓bSb,b2,b14,b15,Nat.lt_irrefl]
   refine EW.l (I:=fun _ es2=>es2.hp=es1.hp∧es2.nx=es1.nx∧rawE es2 (.t (.r (.r (.r .o))))=iv (i:Nat)∧rawE es2 (.t (.l (.r (.l (.l .o)))))=iv (i:Nat)) ?_ 0 1000000 _ ?_ (by omega)
   ·rintro n es2 ⟨q1,q2,x14,x17⟩
    unfold Ca1
    simp only [bSa,↓bSb,x14,x17,Nat.lt_irrefl]
    rw [q1,q2]
    exact hK _ _ g
   ·simp only [bSa,b14]
 ·refine ⟨a,?_⟩
  simp only [bSa,a0,a2,a4]
  omega
end
end Go.DD

/- Contracts: sorting of cells that are sorted changes nothing: merging in place, the general step. Conditions: those that each theorem states. -/
namespace Go.DD
open Go Go.Proofs
theorem p131:pth 131=(.l (.l (.r (.l (.l (.l (.l .o))))))):=rfl
theorem p133:pth 133=(.l (.r (.r (.l (.l (.l (.l .o))))))):=rfl
theorem p154:pth 154=(.r (.r (.l (.r (.r (.l (.l .o))))))):=rfl
theorem p156:pth 156=(.r (.l (.r (.r (.r (.l (.l .o))))))):=rfl
section
variable (k n0:Nat)
theorem Br9 (d:DV) (l:List PCell) (bx s0 r p:Nat) (x1 x2 x3 x18 x19:DV) (hs:SortC l) (hl:l.length < 900000) (hpos:∀ c∈l,c.pos.length < 900000) {es:ES} {Q:Exit→ES→Prop} (hn:n0≤es.nx) (hb:KeyB es.hp n0 bx) (h1:RL rCell es.hp (Bl n0) d l) (hsr:s0≤r) (hr:r < 900000) (hc:∀ c,s0≤c→c < r→c+c≤p∧p - c < l.length)
  (a0:rawE es (.t .o)=d) (a1:rawE es (.t (.l .o))=x1) (a2:rawE es (.t (.r .o))=x2) (a3:rawE es (.t (.l (.l .o)))=x3) (a4:rawE es (.t (.r (.l .o)))=cmpV bx) (a18:rawE es (.t (.r (.r (.l (.l .o)))))=x18) (a19:rawE es (.t (.l (.l (.r (.l .o)))))=x19) (a20:rawE es (.t (.r (.l (.r (.l .o)))))=iv (s0:Nat)) (a21:rawE es (.t (.l (.r (.r (.l .o)))))=iv (r:Nat)) (a22:rawE es (.t (.r (.r (.r (.l .o)))))=iv (p:Nat))
  (hQ:∀ es2:ES,Al es.hp es.nx es2.hp es2.nx→rawE es2 (.t .o)=d→rawE es2 (.t (.l .o))=x1→rawE es2 (.t (.r .o))=x2→rawE es2 (.t (.l (.l .o)))=x3→rawE es2 (.t (.r (.l .o)))=cmpV bx→rawE es2 (.t (.r (.r (.l (.l .o)))))=x18→rawE es2 (.t (.l (.l (.r (.l .o)))))=x19→rawE es2 (.t (.r (.l (.r (.l .o)))))=iv (r:Nat)→Q (.exit 8) es2):EW (cL 1000000 Br8) (kN (k+5)) es Q:=by
 refine EW.l (I:=fun n es1=>∃ i,n=r - i∧s0≤i∧i≤r∧Al es.hp es.nx es1.hp es1.nx∧rawE es1 (.t .o)=d∧rawE es1 (.t (.l .o))=x1∧rawE es1 (.t (.r .o))=x2∧rawE es1 (.t (.l (.l .o)))=x3∧rawE es1 (.t (.r (.l .o)))=cmpV bx∧rawE es1 (.t (.r (.r (.l (.l .o)))))=x18∧rawE es1 (.t (.l (.l (.r (.l .o)))))=x19∧rawE es1 (.t (.r (.l (.r (.l .o)))))=iv (i:Nat)∧rawE es1 (.t (.l (.r (.r (.l .o)))))=iv (r:Nat)∧rawE es1 (.t (.r (.r (.r (.l .o)))))=iv (p:Nat)) ?_ (r - s0) 1000000 _ ⟨s0,rfl,Nat.le_refl _,hsr,Al.refl _ _,a0,a1,a2,a3,a4,a18,a19,a20,a21,a22⟩ (by omega)
 rintro n es1 ⟨i,hni,hi1,hi2,g,b0,b1,b2,b3,b4,b18,b19,b20,b21,b22⟩
 unfold Br8
 have hle:=g.le
 have w1:=h1.ka hn g
 obtain ⟨hbn,T,hbg⟩:=hb
 have hb':=(g.same bx (by omega)).trans hbg
 by_cases h:i < r
 ·obtain ⟨hc1,hc2⟩:=hc ((i+r) / 2) (by omega) (by omega)
  obtain ⟨c,hcd⟩:∃ c,c=(i+r) / 2:=⟨_,rfl⟩
  rw [← hcd] at hc1 hc2
  have hadd:binD .add (.v (.int .i64 (i:Int))) (.v (.int .i64 (r:Int)))=some (.v (.int .i64 ((i+r:Nat):Int))):=Ae0 (by omega)
  have hh:binD .shr (.v (.int .u64 ((i+r:Nat):Int))) (.v (.int .u64 1))=some (.v (.int .u64 (c:Int))):=by rw [A68,← hcd]
  have hsub:binD .sub (.v (.int .i64 (p:Int))) (.v (.int .i64 (c:Int)))=some (.v (.int .i64 ((p - c:Nat):Int))):=by rw [b_sub,wrap_in (by omega)]; congr 3; omega
  have hi:c < l.length:=by omega
  obtain ⟨pA,vA,rpA,rvA,ldA,_⟩:=cells_at w1 hi
  obtain ⟨pB,vB,rpB,rvB,ldB,_⟩:=cells_at w1 hc2
  have hge:=Ax5 hs hc2 (show c≤p - c by omega)
  have hle2:n0≤es1.nx:=by omega
  have rov:∀ an,Aa6 (cmpV bx) (fun id=>okRef es1.nx 14 an es1.hp id):=fun an=>(ro_fn _ _ _ _).2 (Aa1 hb' (by omega))
  simp only [bSa,↓bSb,b0,b4,b20,b21,b22,h,hadd,hh,hsub,p154,p156,cvi_u (show i+r < _ by omega),cvi_s (show c < _ by omega),Aa8 w1 hi,Aa8 w1 hc2,ldA,ldB,w1.rox hle2,Ac8 w1 hle2,iff_true_intro (rov _)]
  refine ⟨⟨ro_pr (rpB.rox hle2) (rvB.rox hle2),ro_pr (rpA.rox hle2) (rvA.rox hle2)⟩,?_⟩
  refine Aa0 rfl (Af2 (f:=166) (fs:=[]) (cs:=[.pt bx 0]) (by rw [evt]; simp only [bR]; exact At4 hb') ?_)
  simp only [bR,List.map_cons,List.map_nil,List.nil_append,List.cons_append]
  refine Au0 k n0 _ _ _ pB vB pA vA l[p - c] l[c] bx (by omega) ⟨hbn,T,hb'⟩ rpB rvB rpA rvA (hpos _ (List.getElem_mem hc2)) fun hp3 nx3 hal3=>?_
  have hle3:=hal3.le
  have g3:Al es.hp es.nx hp3 nx3:=⟨by omega,fun j hj=>by rw [hal3.same j (by omega),g.same j hj]⟩
  simp only [bSa,↓bSb,b0,b1,b2,b3,b4,b18,b19,b21,b22,hge,hle3,Aa3 (show c < _ by omega)]
  exact ⟨r - (c+1),by omega,c+1,rfl,by omega,by omega,g3,rfl⟩
 ·have hir:i=r:=by omega
  subst hir
  simp only [bSa,↓bSb,b20,b21,Nat.lt_irrefl]
  refine hQ _ g ?_ ?_ ?_ ?_ ?_ ?_ ?_ ?_ <;> simp only [bR] <;> assumption
theorem Ca3 (d:DV) (l:List PCell) (bx:Nat) (hs:SortC l) (hl:l.length < 900000) (hpos:∀ c∈l,c.pos.length < 900000):∀ (f a m b:Nat) (hp:Tr DObj) (nx:Nat) (K:DV→Tr DObj→Nat→Prop) (_:n0≤nx) (_:KeyB hp n0 bx) (_:RL rCell hp (Bl n0) d l) (_:a < m) (_:m < b) (_:b≤l.length) (_:b - a≤2 ^ f)
  (_:∀ hp' nx',Al hp nx hp' nx'→K (.tup []) hp' nx'),KW (kN (k+f+6)) (.fn 212) [d,iv (a:Nat),iv (m:Nat),iv (b:Nat),cmpV bx] hp nx K:=by
 intro f
 induction f with
 | zero=>intro a m b hp nx K _ _ _ h1 h2 _ h3 _; omega
 | succ f ih=>
  intro a m b hp nx K hn hb h1 ham hmb hbl hf hK
  by_cases c1:m=a+1
  ·subst c1
   exact Cg6 (k+f+1) n0 hp nx K d l a b bx hn hb h1 hs hmb hbl hl hpos hK
  ·by_cases c2:b=m+1
   ·subst c2
    exact Cg7 (k+f+1) n0 hp nx K d l a m bx hn hb h1 hs (by omega) hbl hl hpos hK
   ·show KW (kN (k+f+6+1)) _ _ _ _ _
    refine kn_0 (Aa2 (by decide)) t212 (Nat.le_of_ble_eq_true rfl) fun es e1 e2 he=>?_
    have a0:rawE es (.t .o)=d:=he 0 _ rfl
    have a1:rawE es (.t (.l .o))=iv (a:Nat):=he 1 _ rfl
    have a2:rawE es (.t (.r .o))=iv (m:Nat):=he 2 _ rfl
    have a3:rawE es (.t (.l (.l .o)))=iv (b:Nat):=he 3 _ rfl
    have a4:rawE es (.t (.r (.l .o)))=cmpV bx:=he 4 _ rfl
    unfold r212
    subst e1 e2
    have hp2:2 ^ (f+1)=2*2 ^ f:=by rw [Nat.pow_succ]; omega
    rw [hp2] at hf
    generalize 2 ^ f=F at hf ih
    obtain ⟨M,hM⟩:∃ M,M=(a+b) / 2:=⟨_,rfl⟩
    have hs1:binD .sub (.v (.int .i64 (m:Int))) (.v (.int .i64 (a:Int)))=some (.v (.int .i64 ((m - a:Nat):Int))):=by rw [b_sub,wrap_in (by omega)]; congr 3; omega
    have hs2:binD .sub (.v (.int .i64 (b:Int))) (.v (.int .i64 (m:Int)))=some (.v (.int .i64 ((b - m:Nat):Int))):=by rw [b_sub,wrap_in (by omega)]; congr 3; omega
    have ha1:binD .add (.v (.int .i64 (a:Int))) (.v (.int .i64 (b:Int)))=some (.v (.int .i64 ((a+b:Nat):Int))):=Ae0 (by omega)
    have ha2:binD .add (.v (.int .i64 (M:Int))) (.v (.int .i64 (m:Int)))=some (.v (.int .i64 ((M+m:Nat):Int))):=Ae0 (by omega)
    have hs4:binD .sub (.v (.int .i64 ((M+m:Nat):Int))) (.v (.int .i64 1))=some (.v (.int .i64 ((M+m - 1:Nat):Int))):=by rw [b_sub,wrap_in (by omega)]; congr 3; omega
    have hh:binD .shr (.v (.int .u64 ((a+b:Nat):Int))) (.v (.int .u64 1))=some (.v (.int .u64 (M:Int))):=by rw [A68,← hM]
    by_cases cm:M < m
    ·have hs3:binD .sub (.v (.int .i64 ((M+m:Nat):Int))) (.v (.int .i64 (b:Int)))=some (.v (.int .i64 ((M+m - b:Nat):Int))):=by rw [b_sub,wrap_in (by omega)]; congr 3; omega
     simp only [bSa,↓bSb,a1,a2,a3,hs1,hs2,ha1,ha2,hs3,hs4,hh,p131,p133,show ¬ ((m - a:Nat):Int)=1 by omega,show ¬ ((b - m:Nat):Int)=1 by omega,cvi_u (show a+b < _ by omega),cvi_s (show M < _ by omega),cm]
     refine Br9 (k+f+1) n0 d l bx (M+m - b) M (M+m - 1) (iv (a:Nat)) (iv (m:Nat)) (iv (b:Nat)) (iv (M:Nat)) (iv ((M+m:Nat))) hs hl hpos hn hb h1 (by omega) (by omega) (fun c h3 h4=>⟨by omega,by omega⟩) (by simp only [bR,a0]) (by simp only [bR,a1]) (by simp only [bR,a2]) (by simp only [bR,a3]) (by simp only [bR,a4]) (by simp only [bR]) (by simp only [bR]) (by simp only [bR]) (by simp only [bR]) (by simp only [bR]) fun es2 g x0 x1 x2 x3 x4 x18 x19 x20=>?_
     have g:Al es.hp es.nx es2.hp es2.nx:=g
     have hbn:=hb.1
     have hle:=g.le
     have hs5:binD .sub (.v (.int .i64 ((M+m:Nat):Int))) (.v (.int .i64 (M:Int)))=some (.v (.int .i64 (m:Int))):=by rw [b_sub,wrap_in (by omega)]; congr 3; omega
     simp only [bSa,↓bSb,x0,x1,x2,x3,x4,x18,x19,x20,hs5,cm,Nat.lt_irrefl,show a < M by omega,hmb]
     refine kws (ih M m b _ _ _ (by have:=g.le; omega) ⟨hb.1,by obtain ⟨_,T,h⟩:=hb; exact ⟨T,(g.same _ (by omega)).trans h⟩⟩ (h1.ka hn g) cm hmb hbl (by omega) fun hp3 nx3 hal3=>?_)
     simp only [bSa,↓bSb]
     exact hK _ _ (g.trans hal3)
    ·simp only [bSa,↓bSb,a1,a2,a3,hs1,hs2,ha1,ha2,hs4,hh,p131,p133,show ¬ ((m - a:Nat):Int)=1 by omega,show ¬ ((b - m:Nat):Int)=1 by omega,cvi_u (show a+b < _ by omega),cvi_s (show M < _ by omega),cm]
     refine Br9 (k+f+1) n0 d l bx a m (M+m - 1) (iv (a:Nat)) (iv (m:Nat)) (iv (b:Nat)) (iv (M:Nat)) (iv ((M+m:Nat))) hs hl hpos hn hb h1 (by omega) (by omega) (fun c h3 h4=>⟨by omega,by omega⟩) (by simp only [bR,a0]) (by simp only [bR,a1]) (by simp only [bR,a2]) (by simp only [bR,a3]) (by simp only [bR,a4]) (by simp only [bR]) (by simp only [bR]) (by simp only [bR]) (by simp only [bR]) (by simp only [bR]) fun es2 g x0 x1 x2 x3 x4 x18 x19 x20=>?_
     have g:Al es.hp es.nx es2.hp es2.nx:=g
     have hbn:=hb.1
     have hle:=g.le
     have hs5:binD .sub (.v (.int .i64 ((M+m:Nat):Int))) (.v (.int .i64 (m:Int)))=some (.v (.int .i64 (M:Int))):=by rw [b_sub,wrap_in (by omega)]; congr 3; omega
     by_cases ce:m < M
     ·simp only [bSa,↓bSb,x0,x1,x2,x4,x18,x19,x20,hs5,Nat.lt_irrefl,ham,ce]
      refine kws (ih a m M _ _ _ (by have:=g.le; omega) ⟨hb.1,by obtain ⟨_,T,h⟩:=hb; exact ⟨T,(g.same _ (by omega)).trans h⟩⟩ (h1.ka hn g) ham ce (by omega) (by omega) fun hp3 nx3 hal3=>?_)
      simp only [bSa,↓bSb,x18,Nat.lt_irrefl]
      exact hK _ _ (g.trans hal3)
     ·simp only [bSa,↓bSb,x1,x2,x18,x19,x20,hs5,Nat.lt_irrefl,ham,ce]
      exact hK _ _ g
end
end Go.DD

/- Contracts: a stable sort of sorted cells changes nothing. Conditions: those that each theorem states. -/
namespace Go.DD
open Go Go.Proofs
section
variable (k n0:Nat) (hp:Tr DObj) (nx:Nat) (K:DV→Tr DObj→Nat→Prop)
theorem Bs0 (f:Nat) (d:DV) (l:List PCell) (bx:Nat) (hn:n0≤nx) (hb:KeyB hp n0 bx) (h1:RL rCell hp (Bl n0) d l) (hs:SortC l) (hl:l.length < 400000) (hf:l.length≤2 ^ f) (hpos:∀ c∈l,c.pos.length < 900000)
  (hK:∀ hp' nx',Al hp nx hp' nx'→K (.tup []) hp' nx'):KW (kN (k+f+7)) (.fn 187) [d,iv l.length,cmpV bx] hp nx K:=by
 refine kn_0 (Aa2 (by decide)) t187 (Nat.le_of_ble_eq_true rfl) fun es e1 e2 he=>?_
 have a0:rawE es (.t .o)=d:=he 0 _ rfl
 have a1:rawE es (.t (.l .o))=iv l.length:=he 1 _ rfl
 have a2:rawE es (.t (.r .o))=cmpV bx:=he 2 _ rfl
 unfold r187
 subst e1 e2
 have hbn:=hb.1
 have keyB:∀ {hp' nx'},Al es.hp es.nx hp' nx'→KeyB hp' n0 bx:=fun g=>⟨hb.1,by obtain ⟨_,T,h⟩:=hb; exact ⟨T,(g.same _ (by omega)).trans h⟩⟩
 simp only [bSa,↓bSb]
 refine EW.l (I:=fun m es1=>∃ a,m=l.length - a∧a≤l.length∧Al es.hp es.nx es1.hp es1.nx∧rawE es1 (.t .o)=d∧rawE es1 (.t (.l .o))=iv l.length∧rawE es1 (.t (.r .o))=cmpV bx∧rawE es1 (.t (.r (.r .o)))=iv ((20:Nat))∧rawE es1 (.t (.l (.l (.l .o))))=iv (a:Nat)∧rawE es1 (.t (.r (.l (.l .o))))=iv ((a+20:Nat))) ?_ l.length 1000000 _ ?_ (by omega)
 ·rintro m es1 ⟨a,hm,ha,g,b0,b1,b2,b6,b7,b8⟩
  unfold B94
  have hle:=g.le
  by_cases h:a+20≤l.length
  ·simp only [bSa,↓bSb,b0,b1,b2,b7,b8,h]
   refine kws (Bg2 (k+f) n0 _ _ _ d l a (a+20) bx (by omega) (keyB g) (h1.ka hn g) hs (by omega) h (by omega) hpos fun hp3 nx3 hal3=>?_)
   simp only [bSa,↓bSb,b0,b1,b2,b6,b8,Ae0 (show a+20+20 < _ by omega)]
   exact ⟨l.length - (a+20),by omega,a+20,rfl,h,g.trans hal3,rfl,rfl⟩
  ·simp only [bSa,↓bSb,b0,b1,b2,b7,b8,h]
   refine kws (Bg2 (k+f) n0 _ _ _ d l a l.length bx (by omega) (keyB g) (h1.ka hn g) hs ha (Nat.le_refl _) (by omega) hpos fun hp3 nx3 hal3=>?_)
   have g3:=g.trans hal3
   simp only [bSa,↓bSb]
   refine EW.l (I:=fun m es2=>∃ bs,m=l.length - bs∧1≤bs∧bs≤400000+400000∧Al es.hp es.nx es2.hp es2.nx∧rawE es2 (.t .o)=d∧rawE es2 (.t (.l .o))=iv l.length∧rawE es2 (.t (.r .o))=cmpV bx∧rawE es2 (.t (.r (.r .o)))=iv (bs:Nat)) ?_ (l.length - 20) 1000000 _ ?_ (by omega)
   ·rintro m2 es2 ⟨bs,hm2,hbs,hbs2,g2,x0,x1,x2,x6⟩
    unfold B96
    have hle2:=g2.le
    by_cases h2:bs < l.length
    ·have hmul:binD .mul (.v (.int .i64 2)) (.v (.int .i64 (bs:Int)))=some (.v (.int .i64 ((2*bs:Nat):Int))):=by rw [b_mul,wrap_in (by omega)]; congr 3
     simp only [bSa,↓bSb,x1,x6,h2,hmul]
     refine EW.l (I:=fun m es3=>∃ a,m=l.length - a∧a≤l.length∧Al es.hp es.nx es3.hp es3.nx∧rawE es3 (.t .o)=d∧rawE es3 (.t (.l .o))=iv l.length∧rawE es3 (.t (.r .o))=cmpV bx∧rawE es3 (.t (.r (.r .o)))=iv (bs:Nat)∧rawE es3 (.t (.l (.l (.l .o))))=iv (a:Nat)∧rawE es3 (.t (.r (.l (.l .o))))=iv ((a+2*bs:Nat))) ?_ l.length 1000000 _ ?_ (by omega)
     ·rintro m3 es3 ⟨a,hm3,ha3,g4,y0,y1,y2,y6,y7,y8⟩
      unfold B95
      have hle4:=g4.le
      have hadd:binD .add (.v (.int .i64 (a:Int))) (.v (.int .i64 (bs:Int)))=some (.v (.int .i64 ((a+bs:Nat):Int))):=Ae0 (by omega)
      by_cases h5:a+2*bs≤l.length
      ·simp only [bSa,↓bSb,y0,y1,y2,y6,y7,y8,h5,hadd]
       refine kws (Ca3 k n0 d l bx hs (by omega) hpos f a (a+bs) (a+2*bs) _ _ _ (by omega) (keyB g4) (h1.ka hn g4) (by omega) (by omega) h5 (by omega) fun hp5 nx5 hal5=>?_)
       simp only [bSa,↓bSb,y0,y1,y2,y6,y8,hmul,Ae0 (show a+2*bs+2*bs < _ by omega)]
       exact ⟨l.length - (a+2*bs),by omega,a+2*bs,rfl,h5,g4.trans hal5,rfl,rfl⟩
      ·by_cases h6:a+bs < l.length
       ·simp only [bSa,↓bSb,y0,y1,y2,y6,y7,y8,h5,h6,hadd]
        refine kws (Ca3 k n0 d l bx hs (by omega) hpos f a (a+bs) l.length _ _ _ (by omega) (keyB g4) (h1.ka hn g4) (by omega) h6 (Nat.le_refl _) (by omega) fun hp5 nx5 hal5=>?_)
        have hdb:binD .mul (.v (.int .i64 (bs:Int))) (.v (.int .i64 2))=some (.v (.int .i64 ((bs*2:Nat):Int))):=by rw [b_mul,wrap_in (by omega)]; congr 3
        simp only [bSa,↓bSb,y0,y1,y2,y6,hdb]
        exact ⟨l.length - bs*2,by omega,bs*2,rfl,by omega,by omega,g4.trans hal5,rfl⟩
       ·have hdb:binD .mul (.v (.int .i64 (bs:Int))) (.v (.int .i64 2))=some (.v (.int .i64 ((bs*2:Nat):Int))):=by rw [b_mul,wrap_in (by omega)]; congr 3
        simp only [bSa,↓bSb,y0,y1,y2,y6,y7,y8,h5,h6,hadd,hdb]
        exact ⟨l.length - bs*2,by omega,bs*2,rfl,by omega,by omega,g4,rfl⟩
     ·refine ⟨0,?_⟩
      simp only [bSa,x0,x1,x2,x6]
      refine ⟨by omega,by omega,g2,?_⟩
      first | rfl | rw [Nat.zero_add] | simp
    ·simp only [bSa,↓bSb,x1,x6,h2]
     exact hK _ _ g2
   ·refine ⟨20,?_⟩
    simp only [bSa,b0,b1,b2,b6]
    exact ⟨by omega,by omega,g3⟩
 ·refine ⟨0,?_⟩
  simp only [bSa,a0,a1,a2]
  exact ⟨by omega,by omega,rfl⟩
end
end Go.DD

/- Contracts: sorting of sorted cells by a key changes nothing. Conditions: those that each theorem states. -/
namespace Go.DD
open Go Go.Proofs
section
variable (k n0:Nat) (hp:Tr DObj) (nx:Nat) (K:DV→Tr DObj→Nat→Prop)
theorem A31 (f:Nat) (d:DV) (l:List PCell) (bx:Nat) (hn:n0≤nx) (hb:KeyB hp n0 bx) (h1:RL rCell hp (Bl n0) d l) (hs:SortC l) (hl:l.length < 400000) (hf:l.length≤2 ^ f) (hpos:∀ c∈l,c.pos.length < 900000)
  (hK:∀ hp' nx',Al hp nx hp' nx'→K (.tup []) hp' nx'):KW (kN (k+f+8)) (.fn 165) [d,cmpV bx] hp nx K:=by
 refine kn_0 (Aa2 (by decide)) t165 (Nat.le_of_ble_eq_true rfl) fun es e1 e2 he=>?_
 have a0:rawE es (.t .o)=d:=he 0 _ rfl
 have a1:rawE es (.t (.l .o))=cmpV bx:=he 1 _ rfl
 unfold r165
 subst e1 e2
 simp only [bSa,↓bSb,a0,a1,h1.len]
 refine kws (Bs0 k n0 _ _ _ f d l bx hn hb h1 hs hl hf hpos fun hp3 nx3 hal3=>?_)
 simp only [bSa,↓bSb]
 exact hK _ _ hal3
theorem Bs1 (f:Nat) (d:DV) (l:List PCell) (hn:n0≤nx) (h1:RL rCell hp (Bl n0) d l) (hs:SortC l) (hl:l.length < 400000) (hf:l.length≤2 ^ f) (hpos:∀ c∈l,c.pos.length < 900000)
  (hK:∀ hp' nx',Al hp nx hp' nx'→K (.tup []) hp' nx'):KW (kN (k+f+9)) (.fn 128) [d,.fn (.func 129) [.tup []]] hp nx K:=by
 refine kn_0 (Aa2 (by decide)) t128 (Nat.le_of_ble_eq_true rfl) fun es e1 e2 he=>?_
 have a0:rawE es (.t .o)=d:=he 0 _ rfl
 have a1:rawE es (.t (.l .o))=.fn (.func 129) [.tup []]:=he 1 _ rfl
 unfold r128
 subst e1 e2
 simp only [↓bSb]
 refine Bp2 (v:=.fn (.func 129) [.tup []]) (by simp only [evt,a1]; exact A24 _ _) ⟨rfl,rfl⟩ fun hp1 hg1 hk1=>?_
 simp only [bR] at hg1 hk1
 have hal1:Al es.hp es.nx hp1 (es.nx+1):=⟨by omega,fun j hj=>hk1 j (by omega)⟩
 have e1:liveE hp1 (.pt es.nx 0)=.pt es.nx 0:=Ah8 fun id hid=>by
  have:id=es.nx:=by simpa [DV.refs] using hid
  rw [this,hg1]; rfl
 simp only [bSa,↓bSb,bP,a0,e1]
 refine kws (A31 k (es.nx+1) _ _ _ f d l es.nx (Nat.le_refl _) ⟨by omega,_,hg1⟩ ((h1.ka hn hal1).bl (show n0≤es.nx+1 by omega)) hs hl hf hpos fun hp3 nx3 hal3=>?_)
 simp only [bSa,↓bSb]
 exact hK _ _ (hal1.trans hal3)
end
end Go.DD

/- Contracts: the program's copy of a cell. Conditions: those that each theorem states. -/
namespace Go.DD
open Go Go.Proofs
def IsM (d:DV):Prop:=∃ id off n e,d=.ms id off n e
theorem OLs.isM {α:Type} {R:Rep α} {hp:Tr DObj} {p:Nat→Prop} {d:DV} {l:List α} (h:OLs R hp p d l) (hl:l≠[]):IsM d:=by
 rcases h with h | ⟨h,_⟩
 ·cases h with
  | nil=>exact absurd rfl hl
  | ms id=>exact ⟨_,_,_,_,rfl⟩
 ·exact absurd h hl
structure OwnC (hp:Tr DObj) (c:DV):Prop where
 n:∀ cs n,c≠.sl cs n
 m:∀ id off n e,c=.ms id off n e→∀ fl,hp.get id=some (.row rCell.T fl)→∀ x∈fl,IsM x
theorem OwnC.nil (hp:Tr DObj):OwnC hp nilS:=⟨fun _ _ h=>(by cases h),fun _ _ _ _ h=>(by cases h)⟩
theorem OwnC.keep {hp hp':Tr DObj} {c:DV} (h:OwnC hp c) (hk:∀ j∈c.refs,hp'.get j=hp.get j):OwnC hp' c:=⟨h.n,fun id off n e hc fl hg=>h.m id off n e hc fl (by rw [← hk id (by rw [hc]; simp [DV.refs])]; exact hg)⟩
def AOw (hp:Tr DObj) (d:DV):Prop:=∀ a b c,d=.agg [a,b,c]→OwnC hp c
theorem AOw.of {hp:Tr DObj} {a b c:DV} (h:OwnC hp c):AOw hp (.agg [a,b,c]):=fun a' b' c' e=>by cases e; exact h
section
variable (k n0:Nat) (hp:Tr DObj) (nx:Nat) (K:DV→Tr DObj→Nat→Prop)
theorem Bs2 (p v:DV) (c:PCell) (hn:n0≤nx) (h1:RL rInt hp (Bl n0) p c.pos) (h2:RL rVal hp (Bl n0) v c.vals) (hpn:c.pos≠[]) (hv1:c.vals≠[]) (hp0:c.pos.length < 900000) (hv0:c.vals.length < 900000)
  (hK:∀ hp' nx' p' v',Al hp nx hp' nx'→RL rInt hp' (Bw nx nx') p' c.pos→RL rVal hp' (Bw nx nx') v' c.vals→IsM p'→IsM v'→K (.agg [p',v']) hp' nx'):KW (kN (k+2)) (.fn 164) [.agg [p,v]] hp nx K:=by
 refine kn_r1 (Aa2 (by decide)) t164 (Nat.le_of_ble_eq_true rfl) fun es e1 e2 he=>?_
 have a0:rawE es (.t .o)=.agg [p,v]:=he 0 _ rfl
 unfold r164
 subst e1 e2
 simp only [↓bSb]
 refine Ab0 (cs:=[p,v]) (by rw [evt,a0]; exact Aa5 h1 h2) fun hp1 hg1 hk1=>?_
 simp only [bR] at hg1 hk1
 simp only [bSa,↓bSb]
 refine Ac5 fun hp2 hg2 hk2=>?_
 simp only [bR] at hg2 hk2
 have hal2:Al es.hp es.nx hp2 (es.nx+2):=⟨by omega,fun j hj=>by rw [hk2 j (by omega),hk1 j (by omega)]⟩
 have hgA:=(hk2 es.nx (by omega)).trans hg1
 obtain ⟨⟨f0,f1⟩,l0,l1,_⟩:=Ac6 hgA
 have r1:=h1.ka hn hal2
 have r2:=h2.ka hn hal2
 simp only [bSa,↓bSb,f0,l0,Aa1 (n0:=es.nx+1+1) (m:=8) hgA (show es.nx < es.nx+1+1 by omega),r1.rox (show n0≤es.nx+1+1 by omega)]
 refine Aa0 rfl (Aa7 ?_)
 simp only [bR,List.map_cons,List.map_nil]
 refine Br0 k n0 _ _ _ p c.pos (by omega) r1 (.inl hpn) (by omega) fun hp7 nx7 a' hal7 ho7 hr7 _=>?_
 have hle7:=hal7.le
 have hgA7:=(hal7.same es.nx (by omega)).trans hgA
 have hgB7:=(hal7.same (es.nx+1) (by omega)).trans hg2
 obtain ⟨⟨f0,f1⟩,l0,l1,_⟩:=Ac6 hgA7
 have r7:=r2.ka (nx:=es.nx+1+1+8) (by omega) hal7
 have rA7:=ho7.rlF hr7
 simp only [bSa,↓bSb,hle7,f1,l1,Aa1 (n0:=es.nx+1+1) (m:=8) hgA7 (show es.nx < es.nx+1+1 by omega),r7.rox (show n0≤es.nx+1+1 by omega)]
 refine Aa0 rfl (Aa7 ?_)
 simp only [bR,List.map_cons,List.map_nil]
 refine Br1 k n0 _ _ _ v c.vals (by omega) r7 (.inl hv1) (by omega) fun hp8 nx8 v' hal8 ho8 hr8 _=>?_
 have hle8:=hal8.le
 have hgA8:=(hal8.same es.nx (by omega)).trans hgA7
 have hgB8:=(hal8.same (es.nx+1) (by omega)).trans hgB7
 have rB8:=ho8.rlF hr8
 have rA8:=rA7.keep (hp':=hp8) fun j hj=>hal8.same j hj.2
 have roA:∀ an,Aa6 a' (fun id=>okRef (es.nx+1+1) 8 an hp8 id):=fun an=>rA8.ro' (n:=es.nx+1+1) (m:=8) fun j hj=>.inr hj.1
 have roB:∀ an,Aa6 v' (fun id=>okRef (es.nx+1+1) 8 an hp8 id):=fun an=>rB8.ro' (n:=es.nx+1+1) (m:=8) fun j hj=>.inr (by have:=hj.1; omega)
 have roAB:∀ an,Aa6 (.agg [a',v']) (fun id=>okRef (es.nx+1+1) 8 an hp8 id):=fun an=>ro_pr (roA an) (roB an)
 have hfb:=Ax0 (z:=.slice none 0 0) (w:=.slice none 0 0) rA8.ok rB8.ok
 simp only [bSa,↓bSb,bP,hle8,A67,rA8.live,rB8.live,hfb,Option.map_some,iff_true_intro (roA _),iff_true_intro (roB _),iff_true_intro (roAB _),Aa1 (n0:=es.nx+1+1) (m:=8) hgB8 (show es.nx+1 < es.nx+1+1 by omega)]
 refine Aa0 rfl (Ac0 (n:=2) (id:=es.nx+1) (ds:=[a',v']) (by simp only [bR]) hgB8 (by simp only [evt,bR]; exact Aa5 rA8 rB8) rfl rfl fun hp9 hg9 hk9=>?_)
 simp only [bR] at hg9 hk9
 have hgA9:=(hk9 es.nx (by omega)).trans hgA8
 simp only [bSa,↓bSb]
 have hsz:∀ d∈[p,v],Ab1 6 d d=true:=fun d hd=>by
  simp only [List.mem_cons,List.not_mem_nil,or_false] at hd
  rcases hd with rfl | rfl
  ·exact h1.same (by decide)
  ·exact h2.same (by decide)
 have hps:∀ q∈[(⟨7,[6,5,0,1,2,3,4],hp8,hp9⟩:Past),⟨5,[4,2,3,1,0],hp7,hp8⟩,⟨2,[1,0],hp2,hp7⟩],q.a.get es.nx=some (.row 39 [p,v])∧q.b.get es.nx=some (.row 39 [p,v]):=fun q hq=>by
  simp only [List.mem_cons,List.not_mem_nil,or_false] at hq
  rcases hq with rfl | rfl | rfl
  ·exact ⟨hgA8,hgA9⟩
  ·exact ⟨hgA7,hgA8⟩
  ·exact ⟨hgA,hgA7⟩
 have hrf:∀ (o:Nat),∀ j∈(DV.pt es.nx o).refs,j=es.nx:=fun o j hj=>by simpa [DV.refs] using hj
 refine ⟨Ah7 (hrf 1) (by omega) hps hsz (Ah7 (hrf 0) (by omega) hps hsz rfl),_,Ak5 (by simp only [bR,bP]) hg9 rfl,hK _ _ _ _ ⟨by omega,fun j hj=>?_⟩ ((rA8.keep fun j hj=>hk9 j ?_).mono fun j hj=>⟨?_,?_⟩) ((rB8.keep fun j hj=>hk9 j ?_).mono fun j hj=>⟨?_,?_⟩) (ho7.isM hpn) (ho8.isM hv1)⟩
 ·rw [hk9 j (by omega),hal8.same j (by omega),hal7.same j (by omega),hal2.same j hj]
 all_goals (have h1:=hj.1; have h2:=hj.2; omega)
end
end Go.DD

/- Contracts: the program's copy of an array. Conditions: those that each theorem states. -/
namespace Go.DD
open Go Go.Proofs
section
variable (k n0:Nat) (hp:Tr DObj) (nx:Nat) (K:DV→Tr DObj→Nat→Prop)
theorem B12 (d a c:DV) (D:List PDim) (A:List PAttr) (C:List PCell) (hn:n0≤nx) (h1:RL rDim hp (Bl n0) d D) (h2:RL rAttr hp (Bl n0) a A) (h3:RL rCell hp (Bl n0) c C) (hD:D≠[]) (hA:A≠[]) (hDl:D.length < 900000) (hAl:A.length < 900000) (hCl:C.length < 900000)
  (hc:∀ e∈C,e.pos≠[]∧e.pos.length < 900000∧e.vals≠[]∧e.vals.length < 900000)
  (hK:∀ hp' nx' d',Al hp nx hp' nx'→AR hp' (Bw nx nx') d' ⟨D,A,C⟩→AOw hp' d'→K d' hp' nx'):KW (kN (k+3)) (.fn 127) [d,a,c] hp nx K:=by
 refine kn_r1 (Aa2 (by decide)) t127 (Nat.le_of_ble_eq_true rfl) fun es e1 e2 he=>?_
 have a0:rawE es (.t .o)=d:=he 0 _ rfl
 have a1:rawE es (.t (.l .o))=a:=he 1 _ rfl
 have a2:rawE es (.t (.r .o))=c:=he 2 _ rfl
 unfold r127
 subst e1 e2
 simp only [↓bSb]
 refine Ac5 fun hp1 hg1 hk1=>?_
 simp only [bR] at hg1 hk1
 have hal1:Al es.hp es.nx hp1 (es.nx+1):=⟨by omega,fun j hj=>hk1 j (by omega)⟩
 simp only [bSa,↓bSb,a0]
 refine kws (Br2 (k+1) n0 _ _ _ d D (by omega) (h1.ka hn hal1) (.inl hD) (by omega) fun hp2 nx2 d2 hal2 ho2 hr2 _=>?_)
 have hle2:=hal2.le
 have ha2:=hal1.trans hal2
 simp only [bSa,↓bSb,a1]
 refine kws (Br3 (k+1) n0 _ _ _ a A (by omega) (h2.ka hn ha2) (.inl hA) (by omega) fun hp3 nx3 a3 hal3 ho3 hr3 _=>?_)
 have hle3:=hal3.le
 have ha3:=ha2.trans hal3
 have rd3:=(ho2.rlF hr2).keep (hp':=hp3) fun j hj=>hal3.same j hj.2
 have ra3:=ho3.rlF hr3
 simp only [bSa,↓bSb]
 refine Ak9 (cs:=[d2,a3,.v (.slice none 0 0)]) (by simp only [List.map_cons,List.map_nil,n_ev,bR,reduceCtorEq,bP,rd3.live,ra3.live]; simp [fillD,rd3.ok,ra3.ok]) ?_
 simp only [bSa,↓bSb]
 refine Ac5 fun hp4 hg4 hk4=>?_
 simp only [bR] at hg4 hk4
 have rd4:=rd3.keep (hp':=hp4) fun j hj=>hk4 j (by have:=hj.2; omega)
 have ra4:=ra3.keep (hp':=hp4) fun j hj=>hk4 j (by have:=hj.2; omega)
 have hlv:liveE hp4 (.agg [d2,a3,.v (.slice none 0 0)])=.agg [d2,a3,.v (.slice none 0 0)]:=Ah8 fun id hid=>by
  have:id∈d2.refs∨id∈a3.refs:=by simpa [DV.refs,DV.refsL] using hid
  rcases this with h | h
  ·exact (rd4.refs id h).2
  ·exact (ra4.refs id h).2
 simp only [bSa,↓bSb]
 refine Ac0 (n:=3) (id:=nx3) (ds:=[d2,a3,.v (.slice none 0 0)]) (by simp only [bR]) hg4 (by simp only [evt,bR,reduceCtorEq]; exact hlv) rfl rfl fun hp5 hg5 hk5=>?_
 simp only [bR] at hg5 hk5
 have ha5:Al es.hp es.nx hp5 (nx3+1):=⟨by omega,fun j hj=>by rw [hk5 j (by omega),hk4 j (by omega),ha3.same j hj]⟩
 have h35:∀ j,j < nx3→hp5.get j=hp3.get j:=fun j hj=>by rw [hk5 j (by omega),hk4 j (by omega)]
 have hg15:hp5.get es.nx=_:=(h35 _ (by omega)).trans ((hal3.same _ (by omega)).trans ((hal2.same _ (by omega)).trans hg1))
 have w5:=h3.ka hn ha5
 simp only [bSa,↓bSb,a2,w5.len]
 refine EW.up C.length (fun i es1=>∃ z,Al es.hp es.nx es1.hp es1.nx∧nx3+1≤es1.nx∧(∀ j,j < nx3→es1.hp.get j=hp5.get j)∧es1.hp.get nx3=some (.row 26 [d2,a3,z])∧OL rCell es1.hp (fun j=>nx3 < j∧j < es1.nx∧j∉z.refs) z (C.take i)∧OwnC es1.hp z∧Rng (nx3+1) es1.nx z∧rawE es1 (.t (.r (.r .o)))=.pt es.nx 0∧rawE es1 (.t (.l (.l (.l .o))))=.pt nx3 0∧rawE es1 (.t (.l (.l (.l (.l .o)))))=c∧rawE es1 (.t (.r (.l (.l (.l .o)))))=iv C.length∧rawE es1 (.t (.l (.r (.l (.l .o)))))=iv (i:Nat)) ?_ ?_ (by omega)
 ·rintro i es1 hi ⟨z,g,hge,hfr,hgz,ho,hW,hrz,b6,b7,b15,b16,b17⟩
  unfold B93
  have hle:=g.le
  have w1:=h3.ka hn g
  by_cases h:i < C.length
  ·obtain ⟨pA,vA,rpA,rvA,ldA,_⟩:=cells_at w1 h
   have hpc:=hc _ (List.getElem_mem h)
   simp only [bSa,↓bSb,b15,b16,b17,h,Aa8 w1 h,ldA]
   refine Ac5 fun hp6 hg6 hk6=>?_
   simp only [bR] at hg6 hk6
   have k6:∀ j,j < es1.nx→hp6.get j=es1.hp.get j:=fun j hj=>hk6 j (by omega)
   have rp6:=rpA.keep (hp':=hp6) fun j (hj:j < n0)=>k6 j (by omega)
   have rv6:=rvA.keep (hp':=hp6) fun j (hj:j < n0)=>k6 j (by omega)
   simp only [bSa,↓bSb]
   refine Ac0 (n:=2) (id:=es1.nx) (ds:=[pA,vA]) (by simp only [bR]) hg6 (by simp only [evt,bR,reduceCtorEq]; exact Aa5 rp6 rv6) rfl rfl fun hp7 hg7 hk7=>?_
   simp only [bR] at hg7 hk7
   have k7:∀ j,j < es1.nx→hp7.get j=es1.hp.get j:=fun j hj=>by rw [hk7 j (by omega),k6 j hj]
   have rp7:=rpA.keep (hp':=hp7) fun j (hj:j < n0)=>k7 j (by omega)
   have rv7:=rvA.keep (hp':=hp7) fun j (hj:j < n0)=>k7 j (by omega)
   have hgz7:=(k7 nx3 (by omega)).trans hgz
   obtain ⟨⟨_,_,fz⟩,_,_,lz,_⟩:=Aa4 hgz7
   obtain ⟨_,_,_,lT⟩:=Ac6 hg7
   have hzl:∀ j,(nx3 < j∧j < es1.nx∧j∉z.refs)∨j∈z.refs→nx3 < j∧j < es1.nx:=fun j hj=>by
    rcases hj with hj | hj
    ·exact ⟨hj.1,hj.2.1⟩
    ·have:=hrz j hj; exact ⟨by omega,this.2⟩
   have ho7:=ho.keep (hp':=hp7) fun j hj=>k7 j (hzl j hj).2
   have roZ:∀ an,Aa6 z (fun id=>okRef (es1.nx+1) 8 an hp7 id):=fun an=>ho7.rl.ro' (n:=es1.nx+1) (m:=8) fun j hj=>.inl (by have:=(hzl j hj).2; omega)
   simp only [bSa,↓bSb,b7,fz,lz,lT,Aa1 (n0:=es1.nx+1) (m:=8) hgz7 (show nx3 < es1.nx+1 by omega),Aa1 (n0:=es1.nx+1) (m:=8) hg7 (show es1.nx < es1.nx+1 by omega)]
   refine ⟨ro_pr (rp7.rox (by omega)) (rv7.rox (by omega)),?_⟩
   refine Aa0 rfl (Aa7 ?_)
   simp only [bR,List.map_cons,List.map_nil]
   refine Bs2 k n0 _ _ _ pA vA C[i] (by omega) rp7 rv7 hpc.1 hpc.2.2.1 hpc.2.1 hpc.2.2.2 fun hp8 nx8 p' v' hal8 rp8 rv8 mp8 mv8=>?_
   have hle8:=hal8.le
   have roAB:∀ an,Aa6 (.agg [p',v']) (fun id=>okRef (es1.nx+1) 8 an hp8 id):=fun an=>ro_pr (rp8.ro' (n:=es1.nx+1) (m:=8) fun j hj=>.inr hj.1) (rv8.ro' (n:=es1.nx+1) (m:=8) fun j hj=>.inr hj.1)
   have hgz8:=(hal8.same nx3 (by omega)).trans hgz7
   have hgT8:=(hal8.same es1.nx (by omega)).trans hg7
   have hfb:=Ax0 (z:=.slice none 0 0) (w:=.slice none 0 0) rp8.ok rv8.ok
   simp only [bSa,↓bSb,hle8,iff_true_intro (roAB _)]
   refine Ap9 (fl:=[p',v']) rfl (by simp only [List.map_cons,List.map_nil,n_ev,bR,bP,Aa5 rp8 rv8]; exact Br5 (z:=[.slice none 0 0,.slice none 0 0]) rfl) fun hp9 hg9 hk9=>?_
   simp only [bR] at hg9 hk9
   have k9:∀ j,j < es1.nx→hp9.get j=es1.hp.get j:=fun j hj=>by rw [hk9 j (by omega),hal8.same j (by omega),k7 j hj]
   have rp9:=rp8.keep (hp':=hp9) fun j hj=>hk9 j (by have:=hj.1; omega)
   have rv9:=rv8.keep (hp':=hp9) fun j hj=>hk9 j (by have:=hj.1; omega)
   have ho9:=ho.keep (hp':=hp9) fun j hj=>k9 j (hzl j hj).2
   have hgz9:=(k9 nx3 (by omega)).trans hgz
   have roZ9:∀ an,Aa6 z (fun id=>okRef (es1.nx+1) 8 an hp9 id):=fun an=>ho9.rl.ro' (n:=es1.nx+1) (m:=8) fun j hj=>.inl (by have:=(hzl j hj).2; omega)
   have hlen:(C.take i).length=i:=by rw [List.length_take]; omega
   simp only [bSa,↓bSb,iff_true_intro (roZ9 _)]
   refine ⟨Ak2 hg9 rfl,?_⟩
   refine Aa0 rfl (Be3 (R:=rCell) (p:=fun j=>nx3 < j∧j < es1.nx∧j∉z.refs) (p2:=Bw (es1.nx+1+8) nx8) (d:=z) (d2:=.ms (es1.nx+1+4) 0 1 2) (ds:=[p',v']) (l:=C.take i) (m:=[C[i]]) (by simp only [bR,bP]) ho9 (by simp only [n_ev,bR,bP]; exact Ah4 hg9) (Be2 (R:=rCell) (x:=C[i]) hg9 (rCell_rd.2 ⟨p',v',rfl,rp9,rv9⟩)) (Rows.one (rCell_rd.2 ⟨p',v',rfl,rp9,rv9⟩)) rfl rfl (by rw [List.length_singleton]; omega) (by decide) fun hp10 hk10 h10 hQ10=>?_)
   simp only [bR] at hk10 h10 hQ10
   have hzn:∀ j∈z.refs,nx3 < j∧j < es1.nx:=fun j hj=>hzl j (.inr hj)
   have o10:=h10 (fun j=>nx3 < j∧j < nx8∧j∉z.refs) (fun j hj=>by
    rcases hj with hj | hj
    ·exact ⟨⟨hj.1,by omega,hj.2.2⟩,by omega,hj.2.2⟩
    ·have h1:=hj.1
     have h2:=hj.2
     exact ⟨⟨by omega,h2,fun h=>by have:=hzn j h; omega⟩,by omega,fun h=>by have:=hzn j h; omega⟩)
   have k10:∀ j,j≤nx3→hp10.get j=es1.hp.get j:=fun j hj=>by rw [hk10 j (by omega) (fun h=>by have:=hzn j h; omega),k9 j (by omega)]
   have hgz10:=(k10 nx3 (by omega)).trans hgz
   obtain ⟨⟨_,_,fz10⟩,_⟩:=Aa4 hgz10
   obtain ⟨_,_,flN,hgN,_⟩:=o10.get
   obtain ⟨fl10,g10,m10⟩:=hQ10 IsM (fun id fl hz hg=>hW.m id 0 _ _ hz fl (by rw [← k9 id (hzl id (.inr (by rw [hz]; simp [DV.refs]))).2]; exact hg)) fun c hc=>by
    simp only [List.mem_cons,List.not_mem_nil,or_false] at hc
    rcases hc with rfl | rfl
    ·exact mp8
    ·exact mv8
   have roN:∀ an,okRef (es1.nx+1) 8 an hp10 nx8=true:=fun an=>(Af7 hp10 nx8).2 ⟨by rw [hgN]; rfl,.inr (.inl (by omega))⟩
   simp only [bSa,↓bSb,b7,fz10,Aa1 (n0:=es1.nx+1) (m:=8) hgz10 (show nx3 < es1.nx+1 by omega),roN _,Nat.le_succ]
   refine Aa0 rfl (Am8 (id:=nx3) (off:=2) (by simp only [bR]) hgz10 (by simp only [evt,bR,reduceCtorEq]; exact Ah4 hgN) (ok_ms _ _ _ _) (by simp) fun hp11 hg11 hk11=>?_)
   simp only [bR] at hg11 hk11
   simp only [bSa,↓bSb,b6,b7,b15,b16,b17,Aa3 (show i < _ by omega)]
   have hsz:∀ q∈[d2,a3,z],Ab1 6 q q=true:=AR.same (p:=fun _=>True) (x:=⟨D,A,C.take i⟩) ((rd4.keep (hp':=hp7) fun j hj=>?_).mono fun _ _=>trivial) ((ra4.keep (hp':=hp7) fun j hj=>?_).mono fun _ _=>trivial) (ho7.rl.mono fun _ _=>trivial)
   refine ⟨Ai2 (fun j hj=>?_) (Ai2 (fun j hj=>?_) (Aw5 _ _ _)),h,.ms nx8 0 (C.take i ++ [C[i]]).length 2,⟨by omega,fun j hj=>?_⟩,by omega,fun j hj=>?_,hg11,?_,⟨(fun _ _ h=>by cases h),fun id off n e hc fl hg=>?_⟩,Rng.ms (by omega) (by omega)⟩
   ·have hj:j=nx3:=by simpa [DV.refs] using hj
    subst hj
    refine ⟨by omega,fun q hq'=>?_⟩
    simp only [List.mem_cons,List.not_mem_nil,or_false] at hq'
    rcases hq' with rfl | rfl | rfl
    ·exact .inl rfl
    ·exact .inl rfl
    ·exact .inr (.inr (by rw [if_pos rfl]; exact Aj1 hgz7 (hgz8.trans hgz7.symm) hsz))
   ·have hj:j=nx3:=by simpa [DV.refs] using hj
    subst hj
    refine ⟨by omega,fun q hq'=>?_⟩
    simp only [List.mem_cons,List.not_mem_nil,or_false] at hq'
    rcases hq' with rfl | rfl | rfl
    ·exact .inl rfl
    ·exact .inl rfl
    ·refine .inr (.inr ?_)
     rw [if_neg (by simp)]
     show (((hp7.get j).isSome) == ((hp8.get j).isSome))=true
     rw [hgz7,hgz8]; rfl
   ·rw [hk11 j (by omega),k10 j (by omega),g.same j hj]
   ·rw [hk11 j (by omega),k10 j (by omega),hfr j hj]
   ·rw [List.take_succ_eq_append_getElem h]
    refine (o10.keep (hp':=hp11) fun j hj=>hk11 j ?_).mono fun j hj=>⟨hj.1,by omega,fun h=>?_⟩
    ·rcases hj with hj | hj
     ·exact Nat.ne_of_gt hj.1
     ·have:j=nx8:=by simpa [DV.refs] using hj
      omega
    ·have:j=nx8:=by simpa [DV.refs] using h
     omega
   ·cases hc
    rw [hk11 _ (by omega),g10] at hg
    cases hg
    exact m10
   ·rw [k7 j (by have:=hj.2; omega),hfr j (by have:=hj.2; omega),hk5 j (by have:=hj.2; omega)]
   ·rw [k7 j (by have:=hj.2; omega),hfr j (by have:=hj.2; omega),hk5 j (by have:=hj.2; omega)]
  ·rw [List.take_of_length_le (by omega)] at ho
   obtain ⟨_,_,_,_,lz⟩:=Aa4 hgz
   have rd6:=rd4.keep (hp':=es1.hp) fun j hj=>by rw [hfr j (by have:=hj.2; omega),hk5 j (by have:=hj.2; omega)]
   have ra6:=ra4.keep (hp':=es1.hp) fun j hj=>by rw [hfr j (by have:=hj.2; omega),hk5 j (by have:=hj.2; omega)]
   have hg16:es1.hp.get es.nx=_:=(hfr _ (by omega)).trans hg15
   have rz:RL rCell es1.hp (Bw (es.nx+1) es1.nx) z C:=ho.rl.mono fun j hj=>by
    rcases hj with hj | hj
    ·exact ⟨by omega,hj.2.1⟩
    ·have:=hrz j hj; exact ⟨by omega,this.2⟩
   have hd2:=rd6.mono (q:=Bw (es.nx+1) es1.nx) fun j hj=>⟨by have:=hj.1; omega,by have:=hj.2; omega⟩
   have hda:=ra6.mono (q:=Bw (es.nx+1) es1.nx) fun j hj=>⟨by have:=hj.1; omega,by have:=hj.2; omega⟩
   simp only [bSa,↓bSb,b7,b16,b17,h,lz]
   refine Ac0 (n:=3) (id:=es.nx) (ds:=[d2,a3,z]) (by simp only [bR,b6]) hg16 (by simp only [evt,bR]; exact AR.live (x:=⟨D,A,C⟩) hd2 hda rz) rfl rfl fun hp7 hg7 hk7=>?_
   simp only [bR] at hg7 hk7
   simp only [bSa,↓bSb]
   have up:∀ j,Bw (es.nx+1) es1.nx j→Bw es.nx es1.nx j:=fun j hj=>⟨by have:=hj.1; omega,hj.2⟩
   have kp:∀ j,Bw (es.nx+1) es1.nx j→hp7.get j=es1.hp.get j:=fun j hj=>hk7 j (by have:=hj.1; omega)
   exact ⟨_,Ak5 (by simp only [bR,bP,b6]) hg7 rfl,hK _ _ _ ⟨g.le,fun j hj=>(hk7 j (by omega)).trans (g.same j hj)⟩ ⟨d2,a3,z,rfl,(hd2.keep kp).mono up,(hda.keep kp).mono up,(rz.keep kp).mono up⟩ (.of (hW.keep fun j hj=>hk7 j (by have:=hrz j hj; omega)))⟩
 ·refine ⟨.v (.slice none 0 0),?_⟩
  simp only [bSa]
  exact ⟨ha5,fun _ _=>trivial,hg5,.nil,.nil _,Rng.nil _ _⟩
end
end Go.DD

/- Contracts: the program's making of an array. Conditions: those that each theorem states. -/
namespace Go.DD
open Go Go.Proofs
theorem Bs3 {d:List PDim} {a:List PAttr} : ∀ {l:List PCell} {b:Option PCell},(∀ c∈l,cellE d a c=0)→Srt l→(∀ q,b=some q→∀ c∈l,cmpL q.pos c.pos = -1)→chkF d a b l=0
 | [],b,_,_,_=>by cases b <;> rfl
 | c :: l,b,h1,h2,h3=>by
  have h4:chkF d a (some c) l=0:=Bs3 (fun e he=>h1 e (List.mem_cons_of_mem _ he)) h2.tail fun q hq e he=>by cases hq; exact (List.pairwise_cons.1 h2).1 e he
  have h5:=h1 c (by simp)
  cases b with
  | none=>
   show (if cellE d a c≠0 then cellE d a c else chkF d a (some c) l)=0
   rw [if_neg (by simp [h5]),h4]
  | some q=>
   have h6:=h3 q rfl c (by simp)
   show (if cellE d a c≠0 then cellE d a c else if cmpL q.pos c.pos=0 then 5 else if cmpL q.pos c.pos=1 then 2 else chkF d a (some c) l)=0
   rw [if_neg (by simp [h5]),if_neg (by omega),if_neg (by omega),h4]
theorem B13 {x:PArr} (h1:Ae3 x.dims x.attrs=0) (h2:x.cells.length≤4096) (h3:∀ c∈x.cells,cellE x.dims x.attrs c=0) (h4:Srt x.cells):Ac3 x=0:=by
 unfold Ac3
 rw [if_neg (by simp [h1]),if_neg (by omega)]
 exact Bs3 h3 h4 fun q hq=>by cases hq
theorem Bs4 {x:PArr} (h:Ac3 x=0):x.cells.length≤4096:=by
 unfold Ac3 at h
 split at h
 ·rename_i h1; exact absurd h h1
 ·split at h
  ·cases h
  ·omega
theorem Bs5 {x:PArr} (h:Ac3 x=0):x.dims≠[]:=fun e=>by
 have h2:=(Ae1 h).2.2
 have h5:dimsE x.dims=13:=by unfold dimsE; rw [if_pos (Or.inl (by rw [e]; simp))]
 unfold Ae3 at h2
 rw [h5] at h2
 cases h2
theorem Bs6 {x:PArr} (h:Ac3 x=0):x.attrs≠[]:=fun e=>by
 have h2:=(Ae1 h).2.2
 unfold Ae3 at h2
 split at h2
 ·rename_i h5; exact h5 h2
 ·rw [if_pos (Or.inl (by rw [e]; simp))] at h2; cases h2
section
variable (k n0:Nat) (hp:Tr DObj) (nx:Nat) (K:DV→Tr DObj→Nat→Prop)
theorem Cg8 (f:Nat) (d a c:DV) (x:PArr) (hn:n0≤nx) (h1:RL rDim hp (Bl n0) d x.dims) (h2:RL rAttr hp (Bl n0) a x.attrs) (h3:RL rCell hp (Bl n0) c x.cells) (hc:Ac3 x=0) (ho:AOK x) (hf:x.cells.length≤2 ^ f)
  (hK:∀ hp' nx' d',Al hp nx hp' nx'→AR hp' (Bw nx nx') d' x→AOw hp' d'→K (.tup [d',iv 0]) hp' nx'):KW (kN (k+f+10)) (.fn 59) [d,a,c] hp nx K:=by
 obtain ⟨hs,hcell,hsch⟩:=Ae1 hc
 have hlen:=Bs4 hc
 refine kn_r2 (Aa2 (by decide)) t59 (Nat.le_of_ble_eq_true rfl) fun es e1 e2 he=>?_
 have a0:rawE es (.t .o)=d:=he 0 _ rfl
 have a1:rawE es (.t (.l .o))=a:=he 1 _ rfl
 have a2:rawE es (.t (.r .o))=c:=he 2 _ rfl
 unfold r59
 subst e1 e2
 simp only [↓bSb]
 refine Ac5 fun hp1 hg1 hk1=>?_
 simp only [bR] at hg1 hk1
 have hal1:Al es.hp es.nx hp1 (es.nx+1):=⟨by omega,fun j hj=>hk1 j (by omega)⟩
 simp only [bSa,↓bSb,a0,a1]
 refine kws (A64 (k:=k+f+6) n0 _ _ _ d a x.dims x.attrs (by omega) (h1.ka hn hal1) (h2.ka hn hal1) fun hp2 nx2 hal2=>?_)
 have hle2:=hal2.le
 have ha2:=hal1.trans hal2
 have w2:=h3.ka hn ha2
 have hg2:=(hal2.same es.nx (by omega)).trans hg1
 have hnle:¬ 4096 < (x.cells.length:Int):=by omega
 simp only [bSa,↓bSb,a2,show decide (¬ Ae3 x.dims x.attrs=0)=false by simp [hsch],w2.len,decide_eq_false hnle]
 refine EW.up x.cells.length (fun i es1=>Al es.hp es.nx es1.hp es1.nx∧es.nx < es1.nx∧es1.hp.get es.nx=some (.row 26 [.v (.slice none 0 0),.v (.slice none 0 0),.v (.slice none 0 0)])∧rawE es1 (.t .o)=d∧rawE es1 (.t (.l .o))=a∧rawE es1 (.t (.r .o))=c∧rawE es1 (.t (.r (.r .o)))=.pt es.nx 0∧rawE es1 (.t (.l (.r (.l (.r .o)))))=c∧rawE es1 (.t (.r (.r (.l (.r .o)))))=iv x.cells.length∧rawE es1 (.t (.l (.l (.r (.r .o)))))=iv (i:Nat)) ?_ ?_ (by omega)
 ·rintro i es1 hi ⟨g,gn,hg,b0,b1,b2,b6,b25,b26,b27⟩
  unfold l59_1
  have hle:=g.le
  have w1:=h1.ka hn g
  have w2:=h2.ka hn g
  have w3:=h3.ka hn g
  by_cases h:i < x.cells.length
  ·obtain ⟨p,v,rp,rv,lc,_⟩:=cells_at w3 h
   have hce:=hcell _ (List.getElem_mem h)
   have hoe:=ho.e _ (List.getElem_mem h)
   simp only [bSa,↓bSb,b25,b26,b27,h,Aa8 w3 h,lc]
   refine Ac5 fun hp3 hg3 hk3=>?_
   simp only [bR] at hg3 hk3
   have g3:Al es.hp es.nx hp3 (es1.nx+1):=⟨by omega,fun j hj=>by rw [hk3 j (by omega),g.same j hj]⟩
   have rp3:=rp.keep fun j (hj:j < n0)=>hk3 j (by omega)
   have rv3:=rv.keep fun j (hj:j < n0)=>hk3 j (by omega)
   simp only [bSa,↓bSb]
   refine Ac0 (n:=2) (id:=es1.nx) (ds:=[p,v]) (by simp only [bR]) hg3 (by simp only [evt,bR,reduceCtorEq]; exact Aq2 rp3 rv3) rfl rfl fun hp4 hg4 hk4=>?_
   simp only [bR] at hg4 hk4
   have g4:Al es.hp es.nx hp4 (es1.nx+1):=g3.new (Nat.le_refl _) fun j hj=>hk4 j (by omega)
   have hg4':hp4.get es.nx=_:=(hk4 es.nx (by omega)).trans ((hk3 es.nx (by omega)).trans hg)
   obtain ⟨_,_,_,u2⟩:=Ac6 hg4
   simp only [bSa,↓bSb,b0,b1,u2]
   refine kws (Bq7 (k+f+3) n0 _ _ _ d a p v x.dims x.attrs x.cells[i] (by omega) (h1.ka hn g4) (h2.ka hn g4) (rp3.keep fun j (hj:j < n0)=>hk4 j (by omega)) (rv3.keep fun j (hj:j < n0)=>hk4 j (by omega)) ho.d ho.a hoe.2.2 fun hp5 nx5 hal5=>?_)
   have hle5:=hal5.le
   simp only [bSa,↓bSb,b0,b1,b2,b6,b25,b26,b27,h,show decide (¬ cellE x.dims x.attrs x.cells[i]=0)=false by simp [hce],Aa3 (show i < _ by omega)]
   exact ⟨g4.trans hal5,by omega,(hal5.same _ (by omega)).trans hg4'⟩
  ·simp only [bSa,↓bSb,b0,b1,b2,b26,b27,h]
   refine kws (B12 (k+f+6) n0 _ _ _ d a c x.dims x.attrs x.cells (by omega) w1 w2 w3 (Bs5 hc) (Bs6 hc) ho.d ho.a ho.c (fun e he=>⟨A66 hc e he,(ho.e e he).1,Az6 hc e he,(ho.e e he).2.1⟩) fun hp3 nx3 d3 hal3 har3 how3=>?_)
   have hle3:=hal3.le
   obtain ⟨d3,a3,c3,rfl,r1,r2,r3⟩:=har3
   have how:=how3 _ _ _ rfl
   have hcr:∀ j∈c3.refs,es1.nx≤j∧j < nx3:=fun j hj=>(r3.refs j hj).1
   simp only [bSa,↓bSb]
   refine Ac5 fun hp4 hg4 hk4=>?_
   simp only [bR] at hg4 hk4
   have q1:=r1.keep (hp':=hp4) fun j hj=>hk4 j (by have:=hj.2; omega)
   have q2:=r2.keep (hp':=hp4) fun j hj=>hk4 j (by have:=hj.2; omega)
   have q3:=r3.keep (hp':=hp4) fun j hj=>hk4 j (by have:=hj.2; omega)
   simp only [bSa,↓bSb]
   refine Ac0 (n:=3) (id:=nx3) (ds:=[d3,a3,c3]) (by simp only [bR]) hg4 (by simp only [evt,bR,reduceCtorEq]; exact AR.live q1 q2 q3) rfl rfl fun hp5 hg5 hk5=>?_
   simp only [bR] at hg5 hk5
   have q1:=q1.keep (hp':=hp5) fun j hj=>hk5 j (by have:=hj.2; omega)
   have q2:=q2.keep (hp':=hp5) fun j hj=>hk5 j (by have:=hj.2; omega)
   have q3:=q3.keep (hp':=hp5) fun j hj=>hk5 j (by have:=hj.2; omega)
   have g5:Al es.hp es.nx hp5 (nx3+1):=⟨by omega,fun j hj=>by rw [hk5 j (by omega),hk4 j (by omega),hal3.same j (by omega),g.same j hj]⟩
   have hg15:hp5.get es.nx=_:=(hk5 es.nx (by omega)).trans ((hk4 es.nx (by omega)).trans ((hal3.same es.nx (by omega)).trans hg))
   obtain ⟨⟨_,_,f2⟩,_,_,l2,lA⟩:=Aa4 hg5
   have q3':=q3.mono (q:=Bl (nx3+1)) fun j hj=>Nat.lt_of_lt_of_le hj.2 (by omega)
   simp only [bSa,↓bSb,f2,l2]
   refine kws (Bs1 k (nx3+1) _ _ _ f c3 x.cells (Nat.le_refl _) q3' (Az5 hc) (by omega) hf (fun e he=>(ho.e e he).1) fun hp6 nx6 hal6=>?_)
   have hle6:=hal6.le
   simp only [bSa,↓bSb]
   have g6:Al es.hp es.nx hp6 nx6:=⟨by omega,fun j hj=>by rw [hal6.same j (by omega),g5.same j hj]⟩
   refine EW.up x.cells.length (fun i es2=>Al hp6 nx6 es2.hp es2.nx∧rawE es2 (.t (.r (.r .o)))=.pt es.nx 0∧rawE es2 (.t (.r (.l (.r .o))))=.pt nx3 0∧rawE es2 (.t (.l (.r (.r .o))))=iv ((i+1:Nat))) ?_ ?_ (by omega)
   ·rintro i es2 hi2 ⟨g2,x6,x12,x13⟩
    unfold l59_2
    have hle2:=g2.le
    have e2:∀ j,j < nx3+1→es2.hp.get j=hp5.get j:=fun j hj=>by rw [g2.same j (by omega),hal6.same j hj]
    have hgA:=(e2 nx3 (by omega)).trans hg5
    have hgB:=(e2 es.nx (by omega)).trans hg15
    obtain ⟨⟨_,_,f2⟩,_,_,l2,lA⟩:=Aa4 hgA
    have v3:=q3'.keep (hp':=es2.hp) e2
    by_cases h6:i+1 < x.cells.length
    ·obtain ⟨p1,v1,rp1,rv1,_,_,lp1,_⟩:=cells_at v3 (show i < x.cells.length by omega)
     obtain ⟨p2,v2,rp2,rv2,_,_,lp2,_⟩:=cells_at v3 h6
     have hsub:binD .sub (.v (.int .i64 ((i+1:Nat):Int))) (.v (.int .i64 1))=some (.v (.int .i64 (i:Int))):=by rw [b_sub,wrap_in (by omega)]; congr 3; omega
     have hcmp:cmpL x.cells[i].pos x.cells[i+1].pos = -1:=Az5 hc i (i+1) (by omega) h6
     simp only [bSa,↓bSb,x12,x13,f2,l2,v3.len,h6,hsub,Aa1 (n0:=es2.nx) (m:=15) hgA (show nx3 < es2.nx by omega),Aa8 v3 h6,Aa8 v3 (show i < x.cells.length by omega),Ad2 (k:=0) v3 h6,Ad2 (k:=0) v3 (show i < x.cells.length by omega),lp1,lp2,v3.rox (show nx3+1≤es2.nx by omega),Ac8 v3 (show nx3+1≤es2.nx by omega),Ah0 v3 (show nx3+1≤es2.nx by omega),rp1.rox (show nx3+1≤es2.nx by omega),rp2.rox (show nx3+1≤es2.nx by omega)]
     refine Aa0 rfl (Aa7 ?_)
     simp only [bR,List.map_cons,List.map_nil]
     refine Ai6 (k+f+5) (nx3+1) _ _ _ p1 p2 _ _ (by omega) rp1 rp2 (ho.e _ (List.getElem_mem (show i < x.cells.length by omega))).1 ?_
     simp only [bSa,↓bSb,x6,x12,x13,show decide (cmpL x.cells[i].pos x.cells[i+1].pos=0)=false by simp [hcmp],Aa3 (show i+1 < _ by omega)]
     exact ⟨by omega,g2.nx (by omega)⟩
    ·simp only [bSa,↓bSb,x12,x13,f2,l2,v3.len,h6,lA]
     refine Ac0 (n:=3) (id:=es.nx) (ds:=[d3,a3,c3]) (by simp only [bR,x6]) hgB (by simp only [evt,bR]; exact AR.live (q1.keep (hp':=es2.hp) fun j hj=>e2 j (by have:=hj.2; omega)) (q2.keep (hp':=es2.hp) fun j hj=>e2 j (by have:=hj.2; omega)) (q3.keep (hp':=es2.hp) fun j hj=>e2 j (by have:=hj.2; omega))) rfl rfl fun hp7 hg7 hk7=>?_
     simp only [bR] at hg7 hk7
     simp only [bSa,↓bSb]
     have kp:∀ j,Bw es1.nx nx3 j→hp7.get j=hp5.get j:=fun j hj=>by rw [hk7 j (by have:=hj.1; omega),e2 j (by have:=hj.2; omega)]
     have up:∀ j,Bw es1.nx nx3 j→Bw es.nx es2.nx j:=fun j hj=>⟨by have:=hj.1; omega,by have:=hj.2; omega⟩
     refine ⟨_,_,Ak5 (by simp only [bR,bP,x6]) hg7 rfl,by rw [Ax3]; simp only [bR,bP,Aj0],hK _ _ _ ⟨by omega,fun j hj=>?_⟩ ⟨d3,a3,c3,rfl,(q1.keep kp).mono up,(q2.keep kp).mono up,(q3.keep kp).mono up⟩ (.of (how.keep fun j hj=>by have:=hcr j hj; rw [kp j this,hk5 j (by omega),hk4 j (by omega)]))⟩
     rw [hk7 j (by omega),e2 j (by omega),g5.same j hj]
   ·simp only [bSa,b6]
    rfl
 ·simp only [bSa,a0,a1,a2]
  exact ⟨ha2,by omega,hg2⟩
end
end Go.DD

/- Contracts: a round of the program's merge. Conditions: those that each theorem states. -/
namespace Go.DD
open Go Go.Proofs
section
variable (k:Nat) (hp:Tr DObj) (nx:Nat) (K:DV→Tr DObj→Nat→Prop)
end
end Go.DD

/- Contracts: the program's merge. Conditions: those that each theorem states. -/
namespace Go.DD
open Go Go.Proofs
section
variable (k n0:Nat) (hp:Tr DObj) (nx:Nat) (K:DV→Tr DObj→Nat→Prop)
end
end Go.DD

/- Contracts: the program's Merged. Conditions: those that each theorem states. -/
namespace Go.DD
open Go Go.Proofs
section
variable (k n0:Nat) (hp:Tr DObj) (nx:Nat) (K:DV→Tr DObj→Nat→Prop)
end
end Go.DD
