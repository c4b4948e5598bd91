/- Contracts: the reference's Put of a cell at a new place. Conditions: those that each theorem states. -/
import Derived.Test.YtnphfnhhpcelbaaGreatXr
import Derived.Test.YtnphfnhhpcelbaaGreatXe
import Derived.WalkKit
import Derived.ProofKit
import Derived.OpenShut
import Derived.ChangeSame
import Derived.Below
import Derived.Test.YtnphfnhhpcelbaaGreatRows
import Derived.ChangeSlices
import Derived.Carry
set_option linter.unusedSectionVars false
set_option linter.unusedVariables false
namespace Go.DD
open Go Go.Proofs Go.Sort
structure PutS (hp:Tr DObj) (nx:Nat) (d x y:DV) (es:ES):Prop where
 g:Al hp nx es.hp es.nx
 n:nx < es.nx
 c:es.hp.get nx=some (.row 39 [x,y])
 b0:rawE es (.t .o)=d
 b3:rawE es (.t (.l (.l .o)))=.pt nx 0
section
variable (k:Nat) (hp:Tr DObj) (nx:Nat) (K:DV→Tr DObj→Nat→Prop)
theorem Ci5 (P:Nat→Prop) (d x y:DV) (l:List PCell) (c:PCell) (hP:∀ j,P j→j < nx) (h1:RL rCell hp P d l) (h3:RL rInt hp P x c.pos) (h4:RL rVal hp P y c.vals) (hl:l.length < 900000) (hpos:∀ e∈l,e.pos.length < 900000) (hs:SortC l) (hne:∀ e∈l,e.pos≠c.pos)
  (hK:∀ hp' nx' z i,Al hp nx hp' nx'→i≤l.length→(∀ j,(h:j < l.length)→j < i→cmpL l[j].pos c.pos = -1)→(∀ j,(h:j < l.length)→i≤j→cmpL l[j].pos c.pos≠-1)→RL rCell hp' (fun j=>P j∨Bw nx nx' j) z (l.take i ++ [c] ++ l.drop i)→K z hp' nx'):KW (kN (k+4)) (.fn 137) [d,.agg [x,y]] hp nx K:=by
 refine kn_1 (Aa2 (by decide)) t137 (Nat.le_of_ble_eq_true rfl) fun es e1 e2 he=>?_
 have a0:rawE es (.t .o)=d:=he 0 _ rfl
 have a1:rawE es (.t (.l .o))=.agg [x,y]:=he 1 _ rfl
 unfold r137
 subst e1 e2
 have u1:=h1.mono (q:=Bl es.nx) hP
 have u3:=h3.mono (q:=Bl es.nx) hP
 refine EW.seq (PutS es.hp es.nx d x y) ?_ fun es1 ⟨g,gn,gc,b0,b3⟩=>?_
 ·simp only [↓bSb]
  refine Ab0 (cs:=[x,y]) (by rw [evt,a1]; exact Aq2 h3 h4) fun hp1 hg1 hk1=>?_
  simp only [bR] at hg1 hk1
  simp only [bSa,↓bSb]
  exact ⟨⟨by simp only []; omega,fun j hj=>by simp only []; exact hk1 j (by omega)⟩,by simp only []; omega,by simp only []; exact hg1,by simp only [bR,a0],by simp only [bR]⟩
 refine EW.seq (fun es2=>PutS es.hp es.nx d x y es2∧∃ i,At es2 (.t (.l (.r .o))) (iv (i:Nat))∧i≤l.length∧(∀ j,(h:j < l.length)→j < i→cmpL l[j].pos c.pos = -1)∧∀ j,(h:j < l.length)→i≤j→cmpL l[j].pos c.pos≠-1) ?_ fun es2 ⟨⟨g,gn,gc,b0,b3⟩,i,⟨b5⟩,hil,hlo,hhi⟩=>?_
 ·obtain ⟨⟨f0,_⟩,l0,_,_⟩:=Ac6 gc
  simp only [bSa,↓bSb,b0,b3,f0,l0]
  refine kws (Bg1 (k+1) es.nx _ _ _ d x l c.pos g.le (u1.ka (Nat.le_refl _) g) (u3.ka (Nat.le_refl _) g) hl hpos hs fun i nx2 hle2 hil hlo hhi=>?_)
  simp only [bSa,↓bSb]
  exact ⟨⟨by simpa only [bR] using g.nx hle2,by simp only []; omega,by simpa only [bR] using gc,by simp only [bR,b0],by simp only [bR,b3]⟩,i,⟨by simp only [bR]⟩,hil,hlo,hhi⟩
 refine EW.seq (fun es3=>PutS es.hp es.nx d x y es3∧At es3 (.t (.l (.r .o))) (iv (i:Nat))) ?_ fun es3 ⟨⟨g,gn,gc,b0,b3⟩,⟨b5⟩⟩=>?_
 ·have r:=(u1.ka (Nat.le_refl _) g)
  have rx:=(u3.ka (Nat.le_refl _) g)
  obtain ⟨⟨f0,_⟩,l0,_,_⟩:=Ac6 gc
  have hle:=g.le
  by_cases h:i < l.length
  ·obtain ⟨pA,vA,rA,_,_,_,lA,_⟩:=cells_at r h
   have hc:¬ cmpL l[i].pos c.pos=0:=fun e=>hne _ (List.getElem_mem h) (cmpL_0.1 e)
   simp only [bSa,↓bSb,b0,b3,b5,f0,l0,r.len,h,Aa8 r h,Ad2 (k:=0) r h,lA,Aa1 (n0:=es2.nx) (m:=15) gc (show es.nx < es2.nx by omega),r.rox (m:=15) hle,Ac8 (m:=15) r hle,Ah0 (m:=15) r hle,rA.rox (m:=15) hle,rx.rox (m:=15) hle]
   refine Aa0 rfl (Aa7 ?_)
   simp only [bR,List.map_cons,List.map_nil]
   refine Al2 (k+2) es.nx _ _ _ pA x l[i].pos c.pos (by omega) rA rx (hpos _ (List.getElem_mem h)) fun nx3 hle3=>?_
   simp only [bSa,↓bSb,decide_eq_false hc,hle3]
   exact ⟨⟨by simpa only [bR] using g.nx (by omega),by simp only []; omega,by simpa only [bR] using gc,by simp only [bR,b0],by simp only [bR,b3]⟩,⟨by simp only [bR,b5]⟩⟩
  ·simp only [bSa,↓bSb,b0,b5,r.len,h,r.rox (m:=15) hle]
   exact ⟨⟨by simpa only [bR] using g.nx (by omega),by simp only []; omega,by simpa only [bR] using gc,by simp only [bR,b0],by simp only [bR,b3]⟩,⟨by simp only [bR,b5]⟩⟩
 have hle:=g.le
 have hP':∀ j,P j→j≠es.nx∧j < es3.nx:=fun j hj=>by have:=hP j hj; omega
 simp only [↓bSb]
 refine Ah5 (fl:=[]) rfl rfl fun hp3 hg3 hk3=>?_
 simp only [bR] at hg3 hk3
 have k3:∀ j,j < es3.nx→hp3.get j=es3.hp.get j:=fun j hj=>hk3 j (by omega)
 have r3:RL rCell hp3 P d l:=h1.keep fun j hj=>by rw [k3 j (hP' j hj).2,g.same j (hP j hj)]
 simp only [bSa,↓bSb,b0,b5]
 refine Al0 (R:=rCell) (a:=0) (z:=i) (d:=d) (by simp only [bR,bP]) r3 rfl rfl (fun n hn=>by simp only [Af8,n_ev,bR,bP]; rfl) (by omega) hil ?_
 have rs3:=r3.part (a:=0) (z:=i) (by omega) hil
 simp only [List.drop_zero,Nat.sub_zero] at rs3
 simp only [bSa,↓bSb]
 refine Ad7 (R:=rCell) (p:=P) (p2:=P) (d:=.ms es3.nx 0 0 rCell.e) (d2:=slD rCell.e 0 i d) (l:=[]) (m:=l.take i) (by simp only [bR,bP]; rfl) (.ms es3.nx [] [] hg3 rfl) (by simp only [n_ev,bR,bP]; exact rs3.live) (rs3.srcD (es:=⟨_,hp3,_⟩)) rfl rfl (by rw [List.length_take]; simp; omega) (by decide) fun hp4 hk4 h4'=>?_
 simp only [bR,List.nil_append] at hk4 h4'
 have k4:∀ j,j < es3.nx→hp4.get j=es3.hp.get j:=fun j hj=>by rw [hk4 j (by omega) fun h=>by (have:j=es3.nx:=by simpa [DV.refs] using h); omega,k3 j hj]
 have o4:=h4' P fun j hj=>by
  have h:=hj.elim id id
  have:=hP' j h
  exact ⟨h,by omega,fun h=>by (have:j=es3.nx:=by simpa [DV.refs] using h); omega⟩
 have gC4:hp4.get es.nx=_:=(k4 es.nx gn).trans gc
 obtain ⟨_,_,_,lC4⟩:=Ac6 gC4
 have e4:∀ j,P j→hp4.get j=es.hp.get j:=fun j hj=>by rw [k4 j (hP' j hj).2,g.same j (hP j hj)]
 have rx4:=h3.keep e4
 have ry4:=h4.keep e4
 simp only [bSa,↓bSb,b3,lC4]
 refine Ah5 (fl:=[x,y]) rfl (by simp only [List.map_cons,List.map_nil,n_ev,bR,bP,Aa5 rx4 ry4]; rfl) fun hp5 hg5 hk5=>?_
 simp only [bR] at hg5 hk5
 have e5:∀ j,P j→hp5.get j=hp4.get j:=fun j hj=>hk5 j (by have:=hP' j hj; omega)
 have o5:=o4.keep (hp':=hp5) fun j hj=>hk5 j (hj.elim (fun h=>by have:=hP' j h; omega) fun h=>by (have:j=es3.nx+1:=by simpa [DV.refs] using h); omega)
 simp only [bSa,↓bSb]
 refine Ad7 (R:=rCell) (p:=P) (p2:=P) (d:=.ms (es3.nx+1) 0 (l.take i).length rCell.e) (d2:=.ms (es3.nx+1+1) 0 1 2) (l:=l.take i) (m:=[c]) (by simp only [bR,bP]) o5 (by simp only [n_ev,bR,bP]; exact Ah4 hg5) (Aw6 (R:=rCell) (x:=c) hg5 (rCell_rd.2 ⟨x,y,rfl,rx4.keep e5,ry4.keep e5⟩)) rfl rfl (by rw [List.length_take,List.length_singleton]; omega) (by decide) fun hp6 hk6 h6'=>?_
 simp only [bR] at hk6 h6'
 have k6:∀ j,j < es3.nx→hp6.get j=es3.hp.get j:=fun j hj=>by rw [hk6 j (by omega) fun h=>by (have:j=es3.nx+1:=by simpa [DV.refs] using h); omega,hk5 j (by omega),k4 j hj]
 have o6:=h6' P fun j hj=>by
  have h:=hj.elim id id
  have:=hP' j h
  exact ⟨h,by omega,fun h=>by (have:j=es3.nx+1:=by simpa [DV.refs] using h); omega⟩
 have r6:RL rCell hp6 P d l:=h1.keep fun j hj=>by rw [k6 j (hP' j hj).2,g.same j (hP j hj)]
 simp only [bSa,↓bSb,b0,b5]
 refine Al0 (R:=rCell) (a:=i) (z:=l.length) (d:=d) (by simp only [bR,bP]) r6 rfl (by simp only [Af8,n_ev,bR,bP]; rfl) (fun n hn=>by rw [Ak1,hn]) hil (Nat.le_refl _) ?_
 have rs6:=r6.part (a:=i) (z:=l.length) hil (Nat.le_refl _)
 rw [List.take_of_length_le (by rw [List.length_drop]; omega)] at rs6
 simp only [bSa,↓bSb]
 refine Ad7 (R:=rCell) (p:=P) (p2:=P) (d:=.ms (es3.nx+1+1+1) 0 (l.take i ++ [c]).length rCell.e) (d2:=slD rCell.e i l.length d) (l:=l.take i ++ [c]) (m:=l.drop i) (by simp only [bR,bP]) o6 (by simp only [n_ev,bR,bP]; exact rs6.live) (rs6.srcD (es:=⟨_,hp6,_⟩)) rfl rfl (by simp only [List.length_append,List.length_take,List.length_drop,List.length_singleton]; omega) (by decide) fun hp7 hk7 h7'=>?_
 simp only [bR] at hk7 h7'
 have o7:=h7' P fun j hj=>by
  have h:=hj.elim id id
  have:=hP' j h
  exact ⟨h,by omega,fun h=>by (have:j=es3.nx+1+1+1:=by simpa [DV.refs] using h); omega⟩
 have r7:RL rCell hp7 (fun j=>P j∨Bw es.nx (es3.nx+1+1+1+1+1) j) (.ms (es3.nx+1+1+1+1) 0 (l.take i ++ [c] ++ l.drop i).length rCell.e) (l.take i ++ [c] ++ l.drop i):=o7.rl.mono fun j hj=>by
  rcases hj with hj | hj
  ·exact .inl hj
  ·have:j=es3.nx+1+1+1+1:=by simpa [DV.refs] using hj
   exact .inr ⟨by omega,by omega⟩
 simp only [bSa,↓bSb,bP,r7.live]
 exact hK _ _ _ i ⟨by omega,fun j hj=>by rw [hk7 j (by omega) fun h=>by (have:j=es3.nx+1+1+1:=by simpa [DV.refs] using h); omega,k6 j (by omega),g.same j hj]⟩ hil hlo hhi r7
end
end Go.DD

/- Contracts: the reference's With. Conditions: those that each theorem states. -/
namespace Go.DD
open Go Go.Proofs Go.Sort
structure WithR (cs:List PCell) (p:List Int) (v:List PVal) (r:List PCell):Prop where
 s:SrtL r
 n:r.length≤cs.length+1
 m:∀ e,e∈r↔(e∈cs∧e.pos≠p)∨(v≠[]∧e=⟨p,v⟩)
theorem Bg9 {cs:List PCell} (h:SrtL cs):SortC cs:=fun i j hij hj=>List.pairwise_iff_getElem.1 h i j (by omega) hj hij
theorem B23 {cs:List PCell} (hs:SrtL cs) {i:Nat} (hi:i < cs.length):SrtL (cs.take i ++ cs.drop (i+1))∧∀ e,e∈cs.take i ++ cs.drop (i+1)↔e∈cs∧e.pos≠cs[i].pos:=by
 have hp:=List.pairwise_iff_getElem.1 hs
 refine ⟨hs.sublist ?_,fun e=>?_⟩
 ·have h1:cs=cs.take i ++ cs.drop i:=(List.take_append_drop i cs).symm
  conv=>rhs; rw [h1]
  refine List.Sublist.append (List.Sublist.refl _) ?_
  rw [List.drop_eq_getElem_cons hi]
  exact List.sublist_cons_self _ _
 ·rw [List.mem_append]
  constructor
  ·rintro (h | h)
   ·obtain ⟨t,ht,rfl⟩:=List.getElem_of_mem h
    rw [List.getElem_take]
    have ht':t < i∧t < cs.length:=by rw [List.length_take] at ht; omega
    refine ⟨List.getElem_mem _,fun he=>?_⟩
    have:=hp t i ht'.2 hi ht'.1
    rw [he,Ab9] at this
    cases this
   ·obtain ⟨t,ht,rfl⟩:=List.getElem_of_mem h
    rw [List.getElem_drop]
    have ht':i+1+t < cs.length:=by rw [List.length_drop] at ht; omega
    refine ⟨List.getElem_mem _,fun he=>?_⟩
    have:=hp i (i+1+t) hi ht' (by omega)
    rw [he,Ab9] at this
    cases this
  ·rintro ⟨h,hne⟩
   obtain ⟨t,ht,rfl⟩:=List.getElem_of_mem h
   rcases Nat.lt_trichotomy t i with h1 | h1 | h1
   ·refine .inl ?_
    have:cs[t]=(cs.take i)[t]'(by rw [List.length_take]; omega):=by rw [List.getElem_take]
    rw [this]; exact List.getElem_mem _
   ·subst h1; exact absurd rfl hne
   ·refine .inr ?_
    have:cs[t]=(cs.drop (i+1))[t - (i+1)]'(by rw [List.length_drop]; omega):=by rw [List.getElem_drop]; congr 1; omega
    rw [this]; exact List.getElem_mem _
theorem Ci6 {cs:List PCell} (hs:SrtL cs) {c:PCell} {i:Nat} (hne:∀ e∈cs,e.pos≠c.pos) (hlo:∀ j,(h:j < cs.length)→j < i→cmpL cs[j].pos c.pos = -1) (hhi:∀ j,(h:j < cs.length)→i≤j→cmpL cs[j].pos c.pos≠-1):SrtL (cs.take i ++ [c] ++ cs.drop i)∧∀ e,e∈cs.take i ++ [c] ++ cs.drop i↔e∈cs∨e=c:=by
 have hlo':∀ e∈cs.take i,cmpL e.pos c.pos = -1:=fun e he=>by
  obtain ⟨t,ht,rfl⟩:=List.getElem_of_mem he
  rw [List.getElem_take]
  have ht':t < i∧t < cs.length:=by rw [List.length_take] at ht; omega
  exact hlo t ht'.2 ht'.1
 have hhi':∀ e∈cs.drop i,cmpL c.pos e.pos = -1:=fun e he=>by
  obtain ⟨t,ht,rfl⟩:=List.getElem_of_mem he
  rw [List.getElem_drop]
  have ht':i+t < cs.length:=by rw [List.length_drop] at ht; omega
  have h1:=hhi (i+t) ht' (by omega)
  have h2:=hne _ (List.getElem_mem ht')
  have h3:=Ai3 cs[i+t].pos c.pos
  rcases Ac1 cs[i+t].pos c.pos with h4 | h4 | h4
  ·exact absurd h4 h1
  ·exact absurd (cmpL_0.1 h4) h2
  ·omega
 refine ⟨?_,fun e=>?_⟩
 ·refine List.pairwise_append.2 ⟨List.pairwise_append.2 ⟨hs.sublist (List.take_sublist _ _),List.pairwise_singleton _ _,fun a ha b hb=>?_⟩,hs.sublist (List.drop_sublist _ _),fun a ha b hb=>?_⟩
  ·have:b=c:=by simpa using hb
   rw [this]; exact hlo' a ha
  ·rcases List.mem_append.1 ha with h | h
   ·exact Ad4 (hlo' a h) (hhi' b hb)
   ·have:a=c:=by simpa using h
    rw [this]; exact hhi' b hb
 ·rw [List.mem_append,List.mem_append,List.mem_singleton]
  constructor
  ·rintro ((h | h) | h)
   ·exact .inl (List.mem_of_mem_take h)
   ·exact .inr h
   ·exact .inl (List.mem_of_mem_drop h)
  ·rintro (h | h)
   ·have h1:cs=cs.take i ++ cs.drop i:=(List.take_append_drop i cs).symm
    rw [h1] at h
    rcases List.mem_append.1 h with h | h
    ·exact .inl (.inl h)
    ·exact .inr h
   ·exact .inl (.inr h)
end Go.DD

/- Contracts: the reference's With. Conditions: those that each theorem states. -/
namespace Go.DD
open Go Go.Proofs Go.Sort
structure WB (P:Nat→Prop) (hp:Tr DObj) (nx:Nat) (d a pd vd:DV) (r:List PCell) (es:ES):Prop where
 g:Al hp nx es.hp es.nx
 n:nx+2≤es.nx
 b:∃ z,es.hp.get nx=some (.row 26 [d,a,z])∧RL rCell es.hp (fun j=>P j∨(nx+2≤j∧j < es.nx)) z r
 o:es.hp.get (nx+1)=some (.row 26 [.v (.slice none 0 0),.v (.slice none 0 0),.v (.slice none 0 0)])
 b1:rawE es (.t (.l .o))=pd
 b2:rawE es (.t (.r .o))=vd
 b3:rawE es (.t (.l (.l .o)))=.pt nx 0
 b6:rawE es (.t (.r (.r .o)))=.pt (nx+1) 0
section
variable (k:Nat) (hp:Tr DObj) (nx:Nat) (K:DV→Tr DObj→Nat→Prop)
theorem B24 (P:Nat→Prop) (d a cc pd vd:DV) (x:PArr) (p:List Int) (v:List PVal) (hP:∀ j,P j→j < nx) (r1:RL rDim hp P d x.dims) (r2:RL rAttr hp P a x.attrs) (r3:RL rCell hp P cc x.cells) (h3:RL rInt hp (Bl nx) pd p) (h4:RL rVal hp (Bl nx) vd v) (hX:AOK x) (hp0:p.length < 900000) (hv00:v.length < 900000) (hs:SrtL x.cells)
  (hK:∀ hp' nx' d' r,Al hp nx hp' nx'→AR hp' (fun j=>P j∨Bw nx nx' j) d' ⟨x.dims,x.attrs,r⟩→WithR x.cells p v r→K d' hp' nx'):KW (kN (k+5)) (.fn 63) [.agg [d,a,cc],pd,vd] hp nx K:=by
 refine kn_r1 (Aa2 (by decide)) t63 (Nat.le_of_ble_eq_true rfl) fun es e1 e2 he=>?_
 have a0:rawE es (.t .o)=.agg [d,a,cc]:=he 0 _ rfl
 have a1:rawE es (.t (.l .o))=pd:=he 1 _ rfl
 have a2:rawE es (.t (.r .o))=vd:=he 2 _ rfl
 unfold r63
 subst e1 e2
 have hQ:∀ n j,P j∨(es.nx+2≤j∧j < n)→j < es.nx∨(es.nx+2≤j∧j < n):=fun n j hj=>hj.imp (hP j) id
 refine EW.seq (fun es1=>WB P es.hp es.nx d a pd vd x.cells es1) ?_ fun es1 ⟨g,gn,⟨z,gz,rz⟩,go,b1,b2,b3,b6⟩=>?_
 ·simp only [↓bSb]
  refine Ab0 (cs:=[d,a,cc]) (by rw [evt,a0]; exact AR.live r1 r2 r3) fun hp1 hg1 hk1=>?_
  simp only [bR] at hg1 hk1
  simp only [bSa,↓bSb]
  refine Ac5 fun hp2 hg2 hk2=>?_
  simp only [bR] at hg2 hk2
  simp only [bSa,↓bSb]
  exact ⟨⟨by simp only []; omega,fun j hj=>by simp only []; rw [hk2 j (by omega),hk1 j (by omega)]⟩,by simp only []; omega,⟨cc,by simp only []; rw [hk2 _ (by omega)]; exact hg1,by simp only []; exact ((r3.keep fun j hj=>hk1 j (by have:=hP j hj; omega)).keep fun j hj=>hk2 j (by have:=hP j hj; omega)).mono fun j hj=>.inl hj⟩,by simp only []; exact hg2,by simp only [bR,a1],by simp only [bR,a2],by simp only [bR],by simp only [bR]⟩
 have upd:∀ {hp':Tr DObj} {nx':Nat},Al es.hp es.nx hp' nx'→RL rInt hp' (Bl es.nx) pd p:=fun h=>h3.ka (Nat.le_refl _) h
 refine EW.seq (fun es2=>WB P es.hp es.nx d a pd vd x.cells es2∧((At es2 (.t (.l (.l (.l .o)))) (iv (-1))∧∀ e∈x.cells,e.pos≠p)∨∃ i,∃ h:i < x.cells.length,x.cells[i].pos=p∧At es2 (.t (.l (.l (.l .o)))) (iv (i:Nat)))) ?_ fun es2 ⟨⟨g,gn,⟨z,gz,rz⟩,go,b1,b2,b3,b6⟩,hL⟩=>?_
 ·obtain ⟨⟨F0,F1,F2⟩,L0,L1,L2,_⟩:=Aa4 gz
  have hle:=g.le
  have rz':RL rCell es1.hp (Bl es1.nx) z x.cells:=rz.mono fun j hj=>by show j < es1.nx; have:=hQ _ j hj; omega
  simp only [bSa,↓bSb,b1,b3,F2,L2]
  refine kws (Br4 (k+1) es1.nx _ _ _ z pd x.cells p (Nat.le_refl _) rz' ((upd g).bl (by omega)) hX.c (fun c hc=>(hX.e c hc).1) (Bg9 hs) (fun nx3 hle3 hno=>?_) fun i nx3 hle3 hi hip=>?_)
  ·simp only [bSa,↓bSb]
   exact ⟨⟨by simpa only [bR] using g.nx hle3,by simp only []; omega,⟨z,by simpa only [bR] using gz,by simp only []; exact rz.mono fun j hj=>hj.imp id fun h=>⟨h.1,by omega⟩⟩,by simpa only [bR] using go,by simp only [bR,b1],by simp only [bR,b2],by simp only [bR,b3],by simp only [bR,b6]⟩,.inl ⟨⟨by simp only [bR]⟩,fun e he=>by
    obtain ⟨t,ht,rfl⟩:=List.getElem_of_mem he
    exact hno t ht⟩⟩
  ·simp only [bSa,↓bSb]
   exact ⟨⟨by simpa only [bR] using g.nx hle3,by simp only []; omega,⟨z,by simpa only [bR] using gz,by simp only []; exact rz.mono fun j hj=>hj.imp id fun h=>⟨h.1,by omega⟩⟩,by simpa only [bR] using go,by simp only [bR,b1],by simp only [bR,b2],by simp only [bR,b3],by simp only [bR,b6]⟩,.inr ⟨i,hi,hip,⟨by simp only [bR]⟩⟩⟩
 refine EW.seq (fun es3=>∃ r,SrtL r∧r.length≤x.cells.length∧(∀ e,e∈r↔e∈x.cells∧e.pos≠p)∧WB P es.hp es.nx d a pd vd r es3) ?_ fun es3 ⟨r,hrs,hrl,hrm,⟨g,gn,⟨z,gz,rz⟩,go,b1,b2,b3,b6⟩⟩=>?_
 ·have hle:=g.le
  rcases hL with ⟨⟨b7⟩,hno⟩ | ⟨i,hi,hip,⟨b7⟩⟩
  ·simp only [bSa,↓bSb,b7,show decide ((0:Int)≤-1)=false from rfl]
   exact ⟨x.cells,hs,Nat.le_refl _,fun e=>⟨fun h=>⟨h,hno e h⟩,fun h=>h.1⟩,⟨by simpa only [bR] using g,by simpa only [bR] using gn,⟨z,by simpa only [bR] using gz,by simpa only [bR] using rz⟩,by simpa only [bR] using go,by simp only [bR,b1],by simp only [bR,b2],by simp only [bR,b3],by simp only [bR,b6]⟩⟩
  ·simp only [bSa,↓bSb,b7,show decide ((0:Int)≤(i:Int))=true from decide_eq_true (by omega)]
   refine Ah5 (fl:=[]) rfl rfl fun hp3 hg3 hk3=>?_
   simp only [bR] at hg3 hk3
   have gz3:=(hk3 es.nx (by omega)).trans gz
   obtain ⟨⟨F0,F1,F2⟩,L0,L1,L2,_⟩:=Aa4 gz3
   have q3:=rz.keep (hp':=hp3) fun j hj=>hk3 j (by have:=hQ _ j hj; omega)
   simp only [bSa,↓bSb,b3,b7,F2,L2]
   refine Al0 (R:=rCell) (a:=0) (z:=i) (d:=z) (by simp only [bR,bP]) q3 rfl rfl (fun n hn=>by simp only [Af8,n_ev,bR,bP]; rfl) (by omega) (by omega) ?_
   have rs3:=q3.part (a:=0) (z:=i) (by omega) (by omega)
   simp only [List.drop_zero,Nat.sub_zero] at rs3
   simp only [bSa,↓bSb]
   refine Ad7 (R:=rCell) (p:=P) (p2:=fun j=>P j∨(es.nx+2≤j∧j < es2.nx)) (d:=.ms es2.nx 0 0 rCell.e) (d2:=slD rCell.e 0 i z) (l:=[]) (m:=x.cells.take i) (by simp only [bR,bP]; rfl) (.ms es2.nx [] [] hg3 rfl) (by simp only [n_ev,bR,bP]; exact rs3.live) (rs3.srcD (es:=⟨_,hp3,_⟩)) rfl rfl (by rw [List.length_take]; have:=hX.c; simp; omega) (by decide) fun hp4 hk4 h4'=>?_
   simp only [bR,List.nil_append] at hk4 h4'
   have k4:∀ j,j < es2.nx→hp4.get j=es2.hp.get j:=fun j hj=>by rw [hk4 j (by omega) fun h=>by (have:j=es2.nx:=by simpa [DV.refs] using h); omega,hk3 j (by omega)]
   have o4:=h4' (fun j=>P j∨(es.nx+2≤j∧j < es2.nx)) fun j hj=>by
    have hj:P j∨(es.nx+2≤j∧j < es2.nx):=hj.elim .inl id
    have h0:=hQ _ j hj
    exact ⟨hj,by omega,fun h=>by (have:j=es2.nx:=by simpa [DV.refs] using h); omega⟩
   have gz4:=(k4 es.nx (by omega)).trans gz
   obtain ⟨⟨G0,G1,G2⟩,M0,M1,M2,_⟩:=Aa4 gz4
   have q4:=rz.keep (hp':=hp4) fun j hj=>k4 j (by have:=hQ _ j hj; omega)
   simp only [bSa,↓bSb,b3,b7,G2,M2,Aa3 (show i < _ by have:=hX.c; omega)]
   refine Al0 (R:=rCell) (a:=i+1) (z:=x.cells.length) (d:=z) (by simp only [bR,bP]) q4 rfl (by simp only [Af8,n_ev,bR,bP]; rfl) (fun n hn=>by rw [Ak1,hn]) (by omega) (Nat.le_refl _) ?_
   have rs4:=q4.part (a:=i+1) (z:=x.cells.length) (by omega) (Nat.le_refl _)
   rw [List.take_of_length_le (by rw [List.length_drop]; omega)] at rs4
   simp only [bSa,↓bSb]
   refine Ad7 (R:=rCell) (p:=fun j=>P j∨(es.nx+2≤j∧j < es2.nx)) (p2:=fun j=>P j∨(es.nx+2≤j∧j < es2.nx)) (d:=.ms (es2.nx+1) 0 (x.cells.take i).length rCell.e) (d2:=slD rCell.e (i+1) x.cells.length z) (l:=x.cells.take i) (m:=x.cells.drop (i+1)) (by simp only [bR,bP]) o4 (by simp only [n_ev,bR,bP]; exact rs4.live) (rs4.srcD (es:=⟨_,hp4,_⟩)) rfl rfl (by rw [List.length_take,List.length_drop]; have:=hX.c; omega) (by decide) fun hp5 hk5 h5'=>?_
   simp only [bR] at hk5 h5'
   have o5:=h5' (fun j=>P j∨(es.nx+2≤j∧j < es2.nx)) fun j hj=>by
    have hj:P j∨(es.nx+2≤j∧j < es2.nx):=hj.elim id id
    have h0:=hQ _ j hj
    exact ⟨hj,by omega,fun h=>by (have:j=es2.nx+1:=by simpa [DV.refs] using h); omega⟩
   have k5:∀ j,j < es2.nx→hp5.get j=es2.hp.get j:=fun j hj=>by rw [hk5 j (by omega) fun h=>by (have:j=es2.nx+1:=by simpa [DV.refs] using h); omega,k4 j hj]
   have gz5:=(k5 es.nx (by omega)).trans gz
   obtain ⟨⟨H0,H1,H2⟩,_,_,_,_⟩:=Aa4 gz5
   obtain ⟨_,_,flN,hgN,_⟩:=o5.get
   simp only [bSa,↓bSb,b3,H2]
   refine Am8 (id:=es.nx) (off:=2) (by simp only [bR]) gz5 (by simp only [evt,bR,reduceCtorEq]; exact Ah4 hgN) (ok_ms _ _ _ _) (by simp) fun hp6 hg6 hk6=>?_
   simp only [bR] at hg6 hk6
   simp only [bSa,↓bSb]
   obtain ⟨w1,w2⟩:=B23 hs hi
   rw [hip] at w2
   have o6:RL rCell hp6 (fun j=>P j∨(es.nx+2≤j∧j < es2.nx+1+1+1)) (.ms (es2.nx+1+1) 0 (x.cells.take i ++ x.cells.drop (i+1)).length rCell.e) (x.cells.take i ++ x.cells.drop (i+1)):=(o5.keep (hp':=hp6) fun j hj=>hk6 j (hj.elim (fun h=>by have:=hQ _ j h; omega) fun h=>by (have:j=es2.nx+1+1:=by simpa [DV.refs] using h); omega)).rl.mono fun j hj=>by
    rcases hj with hj | hj
    ·exact hj.imp id fun h=>⟨h.1,by omega⟩
    ·have:j=es2.nx+1+1:=by simpa [DV.refs] using hj
     exact .inr ⟨by omega,by omega⟩
   exact ⟨_,w1,by rw [List.length_append,List.length_take,List.length_drop]; omega,w2,⟨⟨by simp only []; omega,fun j hj=>by simp only []; rw [hk6 j (by omega),k5 j (by omega),g.same j hj]⟩,by simp only []; omega,⟨_,by simp only []; exact hg6,by simp only []; exact o6⟩,by simp only []; rw [hk6 _ (by omega),k5 _ (by omega)]; exact go,by simp only [bR,b1],by simp only [bR,b2],by simp only [bR,b3],by simp only [bR,b6]⟩⟩
 have hle:=g.le
 have hg:∀ j,P j→es3.hp.get j=es.hp.get j:=fun j hj=>g.same j (hP j hj)
 refine EW.seq (fun es4=>∃ r',WithR x.cells p v r'∧WB P es.hp es.nx d a pd vd r' es4) ?_ fun es4 ⟨r',hw,⟨g,gn,⟨z,gz,rz⟩,go,b1,b2,b3,b6⟩⟩=>?_
 ·have h43:=h4.ka (Nat.le_refl _) g
  by_cases hv:v=[]
  ·have hv0:v.length=0:=by rw [hv]; rfl
   simp only [bSa,↓bSb,b2,h43.len,show decide ((0:Int) < (v.length:Int))=false from decide_eq_false (by omega)]
   exact ⟨r,⟨hrs,by omega,fun e=>by rw [hrm e]; simp [hv]⟩,⟨by simpa only [bR] using g,by simpa only [bR] using gn,⟨z,by simpa only [bR] using gz,by simpa only [bR] using rz⟩,by simpa only [bR] using go,by simp only [bR,b1],by simp only [bR,b2],by simp only [bR,b3],by simp only [bR,b6]⟩⟩
  ·have hv0:0 < v.length:=List.length_pos_iff.2 hv
   have h33:=h3.ka (Nat.le_refl _) g
   have u3:RL rInt es3.hp (Bl es3.nx) pd p:=h33.mono fun j (hj:j < es.nx)=>by show j < es3.nx; omega
   have u4:RL rVal es3.hp (Bl es3.nx) vd v:=h43.mono fun j (hj:j < es.nx)=>by show j < es3.nx; omega
   obtain ⟨⟨F0,F1,F2⟩,L0,L1,L2,_⟩:=Aa4 gz
   simp only [bSa,↓bSb,bP,b1,b2,b3,h43.len,show decide ((0:Int) < (v.length:Int))=true from decide_eq_true (by omega),F2,L2,Aa1 (n0:=es3.nx) (m:=9) gz (show es.nx < es3.nx by omega),u3.rox (m:=9) (Nat.le_refl es3.nx),u4.rox (m:=9) (Nat.le_refl es3.nx),A67,h33.live,h43.live,Ax0 (z:=.slice none 0 0) (w:=.slice none 0 0) h33.ok h43.ok,Option.map_some]
   refine ⟨ro_pr (u3.rox (m:=9) (Nat.le_refl es3.nx)) (u4.rox (m:=9) (Nat.le_refl es3.nx)),?_⟩
   refine Aa0 rfl (Aa7 ?_)
   simp only [bR,List.map_cons,List.map_nil]
   refine Ax4 (k+3) es3.nx _ _ _ pd vd ⟨p,v⟩ (by omega) u3 u4 hp0 hv00 fun hp5 nx5 p' v' hal5 rp5 rv5=>?_
   have hle5:=hal5.le
   have gz5:=(hal5.same es.nx (by omega)).trans gz
   have rz5:=rz.keep (hp':=hp5) fun j hj=>hal5.same j (by have:=hQ _ j hj; omega)
   have roC:∀ an,Aa6 (.agg [p',v']) (fun id=>okRef es3.nx 9 an hp5 id):=fun an=>ro_pr (rp5.ro' (n:=es3.nx) (m:=9) fun j hj=>.inr hj.1) (rv5.ro' (n:=es3.nx) (m:=9) fun j hj=>.inr hj.1)
   have roZ:∀ an,Aa6 z (fun id=>okRef es3.nx 9 an hp5 id):=fun an=>rz5.ro' (n:=es3.nx) (m:=9) fun j hj=>.inl (by have:=hQ _ j hj; omega)
   simp only [bSa,↓bSb,hle5,iff_true_intro (roC _),iff_true_intro (roZ _)]
   refine Aa0 rfl (Aa7 ?_)
   simp only [bR,List.map_cons,List.map_nil]
   refine Ci5 k _ _ _ (fun j=>P j∨(es.nx+2≤j∧j < es3.nx)∨(es3.nx+9≤j∧j < nx5)) z p' v' r ⟨p,v⟩ (fun j hj=>by have:=hj.imp (hP j) id; omega) (rz5.mono fun j hj=>hj.imp id .inl) (rp5.mono fun j hj=>.inr (.inr hj)) (rv5.mono fun j hj=>.inr (.inr hj)) (by have:=hX.c; omega) (fun e he=>(hX.e e ((hrm e).1 he).1).1) (Bg9 hrs) (fun e he=>((hrm e).1 he).2) fun hp6 nx6 z6 i hal6 hi hlo hhi r6=>?_
   have hle6:=hal6.le
   have gz6:=(hal6.same es.nx (by omega)).trans gz5
   have ro6:∀ an,Aa6 z6 (fun id=>okRef es3.nx 9 an hp6 id):=fun an=>r6.ro' (n:=es3.nx) (m:=9) fun j hj=>by
    rcases hj with (hj | hj) | hj
    ·exact .inl (by have:=hP j hj; omega)
    ·omega
    ·exact .inr (by have:=hj.1; omega)
   obtain ⟨⟨_,_,G2⟩,_⟩:=Aa4 gz6
   simp only [bSa,↓bSb,hle6,iff_true_intro (ro6 _),Aa1 (n0:=es3.nx) (m:=9) gz6 (show es.nx < es3.nx by omega),b3,G2]
   refine Aa0 rfl (Am8 (id:=es.nx) (off:=2) (by simp only [bR]) gz6 (by simp only [evt,bR,reduceCtorEq]; exact r6.live) r6.ok (by simp) fun hp8 hg8 hk8=>?_)
   simp only [bR] at hg8 hk8
   simp only [bSa,↓bSb]
   have hsz:∀ q∈[d,a,z],Ab1 6 q q=true:=AR.same (p:=fun _=>True) (x:=⟨x.dims,x.attrs,r⟩) ((r1.keep hg).mono fun _ _=>trivial) ((r2.keep hg).mono fun _ _=>trivial) (rz.mono fun _ _=>trivial)
   obtain ⟨w1,w2⟩:=Ci6 hrs (c:=⟨p,v⟩) (fun e he=>((hrm e).1 he).2) hlo hhi
   have r8:RL rCell hp8 (fun j=>P j∨(es.nx+2≤j∧j < nx6)) z6 (r.take i ++ [⟨p,v⟩] ++ r.drop i):=(r6.keep (hp':=hp8) fun j hj=>hk8 j (by
    rcases hj with (hj | hj) | hj
    ·have:=hP j hj; omega
    ·omega
    ·have:=hj.1; omega)).mono fun j hj=>by
    rcases hj with (hj | hj) | hj
    ·exact .inl hj
    ·exact .inr ⟨by omega,by omega⟩
    ·exact .inr ⟨by have:=hj.1; omega,hj.2⟩
   refine ⟨Ai2 (fun j hj=>?_) (Ai2 (fun j hj=>?_) (Aw5 _ _ _)),_,⟨w1,by simp only [List.length_append,List.length_take,List.length_drop,List.length_singleton]; omega,fun e=>by rw [w2,hrm]; simp [hv]⟩,⟨⟨by simp only []; omega,fun j hj=>by simp only []; rw [hk8 j (by omega),hal6.same j (by omega),hal5.same j (by omega),g.same j hj]⟩,by simp only []; omega,⟨_,by simp only []; exact hg8,by simp only []; exact r8⟩,by simp only []; rw [hk8 _ (by omega),hal6.same _ (by omega),hal5.same _ (by omega)]; exact go,by simp only [bR,b1],by simp only [bR,b2],by simp only [bR,b3],by simp only [bR,b6]⟩⟩
   ·have hj:j=es.nx:=by simpa [DV.refs] using hj
    subst hj
    refine ⟨by omega,fun q hq'=>?_⟩
    simp only [List.mem_cons,List.not_mem_nil,or_false] at hq'
    rcases hq' with rfl | rfl | rfl
    ·exact .inl rfl
    ·exact .inl rfl
    ·exact .inr (.inr (by rw [if_pos rfl]; exact Aj1 gz (gz5.trans gz.symm) hsz))
   ·have hj:j=es.nx:=by simpa [DV.refs] using hj
    subst hj
    refine ⟨by omega,fun q hq'=>?_⟩
    simp only [List.mem_cons,List.not_mem_nil,or_false] at hq'
    rcases hq' with rfl | rfl | rfl
    ·exact .inl rfl
    ·exact .inl rfl
    ·refine .inr (.inr ?_)
     rw [if_neg (by simp)]
     show (((es3.hp.get es.nx).isSome) == ((hp5.get es.nx).isSome))=true
     rw [gz,gz5]; rfl
 have hle:=g.le
 obtain ⟨⟨F0,F1,F2⟩,L0,L1,L2,lA⟩:=Aa4 gz
 have q1:=r1.keep fun j hj=>g.same j (hP j hj)
 have q2:=r2.keep fun j hj=>g.same j (hP j hj)
 simp only [bSa,↓bSb,b3,lA]
 refine Ac0 (n:=3) (id:=es.nx+1) (ds:=[d,a,z]) (by simp only [bR,b6]) go (by simp only [evt,bR]; exact AR.live (x:=⟨x.dims,x.attrs,r'⟩) (q1.mono fun j hj=>.inl hj) (q2.mono fun j hj=>.inl hj) rz) rfl rfl fun hp7 hg7 hk7=>?_
 simp only [bR] at hg7 hk7
 simp only [bSa,↓bSb]
 exact ⟨_,Ak5 (by simp only [bR,bP,b6]) hg7 rfl,hK _ _ _ r' ⟨by omega,fun j hj=>by rw [hk7 j (by omega),g.same j hj]⟩ ⟨d,a,z,rfl,(q1.keep (hp':=hp7) fun j hj=>hk7 j (by have:=hP j hj; omega)).mono fun j hj=>.inl hj,(q2.keep (hp':=hp7) fun j hj=>hk7 j (by have:=hP j hj; omega)).mono fun j hj=>.inl hj,(rz.keep (hp':=hp7) fun j hj=>hk7 j (by have:=hQ _ j hj; omega)).mono fun j hj=>hj.imp id fun h=>⟨by omega,h.2⟩⟩ hw⟩
end
end Go.DD

/- Plain: the changes made one after the other are the changes laid over. -/
namespace Go.DD
open Go Go.Proofs Go.Sort
structure WithL (cs l:List PCell) (i:Nat) (r:List PCell):Prop where
 s:SrtL r
 n:r.length≤cs.length+i
 m:∀ e,e∈r↔(e∈cs∧∀ c∈l.take i,c.pos≠e.pos)∨(e∈l.take i∧e.vals≠[])
theorem WithL.zero {cs l:List PCell} (h:SrtL cs):WithL cs l 0 cs:=⟨h,Nat.le_refl _,fun e=>by simp⟩
theorem WithL.step {cs l r r':List PCell} {i:Nat} (h:WithL cs l i r) (hi:i < l.length) (hd:(l.map PCell.pos).Nodup) (hw:WithR r l[i].pos l[i].vals r'):WithL cs l (i+1) r':=by
 have hn:=List.pairwise_iff_getElem.1 (List.pairwise_map.1 hd)
 have ht:∀ c∈l.take i,c.pos≠l[i].pos:=fun c hc=>by
  obtain ⟨t,ht,rfl⟩:=List.getElem_of_mem hc
  rw [List.length_take] at ht
  rw [List.getElem_take]
  exact hn t i (by omega) hi (by omega)
 refine ⟨hw.s,by have:=hw.n; have:=h.n; omega,fun e=>?_⟩
 rw [hw.m,h.m,List.take_succ_eq_append_getElem hi]
 simp only [List.mem_append,List.mem_singleton]
 constructor
 ·rintro (⟨⟨h1,h2⟩ | ⟨h1,h2⟩,h3⟩ | ⟨h1,rfl⟩)
  ·exact .inl ⟨h1,fun c hc=>hc.elim (h2 c) fun hc=>by rw [hc]; exact Ne.symm h3⟩
  ·exact .inr ⟨.inl h1,h2⟩
  ·exact .inr ⟨.inr rfl,h1⟩
 ·rintro (⟨h1,h2⟩ | ⟨h1 | rfl,h2⟩)
  ·exact .inl ⟨.inl ⟨h1,fun c hc=>h2 c (.inl hc)⟩,Ne.symm (h2 _ (.inr rfl))⟩
  ·exact .inl ⟨.inr ⟨h1,h2⟩,ht e h1⟩
  ·exact .inr ⟨h2,rfl⟩
def RaR (x:PArr) (l:List PCell) (e:Int) (r:PArr):Prop:=
 (Ac3 x≠0∧e=2∧r=⟨[],[],[]⟩)∨(Ac3 x=0∧chgsE x.dims x.attrs l≠0∧e=chgsE x.dims x.attrs l∧r=⟨[],[],[]⟩)∨
 (Ac3 x=0∧chgsE x.dims x.attrs l=0∧¬ (l.map PCell.pos).Nodup∧e=5∧r=⟨[],[],[]⟩)∨
 (Ac3 x=0∧chgsE x.dims x.attrs l=0∧(l.map PCell.pos).Nodup∧e=0∧∃ c,WithL x.cells l l.length c∧r=⟨x.dims,x.attrs,c⟩)
theorem ap_ra {x r r':PArr} {l:List PCell} {e e':Int} (h:ApR x l e r) (h':RaR x l e' r'):e=e'∧r=r':=by
 rcases h with ⟨h1,h2,h3⟩ | ⟨h1,h0,h2,h3⟩ | ⟨h1,h0,hn,h2,h3⟩ | ⟨h1,h0,hn,h2,m,hm,hs,h3⟩ <;> rcases h' with ⟨g1,g2,g3⟩ | ⟨g1,g0,g2,g3⟩ | ⟨g1,g0,gn,g2,g3⟩ | ⟨g1,g0,gn,g2,c,gc,g3⟩
 all_goals first
  | exact absurd g1 h1
  | exact absurd h1 g1
  | exact absurd g0 h0
  | exact absurd h0 g0
  | exact absurd gn hn
  | exact absurd hn gn
  | exact ⟨h2.trans g2.symm,h3.trans g3.symm⟩
  | skip
 refine ⟨h2.trans g2.symm,?_⟩
 rw [h3,g3]
 have hx:=(Ae1 h1).1
 have:onF m x.cells=c:=Bg8 (A92 hs hx) gc.s fun e=>by
  rw [Bv5 hs hx,gc.m,List.take_length,hm.mem_iff]
  simp only [hm.mem_iff]
 rw [this]
end Go.DD

/- Contracts: the reference's Copy. Conditions: those that each theorem states. -/
namespace Go.DD
open Go Go.Proofs
section
variable (k n0:Nat) (hp:Tr DObj) (nx:Nat) (K:DV→Tr DObj→Nat→Prop)
theorem Bh0 (d a c:DV) (D:List PDim) (A:List PAttr) (C:List PCell) (hn:n0≤nx) (h1:RL rDim hp (Bl n0) d D) (h2:RL rAttr hp (Bl n0) a A) (h3:RL rCell hp (Bl n0) c C) (hDl:D.length < 900000) (hAl:A.length < 900000) (hCl:C.length < 900000)
  (hc:∀ e∈C,e.pos.length < 900000∧e.vals.length < 900000)
  (hK:∀ hp' nx' d',Al hp nx hp' nx'→AR hp' (Bw nx nx') d' ⟨D,A,C⟩→K d' hp' nx'):KW (kN (k+3)) (.fn 16) [.agg [d,a,c]] hp nx K:=by
 refine kn_r1 (Aa2 (by decide)) t16 (Nat.le_of_ble_eq_true rfl) fun es e1 e2 he=>?_
 have a0:rawE es (.t .o)=.agg [d,a,c]:=he 0 _ rfl
 unfold r16
 subst e1 e2
 simp only [↓bSb]
 refine Ab0 (cs:=[d,a,c]) (by rw [evt,a0]; exact AR.live (x:=⟨D,A,C⟩) h1 h2 h3) fun hp1 hg1 hk1=>?_
 simp only [bR] at hg1 hk1
 simp only [bSa,↓bSb]
 refine Ac5 fun hp2 hg2 hk2=>?_
 simp only [bR] at hg2 hk2
 have hal2:Al es.hp es.nx hp2 (es.nx+1+1):=⟨by omega,fun j hj=>by rw [hk2 j (by omega),hk1 j (by omega)]⟩
 have gA2:=(hk2 es.nx (by omega)).trans hg1
 obtain ⟨⟨f0,f1,f2⟩,l0,l1,l2,_⟩:=Aa4 gA2
 simp only [bSa,↓bSb,f0,f1,l0,l1]
 refine kws (B11 (k+1) n0 _ _ _ d a D A (by omega) (h1.ka hn hal2) (h2.ka hn hal2) hDl hAl fun hp3 nx3 d2 a3 hal3 hod hoa hrd hra=>?_)
 have hle3:=hal3.le
 have rd3:=(hod.rl).mono (q:=Bw (es.nx+1+1) nx3) fun j hj=>hj.elim False.elim (hrd j)
 have ra3:=(hoa.rl).mono (q:=Bw (es.nx+1+1) nx3) fun j hj=>hj.elim False.elim (hra j)
 simp only [bSa,↓bSb]
 refine Ac5 fun hp4 hg4 hk4=>?_
 simp only [bR] at hg4 hk4
 have rd4:=rd3.keep (hp':=hp4) fun j hj=>hk4 j (by have:=hj.2; omega)
 have ra4:=ra3.keep (hp':=hp4) fun j hj=>hk4 j (by have:=hj.2; omega)
 simp only [bSa,↓bSb]
 refine Ac0 (n:=3) (id:=nx3) (ds:=[d2,a3,nilS]) (by simp only [bR]) hg4 (by simp only [evt,bR,reduceCtorEq]; exact AR.live (x:=⟨D,A,[]⟩) rd4 ra4 .nil) rfl rfl fun hp5 hg5 hk5=>?_
 simp only [bR] at hg5 hk5
 have ha5:Al es.hp es.nx hp5 (nx3+1):=⟨by omega,fun j hj=>by rw [hk5 j (by omega),hk4 j (by omega),hal3.same j (by omega),hal2.same j hj]⟩
 have h35:∀ j,j < nx3→hp5.get j=hp3.get j:=fun j hj=>by rw [hk5 j (by omega),hk4 j (by omega)]
 have gA5:hp5.get es.nx=_:=(h35 _ (by omega)).trans ((hal3.same _ (by omega)).trans gA2)
 have gR5:hp5.get (es.nx+1)=_:=(h35 _ (by omega)).trans ((hal3.same _ (by omega)).trans hg2)
 simp only [bSa,↓bSb]
 refine EW.up C.length (fun i es1=>∃ z,Al es.hp es.nx es1.hp es1.nx∧nx3+1≤es1.nx∧(∀ j,j < nx3→es1.hp.get j=hp5.get j)∧es1.hp.get nx3=some (.row 26 [d2,a3,z])∧OL rCell es1.hp (fun j=>nx3 < j∧j < es1.nx∧j∉z.refs) z (C.take i)∧Rng (nx3+1) es1.nx z∧rawE es1 (.t (.l .o))=.pt es.nx 0∧rawE es1 (.t (.r .o))=.pt (es.nx+1) 0∧rawE es1 (.t (.l (.l .o)))=.pt nx3 0∧rawE es1 (.t (.r (.l .o)))=iv (i:Nat)) ?_ ?_ (by omega)
 ·rintro i es1 hi ⟨z,g,hge,hfr,hgz,ho,hrz,b1,b2,b3,b4⟩
  unfold l16_1
  have hle:=g.le
  have w1:=h3.ka hn g
  have gA1:=(hfr es.nx (by omega)).trans gA5
  obtain ⟨⟨_,_,f2⟩,_,_,l2,_⟩:=Aa4 gA1
  obtain ⟨⟨_,_,fz⟩,_,_,lz,lZ⟩:=Aa4 hgz
  have hzl:∀ j,(nx3 < j∧j < es1.nx∧j∉z.refs)∨j∈z.refs→nx3 < j∧j < es1.nx:=fun j hj=>by
   rcases hj with hj | hj
   ·exact ⟨hj.1,hj.2.1⟩
   ·have:=hrz j hj; exact ⟨by omega,this.2⟩
  by_cases h:i < C.length
  ·obtain ⟨pA,vA,rpA,rvA,ldA,_⟩:=cells_at w1 h
   have hpc:=hc _ (List.getElem_mem h)
   have roZ:∀ an,Aa6 z (fun id=>okRef es1.nx 12 an es1.hp id):=fun an=>ho.rl.ro' (n:=es1.nx) (m:=12) fun j hj=>.inl (by have:=(hzl j hj).2; omega)
   have hne:n0≤es1.nx:=by omega
   simp only [bSa,↓bSb,b1,b3,b4,h,f2,l2,fz,lz,w1.len,Aa8 w1 h,ldA,Aa1 (n0:=es1.nx) (m:=12) hgz (show nx3 < es1.nx by omega),Aa1 (n0:=es1.nx) (m:=12) gA1 (show es.nx < es1.nx by omega),w1.rox (m:=12) hne,Ac8 (m:=12) w1 hne]
   refine ⟨ro_pr (rpA.rox hne) (rvA.rox hne),?_⟩
   refine Aa0 rfl (Aa7 ?_)
   simp only [bR,List.map_cons,List.map_nil]
   refine Ax4 (k+1) n0 _ _ _ pA vA C[i] (by omega) rpA rvA hpc.1 hpc.2 fun hp8 nx8 p' v' hal8 rp8 rv8=>?_
   have hle8:=hal8.le
   have roAB:∀ an,Aa6 (.agg [p',v']) (fun id=>okRef es1.nx 12 an hp8 id):=fun an=>ro_pr (rp8.ro' (n:=es1.nx) (m:=12) fun j hj=>.inr hj.1) (rv8.ro' (n:=es1.nx) (m:=12) fun j hj=>.inr hj.1)
   have hgz8:=(hal8.same nx3 (by omega)).trans hgz
   have gA8:=(hal8.same es.nx (by omega)).trans gA1
   simp only [bSa,↓bSb,hle8,iff_true_intro (roAB _)]
   refine Ap9 (fl:=[p',v']) rfl (by simp only [List.map_cons,List.map_nil,n_ev,bR,bP,Aa5 rp8 rv8]; exact Br5 (z:=[.slice none 0 0,.slice none 0 0]) rfl) fun hp9 hg9 hk9=>?_
   simp only [bR] at hg9 hk9
   have k9:∀ j,j < es1.nx→hp9.get j=es1.hp.get j:=fun j hj=>by rw [hk9 j (by omega),hal8.same j (by omega)]
   have rp9:=rp8.keep (hp':=hp9) fun j hj=>hk9 j (by have:=hj.1; omega)
   have rv9:=rv8.keep (hp':=hp9) fun j hj=>hk9 j (by have:=hj.1; omega)
   have ho9:=ho.keep (hp':=hp9) fun j hj=>k9 j (hzl j hj).2
   have hgz9:=(k9 nx3 (by omega)).trans hgz
   have roZ9:∀ an,Aa6 z (fun id=>okRef es1.nx 12 an hp9 id):=fun an=>ho9.rl.ro' (n:=es1.nx) (m:=12) fun j hj=>.inl (by have:=(hzl j hj).2; omega)
   simp only [bSa,↓bSb,iff_true_intro (roZ9 _)]
   have hlen:(C.take i).length=i:=by rw [List.length_take]; omega
   refine ⟨Ak2 hg9 rfl,?_⟩
   refine Aa0 rfl (Ad7 (R:=rCell) (p:=fun j=>nx3 < j∧j < es1.nx∧j∉z.refs) (p2:=Bw (es1.nx+12) nx8) (d:=z) (d2:=.ms (es1.nx+8) 0 1 2) (l:=C.take i) (m:=[C[i]]) (by simp only [bR,bP]) ho9 (by simp only [n_ev,bR,bP]; exact Ah4 hg9) (Aw6 (R:=rCell) (x:=C[i]) hg9 (rCell_rd.2 ⟨p',v',rfl,rp9,rv9⟩)) rfl rfl (by rw [List.length_singleton]; omega) (by decide) fun hp10 hk10 h10=>?_)
   simp only [bR] at hk10 h10
   have hzn:∀ j∈z.refs,nx3 < j∧j < es1.nx:=fun j hj=>hzl j (.inr hj)
   have o10:=h10 (fun j=>nx3 < j∧j < nx8∧j∉z.refs) (fun j hj=>by
    rcases hj with hj | hj
    ·exact ⟨⟨hj.1,by omega,hj.2.2⟩,by omega,hj.2.2⟩
    ·have h1:=hj.1
     have h2:=hj.2
     exact ⟨⟨by omega,h2,fun h=>by have:=hzn j h; omega⟩,by omega,fun h=>by have:=hzn j h; omega⟩)
   have k10:∀ j,j≤nx3→hp10.get j=es1.hp.get j:=fun j hj=>by rw [hk10 j (by omega) (fun h=>by have:=hzn j h; omega),k9 j (by omega)]
   have hgz10:=(k10 nx3 (by omega)).trans hgz
   obtain ⟨⟨_,_,fz10⟩,_⟩:=Aa4 hgz10
   obtain ⟨_,_,flN,hgN,_⟩:=o10.get
   have roN:∀ an,okRef es1.nx 12 an hp10 nx8=true:=fun an=>(Af7 hp10 nx8).2 ⟨by rw [hgN]; rfl,.inr (.inl (by omega))⟩
   simp only [bSa,↓bSb,b3,fz10,Aa1 (n0:=es1.nx) (m:=12) hgz10 (show nx3 < es1.nx by omega),roN _,Nat.le_succ]
   refine Aa0 rfl (Am8 (id:=nx3) (off:=2) (by simp only [bR]) hgz10 (by simp only [evt,bR,reduceCtorEq]; exact Ah4 hgN) (ok_ms _ _ _ _) (by simp) fun hp11 hg11 hk11=>?_)
   simp only [bR] at hg11 hk11
   simp only [bSa,↓bSb,b1,b2,b3,b4,Aa3 (show i < _ by omega)]
   have hsz:∀ q∈[d2,a3,z],Ab1 6 q q=true:=AR.same (p:=fun _=>True) (x:=⟨D,A,C.take i⟩) ((rd4.keep (hp':=es1.hp) fun j hj=>by rw [hfr j (by have:=hj.2; omega),hk5 j (by have:=hj.2; omega)]).mono fun _ _=>trivial) ((ra4.keep (hp':=es1.hp) fun j hj=>by rw [hfr j (by have:=hj.2; omega),hk5 j (by have:=hj.2; omega)]).mono fun _ _=>trivial) (ho.rl.mono fun _ _=>trivial)
   refine ⟨Ai2 (fun j hj=>?_) (Ai2 (fun j hj=>?_) (Aw5 _ _ _)),h,.ms nx8 0 (C.take i ++ [C[i]]).length 2,⟨by omega,fun j hj=>?_⟩,by omega,fun j hj=>?_,hg11,?_,Rng.ms (by omega) (by omega)⟩
   ·have hj:j=nx3:=by simpa [DV.refs] using hj
    subst hj
    refine ⟨by omega,fun q hq'=>?_⟩
    simp only [List.mem_cons,List.not_mem_nil,or_false] at hq'
    rcases hq' with rfl | rfl | rfl
    ·exact .inl rfl
    ·exact .inl rfl
    ·exact .inr (.inr (by rw [if_pos rfl]; exact Aj1 hgz (hgz8.trans hgz.symm) hsz))
   ·have hj:j=nx3:=by simpa [DV.refs] using hj
    subst hj
    refine ⟨by omega,fun q hq'=>?_⟩
    simp only [List.mem_cons,List.not_mem_nil,or_false] at hq'
    rcases hq' with rfl | rfl | rfl
    ·exact .inl rfl
    ·exact .inl rfl
    ·refine .inr (.inr ?_)
     rw [if_neg (by simp)]
     show (((es1.hp.get j).isSome) == ((hp8.get j).isSome))=true
     rw [hgz,hgz8]; rfl
   ·rw [hk11 j (by omega),k10 j (by omega),g.same j hj]
   ·rw [hk11 j (by omega),k10 j (by omega),hfr j hj]
   ·rw [List.take_succ_eq_append_getElem h]
    refine (o10.keep (hp':=hp11) fun j hj=>hk11 j ?_).mono fun j hj=>⟨hj.1,by omega,fun h=>?_⟩
    ·rcases hj with hj | hj
     ·exact Nat.ne_of_gt hj.1
     ·have:j=nx8:=by simpa [DV.refs] using hj
      omega
    ·have:j=nx8:=by simpa [DV.refs] using h
     omega
  ·rw [List.take_of_length_le (by omega)] at ho
   have rd6:=rd4.keep (hp':=es1.hp) fun j hj=>by rw [hfr j (by have:=hj.2; omega),hk5 j (by have:=hj.2; omega)]
   have ra6:=ra4.keep (hp':=es1.hp) fun j hj=>by rw [hfr j (by have:=hj.2; omega),hk5 j (by have:=hj.2; omega)]
   have gR1:=(hfr (es.nx+1) (by omega)).trans gR5
   have rz:RL rCell es1.hp (Bw (es.nx+1+1) es1.nx) z C:=ho.rl.mono fun j hj=>by
    rcases hj with hj | hj
    ·exact ⟨by omega,hj.2.1⟩
    ·have:=hrz j hj; exact ⟨by omega,this.2⟩
   have hd2:=rd6.mono (q:=Bw (es.nx+1+1) es1.nx) fun j hj=>⟨by have:=hj.1; omega,by have:=hj.2; omega⟩
   have hda:=ra6.mono (q:=Bw (es.nx+1+1) es1.nx) fun j hj=>⟨by have:=hj.1; omega,by have:=hj.2; omega⟩
   simp only [bSa,↓bSb,b1,b3,b4,h,f2,l2,w1.len,lZ]
   refine Ac0 (n:=3) (id:=es.nx+1) (ds:=[d2,a3,z]) (by simp only [bR,b2]) gR1 (by simp only [evt,bR]; exact AR.live (x:=⟨D,A,C⟩) hd2 hda rz) rfl rfl fun hp7 hg7 hk7=>?_
   simp only [bR] at hg7 hk7
   simp only [bSa,↓bSb]
   have up:∀ j,Bw (es.nx+1+1) es1.nx j→Bw es.nx es1.nx j:=fun j hj=>⟨by have:=hj.1; omega,hj.2⟩
   have kp:∀ j,Bw (es.nx+1+1) es1.nx j→hp7.get j=es1.hp.get j:=fun j hj=>hk7 j (by have:=hj.1; omega)
   exact ⟨_,Ak5 (by simp only [bR,bP,b2]) hg7 rfl,hK _ _ _ ⟨g.le,fun j hj=>(hk7 j (by omega)).trans (g.same j hj)⟩ ⟨d2,a3,z,rfl,(hd2.keep kp).mono up,(hda.keep kp).mono up,(rz.keep kp).mono up⟩⟩
 ·refine ⟨nilS,?_⟩
  simp only [bSa]
  exact ⟨ha5,fun _ _=>trivial,hg5,.nil,Rng.nil _ _⟩
end
end Go.DD

/- Contracts: the reference's Apply. Conditions: those that each theorem states. -/
namespace Go.DD
open Go Go.Proofs Go.Sort
structure RaS (hp:Tr DObj) (nx O:Nat) (x:PArr) (l:List PCell) (ls:DV) (i:Nat) (es:ES):Prop where
 g:Al hp nx es.hp es.nx
 n:nx+2≤O∧O < es.nx
 r:es.hp.get (nx+1)=some (.row 26 [.v (.slice none 0 0),.v (.slice none 0 0),.v (.slice none 0 0)])
 o:∃ d a z c,es.hp.get O=some (.row 26 [d,a,z])∧RL rDim es.hp (fun j=>Bw (nx+2) es.nx j∧j≠O) d x.dims∧RL rAttr es.hp (fun j=>Bw (nx+2) es.nx j∧j≠O) a x.attrs∧RL rCell es.hp (fun j=>Bw (nx+2) es.nx j∧j≠O) z c∧WithL x.cells l i c
 b1:rawE es (.t (.l .o))=ls
 b4:rawE es (.t (.r (.l .o)))=.pt (nx+1) 0
 b7:rawE es (.t (.l (.l (.l .o))))=.pt O 0
 b8:rawE es (.t (.r (.l (.l .o))))=iv (i:Nat)
theorem WithL.ok {x:PArr} {cs l:List PCell} {i:Nat} (h:WithL x.cells l i cs) (hx:AOK x) (hb:∀ c∈l,c.pos.length < 900000∧c.vals.length < 900000∧∀ v∈c.vals,slen v) (hl:x.cells.length+i≤128):AOK ⟨x.dims,x.attrs,cs⟩:=
 ⟨hx.d,hx.a,by have:=h.n; show cs.length < 900000; omega,fun c hc=>((h.m c).1 hc).elim (fun h=>hx.e c h.1) fun h=>hb c (List.mem_of_mem_take h.1)⟩
section
variable (k n0:Nat) (hp:Tr DObj) (nx:Nat) (K:DV→Tr DObj→Nat→Prop)
theorem Bv7 (d1 ls:DV) (x:PArr) (l:List PCell) (hn:n0≤nx) (h1:AR hp (Bl n0) d1 x) (hL:RL rChange hp (Bl n0) ls l) (hx:AOK x) (hl:x.cells.length+l.length≤128) (hb:∀ c∈l,c.pos.length < 900000∧c.vals.length < 900000∧∀ v∈c.vals,slen v)
  (hK:∀ hp' nx' d' r e,Al hp nx hp' nx'→AR hp' (Bw nx nx') d' r→RaR x l e r→K (.tup [d',iv e]) hp' nx'):KW (kN (k+10)) (.fn 18) [d1,ls] hp nx K:=by
 obtain ⟨d,a,c,rfl,r1,r2,r3⟩:=h1
 refine kn_r2 (Aa2 (by decide)) t18 (Nat.le_of_ble_eq_true rfl) fun es e1 e2 he=>?_
 have a0:rawE es (.t .o)=.agg [d,a,c]:=he 0 _ rfl
 have a1:rawE es (.t (.l .o))=ls:=he 1 _ rfl
 unfold r18
 subst e1 e2
 simp only [↓bSb]
 refine Ab0 (cs:=[d,a,c]) (by rw [evt,a0]; exact AR.live r1 r2 r3) fun hp1 hg1 hk1=>?_
 simp only [bR] at hg1 hk1
 simp only [bSa,↓bSb]
 refine Ac5 fun hp2 hg2 hk2=>?_
 simp only [bR] at hg2 hk2
 have hal2:Al es.hp es.nx hp2 (es.nx+1+1):=⟨by omega,fun j hj=>by rw [hk2 j (by omega),hk1 j (by omega)]⟩
 have gA2:=(hk2 es.nx (by omega)).trans hg1
 obtain ⟨_,_,_,_,lA2⟩:=Aa4 gA2
 simp only [bSa,↓bSb,lA2]
 refine kws (Bq8 (k:=k+1) n0 _ _ _ _ x (by omega) ⟨d,a,c,rfl,r1.ka hn hal2,r2.ka hn hal2,r3.ka hn hal2⟩ hx fun hp3 nx3 hal3=>?_)
 have hle3:=hal3.le
 have ha3:=hal2.trans hal3
 have gA3:=(hal3.same es.nx (by omega)).trans gA2
 have gR3:=(hal3.same (es.nx+1) (by omega)).trans hg2
 obtain ⟨_,_,_,_,lA3⟩:=Aa4 gA3
 by_cases cx:Ac3 x=0
 ·simp only [bSa,↓bSb,a1,show decide (¬ Ac3 x=0)=false by simp [cx],lA3]
  refine kws (A93 (k:=k) n0 _ _ _ d a c ls x l (by omega) (r1.ka hn ha3) (r2.ka hn ha3) (r3.ka hn ha3) (hL.ka hn ha3) hx (by omega) (fun c hc=>(hb c hc).1) (fun c hc=>(hb c hc).2.2) fun hp4 nx4 e hal4 hR=>?_)
  have hle4:=hal4.le
  have ha4:=ha3.trans hal4
  have gA4:=(hal4.same es.nx (by omega)).trans gA3
  have gR4:=(hal4.same (es.nx+1) (by omega)).trans gR3
  obtain ⟨_,_,_,_,lA4⟩:=Aa4 gA4
  by_cases he:e=0
  ·obtain ⟨h0,hnd⟩:chgsE x.dims x.attrs l=0∧(l.map PCell.pos).Nodup:=by
    rcases hR with ⟨h0,h1⟩ | ⟨_,_,h1⟩ | ⟨h0,h1,_⟩
    ·exact absurd (h1.symm.trans he) h0
    ·rw [h1] at he; cases he
    ·exact ⟨h0,h1⟩
   simp only [bSa,↓bSb,show decide (¬ e=0)=false by simp [he],lA4]
   refine kws (Bh0 (k+6) n0 _ _ _ d a c x.dims x.attrs x.cells (by omega) (r1.ka hn ha4) (r2.ka hn ha4) (r3.ka hn ha4) hx.d hx.a hx.c (fun e he=>⟨(hx.e e he).1,(hx.e e he).2.1⟩) fun hp5 nx5 d5 hal5 har5=>?_)
   have hle5:=hal5.le
   obtain ⟨d5,a5,c5,rfl,v1,v2,v3⟩:=har5
   have gR5:=(hal5.same (es.nx+1) (by omega)).trans gR4
   have ha5:=ha4.trans hal5
   simp only [bSa,↓bSb]
   refine Ac5 fun hp6 hg6 hk6=>?_
   simp only [bR] at hg6 hk6
   have k6:∀ j,Bw nx4 nx5 j→hp6.get j=hp5.get j:=fun j hj=>hk6 j (by have:=hj.2; omega)
   simp only [bSa,↓bSb]
   refine Ac0 (n:=3) (id:=nx5) (ds:=[d5,a5,c5]) (by simp only [bR]) hg6 (by simp only [evt,bR,reduceCtorEq]; exact AR.live (x:=x) (v1.keep k6) (v2.keep k6) (v3.keep k6)) rfl rfl fun hp7 hg7 hk7=>?_
   simp only [bR] at hg7 hk7
   have k7:∀ j,Bw nx4 nx5 j→hp7.get j=hp5.get j:=fun j hj=>by rw [hk7 j (by have:=hj.2; omega),k6 j hj]
   have up7:∀ j,Bw nx4 nx5 j→Bw (es.nx+2) (nx5+1) j∧j≠nx5:=fun j hj=>by have:=hj.1; have:=hj.2; exact ⟨⟨by omega,by omega⟩,by omega⟩
   simp only [bSa,↓bSb]
   refine EW.up l.length (RaS es.hp es.nx nx5 x l ls) (fun i es1 hi hS=>?_) ⟨⟨by simp only []; omega,fun j hj=>by simp only []; rw [hk7 j (by omega),hk6 j (by omega),ha5.same j hj]⟩,by simp only []; omega,by simp only []; rw [hk7 _ (by omega),hk6 _ (by omega)]; exact gR5,⟨d5,a5,c5,x.cells,by simp only []; exact hg7,by simp only [bR]; exact (v1.keep k7).mono up7,by simp only [bR]; exact (v2.keep k7).mono up7,by simp only [bR]; exact (v3.keep k7).mono up7,.zero (Ae1 cx).1⟩,by simp only [bR,a1],by simp only [bR],by simp only [bR],by simp only [bR]; rfl⟩ (by omega)
   obtain ⟨g,gn,gr,⟨dd,da,z,cs,gz,q1,q2,q3,hW⟩,b1,b4,b7,b8⟩:=hS
   unfold l18_1
   have hle:=g.le
   have w:=hL.ka hn g
   obtain ⟨⟨_,_,fz⟩,_,_,lz,lZ⟩:=Aa4 gz
   by_cases h:i < l.length
   ·obtain ⟨pc,vc,rpc,rvc,_,ldp,ldv⟩:=Ao0 w h
    have hne:n0≤es1.nx:=by omega
    have hbi:=hb _ (List.getElem_mem h)
    simp only [bSa,↓bSb,b1,b7,b8,h,w.len,Ad6 w h,As1 (k:=0) w h,As1 (k:=1) w h,ldp,ldv,lZ,w.rox (m:=13) hne,Ax1 (m:=13) w hne,A30 (m:=13) w hne,rpc.rox (m:=13) hne,rvc.rox (m:=13) hne,Aa1 (n0:=es1.nx) (m:=13) gz (show nx5 < es1.nx by omega),iff_true_intro (A33 (n:=es1.nx) (m:=13) (X:=⟨x.dims,x.attrs,cs⟩) q1 q2 q3 (fun j hj=>.inl (by have:=hj.1.2; omega)) _)]
    refine Aa0 rfl (Aa7 ?_)
    simp only [bR,List.map_cons,List.map_nil]
    refine B24 (k+4) _ _ _ (fun j=>Bw (es.nx+2) es1.nx j∧j≠nx5) dd da z pc vc ⟨x.dims,x.attrs,cs⟩ l[i].pos l[i].vals (fun j hj=>by have:=hj.1.2; omega) q1 q2 q3 (rpc.mono fun j (hj:j < n0)=>by show j < es1.nx+13; omega) (rvc.mono fun j (hj:j < n0)=>by show j < es1.nx+13; omega) (hW.ok hx hb (by omega)) hbi.1 hbi.2.1 hW.s fun hp8 nx8 d8 r8 hal8 har8 hw8=>?_
    obtain ⟨d8,a8,c8,rfl,u1,u2,u3⟩:=har8
    have hle8:=hal8.le
    have gz8:=(hal8.same nx5 (by omega)).trans gz
    have ro8:=A33 (n:=es1.nx) (m:=13) (X:=⟨x.dims,x.attrs,r8⟩) u1 u2 u3 fun j hj=>by
     rcases hj with hj | hj
     ·exact .inl hj.1.2
     ·exact .inr hj.1
    simp only [bSa,↓bSb,b7,hle8,iff_true_intro (ro8 _),Aa1 (n0:=es1.nx) (m:=13) gz8 (show nx5 < es1.nx by omega)]
    refine Aa0 rfl (Ac0 (n:=3) (id:=nx5) (ds:=[d8,a8,c8]) (by simp only [bR,b7]) gz8 (by simp only [evt,bR]; exact AR.live (x:=⟨x.dims,x.attrs,r8⟩) u1 u2 u3) rfl rfl fun hp9 hg9 hk9=>?_)
    simp only [bR] at hg9 hk9
    simp only [bSa,↓bSb,b8,Aa3 (show i < _ by omega)]
    have kp:∀ j,(Bw (es.nx+2) es1.nx j∧j≠nx5)∨Bw (es1.nx+13) nx8 j→hp9.get j=hp8.get j:=fun j hj=>hk9 j (hj.elim (fun h=>h.2) fun h=>by have:=h.1; omega)
    have up:∀ j,(Bw (es.nx+2) es1.nx j∧j≠nx5)∨Bw (es1.nx+13) nx8 j→Bw (es.nx+2) nx8 j∧j≠nx5:=fun j hj=>hj.elim (fun h=>⟨⟨h.1.1,by have:=h.1.2; omega⟩,h.2⟩) fun h=>by have:=h.1; have:=h.2; exact ⟨⟨by omega,by omega⟩,by omega⟩
    exact ⟨h,⟨by simp only []; omega,fun j hj=>by simp only []; rw [hk9 j (by omega),hal8.same j (by omega),g.same j hj]⟩,by simp only []; omega,by simp only []; rw [hk9 _ (by omega),hal8.same _ (by omega)]; exact gr,⟨d8,a8,c8,r8,by simp only []; exact hg9,by simp only [bR]; exact (u1.keep kp).mono up,by simp only [bR]; exact (u2.keep kp).mono up,by simp only [bR]; exact (u3.keep kp).mono up,hW.step h hnd hw8⟩,by simp only [bR,b1],by simp only [bR,b4],by simp only [bR,b7],by simp only [bR]⟩
   ·have hil:i=l.length:=by omega
    subst hil
    have hn4:¬ (4096:Int) < (cs.length:Int):=by have:=hW.n; omega
    simp only [bSa,↓bSb,b1,b7,b8,h,w.len,fz,lz,lZ,q3.len,decide_eq_false hn4]
    refine Ac0 (n:=3) (id:=es.nx+1) (ds:=[dd,da,z]) (by simp only [bR,b4]) gr (by simp only [evt,bR]; exact AR.live (x:=⟨x.dims,x.attrs,cs⟩) q1 q2 q3) rfl rfl fun hp7 hg7 hk7=>?_
    simp only [bR] at hg7 hk7
    simp only [bSa,↓bSb]
    have up:∀ j,Bw (es.nx+2) es1.nx j∧j≠nx5→Bw es.nx es1.nx j:=fun j hj=>⟨by have:=hj.1.1; omega,hj.1.2⟩
    have kp:∀ j,Bw (es.nx+2) es1.nx j∧j≠nx5→hp7.get j=es1.hp.get j:=fun j hj=>hk7 j (by have:=hj.1.1; omega)
    exact ⟨_,_,Ak5 (by simp only [bR,bP,b4]) hg7 rfl,by rw [Ax3]; simp only [bR,bP,Aj0],hK _ _ _ ⟨x.dims,x.attrs,cs⟩ 0 ⟨g.le,fun j hj=>(hk7 j (by omega)).trans (g.same j hj)⟩ ⟨dd,da,z,rfl,(q1.keep kp).mono up,(q2.keep kp).mono up,(q3.keep kp).mono up⟩ (.inr (.inr (.inr ⟨cx,h0,hnd,rfl,cs,hW,rfl⟩)))⟩
  ·simp only [bSa,↓bSb,show decide (¬ e=0)=true by simp [he]]
   refine Ak9 (cs:=[nilS,nilS,nilS]) rfl ?_
   simp only [bSa,↓bSb]
   refine Ac0 (n:=3) (id:=es.nx+1) (ds:=[nilS,nilS,nilS]) (by simp only [bR]) gR4 (by simp only [evt,bR,reduceCtorEq]; rfl) rfl rfl fun hpA hgB hkB=>?_
   simp only [bR] at hgB hkB
   simp only [bSa,↓bSb]
   exact ⟨_,_,Ak5 (by simp only [bR,bP]) hgB rfl,by rw [Ax3]; simp only [bR,bP,Aj0],hK _ _ _ ⟨[],[],[]⟩ e ⟨by omega,fun j hj=>by rw [hkB j (by omega),ha4.same j hj]⟩ ⟨nilS,nilS,nilS,rfl,.nil,.nil,.nil⟩ (by
    rcases hR with ⟨h0,h1⟩ | ⟨h0,h1,h2⟩ | ⟨_,_,h1⟩
    ·exact .inr (.inl ⟨cx,h0,h1,rfl⟩)
    ·exact .inr (.inr (.inl ⟨cx,h0,h1,h2,rfl⟩))
    ·exact absurd h1 he)⟩
 ·simp only [bSa,↓bSb,show decide (¬ Ac3 x=0)=true by simp [cx]]
  refine Ak9 (cs:=[nilS,nilS,nilS]) rfl ?_
  simp only [bSa,↓bSb]
  refine Ac0 (n:=3) (id:=es.nx+1) (ds:=[nilS,nilS,nilS]) (by simp only [bR]) gR3 (by simp only [evt,bR]; rfl) rfl rfl fun hpA hgB hkB=>?_
  simp only [bR] at hgB hkB
  simp only [bSa,↓bSb]
  exact ⟨_,_,Ak5 (by simp only [bR,bP]) hgB rfl,by rw [Ax3]; simp only [bR,bP,Aj0],hK _ _ _ ⟨[],[],[]⟩ 2 ⟨by omega,fun j hj=>by rw [hkB j (by omega),ha3.same j hj]⟩ ⟨nilS,nilS,nilS,rfl,.nil,.nil,.nil⟩ (.inl ⟨cx,rfl,rfl⟩)⟩
end
end Go.DD

/- Contracts: which changes are few. Conditions: those that each theorem states. -/
namespace Go.DD
open Go Go.Proofs
def fewL (l:List PCell) (most:Nat):Bool:=decide (l.length≤most) && l.all fun c=>fewA ⟨[],[],[c]⟩ 1
theorem Ci7 {l:List PCell} {most:Nat} (h:fewL l most=true):l.length≤most∧∀ c∈l,c.pos.length < 900000∧c.vals.length < 900000∧∀ v∈c.vals,slen v:=by
 unfold fewL at h
 rw [Bool.and_eq_true,List.all_eq_true] at h
 exact ⟨of_decide_eq_true h.1,fun c hc=>(Bq9 (h.2 c hc) (by omega)).e c (by simp)⟩
section
variable (k n0:Nat) (hp:Tr DObj) (nx:Nat) (K:DV→Tr DObj→Nat→Prop)
theorem Ci8 (ls:DV) (l:List PCell) (most:Nat) (hn:n0≤nx) (hL:RL rChange hp (Bl n0) ls l) (hm:most < 900000) (hK:∀ hp' nx',Al hp nx hp' nx'→K (bv (fewL l most)) hp' nx'):KW (kN (k+4)) (.fn 14) [ls,iv (most:Nat)] hp nx K:=by
 refine kn_1 (Aa2 (by decide)) t14 (Nat.le_of_ble_eq_true rfl) fun es e1 e2 he=>?_
 have a0:rawE es (.t .o)=ls:=he 0 _ rfl
 have a1:rawE es (.t (.l .o))=iv (most:Nat):=he 1 _ rfl
 unfold r14
 subst e1 e2
 unfold fewL at hK
 by_cases c0:most < l.length
 ·rw [decide_eq_false (by omega),Bool.false_and] at hK
  simp only [bSa,↓bSb,bP,a0,a1,hL.len,c0]
  exact hK _ _ (Al.refl _ _)
 rw [decide_eq_true (by omega),Bool.true_and] at hK
 simp only [bSa,↓bSb,a0,a1,hL.len,c0]
 refine EW.up l.length (fun i es1=>Al es.hp es.nx es1.hp es1.nx∧rawE es1 (.t .o)=ls∧rawE es1 (.t (.l (.r .o)))=iv (i:Nat)∧(l.take i).all (fun c=>fewA ⟨[],[],[c]⟩ 1)=true) ?_ ?_ (by omega)
 ·rintro i es1 hi ⟨g,b0,b5,hc⟩
  unfold l14_1
  have hle:=g.le
  have r:=hL.ka hn g
  have hne:n0≤es1.nx:=by omega
  by_cases h:i < l.length
  ·obtain ⟨p,v,rp,rv,_,lp,lv⟩:=Ao0 r h
   simp only [bSa,↓bSb,bP,b0,b5,h,r.len,Ad6 r h,As1 (k:=0) r h,As1 (k:=1) r h,lp,lv,r.rox (m:=15) hne,Ax1 (m:=15) r hne,A30 (m:=15) r hne,rp.rox (m:=15) hne,rv.rox (m:=15) hne,A67,rp.live,rv.live,Ax0 (z:=.slice none 0 0) (w:=.slice none 0 0) rp.ok rv.ok,Option.map_some]
   refine ⟨ro_pr (rp.rox hne) (rv.rox hne),?_⟩
   refine Ap9 (fl:=[p,v]) rfl (by simp only [List.map_cons,List.map_nil,n_ev,bR,bP,Aa5 rp rv]; exact Br5 (z:=[.slice none 0 0,.slice none 0 0]) rfl) fun hp9 hg9 hk9=>?_
   simp only [bR] at hg9 hk9
   have rp9:=rp.keep (hp':=hp9) fun j (hj:j < n0)=>hk9 j (by omega)
   have rv9:=rv.keep (hp':=hp9) fun j (hj:j < n0)=>hk9 j (by omega)
   have rC:RL rCell hp9 (Bl (es1.nx+15)) (.ms (es1.nx+11) 0 1 2) [l[i]]:=.ms (R:=rCell) _ 0 [p,v] [l[i]] hg9 (by show es1.nx+11 < es1.nx+15; omega) (by simp; decide) (by rw [List.drop_zero]; exact Rows.one (rCell_rd.2 ⟨p,v,rfl,rp9.mono fun j (hj:j < n0)=>by show j < es1.nx+15; omega,rv9.mono fun j (hj:j < n0)=>by show j < es1.nx+15; omega⟩)) fun c hc=>by
    simp only [List.mem_cons,List.not_mem_nil,or_false] at hc
    rcases hc with rfl | rfl
    ·exact rp9.same (by decide)
    ·exact rv9.same (by decide)
   have hfb:fillD [DV.v (.slice none 0 0),DV.v (.slice none 0 0),DV.v (.slice none 0 0)] [(2,1,.ms (es1.nx+11) 0 1 2)]=some [DV.v (.slice none 0 0),DV.v (.slice none 0 0),.ms (es1.nx+11) 0 1 2]:=rfl
   simp only [bSa,↓bSb,bP,A67,Ah4 hg9,hfb,Option.map_some]
   have roM:∀ an,11∈an→Aa6 (.agg [.v (.slice none 0 0),.v (.slice none 0 0),.ms (es1.nx+11) 0 1 2]) (fun id=>okRef es1.nx 15 an hp9 id):=fun an han id hid=>by
    have:id=es1.nx+11:=by simpa [DV.refs,DV.refsL] using hid
    subst this
    exact Ak2 hg9 (by simpa using han)
   refine ⟨Ak2 hg9 rfl,roM _ (by simp),?_⟩
   refine Aa0 rfl (Aa7 ?_)
   simp only [bR,List.map_cons,List.map_nil]
   refine B91 k _ _ _ _ ⟨[],[],[l[i]]⟩ 1 (es1.nx+15) (Nat.le_refl _) ⟨_,_,_,rfl,.nil,.nil,rC⟩ (by decide) fun hp5 nx5 hal5=>?_
   have hle5:=hal5.le
   have g5:Al es.hp es.nx hp5 nx5:=⟨by omega,fun j hj=>by rw [hal5.same j (by omega),hk9 j (by omega),g.same j hj]⟩
   cases c4:fewA ⟨[],[],[l[i]]⟩ 1 with
   | false=>
    rw [all_n (f:=fun c=>fewA ⟨[],[],[c]⟩ 1) h c4] at hK
    simp only [bSa,↓bSb,bP,hle5]
    exact hK _ _ g5
   | true=>
    simp only [bSa,↓bSb,b0,b5,h,hle5,Aa3 (show i < _ by omega)]
    exact ⟨g5,by rw [all_s h,hc,c4]; rfl⟩
  ·rw [List.take_of_length_le (by omega)] at hc
   rw [hc] at hK
   simp only [bSa,↓bSb,bP,b0,b5,h,r.len]
   exact hK _ _ g
 ·simp only [bSa,a0]
  rfl
end
end Go.DD

/- What can be written in an own array's cells. Conditions: those that each theorem states. -/
namespace Go.DD
open Go Go.Proofs
def ShI (hp:Tr DObj) (p:Nat→Prop) (d:DV):Prop:=∃ id off n fl m,d=.ms id off (n+1) 1∧hp.get id=some (.row rInt.T fl)∧fl[off]?=some (iv m)∧p id
def ShV (hp:Tr DObj) (p:Nat→Prop) (d:DV):Prop:=∃ id off n fl,d=.ms id off (n+1) 4∧hp.get id=some (.row rVal.T fl)∧off+4≤fl.length∧p id
def ShC (hp:Tr DObj) (p:Nat→Prop) (d:DV) (n:Nat):Prop:=∀ i,i < n→∃ id off fl a b,d=.ms id off n 2∧hp.get id=some (.row rCell.T fl)∧p id∧fl[off+i*2]?=some a∧fl[off+i*2+1]?=some b∧ShI hp p a∧ShV hp p b
def Wr1 (hp hp':Tr DObj) (p:Nat→Prop):Prop:=∀ j T fl,p j→hp.get j=some (.row T fl)→∃ fl',hp'.get j=some (.row T fl')∧fl'.length=fl.length∧(T=rCell.T→fl'=fl)∧(T=rInt.T→∀ (k:Nat) (m:Int),fl[k]?=some (iv m)→∃ m':Int,fl'[k]?=some (iv m'))
section
variable {hp hp':Tr DObj} {p:Nat→Prop} {d:DV} {n:Nat}
theorem ShC.wr (h:ShC hp p d n) (hw:Wr1 hp hp' p):ShC hp' p d n:=fun i hi=>by
 obtain ⟨id,off,fl,a,b,h1,h2,h3,h4,h5,⟨i1,o1,n1,f1,m1,a1,a2,a3,a4⟩,⟨i2,o2,n2,f2,b1,b2,b3,b4⟩⟩:=h i hi
 obtain ⟨fl',w1,_,w3,_⟩:=hw id _ _ h3 h2
 obtain ⟨g1,x1,x2,_,x4⟩:=hw i1 _ _ a4 a2
 obtain ⟨g2,y1,y2,_,_⟩:=hw i2 _ _ b4 b2
 obtain ⟨m',hm'⟩:=x4 rfl _ _ a3
 rw [w3 rfl] at w1
 exact ⟨id,off,fl,a,b,h1,w1,h3,h4,h5,⟨i1,o1,n1,g1,m',a1,x1,hm',a4⟩,⟨i2,o2,n2,g2,b1,y1,by omega,b4⟩⟩
theorem Cr0 {id off:Nat} {fl:List DV} {m:Int} (hg:hp.get id=some (.row rInt.T fl)) (h1:hp'.get id=some (.row rInt.T (fl.set off (iv m)))) (h2:∀ j,j≠id→hp'.get j=hp.get j):Wr1 hp hp' p:=fun j T f _ hj=>by
 by_cases e:j=id
 ·subst e
  rw [hg] at hj
  cases hj
  refine ⟨_,h1,by simp,fun h=>absurd h (by decide),fun _ k m' hk=>?_⟩
  rw [List.getElem?_set]
  by_cases e:off=k
  ·subst e
   rw [if_pos rfl,if_pos (List.getElem?_eq_some_iff.1 hk).1]
   exact ⟨m,rfl⟩
  ·rw [if_neg e]; exact ⟨m',hk⟩
 ·exact ⟨f,(h2 j e).trans hj,rfl,fun _=>rfl,fun _ k m hk=>⟨m,hk⟩⟩
theorem Cr1 {id:Nat} {fl fl':List DV} (hg:hp.get id=some (.row rVal.T fl)) (h1:hp'.get id=some (.row rVal.T fl')) (hl:fl'.length=fl.length) (h2:∀ j,j≠id→hp'.get j=hp.get j):Wr1 hp hp' p:=fun j T f _ hj=>by
 by_cases e:j=id
 ·subst e
  rw [hg] at hj
  cases hj
  exact ⟨_,h1,hl,fun h=>absurd h (by decide),fun h=>absurd h (by decide)⟩
 ·exact ⟨f,(h2 j e).trans hj,rfl,fun _=>rfl,fun _ k m hk=>⟨m,hk⟩⟩
theorem RL.shI {l:List Int} (h:RL rInt hp p d l) (hm:IsM d) (hl:l≠[]):ShI hp p d:=by
 obtain ⟨_,_,_,_,hm⟩:=hm
 cases h with
 | nil=>cases hm
 | sl=>cases hm
 | ms id off fl l h hid hle hr hs=>
  match l,hl,hr with
  | x :: l,_,⟨a,b,e,h1,_⟩=>
   rw [rInt_rd] at h1
   subst h1
   refine ⟨id,off,l.length,fl,x,rfl,h,?_,hid⟩
   have:=congrArg (fun z=>z[0]?) e
   simp only [List.getElem?_take,List.getElem?_drop] at this
   rw [if_pos (by simp; decide)] at this
   simpa using this
theorem RL.shV {l:List PVal} (h:RL rVal hp p d l) (hm:IsM d) (hl:l≠[]):ShV hp p d:=by
 obtain ⟨_,_,_,_,hm⟩:=hm
 cases h with
 | nil=>cases hm
 | sl=>cases hm
 | ms id off fl l h hid hle hr hs=>
  match l,hl with
  | x :: l,_=>
   refine ⟨id,off,l.length,fl,rfl,h,?_,hid⟩
   have e:rVal.e=4:=rfl
   rw [e,List.length_cons] at hle
   omega
theorem RL.shC {l:List PCell} (h:RL rCell hp p d l) (ho:OwnC hp d) (hl:∀ e∈l,e.pos≠[]∧e.vals≠[]):ShC hp p d l.length:=fun i hi=>by
 cases h with
 | nil=>simp at hi
 | sl=>exact absurd rfl (ho.n _ _)
 | ms id off fl l h hid hle hr hs=>
  obtain ⟨rest,h1,h2⟩:=hr.at hi
  obtain ⟨a,b,e,h3,h4⟩:=rCell_rd.1 h2
  rw [e] at h1
  have e2:rCell.e=2:=rfl
  rw [e2] at h1
  have hi2:i*2+2≤l.length*2:=by omega
  have k0:fl[off+i*2]?=some a:=by
   have:=congrArg (fun z=>z[0]?) h1
   simp only [List.getElem?_take,List.getElem?_drop] at this
   rw [if_pos (by omega)] at this
   simpa using this
  have k1:fl[off+i*2+1]?=some b:=by
   have:=congrArg (fun z=>z[1]?) h1
   simp only [List.getElem?_take,List.getElem?_drop] at this
   rw [if_pos (by omega)] at this
   rw [← Nat.add_assoc] at this
   simpa using this
  have hp:=hl _ (List.getElem_mem hi)
  exact ⟨id,off,fl,a,b,rfl,h,hid,k0,k1,h3.shI (ho.m _ _ _ _ rfl fl h a (List.mem_of_getElem? k0)) hp.1,h4.shV (ho.m _ _ _ _ rfl fl h b (List.mem_of_getElem? k1)) hp.2⟩
theorem ia_ms {id off n e i:Nat} {o:DObj} (h:hp.get id=some o) (hi:i < n):iaD hp e (.ms id off n e) (.v (.int .i64 (i:Int)))=some (.pt id (off+i*e)):=by
 show (if alv hp id=true∧0≤(i:Int)∧(i:Int) < (n:Int) then some (DV.pt id (off+(i:Int).toNat*e)) else none)=_
 rw [if_pos ⟨by unfold alv; rw [h]; rfl,by omega,by omega⟩]; rfl
theorem Cc0 {id off n e:Nat} {o:DObj} (h:hp.get id=some o):iaD hp e (.ms id off (n+1) e) (.v (.int .i64 0))=some (.pt id off):=by
 have:=ia_ms (off:=off) (e:=e) (i:=0) h (show 0 < n+1 by omega)
 rw [Nat.zero_mul,Nat.add_zero] at this
 exact this
theorem ld_at {id off T:Nat} {fl:List DV} {c:DV} (h:hp.get id=some (.row T fl)) (hc:fl[off]?=some c):ldD hp none (.pt id off)=some c:=by rw [ld_p h]; exact A25 hc
end
theorem Cr2 {call:CallT} {es:ES} {dst:Option Pa} {q:Hold (ES→Prop)} {n:Nat} {a x:EO} {id off T:Nat} {ds cs:List DV} (ea:rawE es a=.pt id off) (hg:es.hp.get id=some (.row T cs)) (ev:evE es x=.agg ds) (h2:ds.length=n) (h3:off+n≤cs.length)
  (h:∀ hp' fl,hp'.get id=some (.row T fl)→fl.length=cs.length→(∀ j,j≠id→hp'.get j=es.hp.get j)→q.val ((ES.mk es.sl hp' es.nx).putE dst .any)) :
  SWs (sU dst (xSt n a x)) call es:=by
 show SW _ _ _ _
 rw [sw_st,ea,st_pt,hg,ev,st_r id off n (.agg ds) T cs rfl h2 h3,Am7]
 refine h (es.up (.wr id (.row T (cs.take off ++ DV.cells (.agg ds) ++ cs.drop (off+n))))).hp _ (by rw [up_wr,get_set,if_pos rfl]) ?_ fun j hj=>by rw [up_wr,get_set,if_neg hj]
 show (cs.take off ++ ds ++ cs.drop (off+n)).length=_
 rw [List.length_append,List.length_append,List.length_take,List.length_drop]
 omega
end Go.DD

/- Chapter 08: the result of Apply is written. Conditions: those that each theorem states. -/
namespace Go.DD
open Go Go.Proofs
structure TuS (hp:Tr DObj) (nx:Nat) (p:Nat→Prop) (n:Nat) (c:DV) (es:ES):Prop where
 x:nx≤es.nx
 k:∀ j,j < nx→¬ p j→es.hp.get j=hp.get j
 a:∀ j,(hp.get j).isSome=true→(es.hp.get j).isSome=true
 s:ShC es.hp p c n
theorem RL.len_al {α:Type} {R:Rep α} {hp hp':Tr DObj} {p:Nat→Prop} {c:DV} {l:List α} (h:RL R hp p c l) (hk:∀ j,(hp.get j).isSome=true→(hp'.get j).isSome=true):lenD hp' c=some (.v (.int .i64 (l.length:Int))):=by
 cases h with
 | nil=>rfl
 | sl=>rfl
 | ms id off fl l h hid hl hr hs=>
  show (if alv hp' id=true then _ else none)=_
  have:=hk id (by rw [h]; rfl)
  rw [if_pos (by unfold alv; cases e:hp'.get id with
   | none=>rw [e] at this; cases this
   | some o=>rfl)]
theorem Ci9 {k:Nat} {es:ES} {Q:Exit→ES→Prop} {p:Nat→Prop} {Y n:Nat} {d a c:DV} {l:List PCell} (hY:Y < es.nx) (hpY:¬ p Y) (hp2:∀ j,p j→j < es.nx) (hc:RL rCell es.hp p c l) (hs:ShC es.hp p c n) (hln:l.length=n) (hn:n < 900000) (hy:es.hp.get Y=some (.row 26 [d,a,c])) (b6:rawE es (.t (.r (.r .o)))=.pt Y 0) (b10:rawE es (.t (.r (.r (.l .o))))=iv (0:Nat))
  (hQ:∀ es',TuS es.hp es.nx p n c es'→(∀ t∈[(.t (.l .o)),(.t (.r .o)),(.t (.l (.r .o))),(.t (.l (.l (.l .o)))),(.t (.r (.l (.l .o)))),(.t (.l (.r (.l .o))))],rawE es' t=rawE es t)→Q (.exit 0) es'):EW (cL 1000000 l3_1) (kN k) es Q:=by
 refine EW.up n (fun i es1=>TuS es.hp es.nx p n c es1∧(∀ t∈[(.t (.l .o)),(.t (.r .o)),(.t (.l (.r .o))),(.t (.l (.l (.l .o)))),(.t (.r (.l (.l .o)))),(.t (.l (.r (.l .o))))],rawE es1 t=rawE es t)∧rawE es1 (.t (.r (.r .o)))=.pt Y 0∧rawE es1 (.t (.r (.r (.l .o))))=iv (i:Nat)) ?_ ⟨⟨Nat.le_refl _,fun _ _ _=>rfl,fun _ h=>h,hs⟩,fun _ _=>rfl,b6,b10⟩ (by omega)
 rintro i es1 hi ⟨⟨gn,gk,ga,gs⟩,gt,b6,b10⟩
 unfold l3_1
 have hy1:=(gk Y hY hpY).trans hy
 obtain ⟨⟨_,_,f2⟩,_,_,l2,_⟩:=Aa4 hy1
 have hl1:=hc.len_al ga
 rw [hln] at hl1
 have roc:∀ an,Aa6 c (fun id=>okRef es1.nx 17 an es1.hp id):=fun an id hid=>(Af7 es1.hp id).2 ⟨ga _ (hc.refs id hid).2,.inl (by have:=hp2 id (hc.refs id hid).1; omega)⟩
 by_cases h:i < n
 ·obtain ⟨id,off,fl,x,y,hcm,e2,e3,e4,e5,⟨i1,o1,n1,f1,m,rfl,u2,u3,u4⟩,⟨i2,o2,n2,g2,rfl,v2,v3,v4⟩⟩:=gs i h
  have hia:iaD es1.hp 2 c (.v (.int .i64 (i:Int)))=_:=hcm ▸ ia_ms (off:=off) (e:=2) (n:=n) e2 h
  have hlt:=hp2 id e3
  have roC:∀ an,okRef es1.nx 17 an es1.hp id=true:=fun an=>Aa1 (n0:=es1.nx) (m:=17) e2 (by omega)
  have roA:∀ an,okRef es1.nx 17 an es1.hp i1=true:=fun an=>Aa1 (n0:=es1.nx) (m:=17) u2 (by have:=hp2 i1 u4; omega)
  obtain ⟨m',hx⟩:∃ m':Int,binD .xor (iv m) (.v (.int .i64 1))=some (iv m'):=⟨_,rfl⟩
  have hf0:faD es1.hp 0 (.pt id (off+i*2))=some (.pt id (off+i*2)):=fa_p e2
  simp only [bSa,↓bSb,b6,b10,f2,l2,hl1,h,hia,hf0,ld_at e2 e4,Cc0 (off:=o1) (e:=1) (n:=n1) u2,ld_at u2 u3,roC _,roA _,hx,iff_true_intro (roc _),Aa1 (n0:=es1.nx) (m:=17) hy1 (show Y < es1.nx by omega)]
  refine Aa0 rfl (Am8 (id:=i1) (off:=o1) (by simp only [bR]) u2 (by simp only [evt,bR,reduceCtorEq]; rfl) ⟨rfl,rfl⟩ (List.getElem?_eq_some_iff.1 u3).1 fun hp5 hg5 hk5=>?_)
  simp only [bR] at hg5 hk5
  have w5:Wr1 es1.hp hp5 p:=Cr0 (m:=m') u2 hg5 hk5
  have e25:hp5.get id=some (.row rCell.T fl):=(hk5 id (fun h=>by subst h; rw [e2] at u2; cases u2)).trans e2
  have hy5:hp5.get Y=some (.row 26 [d,a,c]):=(hk5 Y (fun h=>hpY (h ▸ u4))).trans hy1
  have v25:hp5.get i2=some (.row rVal.T g2):=(hk5 i2 (fun h=>by subst h; rw [v2] at u2; cases u2)).trans v2
  obtain ⟨⟨_,_,f5⟩,_,_,l5,_⟩:=Aa4 hy5
  have hia5:iaD hp5 2 c (.v (.int .i64 (i:Int)))=_:=hcm ▸ ia_ms (off:=off) (e:=2) (n:=n) e25 h
  have hf5:faD hp5 1 (.pt id (off+i*2))=some (.pt id (off+i*2+1)):=fa_p e25
  simp only [bSa,↓bSb,b6,b10,f5,l5,hia5,hf5,ld_at e25 e5]
  refine Ak9 (cs:=vc ⟨0,99,0,bs []⟩) rfl ?_
  simp only [bSa,↓bSb,Cc0 (off:=o2) (e:=4) (n:=n2) v25]
  refine Cr2 (ds:=vc ⟨0,99,0,bs []⟩) (by simp only [bR]) v25 (by simp only [evt,bR,reduceCtorEq]; rfl) rfl v3 fun hp6 g6 hg6 hl6 hk6=>?_
  simp only [bR] at hg6 hk6
  have w6:Wr1 hp5 hp6 p:=Cr1 v25 hg6 hl6 hk6
  simp only [bSa,↓bSb,b6,b10,Aa3 (show i < _ by omega)]
  refine ⟨h,⟨by simp only []; omega,fun j h1 h2=>?_,fun j h1=>?_,?_⟩,fun t ht=>?_⟩
  ·simp only []
   rw [hk6 j (fun e=>h2 (e ▸ v4)),hk5 j (fun e=>h2 (e ▸ u4)),gk j h1 h2]
  ·simp only []
   by_cases q1:j=i2
   ·rw [q1,hg6]; rfl
   ·rw [hk6 j q1]
    by_cases q2:j=i1
    ·rw [q2,hg5]; rfl
    ·rw [hk5 j q2]; exact ga j h1
  ·simp only []
   exact (gs.wr w5).wr w6
  ·have:=gt t ht
   simp only [List.mem_cons,List.not_mem_nil,or_false] at ht
   rcases ht with rfl | rfl | rfl | rfl | rfl | rfl <;> simpa only [bR] using this
 ·simp only [bSa,↓bSb,b6,b10,f2,l2,hl1,h]
  exact hQ _ ⟨by simpa only [bR] using gn,fun j h1 h2=>by simpa only [bR] using gk j h1 h2,fun j h1=>by simpa only [bR] using ga j h1,by simpa only [bR] using gs⟩ fun t ht=>by
   have:=gt t ht
   simp only [List.mem_cons,List.not_mem_nil,or_false] at ht
   rcases ht with rfl | rfl | rfl | rfl | rfl | rfl <;> simpa only [bR] using this
end Go.DD

/- Chapter 08: VersionApplies returns true: as a contract. Conditions: none. -/
namespace Go.DD
open Go Go.Proofs
theorem ApR.ok {x r:PArr} {l:List PCell} {e:Int} (h:ApR x l e r) (hx:AOK x) (hl:x.cells.length+l.length≤128) (hb:∀ c∈l,c.pos.length < 900000∧c.vals.length < 900000∧∀ v∈c.vals,slen v):AOK r∧r.cells.length≤128∧∀ c∈r.cells,c.pos≠[]∧c.vals≠[]:=by
 rcases h with ⟨_,_,h⟩ | ⟨_,_,_,h⟩ | ⟨_,_,_,_,h⟩ | ⟨hc,h0,_,_,m,hm,hs,h⟩
 iterate 3 (subst h; exact ⟨⟨by decide,by decide,by decide,fun c hc=>by cases hc⟩,by decide,fun c hc=>by cases hc⟩)
 subst h
 have h1:=Bg6 hc h0 hm hs hl
 have:=Ay0 m x.cells
 have:=hm.length_eq
 exact ⟨on_ok hx hm hl hb,by show (onF m x.cells).length≤128; omega,fun c hc=>⟨A66 h1 c hc,Az6 h1 c hc⟩⟩
def dChs (l:List PCell):DV:=.sl (l.flatMap rChange.cells) l.length
theorem A94 (x:PArr) (l:List PCell):Known Tryz.prog 3 [dArr x,dChs l] (.v (.bool true)):=by
 refine Known.run1 mixed te_ok (Bd8 (n:=1000000) mixed te_ok Cf4 21) t3 (Nat.le_of_ble_eq_true rfl) (fun x hx=>?_) rfl (fun _=>Ce6 rfl) fun es he=>?_
 ·simp only [List.mem_cons,List.mem_nil_iff,or_false] at hx
  rcases hx with rfl | rfl <;> rfl
 have a0:rawE es (.t .o)=dArr x:=he 0 _ rfl
 have a1:rawE es (.t (.l .o))=dChs l:=he 1 _ rfl
 have ar:∀ (z:PArr) (hp:Tr DObj),∃ a b c,dArr z=.agg [a,b,c]∧RL rDim hp (Bl 0) a z.dims∧RL rAttr hp (Bl 0) b z.attrs∧RL rCell hp (Bl 0) c z.cells:=fun z hp=>⟨_,_,_,rfl,.sl _,.sl _,.sl _⟩
 obtain ⟨d,a,c,e1,w1,w2,w3⟩:=ar x es.hp
 have hL:∀ {hp:Tr DObj},RL rChange hp (Bl 0) (dChs l) l:=.sl _
 generalize dChs l=ls at a1 hL
 rw [e1] at a0
 unfold r3
 have hn:0≤es.nx:=Nat.zero_le _
 simp only [↓bSb]
 refine Ab0 (cs:=[d,a,c]) (by rw [evt,a0]; exact AR.live w1 w2 w3) fun hp1 hg1 hk1=>?_
 simp only [bR] at hg1 hk1
 have hal1:Al es.hp es.nx hp1 (es.nx+1):=⟨by omega,fun j hj=>hk1 j (by omega)⟩
 have hr:∀ {hp' nx'},Al es.hp es.nx hp' nx'→AR hp' (Bl 0) (.agg [d,a,c]) x:=fun h=>⟨d,a,c,rfl,w1.ka hn h,w2.ka hn h,w3.ka hn h⟩
 have LA:∀ {hp':Tr DObj},(∀ j,j < es.nx+1→hp'.get j=hp1.get j)→ldD hp' (some 3) (.pt es.nx 0)=some (.agg [d,a,c]):=fun h=>(Aa4 ((h es.nx (by omega)).trans hg1)).2.2.2.2
 simp only [bSa,↓bSb,LA fun _ _=>rfl]
 refine kws (B91 18 _ _ _ _ x 40 0 (by omega) (hr hal1) (by omega) fun hp2 nx2 hal2=>?_)
 have hle2:=hal2.le
 have ha2:=hal1.trans hal2
 have k2:∀ j,j < es.nx+1→hp2.get j=hp1.get j:=fun j hj=>hal2.same j hj
 cases c1:fewA x 40 with
 | false=>
  simp only [bSa,↓bSb]
  refine kws (A27 20 _ _ _ ?_)
  simp only [bSa,↓bSb,bP]
 | true=>
  simp only [bSa,↓bSb,a1]
  refine kws (Ci8 17 0 _ _ _ ls l 20 (by omega) hL (by omega) fun hp3 nx3 hal3=>?_)
  have hle3:=hal3.le
  have ha3:=ha2.trans hal3
  have k3:∀ j,j < es.nx+1→hp3.get j=hp1.get j:=fun j hj=>(hal3.same j (by omega)).trans (k2 j hj)
  cases c2:fewL l 20 with
  | false=>
   simp only [bSa,↓bSb]
   refine kws (A27 20 _ _ _ ?_)
   simp only [bSa,↓bSb,bP]
  | true=>
   have hx:=Bq9 c1 (by omega)
   have hc1:=Bv6 c1
   obtain ⟨hl20,hb⟩:=Ci7 c2
   simp only [bSa,↓bSb,LA k3]
   refine kws (Bh0 18 0 _ _ _ d a c x.dims x.attrs x.cells (by omega) (w1.ka hn ha3) (w2.ka hn ha3) (w3.ka hn ha3) hx.d hx.a hx.c (fun e he=>⟨(hx.e e he).1,(hx.e e he).2.1⟩) fun hp4 nx4 d4 hal4 har4=>?_)
   have hle4:=hal4.le
   have ha4:=ha3.trans hal4
   have k4:∀ j,j < es.nx+1→hp4.get j=hp1.get j:=fun j hj=>(hal4.same j (by omega)).trans (k3 j hj)
   obtain ⟨d4,a4,c4,rfl,v1,v2,v3⟩:=har4
   simp only [bSa,↓bSb]
   refine Ac5 fun hp5 hg5 hk5=>?_
   simp only [bR] at hg5 hk5
   have k45:∀ j,Bw nx3 nx4 j→hp5.get j=hp4.get j:=fun j hj=>hk5 j (by have:=hj.2; omega)
   simp only [bSa,↓bSb]
   refine Ac0 (n:=3) (id:=nx4) (ds:=[d4,a4,c4]) (by simp only [bR]) hg5 (by simp only [evt,bR,reduceCtorEq]; exact AR.live (x:=x) (v1.keep k45) (v2.keep k45) (v3.keep k45)) rfl rfl fun hp6 hg6 hk6=>?_
   simp only [bR] at hg6 hk6
   have hal6:Al hp4 nx4 hp6 (nx4+1):=⟨by omega,fun j hj=>by rw [hk6 j (by omega),hk5 j (by omega)]⟩
   have ha6:=ha4.trans hal6
   have k6:∀ j,j < es.nx+1→hp6.get j=hp1.get j:=fun j hj=>(hal6.same j (by omega)).trans (k4 j hj)
   simp only [bSa,↓bSb,LA k6,a1]
   refine kws (Bg7 2 0 _ _ _ _ ls x l (by omega) (hr ha6) hL hx (by omega) hb fun hp7 nx7 dy ry e hal7 har7 hap how=>?_)
   have hle7:=hal7.le
   have ha7:=ha6.trans hal7
   obtain ⟨dy,ay,cy,rfl,y1,y2,y3⟩:=har7
   have z0:=ext_a (e:=e) y1 y2 y3
   have z1:extD hp7 (.tup [.agg [dy,ay,cy],iv e]) 1=some (iv e):=ext21
   simp only [bSa,↓bSb,z0,z1]
   refine Ac5 fun hp8 hg8 hk8=>?_
   simp only [bR] at hg8 hk8
   have k78:∀ j,Bw (nx4+1) nx7 j→hp8.get j=hp7.get j:=fun j hj=>hk8 j (by have:=hj.2; omega)
   simp only [bSa,↓bSb]
   refine Ac0 (n:=3) (id:=nx7) (ds:=[dy,ay,cy]) (by simp only [bR]) hg8 (by simp only [evt,bR,reduceCtorEq]; exact AR.live (x:=ry) (y1.keep k78) (y2.keep k78) (y3.keep k78)) rfl rfl fun hp9 hg9 hk9=>?_
   simp only [bR] at hg9 hk9
   have hal9:Al hp7 nx7 hp9 (nx7+1):=⟨by omega,fun j hj=>by rw [hk9 j (by omega),hk8 j (by omega)]⟩
   have hal69:=hal7.trans hal9
   have gW9:hp9.get nx4=_:=(hal69.same nx4 (by omega)).trans hg6
   have lW9:=(Aa4 gW9).2.2.2.2
   have was:∀ {hp' nx'},Al hp6 (nx4+1) hp' nx'→AR hp' (Bw nx3 nx4) (.agg [d4,a4,c4]) x:=fun h=>⟨d4,a4,c4,rfl,v1.keep fun j hj=>by rw [h.same j (by have:=hj.2; omega),hal6.same j hj.2],v2.keep fun j hj=>by rw [h.same j (by have:=hj.2; omega),hal6.same j hj.2],v3.keep fun j hj=>by rw [h.same j (by have:=hj.2; omega),hal6.same j hj.2]⟩
   have up:∀ {hp' nx'},Al hp6 (nx4+1) hp' nx'→AR hp' (Bl nx') (.agg [d4,a4,c4]) x:=fun h=>by
    obtain ⟨_,_,_,e,q1,q2,q3⟩:=was h
    have hh:=h.le
    exact ⟨_,_,_,e,q1.mono fun j hj=>Nat.lt_of_lt_of_le hj.2 (by omega),q2.mono fun j hj=>Nat.lt_of_lt_of_le hj.2 (by omega),q3.mono fun j hj=>Nat.lt_of_lt_of_le hj.2 (by omega)⟩
   simp only [bSa,↓bSb,lW9,a1]
   refine kws (Bv7 11 (nx7+1) _ _ _ _ ls x l (Nat.le_refl _) (up hal69) (hL.mono fun j hj=>absurd hj (Nat.not_lt_zero j)) hx (by omega) hb fun hp10 nx10 dz rz f hal10 har10 hra=>?_)
   obtain ⟨rfl,rfl⟩:=ap_ra hap hra
   have hle10:=hal10.le
   obtain ⟨dz,az,cz,rfl,z1,z2,z3⟩:=har10
   have t0:=ext_a (e:=e) z1 z2 z3
   have t1:extD hp10 (.tup [.agg [dz,az,cz],iv e]) 1=some (iv e):=ext21
   simp only [bSa,↓bSb,t0,t1]
   refine Ac5 fun hp11 hg11 hk11=>?_
   simp only [bR] at hg11 hk11
   have k1011:∀ j,Bw (nx7+1) nx10 j→hp11.get j=hp10.get j:=fun j hj=>hk11 j (by have:=hj.2; omega)
   simp only [bSa,↓bSb]
   refine Ac0 (n:=3) (id:=nx10) (ds:=[dz,az,cz]) (by simp only [bR]) hg11 (by simp only [evt,bR,reduceCtorEq]; exact AR.live (x:=ry) (z1.keep k1011) (z2.keep k1011) (z3.keep k1011)) rfl rfl fun hp12 hg12 hk12=>?_
   simp only [bR] at hg12 hk12
   have hal12:Al hp9 (nx7+1) hp12 (nx10+1):=⟨by omega,fun j hj=>by rw [hk12 j (by omega),hk11 j (by omega),hal10.same j hj]⟩
   obtain ⟨hok,hry,hne⟩:=hap.ok hx (by omega) hb
   have gY12:hp12.get nx7=_:=(hal12.same nx7 (by omega)).trans hg9
   have lY12:=(Aa4 gY12).2.2.2.2
   have lZ12:=(Aa4 hg12).2.2.2.2
   have kY:∀ j,Bw (nx4+1) nx7 j→hp12.get j=hp7.get j:=fun j hj=>by rw [hal12.same j (by have:=hj.2; omega),hal9.same j hj.2]
   have kZ:∀ j,Bw (nx7+1) nx10 j→hp12.get j=hp10.get j:=fun j hj=>by rw [hk12 j (by have:=hj.2; omega),k1011 j hj]
   have uY:∀ j,Bw (nx4+1) nx7 j→Bl (nx10+1) j:=fun j hj=>by have:=hj.2; show j < nx10+1; omega
   have uZ:∀ j,Bw (nx7+1) nx10 j→Bl (nx10+1) j:=fun j hj=>by have:=hj.2; show j < nx10+1; omega
   simp only [bSa,↓bSb,lY12,lZ12,show decide (¬ e=e)=false by simp]
   refine kws (Ax2 18 (nx10+1) _ _ _ _ _ ry ry (Nat.le_refl _) ⟨dy,ay,cy,rfl,(y1.keep kY).mono uY,(y2.keep kY).mono uY,(y3.keep kY).mono uY⟩ ⟨dz,az,cz,rfl,(z1.keep kZ).mono uZ,(z2.keep kZ).mono uZ,(z3.keep kZ).mono uZ⟩ hok fun hp13 nx13 hal13=>?_)
   have hle13:=hal13.le
   have k13:∀ j,Bw (nx4+1) nx7 j→hp13.get j=hp7.get j:=fun j hj=>by rw [hal13.same j (uY j hj),kY j hj]
   have gY13:hp13.get nx7=_:=(hal13.same nx7 (by omega)).trans gY12
   simp only [bSa,↓bSb]
   refine Ci9 (p:=Bw (nx4+1) nx7) (Y:=nx7) (n:=ry.cells.length) (d:=dy) (a:=ay) (c:=cy) (l:=ry.cells) (by simp only []; omega) (fun h=>by have:=h.2; omega) (fun j hj=>by simp only []; have:=hj.2; omega) (by simp only []; exact y3.keep k13) (by simp only []; exact (y3.keep k13).shC ((how _ _ _ rfl).keep fun j hj=>k13 j (y3.refs j hj).1) hne) rfl (by omega) (by simp only []; exact gY13) (by simp only [bR]) (by simp only [bR]; rfl) fun es9 ⟨gn,gk,_,_⟩ gt=>?_
   have b1:=gt (.t (.l .o)) (by simp)
   have b2:=gt (.t (.r .o)) (by simp)
   have b5:=gt (.t (.l (.r .o))) (by simp)
   have b7:=gt (.t (.l (.l (.l .o)))) (by simp)
   have b8:=gt (.t (.r (.l (.l .o)))) (by simp)
   have b9:=gt (.t (.l (.r (.l .o)))) (by simp)
   clear gt
   simp only [bR,a1] at gn gk b1 b2 b5 b7 b8 b9
   have kL:∀ j,j < nx4+1∨(nx7 < j∧j < nx13)→es9.hp.get j=hp13.get j:=fun j hj=>gk j (by omega) fun h=>by have:=h.1; have:=h.2; omega
   have kX:∀ j,j < nx4+1→es9.hp.get j=hp6.get j:=fun j hj=>by rw [kL j (.inl hj),hal13.same j (by omega),hal12.same j (by omega),hal69.same j hj]
   have k9:∀ j,j < es.nx+1→es9.hp.get j=hp1.get j:=fun j hj=>(kX j (by omega)).trans (k6 j hj)
   have gW:=(kX nx4 (by omega)).trans hg6
   have gZ:=(kL nx10 (by omega)).trans ((hal13.same nx10 (by omega)).trans hg12)
   have wasL:AR es9.hp (Bl es9.nx) (.agg [d4,a4,c4]) x:=⟨d4,a4,c4,rfl,(v1.keep fun j hj=>by rw [kX j (by have:=hj.2; omega),hal6.same j hj.2]).mono fun j hj=>by have:=hj.2; show j < es9.nx; omega,(v2.keep fun j hj=>by rw [kX j (by have:=hj.2; omega),hal6.same j hj.2]).mono fun j hj=>by have:=hj.2; show j < es9.nx; omega,(v3.keep fun j hj=>by rw [kX j (by have:=hj.2; omega),hal6.same j hj.2]).mono fun j hj=>by have:=hj.2; show j < es9.nx; omega⟩
   have kZ9:∀ j,Bw (nx7+1) nx10 j→es9.hp.get j=hp10.get j:=fun j hj=>by rw [kL j (by have:=hj.1; have:=hj.2; omega),hal13.same j (uZ j hj),kZ j hj]
   have uZ9:∀ j,Bw (nx7+1) nx10 j→Bl es9.nx j:=fun j hj=>by have:=hj.2; show j < es9.nx; omega
   have zL:AR es9.hp (Bl es9.nx) (.agg [dz,az,cz]) ry:=⟨dz,az,cz,rfl,(z1.keep kZ9).mono uZ9,(z2.keep kZ9).mono uZ9,(z3.keep kZ9).mono uZ9⟩
   have k0:∀ {hp':Tr DObj},∀ j,Bl 0 j→hp'.get j=es.hp.get j:=fun j hj=>absurd hj (Nat.not_lt_zero j)
   have hr0:∀ {hp':Tr DObj},AR hp' (Bl 0) (.agg [d,a,c]) x:=⟨d,a,c,rfl,w1.keep k0,w2.keep k0,w3.keep k0⟩
   clear gk
   simp only [bSa,↓bSb,b1,b2,LA k9]
   refine kws (Bg7 2 0 _ _ _ _ ls x l (by omega) hr0 hL hx (by omega) hb fun hp14 nx14 dw rw' g hal14 har14 hap2 _=>?_)
   obtain ⟨rfl,rfl⟩:=ap_ra hap2 hra
   have hle14:=hal14.le
   obtain ⟨dw,aw,cw,rfl,x1,x2,x3⟩:=har14
   have s0:=ext_a (e:=g) x1 x2 x3
   have s1:extD hp14 (.tup [.agg [dw,aw,cw],iv g]) 1=some (iv g):=ext21
   simp only [bSa,↓bSb,s0,s1]
   refine Ac5 fun hp15 hg15 hk15=>?_
   simp only [bR] at hg15 hk15
   have k1415:∀ j,Bw es9.nx nx14 j→hp15.get j=hp14.get j:=fun j hj=>hk15 j (by have:=hj.2; omega)
   simp only [bSa,↓bSb]
   refine Ac0 (n:=3) (id:=nx14) (ds:=[dw,aw,cw]) (by simp only [bR]) hg15 (by simp only [evt,bR,reduceCtorEq]; exact AR.live (x:=rw') (x1.keep k1415) (x2.keep k1415) (x3.keep k1415)) rfl rfl fun hp16 hg16 hk16=>?_
   simp only [bR] at hg16 hk16
   have hal16:Al es9.hp es9.nx hp16 (nx14+1):=⟨by omega,fun j hj=>by rw [hk16 j (by omega),hk15 j (by omega),hal14.same j hj]⟩
   have k16:∀ j,j < es.nx+1→hp16.get j=hp1.get j:=fun j hj=>(hal16.same j (by omega)).trans (k9 j hj)
   have lW16:=(Aa4 ((hal16.same nx4 (by omega)).trans gW)).2.2.2.2
   simp only [bSa,↓bSb,b2,b5,LA k16,lW16]
   refine kws (Ax2 18 (nx14+1) _ _ _ _ _ x x (Nat.le_refl _) ⟨d,a,c,rfl,(w1.keep k0).bl (Nat.zero_le _),(w2.keep k0).bl (Nat.zero_le _),(w3.keep k0).bl (Nat.zero_le _)⟩ (wasL.fwd hal16) hx fun hp17 nx17 hal17=>?_)
   have hle17:=hal17.le
   have lZ17:=(Aa4 ((hal17.same nx10 (by omega)).trans ((hal16.same nx10 (by omega)).trans gZ))).2.2.2.2
   have lV17:=(Aa4 ((hal17.same nx14 (by omega)).trans hg16)).2.2.2.2
   have k1617:∀ j,Bw es9.nx nx14 j→hp17.get j=hp14.get j:=fun j hj=>by rw [hal17.same j (by have:=hj.2; omega),hk16 j (by have:=hj.2; omega),k1415 j hj]
   have u17:∀ j,Bw es9.nx nx14 j→Bl nx17 j:=fun j hj=>by have:=hj.2; show j < nx17; omega
   simp only [bSa,↓bSb,b7,b8,lZ17,lV17]
   refine kws (Ax2 18 nx17 _ _ _ _ _ rw' rw' (Nat.le_refl _) ⟨dw,aw,cw,rfl,(x1.keep k1617).mono u17,(x2.keep k1617).mono u17,(x3.keep k1617).mono u17⟩ ((zL.fwd hal16).fwd hal17) hok fun hp18 nx18 hal18=>?_)
   simp only [bSa,↓bSb]
   refine kws (A27 20 _ _ _ ?_)
   simp only [bSa,↓bSb,bP]
end Go.DD

/- What the model's memory reads as: structs, slices of structs, nested. Conditions: those that each theorem states. -/
namespace Go.DD
open Go Go.ChangeShapes Go.WideShapes Go.ChangeAt Go.RowKit
theorem lt_of_cell {W:World} {a:Addr} {v:Value} (h:W.cell? a=some v):a.block < W.heap.size:=by
 rcases Nat.lt_or_ge a.block W.heap.size with h' | h'
 ·exact h'
 ·simp [World.cell?,Array.getElem?_eq_none h'] at h
structure RC (W:World) (us:List Value) (ds:List DV):Prop where
 len:us.length=ds.length
 one:∀ u∈us,u.oneCell'=true
 rel:∀ (j:Nat) (u:Value) (d:DV),us[j]?=some u→ds[j]?=some d→RelI W (fun b=>b < W.heap.size) u d
theorem RC.nil (W:World):RC W [] []:=⟨rfl,fun u h=>by (cases h),fun j u d h=>by simp at h⟩
theorem RC.app {W:World} {us vs:List Value} {ds es:List DV} (h1:RC W us ds) (h2:RC W vs es):RC W (us ++ vs) (ds ++ es):=by
 refine ⟨by rw [List.length_append,List.length_append,h1.len,h2.len],fun u hu=>?_,fun j u d hu hd=>?_⟩
 ·rcases List.mem_append.1 hu with h | h
  ·exact h1.one u h
  ·exact h2.one u h
 ·rcases Nat.lt_or_ge j us.length with h | h
  ·rw [List.getElem?_append_left h] at hu
   rw [List.getElem?_append_left (by rw [← h1.len]; exact h)] at hd
   exact h1.rel j u d hu hd
  ·rw [List.getElem?_append_right h] at hu
   rw [List.getElem?_append_right (by rw [← h1.len]; exact h),← h1.len] at hd
   exact h2.rel _ u d hu hd
theorem RC.one1 {W:World} {u:Value} {d:DV} (h1:u.oneCell'=true) (h:RelI W (fun b=>b < W.heap.size) u d):RC W [u] [d]:=by
 refine ⟨rfl,fun v hv=>by rw [List.mem_singleton.1 hv]; exact h1,fun j v e hv he=>?_⟩
 cases j with
 | zero=>cases hv; cases he; exact h
 | succ j=>simp at hv
section
variable {H:Type} (enc:TypeId×Value→H) (P:Program) (W:World)
def Rd {α:Type} (t:TypeId) (F:α→List DV):Prop:=∀ (n:Nat) (cs:List Value) (x:DataW H×List MemPlace),DataW.trod enc P W 0 (fun _=>true) true n t cs=some x→∃ a:α,RC W cs (F a)
variable {enc P W}
theorem As2 {t:TypeId} (ht:P.underlying t=some (.int .i64)):Rd enc P W t (fun n:Int=>[iv n]):=fun n cs x h=>by
 obtain ⟨z,rfl,_,_⟩:=DataW.trod_int ht h
 exact ⟨z,.one1 rfl (.v _)⟩
theorem Bv8 {t:TypeId} (ht:P.underlying t=some .string):Rd enc P W t (fun s:ByteArray=>[sv s]):=fun n cs x h=>by
 obtain ⟨s,rfl,_,_⟩:=DataW.trod_string ht h
 exact ⟨s,.one1 rfl (.v _)⟩
theorem Ai5 {t:TypeId} {fs:Array Field} (ht:P.underlying t=some (.struct fs)) {n:Nat} {cs:List Value} {x:DataW H×List MemPlace} (h:DataW.trod enc P W 0 (fun _=>true) true n t cs=some x) (i:Nat) {ti oi:Nat} (hi:(fs.toList.map fun f=>(f.type,f.offset))[i]?=some (ti,oi)) :
  cs.length=P.cellsOf t∧∃ m y,DataW.trod enc P W 0 (fun _=>true) true m ti ((cs.drop oi).take (P.cellsOf ti))=some y:=by
 obtain ⟨xs,m,_,_,hl,hlen,hf⟩:=DataW.trod_struct ht h
 rw [List.getElem?_map] at hi
 obtain ⟨f,hf1,hf2⟩:=Option.map_eq_some_iff.1 hi
 cases hf2
 have hf1':fs[i]?=some f:=by rw [← hf1]; exact (Array.getElem?_toList).symm
 have hlt:i < fs.size:=by
  rcases Nat.lt_or_ge i fs.size with h | h
  ·exact h
  ·rw [Array.getElem?_eq_none h] at hf1'; cases hf1'
 have h2:=hf i f hf1'
 rw [List.getElem?_eq_getElem (by omega)] at h2
 exact ⟨hl,m,_,h2⟩
theorem Ar4 {α β:Type} {t t0 t1 k0 k1:Nat} {fs:Array Field} {F0:α→List DV} {F1:β→List DV} (ht:P.underlying t=some (.struct fs)) (hfs:fs.toList.map (fun f=>(f.type,f.offset))=[(t0,0),(t1,k0)]) (h0:P.cellsOf t0=k0) (h1:P.cellsOf t1=k1) (hC:P.cellsOf t=k0+k1) (r0:Rd enc P W t0 F0) (r1:Rd enc P W t1 F1):Rd enc P W t (fun p:α×β=>F0 p.1 ++ F1 p.2):=fun n cs x h=>by
 obtain ⟨hl,_,_,g0⟩:=Ai5 ht h 0 (by rw [hfs]; rfl)
 obtain ⟨_,_,_,g1⟩:=Ai5 ht h 1 (by rw [hfs]; rfl)
 obtain ⟨a,ha⟩:=r0 _ _ _ g0
 obtain ⟨b,hb⟩:=r1 _ _ _ g1
 rw [h0] at ha
 rw [h1,List.take_of_length_le (by rw [List.length_drop]; omega)] at hb
 refine ⟨(a,b),?_⟩
 have:=ha.app hb
 rw [List.drop_zero,List.take_append_drop] at this
 exact this
theorem Az8 {α β γ:Type} {t t0 t1 t2 k0 k1 k2:Nat} {fs:Array Field} {F0:α→List DV} {F1:β→List DV} {F2:γ→List DV} (ht:P.underlying t=some (.struct fs)) (hfs:fs.toList.map (fun f=>(f.type,f.offset))=[(t0,0),(t1,k0),(t2,k0+k1)]) (h0:P.cellsOf t0=k0) (h1:P.cellsOf t1=k1) (h2:P.cellsOf t2=k2) (hC:P.cellsOf t=k0+k1+k2) (r0:Rd enc P W t0 F0) (r1:Rd enc P W t1 F1) (r2:Rd enc P W t2 F2):Rd enc P W t (fun p:α×β×γ=>F0 p.1 ++ (F1 p.2.1 ++ F2 p.2.2)):=fun n cs x h=>by
 obtain ⟨hl,_,_,g0⟩:=Ai5 ht h 0 (by rw [hfs]; rfl)
 obtain ⟨_,_,_,g1⟩:=Ai5 ht h 1 (by rw [hfs]; rfl)
 obtain ⟨_,_,_,g2⟩:=Ai5 ht h 2 (by rw [hfs]; rfl)
 obtain ⟨a,ha⟩:=r0 _ _ _ g0
 obtain ⟨b,hb⟩:=r1 _ _ _ g1
 obtain ⟨c,hc⟩:=r2 _ _ _ g2
 rw [h0] at ha
 rw [h1] at hb
 rw [h2,List.take_of_length_le (by rw [List.length_drop]; omega)] at hc
 refine ⟨(a,b,c),?_⟩
 have h12:=hb.app hc
 rw [← List.drop_drop,List.take_append_drop] at h12
 have:=ha.app h12
 rw [List.drop_zero,List.take_append_drop] at this
 exact this
theorem Bj6 {α β γ δ:Type} {t t0 t1 t2 t3 k0 k1 k2 k3:Nat} {fs:Array Field} {F0:α→List DV} {F1:β→List DV} {F2:γ→List DV} {F3:δ→List DV} (ht:P.underlying t=some (.struct fs)) (hfs:fs.toList.map (fun f=>(f.type,f.offset))=[(t0,0),(t1,k0),(t2,k0+k1),(t3,k0+k1+k2)]) (h0:P.cellsOf t0=k0) (h1:P.cellsOf t1=k1) (h2:P.cellsOf t2=k2) (h3:P.cellsOf t3=k3) (hC:P.cellsOf t=k0+k1+k2+k3) (r0:Rd enc P W t0 F0) (r1:Rd enc P W t1 F1) (r2:Rd enc P W t2 F2) (r3:Rd enc P W t3 F3):Rd enc P W t (fun p:α×β×γ×δ=>F0 p.1 ++ (F1 p.2.1 ++ (F2 p.2.2.1 ++ F3 p.2.2.2))):=fun n cs x h=>by
 obtain ⟨hl,_,_,g0⟩:=Ai5 ht h 0 (by rw [hfs]; rfl)
 obtain ⟨_,_,_,g1⟩:=Ai5 ht h 1 (by rw [hfs]; rfl)
 obtain ⟨_,_,_,g2⟩:=Ai5 ht h 2 (by rw [hfs]; rfl)
 obtain ⟨_,_,_,g3⟩:=Ai5 ht h 3 (by rw [hfs]; rfl)
 obtain ⟨a,ha⟩:=r0 _ _ _ g0
 obtain ⟨b,hb⟩:=r1 _ _ _ g1
 obtain ⟨c,hc⟩:=r2 _ _ _ g2
 obtain ⟨e,he⟩:=r3 _ _ _ g3
 rw [h0] at ha
 rw [h1] at hb
 rw [h2] at hc
 rw [h3,List.take_of_length_le (by rw [List.length_drop]; omega)] at he
 refine ⟨(a,b,c,e),?_⟩
 have x1:cs.drop (k0+k1)=(cs.drop k0).drop k1:=by rw [List.drop_drop]
 have x2:cs.drop (k0+k1+k2)=(cs.drop (k0+k1)).drop k2:=by rw [List.drop_drop]
 have h23:=hc.app he
 rw [x2,List.take_append_drop] at h23
 have h12:=hb.app h23
 rw [x1,List.take_append_drop] at h12
 have:=ha.app h12
 rw [List.drop_zero,List.take_append_drop] at this
 exact this
theorem Az9 {α β:Type} {t:TypeId} {F:α→List DV} {G:β→List DV} (h:Rd enc P W t F) (f:α→β) (hf:∀ a,F a=G (f a)):Rd enc P W t G:=fun n cs x hx=>by
 obtain ⟨a,ha⟩:=h n cs x hx
 exact ⟨f a,by rw [← hf]; exact ha⟩
theorem Aj7 {α:Type} {t e ce:Nat} {F:α→List DV} (ht:P.underlying t=some (.slice e)) (hce:P.cellsOf e=ce) (hpos:0 < ce) (r:Rd enc P W e F):Rd enc P W t (fun l:List α=>[.sl (l.flatMap F) l.length]):=fun n cs x h=>by
 rcases DataW.trod_slice ht h with ⟨rfl,_⟩ | ⟨a,len,cap,elems,rest,m,_,rfl,_,_,hle,_,hel,hget,_,_⟩
 ·exact ⟨[],.one1 rfl (.sl0 _ _)⟩
 ·rw [hce] at hget
  have key:∀ k,k≤len→∃ (l:List α) (us:List Value),l.length=k∧RC W us (l.flatMap F)∧us.length=k*ce∧∀ (j:Nat) (u:Value),us[j]?=some u→W.cell? (a.add j)=some u:=by
   intro k
   induction k with
   | zero=>intro _; exact ⟨[],[],rfl,RC.nil W,by simp,fun j u h=>by simp at h⟩
   | succ k ih=>
    intro hk
    obtain ⟨l,us,h1,h2,h3,h4⟩:=ih (by omega)
    have hg:=hget k (by omega)
    rw [List.getElem?_eq_getElem (by omega)] at hg
    obtain ⟨cs,hcs,htr⟩:=Option.bind_eq_some_iff.1 hg
    obtain ⟨b,hb⟩:=r _ _ _ htr
    obtain ⟨_,hcl,hcc⟩:=World.cells?_some hcs
    refine ⟨l ++ [b],us ++ cs,by simp [h1],?_,by rw [List.length_append,h3,hcl,Nat.add_mul,Nat.one_mul],fun j u hu=>?_⟩
    ·rw [List.flatMap_append]
     have:[b].flatMap F=F b:=by simp
     rw [this]
     exact h2.app hb
    ·rcases Nat.lt_or_ge j us.length with hj | hj
     ·rw [List.getElem?_append_left hj] at hu
      exact h4 j u hu
     ·rw [List.getElem?_append_right hj] at hu
      have hlt:j - us.length < cs.length:=(List.getElem?_eq_some_iff.1 hu).1
      have:=hcc (j - us.length) (by omega)
      rw [add_add,hu] at this
      rw [← this]
      congr 2
      omega
  obtain ⟨l,us,h1,h2,h3,h4⟩:=key len (Nat.le_refl _)
  refine ⟨l,.one1 rfl ?_⟩
  by_cases h0:len=0
  ·subst h0
   obtain rfl:l=[]:=List.length_eq_zero_iff.1 h1
   exact .sl0 _ _
  ·rw [h1]
   refine .sl a len cap us _ h2.len hle ?_ h2.one h4 h2.rel
   have hlt:0 < us.length:=by rw [h3]; exact Nat.mul_pos (by omega) hpos
   have:=lt_of_cell (h4 0 _ (List.getElem?_eq_getElem hlt))
   rwa [Go.DD.block_add] at this
end
end Go.DD

/- From a contract to a law's statement: a law that answers true and of what was there turns nothing. Conditions: none beyond those that each theorem states. -/
namespace Go.DD
open Go Go.RowKit Go.ChangeShapes
theorem A34 {H:Type} {enc:TypeId×Value→H} {P:Program} {f:Func} {s:ChangeSpec} {apart fresh handsOn again:Bool} {W W':World} {args:Array Value} {v:Value} {ds gs:List (DataW H)} {before pa pv:List MemPlace}
  (hW:DataW.Whole enc P f.params.toList s.vars apart W args.toList ds gs before)
  (hres:∀ (b:Nat) (sp:Nat→Bool) (hd:Bool),DataW.TrodAll enc P W' b sp hd f.resultTypes.toList (v.resultList f.resultTypes.size) (s.fn H (ds ++ gs)).results [])
  (hargs:∀ sp:Nat→Bool,(∀ p∈before,sp p.block=true)→DataW.TrodAll enc P W' 0 sp true f.params.toList args.toList (s.fn H (ds ++ gs)).args pa)
  (hvars:∀ sp:Nat→Bool,(∀ p∈before,sp p.block=true)→DataW.TrodVars enc P W' sp s.vars (s.fn H (ds ++ gs)).vars pv)
  (hps:before=pa ++ pv) (hk:Below W.heap.size W W')
  (hok:∀ (j:Nat) (t:TypeId) (r:Value),f.resultTypes[j]?=some t→(v.resultList f.resultTypes.size)[j]?=some r→Value.okWide P W' .any 0 t r) :
  s.post enc P f apart fresh handsOn again W args v W':=by
 have hold:∀ p∈before,(fun b=>decide (b < W.heap.size)) p.block=true:=fun p hp=>by simpa using hW.lt p hp
 have hlt:=hW.lt
 refine ⟨ds,gs,before,[],pa,pv,hW,hres _ _ _,hargs _ hold,hvars _ hold,hk.frame _,fun _=>?_⟩
 obtain ⟨_,_,_,_,_,hz,hn⟩:=hW
 refine ⟨hok,_,_,([] ++ pa) ++ pv,⟨[] ++ pa,pv,trodAll_append (hargs _ (fun _ _=>rfl)) (hres _ _ _),hvars _ (fun _ _=>rfl),rfl,?_,?_⟩,?_⟩
 ·intro b off hp
  have hp':MemPlace.cell b off∈before:=by rw [hps]; simpa using hp
  rw [hk.frozen (hlt _ hp')]
  exact hz b off hp'
 ·intro ha
  have:=hn ha
  rw [hps] at this
  simpa using this
 ·intro p hp _
  rw [hps]
  simpa using hp
theorem DCall.law {P:Program} {f:FuncId} {args:List DV} (h:DCall P f args fun d=>d=.v (.bool true)) (w:World) {vs:List Value} (hl:vs.length=args.length)
  (hr:∀ (j:Nat) (v:Value) (d:DV),vs[j]?=some v→args[j]?=some d→RelI w (fun b=>b < w.heap.size) v d) (hg:∀ x d,GLV x d→RelI w (fun b=>b < w.heap.size) x d) :
  Calls P f vs.toArray w fun e w'=>e=.returned (.bool true)∧Below w.heap.size w w':=
 (h w (fun b=>b < w.heap.size) vs (fun _ h=>h) hl hr hg).mono fun _ _ ⟨v,r,he,hr,hb,hv⟩=>by
  subst hr
  cases hv
  exact ⟨he,hb⟩
end Go.DD

/- What the arguments of chapter 08's statements read as. Conditions: those that each theorem states. -/
namespace Go.DD
open Go Go.Proofs Go.ChangeShapes Go.WideShapes Go.ChangeAt Go.RowKit
theorem own8:ownKnob Tryz.prog.godebug=none:=by kernel_rfl
theorem u2:Tryz.prog.underlying 2=some (.int .i64):=by kernel_rfl
theorem u3:Tryz.prog.underlying 3=some (.int .i64):=by kernel_rfl
theorem u4:Tryz.prog.underlying 4=some .bool:=by kernel_rfl
theorem u9:Tryz.prog.underlying 9=some .string:=by kernel_rfl
theorem u22:Tryz.prog.underlying 22=some (.slice 129):=by kernel_rfl
theorem u23:Tryz.prog.underlying 23=some (.slice 131):=by kernel_rfl
theorem u24:Tryz.prog.underlying 24=some (.slice 39):=by kernel_rfl
theorem u36:Tryz.prog.underlying 36=some (.slice 3):=by kernel_rfl
theorem u37:Tryz.prog.underlying 37=some (.slice 41):=by kernel_rfl
noncomputable def fsOf (t:Nat):Array Field:=match Tryz.prog.underlying t with
 | some (.struct fs)=>fs
 | _=>#[]
theorem uArr:Tryz.prog.underlying 26=some (.struct (fsOf 26)):=by kernel_rfl
theorem uCell:Tryz.prog.underlying 39=some (.struct (fsOf 39)):=by kernel_rfl
theorem uVal:Tryz.prog.underlying 41=some (.struct (fsOf 41)):=by kernel_rfl
theorem uDim:Tryz.prog.underlying 129=some (.struct (fsOf 129)):=by kernel_rfl
theorem uAttr:Tryz.prog.underlying 131=some (.struct (fsOf 131)):=by kernel_rfl
section
variable {H:Type} {enc:TypeId×Value→H} {W:World}
set_option maxRecDepth 100000 in
theorem rdVal:Rd enc Tryz.prog W 41 (fun v:PVal=>rVal.cells v):=
 Az9 (Bj6 (t0:=3) (t1:=2) (t2:=2) (t3:=9) (k0:=1) (k1:=1) (k2:=1) (k3:=1) uVal (by kernel_rfl) (by kernel_rfl) (by kernel_rfl) (by kernel_rfl) (by kernel_rfl) (by kernel_rfl) (As2 u3) (As2 u2) (As2 u2) (Bv8 u9)) (fun p=>⟨p.1,p.2.1,p.2.2.1,p.2.2.2⟩) fun _=>rfl
set_option maxRecDepth 100000 in
theorem rdDim:Rd enc Tryz.prog W 129 (fun v:PDim=>rDim.cells v):=
 Az9 (Az8 (t0:=9) (t1:=3) (t2:=3) (k0:=1) (k1:=1) (k2:=1) uDim (by kernel_rfl) (by kernel_rfl) (by kernel_rfl) (by kernel_rfl) (by kernel_rfl) (Bv8 u9) (As2 u3) (As2 u3)) (fun p=>⟨p.1,p.2.1,p.2.2⟩) fun _=>rfl
set_option maxRecDepth 100000 in
theorem Cr3:Rd enc Tryz.prog W 131 (fun v:PAttr=>rAttr.cells v):=
 Az9 (Ar4 (t0:=9) (t1:=3) (k0:=1) (k1:=1) uAttr (by kernel_rfl) (by kernel_rfl) (by kernel_rfl) (by kernel_rfl) (Bv8 u9) (As2 u3)) (fun p=>⟨p.1,p.2⟩) fun _=>rfl
set_option maxRecDepth 100000 in
theorem Cr4:Rd enc Tryz.prog W 39 (fun v:PCell=>rCell.cells v):=
 Az9 (Ar4 (t0:=36) (t1:=37) (k0:=1) (k1:=1) uCell (by kernel_rfl) (by kernel_rfl) (by kernel_rfl) (by kernel_rfl) (Aj7 (ce:=1) u36 (by kernel_rfl) (by decide) (As2 u3)) (Aj7 (ce:=4) u37 (by kernel_rfl) (by decide) rdVal)) (fun p=>⟨p.1,p.2⟩) fun _=>rfl
def arrC (x:PArr):List DV:=[.sl (x.dims.flatMap rDim.cells) x.dims.length,.sl (x.attrs.flatMap rAttr.cells) x.attrs.length,.sl (x.cells.flatMap rCell.cells) x.cells.length]
set_option maxRecDepth 100000 in
theorem rdArr:Rd enc Tryz.prog W 26 arrC:=
 Az9 (Az8 (t0:=22) (t1:=23) (t2:=24) (k0:=1) (k1:=1) (k2:=1) uArr (by kernel_rfl) (by kernel_rfl) (by kernel_rfl) (by kernel_rfl) (by kernel_rfl) (Aj7 (ce:=3) u22 (by kernel_rfl) (by decide) rdDim) (Aj7 (ce:=2) u23 (by kernel_rfl) (by decide) Cr3) (Aj7 (ce:=2) u24 (by kernel_rfl) (by decide) Cr4)) (fun p=>⟨p.1,p.2.1,p.2.2⟩) fun _=>rfl
set_option maxRecDepth 100000 in
theorem Cj0 {base:Nat} {v:Value} {d:DataW H} {p:List MemPlace} (hval:Value.okWide Tryz.prog W .any base 26 v) (h:DataW.Trod enc Tryz.prog W 0 (fun _=>true) true 26 v d p):∃ x:PArr,RelI W (fun b=>b < W.heap.size) v (dArr x):=by
 obtain ⟨cs,e,_⟩:=okWide_struct uArr hval
 subst e
 obtain ⟨fuel,hf⟩:=h
 obtain ⟨x,hx⟩:=rdArr _ _ _ hf
 refine ⟨x,?_⟩
 have this:RelI W (fun b=>b < W.heap.size) (.agg cs.toList.toArray) (dArr x):=RelI.agg (w:=W) (al:=fun b=>b < W.heap.size) cs.toList (arrC x) hx.len hx.one hx.rel
 rw [Array.toArray_toList] at this
 exact this
end
end Go.DD

/- VersionApplies, the statement: for every input the call returns true and each argument reads afterwards as before. Conditions: none. -/
namespace Go.Proofs.YtnphfnhhpcelbaaGreat.versionApplies
open Go.ChangeShapes Go.WideShapes Go.ChangeAt Go.RowKit Go.DD

theorem uChs : Tryz.prog.underlying 27 = some (.slice 62) := by kernel_rfl
theorem uChg : Tryz.prog.underlying 62 = some (.struct (fsOf 62)) := by kernel_rfl
section
variable {H : Type} {enc : TypeId × Value → H} {W : World}
set_option maxRecDepth 100000 in
theorem rdChg : Rd enc Tryz.prog W 62 (fun v : PCell => rChange.cells v) :=
  Az9 (Ar4 (t0 := 36) (t1 := 37) (k0 := 1) (k1 := 1) uChg (by kernel_rfl) (by kernel_rfl) (by kernel_rfl) (by kernel_rfl) (Aj7 (ce := 1) u36 (by kernel_rfl) (by decide) (As2 u3)) (Aj7 (ce := 4) u37 (by kernel_rfl) (by decide) rdVal)) (fun p => ⟨p.1, p.2⟩) fun _ => rfl
set_option maxRecDepth 100000 in
/-- An argument that is a list of changes. -/
theorem Cj1 {base : Nat} {v : Value} {d : DataW H} {p : List MemPlace} (hval : Value.okWide Tryz.prog W .any base 27 v) (h : DataW.Trod enc Tryz.prog W 0 (fun _ => true) true 27 v d p) : ∃ l : List PCell, RelI W (fun b => b < W.heap.size) v (dChs l) := by
  obtain ⟨a, n, m, rfl⟩ := okWide_slice uChs hval
  obtain ⟨fuel, hf⟩ := h
  obtain ⟨l, hl⟩ := Aj7 (ce := 2) uChs (by kernel_rfl) (by decide) rdChg _ _ _ hf
  exact ⟨l, hl.rel 0 _ _ rfl rfl⟩
end
theorem walk (x : PArr) (l : List PCell) {W : World} {v u : Value} (hx : RelI W (fun b => b < W.heap.size) v (dArr x)) (hy : RelI W (fun b => b < W.heap.size) u (dChs l)) :
    Calls Tryz.prog 3 #[v, u] W fun e w' => e = .returned (.bool true) ∧ Below W.heap.size W w' := by
  refine DCall.law (vs := [v, u]) (A94 x l).2.2 W rfl (fun j w d hw hd => ?_) (fun x d h => ?_)
  · match j with
    | 0 => cases hw; cases hd; exact hx
    | 1 => cases hw; cases hd; exact hy
    | j + 2 => cases hw
  · obtain ⟨g, cs, h, _⟩ := h
    cases h

set_option maxRecDepth 100000 in
theorem lifted (os : Os) (started : os.Started) (H : Type) (enc : TypeId × Value → H) :
    ReturnsInHanded {} Tryz.checked os 3 .any (Rows.versionAppliesSpec.pre6 enc Tryz.prog Tryz.f3 Rows.versionAppliesRow.domain false) (Rows.versionAppliesSpec.post enc Tryz.prog Tryz.f3 false true false false) := by
  refine returnsInHanded_of_change (C := Tryz.checked) own8 started (by kernel_rfl) Tryz.func3
    (ChangeSpec.witness6 (enc := enc) (C := Tryz.checked) false ⟨#[], #[.agg #[.slice none 0 0, .slice none 0 0, .slice none 0 0], .slice none 0 0], []⟩ 3 (by kernel_rfl) (by kernel_rfl) (by kernel_rfl) (by kernel_rfl)) ?_
  intro W base args ds gs before hval0 hW hcnd _
  have hval : ∀ (j : Nat) t v, Tryz.f3.params[j]? = some t → args[j]? = some v → Value.okWide Tryz.prog W .any base t v := hval0
  have hW' := hW
  have hlt := hW.lt
  obtain ⟨p, q, hA0, hV, rfl, hfz, hnd⟩ := hW
  have hA : DataW.TrodAll enc Tryz.prog W 0 (fun _ => true) true Tryz.f3.params.toList args.toList ds p := hA0
  rw [Tryz.params3] at hA hval
  obtain ⟨v0, v1, d0, d1, p0, p1, rfl, rfl, rfl, h0, h1⟩ := trodAll_two hA
  obtain ⟨rfl, rfl⟩ := trodVars_none hV
  obtain ⟨x, hx0⟩ := Cj0 (hval 0 _ v0 rfl rfl) h0
  obtain ⟨l, hx1⟩ := Cj1 (hval 1 _ v1 rfl rfl) h1
  clear hA0 hval0
  simp only [List.append_nil] at hW' hlt
  refine (walk x l hx0 hx1).mono fun e W' ⟨he, hg⟩ => ?_
  subst he
  exact ⟨_, rfl, A34 (pa := p0 ++ p1) (pv := []) hW' (fun _ _ _ => trodAll_mk1 (shut_bool u4 _))
    (fun sp hsp => trodAll_mk2 (WideElems.Trod_stays (by kernel_rfl) (by kernel_rfl) (by decide +kernel) h0 (fun x hx => hg.same (hlt x (List.mem_append_left _ hx))) (fun x hx => hsp x (List.mem_append_left _ hx))) (WideElems.Trod_stays (by kernel_rfl) (by kernel_rfl) (by decide +kernel) h1 (fun x hx => hg.same (hlt x (List.mem_append_right _ hx))) (fun x hx => hsp x (List.mem_append_right _ hx))))
    (fun _ _ => rfl) (by simp) hg (ok_one (by kernel_rfl) rfl (okWide_bool_mk u4 _))⟩

theorem o1 : (Rows.versionAppliesRow.inPlace == Tryz.pinned.checked.prog.inPlace 3) = true := by kernel_rfl
theorem o2 : (Rows.versionAppliesRow.unfollowed == Tryz.pinned.checked.prog.unfollowed 3) = true := by kernel_rfl
theorem o3 : (Rows.versionAppliesRow.recurses == Tryz.pinned.checked.prog.recurses 3) = true := by kernel_rfl
theorem o4 : (Rows.versionAppliesRow.named == Tryz.pinned.checked.prog.varsNamed 3) = true := by kernel_rfl
theorem o5 : joinedFacts Tryz.pinned.checked.prog 3 Tryz.f3 Rows.versionAppliesSpec Rows.versionAppliesRow = true := by
  unfold joinedFacts
  rw [o1, o2, o3, o4]
  kernel_rfl
theorem over : Rows.versionAppliesRow.holds Tryz.pinned (OpenSpec.ofChange Rows.versionAppliesSpec) :=
  OpenClaim.holds_of_wide 3 Tryz.f3 rfl rfl rfl rfl rfl rfl rfl ⟨rfl, rfl, rfl, rfl, rfl⟩ rfl rfl rfl rfl rfl (by kernel_rfl) Tryz.func3 o5
    (of_decide_eq_true (by kernel_rfl)) (by unfold Func.isWrapper; first | (rw [if_pos (by decide +kernel)]; kernel_rfl) | (rw [if_neg (by decide +kernel)]; exact ⟨rfl, rfl⟩))
    (fun os started H enc _ => lifted os started H enc)

/-- The statement. -/
theorem proved : Rows.VersionAppliesSaid :=
  over
#print axioms proved
end Go.Proofs.YtnphfnhhpcelbaaGreat.versionApplies
