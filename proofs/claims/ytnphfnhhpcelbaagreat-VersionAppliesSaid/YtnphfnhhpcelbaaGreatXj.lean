/- A part. -/
import Derived.Test.YtnphfnhhpcelbaaGreatXi
set_option linter.unusedSectionVars false
set_option linter.unusedVariables false
namespace Go.DD
open Go Go.Proofs
theorem Ac6 {hp:Tr DObj} {id T:Nat} {a b:DV} (h:hp.get id=some (.row T [a,b])):(faD hp 0 (.pt id 0)=some (.pt id 0)∧faD hp 1 (.pt id 0)=some (.pt id 1))∧ldD hp none (.pt id 0)=some a∧ldD hp none (.pt id 1)=some b∧ldD hp (some 2) (.pt id 0)=some (.agg [a,b]):=by
 refine ⟨⟨fa_p h,fa_p h⟩,?_,?_,?_⟩ <;> rw [ld_p h] <;> rfl
def slen (v:PVal):Prop:=v.s.size < 900000
theorem Aq2 {hp:Tr DObj} {p:Nat→Prop} {a b:DV} {c:PCell} (h1:RL rInt hp p a c.pos) (h2:RL rVal hp p b c.vals):liveE hp (.agg [a,b])=.agg [a,b]:=Ah8 fun id hid=>by
 have:id∈a.refs∨id∈b.refs:=by simpa [DV.refs,DV.refsL] using hid
 exact this.elim (fun h=>(h1.refs id h).2) fun h=>(h2.refs id h).2
section
variable (k n0:Nat) (hp:Tr DObj) (nx:Nat) (K:DV→Tr DObj→Nat→Prop) (d a x y:DV) (l:List PDim) (m:List PAttr) (c:PCell) (hn:n0≤nx) (h1:RL rDim hp (Bl n0) d l) (h2:RL rAttr hp (Bl n0) a m) (h3:RL rInt hp (Bl n0) x c.pos) (h4:RL rVal hp (Bl n0) y c.vals) (hl:l.length < 900000) (hm:m.length < 900000) (hs:∀ v∈c.vals,slen v)
include hn h1 h2 h3 h4 hl hm hs
theorem Bq7 (hK:∀ hp' nx',Al hp nx hp' nx'→K (iv (cellE l m c)) hp' nx'):KW (kN (k+6)) (.fn 122) [d,a,.agg [x,y]] hp nx K:=by
 refine kn_1 (Aa2 (by decide)) t122 (Nat.le_of_ble_eq_true rfl) fun es e1 e2 he=>?_
 have a0:rawE es (.t .o)=d:=he 0 _ rfl
 have a1:rawE es (.t (.l .o))=a:=he 1 _ rfl
 have a2:rawE es (.t (.r .o))=.agg [x,y]:=he 2 _ rfl
 unfold r122
 simp only [↓bSb]
 refine Ab0 (cs:=[x,y]) (by rw [evt,a2,e1]; exact Aq2 h3 h4) fun hp1 hg1 hk1=>?_
 simp only [bR,e1,e2] at hg1 hk1
 obtain ⟨⟨f0,f1⟩,l0,l1,_⟩:=Ac6 hg1
 have hal1:Al hp nx hp1 (nx+1):=⟨by omega,fun j hj=>hk1 j (by omega)⟩
 have r1:=h1.ka hn hal1
 have r2:=h2.ka hn hal1
 have r3:=h3.ka hn hal1
 have r4:=h4.ka hn hal1
 unfold cellE at hK
 by_cases c1:c.pos.length=l.length
 ·by_cases c2:c.vals.length=m.length
  ·rw [if_neg (by omega)] at hK
   simp only [bSa,↓bSb,a0,a1,e2,f0,f1,l0,l1,r1.len,r2.len,r3.len,r4.len,show decide (¬ c.pos.length=l.length)=false by simp [c1],show decide (¬ c.vals.length=m.length)=false by simp [c2]]
   refine kws (kn_of (k:=k+3) n0 _ _ _ d x l c.pos (by omega) r1 r3 (by omega) fun hp2 nx2 hal2=>?_)
   have hle2:=hal2.le
   have hg2:=(hal2.same nx (by omega)).trans hg1
   obtain ⟨⟨q0,q1⟩,m0,m1,_⟩:=Ac6 hg2
   have u4:=r4.ka (by omega:n0≤nx+1) hal2
   cases c3:ofB l c.pos with
   | false=>
    rw [if_pos c3] at hK
    simp only [bSa,↓bSb,bP]
    exact hK _ _ (hal1.trans hal2)
   | true=>
    rw [if_neg (by rw [c3]; simp)] at hK
    simp only [bSa,↓bSb,e2,q1,m1,u4.len]
    refine EW.up c.vals.length (fun i es1=>Al hp nx es1.hp es1.nx∧nx2≤es1.nx∧rawE es1 (.t (.l .o))=a∧rawE es1 (.t (.l (.r (.r (.r .o)))))=y∧rawE es1 (.t (.r (.r (.r (.r .o)))))=iv c.vals.length∧rawE es1 (.t (.l (.l (.l (.l (.l .o))))))=iv (i:Nat)∧fitsL c.vals m=fitsL (c.vals.drop i) (m.drop i)) ?_ ?_ (by omega)
    ·rintro i es1 hi ⟨g,gn,b1,b29,b30,b31,hc⟩
     unfold B68
     have hle:=g.le
     by_cases h:i < c.vals.length
     ·have h':i < m.length:=by omega
      have w4:=h4.ka hn g
      rw [A86 h h'] at hc
      simp only [bSa,↓bSb,b29,b30,b31,h,An0 w4 h,Ao5 w4 h]
      refine Ac5 fun hp3 hg3 hk3=>?_
      simp only [bR] at hg3 hk3
      simp only [bSa,↓bSb]
      refine Ac0 (id:=es1.nx) (ds:=vc c.vals[i]) (by simp only [bR]) hg3 (by simp only [evt,bR,reduceCtorEq]; exact Ab6 rfl) rfl rfl fun hp4 hg4 hk4=>?_
      simp only [bR] at hg4 hk4
      obtain ⟨_,_,_,_,_,t4⟩:=vc_fa hg4
      have g4:Al hp nx hp4 (es1.nx+1):=⟨by omega,fun j hj=>by rw [hk4 j (by omega),hk3 j (by omega),g.same j hj]⟩
      have w2:=h2.ka hn g4
      simp only [bSa,↓bSb,b1,t4,Ae6 w2 h',Ai4 (k:=1) w2 h',(Ae5 w2 h').2.2.2,w2.rox (show n0≤es1.nx+1 by omega),Aj2 w2 (show n0≤es1.nx+1 by omega),Aw7 w2 (show n0≤es1.nx+1 by omega),Aa1 (n0:=es1.nx+1) (m:=8) hg4 (show es1.nx < es1.nx+1 by omega),An8 (show DV.refsL (vc c.vals[i])=[] from rfl)]
      refine Aa0 rfl (Aa7 ?_)
      simp only [bR,List.map_cons,List.map_nil]
      refine Bq4 (k:=k) _ _ _ c.vals[i] m[i].type (hs _ (List.getElem_mem h)) fun hp5 nx5 hal5=>?_
      have hle5:=hal5.le
      have g5:=(g4.nx (by omega:es1.nx+1≤es1.nx+1+8)).trans hal5
      cases c4:fitsV c.vals[i] m[i].type with
      | false=>
       rw [if_pos c4] at hc
       rw [hc] at hK
       simp only [bSa,↓bSb,bP,hle5]
       exact hK _ _ g5
      | true=>
       rw [if_neg (by rw [c4]; simp)] at hc
       simp only [bSa,↓bSb,b1,b29,b30,b31,h,hle5,Aa3 (show i < _ by omega)]
       exact ⟨g5,by omega,hc⟩
     ·simp only [bSa,↓bSb,bP,b30,b31,h]
      rw [A87 (by omega)] at hc
      rw [hc] at hK
      exact hK _ _ g
    ·simp only [bSa,a1]
     exact hal1.trans hal2
  ·rw [if_pos (.inr c2)] at hK
   simp only [bSa,↓bSb,bP,a0,a1,e2,f0,f1,l0,l1,r1.len,r2.len,r3.len,r4.len,show decide (¬ c.pos.length=l.length)=false by simp [c1],c2]
   exact hK _ _ hal1
 ·rw [if_pos (.inl c1)] at hK
  simp only [bSa,↓bSb,bP,a0,e2,f0,l0,r1.len,r3.len,c1]
  exact hK _ _ hal1
theorem Bf9 (hK:∀ hp' nx',Al hp nx hp' nx'→K (iv (cellE l m c)) hp' nx'):KW (kN (k+7)) (.fn 133) [d,a,.agg [x,y]] hp nx K:=by
 refine kn_1 (Aa2 (by decide)) t133 (Nat.le_of_ble_eq_true rfl) fun es e1 e2 he=>?_
 have a0:rawE es (.t .o)=d:=he 0 _ rfl
 have a1:rawE es (.t (.l .o))=a:=he 1 _ rfl
 have a2:rawE es (.t (.r .o))=.agg [x,y]:=he 2 _ rfl
 unfold r133
 simp only [↓bSb]
 refine Ab0 (cs:=[x,y]) (by rw [evt,a2,e1]; exact Aq2 h3 h4) fun hp1 hg1 hk1=>?_
 simp only [bR,e1,e2] at hg1 hk1
 obtain ⟨⟨f0,f1⟩,l0,l1,_⟩:=Ac6 hg1
 have hal1:Al hp nx hp1 (nx+1):=⟨by omega,fun j hj=>hk1 j (by omega)⟩
 have r1:=h1.ka hn hal1
 have r2:=h2.ka hn hal1
 have r3:=h3.ka hn hal1
 have r4:=h4.ka hn hal1
 unfold cellE at hK
 by_cases c1:c.pos.length=l.length
 ·by_cases c2:c.vals.length=m.length
  ·rw [if_neg (by omega)] at hK
   simp only [bSa,↓bSb,a0,a1,e2,f0,f1,l0,l1,r1.len,r2.len,r3.len,r4.len,show decide (¬ c.pos.length=l.length)=false by simp [c1],show decide (¬ c.vals.length=m.length)=false by simp [c2]]
   refine kws (Bq6 (k:=k+4) n0 _ _ _ d x l c.pos (by omega) r1 r3 (by omega) fun hp2 nx2 hal2=>?_)
   have hle2:=hal2.le
   have hg2:=(hal2.same nx (by omega)).trans hg1
   cases c3:ofB l c.pos with
   | false=>
    rw [if_pos c3] at hK
    simp only [bSa,↓bSb,bP]
    exact hK _ _ (hal1.trans hal2)
   | true=>
    rw [if_neg (by rw [c3]; simp)] at hK
    simp only [bSa,↓bSb,e2]
    refine EW.up m.length (fun i es1=>Al hp nx es1.hp es1.nx∧nx2≤es1.nx∧es1.hp.get nx=some (.row 39 [x,y])∧rawE es1 (.t (.l .o))=a∧rawE es1 (.t (.l (.r .o)))=.pt nx 0∧rawE es1 (.t (.l (.l (.l .o))))=iv (i:Nat)∧fitsL c.vals m=fitsL (c.vals.drop i) (m.drop i)) ?_ ?_ (by omega)
    ·rintro i es1 hi ⟨g,gn,hg,b1,b5,b7,hc⟩
     unfold B70
     have hle:=g.le
     have w4:=h4.ka hn g
     have w2:=h2.ka hn g
     by_cases h':i < m.length
     ·have h:i < c.vals.length:=by omega
      obtain ⟨⟨_,q1⟩,_,m1,_⟩:=Ac6 hg
      rw [A86 h h'] at hc
      simp only [bSa,↓bSb,b1,b5,b7,h',q1,m1,w2.len,An0 w4 h,Ao5 w4 h,Ae6 w2 h',Ai4 (k:=1) w2 h',(Ae5 w2 h').2.2.2,w2.rox (show n0≤es1.nx by omega),w4.rox (show n0≤es1.nx by omega),Aq0 w4 (show n0≤es1.nx by omega),Aj2 w2 (show n0≤es1.nx by omega),Aw7 w2 (show n0≤es1.nx by omega),Aa1 (n0:=es1.nx) (m:=12) hg (show nx < es1.nx by omega),An8 (show DV.refsL (vc c.vals[i])=[] from rfl)]
      refine Aa0 rfl (Aa7 ?_)
      simp only [bR,List.map_cons,List.map_nil]
      refine B08 (k:=k) _ _ _ c.vals[i] m[i].type (hs _ (List.getElem_mem h)) fun hp5 nx5 hal5=>?_
      have hle5:=hal5.le
      have g5:=(g.nx (by omega:es1.nx≤es1.nx+12)).trans hal5
      cases c4:fitsV c.vals[i] m[i].type with
      | false=>
       rw [if_pos c4] at hc
       rw [hc] at hK
       simp only [bSa,↓bSb,bP,hle5]
       exact hK _ _ g5
      | true=>
       rw [if_neg (by rw [c4]; simp)] at hc
       simp only [bSa,↓bSb,b1,b5,b7,h',hle5,Aa3 (show i < _ by omega)]
       exact ⟨g5,by omega,(hal5.same nx (by omega)).trans hg,hc⟩
     ·simp only [bSa,↓bSb,bP,b1,b7,h',w2.len]
      rw [A87 (by omega)] at hc
      rw [hc] at hK
      exact hK _ _ g
    ·simp only [bSa,a1]
     exact ⟨hal1.trans hal2,hg2⟩
  ·rw [if_pos (.inr c2)] at hK
   simp only [bSa,↓bSb,bP,a0,a1,e2,f0,f1,l0,l1,r1.len,r2.len,r3.len,r4.len,show decide (¬ c.pos.length=l.length)=false by simp [c1],c2]
   exact hK _ _ hal1
 ·rw [if_pos (.inl c1)] at hK
  simp only [bSa,↓bSb,bP,a0,e2,f0,l0,r1.len,r3.len,c1]
  exact hK _ _ hal1
end
end Go.DD

/- Contracts: which arrays are valid. Conditions: those that each theorem states. -/
namespace Go.DD
open Go Go.Proofs
theorem Aa4 {hp:Tr DObj} {id T:Nat} {a b c:DV} (h:hp.get id=some (.row T [a,b,c])):(faD hp 0 (.pt id 0)=some (.pt id 0)∧faD hp 1 (.pt id 0)=some (.pt id 1)∧faD hp 2 (.pt id 0)=some (.pt id 2))∧ldD hp none (.pt id 0)=some a∧ldD hp none (.pt id 1)=some b∧ldD hp none (.pt id 2)=some c∧ldD hp (some 3) (.pt id 0)=some (.agg [a,b,c]):=by
 refine ⟨⟨fa_p h,fa_p h,fa_p h⟩,?_,?_,?_,?_⟩ <;> rw [ld_p h] <;> rfl
structure AOK (x:PArr):Prop where
 d:x.dims.length < 900000
 a:x.attrs.length < 900000
 c:x.cells.length < 900000
 e:∀ c∈x.cells,c.pos.length < 900000∧c.vals.length < 900000∧∀ v∈c.vals,slen v
structure AR (hp:Tr DObj) (p:Nat→Prop) (d:DV) (x:PArr):Prop where
 ex:∃ a b c,d=.agg [a,b,c]∧RL rDim hp p a x.dims∧RL rAttr hp p b x.attrs∧RL rCell hp p c x.cells
theorem AR.live {hp:Tr DObj} {p:Nat→Prop} {a b c:DV} {x:PArr} (h1:RL rDim hp p a x.dims) (h2:RL rAttr hp p b x.attrs) (h3:RL rCell hp p c x.cells):liveE hp (.agg [a,b,c])=.agg [a,b,c]:=Ah8 fun id hid=>by
 have:id∈a.refs∨id∈b.refs∨id∈c.refs:=by simpa [DV.refs,DV.refsL] using hid
 rcases this with h | h | h
 ·exact (h1.refs id h).2
 ·exact (h2.refs id h).2
 ·exact (h3.refs id h).2
def prevC (l:List PCell) (i:Nat):Option PCell:=match i with
 | 0=>none
 | i+1=>l[i]?
theorem chk_0 {d:List PDim} {a:List PAttr} {l:List PCell} (h:0 < l.length):chkF d a (prevC l 0) (l.drop 0)=if cellE d a l[0]≠0 then cellE d a l[0] else chkF d a (prevC l 1) (l.drop 1):=by
 have e1:prevC l 1=some l[0]:=List.getElem?_eq_getElem h
 rw [List.drop_eq_getElem_cons h,e1]
 rfl
theorem chk_s {d:List PDim} {a:List PAttr} {l:List PCell} {i:Nat} (h:i+1 < l.length):chkF d a (prevC l (i+1)) (l.drop (i+1))=if cellE d a l[i+1]≠0 then cellE d a l[i+1] else if cmpL l[i].pos l[i+1].pos=0 then 5 else if cmpL l[i].pos l[i+1].pos=1 then 2 else chkF d a (prevC l (i+2)) (l.drop (i+2)):=by
 have e1:prevC l (i+1)=some l[i]:=List.getElem?_eq_getElem (by omega)
 have e2:prevC l (i+2)=some l[i+1]:=List.getElem?_eq_getElem h
 rw [List.drop_eq_getElem_cons h,e1,e2]
 rfl
section
variable (k n0:Nat) (hp:Tr DObj) (nx:Nat) (K:DV→Tr DObj→Nat→Prop) (d:DV) (x:PArr) (hn:n0≤nx) (h0:AR hp (Bl n0) d x) (ho:AOK x)
include hn h0 ho
theorem B09 (hK:∀ hp' nx',Al hp nx hp' nx'→K (iv (Ac3 x)) hp' nx'):KW (kN (k+7)) (.fn 57) [d] hp nx K:=by
 obtain ⟨d,a,c,rfl,h1,h2,h3⟩:=h0
 refine kn_1 (Aa2 (by decide)) t57 (Nat.le_of_ble_eq_true rfl) fun es e1 e2 he=>?_
 have a0:rawE es (.t .o)=.agg [d,a,c]:=he 0 _ rfl
 unfold r57
 simp only [↓bSb]
 refine Ab0 (cs:=[d,a,c]) (by rw [evt,a0,e1]; exact AR.live h1 h2 h3) fun hp1 hg1 hk1=>?_
 simp only [bR,e1,e2] at hg1 hk1
 obtain ⟨⟨f0,f1,f2⟩,l0,l1,l2,_⟩:=Aa4 hg1
 have hal1:Al hp nx hp1 (nx+1):=⟨by omega,fun j hj=>hk1 j (by omega)⟩
 unfold Ac3 at hK
 simp only [bSa,↓bSb,e2,f0,f1,l0,l1]
 refine kws (A64 (k:=k+3) n0 _ _ _ d a x.dims x.attrs (by omega) (h1.ka hn hal1) (h2.ka hn hal1) fun hp2 nx2 hal2=>?_)
 have hle2:=hal2.le
 have hg2:=(hal2.same nx (by omega)).trans hg1
 obtain ⟨⟨f0,f1,f2⟩,l0,l1,l2,_⟩:=Aa4 hg2
 have hal2':=hal1.trans hal2
 have r3:=h3.ka hn hal2'
 by_cases c1:Ae3 x.dims x.attrs=0
 ·rw [if_neg (by simp [c1])] at hK
  simp only [bGa,↓bGb,e2,f2,l2,r3.len,show decide (¬ Ae3 x.dims x.attrs=0)=false by simp [c1]]
  refine cws (fun c2=>?_) (fun c2=>?_)
  ·rw [if_pos (by simp at c2; omega)] at hK
   simp only [bGa,↓bGb,bP]
   exact hK _ _ hal2'
  ·rw [if_neg (by simp at c2; omega)] at hK
   simp only [bGa,↓bGb,e2,f2,l2,r3.len]
   refine EW.up x.cells.length (fun i es1=>Al hp nx es1.hp es1.nx∧nx < es1.nx∧es1.hp.get nx=some (.row 26 [d,a,c])∧rawE es1 (.t (.l .o))=.pt nx 0∧rawE es1 (.t (.r (.l (.r (.l .o)))))=c∧rawE es1 (.t (.l (.r (.r (.l .o)))))=iv x.cells.length∧rawE es1 (.t (.r (.r (.r (.l .o)))))=iv (i:Nat)∧chkF x.dims x.attrs none x.cells=chkF x.dims x.attrs (prevC x.cells i) (x.cells.drop i)) ?_ ?_ (by have:=ho.c; omega)
   ·rintro i es1 hi ⟨g,gn,hg,b1,b20,b21,b22,hc⟩
    unfold l57_1
    have hoc:=ho.c
    by_cases h:i < x.cells.length
    ·have w1:=h1.ka hn g
     have w2:=h2.ka hn g
     have w3:=h3.ka hn g
     obtain ⟨p,v,rp,rv,lc,_⟩:=cells_at w3 h
     simp only [bSa,↓bSb,b20,b21,b22,h,Aa8 w3 h,lc]
     refine Ac5 fun hp3 hg3 hk3=>?_
     simp only [bR] at hg3 hk3
     have g3:Al hp nx hp3 (es1.nx+1):=⟨by omega,fun j hj=>by rw [hk3 j (by omega),g.same j hj]⟩
     have rp3:=rp.keep fun j (hj:j < n0)=>hk3 j (by omega)
     have rv3:=rv.keep fun j (hj:j < n0)=>hk3 j (by omega)
     simp only [bSa,↓bSb]
     refine Ac0 (id:=es1.nx) (ds:=[p,v]) (by simp only [bR]) hg3 (by simp only [evt,bR,reduceCtorEq]; exact Aq2 rp3 rv3) rfl rfl fun hp4 hg4 hk4=>?_
     simp only [bR] at hg4 hk4
     have hge:hp4.get nx=some (.row 26 [d,a,c]):=by rw [hk4 nx (by omega),hk3 nx (by omega),hg]
     obtain ⟨⟨q0,q1,q2⟩,m0,m1,m2,_⟩:=Aa4 hge
     obtain ⟨⟨t0,t1⟩,u0,u1,u2⟩:=Ac6 hg4
     have g4:Al hp nx hp4 (es1.nx+1):=g3.new (Nat.le_refl _) fun j hj=>hk4 j (by omega)
     have rp4:=rp3.keep fun j (hj:j < n0)=>hk4 j (by omega)
     have rv4:=rv3.keep fun j (hj:j < n0)=>hk4 j (by omega)
     have hce:=ho.e _ (List.getElem_mem h)
     simp only [bSa,↓bSb,b1,q0,q1,m0,m1,u2]
     refine kws (Bq7 k n0 _ _ _ d a p v x.dims x.attrs x.cells[i] (by omega) (h1.ka hn g4) (h2.ka hn g4) rp4 rv4 ho.d ho.a hce.2.2 fun hp5 nx5 hal5=>?_)
     have hle5:=hal5.le
     have g5:=g4.trans hal5
     have hge5:=(hal5.same nx (by omega)).trans hge
     have hg5:=(hal5.same es1.nx (by omega)).trans hg4
     by_cases c3:cellE x.dims x.attrs x.cells[i]=0
     ·cases i with
      | zero=>
       rw [chk_0 h,if_neg (by simp [c3])] at hc
       simp only [bSa,↓bSb,b1,b20,b21,b22,h,show decide (¬ cellE x.dims x.attrs x.cells[0]=0)=false by simp [c3],show binD .add (.v (.int .i64 0)) (.v (.int .i64 1))=some (.v (.int .i64 1)) from rfl]
       exact ⟨g5,by omega,hge5,by rfl,hc⟩
      | succ i=>
       rw [chk_s h,if_neg (by simp [c3])] at hc
       have hi0:¬ ((i+1:Nat):Int)=0:=by omega
       have hsub:binD .sub (.v (.int .i64 ((i+1:Nat):Int))) (.v (.int .i64 1))=some (.v (.int .i64 (i:Int))):=by rw [b_sub,wrap_in (by omega)]; congr 3; omega
       obtain ⟨⟨q0,q1,q2⟩,m0,m1,m2,_⟩:=Aa4 hge5
       obtain ⟨⟨t0,t1⟩,u0,u1,u2⟩:=Ac6 hg5
       have w5:=h3.ka hn g5
       have hi':i < x.cells.length:=by omega
       obtain ⟨p',v',rp',rv',_,_,lp',_⟩:=cells_at w5 hi'
       have rp5:=rp4.keep fun j (hj:j < n0)=>hal5.same j (by omega)
       simp only [bSa,↓bSb,b1,show decide (¬ cellE x.dims x.attrs x.cells[i+1]=0)=false by simp [c3],hi0,hsub,q2,m2,t0,u0,Aa8 w5 hi',Ad2 (k:=0) w5 hi',lp',w5.rox (show n0≤nx5 by omega),Ac8 w5 (show n0≤nx5 by omega),Ah0 w5 (show n0≤nx5 by omega),Aa1 (n0:=nx5) (m:=10) hge5 (show nx < nx5 by omega),Aa1 (n0:=nx5) (m:=10) hg5 (show es1.nx < nx5 by omega),rp'.rox (show n0≤nx5 by omega),rp5.rox (show n0≤nx5 by omega)]
       refine Aa0 rfl (Aa7 ?_)
       simp only [bR,List.map_cons,List.map_nil]
       refine Ai6 (k:=k+2) n0 _ _ _ p' p _ _ (by omega) rp' rp5 (ho.e _ (List.getElem_mem hi')).1 ?_
       have g6:Al hp nx hp5 (nx5+10):=g5.nx (by omega)
       by_cases c4:cmpL x.cells[i].pos x.cells[i+1].pos=0
       ·rw [if_pos c4] at hc
        rw [hc] at hK
        simp only [bSa,↓bSb,bP,decide_eq_true c4]
        exact hK _ _ g6
       ·rw [if_neg c4] at hc
        by_cases c5:cmpL x.cells[i].pos x.cells[i+1].pos=1
        ·rw [if_pos c5] at hc
         rw [hc] at hK
         simp only [bSa,↓bSb,bP,decide_eq_false c4,decide_eq_true c5]
         exact hK _ _ g6
        ·rw [if_neg c5] at hc
         simp only [bSa,↓bSb,b1,b20,b21,b22,h,decide_eq_false c4,decide_eq_false c5,Aa3 (show i+1 < _ by have:=ho.c; omega)]
         exact ⟨g6,by omega,hge5,hc⟩
     ·have hc2:chkF x.dims x.attrs none x.cells=cellE x.dims x.attrs x.cells[i]:=by
       cases i with
       | zero=>rw [hc,chk_0 h,if_pos c3]
       | succ i=>rw [hc,chk_s h,if_pos c3]
      rw [hc2] at hK
      simp only [bSa,↓bSb,bP,c3]
      exact hK _ _ g5
    ·simp only [bSa,↓bSb,bP,b21,b22,h]
     have e:x.cells.drop i=[]:=List.drop_eq_nil_of_le (by omega)
     have hc2:chkF x.dims x.attrs none x.cells=0:=by
      rw [hc,e]
      cases prevC x.cells i <;> rfl
     rw [hc2] at hK
     exact hK _ _ g
   ·simp only [bSa]
    exact ⟨hal2',by omega,hg2,rfl⟩
 ·rw [if_pos c1] at hK
  simp only [bSa,↓bSb,bP,c1]
  exact hK _ _ hal2'
end
end Go.DD

/- Contracts: which arrays are valid, by the reference. Conditions: those that each theorem states. -/
namespace Go.DD
open Go Go.Proofs
theorem Cp2 {hp:Tr DObj} {n0 n m:Nat} {an:List Nat} {p v:DV} {c:PCell} (h1:RL rInt hp (Bl n0) p c.pos) (h2:RL rVal hp (Bl n0) v c.vals) (hn:n0≤n):Aa6 (.agg [p,v]) (fun id=>okRef n m an hp id)↔True:=
 iff_true_intro (rd_ro (R:=rCell) (rCell_rd.2 ⟨p,v,rfl,h1,h2⟩) fun _ hj=>Nat.lt_of_lt_of_le hj hn)
section
variable (k n0:Nat) (hp:Tr DObj) (nx:Nat) (K:DV→Tr DObj→Nat→Prop)
theorem Al2 (d1 d2:DV) (l m:List Int) (hn:n0≤nx) (h1:RL rInt hp (Bl n0) d1 l) (h2:RL rInt hp (Bl n0) d2 m) (hl:l.length < 900000) (hK:∀ nx',nx≤nx'→K (iv (cmpL l m)) hp nx'):KW (kN (k+1)) (.fn 134) [d1,d2] hp nx K:=by
 refine kn_1 (Aa2 (by decide)) t134 (Nat.le_of_ble_eq_true rfl) fun es e1 e2 he=>?_
 have a0:rawE es (.t .o)=d1:=he 0 _ rfl
 have a1:rawE es (.t (.l .o))=d2:=he 1 _ rfl
 unfold r134
 simp only [bSa,↓bSb]
 refine EW.up l.length (fun i es1=>es1.hp=hp∧nx≤es1.nx∧rawE es1 (.t .o)=d1∧rawE es1 (.t (.l .o))=d2∧rawE es1 (.t (.l (.r .o)))=iv (i:Nat)∧i≤m.length∧cmpL l m=cmpL (l.drop i) (m.drop i)) ?_ ?_ (by omega)
 ·rintro i es1 hi ⟨g1,g2,b0,b1,b5,him,hc⟩
  unfold B71
  by_cases c1:i < l.length
  ·by_cases c2:i < m.length
   ·have hd:cmpL (l.drop i) (m.drop i)=if cmpI l[i] m[i]=0 then cmpL (l.drop (i+1)) (m.drop (i+1)) else cmpI l[i] m[i]:=by
     rw [List.drop_eq_getElem_cons c1,List.drop_eq_getElem_cons c2]; rfl
    by_cases c3:l[i] < m[i]
    ·have hci:cmpI l[i] m[i] = -1:=cmpI_lt.2 c3
     rw [hci,if_neg (by decide)] at hd
     simp only [bSa,↓bSb,bP,b0,b1,b5,g1,h1.len,h2.len,c1,c2,Ad5 h1 c1,Ad5 h2 c2,ints_at h1 c1,ints_at h2 c2,h1.rox (show n0≤es1.nx by omega),h2.rox (show n0≤es1.nx by omega),Ac2 h1 (show n0≤es1.nx by omega),Ac2 h2 (show n0≤es1.nx by omega),c3]
     rw [hc,hd] at hK
     exact hK _ (by omega)
    ·by_cases c4:m[i] < l[i]
     ·have hci:cmpI l[i] m[i]=1:=by unfold cmpI; rw [if_neg c3,if_pos c4]
      rw [hci,if_neg (by decide)] at hd
      simp only [bSa,↓bSb,bP,b0,b1,b5,g1,h1.len,h2.len,c1,c2,Ad5 h1 c1,Ad5 h2 c2,ints_at h1 c1,ints_at h2 c2,h1.rox (show n0≤es1.nx by omega),h2.rox (show n0≤es1.nx by omega),Ac2 h1 (show n0≤es1.nx by omega),Ac2 h2 (show n0≤es1.nx by omega),c3,c4,h1.rox (show n0≤es1.nx+9 by omega),h2.rox (show n0≤es1.nx+9 by omega),Ac2 h1 (show n0≤es1.nx+9 by omega),Ac2 h2 (show n0≤es1.nx+9 by omega)]
      rw [hc,hd] at hK
      exact hK _ (by omega)
     ·have hci:cmpI l[i] m[i]=0:=by unfold cmpI; rw [if_neg c3,if_neg c4]
      rw [hci,if_pos rfl] at hd
      simp only [bSa,↓bSb,b0,b1,b5,g1,h1.len,h2.len,c1,c2,Ad5 h1 c1,Ad5 h2 c2,ints_at h1 c1,ints_at h2 c2,h1.rox (show n0≤es1.nx by omega),h2.rox (show n0≤es1.nx by omega),Ac2 h1 (show n0≤es1.nx by omega),Ac2 h2 (show n0≤es1.nx by omega),c3,c4,h1.rox (show n0≤es1.nx+9 by omega),h2.rox (show n0≤es1.nx+9 by omega),Ac2 h1 (show n0≤es1.nx+9 by omega),Ac2 h2 (show n0≤es1.nx+9 by omega),Aa3 (show i < _ by omega)]
      exact ⟨by omega,by omega,by rw [hc,hd]⟩
   ·have hd:cmpL (l.drop i) (m.drop i)=1:=by
     rw [List.drop_eq_getElem_cons c1,List.drop_eq_nil_of_le (show m.length≤i by omega)]; rfl
    rw [hc,hd] at hK
    simp only [bSa,↓bSb,bP,b0,b1,b5,g1,h1.len,h2.len,c1,c2,show ¬ l.length < m.length by omega,show m.length < l.length by omega]
    exact hK _ g2
  ·have hd:cmpL (l.drop i) (m.drop i)=if l.length < m.length then -1 else 0:=by
    rw [List.drop_eq_nil_of_le (show l.length≤i by omega)]
    by_cases c3:i < m.length
    ·rw [List.drop_eq_getElem_cons c3,if_pos (by omega)]; rfl
    ·rw [List.drop_eq_nil_of_le (show m.length≤i by omega),if_neg (by omega)]; rfl
   by_cases c3:l.length < m.length
   ·rw [if_pos c3] at hd
    rw [hc,hd] at hK
    simp only [bSa,↓bSb,bP,b0,b1,b5,g1,h1.len,h2.len,c1,c3]
    exact hK _ g2
   ·rw [if_neg c3] at hd
    rw [hc,hd] at hK
    simp only [bSa,↓bSb,bP,b0,b1,b5,g1,h1.len,h2.len,c1,c3,show ¬ m.length < l.length by omega]
    exact hK _ g2
 ·simp only [bSa,a0,a1,e1,e2,Nat.zero_le]
variable (d:DV) (x:PArr) (hn:n0≤nx) (h0:AR hp (Bl n0) d x) (ho:AOK x)
include hn h0 ho
theorem Bq8 (hK:∀ hp' nx',Al hp nx hp' nx'→K (iv (Ac3 x)) hp' nx'):KW (kN (k+8)) (.fn 61) [d] hp nx K:=by
 obtain ⟨d,a,c,rfl,h1,h2,h3⟩:=h0
 refine kn_1 (Aa2 (by decide)) t61 (Nat.le_of_ble_eq_true rfl) fun es e1 e2 he=>?_
 have a0:rawE es (.t .o)=.agg [d,a,c]:=he 0 _ rfl
 unfold r61
 simp only [↓bSb]
 refine Ab0 (cs:=[d,a,c]) (by rw [evt,a0,e1]; exact AR.live h1 h2 h3) fun hp1 hg1 hk1=>?_
 simp only [bR,e1,e2] at hg1 hk1
 obtain ⟨⟨f0,f1,f2⟩,l0,l1,l2,_⟩:=Aa4 hg1
 have hal1:Al hp nx hp1 (nx+1):=⟨by omega,fun j hj=>hk1 j (by omega)⟩
 unfold Ac3 at hK
 simp only [bSa,↓bSb,e2,f0,f1,l0,l1]
 refine kws (Bi7 (k:=k+2) n0 _ _ _ d a x.dims x.attrs (by omega) (h1.ka hn hal1) (h2.ka hn hal1) fun hp2 nx2 hal2=>?_)
 have hle2:=hal2.le
 have hg2:=(hal2.same nx (by omega)).trans hg1
 obtain ⟨⟨f0,f1,f2⟩,l0,l1,l2,_⟩:=Aa4 hg2
 have hal2':=hal1.trans hal2
 have r3:=h3.ka hn hal2'
 by_cases c1:Ae3 x.dims x.attrs=0
 ·rw [if_neg (by simp [c1])] at hK
  simp only [bGa,↓bGb,e2,f2,l2,r3.len,show decide (¬ Ae3 x.dims x.attrs=0)=false by simp [c1]]
  refine cws (fun c2=>?_) (fun c2=>?_)
  ·rw [if_pos (by simp at c2; omega)] at hK
   simp only [bGa,↓bGb,bP]
   exact hK _ _ hal2'
  ·rw [if_neg (by simp at c2; omega)] at hK
   simp only [bGa,↓bGb,e2]
   refine EW.up x.cells.length (fun i es1=>Al hp nx es1.hp es1.nx∧nx < es1.nx∧es1.hp.get nx=some (.row 26 [d,a,c])∧rawE es1 (.t (.l .o))=.pt nx 0∧rawE es1 (.t (.r (.l .o)))=iv (i:Nat)∧chkF x.dims x.attrs none x.cells=chkF x.dims x.attrs (prevC x.cells i) (x.cells.drop i)) ?_ ?_ (by have:=ho.c; omega)
   ·rintro i es1 hi ⟨g,gn,hg,b1,b4,hc⟩
    unfold l61_1
    have hoc:=ho.c
    have w1:=h1.ka hn g
    have w2:=h2.ka hn g
    have w3:=h3.ka hn g
    obtain ⟨⟨q0,q1,q2⟩,m0,m1,m2,_⟩:=Aa4 hg
    by_cases h:i < x.cells.length
    ·obtain ⟨p,v,rp,rv,lc,_⟩:=cells_at w3 h
     have hce:=ho.e _ (List.getElem_mem h)
     simp only [bSa,↓bSb,b1,b4,q0,q1,q2,m0,m1,m2,w3.len,h,Aa8 w3 h,lc,w1.rox (show n0≤es1.nx by omega),w2.rox (show n0≤es1.nx by omega),w3.rox (show n0≤es1.nx by omega),Ac8 w3 (show n0≤es1.nx by omega),Aa1 (n0:=es1.nx) (m:=11) hg (show nx < es1.nx by omega),Cp2 rp rv (show n0≤es1.nx by omega)]
     refine Aa0 rfl (Aa7 ?_)
     simp only [bR,List.map_cons,List.map_nil]
     refine Bf9 (k:=k) n0 _ _ _ d a p v x.dims x.attrs x.cells[i] (by omega) w1 w2 rp rv ho.d ho.a hce.2.2 fun hp5 nx5 hal5=>?_
     have hle5:=hal5.le
     have g5:=(g.nx (by omega:es1.nx≤es1.nx+11)).trans hal5
     have hge5:=(hal5.same nx (by omega)).trans hg
     by_cases c3:cellE x.dims x.attrs x.cells[i]=0
     ·cases i with
      | zero=>
       rw [chk_0 h,if_neg (by simp [c3])] at hc
       simp only [bSa,↓bSb,b1,b4,h,hle5,show decide (¬ cellE x.dims x.attrs x.cells[0]=0)=false by simp [c3],show binD .add (.v (.int .i64 0)) (.v (.int .i64 1))=some (.v (.int .i64 1)) from rfl]
       exact ⟨g5,by omega,hge5,by rfl,hc⟩
      | succ i=>
       rw [chk_s h,if_neg (by simp [c3])] at hc
       have hi0:¬ ((i+1:Nat):Int)=0:=by omega
       have hsub:binD .sub (.v (.int .i64 ((i+1:Nat):Int))) (.v (.int .i64 1))=some (.v (.int .i64 (i:Int))):=by rw [b_sub,wrap_in (by omega)]; congr 3; omega
       obtain ⟨⟨q0,q1,q2⟩,m0,m1,m2,_⟩:=Aa4 hge5
       have w5:=h3.ka hn g5
       have hi':i < x.cells.length:=by omega
       obtain ⟨pA,v1,rp1,rv1,_,_,lp1,_⟩:=cells_at w5 hi'
       obtain ⟨pB,v2,rp2,rv2,_,_,lp2,_⟩:=cells_at w5 h
       simp only [bSa,↓bSb,b1,b4,hle5,show decide (¬ cellE x.dims x.attrs x.cells[i+1]=0)=false by simp [c3],hi0,hsub,q2,m2,Aa8 w5 hi',Ad2 (k:=0) w5 hi',lp1,Aa8 w5 h,Ad2 (k:=0) w5 h,lp2,w5.rox (show n0≤nx5 by omega),Ac8 w5 (show n0≤nx5 by omega),Ah0 w5 (show n0≤nx5 by omega),Aa1 (n0:=nx5) (m:=15) hge5 (show nx < nx5 by omega),rp1.rox (show n0≤nx5 by omega),rp2.rox (show n0≤nx5 by omega)]
       refine Aa0 rfl (Aa7 ?_)
       simp only [bR,List.map_cons,List.map_nil]
       refine Al2 (k:=k+7 - 1) n0 _ _ _ pA pB _ _ (by omega) rp1 rp2 (ho.e _ (List.getElem_mem hi')).1 fun nx6 hle6=>?_
       have g6:Al hp nx hp5 nx6:=g5.nx (by omega)
       by_cases c4:cmpL x.cells[i].pos x.cells[i+1].pos=0
       ·rw [if_pos c4] at hc
        rw [hc] at hK
        simp only [bSa,↓bSb,bP,decide_eq_true c4,hle6]
        exact hK _ _ g6
       ·rw [if_neg c4] at hc
        by_cases c5:cmpL x.cells[i].pos x.cells[i+1].pos=1
        ·rw [if_pos c5] at hc
         rw [hc] at hK
         simp only [bSa,↓bSb,bP,decide_eq_false c4,show (0:Int) < cmpL x.cells[i].pos x.cells[i+1].pos by omega,hle6]
         exact hK _ _ g6
        ·rw [if_neg c5] at hc
         have hcm:=Ac1 x.cells[i].pos x.cells[i+1].pos
         simp only [bSa,↓bSb,b1,b4,h,decide_eq_false c4,show ¬ (0:Int) < cmpL x.cells[i].pos x.cells[i+1].pos by omega,hle6,Aa3 (show i+1 < _ by have:=ho.c; omega)]
         exact ⟨g6,by omega,hge5,hc⟩
     ·have hc2:chkF x.dims x.attrs none x.cells=cellE x.dims x.attrs x.cells[i]:=by
       cases i with
       | zero=>rw [hc,chk_0 h,if_pos c3]
       | succ i=>rw [hc,chk_s h,if_pos c3]
      rw [hc2] at hK
      simp only [bSa,↓bSb,bP,c3,hle5]
      exact hK _ _ g5
    ·simp only [bSa,↓bSb,bP,b1,b4,q2,m2,w3.len,h]
     have e:x.cells.drop i=[]:=List.drop_eq_nil_of_le (by omega)
     have hc2:chkF x.dims x.attrs none x.cells=0:=by
      rw [hc,e]
      cases prevC x.cells i <;> rfl
     rw [hc2] at hK
     exact hK _ _ g
   ·simp only [bSa]
    exact ⟨hal2',by omega,hg2,rfl⟩
 ·rw [if_pos c1] at hK
  simp only [bSa,↓bSb,bP,c1]
  exact hK _ _ hal2'
end
end Go.DD

/- Contracts: which arrays are examined. Conditions: those that each theorem states. -/
namespace Go.DD
open Go Go.Proofs
def Aj6 (s:ByteArray):Bool:=decide ((s.size:Int)≤40)
def fewS (d:List PDim) (a:List PAttr):Bool:=(decide (d.length≤10) && decide (a.length≤10)) && (d.all (fun x=>Aj6 x.name) && a.all fun x=>Aj6 x.name)
def fewV (v:List PVal):Bool:=v.all fun x=>Aj6 x.s
def fewC1 (c:PCell):Bool:=(decide (c.pos.length≤10) && decide (c.vals.length≤10)) && fewV c.vals
def fewC (l:List PCell) (most:Nat):Bool:=decide (l.length≤most) && l.all fewC1
def fewA (x:PArr) (most:Nat):Bool:=fewS x.dims x.attrs && fewC x.cells most
theorem all_s {α:Type} {f:α→Bool} {l:List α} {i:Nat} (h:i < l.length):(l.take (i+1)).all f=((l.take i).all f && f l[i]):=by
 rw [List.take_succ_eq_append_getElem h,List.all_append]; simp
theorem all_n {α:Type} {f:α→Bool} {l:List α} {i:Nat} (h:i < l.length) (hf:f l[i]=false):l.all f=false:=by
 rw [Bool.eq_false_iff]
 intro ha
 have:=List.all_eq_true.1 ha _ (List.getElem_mem h)
 rw [hf] at this; cases this
theorem Bq9 {x:PArr} {most:Nat} (h:fewA x most=true) (hm:most < 900000):AOK x:=by
 unfold fewA fewS fewC at h
 simp only [Bool.and_eq_true,decide_eq_true_eq,List.all_eq_true] at h
 obtain ⟨⟨⟨h1,h2⟩,h3,h4⟩,h5,h6⟩:=h
 refine ⟨by omega,by omega,by omega,fun c hc=>?_⟩
 have:=h6 c hc
 unfold fewC1 fewV at this
 simp only [Bool.and_eq_true,decide_eq_true_eq,List.all_eq_true] at this
 obtain ⟨⟨a,b⟩,e⟩:=this
 refine ⟨by omega,by omega,fun v hv=>?_⟩
 have:=e v hv
 unfold Aj6 at this
 simp only [decide_eq_true_eq] at this
 unfold slen; omega
theorem Cp3 {hp:Tr DObj} {p:Nat→Prop} {d:DV} {l:List PVal} (h:RL rVal hp p d l) {i:Nat} (hi:i < l.length):ldD hp none (adrF (adrE 4 d i) 3)=some (sv l[i].s):=by
 obtain ⟨ds,hr,h1,h0,h2⟩:=h.at hi
 rw [rVal_rd] at hr
 exact h2 3 _ (by rw [hr]; rfl)
section
variable (k n0:Nat) (hp:Tr DObj) (nx:Nat) (K:DV→Tr DObj→Nat→Prop)
theorem Aw9 (s:ByteArray) (hK:K (bv (Aj6 s)) hp nx):KW (kN (k+1)) (.fn 120) [sv s] hp nx K:=by
 refine kn_1 (Aa2 (by decide)) t120 (Nat.le_of_ble_eq_true rfl) fun es e1 e2 he=>?_
 have a0:rawE es (.t .o)=sv s:=he 0 _ rfl
 unfold r120
 simp only [bGa,↓bGb,bP,a0,e1,e2]
 exact hK
theorem Cg4 (d a:DV) (l:List PDim) (m:List PAttr) (p:Nat→Prop) (h1:RL rDim hp p d l) (h2:RL rAttr hp p a m) (hK:K (bv (fewS l m)) hp nx):KW (kN (k+2)) (.fn 51) [d,a] hp nx K:=by
 refine kn_1 (Aa2 (by decide)) t51 (Nat.le_of_ble_eq_true rfl) fun es e1 e2 he=>?_
 have a0:rawE es (.t .o)=d:=he 0 _ rfl
 have a1:rawE es (.t (.l .o))=a:=he 1 _ rfl
 unfold r51
 simp only [bGa,↓bGb,a0,a1,e1,h1.len,h2.len]
 unfold fewS at hK
 refine cws (fun c=>?_) (fun c=>?_)
 ·rw [show (decide (l.length≤10) && decide (m.length≤10))=false by simp at c ⊢; omega] at hK
  simp only [bGa,↓bGb,bP,e1,e2]
  exact hK
 rw [show (decide (l.length≤10) && decide (m.length≤10))=true by simp at c ⊢; omega,Bool.true_and] at hK
 have hlm:l.length≤10∧m.length≤10:=by simp at c; omega
 simp only [bGa,↓bGb]
 refine EW.up l.length (fun i es1=>es1.hp=hp∧es1.nx=nx∧rawE es1 (.t .o)=d∧rawE es1 (.t (.l .o))=a∧rawE es1 (.t (.l (.r .o)))=iv (i:Nat)∧(l.take i).all (fun x=>Aj6 x.name)=true) ?_ ?_ (by omega)
 ·rintro i es1 hi ⟨g1,g2,b0,b1,b5,hc⟩
  unfold l51_1
  by_cases h:i < l.length
  ·simp only [bGa,↓bGb,b0,b5,g1,g2,h,h1.len,Ad8 h1 h,Ah6 (k:=0) h1 h,(Ad1 h1 h).2.2.1]
   refine kws (Aw9 (k:=k) _ _ _ _ ?_)
   cases c4:Aj6 l[i].name with
   | false=>
    rw [all_n (f:=fun x:PDim=>Aj6 x.name) h c4,Bool.false_and] at hK
    simp only [bSa,↓bSb,bP]
    exact hK
   | true=>
    simp only [bSa,↓bSb,b0,b1,b5,h,Aa3 (show i < _ by omega)]
    rw [all_s h,hc,c4]; rfl
  ·rw [List.take_of_length_le (by omega)] at hc
   rw [hc,Bool.true_and] at hK
   simp only [bGa,↓bGb,b0,b5,g1,h,h1.len]
   refine EW.up m.length (fun i es1=>es1.hp=hp∧es1.nx=nx∧rawE es1 (.t (.l .o))=a∧rawE es1 (.t (.r (.r .o)))=iv (i:Nat)∧(m.take i).all (fun x=>Aj6 x.name)=true) ?_ ?_ (by omega)
   ·rintro i es1 hi ⟨g1,g2,b1,b6,hc⟩
    unfold l51_2
    by_cases h:i < m.length
    ·simp only [bGa,↓bGb,b1,b6,g1,g2,h,h2.len,Ae6 h2 h,Ai4 (k:=0) h2 h,(Ae5 h2 h).2.2.1]
     refine kws (Aw9 (k:=k) _ _ _ _ ?_)
     cases c4:Aj6 m[i].name with
     | false=>
      rw [all_n (f:=fun x:PAttr=>Aj6 x.name) h c4] at hK
      simp only [bSa,↓bSb,bP]
      exact hK
     | true=>
      simp only [bSa,↓bSb,b1,b6,h,Aa3 (show i < _ by omega)]
      rw [all_s h,hc,c4]; rfl
    ·rw [List.take_of_length_le (by omega)] at hc
     rw [hc] at hK
     simp only [bGa,↓bGb,bP,b1,b6,g1,g2,h,h2.len]
     exact hK
   ·simp only [bSa,b1,g1,g2]
    rfl
 ·simp only [bSa,a0,a1,e1,e2]
  rfl
theorem Cg5 (c:DV) (l:List PCell) (most:Nat) (p:Nat→Prop) (h1:RL rCell hp p c l) (hm:most < 900000) (hK:K (bv (fewC l most)) hp nx):KW (kN (k+2)) (.fn 52) [c,iv (most:Nat)] hp nx K:=by
 refine kn_1 (Aa2 (by decide)) t52 (Nat.le_of_ble_eq_true rfl) fun es e1 e2 he=>?_
 have a0:rawE es (.t .o)=c:=he 0 _ rfl
 have a1:rawE es (.t (.l .o))=iv (most:Nat):=he 1 _ rfl
 unfold r52
 unfold fewC at hK
 by_cases c0:most < l.length
 ·rw [decide_eq_false (by omega),Bool.false_and] at hK
  simp only [bSa,↓bSb,bP,a0,a1,e1,e2,h1.len,c0]
  exact hK
 rw [decide_eq_true (by omega),Bool.true_and] at hK
 simp only [bSa,↓bSb,a0,a1,e1,h1.len,c0]
 refine EW.up l.length (fun i es1=>es1.hp=hp∧es1.nx=nx∧rawE es1 (.t .o)=c∧rawE es1 (.t (.l (.r .o)))=iv (i:Nat)∧(l.take i).all fewC1=true) ?_ ?_ (by omega)
 ·rintro i es1 hi ⟨g1,g2,b0,b5,hc⟩
  unfold l52_2
  by_cases h:i < l.length
  ·obtain ⟨x,y,r1,r2,_,_,ld0,ld1⟩:=cells_at h1 h
   have hbad:fewC1 l[i]=false→l.all fewC1=false:=all_n h
   have hs:=all_s (f:=fewC1) h
   rw [hc,Bool.true_and] at hs
   simp only [bGa,↓bGb,b0,b5,g1,h,h1.len,Aa8 h1 h,Ad2 (k:=0) h1 h,Ad2 (k:=1) h1 h,ld0,ld1,r1.len,r2.len]
   refine cws (fun c1=>?_) (fun c1=>?_)
   ·rw [hbad (by
     unfold fewC1
     rw [show (decide (l[i].pos.length≤10) && decide (l[i].vals.length≤10))=false by simp at c1 ⊢; omega]; rfl)] at hK
    simp only [bGa,↓bGb,bP,g1,g2]
    exact hK
   have hlv:l[i].pos.length≤10∧l[i].vals.length≤10:=by simp at c1; omega
   have he:fewC1 l[i]=fewV l[i].vals:=by
    unfold fewC1
    rw [decide_eq_true hlv.1,decide_eq_true hlv.2]; rfl
   rw [he] at hs hbad
   simp only [bGa,↓bGb]
   refine EW.up l[i].vals.length (fun j es2=>es2.hp=hp∧es2.nx=nx∧rawE es2 (.t .o)=c∧rawE es2 (.t (.l (.r .o)))=iv (i:Nat)∧rawE es2 (.t (.r (.r .o)))=iv (j:Nat)∧(l[i].vals.take j).all (fun x=>Aj6 x.s)=true) ?_ ?_ (by omega)
   ·rintro j es2 hj ⟨q1,q2,x0,x5,x6,hcc⟩
    unfold l52_1
    by_cases h':j < l[i].vals.length
    ·simp only [bGa,↓bGb,x0,x5,x6,q1,q2,h',Aa8 h1 h,Ad2 (k:=1) h1 h,ld1,r2.len,An0 r2 h',Cf5 (k:=3) r2 h',Cp3 r2 h']
     refine kws (Aw9 (k:=k) _ _ _ _ ?_)
     cases c4:Aj6 l[i].vals[j].s with
     | false=>
      rw [hbad (all_n (f:=fun x:PVal=>Aj6 x.s) h' c4)] at hK
      simp only [bSa,↓bSb,bP]
      exact hK
     | true=>
      simp only [bSa,↓bSb,x0,x5,x6,h',Aa3 (show j < _ by omega)]
      rw [all_s h',hcc,c4]; rfl
    ·rw [List.take_of_length_le (by omega)] at hcc
     simp only [bGa,↓bGb,x0,x5,x6,q1,q2,h',Aa8 h1 h,Ad2 (k:=1) h1 h,ld1,r2.len,Aa3 (show i < _ by omega)]
     exact ⟨h,by rw [hs]; exact hcc⟩
   ·simp only [bSa,b0,b5,g1,g2]
    rfl
  ·rw [List.take_of_length_le (by omega)] at hc
   rw [hc] at hK
   simp only [bGa,↓bGb,bP,b0,b5,g1,g2,h,h1.len]
   exact hK
 ·simp only [bSa,a0,e1,e2]
  rfl
theorem B91 (d:DV) (x:PArr) (most:Nat) (n0:Nat) (hn:n0≤nx) (h0:AR hp (Bl n0) d x) (hm:most < 900000) (hK:∀ hp' nx',Al hp nx hp' nx'→K (bv (fewA x most)) hp' nx'):KW (kN (k+3)) (.fn 13) [d,iv (most:Nat)] hp nx K:=by
 obtain ⟨d,a,c,rfl,h1,h2,h3⟩:=h0
 refine kn_1 (Aa2 (by decide)) t13 (Nat.le_of_ble_eq_true rfl) fun es e1 e2 he=>?_
 have a0:rawE es (.t .o)=.agg [d,a,c]:=he 0 _ rfl
 have a1:rawE es (.t (.l .o))=iv (most:Nat):=he 1 _ rfl
 unfold r13
 simp only [↓bSb]
 refine Ab0 (cs:=[d,a,c]) (by rw [evt,a0,e1]; exact AR.live h1 h2 h3) fun hp1 hg1 hk1=>?_
 simp only [bR,e1,e2] at hg1 hk1
 obtain ⟨⟨f0,f1,f2⟩,l0,l1,l2,_⟩:=Aa4 hg1
 have hal1:Al hp nx hp1 (nx+1):=⟨by omega,fun j hj=>hk1 j (by omega)⟩
 have hh:=hK _ _ hal1
 unfold fewA at hh
 simp only [bSa,↓bSb,e2,f0,f1,l0,l1]
 refine kws (Cg4 (k:=k) _ _ _ d a x.dims x.attrs (Bl n0) (h1.ka hn hal1) (h2.ka hn hal1) ?_)
 cases c1:fewS x.dims x.attrs with
 | false=>
  rw [c1] at hh
  simp only [bSa,↓bSb,bP,e2]
  exact hh
 | true=>
  rw [c1,Bool.true_and] at hh
  simp only [bSa,↓bSb,e2,a1,f2,l2]
  refine kws (Cg5 (k:=k) _ _ _ c x.cells most (Bl n0) (h3.ka hn hal1) hm ?_)
  simp only [bSa,↓bSb,bP]
  exact hh
end
end Go.DD

/- Contracts: copies of lists; arrays of the same dimensions and attributes. Conditions: those that each theorem states. -/
namespace Go.DD
open Go Go.Proofs
section
variable {α:Type} {R:Rep α} {hp hp':Tr DObj} {p q:Nat→Prop} {d:DV} {l:List α}
theorem RL.notnil (h:RL R hp p d l) (hl:l≠[]):isNil 0 d=some false:=by
 cases h with
 | nil=>exact absurd rfl hl
 | sl=>
  show (if 0 < l.length then some false else none)=_
  rw [if_pos (by cases l with | nil=>exact absurd rfl hl | cons=>simp)]
 | ms id off fl l h hid hl2 hr hs=>
  show (if 0 < l.length then some false else none)=_
  rw [if_pos (by cases l with | nil=>exact absurd rfl hl | cons=>simp)]
theorem RL.sl0 (h:RL R hp p (.sl [] 0) l):l=[]:=by
 have:=h.len
 have e:lenD hp (.sl [] 0)=some (.v (.int .i64 ((0:Nat):Int))):=rfl
 rw [e] at this
 simp at this
 exact List.eq_nil_of_length_eq_zero (by omega)
theorem RL.nil0 (h:RL R hp p nilS l):l=[]:=by
 have:=h.len
 have e:lenD hp nilS=some (.v (.int .i64 ((0:Nat):Int))):=rfl
 rw [e] at this
 simp at this
 exact List.eq_nil_of_length_eq_zero (by omega)
def OLs (R:Rep α) (hp:Tr DObj) (p:Nat→Prop) (d:DV) (l:List α):Prop:=OL R hp p d l∨(l=[]∧d=.sl [] 0)
theorem OLs.rl {n n':Nat} (h:OLs R hp p d l) (hr:Rng n n' d):RL R hp (fun j=>p j∨Bw n n' j) d l:=by
 rcases h with h | ⟨rfl,rfl⟩
 ·exact h.rl.mono fun j hj=>hj.imp id fun h=>hr j h
 ·exact .sl []
theorem OLs.rlF {n n':Nat} (h:OLs R hp (fun _=>False) d l) (hr:Rng n n' d):RL R hp (Bw n n') d l:=(h.rl hr).mono fun _ hj=>hj.elim False.elim id
def Nn (d:DV) (l:List α):Prop:=l≠[]∨d=nilS∨d=.sl [] 0
end
theorem Bg0 (n n':Nat):Rng n n' (.sl [] 0):=fun _ h=>by cases h
theorem Ah1:isNil 0 (ofV (.slice none 0 0))=some true:=rfl
theorem Af9 {α:Type} {R:Rep α} {hp hp':Tr DObj} {p q:Nat→Prop} (hf:∀ {ds:List DV} {x:α},R.rd hp p ds x→R.rd hp' q ds x):∀ {l:List α} {ds:List DV},Rows R hp p ds l→Rows R hp' q ds l
 | [],_,h=>h
 | _ :: _,_,⟨a,b,e,h1,h2⟩=>⟨a,b,e,hf h1,Af9 hf h2⟩
theorem Br0 (k n0:Nat) (hp:Tr DObj) (nx:Nat) (K:DV→Tr DObj→Nat→Prop) (d:DV) (l:List Int) (hn:n0≤nx) (h1:RL rInt hp (Bl n0) d l) (hnn:Nn d l) (hl:l.length < 2000000000) (hK:∀ hp' nx' d',Al hp nx hp' nx'→OLs rInt hp' (fun _=>False) d' l→Rng nx nx' d'→Nn d' l→K d' hp' nx'):KW (kN (k+1)) (.fn 70) [d] hp nx K:=by
 rcases hnn with hne | rfl | rfl
 ·have hr:relW 70 [d]=none:=by
   unfold relW
   rw [if_neg (by decide),if_pos (by decide)]
   split
   ·rename_i e
    exact absurd (by cases h1 <;> simp_all) hne
   ·rfl
  refine kn_1 hr t70 (Nat.le_of_ble_eq_true rfl) fun es e1 e2 he=>?_
  have a0:rawE es (.t .o)=d:=he 0 _ rfl
  subst e1 e2
  unfold r70
  simp only [bSa,↓bSb,a0]
  refine Am9 false (by simp only [n_ev,bR,bP,h1.live]; exact h1.notnil hne) Ah1 ?_
  simp only [bSa,↓bSb]
  refine Ah5 (fl:=[]) (by rfl) (by rfl) fun hp1 hg1 hk1=>?_
  simp only [bR] at hg1 hk1
  simp only [bSa,↓bSb,a0]
  have r1:RL rInt hp1 (Bl n0) d l:=h1.keep fun j (hj:j < n0)=>hk1 j (by omega)
  refine Ad7 (R:=rInt) (p:=(fun _=>False)) (p2:=(fun _=>False)) (d:=.ms es.nx 0 0 rInt.e) (d2:=d) (l:=[]) (m:=l) (by simp only [bR,bP]; rfl) (.ms es.nx [] [] hg1 rfl) (by simp only [n_ev,bR,bP]; exact r1.live) ((by obtain ⟨ds,q1,q2⟩:=r1.srcD (es:=⟨_,hp1,_⟩); exact ⟨ds,q1,Af9 (p:=Bl n0) (q:=fun _=>False) (fun h=>h) q2⟩)) rfl rfl (by simp; omega) (by decide) fun hp2 hk2 h2=>?_
  simp only [bR,List.nil_append] at hk2 h2
  have h3:=h2 (fun _=>False) (fun j hj=>(hj.elim False.elim False.elim:False).elim)
  simp only [bSa,↓bSb,bP,h3.rl.live]
  refine hK _ _ _ ⟨by omega,fun j hj=>?_⟩ (.inl h3) (Rng.ms (by omega) (by omega)) (.inl hne)
  rw [hk2 j (by omega) (by simp [DV.refs]; omega),hk1 j (by omega)]
 ·have hl0:l=[]:=h1.nil0
  subst hl0
  have hr:relW 70 [nilS]=none:=by
   unfold relW
   rw [if_neg (by decide),if_pos (by decide)]
   rfl
  refine kn_1 hr t70 (Nat.le_of_ble_eq_true rfl) fun es e1 e2 he=>?_
  have a0:rawE es (.t .o)=nilS:=he 0 _ rfl
  subst e1 e2
  unfold r70
  simp only [bSa,↓bSb,a0]
  refine Am9 true (by simp only [n_ev,bR,bP,nilS,Aj0]; rfl) Ah1 ?_
  simp only [bSa,↓bSb,bP]
  exact hK _ _ nilS (Al.refl _ _) (.inl .nil) (Rng.nil _ _) (.inr (.inl rfl))
 ·have hl0:l=[]:=h1.sl0
  subst hl0
  exact A57 (d:=.sl [] 0) (by unfold relW; rw [if_neg (by decide),if_pos (by decide)]; rfl) (hK _ _ _ (Al.refl _ _) (.inr ⟨rfl,rfl⟩) (Bg0 _ _) (.inr (.inr rfl)))
theorem Br1 (k n0:Nat) (hp:Tr DObj) (nx:Nat) (K:DV→Tr DObj→Nat→Prop) (d:DV) (l:List PVal) (hn:n0≤nx) (h1:RL rVal hp (Bl n0) d l) (hnn:Nn d l) (hl:l.length < 2000000000) (hK:∀ hp' nx' d',Al hp nx hp' nx'→OLs rVal hp' (fun _=>False) d' l→Rng nx nx' d'→Nn d' l→K d' hp' nx'):KW (kN (k+1)) (.fn 142) [d] hp nx K:=by
 rcases hnn with hne | rfl | rfl
 ·have hr:relW 142 [d]=none:=by
   unfold relW
   rw [if_neg (by decide),if_pos (by decide)]
   split
   ·rename_i e
    exact absurd (by cases h1 <;> simp_all) hne
   ·rfl
  refine kn_1 hr t142 (Nat.le_of_ble_eq_true rfl) fun es e1 e2 he=>?_
  have a0:rawE es (.t .o)=d:=he 0 _ rfl
  subst e1 e2
  unfold r142
  simp only [bSa,↓bSb,a0]
  refine Am9 false (by simp only [n_ev,bR,bP,h1.live]; exact h1.notnil hne) Ah1 ?_
  simp only [bSa,↓bSb]
  refine Ah5 (fl:=[]) (by rfl) (by rfl) fun hp1 hg1 hk1=>?_
  simp only [bR] at hg1 hk1
  simp only [bSa,↓bSb,a0]
  have r1:RL rVal hp1 (Bl n0) d l:=h1.keep fun j (hj:j < n0)=>hk1 j (by omega)
  refine Ad7 (R:=rVal) (p:=(fun _=>False)) (p2:=(fun _=>False)) (d:=.ms es.nx 0 0 rVal.e) (d2:=d) (l:=[]) (m:=l) (by simp only [bR,bP]; rfl) (.ms es.nx [] [] hg1 rfl) (by simp only [n_ev,bR,bP]; exact r1.live) ((by obtain ⟨ds,q1,q2⟩:=r1.srcD (es:=⟨_,hp1,_⟩); exact ⟨ds,q1,Af9 (p:=Bl n0) (q:=fun _=>False) (fun h=>h) q2⟩)) rfl rfl (by simp; omega) (by decide) fun hp2 hk2 h2=>?_
  simp only [bR,List.nil_append] at hk2 h2
  have h3:=h2 (fun _=>False) (fun j hj=>(hj.elim False.elim False.elim:False).elim)
  simp only [bSa,↓bSb,bP,h3.rl.live]
  refine hK _ _ _ ⟨by omega,fun j hj=>?_⟩ (.inl h3) (Rng.ms (by omega) (by omega)) (.inl hne)
  rw [hk2 j (by omega) (by simp [DV.refs]; omega),hk1 j (by omega)]
 ·have hl0:l=[]:=h1.nil0
  subst hl0
  have hr:relW 142 [nilS]=none:=by
   unfold relW
   rw [if_neg (by decide),if_pos (by decide)]
   rfl
  refine kn_1 hr t142 (Nat.le_of_ble_eq_true rfl) fun es e1 e2 he=>?_
  have a0:rawE es (.t .o)=nilS:=he 0 _ rfl
  subst e1 e2
  unfold r142
  simp only [bSa,↓bSb,a0]
  refine Am9 true (by simp only [n_ev,bR,bP,nilS,Aj0]; rfl) Ah1 ?_
  simp only [bSa,↓bSb,bP]
  exact hK _ _ nilS (Al.refl _ _) (.inl .nil) (Rng.nil _ _) (.inr (.inl rfl))
 ·have hl0:l=[]:=h1.sl0
  subst hl0
  exact A57 (d:=.sl [] 0) (by unfold relW; rw [if_neg (by decide),if_pos (by decide)]; rfl) (hK _ _ _ (Al.refl _ _) (.inr ⟨rfl,rfl⟩) (Bg0 _ _) (.inr (.inr rfl)))
theorem Br2 (k n0:Nat) (hp:Tr DObj) (nx:Nat) (K:DV→Tr DObj→Nat→Prop) (d:DV) (l:List PDim) (hn:n0≤nx) (h1:RL rDim hp (Bl n0) d l) (hnn:Nn d l) (hl:l.length < 2000000000) (hK:∀ hp' nx' d',Al hp nx hp' nx'→OLs rDim hp' (fun _=>False) d' l→Rng nx nx' d'→Nn d' l→K d' hp' nx'):KW (kN (k+1)) (.fn 162) [d] hp nx K:=by
 rcases hnn with hne | rfl | rfl
 ·have hr:relW 162 [d]=none:=by
   unfold relW
   rw [if_neg (by decide),if_pos (by decide)]
   split
   ·rename_i e
    exact absurd (by cases h1 <;> simp_all) hne
   ·rfl
  refine kn_1 hr t162 (Nat.le_of_ble_eq_true rfl) fun es e1 e2 he=>?_
  have a0:rawE es (.t .o)=d:=he 0 _ rfl
  subst e1 e2
  unfold r162
  simp only [bSa,↓bSb,a0]
  refine Am9 false (by simp only [n_ev,bR,bP,h1.live]; exact h1.notnil hne) Ah1 ?_
  simp only [bSa,↓bSb]
  refine Ah5 (fl:=[]) (by rfl) (by rfl) fun hp1 hg1 hk1=>?_
  simp only [bR] at hg1 hk1
  simp only [bSa,↓bSb,a0]
  have r1:RL rDim hp1 (Bl n0) d l:=h1.keep fun j (hj:j < n0)=>hk1 j (by omega)
  refine Ad7 (R:=rDim) (p:=(fun _=>False)) (p2:=(fun _=>False)) (d:=.ms es.nx 0 0 rDim.e) (d2:=d) (l:=[]) (m:=l) (by simp only [bR,bP]; rfl) (.ms es.nx [] [] hg1 rfl) (by simp only [n_ev,bR,bP]; exact r1.live) ((by obtain ⟨ds,q1,q2⟩:=r1.srcD (es:=⟨_,hp1,_⟩); exact ⟨ds,q1,Af9 (p:=Bl n0) (q:=fun _=>False) (fun h=>h) q2⟩)) rfl rfl (by simp; omega) (by decide) fun hp2 hk2 h2=>?_
  simp only [bR,List.nil_append] at hk2 h2
  have h3:=h2 (fun _=>False) (fun j hj=>(hj.elim False.elim False.elim:False).elim)
  simp only [bSa,↓bSb,bP,h3.rl.live]
  refine hK _ _ _ ⟨by omega,fun j hj=>?_⟩ (.inl h3) (Rng.ms (by omega) (by omega)) (.inl hne)
  rw [hk2 j (by omega) (by simp [DV.refs]; omega),hk1 j (by omega)]
 ·have hl0:l=[]:=h1.nil0
  subst hl0
  have hr:relW 162 [nilS]=none:=by
   unfold relW
   rw [if_neg (by decide),if_pos (by decide)]
   rfl
  refine kn_1 hr t162 (Nat.le_of_ble_eq_true rfl) fun es e1 e2 he=>?_
  have a0:rawE es (.t .o)=nilS:=he 0 _ rfl
  subst e1 e2
  unfold r162
  simp only [bSa,↓bSb,a0]
  refine Am9 true (by simp only [n_ev,bR,bP,nilS,Aj0]; rfl) Ah1 ?_
  simp only [bSa,↓bSb,bP]
  exact hK _ _ nilS (Al.refl _ _) (.inl .nil) (Rng.nil _ _) (.inr (.inl rfl))
 ·have hl0:l=[]:=h1.sl0
  subst hl0
  exact A57 (d:=.sl [] 0) (by unfold relW; rw [if_neg (by decide),if_pos (by decide)]; rfl) (hK _ _ _ (Al.refl _ _) (.inr ⟨rfl,rfl⟩) (Bg0 _ _) (.inr (.inr rfl)))
theorem Br3 (k n0:Nat) (hp:Tr DObj) (nx:Nat) (K:DV→Tr DObj→Nat→Prop) (d:DV) (l:List PAttr) (hn:n0≤nx) (h1:RL rAttr hp (Bl n0) d l) (hnn:Nn d l) (hl:l.length < 2000000000) (hK:∀ hp' nx' d',Al hp nx hp' nx'→OLs rAttr hp' (fun _=>False) d' l→Rng nx nx' d'→Nn d' l→K d' hp' nx'):KW (kN (k+1)) (.fn 163) [d] hp nx K:=by
 rcases hnn with hne | rfl | rfl
 ·have hr:relW 163 [d]=none:=by
   unfold relW
   rw [if_neg (by decide),if_pos (by decide)]
   split
   ·rename_i e
    exact absurd (by cases h1 <;> simp_all) hne
   ·rfl
  refine kn_1 hr t163 (Nat.le_of_ble_eq_true rfl) fun es e1 e2 he=>?_
  have a0:rawE es (.t .o)=d:=he 0 _ rfl
  subst e1 e2
  unfold r163
  simp only [bSa,↓bSb,a0]
  refine Am9 false (by simp only [n_ev,bR,bP,h1.live]; exact h1.notnil hne) Ah1 ?_
  simp only [bSa,↓bSb]
  refine Ah5 (fl:=[]) (by rfl) (by rfl) fun hp1 hg1 hk1=>?_
  simp only [bR] at hg1 hk1
  simp only [bSa,↓bSb,a0]
  have r1:RL rAttr hp1 (Bl n0) d l:=h1.keep fun j (hj:j < n0)=>hk1 j (by omega)
  refine Ad7 (R:=rAttr) (p:=(fun _=>False)) (p2:=(fun _=>False)) (d:=.ms es.nx 0 0 rAttr.e) (d2:=d) (l:=[]) (m:=l) (by simp only [bR,bP]; rfl) (.ms es.nx [] [] hg1 rfl) (by simp only [n_ev,bR,bP]; exact r1.live) ((by obtain ⟨ds,q1,q2⟩:=r1.srcD (es:=⟨_,hp1,_⟩); exact ⟨ds,q1,Af9 (p:=Bl n0) (q:=fun _=>False) (fun h=>h) q2⟩)) rfl rfl (by simp; omega) (by decide) fun hp2 hk2 h2=>?_
  simp only [bR,List.nil_append] at hk2 h2
  have h3:=h2 (fun _=>False) (fun j hj=>(hj.elim False.elim False.elim:False).elim)
  simp only [bSa,↓bSb,bP,h3.rl.live]
  refine hK _ _ _ ⟨by omega,fun j hj=>?_⟩ (.inl h3) (Rng.ms (by omega) (by omega)) (.inl hne)
  rw [hk2 j (by omega) (by simp [DV.refs]; omega),hk1 j (by omega)]
 ·have hl0:l=[]:=h1.nil0
  subst hl0
  have hr:relW 163 [nilS]=none:=by
   unfold relW
   rw [if_neg (by decide),if_pos (by decide)]
   rfl
  refine kn_1 hr t163 (Nat.le_of_ble_eq_true rfl) fun es e1 e2 he=>?_
  have a0:rawE es (.t .o)=nilS:=he 0 _ rfl
  subst e1 e2
  unfold r163
  simp only [bSa,↓bSb,a0]
  refine Am9 true (by simp only [n_ev,bR,bP,nilS,Aj0]; rfl) Ah1 ?_
  simp only [bSa,↓bSb,bP]
  exact hK _ _ nilS (Al.refl _ _) (.inl .nil) (Rng.nil _ _) (.inr (.inl rfl))
 ·have hl0:l=[]:=h1.sl0
  subst hl0
  exact A57 (d:=.sl [] 0) (by unfold relW; rw [if_neg (by decide),if_pos (by decide)]; rfl) (hK _ _ _ (Al.refl _ _) (.inr ⟨rfl,rfl⟩) (Bg0 _ _) (.inr (.inr rfl)))
end Go.DD

/- Contracts: arrays that are alike; where coordinates lie in an array. Conditions: those that each theorem states. -/
namespace Go.DD
open Go Go.Proofs
theorem B92 {a:Nat} (h:a < 9000000000000000000):binD .quo (.v (.int .i64 (a:Int))) (.v (.int .i64 2))=some (.v (.int .i64 ((a / 2:Nat):Int))):=by
 have e:(a:Int).tdiv 2=((a / 2:Nat):Int):=rfl
 have hlt:a / 2≤a:=Nat.div_le_self _ _
 generalize a / 2=q at e hlt ⊢
 have e2:binI .quo .i64 (a:Int) 2=some (.int .i64 (q:Int)):=by
  unfold binI
  simp only
  rw [if_neg (by decide),e,wrap_in (by omega)]
 simp only [binD,binV,isSh]
 simp [e2]
def SortC (l:List PCell):Prop:=∀ i j,(h:i < j)→(h2:j < l.length)→cmpL (l[i]'(by omega)).pos l[j].pos = -1
theorem Bi9 {l m:List Int} (h:cmpL l m = -1):l≠m:=fun e=>by rw [cmpL_0.2 e] at h; cases h
section
variable (k n0:Nat) (hp:Tr DObj) (nx:Nat) (K:DV→Tr DObj→Nat→Prop)
theorem Bg1 (c x:DV) (l:List PCell) (m:List Int) (hn:n0≤nx) (h1:RL rCell hp (Bl n0) c l) (h2:RL rInt hp (Bl n0) x m) (hl:l.length < 900000) (hpos:∀ c∈l,c.pos.length < 900000) (hs:SortC l) (hK:∀ (i nx':Nat),nx≤nx'→i≤l.length→(∀ j,(h:j < l.length)→j < i→cmpL l[j].pos m = -1)→(∀ j,(h:j < l.length)→i≤j→cmpL l[j].pos m≠-1)→K (iv (i:Nat)) hp nx'):KW (kN (k+2)) (.fn 171) [c,x] hp nx K:=by
 refine kn_1 (Aa2 (by decide)) t171 (Nat.le_of_ble_eq_true rfl) fun es e1 e2 he=>?_
 have a0:rawE es (.t .o)=c:=he 0 _ rfl
 have a1:rawE es (.t (.l .o))=x:=he 1 _ rfl
 unfold r171
 subst e1 e2
 simp only [bSa,↓bSb,a0,h1.len]
 refine EW.l (I:=fun n es1=>∃ lo hi:Nat,n=hi - lo∧lo≤hi∧hi≤l.length∧es1.hp=es.hp∧es.nx≤es1.nx∧rawE es1 (.t .o)=c∧rawE es1 (.t (.l .o))=x∧rawE es1 (.t (.l (.r .o)))=iv (lo:Nat)∧rawE es1 (.t (.r (.r .o)))=iv (hi:Nat)∧(∀ j,(h:j < l.length)→j < lo→cmpL l[j].pos m = -1)∧(∀ j,(h:j < l.length)→hi≤j→cmpL l[j].pos m≠-1)) ?_ l.length 1000000 _ ?_ (by omega)
 ·rintro n es1 ⟨lo,hi,rfl,hle,hhi,g1,g2,b0,b1,b5,b6,hlo,hhi2⟩
  unfold B80
  by_cases h:lo < hi
  ·have hq:=B92 (show lo+hi < 9000000000000000000 by omega)
   have hm:(lo+hi) / 2 < l.length:=by omega
   obtain ⟨p,v,rp,rv,_,_,lp,_⟩:=cells_at h1 hm
   simp only [bSa,↓bSb,b0,b1,b5,b6,h,Ae0 (show lo+hi < _ by omega),hq,g1,Aa8 h1 hm,Ad2 (k:=0) h1 hm,lp]
   refine kws (Al2 (k:=k) n0 _ _ _ p x _ m (by omega) rp h2 (hpos _ (List.getElem_mem hm)) fun nx2 hn2=>?_)
   by_cases c1:cmpL l[(lo+hi) / 2].pos m < 0
   ·have c1':cmpL l[(lo+hi) / 2].pos m = -1:=by have:=Ac1 l[(lo+hi) / 2].pos m; omega
    simp only [bSa,↓bSb,b0,b1,b6,c1,Aa3 (show (lo+hi) / 2 < _ by omega)]
    refine ⟨hi - ((lo+hi) / 2+1),by omega,_,hi,rfl,by omega,hhi,by omega,rfl,rfl,fun j hj hlt=>?_,hhi2⟩
    by_cases e:j=(lo+hi) / 2
    ·subst e; exact c1'
    ·exact Ad4 (hs j ((lo+hi) / 2) (by omega) hm) c1'
   ·simp only [bSa,↓bSb,b0,b1,b5,c1]
    refine ⟨(lo+hi) / 2 - lo,by omega,lo,_,rfl,by omega,by omega,by omega,rfl,rfl,hlo,fun j hj hge=>?_⟩
    intro e
    by_cases e2:j=(lo+hi) / 2
    ·subst e2; omega
    ·have:=Ad4 (hs ((lo+hi) / 2) j (by omega) hj) e
     omega
  ·obtain rfl:lo=hi:=by omega
   simp only [bSa,↓bSb,bP,b5,b6,Nat.lt_irrefl,g1]
   exact hK lo _ g2 hhi hlo hhi2
 ·simp only [bSa,a0,a1]
  exact ⟨0,l.length,rfl,by omega,Nat.le_refl _,rfl,rfl,fun j _ h=>by omega,fun j h h2=>by omega⟩
theorem Br4 (c x:DV) (l:List PCell) (m:List Int) (hn:n0≤nx) (h1:RL rCell hp (Bl n0) c l) (h2:RL rInt hp (Bl n0) x m) (hl:l.length < 900000) (hpos:∀ c∈l,c.pos.length < 900000) (hs:SortC l)
  (hN:∀ nx',nx≤nx'→(∀ j,(h:j < l.length)→l[j].pos≠m)→K (iv (-1)) hp nx') (hK:∀ (i nx':Nat),nx≤nx'→(h:i < l.length)→l[i].pos=m→K (iv (i:Nat)) hp nx'):KW (kN (k+3)) (.fn 136) [c,x] hp nx K:=by
 refine kn_1 (Aa2 (by decide)) t136 (Nat.le_of_ble_eq_true rfl) fun es e1 e2 he=>?_
 have a0:rawE es (.t .o)=c:=he 0 _ rfl
 have a1:rawE es (.t (.l .o))=x:=he 1 _ rfl
 unfold r136
 subst e1 e2
 simp only [bSa,↓bSb,a0,a1]
 refine kws (Bg1 (k:=k) n0 _ _ _ c x l m hn h1 h2 hl hpos hs fun i nx2 hn2 hi hlo hhi=>?_)
 by_cases h:i < l.length
 ·obtain ⟨p,v,rp,rv,_,_,lp,_⟩:=cells_at h1 h
  simp only [bSa,↓bSb,a0,a1,h1.len,h,Aa8 h1 h,Ad2 (k:=0) h1 h,lp]
  refine kws (Al2 (k:=k+1) n0 _ _ _ p x _ m (by omega) rp h2 (hpos _ (List.getElem_mem h)) fun nx3 hn3=>?_)
  by_cases c1:cmpL l[i].pos m=0
  ·simp only [bSa,↓bSb,bP,decide_eq_true c1]
   exact hK i _ (by omega) h (cmpL_0.1 c1)
  ·simp only [bSa,↓bSb,bP,decide_eq_false c1]
   refine hN _ (by omega) fun j hj e=>?_
   have e0:=cmpL_0.2 e
   by_cases h1:j < i
   ·have:=hlo j hj h1; omega
   ·by_cases h2:j=i
    ·subst h2; exact c1 e0
    ·have h3:=hs i j (by omega) hj
     rw [e] at h3
     exact hhi i h (Nat.le_refl _) h3
 ·simp only [bSa,↓bSb,bP,a0,h1.len,h]
  refine hN _ hn2 fun j hj e=>?_
  have:=hlo j hj (by omega)
  rw [cmpL_0.2 e] at this; cases this
end
end Go.DD

/- Contracts: cells are merged and sorted. Conditions: those that each theorem states. -/
namespace Go.DD
open Go Go.Proofs
section
variable (k n0:Nat) (hp:Tr DObj) (nx:Nat) (K:DV→Tr DObj→Nat→Prop)
end
end Go.DD

/- Contracts: cells are sorted. Conditions: those that each theorem states. -/
namespace Go.DD
open Go Go.Proofs
theorem RL.ro' {α:Type} {R:Rep α} {hp:Tr DObj} {p:Nat→Prop} {d:DV} {l:List α} {n m:Nat} {an:List Nat} (h:RL R hp p d l) (ho:∀ j,p j→j < n∨n+m≤j):Aa6 d (fun id=>okRef n m an hp id):=fun id hid=>(Af7 hp id).2 ⟨(h.refs id hid).2,(ho id (h.refs id hid).1).imp (fun h=>h) .inl⟩
end Go.DD

/- Contracts: the coordinates of some arrays. Conditions: those that each theorem states. -/
namespace Go.DD
open Go Go.Proofs
def rChange:Rep PCell:=rPair rInts rVals 62 PCell.pos PCell.vals
theorem rChange_rd {hp:Tr DObj} {p:Nat→Prop} {ds:List DV} {x:PCell} : rChange.rd hp p ds x↔∃ a b,ds=[a,b]∧RL rInt hp p a x.pos∧RL rVal hp p b x.vals:=rCell_rd
section
variable (k n0:Nat) (hp:Tr DObj) (nx:Nat) (K:DV→Tr DObj→Nat→Prop)
end
end Go.DD

/- Contracts: the reference's difference of two arrays. Conditions: those that each theorem states. -/
namespace Go.DD
open Go Go.Proofs
theorem Ax0 {z w:Value} {a b:DV} (h1:a.okC=true∧a.cells=[a]) (h2:b.okC=true∧b.cells=[b]):fillD [DV.v z,DV.v w] [(0,1,a),(1,1,b)]=some [a,b]:=by
 simp [fillD,h1.1,h1.2,h2.1,h2.2]
theorem Br5 {z:List Value} {a b:DV} (hz:z.length=2):fillD (List.replicate 1 (z.map DV.v)).flatten [(0,2,.agg [a,b])]=some [a,b]:=by
 match z,hz with
 | [u,v],_=>rfl
theorem AR.same {hp:Tr DObj} {p:Nat→Prop} {a b c:DV} {x:PArr} (h1:RL rDim hp p a x.dims) (h2:RL rAttr hp p b x.attrs) (h3:RL rCell hp p c x.cells):∀ d∈[a,b,c],Ab1 6 d d=true:=fun d hd=>by
 simp only [List.mem_cons,List.not_mem_nil,or_false] at hd
 rcases hd with rfl | rfl | rfl
 ·exact h1.same (by decide)
 ·exact h2.same (by decide)
 ·exact h3.same (by decide)
theorem Aa5 {α β:Type} {R:Rep α} {S:Rep β} {hp:Tr DObj} {p q:Nat→Prop} {a b:DV} {l:List α} {m:List β} (h1:RL R hp p a l) (h2:RL S hp q b m):liveE hp (.agg [a,b])=.agg [a,b]:=Ah8 fun id hid=>by
 have:id∈a.refs∨id∈b.refs:=by simpa [DV.refs,DV.refsL] using hid
 rcases this with h | h
 ·exact (h1.refs id h).2
 ·exact (h2.refs id h).2
section
variable (k n0:Nat) (hp:Tr DObj) (nx:Nat) (K:DV→Tr DObj→Nat→Prop)
end
end Go.DD

/- Contracts: the reference's Delta; equal changes. Conditions: those that each theorem states. -/
namespace Go.DD
open Go Go.Proofs
theorem Ao0 {hp:Tr DObj} {p:Nat→Prop} {d:DV} {l:List PCell} (h:RL rChange hp p d l) {i:Nat} (hi:i < l.length):∃ a b,RL rInt hp p a l[i].pos∧RL rVal hp p b l[i].vals∧ldD hp (some 2) (adrE 2 d i)=some (.agg [a,b])∧ldD hp none (adrF (adrE 2 d i) 0)=some a∧ldD hp none (adrF (adrE 2 d i) 1)=some b:=by
 obtain ⟨ds,hr,h1,h0,h2⟩:=h.at hi
 obtain ⟨a,b,rfl,h3,h4⟩:=rChange_rd.1 hr
 exact ⟨a,b,h3,h4,h1,h2 0 _ rfl,h2 1 _ rfl⟩
theorem Ad6 {hp:Tr DObj} {p:Nat→Prop} {d:DV} {l:List PCell} (h:RL rChange hp p d l) {i:Nat} (hi:i < l.length):iaD hp 2 d (.v (.int .i64 (i:Int)))=some (adrE 2 d i):=h.ia hi
theorem As1 {hp:Tr DObj} {p:Nat→Prop} {d:DV} {l:List PCell} {k:Nat} (h:RL rChange hp p d l) {i:Nat} (hi:i < l.length):faD hp k (adrE 2 d i)=some (adrF (adrE 2 d i) k):=h.fa hi
theorem Ax1 {hp:Tr DObj} {n0:Nat} {d:DV} {l:List PCell} {n m i:Nat} {an:List Nat} (h:RL rChange hp (Bl n0) d l) (hn:n0≤n):Aa6 (adrE 2 d i) (fun id=>okRef n m an hp id):=h.roax hn
theorem A30 {hp:Tr DObj} {n0:Nat} {d:DV} {l:List PCell} {n m i k:Nat} {an:List Nat} (h:RL rChange hp (Bl n0) d l) (hn:n0≤n):Aa6 (adrF (adrE 2 d i) k) (fun id=>okRef n m an hp id):=h.rofx hn
theorem Bj0 {d:List PDim} {a:List PAttr} {l:List PCell} : ∀ {b:PCell},chkF d a (some b) l=0→(∀ c∈l,cmpL b.pos c.pos = -1∧cellE d a c=0)∧l.Pairwise (fun x y=>cmpL x.pos y.pos = -1):=by
 induction l with
 | nil=>intro b _; exact ⟨fun c hc=>(by cases hc),.nil⟩
 | cons c l ih=>
  intro b h
  unfold chkF at h
  by_cases c1:cellE d a c=0
  ·rw [if_neg (by simp [c1])] at h
   by_cases c2:cmpL b.pos c.pos=0
   ·rw [if_pos c2] at h; cases h
   ·rw [if_neg c2] at h
    by_cases c3:cmpL b.pos c.pos=1
    ·rw [if_pos c3] at h; cases h
    ·rw [if_neg c3] at h
     have c4:cmpL b.pos c.pos = -1:=by have:=Ac1 b.pos c.pos; omega
     obtain ⟨h1,h2⟩:=ih h
     refine ⟨fun e he=>?_,.cons (fun e he=>(h1 e he).1) h2⟩
     rcases List.mem_cons.1 he with rfl | he
     ·exact ⟨c4,c1⟩
     ·exact ⟨Ad4 c4 (h1 e he).1,(h1 e he).2⟩
  ·rw [if_pos c1] at h; exact absurd h c1
theorem Ae1 {x:PArr} (h:Ac3 x=0):x.cells.Pairwise (fun x y=>cmpL x.pos y.pos = -1)∧(∀ c∈x.cells,cellE x.dims x.attrs c=0)∧Ae3 x.dims x.attrs=0:=by
 unfold Ac3 at h
 by_cases c1:Ae3 x.dims x.attrs=0
 ·rw [if_neg (by simp [c1])] at h
  split at h
  ·cases h
  ·generalize x.cells=l at h ⊢
   cases l with
   | nil=>exact ⟨.nil,fun c hc=>(by cases hc),c1⟩
   | cons c l=>
    unfold chkF at h
    by_cases c2:cellE x.dims x.attrs c=0
    ·rw [if_neg (by simp [c2])] at h
     obtain ⟨h1,h2⟩:=Bj0 h
     refine ⟨.cons (fun e he=>(h1 e he).1) h2,fun e he=>?_,c1⟩
     rcases List.mem_cons.1 he with rfl | he
     ·exact c2
     ·exact (h1 e he).2
    ·rw [if_pos c2] at h; exact absurd h c2
 ·rw [if_pos c1] at h; exact absurd h c1
theorem Az5 {x:PArr} (h:Ac3 x=0):SortC x.cells:=fun i j hij hj=>List.pairwise_iff_getElem.1 (Ae1 h).1 i j (by omega) hj hij
theorem A66 {x:PArr} (h:Ac3 x=0):∀ c∈x.cells,c.pos≠[]:=fun c hc he=>by
 have h1:=(Ae1 h).2.1 c hc
 have h2:=(Ae1 h).2.2
 have h3:c.pos.length=x.dims.length:=by
  unfold cellE at h1
  split at h1
  ·cases h1
  ·rename_i h3; omega
 have h4:x.dims.length=0:=by rw [← h3,he]; rfl
 have h5:dimsE x.dims=13:=by unfold dimsE; rw [if_pos (Or.inl (show x.dims.length < 1 by omega))]
 unfold Ae3 at h2
 rw [h5] at h2
 cases h2
section
variable (k n0:Nat) (hp:Tr DObj) (nx:Nat) (K:DV→Tr DObj→Nat→Prop)
end
end Go.DD

/- The walk over several sorted cell lists at once, in plain Lean; rows of slices are stored into. -/
namespace Go.DD
open Go Go.Proofs
theorem OL.get {α:Type} {R:Rep α} {hp:Tr DObj} {p:Nat→Prop} {id n e:Nat} {l:List α} (h:OL R hp p (.ms id 0 n e) l):n=l.length∧e=R.e∧∃ fl,hp.get id=some (.row R.T fl)∧Rows R hp p fl l:=by
 cases h with
 | ms id fl l h hr=>exact ⟨rfl,rfl,fl,h,hr⟩
section
variable {call:CallT} {es:ES} {dst:Option Pa} {q:Hold (ES→Prop)}
end
end Go.DD

/- Contracts: the walk over several cell lists. Conditions: those that each theorem states. -/
namespace Go.DD
open Go Go.Proofs
section
variable (k L bx T:Nat) (d:DV) (hs0:List (List PCell)) (P:Nat→Prop) (J S:List (List Int×List (List PVal))→(Nat→Prop)→Tr DObj→Nat→Prop) (M0:Nat→Prop) (hp:Tr DObj) (nx:Nat) (K:DV→Tr DObj→Nat→Prop)
end
end Go.DD

/- Contracts: the changes A81 two cell lists. Conditions: those that each theorem states. -/
namespace Go.DD
open Go Go.Proofs
theorem A67 (z:List Value) (ps:List (Nat×Nat×Operand)) (nid:Nat) (es:ES):xKeep (xAny (.bld z ps)) nid es=(fillD (z.map .v) (ps.map fun p=>(p.1,p.2.1,es.ds.ev p.2.2))).map DV.agg:=by
 refine xk_k (X:=fun es=>(fillD (z.map .v) (ps.map fun p=>(p.1,p.2.1,es.ds.ev p.2.2))).map DV.agg) (fun es nid=>?_) nid
 rw [x_any]
 simp only [execU]
 cases fillD (z.map .v) (ps.map fun p=>(p.1,p.2.1,es.ds.ev p.2.2)) <;> rfl
theorem ro_pr {a b:DV} {f:Nat→Bool} (h1:Aa6 a f) (h2:Aa6 b f):Aa6 (.agg [a,b]) f:=fun id hid=>by
 have:id∈a.refs∨id∈b.refs:=by simpa [DV.refs,DV.refsL] using hid
 rcases this with h | h
 ·exact h1 id h
 ·exact h2 id h
end Go.DD

/- Contracts: the program's Delta. Conditions: those that each theorem states. -/
namespace Go.DD
open Go Go.Proofs
theorem Az6 {x:PArr} (h:Ac3 x=0):∀ c∈x.cells,c.vals≠[]:=fun c hc he=>by
 have h1:=(Ae1 h).2.1 c hc
 have h2:=(Ae1 h).2.2
 have h3:c.vals.length=x.attrs.length:=by
  unfold cellE at h1
  split at h1
  ·cases h1
  ·rename_i h3; omega
 have h4:x.attrs.length=0:=by rw [← h3,he]; rfl
 unfold Ae3 at h2
 split at h2
 ·rename_i h5; exact h5 h2
 ·rw [if_pos (Or.inl (show x.attrs.length < 1 by omega))] at h2; cases h2
section
variable (k n0:Nat) (hp:Tr DObj) (nx:Nat) (K:DV→Tr DObj→Nat→Prop)
end
end Go.DD

/- The program's difference and the reference's are the same, in plain Lean. -/
namespace Go.DD
open Go Go.Proofs
def Srt (l:List PCell):Prop:=l.Pairwise (fun x y=>cmpL x.pos y.pos = -1)
theorem Ab9 (p:List Int):cmpL p p=0:=cmpL_0.2 rfl
theorem Srt.tail {c:PCell} {t:List PCell} (h:Srt (c :: t)):Srt t:=(List.pairwise_cons.1 h).2
theorem Br6 {a b c:List Int} (h1:cmpL a b≠1) (h2:cmpL b c≠1):cmpL a c≠1:=by
 rcases Ac1 a b with h | h | h
 ·rcases Ac1 b c with g | g | g
  ·rw [Ad4 h g]; decide
  ·rw [← cmpL_0.1 g,h]; decide
  ·exact absurd g h2
 ·rw [cmpL_0.1 h]; exact h2
 ·exact absurd h h1
end Go.DD
