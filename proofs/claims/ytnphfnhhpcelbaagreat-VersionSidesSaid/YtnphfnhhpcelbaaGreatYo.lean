/- Contracts: equal cells, equal arrays. Conditions: those that each theorem states. -/
import Derived.Test.YtnphfnhhpcelbaaGreatYl
import Derived.Test.YtnphfnhhpcelbaaGreatYn
namespace Go.DD
set_option linter.unusedSectionVars false
set_option linter.unusedVariables false
open Go Go.Proofs
section
variable (k n0:Nat) (hp:Tr DObj) (nx:Nat) (K:DV→Tr DObj→Nat→Prop)
end
end Go.DD

/- Contracts: results that lie in cells; an empty array; a copied cell. Conditions: those that each theorem states. -/
namespace Go.DD
set_option linter.unusedSectionVars false
set_option linter.unusedVariables false
open Go Go.Proofs
theorem Cj8 (es:ES) (t:Nat):resE es (t,none)=some (liveE es.hp (rawE es (.t (pth t)))):=rfl
theorem Cj9 {es:ES} {t m id off T:Nat} {cs:List DV} (h5:rawE es (.t (pth t))=.pt id off) (h6:es.hp.get id=some (.row T cs)) (h7:m≤(cs.drop off).length):resE es (t,some (some m))=some (.agg ((cs.drop off).take m)):=by
 show xLp (some m) (.t (pth t)) es=_
 unfold xLp
 rw [h5]
 show cRow es.hp id (fun _ cs=>partE (some m) (dropL off cs)) (none:Option DV)=_
 unfold cRow
 rw [gN_eq,h6]
 show partE (some m) (dropL off cs)=_
 rw [Ai8,Ac5]
 show (if m≤(cs.drop off).length then some (DV.agg ((cs.drop off).take m)) else none)=_
 rw [if_pos h7]
theorem Ay4 {es:ES} {t m id T:Nat} {cs:List DV} (h5:rawE es (.t (pth t))=.pt id 0) (h6:es.hp.get id=some (.row T cs)) (h7:cs.length=m):resE es (t,some (some m))=some (.agg cs):=by
 have:=Cj9 (m:=m) h5 h6 (by rw [List.drop_zero]; omega)
 rw [List.drop_zero,List.take_of_length_le (by omega)] at this
 exact this
theorem Ay5 {es:ES} {t id T:Nat} {d:DV} (h5:rawE es (.t (pth t))=.pt id 0) (h6:es.hp.get id=some (.row T [d])):resE es (t,some none)=some d:=by
 show xLp none (.t (pth t)) es=_
 unfold xLp
 rw [h5]
 show cRow es.hp id (fun _ cs=>partE none (dropL 0 cs)) (none:Option DV)=_
 unfold cRow
 rw [gN_eq,h6]
 show partE none (dropL 0 [d])=_
 rw [Ai8,Ac5]
 rfl
section
variable {tb:Nat→Option FE} {n:Nat} {rel:Nat→List DV→Option DV} {k f nt nx:Nat} {hp:Tr DObj} {ds:List DV} {c:CE} {K:DV→Tr DObj→Nat→Prop}
theorem kn_r1 {t:Nat} {k1:Option (Option Nat)} (hr:rel f ds=none) (hf:tb f=some ⟨c,[(t,k1)],nt⟩) (hn:ds.length≤nt)
  (h:∀ es,es.hp=hp→es.nx=nx→Ent es ds→EW c (callN tb n rel k) es fun e es=>(e=.normal∨e=.ret)∧∃ d,resE es (t,k1)=some d∧K d es.hp es.nx):KW (callN tb n rel (k+1)) (.fn f) ds hp nx K:=
 kn_fn hr hf hn fun es h1 h2 h3=>(h es h1 h2 h3).mono fun _ es ⟨h4,d,h5,h6⟩=>⟨h4,d,by
  unfold finE
  simp only [List.mapM_cons,List.mapM_nil,h5,Option.pure_def,Option.bind_eq_bind,Option.bind_some,resVE],h6⟩
theorem kn_r2 {t u:Nat} {k1 k2:Option (Option Nat)} (hr:rel f ds=none) (hf:tb f=some ⟨c,[(t,k1),(u,k2)],nt⟩) (hn:ds.length≤nt)
  (h:∀ es,es.hp=hp→es.nx=nx→Ent es ds→EW c (callN tb n rel k) es fun e es=>(e=.normal∨e=.ret)∧∃ d b,resE es (t,k1)=some d∧resE es (u,k2)=some b∧K (.tup [d,b]) es.hp es.nx):KW (callN tb n rel (k+1)) (.fn f) ds hp nx K:=
 kn_fn hr hf hn fun es h1 h2 h3=>(h es h1 h2 h3).mono fun _ es ⟨h4,d,b,h5,h6,h7⟩=>⟨h4,.tup [d,b],by
  unfold finE
  simp only [List.mapM_cons,List.mapM_nil,h5,h6,Option.pure_def,Option.bind_eq_bind,Option.bind_some,resVE],h7⟩
theorem kn_r3 {t u v:Nat} {k1 k2 k3:Option (Option Nat)} (hr:rel f ds=none) (hf:tb f=some ⟨c,[(t,k1),(u,k2),(v,k3)],nt⟩) (hn:ds.length≤nt)
  (h:∀ es,es.hp=hp→es.nx=nx→Ent es ds→EW c (callN tb n rel k) es fun e es=>(e=.normal∨e=.ret)∧∃ d b g,resE es (t,k1)=some d∧resE es (u,k2)=some b∧resE es (v,k3)=some g∧K (.tup [d,b,g]) es.hp es.nx):KW (callN tb n rel (k+1)) (.fn f) ds hp nx K:=
 kn_fn hr hf hn fun es h1 h2 h3=>(h es h1 h2 h3).mono fun _ es ⟨h4,d,b,g,h5,h6,h7,h8⟩=>⟨h4,.tup [d,b,g],by
  unfold finE
  simp only [List.mapM_cons,List.mapM_nil,h5,h6,h7,Option.pure_def,Option.bind_eq_bind,Option.bind_some,resVE],h8⟩
end
section
variable (k n0:Nat) (hp:Tr DObj) (nx:Nat) (K:DV→Tr DObj→Nat→Prop)
end
end Go.DD

/- Contracts: copied cells. Conditions: those that each theorem states. -/
namespace Go.DD
set_option linter.unusedSectionVars false
set_option linter.unusedVariables false
open Go Go.Proofs
section
variable (k n0:Nat) (hp:Tr DObj) (nx:Nat) (K:DV→Tr DObj→Nat→Prop)
end
end Go.DD

/- Contracts: cells compared by a key. Conditions: those that each theorem states. -/
namespace Go.DD
set_option linter.unusedSectionVars false
set_option linter.unusedVariables false
open Go Go.Proofs
section
variable (k n0:Nat) (hp:Tr DObj) (nx:Nat) (K:DV→Tr DObj→Nat→Prop)
theorem B54 (p v:DV) (c:PCell) (hn:n0≤nx) (h1:RL rInt hp (Bl n0) p c.pos) (h2:RL rVal hp (Bl n0) v c.vals) (hK:∀ hp' nx',Al hp nx hp' nx'→K p hp' nx'):KW (kN (k+1)) (.fn 129) [.agg [p,v]] hp nx K:=by
 refine kn_1 (Aa5 (by decide)) t129 (Nat.le_of_ble_eq_true rfl) fun es e1 e2 he=>?_
 have a0:rawE es (.t .o)=.agg [p,v]:=he 0 _ rfl
 unfold r129
 subst e1 e2
 simp only [↓bSb]
 refine Ab6 (cs:=[p,v]) (by rw [evt,a0]; exact Af3 h1 h2) fun hp1 hg1 hk1=>?_
 simp only [bR] at hg1 hk1
 have hal1:Al es.hp es.nx hp1 (es.nx+1):=⟨by omega,fun j hj=>hk1 j (by omega)⟩
 obtain ⟨⟨f0,f1⟩,l0,l1,_⟩:=Ag5 hg1
 simp only [bSa,↓bSb,bP,reduceCtorEq,f0,l0,(h1.ka hn hal1).live]
 exact hK _ _ hal1
def KeyB (hp:Tr DObj) (n0 bx:Nat):Prop:=bx < n0∧∃ T,hp.get bx=some (.row T [.fn (.func 129) [.tup []]])
theorem As4 (p v q w:DV) (c e:PCell) (bx:Nat) (hn:n0≤nx) (hb:KeyB hp n0 bx) (h1:RL rInt hp (Bl n0) p c.pos) (h2:RL rVal hp (Bl n0) v c.vals) (h3:RL rInt hp (Bl n0) q e.pos) (h4:RL rVal hp (Bl n0) w e.vals) (hl:c.pos.length < 900000)
  (hK:∀ hp' nx',Al hp nx hp' nx'→K (iv (cmpL c.pos e.pos)) hp' nx'):KW (kN (k+5)) (.fn 166) [.agg [p,v],.agg [q,w],.pt bx 0] hp nx K:=by
 refine kn_1 (Aa5 (by decide)) t166 (Nat.le_of_ble_eq_true rfl) fun es e1 e2 he=>?_
 have a0:rawE es (.t .o)=.agg [p,v]:=he 0 _ rfl
 have a1:rawE es (.t (.l .o))=.agg [q,w]:=he 1 _ rfl
 have a2:rawE es (.t (.r .o))=.pt bx 0:=he 2 _ rfl
 unfold r166
 subst e1 e2
 obtain ⟨hbn,T,hb⟩:=hb
 simp only [↓bSb]
 refine Ab6 (cs:=[p,v]) (by rw [evt,a0]; exact Af3 h1 h2) fun hp1 hg1 hk1=>?_
 simp only [bR] at hg1 hk1
 have hal1:Al es.hp es.nx hp1 (es.nx+1):=⟨by omega,fun j hj=>hk1 j (by omega)⟩
 simp only [bSa,↓bSb]
 refine Ab6 (cs:=[q,w]) (by simp only [evt,bR,reduceCtorEq,a1]; exact Af3 (h3.ka hn hal1) (h4.ka hn hal1)) fun hp2 hg2 hk2=>?_
 simp only [bR] at hg2 hk2
 have hal2:Al es.hp es.nx hp2 (es.nx+2):=⟨by omega,fun j hj=>by rw [hk2 j (by omega),hk1 j (by omega)]⟩
 have hgA:=(hk2 es.nx (by omega)).trans hg1
 have hb2:=(hal2.same bx (by omega)).trans hb
 obtain ⟨_,_,_,lA⟩:=Ag5 hgA
 have r1:=h1.ka hn hal2
 have r2:=h2.ka hn hal2
 have r3:=h3.ka hn hal2
 have r4:=h4.ka hn hal2
 have rof:∀ (H:Tr DObj) an,Aa4 (.fn (.func 129) [.tup []]) (fun id=>okRef (es.nx+1+1) 8 an H id):=fun H an id hid=>by simp [DV.refs,DV.refsL] at hid
 simp only [bSa,↓bSb,reduceCtorEq,a2,Ax6 hb2,lA,Aa2 (n0:=es.nx+1+1) (m:=8) hb2 (show bx < es.nx+1+1 by omega),Aa2 (n0:=es.nx+1+1) (m:=8) hgA (show es.nx < es.nx+1+1 by omega),iff_true_intro (rof _ _)]
 refine ⟨ro_pr (r1.rox (by omega)) (r2.rox (by omega)),?_⟩
 refine Aa6 rfl (Ax7 (fs:=[]) (cs:=[]) (by rw [evt]; simp only [bR,reduceCtorEq]; exact Av4 _ _) ?_)
 simp only [bR,List.map_cons,List.map_nil,List.append_nil,List.nil_append]
 refine B54 (k+3) n0 _ _ _ p v c (by omega) r1 r2 fun hp3 nx3 hal3=>?_
 have hle3:=hal3.le
 have hgB3:=(hal3.same (es.nx+1) (by omega)).trans hg2
 have hgA3:=(hal3.same es.nx (by omega)).trans hgA
 have hb3:=(hal3.same bx (by omega)).trans hb2
 obtain ⟨_,_,_,lB⟩:=Ag5 hgB3
 have x1:=r1.ka (nx:=es.nx+1+1+8) (by omega) hal3
 have x3:=r3.ka (nx:=es.nx+1+1+8) (by omega) hal3
 have x4:=r4.ka (nx:=es.nx+1+1+8) (by omega) hal3
 simp only [bSa,↓bSb,reduceCtorEq,a2,hle3,Ax6 hb3,lB,Aa2 (n0:=es.nx+1+1) (m:=8) hb3 (show bx < es.nx+1+1 by omega),Aa2 (n0:=es.nx+1+1) (m:=8) hgB3 (show es.nx+1 < es.nx+1+1 by omega),iff_true_intro (rof _ _)]
 refine ⟨ro_pr (x3.rox (by omega)) (x4.rox (by omega)),?_⟩
 refine Aa6 rfl (Ax7 (fs:=[]) (cs:=[]) (by rw [evt]; simp only [bR,reduceCtorEq]; exact Av4 _ _) ?_)
 simp only [bR,List.map_cons,List.map_nil,List.append_nil,List.nil_append]
 refine B54 (k+3) n0 _ _ _ q w e (by omega) x3 x4 fun hp4 nx4 hal4=>?_
 have hle4:=hal4.le
 have y1:=x1.ka (by omega) hal4
 have y3:=x3.ka (by omega) hal4
 have hgB4:=(hal4.same (es.nx+1) (by omega)).trans hgB3
 have hb4:=(hal4.same bx (by omega)).trans hb3
 have hal24:Al es.hp es.nx hp4 nx4:=⟨by omega,fun j hj=>by rw [hal4.same j (by omega),hal3.same j (by omega),hal2.same j hj]⟩
 simp only [bSa,↓bSb,reduceCtorEq,hle4,y1.rox (show n0≤es.nx+1+1 by omega),y3.rox (show n0≤es.nx+1+1 by omega)]
 refine Aa6 rfl (Ae9 ?_)
 simp only [bR,reduceCtorEq,List.map_cons,List.map_nil]
 refine Af7 k n0 _ _ _ p q c.pos e.pos (by omega) y1 y3 hl ?_
 simp only [bSa,↓bSb,bP,reduceCtorEq,Nat.le_refl]
 have hszB:∀ d∈[q,w],Ab1 6 d d=true:=fun d hd=>by
  simp only [List.mem_cons,List.not_mem_nil,or_false] at hd
  rcases hd with rfl | rfl
  ·exact h3.same (by decide)
  ·exact h4.same (by decide)
 have hszF:∀ d∈[DV.fn (.func 129) [.tup []]],Ab1 6 d d=true:=fun d hd=>by rw [List.mem_singleton.1 hd]; rfl
 have hps:∀ {id:Nat} {o:DObj},hp2.get id=some o→hp3.get id=some o→hp4.get id=some o→∀ q∈[(⟨6,[2,5,0,1,3,4],hp4,hp4⟩:Past),⟨5,[3,4,2,0,1],hp3,hp4⟩,⟨2,[0,1],hp2,hp3⟩],q.a.get id=some o∧q.b.get id=some o:=fun h2 h3 h4 q hq=>by
  simp only [List.mem_cons,List.not_mem_nil,or_false] at hq
  rcases hq with rfl | rfl | rfl
  ·exact ⟨h4,h4⟩
  ·exact ⟨h3,h4⟩
  ·exact ⟨h2,h3⟩
 exact ⟨A17 (fun j hj=>by simpa [DV.refs] using hj) (by omega) (hps hg2 hgB3 hgB4) hszB (A17 (fun j hj=>by simpa [DV.refs] using hj) (by omega) (hps hb2 hb3 hb4) hszF rfl),hK _ _ hal24⟩
end
end Go.DD

/- Contracts: sorting of cells that are sorted changes nothing: insertion. Conditions: those that each theorem states. -/
namespace Go.DD
set_option linter.unusedSectionVars false
set_option linter.unusedVariables false
open Go Go.Proofs
def cmpV (bx:Nat):DV:=.fn (.func 166) [.tup [],.pt bx 0]
section
variable (k n0:Nat) (hp:Tr DObj) (nx:Nat) (K:DV→Tr DObj→Nat→Prop)
theorem Be9 (d:DV) (l:List PCell) (a b bx:Nat) (hn:n0≤nx) (hb:KeyB hp n0 bx) (h1:RL rCell hp (Bl n0) d l) (hs:SortC l) (hab0:a≤l.length) (hbl:b≤l.length) (hl:l.length < 900000) (hpos:∀ c∈l,c.pos.length < 900000)
  (hK:∀ hp' nx',Al hp nx hp' nx'→K (.tup []) hp' nx'):KW (kN (k+6)) (.fn 211) [d,iv (a:Nat),iv (b:Nat),cmpV bx] hp nx K:=by
 refine kn_0 (Aa5 (by decide)) t211 (Nat.le_of_ble_eq_true rfl) fun es e1 e2 he=>?_
 have a0:rawE es (.t .o)=d:=he 0 _ rfl
 have a1:rawE es (.t (.l .o))=iv (a:Nat):=he 1 _ rfl
 have a2:rawE es (.t (.r .o))=iv (b:Nat):=he 2 _ rfl
 have a3:rawE es (.t (.l (.l .o)))=cmpV bx:=he 3 _ rfl
 unfold r211
 subst e1 e2
 by_cases hab:a+1 < b
 ·have ha1:binD .add (.v (.int .i64 (a:Int))) (.v (.int .i64 1))=some (.v (.int .i64 ((a+1:Nat):Int))):=Ab7 (show a < _ by omega)
  simp only [bSa,↓bSb,a1,ha1]
  refine EW.up (b - (a+1)) (fun t es1=>Al es.hp es.nx es1.hp es1.nx∧rawE es1 (.t .o)=d∧rawE es1 (.t (.l .o))=iv (a:Nat)∧rawE es1 (.t (.r .o))=iv (b:Nat)∧rawE es1 (.t (.l (.l .o)))=cmpV bx∧rawE es1 (.t (.r (.l (.l .o))))=iv ((a+1+t:Nat))) ?_ ?_ (by omega)
  ·rintro t es1 ht ⟨g,b0,b1,b2,b3,b8⟩
   unfold Bq2
   have hle:=g.le
   have w1:=h1.ka hn g
   obtain ⟨hbn,T,hbg⟩:=hb
   have hb':=(g.same bx (by omega)).trans hbg
   by_cases h:a+1+t < b
   ·simp only [bSa,↓bSb,reduceCtorEq,b2,b8,h]
    refine EW.l (I:=fun _ es2=>es2.hp=es1.hp∧es2.nx=es1.nx∧rawE es2 (.t .o)=d∧rawE es2 (.t (.l .o))=iv (a:Nat)∧rawE es2 (.t (.r .o))=iv (b:Nat)∧rawE es2 (.t (.l (.l .o)))=cmpV bx∧rawE es2 (.t (.r (.l (.l .o))))=iv ((a+1+t:Nat))∧rawE es2 (.t (.l (.r (.l .o))))=iv ((a+1+t:Nat))) ?_ 0 1000000 _ ?_ (by omega)
    ·rintro n es2 ⟨q1,q2,x0,x1,x2,x3,x8,x9⟩
     unfold B49
     rw [← q1] at w1 hb'
     have hi:a+1+t < l.length:=by omega
     have hi':a+t < l.length:=by omega
     obtain ⟨pA,vA,rpA,rvA,ldA,_⟩:=cells_at w1 hi
     obtain ⟨pB,vB,rpB,rvB,ldB,_⟩:=cells_at w1 hi'
     have hsub:binD .sub (.v (.int .i64 ((a+1+t:Nat):Int))) (.v (.int .i64 1))=some (.v (.int .i64 ((a+t:Nat):Int))):=by rw [b_sub,wrap_in (by omega)]; congr 3; omega
     have hlt:=hs (a+t) (a+1+t) (by omega) hi
     have hgt:¬ cmpL l[a+1+t].pos l[a+t].pos < 0:=by rw [Ao1]; omega
     have hle2:n0≤es2.nx:=by omega
     have rov:∀ an,Aa4 (cmpV bx) (fun id=>okRef es2.nx 17 an es2.hp id):=fun an=>(ro_fn _ _ _ _).2 (Aa2 hb' (by omega))
     simp only [bSa,↓bSb,reduceCtorEq,x0,x1,x3,x9,show a < a+1+t by omega,hsub,Ab8 w1 hi,Ab8 w1 hi',ldA,ldB,w1.rox hle2,Ag4 w1 hle2,iff_true_intro (rov _)]
     refine ⟨⟨ro_pr (rpA.rox hle2) (rvA.rox hle2),ro_pr (rpB.rox hle2) (rvB.rox hle2)⟩,?_⟩
     refine Aa6 rfl (Ax7 (f:=166) (fs:=[]) (cs:=[.pt bx 0]) (by rw [evt]; simp only [bR,reduceCtorEq]; exact Ar9 hb') ?_)
     simp only [bR,reduceCtorEq,List.map_cons,List.map_nil,List.nil_append,List.cons_append]
     refine As4 k n0 _ _ _ pA vA pB vB l[a+1+t] l[a+t] bx (by omega) ⟨hbn,T,hb'⟩ rpA rvA rpB rvB (hpos _ (List.getElem_mem hi)) fun hp3 nx3 hal3=>?_
     have hle3:=hal3.le
     have g3:Al es.hp es.nx hp3 nx3:=⟨by omega,fun j hj=>by rw [hal3.same j (by omega),q1,g.same j hj]⟩
     simp only [bSa,↓bSb,reduceCtorEq,x0,x1,x2,x3,x8,hgt,hle3,Ab7 (show a+1+t < _ by omega)]
     exact ⟨by omega,g3,rfl⟩
    ·simp only [bSa,reduceCtorEq,b0,b1,b2,b3,b8]
   ·simp only [bSa,↓bSb,reduceCtorEq,b2,b8,h]
    exact hK _ _ g
  ·simp only [bSa,reduceCtorEq,a0,a1,a2,a3]
 ·have ha1:binD .add (.v (.int .i64 (a:Int))) (.v (.int .i64 1))=some (.v (.int .i64 ((a+1:Nat):Int))):=Ab7 (show a < _ by omega)
  simp only [bSa,↓bSb,a1,ha1]
  refine EW.l (I:=fun _ es1=>es1.hp=es.hp∧es1.nx=es.nx∧rawE es1 (.t (.r .o))=iv (b:Nat)∧rawE es1 (.t (.r (.l (.l .o))))=iv ((a+1:Nat))) ?_ 0 1000000 _ ?_ (by omega)
  ·rintro n es1 ⟨q1,q2,b2,b8⟩
   unfold Bq2
   simp only [bSa,↓bSb,reduceCtorEq,b2,b8,hab]
   rw [q1,q2]
   exact hK _ _ (Al.refl _ _)
  ·simp only [bSa,reduceCtorEq,a2]
end
end Go.DD

/- Contracts: sorting of cells that are sorted changes nothing: merging in place. Conditions: those that each theorem states. -/
namespace Go.DD
set_option linter.unusedSectionVars false
set_option linter.unusedVariables false
open Go Go.Proofs
theorem cvi_u {a:Nat} (h:a < 18446744073709551616):cviE .u64 (.v (.int .i64 (a:Int)))=some (.v (.int .u64 (a:Int))):=by
 rw [cvi_i,IntWalk.u64_in _ (by omega)]
theorem cvi_s {a:Nat} (h:a < 9223372036854775808):cviE .i64 (.v (.int .u64 (a:Int)))=some (.v (.int .i64 (a:Int))):=by
 rw [cvi_i,wrap_in (by omega)]
theorem Bf0 {a:Nat} : binD .shr (.v (.int .u64 (a:Int))) (.v (.int .u64 1))=some (.v (.int .u64 ((a / 2:Nat):Int))):=by
 have e:shI .shr .u64 (a:Int) (1:Int)=some (.int .u64 ((a / 2:Nat):Int)):=by
  unfold shI
  rw [if_neg (by decide)]
  simp only [IntKind.bits]
  have h1:min (Int.toNat 1) 64=1:=by decide
  rw [h1]
  have:(a:Int).fdiv (2 ^ 1)=((a / 2:Nat):Int):=by
   rw [Int.fdiv_eq_ediv_of_nonneg _ (by decide)]
   simp
  rw [this]
 simp [binD,binV,isSh,e]
theorem Aw3 {l:List PCell} (hs:SortC l) {i j:Nat} (hj:j < l.length) (h:i≤j):¬ cmpL (l[j]).pos (l[i]'(by omega)).pos < 0:=by
 by_cases e:i=j
 ·subst e; rw [Aw0]; decide
 ·have:=hs i j (by omega) hj
  rw [Ao1]; omega
section
variable (k n0:Nat) (hp:Tr DObj) (nx:Nat) (K:DV→Tr DObj→Nat→Prop)
theorem Cb4 (d:DV) (l:List PCell) (a b bx:Nat) (hn:n0≤nx) (hb:KeyB hp n0 bx) (h1:RL rCell hp (Bl n0) d l) (hs:SortC l) (hab:a+1 < b) (hbl:b≤l.length) (hl:l.length < 900000) (hpos:∀ c∈l,c.pos.length < 900000)
  (hK:∀ hp' nx',Al hp nx hp' nx'→K (.tup []) hp' nx'):KW (kN (k+6)) (.fn 212) [d,iv (a:Nat),iv ((a+1:Nat)),iv (b:Nat),cmpV bx] hp nx K:=by
 refine kn_0 (Aa5 (by decide)) t212 (Nat.le_of_ble_eq_true rfl) fun es e1 e2 he=>?_
 have a0:rawE es (.t .o)=d:=he 0 _ rfl
 have a1:rawE es (.t (.l .o))=iv (a:Nat):=he 1 _ rfl
 have a2:rawE es (.t (.r .o))=iv ((a+1:Nat)):=he 2 _ rfl
 have a3:rawE es (.t (.l (.l .o)))=iv (b:Nat):=he 3 _ rfl
 have a4:rawE es (.t (.r (.l .o)))=cmpV bx:=he 4 _ rfl
 unfold r212
 subst e1 e2
 have hsub:binD .sub (.v (.int .i64 ((a+1:Nat):Int))) (.v (.int .i64 (a:Int)))=some (.v (.int .i64 1)):=by rw [b_sub,wrap_in (by omega)]; congr 3; omega
 simp only [bSa,↓bSb,reduceCtorEq,a1,a2,a3,hsub]
 refine EW.l (I:=fun j es1=>a+1≤j∧j≤b∧Al es.hp es.nx es1.hp es1.nx∧rawE es1 (.t .o)=d∧rawE es1 (.t (.l .o))=iv (a:Nat)∧rawE es1 (.t (.r .o))=iv ((a+1:Nat))∧rawE es1 (.t (.r (.l .o)))=cmpV bx∧rawE es1 (.t (.r (.r (.l .o))))=iv ((a+1:Nat))∧rawE es1 (.t (.l (.l (.r .o))))=iv (j:Nat)) ?_ b 1000000 _ ?_ (by omega)
 ·rintro j es1 ⟨hj1,hj2,g,b0,b1,b2,b4,b10,b11⟩
  unfold B50
  have hle:=g.le
  have w1:=h1.ka hn g
  obtain ⟨hbn,T,hbg⟩:=hb
  have hb':=(g.same bx (by omega)).trans hbg
  by_cases h:a+1 < j
  ·have hadd:binD .add (.v (.int .i64 ((a+1:Nat):Int))) (.v (.int .i64 (j:Int)))=some (.v (.int .i64 ((a+1+j:Nat):Int))):=Aq4 (by omega)
   have hi:(a+1+j) / 2 < l.length:=by omega
   have hi':a < l.length:=by omega
   obtain ⟨pA,vA,rpA,rvA,ldA,_⟩:=cells_at w1 hi
   obtain ⟨pB,vB,rpB,rvB,ldB,_⟩:=cells_at w1 hi'
   have hge:=Aw3 hs hi (show a≤(a+1+j) / 2 by omega)
   have hle2:n0≤es1.nx:=by omega
   have rov:∀ an,Aa4 (cmpV bx) (fun id=>okRef es1.nx 11 an es1.hp id):=fun an=>(ro_fn _ _ _ _).2 (Aa2 hb' (by omega))
   simp only [bSa,↓bSb,bP,reduceCtorEq,b0,b1,b4,b10,b11,h,hadd,cvi_u (show a+1+j < _ by omega),Bf0,cvi_s (show (a+1+j) / 2 < _ by omega),Ab8 w1 hi,Ab8 w1 hi',ldA,ldB,w1.rox hle2,Ag4 w1 hle2,iff_true_intro (rov _)]
   refine ⟨⟨ro_pr (rpA.rox hle2) (rvA.rox hle2),ro_pr (rpB.rox hle2) (rvB.rox hle2)⟩,?_⟩
   refine Aa6 rfl (Ax7 (f:=166) (fs:=[]) (cs:=[.pt bx 0]) (by rw [evt]; simp only [bR,reduceCtorEq]; exact Ar9 hb') ?_)
   simp only [bR,reduceCtorEq,List.map_cons,List.map_nil,List.nil_append,List.cons_append]
   refine As4 k n0 _ _ _ pA vA pB vB l[(a+1+j) / 2] l[a] bx (by omega) ⟨hbn,T,hb'⟩ rpA rvA rpB rvB (hpos _ (List.getElem_mem hi)) fun hp3 nx3 hal3=>?_
   have hle3:=hal3.le
   have g3:Al es.hp es.nx hp3 nx3:=⟨by omega,fun j hj=>by rw [hal3.same j (by omega),g.same j hj]⟩
   simp only [bSa,↓bSb,reduceCtorEq,b0,b1,b2,b4,b10,hge,hle3]
   exact ⟨(a+1+j) / 2,by omega,by omega,by omega,g3,rfl⟩
  ·simp only [bSa,↓bSb,reduceCtorEq,b1,b10,b11,h]
   have hs1:binD .sub (.v (.int .i64 ((a+1:Nat):Int))) (.v (.int .i64 1))=some (.v (.int .i64 (a:Int))):=by rw [b_sub,wrap_in (by omega)]; congr 3; omega
   refine EW.l (I:=fun _ es2=>es2.hp=es1.hp∧es2.nx=es1.nx∧rawE es2 (.t (.r (.r (.l .o))))=iv ((a+1:Nat))∧rawE es2 (.t (.l (.r (.r .o))))=iv (a:Nat)) ?_ 0 1000000 _ ?_ (by omega)
   ·rintro n es2 ⟨q1,q2,x10,x13⟩
    unfold B51
    simp only [bSa,↓bSb,reduceCtorEq,x10,x13,hs1,Nat.lt_irrefl]
    rw [q1,q2]
    exact hK _ _ g
   ·simp only [bSa,reduceCtorEq,b10]
 ·simp only [bSa,reduceCtorEq,a0,a1,a2,a4]
  omega
theorem Cb5 (d:DV) (l:List PCell) (a m bx:Nat) (hn:n0≤nx) (hb:KeyB hp n0 bx) (h1:RL rCell hp (Bl n0) d l) (hs:SortC l) (ham:a+1 < m) (hbl:m+1≤l.length) (hl:l.length < 900000) (hpos:∀ c∈l,c.pos.length < 900000)
  (hK:∀ hp' nx',Al hp nx hp' nx'→K (.tup []) hp' nx'):KW (kN (k+6)) (.fn 212) [d,iv (a:Nat),iv (m:Nat),iv ((m+1:Nat)),cmpV bx] hp nx K:=by
 refine kn_0 (Aa5 (by decide)) t212 (Nat.le_of_ble_eq_true rfl) fun es e1 e2 he=>?_
 have a0:rawE es (.t .o)=d:=he 0 _ rfl
 have a1:rawE es (.t (.l .o))=iv (a:Nat):=he 1 _ rfl
 have a2:rawE es (.t (.r .o))=iv (m:Nat):=he 2 _ rfl
 have a3:rawE es (.t (.l (.l .o)))=iv ((m+1:Nat)):=he 3 _ rfl
 have a4:rawE es (.t (.r (.l .o)))=cmpV bx:=he 4 _ rfl
 unfold r212
 subst e1 e2
 have hsub:binD .sub (.v (.int .i64 ((m+1:Nat):Int))) (.v (.int .i64 (m:Int)))=some (.v (.int .i64 1)):=by rw [b_sub,wrap_in (by omega)]; congr 3; omega
 have hsub0:binD .sub (.v (.int .i64 (m:Int))) (.v (.int .i64 (a:Int)))=some (.v (.int .i64 ((m - a:Nat):Int))):=by rw [b_sub,wrap_in (by omega)]; congr 3; omega
 simp only [bSa,↓bSb,reduceCtorEq,a1,a2,a3,hsub,hsub0,show ¬ ((m - a:Nat):Int)=1 by omega]
 refine EW.l (I:=fun n es1=>∃ i,n=m - i∧a≤i∧i≤m∧Al es.hp es.nx es1.hp es1.nx∧rawE es1 (.t .o)=d∧rawE es1 (.t (.r .o))=iv (m:Nat)∧rawE es1 (.t (.r (.l .o)))=cmpV bx∧rawE es1 (.t (.r (.r (.r .o))))=iv (i:Nat)∧rawE es1 (.t (.l (.l (.l (.l .o)))))=iv (m:Nat)) ?_ (m - a) 1000000 _ ?_ (by omega)
 ·rintro n es1 ⟨i,hni,hi1,hi2,g,b0,b2,b4,b14,b15⟩
  unfold B52
  have hle:=g.le
  have w1:=h1.ka hn g
  obtain ⟨hbn,T,hbg⟩:=hb
  have hb':=(g.same bx (by omega)).trans hbg
  by_cases h:i < m
  ·have hadd:binD .add (.v (.int .i64 (i:Int))) (.v (.int .i64 (m:Int)))=some (.v (.int .i64 ((i+m:Nat):Int))):=Aq4 (by omega)
   have hi:(i+m) / 2 < l.length:=by omega
   have hi':m < l.length:=by omega
   obtain ⟨pA,vA,rpA,rvA,ldA,_⟩:=cells_at w1 hi
   obtain ⟨pB,vB,rpB,rvB,ldB,_⟩:=cells_at w1 hi'
   have hge:=Aw3 hs hi' (show (i+m) / 2≤m by omega)
   have hle2:n0≤es1.nx:=by omega
   have rov:∀ an,Aa4 (cmpV bx) (fun id=>okRef es1.nx 12 an es1.hp id):=fun an=>(ro_fn _ _ _ _).2 (Aa2 hb' (by omega))
   simp only [bSa,↓bSb,bP,reduceCtorEq,b0,b2,b4,b14,b15,h,hadd,cvi_u (show i+m < _ by omega),Bf0,cvi_s (show (i+m) / 2 < _ by omega),Ab8 w1 hi,Ab8 w1 hi',ldA,ldB,w1.rox hle2,Ag4 w1 hle2,iff_true_intro (rov _)]
   refine ⟨⟨ro_pr (rpB.rox hle2) (rvB.rox hle2),ro_pr (rpA.rox hle2) (rvA.rox hle2)⟩,?_⟩
   refine Aa6 rfl (Ax7 (f:=166) (fs:=[]) (cs:=[.pt bx 0]) (by rw [evt]; simp only [bR,reduceCtorEq]; exact Ar9 hb') ?_)
   simp only [bR,reduceCtorEq,List.map_cons,List.map_nil,List.nil_append,List.cons_append]
   refine As4 k n0 _ _ _ pB vB pA vA l[m] l[(i+m) / 2] bx (by omega) ⟨hbn,T,hb'⟩ rpB rvB rpA rvA (hpos _ (List.getElem_mem hi')) fun hp3 nx3 hal3=>?_
   have hle3:=hal3.le
   have g3:Al es.hp es.nx hp3 nx3:=⟨by omega,fun j hj=>by rw [hal3.same j (by omega),g.same j hj]⟩
   simp only [bSa,↓bSb,reduceCtorEq,b0,b2,b4,b15,hge,hle3,Ab7 (show (i+m) / 2 < _ by omega)]
   exact ⟨m - ((i+m) / 2+1),by omega,(i+m) / 2+1,rfl,by omega,by omega,g3,rfl⟩
  ·have him:i=m:=by omega
   subst him
   simp only [bSa,↓bSb,reduceCtorEq,b2,b14,b15,Nat.lt_irrefl]
   refine EW.l (I:=fun _ es2=>es2.hp=es1.hp∧es2.nx=es1.nx∧rawE es2 (.t (.r (.r (.r .o))))=iv (i:Nat)∧rawE es2 (.t (.l (.r (.l (.l .o)))))=iv (i:Nat)) ?_ 0 1000000 _ ?_ (by omega)
   ·rintro n es2 ⟨q1,q2,x14,x17⟩
    unfold B53
    simp only [bSa,↓bSb,reduceCtorEq,x14,x17,Nat.lt_irrefl]
    rw [q1,q2]
    exact hK _ _ g
   ·simp only [bSa,reduceCtorEq,b14]
 ·refine ⟨a,?_⟩
  simp only [bSa,reduceCtorEq,a0,a2,a4]
  omega
end
end Go.DD

/- Contracts: sorting of cells that are sorted changes nothing: merging in place, the general step. Conditions: those that each theorem states. -/
namespace Go.DD
set_option linter.unusedSectionVars false
set_option linter.unusedVariables false
open Go Go.Proofs
theorem p131:pth 131=(.l (.l (.r (.l (.l (.l (.l .o))))))):=rfl
theorem p133:pth 133=(.l (.r (.r (.l (.l (.l (.l .o))))))):=rfl
theorem p154:pth 154=(.r (.r (.l (.r (.r (.l (.l .o))))))):=rfl
theorem p156:pth 156=(.r (.l (.r (.r (.r (.l (.l .o))))))):=rfl
section
variable (k n0:Nat)
theorem Bq4 (d:DV) (l:List PCell) (bx s0 r p:Nat) (x1 x2 x3 x18 x19:DV) (hs:SortC l) (hl:l.length < 900000) (hpos:∀ c∈l,c.pos.length < 900000) {es:ES} {Q:Exit→ES→Prop} (hn:n0≤es.nx) (hb:KeyB es.hp n0 bx) (h1:RL rCell es.hp (Bl n0) d l) (hsr:s0≤r) (hr:r < 900000) (hc:∀ c,s0≤c→c < r→c+c≤p∧p - c < l.length)
  (a0:rawE es (.t .o)=d) (a1:rawE es (.t (.l .o))=x1) (a2:rawE es (.t (.r .o))=x2) (a3:rawE es (.t (.l (.l .o)))=x3) (a4:rawE es (.t (.r (.l .o)))=cmpV bx) (a18:rawE es (.t (.r (.r (.l (.l .o)))))=x18) (a19:rawE es (.t (.l (.l (.r (.l .o)))))=x19) (a20:rawE es (.t (.r (.l (.r (.l .o)))))=iv (s0:Nat)) (a21:rawE es (.t (.l (.r (.r (.l .o)))))=iv (r:Nat)) (a22:rawE es (.t (.r (.r (.r (.l .o)))))=iv (p:Nat))
  (hQ:∀ es2:ES,Al es.hp es.nx es2.hp es2.nx→rawE es2 (.t .o)=d→rawE es2 (.t (.l .o))=x1→rawE es2 (.t (.r .o))=x2→rawE es2 (.t (.l (.l .o)))=x3→rawE es2 (.t (.r (.l .o)))=cmpV bx→rawE es2 (.t (.r (.r (.l (.l .o)))))=x18→rawE es2 (.t (.l (.l (.r (.l .o)))))=x19→rawE es2 (.t (.r (.l (.r (.l .o)))))=iv (r:Nat)→Q (.exit 8) es2):EW (cL 1000000 Bq3) (kN (k+5)) es Q:=by
 refine EW.l (I:=fun n es1=>∃ i,n=r - i∧s0≤i∧i≤r∧Al es.hp es.nx es1.hp es1.nx∧rawE es1 (.t .o)=d∧rawE es1 (.t (.l .o))=x1∧rawE es1 (.t (.r .o))=x2∧rawE es1 (.t (.l (.l .o)))=x3∧rawE es1 (.t (.r (.l .o)))=cmpV bx∧rawE es1 (.t (.r (.r (.l (.l .o)))))=x18∧rawE es1 (.t (.l (.l (.r (.l .o)))))=x19∧rawE es1 (.t (.r (.l (.r (.l .o)))))=iv (i:Nat)∧rawE es1 (.t (.l (.r (.r (.l .o)))))=iv (r:Nat)∧rawE es1 (.t (.r (.r (.r (.l .o)))))=iv (p:Nat)) ?_ (r - s0) 1000000 _ ⟨s0,rfl,Nat.le_refl _,hsr,Al.refl _ _,a0,a1,a2,a3,a4,a18,a19,a20,a21,a22⟩ (by omega)
 rintro n es1 ⟨i,hni,hi1,hi2,g,b0,b1,b2,b3,b4,b18,b19,b20,b21,b22⟩
 unfold Bq3
 have hle:=g.le
 have w1:=h1.ka hn g
 obtain ⟨hbn,T,hbg⟩:=hb
 have hb':=(g.same bx (by omega)).trans hbg
 by_cases h:i < r
 ·obtain ⟨hc1,hc2⟩:=hc ((i+r) / 2) (by omega) (by omega)
  obtain ⟨c,hcd⟩:∃ c,c=(i+r) / 2:=⟨_,rfl⟩
  rw [← hcd] at hc1 hc2
  have hadd:binD .add (.v (.int .i64 (i:Int))) (.v (.int .i64 (r:Int)))=some (.v (.int .i64 ((i+r:Nat):Int))):=Aq4 (by omega)
  have hh:binD .shr (.v (.int .u64 ((i+r:Nat):Int))) (.v (.int .u64 1))=some (.v (.int .u64 (c:Int))):=by rw [Bf0,← hcd]
  have hsub:binD .sub (.v (.int .i64 (p:Int))) (.v (.int .i64 (c:Int)))=some (.v (.int .i64 ((p - c:Nat):Int))):=by rw [b_sub,wrap_in (by omega)]; congr 3; omega
  have hi:c < l.length:=by omega
  obtain ⟨pA,vA,rpA,rvA,ldA,_⟩:=cells_at w1 hi
  obtain ⟨pB,vB,rpB,rvB,ldB,_⟩:=cells_at w1 hc2
  have hge:=Aw3 hs hc2 (show c≤p - c by omega)
  have hle2:n0≤es1.nx:=by omega
  have rov:∀ an,Aa4 (cmpV bx) (fun id=>okRef es1.nx 14 an es1.hp id):=fun an=>(ro_fn _ _ _ _).2 (Aa2 hb' (by omega))
  simp only [bSa,↓bSb,reduceCtorEq,b0,b4,b20,b21,b22,h,hadd,hh,hsub,p154,p156,cvi_u (show i+r < _ by omega),cvi_s (show c < _ by omega),Ab8 w1 hi,Ab8 w1 hc2,ldA,ldB,w1.rox hle2,Ag4 w1 hle2,iff_true_intro (rov _)]
  refine ⟨⟨ro_pr (rpB.rox hle2) (rvB.rox hle2),ro_pr (rpA.rox hle2) (rvA.rox hle2)⟩,?_⟩
  refine Aa6 rfl (Ax7 (f:=166) (fs:=[]) (cs:=[.pt bx 0]) (by rw [evt]; simp only [bR,reduceCtorEq]; exact Ar9 hb') ?_)
  simp only [bR,reduceCtorEq,List.map_cons,List.map_nil,List.nil_append,List.cons_append]
  refine As4 k n0 _ _ _ pB vB pA vA l[p - c] l[c] bx (by omega) ⟨hbn,T,hb'⟩ rpB rvB rpA rvA (hpos _ (List.getElem_mem hc2)) fun hp3 nx3 hal3=>?_
  have hle3:=hal3.le
  have g3:Al es.hp es.nx hp3 nx3:=⟨by omega,fun j hj=>by rw [hal3.same j (by omega),g.same j hj]⟩
  simp only [bSa,↓bSb,reduceCtorEq,b0,b1,b2,b3,b4,b18,b19,b21,b22,hge,hle3,Ab7 (show c < _ by omega)]
  exact ⟨r - (c+1),by omega,c+1,rfl,by omega,by omega,g3,rfl⟩
 ·have hir:i=r:=by omega
  subst hir
  simp only [bSa,↓bSb,reduceCtorEq,b20,b21,Nat.lt_irrefl]
  refine hQ _ g ?_ ?_ ?_ ?_ ?_ ?_ ?_ ?_ <;> simp only [bR,reduceCtorEq] <;> assumption
theorem B55 (d:DV) (l:List PCell) (bx:Nat) (hs:SortC l) (hl:l.length < 900000) (hpos:∀ c∈l,c.pos.length < 900000):∀ (f a m b:Nat) (hp:Tr DObj) (nx:Nat) (K:DV→Tr DObj→Nat→Prop) (_:n0≤nx) (_:KeyB hp n0 bx) (_:RL rCell hp (Bl n0) d l) (_:a < m) (_:m < b) (_:b≤l.length) (_:b - a≤2 ^ f)
  (_:∀ hp' nx',Al hp nx hp' nx'→K (.tup []) hp' nx'),KW (kN (k+f+6)) (.fn 212) [d,iv (a:Nat),iv (m:Nat),iv (b:Nat),cmpV bx] hp nx K:=by
 intro f
 induction f with
 | zero=>intro a m b hp nx K _ _ _ h1 h2 _ h3 _; omega
 | succ f ih=>
  intro a m b hp nx K hn hb h1 ham hmb hbl hf hK
  by_cases c1:m=a+1
  ·subst c1
   exact Cb4 (k+f+1) n0 hp nx K d l a b bx hn hb h1 hs hmb hbl hl hpos hK
  ·by_cases c2:b=m+1
   ·subst c2
    exact Cb5 (k+f+1) n0 hp nx K d l a m bx hn hb h1 hs (by omega) hbl hl hpos hK
   ·show KW (kN (k+f+6+1)) _ _ _ _ _
    refine kn_0 (Aa5 (by decide)) t212 (Nat.le_of_ble_eq_true rfl) fun es e1 e2 he=>?_
    have a0:rawE es (.t .o)=d:=he 0 _ rfl
    have a1:rawE es (.t (.l .o))=iv (a:Nat):=he 1 _ rfl
    have a2:rawE es (.t (.r .o))=iv (m:Nat):=he 2 _ rfl
    have a3:rawE es (.t (.l (.l .o)))=iv (b:Nat):=he 3 _ rfl
    have a4:rawE es (.t (.r (.l .o)))=cmpV bx:=he 4 _ rfl
    unfold r212
    subst e1 e2
    have hp2:2 ^ (f+1)=2*2 ^ f:=by rw [Nat.pow_succ]; omega
    rw [hp2] at hf
    generalize 2 ^ f=F at hf ih
    obtain ⟨M,hM⟩:∃ M,M=(a+b) / 2:=⟨_,rfl⟩
    have hs1:binD .sub (.v (.int .i64 (m:Int))) (.v (.int .i64 (a:Int)))=some (.v (.int .i64 ((m - a:Nat):Int))):=by rw [b_sub,wrap_in (by omega)]; congr 3; omega
    have hs2:binD .sub (.v (.int .i64 (b:Int))) (.v (.int .i64 (m:Int)))=some (.v (.int .i64 ((b - m:Nat):Int))):=by rw [b_sub,wrap_in (by omega)]; congr 3; omega
    have ha1:binD .add (.v (.int .i64 (a:Int))) (.v (.int .i64 (b:Int)))=some (.v (.int .i64 ((a+b:Nat):Int))):=Aq4 (by omega)
    have ha2:binD .add (.v (.int .i64 (M:Int))) (.v (.int .i64 (m:Int)))=some (.v (.int .i64 ((M+m:Nat):Int))):=Aq4 (by omega)
    have hs4:binD .sub (.v (.int .i64 ((M+m:Nat):Int))) (.v (.int .i64 1))=some (.v (.int .i64 ((M+m - 1:Nat):Int))):=by rw [b_sub,wrap_in (by omega)]; congr 3; omega
    have hh:binD .shr (.v (.int .u64 ((a+b:Nat):Int))) (.v (.int .u64 1))=some (.v (.int .u64 (M:Int))):=by rw [Bf0,← hM]
    by_cases cm:M < m
    ·have hs3:binD .sub (.v (.int .i64 ((M+m:Nat):Int))) (.v (.int .i64 (b:Int)))=some (.v (.int .i64 ((M+m - b:Nat):Int))):=by rw [b_sub,wrap_in (by omega)]; congr 3; omega
     simp only [bSa,↓bSb,reduceCtorEq,a1,a2,a3,hs1,hs2,ha1,ha2,hs3,hs4,hh,p131,p133,show ¬ ((m - a:Nat):Int)=1 by omega,show ¬ ((b - m:Nat):Int)=1 by omega,cvi_u (show a+b < _ by omega),cvi_s (show M < _ by omega),cm]
     refine Bq4 (k+f+1) n0 d l bx (M+m - b) M (M+m - 1) (iv (a:Nat)) (iv (m:Nat)) (iv (b:Nat)) (iv (M:Nat)) (iv ((M+m:Nat))) hs hl hpos hn hb h1 (by omega) (by omega) (fun c h3 h4=>⟨by omega,by omega⟩) (by simp only [bR,reduceCtorEq,a0]) (by simp only [bR,reduceCtorEq,a1]) (by simp only [bR,reduceCtorEq,a2]) (by simp only [bR,reduceCtorEq,a3]) (by simp only [bR,reduceCtorEq,a4]) (by simp only [bR,reduceCtorEq]) (by simp only [bR,reduceCtorEq]) (by simp only [bR,reduceCtorEq]) (by simp only [bR,reduceCtorEq]) (by simp only [bR]) fun es2 g x0 x1 x2 x3 x4 x18 x19 x20=>?_
     have g:Al es.hp es.nx es2.hp es2.nx:=g
     have hbn:=hb.1
     have hle:=g.le
     have hs5:binD .sub (.v (.int .i64 ((M+m:Nat):Int))) (.v (.int .i64 (M:Int)))=some (.v (.int .i64 (m:Int))):=by rw [b_sub,wrap_in (by omega)]; congr 3; omega
     simp only [bSa,↓bSb,reduceCtorEq,x0,x1,x2,x3,x4,x18,x19,x20,hs5,cm,Nat.lt_irrefl,show a < M by omega,hmb]
     refine kws (ih M m b _ _ _ (by have:=g.le; omega) ⟨hb.1,by obtain ⟨_,T,h⟩:=hb; exact ⟨T,(g.same _ (by omega)).trans h⟩⟩ (h1.ka hn g) cm hmb hbl (by omega) fun hp3 nx3 hal3=>?_)
     simp only [bSa,↓bSb,reduceCtorEq]
     exact hK _ _ (g.trans hal3)
    ·simp only [bSa,↓bSb,reduceCtorEq,a1,a2,a3,hs1,hs2,ha1,ha2,hs4,hh,p131,p133,show ¬ ((m - a:Nat):Int)=1 by omega,show ¬ ((b - m:Nat):Int)=1 by omega,cvi_u (show a+b < _ by omega),cvi_s (show M < _ by omega),cm]
     refine Bq4 (k+f+1) n0 d l bx a m (M+m - 1) (iv (a:Nat)) (iv (m:Nat)) (iv (b:Nat)) (iv (M:Nat)) (iv ((M+m:Nat))) hs hl hpos hn hb h1 (by omega) (by omega) (fun c h3 h4=>⟨by omega,by omega⟩) (by simp only [bR,reduceCtorEq,a0]) (by simp only [bR,reduceCtorEq,a1]) (by simp only [bR,reduceCtorEq,a2]) (by simp only [bR,reduceCtorEq,a3]) (by simp only [bR,reduceCtorEq,a4]) (by simp only [bR,reduceCtorEq]) (by simp only [bR,reduceCtorEq]) (by simp only [bR,reduceCtorEq]) (by simp only [bR,reduceCtorEq]) (by simp only [bR]) fun es2 g x0 x1 x2 x3 x4 x18 x19 x20=>?_
     have g:Al es.hp es.nx es2.hp es2.nx:=g
     have hbn:=hb.1
     have hle:=g.le
     have hs5:binD .sub (.v (.int .i64 ((M+m:Nat):Int))) (.v (.int .i64 (m:Int)))=some (.v (.int .i64 (M:Int))):=by rw [b_sub,wrap_in (by omega)]; congr 3; omega
     by_cases ce:m < M
     ·simp only [bSa,↓bSb,reduceCtorEq,x0,x1,x2,x4,x18,x19,x20,hs5,Nat.lt_irrefl,ham,ce]
      refine kws (ih a m M _ _ _ (by have:=g.le; omega) ⟨hb.1,by obtain ⟨_,T,h⟩:=hb; exact ⟨T,(g.same _ (by omega)).trans h⟩⟩ (h1.ka hn g) ham ce (by omega) (by omega) fun hp3 nx3 hal3=>?_)
      simp only [bSa,↓bSb,reduceCtorEq,x18,Nat.lt_irrefl]
      exact hK _ _ (g.trans hal3)
     ·simp only [bSa,↓bSb,reduceCtorEq,x1,x2,x18,x19,x20,hs5,Nat.lt_irrefl,ham,ce]
      exact hK _ _ g
end
end Go.DD

/- Contracts: a stable sort of sorted cells changes nothing. Conditions: those that each theorem states. -/
namespace Go.DD
set_option linter.unusedSectionVars false
set_option linter.unusedVariables false
open Go Go.Proofs
section
variable (k n0:Nat) (hp:Tr DObj) (nx:Nat) (K:DV→Tr DObj→Nat→Prop)
theorem Bq5 (f:Nat) (d:DV) (l:List PCell) (bx:Nat) (hn:n0≤nx) (hb:KeyB hp n0 bx) (h1:RL rCell hp (Bl n0) d l) (hs:SortC l) (hl:l.length < 400000) (hf:l.length≤2 ^ f) (hpos:∀ c∈l,c.pos.length < 900000)
  (hK:∀ hp' nx',Al hp nx hp' nx'→K (.tup []) hp' nx'):KW (kN (k+f+7)) (.fn 187) [d,iv l.length,cmpV bx] hp nx K:=by
 refine kn_0 (Aa5 (by decide)) t187 (Nat.le_of_ble_eq_true rfl) fun es e1 e2 he=>?_
 have a0:rawE es (.t .o)=d:=he 0 _ rfl
 have a1:rawE es (.t (.l .o))=iv l.length:=he 1 _ rfl
 have a2:rawE es (.t (.r .o))=cmpV bx:=he 2 _ rfl
 unfold r187
 subst e1 e2
 have hbn:=hb.1
 have keyB:∀ {hp' nx'},Al es.hp es.nx hp' nx'→KeyB hp' n0 bx:=fun g=>⟨hb.1,by obtain ⟨_,T,h⟩:=hb; exact ⟨T,(g.same _ (by omega)).trans h⟩⟩
 simp only [bSa,↓bSb,reduceCtorEq]
 refine EW.l (I:=fun m es1=>∃ a,m=l.length - a∧a≤l.length∧Al es.hp es.nx es1.hp es1.nx∧rawE es1 (.t .o)=d∧rawE es1 (.t (.l .o))=iv l.length∧rawE es1 (.t (.r .o))=cmpV bx∧rawE es1 (.t (.r (.r .o)))=iv ((20:Nat))∧rawE es1 (.t (.l (.l (.l .o))))=iv (a:Nat)∧rawE es1 (.t (.r (.l (.l .o))))=iv ((a+20:Nat))) ?_ l.length 1000000 _ ?_ (by omega)
 ·rintro m es1 ⟨a,hm,ha,g,b0,b1,b2,b6,b7,b8⟩
  unfold B46
  have hle:=g.le
  by_cases h:a+20≤l.length
  ·simp only [bSa,↓bSb,reduceCtorEq,b0,b1,b2,b7,b8,h]
   refine kws (Be9 (k+f) n0 _ _ _ d l a (a+20) bx (by omega) (keyB g) (h1.ka hn g) hs (by omega) h (by omega) hpos fun hp3 nx3 hal3=>?_)
   simp only [bSa,↓bSb,reduceCtorEq,b0,b1,b2,b6,b8,Aq4 (show a+20+20 < _ by omega)]
   exact ⟨l.length - (a+20),by omega,a+20,rfl,h,g.trans hal3,rfl,rfl⟩
  ·simp only [bSa,↓bSb,reduceCtorEq,b0,b1,b2,b7,b8,h]
   refine kws (Be9 (k+f) n0 _ _ _ d l a l.length bx (by omega) (keyB g) (h1.ka hn g) hs ha (Nat.le_refl _) (by omega) hpos fun hp3 nx3 hal3=>?_)
   have g3:=g.trans hal3
   simp only [bSa,↓bSb]
   refine EW.l (I:=fun m es2=>∃ bs,m=l.length - bs∧1≤bs∧bs≤400000+400000∧Al es.hp es.nx es2.hp es2.nx∧rawE es2 (.t .o)=d∧rawE es2 (.t (.l .o))=iv l.length∧rawE es2 (.t (.r .o))=cmpV bx∧rawE es2 (.t (.r (.r .o)))=iv (bs:Nat)) ?_ (l.length - 20) 1000000 _ ?_ (by omega)
   ·rintro m2 es2 ⟨bs,hm2,hbs,hbs2,g2,x0,x1,x2,x6⟩
    unfold B48
    have hle2:=g2.le
    by_cases h2:bs < l.length
    ·have hmul:binD .mul (.v (.int .i64 2)) (.v (.int .i64 (bs:Int)))=some (.v (.int .i64 ((2*bs:Nat):Int))):=by rw [b_mul,wrap_in (by omega)]; congr 3
     simp only [bSa,↓bSb,reduceCtorEq,x1,x6,h2,hmul]
     refine EW.l (I:=fun m es3=>∃ a,m=l.length - a∧a≤l.length∧Al es.hp es.nx es3.hp es3.nx∧rawE es3 (.t .o)=d∧rawE es3 (.t (.l .o))=iv l.length∧rawE es3 (.t (.r .o))=cmpV bx∧rawE es3 (.t (.r (.r .o)))=iv (bs:Nat)∧rawE es3 (.t (.l (.l (.l .o))))=iv (a:Nat)∧rawE es3 (.t (.r (.l (.l .o))))=iv ((a+2*bs:Nat))) ?_ l.length 1000000 _ ?_ (by omega)
     ·rintro m3 es3 ⟨a,hm3,ha3,g4,y0,y1,y2,y6,y7,y8⟩
      unfold B47
      have hle4:=g4.le
      have hadd:binD .add (.v (.int .i64 (a:Int))) (.v (.int .i64 (bs:Int)))=some (.v (.int .i64 ((a+bs:Nat):Int))):=Aq4 (by omega)
      by_cases h5:a+2*bs≤l.length
      ·simp only [bSa,↓bSb,reduceCtorEq,y0,y1,y2,y6,y7,y8,h5,hadd]
       refine kws (B55 k n0 d l bx hs (by omega) hpos f a (a+bs) (a+2*bs) _ _ _ (by omega) (keyB g4) (h1.ka hn g4) (by omega) (by omega) h5 (by omega) fun hp5 nx5 hal5=>?_)
       simp only [bSa,↓bSb,reduceCtorEq,y0,y1,y2,y6,y8,hmul,Aq4 (show a+2*bs+2*bs < _ by omega)]
       exact ⟨l.length - (a+2*bs),by omega,a+2*bs,rfl,h5,g4.trans hal5,rfl,rfl⟩
      ·by_cases h6:a+bs < l.length
       ·simp only [bSa,↓bSb,reduceCtorEq,y0,y1,y2,y6,y7,y8,h5,h6,hadd]
        refine kws (B55 k n0 d l bx hs (by omega) hpos f a (a+bs) l.length _ _ _ (by omega) (keyB g4) (h1.ka hn g4) (by omega) h6 (Nat.le_refl _) (by omega) fun hp5 nx5 hal5=>?_)
        have hdb:binD .mul (.v (.int .i64 (bs:Int))) (.v (.int .i64 2))=some (.v (.int .i64 ((bs*2:Nat):Int))):=by rw [b_mul,wrap_in (by omega)]; congr 3
        simp only [bSa,↓bSb,reduceCtorEq,y0,y1,y2,y6,hdb]
        exact ⟨l.length - bs*2,by omega,bs*2,rfl,by omega,by omega,g4.trans hal5,rfl⟩
       ·have hdb:binD .mul (.v (.int .i64 (bs:Int))) (.v (.int .i64 2))=some (.v (.int .i64 ((bs*2:Nat):Int))):=by rw [b_mul,wrap_in (by omega)]; congr 3
        simp only [bSa,↓bSb,reduceCtorEq,y0,y1,y2,y6,y7,y8,h5,h6,hadd,hdb]
        exact ⟨l.length - bs*2,by omega,bs*2,rfl,by omega,by omega,g4,rfl⟩
     ·refine ⟨0,?_⟩
      simp only [bSa,reduceCtorEq,x0,x1,x2,x6]
      refine ⟨by omega,by omega,g2,?_⟩
      first | rfl | rw [Nat.zero_add] | simp
    ·simp only [bSa,↓bSb,reduceCtorEq,x1,x6,h2]
     exact hK _ _ g2
   ·refine ⟨20,?_⟩
    simp only [bSa,reduceCtorEq,b0,b1,b2,b6]
    exact ⟨by omega,by omega,g3⟩
 ·refine ⟨0,?_⟩
  simp only [bSa,reduceCtorEq,a0,a1,a2]
  exact ⟨by omega,by omega,rfl⟩
end
end Go.DD

/- Contracts: sorting of sorted cells by a key changes nothing. Conditions: those that each theorem states. -/
namespace Go.DD
set_option linter.unusedSectionVars false
set_option linter.unusedVariables false
open Go Go.Proofs
section
variable (k n0:Nat) (hp:Tr DObj) (nx:Nat) (K:DV→Tr DObj→Nat→Prop)
theorem A24 (f:Nat) (d:DV) (l:List PCell) (bx:Nat) (hn:n0≤nx) (hb:KeyB hp n0 bx) (h1:RL rCell hp (Bl n0) d l) (hs:SortC l) (hl:l.length < 400000) (hf:l.length≤2 ^ f) (hpos:∀ c∈l,c.pos.length < 900000)
  (hK:∀ hp' nx',Al hp nx hp' nx'→K (.tup []) hp' nx'):KW (kN (k+f+8)) (.fn 165) [d,cmpV bx] hp nx K:=by
 refine kn_0 (Aa5 (by decide)) t165 (Nat.le_of_ble_eq_true rfl) fun es e1 e2 he=>?_
 have a0:rawE es (.t .o)=d:=he 0 _ rfl
 have a1:rawE es (.t (.l .o))=cmpV bx:=he 1 _ rfl
 unfold r165
 subst e1 e2
 simp only [bSa,↓bSb,reduceCtorEq,a0,a1,h1.len]
 refine kws (Bq5 k n0 _ _ _ f d l bx hn hb h1 hs hl hf hpos fun hp3 nx3 hal3=>?_)
 simp only [bSa,↓bSb,reduceCtorEq]
 exact hK _ _ hal3
theorem Bq6 (f:Nat) (d:DV) (l:List PCell) (hn:n0≤nx) (h1:RL rCell hp (Bl n0) d l) (hs:SortC l) (hl:l.length < 400000) (hf:l.length≤2 ^ f) (hpos:∀ c∈l,c.pos.length < 900000)
  (hK:∀ hp' nx',Al hp nx hp' nx'→K (.tup []) hp' nx'):KW (kN (k+f+9)) (.fn 128) [d,.fn (.func 129) [.tup []]] hp nx K:=by
 refine kn_0 (Aa5 (by decide)) t128 (Nat.le_of_ble_eq_true rfl) fun es e1 e2 he=>?_
 have a0:rawE es (.t .o)=d:=he 0 _ rfl
 have a1:rawE es (.t (.l .o))=.fn (.func 129) [.tup []]:=he 1 _ rfl
 unfold r128
 subst e1 e2
 simp only [↓bSb]
 refine B22 (v:=.fn (.func 129) [.tup []]) (by simp only [evt,a1]; exact Av4 _ _) ⟨rfl,rfl⟩ fun hp1 hg1 hk1=>?_
 simp only [bR] at hg1 hk1
 have hal1:Al es.hp es.nx hp1 (es.nx+1):=⟨by omega,fun j hj=>hk1 j (by omega)⟩
 have e1:liveE hp1 (.pt es.nx 0)=.pt es.nx 0:=Ag2 fun id hid=>by
  have:id=es.nx:=by simpa [DV.refs] using hid
  rw [this,hg1]; rfl
 simp only [bSa,↓bSb,bP,reduceCtorEq,a0,e1]
 refine kws (A24 k (es.nx+1) _ _ _ f d l es.nx (Nat.le_refl _) ⟨by omega,_,hg1⟩ ((h1.ka hn hal1).bl (show n0≤es.nx+1 by omega)) hs hl hf hpos fun hp3 nx3 hal3=>?_)
 simp only [bSa,↓bSb,reduceCtorEq]
 exact hK _ _ (hal1.trans hal3)
end
end Go.DD

/- Contracts: the program's copy of a cell. Conditions: those that each theorem states. -/
namespace Go.DD
set_option linter.unusedSectionVars false
set_option linter.unusedVariables false
open Go Go.Proofs
section
variable (k n0:Nat) (hp:Tr DObj) (nx:Nat) (K:DV→Tr DObj→Nat→Prop)
theorem Bq7 (p v:DV) (c:PCell) (hn:n0≤nx) (h1:RL rInt hp (Bl n0) p c.pos) (h2:RL rVal hp (Bl n0) v c.vals) (hpn:c.pos≠[]) (hv1:c.vals≠[]) (hp0:c.pos.length < 900000) (hv0:c.vals.length < 900000)
  (hK:∀ hp' nx' p' v',Al hp nx hp' nx'→RL rInt hp' (Bw nx nx') p' c.pos→RL rVal hp' (Bw nx nx') v' c.vals→K (.agg [p',v']) hp' nx'):KW (kN (k+2)) (.fn 164) [.agg [p,v]] hp nx K:=by
 refine kn_r1 (Aa5 (by decide)) t164 (Nat.le_of_ble_eq_true rfl) fun es e1 e2 he=>?_
 have a0:rawE es (.t .o)=.agg [p,v]:=he 0 _ rfl
 unfold r164
 subst e1 e2
 simp only [↓bSb]
 refine Ab6 (cs:=[p,v]) (by rw [evt,a0]; exact Af3 h1 h2) fun hp1 hg1 hk1=>?_
 simp only [bR] at hg1 hk1
 simp only [bSa,↓bSb]
 refine Ad3 fun hp2 hg2 hk2=>?_
 simp only [bR] at hg2 hk2
 have hal2:Al es.hp es.nx hp2 (es.nx+2):=⟨by omega,fun j hj=>by rw [hk2 j (by omega),hk1 j (by omega)]⟩
 have hgA:=(hk2 es.nx (by omega)).trans hg1
 obtain ⟨⟨f0,f1⟩,l0,l1,_⟩:=Ag5 hgA
 have r1:=h1.ka hn hal2
 have r2:=h2.ka hn hal2
 simp only [bSa,↓bSb,reduceCtorEq,f0,l0,Aa2 (n0:=es.nx+1+1) (m:=8) hgA (show es.nx < es.nx+1+1 by omega),r1.rox (show n0≤es.nx+1+1 by omega)]
 refine Aa6 rfl (Ae9 ?_)
 simp only [bR,List.map_cons,List.map_nil]
 refine A55 k n0 _ _ _ p c.pos (by omega) r1 (.inl hpn) (by omega) fun hp7 nx7 a' hal7 ho7 hr7 _=>?_
 have hle7:=hal7.le
 have hgA7:=(hal7.same es.nx (by omega)).trans hgA
 have hgB7:=(hal7.same (es.nx+1) (by omega)).trans hg2
 obtain ⟨⟨f0,f1⟩,l0,l1,_⟩:=Ag5 hgA7
 have r7:=r2.ka (nx:=es.nx+1+1+8) (by omega) hal7
 have rA7:=ho7.rlF hr7
 simp only [bSa,↓bSb,reduceCtorEq,hle7,f1,l1,Aa2 (n0:=es.nx+1+1) (m:=8) hgA7 (show es.nx < es.nx+1+1 by omega),r7.rox (show n0≤es.nx+1+1 by omega)]
 refine Aa6 rfl (Ae9 ?_)
 simp only [bR,List.map_cons,List.map_nil]
 refine Bp0 k n0 _ _ _ v c.vals (by omega) r7 (.inl hv1) (by omega) fun hp8 nx8 v' hal8 ho8 hr8 _=>?_
 have hle8:=hal8.le
 have hgA8:=(hal8.same es.nx (by omega)).trans hgA7
 have hgB8:=(hal8.same (es.nx+1) (by omega)).trans hgB7
 have rB8:=ho8.rlF hr8
 have rA8:=rA7.keep (hp':=hp8) fun j hj=>hal8.same j hj.2
 have roA:∀ an,Aa4 a' (fun id=>okRef (es.nx+1+1) 8 an hp8 id):=fun an=>rA8.ro' (n:=es.nx+1+1) (m:=8) fun j hj=>.inr hj.1
 have roB:∀ an,Aa4 v' (fun id=>okRef (es.nx+1+1) 8 an hp8 id):=fun an=>rB8.ro' (n:=es.nx+1+1) (m:=8) fun j hj=>.inr (by have:=hj.1; omega)
 have roAB:∀ an,Aa4 (.agg [a',v']) (fun id=>okRef (es.nx+1+1) 8 an hp8 id):=fun an=>ro_pr (roA an) (roB an)
 have hfb:=Bp3 (z:=.slice none 0 0) (w:=.slice none 0 0) rA8.ok rB8.ok
 simp only [bSa,↓bSb,bP,reduceCtorEq,hle8,Cj4,rA8.live,rB8.live,hfb,Option.map_some,iff_true_intro (roA _),iff_true_intro (roB _),iff_true_intro (roAB _),Aa2 (n0:=es.nx+1+1) (m:=8) hgB8 (show es.nx+1 < es.nx+1+1 by omega)]
 refine Aa6 rfl (Ac6 (n:=2) (id:=es.nx+1) (ds:=[a',v']) (by simp only [bR,reduceCtorEq]) hgB8 (by simp only [evt,bR]; exact Af3 rA8 rB8) rfl rfl fun hp9 hg9 hk9=>?_)
 simp only [bR] at hg9 hk9
 have hgA9:=(hk9 es.nx (by omega)).trans hgA8
 simp only [bSa,↓bSb,reduceCtorEq]
 have hsz:∀ d∈[p,v],Ab1 6 d d=true:=fun d hd=>by
  simp only [List.mem_cons,List.not_mem_nil,or_false] at hd
  rcases hd with rfl | rfl
  ·exact h1.same (by decide)
  ·exact h2.same (by decide)
 have hps:∀ q∈[(⟨7,[6,5,0,1,2,3,4],hp8,hp9⟩:Past),⟨5,[4,2,3,1,0],hp7,hp8⟩,⟨2,[1,0],hp2,hp7⟩],q.a.get es.nx=some (.row 39 [p,v])∧q.b.get es.nx=some (.row 39 [p,v]):=fun q hq=>by
  simp only [List.mem_cons,List.not_mem_nil,or_false] at hq
  rcases hq with rfl | rfl | rfl
  ·exact ⟨hgA8,hgA9⟩
  ·exact ⟨hgA7,hgA8⟩
  ·exact ⟨hgA,hgA7⟩
 have hrf:∀ (o:Nat),∀ j∈(DV.pt es.nx o).refs,j=es.nx:=fun o j hj=>by simpa [DV.refs] using hj
 refine ⟨A17 (hrf 1) (by omega) hps hsz (A17 (hrf 0) (by omega) hps hsz rfl),_,Ay4 (by simp only [bR,reduceCtorEq,bP]) hg9 rfl,hK _ _ _ _ ⟨by omega,fun j hj=>?_⟩ ((rA8.keep fun j hj=>hk9 j ?_).mono fun j hj=>⟨?_,?_⟩) ((rB8.keep fun j hj=>hk9 j ?_).mono fun j hj=>⟨?_,?_⟩)⟩
 ·rw [hk9 j (by omega),hal8.same j (by omega),hal7.same j (by omega),hal2.same j hj]
 all_goals (have h1:=hj.1; have h2:=hj.2; omega)
end
end Go.DD

/- Contracts: the program's copy of an array. Conditions: those that each theorem states. -/
namespace Go.DD
set_option linter.unusedSectionVars false
set_option linter.unusedVariables false
open Go Go.Proofs
section
variable (k n0:Nat) (hp:Tr DObj) (nx:Nat) (K:DV→Tr DObj→Nat→Prop)
theorem Bx2 (d a c:DV) (D:List PDim) (A:List PAttr) (C:List PCell) (hn:n0≤nx) (h1:RL rDim hp (Bl n0) d D) (h2:RL rAttr hp (Bl n0) a A) (h3:RL rCell hp (Bl n0) c C) (hD:D≠[]) (hA:A≠[]) (hDl:D.length < 900000) (hAl:A.length < 900000) (hCl:C.length < 900000)
  (hc:∀ e∈C,e.pos≠[]∧e.pos.length < 900000∧e.vals≠[]∧e.vals.length < 900000)
  (hK:∀ hp' nx' d',Al hp nx hp' nx'→AR hp' (Bw nx nx') d' ⟨D,A,C⟩→K d' hp' nx'):KW (kN (k+3)) (.fn 127) [d,a,c] hp nx K:=by
 refine kn_r1 (Aa5 (by decide)) t127 (Nat.le_of_ble_eq_true rfl) fun es e1 e2 he=>?_
 have a0:rawE es (.t .o)=d:=he 0 _ rfl
 have a1:rawE es (.t (.l .o))=a:=he 1 _ rfl
 have a2:rawE es (.t (.r .o))=c:=he 2 _ rfl
 unfold r127
 subst e1 e2
 simp only [↓bSb]
 refine Ad3 fun hp1 hg1 hk1=>?_
 simp only [bR] at hg1 hk1
 have hal1:Al es.hp es.nx hp1 (es.nx+1):=⟨by omega,fun j hj=>hk1 j (by omega)⟩
 simp only [bSa,↓bSb,reduceCtorEq,a0]
 refine kws (Bp1 (k+1) n0 _ _ _ d D (by omega) (h1.ka hn hal1) (.inl hD) (by omega) fun hp2 nx2 d2 hal2 ho2 hr2 _=>?_)
 have hle2:=hal2.le
 have ha2:=hal1.trans hal2
 simp only [bSa,↓bSb,reduceCtorEq,a1]
 refine kws (Bp2 (k+1) n0 _ _ _ a A (by omega) (h2.ka hn ha2) (.inl hA) (by omega) fun hp3 nx3 a3 hal3 ho3 hr3 _=>?_)
 have hle3:=hal3.le
 have ha3:=ha2.trans hal3
 have rd3:=(ho2.rlF hr2).keep (hp':=hp3) fun j hj=>hal3.same j hj.2
 have ra3:=ho3.rlF hr3
 simp only [bSa,↓bSb]
 refine Ak9 (cs:=[d2,a3,.v (.slice none 0 0)]) (by simp only [List.map_cons,List.map_nil,n_ev,bR,reduceCtorEq,bP,rd3.live,ra3.live]; simp [fillD,rd3.ok,ra3.ok]) ?_
 simp only [bSa,↓bSb]
 refine Ad3 fun hp4 hg4 hk4=>?_
 simp only [bR] at hg4 hk4
 have rd4:=rd3.keep (hp':=hp4) fun j hj=>hk4 j (by have:=hj.2; omega)
 have ra4:=ra3.keep (hp':=hp4) fun j hj=>hk4 j (by have:=hj.2; omega)
 have hlv:liveE hp4 (.agg [d2,a3,.v (.slice none 0 0)])=.agg [d2,a3,.v (.slice none 0 0)]:=Ag2 fun id hid=>by
  have:id∈d2.refs∨id∈a3.refs:=by simpa [DV.refs,DV.refsL] using hid
  rcases this with h | h
  ·exact (rd4.refs id h).2
  ·exact (ra4.refs id h).2
 simp only [bSa,↓bSb]
 refine Ac6 (n:=3) (id:=nx3) (ds:=[d2,a3,.v (.slice none 0 0)]) (by simp only [bR]) hg4 (by simp only [evt,bR,reduceCtorEq]; exact hlv) rfl rfl fun hp5 hg5 hk5=>?_
 simp only [bR] at hg5 hk5
 have ha5:Al es.hp es.nx hp5 (nx3+1):=⟨by omega,fun j hj=>by rw [hk5 j (by omega),hk4 j (by omega),ha3.same j hj]⟩
 have h35:∀ j,j < nx3→hp5.get j=hp3.get j:=fun j hj=>by rw [hk5 j (by omega),hk4 j (by omega)]
 have hg15:hp5.get es.nx=_:=(h35 _ (by omega)).trans ((hal3.same _ (by omega)).trans ((hal2.same _ (by omega)).trans hg1))
 have w5:=h3.ka hn ha5
 simp only [bSa,↓bSb,reduceCtorEq,a2,w5.len]
 refine EW.up C.length (fun i es1=>∃ z,Al es.hp es.nx es1.hp es1.nx∧nx3+1≤es1.nx∧(∀ j,j < nx3→es1.hp.get j=hp5.get j)∧es1.hp.get nx3=some (.row 26 [d2,a3,z])∧OL rCell es1.hp (fun j=>nx3 < j∧j < es1.nx∧j∉z.refs) z (C.take i)∧Rng (nx3+1) es1.nx z∧rawE es1 (.t (.r (.r .o)))=.pt es.nx 0∧rawE es1 (.t (.l (.l (.l .o))))=.pt nx3 0∧rawE es1 (.t (.l (.l (.l (.l .o)))))=c∧rawE es1 (.t (.r (.l (.l (.l .o)))))=iv C.length∧rawE es1 (.t (.l (.r (.l (.l .o)))))=iv (i:Nat)) ?_ ?_ (by omega)
 ·rintro i es1 hi ⟨z,g,hge,hfr,hgz,ho,hrz,b6,b7,b15,b16,b17⟩
  unfold B45
  have hle:=g.le
  have w1:=h3.ka hn g
  by_cases h:i < C.length
  ·obtain ⟨pA,vA,rpA,rvA,ldA,_⟩:=cells_at w1 h
   have hpc:=hc _ (List.getElem_mem h)
   simp only [bSa,↓bSb,reduceCtorEq,b15,b16,b17,h,Ab8 w1 h,ldA]
   refine Ad3 fun hp6 hg6 hk6=>?_
   simp only [bR] at hg6 hk6
   have k6:∀ j,j < es1.nx→hp6.get j=es1.hp.get j:=fun j hj=>hk6 j (by omega)
   have rp6:=rpA.keep (hp':=hp6) fun j (hj:j < n0)=>k6 j (by omega)
   have rv6:=rvA.keep (hp':=hp6) fun j (hj:j < n0)=>k6 j (by omega)
   simp only [bSa,↓bSb]
   refine Ac6 (n:=2) (id:=es1.nx) (ds:=[pA,vA]) (by simp only [bR]) hg6 (by simp only [evt,bR,reduceCtorEq]; exact Af3 rp6 rv6) rfl rfl fun hp7 hg7 hk7=>?_
   simp only [bR] at hg7 hk7
   have k7:∀ j,j < es1.nx→hp7.get j=es1.hp.get j:=fun j hj=>by rw [hk7 j (by omega),k6 j hj]
   have rp7:=rpA.keep (hp':=hp7) fun j (hj:j < n0)=>k7 j (by omega)
   have rv7:=rvA.keep (hp':=hp7) fun j (hj:j < n0)=>k7 j (by omega)
   have hgz7:=(k7 nx3 (by omega)).trans hgz
   obtain ⟨⟨_,_,fz⟩,_,_,lz,_⟩:=Aa0 hgz7
   obtain ⟨_,_,_,lT⟩:=Ag5 hg7
   have hzl:∀ j,(nx3 < j∧j < es1.nx∧j∉z.refs)∨j∈z.refs→nx3 < j∧j < es1.nx:=fun j hj=>by
    rcases hj with hj | hj
    ·exact ⟨hj.1,hj.2.1⟩
    ·have:=hrz j hj; exact ⟨by omega,this.2⟩
   have ho7:=ho.keep (hp':=hp7) fun j hj=>k7 j (hzl j hj).2
   have roZ:∀ an,Aa4 z (fun id=>okRef (es1.nx+1) 8 an hp7 id):=fun an=>ho7.rl.ro' (n:=es1.nx+1) (m:=8) fun j hj=>.inl (by have:=(hzl j hj).2; omega)
   simp only [bSa,↓bSb,reduceCtorEq,b7,fz,lz,lT,Aa2 (n0:=es1.nx+1) (m:=8) hgz7 (show nx3 < es1.nx+1 by omega),Aa2 (n0:=es1.nx+1) (m:=8) hg7 (show es1.nx < es1.nx+1 by omega)]
   refine ⟨ro_pr (rp7.rox (by omega)) (rv7.rox (by omega)),?_⟩
   refine Aa6 rfl (Ae9 ?_)
   simp only [bR,List.map_cons,List.map_nil]
   refine Bq7 k n0 _ _ _ pA vA C[i] (by omega) rp7 rv7 hpc.1 hpc.2.2.1 hpc.2.1 hpc.2.2.2 fun hp8 nx8 p' v' hal8 rp8 rv8=>?_
   have hle8:=hal8.le
   have roAB:∀ an,Aa4 (.agg [p',v']) (fun id=>okRef (es1.nx+1) 8 an hp8 id):=fun an=>ro_pr (rp8.ro' (n:=es1.nx+1) (m:=8) fun j hj=>.inr hj.1) (rv8.ro' (n:=es1.nx+1) (m:=8) fun j hj=>.inr hj.1)
   have hgz8:=(hal8.same nx3 (by omega)).trans hgz7
   have hgT8:=(hal8.same es1.nx (by omega)).trans hg7
   have hfb:=Bp3 (z:=.slice none 0 0) (w:=.slice none 0 0) rp8.ok rv8.ok
   simp only [bSa,↓bSb,hle8,iff_true_intro (roAB _)]
   refine Bv3 (fl:=[p',v']) rfl (by simp only [List.map_cons,List.map_nil,n_ev,bR,bP,Af3 rp8 rv8]; exact B43 (z:=[.slice none 0 0,.slice none 0 0]) rfl) fun hp9 hg9 hk9=>?_
   simp only [bR] at hg9 hk9
   have k9:∀ j,j < es1.nx→hp9.get j=es1.hp.get j:=fun j hj=>by rw [hk9 j (by omega),hal8.same j (by omega),k7 j hj]
   have rp9:=rp8.keep (hp':=hp9) fun j hj=>hk9 j (by have:=hj.1; omega)
   have rv9:=rv8.keep (hp':=hp9) fun j hj=>hk9 j (by have:=hj.1; omega)
   have ho9:=ho.keep (hp':=hp9) fun j hj=>k9 j (hzl j hj).2
   have hgz9:=(k9 nx3 (by omega)).trans hgz
   have roZ9:∀ an,Aa4 z (fun id=>okRef (es1.nx+1) 8 an hp9 id):=fun an=>ho9.rl.ro' (n:=es1.nx+1) (m:=8) fun j hj=>.inl (by have:=(hzl j hj).2; omega)
   have hlen:(C.take i).length=i:=by rw [List.length_take]; omega
   simp only [bSa,↓bSb,reduceCtorEq,iff_true_intro (roZ9 _)]
   refine ⟨Bo0 hg9 rfl,?_⟩
   refine Aa6 rfl (Am8 (R:=rCell) (p:=fun j=>nx3 < j∧j < es1.nx∧j∉z.refs) (p2:=Bw (es1.nx+1+8) nx8) (d:=z) (d2:=.ms (es1.nx+1+4) 0 1 2) (l:=C.take i) (m:=[C[i]]) (by simp only [bR,reduceCtorEq,bP]) ho9 (by simp only [n_ev,bR,bP]; exact Av3 hg9) (Bo1 (R:=rCell) (x:=C[i]) hg9 (rCell_rd.2 ⟨p',v',rfl,rp9,rv9⟩)) rfl rfl (by rw [List.length_singleton]; omega) (by decide) fun hp10 hk10 h10=>?_)
   simp only [bR] at hk10 h10
   have hzn:∀ j∈z.refs,nx3 < j∧j < es1.nx:=fun j hj=>hzl j (.inr hj)
   have o10:=h10 (fun j=>nx3 < j∧j < nx8∧j∉z.refs) (fun j hj=>by
    rcases hj with hj | hj
    ·exact ⟨⟨hj.1,by omega,hj.2.2⟩,by omega,hj.2.2⟩
    ·have h1:=hj.1
     have h2:=hj.2
     exact ⟨⟨by omega,h2,fun h=>by have:=hzn j h; omega⟩,by omega,fun h=>by have:=hzn j h; omega⟩)
   have k10:∀ j,j≤nx3→hp10.get j=es1.hp.get j:=fun j hj=>by rw [hk10 j (by omega) (fun h=>by have:=hzn j h; omega),k9 j (by omega)]
   have hgz10:=(k10 nx3 (by omega)).trans hgz
   obtain ⟨⟨_,_,fz10⟩,_⟩:=Aa0 hgz10
   obtain ⟨_,_,flN,hgN,_⟩:=o10.get
   have roN:∀ an,okRef (es1.nx+1) 8 an hp10 nx8=true:=fun an=>(Ak8 hp10 nx8).2 ⟨by rw [hgN]; rfl,.inr (.inl (by omega))⟩
   simp only [bSa,↓bSb,reduceCtorEq,b7,fz10,Aa2 (n0:=es1.nx+1) (m:=8) hgz10 (show nx3 < es1.nx+1 by omega),roN _,Nat.le_succ]
   refine Aa6 rfl (Ae2 (id:=nx3) (off:=2) (by simp only [bR]) hgz10 (by simp only [evt,bR,reduceCtorEq]; exact Av3 hgN) (ok_ms _ _ _ _) (by simp) fun hp11 hg11 hk11=>?_)
   simp only [bR] at hg11 hk11
   simp only [bSa,↓bSb,reduceCtorEq,b6,b7,b15,b16,b17,Ab7 (show i < _ by omega)]
   have hsz:∀ q∈[d2,a3,z],Ab1 6 q q=true:=AR.same (p:=fun _=>True) (x:=⟨D,A,C.take i⟩) ((rd4.keep (hp':=hp7) fun j hj=>?_).mono fun _ _=>trivial) ((ra4.keep (hp':=hp7) fun j hj=>?_).mono fun _ _=>trivial) (ho7.rl.mono fun _ _=>trivial)
   refine ⟨Al9 (fun j hj=>?_) (Al9 (fun j hj=>?_) (Av2 _ _ _)),h,.ms nx8 0 (C.take i ++ [C[i]]).length 2,⟨by omega,fun j hj=>?_⟩,by omega,fun j hj=>?_,hg11,?_,Rng.ms (by omega) (by omega)⟩
   ·have hj:j=nx3:=by simpa [DV.refs] using hj
    subst hj
    refine ⟨by omega,fun q hq'=>?_⟩
    simp only [List.mem_cons,List.not_mem_nil,or_false] at hq'
    rcases hq' with rfl | rfl | rfl
    ·exact .inl rfl
    ·exact .inl rfl
    ·exact .inr (.inr (by rw [if_pos rfl]; exact Ag3 hgz7 (hgz8.trans hgz7.symm) hsz))
   ·have hj:j=nx3:=by simpa [DV.refs] using hj
    subst hj
    refine ⟨by omega,fun q hq'=>?_⟩
    simp only [List.mem_cons,List.not_mem_nil,or_false] at hq'
    rcases hq' with rfl | rfl | rfl
    ·exact .inl rfl
    ·exact .inl rfl
    ·refine .inr (.inr ?_)
     rw [if_neg (by simp)]
     show (((hp7.get j).isSome) == ((hp8.get j).isSome))=true
     rw [hgz7,hgz8]; rfl
   ·rw [hk11 j (by omega),k10 j (by omega),g.same j hj]
   ·rw [hk11 j (by omega),k10 j (by omega),hfr j hj]
   ·rw [List.take_succ_eq_append_getElem h]
    refine (o10.keep (hp':=hp11) fun j hj=>hk11 j ?_).mono fun j hj=>⟨hj.1,by omega,fun h=>?_⟩
    ·rcases hj with hj | hj
     ·exact Nat.ne_of_gt hj.1
     ·have:j=nx8:=by simpa [DV.refs] using hj
      omega
    ·have:j=nx8:=by simpa [DV.refs] using h
     omega
   ·rw [k7 j (by have:=hj.2; omega),hfr j (by have:=hj.2; omega),hk5 j (by have:=hj.2; omega)]
   ·rw [k7 j (by have:=hj.2; omega),hfr j (by have:=hj.2; omega),hk5 j (by have:=hj.2; omega)]
  ·rw [List.take_of_length_le (by omega)] at ho
   obtain ⟨_,_,_,_,lz⟩:=Aa0 hgz
   have rd6:=rd4.keep (hp':=es1.hp) fun j hj=>by rw [hfr j (by have:=hj.2; omega),hk5 j (by have:=hj.2; omega)]
   have ra6:=ra4.keep (hp':=es1.hp) fun j hj=>by rw [hfr j (by have:=hj.2; omega),hk5 j (by have:=hj.2; omega)]
   have hg16:es1.hp.get es.nx=_:=(hfr _ (by omega)).trans hg15
   have rz:RL rCell es1.hp (Bw (es.nx+1) es1.nx) z C:=ho.rl.mono fun j hj=>by
    rcases hj with hj | hj
    ·exact ⟨by omega,hj.2.1⟩
    ·have:=hrz j hj; exact ⟨by omega,this.2⟩
   have hd2:=rd6.mono (q:=Bw (es.nx+1) es1.nx) fun j hj=>⟨by have:=hj.1; omega,by have:=hj.2; omega⟩
   have hda:=ra6.mono (q:=Bw (es.nx+1) es1.nx) fun j hj=>⟨by have:=hj.1; omega,by have:=hj.2; omega⟩
   simp only [bSa,↓bSb,reduceCtorEq,b7,b16,b17,h,lz]
   refine Ac6 (n:=3) (id:=es.nx) (ds:=[d2,a3,z]) (by simp only [bR,reduceCtorEq,b6]) hg16 (by simp only [evt,bR]; exact AR.live (x:=⟨D,A,C⟩) hd2 hda rz) rfl rfl fun hp7 hg7 hk7=>?_
   simp only [bR] at hg7 hk7
   simp only [bSa,↓bSb,reduceCtorEq]
   have up:∀ j,Bw (es.nx+1) es1.nx j→Bw es.nx es1.nx j:=fun j hj=>⟨by have:=hj.1; omega,hj.2⟩
   have kp:∀ j,Bw (es.nx+1) es1.nx j→hp7.get j=es1.hp.get j:=fun j hj=>hk7 j (by have:=hj.1; omega)
   exact ⟨_,Ay4 (by simp only [bR,reduceCtorEq,bP,b6]) hg7 rfl,hK _ _ _ ⟨g.le,fun j hj=>(hk7 j (by omega)).trans (g.same j hj)⟩ ⟨d2,a3,z,rfl,(hd2.keep kp).mono up,(hda.keep kp).mono up,(rz.keep kp).mono up⟩⟩
 ·refine ⟨.v (.slice none 0 0),?_⟩
  simp only [bSa,reduceCtorEq]
  exact ⟨ha5,fun _ _=>trivial,hg5,.nil,Rng.nil _ _⟩
end
end Go.DD

/- Contracts: the program's making of an array. Conditions: those that each theorem states. -/
namespace Go.DD
set_option linter.unusedSectionVars false
set_option linter.unusedVariables false
open Go Go.Proofs
theorem Bq8 {d:List PDim} {a:List PAttr} : ∀ {l:List PCell} {b:Option PCell},(∀ c∈l,cellE d a c=0)→Srt l→(∀ q,b=some q→∀ c∈l,cmpL q.pos c.pos = -1)→chkF d a b l=0
 | [],b,_,_,_=>by cases b <;> rfl
 | c :: l,b,h1,h2,h3=>by
  have h4:chkF d a (some c) l=0:=Bq8 (fun e he=>h1 e (List.mem_cons_of_mem _ he)) h2.tail fun q hq e he=>by cases hq; exact (List.pairwise_cons.1 h2).1 e he
  have h5:=h1 c (by simp)
  cases b with
  | none=>
   show (if cellE d a c≠0 then cellE d a c else chkF d a (some c) l)=0
   rw [if_neg (by simp [h5]),h4]
  | some q=>
   have h6:=h3 q rfl c (by simp)
   show (if cellE d a c≠0 then cellE d a c else if cmpL q.pos c.pos=0 then 5 else if cmpL q.pos c.pos=1 then 2 else chkF d a (some c) l)=0
   rw [if_neg (by simp [h5]),if_neg (by omega),if_neg (by omega),h4]
theorem Bx3 {x:PArr} (h1:Ae3 x.dims x.attrs=0) (h2:x.cells.length≤4096) (h3:∀ c∈x.cells,cellE x.dims x.attrs c=0) (h4:Srt x.cells):Aa1 x=0:=by
 unfold Aa1
 rw [if_neg (by simp [h1]),if_neg (by omega)]
 exact Bq8 h3 h4 fun q hq=>by cases hq
theorem Bq9 {x:PArr} (h:Aa1 x=0):x.cells.length≤4096:=by
 unfold Aa1 at h
 split at h
 ·rename_i h1; exact absurd h h1
 ·split at h
  ·cases h
  ·omega
theorem Br0 {x:PArr} (h:Aa1 x=0):x.dims≠[]:=fun e=>by
 have h2:=(Aa3 h).2.2
 have h5:dimsE x.dims=13:=by unfold dimsE; rw [if_pos (Or.inl (by rw [e]; simp))]
 unfold Ae3 at h2
 rw [h5] at h2
 cases h2
theorem Br1 {x:PArr} (h:Aa1 x=0):x.attrs≠[]:=fun e=>by
 have h2:=(Aa3 h).2.2
 unfold Ae3 at h2
 split at h2
 ·rename_i h5; exact h5 h2
 ·rw [if_pos (Or.inl (by rw [e]; simp))] at h2; cases h2
section
variable (k n0:Nat) (hp:Tr DObj) (nx:Nat) (K:DV→Tr DObj→Nat→Prop)
theorem Cb6 (f:Nat) (d a c:DV) (x:PArr) (hn:n0≤nx) (h1:RL rDim hp (Bl n0) d x.dims) (h2:RL rAttr hp (Bl n0) a x.attrs) (h3:RL rCell hp (Bl n0) c x.cells) (hc:Aa1 x=0) (ho:AOK x) (hf:x.cells.length≤2 ^ f)
  (hK:∀ hp' nx' d',Al hp nx hp' nx'→AR hp' (Bw nx nx') d' x→K (.tup [d',iv 0]) hp' nx'):KW (kN (k+f+10)) (.fn 59) [d,a,c] hp nx K:=by
 obtain ⟨hs,hcell,hsch⟩:=Aa3 hc
 have hlen:=Bq9 hc
 refine kn_r2 (Aa5 (by decide)) t59 (Nat.le_of_ble_eq_true rfl) fun es e1 e2 he=>?_
 have a0:rawE es (.t .o)=d:=he 0 _ rfl
 have a1:rawE es (.t (.l .o))=a:=he 1 _ rfl
 have a2:rawE es (.t (.r .o))=c:=he 2 _ rfl
 unfold r59
 subst e1 e2
 simp only [↓bSb]
 refine Ad3 fun hp1 hg1 hk1=>?_
 simp only [bR] at hg1 hk1
 have hal1:Al es.hp es.nx hp1 (es.nx+1):=⟨by omega,fun j hj=>hk1 j (by omega)⟩
 simp only [bSa,↓bSb,reduceCtorEq,a0,a1]
 refine kws (A54 (k:=k+f+6) n0 _ _ _ d a x.dims x.attrs (by omega) (h1.ka hn hal1) (h2.ka hn hal1) fun hp2 nx2 hal2=>?_)
 have hle2:=hal2.le
 have ha2:=hal1.trans hal2
 have w2:=h3.ka hn ha2
 have hg2:=(hal2.same es.nx (by omega)).trans hg1
 have hnle:¬ 4096 < (x.cells.length:Int):=by omega
 simp only [bSa,↓bSb,reduceCtorEq,a2,show decide (¬ Ae3 x.dims x.attrs=0)=false by simp [hsch],w2.len,decide_eq_false hnle]
 refine EW.up x.cells.length (fun i es1=>Al es.hp es.nx es1.hp es1.nx∧es.nx < es1.nx∧es1.hp.get es.nx=some (.row 26 [.v (.slice none 0 0),.v (.slice none 0 0),.v (.slice none 0 0)])∧rawE es1 (.t .o)=d∧rawE es1 (.t (.l .o))=a∧rawE es1 (.t (.r .o))=c∧rawE es1 (.t (.r (.r .o)))=.pt es.nx 0∧rawE es1 (.t (.l (.r (.l (.r .o)))))=c∧rawE es1 (.t (.r (.r (.l (.r .o)))))=iv x.cells.length∧rawE es1 (.t (.l (.l (.r (.r .o)))))=iv (i:Nat)) ?_ ?_ (by omega)
 ·rintro i es1 hi ⟨g,gn,hg,b0,b1,b2,b6,b25,b26,b27⟩
  unfold l59_1
  have hle:=g.le
  have w1:=h1.ka hn g
  have w2:=h2.ka hn g
  have w3:=h3.ka hn g
  by_cases h:i < x.cells.length
  ·obtain ⟨p,v,rp,rv,lc,_⟩:=cells_at w3 h
   have hce:=hcell _ (List.getElem_mem h)
   have hoe:=ho.e _ (List.getElem_mem h)
   simp only [bSa,↓bSb,reduceCtorEq,b25,b26,b27,h,Ab8 w3 h,lc]
   refine Ad3 fun hp3 hg3 hk3=>?_
   simp only [bR] at hg3 hk3
   have g3:Al es.hp es.nx hp3 (es1.nx+1):=⟨by omega,fun j hj=>by rw [hk3 j (by omega),g.same j hj]⟩
   have rp3:=rp.keep fun j (hj:j < n0)=>hk3 j (by omega)
   have rv3:=rv.keep fun j (hj:j < n0)=>hk3 j (by omega)
   simp only [bSa,↓bSb]
   refine Ac6 (n:=2) (id:=es1.nx) (ds:=[p,v]) (by simp only [bR]) hg3 (by simp only [evt,bR,reduceCtorEq]; exact A18 rp3 rv3) rfl rfl fun hp4 hg4 hk4=>?_
   simp only [bR] at hg4 hk4
   have g4:Al es.hp es.nx hp4 (es1.nx+1):=g3.new (Nat.le_refl _) fun j hj=>hk4 j (by omega)
   have hg4':hp4.get es.nx=_:=(hk4 es.nx (by omega)).trans ((hk3 es.nx (by omega)).trans hg)
   obtain ⟨_,_,_,u2⟩:=Ag5 hg4
   simp only [bSa,↓bSb,reduceCtorEq,b0,b1,u2]
   refine kws (Bo8 (k+f+3) n0 _ _ _ d a p v x.dims x.attrs x.cells[i] (by omega) (h1.ka hn g4) (h2.ka hn g4) (rp3.keep fun j (hj:j < n0)=>hk4 j (by omega)) (rv3.keep fun j (hj:j < n0)=>hk4 j (by omega)) ho.d ho.a hoe.2.2 fun hp5 nx5 hal5=>?_)
   have hle5:=hal5.le
   simp only [bSa,↓bSb,reduceCtorEq,b0,b1,b2,b6,b25,b26,b27,h,show decide (¬ cellE x.dims x.attrs x.cells[i]=0)=false by simp [hce],Ab7 (show i < _ by omega)]
   exact ⟨g4.trans hal5,by omega,(hal5.same _ (by omega)).trans hg4'⟩
  ·simp only [bSa,↓bSb,reduceCtorEq,b0,b1,b2,b26,b27,h]
   refine kws (Bx2 (k+f+6) n0 _ _ _ d a c x.dims x.attrs x.cells (by omega) w1 w2 w3 (Br0 hc) (Br1 hc) ho.d ho.a ho.c (fun e he=>⟨Ag6 hc e he,(ho.e e he).1,Ai3 hc e he,(ho.e e he).2.1⟩) fun hp3 nx3 d3 hal3 har3=>?_)
   have hle3:=hal3.le
   obtain ⟨d3,a3,c3,rfl,r1,r2,r3⟩:=har3
   simp only [bSa,↓bSb]
   refine Ad3 fun hp4 hg4 hk4=>?_
   simp only [bR] at hg4 hk4
   have q1:=r1.keep (hp':=hp4) fun j hj=>hk4 j (by have:=hj.2; omega)
   have q2:=r2.keep (hp':=hp4) fun j hj=>hk4 j (by have:=hj.2; omega)
   have q3:=r3.keep (hp':=hp4) fun j hj=>hk4 j (by have:=hj.2; omega)
   simp only [bSa,↓bSb]
   refine Ac6 (n:=3) (id:=nx3) (ds:=[d3,a3,c3]) (by simp only [bR]) hg4 (by simp only [evt,bR,reduceCtorEq]; exact AR.live q1 q2 q3) rfl rfl fun hp5 hg5 hk5=>?_
   simp only [bR] at hg5 hk5
   have q1:=q1.keep (hp':=hp5) fun j hj=>hk5 j (by have:=hj.2; omega)
   have q2:=q2.keep (hp':=hp5) fun j hj=>hk5 j (by have:=hj.2; omega)
   have q3:=q3.keep (hp':=hp5) fun j hj=>hk5 j (by have:=hj.2; omega)
   have g5:Al es.hp es.nx hp5 (nx3+1):=⟨by omega,fun j hj=>by rw [hk5 j (by omega),hk4 j (by omega),hal3.same j (by omega),g.same j hj]⟩
   have hg15:hp5.get es.nx=_:=(hk5 es.nx (by omega)).trans ((hk4 es.nx (by omega)).trans ((hal3.same es.nx (by omega)).trans hg))
   obtain ⟨⟨_,_,f2⟩,_,_,l2,lA⟩:=Aa0 hg5
   have q3':=q3.mono (q:=Bl (nx3+1)) fun j hj=>Nat.lt_of_lt_of_le hj.2 (by omega)
   simp only [bSa,↓bSb,f2,l2]
   refine kws (Bq6 k (nx3+1) _ _ _ f c3 x.cells (Nat.le_refl _) q3' (Ap9 hc) (by omega) hf (fun e he=>(ho.e e he).1) fun hp6 nx6 hal6=>?_)
   have hle6:=hal6.le
   simp only [bSa,↓bSb]
   have g6:Al es.hp es.nx hp6 nx6:=⟨by omega,fun j hj=>by rw [hal6.same j (by omega),g5.same j hj]⟩
   refine EW.up x.cells.length (fun i es2=>Al hp6 nx6 es2.hp es2.nx∧rawE es2 (.t (.r (.r .o)))=.pt es.nx 0∧rawE es2 (.t (.r (.l (.r .o))))=.pt nx3 0∧rawE es2 (.t (.l (.r (.r .o))))=iv ((i+1:Nat))) ?_ ?_ (by omega)
   ·rintro i es2 hi2 ⟨g2,x6,x12,x13⟩
    unfold l59_2
    have hle2:=g2.le
    have e2:∀ j,j < nx3+1→es2.hp.get j=hp5.get j:=fun j hj=>by rw [g2.same j (by omega),hal6.same j hj]
    have hgA:=(e2 nx3 (by omega)).trans hg5
    have hgB:=(e2 es.nx (by omega)).trans hg15
    obtain ⟨⟨_,_,f2⟩,_,_,l2,lA⟩:=Aa0 hgA
    have v3:=q3'.keep (hp':=es2.hp) e2
    by_cases h6:i+1 < x.cells.length
    ·obtain ⟨p1,v1,rp1,rv1,_,_,lp1,_⟩:=cells_at v3 (show i < x.cells.length by omega)
     obtain ⟨p2,v2,rp2,rv2,_,_,lp2,_⟩:=cells_at v3 h6
     have hsub:binD .sub (.v (.int .i64 ((i+1:Nat):Int))) (.v (.int .i64 1))=some (.v (.int .i64 (i:Int))):=by rw [b_sub,wrap_in (by omega)]; congr 3; omega
     have hcmp:cmpL x.cells[i].pos x.cells[i+1].pos = -1:=Ap9 hc i (i+1) (by omega) h6
     simp only [bSa,↓bSb,reduceCtorEq,x12,x13,f2,l2,v3.len,h6,hsub,Aa2 (n0:=es2.nx) (m:=15) hgA (show nx3 < es2.nx by omega),Ab8 v3 h6,Ab8 v3 (show i < x.cells.length by omega),Ad5 (k:=0) v3 h6,Ad5 (k:=0) v3 (show i < x.cells.length by omega),lp1,lp2,v3.rox (show nx3+1≤es2.nx by omega),Ag4 v3 (show nx3+1≤es2.nx by omega),Av6 v3 (show nx3+1≤es2.nx by omega),rp1.rox (show nx3+1≤es2.nx by omega),rp2.rox (show nx3+1≤es2.nx by omega)]
     refine Aa6 rfl (Ae9 ?_)
     simp only [bR,reduceCtorEq,List.map_cons,List.map_nil]
     refine Af7 (k+f+5) (nx3+1) _ _ _ p1 p2 _ _ (by omega) rp1 rp2 (ho.e _ (List.getElem_mem (show i < x.cells.length by omega))).1 ?_
     simp only [bSa,↓bSb,reduceCtorEq,x6,x12,x13,show decide (cmpL x.cells[i].pos x.cells[i+1].pos=0)=false by simp [hcmp],Ab7 (show i+1 < _ by omega)]
     exact ⟨by omega,g2.nx (by omega)⟩
    ·simp only [bSa,↓bSb,reduceCtorEq,x12,x13,f2,l2,v3.len,h6,lA]
     refine Ac6 (n:=3) (id:=es.nx) (ds:=[d3,a3,c3]) (by simp only [bR,reduceCtorEq,x6]) hgB (by simp only [evt,bR]; exact AR.live (q1.keep (hp':=es2.hp) fun j hj=>e2 j (by have:=hj.2; omega)) (q2.keep (hp':=es2.hp) fun j hj=>e2 j (by have:=hj.2; omega)) (q3.keep (hp':=es2.hp) fun j hj=>e2 j (by have:=hj.2; omega))) rfl rfl fun hp7 hg7 hk7=>?_
     simp only [bR] at hg7 hk7
     simp only [bSa,↓bSb,reduceCtorEq]
     have kp:∀ j,Bw es1.nx nx3 j→hp7.get j=hp5.get j:=fun j hj=>by rw [hk7 j (by have:=hj.1; omega),e2 j (by have:=hj.2; omega)]
     have up:∀ j,Bw es1.nx nx3 j→Bw es.nx es2.nx j:=fun j hj=>⟨by have:=hj.1; omega,by have:=hj.2; omega⟩
     refine ⟨_,_,Ay4 (by simp only [bR,reduceCtorEq,bP,x6]) hg7 rfl,by rw [Cj8]; simp only [bR,bP,Aj5],hK _ _ _ ⟨by omega,fun j hj=>?_⟩ ⟨d3,a3,c3,rfl,(q1.keep kp).mono up,(q2.keep kp).mono up,(q3.keep kp).mono up⟩⟩
     rw [hk7 j (by omega),e2 j (by omega),g5.same j hj]
   ·simp only [bSa,reduceCtorEq,b6]
    rfl
 ·simp only [bSa,reduceCtorEq,a0,a1,a2]
  exact ⟨ha2,by omega,hg2⟩
end
end Go.DD

/- Contracts: a round of the program's merge. Conditions: those that each theorem states. -/
namespace Go.DD
set_option linter.unusedSectionVars false
set_option linter.unusedVariables false
open Go Go.Proofs
def mrgV:List (List PVal)→Option (List PVal)
 | [x,y,z]=>if y=z∨x=z then some y else if x=y then some z else none
 | _=>none
def mrg1 (w:List Int×List (List PVal)):List PCell:=match mrgV w.2 with
 | some v=>if v=[] then [] else [⟨w.1,v⟩]
 | none=>[]
def mrgC (W:List (List Int×List (List PVal))):List PCell:=W.flatMap mrg1
def mrgX (W:List (List Int×List (List PVal))):Option (List Int):=(W.find? fun w=>(mrgV w.2).isNone).map Prod.fst
theorem Bx4 (w:List Int×List (List PVal)):(mrg1 w).length≤1:=by
 unfold mrg1
 split
 ·split <;> simp
 ·simp
theorem As5 (W:List (List Int×List (List PVal))):(mrgC W).length≤W.length:=by
 induction W with
 | nil=>exact Nat.le_refl _
 | cons w W ih=>
  have h:=Bx4 w
  unfold mrgC at ih ⊢
  rw [List.flatMap_cons,List.length_append,List.length_cons]
  omega
structure MJ (sl:Tr DV) (L bx ba be bo:Nat) (P:Nat→Prop) (W:List (List Int×List (List PVal))) (M:Nat→Prop) (hp:Tr DObj) (nx:Nat) (z:DV):Prop where
 l:hp.get L=some (.loop ⟨105,.t sl,[48,49],Ay2,Ay3,.ready,none⟩)
 x:hp.get bx=some (.row 26 [nilS,nilS,nilS])
 a:hp.get ba=some (.row 36 [nilS])
 e:hp.get be=some (.row 32 [iv 0])
 o:hp.get bo=some (.row 24 [z])
 c:OL rCell hp P z (mrgC W)
 n:∀ w∈W,mrgV w.2≠none
 z:∀ j∈z.refs,L < j∧M j
 m:M L∧M bx∧M ba∧M be∧M bo
 d:bx < ba∧ba < be∧be < bo∧bo < L
 b:∀ j,M j→j < nx
 s:rawE ⟨sl,.e,0⟩ (.t (.r (.r .o)))=.pt bx 0∧rawE ⟨sl,.e,0⟩ (.t (.l (.l (.l .o))))=.pt ba 0∧rawE ⟨sl,.e,0⟩ (.t (.r (.l (.l .o))))=.pt be 0∧rawE ⟨sl,.e,0⟩ (.t (.l (.r (.l .o))))=.pt bo 0
theorem MJ.keep {sl:Tr DV} {L bx ba be bo:Nat} {P:Nat→Prop} {W:List (List Int×List (List PVal))} {M:Nat→Prop} {hp hp':Tr DObj} {nx nx':Nat} {z:DV} (h:MJ sl L bx ba be bo P W M hp nx z) (hn:nx≤nx') (hk:∀ j,M j∨P j→hp'.get j=hp.get j):MJ sl L bx ba be bo P W M hp' nx' z:=
 ⟨(hk _ (.inl h.m.1)).trans h.l,(hk _ (.inl h.m.2.1)).trans h.x,(hk _ (.inl h.m.2.2.1)).trans h.a,(hk _ (.inl h.m.2.2.2.1)).trans h.e,(hk _ (.inl h.m.2.2.2.2)).trans h.o,h.c.keep fun j hj=>hk j (hj.elim .inr fun h1=>.inl (h.z j h1).2),h.n,h.z,h.m,h.d,fun j hj=>Nat.lt_of_lt_of_le (h.b j hj) hn,h.s⟩
structure MS (L bx ba be:Nat) (W:List (List Int×List (List PVal))) (M:Nat→Prop) (hp:Tr DObj) (nx:Nat):Prop where
 l:∃ lp,hp.get L=some (.loop lp)∧lp.st≠.busy∧lp.pend=some .ret
 x:hp.get bx=some (.row 26 [nilS,nilS,nilS])
 a:∃ q p,hp.get ba=some (.row 36 [q])∧RL rInt hp (fun j=>M j∧L < j) q p∧mrgX W=some p
 e:hp.get be=some (.row 32 [iv 19])
 b:∀ j,M j→j < nx
theorem Aq5 (x y z:List PVal):mrgV [x,y,z]=if y=z∨x=z then some y else if x=y then some z else none:=rfl
theorem OL.atN {hp:Tr DObj} {p:Nat→Prop} {d:DV} {l:List (List PVal)} (h:OL Al4 hp p d l) {i:Nat} (hi:i < l.length):∃ a,RL rVal hp p a l[i]∧Nn a l[i]∧ldD hp none (adrE 1 d i)=some a:=by
 cases h with
 | nil=>simp at hi
 | ms id fl l hg hr=>
  obtain ⟨rest,e1,a,e2,h2,h3⟩:=hr.at hi
  refine ⟨a,h2,h3,?_⟩
  show ldD hp none (.pt id (0+i*1))=_
  have e1':fl.drop (i*1)=((fl.drop (i*1)).take 1) ++ rest:=e1
  have e2':(fl.drop (i*1)).take 1=[a]:=e2
  rw [ld_p hg,Nat.zero_add,e1',e2']
  rfl
theorem RL.iaN2 {hp:Tr DObj} {p:Nat→Prop} {d:DV} {l:List (List PVal)} (h:RL Al4 hp p d l) (hi:2 < l.length):iaD hp 1 d (.v (.int .i64 2))=some (adrE 1 d 2):=h.ia hi
theorem Bx5 {W:List (List Int×List (List PVal))} (h:∀ w∈W,mrgV w.2≠none) (w:List Int×List (List PVal)) (V:List (List Int×List (List PVal))) (hw:mrgV w.2=none):mrgX (W ++ w :: V)=some w.1:=by
 unfold mrgX
 have e:W.find? (fun w=>(mrgV w.2).isNone)=none:=List.find?_eq_none.2 fun x hx=>by
  cases hv:mrgV x.2 with
  | none=>exact absurd hv (h x hx)
  | some v=>simp
 rw [List.find?_append,e,List.find?_cons,hw]
 rfl
section
variable (k:Nat) (hp:Tr DObj) (nx:Nat) (K:DV→Tr DObj→Nat→Prop)
theorem Br2 (sl:Tr DV) (L bx ba be bo:Nat) (P:Nat→Prop) (W:List (List Int×List (List PVal))) (M:Nat→Prop) (a s:DV) (p:List Int) (u v w:List PVal) (zz:DV) (hJ:MJ sl L bx ba be bo P W M hp nx zz) (hPM:∀ j,P j→j < nx∧¬ M j) (ha:RL rInt hp P a p) (hs:OL Al4 hp P s [u,v,w]) (hsr:∀ j∈s.refs,j < nx∧¬ M j) (hp0:p≠[]) (hp1:p.length < 900000) (hu:u.length < 900000) (hv:v.length < 900000) (hw:w.length < 900000) (hW:W.length < 900000)
  (hKt:∀ hp' nx' M' z',nx≤nx'→(∀ j,j < nx→¬ M j→hp'.get j=hp.get j)→(∀ j,M' j→M j∨nx≤j)→MJ sl L bx ba be bo P (W ++ [(p,[u,v,w])]) M' hp' nx' z'→K (bv true) hp' nx')
  (hKf:∀ hp' nx' M',nx≤nx'→(∀ j,j < nx→¬ M j→hp'.get j=hp.get j)→(∀ j,M' j→M j∨nx≤j)→MS L bx ba be (W ++ [(p,[u,v,w])]) M' hp' nx'→K (bv false) hp' nx') :
  KW (kN (k+2)) (.yl L) [a,s] hp nx K:=by
 refine kn_yl hJ.l rfl rfl rfl rfl rfl ?_
 rw [show evalE 1000000 105 true Ay2=Bq0 from Cj6]
 unfold Bq0
 obtain ⟨s6,s7,s8,s9⟩:=hJ.s
 have hz48:∀ hp nx,rawE ⟨zipT [48,49] [a,s] sl,hp,nx⟩ (.t (.r (.l (.l (.l (.r .o))))))=a:=fun hp nx=>by
  show rawE (((ES.mk sl hp nx).putE (some (.r (.l (.l (.l (.r .o)))))) a).putE (some (.l (.r (.l (.l (.r .o)))))) s) (.t (.r (.l (.l (.l (.r .o))))))=a
  simp only [bR,reduceCtorEq]
 have hz49:∀ hp nx,rawE ⟨zipT [48,49] [a,s] sl,hp,nx⟩ (.t (.l (.r (.l (.l (.r .o))))))=s:=fun hp nx=>by
  show rawE (((ES.mk sl hp nx).putE (some (.r (.l (.l (.l (.r .o)))))) a).putE (some (.l (.r (.l (.l (.r .o)))))) s) (.t (.l (.r (.l (.l (.r .o))))))=s
  simp only [bR]
 have hz6:∀ hp nx,rawE ⟨zipT [48,49] [a,s] sl,hp,nx⟩ (.t (.r (.r .o)))=.pt bx 0:=fun hp nx=>by
  show rawE (((ES.mk sl hp nx).putE (some (.r (.l (.l (.l (.r .o)))))) a).putE (some (.l (.r (.l (.l (.r .o)))))) s) (.t (.r (.r .o)))=.pt bx 0
  simp only [bR,reduceCtorEq]
  exact s6
 have hz7:∀ hp nx,rawE ⟨zipT [48,49] [a,s] sl,hp,nx⟩ (.t (.l (.l (.l .o))))=.pt ba 0:=fun hp nx=>by
  show rawE (((ES.mk sl hp nx).putE (some (.r (.l (.l (.l (.r .o)))))) a).putE (some (.l (.r (.l (.l (.r .o)))))) s) (.t (.l (.l (.l .o))))=.pt ba 0
  simp only [bR,reduceCtorEq]
  exact s7
 have hz8:∀ hp nx,rawE ⟨zipT [48,49] [a,s] sl,hp,nx⟩ (.t (.r (.l (.l .o))))=.pt be 0:=fun hp nx=>by
  show rawE (((ES.mk sl hp nx).putE (some (.r (.l (.l (.l (.r .o)))))) a).putE (some (.l (.r (.l (.l (.r .o)))))) s) (.t (.r (.l (.l .o))))=.pt be 0
  simp only [bR,reduceCtorEq]
  exact s8
 have hz9:∀ hp nx,rawE ⟨zipT [48,49] [a,s] sl,hp,nx⟩ (.t (.l (.r (.l .o))))=.pt bo 0:=fun hp nx=>by
  show rawE (((ES.mk sl hp nx).putE (some (.r (.l (.l (.l (.r .o)))))) a).putE (some (.l (.r (.l (.l (.r .o)))))) s) (.t (.l (.r (.l .o))))=.pt bo 0
  simp only [bR,reduceCtorEq]
  exact s9
 generalize zipT [48,49] [a,s] sl=zs at hz48 hz49 hz6 hz7 hz8 hz9
 simp only [bSa,↓bSb,reduceCtorEq,hz48,hz49]
 refine ⟨_,hJ.l,rfl,?_⟩
 rw [show evalE 1000000 105 true Ay3=Bq1 from Cj7]
 unfold Bq1
 obtain ⟨lp,hlp⟩:∃ lp:DLoop,lp=⟨105,.t sl,[48,49],Ay2,Ay3,.busy,none⟩:=⟨_,rfl⟩
 have hb1:∀ j,j≠L→(hp.set L (some (.loop lp))).get j=hp.get j:=fun j hj=>by rw [Tr.get_set,if_neg (Ne.symm hj)]
 have hbL:(hp.set L (some (.loop lp))).get L=some (.loop lp):=by rw [Tr.get_set,if_pos rfl]
 rw [← hlp]
 generalize hp.set L (some (.loop lp))=hq at hb1 hbL ⊢
 have hPL:∀ j,P j→j≠L:=fun j hj e=>(hPM j hj).2 (e ▸ hJ.m.1)
 have ha1:=ha.keep (hp':=hq) fun j hj=>hb1 j (hPL j hj)
 have hs1:=hs.rl.keep (hp':=hq) fun j hj=>hb1 j (hj.elim (hPL j) fun h e=>(hsr j h).2 (e ▸ hJ.m.1))
 have hs0:=hs.keep (hp':=hq) fun j hj=>hb1 j (hj.elim (hPL j) fun h e=>(hsr j h).2 (e ▸ hJ.m.1))
 have hPl:∀ j,P j∨j∈s.refs→j < nx:=fun j hj=>hj.elim (fun h=>(hPM j h).1) fun h=>(hsr j h).1
 obtain ⟨dU,rU,nU,lU⟩:=hs0.atN (show 0 < [u,v,w].length by simp)
 obtain ⟨dV,rV,nV,lV⟩:=hs0.atN (show 1 < [u,v,w].length by simp)
 obtain ⟨dW,rW,nW,lW⟩:=hs0.atN (show 2 < [u,v,w].length by simp)
 have hs1':=hs1.mono (q:=Bl nx) hPl
 have rU':RL rVal hq (Bl nx) dU u:=rU.mono fun j hj=>(hPM j hj).1
 have rV':RL rVal hq (Bl nx) dV v:=rV.mono fun j hj=>(hPM j hj).1
 have rW':RL rVal hq (Bl nx) dW w:=rW.mono fun j hj=>(hPM j hj).1
 have f1:=hs1.iaN0 (by simp)
 have f2:=hs1.iaN1 (by simp)
 have f3:=hs1.iaN2 (by simp)
 refine ew_b.2 (EW.seq (fun es1=>rawE es1 (.t (.r (.r .o)))=.pt bx 0∧rawE es1 (.t (.l (.l (.l .o))))=.pt ba 0∧rawE es1 (.t (.r (.l (.l .o))))=.pt be 0∧rawE es1 (.t (.l (.r (.l .o))))=.pt bo 0∧rawE es1 (.t (.r (.r (.l .o))))=a∧rawE es1 (.t (.l (.l (.r .o))))=s∧rawE es1 (.t (.r (.l (.r .o))))=dV∧es1.hp=hq∧es1.nx=nx) ?_ fun es1 ⟨x6,x7,x8,x9,x10,x11,x12,xh,xn⟩=>?_)
 ·simp only [bSa,↓bSb,reduceCtorEq,hz6,hz7,hz8,hz9,f2,lV]
 subst xh xn
 refine EW.seq (fun es2=>rawE es2 (.t (.l (.r (.l .o))))=.pt bo 0∧rawE es2 (.t (.r (.r (.l .o))))=a∧es2.hp=es1.hp∧es1.nx≤es2.nx∧∃ dX x,rawE es2 (.t (.r (.l (.r .o))))=dX∧RL rVal es1.hp P dX x∧mrgV [u,v,w]=some x∧x.length < 900000) ?_ fun es2 ⟨y9,y10,yh,yn,dX,x,y12,rX,hX,hxl⟩=>?_
 ·simp only [bSa,↓bSb,reduceCtorEq,x11,f2,f3,lV,lW,hs1'.rox (Nat.le_refl _),hs1'.roaN (Nat.le_refl _),rV'.rox (Nat.le_refl _),rW'.rox (Nat.le_refl _)]
  refine Aa6 rfl (Ae9 ?_)
  simp only [bR,reduceCtorEq,List.map_cons,List.map_nil]
  refine Be2 k es1.nx _ _ _ dV dW v w (by omega) rV' rW' hv fun nx6 hle6=>?_
  by_cases c1:v=w
  ·simp only [bSa,↓bSb,reduceCtorEq,x9,x10,x12,decide_eq_true c1]
   exact ⟨hle6,by omega,dV,v,rfl,rV,by rw [Aq5,if_pos (.inl c1)],hv⟩
  ·simp only [bSa,↓bSb,reduceCtorEq,x11,decide_eq_false c1,f1,f3,lU,lW,hle6,hs1'.rox (Nat.le_refl _),hs1'.roaN (Nat.le_refl _),rU'.rox (Nat.le_refl _),rW'.rox (Nat.le_refl _)]
   refine Aa6 rfl (Ae9 ?_)
   simp only [bR,reduceCtorEq,List.map_cons,List.map_nil]
   refine Be2 k es1.nx _ _ _ dU dW u w (by omega) rU' rW' hu fun nx7 hle7=>?_
   by_cases c2:u=w
   ·simp only [bSa,↓bSb,reduceCtorEq,x9,x10,x12,decide_eq_true c2,hle7]
    exact ⟨by omega,dV,v,rfl,rV,by rw [Aq5,if_pos (.inr c2)],hv⟩
   ·simp only [bSa,↓bSb,reduceCtorEq,x11,decide_eq_false c2,hle7,f1,f2,lU,lV,hs1'.rox (show es1.nx≤nx7 by omega),hs1'.roaN (show es1.nx≤nx7 by omega),rU'.rox (show es1.nx≤nx7 by omega),rV'.rox (show es1.nx≤nx7 by omega)]
    refine Aa6 rfl (Ae9 ?_)
    simp only [bR,reduceCtorEq,List.map_cons,List.map_nil]
    refine Be2 k es1.nx _ _ _ dU dV u v (by omega) rU' rV' hu fun nx8 hle8=>?_
    by_cases c3:u=v
    ·simp only [bSa,↓bSb,reduceCtorEq,x9,x10,x11,decide_eq_true c3,hle8,f3,lW]
     exact ⟨by omega,dW,w,rfl,rW,by rw [Aq5,if_neg (fun h=>h.elim c1 c2),if_pos c3],hw⟩
    ·simp only [bSa,↓bSb,decide_eq_false c3,hle8]
     have hgx:es1.hp.get bx=_:=(hb1 bx (by have:=hJ.d; omega)).trans hJ.x
     have hga:es1.hp.get ba=_:=(hb1 ba (by have:=hJ.d; omega)).trans hJ.a
     have hge:es1.hp.get be=_:=(hb1 be (by have:=hJ.d; omega)).trans hJ.e
     refine Ak9 (cs:=[nilS,nilS,nilS]) rfl ?_
     simp only [bSa,↓bSb,reduceCtorEq,x10]
     refine kws (A55 k es1.nx _ _ _ a p (by omega) (ha1.mono fun j hj=>(hPM j hj).1) (.inl hp0) (by omega) fun hp7 nx7' a' hal7 ho7 hr7 _=>?_)
     have hle7':=hal7.le
     have hdd:=hJ.d
     have hMn:=hJ.m
     have hMb:=hJ.b
     have gx7:=(hal7.same bx (by have:=hMb bx hMn.2.1; omega)).trans hgx
     simp only [bSa,↓bSb]
     refine Ac6 (n:=3) (id:=bx) (ds:=[nilS,nilS,nilS]) (by simp only [bR,reduceCtorEq,x6]) gx7 (by simp only [evt,bR,reduceCtorEq]; rfl) rfl rfl fun hp9 hg9 hk9=>?_
     simp only [bR] at hg9 hk9
     have rA9:=(ho7.rlF hr7).keep (hp':=hp9) fun j hj=>hk9 j (by have:=hMb bx hMn.2.1; have:=hj.1; omega)
     have ga9:hp9.get ba=_:=(hk9 ba (by omega)).trans ((hal7.same ba (by have:=hMb ba hMn.2.2.1; omega)).trans hga)
     simp only [bSa,↓bSb]
     refine Ae2 (id:=ba) (off:=0) (by simp only [bR,reduceCtorEq,x7]) ga9 (by simp only [evt,bR]; exact rA9.live) rA9.ok (by simp) fun hp10 hg10 hk10=>?_
     simp only [bR] at hg10 hk10
     have ge10:hp10.get be=_:=(hk10 be (by omega)).trans ((hk9 be (by omega)).trans ((hal7.same be (by have:=hMb be hMn.2.2.2.1; omega)).trans hge))
     simp only [bSa,↓bSb]
     refine Ae2 (id:=be) (off:=0) (v:=iv 19) (by simp only [bR,reduceCtorEq,x8]) ge10 (by rfl) ⟨rfl,rfl⟩ (by simp) fun hp11 hg11 hk11=>?_
     simp only [bR] at hg11 hk11
     simp only [bSa,↓bSb]
     have hc:∀ j,j < es1.nx→j≠bx→j≠ba→j≠be→hp11.get j=es1.hp.get j:=fun j hj h1 h2 h3=>by rw [hk11 j h3,hk10 j h2,hk9 j h1,hal7.same j (by omega)]
     have hLn:=hMb L hMn.1
     refine ⟨lp,(hc L hLn (by omega) (by omega) (by omega)).trans hbL,hKf _ _ (fun j=>M j∨(es1.nx≤j∧j < nx7')) (by omega) (fun j hj hm=>?_) (fun j hj=>hj.imp id fun h=>h.1) ⟨⟨_,by rw [Tr.get_set,if_pos rfl],by simp,rfl⟩,?_,⟨a',p,?_,?_,Bx5 hJ.n _ _ (by rw [Aq5,if_neg (fun h=>h.elim c1 c2),if_neg c3])⟩,?_,fun j hj=>?_⟩⟩
     ·rw [Tr.get_set,if_neg (show ¬ L=j from fun e=>hm (e ▸ hMn.1)),hc j hj (fun e=>hm (e ▸ hMn.2.1)) (fun e=>hm (e ▸ hMn.2.2.1)) (fun e=>hm (e ▸ hMn.2.2.2.1)),hb1 j (fun e=>hm (e ▸ hMn.1))]
     ·rw [Tr.get_set,if_neg (by omega),hk11 bx (by omega),hk10 bx (by omega)]; exact hg9
     ·rw [Tr.get_set,if_neg (by omega),hk11 ba (by omega)]; exact hg10
     ·have hn1:=hMb bx hMn.2.1
      have hn2:=hMb ba hMn.2.2.1
      have hn3:=hMb be hMn.2.2.2.1
      exact (rA9.keep fun j hj=>by
       have h1:=hj.1
       rw [Tr.get_set,if_neg (by omega),hk11 j (by omega),hk10 j (by omega)]).mono fun j hj=>⟨.inr ⟨by have:=hj.1; omega,hj.2⟩,by have:=hj.1; omega⟩
     ·rw [Tr.get_set,if_neg (by omega)]; exact hg11
     ·rcases hj with h | h
      ·have:=hMb j h; omega
      ·exact h.2
 obtain ⟨sl2,hp2,n2⟩:=es2
 change hp2=es1.hp at yh
 subst yh
 change es1.nx≤n2 at yn
 have hdd:=hJ.d
 have hMn:=hJ.m
 have hMb:=hJ.b
 have happ:mrgC (W ++ [(p,[u,v,w])])=mrgC W ++ (if x=[] then [] else [⟨p,x⟩]):=by
  unfold mrgC
  rw [List.flatMap_append]
  congr 1
  show mrg1 (p,[u,v,w]) ++ []=_
  rw [List.append_nil]
  unfold mrg1
  rw [hX]
 have hne:∀ e∈W ++ [(p,[u,v,w])],mrgV e.2≠none:=fun e he=>by
  rcases List.mem_append.1 he with he | he
  ·exact hJ.n e he
  ·rw [List.mem_singleton.1 he,hX]; simp
 have hset:∀ (H:Tr DObj) (o:DObj) j,j≠L→(H.set L (some o)).get j=H.get j:=fun H o j hj=>by rw [Tr.get_set,if_neg (Ne.symm hj)]
 have hzL:∀ j∈zz.refs,j≠L:=fun j hj=>by have:=(hJ.z j hj).1; omega
 have hzq:OL rCell es1.hp P zz (mrgC W):=hJ.c.keep fun j hj=>hb1 j (hj.elim (hPL j) (hzL j))
 by_cases hx:x=[]
 ·subst hx
  rw [if_pos rfl,List.append_nil] at happ
  simp only [bSa,↓bSb,y12,rX.len,List.length_nil,show decide ((0:Int) < 0)=false from rfl]
  refine ⟨lp,hbL,hKt _ _ M zz yn (fun j hj hm=>?_) (fun j hj=>.inl hj) ?_⟩
  ·rw [hset _ _ j (fun e=>hm (e ▸ hMn.1))]; exact hb1 j fun e=>hm (e ▸ hMn.1)
  ·have g1:∀ j,j≠L→(es1.hp.set L (some (.loop { lp with st:=.ready,pend:=none }))).get j=hp.get j:=fun j hj=>(hset _ _ j hj).trans (hb1 j hj)
   exact ⟨by rw [Tr.get_set,if_pos rfl,hlp],(g1 bx (by omega)).trans hJ.x,(g1 ba (by omega)).trans hJ.a,(g1 be (by omega)).trans hJ.e,(g1 bo (by omega)).trans hJ.o,by rw [happ]; exact hJ.c.keep fun j hj=>g1 j (hj.elim (hPL j) (hzL j)),hne,hJ.z,hMn,hdd,fun j hj=>Nat.lt_of_lt_of_le (hMb j hj) yn,hJ.s⟩
 ·have hgo:es1.hp.get bo=_:=(hb1 bo (by omega)).trans hJ.o
  rw [if_neg hx] at happ
  have h0:0 < x.length:=List.length_pos_iff.2 hx
  have haq:RL rInt es1.hp P a p:=ha1
  simp only [bSa,↓bSb,reduceCtorEq,y9,y10,y12,rX.len,show (0:Int) < (x.length:Int) from Int.natCast_pos.2 h0,Ax6 hgo]
  refine Ak9 (cs:=[a,dX]) (by simp only [List.map_cons,List.map_nil,n_ev,bR,reduceCtorEq,bP,haq.live,rX.live]; exact Bp3 haq.ok rX.ok) ?_
  simp only [↓bSb]
  refine Am9 (fl:=[a,dX]) rfl (by simp only [List.map_cons,List.map_nil,n_ev,bR,bP,Af3 haq rX]; exact B43 (z:=[.slice none 0 0,.slice none 0 0]) rfl) fun hp5 hg5 hk5=>?_
  simp only [bR] at hg5 hk5
  have hPn:∀ j,P j→j < n2:=fun j hj=>by have:=(hPM j hj).1; omega
  have hzn:∀ j∈zz.refs,j < es1.nx:=fun j hj=>hMb j (hJ.z j hj).2
  have o5:=hzq.keep (hp':=hp5) fun j hj=>hk5 j (hj.elim (fun h=>by have:=hPn j h; omega) fun h=>by have:=hzn j h; omega)
  have a5:=haq.keep (hp':=hp5) fun j hj=>hk5 j (by have:=hPn j hj; omega)
  have x5:=rX.keep (hp':=hp5) fun j hj=>hk5 j (by have:=hPn j hj; omega)
  have hlen:=As5 W
  simp only [bSa,↓bSb]
  refine Am8 (R:=rCell) (p:=P) (p2:=P) (d:=zz) (d2:=.ms n2 0 1 2) (l:=mrgC W) (m:=[⟨p,x⟩]) (by simp only [bR,reduceCtorEq,bP]) o5 (by simp only [n_ev,bR,bP]; exact Av3 hg5) (Bo1 (R:=rCell) (x:=⟨p,x⟩) hg5 (rCell_rd.2 ⟨a,dX,rfl,a5,x5⟩)) rfl rfl (by rw [List.length_singleton]; omega) (by decide) fun hp6 hk6 h6=>?_
  simp only [bR] at hk6 h6
  have o6:=h6 P (fun j hj=>by
   have hj:P j:=hj.elim id id
   exact ⟨hj,by have:=hPn j hj; omega,fun h=>(hPM j hj).2 (hJ.z j h).2⟩)
  have k6:∀ j,j < es1.nx→j∉zz.refs→hp6.get j=es1.hp.get j:=fun j hj h=>by rw [hk6 j (by omega) h,hk5 j (by omega)]
  have hbn:=hMb bo hMn.2.2.2.2
  have hgo6:hp6.get bo=_:=(k6 bo hbn fun h=>by have:=(hJ.z bo h).1; omega).trans hgo
  obtain ⟨_,_,flN,hgN,_⟩:=o6.get
  simp only [bSa,↓bSb]
  refine Ae2 (id:=bo) (off:=0) (by simp only [bR,reduceCtorEq,y9]) hgo6 (by simp only [evt,bR]; exact Av3 hgN) (ok_ms _ _ _ _) (by simp) fun hp7 hg7 hk7=>?_
  simp only [bR] at hg7 hk7
  simp only [bSa,↓bSb]
  have k7:∀ j,j < es1.nx→j≠bo→j∉zz.refs→hp7.get j=es1.hp.get j:=fun j hj h1 h2=>by rw [hk7 j h1,k6 j hj h2]
  have hLn:=hMb L hMn.1
  have hzR:∀ j,j≤L→j∉zz.refs:=fun j hj h=>by have:=(hJ.z j h).1; omega
  refine ⟨lp,(k7 L hLn (by omega) (hzR L (Nat.le_refl _))).trans hbL,hKt _ _ (fun j=>M j∨(es1.nx≤j∧j < n2+1+1)) (.ms (n2+1) 0 (mrgC W ++ [(⟨p,x⟩:PCell)]).length 2) (by omega) (fun j hj hm=>?_) (fun j hj=>hj.imp id fun h=>h.1) ?_⟩
  ·rw [hset _ _ j (fun e=>hm (e ▸ hMn.1)),k7 j hj (fun e=>hm (e ▸ hMn.2.2.2.2)) (fun h=>hm (hJ.z j h).2)]
   exact hb1 j fun e=>hm (e ▸ hMn.1)
  ·have g1:∀ j,j < es1.nx→j≠L→j≠bo→j∉zz.refs→(hp7.set L (some (.loop { lp with st:=.ready,pend:=none }))).get j=hp.get j:=fun j hj h1 h2 h3=>(hset _ _ j h1).trans ((k7 j hj h2 h3).trans (hb1 j h1))
   refine ⟨by rw [Tr.get_set,if_pos rfl,hlp],(g1 bx (by omega) (by omega) (by omega) (hzR bx (by omega))).trans hJ.x,(g1 ba (by omega) (by omega) (by omega) (hzR ba (by omega))).trans hJ.a,(g1 be (by omega) (by omega) (by omega) (hzR be (by omega))).trans hJ.e,(hset _ _ bo (by omega)).trans hg7,?_,hne,fun j hj=>?_,⟨.inl hMn.1,.inl hMn.2.1,.inl hMn.2.2.1,.inl hMn.2.2.2.1,.inl hMn.2.2.2.2⟩,hdd,fun j hj=>?_,hJ.s⟩
   ·rw [happ]
    refine o6.keep fun j hj=>?_
    rw [hset _ _ j,hk7 j]
    ·rcases hj with hj | hj
     ·exact fun e=>(hPM j hj).2 (e ▸ hMn.2.2.2.2)
     ·have:j=n2+1:=by simpa [DV.refs] using hj
      omega
    ·rcases hj with hj | hj
     ·exact hPL j hj
     ·have:j=n2+1:=by simpa [DV.refs] using hj
      omega
   ·have:j=n2+1:=by simpa [DV.refs] using hj
    exact ⟨by omega,.inr ⟨by omega,by omega⟩⟩
   ·rcases hj with h | h
    ·have:=hMb j h; omega
    ·exact h.2
end
end Go.DD

/- Contracts: the program's merge. Conditions: those that each theorem states. -/
namespace Go.DD
set_option linter.unusedSectionVars false
set_option linter.unusedVariables false
open Go Go.Proofs
def noA:PArr:=⟨[],[],[]⟩
def mWalk (b x y:PArr):List (List Int×List (List PVal)):=walkL [b.cells,x.cells,y.cells]
def Aa7 (b x y:PArr):Int:=if (Aa1 b≠0∨Aa1 x≠0)∨Aa1 y≠0 then 2 else if Ac4 b x=false∨Ac4 b y=false then 13 else if mrgX (mWalk b x y)=none then 0 else 19
def Ad0 (b x y:PArr):PArr:=if Aa7 b x y=0 then ⟨b.dims,b.attrs,mrgC (mWalk b x y)⟩ else noA
def Af1 (b x y:PArr):List Int:=if Aa7 b x y=19 then (mrgX (mWalk b x y)).getD [] else []
theorem A59 {W:List (List Int×List (List PVal))} (h:∀ w∈W,mrgV w.2≠none):mrgX W=none:=by
 unfold mrgX
 rw [List.find?_eq_none.2 fun x hx=>?_]
 ·rfl
 ·cases hv:mrgV x.2 with
  | none=>exact absurd hv (h x hx)
  | some v=>simp
theorem Bx6 {W V:List (List Int×List (List PVal))} {p:List Int} (h:W <+: V) (hp:mrgX W=some p):mrgX V=some p:=by
 obtain ⟨T,rfl⟩:=h
 unfold mrgX at hp ⊢
 rw [List.find?_append]
 cases e:W.find? fun w=>(mrgV w.2).isNone with
 | none=>rw [e] at hp; cases hp
 | some w=>rw [e] at hp; exact hp
theorem Rows.three {R:Rep (List PCell)} {hp:Tr DObj} {p:Nat→Prop} {a b c:DV} {x y z:List PCell} (h1:R.rd hp p [a] x) (h2:R.rd hp p [b] y) (h3:R.rd hp p [c] z):Rows R hp p [a,b,c] [x,y,z]:=⟨[a],[b,c],rfl,h1,[b],[c],rfl,h2,[c],[],rfl,h3,rfl⟩
theorem Ck0 {z:Value} {a b c:DV} (h1:a.okC=true∧a.cells=[a]) (h2:b.okC=true∧b.cells=[b]) (h3:c.okC=true∧c.cells=[c]):fillD (List.replicate 3 ([z].map DV.v)).flatten [(0,1,a),(1,1,b),(2,1,c)]=some [a,b,c]:=by
 simp [fillD,h1.1,h1.2,h2.1,h2.2,h3.1,h3.2]
section
variable (k n0:Nat) (hp:Tr DObj) (nx:Nat) (K:DV→Tr DObj→Nat→Prop)
theorem Ck1 {es1:ES} {Q:Exit→ES→Prop} (bx ba be bo br bw:Nat) (l1 l2 l3:List PCell) (hn:n0≤bx) (hd:bx < ba∧ba < be∧be < bo∧bo < br∧br < bw∧bw < es1.nx)
  (hrow:RL rCells es1.hp (fun j=>j < n0∨j=br) (.ms br 0 3 1) [l1,l2,l3]) (hl:l1.length+l2.length+l3.length≤128)
  (hc:∀ c,c∈l1∨c∈l2∨c∈l3→c.pos≠[]∧c.pos.length < 900000∧c.vals≠[]∧c.vals.length < 900000)
  (gx:es1.hp.get bx=some (.row 26 [nilS,nilS,nilS])) (ga:es1.hp.get ba=some (.row 36 [nilS])) (ge:es1.hp.get be=some (.row 32 [iv 0])) (go:es1.hp.get bo=some (.row 24 [nilS]))
  (gw:es1.hp.get bw=some (.row 201 [.ms br 0 3 1])) (b6:rawE es1 (.t (.r (.r .o)))=.pt bx 0) (b7:rawE es1 (.t (.l (.l (.l .o))))=.pt ba 0) (b8:rawE es1 (.t (.r (.l (.l .o))))=.pt be 0) (b9:rawE es1 (.t (.l (.r (.l .o))))=.pt bo 0) (b47:rawE es1 (.t (.l (.l (.l (.l (.r .o))))))=.fn (.func 138) [.tup [],.pt bw 0])
  (hQ:∀ hp' nx' z,es1.nx≤nx'→(∀ j,j < es1.nx→j≠bx→j≠ba→j≠be→j≠bo→hp'.get j=es1.hp.get j)→hp'.get bx=some (.row 26 [nilS,nilS,nilS])→hp'.get ba=some (.row 36 [nilS])→hp'.get be=some (.row 32 [iv 0])→hp'.get bo=some (.row 24 [z])→RL rCell hp' (Bl nx') z (mrgC (walkL [l1,l2,l3]))→mrgX (walkL [l1,l2,l3])=none→Q .normal ⟨es1.sl,hp',nx'⟩)
  (hR:∀ hp' nx' q p,es1.nx≤nx'→(∀ j,j < es1.nx→j≠bx→j≠ba→j≠be→j≠bo→hp'.get j=es1.hp.get j)→hp'.get bx=some (.row 26 [nilS,nilS,nilS])→hp'.get ba=some (.row 36 [q])→hp'.get be=some (.row 32 [iv 19])→RL rInt hp' (Bw es1.nx nx') q p→mrgX (walkL [l1,l2,l3])=some p→Q .ret ⟨es1.sl,hp',nx'⟩) :
  EW (cR 105 false (.t (.l (.l (.l (.l (.r .o)))))) [48,49] Ay2 Ay3) (kN (k+5)) es1 Q:=by
 have htl:tot [l1,l2,l3]=l1.length+l2.length+l3.length:=by simp [tot]; omega
 have hwin:=fun w (hw:w∈walkL [l1,l2,l3])=>A22 (n:=tot [l1,l2,l3]) (hs:=[l1,l2,l3]) w hw
 have hwl:(walkL [l1,l2,l3]).length≤128:=Nat.le_trans Ao6 (by omega)
 have hcell:∀ h∈[l1,l2,l3],∀ c∈h,c∈l1∨c∈l2∨c∈l3:=fun h hh c hch=>by
  simp only [List.mem_cons,List.not_mem_nil,or_false] at hh
  rcases hh with rfl | rfl | rfl
  ·exact .inl hch
  ·exact .inr (.inl hch)
  ·exact .inr (.inr hch)
 have hset:∀ (x:Option DObj) j,j≠es1.nx→(es1.hp.set es1.nx x).get j=es1.hp.get j:=fun x j hj=>by rw [Tr.get_set,if_neg (Ne.symm hj)]
 refine Ch6 (f:=138) (cs:=[.pt bw 0]) ?_ ?_
 ·rw [evt,b47]
  exact Ag2 fun id hid=>by
   have:id=bw:=by simpa [DV.refs,DV.refsL] using hid
   rw [this,gw]; rfl
 ·refine Bx0 k es1.nx bw 201 (.ms br 0 3 1) [l1,l2,l3] (fun j=>j < n0∨j=br) (fun W M hp nx=>∃ z,MJ es1.sl es1.nx bx ba be bo (fun j=>j < n0∨j=br) W M hp nx z) (fun W M hp nx=>MS es1.nx bx ba be W M hp nx∧W <+: walkL [l1,l2,l3]) (fun j=>j=es1.nx∨j=bx∨j=ba∨j=be∨j=bo) _ _ _ ((hset _ _ (by omega)).trans gw) (hrow.keep fun j hj=>hset _ j (by rcases hj with h | h <;> omega)) (fun j hj=>by rcases hj with h | h <;> exact ⟨by omega,by omega⟩) (by simp) (by simp) (fun h hh c hc'=>by obtain ⟨h1,h2,h3,h4⟩:=hc c (hcell h hh c hc'); exact ⟨h1,h2,h3⟩) (by omega) ?_ ?_ ?_ ?_ ?_ ?_ ?_
  ·exact ⟨nilS,by rw [Tr.get_set,if_pos rfl],(hset _ _ (by omega)).trans gx,(hset _ _ (by omega)).trans ga,(hset _ _ (by omega)).trans ge,(hset _ _ (by omega)).trans go,.nil,fun w hw=>by (cases hw),fun j hj=>by (cases hj),⟨.inl rfl,.inr (.inl rfl),.inr (.inr (.inl rfl)),.inr (.inr (.inr (.inl rfl))),.inr (.inr (.inr (.inr rfl)))⟩,⟨by omega,by omega,by omega,by omega⟩,fun j hj=>by rcases hj with h | h | h | h | h <;> omega,b6,b7,b8,b9⟩
  ·exact fun W M hp nx ⟨z,h⟩=>h.b
  ·exact fun W M hp nx ⟨z,h⟩=>⟨h.m.1,_,h.l⟩
  ·exact fun W M hp nx hp' nx' ⟨z,h⟩ hn hk=>⟨z,h.keep hn hk⟩
  ·intro W M hp nx a s p sts K ⟨z,hJ⟩ hpre ha hs hsr hPM hKt hKf
   have hmem:(p,sts)∈walkL [l1,l2,l3]:=hpre.subset (by simp)
   obtain ⟨g1,⟨h,hh,c,hc',g2⟩,g3⟩:=hwin _ hmem
   obtain ⟨u,v,w,rfl⟩:∃ u v w,sts=[u,v,w]:=by
    match sts,g1 with
    | [u,v,w],_=>exact ⟨u,v,w,rfl⟩
   have g2:c.pos=p:=g2
   have hpc:=hc c (hcell h hh c hc')
   have hval:∀ x∈[u,v,w],x.length < 900000:=fun x hx=>by
    rcases g3 x hx with rfl | ⟨h,hh,c,hc',rfl⟩
    ·simp
    ·exact (hc c (hcell h hh c hc')).2.2.2
   refine Br2 (k+2) hp nx K _ _ _ _ _ _ _ W M a s p u v w z hJ hPM ha hs hsr (by rw [← g2]; exact hpc.1) (by rw [← g2]; exact hpc.2.1) (hval u (by simp)) (hval v (by simp)) (hval w (by simp)) ?_ (fun hp' nx' M' z' h1 h2 h3 h4=>hKt hp' nx' M' h1 h2 h3 ⟨z',h4⟩) (fun hp' nx' M' h1 h2 h3 h4=>hKf hp' nx' M' h1 h2 h3 ⟨h4,hpre⟩)
   have:=hpre.length_le
   rw [List.length_append] at this
   omega
  ·intro hp' nx' M' hnx' hfr' hM' ⟨z,hJ⟩
   have hs4:∀ j,j≠es1.nx→(hp'.set es1.nx none).get j=hp'.get j:=fun j hj=>by rw [Tr.get_set,if_neg (Ne.symm hj)]
   refine ⟨_,hJ.l,by simp,.inl ⟨rfl,?_⟩⟩
   have hrl:RL rCell (hp'.set es1.nx none) (Bl nx') z (mrgC (walkL [l1,l2,l3])):=(hJ.c.rl.keep fun j hj=>hs4 j ?_).mono fun j hj=>?_
   ·refine hQ _ _ z (by omega) (fun j hj h1 h2 h3 h4=>?_) ((hs4 _ (by omega)).trans hJ.x) ((hs4 _ (by omega)).trans hJ.a) ((hs4 _ (by omega)).trans hJ.e) ((hs4 _ (by omega)).trans hJ.o) hrl (A59 hJ.n)
    rw [hs4 j (by omega),hfr' j (by omega) (by omega),hset _ j (by omega)]
   ·rcases hj with (hj | hj) | hj
    ·omega
    ·omega
    ·have:=(hJ.z j hj).1; omega
   ·rcases hj with (hj | hj) | hj
    ·show j < nx'; omega
    ·show j < nx'; omega
    ·exact hJ.b j (hJ.z j hj).2
  ·intro W hp' nx' M' hnx' hfr' hM' ⟨hS,hpre⟩
   have hs4:∀ j,j≠es1.nx→(hp'.set es1.nx none).get j=hp'.get j:=fun j hj=>by rw [Tr.get_set,if_neg (Ne.symm hj)]
   obtain ⟨lp,hl1,hl2,hl3⟩:=hS.l
   obtain ⟨q,p,ha1,ha2,ha3⟩:=hS.a
   refine ⟨_,hl1,hl2,.inr (.inl ⟨hl3,?_⟩)⟩
   refine hR _ _ q p (by omega) (fun j hj h1 h2 h3 h4=>?_) ((hs4 _ (by omega)).trans hS.x) ((hs4 _ (by omega)).trans ha1) ((hs4 _ (by omega)).trans hS.e) ((ha2.keep fun j hj=>hs4 j (by have:=hj.2; omega)).mono fun j hj=>⟨by have:=hj.2; omega,hS.b j hj.1⟩) (Bx6 hpre ha3)
   rw [hs4 j (by omega),hfr' j (by omega) (by omega),hset _ j (by omega)]
end
end Go.DD

/- Contracts: the program's Merged. Conditions: those that each theorem states. -/
namespace Go.DD
set_option linter.unusedSectionVars false
set_option linter.unusedVariables false
open Go Go.Proofs
theorem Cb7 {l:List (List PVal)} {v:List PVal} (h:mrgV l=some v):v∈l:=by
 unfold mrgV at h
 split at h
 ·rename_i x y z
  split at h
  ·cases h; simp
  ·split at h
   ·cases h; simp
   ·cases h
 ·cases h
theorem Br3 {W:List (List Int×List (List PVal))} {c:PCell} (h:c∈mrgC W):∃ w∈W,c.pos=w.1∧c.vals∈w.2∧c.vals≠[]:=by
 obtain ⟨w,hw,hc⟩:=List.mem_flatMap.1 h
 refine ⟨w,hw,?_⟩
 unfold mrg1 at hc
 split at hc
 ·rename_i v e
  split at hc
  ·cases hc
  ·rename_i hv
   obtain rfl:=List.mem_singleton.1 hc
   exact ⟨rfl,Cb7 e,hv⟩
 ·cases hc
theorem A25:∀ {W:List (List Int×List (List PVal))},W.Pairwise (fun a b=>cmpL a.1 b.1 = -1)→Srt (mrgC W)
 | [],_=>.nil
 | w :: W,h=>by
  obtain ⟨h1,h2⟩:=List.pairwise_cons.1 h
  have ih:=A25 h2
  show Srt (mrg1 w ++ mrgC W)
  have h3:∀ c∈mrg1 w,c.pos=w.1:=fun c hc=>by
   unfold mrg1 at hc
   split at hc
   ·split at hc
    ·cases hc
    ·rw [List.mem_singleton.1 hc]
   ·cases hc
  refine List.pairwise_append.2 ⟨?_,ih,fun c hc e he=>?_⟩
  ·unfold mrg1
   split
   ·split
    ·exact .nil
    ·exact List.pairwise_singleton _ _
   ·exact .nil
  ·obtain ⟨w',hw',e1,_⟩:=Br3 he
   rw [h3 c hc,e1]; exact h1 w' hw'
theorem Bf1 {l:List PCell} {p:List Int} (h:Ab9 l p≠[]):∃ c∈l,c.pos=p∧c.vals=Ab9 l p:=by
 unfold Ab9 at h ⊢
 cases e:l.find? (fun c=>decide (c.pos=p)) with
 | none=>rw [e] at h; exact absurd rfl h
 | some c=>exact ⟨c,List.mem_of_find?_eq_some e,by simpa using List.find?_some e,rfl⟩
theorem Aw4 {x y:PArr} (h:Ac4 x y=true):x.dims=y.dims∧x.attrs=y.attrs:=by
 unfold Ac4 at h
 simpa using h
theorem Bf2 {b x y:PArr} (hb:Aa1 b=0) (hx:Aa1 x=0) (hy:Aa1 y=0):∀ c∈mrgC (mWalk b x y),c∈b.cells∨c∈x.cells∨c∈y.cells:=fun c hc=>by
 have hS:∀ h∈[b.cells,x.cells,y.cells],Srt h:=fun h hh=>by
  simp only [List.mem_cons,List.not_mem_nil,or_false] at hh
  rcases hh with rfl | rfl | rfl
  ·exact (Aa3 hb).1
  ·exact (Aa3 hx).1
  ·exact (Aa3 hy).1
 obtain ⟨w1,w2,w3⟩:=Am2 (n:=tot [b.cells,x.cells,y.cells]) hS (Nat.le_refl _)
 obtain ⟨w,hw,e1,e2,e3⟩:=Br3 hc
 rw [w3 w hw] at e2
 obtain ⟨h,hh,e4⟩:=List.mem_map.1 e2
 obtain ⟨c',hc',e5,e6⟩:=Bf1 (l:=h) (p:=w.1) (by rw [e4]; exact e3)
 have:c'=c:=by
  obtain ⟨p,v⟩:=c
  obtain ⟨p',v'⟩:=c'
  simp only at e1 e4 e5 e6
  rw [e5,e6,e4,e1]
 subst this
 simp only [List.mem_cons,List.not_mem_nil,or_false] at hh
 rcases hh with rfl | rfl | rfl
 ·exact .inl hc'
 ·exact .inr (.inl hc')
 ·exact .inr (.inr hc')
theorem A60 {b x y:PArr} (hb:Aa1 b=0) (hx:Aa1 x=0) (hy:Aa1 y=0) (h1:Ac4 b x=true) (h2:Ac4 b y=true) (hl:b.cells.length+x.cells.length+y.cells.length≤128):Aa1 ⟨b.dims,b.attrs,mrgC (mWalk b x y)⟩=0:=by
 obtain ⟨x1,x2⟩:=Aw4 h1
 obtain ⟨y1,y2⟩:=Aw4 h2
 have hS:∀ h∈[b.cells,x.cells,y.cells],Srt h:=fun h hh=>by
  simp only [List.mem_cons,List.not_mem_nil,or_false] at hh
  rcases hh with rfl | rfl | rfl
  ·exact (Aa3 hb).1
  ·exact (Aa3 hx).1
  ·exact (Aa3 hy).1
 obtain ⟨w1,_,_⟩:=Am2 (n:=tot [b.cells,x.cells,y.cells]) hS (Nat.le_refl _)
 refine Bx3 (Aa3 hb).2.2 ?_ (fun c hc=>?_) (A25 w1)
 ·have h3:=As5 (mWalk b x y)
  have h4:(mWalk b x y).length≤tot [b.cells,x.cells,y.cells]:=Ao6
  have h5:tot [b.cells,x.cells,y.cells]=b.cells.length+x.cells.length+y.cells.length:=by simp [tot]; omega
  show (mrgC (mWalk b x y)).length≤4096
  omega
 ·rcases Bf2 hb hx hy c hc with h | h | h
  ·exact (Aa3 hb).2.1 c h
  ·show cellE b.dims b.attrs c=0
   rw [x1,x2]; exact (Aa3 hx).2.1 c h
  ·show cellE b.dims b.attrs c=0
   rw [y1,y2]; exact (Aa3 hy).2.1 c h
theorem B56 {b x y:PArr} (hb:Aa1 b=0) (hx:Aa1 x=0) (hy:Aa1 y=0) (ob:AOK b) (ox:AOK x) (oy:AOK y) (hl:b.cells.length+x.cells.length+y.cells.length≤128):AOK ⟨b.dims,b.attrs,mrgC (mWalk b x y)⟩:=by
 refine ⟨ob.d,ob.a,?_,fun c hc=>?_⟩
 ·have h3:=As5 (mWalk b x y)
  have h4:(mWalk b x y).length≤tot [b.cells,x.cells,y.cells]:=Ao6
  have h5:tot [b.cells,x.cells,y.cells]=b.cells.length+x.cells.length+y.cells.length:=by simp [tot]; omega
  show (mrgC (mWalk b x y)).length < 900000
  omega
 ·rcases Bf2 hb hx hy c hc with h | h | h
  ·exact ob.e c h
  ·exact ox.e c h
  ·exact oy.e c h
section
variable (k n0:Nat) (hp:Tr DObj) (nx:Nat) (K:DV→Tr DObj→Nat→Prop)
theorem As6 (d1 d2 d3:DV) (b x y:PArr) (hn:n0≤nx) (h1:AR hp (Bl n0) d1 b) (h2:AR hp (Bl n0) d2 x) (h3:AR hp (Bl n0) d3 y) (hb:AOK b) (hx:AOK x) (hy:AOK y) (hc:b.cells.length+x.cells.length+y.cells.length≤128)
  (hK:∀ hp' nx' d' p',Al hp nx hp' nx'→AR hp' (Bw nx nx') d' (Ad0 b x y)→RL rInt hp' (Bw nx nx') p' (Af1 b x y)→K (.tup [d',p',iv (Aa7 b x y)]) hp' nx'):KW (kN (k+18)) (.fn 20) [d1,d2,d3] hp nx K:=by
 obtain ⟨d,a,c,rfl,r1,r2,r3⟩:=h1
 obtain ⟨d',a',c',rfl,s1,s2,s3⟩:=h2
 obtain ⟨d'',a'',c'',rfl,t1,t2,t3⟩:=h3
 refine kn_r3 (Aa5 (by decide)) t20 (Nat.le_of_ble_eq_true rfl) fun es e1 e2 he=>?_
 have a0:rawE es (.t .o)=.agg [d,a,c]:=he 0 _ rfl
 have a1:rawE es (.t (.l .o))=.agg [d',a',c']:=he 1 _ rfl
 have a2:rawE es (.t (.r .o))=.agg [d'',a'',c'']:=he 2 _ rfl
 unfold r20
 subst e1 e2
 simp only [↓bSb]
 refine Ab6 (cs:=[d,a,c]) (by rw [evt,a0]; exact AR.live r1 r2 r3) fun hp1 hg1 hk1=>?_
 simp only [bR] at hg1 hk1
 have hal1:Al es.hp es.nx hp1 (es.nx+1):=⟨by omega,fun j hj=>hk1 j (by omega)⟩
 simp only [bSa,↓bSb]
 refine Ab6 (cs:=[d',a',c']) (by simp only [evt,bR,reduceCtorEq,a1]; exact AR.live (s1.ka hn hal1) (s2.ka hn hal1) (s3.ka hn hal1)) fun hp2 hg2 hk2=>?_
 simp only [bR] at hg2 hk2
 have hal2:Al es.hp es.nx hp2 (es.nx+1+1):=⟨by omega,fun j hj=>by rw [hk2 j (by omega),hk1 j (by omega)]⟩
 simp only [bSa,↓bSb]
 refine Ab6 (cs:=[d'',a'',c'']) (by simp only [evt,bR,reduceCtorEq,a2]; exact AR.live (t1.ka hn hal2) (t2.ka hn hal2) (t3.ka hn hal2)) fun hp3 hg3 hk3=>?_
 simp only [bR] at hg3 hk3
 simp only [bSa,↓bSb]
 refine Ad3 fun hp4 hg4 hk4=>?_
 simp only [bR] at hg4 hk4
 simp only [bSa,↓bSb]
 refine Ad3 fun hp5 hg5 hk5=>?_
 simp only [bR] at hg5 hk5
 simp only [bSa,↓bSb]
 refine Ad3 fun hp6 hg6 hk6=>?_
 simp only [bR] at hg6 hk6
 have hal6:Al es.hp es.nx hp6 (es.nx+1+1+1+1+1+1):=⟨by omega,fun j hj=>by rw [hk6 j (by omega),hk5 j (by omega),hk4 j (by omega),hk3 j (by omega),hal2.same j hj]⟩
 have q1:hp6.get es.nx=some (.row 26 [d,a,c]):=by rw [hk6 _ (by omega),hk5 _ (by omega),hk4 _ (by omega),hk3 _ (by omega),hk2 _ (by omega),hg1]
 have q2:hp6.get (es.nx+1)=some (.row 26 [d',a',c']):=by rw [hk6 _ (by omega),hk5 _ (by omega),hk4 _ (by omega),hk3 _ (by omega),hg2]
 have q3:hp6.get (es.nx+1+1)=some (.row 26 [d'',a'',c'']):=by rw [hk6 _ (by omega),hk5 _ (by omega),hk4 _ (by omega),hg3]
 have q4:hp6.get (es.nx+1+1+1)=some (.row 26 [nilS,nilS,nilS]):=by rw [hk6 _ (by omega),hk5 _ (by omega)]; exact hg4
 have q5:hp6.get (es.nx+1+1+1+1)=some (.row 36 [nilS]):=by rw [hk6 _ (by omega)]; exact hg5
 have q6:hp6.get (es.nx+1+1+1+1+1)=some (.row 32 [iv 0]):=hg6
 have hrA:∀ {hp' nx'},Al es.hp es.nx hp' nx'→AR hp' (Bl n0) (.agg [d,a,c]) b:=fun h=>⟨d,a,c,rfl,r1.ka hn h,r2.ka hn h,r3.ka hn h⟩
 have hrB:∀ {hp' nx'},Al es.hp es.nx hp' nx'→AR hp' (Bl n0) (.agg [d',a',c']) x:=fun h=>⟨d',a',c',rfl,s1.ka hn h,s2.ka hn h,s3.ka hn h⟩
 have hrC:∀ {hp' nx'},Al es.hp es.nx hp' nx'→AR hp' (Bl n0) (.agg [d'',a'',c'']) y:=fun h=>⟨d'',a'',c'',rfl,t1.ka hn h,t2.ka hn h,t3.ka hn h⟩
 have hm2:(Aa1 b≠0∨Aa1 x≠0)∨Aa1 y≠0→Aa7 b x y=2:=fun h=>by unfold Aa7; rw [if_pos h]
 have hm13:¬ ((Aa1 b≠0∨Aa1 x≠0)∨Aa1 y≠0)→(Ac4 b x=false∨Ac4 b y=false)→Aa7 b x y=13:=fun h h2=>by unfold Aa7; rw [if_neg h,if_pos h2]
 -- what is returned without a merge
 have stop:∀ {es1:ES} (e:Int),Aa7 b x y=e→e≠0→e≠19→Al es.hp es.nx es1.hp es1.nx→es.nx+6≤es1.nx→rawE es1 (.t (.r (.r .o)))=.pt (es.nx+1+1+1) 0→rawE es1 (.t (.l (.l (.l .o))))=.pt (es.nx+1+1+1+1) 0→rawE es1 (.t (.r (.l (.l .o))))=.pt (es.nx+1+1+1+1+1) 0→es1.hp.get (es.nx+1+1+1)=some (.row 26 [nilS,nilS,nilS])→es1.hp.get (es.nx+1+1+1+1)=some (.row 36 [nilS])→es1.hp.get (es.nx+1+1+1+1+1)=some (.row 32 [iv e])→∃ d b g,resE es1 (6,some (some 3))=some d∧resE es1 (7,some none)=some b∧resE es1 (8,some none)=some g∧K (.tup [d,b,g]) es1.hp es1.nx:=by
  intro es1 e he h0 h19 hal hle x6 x7 x8 g6 g7 g8
  have hA:Ad0 b x y=noA:=by unfold Ad0; rw [he,if_neg h0]
  have hP:Af1 b x y=[]:=by unfold Af1; rw [he,if_neg h19]
  refine ⟨_,_,_,Ay4 (by simp only [bP,x6]) g6 rfl,Ay5 (by simp only [bP,x7]) g7,Ay5 (by simp only [bP,x8]) g8,?_⟩
  rw [← he]
  refine hK _ _ _ _ hal ?_ ?_
  ·rw [hA]; exact ⟨nilS,nilS,nilS,rfl,.nil,.nil,.nil⟩
  ·rw [hP]; exact .nil
 obtain ⟨_,_,_,_,lA6⟩:=Aa0 q1
 simp only [bSa,↓bSb,reduceCtorEq,lA6]
 refine kws (Ao4 (k:=k+10) n0 _ _ _ _ b (by omega) (hrA hal6) hb fun hp7 nx7 hal7=>?_)
 have hle7:=hal7.le
 have ha7:=hal6.trans hal7
 have k7:∀ j,j < es.nx+1+1+1+1+1+1→hp7.get j=hp6.get j:=fun j hj=>hal7.same j hj
 obtain ⟨_,_,_,_,lB7⟩:=Aa0 ((k7 (es.nx+1) (by omega)).trans q2)
 by_cases c1:Aa1 b=0
 ·simp only [bSa,↓bSb,reduceCtorEq,show decide (¬ Aa1 b=0)=false by simp [c1],lB7]
  refine kws (Ao4 (k:=k+10) n0 _ _ _ _ x (by omega) (hrB ha7) hx fun hp8 nx8 hal8=>?_)
  have hle8:=hal8.le
  have ha8:=ha7.trans hal8
  have k8:∀ j,j < es.nx+1+1+1+1+1+1→hp8.get j=hp6.get j:=fun j hj=>(hal8.same j (by omega)).trans (k7 j hj)
  obtain ⟨_,_,_,_,lC8⟩:=Aa0 ((k8 (es.nx+1+1) (by omega)).trans q3)
  by_cases c2:Aa1 x=0
  ·simp only [bSa,↓bSb,reduceCtorEq,show decide (¬ Aa1 x=0)=false by simp [c2],lC8]
   refine kws (Ao4 (k:=k+10) n0 _ _ _ _ y (by omega) (hrC ha8) hy fun hp9 nx9 hal9=>?_)
   have hle9:=hal9.le
   have ha9:=ha8.trans hal9
   have k9:∀ j,j < es.nx+1+1+1+1+1+1→hp9.get j=hp6.get j:=fun j hj=>(hal9.same j (by omega)).trans (k8 j hj)
   obtain ⟨_,_,_,_,lA9⟩:=Aa0 ((k9 es.nx (by omega)).trans q1)
   obtain ⟨_,_,_,_,lB9⟩:=Aa0 ((k9 (es.nx+1) (by omega)).trans q2)
   by_cases c3:Aa1 y=0
   ·simp only [bSa,↓bSb,reduceCtorEq,show decide (¬ Aa1 y=0)=false by simp [c3],lA9,lB9]
    refine kws (Be7 (k:=k+15) n0 _ _ _ _ _ b x (by omega) (hrA ha9) (hrB ha9) hb fun hp10 nx10 hal10=>?_)
    have hle10:=hal10.le
    have ha10:=ha9.trans hal10
    have k10:∀ j,j < es.nx+1+1+1+1+1+1→hp10.get j=hp6.get j:=fun j hj=>(hal10.same j (by omega)).trans (k9 j hj)
    have hcc:¬ ((Aa1 b≠0∨Aa1 x≠0)∨Aa1 y≠0):=by simp [c1,c2,c3]
    obtain ⟨_,_,_,_,lA10⟩:=Aa0 ((k10 es.nx (by omega)).trans q1)
    obtain ⟨_,_,_,_,lC10⟩:=Aa0 ((k10 (es.nx+1+1) (by omega)).trans q3)
    cases c4:decide (b.dims=x.dims) && decide (b.attrs=x.attrs) with
    | false=>
     simp only [bSa,↓bSb,reduceCtorEq]
     refine Ak9 (cs:=[nilS,nilS,nilS]) rfl ?_
     simp only [bSa,↓bSb]
     refine Ac6 (n:=3) (id:=es.nx+1+1+1) (ds:=[nilS,nilS,nilS]) (by simp only [bR,reduceCtorEq]) ((k10 _ (by omega)).trans q4) (by simp only [evt,bR]; rfl) rfl rfl fun hA hgA hkA=>?_
     simp only [bR] at hgA hkA
     simp only [bSa,↓bSb]
     refine Ae2 (id:=es.nx+1+1+1+1) (off:=0) (v:=nilS) (by simp only [bR,reduceCtorEq]) ((hkA _ (by omega)).trans ((k10 _ (by omega)).trans q5)) (by rfl) ⟨rfl,rfl⟩ (by simp) fun hB hgB hkB=>?_
     simp only [bR] at hgB hkB
     simp only [bSa,↓bSb]
     refine Ae2 (id:=es.nx+1+1+1+1+1) (off:=0) (v:=iv 13) (by simp only [bR,reduceCtorEq]) ((hkB _ (by omega)).trans ((hkA _ (by omega)).trans ((k10 _ (by omega)).trans q6))) (by rfl) ⟨rfl,rfl⟩ (by simp) fun hC hgC hkC=>?_
     simp only [bR] at hgC hkC
     simp only [bSa,↓bSb,reduceCtorEq]
     exact stop 13 (hm13 hcc (.inl c4)) (by decide) (by decide) ⟨by have:=ha10.le; exact this,fun j hj=>by rw [hkC j (by omega),hkB j (by omega),hkA j (by omega),ha10.same j hj]⟩ (by show es.nx+6≤nx10; omega) (by simp only [bR,reduceCtorEq]) (by simp only [bR,reduceCtorEq]) (by simp only [bR,reduceCtorEq]) ((hkC _ (by omega)).trans ((hkB _ (by omega)).trans hgA)) ((hkC _ (by omega)).trans hgB) hgC
    | true=>
     simp only [bSa,↓bSb,reduceCtorEq,lA10,lC10]
     refine kws (Be7 (k:=k+15) n0 _ _ _ _ _ b y (by omega) (hrA ha10) (hrC ha10) hb fun hp11 nx11 hal11=>?_)
     have hle11:=hal11.le
     have ha11:=ha10.trans hal11
     have k11:∀ j,j < es.nx+1+1+1+1+1+1→hp11.get j=hp6.get j:=fun j hj=>(hal11.same j (by omega)).trans (k10 j hj)
     cases c5:decide (b.dims=y.dims) && decide (b.attrs=y.attrs) with
     | false=>
      simp only [bSa,↓bSb,reduceCtorEq]
      refine Ak9 (cs:=[nilS,nilS,nilS]) rfl ?_
      simp only [bSa,↓bSb]
      refine Ac6 (n:=3) (id:=es.nx+1+1+1) (ds:=[nilS,nilS,nilS]) (by simp only [bR,reduceCtorEq]) ((k11 _ (by omega)).trans q4) (by simp only [evt,bR]; rfl) rfl rfl fun hA hgA hkA=>?_
      simp only [bR] at hgA hkA
      simp only [bSa,↓bSb]
      refine Ae2 (id:=es.nx+1+1+1+1) (off:=0) (v:=nilS) (by simp only [bR,reduceCtorEq]) ((hkA _ (by omega)).trans ((k11 _ (by omega)).trans q5)) (by rfl) ⟨rfl,rfl⟩ (by simp) fun hB hgB hkB=>?_
      simp only [bR] at hgB hkB
      simp only [bSa,↓bSb]
      refine Ae2 (id:=es.nx+1+1+1+1+1) (off:=0) (v:=iv 13) (by simp only [bR,reduceCtorEq]) ((hkB _ (by omega)).trans ((hkA _ (by omega)).trans ((k11 _ (by omega)).trans q6))) (by rfl) ⟨rfl,rfl⟩ (by simp) fun hC hgC hkC=>?_
      simp only [bR] at hgC hkC
      simp only [bSa,↓bSb,reduceCtorEq]
      exact stop 13 (hm13 hcc (.inr c5)) (by decide) (by decide) ⟨by have:=ha11.le; exact this,fun j hj=>by rw [hkC j (by omega),hkB j (by omega),hkA j (by omega),ha11.same j hj]⟩ (by show es.nx+6≤nx11; omega) (by simp only [bR,reduceCtorEq]) (by simp only [bR,reduceCtorEq]) (by simp only [bR,reduceCtorEq]) ((hkC _ (by omega)).trans ((hkB _ (by omega)).trans hgA)) ((hkC _ (by omega)).trans hgB) hgC
     | true=>
      simp only [bSa,↓bSb,reduceCtorEq]
      refine Ad3 fun hp12 hg12 hk12=>?_
      simp only [bR] at hg12 hk12
      have k12:∀ j,j < nx11→hp12.get j=hp11.get j:=fun j hj=>hk12 j (by omega)
      have ha12:Al es.hp es.nx hp12 (nx11+1):=⟨by omega,fun j hj=>by rw [k12 j (by omega),ha11.same j hj]⟩
      have p12:∀ j,j < es.nx+1+1+1+1+1+1→hp12.get j=hp6.get j:=fun j hj=>(k12 j (by omega)).trans (k11 j hj)
      obtain ⟨⟨_,_,fA⟩,_,_,lA,_⟩:=Aa0 ((p12 es.nx (by omega)).trans q1)
      obtain ⟨⟨_,_,fB⟩,_,_,lB,_⟩:=Aa0 ((p12 (es.nx+1) (by omega)).trans q2)
      obtain ⟨⟨_,_,fC⟩,_,_,lC,_⟩:=Aa0 ((p12 (es.nx+1+1) (by omega)).trans q3)
      have u1:=r3.ka hn ha12
      have u2:=s3.ka hn ha12
      have u3:=t3.ka hn ha12
      simp only [bSa,↓bSb,reduceCtorEq,fA,fB,fC,lA,lB,lC]
      refine Am9 (fl:=[c,c',c'']) rfl (by simp only [List.map_cons,List.map_nil,n_ev,bR,reduceCtorEq,bP,u1.live,u2.live,u3.live]; exact Ck0 u1.ok u2.ok u3.ok) fun hp13 hg13 hk13=>?_
      simp only [bR] at hg13 hk13
      have u1':=u1.keep fun j (hj:j < n0)=>hk13 j (by omega)
      have u2':=u2.keep fun j (hj:j < n0)=>hk13 j (by omega)
      have u3':=u3.keep fun j (hj:j < n0)=>hk13 j (by omega)
      have hrow:RL rCells hp13 (fun j=>j < n0∨j=nx11+1) (.ms (nx11+1) 0 3 1) [b.cells,x.cells,y.cells]:=(OL.ms (R:=rCells) (p:=Bl n0) (nx11+1) _ [b.cells,x.cells,y.cells] hg13 (Rows.three ⟨_,rfl,u1'⟩ ⟨_,rfl,u2'⟩ ⟨_,rfl,u3'⟩)).rl.mono fun j hj=>hj.imp id fun h=>by simpa [DV.refs] using h
      simp only [bSa,↓bSb]
      refine kws (Cb3 (k+16) _ _ _ _ ⟨rfl,rfl⟩ hrow.live fun hp14 hg14 hk14=>?_)
      have hrow14:=hrow.keep (hp':=hp14) fun j hj=>hk14 j (by rcases hj with h | h <;> omega)
      have p14:∀ j,j < nx11+1→hp14.get j=hp12.get j:=fun j hj=>by rw [hk14 j (by omega),hk13 j (by omega)]
      have p14':∀ j,j < es.nx+1+1+1+1+1+1→hp14.get j=hp6.get j:=fun j hj=>(p14 j (by omega)).trans (p12 j hj)
      simp only [bSa,↓bSb]
      refine Ck1 (k+12) n0 (es.nx+1+1+1) (es.nx+1+1+1+1) (es.nx+1+1+1+1+1) nx11 (nx11+1) (nx11+1+1) b.cells x.cells y.cells (by omega) ⟨by omega,by omega,by omega,by omega,by omega,by simp only []; omega⟩ hrow14 (by omega) ?_ ((p14' _ (by omega)).trans q4) ((p14' _ (by omega)).trans q5) ((p14' _ (by omega)).trans q6) ((p14 _ (by omega)).trans hg12) hg14 (by simp only [bR,reduceCtorEq]) (by simp only [bR,reduceCtorEq]) (by simp only [bR,reduceCtorEq]) (by simp only [bR,reduceCtorEq]) (by simp only [bR]) ?_ ?_
      ·intro e he
       rcases he with he | he | he
       ·exact ⟨Ag6 c1 e he,(hb.e e he).1,Ai3 c1 e he,(hb.e e he).2.1⟩
       ·exact ⟨Ag6 c2 e he,(hx.e e he).1,Ai3 c2 e he,(hx.e e he).2.1⟩
       ·exact ⟨Ag6 c3 e he,(hy.e e he).1,Ai3 c3 e he,(hy.e e he).2.1⟩
      ·intro hp15 nx15 z hnx15 hfr15 gx15 ga15 ge15 go15 hrl hX
       simp only [bR] at hnx15 hfr15
       have hE:Aa7 b x y=0:=by unfold Aa7; rw [if_neg hcc,if_neg (fun h=>h.elim (fun h=>by rw [show Ac4 b x=true from c4] at h; cases h) fun h=>by rw [show Ac4 b y=true from c5] at h; cases h),if_pos (show mrgX (mWalk b x y)=none from hX)]
       have p15:∀ j,j < es.nx+1+1+1→hp15.get j=hp6.get j:=fun j hj=>(hfr15 j (by omega) (by omega) (by omega) (by omega) (by omega)).trans (p14' j (by omega))
       have ha15:Al es.hp es.nx hp15 nx15:=⟨by omega,fun j hj=>(p15 j (by omega)).trans (hal6.same j hj)⟩
       obtain ⟨⟨fA0,fA1,_⟩,lA0,lA1,_,_⟩:=Aa0 ((p15 es.nx (by omega)).trans q1)
       simp only [bSa,↓bSb,reduceCtorEq,fA0,fA1,lA0,lA1,Ax6 go15]
       have hPn:∀ {p:Nat→Prop},(∀ j,p j→j < n0)→∀ j,p j→j < nx15:=fun h j hj=>by have:=h j hj; omega
       refine kws (Cb6 k nx15 _ _ _ 7 d a z ⟨b.dims,b.attrs,mrgC (mWalk b x y)⟩ (Nat.le_refl _) ((r1.ka hn ha15).bl (by omega)) ((r2.ka hn ha15).bl (by omega)) hrl (A60 c1 c2 c3 c4 c5 hc) (B56 c1 c2 c3 hb hx hy hc) ?_ fun hp16 nx16 d16 hal16 har16=>?_)
       ·have h3:=As5 (mWalk b x y)
        have h4:(mWalk b x y).length≤tot [b.cells,x.cells,y.cells]:=Ao6
        have h5:tot [b.cells,x.cells,y.cells]=b.cells.length+x.cells.length+y.cells.length:=by simp [tot]; omega
        show (mrgC (mWalk b x y)).length≤2 ^ 7
        omega
       have hle16:=hal16.le
       obtain ⟨dd,da,dcc,rfl,v1,v2,v3⟩:=har16
       have x0:extD hp16 (.tup [.agg [dd,da,dcc],iv 0]) 0=some (.agg [dd,da,dcc]):=A16 fun id hid=>by
        have:id∈dd.refs∨id∈da.refs∨id∈dcc.refs:=by simpa [DV.refs,DV.refsL] using hid
        rcases this with h | h | h
        ·exact (v1.refs id h).2
        ·exact (v2.refs id h).2
        ·exact (v3.refs id h).2
       have x1:extD hp16 (.tup [.agg [dd,da,dcc],iv 0]) 1=some (iv 0):=ext21
       have gx16:=(hal16.same _ (by omega)).trans gx15
       have ga16:=(hal16.same _ (by omega)).trans ga15
       have ge16:=(hal16.same _ (by omega)).trans ge15
       simp only [bSa,↓bSb,reduceCtorEq,x0,x1]
       refine Ac6 (n:=3) (id:=es.nx+1+1+1) (ds:=[dd,da,dcc]) (by simp only [bR,reduceCtorEq]) gx16 (by simp only [evt,bR,reduceCtorEq]; exact AR.live (x:=⟨b.dims,b.attrs,mrgC (mWalk b x y)⟩) v1 v2 v3) rfl rfl fun hp17 hg17 hk17=>?_
       simp only [bR] at hg17 hk17
       simp only [bSa,↓bSb]
       refine Ae2 (id:=es.nx+1+1+1+1+1) (off:=0) (v:=iv 0) (by simp only [bR,reduceCtorEq]) ((hk17 _ (by omega)).trans ge16) (by simp only [evt,bR]; rfl) ⟨rfl,rfl⟩ (by simp) fun hp18 hg18 hk18=>?_
       simp only [bR] at hg18 hk18
       have k18:∀ j,j < es.nx+1+1+1∨nx15≤j→hp18.get j=hp16.get j:=fun j hj=>by rw [hk18 j (by omega),hk17 j (by omega)]
       have gx18:hp18.get (es.nx+1+1+1)=_:=(hk18 _ (by omega)).trans hg17
       have ga18:hp18.get (es.nx+1+1+1+1)=_:=(hk18 _ (by omega)).trans ((hk17 _ (by omega)).trans ga16)
       have v1':=(v1.keep (hp':=hp18) fun j hj=>k18 j (.inr hj.1)).mono (q:=Bl nx16) fun j hj=>hj.2
       have v2':=(v2.keep (hp':=hp18) fun j hj=>k18 j (.inr hj.1)).mono (q:=Bl nx16) fun j hj=>hj.2
       have v3':=(v3.keep (hp':=hp18) fun j hj=>k18 j (.inr hj.1)).mono (q:=Bl nx16) fun j hj=>hj.2
       obtain ⟨_,_,_,_,lx18⟩:=Aa0 gx18
       simp only [bSa,↓bSb,reduceCtorEq,lx18,Ax6 hg18,Aa2 (n0:=nx16) (m:=5) gx18 (show es.nx+1+1+1 < nx16 by omega),Aa2 (n0:=nx16) (m:=5) hg18 (show es.nx+1+1+1+1+1 < nx16 by omega)]
       refine ⟨AR.rox (x:=⟨b.dims,b.attrs,mrgC (mWalk b x y)⟩) v1' v2' v3' (Nat.le_refl _),?_⟩
       refine Aa6 rfl (Ac6 (n:=3) (id:=es.nx+1+1+1) (ds:=[dd,da,dcc]) (by simp only [bR,reduceCtorEq]) gx18 (by simp only [evt,bR,reduceCtorEq]; exact AR.live (x:=⟨b.dims,b.attrs,mrgC (mWalk b x y)⟩) v1' v2' v3') rfl rfl fun hp19 hg19 hk19=>?_)
       simp only [bR] at hg19 hk19
       have ga19:=(hk19 (es.nx+1+1+1+1) (by omega)).trans ga18
       simp only [bSa,↓bSb,reduceCtorEq,Aa2 (n0:=nx16) (m:=5) ga19 (show es.nx+1+1+1+1 < nx16 by omega)]
       refine Aa6 rfl (Ae2 (id:=es.nx+1+1+1+1) (off:=0) (v:=nilS) (by simp only [bR,reduceCtorEq]) ga19 (by rfl) ⟨rfl,rfl⟩ (by simp) fun hp20 hg20 hk20=>?_)
       simp only [bR] at hg20 hk20
       have ge20:=(hk20 (es.nx+1+1+1+1+1) (by omega)).trans ((hk19 (es.nx+1+1+1+1+1) (by omega)).trans hg18)
       simp only [bSa,↓bSb,reduceCtorEq,Aa2 (n0:=nx16) (m:=5) ge20 (show es.nx+1+1+1+1+1 < nx16 by omega)]
       refine Aa6 rfl (Ae2 (id:=es.nx+1+1+1+1+1) (off:=0) (v:=iv 0) (by simp only [bR,reduceCtorEq]) ge20 (by simp only [evt,bR]; rfl) ⟨rfl,rfl⟩ (by simp) fun hp21 hg21 hk21=>?_)
       simp only [bR] at hg21 hk21
       simp only [bSa,↓bSb,reduceCtorEq]
       have hsz:∀ q∈[iv 0],Ab1 6 q q=true:=fun q hq=>by rw [List.mem_singleton.1 hq]; rfl
       have hA:Ad0 b x y=⟨b.dims,b.attrs,mrgC (mWalk b x y)⟩:=by unfold Ad0; rw [hE,if_pos rfl]
       have hP:Af1 b x y=[]:=by unfold Af1; rw [hE,if_neg (by decide)]
       refine ⟨Al9 (fun j hj=>?_) (Av2 _ _ _),?_⟩
       ·have hj:j=es.nx+1+1+1+1+1:=by simpa [DV.refs] using hj
        subst hj
        refine ⟨by omega,fun q hq'=>?_⟩
        simp only [List.mem_cons,List.not_mem_nil,or_false] at hq'
        rcases hq' with rfl | rfl | rfl
        ·exact .inl rfl
        ·exact .inr (.inr (by rw [if_pos rfl]; exact Ag3 ((hk19 _ (by omega)).trans hg18) (hk20 _ (by omega)) hsz))
        ·exact .inr (.inr (by rw [if_pos rfl]; exact Ag3 hg18 (hk19 _ (by omega)) hsz))
       ·have k21:∀ j,j < es.nx+1+1+1∨nx15≤j→hp21.get j=hp16.get j:=fun j hj=>by rw [hk21 j (by omega),hk20 j (by omega),hk19 j (by omega),k18 j hj]
        refine ⟨_,_,_,Ay4 (by simp only [bR,reduceCtorEq,bP]) ((hk21 _ (by omega)).trans ((hk20 _ (by omega)).trans hg19)) rfl,Ay5 (by simp only [bR,reduceCtorEq,bP]) ((hk21 _ (by omega)).trans hg20),Ay5 (by simp only [bR,reduceCtorEq,bP]) hg21,?_⟩
        rw [← hE]
        refine hK _ _ _ _ ⟨by omega,fun j hj=>?_⟩ ?_ ?_
        ·rw [k21 j (.inl (by omega)),hal16.same j (by omega),ha15.same j hj]
        ·rw [hA]
         have up:∀ j,Bw nx15 nx16 j→Bw es.nx (nx16+5) j:=fun j hj=>⟨by have:=hj.1; omega,by have:=hj.2; omega⟩
         exact ⟨dd,da,dcc,rfl,(v1.keep (hp':=hp21) fun j hj=>k21 j (.inr hj.1)).mono up,(v2.keep (hp':=hp21) fun j hj=>k21 j (.inr hj.1)).mono up,(v3.keep (hp':=hp21) fun j hj=>k21 j (.inr hj.1)).mono up⟩
        ·rw [hP]; exact .nil
      ·intro hp15 nx15 q p hnx15 hfr15 gx15 ga15 ge15 hrl hX
       simp only [bR] at hnx15 hfr15 hrl
       have hE:Aa7 b x y=19:=by unfold Aa7; rw [if_neg hcc,if_neg (fun h=>h.elim (fun h=>by rw [show Ac4 b x=true from c4] at h; cases h) fun h=>by rw [show Ac4 b y=true from c5] at h; cases h),if_neg (by rw [show mWalk b x y=walkL [b.cells,x.cells,y.cells] from rfl,hX]; simp)]
       simp only [bSa,↓bSb,reduceCtorEq]
       have hA:Ad0 b x y=noA:=by unfold Ad0; rw [hE,if_neg (by decide)]
       have hP:Af1 b x y=p:=by unfold Af1; rw [hE,if_pos rfl,show mrgX (mWalk b x y)=some p from hX]; rfl
       refine ⟨_,_,_,Ay4 (by simp only [bR,reduceCtorEq,bP]) gx15 rfl,Ay5 (by simp only [bR,reduceCtorEq,bP]) ga15,Ay5 (by simp only [bR,reduceCtorEq,bP]) ge15,?_⟩
       rw [← hE]
       refine hK _ _ _ _ ⟨by omega,fun j hj=>?_⟩ ?_ ?_
       ·rw [hfr15 j (by omega) (by omega) (by omega) (by omega) (by omega),p14' j (by omega),hal6.same j hj]
       ·rw [hA]; exact ⟨nilS,nilS,nilS,rfl,.nil,.nil,.nil⟩
       ·rw [hP]; exact hrl.mono fun j hj=>⟨by have:=hj.1; omega,hj.2⟩
   ·simp only [bSa,↓bSb,reduceCtorEq,show decide (¬ Aa1 y=0)=true by simp [c3]]
    refine Ak9 (cs:=[nilS,nilS,nilS]) rfl ?_
    simp only [bSa,↓bSb]
    refine Ac6 (n:=3) (id:=es.nx+1+1+1) (ds:=[nilS,nilS,nilS]) (by simp only [bR,reduceCtorEq]) ((k9 _ (by omega)).trans q4) (by simp only [evt,bR]; rfl) rfl rfl fun hA hgA hkA=>?_
    simp only [bR] at hgA hkA
    simp only [bSa,↓bSb]
    refine Ae2 (id:=es.nx+1+1+1+1) (off:=0) (v:=nilS) (by simp only [bR,reduceCtorEq]) ((hkA _ (by omega)).trans ((k9 _ (by omega)).trans q5)) (by rfl) ⟨rfl,rfl⟩ (by simp) fun hB hgB hkB=>?_
    simp only [bR] at hgB hkB
    simp only [bSa,↓bSb]
    refine Ae2 (id:=es.nx+1+1+1+1+1) (off:=0) (v:=iv 2) (by simp only [bR,reduceCtorEq]) ((hkB _ (by omega)).trans ((hkA _ (by omega)).trans ((k9 _ (by omega)).trans q6))) (by rfl) ⟨rfl,rfl⟩ (by simp) fun hC hgC hkC=>?_
    simp only [bR] at hgC hkC
    simp only [bSa,↓bSb,reduceCtorEq]
    exact stop 2 (hm2 (.inr c3)) (by decide) (by decide) ⟨by have:=ha9.le; exact this,fun j hj=>by rw [hkC j (by omega),hkB j (by omega),hkA j (by omega),ha9.same j hj]⟩ (by show es.nx+6≤nx9; omega) (by simp only [bR,reduceCtorEq]) (by simp only [bR,reduceCtorEq]) (by simp only [bR,reduceCtorEq]) ((hkC _ (by omega)).trans ((hkB _ (by omega)).trans hgA)) ((hkC _ (by omega)).trans hgB) hgC
  ·simp only [bSa,↓bSb,reduceCtorEq,show decide (¬ Aa1 x=0)=true by simp [c2]]
   refine Ak9 (cs:=[nilS,nilS,nilS]) rfl ?_
   simp only [bSa,↓bSb]
   refine Ac6 (n:=3) (id:=es.nx+1+1+1) (ds:=[nilS,nilS,nilS]) (by simp only [bR,reduceCtorEq]) ((k8 _ (by omega)).trans q4) (by simp only [evt,bR]; rfl) rfl rfl fun hA hgA hkA=>?_
   simp only [bR] at hgA hkA
   simp only [bSa,↓bSb]
   refine Ae2 (id:=es.nx+1+1+1+1) (off:=0) (v:=nilS) (by simp only [bR,reduceCtorEq]) ((hkA _ (by omega)).trans ((k8 _ (by omega)).trans q5)) (by rfl) ⟨rfl,rfl⟩ (by simp) fun hB hgB hkB=>?_
   simp only [bR] at hgB hkB
   simp only [bSa,↓bSb]
   refine Ae2 (id:=es.nx+1+1+1+1+1) (off:=0) (v:=iv 2) (by simp only [bR,reduceCtorEq]) ((hkB _ (by omega)).trans ((hkA _ (by omega)).trans ((k8 _ (by omega)).trans q6))) (by rfl) ⟨rfl,rfl⟩ (by simp) fun hC hgC hkC=>?_
   simp only [bR] at hgC hkC
   simp only [bSa,↓bSb,reduceCtorEq]
   exact stop 2 (hm2 (.inl (.inr c2))) (by decide) (by decide) ⟨by have:=ha8.le; exact this,fun j hj=>by rw [hkC j (by omega),hkB j (by omega),hkA j (by omega),ha8.same j hj]⟩ (by show es.nx+6≤nx8; omega) (by simp only [bR,reduceCtorEq]) (by simp only [bR,reduceCtorEq]) (by simp only [bR,reduceCtorEq]) ((hkC _ (by omega)).trans ((hkB _ (by omega)).trans hgA)) ((hkC _ (by omega)).trans hgB) hgC
 ·simp only [bSa,↓bSb,reduceCtorEq,show decide (¬ Aa1 b=0)=true by simp [c1]]
  refine Ak9 (cs:=[nilS,nilS,nilS]) rfl ?_
  simp only [bSa,↓bSb]
  refine Ac6 (n:=3) (id:=es.nx+1+1+1) (ds:=[nilS,nilS,nilS]) (by simp only [bR,reduceCtorEq]) ((k7 _ (by omega)).trans q4) (by simp only [evt,bR]; rfl) rfl rfl fun hA hgA hkA=>?_
  simp only [bR] at hgA hkA
  simp only [bSa,↓bSb]
  refine Ae2 (id:=es.nx+1+1+1+1) (off:=0) (v:=nilS) (by simp only [bR,reduceCtorEq]) ((hkA _ (by omega)).trans ((k7 _ (by omega)).trans q5)) (by rfl) ⟨rfl,rfl⟩ (by simp) fun hB hgB hkB=>?_
  simp only [bR] at hgB hkB
  simp only [bSa,↓bSb]
  refine Ae2 (id:=es.nx+1+1+1+1+1) (off:=0) (v:=iv 2) (by simp only [bR,reduceCtorEq]) ((hkB _ (by omega)).trans ((hkA _ (by omega)).trans ((k7 _ (by omega)).trans q6))) (by rfl) ⟨rfl,rfl⟩ (by simp) fun hC hgC hkC=>?_
  simp only [bR] at hgC hkC
  simp only [bSa,↓bSb,reduceCtorEq]
  exact stop 2 (hm2 (.inl (.inl c1))) (by decide) (by decide) ⟨by have:=ha7.le; exact this,fun j hj=>by rw [hkC j (by omega),hkB j (by omega),hkA j (by omega),ha7.same j hj]⟩ (by show es.nx+6≤nx7; omega) (by simp only [bR,reduceCtorEq]) (by simp only [bR,reduceCtorEq]) (by simp only [bR,reduceCtorEq]) ((hkC _ (by omega)).trans ((hkB _ (by omega)).trans hgA)) ((hkC _ (by omega)).trans hgB) hgC
end
end Go.DD

/- Contracts: the reference's Merged. Conditions: those that each theorem states. -/
namespace Go.DD
set_option linter.unusedSectionVars false
set_option linter.unusedVariables false
open Go Go.Proofs
def rWalk (b x y:PArr):List (List Int×List (List PVal)):=(Ah7 [b,x,y]).map fun p=>(p,[b.cells,x.cells,y.cells].map fun h=>Ab9 h p)
theorem Bf3 {b x y:PArr} (hb:Aa1 b=0) (hx:Aa1 x=0) (hy:Aa1 y=0):rWalk b x y=mWalk b x y:=by
 have hS:∀ h∈[b.cells,x.cells,y.cells],Srt h:=fun h hh=>by
  simp only [List.mem_cons,List.not_mem_nil,or_false] at hh
  rcases hh with rfl | rfl | rfl
  ·exact (Aa3 hb).1
  ·exact (Aa3 hx).1
  ·exact (Aa3 hy).1
 obtain ⟨w1,w2,w3⟩:=Am2 (n:=tot [b.cells,x.cells,y.cells]) hS (Nat.le_refl _)
 obtain ⟨d1,d2⟩:=Aw2 (A23 ([b,x,y].flatMap PArr.cells))
 have w2':∀ p,(∃ w∈mWalk b x y,w.1=p)↔∃ h∈[b.cells,x.cells,y.cells],∃ c∈h,c.pos=p:=w2
 have e:(mWalk b x y).map Prod.fst=Ah7 [b,x,y]:=by
  refine A82 (List.pairwise_map.2 w1) d1 fun q=>?_
  rw [show Ah7 [b,x,y]=dedF none (sortC ([b,x,y].flatMap PArr.cells)) from rfl,d2 q,List.mem_map,w2' q]
  constructor
  ·rintro ⟨h,hh,c,hc,h2⟩
   refine ⟨c,(Ai1 _ _).2 ?_,h2⟩
   simp only [List.mem_cons,List.not_mem_nil,or_false] at hh
   rcases hh with rfl | rfl | rfl <;> simp [hc]
  ·rintro ⟨c,hc,h2⟩
   have hc:=(Ai1 _ _).1 hc
   simp only [List.flatMap_cons,List.flatMap_nil,List.append_nil,List.mem_append] at hc
   rcases hc with hc | hc | hc
   ·exact ⟨b.cells,by simp,c,hc,h2⟩
   ·exact ⟨x.cells,by simp,c,hc,h2⟩
   ·exact ⟨y.cells,by simp,c,hc,h2⟩
 unfold rWalk
 rw [← e,List.map_map]
 conv=>rhs; rw [← List.map_id (mWalk b x y)]
 refine List.map_congr_left fun w hw=>?_
 obtain ⟨p,s⟩:=w
 have:=w3 (p,s) hw
 simp only at this
 simp only [Function.comp,id]
 rw [this]
section
variable (k n0:Nat) (hp:Tr DObj) (nx:Nat) (K:DV→Tr DObj→Nat→Prop)
end
end Go.DD

/- VersionDeltas returns true: as a contract. Conditions: none. -/
namespace Go.DD
set_option linter.unusedSectionVars false
set_option linter.unusedVariables false
open Go Go.Proofs
def dArr (x:PArr):DV:=.agg [.sl (x.dims.flatMap rDim.cells) x.dims.length,.sl (x.attrs.flatMap rAttr.cells) x.attrs.length,.sl (x.cells.flatMap rCell.cells) x.cells.length]
theorem Aw5 {x:PArr} {most:Nat} (h:fewA x most=true):x.cells.length≤most:=by
 unfold fewA fewC at h
 simp only [Bool.and_eq_true,decide_eq_true_eq] at h
 exact h.2.1
end Go.DD

/- VersionMerges returns true: as a contract. Conditions: none. -/
namespace Go.DD
set_option linter.unusedSectionVars false
set_option linter.unusedVariables false
open Go Go.Proofs
theorem Ck2:AOK noA:=⟨by decide,by decide,by decide,fun c h=>by cases h⟩
theorem Br4 {b x y:PArr} (ob:AOK b) (ox:AOK x) (oy:AOK y) (hl:b.cells.length+x.cells.length+y.cells.length≤128):AOK (Ad0 b x y):=by
 unfold Ad0
 split
 ·rename_i h
  unfold Aa7 at h
  split at h
  ·cases h
  ·rename_i h2
   have h1:Aa1 b=0:=Classical.byContradiction fun h3=>h2 (.inl (.inl h3))
   have h3:Aa1 x=0:=Classical.byContradiction fun h3=>h2 (.inl (.inr h3))
   have h4:Aa1 y=0:=Classical.byContradiction fun h3=>h2 (.inr h3)
   exact B56 h1 h3 h4 ob ox oy hl
 ·exact Ck2
theorem Bh6 {b x y:PArr} (ob:AOK b) (ox:AOK x) (oy:AOK y):(Af1 b x y).length < 900000:=by
 unfold Af1
 split
 ·cases h:mrgX (mWalk b x y) with
  | none=>simp
  | some p=>
   unfold mrgX at h
   cases h2:(mWalk b x y).find? (fun w=>(mrgV w.2).isNone) with
   | none=>rw [h2] at h; cases h
   | some w=>
    rw [h2] at h
    have hw:=List.mem_of_find?_eq_some h2
    obtain ⟨_,⟨l,hl,c,hc,h3⟩,_⟩:=A22 w hw
    have:w.1=p:=by simpa using h
    show p.length < 900000
    rw [← this,← h3]
    simp only [List.mem_cons,List.not_mem_nil,or_false] at hl
    rcases hl with rfl | rfl | rfl
    ·exact (ob.e c hc).1
    ·exact (ox.e c hc).1
    ·exact (oy.e c hc).1
 ·simp
theorem ext_m {hp:Tr DObj} {p q:Nat→Prop} {x1 x2 x3 p1:DV} {X:PArr} {l:List Int} {e:Int} (v1:RL rDim hp p x1 X.dims) (v2:RL rAttr hp p x2 X.attrs) (v3:RL rCell hp p x3 X.cells) (h:RL rInt hp q p1 l):extD hp (.tup [.agg [x1,x2,x3],p1,iv e]) 0=some (.agg [x1,x2,x3])∧extD hp (.tup [.agg [x1,x2,x3],p1,iv e]) 1=some p1∧extD hp (.tup [.agg [x1,x2,x3],p1,iv e]) 2=some (iv e):=by
 have hl:∀ id∈(DV.tup [.agg [x1,x2,x3],p1,iv e]).refs,(hp.get id).isSome=true:=fun id hid=>by
  have:id∈x1.refs∨id∈x2.refs∨id∈x3.refs∨id∈p1.refs:=by simpa [DV.refs,DV.refsL,iv] using hid
  rcases this with h1 | h1 | h1 | h1
  ·exact (v1.refs id h1).2
  ·exact (v2.refs id h1).2
  ·exact (v3.refs id h1).2
  ·exact (h.refs id h1).2
 exact ⟨A16 hl,A16 hl,A16 hl⟩
end Go.DD

/- Contracts: the program's equality of arrays. Conditions: those that each theorem states. -/
namespace Go.DD
set_option linter.unusedSectionVars false
set_option linter.unusedVariables false
open Go Go.Proofs
section
variable (k n0:Nat) (hp:Tr DObj) (nx:Nat) (K:DV→Tr DObj→Nat→Prop)
theorem Bx7 (p v q w:DV) (c e:PCell) (hn:n0≤nx) (h1:RL rInt hp (Bl n0) p c.pos) (h2:RL rVal hp (Bl n0) v c.vals) (h3:RL rInt hp (Bl n0) q e.pos) (h4:RL rVal hp (Bl n0) w e.vals) (hl:c.pos.length < 900000∧c.vals.length < 900000)
  (hK:∀ hp' nx',Al hp nx hp' nx'→K (bv (decide (c=e))) hp' nx'):KW (kN (k+2)) (.fn 79) [.agg [p,v],.agg [q,w]] hp nx K:=by
 refine kn_1 (Aa5 (by decide)) t79 (Nat.le_of_ble_eq_true rfl) fun es e1 e2 he=>?_
 have a0:rawE es (.t .o)=.agg [p,v]:=he 0 _ rfl
 have a1:rawE es (.t (.l .o))=.agg [q,w]:=he 1 _ rfl
 unfold r79
 subst e1 e2
 simp only [↓bSb]
 refine Ab6 (cs:=[p,v]) (by rw [evt,a0]; exact Af3 h1 h2) fun hp1 hg1 hk1=>?_
 simp only [bR] at hg1 hk1
 have hal1:Al es.hp es.nx hp1 (es.nx+1):=⟨by omega,fun j hj=>hk1 j (by omega)⟩
 simp only [bSa,↓bSb]
 refine Ab6 (cs:=[q,w]) (by simp only [evt,bR,reduceCtorEq,a1]; exact Af3 (h3.ka hn hal1) (h4.ka hn hal1)) fun hp2 hg2 hk2=>?_
 simp only [bR] at hg2 hk2
 have hal2:Al es.hp es.nx hp2 (es.nx+2):=⟨by omega,fun j hj=>by rw [hk2 j (by omega),hk1 j (by omega)]⟩
 have hgA:=(hk2 es.nx (by omega)).trans hg1
 obtain ⟨⟨f0,f1⟩,l0,l1,lA⟩:=Ag5 hgA
 obtain ⟨⟨g0,g1⟩,m0,m1,lB⟩:=Ag5 hg2
 simp only [bSa,↓bSb,reduceCtorEq,f0,l0,g0,m0]
 refine kws (Ci6 (k:=k) n0 _ _ _ p q _ _ (by omega) (h1.ka hn hal2) (h3.ka hn hal2) hl.1 fun nx6 hle6=>?_)
 by_cases c1:c.pos=e.pos
 ·simp only [bSa,↓bSb,reduceCtorEq,decide_eq_true c1,f1,l1,g1,m1]
  refine kws (Be2 (k:=k) n0 _ _ _ v w _ _ (by omega) (h2.ka hn hal2) (h4.ka hn hal2) hl.2 fun nx7 hle7=>?_)
  have hh:=hK _ _ (hal2.nx (show es.nx+2≤nx7 by omega))
  have:(decide (c=e))=decide (c.vals=e.vals):=by
   obtain ⟨cp,cv⟩:=c
   obtain ⟨ep,ev⟩:=e
   simp only at c1
   simp [c1]
  rw [this] at hh
  cases c2:decide (c.vals=e.vals) <;> rw [c2] at hh <;> simp only [bSa,↓bSb,bP,reduceCtorEq] <;> exact hh
 ·simp only [bSa,↓bSb,bP,reduceCtorEq,decide_eq_false c1]
  have hh:=hK _ _ (hal2.nx (show es.nx+2≤nx6 by omega))
  rw [decide_eq_false (fun h=>c1 (by rw [h]))] at hh
  exact hh
theorem Cb8 (d1 d2:DV) (l m:List PCell) (hn:n0≤nx) (h1:RL rCell hp (Bl n0) d1 l) (h2:RL rCell hp (Bl n0) d2 m) (hl:l.length < 900000) (hl2:∀ c∈l,c.pos.length < 900000∧c.vals.length < 900000)
  (hK:∀ hp' nx',Al hp nx hp' nx'→K (bv (decide (l=m))) hp' nx'):KW (kN (k+3)) (.fn 78) [d1,d2,.fn (.func 79) [.tup []]] hp nx K:=by
 refine kn_1 (Aa5 (by decide)) t78 (Nat.le_of_ble_eq_true rfl) fun es e1 e2 he=>?_
 have a0:rawE es (.t .o)=d1:=he 0 _ rfl
 have a1:rawE es (.t (.l .o))=d2:=he 1 _ rfl
 have a2:rawE es (.t (.r .o))=.fn (.func 79) [.tup []]:=he 2 _ rfl
 unfold r78
 subst e1 e2
 by_cases hlen:l.length=m.length
 ·simp only [bSa,↓bSb,reduceCtorEq,a0,a1,h1.len,h2.len,hlen]
  refine EW.up l.length (fun i es1=>Al es.hp es.nx es1.hp es1.nx∧rawE es1 (.t .o)=d1∧rawE es1 (.t (.l .o))=d2∧rawE es1 (.t (.r .o))=.fn (.func 79) [.tup []]∧rawE es1 (.t (.l (.l (.l (.l .o)))))=d1∧rawE es1 (.t (.r (.l (.l (.l .o)))))=iv l.length∧rawE es1 (.t (.l (.r (.l (.l .o)))))=iv (i:Nat)∧(l=m↔l.drop i=m.drop i)) ?_ ?_ (by omega)
  ·rintro i es1 hi ⟨g,b0,b1,b2,b15,b16,b17,hc⟩
   unfold l78_1
   have hle:=g.le
   have w1:=h1.ka hn g
   have w2:=h2.ka hn g
   by_cases h:i < l.length
   ·have h':i < m.length:=by omega
    obtain ⟨pA,vA,rpA,rvA,lA,_⟩:=cells_at w1 h
    obtain ⟨pB,vB,rpB,rvB,lB,_⟩:=cells_at w2 h'
    rw [Ao3 h h'] at hc
    simp only [bSa,↓bSb,reduceCtorEq,b15,b16,b17,h,Ab8 w1 h,lA]
    refine Ad3 fun hp6 hg6 hk6=>?_
    simp only [bR] at hg6 hk6
    have k6:∀ j,Bl n0 j→hp6.get j=es1.hp.get j:=fun j hj=>hk6 j (by have:j < n0:=hj; omega)
    simp only [bSa,↓bSb,reduceCtorEq]
    refine Ac6 (n:=2) (id:=es1.nx) (ds:=[pA,vA]) (by simp only [bR,reduceCtorEq]) hg6 (by simp only [evt,bR,reduceCtorEq]; exact Af3 (rpA.keep k6) (rvA.keep k6)) rfl rfl fun hp7 hg7 hk7=>?_
    simp only [bR] at hg7 hk7
    have k7:∀ j,Bl n0 j→hp7.get j=es1.hp.get j:=fun j hj=>(hk7 j (by have:j < n0:=hj; omega)).trans (k6 j hj)
    have w27:=w2.keep k7
    obtain ⟨pB',vB',rpB',rvB',lB',_⟩:=cells_at w27 h'
    simp only [bSa,↓bSb,reduceCtorEq,b1,Ab8 w27 h',lB']
    refine Ad3 fun hp8 hg8 hk8=>?_
    simp only [bR] at hg8 hk8
    have k8:∀ j,Bl n0 j→hp8.get j=hp7.get j:=fun j hj=>hk8 j (by have:j < n0:=hj; omega)
    simp only [bSa,↓bSb]
    refine Ac6 (n:=2) (id:=es1.nx+1) (ds:=[pB',vB']) (by simp only [bR]) hg8 (by simp only [evt,bR,reduceCtorEq]; exact Af3 (rpB'.keep k8) (rvB'.keep k8)) rfl rfl fun hp9 hg9 hk9=>?_
    simp only [bR] at hg9 hk9
    have k9:∀ j,j < es1.nx→hp9.get j=es1.hp.get j:=fun j hj=>by rw [hk9 j (by omega),hk8 j (by omega),hk7 j (by omega),hk6 j (by omega)]
    have k97:∀ j,Bl n0 j→hp9.get j=hp7.get j:=fun j hj=>(hk9 j (by have:j < n0:=hj; omega)).trans (k8 j hj)
    have gA:hp9.get es1.nx=_:=(hk9 es1.nx (by omega)).trans ((hk8 es1.nx (by omega)).trans hg7)
    obtain ⟨_,_,_,lT⟩:=Ag5 gA
    obtain ⟨_,_,_,lU⟩:=Ag5 hg9
    have g9:Al es.hp es.nx hp9 (es1.nx+1+1):=⟨by omega,fun j hj=>by rw [k9 j (by omega),g.same j hj]⟩
    simp only [bSa,↓bSb,reduceCtorEq,b2,lT,lU]
    refine sws_f (fs:=[]) (cs:=[]) (by rw [evt]; simp only [bR,reduceCtorEq]; exact Av4 _ _) ?_
    simp only [bR,reduceCtorEq,List.map_cons,List.map_nil,List.append_nil,List.nil_append]
    refine Bx7 k n0 _ _ _ pA vA pB' vB' l[i] m[i] (by omega) (rpA.keep fun j hj=>(k97 j hj).trans (k7 j hj)) (rvA.keep fun j hj=>(k97 j hj).trans (k7 j hj)) (rpB'.keep k97) (rvB'.keep k97) (hl2 _ (List.getElem_mem h)) fun hp10 nx10 hal10=>?_
    have hle10:=hal10.le
    by_cases c1:l[i]=m[i]
    ·simp only [bSa,↓bSb,reduceCtorEq,b0,b1,b2,b15,b16,b17,h,decide_eq_true c1,Ab7 (show i < _ by omega)]
     exact ⟨g9.trans hal10,by rw [hc]; simp [c1]⟩
    ·simp only [bSa,↓bSb,bP,reduceCtorEq,decide_eq_false c1]
     have hh:=hK _ _ (g9.trans hal10)
     rw [decide_eq_false (fun e=>c1 (hc.1 e).1)] at hh
     exact hh
   ·have:l=m:=hc.2 (by rw [List.drop_eq_nil_of_le (by omega),List.drop_eq_nil_of_le (by omega)])
    simp only [bSa,↓bSb,bP,reduceCtorEq,b16,b17,h]
    have hh:=hK _ _ g
    rw [decide_eq_true this] at hh
    exact hh
  ·simp only [bSa,reduceCtorEq,a0,a1,a2,hlen]
 ·simp only [bSa,↓bSb,bP,reduceCtorEq,a0,a1,h1.len,h2.len,hlen]
  have:¬ l=m:=fun e=>hlen (by rw [e])
  have hh:=hK _ _ (Al.ini _ (Nat.le_refl _))
  rw [decide_eq_false this] at hh
  exact hh
end
end Go.DD
