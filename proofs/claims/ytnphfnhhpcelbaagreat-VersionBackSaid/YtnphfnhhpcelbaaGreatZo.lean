/- A part. -/
import Derived.Test.YtnphfnhhpcelbaaGreatZl
import Derived.Test.YtnphfnhhpcelbaaGreatZn
set_option linter.unusedSectionVars false
set_option linter.unusedVariables false
namespace Go.DD
open Go Go.Proofs
section
variable (k n0:Nat) (hp:Tr DObj) (nx:Nat) (K:DV→Tr DObj→Nat→Prop)
end
end Go.DD

/- Contracts: results that lie in cells; an empty array; a copied cell. Conditions: those that each theorem states. -/
namespace Go.DD
open Go Go.Proofs
theorem Bi3 (es:ES) (t:Nat):resE es (t,none)=some (liveE es.hp (rawE es (.t (pth t)))):=rfl
theorem Cu0 {es:ES} {t m id off T:Nat} {cs:List DV} (h5:rawE es (.t (pth t))=.pt id off) (h6:es.hp.get id=some (.row T cs)) (h7:m≤(cs.drop off).length):resE es (t,some (some m))=some (.agg ((cs.drop off).take m)):=by
 show xLp (some m) (.t (pth t)) es=_
 unfold xLp
 rw [h5]
 show cRow es.hp id (fun _ cs=>partE (some m) (dropL off cs)) (none:Option DV)=_
 unfold cRow
 rw [gN_eq,h6]
 show partE (some m) (dropL off cs)=_
 rw [An1,Ae0]
 show (if m≤(cs.drop off).length then some (DV.agg ((cs.drop off).take m)) else none)=_
 rw [if_pos h7]
theorem Az7 {es:ES} {t m id T:Nat} {cs:List DV} (h5:rawE es (.t (pth t))=.pt id 0) (h6:es.hp.get id=some (.row T cs)) (h7:cs.length=m):resE es (t,some (some m))=some (.agg cs):=by
 have:=Cu0 (m:=m) h5 h6 (by rw [List.drop_zero]; omega)
 rw [List.drop_zero,List.take_of_length_le (by omega)] at this
 exact this
section
variable {tb:Nat→Option FE} {n:Nat} {rel:Nat→List DV→Option DV} {k f nt nx:Nat} {hp:Tr DObj} {ds:List DV} {c:CE} {K:DV→Tr DObj→Nat→Prop}
theorem kn_r1 {t:Nat} {k1:Option (Option Nat)} (hr:rel f ds=none) (hf:tb f=some ⟨c,[(t,k1)],nt⟩) (hn:ds.length≤nt)
  (h:∀ es,es.hp=hp→es.nx=nx→Ent es ds→EW c (callN tb n rel k) es fun e es=>(e=.normal∨e=.ret)∧∃ d,resE es (t,k1)=some d∧K d es.hp es.nx):KW (callN tb n rel (k+1)) (.fn f) ds hp nx K:=
 kn_fn hr hf hn fun es h1 h2 h3=>(h es h1 h2 h3).mono fun _ es ⟨h4,d,h5,h6⟩=>⟨h4,d,by
  unfold finE
  simp only [List.mapM_cons,List.mapM_nil,h5,Option.pure_def,Option.bind_eq_bind,Option.bind_some,resVE],h6⟩
theorem kn_r2 {t u:Nat} {k1 k2:Option (Option Nat)} (hr:rel f ds=none) (hf:tb f=some ⟨c,[(t,k1),(u,k2)],nt⟩) (hn:ds.length≤nt)
  (h:∀ es,es.hp=hp→es.nx=nx→Ent es ds→EW c (callN tb n rel k) es fun e es=>(e=.normal∨e=.ret)∧∃ d b,resE es (t,k1)=some d∧resE es (u,k2)=some b∧K (.tup [d,b]) es.hp es.nx):KW (callN tb n rel (k+1)) (.fn f) ds hp nx K:=
 kn_fn hr hf hn fun es h1 h2 h3=>(h es h1 h2 h3).mono fun _ es ⟨h4,d,b,h5,h6,h7⟩=>⟨h4,.tup [d,b],by
  unfold finE
  simp only [List.mapM_cons,List.mapM_nil,h5,h6,Option.pure_def,Option.bind_eq_bind,Option.bind_some,resVE],h7⟩
end
section
variable (k n0:Nat) (hp:Tr DObj) (nx:Nat) (K:DV→Tr DObj→Nat→Prop)
end
end Go.DD

/- Contracts: copied cells. Conditions: those that each theorem states. -/
namespace Go.DD
open Go Go.Proofs
section
variable (k n0:Nat) (hp:Tr DObj) (nx:Nat) (K:DV→Tr DObj→Nat→Prop)
end
end Go.DD

/- Contracts: cells compared by a key. Conditions: those that each theorem states. -/
namespace Go.DD
open Go Go.Proofs
section
variable (k n0:Nat) (hp:Tr DObj) (nx:Nat) (K:DV→Tr DObj→Nat→Prop)
theorem Cc6 (p v:DV) (c:PCell) (hn:n0≤nx) (h1:RL rInt hp (Bl n0) p c.pos) (h2:RL rVal hp (Bl n0) v c.vals) (hK:∀ hp' nx',Al hp nx hp' nx'→K p hp' nx'):KW (kN (k+1)) (.fn 129) [.agg [p,v]] hp nx K:=by
 refine kn_1 (Aa3 (by decide)) t129 (Nat.le_of_ble_eq_true rfl) fun es e1 e2 he=>?_
 have a0:rawE es (.t .o)=.agg [p,v]:=he 0 _ rfl
 unfold r129
 subst e1 e2
 simp only [↓bSb]
 refine Ac1 (cs:=[p,v]) (by rw [evt,a0]; exact Aa4 h1 h2) fun hp1 hg1 hk1=>?_
 simp only [bR] at hg1 hk1
 have hal1:Al es.hp es.nx hp1 (es.nx+1):=⟨by omega,fun j hj=>hk1 j (by omega)⟩
 obtain ⟨⟨f0,f1⟩,l0,l1,_⟩:=Ae3 hg1
 simp only [bSa,↓bSb,bP,reduceCtorEq,f0,l0,(h1.ka hn hal1).live]
 exact hK _ _ hal1
def KeyB (hp:Tr DObj) (n0 bx:Nat):Prop:=bx < n0∧∃ T,hp.get bx=some (.row T [.fn (.func 129) [.tup []]])
theorem At9 (p v q w:DV) (c e:PCell) (bx:Nat) (hn:n0≤nx) (hb:KeyB hp n0 bx) (h1:RL rInt hp (Bl n0) p c.pos) (h2:RL rVal hp (Bl n0) v c.vals) (h3:RL rInt hp (Bl n0) q e.pos) (h4:RL rVal hp (Bl n0) w e.vals) (hl:c.pos.length < 900000)
  (hK:∀ hp' nx',Al hp nx hp' nx'→K (iv (cmpL c.pos e.pos)) hp' nx'):KW (kN (k+5)) (.fn 166) [.agg [p,v],.agg [q,w],.pt bx 0] hp nx K:=by
 refine kn_1 (Aa3 (by decide)) t166 (Nat.le_of_ble_eq_true rfl) fun es e1 e2 he=>?_
 have a0:rawE es (.t .o)=.agg [p,v]:=he 0 _ rfl
 have a1:rawE es (.t (.l .o))=.agg [q,w]:=he 1 _ rfl
 have a2:rawE es (.t (.r .o))=.pt bx 0:=he 2 _ rfl
 unfold r166
 subst e1 e2
 obtain ⟨hbn,T,hb⟩:=hb
 simp only [↓bSb]
 refine Ac1 (cs:=[p,v]) (by rw [evt,a0]; exact Aa4 h1 h2) fun hp1 hg1 hk1=>?_
 simp only [bR] at hg1 hk1
 have hal1:Al es.hp es.nx hp1 (es.nx+1):=⟨by omega,fun j hj=>hk1 j (by omega)⟩
 simp only [bSa,↓bSb]
 refine Ac1 (cs:=[q,w]) (by simp only [evt,bR,reduceCtorEq,a1]; exact Aa4 (h3.ka hn hal1) (h4.ka hn hal1)) fun hp2 hg2 hk2=>?_
 simp only [bR] at hg2 hk2
 have hal2:Al es.hp es.nx hp2 (es.nx+2):=⟨by omega,fun j hj=>by rw [hk2 j (by omega),hk1 j (by omega)]⟩
 have hgA:=(hk2 es.nx (by omega)).trans hg1
 have hb2:=(hal2.same bx (by omega)).trans hb
 obtain ⟨_,_,_,lA⟩:=Ae3 hgA
 have r1:=h1.ka hn hal2
 have r2:=h2.ka hn hal2
 have r3:=h3.ka hn hal2
 have r4:=h4.ka hn hal2
 have rof:∀ (H:Tr DObj) an,Aa6 (.fn (.func 129) [.tup []]) (fun id=>okRef (es.nx+1+1) 8 an H id):=fun H an id hid=>by simp [DV.refs,DV.refsL] at hid
 simp only [bSa,↓bSb,reduceCtorEq,a2,Af4 hb2,lA,Aa1 (n0:=es.nx+1+1) (m:=8) hb2 (show bx < es.nx+1+1 by omega),Aa1 (n0:=es.nx+1+1) (m:=8) hgA (show es.nx < es.nx+1+1 by omega),iff_true_intro (rof _ _)]
 refine ⟨ro_pr (r1.rox (by omega)) (r2.rox (by omega)),?_⟩
 refine Aa0 rfl (Af0 (fs:=[]) (cs:=[]) (by rw [evt]; simp only [bR,reduceCtorEq]; exact Aw5 _ _) ?_)
 simp only [bR,List.map_cons,List.map_nil,List.append_nil,List.nil_append]
 refine Cc6 (k+3) n0 _ _ _ p v c (by omega) r1 r2 fun hp3 nx3 hal3=>?_
 have hle3:=hal3.le
 have hgB3:=(hal3.same (es.nx+1) (by omega)).trans hg2
 have hgA3:=(hal3.same es.nx (by omega)).trans hgA
 have hb3:=(hal3.same bx (by omega)).trans hb2
 obtain ⟨_,_,_,lB⟩:=Ae3 hgB3
 have x1:=r1.ka (nx:=es.nx+1+1+8) (by omega) hal3
 have x3:=r3.ka (nx:=es.nx+1+1+8) (by omega) hal3
 have x4:=r4.ka (nx:=es.nx+1+1+8) (by omega) hal3
 simp only [bSa,↓bSb,reduceCtorEq,a2,hle3,Af4 hb3,lB,Aa1 (n0:=es.nx+1+1) (m:=8) hb3 (show bx < es.nx+1+1 by omega),Aa1 (n0:=es.nx+1+1) (m:=8) hgB3 (show es.nx+1 < es.nx+1+1 by omega),iff_true_intro (rof _ _)]
 refine ⟨ro_pr (x3.rox (by omega)) (x4.rox (by omega)),?_⟩
 refine Aa0 rfl (Af0 (fs:=[]) (cs:=[]) (by rw [evt]; simp only [bR,reduceCtorEq]; exact Aw5 _ _) ?_)
 simp only [bR,List.map_cons,List.map_nil,List.append_nil,List.nil_append]
 refine Cc6 (k+3) n0 _ _ _ q w e (by omega) x3 x4 fun hp4 nx4 hal4=>?_
 have hle4:=hal4.le
 have y1:=x1.ka (by omega) hal4
 have y3:=x3.ka (by omega) hal4
 have hgB4:=(hal4.same (es.nx+1) (by omega)).trans hgB3
 have hb4:=(hal4.same bx (by omega)).trans hb3
 have hal24:Al es.hp es.nx hp4 nx4:=⟨by omega,fun j hj=>by rw [hal4.same j (by omega),hal3.same j (by omega),hal2.same j hj]⟩
 simp only [bSa,↓bSb,reduceCtorEq,hle4,y1.rox (show n0≤es.nx+1+1 by omega),y3.rox (show n0≤es.nx+1+1 by omega)]
 refine Aa0 rfl (Ad1 ?_)
 simp only [bR,reduceCtorEq,List.map_cons,List.map_nil]
 refine Ad8 k n0 _ _ _ p q c.pos e.pos (by omega) y1 y3 hl ?_
 simp only [bSa,↓bSb,bP,reduceCtorEq,Nat.le_refl]
 have hszB:∀ d∈[q,w],Ab5 6 d d=true:=fun d hd=>by
  simp only [List.mem_cons,List.not_mem_nil,or_false] at hd
  rcases hd with rfl | rfl
  ·exact h3.same (by decide)
  ·exact h4.same (by decide)
 have hszF:∀ d∈[DV.fn (.func 129) [.tup []]],Ab5 6 d d=true:=fun d hd=>by rw [List.mem_singleton.1 hd]; rfl
 have hps:∀ {id:Nat} {o:DObj},hp2.get id=some o→hp3.get id=some o→hp4.get id=some o→∀ q∈[(⟨6,[2,5,0,1,3,4],hp4,hp4⟩:Past),⟨5,[3,4,2,0,1],hp3,hp4⟩,⟨2,[0,1],hp2,hp3⟩],q.a.get id=some o∧q.b.get id=some o:=fun h2 h3 h4 q hq=>by
  simp only [List.mem_cons,List.not_mem_nil,or_false] at hq
  rcases hq with rfl | rfl | rfl
  ·exact ⟨h4,h4⟩
  ·exact ⟨h3,h4⟩
  ·exact ⟨h2,h3⟩
 exact ⟨Am4 (fun j hj=>by simpa [DV.refs] using hj) (by omega) (hps hg2 hgB3 hgB4) hszB (Am4 (fun j hj=>by simpa [DV.refs] using hj) (by omega) (hps hb2 hb3 hb4) hszF rfl),hK _ _ hal24⟩
end
end Go.DD

/- Contracts: sorting of cells that are sorted changes nothing: insertion. Conditions: those that each theorem states. -/
namespace Go.DD
open Go Go.Proofs
def cmpV (bx:Nat):DV:=.fn (.func 166) [.tup [],.pt bx 0]
section
variable (k n0:Nat) (hp:Tr DObj) (nx:Nat) (K:DV→Tr DObj→Nat→Prop)
theorem Bi4 (d:DV) (l:List PCell) (a b bx:Nat) (hn:n0≤nx) (hb:KeyB hp n0 bx) (h1:RL rCell hp (Bl n0) d l) (hs:SortC l) (hab0:a≤l.length) (hbl:b≤l.length) (hl:l.length < 900000) (hpos:∀ c∈l,c.pos.length < 900000)
  (hK:∀ hp' nx',Al hp nx hp' nx'→K (.tup []) hp' nx'):KW (kN (k+6)) (.fn 211) [d,iv (a:Nat),iv (b:Nat),cmpV bx] hp nx K:=by
 refine kn_0 (Aa3 (by decide)) t211 (Nat.le_of_ble_eq_true rfl) fun es e1 e2 he=>?_
 have a0:rawE es (.t .o)=d:=he 0 _ rfl
 have a1:rawE es (.t (.l .o))=iv (a:Nat):=he 1 _ rfl
 have a2:rawE es (.t (.r .o))=iv (b:Nat):=he 2 _ rfl
 have a3:rawE es (.t (.l (.l .o)))=cmpV bx:=he 3 _ rfl
 unfold r211
 subst e1 e2
 by_cases hab:a+1 < b
 ·have ha1:binD .add (.v (.int .i64 (a:Int))) (.v (.int .i64 1))=some (.v (.int .i64 ((a+1:Nat):Int))):=Aa2 (show a < _ by omega)
  simp only [bSa,↓bSb,a1,ha1]
  refine EW.up (b - (a+1)) (fun t es1=>Al es.hp es.nx es1.hp es1.nx∧rawE es1 (.t .o)=d∧rawE es1 (.t (.l .o))=iv (a:Nat)∧rawE es1 (.t (.r .o))=iv (b:Nat)∧rawE es1 (.t (.l (.l .o)))=cmpV bx∧rawE es1 (.t (.r (.l (.l .o))))=iv ((a+1+t:Nat))) ?_ ?_ (by omega)
  ·rintro t es1 ht ⟨g,b0,b1,b2,b3,b8⟩
   unfold Bu1
   have hle:=g.le
   have w1:=h1.ka hn g
   obtain ⟨hbn,T,hbg⟩:=hb
   have hb':=(g.same bx (by omega)).trans hbg
   by_cases h:a+1+t < b
   ·simp only [bSa,↓bSb,reduceCtorEq,b2,b8,h]
    refine EW.l (I:=fun _ es2=>es2.hp=es1.hp∧es2.nx=es1.nx∧rawE es2 (.t .o)=d∧rawE es2 (.t (.l .o))=iv (a:Nat)∧rawE es2 (.t (.r .o))=iv (b:Nat)∧rawE es2 (.t (.l (.l .o)))=cmpV bx∧rawE es2 (.t (.r (.l (.l .o))))=iv ((a+1+t:Nat))∧rawE es2 (.t (.l (.r (.l .o))))=iv ((a+1+t:Nat))) ?_ 0 1000000 _ ?_ (by omega)
    ·rintro n es2 ⟨q1,q2,x0,x1,x2,x3,x8,x9⟩
     unfold Cc1
     rw [← q1] at w1 hb'
     have hi:a+1+t < l.length:=by omega
     have hi':a+t < l.length:=by omega
     obtain ⟨pA,vA,rpA,rvA,ldA,_⟩:=cells_at w1 hi
     obtain ⟨pB,vB,rpB,rvB,ldB,_⟩:=cells_at w1 hi'
     have hsub:binD .sub (.v (.int .i64 ((a+1+t:Nat):Int))) (.v (.int .i64 1))=some (.v (.int .i64 ((a+t:Nat):Int))):=by rw [b_sub,wrap_in (by omega)]; congr 3; omega
     have hlt:=hs (a+t) (a+1+t) (by omega) hi
     have hgt:¬ cmpL l[a+1+t].pos l[a+t].pos < 0:=by rw [Ah0]; omega
     have hle2:n0≤es2.nx:=by omega
     have rov:∀ an,Aa6 (cmpV bx) (fun id=>okRef es2.nx 17 an es2.hp id):=fun an=>(ro_fn _ _ _ _).2 (Aa1 hb' (by omega))
     simp only [bSa,↓bSb,reduceCtorEq,x0,x1,x3,x9,show a < a+1+t by omega,hsub,Ab8 w1 hi,Ab8 w1 hi',ldA,ldB,w1.rox hle2,Ai0 w1 hle2,iff_true_intro (rov _)]
     refine ⟨⟨ro_pr (rpA.rox hle2) (rvA.rox hle2),ro_pr (rpB.rox hle2) (rvB.rox hle2)⟩,?_⟩
     refine Aa0 rfl (Af0 (f:=166) (fs:=[]) (cs:=[.pt bx 0]) (by rw [evt]; simp only [bR,reduceCtorEq]; exact At6 hb') ?_)
     simp only [bR,reduceCtorEq,List.map_cons,List.map_nil,List.nil_append,List.cons_append]
     refine At9 k n0 _ _ _ pA vA pB vB l[a+1+t] l[a+t] bx (by omega) ⟨hbn,T,hb'⟩ rpA rvA rpB rvB (hpos _ (List.getElem_mem hi)) fun hp3 nx3 hal3=>?_
     have hle3:=hal3.le
     have g3:Al es.hp es.nx hp3 nx3:=⟨by omega,fun j hj=>by rw [hal3.same j (by omega),q1,g.same j hj]⟩
     simp only [bSa,↓bSb,reduceCtorEq,x0,x1,x2,x3,x8,hgt,hle3,Aa2 (show a+1+t < _ by omega)]
     exact ⟨by omega,g3,rfl⟩
    ·simp only [bSa,reduceCtorEq,b0,b1,b2,b3,b8]
   ·simp only [bSa,↓bSb,reduceCtorEq,b2,b8,h]
    exact hK _ _ g
  ·simp only [bSa,reduceCtorEq,a0,a1,a2,a3]
 ·have ha1:binD .add (.v (.int .i64 (a:Int))) (.v (.int .i64 1))=some (.v (.int .i64 ((a+1:Nat):Int))):=Aa2 (show a < _ by omega)
  simp only [bSa,↓bSb,a1,ha1]
  refine EW.l (I:=fun _ es1=>es1.hp=es.hp∧es1.nx=es.nx∧rawE es1 (.t (.r .o))=iv (b:Nat)∧rawE es1 (.t (.r (.l (.l .o))))=iv ((a+1:Nat))) ?_ 0 1000000 _ ?_ (by omega)
  ·rintro n es1 ⟨q1,q2,b2,b8⟩
   unfold Bu1
   simp only [bSa,↓bSb,reduceCtorEq,b2,b8,hab]
   rw [q1,q2]
   exact hK _ _ (Al.refl _ _)
  ·simp only [bSa,reduceCtorEq,a2]
end
end Go.DD

/- Contracts: sorting of cells that are sorted changes nothing: merging in place. Conditions: those that each theorem states. -/
namespace Go.DD
open Go Go.Proofs
theorem cvi_u {a:Nat} (h:a < 18446744073709551616):cviE .u64 (.v (.int .i64 (a:Int)))=some (.v (.int .u64 (a:Int))):=by
 rw [cvi_i,IntWalk.u64_in _ (by omega)]
theorem cvi_s {a:Nat} (h:a < 9223372036854775808):cviE .i64 (.v (.int .u64 (a:Int)))=some (.v (.int .i64 (a:Int))):=by
 rw [cvi_i,wrap_in (by omega)]
theorem A84 {a:Nat} : binD .shr (.v (.int .u64 (a:Int))) (.v (.int .u64 1))=some (.v (.int .u64 ((a / 2:Nat):Int))):=by
 have e:shI .shr .u64 (a:Int) (1:Int)=some (.int .u64 ((a / 2:Nat):Int)):=by
  unfold shI
  rw [if_neg (by decide)]
  simp only [IntKind.bits]
  have h1:min (Int.toNat 1) 64=1:=by decide
  rw [h1]
  have:(a:Int).fdiv (2 ^ 1)=((a / 2:Nat):Int):=by
   rw [Int.fdiv_eq_ediv_of_nonneg _ (by decide)]
   simp
  rw [this]
 simp [binD,binV,isSh,e]
theorem Ax2 {l:List PCell} (hs:SortC l) {i j:Nat} (hj:j < l.length) (h:i≤j):¬ cmpL (l[j]).pos (l[i]'(by omega)).pos < 0:=by
 by_cases e:i=j
 ·subst e; rw [Ac2]; decide
 ·have:=hs i j (by omega) hj
  rw [Ah0]; omega
section
variable (k n0:Nat) (hp:Tr DObj) (nx:Nat) (K:DV→Tr DObj→Nat→Prop)
theorem Cj7 (d:DV) (l:List PCell) (a b bx:Nat) (hn:n0≤nx) (hb:KeyB hp n0 bx) (h1:RL rCell hp (Bl n0) d l) (hs:SortC l) (hab:a+1 < b) (hbl:b≤l.length) (hl:l.length < 900000) (hpos:∀ c∈l,c.pos.length < 900000)
  (hK:∀ hp' nx',Al hp nx hp' nx'→K (.tup []) hp' nx'):KW (kN (k+6)) (.fn 212) [d,iv (a:Nat),iv ((a+1:Nat)),iv (b:Nat),cmpV bx] hp nx K:=by
 refine kn_0 (Aa3 (by decide)) t212 (Nat.le_of_ble_eq_true rfl) fun es e1 e2 he=>?_
 have a0:rawE es (.t .o)=d:=he 0 _ rfl
 have a1:rawE es (.t (.l .o))=iv (a:Nat):=he 1 _ rfl
 have a2:rawE es (.t (.r .o))=iv ((a+1:Nat)):=he 2 _ rfl
 have a3:rawE es (.t (.l (.l .o)))=iv (b:Nat):=he 3 _ rfl
 have a4:rawE es (.t (.r (.l .o)))=cmpV bx:=he 4 _ rfl
 unfold r212
 subst e1 e2
 have hsub:binD .sub (.v (.int .i64 ((a+1:Nat):Int))) (.v (.int .i64 (a:Int)))=some (.v (.int .i64 1)):=by rw [b_sub,wrap_in (by omega)]; congr 3; omega
 simp only [bSa,↓bSb,reduceCtorEq,a1,a2,a3,hsub]
 refine EW.l (I:=fun j es1=>a+1≤j∧j≤b∧Al es.hp es.nx es1.hp es1.nx∧rawE es1 (.t .o)=d∧rawE es1 (.t (.l .o))=iv (a:Nat)∧rawE es1 (.t (.r .o))=iv ((a+1:Nat))∧rawE es1 (.t (.r (.l .o)))=cmpV bx∧rawE es1 (.t (.r (.r (.l .o))))=iv ((a+1:Nat))∧rawE es1 (.t (.l (.l (.r .o))))=iv (j:Nat)) ?_ b 1000000 _ ?_ (by omega)
 ·rintro j es1 ⟨hj1,hj2,g,b0,b1,b2,b4,b10,b11⟩
  unfold Cc2
  have hle:=g.le
  have w1:=h1.ka hn g
  obtain ⟨hbn,T,hbg⟩:=hb
  have hb':=(g.same bx (by omega)).trans hbg
  by_cases h:a+1 < j
  ·have hadd:binD .add (.v (.int .i64 ((a+1:Nat):Int))) (.v (.int .i64 (j:Int)))=some (.v (.int .i64 ((a+1+j:Nat):Int))):=Ae1 (by omega)
   have hi:(a+1+j) / 2 < l.length:=by omega
   have hi':a < l.length:=by omega
   obtain ⟨pA,vA,rpA,rvA,ldA,_⟩:=cells_at w1 hi
   obtain ⟨pB,vB,rpB,rvB,ldB,_⟩:=cells_at w1 hi'
   have hge:=Ax2 hs hi (show a≤(a+1+j) / 2 by omega)
   have hle2:n0≤es1.nx:=by omega
   have rov:∀ an,Aa6 (cmpV bx) (fun id=>okRef es1.nx 11 an es1.hp id):=fun an=>(ro_fn _ _ _ _).2 (Aa1 hb' (by omega))
   simp only [bSa,↓bSb,bP,reduceCtorEq,b0,b1,b4,b10,b11,h,hadd,cvi_u (show a+1+j < _ by omega),A84,cvi_s (show (a+1+j) / 2 < _ by omega),Ab8 w1 hi,Ab8 w1 hi',ldA,ldB,w1.rox hle2,Ai0 w1 hle2,iff_true_intro (rov _)]
   refine ⟨⟨ro_pr (rpA.rox hle2) (rvA.rox hle2),ro_pr (rpB.rox hle2) (rvB.rox hle2)⟩,?_⟩
   refine Aa0 rfl (Af0 (f:=166) (fs:=[]) (cs:=[.pt bx 0]) (by rw [evt]; simp only [bR,reduceCtorEq]; exact At6 hb') ?_)
   simp only [bR,reduceCtorEq,List.map_cons,List.map_nil,List.nil_append,List.cons_append]
   refine At9 k n0 _ _ _ pA vA pB vB l[(a+1+j) / 2] l[a] bx (by omega) ⟨hbn,T,hb'⟩ rpA rvA rpB rvB (hpos _ (List.getElem_mem hi)) fun hp3 nx3 hal3=>?_
   have hle3:=hal3.le
   have g3:Al es.hp es.nx hp3 nx3:=⟨by omega,fun j hj=>by rw [hal3.same j (by omega),g.same j hj]⟩
   simp only [bSa,↓bSb,reduceCtorEq,b0,b1,b2,b4,b10,hge,hle3]
   exact ⟨(a+1+j) / 2,by omega,by omega,by omega,g3,rfl⟩
  ·simp only [bSa,↓bSb,reduceCtorEq,b1,b10,b11,h]
   have hs1:binD .sub (.v (.int .i64 ((a+1:Nat):Int))) (.v (.int .i64 1))=some (.v (.int .i64 (a:Int))):=by rw [b_sub,wrap_in (by omega)]; congr 3; omega
   refine EW.l (I:=fun _ es2=>es2.hp=es1.hp∧es2.nx=es1.nx∧rawE es2 (.t (.r (.r (.l .o))))=iv ((a+1:Nat))∧rawE es2 (.t (.l (.r (.r .o))))=iv (a:Nat)) ?_ 0 1000000 _ ?_ (by omega)
   ·rintro n es2 ⟨q1,q2,x10,x13⟩
    unfold Cc3
    simp only [bSa,↓bSb,reduceCtorEq,x10,x13,hs1,Nat.lt_irrefl]
    rw [q1,q2]
    exact hK _ _ g
   ·simp only [bSa,reduceCtorEq,b10]
 ·simp only [bSa,reduceCtorEq,a0,a1,a2,a4]
  omega
theorem Cj8 (d:DV) (l:List PCell) (a m bx:Nat) (hn:n0≤nx) (hb:KeyB hp n0 bx) (h1:RL rCell hp (Bl n0) d l) (hs:SortC l) (ham:a+1 < m) (hbl:m+1≤l.length) (hl:l.length < 900000) (hpos:∀ c∈l,c.pos.length < 900000)
  (hK:∀ hp' nx',Al hp nx hp' nx'→K (.tup []) hp' nx'):KW (kN (k+6)) (.fn 212) [d,iv (a:Nat),iv (m:Nat),iv ((m+1:Nat)),cmpV bx] hp nx K:=by
 refine kn_0 (Aa3 (by decide)) t212 (Nat.le_of_ble_eq_true rfl) fun es e1 e2 he=>?_
 have a0:rawE es (.t .o)=d:=he 0 _ rfl
 have a1:rawE es (.t (.l .o))=iv (a:Nat):=he 1 _ rfl
 have a2:rawE es (.t (.r .o))=iv (m:Nat):=he 2 _ rfl
 have a3:rawE es (.t (.l (.l .o)))=iv ((m+1:Nat)):=he 3 _ rfl
 have a4:rawE es (.t (.r (.l .o)))=cmpV bx:=he 4 _ rfl
 unfold r212
 subst e1 e2
 have hsub:binD .sub (.v (.int .i64 ((m+1:Nat):Int))) (.v (.int .i64 (m:Int)))=some (.v (.int .i64 1)):=by rw [b_sub,wrap_in (by omega)]; congr 3; omega
 have hsub0:binD .sub (.v (.int .i64 (m:Int))) (.v (.int .i64 (a:Int)))=some (.v (.int .i64 ((m - a:Nat):Int))):=by rw [b_sub,wrap_in (by omega)]; congr 3; omega
 simp only [bSa,↓bSb,reduceCtorEq,a1,a2,a3,hsub,hsub0,show ¬ ((m - a:Nat):Int)=1 by omega]
 refine EW.l (I:=fun n es1=>∃ i,n=m - i∧a≤i∧i≤m∧Al es.hp es.nx es1.hp es1.nx∧rawE es1 (.t .o)=d∧rawE es1 (.t (.r .o))=iv (m:Nat)∧rawE es1 (.t (.r (.l .o)))=cmpV bx∧rawE es1 (.t (.r (.r (.r .o))))=iv (i:Nat)∧rawE es1 (.t (.l (.l (.l (.l .o)))))=iv (m:Nat)) ?_ (m - a) 1000000 _ ?_ (by omega)
 ·rintro n es1 ⟨i,hni,hi1,hi2,g,b0,b2,b4,b14,b15⟩
  unfold Cc4
  have hle:=g.le
  have w1:=h1.ka hn g
  obtain ⟨hbn,T,hbg⟩:=hb
  have hb':=(g.same bx (by omega)).trans hbg
  by_cases h:i < m
  ·have hadd:binD .add (.v (.int .i64 (i:Int))) (.v (.int .i64 (m:Int)))=some (.v (.int .i64 ((i+m:Nat):Int))):=Ae1 (by omega)
   have hi:(i+m) / 2 < l.length:=by omega
   have hi':m < l.length:=by omega
   obtain ⟨pA,vA,rpA,rvA,ldA,_⟩:=cells_at w1 hi
   obtain ⟨pB,vB,rpB,rvB,ldB,_⟩:=cells_at w1 hi'
   have hge:=Ax2 hs hi' (show (i+m) / 2≤m by omega)
   have hle2:n0≤es1.nx:=by omega
   have rov:∀ an,Aa6 (cmpV bx) (fun id=>okRef es1.nx 12 an es1.hp id):=fun an=>(ro_fn _ _ _ _).2 (Aa1 hb' (by omega))
   simp only [bSa,↓bSb,bP,reduceCtorEq,b0,b2,b4,b14,b15,h,hadd,cvi_u (show i+m < _ by omega),A84,cvi_s (show (i+m) / 2 < _ by omega),Ab8 w1 hi,Ab8 w1 hi',ldA,ldB,w1.rox hle2,Ai0 w1 hle2,iff_true_intro (rov _)]
   refine ⟨⟨ro_pr (rpB.rox hle2) (rvB.rox hle2),ro_pr (rpA.rox hle2) (rvA.rox hle2)⟩,?_⟩
   refine Aa0 rfl (Af0 (f:=166) (fs:=[]) (cs:=[.pt bx 0]) (by rw [evt]; simp only [bR,reduceCtorEq]; exact At6 hb') ?_)
   simp only [bR,reduceCtorEq,List.map_cons,List.map_nil,List.nil_append,List.cons_append]
   refine At9 k n0 _ _ _ pB vB pA vA l[m] l[(i+m) / 2] bx (by omega) ⟨hbn,T,hb'⟩ rpB rvB rpA rvA (hpos _ (List.getElem_mem hi')) fun hp3 nx3 hal3=>?_
   have hle3:=hal3.le
   have g3:Al es.hp es.nx hp3 nx3:=⟨by omega,fun j hj=>by rw [hal3.same j (by omega),g.same j hj]⟩
   simp only [bSa,↓bSb,reduceCtorEq,b0,b2,b4,b15,hge,hle3,Aa2 (show (i+m) / 2 < _ by omega)]
   exact ⟨m - ((i+m) / 2+1),by omega,(i+m) / 2+1,rfl,by omega,by omega,g3,rfl⟩
  ·have him:i=m:=by omega
   subst him
   simp only [bSa,↓bSb,reduceCtorEq,b2,b14,b15,Nat.lt_irrefl]
   refine EW.l (I:=fun _ es2=>es2.hp=es1.hp∧es2.nx=es1.nx∧rawE es2 (.t (.r (.r (.r .o))))=iv (i:Nat)∧rawE es2 (.t (.l (.r (.l (.l .o)))))=iv (i:Nat)) ?_ 0 1000000 _ ?_ (by omega)
   ·rintro n es2 ⟨q1,q2,x14,x17⟩
    unfold Cc5
    simp only [bSa,↓bSb,reduceCtorEq,x14,x17,Nat.lt_irrefl]
    rw [q1,q2]
    exact hK _ _ g
   ·simp only [bSa,reduceCtorEq,b14]
 ·refine ⟨a,?_⟩
  simp only [bSa,reduceCtorEq,a0,a2,a4]
  omega
end
end Go.DD

/- Contracts: sorting of cells that are sorted changes nothing: merging in place, the general step. Conditions: those that each theorem states. -/
namespace Go.DD
open Go Go.Proofs
theorem p131:pth 131=(.l (.l (.r (.l (.l (.l (.l .o))))))):=rfl
theorem p133:pth 133=(.l (.r (.r (.l (.l (.l (.l .o))))))):=rfl
theorem p154:pth 154=(.r (.r (.l (.r (.r (.l (.l .o))))))):=rfl
theorem p156:pth 156=(.r (.l (.r (.r (.r (.l (.l .o))))))):=rfl
section
variable (k n0:Nat)
theorem Bu3 (d:DV) (l:List PCell) (bx s0 r p:Nat) (x1 x2 x3 x18 x19:DV) (hs:SortC l) (hl:l.length < 900000) (hpos:∀ c∈l,c.pos.length < 900000) {es:ES} {Q:Exit→ES→Prop} (hn:n0≤es.nx) (hb:KeyB es.hp n0 bx) (h1:RL rCell es.hp (Bl n0) d l) (hsr:s0≤r) (hr:r < 900000) (hc:∀ c,s0≤c→c < r→c+c≤p∧p - c < l.length)
  (a0:rawE es (.t .o)=d) (a1:rawE es (.t (.l .o))=x1) (a2:rawE es (.t (.r .o))=x2) (a3:rawE es (.t (.l (.l .o)))=x3) (a4:rawE es (.t (.r (.l .o)))=cmpV bx) (a18:rawE es (.t (.r (.r (.l (.l .o)))))=x18) (a19:rawE es (.t (.l (.l (.r (.l .o)))))=x19) (a20:rawE es (.t (.r (.l (.r (.l .o)))))=iv (s0:Nat)) (a21:rawE es (.t (.l (.r (.r (.l .o)))))=iv (r:Nat)) (a22:rawE es (.t (.r (.r (.r (.l .o)))))=iv (p:Nat))
  (hQ:∀ es2:ES,Al es.hp es.nx es2.hp es2.nx→rawE es2 (.t .o)=d→rawE es2 (.t (.l .o))=x1→rawE es2 (.t (.r .o))=x2→rawE es2 (.t (.l (.l .o)))=x3→rawE es2 (.t (.r (.l .o)))=cmpV bx→rawE es2 (.t (.r (.r (.l (.l .o)))))=x18→rawE es2 (.t (.l (.l (.r (.l .o)))))=x19→rawE es2 (.t (.r (.l (.r (.l .o)))))=iv (r:Nat)→Q (.exit 8) es2):EW (cL 1000000 Bu2) (kN (k+5)) es Q:=by
 refine EW.l (I:=fun n es1=>∃ i,n=r - i∧s0≤i∧i≤r∧Al es.hp es.nx es1.hp es1.nx∧rawE es1 (.t .o)=d∧rawE es1 (.t (.l .o))=x1∧rawE es1 (.t (.r .o))=x2∧rawE es1 (.t (.l (.l .o)))=x3∧rawE es1 (.t (.r (.l .o)))=cmpV bx∧rawE es1 (.t (.r (.r (.l (.l .o)))))=x18∧rawE es1 (.t (.l (.l (.r (.l .o)))))=x19∧rawE es1 (.t (.r (.l (.r (.l .o)))))=iv (i:Nat)∧rawE es1 (.t (.l (.r (.r (.l .o)))))=iv (r:Nat)∧rawE es1 (.t (.r (.r (.r (.l .o)))))=iv (p:Nat)) ?_ (r - s0) 1000000 _ ⟨s0,rfl,Nat.le_refl _,hsr,Al.refl _ _,a0,a1,a2,a3,a4,a18,a19,a20,a21,a22⟩ (by omega)
 rintro n es1 ⟨i,hni,hi1,hi2,g,b0,b1,b2,b3,b4,b18,b19,b20,b21,b22⟩
 unfold Bu2
 have hle:=g.le
 have w1:=h1.ka hn g
 obtain ⟨hbn,T,hbg⟩:=hb
 have hb':=(g.same bx (by omega)).trans hbg
 by_cases h:i < r
 ·obtain ⟨hc1,hc2⟩:=hc ((i+r) / 2) (by omega) (by omega)
  obtain ⟨c,hcd⟩:∃ c,c=(i+r) / 2:=⟨_,rfl⟩
  rw [← hcd] at hc1 hc2
  have hadd:binD .add (.v (.int .i64 (i:Int))) (.v (.int .i64 (r:Int)))=some (.v (.int .i64 ((i+r:Nat):Int))):=Ae1 (by omega)
  have hh:binD .shr (.v (.int .u64 ((i+r:Nat):Int))) (.v (.int .u64 1))=some (.v (.int .u64 (c:Int))):=by rw [A84,← hcd]
  have hsub:binD .sub (.v (.int .i64 (p:Int))) (.v (.int .i64 (c:Int)))=some (.v (.int .i64 ((p - c:Nat):Int))):=by rw [b_sub,wrap_in (by omega)]; congr 3; omega
  have hi:c < l.length:=by omega
  obtain ⟨pA,vA,rpA,rvA,ldA,_⟩:=cells_at w1 hi
  obtain ⟨pB,vB,rpB,rvB,ldB,_⟩:=cells_at w1 hc2
  have hge:=Ax2 hs hc2 (show c≤p - c by omega)
  have hle2:n0≤es1.nx:=by omega
  have rov:∀ an,Aa6 (cmpV bx) (fun id=>okRef es1.nx 14 an es1.hp id):=fun an=>(ro_fn _ _ _ _).2 (Aa1 hb' (by omega))
  simp only [bSa,↓bSb,reduceCtorEq,b0,b4,b20,b21,b22,h,hadd,hh,hsub,p154,p156,cvi_u (show i+r < _ by omega),cvi_s (show c < _ by omega),Ab8 w1 hi,Ab8 w1 hc2,ldA,ldB,w1.rox hle2,Ai0 w1 hle2,iff_true_intro (rov _)]
  refine ⟨⟨ro_pr (rpB.rox hle2) (rvB.rox hle2),ro_pr (rpA.rox hle2) (rvA.rox hle2)⟩,?_⟩
  refine Aa0 rfl (Af0 (f:=166) (fs:=[]) (cs:=[.pt bx 0]) (by rw [evt]; simp only [bR,reduceCtorEq]; exact At6 hb') ?_)
  simp only [bR,reduceCtorEq,List.map_cons,List.map_nil,List.nil_append,List.cons_append]
  refine At9 k n0 _ _ _ pB vB pA vA l[p - c] l[c] bx (by omega) ⟨hbn,T,hb'⟩ rpB rvB rpA rvA (hpos _ (List.getElem_mem hc2)) fun hp3 nx3 hal3=>?_
  have hle3:=hal3.le
  have g3:Al es.hp es.nx hp3 nx3:=⟨by omega,fun j hj=>by rw [hal3.same j (by omega),g.same j hj]⟩
  simp only [bSa,↓bSb,reduceCtorEq,b0,b1,b2,b3,b4,b18,b19,b21,b22,hge,hle3,Aa2 (show c < _ by omega)]
  exact ⟨r - (c+1),by omega,c+1,rfl,by omega,by omega,g3,rfl⟩
 ·have hir:i=r:=by omega
  subst hir
  simp only [bSa,↓bSb,reduceCtorEq,b20,b21,Nat.lt_irrefl]
  refine hQ _ g ?_ ?_ ?_ ?_ ?_ ?_ ?_ ?_ <;> simp only [bR,reduceCtorEq] <;> assumption
theorem Cc7 (d:DV) (l:List PCell) (bx:Nat) (hs:SortC l) (hl:l.length < 900000) (hpos:∀ c∈l,c.pos.length < 900000):∀ (f a m b:Nat) (hp:Tr DObj) (nx:Nat) (K:DV→Tr DObj→Nat→Prop) (_:n0≤nx) (_:KeyB hp n0 bx) (_:RL rCell hp (Bl n0) d l) (_:a < m) (_:m < b) (_:b≤l.length) (_:b - a≤2 ^ f)
  (_:∀ hp' nx',Al hp nx hp' nx'→K (.tup []) hp' nx'),KW (kN (k+f+6)) (.fn 212) [d,iv (a:Nat),iv (m:Nat),iv (b:Nat),cmpV bx] hp nx K:=by
 intro f
 induction f with
 | zero=>intro a m b hp nx K _ _ _ h1 h2 _ h3 _; omega
 | succ f ih=>
  intro a m b hp nx K hn hb h1 ham hmb hbl hf hK
  by_cases c1:m=a+1
  ·subst c1
   exact Cj7 (k+f+1) n0 hp nx K d l a b bx hn hb h1 hs hmb hbl hl hpos hK
  ·by_cases c2:b=m+1
   ·subst c2
    exact Cj8 (k+f+1) n0 hp nx K d l a m bx hn hb h1 hs (by omega) hbl hl hpos hK
   ·show KW (kN (k+f+6+1)) _ _ _ _ _
    refine kn_0 (Aa3 (by decide)) t212 (Nat.le_of_ble_eq_true rfl) fun es e1 e2 he=>?_
    have a0:rawE es (.t .o)=d:=he 0 _ rfl
    have a1:rawE es (.t (.l .o))=iv (a:Nat):=he 1 _ rfl
    have a2:rawE es (.t (.r .o))=iv (m:Nat):=he 2 _ rfl
    have a3:rawE es (.t (.l (.l .o)))=iv (b:Nat):=he 3 _ rfl
    have a4:rawE es (.t (.r (.l .o)))=cmpV bx:=he 4 _ rfl
    unfold r212
    subst e1 e2
    have hp2:2 ^ (f+1)=2*2 ^ f:=by rw [Nat.pow_succ]; omega
    rw [hp2] at hf
    generalize 2 ^ f=F at hf ih
    obtain ⟨M,hM⟩:∃ M,M=(a+b) / 2:=⟨_,rfl⟩
    have hs1:binD .sub (.v (.int .i64 (m:Int))) (.v (.int .i64 (a:Int)))=some (.v (.int .i64 ((m - a:Nat):Int))):=by rw [b_sub,wrap_in (by omega)]; congr 3; omega
    have hs2:binD .sub (.v (.int .i64 (b:Int))) (.v (.int .i64 (m:Int)))=some (.v (.int .i64 ((b - m:Nat):Int))):=by rw [b_sub,wrap_in (by omega)]; congr 3; omega
    have ha1:binD .add (.v (.int .i64 (a:Int))) (.v (.int .i64 (b:Int)))=some (.v (.int .i64 ((a+b:Nat):Int))):=Ae1 (by omega)
    have ha2:binD .add (.v (.int .i64 (M:Int))) (.v (.int .i64 (m:Int)))=some (.v (.int .i64 ((M+m:Nat):Int))):=Ae1 (by omega)
    have hs4:binD .sub (.v (.int .i64 ((M+m:Nat):Int))) (.v (.int .i64 1))=some (.v (.int .i64 ((M+m - 1:Nat):Int))):=by rw [b_sub,wrap_in (by omega)]; congr 3; omega
    have hh:binD .shr (.v (.int .u64 ((a+b:Nat):Int))) (.v (.int .u64 1))=some (.v (.int .u64 (M:Int))):=by rw [A84,← hM]
    by_cases cm:M < m
    ·have hs3:binD .sub (.v (.int .i64 ((M+m:Nat):Int))) (.v (.int .i64 (b:Int)))=some (.v (.int .i64 ((M+m - b:Nat):Int))):=by rw [b_sub,wrap_in (by omega)]; congr 3; omega
     simp only [bSa,↓bSb,reduceCtorEq,a1,a2,a3,hs1,hs2,ha1,ha2,hs3,hs4,hh,p131,p133,show ¬ ((m - a:Nat):Int)=1 by omega,show ¬ ((b - m:Nat):Int)=1 by omega,cvi_u (show a+b < _ by omega),cvi_s (show M < _ by omega),cm]
     refine Bu3 (k+f+1) n0 d l bx (M+m - b) M (M+m - 1) (iv (a:Nat)) (iv (m:Nat)) (iv (b:Nat)) (iv (M:Nat)) (iv ((M+m:Nat))) hs hl hpos hn hb h1 (by omega) (by omega) (fun c h3 h4=>⟨by omega,by omega⟩) (by simp only [bR,reduceCtorEq,a0]) (by simp only [bR,reduceCtorEq,a1]) (by simp only [bR,reduceCtorEq,a2]) (by simp only [bR,reduceCtorEq,a3]) (by simp only [bR,reduceCtorEq,a4]) (by simp only [bR,reduceCtorEq]) (by simp only [bR,reduceCtorEq]) (by simp only [bR,reduceCtorEq]) (by simp only [bR,reduceCtorEq]) (by simp only [bR]) fun es2 g x0 x1 x2 x3 x4 x18 x19 x20=>?_
     have g:Al es.hp es.nx es2.hp es2.nx:=g
     have hbn:=hb.1
     have hle:=g.le
     have hs5:binD .sub (.v (.int .i64 ((M+m:Nat):Int))) (.v (.int .i64 (M:Int)))=some (.v (.int .i64 (m:Int))):=by rw [b_sub,wrap_in (by omega)]; congr 3; omega
     simp only [bSa,↓bSb,reduceCtorEq,x0,x1,x2,x3,x4,x18,x19,x20,hs5,cm,Nat.lt_irrefl,show a < M by omega,hmb]
     refine kws (ih M m b _ _ _ (by have:=g.le; omega) ⟨hb.1,by obtain ⟨_,T,h⟩:=hb; exact ⟨T,(g.same _ (by omega)).trans h⟩⟩ (h1.ka hn g) cm hmb hbl (by omega) fun hp3 nx3 hal3=>?_)
     simp only [bSa,↓bSb,reduceCtorEq]
     exact hK _ _ (g.trans hal3)
    ·simp only [bSa,↓bSb,reduceCtorEq,a1,a2,a3,hs1,hs2,ha1,ha2,hs4,hh,p131,p133,show ¬ ((m - a:Nat):Int)=1 by omega,show ¬ ((b - m:Nat):Int)=1 by omega,cvi_u (show a+b < _ by omega),cvi_s (show M < _ by omega),cm]
     refine Bu3 (k+f+1) n0 d l bx a m (M+m - 1) (iv (a:Nat)) (iv (m:Nat)) (iv (b:Nat)) (iv (M:Nat)) (iv ((M+m:Nat))) hs hl hpos hn hb h1 (by omega) (by omega) (fun c h3 h4=>⟨by omega,by omega⟩) (by simp only [bR,reduceCtorEq,a0]) (by simp only [bR,reduceCtorEq,a1]) (by simp only [bR,reduceCtorEq,a2]) (by simp only [bR,reduceCtorEq,a3]) (by simp only [bR,reduceCtorEq,a4]) (by simp only [bR,reduceCtorEq]) (by simp only [bR,reduceCtorEq]) (by simp only [bR,reduceCtorEq]) (by simp only [bR,reduceCtorEq]) (by simp only [bR]) fun es2 g x0 x1 x2 x3 x4 x18 x19 x20=>?_
     have g:Al es.hp es.nx es2.hp es2.nx:=g
     have hbn:=hb.1
     have hle:=g.le
     have hs5:binD .sub (.v (.int .i64 ((M+m:Nat):Int))) (.v (.int .i64 (m:Int)))=some (.v (.int .i64 (M:Int))):=by rw [b_sub,wrap_in (by omega)]; congr 3; omega
     by_cases ce:m < M
     ·simp only [bSa,↓bSb,reduceCtorEq,x0,x1,x2,x4,x18,x19,x20,hs5,Nat.lt_irrefl,ham,ce]
      refine kws (ih a m M _ _ _ (by have:=g.le; omega) ⟨hb.1,by obtain ⟨_,T,h⟩:=hb; exact ⟨T,(g.same _ (by omega)).trans h⟩⟩ (h1.ka hn g) ham ce (by omega) (by omega) fun hp3 nx3 hal3=>?_)
      simp only [bSa,↓bSb,reduceCtorEq,x18,Nat.lt_irrefl]
      exact hK _ _ (g.trans hal3)
     ·simp only [bSa,↓bSb,reduceCtorEq,x1,x2,x18,x19,x20,hs5,Nat.lt_irrefl,ham,ce]
      exact hK _ _ g
end
end Go.DD

/- Contracts: a stable sort of sorted cells changes nothing. Conditions: those that each theorem states. -/
namespace Go.DD
open Go Go.Proofs
section
variable (k n0:Nat) (hp:Tr DObj) (nx:Nat) (K:DV→Tr DObj→Nat→Prop)
theorem Bu4 (f:Nat) (d:DV) (l:List PCell) (bx:Nat) (hn:n0≤nx) (hb:KeyB hp n0 bx) (h1:RL rCell hp (Bl n0) d l) (hs:SortC l) (hl:l.length < 400000) (hf:l.length≤2 ^ f) (hpos:∀ c∈l,c.pos.length < 900000)
  (hK:∀ hp' nx',Al hp nx hp' nx'→K (.tup []) hp' nx'):KW (kN (k+f+7)) (.fn 187) [d,iv l.length,cmpV bx] hp nx K:=by
 refine kn_0 (Aa3 (by decide)) t187 (Nat.le_of_ble_eq_true rfl) fun es e1 e2 he=>?_
 have a0:rawE es (.t .o)=d:=he 0 _ rfl
 have a1:rawE es (.t (.l .o))=iv l.length:=he 1 _ rfl
 have a2:rawE es (.t (.r .o))=cmpV bx:=he 2 _ rfl
 unfold r187
 subst e1 e2
 have hbn:=hb.1
 have keyB:∀ {hp' nx'},Al es.hp es.nx hp' nx'→KeyB hp' n0 bx:=fun g=>⟨hb.1,by obtain ⟨_,T,h⟩:=hb; exact ⟨T,(g.same _ (by omega)).trans h⟩⟩
 simp only [bSa,↓bSb,reduceCtorEq]
 refine EW.l (I:=fun m es1=>∃ a,m=l.length - a∧a≤l.length∧Al es.hp es.nx es1.hp es1.nx∧rawE es1 (.t .o)=d∧rawE es1 (.t (.l .o))=iv l.length∧rawE es1 (.t (.r .o))=cmpV bx∧rawE es1 (.t (.r (.r .o)))=iv ((20:Nat))∧rawE es1 (.t (.l (.l (.l .o))))=iv (a:Nat)∧rawE es1 (.t (.r (.l (.l .o))))=iv ((a+20:Nat))) ?_ l.length 1000000 _ ?_ (by omega)
 ·rintro m es1 ⟨a,hm,ha,g,b0,b1,b2,b6,b7,b8⟩
  unfold Cb8
  have hle:=g.le
  by_cases h:a+20≤l.length
  ·simp only [bSa,↓bSb,reduceCtorEq,b0,b1,b2,b7,b8,h]
   refine kws (Bi4 (k+f) n0 _ _ _ d l a (a+20) bx (by omega) (keyB g) (h1.ka hn g) hs (by omega) h (by omega) hpos fun hp3 nx3 hal3=>?_)
   simp only [bSa,↓bSb,reduceCtorEq,b0,b1,b2,b6,b8,Ae1 (show a+20+20 < _ by omega)]
   exact ⟨l.length - (a+20),by omega,a+20,rfl,h,g.trans hal3,rfl,rfl⟩
  ·simp only [bSa,↓bSb,reduceCtorEq,b0,b1,b2,b7,b8,h]
   refine kws (Bi4 (k+f) n0 _ _ _ d l a l.length bx (by omega) (keyB g) (h1.ka hn g) hs ha (Nat.le_refl _) (by omega) hpos fun hp3 nx3 hal3=>?_)
   have g3:=g.trans hal3
   simp only [bSa,↓bSb]
   refine EW.l (I:=fun m es2=>∃ bs,m=l.length - bs∧1≤bs∧bs≤400000+400000∧Al es.hp es.nx es2.hp es2.nx∧rawE es2 (.t .o)=d∧rawE es2 (.t (.l .o))=iv l.length∧rawE es2 (.t (.r .o))=cmpV bx∧rawE es2 (.t (.r (.r .o)))=iv (bs:Nat)) ?_ (l.length - 20) 1000000 _ ?_ (by omega)
   ·rintro m2 es2 ⟨bs,hm2,hbs,hbs2,g2,x0,x1,x2,x6⟩
    unfold Cc0
    have hle2:=g2.le
    by_cases h2:bs < l.length
    ·have hmul:binD .mul (.v (.int .i64 2)) (.v (.int .i64 (bs:Int)))=some (.v (.int .i64 ((2*bs:Nat):Int))):=by rw [b_mul,wrap_in (by omega)]; congr 3
     simp only [bSa,↓bSb,reduceCtorEq,x1,x6,h2,hmul]
     refine EW.l (I:=fun m es3=>∃ a,m=l.length - a∧a≤l.length∧Al es.hp es.nx es3.hp es3.nx∧rawE es3 (.t .o)=d∧rawE es3 (.t (.l .o))=iv l.length∧rawE es3 (.t (.r .o))=cmpV bx∧rawE es3 (.t (.r (.r .o)))=iv (bs:Nat)∧rawE es3 (.t (.l (.l (.l .o))))=iv (a:Nat)∧rawE es3 (.t (.r (.l (.l .o))))=iv ((a+2*bs:Nat))) ?_ l.length 1000000 _ ?_ (by omega)
     ·rintro m3 es3 ⟨a,hm3,ha3,g4,y0,y1,y2,y6,y7,y8⟩
      unfold Cb9
      have hle4:=g4.le
      have hadd:binD .add (.v (.int .i64 (a:Int))) (.v (.int .i64 (bs:Int)))=some (.v (.int .i64 ((a+bs:Nat):Int))):=Ae1 (by omega)
      by_cases h5:a+2*bs≤l.length
      ·simp only [bSa,↓bSb,reduceCtorEq,y0,y1,y2,y6,y7,y8,h5,hadd]
       refine kws (Cc7 k n0 d l bx hs (by omega) hpos f a (a+bs) (a+2*bs) _ _ _ (by omega) (keyB g4) (h1.ka hn g4) (by omega) (by omega) h5 (by omega) fun hp5 nx5 hal5=>?_)
       simp only [bSa,↓bSb,reduceCtorEq,y0,y1,y2,y6,y8,hmul,Ae1 (show a+2*bs+2*bs < _ by omega)]
       exact ⟨l.length - (a+2*bs),by omega,a+2*bs,rfl,h5,g4.trans hal5,rfl,rfl⟩
      ·by_cases h6:a+bs < l.length
       ·simp only [bSa,↓bSb,reduceCtorEq,y0,y1,y2,y6,y7,y8,h5,h6,hadd]
        refine kws (Cc7 k n0 d l bx hs (by omega) hpos f a (a+bs) l.length _ _ _ (by omega) (keyB g4) (h1.ka hn g4) (by omega) h6 (Nat.le_refl _) (by omega) fun hp5 nx5 hal5=>?_)
        have hdb:binD .mul (.v (.int .i64 (bs:Int))) (.v (.int .i64 2))=some (.v (.int .i64 ((bs*2:Nat):Int))):=by rw [b_mul,wrap_in (by omega)]; congr 3
        simp only [bSa,↓bSb,reduceCtorEq,y0,y1,y2,y6,hdb]
        exact ⟨l.length - bs*2,by omega,bs*2,rfl,by omega,by omega,g4.trans hal5,rfl⟩
       ·have hdb:binD .mul (.v (.int .i64 (bs:Int))) (.v (.int .i64 2))=some (.v (.int .i64 ((bs*2:Nat):Int))):=by rw [b_mul,wrap_in (by omega)]; congr 3
        simp only [bSa,↓bSb,reduceCtorEq,y0,y1,y2,y6,y7,y8,h5,h6,hadd,hdb]
        exact ⟨l.length - bs*2,by omega,bs*2,rfl,by omega,by omega,g4,rfl⟩
     ·refine ⟨0,?_⟩
      simp only [bSa,reduceCtorEq,x0,x1,x2,x6]
      refine ⟨by omega,by omega,g2,?_⟩
      first | rfl | rw [Nat.zero_add] | simp
    ·simp only [bSa,↓bSb,reduceCtorEq,x1,x6,h2]
     exact hK _ _ g2
   ·refine ⟨20,?_⟩
    simp only [bSa,reduceCtorEq,b0,b1,b2,b6]
    exact ⟨by omega,by omega,g3⟩
 ·refine ⟨0,?_⟩
  simp only [bSa,reduceCtorEq,a0,a1,a2]
  exact ⟨by omega,by omega,rfl⟩
end
end Go.DD

/- Contracts: sorting of sorted cells by a key changes nothing. Conditions: those that each theorem states. -/
namespace Go.DD
open Go Go.Proofs
section
variable (k n0:Nat) (hp:Tr DObj) (nx:Nat) (K:DV→Tr DObj→Nat→Prop)
theorem A41 (f:Nat) (d:DV) (l:List PCell) (bx:Nat) (hn:n0≤nx) (hb:KeyB hp n0 bx) (h1:RL rCell hp (Bl n0) d l) (hs:SortC l) (hl:l.length < 400000) (hf:l.length≤2 ^ f) (hpos:∀ c∈l,c.pos.length < 900000)
  (hK:∀ hp' nx',Al hp nx hp' nx'→K (.tup []) hp' nx'):KW (kN (k+f+8)) (.fn 165) [d,cmpV bx] hp nx K:=by
 refine kn_0 (Aa3 (by decide)) t165 (Nat.le_of_ble_eq_true rfl) fun es e1 e2 he=>?_
 have a0:rawE es (.t .o)=d:=he 0 _ rfl
 have a1:rawE es (.t (.l .o))=cmpV bx:=he 1 _ rfl
 unfold r165
 subst e1 e2
 simp only [bSa,↓bSb,reduceCtorEq,a0,a1,h1.len]
 refine kws (Bu4 k n0 _ _ _ f d l bx hn hb h1 hs hl hf hpos fun hp3 nx3 hal3=>?_)
 simp only [bSa,↓bSb,reduceCtorEq]
 exact hK _ _ hal3
theorem Bu5 (f:Nat) (d:DV) (l:List PCell) (hn:n0≤nx) (h1:RL rCell hp (Bl n0) d l) (hs:SortC l) (hl:l.length < 400000) (hf:l.length≤2 ^ f) (hpos:∀ c∈l,c.pos.length < 900000)
  (hK:∀ hp' nx',Al hp nx hp' nx'→K (.tup []) hp' nx'):KW (kN (k+f+9)) (.fn 128) [d,.fn (.func 129) [.tup []]] hp nx K:=by
 refine kn_0 (Aa3 (by decide)) t128 (Nat.le_of_ble_eq_true rfl) fun es e1 e2 he=>?_
 have a0:rawE es (.t .o)=d:=he 0 _ rfl
 have a1:rawE es (.t (.l .o))=.fn (.func 129) [.tup []]:=he 1 _ rfl
 unfold r128
 subst e1 e2
 simp only [↓bSb]
 refine Bh2 (v:=.fn (.func 129) [.tup []]) (by simp only [evt,a1]; exact Aw5 _ _) ⟨rfl,rfl⟩ fun hp1 hg1 hk1=>?_
 simp only [bR] at hg1 hk1
 have hal1:Al es.hp es.nx hp1 (es.nx+1):=⟨by omega,fun j hj=>hk1 j (by omega)⟩
 have e1:liveE hp1 (.pt es.nx 0)=.pt es.nx 0:=Ag1 fun id hid=>by
  have:id=es.nx:=by simpa [DV.refs] using hid
  rw [this,hg1]; rfl
 simp only [bSa,↓bSb,bP,reduceCtorEq,a0,e1]
 refine kws (A41 k (es.nx+1) _ _ _ f d l es.nx (Nat.le_refl _) ⟨by omega,_,hg1⟩ ((h1.ka hn hal1).bl (show n0≤es.nx+1 by omega)) hs hl hf hpos fun hp3 nx3 hal3=>?_)
 simp only [bSa,↓bSb,reduceCtorEq]
 exact hK _ _ (hal1.trans hal3)
end
end Go.DD

/- Contracts: the program's copy of a cell. Conditions: those that each theorem states. -/
namespace Go.DD
open Go Go.Proofs
section
variable (k n0:Nat) (hp:Tr DObj) (nx:Nat) (K:DV→Tr DObj→Nat→Prop)
theorem Bu6 (p v:DV) (c:PCell) (hn:n0≤nx) (h1:RL rInt hp (Bl n0) p c.pos) (h2:RL rVal hp (Bl n0) v c.vals) (hpn:c.pos≠[]) (hv1:c.vals≠[]) (hp0:c.pos.length < 900000) (hv0:c.vals.length < 900000)
  (hK:∀ hp' nx' p' v',Al hp nx hp' nx'→RL rInt hp' (Bw nx nx') p' c.pos→RL rVal hp' (Bw nx nx') v' c.vals→K (.agg [p',v']) hp' nx'):KW (kN (k+2)) (.fn 164) [.agg [p,v]] hp nx K:=by
 refine kn_r1 (Aa3 (by decide)) t164 (Nat.le_of_ble_eq_true rfl) fun es e1 e2 he=>?_
 have a0:rawE es (.t .o)=.agg [p,v]:=he 0 _ rfl
 unfold r164
 subst e1 e2
 simp only [↓bSb]
 refine Ac1 (cs:=[p,v]) (by rw [evt,a0]; exact Aa4 h1 h2) fun hp1 hg1 hk1=>?_
 simp only [bR] at hg1 hk1
 simp only [bSa,↓bSb]
 refine Ad6 fun hp2 hg2 hk2=>?_
 simp only [bR] at hg2 hk2
 have hal2:Al es.hp es.nx hp2 (es.nx+2):=⟨by omega,fun j hj=>by rw [hk2 j (by omega),hk1 j (by omega)]⟩
 have hgA:=(hk2 es.nx (by omega)).trans hg1
 obtain ⟨⟨f0,f1⟩,l0,l1,_⟩:=Ae3 hgA
 have r1:=h1.ka hn hal2
 have r2:=h2.ka hn hal2
 simp only [bSa,↓bSb,reduceCtorEq,f0,l0,Aa1 (n0:=es.nx+1+1) (m:=8) hgA (show es.nx < es.nx+1+1 by omega),r1.rox (show n0≤es.nx+1+1 by omega)]
 refine Aa0 rfl (Ad1 ?_)
 simp only [bR,List.map_cons,List.map_nil]
 refine A80 k n0 _ _ _ p c.pos (by omega) r1 (.inl hpn) (by omega) fun hp7 nx7 a' hal7 ho7 hr7 _=>?_
 have hle7:=hal7.le
 have hgA7:=(hal7.same es.nx (by omega)).trans hgA
 have hgB7:=(hal7.same (es.nx+1) (by omega)).trans hg2
 obtain ⟨⟨f0,f1⟩,l0,l1,_⟩:=Ae3 hgA7
 have r7:=r2.ka (nx:=es.nx+1+1+8) (by omega) hal7
 have rA7:=ho7.rlF hr7
 simp only [bSa,↓bSb,reduceCtorEq,hle7,f1,l1,Aa1 (n0:=es.nx+1+1) (m:=8) hgA7 (show es.nx < es.nx+1+1 by omega),r7.rox (show n0≤es.nx+1+1 by omega)]
 refine Aa0 rfl (Ad1 ?_)
 simp only [bR,List.map_cons,List.map_nil]
 refine A81 k n0 _ _ _ v c.vals (by omega) r7 (.inl hv1) (by omega) fun hp8 nx8 v' hal8 ho8 hr8 _=>?_
 have hle8:=hal8.le
 have hgA8:=(hal8.same es.nx (by omega)).trans hgA7
 have hgB8:=(hal8.same (es.nx+1) (by omega)).trans hgB7
 have rB8:=ho8.rlF hr8
 have rA8:=rA7.keep (hp':=hp8) fun j hj=>hal8.same j hj.2
 have roA:∀ an,Aa6 a' (fun id=>okRef (es.nx+1+1) 8 an hp8 id):=fun an=>rA8.ro' (n:=es.nx+1+1) (m:=8) fun j hj=>.inr hj.1
 have roB:∀ an,Aa6 v' (fun id=>okRef (es.nx+1+1) 8 an hp8 id):=fun an=>rB8.ro' (n:=es.nx+1+1) (m:=8) fun j hj=>.inr (by have:=hj.1; omega)
 have roAB:∀ an,Aa6 (.agg [a',v']) (fun id=>okRef (es.nx+1+1) 8 an hp8 id):=fun an=>ro_pr (roA an) (roB an)
 have hfb:=Bi0 (z:=.slice none 0 0) (w:=.slice none 0 0) rA8.ok rB8.ok
 simp only [bSa,↓bSb,bP,reduceCtorEq,hle8,Cb5,rA8.live,rB8.live,hfb,Option.map_some,iff_true_intro (roA _),iff_true_intro (roB _),iff_true_intro (roAB _),Aa1 (n0:=es.nx+1+1) (m:=8) hgB8 (show es.nx+1 < es.nx+1+1 by omega)]
 refine Aa0 rfl (Ae2 (n:=2) (id:=es.nx+1) (ds:=[a',v']) (by simp only [bR,reduceCtorEq]) hgB8 (by simp only [evt,bR]; exact Aa4 rA8 rB8) rfl rfl fun hp9 hg9 hk9=>?_)
 simp only [bR] at hg9 hk9
 have hgA9:=(hk9 es.nx (by omega)).trans hgA8
 simp only [bSa,↓bSb,reduceCtorEq]
 have hsz:∀ d∈[p,v],Ab5 6 d d=true:=fun d hd=>by
  simp only [List.mem_cons,List.not_mem_nil,or_false] at hd
  rcases hd with rfl | rfl
  ·exact h1.same (by decide)
  ·exact h2.same (by decide)
 have hps:∀ q∈[(⟨7,[6,5,0,1,2,3,4],hp8,hp9⟩:Past),⟨5,[4,2,3,1,0],hp7,hp8⟩,⟨2,[1,0],hp2,hp7⟩],q.a.get es.nx=some (.row 39 [p,v])∧q.b.get es.nx=some (.row 39 [p,v]):=fun q hq=>by
  simp only [List.mem_cons,List.not_mem_nil,or_false] at hq
  rcases hq with rfl | rfl | rfl
  ·exact ⟨hgA8,hgA9⟩
  ·exact ⟨hgA7,hgA8⟩
  ·exact ⟨hgA,hgA7⟩
 have hrf:∀ (o:Nat),∀ j∈(DV.pt es.nx o).refs,j=es.nx:=fun o j hj=>by simpa [DV.refs] using hj
 refine ⟨Am4 (hrf 1) (by omega) hps hsz (Am4 (hrf 0) (by omega) hps hsz rfl),_,Az7 (by simp only [bR,reduceCtorEq,bP]) hg9 rfl,hK _ _ _ _ ⟨by omega,fun j hj=>?_⟩ ((rA8.keep fun j hj=>hk9 j ?_).mono fun j hj=>⟨?_,?_⟩) ((rB8.keep fun j hj=>hk9 j ?_).mono fun j hj=>⟨?_,?_⟩)⟩
 ·rw [hk9 j (by omega),hal8.same j (by omega),hal7.same j (by omega),hal2.same j hj]
 all_goals (have h1:=hj.1; have h2:=hj.2; omega)
end
end Go.DD

/- Contracts: the program's copy of an array. Conditions: those that each theorem states. -/
namespace Go.DD
open Go Go.Proofs
section
variable (k n0:Nat) (hp:Tr DObj) (nx:Nat) (K:DV→Tr DObj→Nat→Prop)
theorem B34 (d a c:DV) (D:List PDim) (A:List PAttr) (C:List PCell) (hn:n0≤nx) (h1:RL rDim hp (Bl n0) d D) (h2:RL rAttr hp (Bl n0) a A) (h3:RL rCell hp (Bl n0) c C) (hD:D≠[]) (hA:A≠[]) (hDl:D.length < 900000) (hAl:A.length < 900000) (hCl:C.length < 900000)
  (hc:∀ e∈C,e.pos≠[]∧e.pos.length < 900000∧e.vals≠[]∧e.vals.length < 900000)
  (hK:∀ hp' nx' d',Al hp nx hp' nx'→AR hp' (Bw nx nx') d' ⟨D,A,C⟩→K d' hp' nx'):KW (kN (k+3)) (.fn 127) [d,a,c] hp nx K:=by
 refine kn_r1 (Aa3 (by decide)) t127 (Nat.le_of_ble_eq_true rfl) fun es e1 e2 he=>?_
 have a0:rawE es (.t .o)=d:=he 0 _ rfl
 have a1:rawE es (.t (.l .o))=a:=he 1 _ rfl
 have a2:rawE es (.t (.r .o))=c:=he 2 _ rfl
 unfold r127
 subst e1 e2
 simp only [↓bSb]
 refine Ad6 fun hp1 hg1 hk1=>?_
 simp only [bR] at hg1 hk1
 have hal1:Al es.hp es.nx hp1 (es.nx+1):=⟨by omega,fun j hj=>hk1 j (by omega)⟩
 simp only [bSa,↓bSb,reduceCtorEq,a0]
 refine kws (Bt1 (k+1) n0 _ _ _ d D (by omega) (h1.ka hn hal1) (.inl hD) (by omega) fun hp2 nx2 d2 hal2 ho2 hr2 _=>?_)
 have hle2:=hal2.le
 have ha2:=hal1.trans hal2
 simp only [bSa,↓bSb,reduceCtorEq,a1]
 refine kws (Bt2 (k+1) n0 _ _ _ a A (by omega) (h2.ka hn ha2) (.inl hA) (by omega) fun hp3 nx3 a3 hal3 ho3 hr3 _=>?_)
 have hle3:=hal3.le
 have ha3:=ha2.trans hal3
 have rd3:=(ho2.rlF hr2).keep (hp':=hp3) fun j hj=>hal3.same j hj.2
 have ra3:=ho3.rlF hr3
 simp only [bSa,↓bSb]
 refine A31 (cs:=[d2,a3,.v (.slice none 0 0)]) (by simp only [List.map_cons,List.map_nil,n_ev,bR,reduceCtorEq,bP,rd3.live,ra3.live]; simp [fillD,rd3.ok,ra3.ok]) ?_
 simp only [bSa,↓bSb]
 refine Ad6 fun hp4 hg4 hk4=>?_
 simp only [bR] at hg4 hk4
 have rd4:=rd3.keep (hp':=hp4) fun j hj=>hk4 j (by have:=hj.2; omega)
 have ra4:=ra3.keep (hp':=hp4) fun j hj=>hk4 j (by have:=hj.2; omega)
 have hlv:liveE hp4 (.agg [d2,a3,.v (.slice none 0 0)])=.agg [d2,a3,.v (.slice none 0 0)]:=Ag1 fun id hid=>by
  have:id∈d2.refs∨id∈a3.refs:=by simpa [DV.refs,DV.refsL] using hid
  rcases this with h | h
  ·exact (rd4.refs id h).2
  ·exact (ra4.refs id h).2
 simp only [bSa,↓bSb]
 refine Ae2 (n:=3) (id:=nx3) (ds:=[d2,a3,.v (.slice none 0 0)]) (by simp only [bR]) hg4 (by simp only [evt,bR,reduceCtorEq]; exact hlv) rfl rfl fun hp5 hg5 hk5=>?_
 simp only [bR] at hg5 hk5
 have ha5:Al es.hp es.nx hp5 (nx3+1):=⟨by omega,fun j hj=>by rw [hk5 j (by omega),hk4 j (by omega),ha3.same j hj]⟩
 have h35:∀ j,j < nx3→hp5.get j=hp3.get j:=fun j hj=>by rw [hk5 j (by omega),hk4 j (by omega)]
 have hg15:hp5.get es.nx=_:=(h35 _ (by omega)).trans ((hal3.same _ (by omega)).trans ((hal2.same _ (by omega)).trans hg1))
 have w5:=h3.ka hn ha5
 simp only [bSa,↓bSb,reduceCtorEq,a2,w5.len]
 refine EW.up C.length (fun i es1=>∃ z,Al es.hp es.nx es1.hp es1.nx∧nx3+1≤es1.nx∧(∀ j,j < nx3→es1.hp.get j=hp5.get j)∧es1.hp.get nx3=some (.row 26 [d2,a3,z])∧OL rCell es1.hp (fun j=>nx3 < j∧j < es1.nx∧j∉z.refs) z (C.take i)∧Rng (nx3+1) es1.nx z∧rawE es1 (.t (.r (.r .o)))=.pt es.nx 0∧rawE es1 (.t (.l (.l (.l .o))))=.pt nx3 0∧rawE es1 (.t (.l (.l (.l (.l .o)))))=c∧rawE es1 (.t (.r (.l (.l (.l .o)))))=iv C.length∧rawE es1 (.t (.l (.r (.l (.l .o)))))=iv (i:Nat)) ?_ ?_ (by omega)
 ·rintro i es1 hi ⟨z,g,hge,hfr,hgz,ho,hrz,b6,b7,b15,b16,b17⟩
  unfold Cb7
  have hle:=g.le
  have w1:=h3.ka hn g
  by_cases h:i < C.length
  ·obtain ⟨pA,vA,rpA,rvA,ldA,_⟩:=cells_at w1 h
   have hpc:=hc _ (List.getElem_mem h)
   simp only [bSa,↓bSb,reduceCtorEq,b15,b16,b17,h,Ab8 w1 h,ldA]
   refine Ad6 fun hp6 hg6 hk6=>?_
   simp only [bR] at hg6 hk6
   have k6:∀ j,j < es1.nx→hp6.get j=es1.hp.get j:=fun j hj=>hk6 j (by omega)
   have rp6:=rpA.keep (hp':=hp6) fun j (hj:j < n0)=>k6 j (by omega)
   have rv6:=rvA.keep (hp':=hp6) fun j (hj:j < n0)=>k6 j (by omega)
   simp only [bSa,↓bSb]
   refine Ae2 (n:=2) (id:=es1.nx) (ds:=[pA,vA]) (by simp only [bR]) hg6 (by simp only [evt,bR,reduceCtorEq]; exact Aa4 rp6 rv6) rfl rfl fun hp7 hg7 hk7=>?_
   simp only [bR] at hg7 hk7
   have k7:∀ j,j < es1.nx→hp7.get j=es1.hp.get j:=fun j hj=>by rw [hk7 j (by omega),k6 j hj]
   have rp7:=rpA.keep (hp':=hp7) fun j (hj:j < n0)=>k7 j (by omega)
   have rv7:=rvA.keep (hp':=hp7) fun j (hj:j < n0)=>k7 j (by omega)
   have hgz7:=(k7 nx3 (by omega)).trans hgz
   obtain ⟨⟨_,_,fz⟩,_,_,lz,_⟩:=Aa7 hgz7
   obtain ⟨_,_,_,lT⟩:=Ae3 hg7
   have hzl:∀ j,(nx3 < j∧j < es1.nx∧j∉z.refs)∨j∈z.refs→nx3 < j∧j < es1.nx:=fun j hj=>by
    rcases hj with hj | hj
    ·exact ⟨hj.1,hj.2.1⟩
    ·have:=hrz j hj; exact ⟨by omega,this.2⟩
   have ho7:=ho.keep (hp':=hp7) fun j hj=>k7 j (hzl j hj).2
   have roZ:∀ an,Aa6 z (fun id=>okRef (es1.nx+1) 8 an hp7 id):=fun an=>ho7.rl.ro' (n:=es1.nx+1) (m:=8) fun j hj=>.inl (by have:=(hzl j hj).2; omega)
   simp only [bSa,↓bSb,reduceCtorEq,b7,fz,lz,lT,Aa1 (n0:=es1.nx+1) (m:=8) hgz7 (show nx3 < es1.nx+1 by omega),Aa1 (n0:=es1.nx+1) (m:=8) hg7 (show es1.nx < es1.nx+1 by omega)]
   refine ⟨ro_pr (rp7.rox (by omega)) (rv7.rox (by omega)),?_⟩
   refine Aa0 rfl (Ad1 ?_)
   simp only [bR,List.map_cons,List.map_nil]
   refine Bu6 k n0 _ _ _ pA vA C[i] (by omega) rp7 rv7 hpc.1 hpc.2.2.1 hpc.2.1 hpc.2.2.2 fun hp8 nx8 p' v' hal8 rp8 rv8=>?_
   have hle8:=hal8.le
   have roAB:∀ an,Aa6 (.agg [p',v']) (fun id=>okRef (es1.nx+1) 8 an hp8 id):=fun an=>ro_pr (rp8.ro' (n:=es1.nx+1) (m:=8) fun j hj=>.inr hj.1) (rv8.ro' (n:=es1.nx+1) (m:=8) fun j hj=>.inr hj.1)
   have hgz8:=(hal8.same nx3 (by omega)).trans hgz7
   have hgT8:=(hal8.same es1.nx (by omega)).trans hg7
   have hfb:=Bi0 (z:=.slice none 0 0) (w:=.slice none 0 0) rp8.ok rv8.ok
   simp only [bSa,↓bSb,hle8,iff_true_intro (roAB _)]
   refine Bh3 (fl:=[p',v']) rfl (by simp only [List.map_cons,List.map_nil,n_ev,bR,bP,Aa4 rp8 rv8]; exact Ct3 (z:=[.slice none 0 0,.slice none 0 0]) rfl) fun hp9 hg9 hk9=>?_
   simp only [bR] at hg9 hk9
   have k9:∀ j,j < es1.nx→hp9.get j=es1.hp.get j:=fun j hj=>by rw [hk9 j (by omega),hal8.same j (by omega),k7 j hj]
   have rp9:=rp8.keep (hp':=hp9) fun j hj=>hk9 j (by have:=hj.1; omega)
   have rv9:=rv8.keep (hp':=hp9) fun j hj=>hk9 j (by have:=hj.1; omega)
   have ho9:=ho.keep (hp':=hp9) fun j hj=>k9 j (hzl j hj).2
   have hgz9:=(k9 nx3 (by omega)).trans hgz
   have roZ9:∀ an,Aa6 z (fun id=>okRef (es1.nx+1) 8 an hp9 id):=fun an=>ho9.rl.ro' (n:=es1.nx+1) (m:=8) fun j hj=>.inl (by have:=(hzl j hj).2; omega)
   have hlen:(C.take i).length=i:=by rw [List.length_take]; omega
   simp only [bSa,↓bSb,reduceCtorEq,iff_true_intro (roZ9 _)]
   refine ⟨A72 hg9 rfl,?_⟩
   refine Aa0 rfl (Ah9 (R:=rCell) (p:=fun j=>nx3 < j∧j < es1.nx∧j∉z.refs) (p2:=Bw (es1.nx+1+8) nx8) (d:=z) (d2:=.ms (es1.nx+1+4) 0 1 2) (l:=C.take i) (m:=[C[i]]) (by simp only [bR,reduceCtorEq,bP]) ho9 (by simp only [n_ev,bR,bP]; exact Am2 hg9) (A32 (R:=rCell) (x:=C[i]) hg9 (rCell_rd.2 ⟨p',v',rfl,rp9,rv9⟩)) rfl rfl (by rw [List.length_singleton]; omega) (by decide) fun hp10 hk10 h10=>?_)
   simp only [bR] at hk10 h10
   have hzn:∀ j∈z.refs,nx3 < j∧j < es1.nx:=fun j hj=>hzl j (.inr hj)
   have o10:=h10 (fun j=>nx3 < j∧j < nx8∧j∉z.refs) (fun j hj=>by
    rcases hj with hj | hj
    ·exact ⟨⟨hj.1,by omega,hj.2.2⟩,by omega,hj.2.2⟩
    ·have h1:=hj.1
     have h2:=hj.2
     exact ⟨⟨by omega,h2,fun h=>by have:=hzn j h; omega⟩,by omega,fun h=>by have:=hzn j h; omega⟩)
   have k10:∀ j,j≤nx3→hp10.get j=es1.hp.get j:=fun j hj=>by rw [hk10 j (by omega) (fun h=>by have:=hzn j h; omega),k9 j (by omega)]
   have hgz10:=(k10 nx3 (by omega)).trans hgz
   obtain ⟨⟨_,_,fz10⟩,_⟩:=Aa7 hgz10
   obtain ⟨_,_,flN,hgN,_⟩:=o10.get
   have roN:∀ an,okRef (es1.nx+1) 8 an hp10 nx8=true:=fun an=>(Aj5 hp10 nx8).2 ⟨by rw [hgN]; rfl,.inr (.inl (by omega))⟩
   simp only [bSa,↓bSb,reduceCtorEq,b7,fz10,Aa1 (n0:=es1.nx+1) (m:=8) hgz10 (show nx3 < es1.nx+1 by omega),roN _,Nat.le_succ]
   refine Aa0 rfl (An8 (id:=nx3) (off:=2) (by simp only [bR]) hgz10 (by simp only [evt,bR,reduceCtorEq]; exact Am2 hgN) (ok_ms _ _ _ _) (by simp) fun hp11 hg11 hk11=>?_)
   simp only [bR] at hg11 hk11
   simp only [bSa,↓bSb,reduceCtorEq,b6,b7,b15,b16,b17,Aa2 (show i < _ by omega)]
   have hsz:∀ q∈[d2,a3,z],Ab5 6 q q=true:=AR.same (p:=fun _=>True) (x:=⟨D,A,C.take i⟩) ((rd4.keep (hp':=hp7) fun j hj=>?_).mono fun _ _=>trivial) ((ra4.keep (hp':=hp7) fun j hj=>?_).mono fun _ _=>trivial) (ho7.rl.mono fun _ _=>trivial)
   refine ⟨Ak4 (fun j hj=>?_) (Ak4 (fun j hj=>?_) (Aw4 _ _ _)),h,.ms nx8 0 (C.take i ++ [C[i]]).length 2,⟨by omega,fun j hj=>?_⟩,by omega,fun j hj=>?_,hg11,?_,Rng.ms (by omega) (by omega)⟩
   ·have hj:j=nx3:=by simpa [DV.refs] using hj
    subst hj
    refine ⟨by omega,fun q hq'=>?_⟩
    simp only [List.mem_cons,List.not_mem_nil,or_false] at hq'
    rcases hq' with rfl | rfl | rfl
    ·exact .inl rfl
    ·exact .inl rfl
    ·exact .inr (.inr (by rw [if_pos rfl]; exact Ah8 hgz7 (hgz8.trans hgz7.symm) hsz))
   ·have hj:j=nx3:=by simpa [DV.refs] using hj
    subst hj
    refine ⟨by omega,fun q hq'=>?_⟩
    simp only [List.mem_cons,List.not_mem_nil,or_false] at hq'
    rcases hq' with rfl | rfl | rfl
    ·exact .inl rfl
    ·exact .inl rfl
    ·refine .inr (.inr ?_)
     rw [if_neg (by simp)]
     show (((hp7.get j).isSome) == ((hp8.get j).isSome))=true
     rw [hgz7,hgz8]; rfl
   ·rw [hk11 j (by omega),k10 j (by omega),g.same j hj]
   ·rw [hk11 j (by omega),k10 j (by omega),hfr j hj]
   ·rw [List.take_succ_eq_append_getElem h]
    refine (o10.keep (hp':=hp11) fun j hj=>hk11 j ?_).mono fun j hj=>⟨hj.1,by omega,fun h=>?_⟩
    ·rcases hj with hj | hj
     ·exact Nat.ne_of_gt hj.1
     ·have:j=nx8:=by simpa [DV.refs] using hj
      omega
    ·have:j=nx8:=by simpa [DV.refs] using h
     omega
   ·rw [k7 j (by have:=hj.2; omega),hfr j (by have:=hj.2; omega),hk5 j (by have:=hj.2; omega)]
   ·rw [k7 j (by have:=hj.2; omega),hfr j (by have:=hj.2; omega),hk5 j (by have:=hj.2; omega)]
  ·rw [List.take_of_length_le (by omega)] at ho
   obtain ⟨_,_,_,_,lz⟩:=Aa7 hgz
   have rd6:=rd4.keep (hp':=es1.hp) fun j hj=>by rw [hfr j (by have:=hj.2; omega),hk5 j (by have:=hj.2; omega)]
   have ra6:=ra4.keep (hp':=es1.hp) fun j hj=>by rw [hfr j (by have:=hj.2; omega),hk5 j (by have:=hj.2; omega)]
   have hg16:es1.hp.get es.nx=_:=(hfr _ (by omega)).trans hg15
   have rz:RL rCell es1.hp (Bw (es.nx+1) es1.nx) z C:=ho.rl.mono fun j hj=>by
    rcases hj with hj | hj
    ·exact ⟨by omega,hj.2.1⟩
    ·have:=hrz j hj; exact ⟨by omega,this.2⟩
   have hd2:=rd6.mono (q:=Bw (es.nx+1) es1.nx) fun j hj=>⟨by have:=hj.1; omega,by have:=hj.2; omega⟩
   have hda:=ra6.mono (q:=Bw (es.nx+1) es1.nx) fun j hj=>⟨by have:=hj.1; omega,by have:=hj.2; omega⟩
   simp only [bSa,↓bSb,reduceCtorEq,b7,b16,b17,h,lz]
   refine Ae2 (n:=3) (id:=es.nx) (ds:=[d2,a3,z]) (by simp only [bR,reduceCtorEq,b6]) hg16 (by simp only [evt,bR]; exact AR.live (x:=⟨D,A,C⟩) hd2 hda rz) rfl rfl fun hp7 hg7 hk7=>?_
   simp only [bR] at hg7 hk7
   simp only [bSa,↓bSb,reduceCtorEq]
   have up:∀ j,Bw (es.nx+1) es1.nx j→Bw es.nx es1.nx j:=fun j hj=>⟨by have:=hj.1; omega,hj.2⟩
   have kp:∀ j,Bw (es.nx+1) es1.nx j→hp7.get j=es1.hp.get j:=fun j hj=>hk7 j (by have:=hj.1; omega)
   exact ⟨_,Az7 (by simp only [bR,reduceCtorEq,bP,b6]) hg7 rfl,hK _ _ _ ⟨g.le,fun j hj=>(hk7 j (by omega)).trans (g.same j hj)⟩ ⟨d2,a3,z,rfl,(hd2.keep kp).mono up,(hda.keep kp).mono up,(rz.keep kp).mono up⟩⟩
 ·refine ⟨.v (.slice none 0 0),?_⟩
  simp only [bSa,reduceCtorEq]
  exact ⟨ha5,fun _ _=>trivial,hg5,.nil,Rng.nil _ _⟩
end
end Go.DD

/- Contracts: the program's making of an array. Conditions: those that each theorem states. -/
namespace Go.DD
open Go Go.Proofs
theorem Bu7 {d:List PDim} {a:List PAttr} : ∀ {l:List PCell} {b:Option PCell},(∀ c∈l,cellE d a c=0)→Srt l→(∀ q,b=some q→∀ c∈l,cmpL q.pos c.pos = -1)→chkF d a b l=0
 | [],b,_,_,_=>by cases b <;> rfl
 | c :: l,b,h1,h2,h3=>by
  have h4:chkF d a (some c) l=0:=Bu7 (fun e he=>h1 e (List.mem_cons_of_mem _ he)) h2.tail fun q hq e he=>by cases hq; exact (List.pairwise_cons.1 h2).1 e he
  have h5:=h1 c (by simp)
  cases b with
  | none=>
   show (if cellE d a c≠0 then cellE d a c else chkF d a (some c) l)=0
   rw [if_neg (by simp [h5]),h4]
  | some q=>
   have h6:=h3 q rfl c (by simp)
   show (if cellE d a c≠0 then cellE d a c else if cmpL q.pos c.pos=0 then 5 else if cmpL q.pos c.pos=1 then 2 else chkF d a (some c) l)=0
   rw [if_neg (by simp [h5]),if_neg (by omega),if_neg (by omega),h4]
theorem B35 {x:PArr} (h1:Af5 x.dims x.attrs=0) (h2:x.cells.length≤4096) (h3:∀ c∈x.cells,cellE x.dims x.attrs c=0) (h4:Srt x.cells):Aa5 x=0:=by
 unfold Aa5
 rw [if_neg (by simp [h1]),if_neg (by omega)]
 exact Bu7 h3 h4 fun q hq=>by cases hq
theorem Bu8 {x:PArr} (h:Aa5 x=0):x.cells.length≤4096:=by
 unfold Aa5 at h
 split at h
 ·rename_i h1; exact absurd h h1
 ·split at h
  ·cases h
  ·omega
theorem Bu9 {x:PArr} (h:Aa5 x=0):x.dims≠[]:=fun e=>by
 have h2:=(Aa8 h).2.2
 have h5:dimsE x.dims=13:=by unfold dimsE; rw [if_pos (Or.inl (by rw [e]; simp))]
 unfold Af5 at h2
 rw [h5] at h2
 cases h2
theorem Bv0 {x:PArr} (h:Aa5 x=0):x.attrs≠[]:=fun e=>by
 have h2:=(Aa8 h).2.2
 unfold Af5 at h2
 split at h2
 ·rename_i h5; exact h5 h2
 ·rw [if_pos (Or.inl (by rw [e]; simp))] at h2; cases h2
section
variable (k n0:Nat) (hp:Tr DObj) (nx:Nat) (K:DV→Tr DObj→Nat→Prop)
theorem Cj9 (f:Nat) (d a c:DV) (x:PArr) (hn:n0≤nx) (h1:RL rDim hp (Bl n0) d x.dims) (h2:RL rAttr hp (Bl n0) a x.attrs) (h3:RL rCell hp (Bl n0) c x.cells) (hc:Aa5 x=0) (ho:AOK x) (hf:x.cells.length≤2 ^ f)
  (hK:∀ hp' nx' d',Al hp nx hp' nx'→AR hp' (Bw nx nx') d' x→K (.tup [d',iv 0]) hp' nx'):KW (kN (k+f+10)) (.fn 59) [d,a,c] hp nx K:=by
 obtain ⟨hs,hcell,hsch⟩:=Aa8 hc
 have hlen:=Bu8 hc
 refine kn_r2 (Aa3 (by decide)) t59 (Nat.le_of_ble_eq_true rfl) fun es e1 e2 he=>?_
 have a0:rawE es (.t .o)=d:=he 0 _ rfl
 have a1:rawE es (.t (.l .o))=a:=he 1 _ rfl
 have a2:rawE es (.t (.r .o))=c:=he 2 _ rfl
 unfold r59
 subst e1 e2
 simp only [↓bSb]
 refine Ad6 fun hp1 hg1 hk1=>?_
 simp only [bR] at hg1 hk1
 have hal1:Al es.hp es.nx hp1 (es.nx+1):=⟨by omega,fun j hj=>hk1 j (by omega)⟩
 simp only [bSa,↓bSb,reduceCtorEq,a0,a1]
 refine kws (A79 (k:=k+f+6) n0 _ _ _ d a x.dims x.attrs (by omega) (h1.ka hn hal1) (h2.ka hn hal1) fun hp2 nx2 hal2=>?_)
 have hle2:=hal2.le
 have ha2:=hal1.trans hal2
 have w2:=h3.ka hn ha2
 have hg2:=(hal2.same es.nx (by omega)).trans hg1
 have hnle:¬ 4096 < (x.cells.length:Int):=by omega
 simp only [bSa,↓bSb,reduceCtorEq,a2,show decide (¬ Af5 x.dims x.attrs=0)=false by simp [hsch],w2.len,decide_eq_false hnle]
 refine EW.up x.cells.length (fun i es1=>Al es.hp es.nx es1.hp es1.nx∧es.nx < es1.nx∧es1.hp.get es.nx=some (.row 26 [.v (.slice none 0 0),.v (.slice none 0 0),.v (.slice none 0 0)])∧rawE es1 (.t .o)=d∧rawE es1 (.t (.l .o))=a∧rawE es1 (.t (.r .o))=c∧rawE es1 (.t (.r (.r .o)))=.pt es.nx 0∧rawE es1 (.t (.l (.r (.l (.r .o)))))=c∧rawE es1 (.t (.r (.r (.l (.r .o)))))=iv x.cells.length∧rawE es1 (.t (.l (.l (.r (.r .o)))))=iv (i:Nat)) ?_ ?_ (by omega)
 ·rintro i es1 hi ⟨g,gn,hg,b0,b1,b2,b6,b25,b26,b27⟩
  unfold l59_1
  have hle:=g.le
  have w1:=h1.ka hn g
  have w2:=h2.ka hn g
  have w3:=h3.ka hn g
  by_cases h:i < x.cells.length
  ·obtain ⟨p,v,rp,rv,lc,_⟩:=cells_at w3 h
   have hce:=hcell _ (List.getElem_mem h)
   have hoe:=ho.e _ (List.getElem_mem h)
   simp only [bSa,↓bSb,reduceCtorEq,b25,b26,b27,h,Ab8 w3 h,lc]
   refine Ad6 fun hp3 hg3 hk3=>?_
   simp only [bR] at hg3 hk3
   have g3:Al es.hp es.nx hp3 (es1.nx+1):=⟨by omega,fun j hj=>by rw [hk3 j (by omega),g.same j hj]⟩
   have rp3:=rp.keep fun j (hj:j < n0)=>hk3 j (by omega)
   have rv3:=rv.keep fun j (hj:j < n0)=>hk3 j (by omega)
   simp only [bSa,↓bSb]
   refine Ae2 (n:=2) (id:=es1.nx) (ds:=[p,v]) (by simp only [bR]) hg3 (by simp only [evt,bR,reduceCtorEq]; exact A35 rp3 rv3) rfl rfl fun hp4 hg4 hk4=>?_
   simp only [bR] at hg4 hk4
   have g4:Al es.hp es.nx hp4 (es1.nx+1):=g3.new (Nat.le_refl _) fun j hj=>hk4 j (by omega)
   have hg4':hp4.get es.nx=_:=(hk4 es.nx (by omega)).trans ((hk3 es.nx (by omega)).trans hg)
   obtain ⟨_,_,_,u2⟩:=Ae3 hg4
   simp only [bSa,↓bSb,reduceCtorEq,b0,b1,u2]
   refine kws (Bs9 (k+f+3) n0 _ _ _ d a p v x.dims x.attrs x.cells[i] (by omega) (h1.ka hn g4) (h2.ka hn g4) (rp3.keep fun j (hj:j < n0)=>hk4 j (by omega)) (rv3.keep fun j (hj:j < n0)=>hk4 j (by omega)) ho.d ho.a hoe.2.2 fun hp5 nx5 hal5=>?_)
   have hle5:=hal5.le
   simp only [bSa,↓bSb,reduceCtorEq,b0,b1,b2,b6,b25,b26,b27,h,show decide (¬ cellE x.dims x.attrs x.cells[i]=0)=false by simp [hce],Aa2 (show i < _ by omega)]
   exact ⟨g4.trans hal5,by omega,(hal5.same _ (by omega)).trans hg4'⟩
  ·simp only [bSa,↓bSb,reduceCtorEq,b0,b1,b2,b26,b27,h]
   refine kws (B34 (k+f+6) n0 _ _ _ d a c x.dims x.attrs x.cells (by omega) w1 w2 w3 (Bu9 hc) (Bv0 hc) ho.d ho.a ho.c (fun e he=>⟨Ax0 hc e he,(ho.e e he).1,Aj8 hc e he,(ho.e e he).2.1⟩) fun hp3 nx3 d3 hal3 har3=>?_)
   have hle3:=hal3.le
   obtain ⟨d3,a3,c3,rfl,r1,r2,r3⟩:=har3
   simp only [bSa,↓bSb]
   refine Ad6 fun hp4 hg4 hk4=>?_
   simp only [bR] at hg4 hk4
   have q1:=r1.keep (hp':=hp4) fun j hj=>hk4 j (by have:=hj.2; omega)
   have q2:=r2.keep (hp':=hp4) fun j hj=>hk4 j (by have:=hj.2; omega)
   have q3:=r3.keep (hp':=hp4) fun j hj=>hk4 j (by have:=hj.2; omega)
   simp only [bSa,↓bSb]
   refine Ae2 (n:=3) (id:=nx3) (ds:=[d3,a3,c3]) (by simp only [bR]) hg4 (by simp only [evt,bR,reduceCtorEq]; exact AR.live q1 q2 q3) rfl rfl fun hp5 hg5 hk5=>?_
   simp only [bR] at hg5 hk5
   have q1:=q1.keep (hp':=hp5) fun j hj=>hk5 j (by have:=hj.2; omega)
   have q2:=q2.keep (hp':=hp5) fun j hj=>hk5 j (by have:=hj.2; omega)
   have q3:=q3.keep (hp':=hp5) fun j hj=>hk5 j (by have:=hj.2; omega)
   have g5:Al es.hp es.nx hp5 (nx3+1):=⟨by omega,fun j hj=>by rw [hk5 j (by omega),hk4 j (by omega),hal3.same j (by omega),g.same j hj]⟩
   have hg15:hp5.get es.nx=_:=(hk5 es.nx (by omega)).trans ((hk4 es.nx (by omega)).trans ((hal3.same es.nx (by omega)).trans hg))
   obtain ⟨⟨_,_,f2⟩,_,_,l2,lA⟩:=Aa7 hg5
   have q3':=q3.mono (q:=Bl (nx3+1)) fun j hj=>Nat.lt_of_lt_of_le hj.2 (by omega)
   simp only [bSa,↓bSb,f2,l2]
   refine kws (Bu5 k (nx3+1) _ _ _ f c3 x.cells (Nat.le_refl _) q3' (Az6 hc) (by omega) hf (fun e he=>(ho.e e he).1) fun hp6 nx6 hal6=>?_)
   have hle6:=hal6.le
   simp only [bSa,↓bSb]
   have g6:Al es.hp es.nx hp6 nx6:=⟨by omega,fun j hj=>by rw [hal6.same j (by omega),g5.same j hj]⟩
   refine EW.up x.cells.length (fun i es2=>Al hp6 nx6 es2.hp es2.nx∧rawE es2 (.t (.r (.r .o)))=.pt es.nx 0∧rawE es2 (.t (.r (.l (.r .o))))=.pt nx3 0∧rawE es2 (.t (.l (.r (.r .o))))=iv ((i+1:Nat))) ?_ ?_ (by omega)
   ·rintro i es2 hi2 ⟨g2,x6,x12,x13⟩
    unfold l59_2
    have hle2:=g2.le
    have e2:∀ j,j < nx3+1→es2.hp.get j=hp5.get j:=fun j hj=>by rw [g2.same j (by omega),hal6.same j hj]
    have hgA:=(e2 nx3 (by omega)).trans hg5
    have hgB:=(e2 es.nx (by omega)).trans hg15
    obtain ⟨⟨_,_,f2⟩,_,_,l2,lA⟩:=Aa7 hgA
    have v3:=q3'.keep (hp':=es2.hp) e2
    by_cases h6:i+1 < x.cells.length
    ·obtain ⟨p1,v1,rp1,rv1,_,_,lp1,_⟩:=cells_at v3 (show i < x.cells.length by omega)
     obtain ⟨p2,v2,rp2,rv2,_,_,lp2,_⟩:=cells_at v3 h6
     have hsub:binD .sub (.v (.int .i64 ((i+1:Nat):Int))) (.v (.int .i64 1))=some (.v (.int .i64 (i:Int))):=by rw [b_sub,wrap_in (by omega)]; congr 3; omega
     have hcmp:cmpL x.cells[i].pos x.cells[i+1].pos = -1:=Az6 hc i (i+1) (by omega) h6
     simp only [bSa,↓bSb,reduceCtorEq,x12,x13,f2,l2,v3.len,h6,hsub,Aa1 (n0:=es2.nx) (m:=15) hgA (show nx3 < es2.nx by omega),Ab8 v3 h6,Ab8 v3 (show i < x.cells.length by omega),Ae6 (k:=0) v3 h6,Ae6 (k:=0) v3 (show i < x.cells.length by omega),lp1,lp2,v3.rox (show nx3+1≤es2.nx by omega),Ai0 v3 (show nx3+1≤es2.nx by omega),Aw7 v3 (show nx3+1≤es2.nx by omega),rp1.rox (show nx3+1≤es2.nx by omega),rp2.rox (show nx3+1≤es2.nx by omega)]
     refine Aa0 rfl (Ad1 ?_)
     simp only [bR,reduceCtorEq,List.map_cons,List.map_nil]
     refine Ad8 (k+f+5) (nx3+1) _ _ _ p1 p2 _ _ (by omega) rp1 rp2 (ho.e _ (List.getElem_mem (show i < x.cells.length by omega))).1 ?_
     simp only [bSa,↓bSb,reduceCtorEq,x6,x12,x13,show decide (cmpL x.cells[i].pos x.cells[i+1].pos=0)=false by simp [hcmp],Aa2 (show i+1 < _ by omega)]
     exact ⟨by omega,g2.nx (by omega)⟩
    ·simp only [bSa,↓bSb,reduceCtorEq,x12,x13,f2,l2,v3.len,h6,lA]
     refine Ae2 (n:=3) (id:=es.nx) (ds:=[d3,a3,c3]) (by simp only [bR,reduceCtorEq,x6]) hgB (by simp only [evt,bR]; exact AR.live (q1.keep (hp':=es2.hp) fun j hj=>e2 j (by have:=hj.2; omega)) (q2.keep (hp':=es2.hp) fun j hj=>e2 j (by have:=hj.2; omega)) (q3.keep (hp':=es2.hp) fun j hj=>e2 j (by have:=hj.2; omega))) rfl rfl fun hp7 hg7 hk7=>?_
     simp only [bR] at hg7 hk7
     simp only [bSa,↓bSb,reduceCtorEq]
     have kp:∀ j,Bw es1.nx nx3 j→hp7.get j=hp5.get j:=fun j hj=>by rw [hk7 j (by have:=hj.1; omega),e2 j (by have:=hj.2; omega)]
     have up:∀ j,Bw es1.nx nx3 j→Bw es.nx es2.nx j:=fun j hj=>⟨by have:=hj.1; omega,by have:=hj.2; omega⟩
     refine ⟨_,_,Az7 (by simp only [bR,reduceCtorEq,bP,x6]) hg7 rfl,by rw [Bi3]; simp only [bR,bP,Ah7],hK _ _ _ ⟨by omega,fun j hj=>?_⟩ ⟨d3,a3,c3,rfl,(q1.keep kp).mono up,(q2.keep kp).mono up,(q3.keep kp).mono up⟩⟩
     rw [hk7 j (by omega),e2 j (by omega),g5.same j hj]
   ·simp only [bSa,reduceCtorEq,b6]
    rfl
 ·simp only [bSa,reduceCtorEq,a0,a1,a2]
  exact ⟨ha2,by omega,hg2⟩
end
end Go.DD

/- Contracts: a round of the program's merge. Conditions: those that each theorem states. -/
namespace Go.DD
open Go Go.Proofs
section
variable (k:Nat) (hp:Tr DObj) (nx:Nat) (K:DV→Tr DObj→Nat→Prop)
end
end Go.DD

/- Contracts: the program's merge. Conditions: those that each theorem states. -/
namespace Go.DD
open Go Go.Proofs
section
variable (k n0:Nat) (hp:Tr DObj) (nx:Nat) (K:DV→Tr DObj→Nat→Prop)
end
end Go.DD

/- Contracts: the program's Merged. Conditions: those that each theorem states. -/
namespace Go.DD
open Go Go.Proofs
section
variable (k n0:Nat) (hp:Tr DObj) (nx:Nat) (K:DV→Tr DObj→Nat→Prop)
end
end Go.DD
