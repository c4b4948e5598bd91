/- A part. -/
import Derived.Test.YtnphfnhhpcelbaaGreatYl
import Derived.Test.YtnphfnhhpcelbaaGreatYn
set_option linter.unusedSectionVars false
set_option linter.unusedVariables false
namespace Go.DD
open Go Go.Proofs
section
variable (k n0:Nat) (hp:Tr DObj) (nx:Nat) (K:DV->Tr DObj->Nat->Prop)
end
end Go.DD

/- Contracts: results that lie in cells; an empty array; a copied cell. Conditions: those that each theorem states. -/
namespace Go.DD
open Go Go.Proofs
theorem S8(es:ES)(t:Nat):Vv es (t,none)=some (Cg es.hp (Ad es (.t (Cq t)))):=rfl
theorem C36{es:ES}{t m id off T:Nat}{cs:List DV}(h5:Ad es (.t (Cq t))=.pt id off)(h6:es.hp.get id=some (.row T cs))(h7:m<=(cs.drop off).length):Vv es (t,some (some m))=some (.agg ((cs.drop off).take m)):=by
 show BR (some m) (.t (Cq t)) es=_
 unfold BR
 rw [h5]
 show Xs es.hp id (λ_ cs=>Sx (some m) (Lk off cs)) (none:Option DV)=_
 unfold Xs
 rw [Kn,h6]
 show Sx (some m) (Lk off cs)=_
 rw [Z9,jB]
 show (if m<=(cs.drop off).length then some (DV.agg ((cs.drop off).take m)) else none)=_
 rw [Af h7]
theorem uL{es:ES}{t m id T:Nat}{cs:List DV}(h5:Ad es (.t (Cq t))=.pt id 0)(h6:es.hp.get id=some (.row T cs))(h7:cs.length=m):Vv es (t,some (some m))=some (.agg cs):=by
 have:=C36 (m:=m) h5 h6 (by rw [Gb];omega)
 rw [Gb,Bq (by omega)] at this
 exact this
section
variable {tb:Nat->Option FE} {n:Nat} {rel:Nat->List DV->Option DV} {k f nt nx:Nat} {hp:Tr DObj} {ds:List DV} {c:CE} {K:DV->Tr DObj->Nat->Prop}
theorem yO{t:Nat}{k1:Option (Option Nat)}(hr:rel f ds=none)(hf:tb f=some ⟨c,[(t,k1)],nt⟩)(hn:ds.length<=nt)
  (h:∀ es,es.hp=hp->es.nx=nx->qF es ds->EW c (Hg tb n rel k) es λe es=>(e=.normal\/e=.ret)/\∃ d,Vv es (t,k1)=some d/\K d es.hp es.nx):KW (Hg tb n rel (k+1)) (.fn f) ds hp nx K:=
 bX hr hf hn λes h1 h2 h3=>(h es h1 h2 h3).mono λ_ es ⟨h4,d,h5,h6⟩=>⟨h4,d,by
  unfold Mo
  simp only [Gx,Ud,h5,Hd,Ge,Oy,Yv],h6⟩
theorem bW{t u:Nat}{k1 k2:Option (Option Nat)}(hr:rel f ds=none)(hf:tb f=some ⟨c,[(t,k1),(u,k2)],nt⟩)(hn:ds.length<=nt)
  (h:∀ es,es.hp=hp->es.nx=nx->qF es ds->EW c (Hg tb n rel k) es λe es=>(e=.normal\/e=.ret)/\∃ d b,Vv es (t,k1)=some d/\Vv es (u,k2)=some b/\K (.tup [d,b]) es.hp es.nx):KW (Hg tb n rel (k+1)) (.fn f) ds hp nx K:=
 bX hr hf hn λes h1 h2 h3=>(h es h1 h2 h3).mono λ_ es ⟨h4,d,b,h5,h6,h7⟩=>⟨h4,.tup [d,b],by
  unfold Mo
  simp only [Gx,Ud,h5,h6,Hd,Ge,Oy,Yv],h7⟩
end
section
variable (k n0:Nat) (hp:Tr DObj) (nx:Nat) (K:DV->Tr DObj->Nat->Prop)
end
end Go.DD

/- Contracts: copied cells. Conditions: those that each theorem states. -/
namespace Go.DD
open Go Go.Proofs
section
variable (k n0:Nat) (hp:Tr DObj) (nx:Nat) (K:DV->Tr DObj->Nat->Prop)
end
end Go.DD

/- Contracts: cells compared by a key. Conditions: those that each theorem states. -/
namespace Go.DD
open Go Go.Proofs
section
variable (k n0:Nat) (hp:Tr DObj) (nx:Nat) (K:DV->Tr DObj->Nat->Prop)
theorem Ck4(p v:DV)(c:PCell)(hn:n0<=nx)(h1:RL rInt hp (Bl n0) p c.pos)(h2:RL rVal hp (Bl n0) v c.vals)(hK:∀ An Bm,Al hp nx An Bm->K p An Bm):KW (kN (k+1)) (.fn 129) [.agg [p,v]] hp nx K:=by
 refine Es (Hl (by decide)) YD (Ab rfl) λes e1 e2 he=>?_
 have a0:Ad es (.t .o)=.agg [p,v]:=he 0 _ rfl
 unfold FP
 subst e1 e2
 simp only [↓Au]
 refine Xv (cs:=[p,v]) (by rw [Ha,a0];exact Wn h1 h2) λEi Dn Dd=>?_
 simp only [bR] at Dn Dd
 have Fk:Al es.hp es.nx Ei (es.nx+1):=⟨by omega,λj hj=>Dd j (by omega)⟩
 obtain ⟨⟨f0,f1⟩,l0,l1,_⟩:=Wl Dn
 simp only [As,↓Au,bP,f0,l0,(h1.ka hn Fk).live]
 exact hK _ _ Fk
def aW(hp:Tr DObj)(n0 bx:Nat):Prop:=bx<n0/\∃ T,hp.get bx=some (.row T [.fn (.func 129) [.tup []]])
theorem UA(p v q w:DV)(c e:PCell)(bx:Nat)(hn:n0<=nx)(hb:aW hp n0 bx)(h1:RL rInt hp (Bl n0) p c.pos)(h2:RL rVal hp (Bl n0) v c.vals)(h3:RL rInt hp (Bl n0) q e.pos)(h4:RL rVal hp (Bl n0) w e.vals)(hl:c.pos.length<900000)
  (hK:∀ An Bm,Al hp nx An Bm->K (iv (Cs c.pos e.pos)) An Bm):KW (kN (k+5)) (.fn 166) [.agg [p,v],.agg [q,w],.pt bx 0] hp nx K:=by
 refine Es (Hl (by decide)) XL (Ab rfl) λes e1 e2 he=>?_
 have a0:Ad es (.t .o)=.agg [p,v]:=he 0 _ rfl
 have a1:Ad es (.t (.l .o))=.agg [q,w]:=he 1 _ rfl
 have a2:Ad es (.t (.r .o))=.pt bx 0:=he 2 _ rfl
 unfold EZ
 subst e1 e2
 obtain ⟨kD,T,hb⟩:=hb
 simp only [↓Au]
 refine Xv (cs:=[p,v]) (by rw [Ha,a0];exact Wn h1 h2) λEi Dn Dd=>?_
 simp only [bR] at Dn Dd
 have Fk:Al es.hp es.nx Ei (es.nx+1):=⟨by omega,λj hj=>Dd j (by omega)⟩
 simp only [As,↓Au]
 refine Xv (cs:=[q,w]) (by simp only [Ha,bR,a1];exact Wn (h3.ka hn Fk) (h4.ka hn Fk)) λCw Fw Fa=>?_
 simp only [bR] at Fw Fa
 have Dh:Al es.hp es.nx Cw (es.nx+2):=⟨by omega,λj hj=>by rw [Fa j (by omega),Dd j (by omega)]⟩
 have eF:=(Fa es.nx (by omega)).trans Dn
 have aR:=(Dh.same bx (by omega)).trans hb
 obtain ⟨_,_,_,lA⟩:=Wl eF
 have r1:=h1.ka hn Dh
 have r2:=h2.ka hn Dh
 have r3:=h3.ka hn Dh
 have r4:=h4.ka hn Dh
 have rof:∀ (H:Tr DObj) an,Hh (.fn (.func 129) [.tup []]) (λid=>Cp (es.nx+1+1) 8 an H id):=λH an id hid=>by simp [DV.refs,DV.refsL] at hid
 simp only [As,↓Au,a2,qG aR,lA,Lp (n0:=es.nx+1+1) (m:=8) aR (show bx<es.nx+1+1 by omega),Lp (n0:=es.nx+1+1) (m:=8) eF (show es.nx<es.nx+1+1 by omega),Bf (rof _ _)]
 refine ⟨Kb (r1.rox (by omega)) (r2.rox (by omega)),?_⟩
 refine Ly rfl (T3 (fs:=[]) (cs:=[]) (by rw [Ha];simp only [bR];exact OT _ _) ?_)
 simp only [bR,Am,Az,Da,By]
 refine Ck4 (k+3) n0 _ _ _ p v c (by omega) r1 r2 λGn Dy Ev=>?_
 have Iw:=Ev.le
 have fL:=(Ev.same (es.nx+1) (by omega)).trans Fw
 have oR:=(Ev.same es.nx (by omega)).trans eF
 have SC:=(Ev.same bx (by omega)).trans aR
 obtain ⟨_,_,_,lB⟩:=Wl fL
 have x1:=r1.ka (nx:=es.nx+1+1+8) (by omega) Ev
 have x3:=r3.ka (nx:=es.nx+1+1+8) (by omega) Ev
 have x4:=r4.ka (nx:=es.nx+1+1+8) (by omega) Ev
 simp only [As,↓Au,a2,Iw,qG SC,lB,Lp (n0:=es.nx+1+1) (m:=8) SC (show bx<es.nx+1+1 by omega),Lp (n0:=es.nx+1+1) (m:=8) fL (show es.nx+1<es.nx+1+1 by omega),Bf (rof _ _)]
 refine ⟨Kb (x3.rox (by omega)) (x4.rox (by omega)),?_⟩
 refine Ly rfl (T3 (fs:=[]) (cs:=[]) (by rw [Ha];simp only [bR];exact OT _ _) ?_)
 simp only [bR,Am,Az,Da,By]
 refine Ck4 (k+3) n0 _ _ _ q w e (by omega) x3 x4 λFq Ma Mw=>?_
 have aM:=Mw.le
 have y1:=x1.ka (by omega) Mw
 have y3:=x3.ka (by omega) Mw
 have O5:=(Mw.same (es.nx+1) (by omega)).trans fL
 have hb4:=(Mw.same bx (by omega)).trans SC
 have LX:Al es.hp es.nx Fq Ma:=⟨by omega,λj hj=>by rw [Mw.same j (by omega),Ev.same j (by omega),Dh.same j hj]⟩
 simp only [As,↓Au,aM,y1.rox (show n0<=es.nx+1+1 by omega),y3.rox (show n0<=es.nx+1+1 by omega)]
 refine Ly rfl (Uy ?_)
 simp only [bR,Am,Az]
 refine F7 k n0 _ _ _ p q c.pos e.pos (by omega) y1 y3 hl ?_
 simp only [As,↓Au,bP,Ag]
 have eu:∀ d∈[q,w],Nk 6 d d=true:=λd hd=>by
  simp only [Ap,Cm,or_false] at hd
  rcases hd with rfl | rfl
  .exact h3.same (by decide)
  .exact h4.same (by decide)
 have eo:∀ d∈[DV.fn (.func 129) [.tup []]],Nk 6 d d=true:=λd hd=>by rw [Aj.1 hd];rfl
 have Gy:∀ {id:Nat} {o:DObj},Cw.get id=some o->Gn.get id=some o->Fq.get id=some o->∀ q∈[(⟨6,[2,5,0,1,3,4],Fq,Fq⟩:Past),⟨5,[3,4,2,0,1],Gn,Fq⟩,⟨2,[0,1],Cw,Gn⟩],q.a.get id=some o/\q.b.get id=some o:=λh2 h3 h4 q hq=>by
  simp only [Ap,Cm,or_false] at hq
  rcases hq with rfl | rfl | rfl
  .exact ⟨h4,h4⟩
  .exact ⟨h3,h4⟩
  .exact ⟨h2,h3⟩
 exact ⟨qK (λj hj=>by simpa [DV.refs] using hj) (by omega) (Gy Fw fL O5) eu (qK (λj hj=>by simpa [DV.refs] using hj) (by omega) (Gy aR SC hb4) eo rfl),hK _ _ LX⟩
end
end Go.DD

/- Contracts: sorting of cells that are sorted changes nothing: insertion. Conditions: those that each theorem states. -/
namespace Go.DD
open Go Go.Proofs
def Ll(bx:Nat):DV:=.fn (.func 166) [.tup [],.pt bx 0]
section
variable (k n0:Nat) (hp:Tr DObj) (nx:Nat) (K:DV->Tr DObj->Nat->Prop)
theorem Bm0(d:DV)(l:List PCell)(a b bx:Nat)(hn:n0<=nx)(hb:aW hp n0 bx)(h1:RL rCell hp (Bl n0) d l)(hs:Qr l)(aUx:a<=l.length)(Mb:b<=l.length)(hl:l.length<900000)(Js:∀ c∈l,c.pos.length<900000)
  (hK:∀ An Bm,Al hp nx An Bm->K (.tup []) An Bm):KW (kN (k+6)) (.fn 211) [d,iv (a:Nat),iv (b:Nat),Ll bx] hp nx K:=by
 refine Sf (Hl (by decide)) WZ (Ab rfl) λes e1 e2 he=>?_
 have a0:Ad es (.t .o)=d:=he 0 _ rfl
 have a1:Ad es (.t (.l .o))=iv (a:Nat):=he 1 _ rfl
 have a2:Ad es (.t (.r .o))=iv (b:Nat):=he 2 _ rfl
 have a3:Ad es (.t (.l (.l .o)))=Ll bx:=he 3 _ rfl
 unfold EJ
 subst e1 e2
 by_cases iL:a+1<b
 .have Ym:Dm .add (.v (.int .i64 (a:Int))) (.v (.int .i64 1))=some (.v (.int .i64 ((a+1:Nat):Int))):=Hz (show a<_ by omega)
  simp only [As,↓Au,a1,Ym]
  refine EW.up (b-(a+1)) (λt Ai=>Al es.hp es.nx Ai.hp Ai.nx/\Ad Ai (.t .o)=d/\Ad Ai (.t (.l .o))=iv (a:Nat)/\Ad Ai (.t (.r .o))=iv (b:Nat)/\Ad Ai (.t (.l (.l .o)))=Ll bx/\Ad Ai (.t (.r (.l (.l .o))))=iv ((a+1+t:Nat))) ?_ ?_ (by omega)
  .rintro t Ai ht ⟨g,b0,b1,b2,b3,b8⟩
   unfold tz
   have hle:=g.le
   have w1:=h1.ka hn g
   obtain ⟨kD,T,oZ⟩:=hb
   have Gz:=(g.same bx (by omega)).trans oZ
   by_cases h:a+1+t<b
   .simp only [As,↓Au,b2,b8,h]
    refine EW.l (I:=λ_ Cd=>Cd.hp=Ai.hp/\Cd.nx=Ai.nx/\Ad Cd (.t .o)=d/\Ad Cd (.t (.l .o))=iv (a:Nat)/\Ad Cd (.t (.r .o))=iv (b:Nat)/\Ad Cd (.t (.l (.l .o)))=Ll bx/\Ad Cd (.t (.r (.l (.l .o))))=iv ((a+1+t:Nat))/\Ad Cd (.t (.l (.r (.l .o))))=iv ((a+1+t:Nat))) ?_ 0 1000000 _ ?_ (by omega)
    .rintro n Cd ⟨q1,q2,x0,x1,x2,x3,x8,x9⟩
     unfold Cj9
     rw [<- q1] at w1 Gz
     have hi:a+1+t<l.length:=by omega
     have Wj:a+t<l.length:=by omega
     obtain ⟨pA,vA,Sn,Tv,ldA,_⟩:=Ek w1 hi
     obtain ⟨pB,vB,bB,aZ,K7,_⟩:=Ek w1 Wj
     have Oe:Dm .sub (.v (.int .i64 ((a+1+t:Nat):Int))) (.v (.int .i64 1))=some (.v (.int .i64 ((a+t:Nat):Int))):=by rw [Lo,Ej (by omega)];congr 3;omega
     have Et:=hs (a+t) (a+1+t) (by omega) hi
     have RZ:¬ Cs l[a+1+t].pos l[a+t].pos<0:=by rw [uU];omega
     have Gu:n0<=Cd.nx:=by omega
     have I2:∀ an,Hh (Ll bx) (λid=>Cp Cd.nx 17 an Cd.hp id):=λan=>(Yu _ _ _ _).2 (Lp Gz (by omega))
     simp only [As,↓Au,x0,x1,x3,x9,show a<a+1+t by omega,Oe,Yq w1 hi,Yq w1 Wj,ldA,K7,w1.rox Gu,U3 w1 Gu,Bf (I2 _)]
     refine ⟨⟨Kb (Sn.rox Gu) (Tv.rox Gu),Kb (bB.rox Gu) (aZ.rox Gu)⟩,?_⟩
     refine Ly rfl (T3 (f:=166) (fs:=[]) (cs:=[.pt bx 0]) (by rw [Ha];simp only [bR];exact UF Gz) ?_)
     simp only [bR,Am,Az,By,Iz]
     refine UA k n0 _ _ _ pA vA pB vB l[a+1+t] l[a+t] bx (by omega) ⟨kD,T,Gz⟩ Sn Tv bB aZ (Js _ (Be hi)) λGn Dy Ev=>?_
     have Iw:=Ev.le
     have g3:Al es.hp es.nx Gn Dy:=⟨by omega,λj hj=>by rw [Ev.same j (by omega),q1,g.same j hj]⟩
     simp only [As,↓Au,x0,x1,x2,x3,x8,RZ,Iw,Hz (show a+1+t<_ by omega)]
     exact ⟨by omega,g3,rfl⟩
    .simp only [As,b0,b1,b2,b3,b8]
   .simp only [As,↓Au,b2,b8,h]
    exact hK _ _ g
  .simp only [As,a0,a1,a2,a3]
 .have Ym:Dm .add (.v (.int .i64 (a:Int))) (.v (.int .i64 1))=some (.v (.int .i64 ((a+1:Nat):Int))):=Hz (show a<_ by omega)
  simp only [As,↓Au,a1,Ym]
  refine EW.l (I:=λ_ Ai=>Ai.hp=es.hp/\Ai.nx=es.nx/\Ad Ai (.t (.r .o))=iv (b:Nat)/\Ad Ai (.t (.r (.l (.l .o))))=iv ((a+1:Nat))) ?_ 0 1000000 _ ?_ (by omega)
  .rintro n Ai ⟨q1,q2,b2,b8⟩
   unfold tz
   simp only [As,↓Au,b2,b8,iL]
   rw [q1,q2]
   exact hK _ _ (Al.refl _ _)
  .simp only [As,a2]
end
end Go.DD

/- Contracts: sorting of cells that are sorted changes nothing: merging in place. Conditions: those that each theorem states. -/
namespace Go.DD
open Go Go.Proofs
theorem Zo{a:Nat}(h:a<18446744073709551616):Xr .u64 (.v (.int .i64 (a:Int)))=some (.v (.int .u64 (a:Int))):=by
 rw [B6,IntWalk.u64_in _ (by omega)]
theorem Zp{a:Nat}(h:a<9223372036854775808):Xr .i64 (.v (.int .u64 (a:Int)))=some (.v (.int .i64 (a:Int))):=by
 rw [B6,Ej (by omega)]
theorem ON{a:Nat} : Dm .shr (.v (.int .u64 (a:Int))) (.v (.int .u64 1))=some (.v (.int .u64 ((a / 2:Nat):Int))):=by
 have e:qO .shr .u64 (a:Int) (1:Int)=some (.int .u64 ((a / 2:Nat):Int)):=by
  unfold qO
  rw [Ae (by decide)]
  simp only [IntKind.bits]
  have h1:min (Int.toNat 1) 64=1:=by decide
  rw [h1]
  have:(a:Int).fdiv (2 ^ 1)=((a / 2:Nat):Int):=by
   rw [Int.fdiv_eq_ediv_of_nonneg _ (by decide)]
   simp
  rw [this]
 simp [Dm,Nv,Qm,e]
theorem xm{l:List PCell}(hs:Qr l){i j:Nat}(hj:j<l.length)(h:i<=j):¬ Cs (l[j]).pos (l[i]'(by omega)).pos<0:=by
 by_cases e:i=j
 .subst e;rw [eO];decide
 .have:=hs i j (by omega) hj
  rw [uU];omega
section
variable (k n0:Nat) (hp:Tr DObj) (nx:Nat) (K:DV->Tr DObj->Nat->Prop)
theorem Cr9(d:DV)(l:List PCell)(a b bx:Nat)(hn:n0<=nx)(hb:aW hp n0 bx)(h1:RL rCell hp (Bl n0) d l)(hs:Qr l)(iL:a+1<b)(Mb:b<=l.length)(hl:l.length<900000)(Js:∀ c∈l,c.pos.length<900000)
  (hK:∀ An Bm,Al hp nx An Bm->K (.tup []) An Bm):KW (kN (k+6)) (.fn 212) [d,iv (a:Nat),iv ((a+1:Nat)),iv (b:Nat),Ll bx] hp nx K:=by
 refine Sf (Hl (by decide)) G9 (Ab rfl) λes e1 e2 he=>?_
 have a0:Ad es (.t .o)=d:=he 0 _ rfl
 have a1:Ad es (.t (.l .o))=iv (a:Nat):=he 1 _ rfl
 have a2:Ad es (.t (.r .o))=iv ((a+1:Nat)):=he 2 _ rfl
 have a3:Ad es (.t (.l (.l .o)))=iv (b:Nat):=he 3 _ rfl
 have a4:Ad es (.t (.r (.l .o)))=Ll bx:=he 4 _ rfl
 unfold sQ
 subst e1 e2
 have Oe:Dm .sub (.v (.int .i64 ((a+1:Nat):Int))) (.v (.int .i64 (a:Int)))=some (.v (.int .i64 1)):=by rw [Lo,Ej (by omega)];congr 3;omega
 simp only [As,↓Au,a1,a2,a3,Oe]
 refine EW.l (I:=λj Ai=>a+1<=j/\j<=b/\Al es.hp es.nx Ai.hp Ai.nx/\Ad Ai (.t .o)=d/\Ad Ai (.t (.l .o))=iv (a:Nat)/\Ad Ai (.t (.r .o))=iv ((a+1:Nat))/\Ad Ai (.t (.r (.l .o)))=Ll bx/\Ad Ai (.t (.r (.r (.l .o))))=iv ((a+1:Nat))/\Ad Ai (.t (.l (.l (.r .o))))=iv (j:Nat)) ?_ b 1000000 _ ?_ (by omega)
 .rintro j Ai ⟨KP,Pj,g,b0,b1,b2,b4,b10,b11⟩
  unfold Ck0
  have hle:=g.le
  have w1:=h1.ka hn g
  obtain ⟨kD,T,oZ⟩:=hb
  have Gz:=(g.same bx (by omega)).trans oZ
  by_cases h:a+1<j
  .have aS:Dm .add (.v (.int .i64 ((a+1:Nat):Int))) (.v (.int .i64 (j:Int)))=some (.v (.int .i64 ((a+1+j:Nat):Int))):=lW (by omega)
   have hi:(a+1+j) / 2<l.length:=by omega
   have Wj:a<l.length:=by omega
   obtain ⟨pA,vA,Sn,Tv,ldA,_⟩:=Ek w1 hi
   obtain ⟨pB,vB,bB,aZ,K7,_⟩:=Ek w1 Wj
   have Xj:=xm hs hi (show a<=(a+1+j) / 2 by omega)
   have Gu:n0<=Ai.nx:=by omega
   have I2:∀ an,Hh (Ll bx) (λid=>Cp Ai.nx 11 an Ai.hp id):=λan=>(Yu _ _ _ _).2 (Lp Gz (by omega))
   simp only [As,↓Au,bP,b0,b1,b4,b10,b11,h,aS,Zo (show a+1+j<_ by omega),ON,Zp (show (a+1+j) / 2<_ by omega),Yq w1 hi,Yq w1 Wj,ldA,K7,w1.rox Gu,U3 w1 Gu,Bf (I2 _)]
   refine ⟨⟨Kb (Sn.rox Gu) (Tv.rox Gu),Kb (bB.rox Gu) (aZ.rox Gu)⟩,?_⟩
   refine Ly rfl (T3 (f:=166) (fs:=[]) (cs:=[.pt bx 0]) (by rw [Ha];simp only [bR];exact UF Gz) ?_)
   simp only [bR,Am,Az,By,Iz]
   refine UA k n0 _ _ _ pA vA pB vB l[(a+1+j) / 2] l[a] bx (by omega) ⟨kD,T,Gz⟩ Sn Tv bB aZ (Js _ (Be hi)) λGn Dy Ev=>?_
   have Iw:=Ev.le
   have g3:Al es.hp es.nx Gn Dy:=⟨by omega,λj hj=>by rw [Ev.same j (by omega),g.same j hj]⟩
   simp only [As,↓Au,b0,b1,b2,b4,b10,Xj,Iw]
   exact ⟨(a+1+j) / 2,by omega,by omega,by omega,g3,rfl⟩
  .simp only [As,↓Au,b1,b10,b11,h]
   have Mi:Dm .sub (.v (.int .i64 ((a+1:Nat):Int))) (.v (.int .i64 1))=some (.v (.int .i64 (a:Int))):=by rw [Lo,Ej (by omega)];congr 3;omega
   refine EW.l (I:=λ_ Cd=>Cd.hp=Ai.hp/\Cd.nx=Ai.nx/\Ad Cd (.t (.r (.r (.l .o))))=iv ((a+1:Nat))/\Ad Cd (.t (.l (.r (.r .o))))=iv (a:Nat)) ?_ 0 1000000 _ ?_ (by omega)
   .rintro n Cd ⟨q1,q2,x10,jD⟩
    unfold Ck1
    simp only [As,↓Au,x10,jD,Mi,Il]
    rw [q1,q2]
    exact hK _ _ g
   .simp only [As,b10]
 .simp only [As,a0,a1,a2,a4]
  omega
theorem Cs0(d:DV)(l:List PCell)(a m bx:Nat)(hn:n0<=nx)(hb:aW hp n0 bx)(h1:RL rCell hp (Bl n0) d l)(hs:Qr l)(SE:a+1<m)(Mb:m+1<=l.length)(hl:l.length<900000)(Js:∀ c∈l,c.pos.length<900000)
  (hK:∀ An Bm,Al hp nx An Bm->K (.tup []) An Bm):KW (kN (k+6)) (.fn 212) [d,iv (a:Nat),iv (m:Nat),iv ((m+1:Nat)),Ll bx] hp nx K:=by
 refine Sf (Hl (by decide)) G9 (Ab rfl) λes e1 e2 he=>?_
 have a0:Ad es (.t .o)=d:=he 0 _ rfl
 have a1:Ad es (.t (.l .o))=iv (a:Nat):=he 1 _ rfl
 have a2:Ad es (.t (.r .o))=iv (m:Nat):=he 2 _ rfl
 have a3:Ad es (.t (.l (.l .o)))=iv ((m+1:Nat)):=he 3 _ rfl
 have a4:Ad es (.t (.r (.l .o)))=Ll bx:=he 4 _ rfl
 unfold sQ
 subst e1 e2
 have Oe:Dm .sub (.v (.int .i64 ((m+1:Nat):Int))) (.v (.int .i64 (m:Int)))=some (.v (.int .i64 1)):=by rw [Lo,Ej (by omega)];congr 3;omega
 have IY:Dm .sub (.v (.int .i64 (m:Int))) (.v (.int .i64 (a:Int)))=some (.v (.int .i64 ((m-a:Nat):Int))):=by rw [Lo,Ej (by omega)];congr 3;omega
 simp only [As,↓Au,a1,a2,a3,Oe,IY,show ¬ ((m-a:Nat):Int)=1 by omega]
 refine EW.l (I:=λn Ai=>∃ i,n=m-i/\a<=i/\i<=m/\Al es.hp es.nx Ai.hp Ai.nx/\Ad Ai (.t .o)=d/\Ad Ai (.t (.r .o))=iv (m:Nat)/\Ad Ai (.t (.r (.l .o)))=Ll bx/\Ad Ai (.t (.r (.r (.r .o))))=iv (i:Nat)/\Ad Ai (.t (.l (.l (.l (.l .o)))))=iv (m:Nat)) ?_ (m-a) 1000000 _ ?_ (by omega)
 .rintro n Ai ⟨i,bD,W4,Ic,g,b0,b2,b4,b14,b15⟩
  unfold Ck2
  have hle:=g.le
  have w1:=h1.ka hn g
  obtain ⟨kD,T,oZ⟩:=hb
  have Gz:=(g.same bx (by omega)).trans oZ
  by_cases h:i<m
  .have aS:Dm .add (.v (.int .i64 (i:Int))) (.v (.int .i64 (m:Int)))=some (.v (.int .i64 ((i+m:Nat):Int))):=lW (by omega)
   have hi:(i+m) / 2<l.length:=by omega
   have Wj:m<l.length:=by omega
   obtain ⟨pA,vA,Sn,Tv,ldA,_⟩:=Ek w1 hi
   obtain ⟨pB,vB,bB,aZ,K7,_⟩:=Ek w1 Wj
   have Xj:=xm hs Wj (show (i+m) / 2<=m by omega)
   have Gu:n0<=Ai.nx:=by omega
   have I2:∀ an,Hh (Ll bx) (λid=>Cp Ai.nx 12 an Ai.hp id):=λan=>(Yu _ _ _ _).2 (Lp Gz (by omega))
   simp only [As,↓Au,bP,b0,b2,b4,b14,b15,h,aS,Zo (show i+m<_ by omega),ON,Zp (show (i+m) / 2<_ by omega),Yq w1 hi,Yq w1 Wj,ldA,K7,w1.rox Gu,U3 w1 Gu,Bf (I2 _)]
   refine ⟨⟨Kb (bB.rox Gu) (aZ.rox Gu),Kb (Sn.rox Gu) (Tv.rox Gu)⟩,?_⟩
   refine Ly rfl (T3 (f:=166) (fs:=[]) (cs:=[.pt bx 0]) (by rw [Ha];simp only [bR];exact UF Gz) ?_)
   simp only [bR,Am,Az,By,Iz]
   refine UA k n0 _ _ _ pB vB pA vA l[m] l[(i+m) / 2] bx (by omega) ⟨kD,T,Gz⟩ bB aZ Sn Tv (Js _ (Be Wj)) λGn Dy Ev=>?_
   have Iw:=Ev.le
   have g3:Al es.hp es.nx Gn Dy:=⟨by omega,λj hj=>by rw [Ev.same j (by omega),g.same j hj]⟩
   simp only [As,↓Au,b0,b2,b4,b15,Xj,Iw,Hz (show (i+m) / 2<_ by omega)]
   exact ⟨m-((i+m) / 2+1),by omega,(i+m) / 2+1,rfl,by omega,by omega,g3,rfl⟩
  .have Ty:i=m:=by omega
   subst Ty
   simp only [As,↓Au,b2,b14,b15,Il]
   refine EW.l (I:=λ_ Cd=>Cd.hp=Ai.hp/\Cd.nx=Ai.nx/\Ad Cd (.t (.r (.r (.r .o))))=iv (i:Nat)/\Ad Cd (.t (.l (.r (.l (.l .o)))))=iv (i:Nat)) ?_ 0 1000000 _ ?_ (by omega)
   .rintro n Cd ⟨q1,q2,bN,x17⟩
    unfold Ck3
    simp only [As,↓Au,bN,x17,Il]
    rw [q1,q2]
    exact hK _ _ g
   .simp only [As,b14]
 .refine ⟨a,?_⟩
  simp only [As,a0,a2,a4]
  omega
end
end Go.DD

/- Contracts: sorting of cells that are sorted changes nothing: merging in place, the general step. Conditions: those that each theorem states. -/
namespace Go.DD
open Go Go.Proofs
theorem GB:Cq 131=(.l (.l (.r (.l (.l (.l (.l .o))))))):=rfl
theorem sR:Cq 133=(.l (.r (.r (.l (.l (.l (.l .o))))))):=rfl
theorem ZF:Cq 154=(.r (.r (.l (.r (.r (.l (.l .o))))))):=rfl
theorem ZE:Cq 156=(.r (.l (.r (.r (.r (.l (.l .o))))))):=rfl
section
variable (k n0:Nat)
theorem B01(d:DV)(l:List PCell)(bx s0 r p:Nat)(x1 x2 x3 sB vM:DV)(hs:Qr l)(hl:l.length<900000)(Js:∀ c∈l,c.pos.length<900000){es:ES}{Q:Exit->ES->Prop}(hn:n0<=es.nx)(hb:aW es.hp n0 bx)(h1:RL rCell es.hp (Bl n0) d l)(qT:s0<=r)(hr:r<900000)(hc:∀ c,s0<=c->c<r->c+c<=p/\p-c<l.length)
  (a0:Ad es (.t .o)=d) (a1:Ad es (.t (.l .o))=x1) (a2:Ad es (.t (.r .o))=x2) (a3:Ad es (.t (.l (.l .o)))=x3) (a4:Ad es (.t (.r (.l .o)))=Ll bx) (a18:Ad es (.t (.r (.r (.l (.l .o)))))=sB) (a19:Ad es (.t (.l (.l (.r (.l .o)))))=vM) (tv:Ad es (.t (.r (.l (.r (.l .o)))))=iv (s0:Nat)) (tu:Ad es (.t (.l (.r (.r (.l .o)))))=iv (r:Nat)) (a22:Ad es (.t (.r (.r (.r (.l .o)))))=iv (p:Nat))
  (hQ:∀ Cd:ES,Al es.hp es.nx Cd.hp Cd.nx->Ad Cd (.t .o)=d->Ad Cd (.t (.l .o))=x1->Ad Cd (.t (.r .o))=x2->Ad Cd (.t (.l (.l .o)))=x3->Ad Cd (.t (.r (.l .o)))=Ll bx->Ad Cd (.t (.r (.r (.l (.l .o)))))=sB->Ad Cd (.t (.l (.l (.r (.l .o)))))=vM->Ad Cd (.t (.r (.l (.r (.l .o)))))=iv (r:Nat)->Q (.exit 8) Cd):EW (cL 1000000 xh) (kN (k+5)) es Q:=by
 refine EW.l (I:=λn Ai=>∃ i,n=r-i/\s0<=i/\i<=r/\Al es.hp es.nx Ai.hp Ai.nx/\Ad Ai (.t .o)=d/\Ad Ai (.t (.l .o))=x1/\Ad Ai (.t (.r .o))=x2/\Ad Ai (.t (.l (.l .o)))=x3/\Ad Ai (.t (.r (.l .o)))=Ll bx/\Ad Ai (.t (.r (.r (.l (.l .o)))))=sB/\Ad Ai (.t (.l (.l (.r (.l .o)))))=vM/\Ad Ai (.t (.r (.l (.r (.l .o)))))=iv (i:Nat)/\Ad Ai (.t (.l (.r (.r (.l .o)))))=iv (r:Nat)/\Ad Ai (.t (.r (.r (.r (.l .o)))))=iv (p:Nat)) ?_ (r-s0) 1000000 _ ⟨s0,rfl,Ag _,qT,Al.refl _ _,a0,a1,a2,a3,a4,a18,a19,tv,tu,a22⟩ (by omega)
 rintro n Ai ⟨i,bD,W4,Ic,g,b0,b1,b2,b3,b4,OA,NZ,rI,iR,S2⟩
 unfold xh
 have hle:=g.le
 have w1:=h1.ka hn g
 obtain ⟨kD,T,oZ⟩:=hb
 have Gz:=(g.same bx (by omega)).trans oZ
 by_cases h:i<r
 .obtain ⟨lO,Xz⟩:=hc ((i+r) / 2) (by omega) (by omega)
  obtain ⟨c,LM⟩:∃ c,c=(i+r) / 2:=⟨_,rfl⟩
  rw [<- LM] at lO Xz
  have aS:Dm .add (.v (.int .i64 (i:Int))) (.v (.int .i64 (r:Int)))=some (.v (.int .i64 ((i+r:Nat):Int))):=lW (by omega)
  have hh:Dm .shr (.v (.int .u64 ((i+r:Nat):Int))) (.v (.int .u64 1))=some (.v (.int .u64 (c:Int))):=by rw [ON,<- LM]
  have Oe:Dm .sub (.v (.int .i64 (p:Int))) (.v (.int .i64 (c:Int)))=some (.v (.int .i64 ((p-c:Nat):Int))):=by rw [Lo,Ej (by omega)];congr 3;omega
  have hi:c<l.length:=by omega
  obtain ⟨pA,vA,Sn,Tv,ldA,_⟩:=Ek w1 hi
  obtain ⟨pB,vB,bB,aZ,K7,_⟩:=Ek w1 Xz
  have Xj:=xm hs Xz (show c<=p-c by omega)
  have Gu:n0<=Ai.nx:=by omega
  have I2:∀ an,Hh (Ll bx) (λid=>Cp Ai.nx 14 an Ai.hp id):=λan=>(Yu _ _ _ _).2 (Lp Gz (by omega))
  simp only [As,↓Au,b0,b4,rI,iR,S2,h,aS,hh,Oe,ZF,ZE,Zo (show i+r<_ by omega),Zp (show c<_ by omega),Yq w1 hi,Yq w1 Xz,ldA,K7,w1.rox Gu,U3 w1 Gu,Bf (I2 _)]
  refine ⟨⟨Kb (bB.rox Gu) (aZ.rox Gu),Kb (Sn.rox Gu) (Tv.rox Gu)⟩,?_⟩
  refine Ly rfl (T3 (f:=166) (fs:=[]) (cs:=[.pt bx 0]) (by rw [Ha];simp only [bR];exact UF Gz) ?_)
  simp only [bR,Am,Az,By,Iz]
  refine UA k n0 _ _ _ pB vB pA vA l[p-c] l[c] bx (by omega) ⟨kD,T,Gz⟩ bB aZ Sn Tv (Js _ (Be Xz)) λGn Dy Ev=>?_
  have Iw:=Ev.le
  have g3:Al es.hp es.nx Gn Dy:=⟨by omega,λj hj=>by rw [Ev.same j (by omega),g.same j hj]⟩
  simp only [As,↓Au,b0,b1,b2,b3,b4,OA,NZ,iR,S2,Xj,Iw,Hz (show c<_ by omega)]
  exact ⟨r-(c+1),by omega,c+1,rfl,by omega,by omega,g3,rfl⟩
 .have hir:i=r:=by omega
  subst hir
  simp only [As,↓Au,rI,iR,Il]
  refine hQ _ g ?_ ?_ ?_ ?_ ?_ ?_ ?_ ?_ <;> simp only [bR] <;> assumption
theorem Ck5(d:DV)(l:List PCell)(bx:Nat)(hs:Qr l)(hl:l.length<900000)(Js:∀ c∈l,c.pos.length<900000):∀ (f a m b:Nat) (hp:Tr DObj) (nx:Nat) (K:DV->Tr DObj->Nat->Prop) (_:n0<=nx) (_:aW hp n0 bx) (_:RL rCell hp (Bl n0) d l) (_:a<m) (_:m<b) (_:b<=l.length) (_:b-a<=2 ^ f)
  (_:∀ An Bm,Al hp nx An Bm->K (.tup []) An Bm),KW (kN (k+f+6)) (.fn 212) [d,iv (a:Nat),iv (m:Nat),iv (b:Nat),Ll bx] hp nx K:=by
 intro f
 induction f with
 | zero=>intro a m b hp nx K _ _ _ h1 h2 _ h3 _;omega
 | succ f ih=>
  intro a m b hp nx K hn hb h1 SE iy Mb hf hK
  by_cases c1:m=a+1
  .subst c1
   exact Cr9 (k+f+1) n0 hp nx K d l a b bx hn hb h1 hs iy Mb hl Js hK
  .by_cases c2:b=m+1
   .subst c2
    exact Cs0 (k+f+1) n0 hp nx K d l a m bx hn hb h1 hs (by omega) Mb hl Js hK
   .show KW (kN (k+f+6+1)) _ _ _ _ _
    refine Sf (Hl (by decide)) G9 (Ab rfl) λes e1 e2 he=>?_
    have a0:Ad es (.t .o)=d:=he 0 _ rfl
    have a1:Ad es (.t (.l .o))=iv (a:Nat):=he 1 _ rfl
    have a2:Ad es (.t (.r .o))=iv (m:Nat):=he 2 _ rfl
    have a3:Ad es (.t (.l (.l .o)))=iv (b:Nat):=he 3 _ rfl
    have a4:Ad es (.t (.r (.l .o)))=Ll bx:=he 4 _ rfl
    unfold sQ
    subst e1 e2
    have Cw:2 ^ (f+1)=2*2 ^ f:=by rw [Nat.pow_succ];omega
    rw [Cw] at hf
    generalize 2 ^ f=F at hf ih
    obtain ⟨M,hM⟩:∃ M,M=(a+b) / 2:=⟨_,rfl⟩
    have Mi:Dm .sub (.v (.int .i64 (m:Int))) (.v (.int .i64 (a:Int)))=some (.v (.int .i64 ((m-a:Nat):Int))):=by rw [Lo,Ej (by omega)];congr 3;omega
    have Uj:Dm .sub (.v (.int .i64 (b:Int))) (.v (.int .i64 (m:Int)))=some (.v (.int .i64 ((b-m:Nat):Int))):=by rw [Lo,Ej (by omega)];congr 3;omega
    have Ym:Dm .add (.v (.int .i64 (a:Int))) (.v (.int .i64 (b:Int)))=some (.v (.int .i64 ((a+b:Nat):Int))):=lW (by omega)
    have aT:Dm .add (.v (.int .i64 (M:Int))) (.v (.int .i64 (m:Int)))=some (.v (.int .i64 ((M+m:Nat):Int))):=lW (by omega)
    have aI:Dm .sub (.v (.int .i64 ((M+m:Nat):Int))) (.v (.int .i64 1))=some (.v (.int .i64 ((M+m-1:Nat):Int))):=by rw [Lo,Ej (by omega)];congr 3;omega
    have hh:Dm .shr (.v (.int .u64 ((a+b:Nat):Int))) (.v (.int .u64 1))=some (.v (.int .u64 (M:Int))):=by rw [ON,<- hM]
    by_cases cm:M<m
    .have Ui:Dm .sub (.v (.int .i64 ((M+m:Nat):Int))) (.v (.int .i64 (b:Int)))=some (.v (.int .i64 ((M+m-b:Nat):Int))):=by rw [Lo,Ej (by omega)];congr 3;omega
     simp only [As,↓Au,a1,a2,a3,Mi,Uj,Ym,aT,Ui,aI,hh,GB,sR,show ¬ ((m-a:Nat):Int)=1 by omega,show ¬ ((b-m:Nat):Int)=1 by omega,Zo (show a+b<_ by omega),Zp (show M<_ by omega),cm]
     refine B01 (k+f+1) n0 d l bx (M+m-b) M (M+m-1) (iv (a:Nat)) (iv (m:Nat)) (iv (b:Nat)) (iv (M:Nat)) (iv ((M+m:Nat))) hs hl Js hn hb h1 (by omega) (by omega) (λc h3 h4=>⟨by omega,by omega⟩) (by simp only [bR,a0]) (by simp only [bR,a1]) (by simp only [bR,a2]) (by simp only [bR,a3]) (by simp only [bR,a4]) (by simp only [bR]) (by simp only [bR]) (by simp only [bR]) (by simp only [bR]) (by simp only [bR]) λCd g x0 x1 x2 x3 x4 sB vM QI=>?_
     have g:Al es.hp es.nx Cd.hp Cd.nx:=g
     have kD:=hb.1
     have hle:=g.le
     have tJ:Dm .sub (.v (.int .i64 ((M+m:Nat):Int))) (.v (.int .i64 (M:Int)))=some (.v (.int .i64 (m:Int))):=by rw [Lo,Ej (by omega)];congr 3;omega
     simp only [As,↓Au,x0,x1,x2,x3,x4,sB,vM,QI,tJ,cm,Il,show a<M by omega,iy]
     refine Fh (ih M m b _ _ _ (by have:=g.le;omega) ⟨hb.1,by obtain ⟨_,T,h⟩:=hb;exact ⟨T,(g.same _ (by omega)).trans h⟩⟩ (h1.ka hn g) cm iy Mb (by omega) λGn Dy Ev=>?_)
     simp only [As,↓Au]
     exact hK _ _ (g.trans Ev)
    .simp only [As,↓Au,a1,a2,a3,Mi,Uj,Ym,aT,aI,hh,GB,sR,show ¬ ((m-a:Nat):Int)=1 by omega,show ¬ ((b-m:Nat):Int)=1 by omega,Zo (show a+b<_ by omega),Zp (show M<_ by omega),cm]
     refine B01 (k+f+1) n0 d l bx a m (M+m-1) (iv (a:Nat)) (iv (m:Nat)) (iv (b:Nat)) (iv (M:Nat)) (iv ((M+m:Nat))) hs hl Js hn hb h1 (by omega) (by omega) (λc h3 h4=>⟨by omega,by omega⟩) (by simp only [bR,a0]) (by simp only [bR,a1]) (by simp only [bR,a2]) (by simp only [bR,a3]) (by simp only [bR,a4]) (by simp only [bR]) (by simp only [bR]) (by simp only [bR]) (by simp only [bR]) (by simp only [bR]) λCd g x0 x1 x2 x3 x4 sB vM QI=>?_
     have g:Al es.hp es.nx Cd.hp Cd.nx:=g
     have kD:=hb.1
     have hle:=g.le
     have tJ:Dm .sub (.v (.int .i64 ((M+m:Nat):Int))) (.v (.int .i64 (m:Int)))=some (.v (.int .i64 (M:Int))):=by rw [Lo,Ej (by omega)];congr 3;omega
     by_cases ce:m<M
     .simp only [As,↓Au,x0,x1,x2,x4,sB,vM,QI,tJ,Il,SE,ce]
      refine Fh (ih a m M _ _ _ (by have:=g.le;omega) ⟨hb.1,by obtain ⟨_,T,h⟩:=hb;exact ⟨T,(g.same _ (by omega)).trans h⟩⟩ (h1.ka hn g) SE ce (by omega) (by omega) λGn Dy Ev=>?_)
      simp only [As,↓Au,sB,Il]
      exact hK _ _ (g.trans Ev)
     .simp only [As,↓Au,x1,x2,sB,vM,QI,tJ,Il,SE,ce]
      exact hK _ _ g
end
end Go.DD

/- Contracts: a stable sort of sorted cells changes nothing. Conditions: those that each theorem states. -/
namespace Go.DD
open Go Go.Proofs
section
variable (k n0:Nat) (hp:Tr DObj) (nx:Nat) (K:DV->Tr DObj->Nat->Prop)
theorem B02(f:Nat)(d:DV)(l:List PCell)(bx:Nat)(hn:n0<=nx)(hb:aW hp n0 bx)(h1:RL rCell hp (Bl n0) d l)(hs:Qr l)(hl:l.length<400000)(hf:l.length<=2 ^ f)(Js:∀ c∈l,c.pos.length<900000)
  (hK:∀ An Bm,Al hp nx An Bm->K (.tup []) An Bm):KW (kN (k+f+7)) (.fn 187) [d,iv l.length,Ll bx] hp nx K:=by
 refine Sf (Hl (by decide)) XC (Ab rfl) λes e1 e2 he=>?_
 have a0:Ad es (.t .o)=d:=he 0 _ rfl
 have a1:Ad es (.t (.l .o))=iv l.length:=he 1 _ rfl
 have a2:Ad es (.t (.r .o))=Ll bx:=he 2 _ rfl
 unfold EM
 subst e1 e2
 have kD:=hb.1
 have tB:∀ {An Bm},Al es.hp es.nx An Bm->aW An n0 bx:=λg=>⟨hb.1,by obtain ⟨_,T,h⟩:=hb;exact ⟨T,(g.same _ (by omega)).trans h⟩⟩
 simp only [As,↓Au]
 refine EW.l (I:=λm Ai=>∃ a,m=l.length-a/\a<=l.length/\Al es.hp es.nx Ai.hp Ai.nx/\Ad Ai (.t .o)=d/\Ad Ai (.t (.l .o))=iv l.length/\Ad Ai (.t (.r .o))=Ll bx/\Ad Ai (.t (.r (.r .o)))=iv ((20:Nat))/\Ad Ai (.t (.l (.l (.l .o))))=iv (a:Nat)/\Ad Ai (.t (.r (.l (.l .o))))=iv ((a+20:Nat))) ?_ l.length 1000000 _ ?_ (by omega)
 .rintro m Ai ⟨a,hm,ha,g,b0,b1,b2,b6,b7,b8⟩
  unfold Cj6
  have hle:=g.le
  by_cases h:a+20<=l.length
  .simp only [As,↓Au,b0,b1,b2,b7,b8,h]
   refine Fh (Bm0 (k+f) n0 _ _ _ d l a (a+20) bx (by omega) (tB g) (h1.ka hn g) hs (by omega) h (by omega) Js λGn Dy Ev=>?_)
   simp only [As,↓Au,b0,b1,b2,b6,b8,lW (show a+20+20<_ by omega)]
   exact ⟨l.length-(a+20),by omega,a+20,rfl,h,g.trans Ev,rfl,rfl⟩
  .simp only [As,↓Au,b0,b1,b2,b7,b8,h]
   refine Fh (Bm0 (k+f) n0 _ _ _ d l a l.length bx (by omega) (tB g) (h1.ka hn g) hs ha (Ag _) (by omega) Js λGn Dy Ev=>?_)
   have g3:=g.trans Ev
   simp only [As,↓Au]
   refine EW.l (I:=λm Cd=>∃ bs,m=l.length-bs/\1<=bs/\bs<=400000+400000/\Al es.hp es.nx Cd.hp Cd.nx/\Ad Cd (.t .o)=d/\Ad Cd (.t (.l .o))=iv l.length/\Ad Cd (.t (.r .o))=Ll bx/\Ad Cd (.t (.r (.r .o)))=iv (bs:Nat)) ?_ (l.length-20) 1000000 _ ?_ (by omega)
   .rintro m2 Cd ⟨bs,oJ,P9,aUq,g2,x0,x1,x2,x6⟩
    unfold Cj8
    have Gu:=g2.le
    by_cases h2:bs<l.length
    .have hmul:Dm .mul (.v (.int .i64 2)) (.v (.int .i64 (bs:Int)))=some (.v (.int .i64 ((2*bs:Nat):Int))):=by rw [qC,Ej (by omega)];congr 3
     simp only [As,↓Au,x1,x6,h2,hmul]
     refine EW.l (I:=λm Kj=>∃ a,m=l.length-a/\a<=l.length/\Al es.hp es.nx Kj.hp Kj.nx/\Ad Kj (.t .o)=d/\Ad Kj (.t (.l .o))=iv l.length/\Ad Kj (.t (.r .o))=Ll bx/\Ad Kj (.t (.r (.r .o)))=iv (bs:Nat)/\Ad Kj (.t (.l (.l (.l .o))))=iv (a:Nat)/\Ad Kj (.t (.r (.l (.l .o))))=iv ((a+2*bs:Nat))) ?_ l.length 1000000 _ ?_ (by omega)
     .rintro m3 Kj ⟨a,hm3,fS,g4,y0,y1,y2,y6,y7,y8⟩
      unfold Cj7
      have aM:=g4.le
      have aS:Dm .add (.v (.int .i64 (a:Int))) (.v (.int .i64 (bs:Int)))=some (.v (.int .i64 ((a+bs:Nat):Int))):=lW (by omega)
      by_cases h5:a+2*bs<=l.length
      .simp only [As,↓Au,y0,y1,y2,y6,y7,y8,h5,aS]
       refine Fh (Ck5 k n0 d l bx hs (by omega) Js f a (a+bs) (a+2*bs) _ _ _ (by omega) (tB g4) (h1.ka hn g4) (by omega) (by omega) h5 (by omega) λGr Ia Jp=>?_)
       simp only [As,↓Au,y0,y1,y2,y6,y8,hmul,lW (show a+2*bs+2*bs<_ by omega)]
       exact ⟨l.length-(a+2*bs),by omega,a+2*bs,rfl,h5,g4.trans Jp,rfl,rfl⟩
      .by_cases h6:a+bs<l.length
       .simp only [As,↓Au,y0,y1,y2,y6,y7,y8,h5,h6,aS]
        refine Fh (Ck5 k n0 d l bx hs (by omega) Js f a (a+bs) l.length _ _ _ (by omega) (tB g4) (h1.ka hn g4) (by omega) h6 (Ag _) (by omega) λGr Ia Jp=>?_)
        have lj:Dm .mul (.v (.int .i64 (bs:Int))) (.v (.int .i64 2))=some (.v (.int .i64 ((bs*2:Nat):Int))):=by rw [qC,Ej (by omega)];congr 3
        simp only [As,↓Au,y0,y1,y2,y6,lj]
        exact ⟨l.length-bs*2,by omega,bs*2,rfl,by omega,by omega,g4.trans Jp,rfl⟩
       .have lj:Dm .mul (.v (.int .i64 (bs:Int))) (.v (.int .i64 2))=some (.v (.int .i64 ((bs*2:Nat):Int))):=by rw [qC,Ej (by omega)];congr 3
        simp only [As,↓Au,y0,y1,y2,y6,y7,y8,h5,h6,aS,lj]
        exact ⟨l.length-bs*2,by omega,bs*2,rfl,by omega,by omega,g4,rfl⟩
     .refine ⟨0,?_⟩
      simp only [As,x0,x1,x2,x6]
      refine ⟨by omega,by omega,g2,?_⟩
      first | rfl | rw [Df] | simp
    .simp only [As,↓Au,x1,x6,h2]
     exact hK _ _ g2
   .refine ⟨20,?_⟩
    simp only [As,b0,b1,b2,b6]
    exact ⟨by omega,by omega,g3⟩
 .refine ⟨0,?_⟩
  simp only [As,a0,a1,a2]
  exact ⟨by omega,by omega,rfl⟩
end
end Go.DD

/- Contracts: sorting of sorted cells by a key changes nothing. Conditions: those that each theorem states. -/
namespace Go.DD
open Go Go.Proofs
section
variable (k n0:Nat) (hp:Tr DObj) (nx:Nat) (K:DV->Tr DObj->Nat->Prop)
theorem A68(f:Nat)(d:DV)(l:List PCell)(bx:Nat)(hn:n0<=nx)(hb:aW hp n0 bx)(h1:RL rCell hp (Bl n0) d l)(hs:Qr l)(hl:l.length<400000)(hf:l.length<=2 ^ f)(Js:∀ c∈l,c.pos.length<900000)
  (hK:∀ An Bm,Al hp nx An Bm->K (.tup []) An Bm):KW (kN (k+f+8)) (.fn 165) [d,Ll bx] hp nx K:=by
 refine Sf (Hl (by decide)) XM (Ab rfl) λes e1 e2 he=>?_
 have a0:Ad es (.t .o)=d:=he 0 _ rfl
 have a1:Ad es (.t (.l .o))=Ll bx:=he 1 _ rfl
 unfold FA
 subst e1 e2
 simp only [As,↓Au,a0,a1,h1.len]
 refine Fh (B02 k n0 _ _ _ f d l bx hn hb h1 hs hl hf Js λGn Dy Ev=>?_)
 simp only [As,↓Au]
 exact hK _ _ Ev
theorem B03(f:Nat)(d:DV)(l:List PCell)(hn:n0<=nx)(h1:RL rCell hp (Bl n0) d l)(hs:Qr l)(hl:l.length<400000)(hf:l.length<=2 ^ f)(Js:∀ c∈l,c.pos.length<900000)
  (hK:∀ An Bm,Al hp nx An Bm->K (.tup []) An Bm):KW (kN (k+f+9)) (.fn 128) [d,.fn (.func 129) [.tup []]] hp nx K:=by
 refine Sf (Hl (by decide)) YE (Ab rfl) λes e1 e2 he=>?_
 have a0:Ad es (.t .o)=d:=he 0 _ rfl
 have a1:Ad es (.t (.l .o))=.fn (.func 129) [.tup []]:=he 1 _ rfl
 unfold FQ
 subst e1 e2
 simp only [↓Au]
 refine AV (v:=.fn (.func 129) [.tup []]) (by simp only [Ha,a1];exact OT _ _) ⟨rfl,rfl⟩ λEi Dn Dd=>?_
 simp only [bR] at Dn Dd
 have Fk:Al es.hp es.nx Ei (es.nx+1):=⟨by omega,λj hj=>Dd j (by omega)⟩
 have e1:Cg Ei (.pt es.nx 0)=.pt es.nx 0:=Wm λid hid=>by
  have:id=es.nx:=by simpa [DV.refs] using hid
  rw [this,Dn];rfl
 simp only [As,↓Au,bP,a0,e1]
 refine Fh (A68 k (es.nx+1) _ _ _ f d l es.nx (Ag _) ⟨by omega,_,Dn⟩ ((h1.ka hn Fk).bl (show n0<=es.nx+1 by omega)) hs hl hf Js λGn Dy Ev=>?_)
 simp only [As,↓Au]
 exact hK _ _ (Fk.trans Ev)
end
end Go.DD

/- Contracts: the program's copy of a cell. Conditions: those that each theorem states. -/
namespace Go.DD
open Go Go.Proofs
def OG(d:DV):Prop:=∃ id off n e,d=.ms id off n e
theorem OLs.isM{α:Type}{R:Rep α}{hp:Tr DObj}{p:Nat->Prop}{d:DV}{l:List α}(h:OLs R hp p d l)(hl:l≠[]):OG d:=by
 rcases h with h | ⟨h,_⟩
 .cases h with
  | nil=>exact absurd rfl hl
  | ms id=>exact ⟨_,_,_,_,rfl⟩
 .exact absurd h hl
structure OwnC (hp:Tr DObj) (c:DV):Prop where
 n:∀ cs n,c≠.sl cs n
 m:∀ id off n e,c=.ms id off n e->∀ fl,hp.get id=some (.row rCell.T fl)->∀ x∈fl,OG x
theorem OwnC.nil(hp:Tr DObj):OwnC hp Cb:=⟨λ_ _ h=>(by cases h),λ_ _ _ _ h=>(by cases h)⟩
theorem OwnC.keep{hp An:Tr DObj}{c:DV}(h:OwnC hp c)(hk:∀ j∈c.refs,An.get j=hp.get j):OwnC An c:=⟨h.n,λid off n e hc fl hg=>h.m id off n e hc fl (by rw [<- hk id (by rw [hc];simp [DV.refs])];exact hg)⟩
def AOw(hp:Tr DObj)(d:DV):Prop:=∀ a b c,d=.agg [a,b,c]->OwnC hp c
theorem AOw.of{hp:Tr DObj}{a b c:DV}(h:OwnC hp c):AOw hp (.agg [a,b,c]):=λa' b' c' e=>by cases e;exact h
section
variable (k n0:Nat) (hp:Tr DObj) (nx:Nat) (K:DV->Tr DObj->Nat->Prop)
theorem B04(p v:DV)(c:PCell)(hn:n0<=nx)(h1:RL rInt hp (Bl n0) p c.pos)(h2:RL rVal hp (Bl n0) v c.vals)(tL:c.pos≠[])(RH:c.vals≠[])(Nr:c.pos.length<900000)(V5:c.vals.length<900000)
  (hK:∀ An Bm p' v',Al hp nx An Bm->RL rInt An (Bw nx Bm) p' c.pos->RL rVal An (Bw nx Bm) v' c.vals->OG p'->OG v'->K (.agg [p',v']) An Bm):KW (kN (k+2)) (.fn 164) [.agg [p,v]] hp nx K:=by
 refine yO (Hl (by decide)) XN (Ab rfl) λes e1 e2 he=>?_
 have a0:Ad es (.t .o)=.agg [p,v]:=he 0 _ rfl
 unfold FB
 subst e1 e2
 simp only [↓Au]
 refine Xv (cs:=[p,v]) (by rw [Ha,a0];exact Wn h1 h2) λEi Dn Dd=>?_
 simp only [bR] at Dn Dd
 simp only [As,↓Au]
 refine Rz λCw Fw Fa=>?_
 simp only [bR] at Fw Fa
 have Dh:Al es.hp es.nx Cw (es.nx+2):=⟨by omega,λj hj=>by rw [Fa j (by omega),Dd j (by omega)]⟩
 have eF:=(Fa es.nx (by omega)).trans Dn
 obtain ⟨⟨f0,f1⟩,l0,l1,_⟩:=Wl eF
 have r1:=h1.ka hn Dh
 have r2:=h2.ka hn Dh
 simp only [As,↓Au,f0,l0,Lp (n0:=es.nx+1+1) (m:=8) eF (show es.nx<es.nx+1+1 by omega),r1.rox (show n0<=es.nx+1+1 by omega)]
 refine Ly rfl (Uy ?_)
 simp only [bR,Am,Az]
 refine xp k n0 _ _ _ p c.pos (by omega) r1 (.inl tL) (by omega) λKl GL a' Sk M7 fu _=>?_
 have jU:=Sk.le
 have oQ:=(Sk.same es.nx (by omega)).trans eF
 have jv:=(Sk.same (es.nx+1) (by omega)).trans Fw
 obtain ⟨⟨f0,f1⟩,l0,l1,_⟩:=Wl oQ
 have r7:=r2.ka (nx:=es.nx+1+1+8) (by omega) Sk
 have ZA:=M7.rlF fu
 simp only [As,↓Au,jU,f1,l1,Lp (n0:=es.nx+1+1) (m:=8) oQ (show es.nx<es.nx+1+1 by omega),r7.rox (show n0<=es.nx+1+1 by omega)]
 refine Ly rfl (Uy ?_)
 simp only [bR,Am,Az]
 refine Bb3 k n0 _ _ _ v c.vals (by omega) r7 (.inl RH) (by omega) λKi Pg v' Rg RQ ft _=>?_
 have aL:=Rg.le
 have O7:=(Rg.same es.nx (by omega)).trans oQ
 have LB:=(Rg.same (es.nx+1) (by omega)).trans jv
 have mS:=RQ.rlF ft
 have mT:=ZA.keep (An:=Ki) λj hj=>Rg.same j hj.2
 have I4:∀ an,Hh a' (λid=>Cp (es.nx+1+1) 8 an Ki id):=λan=>mT.ro' (n:=es.nx+1+1) (m:=8) λj hj=>.inr hj.1
 have DZ:∀ an,Hh v' (λid=>Cp (es.nx+1+1) 8 an Ki id):=λan=>mS.ro' (n:=es.nx+1+1) (m:=8) λj hj=>.inr (by have:=hj.1;omega)
 have aD:∀ an,Hh (.agg [a',v']) (λid=>Cp (es.nx+1+1) 8 an Ki id):=λan=>Kb (I4 an) (DZ an)
 have qZ:=OO (z:=.slice none 0 0) (w:=.slice none 0 0) mT.ok mS.ok
 simp only [As,↓Au,bP,aL,S9,mT.live,mS.live,qZ,Ca,Bf (I4 _),Bf (DZ _),Bf (aD _),Lp (n0:=es.nx+1+1) (m:=8) LB (show es.nx+1<es.nx+1+1 by omega)]
 refine Ly rfl (Qx (n:=2) (id:=es.nx+1) (ds:=[a',v']) (by simp only [bR]) LB (by simp only [Ha,bR];exact Wn mT mS) rfl rfl λLi Qv Ps=>?_)
 simp only [bR] at Qv Ps
 have jw:=(Ps es.nx (by omega)).trans O7
 simp only [As,↓Au]
 have Hj:∀ d∈[p,v],Nk 6 d d=true:=λd hd=>by
  simp only [Ap,Cm,or_false] at hd
  rcases hd with rfl | rfl
  .exact h1.same (by decide)
  .exact h2.same (by decide)
 have Gy:∀ q∈[(⟨7,[6,5,0,1,2,3,4],Ki,Li⟩:Past),⟨5,[4,2,3,1,0],Kl,Ki⟩,⟨2,[1,0],Cw,Kl⟩],q.a.get es.nx=some (.row 39 [p,v])/\q.b.get es.nx=some (.row 39 [p,v]):=λq hq=>by
  simp only [Ap,Cm,or_false] at hq
  rcases hq with rfl | rfl | rfl
  .exact ⟨O7,jw⟩
  .exact ⟨oQ,O7⟩
  .exact ⟨eF,oQ⟩
 have Kz:∀ (o:Nat),∀ j∈(DV.pt es.nx o).refs,j=es.nx:=λo j hj=>by simpa [DV.refs] using hj
 refine ⟨qK (Kz 1) (by omega) Gy Hj (qK (Kz 0) (by omega) Gy Hj rfl),_,uL (by simp only [bR,bP]) Qv rfl,hK _ _ _ _ ⟨by omega,λj hj=>?_⟩ ((mT.keep λj hj=>Ps j ?_).mono λj hj=>⟨?_,?_⟩) ((mS.keep λj hj=>Ps j ?_).mono λj hj=>⟨?_,?_⟩) (M7.isM tL) (RQ.isM RH)⟩
 .rw [Ps j (by omega),Rg.same j (by omega),Sk.same j (by omega),Dh.same j hj]
 all_goals (have h1:=hj.1;have h2:=hj.2;omega)
end
end Go.DD

/- Contracts: the program's copy of an array. Conditions: those that each theorem states. -/
namespace Go.DD
open Go Go.Proofs
section
variable (k n0:Nat) (hp:Tr DObj) (nx:Nat) (K:DV->Tr DObj->Nat->Prop)
theorem Ca1(d a c:DV)(D:List PDim)(A:List PAttr)(C:List PCell)(hn:n0<=nx)(h1:RL rDim hp (Bl n0) d D)(h2:RL rAttr hp (Bl n0) a A)(h3:RL rCell hp (Bl n0) c C)(hD:D≠[])(hA:A≠[])(hDl:D.length<900000)(hAl:A.length<900000)(hCl:C.length<900000)
  (hc:∀ e∈C,e.pos≠[]/\e.pos.length<900000/\e.vals≠[]/\e.vals.length<900000)
  (hK:∀ An Bm d',Al hp nx An Bm->AR An (Bw nx Bm) d' ⟨D,A,C⟩->AOw An d'->K d' An Bm):KW (kN (k+3)) (.fn 127) [d,a,c] hp nx K:=by
 refine yO (Hl (by decide)) YF (Ab rfl) λes e1 e2 he=>?_
 have a0:Ad es (.t .o)=d:=he 0 _ rfl
 have a1:Ad es (.t (.l .o))=a:=he 1 _ rfl
 have a2:Ad es (.t (.r .o))=c:=he 2 _ rfl
 unfold FR
 subst e1 e2
 simp only [↓Au]
 refine Rz λEi Dn Dd=>?_
 simp only [bR] at Dn Dd
 have Fk:Al es.hp es.nx Ei (es.nx+1):=⟨by omega,λj hj=>Dd j (by omega)⟩
 simp only [As,↓Au,a0]
 refine Fh (By8 (k+1) n0 _ _ _ d D (by omega) (h1.ka hn Fk) (.inl hD) (by omega) λCw Dt d2 Dh gY tK _=>?_)
 have Gu:=Dh.le
 have aT:=Fk.trans Dh
 simp only [As,↓Au,a1]
 refine Fh (By9 (k+1) n0 _ _ _ a A (by omega) (h2.ka hn aT) (.inl hA) (by omega) λGn Dy a3 Ev RR hr3 _=>?_)
 have Iw:=Ev.le
 have fS:=aT.trans Ev
 have U7:=(gY.rlF tK).keep (An:=Gn) λj hj=>Ev.same j hj.2
 have EG:=RR.rlF hr3
 simp only [As,↓Au]
 refine OS (cs:=[d2,a3,.v (.slice none 0 0)]) (by simp only [Am,Az,Dc,bR,bP,U7.live,EG.live];simp [Ho,U7.ok,EG.ok]) ?_
 simp only [As,↓Au]
 refine Rz λFq Kf Fl=>?_
 simp only [bR] at Kf Fl
 have wQ:=U7.keep (An:=Fq) λj hj=>Fl j (by have:=hj.2;omega)
 have YY:=EG.keep (An:=Fq) λj hj=>Fl j (by have:=hj.2;omega)
 have Xx:Cg Fq (.agg [d2,a3,.v (.slice none 0 0)])=.agg [d2,a3,.v (.slice none 0 0)]:=Wm λid hid=>by
  have:id∈d2.refs\/id∈a3.refs:=by simpa [DV.refs,DV.refsL] using hid
  rcases this with h | h
  .exact (wQ.refs id h).2
  .exact (YY.refs id h).2
 simp only [As,↓Au]
 refine Qx (n:=3) (id:=Dy) (ds:=[d2,a3,.v (.slice none 0 0)]) (by simp only [bR]) Kf (by simp only [Ha,bR];exact Xx) rfl rfl λGr Qw Jd=>?_
 simp only [bR] at Qw Jd
 have zY:Al es.hp es.nx Gr (Dy+1):=⟨by omega,λj hj=>by rw [Jd j (by omega),Fl j (by omega),fS.same j hj]⟩
 have h35:∀ j,j<Dy->Gr.get j=Gn.get j:=λj hj=>by rw [Jd j (by omega),Fl j (by omega)]
 have O9:Gr.get es.nx=_:=(h35 _ (by omega)).trans ((Ev.same _ (by omega)).trans ((Dh.same _ (by omega)).trans Dn))
 have w5:=h3.ka hn zY
 simp only [As,↓Au,a2,w5.len]
 refine EW.up C.length (λi Ai=>∃ z,Al es.hp es.nx Ai.hp Ai.nx/\Dy+1<=Ai.nx/\(∀ j,j<Dy->Ai.hp.get j=Gr.get j)/\Ai.hp.get Dy=some (.row 26 [d2,a3,z])/\OL rCell Ai.hp (λj=>Dy<j/\j<Ai.nx/\j∉z.refs) z (C.take i)/\OwnC Ai.hp z/\Rng (Dy+1) Ai.nx z/\Ad Ai (.t (.r (.r .o)))=.pt es.nx 0/\Ad Ai (.t (.l (.l (.l .o))))=.pt Dy 0/\Ad Ai (.t (.l (.l (.l (.l .o)))))=c/\Ad Ai (.t (.r (.l (.l (.l .o)))))=iv C.length/\Ad Ai (.t (.l (.r (.l (.l .o)))))=iv (i:Nat)) ?_ ?_ (by omega)
 .rintro i Ai hi ⟨z,g,Xj,Cy,RY,ho,hW,JB,b6,b7,b15,b16,Vi⟩
  unfold Cj5
  have hle:=g.le
  have w1:=h3.ka hn g
  by_cases h:i<C.length
  .obtain ⟨pA,vA,Sn,Tv,ldA,_⟩:=Ek w1 h
   have gW:=hc _ (Be h)
   simp only [As,↓Au,b15,b16,Vi,h,Yq w1 h,ldA]
   refine Rz λIv cQ Ve=>?_
   simp only [bR] at cQ Ve
   have k6:∀ j,j<Ai.nx->Iv.get j=Ai.hp.get j:=λj hj=>Ve j (by omega)
   have rp6:=Sn.keep (An:=Iv) λj (hj:j<n0)=>k6 j (by omega)
   have rv6:=Tv.keep (An:=Iv) λj (hj:j<n0)=>k6 j (by omega)
   simp only [As,↓Au]
   refine Qx (n:=2) (id:=Ai.nx) (ds:=[pA,vA]) (by simp only [bR]) cQ (by simp only [Ha,bR];exact Wn rp6 rv6) rfl rfl λKl Pt Lr=>?_
   simp only [bR] at Pt Lr
   have k7:∀ j,j<Ai.nx->Kl.get j=Ai.hp.get j:=λj hj=>by rw [Lr j (by omega),k6 j hj]
   have rp7:=Sn.keep (An:=Kl) λj (hj:j<n0)=>k7 j (by omega)
   have rv7:=Tv.keep (An:=Kl) λj (hj:j<n0)=>k7 j (by omega)
   have jW:=(k7 Dy (by omega)).trans RY
   obtain ⟨⟨_,_,fz⟩,_,_,lz,_⟩:=Qd jW
   obtain ⟨_,_,_,lT⟩:=Wl Pt
   have Rb:∀ j,(Dy<j/\j<Ai.nx/\j∉z.refs)\/j∈z.refs->Dy<j/\j<Ai.nx:=λj hj=>by
    rcases hj with hj | hj
    .exact ⟨hj.1,hj.2.1⟩
    .have:=JB j hj;exact ⟨by omega,this.2⟩
   have M7:=ho.keep (An:=Kl) λj hj=>k7 j (Rb j hj).2
   have I3:∀ an,Hh z (λid=>Cp (Ai.nx+1) 8 an Kl id):=λan=>M7.rl.ro' (n:=Ai.nx+1) (m:=8) λj hj=>.inl (by have:=(Rb j hj).2;omega)
   simp only [As,↓Au,b7,fz,lz,lT,Lp (n0:=Ai.nx+1) (m:=8) jW (show Dy<Ai.nx+1 by omega),Lp (n0:=Ai.nx+1) (m:=8) Pt (show Ai.nx<Ai.nx+1 by omega)]
   refine ⟨Kb (rp7.rox (by omega)) (rv7.rox (by omega)),?_⟩
   refine Ly rfl (Uy ?_)
   simp only [bR,Am,Az]
   refine B04 k n0 _ _ _ pA vA C[i] (by omega) rp7 rv7 gW.1 gW.2.2.1 gW.2.1 gW.2.2.2 λKi Pg p' v' Rg QP QO mp8 mv8=>?_
   have aL:=Rg.le
   have aD:∀ an,Hh (.agg [p',v']) (λid=>Cp (Ai.nx+1) 8 an Ki id):=λan=>Kb (QP.ro' (n:=Ai.nx+1) (m:=8) λj hj=>.inr hj.1) (QO.ro' (n:=Ai.nx+1) (m:=8) λj hj=>.inr hj.1)
   have KT:=(Rg.same Dy (by omega)).trans jW
   have aUe:=(Rg.same Ai.nx (by omega)).trans Pt
   have qZ:=OO (z:=.slice none 0 0) (w:=.slice none 0 0) QP.ok QO.ok
   simp only [As,↓Au,aL,Bf (aD _)]
   refine PF (fl:=[p',v']) rfl (by simp only [Am,Az,Dc,bR,bP,Wn QP QO];exact Cj1 (z:=[.slice none 0 0,.slice none 0 0]) rfl) λLi Qv Ps=>?_
   simp only [bR] at Qv Ps
   have k9:∀ j,j<Ai.nx->Li.get j=Ai.hp.get j:=λj hj=>by rw [Ps j (by omega),Rg.same j (by omega),k7 j hj]
   have DQ:=QP.keep (An:=Li) λj hj=>Ps j (by have:=hj.1;omega)
   have DO:=QO.keep (An:=Li) λj hj=>Ps j (by have:=hj.1;omega)
   have ho9:=ho.keep (An:=Li) λj hj=>k9 j (Rb j hj).2
   have aUb:=(k9 Dy (by omega)).trans RY
   have YW:∀ an,Hh z (λid=>Cp (Ai.nx+1) 8 an Li id):=λan=>ho9.rl.ro' (n:=Ai.nx+1) (m:=8) λj hj=>.inl (by have:=(Rb j hj).2;omega)
   have hlen:(C.take i).length=i:=by rw [Bt];omega
   simp only [As,↓Au,Bf (YW _)]
   refine ⟨kY Qv rfl,?_⟩
   refine Ly rfl (Bl2 (R:=rCell) (p:=λj=>Dy<j/\j<Ai.nx/\j∉z.refs) (p2:=Bw (Ai.nx+1+8) Pg) (d:=z) (d2:=.ms (Ai.nx+1+4) 0 1 2) (ds:=[p',v']) (l:=C.take i) (m:=[C[i]]) (by simp only [bR,bP]) ho9 (by simp only [Dc,bR,bP];exact Yb Qv) (UE (R:=rCell) (x:=C[i]) Qv (rCell_rd.2 ⟨p',v',rfl,DQ,DO⟩)) (Rows.one (rCell_rd.2 ⟨p',v',rfl,DQ,DO⟩)) rfl rfl (by rw [Bk];omega) (by decide) λKd Lx Q9 MC=>?_)
   simp only [bR] at Lx Q9 MC
   have tC:∀ j∈z.refs,Dy<j/\j<Ai.nx:=λj hj=>Rb j (.inr hj)
   have J3:=Q9 (λj=>Dy<j/\j<Pg/\j∉z.refs) (λj hj=>by
    rcases hj with hj | hj
    .exact ⟨⟨hj.1,by omega,hj.2.2⟩,by omega,hj.2.2⟩
    .have h1:=hj.1
     have h2:=hj.2
     exact ⟨⟨by omega,h2,λh=>by have:=tC j h;omega⟩,by omega,λh=>by have:=tC j h;omega⟩)
   have cj:∀ j,j<=Dy->Kd.get j=Ai.hp.get j:=λj hj=>by rw [Lx j (by omega) (λh=>by have:=tC j h;omega),k9 j (by omega)]
   have oO:=(cj Dy (by omega)).trans RY
   obtain ⟨⟨_,_,od⟩,_⟩:=Qd oO
   obtain ⟨_,_,og,lK,_⟩:=J3.get
   obtain ⟨aW6,X4,m10⟩:=MC OG (λid fl hz hg=>hW.m id 0 _ _ hz fl (by rw [<- k9 id (Rb id (.inr (by rw [hz];simp [DV.refs]))).2];exact hg)) λc hc=>by
    simp only [Ap,Cm,or_false] at hc
    rcases hc with rfl | rfl
    .exact mp8
    .exact mv8
   have YX:∀ an,Cp (Ai.nx+1) 8 an Kd Pg=true:=λan=>(rX Kd Pg).2 ⟨by rw [lK];rfl,.inr (.inl (by omega))⟩
   simp only [As,↓Au,b7,od,Lp (n0:=Ai.nx+1) (m:=8) oO (show Dy<Ai.nx+1 by omega),YX _,Nat.le_succ]
   refine Ly rfl (lS (id:=Dy) (off:=2) (by simp only [bR]) oO (by simp only [Ha,bR];exact Yb lK) (bO _ _ _ _) (by simp) λNq oT Tc=>?_)
   simp only [bR] at oT Tc
   simp only [As,↓Au,b6,b7,b15,b16,Vi,Hz (show i<_ by omega)]
   have Hj:∀ q∈[d2,a3,z],Nk 6 q q=true:=AR.same (p:=λ_=>True) (x:=⟨D,A,C.take i⟩) ((wQ.keep (An:=Kl) λj hj=>?_).mono λ_ _=>trivial) ((YY.keep (An:=Kl) λj hj=>?_).mono λ_ _=>trivial) (M7.rl.mono λ_ _=>trivial)
   refine ⟨rT (λj hj=>?_) (rT (λj hj=>?_) (OU _ _ _)),h,.ms Pg 0 (C.take i ++ [C[i]]).length 2,⟨by omega,λj hj=>?_⟩,by omega,λj hj=>?_,oT,?_,⟨(λ_ _ h=>by cases h),λid off n e hc fl hg=>?_⟩,Rng.ms (by omega) (by omega)⟩
   .have hj:j=Dy:=by simpa [DV.refs] using hj
    subst hj
    refine ⟨by omega,λq nY=>?_⟩
    simp only [Ap,Cm,or_false] at nY
    rcases nY with rfl | rfl | rfl
    .exact .inl rfl
    .exact .inl rfl
    .exact .inr (.inr (by rw [Af rfl];exact PR jW (KT.trans jW.symm) Hj))
   .have hj:j=Dy:=by simpa [DV.refs] using hj
    subst hj
    refine ⟨by omega,λq nY=>?_⟩
    simp only [Ap,Cm,or_false] at nY
    rcases nY with rfl | rfl | rfl
    .exact .inl rfl
    .exact .inl rfl
    .refine .inr (.inr ?_)
     rw [Ae (by simp)]
     show (((Kl.get j).isSome)==((Ki.get j).isSome))=true
     rw [jW,KT];rfl
   .rw [Tc j (by omega),cj j (by omega),g.same j hj]
   .rw [Tc j (by omega),cj j (by omega),Cy j hj]
   .rw [Ga h]
    refine (J3.keep (An:=Nq) λj hj=>Tc j ?_).mono λj hj=>⟨hj.1,by omega,λh=>?_⟩
    .rcases hj with hj | hj
     .exact Nat.ne_of_gt hj.1
     .have:j=Pg:=by simpa [DV.refs] using hj
      omega
    .have:j=Pg:=by simpa [DV.refs] using h
     omega
   .cases hc
    rw [Tc _ (by omega),X4] at hg
    cases hg
    exact m10
   .rw [k7 j (by have:=hj.2;omega),Cy j (by have:=hj.2;omega),Jd j (by have:=hj.2;omega)]
   .rw [k7 j (by have:=hj.2;omega),Cy j (by have:=hj.2;omega),Jd j (by have:=hj.2;omega)]
  .rw [Bq (by omega)] at ho
   obtain ⟨_,_,_,_,lz⟩:=Qd RY
   have U6:=wQ.keep (An:=Ai.hp) λj hj=>by rw [Cy j (by have:=hj.2;omega),Jd j (by have:=hj.2;omega)]
   have ra6:=YY.keep (An:=Ai.hp) λj hj=>by rw [Cy j (by have:=hj.2;omega),Jd j (by have:=hj.2;omega)]
   have jy:Ai.hp.get es.nx=_:=(Cy _ (by omega)).trans O9
   have rz:RL rCell Ai.hp (Bw (es.nx+1) Ai.nx) z C:=ho.rl.mono λj hj=>by
    rcases hj with hj | hj
    .exact ⟨by omega,hj.2.1⟩
    .have:=JB j hj;exact ⟨by omega,this.2⟩
   have rF:=U6.mono (q:=Bw (es.nx+1) Ai.nx) λj hj=>⟨by have:=hj.1;omega,by have:=hj.2;omega⟩
   have hda:=ra6.mono (q:=Bw (es.nx+1) Ai.nx) λj hj=>⟨by have:=hj.1;omega,by have:=hj.2;omega⟩
   simp only [As,↓Au,b7,b16,Vi,h,lz]
   refine Qx (n:=3) (id:=es.nx) (ds:=[d2,a3,z]) (by simp only [bR,b6]) jy (by simp only [Ha,bR];exact AR.live (x:=⟨D,A,C⟩) rF hda rz) rfl rfl λKl Pt Lr=>?_
   simp only [bR] at Pt Lr
   simp only [As,↓Au]
   have up:∀ j,Bw (es.nx+1) Ai.nx j->Bw es.nx Ai.nx j:=λj hj=>⟨by have:=hj.1;omega,hj.2⟩
   have kp:∀ j,Bw (es.nx+1) Ai.nx j->Kl.get j=Ai.hp.get j:=λj hj=>Lr j (by have:=hj.1;omega)
   exact ⟨_,uL (by simp only [bR,bP,b6]) Pt rfl,hK _ _ _ ⟨g.le,λj hj=>(Lr j (by omega)).trans (g.same j hj)⟩ ⟨d2,a3,z,rfl,(rF.keep kp).mono up,(hda.keep kp).mono up,(rz.keep kp).mono up⟩ (.of (hW.keep λj hj=>Lr j (by have:=JB j hj;omega)))⟩
 .refine ⟨.v (.slice none 0 0),?_⟩
  simp only [As]
  exact ⟨zY,λ_ _=>trivial,Qw,.nil,.nil _,Rng.nil _ _⟩
end
end Go.DD

/- Contracts: the program's making of an array. Conditions: those that each theorem states. -/
namespace Go.DD
open Go Go.Proofs
theorem B05{d:List PDim}{a:List PAttr} : ∀ {l:List PCell} {b:Option PCell},(∀ c∈l,Hb d a c=0)->Srt l->(∀ q,b=some q->∀ c∈l,Cs q.pos c.pos = -1)->Qb d a b l=0
 | [],b,_,_,_=>by cases b <;> rfl
 | c::l,b,h1,h2,h3=>by
  have h4:Qb d a (some c) l=0:=B05 (λe he=>h1 e (Bh _ he)) h2.tail λq hq e he=>by cases hq;exact (Eg.1 h2).1 e he
  have h5:=h1 c (by simp)
  cases b with
  | none=>
   show (if Hb d a c≠0 then Hb d a c else Qb d a (some c) l)=0
   rw [Ae (by simp [h5]),h4]
  | some q=>
   have h6:=h3 q rfl c (by simp)
   show (if Hb d a c≠0 then Hb d a c else if Cs q.pos c.pos=0 then 5 else if Cs q.pos c.pos=1 then 2 else Qb d a (some c) l)=0
   rw [Ae (by simp [h5]),Ae (by omega),Ae (by omega),h4]
theorem Bm1{x:PArr}(h1:iY x.dims x.attrs=0)(h2:x.cells.length<=4096)(h3:∀ c∈x.cells,Hb x.dims x.attrs c=0)(h4:Srt x.cells):Mf x=0:=by
 unfold Mf
 rw [Ae (by simp [h1]),Ae (by omega)]
 exact B05 h3 h4 λq hq=>by cases hq
theorem B06{x:PArr}(h:Mf x=0):x.cells.length<=4096:=by
 unfold Mf at h
 split at h
 .rename_i h1;exact absurd h h1
 .split at h
  .cases h
  .omega
theorem B07{x:PArr}(h:Mf x=0):x.dims≠[]:=λe=>by
 have h2:=(jC h).2.2
 have h5:Oo x.dims=13:=by unfold Oo;rw [Af (Or.inl (by rw [e];simp))]
 unfold iY at h2
 rw [h5] at h2
 cases h2
theorem B08{x:PArr}(h:Mf x=0):x.attrs≠[]:=λe=>by
 have h2:=(jC h).2.2
 unfold iY at h2
 split at h2
 .rename_i h5;exact h5 h2
 .rw [Af (Or.inl (by rw [e];simp))] at h2;cases h2
section
variable (k n0:Nat) (hp:Tr DObj) (nx:Nat) (K:DV->Tr DObj->Nat->Prop)
theorem vr(f:Nat)(d a c:DV)(x:PArr)(hn:n0<=nx)(h1:RL rDim hp (Bl n0) d x.dims)(h2:RL rAttr hp (Bl n0) a x.attrs)(h3:RL rCell hp (Bl n0) c x.cells)(hc:Mf x=0)(ho:AOK x)(hf:x.cells.length<=2 ^ f)
  (hK:∀ An Bm d',Al hp nx An Bm->AR An (Bw nx Bm) d' x->AOw An d'->K (.tup [d',iv 0]) An Bm):KW (kN (k+f+10)) (.fn 59) [d,a,c] hp nx K:=by
 obtain ⟨hs,Nj,fj⟩:=jC hc
 have hlen:=B06 hc
 refine bW (Hl (by decide)) t59 (Ab rfl) λes e1 e2 he=>?_
 have a0:Ad es (.t .o)=d:=he 0 _ rfl
 have a1:Ad es (.t (.l .o))=a:=he 1 _ rfl
 have a2:Ad es (.t (.r .o))=c:=he 2 _ rfl
 unfold r59
 subst e1 e2
 simp only [↓Au]
 refine Rz λEi Dn Dd=>?_
 simp only [bR] at Dn Dd
 have Fk:Al es.hp es.nx Ei (es.nx+1):=⟨by omega,λj hj=>Dd j (by omega)⟩
 simp only [As,↓Au,a0,a1]
 refine Fh (Bb2 (k:=k+f+6) n0 _ _ _ d a x.dims x.attrs (by omega) (h1.ka hn Fk) (h2.ka hn Fk) λCw Dt Dh=>?_)
 have Gu:=Dh.le
 have aT:=Fk.trans Dh
 have w2:=h3.ka hn aT
 have Fw:=(Dh.same es.nx (by omega)).trans Dn
 have ic:¬ 4096<(x.cells.length:Int):=by omega
 simp only [As,↓Au,a2,show decide (¬ iY x.dims x.attrs=0)=false by simp [fj],w2.len,Ah ic]
 refine EW.up x.cells.length (λi Ai=>Al es.hp es.nx Ai.hp Ai.nx/\es.nx<Ai.nx/\Ai.hp.get es.nx=some (.row 26 [.v (.slice none 0 0),.v (.slice none 0 0),.v (.slice none 0 0)])/\Ad Ai (.t .o)=d/\Ad Ai (.t (.l .o))=a/\Ad Ai (.t (.r .o))=c/\Ad Ai (.t (.r (.r .o)))=.pt es.nx 0/\Ad Ai (.t (.l (.r (.l (.r .o)))))=c/\Ad Ai (.t (.r (.r (.l (.r .o)))))=iv x.cells.length/\Ad Ai (.t (.l (.l (.r (.r .o)))))=iv (i:Nat)) ?_ ?_ (by omega)
 .rintro i Ai hi ⟨g,gn,hg,b0,b1,b2,b6,qD,lQ,tq⟩
  unfold yE
  have hle:=g.le
  have w1:=h1.ka hn g
  have w2:=h2.ka hn g
  have w3:=h3.ka hn g
  by_cases h:i<x.cells.length
  .obtain ⟨p,v,rp,rv,lc,_⟩:=Ek w3 h
   have oX:=Nj _ (Be h)
   have gu:=ho.e _ (Be h)
   simp only [As,↓Au,qD,lQ,tq,h,Yq w3 h,lc]
   refine Rz λGn Kv Hy=>?_
   simp only [bR] at Kv Hy
   have g3:Al es.hp es.nx Gn (Ai.nx+1):=⟨by omega,λj hj=>by rw [Hy j (by omega),g.same j hj]⟩
   have DT:=rp.keep λj (hj:j<n0)=>Hy j (by omega)
   have DP:=rv.keep λj (hj:j<n0)=>Hy j (by omega)
   simp only [As,↓Au]
   refine Qx (n:=2) (id:=Ai.nx) (ds:=[p,v]) (by simp only [bR]) Kv (by simp only [Ha,bR];exact zb DT DP) rfl rfl λFq Kf Fl=>?_
   simp only [bR] at Kf Fl
   have g4:Al es.hp es.nx Fq (Ai.nx+1):=g3.new (Ag _) λj hj=>Fl j (by omega)
   have jx:Fq.get es.nx=_:=(Fl es.nx (by omega)).trans ((Hy es.nx (by omega)).trans hg)
   obtain ⟨_,_,_,u2⟩:=Wl Kf
   simp only [As,↓Au,b0,b1,u2]
   refine Fh (By6 (k+f+3) n0 _ _ _ d a p v x.dims x.attrs x.cells[i] (by omega) (h1.ka hn g4) (h2.ka hn g4) (DT.keep λj (hj:j<n0)=>Fl j (by omega)) (DP.keep λj (hj:j<n0)=>Fl j (by omega)) ho.d ho.a gu.2.2 λGr Ia Jp=>?_)
   have Oi:=Jp.le
   simp only [As,↓Au,b0,b1,b2,b6,qD,lQ,tq,h,show decide (¬ Hb x.dims x.attrs x.cells[i]=0)=false by simp [oX],Hz (show i<_ by omega)]
   exact ⟨g4.trans Jp,by omega,(Jp.same _ (by omega)).trans jx⟩
  .simp only [As,↓Au,b0,b1,b2,lQ,tq,h]
   refine Fh (Ca1 (k+f+6) n0 _ _ _ d a c x.dims x.attrs x.cells (by omega) w1 w2 w3 (B07 hc) (B08 hc) ho.d ho.a ho.c (λe he=>⟨AE hc e he,(ho.e e he).1,F6 hc e he,(ho.e e he).2.1⟩) λGn Dy d3 Ev pF JN=>?_)
   have Iw:=Ev.le
   obtain ⟨d3,a3,c3,rfl,r1,r2,r3⟩:=pF
   have how:=JN _ _ _ rfl
   have fO:∀ j∈c3.refs,Ai.nx<=j/\j<Dy:=λj hj=>(r3.refs j hj).1
   simp only [As,↓Au]
   refine Rz λFq Kf Fl=>?_
   simp only [bR] at Kf Fl
   have q1:=r1.keep (An:=Fq) λj hj=>Fl j (by have:=hj.2;omega)
   have q2:=r2.keep (An:=Fq) λj hj=>Fl j (by have:=hj.2;omega)
   have q3:=r3.keep (An:=Fq) λj hj=>Fl j (by have:=hj.2;omega)
   simp only [As,↓Au]
   refine Qx (n:=3) (id:=Dy) (ds:=[d3,a3,c3]) (by simp only [bR]) Kf (by simp only [Ha,bR];exact AR.live q1 q2 q3) rfl rfl λGr Qw Jd=>?_
   simp only [bR] at Qw Jd
   have q1:=q1.keep (An:=Gr) λj hj=>Jd j (by have:=hj.2;omega)
   have q2:=q2.keep (An:=Gr) λj hj=>Jd j (by have:=hj.2;omega)
   have q3:=q3.keep (An:=Gr) λj hj=>Jd j (by have:=hj.2;omega)
   have g5:Al es.hp es.nx Gr (Dy+1):=⟨by omega,λj hj=>by rw [Jd j (by omega),Fl j (by omega),Ev.same j (by omega),g.same j hj]⟩
   have O9:Gr.get es.nx=_:=(Jd es.nx (by omega)).trans ((Fl es.nx (by omega)).trans ((Ev.same es.nx (by omega)).trans hg))
   obtain ⟨⟨_,_,f2⟩,_,_,l2,lA⟩:=Qd Qw
   have q3':=q3.mono (q:=Bl (Dy+1)) λj hj=>Bs hj.2 (by omega)
   simp only [As,↓Au,f2,l2]
   refine Fh (B03 k (Dy+1) _ _ _ f c3 x.cells (Ag _) q3' (A25 hc) (by omega) hf (λe he=>(ho.e e he).1) λIv It Rh=>?_)
   have Rf:=Rh.le
   simp only [As,↓Au]
   have g6:Al es.hp es.nx Iv It:=⟨by omega,λj hj=>by rw [Rh.same j (by omega),g5.same j hj]⟩
   refine EW.up x.cells.length (λi Cd=>Al Iv It Cd.hp Cd.nx/\Ad Cd (.t (.r (.r .o)))=.pt es.nx 0/\Ad Cd (.t (.r (.l (.r .o))))=.pt Dy 0/\Ad Cd (.t (.l (.r (.r .o))))=iv ((i+1:Nat))) ?_ ?_ (by omega)
   .rintro i Cd Ic ⟨g2,x6,qN,jD⟩
    unfold yD
    have Gu:=g2.le
    have e2:∀ j,j<Dy+1->Cd.hp.get j=Gr.get j:=λj hj=>by rw [g2.same j (by omega),Rh.same j hj]
    have eF:=(e2 Dy (by omega)).trans Qw
    have O6:=(e2 es.nx (by omega)).trans O9
    obtain ⟨⟨_,_,f2⟩,_,_,l2,lA⟩:=Qd eF
    have v3:=q3'.keep (An:=Cd.hp) e2
    by_cases h6:i+1<x.cells.length
    .obtain ⟨p1,v1,rp1,rv1,_,_,Sz,_⟩:=Ek v3 (show i<x.cells.length by omega)
     obtain ⟨p2,v2,rp2,rv2,_,_,Ow,_⟩:=Ek v3 h6
     have Oe:Dm .sub (.v (.int .i64 ((i+1:Nat):Int))) (.v (.int .i64 1))=some (.v (.int .i64 (i:Int))):=by rw [Lo,Ej (by omega)];congr 3;omega
     have lk:Cs x.cells[i].pos x.cells[i+1].pos = -1:=A25 hc i (i+1) (by omega) h6
     simp only [As,↓Au,qN,jD,f2,l2,v3.len,h6,Oe,Lp (n0:=Cd.nx) (m:=15) eF (show Dy<Cd.nx by omega),Yq v3 h6,Yq v3 (show i<x.cells.length by omega),mA (k:=0) v3 h6,mA (k:=0) v3 (show i<x.cells.length by omega),Sz,Ow,v3.rox (show Dy+1<=Cd.nx by omega),U3 v3 (show Dy+1<=Cd.nx by omega),xu v3 (show Dy+1<=Cd.nx by omega),rp1.rox (show Dy+1<=Cd.nx by omega),rp2.rox (show Dy+1<=Cd.nx by omega)]
     refine Ly rfl (Uy ?_)
     simp only [bR,Am,Az]
     refine F7 (k+f+5) (Dy+1) _ _ _ p1 p2 _ _ (by omega) rp1 rp2 (ho.e _ (Be (show i<x.cells.length by omega))).1 ?_
     simp only [As,↓Au,x6,qN,jD,show decide (Cs x.cells[i].pos x.cells[i+1].pos=0)=false by simp [lk],Hz (show i+1<_ by omega)]
     exact ⟨by omega,g2.nx (by omega)⟩
    .simp only [As,↓Au,qN,jD,f2,l2,v3.len,h6,lA]
     refine Qx (n:=3) (id:=es.nx) (ds:=[d3,a3,c3]) (by simp only [bR,x6]) O6 (by simp only [Ha,bR];exact AR.live (q1.keep (An:=Cd.hp) λj hj=>e2 j (by have:=hj.2;omega)) (q2.keep (An:=Cd.hp) λj hj=>e2 j (by have:=hj.2;omega)) (q3.keep (An:=Cd.hp) λj hj=>e2 j (by have:=hj.2;omega))) rfl rfl λKl Pt Lr=>?_
     simp only [bR] at Pt Lr
     simp only [As,↓Au]
     have kp:∀ j,Bw Ai.nx Dy j->Kl.get j=Gr.get j:=λj hj=>by rw [Lr j (by have:=hj.1;omega),e2 j (by have:=hj.2;omega)]
     have up:∀ j,Bw Ai.nx Dy j->Bw es.nx Cd.nx j:=λj hj=>⟨by have:=hj.1;omega,by have:=hj.2;omega⟩
     refine ⟨_,_,uL (by simp only [bR,bP,x6]) Pt rfl,by rw [S8];simp only [bR,bP,Sa],hK _ _ _ ⟨by omega,λj hj=>?_⟩ ⟨d3,a3,c3,rfl,(q1.keep kp).mono up,(q2.keep kp).mono up,(q3.keep kp).mono up⟩ (.of (how.keep λj hj=>by have:=fO j hj;rw [kp j this,Jd j (by omega),Fl j (by omega)]))⟩
     rw [Lr j (by omega),e2 j (by omega),g5.same j hj]
   .simp only [As,b6]
    rfl
 .simp only [As,a0,a1,a2]
  exact ⟨aT,by omega,Fw⟩
end
end Go.DD

/- Contracts: a round of the program's merge. Conditions: those that each theorem states. -/
namespace Go.DD
open Go Go.Proofs
section
variable (k:Nat) (hp:Tr DObj) (nx:Nat) (K:DV->Tr DObj->Nat->Prop)
end
end Go.DD

/- Contracts: the program's merge. Conditions: those that each theorem states. -/
namespace Go.DD
open Go Go.Proofs
section
variable (k n0:Nat) (hp:Tr DObj) (nx:Nat) (K:DV->Tr DObj->Nat->Prop)
end
end Go.DD

/- Contracts: the program's Merged. Conditions: those that each theorem states. -/
namespace Go.DD
open Go Go.Proofs
section
variable (k n0:Nat) (hp:Tr DObj) (nx:Nat) (K:DV->Tr DObj->Nat->Prop)
end
end Go.DD
