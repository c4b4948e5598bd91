/- A part. -/
import Derived.Test.YtnphfnhhpcelbaaGreatYl
import Derived.Test.YtnphfnhhpcelbaaGreatYn
set_option linter.unusedSectionVars false
set_option linter.unusedVariables false
namespace Go.DD
open Go Go.Proofs
section
variable (k n0:Nat) (hp:Tr DObj) (nx:Nat) (K:DV->Tr DObj->Nat->Prop)
end
end Go.DD

/- Contracts: results that lie in cells; an empty array; a copied cell. Conditions: those that each theorem states. -/
namespace Go.DD
open Go Go.Proofs
theorem MV(es:ES)(t:Nat):Wo es (t,none)=some (Cd es.hp (Ae es (.t (Cm t)))):=rfl
theorem C12{es:ES}{t m id off T:Nat}{cs:List DV}(h5:Ae es (.t (Cm t))=.pt id off)(h6:es.hp.get id=some (.row T cs))(h7:m<=(cs.drop off).length):Wo es (t,some (some m))=some (.agg ((cs.drop off).take m)):=by
 show AL (some m) (.t (Cm t)) es=_
 unfold AL
 rw [h5]
 show Ym es.hp id (λ_ cs=>Tq (some m) (Ls off cs)) (none:Option DV)=_
 unfold Ym
 rw [La,h6]
 show Tq (some m) (Ls off cs)=_
 rw [X6,jU]
 show (if m<=(cs.drop off).length then some (DV.agg ((cs.drop off).take m)) else none)=_
 rw [Af h7]
theorem B6{es:ES}{t m id T:Nat}{cs:List DV}(h5:Ae es (.t (Cm t))=.pt id 0)(h6:es.hp.get id=some (.row T cs))(h7:cs.length=m):Wo es (t,some (some m))=some (.agg cs):=by
 have:=C12 (m:=m) h5 h6 (by rw [Lc];omega)
 rw [Lc,Cc (by omega)] at this
 exact this
section
variable {tb:Nat->Option FE} {n:Nat} {rel:Nat->List DV->Option DV} {k f nt nx:Nat} {hp:Tr DObj} {ds:List DV} {c:CE} {K:DV->Tr DObj->Nat->Prop}
theorem nY{t:Nat}{k1:Option (Option Nat)}(hr:rel f ds=none)(hf:tb f=some ⟨c,[(t,k1)],nt⟩)(hn:ds.length<=nt)
  (h:∀ es,es.hp=hp->es.nx=nx->qL es ds->EW c (Hh tb n rel k) es λe es=>(e=.normal\/e=.ret)/\∃ d,Wo es (t,k1)=some d/\K d es.hp es.nx):KW (Hh tb n rel (k+1)) (.fn f) ds hp nx K:=
 dQ hr hf hn λes h1 h2 h3=>(h es h1 h2 h3).mono λ_ es ⟨h4,d,h5,h6⟩=>⟨h4,d,by
  unfold Nl
  simp only [Gx,Uy,h5,Hf,Gc,Pr,Zv],h6⟩
theorem nX{t u:Nat}{k1 k2:Option (Option Nat)}(hr:rel f ds=none)(hf:tb f=some ⟨c,[(t,k1),(u,k2)],nt⟩)(hn:ds.length<=nt)
  (h:∀ es,es.hp=hp->es.nx=nx->qL es ds->EW c (Hh tb n rel k) es λe es=>(e=.normal\/e=.ret)/\∃ d b,Wo es (t,k1)=some d/\Wo es (u,k2)=some b/\K (.tup [d,b]) es.hp es.nx):KW (Hh tb n rel (k+1)) (.fn f) ds hp nx K:=
 dQ hr hf hn λes h1 h2 h3=>(h es h1 h2 h3).mono λ_ es ⟨h4,d,b,h5,h6,h7⟩=>⟨h4,.tup [d,b],by
  unfold Nl
  simp only [Gx,Uy,h5,h6,Hf,Gc,Pr,Zv],h7⟩
end
section
variable (k n0:Nat) (hp:Tr DObj) (nx:Nat) (K:DV->Tr DObj->Nat->Prop)
end
end Go.DD

/- Contracts: copied cells. Conditions: those that each theorem states. -/
namespace Go.DD
open Go Go.Proofs
section
variable (k n0:Nat) (hp:Tr DObj) (nx:Nat) (K:DV->Tr DObj->Nat->Prop)
end
end Go.DD

/- Contracts: cells compared by a key. Conditions: those that each theorem states. -/
namespace Go.DD
open Go Go.Proofs
section
variable (k n0:Nat) (hp:Tr DObj) (nx:Nat) (K:DV->Tr DObj->Nat->Prop)
theorem Ci5(p v:DV)(c:PCell)(hn:n0<=nx)(h1:RL rInt hp (Bl n0) p c.pos)(h2:RL rVal hp (Bl n0) v c.vals)(hK:∀ Ao Bk,Al hp nx Ao Bk->K p Ao Bk):KW (kN (k+1)) (.fn 129) [.agg [p,v]] hp nx K:=by
 refine En (Hm (by decide)) WZ (Ab rfl) λes e1 e2 he=>?_
 have a0:Ae es (.t .o)=.agg [p,v]:=he 0 _ rfl
 unfold DX
 subst e1 e2
 simp only [↓Ba]
 refine Zo (cs:=[p,v]) (by rw [Hl,a0];exact Yp h1 h2) λEi Dm Cv=>?_
 simp only [bR] at Dm Cv
 have Gb:Al es.hp es.nx Ei (es.nx+1):=⟨by omega,λj hj=>Cv j (by omega)⟩
 obtain ⟨⟨f0,f1⟩,l0,l1,_⟩:=Xh Dm
 simp only [Ax,↓Ba,bP,f0,l0,(h1.ka hn Gb).live]
 exact hK _ _ Gb
def bX(hp:Tr DObj)(n0 bx:Nat):Prop:=bx<n0/\∃ T,hp.get bx=some (.row T [.fn (.func 129) [.tup []]])
theorem SG(p v q w:DV)(c e:PCell)(bx:Nat)(hn:n0<=nx)(hb:bX hp n0 bx)(h1:RL rInt hp (Bl n0) p c.pos)(h2:RL rVal hp (Bl n0) v c.vals)(h3:RL rInt hp (Bl n0) q e.pos)(h4:RL rVal hp (Bl n0) w e.vals)(hl:c.pos.length<900000)
  (hK:∀ Ao Bk,Al hp nx Ao Bk->K (iv (Cq c.pos e.pos)) Ao Bk):KW (kN (k+5)) (.fn 166) [.agg [p,v],.agg [q,w],.pt bx 0] hp nx K:=by
 refine En (Hm (by decide)) WI (Ab rfl) λes e1 e2 he=>?_
 have a0:Ae es (.t .o)=.agg [p,v]:=he 0 _ rfl
 have a1:Ae es (.t (.l .o))=.agg [q,w]:=he 1 _ rfl
 have a2:Ae es (.t (.r .o))=.pt bx 0:=he 2 _ rfl
 unfold DB
 subst e1 e2
 obtain ⟨kY,T,hb⟩:=hb
 simp only [↓Ba]
 refine Zo (cs:=[p,v]) (by rw [Hl,a0];exact Yp h1 h2) λEi Dm Cv=>?_
 simp only [bR] at Dm Cv
 have Gb:Al es.hp es.nx Ei (es.nx+1):=⟨by omega,λj hj=>Cv j (by omega)⟩
 simp only [Ax,↓Ba]
 refine Zo (cs:=[q,w]) (by simp only [Hl,bR,a1];exact Yp (h3.ka hn Gb) (h4.ka hn Gb)) λDb Ft Et=>?_
 simp only [bR] at Ft Et
 have Dj:Al es.hp es.nx Db (es.nx+2):=⟨by omega,λj hj=>by rw [Et j (by omega),Cv j (by omega)]⟩
 have fN:=(Et es.nx (by omega)).trans Dm
 have Ww:=(Dj.same bx (by omega)).trans hb
 obtain ⟨_,_,_,lA⟩:=Xh fN
 have r1:=h1.ka hn Dj
 have r2:=h2.ka hn Dj
 have r3:=h3.ka hn Dj
 have r4:=h4.ka hn Dj
 have rof:∀ (H:Tr DObj) an,Ii (.fn (.func 129) [.tup []]) (λid=>Cs (es.nx+1+1) 8 an H id):=λH an id hid=>by simp [DV.refs,DV.refsL] at hid
 simp only [Ax,↓Ba,a2,qM Ww,lA,Mp (n0:=es.nx+1+1) (m:=8) Ww (show bx<es.nx+1+1 by omega),Mp (n0:=es.nx+1+1) (m:=8) fN (show es.nx<es.nx+1+1 by omega),Bn (rof _ _)]
 refine ⟨Kv (r1.rox (by omega)) (r2.rox (by omega)),?_⟩
 refine Nt rfl (Q2 (fs:=[]) (cs:=[]) (by rw [Hl];simp only [bR];exact NC _ _) ?_)
 simp only [bR,Ag,Ak,Dh,Bv]
 refine Ci5 (k+3) n0 _ _ _ p v c (by omega) r1 r2 λGr Dx Eu=>?_
 have Jb:=Eu.le
 have gS:=(Eu.same (es.nx+1) (by omega)).trans Ft
 have oZ:=(Eu.same es.nx (by omega)).trans fN
 have QJ:=(Eu.same bx (by omega)).trans Ww
 obtain ⟨_,_,_,lB⟩:=Xh gS
 have x1:=r1.ka (nx:=es.nx+1+1+8) (by omega) Eu
 have x3:=r3.ka (nx:=es.nx+1+1+8) (by omega) Eu
 have x4:=r4.ka (nx:=es.nx+1+1+8) (by omega) Eu
 simp only [Ax,↓Ba,a2,Jb,qM QJ,lB,Mp (n0:=es.nx+1+1) (m:=8) QJ (show bx<es.nx+1+1 by omega),Mp (n0:=es.nx+1+1) (m:=8) gS (show es.nx+1<es.nx+1+1 by omega),Bn (rof _ _)]
 refine ⟨Kv (x3.rox (by omega)) (x4.rox (by omega)),?_⟩
 refine Nt rfl (Q2 (fs:=[]) (cs:=[]) (by rw [Hl];simp only [bR];exact NC _ _) ?_)
 simp only [bR,Ag,Ak,Dh,Bv]
 refine Ci5 (k+3) n0 _ _ _ q w e (by omega) x3 x4 λGz Mj Ob=>?_
 have bM:=Ob.le
 have y1:=x1.ka (by omega) Ob
 have y3:=x3.ka (by omega) Ob
 have L7:=(Ob.same (es.nx+1) (by omega)).trans gS
 have hb4:=(Ob.same bx (by omega)).trans QJ
 have KN:Al es.hp es.nx Gz Mj:=⟨by omega,λj hj=>by rw [Ob.same j (by omega),Eu.same j (by omega),Dj.same j hj]⟩
 simp only [Ax,↓Ba,bM,y1.rox (show n0<=es.nx+1+1 by omega),y3.rox (show n0<=es.nx+1+1 by omega)]
 refine Nt rfl (Xi ?_)
 simp only [bR,Ag,Ak]
 refine D0 k n0 _ _ _ p q c.pos e.pos (by omega) y1 y3 hl ?_
 simp only [Ax,↓Ba,bP,Ai]
 have cr:∀ d∈[q,w],Oz 6 d d=true:=λd hd=>by
  simp only [Aq,Ci,or_false] at hd
  rcases hd with rfl | rfl
  .exact h3.same (by decide)
  .exact h4.same (by decide)
 have cq:∀ d∈[DV.fn (.func 129) [.tup []]],Oz 6 d d=true:=λd hd=>by rw [Am.1 hd];rfl
 have Gy:∀ {id:Nat} {o:DObj},Db.get id=some o->Gr.get id=some o->Gz.get id=some o->∀ q∈[(⟨6,[2,5,0,1,3,4],Gz,Gz⟩:Past),⟨5,[3,4,2,0,1],Gr,Gz⟩,⟨2,[0,1],Db,Gr⟩],q.a.get id=some o/\q.b.get id=some o:=λh2 h3 h4 q hq=>by
  simp only [Aq,Ci,or_false] at hq
  rcases hq with rfl | rfl | rfl
  .exact ⟨h4,h4⟩
  .exact ⟨h3,h4⟩
  .exact ⟨h2,h3⟩
 exact ⟨qS (λj hj=>by simpa [DV.refs] using hj) (by omega) (Gy Ft gS L7) cr (qS (λj hj=>by simpa [DV.refs] using hj) (by omega) (Gy Ww QJ hb4) cq rfl),hK _ _ KN⟩
end
end Go.DD

/- Contracts: sorting of cells that are sorted changes nothing: insertion. Conditions: those that each theorem states. -/
namespace Go.DD
open Go Go.Proofs
def Lu(bx:Nat):DV:=.fn (.func 166) [.tup [],.pt bx 0]
section
variable (k n0:Nat) (hp:Tr DObj) (nx:Nat) (K:DV->Tr DObj->Nat->Prop)
theorem Bm2(d:DV)(l:List PCell)(a b bx:Nat)(hn:n0<=nx)(hb:bX hp n0 bx)(h1:RL rCell hp (Bl n0) d l)(hs:Rg l)(aRw:a<=l.length)(Mt:b<=l.length)(hl:l.length<900000)(Kq:∀ c∈l,c.pos.length<900000)
  (hK:∀ Ao Bk,Al hp nx Ao Bk->K (.tup []) Ao Bk):KW (kN (k+6)) (.fn 211) [d,iv (a:Nat),iv (b:Nat),Lu bx] hp nx K:=by
 refine Ss (Hm (by decide)) VT (Ab rfl) λes e1 e2 he=>?_
 have a0:Ae es (.t .o)=d:=he 0 _ rfl
 have a1:Ae es (.t (.l .o))=iv (a:Nat):=he 1 _ rfl
 have a2:Ae es (.t (.r .o))=iv (b:Nat):=he 2 _ rfl
 have a3:Ae es (.t (.l (.l .o)))=Lu bx:=he 3 _ rfl
 unfold CO
 subst e1 e2
 by_cases mI:a+1<b
 .have gX:Ds .add (.v (.int .i64 (a:Int))) (.v (.int .i64 1))=some (.v (.int .i64 ((a+1:Nat):Int))):=Jx (show a<_ by omega)
  simp only [Ax,↓Ba,a1,gX]
  refine EW.up (b-(a+1)) (λt An=>Al es.hp es.nx An.hp An.nx/\Ae An (.t .o)=d/\Ae An (.t (.l .o))=iv (a:Nat)/\Ae An (.t (.r .o))=iv (b:Nat)/\Ae An (.t (.l (.l .o)))=Lu bx/\Ae An (.t (.r (.l (.l .o))))=iv ((a+1+t:Nat))) ?_ ?_ (by omega)
  .rintro t An ht ⟨g,b0,b1,b2,b3,b8⟩
   unfold rq
   have hle:=g.le
   have w1:=h1.ka hn g
   obtain ⟨kY,T,pG⟩:=hb
   have Ht:=(g.same bx (by omega)).trans pG
   by_cases h:a+1+t<b
   .simp only [Ax,↓Ba,b2,b8,h]
    refine EW.l (I:=λ_ Cb=>Cb.hp=An.hp/\Cb.nx=An.nx/\Ae Cb (.t .o)=d/\Ae Cb (.t (.l .o))=iv (a:Nat)/\Ae Cb (.t (.r .o))=iv (b:Nat)/\Ae Cb (.t (.l (.l .o)))=Lu bx/\Ae Cb (.t (.r (.l (.l .o))))=iv ((a+1+t:Nat))/\Ae Cb (.t (.l (.r (.l .o))))=iv ((a+1+t:Nat))) ?_ 0 1000000 _ ?_ (by omega)
    .rintro n Cb ⟨q1,q2,x0,x1,x2,x3,x8,x9⟩
     unfold Ci0
     rw [<- q1] at w1 Ht
     have hi:a+1+t<l.length:=by omega
     have Xe:a+t<l.length:=by omega
     obtain ⟨pA,vA,Tc,Ul,ldA,_⟩:=Ev w1 hi
     obtain ⟨pB,vB,cD,cA,I0,_⟩:=Ev w1 Xe
     have Ow:Ds .sub (.v (.int .i64 ((a+1+t:Nat):Int))) (.v (.int .i64 1))=some (.v (.int .i64 ((a+t:Nat):Int))):=by rw [Ml,Eo (by omega)];congr 3;omega
     have Ez:=hs (a+t) (a+1+t) (by omega) hi
     have QE:¬ Cq l[a+1+t].pos l[a+t].pos<0:=by rw [uR];omega
     have Hj:n0<=Cb.nx:=by omega
     have F7:∀ an,Ii (Lu bx) (λid=>Cs Cb.nx 17 an Cb.hp id):=λan=>(Zu _ _ _ _).2 (Mp Ht (by omega))
     simp only [Ax,↓Ba,x0,x1,x3,x9,show a<a+1+t by omega,Ow,dC w1 hi,dC w1 Xe,ldA,I0,w1.rox Hj,R7 w1 Hj,Bn (F7 _)]
     refine ⟨⟨Kv (Tc.rox Hj) (Ul.rox Hj),Kv (cD.rox Hj) (cA.rox Hj)⟩,?_⟩
     refine Nt rfl (Q2 (f:=166) (fs:=[]) (cs:=[.pt bx 0]) (by rw [Hl];simp only [bR];exact SM Ht) ?_)
     simp only [bR,Ag,Ak,Bv,Ll]
     refine SG k n0 _ _ _ pA vA pB vB l[a+1+t] l[a+t] bx (by omega) ⟨kY,T,Ht⟩ Tc Ul cD cA (Kq _ (Bh hi)) λGr Dx Eu=>?_
     have Jb:=Eu.le
     have g3:Al es.hp es.nx Gr Dx:=⟨by omega,λj hj=>by rw [Eu.same j (by omega),q1,g.same j hj]⟩
     simp only [Ax,↓Ba,x0,x1,x2,x3,x8,QE,Jb,Jx (show a+1+t<_ by omega)]
     exact ⟨by omega,g3,rfl⟩
    .simp only [Ax,b0,b1,b2,b3,b8]
   .simp only [Ax,↓Ba,b2,b8,h]
    exact hK _ _ g
  .simp only [Ax,a0,a1,a2,a3]
 .have gX:Ds .add (.v (.int .i64 (a:Int))) (.v (.int .i64 1))=some (.v (.int .i64 ((a+1:Nat):Int))):=Jx (show a<_ by omega)
  simp only [Ax,↓Ba,a1,gX]
  refine EW.l (I:=λ_ An=>An.hp=es.hp/\An.nx=es.nx/\Ae An (.t (.r .o))=iv (b:Nat)/\Ae An (.t (.r (.l (.l .o))))=iv ((a+1:Nat))) ?_ 0 1000000 _ ?_ (by omega)
  .rintro n An ⟨q1,q2,b2,b8⟩
   unfold rq
   simp only [Ax,↓Ba,b2,b8,mI]
   rw [q1,q2]
   exact hK _ _ (Al.refl _ _)
  .simp only [Ax,a2]
end
end Go.DD

/- Contracts: sorting of cells that are sorted changes nothing: merging in place. Conditions: those that each theorem states. -/
namespace Go.DD
open Go Go.Proofs
theorem aL{a:Nat}(h:a<18446744073709551616):Wz .u64 (.v (.int .i64 (a:Int)))=some (.v (.int .u64 (a:Int))):=by
 rw [A1,IntWalk.u64_in _ (by omega)]
theorem aM{a:Nat}(h:a<9223372036854775808):Wz .i64 (.v (.int .u64 (a:Int)))=some (.v (.int .i64 (a:Int))):=by
 rw [A1,Eo (by omega)]
theorem MU{a:Nat} : Ds .shr (.v (.int .u64 (a:Int))) (.v (.int .u64 1))=some (.v (.int .u64 ((a / 2:Nat):Int))):=by
 have e:vR .shr .u64 (a:Int) (1:Int)=some (.int .u64 ((a / 2:Nat):Int)):=by
  unfold vR
  rw [Ad (by decide)]
  simp only [IntKind.bits]
  have h1:min (Int.toNat 1) 64=1:=by decide
  rw [h1]
  have:(a:Int).fdiv (2 ^ 1)=((a / 2:Nat):Int):=by
   rw [Int.fdiv_eq_ediv_of_nonneg _ (by decide)]
   simp
  rw [this]
 simp [Ds,Pl,Rq,e]
theorem va{l:List PCell}(hs:Rg l){i j:Nat}(hj:j<l.length)(h:i<=j):¬ Cq (l[j]).pos (l[i]'(by omega)).pos<0:=by
 by_cases e:i=j
 .subst e;rw [fV];decide
 .have:=hs i j (by omega) hj
  rw [uR];omega
section
variable (k n0:Nat) (hp:Tr DObj) (nx:Nat) (K:DV->Tr DObj->Nat->Prop)
theorem Cq0(d:DV)(l:List PCell)(a b bx:Nat)(hn:n0<=nx)(hb:bX hp n0 bx)(h1:RL rCell hp (Bl n0) d l)(hs:Rg l)(mI:a+1<b)(Mt:b<=l.length)(hl:l.length<900000)(Kq:∀ c∈l,c.pos.length<900000)
  (hK:∀ Ao Bk,Al hp nx Ao Bk->K (.tup []) Ao Bk):KW (kN (k+6)) (.fn 212) [d,iv (a:Nat),iv ((a+1:Nat)),iv (b:Nat),Lu bx] hp nx K:=by
 refine Ss (Hm (by decide)) E4 (Ab rfl) λes e1 e2 he=>?_
 have a0:Ae es (.t .o)=d:=he 0 _ rfl
 have a1:Ae es (.t (.l .o))=iv (a:Nat):=he 1 _ rfl
 have a2:Ae es (.t (.r .o))=iv ((a+1:Nat)):=he 2 _ rfl
 have a3:Ae es (.t (.l (.l .o)))=iv (b:Nat):=he 3 _ rfl
 have a4:Ae es (.t (.r (.l .o)))=Lu bx:=he 4 _ rfl
 unfold sT
 subst e1 e2
 have Ow:Ds .sub (.v (.int .i64 ((a+1:Nat):Int))) (.v (.int .i64 (a:Int)))=some (.v (.int .i64 1)):=by rw [Ml,Eo (by omega)];congr 3;omega
 simp only [Ax,↓Ba,a1,a2,a3,Ow]
 refine EW.l (I:=λj An=>a+1<=j/\j<=b/\Al es.hp es.nx An.hp An.nx/\Ae An (.t .o)=d/\Ae An (.t (.l .o))=iv (a:Nat)/\Ae An (.t (.r .o))=iv ((a+1:Nat))/\Ae An (.t (.r (.l .o)))=Lu bx/\Ae An (.t (.r (.r (.l .o))))=iv ((a+1:Nat))/\Ae An (.t (.l (.l (.r .o))))=iv (j:Nat)) ?_ b 1000000 _ ?_ (by omega)
 .rintro j An ⟨gf,Qv,g,b0,b1,b2,b4,b10,b11⟩
  unfold Ci1
  have hle:=g.le
  have w1:=h1.ka hn g
  obtain ⟨kY,T,pG⟩:=hb
  have Ht:=(g.same bx (by omega)).trans pG
  by_cases h:a+1<j
  .have Wx:Ds .add (.v (.int .i64 ((a+1:Nat):Int))) (.v (.int .i64 (j:Int)))=some (.v (.int .i64 ((a+1+j:Nat):Int))):=lN (by omega)
   have hi:(a+1+j) / 2<l.length:=by omega
   have Xe:a<l.length:=by omega
   obtain ⟨pA,vA,Tc,Ul,ldA,_⟩:=Ev w1 hi
   obtain ⟨pB,vB,cD,cA,I0,_⟩:=Ev w1 Xe
   have Yc:=va hs hi (show a<=(a+1+j) / 2 by omega)
   have Hj:n0<=An.nx:=by omega
   have F7:∀ an,Ii (Lu bx) (λid=>Cs An.nx 11 an An.hp id):=λan=>(Zu _ _ _ _).2 (Mp Ht (by omega))
   simp only [Ax,↓Ba,bP,b0,b1,b4,b10,b11,h,Wx,aL (show a+1+j<_ by omega),MU,aM (show (a+1+j) / 2<_ by omega),dC w1 hi,dC w1 Xe,ldA,I0,w1.rox Hj,R7 w1 Hj,Bn (F7 _)]
   refine ⟨⟨Kv (Tc.rox Hj) (Ul.rox Hj),Kv (cD.rox Hj) (cA.rox Hj)⟩,?_⟩
   refine Nt rfl (Q2 (f:=166) (fs:=[]) (cs:=[.pt bx 0]) (by rw [Hl];simp only [bR];exact SM Ht) ?_)
   simp only [bR,Ag,Ak,Bv,Ll]
   refine SG k n0 _ _ _ pA vA pB vB l[(a+1+j) / 2] l[a] bx (by omega) ⟨kY,T,Ht⟩ Tc Ul cD cA (Kq _ (Bh hi)) λGr Dx Eu=>?_
   have Jb:=Eu.le
   have g3:Al es.hp es.nx Gr Dx:=⟨by omega,λj hj=>by rw [Eu.same j (by omega),g.same j hj]⟩
   simp only [Ax,↓Ba,b0,b1,b2,b4,b10,Yc,Jb]
   exact ⟨(a+1+j) / 2,by omega,by omega,by omega,g3,rfl⟩
  .simp only [Ax,↓Ba,b1,b10,b11,h]
   have Mz:Ds .sub (.v (.int .i64 ((a+1:Nat):Int))) (.v (.int .i64 1))=some (.v (.int .i64 (a:Int))):=by rw [Ml,Eo (by omega)];congr 3;omega
   refine EW.l (I:=λ_ Cb=>Cb.hp=An.hp/\Cb.nx=An.nx/\Ae Cb (.t (.r (.r (.l .o))))=iv ((a+1:Nat))/\Ae Cb (.t (.l (.r (.r .o))))=iv (a:Nat)) ?_ 0 1000000 _ ?_ (by omega)
   .rintro n Cb ⟨q1,q2,UO,jW⟩
    unfold Ci2
    simp only [Ax,↓Ba,UO,jW,Mz,It]
    rw [q1,q2]
    exact hK _ _ g
   .simp only [Ax,b10]
 .simp only [Ax,a0,a1,a2,a4]
  omega
theorem Cq1(d:DV)(l:List PCell)(a m bx:Nat)(hn:n0<=nx)(hb:bX hp n0 bx)(h1:RL rCell hp (Bl n0) d l)(hs:Rg l)(QM:a+1<m)(Mt:m+1<=l.length)(hl:l.length<900000)(Kq:∀ c∈l,c.pos.length<900000)
  (hK:∀ Ao Bk,Al hp nx Ao Bk->K (.tup []) Ao Bk):KW (kN (k+6)) (.fn 212) [d,iv (a:Nat),iv (m:Nat),iv ((m+1:Nat)),Lu bx] hp nx K:=by
 refine Ss (Hm (by decide)) E4 (Ab rfl) λes e1 e2 he=>?_
 have a0:Ae es (.t .o)=d:=he 0 _ rfl
 have a1:Ae es (.t (.l .o))=iv (a:Nat):=he 1 _ rfl
 have a2:Ae es (.t (.r .o))=iv (m:Nat):=he 2 _ rfl
 have a3:Ae es (.t (.l (.l .o)))=iv ((m+1:Nat)):=he 3 _ rfl
 have a4:Ae es (.t (.r (.l .o)))=Lu bx:=he 4 _ rfl
 unfold sT
 subst e1 e2
 have Ow:Ds .sub (.v (.int .i64 ((m+1:Nat):Int))) (.v (.int .i64 (m:Int)))=some (.v (.int .i64 1)):=by rw [Ml,Eo (by omega)];congr 3;omega
 have HN:Ds .sub (.v (.int .i64 (m:Int))) (.v (.int .i64 (a:Int)))=some (.v (.int .i64 ((m-a:Nat):Int))):=by rw [Ml,Eo (by omega)];congr 3;omega
 simp only [Ax,↓Ba,a1,a2,a3,Ow,HN,show ¬ ((m-a:Nat):Int)=1 by omega]
 refine EW.l (I:=λn An=>∃ i,n=m-i/\a<=i/\i<=m/\Al es.hp es.nx An.hp An.nx/\Ae An (.t .o)=d/\Ae An (.t (.r .o))=iv (m:Nat)/\Ae An (.t (.r (.l .o)))=Lu bx/\Ae An (.t (.r (.r (.r .o))))=iv (i:Nat)/\Ae An (.t (.l (.l (.l (.l .o)))))=iv (m:Nat)) ?_ (m-a) 1000000 _ ?_ (by omega)
 .rintro n An ⟨i,cG,U2,Nv,g,b0,b2,b4,b14,b15⟩
  unfold Ci3
  have hle:=g.le
  have w1:=h1.ka hn g
  obtain ⟨kY,T,pG⟩:=hb
  have Ht:=(g.same bx (by omega)).trans pG
  by_cases h:i<m
  .have Wx:Ds .add (.v (.int .i64 (i:Int))) (.v (.int .i64 (m:Int)))=some (.v (.int .i64 ((i+m:Nat):Int))):=lN (by omega)
   have hi:(i+m) / 2<l.length:=by omega
   have Xe:m<l.length:=by omega
   obtain ⟨pA,vA,Tc,Ul,ldA,_⟩:=Ev w1 hi
   obtain ⟨pB,vB,cD,cA,I0,_⟩:=Ev w1 Xe
   have Yc:=va hs Xe (show (i+m) / 2<=m by omega)
   have Hj:n0<=An.nx:=by omega
   have F7:∀ an,Ii (Lu bx) (λid=>Cs An.nx 12 an An.hp id):=λan=>(Zu _ _ _ _).2 (Mp Ht (by omega))
   simp only [Ax,↓Ba,bP,b0,b2,b4,b14,b15,h,Wx,aL (show i+m<_ by omega),MU,aM (show (i+m) / 2<_ by omega),dC w1 hi,dC w1 Xe,ldA,I0,w1.rox Hj,R7 w1 Hj,Bn (F7 _)]
   refine ⟨⟨Kv (cD.rox Hj) (cA.rox Hj),Kv (Tc.rox Hj) (Ul.rox Hj)⟩,?_⟩
   refine Nt rfl (Q2 (f:=166) (fs:=[]) (cs:=[.pt bx 0]) (by rw [Hl];simp only [bR];exact SM Ht) ?_)
   simp only [bR,Ag,Ak,Bv,Ll]
   refine SG k n0 _ _ _ pB vB pA vA l[m] l[(i+m) / 2] bx (by omega) ⟨kY,T,Ht⟩ cD cA Tc Ul (Kq _ (Bh Xe)) λGr Dx Eu=>?_
   have Jb:=Eu.le
   have g3:Al es.hp es.nx Gr Dx:=⟨by omega,λj hj=>by rw [Eu.same j (by omega),g.same j hj]⟩
   simp only [Ax,↓Ba,b0,b2,b4,b15,Yc,Jb,Jx (show (i+m) / 2<_ by omega)]
   exact ⟨m-((i+m) / 2+1),by omega,(i+m) / 2+1,rfl,by omega,by omega,g3,rfl⟩
  .have Uo:i=m:=by omega
   subst Uo
   simp only [Ax,↓Ba,b2,b14,b15,It]
   refine EW.l (I:=λ_ Cb=>Cb.hp=An.hp/\Cb.nx=An.nx/\Ae Cb (.t (.r (.r (.r .o))))=iv (i:Nat)/\Ae Cb (.t (.l (.r (.l (.l .o)))))=iv (i:Nat)) ?_ 0 1000000 _ ?_ (by omega)
   .rintro n Cb ⟨q1,q2,dH,x17⟩
    unfold Ci4
    simp only [Ax,↓Ba,dH,x17,It]
    rw [q1,q2]
    exact hK _ _ g
   .simp only [Ax,b14]
 .refine ⟨a,?_⟩
  simp only [Ax,a0,a2,a4]
  omega
end
end Go.DD

/- Contracts: sorting of cells that are sorted changes nothing: merging in place, the general step. Conditions: those that each theorem states. -/
namespace Go.DD
open Go Go.Proofs
theorem EM:Cm 131=(.l (.l (.r (.l (.l (.l (.l .o))))))):=rfl
theorem EL:Cm 133=(.l (.r (.r (.l (.l (.l (.l .o))))))):=rfl
theorem YI:Cm 154=(.r (.r (.l (.r (.r (.l (.l .o))))))):=rfl
theorem YH:Cm 156=(.r (.l (.r (.r (.r (.l (.l .o))))))):=rfl
section
variable (k n0:Nat)
theorem By7(d:DV)(l:List PCell)(bx s0 r p:Nat)(x1 x2 x3 sH vF:DV)(hs:Rg l)(hl:l.length<900000)(Kq:∀ c∈l,c.pos.length<900000){es:ES}{Q:Exit->ES->Prop}(hn:n0<=es.nx)(hb:bX es.hp n0 bx)(h1:RL rCell es.hp (Bl n0) d l)(rF:s0<=r)(hr:r<900000)(hc:∀ c,s0<=c->c<r->c+c<=p/\p-c<l.length)
  (a0:Ae es (.t .o)=d) (a1:Ae es (.t (.l .o))=x1) (a2:Ae es (.t (.r .o))=x2) (a3:Ae es (.t (.l (.l .o)))=x3) (a4:Ae es (.t (.r (.l .o)))=Lu bx) (a18:Ae es (.t (.r (.r (.l (.l .o)))))=sH) (a19:Ae es (.t (.l (.l (.r (.l .o)))))=vF) (a20:Ae es (.t (.r (.l (.r (.l .o)))))=iv (s0:Nat)) (a21:Ae es (.t (.l (.r (.r (.l .o)))))=iv (r:Nat)) (a22:Ae es (.t (.r (.r (.r (.l .o)))))=iv (p:Nat))
  (hQ:∀ Cb:ES,Al es.hp es.nx Cb.hp Cb.nx->Ae Cb (.t .o)=d->Ae Cb (.t (.l .o))=x1->Ae Cb (.t (.r .o))=x2->Ae Cb (.t (.l (.l .o)))=x3->Ae Cb (.t (.r (.l .o)))=Lu bx->Ae Cb (.t (.r (.r (.l (.l .o)))))=sH->Ae Cb (.t (.l (.l (.r (.l .o)))))=vF->Ae Cb (.t (.r (.l (.r (.l .o)))))=iv (r:Nat)->Q (.exit 8) Cb):EW (cL 1000000 rn) (kN (k+5)) es Q:=by
 refine EW.l (I:=λn An=>∃ i,n=r-i/\s0<=i/\i<=r/\Al es.hp es.nx An.hp An.nx/\Ae An (.t .o)=d/\Ae An (.t (.l .o))=x1/\Ae An (.t (.r .o))=x2/\Ae An (.t (.l (.l .o)))=x3/\Ae An (.t (.r (.l .o)))=Lu bx/\Ae An (.t (.r (.r (.l (.l .o)))))=sH/\Ae An (.t (.l (.l (.r (.l .o)))))=vF/\Ae An (.t (.r (.l (.r (.l .o)))))=iv (i:Nat)/\Ae An (.t (.l (.r (.r (.l .o)))))=iv (r:Nat)/\Ae An (.t (.r (.r (.r (.l .o)))))=iv (p:Nat)) ?_ (r-s0) 1000000 _ ⟨s0,rfl,Ai _,rF,Al.refl _ _,a0,a1,a2,a3,a4,a18,a19,a20,a21,a22⟩ (by omega)
 rintro n An ⟨i,cG,U2,Nv,g,b0,b1,b2,b3,b4,b18,b19,V7,B1,P4⟩
 unfold rn
 have hle:=g.le
 have w1:=h1.ka hn g
 obtain ⟨kY,T,pG⟩:=hb
 have Ht:=(g.same bx (by omega)).trans pG
 by_cases h:i<r
 .obtain ⟨mG,Yg⟩:=hc ((i+r) / 2) (by omega) (by omega)
  obtain ⟨c,KC⟩:∃ c,c=(i+r) / 2:=⟨_,rfl⟩
  rw [<- KC] at mG Yg
  have Wx:Ds .add (.v (.int .i64 (i:Int))) (.v (.int .i64 (r:Int)))=some (.v (.int .i64 ((i+r:Nat):Int))):=lN (by omega)
  have hh:Ds .shr (.v (.int .u64 ((i+r:Nat):Int))) (.v (.int .u64 1))=some (.v (.int .u64 (c:Int))):=by rw [MU,<- KC]
  have Ow:Ds .sub (.v (.int .i64 (p:Int))) (.v (.int .i64 (c:Int)))=some (.v (.int .i64 ((p-c:Nat):Int))):=by rw [Ml,Eo (by omega)];congr 3;omega
  have hi:c<l.length:=by omega
  obtain ⟨pA,vA,Tc,Ul,ldA,_⟩:=Ev w1 hi
  obtain ⟨pB,vB,cD,cA,I0,_⟩:=Ev w1 Yg
  have Yc:=va hs Yg (show c<=p-c by omega)
  have Hj:n0<=An.nx:=by omega
  have F7:∀ an,Ii (Lu bx) (λid=>Cs An.nx 14 an An.hp id):=λan=>(Zu _ _ _ _).2 (Mp Ht (by omega))
  simp only [Ax,↓Ba,b0,b4,V7,B1,P4,h,Wx,hh,Ow,YI,YH,aL (show i+r<_ by omega),aM (show c<_ by omega),dC w1 hi,dC w1 Yg,ldA,I0,w1.rox Hj,R7 w1 Hj,Bn (F7 _)]
  refine ⟨⟨Kv (cD.rox Hj) (cA.rox Hj),Kv (Tc.rox Hj) (Ul.rox Hj)⟩,?_⟩
  refine Nt rfl (Q2 (f:=166) (fs:=[]) (cs:=[.pt bx 0]) (by rw [Hl];simp only [bR];exact SM Ht) ?_)
  simp only [bR,Ag,Ak,Bv,Ll]
  refine SG k n0 _ _ _ pB vB pA vA l[p-c] l[c] bx (by omega) ⟨kY,T,Ht⟩ cD cA Tc Ul (Kq _ (Bh Yg)) λGr Dx Eu=>?_
  have Jb:=Eu.le
  have g3:Al es.hp es.nx Gr Dx:=⟨by omega,λj hj=>by rw [Eu.same j (by omega),g.same j hj]⟩
  simp only [Ax,↓Ba,b0,b1,b2,b3,b4,b18,b19,B1,P4,Yc,Jb,Jx (show c<_ by omega)]
  exact ⟨r-(c+1),by omega,c+1,rfl,by omega,by omega,g3,rfl⟩
 .have hir:i=r:=by omega
  subst hir
  simp only [Ax,↓Ba,V7,B1,It]
  refine hQ _ g ?_ ?_ ?_ ?_ ?_ ?_ ?_ ?_ <;> simp only [bR] <;> assumption
theorem Ci6(d:DV)(l:List PCell)(bx:Nat)(hs:Rg l)(hl:l.length<900000)(Kq:∀ c∈l,c.pos.length<900000):∀ (f a m b:Nat) (hp:Tr DObj) (nx:Nat) (K:DV->Tr DObj->Nat->Prop) (_:n0<=nx) (_:bX hp n0 bx) (_:RL rCell hp (Bl n0) d l) (_:a<m) (_:m<b) (_:b<=l.length) (_:b-a<=2 ^ f)
  (_:∀ Ao Bk,Al hp nx Ao Bk->K (.tup []) Ao Bk),KW (kN (k+f+6)) (.fn 212) [d,iv (a:Nat),iv (m:Nat),iv (b:Nat),Lu bx] hp nx K:=by
 intro f
 induction f with
 | zero=>intro a m b hp nx K _ _ _ h1 h2 _ h3 _;omega
 | succ f ih=>
  intro a m b hp nx K hn hb h1 QM ff Mt hf hK
  by_cases c1:m=a+1
  .subst c1
   exact Cq0 (k+f+1) n0 hp nx K d l a b bx hn hb h1 hs ff Mt hl Kq hK
  .by_cases c2:b=m+1
   .subst c2
    exact Cq1 (k+f+1) n0 hp nx K d l a m bx hn hb h1 hs (by omega) Mt hl Kq hK
   .show KW (kN (k+f+6+1)) _ _ _ _ _
    refine Ss (Hm (by decide)) E4 (Ab rfl) λes e1 e2 he=>?_
    have a0:Ae es (.t .o)=d:=he 0 _ rfl
    have a1:Ae es (.t (.l .o))=iv (a:Nat):=he 1 _ rfl
    have a2:Ae es (.t (.r .o))=iv (m:Nat):=he 2 _ rfl
    have a3:Ae es (.t (.l (.l .o)))=iv (b:Nat):=he 3 _ rfl
    have a4:Ae es (.t (.r (.l .o)))=Lu bx:=he 4 _ rfl
    unfold sT
    subst e1 e2
    have Db:2 ^ (f+1)=2*2 ^ f:=by rw [Nat.pow_succ];omega
    rw [Db] at hf
    generalize 2 ^ f=F at hf ih
    obtain ⟨M,hM⟩:∃ M,M=(a+b) / 2:=⟨_,rfl⟩
    have Mz:Ds .sub (.v (.int .i64 (m:Int))) (.v (.int .i64 (a:Int)))=some (.v (.int .i64 ((m-a:Nat):Int))):=by rw [Ml,Eo (by omega)];congr 3;omega
    have Vd:Ds .sub (.v (.int .i64 (b:Int))) (.v (.int .i64 (m:Int)))=some (.v (.int .i64 ((b-m:Nat):Int))):=by rw [Ml,Eo (by omega)];congr 3;omega
    have gX:Ds .add (.v (.int .i64 (a:Int))) (.v (.int .i64 (b:Int)))=some (.v (.int .i64 ((a+b:Nat):Int))):=lN (by omega)
    have bT:Ds .add (.v (.int .i64 (M:Int))) (.v (.int .i64 (m:Int)))=some (.v (.int .i64 ((M+m:Nat):Int))):=lN (by omega)
    have bI:Ds .sub (.v (.int .i64 ((M+m:Nat):Int))) (.v (.int .i64 1))=some (.v (.int .i64 ((M+m-1:Nat):Int))):=by rw [Ml,Eo (by omega)];congr 3;omega
    have hh:Ds .shr (.v (.int .u64 ((a+b:Nat):Int))) (.v (.int .u64 1))=some (.v (.int .u64 (M:Int))):=by rw [MU,<- hM]
    by_cases cm:M<m
    .have Vc:Ds .sub (.v (.int .i64 ((M+m:Nat):Int))) (.v (.int .i64 (b:Int)))=some (.v (.int .i64 ((M+m-b:Nat):Int))):=by rw [Ml,Eo (by omega)];congr 3;omega
     simp only [Ax,↓Ba,a1,a2,a3,Mz,Vd,gX,bT,Vc,bI,hh,EM,EL,show ¬ ((m-a:Nat):Int)=1 by omega,show ¬ ((b-m:Nat):Int)=1 by omega,aL (show a+b<_ by omega),aM (show M<_ by omega),cm]
     refine By7 (k+f+1) n0 d l bx (M+m-b) M (M+m-1) (iv (a:Nat)) (iv (m:Nat)) (iv (b:Nat)) (iv (M:Nat)) (iv ((M+m:Nat))) hs hl Kq hn hb h1 (by omega) (by omega) (λc h3 h4=>⟨by omega,by omega⟩) (by simp only [bR,a0]) (by simp only [bR,a1]) (by simp only [bR,a2]) (by simp only [bR,a3]) (by simp only [bR,a4]) (by simp only [bR]) (by simp only [bR]) (by simp only [bR]) (by simp only [bR]) (by simp only [bR]) λCb g x0 x1 x2 x3 x4 sH vF OQ=>?_
     have g:Al es.hp es.nx Cb.hp Cb.nx:=g
     have kY:=hb.1
     have hle:=g.le
     have tL:Ds .sub (.v (.int .i64 ((M+m:Nat):Int))) (.v (.int .i64 (M:Int)))=some (.v (.int .i64 (m:Int))):=by rw [Ml,Eo (by omega)];congr 3;omega
     simp only [Ax,↓Ba,x0,x1,x2,x3,x4,sH,vF,OQ,tL,cm,It,show a<M by omega,ff]
     refine Fl (ih M m b _ _ _ (by have:=g.le;omega) ⟨hb.1,by obtain ⟨_,T,h⟩:=hb;exact ⟨T,(g.same _ (by omega)).trans h⟩⟩ (h1.ka hn g) cm ff Mt (by omega) λGr Dx Eu=>?_)
     simp only [Ax,↓Ba]
     exact hK _ _ (g.trans Eu)
    .simp only [Ax,↓Ba,a1,a2,a3,Mz,Vd,gX,bT,bI,hh,EM,EL,show ¬ ((m-a:Nat):Int)=1 by omega,show ¬ ((b-m:Nat):Int)=1 by omega,aL (show a+b<_ by omega),aM (show M<_ by omega),cm]
     refine By7 (k+f+1) n0 d l bx a m (M+m-1) (iv (a:Nat)) (iv (m:Nat)) (iv (b:Nat)) (iv (M:Nat)) (iv ((M+m:Nat))) hs hl Kq hn hb h1 (by omega) (by omega) (λc h3 h4=>⟨by omega,by omega⟩) (by simp only [bR,a0]) (by simp only [bR,a1]) (by simp only [bR,a2]) (by simp only [bR,a3]) (by simp only [bR,a4]) (by simp only [bR]) (by simp only [bR]) (by simp only [bR]) (by simp only [bR]) (by simp only [bR]) λCb g x0 x1 x2 x3 x4 sH vF OQ=>?_
     have g:Al es.hp es.nx Cb.hp Cb.nx:=g
     have kY:=hb.1
     have hle:=g.le
     have tL:Ds .sub (.v (.int .i64 ((M+m:Nat):Int))) (.v (.int .i64 (m:Int)))=some (.v (.int .i64 (M:Int))):=by rw [Ml,Eo (by omega)];congr 3;omega
     by_cases ce:m<M
     .simp only [Ax,↓Ba,x0,x1,x2,x4,sH,vF,OQ,tL,It,QM,ce]
      refine Fl (ih a m M _ _ _ (by have:=g.le;omega) ⟨hb.1,by obtain ⟨_,T,h⟩:=hb;exact ⟨T,(g.same _ (by omega)).trans h⟩⟩ (h1.ka hn g) QM ce (by omega) (by omega) λGr Dx Eu=>?_)
      simp only [Ax,↓Ba,sH,It]
      exact hK _ _ (g.trans Eu)
     .simp only [Ax,↓Ba,x1,x2,sH,vF,OQ,tL,It,QM,ce]
      exact hK _ _ g
end
end Go.DD

/- Contracts: a stable sort of sorted cells changes nothing. Conditions: those that each theorem states. -/
namespace Go.DD
open Go Go.Proofs
section
variable (k n0:Nat) (hp:Tr DObj) (nx:Nat) (K:DV->Tr DObj->Nat->Prop)
theorem By8(f:Nat)(d:DV)(l:List PCell)(bx:Nat)(hn:n0<=nx)(hb:bX hp n0 bx)(h1:RL rCell hp (Bl n0) d l)(hs:Rg l)(hl:l.length<400000)(hf:l.length<=2 ^ f)(Kq:∀ c∈l,c.pos.length<900000)
  (hK:∀ Ao Bk,Al hp nx Ao Bk->K (.tup []) Ao Bk):KW (kN (k+f+7)) (.fn 187) [d,iv l.length,Lu bx] hp nx K:=by
 refine Ss (Hm (by decide)) VW (Ab rfl) λes e1 e2 he=>?_
 have a0:Ae es (.t .o)=d:=he 0 _ rfl
 have a1:Ae es (.t (.l .o))=iv l.length:=he 1 _ rfl
 have a2:Ae es (.t (.r .o))=Lu bx:=he 2 _ rfl
 unfold CR
 subst e1 e2
 have kY:=hb.1
 have tD:∀ {Ao Bk},Al es.hp es.nx Ao Bk->bX Ao n0 bx:=λg=>⟨hb.1,by obtain ⟨_,T,h⟩:=hb;exact ⟨T,(g.same _ (by omega)).trans h⟩⟩
 simp only [Ax,↓Ba]
 refine EW.l (I:=λm An=>∃ a,m=l.length-a/\a<=l.length/\Al es.hp es.nx An.hp An.nx/\Ae An (.t .o)=d/\Ae An (.t (.l .o))=iv l.length/\Ae An (.t (.r .o))=Lu bx/\Ae An (.t (.r (.r .o)))=iv ((20:Nat))/\Ae An (.t (.l (.l (.l .o))))=iv (a:Nat)/\Ae An (.t (.r (.l (.l .o))))=iv ((a+20:Nat))) ?_ l.length 1000000 _ ?_ (by omega)
 .rintro m An ⟨a,hm,ha,g,b0,b1,b2,b6,b7,b8⟩
  unfold Ch7
  have hle:=g.le
  by_cases h:a+20<=l.length
  .simp only [Ax,↓Ba,b0,b1,b2,b7,b8,h]
   refine Fl (Bm2 (k+f) n0 _ _ _ d l a (a+20) bx (by omega) (tD g) (h1.ka hn g) hs (by omega) h (by omega) Kq λGr Dx Eu=>?_)
   simp only [Ax,↓Ba,b0,b1,b2,b6,b8,lN (show a+20+20<_ by omega)]
   exact ⟨l.length-(a+20),by omega,a+20,rfl,h,g.trans Eu,rfl,rfl⟩
  .simp only [Ax,↓Ba,b0,b1,b2,b7,b8,h]
   refine Fl (Bm2 (k+f) n0 _ _ _ d l a l.length bx (by omega) (tD g) (h1.ka hn g) hs ha (Ai _) (by omega) Kq λGr Dx Eu=>?_)
   have g3:=g.trans Eu
   simp only [Ax,↓Ba]
   refine EW.l (I:=λm Cb=>∃ bs,m=l.length-bs/\1<=bs/\bs<=400000+400000/\Al es.hp es.nx Cb.hp Cb.nx/\Ae Cb (.t .o)=d/\Ae Cb (.t (.l .o))=iv l.length/\Ae Cb (.t (.r .o))=Lu bx/\Ae Cb (.t (.r (.r .o)))=iv (bs:Nat)) ?_ (l.length-20) 1000000 _ ?_ (by omega)
   .rintro m2 Cb ⟨bs,oU,N3,aRp,g2,x0,x1,x2,x6⟩
    unfold Ch9
    have Hj:=g2.le
    by_cases h2:bs<l.length
    .have hmul:Ds .mul (.v (.int .i64 2)) (.v (.int .i64 (bs:Int)))=some (.v (.int .i64 ((2*bs:Nat):Int))):=by rw [qI,Eo (by omega)];congr 3
     simp only [Ax,↓Ba,x1,x6,h2,hmul]
     refine EW.l (I:=λm Ks=>∃ a,m=l.length-a/\a<=l.length/\Al es.hp es.nx Ks.hp Ks.nx/\Ae Ks (.t .o)=d/\Ae Ks (.t (.l .o))=iv l.length/\Ae Ks (.t (.r .o))=Lu bx/\Ae Ks (.t (.r (.r .o)))=iv (bs:Nat)/\Ae Ks (.t (.l (.l (.l .o))))=iv (a:Nat)/\Ae Ks (.t (.r (.l (.l .o))))=iv ((a+2*bs:Nat))) ?_ l.length 1000000 _ ?_ (by omega)
     .rintro m3 Ks ⟨a,hm3,gW,g4,y0,y1,y2,y6,y7,y8⟩
      unfold Ch8
      have bM:=g4.le
      have Wx:Ds .add (.v (.int .i64 (a:Int))) (.v (.int .i64 (bs:Int)))=some (.v (.int .i64 ((a+bs:Nat):Int))):=lN (by omega)
      by_cases h5:a+2*bs<=l.length
      .simp only [Ax,↓Ba,y0,y1,y2,y6,y7,y8,h5,Wx]
       refine Fl (Ci6 k n0 d l bx hs (by omega) Kq f a (a+bs) (a+2*bs) _ _ _ (by omega) (tD g4) (h1.ka hn g4) (by omega) (by omega) h5 (by omega) λHp Jp Kr=>?_)
       simp only [Ax,↓Ba,y0,y1,y2,y6,y8,hmul,lN (show a+2*bs+2*bs<_ by omega)]
       exact ⟨l.length-(a+2*bs),by omega,a+2*bs,rfl,h5,g4.trans Kr,rfl,rfl⟩
      .by_cases h6:a+bs<l.length
       .simp only [Ax,↓Ba,y0,y1,y2,y6,y7,y8,h5,h6,Wx]
        refine Fl (Ci6 k n0 d l bx hs (by omega) Kq f a (a+bs) l.length _ _ _ (by omega) (tD g4) (h1.ka hn g4) (by omega) h6 (Ai _) (by omega) λHp Jp Kr=>?_)
        have jl:Ds .mul (.v (.int .i64 (bs:Int))) (.v (.int .i64 2))=some (.v (.int .i64 ((bs*2:Nat):Int))):=by rw [qI,Eo (by omega)];congr 3
        simp only [Ax,↓Ba,y0,y1,y2,y6,jl]
        exact ⟨l.length-bs*2,by omega,bs*2,rfl,by omega,by omega,g4.trans Kr,rfl⟩
       .have jl:Ds .mul (.v (.int .i64 (bs:Int))) (.v (.int .i64 2))=some (.v (.int .i64 ((bs*2:Nat):Int))):=by rw [qI,Eo (by omega)];congr 3
        simp only [Ax,↓Ba,y0,y1,y2,y6,y7,y8,h5,h6,Wx,jl]
        exact ⟨l.length-bs*2,by omega,bs*2,rfl,by omega,by omega,g4,rfl⟩
     .refine ⟨0,?_⟩
      simp only [Ax,x0,x1,x2,x6]
      refine ⟨by omega,by omega,g2,?_⟩
      first | rfl | rw [Cp] | simp
    .simp only [Ax,↓Ba,x1,x6,h2]
     exact hK _ _ g2
   .refine ⟨20,?_⟩
    simp only [Ax,b0,b1,b2,b6]
    exact ⟨by omega,by omega,g3⟩
 .refine ⟨0,?_⟩
  simp only [Ax,a0,a1,a2]
  exact ⟨by omega,by omega,rfl⟩
end
end Go.DD

/- Contracts: sorting of sorted cells by a key changes nothing. Conditions: those that each theorem states. -/
namespace Go.DD
open Go Go.Proofs
section
variable (k n0:Nat) (hp:Tr DObj) (nx:Nat) (K:DV->Tr DObj->Nat->Prop)
theorem A64(f:Nat)(d:DV)(l:List PCell)(bx:Nat)(hn:n0<=nx)(hb:bX hp n0 bx)(h1:RL rCell hp (Bl n0) d l)(hs:Rg l)(hl:l.length<400000)(hf:l.length<=2 ^ f)(Kq:∀ c∈l,c.pos.length<900000)
  (hK:∀ Ao Bk,Al hp nx Ao Bk->K (.tup []) Ao Bk):KW (kN (k+f+8)) (.fn 165) [d,Lu bx] hp nx K:=by
 refine Ss (Hm (by decide)) WJ (Ab rfl) λes e1 e2 he=>?_
 have a0:Ae es (.t .o)=d:=he 0 _ rfl
 have a1:Ae es (.t (.l .o))=Lu bx:=he 1 _ rfl
 unfold DE
 subst e1 e2
 simp only [Ax,↓Ba,a0,a1,h1.len]
 refine Fl (By8 k n0 _ _ _ f d l bx hn hb h1 hs hl hf Kq λGr Dx Eu=>?_)
 simp only [Ax,↓Ba]
 exact hK _ _ Eu
theorem By9(f:Nat)(d:DV)(l:List PCell)(hn:n0<=nx)(h1:RL rCell hp (Bl n0) d l)(hs:Rg l)(hl:l.length<400000)(hf:l.length<=2 ^ f)(Kq:∀ c∈l,c.pos.length<900000)
  (hK:∀ Ao Bk,Al hp nx Ao Bk->K (.tup []) Ao Bk):KW (kN (k+f+9)) (.fn 128) [d,.fn (.func 129) [.tup []]] hp nx K:=by
 refine Ss (Hm (by decide)) XA (Ab rfl) λes e1 e2 he=>?_
 have a0:Ae es (.t .o)=d:=he 0 _ rfl
 have a1:Ae es (.t (.l .o))=.fn (.func 129) [.tup []]:=he 1 _ rfl
 unfold DY
 subst e1 e2
 simp only [↓Ba]
 refine Z5 (v:=.fn (.func 129) [.tup []]) (by simp only [Hl,a1];exact NC _ _) ⟨rfl,rfl⟩ λEi Dm Cv=>?_
 simp only [bR] at Dm Cv
 have Gb:Al es.hp es.nx Ei (es.nx+1):=⟨by omega,λj hj=>Cv j (by omega)⟩
 have e1:Cd Ei (.pt es.nx 0)=.pt es.nx 0:=Wc λid hid=>by
  have:id=es.nx:=by simpa [DV.refs] using hid
  rw [this,Dm];rfl
 simp only [Ax,↓Ba,bP,a0,e1]
 refine Fl (A64 k (es.nx+1) _ _ _ f d l es.nx (Ai _) ⟨by omega,_,Dm⟩ ((h1.ka hn Gb).bl (show n0<=es.nx+1 by omega)) hs hl hf Kq λGr Dx Eu=>?_)
 simp only [Ax,↓Ba]
 exact hK _ _ (Gb.trans Eu)
end
end Go.DD

/- Contracts: the program's copy of a cell. Conditions: those that each theorem states. -/
namespace Go.DD
open Go Go.Proofs
def MP(d:DV):Prop:=∃ id off n e,d=.ms id off n e
theorem OLs.isM{α:Type}{R:Rep α}{hp:Tr DObj}{p:Nat->Prop}{d:DV}{l:List α}(h:OLs R hp p d l)(hl:l≠[]):MP d:=by
 rcases h with h | ⟨h,_⟩
 .cases h with
  | nil=>exact absurd rfl hl
  | ms id=>exact ⟨_,_,_,_,rfl⟩
 .exact absurd h hl
structure OwnC (hp:Tr DObj) (c:DV):Prop where
 n:∀ cs n,c≠.sl cs n
 m:∀ id off n e,c=.ms id off n e->∀ fl,hp.get id=some (.row rCell.T fl)->∀ x∈fl,MP x
theorem OwnC.nil(hp:Tr DObj):OwnC hp Cl:=⟨λ_ _ h=>(by cases h),λ_ _ _ _ h=>(by cases h)⟩
theorem OwnC.keep{hp Ao:Tr DObj}{c:DV}(h:OwnC hp c)(hk:∀ j∈c.refs,Ao.get j=hp.get j):OwnC Ao c:=⟨h.n,λid off n e hc fl hg=>h.m id off n e hc fl (by rw [<- hk id (by rw [hc];simp [DV.refs])];exact hg)⟩
def AOw(hp:Tr DObj)(d:DV):Prop:=∀ a b c,d=.agg [a,b,c]->OwnC hp c
theorem AOw.of{hp:Tr DObj}{a b c:DV}(h:OwnC hp c):AOw hp (.agg [a,b,c]):=λa' b' c' e=>by cases e;exact h
section
variable (k n0:Nat) (hp:Tr DObj) (nx:Nat) (K:DV->Tr DObj->Nat->Prop)
theorem Bz0(p v:DV)(c:PCell)(hn:n0<=nx)(h1:RL rInt hp (Bl n0) p c.pos)(h2:RL rVal hp (Bl n0) v c.vals)(tN:c.pos≠[])(tI:c.vals≠[])(Ng:c.pos.length<900000)(T1:c.vals.length<900000)
  (hK:∀ Ao Bk p' v',Al hp nx Ao Bk->RL rInt Ao (Bw nx Bk) p' c.pos->RL rVal Ao (Bw nx Bk) v' c.vals->MP p'->MP v'->K (.agg [p',v']) Ao Bk):KW (kN (k+2)) (.fn 164) [.agg [p,v]] hp nx K:=by
 refine nY (Hm (by decide)) WK (Ab rfl) λes e1 e2 he=>?_
 have a0:Ae es (.t .o)=.agg [p,v]:=he 0 _ rfl
 unfold DG
 subst e1 e2
 simp only [↓Ba]
 refine Zo (cs:=[p,v]) (by rw [Hl,a0];exact Yp h1 h2) λEi Dm Cv=>?_
 simp only [bR] at Dm Cv
 simp only [Ax,↓Ba]
 refine Vr λDb Ft Et=>?_
 simp only [bR] at Ft Et
 have Dj:Al es.hp es.nx Db (es.nx+2):=⟨by omega,λj hj=>by rw [Et j (by omega),Cv j (by omega)]⟩
 have fN:=(Et es.nx (by omega)).trans Dm
 obtain ⟨⟨f0,f1⟩,l0,l1,_⟩:=Xh fN
 have r1:=h1.ka hn Dj
 have r2:=h2.ka hn Dj
 simp only [Ax,↓Ba,f0,l0,Mp (n0:=es.nx+1+1) (m:=8) fN (show es.nx<es.nx+1+1 by omega),r1.rox (show n0<=es.nx+1+1 by omega)]
 refine Nt rfl (Xi ?_)
 simp only [bR,Ag,Ak]
 refine vb k n0 _ _ _ p c.pos (by omega) r1 (.inl tN) (by omega) λNz G7 a' Sy J7 dj _=>?_
 have eD:=Sy.le
 have oY:=(Sy.same es.nx (by omega)).trans fN
 have ig:=(Sy.same (es.nx+1) (by omega)).trans Ft
 obtain ⟨⟨f0,f1⟩,l0,l1,_⟩:=Xh oY
 have r7:=r2.ka (nx:=es.nx+1+1+8) (by omega) Sy
 have YD:=J7.rlF dj
 simp only [Ax,↓Ba,eD,f1,l1,Mp (n0:=es.nx+1+1) (m:=8) oY (show es.nx<es.nx+1+1 by omega),r7.rox (show n0<=es.nx+1+1 by omega)]
 refine Nt rfl (Xi ?_)
 simp only [bR,Ag,Ak]
 refine Ba7 k n0 _ _ _ v c.vals (by omega) r7 (.inl tI) (by omega) λOl Wq v' Rv PV di _=>?_
 have Zf:=Rv.le
 have L9:=(Rv.same es.nx (by omega)).trans oY
 have JR:=(Rv.same (es.nx+1) (by omega)).trans ig
 have nH:=PV.rlF di
 have nI:=YD.keep (Ao:=Ol) λj hj=>Rv.same j hj.2
 have CG:∀ an,Ii a' (λid=>Cs (es.nx+1+1) 8 an Ol id):=λan=>nI.ro' (n:=es.nx+1+1) (m:=8) λj hj=>.inr hj.1
 have CF:∀ an,Ii v' (λid=>Cs (es.nx+1+1) 8 an Ol id):=λan=>nH.ro' (n:=es.nx+1+1) (m:=8) λj hj=>.inr (by have:=hj.1;omega)
 have bB:∀ an,Ii (.agg [a',v']) (λid=>Cs (es.nx+1+1) 8 an Ol id):=λan=>Kv (CG an) (CF an)
 have zF:=MY (z:=.slice none 0 0) (w:=.slice none 0 0) nI.ok nH.ok
 simp only [Ax,↓Ba,bP,Zf,MW,nI.live,nH.live,zF,Cf,Bn (CG _),Bn (CF _),Bn (bB _),Mp (n0:=es.nx+1+1) (m:=8) JR (show es.nx+1<es.nx+1+1 by omega)]
 refine Nt rfl (Uu (n:=2) (id:=es.nx+1) (ds:=[a',v']) (by simp only [bR]) JR (by simp only [Hl,bR];exact Yp nI nH) rfl rfl λMk Qa Ju=>?_)
 simp only [bR] at Qa Ju
 have ij:=(Ju es.nx (by omega)).trans L9
 simp only [Ax,↓Ba]
 have He:∀ d∈[p,v],Oz 6 d d=true:=λd hd=>by
  simp only [Aq,Ci,or_false] at hd
  rcases hd with rfl | rfl
  .exact h1.same (by decide)
  .exact h2.same (by decide)
 have Gy:∀ q∈[(⟨7,[6,5,0,1,2,3,4],Ol,Mk⟩:Past),⟨5,[4,2,3,1,0],Nz,Ol⟩,⟨2,[1,0],Db,Nz⟩],q.a.get es.nx=some (.row 39 [p,v])/\q.b.get es.nx=some (.row 39 [p,v]):=λq hq=>by
  simp only [Aq,Ci,or_false] at hq
  rcases hq with rfl | rfl | rfl
  .exact ⟨L9,ij⟩
  .exact ⟨oY,L9⟩
  .exact ⟨fN,oY⟩
 have Lj:∀ (o:Nat),∀ j∈(DV.pt es.nx o).refs,j=es.nx:=λo j hj=>by simpa [DV.refs] using hj
 refine ⟨qS (Lj 1) (by omega) Gy He (qS (Lj 0) (by omega) Gy He rfl),_,B6 (by simp only [bR,bP]) Qa rfl,hK _ _ _ _ ⟨by omega,λj hj=>?_⟩ ((nI.keep λj hj=>Ju j ?_).mono λj hj=>⟨?_,?_⟩) ((nH.keep λj hj=>Ju j ?_).mono λj hj=>⟨?_,?_⟩) (J7.isM tN) (PV.isM tI)⟩
 .rw [Ju j (by omega),Rv.same j (by omega),Sy.same j (by omega),Dj.same j hj]
 all_goals (have h1:=hj.1;have h2:=hj.2;omega)
end
end Go.DD

/- Contracts: the program's copy of an array. Conditions: those that each theorem states. -/
namespace Go.DD
open Go Go.Proofs
section
variable (k n0:Nat) (hp:Tr DObj) (nx:Nat) (K:DV->Tr DObj->Nat->Prop)
theorem B84(d a c:DV)(D:List PDim)(A:List PAttr)(C:List PCell)(hn:n0<=nx)(h1:RL rDim hp (Bl n0) d D)(h2:RL rAttr hp (Bl n0) a A)(h3:RL rCell hp (Bl n0) c C)(hD:D≠[])(hA:A≠[])(hDl:D.length<900000)(hAl:A.length<900000)(hCl:C.length<900000)
  (hc:∀ e∈C,e.pos≠[]/\e.pos.length<900000/\e.vals≠[]/\e.vals.length<900000)
  (hK:∀ Ao Bk d',Al hp nx Ao Bk->AR Ao (Bw nx Bk) d' ⟨D,A,C⟩->AOw Ao d'->K d' Ao Bk):KW (kN (k+3)) (.fn 127) [d,a,c] hp nx K:=by
 refine nY (Hm (by decide)) XB (Ab rfl) λes e1 e2 he=>?_
 have a0:Ae es (.t .o)=d:=he 0 _ rfl
 have a1:Ae es (.t (.l .o))=a:=he 1 _ rfl
 have a2:Ae es (.t (.r .o))=c:=he 2 _ rfl
 unfold DZ
 subst e1 e2
 simp only [↓Ba]
 refine Vr λEi Dm Cv=>?_
 simp only [bR] at Dm Cv
 have Gb:Al es.hp es.nx Ei (es.nx+1):=⟨by omega,λj hj=>Cv j (by omega)⟩
 simp only [Ax,↓Ba,a0]
 refine Fl (Bx5 (k+1) n0 _ _ _ d D (by omega) (h1.ka hn Gb) (.inl hD) (by omega) λDb Hz d2 Dj iW tM _=>?_)
 have Hj:=Dj.le
 have bT:=Gb.trans Dj
 simp only [Ax,↓Ba,a1]
 refine Fl (Bx6 (k+1) n0 _ _ _ a A (by omega) (h2.ka hn bT) (.inl hA) (by omega) λGr Dx a3 Eu PW hr3 _=>?_)
 have Jb:=Eu.le
 have gW:=bT.trans Eu
 have S2:=(iW.rlF tM).keep (Ao:=Gr) λj hj=>Eu.same j hj.2
 have XZ:=PW.rlF hr3
 simp only [Ax,↓Ba]
 refine fT (cs:=[d2,a3,.v (.slice none 0 0)]) (by simp only [Ag,Ak,Cg,bR,bP,S2.live,XZ.live];simp [Ia,S2.ok,XZ.ok]) ?_
 simp only [Ax,↓Ba]
 refine Vr λGz Mf Fp=>?_
 simp only [bR] at Mf Fp
 have wE:=S2.keep (Ao:=Gz) λj hj=>Fp j (by have:=hj.2;omega)
 have XY:=XZ.keep (Ao:=Gz) λj hj=>Fp j (by have:=hj.2;omega)
 have bK:Cd Gz (.agg [d2,a3,.v (.slice none 0 0)])=.agg [d2,a3,.v (.slice none 0 0)]:=Wc λid hid=>by
  have:id∈d2.refs\/id∈a3.refs:=by simpa [DV.refs,DV.refsL] using hid
  rcases this with h | h
  .exact (wE.refs id h).2
  .exact (XY.refs id h).2
 simp only [Ax,↓Ba]
 refine Uu (n:=3) (id:=Dx) (ds:=[d2,a3,.v (.slice none 0 0)]) (by simp only [bR]) Mf (by simp only [Hl,bR];exact bK) rfl rfl λHp Qb Io=>?_
 simp only [bR] at Qb Io
 have zL:Al es.hp es.nx Hp (Dx+1):=⟨by omega,λj hj=>by rw [Io j (by omega),Fp j (by omega),gW.same j hj]⟩
 have h35:∀ j,j<Dx->Hp.get j=Gr.get j:=λj hj=>by rw [Io j (by omega),Fp j (by omega)]
 have M2:Hp.get es.nx=_:=(h35 _ (by omega)).trans ((Eu.same _ (by omega)).trans ((Dj.same _ (by omega)).trans Dm))
 have w5:=h3.ka hn zL
 simp only [Ax,↓Ba,a2,w5.len]
 refine EW.up C.length (λi An=>∃ z,Al es.hp es.nx An.hp An.nx/\Dx+1<=An.nx/\(∀ j,j<Dx->An.hp.get j=Hp.get j)/\An.hp.get Dx=some (.row 26 [d2,a3,z])/\OL rCell An.hp (λj=>Dx<j/\j<An.nx/\j∉z.refs) z (C.take i)/\OwnC An.hp z/\Rng (Dx+1) An.nx z/\Ae An (.t (.r (.r .o)))=.pt es.nx 0/\Ae An (.t (.l (.l (.l .o))))=.pt Dx 0/\Ae An (.t (.l (.l (.l (.l .o)))))=c/\Ae An (.t (.r (.l (.l (.l .o)))))=iv C.length/\Ae An (.t (.l (.r (.l (.l .o)))))=iv (i:Nat)) ?_ ?_ (by omega)
 .rintro i An hi ⟨z,g,Yc,Ct,QD,ho,hW,HQ,b6,b7,b15,b16,Zm⟩
  unfold Ch6
  have hle:=g.le
  have w1:=h3.ka hn g
  by_cases h:i<C.length
  .obtain ⟨pA,vA,Tc,Ul,ldA,_⟩:=Ev w1 h
   have iU:=hc _ (Bh h)
   simp only [Ax,↓Ba,b15,b16,Zm,h,dC w1 h,ldA]
   refine Vr λJf Yu Py=>?_
   simp only [bR] at Yu Py
   have k6:∀ j,j<An.nx->Jf.get j=An.hp.get j:=λj hj=>Py j (by omega)
   have rp6:=Tc.keep (Ao:=Jf) λj (hj:j<n0)=>k6 j (by omega)
   have BX:=Ul.keep (Ao:=Jf) λj (hj:j<n0)=>k6 j (by omega)
   simp only [Ax,↓Ba]
   refine Uu (n:=2) (id:=An.nx) (ds:=[pA,vA]) (by simp only [bR]) Yu (by simp only [Hl,bR];exact Yp rp6 BX) rfl rfl λNz Td Md=>?_
   simp only [bR] at Td Md
   have k7:∀ j,j<An.nx->Nz.get j=An.hp.get j:=λj hj=>by rw [Md j (by omega),k6 j hj]
   have yg:=Tc.keep (Ao:=Nz) λj (hj:j<n0)=>k7 j (by omega)
   have ye:=Ul.keep (Ao:=Nz) λj (hj:j<n0)=>k7 j (by omega)
   have kT:=(k7 Dx (by omega)).trans QD
   obtain ⟨⟨_,_,fz⟩,_,_,lz,_⟩:=Uw kT
   obtain ⟨_,_,_,lT⟩:=Xh Td
   have Rs:∀ j,(Dx<j/\j<An.nx/\j∉z.refs)\/j∈z.refs->Dx<j/\j<An.nx:=λj hj=>by
    rcases hj with hj | hj
    .exact ⟨hj.1,hj.2.1⟩
    .have:=HQ j hj;exact ⟨by omega,this.2⟩
   have J7:=ho.keep (Ao:=Nz) λj hj=>k7 j (Rs j hj).2
   have OW:∀ an,Ii z (λid=>Cs (An.nx+1) 8 an Nz id):=λan=>J7.rl.ro' (n:=An.nx+1) (m:=8) λj hj=>.inl (by have:=(Rs j hj).2;omega)
   simp only [Ax,↓Ba,b7,fz,lz,lT,Mp (n0:=An.nx+1) (m:=8) kT (show Dx<An.nx+1 by omega),Mp (n0:=An.nx+1) (m:=8) Td (show An.nx<An.nx+1 by omega)]
   refine ⟨Kv (yg.rox (by omega)) (ye.rox (by omega)),?_⟩
   refine Nt rfl (Xi ?_)
   simp only [bR,Ag,Ak]
   refine Bz0 k n0 _ _ _ pA vA C[i] (by omega) yg ye iU.1 iU.2.2.1 iU.2.1 iU.2.2.2 λOl Wq p' v' Rv OV OU mp8 mv8=>?_
   have Zf:=Rv.le
   have bB:∀ an,Ii (.agg [p',v']) (λid=>Cs (An.nx+1) 8 an Ol id):=λan=>Kv (OV.ro' (n:=An.nx+1) (m:=8) λj hj=>.inr hj.1) (OU.ro' (n:=An.nx+1) (m:=8) λj hj=>.inr hj.1)
   have JL:=(Rv.same Dx (by omega)).trans kT
   have aRd:=(Rv.same An.nx (by omega)).trans Td
   have zF:=MY (z:=.slice none 0 0) (w:=.slice none 0 0) OV.ok OU.ok
   simp only [Ax,↓Ba,Zf,Bn (bB _)]
   refine SK (fl:=[p',v']) rfl (by simp only [Ag,Ak,Cg,bR,bP,Yp OV OU];exact C07 (z:=[.slice none 0 0,.slice none 0 0]) rfl) λMk Qa Ju=>?_
   simp only [bR] at Qa Ju
   have k9:∀ j,j<An.nx->Mk.get j=An.hp.get j:=λj hj=>by rw [Ju j (by omega),Rv.same j (by omega),k7 j hj]
   have yf:=OV.keep (Ao:=Mk) λj hj=>Ju j (by have:=hj.1;omega)
   have yc:=OU.keep (Ao:=Mk) λj hj=>Ju j (by have:=hj.1;omega)
   have ho9:=ho.keep (Ao:=Mk) λj hj=>k9 j (Rs j hj).2
   have aRa:=(k9 Dx (by omega)).trans QD
   have XV:∀ an,Ii z (λid=>Cs (An.nx+1) 8 an Mk id):=λan=>ho9.rl.ro' (n:=An.nx+1) (m:=8) λj hj=>.inl (by have:=(Rs j hj).2;omega)
   have hlen:(C.take i).length=i:=by rw [Bs];omega
   simp only [Ax,↓Ba,Bn (XV _)]
   refine ⟨sB Qa rfl,?_⟩
   refine Nt rfl (Bl3 (R:=rCell) (p:=λj=>Dx<j/\j<An.nx/\j∉z.refs) (p2:=Bw (An.nx+1+8) Wq) (d:=z) (d2:=.ms (An.nx+1+4) 0 1 2) (ds:=[p',v']) (l:=C.take i) (m:=[C[i]]) (by simp only [bR,bP]) ho9 (by simp only [Cg,bR,bP];exact Rl Qa) (SL (R:=rCell) (x:=C[i]) Qa (rCell_rd.2 ⟨p',v',rfl,yf,yc⟩)) (Rows.one (rCell_rd.2 ⟨p',v',rfl,yf,yc⟩)) rfl rfl (by rw [Bf];omega) (by decide) λIx Hq O5 KT=>?_)
   simp only [bR] at Hq O5 KT
   have tE:∀ j∈z.refs,Dx<j/\j<An.nx:=λj hj=>Rs j (.inr hj)
   have EZ:=O5 (λj=>Dx<j/\j<Wq/\j∉z.refs) (λj hj=>by
    rcases hj with hj | hj
    .exact ⟨⟨hj.1,by omega,hj.2.2⟩,by omega,hj.2.2⟩
    .have h1:=hj.1
     have h2:=hj.2
     exact ⟨⟨by omega,h2,λh=>by have:=tE j h;omega⟩,by omega,λh=>by have:=tE j h;omega⟩)
   have ai:∀ j,j<=Dx->Ix.get j=An.hp.get j:=λj hj=>by rw [Hq j (by omega) (λh=>by have:=tE j h;omega),k9 j (by omega)]
   have oW:=(ai Dx (by omega)).trans QD
   obtain ⟨⟨_,_,me⟩,_⟩:=Uw oW
   obtain ⟨_,_,mi,gR,_⟩:=EZ.get
   obtain ⟨aT3,g10,m10⟩:=KT MP (λid fl hz hg=>hW.m id 0 _ _ hz fl (by rw [<- k9 id (Rs id (.inr (by rw [hz];simp [DV.refs]))).2];exact hg)) λc hc=>by
    simp only [Aq,Ci,or_false] at hc
    rcases hc with rfl | rfl
    .exact mp8
    .exact mv8
   have XX:∀ an,Cs (An.nx+1) 8 an Ix Wq=true:=λan=>(sC Ix Wq).2 ⟨by rw [gR];rfl,.inr (.inl (by omega))⟩
   simp only [Ax,↓Ba,b7,me,Mp (n0:=An.nx+1) (m:=8) oW (show Dx<An.nx+1 by omega),XX _,Nat.le_succ]
   refine Nt rfl (mN (id:=Dx) (off:=2) (by simp only [bR]) oW (by simp only [Hl,bR];exact Rl gR) (dK _ _ _ _) (by simp) λLp Zh Me=>?_)
   simp only [bR] at Zh Me
   simp only [Ax,↓Ba,b6,b7,b15,b16,Zm,Jx (show i<_ by omega)]
   have He:∀ q∈[d2,a3,z],Oz 6 q q=true:=AR.same (p:=λ_=>True) (x:=⟨D,A,C.take i⟩) ((wE.keep (Ao:=Nz) λj hj=>?_).mono λ_ _=>trivial) ((XY.keep (Ao:=Nz) λj hj=>?_).mono λ_ _=>trivial) (J7.rl.mono λ_ _=>trivial)
   refine ⟨sA (λj hj=>?_) (sA (λj hj=>?_) (ND _ _ _)),h,.ms Wq 0 (C.take i ++ [C[i]]).length 2,⟨by omega,λj hj=>?_⟩,by omega,λj hj=>?_,Zh,?_,⟨(λ_ _ h=>by cases h),λid off n e hc fl hg=>?_⟩,Rng.ms (by omega) (by omega)⟩
   .have hj:j=Dx:=by simpa [DV.refs] using hj
    subst hj
    refine ⟨by omega,λq oG=>?_⟩
    simp only [Aq,Ci,or_false] at oG
    rcases oG with rfl | rfl | rfl
    .exact .inl rfl
    .exact .inl rfl
    .exact .inr (.inr (by rw [Af rfl];exact NV kT (JL.trans kT.symm) He))
   .have hj:j=Dx:=by simpa [DV.refs] using hj
    subst hj
    refine ⟨by omega,λq oG=>?_⟩
    simp only [Aq,Ci,or_false] at oG
    rcases oG with rfl | rfl | rfl
    .exact .inl rfl
    .exact .inl rfl
    .refine .inr (.inr ?_)
     rw [Ad (by simp)]
     show (((Nz.get j).isSome)==((Ol.get j).isSome))=true
     rw [kT,JL];rfl
   .rw [Me j (by omega),ai j (by omega),g.same j hj]
   .rw [Me j (by omega),ai j (by omega),Ct j hj]
   .rw [Fy h]
    refine (EZ.keep (Ao:=Lp) λj hj=>Me j ?_).mono λj hj=>⟨hj.1,by omega,λh=>?_⟩
    .rcases hj with hj | hj
     .exact Nat.ne_of_gt hj.1
     .have:j=Wq:=by simpa [DV.refs] using hj
      omega
    .have:j=Wq:=by simpa [DV.refs] using h
     omega
   .cases hc
    rw [Me _ (by omega),g10] at hg
    cases hg
    exact m10
   .rw [k7 j (by have:=hj.2;omega),Ct j (by have:=hj.2;omega),Io j (by have:=hj.2;omega)]
   .rw [k7 j (by have:=hj.2;omega),Ct j (by have:=hj.2;omega),Io j (by have:=hj.2;omega)]
  .rw [Cc (by omega)] at ho
   obtain ⟨_,_,_,_,lz⟩:=Uw QD
   have S1:=wE.keep (Ao:=An.hp) λj hj=>by rw [Ct j (by have:=hj.2;omega),Io j (by have:=hj.2;omega)]
   have ra6:=XY.keep (Ao:=An.hp) λj hj=>by rw [Ct j (by have:=hj.2;omega),Io j (by have:=hj.2;omega)]
   have iq:An.hp.get es.nx=_:=(Ct _ (by omega)).trans M2
   have rz:RL rCell An.hp (Bw (es.nx+1) An.nx) z C:=ho.rl.mono λj hj=>by
    rcases hj with hj | hj
    .exact ⟨by omega,hj.2.1⟩
    .have:=HQ j hj;exact ⟨by omega,this.2⟩
   have rK:=S1.mono (q:=Bw (es.nx+1) An.nx) λj hj=>⟨by have:=hj.1;omega,by have:=hj.2;omega⟩
   have hda:=ra6.mono (q:=Bw (es.nx+1) An.nx) λj hj=>⟨by have:=hj.1;omega,by have:=hj.2;omega⟩
   simp only [Ax,↓Ba,b7,b16,Zm,h,lz]
   refine Uu (n:=3) (id:=es.nx) (ds:=[d2,a3,z]) (by simp only [bR,b6]) iq (by simp only [Hl,bR];exact AR.live (x:=⟨D,A,C⟩) rK hda rz) rfl rfl λNz Td Md=>?_
   simp only [bR] at Td Md
   simp only [Ax,↓Ba]
   have up:∀ j,Bw (es.nx+1) An.nx j->Bw es.nx An.nx j:=λj hj=>⟨by have:=hj.1;omega,hj.2⟩
   have kp:∀ j,Bw (es.nx+1) An.nx j->Nz.get j=An.hp.get j:=λj hj=>Md j (by have:=hj.1;omega)
   exact ⟨_,B6 (by simp only [bR,bP,b6]) Td rfl,hK _ _ _ ⟨g.le,λj hj=>(Md j (by omega)).trans (g.same j hj)⟩ ⟨d2,a3,z,rfl,(rK.keep kp).mono up,(hda.keep kp).mono up,(rz.keep kp).mono up⟩ (.of (hW.keep λj hj=>Md j (by have:=HQ j hj;omega)))⟩
 .refine ⟨.v (.slice none 0 0),?_⟩
  simp only [Ax]
  exact ⟨zL,λ_ _=>trivial,Qb,.nil,.nil _,Rng.nil _ _⟩
end
end Go.DD

/- Contracts: the program's making of an array. Conditions: those that each theorem states. -/
namespace Go.DD
open Go Go.Proofs
theorem Bz1{d:List PDim}{a:List PAttr} : ∀ {l:List PCell} {b:Option PCell},(∀ c∈l,Hb d a c=0)->Srt l->(∀ q,b=some q->∀ c∈l,Cq q.pos c.pos = -1)->Qr d a b l=0
 | [],b,_,_,_=>by cases b <;> rfl
 | c::l,b,h1,h2,h3=>by
  have h4:Qr d a (some c) l=0:=Bz1 (λe he=>h1 e (Be _ he)) h2.tail λq hq e he=>by cases hq;exact (Fm.1 h2).1 e he
  have h5:=h1 c (by simp)
  cases b with
  | none=>
   show (if Hb d a c≠0 then Hb d a c else Qr d a (some c) l)=0
   rw [Ad (by simp [h5]),h4]
  | some q=>
   have h6:=h3 q rfl c (by simp)
   show (if Hb d a c≠0 then Hb d a c else if Cq q.pos c.pos=0 then 5 else if Cq q.pos c.pos=1 then 2 else Qr d a (some c) l)=0
   rw [Ad (by simp [h5]),Ad (by omega),Ad (by omega),h4]
theorem Bm3{x:PArr}(h1:jS x.dims x.attrs=0)(h2:x.cells.length<=4096)(h3:∀ c∈x.cells,Hb x.dims x.attrs c=0)(h4:Srt x.cells):Mo x=0:=by
 unfold Mo
 rw [Ad (by simp [h1]),Ad (by omega)]
 exact Bz1 h3 h4 λq hq=>by cases hq
theorem Bz2{x:PArr}(h:Mo x=0):x.cells.length<=4096:=by
 unfold Mo at h
 split at h
 .rename_i h1;exact absurd h h1
 .split at h
  .cases h
  .omega
theorem Bz3{x:PArr}(h:Mo x=0):x.dims≠[]:=λe=>by
 have h2:=(iK h).2.2
 have h5:Ph x.dims=13:=by unfold Ph;rw [Af (Or.inl (by rw [e];simp))]
 unfold jS at h2
 rw [h5] at h2
 cases h2
theorem Bz4{x:PArr}(h:Mo x=0):x.attrs≠[]:=λe=>by
 have h2:=(iK h).2.2
 unfold jS at h2
 split at h2
 .rename_i h5;exact h5 h2
 .rw [Af (Or.inl (by rw [e];simp))] at h2;cases h2
section
variable (k n0:Nat) (hp:Tr DObj) (nx:Nat) (K:DV->Tr DObj->Nat->Prop)
theorem tv(f:Nat)(d a c:DV)(x:PArr)(hn:n0<=nx)(h1:RL rDim hp (Bl n0) d x.dims)(h2:RL rAttr hp (Bl n0) a x.attrs)(h3:RL rCell hp (Bl n0) c x.cells)(hc:Mo x=0)(ho:AOK x)(hf:x.cells.length<=2 ^ f)
  (hK:∀ Ao Bk d',Al hp nx Ao Bk->AR Ao (Bw nx Bk) d' x->AOw Ao d'->K (.tup [d',iv 0]) Ao Bk):KW (kN (k+f+10)) (.fn 59) [d,a,c] hp nx K:=by
 obtain ⟨hs,Om,db⟩:=iK hc
 have hlen:=Bz2 hc
 refine nX (Hm (by decide)) t59 (Ab rfl) λes e1 e2 he=>?_
 have a0:Ae es (.t .o)=d:=he 0 _ rfl
 have a1:Ae es (.t (.l .o))=a:=he 1 _ rfl
 have a2:Ae es (.t (.r .o))=c:=he 2 _ rfl
 unfold zo
 subst e1 e2
 simp only [↓Ba]
 refine Vr λEi Dm Cv=>?_
 simp only [bR] at Dm Cv
 have Gb:Al es.hp es.nx Ei (es.nx+1):=⟨by omega,λj hj=>Cv j (by omega)⟩
 simp only [Ax,↓Ba,a0,a1]
 refine Fl (Ba6 (k:=k+f+6) n0 _ _ _ d a x.dims x.attrs (by omega) (h1.ka hn Gb) (h2.ka hn Gb) λDb Hz Dj=>?_)
 have Hj:=Dj.le
 have bT:=Gb.trans Dj
 have w2:=h3.ka hn bT
 have Ft:=(Dj.same es.nx (by omega)).trans Dm
 have eg:¬ 4096<(x.cells.length:Int):=by omega
 simp only [Ax,↓Ba,a2,show decide (¬ jS x.dims x.attrs=0)=false by simp [db],w2.len,Aj eg]
 refine EW.up x.cells.length (λi An=>Al es.hp es.nx An.hp An.nx/\es.nx<An.nx/\An.hp.get es.nx=some (.row 26 [.v (.slice none 0 0),.v (.slice none 0 0),.v (.slice none 0 0)])/\Ae An (.t .o)=d/\Ae An (.t (.l .o))=a/\Ae An (.t (.r .o))=c/\Ae An (.t (.r (.r .o)))=.pt es.nx 0/\Ae An (.t (.l (.r (.l (.r .o)))))=c/\Ae An (.t (.r (.r (.l (.r .o)))))=iv x.cells.length/\Ae An (.t (.l (.l (.r (.r .o)))))=iv (i:Nat)) ?_ ?_ (by omega)
 .rintro i An hi ⟨g,gn,hg,b0,b1,b2,b6,qJ,mK,qu⟩
  unfold xT
  have hle:=g.le
  have w1:=h1.ka hn g
  have w2:=h2.ka hn g
  have w3:=h3.ka hn g
  by_cases h:i<x.cells.length
  .obtain ⟨p,v,rp,rv,lc,_⟩:=Ev w3 h
   have tY:=Om _ (Bh h)
   have ec:=ho.e _ (Bh h)
   simp only [Ax,↓Ba,qJ,mK,qu,h,dC w3 h,lc]
   refine Vr λGr Ni Iz=>?_
   simp only [bR] at Ni Iz
   have g3:Al es.hp es.nx Gr (An.nx+1):=⟨by omega,λj hj=>by rw [Iz j (by omega),g.same j hj]⟩
   have BZ:=rp.keep λj (hj:j<n0)=>Iz j (by omega)
   have BY:=rv.keep λj (hj:j<n0)=>Iz j (by omega)
   simp only [Ax,↓Ba]
   refine Uu (n:=2) (id:=An.nx) (ds:=[p,v]) (by simp only [bR]) Ni (by simp only [Hl,bR];exact wk BZ BY) rfl rfl λGz Mf Fp=>?_
   simp only [bR] at Mf Fp
   have g4:Al es.hp es.nx Gz (An.nx+1):=g3.new (Ai _) λj hj=>Fp j (by omega)
   have ik:Gz.get es.nx=_:=(Fp es.nx (by omega)).trans ((Iz es.nx (by omega)).trans hg)
   obtain ⟨_,_,_,u2⟩:=Xh Mf
   simp only [Ax,↓Ba,b0,b1,u2]
   refine Fl (Bx4 (k+f+3) n0 _ _ _ d a p v x.dims x.attrs x.cells[i] (by omega) (h1.ka hn g4) (h2.ka hn g4) (BZ.keep λj (hj:j<n0)=>Fp j (by omega)) (BY.keep λj (hj:j<n0)=>Fp j (by omega)) ho.d ho.a ec.2.2 λHp Jp Kr=>?_)
   have Su:=Kr.le
   simp only [Ax,↓Ba,b0,b1,b2,b6,qJ,mK,qu,h,show decide (¬ Hb x.dims x.attrs x.cells[i]=0)=false by simp [tY],Jx (show i<_ by omega)]
   exact ⟨g4.trans Kr,by omega,(Kr.same _ (by omega)).trans ik⟩
  .simp only [Ax,↓Ba,b0,b1,b2,mK,qu,h]
   refine Fl (B84 (k+f+6) n0 _ _ _ d a c x.dims x.attrs x.cells (by omega) w1 w2 w3 (Bz3 hc) (Bz4 hc) ho.d ho.a ho.c (λe he=>⟨Y0 hc e he,(ho.e e he).1,C9 hc e he,(ho.e e he).2.1⟩) λGr Dx d3 Eu pL IE=>?_)
   have Jb:=Eu.le
   obtain ⟨d3,a3,c3,rfl,r1,r2,r3⟩:=pL
   have how:=IE _ _ _ rfl
   have gU:∀ j∈c3.refs,An.nx<=j/\j<Dx:=λj hj=>(r3.refs j hj).1
   simp only [Ax,↓Ba]
   refine Vr λGz Mf Fp=>?_
   simp only [bR] at Mf Fp
   have q1:=r1.keep (Ao:=Gz) λj hj=>Fp j (by have:=hj.2;omega)
   have q2:=r2.keep (Ao:=Gz) λj hj=>Fp j (by have:=hj.2;omega)
   have q3:=r3.keep (Ao:=Gz) λj hj=>Fp j (by have:=hj.2;omega)
   simp only [Ax,↓Ba]
   refine Uu (n:=3) (id:=Dx) (ds:=[d3,a3,c3]) (by simp only [bR]) Mf (by simp only [Hl,bR];exact AR.live q1 q2 q3) rfl rfl λHp Qb Io=>?_
   simp only [bR] at Qb Io
   have q1:=q1.keep (Ao:=Hp) λj hj=>Io j (by have:=hj.2;omega)
   have q2:=q2.keep (Ao:=Hp) λj hj=>Io j (by have:=hj.2;omega)
   have q3:=q3.keep (Ao:=Hp) λj hj=>Io j (by have:=hj.2;omega)
   have g5:Al es.hp es.nx Hp (Dx+1):=⟨by omega,λj hj=>by rw [Io j (by omega),Fp j (by omega),Eu.same j (by omega),g.same j hj]⟩
   have M2:Hp.get es.nx=_:=(Io es.nx (by omega)).trans ((Fp es.nx (by omega)).trans ((Eu.same es.nx (by omega)).trans hg))
   obtain ⟨⟨_,_,f2⟩,_,_,l2,lA⟩:=Uw Qb
   have q3':=q3.mono (q:=Bl (Dx+1)) λj hj=>Bp hj.2 (by omega)
   simp only [Ax,↓Ba,f2,l2]
   refine Fl (By9 k (Dx+1) _ _ _ f c3 x.cells (Ai _) q3' (A25 hc) (by omega) hf (λe he=>(ho.e e he).1) λJf Kw Sz=>?_)
   have Vj:=Sz.le
   simp only [Ax,↓Ba]
   have g6:Al es.hp es.nx Jf Kw:=⟨by omega,λj hj=>by rw [Sz.same j (by omega),g5.same j hj]⟩
   refine EW.up x.cells.length (λi Cb=>Al Jf Kw Cb.hp Cb.nx/\Ae Cb (.t (.r (.r .o)))=.pt es.nx 0/\Ae Cb (.t (.r (.l (.r .o))))=.pt Dx 0/\Ae Cb (.t (.l (.r (.r .o))))=iv ((i+1:Nat))) ?_ ?_ (by omega)
   .rintro i Cb Nv ⟨g2,x6,qV,jW⟩
    unfold xS
    have Hj:=g2.le
    have e2:∀ j,j<Dx+1->Cb.hp.get j=Hp.get j:=λj hj=>by rw [g2.same j (by omega),Sz.same j hj]
    have fN:=(e2 Dx (by omega)).trans Qb
    have L8:=(e2 es.nx (by omega)).trans M2
    obtain ⟨⟨_,_,f2⟩,_,_,l2,lA⟩:=Uw fN
    have v3:=q3'.keep (Ao:=Cb.hp) e2
    by_cases h6:i+1<x.cells.length
    .obtain ⟨p1,v1,yk,rv1,_,_,Tt,_⟩:=Ev v3 (show i<x.cells.length by omega)
     obtain ⟨p2,v2,yj,rv2,_,_,Pp,_⟩:=Ev v3 h6
     have Ow:Ds .sub (.v (.int .i64 ((i+1:Nat):Int))) (.v (.int .i64 1))=some (.v (.int .i64 (i:Int))):=by rw [Ml,Eo (by omega)];congr 3;omega
     have jn:Cq x.cells[i].pos x.cells[i+1].pos = -1:=A25 hc i (i+1) (by omega) h6
     simp only [Ax,↓Ba,qV,jW,f2,l2,v3.len,h6,Ow,Mp (n0:=Cb.nx) (m:=15) fN (show Dx<Cb.nx by omega),dC v3 h6,dC v3 (show i<x.cells.length by omega),C6 (k:=0) v3 h6,C6 (k:=0) v3 (show i<x.cells.length by omega),Tt,Pp,v3.rox (show Dx+1<=Cb.nx by omega),R7 v3 (show Dx+1<=Cb.nx by omega),vd v3 (show Dx+1<=Cb.nx by omega),yk.rox (show Dx+1<=Cb.nx by omega),yj.rox (show Dx+1<=Cb.nx by omega)]
     refine Nt rfl (Xi ?_)
     simp only [bR,Ag,Ak]
     refine D0 (k+f+5) (Dx+1) _ _ _ p1 p2 _ _ (by omega) yk yj (ho.e _ (Bh (show i<x.cells.length by omega))).1 ?_
     simp only [Ax,↓Ba,x6,qV,jW,show decide (Cq x.cells[i].pos x.cells[i+1].pos=0)=false by simp [jn],Jx (show i+1<_ by omega)]
     exact ⟨by omega,g2.nx (by omega)⟩
    .simp only [Ax,↓Ba,qV,jW,f2,l2,v3.len,h6,lA]
     refine Uu (n:=3) (id:=es.nx) (ds:=[d3,a3,c3]) (by simp only [bR,x6]) L8 (by simp only [Hl,bR];exact AR.live (q1.keep (Ao:=Cb.hp) λj hj=>e2 j (by have:=hj.2;omega)) (q2.keep (Ao:=Cb.hp) λj hj=>e2 j (by have:=hj.2;omega)) (q3.keep (Ao:=Cb.hp) λj hj=>e2 j (by have:=hj.2;omega))) rfl rfl λNz Td Md=>?_
     simp only [bR] at Td Md
     simp only [Ax,↓Ba]
     have kp:∀ j,Bw An.nx Dx j->Nz.get j=Hp.get j:=λj hj=>by rw [Md j (by have:=hj.1;omega),e2 j (by have:=hj.2;omega)]
     have up:∀ j,Bw An.nx Dx j->Bw es.nx Cb.nx j:=λj hj=>⟨by have:=hj.1;omega,by have:=hj.2;omega⟩
     refine ⟨_,_,B6 (by simp only [bR,bP,x6]) Td rfl,by rw [MV];simp only [bR,bP,Ns],hK _ _ _ ⟨by omega,λj hj=>?_⟩ ⟨d3,a3,c3,rfl,(q1.keep kp).mono up,(q2.keep kp).mono up,(q3.keep kp).mono up⟩ (.of (how.keep λj hj=>by have:=gU j hj;rw [kp j this,Io j (by omega),Fp j (by omega)]))⟩
     rw [Md j (by omega),e2 j (by omega),g5.same j hj]
   .simp only [Ax,b6]
    rfl
 .simp only [Ax,a0,a1,a2]
  exact ⟨bT,by omega,Ft⟩
end
end Go.DD

/- Contracts: a round of the program's merge. Conditions: those that each theorem states. -/
namespace Go.DD
open Go Go.Proofs
section
variable (k:Nat) (hp:Tr DObj) (nx:Nat) (K:DV->Tr DObj->Nat->Prop)
end
end Go.DD

/- Contracts: the program's merge. Conditions: those that each theorem states. -/
namespace Go.DD
open Go Go.Proofs
section
variable (k n0:Nat) (hp:Tr DObj) (nx:Nat) (K:DV->Tr DObj->Nat->Prop)
end
end Go.DD

/- Contracts: the program's Merged. Conditions: those that each theorem states. -/
namespace Go.DD
open Go Go.Proofs
section
variable (k n0:Nat) (hp:Tr DObj) (nx:Nat) (K:DV->Tr DObj->Nat->Prop)
end
end Go.DD
