/- A part. -/
import Derived.Test.YtnphfnhhpcelbaaGreatYj
import Derived.Test.YtnphfnhhpcelbaaGreatYl
set_option linter.unusedSectionVars false
set_option linter.unusedVariables false
namespace Go.DD
open Go Go.Proofs
section
variable (k n0:Nat) (hp:Tr DObj) (nx:Nat) (K:DV->Tr DObj->Nat->Prop)
end
end Go.DD

/- Contracts: results that lie in cells; an empty array; a copied cell. Conditions: those that each theorem states. -/
namespace Go.DD
open Go Go.Proofs
theorem X8(es:ES)(t:Nat):Np es (t,none)=some (Ch es.hp (Ac es (.t (Cn t)))):=rfl
theorem Cy2{es:ES}{t m id off T:Nat}{cs:List DV}(h5:Ac es (.t (Cn t))=.pt id off)(h6:es.hp.get id=some (.row T cs))(h7:m<=(cs.drop off).length):Np es (t,some (some m))=some (.agg ((cs.drop off).take m)):=by
 show K0 (some m) (.t (Cn t)) es=_
 unfold K0
 rw [h5]
 show Ub es.hp id (λ_ cs=>Qb (some m) (Jv off cs)) (none:Option DV)=_
 unfold Ub
 rw [Ju,h6]
 show Qb (some m) (Jv off cs)=_
 rw [Y8,fP]
 show (if m<=(cs.drop off).length then some (DV.agg ((cs.drop off).take m)) else none)=_
 rw [Ah h7]
theorem sE{es:ES}{t m id T:Nat}{cs:List DV}(h5:Ac es (.t (Cn t))=.pt id 0)(h6:es.hp.get id=some (.row T cs))(h7:cs.length=m):Np es (t,some (some m))=some (.agg cs):=by
 have:=Cy2 (m:=m) h5 h6 (by rw [Fx];omega)
 rw [Fx,Bm (by omega)] at this
 exact this
theorem I3{es:ES}{t id T:Nat}{d:DV}(h5:Ac es (.t (Cn t))=.pt id 0)(h6:es.hp.get id=some (.row T [d])):Np es (t,some none)=some d:=by
 show K0 none (.t (Cn t)) es=_
 unfold K0
 rw [h5]
 show Ub es.hp id (λ_ cs=>Qb none (Jv 0 cs)) (none:Option DV)=_
 unfold Ub
 rw [Ju,h6]
 show Qb none (Jv 0 [d])=_
 rw [Y8,fP]
 rfl
section
variable {tb:Nat->Option FE} {n:Nat} {rel:Nat->List DV->Option DV} {k f nt nx:Nat} {hp:Tr DObj} {ds:List DV} {c:CE} {K:DV->Tr DObj->Nat->Prop}
theorem zT{t:Nat}{k1:Option (Option Nat)}(hr:rel f ds=none)(hf:tb f=some ⟨c,[(t,k1)],nt⟩)(hn:ds.length<=nt)
  (h:∀ es,es.hp=hp->es.nx=nx->vX es ds->EW c (Hb tb n rel k) es λe es=>(e=.normal\/e=.ret)/\∃ d,Np es (t,k1)=some d/\K d es.hp es.nx):KW (Hb tb n rel (k+1)) (.fn f) ds hp nx K:=
 Yw hr hf hn λes h1 h2 h3=>(h es h1 h2 h3).mono λ_ es ⟨h4,d,h5,h6⟩=>⟨h4,d,by
  unfold Mb
  simp only [Ez,Ly,h5,Fc,Ee,Je,Uf],h6⟩
theorem jP{t u:Nat}{k1 k2:Option (Option Nat)}(hr:rel f ds=none)(hf:tb f=some ⟨c,[(t,k1),(u,k2)],nt⟩)(hn:ds.length<=nt)
  (h:∀ es,es.hp=hp->es.nx=nx->vX es ds->EW c (Hb tb n rel k) es λe es=>(e=.normal\/e=.ret)/\∃ d b,Np es (t,k1)=some d/\Np es (u,k2)=some b/\K (.tup [d,b]) es.hp es.nx):KW (Hb tb n rel (k+1)) (.fn f) ds hp nx K:=
 Yw hr hf hn λes h1 h2 h3=>(h es h1 h2 h3).mono λ_ es ⟨h4,d,b,h5,h6,h7⟩=>⟨h4,.tup [d,b],by
  unfold Mb
  simp only [Ez,Ly,h5,h6,Fc,Ee,Je,Uf],h7⟩
theorem zS{t u v:Nat}{k1 k2 k3:Option (Option Nat)}(hr:rel f ds=none)(hf:tb f=some ⟨c,[(t,k1),(u,k2),(v,k3)],nt⟩)(hn:ds.length<=nt)
  (h:∀ es,es.hp=hp->es.nx=nx->vX es ds->EW c (Hb tb n rel k) es λe es=>(e=.normal\/e=.ret)/\∃ d b g,Np es (t,k1)=some d/\Np es (u,k2)=some b/\Np es (v,k3)=some g/\K (.tup [d,b,g]) es.hp es.nx):KW (Hb tb n rel (k+1)) (.fn f) ds hp nx K:=
 Yw hr hf hn λes h1 h2 h3=>(h es h1 h2 h3).mono λ_ es ⟨h4,d,b,g,h5,h6,h7,h8⟩=>⟨h4,.tup [d,b,g],by
  unfold Mb
  simp only [Ez,Ly,h5,h6,h7,Fc,Ee,Je,Uf],h8⟩
end
section
variable (k n0:Nat) (hp:Tr DObj) (nx:Nat) (K:DV->Tr DObj->Nat->Prop)
end
end Go.DD

/- Contracts: copied cells. Conditions: those that each theorem states. -/
namespace Go.DD
open Go Go.Proofs
section
variable (k n0:Nat) (hp:Tr DObj) (nx:Nat) (K:DV->Tr DObj->Nat->Prop)
end
end Go.DD

/- Contracts: cells compared by a key. Conditions: those that each theorem states. -/
namespace Go.DD
open Go Go.Proofs
section
variable (k n0:Nat) (hp:Tr DObj) (nx:Nat) (K:DV->Tr DObj->Nat->Prop)
theorem Ch1(p v:DV)(c:PCell)(hn:n0<=nx)(h1:RL rInt hp (Bl n0) p c.pos)(h2:RL rVal hp (Bl n0) v c.vals)(hK:∀ Ap Ba,Al hp nx Ap Ba->K p Ap Ba):KW (kN (k+1)) (.fn 129) [.agg [p,v]] hp nx K:=by
 refine Ds (Gb (by decide)) di (Ab rfl) λes e1 e2 he=>?_
 have a0:Ac es (.t .o)=.agg [p,v]:=he 0 _ rfl
 unfold HY
 subst e1 e2
 simp only [↓An]
 refine Tm (cs:=[p,v]) (by rw [Di,a0];exact Kl h1 h2) λDv Dc Cr=>?_
 simp only [bR] at Dc Cr
 have Em:Al es.hp es.nx Dv (es.nx+1):=⟨by omega,λj hj=>Cr j (by omega)⟩
 obtain ⟨⟨f0,f1⟩,l0,l1,_⟩:=Wf Dc
 simp only [Am,↓An,bP,f0,l0,(h1.ka hn Em).live]
 exact hK _ _ Em
def aV(hp:Tr DObj)(n0 bx:Nat):Prop:=bx<n0/\∃ T,hp.get bx=some (.row T [.fn (.func 129) [.tup []]])
theorem XS(p v q w:DV)(c e:PCell)(bx:Nat)(hn:n0<=nx)(hb:aV hp n0 bx)(h1:RL rInt hp (Bl n0) p c.pos)(h2:RL rVal hp (Bl n0) v c.vals)(h3:RL rInt hp (Bl n0) q e.pos)(h4:RL rVal hp (Bl n0) w e.vals)(hl:c.pos.length<900000)
  (hK:∀ Ap Ba,Al hp nx Ap Ba->K (iv (Cd c.pos e.pos)) Ap Ba):KW (kN (k+5)) (.fn 166) [.agg [p,v],.agg [q,w],.pt bx 0] hp nx K:=by
 refine Ds (Gb (by decide)) cb (Ab rfl) λes e1 e2 he=>?_
 have a0:Ac es (.t .o)=.agg [p,v]:=he 0 _ rfl
 have a1:Ac es (.t (.l .o))=.agg [q,w]:=he 1 _ rfl
 have a2:Ac es (.t (.r .o))=.pt bx 0:=he 2 _ rfl
 unfold HK
 subst e1 e2
 obtain ⟨kF,T,hb⟩:=hb
 simp only [↓An]
 refine Tm (cs:=[p,v]) (by rw [Di,a0];exact Kl h1 h2) λDv Dc Cr=>?_
 simp only [bR] at Dc Cr
 have Em:Al es.hp es.nx Dv (es.nx+1):=⟨by omega,λj hj=>Cr j (by omega)⟩
 simp only [Am,↓An]
 refine Tm (cs:=[q,w]) (by simp only [Di,bR,a1];exact Kl (h3.ka hn Em) (h4.ka hn Em)) λDb Gv Fj=>?_
 simp only [bR] at Gv Fj
 have Cq:Al es.hp es.nx Db (es.nx+2):=⟨by omega,λj hj=>by rw [Fj j (by omega),Cr j (by omega)]⟩
 have Qk:=(Fj es.nx (by omega)).trans Dc
 have bE:=(Cq.same bx (by omega)).trans hb
 obtain ⟨_,_,_,lA⟩:=Wf Qk
 have r1:=h1.ka hn Cq
 have r2:=h2.ka hn Cq
 have r3:=h3.ka hn Cq
 have r4:=h4.ka hn Cq
 have rof:∀ (H:Tr DObj) an,Ib (.fn (.func 129) [.tup []]) (λid=>Cp (es.nx+1+1) 8 an H id):=λH an id hid=>by simp [DV.refs,DV.refsL] at hid
 simp only [Am,↓An,a2,Of bE,lA,Il (n0:=es.nx+1+1) (m:=8) bE (show bx<es.nx+1+1 by omega),Il (n0:=es.nx+1+1) (m:=8) Qk (show es.nx<es.nx+1+1 by omega),Bj (rof _ _)]
 refine ⟨Ci (r1.rox (by omega)) (r2.rox (by omega)),?_⟩
 refine Ge rfl (Zt (fs:=[]) (cs:=[]) (by rw [Di];simp only [bR];exact RV _ _) ?_)
 simp only [bR,Ao,Aq,Bu,Bh]
 refine Ch1 (k+3) n0 _ _ _ p v c (by omega) r1 r2 λHe Dn Ec=>?_
 have Ik:=Ec.le
 have gU:=(Ec.same (es.nx+1) (by omega)).trans Gv
 have qL:=(Ec.same es.nx (by omega)).trans Qk
 have VQ:=(Ec.same bx (by omega)).trans bE
 obtain ⟨_,_,_,lB⟩:=Wf gU
 have x1:=r1.ka (nx:=es.nx+1+1+8) (by omega) Ec
 have x3:=r3.ka (nx:=es.nx+1+1+8) (by omega) Ec
 have x4:=r4.ka (nx:=es.nx+1+1+8) (by omega) Ec
 simp only [Am,↓An,a2,Ik,Of VQ,lB,Il (n0:=es.nx+1+1) (m:=8) VQ (show bx<es.nx+1+1 by omega),Il (n0:=es.nx+1+1) (m:=8) gU (show es.nx+1<es.nx+1+1 by omega),Bj (rof _ _)]
 refine ⟨Ci (x3.rox (by omega)) (x4.rox (by omega)),?_⟩
 refine Ge rfl (Zt (fs:=[]) (cs:=[]) (by rw [Di];simp only [bR];exact RV _ _) ?_)
 simp only [bR,Ao,Aq,Bu,Bh]
 refine Ch1 (k+3) n0 _ _ _ q w e (by omega) x3 x4 λHo Lb Lv=>?_
 have Vq:=Lv.le
 have y1:=x1.ka (by omega) Lv
 have y3:=x3.ka (by omega) Lv
 have S4:=(Lv.same (es.nx+1) (by omega)).trans gU
 have hb4:=(Lv.same bx (by omega)).trans VQ
 have D5:Al es.hp es.nx Ho Lb:=⟨by omega,λj hj=>by rw [Lv.same j (by omega),Ec.same j (by omega),Cq.same j hj]⟩
 simp only [Am,↓An,Vq,y1.rox (show n0<=es.nx+1+1 by omega),y3.rox (show n0<=es.nx+1+1 by omega)]
 refine Ge rfl (Tf ?_)
 simp only [bR,Ao,Aq]
 refine wL k n0 _ _ _ p q c.pos e.pos (by omega) y1 y3 hl ?_
 simp only [Am,↓An,bP,Af]
 have ni:∀ d∈[q,w],Nb 6 d d=true:=λd hd=>by
  simp only [Ak,Ax,or_false] at hd
  rcases hd with rfl | rfl
  .exact h3.same (by decide)
  .exact h4.same (by decide)
 have nh:∀ d∈[DV.fn (.func 129) [.tup []]],Nb 6 d d=true:=λd hd=>by rw [Bk.1 hd];rfl
 have Ht:∀ {id:Nat} {o:DObj},Db.get id=some o->He.get id=some o->Ho.get id=some o->∀ q∈[(⟨6,[2,5,0,1,3,4],Ho,Ho⟩:Past),⟨5,[3,4,2,0,1],He,Ho⟩,⟨2,[0,1],Db,He⟩],q.a.get id=some o/\q.b.get id=some o:=λh2 h3 h4 q hq=>by
  simp only [Ak,Ax,or_false] at hq
  rcases hq with rfl | rfl | rfl
  .exact ⟨h4,h4⟩
  .exact ⟨h3,h4⟩
  .exact ⟨h2,h3⟩
 exact ⟨nP (λj hj=>by simpa [DV.refs] using hj) (by omega) (Ht Gv gU S4) ni (nP (λj hj=>by simpa [DV.refs] using hj) (by omega) (Ht bE VQ hb4) nh rfl),hK _ _ D5⟩
end
end Go.DD

/- Contracts: sorting of cells that are sorted changes nothing: insertion. Conditions: those that each theorem states. -/
namespace Go.DD
open Go Go.Proofs
def Ld(bx:Nat):DV:=.fn (.func 166) [.tup [],.pt bx 0]
section
variable (k n0:Nat) (hp:Tr DObj) (nx:Nat) (K:DV->Tr DObj->Nat->Prop)
theorem Bl4(d:DV)(l:List PCell)(a b bx:Nat)(hn:n0<=nx)(hb:aV hp n0 bx)(h1:RL rCell hp (Bl n0) d l)(hs:Qg l)(aXs:a<=l.length)(Oh:b<=l.length)(hl:l.length<900000)(Ks:∀ c∈l,c.pos.length<900000)
  (hK:∀ Ap Ba,Al hp nx Ap Ba->K (.tup []) Ap Ba):KW (kN (k+6)) (.fn 211) [d,iv (a:Nat),iv (b:Nat),Ld bx] hp nx K:=by
 refine Oq (Gb (by decide)) ai (Ab rfl) λes e1 e2 he=>?_
 have a0:Ac es (.t .o)=d:=he 0 _ rfl
 have a1:Ac es (.t (.l .o))=iv (a:Nat):=he 1 _ rfl
 have a2:Ac es (.t (.r .o))=iv (b:Nat):=he 2 _ rfl
 have a3:Ac es (.t (.l (.l .o)))=Ld bx:=he 3 _ rfl
 unfold GO
 subst e1 e2
 by_cases Vu:a+1<b
 .have iG:Cl .add (.v (.int .i64 (a:Int))) (.v (.int .i64 1))=some (.v (.int .i64 ((a+1:Nat):Int))):=Hn (show a<_ by omega)
  simp only [Am,↓An,a1,iG]
  refine EW.up (b-(a+1)) (λt es1=>Al es.hp es.nx es1.hp es1.nx/\Ac es1 (.t .o)=d/\Ac es1 (.t (.l .o))=iv (a:Nat)/\Ac es1 (.t (.r .o))=iv (b:Nat)/\Ac es1 (.t (.l (.l .o)))=Ld bx/\Ac es1 (.t (.r (.l (.l .o))))=iv ((a+1+t:Nat))) ?_ ?_ (by omega)
  .rintro t es1 ht ⟨g,b0,b1,b2,b3,b8⟩
   unfold zh
   have hle:=g.le
   have w1:=h1.ka hn g
   obtain ⟨kF,T,vM⟩:=hb
   have Kj:=(g.same bx (by omega)).trans vM
   by_cases h:a+1+t<b
   .simp only [Am,↓An,b2,b8,h]
    refine EW.l (I:=λ_ By=>By.hp=es1.hp/\By.nx=es1.nx/\Ac By (.t .o)=d/\Ac By (.t (.l .o))=iv (a:Nat)/\Ac By (.t (.r .o))=iv (b:Nat)/\Ac By (.t (.l (.l .o)))=Ld bx/\Ac By (.t (.r (.l (.l .o))))=iv ((a+1+t:Nat))/\Ac By (.t (.l (.r (.l .o))))=iv ((a+1+t:Nat))) ?_ 0 1000000 _ ?_ (by omega)
    .rintro n By ⟨q1,q2,x0,x1,x2,x3,x8,x9⟩
     unfold Cg6
     rw [<- q1] at w1 Kj
     have hi:a+1+t<l.length:=by omega
     have Wa:a+t<l.length:=by omega
     obtain ⟨pA,vA,Gd,Gi,ldA,_⟩:=Ed w1 hi
     obtain ⟨pB,vB,Fu,Ft,O4,_⟩:=Ed w1 Wa
     have Lc:Cl .sub (.v (.int .i64 ((a+1+t:Nat):Int))) (.v (.int .i64 1))=some (.v (.int .i64 ((a+t:Nat):Int))):=by rw [Lh,Dk (by omega)];congr 3;omega
     have Fb:=hs (a+t) (a+1+t) (by omega) hi
     have VL:¬ Cd l[a+1+t].pos l[a+t].pos<0:=by rw [wJ];omega
     have Fq:n0<=By.nx:=by omega
     have L9:∀ an,Ib (Ld bx) (λid=>Cp By.nx 17 an By.hp id):=λan=>(Ys _ _ _ _).2 (Il Kj (by omega))
     simp only [Am,↓An,x0,x1,x3,x9,show a<a+1+t by omega,Lc,Yo w1 hi,Yo w1 Wa,ldA,O4,w1.rox Fq,Z1 w1 Fq,Bj (L9 _)]
     refine ⟨⟨Ci (Gd.rox Fq) (Gi.rox Fq),Ci (Fu.rox Fq) (Ft.rox Fq)⟩,?_⟩
     refine Ge rfl (Zt (f:=166) (fs:=[]) (cs:=[.pt bx 0]) (by rw [Di];simp only [bR];exact XX Kj) ?_)
     simp only [bR,Ao,Aq,Bh,Ky]
     refine XS k n0 _ _ _ pA vA pB vB l[a+1+t] l[a+t] bx (by omega) ⟨kF,T,Kj⟩ Gd Gi Fu Ft (Ks _ (Bd hi)) λHe Dn Ec=>?_
     have Ik:=Ec.le
     have g3:Al es.hp es.nx He Dn:=⟨by omega,λj hj=>by rw [Ec.same j (by omega),q1,g.same j hj]⟩
     simp only [Am,↓An,x0,x1,x2,x3,x8,VL,Ik,Hn (show a+1+t<_ by omega)]
     exact ⟨by omega,g3,rfl⟩
    .simp only [Am,b0,b1,b2,b3,b8]
   .simp only [Am,↓An,b2,b8,h]
    exact hK _ _ g
  .simp only [Am,a0,a1,a2,a3]
 .have iG:Cl .add (.v (.int .i64 (a:Int))) (.v (.int .i64 1))=some (.v (.int .i64 ((a+1:Nat):Int))):=Hn (show a<_ by omega)
  simp only [Am,↓An,a1,iG]
  refine EW.l (I:=λ_ es1=>es1.hp=es.hp/\es1.nx=es.nx/\Ac es1 (.t (.r .o))=iv (b:Nat)/\Ac es1 (.t (.r (.l (.l .o))))=iv ((a+1:Nat))) ?_ 0 1000000 _ ?_ (by omega)
  .rintro n es1 ⟨q1,q2,b2,b8⟩
   unfold zh
   simp only [Am,↓An,b2,b8,Vu]
   rw [q1,q2]
   exact hK _ _ (Al.refl _ _)
  .simp only [Am,a2]
end
end Go.DD

/- Contracts: sorting of cells that are sorted changes nothing: merging in place. Conditions: those that each theorem states. -/
namespace Go.DD
open Go Go.Proofs
theorem Zm{a:Nat}(h:a<18446744073709551616):Xm .u64 (.v (.int .i64 (a:Int)))=some (.v (.int .u64 (a:Int))):=by
 rw [G0,IntWalk.u64_in _ (by omega)]
theorem Zn{a:Nat}(h:a<9223372036854775808):Xm .i64 (.v (.int .u64 (a:Int)))=some (.v (.int .i64 (a:Int))):=by
 rw [G0,Dk (by omega)]
theorem RP{a:Nat} : Cl .shr (.v (.int .u64 (a:Int))) (.v (.int .u64 1))=some (.v (.int .u64 ((a / 2:Nat):Int))):=by
 have e:nB .shr .u64 (a:Int) (1:Int)=some (.int .u64 ((a / 2:Nat):Int)):=by
  unfold nB
  rw [Ae (by decide)]
  simp only [IntKind.bits]
  have h1:min (Int.toNat 1) 64=1:=by decide
  rw [h1]
  have:(a:Int).fdiv (2 ^ 1)=((a / 2:Nat):Int):=by
   rw [Int.fdiv_eq_ediv_of_nonneg _ (by decide)]
   simp
  rw [this]
 simp [Cl,Lw,Nh,e]
theorem Az4{l:List PCell}(hs:Qg l){i j:Nat}(hj:j<l.length)(h:i<=j):¬ Cd (l[j]).pos (l[i]'(by omega)).pos<0:=by
 by_cases e:i=j
 .subst e;rw [fQ];decide
 .have:=hs i j (by omega) hj
  rw [wJ];omega
section
variable (k n0:Nat) (hp:Tr DObj) (nx:Nat) (K:DV->Tr DObj->Nat->Prop)
theorem Co5(d:DV)(l:List PCell)(a b bx:Nat)(hn:n0<=nx)(hb:aV hp n0 bx)(h1:RL rCell hp (Bl n0) d l)(hs:Qg l)(Vu:a+1<b)(Oh:b<=l.length)(hl:l.length<900000)(Ks:∀ c∈l,c.pos.length<900000)
  (hK:∀ Ap Ba,Al hp nx Ap Ba->K (.tup []) Ap Ba):KW (kN (k+6)) (.fn 212) [d,iv (a:Nat),iv ((a+1:Nat)),iv (b:Nat),Ld bx] hp nx K:=by
 refine Oq (Gb (by decide)) K7 (Ab rfl) λes e1 e2 he=>?_
 have a0:Ac es (.t .o)=d:=he 0 _ rfl
 have a1:Ac es (.t (.l .o))=iv (a:Nat):=he 1 _ rfl
 have a2:Ac es (.t (.r .o))=iv ((a+1:Nat)):=he 2 _ rfl
 have a3:Ac es (.t (.l (.l .o)))=iv (b:Nat):=he 3 _ rfl
 have a4:Ac es (.t (.r (.l .o)))=Ld bx:=he 4 _ rfl
 unfold uE
 subst e1 e2
 have Lc:Cl .sub (.v (.int .i64 ((a+1:Nat):Int))) (.v (.int .i64 (a:Int)))=some (.v (.int .i64 1)):=by rw [Lh,Dk (by omega)];congr 3;omega
 simp only [Am,↓An,a1,a2,a3,Lc]
 refine EW.l (I:=λj es1=>a+1<=j/\j<=b/\Al es.hp es.nx es1.hp es1.nx/\Ac es1 (.t .o)=d/\Ac es1 (.t (.l .o))=iv (a:Nat)/\Ac es1 (.t (.r .o))=iv ((a+1:Nat))/\Ac es1 (.t (.r (.l .o)))=Ld bx/\Ac es1 (.t (.r (.r (.l .o))))=iv ((a+1:Nat))/\Ac es1 (.t (.l (.l (.r .o))))=iv (j:Nat)) ?_ b 1000000 _ ?_ (by omega)
 .rintro j es1 ⟨AQ,mE,g,b0,b1,b2,b4,b10,b11⟩
  unfold Cg7
  have hle:=g.le
  have w1:=h1.ka hn g
  obtain ⟨kF,T,vM⟩:=hb
  have Kj:=(g.same bx (by omega)).trans vM
  by_cases h:a+1<j
  .have aQ:Cl .add (.v (.int .i64 ((a+1:Nat):Int))) (.v (.int .i64 (j:Int)))=some (.v (.int .i64 ((a+1+j:Nat):Int))):=Wg (by omega)
   have hi:(a+1+j) / 2<l.length:=by omega
   have Wa:a<l.length:=by omega
   obtain ⟨pA,vA,Gd,Gi,ldA,_⟩:=Ed w1 hi
   obtain ⟨pB,vB,Fu,Ft,O4,_⟩:=Ed w1 Wa
   have Xu:=Az4 hs hi (show a<=(a+1+j) / 2 by omega)
   have Fq:n0<=es1.nx:=by omega
   have L9:∀ an,Ib (Ld bx) (λid=>Cp es1.nx 11 an es1.hp id):=λan=>(Ys _ _ _ _).2 (Il Kj (by omega))
   simp only [Am,↓An,bP,b0,b1,b4,b10,b11,h,aQ,Zm (show a+1+j<_ by omega),RP,Zn (show (a+1+j) / 2<_ by omega),Yo w1 hi,Yo w1 Wa,ldA,O4,w1.rox Fq,Z1 w1 Fq,Bj (L9 _)]
   refine ⟨⟨Ci (Gd.rox Fq) (Gi.rox Fq),Ci (Fu.rox Fq) (Ft.rox Fq)⟩,?_⟩
   refine Ge rfl (Zt (f:=166) (fs:=[]) (cs:=[.pt bx 0]) (by rw [Di];simp only [bR];exact XX Kj) ?_)
   simp only [bR,Ao,Aq,Bh,Ky]
   refine XS k n0 _ _ _ pA vA pB vB l[(a+1+j) / 2] l[a] bx (by omega) ⟨kF,T,Kj⟩ Gd Gi Fu Ft (Ks _ (Bd hi)) λHe Dn Ec=>?_
   have Ik:=Ec.le
   have g3:Al es.hp es.nx He Dn:=⟨by omega,λj hj=>by rw [Ec.same j (by omega),g.same j hj]⟩
   simp only [Am,↓An,b0,b1,b2,b4,b10,Xu,Ik]
   exact ⟨(a+1+j) / 2,by omega,by omega,by omega,g3,rfl⟩
  .simp only [Am,↓An,b1,b10,b11,h]
   have Co:Cl .sub (.v (.int .i64 ((a+1:Nat):Int))) (.v (.int .i64 1))=some (.v (.int .i64 (a:Int))):=by rw [Lh,Dk (by omega)];congr 3;omega
   refine EW.l (I:=λ_ By=>By.hp=es1.hp/\By.nx=es1.nx/\Ac By (.t (.r (.r (.l .o))))=iv ((a+1:Nat))/\Ac By (.t (.l (.r (.r .o))))=iv (a:Nat)) ?_ 0 1000000 _ ?_ (by omega)
   .rintro n By ⟨q1,q2,Z4,lK⟩
    unfold Cg8
    simp only [Am,↓An,Z4,lK,Co,Iv]
    rw [q1,q2]
    exact hK _ _ g
   .simp only [Am,b10]
 .simp only [Am,a0,a1,a2,a4]
  omega
theorem Co6(d:DV)(l:List PCell)(a m bx:Nat)(hn:n0<=nx)(hb:aV hp n0 bx)(h1:RL rCell hp (Bl n0) d l)(hs:Qg l)(VR:a+1<m)(Oh:m+1<=l.length)(hl:l.length<900000)(Ks:∀ c∈l,c.pos.length<900000)
  (hK:∀ Ap Ba,Al hp nx Ap Ba->K (.tup []) Ap Ba):KW (kN (k+6)) (.fn 212) [d,iv (a:Nat),iv (m:Nat),iv ((m+1:Nat)),Ld bx] hp nx K:=by
 refine Oq (Gb (by decide)) K7 (Ab rfl) λes e1 e2 he=>?_
 have a0:Ac es (.t .o)=d:=he 0 _ rfl
 have a1:Ac es (.t (.l .o))=iv (a:Nat):=he 1 _ rfl
 have a2:Ac es (.t (.r .o))=iv (m:Nat):=he 2 _ rfl
 have a3:Ac es (.t (.l (.l .o)))=iv ((m+1:Nat)):=he 3 _ rfl
 have a4:Ac es (.t (.r (.l .o)))=Ld bx:=he 4 _ rfl
 unfold uE
 subst e1 e2
 have Lc:Cl .sub (.v (.int .i64 ((m+1:Nat):Int))) (.v (.int .i64 (m:Int)))=some (.v (.int .i64 1)):=by rw [Lh,Dk (by omega)];congr 3;omega
 have LK:Cl .sub (.v (.int .i64 (m:Int))) (.v (.int .i64 (a:Int)))=some (.v (.int .i64 ((m-a:Nat):Int))):=by rw [Lh,Dk (by omega)];congr 3;omega
 simp only [Am,↓An,a1,a2,a3,Lc,LK,show ¬ ((m-a:Nat):Int)=1 by omega]
 refine EW.l (I:=λn es1=>∃ i,n=m-i/\a<=i/\i<=m/\Al es.hp es.nx es1.hp es1.nx/\Ac es1 (.t .o)=d/\Ac es1 (.t (.r .o))=iv (m:Nat)/\Ac es1 (.t (.r (.l .o)))=Ld bx/\Ac es1 (.t (.r (.r (.r .o))))=iv (i:Nat)/\Ac es1 (.t (.l (.l (.l (.l .o)))))=iv (m:Nat)) ?_ (m-a) 1000000 _ ?_ (by omega)
 .rintro n es1 ⟨i,hni,qF,Sa,g,b0,b2,b4,b14,b15⟩
  unfold Cg9
  have hle:=g.le
  have w1:=h1.ka hn g
  obtain ⟨kF,T,vM⟩:=hb
  have Kj:=(g.same bx (by omega)).trans vM
  by_cases h:i<m
  .have aQ:Cl .add (.v (.int .i64 (i:Int))) (.v (.int .i64 (m:Int)))=some (.v (.int .i64 ((i+m:Nat):Int))):=Wg (by omega)
   have hi:(i+m) / 2<l.length:=by omega
   have Wa:m<l.length:=by omega
   obtain ⟨pA,vA,Gd,Gi,ldA,_⟩:=Ed w1 hi
   obtain ⟨pB,vB,Fu,Ft,O4,_⟩:=Ed w1 Wa
   have Xu:=Az4 hs Wa (show (i+m) / 2<=m by omega)
   have Fq:n0<=es1.nx:=by omega
   have L9:∀ an,Ib (Ld bx) (λid=>Cp es1.nx 12 an es1.hp id):=λan=>(Ys _ _ _ _).2 (Il Kj (by omega))
   simp only [Am,↓An,bP,b0,b2,b4,b14,b15,h,aQ,Zm (show i+m<_ by omega),RP,Zn (show (i+m) / 2<_ by omega),Yo w1 hi,Yo w1 Wa,ldA,O4,w1.rox Fq,Z1 w1 Fq,Bj (L9 _)]
   refine ⟨⟨Ci (Fu.rox Fq) (Ft.rox Fq),Ci (Gd.rox Fq) (Gi.rox Fq)⟩,?_⟩
   refine Ge rfl (Zt (f:=166) (fs:=[]) (cs:=[.pt bx 0]) (by rw [Di];simp only [bR];exact XX Kj) ?_)
   simp only [bR,Ao,Aq,Bh,Ky]
   refine XS k n0 _ _ _ pB vB pA vA l[m] l[(i+m) / 2] bx (by omega) ⟨kF,T,Kj⟩ Fu Ft Gd Gi (Ks _ (Bd Wa)) λHe Dn Ec=>?_
   have Ik:=Ec.le
   have g3:Al es.hp es.nx He Dn:=⟨by omega,λj hj=>by rw [Ec.same j (by omega),g.same j hj]⟩
   simp only [Am,↓An,b0,b2,b4,b15,Xu,Ik,Hn (show (i+m) / 2<_ by omega)]
   exact ⟨m-((i+m) / 2+1),by omega,(i+m) / 2+1,rfl,by omega,by omega,g3,rfl⟩
  .have vF:i=m:=by omega
   subst vF
   simp only [Am,↓An,b2,b14,b15,Iv]
   refine EW.l (I:=λ_ By=>By.hp=es1.hp/\By.nx=es1.nx/\Ac By (.t (.r (.r (.r .o))))=iv (i:Nat)/\Ac By (.t (.l (.r (.l (.l .o)))))=iv (i:Nat)) ?_ 0 1000000 _ ?_ (by omega)
   .rintro n By ⟨q1,q2,bH,x17⟩
    unfold Ch0
    simp only [Am,↓An,bH,x17,Iv]
    rw [q1,q2]
    exact hK _ _ g
   .simp only [Am,b14]
 .refine ⟨a,?_⟩
  simp only [Am,a0,a2,a4]
  omega
end
end Go.DD

/- Contracts: sorting of cells that are sorted changes nothing: merging in place, the general step. Conditions: those that each theorem states. -/
namespace Go.DD
open Go Go.Proofs
theorem IK:Cn 131=(.l (.l (.r (.l (.l (.l (.l .o))))))):=rfl
theorem IJ:Cn 133=(.l (.r (.r (.l (.l (.l (.l .o))))))):=rfl
theorem gd:Cn 154=(.r (.r (.l (.r (.r (.l (.l .o))))))):=rfl
theorem fy:Cn 156=(.r (.l (.r (.r (.r (.l (.l .o))))))):=rfl
section
variable (k n0:Nat)
theorem Bx5(d:DV)(l:List PCell)(bx s0 r p:Nat)(x1 x2 x3 tQ wZ:DV)(hs:Qg l)(hl:l.length<900000)(Ks:∀ c∈l,c.pos.length<900000){es:ES}{Q:Exit->ES->Prop}(hn:n0<=es.nx)(hb:aV es.hp n0 bx)(h1:RL rCell es.hp (Bl n0) d l)(lP:s0<=r)(hr:r<900000)(hc:∀ c,s0<=c->c<r->c+c<=p/\p-c<l.length)
  (a0:Ac es (.t .o)=d) (a1:Ac es (.t (.l .o))=x1) (a2:Ac es (.t (.r .o))=x2) (a3:Ac es (.t (.l (.l .o)))=x3) (a4:Ac es (.t (.r (.l .o)))=Ld bx) (a18:Ac es (.t (.r (.r (.l (.l .o)))))=tQ) (a19:Ac es (.t (.l (.l (.r (.l .o)))))=wZ) (a20:Ac es (.t (.r (.l (.r (.l .o)))))=iv (s0:Nat)) (a21:Ac es (.t (.l (.r (.r (.l .o)))))=iv (r:Nat)) (a22:Ac es (.t (.r (.r (.r (.l .o)))))=iv (p:Nat))
  (hQ:∀ By:ES,Al es.hp es.nx By.hp By.nx->Ac By (.t .o)=d->Ac By (.t (.l .o))=x1->Ac By (.t (.r .o))=x2->Ac By (.t (.l (.l .o)))=x3->Ac By (.t (.r (.l .o)))=Ld bx->Ac By (.t (.r (.r (.l (.l .o)))))=tQ->Ac By (.t (.l (.l (.r (.l .o)))))=wZ->Ac By (.t (.r (.l (.r (.l .o)))))=iv (r:Nat)->Q (.exit 8) By):EW (cL 1000000 zg) (kN (k+5)) es Q:=by
 refine EW.l (I:=λn es1=>∃ i,n=r-i/\s0<=i/\i<=r/\Al es.hp es.nx es1.hp es1.nx/\Ac es1 (.t .o)=d/\Ac es1 (.t (.l .o))=x1/\Ac es1 (.t (.r .o))=x2/\Ac es1 (.t (.l (.l .o)))=x3/\Ac es1 (.t (.r (.l .o)))=Ld bx/\Ac es1 (.t (.r (.r (.l (.l .o)))))=tQ/\Ac es1 (.t (.l (.l (.r (.l .o)))))=wZ/\Ac es1 (.t (.r (.l (.r (.l .o)))))=iv (i:Nat)/\Ac es1 (.t (.l (.r (.r (.l .o)))))=iv (r:Nat)/\Ac es1 (.t (.r (.r (.r (.l .o)))))=iv (p:Nat)) ?_ (r-s0) 1000000 _ ⟨s0,rfl,Af _,lP,Al.refl _ _,a0,a1,a2,a3,a4,a18,a19,a20,a21,a22⟩ (by omega)
 rintro n es1 ⟨i,hni,qF,Sa,g,b0,b1,b2,b3,b4,b18,b19,BM,H7,X3⟩
 unfold zg
 have hle:=g.le
 have w1:=h1.ka hn g
 obtain ⟨kF,T,vM⟩:=hb
 have Kj:=(g.same bx (by omega)).trans vM
 by_cases h:i<r
 .obtain ⟨sV,Wb⟩:=hc ((i+r) / 2) (by omega) (by omega)
  obtain ⟨c,OB⟩:∃ c,c=(i+r) / 2:=⟨_,rfl⟩
  rw [<- OB] at sV Wb
  have aQ:Cl .add (.v (.int .i64 (i:Int))) (.v (.int .i64 (r:Int)))=some (.v (.int .i64 ((i+r:Nat):Int))):=Wg (by omega)
  have hh:Cl .shr (.v (.int .u64 ((i+r:Nat):Int))) (.v (.int .u64 1))=some (.v (.int .u64 (c:Int))):=by rw [RP,<- OB]
  have Lc:Cl .sub (.v (.int .i64 (p:Int))) (.v (.int .i64 (c:Int)))=some (.v (.int .i64 ((p-c:Nat):Int))):=by rw [Lh,Dk (by omega)];congr 3;omega
  have hi:c<l.length:=by omega
  obtain ⟨pA,vA,Gd,Gi,ldA,_⟩:=Ed w1 hi
  obtain ⟨pB,vB,Fu,Ft,O4,_⟩:=Ed w1 Wb
  have Xu:=Az4 hs Wb (show c<=p-c by omega)
  have Fq:n0<=es1.nx:=by omega
  have L9:∀ an,Ib (Ld bx) (λid=>Cp es1.nx 14 an es1.hp id):=λan=>(Ys _ _ _ _).2 (Il Kj (by omega))
  simp only [Am,↓An,b0,b4,BM,H7,X3,h,aQ,hh,Lc,gd,fy,Zm (show i+r<_ by omega),Zn (show c<_ by omega),Yo w1 hi,Yo w1 Wb,ldA,O4,w1.rox Fq,Z1 w1 Fq,Bj (L9 _)]
  refine ⟨⟨Ci (Fu.rox Fq) (Ft.rox Fq),Ci (Gd.rox Fq) (Gi.rox Fq)⟩,?_⟩
  refine Ge rfl (Zt (f:=166) (fs:=[]) (cs:=[.pt bx 0]) (by rw [Di];simp only [bR];exact XX Kj) ?_)
  simp only [bR,Ao,Aq,Bh,Ky]
  refine XS k n0 _ _ _ pB vB pA vA l[p-c] l[c] bx (by omega) ⟨kF,T,Kj⟩ Fu Ft Gd Gi (Ks _ (Bd Wb)) λHe Dn Ec=>?_
  have Ik:=Ec.le
  have g3:Al es.hp es.nx He Dn:=⟨by omega,λj hj=>by rw [Ec.same j (by omega),g.same j hj]⟩
  simp only [Am,↓An,b0,b1,b2,b3,b4,b18,b19,H7,X3,Xu,Ik,Hn (show c<_ by omega)]
  exact ⟨r-(c+1),by omega,c+1,rfl,by omega,by omega,g3,rfl⟩
 .have hir:i=r:=by omega
  subst hir
  simp only [Am,↓An,BM,H7,Iv]
  refine hQ _ g ?_ ?_ ?_ ?_ ?_ ?_ ?_ ?_ <;> simp only [bR] <;> assumption
theorem Ch2(d:DV)(l:List PCell)(bx:Nat)(hs:Qg l)(hl:l.length<900000)(Ks:∀ c∈l,c.pos.length<900000):∀ (f a m b:Nat) (hp:Tr DObj) (nx:Nat) (K:DV->Tr DObj->Nat->Prop) (_:n0<=nx) (_:aV hp n0 bx) (_:RL rCell hp (Bl n0) d l) (_:a<m) (_:m<b) (_:b<=l.length) (_:b-a<=2 ^ f)
  (_:∀ Ap Ba,Al hp nx Ap Ba->K (.tup []) Ap Ba),KW (kN (k+f+6)) (.fn 212) [d,iv (a:Nat),iv (m:Nat),iv (b:Nat),Ld bx] hp nx K:=by
 intro f
 induction f with
 | zero=>intro a m b hp nx K _ _ _ h1 h2 _ h3 _;omega
 | succ f ih=>
  intro a m b hp nx K hn hb h1 VR pd Oh hf hK
  by_cases c1:m=a+1
  .subst c1
   exact Co5 (k+f+1) n0 hp nx K d l a b bx hn hb h1 hs pd Oh hl Ks hK
  .by_cases c2:b=m+1
   .subst c2
    exact Co6 (k+f+1) n0 hp nx K d l a m bx hn hb h1 hs (by omega) Oh hl Ks hK
   .show KW (kN (k+f+6+1)) _ _ _ _ _
    refine Oq (Gb (by decide)) K7 (Ab rfl) λes e1 e2 he=>?_
    have a0:Ac es (.t .o)=d:=he 0 _ rfl
    have a1:Ac es (.t (.l .o))=iv (a:Nat):=he 1 _ rfl
    have a2:Ac es (.t (.r .o))=iv (m:Nat):=he 2 _ rfl
    have a3:Ac es (.t (.l (.l .o)))=iv (b:Nat):=he 3 _ rfl
    have a4:Ac es (.t (.r (.l .o)))=Ld bx:=he 4 _ rfl
    unfold uE
    subst e1 e2
    have Db:2 ^ (f+1)=2*2 ^ f:=by rw [Nat.pow_succ];omega
    rw [Db] at hf
    generalize 2 ^ f=F at hf ih
    obtain ⟨M,hM⟩:∃ M,M=(a+b) / 2:=⟨_,rfl⟩
    have Co:Cl .sub (.v (.int .i64 (m:Int))) (.v (.int .i64 (a:Int)))=some (.v (.int .i64 ((m-a:Nat):Int))):=by rw [Lh,Dk (by omega)];congr 3;omega
    have Mf:Cl .sub (.v (.int .i64 (b:Int))) (.v (.int .i64 (m:Int)))=some (.v (.int .i64 ((b-m:Nat):Int))):=by rw [Lh,Dk (by omega)];congr 3;omega
    have iG:Cl .add (.v (.int .i64 (a:Int))) (.v (.int .i64 (b:Int)))=some (.v (.int .i64 ((a+b:Nat):Int))):=Wg (by omega)
    have iF:Cl .add (.v (.int .i64 (M:Int))) (.v (.int .i64 (m:Int)))=some (.v (.int .i64 ((M+m:Nat):Int))):=Wg (by omega)
    have Lm:Cl .sub (.v (.int .i64 ((M+m:Nat):Int))) (.v (.int .i64 1))=some (.v (.int .i64 ((M+m-1:Nat):Int))):=by rw [Lh,Dk (by omega)];congr 3;omega
    have hh:Cl .shr (.v (.int .u64 ((a+b:Nat):Int))) (.v (.int .u64 1))=some (.v (.int .u64 (M:Int))):=by rw [RP,<- hM]
    by_cases cm:M<m
    .have Hr:Cl .sub (.v (.int .i64 ((M+m:Nat):Int))) (.v (.int .i64 (b:Int)))=some (.v (.int .i64 ((M+m-b:Nat):Int))):=by rw [Lh,Dk (by omega)];congr 3;omega
     simp only [Am,↓An,a1,a2,a3,Co,Mf,iG,iF,Hr,Lm,hh,IK,IJ,show ¬ ((m-a:Nat):Int)=1 by omega,show ¬ ((b-m:Nat):Int)=1 by omega,Zm (show a+b<_ by omega),Zn (show M<_ by omega),cm]
     refine Bx5 (k+f+1) n0 d l bx (M+m-b) M (M+m-1) (iv (a:Nat)) (iv (m:Nat)) (iv (b:Nat)) (iv (M:Nat)) (iv ((M+m:Nat))) hs hl Ks hn hb h1 (by omega) (by omega) (λc h3 h4=>⟨by omega,by omega⟩) (by simp only [bR,a0]) (by simp only [bR,a1]) (by simp only [bR,a2]) (by simp only [bR,a3]) (by simp only [bR,a4]) (by simp only [bR]) (by simp only [bR]) (by simp only [bR]) (by simp only [bR]) (by simp only [bR]) λBy g x0 x1 x2 x3 x4 tQ wZ TL=>?_
     have g:Al es.hp es.nx By.hp By.nx:=g
     have kF:=hb.1
     have hle:=g.le
     have Hs:Cl .sub (.v (.int .i64 ((M+m:Nat):Int))) (.v (.int .i64 (M:Int)))=some (.v (.int .i64 (m:Int))):=by rw [Lh,Dk (by omega)];congr 3;omega
     simp only [Am,↓An,x0,x1,x2,x3,x4,tQ,wZ,TL,Hs,cm,Iv,show a<M by omega,pd]
     refine Dt (ih M m b _ _ _ (by have:=g.le;omega) ⟨hb.1,by obtain ⟨_,T,h⟩:=hb;exact ⟨T,(g.same _ (by omega)).trans h⟩⟩ (h1.ka hn g) cm pd Oh (by omega) λHe Dn Ec=>?_)
     simp only [Am,↓An]
     exact hK _ _ (g.trans Ec)
    .simp only [Am,↓An,a1,a2,a3,Co,Mf,iG,iF,Lm,hh,IK,IJ,show ¬ ((m-a:Nat):Int)=1 by omega,show ¬ ((b-m:Nat):Int)=1 by omega,Zm (show a+b<_ by omega),Zn (show M<_ by omega),cm]
     refine Bx5 (k+f+1) n0 d l bx a m (M+m-1) (iv (a:Nat)) (iv (m:Nat)) (iv (b:Nat)) (iv (M:Nat)) (iv ((M+m:Nat))) hs hl Ks hn hb h1 (by omega) (by omega) (λc h3 h4=>⟨by omega,by omega⟩) (by simp only [bR,a0]) (by simp only [bR,a1]) (by simp only [bR,a2]) (by simp only [bR,a3]) (by simp only [bR,a4]) (by simp only [bR]) (by simp only [bR]) (by simp only [bR]) (by simp only [bR]) (by simp only [bR]) λBy g x0 x1 x2 x3 x4 tQ wZ TL=>?_
     have g:Al es.hp es.nx By.hp By.nx:=g
     have kF:=hb.1
     have hle:=g.le
     have Hs:Cl .sub (.v (.int .i64 ((M+m:Nat):Int))) (.v (.int .i64 (m:Int)))=some (.v (.int .i64 (M:Int))):=by rw [Lh,Dk (by omega)];congr 3;omega
     by_cases ce:m<M
     .simp only [Am,↓An,x0,x1,x2,x4,tQ,wZ,TL,Hs,Iv,VR,ce]
      refine Dt (ih a m M _ _ _ (by have:=g.le;omega) ⟨hb.1,by obtain ⟨_,T,h⟩:=hb;exact ⟨T,(g.same _ (by omega)).trans h⟩⟩ (h1.ka hn g) VR ce (by omega) (by omega) λHe Dn Ec=>?_)
      simp only [Am,↓An,tQ,Iv]
      exact hK _ _ (g.trans Ec)
     .simp only [Am,↓An,x1,x2,tQ,wZ,TL,Hs,Iv,VR,ce]
      exact hK _ _ g
end
end Go.DD

/- Contracts: a stable sort of sorted cells changes nothing. Conditions: those that each theorem states. -/
namespace Go.DD
open Go Go.Proofs
section
variable (k n0:Nat) (hp:Tr DObj) (nx:Nat) (K:DV->Tr DObj->Nat->Prop)
theorem Bx6(f:Nat)(d:DV)(l:List PCell)(bx:Nat)(hn:n0<=nx)(hb:aV hp n0 bx)(h1:RL rCell hp (Bl n0) d l)(hs:Qg l)(hl:l.length<400000)(hf:l.length<=2 ^ f)(Ks:∀ c∈l,c.pos.length<900000)
  (hK:∀ Ap Ba,Al hp nx Ap Ba->K (.tup []) Ap Ba):KW (kN (k+f+7)) (.fn 187) [d,iv l.length,Ld bx] hp nx K:=by
 refine Oq (Gb (by decide)) bg (Ab rfl) λes e1 e2 he=>?_
 have a0:Ac es (.t .o)=d:=he 0 _ rfl
 have a1:Ac es (.t (.l .o))=iv l.length:=he 1 _ rfl
 have a2:Ac es (.t (.r .o))=Ld bx:=he 2 _ rfl
 unfold HA
 subst e1 e2
 have kF:=hb.1
 have uN:∀ {Ap Ba},Al es.hp es.nx Ap Ba->aV Ap n0 bx:=λg=>⟨hb.1,by obtain ⟨_,T,h⟩:=hb;exact ⟨T,(g.same _ (by omega)).trans h⟩⟩
 simp only [Am,↓An]
 refine EW.l (I:=λm es1=>∃ a,m=l.length-a/\a<=l.length/\Al es.hp es.nx es1.hp es1.nx/\Ac es1 (.t .o)=d/\Ac es1 (.t (.l .o))=iv l.length/\Ac es1 (.t (.r .o))=Ld bx/\Ac es1 (.t (.r (.r .o)))=iv ((20:Nat))/\Ac es1 (.t (.l (.l (.l .o))))=iv (a:Nat)/\Ac es1 (.t (.r (.l (.l .o))))=iv ((a+20:Nat))) ?_ l.length 1000000 _ ?_ (by omega)
 .rintro m es1 ⟨a,hm,ha,g,b0,b1,b2,b6,b7,b8⟩
  unfold Cg3
  have hle:=g.le
  by_cases h:a+20<=l.length
  .simp only [Am,↓An,b0,b1,b2,b7,b8,h]
   refine Dt (Bl4 (k+f) n0 _ _ _ d l a (a+20) bx (by omega) (uN g) (h1.ka hn g) hs (by omega) h (by omega) Ks λHe Dn Ec=>?_)
   simp only [Am,↓An,b0,b1,b2,b6,b8,Wg (show a+20+20<_ by omega)]
   exact ⟨l.length-(a+20),by omega,a+20,rfl,h,g.trans Ec,rfl,rfl⟩
  .simp only [Am,↓An,b0,b1,b2,b7,b8,h]
   refine Dt (Bl4 (k+f) n0 _ _ _ d l a l.length bx (by omega) (uN g) (h1.ka hn g) hs ha (Af _) (by omega) Ks λHe Dn Ec=>?_)
   have g3:=g.trans Ec
   simp only [Am,↓An]
   refine EW.l (I:=λm By=>∃ bs,m=l.length-bs/\1<=bs/\bs<=400000+400000/\Al es.hp es.nx By.hp By.nx/\Ac By (.t .o)=d/\Ac By (.t (.l .o))=iv l.length/\Ac By (.t (.r .o))=Ld bx/\Ac By (.t (.r (.r .o)))=iv (bs:Nat)) ?_ (l.length-20) 1000000 _ ?_ (by omega)
   .rintro m2 By ⟨bs,pW,OC,aXl,g2,x0,x1,x2,x6⟩
    unfold Cg5
    have Fq:=g2.le
    by_cases h2:bs<l.length
    .have hmul:Cl .mul (.v (.int .i64 2)) (.v (.int .i64 (bs:Int)))=some (.v (.int .i64 ((2*bs:Nat):Int))):=by rw [Zq,Dk (by omega)];congr 3
     simp only [Am,↓An,x1,x6,h2,hmul]
     refine EW.l (I:=λm Fs=>∃ a,m=l.length-a/\a<=l.length/\Al es.hp es.nx Fs.hp Fs.nx/\Ac Fs (.t .o)=d/\Ac Fs (.t (.l .o))=iv l.length/\Ac Fs (.t (.r .o))=Ld bx/\Ac Fs (.t (.r (.r .o)))=iv (bs:Nat)/\Ac Fs (.t (.l (.l (.l .o))))=iv (a:Nat)/\Ac Fs (.t (.r (.l (.l .o))))=iv ((a+2*bs:Nat))) ?_ l.length 1000000 _ ?_ (by omega)
     .rintro m3 Fs ⟨a,MV,dF,g4,y0,y1,y2,y6,y7,y8⟩
      unfold Cg4
      have Vq:=g4.le
      have aQ:Cl .add (.v (.int .i64 (a:Int))) (.v (.int .i64 (bs:Int)))=some (.v (.int .i64 ((a+bs:Nat):Int))):=Wg (by omega)
      by_cases h5:a+2*bs<=l.length
      .simp only [Am,↓An,y0,y1,y2,y6,y7,y8,h5,aQ]
       refine Dt (Ch2 k n0 d l bx hs (by omega) Ks f a (a+bs) (a+2*bs) _ _ _ (by omega) (uN g4) (h1.ka hn g4) (by omega) (by omega) h5 (by omega) λDu Fm Cw=>?_)
       simp only [Am,↓An,y0,y1,y2,y6,y8,hmul,Wg (show a+2*bs+2*bs<_ by omega)]
       exact ⟨l.length-(a+2*bs),by omega,a+2*bs,rfl,h5,g4.trans Cw,rfl,rfl⟩
      .by_cases h6:a+bs<l.length
       .simp only [Am,↓An,y0,y1,y2,y6,y7,y8,h5,h6,aQ]
        refine Dt (Ch2 k n0 d l bx hs (by omega) Ks f a (a+bs) l.length _ _ _ (by omega) (uN g4) (h1.ka hn g4) (by omega) h6 (Af _) (by omega) λDu Fm Cw=>?_)
        have re:Cl .mul (.v (.int .i64 (bs:Int))) (.v (.int .i64 2))=some (.v (.int .i64 ((bs*2:Nat):Int))):=by rw [Zq,Dk (by omega)];congr 3
        simp only [Am,↓An,y0,y1,y2,y6,re]
        exact ⟨l.length-bs*2,by omega,bs*2,rfl,by omega,by omega,g4.trans Cw,rfl⟩
       .have re:Cl .mul (.v (.int .i64 (bs:Int))) (.v (.int .i64 2))=some (.v (.int .i64 ((bs*2:Nat):Int))):=by rw [Zq,Dk (by omega)];congr 3
        simp only [Am,↓An,y0,y1,y2,y6,y7,y8,h5,h6,aQ,re]
        exact ⟨l.length-bs*2,by omega,bs*2,rfl,by omega,by omega,g4,rfl⟩
     .refine ⟨0,?_⟩
      simp only [Am,x0,x1,x2,x6]
      refine ⟨by omega,by omega,g2,?_⟩
      first | rfl | rw [Er] | simp
    .simp only [Am,↓An,x1,x6,h2]
     exact hK _ _ g2
   .refine ⟨20,?_⟩
    simp only [Am,b0,b1,b2,b6]
    exact ⟨by omega,by omega,g3⟩
 .refine ⟨0,?_⟩
  simp only [Am,a0,a1,a2]
  exact ⟨by omega,by omega,rfl⟩
end
end Go.DD

/- Contracts: sorting of sorted cells by a key changes nothing. Conditions: those that each theorem states. -/
namespace Go.DD
open Go Go.Proofs
section
variable (k n0:Nat) (hp:Tr DObj) (nx:Nat) (K:DV->Tr DObj->Nat->Prop)
theorem A72(f:Nat)(d:DV)(l:List PCell)(bx:Nat)(hn:n0<=nx)(hb:aV hp n0 bx)(h1:RL rCell hp (Bl n0) d l)(hs:Qg l)(hl:l.length<400000)(hf:l.length<=2 ^ f)(Ks:∀ c∈l,c.pos.length<900000)
  (hK:∀ Ap Ba,Al hp nx Ap Ba->K (.tup []) Ap Ba):KW (kN (k+f+8)) (.fn 165) [d,Ld bx] hp nx K:=by
 refine Oq (Gb (by decide)) cd (Ab rfl) λes e1 e2 he=>?_
 have a0:Ac es (.t .o)=d:=he 0 _ rfl
 have a1:Ac es (.t (.l .o))=Ld bx:=he 1 _ rfl
 unfold HL
 subst e1 e2
 simp only [Am,↓An,a0,a1,h1.len]
 refine Dt (Bx6 k n0 _ _ _ f d l bx hn hb h1 hs hl hf Ks λHe Dn Ec=>?_)
 simp only [Am,↓An]
 exact hK _ _ Ec
theorem Bx7(f:Nat)(d:DV)(l:List PCell)(hn:n0<=nx)(h1:RL rCell hp (Bl n0) d l)(hs:Qg l)(hl:l.length<400000)(hf:l.length<=2 ^ f)(Ks:∀ c∈l,c.pos.length<900000)
  (hK:∀ Ap Ba,Al hp nx Ap Ba->K (.tup []) Ap Ba):KW (kN (k+f+9)) (.fn 128) [d,.fn (.func 129) [.tup []]] hp nx K:=by
 refine Oq (Gb (by decide)) dj (Ab rfl) λes e1 e2 he=>?_
 have a0:Ac es (.t .o)=d:=he 0 _ rfl
 have a1:Ac es (.t (.l .o))=.fn (.func 129) [.tup []]:=he 1 _ rfl
 unfold HZ
 subst e1 e2
 simp only [↓An]
 refine DB (v:=.fn (.func 129) [.tup []]) (by simp only [Di,a1];exact RV _ _) ⟨rfl,rfl⟩ λDv Dc Cr=>?_
 simp only [bR] at Dc Cr
 have Em:Al es.hp es.nx Dv (es.nx+1):=⟨by omega,λj hj=>Cr j (by omega)⟩
 have e1:Ch Dv (.pt es.nx 0)=.pt es.nx 0:=Wh λid hid=>by
  have:id=es.nx:=by simpa [DV.refs] using hid
  rw [this,Dc];rfl
 simp only [Am,↓An,bP,a0,e1]
 refine Dt (A72 k (es.nx+1) _ _ _ f d l es.nx (Af _) ⟨by omega,_,Dc⟩ ((h1.ka hn Em).bl (show n0<=es.nx+1 by omega)) hs hl hf Ks λHe Dn Ec=>?_)
 simp only [Am,↓An]
 exact hK _ _ (Em.trans Ec)
end
end Go.DD

/- Contracts: the program's copy of a cell. Conditions: those that each theorem states. -/
namespace Go.DD
open Go Go.Proofs
def RJ(d:DV):Prop:=∃ id off n e,d=.ms id off n e
theorem OLs.isM{α:Type}{R:Rep α}{hp:Tr DObj}{p:Nat->Prop}{d:DV}{l:List α}(h:OLs R hp p d l)(hl:l≠[]):RJ d:=by
 rcases h with h | ⟨h,_⟩
 .cases h with
  | nil=>exact absurd rfl hl
  | ms id=>exact ⟨_,_,_,_,rfl⟩
 .exact absurd h hl
structure OwnC (hp:Tr DObj) (c:DV):Prop where
 n:∀ cs n,c≠.sl cs n
 m:∀ id off n e,c=.ms id off n e->∀ fl,hp.get id=some (.row rCell.T fl)->∀ x∈fl,RJ x
theorem OwnC.nil(hp:Tr DObj):OwnC hp Bv:=⟨λ_ _ h=>(by cases h),λ_ _ _ _ h=>(by cases h)⟩
theorem OwnC.keep{hp Ap:Tr DObj}{c:DV}(h:OwnC hp c)(hk:∀ j∈c.refs,Ap.get j=hp.get j):OwnC Ap c:=⟨h.n,λid off n e hc fl hg=>h.m id off n e hc fl (by rw [<- hk id (by rw [hc];simp [DV.refs])];exact hg)⟩
def AOw(hp:Tr DObj)(d:DV):Prop:=∀ a b c,d=.agg [a,b,c]->OwnC hp c
theorem AOw.of{hp:Tr DObj}{a b c:DV}(h:OwnC hp c):AOw hp (.agg [a,b,c]):=λa' b' c' e=>by cases e;exact h
section
variable (k n0:Nat) (hp:Tr DObj) (nx:Nat) (K:DV->Tr DObj->Nat->Prop)
theorem Bx8(p v:DV)(c:PCell)(hn:n0<=nx)(h1:RL rInt hp (Bl n0) p c.pos)(h2:RL rVal hp (Bl n0) v c.vals)(hpn:c.pos≠[])(hv1:c.vals≠[])(eR:c.pos.length<900000)(AE:c.vals.length<900000)
  (hK:∀ Ap Ba p' v',Al hp nx Ap Ba->RL rInt Ap (Bw nx Ba) p' c.pos->RL rVal Ap (Bw nx Ba) v' c.vals->RJ p'->RJ v'->K (.agg [p',v']) Ap Ba):KW (kN (k+2)) (.fn 164) [.agg [p,v]] hp nx K:=by
 refine zT (Gb (by decide)) cf (Ab rfl) λes e1 e2 he=>?_
 have a0:Ac es (.t .o)=.agg [p,v]:=he 0 _ rfl
 unfold HM
 subst e1 e2
 simp only [↓An]
 refine Tm (cs:=[p,v]) (by rw [Di,a0];exact Kl h1 h2) λDv Dc Cr=>?_
 simp only [bR] at Dc Cr
 simp only [Am,↓An]
 refine Oe λDb Gv Fj=>?_
 simp only [bR] at Gv Fj
 have Cq:Al es.hp es.nx Db (es.nx+2):=⟨by omega,λj hj=>by rw [Fj j (by omega),Cr j (by omega)]⟩
 have Qk:=(Fj es.nx (by omega)).trans Dc
 obtain ⟨⟨f0,f1⟩,l0,l1,_⟩:=Wf Qk
 have r1:=h1.ka hn Cq
 have r2:=h2.ka hn Cq
 simp only [Am,↓An,f0,l0,Il (n0:=es.nx+1+1) (m:=8) Qk (show es.nx<es.nx+1+1 by omega),r1.rox (show n0<=es.nx+1+1 by omega)]
 refine Ge rfl (Tf ?_)
 simp only [bR,Ao,Aq]
 refine YI k n0 _ _ _ p c.pos (by omega) r1 (.inl hpn) (by omega) λIj nC a' Ls gK LY _=>?_
 have Xd:=Ls.le
 have qK:=(Ls.same es.nx (by omega)).trans Qk
 have ql:=(Ls.same (es.nx+1) (by omega)).trans Gv
 obtain ⟨⟨f0,f1⟩,l0,l1,_⟩:=Wf qK
 have r7:=r2.ka (nx:=es.nx+1+1+8) (by omega) Ls
 have ft:=gK.rlF LY
 simp only [Am,↓An,Xd,f1,l1,Il (n0:=es.nx+1+1) (m:=8) qK (show es.nx<es.nx+1+1 by omega),r7.rox (show n0<=es.nx+1+1 by omega)]
 refine Ge rfl (Tf ?_)
 simp only [bR,Ao,Aq]
 refine Bb7 k n0 _ _ _ v c.vals (by omega) r7 (.inl hv1) (by omega) λLq Vj v' Lr VA nv _=>?_
 have Vp:=Lr.le
 have S5:=(Lr.same es.nx (by omega)).trans qK
 have NT:=(Lr.same (es.nx+1) (by omega)).trans ql
 have oK:=VA.rlF nv
 have oM:=ft.keep (Ap:=Lq) λj hj=>Lr.same j hj.2
 have FW:∀ an,Ib a' (λid=>Cp (es.nx+1+1) 8 an Lq id):=λan=>oM.ro' (n:=es.nx+1+1) (m:=8) λj hj=>.inr hj.1
 have FV:∀ an,Ib v' (λid=>Cp (es.nx+1+1) 8 an Lq id):=λan=>oK.ro' (n:=es.nx+1+1) (m:=8) λj hj=>.inr (by have:=hj.1;omega)
 have aA:∀ an,Ib (.agg [a',v']) (λid=>Cp (es.nx+1+1) 8 an Lq id):=λan=>Ci (FW an) (FV an)
 have sT:=CT (z:=.slice none 0 0) (w:=.slice none 0 0) oM.ok oK.ok
 simp only [Am,↓An,bP,Vp,X9,oM.live,oK.live,sT,Cb,Bj (FW _),Bj (FV _),Bj (aA _),Il (n0:=es.nx+1+1) (m:=8) NT (show es.nx+1<es.nx+1+1 by omega)]
 refine Ge rfl (Oi (n:=2) (id:=es.nx+1) (ds:=[a',v']) (by simp only [bR]) NT (by simp only [Di,bR];exact Kl oM oK) rfl rfl λJg Pn Mm=>?_)
 simp only [bR] at Pn Mm
 have qm:=(Mm es.nx (by omega)).trans S5
 simp only [Am,↓An]
 have Hq:∀ d∈[p,v],Nb 6 d d=true:=λd hd=>by
  simp only [Ak,Ax,or_false] at hd
  rcases hd with rfl | rfl
  .exact h1.same (by decide)
  .exact h2.same (by decide)
 have Ht:∀ q∈[(⟨7,[6,5,0,1,2,3,4],Lq,Jg⟩:Past),⟨5,[4,2,3,1,0],Ij,Lq⟩,⟨2,[1,0],Db,Ij⟩],q.a.get es.nx=some (.row 39 [p,v])/\q.b.get es.nx=some (.row 39 [p,v]):=λq hq=>by
  simp only [Ak,Ax,or_false] at hq
  rcases hq with rfl | rfl | rfl
  .exact ⟨S5,qm⟩
  .exact ⟨qK,S5⟩
  .exact ⟨Qk,qK⟩
 have Kw:∀ (o:Nat),∀ j∈(DV.pt es.nx o).refs,j=es.nx:=λo j hj=>by simpa [DV.refs] using hj
 refine ⟨nP (Kw 1) (by omega) Ht Hq (nP (Kw 0) (by omega) Ht Hq rfl),_,sE (by simp only [bR,bP]) Pn rfl,hK _ _ _ _ ⟨by omega,λj hj=>?_⟩ ((oM.keep λj hj=>Mm j ?_).mono λj hj=>⟨?_,?_⟩) ((oK.keep λj hj=>Mm j ?_).mono λj hj=>⟨?_,?_⟩) (gK.isM hpn) (VA.isM hv1)⟩
 .rw [Mm j (by omega),Lr.same j (by omega),Ls.same j (by omega),Cq.same j hj]
 all_goals (have h1:=hj.1;have h2:=hj.2;omega)
end
end Go.DD

/- Contracts: the program's copy of an array. Conditions: those that each theorem states. -/
namespace Go.DD
open Go Go.Proofs
section
variable (k n0:Nat) (hp:Tr DObj) (nx:Nat) (K:DV->Tr DObj->Nat->Prop)
theorem B78(d a c:DV)(D:List PDim)(A:List PAttr)(C:List PCell)(hn:n0<=nx)(h1:RL rDim hp (Bl n0) d D)(h2:RL rAttr hp (Bl n0) a A)(h3:RL rCell hp (Bl n0) c C)(hD:D≠[])(hA:A≠[])(hDl:D.length<900000)(hAl:A.length<900000)(hCl:C.length<900000)
  (hc:∀ e∈C,e.pos≠[]/\e.pos.length<900000/\e.vals≠[]/\e.vals.length<900000)
  (hK:∀ Ap Ba d',Al hp nx Ap Ba->AR Ap (Bw nx Ba) d' ⟨D,A,C⟩->AOw Ap d'->K d' Ap Ba):KW (kN (k+3)) (.fn 127) [d,a,c] hp nx K:=by
 refine zT (Gb (by decide)) dk (Ab rfl) λes e1 e2 he=>?_
 have a0:Ac es (.t .o)=d:=he 0 _ rfl
 have a1:Ac es (.t (.l .o))=a:=he 1 _ rfl
 have a2:Ac es (.t (.r .o))=c:=he 2 _ rfl
 unfold IA
 subst e1 e2
 simp only [↓An]
 refine Oe λDv Dc Cr=>?_
 simp only [bR] at Dc Cr
 have Em:Al es.hp es.nx Dv (es.nx+1):=⟨by omega,λj hj=>Cr j (by omega)⟩
 simp only [Am,↓An,a0]
 refine Dt (Bv9 (k+1) n0 _ _ _ d D (by omega) (h1.ka hn Em) (.inl hD) (by omega) λDb Hh d2 Cq jV jS _=>?_)
 have Fq:=Cq.le
 have iF:=Em.trans Cq
 simp only [Am,↓An,a1]
 refine Dt (Bw0 (k+1) n0 _ _ _ a A (by omega) (h2.ka hn iF) (.inl hA) (by omega) λHe Dn a3 Ec oh hr3 _=>?_)
 have Ik:=Ec.le
 have dF:=iF.trans Ec
 have Z7:=(jV.rlF jS).keep (Ap:=He) λj hj=>Ec.same j hj.2
 have fo:=oh.rlF hr3
 simp only [Am,↓An]
 refine sJ (cs:=[d2,a3,.v (.slice none 0 0)]) (by simp only [Ao,Aq,Dh,bR,bP,Z7.live,fo.live];simp [Hi,Z7.ok,fo.ok]) ?_
 simp only [Am,↓An]
 refine Oe λHo Ov Ha=>?_
 simp only [bR] at Ov Ha
 have xW:=Z7.keep (Ap:=Ho) λj hj=>Ha j (by have:=hj.2;omega)
 have fk:=fo.keep (Ap:=Ho) λj hj=>Ha j (by have:=hj.2;omega)
 have Xs:Ch Ho (.agg [d2,a3,.v (.slice none 0 0)])=.agg [d2,a3,.v (.slice none 0 0)]:=Wh λid hid=>by
  have:id∈d2.refs\/id∈a3.refs:=by simpa [DV.refs,DV.refsL] using hid
  rcases this with h | h
  .exact (xW.refs id h).2
  .exact (fk.refs id h).2
 simp only [Am,↓An]
 refine Oi (n:=3) (id:=Dn) (ds:=[d2,a3,.v (.slice none 0 0)]) (by simp only [bR]) Ov (by simp only [Di,bR];exact Xs) rfl rfl λDu Pf Hd=>?_
 simp only [bR] at Pf Hd
 have D7:Al es.hp es.nx Du (Dn+1):=⟨by omega,λj hj=>by rw [Hd j (by omega),Ha j (by omega),dF.same j hj]⟩
 have h35:∀ j,j<Dn->Du.get j=He.get j:=λj hj=>by rw [Hd j (by omega),Ha j (by omega)]
 have S7:Du.get es.nx=_:=(h35 _ (by omega)).trans ((Ec.same _ (by omega)).trans ((Cq.same _ (by omega)).trans Dc))
 have w5:=h3.ka hn D7
 simp only [Am,↓An,a2,w5.len]
 refine EW.up C.length (λi es1=>∃ z,Al es.hp es.nx es1.hp es1.nx/\Dn+1<=es1.nx/\(∀ j,j<Dn->es1.hp.get j=Du.get j)/\es1.hp.get Dn=some (.row 26 [d2,a3,z])/\OL rCell es1.hp (λj=>Dn<j/\j<es1.nx/\j∉z.refs) z (C.take i)/\OwnC es1.hp z/\Rng (Dn+1) es1.nx z/\Ac es1 (.t (.r (.r .o)))=.pt es.nx 0/\Ac es1 (.t (.l (.l (.l .o))))=.pt Dn 0/\Ac es1 (.t (.l (.l (.l (.l .o)))))=c/\Ac es1 (.t (.r (.l (.l (.l .o)))))=iv C.length/\Ac es1 (.t (.l (.r (.l (.l .o)))))=iv (i:Nat)) ?_ ?_ (by omega)
 .rintro i es1 hi ⟨z,g,Xu,Fv,VJ,ho,hW,LQ,b6,b7,b15,b16,We⟩
  unfold Cg2
  have hle:=g.le
  have w1:=h3.ka hn g
  by_cases h:i<C.length
  .obtain ⟨pA,vA,Gd,Gi,ldA,_⟩:=Ed w1 h
   have cA:=hc _ (Bd h)
   simp only [Am,↓An,b15,b16,We,h,Yo w1 h,ldA]
   refine Oe λGa aO Nk=>?_
   simp only [bR] at aO Nk
   have k6:∀ j,j<es1.nx->Ga.get j=es1.hp.get j:=λj hj=>Nk j (by omega)
   have rp6:=Gd.keep (Ap:=Ga) λj (hj:j<n0)=>k6 j (by omega)
   have rv6:=Gi.keep (Ap:=Ga) λj (hj:j<n0)=>k6 j (by omega)
   simp only [Am,↓An]
   refine Oi (n:=2) (id:=es1.nx) (ds:=[pA,vA]) (by simp only [bR]) aO (by simp only [Di,bR];exact Kl rp6 rv6) rfl rfl λIj Mt If=>?_
   simp only [bR] at Mt If
   have k7:∀ j,j<es1.nx->Ij.get j=es1.hp.get j:=λj hj=>by rw [If j (by omega),k6 j hj]
   have rp7:=Gd.keep (Ap:=Ij) λj (hj:j<n0)=>k7 j (by omega)
   have rv7:=Gi.keep (Ap:=Ij) λj (hj:j<n0)=>k7 j (by omega)
   have mF:=(k7 Dn (by omega)).trans VJ
   obtain ⟨⟨_,_,fz⟩,_,_,lz,_⟩:=Mh mF
   obtain ⟨_,_,_,lT⟩:=Wf Mt
   have Zb:∀ j,(Dn<j/\j<es1.nx/\j∉z.refs)\/j∈z.refs->Dn<j/\j<es1.nx:=λj hj=>by
    rcases hj with hj | hj
    .exact ⟨hj.1,hj.2.1⟩
    .have:=LQ j hj;exact ⟨by omega,this.2⟩
   have gK:=ho.keep (Ap:=Ij) λj hj=>k7 j (Zb j hj).2
   have TT:∀ an,Ib z (λid=>Cp (es1.nx+1) 8 an Ij id):=λan=>gK.rl.ro' (n:=es1.nx+1) (m:=8) λj hj=>.inl (by have:=(Zb j hj).2;omega)
   simp only [Am,↓An,b7,fz,lz,lT,Il (n0:=es1.nx+1) (m:=8) mF (show Dn<es1.nx+1 by omega),Il (n0:=es1.nx+1) (m:=8) Mt (show es1.nx<es1.nx+1 by omega)]
   refine ⟨Ci (rp7.rox (by omega)) (rv7.rox (by omega)),?_⟩
   refine Ge rfl (Tf ?_)
   simp only [bR,Ao,Aq]
   refine Bx8 k n0 _ _ _ pA vA C[i] (by omega) rp7 rv7 cA.1 cA.2.2.1 cA.2.1 cA.2.2.2 λLq Vj p' v' Lr TS TR mp8 mv8=>?_
   have Vp:=Lr.le
   have aA:∀ an,Ib (.agg [p',v']) (λid=>Cp (es1.nx+1) 8 an Lq id):=λan=>Ci (TS.ro' (n:=es1.nx+1) (m:=8) λj hj=>.inr hj.1) (TR.ro' (n:=es1.nx+1) (m:=8) λj hj=>.inr hj.1)
   have NN:=(Lr.same Dn (by omega)).trans mF
   have aX6:=(Lr.same es1.nx (by omega)).trans Mt
   have sT:=CT (z:=.slice none 0 0) (w:=.slice none 0 0) TS.ok TR.ok
   simp only [Am,↓An,Vp,Bj (aA _)]
   refine SG (fl:=[p',v']) rfl (by simp only [Ao,Aq,Dh,bR,bP,Kl TS TR];exact zk (z:=[.slice none 0 0,.slice none 0 0]) rfl) λJg Pn Mm=>?_
   simp only [bR] at Pn Mm
   have k9:∀ j,j<es1.nx->Jg.get j=es1.hp.get j:=λj hj=>by rw [Mm j (by omega),Lr.same j (by omega),k7 j hj]
   have FQ:=TS.keep (Ap:=Jg) λj hj=>Mm j (by have:=hj.1;omega)
   have FO:=TR.keep (Ap:=Jg) λj hj=>Mm j (by have:=hj.1;omega)
   have ho9:=ho.keep (Ap:=Jg) λj hj=>k9 j (Zb j hj).2
   have aX4:=(k9 Dn (by omega)).trans VJ
   have fh:∀ an,Ib z (λid=>Cp (es1.nx+1) 8 an Jg id):=λan=>ho9.rl.ro' (n:=es1.nx+1) (m:=8) λj hj=>.inl (by have:=(Zb j hj).2;omega)
   have hlen:(C.take i).length=i:=by rw [Ca];omega
   simp only [Am,↓An,Bj (fh _)]
   refine ⟨lJ Pn rfl,?_⟩
   refine Ge rfl (Bk4 (R:=rCell) (p:=λj=>Dn<j/\j<es1.nx/\j∉z.refs) (p2:=Bw (es1.nx+1+8) Vj) (d:=z) (d2:=.ms (es1.nx+1+4) 0 1 2) (ds:=[p',v']) (l:=C.take i) (m:=[C[i]]) (by simp only [bR,bP]) ho9 (by simp only [Dh,bR,bP];exact eK Pn) (A63 (R:=rCell) (x:=C[i]) Pn (rCell_rd.2 ⟨p',v',rfl,FQ,FO⟩)) (Rows.one (rCell_rd.2 ⟨p',v',rfl,FQ,FO⟩)) rfl rfl (by rw [Cc];omega) (by decide) λJx Kf tA OS=>?_)
   simp only [bR] at Kf tA OS
   have A1:∀ j∈z.refs,Dn<j/\j<es1.nx:=λj hj=>Zb j (.inr hj)
   have N1:=tA (λj=>Dn<j/\j<Vj/\j∉z.refs) (λj hj=>by
    rcases hj with hj | hj
    .exact ⟨⟨hj.1,by omega,hj.2.2⟩,by omega,hj.2.2⟩
    .have h1:=hj.1
     have h2:=hj.2
     exact ⟨⟨by omega,h2,λh=>by have:=A1 j h;omega⟩,by omega,λh=>by have:=A1 j h;omega⟩)
   have lO:∀ j,j<=Dn->Jx.get j=es1.hp.get j:=λj hj=>by rw [Kf j (by omega) (λh=>by have:=A1 j h;omega),k9 j (by omega)]
   have qH:=(lO Dn (by omega)).trans VJ
   obtain ⟨⟨_,_,ue⟩,_⟩:=Mh qH
   obtain ⟨_,_,um,nH,_⟩:=N1.get
   obtain ⟨aZ0,g10,m10⟩:=OS RJ (λid fl hz hg=>hW.m id 0 _ _ hz fl (by rw [<- k9 id (Zb id (.inr (by rw [hz];simp [DV.refs]))).2];exact hg)) λc hc=>by
    simp only [Ak,Ax,or_false] at hc
    rcases hc with rfl | rfl
    .exact mp8
    .exact mv8
   have fj:∀ an,Cp (es1.nx+1) 8 an Jx Vj=true:=λan=>(tJ Jx Vj).2 ⟨by rw [nH];rfl,.inr (.inl (by omega))⟩
   simp only [Am,↓An,b7,ue,Il (n0:=es1.nx+1) (m:=8) qH (show Dn<es1.nx+1 by omega),fj _,Nat.le_succ]
   refine Ge rfl (Pt (id:=Dn) (off:=2) (by simp only [bR]) qH (by simp only [Di,bR];exact eK nH) (bL _ _ _ _) (by simp) λOu cM Nv=>?_)
   simp only [bR] at cM Nv
   simp only [Am,↓An,b6,b7,b15,b16,We,Hn (show i<_ by omega)]
   have Hq:∀ q∈[d2,a3,z],Nb 6 q q=true:=AR.same (p:=λ_=>True) (x:=⟨D,A,C.take i⟩) ((xW.keep (Ap:=Ij) λj hj=>?_).mono λ_ _=>trivial) ((fk.keep (Ap:=Ij) λj hj=>?_).mono λ_ _=>trivial) (gK.rl.mono λ_ _=>trivial)
   refine ⟨nT (λj hj=>?_) (nT (λj hj=>?_) (BU _ _ _)),h,.ms Vj 0 (C.take i ++ [C[i]]).length 2,⟨by omega,λj hj=>?_⟩,by omega,λj hj=>?_,cM,?_,⟨(λ_ _ h=>by cases h),λid off n e hc fl hg=>?_⟩,Rng.ms (by omega) (by omega)⟩
   .have hj:j=Dn:=by simpa [DV.refs] using hj
    subst hj
    refine ⟨by omega,λq Zd=>?_⟩
    simp only [Ak,Ax,or_false] at Zd
    rcases Zd with rfl | rfl | rfl
    .exact .inl rfl
    .exact .inl rfl
    .exact .inr (.inr (by rw [Ah rfl];exact Z2 mF (NN.trans mF.symm) Hq))
   .have hj:j=Dn:=by simpa [DV.refs] using hj
    subst hj
    refine ⟨by omega,λq Zd=>?_⟩
    simp only [Ak,Ax,or_false] at Zd
    rcases Zd with rfl | rfl | rfl
    .exact .inl rfl
    .exact .inl rfl
    .refine .inr (.inr ?_)
     rw [Ae (by simp)]
     show (((Ij.get j).isSome)==((Lq.get j).isSome))=true
     rw [mF,NN];rfl
   .rw [Nv j (by omega),lO j (by omega),g.same j hj]
   .rw [Nv j (by omega),lO j (by omega),Fv j hj]
   .rw [Eh h]
    refine (N1.keep (Ap:=Ou) λj hj=>Nv j ?_).mono λj hj=>⟨hj.1,by omega,λh=>?_⟩
    .rcases hj with hj | hj
     .exact Nat.ne_of_gt hj.1
     .have:j=Vj:=by simpa [DV.refs] using hj
      omega
    .have:j=Vj:=by simpa [DV.refs] using h
     omega
   .cases hc
    rw [Nv _ (by omega),g10] at hg
    cases hg
    exact m10
   .rw [k7 j (by have:=hj.2;omega),Fv j (by have:=hj.2;omega),Hd j (by have:=hj.2;omega)]
   .rw [k7 j (by have:=hj.2;omega),Fv j (by have:=hj.2;omega),Hd j (by have:=hj.2;omega)]
  .rw [Bm (by omega)] at ho
   obtain ⟨_,_,_,_,lz⟩:=Mh VJ
   have Z6:=xW.keep (Ap:=es1.hp) λj hj=>by rw [Fv j (by have:=hj.2;omega),Hd j (by have:=hj.2;omega)]
   have ra6:=fk.keep (Ap:=es1.hp) λj hj=>by rw [Fv j (by have:=hj.2;omega),Hd j (by have:=hj.2;omega)]
   have qo:es1.hp.get es.nx=_:=(Fv _ (by omega)).trans S7
   have rz:RL rCell es1.hp (Bw (es.nx+1) es1.nx) z C:=ho.rl.mono λj hj=>by
    rcases hj with hj | hj
    .exact ⟨by omega,hj.2.1⟩
    .have:=LQ j hj;exact ⟨by omega,this.2⟩
   have C9:=Z6.mono (q:=Bw (es.nx+1) es1.nx) λj hj=>⟨by have:=hj.1;omega,by have:=hj.2;omega⟩
   have hda:=ra6.mono (q:=Bw (es.nx+1) es1.nx) λj hj=>⟨by have:=hj.1;omega,by have:=hj.2;omega⟩
   simp only [Am,↓An,b7,b16,We,h,lz]
   refine Oi (n:=3) (id:=es.nx) (ds:=[d2,a3,z]) (by simp only [bR,b6]) qo (by simp only [Di,bR];exact AR.live (x:=⟨D,A,C⟩) C9 hda rz) rfl rfl λIj Mt If=>?_
   simp only [bR] at Mt If
   simp only [Am,↓An]
   have up:∀ j,Bw (es.nx+1) es1.nx j->Bw es.nx es1.nx j:=λj hj=>⟨by have:=hj.1;omega,hj.2⟩
   have kp:∀ j,Bw (es.nx+1) es1.nx j->Ij.get j=es1.hp.get j:=λj hj=>If j (by have:=hj.1;omega)
   exact ⟨_,sE (by simp only [bR,bP,b6]) Mt rfl,hK _ _ _ ⟨g.le,λj hj=>(If j (by omega)).trans (g.same j hj)⟩ ⟨d2,a3,z,rfl,(C9.keep kp).mono up,(hda.keep kp).mono up,(rz.keep kp).mono up⟩ (.of (hW.keep λj hj=>If j (by have:=LQ j hj;omega)))⟩
 .refine ⟨.v (.slice none 0 0),?_⟩
  simp only [Am]
  exact ⟨D7,λ_ _=>trivial,Pf,.nil,.nil _,Rng.nil _ _⟩
end
end Go.DD

/- Contracts: the program's making of an array. Conditions: those that each theorem states. -/
namespace Go.DD
open Go Go.Proofs
theorem Bx9{d:List PDim}{a:List PAttr} : ∀ {l:List PCell} {b:Option PCell},(∀ c∈l,Gy d a c=0)->Srt l->(∀ q,b=some q->∀ c∈l,Cd q.pos c.pos = -1)->Pq d a b l=0
 | [],b,_,_,_=>by cases b <;> rfl
 | c::l,b,h1,h2,h3=>by
  have h4:Pq d a (some c) l=0:=Bx9 (λe he=>h1 e (Bn _ he)) h2.tail λq hq e he=>by cases hq;exact (Dj.1 h2).1 e he
  have h5:=h1 c (by simp)
  cases b with
  | none=>
   show (if Gy d a c≠0 then Gy d a c else Pq d a (some c) l)=0
   rw [Ae (by simp [h5]),h4]
  | some q=>
   have h6:=h3 q rfl c (by simp)
   show (if Gy d a c≠0 then Gy d a c else if Cd q.pos c.pos=0 then 5 else if Cd q.pos c.pos=1 then 2 else Pq d a (some c) l)=0
   rw [Ae (by simp [h5]),Ae (by omega),Ae (by omega),h4]
theorem A73{x:PArr}(h1:lH x.dims x.attrs=0)(h2:x.cells.length<=4096)(h3:∀ c∈x.cells,Gy x.dims x.attrs c=0)(h4:Srt x.cells):Ff x=0:=by
 unfold Ff
 rw [Ae (by simp [h1]),Ae (by omega)]
 exact Bx9 h3 h4 λq hq=>by cases hq
theorem By0{x:PArr}(h:Ff x=0):x.cells.length<=4096:=by
 unfold Ff at h
 split at h
 .rename_i h1;exact absurd h h1
 .split at h
  .cases h
  .omega
theorem By1{x:PArr}(h:Ff x=0):x.dims≠[]:=λe=>by
 have h2:=(Rg h).2.2
 have h5:Ob x.dims=13:=by unfold Ob;rw [Ah (Or.inl (by rw [e];simp))]
 unfold lH at h2
 rw [h5] at h2
 cases h2
theorem By2{x:PArr}(h:Ff x=0):x.attrs≠[]:=λe=>by
 have h2:=(Rg h).2.2
 unfold lH at h2
 split at h2
 .rename_i h5;exact h5 h2
 .rw [Ah (Or.inl (by rw [e];simp))] at h2;cases h2
section
variable (k n0:Nat) (hp:Tr DObj) (nx:Nat) (K:DV->Tr DObj->Nat->Prop)
theorem YW(f:Nat)(d a c:DV)(x:PArr)(hn:n0<=nx)(h1:RL rDim hp (Bl n0) d x.dims)(h2:RL rAttr hp (Bl n0) a x.attrs)(h3:RL rCell hp (Bl n0) c x.cells)(hc:Ff x=0)(ho:AOK x)(hf:x.cells.length<=2 ^ f)
  (hK:∀ Ap Ba d',Al hp nx Ap Ba->AR Ap (Bw nx Ba) d' x->AOw Ap d'->K (.tup [d',iv 0]) Ap Ba):KW (kN (k+f+10)) (.fn 59) [d,a,c] hp nx K:=by
 obtain ⟨hs,Nx,nm⟩:=Rg hc
 have hlen:=By0 hc
 refine jP (Gb (by decide)) t59 (Ab rfl) λes e1 e2 he=>?_
 have a0:Ac es (.t .o)=d:=he 0 _ rfl
 have a1:Ac es (.t (.l .o))=a:=he 1 _ rfl
 have a2:Ac es (.t (.r .o))=c:=he 2 _ rfl
 unfold r59
 subst e1 e2
 simp only [↓An]
 refine Oe λDv Dc Cr=>?_
 simp only [bR] at Dc Cr
 have Em:Al es.hp es.nx Dv (es.nx+1):=⟨by omega,λj hj=>Cr j (by omega)⟩
 simp only [Am,↓An,a0,a1]
 refine Dt (Bb6 (k:=k+f+6) n0 _ _ _ d a x.dims x.attrs (by omega) (h1.ka hn Em) (h2.ka hn Em) λDb Hh Cq=>?_)
 have Fq:=Cq.le
 have iF:=Em.trans Cq
 have w2:=h3.ka hn iF
 have Gv:=(Cq.same es.nx (by omega)).trans Dc
 have oj:¬ 4096<(x.cells.length:Int):=by omega
 simp only [Am,↓An,a2,show decide (¬ lH x.dims x.attrs=0)=false by simp [nm],w2.len,Ad oj]
 refine EW.up x.cells.length (λi es1=>Al es.hp es.nx es1.hp es1.nx/\es.nx<es1.nx/\es1.hp.get es.nx=some (.row 26 [.v (.slice none 0 0),.v (.slice none 0 0),.v (.slice none 0 0)])/\Ac es1 (.t .o)=d/\Ac es1 (.t (.l .o))=a/\Ac es1 (.t (.r .o))=c/\Ac es1 (.t (.r (.r .o)))=.pt es.nx 0/\Ac es1 (.t (.l (.r (.l (.r .o)))))=c/\Ac es1 (.t (.r (.r (.l (.r .o)))))=iv x.cells.length/\Ac es1 (.t (.l (.l (.r (.r .o)))))=iv (i:Nat)) ?_ ?_ (by omega)
 .rintro i es1 hi ⟨g,gn,hg,b0,b1,b2,b6,BL,X2,yk⟩
  unfold zH
  have hle:=g.le
  have w1:=h1.ka hn g
  have w2:=h2.ka hn g
  have w3:=h3.ka hn g
  by_cases h:i<x.cells.length
  .obtain ⟨p,v,rp,rv,lc,_⟩:=Ed w3 h
   have T5:=Nx _ (Bd h)
   have hoe:=ho.e _ (Bd h)
   simp only [Am,↓An,BL,X2,yk,h,Yo w3 h,lc]
   refine Oe λHe Lx Jh=>?_
   simp only [bR] at Lx Jh
   have g3:Al es.hp es.nx He (es1.nx+1):=⟨by omega,λj hj=>by rw [Jh j (by omega),g.same j hj]⟩
   have FR:=rp.keep λj (hj:j<n0)=>Jh j (by omega)
   have FP:=rv.keep λj (hj:j<n0)=>Jh j (by omega)
   simp only [Am,↓An]
   refine Oi (n:=2) (id:=es1.nx) (ds:=[p,v]) (by simp only [bR]) Lx (by simp only [Di,bR];exact A66 FR FP) rfl rfl λHo Ov Ha=>?_
   simp only [bR] at Ov Ha
   have g4:Al es.hp es.nx Ho (es1.nx+1):=g3.new (Af _) λj hj=>Ha j (by omega)
   have qn:Ho.get es.nx=_:=(Ha es.nx (by omega)).trans ((Jh es.nx (by omega)).trans hg)
   obtain ⟨_,_,_,u2⟩:=Wf Ov
   simp only [Am,↓An,b0,b1,u2]
   refine Dt (Bv7 (k+f+3) n0 _ _ _ d a p v x.dims x.attrs x.cells[i] (by omega) (h1.ka hn g4) (h2.ka hn g4) (FR.keep λj (hj:j<n0)=>Ha j (by omega)) (FP.keep λj (hj:j<n0)=>Ha j (by omega)) ho.d ho.a hoe.2.2 λDu Fm Cw=>?_)
   have Fp:=Cw.le
   simp only [Am,↓An,b0,b1,b2,b6,BL,X2,yk,h,show decide (¬ Gy x.dims x.attrs x.cells[i]=0)=false by simp [T5],Hn (show i<_ by omega)]
   exact ⟨g4.trans Cw,by omega,(Cw.same _ (by omega)).trans qn⟩
  .simp only [Am,↓An,b0,b1,b2,X2,yk,h]
   refine Dt (B78 (k+f+6) n0 _ _ _ d a c x.dims x.attrs x.cells (by omega) w1 w2 w3 (By1 hc) (By2 hc) ho.d ho.a ho.c (λe he=>⟨Z0 hc e he,(ho.e e he).1,nY hc e he,(ho.e e he).2.1⟩) λHe Dn d3 Ec qX ML=>?_)
   have Ik:=Ec.le
   obtain ⟨d3,a3,c3,rfl,r1,r2,r3⟩:=qX
   have how:=ML _ _ _ rfl
   have mI:∀ j∈c3.refs,es1.nx<=j/\j<Dn:=λj hj=>(r3.refs j hj).1
   simp only [Am,↓An]
   refine Oe λHo Ov Ha=>?_
   simp only [bR] at Ov Ha
   have q1:=r1.keep (Ap:=Ho) λj hj=>Ha j (by have:=hj.2;omega)
   have q2:=r2.keep (Ap:=Ho) λj hj=>Ha j (by have:=hj.2;omega)
   have q3:=r3.keep (Ap:=Ho) λj hj=>Ha j (by have:=hj.2;omega)
   simp only [Am,↓An]
   refine Oi (n:=3) (id:=Dn) (ds:=[d3,a3,c3]) (by simp only [bR]) Ov (by simp only [Di,bR];exact AR.live q1 q2 q3) rfl rfl λDu Pf Hd=>?_
   simp only [bR] at Pf Hd
   have q1:=q1.keep (Ap:=Du) λj hj=>Hd j (by have:=hj.2;omega)
   have q2:=q2.keep (Ap:=Du) λj hj=>Hd j (by have:=hj.2;omega)
   have q3:=q3.keep (Ap:=Du) λj hj=>Hd j (by have:=hj.2;omega)
   have g5:Al es.hp es.nx Du (Dn+1):=⟨by omega,λj hj=>by rw [Hd j (by omega),Ha j (by omega),Ec.same j (by omega),g.same j hj]⟩
   have S7:Du.get es.nx=_:=(Hd es.nx (by omega)).trans ((Ha es.nx (by omega)).trans ((Ec.same es.nx (by omega)).trans hg))
   obtain ⟨⟨_,_,f2⟩,_,_,l2,lA⟩:=Mh Pf
   have q3':=q3.mono (q:=Bl (Dn+1)) λj hj=>Br hj.2 (by omega)
   simp only [Am,↓An,f2,l2]
   refine Dt (Bx7 k (Dn+1) _ _ _ f c3 x.cells (Af _) q3' (At4 hc) (by omega) hf (λe he=>(ho.e e he).1) λGa Ih Lu=>?_)
   have Jr:=Lu.le
   simp only [Am,↓An]
   have g6:Al es.hp es.nx Ga Ih:=⟨by omega,λj hj=>by rw [Lu.same j (by omega),g5.same j hj]⟩
   refine EW.up x.cells.length (λi By=>Al Ga Ih By.hp By.nx/\Ac By (.t (.r (.r .o)))=.pt es.nx 0/\Ac By (.t (.r (.l (.r .o))))=.pt Dn 0/\Ac By (.t (.l (.r (.r .o))))=iv ((i+1:Nat))) ?_ ?_ (by omega)
   .rintro i By Sa ⟨g2,x6,lL,lK⟩
    unfold zG
    have Fq:=g2.le
    have e2:∀ j,j<Dn+1->By.hp.get j=Du.get j:=λj hj=>by rw [g2.same j (by omega),Lu.same j hj]
    have Qk:=(e2 Dn (by omega)).trans Pf
    have Uo:=(e2 es.nx (by omega)).trans S7
    obtain ⟨⟨_,_,f2⟩,_,_,l2,lA⟩:=Mh Qk
    have v3:=q3'.keep (Ap:=By.hp) e2
    by_cases h6:i+1<x.cells.length
    .obtain ⟨p1,v1,rp1,rv1,_,_,So,_⟩:=Ed v3 (show i<x.cells.length by omega)
     obtain ⟨p2,v2,rp2,rv2,_,_,Og,_⟩:=Ed v3 h6
     have Lc:Cl .sub (.v (.int .i64 ((i+1:Nat):Int))) (.v (.int .i64 1))=some (.v (.int .i64 (i:Int))):=by rw [Lh,Dk (by omega)];congr 3;omega
     have rf:Cd x.cells[i].pos x.cells[i+1].pos = -1:=At4 hc i (i+1) (by omega) h6
     simp only [Am,↓An,lL,lK,f2,l2,v3.len,h6,Lc,Il (n0:=By.nx) (m:=15) Qk (show Dn<By.nx by omega),Yo v3 h6,Yo v3 (show i<x.cells.length by omega),nS (k:=0) v3 h6,nS (k:=0) v3 (show i<x.cells.length by omega),So,Og,v3.rox (show Dn+1<=By.nx by omega),Z1 v3 (show Dn+1<=By.nx by omega),Ay9 v3 (show Dn+1<=By.nx by omega),rp1.rox (show Dn+1<=By.nx by omega),rp2.rox (show Dn+1<=By.nx by omega)]
     refine Ge rfl (Tf ?_)
     simp only [bR,Ao,Aq]
     refine wL (k+f+5) (Dn+1) _ _ _ p1 p2 _ _ (by omega) rp1 rp2 (ho.e _ (Bd (show i<x.cells.length by omega))).1 ?_
     simp only [Am,↓An,x6,lL,lK,show decide (Cd x.cells[i].pos x.cells[i+1].pos=0)=false by simp [rf],Hn (show i+1<_ by omega)]
     exact ⟨by omega,g2.nx (by omega)⟩
    .simp only [Am,↓An,lL,lK,f2,l2,v3.len,h6,lA]
     refine Oi (n:=3) (id:=es.nx) (ds:=[d3,a3,c3]) (by simp only [bR,x6]) Uo (by simp only [Di,bR];exact AR.live (q1.keep (Ap:=By.hp) λj hj=>e2 j (by have:=hj.2;omega)) (q2.keep (Ap:=By.hp) λj hj=>e2 j (by have:=hj.2;omega)) (q3.keep (Ap:=By.hp) λj hj=>e2 j (by have:=hj.2;omega))) rfl rfl λIj Mt If=>?_
     simp only [bR] at Mt If
     simp only [Am,↓An]
     have kp:∀ j,Bw es1.nx Dn j->Ij.get j=Du.get j:=λj hj=>by rw [If j (by have:=hj.1;omega),e2 j (by have:=hj.2;omega)]
     have up:∀ j,Bw es1.nx Dn j->Bw es.nx By.nx j:=λj hj=>⟨by have:=hj.1;omega,by have:=hj.2;omega⟩
     refine ⟨_,_,sE (by simp only [bR,bP,x6]) Mt rfl,by rw [X8];simp only [bR,bP,Sd],hK _ _ _ ⟨by omega,λj hj=>?_⟩ ⟨d3,a3,c3,rfl,(q1.keep kp).mono up,(q2.keep kp).mono up,(q3.keep kp).mono up⟩ (.of (how.keep λj hj=>by have:=mI j hj;rw [kp j this,Hd j (by omega),Ha j (by omega)]))⟩
     rw [If j (by omega),e2 j (by omega),g5.same j hj]
   .simp only [Am,b6]
    rfl
 .simp only [Am,a0,a1,a2]
  exact ⟨iF,by omega,Gv⟩
end
end Go.DD

/- Contracts: a round of the program's merge. Conditions: those that each theorem states. -/
namespace Go.DD
open Go Go.Proofs
def Lp:List (List PVal)->Option (List PVal)
 | [x,y,z]=>if y=z\/x=z then some y else if x=y then some z else none
 | _=>none
def Sn(w:List Int×List (List PVal)):List PCell:=match Lp w.2 with
 | some v=>if v=[] then [] else [⟨w.1,v⟩]
 | none=>[]
def Ki(W:List (List Int×List (List PVal))):List PCell:=W.flatMap Sn
def Rm(W:List (List Int×List (List PVal))):Option (List Int):=(W.find? λw=>(Lp w.2).isNone).map Prod.fst
theorem B79(w:List Int×List (List PVal)):(Sn w).length<=1:=by
 unfold Sn
 split
 .split <;> simp
 .simp
theorem XR(W:List (List Int×List (List PVal))):(Ki W).length<=W.length:=by
 induction W with
 | nil=>exact Af _
 | cons w W ih=>
  have h:=B79 w
  unfold Ki at ih ⊢
  rw [Kg,Bp,Fi]
  omega
structure MJ (sl:Tr DV) (L bx ba be bo:Nat) (P:Nat->Prop) (W:List (List Int×List (List PVal))) (M:Nat->Prop) (hp:Tr DObj) (nx:Nat) (z:DV):Prop where
 l:hp.get L=some (.loop ⟨105,.t sl,[48,49],CR,CQ,.ready,none⟩)
 x:hp.get bx=some (.row 26 [Bv,Bv,Bv])
 a:hp.get ba=some (.row 36 [Bv])
 e:hp.get be=some (.row 32 [iv 0])
 o:hp.get bo=some (.row 24 [z])
 c:OL rCell hp P z (Ki W)
 n:∀ w∈W,Lp w.2≠none
 z:∀ j∈z.refs,L<j/\M j
 m:M L/\M bx/\M ba/\M be/\M bo
 d:bx<ba/\ba<be/\be<bo/\bo<L
 b:∀ j,M j->j<nx
 s:Ac ⟨sl,.e,0⟩ (.t (.r (.r .o)))=.pt bx 0/\Ac ⟨sl,.e,0⟩ (.t (.l (.l (.l .o))))=.pt ba 0/\Ac ⟨sl,.e,0⟩ (.t (.r (.l (.l .o))))=.pt be 0/\Ac ⟨sl,.e,0⟩ (.t (.l (.r (.l .o))))=.pt bo 0
theorem MJ.keep{sl:Tr DV}{L bx ba be bo:Nat}{P:Nat->Prop}{W:List (List Int×List (List PVal))}{M:Nat->Prop}{hp Ap:Tr DObj}{nx Ba:Nat}{z:DV}(h:MJ sl L bx ba be bo P W M hp nx z)(hn:nx<=Ba)(hk:∀ j,M j\/P j->Ap.get j=hp.get j):MJ sl L bx ba be bo P W M Ap Ba z:=
 ⟨(hk _ (.inl h.m.1)).trans h.l,(hk _ (.inl h.m.2.1)).trans h.x,(hk _ (.inl h.m.2.2.1)).trans h.a,(hk _ (.inl h.m.2.2.2.1)).trans h.e,(hk _ (.inl h.m.2.2.2.2)).trans h.o,h.c.keep λj hj=>hk j (hj.elim .inr λh1=>.inl (h.z j h1).2),h.n,h.z,h.m,h.d,λj hj=>Br (h.b j hj) hn,h.s⟩
structure MS (L bx ba be:Nat) (W:List (List Int×List (List PVal))) (M:Nat->Prop) (hp:Tr DObj) (nx:Nat):Prop where
 l:∃ lp,hp.get L=some (.loop lp)/\lp.st≠.busy/\lp.pend=some .ret
 x:hp.get bx=some (.row 26 [Bv,Bv,Bv])
 a:∃ q p,hp.get ba=some (.row 36 [q])/\RL rInt hp (λj=>M j/\L<j) q p/\Rm W=some p
 e:hp.get be=some (.row 32 [iv 19])
 b:∀ j,M j->j<nx
theorem CP(x y z:List PVal):Lp [x,y,z]=if y=z\/x=z then some y else if x=y then some z else none:=rfl
theorem OL.atN{hp:Tr DObj}{p:Nat->Prop}{d:DV}{l:List (List PVal)}(h:OL mU hp p d l){i:Nat}(hi:i<l.length):∃ a,RL rVal hp p a l[i]/\Nn a l[i]/\Hk hp none (Cf 1 d i)=some a:=by
 cases h with
 | nil=>simp at hi
 | ms id fl l hg hr=>
  obtain ⟨rest,e1,a,e2,h2,h3⟩:=hr.at hi
  refine ⟨a,h2,h3,?_⟩
  show Hk hp none (.pt id (0+i*1))=_
  have F7:fl.drop (i*1)=((fl.drop (i*1)).take 1)++rest:=e1
  have WK:(fl.drop (i*1)).take 1=[a]:=e2
  rw [Nt hg,Er,F7,WK]
  rfl
theorem RL.iaN2{hp:Tr DObj}{p:Nat->Prop}{d:DV}{l:List (List PVal)}(h:RL mU hp p d l)(hi:2<l.length):Ms hp 1 d (.v (.int .i64 2))=some (Cf 1 d 2):=h.ia hi
theorem B80{W:List (List Int×List (List PVal))}(h:∀ w∈W,Lp w.2≠none)(w:List Int×List (List PVal))(V:List (List Int×List (List PVal)))(hw:Lp w.2=none):Rm (W++w::V)=some w.1:=by
 unfold Rm
 have e:W.find? (λw=>(Lp w.2).isNone)=none:=Rl.2 λx hx=>by
  cases hv:Lp x.2 with
  | none=>exact absurd hv (h x hx)
  | some v=>simp
 rw [List.find?_append,e,List.find?_cons,hw]
 rfl
section
variable (k:Nat) (hp:Tr DObj) (nx:Nat) (K:DV->Tr DObj->Nat->Prop)
theorem By3(sl:Tr DV)(L bx ba be bo:Nat)(P:Nat->Prop)(W:List (List Int×List (List PVal)))(M:Nat->Prop)(a s:DV)(p:List Int)(u v w:List PVal)(zz:DV)(hJ:MJ sl L bx ba be bo P W M hp nx zz)(Po:∀ j,P j->j<nx/\¬ M j)(ha:RL rInt hp P a p)(hs:OL mU hp P s [u,v,w])(lP:∀ j∈s.refs,j<nx/\¬ M j)(eR:p≠[])(Dv:p.length<900000)(hu:u.length<900000)(hv:v.length<900000)(hw:w.length<900000)(hW:W.length<900000)
  (BB:∀ Ap Ba M' z',nx<=Ba->(∀ j,j<nx->¬ M j->Ap.get j=hp.get j)->(∀ j,M' j->M j\/nx<=j)->MJ sl L bx ba be bo P (W ++ [(p,[u,v,w])]) M' Ap Ba z'->K (bv true) Ap Ba)
  (sy:∀ Ap Ba M',nx<=Ba->(∀ j,j<nx->¬ M j->Ap.get j=hp.get j)->(∀ j,M' j->M j\/nx<=j)->MS L bx ba be (W ++ [(p,[u,v,w])]) M' Ap Ba->K (bv false) Ap Ba) :
  KW (kN (k+2)) (.yl L) [a,s] hp nx K:=by
 refine pE hJ.l rfl rfl rfl rfl rfl ?_
 rw [show En 1000000 105 true CR=zj from Cy0]
 unfold zj
 obtain ⟨s6,s7,s8,s9⟩:=hJ.s
 have KS:∀ hp nx,Ac ⟨Lo [48,49] [a,s] sl,hp,nx⟩ (.t (.r (.l (.l (.l (.r .o))))))=a:=λhp nx=>by
  show Ac (((ES.mk sl hp nx).putE (some (.r (.l (.l (.l (.r .o)))))) a).putE (some (.l (.r (.l (.l (.r .o)))))) s) (.t (.r (.l (.l (.l (.r .o))))))=a
  simp only [bR]
 have KR:∀ hp nx,Ac ⟨Lo [48,49] [a,s] sl,hp,nx⟩ (.t (.l (.r (.l (.l (.r .o))))))=s:=λhp nx=>by
  show Ac (((ES.mk sl hp nx).putE (some (.r (.l (.l (.l (.r .o)))))) a).putE (some (.l (.r (.l (.l (.r .o)))))) s) (.t (.l (.r (.l (.l (.r .o))))))=s
  simp only [bR]
 have hz6:∀ hp nx,Ac ⟨Lo [48,49] [a,s] sl,hp,nx⟩ (.t (.r (.r .o)))=.pt bx 0:=λhp nx=>by
  show Ac (((ES.mk sl hp nx).putE (some (.r (.l (.l (.l (.r .o)))))) a).putE (some (.l (.r (.l (.l (.r .o)))))) s) (.t (.r (.r .o)))=.pt bx 0
  simp only [bR]
  exact s6
 have KQ:∀ hp nx,Ac ⟨Lo [48,49] [a,s] sl,hp,nx⟩ (.t (.l (.l (.l .o))))=.pt ba 0:=λhp nx=>by
  show Ac (((ES.mk sl hp nx).putE (some (.r (.l (.l (.l (.r .o)))))) a).putE (some (.l (.r (.l (.l (.r .o)))))) s) (.t (.l (.l (.l .o))))=.pt ba 0
  simp only [bR]
  exact s7
 have hz8:∀ hp nx,Ac ⟨Lo [48,49] [a,s] sl,hp,nx⟩ (.t (.r (.l (.l .o))))=.pt be 0:=λhp nx=>by
  show Ac (((ES.mk sl hp nx).putE (some (.r (.l (.l (.l (.r .o)))))) a).putE (some (.l (.r (.l (.l (.r .o)))))) s) (.t (.r (.l (.l .o))))=.pt be 0
  simp only [bR]
  exact s8
 have hz9:∀ hp nx,Ac ⟨Lo [48,49] [a,s] sl,hp,nx⟩ (.t (.l (.r (.l .o))))=.pt bo 0:=λhp nx=>by
  show Ac (((ES.mk sl hp nx).putE (some (.r (.l (.l (.l (.r .o)))))) a).putE (some (.l (.r (.l (.l (.r .o)))))) s) (.t (.l (.r (.l .o))))=.pt bo 0
  simp only [bR]
  exact s9
 generalize Lo [48,49] [a,s] sl=zs at KS KR hz6 KQ hz8 hz9
 simp only [Am,↓An,KS,KR]
 refine ⟨_,hJ.l,rfl,?_⟩
 rw [show En 1000000 105 true CQ=zi from Cy1]
 unfold zi
 obtain ⟨lp,Ze⟩:∃ lp:DLoop,lp=⟨105,.t sl,[48,49],CR,CQ,.busy,none⟩:=⟨_,rfl⟩
 have Qt:∀ j,j≠L->(hp.set L (some (.loop lp))).get j=hp.get j:=λj hj=>by rw [Tr.get_set,Ae (Hj hj)]
 have mJ:(hp.set L (some (.loop lp))).get L=some (.loop lp):=by rw [Tr.get_set,Ah rfl]
 rw [<- Ze]
 generalize hp.set L (some (.loop lp))=hq at Qt mJ ⊢
 have BA:∀ j,P j->j≠L:=λj hj e=>(Po j hj).2 (e ▸ hJ.m.1)
 have iG:=ha.keep (Ap:=hq) λj hj=>Qt j (BA j hj)
 have Co:=hs.rl.keep (Ap:=hq) λj hj=>Qt j (hj.elim (BA j) λh e=>(lP j h).2 (e ▸ hJ.m.1))
 have Rp:=hs.keep (Ap:=hq) λj hj=>Qt j (hj.elim (BA j) λh e=>(lP j h).2 (e ▸ hJ.m.1))
 have VT:∀ j,P j\/j∈s.refs->j<nx:=λj hj=>hj.elim (λh=>(Po j h).1) λh=>(lP j h).1
 obtain ⟨dU,rU,nU,lU⟩:=Rp.atN (show 0 < [u,v,w].length by simp)
 obtain ⟨dV,rV,nV,lV⟩:=Rp.atN (show 1 < [u,v,w].length by simp)
 obtain ⟨dW,rW,nW,lW⟩:=Rp.atN (show 2 < [u,v,w].length by simp)
 have Sq:=Co.mono (q:=Bl nx) VT
 have M2:RL rVal hq (Bl nx) dU u:=rU.mono λj hj=>(Po j hj).1
 have xY:RL rVal hq (Bl nx) dV v:=rV.mono λj hj=>(Po j hj).1
 have TX:RL rVal hq (Bl nx) dW w:=rW.mono λj hj=>(Po j hj).1
 have f1:=Co.iaN0 (by simp)
 have f2:=Co.iaN1 (by simp)
 have f3:=Co.iaN2 (by simp)
 refine ew_b.2 (EW.seq (λes1=>Ac es1 (.t (.r (.r .o)))=.pt bx 0/\Ac es1 (.t (.l (.l (.l .o))))=.pt ba 0/\Ac es1 (.t (.r (.l (.l .o))))=.pt be 0/\Ac es1 (.t (.l (.r (.l .o))))=.pt bo 0/\Ac es1 (.t (.r (.r (.l .o))))=a/\Ac es1 (.t (.l (.l (.r .o))))=s/\Ac es1 (.t (.r (.l (.r .o))))=dV/\es1.hp=hq/\es1.nx=nx) ?_ λes1 ⟨x6,x7,x8,x9,Z4,TM,lL,xh,xn⟩=>?_)
 .simp only [Am,↓An,hz6,KQ,hz8,hz9,f2,lV]
 subst xh xn
 refine EW.seq (λBy=>Ac By (.t (.l (.r (.l .o))))=.pt bo 0/\Ac By (.t (.r (.r (.l .o))))=a/\By.hp=es1.hp/\es1.nx<=By.nx/\∃ dX x,Ac By (.t (.r (.l (.r .o))))=dX/\RL rVal es1.hp P dX x/\Lp [u,v,w]=some x/\x.length<900000) ?_ λBy ⟨y9,y10,yh,yn,dX,x,y12,rX,hX,hxl⟩=>?_
 .simp only [Am,↓An,TM,f2,f3,lV,lW,Sq.rox (Af _),Sq.roaN (Af _),xY.rox (Af _),TX.rox (Af _)]
  refine Ge rfl (Tf ?_)
  simp only [bR,Ao,Aq]
  refine RQ k es1.nx _ _ _ dV dW v w (by omega) xY TX hv λIh Jr=>?_
  by_cases c1:v=w
  .simp only [Am,↓An,x9,Z4,lL,Ai c1]
   exact ⟨Jr,by omega,dV,v,rfl,rV,by rw [CP,Ah (.inl c1)],hv⟩
  .simp only [Am,↓An,TM,Ad c1,f1,f3,lU,lW,Jr,Sq.rox (Af _),Sq.roaN (Af _),M2.rox (Af _),TX.rox (Af _)]
   refine Ge rfl (Tf ?_)
   simp only [bR,Ao,Aq]
   refine RQ k es1.nx _ _ _ dU dW u w (by omega) M2 TX hu λnC Xd=>?_
   by_cases c2:u=w
   .simp only [Am,↓An,x9,Z4,lL,Ai c2,Xd]
    exact ⟨by omega,dV,v,rfl,rV,by rw [CP,Ah (.inr c2)],hv⟩
   .simp only [Am,↓An,TM,Ad c2,Xd,f1,f2,lU,lV,Sq.rox (show es1.nx<=nC by omega),Sq.roaN (show es1.nx<=nC by omega),M2.rox (show es1.nx<=nC by omega),xY.rox (show es1.nx<=nC by omega)]
    refine Ge rfl (Tf ?_)
    simp only [bR,Ao,Aq]
    refine RQ k es1.nx _ _ _ dU dV u v (by omega) M2 xY hu λVj Vp=>?_
    by_cases c3:u=v
    .simp only [Am,↓An,x9,Z4,TM,Ai c3,Vp,f3,lW]
     exact ⟨by omega,dW,w,rfl,rW,by rw [CP,Ae (λh=>h.elim c1 c2),Ah c3],hw⟩
    .simp only [Am,↓An,Ad c3,Vp]
     have VK:es1.hp.get bx=_:=(Qt bx (by have:=hJ.d;omega)).trans hJ.x
     have hga:es1.hp.get ba=_:=(Qt ba (by have:=hJ.d;omega)).trans hJ.a
     have Xu:es1.hp.get be=_:=(Qt be (by have:=hJ.d;omega)).trans hJ.e
     refine sJ (cs:=[Bv,Bv,Bv]) rfl ?_
     simp only [Am,↓An,Z4]
     refine Dt (YI k es1.nx _ _ _ a p (by omega) (iG.mono λj hj=>(Po j hj).1) (.inl eR) (by omega) λIj jr a' Ls gK LY _=>?_)
     have aFr:=Ls.le
     have cQ:=hJ.d
     have Rb:=hJ.m
     have iH:=hJ.b
     have gx7:=(Ls.same bx (by have:=iH bx Rb.2.1;omega)).trans VK
     simp only [Am,↓An]
     refine Oi (n:=3) (id:=bx) (ds:=[Bv,Bv,Bv]) (by simp only [bR,x6]) gx7 (by simp only [Di,bR];rfl) rfl rfl λJg Pn Mm=>?_
     simp only [bR] at Pn Mm
     have GG:=(gK.rlF LY).keep (Ap:=Jg) λj hj=>Mm j (by have:=iH bx Rb.2.1;have:=hj.1;omega)
     have ga9:Jg.get ba=_:=(Mm ba (by omega)).trans ((Ls.same ba (by have:=iH ba Rb.2.2.1;omega)).trans hga)
     simp only [Am,↓An]
     refine Pt (id:=ba) (off:=0) (by simp only [bR,x7]) ga9 (by simp only [Di,bR];exact GG.live) GG.ok (by simp) λJx Yg Kf=>?_
     simp only [bR] at Yg Kf
     have tn:Jx.get be=_:=(Kf be (by omega)).trans ((Mm be (by omega)).trans ((Ls.same be (by have:=iH be Rb.2.2.2.1;omega)).trans Xu))
     simp only [Am,↓An]
     refine Pt (id:=be) (off:=0) (v:=iv 19) (by simp only [bR,x8]) tn (by rfl) ⟨rfl,rfl⟩ (by simp) λOu cM Nv=>?_
     simp only [bR] at cM Nv
     simp only [Am,↓An]
     have hc:∀ j,j<es1.nx->j≠bx->j≠ba->j≠be->Ou.get j=es1.hp.get j:=λj hj h1 h2 h3=>by rw [Nv j h3,Kf j h2,Mm j h1,Ls.same j (by omega)]
     have VX:=iH L Rb.1
     refine ⟨lp,(hc L VX (by omega) (by omega) (by omega)).trans mJ,sy _ _ (λj=>M j\/(es1.nx<=j/\j<jr)) (by omega) (λj hj hm=>?_) (λj hj=>hj.imp id λh=>h.1) ⟨⟨_,by rw [Tr.get_set,Ah rfl],by simp,rfl⟩,?_,⟨a',p,?_,?_,B80 hJ.n _ _ (by rw [CP,Ae (λh=>h.elim c1 c2),Ae c3])⟩,?_,λj hj=>?_⟩⟩
     .rw [Tr.get_set,Ae (show ¬ L=j from λe=>hm (e ▸ Rb.1)),hc j hj (λe=>hm (e ▸ Rb.2.1)) (λe=>hm (e ▸ Rb.2.2.1)) (λe=>hm (e ▸ Rb.2.2.2.1)),Qt j (λe=>hm (e ▸ Rb.1))]
     .rw [Tr.get_set,Ae (by omega),Nv bx (by omega),Kf bx (by omega)];exact Pn
     .rw [Tr.get_set,Ae (by omega),Nv ba (by omega)];exact Yg
     .have B5:=iH bx Rb.2.1
      have bC:=iH ba Rb.2.2.1
      have aZ:=iH be Rb.2.2.2.1
      exact (GG.keep λj hj=>by
       have h1:=hj.1
       rw [Tr.get_set,Ae (by omega),Nv j (by omega),Kf j (by omega)]).mono λj hj=>⟨.inr ⟨by have:=hj.1;omega,hj.2⟩,by have:=hj.1;omega⟩
     .rw [Tr.get_set,Ae (by omega)];exact cM
     .rcases hj with h | h
      .have:=iH j h;omega
      .exact h.2
 obtain ⟨sl2,Db,n2⟩:=By
 change Db=es1.hp at yh
 subst yh
 change es1.nx<=n2 at yn
 have cQ:=hJ.d
 have Rb:=hJ.m
 have iH:=hJ.b
 have vN:Ki (W ++ [(p,[u,v,w])])=Ki W++(if x=[] then [] else [⟨p,x⟩]):=by
  unfold Ki
  rw [List.flatMap_append]
  congr 1
  show Sn (p,[u,v,w]) ++ []=_
  rw [Bu]
  unfold Sn
  rw [hX]
 have Hu:∀ e∈W ++ [(p,[u,v,w])],Lp e.2≠none:=λe he=>by
  rcases Bo.1 he with he | he
  .exact hJ.n e he
  .rw [Bk.1 he,hX];simp
 have Is:∀ (H:Tr DObj) (o:DObj) j,j≠L->(H.set L (some o)).get j=H.get j:=λH o j hj=>by rw [Tr.get_set,Ae (Hj hj)]
 have hzL:∀ j∈zz.refs,j≠L:=λj hj=>by have:=(hJ.z j hj).1;omega
 have ly:OL rCell es1.hp P zz (Ki W):=hJ.c.keep λj hj=>Qt j (hj.elim (BA j) (hzL j))
 by_cases hx:x=[]
 .subst hx
  rw [Ah rfl,Bu] at vN
  simp only [Am,↓An,y12,rX.len,Md,show decide ((0:Int)<0)=false from rfl]
  refine ⟨lp,mJ,BB _ _ M zz yn (λj hj hm=>?_) (λj hj=>.inl hj) ?_⟩
  .rw [Is _ _ j (λe=>hm (e ▸ Rb.1))];exact Qt j λe=>hm (e ▸ Rb.1)
  .have g1:∀ j,j≠L->(es1.hp.set L (some (.loop { lp with st:=.ready,pend:=none }))).get j=hp.get j:=λj hj=>(Is _ _ j hj).trans (Qt j hj)
   exact ⟨by rw [Tr.get_set,Ah rfl,Ze],(g1 bx (by omega)).trans hJ.x,(g1 ba (by omega)).trans hJ.a,(g1 be (by omega)).trans hJ.e,(g1 bo (by omega)).trans hJ.o,by rw [vN];exact hJ.c.keep λj hj=>g1 j (hj.elim (BA j) (hzL j)),Hu,hJ.z,Rb,cQ,λj hj=>Br (iH j hj) yn,hJ.s⟩
 .have hgo:es1.hp.get bo=_:=(Qt bo (by omega)).trans hJ.o
  rw [Ae hx] at vN
  have h0:0<x.length:=List.length_pos_iff.2 hx
  have U0:RL rInt es1.hp P a p:=iG
  simp only [Am,↓An,y9,y10,y12,rX.len,show (0:Int)<(x.length:Int) from Xr.2 h0,Of hgo]
  refine sJ (cs:=[a,dX]) (by simp only [Ao,Aq,Dh,bR,bP,U0.live,rX.live];exact CT U0.ok rX.ok) ?_
  simp only [↓An]
  refine jF (fl:=[a,dX]) rfl (by simp only [Ao,Aq,Dh,bR,bP,Kl U0 rX];exact zk (z:=[.slice none 0 0,.slice none 0 0]) rfl) λDu Pf Hd=>?_
  simp only [bR] at Pf Hd
  have OT:∀ j,P j->j<n2:=λj hj=>by have:=(Po j hj).1;omega
  have A1:∀ j∈zz.refs,j<es1.nx:=λj hj=>iH j (hJ.z j hj).2
  have o5:=ly.keep (Ap:=Du) λj hj=>Hd j (hj.elim (λh=>by have:=OT j h;omega) λh=>by have:=A1 j h;omega)
  have a5:=U0.keep (Ap:=Du) λj hj=>Hd j (by have:=OT j hj;omega)
  have x5:=rX.keep (Ap:=Du) λj hj=>Hd j (by have:=OT j hj;omega)
  have hlen:=XR W
  simp only [Am,↓An]
  refine fL (R:=rCell) (p:=P) (p2:=P) (d:=zz) (d2:=.ms n2 0 1 2) (l:=Ki W) (m:=[⟨p,x⟩]) (by simp only [bR,bP]) o5 (by simp only [Dh,bR,bP];exact eK Pf) (BT (R:=rCell) (x:=⟨p,x⟩) Pf (rCell_rd.2 ⟨a,dX,rfl,a5,x5⟩)) rfl rfl (by rw [Cc];omega) (by decide) λGa Nk h6=>?_
  simp only [bR] at Nk h6
  have o6:=h6 P (λj hj=>by
   have hj:P j:=hj.elim id id
   exact ⟨hj,by have:=OT j hj;omega,λh=>(Po j hj).2 (hJ.z j h).2⟩)
  have k6:∀ j,j<es1.nx->j∉zz.refs->Ga.get j=es1.hp.get j:=λj hj h=>by rw [Nk j (by omega) h,Hd j (by omega)]
  have kF:=iH bo Rb.2.2.2.2
  have qh:Ga.get bo=_:=(k6 bo kF λh=>by have:=(hJ.z bo h).1;omega).trans hgo
  obtain ⟨_,_,um,nH,_⟩:=o6.get
  simp only [Am,↓An]
  refine Pt (id:=bo) (off:=0) (by simp only [bR,y9]) qh (by simp only [Di,bR];exact eK nH) (bL _ _ _ _) (by simp) λIj Mt If=>?_
  simp only [bR] at Mt If
  simp only [Am,↓An]
  have k7:∀ j,j<es1.nx->j≠bo->j∉zz.refs->Ij.get j=es1.hp.get j:=λj hj h1 h2=>by rw [If j h1,k6 j hj h2]
  have VX:=iH L Rb.1
  have UP:∀ j,j<=L->j∉zz.refs:=λj hj h=>by have:=(hJ.z j h).1;omega
  refine ⟨lp,(k7 L VX (by omega) (UP L (Af _))).trans mJ,BB _ _ (λj=>M j\/(es1.nx<=j/\j<n2+1+1)) (.ms (n2+1) 0 (Ki W ++ [(⟨p,x⟩:PCell)]).length 2) (by omega) (λj hj hm=>?_) (λj hj=>hj.imp id λh=>h.1) ?_⟩
  .rw [Is _ _ j (λe=>hm (e ▸ Rb.1)),k7 j hj (λe=>hm (e ▸ Rb.2.2.2.2)) (λh=>hm (hJ.z j h).2)]
   exact Qt j λe=>hm (e ▸ Rb.1)
  .have g1:∀ j,j<es1.nx->j≠L->j≠bo->j∉zz.refs->(Ij.set L (some (.loop { lp with st:=.ready,pend:=none }))).get j=hp.get j:=λj hj h1 h2 h3=>(Is _ _ j h1).trans ((k7 j hj h2 h3).trans (Qt j h1))
   refine ⟨by rw [Tr.get_set,Ah rfl,Ze],(g1 bx (by omega) (by omega) (by omega) (UP bx (by omega))).trans hJ.x,(g1 ba (by omega) (by omega) (by omega) (UP ba (by omega))).trans hJ.a,(g1 be (by omega) (by omega) (by omega) (UP be (by omega))).trans hJ.e,(Is _ _ bo (by omega)).trans Mt,?_,Hu,λj hj=>?_,⟨.inl Rb.1,.inl Rb.2.1,.inl Rb.2.2.1,.inl Rb.2.2.2.1,.inl Rb.2.2.2.2⟩,cQ,λj hj=>?_,hJ.s⟩
   .rw [vN]
    refine o6.keep λj hj=>?_
    rw [Is _ _ j,If j]
    .rcases hj with hj | hj
     .exact λe=>(Po j hj).2 (e ▸ Rb.2.2.2.2)
     .have:j=n2+1:=by simpa [DV.refs] using hj
      omega
    .rcases hj with hj | hj
     .exact BA j hj
     .have:j=n2+1:=by simpa [DV.refs] using hj
      omega
   .have:j=n2+1:=by simpa [DV.refs] using hj
    exact ⟨by omega,.inr ⟨by omega,by omega⟩⟩
   .rcases hj with h | h
    .have:=iH j h;omega
    .exact h.2
end
end Go.DD

/- Contracts: the program's merge. Conditions: those that each theorem states. -/
namespace Go.DD
open Go Go.Proofs
def jv:PArr:=⟨[],[],[]⟩
def Hw(b x y:PArr):List (List Int×List (List PVal)):=Gc [b.cells,x.cells,y.cells]
def Rf(b x y:PArr):Int:=if (Ff b≠0\/Ff x≠0)\/Ff y≠0 then 2 else if Vx b x=false\/Vx b y=false then 13 else if Rm (Hw b x y)=none then 0 else 19
def bF(b x y:PArr):PArr:=if Rf b x y=0 then ⟨b.dims,b.attrs,Ki (Hw b x y)⟩ else jv
def I2(b x y:PArr):List Int:=if Rf b x y=19 then (Rm (Hw b x y)).getD [] else []
theorem Az5{W:List (List Int×List (List PVal))}(h:∀ w∈W,Lp w.2≠none):Rm W=none:=by
 unfold Rm
 rw [Rl.2 λx hx=>?_]
 .rfl
 .cases hv:Lp x.2 with
  | none=>exact absurd hv (h x hx)
  | some v=>simp
theorem B81{W V:List (List Int×List (List PVal))}{p:List Int}(h:W <+: V)(hp:Rm W=some p):Rm V=some p:=by
 obtain ⟨T,rfl⟩:=h
 unfold Rm at hp ⊢
 rw [List.find?_append]
 cases e:W.find? λw=>(Lp w.2).isNone with
 | none=>rw [e] at hp;cases hp
 | some w=>rw [e] at hp;exact hp
theorem Rows.three{R:Rep (List PCell)}{hp:Tr DObj}{p:Nat->Prop}{a b c:DV}{x y z:List PCell}(h1:R.rd hp p [a] x)(h2:R.rd hp p [b] y)(h3:R.rd hp p [c] z):Rows R hp p [a,b,c] [x,y,z]:=⟨[a],[b,c],rfl,h1,[b],[c],rfl,h2,[c],[],rfl,h3,rfl⟩
theorem Cy3{z:Value}{a b c:DV}(h1:a.okC=true/\a.cells=[a])(h2:b.okC=true/\b.cells=[b])(h3:c.okC=true/\c.cells=[c]):Hi (List.replicate 3 ([z].map DV.v)).flatten [(0,1,a),(1,1,b),(2,1,c)]=some [a,b,c]:=by
 simp [Hi,h1.1,h1.2,h2.1,h2.2,h3.1,h3.2]
section
variable (k n0:Nat) (hp:Tr DObj) (nx:Nat) (K:DV->Tr DObj->Nat->Prop)
theorem Cy4{es1:ES}{Q:Exit->ES->Prop}(bx ba be bo br bw:Nat)(l1 l2 l3:List PCell)(hn:n0<=bx)(hd:bx<ba/\ba<be/\be<bo/\bo<br/\br<bw/\bw<es1.nx)
  (Jk:RL rCells es1.hp (λj=>j<n0\/j=br) (.ms br 0 3 1) [l1,l2,l3]) (hl:l1.length+l2.length+l3.length<=256)
  (hc:∀ c,c∈l1\/c∈l2\/c∈l3->c.pos≠[]/\c.pos.length<900000/\c.vals≠[]/\c.vals.length<900000)
  (gx:es1.hp.get bx=some (.row 26 [Bv,Bv,Bv])) (ga:es1.hp.get ba=some (.row 36 [Bv])) (ge:es1.hp.get be=some (.row 32 [iv 0])) (go:es1.hp.get bo=some (.row 24 [Bv]))
  (gw:es1.hp.get bw=some (.row 201 [.ms br 0 3 1])) (b6:Ac es1 (.t (.r (.r .o)))=.pt bx 0) (b7:Ac es1 (.t (.l (.l (.l .o))))=.pt ba 0) (b8:Ac es1 (.t (.r (.l (.l .o))))=.pt be 0) (b9:Ac es1 (.t (.l (.r (.l .o))))=.pt bo 0) (b47:Ac es1 (.t (.l (.l (.l (.l (.r .o))))))=.fn (.func 138) [.tup [],.pt bw 0])
  (hQ:∀ Ap Ba z,es1.nx<=Ba->(∀ j,j<es1.nx->j≠bx->j≠ba->j≠be->j≠bo->Ap.get j=es1.hp.get j)->Ap.get bx=some (.row 26 [Bv,Bv,Bv])->Ap.get ba=some (.row 36 [Bv])->Ap.get be=some (.row 32 [iv 0])->Ap.get bo=some (.row 24 [z])->RL rCell Ap (Bl Ba) z (Ki (Gc [l1,l2,l3]))->Rm (Gc [l1,l2,l3])=none->Q .normal ⟨es1.sl,Ap,Ba⟩)
  (hR:∀ Ap Ba q p,es1.nx<=Ba->(∀ j,j<es1.nx->j≠bx->j≠ba->j≠be->j≠bo->Ap.get j=es1.hp.get j)->Ap.get bx=some (.row 26 [Bv,Bv,Bv])->Ap.get ba=some (.row 36 [q])->Ap.get be=some (.row 32 [iv 19])->RL rInt Ap (Bw es1.nx Ba) q p->Rm (Gc [l1,l2,l3])=some p->Q .ret ⟨es1.sl,Ap,Ba⟩) :
  EW (cR 105 false (.t (.l (.l (.l (.l (.r .o)))))) [48,49] CR CQ) (kN (k+5)) es1 Q:=by
 have LG:Pl [l1,l2,l3]=l1.length+l2.length+l3.length:=by simp [Pl];omega
 have P4:=λw (hw:w∈Gc [l1,l2,l3])=>Bl3 (n:=Pl [l1,l2,l3]) (hs:=[l1,l2,l3]) w hw
 have uQ:(Gc [l1,l2,l3]).length<=256:=Es CD (by omega)
 have Nx:∀ h∈[l1,l2,l3],∀ c∈h,c∈l1\/c∈l2\/c∈l3:=λh hh c Uq=>by
  simp only [Ak,Ax,or_false] at hh
  rcases hh with rfl | rfl | rfl
  .exact .inl Uq
  .exact .inr (.inl Uq)
  .exact .inr (.inr Uq)
 have Is:∀ (x:Option DObj) j,j≠es1.nx->(es1.hp.set es1.nx x).get j=es1.hp.get j:=λx j hj=>by rw [Tr.get_set,Ae (Hj hj)]
 refine zp (f:=138) (cs:=[.pt bw 0]) ?_ ?_
 .rw [Di,b47]
  exact Wh λid hid=>by
   have:id=bw:=by simpa [DV.refs,DV.refsL] using hid
   rw [this,gw];rfl
 .refine Bl2 k es1.nx bw 201 (.ms br 0 3 1) [l1,l2,l3] (λj=>j<n0\/j=br) (λW M hp nx=>∃ z,MJ es1.sl es1.nx bx ba be bo (λj=>j<n0\/j=br) W M hp nx z) (λW M hp nx=>MS es1.nx bx ba be W M hp nx/\W <+: Gc [l1,l2,l3]) (λj=>j=es1.nx\/j=bx\/j=ba\/j=be\/j=bo) _ _ _ ((Is _ _ (by omega)).trans gw) (Jk.keep λj hj=>Is _ j (by rcases hj with h | h <;> omega)) (λj hj=>by rcases hj with h | h <;> exact ⟨by omega,by omega⟩) (by simp) (by simp) (λh hh c Jd=>by obtain ⟨h1,h2,h3,h4⟩:=hc c (Nx h hh c Jd);exact ⟨h1,h2,h3⟩) (by omega) ?_ ?_ ?_ ?_ ?_ ?_ ?_
  .exact ⟨Bv,by rw [Tr.get_set,Ah rfl],(Is _ _ (by omega)).trans gx,(Is _ _ (by omega)).trans ga,(Is _ _ (by omega)).trans ge,(Is _ _ (by omega)).trans go,.nil,λw hw=>by (cases hw),λj hj=>by (cases hj),⟨.inl rfl,.inr (.inl rfl),.inr (.inr (.inl rfl)),.inr (.inr (.inr (.inl rfl))),.inr (.inr (.inr (.inr rfl)))⟩,⟨by omega,by omega,by omega,by omega⟩,λj hj=>by rcases hj with h | h | h | h | h <;> omega,b6,b7,b8,b9⟩
  .exact λW M hp nx ⟨z,h⟩=>h.b
  .exact λW M hp nx ⟨z,h⟩=>⟨h.m.1,_,h.l⟩
  .exact λW M hp nx Ap Ba ⟨z,h⟩ hn hk=>⟨z,h.keep hn hk⟩
  .intro W M hp nx a s p nA K ⟨z,hJ⟩ Ot ha hs lP Po BB sy
   have Ss:(p,nA)∈Gc [l1,l2,l3]:=Ot.subset (by simp)
   obtain ⟨g1,⟨h,hh,c,Jd,g2⟩,g3⟩:=P4 _ Ss
   obtain ⟨u,v,w,rfl⟩:∃ u v w,nA=[u,v,w]:=by
    match nA,g1 with
    | [u,v,w],_=>exact ⟨u,v,w,rfl⟩
   have g2:c.pos=p:=g2
   have cA:=hc c (Nx h hh c Jd)
   have Rn:∀ x∈[u,v,w],x.length<900000:=λx hx=>by
    rcases g3 x hx with rfl | ⟨h,hh,c,Jd,rfl⟩
    .simp
    .exact (hc c (Nx h hh c Jd)).2.2.2
   refine By3 (k+2) hp nx K _ _ _ _ _ _ _ W M a s p u v w z hJ Po ha hs lP (by rw [<- g2];exact cA.1) (by rw [<- g2];exact cA.2.1) (Rn u (by simp)) (Rn v (by simp)) (Rn w (by simp)) ?_ (λAp Ba M' z' h1 h2 h3 h4=>BB Ap Ba M' h1 h2 h3 ⟨z',h4⟩) (λAp Ba M' h1 h2 h3 h4=>sy Ap Ba M' h1 h2 h3 ⟨h4,Ot⟩)
   have:=Ot.length_le
   rw [Bp] at this
   omega
  .intro Ap Ba M' uW Xh vQ ⟨z,hJ⟩
   have Lm:∀ j,j≠es1.nx->(Ap.set es1.nx none).get j=Ap.get j:=λj hj=>by rw [Tr.get_set,Ae (Hj hj)]
   refine ⟨_,hJ.l,by simp,.inl ⟨rfl,?_⟩⟩
   have AG:RL rCell (Ap.set es1.nx none) (Bl Ba) z (Ki (Gc [l1,l2,l3])):=(hJ.c.rl.keep λj hj=>Lm j ?_).mono λj hj=>?_
   .refine hQ _ _ z (by omega) (λj hj h1 h2 h3 h4=>?_) ((Lm _ (by omega)).trans hJ.x) ((Lm _ (by omega)).trans hJ.a) ((Lm _ (by omega)).trans hJ.e) ((Lm _ (by omega)).trans hJ.o) AG (Az5 hJ.n)
    rw [Lm j (by omega),Xh j (by omega) (by omega),Is _ j (by omega)]
   .rcases hj with (hj | hj) | hj
    .omega
    .omega
    .have:=(hJ.z j hj).1;omega
   .rcases hj with (hj | hj) | hj
    .show j<Ba;omega
    .show j<Ba;omega
    .exact hJ.b j (hJ.z j hj).2
  .intro W Ap Ba M' uW Xh vQ ⟨hS,Ot⟩
   have Lm:∀ j,j≠es1.nx->(Ap.set es1.nx none).get j=Ap.get j:=λj hj=>by rw [Tr.get_set,Ae (Hj hj)]
   obtain ⟨lp,bD,Yf,hl3⟩:=hS.l
   obtain ⟨q,p,iG,iF,dF⟩:=hS.a
   refine ⟨_,bD,Yf,.inr (.inl ⟨hl3,?_⟩)⟩
   refine hR _ _ q p (by omega) (λj hj h1 h2 h3 h4=>?_) ((Lm _ (by omega)).trans hS.x) ((Lm _ (by omega)).trans iG) ((Lm _ (by omega)).trans hS.e) ((iF.keep λj hj=>Lm j (by have:=hj.2;omega)).mono λj hj=>⟨by have:=hj.2;omega,hS.b j hj.1⟩) (B81 Ot dF)
   rw [Lm j (by omega),Xh j (by omega) (by omega),Is _ j (by omega)]
end
end Go.DD

/- Contracts: the program's Merged. Conditions: those that each theorem states. -/
namespace Go.DD
open Go Go.Proofs
theorem Co7{l:List (List PVal)}{v:List PVal}(h:Lp l=some v):v∈l:=by
 unfold Lp at h
 split at h
 .rename_i x y z
  split at h
  .cases h;simp
  .split at h
   .cases h;simp
   .cases h
 .cases h
theorem By4{W:List (List Int×List (List PVal))}{c:PCell}(h:c∈Ki W):∃ w∈W,c.pos=w.1/\c.vals∈w.2/\c.vals≠[]:=by
 obtain ⟨w,hw,hc⟩:=Gn.1 h
 refine ⟨w,hw,?_⟩
 unfold Sn at hc
 split at hc
 .rename_i v e
  split at hc
  .cases hc
  .rename_i hv
   obtain rfl:=Bk.1 hc
   exact ⟨rfl,Co7 e,hv⟩
 .cases hc
theorem XQ:∀ {W:List (List Int×List (List PVal))},W.Pairwise (λa b=>Cd a.1 b.1 = -1)->Srt (Ki W)
 | [],_=>.nil
 | w::W,h=>by
  obtain ⟨h1,h2⟩:=Dj.1 h
  have ih:=XQ h2
  show Srt (Sn w++Ki W)
  have h3:∀ c∈Sn w,c.pos=w.1:=λc hc=>by
   unfold Sn at hc
   split at hc
   .split at hc
    .cases hc
    .rw [Bk.1 hc]
   .cases hc
  refine Pj.2 ⟨?_,ih,λc hc e he=>?_⟩
  .unfold Sn
   split
   .split
    .exact .nil
    .exact List.pairwise_singleton _ _
   .exact .nil
  .obtain ⟨w',bU,e1,_⟩:=By4 he
   rw [h3 c hc,e1];exact h1 w' bU
theorem Bl5{l:List PCell}{p:List Int}(h:Kv l p≠[]):∃ c∈l,c.pos=p/\c.vals=Kv l p:=by
 unfold Kv at h ⊢
 cases e:l.find? (λc=>decide (c.pos=p)) with
 | none=>rw [e] at h;exact absurd rfl h
 | some c=>exact ⟨c,List.mem_of_find?_eq_some e,by simpa using List.find?_some e,rfl⟩
theorem Az6{x y:PArr}(h:Vx x y=true):x.dims=y.dims/\x.attrs=y.attrs:=by
 unfold Vx at h
 simpa using h
theorem Bl6{b x y:PArr}(hb:Ff b=0)(hx:Ff x=0)(hy:Ff y=0):∀ c∈Ki (Hw b x y),c∈b.cells\/c∈x.cells\/c∈y.cells:=λc hc=>by
 have hS:∀ h∈[b.cells,x.cells,y.cells],Srt h:=λh hh=>by
  simp only [Ak,Ax,or_false] at hh
  rcases hh with rfl | rfl | rfl
  .exact (Rg hb).1
  .exact (Rg hx).1
  .exact (Rg hy).1
 obtain ⟨w1,w2,w3⟩:=SU (n:=Pl [b.cells,x.cells,y.cells]) hS (Af _)
 obtain ⟨w,hw,e1,e2,e3⟩:=By4 hc
 rw [w3 w hw] at e2
 obtain ⟨h,hh,e4⟩:=Ei.1 e2
 obtain ⟨c',Jd,e5,e6⟩:=Bl5 (l:=h) (p:=w.1) (by rw [e4];exact e3)
 have:c'=c:=by
  obtain ⟨p,v⟩:=c
  obtain ⟨p',v'⟩:=c'
  simp only at e1 e4 e5 e6
  rw [e5,e6,e4,e1]
 subst this
 simp only [Ak,Ax,or_false] at hh
 rcases hh with rfl | rfl | rfl
 .exact .inl Jd
 .exact .inr (.inl Jd)
 .exact .inr (.inr Jd)
theorem By5{b x y:PArr}(hb:Ff b=0)(hx:Ff x=0)(hy:Ff y=0)(h1:Vx b x=true)(h2:Vx b y=true)(hl:b.cells.length+x.cells.length+y.cells.length<=256):Ff ⟨b.dims,b.attrs,Ki (Hw b x y)⟩=0:=by
 obtain ⟨x1,x2⟩:=Az6 h1
 obtain ⟨y1,y2⟩:=Az6 h2
 have hS:∀ h∈[b.cells,x.cells,y.cells],Srt h:=λh hh=>by
  simp only [Ak,Ax,or_false] at hh
  rcases hh with rfl | rfl | rfl
  .exact (Rg hb).1
  .exact (Rg hx).1
  .exact (Rg hy).1
 obtain ⟨w1,_,_⟩:=SU (n:=Pl [b.cells,x.cells,y.cells]) hS (Af _)
 refine A73 (Rg hb).2.2 ?_ (λc hc=>?_) (XQ w1)
 .have h3:=XR (Hw b x y)
  have h4:(Hw b x y).length<=Pl [b.cells,x.cells,y.cells]:=CD
  have h5:Pl [b.cells,x.cells,y.cells]=b.cells.length+x.cells.length+y.cells.length:=by simp [Pl];omega
  show (Ki (Hw b x y)).length<=4096
  omega
 .rcases Bl6 hb hx hy c hc with h | h | h
  .exact (Rg hb).2.1 c h
  .show Gy b.dims b.attrs c=0
   rw [x1,x2];exact (Rg hx).2.1 c h
  .show Gy b.dims b.attrs c=0
   rw [y1,y2];exact (Rg hy).2.1 c h
theorem Cy5{b x y:PArr}(hb:Ff b=0)(hx:Ff x=0)(hy:Ff y=0)(ob:AOK b)(ox:AOK x)(oy:AOK y)(hl:b.cells.length+x.cells.length+y.cells.length<=256):AOK ⟨b.dims,b.attrs,Ki (Hw b x y)⟩:=by
 refine ⟨ob.d,ob.a,?_,λc hc=>?_⟩
 .have h3:=XR (Hw b x y)
  have h4:(Hw b x y).length<=Pl [b.cells,x.cells,y.cells]:=CD
  have h5:Pl [b.cells,x.cells,y.cells]=b.cells.length+x.cells.length+y.cells.length:=by simp [Pl];omega
  show (Ki (Hw b x y)).length<900000
  omega
 .rcases Bl6 hb hx hy c hc with h | h | h
  .exact ob.e c h
  .exact ox.e c h
  .exact oy.e c h
section
variable (k n0:Nat) (hp:Tr DObj) (nx:Nat) (K:DV->Tr DObj->Nat->Prop)
theorem B82(d1 d2 d3:DV)(b x y:PArr)(hn:n0<=nx)(h1:AR hp (Bl n0) d1 b)(h2:AR hp (Bl n0) d2 x)(h3:AR hp (Bl n0) d3 y)(hb:AOK b)(hx:AOK x)(hy:AOK y)(hc:b.cells.length+x.cells.length+y.cells.length<=256)
  (hK:∀ Ap Ba d' p',Al hp nx Ap Ba->AR Ap (Bw nx Ba) d' (bF b x y)->RL rInt Ap (Bw nx Ba) p' (I2 b x y)->K (.tup [d',p',iv (Rf b x y)]) Ap Ba):KW (kN (k+19)) (.fn 20) [d1,d2,d3] hp nx K:=by
 obtain ⟨d,a,c,rfl,r1,r2,r3⟩:=h1
 obtain ⟨d',a',c',rfl,s1,s2,s3⟩:=h2
 obtain ⟨QI,RH,BI,rfl,t1,t2,t3⟩:=h3
 refine zS (Gb (by decide)) t20 (Ab rfl) λes e1 e2 he=>?_
 have a0:Ac es (.t .o)=.agg [d,a,c]:=he 0 _ rfl
 have a1:Ac es (.t (.l .o))=.agg [d',a',c']:=he 1 _ rfl
 have a2:Ac es (.t (.r .o))=.agg [QI,RH,BI]:=he 2 _ rfl
 unfold r20
 subst e1 e2
 simp only [↓An]
 refine Tm (cs:=[d,a,c]) (by rw [Di,a0];exact AR.live r1 r2 r3) λDv Dc Cr=>?_
 simp only [bR] at Dc Cr
 have Em:Al es.hp es.nx Dv (es.nx+1):=⟨by omega,λj hj=>Cr j (by omega)⟩
 simp only [Am,↓An]
 refine Tm (cs:=[d',a',c']) (by simp only [Di,bR,a1];exact AR.live (s1.ka hn Em) (s2.ka hn Em) (s3.ka hn Em)) λDb Gv Fj=>?_
 simp only [bR] at Gv Fj
 have Cq:Al es.hp es.nx Db (es.nx+1+1):=⟨by omega,λj hj=>by rw [Fj j (by omega),Cr j (by omega)]⟩
 simp only [Am,↓An]
 refine Tm (cs:=[QI,RH,BI]) (by simp only [Di,bR,a2];exact AR.live (t1.ka hn Cq) (t2.ka hn Cq) (t3.ka hn Cq)) λHe Lx Jh=>?_
 simp only [bR] at Lx Jh
 simp only [Am,↓An]
 refine Oe λHo Ov Ha=>?_
 simp only [bR] at Ov Ha
 simp only [Am,↓An]
 refine Oe λDu Pf Hd=>?_
 simp only [bR] at Pf Hd
 simp only [Am,↓An]
 refine Oe λGa aO Nk=>?_
 simp only [bR] at aO Nk
 have Lu:Al es.hp es.nx Ga (es.nx+1+1+1+1+1+1):=⟨by omega,λj hj=>by rw [Nk j (by omega),Hd j (by omega),Ha j (by omega),Jh j (by omega),Cq.same j hj]⟩
 have q1:Ga.get es.nx=some (.row 26 [d,a,c]):=by rw [Nk _ (by omega),Hd _ (by omega),Ha _ (by omega),Jh _ (by omega),Fj _ (by omega),Dc]
 have q2:Ga.get (es.nx+1)=some (.row 26 [d',a',c']):=by rw [Nk _ (by omega),Hd _ (by omega),Ha _ (by omega),Jh _ (by omega),Gv]
 have q3:Ga.get (es.nx+1+1)=some (.row 26 [QI,RH,BI]):=by rw [Nk _ (by omega),Hd _ (by omega),Ha _ (by omega),Lx]
 have q4:Ga.get (es.nx+1+1+1)=some (.row 26 [Bv,Bv,Bv]):=by rw [Nk _ (by omega),Hd _ (by omega)];exact Ov
 have q5:Ga.get (es.nx+1+1+1+1)=some (.row 36 [Bv]):=by rw [Nk _ (by omega)];exact Pf
 have q6:Ga.get (es.nx+1+1+1+1+1)=some (.row 32 [iv 0]):=aO
 have Q5:∀ {Ap Ba},Al es.hp es.nx Ap Ba->AR Ap (Bl n0) (.agg [d,a,c]) b:=λh=>⟨d,a,c,rfl,r1.ka hn h,r2.ka hn h,r3.ka hn h⟩
 have UU:∀ {Ap Ba},Al es.hp es.nx Ap Ba->AR Ap (Bl n0) (.agg [d',a',c']) x:=λh=>⟨d',a',c',rfl,s1.ka hn h,s2.ka hn h,s3.ka hn h⟩
 have hrC:∀ {Ap Ba},Al es.hp es.nx Ap Ba->AR Ap (Bl n0) (.agg [QI,RH,BI]) y:=λh=>⟨QI,RH,BI,rfl,t1.ka hn h,t2.ka hn h,t3.ka hn h⟩
 have pW:(Ff b≠0\/Ff x≠0)\/Ff y≠0->Rf b x y=2:=λh=>by unfold Rf;rw [Ah h]
 have MW:¬ ((Ff b≠0\/Ff x≠0)\/Ff y≠0)->(Vx b x=false\/Vx b y=false)->Rf b x y=13:=λh h2=>by unfold Rf;rw [Ae h,Ah h2]
 -- what is returned without a merge
 have stop:∀ {es1:ES} (e:Int),Rf b x y=e->e≠0->e≠19->Al es.hp es.nx es1.hp es1.nx->es.nx+6<=es1.nx->Ac es1 (.t (.r (.r .o)))=.pt (es.nx+1+1+1) 0->Ac es1 (.t (.l (.l (.l .o))))=.pt (es.nx+1+1+1+1) 0->Ac es1 (.t (.r (.l (.l .o))))=.pt (es.nx+1+1+1+1+1) 0->es1.hp.get (es.nx+1+1+1)=some (.row 26 [Bv,Bv,Bv])->es1.hp.get (es.nx+1+1+1+1)=some (.row 36 [Bv])->es1.hp.get (es.nx+1+1+1+1+1)=some (.row 32 [iv e])->∃ d b g,Np es1 (6,some (some 3))=some d/\Np es1 (7,some none)=some b/\Np es1 (8,some none)=some g/\K (.tup [d,b,g]) es1.hp es1.nx:=by
  intro es1 e he h0 h19 Ql hle x6 x7 x8 g6 g7 g8
  have hA:bF b x y=jv:=by unfold bF;rw [he,Ae h0]
  have hP:I2 b x y=[]:=by unfold I2;rw [he,Ae h19]
  refine ⟨_,_,_,sE (by simp only [bP,x6]) g6 rfl,I3 (by simp only [bP,x7]) g7,I3 (by simp only [bP,x8]) g8,?_⟩
  rw [<- he]
  refine hK _ _ _ _ Ql ?_ ?_
  .rw [hA];exact ⟨Bv,Bv,Bv,rfl,.nil,.nil,.nil⟩
  .rw [hP];exact .nil
 obtain ⟨_,_,_,_,lA6⟩:=Mh q1
 simp only [Am,↓An,lA6]
 refine Dt (Y6 (k:=k+11) n0 _ _ _ _ b (by omega) (Q5 Lu) hb λIj nC Ls=>?_)
 have Xd:=Ls.le
 have AV:=Lu.trans Ls
 have k7:∀ j,j<es.nx+1+1+1+1+1+1->Ij.get j=Ga.get j:=λj hj=>Ls.same j hj
 obtain ⟨_,_,_,_,lB7⟩:=Mh ((k7 (es.nx+1) (by omega)).trans q2)
 by_cases c1:Ff b=0
 .simp only [Am,↓An,show decide (¬ Ff b=0)=false by simp [c1],lB7]
  refine Dt (Y6 (k:=k+11) n0 _ _ _ _ x (by omega) (UU AV) hx λLq Vj Lr=>?_)
  have Vp:=Lr.le
  have U8:=AV.trans Lr
  have k8:∀ j,j<es.nx+1+1+1+1+1+1->Lq.get j=Ga.get j:=λj hj=>(Lr.same j (by omega)).trans (k7 j hj)
  obtain ⟨_,_,_,_,lC8⟩:=Mh ((k8 (es.nx+1+1) (by omega)).trans q3)
  by_cases c2:Ff x=0
  .simp only [Am,↓An,show decide (¬ Ff x=0)=false by simp [c2],lC8]
   refine Dt (Y6 (k:=k+11) n0 _ _ _ _ y (by omega) (hrC U8) hy λJg Jl qZ=>?_)
   have uY:=qZ.le
   have sW:=U8.trans qZ
   have k9:∀ j,j<es.nx+1+1+1+1+1+1->Jg.get j=Ga.get j:=λj hj=>(qZ.same j (by omega)).trans (k8 j hj)
   obtain ⟨_,_,_,_,lA9⟩:=Mh ((k9 es.nx (by omega)).trans q1)
   obtain ⟨_,_,_,_,kj⟩:=Mh ((k9 (es.nx+1) (by omega)).trans q2)
   by_cases c3:Ff y=0
   .simp only [Am,↓An,show decide (¬ Ff y=0)=false by simp [c3],lA9,kj]
    refine Dt (Bl1 (k:=k+16) n0 _ _ _ _ _ b x (by omega) (Q5 sW) (UU sW) hb λJx IV Xi=>?_)
    have C0:=Xi.le
    have rG:=sW.trans Xi
    have lO:∀ j,j<es.nx+1+1+1+1+1+1->Jx.get j=Ga.get j:=λj hj=>(Xi.same j (by omega)).trans (k9 j hj)
    have Sw:¬ ((Ff b≠0\/Ff x≠0)\/Ff y≠0):=by simp [c1,c2,c3]
    obtain ⟨_,_,_,_,km⟩:=Mh ((lO es.nx (by omega)).trans q1)
    obtain ⟨_,_,_,_,ki⟩:=Mh ((lO (es.nx+1+1) (by omega)).trans q3)
    cases c4:decide (b.dims=x.dims)&&decide (b.attrs=x.attrs) with
    | false=>
     simp only [Am,↓An]
     refine sJ (cs:=[Bv,Bv,Bv]) rfl ?_
     simp only [Am,↓An]
     refine Oi (n:=3) (id:=es.nx+1+1+1) (ds:=[Bv,Bv,Bv]) (by simp only [bR]) ((lO _ (by omega)).trans q4) (by simp only [Di,bR];rfl) rfl rfl λhA Qk Tk=>?_
     simp only [bR] at Qk Tk
     simp only [Am,↓An]
     refine Pt (id:=es.nx+1+1+1+1) (off:=0) (v:=Bv) (by simp only [bR]) ((Tk _ (by omega)).trans ((lO _ (by omega)).trans q5)) (by rfl) ⟨rfl,rfl⟩ (by simp) λhB Uo Qj=>?_
     simp only [bR] at Uo Qj
     simp only [Am,↓An]
     refine Pt (id:=es.nx+1+1+1+1+1) (off:=0) (v:=iv 13) (by simp only [bR]) ((Qj _ (by omega)).trans ((Tk _ (by omega)).trans ((lO _ (by omega)).trans q6))) (by rfl) ⟨rfl,rfl⟩ (by simp) λhC cK Tj=>?_
     simp only [bR] at cK Tj
     simp only [Am,↓An]
     exact stop 13 (MW Sw (.inl c4)) (by decide) (by decide) ⟨by have:=rG.le;exact this,λj hj=>by rw [Tj j (by omega),Qj j (by omega),Tk j (by omega),rG.same j hj]⟩ (by show es.nx+6<=IV;omega) (by simp only [bR]) (by simp only [bR]) (by simp only [bR]) ((Tj _ (by omega)).trans ((Qj _ (by omega)).trans Qk)) ((Tj _ (by omega)).trans Uo) cK
    | true=>
     simp only [Am,↓An,km,ki]
     refine Dt (Bl1 (k:=k+16) n0 _ _ _ _ _ b y (by omega) (Q5 rG) (hrC rG) hb λOu Wu rE=>?_)
     have aFx:=rE.le
     have V1:=rG.trans rE
     have O9:∀ j,j<es.nx+1+1+1+1+1+1->Ou.get j=Ga.get j:=λj hj=>(rE.same j (by omega)).trans (lO j hj)
     cases c5:decide (b.dims=y.dims)&&decide (b.attrs=y.attrs) with
     | false=>
      simp only [Am,↓An]
      refine sJ (cs:=[Bv,Bv,Bv]) rfl ?_
      simp only [Am,↓An]
      refine Oi (n:=3) (id:=es.nx+1+1+1) (ds:=[Bv,Bv,Bv]) (by simp only [bR]) ((O9 _ (by omega)).trans q4) (by simp only [Di,bR];rfl) rfl rfl λhA Qk Tk=>?_
      simp only [bR] at Qk Tk
      simp only [Am,↓An]
      refine Pt (id:=es.nx+1+1+1+1) (off:=0) (v:=Bv) (by simp only [bR]) ((Tk _ (by omega)).trans ((O9 _ (by omega)).trans q5)) (by rfl) ⟨rfl,rfl⟩ (by simp) λhB Uo Qj=>?_
      simp only [bR] at Uo Qj
      simp only [Am,↓An]
      refine Pt (id:=es.nx+1+1+1+1+1) (off:=0) (v:=iv 13) (by simp only [bR]) ((Qj _ (by omega)).trans ((Tk _ (by omega)).trans ((O9 _ (by omega)).trans q6))) (by rfl) ⟨rfl,rfl⟩ (by simp) λhC cK Tj=>?_
      simp only [bR] at cK Tj
      simp only [Am,↓An]
      exact stop 13 (MW Sw (.inr c5)) (by decide) (by decide) ⟨by have:=V1.le;exact this,λj hj=>by rw [Tj j (by omega),Qj j (by omega),Tk j (by omega),V1.same j hj]⟩ (by show es.nx+6<=Wu;omega) (by simp only [bR]) (by simp only [bR]) (by simp only [bR]) ((Tj _ (by omega)).trans ((Qj _ (by omega)).trans Qk)) ((Tj _ (by omega)).trans Uo) cK
     | true=>
      simp only [Am,↓An]
      refine Oe λaG NX NF=>?_
      simp only [bR] at NX NF
      have k12:∀ j,j<Wu->aG.get j=Ou.get j:=λj hj=>NF j (by omega)
      have V0:Al es.hp es.nx aG (Wu+1):=⟨by omega,λj hj=>by rw [k12 j (by omega),V1.same j hj]⟩
      have Z8:∀ j,j<es.nx+1+1+1+1+1+1->aG.get j=Ga.get j:=λj hj=>(k12 j (by omega)).trans (O9 j hj)
      obtain ⟨⟨_,_,fA⟩,_,_,lA,_⟩:=Mh ((Z8 es.nx (by omega)).trans q1)
      obtain ⟨⟨_,_,fB⟩,_,_,lB,_⟩:=Mh ((Z8 (es.nx+1) (by omega)).trans q2)
      obtain ⟨⟨_,_,fC⟩,_,_,lC,_⟩:=Mh ((Z8 (es.nx+1+1) (by omega)).trans q3)
      have u1:=r3.ka hn V0
      have u2:=s3.ka hn V0
      have u3:=t3.ka hn V0
      simp only [Am,↓An,fA,fB,fC,lA,lB,lC]
      refine jF (fl:=[c,c',BI]) rfl (by simp only [Ao,Aq,Dh,bR,bP,u1.live,u2.live,u3.live];exact Cy3 u1.ok u2.ok u3.ok) λQ8 qO aN=>?_
      simp only [bR] at qO aN
      have u1':=u1.keep λj (hj:j<n0)=>aN j (by omega)
      have u2':=u2.keep λj (hj:j<n0)=>aN j (by omega)
      have u3':=u3.keep λj (hj:j<n0)=>aN j (by omega)
      have Jk:RL rCells Q8 (λj=>j<n0\/j=Wu+1) (.ms (Wu+1) 0 3 1) [b.cells,x.cells,y.cells]:=(OL.ms (R:=rCells) (p:=Bl n0) (Wu+1) _ [b.cells,x.cells,y.cells] qO (Rows.three ⟨_,rfl,u1'⟩ ⟨_,rfl,u2'⟩ ⟨_,rfl,u3'⟩)).rl.mono λj hj=>hj.imp id λh=>by simpa [DV.refs] using h
      simp only [Am,↓An]
      refine Dt (Bw7 (k+17) _ _ _ _ ⟨rfl,rfl⟩ Jk.live λgH vI mD=>?_)
      have Q1:=Jk.keep (Ap:=gH) λj hj=>mD j (by rcases hj with h | h <;> omega)
      have UD:∀ j,j<Wu+1->gH.get j=aG.get j:=λj hj=>by rw [mD j (by omega),aN j (by omega)]
      have oQ:∀ j,j<es.nx+1+1+1+1+1+1->gH.get j=Ga.get j:=λj hj=>(UD j (by omega)).trans (Z8 j hj)
      simp only [Am,↓An]
      refine Cy4 (k+13) n0 (es.nx+1+1+1) (es.nx+1+1+1+1) (es.nx+1+1+1+1+1) Wu (Wu+1) (Wu+1+1) b.cells x.cells y.cells (by omega) ⟨by omega,by omega,by omega,by omega,by omega,by simp only [];omega⟩ Q1 (by omega) ?_ ((oQ _ (by omega)).trans q4) ((oQ _ (by omega)).trans q5) ((oQ _ (by omega)).trans q6) ((UD _ (by omega)).trans NX) vI (by simp only [bR]) (by simp only [bR]) (by simp only [bR]) (by simp only [bR]) (by simp only [bR]) ?_ ?_
      .intro e he
       rcases he with he | he | he
       .exact ⟨Z0 c1 e he,(hb.e e he).1,nY c1 e he,(hb.e e he).2.1⟩
       .exact ⟨Z0 c2 e he,(hx.e e he).1,nY c2 e he,(hx.e e he).2.1⟩
       .exact ⟨Z0 c3 e he,(hy.e e he).1,nY c3 e he,(hy.e e he).2.1⟩
      .intro gG Tp z pT cO V9 W1 W0 tk AG hX
       simp only [bR] at pT cO
       have hE:Rf b x y=0:=by unfold Rf;rw [Ae Sw,Ae (λh=>h.elim (λh=>by rw [show Vx b x=true from c4] at h;cases h) λh=>by rw [show Vx b y=true from c5] at h;cases h),Ah (show Rm (Hw b x y)=none from hX)]
       have UC:∀ j,j<es.nx+1+1+1->gG.get j=Ga.get j:=λj hj=>(cO j (by omega) (by omega) (by omega) (by omega) (by omega)).trans (oQ j (by omega))
       have U9:Al es.hp es.nx gG Tp:=⟨by omega,λj hj=>(UC j (by omega)).trans (Lu.same j hj)⟩
       obtain ⟨⟨PU,PT,_⟩,JY,JX,_,_⟩:=Mh ((UC es.nx (by omega)).trans q1)
       simp only [Am,↓An,PU,PT,JY,JX,Of tk]
       have OT:∀ {p:Nat->Prop},(∀ j,p j->j<n0)->∀ j,p j->j<Tp:=λh j hj=>by have:=h j hj;omega
       refine Dt (YW k Tp _ _ _ 8 d a z ⟨b.dims,b.attrs,Ki (Hw b x y)⟩ (Af _) ((r1.ka hn U9).bl (by omega)) ((r2.ka hn U9).bl (by omega)) AG (By5 c1 c2 c3 c4 c5 hc) (Cy5 c1 c2 c3 hb hx hy hc) ?_ λaF Ng d16 dE qY _=>?_)
       .have h3:=XR (Hw b x y)
        have h4:(Hw b x y).length<=Pl [b.cells,x.cells,y.cells]:=CD
        have h5:Pl [b.cells,x.cells,y.cells]=b.cells.length+x.cells.length+y.cells.length:=by simp [Pl];omega
        show (Ki (Hw b x y)).length<=2 ^ 8
        omega
       have NB:=dE.le
       obtain ⟨dd,da,Sb,rfl,v1,v2,v3⟩:=qY
       have x0:Fg aF (.tup [.agg [dd,da,Sb],iv 0]) 0=some (.agg [dd,da,Sb]):=tG λid hid=>by
        have:id∈dd.refs\/id∈da.refs\/id∈Sb.refs:=by simpa [DV.refs,DV.refsL] using hid
        rcases this with h | h | h
        .exact (v1.refs id h).2
        .exact (v2.refs id h).2
        .exact (v3.refs id h).2
       have x1:Fg aF (.tup [.agg [dd,da,Sb],iv 0]) 1=some (iv 0):=Mo
       have tf:=(dE.same _ (by omega)).trans V9
       have tv:=(dE.same _ (by omega)).trans W1
       have tm:=(dE.same _ (by omega)).trans W0
       simp only [Am,↓An,x0,x1]
       refine Oi (n:=3) (id:=es.nx+1+1+1) (ds:=[dd,da,Sb]) (by simp only [bR]) tf (by simp only [Di,bR];exact AR.live (x:=⟨b.dims,b.attrs,Ki (Hw b x y)⟩) v1 v2 v3) rfl rfl λMI qN aM=>?_
       simp only [bR] at qN aM
       simp only [Am,↓An]
       refine Pt (id:=es.nx+1+1+1+1+1) (off:=0) (v:=iv 0) (by simp only [bR]) ((aM _ (by omega)).trans tm) (by simp only [Di,bR];rfl) ⟨rfl,rfl⟩ (by simp) λYb aP aL=>?_
       simp only [bR] at aP aL
       have UK:∀ j,j<es.nx+1+1+1\/Tp<=j->Yb.get j=aF.get j:=λj hj=>by rw [aL j (by omega),aM j (by omega)]
       have V8:Yb.get (es.nx+1+1+1)=_:=(aL _ (by omega)).trans qN
       have tu:Yb.get (es.nx+1+1+1+1)=_:=(aL _ (by omega)).trans ((aM _ (by omega)).trans tv)
       have v1':=(v1.keep (Ap:=Yb) λj hj=>UK j (.inr hj.1)).mono (q:=Bl Ng) λj hj=>hj.2
       have v2':=(v2.keep (Ap:=Yb) λj hj=>UK j (.inr hj.1)).mono (q:=Bl Ng) λj hj=>hj.2
       have v3':=(v3.keep (Ap:=Yb) λj hj=>UK j (.inr hj.1)).mono (q:=Bl Ng) λj hj=>hj.2
       obtain ⟨_,_,_,_,ke⟩:=Mh V8
       simp only [Am,↓An,ke,Of aP,Il (n0:=Ng) (m:=5) V8 (show es.nx+1+1+1<Ng by omega),Il (n0:=Ng) (m:=5) aP (show es.nx+1+1+1+1+1<Ng by omega)]
       refine ⟨AR.rox (x:=⟨b.dims,b.attrs,Ki (Hw b x y)⟩) v1' v2' v3' (Af _),?_⟩
       refine Ge rfl (Oi (n:=3) (id:=es.nx+1+1+1) (ds:=[dd,da,Sb]) (by simp only [bR]) V8 (by simp only [Di,bR];exact AR.live (x:=⟨b.dims,b.attrs,Ki (Hw b x y)⟩) v1' v2' v3') rfl rfl λQ7 NW mC=>?_)
       simp only [bR] at NW mC
       have PG:=(mC (es.nx+1+1+1+1) (by omega)).trans tu
       simp only [Am,↓An,Il (n0:=Ng) (m:=5) PG (show es.nx+1+1+1+1<Ng by omega)]
       refine Ge rfl (Pt (id:=es.nx+1+1+1+1) (off:=0) (v:=Bv) (by simp only [bR]) PG (by rfl) ⟨rfl,rfl⟩ (by simp) λpP NV qD=>?_)
       simp only [bR] at NV qD
       have PF:=(qD (es.nx+1+1+1+1+1) (by omega)).trans ((mC (es.nx+1+1+1+1+1) (by omega)).trans aP)
       simp only [Am,↓An,Il (n0:=Ng) (m:=5) PF (show es.nx+1+1+1+1+1<Ng by omega)]
       refine Ge rfl (Pt (id:=es.nx+1+1+1+1+1) (off:=0) (v:=iv 0) (by simp only [bR]) PF (by simp only [Di,bR];rfl) ⟨rfl,rfl⟩ (by simp) λlS qM cH=>?_)
       simp only [bR] at qM cH
       simp only [Am,↓An]
       have Hq:∀ q∈[iv 0],Nb 6 q q=true:=λq hq=>by rw [Bk.1 hq];rfl
       have hA:bF b x y=⟨b.dims,b.attrs,Ki (Hw b x y)⟩:=by unfold bF;rw [hE,Ah rfl]
       have hP:I2 b x y=[]:=by unfold I2;rw [hE,Ae (by decide)]
       refine ⟨nT (λj hj=>?_) (BU _ _ _),?_⟩
       .have hj:j=es.nx+1+1+1+1+1:=by simpa [DV.refs] using hj
        subst hj
        refine ⟨by omega,λq Zd=>?_⟩
        simp only [Ak,Ax,or_false] at Zd
        rcases Zd with rfl | rfl | rfl
        .exact .inl rfl
        .exact .inr (.inr (by rw [Ah rfl];exact Z2 ((mC _ (by omega)).trans aP) (qD _ (by omega)) Hq))
        .exact .inr (.inr (by rw [Ah rfl];exact Z2 aP (mC _ (by omega)) Hq))
       .have uO:∀ j,j<es.nx+1+1+1\/Tp<=j->lS.get j=aF.get j:=λj hj=>by rw [cH j (by omega),qD j (by omega),mC j (by omega),UK j hj]
        refine ⟨_,_,_,sE (by simp only [bR,bP]) ((cH _ (by omega)).trans ((qD _ (by omega)).trans NW)) rfl,I3 (by simp only [bR,bP]) ((cH _ (by omega)).trans NV),I3 (by simp only [bR,bP]) qM,?_⟩
        rw [<- hE]
        refine hK _ _ _ _ ⟨by omega,λj hj=>?_⟩ ?_ ?_
        .rw [uO j (.inl (by omega)),dE.same j (by omega),U9.same j hj]
        .rw [hA]
         have up:∀ j,Bw Tp Ng j->Bw es.nx (Ng+5) j:=λj hj=>⟨by have:=hj.1;omega,by have:=hj.2;omega⟩
         exact ⟨dd,da,Sb,rfl,(v1.keep (Ap:=lS) λj hj=>uO j (.inr hj.1)).mono up,(v2.keep (Ap:=lS) λj hj=>uO j (.inr hj.1)).mono up,(v3.keep (Ap:=lS) λj hj=>uO j (.inr hj.1)).mono up⟩
        .rw [hP];exact .nil
      .intro gG Tp q p pT cO V9 W1 W0 AG hX
       simp only [bR] at pT cO AG
       have hE:Rf b x y=19:=by unfold Rf;rw [Ae Sw,Ae (λh=>h.elim (λh=>by rw [show Vx b x=true from c4] at h;cases h) λh=>by rw [show Vx b y=true from c5] at h;cases h),Ae (by rw [show Hw b x y=Gc [b.cells,x.cells,y.cells] from rfl,hX];simp)]
       simp only [Am,↓An]
       have hA:bF b x y=jv:=by unfold bF;rw [hE,Ae (by decide)]
       have hP:I2 b x y=p:=by unfold I2;rw [hE,Ah rfl,show Rm (Hw b x y)=some p from hX];rfl
       refine ⟨_,_,_,sE (by simp only [bR,bP]) V9 rfl,I3 (by simp only [bR,bP]) W1,I3 (by simp only [bR,bP]) W0,?_⟩
       rw [<- hE]
       refine hK _ _ _ _ ⟨by omega,λj hj=>?_⟩ ?_ ?_
       .rw [cO j (by omega) (by omega) (by omega) (by omega) (by omega),oQ j (by omega),Lu.same j hj]
       .rw [hA];exact ⟨Bv,Bv,Bv,rfl,.nil,.nil,.nil⟩
       .rw [hP];exact AG.mono λj hj=>⟨by have:=hj.1;omega,hj.2⟩
   .simp only [Am,↓An,show decide (¬ Ff y=0)=true by simp [c3]]
    refine sJ (cs:=[Bv,Bv,Bv]) rfl ?_
    simp only [Am,↓An]
    refine Oi (n:=3) (id:=es.nx+1+1+1) (ds:=[Bv,Bv,Bv]) (by simp only [bR]) ((k9 _ (by omega)).trans q4) (by simp only [Di,bR];rfl) rfl rfl λhA Qk Tk=>?_
    simp only [bR] at Qk Tk
    simp only [Am,↓An]
    refine Pt (id:=es.nx+1+1+1+1) (off:=0) (v:=Bv) (by simp only [bR]) ((Tk _ (by omega)).trans ((k9 _ (by omega)).trans q5)) (by rfl) ⟨rfl,rfl⟩ (by simp) λhB Uo Qj=>?_
    simp only [bR] at Uo Qj
    simp only [Am,↓An]
    refine Pt (id:=es.nx+1+1+1+1+1) (off:=0) (v:=iv 2) (by simp only [bR]) ((Qj _ (by omega)).trans ((Tk _ (by omega)).trans ((k9 _ (by omega)).trans q6))) (by rfl) ⟨rfl,rfl⟩ (by simp) λhC cK Tj=>?_
    simp only [bR] at cK Tj
    simp only [Am,↓An]
    exact stop 2 (pW (.inr c3)) (by decide) (by decide) ⟨by have:=sW.le;exact this,λj hj=>by rw [Tj j (by omega),Qj j (by omega),Tk j (by omega),sW.same j hj]⟩ (by show es.nx+6<=Jl;omega) (by simp only [bR]) (by simp only [bR]) (by simp only [bR]) ((Tj _ (by omega)).trans ((Qj _ (by omega)).trans Qk)) ((Tj _ (by omega)).trans Uo) cK
  .simp only [Am,↓An,show decide (¬ Ff x=0)=true by simp [c2]]
   refine sJ (cs:=[Bv,Bv,Bv]) rfl ?_
   simp only [Am,↓An]
   refine Oi (n:=3) (id:=es.nx+1+1+1) (ds:=[Bv,Bv,Bv]) (by simp only [bR]) ((k8 _ (by omega)).trans q4) (by simp only [Di,bR];rfl) rfl rfl λhA Qk Tk=>?_
   simp only [bR] at Qk Tk
   simp only [Am,↓An]
   refine Pt (id:=es.nx+1+1+1+1) (off:=0) (v:=Bv) (by simp only [bR]) ((Tk _ (by omega)).trans ((k8 _ (by omega)).trans q5)) (by rfl) ⟨rfl,rfl⟩ (by simp) λhB Uo Qj=>?_
   simp only [bR] at Uo Qj
   simp only [Am,↓An]
   refine Pt (id:=es.nx+1+1+1+1+1) (off:=0) (v:=iv 2) (by simp only [bR]) ((Qj _ (by omega)).trans ((Tk _ (by omega)).trans ((k8 _ (by omega)).trans q6))) (by rfl) ⟨rfl,rfl⟩ (by simp) λhC cK Tj=>?_
   simp only [bR] at cK Tj
   simp only [Am,↓An]
   exact stop 2 (pW (.inl (.inr c2))) (by decide) (by decide) ⟨by have:=U8.le;exact this,λj hj=>by rw [Tj j (by omega),Qj j (by omega),Tk j (by omega),U8.same j hj]⟩ (by show es.nx+6<=Vj;omega) (by simp only [bR]) (by simp only [bR]) (by simp only [bR]) ((Tj _ (by omega)).trans ((Qj _ (by omega)).trans Qk)) ((Tj _ (by omega)).trans Uo) cK
 .simp only [Am,↓An,show decide (¬ Ff b=0)=true by simp [c1]]
  refine sJ (cs:=[Bv,Bv,Bv]) rfl ?_
  simp only [Am,↓An]
  refine Oi (n:=3) (id:=es.nx+1+1+1) (ds:=[Bv,Bv,Bv]) (by simp only [bR]) ((k7 _ (by omega)).trans q4) (by simp only [Di,bR];rfl) rfl rfl λhA Qk Tk=>?_
  simp only [bR] at Qk Tk
  simp only [Am,↓An]
  refine Pt (id:=es.nx+1+1+1+1) (off:=0) (v:=Bv) (by simp only [bR]) ((Tk _ (by omega)).trans ((k7 _ (by omega)).trans q5)) (by rfl) ⟨rfl,rfl⟩ (by simp) λhB Uo Qj=>?_
  simp only [bR] at Uo Qj
  simp only [Am,↓An]
  refine Pt (id:=es.nx+1+1+1+1+1) (off:=0) (v:=iv 2) (by simp only [bR]) ((Qj _ (by omega)).trans ((Tk _ (by omega)).trans ((k7 _ (by omega)).trans q6))) (by rfl) ⟨rfl,rfl⟩ (by simp) λhC cK Tj=>?_
  simp only [bR] at cK Tj
  simp only [Am,↓An]
  exact stop 2 (pW (.inl (.inl c1))) (by decide) (by decide) ⟨by have:=AV.le;exact this,λj hj=>by rw [Tj j (by omega),Qj j (by omega),Tk j (by omega),AV.same j hj]⟩ (by show es.nx+6<=nC;omega) (by simp only [bR]) (by simp only [bR]) (by simp only [bR]) ((Tj _ (by omega)).trans ((Qj _ (by omega)).trans Qk)) ((Tj _ (by omega)).trans Uo) cK
end
end Go.DD
